/- What each function of the program gives on the abstract machine, part 1 of 2. Conditions: those in front of each theorem. -/
import Derived.Test.YtcpmbhfnapijaaaGreatDoorMd
import Derived.Test.YtcpmbhfnapijaaaGreatDoorChecked
import Derived.KernelRfl

set_option linter.unusedVariables false
set_option linter.unusedSimpArgs false
namespace Go.Proofs.YtcpmbhfnapijaaaGreatDoor
open Go Go.Mv Go.Proofs
set_option maxRecDepth 100000
set_option maxHeartbeats 20000000

theorem SD : (∀ {p : Prop} [Decidable p], (decide p = true) = p) ∧ (∀ {p : Prop} {_ : Decidable p}, decide p = false ↔ ¬p) ∧ (∀ (b : Bool), ((!b) = true) = (b = false)) ∧ (∀ (b : Bool), ((!b) = false) = (b = true)) ∧ (∀ {α : Type} [BEq α] [LawfulBEq α] {a b : α}, (a != b) = true ↔ a ≠ b) ∧
    (∀ {α : Type} [BEq α] [LawfulBEq α] {a b : α}, (a == b) = true ↔ a = b) ∧ (∀ {α : Type} (a b : α), (a ≠ b) = ¬a = b) ∧ (!true) = false ∧ (!false) = true ∧ (∀ {α : Type} [BEq α] [LawfulBEq α] {a b : α}, (a == b) = false ↔ a ≠ b) ∧ (∀ {α : Type} [BEq α] [LawfulBEq α] {a b : α}, (a != b) = false ↔ a = b) ∧
    (∀ {p : Prop} [Decidable p], ¬¬p ↔ p) ∧ (∀ {a b : Int}, ¬a < b ↔ b ≤ a) ∧ (∀ {a b : Int}, ¬a ≤ b ↔ b < a) :=
  ⟨@decide_eq_true_eq, @decide_eq_false_iff_not, @Bool.not_eq_true', @Bool.not_eq_false', @bne_iff_ne, @beq_iff_eq, @ne_eq, @Bool.not_true, @Bool.not_false, @beq_eq_false_iff_ne, @bne_eq_false_iff_eq, @Decidable.not_not, @Int.not_lt, @Int.not_le⟩
theorem SG : ((∀ {p : Prop} [Decidable p], (decide p = true) = p) ∧ (∀ {p : Prop} {_ : Decidable p}, decide p = false ↔ ¬p) ∧ (∀ (b : Bool), ((!b) = true) = (b = false)) ∧ (∀ (b : Bool), ((!b) = false) = (b = true)) ∧ (∀ {α : Type} [BEq α] [LawfulBEq α] {a b : α}, (a != b) = true ↔ a ≠ b) ∧
    (∀ {α : Type} [BEq α] [LawfulBEq α] {a b : α}, (a == b) = true ↔ a = b) ∧ (∀ {α : Type} (a b : α), (a ≠ b) = ¬a = b) ∧ (!true) = false ∧ (!false) = true ∧ (∀ {α : Type} [BEq α] [LawfulBEq α] {a b : α}, (a == b) = false ↔ a ≠ b) ∧ (∀ {α : Type} [BEq α] [LawfulBEq α] {a b : α}, (a != b) = false ↔ a = b) ∧
    (∀ {p : Prop} [Decidable p], ¬¬p ↔ p) ∧ (∀ {a b : Int}, ¬a < b ↔ b ≤ a) ∧ (∀ {a b : Int}, ¬a ≤ b ↔ b < a)) ∧
    (∀ (a b : Bool), ((a && b) = true) = (a = true ∧ b = true)) ∧ (∀ {x y : Bool}, (x && y) = false ↔ x = false ∨ y = false) ∧ (∀ (a b : Bool), ((a || b) = true) = (a = true ∨ b = true)) ∧ (∀ {x y : Bool}, (x || y) = false ↔ x = false ∧ y = false) :=
  ⟨SD, @Bool.and_eq_true, @Bool.and_eq_false_iff, @Bool.or_eq_true, @Bool.or_eq_false_iff⟩
def c5i (keep : List Nat) (A : Asr) : List Mv.Loc → Asr → Option Asr
  | l :: ls, B => match keepLoc keep l, Mv.look A l with
    | true, some a => c5i keep A ls ((l, a) :: B)
    | _, _ => none
  | [], B => some B
theorem c4j {keep : List Nat} {A : Asr} : ∀ (ls : List Mv.Loc) {B C : Asr}, KeepL keep A B → c5i keep A ls B = some C → KeepL keep A C
  | [], B, C, h, e => by simp only [c5i, Option.some.injEq] at e; rw [← e]; exact h
  | l :: ls, B, C, h, e => by
    simp only [c5i] at e
    split at e
    · exact c4j ls (show KeepL keep A ((l, _) :: B) from ⟨by assumption, by assumption, h⟩) e
    · cases e
theorem kS (ts hs : List Nat) {keep : List Nat} {A B : Asr} (h : c5i keep A (ts.map .t ++ hs.map .h) [] = some B) : KeepL keep A B := c4j _ (show KeepL keep A [] from trivial) h
section
variable {cx : Cx} {keep : List Nat} {ops0 : Array Oper} {r : List Oper} {A : Asr} {Q : Asr → List Log → Prop}
variable {d ty : Nat} {pos : String} {aft : Array Edge}
theorem gT {op : Op} {dst : Option Nat} {g dg : Nat} {want b : Bool} (hd : (ops0[g]?).bind (·.dst) = some dg) (hb : Mv.look A (.t dg) = some (.val (.bool b)))
    (h : XR cx keep ops0 (⟨dst, op, ty, pos, aft, none⟩ :: r) A fun A' lg => Q A' (c4a (.t dg) lg)) (hw : b = want := by assumption) : XR cx keep ops0 (⟨dst, op, ty, pos, aft, some (g, want)⟩ :: r) A Q := E9 hd hb hw h
theorem gF {op : Op} {g dg : Nat} {want b : Bool} (hd : (ops0[g]?).bind (·.dst) = some dg) (hb : Mv.look A (.t dg) = some (.val (.bool b)))
    (h : XR cx keep ops0 r ((.t d, .val (.tuple #[])) :: A) fun A' lg => Q A' (([.t dg], [.t d]) :: lg)) (hw : b = !want := by assumption) : XR cx keep ops0 (⟨some d, op, ty, pos, aft, some (g, want)⟩ :: r) A Q := I9 hd hb hw h
theorem xN {B : Asr} {p : Asr → List Log → Prop} {R : Asr → Prop} (ts hs : List Nat) (h : c5i keep A (ts.map .t ++ hs.map .h) [] = some B) (q : R B) :
    XR cx keep ops0 [] A (fun A' lg => (false = true → p A' lg) ∧ ∃ B, KeepL keep A' B ∧ R B) := J9 ⟨nofun, B, kS ts hs h, q⟩
theorem xC {G : Type} {k : Nat} {args : Array Operand} {Ts : Array Nat} {vs av : List AV} {ids : List (Nat × Bool)} {wp wb : Ws} {lp lb li : List Mv.Loc} {res : AV} {outs : List (List AV)} {v : G → AV} {wi : G → Ws}
    (hv : opds A args.toList = some vs) (hp : a4j (CW cx) A (cx.md k) 0 vs av ids wp lp) (hC : CW cx k av = some (res, outs))
    (hr : (apartIds ids = true ∧ M1 ((W1 (cx.md k) 0 vs).map (·.1)) = true ∧ M1 ((cidAll (cx.md k) 0 av).map (·.1)) = true ∧ av.length ≤ 1000 ∧ a0a av = true) ∧
      (ids.all (fun x => x.2) = true ∨ (hasList res = false ∧ outs.any E3 = false)) ∧
      b4m (CW cx) (puts A wp) (W1 (cx.md k) 0 vs) outs wb lb ∧ a5p (CW cx) (puts (puts A wp) wb) d res v wi li ∧
      (∀ g, tRefsOk keep (keptWs keep (wp ++ (wb ++ (wi g ++ [(.t d, v g)])))) = true) ∧
      ∀ g, XR cx keep ops0 r (a3p A (wp ++ (wb ++ (wi g ++ [(.t d, v g)])))) fun A' lg => Q A' ((a5g args.toList ++ (lp ++ (lb ++ li)), a4v (wp ++ (wb ++ (wi g ++ [(.t d, v g)])))) :: lg)) :
    XR cx keep ops0 (⟨some d, .call ⟨.value (.func k), args, Ts⟩, ty, pos, aft, none⟩ :: r) A Q :=
  X1 hv hp hC hr.1 hr.2.1 hr.2.2.1 hr.2.2.2.1 hr.2.2.2.2.1 hr.2.2.2.2.2
theorem xC1 {k : Nat} {Ts : Array Nat} {x1 : Operand} {v1 res : AV} (hx : opds A [x1] = some [v1]) (p1 : Q4 v1 = true) (hC : CW cx k [v1] = some (res, []))
    (hb : W1 (cx.md k) 0 [v1] = [] ∧ M1 ((cidAll (cx.md k) 0 [v1]).map (·.1)) = true ∧ a0a [v1] = true) (hi : I8 res = true) (hk : tRefsOk keep (keptWs keep [(.t d, res)]) = true)
    (h : ∀ _ : Unit, XR cx keep ops0 r (a3p A [(.t d, res)]) fun A' lg => Q A' ((a5g [x1], [.t d]) :: lg)) : XR cx keep ops0 (⟨some d, .call ⟨.value (.func k), #[x1], Ts⟩, ty, pos, aft, none⟩ :: r) A Q :=
  X1 hx (A9 (B4 p1) C0) hC ⟨rfl, by rw [hb.1]; rfl, hb.2.1, by simp, hb.2.2⟩ (.inl rfl) (by rw [hb.1]; exact B3) (D5 hi) (fun _ => hk) (fun g => by have := h g; simpa [a4v] using this)
theorem xC2 {k : Nat} {Ts : Array Nat} {x1 x2 : Operand} {v1 v2 res : AV} (hx : opds A [x1, x2] = some [v1, v2]) (p1 : Q4 v1 = true) (p2 : Q4 v2 = true) (hC : CW cx k [v1, v2] = some (res, []))
    (hb : W1 (cx.md k) 0 [v1, v2] = [] ∧ M1 ((cidAll (cx.md k) 0 [v1, v2]).map (·.1)) = true ∧ a0a [v1, v2] = true) (hi : I8 res = true) (hk : tRefsOk keep (keptWs keep [(.t d, res)]) = true)
    (h : ∀ _ : Unit, XR cx keep ops0 r (a3p A [(.t d, res)]) fun A' lg => Q A' ((a5g [x1, x2], [.t d]) :: lg)) : XR cx keep ops0 (⟨some d, .call ⟨.value (.func k), #[x1, x2], Ts⟩, ty, pos, aft, none⟩ :: r) A Q :=
  X1 hx (A9 (B4 p1) (A9 (B4 p2) C0)) hC ⟨rfl, by rw [hb.1]; rfl, hb.2.1, by simp, hb.2.2⟩ (.inl rfl) (by rw [hb.1]; exact B3) (D5 hi) (fun _ => hk) (fun g => by have := h g; simpa [a4v] using this)
theorem xC3 {k : Nat} {Ts : Array Nat} {x1 x2 x3 : Operand} {v1 v2 v3 res : AV} (hx : opds A [x1, x2, x3] = some [v1, v2, v3]) (p1 : Q4 v1 = true) (p2 : Q4 v2 = true) (p3 : Q4 v3 = true) (hC : CW cx k [v1, v2, v3] = some (res, []))
    (hb : W1 (cx.md k) 0 [v1, v2, v3] = [] ∧ M1 ((cidAll (cx.md k) 0 [v1, v2, v3]).map (·.1)) = true ∧ a0a [v1, v2, v3] = true) (hi : I8 res = true) (hk : tRefsOk keep (keptWs keep [(.t d, res)]) = true)
    (h : ∀ _ : Unit, XR cx keep ops0 r (a3p A [(.t d, res)]) fun A' lg => Q A' ((a5g [x1, x2, x3], [.t d]) :: lg)) : XR cx keep ops0 (⟨some d, .call ⟨.value (.func k), #[x1, x2, x3], Ts⟩, ty, pos, aft, none⟩ :: r) A Q :=
  X1 hx (A9 (B4 p1) (A9 (B4 p2) (A9 (B4 p3) C0))) hC ⟨rfl, by rw [hb.1]; rfl, hb.2.1, by simp, hb.2.2⟩ (.inl rfl) (by rw [hb.1]; exact B3) (D5 hi) (fun _ => hk) (fun g => by have := h g; simpa [a4v] using this)
theorem xO {α : Type} {f : α → AV} {xs : List α} {x : Operand} {id g s n : Nat} (hx : opd A x = some (.sl id g none 0 n)) (ho : Mv.look A (.h id) = some (.obj g 0 s (xs.map f))) (hn : n = (xs.map f).length) (hne : Loc.beq (.h d) (.h id) = false) (hf : ∀ a, J0 (f a) = true)
    (hk : ∀ g, slotOk keep (.t d) (.sl d g none 0 n) = true) (h : ∀ g', XR cx keep ops0 r ((.t d, .sl d g' none 0 n) :: (.h d, .obj g' 0 s (xs.map f)) :: (.h id, .dead g) :: A) fun A' lg => Q A' ((rds x ++ [.h id, .h d], [.h id, .h d, .t d]) :: lg)) :
    XR cx keep ops0 (⟨some d, .assign x, ty, pos, aft, none⟩ :: r) A Q := I0 hx ho hn hne (fun _ => B7 (A7 hf)) hk h
theorem xB {T id g m s : Nat} {a x : Operand} {e v : AV} (ha : opd A a = some (.ptr id g none 0 0)) (hx : opd A x = some v) (ho : Mv.look A (.h id) = some (.obj g m s [e])) (hl : a9k (leaves e) v = true)
    (hc : decide (m ≠ 2 ∧ (leaves v).length = (tyS cx.P T).size ∧ 0 < (leaves v).length ∧ (leaves v).length ≤ (leaves e).length) = true) (hw : R5 (leaves v) (leaves e) = true) (hp : putAt e 0 v = v) (hm : decide (m = 3) = true) (hi : L1 [v] = true)
    (h : XR cx keep ops0 r ((.h id, .obj g m s [v]) :: A) fun A' lg => Q A' ((rds a ++ (rds x ++ [.h id, .h id, .h id]), [.h id]) :: lg)) : XR cx keep ops0 (⟨none, .store T a x, ty, pos, aft, none⟩ :: r) A Q := by
  obtain ⟨h1, h2, h3, h4⟩ := of_decide_eq_true hc
  exact b5x ha hx ho hl ⟨h1, h2, h3, h4, hw⟩ hp (by rw [of_decide_eq_true hm]; exact a5y hi) h
theorem xA {α : Type} {f : α → AV} {xs ys : List α} {T T' E s id g n id2 g2 n2 : Nat} {x y : Operand} {z : AV} (hx : opd A x = some (.sl id g none 0 n)) (hy : opd A y = some (.sl id2 g2 none 0 n2)) (ho : Mv.look A (.h id) = some (.obj g 0 s (xs.map f))) (ho2 : Mv.look A (.h id2) = some (.obj g2 0 s (ys.map f)))
    (hn : n = (xs.map f).length) (hn2 : n2 = (ys.map f).length) (hd : (decide (1000000 ≤ id2) && !Loc.beq (.h id) (.h id2)) = true) (hT : N3 cx.P T = some (E, s)) (hT' : L0 (tyS cx.P T').k = true) (hz : X5 cx.P E = some (z, s)) (hb : decide ((tyS cx.P E).bytes ≤ 4096) = true) (hf : ∀ a, ((leaves (f a)).all cellLeaf && J0 (f a)) = true)
    (hle : xs.length + ys.length ≤ 4294967296) (hk : ∀ g, slotOk keep (.t d) (.sl (tid d 0) g none 0 (xs ++ ys).length) = true)
    (h : ∀ g', XR cx keep ops0 r ((.t d, .sl (tid d 0) g' none 0 (xs ++ ys).length) :: (.h (tid d 0), .obj g' 0 s ((xs ++ ys).map f)) :: (.h id, .dead g) :: (.h id2, .dead g2) :: A) fun A' lg => Q A' ((rds x ++ (rds y ++ [.h id2, .h id, .h (tid d 0)]), [.h id2, .h id, .h (tid d 0), .t d]) :: lg)) :
    XR cx keep ops0 (⟨some d, .call ⟨.builtin .append, #[x, y], #[T, T']⟩, ty, pos, aft, none⟩ :: r) A Q := by
  simp only [Bool.and_eq_true, decide_eq_true_eq, Bool.not_eq_true'] at hd hf
  exact N2 hx hy ho ho2 hn hn2 hd.1 hd.2 hT hT' hz (of_decide_eq_true hb) hf (Nat.le_trans hle (by decide)) hk h
theorem y_M {x : Operand} {v : AV} (e : (opd A x, slotOk keep (.t d) v) = (some v, true)) (h : XR cx keep ops0 r ((.t d, v) :: A) fun A' lg => Q A' ((rds x, [.t d]) :: lg)) : XR cx keep ops0 (⟨some d, .move x, ty, pos, aft, none⟩ :: r) A Q := by
  simp only [Prod.mk.injEq] at e
  exact d2x e.1 e.2 h
theorem y_S {x : Operand} {v : AV} (e : (opd A x, a1d v, slotOk keep (.t d) v) = (some v, true, true)) (h : XR cx keep ops0 r ((.t d, v) :: A) fun A' lg => Q A' ((rds x, [.t d]) :: lg)) : XR cx keep ops0 (⟨some d, .assign x, ty, pos, aft, none⟩ :: r) A Q := by
  simp only [Prod.mk.injEq] at e
  exact c7e e.1 e.2.1 e.2.2 h
theorem y_F {x : Operand} {S f o ft : Nat} {v v' : AV} (e : (opd A x, (match (tyS cx.P S).k with | .struct fs => fs[f]? | _ => none), decide ((tyS cx.P ft).size ≠ 0), (match v with | .ptr id g p i j => some (AV.ptr id g p i (j + o)) | .ipt e j => some (.ipt e (j + o)) | _ => none), slotOk keep (.t d) v') = (some v, some (o, ft), true, some v', true)) (h : XR cx keep ops0 r ((.t d, v') :: A) fun A' lg => Q A' ((rds x, [.t d]) :: lg)) : XR cx keep ops0 (⟨some d, .fieldAddr S x f, ty, pos, aft, none⟩ :: r) A Q := by
  simp only [Prod.mk.injEq] at e
  refine b8z e.1 e.2.1 (of_decide_eq_true e.2.2.1) ?_ e.2.2.2.2 h
  have e4 := e.2.2.2.1
  cases v <;> exact e4
theorem y_L {a : Operand} {T id g m s i j : Nat} {es : List AV} {e0 v : AV} (e : (opd A a, Mv.look A (.h id), es[i]?, ((leaves e0).all fun l => !isOwn l), partF cx.P T ((leaves e0).drop j), slotOk keep (.t d) v) = (some (.ptr id g none i j), some (.obj g m s es), some e0, true, some v, true)) (h : XR cx keep ops0 r ((.t d, v) :: A) fun A' lg => Q A' ((rds a ++ [.h id], [.t d]) :: lg)) : XR cx keep ops0 (⟨some d, .load T a, ty, pos, aft, none⟩ :: r) A Q := by
  simp only [Prod.mk.injEq] at e
  exact a3a e.1 e.2.1 e.2.2.1 e.2.2.2.1 e.2.2.2.2.1 e.2.2.2.2.2 h
theorem y_E {x : Operand} {i : Nat} {vs : List AV} {v : AV} (e : (opd A x, vs[i]?, slotOk keep (.t d) v) = (some (.tup vs), some v, true)) (h : XR cx keep ops0 r ((.t d, v) :: A) fun A' lg => Q A' ((rds x, [.t d]) :: lg)) : XR cx keep ops0 (⟨some d, .extract x i, ty, pos, aft, none⟩ :: r) A Q := by
  simp only [Prod.mk.injEq] at e
  exact c5m e.1 e.2.1 e.2.2 h
theorem y_B {a : Operand} {T id g m s : Nat} {v : AV} (e : (opd A a, Mv.look A (.h id), ((leaves v).all fun l => !isOwn l), partF cx.P T (leaves v), slotOk keep (.t d) v) = (some (.ptr id g none 0 0), some (.obj g m s [v]), true, some v, true)) (h : XR cx keep ops0 r ((.t d, v) :: A) fun A' lg => Q A' ((rds a ++ [.h id], [.t d]) :: lg)) : XR cx keep ops0 (⟨some d, .load T a, ty, pos, aft, none⟩ :: r) A Q := by
  simp only [Prod.mk.injEq] at e
  exact b9c e.1 e.2.1 e.2.2.1 e.2.2.2.1 e.2.2.2.2 h
theorem y_I {a : Operand} {T : Nat} {v : AV} (e : (opd A a, partF cx.P T (leaves v), slotOk keep (.t d) v) = (some (.ipt v 0), some v, true)) (h : XR cx keep ops0 r ((.t d, v) :: A) fun A' lg => Q A' ((rds a, [.t d]) :: lg)) : XR cx keep ops0 (⟨some d, .load T a, ty, pos, aft, none⟩ :: r) A Q := by
  simp only [Prod.mk.injEq] at e
  exact b7z e.1 e.2.1 e.2.2 h
theorem y_A {T s : Nat} {z : AV} (e : (X5 cx.P T, L1 [z], slotOk keep (.t d) (.ptr d 0 none 0 0)) = (some (z, s), true, true)) (hk : ∀ g, slotOk keep (.t d) (.ptr d g none 0 0) = true)
    (h : ∀ g, XR cx keep ops0 r ((.t d, .ptr d g none 0 0) :: (.h d, .obj g 3 s [z]) :: A) fun A' lg => Q A' (([.h d], [.h d, .t d]) :: lg)) : XR cx keep ops0 (⟨some d, .alloc T, ty, pos, aft, none⟩ :: r) A Q := by
  simp only [Prod.mk.injEq] at e
  exact d1d e.1 (fun _ => a5y e.2.1) hk h
end
theorem SL : (∀ {α β : Type} {av : List α} (f : α → β), (av.map f).length = av.length) ∧ (((∀ {p : Prop} [Decidable p], (decide p = true) = p) ∧ (∀ {p : Prop} {_ : Decidable p}, decide p = false ↔ ¬p) ∧ (∀ (b : Bool), ((!b) = true) = (b = false)) ∧ (∀ (b : Bool), ((!b) = false) = (b = true)) ∧ (∀ {α : Type} [BEq α] [LawfulBEq α] {a b : α}, (a != b) = true ↔ a ≠ b) ∧
    (∀ {α : Type} [BEq α] [LawfulBEq α] {a b : α}, (a == b) = true ↔ a = b) ∧ (∀ {α : Type} (a b : α), (a ≠ b) = ¬a = b) ∧ (!true) = false ∧ (!false) = true ∧ (∀ {α : Type} [BEq α] [LawfulBEq α] {a b : α}, (a == b) = false ↔ a ≠ b) ∧ (∀ {α : Type} [BEq α] [LawfulBEq α] {a b : α}, (a != b) = false ↔ a = b) ∧
    (∀ {p : Prop} [Decidable p], ¬¬p ↔ p) ∧ (∀ {a b : Int}, ¬a < b ↔ b ≤ a) ∧ (∀ {a b : Int}, ¬a ≤ b ↔ b < a)) ∧
    (∀ (a b : Bool), ((a && b) = true) = (a = true ∧ b = true)) ∧ (∀ {x y : Bool}, (x && y) = false ↔ x = false ∨ y = false) ∧ (∀ (a b : Bool), ((a || b) = true) = (a = true ∨ b = true)) ∧ (∀ {x y : Bool}, (x || y) = false ↔ x = false ∧ y = false)) := ⟨@List.length_map.{0, 0}, SG⟩
theorem LN : (∀ {α : Type}, ([] : List α).length = 0) ∧ (∀ {α : Type} {a : α} {l : List α}, (a :: l).length = l.length + 1) ∧ (∀ {α : Type} {a b : List α}, (a ++ b).length = a.length + b.length) ∧ (∀ n : Nat, 0 + n = n) ∧ (∀ {α β : Type} {l : List α} (f : α → β), (l.map f).length = l.length) := ⟨rfl, rfl, List.length_append, Nat.zero_add, List.length_map.{0, 0}⟩
theorem dT {p : Prop} [Decidable p] (h : decide p = true) : p := of_decide_eq_true h

def mdT : List (Nat × List Nat) := [(23, [3, 3, 3, 3]), (25, [2]), (41, [2]), (42, [1]), (45, [3, 3, 3, 3]), (48, [1]), (54, [3, 3, 3, 3]), (55, [3, 3, 3, 3]), (56, [3, 3, 3, 3]), (57, [3, 3, 3, 3]), (60, [3, 3, 3, 3]), (67, [2]), (70, [0, 2]), (71, [2]), (75, [0, 2]), (79, [3, 3, 3, 3]), (82, [3, 3, 3, 3]), (89, [3, 3, 3, 3]), (91, [3, 3, 3, 3]), (92, [3, 3, 3, 3]), (93, [3, 3, 3, 3]), (94, [3, 3, 3, 3]), (95, [3, 3, 3, 3]), (96, [3, 3, 3, 3]), (97, [3, 3, 3, 3]), (102, [3, 3, 3, 3]), (107, [1]), (108, [1]), (112, [2]), (118, [3, 3, 3, 3]), (123, [3, 3, 3, 3]), (131, [3, 3, 3, 3]), (133, [3, 3, 3, 3])]
noncomputable def d2w : List (Nat × (List AV → Option (AV × List (List AV)))) := [(106, a5x), (107, b0g), (121, b1w), (122, b5y), (136, b7u), (137, b7e), (138, b6t), (165, b0e)]
variable {oG : Option Nat} {rG : Nat}
noncomputable def cxT (oG : Option Nat) : Cx := { P := Tryz.prog, md := d3x mdT, ext := c3q d2w, it := fun _ => none, fz := fun k => [57, 60, 82, 89, 97, 102, 118, 123, 131, 133].contains k, fzB := fun T d => [(69, 58), (34, 98), (23, 57), (23, 26), (23, 47), (23, 67), (23, 103)].contains (T, d), gl := fun g => match oG with | some r => if g = 0 then some (.val (.map (some r))) else none | none => none, mp := fun k => match oG with | some r => if k = r then some d2n else none | none => none }
noncomputable def cxE : Cx := { P := Tryz.prog, md := d3x mdT, ext := fun _ => none, fz := fun k => [57, 60, 82, 89, 97, 102, 118, 123, 131, 133].contains k }
theorem c4k (xs : List Int) (hl : xs.length ≤ H3) : CW (cxT oG) 106 [.list (xs.map iV)] = some (.own 1 (xs.map iV), []) := a2o (cxT oG) rfl (by simp [a5x, c3r, hl])
theorem d3p (xs : List Int) (hl : xs.length ≤ H3) : CW (cxT oG) 107 [.own 1 (xs.map iV)] = some (.tup [], [(Q7 xs).map iV]) := a2o (cxT oG) rfl (by simp [b0g, c3r, hl])
theorem d0p (l : List UInt8) (b : UInt8) (hl : l.length < 4294967281) : CW (cxT oG) 121 [tV l, tV [b]] = some (.own 1 ((splitB b l).map tV), []) := a2o (cxT oG) rfl (by show (if l.length < 4294967281 then some ((AV.own 1 ((splitB b l).map tV), []) : AV × List (List AV)) else none) = _; rw [if_pos hl])
theorem d3o (ps : List (List UInt8)) (b : UInt8) (h1 : ps.length ≤ H3) (h2 : (joinB b ps).length ≤ H3) : CW (cxT oG) 122 [.list (ps.map tV), tV [b]] = some (tV (joinB b ps), []) := a2o (cxT oG) rfl (by show ((unT (ps.map tV)).bind fun ps => if ps.length ≤ H3 ∧ (joinB b ps).length ≤ H3 then some ((tV (joinB b ps), []) : AV × List (List AV)) else none) = _; rw [d1s, Option.bind_some, if_pos ⟨h1, h2⟩])
theorem d2j (l : List UInt8) (b : UInt8) : CW (cxT oG) 136 [tV l, tV [b]] = some (.tup [tV (a2l b l), bV (decide (l.head? = some b))], []) := a2o (cxT oG) rfl rfl
theorem d3i (l : List UInt8) (b : UInt8) (hl : l.length < 4294967281) : CW (cxT oG) 137 [tV l, tV [b]] = some (.tup [tV (b3v b l), bV (decide (l.getLast? = some b))], []) := a2o (cxT oG) rfl (by show (if l.length < 4294967281 then some ((AV.tup [tV (b3v b l), bV (decide (l.getLast? = some b))], []) : AV × List (List AV)) else none) = _; rw [if_pos hl])
theorem c2q (l : List UInt8) (hl : l.length < 4294967281) : CW (cxT oG) 138 [tV l] = some (atR l, []) := a2o (cxT oG) rfl (by show (if l.length < 4294967281 then some ((atR l, []) : AV × List (List AV)) else none) = _; rw [if_pos hl])
theorem d3f (n : Int) (h : -9223372036854775808 ≤ n ∧ n ≤ 9223372036854775807) : CW (cxT oG) 165 [iV n] = some (tV (dec n), []) := a2o (cxT oG) rfl (by simp [b0e, h])

theorem b1m : E7 Tryz.f135 = [0, 1, 2, 6] := by kernel_rfl
theorem b5g (n lo hi : Int) : CW (cxT oG) 135 [iV n, iV lo, iV hi] = some (bV (decide (lo ≤ n) && decide (n ≤ hi)), []) := by
 refine E5 rfl Tryz.func135 rfl ⟨by kernel_rfl, rfl, dT rfl, dT rfl, by decide⟩ b1m <| A3 <| A0 <| y_S rfl <| xN [0,1,2] [] rfl <| A3 <| A0 <| y_M rfl <| y_M rfl <| a4n rfl rfl <| y_M rfl ?_
 refine C8 rfl rfl ?_ ?_ <;> intro hg0 <;> have hg := hg0 <;> try simp only [SG] at hg
 ·refine y_M rfl <| gT rfl rfl <| y_M rfl <| gT rfl rfl <| a4n rfl rfl <| F7 rfl (by assumption) rfl rfl <| y_S rfl <| xN [6] [] rfl <| B0 <| B5 rfl rfl trivial ?_
  simp_all [ofConst]; try omega
 refine gF rfl rfl <| gF rfl rfl <| F0 rfl (by assumption) rfl rfl <| y_S rfl <| xN [6] [] rfl <| B0 <| B5 rfl rfl trivial ?_
 simp_all [ofConst]; try omega

theorem c5n : E7 Tryz.f114 = [0, 1, 2, 6] := by kernel_rfl
theorem d4i (n lo hi : Int) : CW (cxT oG) 114 [iV n, iV lo, iV hi] = some (bV (decide (lo ≤ n) && decide (n ≤ hi)), []) := by
 refine E5 rfl Tryz.func114 rfl ⟨by kernel_rfl, rfl, dT rfl, dT rfl, by decide⟩ c5n <| A3 <| A0 <| y_S rfl <| xN [0,1,2] [] rfl <| A3 <| A0 <| y_M rfl <| y_M rfl <| b8o rfl rfl <| y_M rfl ?_
 refine C8 rfl rfl ?_ ?_ <;> intro hg0 <;> have hg := hg0 <;> try simp only [SG] at hg
 ·refine y_M rfl <| gT rfl rfl <| y_M rfl <| gT rfl rfl <| a4n rfl rfl <| F7 rfl (by assumption) rfl rfl <| y_S rfl <| xN [6] [] rfl <| B0 <| B5 rfl rfl trivial ?_
  simp_all [ofConst]; try omega
 refine gF rfl rfl <| gF rfl rfl <| F0 rfl (by assumption) rfl rfl <| y_S rfl <| xN [6] [] rfl <| B0 <| B5 rfl rfl trivial ?_
 simp_all [ofConst]; try omega

theorem a6d : E7 Tryz.f164 = [0, 1, 4, 8, 7, 9, 5, 16] := by kernel_rfl
theorem b6v (xs : List Int) (hl : xs.length ≤ 1000) (k : Nat) (a b : AV) (q : Int → Bool) (hq : ∀ x, CW (cxT oG) k [iV x, .ipt a 0, .ipt b 0] = some (bV (q x), [])) : ∃ res outs, (fun res outs => ∃ r : Int, res = iV r ∧ outs = [] ∧ decide (0 ≤ r) = xs.any q) res outs ∧ CW (cxT oG) 164 [L xs, .clo k [.ipt a 0, .ipt b 0]] = some (res, outs) := by
 refine P6 rfl Tryz.func164 rfl ⟨by kernel_rfl, rfl, dT rfl, dT rfl, by decide⟩ a6d <| A3 <| A0 <| y_S rfl <| xN [0,1] [] rfl <| A3 <| A3 <| A0 <| y_M rfl <| B9 rfl rfl <| y_M rfl <| xN [0,1,7,8] [] rfl <| B2 <| E4 (β := Nat) [(.t 0, _), (.t 1, _), (.t 7, _)] (fun (i : Nat) => [(.t 8, iV i)]) (fun (i : Nat) => i ≤ xs.length ∧ ∀ j, j < i → q (xs.getD j default) = false) (fun (i : Nat) => xs.length - i) 0 ⟨rfl, rfl, rfl, rfl, trivial⟩ ⟨Nat.zero_le _, fun j h => by omega⟩ ?_
 intro i hb
 obtain ⟨hi1, hi2⟩ := hb
 refine A3 <| A0 <| F8 rfl rfl <| xN [0,1,7,8,9] [] rfl <| A3 ?_
 refine A5 rfl ?_ ?_ <;> intro hc <;> try simp only [SL] at hc
 ·refine A6 <| A3 <| B2 <| A3 <| A0 <| y_M rfl <| y_S rfl <| xN [0,1,5,7,8] [] rfl <| A3 <| A0 <| y_M rfl <| y_M rfl <| y_M rfl <| B1 rfl rfl rfl (fun _ => rfl) (by omega) <| y_I rfl ?_
  apply c4f rfl rfl
  ·apply A9
   ·exact B4 rfl
   apply A9
   ·exact B4 rfl
   apply A9
   ·exact B4 rfl
   exact C0
  ·exact hq (xs.getD i default)
  ·exact ⟨rfl, rfl, rfl, dT rfl, rfl⟩
  ·exact .inl rfl
  ·exact B3
  ·exact D5 rfl
  ·exact fun _ => rfl
  intro g16
  refine xN [0,1,5,7,8,16] [] rfl ?_
  refine A5 rfl ?_ ?_ <;> intro hc <;> try simp only [SL] at hc
  ·refine A3 <| A0 <| y_M rfl <| y_S rfl <| xN [4] [] rfl <| B0 ?_
   refine ⟨_, _, ?_, M3 rfl rfl B8⟩
   exact ⟨_, rfl, rfl, d1t (by omega) hc⟩
  refine A6 <| A0 <| F3 rfl rfl (C2 (by omega)) <| y_M rfl <| xN [0,1,7,8] [] rfl ?_
  refine ⟨i + 1, ⟨by omega, fun a ha => by rcases Nat.lt_succ_iff_lt_or_eq.1 ha with h | h; exact hi2 a h; subst h; exact hc⟩, (by omega), ⟨rfl, rfl, rfl, rfl, trivial⟩⟩
 refine E6 <| A3 <| A0 <| y_S rfl <| xN [4] [] rfl <| B0 ?_
 refine ⟨_, _, ?_, M3 rfl rfl B8⟩
 exact ⟨-1, rfl, rfl, c8d fun j hj => hi2 j (by omega)⟩

theorem a3t : E7 Tryz.f141 = [0, 1, 4] := by kernel_rfl
theorem a9n (xs : List Int) (hl : xs.length ≤ 1000) (k : Nat) (a b : AV) (q : Int → Bool) (hq : ∀ x, CW (cxT oG) k [iV x, .ipt a 0, .ipt b 0] = some (bV (q x), [])) : CW (cxT oG) 141 [L xs, .clo k [.ipt a 0, .ipt b 0]] = some (bV (xs.any q), []) := by
 obtain ⟨_, _, ⟨r, rfl, rfl, hr⟩, hC⟩ := b6v (oG := oG) xs hl k a b q hq
 refine E5 rfl Tryz.func141 rfl ⟨by kernel_rfl, rfl, dT rfl, dT rfl, by decide⟩ a3t <| A3 <| A0 <| y_S rfl <| xN [0,1] [] rfl <| A3 <| A0 <| y_M rfl <| y_M rfl ?_
 apply xC rfl
 ·apply A9
  ·exact B4 rfl
  apply A9
  ·exact c8r rfl (c8l (c8l c7x))
  exact C0
 ·exact hC
 refine ⟨⟨rfl, rfl, rfl, dT rfl, rfl⟩, .inl rfl, B3, D5 rfl, fun _ => rfl, fun g7 => ?_⟩
 refine b8o rfl rfl <| y_S rfl <| xN [4] [] rfl <| B0 <| B5 rfl rfl trivial ?_
 rw [← hr]

theorem b3f : E7 Tryz.f142 = [0, 1, 2, 4] := by kernel_rfl
theorem c9s (x lo hi : Int) : CW (cxT oG) 142 [iV x, .ipt (iV lo) 0, .ipt (iV hi) 0] = some (bV (!(decide (lo ≤ x) && decide (x ≤ hi))), []) := by
 refine E5 rfl Tryz.func142 rfl ⟨by kernel_rfl, rfl, dT rfl, dT rfl, by decide⟩ b3f <| A3 <| A0 <| y_S rfl <| xN [0,1,2] [] rfl <| A3 <| A0 <| y_M rfl <| y_I rfl <| y_I rfl ?_
 refine xC3 rfl rfl rfl rfl (d4i _ _ _) ⟨rfl, rfl, rfl⟩ rfl rfl fun g8 => ?_
 refine K7 rfl <| y_S rfl <| xN [4] [] rfl <| B0 <| B5 rfl rfl trivial ?_
 rfl

theorem b6y : E7 Tryz.f111 = [0, 1, 2, 6, 4, 5] := by kernel_rfl
theorem c3y (xs : List Int) (hl : xs.length ≤ 1000) (lo hi : Int) : CW (cxT oG) 111 [L xs, iV lo, iV hi] = some (bV (a7z lo hi xs), []) := by
 refine E5 rfl Tryz.func111 rfl ⟨by kernel_rfl, rfl, dT rfl, dT rfl, by decide⟩ b6y <| A3 <| A0 <| d2e rfl rfl rfl (fun _ => a5y rfl) (fun _ => rfl) ?_
 intro g4
 refine d2e rfl rfl rfl (fun _ => a5y rfl) (fun _ => rfl) ?_
 intro g5
 refine y_S rfl <| xN [0,4,5] [4,5] rfl <| A3 <| A0 <| y_M rfl <| c2c rfl rfl ?_
 apply xC rfl
 ·apply A9
  ·exact B4 rfl
  apply A9
  ·exact c8r rfl (c9e rfl rfl (c9e rfl rfl c7x))
  exact C0
 ·exact a9n xs hl 142 (iV lo) (iV hi) _ (fun x => c9s x lo hi)
 refine ⟨⟨rfl, rfl, rfl, dT rfl, rfl⟩, .inr ⟨rfl, rfl⟩, B3, D5 rfl, fun _ => rfl, fun g9 => ?_⟩
 refine K7 rfl <| y_S rfl <| xN [6] [] rfl <| B0 <| B5 rfl rfl trivial ?_
 exact congrArg bV (c9b lo hi xs)

theorem a6r : E7 Tryz.f103 = [0, 2, 3, 7, 15] := by kernel_rfl
theorem a9c (xs : List Int) (hl : xs.length ≤ 1048576) : CW (cxT oG) 103 [L xs] = some (bV (vd xs), []) := by
 refine E5 rfl Tryz.func103 rfl ⟨by kernel_rfl, rfl, dT rfl, dT rfl, by decide⟩ a6r <| A3 <| A0 <| y_S rfl <| xN [0] [] rfl <| A3 <| A3 <| A0 <| y_S rfl <| xN [0,3] [] rfl <| B2 <| E4 (β := Nat) [(.t 0, _)] (fun (i : Nat) => [(.t 3, iV i)]) (fun (i : Nat) => i ≤ xs.length ∧ ∀ j, j < i → -200 ≤ xs.getD j default ∧ xs.getD j default ≤ 200) (fun (i : Nat) => xs.length - i) 0 ⟨rfl, rfl, trivial⟩ ⟨Nat.zero_le _, fun j h => by omega⟩ ?_
 intro i hb
 obtain ⟨hi1, hi2⟩ := hb
 refine A3 <| A3 <| A0 <| y_M rfl <| y_M rfl <| B9 rfl rfl <| F8 rfl rfl <| xN [0,3,7] [] rfl ?_
 refine A5 rfl ?_ ?_ <;> intro hc <;> try simp only [SL] at hc
 ·refine A6 <| A3 <| B2 <| A3 <| A0 <| y_M rfl <| y_M rfl <| B1 rfl rfl rfl (fun _ => rfl) (by omega) <| y_I rfl ?_
  refine xC3 rfl rfl rfl rfl (b5g _ _ _) ⟨rfl, rfl, rfl⟩ rfl rfl fun g14 => ?_
  refine K7 rfl <| xN [0,3,15] [] rfl ?_
  refine A5 rfl ?_ ?_ <;> intro hc <;> try simp only [SL] at hc
  ·refine A3 <| A0 <| y_S rfl <| xN [2] [] rfl <| B0 <| B5 rfl rfl trivial ?_
   rw [vd, b7x (show i < xs.length by omega) (by (simp_all; omega)), Bool.and_false]
   rfl
  refine A6 <| A0 <| y_M rfl <| F3 rfl rfl (C2 (by omega)) <| y_S rfl <| xN [0,3] [] rfl ?_
  refine ⟨i + 1, ⟨by omega, fun j hj => by rcases Nat.lt_succ_iff_lt_or_eq.1 hj with h | h; (· exact hi2 j h); (· subst h; assumption)⟩, (by omega), ⟨rfl, rfl, trivial⟩⟩
 refine E6 <| A3 <| A0 <| y_M rfl <| B9 rfl rfl <| a4n rfl rfl <| y_S rfl <| xN [2] [] rfl <| B0 <| B5 rfl rfl trivial ?_
 rw [vd, c3s fun j hj => hi2 j (by omega), Bool.and_true]
 exact congrArg bV (decide_eq_decide.2 (by omega))

theorem a5z : E7 Tryz.f100 = [0, 2] := by kernel_rfl
theorem a1p (xs : List Int) (hl : xs.length ≤ 1048576) : CW (cxT oG) 100 [L xs] = some (bV (vd xs), []) := by
 refine E5 rfl Tryz.func100 rfl ⟨by kernel_rfl, rfl, dT rfl, dT rfl, by decide⟩ a5z <| A3 <| A0 <| y_S rfl <| xN [0] [] rfl <| A3 <| A0 <| y_M rfl <| B9 rfl rfl <| a4n rfl rfl <| y_M rfl ?_
 refine C8 rfl rfl ?_ ?_ <;> intro hg0 <;> have hg := hg0 <;> try simp only [SG] at hg
 ·refine y_M rfl <| gT rfl rfl ?_
  refine xC3 rfl rfl rfl rfl (c3y xs (by omega) (-200) 200) ⟨rfl, rfl, rfl⟩ rfl rfl fun g8 => ?_
  refine F7 rfl (by assumption) rfl rfl <| y_S rfl <| xN [2] [] rfl <| B0 <| B5 rfl rfl trivial ?_
  cases hb : a7z (-200) 200 xs <;> simp_all [vd, ofConst] <;> omega
 refine gF rfl rfl <| F0 rfl (by assumption) rfl rfl <| y_S rfl <| xN [2] [] rfl <| B0 <| B5 rfl rfl trivial ?_
 cases hb : a7z (-200) 200 xs <;> simp_all [vd, ofConst] <;> omega

theorem b7f : E7 Tryz.f64 = [0, 2, 3, 4, 10, 19] := by kernel_rfl
theorem a3z (w : ByteArray) : CW (cxT oG) 64 [sV w] = some (iV (nd w), []) := by
 refine E5 rfl Tryz.func64 rfl ⟨by kernel_rfl, rfl, dT rfl, dT rfl, by decide⟩ b7f <| A3 <| A0 <| y_S rfl <| xN [0] [] rfl <| A3 <| A3 <| A0 <| y_M rfl <| xN [3] [] rfl <| B2 <| A3 <| A3 <| A0 <| H0 rfl rfl <| y_S rfl <| xN [3,4] [] rfl ?_
 refine A5 rfl ?_ ?_ <;> intro hc <;> try simp only [SL] at hc
 ·refine A6 ?_
  refine A5 rfl (fun hc => ?_) (fun hc => absurd hc (by simp_all))
  refine A3 <| A0 <| y_S rfl <| xN [2] [] rfl <| B0 <| B5 rfl rfl trivial <| congrArg iV ?_
  simp_all [nd]
 refine A3 <| A0 <| H0 rfl rfl <| y_S rfl <| xN [3,4] [] rfl ?_
 refine A5 rfl ?_ ?_ <;> intro hc <;> try simp only [SL] at hc
 ·refine A6 ?_
  refine A5 rfl (fun hc => ?_) (fun hc => absurd hc (by simp_all))
  refine A3 <| A0 <| y_S rfl <| xN [2] [] rfl <| B0 <| B5 rfl rfl trivial <| congrArg iV ?_
  simp_all [nd]
 refine A3 <| A0 <| H0 rfl rfl <| y_S rfl <| xN [3,4] [] rfl ?_
 refine A5 rfl ?_ ?_ <;> intro hc <;> try simp only [SL] at hc
 ·refine A6 ?_
  refine A5 rfl (fun hc => ?_) (fun hc => absurd hc (by simp_all))
  refine A3 <| A0 <| y_S rfl <| xN [2] [] rfl <| B0 <| B5 rfl rfl trivial <| congrArg iV ?_
  simp_all [nd]
 refine A3 <| A0 <| H0 rfl rfl <| y_S rfl <| xN [3,4] [] rfl ?_
 refine A5 rfl ?_ ?_ <;> intro hc <;> try simp only [SL] at hc
 ·refine A6 ?_
  refine A5 rfl (fun hc => ?_) (fun hc => absurd hc (by simp_all))
  refine A3 <| A0 <| y_S rfl <| xN [2] [] rfl <| B0 <| B5 rfl rfl trivial <| congrArg iV ?_
  simp_all [nd]
 refine A0 <| H0 rfl rfl <| y_S rfl <| xN [3,4] [] rfl ?_
 refine A5 rfl ?_ ?_ <;> intro hc <;> try simp only [SL] at hc
 ·refine A3 <| A0 <| y_S rfl <| xN [2] [] rfl <| B0 <| B5 rfl rfl trivial <| congrArg iV ?_
  simp_all [nd]
 refine A3 <| A3 <| A0 <| H0 rfl rfl <| y_S rfl <| xN [3,10] [] rfl ?_
 refine A5 rfl ?_ ?_ <;> intro hc <;> try simp only [SL] at hc
 ·refine A6 ?_
  refine A5 rfl (fun hc => ?_) (fun hc => absurd hc (by simp_all))
  refine A3 <| A0 <| y_S rfl <| xN [2] [] rfl <| B0 <| B5 rfl rfl trivial <| congrArg iV ?_
  simp_all [nd]
 refine A3 <| A0 <| H0 rfl rfl <| y_S rfl <| xN [3,10] [] rfl ?_
 refine A5 rfl ?_ ?_ <;> intro hc <;> try simp only [SL] at hc
 ·refine A6 ?_
  refine A5 rfl (fun hc => ?_) (fun hc => absurd hc (by simp_all))
  refine A3 <| A0 <| y_S rfl <| xN [2] [] rfl <| B0 <| B5 rfl rfl trivial <| congrArg iV ?_
  simp_all [nd]
 refine A3 <| A0 <| H0 rfl rfl <| y_S rfl <| xN [3,10] [] rfl ?_
 refine A5 rfl ?_ ?_ <;> intro hc <;> try simp only [SL] at hc
 ·refine A6 ?_
  refine A5 rfl (fun hc => ?_) (fun hc => absurd hc (by simp_all))
  refine A3 <| A0 <| y_S rfl <| xN [2] [] rfl <| B0 <| B5 rfl rfl trivial <| congrArg iV ?_
  simp_all [nd]
 refine A3 <| A0 <| H0 rfl rfl <| y_S rfl <| xN [3,10] [] rfl ?_
 refine A5 rfl ?_ ?_ <;> intro hc <;> try simp only [SL] at hc
 ·refine A6 ?_
  refine A5 rfl (fun hc => ?_) (fun hc => absurd hc (by simp_all))
  refine A3 <| A0 <| y_S rfl <| xN [2] [] rfl <| B0 <| B5 rfl rfl trivial <| congrArg iV ?_
  simp_all [nd]
 refine A3 <| A0 <| H0 rfl rfl <| y_S rfl <| xN [3,10] [] rfl ?_
 refine A5 rfl ?_ ?_ <;> intro hc <;> try simp only [SL] at hc
 ·refine A6 ?_
  refine A5 rfl (fun hc => ?_) (fun hc => absurd hc (by simp_all))
  refine A3 <| A0 <| y_S rfl <| xN [2] [] rfl <| B0 <| B5 rfl rfl trivial <| congrArg iV ?_
  simp_all [nd]
 refine A3 <| A0 <| H0 rfl rfl <| y_S rfl <| xN [3,10] [] rfl ?_
 refine A5 rfl ?_ ?_ <;> intro hc <;> try simp only [SL] at hc
 ·refine A6 ?_
  refine A5 rfl (fun hc => ?_) (fun hc => absurd hc (by simp_all))
  refine A3 <| A0 <| y_S rfl <| xN [2] [] rfl <| B0 <| B5 rfl rfl trivial <| congrArg iV ?_
  simp_all [nd]
 refine A3 <| A0 <| H0 rfl rfl <| y_S rfl <| xN [3,10] [] rfl ?_
 refine A5 rfl ?_ ?_ <;> intro hc <;> try simp only [SL] at hc
 ·refine A6 ?_
  refine A5 rfl (fun hc => ?_) (fun hc => absurd hc (by simp_all))
  refine A3 <| A0 <| y_S rfl <| xN [2] [] rfl <| B0 <| B5 rfl rfl trivial <| congrArg iV ?_
  simp_all [nd]
 refine A0 <| H0 rfl rfl <| y_S rfl <| xN [3,10] [] rfl ?_
 refine A5 rfl ?_ ?_ <;> intro hc <;> try simp only [SL] at hc
 ·refine A3 <| A0 <| y_S rfl <| xN [2] [] rfl <| B0 <| B5 rfl rfl trivial <| congrArg iV ?_
  simp_all [nd]
 refine A3 <| A3 <| A0 <| H0 rfl rfl <| y_S rfl <| xN [3,19] [] rfl ?_
 refine A5 rfl ?_ ?_ <;> intro hc <;> try simp only [SL] at hc
 ·refine A6 ?_
  refine A5 rfl (fun hc => ?_) (fun hc => absurd hc (by simp_all))
  refine A3 <| A0 <| y_S rfl <| xN [2] [] rfl <| B0 <| B5 rfl rfl trivial <| congrArg iV ?_
  simp_all [nd]
 refine A0 <| H0 rfl rfl <| y_S rfl <| xN [19] [] rfl ?_
 refine A5 rfl ?_ ?_ <;> intro hc <;> try simp only [SL] at hc
 ·refine A3 <| A0 <| y_S rfl <| xN [2] [] rfl <| B0 <| B5 rfl rfl trivial <| congrArg iV ?_
  simp_all [nd]
 refine A6 <| A3 <| A0 <| y_S rfl <| xN [2] [] rfl <| B0 <| B5 rfl rfl trivial <| congrArg iV ?_
 simp_all [nd]

theorem b1v : E7 Tryz.f86 = [0, 2, 3, 4, 13, 16] := by kernel_rfl
theorem a1a (w : ByteArray) : CW (cxT oG) 86 [sV w] = some (iV (rch w), []) := by
 refine E5 rfl Tryz.func86 rfl ⟨by kernel_rfl, rfl, dT rfl, dT rfl, by decide⟩ b1v <| A3 <| A0 <| y_S rfl <| xN [0] [] rfl <| A3 <| A3 <| A0 <| y_M rfl <| xN [3] [] rfl <| B2 <| A3 <| A3 <| A0 <| H0 rfl rfl <| y_S rfl <| xN [3,4] [] rfl ?_
 refine A5 rfl ?_ ?_ <;> intro hc <;> try simp only [SL] at hc
 ·refine A6 ?_
  refine A5 rfl (fun hc => ?_) (fun hc => absurd hc (by simp_all))
  refine A3 <| A0 <| y_S rfl <| xN [2] [] rfl <| B0 <| B5 rfl rfl trivial <| congrArg iV ?_
  simp_all [rch]
 refine A3 <| A0 <| H0 rfl rfl <| y_S rfl <| xN [3,4] [] rfl ?_
 refine A5 rfl ?_ ?_ <;> intro hc <;> try simp only [SL] at hc
 ·refine A6 ?_
  refine A5 rfl (fun hc => ?_) (fun hc => absurd hc (by simp_all))
  refine A3 <| A0 <| y_S rfl <| xN [2] [] rfl <| B0 <| B5 rfl rfl trivial <| congrArg iV ?_
  simp_all [rch]
 refine A3 <| A0 <| H0 rfl rfl <| y_S rfl <| xN [3,4] [] rfl ?_
 refine A5 rfl ?_ ?_ <;> intro hc <;> try simp only [SL] at hc
 ·refine A6 ?_
  refine A5 rfl (fun hc => ?_) (fun hc => absurd hc (by simp_all))
  refine A3 <| A0 <| y_S rfl <| xN [2] [] rfl <| B0 <| B5 rfl rfl trivial <| congrArg iV ?_
  simp_all [rch]
 refine A3 <| A0 <| H0 rfl rfl <| y_S rfl <| xN [3,4] [] rfl ?_
 refine A5 rfl ?_ ?_ <;> intro hc <;> try simp only [SL] at hc
 ·refine A6 ?_
  refine A5 rfl (fun hc => ?_) (fun hc => absurd hc (by simp_all))
  refine A3 <| A0 <| y_S rfl <| xN [2] [] rfl <| B0 <| B5 rfl rfl trivial <| congrArg iV ?_
  simp_all [rch]
 refine A3 <| A0 <| H0 rfl rfl <| y_S rfl <| xN [3,4] [] rfl ?_
 refine A5 rfl ?_ ?_ <;> intro hc <;> try simp only [SL] at hc
 ·refine A6 ?_
  refine A5 rfl (fun hc => ?_) (fun hc => absurd hc (by simp_all))
  refine A3 <| A0 <| y_S rfl <| xN [2] [] rfl <| B0 <| B5 rfl rfl trivial <| congrArg iV ?_
  simp_all [rch]
 refine A3 <| A0 <| H0 rfl rfl <| y_S rfl <| xN [3,4] [] rfl ?_
 refine A5 rfl ?_ ?_ <;> intro hc <;> try simp only [SL] at hc
 ·refine A6 ?_
  refine A5 rfl (fun hc => ?_) (fun hc => absurd hc (by simp_all))
  refine A3 <| A0 <| y_S rfl <| xN [2] [] rfl <| B0 <| B5 rfl rfl trivial <| congrArg iV ?_
  simp_all [rch]
 refine A3 <| A0 <| H0 rfl rfl <| y_S rfl <| xN [3,4] [] rfl ?_
 refine A5 rfl ?_ ?_ <;> intro hc <;> try simp only [SL] at hc
 ·refine A6 ?_
  refine A5 rfl (fun hc => ?_) (fun hc => absurd hc (by simp_all))
  refine A3 <| A0 <| y_S rfl <| xN [2] [] rfl <| B0 <| B5 rfl rfl trivial <| congrArg iV ?_
  simp_all [rch]
 refine A0 <| H0 rfl rfl <| y_S rfl <| xN [3,4] [] rfl ?_
 refine A5 rfl ?_ ?_ <;> intro hc <;> try simp only [SL] at hc
 ·refine A3 <| A0 <| y_S rfl <| xN [2] [] rfl <| B0 <| B5 rfl rfl trivial <| congrArg iV ?_
  simp_all [rch]
 refine A3 <| A3 <| A0 <| H0 rfl rfl <| y_S rfl <| xN [3,13] [] rfl ?_
 refine A5 rfl ?_ ?_ <;> intro hc <;> try simp only [SL] at hc
 ·refine A6 ?_
  refine A5 rfl (fun hc => ?_) (fun hc => absurd hc (by simp_all))
  refine A3 <| A0 <| y_S rfl <| xN [2] [] rfl <| B0 <| B5 rfl rfl trivial <| congrArg iV ?_
  simp_all [rch]
 refine A0 <| H0 rfl rfl <| y_S rfl <| xN [3,13] [] rfl ?_
 refine A5 rfl ?_ ?_ <;> intro hc <;> try simp only [SL] at hc
 ·refine A3 <| A0 <| y_S rfl <| xN [2] [] rfl <| B0 <| B5 rfl rfl trivial <| congrArg iV ?_
  simp_all [rch]
 refine A3 <| A3 <| A0 <| H0 rfl rfl <| y_S rfl <| xN [3,16] [] rfl ?_
 refine A5 rfl ?_ ?_ <;> intro hc <;> try simp only [SL] at hc
 ·refine A6 ?_
  refine A5 rfl (fun hc => ?_) (fun hc => absurd hc (by simp_all))
  refine A3 <| A0 <| y_S rfl <| xN [2] [] rfl <| B0 <| B5 rfl rfl trivial <| congrArg iV ?_
  simp_all [rch]
 refine A3 <| A0 <| H0 rfl rfl <| y_S rfl <| xN [3,16] [] rfl ?_
 refine A5 rfl ?_ ?_ <;> intro hc <;> try simp only [SL] at hc
 ·refine A6 ?_
  refine A5 rfl (fun hc => ?_) (fun hc => absurd hc (by simp_all))
  refine A3 <| A0 <| y_S rfl <| xN [2] [] rfl <| B0 <| B5 rfl rfl trivial <| congrArg iV ?_
  simp_all [rch]
 refine A3 <| A0 <| H0 rfl rfl <| y_S rfl <| xN [3,16] [] rfl ?_
 refine A5 rfl ?_ ?_ <;> intro hc <;> try simp only [SL] at hc
 ·refine A6 ?_
  refine A5 rfl (fun hc => ?_) (fun hc => absurd hc (by simp_all))
  refine A3 <| A0 <| y_S rfl <| xN [2] [] rfl <| B0 <| B5 rfl rfl trivial <| congrArg iV ?_
  simp_all [rch]
 refine A0 <| H0 rfl rfl <| y_S rfl <| xN [16] [] rfl ?_
 refine A5 rfl ?_ ?_ <;> intro hc <;> try simp only [SL] at hc
 ·refine A3 <| A0 <| y_S rfl <| xN [2] [] rfl <| B0 <| B5 rfl rfl trivial <| congrArg iV ?_
  simp_all [rch]
 refine A6 <| A3 <| A0 <| y_S rfl <| xN [2] [] rfl <| B0 <| B5 rfl rfl trivial <| congrArg iV ?_
 simp_all [rch]

theorem b3s : E7 Tryz.f148 = [0, 2, 4, 10] := by kernel_rfl
theorem b2a (n : Int) (hn : -1000000 ≤ n ∧ n ≤ 1000000) : CW (cxT oG) 148 [iV n] = some (tV (dec n), []) := by
 obtain ⟨kk, hkk⟩ : ∃ kk : Nat, 2 * n.natAbs + (if n < 0 then 1 else 0) < kk := ⟨_, Nat.lt_succ_self _⟩
 revert n
 induction kk with
 | zero => intro n hn hkk; exact absurd hkk (Nat.not_lt_zero _)
 | succ kk ih =>
  intro n hn hkk
  refine E5 rfl Tryz.func148 rfl ⟨by kernel_rfl, rfl, dT rfl, dT rfl, by decide⟩ b3s <| A3 <| A0 <| y_S rfl <| xN [0] [] rfl <| A3 <| A3 <| A0 <| y_M rfl <| F8 rfl rfl <| xN [0,4] [] rfl ?_
  refine A5 rfl ?_ ?_ <;> intro hc <;> try simp only [SL] at hc
  ·refine A3 <| A0 <| y_M rfl <| b5h rfl (C2 (by omega)) ?_
   have hdl := V5 (m := -n) (by omega)
   refine xC1 rfl rfl (ih (-n) (by omega) (by split at hkk <;> split <;> omega)) ⟨rfl, rfl, rfl⟩ rfl rfl fun g7 => ?_
   refine b0p rfl rfl (by simp only [H3, List.length_append, List.length_cons, List.length_nil]; omega) <| y_S rfl <| xN [2] [] rfl <| B0 <| B5 rfl rfl trivial ?_
   exact congrArg tV (d0s (by assumption)).symm
  refine A6 <| A3 <| A3 <| A0 <| y_M rfl <| F8 rfl rfl <| xN [0,10] [] rfl ?_
  refine A5 rfl ?_ ?_ <;> intro hc <;> try simp only [SL] at hc
  ·refine A3 <| A0 <| y_M rfl <| y_M rfl <| F3 rfl rfl (C2 (by omega)) <| a3e rfl rfl (a2t rfl (by omega)) (a2t rfl (by omega)) (by (simp; omega)) <| y_S rfl <| xN [2] [] rfl <| B0 <| B5 rfl rfl trivial ?_
   rw [d1i (by omega)]
  refine A6 <| A3 <| A0 <| y_M rfl ?_
  have hd10 : n.tdiv 10 = n / 10 := Int.tdiv_eq_ediv_of_nonneg (by omega)
  refine d2b rfl rfl ⟨by omega, C2 (by omega)⟩ ?_
  have hd10 : n.tdiv 10 = n / 10 := Int.tdiv_eq_ediv_of_nonneg (by omega)
  have hdl0 := V5 (m := n.tdiv 10) (by omega)
  refine xC1 rfl rfl (ih (n.tdiv 10) (by omega) (by split at hkk <;> split <;> omega)) ⟨rfl, rfl, rfl⟩ rfl rfl fun g17 => ?_
  refine y_M rfl <| d2f rfl rfl (by omega) ?_
  have hm10 : n.tmod 10 = n % 10 := Int.tmod_eq_emod_of_nonneg (by omega)
  have hdl1 := V5 (m := n.tmod 10) (by omega)
  refine xC1 rfl rfl (ih (n.tmod 10) (by omega) (by split at hkk <;> split <;> omega)) ⟨rfl, rfl, rfl⟩ rfl rfl fun g20 => ?_
  refine b0p rfl rfl (by simp only [H3, List.length_append, List.length_cons, List.length_nil]; omega) <| y_S rfl <| xN [2] [] rfl <| B0 <| B5 rfl rfl trivial ?_
  rw [← d2p (by omega)]

theorem b2n : E7 Tryz.f101 = [0, 1, 4, 7, 12, 19, 6, 5] := by kernel_rfl
theorem c7b (s : List UInt8) (hs : s.length ≤ 1048576) (c : UInt8) : CW (cxT oG) 101 [tV s, uV c.toNat] = some (.own 1 ((splitB c s).map tV), []) := by
 refine E5 rfl Tryz.func101 rfl ⟨by kernel_rfl, rfl, dT rfl, dT rfl, by decide⟩ b2n <| A3 <| A0 ?_
 (refine A8 rfl rfl (fun _ => rfl) ?_; intro g4)
 refine xN [0,1] [] rfl <| A3 <| A0 <| C4 (es := List.map tV []) rfl rfl (dT rfl) rfl rfl (fun _ => B7 (A7 fun _ => rfl)) (fun _ => rfl) ?_
 intro g8
 (refine xO rfl rfl (by simp) rfl (fun _ => rfl) (fun _ => rfl) ?_; intro g5)
 refine xN [0,1,5] [5] rfl <| A3 <| A0 <| y_S rfl <| xN [0,1,5,6] [5] rfl <| A3 <| A3 <| A0 <| y_S rfl <| xN [0,1,5,6,7] [5] rfl <| B2 <| E4 (β := Nat × Nat × List (List UInt8) × Nat) [(.t 0, _), (.t 1, _)] (fun (z : Nat × Nat × List (List UInt8) × Nat) => match z with | (i, fr, out, g) => [(.t 7, iV i), (.t 6, iV fr), (.t 5, .sl 5 g none 0 out.length), (.h 5, .obj g 0 1 (out.map tV))]) (fun (z : Nat × Nat × List (List UInt8) × Nat) => match z with | (i, fr, out, g) => i ≤ s.length ∧ fr ≤ i ∧ out.length ≤ i ∧ splitB c s = out ++ S4 ((s.drop fr).take (i - fr)) (splitB c (s.drop i))) (fun (z : Nat × Nat × List (List UInt8) × Nat) => match z with | (i, fr, out, g) => s.length - i) (0, 0, [], _) ⟨rfl, rfl, rfl, rfl, rfl, rfl, trivial⟩ ⟨Nat.zero_le _, Nat.le_refl _, Nat.le_refl _, by simp [b4u]⟩ ?_
 intro z hb
 obtain ⟨i, fr, out, g⟩ := z
 try dsimp only at hb
 obtain ⟨hi1, hfr, hol, hsp⟩ := hb
 refine A3 <| A3 <| A0 <| y_M rfl <| y_M rfl <| a6x rfl rfl <| F8 rfl rfl <| xN [0,1,5,6,7,12] [5] rfl ?_
 refine A5 rfl ?_ ?_ <;> intro hc <;> try simp only [SL] at hc
 ·refine A6 <| A3 <| B2 <| A3 <| A0 <| y_M rfl <| y_M rfl <| M5 rfl rfl rfl (by omega) <| y_M rfl <| X3 rfl rfl <| xN [0,1,5,6,7,19] [5] rfl ?_
  refine A5 rfl ?_ ?_ <;> intro hc <;> try simp only [SL] at hc
  ·have hcb : s.getD i 0 = c := UInt8.toNat_inj.1 (by omega)
   refine A3 <| A0 <| y_M rfl <| y_M rfl <| y_M rfl <| y_M rfl <| a3e rfl rfl (G7 rfl) (G7 rfl) (by omega) <| C4 (es := List.map tV [_]) rfl rfl (dT rfl) rfl rfl (fun _ => B7 (A7 fun _ => rfl)) (fun _ => rfl) ?_
   intro g25
   refine xA rfl rfl rfl rfl (by simp) (by simp) rfl rfl rfl rfl rfl (fun _ => rfl) (by simp only [LN]; omega) (fun _ => rfl) ?_
   intro g26
   (refine xO rfl rfl (by simp) rfl (fun _ => rfl) (fun _ => rfl) ?_; intro g5)
   refine xN [0,1,5,7] [5] rfl <| A0 <| y_M rfl <| F3 rfl rfl (C2 (by omega)) <| y_S rfl <| xN [0,1,5,6,7] [5] rfl <| A0 <| y_M rfl <| F3 rfl rfl (C2 (by omega)) <| y_S rfl <| xN [0,1,5,6,7] [5] rfl ?_
   refine ⟨(i + 1, i + 1, out ++ [(s.drop fr).take (i - fr)], _), ?_, (by simp only; omega), ⟨rfl, rfl, rfl, rfl, rfl, rfl, trivial⟩⟩
   have hst := b2z (by omega) hfr hsp
   exact ⟨by omega, by omega, by simp; omega, hst.1 hcb⟩
  have hcb : s.getD i 0 ≠ c := fun e => hc (by rw [e])
  refine A6 <| A0 <| y_M rfl <| F3 rfl rfl (C2 (by omega)) <| y_S rfl <| xN [0,1,5,6,7] [5] rfl ?_
  refine ⟨(i + 1, fr, out, _), ?_, (by simp only; omega), ⟨rfl, rfl, rfl, rfl, rfl, rfl, trivial⟩⟩
  have hst := b2z (by omega) hfr hsp
  exact ⟨by omega, by omega, by omega, hst.2 hcb⟩
 refine E6 <| A3 <| A0 <| y_M rfl <| y_M rfl <| y_M rfl <| a3e rfl rfl S2 (G7 rfl) (by omega) <| C4 (es := List.map tV [_]) rfl rfl (dT rfl) rfl rfl (fun _ => B7 (A7 fun _ => rfl)) (fun _ => rfl) ?_
 intro g33
 refine xA rfl rfl rfl rfl (by simp) (by simp) rfl rfl rfl rfl rfl (fun _ => rfl) (by simp only [LN]; omega) (fun _ => rfl) ?_
 intro g34
 (refine xO rfl rfl (by simp) rfl (fun _ => rfl) (fun _ => rfl) ?_; intro g4)
 refine xN [4] [4] rfl <| B0 <| K1 rfl rfl (by simp) (by exact A7 fun _ => rfl) trivial ?_
 have hil : i = s.length := by omega
 rw [hsp, hil, List.drop_length, splitB, S4, List.append_nil]

theorem a9g : E7 Tryz.f125 = [0, 2, 3, 5, 6, 17, 7, 8, 31, 10, 37, 9, 53, 62, 75, 4] := by kernel_rfl
theorem c2v (s : List UInt8) (hs : s.length ≤ 1048576) : CW (cxT oG) 125 [tV s] = some (.tup [.own 1 (((rdL s).getD []).map iV), bV (rdL s).isSome], []) := by
 obtain ⟨ps, hps⟩ : ∃ ps, ps = splitB 44 s := ⟨_, rfl⟩
 have hpl := a0q 44 s
 rw [← hps] at hpl
 have hpp := a9d 44 s
 rw [← hps] at hpp
 refine E5 rfl Tryz.func125 rfl ⟨by kernel_rfl, rfl, dT rfl, dT rfl, by decide⟩ a9g <| A3 <| A0 ?_
 (refine A8 rfl rfl (fun _ => rfl) ?_; intro g2)
 refine y_S rfl <| xN [0] [] rfl <| A3 <| A0 <| C4 (es := List.map iV []) rfl rfl (dT rfl) rfl rfl (fun _ => B7 (A7 fun _ => rfl)) (fun _ => rfl) ?_
 intro g11
 (refine xO rfl rfl (by simp) rfl (fun _ => rfl) (fun _ => rfl) ?_; intro g4)
 refine xN [0,4] [4] rfl <| A3 <| A0 <| y_M rfl ?_
 apply xC rfl
 ·apply A9
  ·exact B4 rfl
  apply A9
  ·exact B4 rfl
  exact C0
 ·exact c7b s hs 44
 refine ⟨⟨rfl, rfl, rfl, dT rfl, rfl⟩, .inl rfl, B3, G4, fun _ => rfl, fun g13 => ?_⟩
 rw [← hps]
 try simp only [List.length_map]
 (refine xO rfl rfl (by simp) rfl (fun _ => rfl) (fun _ => rfl) ?_; intro g5)
 refine xN [4,5] [4,5] rfl <| A3 <| A3 <| A0 <| y_S rfl <| xN [4,5,6] [4,5] rfl <| B2 <| E4 (β := Nat × List Int × Nat) [(.t 5, _), (.h 5, _)] (fun (z : Nat × List Int × Nat) => match z with | (i, ns, g) => [(.t 6, iV i), (.t 4, .sl 4 g none 0 ns.length), (.h 4, .obj g 0 1 (ns.map iV))]) (fun (z : Nat × List Int × Nat) => match z with | (i, ns, g) => i ≤ ps.length ∧ Z9 (ps.take i) = some ns) (fun (z : Nat × List Int × Nat) => match z with | (i, ns, g) => ps.length - i) (0, [], _) ⟨rfl, rfl, rfl, rfl, rfl, trivial⟩ ⟨Nat.zero_le _, rfl⟩ ?_
 intro z hb
 obtain ⟨i, ns, g⟩ := z
 try dsimp only at hb
 obtain ⟨hi1, hrd⟩ := hb
 have hnl := a8g hrd
 rw [List.length_take] at hnl
 have hpi := fun h : i < ps.length => hpp _ (J4 h)
 refine A3 <| A3 <| A0 <| y_M rfl <| y_M rfl <| G8 rfl rfl <| F8 rfl rfl <| xN [4,5,6,17] [4,5] rfl ?_
 refine A5 rfl ?_ ?_ <;> intro hc <;> try simp only [SL] at hc
 ·refine A6 <| A3 <| B2 <| A3 <| A0 <| y_M rfl <| y_M rfl <| C5 rfl rfl rfl rfl (by omega) (by (simp; done)) rfl <| G0 rfl rfl (by omega) (fun _ => rfl) (fun _ => rfl) rfl <| y_S rfl <| xN [4,5,6,7] [4,5] rfl <| A3 <| A0 <| y_M rfl <| b2e rfl rfl <| y_M rfl ?_
  refine C8 rfl rfl ?_ ?_ <;> intro hg0 <;> have hg := hg0 <;> try simp only [SG] at hg
  ·refine y_M rfl <| gT rfl rfl ?_
   have hp0 : 0 < (ps.getD i default).length := List.length_pos_iff.2 (by assumption)
   refine M5 (n := 0) rfl rfl rfl hp0 <| gT rfl rfl <| X3 rfl rfl <| F7 rfl (by assumption) rfl rfl <| y_S rfl <| xN [4,5,6,7,8] [4,5] rfl <| A3 <| A3 <| A0 <| y_M rfl <| xN [4,5,6,7,8,31] [4,5] rfl ?_
   refine A5 rfl ?_ ?_ <;> intro hc <;> try simp only [SL] at hc
   ·obtain ⟨hng, hup⟩ := d4e (p := (ps.getD i default)) (by assumption) (by omega)
    have hul := b7a (ps.getD i default)
    rw [hup] at hul
    refine A0 <| y_M rfl <| a3e rfl rfl S2 (G7 (n := 1) rfl) (by omega) <| y_S rfl <| xN [4,5,6,7,8] [4,5] rfl <| A3 <| A0 <| y_S rfl <| xN [4,5,6,7,8,9] [4,5] rfl <| A3 <| A3 <| A0 <| y_S rfl <| xN [4,5,6,7,8,9,10] [4,5] rfl <| B2 ?_
    have hup0 := hup
    refine E4 (β := Nat × Int) [(.t 4, _), (.t 5, _), (.t 6, _), (.t 7, _), (.t 8, _), (.h 4, _), (.h 5, _)] (fun (z : Nat × Int) => match z with | (k, a) => [(.t 10, iV k), (.t 9, iV a)]) (fun (z : Nat × Int) => match z with | (k, a) => k ≤ (unS (ps.getD i default)).length ∧ 0 ≤ a ∧ S6 0 ((unS (ps.getD i default)).take k) = some a.toNat) (fun (z : Nat × Int) => match z with | (k, a) => (unS (ps.getD i default)).length - k) (0, 0) ⟨rfl, rfl, rfl, rfl, rfl, rfl, rfl, rfl, rfl, trivial⟩ ⟨Nat.zero_le _, by decide, rfl⟩ ?_
    intro z hb
    obtain ⟨k, a⟩ := z
    try dsimp only at hb
    obtain ⟨hk1, ha0, hdg⟩ := hb
    have hab := b0h (by decide) hdg
    rw [hup] at hk1 hdg
    refine A3 <| A3 <| A0 <| y_M rfl <| y_M rfl <| a6x rfl rfl <| F8 rfl rfl <| xN [4,5,6,7,8,9,10,37] [4,5] rfl ?_
    refine A5 rfl ?_ ?_ <;> intro hc <;> try simp only [SL] at hc
    ·refine A6 <| A3 <| B2 <| A3 <| A3 <| A0 <| y_M rfl <| y_M rfl <| M5 rfl rfl rfl (by omega) <| F8 rfl rfl <| y_M rfl ?_
     refine C8 rfl rfl ?_ ?_ <;> intro hg0 <;> have hg := hg0 <;> try simp only [SG] at hg
     ·refine y_M rfl <| gT rfl rfl <| y_M rfl <| gT rfl rfl <| M5 rfl rfl rfl (by omega) <| gT rfl rfl <| S0 rfl rfl <| F0 rfl (by assumption) rfl rfl <| y_M rfl ?_
      refine C8 rfl rfl ?_ ?_ <;> intro hg0 <;> have hg := hg0 <;> try simp only [SG] at hg
      ·refine y_M rfl <| gT rfl rfl <| S0 rfl rfl <| F0 rfl (by assumption) rfl rfl <| xN [4,5,6,7,8,9,10,53] [4,5] rfl ?_
       refine A5 rfl ?_ ?_ <;> intro hc <;> try simp only [SL] at hc
       ·refine A3 <| A0 ?_
        (refine A8 rfl rfl (fun _ => rfl) ?_; intro g2)
        refine y_S rfl <| xN [2,3] [2] rfl <| B0 <| D4 (F6 rfl rfl (by simp) (by rfl) (E8 rfl rfl (F4 B8))) ?_
        rw [rdL, ← hps, J5 (show i < ps.length by omega) (T3 (by rw [hup]; exact P4 (by omega) hdg (by omega)))]
        rfl
       refine A6 <| A0 <| y_M rfl <| c3x rfl rfl (C2 (by omega)) <| y_M rfl <| y_M rfl <| M5 rfl rfl rfl (by omega) <| L4 rfl rfl (d2k (by omega)) <| a8a rfl rfl rfl (C2 (by omega)) <| F3 rfl rfl (C2 (by omega)) <| y_S rfl <| xN [4,5,6,7,8,9,10] [4,5] rfl <| A0 <| y_M rfl <| F3 rfl rfl (C2 (by omega)) <| y_S rfl <| xN [4,5,6,7,8,9,10] [4,5] rfl ?_
       refine ⟨(k + 1, _), ?_, (by simp only [hup]; omega), ⟨rfl, rfl, rfl, rfl, rfl, rfl, rfl, rfl, rfl, trivial⟩⟩
       rw [hup]
       have hds := a7o (by omega) hdg (by omega)
       exact ⟨by omega, by omega, hds.trans (congrArg some (by omega))⟩
      refine gF rfl rfl <| F7 rfl (by assumption) rfl rfl <| xN [4,5,6,7,8,9,10,53] [4,5] rfl ?_
      refine A5 rfl (fun hc => ?_) (fun hc => absurd hc (by decide))
      refine A3 <| A0 ?_
      (refine A8 rfl rfl (fun _ => rfl) ?_; intro g2)
      refine y_S rfl <| xN [2,3] [2] rfl <| B0 <| D4 (F6 rfl rfl (by simp) (by rfl) (E8 rfl rfl (F4 B8))) ?_
      rw [rdL, ← hps, J5 (show i < ps.length by omega) (T3 (by rw [hup]; exact P4 (by omega) hdg (by omega)))]
      rfl
     refine gF rfl rfl <| gF rfl rfl <| gF rfl rfl <| F7 rfl (by assumption) rfl rfl <| y_M rfl <| I9 rfl rfl rfl <| I9 rfl rfl rfl <| F7 rfl rfl rfl rfl <| xN [4,5,6,7,8,9,10,53] [4,5] rfl ?_
     refine A5 rfl (fun hc => ?_) (fun hc => absurd hc (by decide))
     refine A3 <| A0 ?_
     (refine A8 rfl rfl (fun _ => rfl) ?_; intro g2)
     refine y_S rfl <| xN [2,3] [2] rfl <| B0 <| D4 (F6 rfl rfl (by simp) (by rfl) (E8 rfl rfl (F4 B8))) ?_
     rw [rdL, ← hps, J5 (show i < ps.length by omega) (T3 (by rw [hup]; exact P4 (by omega) hdg (by omega)))]
     rfl
    have hdU : S6 0 (unS (ps.getD i default)) = some a.toNat := by rw [hup]; rw [List.take_of_length_le (by omega)] at hdg; exact hdg
    refine E6 <| A3 <| A3 <| A0 <| y_M rfl <| xN [4,5,6,7,9,62] [4,5] rfl ?_
    refine A5 rfl (fun hc => ?_) (fun hc => absurd hc (by simp_all))
    refine A0 <| y_M rfl <| b5h rfl (C2 (by omega)) <| y_S rfl <| xN [4,5,6,7,9] [4,5] rfl <| A3 <| A3 <| A0 <| y_M rfl <| b8u rfl rfl <| y_M rfl ?_
    refine C8 rfl rfl ?_ ?_ <;> intro hg0 <;> have hg := hg0 <;> try simp only [SG] at hg
    ·refine y_M rfl <| gT rfl rfl ?_
     have hdl1 := V5 (m := -a) (by omega)
     have hdl2 := V5 (m := a) (by omega)
     refine xC1 rfl rfl (b2a (-a) (by omega)) ⟨rfl, rfl, rfl⟩ rfl rfl fun g69 => ?_
     refine gT rfl rfl <| y_M rfl <| gT rfl rfl <| y_M rfl <| gT rfl rfl <| C5 rfl rfl rfl rfl (by omega) (by (simp; done)) rfl <| gT rfl rfl <| G0 rfl rfl (by omega) (fun _ => rfl) (fun _ => rfl) rfl <| gT rfl rfl <| b2e rfl rfl <| F0 rfl (by assumption) rfl rfl ?_
     refine J9 ⟨fun _ => ⟨by (simp only [a4v, List.nil_append, List.append_nil, List.map_cons, List.map_nil, List.cons_append]; decide +kernel), by decide +kernel⟩, [(.t 4, _), (.t 5, _), (.t 6, _), (.t 9, _), (.t 75, _), (.h 4, _), (.h 5, _)], ⟨rfl, rfl, rfl, rfl, rfl, rfl, rfl, rfl, rfl, rfl, rfl, rfl, rfl, rfl, trivial⟩, ?_⟩
     refine A5 rfl ?_ ?_ <;> intro hc <;> try simp only [SL] at hc
     ·refine A3 <| A0 ?_
      (refine A8 rfl rfl (fun _ => rfl) ?_; intro g2)
      refine y_S rfl <| xN [2,3] [2] rfl <| B0 <| D4 (F6 rfl rfl (by simp) (by rfl) (E8 rfl rfl (F4 B8))) ?_
      have hno : rdI (ps.getD i default) = none := by exact a6z (m := -a) hdU (by (rw [hng, if_pos rfl]; omega)) (by exact .inr (by assumption))
      rw [rdL, ← hps, J5 (show i < ps.length by omega) hno]
      rfl
     have hri := c2d (m := -a) hdU (by (rw [hng, if_pos rfl]; omega)) (by rw [hup]; assumption) (by assumption)
     refine A6 <| A0 <| y_M rfl <| y_M rfl <| C4 (es := List.map iV [_]) rfl rfl (dT rfl) rfl rfl (fun _ => B7 (A7 fun _ => rfl)) (fun _ => rfl) ?_
     intro g78
     refine xA rfl rfl rfl rfl (by simp) (by simp) rfl rfl rfl rfl rfl (fun _ => rfl) (by simp only [LN]; omega) (fun _ => rfl) ?_
     intro g79
     (refine xO rfl rfl (by simp) rfl (fun _ => rfl) (fun _ => rfl) ?_; intro g4)
     refine xN [4,5,6] [4,5] rfl <| A0 <| y_M rfl <| F3 rfl rfl (C2 (by omega)) <| y_S rfl <| xN [4,5,6] [4,5] rfl ?_
     refine ⟨(i + 1, ns ++ [-a], _), ?_, (by simp only; omega), ⟨rfl, rfl, rfl, rfl, rfl, trivial⟩⟩
     exact ⟨by omega, a7d (by omega) hrd hri⟩
    iterate 6 refine gF rfl rfl ?_
    refine F7 rfl (by assumption) rfl rfl ?_
    refine J9 ⟨fun _ => ⟨by decide +kernel, by decide +kernel⟩, [(.t 4, _), (.t 5, _), (.t 6, _), (.t 9, _), (.t 75, _), (.h 4, _), (.h 5, _)], ⟨rfl, rfl, rfl, rfl, rfl, rfl, rfl, rfl, rfl, rfl, rfl, rfl, rfl, rfl, trivial⟩, ?_⟩
    refine A5 rfl (fun hc => ?_) (fun hc => absurd hc (by decide))
    refine A3 <| A0 ?_
    (refine A8 rfl rfl (fun _ => rfl) ?_; intro g2)
    refine y_S rfl <| xN [2,3] [2] rfl <| B0 <| D4 (F6 rfl rfl (by simp) (by rfl) (E8 rfl rfl (F4 B8))) ?_
    have hno : rdI (ps.getD i default) = none := by exact a6z (m := -a) hdU (by (rw [hng, if_pos rfl]; omega)) (by exact .inl (by rw [hup]; assumption))
    rw [rdL, ← hps, J5 (show i < ps.length by omega) hno]
    rfl
   obtain ⟨hng, hup⟩ := d2c (p := (ps.getD i default)) (by exact .inr (by omega))
   have hul := b7a (ps.getD i default)
   rw [hup] at hul
   refine A6 <| A3 <| A0 <| y_S rfl <| xN [4,5,6,7,8,9] [4,5] rfl <| A3 <| A3 <| A0 <| y_S rfl <| xN [4,5,6,7,8,9,10] [4,5] rfl <| B2 ?_
   have hup0 := hup
   refine E4 (β := Nat × Int) [(.t 4, _), (.t 5, _), (.t 6, _), (.t 7, _), (.t 8, _), (.h 4, _), (.h 5, _)] (fun (z : Nat × Int) => match z with | (k, a) => [(.t 10, iV k), (.t 9, iV a)]) (fun (z : Nat × Int) => match z with | (k, a) => k ≤ (unS (ps.getD i default)).length ∧ 0 ≤ a ∧ S6 0 ((unS (ps.getD i default)).take k) = some a.toNat) (fun (z : Nat × Int) => match z with | (k, a) => (unS (ps.getD i default)).length - k) (0, 0) ⟨rfl, rfl, rfl, rfl, rfl, rfl, rfl, rfl, rfl, trivial⟩ ⟨Nat.zero_le _, by decide, rfl⟩ ?_
   intro z hb
   obtain ⟨k, a⟩ := z
   try dsimp only at hb
   obtain ⟨hk1, ha0, hdg⟩ := hb
   have hab := b0h (by decide) hdg
   rw [hup] at hk1 hdg
   refine A3 <| A3 <| A0 <| y_M rfl <| y_M rfl <| a6x rfl rfl <| F8 rfl rfl <| xN [4,5,6,7,8,9,10,37] [4,5] rfl ?_
   refine A5 rfl ?_ ?_ <;> intro hc <;> try simp only [SL] at hc
   ·refine A6 <| A3 <| B2 <| A3 <| A3 <| A0 <| y_M rfl <| y_M rfl <| M5 rfl rfl rfl (by omega) <| F8 rfl rfl <| y_M rfl ?_
    refine C8 rfl rfl ?_ ?_ <;> intro hg0 <;> have hg := hg0 <;> try simp only [SG] at hg
    ·refine y_M rfl <| gT rfl rfl <| y_M rfl <| gT rfl rfl <| M5 rfl rfl rfl (by omega) <| gT rfl rfl <| S0 rfl rfl <| F0 rfl (by assumption) rfl rfl <| y_M rfl ?_
     refine C8 rfl rfl ?_ ?_ <;> intro hg0 <;> have hg := hg0 <;> try simp only [SG] at hg
     ·refine y_M rfl <| gT rfl rfl <| S0 rfl rfl <| F0 rfl (by assumption) rfl rfl <| xN [4,5,6,7,8,9,10,53] [4,5] rfl ?_
      refine A5 rfl ?_ ?_ <;> intro hc <;> try simp only [SL] at hc
      ·refine A3 <| A0 ?_
       (refine A8 rfl rfl (fun _ => rfl) ?_; intro g2)
       refine y_S rfl <| xN [2,3] [2] rfl <| B0 <| D4 (F6 rfl rfl (by simp) (by rfl) (E8 rfl rfl (F4 B8))) ?_
       rw [rdL, ← hps, J5 (show i < ps.length by omega) (T3 (by rw [hup]; exact P4 (by omega) hdg (by omega)))]
       rfl
      refine A6 <| A0 <| y_M rfl <| c3x rfl rfl (C2 (by omega)) <| y_M rfl <| y_M rfl <| M5 rfl rfl rfl (by omega) <| L4 rfl rfl (d2k (by omega)) <| a8a rfl rfl rfl (C2 (by omega)) <| F3 rfl rfl (C2 (by omega)) <| y_S rfl <| xN [4,5,6,7,8,9,10] [4,5] rfl <| A0 <| y_M rfl <| F3 rfl rfl (C2 (by omega)) <| y_S rfl <| xN [4,5,6,7,8,9,10] [4,5] rfl ?_
      refine ⟨(k + 1, _), ?_, (by simp only [hup]; omega), ⟨rfl, rfl, rfl, rfl, rfl, rfl, rfl, rfl, rfl, trivial⟩⟩
      rw [hup]
      have hds := a7o (by omega) hdg (by omega)
      exact ⟨by omega, by omega, hds.trans (congrArg some (by omega))⟩
     refine gF rfl rfl <| F7 rfl (by assumption) rfl rfl <| xN [4,5,6,7,8,9,10,53] [4,5] rfl ?_
     refine A5 rfl (fun hc => ?_) (fun hc => absurd hc (by decide))
     refine A3 <| A0 ?_
     (refine A8 rfl rfl (fun _ => rfl) ?_; intro g2)
     refine y_S rfl <| xN [2,3] [2] rfl <| B0 <| D4 (F6 rfl rfl (by simp) (by rfl) (E8 rfl rfl (F4 B8))) ?_
     rw [rdL, ← hps, J5 (show i < ps.length by omega) (T3 (by rw [hup]; exact P4 (by omega) hdg (by omega)))]
     rfl
    refine gF rfl rfl <| gF rfl rfl <| gF rfl rfl <| F7 rfl (by assumption) rfl rfl <| y_M rfl <| I9 rfl rfl rfl <| I9 rfl rfl rfl <| F7 rfl rfl rfl rfl <| xN [4,5,6,7,8,9,10,53] [4,5] rfl ?_
    refine A5 rfl (fun hc => ?_) (fun hc => absurd hc (by decide))
    refine A3 <| A0 ?_
    (refine A8 rfl rfl (fun _ => rfl) ?_; intro g2)
    refine y_S rfl <| xN [2,3] [2] rfl <| B0 <| D4 (F6 rfl rfl (by simp) (by rfl) (E8 rfl rfl (F4 B8))) ?_
    rw [rdL, ← hps, J5 (show i < ps.length by omega) (T3 (by rw [hup]; exact P4 (by omega) hdg (by omega)))]
    rfl
   have hdU : S6 0 (unS (ps.getD i default)) = some a.toNat := by rw [hup]; rw [List.take_of_length_le (by omega)] at hdg; exact hdg
   refine E6 <| A3 <| A3 <| A0 <| y_M rfl <| xN [4,5,6,7,9,62] [4,5] rfl ?_
   refine A5 rfl (fun hc => absurd hc (by simp_all)) (fun hc => ?_)
   refine A6 <| A3 <| A3 <| A0 <| y_M rfl <| b8u rfl rfl <| y_M rfl ?_
   refine C8 rfl rfl ?_ ?_ <;> intro hg0 <;> have hg := hg0 <;> try simp only [SG] at hg
   ·refine y_M rfl <| gT rfl rfl ?_
    have hdl1 := V5 (m := -a) (by omega)
    have hdl2 := V5 (m := a) (by omega)
    refine xC1 rfl rfl (b2a a (by omega)) ⟨rfl, rfl, rfl⟩ rfl rfl fun g69 => ?_
    refine gT rfl rfl <| y_M rfl <| gT rfl rfl <| y_M rfl <| gT rfl rfl <| C5 rfl rfl rfl rfl (by omega) (by (simp; done)) rfl <| gT rfl rfl <| G0 rfl rfl (by omega) (fun _ => rfl) (fun _ => rfl) rfl <| gT rfl rfl <| b2e rfl rfl <| F0 rfl (by assumption) rfl rfl ?_
    refine J9 ⟨fun _ => ⟨by (simp only [a4v, List.nil_append, List.append_nil, List.map_cons, List.map_nil, List.cons_append]; decide +kernel), by decide +kernel⟩, [(.t 4, _), (.t 5, _), (.t 6, _), (.t 9, _), (.t 75, _), (.h 4, _), (.h 5, _)], ⟨rfl, rfl, rfl, rfl, rfl, rfl, rfl, rfl, rfl, rfl, rfl, rfl, rfl, rfl, trivial⟩, ?_⟩
    refine A5 rfl ?_ ?_ <;> intro hc <;> try simp only [SL] at hc
    ·refine A3 <| A0 ?_
     (refine A8 rfl rfl (fun _ => rfl) ?_; intro g2)
     refine y_S rfl <| xN [2,3] [2] rfl <| B0 <| D4 (F6 rfl rfl (by simp) (by rfl) (E8 rfl rfl (F4 B8))) ?_
     have hno : rdI (ps.getD i default) = none := by exact a6z (m := a) hdU (by (rw [hng, if_neg (by decide)]; omega)) (by exact .inr (by assumption))
     rw [rdL, ← hps, J5 (show i < ps.length by omega) hno]
     rfl
    have hri := c2d (m := a) hdU (by (rw [hng, if_neg (by decide)]; omega)) (by rw [hup]; assumption) (by assumption)
    refine A6 <| A0 <| y_M rfl <| y_M rfl <| C4 (es := List.map iV [_]) rfl rfl (dT rfl) rfl rfl (fun _ => B7 (A7 fun _ => rfl)) (fun _ => rfl) ?_
    intro g78
    refine xA rfl rfl rfl rfl (by simp) (by simp) rfl rfl rfl rfl rfl (fun _ => rfl) (by simp only [LN]; omega) (fun _ => rfl) ?_
    intro g79
    (refine xO rfl rfl (by simp) rfl (fun _ => rfl) (fun _ => rfl) ?_; intro g4)
    refine xN [4,5,6] [4,5] rfl <| A0 <| y_M rfl <| F3 rfl rfl (C2 (by omega)) <| y_S rfl <| xN [4,5,6] [4,5] rfl ?_
    refine ⟨(i + 1, ns ++ [a], _), ?_, (by simp only; omega), ⟨rfl, rfl, rfl, rfl, rfl, trivial⟩⟩
    exact ⟨by omega, a7d (by omega) hrd hri⟩
   iterate 6 refine gF rfl rfl ?_
   refine F7 rfl (by assumption) rfl rfl ?_
   refine J9 ⟨fun _ => ⟨by decide +kernel, by decide +kernel⟩, [(.t 4, _), (.t 5, _), (.t 6, _), (.t 9, _), (.t 75, _), (.h 4, _), (.h 5, _)], ⟨rfl, rfl, rfl, rfl, rfl, rfl, rfl, rfl, rfl, rfl, rfl, rfl, rfl, rfl, trivial⟩, ?_⟩
   refine A5 rfl (fun hc => ?_) (fun hc => absurd hc (by decide))
   refine A3 <| A0 ?_
   (refine A8 rfl rfl (fun _ => rfl) ?_; intro g2)
   refine y_S rfl <| xN [2,3] [2] rfl <| B0 <| D4 (F6 rfl rfl (by simp) (by rfl) (E8 rfl rfl (F4 B8))) ?_
   have hno : rdI (ps.getD i default) = none := by exact a6z (m := a) hdU (by (rw [hng, if_neg (by decide)]; omega)) (by exact .inl (by rw [hup]; assumption))
   rw [rdL, ← hps, J5 (show i < ps.length by omega) hno]
   rfl
  refine gF rfl rfl <| gF rfl rfl <| F0 rfl (by assumption) rfl rfl <| y_S rfl <| xN [4,5,6,7,8] [4,5] rfl <| A3 <| A3 <| A0 <| y_M rfl <| xN [4,5,6,7,8,31] [4,5] rfl ?_
  refine A5 rfl (fun hc => absurd hc (by decide)) (fun hc => ?_)
  refine A6 <| A3 <| A0 <| y_S rfl <| xN [4,5,6,7,8,9] [4,5] rfl <| A3 <| A3 <| A0 <| y_S rfl <| xN [4,5,6,7,8,9,10] [4,5] rfl <| B2 ?_
  (obtain ⟨hng, hup⟩ := d2c (p := (ps.getD i default)) (.inl (by assumption)); have hul := b7a (ps.getD i default); rw [hup] at hul)
  refine E4 (β := Nat × Int) [(.t 4, _), (.t 5, _), (.t 6, _), (.t 7, _), (.t 8, _), (.h 4, _), (.h 5, _)] (fun (z : Nat × Int) => match z with | (k, a) => [(.t 10, iV k), (.t 9, iV a)]) (fun (z : Nat × Int) => match z with | (k, a) => k ≤ (unS (ps.getD i default)).length ∧ 0 ≤ a ∧ S6 0 ((unS (ps.getD i default)).take k) = some a.toNat) (fun (z : Nat × Int) => match z with | (k, a) => (unS (ps.getD i default)).length - k) (0, 0) ⟨rfl, rfl, rfl, rfl, rfl, rfl, rfl, rfl, rfl, trivial⟩ ⟨Nat.zero_le _, by decide, rfl⟩ ?_
  intro z hb
  obtain ⟨k, a⟩ := z
  try dsimp only at hb
  obtain ⟨hk1, ha0, hdg⟩ := hb
  have hab := b0h (by decide) hdg
  rw [hup] at hk1 hdg
  refine A3 <| A3 <| A0 <| y_M rfl <| y_M rfl <| a6x rfl rfl <| F8 rfl rfl <| xN [4,5,6,7,8,9,10,37] [4,5] rfl ?_
  refine A5 rfl ?_ ?_ <;> intro hc <;> try simp only [SL] at hc
  ·refine A6 <| A3 <| B2 <| A3 <| A3 <| A0 <| y_M rfl <| y_M rfl <| M5 rfl rfl rfl (by omega) <| F8 rfl rfl <| y_M rfl ?_
   refine C8 rfl rfl ?_ ?_ <;> intro hg0 <;> have hg := hg0 <;> try simp only [SG] at hg
   ·refine y_M rfl <| gT rfl rfl <| y_M rfl <| gT rfl rfl <| M5 rfl rfl rfl (by omega) <| gT rfl rfl <| S0 rfl rfl <| F0 rfl (by assumption) rfl rfl <| y_M rfl ?_
    refine C8 rfl rfl ?_ ?_ <;> intro hg0 <;> have hg := hg0 <;> try simp only [SG] at hg
    ·refine y_M rfl <| gT rfl rfl <| S0 rfl rfl <| F0 rfl (by assumption) rfl rfl <| xN [4,5,6,7,8,9,10,53] [4,5] rfl ?_
     refine A5 rfl ?_ ?_ <;> intro hc <;> try simp only [SL] at hc
     ·refine A3 <| A0 ?_
      (refine A8 rfl rfl (fun _ => rfl) ?_; intro g2)
      refine y_S rfl <| xN [2,3] [2] rfl <| B0 <| D4 (F6 rfl rfl (by simp) (by rfl) (E8 rfl rfl (F4 B8))) ?_
      rw [rdL, ← hps, J5 (show i < ps.length by omega) (T3 (by rw [hup]; exact P4 (by omega) hdg (by omega)))]
      rfl
     refine A6 <| A0 <| y_M rfl <| c3x rfl rfl (C2 (by omega)) <| y_M rfl <| y_M rfl <| M5 rfl rfl rfl (by omega) <| L4 rfl rfl (d2k (by omega)) <| a8a rfl rfl rfl (C2 (by omega)) <| F3 rfl rfl (C2 (by omega)) <| y_S rfl <| xN [4,5,6,7,8,9,10] [4,5] rfl <| A0 <| y_M rfl <| F3 rfl rfl (C2 (by omega)) <| y_S rfl <| xN [4,5,6,7,8,9,10] [4,5] rfl ?_
     refine ⟨(k + 1, _), ?_, (by simp only [hup]; omega), ⟨rfl, rfl, rfl, rfl, rfl, rfl, rfl, rfl, rfl, trivial⟩⟩
     rw [hup]
     have hds := a7o (by omega) hdg (by omega)
     exact ⟨by omega, by omega, hds.trans (congrArg some (by omega))⟩
    refine gF rfl rfl <| F7 rfl (by assumption) rfl rfl <| xN [4,5,6,7,8,9,10,53] [4,5] rfl ?_
    refine A5 rfl (fun hc => ?_) (fun hc => absurd hc (by decide))
    refine A3 <| A0 ?_
    (refine A8 rfl rfl (fun _ => rfl) ?_; intro g2)
    refine y_S rfl <| xN [2,3] [2] rfl <| B0 <| D4 (F6 rfl rfl (by simp) (by rfl) (E8 rfl rfl (F4 B8))) ?_
    rw [rdL, ← hps, J5 (show i < ps.length by omega) (T3 (by rw [hup]; exact P4 (by omega) hdg (by omega)))]
    rfl
   refine gF rfl rfl <| gF rfl rfl <| gF rfl rfl <| F7 rfl (by assumption) rfl rfl <| y_M rfl <| I9 rfl rfl rfl <| I9 rfl rfl rfl <| F7 rfl rfl rfl rfl <| xN [4,5,6,7,8,9,10,53] [4,5] rfl ?_
   refine A5 rfl (fun hc => ?_) (fun hc => absurd hc (by decide))
   refine A3 <| A0 ?_
   (refine A8 rfl rfl (fun _ => rfl) ?_; intro g2)
   refine y_S rfl <| xN [2,3] [2] rfl <| B0 <| D4 (F6 rfl rfl (by simp) (by rfl) (E8 rfl rfl (F4 B8))) ?_
   rw [rdL, ← hps, J5 (show i < ps.length by omega) (T3 (by rw [hup]; exact P4 (by omega) hdg (by omega)))]
   rfl
  have hdU : S6 0 (unS (ps.getD i default)) = some a.toNat := by rw [hup]; rw [List.take_of_length_le (by omega)] at hdg; exact hdg
  refine E6 <| A3 <| A3 <| A0 <| y_M rfl <| xN [4,5,6,7,9,62] [4,5] rfl ?_
  refine A5 rfl (fun hc => absurd hc (by decide)) (fun hc => ?_)
  refine A6 <| A3 <| A3 <| A0 <| y_M rfl <| b8u rfl rfl <| y_M rfl ?_
  refine C8 rfl rfl ?_ ?_ <;> intro hg0 <;> have hg := hg0 <;> try simp only [SG] at hg
  ·refine y_M rfl <| gT rfl rfl ?_
   have hdl1 := V5 (m := -a) (by omega)
   have hdl2 := V5 (m := a) (by omega)
   refine xC1 rfl rfl (b2a a (by omega)) ⟨rfl, rfl, rfl⟩ rfl rfl fun g69 => ?_
   refine gT rfl rfl <| y_M rfl <| gT rfl rfl <| y_M rfl <| gT rfl rfl <| C5 rfl rfl rfl rfl (by omega) (by (simp; done)) rfl <| gT rfl rfl <| G0 rfl rfl (by omega) (fun _ => rfl) (fun _ => rfl) rfl <| gT rfl rfl <| b2e rfl rfl <| F0 rfl (by assumption) rfl rfl ?_
   refine J9 ⟨fun _ => ⟨by (simp only [a4v, List.nil_append, List.append_nil, List.map_cons, List.map_nil, List.cons_append]; decide +kernel), by decide +kernel⟩, [(.t 4, _), (.t 5, _), (.t 6, _), (.t 9, _), (.t 75, _), (.h 4, _), (.h 5, _)], ⟨rfl, rfl, rfl, rfl, rfl, rfl, rfl, rfl, rfl, rfl, rfl, rfl, rfl, rfl, trivial⟩, ?_⟩
   refine A5 rfl ?_ ?_ <;> intro hc <;> try simp only [SL] at hc
   ·refine A3 <| A0 ?_
    (refine A8 rfl rfl (fun _ => rfl) ?_; intro g2)
    refine y_S rfl <| xN [2,3] [2] rfl <| B0 <| D4 (F6 rfl rfl (by simp) (by rfl) (E8 rfl rfl (F4 B8))) ?_
    have hno : rdI (ps.getD i default) = none := by exact a6z (m := a) hdU (by (rw [hng, if_neg (by decide)]; omega)) (by exact .inl (by rw [hup]; assumption))
    rw [rdL, ← hps, J5 (show i < ps.length by omega) hno]
    rfl
   have hri := c2d (m := a) hdU (by (rw [hng, if_neg (by decide)]; omega)) (by rw [hup]; assumption) (by assumption)
   refine A6 <| A0 <| y_M rfl <| y_M rfl <| C4 (es := List.map iV [_]) rfl rfl (dT rfl) rfl rfl (fun _ => B7 (A7 fun _ => rfl)) (fun _ => rfl) ?_
   intro g78
   refine xA rfl rfl rfl rfl (by simp) (by simp) rfl rfl rfl rfl rfl (fun _ => rfl) (by simp only [LN]; omega) (fun _ => rfl) ?_
   intro g79
   (refine xO rfl rfl (by simp) rfl (fun _ => rfl) (fun _ => rfl) ?_; intro g4)
   refine xN [4,5,6] [4,5] rfl <| A0 <| y_M rfl <| F3 rfl rfl (C2 (by omega)) <| y_S rfl <| xN [4,5,6] [4,5] rfl ?_
   refine ⟨(i + 1, ns ++ [a], _), ?_, (by simp only; omega), ⟨rfl, rfl, rfl, rfl, rfl, trivial⟩⟩
   exact ⟨by omega, a7d (by omega) hrd hri⟩
  iterate 6 refine gF rfl rfl ?_
  refine F7 rfl (by assumption) rfl rfl ?_
  refine J9 ⟨fun _ => ⟨by decide +kernel, by decide +kernel⟩, [(.t 4, _), (.t 5, _), (.t 6, _), (.t 9, _), (.t 75, _), (.h 4, _), (.h 5, _)], ⟨rfl, rfl, rfl, rfl, rfl, rfl, rfl, rfl, rfl, rfl, rfl, rfl, rfl, rfl, trivial⟩, ?_⟩
  refine A5 rfl (fun hc => ?_) (fun hc => absurd hc (by decide))
  refine A3 <| A0 ?_
  (refine A8 rfl rfl (fun _ => rfl) ?_; intro g2)
  refine y_S rfl <| xN [2,3] [2] rfl <| B0 <| D4 (F6 rfl rfl (by simp) (by rfl) (E8 rfl rfl (F4 B8))) ?_
  have hno : rdI (ps.getD i default) = none := by exact a6z (m := a) hdU (by (rw [hng, if_neg (by decide)]; omega)) (by exact .inl (by rw [hup]; assumption))
  rw [rdL, ← hps, J5 (show i < ps.length by omega) hno]
  rfl
 refine E6 <| A3 <| A0 <| y_M rfl ?_
 (refine xO rfl rfl (by simp) rfl (fun _ => rfl) (fun _ => rfl) ?_; intro g2)
 refine y_S rfl <| xN [2,3] [2] rfl <| B0 <| D4 (F6 rfl rfl (by simp) (by exact A7 fun _ => rfl) (E8 rfl rfl (F4 B8))) ?_
 have hil : i = ps.length := by omega
 rw [hil, List.take_length] at hrd
 rw [rdL, ← hps, hrd]
 rfl

theorem a9t : E7 Tryz.f85 = [0, 2, 3, 4, 22, 24, 5, 6] := by kernel_rfl
theorem Z4 (s : List UInt8) (hs : s.length ≤ 1048576) : CW (cxT oG) 85 [tV s] = some (.tup [.own 1 ((c0e s).map iV), bV (numsOf s).isSome], []) := by
 refine E5 rfl Tryz.func85 rfl ⟨by kernel_rfl, rfl, dT rfl, dT rfl, by decide⟩ a9t <| A3 <| A0 ?_
 (refine A8 rfl rfl (fun _ => rfl) ?_; intro g2)
 refine y_S rfl <| xN [0] [] rfl <| A3 <| A0 <| y_M rfl <| a6x rfl rfl <| y_S rfl <| xN [0,4] [] rfl <| A3 <| A3 <| A0 <| y_M rfl <| F8 rfl rfl <| y_M rfl ?_
 refine C8 rfl rfl ?_ ?_ <;> intro hg0 <;> have hg := hg0 <;> try simp only [SG] at hg
 ·refine y_M rfl <| gT rfl rfl <| M5 (n := 0) rfl rfl rfl (by omega) <| gT rfl rfl <| Z6 rfl rfl <| F0 rfl (by assumption) rfl rfl <| y_M rfl ?_
  refine C8 rfl rfl ?_ ?_ <;> intro hg0 <;> have hg := hg0 <;> try simp only [SG] at hg
  ·refine y_M rfl <| gT rfl rfl <| y_M rfl <| gT rfl rfl <| L4 rfl rfl (C2 (by omega)) <| gT rfl rfl ?_
   rw [show ((s.length : Int) - 1) = ((s.length - 1 : Nat) : Int) by omega]
   refine M5 rfl rfl rfl (by omega) <| gT rfl rfl <| Z6 rfl rfl <| F0 rfl (by assumption) rfl rfl <| xN [0,4,22] [] rfl ?_
   refine A5 rfl ?_ ?_ <;> intro hc <;> try simp only [SL] at hc
   ·refine A3 <| A0 ?_
    (refine A8 rfl rfl (fun _ => rfl) ?_; intro g2)
    refine y_S rfl <| xN [2,3] [2] rfl <| B0 <| D4 (F6 rfl rfl (by simp) (by rfl) (E8 rfl rfl (F4 B8))) ?_
    obtain ⟨hn1, hn2⟩ := a7x (s := s) (by exact .inr (.inr (by omega)))
    rw [hn1, hn2]
    rfl
   have hin := c6l (s := s) (by omega) (by omega) (by omega)
   refine A6 <| A3 <| A3 <| A0 <| y_M rfl <| X3 rfl rfl <| xN [0,4,24] [] rfl ?_
   refine A5 rfl ?_ ?_ <;> intro hc <;> try simp only [SL] at hc
   ·refine A3 <| A0 <| C4 (es := List.map iV []) rfl rfl (dT rfl) rfl rfl (fun _ => B7 (A7 fun _ => rfl)) (fun _ => rfl) ?_
    intro g25
    (refine xO rfl rfl (by simp) rfl (fun _ => rfl) (fun _ => rfl) ?_; intro g2)
    refine y_S rfl <| xN [2,3] [2] rfl <| B0 <| D4 (F6 rfl rfl (by simp) (by rfl) (E8 rfl rfl (F4 B8))) ?_
    obtain ⟨hn1, hn2⟩ := hin.1 (by omega)
    rw [hn1, hn2]
    rfl
   refine A6 <| A3 <| A0 <| y_M rfl <| y_M rfl <| L4 rfl rfl (C2 (by omega)) ?_
   rw [show ((s.length : Int) - 1) = ((s.length - 1 : Nat) : Int) by omega]
   have hrl := d1b ((s.drop 1).take (s.length - 1 - 1))
   have hin2 : ((s.drop 1).take (s.length - 1 - 1)).length ≤ s.length - 2 := by simp only [List.length_take, List.length_drop]; omega
   refine a3e rfl rfl (G7 rfl) (G7 (n := 1) rfl) (by omega) ?_
   apply xC rfl
   ·apply A9
    ·exact B4 rfl
    exact C0
   ·exact c2v ((s.drop 1).take (s.length - 1 - 1)) (by omega)
   refine ⟨⟨rfl, rfl, rfl, dT rfl, rfl⟩, .inr ⟨G9 _ _, rfl⟩, B3, H1 (L8 fun _ => J7 rfl L6), fun _ => rfl, fun g31 => ?_⟩
   simp only [List.length_map]
   refine y_M rfl <| y_E rfl <| y_E rfl ?_
   (refine xO rfl rfl (by simp) rfl (fun _ => rfl) (fun _ => rfl) ?_; intro g5)
   refine y_S rfl <| xN [5,6] [5] rfl <| A3 <| A0 <| y_M rfl <| y_M rfl <| y_M rfl ?_
   refine C8 rfl rfl ?_ ?_ <;> intro hg0 <;> have hg := hg0 <;> try simp only [SG] at hg
   ·refine y_M rfl <| gT rfl rfl ?_
    apply xC rfl
    ·apply A9
     ·exact D7 rfl rfl rfl (by (simp; done)) (fun _ => rfl)
     exact C0
    ·exact a9c ((rdL ((s.drop 1).take (s.length - 1 - 1))).getD []) (by omega)
    refine ⟨⟨rfl, rfl, rfl, dT rfl, rfl⟩, .inr ⟨rfl, rfl⟩, B3, D5 rfl, fun _ => rfl, fun g38 => ?_⟩
    refine F7 rfl (by assumption) rfl rfl ?_
    (refine xO rfl rfl (by simp) rfl (fun _ => rfl) (fun _ => rfl) ?_; intro g2)
    refine y_S rfl <| xN [2,3] [2] rfl <| B0 <| D4 (F6 rfl rfl (by simp) (by exact A7 fun _ => rfl) (E8 rfl rfl (F4 B8))) ?_
    obtain ⟨hn1, hn2⟩ := hin.2 (by omega)
    rw [hn2, b2i hn1]
    simp_all
    try rfl
   refine gF rfl rfl <| F0 rfl (by assumption) rfl rfl ?_
   (refine xO rfl rfl (by simp) rfl (fun _ => rfl) (fun _ => rfl) ?_; intro g2)
   refine y_S rfl <| xN [2,3] [2] rfl <| B0 <| D4 (F6 rfl rfl (by simp) (by exact A7 fun _ => rfl) (E8 rfl rfl (F4 B8))) ?_
   obtain ⟨hn1, hn2⟩ := hin.2 (by omega)
   rw [hn2, b2i hn1]
   simp_all
   try rfl
  iterate 4 refine gF rfl rfl ?_
  refine F7 rfl (by assumption) rfl rfl <| xN [0,4,22] [] rfl ?_
  refine A5 rfl (fun hc => ?_) (fun hc => absurd hc (by decide))
  refine A3 <| A0 ?_
  (refine A8 rfl rfl (fun _ => rfl) ?_; intro g2)
  refine y_S rfl <| xN [2,3] [2] rfl <| B0 <| D4 (F6 rfl rfl (by simp) (by rfl) (E8 rfl rfl (F4 B8))) ?_
  obtain ⟨hn1, hn2⟩ := a7x (s := s) (by exact .inr (.inl (by omega)))
  rw [hn1, hn2]
  rfl
 refine gF rfl rfl <| gF rfl rfl <| F7 rfl (by assumption) rfl rfl <| y_M rfl ?_
 iterate 5 refine I9 rfl rfl rfl ?_
 refine F7 rfl rfl rfl rfl <| xN [0,4,22] [] rfl ?_
 refine A5 rfl (fun hc => ?_) (fun hc => absurd hc (by decide))
 refine A3 <| A0 ?_
 (refine A8 rfl rfl (fun _ => rfl) ?_; intro g2)
 refine y_S rfl <| xN [2,3] [2] rfl <| B0 <| D4 (F6 rfl rfl (by simp) (by rfl) (E8 rfl rfl (F4 B8))) ?_
 obtain ⟨hn1, hn2⟩ := a7x (s := s) (by exact .inl (by omega))
 rw [hn1, hn2]
 rfl

theorem b2v : E7 Tryz.f143 = [0, 2, 8, 7, 9, 6, 5, 3] := by kernel_rfl
theorem c6o (ns : List Int) (hl : ns.length ≤ 1000000) (hnb : ∀ n ∈ ns, -1000000 ≤ n ∧ n ≤ 1000000) : CW (cxT oG) 143 [L ns] = some (tV (S9 ns), []) := by
 have hg := fun (i : Nat) (h : i < ns.length) => hnb _ (b1k h)
 have hll := b4y (ns := ns) hnb
 refine E5 rfl Tryz.func143 rfl ⟨by kernel_rfl, rfl, dT rfl, dT rfl, by decide⟩ b2v <| A3 <| A0 <| y_S rfl <| xN [0] [] rfl <| A3 <| A0 ?_
 (refine A8 rfl rfl (fun _ => rfl) ?_; intro g3)
 refine xN [0,3] [3] rfl <| A3 <| A3 <| A0 <| y_M rfl <| B9 rfl rfl <| y_M rfl <| xN [3,6,7,8] [3] rfl <| B2 <| E4 (β := Nat × List (List UInt8) × Nat) [(.t 6, _), (.t 7, _)] (fun (z : Nat × List (List UInt8) × Nat) => match z with | (i, ps, g) => [(.t 8, iV i), (.t 3, .sl 3 g none 0 ps.length), (.h 3, .obj g 0 1 (ps.map tV))]) (fun (z : Nat × List (List UInt8) × Nat) => match z with | (i, ps, g) => i ≤ ns.length ∧ ps = (ns.take i).map dec) (fun (z : Nat × List (List UInt8) × Nat) => match z with | (i, ps, g) => ns.length - i) (0, [], _) ⟨rfl, rfl, rfl, rfl, rfl, trivial⟩ ⟨Nat.zero_le _, rfl⟩ ?_
 intro z hb
 obtain ⟨i, ps, g⟩ := z
 try dsimp only at hb
 obtain ⟨hi1, hps⟩ := hb
 have hpl : ps.length = i := by rw [hps]; simp; omega
 refine A3 <| A0 <| F8 rfl rfl <| xN [3,6,7,8,9] [3] rfl <| A3 ?_
 refine A5 rfl ?_ ?_ <;> intro hc <;> try simp only [SL] at hc
 ·refine A6 <| A3 <| B2 <| A3 <| A0 <| B1 rfl rfl rfl (fun _ => rfl) (by omega) <| y_I rfl <| y_S rfl <| xN [3,5,6,7,8] [3] rfl <| A0 <| y_M rfl <| y_M rfl ?_
  have hgi := hg i (by omega)
  refine xC1 rfl rfl (d3f (ns.getD i default) (by omega)) ⟨rfl, rfl, rfl⟩ rfl rfl fun g14 => ?_
  refine C4 (es := List.map tV [_]) rfl rfl (dT rfl) rfl rfl (fun _ => B7 (A7 fun _ => rfl)) (fun _ => rfl) ?_
  intro g15
  refine xA rfl rfl rfl rfl (by simp) (by simp) rfl rfl rfl rfl rfl (fun _ => rfl) (by simp only [LN]; omega) (fun _ => rfl) ?_
  intro g16
  (refine xO rfl rfl (by simp) rfl (fun _ => rfl) (fun _ => rfl) ?_; intro g3)
  refine xN [3,6,7,8] [3] rfl <| A0 <| F3 rfl rfl (C2 (by omega)) <| y_M rfl <| xN [3,6,7,8] [3] rfl ?_
  refine ⟨(i + 1, ps ++ [dec (ns.getD i default)], _), ?_, (by simp only; omega), ⟨rfl, rfl, rfl, rfl, rfl, trivial⟩⟩
  exact ⟨by omega, by rw [hps, ← b3u (by omega)]⟩
 refine E6 <| A3 <| A0 <| y_M rfl ?_
 have hpe : ps = ns.map dec := by rw [hps, List.take_of_length_le (by omega)]
 have hje : joinB 44 ps = S9 ns := by rw [hpe]; rfl
 apply xC rfl
 ·apply A9
  ·exact D7 rfl rfl rfl (by (simp; done)) (fun _ => rfl)
  apply A9
  ·exact B4 rfl
  exact C0
 ·exact d3o ps 44 (by simp only [H3]; omega) (by rw [hje]; simp only [H3]; omega)
 refine ⟨⟨rfl, rfl, rfl, dT rfl, rfl⟩, .inr ⟨rfl, rfl⟩, B3, D5 rfl, fun _ => rfl, fun g19 => ?_⟩
 refine y_S rfl <| xN [2] [] rfl <| B0 <| B5 rfl rfl trivial ?_
 rw [hje]

theorem a7v : E7 Tryz.f113 = [0, 2] := by kernel_rfl
theorem a8m (ns : List Int) (hl : ns.length ≤ 1000000) (hnb : ∀ n ∈ ns, -1000000 ≤ n ∧ n ≤ 1000000) : CW (cxT oG) 113 [L ns] = some (tV (X4 ns), []) := by
 have hll := b4y (ns := ns) hnb
 refine E5 rfl Tryz.func113 rfl ⟨by kernel_rfl, rfl, dT rfl, dT rfl, by decide⟩ a7v <| A3 <| A0 <| y_S rfl <| xN [0] [] rfl <| A3 <| A0 <| y_M rfl ?_
 refine xC1 rfl rfl (c6o ns hl hnb) ⟨rfl, rfl, rfl⟩ rfl rfl fun g4 => ?_
 iterate 2 refine b0p rfl rfl (by simp only [H3, List.length_append, List.length_cons, List.length_nil]; omega) ?_
 refine y_S rfl <| xN [2] [] rfl <| B0 <| B5 rfl rfl trivial ?_
 rfl

theorem a6w : E7 Tryz.f104 = [0, 2, 3, 4, 6, 5, 27, 29, 33, 32, 34, 31, 9, 11, 43, 10, 7] := by kernel_rfl
theorem b9d (w : List UInt8) (hs : w.length ≤ 1048576) : CW (cxT oG) 104 [tV w] = some (.tup [.own 1 ((rlX w).map iV), bV (okI w)], []) := by
 have hc1 := c8q 91 w
 have hc2 := c7l 93 (a2l 91 w)
 refine E5 rfl Tryz.func104 rfl ⟨by kernel_rfl, rfl, dT rfl, dT rfl, by decide⟩ a6w <| A3 <| A0 ?_
 (refine A8 rfl rfl (fun _ => rfl) ?_; intro g2)
 refine y_S rfl <| xN [0] [] rfl <| A3 <| A0 <| y_M rfl ?_
 apply xC rfl
 ·apply A9
  ·exact B4 rfl
  apply A9
  ·exact B4 rfl
  exact C0
 ·exact d2j w 91
 refine ⟨⟨rfl, rfl, rfl, dT rfl, rfl⟩, .inl rfl, B3, W4 rfl, fun _ => rfl, fun g14 => ?_⟩
 refine y_M rfl <| y_E rfl <| y_E rfl <| y_S rfl <| y_S rfl <| xN [0,4,5] [] rfl <| A3 <| A0 <| y_M rfl ?_
 apply xC rfl
 ·apply A9
  ·exact B4 rfl
  apply A9
  ·exact B4 rfl
  exact C0
 ·exact d3i (a2l 91 w) 93 (by omega)
 refine ⟨⟨rfl, rfl, rfl, dT rfl, rfl⟩, .inl rfl, B3, W4 rfl, fun _ => rfl, fun g19 => ?_⟩
 refine y_M rfl <| y_E rfl <| y_E rfl <| y_S rfl <| y_S rfl <| xN [0,4,5,6] [] rfl <| A3 <| A3 <| A0 <| y_M rfl <| K7 rfl <| y_M rfl ?_
 refine C8 rfl rfl ?_ ?_ <;> intro hg0 <;> have hg := hg0 <;> try simp only [SG] at hg
 ·refine y_M rfl <| gT rfl rfl <| K7 rfl <| F0 rfl (by assumption) rfl rfl <| xN [0,4,27] [] rfl ?_
  refine A5 rfl ?_ ?_ <;> intro hc <;> try simp only [SL] at hc
  ·refine A3 <| A0 ?_
   (refine A8 rfl rfl (fun _ => rfl) ?_; intro g2)
   refine y_S rfl <| xN [2,3] [2] rfl <| B0 <| D4 (F6 rfl rfl (by simp) (by rfl) (E8 rfl rfl (F4 B8))) ?_
   obtain ⟨h1, h2⟩ := b6b (b8t (w := w) (by simp_all [okB]))
   rw [h1, h2]
   rfl
  have hok : okB w = true := by simp [okB]; constructor <;> assumption
  obtain ⟨ps, hps0⟩ : ∃ ps, ps = splitB 44 (a2r w) := ⟨_, rfl⟩
  have hpl := a0q 44 (a2r w)
  have hpp := a9d 44 (a2r w)
  rw [← hps0] at hpl hpp
  have hil := c8f hok
  refine A6 <| A3 <| A0 ?_
  (refine A8 rfl rfl (fun _ => rfl) ?_; intro g7)
  refine xN [0,4,7] [7] rfl <| A3 <| A3 <| A0 <| y_M rfl <| b2e rfl rfl <| xN [0,4,7,29] [7] rfl ?_
  refine A5 rfl ?_ ?_ <;> intro hc <;> try simp only [SL] at hc
  ·have hin : a2r w ≠ [] := hc
   refine A3 <| A0 <| y_M rfl ?_
   have hps := hps0
   apply X1 rfl
   ·apply A9
    ·exact B4 rfl
    apply A9
    ·exact B4 rfl
    exact C0
   ·exact d0p (a2r w) 44 (by unfold a2r; omega)
   ·exact ⟨rfl, rfl, rfl, dT rfl, rfl⟩
   ·exact .inl rfl
   ·exact B3
   ·exact G4
   ·(intro _; exact D6 (B7 (A7 fun _ => rfl)) rfl)
   intro g31
   rw [← hps]
   try simp only [List.length_map]
   refine G8 rfl rfl <| y_M rfl <| xN [0,7,31,32,33] [7,1000031] rfl <| B2 <| E4 (β := Nat × List Int × Nat) [(.t 0, _), (.t 31, _), (.t 32, _), (.h 1000031, _)] (fun (z : Nat × List Int × Nat) => match z with | (i, ns, g) => [(.t 33, iV i), (.t 7, .sl 7 g none 0 ns.length), (.h 7, .obj g 0 1 (ns.map iV))]) (fun (z : Nat × List Int × Nat) => match z with | (i, ns, g) => i ≤ ps.length ∧ rdA (ps.take i) = some ns) (fun (z : Nat × List Int × Nat) => match z with | (i, ns, g) => ps.length - i) (0, [], _) ⟨rfl, rfl, rfl, rfl, rfl, rfl, rfl, trivial⟩ ⟨Nat.zero_le _, rfl⟩ ?_
   intro z hb
   obtain ⟨i, ns, g⟩ := z
   try dsimp only at hb
   obtain ⟨hi1, hrd⟩ := hb
   have hpi := fun h : i < ps.length => hpp _ (J4 h)
   have hnl := b3a hrd
   rw [List.length_take] at hnl
   refine A3 <| A0 <| F8 rfl rfl <| xN [0,7,31,32,33,34] [7,1000031] rfl <| A3 ?_
   refine A5 rfl ?_ ?_ <;> intro hc <;> try simp only [SL] at hc
   ·refine A6 <| A3 <| B2 <| A3 <| A0 <| C5 rfl rfl rfl rfl (by omega) (by (simp; done)) rfl <| G0 rfl rfl (by omega) (fun _ => rfl) (fun _ => rfl) rfl <| y_S rfl <| xN [0,7,9,31,32,33] [7,1000031] rfl <| A3 <| A0 <| y_M rfl ?_
    rcases hat : Lib.atoiAll (ps.getD i default) with v | _ | _
    ·skip
     apply xC rfl
     ·apply A9
      ·exact B4 rfl
      exact C0
     ·exact (by have hi := c2q (oG := oG) (ps.getD i default) (by omega); unfold atR at hi; rw [hat] at hi; exact hi)
     refine ⟨⟨rfl, rfl, rfl, dT rfl, rfl⟩, .inl rfl, B3, W4 rfl, fun _ => rfl, fun g39 => ?_⟩
     refine y_M rfl <| y_E rfl <| y_E rfl <| y_S rfl <| y_S rfl <| xN [0,7,10,11,31,32,33] [7,1000031] rfl <| A3 <| A3 <| A0 <| y_M rfl <| c8b rfl rfl rfl rfl <| xN [0,7,10,31,32,33,43] [7,1000031] rfl ?_
     refine A5 rfl (fun hc => absurd hc (by decide)) (fun hc => ?_)
     refine A6 <| A0 <| y_M rfl <| y_M rfl <| C4 (es := List.map iV [_]) rfl rfl (dT rfl) rfl rfl (fun _ => B7 (A7 fun _ => rfl)) (fun _ => rfl) ?_
     intro g46
     refine xA rfl rfl rfl rfl (by simp) (by simp) rfl rfl rfl rfl rfl (fun _ => rfl) (by simp only [LN]; omega) (fun _ => rfl) ?_
     intro g47
     (refine xO rfl rfl (by simp) rfl (fun _ => rfl) (fun _ => rfl) ?_; intro g7)
     refine xN [0,7,31,32,33] [7,1000031] rfl <| A0 <| F3 rfl rfl (C2 (by omega)) <| y_M rfl <| xN [0,7,31,32,33] [7,1000031] rfl ?_
     refine ⟨(i + 1, ns ++ [v], _), ?_, (by simp only; omega), ⟨rfl, rfl, rfl, rfl, rfl, rfl, rfl, trivial⟩⟩
     exact ⟨by omega, c7n (by omega) hrd hat⟩
    ·skip
     apply xC rfl
     ·apply A9
      ·exact B4 rfl
      exact C0
     ·exact (by have hi := c2q (oG := oG) (ps.getD i default) (by omega); unfold atR at hi; rw [hat] at hi; exact hi)
     refine ⟨⟨rfl, rfl, rfl, dT rfl, rfl⟩, .inl rfl, B3, W4 rfl, fun _ => rfl, fun g39 => ?_⟩
     refine y_M rfl <| y_E rfl <| y_E rfl <| y_S rfl <| y_S rfl <| xN [0,7,10,11,31,32,33] [7,1000031] rfl <| A3 <| A3 <| A0 <| y_M rfl <| b9p rfl rfl rfl <| xN [0,7,10,31,32,33,43] [7,1000031] rfl ?_
     refine A5 rfl (fun hc => ?_) (fun hc => absurd hc (by decide))
     refine A3 <| A0 ?_
     (refine A8 rfl rfl (fun _ => rfl) ?_; intro g2)
     refine y_S rfl <| xN [2,3] [2] rfl <| B0 <| D4 (F6 rfl rfl (by simp) (by rfl) (E8 rfl rfl (F4 B8))) ?_
     obtain ⟨h1, h2⟩ := b6b (w := w) (by rw [b0f hok hin, ← hps0]; exact b8w (i := i) (by omega) (by intro v hv; rw [hat] at hv; cases hv))
     rw [h1, h2]
     rfl
    skip
    apply xC rfl
    ·apply A9
     ·exact B4 rfl
     exact C0
    ·exact (by have hi := c2q (oG := oG) (ps.getD i default) (by omega); unfold atR at hi; rw [hat] at hi; exact hi)
    refine ⟨⟨rfl, rfl, rfl, dT rfl, rfl⟩, .inl rfl, B3, W4 rfl, fun _ => rfl, fun g39 => ?_⟩
    refine y_M rfl <| y_E rfl <| y_E rfl <| y_S rfl <| y_S rfl <| xN [0,7,10,11,31,32,33] [7,1000031] rfl <| A3 <| A3 <| A0 <| y_M rfl <| b9p rfl rfl rfl <| xN [0,7,10,31,32,33,43] [7,1000031] rfl ?_
    refine A5 rfl (fun hc => ?_) (fun hc => absurd hc (by decide))
    refine A3 <| A0 ?_
    (refine A8 rfl rfl (fun _ => rfl) ?_; intro g2)
    refine y_S rfl <| xN [2,3] [2] rfl <| B0 <| D4 (F6 rfl rfl (by simp) (by rfl) (E8 rfl rfl (F4 B8))) ?_
    obtain ⟨h1, h2⟩ := b6b (w := w) (by rw [b0f hok hin, ← hps0]; exact b8w (i := i) (by omega) (by intro v hv; rw [hat] at hv; cases hv))
    rw [h1, h2]
    rfl
   refine E6 <| A3 <| A0 <| y_M rfl <| y_M rfl ?_
   apply xC rfl
   ·apply A9
    ·exact D7 rfl rfl rfl (by (simp; done)) (fun _ => rfl)
    exact C0
   ·exact a1p ns (by omega)
   refine ⟨⟨rfl, rfl, rfl, dT rfl, rfl⟩, .inr ⟨rfl, rfl⟩, B3, D5 rfl, fun _ => rfl, fun g51 => ?_⟩
   refine y_M rfl ?_
   refine C8 rfl rfl ?_ ?_ <;> intro hg0 <;> have hg := hg0 <;> try simp only [SG] at hg
   ·refine y_M rfl <| gT rfl rfl ?_
    (have hnb := d3v (ns := ns) (by assumption); have hvl := c1s (show vd ns = true by assumption))
    apply xC rfl
    ·apply A9
     ·exact D7 rfl rfl rfl (by (simp; done)) (fun _ => rfl)
     exact C0
    ·exact a8m ns (by omega) hnb
    refine ⟨⟨rfl, rfl, rfl, dT rfl, rfl⟩, .inr ⟨rfl, rfl⟩, B3, D5 rfl, fun _ => rfl, fun g54 => ?_⟩
    refine gT rfl rfl <| y_M rfl <| gT rfl rfl <| b8u rfl rfl <| F7 rfl (by assumption) rfl rfl ?_
    (refine xO rfl rfl (by simp) rfl (fun _ => rfl) (fun _ => rfl) ?_; intro g2)
    refine y_S rfl <| xN [2,3] [2] rfl <| B0 <| D4 (F6 rfl rfl (by simp) (by exact A7 fun _ => rfl) (E8 rfl rfl (F4 B8))) ?_
    (have hx := hin; obtain ⟨h1, h2⟩ := a5s (ns := ns) (w := w) (by rw [b0f hok hx, ← hps0]; rw [List.take_of_length_le (by omega)] at hrd; exact hrd))
    (rw [h1, h2, hg, Bool.true_and]; rfl)
   refine gF rfl rfl <| gF rfl rfl <| gF rfl rfl <| F0 rfl (by assumption) rfl rfl ?_
   (refine xO rfl rfl (by simp) rfl (fun _ => rfl) (fun _ => rfl) ?_; intro g2)
   refine y_S rfl <| xN [2,3] [2] rfl <| B0 <| D4 (F6 rfl rfl (by simp) (by exact A7 fun _ => rfl) (E8 rfl rfl (F4 B8))) ?_
   (have hx := hin; obtain ⟨h1, h2⟩ := a5s (ns := ns) (w := w) (by rw [b0f hok hx, ← hps0]; rw [List.take_of_length_le (by omega)] at hrd; exact hrd))
   (rw [h1, h2, hg, Bool.false_and]; rfl)
  have hie : a2r w = [] := hc
  refine A6 <| A3 <| A0 <| y_M rfl <| y_M rfl ?_
  apply xC rfl
  ·apply A9
   ·exact a6i rfl rfl rfl rfl rfl
   exact C0
  ·exact a1p [] (by decide)
  refine ⟨⟨rfl, rfl, rfl, dT rfl, rfl⟩, .inr ⟨rfl, rfl⟩, B3, D5 rfl, fun _ => rfl, fun g51 => ?_⟩
  refine y_M rfl ?_
  refine C8 rfl rfl ?_ ?_ <;> intro hg0 <;> have hg := hg0 <;> try simp only [SG] at hg
  ·refine y_M rfl <| gT rfl rfl ?_
   skip
   apply xC rfl
   ·apply A9
    ·exact a6i rfl rfl rfl rfl rfl
    exact C0
   ·exact a8m [] (by decide) (by simp)
   refine ⟨⟨rfl, rfl, rfl, dT rfl, rfl⟩, .inr ⟨rfl, rfl⟩, B3, D5 rfl, fun _ => rfl, fun g54 => ?_⟩
   refine gT rfl rfl <| y_M rfl <| gT rfl rfl <| b8u rfl rfl <| F7 rfl rfl rfl rfl ?_
   (refine I0 rfl rfl (by (simp; done)) rfl (fun _ => (B7 (by rfl))) (fun _ => rfl) ?_; intro g2)
   refine y_S rfl <| xN [2,3] [2] rfl <| B0 <| D4 (F6 rfl rfl (by simp) (by rfl) (E8 rfl rfl (F4 B8))) ?_
   obtain ⟨h1, h2⟩ := a5s (ns := []) (w := w) (c4o hok hie)
   (rw [h1, h2, hg, Bool.true_and]; rfl)
  refine gF rfl rfl <| gF rfl rfl <| gF rfl rfl <| F0 rfl (by assumption) rfl rfl ?_
  (refine I0 rfl rfl (by (simp; done)) rfl (fun _ => (B7 (by rfl))) (fun _ => rfl) ?_; intro g2)
  refine y_S rfl <| xN [2,3] [2] rfl <| B0 <| D4 (F6 rfl rfl (by simp) (by rfl) (E8 rfl rfl (F4 B8))) ?_
  obtain ⟨h1, h2⟩ := a5s (ns := []) (w := w) (c4o hok hie)
  (rw [h1, h2, hg, Bool.false_and]; rfl)
 refine gF rfl rfl <| F7 rfl (by assumption) rfl rfl <| xN [0,4,27] [] rfl ?_
 refine A5 rfl (fun hc => ?_) (fun hc => absurd hc (by decide))
 refine A3 <| A0 ?_
 (refine A8 rfl rfl (fun _ => rfl) ?_; intro g2)
 refine y_S rfl <| xN [2,3] [2] rfl <| B0 <| D4 (F6 rfl rfl (by simp) (by rfl) (E8 rfl rfl (F4 B8))) ?_
 obtain ⟨h1, h2⟩ := b6b (b8t (w := w) (by simp_all [okB]))
 rw [h1, h2]
 rfl

theorem a9h : E7 Tryz.f63 = [0, 2, 3, 4, 6, 12, 5] := by kernel_rfl
theorem Y8 (w : List UInt8) (hs : w.length ≤ 1048576) : CW (cxT oG) 63 [tV w] = some (.tup [tV (if (numsOf w).isSome = true then lW else w), .own 1 (((numsOf w).getD []).map iV), bV ((numsOf w).isSome || decide (0 ≤ rch (bA w)))], []) := by
 refine E5 rfl Tryz.func63 rfl ⟨by kernel_rfl, rfl, dT rfl, dT rfl, by decide⟩ a9h <| A3 <| A0 <| y_S rfl ?_
 (refine A8 rfl rfl (fun _ => rfl) ?_; intro g3)
 refine y_S rfl <| xN [0] [] rfl <| A3 <| A3 <| A0 <| y_M rfl ?_
 apply xC rfl
 ·apply A9
  ·exact B4 rfl
  exact C0
 ·exact (by have hi := b9d (oG := oG) w hs; rw [d3c] at hi; exact hi)
 refine ⟨⟨rfl, rfl, rfl, dT rfl, rfl⟩, .inr ⟨G9 _ _, rfl⟩, B3, H1 (L8 fun _ => J7 rfl L6), fun _ => rfl, fun g9 => ?_⟩
 simp only [List.length_map]
 refine y_M rfl <| y_E rfl <| y_E rfl ?_
 (refine xO rfl rfl (by simp) rfl (fun _ => rfl) (fun _ => rfl) ?_; intro g5)
 refine y_S rfl <| xN [0,5,6] [5] rfl <| A3 <| A0 <| y_M rfl <| xN [0,5,12] [5] rfl ?_
 refine A5 rfl ?_ ?_ <;> intro hc <;> try simp only [SL] at hc
 ·obtain ⟨ns, hns⟩ := Option.isSome_iff_exists.1 hc
  have hraw := d3g hns
  refine A3 <| A0 <| y_M rfl <| y_S rfl ?_
  (refine xO rfl rfl (by simp) rfl (fun _ => rfl) (fun _ => rfl) ?_; intro g3)
  refine y_S rfl <| xN [2,3,4] [3] rfl <| B0 <| D4 (E8 rfl rfl (F6 rfl rfl (by simp) (by exact A7 fun _ => rfl) (E8 rfl rfl (F4 B8)))) ?_
  rw [hns, hraw]
  rfl
 have hnn : numsOf w = none := by simpa using hc
 have hwo := d1e w
 refine A6 <| A3 <| A0 <| y_M rfl <| y_M rfl <| b2e rfl rfl <| y_M rfl ?_
 refine C8 rfl rfl ?_ ?_ <;> intro hg0 <;> have hg := hg0 <;> try simp only [SG] at hg
 ·refine y_M rfl <| gT rfl rfl ?_
  refine xC1 rfl rfl (a3z (bA w)) ⟨rfl, rfl, rfl⟩ rfl rfl fun g19 => ?_
  refine gT rfl rfl <| b8o rfl rfl <| F7 rfl (by assumption) rfl rfl <| y_S rfl ?_
  (refine A8 rfl rfl (fun _ => rfl) ?_; intro g3)
  refine y_S rfl <| xN [2,3,4] [3] rfl <| B0 <| D4 (E8 rfl rfl (F6 rfl rfl (by simp) (by rfl) (E8 rfl rfl (F4 B8)))) ?_
  rw [hnn, ← hwo]
  simp_all
  try rfl
 refine gF rfl rfl <| gF rfl rfl <| F0 rfl (by assumption) rfl rfl <| y_S rfl ?_
 (refine A8 rfl rfl (fun _ => rfl) ?_; intro g3)
 refine y_S rfl <| xN [2,3,4] [3] rfl <| B0 <| D4 (E8 rfl rfl (F6 rfl rfl (by simp) (by rfl) (E8 rfl rfl (F4 B8)))) ?_
 rw [hnn, ← hwo]
 simp_all
 try rfl

theorem b7c : E7 Tryz.f112 = [0, 2] := by kernel_rfl
theorem c4i (xs : List Int) (hx : xs.length ≤ H3) : CW (cxT oG) 112 [.own 1 (xs.map iV)] = some (.own 1 (xs.map iV), []) := by
 refine E5 rfl Tryz.func112 rfl ⟨by kernel_rfl, rfl, dT rfl, dT rfl, by decide⟩ b7c <| A3 <| A0 ?_
 (refine A8 rfl rfl (fun _ => rfl) ?_; intro g2)
 refine xN [0] [0] rfl <| A3 <| A0 <| y_M rfl <| y_M rfl <| G8 rfl rfl <| y_M rfl <| G8 rfl rfl ?_
 refine d3d rfl rfl rfl rfl rfl rfl (fun hz => ?_) (fun hz => ?_)
 ·skip
  (refine A8 rfl rfl (fun _ => rfl) ?_; intro g2)
  refine xN [2] [0,2] rfl <| B0 <| K1 rfl rfl (by (simp; done)) (by rfl) trivial ?_
  (have h0 : xs = [] := (by simpa using hz); subst h0; rfl)
 skip
 (refine xO rfl rfl (by simp) rfl (fun _ => rfl) (fun _ => rfl) ?_; intro g2)
 refine xN [2] [0,2] rfl <| B0 <| K1 rfl rfl (by (simp; done)) (by exact A7 fun _ => rfl) trivial ?_
 rfl

theorem b7r : E7 Tryz.f105 = [0, 2] := by kernel_rfl
theorem c4l (x : List Int) (hl : x.length ≤ 1048576) : CW (cxT oG) 105 [L x] = some (.own 1 (x.map iV), []) := by
 refine E5 rfl Tryz.func105 rfl ⟨by kernel_rfl, rfl, dT rfl, dT rfl, by decide⟩ b7r <| A3 <| A0 ?_
 (refine A8 rfl rfl (fun _ => rfl) ?_; intro g2)
 refine xN [0] [] rfl <| A3 <| A0 <| y_M rfl ?_
 apply xC rfl
 ·apply A9
  ·exact B4 rfl
  exact C0
 ·exact c4k x (by simp only [H3]; omega)
 refine ⟨⟨rfl, rfl, rfl, dT rfl, rfl⟩, .inl rfl, B3, G4, fun _ => rfl, fun g4 => ?_⟩
 simp only [List.length_map]
 apply xC rfl
 ·apply A9
  ·exact b0i rfl rfl (by (simp; done)) (A7 fun _ => rfl)
  exact C0
 ·exact c4i x (by simp only [H3]; omega)
 refine ⟨⟨rfl, rfl, rfl, dT rfl, rfl⟩, .inl rfl, B3, G4, fun _ => rfl, fun g5 => ?_⟩
 simp only [List.length_map]
 (refine xO rfl rfl (by simp) rfl (fun _ => rfl) (fun _ => rfl) ?_; intro g2)
 refine xN [2] [2] rfl <| B0 <| K1 rfl rfl (by simp) (by exact A7 fun _ => rfl) trivial ?_
 rfl

theorem b1s : E7 Tryz.f126 = [0, 2, 4, 10, 5, 3, 27] := by kernel_rfl
theorem c5x (xs : List Int) (hl : xs.length ≤ 1000) : CW (cxT oG) 126 [L xs] = some (.own 1 ((Q7 xs).map iV), []) := by
 refine E5 rfl Tryz.func126 rfl ⟨by kernel_rfl, rfl, dT rfl, dT rfl, by decide⟩ b1s <| A3 <| A0 ?_
 (refine A8 rfl rfl (fun _ => rfl) ?_; intro g2)
 refine xN [0] [] rfl <| A3 <| A0 <| C4 (es := List.map iV []) rfl rfl (dT rfl) rfl rfl (fun _ => B7 (A7 fun _ => rfl)) (fun _ => rfl) ?_
 intro g6
 (refine xO rfl rfl (by simp) rfl (fun _ => rfl) (fun _ => rfl) ?_; intro g3)
 refine xN [0,3] [3] rfl <| A3 <| A3 <| A0 <| y_S rfl <| xN [0,3,4] [3] rfl <| B2 <| E4 (β := Nat × List Int × Nat) [(.t 0, _)] (fun (z : Nat × List Int × Nat) => match z with | (i, out, g) => [(.t 4, iV i), (.t 3, .sl 3 g none 0 out.length), (.h 3, .obj g 0 1 (out.map iV))]) (fun (z : Nat × List Int × Nat) => match z with | (i, out, g) => i ≤ xs.length ∧ out = Q7 (xs.take i)) (fun (z : Nat × List Int × Nat) => match z with | (i, out, g) => xs.length - i) (0, [], _) ⟨rfl, rfl, rfl, rfl, trivial⟩ ⟨Nat.zero_le _, rfl⟩ ?_
 intro z hb
 obtain ⟨i, out, g⟩ := z
 try dsimp only at hb
 obtain ⟨hi1, hi2⟩ := hb
 have hol : out.length = i := by rw [hi2, a2b, List.length_take]; omega
 refine A3 <| A3 <| A0 <| y_M rfl <| y_M rfl <| B9 rfl rfl <| F8 rfl rfl <| xN [0,3,4,10] [3] rfl ?_
 refine A5 rfl ?_ ?_ <;> intro hc <;> try simp only [SL] at hc
 ·refine A6 <| A3 <| B2 <| A3 <| A0 <| y_S rfl <| xN [0,3,4,5] [3] rfl <| A3 <| B2 <| E4 (β := Nat) [(.t 0, _), (.t 3, _), (.t 4, _), (.h 3, _)] (fun (k : Nat) => [(.t 5, iV k)]) (fun (k : Nat) => k ≤ out.length ∧ ∀ j, j < k → out.getD j default ≤ xs.getD i default) (fun (k : Nat) => out.length - k) 0 ⟨rfl, rfl, rfl, rfl, rfl, trivial⟩ ⟨Nat.zero_le _, fun j h => by omega⟩ ?_
  intro k hb
  obtain ⟨hk1, hk2⟩ := hb
  refine A3 <| A3 <| A0 <| y_M rfl <| y_M rfl <| G8 rfl rfl <| F8 rfl rfl <| y_M rfl ?_
  refine C8 rfl rfl ?_ ?_ <;> intro hg0 <;> have hg := hg0 <;> try simp only [SG] at hg
  ·refine y_M rfl <| gT rfl rfl <| y_M rfl <| gT rfl rfl <| C5 rfl rfl rfl rfl (by omega) (by (simp; done)) rfl <| gT rfl rfl <| G0 rfl rfl (by omega) (fun _ => rfl) (fun _ => rfl) rfl <| gT rfl rfl <| y_M rfl <| gT rfl rfl <| y_M rfl <| gT rfl rfl <| B1 rfl rfl rfl (fun _ => rfl) (by omega) <| gT rfl rfl <| y_I rfl <| gT rfl rfl <| a4n rfl rfl <| F7 rfl (by assumption) rfl rfl ?_
   refine J9 ⟨fun _ => ⟨by decide +kernel, by decide +kernel⟩, [(.t 0, _), (.t 3, _), (.t 4, _), (.t 5, _), (.t 27, _), (.h 3, _)], ⟨rfl, rfl, rfl, rfl, rfl, rfl, rfl, rfl, rfl, rfl, rfl, rfl, trivial⟩, ?_⟩
   refine A5 rfl ?_ ?_ <;> intro hc <;> try simp only [SL] at hc
   ·refine A6 <| B2 <| A0 <| y_M rfl <| F3 rfl rfl (C2 (by omega)) <| y_S rfl <| xN [0,3,4,5] [3] rfl ?_
    refine ⟨k + 1, ⟨by omega, fun a ha => by rcases Nat.lt_succ_iff_lt_or_eq.1 ha with h | h; exact hk2 a h; subst h; exact hc⟩, (by omega), ⟨rfl, rfl, rfl, rfl, rfl, trivial⟩⟩
   refine E6 <| A0 <| C4 (es := List.map iV []) rfl rfl (dT rfl) rfl rfl (fun _ => B7 (A7 fun _ => rfl)) (fun _ => rfl) ?_
   intro g30
   refine y_M rfl <| y_M rfl <| U6 rfl rfl rfl (G7 rfl) (by omega) rfl <| P5 rfl rfl rfl rfl (by decide) rfl (by (simp; done)) (by omega) rfl rfl rfl (dT rfl) (fun _ => ⟨rfl, rfl, rfl⟩) (by simp only [H3]; (simp only [List.length_nil, List.length_cons, List.length_append, Nat.zero_add, List.length_map]; omega)) (fun _ => rfl) ?_
   intro g34
   refine y_M rfl <| y_M rfl <| B1 rfl rfl rfl (fun _ => rfl) (by omega) <| y_I rfl <| C4 (es := List.map iV [_]) rfl rfl (dT rfl) rfl rfl (fun _ => B7 (A7 fun _ => rfl)) (fun _ => rfl) ?_
   intro g39
   refine N2 rfl rfl rfl rfl (by (simp; done)) (by simp) (by decide) rfl rfl rfl rfl (dT rfl) (fun _ => ⟨rfl, rfl⟩) (by simp only [H3]; (simp; omega)) (fun _ => rfl) ?_
   intro g40
   refine y_M rfl <| y_M rfl <| a0f rfl rfl rfl S2 (G7 rfl) (by omega) rfl <| P5 rfl rfl rfl rfl (by decide) rfl (by (simp; done)) (by omega) rfl rfl rfl (dT rfl) (fun _ => ⟨rfl, rfl, rfl⟩) (by simp only [H3]; (simp; omega)) (fun _ => rfl) ?_
   intro g44
   (refine xO rfl rfl (by simp) rfl (fun _ => rfl) (fun _ => rfl) ?_; intro g3)
   refine J9 ⟨fun _ => ⟨by decide +kernel, by decide +kernel⟩, [(.t 0, _), (.t 3, _), (.t 4, _), (.h 3, _)], ⟨rfl, rfl, rfl, rfl, rfl, rfl, rfl, rfl, trivial⟩, ?_⟩
   refine A0 <| y_M rfl <| F3 rfl rfl (C2 (by omega)) <| y_S rfl <| xN [0,3,4] [3] rfl ?_
   refine ⟨(i + 1, _, _), ?_, (by simp only; omega), ⟨rfl, rfl, rfl, rfl, trivial⟩⟩
   exact ⟨by omega, by rw [b0u (by omega), ← hi2]; exact a8o (hi2 ▸ T1 _) hk1 hk2 fun h => by omega⟩
  iterate 8 refine gF rfl rfl ?_
  refine F0 rfl (by assumption) rfl rfl ?_
  refine J9 ⟨fun _ => ⟨by decide +kernel, by decide +kernel⟩, [(.t 0, _), (.t 3, _), (.t 4, _), (.t 5, _), (.t 27, _), (.h 3, _)], ⟨rfl, rfl, rfl, rfl, rfl, rfl, rfl, rfl, rfl, rfl, rfl, rfl, trivial⟩, ?_⟩
  refine A5 rfl (fun hc => absurd hc (by decide)) (fun hc => ?_)
  refine E6 <| A0 <| C4 (es := List.map iV []) rfl rfl (dT rfl) rfl rfl (fun _ => B7 (A7 fun _ => rfl)) (fun _ => rfl) ?_
  intro g30
  refine y_M rfl <| y_M rfl <| U6 rfl rfl rfl (G7 rfl) (by omega) rfl <| P5 rfl rfl rfl rfl (by decide) rfl (by (simp; done)) (by omega) rfl rfl rfl (dT rfl) (fun _ => ⟨rfl, rfl, rfl⟩) (by simp only [H3]; (simp only [List.length_nil, List.length_cons, List.length_append, Nat.zero_add, List.length_map]; omega)) (fun _ => rfl) ?_
  intro g34
  refine y_M rfl <| y_M rfl <| B1 rfl rfl rfl (fun _ => rfl) (by omega) <| y_I rfl <| C4 (es := List.map iV [_]) rfl rfl (dT rfl) rfl rfl (fun _ => B7 (A7 fun _ => rfl)) (fun _ => rfl) ?_
  intro g39
  refine N2 rfl rfl rfl rfl (by (simp; done)) (by simp) (by decide) rfl rfl rfl rfl (dT rfl) (fun _ => ⟨rfl, rfl⟩) (by simp only [H3]; (simp; omega)) (fun _ => rfl) ?_
  intro g40
  refine y_M rfl <| y_M rfl <| a0f rfl rfl rfl S2 (G7 rfl) (by omega) rfl <| P5 rfl rfl rfl rfl (by decide) rfl (by (simp; done)) (by omega) rfl rfl rfl (dT rfl) (fun _ => ⟨rfl, rfl, rfl⟩) (by simp only [H3]; (simp; omega)) (fun _ => rfl) ?_
  intro g44
  (refine xO rfl rfl (by simp) rfl (fun _ => rfl) (fun _ => rfl) ?_; intro g3)
  refine J9 ⟨fun _ => ⟨by decide +kernel, by decide +kernel⟩, [(.t 0, _), (.t 3, _), (.t 4, _), (.h 3, _)], ⟨rfl, rfl, rfl, rfl, rfl, rfl, rfl, rfl, trivial⟩, ?_⟩
  refine A0 <| y_M rfl <| F3 rfl rfl (C2 (by omega)) <| y_S rfl <| xN [0,3,4] [3] rfl ?_
  refine ⟨(i + 1, _, _), ?_, (by simp only; omega), ⟨rfl, rfl, rfl, rfl, trivial⟩⟩
  exact ⟨by omega, by rw [b0u (by omega), ← hi2]; exact a8o (hi2 ▸ T1 _) hk1 hk2 fun h => by omega⟩
 refine E6 <| A3 <| A0 <| y_M rfl ?_
 (refine xO rfl rfl (by simp) rfl (fun _ => rfl) (fun _ => rfl) ?_; intro g2)
 refine xN [2] [2] rfl <| B0 <| K1 rfl rfl (by simp) (by exact A7 fun _ => rfl) trivial ?_
 rw [hi2, List.take_of_length_le (by omega)]

theorem b8l : E7 Tryz.f110 = [0, 2, 8, 7, 9, 6, 5, 3] := by kernel_rfl
theorem d2v (x : List Int) (hv : vl x = true) : CW (cxT oG) 110 [L x] = some (iV x.sum, []) := by
 have hx40 := (S8.1 hv).1
 have hgb := Y1 hv
 refine E5 rfl Tryz.func110 rfl ⟨by kernel_rfl, rfl, dT rfl, dT rfl, by decide⟩ b8l <| A3 <| A0 <| y_S rfl <| xN [0] [] rfl <| A3 <| A0 <| y_S rfl <| xN [0,3] [] rfl <| A3 <| A3 <| A0 <| y_M rfl <| B9 rfl rfl <| y_M rfl <| xN [3,6,7,8] [] rfl <| B2 <| E4 (β := Nat × Int) [(.t 6, _), (.t 7, _)] (fun (z : Nat × Int) => match z with | (i, a) => [(.t 8, iV i), (.t 3, iV a)]) (fun (z : Nat × Int) => match z with | (i, a) => i ≤ x.length ∧ a = prS (G5 x) i) (fun (z : Nat × Int) => match z with | (i, a) => x.length - i) (0, 0) ⟨rfl, rfl, rfl, rfl, trivial⟩ ⟨Nat.zero_le _, rfl⟩ ?_
 intro z hb
 obtain ⟨i, a⟩ := z
 try dsimp only at hb
 obtain ⟨hi1, ha⟩ := hb
 have hsb := c1e hv i
 have hgi : -100000 ≤ x.getD i default ∧ x.getD i default ≤ 100000 := hgb i
 rw [← ha] at hsb
 refine A3 <| A0 <| F8 rfl rfl <| xN [3,6,7,8,9] [] rfl <| A3 ?_
 refine A5 rfl ?_ ?_ <;> intro hc <;> try simp only [SL] at hc
 ·refine A6 <| A3 <| B2 <| A3 <| A0 <| B1 rfl rfl rfl (fun _ => rfl) (by omega) <| y_I rfl <| y_S rfl <| xN [3,5,6,7,8] [] rfl <| A0 <| y_M rfl <| y_M rfl <| F3 rfl rfl (C2 (by omega)) <| y_S rfl <| xN [3,6,7,8] [] rfl <| A0 <| F3 rfl rfl (C2 (by omega)) <| y_M rfl <| xN [3,6,7,8] [] rfl ?_
  refine ⟨(i + 1, a + x.getD i default), ⟨by omega, by rw [prS, ha]; rfl⟩, (by simp only; omega), ⟨rfl, rfl, rfl, rfl, trivial⟩⟩
 refine E6 <| A3 <| A0 <| y_M rfl <| y_S rfl <| xN [2] [] rfl <| B0 <| B5 rfl rfl trivial ?_
 rw [ha, show i = x.length by omega, b4p]

theorem b9i : E7 Tryz.f129 = [0, 2, 4, 8, 3] := by kernel_rfl
theorem d3q (x : List Int) (hv : vl x = true) : CW (cxT oG) 129 [L x] = some (iV x.sum, []) := by
 have hx40 := (S8.1 hv).1
 have hgb := Y1 hv
 refine E5 rfl Tryz.func129 rfl ⟨by kernel_rfl, rfl, dT rfl, dT rfl, by decide⟩ b9i <| A3 <| A0 <| y_S rfl <| xN [0] [] rfl <| A3 <| A0 <| y_S rfl <| xN [0,3] [] rfl <| A3 <| A3 <| A0 <| y_S rfl <| xN [0,3,4] [] rfl <| B2 <| E4 (β := Nat × Int) [(.t 0, _)] (fun (z : Nat × Int) => match z with | (i, a) => [(.t 4, iV i), (.t 3, iV a)]) (fun (z : Nat × Int) => match z with | (i, a) => i ≤ x.length ∧ a = prS (G5 x) i) (fun (z : Nat × Int) => match z with | (i, a) => x.length - i) (0, 0) ⟨rfl, rfl, rfl, trivial⟩ ⟨Nat.zero_le _, rfl⟩ ?_
 intro z hb
 obtain ⟨i, a⟩ := z
 try dsimp only at hb
 obtain ⟨hi1, ha⟩ := hb
 have hsb := c1e hv i
 have hgi : -100000 ≤ x.getD i default ∧ x.getD i default ≤ 100000 := hgb i
 rw [← ha] at hsb
 refine A3 <| A3 <| A0 <| y_M rfl <| y_M rfl <| B9 rfl rfl <| F8 rfl rfl <| xN [0,3,4,8] [] rfl ?_
 refine A5 rfl ?_ ?_ <;> intro hc <;> try simp only [SL] at hc
 ·refine A6 <| A3 <| B2 <| A0 <| y_M rfl <| y_M rfl <| y_M rfl <| B1 rfl rfl rfl (fun _ => rfl) (by omega) <| y_I rfl <| F3 rfl rfl (C2 (by omega)) <| y_S rfl <| xN [0,3,4] [] rfl <| A0 <| y_M rfl <| F3 rfl rfl (C2 (by omega)) <| y_S rfl <| xN [0,3,4] [] rfl ?_
  refine ⟨(i + 1, a + x.getD i default), ⟨by omega, by rw [prS, ha]; rfl⟩, (by simp only; omega), ⟨rfl, rfl, rfl, trivial⟩⟩
 refine E6 <| A3 <| A0 <| y_M rfl <| y_S rfl <| xN [2] [] rfl <| B0 <| B5 rfl rfl trivial ?_
 rw [ha, show i = x.length by omega, b4p]

theorem b3x : E7 Tryz.f109 = [0, 2, 13, 12, 14, 11, 4, 3, 23, 22, 24, 21, 5, 7, 27, 37] := by kernel_rfl
theorem c9u (x : List Int) (hv : vl x = true) : CW (cxT oG) 109 [L x] = some (.own 1 ((rkI x).map iV), []) := by
 have hx40 := (S8.1 hv).1
 have hgb := Y1 hv
 refine E5 rfl Tryz.func109 rfl ⟨by kernel_rfl, rfl, dT rfl, dT rfl, by decide⟩ b3x <| A3 <| A0 ?_
 (refine A8 rfl rfl (fun _ => rfl) ?_; intro g2)
 refine xN [0] [] rfl <| A3 <| A0 <| y_M rfl <| B9 rfl rfl <| a0e (f := iV) (x0 := 0) rfl rfl rfl rfl rfl (by simp only [H3]; omega) (dT rfl) (fun _ => B7 (by exact A7 fun _ => rfl)) (fun _ => rfl) ?_
 intro g10
 (refine xO rfl rfl (by simp) rfl (fun _ => rfl) (fun _ => rfl) ?_; intro g3)
 refine xN [0,3] [3] rfl <| A3 <| A3 <| A0 <| y_M rfl <| B9 rfl rfl <| y_M rfl <| xN [0,3,11,12,13] [3] rfl <| B2 ?_
 refine E4 (β := Nat × List Int) [(.t 0, _), (.t 3, _), (.t 11, _), (.t 12, _)] (fun (z : Nat × List Int) => match z with | (i, l) => [(.t 13, iV i), (.h 3, .obj g3 0 1 (l.map iV))]) (fun (z : Nat × List Int) => match z with | (i, l) => i ≤ x.length ∧ P9 x.length (fun i => 1 + prS (rkT x (G5 x i)) x.length) (fun _ => 0) i l) (fun (z : Nat × List Int) => match z with | (i, l) => x.length - i) (0, List.replicate x.length 0) ⟨rfl, rfl, rfl, rfl, rfl, rfl, trivial⟩ ⟨Nat.zero_le _, by simp, fun j hj => by rw [if_neg (by omega)]; simp [List.getD_eq_getElem?_getD, hj]⟩ ?_
 intro z hb
 obtain ⟨i, l⟩ := z
 try dsimp only at hb
 obtain ⟨hi1, hf⟩ := hb
 have hfl := hf.1
 refine A3 <| A0 <| F8 rfl rfl <| xN [0,3,11,12,13,14] [3] rfl <| A3 ?_
 refine A5 rfl ?_ ?_ <;> intro hc <;> try simp only [SL] at hc
 ·refine A6 <| A3 <| B2 <| A3 <| A0 <| y_M rfl <| B1 rfl rfl rfl (fun _ => rfl) (by omega) <| y_I rfl <| y_S rfl <| y_S rfl <| xN [0,3,4,5,11,12,13] [3] rfl <| A3 <| A0 <| y_M rfl <| y_M rfl <| C5 rfl rfl rfl rfl (by omega) (by (simp; omega)) rfl <| H8 rfl rfl rfl (by omega) (fun _ _ => ⟨rfl, rfl, dT rfl, dT rfl, rfl, rfl⟩) (by decide) (by exact B7 (A7 fun _ => rfl)) <| xN [0,3,4,5,11,12,13] [3] rfl <| A3 <| A0 <| y_M rfl <| B9 rfl rfl <| y_M rfl <| xN [0,3,4,5,11,12,13,21,22,23] [3] rfl <| B2 <| E4 (β := Nat × List Int) [(.t 0, _), (.t 3, _), (.t 4, _), (.t 5, _), (.t 11, _), (.t 12, _), (.t 13, _), (.t 21, _), (.t 22, _)] (fun (z : Nat × List Int) => match z with | (k, l2) => [(.t 23, iV k), (.h 3, .obj g3 0 1 (l2.map iV))]) (fun (z : Nat × List Int) => match z with | (k, l2) => k ≤ x.length ∧ l2 = l.set i (1 + prS (rkT x (G5 x i)) k)) (fun (z : Nat × List Int) => match z with | (k, l2) => x.length - k) (0, l.set i 1) ⟨rfl, rfl, rfl, rfl, rfl, rfl, rfl, rfl, rfl, rfl, rfl, trivial⟩ ⟨Nat.zero_le _, rfl⟩ ?_
  intro z hb
  obtain ⟨k, l2⟩ := z
  try dsimp only at hb
  obtain ⟨hk1, hl2⟩ := hb
  have hl2l : l2.length = x.length := by rw [hl2]; simp [hfl]
  have hl2i : l2.getD i default = 1 + prS (rkT x (G5 x i)) k := by rw [hl2, a2u _ _ _ _ (by omega), if_pos rfl]
  have hrb := d3z x (G5 x i) k
  refine A3 <| A0 <| F8 rfl rfl <| xN [0,3,4,5,11,12,13,21,22,23,24] [3] rfl <| A3 ?_
  refine A5 rfl ?_ ?_ <;> intro hc <;> try simp only [SL] at hc
  ·refine A6 <| A3 <| B2 <| A3 <| A0 <| B1 rfl rfl rfl (fun _ => rfl) (by omega) <| y_I rfl <| y_S rfl <| xN [0,3,4,5,7,11,12,13,21,22,23] [3] rfl <| B2 <| A3 <| A0 <| y_M rfl <| y_M rfl <| F8 rfl rfl <| y_S rfl <| xN [0,3,4,5,7,11,12,13,21,22,23,27] [3] rfl ?_
   refine A5 rfl ?_ ?_ <;> intro hc <;> try simp only [SL] at hc
   ·refine A0 <| y_M rfl <| y_M rfl <| C5 rfl rfl rfl rfl (by omega) (by (simp; omega)) rfl <| G0 rfl rfl (by omega) (fun _ => rfl) (fun _ => rfl) rfl <| F3 rfl rfl (C2 (by omega)) <| C5 rfl rfl rfl rfl (by omega) (by (simp; omega)) rfl <| H8 rfl rfl rfl (by omega) (fun _ _ => ⟨rfl, rfl, dT rfl, dT rfl, rfl, rfl⟩) (by decide) (by exact B7 (A7 fun _ => rfl)) <| xN [0,3,4,5,11,12,13,21,22,23] [3] rfl <| A0 <| F3 rfl rfl (C2 (by omega)) <| y_M rfl <| xN [0,3,4,5,11,12,13,21,22,23] [3] rfl ?_
    refine ⟨(k + 1, l2.set i (l2.getD i default + 2)), ?_, (by simp only; omega), ⟨rfl, rfl, rfl, rfl, rfl, rfl, rfl, rfl, rfl, rfl, rfl, trivial⟩⟩
    have hrs : prS (rkT x (G5 x i)) (k + 1) = prS (rkT x (G5 x i)) k + rkT x (G5 x i) k := rfl
    exact ⟨by omega, by rw [hl2i, hl2, List.set_set, hrs, rkT, if_pos (by assumption), Int.add_assoc]⟩
   refine A3 <| A0 <| y_M rfl <| y_M rfl <| X3 rfl rfl <| y_S rfl <| xN [0,3,4,5,11,12,13,21,22,23,37] [3] rfl ?_
   refine A5 rfl ?_ ?_ <;> intro hc <;> try simp only [SL] at hc
   ·refine A0 <| y_M rfl <| y_M rfl <| C5 rfl rfl rfl rfl (by omega) (by (simp; omega)) rfl <| G0 rfl rfl (by omega) (fun _ => rfl) (fun _ => rfl) rfl <| F3 rfl rfl (C2 (by omega)) <| C5 rfl rfl rfl rfl (by omega) (by (simp; omega)) rfl <| H8 rfl rfl rfl (by omega) (fun _ _ => ⟨rfl, rfl, dT rfl, dT rfl, rfl, rfl⟩) (by decide) (by exact B7 (A7 fun _ => rfl)) <| xN [0,3,4,5,11,12,13,21,22,23] [3] rfl <| A0 <| F3 rfl rfl (C2 (by omega)) <| y_M rfl <| xN [0,3,4,5,11,12,13,21,22,23] [3] rfl ?_
    refine ⟨(k + 1, l2.set i (l2.getD i default + 1)), ?_, (by simp only; omega), ⟨rfl, rfl, rfl, rfl, rfl, rfl, rfl, rfl, rfl, rfl, rfl, trivial⟩⟩
    have hrs : prS (rkT x (G5 x i)) (k + 1) = prS (rkT x (G5 x i)) k + rkT x (G5 x i) k := rfl
    exact ⟨by omega, by rw [hl2i, hl2, List.set_set, hrs, rkT, if_neg (by unfold G5; omega), if_pos (by assumption), Int.add_assoc]⟩
   refine A6 <| A0 <| F3 rfl rfl (C2 (by omega)) <| y_M rfl <| xN [0,3,4,5,11,12,13,21,22,23] [3] rfl ?_
   refine ⟨(k + 1, l2), ?_, (by simp only; omega), ⟨rfl, rfl, rfl, rfl, rfl, rfl, rfl, rfl, rfl, rfl, rfl, trivial⟩⟩
   have hrs : prS (rkT x (G5 x i)) (k + 1) = prS (rkT x (G5 x i)) k + rkT x (G5 x i) k := rfl
   exact ⟨by omega, by rw [hl2, hrs, rkT, if_neg (by unfold G5; omega), if_neg (by unfold G5; omega), Int.add_zero]⟩
  refine E6 <| A0 <| F3 rfl rfl (C2 (by omega)) <| y_M rfl <| xN [0,3,11,12,13] [3] rfl ?_
  refine ⟨(i + 1, l2), ?_, (by simp only; omega), ⟨rfl, rfl, rfl, rfl, rfl, rfl, trivial⟩⟩
  exact ⟨by omega, by rw [hl2]; exact hf.step (by omega) (by rw [show k = x.length by omega])⟩
 refine E6 <| A3 <| A0 <| y_M rfl ?_
 (refine I0 rfl rfl (by (simp; omega)) rfl (fun _ => (B7 (by exact A7 fun _ => rfl))) (fun _ => rfl) ?_; intro g2)
 refine xN [2] [2] rfl <| B0 <| K1 rfl rfl (by (simp [hfl]; done)) (by exact A7 fun _ => rfl) trivial ?_
 rw [hf.fin (by omega)]
 rfl

theorem b3k : E7 Tryz.f128 = [0, 2, 4, 12, 7, 18, 29, 5, 40, 6, 3] := by kernel_rfl
theorem c8z (x : List Int) (hv : vl x = true) : CW (cxT oG) 128 [L x] = some (.own 1 ((rkI x).map iV), []) := by
 have hx40 := (S8.1 hv).1
 have hgb := Y1 hv
 refine E5 rfl Tryz.func128 rfl ⟨by kernel_rfl, rfl, dT rfl, dT rfl, by decide⟩ b3k <| A3 <| A0 ?_
 (refine A8 rfl rfl (fun _ => rfl) ?_; intro g2)
 refine xN [0] [] rfl <| A3 <| A0 <| C4 (es := List.map iV []) rfl rfl (dT rfl) rfl rfl (fun _ => B7 (A7 fun _ => rfl)) (fun _ => rfl) ?_
 intro g8
 (refine xO rfl rfl (by simp) rfl (fun _ => rfl) (fun _ => rfl) ?_; intro g3)
 refine xN [0,3] [3] rfl <| A3 <| A3 <| A0 <| y_S rfl <| xN [0,3,4] [3] rfl <| B2 <| E4 (β := Nat × List Int × Nat) [(.t 0, _)] (fun (z : Nat × List Int × Nat) => match z with | (i, l, g) => [(.t 4, iV i), (.h 3, .obj g 0 1 (l.map iV)), (.t 3, .sl 3 g none 0 l.length)]) (fun (z : Nat × List Int × Nat) => match z with | (i, l, g) => i ≤ x.length ∧ l = (List.range i).map fun i => 1 + prS (rkT x (G5 x i)) x.length) (fun (z : Nat × List Int × Nat) => match z with | (i, l, g) => x.length - i) (0, [], _) ⟨rfl, rfl, rfl, rfl, trivial⟩ ⟨Nat.zero_le _, rfl⟩ ?_
 intro z hb
 obtain ⟨i, l, g⟩ := z
 try dsimp only at hb
 obtain ⟨hi1, hl⟩ := hb
 have hll : l.length = i := by rw [hl]; simp
 refine A3 <| A3 <| A0 <| y_M rfl <| y_M rfl <| B9 rfl rfl <| F8 rfl rfl <| xN [0,3,4,12] [3] rfl ?_
 refine A5 rfl ?_ ?_ <;> intro hc <;> try simp only [SL] at hc
 ·refine A6 <| A3 <| B2 <| A3 <| A0 <| y_S rfl <| xN [0,3,4,5] [3] rfl <| A3 <| A0 <| y_S rfl <| xN [0,3,4,5,6] [3] rfl <| A3 <| A3 <| A0 <| y_S rfl <| xN [0,3,4,5,6,7] [3] rfl <| B2 <| E4 (β := Nat × Int × Int) [(.t 0, _), (.t 3, _), (.t 4, _), (.h 3, _)] (fun (z : Nat × Int × Int) => match z with | (k, a, b) => [(.t 7, iV k), (.t 5, iV a), (.t 6, iV b)]) (fun (z : Nat × Int × Int) => match z with | (k, a, b) => k ≤ x.length ∧ 2 * a + b = prS (rkT x (G5 x i)) k ∧ 0 ≤ a ∧ a ≤ k ∧ 0 ≤ b ∧ b ≤ k) (fun (z : Nat × Int × Int) => match z with | (k, a, b) => x.length - k) (0, 0, 0) ⟨rfl, rfl, rfl, rfl, rfl, rfl, rfl, trivial⟩ ⟨Nat.zero_le _, rfl, by decide, by decide, by decide, by decide⟩ ?_
  intro z hb
  obtain ⟨k, a, b⟩ := z
  try dsimp only at hb
  obtain ⟨hk1, hab, ha0, ha1, hb0, hb1⟩ := hb
  refine A3 <| A3 <| A0 <| y_M rfl <| y_M rfl <| B9 rfl rfl <| F8 rfl rfl <| xN [0,3,4,5,6,7,18] [3] rfl ?_
  refine A5 rfl ?_ ?_ <;> intro hc <;> try simp only [SL] at hc
  ·refine A6 <| A3 <| B2 <| A3 <| A3 <| A0 <| y_M rfl <| y_M rfl <| B1 rfl rfl rfl (fun _ => rfl) (by omega) <| y_I rfl <| y_M rfl <| y_M rfl <| B1 rfl rfl rfl (fun _ => rfl) (by omega) <| y_I rfl <| F8 rfl rfl ?_
   refine J9 ⟨fun _ => ⟨by decide +kernel, by decide +kernel⟩, [(.t 0, _), (.t 3, _), (.t 4, _), (.t 5, _), (.t 6, _), (.t 7, _), (.t 29, _), (.h 3, _)], ⟨rfl, rfl, rfl, rfl, rfl, rfl, rfl, rfl, rfl, rfl, rfl, rfl, rfl, rfl, rfl, rfl, trivial⟩, ?_⟩
   refine A5 rfl ?_ ?_ <;> intro hc <;> try simp only [SL] at hc
   ·refine A0 <| y_M rfl <| F3 rfl rfl (C2 (by omega)) <| y_S rfl <| xN [0,3,4,5,6,7] [3] rfl <| A3 <| A0 <| y_M rfl <| y_M rfl <| B1 rfl rfl rfl (fun _ => rfl) (by omega) <| y_I rfl <| y_M rfl <| y_M rfl <| B1 rfl rfl rfl (fun _ => rfl) (by omega) <| y_I rfl <| X3 rfl rfl ?_
    refine J9 ⟨fun _ => ⟨by decide +kernel, by decide +kernel⟩, [(.t 0, _), (.t 3, _), (.t 4, _), (.t 5, _), (.t 6, _), (.t 7, _), (.t 40, _), (.h 3, _)], ⟨rfl, rfl, rfl, rfl, rfl, rfl, rfl, rfl, rfl, rfl, rfl, rfl, rfl, rfl, rfl, rfl, trivial⟩, ?_⟩
    refine A5 rfl ?_ ?_ <;> intro hc <;> try simp only [SL] at hc
    ·refine A0 <| y_M rfl <| F3 rfl rfl (C2 (by omega)) <| y_S rfl <| xN [0,3,4,5,6,7] [3] rfl <| A0 <| y_M rfl <| F3 rfl rfl (C2 (by omega)) <| y_S rfl <| xN [0,3,4,5,6,7] [3] rfl ?_
     refine ⟨(k + 1, a + 1, b + 1), ?_, (by simp only; omega), ⟨rfl, rfl, rfl, rfl, rfl, rfl, rfl, trivial⟩⟩
     have hrs : prS (rkT x (G5 x i)) (k + 1) = prS (rkT x (G5 x i)) k + rkT x (G5 x i) k := rfl
     exact ⟨by omega, by rw [hrs, ← hab, rkT, if_pos (by assumption)]; omega, by omega, by omega, by omega, by omega⟩
    refine A6 <| A0 <| y_M rfl <| F3 rfl rfl (C2 (by omega)) <| y_S rfl <| xN [0,3,4,5,6,7] [3] rfl ?_
    refine ⟨(k + 1, a + 1, b), ?_, (by simp only; omega), ⟨rfl, rfl, rfl, rfl, rfl, rfl, rfl, trivial⟩⟩
    have hrs : prS (rkT x (G5 x i)) (k + 1) = prS (rkT x (G5 x i)) k + rkT x (G5 x i) k := rfl
    exact ⟨by omega, by rw [hrs, ← hab, rkT, if_pos (by assumption)]; omega, by omega, by omega, by omega, by omega⟩
   refine A6 <| A3 <| A0 <| y_M rfl <| y_M rfl <| B1 rfl rfl rfl (fun _ => rfl) (by omega) <| y_I rfl <| y_M rfl <| y_M rfl <| B1 rfl rfl rfl (fun _ => rfl) (by omega) <| y_I rfl <| X3 rfl rfl ?_
   refine J9 ⟨fun _ => ⟨by decide +kernel, by decide +kernel⟩, [(.t 0, _), (.t 3, _), (.t 4, _), (.t 5, _), (.t 6, _), (.t 7, _), (.t 40, _), (.h 3, _)], ⟨rfl, rfl, rfl, rfl, rfl, rfl, rfl, rfl, rfl, rfl, rfl, rfl, rfl, rfl, rfl, rfl, trivial⟩, ?_⟩
   refine A5 rfl ?_ ?_ <;> intro hc <;> try simp only [SL] at hc
   ·refine A0 <| y_M rfl <| F3 rfl rfl (C2 (by omega)) <| y_S rfl <| xN [0,3,4,5,6,7] [3] rfl <| A0 <| y_M rfl <| F3 rfl rfl (C2 (by omega)) <| y_S rfl <| xN [0,3,4,5,6,7] [3] rfl ?_
    refine ⟨(k + 1, a, b + 1), ?_, (by simp only; omega), ⟨rfl, rfl, rfl, rfl, rfl, rfl, rfl, trivial⟩⟩
    have hrs : prS (rkT x (G5 x i)) (k + 1) = prS (rkT x (G5 x i)) k + rkT x (G5 x i) k := rfl
    exact ⟨by omega, by rw [hrs, ← hab, rkT, if_neg (by unfold G5; omega), if_pos (by assumption)]; omega, by omega, by omega, by omega, by omega⟩
   refine A6 <| A0 <| y_M rfl <| F3 rfl rfl (C2 (by omega)) <| y_S rfl <| xN [0,3,4,5,6,7] [3] rfl ?_
   refine ⟨(k + 1, a, b), ?_, (by simp only; omega), ⟨rfl, rfl, rfl, rfl, rfl, rfl, rfl, trivial⟩⟩
   have hrs : prS (rkT x (G5 x i)) (k + 1) = prS (rkT x (G5 x i)) k + rkT x (G5 x i) k := rfl
   exact ⟨by omega, by rw [hrs, ← hab, rkT, if_neg (by unfold G5; omega), if_neg (by unfold G5; omega)]; omega, by omega, by omega, by omega, by omega⟩
  refine E6 <| A0 <| y_M rfl <| y_M rfl <| c3x rfl rfl (C2 (by omega)) <| y_M rfl <| F3 rfl rfl (C2 (by omega)) <| F3 rfl rfl (C2 (by omega)) <| C4 (es := List.map iV [_]) rfl rfl (dT rfl) rfl rfl (fun _ => B7 (A7 fun _ => rfl)) (fun _ => rfl) ?_
  intro g49
  refine xA rfl rfl rfl rfl (by simp) (by simp) rfl rfl rfl rfl rfl (fun _ => rfl) (by simp only [LN]; omega) (fun _ => rfl) ?_
  intro g50
  (refine xO rfl rfl (by simp) rfl (fun _ => rfl) (fun _ => rfl) ?_; intro g3)
  refine xN [0,3,4] [3] rfl <| A0 <| y_M rfl <| F3 rfl rfl (C2 (by omega)) <| y_S rfl <| xN [0,3,4] [3] rfl ?_
  refine ⟨(i + 1, l ++ [2 * a + b + 1], _), ?_, (by simp only; omega), ⟨rfl, rfl, rfl, rfl, trivial⟩⟩
  exact ⟨by omega, by rw [hl, R8, hab, show k = x.length by omega, Int.add_comm]⟩
 refine E6 <| A3 <| A0 <| y_M rfl ?_
 (refine xO rfl rfl (by simp) rfl (fun _ => rfl) (fun _ => rfl) ?_; intro g2)
 refine xN [2] [2] rfl <| B0 <| K1 rfl rfl (by simp) (by exact A7 fun _ => rfl) trivial ?_
 rw [hl, show i = x.length by omega]
 rfl

theorem b1c : E7 Tryz.f127 = [0, 2, 4, 10, 3] := by kernel_rfl
theorem c5v (x : List Int) (hl : x.length ≤ 1000) : CW (cxT oG) 127 [L x] = some (.own 1 (x.reverse.map iV), []) := by
 refine E5 rfl Tryz.func127 rfl ⟨by kernel_rfl, rfl, dT rfl, dT rfl, by decide⟩ b1c <| A3 <| A0 ?_
 (refine A8 rfl rfl (fun _ => rfl) ?_; intro g2)
 refine xN [0] [] rfl <| A3 <| A0 <| C4 (es := List.map iV []) rfl rfl (dT rfl) rfl rfl (fun _ => B7 (A7 fun _ => rfl)) (fun _ => rfl) ?_
 intro g5
 (refine xO rfl rfl (by simp) rfl (fun _ => rfl) (fun _ => rfl) ?_; intro g3)
 refine xN [0,3] [3] rfl <| A3 <| A3 <| A0 <| y_M rfl <| B9 rfl rfl <| L4 rfl rfl (C2 (by omega)) <| y_S rfl <| xN [0,3,4] [3] rfl <| B2 <| E4 (β := Nat × List Int × Nat) [(.t 0, _)] (fun (z : Nat × List Int × Nat) => match z with | (k, l, g) => [(.t 4, iV ((k : Int) - 1)), (.h 3, .obj g 0 1 (l.map iV)), (.t 3, .sl 3 g none 0 l.length)]) (fun (z : Nat × List Int × Nat) => match z with | (k, l, g) => k ≤ x.length ∧ l = (x.drop k).reverse) (fun (z : Nat × List Int × Nat) => match z with | (k, l, g) => k) (x.length, [], _) ⟨rfl, rfl, rfl, rfl, trivial⟩ ⟨Nat.le_refl _, by simp⟩ ?_
 intro z hb
 obtain ⟨k, l, g⟩ := z
 try dsimp only at hb
 obtain ⟨hk1, hl2⟩ := hb
 have hll : l.length = x.length - k := by rw [hl2]; simp
 refine A3 <| A3 <| A0 <| y_M rfl <| b8o rfl rfl <| xN [0,3,4,10] [3] rfl ?_
 refine A5 rfl ?_ ?_ <;> intro hc <;> try simp only [SL] at hc
 ·obtain ⟨k', rfl⟩ : ∃ k', k = k' + 1 := ⟨k - 1, by omega⟩
  rw [show (((k' + 1 : Nat) : Int) - 1) = (k' : Int) by omega]
  refine A6 <| A3 <| B2 <| A0 <| y_M rfl <| y_M rfl <| y_M rfl <| B1 rfl rfl rfl (fun _ => rfl) (by omega) <| y_I rfl <| C4 (es := List.map iV [_]) rfl rfl (dT rfl) rfl rfl (fun _ => B7 (A7 fun _ => rfl)) (fun _ => rfl) ?_
  intro g18
  refine xA rfl rfl rfl rfl (by simp) (by simp) rfl rfl rfl rfl rfl (fun _ => rfl) (by simp only [LN]; omega) (fun _ => rfl) ?_
  intro g19
  (refine xO rfl rfl (by simp) rfl (fun _ => rfl) (fun _ => rfl) ?_; intro g3)
  refine xN [0,3,4] [3] rfl <| A0 <| y_M rfl <| L4 rfl rfl (C2 (by omega)) <| y_S rfl <| xN [0,3,4] [3] rfl ?_
  refine ⟨(k', l ++ [x.getD k' default], _), ?_, (by simp only; omega), ⟨rfl, rfl, rfl, rfl, trivial⟩⟩
  exact ⟨by omega, by rw [hl2, c7a (show k' < x.length by omega), List.reverse_cons]⟩
 refine E6 <| A3 <| A0 <| y_M rfl ?_
 (refine xO rfl rfl (by simp) rfl (fun _ => rfl) (fun _ => rfl) ?_; intro g2)
 refine xN [2] [2] rfl <| B0 <| K1 rfl rfl (by simp) (by exact A7 fun _ => rfl) trivial ?_
 rw [hl2, show k = 0 by omega]
 rfl

theorem a7m : E7 Tryz.f130 = [0, 2, 3, 7, 15] := by kernel_rfl
theorem c0g (x : List Int) (hl : x.length ≤ 1048576) : CW (cxT oG) 130 [L x] = some (bV (vl x), []) := by
 refine E5 rfl Tryz.func130 rfl ⟨by kernel_rfl, rfl, dT rfl, dT rfl, by decide⟩ a7m <| A3 <| A0 <| y_S rfl <| xN [0] [] rfl <| A3 <| A3 <| A0 <| y_S rfl <| xN [0,3] [] rfl <| B2 <| E4 (β := Nat) [(.t 0, _)] (fun (i : Nat) => [(.t 3, iV i)]) (fun (i : Nat) => i ≤ x.length ∧ ∀ j, j < i → -100000 ≤ x.getD j default ∧ x.getD j default ≤ 100000) (fun (i : Nat) => x.length - i) 0 ⟨rfl, rfl, trivial⟩ ⟨Nat.zero_le _, fun j h => by omega⟩ ?_
 intro i hb
 obtain ⟨hi1, hi2⟩ := hb
 refine A3 <| A3 <| A0 <| y_M rfl <| y_M rfl <| B9 rfl rfl <| F8 rfl rfl <| xN [0,3,7] [] rfl ?_
 refine A5 rfl ?_ ?_ <;> intro hc <;> try simp only [SL] at hc
 ·refine A6 <| A3 <| B2 <| A3 <| A0 <| y_M rfl <| y_M rfl <| B1 rfl rfl rfl (fun _ => rfl) (by omega) <| y_I rfl ?_
  refine xC3 rfl rfl rfl rfl (b5g _ _ _) ⟨rfl, rfl, rfl⟩ rfl rfl fun g14 => ?_
  refine K7 rfl <| xN [0,3,15] [] rfl ?_
  refine A5 rfl ?_ ?_ <;> intro hc <;> try simp only [SL] at hc
  ·refine A3 <| A0 <| y_S rfl <| xN [2] [] rfl <| B0 <| B5 rfl rfl trivial ?_
   rw [vl, b7x (show i < x.length by omega) (by (simp_all; omega)), Bool.and_false]
   rfl
  refine A6 <| A0 <| y_M rfl <| F3 rfl rfl (C2 (by omega)) <| y_S rfl <| xN [0,3] [] rfl ?_
  refine ⟨i + 1, ⟨by omega, fun j hj => by rcases Nat.lt_succ_iff_lt_or_eq.1 hj with h | h; (· exact hi2 j h); (· subst h; assumption)⟩, (by omega), ⟨rfl, rfl, trivial⟩⟩
 refine E6 <| A3 <| A0 <| y_M rfl <| B9 rfl rfl <| a4n rfl rfl <| y_S rfl <| xN [2] [] rfl <| B0 <| B5 rfl rfl trivial ?_
 rw [vl, c3s fun j hj => hi2 j (by omega), Bool.and_true]
 exact congrArg bV (decide_eq_decide.2 (by omega))

theorem a3g : E7 Tryz.f61 = [0, 2, 3, 7, 15] := by kernel_rfl
theorem a9y (cols : List (List Int)) (hc4 : cols.length ≤ 1048576) (hcb : ∀ c ∈ cols, c.length ≤ 1048576) : CW (cxT oG) 61 [M cols] = some (bV (vcs cols), []) := by
 refine E5 rfl Tryz.func61 rfl ⟨by kernel_rfl, rfl, dT rfl, dT rfl, by decide⟩ a3g <| A3 <| A0 <| y_S rfl <| xN [0] [] rfl <| A3 <| A3 <| A0 <| y_S rfl <| xN [0,3] [] rfl <| B2 <| E4 (β := Nat) [(.t 0, _)] (fun (i : Nat) => [(.t 3, iV i)]) (fun (i : Nat) => i ≤ cols.length ∧ ∀ j, j < i → vd (cols.getD j default) = true) (fun (i : Nat) => cols.length - i) 0 ⟨rfl, rfl, trivial⟩ ⟨Nat.zero_le _, fun j h => by omega⟩ ?_
 intro i hb
 obtain ⟨hi1, hi2⟩ := hb
 have hci := fun h : i < cols.length => hcb _ (J4 h)
 refine A3 <| A3 <| A0 <| y_M rfl <| y_M rfl <| B9 rfl rfl <| F8 rfl rfl <| xN [0,3,7] [] rfl ?_
 refine A5 rfl ?_ ?_ <;> intro hc <;> try simp only [SL] at hc
 ·refine A6 <| A3 <| B2 <| A3 <| A0 <| y_M rfl <| y_M rfl <| B1 rfl rfl rfl (fun _ => rfl) (by omega) <| y_I rfl ?_
  refine xC1 rfl rfl (a9c (cols.getD i default) (hci (by omega))) ⟨rfl, rfl, rfl⟩ rfl rfl fun g14 => ?_
  refine K7 rfl <| xN [0,3,15] [] rfl ?_
  refine A5 rfl ?_ ?_ <;> intro hc <;> try simp only [SL] at hc
  ·refine A3 <| A0 <| y_S rfl <| xN [2] [] rfl <| B0 <| B5 rfl rfl trivial ?_
   rw [d1c (show i < cols.length by omega) (by simpa using hc)]
   rfl
  refine A6 <| A0 <| y_M rfl <| F3 rfl rfl (C2 (by omega)) <| y_S rfl <| xN [0,3] [] rfl ?_
  refine ⟨i + 1, ⟨by omega, fun j hj => by rcases Nat.lt_succ_iff_lt_or_eq.1 hj with h | h; (· exact hi2 j h); (· subst h; simpa using hc)⟩, (by omega), ⟨rfl, rfl, trivial⟩⟩
 refine E6 <| A3 <| A0 <| y_M rfl <| B9 rfl rfl <| a4n rfl rfl <| y_S rfl <| xN [2] [] rfl <| B0 <| B5 rfl rfl trivial ?_
 rw [c9c fun j hj => hi2 j (by omega)]

theorem a6v : E7 Tryz.f99 = [0, 2] := by kernel_rfl
theorem b9s (c : List Int) (hc : c.length ≤ 1048576) : CW (cxT oG) 99 [L c] = some (bV (!vd c), []) := by
 refine E5 rfl Tryz.func99 rfl ⟨by kernel_rfl, rfl, dT rfl, dT rfl, by decide⟩ a6v <| A3 <| A0 <| y_S rfl <| xN [0] [] rfl <| A3 <| A0 <| y_M rfl ?_
 refine xC1 rfl rfl (a1p c hc) ⟨rfl, rfl, rfl⟩ rfl rfl fun g4 => ?_
 refine K7 rfl <| y_S rfl <| xN [2] [] rfl <| B0 <| B5 rfl rfl trivial ?_
 rfl

theorem a5l : E7 Tryz.f134 = [0, 1, 4, 8, 7, 9, 5, 16] := by kernel_rfl
theorem b6u (cols : List (List Int)) (hc4 : cols.length ≤ 1048576) (hcb : ∀ c ∈ cols, c.length ≤ 1048576) : ∃ res outs, (fun res outs => ∃ r : Int, res = iV r ∧ outs = [] ∧ decide (0 ≤ r) = cols.any fun c => !vd c) res outs ∧ CW (cxT oG) 134 [M cols, .clo 99 []] = some (res, outs) := by
 refine P6 rfl Tryz.func134 rfl ⟨by kernel_rfl, rfl, dT rfl, dT rfl, by decide⟩ a5l <| A3 <| A0 <| y_S rfl <| xN [0,1] [] rfl <| A3 <| A3 <| A0 <| y_M rfl <| B9 rfl rfl <| y_M rfl <| xN [0,1,7,8] [] rfl <| B2 <| E4 (β := Nat) [(.t 0, _), (.t 1, _), (.t 7, _)] (fun (i : Nat) => [(.t 8, iV i)]) (fun (i : Nat) => i ≤ cols.length ∧ ∀ j, j < i → (!vd (cols.getD j default)) = false) (fun (i : Nat) => cols.length - i) 0 ⟨rfl, rfl, rfl, rfl, trivial⟩ ⟨Nat.zero_le _, fun j h => by omega⟩ ?_
 intro i hb
 obtain ⟨hi1, hi2⟩ := hb
 have hci := fun h : i < cols.length => hcb _ (J4 h)
 refine A3 <| A0 <| F8 rfl rfl <| xN [0,1,7,8,9] [] rfl <| A3 ?_
 refine A5 rfl ?_ ?_ <;> intro hc <;> try simp only [SL] at hc
 ·refine A6 <| A3 <| B2 <| A3 <| A0 <| y_M rfl <| y_S rfl <| xN [0,1,5,7,8] [] rfl <| A3 <| A0 <| y_M rfl <| y_M rfl <| y_M rfl <| B1 rfl rfl rfl (fun _ => rfl) (by omega) <| y_I rfl ?_
  apply c4f rfl rfl
  ·apply A9
   ·exact B4 rfl
   exact C0
  ·exact b9s (cols.getD i default) (hci (by omega))
  ·exact ⟨rfl, rfl, rfl, dT rfl, rfl⟩
  ·exact .inl rfl
  ·exact B3
  ·exact D5 rfl
  ·exact fun _ => rfl
  intro g16
  refine xN [0,1,5,7,8,16] [] rfl ?_
  refine A5 rfl ?_ ?_ <;> intro hc <;> try simp only [SL] at hc
  ·refine A3 <| A0 <| y_M rfl <| y_S rfl <| xN [4] [] rfl <| B0 ?_
   refine ⟨_, _, ?_, M3 rfl rfl B8⟩
   exact ⟨_, rfl, rfl, c8e (q := fun c => !vd c) (by omega) (by simpa using hc)⟩
  refine A6 <| A0 <| F3 rfl rfl (C2 (by omega)) <| y_M rfl <| xN [0,1,7,8] [] rfl ?_
  refine ⟨i + 1, ⟨by omega, fun j hj => by rcases Nat.lt_succ_iff_lt_or_eq.1 hj with h | h; (· exact hi2 j h); (· subst h; simpa using hc)⟩, (by omega), ⟨rfl, rfl, rfl, rfl, trivial⟩⟩
 refine E6 <| A3 <| A0 <| y_S rfl <| xN [4] [] rfl <| B0 ?_
 refine ⟨_, _, ?_, M3 rfl rfl B8⟩
 exact ⟨-1, rfl, rfl, c5a fun j hj => hi2 j (by omega)⟩

theorem a3s : E7 Tryz.f98 = [0, 1, 4] := by kernel_rfl
theorem a9m (cols : List (List Int)) (hc4 : cols.length ≤ 1048576) (hcb : ∀ c ∈ cols, c.length ≤ 1048576) : CW (cxT oG) 98 [M cols, .clo 99 []] = some (bV (cols.any fun c => !vd c), []) := by
 obtain ⟨_, _, ⟨r, rfl, rfl, hr⟩, hC⟩ := b6u (oG := oG) cols hc4 hcb
 refine E5 rfl Tryz.func98 rfl ⟨by kernel_rfl, rfl, dT rfl, dT rfl, by decide⟩ a3s <| A3 <| A0 <| y_S rfl <| xN [0,1] [] rfl <| A3 <| A0 <| y_M rfl <| y_M rfl ?_
 refine xC2 rfl rfl rfl (hC) ⟨rfl, rfl, rfl⟩ rfl rfl fun g7 => ?_
 refine b8o rfl rfl <| y_S rfl <| xN [4] [] rfl <| B0 <| B5 rfl rfl trivial ?_
 rw [← hr]

theorem a4m : E7 Tryz.f58 = [0, 2] := by kernel_rfl
theorem b2d (cols : List (List Int)) (hc4 : cols.length ≤ 1048576) (hcb : ∀ c ∈ cols, c.length ≤ 1048576) : CW (cxT oG) 58 [M cols] = some (bV (vcs cols), []) := by
 refine E5 rfl Tryz.func58 rfl ⟨by kernel_rfl, rfl, dT rfl, dT rfl, by decide⟩ a4m <| A3 <| A0 <| y_S rfl <| xN [0] [] rfl <| A3 <| A0 <| y_M rfl <| B9 rfl rfl <| a4n rfl rfl <| y_M rfl ?_
 refine C8 rfl rfl ?_ ?_ <;> intro hg0 <;> have hg := hg0 <;> try simp only [SG] at hg
 ·refine y_M rfl <| gT rfl rfl ?_
  refine xC2 rfl rfl rfl (a9m cols hc4 hcb) ⟨rfl, rfl, rfl⟩ rfl rfl fun g8 => ?_
  refine gT rfl rfl <| K7 rfl <| F7 rfl (by assumption) rfl rfl <| y_S rfl <| xN [2] [] rfl <| B0 <| B5 rfl rfl trivial ?_
  rw [c3n]
  (simp_all; done)
 refine gF rfl rfl <| gF rfl rfl <| F0 rfl (by assumption) rfl rfl <| y_S rfl <| xN [2] [] rfl <| B0 <| B5 rfl rfl trivial ?_
 rw [c3n]
 (simp_all [ofConst]; intros; omega)

theorem b2m : E7 Tryz.f108 = [0, 3, 2, 9] := by kernel_rfl
theorem c6x (x : List Int) (hl : x.length ≤ 1000) : ∃ res outs, (fun res outs => res = .tup [] ∧ outs = [x.reverse.map iV]) res outs ∧ CW (cxT oG) 108 [.own 1 (x.map iV)] = some (res, outs) := by
 refine P6 rfl Tryz.func108 rfl ⟨by kernel_rfl, rfl, dT rfl, dT rfl, by decide⟩ b2m <| A3 <| A0 <| y_M rfl <| G8 rfl rfl ?_
 simp only [List.length_map]
 refine L4 rfl rfl (C2 (by omega)) <| y_S rfl <| y_S rfl <| xN [0,2,3] [0] rfl <| B2 ?_
 rw [show ((x.length : Int) - 1) = (x.length : Int) - 1 - ((0 : Nat) : Int) by simp]
 refine E4 (β := Nat × List Int) [(.t 0, _)] (fun (z : Nat × List Int) => match z with | (i, l) => [(.t 2, iV i), (.t 3, iV ((x.length : Int) - 1 - (i : Int))), (.h 0, .obj 1 1 1 (l.map iV))]) (fun (z : Nat × List Int) => match z with | (i, l) => i ≤ x.length ∧ b5n x i l) (fun (z : Nat × List Int) => match z with | (i, l) => x.length - i) (0, x) ⟨rfl, rfl, rfl, rfl, trivial⟩ ⟨Nat.zero_le _, b5n.start x⟩ ?_
 intro z hb
 obtain ⟨i, l⟩ := z
 try dsimp only at hb
 obtain ⟨hi1, hr⟩ := hb
 have hrl := hr.1
 refine A3 <| A3 <| A0 <| y_M rfl <| y_M rfl <| F8 rfl rfl <| xN [0,2,3,9] [0] rfl ?_
 refine A5 rfl ?_ ?_ <;> intro hc <;> try simp only [SL] at hc
 ·refine A6 <| A3 <| B2 <| A0 ?_
  iterate 6 refine y_M rfl ?_
  rw [show ((x.length : Int) - 1 - (i : Int)) = ((x.length - 1 - i : Nat) : Int) by omega]
  refine C5 rfl rfl rfl rfl (by (simp; omega)) (by (simp; omega)) rfl <| G0 rfl rfl (by omega) (fun _ => rfl) (fun _ => rfl) rfl <| y_M rfl <| y_M rfl <| C5 rfl rfl rfl rfl (by (simp; omega)) (by (simp; omega)) rfl <| G0 rfl rfl (by omega) (fun _ => rfl) (fun _ => rfl) rfl <| C5 rfl rfl rfl rfl (by (simp; omega)) (by (simp; omega)) rfl <| H8 rfl rfl rfl (by omega) (fun _ _ => ⟨rfl, rfl, dT rfl, dT rfl, rfl, rfl⟩) (by decide) (by exact a4h (A7 fun _ => rfl)) <| C5 rfl rfl rfl rfl (by (simp; omega)) (by (simp; omega)) rfl <| H8 rfl rfl rfl (by (simp; omega)) (fun _ _ => ⟨rfl, rfl, dT rfl, dT rfl, rfl, rfl⟩) (by decide) (by exact a4h (A7 fun _ => rfl)) ?_
  refine J9 ⟨fun _ => ⟨by decide +kernel, by decide +kernel⟩, [(.t 0, _), (.t 2, _), (.t 3, _), (.h 0, _)], ⟨rfl, rfl, rfl, rfl, rfl, rfl, rfl, rfl, trivial⟩, ?_⟩
  refine A0 <| y_M rfl <| F3 rfl rfl (C2 (by omega)) ?_
  rw [show ((x.length - 1 - i : Nat) : Int) = (x.length : Int) - 1 - (i : Int) by omega]
  refine y_M rfl <| L4 rfl rfl (C2 (by omega)) <| y_S rfl <| y_S rfl <| xN [0,2,3] [0] rfl ?_
  rw [show ((x.length : Int) - 1 - (i : Int) - 1) = (x.length : Int) - 1 - ((i + 1 : Nat) : Int) by omega]
  refine ⟨(i + 1, _), ?_, (by simp only; omega), ⟨rfl, rfl, rfl, rfl, trivial⟩⟩
  exact ⟨by omega, hr.step (by omega)⟩
 refine E6 ?_
 refine ⟨_, _, ?_, c8i (b0q rfl (M9 fun _ => rfl))⟩
 exact ⟨rfl, by rw [hr.fin (by omega)]⟩

theorem b3i : E7 Tryz.f65 = [0, 1, 2, 6, 9, 7, 19] := by kernel_rfl
theorem c8a (k : Nat) (hk : k < 4) (nums : List Int) (cols : List (List Int)) (hc4 : cols.length ≤ 1048576) (hcb : ∀ c ∈ cols, c.length ≤ 1048576) : CW (cxT oG) 65 [sV (c8v k), L nums, M cols] = some (.own 1 ((cols.getD k default).map iV), []) := by
 have hgl : (cols.getD k default).length ≤ 1048576 := by rcases Nat.lt_or_ge k cols.length with c | c; (· exact hcb _ (J4 c)); (· rw [List.getD_eq_getElem?_getD, List.getElem?_eq_none c]; exact Nat.zero_le _)
 refine E5 rfl Tryz.func65 rfl ⟨by kernel_rfl, rfl, dT rfl, dT rfl, by decide⟩ b3i <| A3 <| A0 ?_
 (refine A8 rfl rfl (fun _ => rfl) ?_; intro g6)
 refine xN [0,1,2] [] rfl <| A3 <| A3 <| A0 <| y_M rfl <| c8p (t := false) rfl rfl (by match k, hk with | 0, _ => decide +kernel | 1, _ => decide +kernel | 2, _ => decide +kernel | 3, _ => decide +kernel) <| xN [0,1,2,9] [] rfl ?_
 refine A5 rfl (fun hc => ?_) (fun hc => ?_)
 ·try simp only [SD] at hc
  exact absurd hc (by decide)
 try simp only [SL] at hc
 refine A6 <| A3 <| A3 <| A0 <| y_M rfl <| a3u (b := UInt8.ofNat (97 + k)) rfl rfl rfl (by decide) rfl ?_
 rw [show (UInt8.ofNat (97 + k)).toNat = 97 + k from by match k, hk with | 0, _ => rfl | 1, _ => rfl | 2, _ => rfl | 3, _ => rfl]
 refine L4 rfl rfl (by constructor <;> simp [IntKind.min, IntKind.max, IntKind.signed, IntKind.bits] <;> omega) ?_
 rw [show ((97 + k : Nat) : Int) - 97 = (k : Int) by omega]
 refine a8a rfl rfl rfl (C2 (by omega)) <| y_S rfl <| xN [2,7] [] rfl <| A3 <| A0 <| y_M rfl <| y_M rfl <| B9 rfl rfl <| F8 rfl rfl <| xN [2,7,19] [] rfl ?_
 refine A5 rfl ?_ ?_ <;> intro hc <;> try simp only [SL] at hc
 ·refine A3 <| A0 <| y_M rfl <| y_M rfl <| B1 rfl rfl rfl (fun _ => rfl) (by omega) <| y_I rfl ?_
  apply xC rfl
  ·apply A9
   ·exact B4 rfl
   exact C0
  ·exact c4l (cols.getD k default) hgl
  refine ⟨⟨rfl, rfl, rfl, dT rfl, rfl⟩, .inl rfl, B3, G4, fun _ => rfl, fun g24 => ?_⟩
  simp only [List.length_map]
  (refine xO rfl rfl (by simp) rfl (fun _ => rfl) (fun _ => rfl) ?_; intro g6)
  refine xN [6] [6] rfl <| B0 <| K1 rfl rfl (by simp) (by exact A7 fun _ => rfl) trivial ?_
  rfl
 refine A6 <| A3 <| A0 ?_
 (refine A8 rfl rfl (fun _ => rfl) ?_; intro g6)
 refine xN [6] [6] rfl <| B0 <| K1 rfl rfl (by simp) (by rfl) trivial ?_
 rw [List.getD_eq_getElem?_getD, List.getElem?_eq_none (by omega)]
 rfl

theorem b1t : E7 Tryz.f65 = [0, 1, 2, 6, 9, 7, 19] := by kernel_rfl
theorem c5k (nums : List Int) (hn : nums.length ≤ 1048576) (cols : List (List Int)) : CW (cxT oG) 65 [sV wList, L nums, M cols] = some (.own 1 (nums.map iV), []) := by
 refine E5 rfl Tryz.func65 rfl ⟨by kernel_rfl, rfl, dT rfl, dT rfl, by decide⟩ b1t <| A3 <| A0 ?_
 (refine A8 rfl rfl (fun _ => rfl) ?_; intro g6)
 refine xN [0,1,2] [] rfl <| A3 <| A3 <| A0 <| y_M rfl <| c8p (t := true) rfl rfl (by decide +kernel) <| xN [0,1,2,9] [] rfl ?_
 refine A5 rfl (fun hc => ?_) (fun hc => ?_)
 ·try simp only [SL] at hc
  refine A3 <| A0 <| y_M rfl ?_
  apply xC rfl
  ·apply A9
   ·exact B4 rfl
   exact C0
  ·exact c4l nums hn
  refine ⟨⟨rfl, rfl, rfl, dT rfl, rfl⟩, .inl rfl, B3, G4, fun _ => rfl, fun g11 => ?_⟩
  simp only [List.length_map]
  (refine xO rfl rfl (by simp) rfl (fun _ => rfl) (fun _ => rfl) ?_; intro g6)
  refine xN [6] [6] rfl <| B0 <| K1 rfl rfl (by simp) (by exact A7 fun _ => rfl) trivial ?_
  rfl
 try simp only [SD] at hc
 exact absurd hc (by decide)

theorem a9v : E7 Tryz.f87 = [0, 1, 4, 5, 13] := by kernel_rfl
theorem c2l (k : Nat) (hk : k < 4) (cols : List (List Int)) (hc4 : cols.length ≤ 1048576) (hcb : ∀ c ∈ cols, c.length ≤ 1048576) : CW (cxT oG) 87 [sV (c8v k), M cols] = some (.own 1 ((cols.getD k default).map iV), []) := by
 have hgl : (cols.getD k default).length ≤ 1048576 := by rcases Nat.lt_or_ge k cols.length with c | c; (· exact hcb _ (J4 c)); (· rw [List.getD_eq_getElem?_getD, List.getElem?_eq_none c]; exact Nat.zero_le _)
 refine E5 rfl Tryz.func87 rfl ⟨by kernel_rfl, rfl, dT rfl, dT rfl, by decide⟩ a9v <| A3 <| A0 ?_
 (refine A8 rfl rfl (fun _ => rfl) ?_; intro g4)
 refine xN [0,1] [] rfl <| A3 <| A0 <| y_M rfl <| a3u (b := UInt8.ofNat (97 + k)) rfl rfl rfl (by decide) rfl ?_
 rw [show (UInt8.ofNat (97 + k)).toNat = 97 + k from by match k, hk with | 0, _ => rfl | 1, _ => rfl | 2, _ => rfl | 3, _ => rfl]
 refine L4 rfl rfl (by constructor <;> simp [IntKind.min, IntKind.max, IntKind.signed, IntKind.bits] <;> omega) ?_
 rw [show ((97 + k : Nat) : Int) - 97 = (k : Int) by omega]
 refine a8a rfl rfl rfl (C2 (by omega)) <| y_S rfl <| xN [1,5] [] rfl <| A3 <| A3 <| A0 <| y_M rfl <| y_M rfl <| B9 rfl rfl <| F8 rfl rfl <| xN [1,5,13] [] rfl ?_
 refine A5 rfl ?_ ?_ <;> intro hc <;> try simp only [SL] at hc
 ·refine A3 <| A0 <| C4 (es := List.map iV []) rfl rfl (dT rfl) rfl rfl (fun _ => B7 (A7 fun _ => rfl)) (fun _ => rfl) ?_
  intro g14
  refine y_M rfl <| y_M rfl <| B1 rfl rfl rfl (fun _ => rfl) (by omega) <| y_I rfl <| T4 rfl rfl rfl (by (simp; done)) rfl rfl rfl (dT rfl) (fun _ => ⟨rfl, rfl, rfl⟩) (by simp only [H3]; (simp only [List.length_nil, List.length_cons, List.length_append, Nat.zero_add, List.length_map]; omega)) (fun _ => rfl) ?_
  intro g19
  (refine xO rfl rfl (by simp) rfl (fun _ => rfl) (fun _ => rfl) ?_; intro g4)
  refine xN [4] [4] rfl <| B0 <| K1 rfl rfl (by simp) (by exact A7 fun _ => rfl) trivial ?_
  rfl
 refine A6 <| A3 <| A0 <| C4 (es := List.map iV []) rfl rfl (dT rfl) rfl rfl (fun _ => B7 (A7 fun _ => rfl)) (fun _ => rfl) ?_
 intro g20
 (refine xO rfl rfl (by simp) rfl (fun _ => rfl) (fun _ => rfl) ?_; intro g4)
 refine xN [4] [4] rfl <| B0 <| K1 rfl rfl (by simp) (by rfl) trivial ?_
 rw [List.getD_eq_getElem?_getD, List.getElem?_eq_none (by omega)]
 rfl

theorem b4b : E7 Tryz.f66 = [0, 1, 4, 5, 15, 20, 21, 6, 25, 29, 33, 32, 34, 7, 45, 49, 48, 50, 8, 66, 9, 72, 86, 10, 91, 105, 109, 114, 124, 129, 128, 130, 127, 12, 11, 142, 156, 63] := by kernel_rfl
theorem b9y (op : ByteArray) (h1 : 1 ≤ nd op) (x y : List Int) (hx : vl x = true) (hy : vl y = true) (ls : List (List Int)) (hl1 : 1 ≤ ls.length) (hl2 : nd op = 2 → 2 ≤ ls.length) (hlx : ls.getD 0 default = x) (hly : 2 ≤ ls.length → ls.getD 1 default = y) : CW (cxT oG) 66 [sV op, M ls] = some (.tup [.own 1 (((mkR op x y).getD []).map iV), bV (mkR op x y).isSome], []) := by
 have hx40 := (S8.1 hx).1
 have hy40 := (S8.1 hy).1
 have hgx := Y1 hx
 have hgy := Y1 hy
 have hsx := a2b x
 refine E5 rfl Tryz.func66 rfl ⟨by kernel_rfl, rfl, dT rfl, dT rfl, by decide⟩ b4b <| A3 <| A0 ?_
 (refine A8 rfl rfl (fun _ => rfl) ?_; intro g4)
 refine y_S rfl <| xN [0,1] [] rfl <| A3 <| A0 ?_
 (refine A8 rfl rfl (fun _ => rfl) ?_; intro g6)
 refine xN [0,1,6] [6] rfl <| A3 <| A3 <| A0 <| y_M rfl <| B9 rfl rfl <| S0 rfl rfl <| xN [0,1,6,15] [6] rfl ?_
 refine A5 rfl (fun hc => ?_) (fun hc => ?_)
 ·try simp only [SL] at hc
  refine A0 <| y_M rfl <| B1 rfl rfl rfl (fun _ => rfl) (by (change 0 < _; omega)) <| y_I rfl ?_
  rw [hlx]
  apply xC rfl
  ·apply A9
   ·exact B4 rfl
   exact C0
  ·exact c4k x (by simp only [H3]; omega)
  refine ⟨⟨rfl, rfl, rfl, dT rfl, rfl⟩, .inl rfl, B3, G4, fun _ => rfl, fun g19 => ?_⟩
  simp only [List.length_map]
  (refine xO rfl rfl (by simp) rfl (fun _ => rfl) (fun _ => rfl) ?_; intro g6)
  refine xN [0,1,6] [6] rfl <| b8k <| A3 <| A0 <| y_M rfl <| xN [1,6,20] [6] rfl ?_
  refine c8m (β := List Int × Nat × Nat) [] trivial (fun (z : List Int × Nat × Nat) => match z with | (r, n, g) => [(.h 6, .obj g 0 1 (r.map iV)), (.t 6, .sl 6 g none 0 n)]) (fun (z : List Int × Nat × Nat) => match z with | (r, n, g) => Q6 op x y = some r ∧ n = r.length ∧ r.length ≤ 80) ?_ ?_
  ·skip
   refine B2 <| A3 <| A0 <| H0 rfl rfl <| y_S rfl <| xN [1,6,20,21] [6] rfl ?_
   refine A5 rfl ?_ ?_ <;> intro hc <;> try simp only [SL] at hc
   ·try simp at hc
    refine A0 <| y_M rfl ?_
    apply X1 rfl
    ·apply A9
     ·exact a1f rfl rfl (by decide) (by (simp; done)) (M9 fun _ => rfl)
     exact C0
    ·exact d3p x (by simp only [H3]; omega)
    ·exact ⟨rfl, rfl, rfl, dT rfl, rfl⟩
    ·exact .inl rfl
    ·exact Y7 rfl (by simp) (a2c _ _) B3
    ·exact W4 rfl
    ·(intro _; exact D6 (B7 (A7 fun _ => rfl)) rfl)
    intro g24
    refine xN [6] [6] rfl ?_
    refine ⟨(_, _, _), ?_, ⟨rfl, rfl, trivial⟩⟩
    exact ⟨(by (simp [Q6, *]; done)), (by (simp; done)), (by omega)⟩
   try simp at hc
   refine A3 <| A0 <| H0 rfl rfl <| y_S rfl <| xN [1,6,20,25] [6] rfl ?_
   refine A5 rfl ?_ ?_ <;> intro hc <;> try simp only [SL] at hc
   ·try simp at hc
    refine A0 <| y_M rfl ?_
    obtain ⟨_, _, ⟨rfl, rfl⟩, hRv⟩ := c6x (oG := oG) x (by omega)
    apply X1 rfl
    ·apply A9
     ·exact a1f rfl rfl (by decide) (by (simp; done)) (M9 fun _ => rfl)
     exact C0
    ·exact hRv
    ·exact ⟨rfl, rfl, rfl, dT rfl, rfl⟩
    ·exact .inl rfl
    ·exact Y7 rfl (by simp) (a2c _ _) B3
    ·exact W4 rfl
    ·(intro _; exact D6 (B7 (A7 fun _ => rfl)) rfl)
    intro g28
    refine xN [6] [6] rfl ?_
    refine ⟨(_, _, _), ?_, ⟨rfl, rfl, trivial⟩⟩
    exact ⟨(by (simp [Q6, *]; done)), (by (simp; done)), (by (simp; omega))⟩
   try simp at hc
   refine A3 <| A0 <| H0 rfl rfl <| y_S rfl <| xN [1,6,20,29] [6] rfl ?_
   refine A5 rfl ?_ ?_ <;> intro hc <;> try simp only [SL] at hc
   ·try simp at hc
    refine A3 <| A0 <| y_M rfl <| G8 rfl rfl <| y_M rfl <| xN [6,32,33] [6] rfl <| B2 <| E4 (β := Nat × List Int) [(.t 6, _), (.t 32, _)] (fun (z : Nat × List Int) => match z with | (i, l) => [(.t 33, iV i), (.h 6, .obj g6 0 1 (l.map iV))]) (fun (z : Nat × List Int) => match z with | (i, l) => i ≤ x.length ∧ P9 x.length (fun i => -(G5 x i)) (G5 x) i l) (fun (z : Nat × List Int) => match z with | (i, l) => x.length - i) (0, x) ⟨rfl, rfl, rfl, rfl, trivial⟩ ⟨Nat.zero_le _, P9.start x _⟩ ?_
    intro z hb
    obtain ⟨i, l⟩ := z
    try dsimp only at hb
    obtain ⟨hi1, hf⟩ := hb
    have hfl := hf.1
    have hfa := fun h : i < x.length => hf.at h
    have hgi := hgx i
    have hgyi : -100000 ≤ y.getD i default ∧ y.getD i default ≤ 100000 := hgy i
    refine A3 <| A0 <| F8 rfl rfl <| xN [6,32,33,34] [6] rfl <| A3 ?_
    refine A5 rfl ?_ ?_ <;> intro hc <;> try simp only [SL] at hc
    ·refine A6 <| A3 <| B2 <| A3 <| A0 <| y_M rfl <| y_S rfl <| xN [6,7,32,33] [6] rfl <| A0 <| y_M rfl <| y_M rfl <| y_M rfl <| y_M rfl <| C5 rfl rfl rfl rfl (by omega) (by (simp; omega)) rfl <| G0 rfl rfl (by omega) (fun _ => rfl) (fun _ => rfl) rfl <| b5h rfl (C2 (by omega)) <| C5 rfl rfl rfl rfl (by omega) (by (simp; omega)) rfl <| H8 rfl rfl rfl (by omega) (fun _ _ => ⟨rfl, rfl, dT rfl, dT rfl, rfl, rfl⟩) (by decide) (by exact B7 (A7 fun _ => rfl)) <| xN [6,32,33] [6] rfl <| A0 <| F3 rfl rfl (C2 (by omega)) <| y_M rfl <| xN [6,32,33] [6] rfl ?_
     refine ⟨(i + 1, l.set i (-(l.getD i default))), ?_, (by simp only; omega), ⟨rfl, rfl, rfl, rfl, trivial⟩⟩
     exact ⟨by omega, hf.step (by omega) (by rw [hfa (by omega)]; done)⟩
    refine E6 ?_
    refine ⟨(_, _, _), ?_, ⟨rfl, rfl, trivial⟩⟩
    exact ⟨by rw [(hf.fin (by omega)).trans (a6j x fun v => -v)]; simp [Q6, *], by omega, by omega⟩
   try simp at hc
   refine A3 <| A0 <| H0 rfl rfl <| y_S rfl <| xN [1,6,20,45] [6] rfl ?_
   refine A5 rfl ?_ ?_ <;> intro hc <;> try simp only [SL] at hc
   ·try simp at hc
    refine A3 <| A0 <| y_M rfl <| G8 rfl rfl <| y_M rfl <| xN [6,48,49] [6] rfl <| B2 <| E4 (β := Nat × List Int) [(.t 6, _), (.t 48, _)] (fun (z : Nat × List Int) => match z with | (i, l) => [(.t 49, iV i), (.h 6, .obj g6 0 1 (l.map iV))]) (fun (z : Nat × List Int) => match z with | (i, l) => i ≤ x.length ∧ P9 x.length (fun i => max (G5 x i) (-(G5 x i))) (G5 x) i l) (fun (z : Nat × List Int) => match z with | (i, l) => x.length - i) (0, x) ⟨rfl, rfl, rfl, rfl, trivial⟩ ⟨Nat.zero_le _, P9.start x _⟩ ?_
    intro z hb
    obtain ⟨i, l⟩ := z
    try dsimp only at hb
    obtain ⟨hi1, hf⟩ := hb
    have hfl := hf.1
    have hfa := fun h : i < x.length => hf.at h
    have hgi := hgx i
    have hgyi : -100000 ≤ y.getD i default ∧ y.getD i default ≤ 100000 := hgy i
    refine A3 <| A0 <| F8 rfl rfl <| xN [6,48,49,50] [6] rfl <| A3 ?_
    refine A5 rfl ?_ ?_ <;> intro hc <;> try simp only [SL] at hc
    ·refine A6 <| A3 <| B2 <| A3 <| A0 <| y_M rfl <| y_S rfl <| xN [6,8,48,49] [6] rfl <| A0 <| y_M rfl <| y_M rfl <| y_M rfl <| y_M rfl <| C5 rfl rfl rfl rfl (by omega) (by (simp; omega)) rfl <| G0 rfl rfl (by omega) (fun _ => rfl) (fun _ => rfl) rfl <| y_M rfl <| y_M rfl <| C5 rfl rfl rfl rfl (by omega) (by (simp; omega)) rfl <| G0 rfl rfl (by omega) (fun _ => rfl) (fun _ => rfl) rfl <| b5h rfl (C2 (by omega)) <| d1y rfl rfl <| C5 rfl rfl rfl rfl (by omega) (by (simp; omega)) rfl <| H8 rfl rfl rfl (by omega) (fun _ _ => ⟨rfl, rfl, dT rfl, dT rfl, rfl, rfl⟩) (by decide) (by exact B7 (A7 fun _ => rfl)) ?_
     refine J9 ⟨fun _ => ⟨by decide +kernel, by decide +kernel⟩, [(.t 6, _), (.t 48, _), (.t 49, _), (.h 6, _)], ⟨rfl, rfl, rfl, rfl, rfl, rfl, rfl, rfl, trivial⟩, ?_⟩
     refine A0 <| F3 rfl rfl (C2 (by omega)) <| y_M rfl <| xN [6,48,49] [6] rfl ?_
     refine ⟨(i + 1, l.set i (max (l.getD i default) (-(l.getD i default)))), ?_, (by simp only; omega), ⟨rfl, rfl, rfl, rfl, trivial⟩⟩
     exact ⟨by omega, hf.step (by omega) (by rw [hfa (by omega)]; done)⟩
    refine E6 ?_
    refine ⟨(_, _, _), ?_, ⟨rfl, rfl, trivial⟩⟩
    exact ⟨by rw [(hf.fin (by omega)).trans (a6j x fun v => max v (-v))]; simp [Q6, *], by omega, by omega⟩
   try simp at hc
   refine A3 <| A0 <| H0 rfl rfl <| y_S rfl <| xN [1,6,20,66] [6] rfl ?_
   refine A5 rfl ?_ ?_ <;> intro hc <;> try simp only [SL] at hc
   ·try simp at hc
    refine A3 <| A0 <| y_M rfl <| G8 rfl rfl <| L4 rfl rfl (C2 (by omega)) <| y_S rfl <| xN [6,9] [6] rfl <| B2 <| E4 (β := Nat × List Int) [(.t 6, _)] (fun (z : Nat × List Int) => match z with | (k, l) => [(.t 9, iV ((k : Int) - 1)), (.h 6, .obj g6 0 1 (l.map iV))]) (fun (z : Nat × List Int) => match z with | (k, l) => k ≤ x.length ∧ a2i x (k - 1) l) (fun (z : Nat × List Int) => match z with | (k, l) => k) (x.length, x) ⟨rfl, rfl, rfl, trivial⟩ ⟨Nat.le_refl _, a2i.start x⟩ ?_
    intro z hb
    obtain ⟨k, l⟩ := z
    try dsimp only at hb
    obtain ⟨hk1, hd⟩ := hb
    have hdl := hd.1
    refine A3 <| A3 <| A0 <| y_M rfl <| S0 rfl rfl <| xN [6,9,72] [6] rfl ?_
    refine A5 rfl ?_ ?_ <;> intro hc <;> try simp only [SL] at hc
    ·refine A6 <| A3 <| B2 <| A0 <| y_M rfl <| y_M rfl ?_
     rw [show ((k : Int) - 1) = ((k - 1 : Nat) : Int) by omega]
     refine C5 rfl rfl rfl rfl (by omega) (by (simp; omega)) rfl <| G0 rfl rfl (by omega) (fun _ => rfl) (fun _ => rfl) rfl <| y_M rfl <| y_M rfl <| L4 rfl rfl (C2 (by omega)) ?_
     rw [show ((k - 1 : Nat) : Int) - 1 = ((k - 1 - 1 : Nat) : Int) by omega]
     refine C5 rfl rfl rfl rfl (by omega) (by (simp; omega)) rfl <| G0 rfl rfl (by omega) (fun _ => rfl) (fun _ => rfl) rfl ?_
     have hd1 := hd.val (k - 1)
     have hd2 := hd.val (k - 1 - 1)
     have hg1 := hgx (k - 1)
     have hg2 := hgx (k - 1 - 1)
     have hg3 := hgx (k - 1 - 1 - 1)
     refine L4 rfl rfl (C2 (by omega)) <| C5 rfl rfl rfl rfl (by omega) (by (simp; omega)) rfl <| H8 rfl rfl rfl (by omega) (fun _ _ => ⟨rfl, rfl, dT rfl, dT rfl, rfl, rfl⟩) (by decide) (by exact B7 (A7 fun _ => rfl)) ?_
     refine J9 ⟨fun _ => ⟨by decide +kernel, by decide +kernel⟩, [(.t 6, _), (.t 9, _), (.h 6, _)], ⟨rfl, rfl, rfl, rfl, rfl, rfl, trivial⟩, ?_⟩
     refine A0 <| y_M rfl <| L4 rfl rfl (C2 (by omega)) <| y_S rfl <| xN [6,9] [6] rfl ?_
     refine ⟨(k - 1, _), ?_, (by simp only; omega), ⟨rfl, rfl, rfl, trivial⟩⟩
     exact ⟨by omega, hd.step (by omega) (by omega)⟩
    refine E6 ?_
    refine ⟨(_, _, _), ?_, ⟨rfl, rfl, trivial⟩⟩
    exact ⟨by rw [show l = dfI x from a2i.fin ((show k - 1 = 0 by omega) ▸ hd)]; simp [Q6, *], by omega, by omega⟩
   try simp at hc
   refine A3 <| A0 <| H0 rfl rfl <| y_S rfl <| xN [1,6,20,86] [6] rfl ?_
   refine A5 rfl ?_ ?_ <;> intro hc <;> try simp only [SL] at hc
   ·try simp at hc
    refine A3 <| A0 <| y_S rfl <| xN [6,10] [6] rfl <| B2 <| E4 (β := Nat × List Int) [(.t 6, _)] (fun (z : Nat × List Int) => match z with | (i, l) => [(.t 10, iV i), (.h 6, .obj g6 0 1 (l.map iV))]) (fun (z : Nat × List Int) => match z with | (i, l) => 1 ≤ i ∧ P9 x.length (fun i => prS (G5 x) (i + 1)) (G5 x) i l) (fun (z : Nat × List Int) => match z with | (i, l) => x.length - i) (1, x) ⟨rfl, rfl, rfl, trivial⟩ ⟨Nat.le_refl _, P9.start1 x⟩ ?_
    intro z hb
    obtain ⟨i, l⟩ := z
    try dsimp only at hb
    obtain ⟨hi1, hf⟩ := hb
    have hfl := hf.1
    have hfa := fun h : i < x.length => hf.at h
    have hgi := hgx i
    refine A3 <| A3 <| A0 <| y_M rfl <| y_M rfl <| G8 rfl rfl <| F8 rfl rfl <| xN [6,10,91] [6] rfl ?_
    refine A5 rfl ?_ ?_ <;> intro hc <;> try simp only [SL] at hc
    ·refine A6 <| A3 <| B2 <| A0 <| y_M rfl <| y_M rfl <| C5 rfl rfl rfl rfl (by omega) (by (simp; omega)) rfl <| G0 rfl rfl (by omega) (fun _ => rfl) (fun _ => rfl) rfl <| y_M rfl <| y_M rfl <| L4 rfl rfl (C2 (by omega)) ?_
     rw [show ((i : Int) - 1) = ((i - 1 : Nat) : Int) by omega]
     refine C5 rfl rfl rfl rfl (by omega) (by (simp; omega)) rfl <| G0 rfl rfl (by omega) (fun _ => rfl) (fun _ => rfl) rfl ?_
     have hfb := hf.before (j := i - 1) (by omega) (by omega)
     have hsb := c1e hx (i - 1 + 1)
     refine F3 rfl rfl (C2 (by omega)) <| C5 rfl rfl rfl rfl (by omega) (by (simp; omega)) rfl <| H8 rfl rfl rfl (by omega) (fun _ _ => ⟨rfl, rfl, dT rfl, dT rfl, rfl, rfl⟩) (by decide) (by exact B7 (A7 fun _ => rfl)) ?_
     refine J9 ⟨fun _ => ⟨by decide +kernel, by decide +kernel⟩, [(.t 6, _), (.t 10, _), (.h 6, _)], ⟨rfl, rfl, rfl, rfl, rfl, rfl, trivial⟩, ?_⟩
     refine A0 <| y_M rfl <| F3 rfl rfl (C2 (by omega)) <| y_S rfl <| xN [6,10] [6] rfl ?_
     refine ⟨(i + 1, l.set i (l.getD i default + l.getD (i - 1) default)), ?_, (by simp only; omega), ⟨rfl, rfl, rfl, trivial⟩⟩
     have hfb2 := hf.before (j := i - 1) (by omega) (by omega)
     rw [show i - 1 + 1 = i by omega] at hfb2
     exact ⟨by omega, hf.step (by omega) (by rw [hfa (by omega), hfb2, Int.add_comm]; rfl)⟩
    refine E6 ?_
    refine ⟨(_, _, _), ?_, ⟨rfl, rfl, trivial⟩⟩
    exact ⟨by rw [show l = smI x from hf.fin (by omega)]; simp [Q6, *], by omega, by omega⟩
   try simp at hc
   refine A3 <| A0 <| H0 rfl rfl <| y_S rfl <| xN [1,6,20,105] [6] rfl ?_
   refine A5 rfl ?_ ?_ <;> intro hc <;> try simp only [SL] at hc
   ·try simp at hc
    refine A0 <| y_M rfl ?_
    apply xC rfl
    ·apply A9
     ·exact D7 rfl rfl rfl (by (simp; done)) (fun _ => rfl)
     exact C0
    ·exact c9u x hx
    refine ⟨⟨rfl, rfl, rfl, dT rfl, rfl⟩, .inr ⟨a0l fun _ => rfl, rfl⟩, B3, G4, fun _ => rfl, fun g108 => ?_⟩
    simp only [List.length_map]
    (refine xO rfl rfl (by simp) rfl (fun _ => rfl) (fun _ => rfl) ?_; intro g6)
    refine xN [6] [6] rfl ?_
    refine ⟨(_, _, _), ?_, ⟨rfl, rfl, trivial⟩⟩
    exact ⟨(by (simp [Q6, rkI, *]; done)), (by (simp [dfI, smI, rkI, adI]; done)), (by (simp; omega))⟩
   try simp at hc
   refine A3 <| A0 <| H0 rfl rfl <| y_S rfl <| xN [1,6,20,109] [6] rfl ?_
   refine A5 rfl ?_ ?_ <;> intro hc <;> try simp only [SL] at hc
   ·try simp at hc
    refine A0 <| y_M rfl ?_
    apply xC rfl
    ·apply A9
     ·exact D7 rfl rfl rfl (by (simp; done)) (fun _ => rfl)
     exact C0
    ·exact d2v x hx
    refine ⟨⟨rfl, rfl, rfl, dT rfl, rfl⟩, .inr ⟨rfl, rfl⟩, B3, D5 rfl, fun _ => rfl, fun g112 => ?_⟩
    refine C4 (es := List.map iV [_]) rfl rfl (dT rfl) rfl rfl (fun _ => B7 (A7 fun _ => rfl)) (fun _ => rfl) ?_
    intro g113
    (refine xO rfl rfl (by simp) rfl (fun _ => rfl) (fun _ => rfl) ?_; intro g6)
    refine xN [6] [6] rfl ?_
    refine ⟨(_, _, _), ?_, ⟨rfl, rfl, trivial⟩⟩
    exact ⟨(by (simp [Q6, *]; done)), (by (simp; done)), (by (simp; done))⟩
   try simp at hc
   refine A3 <| A0 <| H0 rfl rfl <| y_S rfl <| xN [1,6,20,114] [6] rfl ?_
   refine A5 rfl ?_ ?_ <;> intro hc <;> try simp only [SL] at hc
   ·try simp at hc
    have h2l := hl2 (c8s (.inl hc))
    refine A3 <| A3 <| A0 <| y_M rfl <| B1 rfl rfl rfl (fun _ => rfl) (by (change 0 < _; omega)) <| y_I rfl ?_
    rw [hlx]
    refine B9 rfl rfl <| y_M rfl <| B1 rfl rfl rfl (fun _ => rfl) (by (simp; omega)) <| y_I rfl ?_
    rw [hly h2l]
    refine B9 rfl rfl <| Z6 rfl rfl ?_
    refine J9 ⟨fun _ => ⟨by decide +kernel, by decide +kernel⟩, [(.t 1, _), (.t 6, _), (.t 124, _), (.h 6, _)], ⟨rfl, rfl, rfl, rfl, rfl, rfl, rfl, rfl, trivial⟩, ?_⟩
    refine A5 rfl ?_ ?_ <;> intro hc <;> try simp only [SL] at hc
    ·refine A3 <| A0 ?_
     (refine A8 rfl rfl (fun _ => rfl) ?_; intro g4)
     refine y_S rfl <| xN [4,5] [4] rfl <| B0 <| D4 (F6 rfl rfl (by simp) (by rfl) (E8 rfl rfl (F4 B8))) ?_
     have hne : ¬ x.length = y.length := by omega
     rw [show mkR op x y = none from by simp [mkR, Q6, *]]
     rfl
    refine A6 <| A3 <| A0 <| y_M rfl <| B1 rfl rfl rfl (fun _ => rfl) (by (simp; omega)) <| y_I rfl ?_
    rw [hly h2l]
    refine B9 rfl rfl <| y_M rfl <| xN [6,127,128,129] [6] rfl <| B2 <| E4 (β := Nat × List Int) [(.t 6, _), (.t 127, _), (.t 128, _)] (fun (z : Nat × List Int) => match z with | (i, l) => [(.t 129, iV i), (.h 6, .obj g6 0 1 (l.map iV))]) (fun (z : Nat × List Int) => match z with | (i, l) => i ≤ x.length ∧ P9 x.length (fun i => G5 x i + G5 y i) (G5 x) i l) (fun (z : Nat × List Int) => match z with | (i, l) => x.length - i) (0, x) ⟨rfl, rfl, rfl, rfl, rfl, trivial⟩ ⟨Nat.zero_le _, P9.start x _⟩ ?_
    intro z hb
    obtain ⟨i, l⟩ := z
    try dsimp only at hb
    obtain ⟨hi1, hf⟩ := hb
    have hfl := hf.1
    have hfa := fun h : i < x.length => hf.at h
    have hgi := hgx i
    have hgyi : -100000 ≤ y.getD i default ∧ y.getD i default ≤ 100000 := hgy i
    refine A3 <| A0 <| F8 rfl rfl <| xN [6,127,128,129,130] [6] rfl <| A3 ?_
    refine A5 rfl ?_ ?_ <;> intro hc <;> try simp only [SL] at hc
    ·refine A6 <| A3 <| B2 <| A3 <| A0 <| y_M rfl <| B1 rfl rfl rfl (fun _ => rfl) (by omega) <| y_I rfl <| y_S rfl <| y_S rfl <| xN [6,11,12,127,128,129] [6] rfl <| A0 <| y_M rfl <| y_M rfl <| C5 rfl rfl rfl rfl (by omega) (by (simp; omega)) rfl <| G0 rfl rfl (by omega) (fun _ => rfl) (fun _ => rfl) rfl <| y_M rfl <| F3 rfl rfl (C2 (by omega)) <| C5 rfl rfl rfl rfl (by omega) (by (simp; omega)) rfl <| H8 rfl rfl rfl (by omega) (fun _ _ => ⟨rfl, rfl, dT rfl, dT rfl, rfl, rfl⟩) (by decide) (by exact B7 (A7 fun _ => rfl)) <| xN [6,127,128,129] [6] rfl <| A0 <| F3 rfl rfl (C2 (by omega)) <| y_M rfl <| xN [6,127,128,129] [6] rfl ?_
     refine ⟨(i + 1, l.set i (l.getD i default + y.getD i default)), ?_, (by simp only; omega), ⟨rfl, rfl, rfl, rfl, rfl, trivial⟩⟩
     exact ⟨by omega, hf.step (by omega) (by rw [hfa (by omega)]; rfl)⟩
    refine E6 ?_
    refine ⟨(_, _, _), ?_, ⟨rfl, rfl, trivial⟩⟩
    exact ⟨adF (by assumption) (by omega) (hf.fin (by omega)) rfl, by omega, by omega⟩
   try simp at hc
   refine A3 <| A0 <| H0 rfl rfl <| y_S rfl <| xN [1,6,142] [6] rfl ?_
   refine A5 rfl ?_ ?_ <;> intro hc <;> try simp only [SL] at hc
   ·try simp at hc
    have h2l := hl2 (c8s (.inr hc))
    refine A0 <| y_M rfl <| y_M rfl <| B1 rfl rfl rfl (fun _ => rfl) (by (simp; omega)) <| y_I rfl ?_
    rw [hly h2l]
    refine T4 rfl rfl rfl (by (simp; done)) rfl rfl rfl (dT rfl) (fun _ => ⟨rfl, rfl, rfl⟩) (by simp only [H3]; omega) (fun _ => rfl) ?_
    intro g148
    (refine xO rfl rfl (by simp) rfl (fun _ => rfl) (fun _ => rfl) ?_; intro g6)
    refine xN [6] [6] rfl ?_
    refine ⟨(_, _, _), ?_, ⟨rfl, rfl, trivial⟩⟩
    exact ⟨(by (simp [Q6, *]; done)), (by (simp; done)), (by (simp; omega))⟩
   try simp at hc
   refine A6 ?_
   refine ⟨(_, _, _), ?_, ⟨rfl, rfl, trivial⟩⟩
   exact ⟨(by (simp [Q6, *]; done)), (by (simp; done)), (by omega)⟩
  intro z hb
  obtain ⟨r, n, g⟩ := z
  try dsimp only at hb
  obtain ⟨hraw, hn, hr80⟩ := hb
  subst hn
  refine A3 <| A3 <| A0 <| y_M rfl <| G8 rfl rfl <| S0 rfl rfl <| y_M rfl ?_
  refine C8 rfl rfl ?_ ?_ <;> intro hg0 <;> have hg := hg0 <;> try simp only [SG] at hg
  ·refine y_M rfl <| gT rfl rfl ?_
   apply xC rfl
   ·apply A9
    ·exact D7 rfl rfl rfl (by (simp; done)) (fun _ => rfl)
    apply A9
    ·exact B4 rfl
    apply A9
    ·exact B4 rfl
    exact C0
   ·exact c3y r (by omega) (-100000) 100000
   refine ⟨⟨rfl, rfl, rfl, dT rfl, rfl⟩, .inr ⟨rfl, rfl⟩, B3, D5 rfl, fun _ => rfl, fun g154 => ?_⟩
   refine gT rfl rfl <| K7 rfl <| F0 rfl (by assumption) rfl rfl <| xN [6,156] [6] rfl ?_
   refine A5 rfl ?_ ?_ <;> intro hc <;> try simp only [SL] at hc
   ·refine A3 <| A0 ?_
    (refine A8 rfl rfl (fun _ => rfl) ?_; intro g4)
    refine y_S rfl <| xN [4,5] [4] rfl <| B0 <| D4 (F6 rfl rfl (by simp) (by rfl) (E8 rfl rfl (F4 B8))) ?_
    rw [mkR, hraw, Option.bind_some, if_neg (by rw [S8]; simp_all; try omega)]
    rfl
   refine A6 <| A3 <| A0 <| y_M rfl ?_
   apply xC rfl
   ·apply A9
    ·exact b0i rfl rfl (by (simp; done)) (A7 fun _ => rfl)
    exact C0
   ·exact c4i r (by simp only [H3]; omega)
   refine ⟨⟨rfl, rfl, rfl, dT rfl, rfl⟩, .inl rfl, B3, G4, fun _ => rfl, fun g158 => ?_⟩
   simp only [List.length_map]
   (refine xO rfl rfl (by simp) rfl (fun _ => rfl) (fun _ => rfl) ?_; intro g4)
   refine y_S rfl <| xN [4,5] [4] rfl <| B0 <| D4 (F6 rfl rfl (by simp) (by exact A7 fun _ => rfl) (E8 rfl rfl (F4 B8))) ?_
   rw [mkR, hraw, Option.bind_some, if_pos (S8.2 ⟨by omega, by simp_all⟩)]
   rfl
  refine gF rfl rfl <| gF rfl rfl <| F7 rfl (by assumption) rfl rfl <| xN [6,156] [6] rfl ?_
  refine A5 rfl (fun hc => ?_) (fun hc => absurd hc (by decide))
  refine A3 <| A0 ?_
  (refine A8 rfl rfl (fun _ => rfl) ?_; intro g4)
  refine y_S rfl <| xN [4,5] [4] rfl <| B0 <| D4 (F6 rfl rfl (by simp) (by rfl) (E8 rfl rfl (F4 B8))) ?_
  rw [mkR, hraw, Option.bind_some, if_neg (by rw [S8]; simp_all; try omega)]
  rfl
 try simp only [SD] at hc
 omega

theorem b7m : E7 Tryz.f88 = [0, 1, 2, 6, 7, 16, 17, 21, 25, 9, 30, 8, 41, 10, 46, 62, 11, 67, 71, 91, 13, 96, 12, 109, 113, 120, 126, 14, 130, 145] := by kernel_rfl
theorem c4r (op : ByteArray) (h1 : 1 ≤ nd op) (x y : List Int) (hx : vl x = true) (hy : vl y = true) : CW (cxT oG) 88 [sV op, L x, L y] = some (.tup [.own 1 ((raR op x y).map iV), bV (mkR op x y).isSome], []) := by
 have hx40 := (S8.1 hx).1
 have hy40 := (S8.1 hy).1
 have hgx := Y1 hx
 have hgy := Y1 hy
 have hsx := a2b x
 refine E5 rfl Tryz.func88 rfl ⟨by kernel_rfl, rfl, dT rfl, dT rfl, by decide⟩ b7m <| A3 <| A0 ?_
 (refine A8 rfl rfl (fun _ => rfl) ?_; intro g6)
 refine y_S rfl <| xN [0,1,2] [] rfl <| A3 <| A0 <| C4 (es := List.map iV []) rfl rfl (dT rfl) rfl rfl (fun _ => B7 (A7 fun _ => rfl)) (fun _ => rfl) ?_
 intro g15
 (refine xO rfl rfl (by simp) rfl (fun _ => rfl) (fun _ => rfl) ?_; intro g8)
 refine xN [0,1,2,8] [8] rfl <| b8k <| A3 <| A0 <| y_M rfl <| xN [1,2,8,16] [8] rfl ?_
 refine c8m (β := List Int × Nat × Nat) [] trivial (fun (z : List Int × Nat × Nat) => match z with | (r, n, g) => [(.h 8, .obj g 0 1 (r.map iV)), (.t 8, .sl 8 g none 0 n)]) (fun (z : List Int × Nat × Nat) => match z with | (r, n, g) => Q6 op x y = some r ∧ n = r.length ∧ r.length ≤ 80) ?_ ?_
 ·skip
  refine B2 <| A3 <| A0 <| H0 rfl rfl <| y_S rfl <| xN [1,2,8,16,17] [8] rfl ?_
  refine A5 rfl ?_ ?_ <;> intro hc <;> try simp only [SL] at hc
  ·try simp at hc
   refine A0 <| y_M rfl ?_
   apply xC rfl
   ·apply A9
    ·exact B4 rfl
    exact C0
   ·exact c5x x (by omega)
   refine ⟨⟨rfl, rfl, rfl, dT rfl, rfl⟩, .inl rfl, B3, G4, fun _ => rfl, fun g20 => ?_⟩
   simp only [List.length_map]
   (refine xO rfl rfl (by simp) rfl (fun _ => rfl) (fun _ => rfl) ?_; intro g8)
   refine xN [8] [8] rfl ?_
   refine ⟨(_, _, _), ?_, ⟨rfl, rfl, trivial⟩⟩
   exact ⟨(by (simp [Q6, *]; done)), (by (simp; done)), (by (simp; omega))⟩
  try simp at hc
  refine A3 <| A0 <| H0 rfl rfl <| y_S rfl <| xN [1,2,8,16,21] [8] rfl ?_
  refine A5 rfl ?_ ?_ <;> intro hc <;> try simp only [SL] at hc
  ·try simp at hc
   refine A0 <| y_M rfl ?_
   apply xC rfl
   ·apply A9
    ·exact B4 rfl
    exact C0
   ·exact c5v x (by omega)
   refine ⟨⟨rfl, rfl, rfl, dT rfl, rfl⟩, .inl rfl, B3, G4, fun _ => rfl, fun g24 => ?_⟩
   simp only [List.length_map]
   (refine xO rfl rfl (by simp) rfl (fun _ => rfl) (fun _ => rfl) ?_; intro g8)
   refine xN [8] [8] rfl ?_
   refine ⟨(_, _, _), ?_, ⟨rfl, rfl, trivial⟩⟩
   exact ⟨(by (simp [Q6, *]; done)), (by (simp; done)), (by (simp; omega))⟩
  try simp at hc
  refine A3 <| A0 <| H0 rfl rfl <| y_S rfl <| xN [1,2,8,16,25] [8] rfl ?_
  refine A5 rfl ?_ ?_ <;> intro hc <;> try simp only [SL] at hc
  ·try simp at hc
   refine A3 <| A0 <| y_S rfl <| xN [1,8,9] [8] rfl <| B2 <| E4 (β := Nat × List Int × Nat) [(.t 1, _)] (fun (z : Nat × List Int × Nat) => match z with | (i, l, g) => [(.t 9, iV i), (.h 8, .obj g 0 1 (l.map iV)), (.t 8, .sl 8 g none 0 l.length)]) (fun (z : Nat × List Int × Nat) => match z with | (i, l, g) => i ≤ x.length ∧ l = (List.range i).map (fun i => -(G5 x i))) (fun (z : Nat × List Int × Nat) => match z with | (i, l, g) => x.length - i) (0, [], _) ⟨rfl, rfl, rfl, rfl, trivial⟩ ⟨Nat.zero_le _, rfl⟩ ?_
   intro z hb
   obtain ⟨i, l, g⟩ := z
   try dsimp only at hb
   obtain ⟨hi1, hl⟩ := hb
   have hll : l.length = i := by rw [hl]; simp
   have hgi : -100000 ≤ x.getD i default ∧ x.getD i default ≤ 100000 := hgx i
   have hgyi : -100000 ≤ y.getD i default ∧ y.getD i default ≤ 100000 := hgy i
   refine A3 <| A3 <| A0 <| y_M rfl <| y_M rfl <| B9 rfl rfl <| F8 rfl rfl <| xN [1,8,9,30] [8] rfl ?_
   refine A5 rfl ?_ ?_ <;> intro hc <;> try simp only [SL] at hc
   ·refine A6 <| A3 <| B2 <| A0 <| y_M rfl <| y_M rfl <| y_M rfl <| B1 rfl rfl rfl (fun _ => rfl) (by omega) <| y_I rfl <| b5h rfl (C2 (by omega)) <| C4 (es := List.map iV [_]) rfl rfl (dT rfl) rfl rfl (fun _ => B7 (A7 fun _ => rfl)) (fun _ => rfl) ?_
    intro g39
    refine xA rfl rfl rfl rfl (by simp) (by simp) rfl rfl rfl rfl rfl (fun _ => rfl) (by simp only [LN]; omega) (fun _ => rfl) ?_
    intro g40
    (refine xO rfl rfl (by simp) rfl (fun _ => rfl) (fun _ => rfl) ?_; intro g8)
    refine xN [1,8,9] [8] rfl <| A0 <| y_M rfl <| F3 rfl rfl (C2 (by omega)) <| y_S rfl <| xN [1,8,9] [8] rfl ?_
    refine ⟨(i + 1, l ++ [-(x.getD i default)], _), ?_, (by simp only; omega), ⟨rfl, rfl, rfl, rfl, trivial⟩⟩
    exact ⟨by omega, by rw [hl, R8]; rfl⟩
   refine E6 ?_
   refine ⟨(_, _, _), ?_, ⟨rfl, rfl, trivial⟩⟩
   exact ⟨apF (show l = x.map (fun v => -v) by rw [hl, show i = x.length by omega]; exact a6j x fun v => -v) (by simp [Q6, *]), by omega, by omega⟩
  try simp at hc
  refine A3 <| A0 <| H0 rfl rfl <| y_S rfl <| xN [1,2,8,16,41] [8] rfl ?_
  refine A5 rfl ?_ ?_ <;> intro hc <;> try simp only [SL] at hc
  ·try simp at hc
   refine A3 <| A0 <| y_S rfl <| xN [1,8,10] [8] rfl <| B2 <| E4 (β := Nat × List Int × Nat) [(.t 1, _)] (fun (z : Nat × List Int × Nat) => match z with | (i, l, g) => [(.t 10, iV i), (.h 8, .obj g 0 1 (l.map iV)), (.t 8, .sl 8 g none 0 l.length)]) (fun (z : Nat × List Int × Nat) => match z with | (i, l, g) => i ≤ x.length ∧ l = (List.range i).map (fun i => max (G5 x i) (-(G5 x i)))) (fun (z : Nat × List Int × Nat) => match z with | (i, l, g) => x.length - i) (0, [], _) ⟨rfl, rfl, rfl, rfl, trivial⟩ ⟨Nat.zero_le _, rfl⟩ ?_
   intro z hb
   obtain ⟨i, l, g⟩ := z
   try dsimp only at hb
   obtain ⟨hi1, hl⟩ := hb
   have hll : l.length = i := by rw [hl]; simp
   have hgi : -100000 ≤ x.getD i default ∧ x.getD i default ≤ 100000 := hgx i
   have hgyi : -100000 ≤ y.getD i default ∧ y.getD i default ≤ 100000 := hgy i
   refine A3 <| A3 <| A0 <| y_M rfl <| y_M rfl <| B9 rfl rfl <| F8 rfl rfl <| xN [1,8,10,46] [8] rfl ?_
   refine A5 rfl ?_ ?_ <;> intro hc <;> try simp only [SL] at hc
   ·refine A6 <| A3 <| B2 <| A0 <| y_M rfl <| y_M rfl <| y_M rfl <| B1 rfl rfl rfl (fun _ => rfl) (by omega) <| y_I rfl <| y_M rfl <| y_M rfl <| B1 rfl rfl rfl (fun _ => rfl) (by omega) <| y_I rfl <| b5h rfl (C2 (by omega)) <| d1y rfl rfl <| C4 (es := List.map iV [_]) rfl rfl (dT rfl) rfl rfl (fun _ => B7 (A7 fun _ => rfl)) (fun _ => rfl) ?_
    intro g60
    refine xA rfl rfl rfl rfl (by simp) (by simp) rfl rfl rfl rfl rfl (fun _ => rfl) (by simp only [LN]; omega) (fun _ => rfl) ?_
    intro g61
    (refine xO rfl rfl (by simp) rfl (fun _ => rfl) (fun _ => rfl) ?_; intro g8)
    refine J9 ⟨fun _ => ⟨by decide +kernel, by decide +kernel⟩, [(.t 1, _), (.t 8, _), (.t 10, _), (.h 8, _)], ⟨rfl, rfl, rfl, rfl, rfl, rfl, rfl, rfl, trivial⟩, ?_⟩
    refine A0 <| y_M rfl <| F3 rfl rfl (C2 (by omega)) <| y_S rfl <| xN [1,8,10] [8] rfl ?_
    refine ⟨(i + 1, l ++ [max (x.getD i default) (-(x.getD i default))], _), ?_, (by simp only; omega), ⟨rfl, rfl, rfl, rfl, trivial⟩⟩
    exact ⟨by omega, by rw [hl, R8]; rfl⟩
   refine E6 ?_
   refine ⟨(_, _, _), ?_, ⟨rfl, rfl, trivial⟩⟩
   exact ⟨apF (show l = x.map (fun v => max v (-v)) by rw [hl, show i = x.length by omega]; exact a6j x fun v => max v (-v)) (by simp [Q6, *]), by omega, by omega⟩
  try simp at hc
  refine A3 <| A0 <| H0 rfl rfl <| y_S rfl <| xN [1,2,8,16,62] [8] rfl ?_
  refine A5 rfl ?_ ?_ <;> intro hc <;> try simp only [SL] at hc
  ·try simp at hc
   refine A3 <| A0 <| y_S rfl <| xN [1,8,11] [8] rfl <| B2 <| E4 (β := Nat × List Int × Nat) [(.t 1, _)] (fun (z : Nat × List Int × Nat) => match z with | (i, l, g) => [(.t 11, iV i), (.h 8, .obj g 0 1 (l.map iV)), (.t 8, .sl 8 g none 0 l.length)]) (fun (z : Nat × List Int × Nat) => match z with | (i, l, g) => i ≤ x.length ∧ l = (List.range i).map (fun i => if i = 0 then G5 x 0 else G5 x i - G5 x (i - 1))) (fun (z : Nat × List Int × Nat) => match z with | (i, l, g) => x.length - i) (0, [], _) ⟨rfl, rfl, rfl, rfl, trivial⟩ ⟨Nat.zero_le _, rfl⟩ ?_
   intro z hb
   obtain ⟨i, l, g⟩ := z
   try dsimp only at hb
   obtain ⟨hi1, hl⟩ := hb
   have hll : l.length = i := by rw [hl]; simp
   have hgi : -100000 ≤ x.getD i default ∧ x.getD i default ≤ 100000 := hgx i
   have hgyi : -100000 ≤ y.getD i default ∧ y.getD i default ≤ 100000 := hgy i
   refine A3 <| A3 <| A0 <| y_M rfl <| y_M rfl <| B9 rfl rfl <| F8 rfl rfl <| xN [1,8,11,67] [8] rfl ?_
   refine A5 rfl ?_ ?_ <;> intro hc <;> try simp only [SL] at hc
   ·refine A6 <| A3 <| B2 <| A3 <| A0 <| y_M rfl <| X3 rfl rfl <| xN [1,8,11,71] [8] rfl ?_
    refine A5 rfl ?_ ?_ <;> intro hc <;> try simp only [SL] at hc
    ·refine A0 <| y_M rfl <| y_M rfl <| B1 rfl rfl rfl (fun _ => rfl) (by (change 0 < _; omega)) <| y_I rfl <| C4 (es := List.map iV [_]) rfl rfl (dT rfl) rfl rfl (fun _ => B7 (A7 fun _ => rfl)) (fun _ => rfl) ?_
     intro g76
     refine xA rfl rfl rfl rfl (by simp) (by simp) rfl rfl rfl rfl rfl (fun _ => rfl) (by simp only [LN]; omega) (fun _ => rfl) ?_
     intro g77
     (refine xO rfl rfl (by simp) rfl (fun _ => rfl) (fun _ => rfl) ?_; intro g8)
     refine xN [1,8,11] [8] rfl <| A0 <| y_M rfl <| F3 rfl rfl (C2 (by omega)) <| y_S rfl <| xN [1,8,11] [8] rfl ?_
     refine ⟨(i + 1, l ++ [x.getD 0 default], _), ?_, (by simp only; omega), ⟨rfl, rfl, rfl, rfl, trivial⟩⟩
     exact ⟨by omega, by rw [hl, R8, if_pos (by omega)]; rfl⟩
    refine A0 <| y_M rfl <| y_M rfl <| y_M rfl <| B1 rfl rfl rfl (fun _ => rfl) (by omega) <| y_I rfl <| y_M rfl <| y_M rfl <| L4 rfl rfl (C2 (by omega)) ?_
    rw [show ((i : Int) - 1) = ((i - 1 : Nat) : Int) by omega]
    have hgi2 : -100000 ≤ x.getD (i - 1) default ∧ x.getD (i - 1) default ≤ 100000 := hgx (i - 1)
    refine B1 rfl rfl rfl (fun _ => rfl) (by omega) <| y_I rfl <| L4 rfl rfl (C2 (by omega)) <| C4 (es := List.map iV [_]) rfl rfl (dT rfl) rfl rfl (fun _ => B7 (A7 fun _ => rfl)) (fun _ => rfl) ?_
    intro g89
    refine xA rfl rfl rfl rfl (by simp) (by simp) rfl rfl rfl rfl rfl (fun _ => rfl) (by simp only [LN]; omega) (fun _ => rfl) ?_
    intro g90
    (refine xO rfl rfl (by simp) rfl (fun _ => rfl) (fun _ => rfl) ?_; intro g8)
    refine J9 ⟨fun _ => ⟨by decide +kernel, by decide +kernel⟩, [(.t 1, _), (.t 8, _), (.t 11, _), (.h 8, _)], ⟨rfl, rfl, rfl, rfl, rfl, rfl, rfl, rfl, trivial⟩, ?_⟩
    refine A0 <| y_M rfl <| F3 rfl rfl (C2 (by omega)) <| y_S rfl <| xN [1,8,11] [8] rfl ?_
    refine ⟨(i + 1, l ++ [x.getD i default - x.getD (i - 1) default], _), ?_, (by simp only; omega), ⟨rfl, rfl, rfl, rfl, trivial⟩⟩
    exact ⟨by omega, by rw [hl, R8, if_neg (by omega)]; rfl⟩
   refine E6 ?_
   refine ⟨(_, _, _), ?_, ⟨rfl, rfl, trivial⟩⟩
   exact ⟨apF (show l = dfI x by rw [hl, show i = x.length by omega]; rfl) (by simp [Q6, *]), by omega, by omega⟩
  try simp at hc
  refine A3 <| A0 <| H0 rfl rfl <| y_S rfl <| xN [1,2,8,16,91] [8] rfl ?_
  refine A5 rfl ?_ ?_ <;> intro hc <;> try simp only [SL] at hc
  ·try simp at hc
   refine A3 <| A0 <| y_S rfl <| xN [1,8,12] [8] rfl <| A3 <| A0 <| y_S rfl <| xN [1,8,12,13] [8] rfl <| B2 <| E4 (β := Nat × Int × List Int × Nat) [(.t 1, _)] (fun (z : Nat × Int × List Int × Nat) => match z with | (i, s, l, g) => [(.t 13, iV i), (.t 12, iV s), (.h 8, .obj g 0 1 (l.map iV)), (.t 8, .sl 8 g none 0 l.length)]) (fun (z : Nat × Int × List Int × Nat) => match z with | (i, s, l, g) => i ≤ x.length ∧ s = prS (G5 x) i ∧ l = (List.range i).map fun i => prS (G5 x) (i + 1)) (fun (z : Nat × Int × List Int × Nat) => match z with | (i, s, l, g) => x.length - i) (0, 0, [], _) ⟨rfl, rfl, rfl, rfl, rfl, trivial⟩ ⟨Nat.zero_le _, rfl, rfl⟩ ?_
   intro z hb
   obtain ⟨i, s, l, g⟩ := z
   try dsimp only at hb
   obtain ⟨hi1, hs, hl⟩ := hb
   have hll : l.length = i := by rw [hl]; simp
   have hgi : -100000 ≤ x.getD i default ∧ x.getD i default ≤ 100000 := hgx i
   have hsb := c1e hx i
   rw [← hs] at hsb
   refine A3 <| A3 <| A0 <| y_M rfl <| y_M rfl <| B9 rfl rfl <| F8 rfl rfl <| xN [1,8,12,13,96] [8] rfl ?_
   refine A5 rfl ?_ ?_ <;> intro hc <;> try simp only [SL] at hc
   ·refine A6 <| A3 <| B2 <| A3 <| A0 <| y_M rfl <| y_M rfl <| y_M rfl <| B1 rfl rfl rfl (fun _ => rfl) (by omega) <| y_I rfl <| F3 rfl rfl (C2 (by omega)) <| y_S rfl <| xN [1,8,12,13] [8] rfl <| A0 <| y_M rfl <| y_M rfl <| C4 (es := List.map iV [_]) rfl rfl (dT rfl) rfl rfl (fun _ => B7 (A7 fun _ => rfl)) (fun _ => rfl) ?_
    intro g107
    refine xA rfl rfl rfl rfl (by simp) (by simp) rfl rfl rfl rfl rfl (fun _ => rfl) (by simp only [LN]; omega) (fun _ => rfl) ?_
    intro g108
    (refine xO rfl rfl (by simp) rfl (fun _ => rfl) (fun _ => rfl) ?_; intro g8)
    refine xN [1,8,12,13] [8] rfl <| A0 <| y_M rfl <| F3 rfl rfl (C2 (by omega)) <| y_S rfl <| xN [1,8,12,13] [8] rfl ?_
    refine ⟨(i + 1, s + x.getD i default, l ++ [s + x.getD i default], _), ?_, (by simp only; omega), ⟨rfl, rfl, rfl, rfl, rfl, trivial⟩⟩
    exact ⟨by omega, by rw [prS, hs]; rfl, by rw [hl, R8, prS, hs]; rfl⟩
   refine E6 ?_
   refine ⟨(_, _, _), ?_, ⟨rfl, rfl, trivial⟩⟩
   exact ⟨apF (show l = smI x by rw [hl, show i = x.length by omega]; rfl) (by simp [Q6, *]), by omega, by omega⟩
  try simp at hc
  refine A3 <| A0 <| H0 rfl rfl <| y_S rfl <| xN [1,2,8,16,109] [8] rfl ?_
  refine A5 rfl ?_ ?_ <;> intro hc <;> try simp only [SL] at hc
  ·try simp at hc
   refine A0 <| y_M rfl ?_
   apply xC rfl
   ·apply A9
    ·exact B4 rfl
    exact C0
   ·exact c8z x hx
   refine ⟨⟨rfl, rfl, rfl, dT rfl, rfl⟩, .inl rfl, B3, G4, fun _ => rfl, fun g112 => ?_⟩
   simp only [List.length_map]
   (refine xO rfl rfl (by simp) rfl (fun _ => rfl) (fun _ => rfl) ?_; intro g8)
   refine xN [8] [8] rfl ?_
   refine ⟨(_, _, _), ?_, ⟨rfl, rfl, trivial⟩⟩
   exact ⟨(by (simp [Q6, rkI, *]; done)), (by (simp [dfI, smI, rkI, adI]; done)), (by (simp; omega))⟩
  try simp at hc
  refine A3 <| A0 <| H0 rfl rfl <| y_S rfl <| xN [1,2,8,16,113] [8] rfl ?_
  refine A5 rfl ?_ ?_ <;> intro hc <;> try simp only [SL] at hc
  ·try simp at hc
   refine A0 <| y_M rfl <| y_M rfl ?_
   refine xC1 rfl rfl (d3q x hx) ⟨rfl, rfl, rfl⟩ rfl rfl fun g117 => ?_
   refine C4 (es := List.map iV [_]) rfl rfl (dT rfl) rfl rfl (fun _ => B7 (A7 fun _ => rfl)) (fun _ => rfl) ?_
   intro g118
   refine xA rfl rfl rfl rfl (by simp) (by simp) rfl rfl rfl rfl rfl (fun _ => rfl) (by simp only [LN]; omega) (fun _ => rfl) ?_
   intro g119
   (refine xO rfl rfl (by simp) rfl (fun _ => rfl) (fun _ => rfl) ?_; intro g8)
   refine xN [8] [8] rfl ?_
   refine ⟨(_, _, _), ?_, ⟨rfl, rfl, trivial⟩⟩
   exact ⟨(by (simp [Q6, *]; done)), (by (simp; done)), (by (simp; done))⟩
  try simp at hc
  refine A3 <| A0 <| H0 rfl rfl <| y_S rfl <| xN [1,2,8,16,120] [8] rfl ?_
  refine A5 rfl ?_ ?_ <;> intro hc <;> try simp only [SL] at hc
  ·try simp at hc
   refine A3 <| A3 <| A0 <| y_M rfl <| B9 rfl rfl <| y_M rfl <| B9 rfl rfl <| Z6 rfl rfl <| xN [1,2,8,126] [8] rfl ?_
   refine A5 rfl ?_ ?_ <;> intro hc <;> try simp only [SL] at hc
   ·refine A3 <| A0 ?_
    (refine A8 rfl rfl (fun _ => rfl) ?_; intro g6)
    refine y_S rfl <| xN [6,7] [6] rfl <| B0 <| D4 (F6 rfl rfl (by simp) (by rfl) (E8 rfl rfl (F4 B8))) ?_
    have hne : ¬ x.length = y.length := by omega
    rw [show mkR op x y = none from by simp [mkR, Q6, *], show raR op x y = [] from by simp [raR, Q6, *]]
    rfl
   refine A6 <| A3 <| A0 <| y_S rfl <| xN [1,2,8,14] [8] rfl <| B2 <| E4 (β := Nat × List Int × Nat) [(.t 1, _), (.t 2, _)] (fun (z : Nat × List Int × Nat) => match z with | (i, l, g) => [(.t 14, iV i), (.h 8, .obj g 0 1 (l.map iV)), (.t 8, .sl 8 g none 0 l.length)]) (fun (z : Nat × List Int × Nat) => match z with | (i, l, g) => i ≤ x.length ∧ l = (List.range i).map (fun i => G5 x i + G5 y i)) (fun (z : Nat × List Int × Nat) => match z with | (i, l, g) => x.length - i) (0, [], _) ⟨rfl, rfl, rfl, rfl, rfl, trivial⟩ ⟨Nat.zero_le _, rfl⟩ ?_
   intro z hb
   obtain ⟨i, l, g⟩ := z
   try dsimp only at hb
   obtain ⟨hi1, hl⟩ := hb
   have hll : l.length = i := by rw [hl]; simp
   have hgi : -100000 ≤ x.getD i default ∧ x.getD i default ≤ 100000 := hgx i
   have hgyi : -100000 ≤ y.getD i default ∧ y.getD i default ≤ 100000 := hgy i
   refine A3 <| A3 <| A0 <| y_M rfl <| y_M rfl <| B9 rfl rfl <| F8 rfl rfl <| xN [1,2,8,14,130] [8] rfl ?_
   refine A5 rfl ?_ ?_ <;> intro hc <;> try simp only [SL] at hc
   ·refine A6 <| A3 <| B2 <| A0 <| y_M rfl <| y_M rfl <| y_M rfl <| B1 rfl rfl rfl (fun _ => rfl) (by omega) <| y_I rfl <| y_M rfl <| y_M rfl <| B1 rfl rfl rfl (fun _ => rfl) (by omega) <| y_I rfl <| F3 rfl rfl (C2 (by omega)) <| C4 (es := List.map iV [_]) rfl rfl (dT rfl) rfl rfl (fun _ => B7 (A7 fun _ => rfl)) (fun _ => rfl) ?_
    intro g143
    refine xA rfl rfl rfl rfl (by simp) (by simp) rfl rfl rfl rfl rfl (fun _ => rfl) (by simp only [LN]; omega) (fun _ => rfl) ?_
    intro g144
    (refine xO rfl rfl (by simp) rfl (fun _ => rfl) (fun _ => rfl) ?_; intro g8)
    refine J9 ⟨fun _ => ⟨by decide +kernel, by decide +kernel⟩, [(.t 1, _), (.t 2, _), (.t 8, _), (.t 14, _), (.h 8, _)], ⟨rfl, rfl, rfl, rfl, rfl, rfl, rfl, rfl, rfl, rfl, trivial⟩, ?_⟩
    refine A0 <| y_M rfl <| F3 rfl rfl (C2 (by omega)) <| y_S rfl <| xN [1,2,8,14] [8] rfl ?_
    refine ⟨(i + 1, l ++ [x.getD i default + y.getD i default], _), ?_, (by simp only; omega), ⟨rfl, rfl, rfl, rfl, rfl, trivial⟩⟩
    exact ⟨by omega, by rw [hl, R8]; rfl⟩
   refine E6 ?_
   refine ⟨(_, _, _), ?_, ⟨rfl, rfl, trivial⟩⟩
   exact ⟨adF (by assumption) (by omega) (by rw [hl, show i = x.length by omega]; rfl) rfl, by omega, by omega⟩
  try simp at hc
  refine A3 <| A0 <| H0 rfl rfl <| y_S rfl <| xN [1,2,8,145] [8] rfl ?_
  refine A5 rfl ?_ ?_ <;> intro hc <;> try simp only [SL] at hc
  ·try simp at hc
   refine A0 <| y_M rfl <| y_M rfl <| T4 rfl rfl rfl (by (simp; done)) rfl rfl rfl (dT rfl) (fun _ => ⟨rfl, rfl, rfl⟩) (by simp only [H3]; (simp only [List.length_nil, List.length_cons, List.length_append, Nat.zero_add, List.length_map]; omega)) (fun _ => rfl) ?_
   intro g149
   refine y_M rfl <| T4 rfl rfl rfl (by (simp; done)) rfl rfl rfl (dT rfl) (fun _ => ⟨rfl, rfl, rfl⟩) (by simp only [H3]; (simp only [List.length_nil, List.length_cons, List.length_append, Nat.zero_add, List.length_map]; omega)) (fun _ => rfl) ?_
   intro g151
   (refine xO rfl rfl (by simp) rfl (fun _ => rfl) (fun _ => rfl) ?_; intro g8)
   refine xN [8] [8] rfl ?_
   refine ⟨(_, _, _), ?_, ⟨rfl, rfl, trivial⟩⟩
   exact ⟨(by (simp [Q6, *]; done)), (by (simp; done)), (by (simp; omega))⟩
  try simp at hc
  refine A6 ?_
  refine ⟨(_, _, _), ?_, ⟨rfl, rfl, trivial⟩⟩
  exact absurd (c7g h1) (by simp [*])
 intro z hb
 obtain ⟨r, n, g⟩ := z
 try dsimp only at hb
 obtain ⟨hraw, hn, hr80⟩ := hb
 subst hn
 refine A3 <| A0 <| y_M rfl <| y_M rfl ?_
 apply xC rfl
 ·apply A9
  ·exact D7 rfl rfl rfl (by (simp; done)) (fun _ => rfl)
  exact C0
 ·exact c0g r (by omega)
 refine ⟨⟨rfl, rfl, rfl, dT rfl, rfl⟩, .inr ⟨rfl, rfl⟩, B3, D5 rfl, fun _ => rfl, fun g154 => ?_⟩
 (refine xO rfl rfl (by simp) rfl (fun _ => rfl) (fun _ => rfl) ?_; intro g6)
 refine y_S rfl <| xN [6,7] [6] rfl <| B0 <| D4 (F6 rfl rfl (by simp) (by exact A7 fun _ => rfl) (E8 rfl rfl (F4 B8))) ?_
 rw [raR, mkR, hraw, Option.bind_some, Option.getD_some]
 cases hvr : vl r <;> rfl

theorem a9r : E7 Tryz.f18 = [0, 1, 4, 5, 23, 26, 25, 27, 24, 8, 9, 6, 12, 11, 45, 47, 10, 13, 15, 68, 14, 78] := by kernel_rfl
theorem a2e (ws : List W8) (hw : ws.length ≤ 1048576) (hwl : ∀ w ∈ ws, w.length ≤ 1048576) (cols : List (List Int)) (hc4 : cols.length ≤ 1048576) (hcb : ∀ c ∈ cols, c.length ≤ 1048576) : CW (cxT oG) 18 [.list (ws.map tV), M cols] = some (.tup [.own 1 (((rcF cols ws).getD []).map iV), bV (rcF cols ws).isSome], []) := by
 refine E5 rfl Tryz.func18 rfl ⟨by kernel_rfl, rfl, dT rfl, dT rfl, by decide⟩ a9r <| A3 <| A0 ?_
 (refine A8 rfl rfl (fun _ => rfl) ?_; intro g4)
 refine y_S rfl <| xN [0,1] [] rfl <| A3 <| A3 <| A0 <| y_M rfl <| B9 rfl rfl <| S0 rfl rfl <| y_M rfl ?_
 refine C8 rfl rfl ?_ ?_ <;> intro hg0 <;> have hg := hg0 <;> try simp only [SG] at hg
 ·refine y_M rfl <| gT rfl rfl ?_
  refine xC1 rfl rfl (b2d cols hc4 hcb) ⟨rfl, rfl, rfl⟩ rfl rfl fun g21 => ?_
  refine gT rfl rfl <| K7 rfl <| F0 rfl (by assumption) rfl rfl <| xN [0,1,23] [] rfl ?_
  refine A5 rfl ?_ ?_ <;> intro hc <;> try simp only [SL] at hc
  ·refine A3 <| A0 ?_
   (refine A8 rfl rfl (fun _ => rfl) ?_; intro g4)
   refine y_S rfl <| xN [4,5] [4] rfl <| B0 <| D4 (F6 rfl rfl (by simp) (by rfl) (E8 rfl rfl (F4 B8))) ?_
   rw [c4p (by exact .inr (by simpa using hc))]
   rfl
  have hvc : vcs cols = true := by assumption
  have hw16 : ws.length ≤ 16 := by omega
  refine A6 <| A3 <| A0 ?_
  (refine A8 rfl rfl (fun _ => rfl) ?_; intro g6)
  refine xN [0,1,6] [6] rfl <| A3 <| A3 <| A0 <| y_M rfl <| B9 rfl rfl <| y_M rfl <| xN [1,6,24,25,26] [6] rfl <| B2 <| E4 (β := Nat × List (List Int) × Nat) [(.t 1, _), (.t 24, _), (.t 25, _)] (fun (z : Nat × List (List Int) × Nat) => match z with | (i, st, g) => [(.t 26, iV i), (.h 6, .obj g 0 1 (st.map oI)), (.t 6, .sl 6 g none 0 st.length)]) (fun (z : Nat × List (List Int) × Nat) => match z with | (i, st, g) => i ≤ ws.length ∧ G3 cols (ws.take i) [] = some st) (fun (z : Nat × List (List Int) × Nat) => match z with | (i, st, g) => ws.length - i) (0, [], _) ⟨rfl, rfl, rfl, rfl, rfl, rfl, trivial⟩ ⟨Nat.zero_le _, rfl⟩ ?_
  intro z hb
  obtain ⟨i, st, g⟩ := z
  try dsimp only at hb
  obtain ⟨hi1, hst⟩ := hb
  have hsl := b1h _ hst
  rw [List.length_take, List.length_nil] at hsl
  have hvl := c7p hvc hst
  refine A3 <| A0 <| F8 rfl rfl <| xN [1,6,24,25,26,27] [6] rfl <| A3 ?_
  refine A5 rfl ?_ ?_ <;> intro hc <;> try simp only [SL] at hc
  ·refine A6 <| A3 <| B2 <| A3 <| A0 <| B1 rfl rfl rfl (fun _ => rfl) (by omega) <| y_I rfl <| y_S rfl <| xN [1,6,8,24,25,26] [6] rfl <| A3 <| A0 <| y_M rfl ?_
   obtain ⟨w, hwd⟩ : ∃ w, w = ws.getD i default := ⟨_, rfl⟩
   rw [← hwd]
   have hwi : w.length ≤ 1048576 := by rw [hwd]; exact hwl _ (J4 (by omega))
   rcases c0j w with ⟨ns, hns⟩ | ⟨hnn, hn⟩ | ⟨hnn, hn⟩ | ⟨hnn, hn⟩ | ⟨hnn, hn⟩
   ·skip
    apply xC rfl
    ·apply A9
     ·exact B4 rfl
     exact C0
    ·exact (show CW (cxT oG) 63 [tV w] = some (.tup [tV lW, .own 1 (ns.map iV), bV true], []) from by have hi := Y8 (oG := oG) w (by omega); rw [hns] at hi; exact hi)
    refine ⟨⟨rfl, rfl, rfl, dT rfl, rfl⟩, .inr ⟨by simp [hasList, E3], rfl⟩, B3, H1 (J7 rfl (L8 fun _ => J7 rfl L6)), fun _ => D6 (B7 (A7 fun _ => rfl)) (by rfl), fun g32 => ?_⟩
    try simp only [List.length_map]
    refine y_M rfl <| y_E rfl <| y_E rfl <| y_E rfl <| y_S rfl ?_
    (refine xO rfl rfl (by simp) rfl (fun _ => rfl) (fun _ => rfl) ?_; intro g10)
    refine y_S rfl <| xN [1,6,9,10,11,24,25,26] [6,10] rfl <| A3 <| A0 <| y_M rfl ?_
    refine xC1 rfl rfl (a3z (bA lW)) ⟨rfl, rfl, rfl⟩ rfl rfl fun g37 => ?_
    rw [show nd (bA lW) = 0 from d1v rfl]
    refine y_S rfl <| xN [1,6,9,10,11,12,24,25,26] [6,10] rfl <| A3 <| A3 <| A0 <| y_M rfl <| K7 rfl <| y_M rfl <| E9 rfl rfl rfl <| y_M rfl <| E9 rfl rfl rfl <| y_M rfl <| E9 rfl rfl rfl <| G8 rfl rfl <| E9 rfl rfl rfl <| S0 rfl rfl <| F0 rfl rfl rfl rfl <| xN [1,6,9,10,12,24,25,26,45] [6,10] rfl ?_
    refine A5 rfl (fun hc => ?_) (fun hc => ?_)
    ·try simp only [SD] at hc
     omega
    try simp only [SL] at hc
    refine A6 <| A3 <| A3 <| A0 <| y_M rfl <| X3 rfl rfl <| xN [1,6,9,10,12,24,25,26,47] [6,10] rfl ?_
    refine A5 rfl (fun hc => ?_) (fun hc => absurd hc (by decide))
    refine A3 <| A0 <| y_M rfl <| y_M rfl <| y_M rfl <| y_M rfl ?_
    apply xC rfl
    ·apply A9
     ·exact B4 rfl
     apply A9
     ·exact D7 rfl rfl rfl (by (simp; done)) (fun _ => rfl)
     apply A9
     ·exact B4 rfl
     exact C0
    ·exact c5k ns (by have := b5d hns; have := c1s this; omega) cols
    refine ⟨⟨rfl, rfl, rfl, dT rfl, rfl⟩, .inr ⟨a0l fun _ => rfl, rfl⟩, B3, G4, fun _ => rfl, fun g52 => ?_⟩
    simp only [List.length_map]
    refine a0i rfl rfl (by simp) rfl rfl rfl (fun _ => rfl) ?_
    intro g53
    refine N2 (f := oI) (xs := st) (ys := [ns]) rfl rfl rfl rfl (by simp) (by simp) (by decide) rfl rfl rfl rfl (dT rfl) (fun a => ⟨rfl, a2z a⟩) (by simp only [H3]; simp; omega) (fun _ => rfl) ?_
    intro g54
    (refine xO rfl rfl (by simp) rfl (fun _ => rfl) (fun _ => rfl) ?_; intro g6)
    refine xN [1,6,24,25,26] [6] rfl <| E6 <| A0 <| F3 rfl rfl (C2 (by omega)) <| y_M rfl <| xN [1,6,24,25,26] [6] rfl ?_
    refine ⟨(i + 1, _, _), ?_, (by simp only; omega), ⟨rfl, rfl, rfl, rfl, rfl, rfl, trivial⟩⟩
    exact ⟨by omega, a0h (by omega) hst (by rw [← hwd]; exact d0k cols st hns)⟩
   ·obtain ⟨⟨k, hk, ek⟩, -⟩ := c4s hn
    have hci := c3v hk
    apply xC rfl
    ·apply A9
     ·exact B4 rfl
     exact C0
    ·exact (show CW (cxT oG) 63 [tV w] = some (.tup [tV w, .own 1 [], bV true], []) from by have hi := Y8 (oG := oG) w (by omega); rw [hnn] at hi; rw [show decide (0 ≤ rch (bA w)) = true from decide_eq_true (by omega)] at hi; exact hi)
    refine ⟨⟨rfl, rfl, rfl, dT rfl, rfl⟩, .inr ⟨rfl, rfl⟩, B3, H1 (J7 rfl (L8 fun _ => J7 rfl L6)), fun _ => D6 (B7 rfl) (by rfl), fun g32 => ?_⟩
    try simp only [List.length_map]
    refine y_M rfl <| y_E rfl <| y_E rfl <| y_E rfl <| y_S rfl ?_
    (refine I0 rfl rfl (by (simp; done)) rfl (fun _ => (B7 (by rfl))) (fun _ => rfl) ?_; intro g10)
    refine y_S rfl <| xN [1,6,9,10,11,24,25,26] [6,10] rfl <| A3 <| A0 <| y_M rfl ?_
    refine xC1 rfl rfl (a3z (bA w)) ⟨rfl, rfl, rfl⟩ rfl rfl fun g37 => ?_
    rw [show nd (bA w) = 0 from (V0 (by omega)).trans hn]
    refine y_S rfl <| xN [1,6,9,10,11,12,24,25,26] [6,10] rfl <| A3 <| A3 <| A0 <| y_M rfl <| K7 rfl <| y_M rfl <| E9 rfl rfl rfl <| y_M rfl <| E9 rfl rfl rfl <| y_M rfl <| E9 rfl rfl rfl <| G8 rfl rfl <| E9 rfl rfl rfl <| S0 rfl rfl <| F0 rfl rfl rfl rfl <| xN [1,6,9,10,12,24,25,26,45] [6,10] rfl ?_
    refine A5 rfl (fun hc => ?_) (fun hc => ?_)
    ·try simp only [SD] at hc
     omega
    try simp only [SL] at hc
    refine A6 <| A3 <| A3 <| A0 <| y_M rfl <| X3 rfl rfl <| xN [1,6,9,10,12,24,25,26,47] [6,10] rfl ?_
    refine A5 rfl (fun hc => ?_) (fun hc => absurd hc (by decide))
    refine A3 <| A0 <| y_M rfl <| y_M rfl <| y_M rfl <| y_M rfl ?_
    apply xC rfl
    ·apply A9
     ·exact B4 rfl
     apply A9
     ·exact a6i rfl rfl rfl rfl rfl
     apply A9
     ·exact B4 rfl
     exact C0
    ·exact (by have hi := c8a (oG := oG) k hk [] cols hc4 hcb; rw [← ek] at hi; exact hi)
    refine ⟨⟨rfl, rfl, rfl, dT rfl, rfl⟩, .inr ⟨a0l fun _ => rfl, rfl⟩, B3, G4, fun _ => rfl, fun g52 => ?_⟩
    simp only [List.length_map]
    refine a0i rfl rfl (by simp) rfl rfl rfl (fun _ => rfl) ?_
    intro g53
    refine N2 (f := oI) (xs := st) (ys := [cols.getD k default]) rfl rfl rfl rfl (by simp) (by simp) (by decide) rfl rfl rfl rfl (dT rfl) (fun a => ⟨rfl, a2z a⟩) (by simp only [H3]; simp; omega) (fun _ => rfl) ?_
    intro g54
    (refine xO rfl rfl (by simp) rfl (fun _ => rfl) (fun _ => rfl) ?_; intro g6)
    refine xN [1,6,24,25,26] [6] rfl <| E6 <| A0 <| F3 rfl rfl (C2 (by omega)) <| y_M rfl <| xN [1,6,24,25,26] [6] rfl ?_
    refine ⟨(i + 1, _, _), ?_, (by simp only; omega), ⟨rfl, rfl, rfl, rfl, rfl, rfl, trivial⟩⟩
    exact ⟨by omega, a0h (by omega) hst (by rw [← hwd]; exact (c9o cols st hnn hn).trans (by rw [ek, hci]))⟩
   ·have hnd : nd (bA w) = 1 := (V0 (by omega)).trans hn
    apply xC rfl
    ·apply A9
     ·exact B4 rfl
     exact C0
    ·exact (show CW (cxT oG) 63 [tV w] = some (.tup [tV w, .own 1 [], bV true], []) from by have hi := Y8 (oG := oG) w (by omega); rw [hnn] at hi; rw [show decide (0 ≤ rch (bA w)) = true from decide_eq_true (by omega)] at hi; exact hi)
    refine ⟨⟨rfl, rfl, rfl, dT rfl, rfl⟩, .inr ⟨rfl, rfl⟩, B3, H1 (J7 rfl (L8 fun _ => J7 rfl L6)), fun _ => D6 (B7 rfl) (by rfl), fun g32 => ?_⟩
    try simp only [List.length_map]
    refine y_M rfl <| y_E rfl <| y_E rfl <| y_E rfl <| y_S rfl ?_
    (refine I0 rfl rfl (by (simp; done)) rfl (fun _ => (B7 (by rfl))) (fun _ => rfl) ?_; intro g10)
    refine y_S rfl <| xN [1,6,9,10,11,24,25,26] [6,10] rfl <| A3 <| A0 <| y_M rfl ?_
    refine xC1 rfl rfl (a3z (bA w)) ⟨rfl, rfl, rfl⟩ rfl rfl fun g37 => ?_
    rw [show nd (bA w) = 1 from (V0 (by omega)).trans hn]
    refine y_S rfl <| xN [1,6,9,10,11,12,24,25,26] [6,10] rfl <| A3 <| A3 <| A0 <| y_M rfl <| K7 rfl <| y_M rfl <| E9 rfl rfl rfl <| y_M rfl <| E9 rfl rfl rfl <| y_M rfl <| E9 rfl rfl rfl <| G8 rfl rfl <| E9 rfl rfl rfl <| S0 rfl rfl <| F0 rfl rfl rfl rfl <| xN [1,6,9,10,12,24,25,26,45] [6,10] rfl ?_
    refine A5 rfl ?_ ?_ <;> intro hc <;> try simp only [SL] at hc
    ·refine A3 <| A0 ?_
     (refine A8 rfl rfl (fun _ => rfl) ?_; intro g4)
     refine y_S rfl <| xN [4,5] [4] rfl <| B0 <| D4 (F6 rfl rfl (by simp) (by rfl) (E8 rfl rfl (F4 B8))) ?_
     rw [N9 (N8 (by omega) hst (by rw [← hwd]; exact a0o cols st hnn (by omega)))]
     rfl
    refine A6 <| A3 <| A3 <| A0 <| y_M rfl <| X3 rfl rfl <| xN [1,6,9,10,12,24,25,26,47] [6,10] rfl ?_
    refine A5 rfl (fun hc => absurd hc (by decide)) (fun hc => ?_)
    refine A6 <| A3 <| A0 <| y_M rfl <| G8 rfl rfl <| y_M rfl <| L4 rfl rfl (C2 (by omega)) <| y_S rfl <| xN [1,6,9,13,24,25,26] [6] rfl <| A3 <| A0 <| y_M rfl <| y_M rfl <| y_M rfl ?_
    rw [show ((st.length : Int) - 1) = ((st.length - 1 : Nat) : Int) by omega]
    refine a0f rfl rfl rfl S2 (G7 rfl) (by omega) rfl ?_
    apply xC rfl
    ·apply A9
     ·exact B4 rfl
     apply A9
     ·exact a5m rfl rfl rfl (by omega)
     exact C0
    ·exact b9y (bA w) (by omega) (st.getD (st.length - 1) default) [] (a4d hvl _) c7z ((st.drop (0 + (st.length - 1))).take (st.length - (st.length - 1))) (by rw [a3i _ (by omega)]; omega) (by rw [a3i _ (by omega)]; omega) (b1q _ (by omega) (by omega)) (fun h => by rw [a3i _ (by omega)] at h; omega)
    refine ⟨⟨rfl, rfl, rfl, dT rfl, rfl⟩, .inr ⟨G9 _ _, rfl⟩, B3, H1 (L8 fun _ => J7 rfl L6), fun _ => rfl, fun g64 => ?_⟩
    simp only [List.length_map]
    refine y_M rfl <| y_E rfl <| y_E rfl ?_
    (refine xO rfl rfl (by simp) rfl (fun _ => rfl) (fun _ => rfl) ?_; intro g14)
    refine y_S rfl <| xN [1,6,13,14,15,24,25,26] [6,14] rfl <| A3 <| A3 <| A0 <| y_M rfl <| K7 rfl <| xN [1,6,13,14,24,25,26,68] [6,14] rfl ?_
    refine A5 rfl ?_ ?_ <;> intro hc <;> try simp only [SL] at hc
    ·refine A3 <| A0 ?_
     (refine A8 rfl rfl (fun _ => rfl) ?_; intro g4)
     refine y_S rfl <| xN [4,5] [4] rfl <| B0 <| D4 (F6 rfl rfl (by simp) (by rfl) (E8 rfl rfl (F4 B8))) ?_
     have hno : mkR (bA w) (st.getD (st.length - 1) default) [] = none := by simpa using hc
     rw [N9 (N8 (by omega) hst (by rw [← hwd]; exact (a8c cols (n := 1) st hnn hn (by omega) (by omega)).trans (by rw [if_neg (by decide), hno]; rfl)))]
     rfl
    obtain ⟨r, hr⟩ : ∃ r, mkR (bA w) (st.getD (st.length - 1) default) [] = some r := Option.isSome_iff_exists.1 (by assumption)
    rw [hr]
    simp only [Option.getD_some]
    refine A6 <| A0 <| y_M rfl <| y_M rfl ?_
    skip
    refine U6 rfl rfl rfl (G7 rfl) (by omega) rfl <| y_M rfl <| a0i rfl rfl (by simp) rfl rfl rfl (fun _ => rfl) ?_
    intro g73
    refine a6n rfl rfl rfl rfl (by omega) (by simp) (by decide) rfl rfl rfl rfl (dT rfl) (fun _ => ⟨rfl, rfl⟩) (by simp only [H3]; (simp only [List.length_nil, List.length_cons, List.length_append, Nat.zero_add, List.length_map]; omega)) (fun _ => rfl) ?_
    intro g74
    (refine xO rfl rfl (by simp) rfl (fun _ => rfl) (fun _ => rfl) ?_; intro g6)
    refine xN [1,6,24,25,26] [6] rfl <| A0 <| F3 rfl rfl (C2 (by omega)) <| y_M rfl <| xN [1,6,24,25,26] [6] rfl ?_
    refine ⟨(i + 1, _, _), ?_, (by simp only; omega), ⟨rfl, rfl, rfl, rfl, rfl, rfl, trivial⟩⟩
    exact ⟨by omega, a0h (by omega) hst (by rw [← hwd]; exact (a8c cols (n := 1) st hnn hn (by omega) (by omega)).trans (by rw [if_neg (by decide), hr]; rfl))⟩
   ·have hnd : nd (bA w) = 2 := (V0 (by omega)).trans hn
    apply xC rfl
    ·apply A9
     ·exact B4 rfl
     exact C0
    ·exact (show CW (cxT oG) 63 [tV w] = some (.tup [tV w, .own 1 [], bV true], []) from by have hi := Y8 (oG := oG) w (by omega); rw [hnn] at hi; rw [show decide (0 ≤ rch (bA w)) = true from decide_eq_true (by omega)] at hi; exact hi)
    refine ⟨⟨rfl, rfl, rfl, dT rfl, rfl⟩, .inr ⟨rfl, rfl⟩, B3, H1 (J7 rfl (L8 fun _ => J7 rfl L6)), fun _ => D6 (B7 rfl) (by rfl), fun g32 => ?_⟩
    try simp only [List.length_map]
    refine y_M rfl <| y_E rfl <| y_E rfl <| y_E rfl <| y_S rfl ?_
    (refine I0 rfl rfl (by (simp; done)) rfl (fun _ => (B7 (by rfl))) (fun _ => rfl) ?_; intro g10)
    refine y_S rfl <| xN [1,6,9,10,11,24,25,26] [6,10] rfl <| A3 <| A0 <| y_M rfl ?_
    refine xC1 rfl rfl (a3z (bA w)) ⟨rfl, rfl, rfl⟩ rfl rfl fun g37 => ?_
    rw [show nd (bA w) = 2 from (V0 (by omega)).trans hn]
    refine y_S rfl <| xN [1,6,9,10,11,12,24,25,26] [6,10] rfl <| A3 <| A3 <| A0 <| y_M rfl <| K7 rfl <| y_M rfl <| E9 rfl rfl rfl <| y_M rfl <| E9 rfl rfl rfl <| y_M rfl <| E9 rfl rfl rfl <| G8 rfl rfl <| E9 rfl rfl rfl <| S0 rfl rfl <| F0 rfl rfl rfl rfl <| xN [1,6,9,10,12,24,25,26,45] [6,10] rfl ?_
    refine A5 rfl ?_ ?_ <;> intro hc <;> try simp only [SL] at hc
    ·refine A3 <| A0 ?_
     (refine A8 rfl rfl (fun _ => rfl) ?_; intro g4)
     refine y_S rfl <| xN [4,5] [4] rfl <| B0 <| D4 (F6 rfl rfl (by simp) (by rfl) (E8 rfl rfl (F4 B8))) ?_
     rw [N9 (N8 (by omega) hst (by rw [← hwd]; exact a0o cols st hnn (by omega)))]
     rfl
    refine A6 <| A3 <| A3 <| A0 <| y_M rfl <| X3 rfl rfl <| xN [1,6,9,10,12,24,25,26,47] [6,10] rfl ?_
    refine A5 rfl (fun hc => absurd hc (by decide)) (fun hc => ?_)
    refine A6 <| A3 <| A0 <| y_M rfl <| G8 rfl rfl <| y_M rfl <| L4 rfl rfl (C2 (by omega)) <| y_S rfl <| xN [1,6,9,13,24,25,26] [6] rfl <| A3 <| A0 <| y_M rfl <| y_M rfl <| y_M rfl ?_
    rw [show ((st.length : Int) - 2) = ((st.length - 2 : Nat) : Int) by omega]
    refine a0f rfl rfl rfl S2 (G7 rfl) (by omega) rfl ?_
    apply xC rfl
    ·apply A9
     ·exact B4 rfl
     apply A9
     ·exact a5m rfl rfl rfl (by omega)
     exact C0
    ·exact b9y (bA w) (by omega) (st.getD (st.length - 2) default) (st.getD (st.length - 1) default) (a4d hvl _) (a4d hvl _) ((st.drop (0 + (st.length - 2))).take (st.length - (st.length - 2))) (by rw [a3i _ (by omega)]; omega) (by rw [a3i _ (by omega)]; omega) (b1q _ (by omega) (by omega)) (fun _ => (b1q _ (by omega) (by omega)).trans (by rw [show st.length - 2 + 1 = st.length - 1 by omega]))
    refine ⟨⟨rfl, rfl, rfl, dT rfl, rfl⟩, .inr ⟨G9 _ _, rfl⟩, B3, H1 (L8 fun _ => J7 rfl L6), fun _ => rfl, fun g64 => ?_⟩
    simp only [List.length_map]
    refine y_M rfl <| y_E rfl <| y_E rfl ?_
    (refine xO rfl rfl (by simp) rfl (fun _ => rfl) (fun _ => rfl) ?_; intro g14)
    refine y_S rfl <| xN [1,6,13,14,15,24,25,26] [6,14] rfl <| A3 <| A3 <| A0 <| y_M rfl <| K7 rfl <| xN [1,6,13,14,24,25,26,68] [6,14] rfl ?_
    refine A5 rfl ?_ ?_ <;> intro hc <;> try simp only [SL] at hc
    ·refine A3 <| A0 ?_
     (refine A8 rfl rfl (fun _ => rfl) ?_; intro g4)
     refine y_S rfl <| xN [4,5] [4] rfl <| B0 <| D4 (F6 rfl rfl (by simp) (by rfl) (E8 rfl rfl (F4 B8))) ?_
     have hno : mkR (bA w) (st.getD (st.length - 2) default) (st.getD (st.length - 1) default) = none := by simpa using hc
     rw [N9 (N8 (by omega) hst (by rw [← hwd]; exact (a8c cols (n := 2) st hnn hn (by omega) (by omega)).trans (by rw [if_pos rfl, hno]; rfl)))]
     rfl
    obtain ⟨r, hr⟩ : ∃ r, mkR (bA w) (st.getD (st.length - 2) default) (st.getD (st.length - 1) default) = some r := Option.isSome_iff_exists.1 (by assumption)
    rw [hr]
    simp only [Option.getD_some]
    refine A6 <| A0 <| y_M rfl <| y_M rfl ?_
    skip
    refine U6 rfl rfl rfl (G7 rfl) (by omega) rfl <| y_M rfl <| a0i rfl rfl (by simp) rfl rfl rfl (fun _ => rfl) ?_
    intro g73
    refine a6n rfl rfl rfl rfl (by omega) (by simp) (by decide) rfl rfl rfl rfl (dT rfl) (fun _ => ⟨rfl, rfl⟩) (by simp only [H3]; (simp only [List.length_nil, List.length_cons, List.length_append, Nat.zero_add, List.length_map]; omega)) (fun _ => rfl) ?_
    intro g74
    (refine xO rfl rfl (by simp) rfl (fun _ => rfl) (fun _ => rfl) ?_; intro g6)
    refine xN [1,6,24,25,26] [6] rfl <| A0 <| F3 rfl rfl (C2 (by omega)) <| y_M rfl <| xN [1,6,24,25,26] [6] rfl ?_
    refine ⟨(i + 1, _, _), ?_, (by simp only; omega), ⟨rfl, rfl, rfl, rfl, rfl, rfl, trivial⟩⟩
    exact ⟨by omega, a0h (by omega) hst (by rw [← hwd]; exact (a8c cols (n := 2) st hnn hn (by omega) (by omega)).trans (by rw [if_pos rfl, hr]; rfl))⟩
   skip
   apply xC rfl
   ·apply A9
    ·exact B4 rfl
    exact C0
   ·exact (show CW (cxT oG) 63 [tV w] = some (.tup [tV w, .own 1 [], bV false], []) from by have hi := Y8 (oG := oG) w (by omega); rw [hnn] at hi; rw [show decide (0 ≤ rch (bA w)) = false from decide_eq_false (by omega)] at hi; exact hi)
   refine ⟨⟨rfl, rfl, rfl, dT rfl, rfl⟩, .inr ⟨rfl, rfl⟩, B3, H1 (J7 rfl (L8 fun _ => J7 rfl L6)), fun _ => D6 (B7 rfl) (by rfl), fun g32 => ?_⟩
   try simp only [List.length_map]
   refine y_M rfl <| y_E rfl <| y_E rfl <| y_E rfl <| y_S rfl ?_
   (refine I0 rfl rfl (by (simp; done)) rfl (fun _ => (B7 (by rfl))) (fun _ => rfl) ?_; intro g10)
   refine y_S rfl <| xN [1,6,9,10,11,24,25,26] [6,10] rfl <| A3 <| A0 <| y_M rfl ?_
   refine xC1 rfl rfl (a3z (bA w)) ⟨rfl, rfl, rfl⟩ rfl rfl fun g37 => ?_
   refine y_S rfl <| xN [1,6,9,10,11,12,24,25,26] [6,10] rfl <| A3 <| A3 <| A0 <| y_M rfl <| K7 rfl <| y_M rfl ?_
   iterate 4 refine I9 rfl rfl rfl ?_
   refine F7 rfl rfl rfl rfl <| xN [1,6,9,10,12,24,25,26,45] [6,10] rfl ?_
   refine A5 rfl (fun hc => ?_) (fun hc => absurd hc (by decide))
   refine A3 <| A0 ?_
   (refine A8 rfl rfl (fun _ => rfl) ?_; intro g4)
   refine y_S rfl <| xN [4,5] [4] rfl <| B0 <| D4 (F6 rfl rfl (by simp) (by rfl) (E8 rfl rfl (F4 B8))) ?_
   rw [N9 (N8 (by omega) hst (by rw [← hwd]; exact a0o cols st hnn (by omega)))]
   rfl
  refine E6 <| A3 <| A3 <| A0 <| y_M rfl <| G8 rfl rfl <| Z6 rfl rfl <| xN [6,78] [6] rfl ?_
  refine A5 rfl ?_ ?_ <;> intro hc <;> try simp only [SL] at hc
  ·refine A3 <| A0 ?_
   (refine A8 rfl rfl (fun _ => rfl) ?_; intro g4)
   refine y_S rfl <| xN [4,5] [4] rfl <| B0 <| D4 (F6 rfl rfl (by simp) (by rfl) (E8 rfl rfl (F4 B8))) ?_
   rw [c3t (by rw [List.take_of_length_le (by omega)] at hst; exact hst) (by omega)]
   rfl
  refine A6 <| A3 <| A0 <| y_M rfl <| C5 rfl rfl rfl rfl (by (change 0 < _; omega)) (by (simp; done)) rfl <| b3d rfl rfl (by (change 0 < _; omega)) rfl rfl <| y_S rfl <| y_S rfl <| xN [4,5] [6] rfl <| B0 ?_
  refine D4 (d1f rfl rfl (a5a (by show 0 < st.length; omega) rfl) (getElem?_map_getD (by show 0 < st.length; omega)) (by simp) (A7 fun _ => rfl) (E8 rfl rfl (F4 B8))) ?_
  rw [c7t hw16 hvc (by rw [List.take_of_length_le (by omega)] at hst; exact hst) (by omega)]
  rfl
 refine gF rfl rfl <| gF rfl rfl <| F7 rfl (by assumption) rfl rfl <| xN [0,1,23] [] rfl ?_
 refine A5 rfl (fun hc => ?_) (fun hc => absurd hc (by decide))
 refine A3 <| A0 ?_
 (refine A8 rfl rfl (fun _ => rfl) ?_; intro g4)
 refine y_S rfl <| xN [4,5] [4] rfl <| B0 <| D4 (F6 rfl rfl (by simp) (by rfl) (E8 rfl rfl (F4 B8))) ?_
 rw [c4p (by exact .inl (by omega))]
 rfl

theorem b0a : E7 Tryz.f45 = [0, 1, 4, 5, 23, 7, 28, 9, 44, 8, 6, 11, 10, 57, 59, 77, 13, 12, 15, 94, 14, 107] := by kernel_rfl
theorem b2y (ws : List W8) (hw : ws.length ≤ 1048576) (hwl : ∀ w ∈ ws, w.length ≤ 1048576) (cols : List (List Int)) (hc4 : cols.length ≤ 1048576) (hcb : ∀ c ∈ cols, c.length ≤ 1048576) : CW (cxT oG) 45 [.list (ws.map tV), M cols] = some ((match rcF cols ws with | some r => .tup [.list (r.map iV), bV true] | none => .tup [.own 1 [], bV false]), []) := by
 refine E5 rfl Tryz.func45 rfl ⟨by kernel_rfl, rfl, dT rfl, dT rfl, by decide⟩ b0a <| A3 <| A0 ?_
 (refine A8 rfl rfl (fun _ => rfl) ?_; intro g4)
 refine y_S rfl <| xN [0,1] [] rfl <| A3 <| A3 <| A0 <| y_M rfl <| B9 rfl rfl <| S0 rfl rfl <| y_M rfl ?_
 refine C8 rfl rfl ?_ ?_ <;> intro hg0 <;> have hg := hg0 <;> try simp only [SG] at hg
 ·refine y_M rfl <| gT rfl rfl ?_
  refine xC1 rfl rfl (a9y cols hc4 hcb) ⟨rfl, rfl, rfl⟩ rfl rfl fun g21 => ?_
  refine gT rfl rfl <| K7 rfl <| F0 rfl (by assumption) rfl rfl <| xN [0,1,23] [] rfl ?_
  refine A5 rfl ?_ ?_ <;> intro hc <;> try simp only [SL] at hc
  ·refine A3 <| A0 ?_
   (refine A8 rfl rfl (fun _ => rfl) ?_; intro g4)
   refine y_S rfl <| xN [4,5] [4] rfl <| B0 <| D4 (F6 rfl rfl (by simp) (by rfl) (E8 rfl rfl (F4 B8))) ?_
   rw [c4p (by exact .inr (by simpa using hc))]
   rfl
  have hvc : vcs cols = true := by assumption
  have hw16 : ws.length ≤ 16 := by omega
  refine A6 <| A3 <| A0 <| C4 (es := List.map lF []) rfl rfl (dT rfl) rfl rfl (fun _ => B7 (A7 fun _ => rfl)) (fun _ => rfl) ?_
  intro g24
  (refine xO rfl rfl (by simp) rfl (fun _ => rfl) (fun _ => rfl) ?_; intro g6)
  refine xN [0,1,6] [6] rfl <| A3 <| A3 <| A0 <| y_S rfl <| xN [0,1,6,7] [6] rfl <| B2 <| E4 (β := Nat × List (List Int) × Nat) [(.t 0, _), (.t 1, _)] (fun (z : Nat × List (List Int) × Nat) => match z with | (i, st, g) => [(.t 7, iV i), (.h 6, .obj g 0 1 (st.map lF)), (.t 6, .sl 6 g none 0 st.length)]) (fun (z : Nat × List (List Int) × Nat) => match z with | (i, st, g) => i ≤ ws.length ∧ G3 cols (ws.take i) [] = some st) (fun (z : Nat × List (List Int) × Nat) => match z with | (i, st, g) => ws.length - i) (0, [], _) ⟨rfl, rfl, rfl, rfl, rfl, trivial⟩ ⟨Nat.zero_le _, rfl⟩ ?_
  intro z hb
  obtain ⟨i, st, g⟩ := z
  try dsimp only at hb
  obtain ⟨hi1, hst⟩ := hb
  have hsl := b1h _ hst
  rw [List.length_take, List.length_nil] at hsl
  have hvl := c7p hvc hst
  refine A3 <| A3 <| A0 <| y_M rfl <| y_M rfl <| B9 rfl rfl <| F8 rfl rfl <| xN [0,1,6,7,28] [6] rfl ?_
  refine A5 rfl ?_ ?_ <;> intro hc <;> try simp only [SL] at hc
  ·refine A6 <| A3 <| B2 <| A3 <| A0 <| y_M rfl <| y_M rfl <| B1 rfl rfl rfl (fun _ => rfl) (by omega) <| y_I rfl ?_
   obtain ⟨w, hwd⟩ : ∃ w, w = ws.getD i default := ⟨_, rfl⟩
   rw [← hwd]
   have hwi : w.length ≤ 1048576 := by rw [hwd]; exact hwl _ (J4 (by omega))
   rcases c0j w with ⟨ns, hns⟩ | ⟨hnn, hn⟩ | ⟨hnn, hn⟩ | ⟨hnn, hn⟩ | ⟨hnn, hn⟩
   ·skip
    apply xC rfl
    ·apply A9
     ·exact B4 rfl
     exact C0
    ·exact Z4 w (by omega)
    refine ⟨⟨rfl, rfl, rfl, dT rfl, rfl⟩, .inr ⟨G9 _ _, rfl⟩, B3, H1 (L8 fun _ => J7 rfl L6), fun _ => rfl, fun g36 => ?_⟩
    simp only [List.length_map]
    rw [hns, d1g hns]
    refine y_M rfl <| y_E rfl <| y_E rfl ?_
    (refine xO rfl rfl (by simp) rfl (fun _ => rfl) (fun _ => rfl) ?_; intro g8)
    refine y_S rfl <| xN [0,1,6,7,8,9] [6,8] rfl <| A3 <| A0 <| y_M rfl <| y_M rfl <| B1 rfl rfl rfl (fun _ => rfl) (by omega) <| y_I rfl ?_
    rw [← hwd]
    refine xC1 rfl rfl (a1a (bA w)) ⟨rfl, rfl, rfl⟩ rfl rfl fun g43 => ?_
    skip
    refine y_S rfl <| xN [0,1,6,7,8,9,10] [6,8] rfl <| A3 <| A3 <| A0 <| y_M rfl <| xN [0,1,6,7,8,10,44] [6,8] rfl ?_
    refine A5 rfl (fun hc => ?_) (fun hc => absurd hc (by exact fun h => Bool.noConfusion (show true = false from h)))
    refine A3 <| A0 <| y_M rfl <| y_M rfl <| Y0 (φ := iV) rfl rfl (by simp) (fun _ => rfl) rfl rfl rfl rfl (fun _ => rfl) ?_
    intro g47
    rw [show ([.list (List.map iV ns)] : List AV) = List.map lF [ns] from rfl]
    refine xA rfl rfl rfl rfl (by simp) (by simp) rfl rfl rfl rfl rfl (fun _ => rfl) (by simp only [LN]; omega) (fun _ => rfl) ?_
    intro g48
    (refine xO rfl rfl (by simp) rfl (fun _ => rfl) (fun _ => rfl) ?_; intro g6)
    refine xN [0,1,6,7] [6] rfl <| E6 <| A0 <| y_M rfl <| F3 rfl rfl (C2 (by omega)) <| y_S rfl <| xN [0,1,6,7] [6] rfl ?_
    refine ⟨(i + 1, _, _), ?_, (by simp only; omega), ⟨rfl, rfl, rfl, rfl, rfl, trivial⟩⟩
    exact ⟨by omega, a0h (by omega) hst (by rw [← hwd]; exact d0k cols st hns)⟩
   ·obtain ⟨⟨k, hk, ek⟩, -⟩ := c4s hn
    have hci := c3v hk
    apply xC rfl
    ·apply A9
     ·exact B4 rfl
     exact C0
    ·exact Z4 w (by omega)
    refine ⟨⟨rfl, rfl, rfl, dT rfl, rfl⟩, .inr ⟨G9 _ _, rfl⟩, B3, H1 (L8 fun _ => J7 rfl L6), fun _ => rfl, fun g36 => ?_⟩
    simp only [List.length_map]
    rw [hnn]
    refine y_M rfl <| y_E rfl <| y_E rfl ?_
    (refine xO rfl rfl (by simp) rfl (fun _ => rfl) (fun _ => rfl) ?_; intro g8)
    refine y_S rfl <| xN [0,1,6,7,8,9] [6,8] rfl <| A3 <| A0 <| y_M rfl <| y_M rfl <| B1 rfl rfl rfl (fun _ => rfl) (by omega) <| y_I rfl ?_
    rw [← hwd]
    refine xC1 rfl rfl (a1a (bA w)) ⟨rfl, rfl, rfl⟩ rfl rfl fun g43 => ?_
    rw [hn]
    refine y_S rfl <| xN [0,1,6,7,8,9,10] [6,8] rfl <| A3 <| A3 <| A0 <| y_M rfl <| xN [0,1,6,7,8,10,44] [6,8] rfl ?_
    refine A5 rfl (fun hc => absurd hc (by decide)) (fun hc => ?_)
    refine A6 <| A3 <| A0 <| y_M rfl <| G8 rfl rfl <| y_S rfl <| xN [0,1,6,7,10,11] [6] rfl <| A3 <| A3 <| A0 <| y_M rfl <| F8 rfl rfl <| y_M rfl ?_
    refine C8 rfl rfl ?_ ?_ <;> intro hg0 <;> have hg := hg0 <;> try simp only [SG] at hg
    ·refine y_M rfl <| gT rfl rfl <| y_M rfl <| gT rfl rfl <| S0 rfl rfl <| F0 rfl rfl rfl rfl <| xN [0,1,6,7,10,11,57] [6] rfl ?_
     refine A5 rfl (fun hc => ?_) (fun hc => ?_)
     ·try simp only [SD] at hc
      omega
     try simp only [SL] at hc
     refine A6 <| A3 <| A3 <| A0 <| y_M rfl <| X3 rfl rfl <| xN [0,1,6,7,10,11,59] [6] rfl ?_
     refine A5 rfl (fun hc => ?_) (fun hc => absurd hc (by decide))
     refine A3 <| A0 <| y_M rfl <| y_M rfl <| y_M rfl <| B1 rfl rfl rfl (fun _ => rfl) (by omega) <| y_I rfl <| y_M rfl ?_
     rw [← hwd]
     apply xC rfl
     ·apply A9
      ·exact B4 rfl
      apply A9
      ·exact B4 rfl
      exact C0
     ·exact (by have hi := c2l (oG := oG) k hk cols hc4 hcb; rw [← ek] at hi; exact hi)
     refine ⟨⟨rfl, rfl, rfl, dT rfl, rfl⟩, .inl rfl, B3, G4, fun _ => rfl, fun g66 => ?_⟩
     simp only [List.length_map]
     refine Y0 (φ := iV) rfl rfl (by simp) (fun _ => rfl) rfl rfl rfl rfl (fun _ => rfl) ?_
     intro g67
     rw [show ([.list (List.map iV (cols.getD k default))] : List AV) = List.map lF [(cols.getD k default)] from rfl]
     refine xA rfl rfl rfl rfl (by simp) (by simp) rfl rfl rfl rfl rfl (fun _ => rfl) (by simp only [LN]; omega) (fun _ => rfl) ?_
     intro g68
     (refine xO rfl rfl (by simp) rfl (fun _ => rfl) (fun _ => rfl) ?_; intro g6)
     refine xN [0,1,6,7] [6] rfl <| E6 <| A0 <| y_M rfl <| F3 rfl rfl (C2 (by omega)) <| y_S rfl <| xN [0,1,6,7] [6] rfl ?_
     refine ⟨(i + 1, _, _), ?_, (by simp only; omega), ⟨rfl, rfl, rfl, rfl, rfl, trivial⟩⟩
     exact ⟨by omega, a0h (by omega) hst (by rw [← hwd]; exact (c9o cols st hnn hn).trans (by rw [ek, hci]))⟩
    refine gF rfl rfl <| gF rfl rfl <| F7 rfl (by assumption) rfl rfl <| xN [0,1,6,7,10,11,57] [6] rfl ?_
    refine A5 rfl (fun hc => ?_) (fun hc => absurd hc (by decide))
    refine A3 <| A0 ?_
    (refine A8 rfl rfl (fun _ => rfl) ?_; intro g4)
    refine y_S rfl <| xN [4,5] [4] rfl <| B0 <| D4 (F6 rfl rfl (by simp) (by rfl) (E8 rfl rfl (F4 B8))) ?_
    rw [N9 (N8 (by omega) hst (by rw [← hwd]; exact a0o cols st hnn (by omega)))]
    rfl
   ·have hnd : nd (bA w) = 1 := (V0 (by omega)).trans hn
    apply xC rfl
    ·apply A9
     ·exact B4 rfl
     exact C0
    ·exact Z4 w (by omega)
    refine ⟨⟨rfl, rfl, rfl, dT rfl, rfl⟩, .inr ⟨G9 _ _, rfl⟩, B3, H1 (L8 fun _ => J7 rfl L6), fun _ => rfl, fun g36 => ?_⟩
    simp only [List.length_map]
    rw [hnn]
    refine y_M rfl <| y_E rfl <| y_E rfl ?_
    (refine xO rfl rfl (by simp) rfl (fun _ => rfl) (fun _ => rfl) ?_; intro g8)
    refine y_S rfl <| xN [0,1,6,7,8,9] [6,8] rfl <| A3 <| A0 <| y_M rfl <| y_M rfl <| B1 rfl rfl rfl (fun _ => rfl) (by omega) <| y_I rfl ?_
    rw [← hwd]
    refine xC1 rfl rfl (a1a (bA w)) ⟨rfl, rfl, rfl⟩ rfl rfl fun g43 => ?_
    rw [hn]
    refine y_S rfl <| xN [0,1,6,7,8,9,10] [6,8] rfl <| A3 <| A3 <| A0 <| y_M rfl <| xN [0,1,6,7,8,10,44] [6,8] rfl ?_
    refine A5 rfl (fun hc => absurd hc (by decide)) (fun hc => ?_)
    refine A6 <| A3 <| A0 <| y_M rfl <| G8 rfl rfl <| y_S rfl <| xN [0,1,6,7,10,11] [6] rfl <| A3 <| A3 <| A0 <| y_M rfl <| F8 rfl rfl <| y_M rfl ?_
    refine C8 rfl rfl ?_ ?_ <;> intro hg0 <;> have hg := hg0 <;> try simp only [SG] at hg
    ·refine y_M rfl <| gT rfl rfl <| y_M rfl <| gT rfl rfl <| S0 rfl rfl <| F0 rfl rfl rfl rfl <| xN [0,1,6,7,10,11,57] [6] rfl ?_
     refine A5 rfl ?_ ?_ <;> intro hc <;> try simp only [SL] at hc
     ·refine A3 <| A0 ?_
      (refine A8 rfl rfl (fun _ => rfl) ?_; intro g4)
      refine y_S rfl <| xN [4,5] [4] rfl <| B0 <| D4 (F6 rfl rfl (by simp) (by rfl) (E8 rfl rfl (F4 B8))) ?_
      rw [N9 (N8 (by omega) hst (by rw [← hwd]; exact a0o cols st hnn (by omega)))]
      rfl
     refine A6 <| A3 <| A3 <| A0 <| y_M rfl <| X3 rfl rfl <| xN [0,1,6,7,10,11,59] [6] rfl ?_
     refine A5 rfl (fun hc => absurd hc (by decide)) (fun hc => ?_)
     refine A6 <| A3 <| A0 <| y_M rfl <| y_M rfl <| y_M rfl <| L4 rfl rfl (C2 (by omega)) ?_
     rw [show ((st.length : Int) - 1) = ((st.length - 1 : Nat) : Int) by omega]
     refine C5 rfl rfl rfl rfl (by omega) (by (simp; done)) rfl <| G0 rfl rfl (by omega) (fun _ => rfl) (fun _ => rfl) rfl <| y_S rfl <| xN [0,1,6,7,10,11,12] [6] rfl <| A3 <| A0 <| C4 (es := List.map iV []) rfl rfl (dT rfl) rfl rfl (fun _ => B7 (A7 fun _ => rfl)) (fun _ => rfl) ?_
     intro g75
     (refine xO rfl rfl (by simp) rfl (fun _ => rfl) (fun _ => rfl) ?_; intro g13)
     refine xN [0,1,6,7,10,11,12,13] [6,13] rfl <| A3 <| A3 <| A0 <| y_M rfl <| X3 rfl rfl <| xN [0,1,6,7,10,11,12,13,77] [6,13] rfl ?_
     refine A5 rfl (fun hc => absurd hc (by decide)) (fun hc => ?_)
     refine A6 <| A3 <| A0 <| y_M rfl <| y_M rfl <| B1 rfl rfl rfl (fun _ => rfl) (by omega) <| y_I rfl <| y_M rfl <| y_M rfl ?_
     try rw [← hwd]
     apply xC rfl
     ·apply A9
      ·exact B4 rfl
      apply A9
      ·exact B4 rfl
      apply A9
      ·exact D7 rfl rfl rfl (by (simp; done)) (fun _ => rfl)
      exact C0
     ·exact c4r (bA w) (by omega) (st.getD (st.length - 1) default) [] (a4d hvl _) c7z
     refine ⟨⟨rfl, rfl, rfl, dT rfl, rfl⟩, .inr ⟨G9 _ _, rfl⟩, B3, H1 (L8 fun _ => J7 rfl L6), fun _ => rfl, fun g90 => ?_⟩
     simp only [List.length_map]
     refine y_M rfl <| y_E rfl <| y_E rfl ?_
     (refine xO rfl rfl (by simp) rfl (fun _ => rfl) (fun _ => rfl) ?_; intro g14)
     refine y_S rfl <| xN [0,1,6,7,10,11,14,15] [6,14] rfl <| A3 <| A3 <| A0 <| y_M rfl <| K7 rfl <| xN [0,1,6,7,10,11,14,94] [6,14] rfl ?_
     refine A5 rfl ?_ ?_ <;> intro hc <;> try simp only [SL] at hc
     ·refine A3 <| A0 ?_
      (refine A8 rfl rfl (fun _ => rfl) ?_; intro g4)
      refine y_S rfl <| xN [4,5] [4] rfl <| B0 <| D4 (F6 rfl rfl (by simp) (by rfl) (E8 rfl rfl (F4 B8))) ?_
      have hno : mkR (bA w) (st.getD (st.length - 1) default) [] = none := by simpa using hc
      rw [N9 (N8 (by omega) hst (by rw [← hwd]; exact (a8c cols (n := 1) st hnn hn (by omega) (by omega)).trans (by rw [if_neg (by decide), hno]; rfl)))]
      rfl
     obtain ⟨r, hr⟩ : ∃ r, mkR (bA w) (st.getD (st.length - 1) default) [] = some r := Option.isSome_iff_exists.1 (by assumption)
     rw [c4u hr]
     refine A6 <| A0 <| C4 (es := List.map lF []) rfl rfl (dT rfl) rfl rfl (fun _ => B7 (A7 fun _ => rfl)) (fun _ => rfl) ?_
     intro g95
     refine y_M rfl <| y_M rfl <| y_M rfl <| L4 rfl rfl (C2 (by omega)) ?_
     try rw [show ((st.length : Int) - 1) = ((st.length - 1 : Nat) : Int) by omega]
     refine U6 rfl rfl rfl (G7 rfl) (by omega) rfl <| P5 rfl rfl rfl rfl (by decide) rfl (by (simp; done)) (by omega) rfl rfl rfl (dT rfl) (fun _ => ⟨rfl, rfl, rfl⟩) (by simp only [H3]; (simp only [List.length_nil, List.length_cons, List.length_append, Nat.zero_add, List.length_map]; omega)) (fun _ => rfl) ?_
     intro g101
     refine y_M rfl <| Y0 (φ := iV) rfl rfl (by simp) (fun _ => rfl) rfl rfl rfl rfl (fun _ => rfl) ?_
     intro g103
     rw [show ([.list (List.map iV r)] : List AV) = List.map lF [r] from rfl]
     refine N2 rfl rfl rfl rfl (by (simp; done)) (by simp) (by decide) rfl rfl rfl rfl (dT rfl) (fun _ => ⟨rfl, rfl⟩) (by simp only [H3]; (simp; omega)) (fun _ => rfl) ?_
     intro g104
     (refine xO rfl rfl (by simp) rfl (fun _ => rfl) (fun _ => rfl) ?_; intro g6)
     refine xN [0,1,6,7] [6] rfl <| A0 <| y_M rfl <| F3 rfl rfl (C2 (by omega)) <| y_S rfl <| xN [0,1,6,7] [6] rfl ?_
     refine ⟨(i + 1, _, _), ?_, (by simp only; omega), ⟨rfl, rfl, rfl, rfl, rfl, trivial⟩⟩
     exact ⟨by omega, a0h (by omega) hst (by rw [← hwd]; exact (a8c cols (n := 1) st hnn hn (by omega) (by omega)).trans (by rw [if_neg (by decide), hr]; rfl))⟩
    refine gF rfl rfl <| gF rfl rfl <| F7 rfl (by assumption) rfl rfl <| xN [0,1,6,7,10,11,57] [6] rfl ?_
    refine A5 rfl (fun hc => ?_) (fun hc => absurd hc (by decide))
    refine A3 <| A0 ?_
    (refine A8 rfl rfl (fun _ => rfl) ?_; intro g4)
    refine y_S rfl <| xN [4,5] [4] rfl <| B0 <| D4 (F6 rfl rfl (by simp) (by rfl) (E8 rfl rfl (F4 B8))) ?_
    rw [N9 (N8 (by omega) hst (by rw [← hwd]; exact a0o cols st hnn (by omega)))]
    rfl
   ·have hnd : nd (bA w) = 2 := (V0 (by omega)).trans hn
    apply xC rfl
    ·apply A9
     ·exact B4 rfl
     exact C0
    ·exact Z4 w (by omega)
    refine ⟨⟨rfl, rfl, rfl, dT rfl, rfl⟩, .inr ⟨G9 _ _, rfl⟩, B3, H1 (L8 fun _ => J7 rfl L6), fun _ => rfl, fun g36 => ?_⟩
    simp only [List.length_map]
    rw [hnn]
    refine y_M rfl <| y_E rfl <| y_E rfl ?_
    (refine xO rfl rfl (by simp) rfl (fun _ => rfl) (fun _ => rfl) ?_; intro g8)
    refine y_S rfl <| xN [0,1,6,7,8,9] [6,8] rfl <| A3 <| A0 <| y_M rfl <| y_M rfl <| B1 rfl rfl rfl (fun _ => rfl) (by omega) <| y_I rfl ?_
    rw [← hwd]
    refine xC1 rfl rfl (a1a (bA w)) ⟨rfl, rfl, rfl⟩ rfl rfl fun g43 => ?_
    rw [hn]
    refine y_S rfl <| xN [0,1,6,7,8,9,10] [6,8] rfl <| A3 <| A3 <| A0 <| y_M rfl <| xN [0,1,6,7,8,10,44] [6,8] rfl ?_
    refine A5 rfl (fun hc => absurd hc (by decide)) (fun hc => ?_)
    refine A6 <| A3 <| A0 <| y_M rfl <| G8 rfl rfl <| y_S rfl <| xN [0,1,6,7,10,11] [6] rfl <| A3 <| A3 <| A0 <| y_M rfl <| F8 rfl rfl <| y_M rfl ?_
    refine C8 rfl rfl ?_ ?_ <;> intro hg0 <;> have hg := hg0 <;> try simp only [SG] at hg
    ·refine y_M rfl <| gT rfl rfl <| y_M rfl <| gT rfl rfl <| S0 rfl rfl <| F0 rfl rfl rfl rfl <| xN [0,1,6,7,10,11,57] [6] rfl ?_
     refine A5 rfl ?_ ?_ <;> intro hc <;> try simp only [SL] at hc
     ·refine A3 <| A0 ?_
      (refine A8 rfl rfl (fun _ => rfl) ?_; intro g4)
      refine y_S rfl <| xN [4,5] [4] rfl <| B0 <| D4 (F6 rfl rfl (by simp) (by rfl) (E8 rfl rfl (F4 B8))) ?_
      rw [N9 (N8 (by omega) hst (by rw [← hwd]; exact a0o cols st hnn (by omega)))]
      rfl
     refine A6 <| A3 <| A3 <| A0 <| y_M rfl <| X3 rfl rfl <| xN [0,1,6,7,10,11,59] [6] rfl ?_
     refine A5 rfl (fun hc => absurd hc (by decide)) (fun hc => ?_)
     refine A6 <| A3 <| A0 <| y_M rfl <| y_M rfl <| y_M rfl <| L4 rfl rfl (C2 (by omega)) ?_
     rw [show ((st.length : Int) - 2) = ((st.length - 2 : Nat) : Int) by omega]
     refine C5 rfl rfl rfl rfl (by omega) (by (simp; done)) rfl <| G0 rfl rfl (by omega) (fun _ => rfl) (fun _ => rfl) rfl <| y_S rfl <| xN [0,1,6,7,10,11,12] [6] rfl <| A3 <| A0 <| C4 (es := List.map iV []) rfl rfl (dT rfl) rfl rfl (fun _ => B7 (A7 fun _ => rfl)) (fun _ => rfl) ?_
     intro g75
     (refine xO rfl rfl (by simp) rfl (fun _ => rfl) (fun _ => rfl) ?_; intro g13)
     refine xN [0,1,6,7,10,11,12,13] [6,13] rfl <| A3 <| A3 <| A0 <| y_M rfl <| X3 rfl rfl <| xN [0,1,6,7,10,11,12,13,77] [6,13] rfl ?_
     refine A5 rfl (fun hc => ?_) (fun hc => absurd hc (by decide))
     refine A0 <| y_M rfl <| y_M rfl <| L4 rfl rfl (C2 (by omega)) ?_
     rw [show ((st.length : Int) - 1) = ((st.length - 1 : Nat) : Int) by omega]
     refine C5 rfl rfl rfl rfl (by omega) (by (simp; done)) rfl <| G0 rfl rfl (by omega) (fun _ => rfl) (fun _ => rfl) rfl <| y_S rfl <| xN [0,1,6,7,10,11,12,13] [6,13] rfl <| A3 <| A0 <| y_M rfl <| y_M rfl <| B1 rfl rfl rfl (fun _ => rfl) (by omega) <| y_I rfl <| y_M rfl <| y_M rfl ?_
     try rw [← hwd]
     apply xC rfl
     ·apply A9
      ·exact B4 rfl
      apply A9
      ·exact B4 rfl
      apply A9
      ·exact B4 rfl
      exact C0
     ·exact c4r (bA w) (by omega) (st.getD (st.length - 2) default) (st.getD (st.length - 1) default) (a4d hvl _) (a4d hvl _)
     refine ⟨⟨rfl, rfl, rfl, dT rfl, rfl⟩, .inr ⟨G9 _ _, rfl⟩, B3, H1 (L8 fun _ => J7 rfl L6), fun _ => rfl, fun g90 => ?_⟩
     simp only [List.length_map]
     refine y_M rfl <| y_E rfl <| y_E rfl ?_
     (refine xO rfl rfl (by simp) rfl (fun _ => rfl) (fun _ => rfl) ?_; intro g14)
     refine y_S rfl <| xN [0,1,6,7,10,11,14,15] [6,14] rfl <| A3 <| A3 <| A0 <| y_M rfl <| K7 rfl <| xN [0,1,6,7,10,11,14,94] [6,14] rfl ?_
     refine A5 rfl ?_ ?_ <;> intro hc <;> try simp only [SL] at hc
     ·refine A3 <| A0 ?_
      (refine A8 rfl rfl (fun _ => rfl) ?_; intro g4)
      refine y_S rfl <| xN [4,5] [4] rfl <| B0 <| D4 (F6 rfl rfl (by simp) (by rfl) (E8 rfl rfl (F4 B8))) ?_
      have hno : mkR (bA w) (st.getD (st.length - 2) default) (st.getD (st.length - 1) default) = none := by simpa using hc
      rw [N9 (N8 (by omega) hst (by rw [← hwd]; exact (a8c cols (n := 2) st hnn hn (by omega) (by omega)).trans (by rw [if_pos rfl, hno]; rfl)))]
      rfl
     obtain ⟨r, hr⟩ : ∃ r, mkR (bA w) (st.getD (st.length - 2) default) (st.getD (st.length - 1) default) = some r := Option.isSome_iff_exists.1 (by assumption)
     rw [c4u hr]
     refine A6 <| A0 <| C4 (es := List.map lF []) rfl rfl (dT rfl) rfl rfl (fun _ => B7 (A7 fun _ => rfl)) (fun _ => rfl) ?_
     intro g95
     refine y_M rfl <| y_M rfl <| y_M rfl <| L4 rfl rfl (C2 (by omega)) ?_
     try rw [show ((st.length : Int) - 2) = ((st.length - 2 : Nat) : Int) by omega]
     refine U6 rfl rfl rfl (G7 rfl) (by omega) rfl <| P5 rfl rfl rfl rfl (by decide) rfl (by (simp; done)) (by omega) rfl rfl rfl (dT rfl) (fun _ => ⟨rfl, rfl, rfl⟩) (by simp only [H3]; (simp only [List.length_nil, List.length_cons, List.length_append, Nat.zero_add, List.length_map]; omega)) (fun _ => rfl) ?_
     intro g101
     refine y_M rfl <| Y0 (φ := iV) rfl rfl (by simp) (fun _ => rfl) rfl rfl rfl rfl (fun _ => rfl) ?_
     intro g103
     rw [show ([.list (List.map iV r)] : List AV) = List.map lF [r] from rfl]
     refine N2 rfl rfl rfl rfl (by (simp; done)) (by simp) (by decide) rfl rfl rfl rfl (dT rfl) (fun _ => ⟨rfl, rfl⟩) (by simp only [H3]; (simp; omega)) (fun _ => rfl) ?_
     intro g104
     (refine xO rfl rfl (by simp) rfl (fun _ => rfl) (fun _ => rfl) ?_; intro g6)
     refine xN [0,1,6,7] [6] rfl <| A0 <| y_M rfl <| F3 rfl rfl (C2 (by omega)) <| y_S rfl <| xN [0,1,6,7] [6] rfl ?_
     refine ⟨(i + 1, _, _), ?_, (by simp only; omega), ⟨rfl, rfl, rfl, rfl, rfl, trivial⟩⟩
     exact ⟨by omega, a0h (by omega) hst (by rw [← hwd]; exact (a8c cols (n := 2) st hnn hn (by omega) (by omega)).trans (by rw [if_pos rfl, hr]; rfl))⟩
    refine gF rfl rfl <| gF rfl rfl <| F7 rfl (by assumption) rfl rfl <| xN [0,1,6,7,10,11,57] [6] rfl ?_
    refine A5 rfl (fun hc => ?_) (fun hc => absurd hc (by decide))
    refine A3 <| A0 ?_
    (refine A8 rfl rfl (fun _ => rfl) ?_; intro g4)
    refine y_S rfl <| xN [4,5] [4] rfl <| B0 <| D4 (F6 rfl rfl (by simp) (by rfl) (E8 rfl rfl (F4 B8))) ?_
    rw [N9 (N8 (by omega) hst (by rw [← hwd]; exact a0o cols st hnn (by omega)))]
    rfl
   skip
   apply xC rfl
   ·apply A9
    ·exact B4 rfl
    exact C0
   ·exact Z4 w (by omega)
   refine ⟨⟨rfl, rfl, rfl, dT rfl, rfl⟩, .inr ⟨G9 _ _, rfl⟩, B3, H1 (L8 fun _ => J7 rfl L6), fun _ => rfl, fun g36 => ?_⟩
   simp only [List.length_map]
   rw [hnn]
   refine y_M rfl <| y_E rfl <| y_E rfl ?_
   (refine xO rfl rfl (by simp) rfl (fun _ => rfl) (fun _ => rfl) ?_; intro g8)
   refine y_S rfl <| xN [0,1,6,7,8,9] [6,8] rfl <| A3 <| A0 <| y_M rfl <| y_M rfl <| B1 rfl rfl rfl (fun _ => rfl) (by omega) <| y_I rfl ?_
   rw [← hwd]
   refine xC1 rfl rfl (a1a (bA w)) ⟨rfl, rfl, rfl⟩ rfl rfl fun g43 => ?_
   skip
   refine y_S rfl <| xN [0,1,6,7,8,9,10] [6,8] rfl <| A3 <| A3 <| A0 <| y_M rfl <| xN [0,1,6,7,8,10,44] [6,8] rfl ?_
   refine A5 rfl (fun hc => absurd hc (by decide)) (fun hc => ?_)
   refine A6 <| A3 <| A0 <| y_M rfl <| G8 rfl rfl <| y_S rfl <| xN [0,1,6,7,10,11] [6] rfl <| A3 <| A3 <| A0 <| y_M rfl <| F8 rfl rfl <| y_M rfl ?_
   refine C8 rfl rfl ?_ ?_ <;> intro hg0 <;> have hg := hg0 <;> try simp only [SG] at hg
   ·refine y_M rfl <| gT rfl rfl <| y_M rfl <| gT rfl rfl <| S0 rfl rfl <| F0 rfl (by assumption) rfl rfl <| xN [0,1,6,7,10,11,57] [6] rfl ?_
    refine A5 rfl (fun hc => ?_) (fun hc => ?_)
    ·try simp only [SL] at hc
     refine A3 <| A0 ?_
     (refine A8 rfl rfl (fun _ => rfl) ?_; intro g4)
     refine y_S rfl <| xN [4,5] [4] rfl <| B0 <| D4 (F6 rfl rfl (by simp) (by rfl) (E8 rfl rfl (F4 B8))) ?_
     rw [N9 (N8 (by omega) hst (by rw [← hwd]; exact a0o cols st hnn (by omega)))]
     rfl
    try simp only [SD] at hc
    omega
   refine gF rfl rfl <| gF rfl rfl <| F7 rfl (by assumption) rfl rfl <| xN [0,1,6,7,10,11,57] [6] rfl ?_
   refine A5 rfl (fun hc => ?_) (fun hc => absurd hc (by decide))
   refine A3 <| A0 ?_
   (refine A8 rfl rfl (fun _ => rfl) ?_; intro g4)
   refine y_S rfl <| xN [4,5] [4] rfl <| B0 <| D4 (F6 rfl rfl (by simp) (by rfl) (E8 rfl rfl (F4 B8))) ?_
   rw [N9 (N8 (by omega) hst (by rw [← hwd]; exact a0o cols st hnn (by omega)))]
   rfl
  refine E6 <| A3 <| A3 <| A0 <| y_M rfl <| G8 rfl rfl <| Z6 rfl rfl <| xN [6,107] [6] rfl ?_
  refine A5 rfl ?_ ?_ <;> intro hc <;> try simp only [SL] at hc
  ·refine A3 <| A0 ?_
   (refine A8 rfl rfl (fun _ => rfl) ?_; intro g4)
   refine y_S rfl <| xN [4,5] [4] rfl <| B0 <| D4 (F6 rfl rfl (by simp) (by rfl) (E8 rfl rfl (F4 B8))) ?_
   rw [c3t (by rw [List.take_of_length_le (by omega)] at hst; exact hst) (by omega)]
   rfl
  refine A6 <| A3 <| A0 <| y_M rfl <| C5 rfl rfl rfl rfl (by (change 0 < _; omega)) (by (simp; done)) rfl <| G0 rfl rfl (by (change 0 < _; omega)) (fun _ => rfl) (fun _ => rfl) rfl <| y_S rfl <| y_S rfl <| xN [4,5] [] rfl <| B0 <| D4 (E8 rfl rfl (E8 rfl rfl (F4 B8))) ?_
  rw [c7t hw16 hvc (by rw [List.take_of_length_le (by omega)] at hst; exact hst) (by omega)]
  rfl
 refine gF rfl rfl <| gF rfl rfl <| F7 rfl (by assumption) rfl rfl <| xN [0,1,23] [] rfl ?_
 refine A5 rfl (fun hc => ?_) (fun hc => absurd hc (by decide))
 refine A3 <| A0 ?_
 (refine A8 rfl rfl (fun _ => rfl) ?_; intro g4)
 refine y_S rfl <| xN [4,5] [4] rfl <| B0 <| D4 (F6 rfl rfl (by simp) (by rfl) (E8 rfl rfl (F4 B8))) ?_
 rw [c4p (by exact .inl (by omega))]
 rfl

theorem b4g : E7 Tryz.f84 = [0, 2, 4, 11, 3] := by kernel_rfl
theorem c7r (xs : List Int) (hl : xs.length ≤ 1048576) : CW (cxT oG) 84 [L xs] = some (.own 1 (xs.map iV), []) := by
 refine E5 rfl Tryz.func84 rfl ⟨by kernel_rfl, rfl, dT rfl, dT rfl, by decide⟩ b4g <| A3 <| A0 ?_
 (refine A8 rfl rfl (fun _ => rfl) ?_; intro g2)
 refine xN [0] [] rfl <| A3 <| A0 <| y_M rfl <| B9 rfl rfl <| a0e (f := iV) (x0 := 0) rfl rfl rfl rfl rfl (by simp only [H3]; omega) (dT rfl) (fun _ => B7 (by exact A7 fun _ => rfl)) (fun _ => rfl) ?_
 intro g7
 (refine xO rfl rfl (by simp) rfl (fun _ => rfl) (fun _ => rfl) ?_; intro g3)
 refine xN [0,3] [3] rfl <| A3 <| A3 <| A0 <| y_S rfl <| xN [0,3,4] [3] rfl <| B2 <| E4 (β := Nat × List Int) [(.t 0, _), (.t 3, _)] (fun (z : Nat × List Int) => match z with | (i, ys) => [(.t 4, iV i), (.h 3, .obj g3 0 1 (ys.map iV))]) (fun (z : Nat × List Int) => match z with | (i, ys) => i ≤ xs.length ∧ ys.length = xs.length ∧ ∀ j, j < i → ys.getD j default = xs.getD j default) (fun (z : Nat × List Int) => match z with | (i, ys) => xs.length - i) (0, List.replicate xs.length 0) ⟨rfl, rfl, rfl, rfl, trivial⟩ ⟨Nat.zero_le _, by simp, fun j h => by omega⟩ ?_
 intro z hb
 obtain ⟨i, ys⟩ := z
 try dsimp only at hb
 obtain ⟨hi1, hi2, hi3⟩ := hb
 refine A3 <| A3 <| A0 <| y_M rfl <| y_M rfl <| B9 rfl rfl <| F8 rfl rfl <| xN [0,3,4,11] [3] rfl ?_
 refine A5 rfl ?_ ?_ <;> intro hc <;> try simp only [SL] at hc
 ·refine A6 <| A3 <| B2 <| A0 <| y_M rfl <| y_M rfl <| y_M rfl <| y_M rfl <| B1 rfl rfl rfl (fun _ => rfl) (by omega) <| y_I rfl <| C5 rfl rfl rfl rfl (by omega) (by (simp; omega)) rfl <| H8 rfl rfl rfl (by omega) (fun _ _ => ⟨rfl, rfl, dT rfl, dT rfl, rfl, rfl⟩) (by decide) (by exact B7 (A7 fun _ => rfl)) <| xN [0,3,4] [3] rfl <| A0 <| y_M rfl <| F3 rfl rfl (C2 (by omega)) <| y_S rfl <| xN [0,3,4] [3] rfl ?_
  refine ⟨(i + 1, ys.set i (xs.getD i default)), ⟨by omega, by simp [hi2], fun j hj => by rw [a4b (by omega)]; by_cases e : j = i; (· rw [if_pos e, e]); (· rw [if_neg e]; exact hi3 j (by omega))⟩, (by simp only; omega), ⟨rfl, rfl, rfl, rfl, trivial⟩⟩
 refine E6 <| A3 <| A0 <| y_M rfl ?_
 (refine I0 rfl rfl (by (simp; omega)) rfl (fun _ => (B7 (by exact A7 fun _ => rfl))) (fun _ => rfl) ?_; intro g2)
 refine xN [2] [2] rfl <| B0 <| K1 rfl rfl (by (simp [hi2]; done)) (by exact A7 fun _ => rfl) trivial ?_
 rw [a4e hi2 fun j hj => hi3 j (by omega)]

theorem b3e : E7 Tryz.f39 = [0, 1, 4, 10, 5, 14, 25] := by kernel_rfl
theorem Z7 (xs : List Int) (hl : xs.length ≤ 1048576) : CW (cxT oG) 39 [L xs, L xs] = some (bV true, []) := by
 refine E5 rfl Tryz.func39 rfl ⟨by kernel_rfl, rfl, dT rfl, dT rfl, by decide⟩ b3e <| A3 <| A0 <| y_S rfl <| xN [0,1] [] rfl <| A3 <| A3 <| A0 <| y_M rfl <| B9 rfl rfl <| y_M rfl <| B9 rfl rfl <| Z6 rfl rfl <| xN [0,1,10] [] rfl ?_
 refine A5 rfl (fun hc => ?_) (fun hc => ?_)
 ·try simp only [SD] at hc
  exact absurd trivial hc
 try simp only [SL] at hc
 refine A6 <| A3 <| A3 <| A0 <| y_S rfl <| xN [0,1,5] [] rfl <| B2 <| E4 (β := Nat) [(.t 0, _), (.t 1, _)] (fun (i : Nat) => [(.t 5, iV i)]) (fun (i : Nat) => i ≤ xs.length) (fun (i : Nat) => xs.length - i) 0 ⟨rfl, rfl, rfl, trivial⟩ (Nat.zero_le _) ?_
 intro i hb
 have hi1 := hb
 refine A3 <| A3 <| A0 <| y_M rfl <| y_M rfl <| B9 rfl rfl <| F8 rfl rfl <| xN [0,1,5,14] [] rfl ?_
 refine A5 rfl ?_ ?_ <;> intro hc <;> try simp only [SL] at hc
 ·refine A6 <| A3 <| B2 <| A3 <| A0 <| y_M rfl <| y_M rfl <| B1 rfl rfl rfl (fun _ => rfl) (by omega) <| y_I rfl <| y_M rfl <| y_M rfl <| B1 rfl rfl rfl (fun _ => rfl) (by omega) <| y_I rfl <| Z6 rfl rfl ?_
  refine J9 ⟨fun _ => ⟨by decide +kernel, by decide +kernel⟩, [(.t 0, _), (.t 1, _), (.t 5, _), (.t 25, _)], ⟨rfl, rfl, rfl, rfl, rfl, rfl, rfl, rfl, trivial⟩, ?_⟩
  refine A5 rfl (fun hc => ?_) (fun hc => ?_)
  ·try simp only [SD] at hc
   exact absurd trivial hc
  try simp only [SL] at hc
  refine A6 <| A0 <| y_M rfl <| F3 rfl rfl (C2 (by omega)) <| y_S rfl <| xN [0,1,5] [] rfl ?_
  refine ⟨i + 1, (by omega), (by omega), ⟨rfl, rfl, rfl, trivial⟩⟩
 refine E6 <| A3 <| A0 <| y_S rfl <| xN [4] [] rfl <| B0 <| B5 rfl rfl trivial ?_
 rfl

theorem a9i : E7 Tryz.f42 = [0, 1, 4, 5, 9] := by kernel_rfl
theorem a5c (xs : List Int) (hl : xs.length ≤ 1048576) (k : Int) (hk : 0 ≤ k ∧ k ≤ 1000000000) : ∃ res outs, (fun res outs => res = iV (k + xs.length) ∧ outs = [(mkI k xs.length).map iV]) res outs ∧ CW (cxT oG) 42 [.own 1 (xs.map iV), iV k] = some (res, outs) := by
 refine P6 rfl Tryz.func42 rfl ⟨by kernel_rfl, rfl, dT rfl, dT rfl, by decide⟩ a9i <| A3 <| A0 <| y_S rfl <| xN [0,1] [0] rfl <| A3 <| A3 <| A0 <| y_S rfl <| xN [0,1,5] [0] rfl <| B2 <| E4 (β := Nat × List Int × Int) [(.t 0, _)] (fun (z : Nat × List Int × Int) => match z with | (i, ys, q) => [(.t 5, iV i), (.t 1, iV q), (.h 0, .obj 1 1 1 (ys.map iV))]) (fun (z : Nat × List Int × Int) => match z with | (i, ys, q) => i ≤ xs.length ∧ ys.length = xs.length ∧ q = k + i ∧ ∀ j, j < i → ys.getD j default = k + j) (fun (z : Nat × List Int × Int) => match z with | (i, ys, q) => xs.length - i) (0, xs, k) ⟨rfl, rfl, rfl, rfl, trivial⟩ ⟨Nat.zero_le _, rfl, by simp, fun j h => by omega⟩ ?_
 intro z hb
 obtain ⟨i, ys, q⟩ := z
 try dsimp only at hb
 obtain ⟨hi1, hi2, hq, hi3⟩ := hb
 refine A3 <| A3 <| A0 <| y_M rfl <| y_M rfl <| G8 rfl rfl <| F8 rfl rfl <| xN [0,1,5,9] [0] rfl ?_
 refine A5 rfl ?_ ?_ <;> intro hc <;> try simp only [SL] at hc
 ·refine A6 <| A3 <| B2 <| A3 <| A0 <| y_M rfl <| y_M rfl <| y_M rfl <| C5 rfl rfl rfl rfl (by (simp; omega)) (by (simp; omega)) rfl <| H8 rfl rfl rfl (by omega) (fun _ _ => ⟨rfl, rfl, dT rfl, dT rfl, rfl, rfl⟩) (by decide) (by exact a4h (A7 fun _ => rfl)) <| xN [0,1,5] [0] rfl <| A0 <| y_M rfl <| F3 rfl rfl (C2 (by omega)) <| y_S rfl <| xN [0,1,5] [0] rfl <| A0 <| y_M rfl <| F3 rfl rfl (C2 (by omega)) <| y_S rfl <| xN [0,1,5] [0] rfl ?_
  refine ⟨(i + 1, ys.set i q, q + 1), ⟨by omega, by simp [hi2], by omega, fun j hj => by rw [a4b (by omega)]; by_cases e : j = i; (· rw [if_pos e, e, hq]); (· rw [if_neg e]; exact hi3 j (by omega))⟩, (by simp only; omega), ⟨rfl, rfl, rfl, rfl, trivial⟩⟩
 refine E6 <| A3 <| A0 <| y_M rfl <| y_S rfl <| xN [4] [0] rfl <| B0 ?_
 refine ⟨_, _, ?_, M3 rfl rfl (b0q rfl (M9 fun _ => rfl))⟩
 exact ⟨by rw [show q = k + (xs.length : Int) by omega], by rw [a4e (xs := ys) (ys := mkI k xs.length) (by simp [hi2]) fun j hj => by rw [hi3 j (by omega), c0a (by omega)]]⟩

theorem a9x : E7 Tryz.f43 = [0, 1, 4, 5, 9, 17] := by kernel_rfl
theorem a2d (n : Nat) (hl : n ≤ 1048576) (k : Int) (hk : 0 ≤ k ∧ k ≤ 1000000000) : CW (cxT oG) 43 [L (mkI k n), iV k] = some (iV (k + n), []) := by
 have hml := c1o k n
 refine E5 rfl Tryz.func43 rfl ⟨by kernel_rfl, rfl, dT rfl, dT rfl, by decide⟩ a9x <| A3 <| A0 <| y_S rfl <| xN [0,1] [] rfl <| A3 <| A3 <| A0 <| y_S rfl <| xN [0,1,5] [] rfl <| B2 <| E4 (β := Nat × Int) [(.t 0, _)] (fun (z : Nat × Int) => match z with | (i, q) => [(.t 5, iV i), (.t 1, iV q)]) (fun (z : Nat × Int) => match z with | (i, q) => i ≤ n ∧ q = k + i) (fun (z : Nat × Int) => match z with | (i, q) => n - i) (0, k) ⟨rfl, rfl, rfl, trivial⟩ ⟨Nat.zero_le _, by simp⟩ ?_
 intro z hb
 obtain ⟨i, q⟩ := z
 try dsimp only at hb
 obtain ⟨hi1, hq⟩ := hb
 have hgi : i < n → (mkI k n).getD i default = q := fun h => by rw [hq]; exact c0a (k := k) h
 refine A3 <| A3 <| A0 <| y_M rfl <| y_M rfl <| B9 rfl rfl <| F8 rfl rfl <| xN [0,1,5,9] [] rfl ?_
 refine A5 rfl ?_ ?_ <;> intro hc <;> try simp only [SL] at hc
 ·refine A6 <| A3 <| B2 <| A3 <| A3 <| A0 <| y_M rfl <| y_M rfl <| B1 rfl rfl rfl (fun _ => rfl) (by omega) <| y_I rfl <| y_M rfl <| Z6 rfl rfl <| xN [0,1,5,17] [] rfl ?_
  refine A5 rfl (fun hc => ?_) (fun hc => ?_)
  ·try simp only [SD] at hc
   exact absurd (by (rw [hgi (by omega)]; done)) hc
  try simp only [SL] at hc
  refine A6 <| A0 <| y_M rfl <| F3 rfl rfl (C2 (by omega)) <| y_S rfl <| xN [0,1,5] [] rfl <| A0 <| y_M rfl <| F3 rfl rfl (C2 (by omega)) <| y_S rfl <| xN [0,1,5] [] rfl ?_
  refine ⟨(i + 1, q + 1), ⟨by omega, by omega⟩, (by simp only; omega), ⟨rfl, rfl, rfl, trivial⟩⟩
 refine E6 <| A3 <| A0 <| y_M rfl <| y_S rfl <| xN [4] [] rfl <| B0 <| B5 rfl rfl trivial ?_
 rw [show q = k + (n : Int) by omega]

theorem b4j : E7 Tryz.f83 = [0, 1, 4, 10] := by kernel_rfl
theorem c7f (xs : List Int) (hl : xs.length ≤ 9223372036854775807) (left : Int) (hL : 0 ≤ left ∧ left ≤ 1048576) : ∃ res outs, (fun res outs => ∃ r : Int, res = iV r ∧ outs = [] ∧ (0 ≤ r → r = left - xs.length) ∧ (r < 0 → r = -1)) res outs ∧ CW (cxT oG) 83 [L xs, iV left] = some (res, outs) := by
 refine P6 rfl Tryz.func83 rfl ⟨by kernel_rfl, rfl, dT rfl, dT rfl, by decide⟩ b4j <| A3 <| A0 <| y_S rfl <| xN [0,1] [] rfl <| A3 <| A0 <| y_M rfl <| y_M rfl <| B9 rfl rfl <| L4 rfl rfl (C2 (by omega)) <| y_S rfl <| xN [1] [] rfl <| A3 <| A3 <| A0 <| y_M rfl <| F8 rfl rfl <| xN [1,10] [] rfl ?_
 refine A5 rfl ?_ ?_ <;> intro hc <;> try simp only [SL] at hc
 ·refine A3 <| A0 <| y_S rfl <| xN [4] [] rfl <| B0 ?_
  refine ⟨_, _, ?_, M3 rfl rfl B8⟩
  exact ⟨-1, rfl, rfl, by omega, by omega⟩
 refine A6 <| A3 <| A0 <| y_M rfl <| y_S rfl <| xN [4] [] rfl <| B0 ?_
 refine ⟨_, _, ?_, M3 rfl rfl B8⟩
 exact ⟨_, rfl, rfl, fun _ => rfl, by omega⟩

theorem b1x : E7 Tryz.f37 = [0, 1, 4, 11, 5, 15, 25] := by kernel_rfl
theorem c6h (ss : List (List Int)) (hl : ss.length ≤ 9223372036854775807) (hs : ∀ s ∈ ss, s.length ≤ 9223372036854775807) (left : Int) (hL : 0 ≤ left ∧ left ≤ 1048576) : ∃ res outs, (fun res outs => ∃ r : Int, res = iV r ∧ outs = [] ∧ (0 ≤ r → r = left - ss.length - szR ss) ∧ (r < 0 → r = -1)) res outs ∧ CW (cxT oG) 37 [M ss, iV left] = some (res, outs) := by
 refine P6 rfl Tryz.func37 rfl ⟨by kernel_rfl, rfl, dT rfl, dT rfl, by decide⟩ b1x <| A3 <| A0 <| y_S rfl <| xN [0,1] [] rfl <| A3 <| A0 <| y_M rfl <| y_M rfl <| B9 rfl rfl <| L4 rfl rfl (C2 (by omega)) <| y_S rfl <| xN [0,1] [] rfl <| A3 <| A3 <| A0 <| y_M rfl <| F8 rfl rfl <| xN [0,1,11] [] rfl ?_
 refine A5 rfl ?_ ?_ <;> intro hc <;> try simp only [SL] at hc
 ·refine A3 <| A0 <| y_S rfl <| xN [4] [] rfl <| B0 ?_
  refine ⟨_, _, ?_, M3 rfl rfl B8⟩
  exact ⟨-1, rfl, rfl, by omega, by omega⟩
 refine A6 <| A3 <| A3 <| A0 <| y_S rfl <| xN [0,1,5] [] rfl <| B2 <| E4 (β := Nat × Int) [(.t 0, _)] (fun (z : Nat × Int) => match z with | (i, q) => [(.t 5, iV i), (.t 1, iV q)]) (fun (z : Nat × Int) => match z with | (i, q) => i ≤ ss.length ∧ 0 ≤ q ∧ q = left - ss.length - szR (ss.take i)) (fun (z : Nat × Int) => match z with | (i, q) => ss.length - i) (0, left - ss.length) ⟨rfl, rfl, rfl, trivial⟩ ⟨Nat.zero_le _, by omega, by simp [szR]⟩ ?_
 intro z hb
 obtain ⟨i, q⟩ := z
 try dsimp only at hb
 obtain ⟨hi1, hq0, hq⟩ := hb
 have hsg := fun h : i < ss.length => hs _ (J4 h)
 have hst := fun h : i < ss.length => b2k ss h
 refine A3 <| A3 <| A0 <| y_M rfl <| y_M rfl <| B9 rfl rfl <| F8 rfl rfl <| xN [0,1,5,15] [] rfl ?_
 refine A5 rfl ?_ ?_ <;> intro hc <;> try simp only [SL] at hc
 ·refine A6 <| A3 <| B2 <| A3 <| A0 <| y_M rfl <| y_M rfl <| B1 rfl rfl rfl (fun _ => rfl) (by omega) <| y_I rfl <| y_M rfl ?_
  obtain ⟨_, _, ⟨r, rfl, rfl, hr1, hr2⟩, hC⟩ := c7f (oG := oG) (ss.getD i default) (hsg (by omega)) q (by omega)
  refine xC2 rfl rfl rfl (hC) ⟨rfl, rfl, rfl⟩ rfl rfl fun g23 => ?_
  refine y_S rfl <| xN [0,1,5] [] rfl <| A3 <| A0 <| y_M rfl <| F8 rfl rfl <| xN [0,1,5,25] [] rfl ?_
  refine A5 rfl ?_ ?_ <;> intro hc <;> try simp only [SL] at hc
  ·refine A3 <| A0 <| y_S rfl <| xN [4] [] rfl <| B0 ?_
   refine ⟨_, _, ?_, M3 rfl rfl B8⟩
   exact ⟨-1, rfl, rfl, by omega, by omega⟩
  refine A6 <| A0 <| y_M rfl <| F3 rfl rfl (C2 (by omega)) <| y_S rfl <| xN [0,1,5] [] rfl ?_
  refine ⟨(i + 1, r), ⟨by omega, by omega, by rw [hst (by omega)]; omega⟩, (by simp only; omega), ⟨rfl, rfl, rfl, trivial⟩⟩
 refine E6 <| A3 <| A0 <| y_M rfl <| y_S rfl <| xN [4] [] rfl <| B0 ?_
 refine ⟨_, _, ?_, M3 rfl rfl B8⟩
 exact ⟨_, rfl, rfl, fun _ => by rw [hq, List.take_of_length_le (by omega)], by omega⟩

theorem b1y : E7 Tryz.f38 = [0, 2, 4, 11, 3, 20] := by kernel_rfl
theorem V4 (ss : List (List Int)) (hz : ss.length ≤ 1048576 ∧ szR ss ≤ 1048576) : CW (cxT oG) 38 [M ss] = some (.own 1 (ss.map oI), []) := by
 refine E5 rfl Tryz.func38 rfl ⟨by kernel_rfl, rfl, dT rfl, dT rfl, by decide⟩ b1y <| A3 <| A0 ?_
 (refine A8 rfl rfl (fun _ => rfl) ?_; intro g2)
 refine xN [0] [] rfl <| A3 <| A0 <| y_M rfl <| B9 rfl rfl <| a0e (f := oN) (x0 := none) rfl rfl rfl rfl rfl (by simp only [H3]; omega) (dT rfl) (fun _ => B7 (by exact A7 a3v)) (fun _ => rfl) ?_
 intro g7
 (refine I0 rfl rfl (by (simp; done)) rfl (fun _ => (B7 (by exact A7 a3v))) (fun _ => rfl) ?_; intro g3)
 refine xN [0,3] [3] rfl <| A3 <| A3 <| A0 <| y_S rfl <| xN [0,3,4] [3] rfl <| B2 <| E4 (β := Nat × List (Option (List Int))) [(.t 0, _), (.t 3, _)] (fun (z : Nat × List (Option (List Int))) => match z with | (i, opts) => [(.t 4, iV i), (.h 3, .obj g3 0 1 (opts.map oN))]) (fun (z : Nat × List (Option (List Int))) => match z with | (i, opts) => i ≤ ss.length ∧ opts.length = ss.length ∧ (∀ j, j < i → opts.getD j none = some (ss.getD j default)) ∧ ∀ j, i ≤ j → opts.getD j none = none) (fun (z : Nat × List (Option (List Int))) => match z with | (i, opts) => ss.length - i) (0, List.replicate ss.length none) ⟨rfl, rfl, rfl, rfl, trivial⟩ ⟨Nat.zero_le _, by simp, fun j h => by omega, fun j h => c5h _ _⟩ ?_
 intro z hb
 obtain ⟨i, opts⟩ := z
 try dsimp only at hb
 obtain ⟨hi1, hi2, hi3, hi4⟩ := hb
 refine A3 <| A3 <| A0 <| y_M rfl <| y_M rfl <| B9 rfl rfl <| F8 rfl rfl <| xN [0,3,4,11] [3] rfl ?_
 refine A5 rfl ?_ ?_ <;> intro hc <;> try simp only [SL] at hc
 ·refine A6 <| A3 <| B2 <| A0 <| y_M rfl <| y_M rfl <| y_M rfl <| y_M rfl <| B1 rfl rfl rfl (fun _ => rfl) (by omega) <| y_I rfl ?_
  have hsz := b5s ss (show i < ss.length by omega)
  apply X1 rfl
  ·apply A9
   ·exact B4 rfl
   exact C0
  ·exact c7r (ss.getD i default) (by omega)
  ·exact ⟨rfl, rfl, rfl, dT rfl, rfl⟩
  ·exact .inl rfl
  ·exact B3
  ·exact G4
  ·(intro _; exact D6 (B7 (A7 fun _ => rfl)) rfl)
  intro g20
  simp only [List.length_map]
  refine C5 rfl rfl rfl rfl (by omega) (by (simp; omega)) rfl <| b9x rfl rfl rfl rfl (by simp) (by omega) (by exact hi4 _ (Nat.le_refl _)) rfl rfl (B7 (A7 a3v)) <| xN [0,3,4] [3] rfl <| A0 <| y_M rfl <| F3 rfl rfl (C2 (by omega)) <| y_S rfl <| xN [0,3,4] [3] rfl ?_
  refine ⟨(i + 1, opts.set i (some (ss.getD i default))), ⟨by omega, by simp [hi2], fun j hj => by rw [b5k (by omega)]; by_cases e : j = i; (· rw [if_pos e, e]); (· rw [if_neg e]; exact hi3 j (by omega)), fun j hj => by rw [b5k (by omega), if_neg (by omega)]; exact hi4 j (by omega)⟩, (by simp only; omega), ⟨rfl, rfl, rfl, rfl, trivial⟩⟩
 refine E6 <| A3 <| A0 <| y_M rfl ?_
 (refine I0 rfl rfl (by (simp; omega)) rfl (fun _ => (B7 (by exact A7 a3v))) (fun _ => rfl) ?_; intro g2)
 refine xN [2] [2] rfl <| B0 <| K1 rfl rfl (by (simp [hi2]; done)) (by exact A7 a3v) trivial ?_
 rw [c5j hi2 fun j hj => hi3 j (by omega), c9f]

theorem b0z : E7 Tryz.f40 = [0, 1, 4, 10, 5, 14, 26] := by kernel_rfl
theorem b4q (ss : List (List Int)) (hz : ss.length ≤ 1048576 ∧ szR ss ≤ 1048576) : CW (cxT oG) 40 [M ss, M ss] = some (bV true, []) := by
 refine E5 rfl Tryz.func40 rfl ⟨by kernel_rfl, rfl, dT rfl, dT rfl, by decide⟩ b0z <| A3 <| A0 <| y_S rfl <| xN [0,1] [] rfl <| A3 <| A3 <| A0 <| y_M rfl <| B9 rfl rfl <| y_M rfl <| B9 rfl rfl <| Z6 rfl rfl <| xN [0,1,10] [] rfl ?_
 refine A5 rfl (fun hc => ?_) (fun hc => ?_)
 ·try simp only [SD] at hc
  exact absurd trivial hc
 try simp only [SL] at hc
 refine A6 <| A3 <| A3 <| A0 <| y_S rfl <| xN [0,1,5] [] rfl <| B2 <| E4 (β := Nat) [(.t 0, _), (.t 1, _)] (fun (i : Nat) => [(.t 5, iV i)]) (fun (i : Nat) => i ≤ ss.length) (fun (i : Nat) => ss.length - i) 0 ⟨rfl, rfl, rfl, trivial⟩ (Nat.zero_le _) ?_
 intro i hb
 have hi1 := hb
 refine A3 <| A3 <| A0 <| y_M rfl <| y_M rfl <| B9 rfl rfl <| F8 rfl rfl <| xN [0,1,5,14] [] rfl ?_
 refine A5 rfl ?_ ?_ <;> intro hc <;> try simp only [SL] at hc
 ·refine A6 <| A3 <| B2 <| A3 <| A0 <| y_M rfl <| y_M rfl <| B1 rfl rfl rfl (fun _ => rfl) (by omega) <| y_I rfl <| y_M rfl <| y_M rfl <| B1 rfl rfl rfl (fun _ => rfl) (by omega) <| y_I rfl ?_
  have hsz := b5s ss (show i < ss.length by omega)
  refine xC2 rfl rfl rfl (Z7 (ss.getD i default) (by omega)) ⟨rfl, rfl, rfl⟩ rfl rfl fun g25 => ?_
  refine K7 rfl ?_
  refine J9 ⟨fun _ => ⟨by decide +kernel, by decide +kernel⟩, [(.t 0, _), (.t 1, _), (.t 5, _), (.t 26, _)], ⟨rfl, rfl, rfl, rfl, rfl, rfl, rfl, rfl, trivial⟩, ?_⟩
  refine A5 rfl (fun hc => ?_) (fun hc => ?_)
  ·try simp only [SD] at hc
   exact absurd hc (by simp)
  try simp only [SL] at hc
  refine A6 <| A0 <| y_M rfl <| F3 rfl rfl (C2 (by omega)) <| y_S rfl <| xN [0,1,5] [] rfl ?_
  refine ⟨i + 1, (by omega), (by omega), ⟨rfl, rfl, rfl, trivial⟩⟩
 refine E6 <| A3 <| A0 <| y_S rfl <| xN [4] [] rfl <| B0 <| B5 rfl rfl trivial ?_
 rfl

theorem a6u : E7 Tryz.f41 = [0, 1, 4, 5, 9] := by kernel_rfl
theorem a8v (ss : List (List Int)) (hz : ss.length ≤ 1048576 ∧ szR ss ≤ 1048576) (k : Int) (hk : 0 ≤ k ∧ k ≤ 100000000) : ∃ res outs, (fun res outs => ∃ r : Int, res = iV r ∧ outs = [] ∧ 0 ≤ r ∧ r ≤ k + szR ss) res outs ∧ CW (cxT oG) 41 [.own 1 (ss.map oI), iV k] = some (res, outs) := by
 refine P6 rfl Tryz.func41 rfl ⟨by kernel_rfl, rfl, dT rfl, dT rfl, by decide⟩ a6u <| A3 <| A0 <| y_S rfl <| xN [0,1] [0] rfl <| A3 <| A3 <| A0 <| y_S rfl <| xN [0,1,5] [0] rfl <| B2 <| E4 (β := Nat × List (List Int) × Int) [(.t 0, _)] (fun (z : Nat × List (List Int) × Int) => match z with | (i, ys, q) => [(.t 5, iV i), (.t 1, iV q), (.h 0, .obj 1 0 1 (ys.map oI))]) (fun (z : Nat × List (List Int) × Int) => match z with | (i, ys, q) => i ≤ ss.length ∧ ys.length = ss.length ∧ 0 ≤ q ∧ q ≤ k + szR (ss.take i) ∧ ∀ j, (ys.getD j default).length = (ss.getD j default).length) (fun (z : Nat × List (List Int) × Int) => match z with | (i, ys, q) => ss.length - i) (0, ss, k) ⟨rfl, rfl, rfl, rfl, trivial⟩ ⟨Nat.zero_le _, rfl, by omega, by simp [szR], fun j => rfl⟩ ?_
 intro z hb
 obtain ⟨i, ys, q⟩ := z
 try dsimp only at hb
 obtain ⟨hi1, hi2, hq0, hq1, hns⟩ := hb
 have hst := fun h : i < ss.length => b2k ss h
 have hsl := c2k ss i
 have hsl1 := c2k ss (i + 1)
 refine A3 <| A3 <| A0 <| y_M rfl <| y_M rfl <| G8 rfl rfl <| F8 rfl rfl <| xN [0,1,5,9] [0] rfl ?_
 refine A5 rfl ?_ ?_ <;> intro hc <;> try simp only [SL] at hc
 ·refine A6 <| A3 <| B2 <| A0 <| y_M rfl <| y_M rfl <| C5 rfl rfl rfl rfl (by (simp; omega)) (by (simp; omega)) rfl <| b3d rfl rfl (by omega) rfl rfl <| y_M rfl ?_
  have hz1 := b5s ss (show i < ss.length by omega)
  have hn1 := hns i
  obtain ⟨_, _, ⟨rfl, rfl⟩, hM⟩ := a5c (oG := oG) (ys.getD i default) (by omega) q (by omega)
  apply X1 rfl
  ·apply A9
   ·exact c6d rfl rfl (a5a (by omega) rfl) (by decide) (by (simp; done)) (M9 fun _ => rfl)
   apply A9
   ·exact B4 rfl
   exact C0
  ·exact hM
  ·exact ⟨rfl, rfl, rfl, dT rfl, rfl⟩
  ·exact .inl rfl
  ·exact c8u rfl (by omega) (by simp)
  ·exact D5 rfl
  ·(intro _; exact D6 (B7 (A7 fun _ => rfl)) rfl)
  intro g17
  refine y_S rfl <| xN [0,1,5] [0] rfl <| A0 <| y_M rfl <| F3 rfl rfl (C2 (by omega)) <| y_S rfl <| xN [0,1,5] [0] rfl ?_
  refine ⟨(i + 1, ys.set i (mkI q (ys.getD i default).length), q + (ys.getD i default).length), ⟨by omega, by simp [hi2], by omega, by rw [hst (by omega)]; have := hns i; omega, fun j => by simp only [List.getD_eq_getElem?_getD, List.getElem?_set, List.length_set] at hns ⊢; have := hns j; by_cases e : i = j; (· subst e; simp_all [List.getD_eq_getElem?_getD]); (· simp_all)⟩, (by simp only; omega), ⟨rfl, rfl, rfl, rfl, trivial⟩⟩
 refine E6 <| A3 <| A0 <| y_M rfl <| y_S rfl <| xN [4] [0] rfl <| B0 ?_
 refine ⟨_, _, ?_, M3 rfl rfl B8⟩
 exact ⟨q, rfl, rfl, hq0, by rw [List.take_of_length_le (by omega)] at hq1; omega⟩

theorem a7k : E7 Tryz.f44 = [0, 1, 4, 11, 5, 15, 26] := by kernel_rfl
theorem b8m (ws : List W8) (hl : ws.length ≤ 9223372036854775807) (hs : ∀ w ∈ ws, w.length ≤ 9223372036854775807) (left : Int) (hL : 0 ≤ left ∧ left ≤ 1048576) : ∃ res outs, (fun res outs => ∃ r : Int, res = iV r ∧ outs = [] ∧ (0 ≤ r → r = left - ws.length - szW ws) ∧ (r < 0 → r = -1)) res outs ∧ CW (cxT oG) 44 [.list (ws.map tV), iV left] = some (res, outs) := by
 refine P6 rfl Tryz.func44 rfl ⟨by kernel_rfl, rfl, dT rfl, dT rfl, by decide⟩ a7k <| A3 <| A0 <| y_S rfl <| xN [0,1] [] rfl <| A3 <| A0 <| y_M rfl <| y_M rfl <| B9 rfl rfl <| L4 rfl rfl (C2 (by omega)) <| y_S rfl <| xN [0,1] [] rfl <| A3 <| A3 <| A0 <| y_M rfl <| F8 rfl rfl <| xN [0,1,11] [] rfl ?_
 refine A5 rfl ?_ ?_ <;> intro hc <;> try simp only [SL] at hc
 ·refine A3 <| A0 <| y_S rfl <| xN [4] [] rfl <| B0 ?_
  refine ⟨_, _, ?_, M3 rfl rfl B8⟩
  exact ⟨-1, rfl, rfl, by omega, by omega⟩
 refine A6 <| A3 <| A3 <| A0 <| y_S rfl <| xN [0,1,5] [] rfl <| B2 <| E4 (β := Nat × Int) [(.t 0, _)] (fun (z : Nat × Int) => match z with | (i, q) => [(.t 5, iV i), (.t 1, iV q)]) (fun (z : Nat × Int) => match z with | (i, q) => i ≤ ws.length ∧ 0 ≤ q ∧ q = left - ws.length - szW (ws.take i)) (fun (z : Nat × Int) => match z with | (i, q) => ws.length - i) (0, left - ws.length) ⟨rfl, rfl, rfl, trivial⟩ ⟨Nat.zero_le _, by omega, by simp [szW]⟩ ?_
 intro z hb
 obtain ⟨i, q⟩ := z
 try dsimp only at hb
 obtain ⟨hi1, hq0, hq⟩ := hb
 have hsg := fun h : i < ws.length => hs _ (J4 h)
 have hst := fun h : i < ws.length => b7w ws h
 refine A3 <| A3 <| A0 <| y_M rfl <| y_M rfl <| B9 rfl rfl <| F8 rfl rfl <| xN [0,1,5,15] [] rfl ?_
 refine A5 rfl ?_ ?_ <;> intro hc <;> try simp only [SL] at hc
 ·have hsi := hsg (by omega)
  refine A6 <| A3 <| B2 <| A3 <| A0 <| y_M rfl <| y_M rfl <| y_M rfl <| B1 rfl rfl rfl (fun _ => rfl) (by omega) <| y_I rfl <| a6x rfl rfl <| L4 rfl rfl (C2 (by omega)) <| y_S rfl <| xN [0,1,5] [] rfl <| A3 <| A0 <| y_M rfl <| F8 rfl rfl <| xN [0,1,5,26] [] rfl ?_
  refine A5 rfl ?_ ?_ <;> intro hc <;> try simp only [SL] at hc
  ·refine A3 <| A0 <| y_S rfl <| xN [4] [] rfl <| B0 ?_
   refine ⟨_, _, ?_, M3 rfl rfl B8⟩
   exact ⟨-1, rfl, rfl, by omega, by omega⟩
  refine A6 <| A0 <| y_M rfl <| F3 rfl rfl (C2 (by omega)) <| y_S rfl <| xN [0,1,5] [] rfl ?_
  refine ⟨(i + 1, q - (ws.getD i default).length), ⟨by omega, by omega, by rw [hst (by omega)]; omega⟩, (by simp only; omega), ⟨rfl, rfl, rfl, trivial⟩⟩
 refine E6 <| A3 <| A0 <| y_M rfl <| y_S rfl <| xN [4] [] rfl <| B0 ?_
 refine ⟨_, _, ?_, M3 rfl rfl B8⟩
 exact ⟨_, rfl, rfl, fun _ => by rw [hq, List.take_of_length_le (by omega)], by omega⟩

theorem a7i : E7 Tryz.f46 = [0, 2, 4, 11, 3] := by kernel_rfl
theorem O7 (cs : List W8) (hl : cs.length ≤ 1048576) : CW (cxT oG) 46 [.list (cs.map tV)] = some (.own 1 (cs.map tV), []) := by
 refine E5 rfl Tryz.func46 rfl ⟨by kernel_rfl, rfl, dT rfl, dT rfl, by decide⟩ a7i <| A3 <| A0 ?_
 (refine A8 rfl rfl (fun _ => rfl) ?_; intro g2)
 refine xN [0] [] rfl <| A3 <| A0 <| y_M rfl <| B9 rfl rfl <| a0e (f := tV) (x0 := []) rfl rfl rfl rfl rfl (by simp only [H3]; omega) (dT rfl) (fun _ => B7 (by exact A7 fun _ => rfl)) (fun _ => rfl) ?_
 intro g7
 (refine xO rfl rfl (by simp) rfl (fun _ => rfl) (fun _ => rfl) ?_; intro g3)
 refine xN [0,3] [3] rfl <| A3 <| A3 <| A0 <| y_S rfl <| xN [0,3,4] [3] rfl <| B2 <| E4 (β := Nat × List W8) [(.t 0, _), (.t 3, _)] (fun (z : Nat × List W8) => match z with | (i, ys) => [(.t 4, iV i), (.h 3, .obj g3 0 1 (ys.map tV))]) (fun (z : Nat × List W8) => match z with | (i, ys) => i ≤ cs.length ∧ ys.length = cs.length ∧ ∀ j, j < i → ys.getD j default = cs.getD j default) (fun (z : Nat × List W8) => match z with | (i, ys) => cs.length - i) (0, List.replicate cs.length []) ⟨rfl, rfl, rfl, rfl, trivial⟩ ⟨Nat.zero_le _, by simp, fun j h => by omega⟩ ?_
 intro z hb
 obtain ⟨i, ys⟩ := z
 try dsimp only at hb
 obtain ⟨hi1, hi2, hi3⟩ := hb
 refine A3 <| A3 <| A0 <| y_M rfl <| y_M rfl <| B9 rfl rfl <| F8 rfl rfl <| xN [0,3,4,11] [3] rfl ?_
 refine A5 rfl ?_ ?_ <;> intro hc <;> try simp only [SL] at hc
 ·refine A6 <| A3 <| B2 <| A0 <| y_M rfl <| y_M rfl <| y_M rfl <| y_M rfl <| B1 rfl rfl rfl (fun _ => rfl) (by omega) <| y_I rfl <| C5 rfl rfl rfl rfl (by omega) (by (simp; omega)) rfl <| b6g (y := (cs.getD i default)) rfl rfl rfl (by omega) rfl ⟨rfl, dT rfl, dT rfl, rfl⟩ (by decide) rfl (by exact B7 (A7 fun _ => rfl)) <| xN [0,3,4] [3] rfl <| A0 <| y_M rfl <| F3 rfl rfl (C2 (by omega)) <| y_S rfl <| xN [0,3,4] [3] rfl ?_
  refine ⟨(i + 1, ys.set i (cs.getD i default)), ⟨by omega, by simp [hi2], fun j hj => by rw [a4b (by omega)]; by_cases e : j = i; (· rw [if_pos e, e]); (· rw [if_neg e]; exact hi3 j (by omega))⟩, (by simp only; omega), ⟨rfl, rfl, rfl, rfl, trivial⟩⟩
 refine E6 <| A3 <| A0 <| y_M rfl ?_
 (refine I0 rfl rfl (by (simp; omega)) rfl (fun _ => (B7 (by exact A7 fun _ => rfl))) (fun _ => rfl) ?_; intro g2)
 refine xN [2] [2] rfl <| B0 <| K1 rfl rfl (by (simp [hi2]; done)) (by exact A7 fun _ => rfl) trivial ?_
 rw [a4e hi2 fun j hj => hi3 j (by omega)]

theorem a7p : E7 Tryz.f47 = [0, 1, 4, 10, 5, 14, 25] := by kernel_rfl
theorem a9a (cs : List W8) (hl : cs.length ≤ 1048576) : CW (cxT oG) 47 [.list (cs.map tV), .list (cs.map tV)] = some (bV true, []) := by
 refine E5 rfl Tryz.func47 rfl ⟨by kernel_rfl, rfl, dT rfl, dT rfl, by decide⟩ a7p <| A3 <| A0 <| y_S rfl <| xN [0,1] [] rfl <| A3 <| A3 <| A0 <| y_M rfl <| B9 rfl rfl <| y_M rfl <| B9 rfl rfl <| Z6 rfl rfl <| xN [0,1,10] [] rfl ?_
 refine A5 rfl (fun hc => ?_) (fun hc => ?_)
 ·try simp only [SD] at hc
  exact absurd trivial hc
 try simp only [SL] at hc
 refine A6 <| A3 <| A3 <| A0 <| y_S rfl <| xN [0,1,5] [] rfl <| B2 <| E4 (β := Nat) [(.t 0, _), (.t 1, _)] (fun (i : Nat) => [(.t 5, iV i)]) (fun (i : Nat) => i ≤ cs.length) (fun (i : Nat) => cs.length - i) 0 ⟨rfl, rfl, rfl, trivial⟩ (Nat.zero_le _) ?_
 intro i hb
 have hi1 := hb
 refine A3 <| A3 <| A0 <| y_M rfl <| y_M rfl <| B9 rfl rfl <| F8 rfl rfl <| xN [0,1,5,14] [] rfl ?_
 refine A5 rfl ?_ ?_ <;> intro hc <;> try simp only [SL] at hc
 ·refine A6 <| A3 <| B2 <| A3 <| A0 <| y_M rfl <| y_M rfl <| B1 rfl rfl rfl (fun _ => rfl) (by omega) <| y_I rfl <| y_M rfl <| y_M rfl <| B1 rfl rfl rfl (fun _ => rfl) (by omega) <| y_I rfl <| b2e rfl rfl ?_
  refine J9 ⟨fun _ => ⟨by decide +kernel, by decide +kernel⟩, [(.t 0, _), (.t 1, _), (.t 5, _), (.t 25, _)], ⟨rfl, rfl, rfl, rfl, rfl, rfl, rfl, rfl, trivial⟩, ?_⟩
  refine A5 rfl (fun hc => ?_) (fun hc => ?_)
  ·try simp only [SD] at hc
   exact absurd trivial hc
  try simp only [SL] at hc
  refine A6 <| A0 <| y_M rfl <| F3 rfl rfl (C2 (by omega)) <| y_S rfl <| xN [0,1,5] [] rfl ?_
  refine ⟨i + 1, (by omega), (by omega), ⟨rfl, rfl, rfl, trivial⟩⟩
 refine E6 <| A3 <| A0 <| y_S rfl <| xN [4] [] rfl <| B0 <| B5 rfl rfl trivial ?_
 rfl

theorem a7b : E7 Tryz.f77 = [0, 2, 5, 7, 3] := by kernel_rfl
theorem b8g (k : Int) (hk : k ≤ 1000000000) : CW (cxT oG) 77 [iV k] = some (tV (mT k), []) := by
 refine E5 rfl Tryz.func77 rfl ⟨by kernel_rfl, rfl, dT rfl, dT rfl, by decide⟩ a7b <| A3 <| A0 <| y_S rfl <| xN [0] [] rfl <| A3 <| A3 <| A0 <| y_M rfl <| a4n rfl rfl <| xN [0,5] [] rfl ?_
 refine A5 rfl ?_ ?_ <;> intro hc <;> try simp only [SL] at hc
 ·refine A3 <| A0 <| y_S rfl <| xN [2] [] rfl <| B0 <| B5 rfl rfl trivial ?_
  rw [mT, if_pos (by omega)]
  rfl
 refine A6 <| A3 <| A0 <| y_S rfl <| xN [0,3] [] rfl <| A3 <| B2 <| c3u (β := Int × List UInt8) (fun (z : Int × List UInt8) => match z with | (q, s) => [(.t 0, iV q), (.t 3, tV s)]) (fun (z : Int × List UInt8) => match z with | (q, s) => 0 ≤ q ∧ q + s.length ≤ 1000000001 ∧ mkS k q s) (fun (z : Int × List UInt8) => match z with | (q, s) => q.toNat) (k, []) ⟨rfl, rfl, trivial⟩ ⟨by omega, by show k + ((0 : Nat) : Int) ≤ _; omega, by rw [mkS, if_neg (by omega), List.append_nil]⟩ ?_
 intro z hb
 obtain ⟨q, s⟩ := z
 try dsimp only at hb
 obtain ⟨hq0, hq, hmk⟩ := hb
 refine A3 <| A3 <| A0 <| y_M rfl <| S0 rfl rfl <| xN [0,3,7] [] rfl ?_
 refine A5 rfl ?_ ?_ <;> intro hc <;> try simp only [SL] at hc
 ·refine A6 <| B2 <| A3 <| A0 <| y_M rfl ?_
  have hm1 : 0 ≤ q.tmod 10 ∧ q.tmod 10 < 10 := ⟨Int.tmod_nonneg _ (by omega), Int.tmod_lt_of_pos _ (by decide)⟩
  have hd1 : q.tdiv 10 = q / 10 := Int.tdiv_eq_ediv_of_nonneg (by omega)
  refine d2f rfl rfl (by omega) <| F3 rfl rfl (C2 (by omega)) ?_
  refine a8a rfl rfl rfl (by constructor <;> simp [IntKind.min, IntKind.max, IntKind.signed, IntKind.bits] <;> omega) ?_
  refine C4 (es := List.map uV [_]) rfl rfl (dT rfl) rfl rfl (fun _ => B7 (A7 fun _ => rfl)) (fun _ => rfl) ?_
  intro g12
  refine d0r rfl rfl rfl rfl rfl rfl (by simp) (d3h (by omega)) <| y_M rfl <| b0p rfl rfl (by simp only [H3, List.length_append, List.length_cons, List.length_nil]; omega) <| y_S rfl <| xN [0,3] [] rfl <| A0 <| y_M rfl <| d2b rfl rfl ⟨by omega, C2 (by omega)⟩ <| y_S rfl <| xN [0,3] [] rfl ?_
  refine ⟨(q.tdiv 10, _), ⟨by omega, by simp only [List.length_append, List.length_cons, List.length_nil]; omega, c9a hmk (by omega)⟩, (by simp only; omega), ⟨rfl, rfl, trivial⟩⟩
 refine E6 <| A3 <| A0 <| y_M rfl <| b0p rfl rfl (by simp only [H3, List.length_append, List.length_cons, List.length_nil]; omega) <| y_S rfl <| xN [2] [] rfl <| B0 <| B5 rfl rfl trivial ?_
 rw [← d0w hmk (by omega) (by omega)]
 rfl

theorem a4y : E7 Tryz.f48 = [0, 1, 4, 5, 9, 15] := by kernel_rfl
theorem a4o (cs : List W8) (hl : cs.length ≤ 1048576) (k : Int) (hk : 0 ≤ k ∧ k ≤ 1000) : ∃ res outs, (fun res outs => res = iV (k + cs.length) ∧ outs = [(mkT k cs.length).map tV]) res outs ∧ CW (cxT oG) 48 [.own 1 (cs.map tV), iV k] = some (res, outs) := by
 refine P6 rfl Tryz.func48 rfl ⟨by kernel_rfl, rfl, dT rfl, dT rfl, by decide⟩ a4y <| A3 <| A0 <| y_S rfl <| xN [0,1] [0] rfl <| A3 <| A3 <| A0 <| y_S rfl <| xN [0,1,5] [0] rfl <| B2 <| E4 (β := Nat × List W8 × Int) [(.t 0, _)] (fun (z : Nat × List W8 × Int) => match z with | (i, ys, q) => [(.t 5, iV i), (.t 1, iV q), (.h 0, .obj 1 1 1 (ys.map tV))]) (fun (z : Nat × List W8 × Int) => match z with | (i, ys, q) => i ≤ cs.length ∧ ys.length = cs.length ∧ q = k + i ∧ ∀ j, j < i → ys.getD j default = mT (k + j)) (fun (z : Nat × List W8 × Int) => match z with | (i, ys, q) => cs.length - i) (0, cs, k) ⟨rfl, rfl, rfl, rfl, trivial⟩ ⟨Nat.zero_le _, rfl, by simp, fun j h => by omega⟩ ?_
 intro z hb
 obtain ⟨i, ys, q⟩ := z
 try dsimp only at hb
 obtain ⟨hi1, hi2, hq, hi3⟩ := hb
 refine A3 <| A3 <| A0 <| y_M rfl <| y_M rfl <| G8 rfl rfl <| F8 rfl rfl <| xN [0,1,5,9] [0] rfl ?_
 refine A5 rfl ?_ ?_ <;> intro hc <;> try simp only [SL] at hc
 ·refine A6 <| A3 <| B2 <| A3 <| A0 <| y_M rfl <| y_M rfl <| y_M rfl ?_
  refine xC1 rfl rfl (b8g q (by omega)) ⟨rfl, rfl, rfl⟩ rfl rfl fun g15 => ?_
  refine C5 rfl rfl rfl rfl (by (simp; omega)) (by (simp; omega)) rfl <| H8 rfl rfl rfl (by omega) (fun _ _ => ⟨rfl, rfl, dT rfl, dT rfl, rfl, rfl⟩) (by decide) (by exact a4h (A7 fun _ => rfl)) <| xN [0,1,5] [0] rfl <| A0 <| y_M rfl <| F3 rfl rfl (C2 (by omega)) <| y_S rfl <| xN [0,1,5] [0] rfl <| A0 <| y_M rfl <| F3 rfl rfl (C2 (by omega)) <| y_S rfl <| xN [0,1,5] [0] rfl ?_
  refine ⟨(i + 1, ys.set i (mT q), q + 1), ⟨by omega, by simp [hi2], by omega, fun j hj => by rw [a4b (by omega)]; by_cases e : j = i; (· rw [if_pos e, e, hq]); (· rw [if_neg e]; exact hi3 j (by omega))⟩, (by simp only; omega), ⟨rfl, rfl, rfl, rfl, trivial⟩⟩
 refine E6 <| A3 <| A0 <| y_M rfl <| y_S rfl <| xN [4] [0] rfl <| B0 ?_
 refine ⟨_, _, ?_, M3 rfl rfl (b0q rfl (M9 fun _ => rfl))⟩
 exact ⟨by rw [show q = k + (cs.length : Int) by omega], by rw [a4e (xs := ys) (ys := mkT k cs.length) (by simp [hi2, a5j]) fun j hj => by rw [hi3 j (by omega), d0a (by omega)]]⟩
end Go.Proofs.YtcpmbhfnapijaaaGreatDoor
