/- What each function of the program gives on the abstract machine, part 1 of 1. Conditions: those in front of each theorem. -/
import Derived.Test.YtfiobkibbebeiaaMd
import Derived.Test.YtfiobkibbebeiaaChecked
import Derived.KernelRfl

set_option linter.unusedVariables false
set_option linter.unusedSimpArgs false
namespace Go.Proofs.Ytfiobkibbebeiaa
open Go Go.Mv Go.Proofs
set_option maxRecDepth 100000
set_option maxHeartbeats 20000000

theorem SD : (∀ {p : Prop} [Decidable p], (decide p = true) = p) ∧ (∀ {p : Prop} {_ : Decidable p}, decide p = false ↔ ¬p) ∧ (∀ (b : Bool), ((!b) = true) = (b = false)) ∧ (∀ (b : Bool), ((!b) = false) = (b = true)) ∧ (∀ {α : Type} [BEq α] [LawfulBEq α] {a b : α}, (a != b) = true ↔ a ≠ b) ∧
    (∀ {α : Type} [BEq α] [LawfulBEq α] {a b : α}, (a == b) = true ↔ a = b) ∧ (∀ {α : Type} (a b : α), (a ≠ b) = ¬a = b) ∧ (!true) = false ∧ (!false) = true ∧ (∀ {α : Type} [BEq α] [LawfulBEq α] {a b : α}, (a == b) = false ↔ a ≠ b) ∧ (∀ {α : Type} [BEq α] [LawfulBEq α] {a b : α}, (a != b) = false ↔ a = b) ∧
    (∀ {p : Prop} [Decidable p], ¬¬p ↔ p) ∧ (∀ {a b : Int}, ¬a < b ↔ b ≤ a) ∧ (∀ {a b : Int}, ¬a ≤ b ↔ b < a) :=
  ⟨@decide_eq_true_eq, @decide_eq_false_iff_not, @Bool.not_eq_true', @Bool.not_eq_false', @bne_iff_ne, @beq_iff_eq, @ne_eq, @Bool.not_true, @Bool.not_false, @beq_eq_false_iff_ne, @bne_eq_false_iff_eq, @Decidable.not_not, @Int.not_lt, @Int.not_le⟩
theorem SG : ((∀ {p : Prop} [Decidable p], (decide p = true) = p) ∧ (∀ {p : Prop} {_ : Decidable p}, decide p = false ↔ ¬p) ∧ (∀ (b : Bool), ((!b) = true) = (b = false)) ∧ (∀ (b : Bool), ((!b) = false) = (b = true)) ∧ (∀ {α : Type} [BEq α] [LawfulBEq α] {a b : α}, (a != b) = true ↔ a ≠ b) ∧
    (∀ {α : Type} [BEq α] [LawfulBEq α] {a b : α}, (a == b) = true ↔ a = b) ∧ (∀ {α : Type} (a b : α), (a ≠ b) = ¬a = b) ∧ (!true) = false ∧ (!false) = true ∧ (∀ {α : Type} [BEq α] [LawfulBEq α] {a b : α}, (a == b) = false ↔ a ≠ b) ∧ (∀ {α : Type} [BEq α] [LawfulBEq α] {a b : α}, (a != b) = false ↔ a = b) ∧
    (∀ {p : Prop} [Decidable p], ¬¬p ↔ p) ∧ (∀ {a b : Int}, ¬a < b ↔ b ≤ a) ∧ (∀ {a b : Int}, ¬a ≤ b ↔ b < a)) ∧
    (∀ (a b : Bool), ((a && b) = true) = (a = true ∧ b = true)) ∧ (∀ {x y : Bool}, (x && y) = false ↔ x = false ∨ y = false) ∧ (∀ (a b : Bool), ((a || b) = true) = (a = true ∨ b = true)) ∧ (∀ {x y : Bool}, (x || y) = false ↔ x = false ∧ y = false) :=
  ⟨SD, @Bool.and_eq_true, @Bool.and_eq_false_iff, @Bool.or_eq_true, @Bool.or_eq_false_iff⟩
def b9t (keep : List Nat) (A : Asr) : List Mv.Loc → Asr → Option Asr
  | l :: ls, B => match keepLoc keep l, Mv.look A l with
    | true, some a => b9t keep A ls ((l, a) :: B)
    | _, _ => none
  | [], B => some B
theorem b8l {keep : List Nat} {A : Asr} : ∀ (ls : List Mv.Loc) {B C : Asr}, KeepL keep A B → b9t keep A ls B = some C → KeepL keep A C
  | [], B, C, h, e => by simp only [b9t, Option.some.injEq] at e; rw [← e]; exact h
  | l :: ls, B, C, h, e => by
    simp only [b9t] at e
    split at e
    · exact b8l ls (show KeepL keep A ((l, _) :: B) from ⟨by assumption, by assumption, h⟩) e
    · cases e
theorem kS (ts hs : List Nat) {keep : List Nat} {A B : Asr} (h : b9t keep A (ts.map .t ++ hs.map .h) [] = some B) : KeepL keep A B := b8l _ (show KeepL keep A [] from trivial) h
section
variable {cx : Cx} {keep : List Nat} {ops0 : Array Oper} {r : List Oper} {A : Asr} {Q : Asr → List Log → Prop}
variable {d ty : Nat} {pos : String} {aft : Array Edge}
theorem gT {op : Op} {dst : Option Nat} {g dg : Nat} {want b : Bool} (hd : (ops0[g]?).bind (·.dst) = some dg) (hb : Mv.look A (.t dg) = some (.val (.bool b)))
    (h : XR cx keep ops0 (⟨dst, op, ty, pos, aft, none⟩ :: r) A fun A' lg => Q A' (b8b (.t dg) lg)) (hw : b = want := by assumption) : XR cx keep ops0 (⟨dst, op, ty, pos, aft, some (g, want)⟩ :: r) A Q := W6 hd hb hw h
theorem gF {op : Op} {g dg : Nat} {want b : Bool} (hd : (ops0[g]?).bind (·.dst) = some dg) (hb : Mv.look A (.t dg) = some (.val (.bool b)))
    (h : XR cx keep ops0 r ((.t d, .val (.tuple #[])) :: A) fun A' lg => Q A' (([.t dg], [.t d]) :: lg)) (hw : b = !want := by assumption) : XR cx keep ops0 (⟨some d, op, ty, pos, aft, some (g, want)⟩ :: r) A Q := L9 hd hb hw h
theorem xN {B : Asr} {p : Asr → List Log → Prop} {R : Asr → Prop} (ts hs : List Nat) (h : b9t keep A (ts.map .t ++ hs.map .h) [] = some B) (q : R B) :
    XR cx keep ops0 [] A (fun A' lg => (false = true → p A' lg) ∧ ∃ B, KeepL keep A' B ∧ R B) := H1 ⟨nofun, B, kS ts hs h, q⟩
theorem xC {G : Type} {k : Nat} {args : Array Operand} {Ts : Array Nat} {vs av : List AV} {ids : List (Nat × Bool)} {wp wb : Ws} {lp lb li : List Mv.Loc} {res : AV} {outs : List (List AV)} {v : G → AV} {wi : G → Ws}
    (hv : opds A args.toList = some vs) (hp : a1p (CW cx) A (cx.md k) 0 vs av ids wp lp) (hC : CW cx k av = some (res, outs))
    (hr : (apartIds ids = true ∧ I8 ((S0 (cx.md k) 0 vs).map (·.1)) = true ∧ I8 ((cidAll (cx.md k) 0 av).map (·.1)) = true ∧ av.length ≤ 1000 ∧ U3 av = true) ∧
      (ids.all (fun x => x.2) = true ∨ (hasList res = false ∧ outs.any B7 = false)) ∧
      b7n (CW cx) (puts A wp) (S0 (cx.md k) 0 vs) outs wb lb ∧ a4y (CW cx) (puts (puts A wp) wb) d res v wi li ∧
      (∀ g, tRefsOk keep (keptWs keep (wp ++ (wb ++ (wi g ++ [(.t d, v g)])))) = true) ∧
      ∀ g, XR cx keep ops0 r (a1k A (wp ++ (wb ++ (wi g ++ [(.t d, v g)])))) fun A' lg => Q A' ((a0e args.toList ++ (lp ++ (lb ++ li)), U8 (wp ++ (wb ++ (wi g ++ [(.t d, v g)])))) :: lg)) :
    XR cx keep ops0 (⟨some d, .call ⟨.value (.func k), args, Ts⟩, ty, pos, aft, none⟩ :: r) A Q :=
  a4e hv hp hC hr.1 hr.2.1 hr.2.2.1 hr.2.2.2.1 hr.2.2.2.2.1 hr.2.2.2.2.2
theorem xC1 {k : Nat} {Ts : Array Nat} {x1 : Operand} {v1 res : AV} (hx : opds A [x1] = some [v1]) (p1 : N1 v1 = true) (hC : CW cx k [v1] = some (res, []))
    (hb : S0 (cx.md k) 0 [v1] = [] ∧ I8 ((cidAll (cx.md k) 0 [v1]).map (·.1)) = true ∧ U3 [v1] = true) (hi : H6 res = true) (hk : tRefsOk keep (keptWs keep [(.t d, res)]) = true)
    (h : ∀ _ : Unit, XR cx keep ops0 r (a1k A [(.t d, res)]) fun A' lg => Q A' ((a0e [x1], [.t d]) :: lg)) : XR cx keep ops0 (⟨some d, .call ⟨.value (.func k), #[x1], Ts⟩, ty, pos, aft, none⟩ :: r) A Q :=
  a4e hx (A9 (B9 p1) F8) hC ⟨rfl, by rw [hb.1]; rfl, hb.2.1, by simp, hb.2.2⟩ (.inl rfl) (by rw [hb.1]; exact D5) (E3 hi) (fun _ => hk) (fun g => by have := h g; simpa [U8] using this)
theorem xC2 {k : Nat} {Ts : Array Nat} {x1 x2 : Operand} {v1 v2 res : AV} (hx : opds A [x1, x2] = some [v1, v2]) (p1 : N1 v1 = true) (p2 : N1 v2 = true) (hC : CW cx k [v1, v2] = some (res, []))
    (hb : S0 (cx.md k) 0 [v1, v2] = [] ∧ I8 ((cidAll (cx.md k) 0 [v1, v2]).map (·.1)) = true ∧ U3 [v1, v2] = true) (hi : H6 res = true) (hk : tRefsOk keep (keptWs keep [(.t d, res)]) = true)
    (h : ∀ _ : Unit, XR cx keep ops0 r (a1k A [(.t d, res)]) fun A' lg => Q A' ((a0e [x1, x2], [.t d]) :: lg)) : XR cx keep ops0 (⟨some d, .call ⟨.value (.func k), #[x1, x2], Ts⟩, ty, pos, aft, none⟩ :: r) A Q :=
  a4e hx (A9 (B9 p1) (A9 (B9 p2) F8)) hC ⟨rfl, by rw [hb.1]; rfl, hb.2.1, by simp, hb.2.2⟩ (.inl rfl) (by rw [hb.1]; exact D5) (E3 hi) (fun _ => hk) (fun g => by have := h g; simpa [U8] using this)
theorem xC3 {k : Nat} {Ts : Array Nat} {x1 x2 x3 : Operand} {v1 v2 v3 res : AV} (hx : opds A [x1, x2, x3] = some [v1, v2, v3]) (p1 : N1 v1 = true) (p2 : N1 v2 = true) (p3 : N1 v3 = true) (hC : CW cx k [v1, v2, v3] = some (res, []))
    (hb : S0 (cx.md k) 0 [v1, v2, v3] = [] ∧ I8 ((cidAll (cx.md k) 0 [v1, v2, v3]).map (·.1)) = true ∧ U3 [v1, v2, v3] = true) (hi : H6 res = true) (hk : tRefsOk keep (keptWs keep [(.t d, res)]) = true)
    (h : ∀ _ : Unit, XR cx keep ops0 r (a1k A [(.t d, res)]) fun A' lg => Q A' ((a0e [x1, x2, x3], [.t d]) :: lg)) : XR cx keep ops0 (⟨some d, .call ⟨.value (.func k), #[x1, x2, x3], Ts⟩, ty, pos, aft, none⟩ :: r) A Q :=
  a4e hx (A9 (B9 p1) (A9 (B9 p2) (A9 (B9 p3) F8))) hC ⟨rfl, by rw [hb.1]; rfl, hb.2.1, by simp, hb.2.2⟩ (.inl rfl) (by rw [hb.1]; exact D5) (E3 hi) (fun _ => hk) (fun g => by have := h g; simpa [U8] using this)
theorem xO {α : Type} {f : α → AV} {xs : List α} {x : Operand} {id g s n : Nat} (hx : opd A x = some (.sl id g none 0 n)) (ho : Mv.look A (.h id) = some (.obj g 0 s (xs.map f))) (hn : n = (xs.map f).length) (hne : Loc.beq (.h d) (.h id) = false) (hf : ∀ a, K7 (f a) = true)
    (hk : ∀ g, slotOk keep (.t d) (.sl d g none 0 n) = true) (h : ∀ g', XR cx keep ops0 r ((.t d, .sl d g' none 0 n) :: (.h d, .obj g' 0 s (xs.map f)) :: (.h id, .dead g) :: A) fun A' lg => Q A' ((rds x ++ [.h id, .h d], [.h id, .h d, .t d]) :: lg)) :
    XR cx keep ops0 (⟨some d, .assign x, ty, pos, aft, none⟩ :: r) A Q := a3k hx ho hn hne (fun _ => K3 (E4 hf)) hk h
theorem xB {T id g m s : Nat} {a x : Operand} {e v : AV} (ha : opd A a = some (.ptr id g none 0 0)) (hx : opd A x = some v) (ho : Mv.look A (.h id) = some (.obj g m s [e])) (hl : a8d (leaves e) v = true)
    (hc : decide (m ≠ 2 ∧ (leaves v).length = (tyS cx.P T).size ∧ 0 < (leaves v).length ∧ (leaves v).length ≤ (leaves e).length) = true) (hw : R5 (leaves v) (leaves e) = true) (hp : putAt e 0 v = v) (hm : decide (m = 3) = true) (hi : H9 [v] = true)
    (h : XR cx keep ops0 r ((.h id, .obj g m s [v]) :: A) fun A' lg => Q A' ((rds a ++ (rds x ++ [.h id, .h id, .h id]), [.h id]) :: lg)) : XR cx keep ops0 (⟨none, .store T a x, ty, pos, aft, none⟩ :: r) A Q := by
  obtain ⟨h1, h2, h3, h4⟩ := of_decide_eq_true hc
  exact b2p ha hx ho hl ⟨h1, h2, h3, h4, hw⟩ hp (by rw [of_decide_eq_true hm]; exact C8 hi) h
theorem xA {α : Type} {f : α → AV} {xs ys : List α} {T T' E s id g n id2 g2 n2 : Nat} {x y : Operand} {z : AV} (hx : opd A x = some (.sl id g none 0 n)) (hy : opd A y = some (.sl id2 g2 none 0 n2)) (ho : Mv.look A (.h id) = some (.obj g 0 s (xs.map f))) (ho2 : Mv.look A (.h id2) = some (.obj g2 0 s (ys.map f)))
    (hn : n = (xs.map f).length) (hn2 : n2 = (ys.map f).length) (hd : (decide (1000000 ≤ id2) && !Loc.beq (.h id) (.h id2)) = true) (hT : V3 cx.P T = some (E, s)) (hT' : L2 (tyS cx.P T').k = true) (hz : a3e cx.P E = some (z, s)) (hb : decide ((tyS cx.P E).bytes ≤ 4096) = true) (hf : ∀ a, ((leaves (f a)).all cellLeaf && K7 (f a)) = true)
    (hle : xs.length + ys.length ≤ 4294967296) (hk : ∀ g, slotOk keep (.t d) (.sl (tid d 0) g none 0 (xs ++ ys).length) = true)
    (h : ∀ g', XR cx keep ops0 r ((.t d, .sl (tid d 0) g' none 0 (xs ++ ys).length) :: (.h (tid d 0), .obj g' 0 s ((xs ++ ys).map f)) :: (.h id, .dead g) :: (.h id2, .dead g2) :: A) fun A' lg => Q A' ((rds x ++ (rds y ++ [.h id2, .h id, .h (tid d 0)]), [.h id2, .h id, .h (tid d 0), .t d]) :: lg)) :
    XR cx keep ops0 (⟨some d, .call ⟨.builtin .append, #[x, y], #[T, T']⟩, ty, pos, aft, none⟩ :: r) A Q := by
  simp only [Bool.and_eq_true, decide_eq_true_eq, Bool.not_eq_true'] at hd hf
  exact b2e hx hy ho ho2 hn hn2 hd.1 hd.2 hT hT' hz (of_decide_eq_true hb) hf (Nat.le_trans hle (by decide)) hk h
theorem y_M {x : Operand} {v : AV} (e : (opd A x, slotOk keep (.t d) v) = (some v, true)) (h : XR cx keep ops0 r ((.t d, v) :: A) fun A' lg => Q A' ((rds x, [.t d]) :: lg)) : XR cx keep ops0 (⟨some d, .move x, ty, pos, aft, none⟩ :: r) A Q := by
  simp only [Prod.mk.injEq] at e
  exact c5w e.1 e.2 h
theorem y_S {x : Operand} {v : AV} (e : (opd A x, W5 v, slotOk keep (.t d) v) = (some v, true, true)) (h : XR cx keep ops0 r ((.t d, v) :: A) fun A' lg => Q A' ((rds x, [.t d]) :: lg)) : XR cx keep ops0 (⟨some d, .assign x, ty, pos, aft, none⟩ :: r) A Q := by
  simp only [Prod.mk.injEq] at e
  exact c2n e.1 e.2.1 e.2.2 h
theorem y_F {x : Operand} {S f o ft : Nat} {v v' : AV} (e : (opd A x, (match (tyS cx.P S).k with | .struct fs => fs[f]? | _ => none), decide ((tyS cx.P ft).size ≠ 0), (match v with | .ptr id g p i j => some (AV.ptr id g p i (j + o)) | .ipt e j => some (.ipt e (j + o)) | _ => none), slotOk keep (.t d) v') = (some v, some (o, ft), true, some v', true)) (h : XR cx keep ops0 r ((.t d, v') :: A) fun A' lg => Q A' ((rds x, [.t d]) :: lg)) : XR cx keep ops0 (⟨some d, .fieldAddr S x f, ty, pos, aft, none⟩ :: r) A Q := by
  simp only [Prod.mk.injEq] at e
  refine b4m e.1 e.2.1 (of_decide_eq_true e.2.2.1) ?_ e.2.2.2.2 h
  have e4 := e.2.2.2.1
  cases v <;> exact e4
theorem y_L {a : Operand} {T id g m s i j : Nat} {es : List AV} {e0 v : AV} (e : (opd A a, Mv.look A (.h id), es[i]?, ((leaves e0).all fun l => !isOwn l), partF cx.P T ((leaves e0).drop j), slotOk keep (.t d) v) = (some (.ptr id g none i j), some (.obj g m s es), some e0, true, some v, true)) (h : XR cx keep ops0 r ((.t d, v) :: A) fun A' lg => Q A' ((rds a ++ [.h id], [.t d]) :: lg)) : XR cx keep ops0 (⟨some d, .load T a, ty, pos, aft, none⟩ :: r) A Q := by
  simp only [Prod.mk.injEq] at e
  exact a0i e.1 e.2.1 e.2.2.1 e.2.2.2.1 e.2.2.2.2.1 e.2.2.2.2.2 h
theorem y_E {x : Operand} {i : Nat} {vs : List AV} {v : AV} (e : (opd A x, vs[i]?, slotOk keep (.t d) v) = (some (.tup vs), some v, true)) (h : XR cx keep ops0 r ((.t d, v) :: A) fun A' lg => Q A' ((rds x, [.t d]) :: lg)) : XR cx keep ops0 (⟨some d, .extract x i, ty, pos, aft, none⟩ :: r) A Q := by
  simp only [Prod.mk.injEq] at e
  exact b9q e.1 e.2.1 e.2.2 h
theorem y_B {a : Operand} {T id g m s : Nat} {v : AV} (e : (opd A a, Mv.look A (.h id), ((leaves v).all fun l => !isOwn l), partF cx.P T (leaves v), slotOk keep (.t d) v) = (some (.ptr id g none 0 0), some (.obj g m s [v]), true, some v, true)) (h : XR cx keep ops0 r ((.t d, v) :: A) fun A' lg => Q A' ((rds a ++ [.h id], [.t d]) :: lg)) : XR cx keep ops0 (⟨some d, .load T a, ty, pos, aft, none⟩ :: r) A Q := by
  simp only [Prod.mk.injEq] at e
  exact b2z e.1 e.2.1 e.2.2.1 e.2.2.2.1 e.2.2.2.2 h
theorem y_I {a : Operand} {T : Nat} {v : AV} (e : (opd A a, partF cx.P T (leaves v), slotOk keep (.t d) v) = (some (.ipt v 0), some v, true)) (h : XR cx keep ops0 r ((.t d, v) :: A) fun A' lg => Q A' ((rds a, [.t d]) :: lg)) : XR cx keep ops0 (⟨some d, .load T a, ty, pos, aft, none⟩ :: r) A Q := by
  simp only [Prod.mk.injEq] at e
  exact b3m e.1 e.2.1 e.2.2 h
theorem y_A {T s : Nat} {z : AV} (e : (a3e cx.P T, H9 [z], slotOk keep (.t d) (.ptr d 0 none 0 0)) = (some (z, s), true, true)) (hk : ∀ g, slotOk keep (.t d) (.ptr d g none 0 0) = true)
    (h : ∀ g, XR cx keep ops0 r ((.t d, .ptr d g none 0 0) :: (.h d, .obj g 3 s [z]) :: A) fun A' lg => Q A' (([.h d], [.h d, .t d]) :: lg)) : XR cx keep ops0 (⟨some d, .alloc T, ty, pos, aft, none⟩ :: r) A Q := by
  simp only [Prod.mk.injEq] at e
  exact c4l e.1 (fun _ => C8 e.2.1) hk h
end
theorem SL : (∀ {α β : Type} {av : List α} (f : α → β), (av.map f).length = av.length) ∧ (((∀ {p : Prop} [Decidable p], (decide p = true) = p) ∧ (∀ {p : Prop} {_ : Decidable p}, decide p = false ↔ ¬p) ∧ (∀ (b : Bool), ((!b) = true) = (b = false)) ∧ (∀ (b : Bool), ((!b) = false) = (b = true)) ∧ (∀ {α : Type} [BEq α] [LawfulBEq α] {a b : α}, (a != b) = true ↔ a ≠ b) ∧
    (∀ {α : Type} [BEq α] [LawfulBEq α] {a b : α}, (a == b) = true ↔ a = b) ∧ (∀ {α : Type} (a b : α), (a ≠ b) = ¬a = b) ∧ (!true) = false ∧ (!false) = true ∧ (∀ {α : Type} [BEq α] [LawfulBEq α] {a b : α}, (a == b) = false ↔ a ≠ b) ∧ (∀ {α : Type} [BEq α] [LawfulBEq α] {a b : α}, (a != b) = false ↔ a = b) ∧
    (∀ {p : Prop} [Decidable p], ¬¬p ↔ p) ∧ (∀ {a b : Int}, ¬a < b ↔ b ≤ a) ∧ (∀ {a b : Int}, ¬a ≤ b ↔ b < a)) ∧
    (∀ (a b : Bool), ((a && b) = true) = (a = true ∧ b = true)) ∧ (∀ {x y : Bool}, (x && y) = false ↔ x = false ∨ y = false) ∧ (∀ (a b : Bool), ((a || b) = true) = (a = true ∨ b = true)) ∧ (∀ {x y : Bool}, (x || y) = false ↔ x = false ∧ y = false)) := ⟨@List.length_map.{0, 0}, SG⟩
theorem LN : (∀ {α : Type}, ([] : List α).length = 0) ∧ (∀ {α : Type} {a : α} {l : List α}, (a :: l).length = l.length + 1) ∧ (∀ {α : Type} {a b : List α}, (a ++ b).length = a.length + b.length) ∧ (∀ n : Nat, 0 + n = n) ∧ (∀ {α β : Type} {l : List α} (f : α → β), (l.map f).length = l.length) := ⟨rfl, rfl, List.length_append, Nat.zero_add, List.length_map.{0, 0}⟩
theorem dT {p : Prop} [Decidable p] (h : decide p = true) : p := of_decide_eq_true h

def mdT : List (Nat × List Nat) := [(29, [3, 3, 3, 3]), (30, [3, 3, 3, 3]), (45, [1]), (46, [2]), (49, [3, 3, 3, 3]), (50, [3, 3, 3, 3])]
noncomputable def c5e : List (Nat × (List AV → Option (AV × List (List AV)))) := [(45, X5 26)]
noncomputable def cxT : Cx := { P := Try.prog, md := c6q mdT, ext := b9c c5e, it := fun _ => none, fzB := fun T d => [].contains (T, d) }
noncomputable def cxE : Cx := { P := Try.prog, md := c6q mdT, ext := fun _ => none }
theorem c3z (xs : List Rat) (hl : xs.length ≤ M7) (hx : ∀ x ∈ xs, Sm 1000000000 x) : CW cxT 45 [.own 2 (xs.map qV), .clo 26 []] = some (.tup [], [(sortQ xs).map qV]) := c5y cxT rfl (b4n _ hl hx)

theorem a6k : C1 Try.f52 = [0, 1, 2, 6] := by kernel_rfl
theorem b0g (n lo hi : Int) : CW cxT 52 [iV n, iV lo, iV hi] = some (bV (decide (lo ≤ n) && decide (n ≤ hi)), []) := by
 refine B3 rfl Try.func52 rfl ⟨by kernel_rfl, rfl, dT rfl, dT rfl, by decide⟩ a6k <| A3 <| A0 <| y_S rfl <| xN [0,1,2] [] rfl <| A3 <| A0 <| y_M rfl <| y_M rfl <| b8u rfl rfl <| y_M rfl ?_
 refine F6 rfl rfl ?_ ?_ <;> intro hg0 <;> have hg := hg0 <;> try simp only [SG] at hg
 ·refine y_M rfl <| gT rfl rfl <| y_M rfl <| gT rfl rfl <| b8u rfl rfl <| L6 rfl (by assumption) rfl rfl <| y_S rfl <| xN [6] [] rfl <| B1 <| C3 rfl rfl trivial ?_
  simp_all [ofConst]; try omega
 refine gF rfl rfl <| gF rfl rfl <| I4 rfl (by assumption) rfl rfl <| y_S rfl <| xN [6] [] rfl <| B1 <| C3 rfl rfl trivial ?_
 simp_all [ofConst]; try omega

theorem b9h : C1 Try.f32 = [0, 1, 2, 6] := by kernel_rfl
theorem c6x (n lo hi : Int) : CW cxT 32 [iV n, iV lo, iV hi] = some (bV (decide (lo ≤ n) && decide (n ≤ hi)), []) := by
 refine B3 rfl Try.func32 rfl ⟨by kernel_rfl, rfl, dT rfl, dT rfl, by decide⟩ b9h <| A3 <| A0 <| y_S rfl <| xN [0,1,2] [] rfl <| A3 <| A0 <| y_M rfl <| y_M rfl <| c2e rfl rfl <| y_M rfl ?_
 refine F6 rfl rfl ?_ ?_ <;> intro hg0 <;> have hg := hg0 <;> try simp only [SG] at hg
 ·refine y_M rfl <| gT rfl rfl <| y_M rfl <| gT rfl rfl <| b8u rfl rfl <| L6 rfl (by assumption) rfl rfl <| y_S rfl <| xN [6] [] rfl <| B1 <| C3 rfl rfl trivial ?_
  simp_all [ofConst]; try omega
 refine gF rfl rfl <| gF rfl rfl <| I4 rfl (by assumption) rfl rfl <| y_S rfl <| xN [6] [] rfl <| B1 <| C3 rfl rfl trivial ?_
 simp_all [ofConst]; try omega

theorem a3n : C1 Try.f70 = [0, 1, 4, 8, 7, 9, 5, 16] := by kernel_rfl
theorem b1k (xs : List Int) (hl : xs.length ≤ 1000) (k : Nat) (a b : AV) (q : Int → Bool) (hq : ∀ x, CW cxT k [iV x, .ipt a 0, .ipt b 0] = some (bV (q x), [])) : ∃ res outs, (fun res outs => ∃ r : Int, res = iV r ∧ outs = [] ∧ decide (0 ≤ r) = xs.any q) res outs ∧ CW cxT 70 [L xs, .clo k [.ipt a 0, .ipt b 0]] = some (res, outs) := by
 refine a4k rfl Try.func70 rfl ⟨by kernel_rfl, rfl, dT rfl, dT rfl, by decide⟩ a3n <| A3 <| A0 <| y_S rfl <| xN [0,1] [] rfl <| A3 <| A3 <| A0 <| y_M rfl <| C7 rfl rfl <| y_M rfl <| xN [0,1,7,8] [] rfl <| B8 <| G4 (β := Nat) [(.t 0, _), (.t 1, _), (.t 7, _)] (fun (i : Nat) => [(.t 8, iV i)]) (fun (i : Nat) => i ≤ xs.length ∧ ∀ j, j < i → q (xs.getD j default) = false) (fun (i : Nat) => xs.length - i) 0 ⟨rfl, rfl, rfl, rfl, trivial⟩ ⟨Nat.zero_le _, fun j h => by omega⟩ ?_
 intro i hb
 obtain ⟨hi1, hi2⟩ := hb
 refine A3 <| A0 <| J3 rfl rfl <| xN [0,1,7,8,9] [] rfl <| A3 ?_
 refine B5 rfl ?_ ?_ <;> intro hc <;> try simp only [SL] at hc
 ·refine B6 <| A3 <| B8 <| A3 <| A0 <| y_M rfl <| y_S rfl <| xN [0,1,5,7,8] [] rfl <| A3 <| A0 <| y_M rfl <| y_M rfl <| y_M rfl <| A5 rfl rfl rfl (fun _ => rfl) (by omega) <| y_I rfl ?_
  apply b1h rfl rfl
  ·apply A9
   ·exact B9 rfl
   apply A9
   ·exact B9 rfl
   apply A9
   ·exact B9 rfl
   exact F8
  ·exact hq (xs.getD i default)
  ·exact ⟨rfl, rfl, rfl, dT rfl, rfl⟩
  ·exact .inl rfl
  ·exact D5
  ·exact E3 rfl
  ·exact fun _ => rfl
  intro g16
  refine xN [0,1,5,7,8,16] [] rfl ?_
  refine B5 rfl ?_ ?_ <;> intro hc <;> try simp only [SL] at hc
  ·refine A3 <| A0 <| y_M rfl <| y_S rfl <| xN [4] [] rfl <| B1 ?_
   refine ⟨_, _, ?_, a3t rfl rfl D6⟩
   exact ⟨_, rfl, rfl, c3v (by omega) hc⟩
  refine B6 <| A0 <| J1 rfl rfl (C0 (by omega)) <| y_M rfl <| xN [0,1,7,8] [] rfl ?_
  refine ⟨i + 1, ⟨by omega, fun a ha => by rcases Nat.lt_succ_iff_lt_or_eq.1 ha with h | h; exact hi2 a h; subst h; exact hc⟩, (by omega), ⟨rfl, rfl, rfl, rfl, trivial⟩⟩
 refine G6 <| A3 <| A0 <| y_S rfl <| xN [4] [] rfl <| B1 ?_
 refine ⟨_, _, ?_, a3t rfl rfl D6⟩
 exact ⟨-1, rfl, rfl, c2m fun j hj => hi2 j (by omega)⟩

theorem a0v : C1 Try.f58 = [0, 1, 4] := by kernel_rfl
theorem a5q (xs : List Int) (hl : xs.length ≤ 1000) (k : Nat) (a b : AV) (q : Int → Bool) (hq : ∀ x, CW cxT k [iV x, .ipt a 0, .ipt b 0] = some (bV (q x), [])) : CW cxT 58 [L xs, .clo k [.ipt a 0, .ipt b 0]] = some (bV (xs.any q), []) := by
 obtain ⟨_, _, ⟨r, rfl, rfl, hr⟩, hC⟩ := b1k xs hl k a b q hq
 refine B3 rfl Try.func58 rfl ⟨by kernel_rfl, rfl, dT rfl, dT rfl, by decide⟩ a0v <| A3 <| A0 <| y_S rfl <| xN [0,1] [] rfl <| A3 <| A0 <| y_M rfl <| y_M rfl ?_
 apply xC rfl
 ·apply A9
  ·exact B9 rfl
  apply A9
  ·exact a4c rfl (c1p (c1p a4s))
  exact F8
 ·exact hC
 refine ⟨⟨rfl, rfl, rfl, dT rfl, rfl⟩, .inl rfl, D5, E3 rfl, fun _ => rfl, fun g7 => ?_⟩
 refine c2e rfl rfl <| y_S rfl <| xN [4] [] rfl <| B1 <| C3 rfl rfl trivial ?_
 rw [← hr]

theorem a8t : C1 Try.f59 = [0, 1, 2, 4] := by kernel_rfl
theorem c2r (x lo hi : Int) : CW cxT 59 [iV x, .ipt (iV lo) 0, .ipt (iV hi) 0] = some (bV (!(decide (lo ≤ x) && decide (x ≤ hi))), []) := by
 refine B3 rfl Try.func59 rfl ⟨by kernel_rfl, rfl, dT rfl, dT rfl, by decide⟩ a8t <| A3 <| A0 <| y_S rfl <| xN [0,1,2] [] rfl <| A3 <| A0 <| y_M rfl <| y_I rfl <| y_I rfl ?_
 refine xC3 rfl rfl rfl rfl (c6x _ _ _) ⟨rfl, rfl, rfl⟩ rfl rfl fun g8 => ?_
 refine a3f rfl <| y_S rfl <| xN [4] [] rfl <| B1 <| C3 rfl rfl trivial ?_
 rfl

theorem b2f : C1 Try.f55 = [0, 1, 2, 6, 4, 5] := by kernel_rfl
theorem b9b (xs : List Int) (hl : xs.length ≤ 1000) (lo hi : Int) : CW cxT 55 [L xs, iV lo, iV hi] = some (bV (J5 lo hi xs), []) := by
 refine B3 rfl Try.func55 rfl ⟨by kernel_rfl, rfl, dT rfl, dT rfl, by decide⟩ b2f <| A3 <| A0 <| H7 rfl rfl rfl (fun _ => C8 rfl) (fun _ => rfl) ?_
 intro g4
 refine H7 rfl rfl rfl (fun _ => C8 rfl) (fun _ => rfl) ?_
 intro g5
 refine y_S rfl <| xN [0,4,5] [4,5] rfl <| A3 <| A0 <| y_M rfl <| b6m rfl rfl ?_
 apply xC rfl
 ·apply A9
  ·exact B9 rfl
  apply A9
  ·exact a4c rfl (c3n rfl rfl (c3n rfl rfl a4s))
  exact F8
 ·exact a5q xs hl 59 (iV lo) (iV hi) _ (fun x => c2r x lo hi)
 refine ⟨⟨rfl, rfl, rfl, dT rfl, rfl⟩, .inr ⟨rfl, rfl⟩, D5, E3 rfl, fun _ => rfl, fun g9 => ?_⟩
 refine a3f rfl <| y_S rfl <| xN [6] [] rfl <| B1 <| C3 rfl rfl trivial ?_
 exact congrArg bV (c2a lo hi xs)

theorem b3p : C1 Try.f53 = [0, 1, 4, 7, 5] := by kernel_rfl
theorem c1h (a b : Int) (ha : -4611686018427387904 ≤ a ∧ a ≤ 4611686018427387904) (hb : -4611686018427387904 ≤ b ∧ b ≤ 4611686018427387904) : CW cxT 53 [iV a, iV b] = some (iV (Int.gcd a b : Int), []) := by
 refine B3 rfl Try.func53 rfl ⟨by kernel_rfl, rfl, dT rfl, dT rfl, by decide⟩ b3p <| A3 <| A0 <| y_S rfl <| xN [0,1] [] rfl <| A3 <| B8 <| a5y (β := Int × Int) (fun (z : Int × Int) => match z with | (x, y) => [(.t 0, iV x), (.t 1, iV y)]) (fun (z : Int × Int) => match z with | (x, y) => Int.gcd x y = Int.gcd a b ∧ (-4611686018427387904 ≤ x ∧ x ≤ 4611686018427387904) ∧ (-4611686018427387904 ≤ y ∧ y ≤ 4611686018427387904)) (fun (z : Int × Int) => match z with | (x, y) => y.natAbs) (a, b) ⟨rfl, rfl, trivial⟩ ⟨rfl, ha, hb⟩ ?_
 intro z hb
 obtain ⟨x, y⟩ := z
 try dsimp only at hb
 obtain ⟨hg, hx, hy⟩ := hb
 refine A3 <| A3 <| A0 <| y_M rfl <| a1z rfl rfl <| xN [0,1,7] [] rfl ?_
 refine B5 rfl ?_ ?_ <;> intro hc <;> try simp only [SL] at hc
 ·refine B6 <| B8 <| A3 <| A0 <| y_M rfl <| y_M rfl <| c3i rfl rfl (by omega) <| y_S rfl <| xN [1,5] [] rfl <| A3 <| A0 <| y_M rfl <| y_S rfl <| xN [0,5] [] rfl <| A0 <| y_M rfl <| y_S rfl <| xN [0,1] [] rfl ?_
  refine ⟨(y, x.tmod y), ⟨by rw [a7g]; exact hg, hy, by have := b0x x y; omega⟩, (by have := b0t x hc; simp only; omega), ⟨rfl, rfl, trivial⟩⟩
 refine G6 <| A3 <| A0 <| y_M rfl <| y_M rfl <| a3c rfl (C0 (by omega)) <| b0m rfl rfl <| y_S rfl <| xN [4] [] rfl <| B1 <| C3 rfl rfl trivial ?_
 subst hc
 rw [b2r, hg]

theorem a0r : C1 Try.f51 = [0, 1, 4, 6] := by kernel_rfl
theorem a7m (a b : Int) (ha : -4611686018427387904 ≤ a ∧ a ≤ 4611686018427387904) (hb : -4611686018427387904 ≤ b ∧ b ≤ 4611686018427387904) : CW cxT 51 [iV a, iV b] = some (iV (Int.gcd a b : Int), []) := by
 refine B3 rfl Try.func51 rfl ⟨by kernel_rfl, rfl, dT rfl, dT rfl, by decide⟩ a0r <| A3 <| A0 <| y_S rfl <| xN [0,1] [] rfl <| A3 <| B8 <| a5y (β := Int × Int) (fun (z : Int × Int) => match z with | (x, y) => [(.t 0, iV x), (.t 1, iV y)]) (fun (z : Int × Int) => match z with | (x, y) => Int.gcd x y = Int.gcd a b ∧ (-4611686018427387904 ≤ x ∧ x ≤ 4611686018427387904) ∧ (-4611686018427387904 ≤ y ∧ y ≤ 4611686018427387904)) (fun (z : Int × Int) => match z with | (x, y) => y.natAbs) (a, b) ⟨rfl, rfl, trivial⟩ ⟨rfl, ha, hb⟩ ?_
 intro z hb
 obtain ⟨x, y⟩ := z
 try dsimp only at hb
 obtain ⟨hg, hx, hy⟩ := hb
 refine A3 <| A3 <| A0 <| y_M rfl <| a1z rfl rfl <| xN [0,1,6] [] rfl ?_
 refine B5 rfl ?_ ?_ <;> intro hc <;> try simp only [SL] at hc
 ·refine B6 <| B8 <| A0 <| y_M rfl <| y_M rfl <| y_M rfl <| c3i rfl rfl (by omega) <| y_S rfl <| y_S rfl ?_
  refine H1 ⟨fun _ => ⟨by decide +kernel, by decide +kernel⟩, [(.t 0, _), (.t 1, _)], ⟨rfl, rfl, rfl, rfl, trivial⟩, ?_⟩
  refine ⟨(y, x.tmod y), ⟨by rw [a7g]; exact hg, hy, by have := b0x x y; omega⟩, (by have := b0t x hc; simp only; omega), ⟨rfl, rfl, trivial⟩⟩
 refine G6 <| A3 <| A0 <| y_M rfl <| y_M rfl <| a3c rfl (C0 (by omega)) <| b0m rfl rfl <| y_S rfl <| xN [4] [] rfl <| B1 <| C3 rfl rfl trivial ?_
 subst hc
 rw [b2r, hg]

theorem b2w : C1 Try.f38 = [0, 1, 4, 7, 5] := by kernel_rfl
theorem T8 (u d : Int) (hu : -4611686018427387904 ≤ u ∧ u ≤ 4611686018427387904) (hd : -4611686018427387904 ≤ d ∧ d ≤ 4611686018427387904) (h0 : d ≠ 0) : CW cxT 38 [iV u, iV d] = some (qV (Rat.divInt u d), []) := by
 refine B3 rfl Try.func38 rfl ⟨by kernel_rfl, rfl, dT rfl, dT rfl, by decide⟩ b2w <| A3 <| A0 <| y_A rfl (fun _ => rfl) ?_
 intro g4
 refine xN [0,1,4] [4] rfl <| A3 <| A3 <| A0 <| y_M rfl <| J3 rfl rfl <| xN [0,1,4,7] [4] rfl ?_
 refine B5 rfl ?_ ?_ <;> intro hc <;> try simp only [SL] at hc
 ·refine A3 <| A0 <| y_M rfl <| a3c rfl (C0 (by omega)) <| y_S rfl <| xN [0,1,4] [4] rfl <| A0 <| y_M rfl <| a3c rfl (C0 (by omega)) <| y_S rfl <| xN [0,1,4] [4] rfl <| A3 <| A0 <| y_M rfl <| y_M rfl ?_
  refine xC2 rfl rfl rfl ((by exact c1h (-u) (-d) (by omega) (by omega))) ⟨rfl, rfl, rfl⟩ rfl rfl fun g14 => ?_
  refine y_S rfl <| xN [0,1,4,5] [4] rfl <| A3 <| A0 <| y_M rfl <| y_M rfl ?_
  (have hf := Y3 (u := -u) (d := -d) (by omega); have hbd := a8g (u := -u) (d := -d) (by omega); have hgp := S7 (u := -u) (d := -d) (by omega))
  refine P6 rfl rfl ⟨by omega, C0 (by rw [← hf.1]; omega)⟩ <| y_M rfl <| y_M rfl <| P6 rfl rfl ⟨by omega, C0 (by rw [← hf.2]; omega)⟩ <| M0 (fs := [_, _]) rfl rfl rfl rfl rfl <| xB rfl rfl rfl rfl rfl rfl rfl rfl rfl ?_
  refine H1 ⟨fun _ => ⟨by decide +kernel, by decide +kernel⟩, [(.t 4, _), (.h 4, _)], ⟨rfl, rfl, rfl, rfl, trivial⟩, ?_⟩
  refine B1 <| E9 (F0 rfl rfl rfl rfl rfl (G7 D6)) ?_
  rw [← hf.1, ← hf.2]
  (rw [Rat.neg_divInt_neg]; rfl)
 refine B6 <| A3 <| A0 <| y_M rfl <| y_M rfl ?_
 refine xC2 rfl rfl rfl (by exact c1h u d hu hd) ⟨rfl, rfl, rfl⟩ rfl rfl fun g14 => ?_
 refine y_S rfl <| xN [0,1,4,5] [4] rfl <| A3 <| A0 <| y_M rfl <| y_M rfl ?_
 (have hf := Y3 (u := u) (d := d) (by omega); have hbd := a8g (u := u) (d := d) (by omega); have hgp := S7 (u := u) (d := d) (by omega))
 refine P6 rfl rfl ⟨by omega, C0 (by rw [← hf.1]; omega)⟩ <| y_M rfl <| y_M rfl <| P6 rfl rfl ⟨by omega, C0 (by rw [← hf.2]; omega)⟩ <| M0 (fs := [_, _]) rfl rfl rfl rfl rfl <| xB rfl rfl rfl rfl rfl rfl rfl rfl rfl ?_
 refine H1 ⟨fun _ => ⟨by decide +kernel, by decide +kernel⟩, [(.t 4, _), (.h 4, _)], ⟨rfl, rfl, rfl, rfl, trivial⟩, ?_⟩
 refine B1 <| E9 (F0 rfl rfl rfl rfl rfl (G7 D6)) ?_
 rw [← hf.1, ← hf.2]
 rfl

theorem Y2 : C1 Try.f47 = [0, 1, 4, 10, 5] := by kernel_rfl
theorem a1n (u d : Int) (hu : -4611686018427387904 ≤ u ∧ u ≤ 4611686018427387904) (hd : -4611686018427387904 ≤ d ∧ d ≤ 4611686018427387904) (h0 : d ≠ 0) : CW cxT 47 [iV u, iV d] = some (qV (Rat.divInt u d), []) := by
 have hbd := a8g (u := u) h0
 have hgp := S7 (u := u) h0
 have hgl := a6b (u := u) h0
 refine B3 rfl Try.func47 rfl ⟨by kernel_rfl, rfl, dT rfl, dT rfl, by decide⟩ Y2 <| A3 <| A0 <| y_A rfl (fun _ => rfl) ?_
 intro g4
 refine xN [0,1,4] [4] rfl <| A3 <| A0 <| y_M rfl <| y_M rfl ?_
 refine xC2 rfl rfl rfl (a7m u d hu hd) ⟨rfl, rfl, rfl⟩ rfl rfl fun g8 => ?_
 refine y_S rfl <| xN [0,1,4,5] [4] rfl <| A3 <| A3 <| A0 <| y_M rfl <| J3 rfl rfl <| xN [0,1,4,5,10] [4] rfl ?_
 refine B5 rfl ?_ ?_ <;> intro hc <;> try simp only [SL] at hc
 ·refine A0 <| y_M rfl <| a3c rfl (C0 (by omega)) <| y_S rfl <| xN [0,1,4,5] [4] rfl <| A3 <| A0 <| y_M rfl <| y_M rfl ?_
  (have hf := c2d (u := u) (d := d) (by omega))
  refine P6 rfl rfl ⟨by omega, C0 (by rw [← hf.1]; omega)⟩ <| y_M rfl <| y_M rfl <| P6 rfl rfl ⟨by omega, C0 (by rw [← hf.2]; omega)⟩ <| M0 (fs := [_, _]) rfl rfl rfl rfl rfl <| xB rfl rfl rfl rfl rfl rfl rfl rfl rfl ?_
  refine H1 ⟨fun _ => ⟨by decide +kernel, by decide +kernel⟩, [(.t 4, _), (.h 4, _)], ⟨rfl, rfl, rfl, rfl, trivial⟩, ?_⟩
  refine B1 <| E9 (F0 rfl rfl rfl rfl rfl (G7 D6)) ?_
  rw [← hf.1, ← hf.2]
  rfl
 refine B6 <| A3 <| A0 <| y_M rfl <| y_M rfl ?_
 (have hf := Y3 (u := u) (d := d) (by omega))
 refine P6 rfl rfl ⟨by omega, C0 (by rw [← hf.1]; omega)⟩ <| y_M rfl <| y_M rfl <| P6 rfl rfl ⟨by omega, C0 (by rw [← hf.2]; omega)⟩ <| M0 (fs := [_, _]) rfl rfl rfl rfl rfl <| xB rfl rfl rfl rfl rfl rfl rfl rfl rfl ?_
 refine H1 ⟨fun _ => ⟨by decide +kernel, by decide +kernel⟩, [(.t 4, _), (.h 4, _)], ⟨rfl, rfl, rfl, rfl, trivial⟩, ?_⟩
 refine B1 <| E9 (F0 rfl rfl rfl rfl rfl (G7 D6)) ?_
 rw [← hf.1, ← hf.2]
 rfl

theorem b1b : C1 Try.f54 = [0, 1, 4, 3, 2, 21] := by kernel_rfl
theorem c3y (p q : Rat) (hp : Sm 1000000000 p) (hq : Sm 1000000000 q) : CW cxT 54 [qV p, qV q] = some (qV (p + q), []) := by
 obtain ⟨p1, p2, p3⟩ := hp
 obtain ⟨q1, q2, q3⟩ := hq
 have dp := D7 p
 have dq := D7 q
 have m1 := J4 (x := p.num) (y := (q.den : Int)) ⟨p1, p2⟩ ⟨by omega, q3⟩
 have m2 := J4 (x := q.num) (y := (p.den : Int)) ⟨q1, q2⟩ ⟨by omega, p3⟩
 have m3 := J4 (x := (p.den : Int)) (y := (q.den : Int)) ⟨by omega, p3⟩ ⟨by omega, q3⟩
 have m4 := J4 (x := p.num) (y := q.num) ⟨p1, p2⟩ ⟨q1, q2⟩
 have dn := I6 p q
 refine B3 rfl Try.func54 rfl ⟨by kernel_rfl, rfl, dT rfl, dT rfl, by decide⟩ b1b <| A3 <| A0 <| H7 rfl rfl rfl (fun _ => C8 rfl) (fun _ => rfl) ?_
 intro g2
 refine H7 rfl rfl rfl (fun _ => C8 rfl) (fun _ => rfl) ?_
 intro g3
 refine y_A rfl (fun _ => rfl) ?_
 intro g4
 refine xN [2,3,4] [2,3,4] rfl <| A3 <| A0 <| y_F rfl <| y_L rfl <| y_F rfl <| y_L rfl <| P7 rfl rfl (C0 (by omega)) <| y_F rfl <| y_L rfl <| y_F rfl <| y_L rfl <| P7 rfl rfl (C0 (by omega)) <| J1 rfl rfl (C0 (by omega)) <| y_F rfl <| y_L rfl <| y_F rfl <| y_L rfl <| P7 rfl rfl (C0 (by omega)) ?_
 refine xC2 rfl rfl rfl (T8 (p.num * q.den + q.num * p.den) ((p.den : Int) * q.den) (by omega) (by omega) dn) ⟨rfl, rfl, rfl⟩ rfl rfl fun g21 => ?_
 refine xB rfl rfl rfl rfl rfl rfl rfl rfl rfl <| xN [4] [4] rfl <| B1 <| E9 (F0 rfl rfl rfl rfl rfl (G7 D6)) ?_
 rw [← b6n]
 rfl

theorem a8y : C1 Try.f41 = [0, 1, 4, 3, 2, 21] := by kernel_rfl
theorem b3y (p q : Rat) (hp : Sm 1000000000 p) (hq : Sm 1000000000 q) : CW cxT 41 [qV p, qV q] = some (qV (p - q), []) := by
 obtain ⟨p1, p2, p3⟩ := hp
 obtain ⟨q1, q2, q3⟩ := hq
 have dp := D7 p
 have dq := D7 q
 have m1 := J4 (x := p.num) (y := (q.den : Int)) ⟨p1, p2⟩ ⟨by omega, q3⟩
 have m2 := J4 (x := q.num) (y := (p.den : Int)) ⟨q1, q2⟩ ⟨by omega, p3⟩
 have m3 := J4 (x := (p.den : Int)) (y := (q.den : Int)) ⟨by omega, p3⟩ ⟨by omega, q3⟩
 have m4 := J4 (x := p.num) (y := q.num) ⟨p1, p2⟩ ⟨q1, q2⟩
 have dn := I6 p q
 refine B3 rfl Try.func41 rfl ⟨by kernel_rfl, rfl, dT rfl, dT rfl, by decide⟩ a8y <| A3 <| A0 <| H7 rfl rfl rfl (fun _ => C8 rfl) (fun _ => rfl) ?_
 intro g2
 refine H7 rfl rfl rfl (fun _ => C8 rfl) (fun _ => rfl) ?_
 intro g3
 refine y_A rfl (fun _ => rfl) ?_
 intro g4
 refine xN [2,3,4] [2,3,4] rfl <| A3 <| A0 <| y_F rfl <| y_L rfl <| y_F rfl <| y_L rfl <| P7 rfl rfl (C0 (by omega)) <| y_F rfl <| y_L rfl <| y_F rfl <| y_L rfl <| P7 rfl rfl (C0 (by omega)) <| b4y rfl rfl (C0 (by omega)) <| y_F rfl <| y_L rfl <| y_F rfl <| y_L rfl <| P7 rfl rfl (C0 (by omega)) ?_
 refine xC2 rfl rfl rfl (T8 (p.num * q.den - q.num * p.den) ((p.den : Int) * q.den) (by omega) (by omega) dn) ⟨rfl, rfl, rfl⟩ rfl rfl fun g21 => ?_
 refine xB rfl rfl rfl rfl rfl rfl rfl rfl rfl <| xN [4] [4] rfl <| B1 <| E9 (F0 rfl rfl rfl rfl rfl (G7 D6)) ?_
 rw [← c5t]
 rfl

theorem a9l : C1 Try.f40 = [0, 1, 4, 3, 2, 15] := by kernel_rfl
theorem b4l (p q : Rat) (hp : Sm 1000000000 p) (hq : Sm 1000000000 q) : CW cxT 40 [qV p, qV q] = some (qV (p * q), []) := by
 obtain ⟨p1, p2, p3⟩ := hp
 obtain ⟨q1, q2, q3⟩ := hq
 have dp := D7 p
 have dq := D7 q
 have m1 := J4 (x := p.num) (y := (q.den : Int)) ⟨p1, p2⟩ ⟨by omega, q3⟩
 have m2 := J4 (x := q.num) (y := (p.den : Int)) ⟨q1, q2⟩ ⟨by omega, p3⟩
 have m3 := J4 (x := (p.den : Int)) (y := (q.den : Int)) ⟨by omega, p3⟩ ⟨by omega, q3⟩
 have m4 := J4 (x := p.num) (y := q.num) ⟨p1, p2⟩ ⟨q1, q2⟩
 have dn := I6 p q
 refine B3 rfl Try.func40 rfl ⟨by kernel_rfl, rfl, dT rfl, dT rfl, by decide⟩ a9l <| A3 <| A0 <| H7 rfl rfl rfl (fun _ => C8 rfl) (fun _ => rfl) ?_
 intro g2
 refine H7 rfl rfl rfl (fun _ => C8 rfl) (fun _ => rfl) ?_
 intro g3
 refine y_A rfl (fun _ => rfl) ?_
 intro g4
 refine xN [2,3,4] [2,3,4] rfl <| A3 <| A0 <| y_F rfl <| y_L rfl <| y_F rfl <| y_L rfl <| P7 rfl rfl (C0 (by omega)) <| y_F rfl <| y_L rfl <| y_F rfl <| y_L rfl <| P7 rfl rfl (C0 (by omega)) ?_
 refine xC2 rfl rfl rfl (T8 (p.num * q.num) ((p.den : Int) * q.den) (by omega) (by omega) dn) ⟨rfl, rfl, rfl⟩ rfl rfl fun g15 => ?_
 refine xB rfl rfl rfl rfl rfl rfl rfl rfl rfl <| xN [4] [4] rfl <| B1 <| E9 (F0 rfl rfl rfl rfl rfl (G7 D6)) ?_
 rw [← b0w]
 rfl

theorem b2k : C1 Try.f19 = [0, 1, 4, 2, 3] := by kernel_rfl
theorem a6f (p q : Rat) (hp : Sm 1000000000 p) (hq : Sm 1000000000 q) : CW cxT 19 [qV p, qV q] = some (bV (decide (p < q)), []) := by
 obtain ⟨p1, p2, p3⟩ := hp
 obtain ⟨q1, q2, q3⟩ := hq
 have dp := D7 p
 have dq := D7 q
 have m1 := J4 (x := p.num) (y := (q.den : Int)) ⟨p1, p2⟩ ⟨by omega, q3⟩
 have m2 := J4 (x := q.num) (y := (p.den : Int)) ⟨q1, q2⟩ ⟨by omega, p3⟩
 have m3 := J4 (x := (p.den : Int)) (y := (q.den : Int)) ⟨by omega, p3⟩ ⟨by omega, q3⟩
 have m4 := J4 (x := p.num) (y := q.num) ⟨p1, p2⟩ ⟨q1, q2⟩
 have dn := I6 p q
 refine B3 rfl Try.func19 rfl ⟨by kernel_rfl, rfl, dT rfl, dT rfl, by decide⟩ b2k <| A3 <| A0 <| H7 rfl rfl rfl (fun _ => C8 rfl) (fun _ => rfl) ?_
 intro g2
 refine H7 rfl rfl rfl (fun _ => C8 rfl) (fun _ => rfl) ?_
 intro g3
 refine y_S rfl <| xN [2,3] [2,3] rfl <| A3 <| A0 <| y_F rfl <| y_L rfl <| y_F rfl <| y_L rfl <| P7 rfl rfl (C0 (by omega)) <| y_F rfl <| y_L rfl <| y_F rfl <| y_L rfl <| P7 rfl rfl (C0 (by omega)) <| J3 rfl rfl <| y_S rfl <| xN [4] [] rfl <| B1 <| C3 rfl rfl trivial ?_
 exact congrArg bV (decide_eq_decide.2 (Rat.lt_iff p q).symm)

theorem Z9 : C1 Try.f33 = [0, 1, 4, 3, 2, 5, 33] := by kernel_rfl
theorem b1i (p q : Rat) (hp : Sm 1000000000 p) (hq : Sm 1000000000 q) : CW cxT 33 [qV p, qV q] = some (qV (p + q), []) := by
 obtain ⟨p1, p2, p3⟩ := hp
 obtain ⟨q1, q2, q3⟩ := hq
 have dp := D7 p
 have dq := D7 q
 have m1 := J4 (x := p.num) (y := (q.den : Int)) ⟨p1, p2⟩ ⟨by omega, q3⟩
 have m2 := J4 (x := q.num) (y := (p.den : Int)) ⟨q1, q2⟩ ⟨by omega, p3⟩
 have m3 := J4 (x := (p.den : Int)) (y := (q.den : Int)) ⟨by omega, p3⟩ ⟨by omega, q3⟩
 have m4 := J4 (x := p.num) (y := q.num) ⟨p1, p2⟩ ⟨q1, q2⟩
 have dn := I6 p q
 have hgp := S7 (u := (p.den : Int)) (d := (q.den : Int)) (by omega)
 have hgl := a6b (u := (p.den : Int)) (d := (q.den : Int)) (by omega)
 have t1 := a6d (a := (q.den : Int)) (b := (Int.gcd p.den q.den : Int)) (by omega) (by omega)
 have t2 := a6d (a := (p.den : Int)) (b := (Int.gcd p.den q.den : Int)) (by omega) (by omega)
 have n1 := J4 (x := p.num) (y := (q.den : Int).tdiv (Int.gcd p.den q.den : Int)) (a := 1000000000) (b := 1000000000) ⟨p1, p2⟩ ⟨by omega, by omega⟩
 have n2 := J4 (x := q.num) (y := (p.den : Int).tdiv (Int.gcd p.den q.den : Int)) (a := 1000000000) (b := 1000000000) ⟨q1, q2⟩ ⟨by omega, by omega⟩
 have n3 := J4 (x := (p.den : Int).tdiv (Int.gcd p.den q.den : Int)) (y := (q.den : Int)) (a := 1000000000) (b := 1000000000) ⟨by omega, by omega⟩ ⟨by omega, q3⟩
 have dn2 := a9x p q
 refine B3 rfl Try.func33 rfl ⟨by kernel_rfl, rfl, dT rfl, dT rfl, by decide⟩ Z9 <| A3 <| A0 <| H7 rfl rfl rfl (fun _ => C8 rfl) (fun _ => rfl) ?_
 intro g2
 refine H7 rfl rfl rfl (fun _ => C8 rfl) (fun _ => rfl) ?_
 intro g3
 refine y_A rfl (fun _ => rfl) ?_
 intro g4
 refine xN [2,3,4] [2,3,4] rfl <| A3 <| A0 <| y_F rfl <| y_L rfl <| y_F rfl <| y_L rfl ?_
 refine xC2 rfl rfl rfl (a7m (p.den : Int) (q.den : Int) (by omega) (by omega)) ⟨rfl, rfl, rfl⟩ rfl rfl fun g10 => ?_
 refine y_S rfl <| xN [2,3,4,5] [2,3,4] rfl <| A3 <| A0 <| y_F rfl <| y_L rfl <| y_F rfl <| y_L rfl <| y_M rfl <| P6 rfl rfl ⟨by omega, C0 (by omega)⟩ <| P7 rfl rfl (C0 (by omega)) <| y_F rfl <| y_L rfl <| y_F rfl <| y_L rfl <| y_M rfl <| P6 rfl rfl ⟨by omega, C0 (by omega)⟩ <| P7 rfl rfl (C0 (by omega)) <| J1 rfl rfl (C0 (by omega)) <| y_F rfl <| y_L rfl <| y_M rfl <| P6 rfl rfl ⟨by omega, C0 (by omega)⟩ <| y_F rfl <| y_L rfl <| P7 rfl rfl (C0 (by omega)) ?_
 refine xC2 rfl rfl rfl (a1n _ _ (by omega) (by omega) dn2) ⟨rfl, rfl, rfl⟩ rfl rfl fun g33 => ?_
 refine xB rfl rfl rfl rfl rfl rfl rfl rfl rfl ?_
 refine H1 ⟨fun _ => ⟨by (simp only [U8, List.nil_append, List.append_nil, List.map_cons, List.map_nil, List.cons_append]; decide +kernel), by decide +kernel⟩, [(.t 4, _), (.h 4, _)], ⟨rfl, rfl, rfl, rfl, trivial⟩, ?_⟩
 refine B1 <| E9 (F0 rfl rfl rfl rfl rfl (G7 D6)) ?_
 rw [← b8r]
 rfl

theorem a1a : C1 Try.f48 = [0, 2] := by kernel_rfl
theorem b7x (n : Int) : CW cxT 48 [iV n] = some (iV (max (-1) (min 1 n)), []) := by
 refine B3 rfl Try.func48 rfl ⟨by kernel_rfl, rfl, dT rfl, dT rfl, by decide⟩ a1a <| A3 <| A0 <| y_S rfl <| xN [0] [] rfl <| A3 <| A0 <| y_M rfl <| c2t rfl rfl <| b0m rfl rfl <| y_S rfl <| xN [2] [] rfl <| B1 <| C3 rfl rfl trivial ?_
 rfl

theorem b2o : C1 Try.f22 = [0, 2] := by kernel_rfl
theorem b8o (n : Int) : CW cxT 22 [iV n] = some (qV (n : Rat), []) := by
 refine B3 rfl Try.func22 rfl ⟨by kernel_rfl, rfl, dT rfl, dT rfl, by decide⟩ b2o <| A3 <| A0 <| y_A rfl (fun _ => rfl) ?_
 intro g2
 refine xN [0,2] [2] rfl <| A3 <| A0 <| y_M rfl <| M0 (fs := [_, _]) rfl rfl rfl rfl rfl <| xB rfl rfl rfl rfl rfl rfl rfl rfl rfl <| xN [2] [2] rfl <| B1 <| E9 (F0 rfl rfl rfl rfl rfl (G7 D6)) ?_
 rfl

theorem V7 : C1 Try.f23 = [0, 1, 4, 3, 2, 12] := by kernel_rfl
theorem a0q (p q : Rat) (hp : Sm 1000000000 p) (hq : Sm 1000000000 q) : CW cxT 23 [qV p, qV q] = some (qV (p - q), []) := by
 obtain ⟨q1, q2, q3⟩ := id hq
 refine B3 rfl Try.func23 rfl ⟨by kernel_rfl, rfl, dT rfl, dT rfl, by decide⟩ V7 <| A3 <| A0 <| H7 rfl rfl rfl (fun _ => C8 rfl) (fun _ => rfl) ?_
 intro g2
 refine H7 rfl rfl rfl (fun _ => C8 rfl) (fun _ => rfl) ?_
 intro g3
 refine y_A rfl (fun _ => rfl) ?_
 intro g4
 refine xN [2,3,4] [2,3,4] rfl <| A3 <| A0 <| y_B rfl <| y_F rfl <| y_L rfl <| a3c rfl (C0 (by omega)) <| y_F rfl <| y_L rfl <| M0 (fs := [_, _]) rfl rfl rfl rfl rfl ?_
 refine xC2 rfl rfl rfl (b1i p (-q) hp (show Sm 1000000000 (-q) from ⟨by rw [(Y0 q).1]; omega, by rw [(Y0 q).1]; omega, q3⟩)) ⟨rfl, rfl, rfl⟩ rfl rfl fun g12 => ?_
 refine xB rfl rfl rfl rfl rfl rfl rfl rfl rfl <| xN [4] [4] rfl <| B1 <| E9 (F0 rfl rfl rfl rfl rfl (G7 D6)) ?_
 rw [Rat.sub_eq_add_neg]
 rfl

theorem U6 : C1 Try.f26 = [0, 1, 4, 3, 2] := by kernel_rfl
theorem s_compare (p q : Rat) (hp : Sm 1000000000 p) (hq : Sm 1000000000 q) : CW cxT 26 [qV p, qV q] = some (iV (max (-1) (min 1 (p - q).num)), []) := by
 refine B3 rfl Try.func26 rfl ⟨by kernel_rfl, rfl, dT rfl, dT rfl, by decide⟩ U6 <| A3 <| A0 <| H7 rfl rfl rfl (fun _ => C8 rfl) (fun _ => rfl) ?_
 intro g2
 refine H7 rfl rfl rfl (fun _ => C8 rfl) (fun _ => rfl) ?_
 intro g3
 refine y_S rfl <| xN [2,3] [2,3] rfl <| A3 <| A0 <| y_B rfl <| y_B rfl ?_
 refine xC2 rfl rfl rfl (a0q p q hp hq) ⟨rfl, rfl, rfl⟩ rfl rfl fun g7 => ?_
 refine b7z rfl rfl rfl rfl ?_
 refine xC1 rfl rfl (b7x _) ⟨rfl, rfl, rfl⟩ rfl rfl fun g9 => ?_
 refine y_S rfl <| xN [4] [] rfl <| B1 <| C3 rfl rfl trivial ?_
 rfl

theorem a9o : C1 Try.f24 = [0, 1, 4, 2, 3, 6, 5, 11, 16] := by kernel_rfl
theorem b4r (p q : Rat) (hp : Sm 1000000000 p) (hq : Sm 1000000000 q) : CW cxT 24 [qV p, qV q] = some (qV (p * q), []) := by
 obtain ⟨p1, p2, p3⟩ := hp
 obtain ⟨q1, q2, q3⟩ := hq
 have dp := D7 p
 have dq := D7 q
 have m1 := J4 (x := p.num) (y := (q.den : Int)) ⟨p1, p2⟩ ⟨by omega, q3⟩
 have m2 := J4 (x := q.num) (y := (p.den : Int)) ⟨q1, q2⟩ ⟨by omega, p3⟩
 have m3 := J4 (x := (p.den : Int)) (y := (q.den : Int)) ⟨by omega, p3⟩ ⟨by omega, q3⟩
 have m4 := J4 (x := p.num) (y := q.num) ⟨p1, p2⟩ ⟨q1, q2⟩
 have dn := I6 p q
 have s1 := a8g (u := p.num) (d := (q.den : Int)) (by omega)
 have s2 := a8g (u := q.num) (d := (p.den : Int)) (by omega)
 have e := c0q p q
 have n1 := J4 (x := (Rat.divInt p.num (q.den : Int)).num) (y := (Rat.divInt q.num (p.den : Int)).num) (a := 1000000000) (b := 1000000000) ⟨by omega, by omega⟩ ⟨by omega, by omega⟩
 have n2 := J4 (x := ((Rat.divInt p.num (q.den : Int)).den : Int)) (y := ((Rat.divInt q.num (p.den : Int)).den : Int)) (a := 1000000000) (b := 1000000000) ⟨by omega, by omega⟩ ⟨by omega, by omega⟩
 refine B3 rfl Try.func24 rfl ⟨by kernel_rfl, rfl, dT rfl, dT rfl, by decide⟩ a9o <| A3 <| A0 <| H7 rfl rfl rfl (fun _ => C8 rfl) (fun _ => rfl) ?_
 intro g2
 refine H7 rfl rfl rfl (fun _ => C8 rfl) (fun _ => rfl) ?_
 intro g3
 refine y_A rfl (fun _ => rfl) ?_
 intro g4
 refine xN [2,3,4] [2,3,4] rfl <| A3 <| A0 <| y_F rfl <| y_L rfl <| y_F rfl <| y_L rfl ?_
 refine xC2 rfl rfl rfl (a1n p.num (q.den : Int) (by omega) (by omega) (by omega)) ⟨rfl, rfl, rfl⟩ rfl rfl fun g11 => ?_
 refine y_F rfl <| y_L rfl <| y_F rfl <| y_L rfl ?_
 refine xC2 rfl rfl rfl (a1n q.num (p.den : Int) (by omega) (by omega) (by omega)) ⟨rfl, rfl, rfl⟩ rfl rfl fun g16 => ?_
 refine y_A rfl (fun _ => rfl) ?_
 intro g5
 refine y_A rfl (fun _ => rfl) ?_
 intro g6
 iterate 2 refine xB rfl rfl rfl rfl rfl rfl rfl rfl rfl ?_
 refine H1 ⟨fun _ => ⟨by (simp only [U8, List.nil_append, List.append_nil, List.map_cons, List.map_nil, List.cons_append]; decide +kernel), by decide +kernel⟩, [(.t 4, _), (.t 5, _), (.t 6, _), (.h 4, _), (.h 5, _), (.h 6, _)], ⟨rfl, rfl, rfl, rfl, rfl, rfl, rfl, rfl, rfl, rfl, rfl, rfl, trivial⟩, ?_⟩
 refine A3 <| A0 <| y_F rfl <| y_L rfl <| y_F rfl <| y_L rfl <| P7 rfl rfl (C0 (by omega)) <| y_F rfl <| y_L rfl <| y_F rfl <| y_L rfl <| P7 rfl rfl (C0 (by omega)) <| M0 (fs := [_, _]) rfl rfl rfl rfl rfl <| xB rfl rfl rfl rfl rfl rfl rfl rfl rfl <| xN [4] [4] rfl <| B1 <| E9 (F0 rfl rfl rfl rfl rfl (G7 D6)) ?_
 show AV.agg [_, _] = AV.agg [_, _]
 rw [e.1, e.2]

theorem b4x : C1 Try.f28 = [0, 2, 1, 5] := by kernel_rfl
theorem c5z (p : Rat) (hp : Sm 1000000000 p) : CW cxT 28 [qV p] = some (qV (p * (1 / 2 : Rat)), []) := by
 refine B3 rfl Try.func28 rfl ⟨by kernel_rfl, rfl, dT rfl, dT rfl, by decide⟩ b4x <| A3 <| A0 <| H7 rfl rfl rfl (fun _ => C8 rfl) (fun _ => rfl) ?_
 intro g1
 refine y_A rfl (fun _ => rfl) ?_
 intro g2
 refine xN [1,2] [1,2] rfl <| A3 <| A0 <| y_B rfl <| M0 (fs := [_, _]) rfl rfl rfl rfl rfl ?_
 apply xC rfl
 ·apply A9
  ·exact B9 rfl
  apply A9
  ·exact B9 rfl
  exact F8
 ·exact (by
   have h := b4r p (1 / 2) hp (by refine ⟨?_, ?_, ?_⟩ <;> decide +kernel)
   rw [show qV (1 / 2) = AV.agg [iV 1, iV 2] from congrArg AV.agg (by rw [show (1 / 2 : Rat).num = 1 by decide +kernel, show (1 / 2 : Rat).den = 2 by decide +kernel]; rfl)] at h
   exact h)
 refine ⟨⟨rfl, rfl, rfl, dT rfl, rfl⟩, .inl rfl, D5, E3 rfl, fun _ => rfl, fun g5 => ?_⟩
 refine xB rfl rfl rfl rfl rfl rfl rfl rfl rfl <| xN [2] [2] rfl <| B1 <| E9 (F0 rfl rfl rfl rfl rfl (G7 D6)) ?_
 rfl

namespace E
theorem a0r : C1 Try.f51 = [0, 1, 4, 6] := by kernel_rfl
theorem a7m (a b : Int) (ha : -4611686018427387904 ≤ a ∧ a ≤ 4611686018427387904) (hb : -4611686018427387904 ≤ b ∧ b ≤ 4611686018427387904) : CW cxE 51 [iV a, iV b] = some (iV (Int.gcd a b : Int), []) := by
 refine B3 rfl Try.func51 rfl ⟨by kernel_rfl, rfl, dT rfl, dT rfl, by decide⟩ a0r <| A3 <| A0 <| y_S rfl <| xN [0,1] [] rfl <| A3 <| B8 <| a5y (β := Int × Int) (fun (z : Int × Int) => match z with | (x, y) => [(.t 0, iV x), (.t 1, iV y)]) (fun (z : Int × Int) => match z with | (x, y) => Int.gcd x y = Int.gcd a b ∧ (-4611686018427387904 ≤ x ∧ x ≤ 4611686018427387904) ∧ (-4611686018427387904 ≤ y ∧ y ≤ 4611686018427387904)) (fun (z : Int × Int) => match z with | (x, y) => y.natAbs) (a, b) ⟨rfl, rfl, trivial⟩ ⟨rfl, ha, hb⟩ ?_
 intro z hb
 obtain ⟨x, y⟩ := z
 try dsimp only at hb
 obtain ⟨hg, hx, hy⟩ := hb
 refine A3 <| A3 <| A0 <| y_M rfl <| a1z rfl rfl <| xN [0,1,6] [] rfl ?_
 refine B5 rfl ?_ ?_ <;> intro hc <;> try simp only [SL] at hc
 ·refine B6 <| B8 <| A0 <| y_M rfl <| y_M rfl <| y_M rfl <| c3i rfl rfl (by omega) <| y_S rfl <| y_S rfl ?_
  refine H1 ⟨fun _ => ⟨by decide +kernel, by decide +kernel⟩, [(.t 0, _), (.t 1, _)], ⟨rfl, rfl, rfl, rfl, trivial⟩, ?_⟩
  refine ⟨(y, x.tmod y), ⟨by rw [a7g]; exact hg, hy, by have := b0x x y; omega⟩, (by have := b0t x hc; simp only; omega), ⟨rfl, rfl, trivial⟩⟩
 refine G6 <| A3 <| A0 <| y_M rfl <| y_M rfl <| a3c rfl (C0 (by omega)) <| b0m rfl rfl <| y_S rfl <| xN [4] [] rfl <| B1 <| C3 rfl rfl trivial ?_
 subst hc
 rw [b2r, hg]
end E

namespace E
theorem Y2 : C1 Try.f47 = [0, 1, 4, 10, 5] := by kernel_rfl
theorem a1n (u d : Int) (hu : -4611686018427387904 ≤ u ∧ u ≤ 4611686018427387904) (hd : -4611686018427387904 ≤ d ∧ d ≤ 4611686018427387904) (h0 : d ≠ 0) : CW cxE 47 [iV u, iV d] = some (qV (Rat.divInt u d), []) := by
 have hbd := a8g (u := u) h0
 have hgp := S7 (u := u) h0
 have hgl := a6b (u := u) h0
 refine B3 rfl Try.func47 rfl ⟨by kernel_rfl, rfl, dT rfl, dT rfl, by decide⟩ Y2 <| A3 <| A0 <| y_A rfl (fun _ => rfl) ?_
 intro g4
 refine xN [0,1,4] [4] rfl <| A3 <| A0 <| y_M rfl <| y_M rfl ?_
 refine xC2 rfl rfl rfl (a7m u d hu hd) ⟨rfl, rfl, rfl⟩ rfl rfl fun g8 => ?_
 refine y_S rfl <| xN [0,1,4,5] [4] rfl <| A3 <| A3 <| A0 <| y_M rfl <| J3 rfl rfl <| xN [0,1,4,5,10] [4] rfl ?_
 refine B5 rfl ?_ ?_ <;> intro hc <;> try simp only [SL] at hc
 ·refine A0 <| y_M rfl <| a3c rfl (C0 (by omega)) <| y_S rfl <| xN [0,1,4,5] [4] rfl <| A3 <| A0 <| y_M rfl <| y_M rfl ?_
  (have hf := c2d (u := u) (d := d) (by omega))
  refine P6 rfl rfl ⟨by omega, C0 (by rw [← hf.1]; omega)⟩ <| y_M rfl <| y_M rfl <| P6 rfl rfl ⟨by omega, C0 (by rw [← hf.2]; omega)⟩ <| M0 (fs := [_, _]) rfl rfl rfl rfl rfl <| xB rfl rfl rfl rfl rfl rfl rfl rfl rfl ?_
  refine H1 ⟨fun _ => ⟨by decide +kernel, by decide +kernel⟩, [(.t 4, _), (.h 4, _)], ⟨rfl, rfl, rfl, rfl, trivial⟩, ?_⟩
  refine B1 <| E9 (F0 rfl rfl rfl rfl rfl (G7 D6)) ?_
  rw [← hf.1, ← hf.2]
  rfl
 refine B6 <| A3 <| A0 <| y_M rfl <| y_M rfl ?_
 (have hf := Y3 (u := u) (d := d) (by omega))
 refine P6 rfl rfl ⟨by omega, C0 (by rw [← hf.1]; omega)⟩ <| y_M rfl <| y_M rfl <| P6 rfl rfl ⟨by omega, C0 (by rw [← hf.2]; omega)⟩ <| M0 (fs := [_, _]) rfl rfl rfl rfl rfl <| xB rfl rfl rfl rfl rfl rfl rfl rfl rfl ?_
 refine H1 ⟨fun _ => ⟨by decide +kernel, by decide +kernel⟩, [(.t 4, _), (.h 4, _)], ⟨rfl, rfl, rfl, rfl, trivial⟩, ?_⟩
 refine B1 <| E9 (F0 rfl rfl rfl rfl rfl (G7 D6)) ?_
 rw [← hf.1, ← hf.2]
 rfl
end E

namespace E
theorem Z9 : C1 Try.f33 = [0, 1, 4, 3, 2, 5, 33] := by kernel_rfl
theorem b1i (p q : Rat) (hp : Sm 1000000000 p) (hq : Sm 1000000000 q) : CW cxE 33 [qV p, qV q] = some (qV (p + q), []) := by
 obtain ⟨p1, p2, p3⟩ := hp
 obtain ⟨q1, q2, q3⟩ := hq
 have dp := D7 p
 have dq := D7 q
 have m1 := J4 (x := p.num) (y := (q.den : Int)) ⟨p1, p2⟩ ⟨by omega, q3⟩
 have m2 := J4 (x := q.num) (y := (p.den : Int)) ⟨q1, q2⟩ ⟨by omega, p3⟩
 have m3 := J4 (x := (p.den : Int)) (y := (q.den : Int)) ⟨by omega, p3⟩ ⟨by omega, q3⟩
 have m4 := J4 (x := p.num) (y := q.num) ⟨p1, p2⟩ ⟨q1, q2⟩
 have dn := I6 p q
 have hgp := S7 (u := (p.den : Int)) (d := (q.den : Int)) (by omega)
 have hgl := a6b (u := (p.den : Int)) (d := (q.den : Int)) (by omega)
 have t1 := a6d (a := (q.den : Int)) (b := (Int.gcd p.den q.den : Int)) (by omega) (by omega)
 have t2 := a6d (a := (p.den : Int)) (b := (Int.gcd p.den q.den : Int)) (by omega) (by omega)
 have n1 := J4 (x := p.num) (y := (q.den : Int).tdiv (Int.gcd p.den q.den : Int)) (a := 1000000000) (b := 1000000000) ⟨p1, p2⟩ ⟨by omega, by omega⟩
 have n2 := J4 (x := q.num) (y := (p.den : Int).tdiv (Int.gcd p.den q.den : Int)) (a := 1000000000) (b := 1000000000) ⟨q1, q2⟩ ⟨by omega, by omega⟩
 have n3 := J4 (x := (p.den : Int).tdiv (Int.gcd p.den q.den : Int)) (y := (q.den : Int)) (a := 1000000000) (b := 1000000000) ⟨by omega, by omega⟩ ⟨by omega, q3⟩
 have dn2 := a9x p q
 refine B3 rfl Try.func33 rfl ⟨by kernel_rfl, rfl, dT rfl, dT rfl, by decide⟩ Z9 <| A3 <| A0 <| H7 rfl rfl rfl (fun _ => C8 rfl) (fun _ => rfl) ?_
 intro g2
 refine H7 rfl rfl rfl (fun _ => C8 rfl) (fun _ => rfl) ?_
 intro g3
 refine y_A rfl (fun _ => rfl) ?_
 intro g4
 refine xN [2,3,4] [2,3,4] rfl <| A3 <| A0 <| y_F rfl <| y_L rfl <| y_F rfl <| y_L rfl ?_
 refine xC2 rfl rfl rfl (a7m (p.den : Int) (q.den : Int) (by omega) (by omega)) ⟨rfl, rfl, rfl⟩ rfl rfl fun g10 => ?_
 refine y_S rfl <| xN [2,3,4,5] [2,3,4] rfl <| A3 <| A0 <| y_F rfl <| y_L rfl <| y_F rfl <| y_L rfl <| y_M rfl <| P6 rfl rfl ⟨by omega, C0 (by omega)⟩ <| P7 rfl rfl (C0 (by omega)) <| y_F rfl <| y_L rfl <| y_F rfl <| y_L rfl <| y_M rfl <| P6 rfl rfl ⟨by omega, C0 (by omega)⟩ <| P7 rfl rfl (C0 (by omega)) <| J1 rfl rfl (C0 (by omega)) <| y_F rfl <| y_L rfl <| y_M rfl <| P6 rfl rfl ⟨by omega, C0 (by omega)⟩ <| y_F rfl <| y_L rfl <| P7 rfl rfl (C0 (by omega)) ?_
 refine xC2 rfl rfl rfl (a1n _ _ (by omega) (by omega) dn2) ⟨rfl, rfl, rfl⟩ rfl rfl fun g33 => ?_
 refine xB rfl rfl rfl rfl rfl rfl rfl rfl rfl ?_
 refine H1 ⟨fun _ => ⟨by (simp only [U8, List.nil_append, List.append_nil, List.map_cons, List.map_nil, List.cons_append]; decide +kernel), by decide +kernel⟩, [(.t 4, _), (.h 4, _)], ⟨rfl, rfl, rfl, rfl, trivial⟩, ?_⟩
 refine B1 <| E9 (F0 rfl rfl rfl rfl rfl (G7 D6)) ?_
 rw [← b8r]
 rfl
end E

namespace E
theorem a1a : C1 Try.f48 = [0, 2] := by kernel_rfl
theorem b7x (n : Int) : CW cxE 48 [iV n] = some (iV (max (-1) (min 1 n)), []) := by
 refine B3 rfl Try.func48 rfl ⟨by kernel_rfl, rfl, dT rfl, dT rfl, by decide⟩ a1a <| A3 <| A0 <| y_S rfl <| xN [0] [] rfl <| A3 <| A0 <| y_M rfl <| c2t rfl rfl <| b0m rfl rfl <| y_S rfl <| xN [2] [] rfl <| B1 <| C3 rfl rfl trivial ?_
 rfl
end E

namespace E
theorem V7 : C1 Try.f23 = [0, 1, 4, 3, 2, 12] := by kernel_rfl
theorem a0q (p q : Rat) (hp : Sm 1000000000 p) (hq : Sm 1000000000 q) : CW cxE 23 [qV p, qV q] = some (qV (p - q), []) := by
 obtain ⟨q1, q2, q3⟩ := id hq
 refine B3 rfl Try.func23 rfl ⟨by kernel_rfl, rfl, dT rfl, dT rfl, by decide⟩ V7 <| A3 <| A0 <| H7 rfl rfl rfl (fun _ => C8 rfl) (fun _ => rfl) ?_
 intro g2
 refine H7 rfl rfl rfl (fun _ => C8 rfl) (fun _ => rfl) ?_
 intro g3
 refine y_A rfl (fun _ => rfl) ?_
 intro g4
 refine xN [2,3,4] [2,3,4] rfl <| A3 <| A0 <| y_B rfl <| y_F rfl <| y_L rfl <| a3c rfl (C0 (by omega)) <| y_F rfl <| y_L rfl <| M0 (fs := [_, _]) rfl rfl rfl rfl rfl ?_
 refine xC2 rfl rfl rfl (b1i p (-q) hp (show Sm 1000000000 (-q) from ⟨by rw [(Y0 q).1]; omega, by rw [(Y0 q).1]; omega, q3⟩)) ⟨rfl, rfl, rfl⟩ rfl rfl fun g12 => ?_
 refine xB rfl rfl rfl rfl rfl rfl rfl rfl rfl <| xN [4] [4] rfl <| B1 <| E9 (F0 rfl rfl rfl rfl rfl (G7 D6)) ?_
 rw [Rat.sub_eq_add_neg]
 rfl
end E

namespace E
theorem U6 : C1 Try.f26 = [0, 1, 4, 3, 2] := by kernel_rfl
theorem s_compare (p q : Rat) (hp : Sm 1000000000 p) (hq : Sm 1000000000 q) : CW cxE 26 [qV p, qV q] = some (iV (max (-1) (min 1 (p - q).num)), []) := by
 refine B3 rfl Try.func26 rfl ⟨by kernel_rfl, rfl, dT rfl, dT rfl, by decide⟩ U6 <| A3 <| A0 <| H7 rfl rfl rfl (fun _ => C8 rfl) (fun _ => rfl) ?_
 intro g2
 refine H7 rfl rfl rfl (fun _ => C8 rfl) (fun _ => rfl) ?_
 intro g3
 refine y_S rfl <| xN [2,3] [2,3] rfl <| A3 <| A0 <| y_B rfl <| y_B rfl ?_
 refine xC2 rfl rfl rfl (a0q p q hp hq) ⟨rfl, rfl, rfl⟩ rfl rfl fun g7 => ?_
 refine b7z rfl rfl rfl rfl ?_
 refine xC1 rfl rfl (b7x _) ⟨rfl, rfl, rfl⟩ rfl rfl fun g9 => ?_
 refine y_S rfl <| xN [4] [] rfl <| B1 <| C3 rfl rfl trivial ?_
 rfl
end E

theorem a9g : C1 Try.f6 = [0, 2, 4, 11, 3] := by kernel_rfl
theorem W4 (xs : List Int) (hl : xs.length ≤ 1048576) : CW cxT 6 [L xs] = some (.own 1 (xs.map iV), []) := by
 refine B3 rfl Try.func6 rfl ⟨by kernel_rfl, rfl, dT rfl, dT rfl, by decide⟩ a9g <| A3 <| A0 ?_
 (refine I1 rfl rfl (fun _ => rfl) ?_; intro g2)
 refine xN [0] [] rfl <| A3 <| A0 <| y_M rfl <| C7 rfl rfl <| b4o (f := iV) (x0 := 0) rfl rfl rfl rfl rfl (by simp only [M7]; omega) (dT rfl) (fun _ => K3 (by exact E4 fun _ => rfl)) (fun _ => rfl) ?_
 intro g7
 (refine xO rfl rfl (by simp) rfl (fun _ => rfl) (fun _ => rfl) ?_; intro g3)
 refine xN [0,3] [3] rfl <| A3 <| A3 <| A0 <| y_S rfl <| xN [0,3,4] [3] rfl <| B8 <| G4 (β := Nat × List Int) [(.t 0, _), (.t 3, _)] (fun (z : Nat × List Int) => match z with | (i, ys) => [(.t 4, iV i), (.h 3, .obj g3 0 1 (ys.map iV))]) (fun (z : Nat × List Int) => match z with | (i, ys) => i ≤ xs.length ∧ ys.length = xs.length ∧ ∀ j, j < i → ys.getD j default = xs.getD j default) (fun (z : Nat × List Int) => match z with | (i, ys) => xs.length - i) (0, List.replicate xs.length 0) ⟨rfl, rfl, rfl, rfl, trivial⟩ ⟨Nat.zero_le _, by simp, fun j h => by omega⟩ ?_
 intro z hb
 obtain ⟨i, ys⟩ := z
 try dsimp only at hb
 obtain ⟨hi1, hi2, hi3⟩ := hb
 refine A3 <| A3 <| A0 <| y_M rfl <| y_M rfl <| C7 rfl rfl <| J3 rfl rfl <| xN [0,3,4,11] [3] rfl ?_
 refine B5 rfl ?_ ?_ <;> intro hc <;> try simp only [SL] at hc
 ·refine B6 <| A3 <| B8 <| A0 <| y_M rfl <| y_M rfl <| y_M rfl <| y_M rfl <| A5 rfl rfl rfl (fun _ => rfl) (by omega) <| y_I rfl <| V5 rfl rfl rfl rfl (by omega) (by (simp; omega)) rfl <| b1d rfl rfl rfl (by omega) (fun _ _ => ⟨rfl, rfl, dT rfl, dT rfl, rfl, rfl⟩) (by decide) (by exact K3 (E4 fun _ => rfl)) <| xN [0,3,4] [3] rfl <| A0 <| y_M rfl <| J1 rfl rfl (C0 (by omega)) <| y_S rfl <| xN [0,3,4] [3] rfl ?_
  refine ⟨(i + 1, ys.set i (xs.getD i default)), ⟨by omega, by simp [hi2], fun j hj => by rw [b9m (by omega)]; by_cases e : j = i; (· rw [if_pos e, e]); (· rw [if_neg e]; exact hi3 j (by omega))⟩, (by simp only; omega), ⟨rfl, rfl, rfl, rfl, trivial⟩⟩
 refine G6 <| A3 <| A0 <| y_M rfl ?_
 (refine a3k rfl rfl (by (simp; omega)) rfl (fun _ => (K3 (by exact E4 fun _ => rfl))) (fun _ => rfl) ?_; intro g2)
 refine xN [2] [2] rfl <| B1 <| a0j rfl rfl (by (simp [hi2]; done)) (by exact E4 fun _ => rfl) trivial ?_
 rw [c0h hi2 fun j hj => hi3 j (by omega)]

theorem a8v : C1 Try.f9 = [0, 1, 4, 10, 5, 14, 25] := by kernel_rfl
theorem b3g (xs : List Int) (hl : xs.length ≤ 1048576) : CW cxT 9 [L xs, L xs] = some (bV true, []) := by
 refine B3 rfl Try.func9 rfl ⟨by kernel_rfl, rfl, dT rfl, dT rfl, by decide⟩ a8v <| A3 <| A0 <| y_S rfl <| xN [0,1] [] rfl <| A3 <| A3 <| A0 <| y_M rfl <| C7 rfl rfl <| y_M rfl <| C7 rfl rfl <| a1z rfl rfl <| xN [0,1,10] [] rfl ?_
 refine B5 rfl (fun hc => ?_) (fun hc => ?_)
 ·try simp only [SD] at hc
  exact absurd trivial hc
 try simp only [SL] at hc
 refine B6 <| A3 <| A3 <| A0 <| y_S rfl <| xN [0,1,5] [] rfl <| B8 <| G4 (β := Nat) [(.t 0, _), (.t 1, _)] (fun (i : Nat) => [(.t 5, iV i)]) (fun (i : Nat) => i ≤ xs.length) (fun (i : Nat) => xs.length - i) 0 ⟨rfl, rfl, rfl, trivial⟩ (Nat.zero_le _) ?_
 intro i hb
 have hi1 := hb
 refine A3 <| A3 <| A0 <| y_M rfl <| y_M rfl <| C7 rfl rfl <| J3 rfl rfl <| xN [0,1,5,14] [] rfl ?_
 refine B5 rfl ?_ ?_ <;> intro hc <;> try simp only [SL] at hc
 ·refine B6 <| A3 <| B8 <| A3 <| A0 <| y_M rfl <| y_M rfl <| A5 rfl rfl rfl (fun _ => rfl) (by omega) <| y_I rfl <| y_M rfl <| y_M rfl <| A5 rfl rfl rfl (fun _ => rfl) (by omega) <| y_I rfl <| a1z rfl rfl ?_
  refine H1 ⟨fun _ => ⟨by decide +kernel, by decide +kernel⟩, [(.t 0, _), (.t 1, _), (.t 5, _), (.t 25, _)], ⟨rfl, rfl, rfl, rfl, rfl, rfl, rfl, rfl, trivial⟩, ?_⟩
  refine B5 rfl (fun hc => ?_) (fun hc => ?_)
  ·try simp only [SD] at hc
   exact absurd trivial hc
  try simp only [SL] at hc
  refine B6 <| A0 <| y_M rfl <| J1 rfl rfl (C0 (by omega)) <| y_S rfl <| xN [0,1,5] [] rfl ?_
  refine ⟨i + 1, (by omega), (by omega), ⟨rfl, rfl, rfl, trivial⟩⟩
 refine G6 <| A3 <| A0 <| y_S rfl <| xN [4] [] rfl <| B1 <| C3 rfl rfl trivial ?_
 rfl

theorem b5v : C1 Try.f43 = [0, 2, 7, 4, 15, 3] := by kernel_rfl
theorem c6h (xs : List Int) (hl : 1 ≤ xs.length ∧ xs.length ≤ 1000) : ∃ res outs, (fun res outs => ∃ v, res = iV v ∧ outs = [] ∧ v ∈ xs ∧ ∀ x ∈ xs, v ≤ x) res outs ∧ CW cxT 43 [L xs] = some (res, outs) := by
 refine a4k rfl Try.func43 rfl ⟨by kernel_rfl, rfl, dT rfl, dT rfl, by decide⟩ b5v <| A3 <| A0 <| y_S rfl <| xN [0] [] rfl <| A3 <| A3 <| A0 <| y_M rfl <| C7 rfl rfl <| J3 rfl rfl <| xN [0,7] [] rfl ?_
 refine B5 rfl (fun hc => ?_) (fun hc => ?_)
 ·try simp only [SD] at hc
  exact absurd hc (by omega)
 try simp only [SL] at hc
 refine B6 <| A3 <| A0 <| y_M rfl <| A5 rfl rfl rfl (fun _ => rfl) (by (change 0 < _; omega)) <| y_I rfl <| y_S rfl <| xN [0,3] [] rfl <| A3 <| A3 <| A0 <| y_S rfl <| xN [0,3,4] [] rfl <| B8 <| G4 (β := Nat × Int) [(.t 0, _)] (fun (z : Nat × Int) => match z with | (i, v) => [(.t 4, iV i), (.t 3, iV v)]) (fun (z : Nat × Int) => match z with | (i, v) => 1 ≤ i ∧ i ≤ xs.length ∧ v ∈ xs ∧ ∀ j, j < i → v ≤ xs.getD j default) (fun (z : Nat × Int) => match z with | (i, v) => xs.length - i) (1, xs.getD 0 default) ⟨rfl, rfl, rfl, trivial⟩ ⟨Nat.le_refl _, hl.1, K2 (by omega), fun j h => by have h0 : j = 0 := (by omega); subst h0; exact Int.le_refl _⟩ ?_
 intro z hb
 obtain ⟨i, v⟩ := z
 try dsimp only at hb
 obtain ⟨hi0, hi1, hv1, hv2⟩ := hb
 refine A3 <| A3 <| A0 <| y_M rfl <| y_M rfl <| C7 rfl rfl <| J3 rfl rfl <| xN [0,3,4,15] [] rfl ?_
 refine B5 rfl ?_ ?_ <;> intro hc <;> try simp only [SL] at hc
 ·refine B6 <| A3 <| B8 <| A0 <| y_M rfl <| y_M rfl <| y_M rfl <| A5 rfl rfl rfl (fun _ => rfl) (by omega) <| y_I rfl <| c2t rfl rfl <| y_S rfl <| xN [0,3,4] [] rfl <| A0 <| y_M rfl <| J1 rfl rfl (C0 (by omega)) <| y_S rfl <| xN [0,3,4] [] rfl ?_
  refine ⟨(i + 1, min v (xs.getD i default)), ⟨by omega, by omega, by rcases Int.le_total v (xs.getD i default) with h | h; (· (rw [Int.min_eq_left h]; exact hv1)); (· (rw [Int.min_eq_right h]; exact K2 (by omega))), fun j hj => by rcases Nat.lt_succ_iff_lt_or_eq.1 hj with h | h; (· have := hv2 j h; omega); (· subst h; omega)⟩, (by simp only; omega), ⟨rfl, rfl, rfl, trivial⟩⟩
 refine G6 <| A3 <| A0 <| y_M rfl <| y_S rfl <| xN [2] [] rfl <| B1 ?_
 refine ⟨_, _, ?_, a3t rfl rfl D6⟩
 refine ⟨v, rfl, rfl, hv1, fun x hx2 => ?_⟩
 obtain ⟨j, hj, rfl⟩ := P1 hx2
 exact hv2 j (by omega)

theorem b7c : C1 Try.f44 = [0, 2, 7, 4, 15, 3] := by kernel_rfl
theorem c6r (xs : List Int) (hl : 1 ≤ xs.length ∧ xs.length ≤ 1000) : ∃ res outs, (fun res outs => ∃ v, res = iV v ∧ outs = [] ∧ v ∈ xs ∧ ∀ x ∈ xs, x ≤ v) res outs ∧ CW cxT 44 [L xs] = some (res, outs) := by
 refine a4k rfl Try.func44 rfl ⟨by kernel_rfl, rfl, dT rfl, dT rfl, by decide⟩ b7c <| A3 <| A0 <| y_S rfl <| xN [0] [] rfl <| A3 <| A3 <| A0 <| y_M rfl <| C7 rfl rfl <| J3 rfl rfl <| xN [0,7] [] rfl ?_
 refine B5 rfl (fun hc => ?_) (fun hc => ?_)
 ·try simp only [SD] at hc
  exact absurd hc (by omega)
 try simp only [SL] at hc
 refine B6 <| A3 <| A0 <| y_M rfl <| A5 rfl rfl rfl (fun _ => rfl) (by (change 0 < _; omega)) <| y_I rfl <| y_S rfl <| xN [0,3] [] rfl <| A3 <| A3 <| A0 <| y_S rfl <| xN [0,3,4] [] rfl <| B8 <| G4 (β := Nat × Int) [(.t 0, _)] (fun (z : Nat × Int) => match z with | (i, v) => [(.t 4, iV i), (.t 3, iV v)]) (fun (z : Nat × Int) => match z with | (i, v) => 1 ≤ i ∧ i ≤ xs.length ∧ v ∈ xs ∧ ∀ j, j < i → xs.getD j default ≤ v) (fun (z : Nat × Int) => match z with | (i, v) => xs.length - i) (1, xs.getD 0 default) ⟨rfl, rfl, rfl, trivial⟩ ⟨Nat.le_refl _, hl.1, K2 (by omega), fun j h => by have h0 : j = 0 := (by omega); subst h0; exact Int.le_refl _⟩ ?_
 intro z hb
 obtain ⟨i, v⟩ := z
 try dsimp only at hb
 obtain ⟨hi0, hi1, hv1, hv2⟩ := hb
 refine A3 <| A3 <| A0 <| y_M rfl <| y_M rfl <| C7 rfl rfl <| J3 rfl rfl <| xN [0,3,4,15] [] rfl ?_
 refine B5 rfl ?_ ?_ <;> intro hc <;> try simp only [SL] at hc
 ·refine B6 <| A3 <| B8 <| A0 <| y_M rfl <| y_M rfl <| y_M rfl <| A5 rfl rfl rfl (fun _ => rfl) (by omega) <| y_I rfl <| b0m rfl rfl <| y_S rfl <| xN [0,3,4] [] rfl <| A0 <| y_M rfl <| J1 rfl rfl (C0 (by omega)) <| y_S rfl <| xN [0,3,4] [] rfl ?_
  refine ⟨(i + 1, max v (xs.getD i default)), ⟨by omega, by omega, by rcases Int.le_total v (xs.getD i default) with h | h; (· (rw [Int.max_eq_right h]; exact K2 (by omega))); (· (rw [Int.max_eq_left h]; exact hv1)), fun j hj => by rcases Nat.lt_succ_iff_lt_or_eq.1 hj with h | h; (· have := hv2 j h; omega); (· subst h; omega)⟩, (by simp only; omega), ⟨rfl, rfl, rfl, trivial⟩⟩
 refine G6 <| A3 <| A0 <| y_M rfl <| y_S rfl <| xN [2] [] rfl <| B1 ?_
 refine ⟨_, _, ?_, a3t rfl rfl D6⟩
 refine ⟨v, rfl, rfl, hv1, fun x hx2 => ?_⟩
 obtain ⟨j, hj, rfl⟩ := P1 hx2
 exact hv2 j (by omega)

theorem a2f : C1 Try.f42 = [0, 1, 2, 6] := by kernel_rfl
theorem a8p (xs ys : List Int) (hl : xs.length ≤ 1048576) (hl2 : ys.length ≤ 1048576) : CW cxT 42 [L xs, L ys, iV 7] = some (bV (vpS xs ys && decide (1 ≤ xs.length)), []) := by
 refine B3 rfl Try.func42 rfl ⟨by kernel_rfl, rfl, dT rfl, dT rfl, by decide⟩ a2f <| A3 <| A0 <| y_S rfl <| xN [0,1,2] [] rfl <| A3 <| A0 <| y_M rfl <| C7 rfl rfl <| y_M rfl <| C7 rfl rfl <| c4v rfl rfl <| y_M rfl ?_
 refine F6 rfl rfl ?_ ?_ <;> intro hg0 <;> have hg := hg0 <;> try simp only [SG] at hg
 ·refine y_M rfl <| gT rfl rfl <| C7 rfl rfl <| gT rfl rfl <| y_M rfl <| gT rfl rfl ?_
  refine xC3 rfl rfl rfl rfl (c6x _ _ _) ⟨rfl, rfl, rfl⟩ rfl rfl fun g16 => ?_
  refine L6 rfl (by assumption) rfl rfl <| y_M rfl ?_
  refine F6 rfl rfl ?_ ?_ <;> intro hg0 <;> have hg := hg0 <;> try simp only [SG] at hg
  ·refine y_M rfl <| gT rfl rfl ?_
   refine xC3 rfl rfl rfl rfl (b9b xs (by omega) (-12) 12) ⟨rfl, rfl, rfl⟩ rfl rfl fun g20 => ?_
   refine L6 rfl (by assumption) rfl rfl <| y_M rfl ?_
   refine F6 rfl rfl ?_ ?_ <;> intro hg0 <;> have hg := hg0 <;> try simp only [SG] at hg
   ·refine y_M rfl <| gT rfl rfl ?_
    refine xC3 rfl rfl rfl rfl (b9b ys (by omega) (-12) 12) ⟨rfl, rfl, rfl⟩ rfl rfl fun g24 => ?_
    refine L6 rfl (by assumption) rfl rfl <| y_S rfl <| xN [6] [] rfl <| B1 <| C3 rfl rfl trivial ?_
    (rw [c6b (by omega) (by omega) (by omega)]; simp_all [ofConst])
   refine gF rfl rfl <| I4 rfl (by assumption) rfl rfl <| y_S rfl <| xN [6] [] rfl <| B1 <| C3 rfl rfl trivial ?_
   (rw [c6b (by omega) (by omega) (by omega)]; simp_all [ofConst])
  refine gF rfl rfl <| I4 rfl (by assumption) rfl rfl <| y_M rfl <| L9 rfl rfl rfl <| L9 rfl rfl rfl <| I4 rfl rfl rfl rfl <| y_S rfl <| xN [6] [] rfl <| B1 <| C3 rfl rfl trivial ?_
  (rw [c6f (by omega)]; rfl)
 refine gF rfl rfl <| gF rfl rfl <| gF rfl rfl <| I4 rfl (by assumption) rfl rfl <| y_M rfl <| L9 rfl rfl rfl <| L9 rfl rfl rfl <| I4 rfl rfl rfl rfl <| y_M rfl <| L9 rfl rfl rfl <| L9 rfl rfl rfl <| I4 rfl rfl rfl rfl <| y_S rfl <| xN [6] [] rfl <| B1 <| C3 rfl rfl trivial ?_
 (rw [c6f (by omega)]; rfl)

theorem a2n : C1 Try.f36 = [0, 1, 4, 5, 9, 31] := by kernel_rfl
theorem a8m (xs ys : List Int) (hl : xs.length ≤ 1048576) (hl2 : ys.length ≤ 1048576) : CW cxT 36 [L xs, L ys] = some (bV (vpS xs ys), []) := by
 refine B3 rfl Try.func36 rfl ⟨by kernel_rfl, rfl, dT rfl, dT rfl, by decide⟩ a2n <| A3 <| A0 <| y_S rfl <| xN [0,1] [] rfl <| A3 <| A3 <| A0 <| y_S rfl <| xN [0,1,5] [] rfl <| B8 <| G4 (β := Nat) [(.t 0, _), (.t 1, _)] (fun (i : Nat) => [(.t 5, iV i)]) (fun (i : Nat) => i ≤ xs.length ∧ ∀ j, j < i → j < ys.length ∧ (-12 ≤ xs.getD j default ∧ xs.getD j default ≤ 12) ∧ (-12 ≤ ys.getD j default ∧ ys.getD j default ≤ 12)) (fun (i : Nat) => xs.length - i) 0 ⟨rfl, rfl, rfl, trivial⟩ ⟨Nat.zero_le _, fun j h => by omega⟩ ?_
 intro i hb
 obtain ⟨hi1, hi2⟩ := hb
 refine A3 <| A3 <| A0 <| y_M rfl <| y_M rfl <| C7 rfl rfl <| J3 rfl rfl <| xN [0,1,5,9] [] rfl ?_
 refine B5 rfl ?_ ?_ <;> intro hc <;> try simp only [SL] at hc
 ·refine B6 <| A3 <| B8 <| A3 <| A0 <| y_M rfl <| y_M rfl <| C7 rfl rfl <| c2e rfl rfl <| y_M rfl ?_
  refine F6 rfl rfl ?_ ?_ <;> intro hg0 <;> have hg := hg0 <;> try simp only [SG] at hg
  ·refine y_M rfl <| gT rfl rfl <| y_M rfl <| gT rfl rfl <| A5 rfl rfl rfl (fun _ => rfl) (by omega) <| gT rfl rfl <| y_I rfl <| gT rfl rfl ?_
   refine xC3 rfl rfl rfl rfl (b0g _ _ _) ⟨rfl, rfl, rfl⟩ rfl rfl fun g21 => ?_
   refine gT rfl rfl <| a3f rfl <| I4 rfl (by assumption) rfl rfl <| y_M rfl ?_
   refine F6 rfl rfl ?_ ?_ <;> intro hg0 <;> have hg := hg0 <;> try simp only [SG] at hg
   ·refine y_M rfl <| gT rfl rfl <| y_M rfl <| gT rfl rfl <| A5 rfl rfl rfl (fun _ => rfl) (by omega) <| gT rfl rfl <| y_I rfl <| gT rfl rfl ?_
    refine xC3 rfl rfl rfl rfl (b0g _ _ _) ⟨rfl, rfl, rfl⟩ rfl rfl fun g29 => ?_
    refine gT rfl rfl <| a3f rfl <| I4 rfl (by assumption) rfl rfl <| xN [0,1,5,31] [] rfl ?_
    refine B5 rfl ?_ ?_ <;> intro hc <;> try simp only [SL] at hc
    ·refine A3 <| A0 <| y_S rfl <| xN [4] [] rfl <| B1 <| C3 rfl rfl trivial ?_
     exact congrArg bV (b2a (show i < xs.length by omega) (by simp_all; omega)).symm
    refine B6 <| A0 <| y_M rfl <| J1 rfl rfl (C0 (by omega)) <| y_S rfl <| xN [0,1,5] [] rfl ?_
    refine ⟨i + 1, ⟨by omega, fun j hj => by rcases Nat.lt_succ_iff_lt_or_eq.1 hj with h | h; (· exact hi2 j h); (· subst h; (simp_all; done))⟩, (by omega), ⟨rfl, rfl, rfl, trivial⟩⟩
   iterate 5 refine gF rfl rfl ?_
   refine L6 rfl (by assumption) rfl rfl <| xN [0,1,5,31] [] rfl ?_
   refine B5 rfl (fun hc => ?_) (fun hc => absurd hc (by decide))
   refine A3 <| A0 <| y_S rfl <| xN [4] [] rfl <| B1 <| C3 rfl rfl trivial ?_
   exact congrArg bV (b2a (show i < xs.length by omega) (by simp_all; omega)).symm
  iterate 5 refine gF rfl rfl ?_
  refine L6 rfl (by assumption) rfl rfl <| y_M rfl ?_
  iterate 6 refine L9 rfl rfl rfl ?_
  refine L6 rfl rfl rfl rfl <| xN [0,1,5,31] [] rfl ?_
  refine B5 rfl (fun hc => ?_) (fun hc => absurd hc (by decide))
  refine A3 <| A0 <| y_S rfl <| xN [4] [] rfl <| B1 <| C3 rfl rfl trivial ?_
  exact congrArg bV (b2a (show i < xs.length by omega) (by simp_all; omega)).symm
 refine G6 <| A3 <| A0 <| y_M rfl <| C7 rfl rfl <| y_M rfl <| C7 rfl rfl <| c4v rfl rfl <| y_M rfl ?_
 refine F6 rfl rfl ?_ ?_ <;> intro hg0 <;> have hg := hg0 <;> try simp only [SG] at hg
 ·refine y_M rfl <| gT rfl rfl <| C7 rfl rfl <| gT rfl rfl <| b8u rfl rfl <| L6 rfl (by assumption) rfl rfl <| y_S rfl <| xN [4] [] rfl <| B1 <| C3 rfl rfl trivial ?_
  (rw [b4f fun j hj => hi2 j (by omega)]; simp_all [ofConst])
 refine gF rfl rfl <| gF rfl rfl <| I4 rfl (by assumption) rfl rfl <| y_S rfl <| xN [4] [] rfl <| B1 <| C3 rfl rfl trivial ?_
 (rw [b4f fun j hj => hi2 j (by omega)]; simp_all [ofConst])

theorem b3s : C1 Try.f37 = [0, 2, 3, 7, 17] := by kernel_rfl
theorem c5x (xs : List Int) (hl : xs.length ≤ 1048576) : CW cxT 37 [L xs] = some (bV (wd xs), []) := by
 refine B3 rfl Try.func37 rfl ⟨by kernel_rfl, rfl, dT rfl, dT rfl, by decide⟩ b3s <| A3 <| A0 <| y_S rfl <| xN [0] [] rfl <| A3 <| A3 <| A0 <| y_S rfl <| xN [0,3] [] rfl <| B8 <| G4 (β := Nat) [(.t 0, _)] (fun (i : Nat) => [(.t 3, iV i)]) (fun (i : Nat) => 1 ≤ i ∧ (i ≤ xs.length ∨ i = 1) ∧ ∀ j, j < i → xs.getD j default = xs.getD 0 default) (fun (i : Nat) => xs.length - i) 1 ⟨rfl, rfl, trivial⟩ ⟨Nat.le_refl _, .inr rfl, fun j h => by have h0 : j = 0 := (by omega); rw [h0]⟩ ?_
 intro i hb
 obtain ⟨hi0, hi1, hi2⟩ := hb
 refine A3 <| A3 <| A0 <| y_M rfl <| y_M rfl <| C7 rfl rfl <| J3 rfl rfl <| xN [0,3,7] [] rfl ?_
 refine B5 rfl ?_ ?_ <;> intro hc <;> try simp only [SL] at hc
 ·refine B6 <| A3 <| B8 <| A3 <| A0 <| y_M rfl <| y_M rfl <| A5 rfl rfl rfl (fun _ => rfl) (by omega) <| y_I rfl <| y_M rfl <| A5 rfl rfl rfl (fun _ => rfl) (by (change 0 < _; omega)) <| y_I rfl <| a1z rfl rfl ?_
  refine H1 ⟨fun _ => ⟨by decide +kernel, by decide +kernel⟩, [(.t 0, _), (.t 3, _), (.t 17, _)], ⟨rfl, rfl, rfl, rfl, rfl, rfl, trivial⟩, ?_⟩
  refine B5 rfl ?_ ?_ <;> intro hc <;> try simp only [SL] at hc
  ·refine A3 <| A0 <| y_S rfl <| xN [2] [] rfl <| B1 <| C3 rfl rfl trivial ?_
   exact congrArg bV (c6n (show i < xs.length by omega) hc).symm
  refine B6 <| A0 <| y_M rfl <| J1 rfl rfl (C0 (by omega)) <| y_S rfl <| xN [0,3] [] rfl ?_
  refine ⟨i + 1, ⟨by omega, .inl (by omega), fun j hj => by rcases Nat.lt_succ_iff_lt_or_eq.1 hj with h | h; (· exact hi2 j h); (· subst h; exact hc)⟩, (by omega), ⟨rfl, rfl, trivial⟩⟩
 refine G6 <| A3 <| A0 <| y_S rfl <| xN [2] [] rfl <| B1 <| C3 rfl rfl trivial ?_
 exact congrArg bV (c6y fun j hj => hi2 j (by omega)).symm

theorem a3q : C1 Try.f16 = [0, 1, 4] := by kernel_rfl
theorem b1n (xs ys : List Int) (hl : xs.length ≤ 1048576) (hl2 : ys.length ≤ 1048576) : CW cxT 16 [L xs, L ys] = some (bV (vc xs ys), []) := by
 refine B3 rfl Try.func16 rfl ⟨by kernel_rfl, rfl, dT rfl, dT rfl, by decide⟩ a3q <| A3 <| A0 <| y_S rfl <| xN [0,1] [] rfl <| A3 <| A0 <| y_M rfl <| y_M rfl ?_
 refine xC2 rfl rfl rfl (a8m xs ys hl hl2) ⟨rfl, rfl, rfl⟩ rfl rfl fun g7 => ?_
 refine y_M rfl ?_
 refine F6 rfl rfl ?_ ?_ <;> intro hg0 <;> have hg := hg0 <;> try simp only [SG] at hg
 ·refine y_M rfl <| gT rfl rfl ?_
  refine xC1 rfl rfl (c5x xs hl) ⟨rfl, rfl, rfl⟩ rfl rfl fun g10 => ?_
  refine L6 rfl (by assumption) rfl rfl <| y_S rfl <| xN [4] [] rfl <| B1 <| C3 rfl rfl trivial ?_
  simp_all [vc, ofConst]
 refine gF rfl rfl <| I4 rfl (by assumption) rfl rfl <| y_S rfl <| xN [4] [] rfl <| B1 <| C3 rfl rfl trivial ?_
 simp_all [vc, ofConst]

theorem a2g : C1 Try.f20 = [0, 1, 4] := by kernel_rfl
theorem a8n (xs ys : List Int) (hl : xs.length ≤ 1048576) (hl2 : ys.length ≤ 1048576) : CW cxT 20 [L xs, L ys] = some (bV (vc xs ys), []) := by
 refine B3 rfl Try.func20 rfl ⟨by kernel_rfl, rfl, dT rfl, dT rfl, by decide⟩ a2g <| A3 <| A0 <| y_S rfl <| xN [0,1] [] rfl <| A3 <| A0 <| y_M rfl <| y_M rfl ?_
 refine xC3 rfl rfl rfl rfl (a8p xs ys hl hl2) ⟨rfl, rfl, rfl⟩ rfl rfl fun g7 => ?_
 refine y_M rfl ?_
 refine F6 rfl rfl ?_ ?_ <;> intro hg0 <;> have hg := hg0 <;> try simp only [SG] at hg
 ·refine y_M rfl <| gT rfl rfl ?_
  have hvp : vpS xs ys = true ∧ 1 ≤ xs.length := by simpa using hg0
  have h7 := (b1a.1 hvp.1).2.1
  obtain ⟨_, _, ⟨mn, rfl, rfl, hmn1, hmn2⟩, hCn⟩ := c6h xs ⟨hvp.2, by omega⟩
  obtain ⟨_, _, ⟨mx, rfl, rfl, hmx1, hmx2⟩, hCx⟩ := c6r xs ⟨hvp.2, by omega⟩
  refine xC1 rfl rfl (hCn) ⟨rfl, rfl, rfl⟩ rfl rfl fun g10 => ?_
  refine gT rfl rfl <| y_M rfl <| gT rfl rfl ?_
  refine xC1 rfl rfl (hCx) ⟨rfl, rfl, rfl⟩ rfl rfl fun g12 => ?_
  refine gT rfl rfl <| J3 rfl rfl <| L6 rfl (by assumption) rfl rfl <| y_S rfl <| xN [4] [] rfl <| B1 <| C3 rfl rfl trivial ?_
  (rw [b9n hmn1 hmn2 hmx1 hmx2]; simp_all [vc, ofConst]; done)
 iterate 4 refine gF rfl rfl ?_
 refine I4 rfl (by assumption) rfl rfl <| y_S rfl <| xN [4] [] rfl <| B1 <| C3 rfl rfl trivial ?_
 (simp only [vc]; cases h1 : vpS xs ys <;> simp_all [ofConst, wd]; done)

theorem b2l : C1 Try.f34 = [0, 1, 2, 3, 8, 27] := by kernel_rfl
theorem c4a (xs ys : List Int) (hl : xs.length = ys.length) (h7 : xs.length ≤ 7) (hx : J5 (-12) 12 xs = true) (hy : J5 (-12) 12 ys = true) (i k : Nat) (hi : i < xs.length) (hk : k < xs.length) (hne : xs.getD i default ≠ xs.getD k default) : CW cxT 34 [L xs, L ys, nV i, nV k] = some (qV (slq xs ys i k), []) := by
 have h1 := I5 hx (by decide) i
 have h2 := I5 hx (by decide) k
 have h3 := I5 hy (by decide) i
 have h4 := I5 hy (by decide) k
 refine B3 rfl Try.func34 rfl ⟨by kernel_rfl, rfl, dT rfl, dT rfl, by decide⟩ b2l <| A3 <| A0 <| y_A rfl (fun _ => rfl) ?_
 intro g8
 refine xN [0,1,2,3,8] [8] rfl <| A3 <| A0 <| y_M rfl <| y_M rfl <| A5 rfl rfl rfl (fun _ => rfl) (by omega) <| y_I rfl <| y_M rfl <| y_M rfl <| A5 rfl rfl rfl (fun _ => rfl) (by omega) <| y_I rfl <| b4y rfl rfl (C0 (by omega)) <| y_M rfl <| y_M rfl <| A5 rfl rfl rfl (fun _ => rfl) (by omega) <| y_I rfl <| y_M rfl <| y_M rfl <| A5 rfl rfl rfl (fun _ => rfl) (by omega) <| y_I rfl <| b4y rfl rfl (C0 (by omega)) ?_
 refine xC2 rfl rfl rfl (a1n (ys.getD i default - ys.getD k default) (xs.getD i default - xs.getD k default) (by omega) (by omega) (by omega)) ⟨rfl, rfl, rfl⟩ rfl rfl fun g27 => ?_
 refine xB rfl rfl rfl rfl rfl rfl rfl rfl rfl ?_
 refine H1 ⟨fun _ => ⟨by (simp only [U8, List.nil_append, List.append_nil, List.map_cons, List.map_nil, List.cons_append]; decide +kernel), by decide +kernel⟩, [(.t 8, _), (.h 8, _)], ⟨rfl, rfl, rfl, rfl, trivial⟩, ?_⟩
 refine B1 <| E9 (F0 rfl rfl rfl rfl rfl (G7 D6)) ?_
 rfl

theorem b1r : C1 Try.f46 = [0, 2] := by kernel_rfl
theorem c4k (xs : List Rat) (hx : xs.length ≤ M7) : CW cxT 46 [.own 2 (xs.map qV)] = some (.own 2 (xs.map qV), []) := by
 refine B3 rfl Try.func46 rfl ⟨by kernel_rfl, rfl, dT rfl, dT rfl, by decide⟩ b1r <| A3 <| A0 ?_
 (refine I1 rfl rfl (fun _ => rfl) ?_; intro g2)
 refine xN [0] [0] rfl <| A3 <| A0 <| y_M rfl <| y_M rfl <| a3g rfl rfl <| y_M rfl <| a3g rfl rfl ?_
 refine c5m rfl rfl rfl rfl rfl rfl (fun hz => ?_) (fun hz => ?_)
 ·skip
  (refine I1 rfl rfl (fun _ => rfl) ?_; intro g2)
  refine xN [2] [0,2] rfl <| B1 <| a0j rfl rfl (by (simp; done)) (by rfl) trivial ?_
  (have h0 : xs = [] := (by simpa using hz); subst h0; rfl)
 skip
 (refine xO rfl rfl (by simp) rfl (fun _ => rfl) (fun _ => rfl) ?_; intro g2)
 refine xN [2] [0,2] rfl <| B1 <| a0j rfl rfl (by (simp; done)) (by exact E4 fun _ => rfl) trivial ?_
 rfl

theorem a7e : C1 Try.f17 = [0, 1, 4, 6, 12, 7, 17, 28, 5] := by kernel_rfl
theorem c0u (xs ys : List Int) (hl : xs.length = ys.length) (h7 : xs.length ≤ 7) (hx : J5 (-12) 12 xs = true) (hy : J5 (-12) 12 ys = true) : CW cxT 17 [L xs, L ys] = some (.own 2 ((slA xs ys).map qV), []) := by
 refine B3 rfl Try.func17 rfl ⟨by kernel_rfl, rfl, dT rfl, dT rfl, by decide⟩ a7e <| A3 <| A0 ?_
 (refine I1 rfl rfl (fun _ => rfl) ?_; intro g4)
 refine xN [0,1] [] rfl <| A3 <| A0 <| O7 (es := List.map a7h []) rfl rfl (dT rfl) rfl rfl (fun _ => K3 (E4 fun _ => rfl)) (fun _ => rfl) ?_
 intro g8
 (refine xO rfl rfl (by simp) rfl (fun _ => rfl) (fun _ => rfl) ?_; intro g5)
 refine xN [0,1,5] [5] rfl <| A3 <| A3 <| A0 <| y_S rfl <| xN [0,1,5,6] [5] rfl <| B8 <| G4 (β := Nat × List Rat × Nat) [(.t 0, _), (.t 1, _)] (fun (z : Nat × List Rat × Nat) => match z with | (i, zs, g) => [(.t 6, iV i), (.t 5, .sl 5 g none 0 zs.length), (.h 5, .obj g 0 2 (zs.map qV))]) (fun (z : Nat × List Rat × Nat) => match z with | (i, zs, g) => i ≤ xs.length ∧ zs = slU xs ys i) (fun (z : Nat × List Rat × Nat) => match z with | (i, zs, g) => xs.length - i) (0, [], _) ⟨rfl, rfl, rfl, rfl, rfl, trivial⟩ ⟨Nat.zero_le _, rfl⟩ ?_
 intro z hb
 obtain ⟨i, zs, g⟩ := z
 try dsimp only at hb
 obtain ⟨hi1, hzs⟩ := hb
 have hzl : zs.length ≤ 49 := by have h1 := a1t xs ys i; have h3 := Nat.mul_le_mul (show i ≤ 7 by omega) (show i ≤ 7 by omega); rw [hzs]; omega
 refine A3 <| A3 <| A0 <| y_M rfl <| y_M rfl <| C7 rfl rfl <| J3 rfl rfl <| xN [0,1,5,6,12] [5] rfl ?_
 refine B5 rfl ?_ ?_ <;> intro hc <;> try simp only [SL] at hc
 ·refine B6 <| A3 <| B8 <| A3 <| A0 <| y_S rfl <| xN [0,1,5,6,7] [5] rfl <| B8 <| G4 (β := Nat × List Rat × Nat) [(.t 0, _), (.t 1, _), (.t 6, _)] (fun (z : Nat × List Rat × Nat) => match z with | (k, zs, g) => [(.t 7, iV k), (.t 5, .sl 5 g none 0 zs.length), (.h 5, .obj g 0 2 (zs.map qV))]) (fun (z : Nat × List Rat × Nat) => match z with | (k, zs, g) => k ≤ i ∧ zs = slU xs ys i ++ slV xs ys i k) (fun (z : Nat × List Rat × Nat) => match z with | (k, zs, g) => i - k) (0, zs, g) ⟨rfl, rfl, rfl, rfl, rfl, rfl, trivial⟩ ⟨Nat.zero_le _, by rw [hzs]; simp [slV]⟩ ?_
  intro z hb
  obtain ⟨k, zs, g⟩ := z
  try dsimp only at hb
  obtain ⟨hk1, hzs⟩ := hb
  have hzl : zs.length ≤ 49 + 7 := by have h1 := a1t xs ys i; have h2 := a5w xs ys i k; have h3 := Nat.mul_le_mul (show i ≤ 7 by omega) (show i ≤ 7 by omega); rw [hzs, List.length_append]; omega
  refine A3 <| A3 <| A0 <| y_M rfl <| y_M rfl <| J3 rfl rfl <| xN [0,1,5,6,7,17] [5] rfl ?_
  refine B5 rfl ?_ ?_ <;> intro hc <;> try simp only [SL] at hc
  ·refine B6 <| A3 <| B8 <| A3 <| A0 <| y_M rfl <| y_M rfl <| A5 rfl rfl rfl (fun _ => rfl) (by omega) <| y_I rfl <| y_M rfl <| y_M rfl <| A5 rfl rfl rfl (fun _ => rfl) (by omega) <| y_I rfl <| a1z rfl rfl ?_
   refine H1 ⟨fun _ => ⟨by decide +kernel, by decide +kernel⟩, [(.t 0, _), (.t 1, _), (.t 5, _), (.t 6, _), (.t 7, _), (.t 28, _), (.h 5, _)], ⟨rfl, rfl, rfl, rfl, rfl, rfl, rfl, rfl, rfl, rfl, rfl, rfl, rfl, rfl, trivial⟩, ?_⟩
   refine B5 rfl ?_ ?_ <;> intro hc <;> try simp only [SL] at hc
   ·refine A0 <| y_M rfl <| y_M rfl <| y_M rfl <| A5 rfl rfl rfl (fun _ => rfl) (by omega) <| y_I rfl <| y_M rfl <| y_M rfl <| A5 rfl rfl rfl (fun _ => rfl) (by omega) <| y_I rfl ?_
    have h1 := I5 hx (by decide) i
    have h2 := I5 hx (by decide) k
    have h3 := I5 hy (by decide) i
    have h4 := I5 hy (by decide) k
    refine b4y rfl rfl (C0 (by omega)) <| y_M rfl <| y_M rfl <| A5 rfl rfl rfl (fun _ => rfl) (by omega) <| y_I rfl <| y_M rfl <| y_M rfl <| A5 rfl rfl rfl (fun _ => rfl) (by omega) <| y_I rfl <| b4y rfl rfl (C0 (by omega)) ?_
    refine xC2 rfl rfl rfl (T8 (ys.getD i default - ys.getD k default) (xs.getD i default - xs.getD k default) (by omega) (by omega) (by omega)) ⟨rfl, rfl, rfl⟩ rfl rfl fun g48 => ?_
    refine O7 (es := List.map qV [slq xs ys i k]) rfl rfl (dT rfl) rfl rfl (fun _ => K3 (E4 fun _ => rfl)) (fun _ => rfl) ?_
    intro g49
    refine xA rfl rfl rfl rfl (by simp) (by simp) rfl rfl rfl rfl rfl (fun _ => rfl) (by simp only [LN]; omega) (fun _ => rfl) ?_
    intro g50
    (refine xO rfl rfl (by simp) rfl (fun _ => rfl) (fun _ => rfl) ?_; intro g5)
    refine H1 ⟨fun _ => ⟨by (simp only [U8, List.nil_append, List.append_nil, List.map_cons, List.map_nil, List.cons_append]; decide +kernel), by decide +kernel⟩, [(.t 0, _), (.t 1, _), (.t 5, _), (.t 6, _), (.t 7, _), (.h 5, _)], ⟨rfl, rfl, rfl, rfl, rfl, rfl, rfl, rfl, rfl, rfl, rfl, rfl, trivial⟩, ?_⟩
    refine A0 <| y_M rfl <| J1 rfl rfl (C0 (by omega)) <| y_S rfl <| xN [0,1,5,6,7] [5] rfl ?_
    refine ⟨(k + 1, zs ++ [slq xs ys i k], _), ?_, (by simp only; omega), ⟨rfl, rfl, rfl, rfl, rfl, rfl, trivial⟩⟩
    exact ⟨by omega, by rw [b0y (by assumption), hzs, List.append_assoc]⟩
   refine B6 <| A0 <| y_M rfl <| J1 rfl rfl (C0 (by omega)) <| y_S rfl <| xN [0,1,5,6,7] [5] rfl ?_
   refine ⟨(k + 1, zs, _), ?_, (by simp only; omega), ⟨rfl, rfl, rfl, rfl, rfl, rfl, trivial⟩⟩
   exact ⟨by omega, by rw [b6f (by omega), hzs]⟩
  refine G6 <| A0 <| y_M rfl <| J1 rfl rfl (C0 (by omega)) <| y_S rfl <| xN [0,1,5,6] [5] rfl ?_
  refine ⟨(i + 1, zs, _), ?_, (by simp only; omega), ⟨rfl, rfl, rfl, rfl, rfl, trivial⟩⟩
  exact ⟨by omega, by rw [slU, hzs, show k = i by omega]⟩
 refine G6 <| A3 <| A0 <| y_M rfl ?_
 (refine xO rfl rfl (by simp) rfl (fun _ => rfl) (fun _ => rfl) ?_; intro g4)
 refine xN [4] [4] rfl <| B1 <| a0j rfl rfl (by simp) (by exact E4 fun _ => rfl) trivial ?_
 rw [hzs, slA, show i = xs.length by omega]

theorem a8i : C1 Try.f21 = [0, 1, 4, 10, 9, 11, 6, 14, 13, 15, 7, 25, 5] := by kernel_rfl
theorem b9l (xs ys : List Int) (hl : xs.length = ys.length) (h7 : xs.length ≤ 7) (hx : J5 (-12) 12 xs = true) (hy : J5 (-12) 12 ys = true) : CW cxT 21 [L xs, L ys] = some (.own 2 ((sortQ (slA xs ys)).map qV), []) := by
 refine B3 rfl Try.func21 rfl ⟨by kernel_rfl, rfl, dT rfl, dT rfl, by decide⟩ a8i <| A3 <| A0 ?_
 (refine I1 rfl rfl (fun _ => rfl) ?_; intro g4)
 refine xN [0,1] [] rfl <| A3 <| A0 ?_
 (refine I1 rfl rfl (fun _ => rfl) ?_; intro g5)
 refine xN [0,1,5] [5] rfl <| A3 <| A3 <| A0 <| y_M rfl <| C7 rfl rfl <| y_M rfl <| xN [0,1,5,9,10] [5] rfl <| B8 <| G4 (β := Nat × List Rat × Nat) [(.t 0, _), (.t 1, _), (.t 9, _)] (fun (z : Nat × List Rat × Nat) => match z with | (i, zs, g) => [(.t 10, iV i), (.t 5, .sl 5 g none 0 zs.length), (.h 5, .obj g 0 2 (zs.map qV))]) (fun (z : Nat × List Rat × Nat) => match z with | (i, zs, g) => i ≤ xs.length ∧ zs = slU xs ys i) (fun (z : Nat × List Rat × Nat) => match z with | (i, zs, g) => xs.length - i) (0, [], _) ⟨rfl, rfl, rfl, rfl, rfl, rfl, trivial⟩ ⟨Nat.zero_le _, rfl⟩ ?_
 intro z hb
 obtain ⟨i, zs, g⟩ := z
 try dsimp only at hb
 obtain ⟨hi1, hzs⟩ := hb
 have hzl : zs.length ≤ 49 := by have h1 := a1t xs ys i; have h3 := Nat.mul_le_mul (show i ≤ 7 by omega) (show i ≤ 7 by omega); rw [hzs]; omega
 refine A3 <| A0 <| J3 rfl rfl <| xN [0,1,5,9,10,11] [5] rfl <| A3 ?_
 refine B5 rfl ?_ ?_ <;> intro hc <;> try simp only [SL] at hc
 ·refine B6 <| A3 <| B8 <| A3 <| A0 <| y_M rfl <| y_S rfl <| xN [0,1,5,6,9,10] [5] rfl <| A3 <| A0 <| y_M rfl <| y_M rfl <| xN [0,1,5,6,9,10,13,14] [5] rfl <| B8 <| G4 (β := Nat × List Rat × Nat) [(.t 0, _), (.t 1, _), (.t 6, _), (.t 9, _), (.t 10, _), (.t 13, _)] (fun (z : Nat × List Rat × Nat) => match z with | (k, zs, g) => [(.t 14, iV k), (.t 5, .sl 5 g none 0 zs.length), (.h 5, .obj g 0 2 (zs.map qV))]) (fun (z : Nat × List Rat × Nat) => match z with | (k, zs, g) => k ≤ i ∧ zs = slU xs ys i ++ slV xs ys i k) (fun (z : Nat × List Rat × Nat) => match z with | (k, zs, g) => i - k) (0, zs, g) ⟨rfl, rfl, rfl, rfl, rfl, rfl, rfl, rfl, rfl, trivial⟩ ⟨Nat.zero_le _, by rw [hzs]; simp [slV]⟩ ?_
  intro z hb
  obtain ⟨k, zs, g⟩ := z
  try dsimp only at hb
  obtain ⟨hk1, hzs⟩ := hb
  have hzl : zs.length ≤ 49 + 7 := by have h1 := a1t xs ys i; have h2 := a5w xs ys i k; have h3 := Nat.mul_le_mul (show i ≤ 7 by omega) (show i ≤ 7 by omega); rw [hzs, List.length_append]; omega
  refine A3 <| A0 <| J3 rfl rfl <| xN [0,1,5,6,9,10,13,14,15] [5] rfl <| A3 ?_
  refine B5 rfl ?_ ?_ <;> intro hc <;> try simp only [SL] at hc
  ·refine B6 <| A3 <| B8 <| A3 <| A0 <| y_M rfl <| y_S rfl <| xN [0,1,5,6,7,9,10,13,14] [5] rfl <| A3 <| A0 <| y_M rfl <| y_M rfl <| A5 rfl rfl rfl (fun _ => rfl) (by omega) <| y_I rfl <| y_M rfl <| y_M rfl <| A5 rfl rfl rfl (fun _ => rfl) (by omega) <| y_I rfl <| a1z rfl rfl ?_
   refine H1 ⟨fun _ => ⟨by decide +kernel, by decide +kernel⟩, [(.t 0, _), (.t 1, _), (.t 5, _), (.t 6, _), (.t 7, _), (.t 9, _), (.t 10, _), (.t 13, _), (.t 14, _), (.t 25, _), (.h 5, _)], ⟨rfl, rfl, rfl, rfl, rfl, rfl, rfl, rfl, rfl, rfl, rfl, rfl, rfl, rfl, rfl, rfl, rfl, rfl, rfl, rfl, rfl, rfl, trivial⟩, ?_⟩
   refine B5 rfl ?_ ?_ <;> intro hc <;> try simp only [SL] at hc
   ·refine A0 ?_
    iterate 5 refine y_M rfl ?_
    apply xC rfl
    ·apply A9
     ·exact B9 rfl
     apply A9
     ·exact B9 rfl
     apply A9
     ·exact B9 rfl
     apply A9
     ·exact B9 rfl
     exact F8
    ·exact c4a xs ys hl h7 hx hy i k (by omega) (by omega) hc
    refine ⟨⟨rfl, rfl, rfl, dT rfl, rfl⟩, .inl rfl, D5, E3 rfl, fun _ => rfl, fun g31 => ?_⟩
    refine O7 (es := List.map qV [slq xs ys i k]) rfl rfl (dT rfl) rfl rfl (fun _ => K3 (E4 fun _ => rfl)) (fun _ => rfl) ?_
    intro g32
    refine xA rfl rfl rfl rfl (by simp) (by simp) rfl rfl rfl rfl rfl (fun _ => rfl) (by simp only [LN]; omega) (fun _ => rfl) ?_
    intro g33
    (refine xO rfl rfl (by simp) rfl (fun _ => rfl) (fun _ => rfl) ?_; intro g5)
    refine xN [0,1,5,6,9,10,13,14] [5] rfl <| A0 <| J1 rfl rfl (C0 (by omega)) <| y_M rfl <| xN [0,1,5,6,9,10,13,14] [5] rfl ?_
    refine ⟨(k + 1, zs ++ [slq xs ys i k], _), ?_, (by simp only; omega), ⟨rfl, rfl, rfl, rfl, rfl, rfl, rfl, rfl, rfl, trivial⟩⟩
    exact ⟨by omega, by rw [b0y (by assumption), hzs, List.append_assoc]⟩
   refine B6 <| A0 <| J1 rfl rfl (C0 (by omega)) <| y_M rfl <| xN [0,1,5,6,9,10,13,14] [5] rfl ?_
   refine ⟨(k + 1, zs, _), ?_, (by simp only; omega), ⟨rfl, rfl, rfl, rfl, rfl, rfl, rfl, rfl, rfl, trivial⟩⟩
   exact ⟨by omega, by rw [b6f (by omega), hzs]⟩
  refine G6 <| A0 <| J1 rfl rfl (C0 (by omega)) <| y_M rfl <| xN [0,1,5,9,10] [5] rfl ?_
  refine ⟨(i + 1, zs, _), ?_, (by simp only; omega), ⟨rfl, rfl, rfl, rfl, rfl, rfl, trivial⟩⟩
  exact ⟨by omega, by rw [slU, hzs, show k = i by omega]⟩
 refine G6 <| A3 <| A0 <| y_M rfl ?_
 have hza : zs = slA xs ys := by rw [hzs, slA, show i = xs.length by omega]
 have hsl := b1g (xs := xs) (ys := ys) h7
 apply a4e rfl
 ·apply A9
  ·exact c1b rfl rfl (by decide) (by (simp; done)) (a5z fun _ => rfl)
  apply A9
  ·exact a4c rfl a4s
  exact F8
 ·exact c3z zs (by simp only [M7]; omega) (fun q hq => (a2c hx hy _ q (hza ▸ hq)).mono (by decide))
 ·exact ⟨rfl, rfl, rfl, dT rfl, rfl⟩
 ·exact .inl rfl
 ·exact b9k rfl (by simp) (c2g _ _) D5
 ·exact a7z rfl
 ·(intro _; exact G9 (K3 (E4 fun _ => rfl)) rfl)
 intro g37
 refine xN [5] [5] rfl <| A3 <| A0 <| y_M rfl ?_
 subst hza
 apply xC rfl
 ·apply A9
  ·exact c4h rfl rfl (by (simp; done)) (E4 fun _ => rfl)
  exact F8
 ·exact c4k (sortQ (slA xs ys)) (by simp only [M7, a0a]; omega)
 refine ⟨⟨rfl, rfl, rfl, dT rfl, rfl⟩, .inl rfl, D5, O8, fun _ => rfl, fun g39 => ?_⟩
 (refine xO rfl rfl (by simp) rfl (fun _ => rfl) (fun _ => rfl) ?_; intro g4)
 refine xN [4] [4] rfl <| B1 <| a0j rfl rfl (by simp) (by exact E4 fun _ => rfl) trivial ?_
 rfl

theorem a6s : C1 Try.f8 = [0, 1, 4, 3, 2, 9, 14] := by kernel_rfl
theorem b9w (a : Int × Int) : CW cxT 8 [a7h a, a7h a] = some (bV true, []) := by
 refine B3 rfl Try.func8 rfl ⟨by kernel_rfl, rfl, dT rfl, dT rfl, by decide⟩ a6s <| A3 <| A0 <| H7 rfl rfl rfl (fun _ => C8 rfl) (fun _ => rfl) ?_
 intro g2
 refine H7 rfl rfl rfl (fun _ => C8 rfl) (fun _ => rfl) ?_
 intro g3
 refine y_S rfl <| xN [2,3] [2,3] rfl <| A3 <| A3 <| A0 <| y_F rfl <| y_L rfl <| y_F rfl <| y_L rfl <| a1z rfl rfl <| xN [2,3,9] [2,3] rfl ?_
 refine B5 rfl (fun hc => ?_) (fun hc => ?_)
 ·try simp only [SD] at hc
  exact absurd trivial hc
 try simp only [SL] at hc
 refine B6 <| A3 <| A3 <| A0 <| y_F rfl <| y_L rfl <| y_F rfl <| y_L rfl <| a1z rfl rfl <| xN [14] [] rfl ?_
 refine B5 rfl (fun hc => ?_) (fun hc => ?_)
 ·try simp only [SD] at hc
  exact absurd trivial hc
 try simp only [SL] at hc
 refine B6 <| A3 <| A0 <| y_S rfl <| xN [4] [] rfl <| B1 <| C3 rfl rfl trivial ?_
 rfl

theorem b5c : C1 Try.f27 = [0, 1, 4, 9, 6, 17, 5, 27] := by kernel_rfl
theorem c1c (l : List Rat) (hl : 1 ≤ l.length ∧ l.length ≤ 1000) (hx : ∀ q ∈ l, Sm 1000000000 q) : CW cxT 27 [.list (l.map qV), .clo 26 []] = some (qV (mnQ l), []) := by
 have h01 : l.take 1 = [l.getD 0 default] := by have := E8 (xs := l) (i := 0) (by omega); rw [List.take_zero, List.nil_append] at this; exact this
 refine B3 rfl Try.func27 rfl ⟨by kernel_rfl, rfl, dT rfl, dT rfl, by decide⟩ b5c <| A3 <| A0 <| y_A rfl (fun _ => rfl) ?_
 intro g4
 refine xN [0,1,4] [4] rfl <| A3 <| A3 <| A0 <| y_M rfl <| C7 rfl rfl <| J3 rfl rfl <| xN [0,1,4,9] [4] rfl ?_
 refine B5 rfl (fun hc => ?_) (fun hc => ?_)
 ·try simp only [SD] at hc
  exact absurd hc (by omega)
 try simp only [SL] at hc
 refine B6 <| A3 <| A0 <| y_M rfl <| A5 rfl rfl rfl (fun _ => rfl) (by (change 0 < _; omega)) <| y_I rfl <| y_A rfl (fun _ => rfl) ?_
 intro g5
 refine xB rfl rfl rfl rfl rfl rfl rfl rfl rfl <| xN [0,1,4,5] [4,5] rfl <| A3 <| A3 <| A0 <| y_S rfl <| xN [0,1,4,5,6] [4,5] rfl <| B8 <| G4 (β := Nat × Rat) [(.t 0, _), (.t 1, _), (.t 4, _), (.t 5, _), (.h 4, _)] (fun (z : Nat × Rat) => match z with | (i, v) => [(.t 6, iV i), (.h 5, .obj g5 3 2 [qV v])]) (fun (z : Nat × Rat) => match z with | (i, v) => 1 ≤ i ∧ i ≤ l.length ∧ v = mnQ (l.take i)) (fun (z : Nat × Rat) => match z with | (i, v) => l.length - i) (1, l.getD 0 default) ⟨rfl, rfl, rfl, rfl, rfl, rfl, rfl, trivial⟩ ⟨Nat.le_refl _, hl.1, by rw [h01]; rfl⟩ ?_
 intro z hb
 obtain ⟨i, v⟩ := z
 try dsimp only at hb
 obtain ⟨hi0, hi1, hv⟩ := hb
 have htl : 0 < (l.take i).length := by rw [List.length_take]; omega
 have hvs : Sm 1000000000 v := by rw [hv]; exact hx _ (List.mem_of_mem_take (S8 htl).1)
 refine A3 <| A3 <| A0 <| y_M rfl <| y_M rfl <| C7 rfl rfl <| J3 rfl rfl <| xN [0,1,4,5,6,17] [4,5] rfl ?_
 refine B5 rfl ?_ ?_ <;> intro hc <;> try simp only [SL] at hc
 ·refine B6 <| A3 <| B8 <| A3 <| A0 <| y_M rfl <| y_M rfl <| y_M rfl <| A5 rfl rfl rfl (fun _ => rfl) (by omega) <| y_I rfl <| y_B rfl ?_
  have hxi := hx _ (P9 (xs := l) (i := i) (by omega))
  apply b1h rfl rfl
  ·apply A9
   ·exact B9 rfl
   apply A9
   ·exact B9 rfl
   exact F8
  ·exact s_compare (l.getD i default) v hxi hvs
  ·exact ⟨rfl, rfl, rfl, dT rfl, rfl⟩
  ·exact .inl rfl
  ·exact D5
  ·exact E3 rfl
  ·exact fun _ => rfl
  intro g26
  refine J3 rfl rfl ?_
  refine H1 ⟨fun _ => ⟨by (simp only [U8, List.nil_append, List.append_nil, List.map_cons, List.map_nil, List.cons_append]; decide +kernel), by decide +kernel⟩, [(.t 0, _), (.t 1, _), (.t 4, _), (.t 5, _), (.t 6, _), (.t 27, _), (.h 4, _), (.h 5, _)], ⟨rfl, rfl, rfl, rfl, rfl, rfl, rfl, rfl, rfl, rfl, rfl, rfl, rfl, rfl, rfl, rfl, trivial⟩, ?_⟩
  refine B5 rfl ?_ ?_ <;> intro hc <;> try simp only [SL] at hc
  ·have hlt : (l.getD i default) < v := (b1x (l.getD i default) v).1 (by omega)
   refine A0 <| y_M rfl <| y_M rfl <| A5 rfl rfl rfl (fun _ => rfl) (by omega) <| y_I rfl <| xB rfl rfl rfl rfl rfl rfl rfl rfl rfl <| xN [0,1,4,5,6] [4,5] rfl <| A0 <| y_M rfl <| J1 rfl rfl (C0 (by omega)) <| y_S rfl <| xN [0,1,4,5,6] [4,5] rfl ?_
   refine ⟨(i + 1, (l.getD i default)), ?_, (by simp only; omega), ⟨rfl, rfl, rfl, rfl, rfl, rfl, rfl, trivial⟩⟩
   exact ⟨by omega, by omega, by rw [E8 (by omega), S2 _ htl, ← hv]; rw [if_pos hlt]⟩
  have hge : ¬ (l.getD i default) < v := fun h => by have := (b1x (l.getD i default) v).2 h; omega
  refine B6 <| A0 <| y_M rfl <| J1 rfl rfl (C0 (by omega)) <| y_S rfl <| xN [0,1,4,5,6] [4,5] rfl ?_
  refine ⟨(i + 1, v), ?_, (by simp only; omega), ⟨rfl, rfl, rfl, rfl, rfl, rfl, rfl, trivial⟩⟩
  exact ⟨by omega, by omega, by rw [E8 (by omega), S2 _ htl, ← hv]; rw [if_neg hge]⟩
 refine G6 <| A3 <| A0 <| y_B rfl <| xB rfl rfl rfl rfl rfl rfl rfl rfl rfl <| xN [4] [4] rfl <| B1 <| E9 (F0 rfl rfl rfl rfl rfl (G7 D6)) ?_
 rw [hv, List.take_of_length_le (by omega)]
 rfl

theorem b3k : C1 Try.f25 = [0, 1, 4, 9, 6, 17, 5, 27] := by kernel_rfl
theorem c5u (l : List Rat) (hl : 1 ≤ l.length ∧ l.length ≤ 1000) (hx : ∀ q ∈ l, Sm 1000000000 q) : CW cxT 25 [.list (l.map qV), .clo 26 []] = some (qV (mxQ l), []) := by
 have h01 : l.take 1 = [l.getD 0 default] := by have := E8 (xs := l) (i := 0) (by omega); rw [List.take_zero, List.nil_append] at this; exact this
 refine B3 rfl Try.func25 rfl ⟨by kernel_rfl, rfl, dT rfl, dT rfl, by decide⟩ b3k <| A3 <| A0 <| y_A rfl (fun _ => rfl) ?_
 intro g4
 refine xN [0,1,4] [4] rfl <| A3 <| A3 <| A0 <| y_M rfl <| C7 rfl rfl <| J3 rfl rfl <| xN [0,1,4,9] [4] rfl ?_
 refine B5 rfl (fun hc => ?_) (fun hc => ?_)
 ·try simp only [SD] at hc
  exact absurd hc (by omega)
 try simp only [SL] at hc
 refine B6 <| A3 <| A0 <| y_M rfl <| A5 rfl rfl rfl (fun _ => rfl) (by (change 0 < _; omega)) <| y_I rfl <| y_A rfl (fun _ => rfl) ?_
 intro g5
 refine xB rfl rfl rfl rfl rfl rfl rfl rfl rfl <| xN [0,1,4,5] [4,5] rfl <| A3 <| A3 <| A0 <| y_S rfl <| xN [0,1,4,5,6] [4,5] rfl <| B8 <| G4 (β := Nat × Rat) [(.t 0, _), (.t 1, _), (.t 4, _), (.t 5, _), (.h 4, _)] (fun (z : Nat × Rat) => match z with | (i, v) => [(.t 6, iV i), (.h 5, .obj g5 3 2 [qV v])]) (fun (z : Nat × Rat) => match z with | (i, v) => 1 ≤ i ∧ i ≤ l.length ∧ v = mxQ (l.take i)) (fun (z : Nat × Rat) => match z with | (i, v) => l.length - i) (1, l.getD 0 default) ⟨rfl, rfl, rfl, rfl, rfl, rfl, rfl, trivial⟩ ⟨Nat.le_refl _, hl.1, by rw [h01]; rfl⟩ ?_
 intro z hb
 obtain ⟨i, v⟩ := z
 try dsimp only at hb
 obtain ⟨hi0, hi1, hv⟩ := hb
 have htl : 0 < (l.take i).length := by rw [List.length_take]; omega
 have hvs : Sm 1000000000 v := by rw [hv]; exact hx _ (List.mem_of_mem_take (a0s htl).1)
 refine A3 <| A3 <| A0 <| y_M rfl <| y_M rfl <| C7 rfl rfl <| J3 rfl rfl <| xN [0,1,4,5,6,17] [4,5] rfl ?_
 refine B5 rfl ?_ ?_ <;> intro hc <;> try simp only [SL] at hc
 ·refine B6 <| A3 <| B8 <| A3 <| A0 <| y_M rfl <| y_M rfl <| y_M rfl <| A5 rfl rfl rfl (fun _ => rfl) (by omega) <| y_I rfl <| y_B rfl ?_
  have hxi := hx _ (P9 (xs := l) (i := i) (by omega))
  apply b1h rfl rfl
  ·apply A9
   ·exact B9 rfl
   apply A9
   ·exact B9 rfl
   exact F8
  ·exact s_compare (l.getD i default) v hxi hvs
  ·exact ⟨rfl, rfl, rfl, dT rfl, rfl⟩
  ·exact .inl rfl
  ·exact D5
  ·exact E3 rfl
  ·exact fun _ => rfl
  intro g26
  refine c1e rfl rfl ?_
  refine H1 ⟨fun _ => ⟨by (simp only [U8, List.nil_append, List.append_nil, List.map_cons, List.map_nil, List.cons_append]; decide +kernel), by decide +kernel⟩, [(.t 0, _), (.t 1, _), (.t 4, _), (.t 5, _), (.t 6, _), (.t 27, _), (.h 4, _), (.h 5, _)], ⟨rfl, rfl, rfl, rfl, rfl, rfl, rfl, rfl, rfl, rfl, rfl, rfl, rfl, rfl, rfl, rfl, trivial⟩, ?_⟩
  refine B5 rfl ?_ ?_ <;> intro hc <;> try simp only [SL] at hc
  ·have hlt : v < (l.getD i default) := (c2o (l.getD i default) v).1 (by omega)
   refine A0 <| y_M rfl <| y_M rfl <| A5 rfl rfl rfl (fun _ => rfl) (by omega) <| y_I rfl <| xB rfl rfl rfl rfl rfl rfl rfl rfl rfl <| xN [0,1,4,5,6] [4,5] rfl <| A0 <| y_M rfl <| J1 rfl rfl (C0 (by omega)) <| y_S rfl <| xN [0,1,4,5,6] [4,5] rfl ?_
   refine ⟨(i + 1, (l.getD i default)), ?_, (by simp only; omega), ⟨rfl, rfl, rfl, rfl, rfl, rfl, rfl, trivial⟩⟩
   exact ⟨by omega, by omega, by rw [E8 (by omega), X0 _ htl, ← hv]; rw [if_pos hlt]⟩
  have hge : ¬ v < (l.getD i default) := fun h => by have := (c2o (l.getD i default) v).2 h; omega
  refine B6 <| A0 <| y_M rfl <| J1 rfl rfl (C0 (by omega)) <| y_S rfl <| xN [0,1,4,5,6] [4,5] rfl ?_
  refine ⟨(i + 1, v), ?_, (by simp only; omega), ⟨rfl, rfl, rfl, rfl, rfl, rfl, rfl, trivial⟩⟩
  exact ⟨by omega, by omega, by rw [E8 (by omega), X0 _ htl, ← hv]; rw [if_neg hge]⟩
 refine G6 <| A3 <| A0 <| y_B rfl <| xB rfl rfl rfl rfl rfl rfl rfl rfl rfl <| xN [4] [4] rfl <| B1 <| E9 (F0 rfl rfl rfl rfl rfl (G7 D6)) ?_
 rw [hv, List.take_of_length_le (by omega)]
 rfl

theorem a9i : C1 Try.f7 = [0, 1, 4, 5, 15, 21, 20, 22, 19, 27, 26, 28, 25, 11, 8, 10, 9, 6, 57] := by kernel_rfl
theorem c2i (xs ys : List Int) (hl : xs.length ≤ 1048576) (hl2 : ys.length ≤ 1048576) : CW cxT 7 [L xs, L ys] = some (.tup [a7h (stX xs ys), bV (vc xs ys)], []) := by
 refine B3 rfl Try.func7 rfl ⟨by kernel_rfl, rfl, dT rfl, dT rfl, by decide⟩ a9i <| A3 <| A0 <| y_A rfl (fun _ => rfl) ?_
 intro g4
 refine y_S rfl <| xN [0,1,4] [4] rfl <| A3 <| A3 <| A0 <| y_M rfl <| y_M rfl ?_
 refine xC2 rfl rfl rfl (a8n xs ys hl hl2) ⟨rfl, rfl, rfl⟩ rfl rfl fun g14 => ?_
 refine a3f rfl <| xN [0,1,4,15] [4] rfl ?_
 refine B5 rfl ?_ ?_ <;> intro hc <;> try simp only [SL] at hc
 ·have hvc : ¬ vc xs ys = true := by simpa using hc
  refine A3 <| A0 <| M0 (fs := [_, _]) rfl rfl rfl rfl rfl <| xB rfl rfl rfl rfl rfl rfl rfl rfl rfl <| y_S rfl <| xN [4,5] [4] rfl <| B1 <| E9 (F0 rfl rfl rfl rfl rfl (b1e rfl rfl (G7 D6))) ?_
  rw [stX, if_neg hvc, Bool.eq_false_iff.2 hvc]
  rfl
 have hvc : vc xs ys = true := by exact hc
 have hv := c2k.1 hvc
 obtain ⟨hl3, h7, hx, hy, hw⟩ := hv
 have hsl := b1g (xs := xs) (ys := ys) h7
 have hsp := b8g (ys := ys) hw
 have hsm : ∀ i, i < (sortQ (slA xs ys)).length → Sm 24 ((sortQ (slA xs ys)).getD i default) := fun i hi => a6y (a2c hx hy _) _ (P9 hi)
 have hsq := a0a (slA xs ys)
 have hd1 := a9s (n := (sortQ (slA xs ys)).length) (by omega)
 have hd2 := b8t (sortQ (slA xs ys)).length
 refine B6 <| A3 <| A0 ?_
 (refine I1 rfl rfl (fun _ => rfl) ?_; intro g6)
 refine xN [0,1,4,6] [4,6] rfl <| A3 <| A3 <| A0 <| y_M rfl <| y_M rfl ?_
 apply a4e rfl
 ·apply A9
  ·exact B9 rfl
  apply A9
  ·exact B9 rfl
  exact F8
 ·exact b9l xs ys hl3 h7 hx hy
 ·exact ⟨rfl, rfl, rfl, dT rfl, rfl⟩
 ·exact .inl rfl
 ·exact D5
 ·exact O8
 ·(intro _; exact G9 (K3 (E4 fun _ => rfl)) rfl)
 intro g19
 simp only [List.length_map]
 refine a3g rfl rfl <| y_M rfl <| xN [0,1,4,6,19,20,21] [4,6,1000019] rfl <| B8 <| G4 (β := Nat × List Rat × Nat) [(.t 0, _), (.t 1, _), (.t 4, _), (.t 19, _), (.t 20, _), (.h 4, _), (.h 1000019, _)] (fun (z : Nat × List Rat × Nat) => match z with | (a, hs, g) => [(.t 21, iV a), (.t 6, .sl 6 g none 0 hs.length), (.h 6, .obj g 0 2 (hs.map qV))]) (fun (z : Nat × List Rat × Nat) => match z with | (a, hs, g) => a ≤ (sortQ (slA xs ys)).length ∧ hs = ((sortQ (slA xs ys)).take a).map (brd xs ys)) (fun (z : Nat × List Rat × Nat) => match z with | (a, hs, g) => (sortQ (slA xs ys)).length - a) (0, [], _) ⟨rfl, rfl, rfl, rfl, rfl, rfl, rfl, rfl, rfl, rfl, trivial⟩ ⟨Nat.zero_le _, rfl⟩ ?_
 intro z hb
 obtain ⟨a, hs, g⟩ := z
 try dsimp only at hb
 obtain ⟨ha1, hhs⟩ := hb
 have hhl : hs.length = a := by rw [hhs, List.length_map, List.length_take]; omega
 refine A3 <| A0 <| J3 rfl rfl <| xN [0,1,4,6,19,20,21,22] [4,6,1000019] rfl <| A3 ?_
 refine B5 rfl ?_ ?_ <;> intro hc <;> try simp only [SL] at hc
 ·have hsa := hsm a (by omega)
  refine B6 <| A3 <| B8 <| A3 <| A0 <| V5 rfl rfl rfl rfl (by omega) (by (simp; done)) rfl <| a1d rfl rfl (by omega) (fun _ => rfl) (fun _ => rfl) rfl <| y_A rfl (fun _ => rfl) ?_
  intro g8
  refine xB rfl rfl rfl rfl rfl rfl rfl rfl rfl <| xN [0,1,4,6,8,19,20,21] [4,6,8,1000019] rfl <| A3 <| A0 ?_
  (refine I1 rfl rfl (fun _ => rfl) ?_; intro g9)
  refine xN [0,1,4,6,8,9,19,20,21] [4,6,8,9,1000019] rfl <| A3 <| A3 <| A0 <| y_M rfl <| C7 rfl rfl <| y_M rfl <| xN [0,1,4,6,8,9,19,20,21,25,26,27] [4,6,8,9,1000019] rfl <| B8 <| G4 (β := Nat × List Rat × Nat) [(.t 0, _), (.t 1, _), (.t 4, _), (.t 6, _), (.t 8, _), (.t 19, _), (.t 20, _), (.t 21, _), (.t 25, _), (.t 26, _), (.h 4, _), (.h 6, _), (.h 8, _), (.h 1000019, _)] (fun (z : Nat × List Rat × Nat) => match z with | (i, ls, g1) => [(.t 27, iV i), (.t 9, .sl 9 g1 none 0 ls.length), (.h 9, .obj g1 0 2 (ls.map qV))]) (fun (z : Nat × List Rat × Nat) => match z with | (i, ls, g1) => i ≤ xs.length ∧ ls = (List.range i).map (lfQ xs ys ((sortQ (slA xs ys)).getD a default))) (fun (z : Nat × List Rat × Nat) => match z with | (i, ls, g1) => xs.length - i) (0, [], _) ⟨rfl, rfl, rfl, rfl, rfl, rfl, rfl, rfl, rfl, rfl, rfl, rfl, rfl, rfl, rfl, rfl, rfl, trivial⟩ ⟨Nat.zero_le _, rfl⟩ ?_
  intro z hb
  obtain ⟨i, ls, g1⟩ := z
  try dsimp only at hb
  obtain ⟨hi1, hls⟩ := hb
  have hll : ls.length = i := by rw [hls]; simp
  refine A3 <| A0 <| J3 rfl rfl <| xN [0,1,4,6,8,9,19,20,21,25,26,27,28] [4,6,8,9,1000019] rfl <| A3 ?_
  refine B5 rfl ?_ ?_ <;> intro hc <;> try simp only [SL] at hc
  ·have hxi := b8z hx i
   have hyi := b8z hy i
   refine B6 <| A3 <| B8 <| A3 <| A0 <| y_M rfl <| A5 rfl rfl rfl (fun _ => rfl) (by omega) <| y_I rfl <| y_S rfl <| y_S rfl <| xN [0,1,4,6,8,9,10,11,19,20,21,25,26,27] [4,6,8,9,1000019] rfl <| A0 <| y_M rfl <| y_M rfl <| y_M rfl <| A5 rfl rfl rfl (fun _ => rfl) (by omega) <| y_I rfl ?_
   refine xC1 rfl rfl (b8o (ys.getD i default)) ⟨rfl, rfl, rfl⟩ rfl rfl fun g37 => ?_
   refine y_B rfl <| y_M rfl ?_
   refine xC1 rfl rfl (b8o (xs.getD i default)) ⟨rfl, rfl, rfl⟩ rfl rfl fun g40 => ?_
   refine xC2 rfl rfl rfl (b4r ((sortQ (slA xs ys)).getD a default) (xQ xs i) (hsa.mono (by decide)) (hxi.mono (by decide))) ⟨rfl, rfl, rfl⟩ rfl rfl fun g41 => ?_
   refine xC2 rfl rfl rfl (a0q (xQ ys i) (((sortQ (slA xs ys)).getD a default) * xQ xs i) (hyi.mono (by decide)) ((hsa.mul hxi).mono (by decide))) ⟨rfl, rfl, rfl⟩ rfl rfl fun g42 => ?_
   refine O7 (es := List.map qV [lfQ xs ys ((sortQ (slA xs ys)).getD a default) i]) rfl rfl (dT rfl) rfl rfl (fun _ => K3 (E4 fun _ => rfl)) (fun _ => rfl) ?_
   intro g43
   refine xA rfl rfl rfl rfl (by simp) (by simp) rfl rfl rfl rfl rfl (fun _ => rfl) (by simp only [LN]; omega) (fun _ => rfl) ?_
   intro g44
   (refine xO rfl rfl (by simp) rfl (fun _ => rfl) (fun _ => rfl) ?_; intro g9)
   refine H1 ⟨fun _ => ⟨by (simp only [U8, List.nil_append, List.append_nil, List.map_cons, List.map_nil, List.cons_append]; decide +kernel), by decide +kernel⟩, [(.t 0, _), (.t 1, _), (.t 4, _), (.t 6, _), (.t 8, _), (.t 9, _), (.t 19, _), (.t 20, _), (.t 21, _), (.t 25, _), (.t 26, _), (.t 27, _), (.h 4, _), (.h 6, _), (.h 8, _), (.h 9, _), (.h 1000019, _)], ⟨rfl, rfl, rfl, rfl, rfl, rfl, rfl, rfl, rfl, rfl, rfl, rfl, rfl, rfl, rfl, rfl, rfl, rfl, rfl, rfl, rfl, rfl, rfl, rfl, rfl, rfl, rfl, rfl, rfl, rfl, rfl, rfl, rfl, rfl, trivial⟩, ?_⟩
   refine A0 <| J1 rfl rfl (C0 (by omega)) <| y_M rfl <| xN [0,1,4,6,8,9,19,20,21,25,26,27] [4,6,8,9,1000019] rfl ?_
   refine ⟨(i + 1, _, _), ?_, (by simp only; omega), ⟨rfl, rfl, rfl, rfl, rfl, rfl, rfl, rfl, rfl, rfl, rfl, rfl, rfl, rfl, rfl, rfl, rfl, trivial⟩⟩
   exact ⟨by omega, by rw [P4, hls]⟩
  refine G6 <| A0 <| y_M rfl <| y_M rfl ?_
  have hle : ls = lfL xs ys ((sortQ (slA xs ys)).getD a default) := by rw [hls, show i = xs.length by omega]; rfl
  subst hle
  have hlm := b6j hx hy hsa
  have hlb : (lfL xs ys ((sortQ (slA xs ys)).getD a default)).length = xs.length := by simp [lfL]
  have hl0 : 0 < (lfL xs ys ((sortQ (slA xs ys)).getD a default)).length := by have := b7q hw; omega
  apply xC rfl
  ·apply A9
   ·exact G3 rfl rfl rfl (by (simp; done)) (fun _ => rfl)
   apply A9
   ·exact a4c rfl a4s
   exact F8
  ·exact c5u (lfL xs ys ((sortQ (slA xs ys)).getD a default)) (by omega) (fun q h => (hlm q h).mono (by decide))
  refine ⟨⟨rfl, rfl, rfl, dT rfl, rfl⟩, .inr ⟨rfl, rfl⟩, D5, E3 rfl, fun _ => rfl, fun g48 => ?_⟩
  refine y_M rfl ?_
  apply xC rfl
  ·apply A9
   ·exact G3 rfl rfl rfl (by (simp; done)) (fun _ => rfl)
   apply A9
   ·exact a4c rfl a4s
   exact F8
  ·exact c1c (lfL xs ys ((sortQ (slA xs ys)).getD a default)) (by omega) (fun q h => (hlm q h).mono (by decide))
  refine ⟨⟨rfl, rfl, rfl, dT rfl, rfl⟩, .inr ⟨rfl, rfl⟩, D5, E3 rfl, fun _ => rfl, fun g50 => ?_⟩
  refine xC2 rfl rfl rfl (a0q (mxQ (lfL xs ys ((sortQ (slA xs ys)).getD a default))) (mnQ (lfL xs ys ((sortQ (slA xs ys)).getD a default))) ((hlm _ (a0s hl0).1).mono (by decide)) ((hlm _ (S8 hl0).1).mono (by decide))) ⟨rfl, rfl, rfl⟩ rfl rfl fun g51 => ?_
  refine xC1 rfl rfl (c5z (mxQ (lfL xs ys ((sortQ (slA xs ys)).getD a default)) - mnQ (lfL xs ys ((sortQ (slA xs ys)).getD a default))) (((hlm _ (a0s hl0).1).sub (hlm _ (S8 hl0).1)).mono (by decide))) ⟨rfl, rfl, rfl⟩ rfl rfl fun g52 => ?_
  refine O7 (es := List.map qV [brd xs ys ((sortQ (slA xs ys)).getD a default)]) rfl rfl (dT rfl) rfl rfl (fun _ => K3 (E4 fun _ => rfl)) (fun _ => rfl) ?_
  intro g53
  refine xA rfl rfl rfl rfl (by simp) (by simp) rfl rfl rfl rfl rfl (fun _ => rfl) (by simp only [LN]; omega) (fun _ => rfl) ?_
  intro g54
  (refine xO rfl rfl (by simp) rfl (fun _ => rfl) (fun _ => rfl) ?_; intro g6)
  refine xN [0,1,4,6,19,20,21] [4,6,1000019] rfl <| A0 <| J1 rfl rfl (C0 (by omega)) <| y_M rfl <| xN [0,1,4,6,19,20,21] [4,6,1000019] rfl ?_
  refine ⟨(a + 1, _, _), ?_, (by simp only; omega), ⟨rfl, rfl, rfl, rfl, rfl, rfl, rfl, rfl, rfl, rfl, trivial⟩⟩
  exact ⟨by omega, by rw [E8 (by omega), List.map_append, hhs]; rfl⟩
 refine G6 <| A3 <| A0 <| y_M rfl ?_
 have hhe : hs = (sortQ (slA xs ys)).map (brd xs ys) := by rw [hhs, List.take_of_length_le (by omega)]
 subst hhe
 apply xC rfl
 ·apply A9
  ·exact G3 rfl rfl rfl (by (simp; done)) (fun _ => rfl)
  apply A9
  ·exact a4c rfl a4s
  exact F8
 ·exact c1c ((sortQ (slA xs ys)).map (brd xs ys)) (by rw [List.length_map]; omega) (fun q h => by obtain ⟨s, hs, rfl⟩ := List.mem_map.1 h; exact (b6r hx hy (a6y (a2c hx hy _) _ hs) (by have := b7q hw; omega)).mono (by decide))
 refine ⟨⟨rfl, rfl, rfl, dT rfl, rfl⟩, .inr ⟨rfl, rfl⟩, D5, E3 rfl, fun _ => rfl, fun g57 => ?_⟩
 refine xB rfl rfl rfl rfl rfl rfl rfl rfl rfl <| y_S rfl <| xN [4,5] [4] rfl <| B1 <| E9 (F0 rfl rfl rfl rfl rfl (b1e rfl rfl (G7 D6))) ?_
 rw [stX, if_pos hvc, hvc, ← c2q]
 rfl

theorem b5g : C1 Try.f39 = [0, 1, 2, 3, 8, 7, 6, 17] := by kernel_rfl
theorem c1f (x y : Int) (hx : -12 ≤ x ∧ x ≤ 12) (hy : -12 ≤ y ∧ y ≤ 12) (s h : Rat) (hs : Sm 24 s) (hh : Sm 12 h) : CW cxT 39 [iV x, iV y, qV s, qV h] = some (qV ((y : Rat) - (s * (x : Rat) + h)), []) := by
 have hxs : Sm 12 (x : Rat) := c1l hx (by decide)
 have hys : Sm 12 (y : Rat) := c1l hy (by decide)
 refine B3 rfl Try.func39 rfl ⟨by kernel_rfl, rfl, dT rfl, dT rfl, by decide⟩ b5g <| A3 <| A0 <| H7 rfl rfl rfl (fun _ => C8 rfl) (fun _ => rfl) ?_
 intro g6
 refine H7 rfl rfl rfl (fun _ => C8 rfl) (fun _ => rfl) ?_
 intro g7
 refine y_A rfl (fun _ => rfl) ?_
 intro g8
 refine xN [0,1,6,7,8] [6,7,8] rfl <| A3 <| A0 <| y_M rfl ?_
 refine xC2 rfl rfl rfl ((by have h := T8 y 1 (by omega) (by decide) (by omega); rw [show Rat.divInt y 1 = ((y : Int) : Rat) from a4x _] at h; exact h)) ⟨rfl, rfl, rfl⟩ rfl rfl fun g10 => ?_
 refine y_B rfl <| y_M rfl ?_
 refine xC2 rfl rfl rfl ((by have h := T8 x 1 (by omega) (by decide) (by omega); rw [show Rat.divInt x 1 = ((x : Int) : Rat) from a4x _] at h; exact h)) ⟨rfl, rfl, rfl⟩ rfl rfl fun g13 => ?_
 refine xC2 rfl rfl rfl (b4l s (x : Rat) (hs.mono (by decide)) (hxs.mono (by decide))) ⟨rfl, rfl, rfl⟩ rfl rfl fun g14 => ?_
 refine y_B rfl ?_
 refine xC2 rfl rfl rfl (c3y (s * (x : Rat)) h ((hs.mul hxs).mono (by decide)) (hh.mono (by decide))) ⟨rfl, rfl, rfl⟩ rfl rfl fun g16 => ?_
 refine xC2 rfl rfl rfl (b3y (y : Rat) (s * (x : Rat) + h) (hys.mono (by decide)) (((hs.mul hxs).add hh).mono (by decide))) ⟨rfl, rfl, rfl⟩ rfl rfl fun g17 => ?_
 refine xB rfl rfl rfl rfl rfl rfl rfl rfl rfl ?_
 refine H1 ⟨fun _ => ⟨by (simp only [U8, List.nil_append, List.append_nil, List.map_cons, List.map_nil, List.cons_append]; decide +kernel), by decide +kernel⟩, [(.t 8, _), (.h 8, _)], ⟨rfl, rfl, rfl, rfl, trivial⟩, ?_⟩
 refine B1 <| E9 (F0 rfl rfl rfl rfl rfl (G7 D6)) ?_
 rfl

theorem a6q : C1 Try.f18 = [0, 1, 2, 6, 5, 7, 9, 24, 10, 40, 8, 44, 19, 37, 50] := by kernel_rfl
theorem b0n (xs ys : List Int) (hl3 : xs.length = ys.length) (h7 : xs.length ≤ 7) (hn : 1 ≤ xs.length) (hx : J5 (-12) 12 xs = true) (hy : J5 (-12) 12 ys = true) (s : Rat) (hs : Sm 24 s) : CW cxT 18 [L xs, L ys, qV s] = some (qV (brd xs ys s), []) := by
 refine B3 rfl Try.func18 rfl ⟨by kernel_rfl, rfl, dT rfl, dT rfl, by decide⟩ a6q <| A3 <| A0 <| H7 rfl rfl rfl (fun _ => C8 rfl) (fun _ => rfl) ?_
 intro g5
 refine y_A rfl (fun _ => rfl) ?_
 intro g6
 refine xN [0,1,5,6] [5,6] rfl <| A3 <| A0 <| y_M rfl <| A5 rfl rfl rfl (fun _ => rfl) (by (change 0 < _; omega)) <| y_I rfl <| y_M rfl <| A5 rfl rfl rfl (fun _ => rfl) (by (change 0 < _; omega)) <| y_I rfl <| y_B rfl ?_
 refine xC2 rfl rfl rfl ((by have h := T8 0 1 (by decide) (by decide) (by decide); rw [show Rat.divInt 0 1 = (0 : Rat) by decide +kernel] at h; exact h)) ⟨rfl, rfl, rfl⟩ rfl rfl fun g18 => ?_
 have hx0 := I5 hx (by decide) 0
 have hy0 := I5 hy (by decide) 0
 have hq0 := b2g hx hy hs 0
 apply xC rfl
 ·apply A9
  ·exact B9 rfl
  apply A9
  ·exact B9 rfl
  apply A9
  ·exact B9 rfl
  apply A9
  ·exact B9 rfl
  exact F8
 ·exact (by have h := c1f (xs.getD 0 default) (ys.getD 0 default) hx0 hy0 s 0 hs (c1l (n := 0) (by decide) (by decide)); rw [Rat.add_zero] at h; exact (show CW cxT 39 [_, _, _, _] = some (qV (lfQ xs ys s 0), []) from h))
 refine ⟨⟨rfl, rfl, rfl, dT rfl, rfl⟩, .inl rfl, D5, E3 rfl, fun _ => rfl, fun g19 => ?_⟩
 refine y_A rfl (fun _ => rfl) ?_
 intro g7
 refine xB rfl rfl rfl rfl rfl rfl rfl rfl rfl ?_
 refine H1 ⟨fun _ => ⟨by (simp only [U8, List.nil_append, List.append_nil, List.map_cons, List.map_nil, List.cons_append]; decide +kernel), by decide +kernel⟩, [(.t 0, _), (.t 1, _), (.t 5, _), (.t 6, _), (.t 7, _), (.h 5, _), (.h 6, _), (.h 7, _)], ⟨rfl, rfl, rfl, rfl, rfl, rfl, rfl, rfl, rfl, rfl, rfl, rfl, rfl, rfl, rfl, rfl, trivial⟩, ?_⟩
 refine A3 <| A0 <| y_B rfl <| y_A rfl (fun _ => rfl) ?_
 intro g8
 refine xB rfl rfl rfl rfl rfl rfl rfl rfl rfl <| xN [0,1,5,6,7,8] [5,6,7,8] rfl <| A3 <| A3 <| A0 <| y_S rfl <| xN [0,1,5,6,7,8,9] [5,6,7,8] rfl <| B8 <| G4 (β := Nat × Rat × Rat) [(.t 0, _), (.t 1, _), (.t 5, _), (.t 6, _), (.t 7, _), (.t 8, _), (.h 5, _), (.h 6, _)] (fun (z : Nat × Rat × Rat) => match z with | (i, lo, hi) => [(.t 9, iV i), (.h 7, .obj g7 3 2 [qV lo]), (.h 8, .obj g8 3 2 [qV hi])]) (fun (z : Nat × Rat × Rat) => match z with | (i, lo, hi) => 1 ≤ i ∧ i ≤ xs.length ∧ lo = mnQ ((List.range i).map (lfQ xs ys s)) ∧ hi = mxQ ((List.range i).map (lfQ xs ys s))) (fun (z : Nat × Rat × Rat) => match z with | (i, lo, hi) => xs.length - i) (1, lfQ xs ys s 0, lfQ xs ys s 0) ⟨rfl, rfl, rfl, rfl, rfl, rfl, rfl, rfl, rfl, rfl, rfl, trivial⟩ ⟨Nat.le_refl _, hn, rfl, rfl⟩ ?_
 intro z hb
 obtain ⟨i, lo, hi⟩ := z
 try dsimp only at hb
 obtain ⟨hi0, hi1, hlo, hhi⟩ := hb
 have hl0 : 0 < ((List.range i).map (lfQ xs ys s)).length := by simp; omega
 have hls : ∀ q ∈ ((List.range i).map (lfQ xs ys s)), Sm 6912 q := fun q h => by obtain ⟨j, _, rfl⟩ := List.mem_map.1 h; exact b2g hx hy hs j
 have hlos : Sm 6912 lo := by rw [hlo]; exact hls _ (S8 hl0).1
 have hhis : Sm 6912 hi := by rw [hhi]; exact hls _ (a0s hl0).1
 refine A3 <| A3 <| A0 <| y_M rfl <| y_M rfl <| C7 rfl rfl <| J3 rfl rfl <| xN [0,1,5,6,7,8,9,24] [5,6,7,8] rfl ?_
 refine B5 rfl ?_ ?_ <;> intro hc <;> try simp only [SL] at hc
 ·refine B6 <| A3 <| B8 <| A3 <| A0 <| y_M rfl <| y_M rfl <| A5 rfl rfl rfl (fun _ => rfl) (by omega) <| y_I rfl <| y_M rfl <| y_M rfl <| A5 rfl rfl rfl (fun _ => rfl) (by omega) <| y_I rfl <| y_B rfl ?_
  refine xC2 rfl rfl rfl ((by have h := T8 0 1 (by decide) (by decide) (by decide); rw [show Rat.divInt 0 1 = (0 : Rat) by decide +kernel] at h; exact h)) ⟨rfl, rfl, rfl⟩ rfl rfl fun g36 => ?_
  have hxi := I5 hx (by decide) i
  have hyi := I5 hy (by decide) i
  have hqi := b2g hx hy hs i
  apply xC rfl
  ·apply A9
   ·exact B9 rfl
   apply A9
   ·exact B9 rfl
   apply A9
   ·exact B9 rfl
   apply A9
   ·exact B9 rfl
   exact F8
  ·exact (by have h := c1f (xs.getD i default) (ys.getD i default) hxi hyi s 0 hs (c1l (n := 0) (by decide) (by decide)); rw [Rat.add_zero] at h; exact (show CW cxT 39 [_, _, _, _] = some (qV (lfQ xs ys s i), []) from h))
  refine ⟨⟨rfl, rfl, rfl, dT rfl, rfl⟩, .inl rfl, D5, E3 rfl, fun _ => rfl, fun g37 => ?_⟩
  refine y_A rfl (fun _ => rfl) ?_
  intro g10
  refine xB rfl rfl rfl rfl rfl rfl rfl rfl rfl ?_
  refine H1 ⟨fun _ => ⟨by (simp only [U8, List.nil_append, List.append_nil, List.map_cons, List.map_nil, List.cons_append]; decide +kernel), by decide +kernel⟩, [(.t 0, _), (.t 1, _), (.t 5, _), (.t 6, _), (.t 7, _), (.t 8, _), (.t 9, _), (.t 10, _), (.h 5, _), (.h 6, _), (.h 7, _), (.h 8, _), (.h 10, _)], ⟨rfl, rfl, rfl, rfl, rfl, rfl, rfl, rfl, rfl, rfl, rfl, rfl, rfl, rfl, rfl, rfl, rfl, rfl, rfl, rfl, rfl, rfl, rfl, rfl, rfl, rfl, trivial⟩, ?_⟩
  refine A3 <| A3 <| A0 <| y_B rfl <| y_B rfl ?_
  refine xC2 rfl rfl rfl (a6f (lfQ xs ys s i) lo (hqi.mono (by decide)) (hlos.mono (by decide))) ⟨rfl, rfl, rfl⟩ rfl rfl fun g40 => ?_
  refine xN [0,1,5,6,7,8,9,10,40] [5,6,7,8,10] rfl ?_
  refine B5 rfl ?_ ?_ <;> intro hc <;> try simp only [SL] at hc
  ·refine A0 <| y_B rfl <| xB rfl rfl rfl rfl rfl rfl rfl rfl rfl <| xN [0,1,5,6,7,8,9,10] [5,6,7,8,10] rfl <| A3 <| A0 <| y_B rfl <| y_B rfl ?_
   refine xC2 rfl rfl rfl (a6f hi (lfQ xs ys s i) (hhis.mono (by decide)) (hqi.mono (by decide))) ⟨rfl, rfl, rfl⟩ rfl rfl fun g44 => ?_
   refine xN [0,1,5,6,7,8,9,10,44] [5,6,7,8,10] rfl ?_
   refine B5 rfl ?_ ?_ <;> intro hc <;> try simp only [SL] at hc
   ·refine A0 <| y_B rfl <| xB rfl rfl rfl rfl rfl rfl rfl rfl rfl <| xN [0,1,5,6,7,8,9] [5,6,7,8] rfl <| A0 <| y_M rfl <| J1 rfl rfl (C0 (by omega)) <| y_S rfl <| xN [0,1,5,6,7,8,9] [5,6,7,8] rfl ?_
    refine ⟨(i + 1, lfQ xs ys s i, lfQ xs ys s i), ?_, (by simp only; omega), ⟨rfl, rfl, rfl, rfl, rfl, rfl, rfl, rfl, rfl, rfl, rfl, trivial⟩⟩
    exact ⟨by omega, by omega, by rw [P4, S2 _ hl0, ← hlo]; exact (if_pos (by assumption)).symm, by rw [P4, X0 _ hl0, ← hhi]; exact (if_pos (by assumption)).symm⟩
   refine B6 <| A0 <| y_M rfl <| J1 rfl rfl (C0 (by omega)) <| y_S rfl <| xN [0,1,5,6,7,8,9] [5,6,7,8] rfl ?_
   refine ⟨(i + 1, lfQ xs ys s i, hi), ?_, (by simp only; omega), ⟨rfl, rfl, rfl, rfl, rfl, rfl, rfl, rfl, rfl, rfl, rfl, trivial⟩⟩
   exact ⟨by omega, by omega, by rw [P4, S2 _ hl0, ← hlo]; exact (if_pos (by assumption)).symm, by rw [P4, X0 _ hl0, ← hhi]; exact (if_neg (by assumption)).symm⟩
  refine B6 <| A3 <| A0 <| y_B rfl <| y_B rfl ?_
  refine xC2 rfl rfl rfl (a6f hi (lfQ xs ys s i) (hhis.mono (by decide)) (hqi.mono (by decide))) ⟨rfl, rfl, rfl⟩ rfl rfl fun g44 => ?_
  refine xN [0,1,5,6,7,8,9,10,44] [5,6,7,8,10] rfl ?_
  refine B5 rfl ?_ ?_ <;> intro hc <;> try simp only [SL] at hc
  ·refine A0 <| y_B rfl <| xB rfl rfl rfl rfl rfl rfl rfl rfl rfl <| xN [0,1,5,6,7,8,9] [5,6,7,8] rfl <| A0 <| y_M rfl <| J1 rfl rfl (C0 (by omega)) <| y_S rfl <| xN [0,1,5,6,7,8,9] [5,6,7,8] rfl ?_
   refine ⟨(i + 1, lo, lfQ xs ys s i), ?_, (by simp only; omega), ⟨rfl, rfl, rfl, rfl, rfl, rfl, rfl, rfl, rfl, rfl, rfl, trivial⟩⟩
   exact ⟨by omega, by omega, by rw [P4, S2 _ hl0, ← hlo]; exact (if_neg (by assumption)).symm, by rw [P4, X0 _ hl0, ← hhi]; exact (if_pos (by assumption)).symm⟩
  refine B6 <| A0 <| y_M rfl <| J1 rfl rfl (C0 (by omega)) <| y_S rfl <| xN [0,1,5,6,7,8,9] [5,6,7,8] rfl ?_
  refine ⟨(i + 1, lo, hi), ?_, (by simp only; omega), ⟨rfl, rfl, rfl, rfl, rfl, rfl, rfl, rfl, rfl, rfl, rfl, trivial⟩⟩
  exact ⟨by omega, by omega, by rw [P4, S2 _ hl0, ← hlo]; exact (if_neg (by assumption)).symm, by rw [P4, X0 _ hl0, ← hhi]; exact (if_neg (by assumption)).symm⟩
 refine G6 <| A3 <| A0 <| y_B rfl <| y_B rfl ?_
 obtain rfl : i = xs.length := by omega
 have eh : hi = mxQ (lfL xs ys s) := hhi
 have el : lo = mnQ (lfL xs ys s) := hlo
 refine xC2 rfl rfl rfl (b3y hi lo (hhis.mono (by decide)) (hlos.mono (by decide))) ⟨rfl, rfl, rfl⟩ rfl rfl fun g48 => ?_
 refine xC2 rfl rfl rfl ((by have h := T8 1 2 (by decide) (by decide) (by decide); rw [show Rat.divInt 1 2 = (1 / 2 : Rat) by decide +kernel] at h; exact h)) ⟨rfl, rfl, rfl⟩ rfl rfl fun g49 => ?_
 refine xC2 rfl rfl rfl (b4l (hi - lo) (1 / 2) ((hhis.sub hlos).mono (by decide)) (b8x.mono (by decide))) ⟨rfl, rfl, rfl⟩ rfl rfl fun g50 => ?_
 refine xB rfl rfl rfl rfl rfl rfl rfl rfl rfl <| xN [6] [6] rfl <| B1 <| E9 (F0 rfl rfl rfl rfl rfl (G7 D6)) ?_
 rw [eh, el]
 rfl

theorem a8s : C1 Try.f5 = [0, 1, 4, 5, 13, 6, 8, 27, 7, 9, 39, 23, 36] := by kernel_rfl
theorem c2u (xs ys : List Int) (hl : xs.length ≤ 1048576) (hl2 : ys.length ≤ 1048576) : CW cxT 5 [L xs, L ys] = some (.tup [a7h (stX xs ys), bV (vc xs ys)], []) := by
 refine B3 rfl Try.func5 rfl ⟨by kernel_rfl, rfl, dT rfl, dT rfl, by decide⟩ a8s <| A3 <| A0 <| y_A rfl (fun _ => rfl) ?_
 intro g4
 refine y_S rfl <| xN [0,1,4] [4] rfl <| A3 <| A3 <| A0 <| y_M rfl <| y_M rfl ?_
 refine xC2 rfl rfl rfl (b1n xs ys hl hl2) ⟨rfl, rfl, rfl⟩ rfl rfl fun g12 => ?_
 refine a3f rfl <| xN [0,1,4,13] [4] rfl ?_
 refine B5 rfl ?_ ?_ <;> intro hc <;> try simp only [SL] at hc
 ·have hvc : ¬ vc xs ys = true := by simpa using hc
  refine A3 <| A0 <| M0 (fs := [_, _]) rfl rfl rfl rfl rfl <| xB rfl rfl rfl rfl rfl rfl rfl rfl rfl <| y_S rfl <| xN [4,5] [4] rfl <| B1 <| E9 (F0 rfl rfl rfl rfl rfl (b1e rfl rfl (G7 D6))) ?_
  rw [stX, if_neg hvc, Bool.eq_false_iff.2 hvc]
  rfl
 have hvc : vc xs ys = true := by exact hc
 have hv := c2k.1 hvc
 obtain ⟨hl3, h7, hx, hy, hw⟩ := hv
 have hsl := b1g (xs := xs) (ys := ys) h7
 have hsp := b8g (ys := ys) hw
 have hsm : ∀ i, i < (sortQ (slA xs ys)).length → Sm 24 ((sortQ (slA xs ys)).getD i default) := fun i hi => a6y (a2c hx hy _) _ (P9 hi)
 have hsq := a0a (slA xs ys)
 have hd1 := a9s (n := (sortQ (slA xs ys)).length) (by omega)
 have hd2 := b8t (sortQ (slA xs ys)).length
 have hw1 := b7q hw
 have hsmA : ∀ i, i < (slA xs ys).length → Sm 24 ((slA xs ys).getD i default) := fun i hi => a2c hx hy _ _ (P9 hi)
 have hbA := fun i (h : i < (slA xs ys).length) => b6r hx hy (hsmA i h) (by omega)
 refine B6 <| A3 <| A0 <| y_M rfl <| y_M rfl ?_
 apply xC rfl
 ·apply A9
  ·exact B9 rfl
  apply A9
  ·exact B9 rfl
  exact F8
 ·exact c0u xs ys hl3 h7 hx hy
 refine ⟨⟨rfl, rfl, rfl, dT rfl, rfl⟩, .inl rfl, D5, O8, fun _ => rfl, fun g17 => ?_⟩
 simp only [List.length_map]
 (refine xO rfl rfl (by simp) rfl (fun _ => rfl) (fun _ => rfl) ?_; intro g6)
 refine xN [0,1,4,6] [4,6] rfl <| A3 <| A0 <| y_M rfl <| y_M rfl <| y_M rfl <| V5 rfl rfl rfl rfl (by omega) (by (simp; done)) rfl <| a1d rfl rfl (by omega) (fun _ => rfl) (fun _ => rfl) rfl ?_
 refine xC3 rfl rfl rfl rfl (b0n xs ys hl3 h7 (by omega) hx hy ((slA xs ys).getD 0 default) (hsmA 0 (by omega))) ⟨rfl, rfl, rfl⟩ rfl rfl fun g23 => ?_
 refine y_A rfl (fun _ => rfl) ?_
 intro g7
 refine xB rfl rfl rfl rfl rfl rfl rfl rfl rfl <| xN [0,1,4,6,7] [4,6,7] rfl <| A3 <| A3 <| A0 <| y_S rfl <| xN [0,1,4,6,7,8] [4,6,7] rfl <| B8 <| G4 (β := Nat × Rat) [(.t 0, _), (.t 1, _), (.t 4, _), (.t 6, _), (.t 7, _), (.h 4, _), (.h 6, _)] (fun (z : Nat × Rat) => match z with | (i, v) => [(.t 8, iV i), (.h 7, .obj g7 3 2 [qV v])]) (fun (z : Nat × Rat) => match z with | (i, v) => 1 ≤ i ∧ i ≤ (slA xs ys).length ∧ v = mnQ (((slA xs ys).take i).map (brd xs ys))) (fun (z : Nat × Rat) => match z with | (i, v) => (slA xs ys).length - i) (1, brd xs ys ((slA xs ys).getD 0 default)) ⟨rfl, rfl, rfl, rfl, rfl, rfl, rfl, rfl, rfl, trivial⟩ ⟨Nat.le_refl _, by omega, by rw [show (slA xs ys).take 1 = [(slA xs ys).getD 0 default] from by have := E8 (xs := slA xs ys) (i := 0) (by omega); rw [List.take_zero, List.nil_append] at this; exact this]; rfl⟩ ?_
 intro z hb
 obtain ⟨i, v⟩ := z
 try dsimp only at hb
 obtain ⟨hi0, hi1, hv⟩ := hb
 have hl0 : 0 < (((slA xs ys).take i).map (brd xs ys)).length := by rw [List.length_map, List.length_take]; omega
 have hvs : Sm 200000000 v := by rw [hv]; obtain ⟨s, hs, e⟩ := List.mem_map.1 (S8 hl0).1; rw [← e]; exact b6r hx hy (a2c hx hy _ _ (List.mem_of_mem_take hs)) (by omega)
 refine A3 <| A3 <| A0 <| y_M rfl <| y_M rfl <| a3g rfl rfl <| J3 rfl rfl <| xN [0,1,4,6,7,8,27] [4,6,7] rfl ?_
 refine B5 rfl ?_ ?_ <;> intro hc <;> try simp only [SL] at hc
 ·refine B6 <| A3 <| B8 <| A3 <| A0 <| y_M rfl <| y_M rfl <| y_M rfl <| y_M rfl <| V5 rfl rfl rfl rfl (by omega) (by (simp; done)) rfl <| a1d rfl rfl (by omega) (fun _ => rfl) (fun _ => rfl) rfl ?_
  refine xC3 rfl rfl rfl rfl (b0n xs ys hl3 h7 (by omega) hx hy ((slA xs ys).getD i default) (hsmA i (by omega))) ⟨rfl, rfl, rfl⟩ rfl rfl fun g36 => ?_
  refine y_A rfl (fun _ => rfl) ?_
  intro g9
  refine xB rfl rfl rfl rfl rfl rfl rfl rfl rfl <| xN [0,1,4,6,7,8,9] [4,6,7,9] rfl <| A3 <| A0 <| y_B rfl <| y_B rfl ?_
  refine xC2 rfl rfl rfl (a6f (brd xs ys ((slA xs ys).getD i default)) v ((hbA i (by omega)).mono (by decide)) (hvs.mono (by decide))) ⟨rfl, rfl, rfl⟩ rfl rfl fun g39 => ?_
  refine xN [0,1,4,6,7,8,9,39] [4,6,7,9] rfl ?_
  refine B5 rfl ?_ ?_ <;> intro hc <;> try simp only [SL] at hc
  ·refine A0 <| y_B rfl <| xB rfl rfl rfl rfl rfl rfl rfl rfl rfl <| xN [0,1,4,6,7,8] [4,6,7] rfl <| A0 <| y_M rfl <| J1 rfl rfl (C0 (by omega)) <| y_S rfl <| xN [0,1,4,6,7,8] [4,6,7] rfl ?_
   refine ⟨(i + 1, brd xs ys ((slA xs ys).getD i default)), ?_, (by simp only; omega), ⟨rfl, rfl, rfl, rfl, rfl, rfl, rfl, rfl, rfl, trivial⟩⟩
   exact ⟨by omega, by omega, by rw [E8 (by omega), List.map_append, List.map_singleton, S2 _ hl0, ← hv]; exact (if_pos (by assumption)).symm⟩
  refine B6 <| A0 <| y_M rfl <| J1 rfl rfl (C0 (by omega)) <| y_S rfl <| xN [0,1,4,6,7,8] [4,6,7] rfl ?_
  refine ⟨(i + 1, v), ?_, (by simp only; omega), ⟨rfl, rfl, rfl, rfl, rfl, rfl, rfl, rfl, rfl, trivial⟩⟩
  exact ⟨by omega, by omega, by rw [E8 (by omega), List.map_append, List.map_singleton, S2 _ hl0, ← hv]; exact (if_neg (by assumption)).symm⟩
 refine G6 <| A3 <| A0 <| y_B rfl <| xB rfl rfl rfl rfl rfl rfl rfl rfl rfl <| y_S rfl <| xN [4,5] [4] rfl <| B1 <| E9 (F0 rfl rfl rfl rfl rfl (b1e rfl rfl (G7 D6))) ?_
 rw [stX, if_pos hvc, hvc, hv, List.take_of_length_le (by omega)]
 rfl

theorem V0 : C1 Try.f3 = [0, 1, 4, 13, 16, 8, 7, 6, 10, 5, 9, 43, 48, 53, 22, 32] := by kernel_rfl
theorem a0d (xs ys : List Int) (hx : c5q xs) (hy : c5q ys) : CW cxT 3 [L xs, L ys] = some (bV true, []) := by
 refine B3 rfl Try.func3 rfl ⟨by kernel_rfl, rfl, dT rfl, dT rfl, by decide⟩ V0 <| A3 <| A0 <| y_S rfl <| xN [0,1] [] rfl <| A3 <| A3 <| A0 <| y_M rfl <| C7 rfl rfl <| c1e rfl rfl <| xN [0,1,13] [] rfl ?_
 refine B5 rfl ?_ ?_ <;> intro hc <;> try simp only [SL] at hc
 ·refine A3 <| A0 <| y_S rfl <| xN [4] [] rfl <| B1 <| C3 rfl rfl trivial ?_
  rfl
 refine B6 <| A3 <| A3 <| A0 <| y_M rfl <| C7 rfl rfl <| c1e rfl rfl <| xN [0,1,16] [] rfl ?_
 refine B5 rfl ?_ ?_ <;> intro hc <;> try simp only [SL] at hc
 ·refine A3 <| A0 <| y_S rfl <| xN [4] [] rfl <| B1 <| C3 rfl rfl trivial ?_
  rfl
 refine B6 <| A3 <| A0 <| y_M rfl ?_
 apply xC rfl
 ·apply A9
  ·exact B9 rfl
  exact F8
 ·exact W4 xs (by omega)
 refine ⟨⟨rfl, rfl, rfl, dT rfl, rfl⟩, .inl rfl, D5, O8, fun _ => rfl, fun g19 => ?_⟩
 simp only [List.length_map]
 refine y_M rfl ?_
 apply xC rfl
 ·apply A9
  ·exact B9 rfl
  exact F8
 ·exact W4 ys (by omega)
 refine ⟨⟨rfl, rfl, rfl, dT rfl, rfl⟩, .inl rfl, D5, O8, fun _ => rfl, fun g21 => ?_⟩
 simp only [List.length_map]
 apply xC rfl
 ·apply A9
  ·exact G3 rfl rfl rfl (by (simp; done)) (fun _ => rfl)
  apply A9
  ·exact G3 rfl rfl rfl (by (simp; done)) (fun _ => rfl)
  exact F8
 ·exact c2u xs ys (by omega) (by omega)
 refine ⟨⟨rfl, rfl, rfl, dT rfl, rfl⟩, .inr ⟨rfl, rfl⟩, D5, a7z rfl, fun _ => rfl, fun g22 => ?_⟩
 refine y_M rfl <| y_E rfl <| y_E rfl <| y_A rfl (fun _ => rfl) ?_
 intro g5
 refine xB rfl rfl rfl rfl rfl rfl rfl rfl rfl <| y_S rfl <| xN [0,1,5,6] [5] rfl <| A3 <| A0 <| y_M rfl ?_
 apply xC rfl
 ·apply A9
  ·exact B9 rfl
  exact F8
 ·exact W4 xs (by omega)
 refine ⟨⟨rfl, rfl, rfl, dT rfl, rfl⟩, .inl rfl, D5, O8, fun _ => rfl, fun g26 => ?_⟩
 simp only [List.length_map]
 (refine xO rfl rfl (by simp) rfl (fun _ => rfl) (fun _ => rfl) ?_; intro g7)
 refine xN [0,1,5,6,7] [5,7] rfl <| A3 <| A0 <| y_M rfl ?_
 apply xC rfl
 ·apply A9
  ·exact B9 rfl
  exact F8
 ·exact W4 ys (by omega)
 refine ⟨⟨rfl, rfl, rfl, dT rfl, rfl⟩, .inl rfl, D5, O8, fun _ => rfl, fun g28 => ?_⟩
 simp only [List.length_map]
 (refine xO rfl rfl (by simp) rfl (fun _ => rfl) (fun _ => rfl) ?_; intro g8)
 refine xN [0,1,5,6,7,8] [5,7,8] rfl <| A3 <| A0 <| y_M rfl <| y_M rfl ?_
 apply xC rfl
 ·apply A9
  ·exact G3 rfl rfl rfl (by (simp; done)) (fun _ => rfl)
  apply A9
  ·exact G3 rfl rfl rfl (by (simp; done)) (fun _ => rfl)
  exact F8
 ·exact c2i xs ys (by omega) (by omega)
 refine ⟨⟨rfl, rfl, rfl, dT rfl, rfl⟩, .inr ⟨rfl, rfl⟩, D5, a7z rfl, fun _ => rfl, fun g32 => ?_⟩
 refine y_M rfl <| y_E rfl <| y_E rfl <| y_A rfl (fun _ => rfl) ?_
 intro g9
 refine xB rfl rfl rfl rfl rfl rfl rfl rfl rfl <| y_S rfl <| xN [0,1,5,6,7,8,9,10] [5,7,8,9] rfl <| A3 <| A3 <| A0 <| y_B rfl <| y_B rfl ?_
 refine xC2 rfl rfl rfl (b9w _) ⟨rfl, rfl, rfl⟩ rfl rfl fun g37 => ?_
 refine a3f rfl <| y_M rfl <| W6 rfl rfl rfl <| y_M rfl <| W6 rfl rfl rfl <| y_M rfl <| W6 rfl rfl rfl <| c6c rfl rfl rfl <| I4 rfl rfl rfl rfl <| xN [0,1,7,8,43] [7,8] rfl ?_
 refine B5 rfl ?_ ?_ <;> intro hc <;> try simp only [SL] at hc
 ·refine A3 <| A0 <| y_S rfl <| xN [4] [] rfl <| B1 <| C3 rfl rfl trivial ?_
  (simp_all; done)
 refine B6 <| A3 <| A3 <| A0 <| y_M rfl <| y_M rfl ?_
 apply xC rfl
 ·apply A9
  ·exact B9 rfl
  exact F8
 ·exact W4 xs (by omega)
 refine ⟨⟨rfl, rfl, rfl, dT rfl, rfl⟩, .inl rfl, D5, O8, fun _ => rfl, fun g46 => ?_⟩
 simp only [List.length_map]
 apply xC rfl
 ·apply A9
  ·exact G3 rfl rfl rfl (by (simp; done)) (fun _ => rfl)
  apply A9
  ·exact G3 rfl rfl rfl (by (simp; done)) (fun _ => rfl)
  exact F8
 ·exact b3g xs (by omega)
 refine ⟨⟨rfl, rfl, rfl, dT rfl, rfl⟩, .inr ⟨rfl, rfl⟩, D5, E3 rfl, fun _ => rfl, fun g47 => ?_⟩
 refine a3f rfl <| xN [1,8,48] [8] rfl ?_
 refine B5 rfl (fun hc => absurd hc (by decide)) (fun hc => ?_)
 refine B6 <| A3 <| A3 <| A0 <| y_M rfl <| y_M rfl ?_
 apply xC rfl
 ·apply A9
  ·exact B9 rfl
  exact F8
 ·exact W4 ys (by omega)
 refine ⟨⟨rfl, rfl, rfl, dT rfl, rfl⟩, .inl rfl, D5, O8, fun _ => rfl, fun g51 => ?_⟩
 simp only [List.length_map]
 apply xC rfl
 ·apply A9
  ·exact G3 rfl rfl rfl (by (simp; done)) (fun _ => rfl)
  apply A9
  ·exact G3 rfl rfl rfl (by (simp; done)) (fun _ => rfl)
  exact F8
 ·exact b3g ys (by omega)
 refine ⟨⟨rfl, rfl, rfl, dT rfl, rfl⟩, .inr ⟨rfl, rfl⟩, D5, E3 rfl, fun _ => rfl, fun g52 => ?_⟩
 refine a3f rfl <| xN [53] [] rfl ?_
 refine B5 rfl (fun hc => absurd hc (by decide)) (fun hc => ?_)
 refine B6 <| A3 <| A0 <| y_S rfl <| xN [4] [] rfl <| B1 <| C3 rfl rfl trivial ?_
 rfl
end Go.Proofs.Ytfiobkibbebeiaa
