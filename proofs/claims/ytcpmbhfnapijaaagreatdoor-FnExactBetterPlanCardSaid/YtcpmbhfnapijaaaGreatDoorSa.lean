/- What each function of the program gives on the abstract machine, part 1 of 2. Conditions: those in front of each theorem. -/
import Derived.Test.YtcpmbhfnapijaaaGreatDoorMd
import Derived.Test.YtcpmbhfnapijaaaGreatDoorChecked
import Derived.KernelRfl

set_option linter.unusedVariables false
set_option linter.unusedSimpArgs false
namespace Go.Proofs.YtcpmbhfnapijaaaGreatDoor
open Go Go.Mv Go.Proofs
set_option maxRecDepth 100000
set_option maxHeartbeats 20000000

theorem SD : (∀ {p : Prop} [Decidable p], (decide p = true) = p) ∧ (∀ {p : Prop} {_ : Decidable p}, decide p = false ↔ ¬p) ∧ (∀ (b : Bool), ((!b) = true) = (b = false)) ∧ (∀ (b : Bool), ((!b) = false) = (b = true)) ∧ (∀ {α : Type} [BEq α] [LawfulBEq α] {a b : α}, (a != b) = true ↔ a ≠ b) ∧
    (∀ {α : Type} [BEq α] [LawfulBEq α] {a b : α}, (a == b) = true ↔ a = b) ∧ (∀ {α : Type} (a b : α), (a ≠ b) = ¬a = b) ∧ (!true) = false ∧ (!false) = true ∧ (∀ {α : Type} [BEq α] [LawfulBEq α] {a b : α}, (a == b) = false ↔ a ≠ b) ∧ (∀ {α : Type} [BEq α] [LawfulBEq α] {a b : α}, (a != b) = false ↔ a = b) ∧
    (∀ {p : Prop} [Decidable p], ¬¬p ↔ p) ∧ (∀ {a b : Int}, ¬a < b ↔ b ≤ a) ∧ (∀ {a b : Int}, ¬a ≤ b ↔ b < a) :=
  ⟨@decide_eq_true_eq, @decide_eq_false_iff_not, @Bool.not_eq_true', @Bool.not_eq_false', @bne_iff_ne, @beq_iff_eq, @ne_eq, @Bool.not_true, @Bool.not_false, @beq_eq_false_iff_ne, @bne_eq_false_iff_eq, @Decidable.not_not, @Int.not_lt, @Int.not_le⟩
theorem SG : ((∀ {p : Prop} [Decidable p], (decide p = true) = p) ∧ (∀ {p : Prop} {_ : Decidable p}, decide p = false ↔ ¬p) ∧ (∀ (b : Bool), ((!b) = true) = (b = false)) ∧ (∀ (b : Bool), ((!b) = false) = (b = true)) ∧ (∀ {α : Type} [BEq α] [LawfulBEq α] {a b : α}, (a != b) = true ↔ a ≠ b) ∧
    (∀ {α : Type} [BEq α] [LawfulBEq α] {a b : α}, (a == b) = true ↔ a = b) ∧ (∀ {α : Type} (a b : α), (a ≠ b) = ¬a = b) ∧ (!true) = false ∧ (!false) = true ∧ (∀ {α : Type} [BEq α] [LawfulBEq α] {a b : α}, (a == b) = false ↔ a ≠ b) ∧ (∀ {α : Type} [BEq α] [LawfulBEq α] {a b : α}, (a != b) = false ↔ a = b) ∧
    (∀ {p : Prop} [Decidable p], ¬¬p ↔ p) ∧ (∀ {a b : Int}, ¬a < b ↔ b ≤ a) ∧ (∀ {a b : Int}, ¬a ≤ b ↔ b < a)) ∧
    (∀ (a b : Bool), ((a && b) = true) = (a = true ∧ b = true)) ∧ (∀ {x y : Bool}, (x && y) = false ↔ x = false ∨ y = false) ∧ (∀ (a b : Bool), ((a || b) = true) = (a = true ∨ b = true)) ∧ (∀ {x y : Bool}, (x || y) = false ↔ x = false ∧ y = false) :=
  ⟨SD, @Bool.and_eq_true, @Bool.and_eq_false_iff, @Bool.or_eq_true, @Bool.or_eq_false_iff⟩
def d0n (keep : List Nat) (A : Asr) : List Mv.Loc → Asr → Option Asr
  | l :: ls, B => match keepLoc keep l, Mv.look A l with
    | true, some a => d0n keep A ls ((l, a) :: B)
    | _, _ => none
  | [], B => some B
theorem c8x {keep : List Nat} {A : Asr} : ∀ (ls : List Mv.Loc) {B C : Asr}, KeepL keep A B → d0n keep A ls B = some C → KeepL keep A C
  | [], B, C, h, e => by simp only [d0n, Option.some.injEq] at e; rw [← e]; exact h
  | l :: ls, B, C, h, e => by
    simp only [d0n] at e
    split at e
    · exact c8x ls (show KeepL keep A ((l, _) :: B) from ⟨by assumption, by assumption, h⟩) e
    · cases e
theorem kS (ts hs : List Nat) {keep : List Nat} {A B : Asr} (h : d0n keep A (ts.map .t ++ hs.map .h) [] = some B) : KeepL keep A B := c8x _ (show KeepL keep A [] from trivial) h
section
variable {cx : Cx} {keep : List Nat} {ops0 : Array Oper} {r : List Oper} {A : Asr} {Q : Asr → List Log → Prop}
variable {d ty : Nat} {pos : String} {aft : Array Edge}
theorem gT {op : Op} {dst : Option Nat} {g dg : Nat} {want b : Bool} (hd : (ops0[g]?).bind (·.dst) = some dg) (hb : Mv.look A (.t dg) = some (.val (.bool b)))
    (h : XR cx keep ops0 (⟨dst, op, ty, pos, aft, none⟩ :: r) A fun A' lg => Q A' (c8r (.t dg) lg)) (hw : b = want := by assumption) : XR cx keep ops0 (⟨dst, op, ty, pos, aft, some (g, want)⟩ :: r) A Q := G7 hd hb hw h
theorem gF {op : Op} {g dg : Nat} {want b : Bool} (hd : (ops0[g]?).bind (·.dst) = some dg) (hb : Mv.look A (.t dg) = some (.val (.bool b)))
    (h : XR cx keep ops0 r ((.t d, .val (.tuple #[])) :: A) fun A' lg => Q A' (([.t dg], [.t d]) :: lg)) (hw : b = !want := by assumption) : XR cx keep ops0 (⟨some d, op, ty, pos, aft, some (g, want)⟩ :: r) A Q := J5 hd hb hw h
theorem xN {B : Asr} {p : Asr → List Log → Prop} {R : Asr → Prop} (ts hs : List Nat) (h : d0n keep A (ts.map .t ++ hs.map .h) [] = some B) (q : R B) :
    XR cx keep ops0 [] A (fun A' lg => (false = true → p A' lg) ∧ ∃ B, KeepL keep A' B ∧ R B) := J6 ⟨nofun, B, kS ts hs h, q⟩
theorem xC {G : Type} {k : Nat} {args : Array Operand} {Ts : Array Nat} {vs av : List AV} {ids : List (Nat × Bool)} {wp wb : Ws} {lp lb li : List Mv.Loc} {res : AV} {outs : List (List AV)} {v : G → AV} {wi : G → Ws}
    (hv : opds A args.toList = some vs) (hp : a5x (CW cx) A (cx.md k) 0 vs av ids wp lp) (hC : CW cx k av = some (res, outs))
    (hr : (apartIds ids = true ∧ nodupB ((Z2 (cx.md k) 0 vs).map (·.1)) = true ∧ nodupB ((cidAll (cx.md k) 0 av).map (·.1)) = true ∧ av.length ≤ 1000 ∧ a0q av = true) ∧
      (ids.all (fun x => x.2) = true ∨ (hasList res = false ∧ outs.any F0 = false)) ∧
      c7h (CW cx) (puts A wp) (Z2 (cx.md k) 0 vs) outs wb lb ∧ a7q (CW cx) (puts (puts A wp) wb) d res v wi li ∧
      (∀ g, tRefsOk keep (keptWs keep (wp ++ (wb ++ (wi g ++ [(.t d, v g)])))) = true) ∧
      ∀ g, XR cx keep ops0 r (H7 A (wp ++ (wb ++ (wi g ++ [(.t d, v g)])))) fun A' lg => Q A' ((a0w args.toList ++ (lp ++ (lb ++ li)), Z6 (wp ++ (wb ++ (wi g ++ [(.t d, v g)])))) :: lg)) :
    XR cx keep ops0 (⟨some d, .call ⟨.value (.func k), args, Ts⟩, ty, pos, aft, none⟩ :: r) A Q :=
  a6s hv hp hC hr.1 hr.2.1 hr.2.2.1 hr.2.2.2.1 hr.2.2.2.2.1 hr.2.2.2.2.2
theorem xC1 {k : Nat} {Ts : Array Nat} {x1 : Operand} {v1 res : AV} (hx : opds A [x1] = some [v1]) (p1 : T6 v1 = true) (hC : CW cx k [v1] = some (res, []))
    (hb : Z2 (cx.md k) 0 [v1] = [] ∧ nodupB ((cidAll (cx.md k) 0 [v1]).map (·.1)) = true ∧ a0q [v1] = true) (hi : J9 res = true) (hk : tRefsOk keep (keptWs keep [(.t d, res)]) = true)
    (h : ∀ _ : Unit, XR cx keep ops0 r (H7 A [(.t d, res)]) fun A' lg => Q A' ((a0w [x1], [.t d]) :: lg)) : XR cx keep ops0 (⟨some d, .call ⟨.value (.func k), #[x1], Ts⟩, ty, pos, aft, none⟩ :: r) A Q :=
  a6s hx (B4 (B9 p1) D8) hC ⟨rfl, by rw [hb.1]; rfl, hb.2.1, by simp, hb.2.2⟩ (.inl rfl) (by rw [hb.1]; exact B7) (H6 hi) (fun _ => hk) (fun g => by have := h g; simpa [Z6] using this)
theorem xC2 {k : Nat} {Ts : Array Nat} {x1 x2 : Operand} {v1 v2 res : AV} (hx : opds A [x1, x2] = some [v1, v2]) (p1 : T6 v1 = true) (p2 : T6 v2 = true) (hC : CW cx k [v1, v2] = some (res, []))
    (hb : Z2 (cx.md k) 0 [v1, v2] = [] ∧ nodupB ((cidAll (cx.md k) 0 [v1, v2]).map (·.1)) = true ∧ a0q [v1, v2] = true) (hi : J9 res = true) (hk : tRefsOk keep (keptWs keep [(.t d, res)]) = true)
    (h : ∀ _ : Unit, XR cx keep ops0 r (H7 A [(.t d, res)]) fun A' lg => Q A' ((a0w [x1, x2], [.t d]) :: lg)) : XR cx keep ops0 (⟨some d, .call ⟨.value (.func k), #[x1, x2], Ts⟩, ty, pos, aft, none⟩ :: r) A Q :=
  a6s hx (B4 (B9 p1) (B4 (B9 p2) D8)) hC ⟨rfl, by rw [hb.1]; rfl, hb.2.1, by simp, hb.2.2⟩ (.inl rfl) (by rw [hb.1]; exact B7) (H6 hi) (fun _ => hk) (fun g => by have := h g; simpa [Z6] using this)
theorem xC3 {k : Nat} {Ts : Array Nat} {x1 x2 x3 : Operand} {v1 v2 v3 res : AV} (hx : opds A [x1, x2, x3] = some [v1, v2, v3]) (p1 : T6 v1 = true) (p2 : T6 v2 = true) (p3 : T6 v3 = true) (hC : CW cx k [v1, v2, v3] = some (res, []))
    (hb : Z2 (cx.md k) 0 [v1, v2, v3] = [] ∧ nodupB ((cidAll (cx.md k) 0 [v1, v2, v3]).map (·.1)) = true ∧ a0q [v1, v2, v3] = true) (hi : J9 res = true) (hk : tRefsOk keep (keptWs keep [(.t d, res)]) = true)
    (h : ∀ _ : Unit, XR cx keep ops0 r (H7 A [(.t d, res)]) fun A' lg => Q A' ((a0w [x1, x2, x3], [.t d]) :: lg)) : XR cx keep ops0 (⟨some d, .call ⟨.value (.func k), #[x1, x2, x3], Ts⟩, ty, pos, aft, none⟩ :: r) A Q :=
  a6s hx (B4 (B9 p1) (B4 (B9 p2) (B4 (B9 p3) D8))) hC ⟨rfl, by rw [hb.1]; rfl, hb.2.1, by simp, hb.2.2⟩ (.inl rfl) (by rw [hb.1]; exact B7) (H6 hi) (fun _ => hk) (fun g => by have := h g; simpa [Z6] using this)
theorem xO {α : Type} {f : α → AV} {xs : List α} {x : Operand} {id g s n : Nat} (hx : opd A x = some (.sl id g none 0 n)) (ho : Mv.look A (.h id) = some (.obj g 0 s (xs.map f))) (hn : n = (xs.map f).length) (hne : Loc.beq (.h d) (.h id) = false) (hf : ∀ a, K8 (f a) = true)
    (hk : ∀ g, slotOk keep (.t d) (.sl d g none 0 n) = true) (h : ∀ g', XR cx keep ops0 r ((.t d, .sl d g' none 0 n) :: (.h d, .obj g' 0 s (xs.map f)) :: (.h id, .dead g) :: A) fun A' lg => Q A' ((rds x ++ [.h id, .h d], [.h id, .h d, .t d]) :: lg)) :
    XR cx keep ops0 (⟨some d, .assign x, ty, pos, aft, none⟩ :: r) A Q := H5 hx ho hn hne (fun _ => B1 (A6 hf)) hk h
theorem xB {T id g m s : Nat} {a x : Operand} {e v : AV} (ha : opd A a = some (.ptr id g none 0 0)) (hx : opd A x = some v) (ho : Mv.look A (.h id) = some (.obj g m s [e])) (hl : b3k (leaves e) v = true)
    (hc : decide (m ≠ 2 ∧ (leaves v).length = (tyS cx.P T).size ∧ 0 < (leaves v).length ∧ (leaves v).length ≤ (leaves e).length) = true) (hw : W5 (leaves v) (leaves e) = true) (hp : putAt e 0 v = v) (hm : decide (m = 3) = true) (hi : N0 [v] = true)
    (h : XR cx keep ops0 r ((.h id, .obj g m s [v]) :: A) fun A' lg => Q A' ((rds a ++ (rds x ++ [.h id, .h id, .h id]), [.h id]) :: lg)) : XR cx keep ops0 (⟨none, .store T a x, ty, pos, aft, none⟩ :: r) A Q := by
  obtain ⟨h1, h2, h3, h4⟩ := of_decide_eq_true hc
  exact c0o ha hx ho hl ⟨h1, h2, h3, h4, hw⟩ hp (by rw [of_decide_eq_true hm]; exact M4 hi) h
theorem xA {α : Type} {f : α → AV} {xs ys : List α} {T T' E s id g n id2 g2 n2 : Nat} {x y : Operand} {z : AV} (hx : opd A x = some (.sl id g none 0 n)) (hy : opd A y = some (.sl id2 g2 none 0 n2)) (ho : Mv.look A (.h id) = some (.obj g 0 s (xs.map f))) (ho2 : Mv.look A (.h id2) = some (.obj g2 0 s (ys.map f)))
    (hn : n = (xs.map f).length) (hn2 : n2 = (ys.map f).length) (hd : (decide (1000000 ≤ id2) && !Loc.beq (.h id) (.h id2)) = true) (hT : O5 cx.P T = some (E, s)) (hT' : M5 (tyS cx.P T').k = true) (hz : X3 cx.P E = some (z, s)) (hb : decide ((tyS cx.P E).bytes ≤ 4096) = true) (hf : ∀ a, ((leaves (f a)).all cellLeaf && K8 (f a)) = true)
    (hle : xs.length + ys.length ≤ 4294967296) (hk : ∀ g, slotOk keep (.t d) (.sl (tid d 0) g none 0 (xs ++ ys).length) = true)
    (h : ∀ g', XR cx keep ops0 r ((.t d, .sl (tid d 0) g' none 0 (xs ++ ys).length) :: (.h (tid d 0), .obj g' 0 s ((xs ++ ys).map f)) :: (.h id, .dead g) :: (.h id2, .dead g2) :: A) fun A' lg => Q A' ((rds x ++ (rds y ++ [.h id2, .h id, .h (tid d 0)]), [.h id2, .h id, .h (tid d 0), .t d]) :: lg)) :
    XR cx keep ops0 (⟨some d, .call ⟨.builtin .append, #[x, y], #[T, T']⟩, ty, pos, aft, none⟩ :: r) A Q := by
  simp only [Bool.and_eq_true, decide_eq_true_eq, Bool.not_eq_true'] at hd hf
  exact O9 hx hy ho ho2 hn hn2 hd.1 hd.2 hT hT' hz (of_decide_eq_true hb) hf (Nat.le_trans hle (by decide)) hk h
theorem y_M {x : Operand} {v : AV} (e : (opd A x, slotOk keep (.t d) v) = (some v, true)) (h : XR cx keep ops0 r ((.t d, v) :: A) fun A' lg => Q A' ((rds x, [.t d]) :: lg)) : XR cx keep ops0 (⟨some d, .move x, ty, pos, aft, none⟩ :: r) A Q := by
  simp only [Prod.mk.injEq] at e
  exact d8q e.1 e.2 h
theorem y_S {x : Operand} {v : AV} (e : (opd A x, a1y v, slotOk keep (.t d) v) = (some v, true, true)) (h : XR cx keep ops0 r ((.t d, v) :: A) fun A' lg => Q A' ((rds x, [.t d]) :: lg)) : XR cx keep ops0 (⟨some d, .assign x, ty, pos, aft, none⟩ :: r) A Q := by
  simp only [Prod.mk.injEq] at e
  exact d5h e.1 e.2.1 e.2.2 h
theorem y_F {x : Operand} {S f o ft : Nat} {v v' : AV} (e : (opd A x, (match (tyS cx.P S).k with | .struct fs => fs[f]? | _ => none), decide ((tyS cx.P ft).size ≠ 0), (match v with | .ptr id g p i j => some (AV.ptr id g p i (j + o)) | .ipt e j => some (.ipt e (j + o)) | _ => none), slotOk keep (.t d) v') = (some v, some (o, ft), true, some v', true)) (h : XR cx keep ops0 r ((.t d, v') :: A) fun A' lg => Q A' ((rds x, [.t d]) :: lg)) : XR cx keep ops0 (⟨some d, .fieldAddr S x f, ty, pos, aft, none⟩ :: r) A Q := by
  simp only [Prod.mk.injEq] at e
  refine c4j e.1 e.2.1 (of_decide_eq_true e.2.2.1) ?_ e.2.2.2.2 h
  have e4 := e.2.2.2.1
  cases v <;> exact e4
theorem y_L {a : Operand} {T id g m s i j : Nat} {es : List AV} {e0 v : AV} (e : (opd A a, Mv.look A (.h id), es[i]?, ((leaves e0).all fun l => !isOwn l), partF cx.P T ((leaves e0).drop j), slotOk keep (.t d) v) = (some (.ptr id g none i j), some (.obj g m s es), some e0, true, some v, true)) (h : XR cx keep ops0 r ((.t d, v) :: A) fun A' lg => Q A' ((rds a ++ [.h id], [.t d]) :: lg)) : XR cx keep ops0 (⟨some d, .load T a, ty, pos, aft, none⟩ :: r) A Q := by
  simp only [Prod.mk.injEq] at e
  exact a4w e.1 e.2.1 e.2.2.1 e.2.2.2.1 e.2.2.2.2.1 e.2.2.2.2.2 h
theorem y_E {x : Operand} {i : Nat} {vs : List AV} {v : AV} (e : (opd A x, vs[i]?, slotOk keep (.t d) v) = (some (.tup vs), some v, true)) (h : XR cx keep ops0 r ((.t d, v) :: A) fun A' lg => Q A' ((rds x, [.t d]) :: lg)) : XR cx keep ops0 (⟨some d, .extract x i, ty, pos, aft, none⟩ :: r) A Q := by
  simp only [Prod.mk.injEq] at e
  exact d0r e.1 e.2.1 e.2.2 h
theorem y_B {a : Operand} {T id g m s : Nat} {v : AV} (e : (opd A a, Mv.look A (.h id), ((leaves v).all fun l => !isOwn l), partF cx.P T (leaves v), slotOk keep (.t d) v) = (some (.ptr id g none 0 0), some (.obj g m s [v]), true, some v, true)) (h : XR cx keep ops0 r ((.t d, v) :: A) fun A' lg => Q A' ((rds a ++ [.h id], [.t d]) :: lg)) : XR cx keep ops0 (⟨some d, .load T a, ty, pos, aft, none⟩ :: r) A Q := by
  simp only [Prod.mk.injEq] at e
  exact c2g e.1 e.2.1 e.2.2.1 e.2.2.2.1 e.2.2.2.2 h
theorem y_I {a : Operand} {T : Nat} {v : AV} (e : (opd A a, partF cx.P T (leaves v), slotOk keep (.t d) v) = (some (.ipt v 0), some v, true)) (h : XR cx keep ops0 r ((.t d, v) :: A) fun A' lg => Q A' ((rds a, [.t d]) :: lg)) : XR cx keep ops0 (⟨some d, .load T a, ty, pos, aft, none⟩ :: r) A Q := by
  simp only [Prod.mk.injEq] at e
  exact c1z e.1 e.2.1 e.2.2 h
theorem y_A {T s : Nat} {z : AV} (e : (X3 cx.P T, N0 [z], slotOk keep (.t d) (.ptr d 0 none 0 0)) = (some (z, s), true, true)) (hk : ∀ g, slotOk keep (.t d) (.ptr d g none 0 0) = true)
    (h : ∀ g, XR cx keep ops0 r ((.t d, .ptr d g none 0 0) :: (.h d, .obj g 3 s [z]) :: A) fun A' lg => Q A' (([.h d], [.h d, .t d]) :: lg)) : XR cx keep ops0 (⟨some d, .alloc T, ty, pos, aft, none⟩ :: r) A Q := by
  simp only [Prod.mk.injEq] at e
  exact d7u e.1 (fun _ => M4 e.2.1) hk h
end
theorem SL : (∀ {α β : Type} {av : List α} (f : α → β), (av.map f).length = av.length) ∧ (((∀ {p : Prop} [Decidable p], (decide p = true) = p) ∧ (∀ {p : Prop} {_ : Decidable p}, decide p = false ↔ ¬p) ∧ (∀ (b : Bool), ((!b) = true) = (b = false)) ∧ (∀ (b : Bool), ((!b) = false) = (b = true)) ∧ (∀ {α : Type} [BEq α] [LawfulBEq α] {a b : α}, (a != b) = true ↔ a ≠ b) ∧
    (∀ {α : Type} [BEq α] [LawfulBEq α] {a b : α}, (a == b) = true ↔ a = b) ∧ (∀ {α : Type} (a b : α), (a ≠ b) = ¬a = b) ∧ (!true) = false ∧ (!false) = true ∧ (∀ {α : Type} [BEq α] [LawfulBEq α] {a b : α}, (a == b) = false ↔ a ≠ b) ∧ (∀ {α : Type} [BEq α] [LawfulBEq α] {a b : α}, (a != b) = false ↔ a = b) ∧
    (∀ {p : Prop} [Decidable p], ¬¬p ↔ p) ∧ (∀ {a b : Int}, ¬a < b ↔ b ≤ a) ∧ (∀ {a b : Int}, ¬a ≤ b ↔ b < a)) ∧
    (∀ (a b : Bool), ((a && b) = true) = (a = true ∧ b = true)) ∧ (∀ {x y : Bool}, (x && y) = false ↔ x = false ∨ y = false) ∧ (∀ (a b : Bool), ((a || b) = true) = (a = true ∨ b = true)) ∧ (∀ {x y : Bool}, (x || y) = false ↔ x = false ∧ y = false)) := ⟨@List.length_map.{0, 0}, SG⟩
theorem LN : (∀ {α : Type}, ([] : List α).length = 0) ∧ (∀ {α : Type} {a : α} {l : List α}, (a :: l).length = l.length + 1) ∧ (∀ {α : Type} {a b : List α}, (a ++ b).length = a.length + b.length) ∧ (∀ n : Nat, 0 + n = n) ∧ (∀ {α β : Type} {l : List α} (f : α → β), (l.map f).length = l.length) := ⟨rfl, rfl, List.length_append, Nat.zero_add, List.length_map.{0, 0}⟩
theorem dT {p : Prop} [Decidable p] (h : decide p = true) : p := of_decide_eq_true h

def mdT : List (Nat × List Nat) := [(23, [3, 3, 3, 3]), (25, [2]), (41, [2]), (42, [1]), (48, [1]), (54, [3, 3, 3, 3]), (55, [3, 3, 3, 3]), (56, [3, 3, 3, 3]), (57, [3, 3, 3, 3]), (60, [3, 3, 3, 3]), (67, [2]), (70, [0, 2]), (71, [2]), (75, [0, 2]), (79, [3, 3, 3, 3]), (82, [3, 3, 3, 3]), (89, [3, 3, 3, 3]), (91, [3, 3, 3, 3]), (92, [3, 3, 3, 3]), (93, [3, 3, 3, 3]), (94, [3, 3, 3, 3]), (95, [3, 3, 3, 3]), (96, [3, 3, 3, 3]), (97, [3, 3, 3, 3]), (102, [3, 3, 3, 3]), (107, [1]), (108, [1]), (112, [2]), (118, [3, 3, 3, 3]), (123, [3, 3, 3, 3]), (131, [3, 3, 3, 3]), (133, [3, 3, 3, 3])]
noncomputable def d8k : List (Nat × (List AV → Option (AV × List (List AV)))) := [(106, a8t), (107, b2d), (121, b4p), (122, b9x), (136, c1k), (137, b9s), (138, b9c), (165, b2l)]
variable {oG : Option Nat} {rG : Nat}
noncomputable def cxT (oG : Option Nat) : Cx := { P := Tryz.prog, md := d9z mdT, ext := c9u d8k, it := fun _ => none, fz := fun k => [57, 60, 82, 89, 97, 102, 118, 123, 131, 133].contains k, fzB := fun T d => [(69, 58), (34, 98), (23, 57), (23, 26), (23, 47), (23, 67), (23, 103)].contains (T, d), gl := fun g => match oG with | some r => if g = 0 then some (.val (.map (some r))) else none | none => none, mp := fun k => match oG with | some r => if k = r then some goneTb else none | none => none }
noncomputable def cxE : Cx := { P := Tryz.prog, md := d9z mdT, ext := fun _ => none, fz := fun k => [57, 60, 82, 89, 97, 102, 118, 123, 131, 133].contains k }
theorem d0a (xs : List Int) (hl : xs.length ≤ H4) : CW (cxT oG) 106 [.list (xs.map iV)] = some (.own 1 (xs.map iV), []) := a5b (cxT oG) rfl (by simp [a8t, c9l, hl])
theorem d8x (xs : List Int) (hl : xs.length ≤ H4) : CW (cxT oG) 107 [.own 1 (xs.map iV)] = some (.tup [], [(T3 xs).map iV]) := a5b (cxT oG) rfl (by simp [b2d, c9l, hl])
theorem b9y (l : List UInt8) (b : UInt8) (hl : l.length < 4294967281) : CW (cxT oG) 121 [tV l, tV [b]] = some (.own 1 ((splitB b l).map tV), []) := a5b (cxT oG) rfl (by show (if l.length < 4294967281 then some ((AV.own 1 ((splitB b l).map tV), []) : AV × List (List AV)) else none) = _; rw [if_pos hl])
theorem d5d (ps : List (List UInt8)) (b : UInt8) (h1 : ps.length ≤ H4) (h2 : (joinB b ps).length ≤ H4) : CW (cxT oG) 122 [.list (ps.map tV), tV [b]] = some (tV (joinB b ps), []) := a5b (cxT oG) rfl (by show ((unT (ps.map tV)).bind fun ps => if ps.length ≤ H4 ∧ (joinB b ps).length ≤ H4 then some ((tV (joinB b ps), []) : AV × List (List AV)) else none) = _; rw [d7t, Option.bind_some, if_pos ⟨h1, h2⟩])
theorem d8z (l : List UInt8) (b : UInt8) : CW (cxT oG) 136 [tV l, tV [b]] = some (.tup [tV (a3p b l), bV (decide (l.head? = some b))], []) := a5b (cxT oG) rfl rfl
theorem d9q (l : List UInt8) (b : UInt8) (hl : l.length < 4294967281) : CW (cxT oG) 137 [tV l, tV [b]] = some (.tup [tV (b6w b l), bV (decide (l.getLast? = some b))], []) := a5b (cxT oG) rfl (by show (if l.length < 4294967281 then some ((AV.tup [tV (b6w b l), bV (decide (l.getLast? = some b))], []) : AV × List (List AV)) else none) = _; rw [if_pos hl])
theorem c6b (l : List UInt8) (hl : l.length < 4294967281) : CW (cxT oG) 138 [tV l] = some (atR l, []) := a5b (cxT oG) rfl (by show (if l.length < 4294967281 then some ((atR l, []) : AV × List (List AV)) else none) = _; rw [if_pos hl])
theorem d8m (n : Int) (h : -9223372036854775808 ≤ n ∧ n ≤ 9223372036854775807) : CW (cxT oG) 165 [iV n] = some (tV (dec n), []) := a5b (cxT oG) rfl (by simp [b2l, h])

theorem b5o : F4 Tryz.f135 = [0, 1, 2, 6] := by kernel_rfl
theorem b7s (n lo hi : Int) : CW (cxT oG) 135 [iV n, iV lo, iV hi] = some (bV (decide (lo ≤ n) && decide (n ≤ hi)), []) := by
 refine E4 rfl Tryz.func135 rfl ⟨by kernel_rfl, rfl, dT rfl, dT rfl, by decide⟩ b5o <| A3 <| A0 <| y_S rfl <| xN [0,1,2] [] rfl <| A3 <| A0 <| y_M rfl <| y_M rfl <| a8f rfl rfl <| y_M rfl ?_
 refine C5 rfl rfl ?_ ?_ <;> intro hg0 <;> have hg := hg0 <;> try simp only [SG] at hg
 ·refine y_M rfl <| gT rfl rfl <| y_M rfl <| gT rfl rfl <| a8f rfl rfl <| E9 rfl (by assumption) rfl rfl <| y_S rfl <| xN [6] [] rfl <| A8 <| C6 rfl rfl trivial ?_
  simp_all [ofConst]; try omega
 refine gF rfl rfl <| gF rfl rfl <| F7 rfl (by assumption) rfl rfl <| y_S rfl <| xN [6] [] rfl <| A8 <| C6 rfl rfl trivial ?_
 simp_all [ofConst]; try omega

theorem d0w : F4 Tryz.f114 = [0, 1, 2, 6] := by kernel_rfl
theorem e0k (n lo hi : Int) : CW (cxT oG) 114 [iV n, iV lo, iV hi] = some (bV (decide (lo ≤ n) && decide (n ≤ hi)), []) := by
 refine E4 rfl Tryz.func114 rfl ⟨by kernel_rfl, rfl, dT rfl, dT rfl, by decide⟩ d0w <| A3 <| A0 <| y_S rfl <| xN [0,1,2] [] rfl <| A3 <| A0 <| y_M rfl <| y_M rfl <| c9p rfl rfl <| y_M rfl ?_
 refine C5 rfl rfl ?_ ?_ <;> intro hg0 <;> have hg := hg0 <;> try simp only [SG] at hg
 ·refine y_M rfl <| gT rfl rfl <| y_M rfl <| gT rfl rfl <| a8f rfl rfl <| E9 rfl (by assumption) rfl rfl <| y_S rfl <| xN [6] [] rfl <| A8 <| C6 rfl rfl trivial ?_
  simp_all [ofConst]; try omega
 refine gF rfl rfl <| gF rfl rfl <| F7 rfl (by assumption) rfl rfl <| y_S rfl <| xN [6] [] rfl <| A8 <| C6 rfl rfl trivial ?_
 simp_all [ofConst]; try omega

theorem a7o : F4 Tryz.f164 = [0, 1, 4, 8, 7, 9, 5, 16] := by kernel_rfl
theorem b9f (xs : List Int) (hl : xs.length ≤ 1000) (k : Nat) (a b : AV) (q : Int → Bool) (hq : ∀ x, CW (cxT oG) k [iV x, .ipt a 0, .ipt b 0] = some (bV (q x), [])) : ∃ res outs, (fun res outs => ∃ r : Int, res = iV r ∧ outs = [] ∧ decide (0 ≤ r) = xs.any q) res outs ∧ CW (cxT oG) 164 [L xs, .clo k [.ipt a 0, .ipt b 0]] = some (res, outs) := by
 refine b8n rfl Tryz.func164 rfl ⟨by kernel_rfl, rfl, dT rfl, dT rfl, by decide⟩ a7o <| A3 <| A0 <| y_S rfl <| xN [0,1] [] rfl <| A3 <| A3 <| A0 <| y_M rfl <| C2 rfl rfl <| y_M rfl <| xN [0,1,7,8] [] rfl <| A9 <| F6 (β := Nat) [(.t 0, _), (.t 1, _), (.t 7, _)] (fun (i : Nat) => [(.t 8, iV i)]) (fun (i : Nat) => i ≤ xs.length ∧ ∀ j, j < i → q (xs.getD j default) = false) (fun (i : Nat) => xs.length - i) 0 ⟨rfl, rfl, rfl, rfl, trivial⟩ ⟨Nat.zero_le _, fun j h => by omega⟩ ?_
 intro i hb
 obtain ⟨hi1, hi2⟩ := hb
 refine A3 <| A0 <| G1 rfl rfl <| xN [0,1,7,8,9] [] rfl <| A3 ?_
 refine A5 rfl ?_ ?_ <;> intro hc <;> try simp only [SL] at hc
 ·refine A7 <| A3 <| A9 <| A3 <| A0 <| y_M rfl <| y_S rfl <| xN [0,1,5,7,8] [] rfl <| A3 <| A0 <| y_M rfl <| y_M rfl <| y_M rfl <| B8 rfl rfl rfl (fun _ => rfl) (by omega) <| y_I rfl ?_
  apply d7i rfl rfl
  ·apply B4
   ·exact B9 rfl
   apply B4
   ·exact B9 rfl
   apply B4
   ·exact B9 rfl
   exact D8
  ·exact hq (xs.getD i default)
  ·exact ⟨rfl, rfl, rfl, dT rfl, rfl⟩
  ·exact .inl rfl
  ·exact B7
  ·exact H6 rfl
  ·exact fun _ => rfl
  intro g16
  refine xN [0,1,5,7,8,16] [] rfl ?_
  refine A5 rfl ?_ ?_ <;> intro hc <;> try simp only [SL] at hc
  ·refine A3 <| A0 <| y_M rfl <| y_S rfl <| xN [4] [] rfl <| A8 ?_
   refine ⟨_, _, ?_, c1v rfl rfl B2⟩
   exact ⟨_, rfl, rfl, d6j (by omega) hc⟩
  refine A7 <| A0 <| F3 rfl rfl (D4 (by omega)) <| y_M rfl <| xN [0,1,7,8] [] rfl ?_
  refine ⟨i + 1, ⟨by omega, fun a ha => by rcases Nat.lt_succ_iff_lt_or_eq.1 ha with h | h; exact hi2 a h; subst h; exact hc⟩, (by omega), ⟨rfl, rfl, rfl, rfl, trivial⟩⟩
 refine E6 <| A3 <| A0 <| y_S rfl <| xN [4] [] rfl <| A8 ?_
 refine ⟨_, _, ?_, c1v rfl rfl B2⟩
 exact ⟨-1, rfl, rfl, d4h fun j hj => hi2 j (by omega)⟩

theorem a3q : F4 Tryz.f141 = [0, 1, 4] := by kernel_rfl
theorem b1y (xs : List Int) (hl : xs.length ≤ 1000) (k : Nat) (a b : AV) (q : Int → Bool) (hq : ∀ x, CW (cxT oG) k [iV x, .ipt a 0, .ipt b 0] = some (bV (q x), [])) : CW (cxT oG) 141 [L xs, .clo k [.ipt a 0, .ipt b 0]] = some (bV (xs.any q), []) := by
 obtain ⟨_, _, ⟨r, rfl, rfl, hr⟩, hC⟩ := b9f (oG := oG) xs hl k a b q hq
 refine E4 rfl Tryz.func141 rfl ⟨by kernel_rfl, rfl, dT rfl, dT rfl, by decide⟩ a3q <| A3 <| A0 <| y_S rfl <| xN [0,1] [] rfl <| A3 <| A0 <| y_M rfl <| y_M rfl ?_
 apply xC rfl
 ·apply B4
  ·exact B9 rfl
  apply B4
  ·exact d3e rfl (d5q (d5q d3k))
  exact D8
 ·exact hC
 refine ⟨⟨rfl, rfl, rfl, dT rfl, rfl⟩, .inl rfl, B7, H6 rfl, fun _ => rfl, fun g7 => ?_⟩
 refine c9p rfl rfl <| y_S rfl <| xN [4] [] rfl <| A8 <| C6 rfl rfl trivial ?_
 rw [← hr]

theorem b6d : F4 Tryz.f142 = [0, 1, 2, 4] := by kernel_rfl
theorem d4j (x lo hi : Int) : CW (cxT oG) 142 [iV x, .ipt (iV lo) 0, .ipt (iV hi) 0] = some (bV (!(decide (lo ≤ x) && decide (x ≤ hi))), []) := by
 refine E4 rfl Tryz.func142 rfl ⟨by kernel_rfl, rfl, dT rfl, dT rfl, by decide⟩ b6d <| A3 <| A0 <| y_S rfl <| xN [0,1,2] [] rfl <| A3 <| A0 <| y_M rfl <| y_I rfl <| y_I rfl ?_
 refine xC3 rfl rfl rfl rfl (e0k _ _ _) ⟨rfl, rfl, rfl⟩ rfl rfl fun g8 => ?_
 refine I8 rfl <| y_S rfl <| xN [4] [] rfl <| A8 <| C6 rfl rfl trivial ?_
 rfl

theorem c1g : F4 Tryz.f111 = [0, 1, 2, 6, 4, 5] := by kernel_rfl
theorem c9q (xs : List Int) (hl : xs.length ≤ 1000) (lo hi : Int) : CW (cxT oG) 111 [L xs, iV lo, iV hi] = some (bV (a9d lo hi xs), []) := by
 refine E4 rfl Tryz.func111 rfl ⟨by kernel_rfl, rfl, dT rfl, dT rfl, by decide⟩ c1g <| A3 <| A0 <| a1d rfl rfl rfl (fun _ => M4 rfl) (fun _ => rfl) ?_
 intro g4
 refine a1d rfl rfl rfl (fun _ => M4 rfl) (fun _ => rfl) ?_
 intro g5
 refine y_S rfl <| xN [0,4,5] [4,5] rfl <| A3 <| A0 <| y_M rfl <| c6x rfl rfl ?_
 apply xC rfl
 ·apply B4
  ·exact B9 rfl
  apply B4
  ·exact d3e rfl (d4a rfl rfl (d4a rfl rfl d3k))
  exact D8
 ·exact b1y xs hl 142 (iV lo) (iV hi) _ (fun x => d4j x lo hi)
 refine ⟨⟨rfl, rfl, rfl, dT rfl, rfl⟩, .inr ⟨rfl, rfl⟩, B7, H6 rfl, fun _ => rfl, fun g9 => ?_⟩
 refine I8 rfl <| y_S rfl <| xN [6] [] rfl <| A8 <| C6 rfl rfl trivial ?_
 exact congrArg bV (d2z lo hi xs)

theorem a9v : F4 Tryz.f103 = [0, 2, 3, 7, 15] := by kernel_rfl
theorem a4u (xs : List Int) (hl : xs.length ≤ 1048576) : CW (cxT oG) 103 [L xs] = some (bV (vd xs), []) := by
 refine E4 rfl Tryz.func103 rfl ⟨by kernel_rfl, rfl, dT rfl, dT rfl, by decide⟩ a9v <| A3 <| A0 <| y_S rfl <| xN [0] [] rfl <| A3 <| A3 <| A0 <| y_S rfl <| xN [0,3] [] rfl <| A9 <| F6 (β := Nat) [(.t 0, _)] (fun (i : Nat) => [(.t 3, iV i)]) (fun (i : Nat) => i ≤ xs.length ∧ ∀ j, j < i → -200 ≤ xs.getD j default ∧ xs.getD j default ≤ 200) (fun (i : Nat) => xs.length - i) 0 ⟨rfl, rfl, trivial⟩ ⟨Nat.zero_le _, fun j h => by omega⟩ ?_
 intro i hb
 obtain ⟨hi1, hi2⟩ := hb
 refine A3 <| A3 <| A0 <| y_M rfl <| y_M rfl <| C2 rfl rfl <| G1 rfl rfl <| xN [0,3,7] [] rfl ?_
 refine A5 rfl ?_ ?_ <;> intro hc <;> try simp only [SL] at hc
 ·refine A7 <| A3 <| A9 <| A3 <| A0 <| y_M rfl <| y_M rfl <| B8 rfl rfl rfl (fun _ => rfl) (by omega) <| y_I rfl ?_
  refine xC3 rfl rfl rfl rfl (b7s _ _ _) ⟨rfl, rfl, rfl⟩ rfl rfl fun g14 => ?_
  refine I8 rfl <| xN [0,3,15] [] rfl ?_
  refine A5 rfl ?_ ?_ <;> intro hc <;> try simp only [SL] at hc
  ·refine A3 <| A0 <| y_S rfl <| xN [2] [] rfl <| A8 <| C6 rfl rfl trivial ?_
   rw [vd, c4b (show i < xs.length by omega) (by (simp_all; omega)), Bool.and_false]
   rfl
  refine A7 <| A0 <| y_M rfl <| F3 rfl rfl (D4 (by omega)) <| y_S rfl <| xN [0,3] [] rfl ?_
  refine ⟨i + 1, ⟨by omega, fun j hj => by rcases Nat.lt_succ_iff_lt_or_eq.1 hj with h | h; (· exact hi2 j h); (· subst h; assumption)⟩, (by omega), ⟨rfl, rfl, trivial⟩⟩
 refine E6 <| A3 <| A0 <| y_M rfl <| C2 rfl rfl <| a8f rfl rfl <| y_S rfl <| xN [2] [] rfl <| A8 <| C6 rfl rfl trivial ?_
 rw [vd, c9m fun j hj => hi2 j (by omega), Bool.and_true]
 exact congrArg bV (decide_eq_decide.2 (by omega))

theorem a8n : F4 Tryz.f100 = [0, 2] := by kernel_rfl
theorem a0b (xs : List Int) (hl : xs.length ≤ 1048576) : CW (cxT oG) 100 [L xs] = some (bV (vd xs), []) := by
 refine E4 rfl Tryz.func100 rfl ⟨by kernel_rfl, rfl, dT rfl, dT rfl, by decide⟩ a8n <| A3 <| A0 <| y_S rfl <| xN [0] [] rfl <| A3 <| A0 <| y_M rfl <| C2 rfl rfl <| a8f rfl rfl <| y_M rfl ?_
 refine C5 rfl rfl ?_ ?_ <;> intro hg0 <;> have hg := hg0 <;> try simp only [SG] at hg
 ·refine y_M rfl <| gT rfl rfl ?_
  refine xC3 rfl rfl rfl rfl (c9q xs (by omega) (-200) 200) ⟨rfl, rfl, rfl⟩ rfl rfl fun g8 => ?_
  refine E9 rfl (by assumption) rfl rfl <| y_S rfl <| xN [2] [] rfl <| A8 <| C6 rfl rfl trivial ?_
  cases hb : a9d (-200) 200 xs <;> simp_all [vd, ofConst] <;> omega
 refine gF rfl rfl <| F7 rfl (by assumption) rfl rfl <| y_S rfl <| xN [2] [] rfl <| A8 <| C6 rfl rfl trivial ?_
 cases hb : a9d (-200) 200 xs <;> simp_all [vd, ofConst] <;> omega

theorem b9v : F4 Tryz.f64 = [0, 2, 3, 4, 10, 19] := by kernel_rfl
theorem a7w (w : ByteArray) : CW (cxT oG) 64 [sV w] = some (iV (nd w), []) := by
 refine E4 rfl Tryz.func64 rfl ⟨by kernel_rfl, rfl, dT rfl, dT rfl, by decide⟩ b9v <| A3 <| A0 <| y_S rfl <| xN [0] [] rfl <| A3 <| A3 <| A0 <| y_M rfl <| xN [3] [] rfl <| A9 <| A3 <| A3 <| A0 <| I1 rfl rfl <| y_S rfl <| xN [3,4] [] rfl ?_
 refine A5 rfl ?_ ?_ <;> intro hc <;> try simp only [SL] at hc
 ·refine A7 ?_
  refine A5 rfl (fun hc => ?_) (fun hc => absurd hc (by simp_all))
  refine A3 <| A0 <| y_S rfl <| xN [2] [] rfl <| A8 <| C6 rfl rfl trivial <| congrArg iV ?_
  simp_all [nd]
 refine A3 <| A0 <| I1 rfl rfl <| y_S rfl <| xN [3,4] [] rfl ?_
 refine A5 rfl ?_ ?_ <;> intro hc <;> try simp only [SL] at hc
 ·refine A7 ?_
  refine A5 rfl (fun hc => ?_) (fun hc => absurd hc (by simp_all))
  refine A3 <| A0 <| y_S rfl <| xN [2] [] rfl <| A8 <| C6 rfl rfl trivial <| congrArg iV ?_
  simp_all [nd]
 refine A3 <| A0 <| I1 rfl rfl <| y_S rfl <| xN [3,4] [] rfl ?_
 refine A5 rfl ?_ ?_ <;> intro hc <;> try simp only [SL] at hc
 ·refine A7 ?_
  refine A5 rfl (fun hc => ?_) (fun hc => absurd hc (by simp_all))
  refine A3 <| A0 <| y_S rfl <| xN [2] [] rfl <| A8 <| C6 rfl rfl trivial <| congrArg iV ?_
  simp_all [nd]
 refine A3 <| A0 <| I1 rfl rfl <| y_S rfl <| xN [3,4] [] rfl ?_
 refine A5 rfl ?_ ?_ <;> intro hc <;> try simp only [SL] at hc
 ·refine A7 ?_
  refine A5 rfl (fun hc => ?_) (fun hc => absurd hc (by simp_all))
  refine A3 <| A0 <| y_S rfl <| xN [2] [] rfl <| A8 <| C6 rfl rfl trivial <| congrArg iV ?_
  simp_all [nd]
 refine A0 <| I1 rfl rfl <| y_S rfl <| xN [3,4] [] rfl ?_
 refine A5 rfl ?_ ?_ <;> intro hc <;> try simp only [SL] at hc
 ·refine A3 <| A0 <| y_S rfl <| xN [2] [] rfl <| A8 <| C6 rfl rfl trivial <| congrArg iV ?_
  simp_all [nd]
 refine A3 <| A3 <| A0 <| I1 rfl rfl <| y_S rfl <| xN [3,10] [] rfl ?_
 refine A5 rfl ?_ ?_ <;> intro hc <;> try simp only [SL] at hc
 ·refine A7 ?_
  refine A5 rfl (fun hc => ?_) (fun hc => absurd hc (by simp_all))
  refine A3 <| A0 <| y_S rfl <| xN [2] [] rfl <| A8 <| C6 rfl rfl trivial <| congrArg iV ?_
  simp_all [nd]
 refine A3 <| A0 <| I1 rfl rfl <| y_S rfl <| xN [3,10] [] rfl ?_
 refine A5 rfl ?_ ?_ <;> intro hc <;> try simp only [SL] at hc
 ·refine A7 ?_
  refine A5 rfl (fun hc => ?_) (fun hc => absurd hc (by simp_all))
  refine A3 <| A0 <| y_S rfl <| xN [2] [] rfl <| A8 <| C6 rfl rfl trivial <| congrArg iV ?_
  simp_all [nd]
 refine A3 <| A0 <| I1 rfl rfl <| y_S rfl <| xN [3,10] [] rfl ?_
 refine A5 rfl ?_ ?_ <;> intro hc <;> try simp only [SL] at hc
 ·refine A7 ?_
  refine A5 rfl (fun hc => ?_) (fun hc => absurd hc (by simp_all))
  refine A3 <| A0 <| y_S rfl <| xN [2] [] rfl <| A8 <| C6 rfl rfl trivial <| congrArg iV ?_
  simp_all [nd]
 refine A3 <| A0 <| I1 rfl rfl <| y_S rfl <| xN [3,10] [] rfl ?_
 refine A5 rfl ?_ ?_ <;> intro hc <;> try simp only [SL] at hc
 ·refine A7 ?_
  refine A5 rfl (fun hc => ?_) (fun hc => absurd hc (by simp_all))
  refine A3 <| A0 <| y_S rfl <| xN [2] [] rfl <| A8 <| C6 rfl rfl trivial <| congrArg iV ?_
  simp_all [nd]
 refine A3 <| A0 <| I1 rfl rfl <| y_S rfl <| xN [3,10] [] rfl ?_
 refine A5 rfl ?_ ?_ <;> intro hc <;> try simp only [SL] at hc
 ·refine A7 ?_
  refine A5 rfl (fun hc => ?_) (fun hc => absurd hc (by simp_all))
  refine A3 <| A0 <| y_S rfl <| xN [2] [] rfl <| A8 <| C6 rfl rfl trivial <| congrArg iV ?_
  simp_all [nd]
 refine A3 <| A0 <| I1 rfl rfl <| y_S rfl <| xN [3,10] [] rfl ?_
 refine A5 rfl ?_ ?_ <;> intro hc <;> try simp only [SL] at hc
 ·refine A7 ?_
  refine A5 rfl (fun hc => ?_) (fun hc => absurd hc (by simp_all))
  refine A3 <| A0 <| y_S rfl <| xN [2] [] rfl <| A8 <| C6 rfl rfl trivial <| congrArg iV ?_
  simp_all [nd]
 refine A3 <| A0 <| I1 rfl rfl <| y_S rfl <| xN [3,10] [] rfl ?_
 refine A5 rfl ?_ ?_ <;> intro hc <;> try simp only [SL] at hc
 ·refine A7 ?_
  refine A5 rfl (fun hc => ?_) (fun hc => absurd hc (by simp_all))
  refine A3 <| A0 <| y_S rfl <| xN [2] [] rfl <| A8 <| C6 rfl rfl trivial <| congrArg iV ?_
  simp_all [nd]
 refine A0 <| I1 rfl rfl <| y_S rfl <| xN [3,10] [] rfl ?_
 refine A5 rfl ?_ ?_ <;> intro hc <;> try simp only [SL] at hc
 ·refine A3 <| A0 <| y_S rfl <| xN [2] [] rfl <| A8 <| C6 rfl rfl trivial <| congrArg iV ?_
  simp_all [nd]
 refine A3 <| A3 <| A0 <| I1 rfl rfl <| y_S rfl <| xN [3,19] [] rfl ?_
 refine A5 rfl ?_ ?_ <;> intro hc <;> try simp only [SL] at hc
 ·refine A7 ?_
  refine A5 rfl (fun hc => ?_) (fun hc => absurd hc (by simp_all))
  refine A3 <| A0 <| y_S rfl <| xN [2] [] rfl <| A8 <| C6 rfl rfl trivial <| congrArg iV ?_
  simp_all [nd]
 refine A0 <| I1 rfl rfl <| y_S rfl <| xN [19] [] rfl ?_
 refine A5 rfl ?_ ?_ <;> intro hc <;> try simp only [SL] at hc
 ·refine A3 <| A0 <| y_S rfl <| xN [2] [] rfl <| A8 <| C6 rfl rfl trivial <| congrArg iV ?_
  simp_all [nd]
 refine A7 <| A3 <| A0 <| y_S rfl <| xN [2] [] rfl <| A8 <| C6 rfl rfl trivial <| congrArg iV ?_
 simp_all [nd]

theorem b5p : F4 Tryz.f86 = [0, 2, 3, 4, 13, 16] := by kernel_rfl
theorem d2q (w : ByteArray) : CW (cxT oG) 86 [sV w] = some (iV (rch w), []) := by
 refine E4 rfl Tryz.func86 rfl ⟨by kernel_rfl, rfl, dT rfl, dT rfl, by decide⟩ b5p <| A3 <| A0 <| y_S rfl <| xN [0] [] rfl <| A3 <| A3 <| A0 <| y_M rfl <| xN [3] [] rfl <| A9 <| A3 <| A3 <| A0 <| I1 rfl rfl <| y_S rfl <| xN [3,4] [] rfl ?_
 refine A5 rfl ?_ ?_ <;> intro hc <;> try simp only [SL] at hc
 ·refine A7 ?_
  refine A5 rfl (fun hc => ?_) (fun hc => absurd hc (by simp_all))
  refine A3 <| A0 <| y_S rfl <| xN [2] [] rfl <| A8 <| C6 rfl rfl trivial <| congrArg iV ?_
  simp_all [rch]
 refine A3 <| A0 <| I1 rfl rfl <| y_S rfl <| xN [3,4] [] rfl ?_
 refine A5 rfl ?_ ?_ <;> intro hc <;> try simp only [SL] at hc
 ·refine A7 ?_
  refine A5 rfl (fun hc => ?_) (fun hc => absurd hc (by simp_all))
  refine A3 <| A0 <| y_S rfl <| xN [2] [] rfl <| A8 <| C6 rfl rfl trivial <| congrArg iV ?_
  simp_all [rch]
 refine A3 <| A0 <| I1 rfl rfl <| y_S rfl <| xN [3,4] [] rfl ?_
 refine A5 rfl ?_ ?_ <;> intro hc <;> try simp only [SL] at hc
 ·refine A7 ?_
  refine A5 rfl (fun hc => ?_) (fun hc => absurd hc (by simp_all))
  refine A3 <| A0 <| y_S rfl <| xN [2] [] rfl <| A8 <| C6 rfl rfl trivial <| congrArg iV ?_
  simp_all [rch]
 refine A3 <| A0 <| I1 rfl rfl <| y_S rfl <| xN [3,4] [] rfl ?_
 refine A5 rfl ?_ ?_ <;> intro hc <;> try simp only [SL] at hc
 ·refine A7 ?_
  refine A5 rfl (fun hc => ?_) (fun hc => absurd hc (by simp_all))
  refine A3 <| A0 <| y_S rfl <| xN [2] [] rfl <| A8 <| C6 rfl rfl trivial <| congrArg iV ?_
  simp_all [rch]
 refine A3 <| A0 <| I1 rfl rfl <| y_S rfl <| xN [3,4] [] rfl ?_
 refine A5 rfl ?_ ?_ <;> intro hc <;> try simp only [SL] at hc
 ·refine A7 ?_
  refine A5 rfl (fun hc => ?_) (fun hc => absurd hc (by simp_all))
  refine A3 <| A0 <| y_S rfl <| xN [2] [] rfl <| A8 <| C6 rfl rfl trivial <| congrArg iV ?_
  simp_all [rch]
 refine A3 <| A0 <| I1 rfl rfl <| y_S rfl <| xN [3,4] [] rfl ?_
 refine A5 rfl ?_ ?_ <;> intro hc <;> try simp only [SL] at hc
 ·refine A7 ?_
  refine A5 rfl (fun hc => ?_) (fun hc => absurd hc (by simp_all))
  refine A3 <| A0 <| y_S rfl <| xN [2] [] rfl <| A8 <| C6 rfl rfl trivial <| congrArg iV ?_
  simp_all [rch]
 refine A3 <| A0 <| I1 rfl rfl <| y_S rfl <| xN [3,4] [] rfl ?_
 refine A5 rfl ?_ ?_ <;> intro hc <;> try simp only [SL] at hc
 ·refine A7 ?_
  refine A5 rfl (fun hc => ?_) (fun hc => absurd hc (by simp_all))
  refine A3 <| A0 <| y_S rfl <| xN [2] [] rfl <| A8 <| C6 rfl rfl trivial <| congrArg iV ?_
  simp_all [rch]
 refine A0 <| I1 rfl rfl <| y_S rfl <| xN [3,4] [] rfl ?_
 refine A5 rfl ?_ ?_ <;> intro hc <;> try simp only [SL] at hc
 ·refine A3 <| A0 <| y_S rfl <| xN [2] [] rfl <| A8 <| C6 rfl rfl trivial <| congrArg iV ?_
  simp_all [rch]
 refine A3 <| A3 <| A0 <| I1 rfl rfl <| y_S rfl <| xN [3,13] [] rfl ?_
 refine A5 rfl ?_ ?_ <;> intro hc <;> try simp only [SL] at hc
 ·refine A7 ?_
  refine A5 rfl (fun hc => ?_) (fun hc => absurd hc (by simp_all))
  refine A3 <| A0 <| y_S rfl <| xN [2] [] rfl <| A8 <| C6 rfl rfl trivial <| congrArg iV ?_
  simp_all [rch]
 refine A0 <| I1 rfl rfl <| y_S rfl <| xN [3,13] [] rfl ?_
 refine A5 rfl ?_ ?_ <;> intro hc <;> try simp only [SL] at hc
 ·refine A3 <| A0 <| y_S rfl <| xN [2] [] rfl <| A8 <| C6 rfl rfl trivial <| congrArg iV ?_
  simp_all [rch]
 refine A3 <| A3 <| A0 <| I1 rfl rfl <| y_S rfl <| xN [3,16] [] rfl ?_
 refine A5 rfl ?_ ?_ <;> intro hc <;> try simp only [SL] at hc
 ·refine A7 ?_
  refine A5 rfl (fun hc => ?_) (fun hc => absurd hc (by simp_all))
  refine A3 <| A0 <| y_S rfl <| xN [2] [] rfl <| A8 <| C6 rfl rfl trivial <| congrArg iV ?_
  simp_all [rch]
 refine A3 <| A0 <| I1 rfl rfl <| y_S rfl <| xN [3,16] [] rfl ?_
 refine A5 rfl ?_ ?_ <;> intro hc <;> try simp only [SL] at hc
 ·refine A7 ?_
  refine A5 rfl (fun hc => ?_) (fun hc => absurd hc (by simp_all))
  refine A3 <| A0 <| y_S rfl <| xN [2] [] rfl <| A8 <| C6 rfl rfl trivial <| congrArg iV ?_
  simp_all [rch]
 refine A3 <| A0 <| I1 rfl rfl <| y_S rfl <| xN [3,16] [] rfl ?_
 refine A5 rfl ?_ ?_ <;> intro hc <;> try simp only [SL] at hc
 ·refine A7 ?_
  refine A5 rfl (fun hc => ?_) (fun hc => absurd hc (by simp_all))
  refine A3 <| A0 <| y_S rfl <| xN [2] [] rfl <| A8 <| C6 rfl rfl trivial <| congrArg iV ?_
  simp_all [rch]
 refine A0 <| I1 rfl rfl <| y_S rfl <| xN [16] [] rfl ?_
 refine A5 rfl ?_ ?_ <;> intro hc <;> try simp only [SL] at hc
 ·refine A3 <| A0 <| y_S rfl <| xN [2] [] rfl <| A8 <| C6 rfl rfl trivial <| congrArg iV ?_
  simp_all [rch]
 refine A7 <| A3 <| A0 <| y_S rfl <| xN [2] [] rfl <| A8 <| C6 rfl rfl trivial <| congrArg iV ?_
 simp_all [rch]

theorem b6p : F4 Tryz.f148 = [0, 2, 4, 10] := by kernel_rfl
theorem a4l (n : Int) (hn : -1000000 ≤ n ∧ n ≤ 1000000) : CW (cxT oG) 148 [iV n] = some (tV (dec n), []) := by
 obtain ⟨kk, hkk⟩ : ∃ kk : Nat, 2 * n.natAbs + (if n < 0 then 1 else 0) < kk := ⟨_, Nat.lt_succ_self _⟩
 revert n
 induction kk with
 | zero => intro n hn hkk; exact absurd hkk (Nat.not_lt_zero _)
 | succ kk ih =>
  intro n hn hkk
  refine E4 rfl Tryz.func148 rfl ⟨by kernel_rfl, rfl, dT rfl, dT rfl, by decide⟩ b6p <| A3 <| A0 <| y_S rfl <| xN [0] [] rfl <| A3 <| A3 <| A0 <| y_M rfl <| G1 rfl rfl <| xN [0,4] [] rfl ?_
  refine A5 rfl ?_ ?_ <;> intro hc <;> try simp only [SL] at hc
  ·refine A3 <| A0 <| y_M rfl <| b8j rfl (D4 (by omega)) ?_
   have hdl := U3 (m := -n) (by omega)
   refine xC1 rfl rfl (ih (-n) (by omega) (by split at hkk <;> split <;> omega)) ⟨rfl, rfl, rfl⟩ rfl rfl fun g7 => ?_
   refine U4 rfl rfl (by simp only [H4, List.length_append, List.length_cons, List.length_nil]; omega) <| y_S rfl <| xN [2] [] rfl <| A8 <| C6 rfl rfl trivial ?_
   exact congrArg tV (d6f (by assumption)).symm
  refine A7 <| A3 <| A3 <| A0 <| y_M rfl <| G1 rfl rfl <| xN [0,10] [] rfl ?_
  refine A5 rfl ?_ ?_ <;> intro hc <;> try simp only [SL] at hc
  ·refine A3 <| A0 <| y_M rfl <| y_M rfl <| F3 rfl rfl (D4 (by omega)) <| a4g rfl rfl (a3y rfl (by omega)) (a3y rfl (by omega)) (by (simp; omega)) <| y_S rfl <| xN [2] [] rfl <| A8 <| C6 rfl rfl trivial ?_
   rw [d6e (by omega)]
  refine A7 <| A3 <| A0 <| y_M rfl ?_
  have hd10 : n.tdiv 10 = n / 10 := Int.tdiv_eq_ediv_of_nonneg (by omega)
  refine d9x rfl rfl ⟨by omega, D4 (by omega)⟩ ?_
  have hd10 : n.tdiv 10 = n / 10 := Int.tdiv_eq_ediv_of_nonneg (by omega)
  have hdl0 := U3 (m := n.tdiv 10) (by omega)
  refine xC1 rfl rfl (ih (n.tdiv 10) (by omega) (by split at hkk <;> split <;> omega)) ⟨rfl, rfl, rfl⟩ rfl rfl fun g17 => ?_
  refine y_M rfl <| d9r rfl rfl (by omega) ?_
  have hm10 : n.tmod 10 = n % 10 := Int.tmod_eq_emod_of_nonneg (by omega)
  have hdl1 := U3 (m := n.tmod 10) (by omega)
  refine xC1 rfl rfl (ih (n.tmod 10) (by omega) (by split at hkk <;> split <;> omega)) ⟨rfl, rfl, rfl⟩ rfl rfl fun g20 => ?_
  refine U4 rfl rfl (by simp only [H4, List.length_append, List.length_cons, List.length_nil]; omega) <| y_S rfl <| xN [2] [] rfl <| A8 <| C6 rfl rfl trivial ?_
  rw [← d8s (by omega)]

theorem b1k : F4 Tryz.f124 = [0, 2, 4, 8, 12, 3] := by kernel_rfl
theorem c7u (ns : List Int) (hl : ns.length ≤ 1000000) (hnb : ∀ n ∈ ns, -1000000 ≤ n ∧ n ≤ 1000000) : CW (cxT oG) 124 [L ns] = some (tV (O1 ns), []) := by
 have hg := fun (i : Nat) (h : i < ns.length) => hnb _ (a8k h)
 refine E4 rfl Tryz.func124 rfl ⟨by kernel_rfl, rfl, dT rfl, dT rfl, by decide⟩ b1k <| A3 <| A0 <| y_S rfl <| xN [0] [] rfl <| A3 <| A0 <| y_S rfl <| xN [0,3] [] rfl <| A3 <| A3 <| A0 <| y_S rfl <| xN [0,3,4] [] rfl <| A9 <| F6 (β := Nat) [(.t 0, _)] (fun (i : Nat) => [(.t 4, iV i), (.t 3, tV (O1 (ns.take i)))]) (fun (i : Nat) => i ≤ ns.length) (fun (i : Nat) => ns.length - i) 0 ⟨rfl, rfl, rfl, trivial⟩ (Nat.zero_le _) ?_
 intro i hb
 have hi1 := hb
 have hll := a0n (ns := ns.take i) (fun n hn => hnb n (List.mem_of_mem_take hn))
 rw [List.length_take] at hll
 refine A3 <| A3 <| A0 <| y_M rfl <| y_M rfl <| C2 rfl rfl <| G1 rfl rfl <| xN [0,3,4,8] [] rfl ?_
 refine A5 rfl ?_ ?_ <;> intro hc <;> try simp only [SL] at hc
 ·refine A7 <| A3 <| A9 <| A3 <| A3 <| A0 <| y_M rfl <| O6 rfl rfl <| xN [0,3,4,12] [] rfl ?_
  refine A5 rfl ?_ ?_ <;> intro hc <;> try simp only [SL] at hc
  ·have hi0 : 0 < i := by omega
   refine A0 <| y_M rfl <| U4 rfl rfl (by simp only [H4, List.length_append, List.length_cons, List.length_nil]; omega) <| y_S rfl <| xN [0,3,4] [] rfl <| A0 <| y_M rfl <| y_M rfl <| y_M rfl <| B8 rfl rfl rfl (fun _ => rfl) (by omega) <| y_I rfl ?_
   have hgi := hg i (by omega)
   have hdl := U3 hgi
   refine xC1 rfl rfl (a4l (ns.getD i default) hgi) ⟨rfl, rfl, rfl⟩ rfl rfl fun g20 => ?_
   refine U4 rfl rfl (by simp only [H4, List.length_append, List.length_cons, List.length_nil]; omega) <| y_S rfl <| xN [0,3,4] [] rfl <| A0 <| y_M rfl <| F3 rfl rfl (D4 (by omega)) <| y_S rfl <| xN [0,3,4] [] rfl ?_
   rw [← c4s (by omega) hi0]
   refine ⟨i + 1, ?_, (by omega), ⟨rfl, rfl, rfl, trivial⟩⟩
   omega
  have hi0 : i = 0 := by omega
  refine A7 <| A0 <| y_M rfl <| y_M rfl <| y_M rfl <| B8 rfl rfl rfl (fun _ => rfl) (by omega) <| y_I rfl ?_
  have hgi := hg i (by omega)
  have hdl := U3 hgi
  refine xC1 rfl rfl (a4l (ns.getD i default) hgi) ⟨rfl, rfl, rfl⟩ rfl rfl fun g20 => ?_
  refine U4 rfl rfl (by simp only [H4, List.length_append, List.length_cons, List.length_nil]; omega) <| y_S rfl <| xN [0,3,4] [] rfl <| A0 <| y_M rfl <| F3 rfl rfl (D4 (by omega)) <| y_S rfl <| xN [0,3,4] [] rfl ?_
  rw [← c4i (by omega) hi0]
  refine ⟨i + 1, ?_, (by omega), ⟨rfl, rfl, rfl, trivial⟩⟩
  omega
 refine E6 <| A3 <| A0 <| y_M rfl <| y_S rfl <| xN [2] [] rfl <| A8 <| C6 rfl rfl trivial ?_
 rw [List.take_of_length_le (by omega)]

theorem b3b : F4 Tryz.f101 = [0, 1, 4, 7, 12, 19, 6, 5] := by kernel_rfl
theorem b8e (s : List UInt8) (hs : s.length ≤ 1048576) (c : UInt8) : CW (cxT oG) 101 [tV s, uV c.toNat] = some (.own 1 ((splitB c s).map tV), []) := by
 refine E4 rfl Tryz.func101 rfl ⟨by kernel_rfl, rfl, dT rfl, dT rfl, by decide⟩ b3b <| A3 <| A0 ?_
 (refine B0 rfl rfl (fun _ => rfl) ?_; intro g4)
 refine xN [0,1] [] rfl <| A3 <| A0 <| B6 (es := List.map tV []) rfl rfl (dT rfl) rfl rfl (fun _ => B1 (A6 fun _ => rfl)) (fun _ => rfl) ?_
 intro g8
 (refine xO rfl rfl (by simp) rfl (fun _ => rfl) (fun _ => rfl) ?_; intro g5)
 refine xN [0,1,5] [5] rfl <| A3 <| A0 <| y_S rfl <| xN [0,1,5,6] [5] rfl <| A3 <| A3 <| A0 <| y_S rfl <| xN [0,1,5,6,7] [5] rfl <| A9 <| F6 (β := Nat × Nat × List (List UInt8) × Nat) [(.t 0, _), (.t 1, _)] (fun (z : Nat × Nat × List (List UInt8) × Nat) => match z with | (i, fr, out, g) => [(.t 7, iV i), (.t 6, iV fr), (.t 5, .sl 5 g none 0 out.length), (.h 5, .obj g 0 1 (out.map tV))]) (fun (z : Nat × Nat × List (List UInt8) × Nat) => match z with | (i, fr, out, g) => i ≤ s.length ∧ fr ≤ i ∧ out.length ≤ i ∧ splitB c s = out ++ V0 ((s.drop fr).take (i - fr)) (splitB c (s.drop i))) (fun (z : Nat × Nat × List (List UInt8) × Nat) => match z with | (i, fr, out, g) => s.length - i) (0, 0, [], _) ⟨rfl, rfl, rfl, rfl, rfl, rfl, trivial⟩ ⟨Nat.zero_le _, Nat.le_refl _, Nat.le_refl _, by simp [b8k]⟩ ?_
 intro z hb
 obtain ⟨i, fr, out, g⟩ := z
 try dsimp only at hb
 obtain ⟨hi1, hfr, hol, hsp⟩ := hb
 refine A3 <| A3 <| A0 <| y_M rfl <| y_M rfl <| a4e rfl rfl <| G1 rfl rfl <| xN [0,1,5,6,7,12] [5] rfl ?_
 refine A5 rfl ?_ ?_ <;> intro hc <;> try simp only [SL] at hc
 ·refine A7 <| A3 <| A9 <| A3 <| A0 <| y_M rfl <| y_M rfl <| O3 rfl rfl rfl (by omega) <| y_M rfl <| S7 rfl rfl <| xN [0,1,5,6,7,19] [5] rfl ?_
  refine A5 rfl ?_ ?_ <;> intro hc <;> try simp only [SL] at hc
  ·have hcb : s.getD i 0 = c := UInt8.toNat_inj.1 (by omega)
   refine A3 <| A0 <| y_M rfl <| y_M rfl <| y_M rfl <| y_M rfl <| a4g rfl rfl (G9 rfl) (G9 rfl) (by omega) <| B6 (es := List.map tV [_]) rfl rfl (dT rfl) rfl rfl (fun _ => B1 (A6 fun _ => rfl)) (fun _ => rfl) ?_
   intro g25
   refine xA rfl rfl rfl rfl (by simp) (by simp) rfl rfl rfl rfl rfl (fun _ => rfl) (by simp only [LN]; omega) (fun _ => rfl) ?_
   intro g26
   (refine xO rfl rfl (by simp) rfl (fun _ => rfl) (fun _ => rfl) ?_; intro g5)
   refine xN [0,1,5,7] [5] rfl <| A0 <| y_M rfl <| F3 rfl rfl (D4 (by omega)) <| y_S rfl <| xN [0,1,5,6,7] [5] rfl <| A0 <| y_M rfl <| F3 rfl rfl (D4 (by omega)) <| y_S rfl <| xN [0,1,5,6,7] [5] rfl ?_
   refine ⟨(i + 1, i + 1, out ++ [(s.drop fr).take (i - fr)], _), ?_, (by simp only; omega), ⟨rfl, rfl, rfl, rfl, rfl, rfl, trivial⟩⟩
   have hst := b3q (by omega) hfr hsp
   exact ⟨by omega, by omega, by simp; omega, hst.1 hcb⟩
  have hcb : s.getD i 0 ≠ c := fun e => hc (by rw [e])
  refine A7 <| A0 <| y_M rfl <| F3 rfl rfl (D4 (by omega)) <| y_S rfl <| xN [0,1,5,6,7] [5] rfl ?_
  refine ⟨(i + 1, fr, out, _), ?_, (by simp only; omega), ⟨rfl, rfl, rfl, rfl, rfl, rfl, trivial⟩⟩
  have hst := b3q (by omega) hfr hsp
  exact ⟨by omega, by omega, by omega, hst.2 hcb⟩
 refine E6 <| A3 <| A0 <| y_M rfl <| y_M rfl <| y_M rfl <| a4g rfl rfl K7 (G9 rfl) (by omega) <| B6 (es := List.map tV [_]) rfl rfl (dT rfl) rfl rfl (fun _ => B1 (A6 fun _ => rfl)) (fun _ => rfl) ?_
 intro g33
 refine xA rfl rfl rfl rfl (by simp) (by simp) rfl rfl rfl rfl rfl (fun _ => rfl) (by simp only [LN]; omega) (fun _ => rfl) ?_
 intro g34
 (refine xO rfl rfl (by simp) rfl (fun _ => rfl) (fun _ => rfl) ?_; intro g4)
 refine xN [4] [4] rfl <| A8 <| M2 rfl rfl (by simp) (by exact A6 fun _ => rfl) trivial ?_
 have hil : i = s.length := by omega
 rw [hsp, hil, List.drop_length, splitB, V0, List.append_nil]

theorem b1w : F4 Tryz.f125 = [0, 2, 3, 5, 6, 17, 7, 8, 31, 10, 37, 9, 53, 62, 75, 4] := by kernel_rfl
theorem c6v (s : List UInt8) (hs : s.length ≤ 1048576) : CW (cxT oG) 125 [tV s] = some (.tup [.own 1 (((rdL s).getD []).map iV), bV (rdL s).isSome], []) := by
 obtain ⟨ps, hps⟩ : ∃ ps, ps = splitB 44 s := ⟨_, rfl⟩
 have hpl := U1 44 s
 rw [← hps] at hpl
 have hpp := V3 44 s
 rw [← hps] at hpp
 refine E4 rfl Tryz.func125 rfl ⟨by kernel_rfl, rfl, dT rfl, dT rfl, by decide⟩ b1w <| A3 <| A0 ?_
 (refine B0 rfl rfl (fun _ => rfl) ?_; intro g2)
 refine y_S rfl <| xN [0] [] rfl <| A3 <| A0 <| B6 (es := List.map iV []) rfl rfl (dT rfl) rfl rfl (fun _ => B1 (A6 fun _ => rfl)) (fun _ => rfl) ?_
 intro g11
 (refine xO rfl rfl (by simp) rfl (fun _ => rfl) (fun _ => rfl) ?_; intro g4)
 refine xN [0,4] [4] rfl <| A3 <| A0 <| y_M rfl ?_
 apply xC rfl
 ·apply B4
  ·exact B9 rfl
  apply B4
  ·exact B9 rfl
  exact D8
 ·exact b8e s hs 44
 refine ⟨⟨rfl, rfl, rfl, dT rfl, rfl⟩, .inl rfl, B7, J1, fun _ => rfl, fun g13 => ?_⟩
 rw [← hps]
 try simp only [List.length_map]
 (refine xO rfl rfl (by simp) rfl (fun _ => rfl) (fun _ => rfl) ?_; intro g5)
 refine xN [4,5] [4,5] rfl <| A3 <| A3 <| A0 <| y_S rfl <| xN [4,5,6] [4,5] rfl <| A9 <| F6 (β := Nat × List Int × Nat) [(.t 5, _), (.h 5, _)] (fun (z : Nat × List Int × Nat) => match z with | (i, ns, g) => [(.t 6, iV i), (.t 4, .sl 4 g none 0 ns.length), (.h 4, .obj g 0 1 (ns.map iV))]) (fun (z : Nat × List Int × Nat) => match z with | (i, ns, g) => i ≤ ps.length ∧ a0x (ps.take i) = some ns) (fun (z : Nat × List Int × Nat) => match z with | (i, ns, g) => ps.length - i) (0, [], _) ⟨rfl, rfl, rfl, rfl, rfl, trivial⟩ ⟨Nat.zero_le _, rfl⟩ ?_
 intro z hb
 obtain ⟨i, ns, g⟩ := z
 try dsimp only at hb
 obtain ⟨hi1, hrd⟩ := hb
 have hnl := b0q hrd
 rw [List.length_take] at hnl
 have hpi := fun h : i < ps.length => hpp _ (U8 h)
 refine A3 <| A3 <| A0 <| y_M rfl <| y_M rfl <| I5 rfl rfl <| G1 rfl rfl <| xN [4,5,6,17] [4,5] rfl ?_
 refine A5 rfl ?_ ?_ <;> intro hc <;> try simp only [SL] at hc
 ·refine A7 <| A3 <| A9 <| A3 <| A0 <| y_M rfl <| y_M rfl <| D6 rfl rfl rfl rfl (by omega) (by (simp; done)) rfl <| G0 rfl rfl (by omega) (fun _ => rfl) (fun _ => rfl) rfl <| y_S rfl <| xN [4,5,6,7] [4,5] rfl <| A3 <| A0 <| y_M rfl <| b2z rfl rfl <| y_M rfl ?_
  refine C5 rfl rfl ?_ ?_ <;> intro hg0 <;> have hg := hg0 <;> try simp only [SG] at hg
  ·refine y_M rfl <| gT rfl rfl ?_
   have hp0 : 0 < (ps.getD i default).length := List.length_pos_iff.2 (by assumption)
   refine O3 (n := 0) rfl rfl rfl hp0 <| gT rfl rfl <| S7 rfl rfl <| E9 rfl (by assumption) rfl rfl <| y_S rfl <| xN [4,5,6,7,8] [4,5] rfl <| A3 <| A3 <| A0 <| y_M rfl <| xN [4,5,6,7,8,31] [4,5] rfl ?_
   refine A5 rfl ?_ ?_ <;> intro hc <;> try simp only [SL] at hc
   ·obtain ⟨hng, hup⟩ := d9u (p := (ps.getD i default)) (by assumption) (by omega)
    have hul := c1j (ps.getD i default)
    rw [hup] at hul
    refine A0 <| y_M rfl <| a4g rfl rfl K7 (G9 (n := 1) rfl) (by omega) <| y_S rfl <| xN [4,5,6,7,8] [4,5] rfl <| A3 <| A0 <| y_S rfl <| xN [4,5,6,7,8,9] [4,5] rfl <| A3 <| A3 <| A0 <| y_S rfl <| xN [4,5,6,7,8,9,10] [4,5] rfl <| A9 ?_
    have hup0 := hup
    refine F6 (β := Nat × Int) [(.t 4, _), (.t 5, _), (.t 6, _), (.t 7, _), (.t 8, _), (.h 4, _), (.h 5, _)] (fun (z : Nat × Int) => match z with | (k, a) => [(.t 10, iV k), (.t 9, iV a)]) (fun (z : Nat × Int) => match z with | (k, a) => k ≤ (unS (ps.getD i default)).length ∧ 0 ≤ a ∧ V5 0 ((unS (ps.getD i default)).take k) = some a.toNat) (fun (z : Nat × Int) => match z with | (k, a) => (unS (ps.getD i default)).length - k) (0, 0) ⟨rfl, rfl, rfl, rfl, rfl, rfl, rfl, rfl, rfl, trivial⟩ ⟨Nat.zero_le _, by decide, rfl⟩ ?_
    intro z hb
    obtain ⟨k, a⟩ := z
    try dsimp only at hb
    obtain ⟨hk1, ha0, hdg⟩ := hb
    have hab := b2h (by decide) hdg
    rw [hup] at hk1 hdg
    refine A3 <| A3 <| A0 <| y_M rfl <| y_M rfl <| a4e rfl rfl <| G1 rfl rfl <| xN [4,5,6,7,8,9,10,37] [4,5] rfl ?_
    refine A5 rfl ?_ ?_ <;> intro hc <;> try simp only [SL] at hc
    ·refine A7 <| A3 <| A9 <| A3 <| A3 <| A0 <| y_M rfl <| y_M rfl <| O3 rfl rfl rfl (by omega) <| G1 rfl rfl <| y_M rfl ?_
     refine C5 rfl rfl ?_ ?_ <;> intro hg0 <;> have hg := hg0 <;> try simp only [SG] at hg
     ·refine y_M rfl <| gT rfl rfl <| y_M rfl <| gT rfl rfl <| O3 rfl rfl rfl (by omega) <| gT rfl rfl <| O6 rfl rfl <| F7 rfl (by assumption) rfl rfl <| y_M rfl ?_
      refine C5 rfl rfl ?_ ?_ <;> intro hg0 <;> have hg := hg0 <;> try simp only [SG] at hg
      ·refine y_M rfl <| gT rfl rfl <| O6 rfl rfl <| F7 rfl (by assumption) rfl rfl <| xN [4,5,6,7,8,9,10,53] [4,5] rfl ?_
       refine A5 rfl ?_ ?_ <;> intro hc <;> try simp only [SL] at hc
       ·refine A3 <| A0 ?_
        (refine B0 rfl rfl (fun _ => rfl) ?_; intro g2)
        refine y_S rfl <| xN [2,3] [2] rfl <| A8 <| B5 (G2 rfl rfl (by simp) (by rfl) (C7 rfl rfl (C3 B2))) ?_
        rw [rdL, ← hps, L0 (show i < ps.length by omega) (W0 (by rw [hup]; exact S1 (by omega) hdg (by omega)))]
        rfl
       refine A7 <| A0 <| y_M rfl <| c9h rfl rfl (D4 (by omega)) <| y_M rfl <| y_M rfl <| O3 rfl rfl rfl (by omega) <| V2 rfl rfl (d8u (by omega)) <| c1f rfl rfl rfl (D4 (by omega)) <| F3 rfl rfl (D4 (by omega)) <| y_S rfl <| xN [4,5,6,7,8,9,10] [4,5] rfl <| A0 <| y_M rfl <| F3 rfl rfl (D4 (by omega)) <| y_S rfl <| xN [4,5,6,7,8,9,10] [4,5] rfl ?_
       refine ⟨(k + 1, _), ?_, (by simp only [hup]; omega), ⟨rfl, rfl, rfl, rfl, rfl, rfl, rfl, rfl, rfl, trivial⟩⟩
       rw [hup]
       have hds := a9r (by omega) hdg (by omega)
       exact ⟨by omega, by omega, hds.trans (congrArg some (by omega))⟩
      refine gF rfl rfl <| E9 rfl (by assumption) rfl rfl <| xN [4,5,6,7,8,9,10,53] [4,5] rfl ?_
      refine A5 rfl (fun hc => ?_) (fun hc => absurd hc (by decide))
      refine A3 <| A0 ?_
      (refine B0 rfl rfl (fun _ => rfl) ?_; intro g2)
      refine y_S rfl <| xN [2,3] [2] rfl <| A8 <| B5 (G2 rfl rfl (by simp) (by rfl) (C7 rfl rfl (C3 B2))) ?_
      rw [rdL, ← hps, L0 (show i < ps.length by omega) (W0 (by rw [hup]; exact S1 (by omega) hdg (by omega)))]
      rfl
     refine gF rfl rfl <| gF rfl rfl <| gF rfl rfl <| E9 rfl (by assumption) rfl rfl <| y_M rfl <| J5 rfl rfl rfl <| J5 rfl rfl rfl <| E9 rfl rfl rfl rfl <| xN [4,5,6,7,8,9,10,53] [4,5] rfl ?_
     refine A5 rfl (fun hc => ?_) (fun hc => absurd hc (by decide))
     refine A3 <| A0 ?_
     (refine B0 rfl rfl (fun _ => rfl) ?_; intro g2)
     refine y_S rfl <| xN [2,3] [2] rfl <| A8 <| B5 (G2 rfl rfl (by simp) (by rfl) (C7 rfl rfl (C3 B2))) ?_
     rw [rdL, ← hps, L0 (show i < ps.length by omega) (W0 (by rw [hup]; exact S1 (by omega) hdg (by omega)))]
     rfl
    have hdU : V5 0 (unS (ps.getD i default)) = some a.toNat := by rw [hup]; rw [List.take_of_length_le (by omega)] at hdg; exact hdg
    refine E6 <| A3 <| A3 <| A0 <| y_M rfl <| xN [4,5,6,7,9,62] [4,5] rfl ?_
    refine A5 rfl (fun hc => ?_) (fun hc => absurd hc (by simp_all))
    refine A0 <| y_M rfl <| b8j rfl (D4 (by omega)) <| y_S rfl <| xN [4,5,6,7,9] [4,5] rfl <| A3 <| A3 <| A0 <| y_M rfl <| P4 rfl rfl <| y_M rfl ?_
    refine C5 rfl rfl ?_ ?_ <;> intro hg0 <;> have hg := hg0 <;> try simp only [SG] at hg
    ·refine y_M rfl <| gT rfl rfl ?_
     have hdl1 := U3 (m := -a) (by omega)
     have hdl2 := U3 (m := a) (by omega)
     refine xC1 rfl rfl (a4l (-a) (by omega)) ⟨rfl, rfl, rfl⟩ rfl rfl fun g69 => ?_
     refine gT rfl rfl <| y_M rfl <| gT rfl rfl <| y_M rfl <| gT rfl rfl <| D6 rfl rfl rfl rfl (by omega) (by (simp; done)) rfl <| gT rfl rfl <| G0 rfl rfl (by omega) (fun _ => rfl) (fun _ => rfl) rfl <| gT rfl rfl <| b2z rfl rfl <| F7 rfl (by assumption) rfl rfl ?_
     refine J6 ⟨fun _ => ⟨by (simp only [Z6, List.nil_append, List.append_nil, List.map_cons, List.map_nil, List.cons_append]; decide +kernel), by decide +kernel⟩, [(.t 4, _), (.t 5, _), (.t 6, _), (.t 9, _), (.t 75, _), (.h 4, _), (.h 5, _)], ⟨rfl, rfl, rfl, rfl, rfl, rfl, rfl, rfl, rfl, rfl, rfl, rfl, rfl, rfl, trivial⟩, ?_⟩
     refine A5 rfl ?_ ?_ <;> intro hc <;> try simp only [SL] at hc
     ·refine A3 <| A0 ?_
      (refine B0 rfl rfl (fun _ => rfl) ?_; intro g2)
      refine y_S rfl <| xN [2,3] [2] rfl <| A8 <| B5 (G2 rfl rfl (by simp) (by rfl) (C7 rfl rfl (C3 B2))) ?_
      have hno : rdI (ps.getD i default) = none := by exact a9m (m := -a) hdU (by (rw [hng, if_pos rfl]; omega)) (by exact .inr (by assumption))
      rw [rdL, ← hps, L0 (show i < ps.length by omega) hno]
      rfl
     have hri := c6n (m := -a) hdU (by (rw [hng, if_pos rfl]; omega)) (by rw [hup]; assumption) (by assumption)
     refine A7 <| A0 <| y_M rfl <| y_M rfl <| B6 (es := List.map iV [_]) rfl rfl (dT rfl) rfl rfl (fun _ => B1 (A6 fun _ => rfl)) (fun _ => rfl) ?_
     intro g78
     refine xA rfl rfl rfl rfl (by simp) (by simp) rfl rfl rfl rfl rfl (fun _ => rfl) (by simp only [LN]; omega) (fun _ => rfl) ?_
     intro g79
     (refine xO rfl rfl (by simp) rfl (fun _ => rfl) (fun _ => rfl) ?_; intro g4)
     refine xN [4,5,6] [4,5] rfl <| A0 <| y_M rfl <| F3 rfl rfl (D4 (by omega)) <| y_S rfl <| xN [4,5,6] [4,5] rfl ?_
     refine ⟨(i + 1, ns ++ [-a], _), ?_, (by simp only; omega), ⟨rfl, rfl, rfl, rfl, rfl, trivial⟩⟩
     exact ⟨by omega, a9e (by omega) hrd hri⟩
    iterate 6 refine gF rfl rfl ?_
    refine E9 rfl (by assumption) rfl rfl ?_
    refine J6 ⟨fun _ => ⟨by decide +kernel, by decide +kernel⟩, [(.t 4, _), (.t 5, _), (.t 6, _), (.t 9, _), (.t 75, _), (.h 4, _), (.h 5, _)], ⟨rfl, rfl, rfl, rfl, rfl, rfl, rfl, rfl, rfl, rfl, rfl, rfl, rfl, rfl, trivial⟩, ?_⟩
    refine A5 rfl (fun hc => ?_) (fun hc => absurd hc (by decide))
    refine A3 <| A0 ?_
    (refine B0 rfl rfl (fun _ => rfl) ?_; intro g2)
    refine y_S rfl <| xN [2,3] [2] rfl <| A8 <| B5 (G2 rfl rfl (by simp) (by rfl) (C7 rfl rfl (C3 B2))) ?_
    have hno : rdI (ps.getD i default) = none := by exact a9m (m := -a) hdU (by (rw [hng, if_pos rfl]; omega)) (by exact .inl (by rw [hup]; assumption))
    rw [rdL, ← hps, L0 (show i < ps.length by omega) hno]
    rfl
   obtain ⟨hng, hup⟩ := d8b (p := (ps.getD i default)) (by exact .inr (by omega))
   have hul := c1j (ps.getD i default)
   rw [hup] at hul
   refine A7 <| A3 <| A0 <| y_S rfl <| xN [4,5,6,7,8,9] [4,5] rfl <| A3 <| A3 <| A0 <| y_S rfl <| xN [4,5,6,7,8,9,10] [4,5] rfl <| A9 ?_
   have hup0 := hup
   refine F6 (β := Nat × Int) [(.t 4, _), (.t 5, _), (.t 6, _), (.t 7, _), (.t 8, _), (.h 4, _), (.h 5, _)] (fun (z : Nat × Int) => match z with | (k, a) => [(.t 10, iV k), (.t 9, iV a)]) (fun (z : Nat × Int) => match z with | (k, a) => k ≤ (unS (ps.getD i default)).length ∧ 0 ≤ a ∧ V5 0 ((unS (ps.getD i default)).take k) = some a.toNat) (fun (z : Nat × Int) => match z with | (k, a) => (unS (ps.getD i default)).length - k) (0, 0) ⟨rfl, rfl, rfl, rfl, rfl, rfl, rfl, rfl, rfl, trivial⟩ ⟨Nat.zero_le _, by decide, rfl⟩ ?_
   intro z hb
   obtain ⟨k, a⟩ := z
   try dsimp only at hb
   obtain ⟨hk1, ha0, hdg⟩ := hb
   have hab := b2h (by decide) hdg
   rw [hup] at hk1 hdg
   refine A3 <| A3 <| A0 <| y_M rfl <| y_M rfl <| a4e rfl rfl <| G1 rfl rfl <| xN [4,5,6,7,8,9,10,37] [4,5] rfl ?_
   refine A5 rfl ?_ ?_ <;> intro hc <;> try simp only [SL] at hc
   ·refine A7 <| A3 <| A9 <| A3 <| A3 <| A0 <| y_M rfl <| y_M rfl <| O3 rfl rfl rfl (by omega) <| G1 rfl rfl <| y_M rfl ?_
    refine C5 rfl rfl ?_ ?_ <;> intro hg0 <;> have hg := hg0 <;> try simp only [SG] at hg
    ·refine y_M rfl <| gT rfl rfl <| y_M rfl <| gT rfl rfl <| O3 rfl rfl rfl (by omega) <| gT rfl rfl <| O6 rfl rfl <| F7 rfl (by assumption) rfl rfl <| y_M rfl ?_
     refine C5 rfl rfl ?_ ?_ <;> intro hg0 <;> have hg := hg0 <;> try simp only [SG] at hg
     ·refine y_M rfl <| gT rfl rfl <| O6 rfl rfl <| F7 rfl (by assumption) rfl rfl <| xN [4,5,6,7,8,9,10,53] [4,5] rfl ?_
      refine A5 rfl ?_ ?_ <;> intro hc <;> try simp only [SL] at hc
      ·refine A3 <| A0 ?_
       (refine B0 rfl rfl (fun _ => rfl) ?_; intro g2)
       refine y_S rfl <| xN [2,3] [2] rfl <| A8 <| B5 (G2 rfl rfl (by simp) (by rfl) (C7 rfl rfl (C3 B2))) ?_
       rw [rdL, ← hps, L0 (show i < ps.length by omega) (W0 (by rw [hup]; exact S1 (by omega) hdg (by omega)))]
       rfl
      refine A7 <| A0 <| y_M rfl <| c9h rfl rfl (D4 (by omega)) <| y_M rfl <| y_M rfl <| O3 rfl rfl rfl (by omega) <| V2 rfl rfl (d8u (by omega)) <| c1f rfl rfl rfl (D4 (by omega)) <| F3 rfl rfl (D4 (by omega)) <| y_S rfl <| xN [4,5,6,7,8,9,10] [4,5] rfl <| A0 <| y_M rfl <| F3 rfl rfl (D4 (by omega)) <| y_S rfl <| xN [4,5,6,7,8,9,10] [4,5] rfl ?_
      refine ⟨(k + 1, _), ?_, (by simp only [hup]; omega), ⟨rfl, rfl, rfl, rfl, rfl, rfl, rfl, rfl, rfl, trivial⟩⟩
      rw [hup]
      have hds := a9r (by omega) hdg (by omega)
      exact ⟨by omega, by omega, hds.trans (congrArg some (by omega))⟩
     refine gF rfl rfl <| E9 rfl (by assumption) rfl rfl <| xN [4,5,6,7,8,9,10,53] [4,5] rfl ?_
     refine A5 rfl (fun hc => ?_) (fun hc => absurd hc (by decide))
     refine A3 <| A0 ?_
     (refine B0 rfl rfl (fun _ => rfl) ?_; intro g2)
     refine y_S rfl <| xN [2,3] [2] rfl <| A8 <| B5 (G2 rfl rfl (by simp) (by rfl) (C7 rfl rfl (C3 B2))) ?_
     rw [rdL, ← hps, L0 (show i < ps.length by omega) (W0 (by rw [hup]; exact S1 (by omega) hdg (by omega)))]
     rfl
    refine gF rfl rfl <| gF rfl rfl <| gF rfl rfl <| E9 rfl (by assumption) rfl rfl <| y_M rfl <| J5 rfl rfl rfl <| J5 rfl rfl rfl <| E9 rfl rfl rfl rfl <| xN [4,5,6,7,8,9,10,53] [4,5] rfl ?_
    refine A5 rfl (fun hc => ?_) (fun hc => absurd hc (by decide))
    refine A3 <| A0 ?_
    (refine B0 rfl rfl (fun _ => rfl) ?_; intro g2)
    refine y_S rfl <| xN [2,3] [2] rfl <| A8 <| B5 (G2 rfl rfl (by simp) (by rfl) (C7 rfl rfl (C3 B2))) ?_
    rw [rdL, ← hps, L0 (show i < ps.length by omega) (W0 (by rw [hup]; exact S1 (by omega) hdg (by omega)))]
    rfl
   have hdU : V5 0 (unS (ps.getD i default)) = some a.toNat := by rw [hup]; rw [List.take_of_length_le (by omega)] at hdg; exact hdg
   refine E6 <| A3 <| A3 <| A0 <| y_M rfl <| xN [4,5,6,7,9,62] [4,5] rfl ?_
   refine A5 rfl (fun hc => absurd hc (by simp_all)) (fun hc => ?_)
   refine A7 <| A3 <| A3 <| A0 <| y_M rfl <| P4 rfl rfl <| y_M rfl ?_
   refine C5 rfl rfl ?_ ?_ <;> intro hg0 <;> have hg := hg0 <;> try simp only [SG] at hg
   ·refine y_M rfl <| gT rfl rfl ?_
    have hdl1 := U3 (m := -a) (by omega)
    have hdl2 := U3 (m := a) (by omega)
    refine xC1 rfl rfl (a4l a (by omega)) ⟨rfl, rfl, rfl⟩ rfl rfl fun g69 => ?_
    refine gT rfl rfl <| y_M rfl <| gT rfl rfl <| y_M rfl <| gT rfl rfl <| D6 rfl rfl rfl rfl (by omega) (by (simp; done)) rfl <| gT rfl rfl <| G0 rfl rfl (by omega) (fun _ => rfl) (fun _ => rfl) rfl <| gT rfl rfl <| b2z rfl rfl <| F7 rfl (by assumption) rfl rfl ?_
    refine J6 ⟨fun _ => ⟨by (simp only [Z6, List.nil_append, List.append_nil, List.map_cons, List.map_nil, List.cons_append]; decide +kernel), by decide +kernel⟩, [(.t 4, _), (.t 5, _), (.t 6, _), (.t 9, _), (.t 75, _), (.h 4, _), (.h 5, _)], ⟨rfl, rfl, rfl, rfl, rfl, rfl, rfl, rfl, rfl, rfl, rfl, rfl, rfl, rfl, trivial⟩, ?_⟩
    refine A5 rfl ?_ ?_ <;> intro hc <;> try simp only [SL] at hc
    ·refine A3 <| A0 ?_
     (refine B0 rfl rfl (fun _ => rfl) ?_; intro g2)
     refine y_S rfl <| xN [2,3] [2] rfl <| A8 <| B5 (G2 rfl rfl (by simp) (by rfl) (C7 rfl rfl (C3 B2))) ?_
     have hno : rdI (ps.getD i default) = none := by exact a9m (m := a) hdU (by (rw [hng, if_neg (by decide)]; omega)) (by exact .inr (by assumption))
     rw [rdL, ← hps, L0 (show i < ps.length by omega) hno]
     rfl
    have hri := c6n (m := a) hdU (by (rw [hng, if_neg (by decide)]; omega)) (by rw [hup]; assumption) (by assumption)
    refine A7 <| A0 <| y_M rfl <| y_M rfl <| B6 (es := List.map iV [_]) rfl rfl (dT rfl) rfl rfl (fun _ => B1 (A6 fun _ => rfl)) (fun _ => rfl) ?_
    intro g78
    refine xA rfl rfl rfl rfl (by simp) (by simp) rfl rfl rfl rfl rfl (fun _ => rfl) (by simp only [LN]; omega) (fun _ => rfl) ?_
    intro g79
    (refine xO rfl rfl (by simp) rfl (fun _ => rfl) (fun _ => rfl) ?_; intro g4)
    refine xN [4,5,6] [4,5] rfl <| A0 <| y_M rfl <| F3 rfl rfl (D4 (by omega)) <| y_S rfl <| xN [4,5,6] [4,5] rfl ?_
    refine ⟨(i + 1, ns ++ [a], _), ?_, (by simp only; omega), ⟨rfl, rfl, rfl, rfl, rfl, trivial⟩⟩
    exact ⟨by omega, a9e (by omega) hrd hri⟩
   iterate 6 refine gF rfl rfl ?_
   refine E9 rfl (by assumption) rfl rfl ?_
   refine J6 ⟨fun _ => ⟨by decide +kernel, by decide +kernel⟩, [(.t 4, _), (.t 5, _), (.t 6, _), (.t 9, _), (.t 75, _), (.h 4, _), (.h 5, _)], ⟨rfl, rfl, rfl, rfl, rfl, rfl, rfl, rfl, rfl, rfl, rfl, rfl, rfl, rfl, trivial⟩, ?_⟩
   refine A5 rfl (fun hc => ?_) (fun hc => absurd hc (by decide))
   refine A3 <| A0 ?_
   (refine B0 rfl rfl (fun _ => rfl) ?_; intro g2)
   refine y_S rfl <| xN [2,3] [2] rfl <| A8 <| B5 (G2 rfl rfl (by simp) (by rfl) (C7 rfl rfl (C3 B2))) ?_
   have hno : rdI (ps.getD i default) = none := by exact a9m (m := a) hdU (by (rw [hng, if_neg (by decide)]; omega)) (by exact .inl (by rw [hup]; assumption))
   rw [rdL, ← hps, L0 (show i < ps.length by omega) hno]
   rfl
  refine gF rfl rfl <| gF rfl rfl <| F7 rfl (by assumption) rfl rfl <| y_S rfl <| xN [4,5,6,7,8] [4,5] rfl <| A3 <| A3 <| A0 <| y_M rfl <| xN [4,5,6,7,8,31] [4,5] rfl ?_
  refine A5 rfl (fun hc => absurd hc (by decide)) (fun hc => ?_)
  refine A7 <| A3 <| A0 <| y_S rfl <| xN [4,5,6,7,8,9] [4,5] rfl <| A3 <| A3 <| A0 <| y_S rfl <| xN [4,5,6,7,8,9,10] [4,5] rfl <| A9 ?_
  (obtain ⟨hng, hup⟩ := d8b (p := (ps.getD i default)) (.inl (by assumption)); have hul := c1j (ps.getD i default); rw [hup] at hul)
  refine F6 (β := Nat × Int) [(.t 4, _), (.t 5, _), (.t 6, _), (.t 7, _), (.t 8, _), (.h 4, _), (.h 5, _)] (fun (z : Nat × Int) => match z with | (k, a) => [(.t 10, iV k), (.t 9, iV a)]) (fun (z : Nat × Int) => match z with | (k, a) => k ≤ (unS (ps.getD i default)).length ∧ 0 ≤ a ∧ V5 0 ((unS (ps.getD i default)).take k) = some a.toNat) (fun (z : Nat × Int) => match z with | (k, a) => (unS (ps.getD i default)).length - k) (0, 0) ⟨rfl, rfl, rfl, rfl, rfl, rfl, rfl, rfl, rfl, trivial⟩ ⟨Nat.zero_le _, by decide, rfl⟩ ?_
  intro z hb
  obtain ⟨k, a⟩ := z
  try dsimp only at hb
  obtain ⟨hk1, ha0, hdg⟩ := hb
  have hab := b2h (by decide) hdg
  rw [hup] at hk1 hdg
  refine A3 <| A3 <| A0 <| y_M rfl <| y_M rfl <| a4e rfl rfl <| G1 rfl rfl <| xN [4,5,6,7,8,9,10,37] [4,5] rfl ?_
  refine A5 rfl ?_ ?_ <;> intro hc <;> try simp only [SL] at hc
  ·refine A7 <| A3 <| A9 <| A3 <| A3 <| A0 <| y_M rfl <| y_M rfl <| O3 rfl rfl rfl (by omega) <| G1 rfl rfl <| y_M rfl ?_
   refine C5 rfl rfl ?_ ?_ <;> intro hg0 <;> have hg := hg0 <;> try simp only [SG] at hg
   ·refine y_M rfl <| gT rfl rfl <| y_M rfl <| gT rfl rfl <| O3 rfl rfl rfl (by omega) <| gT rfl rfl <| O6 rfl rfl <| F7 rfl (by assumption) rfl rfl <| y_M rfl ?_
    refine C5 rfl rfl ?_ ?_ <;> intro hg0 <;> have hg := hg0 <;> try simp only [SG] at hg
    ·refine y_M rfl <| gT rfl rfl <| O6 rfl rfl <| F7 rfl (by assumption) rfl rfl <| xN [4,5,6,7,8,9,10,53] [4,5] rfl ?_
     refine A5 rfl ?_ ?_ <;> intro hc <;> try simp only [SL] at hc
     ·refine A3 <| A0 ?_
      (refine B0 rfl rfl (fun _ => rfl) ?_; intro g2)
      refine y_S rfl <| xN [2,3] [2] rfl <| A8 <| B5 (G2 rfl rfl (by simp) (by rfl) (C7 rfl rfl (C3 B2))) ?_
      rw [rdL, ← hps, L0 (show i < ps.length by omega) (W0 (by rw [hup]; exact S1 (by omega) hdg (by omega)))]
      rfl
     refine A7 <| A0 <| y_M rfl <| c9h rfl rfl (D4 (by omega)) <| y_M rfl <| y_M rfl <| O3 rfl rfl rfl (by omega) <| V2 rfl rfl (d8u (by omega)) <| c1f rfl rfl rfl (D4 (by omega)) <| F3 rfl rfl (D4 (by omega)) <| y_S rfl <| xN [4,5,6,7,8,9,10] [4,5] rfl <| A0 <| y_M rfl <| F3 rfl rfl (D4 (by omega)) <| y_S rfl <| xN [4,5,6,7,8,9,10] [4,5] rfl ?_
     refine ⟨(k + 1, _), ?_, (by simp only [hup]; omega), ⟨rfl, rfl, rfl, rfl, rfl, rfl, rfl, rfl, rfl, trivial⟩⟩
     rw [hup]
     have hds := a9r (by omega) hdg (by omega)
     exact ⟨by omega, by omega, hds.trans (congrArg some (by omega))⟩
    refine gF rfl rfl <| E9 rfl (by assumption) rfl rfl <| xN [4,5,6,7,8,9,10,53] [4,5] rfl ?_
    refine A5 rfl (fun hc => ?_) (fun hc => absurd hc (by decide))
    refine A3 <| A0 ?_
    (refine B0 rfl rfl (fun _ => rfl) ?_; intro g2)
    refine y_S rfl <| xN [2,3] [2] rfl <| A8 <| B5 (G2 rfl rfl (by simp) (by rfl) (C7 rfl rfl (C3 B2))) ?_
    rw [rdL, ← hps, L0 (show i < ps.length by omega) (W0 (by rw [hup]; exact S1 (by omega) hdg (by omega)))]
    rfl
   refine gF rfl rfl <| gF rfl rfl <| gF rfl rfl <| E9 rfl (by assumption) rfl rfl <| y_M rfl <| J5 rfl rfl rfl <| J5 rfl rfl rfl <| E9 rfl rfl rfl rfl <| xN [4,5,6,7,8,9,10,53] [4,5] rfl ?_
   refine A5 rfl (fun hc => ?_) (fun hc => absurd hc (by decide))
   refine A3 <| A0 ?_
   (refine B0 rfl rfl (fun _ => rfl) ?_; intro g2)
   refine y_S rfl <| xN [2,3] [2] rfl <| A8 <| B5 (G2 rfl rfl (by simp) (by rfl) (C7 rfl rfl (C3 B2))) ?_
   rw [rdL, ← hps, L0 (show i < ps.length by omega) (W0 (by rw [hup]; exact S1 (by omega) hdg (by omega)))]
   rfl
  have hdU : V5 0 (unS (ps.getD i default)) = some a.toNat := by rw [hup]; rw [List.take_of_length_le (by omega)] at hdg; exact hdg
  refine E6 <| A3 <| A3 <| A0 <| y_M rfl <| xN [4,5,6,7,9,62] [4,5] rfl ?_
  refine A5 rfl (fun hc => absurd hc (by decide)) (fun hc => ?_)
  refine A7 <| A3 <| A3 <| A0 <| y_M rfl <| P4 rfl rfl <| y_M rfl ?_
  refine C5 rfl rfl ?_ ?_ <;> intro hg0 <;> have hg := hg0 <;> try simp only [SG] at hg
  ·refine y_M rfl <| gT rfl rfl ?_
   have hdl1 := U3 (m := -a) (by omega)
   have hdl2 := U3 (m := a) (by omega)
   refine xC1 rfl rfl (a4l a (by omega)) ⟨rfl, rfl, rfl⟩ rfl rfl fun g69 => ?_
   refine gT rfl rfl <| y_M rfl <| gT rfl rfl <| y_M rfl <| gT rfl rfl <| D6 rfl rfl rfl rfl (by omega) (by (simp; done)) rfl <| gT rfl rfl <| G0 rfl rfl (by omega) (fun _ => rfl) (fun _ => rfl) rfl <| gT rfl rfl <| b2z rfl rfl <| F7 rfl (by assumption) rfl rfl ?_
   refine J6 ⟨fun _ => ⟨by (simp only [Z6, List.nil_append, List.append_nil, List.map_cons, List.map_nil, List.cons_append]; decide +kernel), by decide +kernel⟩, [(.t 4, _), (.t 5, _), (.t 6, _), (.t 9, _), (.t 75, _), (.h 4, _), (.h 5, _)], ⟨rfl, rfl, rfl, rfl, rfl, rfl, rfl, rfl, rfl, rfl, rfl, rfl, rfl, rfl, trivial⟩, ?_⟩
   refine A5 rfl ?_ ?_ <;> intro hc <;> try simp only [SL] at hc
   ·refine A3 <| A0 ?_
    (refine B0 rfl rfl (fun _ => rfl) ?_; intro g2)
    refine y_S rfl <| xN [2,3] [2] rfl <| A8 <| B5 (G2 rfl rfl (by simp) (by rfl) (C7 rfl rfl (C3 B2))) ?_
    have hno : rdI (ps.getD i default) = none := by exact a9m (m := a) hdU (by (rw [hng, if_neg (by decide)]; omega)) (by exact .inl (by rw [hup]; assumption))
    rw [rdL, ← hps, L0 (show i < ps.length by omega) hno]
    rfl
   have hri := c6n (m := a) hdU (by (rw [hng, if_neg (by decide)]; omega)) (by rw [hup]; assumption) (by assumption)
   refine A7 <| A0 <| y_M rfl <| y_M rfl <| B6 (es := List.map iV [_]) rfl rfl (dT rfl) rfl rfl (fun _ => B1 (A6 fun _ => rfl)) (fun _ => rfl) ?_
   intro g78
   refine xA rfl rfl rfl rfl (by simp) (by simp) rfl rfl rfl rfl rfl (fun _ => rfl) (by simp only [LN]; omega) (fun _ => rfl) ?_
   intro g79
   (refine xO rfl rfl (by simp) rfl (fun _ => rfl) (fun _ => rfl) ?_; intro g4)
   refine xN [4,5,6] [4,5] rfl <| A0 <| y_M rfl <| F3 rfl rfl (D4 (by omega)) <| y_S rfl <| xN [4,5,6] [4,5] rfl ?_
   refine ⟨(i + 1, ns ++ [a], _), ?_, (by simp only; omega), ⟨rfl, rfl, rfl, rfl, rfl, trivial⟩⟩
   exact ⟨by omega, a9e (by omega) hrd hri⟩
  iterate 6 refine gF rfl rfl ?_
  refine E9 rfl (by assumption) rfl rfl ?_
  refine J6 ⟨fun _ => ⟨by decide +kernel, by decide +kernel⟩, [(.t 4, _), (.t 5, _), (.t 6, _), (.t 9, _), (.t 75, _), (.h 4, _), (.h 5, _)], ⟨rfl, rfl, rfl, rfl, rfl, rfl, rfl, rfl, rfl, rfl, rfl, rfl, rfl, rfl, trivial⟩, ?_⟩
  refine A5 rfl (fun hc => ?_) (fun hc => absurd hc (by decide))
  refine A3 <| A0 ?_
  (refine B0 rfl rfl (fun _ => rfl) ?_; intro g2)
  refine y_S rfl <| xN [2,3] [2] rfl <| A8 <| B5 (G2 rfl rfl (by simp) (by rfl) (C7 rfl rfl (C3 B2))) ?_
  have hno : rdI (ps.getD i default) = none := by exact a9m (m := a) hdU (by (rw [hng, if_neg (by decide)]; omega)) (by exact .inl (by rw [hup]; assumption))
  rw [rdL, ← hps, L0 (show i < ps.length by omega) hno]
  rfl
 refine E6 <| A3 <| A0 <| y_M rfl ?_
 (refine xO rfl rfl (by simp) rfl (fun _ => rfl) (fun _ => rfl) ?_; intro g2)
 refine y_S rfl <| xN [2,3] [2] rfl <| A8 <| B5 (G2 rfl rfl (by simp) (by exact A6 fun _ => rfl) (C7 rfl rfl (C3 B2))) ?_
 have hil : i = ps.length := by omega
 rw [hil, List.take_length] at hrd
 rw [rdL, ← hps, hrd]
 rfl

theorem b1l : F4 Tryz.f85 = [0, 2, 3, 4, 22, 24, 5, 6] := by kernel_rfl
theorem c7v (s : List UInt8) (hs : s.length ≤ 1048576) : CW (cxT oG) 85 [tV s] = some (.tup [.own 1 ((c5t s).map iV), bV (numsOf s).isSome], []) := by
 refine E4 rfl Tryz.func85 rfl ⟨by kernel_rfl, rfl, dT rfl, dT rfl, by decide⟩ b1l <| A3 <| A0 ?_
 (refine B0 rfl rfl (fun _ => rfl) ?_; intro g2)
 refine y_S rfl <| xN [0] [] rfl <| A3 <| A0 <| y_M rfl <| a4e rfl rfl <| y_S rfl <| xN [0,4] [] rfl <| A3 <| A3 <| A0 <| y_M rfl <| G1 rfl rfl <| y_M rfl ?_
 refine C5 rfl rfl ?_ ?_ <;> intro hg0 <;> have hg := hg0 <;> try simp only [SG] at hg
 ·refine y_M rfl <| gT rfl rfl <| O3 (n := 0) rfl rfl rfl (by omega) <| gT rfl rfl <| b8v rfl rfl <| F7 rfl (by assumption) rfl rfl <| y_M rfl ?_
  refine C5 rfl rfl ?_ ?_ <;> intro hg0 <;> have hg := hg0 <;> try simp only [SG] at hg
  ·refine y_M rfl <| gT rfl rfl <| y_M rfl <| gT rfl rfl <| V2 rfl rfl (D4 (by omega)) <| gT rfl rfl ?_
   rw [show ((s.length : Int) - 1) = ((s.length - 1 : Nat) : Int) by omega]
   refine O3 rfl rfl rfl (by omega) <| gT rfl rfl <| b8v rfl rfl <| F7 rfl (by assumption) rfl rfl <| xN [0,4,22] [] rfl ?_
   refine A5 rfl ?_ ?_ <;> intro hc <;> try simp only [SL] at hc
   ·refine A3 <| A0 ?_
    (refine B0 rfl rfl (fun _ => rfl) ?_; intro g2)
    refine y_S rfl <| xN [2,3] [2] rfl <| A8 <| B5 (G2 rfl rfl (by simp) (by rfl) (C7 rfl rfl (C3 B2))) ?_
    obtain ⟨hn1, hn2⟩ := a5u (s := s) (by exact .inr (.inr (by omega)))
    rw [hn1, hn2]
    rfl
   have hin := d1x (s := s) (by omega) (by omega) (by omega)
   refine A7 <| A3 <| A3 <| A0 <| y_M rfl <| S7 rfl rfl <| xN [0,4,24] [] rfl ?_
   refine A5 rfl ?_ ?_ <;> intro hc <;> try simp only [SL] at hc
   ·refine A3 <| A0 <| B6 (es := List.map iV []) rfl rfl (dT rfl) rfl rfl (fun _ => B1 (A6 fun _ => rfl)) (fun _ => rfl) ?_
    intro g25
    (refine xO rfl rfl (by simp) rfl (fun _ => rfl) (fun _ => rfl) ?_; intro g2)
    refine y_S rfl <| xN [2,3] [2] rfl <| A8 <| B5 (G2 rfl rfl (by simp) (by rfl) (C7 rfl rfl (C3 B2))) ?_
    obtain ⟨hn1, hn2⟩ := hin.1 (by omega)
    rw [hn1, hn2]
    rfl
   refine A7 <| A3 <| A0 <| y_M rfl <| y_M rfl <| V2 rfl rfl (D4 (by omega)) ?_
   rw [show ((s.length : Int) - 1) = ((s.length - 1 : Nat) : Int) by omega]
   have hrl := d6r ((s.drop 1).take (s.length - 1 - 1))
   have hin2 : ((s.drop 1).take (s.length - 1 - 1)).length ≤ s.length - 2 := by simp only [List.length_take, List.length_drop]; omega
   refine a4g rfl rfl (G9 rfl) (G9 (n := 1) rfl) (by omega) ?_
   apply xC rfl
   ·apply B4
    ·exact B9 rfl
    exact D8
   ·exact c6v ((s.drop 1).take (s.length - 1 - 1)) (by omega)
   refine ⟨⟨rfl, rfl, rfl, dT rfl, rfl⟩, .inr ⟨J7 _ _, rfl⟩, B7, H1 (M1 fun _ => H9 rfl M0), fun _ => rfl, fun g31 => ?_⟩
   simp only [List.length_map]
   refine y_M rfl <| y_E rfl <| y_E rfl ?_
   (refine xO rfl rfl (by simp) rfl (fun _ => rfl) (fun _ => rfl) ?_; intro g5)
   refine y_S rfl <| xN [5,6] [5] rfl <| A3 <| A0 <| y_M rfl <| y_M rfl <| y_M rfl ?_
   refine C5 rfl rfl ?_ ?_ <;> intro hg0 <;> have hg := hg0 <;> try simp only [SG] at hg
   ·refine y_M rfl <| gT rfl rfl ?_
    apply xC rfl
    ·apply B4
     ·exact J4 rfl rfl rfl (by (simp; done)) (fun _ => rfl)
     exact D8
    ·exact a4u ((rdL ((s.drop 1).take (s.length - 1 - 1))).getD []) (by omega)
    refine ⟨⟨rfl, rfl, rfl, dT rfl, rfl⟩, .inr ⟨rfl, rfl⟩, B7, H6 rfl, fun _ => rfl, fun g38 => ?_⟩
    refine E9 rfl (by assumption) rfl rfl ?_
    (refine xO rfl rfl (by simp) rfl (fun _ => rfl) (fun _ => rfl) ?_; intro g2)
    refine y_S rfl <| xN [2,3] [2] rfl <| A8 <| B5 (G2 rfl rfl (by simp) (by exact A6 fun _ => rfl) (C7 rfl rfl (C3 B2))) ?_
    obtain ⟨hn1, hn2⟩ := hin.2 (by omega)
    rw [hn2, b3e hn1]
    simp_all
    try rfl
   refine gF rfl rfl <| F7 rfl (by assumption) rfl rfl ?_
   (refine xO rfl rfl (by simp) rfl (fun _ => rfl) (fun _ => rfl) ?_; intro g2)
   refine y_S rfl <| xN [2,3] [2] rfl <| A8 <| B5 (G2 rfl rfl (by simp) (by exact A6 fun _ => rfl) (C7 rfl rfl (C3 B2))) ?_
   obtain ⟨hn1, hn2⟩ := hin.2 (by omega)
   rw [hn2, b3e hn1]
   simp_all
   try rfl
  iterate 4 refine gF rfl rfl ?_
  refine E9 rfl (by assumption) rfl rfl <| xN [0,4,22] [] rfl ?_
  refine A5 rfl (fun hc => ?_) (fun hc => absurd hc (by decide))
  refine A3 <| A0 ?_
  (refine B0 rfl rfl (fun _ => rfl) ?_; intro g2)
  refine y_S rfl <| xN [2,3] [2] rfl <| A8 <| B5 (G2 rfl rfl (by simp) (by rfl) (C7 rfl rfl (C3 B2))) ?_
  obtain ⟨hn1, hn2⟩ := a5u (s := s) (by exact .inr (.inl (by omega)))
  rw [hn1, hn2]
  rfl
 refine gF rfl rfl <| gF rfl rfl <| E9 rfl (by assumption) rfl rfl <| y_M rfl ?_
 iterate 5 refine J5 rfl rfl rfl ?_
 refine E9 rfl rfl rfl rfl <| xN [0,4,22] [] rfl ?_
 refine A5 rfl (fun hc => ?_) (fun hc => absurd hc (by decide))
 refine A3 <| A0 ?_
 (refine B0 rfl rfl (fun _ => rfl) ?_; intro g2)
 refine y_S rfl <| xN [2,3] [2] rfl <| A8 <| B5 (G2 rfl rfl (by simp) (by rfl) (C7 rfl rfl (C3 B2))) ?_
 obtain ⟨hn1, hn2⟩ := a5u (s := s) (by exact .inl (by omega))
 rw [hn1, hn2]
 rfl

theorem b1x : F4 Tryz.f102 = [0, 2, 3, 4, 15, 6, 24, 5, 7, 34, 43, 9, 12, 53, 8, 10, 11, 48, 59] := by kernel_rfl
theorem b4a (ws : List W8) (hws : ws.length ≤ 1048600 ∧ ∀ w ∈ ws, w.length ≤ 1048576) : CW (cxT oG) 102 [.list (ws.map tV)] = some (rtR (rdT ws), []) := by
 obtain ⟨kk, hkk⟩ : ∃ kk : Nat, ws.length < kk := ⟨_, Nat.lt_succ_self _⟩
 revert ws
 induction kk with
 | zero => intro ws hws hkk; exact absurd hkk (Nat.not_lt_zero _)
 | succ kk ih =>
  intro ws hws hkk
  refine E4 rfl Tryz.func102 rfl ⟨by kernel_rfl, rfl, dT rfl, dT rfl, by decide⟩ b1x <| A3 <| A0 <| y_A rfl (fun _ => rfl) ?_
  intro g2
  (refine B0 rfl rfl (fun _ => rfl) ?_; intro g3)
  refine y_S rfl <| xN [0,2] [2] rfl <| A3 <| A3 <| A0 <| y_M rfl <| C2 rfl rfl <| S7 rfl rfl <| xN [0,2,15] [2] rfl ?_
  refine A5 rfl ?_ ?_ <;> intro hc <;> try simp only [SL] at hc
  ·have hw0 : ws = [] := List.length_eq_zero_iff.1 (by simpa using hc)
   subst hw0
   refine A3 <| A0 <| H0 (fs := [_, _, _]) rfl rfl rfl rfl rfl <| xB rfl rfl rfl rfl rfl rfl rfl rfl rfl ?_
   (refine B0 rfl rfl (fun _ => rfl) ?_; intro g3)
   refine y_S rfl <| xN [2,3,4] [2,3] rfl <| A8 <| B5 (C8 rfl rfl rfl rfl (C1 rfl (G6 rfl (G6 rfl F5))) (G2 rfl rfl (by simp) (by rfl) (C7 rfl rfl (C3 B2)))) ?_
   rfl
  obtain ⟨w, ws1, rfl⟩ : ∃ w ws1, ws = w :: ws1 := List.exists_cons_of_ne_nil (fun e => by subst e; simp at hc)
  have hw := hws.2 w (by simp)
  refine A7 <| A3 <| A0 <| y_M rfl <| B8 rfl rfl rfl (fun _ => rfl) (by (change 0 < _; omega)) <| y_I rfl ?_
  apply xC rfl
  ·apply B4
   ·exact B9 rfl
   exact D8
  ·exact c7v w (by omega)
  refine ⟨⟨rfl, rfl, rfl, dT rfl, rfl⟩, .inr ⟨J7 _ _, rfl⟩, B7, H1 (M1 fun _ => H9 rfl M0), fun _ => rfl, fun g21 => ?_⟩
  simp only [List.length_map]
  refine y_M rfl <| y_E rfl <| y_E rfl ?_
  (refine xO rfl rfl (by simp) rfl (fun _ => rfl) (fun _ => rfl) ?_; intro g5)
  refine y_S rfl <| xN [0,2,5,6] [2,5] rfl <| A3 <| A3 <| A0 <| y_M rfl <| xN [0,2,5,24] [2,5] rfl ?_
  refine A5 rfl ?_ ?_ <;> intro hc <;> try simp only [SL] at hc
  ·obtain ⟨ns, hns⟩ := Option.isSome_iff_exists.1 hc
   have hraw := d7n hns
   refine A3 <| A0 <| y_M rfl <| H0 (fs := [_, _, _]) rfl rfl rfl rfl rfl <| y_M rfl <| N5 rfl rfl rfl (Mv.sized_map fun _ => rfl) K7 (G9 (n := 1) rfl) (by simp) ?_
   rw [show ((List.map tV (w :: ws1)).drop 1).take ((List.map tV (w :: ws1)).length - 1) = ws1.map tV from by rw [List.map_cons, List.drop_succ_cons, List.drop_zero, List.take_of_length_le (by simp)]]
   refine E3 rfl rfl rfl rfl (E8 rfl (L1 (by decide) (E8 rfl I0))) (fun _ => rfl) ⟨by decide, rfl, dT rfl, Nat.le_refl _⟩ (fun _ => rfl) (fun _ => rfl) (fun _ => (by rfl)) ?_
   intro z
   simp only [H7, List.cons_append, List.nil_append]
   refine y_S rfl <| y_S rfl ?_
   refine J6 ⟨fun _ => ⟨by (simp only [Z6, List.nil_append, List.append_nil, List.map_cons, List.map_nil, List.cons_append]; decide +kernel), by decide +kernel⟩, [(.t 2, _), (.t 3, _), (.t 4, _), (.h 2, _), (.h 5, _)], ⟨rfl, rfl, rfl, rfl, rfl, rfl, rfl, rfl, rfl, rfl, trivial⟩, ?_⟩
   refine A8 <| B5 (C8 rfl rfl rfl rfl (C1 rfl (I9 rfl rfl (by simp) (fun _ => rfl) (G6 rfl F5))) (C7 rfl rfl (C7 rfl rfl (C3 B2)))) ?_
   rw [c3z hns, hraw]
   rfl
  have hnn : numsOf w = none := by simpa using hc
  refine A7 <| A3 <| A0 <| y_M rfl <| B8 rfl rfl rfl (fun _ => rfl) (by (change 0 < _; omega)) <| y_I rfl ?_
  refine xC1 rfl rfl (d2q (bA w)) ⟨rfl, rfl, rfl⟩ rfl rfl fun g32 => ?_
  refine y_S rfl <| xN [0,2,7] [2] rfl <| A3 <| A3 <| A0 <| y_M rfl <| G1 rfl rfl <| xN [0,2,7,34] [2] rfl ?_
  refine A5 rfl ?_ ?_ <;> intro hc <;> try simp only [SL] at hc
  ·refine A3 <| A0 <| H0 (fs := [_, _, _]) rfl rfl rfl rfl rfl <| xB rfl rfl rfl rfl rfl rfl rfl rfl rfl ?_
   (refine B0 rfl rfl (fun _ => rfl) ?_; intro g3)
   refine y_S rfl <| xN [2,3,4] [2,3] rfl <| A8 <| B5 (C8 rfl rfl rfl rfl (C1 rfl (G6 rfl (G6 rfl F5))) (G2 rfl rfl (by simp) (by rfl) (C7 rfl rfl (C3 B2)))) ?_
   rw [c8p hnn (by omega)]
   rfl
  refine A7 <| A3 <| A0 <| y_M rfl <| B8 rfl rfl rfl (fun _ => rfl) (by (change 0 < _; omega)) <| y_I rfl <| H0 (fs := [_, _, _]) rfl rfl rfl rfl rfl <| y_A rfl (fun _ => rfl) ?_
  intro g8
  refine xB rfl rfl rfl rfl rfl rfl rfl rfl rfl <| xN [0,2,7,8] [2,8] rfl <| A3 <| A0 ?_
  rcases b7j (w := bA w) (by omega) with hn | hn | hn
  ·rw [hn]
   refine y_M rfl <| N5 rfl rfl rfl (Mv.sized_map fun _ => rfl) K7 (G9 (n := 1) rfl) (by simp) ?_
   rw [show ((List.map tV (w :: ws1)).drop 1).take ((List.map tV (w :: ws1)).length - 1) = ws1.map tV from by rw [List.map_cons, List.drop_succ_cons, List.drop_zero, List.take_of_length_le (by simp)]]
   refine y_S rfl <| xN [2,7,8,9] [2,8] rfl <| A3 <| A9 <| F8 <| A3 <| A3 <| A0 <| y_M rfl <| O6 rfl rfl <| xN [2,7,8,9,43] [2,8] rfl ?_
   refine A5 rfl (fun hc => absurd hc (by decide)) (fun hc => ?_)
   refine E6 <| A3 <| A0 <| y_B rfl <| y_M rfl <| xB rfl rfl rfl rfl rfl rfl rfl rfl rfl <| y_S rfl <| y_S rfl <| xN [2,3,4] [2] rfl <| A8 <| B5 (C8 rfl rfl rfl rfl (C1 rfl (G6 rfl (G6 rfl F5))) (C7 rfl rfl (C7 rfl rfl (C3 B2)))) ?_
   rw [d0c hnn hn]
   rfl
  ·rw [hn]
   refine y_M rfl <| N5 rfl rfl rfl (Mv.sized_map fun _ => rfl) K7 (G9 (n := 1) rfl) (by simp) ?_
   rw [show ((List.map tV (w :: ws1)).drop 1).take ((List.map tV (w :: ws1)).length - 1) = ws1.map tV from by rw [List.map_cons, List.drop_succ_cons, List.drop_zero, List.take_of_length_le (by simp)]]
   refine y_S rfl <| xN [2,7,8,9] [2,8] rfl <| A3 <| A9 <| F8 <| A3 <| A3 <| A0 <| y_M rfl <| O6 rfl rfl <| xN [2,7,8,9,43] [2,8] rfl ?_
   refine A5 rfl (fun hc => ?_) (fun hc => absurd hc (by decide))
   refine A7 <| A3 <| A9 <| A3 <| A0 <| y_M rfl ?_
   rcases hr1 : rdT ws1 with _ | ⟨k1, r1⟩
   ·skip
    apply xC rfl
    ·apply B4
     ·exact B9 rfl
     exact D8
    ·exact (by have hi := ih ws1 ⟨by simp only [List.length_cons] at hws; omega, fun x hx => hws.2 x (List.mem_cons_of_mem _ hx)⟩ (by simp only [List.length_cons] at hkk; omega); rw [hr1] at hi; exact hi)
    refine ⟨⟨rfl, rfl, rfl, dT rfl, rfl⟩, .inl rfl, B7, H1 (H9 rfl (M1 fun _ => H9 rfl M0)), fun _ => C0 (B1 rfl) (by rfl), fun g48 => ?_⟩
    refine y_M rfl <| y_E rfl <| y_E rfl <| y_E rfl <| y_A rfl (fun _ => rfl) ?_
    intro g10
    refine xB rfl rfl rfl rfl rfl rfl rfl rfl rfl ?_
    (refine H5 rfl rfl (by (simp; done)) rfl (fun _ => (B1 (by rfl))) (fun _ => rfl) ?_; intro g11)
    refine y_S rfl <| xN [2,7,8,10,11,12] [2,8,10] rfl <| A3 <| A3 <| A0 <| y_M rfl <| I8 rfl <| xN [2,7,8,10,11,53] [2,8,10] rfl ?_
    refine A5 rfl (fun hc => ?_) (fun hc => absurd hc (by decide))
    refine A3 <| A0 <| H0 (fs := [_, _, _]) rfl rfl rfl rfl rfl <| xB rfl rfl rfl rfl rfl rfl rfl rfl rfl ?_
    (refine B0 rfl rfl (fun _ => rfl) ?_; intro g3)
    refine y_S rfl <| xN [2,3,4] [2,3] rfl <| A8 <| B5 (C8 rfl rfl rfl rfl (C1 rfl (G6 rfl (G6 rfl F5))) (G2 rfl rfl (by simp) (by rfl) (C7 rfl rfl (C3 B2)))) ?_
    rw [b9j hnn hn, hr1]
    rfl
   skip
   apply xC rfl
   ·apply B4
    ·exact B9 rfl
    exact D8
   ·exact (by have hi := ih ws1 ⟨by simp only [List.length_cons] at hws; omega, fun x hx => hws.2 x (List.mem_cons_of_mem _ hx)⟩ (by simp only [List.length_cons] at hkk; omega); rw [hr1] at hi; exact hi)
   refine ⟨⟨rfl, rfl, rfl, dT rfl, rfl⟩, .inl rfl, B7, K2 rfl, fun _ => rfl, fun g48 => ?_⟩
   refine y_M rfl <| y_E rfl <| y_E rfl <| y_E rfl <| y_A rfl (fun _ => rfl) ?_
   intro g10
   refine xB rfl rfl rfl rfl rfl rfl rfl rfl rfl <| y_S rfl <| y_S rfl <| xN [2,7,8,10,11,12] [2,8,10] rfl <| A3 <| A3 <| A0 <| y_M rfl <| I8 rfl <| xN [2,7,8,10,11,53] [2,8,10] rfl ?_
   refine A5 rfl (fun hc => absurd hc (by decide)) (fun hc => ?_)
   refine A7 <| A3 <| A0 <| y_F rfl <| y_L rfl <| y_B rfl <| a1p (es := List.map trV [_]) rfl rfl (dT rfl) rfl rfl (fun _ => B1 (A6 fun _ => rfl)) (fun _ => rfl) ?_
   intro g58
   refine P6 rfl rfl rfl (by simp) (by decide) rfl rfl rfl (dT rfl) (fun _ => ⟨rfl, rfl⟩) (by simp only [H4]; (simp only [List.length_nil, List.length_cons, List.length_append, Nat.zero_add, List.length_map]; omega)) (fun _ => rfl) ?_
   intro g59
   refine y_F rfl <| L4 rfl rfl rfl rfl rfl (Nat.le_refl _) rfl <| xN [2,7,8,11] [2,8,1000059] rfl <| A0 <| y_M rfl <| y_S rfl <| xN [2,7,8,9] [2,8,1000059] rfl <| A0 <| y_M rfl <| V2 rfl rfl (D4 (by omega)) <| y_S rfl <| xN [2,7,8,9] [2,8,1000059] rfl <| F8 <| A3 <| A3 <| A0 <| y_M rfl <| O6 rfl rfl <| xN [2,7,8,9,43] [2,8,1000059] rfl ?_
   refine A5 rfl (fun hc => absurd hc (by decide)) (fun hc => ?_)
   refine E6 <| A3 <| A0 <| y_B rfl <| y_M rfl <| E3 rfl rfl rfl rfl (E8 rfl (E8 rfl (V6 (by decide) (by decide) rfl (by simp) fun _ => I0))) (fun _ => rfl) ⟨by decide, rfl, dT rfl, Nat.le_refl _⟩ (fun _ => rfl) (fun _ => rfl) (fun _ => C0 (by rfl) (C0 (B1 (A6 fun _ => rfl)) (by rfl))) ?_
   intro z
   simp only [H7, List.cons_append, List.nil_append]
   refine y_S rfl <| y_S rfl <| xN [2,3,4] [2,300002] rfl <| A8 <| B5 (C8 rfl rfl rfl rfl (C1 rfl (G6 rfl (I9 rfl rfl (by simp) (fun _ => rfl) F5))) (C7 rfl rfl (C7 rfl rfl (C3 B2)))) ?_
   rw [b9j hnn hn, hr1]
   rfl
  rw [hn]
  refine y_M rfl <| N5 rfl rfl rfl (Mv.sized_map fun _ => rfl) K7 (G9 (n := 1) rfl) (by simp) ?_
  rw [show ((List.map tV (w :: ws1)).drop 1).take ((List.map tV (w :: ws1)).length - 1) = ws1.map tV from by rw [List.map_cons, List.drop_succ_cons, List.drop_zero, List.take_of_length_le (by simp)]]
  refine y_S rfl <| xN [2,7,8,9] [2,8] rfl <| A3 <| A9 <| F8 <| A3 <| A3 <| A0 <| y_M rfl <| O6 rfl rfl <| xN [2,7,8,9,43] [2,8] rfl ?_
  refine A5 rfl (fun hc => ?_) (fun hc => absurd hc (by decide))
  refine A7 <| A3 <| A9 <| A3 <| A0 <| y_M rfl ?_
  rcases hr1 : rdT ws1 with _ | ⟨k1, r1⟩
  ·skip
   apply xC rfl
   ·apply B4
    ·exact B9 rfl
    exact D8
   ·exact (by have hi := ih ws1 ⟨by simp only [List.length_cons] at hws; omega, fun x hx => hws.2 x (List.mem_cons_of_mem _ hx)⟩ (by simp only [List.length_cons] at hkk; omega); rw [hr1] at hi; exact hi)
   refine ⟨⟨rfl, rfl, rfl, dT rfl, rfl⟩, .inl rfl, B7, H1 (H9 rfl (M1 fun _ => H9 rfl M0)), fun _ => C0 (B1 rfl) (by rfl), fun g48 => ?_⟩
   refine y_M rfl <| y_E rfl <| y_E rfl <| y_E rfl <| y_A rfl (fun _ => rfl) ?_
   intro g10
   refine xB rfl rfl rfl rfl rfl rfl rfl rfl rfl ?_
   (refine H5 rfl rfl (by (simp; done)) rfl (fun _ => (B1 (by rfl))) (fun _ => rfl) ?_; intro g11)
   refine y_S rfl <| xN [2,7,8,10,11,12] [2,8,10] rfl <| A3 <| A3 <| A0 <| y_M rfl <| I8 rfl <| xN [2,7,8,10,11,53] [2,8,10] rfl ?_
   refine A5 rfl (fun hc => ?_) (fun hc => absurd hc (by decide))
   refine A3 <| A0 <| H0 (fs := [_, _, _]) rfl rfl rfl rfl rfl <| xB rfl rfl rfl rfl rfl rfl rfl rfl rfl ?_
   (refine B0 rfl rfl (fun _ => rfl) ?_; intro g3)
   refine y_S rfl <| xN [2,3,4] [2,3] rfl <| A8 <| B5 (C8 rfl rfl rfl rfl (C1 rfl (G6 rfl (G6 rfl F5))) (G2 rfl rfl (by simp) (by rfl) (C7 rfl rfl (C3 B2)))) ?_
   rw [a5y hnn hn, hr1]
   rfl
  skip
  apply xC rfl
  ·apply B4
   ·exact B9 rfl
   exact D8
  ·exact (by have hi := ih ws1 ⟨by simp only [List.length_cons] at hws; omega, fun x hx => hws.2 x (List.mem_cons_of_mem _ hx)⟩ (by simp only [List.length_cons] at hkk; omega); rw [hr1] at hi; exact hi)
  refine ⟨⟨rfl, rfl, rfl, dT rfl, rfl⟩, .inl rfl, B7, K2 rfl, fun _ => rfl, fun g48 => ?_⟩
  refine y_M rfl <| y_E rfl <| y_E rfl <| y_E rfl <| y_A rfl (fun _ => rfl) ?_
  intro g10
  refine xB rfl rfl rfl rfl rfl rfl rfl rfl rfl <| y_S rfl <| y_S rfl <| xN [2,7,8,10,11,12] [2,8,10] rfl <| A3 <| A3 <| A0 <| y_M rfl <| I8 rfl <| xN [2,7,8,10,11,53] [2,8,10] rfl ?_
  refine A5 rfl (fun hc => absurd hc (by decide)) (fun hc => ?_)
  refine A7 <| A3 <| A0 <| y_F rfl <| y_L rfl <| y_B rfl <| a1p (es := List.map trV [_]) rfl rfl (dT rfl) rfl rfl (fun _ => B1 (A6 fun _ => rfl)) (fun _ => rfl) ?_
  intro g58
  refine P6 rfl rfl rfl (by simp) (by decide) rfl rfl rfl (dT rfl) (fun _ => ⟨rfl, rfl⟩) (by simp only [H4]; (simp only [List.length_nil, List.length_cons, List.length_append, Nat.zero_add, List.length_map]; omega)) (fun _ => rfl) ?_
  intro g59
  refine y_F rfl <| L4 rfl rfl rfl rfl rfl (Nat.le_refl _) rfl <| xN [2,7,8,11] [2,8,1000059] rfl <| A0 <| y_M rfl <| y_S rfl <| xN [2,7,8,9] [2,8,1000059] rfl <| A0 <| y_M rfl <| V2 rfl rfl (D4 (by omega)) <| y_S rfl <| xN [2,7,8,9] [2,8,1000059] rfl <| F8 <| A3 <| A3 <| A0 <| y_M rfl <| O6 rfl rfl <| xN [2,7,8,9,43] [2,8,1000059] rfl ?_
  refine A5 rfl (fun hc => ?_) (fun hc => absurd hc (by decide))
  refine A7 <| A3 <| A9 <| A3 <| A0 <| y_M rfl ?_
  rcases hr2 : rdT r1 with _ | ⟨k2, r2⟩
  ·skip
   apply xC rfl
   ·apply B4
    ·exact B9 rfl
    exact D8
   ·exact (by have hi := ih r1 ⟨by have := Z3 hr1; simp only [List.length_cons] at hws; omega, fun x hx => hws.2 x (List.mem_cons_of_mem _ (b2g hr1 x hx))⟩ (by have := Z3 hr1; simp only [List.length_cons] at hkk; omega); rw [hr2] at hi; exact hi)
   refine ⟨⟨rfl, rfl, rfl, dT rfl, rfl⟩, .inl rfl, B7, H1 (H9 rfl (M1 fun _ => H9 rfl M0)), fun _ => C0 (B1 rfl) (by rfl), fun g48 => ?_⟩
   refine y_M rfl <| y_E rfl <| y_E rfl <| y_E rfl <| y_A rfl (fun _ => rfl) ?_
   intro g10
   refine xB rfl rfl rfl rfl rfl rfl rfl rfl rfl ?_
   (refine H5 rfl rfl (by (simp; done)) rfl (fun _ => (B1 (by rfl))) (fun _ => rfl) ?_; intro g11)
   refine y_S rfl <| xN [2,7,8,10,11,12] [2,8,1000059,10] rfl <| A3 <| A3 <| A0 <| y_M rfl <| I8 rfl <| xN [2,7,8,10,11,53] [2,8,1000059,10] rfl ?_
   refine A5 rfl (fun hc => ?_) (fun hc => absurd hc (by decide))
   refine A3 <| A0 <| H0 (fs := [_, _, _]) rfl rfl rfl rfl rfl <| xB rfl rfl rfl rfl rfl rfl rfl rfl rfl ?_
   (refine B0 rfl rfl (fun _ => rfl) ?_; intro g3)
   refine y_S rfl <| xN [2,3,4] [2,3] rfl <| A8 <| B5 (C8 rfl rfl rfl rfl (C1 rfl (G6 rfl (G6 rfl F5))) (G2 rfl rfl (by simp) (by rfl) (C7 rfl rfl (C3 B2)))) ?_
   rw [a5y hnn hn, hr1, Option.bind_some, hr2]
   rfl
  skip
  apply xC rfl
  ·apply B4
   ·exact B9 rfl
   exact D8
  ·exact (by have hi := ih r1 ⟨by have := Z3 hr1; simp only [List.length_cons] at hws; omega, fun x hx => hws.2 x (List.mem_cons_of_mem _ (b2g hr1 x hx))⟩ (by have := Z3 hr1; simp only [List.length_cons] at hkk; omega); rw [hr2] at hi; exact hi)
  refine ⟨⟨rfl, rfl, rfl, dT rfl, rfl⟩, .inl rfl, B7, K2 rfl, fun _ => rfl, fun g48 => ?_⟩
  refine y_M rfl <| y_E rfl <| y_E rfl <| y_E rfl <| y_A rfl (fun _ => rfl) ?_
  intro g10
  refine xB rfl rfl rfl rfl rfl rfl rfl rfl rfl <| y_S rfl <| y_S rfl <| xN [2,7,8,10,11,12] [2,8,1000059,10] rfl <| A3 <| A3 <| A0 <| y_M rfl <| I8 rfl <| xN [2,7,8,10,11,53] [2,8,1000059,10] rfl ?_
  refine A5 rfl (fun hc => absurd hc (by decide)) (fun hc => ?_)
  refine A7 <| A3 <| A0 <| y_F rfl <| y_L rfl <| y_B rfl <| a1p (es := List.map trV [_]) rfl rfl (dT rfl) rfl rfl (fun _ => B1 (A6 fun _ => rfl)) (fun _ => rfl) ?_
  intro g58
  refine xA rfl rfl rfl rfl (by simp) (by simp) rfl rfl rfl rfl rfl (fun _ => rfl) (by simp only [LN]; omega) (fun _ => rfl) ?_
  intro g59
  refine y_F rfl <| L4 rfl rfl rfl rfl rfl (Nat.le_refl _) rfl <| xN [2,7,8,11] [2,8,1000059] rfl <| A0 <| y_M rfl <| y_S rfl <| xN [2,7,8,9] [2,8,1000059] rfl <| A0 <| y_M rfl <| V2 rfl rfl (D4 (by omega)) <| y_S rfl <| xN [2,7,8,9] [2,8,1000059] rfl <| F8 <| A3 <| A3 <| A0 <| y_M rfl <| O6 rfl rfl <| xN [2,7,8,9,43] [2,8,1000059] rfl ?_
  refine A5 rfl (fun hc => absurd hc (by decide)) (fun hc => ?_)
  refine E6 <| A3 <| A0 <| y_B rfl <| y_M rfl <| E3 rfl rfl rfl rfl (E8 rfl (E8 rfl (V6 (by decide) (by decide) rfl (by simp) fun _ => I0))) (fun _ => rfl) ⟨by decide, rfl, dT rfl, Nat.le_refl _⟩ (fun _ => rfl) (fun _ => rfl) (fun _ => C0 (by rfl) (C0 (B1 (A6 fun _ => rfl)) (by rfl))) ?_
  intro z
  simp only [H7, List.cons_append, List.nil_append]
  refine y_S rfl <| y_S rfl <| xN [2,3,4] [2,300002] rfl <| A8 <| B5 (C8 rfl rfl rfl rfl (C1 rfl (G6 rfl (I9 rfl rfl (by simp) (fun _ => rfl) F5))) (C7 rfl rfl (C7 rfl rfl (C3 B2)))) ?_
  rw [a5y hnn hn, hr1, Option.bind_some, hr2]
  rfl

theorem b1j : F4 Tryz.f60 = [0, 2, 3, 4, 17, 6, 7, 5, 21] := by kernel_rfl
theorem c6d (s : List UInt8) (hs : s.length ≤ 1048576) : CW (cxT oG) 60 [tV s] = some (.tup [trV (rpT s), bV (rdPlan s).isSome], []) := by
 obtain ⟨ws, hws⟩ : ∃ ws, ws = splitB 32 s := ⟨_, rfl⟩
 have hwl := U1 32 s
 have hwp := V3 32 s
 rw [← hws] at hwl hwp
 refine E4 rfl Tryz.func60 rfl ⟨by kernel_rfl, rfl, dT rfl, dT rfl, by decide⟩ b1j <| A3 <| A0 <| y_A rfl (fun _ => rfl) ?_
 intro g2
 refine y_S rfl <| xN [0,2] [2] rfl <| A3 <| A0 <| y_M rfl ?_
 apply xC rfl
 ·apply B4
  ·exact B9 rfl
  apply B4
  ·exact B9 rfl
  exact D8
 ·exact b8e s (by omega) 32
 refine ⟨⟨rfl, rfl, rfl, dT rfl, rfl⟩, .inl rfl, B7, J1, fun _ => rfl, fun g9 => ?_⟩
 rw [← hws]
 try simp only [List.length_map]
 (refine xO rfl rfl (by simp) rfl (fun _ => rfl) (fun _ => rfl) ?_; intro g4)
 refine xN [0,2,4] [2,4] rfl <| A3 <| A3 <| A0 <| y_M rfl <| a4e rfl rfl <| O6 rfl rfl <| y_M rfl ?_
 refine C5 rfl rfl ?_ ?_ <;> intro hg0 <;> have hg := hg0 <;> try simp only [SG] at hg
 ·refine y_M rfl <| gT rfl rfl <| I5 rfl rfl <| gT rfl rfl <| O6 rfl rfl <| F7 rfl (by assumption) rfl rfl <| xN [2,4,17] [2,4] rfl ?_
  refine A5 rfl ?_ ?_ <;> intro hc <;> try simp only [SL] at hc
  ·refine A3 <| A0 <| H0 (fs := [_, _, _]) rfl rfl rfl rfl rfl <| xB rfl rfl rfl rfl rfl rfl rfl rfl rfl <| y_S rfl <| xN [2,3] [2] rfl <| A8 <| B5 (C8 rfl rfl rfl rfl (C1 rfl (G6 rfl (G6 rfl F5))) (C7 rfl rfl (C3 B2))) ?_
   obtain ⟨h1, h2⟩ := b5s (s := s) (by rw [hws] at *; omega)
   rw [h1, h2]
   rfl
  have hin := d2k hws (by omega)
  refine A7 <| A3 <| A0 <| y_M rfl ?_
  rcases hr : rdT ws with _ | ⟨t, r⟩
  ·skip
   apply xC rfl
   ·apply B4
    ·exact a1e rfl rfl (by (simp; done)) (fun _ => rfl)
    exact D8
   ·exact (by have hi := b4a (oG := oG) ws ⟨by omega, fun w hw => by have := hwp w hw; omega⟩; rw [hr] at hi; exact hi)
   refine ⟨⟨rfl, rfl, rfl, dT rfl, rfl⟩, .inl rfl, B7, H1 (H9 rfl (M1 fun _ => H9 rfl M0)), fun _ => C0 (a0m (A6 fun _ => rfl) (by decide)) (by rfl), fun g21 => ?_⟩
   refine y_M rfl <| y_E rfl <| y_E rfl <| y_E rfl <| y_A rfl (fun _ => rfl) ?_
   intro g5
   refine xB rfl rfl rfl rfl rfl rfl rfl rfl rfl ?_
   (refine H5 rfl rfl (by (simp; done)) rfl (fun _ => (B1 (by rfl))) (fun _ => rfl) ?_; intro g6)
   refine y_S rfl <| xN [2,5,6,7] [2,5] rfl <| A3 <| A0 <| y_B rfl <| y_M rfl <| y_M rfl <| J5 rfl rfl rfl <| J5 rfl rfl rfl <| J5 rfl rfl rfl <| F7 rfl rfl rfl rfl <| xB rfl rfl rfl rfl rfl rfl rfl rfl rfl <| y_S rfl <| xN [2,3] [2] rfl <| A8 <| B5 (C8 rfl rfl rfl rfl (C1 rfl (C1 rfl (C1 rfl F5))) (C7 rfl rfl (C3 B2))) ?_
   obtain ⟨h1, h2⟩ := hin.1 hr
   rw [h1, h2]
   rfl
  skip
  apply xC rfl
  ·apply B4
   ·exact a1e rfl rfl (by (simp; done)) (fun _ => rfl)
   exact D8
  ·exact (by have hi := b4a (oG := oG) ws ⟨by omega, fun w hw => by have := hwp w hw; omega⟩; rw [hr] at hi; exact hi)
  refine ⟨⟨rfl, rfl, rfl, dT rfl, rfl⟩, .inl rfl, B7, K2 rfl, fun _ => C0 (a0m (A6 fun _ => rfl) (by decide)) (by rfl), fun g21 => ?_⟩
  refine y_M rfl <| y_E rfl <| y_E rfl <| y_E rfl <| y_A rfl (fun _ => rfl) ?_
  intro g5
  refine xB rfl rfl rfl rfl rfl rfl rfl rfl rfl <| y_S rfl <| y_S rfl <| xN [2,5,6,7] [2,5] rfl <| A3 <| A0 <| y_B rfl <| y_M rfl <| y_M rfl <| G7 rfl rfl rfl <| y_M rfl <| G7 rfl rfl rfl <| C2 rfl rfl <| G7 rfl rfl rfl <| S7 rfl rfl <| E9 rfl rfl rfl rfl <| xB rfl rfl rfl rfl rfl rfl rfl rfl rfl <| y_S rfl <| xN [2,3] [2] rfl <| A8 <| B5 (C8 rfl rfl rfl rfl (C1 rfl (C1 rfl (C1 rfl F5))) (C7 rfl rfl (C3 B2))) ?_
  obtain ⟨h1, h2⟩ := hin.2 t r hr
  rw [h1, h2]
  rfl
 refine gF rfl rfl <| gF rfl rfl <| E9 rfl (by assumption) rfl rfl <| xN [2,4,17] [2,4] rfl ?_
 refine A5 rfl (fun hc => ?_) (fun hc => absurd hc (by decide))
 refine A3 <| A0 <| H0 (fs := [_, _, _]) rfl rfl rfl rfl rfl <| xB rfl rfl rfl rfl rfl rfl rfl rfl rfl <| y_S rfl <| xN [2,3] [2] rfl <| A8 <| B5 (C8 rfl rfl rfl rfl (C1 rfl (G6 rfl (G6 rfl F5))) (C7 rfl rfl (C3 B2))) ?_
 obtain ⟨h1, h2⟩ := b5s (s := s) (by rw [hws] at *; omega)
 rw [h1, h2]
 rfl

theorem b2v : F4 Tryz.f143 = [0, 2, 8, 7, 9, 6, 5, 3] := by kernel_rfl
theorem d2d (ns : List Int) (hl : ns.length ≤ 1000000) (hnb : ∀ n ∈ ns, -1000000 ≤ n ∧ n ≤ 1000000) : CW (cxT oG) 143 [L ns] = some (tV (O1 ns), []) := by
 have hg := fun (i : Nat) (h : i < ns.length) => hnb _ (a8k h)
 have hll := a0n (ns := ns) hnb
 refine E4 rfl Tryz.func143 rfl ⟨by kernel_rfl, rfl, dT rfl, dT rfl, by decide⟩ b2v <| A3 <| A0 <| y_S rfl <| xN [0] [] rfl <| A3 <| A0 ?_
 (refine B0 rfl rfl (fun _ => rfl) ?_; intro g3)
 refine xN [0,3] [3] rfl <| A3 <| A3 <| A0 <| y_M rfl <| C2 rfl rfl <| y_M rfl <| xN [3,6,7,8] [3] rfl <| A9 <| F6 (β := Nat × List (List UInt8) × Nat) [(.t 6, _), (.t 7, _)] (fun (z : Nat × List (List UInt8) × Nat) => match z with | (i, ps, g) => [(.t 8, iV i), (.t 3, .sl 3 g none 0 ps.length), (.h 3, .obj g 0 1 (ps.map tV))]) (fun (z : Nat × List (List UInt8) × Nat) => match z with | (i, ps, g) => i ≤ ns.length ∧ ps = (ns.take i).map dec) (fun (z : Nat × List (List UInt8) × Nat) => match z with | (i, ps, g) => ns.length - i) (0, [], _) ⟨rfl, rfl, rfl, rfl, rfl, trivial⟩ ⟨Nat.zero_le _, rfl⟩ ?_
 intro z hb
 obtain ⟨i, ps, g⟩ := z
 try dsimp only at hb
 obtain ⟨hi1, hps⟩ := hb
 have hpl : ps.length = i := by rw [hps]; simp; omega
 refine A3 <| A0 <| G1 rfl rfl <| xN [3,6,7,8,9] [3] rfl <| A3 ?_
 refine A5 rfl ?_ ?_ <;> intro hc <;> try simp only [SL] at hc
 ·refine A7 <| A3 <| A9 <| A3 <| A0 <| B8 rfl rfl rfl (fun _ => rfl) (by omega) <| y_I rfl <| y_S rfl <| xN [3,5,6,7,8] [3] rfl <| A0 <| y_M rfl <| y_M rfl ?_
  have hgi := hg i (by omega)
  refine xC1 rfl rfl (d8m (ns.getD i default) (by omega)) ⟨rfl, rfl, rfl⟩ rfl rfl fun g14 => ?_
  refine B6 (es := List.map tV [_]) rfl rfl (dT rfl) rfl rfl (fun _ => B1 (A6 fun _ => rfl)) (fun _ => rfl) ?_
  intro g15
  refine xA rfl rfl rfl rfl (by simp) (by simp) rfl rfl rfl rfl rfl (fun _ => rfl) (by simp only [LN]; omega) (fun _ => rfl) ?_
  intro g16
  (refine xO rfl rfl (by simp) rfl (fun _ => rfl) (fun _ => rfl) ?_; intro g3)
  refine xN [3,6,7,8] [3] rfl <| A0 <| F3 rfl rfl (D4 (by omega)) <| y_M rfl <| xN [3,6,7,8] [3] rfl ?_
  refine ⟨(i + 1, ps ++ [dec (ns.getD i default)], _), ?_, (by simp only; omega), ⟨rfl, rfl, rfl, rfl, rfl, trivial⟩⟩
  exact ⟨by omega, by rw [hps, ← b6x (by omega)]⟩
 refine E6 <| A3 <| A0 <| y_M rfl ?_
 have hpe : ps = ns.map dec := by rw [hps, List.take_of_length_le (by omega)]
 have hje : joinB 44 ps = O1 ns := by rw [hpe]; rfl
 apply xC rfl
 ·apply B4
  ·exact J4 rfl rfl rfl (by (simp; done)) (fun _ => rfl)
  apply B4
  ·exact B9 rfl
  exact D8
 ·exact d5d ps 44 (by simp only [H4]; omega) (by rw [hje]; simp only [H4]; omega)
 refine ⟨⟨rfl, rfl, rfl, dT rfl, rfl⟩, .inr ⟨rfl, rfl⟩, B7, H6 rfl, fun _ => rfl, fun g19 => ?_⟩
 refine y_S rfl <| xN [2] [] rfl <| A8 <| C6 rfl rfl trivial ?_
 rw [hje]

theorem a9i : F4 Tryz.f113 = [0, 2] := by kernel_rfl
theorem a5i (ns : List Int) (hl : ns.length ≤ 1000000) (hnb : ∀ n ∈ ns, -1000000 ≤ n ∧ n ≤ 1000000) : CW (cxT oG) 113 [L ns] = some (tV (O2 ns), []) := by
 have hll := a0n (ns := ns) hnb
 refine E4 rfl Tryz.func113 rfl ⟨by kernel_rfl, rfl, dT rfl, dT rfl, by decide⟩ a9i <| A3 <| A0 <| y_S rfl <| xN [0] [] rfl <| A3 <| A0 <| y_M rfl ?_
 refine xC1 rfl rfl (d2d ns hl hnb) ⟨rfl, rfl, rfl⟩ rfl rfl fun g4 => ?_
 iterate 2 refine U4 rfl rfl (by simp only [H4, List.length_append, List.length_cons, List.length_nil]; omega) ?_
 refine y_S rfl <| xN [2] [] rfl <| A8 <| C6 rfl rfl trivial ?_
 rfl

theorem b0b : F4 Tryz.f104 = [0, 2, 3, 4, 6, 5, 27, 29, 33, 32, 34, 31, 9, 11, 43, 10, 7] := by kernel_rfl
theorem c3i (w : List UInt8) (hs : w.length ≤ 1048576) : CW (cxT oG) 104 [tV w] = some (.tup [.own 1 ((rlX w).map iV), bV (okI w)], []) := by
 have hc1 := d2x 91 w
 have hc2 := d4b 93 (a3p 91 w)
 refine E4 rfl Tryz.func104 rfl ⟨by kernel_rfl, rfl, dT rfl, dT rfl, by decide⟩ b0b <| A3 <| A0 ?_
 (refine B0 rfl rfl (fun _ => rfl) ?_; intro g2)
 refine y_S rfl <| xN [0] [] rfl <| A3 <| A0 <| y_M rfl ?_
 apply xC rfl
 ·apply B4
  ·exact B9 rfl
  apply B4
  ·exact B9 rfl
  exact D8
 ·exact d8z w 91
 refine ⟨⟨rfl, rfl, rfl, dT rfl, rfl⟩, .inl rfl, B7, K2 rfl, fun _ => rfl, fun g14 => ?_⟩
 refine y_M rfl <| y_E rfl <| y_E rfl <| y_S rfl <| y_S rfl <| xN [0,4,5] [] rfl <| A3 <| A0 <| y_M rfl ?_
 apply xC rfl
 ·apply B4
  ·exact B9 rfl
  apply B4
  ·exact B9 rfl
  exact D8
 ·exact d9q (a3p 91 w) 93 (by omega)
 refine ⟨⟨rfl, rfl, rfl, dT rfl, rfl⟩, .inl rfl, B7, K2 rfl, fun _ => rfl, fun g19 => ?_⟩
 refine y_M rfl <| y_E rfl <| y_E rfl <| y_S rfl <| y_S rfl <| xN [0,4,5,6] [] rfl <| A3 <| A3 <| A0 <| y_M rfl <| I8 rfl <| y_M rfl ?_
 refine C5 rfl rfl ?_ ?_ <;> intro hg0 <;> have hg := hg0 <;> try simp only [SG] at hg
 ·refine y_M rfl <| gT rfl rfl <| I8 rfl <| F7 rfl (by assumption) rfl rfl <| xN [0,4,27] [] rfl ?_
  refine A5 rfl ?_ ?_ <;> intro hc <;> try simp only [SL] at hc
  ·refine A3 <| A0 ?_
   (refine B0 rfl rfl (fun _ => rfl) ?_; intro g2)
   refine y_S rfl <| xN [2,3] [2] rfl <| A8 <| B5 (G2 rfl rfl (by simp) (by rfl) (C7 rfl rfl (C3 B2))) ?_
   obtain ⟨h1, h2⟩ := b9b (c3j (w := w) (by simp_all [okB]))
   rw [h1, h2]
   rfl
  have hok : okB w = true := by simp [okB]; constructor <;> assumption
  obtain ⟨ps, hps0⟩ : ∃ ps, ps = splitB 44 (a4h w) := ⟨_, rfl⟩
  have hpl := U1 44 (a4h w)
  have hpp := V3 44 (a4h w)
  rw [← hps0] at hpl hpp
  have hil := d5a hok
  refine A7 <| A3 <| A0 ?_
  (refine B0 rfl rfl (fun _ => rfl) ?_; intro g7)
  refine xN [0,4,7] [7] rfl <| A3 <| A3 <| A0 <| y_M rfl <| b2z rfl rfl <| xN [0,4,7,29] [7] rfl ?_
  refine A5 rfl ?_ ?_ <;> intro hc <;> try simp only [SL] at hc
  ·have hin : a4h w ≠ [] := hc
   refine A3 <| A0 <| y_M rfl ?_
   have hps := hps0
   apply a6s rfl
   ·apply B4
    ·exact B9 rfl
    apply B4
    ·exact B9 rfl
    exact D8
   ·exact b9y (a4h w) 44 (by unfold a4h; omega)
   ·exact ⟨rfl, rfl, rfl, dT rfl, rfl⟩
   ·exact .inl rfl
   ·exact B7
   ·exact J1
   ·(intro _; exact C0 (B1 (A6 fun _ => rfl)) rfl)
   intro g31
   rw [← hps]
   try simp only [List.length_map]
   refine I5 rfl rfl <| y_M rfl <| xN [0,7,31,32,33] [7,1000031] rfl <| A9 <| F6 (β := Nat × List Int × Nat) [(.t 0, _), (.t 31, _), (.t 32, _), (.h 1000031, _)] (fun (z : Nat × List Int × Nat) => match z with | (i, ns, g) => [(.t 33, iV i), (.t 7, .sl 7 g none 0 ns.length), (.h 7, .obj g 0 1 (ns.map iV))]) (fun (z : Nat × List Int × Nat) => match z with | (i, ns, g) => i ≤ ps.length ∧ rdA (ps.take i) = some ns) (fun (z : Nat × List Int × Nat) => match z with | (i, ns, g) => ps.length - i) (0, [], _) ⟨rfl, rfl, rfl, rfl, rfl, rfl, rfl, trivial⟩ ⟨Nat.zero_le _, rfl⟩ ?_
   intro z hb
   obtain ⟨i, ns, g⟩ := z
   try dsimp only at hb
   obtain ⟨hi1, hrd⟩ := hb
   have hpi := fun h : i < ps.length => hpp _ (U8 h)
   have hnl := b3n hrd
   rw [List.length_take] at hnl
   refine A3 <| A0 <| G1 rfl rfl <| xN [0,7,31,32,33,34] [7,1000031] rfl <| A3 ?_
   refine A5 rfl ?_ ?_ <;> intro hc <;> try simp only [SL] at hc
   ·refine A7 <| A3 <| A9 <| A3 <| A0 <| D6 rfl rfl rfl rfl (by omega) (by (simp; done)) rfl <| G0 rfl rfl (by omega) (fun _ => rfl) (fun _ => rfl) rfl <| y_S rfl <| xN [0,7,9,31,32,33] [7,1000031] rfl <| A3 <| A0 <| y_M rfl ?_
    rcases hat : Lib.atoiAll (ps.getD i default) with v | _ | _
    ·skip
     apply xC rfl
     ·apply B4
      ·exact B9 rfl
      exact D8
     ·exact (by have hi := c6b (oG := oG) (ps.getD i default) (by omega); unfold atR at hi; rw [hat] at hi; exact hi)
     refine ⟨⟨rfl, rfl, rfl, dT rfl, rfl⟩, .inl rfl, B7, K2 rfl, fun _ => rfl, fun g39 => ?_⟩
     refine y_M rfl <| y_E rfl <| y_E rfl <| y_S rfl <| y_S rfl <| xN [0,7,10,11,31,32,33] [7,1000031] rfl <| A3 <| A3 <| A0 <| y_M rfl <| d5t rfl rfl rfl rfl <| xN [0,7,10,31,32,33,43] [7,1000031] rfl ?_
     refine A5 rfl (fun hc => absurd hc (by decide)) (fun hc => ?_)
     refine A7 <| A0 <| y_M rfl <| y_M rfl <| B6 (es := List.map iV [_]) rfl rfl (dT rfl) rfl rfl (fun _ => B1 (A6 fun _ => rfl)) (fun _ => rfl) ?_
     intro g46
     refine xA rfl rfl rfl rfl (by simp) (by simp) rfl rfl rfl rfl rfl (fun _ => rfl) (by simp only [LN]; omega) (fun _ => rfl) ?_
     intro g47
     (refine xO rfl rfl (by simp) rfl (fun _ => rfl) (fun _ => rfl) ?_; intro g7)
     refine xN [0,7,31,32,33] [7,1000031] rfl <| A0 <| F3 rfl rfl (D4 (by omega)) <| y_M rfl <| xN [0,7,31,32,33] [7,1000031] rfl ?_
     refine ⟨(i + 1, ns ++ [v], _), ?_, (by simp only; omega), ⟨rfl, rfl, rfl, rfl, rfl, rfl, rfl, trivial⟩⟩
     exact ⟨by omega, d3t (by omega) hrd hat⟩
    ·skip
     apply xC rfl
     ·apply B4
      ·exact B9 rfl
      exact D8
     ·exact (by have hi := c6b (oG := oG) (ps.getD i default) (by omega); unfold atR at hi; rw [hat] at hi; exact hi)
     refine ⟨⟨rfl, rfl, rfl, dT rfl, rfl⟩, .inl rfl, B7, K2 rfl, fun _ => rfl, fun g39 => ?_⟩
     refine y_M rfl <| y_E rfl <| y_E rfl <| y_S rfl <| y_S rfl <| xN [0,7,10,11,31,32,33] [7,1000031] rfl <| A3 <| A3 <| A0 <| y_M rfl <| c3s rfl rfl rfl <| xN [0,7,10,31,32,33,43] [7,1000031] rfl ?_
     refine A5 rfl (fun hc => ?_) (fun hc => absurd hc (by decide))
     refine A3 <| A0 ?_
     (refine B0 rfl rfl (fun _ => rfl) ?_; intro g2)
     refine y_S rfl <| xN [2,3] [2] rfl <| A8 <| B5 (G2 rfl rfl (by simp) (by rfl) (C7 rfl rfl (C3 B2))) ?_
     obtain ⟨h1, h2⟩ := b9b (w := w) (by rw [b2m hok hin, ← hps0]; exact c3v (i := i) (by omega) (by intro v hv; rw [hat] at hv; cases hv))
     rw [h1, h2]
     rfl
    skip
    apply xC rfl
    ·apply B4
     ·exact B9 rfl
     exact D8
    ·exact (by have hi := c6b (oG := oG) (ps.getD i default) (by omega); unfold atR at hi; rw [hat] at hi; exact hi)
    refine ⟨⟨rfl, rfl, rfl, dT rfl, rfl⟩, .inl rfl, B7, K2 rfl, fun _ => rfl, fun g39 => ?_⟩
    refine y_M rfl <| y_E rfl <| y_E rfl <| y_S rfl <| y_S rfl <| xN [0,7,10,11,31,32,33] [7,1000031] rfl <| A3 <| A3 <| A0 <| y_M rfl <| c3s rfl rfl rfl <| xN [0,7,10,31,32,33,43] [7,1000031] rfl ?_
    refine A5 rfl (fun hc => ?_) (fun hc => absurd hc (by decide))
    refine A3 <| A0 ?_
    (refine B0 rfl rfl (fun _ => rfl) ?_; intro g2)
    refine y_S rfl <| xN [2,3] [2] rfl <| A8 <| B5 (G2 rfl rfl (by simp) (by rfl) (C7 rfl rfl (C3 B2))) ?_
    obtain ⟨h1, h2⟩ := b9b (w := w) (by rw [b2m hok hin, ← hps0]; exact c3v (i := i) (by omega) (by intro v hv; rw [hat] at hv; cases hv))
    rw [h1, h2]
    rfl
   refine E6 <| A3 <| A0 <| y_M rfl <| y_M rfl ?_
   apply xC rfl
   ·apply B4
    ·exact J4 rfl rfl rfl (by (simp; done)) (fun _ => rfl)
    exact D8
   ·exact a0b ns (by omega)
   refine ⟨⟨rfl, rfl, rfl, dT rfl, rfl⟩, .inr ⟨rfl, rfl⟩, B7, H6 rfl, fun _ => rfl, fun g51 => ?_⟩
   refine y_M rfl ?_
   refine C5 rfl rfl ?_ ?_ <;> intro hg0 <;> have hg := hg0 <;> try simp only [SG] at hg
   ·refine y_M rfl <| gT rfl rfl ?_
    (have hnb := c8s (ns := ns) (by assumption); have hvl := a9h (show vd ns = true by assumption))
    apply xC rfl
    ·apply B4
     ·exact J4 rfl rfl rfl (by (simp; done)) (fun _ => rfl)
     exact D8
    ·exact a5i ns (by omega) hnb
    refine ⟨⟨rfl, rfl, rfl, dT rfl, rfl⟩, .inr ⟨rfl, rfl⟩, B7, H6 rfl, fun _ => rfl, fun g54 => ?_⟩
    refine gT rfl rfl <| y_M rfl <| gT rfl rfl <| P4 rfl rfl <| E9 rfl (by assumption) rfl rfl ?_
    (refine xO rfl rfl (by simp) rfl (fun _ => rfl) (fun _ => rfl) ?_; intro g2)
    refine y_S rfl <| xN [2,3] [2] rfl <| A8 <| B5 (G2 rfl rfl (by simp) (by exact A6 fun _ => rfl) (C7 rfl rfl (C3 B2))) ?_
    (have hx := hin; obtain ⟨h1, h2⟩ := a7f (ns := ns) (w := w) (by rw [b2m hok hx, ← hps0]; rw [List.take_of_length_le (by omega)] at hrd; exact hrd))
    (rw [h1, h2, hg, Bool.true_and]; rfl)
   refine gF rfl rfl <| gF rfl rfl <| gF rfl rfl <| F7 rfl (by assumption) rfl rfl ?_
   (refine xO rfl rfl (by simp) rfl (fun _ => rfl) (fun _ => rfl) ?_; intro g2)
   refine y_S rfl <| xN [2,3] [2] rfl <| A8 <| B5 (G2 rfl rfl (by simp) (by exact A6 fun _ => rfl) (C7 rfl rfl (C3 B2))) ?_
   (have hx := hin; obtain ⟨h1, h2⟩ := a7f (ns := ns) (w := w) (by rw [b2m hok hx, ← hps0]; rw [List.take_of_length_le (by omega)] at hrd; exact hrd))
   (rw [h1, h2, hg, Bool.false_and]; rfl)
  have hie : a4h w = [] := hc
  refine A7 <| A3 <| A0 <| y_M rfl <| y_M rfl ?_
  apply xC rfl
  ·apply B4
   ·exact b2i rfl rfl rfl rfl rfl
   exact D8
  ·exact a0b [] (by decide)
  refine ⟨⟨rfl, rfl, rfl, dT rfl, rfl⟩, .inr ⟨rfl, rfl⟩, B7, H6 rfl, fun _ => rfl, fun g51 => ?_⟩
  refine y_M rfl ?_
  refine C5 rfl rfl ?_ ?_ <;> intro hg0 <;> have hg := hg0 <;> try simp only [SG] at hg
  ·refine y_M rfl <| gT rfl rfl ?_
   skip
   apply xC rfl
   ·apply B4
    ·exact b2i rfl rfl rfl rfl rfl
    exact D8
   ·exact a5i [] (by decide) (by simp)
   refine ⟨⟨rfl, rfl, rfl, dT rfl, rfl⟩, .inr ⟨rfl, rfl⟩, B7, H6 rfl, fun _ => rfl, fun g54 => ?_⟩
   refine gT rfl rfl <| y_M rfl <| gT rfl rfl <| P4 rfl rfl <| E9 rfl rfl rfl rfl ?_
   (refine H5 rfl rfl (by (simp; done)) rfl (fun _ => (B1 (by rfl))) (fun _ => rfl) ?_; intro g2)
   refine y_S rfl <| xN [2,3] [2] rfl <| A8 <| B5 (G2 rfl rfl (by simp) (by rfl) (C7 rfl rfl (C3 B2))) ?_
   obtain ⟨h1, h2⟩ := a7f (ns := []) (w := w) (c9s hok hie)
   (rw [h1, h2, hg, Bool.true_and]; rfl)
  refine gF rfl rfl <| gF rfl rfl <| gF rfl rfl <| F7 rfl (by assumption) rfl rfl ?_
  (refine H5 rfl rfl (by (simp; done)) rfl (fun _ => (B1 (by rfl))) (fun _ => rfl) ?_; intro g2)
  refine y_S rfl <| xN [2,3] [2] rfl <| A8 <| B5 (G2 rfl rfl (by simp) (by rfl) (C7 rfl rfl (C3 B2))) ?_
  obtain ⟨h1, h2⟩ := a7f (ns := []) (w := w) (c9s hok hie)
  (rw [h1, h2, hg, Bool.false_and]; rfl)
 refine gF rfl rfl <| E9 rfl (by assumption) rfl rfl <| xN [0,4,27] [] rfl ?_
 refine A5 rfl (fun hc => ?_) (fun hc => absurd hc (by decide))
 refine A3 <| A0 ?_
 (refine B0 rfl rfl (fun _ => rfl) ?_; intro g2)
 refine y_S rfl <| xN [2,3] [2] rfl <| A8 <| B5 (G2 rfl rfl (by simp) (by rfl) (C7 rfl rfl (C3 B2))) ?_
 obtain ⟨h1, h2⟩ := b9b (c3j (w := w) (by simp_all [okB]))
 rw [h1, h2]
 rfl

theorem b1r : F4 Tryz.f63 = [0, 2, 3, 4, 6, 12, 5] := by kernel_rfl
theorem a0v (w : List UInt8) (hs : w.length ≤ 1048576) : CW (cxT oG) 63 [tV w] = some (.tup [tV (if (numsOf w).isSome = true then lW else w), .own 1 (((numsOf w).getD []).map iV), bV ((numsOf w).isSome || decide (0 ≤ rch (bA w)))], []) := by
 refine E4 rfl Tryz.func63 rfl ⟨by kernel_rfl, rfl, dT rfl, dT rfl, by decide⟩ b1r <| A3 <| A0 <| y_S rfl ?_
 (refine B0 rfl rfl (fun _ => rfl) ?_; intro g3)
 refine y_S rfl <| xN [0] [] rfl <| A3 <| A3 <| A0 <| y_M rfl ?_
 apply xC rfl
 ·apply B4
  ·exact B9 rfl
  exact D8
 ·exact (by have hi := c3i (oG := oG) w hs; rw [d9c] at hi; exact hi)
 refine ⟨⟨rfl, rfl, rfl, dT rfl, rfl⟩, .inr ⟨J7 _ _, rfl⟩, B7, H1 (M1 fun _ => H9 rfl M0), fun _ => rfl, fun g9 => ?_⟩
 simp only [List.length_map]
 refine y_M rfl <| y_E rfl <| y_E rfl ?_
 (refine xO rfl rfl (by simp) rfl (fun _ => rfl) (fun _ => rfl) ?_; intro g5)
 refine y_S rfl <| xN [0,5,6] [5] rfl <| A3 <| A0 <| y_M rfl <| xN [0,5,12] [5] rfl ?_
 refine A5 rfl ?_ ?_ <;> intro hc <;> try simp only [SL] at hc
 ·obtain ⟨ns, hns⟩ := Option.isSome_iff_exists.1 hc
  have hraw := d9n hns
  refine A3 <| A0 <| y_M rfl <| y_S rfl ?_
  (refine xO rfl rfl (by simp) rfl (fun _ => rfl) (fun _ => rfl) ?_; intro g3)
  refine y_S rfl <| xN [2,3,4] [3] rfl <| A8 <| B5 (C7 rfl rfl (G2 rfl rfl (by simp) (by exact A6 fun _ => rfl) (C7 rfl rfl (C3 B2)))) ?_
  rw [hns, hraw]
  rfl
 have hnn : numsOf w = none := by simpa using hc
 have hwo := d6l w
 refine A7 <| A3 <| A0 <| y_M rfl <| y_M rfl <| b2z rfl rfl <| y_M rfl ?_
 refine C5 rfl rfl ?_ ?_ <;> intro hg0 <;> have hg := hg0 <;> try simp only [SG] at hg
 ·refine y_M rfl <| gT rfl rfl ?_
  refine xC1 rfl rfl (a7w (bA w)) ⟨rfl, rfl, rfl⟩ rfl rfl fun g19 => ?_
  refine gT rfl rfl <| c9p rfl rfl <| E9 rfl (by assumption) rfl rfl <| y_S rfl ?_
  (refine B0 rfl rfl (fun _ => rfl) ?_; intro g3)
  refine y_S rfl <| xN [2,3,4] [3] rfl <| A8 <| B5 (C7 rfl rfl (G2 rfl rfl (by simp) (by rfl) (C7 rfl rfl (C3 B2)))) ?_
  rw [hnn, ← hwo]
  simp_all
  try rfl
 refine gF rfl rfl <| gF rfl rfl <| F7 rfl (by assumption) rfl rfl <| y_S rfl ?_
 (refine B0 rfl rfl (fun _ => rfl) ?_; intro g3)
 refine y_S rfl <| xN [2,3,4] [3] rfl <| A8 <| B5 (C7 rfl rfl (G2 rfl rfl (by simp) (by rfl) (C7 rfl rfl (C3 B2)))) ?_
 rw [hnn, ← hwo]
 simp_all
 try rfl

theorem a9q : F4 Tryz.f133 = [0, 2, 3, 4, 15, 7, 26, 6, 5, 35, 34, 36, 9, 12, 44, 8, 10, 11, 39, 50] := by kernel_rfl
theorem b0j (ws : List W8) (hws : ws.length ≤ 1048600 ∧ ∀ w ∈ ws, w.length ≤ 1048576) : CW (cxT oG) 133 [.list (ws.map tV)] = some (rtR (rdT ws), []) := by
 obtain ⟨kk, hkk⟩ : ∃ kk : Nat, ws.length < kk := ⟨_, Nat.lt_succ_self _⟩
 revert ws
 induction kk with
 | zero => intro ws hws hkk; exact absurd hkk (Nat.not_lt_zero _)
 | succ kk ih =>
  intro ws hws hkk
  refine E4 rfl Tryz.func133 rfl ⟨by kernel_rfl, rfl, dT rfl, dT rfl, by decide⟩ a9q <| A3 <| A0 <| y_A rfl (fun _ => rfl) ?_
  intro g2
  (refine B0 rfl rfl (fun _ => rfl) ?_; intro g3)
  refine y_S rfl <| xN [0,2] [2] rfl <| A3 <| A3 <| A0 <| y_M rfl <| C2 rfl rfl <| S7 rfl rfl <| xN [0,2,15] [2] rfl ?_
  refine A5 rfl ?_ ?_ <;> intro hc <;> try simp only [SL] at hc
  ·have hw0 : ws = [] := List.length_eq_zero_iff.1 (by simpa using hc)
   subst hw0
   refine A3 <| A0 <| H0 (fs := [_, _, _]) rfl rfl rfl rfl rfl <| xB rfl rfl rfl rfl rfl rfl rfl rfl rfl ?_
   (refine B0 rfl rfl (fun _ => rfl) ?_; intro g3)
   refine y_S rfl <| xN [2,3,4] [2,3] rfl <| A8 <| B5 (C8 rfl rfl rfl rfl (C1 rfl (G6 rfl (G6 rfl F5))) (G2 rfl rfl (by simp) (by rfl) (C7 rfl rfl (C3 B2)))) ?_
   rfl
  obtain ⟨w, ws1, rfl⟩ : ∃ w ws1, ws = w :: ws1 := List.exists_cons_of_ne_nil (fun e => by subst e; simp at hc)
  have hw := hws.2 w (by simp)
  refine A7 <| A3 <| A0 <| y_M rfl <| B8 rfl rfl rfl (fun _ => rfl) (by (change 0 < _; omega)) <| y_I rfl ?_
  rcases d5c w with ⟨ns, hns⟩ | ⟨hnn, hn⟩ | ⟨hnn, hn⟩ | ⟨hnn, hn⟩ | ⟨hnn, hn⟩
  ·skip
   apply xC rfl
   ·apply B4
    ·exact B9 rfl
    exact D8
   ·exact (show CW (cxT oG) 63 [tV w] = some (.tup [tV lW, .own 1 (ns.map iV), bV true], []) from by have hi := a0v (oG := oG) w (by omega); rw [hns] at hi; exact hi)
   refine ⟨⟨rfl, rfl, rfl, dT rfl, rfl⟩, .inr ⟨by simp [hasList, F0], rfl⟩, B7, H1 (H9 rfl (M1 fun _ => H9 rfl M0)), fun _ => C0 (B1 (A6 fun _ => rfl)) (by rfl), fun g21 => ?_⟩
   try simp only [List.length_map]
   refine y_M rfl <| y_E rfl <| y_E rfl <| y_E rfl <| y_S rfl ?_
   (refine xO rfl rfl (by simp) rfl (fun _ => rfl) (fun _ => rfl) ?_; intro g6)
   refine y_S rfl <| xN [0,2,5,6,7] [2,6] rfl <| A3 <| A3 <| A0 <| y_M rfl <| I8 rfl <| xN [0,2,5,6,26] [2,6] rfl ?_
   refine A5 rfl (fun hc => absurd hc (by decide)) (fun hc => ?_)
   refine A7 <| A3 <| A0 <| y_M rfl <| y_M rfl <| H0 (fs := [_, _, _]) rfl rfl rfl rfl rfl <| y_M rfl <| N5 rfl rfl rfl (Mv.sized_map fun _ => rfl) K7 (G9 (n := 1) rfl) (by simp) ?_
   rw [show ((List.map tV (w :: ws1)).drop 1).take ((List.map tV (w :: ws1)).length - 1) = ws1.map tV from by rw [List.map_cons, List.drop_succ_cons, List.drop_zero, List.take_of_length_le (by simp)]]
   refine y_A rfl (fun _ => rfl) ?_
   intro g8
   refine E3 rfl rfl rfl rfl (E8 rfl (L1 (by decide) (E8 rfl I0))) (fun _ => rfl) ⟨by decide, rfl, dT rfl, Nat.le_refl _⟩ (fun _ => rfl) (fun _ => rfl) (fun _ => (by rfl)) ?_
   intro z
   simp only [H7, List.cons_append, List.nil_append]
   refine y_S rfl ?_
   refine J6 ⟨fun _ => ⟨by (simp only [Z6, List.nil_append, List.append_nil, List.map_cons, List.map_nil, List.cons_append]; decide +kernel), by decide +kernel⟩, [(.t 2, _), (.t 5, _), (.t 8, _), (.t 9, _), (.h 2, _), (.h 8, _), (.h 6, _)], ⟨rfl, rfl, rfl, rfl, rfl, rfl, rfl, rfl, rfl, rfl, rfl, rfl, rfl, rfl, trivial⟩, ?_⟩
   refine A3 <| A3 <| A0 <| y_M rfl ?_
   refine xC1 rfl rfl (a7w (bA lW)) ⟨rfl, rfl, rfl⟩ rfl rfl fun g34 => ?_
   rw [show nd (bA lW) = 0 from d7k rfl]
   refine y_M rfl <| xN [2,8,9,34,35] [2,8,6] rfl <| A9 <| F8 <| A3 <| A0 <| G1 rfl rfl <| xN [2,8,9,34,35,36] [2,8,6] rfl <| A3 ?_
   refine A5 rfl (fun hc => absurd hc (by decide)) (fun hc => ?_)
   refine E6 <| A3 <| A0 <| y_B rfl <| y_M rfl <| E3 rfl rfl rfl rfl (E8 rfl (L1 (by decide) (E8 rfl I0))) (fun _ => rfl) ⟨by decide, rfl, dT rfl, Nat.le_refl _⟩ (fun _ => rfl) (fun _ => rfl) (fun _ => (by rfl)) ?_
   intro z
   simp only [H7, List.cons_append, List.nil_append]
   refine y_S rfl <| y_S rfl <| xN [2,3,4] [2,6] rfl <| A8 <| B5 (C8 rfl rfl rfl rfl (C1 rfl (I9 rfl rfl (by simp) (fun _ => rfl) (G6 rfl F5))) (C7 rfl rfl (C7 rfl rfl (C3 B2)))) ?_
   rw [c3z hns]
   rfl
  ·skip
   apply xC rfl
   ·apply B4
    ·exact B9 rfl
    exact D8
   ·exact (show CW (cxT oG) 63 [tV w] = some (.tup [tV w, .own 1 [], bV true], []) from by have hi := a0v (oG := oG) w (by omega); rw [hnn] at hi; rw [show decide (0 ≤ rch (bA w)) = true from decide_eq_true (by omega)] at hi; exact hi)
   refine ⟨⟨rfl, rfl, rfl, dT rfl, rfl⟩, .inr ⟨rfl, rfl⟩, B7, H1 (H9 rfl (M1 fun _ => H9 rfl M0)), fun _ => C0 (B1 rfl) (by rfl), fun g21 => ?_⟩
   try simp only [List.length_map]
   refine y_M rfl <| y_E rfl <| y_E rfl <| y_E rfl <| y_S rfl ?_
   (refine H5 rfl rfl (by (simp; done)) rfl (fun _ => (B1 (by rfl))) (fun _ => rfl) ?_; intro g6)
   refine y_S rfl <| xN [0,2,5,6,7] [2,6] rfl <| A3 <| A3 <| A0 <| y_M rfl <| I8 rfl <| xN [0,2,5,6,26] [2,6] rfl ?_
   refine A5 rfl (fun hc => absurd hc (by decide)) (fun hc => ?_)
   refine A7 <| A3 <| A0 <| y_M rfl <| y_M rfl <| H0 (fs := [_, _, _]) rfl rfl rfl rfl rfl <| y_M rfl <| N5 rfl rfl rfl (Mv.sized_map fun _ => rfl) K7 (G9 (n := 1) rfl) (by simp) ?_
   rw [show ((List.map tV (w :: ws1)).drop 1).take ((List.map tV (w :: ws1)).length - 1) = ws1.map tV from by rw [List.map_cons, List.drop_succ_cons, List.drop_zero, List.take_of_length_le (by simp)]]
   refine y_A rfl (fun _ => rfl) ?_
   intro g8
   refine E3 rfl rfl rfl rfl (E8 rfl (L1 (by decide) (E8 rfl I0))) (fun _ => rfl) ⟨by decide, rfl, dT rfl, Nat.le_refl _⟩ (fun _ => rfl) (fun _ => rfl) (fun _ => (by rfl)) ?_
   intro z
   simp only [H7, List.cons_append, List.nil_append]
   refine y_S rfl ?_
   refine J6 ⟨fun _ => ⟨by (simp only [Z6, List.nil_append, List.append_nil, List.map_cons, List.map_nil, List.cons_append]; decide +kernel), by decide +kernel⟩, [(.t 2, _), (.t 5, _), (.t 8, _), (.t 9, _), (.h 2, _), (.h 8, _), (.h 6, _)], ⟨rfl, rfl, rfl, rfl, rfl, rfl, rfl, rfl, rfl, rfl, rfl, rfl, rfl, rfl, trivial⟩, ?_⟩
   refine A3 <| A3 <| A0 <| y_M rfl ?_
   refine xC1 rfl rfl (a7w (bA w)) ⟨rfl, rfl, rfl⟩ rfl rfl fun g34 => ?_
   rw [show nd (bA w) = 0 from (S3 (by omega)).trans hn]
   refine y_M rfl <| xN [2,8,9,34,35] [2,8,6] rfl <| A9 <| F8 <| A3 <| A0 <| G1 rfl rfl <| xN [2,8,9,34,35,36] [2,8,6] rfl <| A3 ?_
   refine A5 rfl (fun hc => absurd hc (by decide)) (fun hc => ?_)
   refine E6 <| A3 <| A0 <| y_B rfl <| y_M rfl <| E3 rfl rfl rfl rfl (E8 rfl (L1 (by decide) (E8 rfl I0))) (fun _ => rfl) ⟨by decide, rfl, dT rfl, Nat.le_refl _⟩ (fun _ => rfl) (fun _ => rfl) (fun _ => (by rfl)) ?_
   intro z
   simp only [H7, List.cons_append, List.nil_append]
   refine y_S rfl <| y_S rfl <| xN [2,3,4] [2,6] rfl <| A8 <| B5 (C8 rfl rfl rfl rfl (C1 rfl (c1l rfl rfl rfl (G6 rfl F5))) (C7 rfl rfl (C7 rfl rfl (C3 B2)))) ?_
   rw [d0c hnn hn]
   rfl
  ·skip
   apply xC rfl
   ·apply B4
    ·exact B9 rfl
    exact D8
   ·exact (show CW (cxT oG) 63 [tV w] = some (.tup [tV w, .own 1 [], bV true], []) from by have hi := a0v (oG := oG) w (by omega); rw [hnn] at hi; rw [show decide (0 ≤ rch (bA w)) = true from decide_eq_true (by omega)] at hi; exact hi)
   refine ⟨⟨rfl, rfl, rfl, dT rfl, rfl⟩, .inr ⟨rfl, rfl⟩, B7, H1 (H9 rfl (M1 fun _ => H9 rfl M0)), fun _ => C0 (B1 rfl) (by rfl), fun g21 => ?_⟩
   try simp only [List.length_map]
   refine y_M rfl <| y_E rfl <| y_E rfl <| y_E rfl <| y_S rfl ?_
   (refine H5 rfl rfl (by (simp; done)) rfl (fun _ => (B1 (by rfl))) (fun _ => rfl) ?_; intro g6)
   refine y_S rfl <| xN [0,2,5,6,7] [2,6] rfl <| A3 <| A3 <| A0 <| y_M rfl <| I8 rfl <| xN [0,2,5,6,26] [2,6] rfl ?_
   refine A5 rfl (fun hc => absurd hc (by decide)) (fun hc => ?_)
   refine A7 <| A3 <| A0 <| y_M rfl <| y_M rfl <| H0 (fs := [_, _, _]) rfl rfl rfl rfl rfl <| y_M rfl <| N5 rfl rfl rfl (Mv.sized_map fun _ => rfl) K7 (G9 (n := 1) rfl) (by simp) ?_
   rw [show ((List.map tV (w :: ws1)).drop 1).take ((List.map tV (w :: ws1)).length - 1) = ws1.map tV from by rw [List.map_cons, List.drop_succ_cons, List.drop_zero, List.take_of_length_le (by simp)]]
   refine y_A rfl (fun _ => rfl) ?_
   intro g8
   refine E3 rfl rfl rfl rfl (E8 rfl (L1 (by decide) (E8 rfl I0))) (fun _ => rfl) ⟨by decide, rfl, dT rfl, Nat.le_refl _⟩ (fun _ => rfl) (fun _ => rfl) (fun _ => (by rfl)) ?_
   intro z
   simp only [H7, List.cons_append, List.nil_append]
   refine y_S rfl ?_
   refine J6 ⟨fun _ => ⟨by (simp only [Z6, List.nil_append, List.append_nil, List.map_cons, List.map_nil, List.cons_append]; decide +kernel), by decide +kernel⟩, [(.t 2, _), (.t 5, _), (.t 8, _), (.t 9, _), (.h 2, _), (.h 8, _), (.h 6, _)], ⟨rfl, rfl, rfl, rfl, rfl, rfl, rfl, rfl, rfl, rfl, rfl, rfl, rfl, rfl, trivial⟩, ?_⟩
   refine A3 <| A3 <| A0 <| y_M rfl ?_
   refine xC1 rfl rfl (a7w (bA w)) ⟨rfl, rfl, rfl⟩ rfl rfl fun g34 => ?_
   rw [show nd (bA w) = 1 from (S3 (by omega)).trans hn]
   refine y_M rfl <| xN [2,8,9,34,35] [2,8,6] rfl <| A9 <| F8 <| A3 <| A0 <| G1 rfl rfl <| xN [2,8,9,34,35,36] [2,8,6] rfl <| A3 ?_
   refine A5 rfl (fun hc => ?_) (fun hc => absurd hc (by decide))
   refine A7 <| A3 <| A9 <| A3 <| A0 <| y_M rfl ?_
   rcases hr1 : rdT ws1 with _ | ⟨k1, r1⟩
   ·skip
    apply xC rfl
    ·apply B4
     ·exact B9 rfl
     exact D8
    ·exact (by have hi := ih ws1 ⟨by simp only [List.length_cons] at hws; omega, fun x hx => hws.2 x (List.mem_cons_of_mem _ hx)⟩ (by simp only [List.length_cons] at hkk; omega); rw [hr1] at hi; exact hi)
    refine ⟨⟨rfl, rfl, rfl, dT rfl, rfl⟩, .inl rfl, B7, H1 (H9 rfl (M1 fun _ => H9 rfl M0)), fun _ => C0 (B1 rfl) (by rfl), fun g39 => ?_⟩
    refine y_M rfl <| y_E rfl <| y_E rfl <| y_E rfl <| y_A rfl (fun _ => rfl) ?_
    intro g10
    refine xB rfl rfl rfl rfl rfl rfl rfl rfl rfl ?_
    (refine H5 rfl rfl (by (simp; done)) rfl (fun _ => (B1 (by rfl))) (fun _ => rfl) ?_; intro g11)
    refine y_S rfl <| xN [2,8,10,11,12,34,35] [2,8,6,10] rfl <| A3 <| A3 <| A0 <| y_M rfl <| I8 rfl <| xN [2,8,10,11,34,35,44] [2,8,6,10] rfl ?_
    refine A5 rfl (fun hc => ?_) (fun hc => absurd hc (by decide))
    refine A3 <| A0 <| H0 (fs := [_, _, _]) rfl rfl rfl rfl rfl <| xB rfl rfl rfl rfl rfl rfl rfl rfl rfl ?_
    (refine B0 rfl rfl (fun _ => rfl) ?_; intro g3)
    refine y_S rfl <| xN [2,3,4] [2,3] rfl <| A8 <| B5 (C8 rfl rfl rfl rfl (C1 rfl (G6 rfl (G6 rfl F5))) (G2 rfl rfl (by simp) (by rfl) (C7 rfl rfl (C3 B2)))) ?_
    rw [b9j hnn hn, hr1]
    rfl
   skip
   apply xC rfl
   ·apply B4
    ·exact B9 rfl
    exact D8
   ·exact (by have hi := ih ws1 ⟨by simp only [List.length_cons] at hws; omega, fun x hx => hws.2 x (List.mem_cons_of_mem _ hx)⟩ (by simp only [List.length_cons] at hkk; omega); rw [hr1] at hi; exact hi)
   refine ⟨⟨rfl, rfl, rfl, dT rfl, rfl⟩, .inl rfl, B7, K2 rfl, fun _ => rfl, fun g39 => ?_⟩
   refine y_M rfl <| y_E rfl <| y_E rfl <| y_E rfl <| y_A rfl (fun _ => rfl) ?_
   intro g10
   refine xB rfl rfl rfl rfl rfl rfl rfl rfl rfl <| y_S rfl <| y_S rfl <| xN [2,8,10,11,12,34,35] [2,8,6,10] rfl <| A3 <| A3 <| A0 <| y_M rfl <| I8 rfl <| xN [2,8,10,11,34,35,44] [2,8,6,10] rfl ?_
   refine A5 rfl (fun hc => absurd hc (by decide)) (fun hc => ?_)
   refine A7 <| A3 <| A0 <| y_F rfl <| y_L rfl <| y_B rfl <| B6 (es := List.map trV [_]) rfl rfl (dT rfl) rfl rfl (fun _ => B1 (A6 fun _ => rfl)) (fun _ => rfl) ?_
   intro g49
   refine P6 rfl rfl rfl (by simp) (by decide) rfl rfl rfl (dT rfl) (fun _ => ⟨rfl, rfl⟩) (by simp only [H4]; (simp only [List.length_nil, List.length_cons, List.length_append, Nat.zero_add, List.length_map]; omega)) (fun _ => rfl) ?_
   intro g50
   refine y_F rfl <| L4 rfl rfl rfl rfl rfl (Nat.le_refl _) rfl <| xN [2,8,11,34,35] [2,8,6,1000050] rfl <| A0 <| y_M rfl <| y_S rfl <| xN [2,8,9,34,35] [2,8,6,1000050] rfl <| A0 <| F3 rfl rfl (D4 (by omega)) <| y_M rfl <| xN [2,8,9,34,35] [2,8,6,1000050] rfl <| F8 <| A3 <| A0 <| G1 rfl rfl <| xN [2,8,9,34,35,36] [2,8,6,1000050] rfl <| A3 ?_
   refine A5 rfl (fun hc => absurd hc (by decide)) (fun hc => ?_)
   refine E6 <| A3 <| A0 <| y_B rfl <| y_M rfl <| E3 rfl rfl rfl rfl (E8 rfl (L1 (by decide) (V6 (by decide) (by decide) rfl (by simp) fun _ => I0))) (fun _ => rfl) ⟨by decide, rfl, dT rfl, Nat.le_refl _⟩ (fun _ => rfl) (fun _ => rfl) (fun _ => C0 (by rfl) (C0 (B1 (A6 fun _ => rfl)) (by rfl))) ?_
   intro z
   simp only [H7, List.cons_append, List.nil_append]
   refine y_S rfl <| y_S rfl <| xN [2,3,4] [2,6,300002] rfl <| A8 <| B5 (C8 rfl rfl rfl rfl (C1 rfl (c1l rfl rfl rfl (I9 rfl rfl (by simp) (fun _ => rfl) F5))) (C7 rfl rfl (C7 rfl rfl (C3 B2)))) ?_
   rw [b9j hnn hn, hr1]
   rfl
  ·skip
   apply xC rfl
   ·apply B4
    ·exact B9 rfl
    exact D8
   ·exact (show CW (cxT oG) 63 [tV w] = some (.tup [tV w, .own 1 [], bV true], []) from by have hi := a0v (oG := oG) w (by omega); rw [hnn] at hi; rw [show decide (0 ≤ rch (bA w)) = true from decide_eq_true (by omega)] at hi; exact hi)
   refine ⟨⟨rfl, rfl, rfl, dT rfl, rfl⟩, .inr ⟨rfl, rfl⟩, B7, H1 (H9 rfl (M1 fun _ => H9 rfl M0)), fun _ => C0 (B1 rfl) (by rfl), fun g21 => ?_⟩
   try simp only [List.length_map]
   refine y_M rfl <| y_E rfl <| y_E rfl <| y_E rfl <| y_S rfl ?_
   (refine H5 rfl rfl (by (simp; done)) rfl (fun _ => (B1 (by rfl))) (fun _ => rfl) ?_; intro g6)
   refine y_S rfl <| xN [0,2,5,6,7] [2,6] rfl <| A3 <| A3 <| A0 <| y_M rfl <| I8 rfl <| xN [0,2,5,6,26] [2,6] rfl ?_
   refine A5 rfl (fun hc => absurd hc (by decide)) (fun hc => ?_)
   refine A7 <| A3 <| A0 <| y_M rfl <| y_M rfl <| H0 (fs := [_, _, _]) rfl rfl rfl rfl rfl <| y_M rfl <| N5 rfl rfl rfl (Mv.sized_map fun _ => rfl) K7 (G9 (n := 1) rfl) (by simp) ?_
   rw [show ((List.map tV (w :: ws1)).drop 1).take ((List.map tV (w :: ws1)).length - 1) = ws1.map tV from by rw [List.map_cons, List.drop_succ_cons, List.drop_zero, List.take_of_length_le (by simp)]]
   refine y_A rfl (fun _ => rfl) ?_
   intro g8
   refine E3 rfl rfl rfl rfl (E8 rfl (L1 (by decide) (E8 rfl I0))) (fun _ => rfl) ⟨by decide, rfl, dT rfl, Nat.le_refl _⟩ (fun _ => rfl) (fun _ => rfl) (fun _ => (by rfl)) ?_
   intro z
   simp only [H7, List.cons_append, List.nil_append]
   refine y_S rfl ?_
   refine J6 ⟨fun _ => ⟨by (simp only [Z6, List.nil_append, List.append_nil, List.map_cons, List.map_nil, List.cons_append]; decide +kernel), by decide +kernel⟩, [(.t 2, _), (.t 5, _), (.t 8, _), (.t 9, _), (.h 2, _), (.h 8, _), (.h 6, _)], ⟨rfl, rfl, rfl, rfl, rfl, rfl, rfl, rfl, rfl, rfl, rfl, rfl, rfl, rfl, trivial⟩, ?_⟩
   refine A3 <| A3 <| A0 <| y_M rfl ?_
   refine xC1 rfl rfl (a7w (bA w)) ⟨rfl, rfl, rfl⟩ rfl rfl fun g34 => ?_
   rw [show nd (bA w) = 2 from (S3 (by omega)).trans hn]
   refine y_M rfl <| xN [2,8,9,34,35] [2,8,6] rfl <| A9 <| F8 <| A3 <| A0 <| G1 rfl rfl <| xN [2,8,9,34,35,36] [2,8,6] rfl <| A3 ?_
   refine A5 rfl (fun hc => ?_) (fun hc => absurd hc (by decide))
   refine A7 <| A3 <| A9 <| A3 <| A0 <| y_M rfl ?_
   rcases hr1 : rdT ws1 with _ | ⟨k1, r1⟩
   ·skip
    apply xC rfl
    ·apply B4
     ·exact B9 rfl
     exact D8
    ·exact (by have hi := ih ws1 ⟨by simp only [List.length_cons] at hws; omega, fun x hx => hws.2 x (List.mem_cons_of_mem _ hx)⟩ (by simp only [List.length_cons] at hkk; omega); rw [hr1] at hi; exact hi)
    refine ⟨⟨rfl, rfl, rfl, dT rfl, rfl⟩, .inl rfl, B7, H1 (H9 rfl (M1 fun _ => H9 rfl M0)), fun _ => C0 (B1 rfl) (by rfl), fun g39 => ?_⟩
    refine y_M rfl <| y_E rfl <| y_E rfl <| y_E rfl <| y_A rfl (fun _ => rfl) ?_
    intro g10
    refine xB rfl rfl rfl rfl rfl rfl rfl rfl rfl ?_
    (refine H5 rfl rfl (by (simp; done)) rfl (fun _ => (B1 (by rfl))) (fun _ => rfl) ?_; intro g11)
    refine y_S rfl <| xN [2,8,10,11,12,34,35] [2,8,6,10] rfl <| A3 <| A3 <| A0 <| y_M rfl <| I8 rfl <| xN [2,8,10,11,34,35,44] [2,8,6,10] rfl ?_
    refine A5 rfl (fun hc => ?_) (fun hc => absurd hc (by decide))
    refine A3 <| A0 <| H0 (fs := [_, _, _]) rfl rfl rfl rfl rfl <| xB rfl rfl rfl rfl rfl rfl rfl rfl rfl ?_
    (refine B0 rfl rfl (fun _ => rfl) ?_; intro g3)
    refine y_S rfl <| xN [2,3,4] [2,3] rfl <| A8 <| B5 (C8 rfl rfl rfl rfl (C1 rfl (G6 rfl (G6 rfl F5))) (G2 rfl rfl (by simp) (by rfl) (C7 rfl rfl (C3 B2)))) ?_
    rw [a5y hnn hn, hr1]
    rfl
   skip
   apply xC rfl
   ·apply B4
    ·exact B9 rfl
    exact D8
   ·exact (by have hi := ih ws1 ⟨by simp only [List.length_cons] at hws; omega, fun x hx => hws.2 x (List.mem_cons_of_mem _ hx)⟩ (by simp only [List.length_cons] at hkk; omega); rw [hr1] at hi; exact hi)
   refine ⟨⟨rfl, rfl, rfl, dT rfl, rfl⟩, .inl rfl, B7, K2 rfl, fun _ => rfl, fun g39 => ?_⟩
   refine y_M rfl <| y_E rfl <| y_E rfl <| y_E rfl <| y_A rfl (fun _ => rfl) ?_
   intro g10
   refine xB rfl rfl rfl rfl rfl rfl rfl rfl rfl <| y_S rfl <| y_S rfl <| xN [2,8,10,11,12,34,35] [2,8,6,10] rfl <| A3 <| A3 <| A0 <| y_M rfl <| I8 rfl <| xN [2,8,10,11,34,35,44] [2,8,6,10] rfl ?_
   refine A5 rfl (fun hc => absurd hc (by decide)) (fun hc => ?_)
   refine A7 <| A3 <| A0 <| y_F rfl <| y_L rfl <| y_B rfl <| B6 (es := List.map trV [_]) rfl rfl (dT rfl) rfl rfl (fun _ => B1 (A6 fun _ => rfl)) (fun _ => rfl) ?_
   intro g49
   refine P6 rfl rfl rfl (by simp) (by decide) rfl rfl rfl (dT rfl) (fun _ => ⟨rfl, rfl⟩) (by simp only [H4]; (simp only [List.length_nil, List.length_cons, List.length_append, Nat.zero_add, List.length_map]; omega)) (fun _ => rfl) ?_
   intro g50
   refine y_F rfl <| L4 rfl rfl rfl rfl rfl (Nat.le_refl _) rfl <| xN [2,8,11,34,35] [2,8,6,1000050] rfl <| A0 <| y_M rfl <| y_S rfl <| xN [2,8,9,34,35] [2,8,6,1000050] rfl <| A0 <| F3 rfl rfl (D4 (by omega)) <| y_M rfl <| xN [2,8,9,34,35] [2,8,6,1000050] rfl <| F8 <| A3 <| A0 <| G1 rfl rfl <| xN [2,8,9,34,35,36] [2,8,6,1000050] rfl <| A3 ?_
   refine A5 rfl (fun hc => ?_) (fun hc => absurd hc (by decide))
   refine A7 <| A3 <| A9 <| A3 <| A0 <| y_M rfl ?_
   rcases hr2 : rdT r1 with _ | ⟨k2, r2⟩
   ·skip
    apply xC rfl
    ·apply B4
     ·exact B9 rfl
     exact D8
    ·exact (by have hi := ih r1 ⟨by have := Z3 hr1; simp only [List.length_cons] at hws; omega, fun x hx => hws.2 x (List.mem_cons_of_mem _ (b2g hr1 x hx))⟩ (by have := Z3 hr1; simp only [List.length_cons] at hkk; omega); rw [hr2] at hi; exact hi)
    refine ⟨⟨rfl, rfl, rfl, dT rfl, rfl⟩, .inl rfl, B7, H1 (H9 rfl (M1 fun _ => H9 rfl M0)), fun _ => C0 (B1 rfl) (by rfl), fun g39 => ?_⟩
    refine y_M rfl <| y_E rfl <| y_E rfl <| y_E rfl <| y_A rfl (fun _ => rfl) ?_
    intro g10
    refine xB rfl rfl rfl rfl rfl rfl rfl rfl rfl ?_
    (refine H5 rfl rfl (by (simp; done)) rfl (fun _ => (B1 (by rfl))) (fun _ => rfl) ?_; intro g11)
    refine y_S rfl <| xN [2,8,10,11,12,34,35] [2,8,6,1000050,10] rfl <| A3 <| A3 <| A0 <| y_M rfl <| I8 rfl <| xN [2,8,10,11,34,35,44] [2,8,6,1000050,10] rfl ?_
    refine A5 rfl (fun hc => ?_) (fun hc => absurd hc (by decide))
    refine A3 <| A0 <| H0 (fs := [_, _, _]) rfl rfl rfl rfl rfl <| xB rfl rfl rfl rfl rfl rfl rfl rfl rfl ?_
    (refine B0 rfl rfl (fun _ => rfl) ?_; intro g3)
    refine y_S rfl <| xN [2,3,4] [2,3] rfl <| A8 <| B5 (C8 rfl rfl rfl rfl (C1 rfl (G6 rfl (G6 rfl F5))) (G2 rfl rfl (by simp) (by rfl) (C7 rfl rfl (C3 B2)))) ?_
    rw [a5y hnn hn, hr1, Option.bind_some, hr2]
    rfl
   skip
   apply xC rfl
   ·apply B4
    ·exact B9 rfl
    exact D8
   ·exact (by have hi := ih r1 ⟨by have := Z3 hr1; simp only [List.length_cons] at hws; omega, fun x hx => hws.2 x (List.mem_cons_of_mem _ (b2g hr1 x hx))⟩ (by have := Z3 hr1; simp only [List.length_cons] at hkk; omega); rw [hr2] at hi; exact hi)
   refine ⟨⟨rfl, rfl, rfl, dT rfl, rfl⟩, .inl rfl, B7, K2 rfl, fun _ => rfl, fun g39 => ?_⟩
   refine y_M rfl <| y_E rfl <| y_E rfl <| y_E rfl <| y_A rfl (fun _ => rfl) ?_
   intro g10
   refine xB rfl rfl rfl rfl rfl rfl rfl rfl rfl <| y_S rfl <| y_S rfl <| xN [2,8,10,11,12,34,35] [2,8,6,1000050,10] rfl <| A3 <| A3 <| A0 <| y_M rfl <| I8 rfl <| xN [2,8,10,11,34,35,44] [2,8,6,1000050,10] rfl ?_
   refine A5 rfl (fun hc => absurd hc (by decide)) (fun hc => ?_)
   refine A7 <| A3 <| A0 <| y_F rfl <| y_L rfl <| y_B rfl <| B6 (es := List.map trV [_]) rfl rfl (dT rfl) rfl rfl (fun _ => B1 (A6 fun _ => rfl)) (fun _ => rfl) ?_
   intro g49
   refine xA rfl rfl rfl rfl (by simp) (by simp) rfl rfl rfl rfl rfl (fun _ => rfl) (by simp only [LN]; omega) (fun _ => rfl) ?_
   intro g50
   refine y_F rfl <| L4 rfl rfl rfl rfl rfl (Nat.le_refl _) rfl <| xN [2,8,11,34,35] [2,8,6,1000050] rfl <| A0 <| y_M rfl <| y_S rfl <| xN [2,8,9,34,35] [2,8,6,1000050] rfl <| A0 <| F3 rfl rfl (D4 (by omega)) <| y_M rfl <| xN [2,8,9,34,35] [2,8,6,1000050] rfl <| F8 <| A3 <| A0 <| G1 rfl rfl <| xN [2,8,9,34,35,36] [2,8,6,1000050] rfl <| A3 ?_
   refine A5 rfl (fun hc => absurd hc (by decide)) (fun hc => ?_)
   refine E6 <| A3 <| A0 <| y_B rfl <| y_M rfl <| E3 rfl rfl rfl rfl (E8 rfl (L1 (by decide) (V6 (by decide) (by decide) rfl (by simp) fun _ => I0))) (fun _ => rfl) ⟨by decide, rfl, dT rfl, Nat.le_refl _⟩ (fun _ => rfl) (fun _ => rfl) (fun _ => C0 (by rfl) (C0 (B1 (A6 fun _ => rfl)) (by rfl))) ?_
   intro z
   simp only [H7, List.cons_append, List.nil_append]
   refine y_S rfl <| y_S rfl <| xN [2,3,4] [2,6,300002] rfl <| A8 <| B5 (C8 rfl rfl rfl rfl (C1 rfl (c1l rfl rfl rfl (I9 rfl rfl (by simp) (fun _ => rfl) F5))) (C7 rfl rfl (C7 rfl rfl (C3 B2)))) ?_
   rw [a5y hnn hn, hr1, Option.bind_some, hr2]
   rfl
  skip
  apply xC rfl
  ·apply B4
   ·exact B9 rfl
   exact D8
  ·exact (show CW (cxT oG) 63 [tV w] = some (.tup [tV w, .own 1 [], bV false], []) from by have hi := a0v (oG := oG) w (by omega); rw [hnn] at hi; rw [show decide (0 ≤ rch (bA w)) = false from decide_eq_false (by omega)] at hi; exact hi)
  refine ⟨⟨rfl, rfl, rfl, dT rfl, rfl⟩, .inr ⟨rfl, rfl⟩, B7, H1 (H9 rfl (M1 fun _ => H9 rfl M0)), fun _ => C0 (B1 rfl) (by rfl), fun g21 => ?_⟩
  try simp only [List.length_map]
  refine y_M rfl <| y_E rfl <| y_E rfl <| y_E rfl <| y_S rfl ?_
  (refine H5 rfl rfl (by (simp; done)) rfl (fun _ => (B1 (by rfl))) (fun _ => rfl) ?_; intro g6)
  refine y_S rfl <| xN [0,2,5,6,7] [2,6] rfl <| A3 <| A3 <| A0 <| y_M rfl <| I8 rfl <| xN [0,2,5,6,26] [2,6] rfl ?_
  refine A5 rfl (fun hc => ?_) (fun hc => absurd hc (by decide))
  refine A3 <| A0 <| H0 (fs := [_, _, _]) rfl rfl rfl rfl rfl <| xB rfl rfl rfl rfl rfl rfl rfl rfl rfl ?_
  (refine B0 rfl rfl (fun _ => rfl) ?_; intro g3)
  refine y_S rfl <| xN [2,3,4] [2,3] rfl <| A8 <| B5 (C8 rfl rfl rfl rfl (C1 rfl (G6 rfl (G6 rfl F5))) (G2 rfl rfl (by simp) (by rfl) (C7 rfl rfl (C3 B2)))) ?_
  rw [c8p hnn hn]
  rfl

theorem a9n : F4 Tryz.f97 = [0, 2, 3, 4, 6, 7, 5, 12] := by kernel_rfl
theorem b0m (s : List UInt8) (hs : s.length ≤ 1048576) : CW (cxT oG) 97 [tV s] = some (.tup [trV (ipT s), bV (c5o s)], []) := by
 obtain ⟨ws, hws⟩ : ∃ ws, ws = splitB 32 s := ⟨_, rfl⟩
 have hwl := U1 32 s
 have hwp := V3 32 s
 rw [← hws] at hwl hwp
 refine E4 rfl Tryz.func97 rfl ⟨by kernel_rfl, rfl, dT rfl, dT rfl, by decide⟩ a9n <| A3 <| A0 <| y_A rfl (fun _ => rfl) ?_
 intro g2
 refine y_S rfl <| xN [0,2] [2] rfl <| A3 <| A0 <| y_M rfl ?_
 apply xC rfl
 ·apply B4
  ·exact B9 rfl
  apply B4
  ·exact B9 rfl
  exact D8
 ·exact b9y s 32 (by omega)
 refine ⟨⟨rfl, rfl, rfl, dT rfl, rfl⟩, .inl rfl, B7, J1, fun _ => rfl, fun g9 => ?_⟩
 rw [← hws]
 try simp only [List.length_map]
 (refine xO rfl rfl (by simp) rfl (fun _ => rfl) (fun _ => rfl) ?_; intro g4)
 refine xN [2,4] [2,4] rfl <| A3 <| A0 <| y_M rfl ?_
 rcases hr : rdT ws with _ | ⟨t, r⟩
 ·skip
  apply xC rfl
  ·apply B4
   ·exact a1e rfl rfl (by (simp; done)) (fun _ => rfl)
   exact D8
  ·exact (by have hi := b0j (oG := oG) ws ⟨by omega, fun w hw => by have := hwp w hw; omega⟩; rw [hr] at hi; exact hi)
  refine ⟨⟨rfl, rfl, rfl, dT rfl, rfl⟩, .inl rfl, B7, H1 (H9 rfl (M1 fun _ => H9 rfl M0)), fun _ => C0 (a0m (A6 fun _ => rfl) (by decide)) (by rfl), fun g12 => ?_⟩
  refine y_M rfl <| y_E rfl <| y_E rfl <| y_E rfl <| y_A rfl (fun _ => rfl) ?_
  intro g5
  refine xB rfl rfl rfl rfl rfl rfl rfl rfl rfl ?_
  (refine H5 rfl rfl (by (simp; done)) rfl (fun _ => (B1 (by rfl))) (fun _ => rfl) ?_; intro g6)
  refine y_S rfl <| xN [2,4,5,6,7] [2,4,5] rfl <| A3 <| A0 <| y_B rfl <| y_M rfl <| y_M rfl <| J5 rfl rfl rfl <| J5 rfl rfl rfl <| J5 rfl rfl rfl <| F7 rfl rfl rfl rfl <| y_M rfl <| J5 rfl rfl rfl <| J5 rfl rfl rfl <| J5 rfl rfl rfl <| F7 rfl rfl rfl rfl <| xB rfl rfl rfl rfl rfl rfl rfl rfl rfl <| y_S rfl <| xN [2,3] [2] rfl <| A8 <| B5 (C8 rfl rfl rfl rfl (C1 rfl (C1 rfl (C1 rfl F5))) (C7 rfl rfl (C3 B2))) ?_
  obtain ⟨h1, h2⟩ := d7j hws hr
  rw [h1, h2]
  rfl
 skip
 apply xC rfl
 ·apply B4
  ·exact a1e rfl rfl (by (simp; done)) (fun _ => rfl)
  exact D8
 ·exact (by have hi := b0j (oG := oG) ws ⟨by omega, fun w hw => by have := hwp w hw; omega⟩; rw [hr] at hi; exact hi)
 refine ⟨⟨rfl, rfl, rfl, dT rfl, rfl⟩, .inl rfl, B7, K2 rfl, fun _ => C0 (a0m (A6 fun _ => rfl) (by decide)) (by rfl), fun g12 => ?_⟩
 refine y_M rfl <| y_E rfl <| y_E rfl <| y_E rfl <| y_A rfl (fun _ => rfl) ?_
 intro g5
 refine xB rfl rfl rfl rfl rfl rfl rfl rfl rfl <| y_S rfl <| y_S rfl <| xN [2,4,5,6,7] [2,4,5] rfl <| A3 <| A0 <| y_B rfl <| y_M rfl <| y_M rfl <| G7 rfl rfl rfl <| y_M rfl <| G7 rfl rfl rfl <| C2 rfl rfl <| G7 rfl rfl rfl <| S7 rfl rfl <| E9 rfl rfl rfl rfl <| y_M rfl ?_
 refine C5 rfl rfl ?_ ?_ <;> intro hg0 <;> have hg := hg0 <;> try simp only [SG] at hg
 ·refine y_M rfl <| gT rfl rfl <| I5 rfl rfl <| gT rfl rfl <| a8f rfl rfl <| E9 rfl (by assumption) rfl rfl <| xB rfl rfl rfl rfl rfl rfl rfl rfl rfl <| y_S rfl <| xN [2,3] [2] rfl <| A8 <| B5 (C8 rfl rfl rfl rfl (C1 rfl (C1 rfl (C1 rfl F5))) (C7 rfl rfl (C3 B2))) ?_
  obtain ⟨h1, h2⟩ := b9e hws hr
  rw [h1, h2]
  simp_all
  try rfl
 refine gF rfl rfl <| gF rfl rfl <| F7 rfl (by assumption) rfl rfl <| xB rfl rfl rfl rfl rfl rfl rfl rfl rfl <| y_S rfl <| xN [2,3] [2] rfl <| A8 <| B5 (C8 rfl rfl rfl rfl (C1 rfl (C1 rfl (C1 rfl F5))) (C7 rfl rfl (C3 B2))) ?_
 obtain ⟨h1, h2⟩ := b9e hws hr
 rw [h1, h2]
 simp_all
 try rfl

theorem a9k : F4 Tryz.f57 = [0, 2, 3, 5, 4, 8] := by kernel_rfl
theorem c3r (s : List UInt8) (hs : s.length ≤ 1048576) : CW (cxT oG) 57 [tV s] = some (.tup [trV (ipT s), bV (rdPlan s).isSome], []) := by
 have hip := d9y s
 refine E4 rfl Tryz.func57 rfl ⟨by kernel_rfl, rfl, dT rfl, dT rfl, by decide⟩ a9k <| A3 <| A0 <| y_A rfl (fun _ => rfl) ?_
 intro g2
 refine y_S rfl <| xN [0,2] [2] rfl <| A3 <| A0 <| y_M rfl ?_
 apply xC rfl
 ·apply B4
  ·exact B9 rfl
  exact D8
 ·exact b0m s hs
 refine ⟨⟨rfl, rfl, rfl, dT rfl, rfl⟩, .inl rfl, B7, K2 rfl, fun _ => rfl, fun g8 => ?_⟩
 refine y_M rfl <| y_E rfl <| y_E rfl <| y_A rfl (fun _ => rfl) ?_
 intro g4
 refine xB rfl rfl rfl rfl rfl rfl rfl rfl rfl <| y_S rfl <| xN [0,2,4,5] [2,4] rfl <| A3 <| A0 <| y_B rfl <| y_M rfl <| y_M rfl ?_
 refine C5 rfl rfl ?_ ?_ <;> intro hg0 <;> have hg := hg0 <;> try simp only [SG] at hg
 ·refine y_M rfl <| gT rfl rfl <| a4e rfl rfl <| gT rfl rfl <| a8f rfl rfl <| E9 rfl (by assumption) rfl rfl <| xB rfl rfl rfl rfl rfl rfl rfl rfl rfl <| y_S rfl <| xN [2,3] [2] rfl <| A8 <| B5 (C8 rfl rfl rfl rfl (C1 rfl (C1 rfl (C1 rfl F5))) (C7 rfl rfl (C3 B2))) ?_
  rw [← hip]
  simp_all
  try rfl
 refine gF rfl rfl <| gF rfl rfl <| F7 rfl (by assumption) rfl rfl <| xB rfl rfl rfl rfl rfl rfl rfl rfl rfl <| y_S rfl <| xN [2,3] [2] rfl <| A8 <| B5 (C8 rfl rfl rfl rfl (C1 rfl (C1 rfl (C1 rfl F5))) (C7 rfl rfl (C3 B2))) ?_
 rw [← hip]
 simp_all
 try rfl

theorem a8e : F4 Tryz.f72 = [0, 2, 4, 7] := by kernel_rfl
theorem c1b (s : List UInt8) (hs : s.length ≤ 1048576) : CW (cxT oG) 72 [tV s] = some (bV (rdPlan s).isSome, []) := by
 refine E4 rfl Tryz.func72 rfl ⟨by kernel_rfl, rfl, dT rfl, dT rfl, by decide⟩ a8e <| A3 <| A0 <| y_S rfl <| xN [0] [] rfl <| A3 <| A0 <| y_M rfl ?_
 apply xC rfl
 ·apply B4
  ·exact B9 rfl
  exact D8
 ·exact c3r s hs
 refine ⟨⟨rfl, rfl, rfl, dT rfl, rfl⟩, .inl rfl, B7, K2 rfl, fun _ => rfl, fun g7 => ?_⟩
 refine y_M rfl <| y_E rfl <| y_E rfl <| y_A rfl (fun _ => rfl) ?_
 intro g3
 refine xB rfl rfl rfl rfl rfl rfl rfl rfl rfl <| y_S rfl <| xN [4] [] rfl <| A3 <| A0 <| y_M rfl <| y_S rfl <| xN [2] [] rfl <| A8 <| C6 rfl rfl trivial ?_
 rfl

theorem c0c : F4 Tryz.f67 = [0, 2] := by kernel_rfl
theorem d7d (xs : List W8) (hx : xs.length ≤ H4) : CW (cxT oG) 67 [.own 1 (xs.map tV)] = some (.own 1 (xs.map tV), []) := by
 refine E4 rfl Tryz.func67 rfl ⟨by kernel_rfl, rfl, dT rfl, dT rfl, by decide⟩ c0c <| A3 <| A0 ?_
 (refine B0 rfl rfl (fun _ => rfl) ?_; intro g2)
 refine xN [0] [0] rfl <| A3 <| A0 <| y_M rfl <| y_M rfl <| I5 rfl rfl <| y_M rfl <| I5 rfl rfl ?_
 refine d5r rfl rfl rfl rfl rfl rfl (fun hz => ?_) (fun hz => ?_)
 ·skip
  (refine B0 rfl rfl (fun _ => rfl) ?_; intro g2)
  refine xN [2] [0,2] rfl <| A8 <| M2 rfl rfl (by (simp; done)) (by rfl) trivial ?_
  (have h0 : xs = [] := (by simpa using hz); subst h0; rfl)
 skip
 (refine xO rfl rfl (by simp) rfl (fun _ => rfl) (fun _ => rfl) ?_; intro g2)
 refine xN [2] [0,2] rfl <| A8 <| M2 rfl rfl (by (simp; done)) (by exact A6 fun _ => rfl) trivial ?_
 rfl

theorem b1m : F4 Tryz.f80 = [0, 2, 1, 7, 4, 19, 3] := by kernel_rfl
theorem a6z (t : Pl) (hln : (showP t).length ≤ 1048576) (hgd : t.good) : CW (cxT oG) 80 [trK t] = some (tV (showP t), []) := by
 obtain ⟨kk, hkk⟩ : ∃ kk : Nat, t.sz < kk := ⟨_, Nat.lt_succ_self _⟩
 revert t
 induction kk with
 | zero => intro t hln hgd hkk; exact absurd hkk (Nat.not_lt_zero _)
 | succ kk ih =>
  intro t hln hgd hkk
  have hkl := a8b t
  have hkz := fun i => c1d (t := t) (i := i)
  have hkg := fun i => a4z hgd (i := i)
  have hst := fun i h => b3a (t := t) h (i := i)
  have hall := fun h => a9x (t := t) h
  refine E4 rfl Tryz.func80 rfl ⟨by kernel_rfl, rfl, dT rfl, dT rfl, by decide⟩ b1m <| A3 <| A0 <| a1d rfl rfl rfl (fun _ => M4 rfl) (fun _ => rfl) ?_
  intro g1
  refine y_S rfl <| xN [1] [1] rfl <| A3 <| A3 <| A0 <| y_F rfl <| y_L rfl <| P4 rfl rfl <| xN [1,7] [1] rfl ?_
  refine A5 rfl ?_ ?_ <;> intro hc <;> try simp only [SL] at hc
  ·obtain ⟨ns, rfl, hv⟩ := V1 hgd (by assumption)
   have hl := a9h hv
   have hnb := c8s hv
   have hll := a0n hnb
   refine A3 <| A0 <| y_F rfl <| y_L rfl ?_
   refine xC1 rfl rfl (c7u ns (by omega) hnb) ⟨rfl, rfl, rfl⟩ rfl rfl fun g10 => ?_
   iterate 2 refine U4 rfl rfl (by simp only [H4, List.length_append, List.length_cons, List.length_nil]; omega) ?_
   refine y_S rfl <| xN [2] [] rfl <| A8 <| C6 rfl rfl trivial ?_
   rfl
  have hop : t.op ≠ lW := by assumption
  refine A7 <| A3 <| A0 <| y_F rfl <| y_L rfl <| y_S rfl <| xN [1,3] [1] rfl <| A3 <| A3 <| A0 <| y_S rfl <| xN [1,3,4] [1] rfl <| A9 <| F6 (β := Nat × W8) [(.t 1, _), (.h 1, _)] (fun (z : Nat × W8) => match z with | (i, a) => [(.t 4, iV i), (.t 3, tV a)]) (fun (z : Nat × W8) => match z with | (i, a) => i ≤ t.kids.length ∧ a = a1j t i) (fun (z : Nat × W8) => match z with | (i, a) => t.kids.length - i) (0, _) ⟨rfl, rfl, rfl, rfl, trivial⟩ ⟨Nat.zero_le _, rfl⟩ ?_
  intro z hb
  obtain ⟨i, a⟩ := z
  try dsimp only at hb
  obtain ⟨hi1, ha⟩ := hb
  have hst1 := fun h => hst i hop h
  rw [← ha] at hst1
  refine A3 <| A3 <| A0 <| y_M rfl <| y_F rfl <| y_L rfl <| C2 rfl rfl <| G1 rfl rfl <| xN [1,3,4,19] [1] rfl ?_
  refine A5 rfl ?_ ?_ <;> intro hc <;> try simp only [SL] at hc
  ·refine A7 <| A3 <| A9 <| A0 <| y_M rfl <| U4 rfl rfl (by simp only [H4, List.length_append, List.length_cons, List.length_nil]; omega) <| y_F rfl <| y_L rfl <| y_M rfl <| B8 rfl rfl rfl (fun _ => rfl) (by omega) <| y_I rfl ?_
   have h1 := hst i hop (by omega)
   have h2 := hkz i (by omega)
   refine xC1 rfl rfl ((by have hi := ih (t.kids.getD i default) (by have := b9w (t := t) (i := i) (by omega); omega) (hkg i (by omega)) (by omega); rw [← N3] at hi; exact hi)) ⟨rfl, rfl, rfl⟩ rfl rfl fun g29 => ?_
   refine U4 rfl rfl (by simp only [H4, List.length_append, List.length_cons, List.length_nil]; omega) <| y_S rfl <| xN [1,3,4] [1] rfl <| A0 <| y_M rfl <| F3 rfl rfl (D4 (by omega)) <| y_S rfl <| xN [1,3,4] [1] rfl ?_
   refine ⟨(i + 1, _), ⟨by omega, by rw [a1j, ← ha]⟩, (by simp only; omega), ⟨rfl, rfl, rfl, rfl, trivial⟩⟩
  refine E6 <| A3 <| A0 <| y_M rfl <| y_S rfl <| xN [2] [] rfl <| A8 <| C6 rfl rfl trivial ?_
  rw [ha, show i = t.kids.length by omega, hall hop]

theorem c2a : F4 Tryz.f123 = [0, 2, 3, 1, 17, 4, 28, 29, 38, 42] := by kernel_rfl
theorem d8o (t : Pl) (hgd : t.good) : CW (cxT oG) 123 [trK t] = some (.tup [trV ((S4 t).getD t), bV (S4 t).isSome], []) := by
 have hkl := a8b t
 have hol := c9v hgd
 have hkg := fun h => c9v (a4z hgd (i := 0) h)
 refine E4 rfl Tryz.func123 rfl ⟨by kernel_rfl, rfl, dT rfl, dT rfl, by decide⟩ c2a <| A3 <| A0 <| a1d rfl rfl rfl (fun _ => M4 rfl) (fun _ => rfl) ?_
 intro g1
 refine y_A rfl (fun _ => rfl) ?_
 intro g2
 refine y_S rfl <| xN [1,2] [1,2] rfl <| A3 <| A3 <| A0 <| y_F rfl <| y_L rfl <| C2 rfl rfl <| b8v rfl rfl <| y_M rfl ?_
 refine C5 rfl rfl ?_ ?_ <;> intro hg0 <;> have hg := hg0 <;> try simp only [SG] at hg
 ·refine y_F rfl <| gT rfl rfl <| y_L rfl <| gT rfl rfl <| B8 rfl rfl rfl (fun _ => rfl) (by (change 0 < _; omega)) <| gT rfl rfl <| y_F rfl <| gT rfl rfl <| b5j rfl rfl rfl <| gT rfl rfl ?_
  rw [a1v]
  refine C2 rfl rfl <| gT rfl rfl <| b8v rfl rfl <| F7 rfl (by assumption) rfl rfl <| xN [1,2,17] [1,2] rfl ?_
  refine A5 rfl ?_ ?_ <;> intro hc <;> try simp only [SL] at hc
  ·refine A3 <| A0 <| y_B rfl <| xB rfl rfl rfl rfl rfl rfl rfl rfl rfl <| y_S rfl <| xN [2,3] [2] rfl <| A8 <| B5 (C8 rfl rfl rfl rfl (C1 rfl (C1 rfl (C1 rfl F5))) (C7 rfl rfl (C3 B2))) ?_
   (rw [b7l (by omega)]; show AV.tup [trK t, bV false] = AV.tup [trV t, bV false]; rw [N3])
  refine A7 <| A3 <| A0 <| y_F rfl <| y_L rfl <| B8 rfl rfl rfl (fun _ => rfl) (by (change 0 < _; omega)) <| y_I rfl <| y_A rfl (fun _ => rfl) ?_
  intro g4
  refine xB rfl rfl rfl rfl rfl rfl rfl rfl rfl <| xN [1,2,4] [1,2,4] rfl <| A3 <| A3 <| A0 <| y_F rfl <| y_L rfl <| U4 rfl rfl (by simp only [H4, List.length_append, List.length_cons, List.length_nil]; omega) <| y_F rfl <| y_L rfl <| U4 rfl rfl (by simp only [H4, List.length_append, List.length_cons, List.length_nil]; omega) <| xN [1,2,4,28] [1,2,4] rfl <| A9 <| A3 <| A3 <| A0 <| P4 rfl rfl <| y_S rfl <| xN [1,2,4,28,29] [1,2,4] rfl ?_
  refine A5 rfl ?_ ?_ <;> intro hc <;> try simp only [SL] at hc
  ·refine A7 ?_
   refine A5 rfl (fun hc => ?_) (fun hc => absurd hc (by simp_all))
   refine A3 <| A0 <| y_F rfl <| y_L rfl ?_
   rw [a1v]
   refine I4 rfl rfl rfl (fun _ => rfl) (by show (0 : Int) ≤ 0 ∧ (0 : Int) < ((t.kids.getD 0 default).kids.length : Int); omega) <| y_I rfl <| xB rfl rfl rfl rfl rfl rfl rfl rfl rfl <| y_S rfl <| xN [2,3] [2] rfl <| A8 <| B5 (C8 rfl rfl rfl rfl (C1 rfl (C1 rfl (C1 rfl F5))) (C7 rfl rfl (C3 B2))) ?_
   (rw [c0g (t := t) (k := [114, 101, 118, 32, 114, 101, 118]) (by omega) (by omega) (by assumption) (by decide)]; rfl)
  refine A3 <| A0 <| P4 rfl rfl <| y_S rfl <| xN [1,2,4,28,29] [1,2,4] rfl ?_
  refine A5 rfl ?_ ?_ <;> intro hc <;> try simp only [SL] at hc
  ·refine A7 ?_
   refine A5 rfl (fun hc => ?_) (fun hc => absurd hc (by simp_all))
   refine A3 <| A0 <| y_F rfl <| y_L rfl ?_
   rw [a1v]
   refine I4 rfl rfl rfl (fun _ => rfl) (by show (0 : Int) ≤ 0 ∧ (0 : Int) < ((t.kids.getD 0 default).kids.length : Int); omega) <| y_I rfl <| xB rfl rfl rfl rfl rfl rfl rfl rfl rfl <| y_S rfl <| xN [2,3] [2] rfl <| A8 <| B5 (C8 rfl rfl rfl rfl (C1 rfl (C1 rfl (C1 rfl F5))) (C7 rfl rfl (C3 B2))) ?_
   (rw [c0g (t := t) (k := [110, 101, 103, 32, 110, 101, 103]) (by omega) (by omega) (by assumption) (by decide)]; rfl)
  refine A3 <| A0 <| P4 rfl rfl <| y_S rfl <| xN [1,2,4,28,29] [1,2,4] rfl ?_
  refine A5 rfl ?_ ?_ <;> intro hc <;> try simp only [SL] at hc
  ·refine A7 ?_
   refine A5 rfl (fun hc => ?_) (fun hc => absurd hc (by simp_all))
   refine A3 <| A0 <| y_F rfl <| y_L rfl ?_
   rw [a1v]
   refine I4 rfl rfl rfl (fun _ => rfl) (by show (0 : Int) ≤ 0 ∧ (0 : Int) < ((t.kids.getD 0 default).kids.length : Int); omega) <| y_I rfl <| xB rfl rfl rfl rfl rfl rfl rfl rfl rfl <| y_S rfl <| xN [2,3] [2] rfl <| A8 <| B5 (C8 rfl rfl rfl rfl (C1 rfl (C1 rfl (C1 rfl F5))) (C7 rfl rfl (C3 B2))) ?_
   (rw [c0g (t := t) (k := [100, 105, 102, 102, 32, 115, 117, 109, 115]) (by omega) (by omega) (by assumption) (by decide)]; rfl)
  refine A0 <| P4 rfl rfl <| y_S rfl <| xN [1,2,4,28,29] [1,2,4] rfl ?_
  refine A5 rfl ?_ ?_ <;> intro hc <;> try simp only [SL] at hc
  ·refine A3 <| A0 <| y_F rfl <| y_L rfl ?_
   rw [a1v]
   refine I4 rfl rfl rfl (fun _ => rfl) (by show (0 : Int) ≤ 0 ∧ (0 : Int) < ((t.kids.getD 0 default).kids.length : Int); omega) <| y_I rfl <| xB rfl rfl rfl rfl rfl rfl rfl rfl rfl <| y_S rfl <| xN [2,3] [2] rfl <| A8 <| B5 (C8 rfl rfl rfl rfl (C1 rfl (C1 rfl (C1 rfl F5))) (C7 rfl rfl (C3 B2))) ?_
   (rw [c0g (t := t) (k := [115, 117, 109, 115, 32, 100, 105, 102, 102]) (by omega) (by omega) (by assumption) (by decide)]; rfl)
  refine A3 <| A3 <| A0 <| P4 rfl rfl <| y_S rfl <| xN [1,2,4,28,38] [1,2,4] rfl ?_
  refine A5 rfl ?_ ?_ <;> intro hc <;> try simp only [SL] at hc
  ·refine A7 ?_
   refine A5 rfl (fun hc => ?_) (fun hc => absurd hc (by simp_all))
   refine A3 <| A0 <| y_B rfl <| xB rfl rfl rfl rfl rfl rfl rfl rfl rfl <| y_S rfl <| xN [2,3] [2] rfl <| A8 <| B5 (C8 rfl rfl rfl rfl (C1 rfl (C1 rfl (C1 rfl F5))) (C7 rfl rfl (C3 B2))) ?_
   (rw [d4i (t := t) (k := [115, 111, 114, 116, 32, 115, 111, 114, 116]) (by omega) (by omega) (by assumption) (by decide)]; rfl)
  refine A0 <| P4 rfl rfl <| y_S rfl <| xN [1,2,4,28,38] [1,2,4] rfl ?_
  refine A5 rfl ?_ ?_ <;> intro hc <;> try simp only [SL] at hc
  ·refine A3 <| A0 <| y_B rfl <| xB rfl rfl rfl rfl rfl rfl rfl rfl rfl <| y_S rfl <| xN [2,3] [2] rfl <| A8 <| B5 (C8 rfl rfl rfl rfl (C1 rfl (C1 rfl (C1 rfl F5))) (C7 rfl rfl (C3 B2))) ?_
   (rw [d4i (t := t) (k := [97, 98, 115, 32, 97, 98, 115]) (by omega) (by omega) (by assumption) (by decide)]; rfl)
  refine A3 <| A3 <| A0 <| P4 rfl rfl <| y_S rfl <| xN [1,2,4,28,42] [1,2,4] rfl ?_
  refine A5 rfl ?_ ?_ <;> intro hc <;> try simp only [SL] at hc
  ·refine A7 ?_
   refine A5 rfl (fun hc => ?_) (fun hc => absurd hc (by simp_all))
   refine A3 <| A0 <| y_F rfl <| y_L rfl <| y_F rfl <| y_L rfl <| H0 (fs := [_, _, _]) rfl rfl rfl rfl rfl <| xB rfl rfl rfl rfl rfl rfl rfl rfl rfl <| y_S rfl <| xN [2,3] [2] rfl <| A8 <| B5 (C8 rfl rfl rfl rfl (C1 rfl (G6 rfl (C1 rfl F5))) (C7 rfl rfl (C3 B2))) ?_
   (rw [c0q (t := t) (k := [115, 111, 114, 116, 32, 114, 101, 118]) (by omega) (by omega) (by assumption) (by decide)]; show AV.tup [AV.agg [tV t.op, AV.list [], AV.list (a4t (t.kids.getD 0 default))], bV true] = AV.tup [trV (.un t.op ((t.kids.getD 0 default).kids.getD 0 default)), bV true]; rw [b2s (w := t.op) (t := t.kids.getD 0 default) (by omega)]; rfl)
  refine A3 <| A0 <| P4 rfl rfl <| y_S rfl <| xN [1,2,4,28,42] [1,2,4] rfl ?_
  refine A5 rfl ?_ ?_ <;> intro hc <;> try simp only [SL] at hc
  ·refine A7 ?_
   refine A5 rfl (fun hc => ?_) (fun hc => absurd hc (by simp_all))
   refine A3 <| A0 <| y_F rfl <| y_L rfl <| y_F rfl <| y_L rfl <| H0 (fs := [_, _, _]) rfl rfl rfl rfl rfl <| xB rfl rfl rfl rfl rfl rfl rfl rfl rfl <| y_S rfl <| xN [2,3] [2] rfl <| A8 <| B5 (C8 rfl rfl rfl rfl (C1 rfl (G6 rfl (C1 rfl F5))) (C7 rfl rfl (C3 B2))) ?_
   (rw [c0q (t := t) (k := [97, 98, 115, 32, 110, 101, 103]) (by omega) (by omega) (by assumption) (by decide)]; show AV.tup [AV.agg [tV t.op, AV.list [], AV.list (a4t (t.kids.getD 0 default))], bV true] = AV.tup [trV (.un t.op ((t.kids.getD 0 default).kids.getD 0 default)), bV true]; rw [b2s (w := t.op) (t := t.kids.getD 0 default) (by omega)]; rfl)
  refine A3 <| A0 <| P4 rfl rfl <| y_S rfl <| xN [1,2,4,28,42] [1,2,4] rfl ?_
  refine A5 rfl ?_ ?_ <;> intro hc <;> try simp only [SL] at hc
  ·refine A7 ?_
   refine A5 rfl (fun hc => ?_) (fun hc => absurd hc (by simp_all))
   refine A3 <| A0 <| y_F rfl <| y_L rfl <| y_F rfl <| y_L rfl <| H0 (fs := [_, _, _]) rfl rfl rfl rfl rfl <| xB rfl rfl rfl rfl rfl rfl rfl rfl rfl <| y_S rfl <| xN [2,3] [2] rfl <| A8 <| B5 (C8 rfl rfl rfl rfl (C1 rfl (G6 rfl (C1 rfl F5))) (C7 rfl rfl (C3 B2))) ?_
   (rw [c0q (t := t) (k := [116, 111, 116, 97, 108, 32, 115, 111, 114, 116]) (by omega) (by omega) (by assumption) (by decide)]; show AV.tup [AV.agg [tV t.op, AV.list [], AV.list (a4t (t.kids.getD 0 default))], bV true] = AV.tup [trV (.un t.op ((t.kids.getD 0 default).kids.getD 0 default)), bV true]; rw [b2s (w := t.op) (t := t.kids.getD 0 default) (by omega)]; rfl)
  refine A0 <| P4 rfl rfl <| y_S rfl <| xN [1,2,4,42] [1,2,4] rfl ?_
  refine A5 rfl ?_ ?_ <;> intro hc <;> try simp only [SL] at hc
  ·refine A3 <| A0 <| y_F rfl <| y_L rfl <| y_F rfl <| y_L rfl <| H0 (fs := [_, _, _]) rfl rfl rfl rfl rfl <| xB rfl rfl rfl rfl rfl rfl rfl rfl rfl <| y_S rfl <| xN [2,3] [2] rfl <| A8 <| B5 (C8 rfl rfl rfl rfl (C1 rfl (G6 rfl (C1 rfl F5))) (C7 rfl rfl (C3 B2))) ?_
   (rw [c0q (t := t) (k := [116, 111, 116, 97, 108, 32, 114, 101, 118]) (by omega) (by omega) (by assumption) (by decide)]; show AV.tup [AV.agg [tV t.op, AV.list [], AV.list (a4t (t.kids.getD 0 default))], bV true] = AV.tup [trV (.un t.op ((t.kids.getD 0 default).kids.getD 0 default)), bV true]; rw [b2s (w := t.op) (t := t.kids.getD 0 default) (by omega)]; rfl)
  refine A7 <| A3 <| A0 <| y_B rfl <| xB rfl rfl rfl rfl rfl rfl rfl rfl rfl <| y_S rfl <| xN [2,3] [2] rfl <| A8 <| B5 (C8 rfl rfl rfl rfl (C1 rfl (C1 rfl (C1 rfl F5))) (C7 rfl rfl (C3 B2))) ?_
  (rw [c5q (by omega) (by omega), d6y (by simp only [goneL, List.mem_cons, List.not_mem_nil, or_false]; rintro x (rfl | rfl | rfl | rfl | rfl | rfl | rfl | rfl | rfl | rfl) <;> assumption)]; show AV.tup [trK t, bV false] = AV.tup [trV t, bV false]; rw [N3])
 iterate 6 refine gF rfl rfl ?_
 refine E9 rfl (by assumption) rfl rfl <| xN [1,2,17] [1,2] rfl ?_
 refine A5 rfl (fun hc => ?_) (fun hc => absurd hc (by decide))
 refine A3 <| A0 <| y_B rfl <| xB rfl rfl rfl rfl rfl rfl rfl rfl rfl <| y_S rfl <| xN [2,3] [2] rfl <| A8 <| B5 (C8 rfl rfl rfl rfl (C1 rfl (C1 rfl (C1 rfl F5))) (C7 rfl rfl (C3 B2))) ?_
 (rw [b7l (by omega)]; show AV.tup [trK t, bV false] = AV.tup [trV t, bV false]; rw [N3])

theorem b5e : F4 Tryz.f79 = [0, 2, 1, 5, 16, 4, 3, 6, 25, 7, 8, 37, 9, 13] := by kernel_rfl
theorem d0k (t : Pl) (hsz : t.sz ≤ 1000) (hgd : t.good) : CW (cxT oG) 79 [trK t] = some (.own 3 ((oneP t).map trV), []) := by
 obtain ⟨kk, hkk⟩ : ∃ kk : Nat, t.sz < kk := ⟨_, Nat.lt_succ_self _⟩
 revert t
 induction kk with
 | zero => intro t hsz hgd hkk; exact absurd hkk (Nat.not_lt_zero _)
 | succ kk ih =>
  intro t hsz hgd hkk
  have hkl := a8b t
  have hhl := fun i (h : i ≤ t.kids.length) => c4p (t := t) h
  have hjl := fun i j (h : i < t.kids.length) => d3d (t := t) (j := j) h
  refine E4 rfl Tryz.func79 rfl ⟨by kernel_rfl, rfl, dT rfl, dT rfl, by decide⟩ b5e <| A3 <| A0 <| a1d rfl rfl rfl (fun _ => M4 rfl) (fun _ => rfl) ?_
  intro g1
  (refine B0 rfl rfl (fun _ => rfl) ?_; intro g2)
  refine xN [1] [1] rfl <| A3 <| A0 <| B6 (es := List.map trV []) rfl rfl (dT rfl) rfl rfl (fun _ => B1 (A6 fun _ => rfl)) (fun _ => rfl) ?_
  intro g10
  (refine xO rfl rfl (by simp) rfl (fun _ => rfl) (fun _ => rfl) ?_; intro g3)
  refine xN [1,3] [1,3] rfl <| A3 <| A0 <| y_B rfl ?_
  apply xC rfl
  ·apply B4
   ·exact B9 rfl
   exact D8
  ·exact d8o t hgd
  refine ⟨⟨rfl, rfl, rfl, dT rfl, rfl⟩, .inl rfl, B7, K2 rfl, fun _ => rfl, fun g13 => ?_⟩
  refine y_M rfl <| y_E rfl <| y_E rfl <| y_A rfl (fun _ => rfl) ?_
  intro g4
  refine xB rfl rfl rfl rfl rfl rfl rfl rfl rfl <| y_S rfl <| xN [1,3,4,5] [1,3,4] rfl <| A3 <| A3 <| A0 <| y_M rfl <| xN [1,3,4,16] [1,3,4] rfl ?_
  refine A5 rfl ?_ ?_ <;> intro hc <;> try simp only [SL] at hc
  ·refine A0 <| y_M rfl <| y_B rfl <| B6 (es := List.map trV [_]) rfl rfl (dT rfl) rfl rfl (fun _ => B1 (A6 fun _ => rfl)) (fun _ => rfl) ?_
   intro g19
   refine xA rfl rfl rfl rfl (by simp) (by simp) rfl rfl rfl rfl rfl (fun _ => rfl) (by simp only [LN]; omega) (fun _ => rfl) ?_
   intro g20
   (refine xO rfl rfl (by simp) rfl (fun _ => rfl) (fun _ => rfl) ?_; intro g3)
   refine xN [1,3] [1,3] rfl <| A3 <| A3 <| A0 <| y_S rfl <| xN [1,3,6] [1,3] rfl <| A9 <| F6 (β := Nat × List Pl × Nat) [(.t 1, _), (.h 1, _)] (fun (z : Nat × List Pl × Nat) => match z with | (i, us, g) => [(.t 6, iV i), (.h 3, .obj g 0 3 (us.map trV)), (.t 3, .sl 3 g none 0 us.length)]) (fun (z : Nat × List Pl × Nat) => match z with | (i, us, g) => i ≤ t.kids.length ∧ us = a7m t i) (fun (z : Nat × List Pl × Nat) => match z with | (i, us, g) => t.kids.length - i) (0, _, _) ⟨rfl, rfl, rfl, rfl, rfl, trivial⟩ ⟨Nat.zero_le _, by (rw [a7m, Option.isSome_iff_exists.1 hc |>.choose_spec]; rfl)⟩ ?_
   intro z hb
   obtain ⟨i, us, g⟩ := z
   try dsimp only at hb
   obtain ⟨hi1, hus⟩ := hb
   have hul := hhl i hi1
   rw [← hus] at hul
   refine A3 <| A3 <| A0 <| y_M rfl <| y_F rfl <| y_L rfl <| C2 rfl rfl <| G1 rfl rfl <| xN [1,3,6,25] [1,3] rfl ?_
   refine A5 rfl ?_ ?_ <;> intro hc <;> try simp only [SL] at hc
   ·refine A7 <| A3 <| A9 <| A3 <| A0 <| y_F rfl <| y_L rfl <| y_M rfl <| B8 rfl rfl rfl (fun _ => rfl) (by omega) <| y_I rfl ?_
    have hks := c1d (t := t) (i := i) (by omega)
    have hol := a6b (t.kids.getD i default)
    apply xC rfl
    ·apply B4
     ·exact B9 rfl
     exact D8
    ·exact (by have hi := ih (t.kids.getD i default) (by omega) (a4z hgd (by omega)) (by omega); rw [← N3] at hi; exact hi)
    refine ⟨⟨rfl, rfl, rfl, dT rfl, rfl⟩, .inl rfl, B7, J1, fun _ => rfl, fun g33 => ?_⟩
    simp only [List.length_map]
    (refine xO rfl rfl (by simp) rfl (fun _ => rfl) (fun _ => rfl) ?_; intro g7)
    refine xN [1,3,6,7] [1,3,7] rfl <| A3 <| A0 <| y_S rfl <| xN [1,3,6,7,8] [1,3,7] rfl <| A9 <| F6 (β := Nat × List Pl × Nat) [(.t 1, _), (.t 6, _), (.t 7, _), (.h 1, _), (.h 7, _)] (fun (z : Nat × List Pl × Nat) => match z with | (j, vs, g1) => [(.t 8, iV j), (.h 3, .obj g1 0 3 (vs.map trV)), (.t 3, .sl 3 g1 none 0 vs.length)]) (fun (z : Nat × List Pl × Nat) => match z with | (j, vs, g1) => j ≤ (oneP (t.kids.getD i default)).length ∧ vs = b1s t i j) (fun (z : Nat × List Pl × Nat) => match z with | (j, vs, g1) => (oneP (t.kids.getD i default)).length - j) (0, _, _) ⟨rfl, rfl, rfl, rfl, rfl, rfl, rfl, rfl, trivial⟩ ⟨Nat.zero_le _, by rw [hus, b7q]⟩ ?_
    intro z hb
    obtain ⟨j, vs, g1⟩ := z
    try dsimp only at hb
    obtain ⟨hj1, hvs⟩ := hb
    have hvl := hjl i j (by omega)
    rw [← hvs] at hvl
    refine A3 <| A3 <| A0 <| y_M rfl <| y_M rfl <| I5 rfl rfl <| G1 rfl rfl <| xN [1,3,6,7,8,37] [1,3,7] rfl ?_
    refine A5 rfl ?_ ?_ <;> intro hc <;> try simp only [SL] at hc
    ·refine A7 <| A3 <| A9 <| A3 <| A0 <| B6 (es := List.map trV []) rfl rfl (dT rfl) rfl rfl (fun _ => B1 (A6 fun _ => rfl)) (fun _ => rfl) ?_
     intro g40
     refine y_F rfl <| y_L rfl <| Q8 rfl rfl rfl (by (simp; done)) rfl rfl rfl (dT rfl) (fun _ => ⟨rfl, rfl, rfl⟩) (by simp only [H4]; (simp only [List.length_nil, List.length_cons, List.length_append, Nat.zero_add, List.length_map]; omega)) (fun _ => rfl) ?_
     intro g43
     (refine xO rfl rfl (by simp) rfl (fun _ => rfl) (fun _ => rfl) ?_; intro g9)
     refine xN [1,3,6,7,8,9] [1,3,7,9] rfl <| A3 <| A0 <| y_M rfl <| y_M rfl <| y_M rfl <| y_M rfl <| D6 rfl rfl rfl rfl (by omega) (by (simp; done)) rfl <| G0 rfl rfl (by omega) (fun _ => rfl) (fun _ => rfl) rfl <| D6 rfl rfl rfl rfl (by (simp; omega)) (by (simp; done)) rfl <| J8 rfl rfl rfl (by (simp; omega)) (fun _ _ => ⟨rfl, rfl, dT rfl, dT rfl, rfl, rfl⟩) (by decide) (by exact B1 (A6 fun _ => rfl)) <| xN [1,3,6,7,8,9] [1,3,7,9] rfl <| A0 <| y_M rfl <| y_F rfl <| y_L rfl <| y_F rfl <| y_L rfl <| y_M rfl <| H0 (fs := [_, _, _]) rfl rfl rfl rfl rfl <| b1h (mk := 2) (fs := [_, _, _]) rfl rfl rfl (dT rfl) rfl rfl (c1h rfl (c1h rfl (d5p rfl (by simp) (fun _ => rfl) I0))) (fun _ _ => C0 (a0m (A6 fun _ => rfl) (by decide)) (C0 (B1 rfl) (H8 rfl))) ?_
     intro z58 g58
     simp only [H7, List.cons_append, List.nil_append]
     rw [d5z (by omega)]
     refine xA rfl rfl rfl rfl (by simp) (by simp) rfl rfl rfl rfl rfl (fun _ => rfl) (by simp only [LN]; omega) (fun _ => rfl) ?_
     intro g59
     (refine xO rfl rfl (by simp) rfl (fun _ => rfl) (fun _ => rfl) ?_; intro g3)
     refine xN [1,3,6,7,8] [1,3,7] rfl <| A0 <| y_M rfl <| F3 rfl rfl (D4 (by omega)) <| y_S rfl <| xN [1,3,6,7,8] [1,3,7] rfl ?_
     refine ⟨(j + 1, _, _), ⟨by omega, by rw [hvs]; exact b8g (by omega)⟩, (by simp only; omega), ⟨rfl, rfl, rfl, rfl, rfl, rfl, rfl, rfl, trivial⟩⟩
    refine E6 <| A0 <| y_M rfl <| F3 rfl rfl (D4 (by omega)) <| y_S rfl <| xN [1,3,6] [1,3] rfl ?_
    refine ⟨(i + 1, _, _), ⟨by omega, by rw [hvs]; exact c3a (by omega)⟩, (by simp only; omega), ⟨rfl, rfl, rfl, rfl, rfl, trivial⟩⟩
   refine E6 <| A3 <| A0 <| y_M rfl ?_
   (refine xO rfl rfl (by simp) rfl (fun _ => rfl) (fun _ => rfl) ?_; intro g2)
   refine xN [2] [2] rfl <| A8 <| M2 rfl rfl (by simp) (by exact A6 fun _ => rfl) trivial ?_
   rw [hus, show i = t.kids.length by omega, b4c]
  refine A7 <| A3 <| A3 <| A0 <| y_S rfl <| xN [1,3,6] [1,3] rfl <| A9 <| F6 (β := Nat × List Pl × Nat) [(.t 1, _), (.h 1, _)] (fun (z : Nat × List Pl × Nat) => match z with | (i, us, g) => [(.t 6, iV i), (.h 3, .obj g 0 3 (us.map trV)), (.t 3, .sl 3 g none 0 us.length)]) (fun (z : Nat × List Pl × Nat) => match z with | (i, us, g) => i ≤ t.kids.length ∧ us = a7m t i) (fun (z : Nat × List Pl × Nat) => match z with | (i, us, g) => t.kids.length - i) (0, _, _) ⟨rfl, rfl, rfl, rfl, rfl, trivial⟩ ⟨Nat.zero_le _, by (rw [a7m]; simp_all)⟩ ?_
  intro z hb
  obtain ⟨i, us, g⟩ := z
  try dsimp only at hb
  obtain ⟨hi1, hus⟩ := hb
  have hul := hhl i hi1
  rw [← hus] at hul
  refine A3 <| A3 <| A0 <| y_M rfl <| y_F rfl <| y_L rfl <| C2 rfl rfl <| G1 rfl rfl <| xN [1,3,6,25] [1,3] rfl ?_
  refine A5 rfl ?_ ?_ <;> intro hc <;> try simp only [SL] at hc
  ·refine A7 <| A3 <| A9 <| A3 <| A0 <| y_F rfl <| y_L rfl <| y_M rfl <| B8 rfl rfl rfl (fun _ => rfl) (by omega) <| y_I rfl ?_
   have hks := c1d (t := t) (i := i) (by omega)
   have hol := a6b (t.kids.getD i default)
   apply xC rfl
   ·apply B4
    ·exact B9 rfl
    exact D8
   ·exact (by have hi := ih (t.kids.getD i default) (by omega) (a4z hgd (by omega)) (by omega); rw [← N3] at hi; exact hi)
   refine ⟨⟨rfl, rfl, rfl, dT rfl, rfl⟩, .inl rfl, B7, J1, fun _ => rfl, fun g33 => ?_⟩
   simp only [List.length_map]
   (refine xO rfl rfl (by simp) rfl (fun _ => rfl) (fun _ => rfl) ?_; intro g7)
   refine xN [1,3,6,7] [1,3,7] rfl <| A3 <| A0 <| y_S rfl <| xN [1,3,6,7,8] [1,3,7] rfl <| A9 <| F6 (β := Nat × List Pl × Nat) [(.t 1, _), (.t 6, _), (.t 7, _), (.h 1, _), (.h 7, _)] (fun (z : Nat × List Pl × Nat) => match z with | (j, vs, g1) => [(.t 8, iV j), (.h 3, .obj g1 0 3 (vs.map trV)), (.t 3, .sl 3 g1 none 0 vs.length)]) (fun (z : Nat × List Pl × Nat) => match z with | (j, vs, g1) => j ≤ (oneP (t.kids.getD i default)).length ∧ vs = b1s t i j) (fun (z : Nat × List Pl × Nat) => match z with | (j, vs, g1) => (oneP (t.kids.getD i default)).length - j) (0, _, _) ⟨rfl, rfl, rfl, rfl, rfl, rfl, rfl, rfl, trivial⟩ ⟨Nat.zero_le _, by rw [hus, b7q]⟩ ?_
   intro z hb
   obtain ⟨j, vs, g1⟩ := z
   try dsimp only at hb
   obtain ⟨hj1, hvs⟩ := hb
   have hvl := hjl i j (by omega)
   rw [← hvs] at hvl
   refine A3 <| A3 <| A0 <| y_M rfl <| y_M rfl <| I5 rfl rfl <| G1 rfl rfl <| xN [1,3,6,7,8,37] [1,3,7] rfl ?_
   refine A5 rfl ?_ ?_ <;> intro hc <;> try simp only [SL] at hc
   ·refine A7 <| A3 <| A9 <| A3 <| A0 <| B6 (es := List.map trV []) rfl rfl (dT rfl) rfl rfl (fun _ => B1 (A6 fun _ => rfl)) (fun _ => rfl) ?_
    intro g40
    refine y_F rfl <| y_L rfl <| Q8 rfl rfl rfl (by (simp; done)) rfl rfl rfl (dT rfl) (fun _ => ⟨rfl, rfl, rfl⟩) (by simp only [H4]; (simp only [List.length_nil, List.length_cons, List.length_append, Nat.zero_add, List.length_map]; omega)) (fun _ => rfl) ?_
    intro g43
    (refine xO rfl rfl (by simp) rfl (fun _ => rfl) (fun _ => rfl) ?_; intro g9)
    refine xN [1,3,6,7,8,9] [1,3,7,9] rfl <| A3 <| A0 <| y_M rfl <| y_M rfl <| y_M rfl <| y_M rfl <| D6 rfl rfl rfl rfl (by omega) (by (simp; done)) rfl <| G0 rfl rfl (by omega) (fun _ => rfl) (fun _ => rfl) rfl <| D6 rfl rfl rfl rfl (by (simp; omega)) (by (simp; done)) rfl <| J8 rfl rfl rfl (by (simp; omega)) (fun _ _ => ⟨rfl, rfl, dT rfl, dT rfl, rfl, rfl⟩) (by decide) (by exact B1 (A6 fun _ => rfl)) <| xN [1,3,6,7,8,9] [1,3,7,9] rfl <| A0 <| y_M rfl <| y_F rfl <| y_L rfl <| y_F rfl <| y_L rfl <| y_M rfl <| H0 (fs := [_, _, _]) rfl rfl rfl rfl rfl <| b1h (mk := 2) (fs := [_, _, _]) rfl rfl rfl (dT rfl) rfl rfl (c1h rfl (c1h rfl (d5p rfl (by simp) (fun _ => rfl) I0))) (fun _ _ => C0 (a0m (A6 fun _ => rfl) (by decide)) (C0 (B1 rfl) (H8 rfl))) ?_
    intro z58 g58
    simp only [H7, List.cons_append, List.nil_append]
    rw [d5z (by omega)]
    refine xA rfl rfl rfl rfl (by simp) (by simp) rfl rfl rfl rfl rfl (fun _ => rfl) (by simp only [LN]; omega) (fun _ => rfl) ?_
    intro g59
    (refine xO rfl rfl (by simp) rfl (fun _ => rfl) (fun _ => rfl) ?_; intro g3)
    refine xN [1,3,6,7,8] [1,3,7] rfl <| A0 <| y_M rfl <| F3 rfl rfl (D4 (by omega)) <| y_S rfl <| xN [1,3,6,7,8] [1,3,7] rfl ?_
    refine ⟨(j + 1, _, _), ⟨by omega, by rw [hvs]; exact b8g (by omega)⟩, (by simp only; omega), ⟨rfl, rfl, rfl, rfl, rfl, rfl, rfl, rfl, trivial⟩⟩
   refine E6 <| A0 <| y_M rfl <| F3 rfl rfl (D4 (by omega)) <| y_S rfl <| xN [1,3,6] [1,3] rfl ?_
   refine ⟨(i + 1, _, _), ⟨by omega, by rw [hvs]; exact c3a (by omega)⟩, (by simp only; omega), ⟨rfl, rfl, rfl, rfl, rfl, trivial⟩⟩
  refine E6 <| A3 <| A0 <| y_M rfl ?_
  (refine xO rfl rfl (by simp) rfl (fun _ => rfl) (fun _ => rfl) ?_; intro g2)
  refine xN [2] [2] rfl <| A8 <| M2 rfl rfl (by simp) (by exact A6 fun _ => rfl) trivial ?_
  rw [hus, show i = t.kids.length by omega, b4c]

theorem b9i : F4 Tryz.f78 = [0, 2, 3, 5, 17, 7, 37, 40, 39, 41, 38, 6, 9, 62, 10, 8, 4] := by kernel_rfl
theorem d7o (s : List UInt8) (hs : s.length ≤ 1048576) (hw : (splitB 32 s).length ≤ 1000) : CW (cxT (some rG)) 78 [tV s] = some (.own 1 (((K5 (splitB 32 s)).map (joinB 32)).map tV), []) := by
 obtain ⟨ws, hws⟩ : ∃ ws, ws = splitB 32 s := ⟨_, rfl⟩
 rw [← hws]
 have hwl : ws.length ≤ 1000 := by rw [hws]; exact hw
 have hwp : ∀ w ∈ ws, w.length ≤ 1048576 := fun w h => by rw [hws] at h; have := V3 32 s w h; omega
 have hpi := fun (i : Nat) (h : i < ws.length) => hwp _ (U8 h)
 have hjl : (joinB 32 ws).length ≤ 1048576 := by rw [hws, a6n]; exact hs
 have hne : 1 ≤ ws.length := by rw [hws]; have := a9b 32 s; cases h : splitB 32 s with | nil => exact absurd h this | cons a b => simp
 refine E4 rfl Tryz.func78 rfl ⟨by kernel_rfl, rfl, dT rfl, dT rfl, by decide⟩ b9i <| A3 <| A0 ?_
 (refine B0 rfl rfl (fun _ => rfl) ?_; intro g2)
 refine xN [0] [] rfl <| A3 <| A0 <| y_M rfl ?_
 apply xC rfl
 ·apply B4
  ·exact B9 rfl
  apply B4
  ·exact B9 rfl
  exact D8
 ·exact b9y s 32 (by omega)
 refine ⟨⟨rfl, rfl, rfl, dT rfl, rfl⟩, .inl rfl, B7, J1, fun _ => rfl, fun g12 => ?_⟩
 rw [← hws]
 try simp only [List.length_map]
 (refine xO rfl rfl (by simp) rfl (fun _ => rfl) (fun _ => rfl) ?_; intro g3)
 refine xN [3] [3] rfl <| A3 <| A0 ?_
 (refine B0 rfl rfl (fun _ => rfl) ?_; intro g4)
 refine xN [3,4] [3,4] rfl <| A3 <| A3 <| A0 <| y_S rfl <| xN [3,4,5] [3,4] rfl <| A9 <| F6 (β := Nat × List W8 × Nat) [(.t 3, _), (.h 3, _)] (fun (z : Nat × List W8 × Nat) => match z with | (i, us, g) => [(.t 5, iV i), (.h 4, .obj g 0 1 (us.map tV)), (.t 4, .sl 4 g none 0 us.length)]) (fun (z : Nat × List W8 × Nat) => match z with | (i, us, g) => i + 1 ≤ ws.length ∧ us = (hitsN ws i).map (joinB 32)) (fun (z : Nat × List W8 × Nat) => match z with | (i, us, g) => ws.length - i) (0, [], _) ⟨rfl, rfl, rfl, rfl, rfl, trivial⟩ ⟨by omega, rfl⟩ ?_
 intro z hb
 obtain ⟨i, us, g⟩ := z
 try dsimp only at hb
 obtain ⟨hi1, hus⟩ := hb
 have hul : us.length ≤ i := by rw [hus, List.length_map]; exact b8t ws i
 refine A3 <| A3 <| A0 <| y_M rfl <| F3 rfl rfl (D4 (by omega)) <| y_M rfl <| I5 rfl rfl <| G1 rfl rfl <| xN [3,4,5,17] [3,4] rfl ?_
 refine A5 rfl ?_ ?_ <;> intro hc <;> try simp only [SL] at hc
 ·refine A7 <| A3 <| A9 <| A3 <| A0 <| c2p rfl rfl rfl <| y_M rfl <| y_M rfl <| D6 rfl rfl rfl rfl (by omega) (by (simp; done)) rfl <| G0 rfl rfl (by omega) (fun _ => rfl) (fun _ => rfl) rfl ?_
  have hp1 := hpi i (by omega)
  refine U4 rfl rfl (by simp only [H4, List.length_append, List.length_cons, List.length_nil]; omega) <| y_M rfl <| y_M rfl <| F3 rfl rfl (D4 (by omega)) <| D6 rfl rfl rfl rfl (by (simp; omega)) (by (simp; done)) rfl <| G0 rfl rfl (by (simp; omega)) (fun _ => rfl) (fun _ => rfl) rfl ?_
  have hp2 := hpi (i + 1) (by omega)
  refine U4 rfl rfl (by simp only [H4, List.length_append, List.length_cons, List.length_nil]; omega) ?_
  rcases hkey : keyG ((ws.getD i default ++ [32]) ++ ws.getD (i + 1) default) with _ | ⟨x, y⟩
  ·skip
   refine c2q (u := .undef) (b := false) (v := .agg [bV false, bV false]) rfl rfl (show (cxT (some rG)).mp rG = some goneTb from if_pos rfl) rfl ⟨rfl, rfl⟩ (by rw [b4g, hkey]; rfl) rfl <| y_M rfl <| y_E rfl <| y_E rfl <| y_A rfl (fun _ => rfl) ?_
   intro g6
   refine xB rfl rfl rfl rfl rfl rfl rfl rfl rfl <| y_S rfl ?_
   refine J6 ⟨fun _ => ⟨by decide +kernel, by decide +kernel⟩, [(.t 3, _), (.t 4, _), (.t 5, _), (.t 6, _), (.t 7, _), (.h 3, _), (.h 4, _), (.h 6, _)], ⟨rfl, rfl, rfl, rfl, rfl, rfl, rfl, rfl, rfl, rfl, rfl, rfl, rfl, rfl, rfl, rfl, trivial⟩, ?_⟩
   refine A3 <| A3 <| A0 <| y_M rfl <| I8 rfl <| xN [3,4,5,6,37] [3,4,6] rfl ?_
   refine A5 rfl (fun hc => ?_) (fun hc => absurd hc (by decide))
   refine E6 <| A0 <| y_M rfl <| F3 rfl rfl (D4 (by omega)) <| y_S rfl <| xN [3,4,5] [3,4] rfl ?_
   refine ⟨(i + 1, _, _), ⟨by omega, by rw [hitsN, List.map_append, hus, b4d, hkey]; simp⟩, (by simp only; omega), ⟨rfl, rfl, rfl, rfl, rfl, trivial⟩⟩
  skip
  refine c2q (u := .undef) (b := true) (v := .agg [bV x, bV y]) rfl rfl (show (cxT (some rG)).mp rG = some goneTb from if_pos rfl) rfl ⟨rfl, rfl⟩ (by rw [b4g, hkey]; rfl) rfl <| y_M rfl <| y_E rfl <| y_E rfl <| y_A rfl (fun _ => rfl) ?_
  intro g6
  refine xB rfl rfl rfl rfl rfl rfl rfl rfl rfl <| y_S rfl ?_
  refine J6 ⟨fun _ => ⟨by decide +kernel, by decide +kernel⟩, [(.t 3, _), (.t 4, _), (.t 5, _), (.t 6, _), (.t 7, _), (.h 3, _), (.h 4, _), (.h 6, _)], ⟨rfl, rfl, rfl, rfl, rfl, rfl, rfl, rfl, rfl, rfl, rfl, rfl, rfl, rfl, rfl, rfl, trivial⟩, ?_⟩
  refine A3 <| A3 <| A0 <| y_M rfl <| I8 rfl <| xN [3,4,5,6,37] [3,4,6] rfl ?_
  refine A5 rfl (fun hc => absurd hc (by decide)) (fun hc => ?_)
  refine A7 <| A3 <| A0 ?_
  (refine B0 rfl rfl (fun _ => rfl) ?_; intro g8)
  refine xN [3,4,5,6,8] [3,4,6,8] rfl <| A3 <| A3 <| A0 <| y_M rfl <| I5 rfl rfl <| y_M rfl <| xN [3,4,5,6,8,38,39,40] [3,4,6,8] rfl <| A9 <| F6 (β := Nat × List W8 × Nat) [(.t 3, _), (.t 4, _), (.t 5, _), (.t 6, _), (.t 38, _), (.t 39, _), (.h 3, _), (.h 4, _), (.h 6, _)] (fun (z : Nat × List W8 × Nat) => match z with | (k, ls, g1) => [(.t 40, iV k), (.h 8, .obj g1 0 1 (ls.map tV)), (.t 8, .sl 8 g1 none 0 ls.length)]) (fun (z : Nat × List W8 × Nat) => match z with | (k, ls, g1) => k ≤ ws.length ∧ ls = leftN ws i x y k) (fun (z : Nat × List W8 × Nat) => match z with | (k, ls, g1) => ws.length - k) (0, [], _) ⟨rfl, rfl, rfl, rfl, rfl, rfl, rfl, rfl, rfl, rfl, rfl, rfl, trivial⟩ ⟨Nat.zero_le _, rfl⟩ ?_
  intro z hb
  obtain ⟨k, ls, g1⟩ := z
  try dsimp only at hb
  obtain ⟨hk1, hls⟩ := hb
  have hll : ls.length ≤ k := by rw [hls]; exact b7i ws i x y k
  refine A3 <| A0 <| G1 rfl rfl <| xN [3,4,5,6,8,38,39,40,41] [3,4,6,8] rfl <| A3 ?_
  refine A5 rfl ?_ ?_ <;> intro hc <;> try simp only [SL] at hc
  ·refine A7 <| A3 <| A9 <| A3 <| A0 <| y_M rfl <| D6 rfl rfl rfl rfl (by omega) (by (simp; done)) rfl <| G0 rfl rfl (by omega) (fun _ => rfl) (fun _ => rfl) rfl <| y_S rfl <| y_S rfl <| xN [3,4,5,6,8,9,10,38,39,40] [3,4,6,8] rfl <| A3 <| A0 <| y_M rfl <| y_M rfl <| S7 rfl rfl <| y_M rfl ?_
   refine C5 rfl rfl ?_ ?_ <;> intro hg0 <;> have hg := hg0 <;> try simp only [SG] at hg
   ·refine a3w rfl rfl rfl rfl rfl (by omega) rfl <| gT rfl rfl <| y_L rfl <| E9 rfl (by assumption) rfl rfl <| y_M rfl ?_
    refine C5 rfl rfl ?_ ?_ <;> intro hg0 <;> have hg := hg0 <;> try simp only [SG] at hg
    ·refine y_M rfl <| gT rfl rfl <| y_M rfl <| gT rfl rfl <| F3 rfl rfl (D4 (by omega)) <| gT rfl rfl <| S7 rfl rfl <| gT rfl rfl <| y_M rfl ?_
     refine C5 rfl rfl ?_ ?_ <;> intro hg0 <;> have hg := hg0 <;> try simp only [SG] at hg
     ·refine a3w rfl rfl rfl rfl rfl (by omega) rfl <| gT rfl rfl <| y_L rfl <| gT rfl rfl <| E9 rfl (by assumption) rfl rfl <| F7 rfl (by assumption) rfl rfl <| I8 rfl <| xN [3,4,5,6,8,10,38,39,40,62] [3,4,6,8] rfl ?_
      refine A5 rfl ?_ ?_ <;> intro hc <;> try simp only [SL] at hc
      ·refine A0 <| y_M rfl <| y_M rfl <| B6 (es := List.map tV [_]) rfl rfl (dT rfl) rfl rfl (fun _ => B1 (A6 fun _ => rfl)) (fun _ => rfl) ?_
       intro g65
       refine O9 rfl rfl rfl rfl (by (simp; done)) (by simp) (by decide) rfl rfl rfl rfl (dT rfl) (fun _ => ⟨rfl, rfl⟩) (by simp only [H4]; omega) (fun _ => rfl) ?_
       intro g66
       (refine xO rfl rfl (by simp) rfl (fun _ => rfl) (fun _ => rfl) ?_; intro g8)
       refine xN [3,4,5,6,8,38,39,40] [3,4,6,8] rfl <| A0 <| F3 rfl rfl (D4 (by omega)) <| y_M rfl <| xN [3,4,5,6,8,38,39,40] [3,4,6,8] rfl ?_
       refine ⟨(k + 1, _, _), ⟨by omega, by (exfalso; omega)⟩, (by simp only; omega), ⟨rfl, rfl, rfl, rfl, rfl, rfl, rfl, rfl, rfl, rfl, rfl, rfl, trivial⟩⟩
      refine A7 <| A0 <| F3 rfl rfl (D4 (by omega)) <| y_M rfl <| xN [3,4,5,6,8,38,39,40] [3,4,6,8] rfl ?_
      refine ⟨(k + 1, _, _), ⟨by omega, by (exfalso; omega)⟩, (by simp only; omega), ⟨rfl, rfl, rfl, rfl, rfl, rfl, rfl, rfl, rfl, rfl, rfl, rfl, trivial⟩⟩
     refine gF rfl rfl <| gT rfl rfl <| F7 rfl (by assumption) rfl rfl <| F7 rfl (by assumption) rfl rfl <| I8 rfl <| xN [3,4,5,6,8,10,38,39,40,62] [3,4,6,8] rfl ?_
     refine A5 rfl (fun hc => ?_) (fun hc => absurd hc (by decide))
     refine A0 <| y_M rfl <| y_M rfl <| B6 (es := List.map tV [_]) rfl rfl (dT rfl) rfl rfl (fun _ => B1 (A6 fun _ => rfl)) (fun _ => rfl) ?_
     intro g65
     refine xA rfl rfl rfl rfl (by simp) (by simp) rfl rfl rfl rfl rfl (fun _ => rfl) (by simp only [LN]; omega) (fun _ => rfl) ?_
     intro g66
     (refine xO rfl rfl (by simp) rfl (fun _ => rfl) (fun _ => rfl) ?_; intro g8)
     refine xN [3,4,5,6,8,38,39,40] [3,4,6,8] rfl <| A0 <| F3 rfl rfl (D4 (by omega)) <| y_M rfl <| xN [3,4,5,6,8,38,39,40] [3,4,6,8] rfl ?_
     refine ⟨(k + 1, _, _), ⟨by omega, by exact b4y hls (by rintro (⟨h1, h2⟩ | ⟨h1, h2⟩) <;> first | omega | exact Bool.noConfusion (h2.symm.trans (show x = false by assumption)))⟩, (by simp only; omega), ⟨rfl, rfl, rfl, rfl, rfl, rfl, rfl, rfl, rfl, rfl, rfl, rfl, trivial⟩⟩
    iterate 4 refine gF rfl rfl ?_
    refine b8q rfl rfl <| b8q rfl rfl <| gF rfl rfl <| E9 rfl (by assumption) rfl rfl <| I8 rfl <| xN [3,4,5,6,8,10,38,39,40,62] [3,4,6,8] rfl ?_
    refine A5 rfl (fun hc => absurd hc (by decide)) (fun hc => ?_)
    refine A7 <| A0 <| F3 rfl rfl (D4 (by omega)) <| y_M rfl <| xN [3,4,5,6,8,38,39,40] [3,4,6,8] rfl ?_
    refine ⟨(k + 1, _, _), ⟨by omega, by exact b7z hls (.inl ⟨by omega, by assumption⟩)⟩, (by simp only; omega), ⟨rfl, rfl, rfl, rfl, rfl, rfl, rfl, rfl, rfl, rfl, rfl, rfl, trivial⟩⟩
   refine gF rfl rfl <| F7 rfl (by assumption) rfl rfl <| y_M rfl <| G7 rfl rfl rfl <| y_M rfl <| G7 rfl rfl rfl <| y_M rfl <| G7 rfl rfl rfl <| F3 rfl rfl (D4 (by omega)) <| G7 rfl rfl rfl <| S7 rfl rfl <| G7 rfl rfl rfl <| y_M rfl ?_
   refine C5 rfl rfl ?_ ?_ <;> intro hg0 <;> have hg := hg0 <;> try simp only [SG] at hg
   ·refine a3w rfl rfl rfl rfl rfl (by omega) rfl <| gT rfl rfl <| y_L rfl <| G7 rfl rfl rfl <| E9 rfl (by assumption) rfl rfl <| F7 rfl rfl rfl rfl <| I8 rfl <| xN [3,4,5,6,8,10,38,39,40,62] [3,4,6,8] rfl ?_
    refine A5 rfl ?_ ?_ <;> intro hc <;> try simp only [SL] at hc
    ·refine A0 <| y_M rfl <| y_M rfl <| B6 (es := List.map tV [_]) rfl rfl (dT rfl) rfl rfl (fun _ => B1 (A6 fun _ => rfl)) (fun _ => rfl) ?_
     intro g65
     refine xA rfl rfl rfl rfl (by simp) (by simp) rfl rfl rfl rfl rfl (fun _ => rfl) (by simp only [LN]; omega) (fun _ => rfl) ?_
     intro g66
     (refine xO rfl rfl (by simp) rfl (fun _ => rfl) (fun _ => rfl) ?_; intro g8)
     refine xN [3,4,5,6,8,38,39,40] [3,4,6,8] rfl <| A0 <| F3 rfl rfl (D4 (by omega)) <| y_M rfl <| xN [3,4,5,6,8,38,39,40] [3,4,6,8] rfl ?_
     refine ⟨(k + 1, _, _), ⟨by omega, by exact b4y hls (by rintro (⟨h1, h2⟩ | ⟨h1, h2⟩) <;> first | omega | exact Bool.noConfusion (h2.symm.trans (show y = false by assumption)))⟩, (by simp only; omega), ⟨rfl, rfl, rfl, rfl, rfl, rfl, rfl, rfl, rfl, rfl, rfl, rfl, trivial⟩⟩
    refine A7 <| A0 <| F3 rfl rfl (D4 (by omega)) <| y_M rfl <| xN [3,4,5,6,8,38,39,40] [3,4,6,8] rfl ?_
    refine ⟨(k + 1, _, _), ⟨by omega, by exact b7z hls (.inr ⟨by omega, by assumption⟩)⟩, (by simp only; omega), ⟨rfl, rfl, rfl, rfl, rfl, rfl, rfl, rfl, rfl, rfl, rfl, rfl, trivial⟩⟩
   refine gF rfl rfl <| G7 rfl rfl rfl <| F7 rfl (by assumption) rfl rfl <| F7 rfl rfl rfl rfl <| I8 rfl <| xN [3,4,5,6,8,10,38,39,40,62] [3,4,6,8] rfl ?_
   refine A5 rfl (fun hc => ?_) (fun hc => absurd hc (by decide))
   refine A0 <| y_M rfl <| y_M rfl <| B6 (es := List.map tV [_]) rfl rfl (dT rfl) rfl rfl (fun _ => B1 (A6 fun _ => rfl)) (fun _ => rfl) ?_
   intro g65
   refine xA rfl rfl rfl rfl (by simp) (by simp) rfl rfl rfl rfl rfl (fun _ => rfl) (by simp only [LN]; omega) (fun _ => rfl) ?_
   intro g66
   (refine xO rfl rfl (by simp) rfl (fun _ => rfl) (fun _ => rfl) ?_; intro g8)
   refine xN [3,4,5,6,8,38,39,40] [3,4,6,8] rfl <| A0 <| F3 rfl rfl (D4 (by omega)) <| y_M rfl <| xN [3,4,5,6,8,38,39,40] [3,4,6,8] rfl ?_
   refine ⟨(k + 1, _, _), ⟨by omega, by exact b4y hls (by rintro (⟨h1, h2⟩ | ⟨h1, h2⟩) <;> omega)⟩, (by simp only; omega), ⟨rfl, rfl, rfl, rfl, rfl, rfl, rfl, rfl, rfl, rfl, rfl, rfl, trivial⟩⟩
  refine E6 <| A0 <| y_M rfl <| y_M rfl ?_
  apply xC rfl
  ·apply B4
   ·exact J4 rfl rfl rfl (by (simp; done)) (fun _ => rfl)
   apply B4
   ·exact B9 rfl
   exact D8
  ·exact d5d ls 32 (by simp only [H4]; omega) (by rw [hls]; have := d1h (i := i) (x := x) (y := y) hjl (show k = ws.length by omega); simp only [H4]; omega)
  refine ⟨⟨rfl, rfl, rfl, dT rfl, rfl⟩, .inr ⟨rfl, rfl⟩, B7, H6 rfl, fun _ => rfl, fun g70 => ?_⟩
  refine B6 (es := List.map tV [_]) rfl rfl (dT rfl) rfl rfl (fun _ => B1 (A6 fun _ => rfl)) (fun _ => rfl) ?_
  intro g71
  refine xA rfl rfl rfl rfl (by simp) (by simp) rfl rfl rfl rfl rfl (fun _ => rfl) (by simp only [LN]; omega) (fun _ => rfl) ?_
  intro g72
  (refine xO rfl rfl (by simp) rfl (fun _ => rfl) (fun _ => rfl) ?_; intro g4)
  refine xN [3,4,5] [3,4] rfl <| A0 <| y_M rfl <| F3 rfl rfl (D4 (by omega)) <| y_S rfl <| xN [3,4,5] [3,4] rfl ?_
  refine ⟨(i + 1, _, _), ⟨by omega, by rw [hitsN, List.map_append, hus, b4d, hkey]; (rw [hls, show k = ws.length by omega]; rfl)⟩, (by simp only; omega), ⟨rfl, rfl, rfl, rfl, rfl, trivial⟩⟩
 refine E6 <| A3 <| A0 <| y_M rfl ?_
 apply xC rfl
 ·apply B4
  ·exact c0w rfl rfl (by (simp; done)) (A6 fun _ => rfl)
  exact D8
 ·exact d7d us (by simp only [H4]; omega)
 refine ⟨⟨rfl, rfl, rfl, dT rfl, rfl⟩, .inl rfl, B7, J1, fun _ => rfl, fun g74 => ?_⟩
 simp only [List.length_map]
 (refine xO rfl rfl (by simp) rfl (fun _ => rfl) (fun _ => rfl) ?_; intro g2)
 refine xN [2] [2] rfl <| A8 <| M2 rfl rfl (by simp) (by exact A6 fun _ => rfl) trivial ?_
 rw [hus, show i = ws.length - 1 by omega, b5w]

theorem b4f : F4 Tryz.f131 = [0, 2, 1, 3, 8] := by kernel_rfl
theorem d0q (t : Pl) (hsz : t.sz ≤ 1000) (hgd : t.good) (hwf : t.wf) : CW (cxT oG) 131 [trK t] = some (trV (normP t), []) := by
 refine E4 rfl Tryz.func131 rfl ⟨by kernel_rfl, rfl, dT rfl, dT rfl, by decide⟩ b4f <| A3 <| A0 <| a1d rfl rfl rfl (fun _ => M4 rfl) (fun _ => rfl) ?_
 intro g1
 refine y_A rfl (fun _ => rfl) ?_
 intro g2
 refine xN [1,2] [1,2] rfl <| A9 ?_
 rw [← N3]
 refine F6 (β := Pl) [(.t 1, _), (.t 2, _), (.h 2, _)] (fun (u : Pl) => [(.h 1, .obj g1 3 3 [trV u])]) (fun (u : Pl) => u.sz ≤ t.sz ∧ u.good ∧ u.wf ∧ normP u = normP t) (fun (u : Pl) => u.sz) t ⟨rfl, rfl, rfl, rfl, trivial⟩ ⟨Nat.le_refl _, hgd, hwf, rfl⟩ ?_
 intro u hb
 obtain ⟨hus, hug, huw, hun⟩ := hb
 refine A9 <| A3 <| A0 <| y_B rfl ?_
 rw [N3]
 apply xC rfl
 ·apply B4
  ·exact B9 rfl
  exact D8
 ·exact d0k u (by omega) hug
 refine ⟨⟨rfl, rfl, rfl, dT rfl, rfl⟩, .inl rfl, B7, J1, fun _ => rfl, fun g5 => ?_⟩
 simp only [List.length_map]
 (refine xO rfl rfl (by simp) rfl (fun _ => rfl) (fun _ => rfl) ?_; intro g3)
 refine xN [1,2,3] [1,2,3] rfl <| A3 <| A3 <| A0 <| y_M rfl <| I5 rfl rfl <| S7 rfl rfl <| xN [1,2,3,8] [1,2,3] rfl ?_
 refine A5 rfl ?_ ?_ <;> intro hc <;> try simp only [SL] at hc
 ·refine A3 <| A0 <| y_B rfl <| xB rfl rfl rfl rfl rfl rfl rfl rfl rfl <| xN [2] [2] rfl <| A8 <| B5 (C8 rfl rfl rfl rfl (C1 rfl (C1 rfl (C1 rfl F5))) (C3 B2)) ?_
  rw [← hun, Y7 (List.length_eq_zero_iff.1 (by omega))]
  exact (N3 u).symm
 have hmem : (oneP u).getD 0 default ∈ oneP u := U8 (by omega)
 have hok := P8 u huw _ hmem
 refine A7 <| A0 <| y_M rfl <| D6 rfl rfl rfl rfl (by (change 0 < _; omega)) (by (simp; done)) rfl <| G0 rfl rfl (by (change 0 < _; omega)) (fun _ => rfl) (fun _ => rfl) rfl <| xB rfl rfl rfl rfl rfl rfl rfl rfl rfl <| xN [1,2] [1,2] rfl ?_
 try rw [hg0]
 refine ⟨((oneP u).getD 0 default), ⟨by omega, a5c u hug _ hmem, hok.1, by rw [← hun]; exact c5u huw hmem⟩, (by omega), ⟨rfl, rfl, rfl, rfl, trivial⟩⟩

theorem b3d : F4 Tryz.f74 = [0, 2, 3, 8] := by kernel_rfl
theorem d2h (t : Pl) (hwf : t.wf) (hsz : t.sz ≤ 1000) (hln : (showP t).length ≤ 1048576) : CW (cxT (some rG)) 74 [tV (showP t)] = some (tV (showP (normP t)), []) := by
 refine E4 rfl Tryz.func74 rfl ⟨by kernel_rfl, rfl, dT rfl, dT rfl, by decide⟩ b3d <| A3 <| A0 <| y_S rfl <| xN [0] [] rfl <| A9 <| c1p (β := Pl) (fun (u : Pl) => [(.t 0, tV (showP u))]) (fun (u : Pl) => u.sz ≤ t.sz ∧ u.wf ∧ (showP u).length ≤ (showP t).length ∧ normP u = normP t) (fun (u : Pl) => u.sz) t ⟨rfl, trivial⟩ ⟨Nat.le_refl _, hwf, Nat.le_refl _, rfl⟩ ?_
 intro u hb
 obtain ⟨hus, huw, hul, hun⟩ := hb
 refine A9 <| A3 <| A0 <| y_M rfl ?_
 apply xC rfl
 ·apply B4
  ·exact B9 rfl
  exact D8
 ·exact (by have hi := d7o (rG := rG) (showP u) (by omega) (by rw [b5l huw]; omega); rw [c8b huw] at hi; exact hi)
 refine ⟨⟨rfl, rfl, rfl, dT rfl, rfl⟩, .inl rfl, B7, J1, fun _ => rfl, fun g5 => ?_⟩
 simp only [List.length_map]
 (refine xO rfl rfl (by simp) rfl (fun _ => rfl) (fun _ => rfl) ?_; intro g3)
 refine xN [0,3] [3] rfl <| A3 <| A3 <| A0 <| y_M rfl <| I5 rfl rfl <| S7 rfl rfl <| xN [0,3,8] [3] rfl ?_
 refine A5 rfl ?_ ?_ <;> intro hc <;> try simp only [SL] at hc
 ·refine A3 <| A0 <| y_M rfl <| y_S rfl <| xN [2] [] rfl <| A8 <| C6 rfl rfl trivial ?_
  rw [← hun, Y7 (List.length_eq_zero_iff.1 (by omega))]
 have hmem : (oneP u).getD 0 default ∈ oneP u := U8 (by omega)
 have hok := P8 u huw _ hmem
 have hsw := a8r u _ hmem
 have hg0 : ((oneP u).map showP).getD 0 default = showP ((oneP u).getD 0 default) := by rw [List.getD_eq_getElem?_getD, List.getD_eq_getElem?_getD, List.getElem?_map, List.getElem?_eq_getElem (by omega)]; rfl
 refine A7 <| A0 <| y_M rfl <| D6 rfl rfl rfl rfl (by (change 0 < _; omega)) (by (simp; done)) rfl <| G0 rfl rfl (by (simp; omega)) (fun _ => rfl) (fun _ => rfl) rfl <| y_S rfl <| xN [0] [] rfl ?_
 try rw [hg0]
 refine ⟨((oneP u).getD 0 default), ⟨by omega, hok.1, by omega, by rw [← hun]; exact c5u huw hmem⟩, (by omega), ⟨rfl, trivial⟩⟩

theorem c0t : F4 Tryz.f112 = [0, 2] := by kernel_rfl
theorem c9z (xs : List Int) (hx : xs.length ≤ H4) : CW (cxT oG) 112 [.own 1 (xs.map iV)] = some (.own 1 (xs.map iV), []) := by
 refine E4 rfl Tryz.func112 rfl ⟨by kernel_rfl, rfl, dT rfl, dT rfl, by decide⟩ c0t <| A3 <| A0 ?_
 (refine B0 rfl rfl (fun _ => rfl) ?_; intro g2)
 refine xN [0] [0] rfl <| A3 <| A0 <| y_M rfl <| y_M rfl <| I5 rfl rfl <| y_M rfl <| I5 rfl rfl ?_
 refine d5r rfl rfl rfl rfl rfl rfl (fun hz => ?_) (fun hz => ?_)
 ·skip
  (refine B0 rfl rfl (fun _ => rfl) ?_; intro g2)
  refine xN [2] [0,2] rfl <| A8 <| M2 rfl rfl (by (simp; done)) (by rfl) trivial ?_
  (have h0 : xs = [] := (by simpa using hz); subst h0; rfl)
 skip
 (refine xO rfl rfl (by simp) rfl (fun _ => rfl) (fun _ => rfl) ?_; intro g2)
 refine xN [2] [0,2] rfl <| A8 <| M2 rfl rfl (by (simp; done)) (by exact A6 fun _ => rfl) trivial ?_
 rfl

theorem c0l : F4 Tryz.f105 = [0, 2] := by kernel_rfl
theorem c9a (x : List Int) (hl : x.length ≤ 1048576) : CW (cxT oG) 105 [L x] = some (.own 1 (x.map iV), []) := by
 refine E4 rfl Tryz.func105 rfl ⟨by kernel_rfl, rfl, dT rfl, dT rfl, by decide⟩ c0l <| A3 <| A0 ?_
 (refine B0 rfl rfl (fun _ => rfl) ?_; intro g2)
 refine xN [0] [] rfl <| A3 <| A0 <| y_M rfl ?_
 apply xC rfl
 ·apply B4
  ·exact B9 rfl
  exact D8
 ·exact d0a x (by simp only [H4]; omega)
 refine ⟨⟨rfl, rfl, rfl, dT rfl, rfl⟩, .inl rfl, B7, J1, fun _ => rfl, fun g4 => ?_⟩
 simp only [List.length_map]
 apply xC rfl
 ·apply B4
  ·exact c0w rfl rfl (by (simp; done)) (A6 fun _ => rfl)
  exact D8
 ·exact c9z x (by simp only [H4]; omega)
 refine ⟨⟨rfl, rfl, rfl, dT rfl, rfl⟩, .inl rfl, B7, J1, fun _ => rfl, fun g5 => ?_⟩
 simp only [List.length_map]
 (refine xO rfl rfl (by simp) rfl (fun _ => rfl) (fun _ => rfl) ?_; intro g2)
 refine xN [2] [2] rfl <| A8 <| M2 rfl rfl (by simp) (by exact A6 fun _ => rfl) trivial ?_
 rfl

theorem c5m : F4 Tryz.f119 = [0, 2, 1, 10, 17, 16, 18, 15, 5, 3] := by kernel_rfl
theorem d8r (t : Pl) (hln : (showP t).length ≤ 1048576) (hgd : t.good) : CW (cxT oG) 119 [trK t] = some (tV (showP t), []) := by
 obtain ⟨kk, hkk⟩ : ∃ kk : Nat, t.sz < kk := ⟨_, Nat.lt_succ_self _⟩
 revert t
 induction kk with
 | zero => intro t hln hgd hkk; exact absurd hkk (Nat.not_lt_zero _)
 | succ kk ih =>
  intro t hln hgd hkk
  have hkl := a8b t
  have hkz := fun i => c1d (t := t) (i := i)
  have hkg := fun i => a4z hgd (i := i)
  have hst := fun i h => b3a (t := t) h (i := i)
  have hall := fun h => a9x (t := t) h
  have hnl : t.op = lW → t.kids.length = 0 ∧ O2 t.ns = showP t := fun e => by obtain ⟨ns, rfl, _⟩ := V1 hgd e; exact ⟨rfl, rfl⟩
  have hvn := d6x hgd
  have hvl := a9h hvn
  have hnb := c8s hvn
  have hll := a0n hnb
  refine E4 rfl Tryz.func119 rfl ⟨by kernel_rfl, rfl, dT rfl, dT rfl, by decide⟩ c5m <| A3 <| A0 <| a1d rfl rfl rfl (fun _ => M4 rfl) (fun _ => rfl) ?_
  intro g1
  refine y_S rfl <| xN [1] [1] rfl <| A3 <| A0 <| y_F rfl <| y_L rfl <| y_S rfl <| xN [1,3] [1] rfl <| A3 <| A3 <| A0 <| y_F rfl <| y_L rfl <| P4 rfl rfl <| xN [1,3,10] [1] rfl ?_
  refine A5 rfl ?_ ?_ <;> intro hc <;> try simp only [SL] at hc
  ·refine A0 <| y_F rfl <| y_L rfl ?_
   refine xC1 rfl rfl (a5i t.ns (by omega) hnb) ⟨rfl, rfl, rfl⟩ rfl rfl fun g13 => ?_
   refine y_S rfl <| xN [1,3] [1] rfl <| A3 <| A3 <| A0 <| y_F rfl <| y_L rfl <| C2 rfl rfl <| y_M rfl <| xN [3,15,16,17] [] rfl <| A9 <| F6 (β := Nat × W8) [(.t 15, _), (.t 16, _)] (fun (z : Nat × W8) => match z with | (i, a) => [(.t 17, iV i), (.t 3, tV a)]) (fun (z : Nat × W8) => match z with | (i, a) => i ≤ t.kids.length ∧ (t.op = lW → a = showP t) ∧ (t.op ≠ lW → a = a1j t i)) (fun (z : Nat × W8) => match z with | (i, a) => t.kids.length - i) (0, _) ⟨rfl, rfl, rfl, rfl, trivial⟩ ⟨Nat.zero_le _, by exact fun e => (hnl e).2, by exact fun h => absurd (by assumption) h⟩ ?_
   intro z hb
   obtain ⟨i, a⟩ := z
   try dsimp only at hb
   obtain ⟨hi1, ha1, ha2⟩ := hb
   refine A3 <| A0 <| G1 rfl rfl <| xN [3,15,16,17,18] [] rfl <| A3 ?_
   refine A5 rfl ?_ ?_ <;> intro hc <;> try simp only [SL] at hc
   ·refine A7 <| A3 <| A9 <| A3 <| A0 <| B8 rfl rfl rfl (fun _ => rfl) (by omega) <| y_I rfl <| y_A rfl (fun _ => rfl) ?_
    intro g5
    refine xB rfl rfl rfl rfl rfl rfl rfl rfl rfl <| xN [3,5,15,16,17] [5] rfl <| A0 <| y_M rfl <| y_B rfl ?_
    have h1 := hst i (fun e => by have := (hnl e).1; omega) (by omega)
    have h2 := hkz i (by omega)
    rw [ha2 (fun e => by have := (hnl e).1; omega)]
    refine xC1 rfl rfl ((by have hi := ih (t.kids.getD i default) (by have := b9w (t := t) (i := i) (by omega); omega) (hkg i (by omega)) (by omega); rw [← N3] at hi; exact hi)) ⟨rfl, rfl, rfl⟩ rfl rfl fun g23 => ?_
    iterate 2 refine U4 rfl rfl (by simp only [H4, List.length_append, List.length_cons, List.length_nil]; omega) ?_
    refine y_S rfl <| xN [3,15,16,17] [] rfl <| A0 <| F3 rfl rfl (D4 (by omega)) <| y_M rfl <| xN [3,15,16,17] [] rfl ?_
    refine ⟨(i + 1, _), ⟨by omega, fun e => by have := (hnl e).1; omega, fun e => by rw [a1j]; simp⟩, (by simp only; omega), ⟨rfl, rfl, rfl, rfl, trivial⟩⟩
   refine E6 <| A3 <| A0 <| y_M rfl <| y_S rfl <| xN [2] [] rfl <| A8 <| C6 rfl rfl trivial ?_
   by_cases e : t.op = lW
   ·rw [ha1 e]
   rw [ha2 e, show i = t.kids.length by omega, hall e]
  refine A7 <| A3 <| A3 <| A0 <| y_F rfl <| y_L rfl <| C2 rfl rfl <| y_M rfl <| xN [3,15,16,17] [] rfl <| A9 <| F6 (β := Nat × W8) [(.t 15, _), (.t 16, _)] (fun (z : Nat × W8) => match z with | (i, a) => [(.t 17, iV i), (.t 3, tV a)]) (fun (z : Nat × W8) => match z with | (i, a) => i ≤ t.kids.length ∧ (t.op = lW → a = showP t) ∧ (t.op ≠ lW → a = a1j t i)) (fun (z : Nat × W8) => match z with | (i, a) => t.kids.length - i) (0, _) ⟨rfl, rfl, rfl, rfl, trivial⟩ ⟨Nat.zero_le _, by exact fun e => absurd e (by assumption), by exact fun _ => rfl⟩ ?_
  intro z hb
  obtain ⟨i, a⟩ := z
  try dsimp only at hb
  obtain ⟨hi1, ha1, ha2⟩ := hb
  refine A3 <| A0 <| G1 rfl rfl <| xN [3,15,16,17,18] [] rfl <| A3 ?_
  refine A5 rfl ?_ ?_ <;> intro hc <;> try simp only [SL] at hc
  ·refine A7 <| A3 <| A9 <| A3 <| A0 <| B8 rfl rfl rfl (fun _ => rfl) (by omega) <| y_I rfl <| y_A rfl (fun _ => rfl) ?_
   intro g5
   refine xB rfl rfl rfl rfl rfl rfl rfl rfl rfl <| xN [3,5,15,16,17] [5] rfl <| A0 <| y_M rfl <| y_B rfl ?_
   have h1 := hst i (fun e => by have := (hnl e).1; omega) (by omega)
   have h2 := hkz i (by omega)
   rw [ha2 (fun e => by have := (hnl e).1; omega)]
   refine xC1 rfl rfl ((by have hi := ih (t.kids.getD i default) (by have := b9w (t := t) (i := i) (by omega); omega) (hkg i (by omega)) (by omega); rw [← N3] at hi; exact hi)) ⟨rfl, rfl, rfl⟩ rfl rfl fun g23 => ?_
   iterate 2 refine U4 rfl rfl (by simp only [H4, List.length_append, List.length_cons, List.length_nil]; omega) ?_
   refine y_S rfl <| xN [3,15,16,17] [] rfl <| A0 <| F3 rfl rfl (D4 (by omega)) <| y_M rfl <| xN [3,15,16,17] [] rfl ?_
   refine ⟨(i + 1, _), ⟨by omega, fun e => by have := (hnl e).1; omega, fun e => by rw [a1j]; simp⟩, (by simp only; omega), ⟨rfl, rfl, rfl, rfl, trivial⟩⟩
  refine E6 <| A3 <| A0 <| y_M rfl <| y_S rfl <| xN [2] [] rfl <| A8 <| C6 rfl rfl trivial ?_
  by_cases e : t.op = lW
  ·rw [ha1 e]
  rw [ha2 e, show i = t.kids.length by omega, hall e]

theorem b4b : F4 Tryz.f126 = [0, 2, 4, 10, 5, 3, 27] := by kernel_rfl
theorem d2c (xs : List Int) (hl : xs.length ≤ 1000) : CW (cxT oG) 126 [L xs] = some (.own 1 ((T3 xs).map iV), []) := by
 refine E4 rfl Tryz.func126 rfl ⟨by kernel_rfl, rfl, dT rfl, dT rfl, by decide⟩ b4b <| A3 <| A0 ?_
 (refine B0 rfl rfl (fun _ => rfl) ?_; intro g2)
 refine xN [0] [] rfl <| A3 <| A0 <| B6 (es := List.map iV []) rfl rfl (dT rfl) rfl rfl (fun _ => B1 (A6 fun _ => rfl)) (fun _ => rfl) ?_
 intro g6
 (refine xO rfl rfl (by simp) rfl (fun _ => rfl) (fun _ => rfl) ?_; intro g3)
 refine xN [0,3] [3] rfl <| A3 <| A3 <| A0 <| y_S rfl <| xN [0,3,4] [3] rfl <| A9 <| F6 (β := Nat × List Int × Nat) [(.t 0, _)] (fun (z : Nat × List Int × Nat) => match z with | (i, out, g) => [(.t 4, iV i), (.t 3, .sl 3 g none 0 out.length), (.h 3, .obj g 0 1 (out.map iV))]) (fun (z : Nat × List Int × Nat) => match z with | (i, out, g) => i ≤ xs.length ∧ out = T3 (xs.take i)) (fun (z : Nat × List Int × Nat) => match z with | (i, out, g) => xs.length - i) (0, [], _) ⟨rfl, rfl, rfl, rfl, trivial⟩ ⟨Nat.zero_le _, rfl⟩ ?_
 intro z hb
 obtain ⟨i, out, g⟩ := z
 try dsimp only at hb
 obtain ⟨hi1, hi2⟩ := hb
 have hol : out.length = i := by rw [hi2, a3f, List.length_take]; omega
 refine A3 <| A3 <| A0 <| y_M rfl <| y_M rfl <| C2 rfl rfl <| G1 rfl rfl <| xN [0,3,4,10] [3] rfl ?_
 refine A5 rfl ?_ ?_ <;> intro hc <;> try simp only [SL] at hc
 ·refine A7 <| A3 <| A9 <| A3 <| A0 <| y_S rfl <| xN [0,3,4,5] [3] rfl <| A3 <| A9 <| F6 (β := Nat) [(.t 0, _), (.t 3, _), (.t 4, _), (.h 3, _)] (fun (k : Nat) => [(.t 5, iV k)]) (fun (k : Nat) => k ≤ out.length ∧ ∀ j, j < k → out.getD j default ≤ xs.getD i default) (fun (k : Nat) => out.length - k) 0 ⟨rfl, rfl, rfl, rfl, rfl, trivial⟩ ⟨Nat.zero_le _, fun j h => by omega⟩ ?_
  intro k hb
  obtain ⟨hk1, hk2⟩ := hb
  refine A3 <| A3 <| A0 <| y_M rfl <| y_M rfl <| I5 rfl rfl <| G1 rfl rfl <| y_M rfl ?_
  refine C5 rfl rfl ?_ ?_ <;> intro hg0 <;> have hg := hg0 <;> try simp only [SG] at hg
  ·refine y_M rfl <| gT rfl rfl <| y_M rfl <| gT rfl rfl <| D6 rfl rfl rfl rfl (by omega) (by (simp; done)) rfl <| gT rfl rfl <| G0 rfl rfl (by omega) (fun _ => rfl) (fun _ => rfl) rfl <| gT rfl rfl <| y_M rfl <| gT rfl rfl <| y_M rfl <| gT rfl rfl <| B8 rfl rfl rfl (fun _ => rfl) (by omega) <| gT rfl rfl <| y_I rfl <| gT rfl rfl <| a8f rfl rfl <| E9 rfl (by assumption) rfl rfl ?_
   refine J6 ⟨fun _ => ⟨by decide +kernel, by decide +kernel⟩, [(.t 0, _), (.t 3, _), (.t 4, _), (.t 5, _), (.t 27, _), (.h 3, _)], ⟨rfl, rfl, rfl, rfl, rfl, rfl, rfl, rfl, rfl, rfl, rfl, rfl, trivial⟩, ?_⟩
   refine A5 rfl ?_ ?_ <;> intro hc <;> try simp only [SL] at hc
   ·refine A7 <| A9 <| A0 <| y_M rfl <| F3 rfl rfl (D4 (by omega)) <| y_S rfl <| xN [0,3,4,5] [3] rfl ?_
    refine ⟨k + 1, ⟨by omega, fun a ha => by rcases Nat.lt_succ_iff_lt_or_eq.1 ha with h | h; exact hk2 a h; subst h; exact hc⟩, (by omega), ⟨rfl, rfl, rfl, rfl, rfl, trivial⟩⟩
   refine E6 <| A0 <| B6 (es := List.map iV []) rfl rfl (dT rfl) rfl rfl (fun _ => B1 (A6 fun _ => rfl)) (fun _ => rfl) ?_
   intro g30
   refine y_M rfl <| y_M rfl <| b3z rfl rfl rfl (G9 rfl) (by omega) rfl <| a0i rfl rfl rfl rfl (by decide) rfl (by (simp; done)) (by omega) rfl rfl rfl (dT rfl) (fun _ => ⟨rfl, rfl, rfl⟩) (by simp only [H4]; (simp only [List.length_nil, List.length_cons, List.length_append, Nat.zero_add, List.length_map]; omega)) (fun _ => rfl) ?_
   intro g34
   refine y_M rfl <| y_M rfl <| B8 rfl rfl rfl (fun _ => rfl) (by omega) <| y_I rfl <| B6 (es := List.map iV [_]) rfl rfl (dT rfl) rfl rfl (fun _ => B1 (A6 fun _ => rfl)) (fun _ => rfl) ?_
   intro g39
   refine O9 rfl rfl rfl rfl (by (simp; done)) (by simp) (by decide) rfl rfl rfl rfl (dT rfl) (fun _ => ⟨rfl, rfl⟩) (by simp only [H4]; (simp; omega)) (fun _ => rfl) ?_
   intro g40
   refine y_M rfl <| y_M rfl <| b1i rfl rfl rfl K7 (G9 rfl) (by omega) rfl <| a0i rfl rfl rfl rfl (by decide) rfl (by (simp; done)) (by omega) rfl rfl rfl (dT rfl) (fun _ => ⟨rfl, rfl, rfl⟩) (by simp only [H4]; (simp; omega)) (fun _ => rfl) ?_
   intro g44
   (refine xO rfl rfl (by simp) rfl (fun _ => rfl) (fun _ => rfl) ?_; intro g3)
   refine J6 ⟨fun _ => ⟨by decide +kernel, by decide +kernel⟩, [(.t 0, _), (.t 3, _), (.t 4, _), (.h 3, _)], ⟨rfl, rfl, rfl, rfl, rfl, rfl, rfl, rfl, trivial⟩, ?_⟩
   refine A0 <| y_M rfl <| F3 rfl rfl (D4 (by omega)) <| y_S rfl <| xN [0,3,4] [3] rfl ?_
   refine ⟨(i + 1, _, _), ?_, (by simp only; omega), ⟨rfl, rfl, rfl, rfl, trivial⟩⟩
   exact ⟨by omega, by rw [b4w (by omega), ← hi2]; exact b0p (hi2 ▸ W1 _) hk1 hk2 fun h => by omega⟩
  iterate 8 refine gF rfl rfl ?_
  refine F7 rfl (by assumption) rfl rfl ?_
  refine J6 ⟨fun _ => ⟨by decide +kernel, by decide +kernel⟩, [(.t 0, _), (.t 3, _), (.t 4, _), (.t 5, _), (.t 27, _), (.h 3, _)], ⟨rfl, rfl, rfl, rfl, rfl, rfl, rfl, rfl, rfl, rfl, rfl, rfl, trivial⟩, ?_⟩
  refine A5 rfl (fun hc => absurd hc (by decide)) (fun hc => ?_)
  refine E6 <| A0 <| B6 (es := List.map iV []) rfl rfl (dT rfl) rfl rfl (fun _ => B1 (A6 fun _ => rfl)) (fun _ => rfl) ?_
  intro g30
  refine y_M rfl <| y_M rfl <| b3z rfl rfl rfl (G9 rfl) (by omega) rfl <| a0i rfl rfl rfl rfl (by decide) rfl (by (simp; done)) (by omega) rfl rfl rfl (dT rfl) (fun _ => ⟨rfl, rfl, rfl⟩) (by simp only [H4]; (simp only [List.length_nil, List.length_cons, List.length_append, Nat.zero_add, List.length_map]; omega)) (fun _ => rfl) ?_
  intro g34
  refine y_M rfl <| y_M rfl <| B8 rfl rfl rfl (fun _ => rfl) (by omega) <| y_I rfl <| B6 (es := List.map iV [_]) rfl rfl (dT rfl) rfl rfl (fun _ => B1 (A6 fun _ => rfl)) (fun _ => rfl) ?_
  intro g39
  refine O9 rfl rfl rfl rfl (by (simp; done)) (by simp) (by decide) rfl rfl rfl rfl (dT rfl) (fun _ => ⟨rfl, rfl⟩) (by simp only [H4]; (simp; omega)) (fun _ => rfl) ?_
  intro g40
  refine y_M rfl <| y_M rfl <| b1i rfl rfl rfl K7 (G9 rfl) (by omega) rfl <| a0i rfl rfl rfl rfl (by decide) rfl (by (simp; done)) (by omega) rfl rfl rfl (dT rfl) (fun _ => ⟨rfl, rfl, rfl⟩) (by simp only [H4]; (simp; omega)) (fun _ => rfl) ?_
  intro g44
  (refine xO rfl rfl (by simp) rfl (fun _ => rfl) (fun _ => rfl) ?_; intro g3)
  refine J6 ⟨fun _ => ⟨by decide +kernel, by decide +kernel⟩, [(.t 0, _), (.t 3, _), (.t 4, _), (.h 3, _)], ⟨rfl, rfl, rfl, rfl, rfl, rfl, rfl, rfl, trivial⟩, ?_⟩
  refine A0 <| y_M rfl <| F3 rfl rfl (D4 (by omega)) <| y_S rfl <| xN [0,3,4] [3] rfl ?_
  refine ⟨(i + 1, _, _), ?_, (by simp only; omega), ⟨rfl, rfl, rfl, rfl, trivial⟩⟩
  exact ⟨by omega, by rw [b4w (by omega), ← hi2]; exact b0p (hi2 ▸ W1 _) hk1 hk2 fun h => by omega⟩
 refine E6 <| A3 <| A0 <| y_M rfl ?_
 (refine xO rfl rfl (by simp) rfl (fun _ => rfl) (fun _ => rfl) ?_; intro g2)
 refine xN [2] [2] rfl <| A8 <| M2 rfl rfl (by simp) (by exact A6 fun _ => rfl) trivial ?_
 rw [hi2, List.take_of_length_le (by omega)]

theorem c5a : F4 Tryz.f110 = [0, 2, 8, 7, 9, 6, 5, 3] := by kernel_rfl
theorem d9a (x : List Int) (hv : vl x = true) : CW (cxT oG) 110 [L x] = some (iV x.sum, []) := by
 have hx40 := (Q3.1 hv).1
 have hgb := a0h hv
 refine E4 rfl Tryz.func110 rfl ⟨by kernel_rfl, rfl, dT rfl, dT rfl, by decide⟩ c5a <| A3 <| A0 <| y_S rfl <| xN [0] [] rfl <| A3 <| A0 <| y_S rfl <| xN [0,3] [] rfl <| A3 <| A3 <| A0 <| y_M rfl <| C2 rfl rfl <| y_M rfl <| xN [3,6,7,8] [] rfl <| A9 <| F6 (β := Nat × Int) [(.t 6, _), (.t 7, _)] (fun (z : Nat × Int) => match z with | (i, a) => [(.t 8, iV i), (.t 3, iV a)]) (fun (z : Nat × Int) => match z with | (i, a) => i ≤ x.length ∧ a = prS (H2 x) i) (fun (z : Nat × Int) => match z with | (i, a) => x.length - i) (0, 0) ⟨rfl, rfl, rfl, rfl, trivial⟩ ⟨Nat.zero_le _, rfl⟩ ?_
 intro z hb
 obtain ⟨i, a⟩ := z
 try dsimp only at hb
 obtain ⟨hi1, ha⟩ := hb
 have hsb := c5j hv i
 have hgi : -100000 ≤ x.getD i default ∧ x.getD i default ≤ 100000 := hgb i
 rw [← ha] at hsb
 refine A3 <| A0 <| G1 rfl rfl <| xN [3,6,7,8,9] [] rfl <| A3 ?_
 refine A5 rfl ?_ ?_ <;> intro hc <;> try simp only [SL] at hc
 ·refine A7 <| A3 <| A9 <| A3 <| A0 <| B8 rfl rfl rfl (fun _ => rfl) (by omega) <| y_I rfl <| y_S rfl <| xN [3,5,6,7,8] [] rfl <| A0 <| y_M rfl <| y_M rfl <| F3 rfl rfl (D4 (by omega)) <| y_S rfl <| xN [3,6,7,8] [] rfl <| A0 <| F3 rfl rfl (D4 (by omega)) <| y_M rfl <| xN [3,6,7,8] [] rfl ?_
  refine ⟨(i + 1, a + x.getD i default), ⟨by omega, by rw [prS, ha]; rfl⟩, (by simp only; omega), ⟨rfl, rfl, rfl, rfl, trivial⟩⟩
 refine E6 <| A3 <| A0 <| y_M rfl <| y_S rfl <| xN [2] [] rfl <| A8 <| C6 rfl rfl trivial ?_
 rw [ha, show i = x.length by omega, b8b]

theorem c3y : F4 Tryz.f129 = [0, 2, 4, 8, 3] := by kernel_rfl
theorem d8t (x : List Int) (hv : vl x = true) : CW (cxT oG) 129 [L x] = some (iV x.sum, []) := by
 have hx40 := (Q3.1 hv).1
 have hgb := a0h hv
 refine E4 rfl Tryz.func129 rfl ⟨by kernel_rfl, rfl, dT rfl, dT rfl, by decide⟩ c3y <| A3 <| A0 <| y_S rfl <| xN [0] [] rfl <| A3 <| A0 <| y_S rfl <| xN [0,3] [] rfl <| A3 <| A3 <| A0 <| y_S rfl <| xN [0,3,4] [] rfl <| A9 <| F6 (β := Nat × Int) [(.t 0, _)] (fun (z : Nat × Int) => match z with | (i, a) => [(.t 4, iV i), (.t 3, iV a)]) (fun (z : Nat × Int) => match z with | (i, a) => i ≤ x.length ∧ a = prS (H2 x) i) (fun (z : Nat × Int) => match z with | (i, a) => x.length - i) (0, 0) ⟨rfl, rfl, rfl, trivial⟩ ⟨Nat.zero_le _, rfl⟩ ?_
 intro z hb
 obtain ⟨i, a⟩ := z
 try dsimp only at hb
 obtain ⟨hi1, ha⟩ := hb
 have hsb := c5j hv i
 have hgi : -100000 ≤ x.getD i default ∧ x.getD i default ≤ 100000 := hgb i
 rw [← ha] at hsb
 refine A3 <| A3 <| A0 <| y_M rfl <| y_M rfl <| C2 rfl rfl <| G1 rfl rfl <| xN [0,3,4,8] [] rfl ?_
 refine A5 rfl ?_ ?_ <;> intro hc <;> try simp only [SL] at hc
 ·refine A7 <| A3 <| A9 <| A0 <| y_M rfl <| y_M rfl <| y_M rfl <| B8 rfl rfl rfl (fun _ => rfl) (by omega) <| y_I rfl <| F3 rfl rfl (D4 (by omega)) <| y_S rfl <| xN [0,3,4] [] rfl <| A0 <| y_M rfl <| F3 rfl rfl (D4 (by omega)) <| y_S rfl <| xN [0,3,4] [] rfl ?_
  refine ⟨(i + 1, a + x.getD i default), ⟨by omega, by rw [prS, ha]; rfl⟩, (by simp only; omega), ⟨rfl, rfl, rfl, trivial⟩⟩
 refine E6 <| A3 <| A0 <| y_M rfl <| y_S rfl <| xN [2] [] rfl <| A8 <| C6 rfl rfl trivial ?_
 rw [ha, show i = x.length by omega, b8b]

theorem b6c : F4 Tryz.f109 = [0, 2, 13, 12, 14, 11, 4, 3, 23, 22, 24, 21, 5, 7, 27, 37] := by kernel_rfl
theorem d4s (x : List Int) (hv : vl x = true) : CW (cxT oG) 109 [L x] = some (.own 1 ((rkI x).map iV), []) := by
 have hx40 := (Q3.1 hv).1
 have hgb := a0h hv
 refine E4 rfl Tryz.func109 rfl ⟨by kernel_rfl, rfl, dT rfl, dT rfl, by decide⟩ b6c <| A3 <| A0 ?_
 (refine B0 rfl rfl (fun _ => rfl) ?_; intro g2)
 refine xN [0] [] rfl <| A3 <| A0 <| y_M rfl <| C2 rfl rfl <| c3h (f := iV) (x0 := 0) rfl rfl rfl rfl rfl (by simp only [H4]; omega) (dT rfl) (fun _ => B1 (by exact A6 fun _ => rfl)) (fun _ => rfl) ?_
 intro g10
 (refine xO rfl rfl (by simp) rfl (fun _ => rfl) (fun _ => rfl) ?_; intro g3)
 refine xN [0,3] [3] rfl <| A3 <| A3 <| A0 <| y_M rfl <| C2 rfl rfl <| y_M rfl <| xN [0,3,11,12,13] [3] rfl <| A9 ?_
 refine F6 (β := Nat × List Int) [(.t 0, _), (.t 3, _), (.t 11, _), (.t 12, _)] (fun (z : Nat × List Int) => match z with | (i, l) => [(.t 13, iV i), (.h 3, .obj g3 0 1 (l.map iV))]) (fun (z : Nat × List Int) => match z with | (i, l) => i ≤ x.length ∧ S8 x.length (fun i => 1 + prS (rkT x (H2 x i)) x.length) (fun _ => 0) i l) (fun (z : Nat × List Int) => match z with | (i, l) => x.length - i) (0, List.replicate x.length 0) ⟨rfl, rfl, rfl, rfl, rfl, rfl, trivial⟩ ⟨Nat.zero_le _, by simp, fun j hj => by rw [if_neg (by omega)]; simp [List.getD_eq_getElem?_getD, hj]⟩ ?_
 intro z hb
 obtain ⟨i, l⟩ := z
 try dsimp only at hb
 obtain ⟨hi1, hf⟩ := hb
 have hfl := hf.1
 refine A3 <| A0 <| G1 rfl rfl <| xN [0,3,11,12,13,14] [3] rfl <| A3 ?_
 refine A5 rfl ?_ ?_ <;> intro hc <;> try simp only [SL] at hc
 ·refine A7 <| A3 <| A9 <| A3 <| A0 <| y_M rfl <| B8 rfl rfl rfl (fun _ => rfl) (by omega) <| y_I rfl <| y_S rfl <| y_S rfl <| xN [0,3,4,5,11,12,13] [3] rfl <| A3 <| A0 <| y_M rfl <| y_M rfl <| D6 rfl rfl rfl rfl (by omega) (by (simp; omega)) rfl <| J8 rfl rfl rfl (by omega) (fun _ _ => ⟨rfl, rfl, dT rfl, dT rfl, rfl, rfl⟩) (by decide) (by exact B1 (A6 fun _ => rfl)) <| xN [0,3,4,5,11,12,13] [3] rfl <| A3 <| A0 <| y_M rfl <| C2 rfl rfl <| y_M rfl <| xN [0,3,4,5,11,12,13,21,22,23] [3] rfl <| A9 <| F6 (β := Nat × List Int) [(.t 0, _), (.t 3, _), (.t 4, _), (.t 5, _), (.t 11, _), (.t 12, _), (.t 13, _), (.t 21, _), (.t 22, _)] (fun (z : Nat × List Int) => match z with | (k, l2) => [(.t 23, iV k), (.h 3, .obj g3 0 1 (l2.map iV))]) (fun (z : Nat × List Int) => match z with | (k, l2) => k ≤ x.length ∧ l2 = l.set i (1 + prS (rkT x (H2 x i)) k)) (fun (z : Nat × List Int) => match z with | (k, l2) => x.length - k) (0, l.set i 1) ⟨rfl, rfl, rfl, rfl, rfl, rfl, rfl, rfl, rfl, rfl, rfl, trivial⟩ ⟨Nat.zero_le _, rfl⟩ ?_
  intro z hb
  obtain ⟨k, l2⟩ := z
  try dsimp only at hb
  obtain ⟨hk1, hl2⟩ := hb
  have hl2l : l2.length = x.length := by rw [hl2]; simp [hfl]
  have hl2i : l2.getD i default = 1 + prS (rkT x (H2 x i)) k := by rw [hl2, a4d _ _ _ _ (by omega), if_pos rfl]
  have hrb := e0e x (H2 x i) k
  refine A3 <| A0 <| G1 rfl rfl <| xN [0,3,4,5,11,12,13,21,22,23,24] [3] rfl <| A3 ?_
  refine A5 rfl ?_ ?_ <;> intro hc <;> try simp only [SL] at hc
  ·refine A7 <| A3 <| A9 <| A3 <| A0 <| B8 rfl rfl rfl (fun _ => rfl) (by omega) <| y_I rfl <| y_S rfl <| xN [0,3,4,5,7,11,12,13,21,22,23] [3] rfl <| A9 <| A3 <| A0 <| y_M rfl <| y_M rfl <| G1 rfl rfl <| y_S rfl <| xN [0,3,4,5,7,11,12,13,21,22,23,27] [3] rfl ?_
   refine A5 rfl ?_ ?_ <;> intro hc <;> try simp only [SL] at hc
   ·refine A0 <| y_M rfl <| y_M rfl <| D6 rfl rfl rfl rfl (by omega) (by (simp; omega)) rfl <| G0 rfl rfl (by omega) (fun _ => rfl) (fun _ => rfl) rfl <| F3 rfl rfl (D4 (by omega)) <| D6 rfl rfl rfl rfl (by omega) (by (simp; omega)) rfl <| J8 rfl rfl rfl (by omega) (fun _ _ => ⟨rfl, rfl, dT rfl, dT rfl, rfl, rfl⟩) (by decide) (by exact B1 (A6 fun _ => rfl)) <| xN [0,3,4,5,11,12,13,21,22,23] [3] rfl <| A0 <| F3 rfl rfl (D4 (by omega)) <| y_M rfl <| xN [0,3,4,5,11,12,13,21,22,23] [3] rfl ?_
    refine ⟨(k + 1, l2.set i (l2.getD i default + 2)), ?_, (by simp only; omega), ⟨rfl, rfl, rfl, rfl, rfl, rfl, rfl, rfl, rfl, rfl, rfl, trivial⟩⟩
    have hrs : prS (rkT x (H2 x i)) (k + 1) = prS (rkT x (H2 x i)) k + rkT x (H2 x i) k := rfl
    exact ⟨by omega, by rw [hl2i, hl2, List.set_set, hrs, rkT, if_pos (by assumption), Int.add_assoc]⟩
   refine A3 <| A0 <| y_M rfl <| y_M rfl <| S7 rfl rfl <| y_S rfl <| xN [0,3,4,5,11,12,13,21,22,23,37] [3] rfl ?_
   refine A5 rfl ?_ ?_ <;> intro hc <;> try simp only [SL] at hc
   ·refine A0 <| y_M rfl <| y_M rfl <| D6 rfl rfl rfl rfl (by omega) (by (simp; omega)) rfl <| G0 rfl rfl (by omega) (fun _ => rfl) (fun _ => rfl) rfl <| F3 rfl rfl (D4 (by omega)) <| D6 rfl rfl rfl rfl (by omega) (by (simp; omega)) rfl <| J8 rfl rfl rfl (by omega) (fun _ _ => ⟨rfl, rfl, dT rfl, dT rfl, rfl, rfl⟩) (by decide) (by exact B1 (A6 fun _ => rfl)) <| xN [0,3,4,5,11,12,13,21,22,23] [3] rfl <| A0 <| F3 rfl rfl (D4 (by omega)) <| y_M rfl <| xN [0,3,4,5,11,12,13,21,22,23] [3] rfl ?_
    refine ⟨(k + 1, l2.set i (l2.getD i default + 1)), ?_, (by simp only; omega), ⟨rfl, rfl, rfl, rfl, rfl, rfl, rfl, rfl, rfl, rfl, rfl, trivial⟩⟩
    have hrs : prS (rkT x (H2 x i)) (k + 1) = prS (rkT x (H2 x i)) k + rkT x (H2 x i) k := rfl
    exact ⟨by omega, by rw [hl2i, hl2, List.set_set, hrs, rkT, if_neg (by unfold H2; omega), if_pos (by assumption), Int.add_assoc]⟩
   refine A7 <| A0 <| F3 rfl rfl (D4 (by omega)) <| y_M rfl <| xN [0,3,4,5,11,12,13,21,22,23] [3] rfl ?_
   refine ⟨(k + 1, l2), ?_, (by simp only; omega), ⟨rfl, rfl, rfl, rfl, rfl, rfl, rfl, rfl, rfl, rfl, rfl, trivial⟩⟩
   have hrs : prS (rkT x (H2 x i)) (k + 1) = prS (rkT x (H2 x i)) k + rkT x (H2 x i) k := rfl
   exact ⟨by omega, by rw [hl2, hrs, rkT, if_neg (by unfold H2; omega), if_neg (by unfold H2; omega), Int.add_zero]⟩
  refine E6 <| A0 <| F3 rfl rfl (D4 (by omega)) <| y_M rfl <| xN [0,3,11,12,13] [3] rfl ?_
  refine ⟨(i + 1, l2), ?_, (by simp only; omega), ⟨rfl, rfl, rfl, rfl, rfl, rfl, trivial⟩⟩
  exact ⟨by omega, by rw [hl2]; exact hf.step (by omega) (by rw [show k = x.length by omega])⟩
 refine E6 <| A3 <| A0 <| y_M rfl ?_
 (refine H5 rfl rfl (by (simp; omega)) rfl (fun _ => (B1 (by exact A6 fun _ => rfl))) (fun _ => rfl) ?_; intro g2)
 refine xN [2] [2] rfl <| A8 <| M2 rfl rfl (by (simp [hfl]; done)) (by exact A6 fun _ => rfl) trivial ?_
 rw [hf.fin (by omega)]
 rfl

theorem b6r : F4 Tryz.f128 = [0, 2, 4, 12, 7, 18, 29, 5, 40, 6, 3] := by kernel_rfl
theorem d4m (x : List Int) (hv : vl x = true) : CW (cxT oG) 128 [L x] = some (.own 1 ((rkI x).map iV), []) := by
 have hx40 := (Q3.1 hv).1
 have hgb := a0h hv
 refine E4 rfl Tryz.func128 rfl ⟨by kernel_rfl, rfl, dT rfl, dT rfl, by decide⟩ b6r <| A3 <| A0 ?_
 (refine B0 rfl rfl (fun _ => rfl) ?_; intro g2)
 refine xN [0] [] rfl <| A3 <| A0 <| B6 (es := List.map iV []) rfl rfl (dT rfl) rfl rfl (fun _ => B1 (A6 fun _ => rfl)) (fun _ => rfl) ?_
 intro g8
 (refine xO rfl rfl (by simp) rfl (fun _ => rfl) (fun _ => rfl) ?_; intro g3)
 refine xN [0,3] [3] rfl <| A3 <| A3 <| A0 <| y_S rfl <| xN [0,3,4] [3] rfl <| A9 <| F6 (β := Nat × List Int × Nat) [(.t 0, _)] (fun (z : Nat × List Int × Nat) => match z with | (i, l, g) => [(.t 4, iV i), (.h 3, .obj g 0 1 (l.map iV)), (.t 3, .sl 3 g none 0 l.length)]) (fun (z : Nat × List Int × Nat) => match z with | (i, l, g) => i ≤ x.length ∧ l = (List.range i).map fun i => 1 + prS (rkT x (H2 x i)) x.length) (fun (z : Nat × List Int × Nat) => match z with | (i, l, g) => x.length - i) (0, [], _) ⟨rfl, rfl, rfl, rfl, trivial⟩ ⟨Nat.zero_le _, rfl⟩ ?_
 intro z hb
 obtain ⟨i, l, g⟩ := z
 try dsimp only at hb
 obtain ⟨hi1, hl⟩ := hb
 have hll : l.length = i := by rw [hl]; simp
 refine A3 <| A3 <| A0 <| y_M rfl <| y_M rfl <| C2 rfl rfl <| G1 rfl rfl <| xN [0,3,4,12] [3] rfl ?_
 refine A5 rfl ?_ ?_ <;> intro hc <;> try simp only [SL] at hc
 ·refine A7 <| A3 <| A9 <| A3 <| A0 <| y_S rfl <| xN [0,3,4,5] [3] rfl <| A3 <| A0 <| y_S rfl <| xN [0,3,4,5,6] [3] rfl <| A3 <| A3 <| A0 <| y_S rfl <| xN [0,3,4,5,6,7] [3] rfl <| A9 <| F6 (β := Nat × Int × Int) [(.t 0, _), (.t 3, _), (.t 4, _), (.h 3, _)] (fun (z : Nat × Int × Int) => match z with | (k, a, b) => [(.t 7, iV k), (.t 5, iV a), (.t 6, iV b)]) (fun (z : Nat × Int × Int) => match z with | (k, a, b) => k ≤ x.length ∧ 2 * a + b = prS (rkT x (H2 x i)) k ∧ 0 ≤ a ∧ a ≤ k ∧ 0 ≤ b ∧ b ≤ k) (fun (z : Nat × Int × Int) => match z with | (k, a, b) => x.length - k) (0, 0, 0) ⟨rfl, rfl, rfl, rfl, rfl, rfl, rfl, trivial⟩ ⟨Nat.zero_le _, rfl, by decide, by decide, by decide, by decide⟩ ?_
  intro z hb
  obtain ⟨k, a, b⟩ := z
  try dsimp only at hb
  obtain ⟨hk1, hab, ha0, ha1, hb0, hb1⟩ := hb
  refine A3 <| A3 <| A0 <| y_M rfl <| y_M rfl <| C2 rfl rfl <| G1 rfl rfl <| xN [0,3,4,5,6,7,18] [3] rfl ?_
  refine A5 rfl ?_ ?_ <;> intro hc <;> try simp only [SL] at hc
  ·refine A7 <| A3 <| A9 <| A3 <| A3 <| A0 <| y_M rfl <| y_M rfl <| B8 rfl rfl rfl (fun _ => rfl) (by omega) <| y_I rfl <| y_M rfl <| y_M rfl <| B8 rfl rfl rfl (fun _ => rfl) (by omega) <| y_I rfl <| G1 rfl rfl ?_
   refine J6 ⟨fun _ => ⟨by decide +kernel, by decide +kernel⟩, [(.t 0, _), (.t 3, _), (.t 4, _), (.t 5, _), (.t 6, _), (.t 7, _), (.t 29, _), (.h 3, _)], ⟨rfl, rfl, rfl, rfl, rfl, rfl, rfl, rfl, rfl, rfl, rfl, rfl, rfl, rfl, rfl, rfl, trivial⟩, ?_⟩
   refine A5 rfl ?_ ?_ <;> intro hc <;> try simp only [SL] at hc
   ·refine A0 <| y_M rfl <| F3 rfl rfl (D4 (by omega)) <| y_S rfl <| xN [0,3,4,5,6,7] [3] rfl <| A3 <| A0 <| y_M rfl <| y_M rfl <| B8 rfl rfl rfl (fun _ => rfl) (by omega) <| y_I rfl <| y_M rfl <| y_M rfl <| B8 rfl rfl rfl (fun _ => rfl) (by omega) <| y_I rfl <| S7 rfl rfl ?_
    refine J6 ⟨fun _ => ⟨by decide +kernel, by decide +kernel⟩, [(.t 0, _), (.t 3, _), (.t 4, _), (.t 5, _), (.t 6, _), (.t 7, _), (.t 40, _), (.h 3, _)], ⟨rfl, rfl, rfl, rfl, rfl, rfl, rfl, rfl, rfl, rfl, rfl, rfl, rfl, rfl, rfl, rfl, trivial⟩, ?_⟩
    refine A5 rfl ?_ ?_ <;> intro hc <;> try simp only [SL] at hc
    ·refine A0 <| y_M rfl <| F3 rfl rfl (D4 (by omega)) <| y_S rfl <| xN [0,3,4,5,6,7] [3] rfl <| A0 <| y_M rfl <| F3 rfl rfl (D4 (by omega)) <| y_S rfl <| xN [0,3,4,5,6,7] [3] rfl ?_
     refine ⟨(k + 1, a + 1, b + 1), ?_, (by simp only; omega), ⟨rfl, rfl, rfl, rfl, rfl, rfl, rfl, trivial⟩⟩
     have hrs : prS (rkT x (H2 x i)) (k + 1) = prS (rkT x (H2 x i)) k + rkT x (H2 x i) k := rfl
     exact ⟨by omega, by rw [hrs, ← hab, rkT, if_pos (by assumption)]; omega, by omega, by omega, by omega, by omega⟩
    refine A7 <| A0 <| y_M rfl <| F3 rfl rfl (D4 (by omega)) <| y_S rfl <| xN [0,3,4,5,6,7] [3] rfl ?_
    refine ⟨(k + 1, a + 1, b), ?_, (by simp only; omega), ⟨rfl, rfl, rfl, rfl, rfl, rfl, rfl, trivial⟩⟩
    have hrs : prS (rkT x (H2 x i)) (k + 1) = prS (rkT x (H2 x i)) k + rkT x (H2 x i) k := rfl
    exact ⟨by omega, by rw [hrs, ← hab, rkT, if_pos (by assumption)]; omega, by omega, by omega, by omega, by omega⟩
   refine A7 <| A3 <| A0 <| y_M rfl <| y_M rfl <| B8 rfl rfl rfl (fun _ => rfl) (by omega) <| y_I rfl <| y_M rfl <| y_M rfl <| B8 rfl rfl rfl (fun _ => rfl) (by omega) <| y_I rfl <| S7 rfl rfl ?_
   refine J6 ⟨fun _ => ⟨by decide +kernel, by decide +kernel⟩, [(.t 0, _), (.t 3, _), (.t 4, _), (.t 5, _), (.t 6, _), (.t 7, _), (.t 40, _), (.h 3, _)], ⟨rfl, rfl, rfl, rfl, rfl, rfl, rfl, rfl, rfl, rfl, rfl, rfl, rfl, rfl, rfl, rfl, trivial⟩, ?_⟩
   refine A5 rfl ?_ ?_ <;> intro hc <;> try simp only [SL] at hc
   ·refine A0 <| y_M rfl <| F3 rfl rfl (D4 (by omega)) <| y_S rfl <| xN [0,3,4,5,6,7] [3] rfl <| A0 <| y_M rfl <| F3 rfl rfl (D4 (by omega)) <| y_S rfl <| xN [0,3,4,5,6,7] [3] rfl ?_
    refine ⟨(k + 1, a, b + 1), ?_, (by simp only; omega), ⟨rfl, rfl, rfl, rfl, rfl, rfl, rfl, trivial⟩⟩
    have hrs : prS (rkT x (H2 x i)) (k + 1) = prS (rkT x (H2 x i)) k + rkT x (H2 x i) k := rfl
    exact ⟨by omega, by rw [hrs, ← hab, rkT, if_neg (by unfold H2; omega), if_pos (by assumption)]; omega, by omega, by omega, by omega, by omega⟩
   refine A7 <| A0 <| y_M rfl <| F3 rfl rfl (D4 (by omega)) <| y_S rfl <| xN [0,3,4,5,6,7] [3] rfl ?_
   refine ⟨(k + 1, a, b), ?_, (by simp only; omega), ⟨rfl, rfl, rfl, rfl, rfl, rfl, rfl, trivial⟩⟩
   have hrs : prS (rkT x (H2 x i)) (k + 1) = prS (rkT x (H2 x i)) k + rkT x (H2 x i) k := rfl
   exact ⟨by omega, by rw [hrs, ← hab, rkT, if_neg (by unfold H2; omega), if_neg (by unfold H2; omega)]; omega, by omega, by omega, by omega, by omega⟩
  refine E6 <| A0 <| y_M rfl <| y_M rfl <| c9h rfl rfl (D4 (by omega)) <| y_M rfl <| F3 rfl rfl (D4 (by omega)) <| F3 rfl rfl (D4 (by omega)) <| B6 (es := List.map iV [_]) rfl rfl (dT rfl) rfl rfl (fun _ => B1 (A6 fun _ => rfl)) (fun _ => rfl) ?_
  intro g49
  refine xA rfl rfl rfl rfl (by simp) (by simp) rfl rfl rfl rfl rfl (fun _ => rfl) (by simp only [LN]; omega) (fun _ => rfl) ?_
  intro g50
  (refine xO rfl rfl (by simp) rfl (fun _ => rfl) (fun _ => rfl) ?_; intro g3)
  refine xN [0,3,4] [3] rfl <| A0 <| y_M rfl <| F3 rfl rfl (D4 (by omega)) <| y_S rfl <| xN [0,3,4] [3] rfl ?_
  refine ⟨(i + 1, l ++ [2 * a + b + 1], _), ?_, (by simp only; omega), ⟨rfl, rfl, rfl, rfl, trivial⟩⟩
  exact ⟨by omega, by rw [hl, U6, hab, show k = x.length by omega, Int.add_comm]⟩
 refine E6 <| A3 <| A0 <| y_M rfl ?_
 (refine xO rfl rfl (by simp) rfl (fun _ => rfl) (fun _ => rfl) ?_; intro g2)
 refine xN [2] [2] rfl <| A8 <| M2 rfl rfl (by simp) (by exact A6 fun _ => rfl) trivial ?_
 rw [hl, show i = x.length by omega]
 rfl

theorem b3p : F4 Tryz.f127 = [0, 2, 4, 10, 3] := by kernel_rfl
theorem d1f (x : List Int) (hl : x.length ≤ 1000) : CW (cxT oG) 127 [L x] = some (.own 1 (x.reverse.map iV), []) := by
 refine E4 rfl Tryz.func127 rfl ⟨by kernel_rfl, rfl, dT rfl, dT rfl, by decide⟩ b3p <| A3 <| A0 ?_
 (refine B0 rfl rfl (fun _ => rfl) ?_; intro g2)
 refine xN [0] [] rfl <| A3 <| A0 <| B6 (es := List.map iV []) rfl rfl (dT rfl) rfl rfl (fun _ => B1 (A6 fun _ => rfl)) (fun _ => rfl) ?_
 intro g5
 (refine xO rfl rfl (by simp) rfl (fun _ => rfl) (fun _ => rfl) ?_; intro g3)
 refine xN [0,3] [3] rfl <| A3 <| A3 <| A0 <| y_M rfl <| C2 rfl rfl <| V2 rfl rfl (D4 (by omega)) <| y_S rfl <| xN [0,3,4] [3] rfl <| A9 <| F6 (β := Nat × List Int × Nat) [(.t 0, _)] (fun (z : Nat × List Int × Nat) => match z with | (k, l, g) => [(.t 4, iV ((k : Int) - 1)), (.h 3, .obj g 0 1 (l.map iV)), (.t 3, .sl 3 g none 0 l.length)]) (fun (z : Nat × List Int × Nat) => match z with | (k, l, g) => k ≤ x.length ∧ l = (x.drop k).reverse) (fun (z : Nat × List Int × Nat) => match z with | (k, l, g) => k) (x.length, [], _) ⟨rfl, rfl, rfl, rfl, trivial⟩ ⟨Nat.le_refl _, by simp⟩ ?_
 intro z hb
 obtain ⟨k, l, g⟩ := z
 try dsimp only at hb
 obtain ⟨hk1, hl2⟩ := hb
 have hll : l.length = x.length - k := by rw [hl2]; simp
 refine A3 <| A3 <| A0 <| y_M rfl <| c9p rfl rfl <| xN [0,3,4,10] [3] rfl ?_
 refine A5 rfl ?_ ?_ <;> intro hc <;> try simp only [SL] at hc
 ·obtain ⟨k', rfl⟩ : ∃ k', k = k' + 1 := ⟨k - 1, by omega⟩
  rw [show (((k' + 1 : Nat) : Int) - 1) = (k' : Int) by omega]
  refine A7 <| A3 <| A9 <| A0 <| y_M rfl <| y_M rfl <| y_M rfl <| B8 rfl rfl rfl (fun _ => rfl) (by omega) <| y_I rfl <| B6 (es := List.map iV [_]) rfl rfl (dT rfl) rfl rfl (fun _ => B1 (A6 fun _ => rfl)) (fun _ => rfl) ?_
  intro g18
  refine xA rfl rfl rfl rfl (by simp) (by simp) rfl rfl rfl rfl rfl (fun _ => rfl) (by simp only [LN]; omega) (fun _ => rfl) ?_
  intro g19
  (refine xO rfl rfl (by simp) rfl (fun _ => rfl) (fun _ => rfl) ?_; intro g3)
  refine xN [0,3,4] [3] rfl <| A0 <| y_M rfl <| V2 rfl rfl (D4 (by omega)) <| y_S rfl <| xN [0,3,4] [3] rfl ?_
  refine ⟨(k', l ++ [x.getD k' default], _), ?_, (by simp only; omega), ⟨rfl, rfl, rfl, rfl, trivial⟩⟩
  exact ⟨by omega, by rw [hl2, d1g (show k' < x.length by omega), List.reverse_cons]⟩
 refine E6 <| A3 <| A0 <| y_M rfl ?_
 (refine xO rfl rfl (by simp) rfl (fun _ => rfl) (fun _ => rfl) ?_; intro g2)
 refine xN [2] [2] rfl <| A8 <| M2 rfl rfl (by simp) (by exact A6 fun _ => rfl) trivial ?_
 rw [hl2, show k = 0 by omega]
 rfl

theorem b0c : F4 Tryz.f130 = [0, 2, 3, 7, 15] := by kernel_rfl
theorem c5g (x : List Int) (hl : x.length ≤ 1048576) : CW (cxT oG) 130 [L x] = some (bV (vl x), []) := by
 refine E4 rfl Tryz.func130 rfl ⟨by kernel_rfl, rfl, dT rfl, dT rfl, by decide⟩ b0c <| A3 <| A0 <| y_S rfl <| xN [0] [] rfl <| A3 <| A3 <| A0 <| y_S rfl <| xN [0,3] [] rfl <| A9 <| F6 (β := Nat) [(.t 0, _)] (fun (i : Nat) => [(.t 3, iV i)]) (fun (i : Nat) => i ≤ x.length ∧ ∀ j, j < i → -100000 ≤ x.getD j default ∧ x.getD j default ≤ 100000) (fun (i : Nat) => x.length - i) 0 ⟨rfl, rfl, trivial⟩ ⟨Nat.zero_le _, fun j h => by omega⟩ ?_
 intro i hb
 obtain ⟨hi1, hi2⟩ := hb
 refine A3 <| A3 <| A0 <| y_M rfl <| y_M rfl <| C2 rfl rfl <| G1 rfl rfl <| xN [0,3,7] [] rfl ?_
 refine A5 rfl ?_ ?_ <;> intro hc <;> try simp only [SL] at hc
 ·refine A7 <| A3 <| A9 <| A3 <| A0 <| y_M rfl <| y_M rfl <| B8 rfl rfl rfl (fun _ => rfl) (by omega) <| y_I rfl ?_
  refine xC3 rfl rfl rfl rfl (b7s _ _ _) ⟨rfl, rfl, rfl⟩ rfl rfl fun g14 => ?_
  refine I8 rfl <| xN [0,3,15] [] rfl ?_
  refine A5 rfl ?_ ?_ <;> intro hc <;> try simp only [SL] at hc
  ·refine A3 <| A0 <| y_S rfl <| xN [2] [] rfl <| A8 <| C6 rfl rfl trivial ?_
   rw [vl, c4b (show i < x.length by omega) (by (simp_all; omega)), Bool.and_false]
   rfl
  refine A7 <| A0 <| y_M rfl <| F3 rfl rfl (D4 (by omega)) <| y_S rfl <| xN [0,3] [] rfl ?_
  refine ⟨i + 1, ⟨by omega, fun j hj => by rcases Nat.lt_succ_iff_lt_or_eq.1 hj with h | h; (· exact hi2 j h); (· subst h; assumption)⟩, (by omega), ⟨rfl, rfl, trivial⟩⟩
 refine E6 <| A3 <| A0 <| y_M rfl <| C2 rfl rfl <| a8f rfl rfl <| y_S rfl <| xN [2] [] rfl <| A8 <| C6 rfl rfl trivial ?_
 rw [vl, c9m fun j hj => hi2 j (by omega), Bool.and_true]
 exact congrArg bV (decide_eq_decide.2 (by omega))

theorem b3o : F4 Tryz.f108 = [0, 3, 2, 9] := by kernel_rfl
theorem d0g (x : List Int) (hl : x.length ≤ 1000) : ∃ res outs, (fun res outs => res = .tup [] ∧ outs = [x.reverse.map iV]) res outs ∧ CW (cxT oG) 108 [.own 1 (x.map iV)] = some (res, outs) := by
 refine b8n rfl Tryz.func108 rfl ⟨by kernel_rfl, rfl, dT rfl, dT rfl, by decide⟩ b3o <| A3 <| A0 <| y_M rfl <| I5 rfl rfl ?_
 simp only [List.length_map]
 refine V2 rfl rfl (D4 (by omega)) <| y_S rfl <| y_S rfl <| xN [0,2,3] [0] rfl <| A9 ?_
 rw [show ((x.length : Int) - 1) = (x.length : Int) - 1 - ((0 : Nat) : Int) by simp]
 refine F6 (β := Nat × List Int) [(.t 0, _)] (fun (z : Nat × List Int) => match z with | (i, l) => [(.t 2, iV i), (.t 3, iV ((x.length : Int) - 1 - (i : Int))), (.h 0, .obj 1 1 1 (l.map iV))]) (fun (z : Nat × List Int) => match z with | (i, l) => i ≤ x.length ∧ c0j x i l) (fun (z : Nat × List Int) => match z with | (i, l) => x.length - i) (0, x) ⟨rfl, rfl, rfl, rfl, trivial⟩ ⟨Nat.zero_le _, c0j.start x⟩ ?_
 intro z hb
 obtain ⟨i, l⟩ := z
 try dsimp only at hb
 obtain ⟨hi1, hr⟩ := hb
 have hrl := hr.1
 refine A3 <| A3 <| A0 <| y_M rfl <| y_M rfl <| G1 rfl rfl <| xN [0,2,3,9] [0] rfl ?_
 refine A5 rfl ?_ ?_ <;> intro hc <;> try simp only [SL] at hc
 ·refine A7 <| A3 <| A9 <| A0 ?_
  iterate 6 refine y_M rfl ?_
  rw [show ((x.length : Int) - 1 - (i : Int)) = ((x.length - 1 - i : Nat) : Int) by omega]
  refine D6 rfl rfl rfl rfl (by (simp; omega)) (by (simp; omega)) rfl <| G0 rfl rfl (by omega) (fun _ => rfl) (fun _ => rfl) rfl <| y_M rfl <| y_M rfl <| D6 rfl rfl rfl rfl (by (simp; omega)) (by (simp; omega)) rfl <| G0 rfl rfl (by omega) (fun _ => rfl) (fun _ => rfl) rfl <| D6 rfl rfl rfl rfl (by (simp; omega)) (by (simp; omega)) rfl <| J8 rfl rfl rfl (by omega) (fun _ _ => ⟨rfl, rfl, dT rfl, dT rfl, rfl, rfl⟩) (by decide) (by exact b8a (A6 fun _ => rfl)) <| D6 rfl rfl rfl rfl (by (simp; omega)) (by (simp; omega)) rfl <| J8 rfl rfl rfl (by (simp; omega)) (fun _ _ => ⟨rfl, rfl, dT rfl, dT rfl, rfl, rfl⟩) (by decide) (by exact b8a (A6 fun _ => rfl)) ?_
  refine J6 ⟨fun _ => ⟨by decide +kernel, by decide +kernel⟩, [(.t 0, _), (.t 2, _), (.t 3, _), (.h 0, _)], ⟨rfl, rfl, rfl, rfl, rfl, rfl, rfl, rfl, trivial⟩, ?_⟩
  refine A0 <| y_M rfl <| F3 rfl rfl (D4 (by omega)) ?_
  rw [show ((x.length - 1 - i : Nat) : Int) = (x.length : Int) - 1 - (i : Int) by omega]
  refine y_M rfl <| V2 rfl rfl (D4 (by omega)) <| y_S rfl <| y_S rfl <| xN [0,2,3] [0] rfl ?_
  rw [show ((x.length : Int) - 1 - (i : Int) - 1) = (x.length : Int) - 1 - ((i + 1 : Nat) : Int) by omega]
  refine ⟨(i + 1, _), ?_, (by simp only; omega), ⟨rfl, rfl, rfl, rfl, trivial⟩⟩
  exact ⟨by omega, hr.step (by omega)⟩
 refine E6 ?_
 refine ⟨_, _, ?_, d5u (d4w rfl (a2v fun _ => rfl))⟩
 exact ⟨rfl, by rw [hr.fin (by omega)]⟩

theorem b6h : F4 Tryz.f65 = [0, 1, 2, 6, 9, 7, 19] := by kernel_rfl
theorem d2v (k : Nat) (hk : k < 4) (nums : List Int) (cols : List (List Int)) (hc4 : cols.length ≤ 1048576) (hcb : ∀ c ∈ cols, c.length ≤ 1048576) : CW (cxT oG) 65 [sV (d6p k), L nums, M cols] = some (.own 1 ((cols.getD k default).map iV), []) := by
 have hgl : (cols.getD k default).length ≤ 1048576 := by rcases Nat.lt_or_ge k cols.length with c | c; (· exact hcb _ (U8 c)); (· rw [List.getD_eq_getElem?_getD, List.getElem?_eq_none c]; exact Nat.zero_le _)
 refine E4 rfl Tryz.func65 rfl ⟨by kernel_rfl, rfl, dT rfl, dT rfl, by decide⟩ b6h <| A3 <| A0 ?_
 (refine B0 rfl rfl (fun _ => rfl) ?_; intro g6)
 refine xN [0,1,2] [] rfl <| A3 <| A3 <| A0 <| y_M rfl <| d3w (t := false) rfl rfl (by match k, hk with | 0, _ => decide +kernel | 1, _ => decide +kernel | 2, _ => decide +kernel | 3, _ => decide +kernel) <| xN [0,1,2,9] [] rfl ?_
 refine A5 rfl (fun hc => ?_) (fun hc => ?_)
 ·try simp only [SD] at hc
  exact absurd hc (by decide)
 try simp only [SL] at hc
 refine A7 <| A3 <| A3 <| A0 <| y_M rfl <| b0w (b := UInt8.ofNat (97 + k)) rfl rfl rfl (by decide) rfl ?_
 rw [show (UInt8.ofNat (97 + k)).toNat = 97 + k from by match k, hk with | 0, _ => rfl | 1, _ => rfl | 2, _ => rfl | 3, _ => rfl]
 refine V2 rfl rfl (by constructor <;> simp [IntKind.min, IntKind.max, IntKind.signed, IntKind.bits] <;> omega) ?_
 rw [show ((97 + k : Nat) : Int) - 97 = (k : Int) by omega]
 refine c1f rfl rfl rfl (D4 (by omega)) <| y_S rfl <| xN [2,7] [] rfl <| A3 <| A0 <| y_M rfl <| y_M rfl <| C2 rfl rfl <| G1 rfl rfl <| xN [2,7,19] [] rfl ?_
 refine A5 rfl ?_ ?_ <;> intro hc <;> try simp only [SL] at hc
 ·refine A3 <| A0 <| y_M rfl <| y_M rfl <| B8 rfl rfl rfl (fun _ => rfl) (by omega) <| y_I rfl ?_
  apply xC rfl
  ·apply B4
   ·exact B9 rfl
   exact D8
  ·exact c9a (cols.getD k default) hgl
  refine ⟨⟨rfl, rfl, rfl, dT rfl, rfl⟩, .inl rfl, B7, J1, fun _ => rfl, fun g24 => ?_⟩
  simp only [List.length_map]
  (refine xO rfl rfl (by simp) rfl (fun _ => rfl) (fun _ => rfl) ?_; intro g6)
  refine xN [6] [6] rfl <| A8 <| M2 rfl rfl (by simp) (by exact A6 fun _ => rfl) trivial ?_
  rfl
 refine A7 <| A3 <| A0 ?_
 (refine B0 rfl rfl (fun _ => rfl) ?_; intro g6)
 refine xN [6] [6] rfl <| A8 <| M2 rfl rfl (by simp) (by rfl) trivial ?_
 rw [List.getD_eq_getElem?_getD, List.getElem?_eq_none (by omega)]
 rfl

theorem b4e : F4 Tryz.f65 = [0, 1, 2, 6, 9, 7, 19] := by kernel_rfl
theorem d0l (nums : List Int) (hn : nums.length ≤ 1048576) (cols : List (List Int)) : CW (cxT oG) 65 [sV wList, L nums, M cols] = some (.own 1 (nums.map iV), []) := by
 refine E4 rfl Tryz.func65 rfl ⟨by kernel_rfl, rfl, dT rfl, dT rfl, by decide⟩ b4e <| A3 <| A0 ?_
 (refine B0 rfl rfl (fun _ => rfl) ?_; intro g6)
 refine xN [0,1,2] [] rfl <| A3 <| A3 <| A0 <| y_M rfl <| d3w (t := true) rfl rfl (by decide +kernel) <| xN [0,1,2,9] [] rfl ?_
 refine A5 rfl (fun hc => ?_) (fun hc => ?_)
 ·try simp only [SL] at hc
  refine A3 <| A0 <| y_M rfl ?_
  apply xC rfl
  ·apply B4
   ·exact B9 rfl
   exact D8
  ·exact c9a nums hn
  refine ⟨⟨rfl, rfl, rfl, dT rfl, rfl⟩, .inl rfl, B7, J1, fun _ => rfl, fun g11 => ?_⟩
  simp only [List.length_map]
  (refine xO rfl rfl (by simp) rfl (fun _ => rfl) (fun _ => rfl) ?_; intro g6)
  refine xN [6] [6] rfl <| A8 <| M2 rfl rfl (by simp) (by exact A6 fun _ => rfl) trivial ?_
  rfl
 try simp only [SD] at hc
 exact absurd hc (by decide)

theorem b6j : F4 Tryz.f66 = [0, 1, 4, 5, 15, 20, 21, 6, 25, 29, 33, 32, 34, 7, 45, 49, 48, 50, 8, 66, 9, 72, 86, 10, 91, 105, 109, 114, 124, 129, 128, 130, 127, 12, 11, 142, 156, 63] := by kernel_rfl
theorem c5w (op : ByteArray) (h1 : 1 ≤ nd op) (x y : List Int) (hx : vl x = true) (hy : vl y = true) (ls : List (List Int)) (hl1 : 1 ≤ ls.length) (hl2 : nd op = 2 → 2 ≤ ls.length) (hlx : ls.getD 0 default = x) (hly : 2 ≤ ls.length → ls.getD 1 default = y) : CW (cxT oG) 66 [sV op, M ls] = some (.tup [.own 1 (((mkR op x y).getD []).map iV), bV (mkR op x y).isSome], []) := by
 have hx40 := (Q3.1 hx).1
 have hy40 := (Q3.1 hy).1
 have hgx := a0h hx
 have hgy := a0h hy
 have hsx := a3f x
 refine E4 rfl Tryz.func66 rfl ⟨by kernel_rfl, rfl, dT rfl, dT rfl, by decide⟩ b6j <| A3 <| A0 ?_
 (refine B0 rfl rfl (fun _ => rfl) ?_; intro g4)
 refine y_S rfl <| xN [0,1] [] rfl <| A3 <| A0 ?_
 (refine B0 rfl rfl (fun _ => rfl) ?_; intro g6)
 refine xN [0,1,6] [6] rfl <| A3 <| A3 <| A0 <| y_M rfl <| C2 rfl rfl <| O6 rfl rfl <| xN [0,1,6,15] [6] rfl ?_
 refine A5 rfl (fun hc => ?_) (fun hc => ?_)
 ·try simp only [SL] at hc
  refine A0 <| y_M rfl <| B8 rfl rfl rfl (fun _ => rfl) (by (change 0 < _; omega)) <| y_I rfl ?_
  rw [hlx]
  apply xC rfl
  ·apply B4
   ·exact B9 rfl
   exact D8
  ·exact d0a x (by simp only [H4]; omega)
  refine ⟨⟨rfl, rfl, rfl, dT rfl, rfl⟩, .inl rfl, B7, J1, fun _ => rfl, fun g19 => ?_⟩
  simp only [List.length_map]
  (refine xO rfl rfl (by simp) rfl (fun _ => rfl) (fun _ => rfl) ?_; intro g6)
  refine xN [0,1,6] [6] rfl <| c3c <| A3 <| A0 <| y_M rfl <| xN [1,6,20] [6] rfl ?_
  refine d6b (β := List Int × Nat × Nat) [] trivial (fun (z : List Int × Nat × Nat) => match z with | (r, n, g) => [(.h 6, .obj g 0 1 (r.map iV)), (.t 6, .sl 6 g none 0 n)]) (fun (z : List Int × Nat × Nat) => match z with | (r, n, g) => T5 op x y = some r ∧ n = r.length ∧ r.length ≤ 80) ?_ ?_
  ·skip
   refine A9 <| A3 <| A0 <| I1 rfl rfl <| y_S rfl <| xN [1,6,20,21] [6] rfl ?_
   refine A5 rfl ?_ ?_ <;> intro hc <;> try simp only [SL] at hc
   ·try simp at hc
    refine A0 <| y_M rfl ?_
    apply a6s rfl
    ·apply B4
     ·exact c4z rfl rfl (by decide) (by (simp; done)) (a2v fun _ => rfl)
     exact D8
    ·exact d8x x (by simp only [H4]; omega)
    ·exact ⟨rfl, rfl, rfl, dT rfl, rfl⟩
    ·exact .inl rfl
    ·exact b7o rfl (by simp) (b5b _ _) B7
    ·exact K2 rfl
    ·(intro _; exact C0 (B1 (A6 fun _ => rfl)) rfl)
    intro g24
    refine xN [6] [6] rfl ?_
    refine ⟨(_, _, _), ?_, ⟨rfl, rfl, trivial⟩⟩
    exact ⟨(by (simp [T5, *]; done)), (by (simp; done)), (by omega)⟩
   try simp at hc
   refine A3 <| A0 <| I1 rfl rfl <| y_S rfl <| xN [1,6,20,25] [6] rfl ?_
   refine A5 rfl ?_ ?_ <;> intro hc <;> try simp only [SL] at hc
   ·try simp at hc
    refine A0 <| y_M rfl ?_
    obtain ⟨_, _, ⟨rfl, rfl⟩, hRv⟩ := d0g (oG := oG) x (by omega)
    apply a6s rfl
    ·apply B4
     ·exact c4z rfl rfl (by decide) (by (simp; done)) (a2v fun _ => rfl)
     exact D8
    ·exact hRv
    ·exact ⟨rfl, rfl, rfl, dT rfl, rfl⟩
    ·exact .inl rfl
    ·exact b7o rfl (by simp) (b5b _ _) B7
    ·exact K2 rfl
    ·(intro _; exact C0 (B1 (A6 fun _ => rfl)) rfl)
    intro g28
    refine xN [6] [6] rfl ?_
    refine ⟨(_, _, _), ?_, ⟨rfl, rfl, trivial⟩⟩
    exact ⟨(by (simp [T5, *]; done)), (by (simp; done)), (by (simp; omega))⟩
   try simp at hc
   refine A3 <| A0 <| I1 rfl rfl <| y_S rfl <| xN [1,6,20,29] [6] rfl ?_
   refine A5 rfl ?_ ?_ <;> intro hc <;> try simp only [SL] at hc
   ·try simp at hc
    refine A3 <| A0 <| y_M rfl <| I5 rfl rfl <| y_M rfl <| xN [6,32,33] [6] rfl <| A9 <| F6 (β := Nat × List Int) [(.t 6, _), (.t 32, _)] (fun (z : Nat × List Int) => match z with | (i, l) => [(.t 33, iV i), (.h 6, .obj g6 0 1 (l.map iV))]) (fun (z : Nat × List Int) => match z with | (i, l) => i ≤ x.length ∧ S8 x.length (fun i => -(H2 x i)) (H2 x) i l) (fun (z : Nat × List Int) => match z with | (i, l) => x.length - i) (0, x) ⟨rfl, rfl, rfl, rfl, trivial⟩ ⟨Nat.zero_le _, S8.start x _⟩ ?_
    intro z hb
    obtain ⟨i, l⟩ := z
    try dsimp only at hb
    obtain ⟨hi1, hf⟩ := hb
    have hfl := hf.1
    have hfa := fun h : i < x.length => hf.at h
    have hgi := hgx i
    have hgyi : -100000 ≤ y.getD i default ∧ y.getD i default ≤ 100000 := hgy i
    refine A3 <| A0 <| G1 rfl rfl <| xN [6,32,33,34] [6] rfl <| A3 ?_
    refine A5 rfl ?_ ?_ <;> intro hc <;> try simp only [SL] at hc
    ·refine A7 <| A3 <| A9 <| A3 <| A0 <| y_M rfl <| y_S rfl <| xN [6,7,32,33] [6] rfl <| A0 <| y_M rfl <| y_M rfl <| y_M rfl <| y_M rfl <| D6 rfl rfl rfl rfl (by omega) (by (simp; omega)) rfl <| G0 rfl rfl (by omega) (fun _ => rfl) (fun _ => rfl) rfl <| b8j rfl (D4 (by omega)) <| D6 rfl rfl rfl rfl (by omega) (by (simp; omega)) rfl <| J8 rfl rfl rfl (by omega) (fun _ _ => ⟨rfl, rfl, dT rfl, dT rfl, rfl, rfl⟩) (by decide) (by exact B1 (A6 fun _ => rfl)) <| xN [6,32,33] [6] rfl <| A0 <| F3 rfl rfl (D4 (by omega)) <| y_M rfl <| xN [6,32,33] [6] rfl ?_
     refine ⟨(i + 1, l.set i (-(l.getD i default))), ?_, (by simp only; omega), ⟨rfl, rfl, rfl, rfl, trivial⟩⟩
     exact ⟨by omega, hf.step (by omega) (by rw [hfa (by omega)]; done)⟩
    refine E6 ?_
    refine ⟨(_, _, _), ?_, ⟨rfl, rfl, trivial⟩⟩
    exact ⟨by rw [(hf.fin (by omega)).trans (a7r x fun v => -v)]; simp [T5, *], by omega, by omega⟩
   try simp at hc
   refine A3 <| A0 <| I1 rfl rfl <| y_S rfl <| xN [1,6,20,45] [6] rfl ?_
   refine A5 rfl ?_ ?_ <;> intro hc <;> try simp only [SL] at hc
   ·try simp at hc
    refine A3 <| A0 <| y_M rfl <| I5 rfl rfl <| y_M rfl <| xN [6,48,49] [6] rfl <| A9 <| F6 (β := Nat × List Int) [(.t 6, _), (.t 48, _)] (fun (z : Nat × List Int) => match z with | (i, l) => [(.t 49, iV i), (.h 6, .obj g6 0 1 (l.map iV))]) (fun (z : Nat × List Int) => match z with | (i, l) => i ≤ x.length ∧ S8 x.length (fun i => max (H2 x i) (-(H2 x i))) (H2 x) i l) (fun (z : Nat × List Int) => match z with | (i, l) => x.length - i) (0, x) ⟨rfl, rfl, rfl, rfl, trivial⟩ ⟨Nat.zero_le _, S8.start x _⟩ ?_
    intro z hb
    obtain ⟨i, l⟩ := z
    try dsimp only at hb
    obtain ⟨hi1, hf⟩ := hb
    have hfl := hf.1
    have hfa := fun h : i < x.length => hf.at h
    have hgi := hgx i
    have hgyi : -100000 ≤ y.getD i default ∧ y.getD i default ≤ 100000 := hgy i
    refine A3 <| A0 <| G1 rfl rfl <| xN [6,48,49,50] [6] rfl <| A3 ?_
    refine A5 rfl ?_ ?_ <;> intro hc <;> try simp only [SL] at hc
    ·refine A7 <| A3 <| A9 <| A3 <| A0 <| y_M rfl <| y_S rfl <| xN [6,8,48,49] [6] rfl <| A0 <| y_M rfl <| y_M rfl <| y_M rfl <| y_M rfl <| D6 rfl rfl rfl rfl (by omega) (by (simp; omega)) rfl <| G0 rfl rfl (by omega) (fun _ => rfl) (fun _ => rfl) rfl <| y_M rfl <| y_M rfl <| D6 rfl rfl rfl rfl (by omega) (by (simp; omega)) rfl <| G0 rfl rfl (by omega) (fun _ => rfl) (fun _ => rfl) rfl <| b8j rfl (D4 (by omega)) <| d8g rfl rfl <| D6 rfl rfl rfl rfl (by omega) (by (simp; omega)) rfl <| J8 rfl rfl rfl (by omega) (fun _ _ => ⟨rfl, rfl, dT rfl, dT rfl, rfl, rfl⟩) (by decide) (by exact B1 (A6 fun _ => rfl)) ?_
     refine J6 ⟨fun _ => ⟨by decide +kernel, by decide +kernel⟩, [(.t 6, _), (.t 48, _), (.t 49, _), (.h 6, _)], ⟨rfl, rfl, rfl, rfl, rfl, rfl, rfl, rfl, trivial⟩, ?_⟩
     refine A0 <| F3 rfl rfl (D4 (by omega)) <| y_M rfl <| xN [6,48,49] [6] rfl ?_
     refine ⟨(i + 1, l.set i (max (l.getD i default) (-(l.getD i default)))), ?_, (by simp only; omega), ⟨rfl, rfl, rfl, rfl, trivial⟩⟩
     exact ⟨by omega, hf.step (by omega) (by rw [hfa (by omega)]; done)⟩
    refine E6 ?_
    refine ⟨(_, _, _), ?_, ⟨rfl, rfl, trivial⟩⟩
    exact ⟨by rw [(hf.fin (by omega)).trans (a7r x fun v => max v (-v))]; simp [T5, *], by omega, by omega⟩
   try simp at hc
   refine A3 <| A0 <| I1 rfl rfl <| y_S rfl <| xN [1,6,20,66] [6] rfl ?_
   refine A5 rfl ?_ ?_ <;> intro hc <;> try simp only [SL] at hc
   ·try simp at hc
    refine A3 <| A0 <| y_M rfl <| I5 rfl rfl <| V2 rfl rfl (D4 (by omega)) <| y_S rfl <| xN [6,9] [6] rfl <| A9 <| F6 (β := Nat × List Int) [(.t 6, _)] (fun (z : Nat × List Int) => match z with | (k, l) => [(.t 9, iV ((k : Int) - 1)), (.h 6, .obj g6 0 1 (l.map iV))]) (fun (z : Nat × List Int) => match z with | (k, l) => k ≤ x.length ∧ a3k x (k - 1) l) (fun (z : Nat × List Int) => match z with | (k, l) => k) (x.length, x) ⟨rfl, rfl, rfl, trivial⟩ ⟨Nat.le_refl _, a3k.start x⟩ ?_
    intro z hb
    obtain ⟨k, l⟩ := z
    try dsimp only at hb
    obtain ⟨hk1, hd⟩ := hb
    have hdl := hd.1
    refine A3 <| A3 <| A0 <| y_M rfl <| O6 rfl rfl <| xN [6,9,72] [6] rfl ?_
    refine A5 rfl ?_ ?_ <;> intro hc <;> try simp only [SL] at hc
    ·refine A7 <| A3 <| A9 <| A0 <| y_M rfl <| y_M rfl ?_
     rw [show ((k : Int) - 1) = ((k - 1 : Nat) : Int) by omega]
     refine D6 rfl rfl rfl rfl (by omega) (by (simp; omega)) rfl <| G0 rfl rfl (by omega) (fun _ => rfl) (fun _ => rfl) rfl <| y_M rfl <| y_M rfl <| V2 rfl rfl (D4 (by omega)) ?_
     rw [show ((k - 1 : Nat) : Int) - 1 = ((k - 1 - 1 : Nat) : Int) by omega]
     refine D6 rfl rfl rfl rfl (by omega) (by (simp; omega)) rfl <| G0 rfl rfl (by omega) (fun _ => rfl) (fun _ => rfl) rfl ?_
     have hd1 := hd.val (k - 1)
     have hd2 := hd.val (k - 1 - 1)
     have hg1 := hgx (k - 1)
     have hg2 := hgx (k - 1 - 1)
     have hg3 := hgx (k - 1 - 1 - 1)
     refine V2 rfl rfl (D4 (by omega)) <| D6 rfl rfl rfl rfl (by omega) (by (simp; omega)) rfl <| J8 rfl rfl rfl (by omega) (fun _ _ => ⟨rfl, rfl, dT rfl, dT rfl, rfl, rfl⟩) (by decide) (by exact B1 (A6 fun _ => rfl)) ?_
     refine J6 ⟨fun _ => ⟨by decide +kernel, by decide +kernel⟩, [(.t 6, _), (.t 9, _), (.h 6, _)], ⟨rfl, rfl, rfl, rfl, rfl, rfl, trivial⟩, ?_⟩
     refine A0 <| y_M rfl <| V2 rfl rfl (D4 (by omega)) <| y_S rfl <| xN [6,9] [6] rfl ?_
     refine ⟨(k - 1, _), ?_, (by simp only; omega), ⟨rfl, rfl, rfl, trivial⟩⟩
     exact ⟨by omega, hd.step (by omega) (by omega)⟩
    refine E6 ?_
    refine ⟨(_, _, _), ?_, ⟨rfl, rfl, trivial⟩⟩
    exact ⟨by rw [show l = dfI x from a3k.fin ((show k - 1 = 0 by omega) ▸ hd)]; simp [T5, *], by omega, by omega⟩
   try simp at hc
   refine A3 <| A0 <| I1 rfl rfl <| y_S rfl <| xN [1,6,20,86] [6] rfl ?_
   refine A5 rfl ?_ ?_ <;> intro hc <;> try simp only [SL] at hc
   ·try simp at hc
    refine A3 <| A0 <| y_S rfl <| xN [6,10] [6] rfl <| A9 <| F6 (β := Nat × List Int) [(.t 6, _)] (fun (z : Nat × List Int) => match z with | (i, l) => [(.t 10, iV i), (.h 6, .obj g6 0 1 (l.map iV))]) (fun (z : Nat × List Int) => match z with | (i, l) => 1 ≤ i ∧ S8 x.length (fun i => prS (H2 x) (i + 1)) (H2 x) i l) (fun (z : Nat × List Int) => match z with | (i, l) => x.length - i) (1, x) ⟨rfl, rfl, rfl, trivial⟩ ⟨Nat.le_refl _, S8.start1 x⟩ ?_
    intro z hb
    obtain ⟨i, l⟩ := z
    try dsimp only at hb
    obtain ⟨hi1, hf⟩ := hb
    have hfl := hf.1
    have hfa := fun h : i < x.length => hf.at h
    have hgi := hgx i
    refine A3 <| A3 <| A0 <| y_M rfl <| y_M rfl <| I5 rfl rfl <| G1 rfl rfl <| xN [6,10,91] [6] rfl ?_
    refine A5 rfl ?_ ?_ <;> intro hc <;> try simp only [SL] at hc
    ·refine A7 <| A3 <| A9 <| A0 <| y_M rfl <| y_M rfl <| D6 rfl rfl rfl rfl (by omega) (by (simp; omega)) rfl <| G0 rfl rfl (by omega) (fun _ => rfl) (fun _ => rfl) rfl <| y_M rfl <| y_M rfl <| V2 rfl rfl (D4 (by omega)) ?_
     rw [show ((i : Int) - 1) = ((i - 1 : Nat) : Int) by omega]
     refine D6 rfl rfl rfl rfl (by omega) (by (simp; omega)) rfl <| G0 rfl rfl (by omega) (fun _ => rfl) (fun _ => rfl) rfl ?_
     have hfb := hf.before (j := i - 1) (by omega) (by omega)
     have hsb := c5j hx (i - 1 + 1)
     refine F3 rfl rfl (D4 (by omega)) <| D6 rfl rfl rfl rfl (by omega) (by (simp; omega)) rfl <| J8 rfl rfl rfl (by omega) (fun _ _ => ⟨rfl, rfl, dT rfl, dT rfl, rfl, rfl⟩) (by decide) (by exact B1 (A6 fun _ => rfl)) ?_
     refine J6 ⟨fun _ => ⟨by decide +kernel, by decide +kernel⟩, [(.t 6, _), (.t 10, _), (.h 6, _)], ⟨rfl, rfl, rfl, rfl, rfl, rfl, trivial⟩, ?_⟩
     refine A0 <| y_M rfl <| F3 rfl rfl (D4 (by omega)) <| y_S rfl <| xN [6,10] [6] rfl ?_
     refine ⟨(i + 1, l.set i (l.getD i default + l.getD (i - 1) default)), ?_, (by simp only; omega), ⟨rfl, rfl, rfl, trivial⟩⟩
     have hfb2 := hf.before (j := i - 1) (by omega) (by omega)
     rw [show i - 1 + 1 = i by omega] at hfb2
     exact ⟨by omega, hf.step (by omega) (by rw [hfa (by omega), hfb2, Int.add_comm]; rfl)⟩
    refine E6 ?_
    refine ⟨(_, _, _), ?_, ⟨rfl, rfl, trivial⟩⟩
    exact ⟨by rw [show l = smI x from hf.fin (by omega)]; simp [T5, *], by omega, by omega⟩
   try simp at hc
   refine A3 <| A0 <| I1 rfl rfl <| y_S rfl <| xN [1,6,20,105] [6] rfl ?_
   refine A5 rfl ?_ ?_ <;> intro hc <;> try simp only [SL] at hc
   ·try simp at hc
    refine A0 <| y_M rfl ?_
    apply xC rfl
    ·apply B4
     ·exact J4 rfl rfl rfl (by (simp; done)) (fun _ => rfl)
     exact D8
    ·exact d4s x hx
    refine ⟨⟨rfl, rfl, rfl, dT rfl, rfl⟩, .inr ⟨b6i fun _ => rfl, rfl⟩, B7, J1, fun _ => rfl, fun g108 => ?_⟩
    simp only [List.length_map]
    (refine xO rfl rfl (by simp) rfl (fun _ => rfl) (fun _ => rfl) ?_; intro g6)
    refine xN [6] [6] rfl ?_
    refine ⟨(_, _, _), ?_, ⟨rfl, rfl, trivial⟩⟩
    exact ⟨(by (simp [T5, rkI, *]; done)), (by (simp [dfI, smI, rkI, adI]; done)), (by (simp; omega))⟩
   try simp at hc
   refine A3 <| A0 <| I1 rfl rfl <| y_S rfl <| xN [1,6,20,109] [6] rfl ?_
   refine A5 rfl ?_ ?_ <;> intro hc <;> try simp only [SL] at hc
   ·try simp at hc
    refine A0 <| y_M rfl ?_
    apply xC rfl
    ·apply B4
     ·exact J4 rfl rfl rfl (by (simp; done)) (fun _ => rfl)
     exact D8
    ·exact d9a x hx
    refine ⟨⟨rfl, rfl, rfl, dT rfl, rfl⟩, .inr ⟨rfl, rfl⟩, B7, H6 rfl, fun _ => rfl, fun g112 => ?_⟩
    refine B6 (es := List.map iV [_]) rfl rfl (dT rfl) rfl rfl (fun _ => B1 (A6 fun _ => rfl)) (fun _ => rfl) ?_
    intro g113
    (refine xO rfl rfl (by simp) rfl (fun _ => rfl) (fun _ => rfl) ?_; intro g6)
    refine xN [6] [6] rfl ?_
    refine ⟨(_, _, _), ?_, ⟨rfl, rfl, trivial⟩⟩
    exact ⟨(by (simp [T5, *]; done)), (by (simp; done)), (by (simp; done))⟩
   try simp at hc
   refine A3 <| A0 <| I1 rfl rfl <| y_S rfl <| xN [1,6,20,114] [6] rfl ?_
   refine A5 rfl ?_ ?_ <;> intro hc <;> try simp only [SL] at hc
   ·try simp at hc
    have h2l := hl2 (d3p (.inl hc))
    refine A3 <| A3 <| A0 <| y_M rfl <| B8 rfl rfl rfl (fun _ => rfl) (by (change 0 < _; omega)) <| y_I rfl ?_
    rw [hlx]
    refine C2 rfl rfl <| y_M rfl <| B8 rfl rfl rfl (fun _ => rfl) (by (simp; omega)) <| y_I rfl ?_
    rw [hly h2l]
    refine C2 rfl rfl <| b8v rfl rfl ?_
    refine J6 ⟨fun _ => ⟨by decide +kernel, by decide +kernel⟩, [(.t 1, _), (.t 6, _), (.t 124, _), (.h 6, _)], ⟨rfl, rfl, rfl, rfl, rfl, rfl, rfl, rfl, trivial⟩, ?_⟩
    refine A5 rfl ?_ ?_ <;> intro hc <;> try simp only [SL] at hc
    ·refine A3 <| A0 ?_
     (refine B0 rfl rfl (fun _ => rfl) ?_; intro g4)
     refine y_S rfl <| xN [4,5] [4] rfl <| A8 <| B5 (G2 rfl rfl (by simp) (by rfl) (C7 rfl rfl (C3 B2))) ?_
     have hne : ¬ x.length = y.length := by omega
     rw [show mkR op x y = none from by simp [mkR, T5, *]]
     rfl
    refine A7 <| A3 <| A0 <| y_M rfl <| B8 rfl rfl rfl (fun _ => rfl) (by (simp; omega)) <| y_I rfl ?_
    rw [hly h2l]
    refine C2 rfl rfl <| y_M rfl <| xN [6,127,128,129] [6] rfl <| A9 <| F6 (β := Nat × List Int) [(.t 6, _), (.t 127, _), (.t 128, _)] (fun (z : Nat × List Int) => match z with | (i, l) => [(.t 129, iV i), (.h 6, .obj g6 0 1 (l.map iV))]) (fun (z : Nat × List Int) => match z with | (i, l) => i ≤ x.length ∧ S8 x.length (fun i => H2 x i + H2 y i) (H2 x) i l) (fun (z : Nat × List Int) => match z with | (i, l) => x.length - i) (0, x) ⟨rfl, rfl, rfl, rfl, rfl, trivial⟩ ⟨Nat.zero_le _, S8.start x _⟩ ?_
    intro z hb
    obtain ⟨i, l⟩ := z
    try dsimp only at hb
    obtain ⟨hi1, hf⟩ := hb
    have hfl := hf.1
    have hfa := fun h : i < x.length => hf.at h
    have hgi := hgx i
    have hgyi : -100000 ≤ y.getD i default ∧ y.getD i default ≤ 100000 := hgy i
    refine A3 <| A0 <| G1 rfl rfl <| xN [6,127,128,129,130] [6] rfl <| A3 ?_
    refine A5 rfl ?_ ?_ <;> intro hc <;> try simp only [SL] at hc
    ·refine A7 <| A3 <| A9 <| A3 <| A0 <| y_M rfl <| B8 rfl rfl rfl (fun _ => rfl) (by omega) <| y_I rfl <| y_S rfl <| y_S rfl <| xN [6,11,12,127,128,129] [6] rfl <| A0 <| y_M rfl <| y_M rfl <| D6 rfl rfl rfl rfl (by omega) (by (simp; omega)) rfl <| G0 rfl rfl (by omega) (fun _ => rfl) (fun _ => rfl) rfl <| y_M rfl <| F3 rfl rfl (D4 (by omega)) <| D6 rfl rfl rfl rfl (by omega) (by (simp; omega)) rfl <| J8 rfl rfl rfl (by omega) (fun _ _ => ⟨rfl, rfl, dT rfl, dT rfl, rfl, rfl⟩) (by decide) (by exact B1 (A6 fun _ => rfl)) <| xN [6,127,128,129] [6] rfl <| A0 <| F3 rfl rfl (D4 (by omega)) <| y_M rfl <| xN [6,127,128,129] [6] rfl ?_
     refine ⟨(i + 1, l.set i (l.getD i default + y.getD i default)), ?_, (by simp only; omega), ⟨rfl, rfl, rfl, rfl, rfl, trivial⟩⟩
     exact ⟨by omega, hf.step (by omega) (by rw [hfa (by omega)]; rfl)⟩
    refine E6 ?_
    refine ⟨(_, _, _), ?_, ⟨rfl, rfl, trivial⟩⟩
    exact ⟨adF (by assumption) (by omega) (hf.fin (by omega)) rfl, by omega, by omega⟩
   try simp at hc
   refine A3 <| A0 <| I1 rfl rfl <| y_S rfl <| xN [1,6,142] [6] rfl ?_
   refine A5 rfl ?_ ?_ <;> intro hc <;> try simp only [SL] at hc
   ·try simp at hc
    have h2l := hl2 (d3p (.inr hc))
    refine A0 <| y_M rfl <| y_M rfl <| B8 rfl rfl rfl (fun _ => rfl) (by (simp; omega)) <| y_I rfl ?_
    rw [hly h2l]
    refine Q8 rfl rfl rfl (by (simp; done)) rfl rfl rfl (dT rfl) (fun _ => ⟨rfl, rfl, rfl⟩) (by simp only [H4]; omega) (fun _ => rfl) ?_
    intro g148
    (refine xO rfl rfl (by simp) rfl (fun _ => rfl) (fun _ => rfl) ?_; intro g6)
    refine xN [6] [6] rfl ?_
    refine ⟨(_, _, _), ?_, ⟨rfl, rfl, trivial⟩⟩
    exact ⟨(by (simp [T5, *]; done)), (by (simp; done)), (by (simp; omega))⟩
   try simp at hc
   refine A7 ?_
   refine ⟨(_, _, _), ?_, ⟨rfl, rfl, trivial⟩⟩
   exact ⟨(by (simp [T5, *]; done)), (by (simp; done)), (by omega)⟩
  intro z hb
  obtain ⟨r, n, g⟩ := z
  try dsimp only at hb
  obtain ⟨hraw, hn, hr80⟩ := hb
  subst hn
  refine A3 <| A3 <| A0 <| y_M rfl <| I5 rfl rfl <| O6 rfl rfl <| y_M rfl ?_
  refine C5 rfl rfl ?_ ?_ <;> intro hg0 <;> have hg := hg0 <;> try simp only [SG] at hg
  ·refine y_M rfl <| gT rfl rfl ?_
   apply xC rfl
   ·apply B4
    ·exact J4 rfl rfl rfl (by (simp; done)) (fun _ => rfl)
    apply B4
    ·exact B9 rfl
    apply B4
    ·exact B9 rfl
    exact D8
   ·exact c9q r (by omega) (-100000) 100000
   refine ⟨⟨rfl, rfl, rfl, dT rfl, rfl⟩, .inr ⟨rfl, rfl⟩, B7, H6 rfl, fun _ => rfl, fun g154 => ?_⟩
   refine gT rfl rfl <| I8 rfl <| F7 rfl (by assumption) rfl rfl <| xN [6,156] [6] rfl ?_
   refine A5 rfl ?_ ?_ <;> intro hc <;> try simp only [SL] at hc
   ·refine A3 <| A0 ?_
    (refine B0 rfl rfl (fun _ => rfl) ?_; intro g4)
    refine y_S rfl <| xN [4,5] [4] rfl <| A8 <| B5 (G2 rfl rfl (by simp) (by rfl) (C7 rfl rfl (C3 B2))) ?_
    rw [mkR, hraw, Option.bind_some, if_neg (by rw [Q3]; simp_all; try omega)]
    rfl
   refine A7 <| A3 <| A0 <| y_M rfl ?_
   apply xC rfl
   ·apply B4
    ·exact c0w rfl rfl (by (simp; done)) (A6 fun _ => rfl)
    exact D8
   ·exact c9z r (by simp only [H4]; omega)
   refine ⟨⟨rfl, rfl, rfl, dT rfl, rfl⟩, .inl rfl, B7, J1, fun _ => rfl, fun g158 => ?_⟩
   simp only [List.length_map]
   (refine xO rfl rfl (by simp) rfl (fun _ => rfl) (fun _ => rfl) ?_; intro g4)
   refine y_S rfl <| xN [4,5] [4] rfl <| A8 <| B5 (G2 rfl rfl (by simp) (by exact A6 fun _ => rfl) (C7 rfl rfl (C3 B2))) ?_
   rw [mkR, hraw, Option.bind_some, if_pos (Q3.2 ⟨by omega, by simp_all⟩)]
   rfl
  refine gF rfl rfl <| gF rfl rfl <| E9 rfl (by assumption) rfl rfl <| xN [6,156] [6] rfl ?_
  refine A5 rfl (fun hc => ?_) (fun hc => absurd hc (by decide))
  refine A3 <| A0 ?_
  (refine B0 rfl rfl (fun _ => rfl) ?_; intro g4)
  refine y_S rfl <| xN [4,5] [4] rfl <| A8 <| B5 (G2 rfl rfl (by simp) (by rfl) (C7 rfl rfl (C3 B2))) ?_
  rw [mkR, hraw, Option.bind_some, if_neg (by rw [Q3]; simp_all; try omega)]
  rfl
 try simp only [SD] at hc
 omega
end Go.Proofs.YtcpmbhfnapijaaaGreatDoor
