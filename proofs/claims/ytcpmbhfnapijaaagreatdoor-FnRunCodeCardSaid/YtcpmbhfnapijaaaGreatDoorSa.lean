/- What each function of the program gives on the abstract machine, part 1 of 2. Conditions: those in front of each theorem. -/
import Derived.Test.YtcpmbhfnapijaaaGreatDoorMd
import Derived.Test.YtcpmbhfnapijaaaGreatDoorChecked
import Derived.KernelRfl

set_option linter.unusedVariables false
set_option linter.unusedSimpArgs false
namespace Go.Proofs.YtcpmbhfnapijaaaGreatDoor
open Go Go.Mv Go.Proofs
set_option maxRecDepth 100000
set_option maxHeartbeats 20000000

theorem SD : (∀ {p : Prop} [Decidable p], (decide p = true) = p) ∧ (∀ {p : Prop} {_ : Decidable p}, decide p = false ↔ ¬p) ∧ (∀ (b : Bool), ((!b) = true) = (b = false)) ∧ (∀ (b : Bool), ((!b) = false) = (b = true)) ∧ (∀ {α : Type} [BEq α] [LawfulBEq α] {a b : α}, (a != b) = true ↔ a ≠ b) ∧
    (∀ {α : Type} [BEq α] [LawfulBEq α] {a b : α}, (a == b) = true ↔ a = b) ∧ (∀ {α : Type} (a b : α), (a ≠ b) = ¬a = b) ∧ (!true) = false ∧ (!false) = true ∧ (∀ {α : Type} [BEq α] [LawfulBEq α] {a b : α}, (a == b) = false ↔ a ≠ b) ∧ (∀ {α : Type} [BEq α] [LawfulBEq α] {a b : α}, (a != b) = false ↔ a = b) ∧
    (∀ {p : Prop} [Decidable p], ¬¬p ↔ p) ∧ (∀ {a b : Int}, ¬a < b ↔ b ≤ a) ∧ (∀ {a b : Int}, ¬a ≤ b ↔ b < a) :=
  ⟨@decide_eq_true_eq, @decide_eq_false_iff_not, @Bool.not_eq_true', @Bool.not_eq_false', @bne_iff_ne, @beq_iff_eq, @ne_eq, @Bool.not_true, @Bool.not_false, @beq_eq_false_iff_ne, @bne_eq_false_iff_eq, @Decidable.not_not, @Int.not_lt, @Int.not_le⟩
theorem SG : ((∀ {p : Prop} [Decidable p], (decide p = true) = p) ∧ (∀ {p : Prop} {_ : Decidable p}, decide p = false ↔ ¬p) ∧ (∀ (b : Bool), ((!b) = true) = (b = false)) ∧ (∀ (b : Bool), ((!b) = false) = (b = true)) ∧ (∀ {α : Type} [BEq α] [LawfulBEq α] {a b : α}, (a != b) = true ↔ a ≠ b) ∧
    (∀ {α : Type} [BEq α] [LawfulBEq α] {a b : α}, (a == b) = true ↔ a = b) ∧ (∀ {α : Type} (a b : α), (a ≠ b) = ¬a = b) ∧ (!true) = false ∧ (!false) = true ∧ (∀ {α : Type} [BEq α] [LawfulBEq α] {a b : α}, (a == b) = false ↔ a ≠ b) ∧ (∀ {α : Type} [BEq α] [LawfulBEq α] {a b : α}, (a != b) = false ↔ a = b) ∧
    (∀ {p : Prop} [Decidable p], ¬¬p ↔ p) ∧ (∀ {a b : Int}, ¬a < b ↔ b ≤ a) ∧ (∀ {a b : Int}, ¬a ≤ b ↔ b < a)) ∧
    (∀ (a b : Bool), ((a && b) = true) = (a = true ∧ b = true)) ∧ (∀ {x y : Bool}, (x && y) = false ↔ x = false ∨ y = false) ∧ (∀ (a b : Bool), ((a || b) = true) = (a = true ∨ b = true)) ∧ (∀ {x y : Bool}, (x || y) = false ↔ x = false ∧ y = false) :=
  ⟨SD, @Bool.and_eq_true, @Bool.and_eq_false_iff, @Bool.or_eq_true, @Bool.or_eq_false_iff⟩
def c8w (keep : List Nat) (A : Asr) : List Mv.Loc → Asr → Option Asr
  | l :: ls, B => match keepLoc keep l, Mv.look A l with
    | true, some a => c8w keep A ls ((l, a) :: B)
    | _, _ => none
  | [], B => some B
theorem c6n {keep : List Nat} {A : Asr} : ∀ (ls : List Mv.Loc) {B C : Asr}, KeepL keep A B → c8w keep A ls B = some C → KeepL keep A C
  | [], B, C, h, e => by simp only [c8w, Option.some.injEq] at e; rw [← e]; exact h
  | l :: ls, B, C, h, e => by
    simp only [c8w] at e
    split at e
    · exact c6n ls (show KeepL keep A ((l, _) :: B) from ⟨by assumption, by assumption, h⟩) e
    · cases e
theorem kS (ts hs : List Nat) {keep : List Nat} {A B : Asr} (h : c8w keep A (ts.map .t ++ hs.map .h) [] = some B) : KeepL keep A B := c6n _ (show KeepL keep A [] from trivial) h
section
variable {cx : Cx} {keep : List Nat} {ops0 : Array Oper} {r : List Oper} {A : Asr} {Q : Asr → List Log → Prop}
variable {d ty : Nat} {pos : String} {aft : Array Edge}
theorem gT {op : Op} {dst : Option Nat} {g dg : Nat} {want b : Bool} (hd : (ops0[g]?).bind (·.dst) = some dg) (hb : Mv.look A (.t dg) = some (.val (.bool b)))
    (h : XR cx keep ops0 (⟨dst, op, ty, pos, aft, none⟩ :: r) A fun A' lg => Q A' (c6e (.t dg) lg)) (hw : b = want := by assumption) : XR cx keep ops0 (⟨dst, op, ty, pos, aft, some (g, want)⟩ :: r) A Q := E4 hd hb hw h
theorem gF {op : Op} {g dg : Nat} {want b : Bool} (hd : (ops0[g]?).bind (·.dst) = some dg) (hb : Mv.look A (.t dg) = some (.val (.bool b)))
    (h : XR cx keep ops0 r ((.t d, .val (.tuple #[])) :: A) fun A' lg => Q A' (([.t dg], [.t d]) :: lg)) (hw : b = !want := by assumption) : XR cx keep ops0 (⟨some d, op, ty, pos, aft, some (g, want)⟩ :: r) A Q := M1 hd hb hw h
theorem xN {B : Asr} {p : Asr → List Log → Prop} {R : Asr → Prop} (ts hs : List Nat) (h : c8w keep A (ts.map .t ++ hs.map .h) [] = some B) (q : R B) :
    XR cx keep ops0 [] A (fun A' lg => (false = true → p A' lg) ∧ ∃ B, KeepL keep A' B ∧ R B) := K4 ⟨nofun, B, kS ts hs h, q⟩
theorem xC {G : Type} {k : Nat} {args : Array Operand} {Ts : Array Nat} {vs av : List AV} {ids : List (Nat × Bool)} {wp wb : Ws} {lp lb li : List Mv.Loc} {res : AV} {outs : List (List AV)} {v : G → AV} {wi : G → Ws}
    (hv : opds A args.toList = some vs) (hp : a5g (CW cx) A (cx.md k) 0 vs av ids wp lp) (hC : CW cx k av = some (res, outs))
    (hr : (apartIds ids = true ∧ N4 ((Z0 (cx.md k) 0 vs).map (·.1)) = true ∧ N4 ((cidAll (cx.md k) 0 av).map (·.1)) = true ∧ av.length ≤ 1000 ∧ a0s av = true) ∧
      (ids.all (fun x => x.2) = true ∨ (hasList res = false ∧ outs.any E9 = false)) ∧
      c2o (CW cx) (puts A wp) (Z0 (cx.md k) 0 vs) outs wb lb ∧ a4d (CW cx) (puts (puts A wp) wb) d res v wi li ∧
      (∀ g, tRefsOk keep (keptWs keep (wp ++ (wb ++ (wi g ++ [(.t d, v g)])))) = true) ∧
      ∀ g, XR cx keep ops0 r (a0b A (wp ++ (wb ++ (wi g ++ [(.t d, v g)])))) fun A' lg => Q A' ((a0v args.toList ++ (lp ++ (lb ++ li)), a2z (wp ++ (wb ++ (wi g ++ [(.t d, v g)])))) :: lg)) :
    XR cx keep ops0 (⟨some d, .call ⟨.value (.func k), args, Ts⟩, ty, pos, aft, none⟩ :: r) A Q :=
  a6g hv hp hC hr.1 hr.2.1 hr.2.2.1 hr.2.2.2.1 hr.2.2.2.2.1 hr.2.2.2.2.2
theorem xC1 {k : Nat} {Ts : Array Nat} {x1 : Operand} {v1 res : AV} (hx : opds A [x1] = some [v1]) (p1 : T6 v1 = true) (hC : CW cx k [v1] = some (res, []))
    (hb : Z0 (cx.md k) 0 [v1] = [] ∧ N4 ((cidAll (cx.md k) 0 [v1]).map (·.1)) = true ∧ a0s [v1] = true) (hi : J3 res = true) (hk : tRefsOk keep (keptWs keep [(.t d, res)]) = true)
    (h : ∀ _ : Unit, XR cx keep ops0 r (a0b A [(.t d, res)]) fun A' lg => Q A' ((a0v [x1], [.t d]) :: lg)) : XR cx keep ops0 (⟨some d, .call ⟨.value (.func k), #[x1], Ts⟩, ty, pos, aft, none⟩ :: r) A Q :=
  a6g hx (A6 (B6 p1) B8) hC ⟨rfl, by rw [hb.1]; rfl, hb.2.1, by simp, hb.2.2⟩ (.inl rfl) (by rw [hb.1]; exact B0) (B9 hi) (fun _ => hk) (fun g => by have := h g; simpa [a2z] using this)
theorem xC2 {k : Nat} {Ts : Array Nat} {x1 x2 : Operand} {v1 v2 res : AV} (hx : opds A [x1, x2] = some [v1, v2]) (p1 : T6 v1 = true) (p2 : T6 v2 = true) (hC : CW cx k [v1, v2] = some (res, []))
    (hb : Z0 (cx.md k) 0 [v1, v2] = [] ∧ N4 ((cidAll (cx.md k) 0 [v1, v2]).map (·.1)) = true ∧ a0s [v1, v2] = true) (hi : J3 res = true) (hk : tRefsOk keep (keptWs keep [(.t d, res)]) = true)
    (h : ∀ _ : Unit, XR cx keep ops0 r (a0b A [(.t d, res)]) fun A' lg => Q A' ((a0v [x1, x2], [.t d]) :: lg)) : XR cx keep ops0 (⟨some d, .call ⟨.value (.func k), #[x1, x2], Ts⟩, ty, pos, aft, none⟩ :: r) A Q :=
  a6g hx (A6 (B6 p1) (A6 (B6 p2) B8)) hC ⟨rfl, by rw [hb.1]; rfl, hb.2.1, by simp, hb.2.2⟩ (.inl rfl) (by rw [hb.1]; exact B0) (B9 hi) (fun _ => hk) (fun g => by have := h g; simpa [a2z] using this)
theorem xC3 {k : Nat} {Ts : Array Nat} {x1 x2 x3 : Operand} {v1 v2 v3 res : AV} (hx : opds A [x1, x2, x3] = some [v1, v2, v3]) (p1 : T6 v1 = true) (p2 : T6 v2 = true) (p3 : T6 v3 = true) (hC : CW cx k [v1, v2, v3] = some (res, []))
    (hb : Z0 (cx.md k) 0 [v1, v2, v3] = [] ∧ N4 ((cidAll (cx.md k) 0 [v1, v2, v3]).map (·.1)) = true ∧ a0s [v1, v2, v3] = true) (hi : J3 res = true) (hk : tRefsOk keep (keptWs keep [(.t d, res)]) = true)
    (h : ∀ _ : Unit, XR cx keep ops0 r (a0b A [(.t d, res)]) fun A' lg => Q A' ((a0v [x1, x2, x3], [.t d]) :: lg)) : XR cx keep ops0 (⟨some d, .call ⟨.value (.func k), #[x1, x2, x3], Ts⟩, ty, pos, aft, none⟩ :: r) A Q :=
  a6g hx (A6 (B6 p1) (A6 (B6 p2) (A6 (B6 p3) B8))) hC ⟨rfl, by rw [hb.1]; rfl, hb.2.1, by simp, hb.2.2⟩ (.inl rfl) (by rw [hb.1]; exact B0) (B9 hi) (fun _ => hk) (fun g => by have := h g; simpa [a2z] using this)
theorem xO {α : Type} {f : α → AV} {xs : List α} {x : Operand} {id g s n : Nat} (hx : opd A x = some (.sl id g none 0 n)) (ho : Mv.look A (.h id) = some (.obj g 0 s (xs.map f))) (hn : n = (xs.map f).length) (hne : Loc.beq (.h d) (.h id) = false) (hf : ∀ a, J7 (f a) = true)
    (hk : ∀ g, slotOk keep (.t d) (.sl d g none 0 n) = true) (h : ∀ g', XR cx keep ops0 r ((.t d, .sl d g' none 0 n) :: (.h d, .obj g' 0 s (xs.map f)) :: (.h id, .dead g) :: A) fun A' lg => Q A' ((rds x ++ [.h id, .h d], [.h id, .h d, .t d]) :: lg)) :
    XR cx keep ops0 (⟨some d, .assign x, ty, pos, aft, none⟩ :: r) A Q := J0 hx ho hn hne (fun _ => B2 (A7 hf)) hk h
theorem xB {T id g m s : Nat} {a x : Operand} {e v : AV} (ha : opd A a = some (.ptr id g none 0 0)) (hx : opd A x = some v) (ho : Mv.look A (.h id) = some (.obj g m s [e])) (hl : b0r (leaves e) v = true)
    (hc : decide (m ≠ 2 ∧ (leaves v).length = (tyS cx.P T).size ∧ 0 < (leaves v).length ∧ (leaves v).length ≤ (leaves e).length) = true) (hw : T7 (leaves v) (leaves e) = true) (hp : putAt e 0 v = v) (hm : decide (m = 3) = true) (hi : L6 [v] = true)
    (h : XR cx keep ops0 r ((.h id, .obj g m s [v]) :: A) fun A' lg => Q A' ((rds a ++ (rds x ++ [.h id, .h id, .h id]), [.h id]) :: lg)) : XR cx keep ops0 (⟨none, .store T a x, ty, pos, aft, none⟩ :: r) A Q := by
  obtain ⟨h1, h2, h3, h4⟩ := of_decide_eq_true hc
  exact b7r ha hx ho hl ⟨h1, h2, h3, h4, hw⟩ hp (by rw [of_decide_eq_true hm]; exact Q4 hi) h
theorem xA {α : Type} {f : α → AV} {xs ys : List α} {T T' E s id g n id2 g2 n2 : Nat} {x y : Operand} {z : AV} (hx : opd A x = some (.sl id g none 0 n)) (hy : opd A y = some (.sl id2 g2 none 0 n2)) (ho : Mv.look A (.h id) = some (.obj g 0 s (xs.map f))) (ho2 : Mv.look A (.h id2) = some (.obj g2 0 s (ys.map f)))
    (hn : n = (xs.map f).length) (hn2 : n2 = (ys.map f).length) (hd : (decide (1000000 ≤ id2) && !Loc.beq (.h id) (.h id2)) = true) (hT : N6 cx.P T = some (E, s)) (hT' : K8 (tyS cx.P T').k = true) (hz : V1 cx.P E = some (z, s)) (hb : decide ((tyS cx.P E).bytes ≤ 4096) = true) (hf : ∀ a, ((leaves (f a)).all cellLeaf && J7 (f a)) = true)
    (hle : xs.length + ys.length ≤ 4294967296) (hk : ∀ g, slotOk keep (.t d) (.sl (tid d 0) g none 0 (xs ++ ys).length) = true)
    (h : ∀ g', XR cx keep ops0 r ((.t d, .sl (tid d 0) g' none 0 (xs ++ ys).length) :: (.h (tid d 0), .obj g' 0 s ((xs ++ ys).map f)) :: (.h id, .dead g) :: (.h id2, .dead g2) :: A) fun A' lg => Q A' ((rds x ++ (rds y ++ [.h id2, .h id, .h (tid d 0)]), [.h id2, .h id, .h (tid d 0), .t d]) :: lg)) :
    XR cx keep ops0 (⟨some d, .call ⟨.builtin .append, #[x, y], #[T, T']⟩, ty, pos, aft, none⟩ :: r) A Q := by
  simp only [Bool.and_eq_true, decide_eq_true_eq, Bool.not_eq_true'] at hd hf
  exact L7 hx hy ho ho2 hn hn2 hd.1 hd.2 hT hT' hz (of_decide_eq_true hb) hf (Nat.le_trans hle (by decide)) hk h
theorem y_M {x : Operand} {v : AV} (e : (opd A x, slotOk keep (.t d) v) = (some v, true)) (h : XR cx keep ops0 r ((.t d, v) :: A) fun A' lg => Q A' ((rds x, [.t d]) :: lg)) : XR cx keep ops0 (⟨some d, .move x, ty, pos, aft, none⟩ :: r) A Q := by
  simp only [Prod.mk.injEq] at e
  exact d5u e.1 e.2 h
theorem y_S {x : Operand} {v : AV} (e : (opd A x, a2a v, slotOk keep (.t d) v) = (some v, true, true)) (h : XR cx keep ops0 r ((.t d, v) :: A) fun A' lg => Q A' ((rds x, [.t d]) :: lg)) : XR cx keep ops0 (⟨some d, .assign x, ty, pos, aft, none⟩ :: r) A Q := by
  simp only [Prod.mk.injEq] at e
  exact d2g e.1 e.2.1 e.2.2 h
theorem y_F {x : Operand} {S f o ft : Nat} {v v' : AV} (e : (opd A x, (match (tyS cx.P S).k with | .struct fs => fs[f]? | _ => none), decide ((tyS cx.P ft).size ≠ 0), (match v with | .ptr id g p i j => some (AV.ptr id g p i (j + o)) | .ipt e j => some (.ipt e (j + o)) | _ => none), slotOk keep (.t d) v') = (some v, some (o, ft), true, some v', true)) (h : XR cx keep ops0 r ((.t d, v') :: A) fun A' lg => Q A' ((rds x, [.t d]) :: lg)) : XR cx keep ops0 (⟨some d, .fieldAddr S x f, ty, pos, aft, none⟩ :: r) A Q := by
  simp only [Prod.mk.injEq] at e
  refine c2k e.1 e.2.1 (of_decide_eq_true e.2.2.1) ?_ e.2.2.2.2 h
  have e4 := e.2.2.2.1
  cases v <;> exact e4
theorem y_L {a : Operand} {T id g m s i j : Nat} {es : List AV} {e0 v : AV} (e : (opd A a, Mv.look A (.h id), es[i]?, ((leaves e0).all fun l => !isOwn l), partF cx.P T ((leaves e0).drop j), slotOk keep (.t d) v) = (some (.ptr id g none i j), some (.obj g m s es), some e0, true, some v, true)) (h : XR cx keep ops0 r ((.t d, v) :: A) fun A' lg => Q A' ((rds a ++ [.h id], [.t d]) :: lg)) : XR cx keep ops0 (⟨some d, .load T a, ty, pos, aft, none⟩ :: r) A Q := by
  simp only [Prod.mk.injEq] at e
  exact a4k e.1 e.2.1 e.2.2.1 e.2.2.2.1 e.2.2.2.2.1 e.2.2.2.2.2 h
theorem y_E {x : Operand} {i : Nat} {vs : List AV} {v : AV} (e : (opd A x, vs[i]?, slotOk keep (.t d) v) = (some (.tup vs), some v, true)) (h : XR cx keep ops0 r ((.t d, v) :: A) fun A' lg => Q A' ((rds x, [.t d]) :: lg)) : XR cx keep ops0 (⟨some d, .extract x i, ty, pos, aft, none⟩ :: r) A Q := by
  simp only [Prod.mk.injEq] at e
  exact c8h e.1 e.2.1 e.2.2 h
theorem y_B {a : Operand} {T id g m s : Nat} {v : AV} (e : (opd A a, Mv.look A (.h id), ((leaves v).all fun l => !isOwn l), partF cx.P T (leaves v), slotOk keep (.t d) v) = (some (.ptr id g none 0 0), some (.obj g m s [v]), true, some v, true)) (h : XR cx keep ops0 r ((.t d, v) :: A) fun A' lg => Q A' ((rds a ++ [.h id], [.t d]) :: lg)) : XR cx keep ops0 (⟨some d, .load T a, ty, pos, aft, none⟩ :: r) A Q := by
  simp only [Prod.mk.injEq] at e
  exact c0v e.1 e.2.1 e.2.2.1 e.2.2.2.1 e.2.2.2.2 h
theorem y_I {a : Operand} {T : Nat} {v : AV} (e : (opd A a, partF cx.P T (leaves v), slotOk keep (.t d) v) = (some (.ipt v 0), some v, true)) (h : XR cx keep ops0 r ((.t d, v) :: A) fun A' lg => Q A' ((rds a, [.t d]) :: lg)) : XR cx keep ops0 (⟨some d, .load T a, ty, pos, aft, none⟩ :: r) A Q := by
  simp only [Prod.mk.injEq] at e
  exact c1k e.1 e.2.1 e.2.2 h
theorem y_A {T s : Nat} {z : AV} (e : (V1 cx.P T, L6 [z], slotOk keep (.t d) (.ptr d 0 none 0 0)) = (some (z, s), true, true)) (hk : ∀ g, slotOk keep (.t d) (.ptr d g none 0 0) = true)
    (h : ∀ g, XR cx keep ops0 r ((.t d, .ptr d g none 0 0) :: (.h d, .obj g 3 s [z]) :: A) fun A' lg => Q A' (([.h d], [.h d, .t d]) :: lg)) : XR cx keep ops0 (⟨some d, .alloc T, ty, pos, aft, none⟩ :: r) A Q := by
  simp only [Prod.mk.injEq] at e
  exact d3t e.1 (fun _ => Q4 e.2.1) hk h
end
theorem SL : (∀ {α β : Type} {av : List α} (f : α → β), (av.map f).length = av.length) ∧ (((∀ {p : Prop} [Decidable p], (decide p = true) = p) ∧ (∀ {p : Prop} {_ : Decidable p}, decide p = false ↔ ¬p) ∧ (∀ (b : Bool), ((!b) = true) = (b = false)) ∧ (∀ (b : Bool), ((!b) = false) = (b = true)) ∧ (∀ {α : Type} [BEq α] [LawfulBEq α] {a b : α}, (a != b) = true ↔ a ≠ b) ∧
    (∀ {α : Type} [BEq α] [LawfulBEq α] {a b : α}, (a == b) = true ↔ a = b) ∧ (∀ {α : Type} (a b : α), (a ≠ b) = ¬a = b) ∧ (!true) = false ∧ (!false) = true ∧ (∀ {α : Type} [BEq α] [LawfulBEq α] {a b : α}, (a == b) = false ↔ a ≠ b) ∧ (∀ {α : Type} [BEq α] [LawfulBEq α] {a b : α}, (a != b) = false ↔ a = b) ∧
    (∀ {p : Prop} [Decidable p], ¬¬p ↔ p) ∧ (∀ {a b : Int}, ¬a < b ↔ b ≤ a) ∧ (∀ {a b : Int}, ¬a ≤ b ↔ b < a)) ∧
    (∀ (a b : Bool), ((a && b) = true) = (a = true ∧ b = true)) ∧ (∀ {x y : Bool}, (x && y) = false ↔ x = false ∨ y = false) ∧ (∀ (a b : Bool), ((a || b) = true) = (a = true ∨ b = true)) ∧ (∀ {x y : Bool}, (x || y) = false ↔ x = false ∧ y = false)) := ⟨@List.length_map.{0, 0}, SG⟩
theorem LN : (∀ {α : Type}, ([] : List α).length = 0) ∧ (∀ {α : Type} {a : α} {l : List α}, (a :: l).length = l.length + 1) ∧ (∀ {α : Type} {a b : List α}, (a ++ b).length = a.length + b.length) ∧ (∀ n : Nat, 0 + n = n) ∧ (∀ {α β : Type} {l : List α} (f : α → β), (l.map f).length = l.length) := ⟨rfl, rfl, List.length_append, Nat.zero_add, List.length_map.{0, 0}⟩
theorem dT {p : Prop} [Decidable p] (h : decide p = true) : p := of_decide_eq_true h

def mdT : List (Nat × List Nat) := [(23, [3, 3, 3, 3]), (25, [2]), (41, [2]), (42, [1]), (45, [3, 3, 3, 3]), (48, [1]), (54, [3, 3, 3, 3]), (55, [3, 3, 3, 3]), (56, [3, 3, 3, 3]), (57, [3, 3, 3, 3]), (60, [3, 3, 3, 3]), (67, [2]), (70, [0, 2]), (71, [2]), (75, [0, 2]), (79, [3, 3, 3, 3]), (82, [3, 3, 3, 3]), (89, [3, 3, 3, 3]), (91, [3, 3, 3, 3]), (92, [3, 3, 3, 3]), (93, [3, 3, 3, 3]), (94, [3, 3, 3, 3]), (95, [3, 3, 3, 3]), (96, [3, 3, 3, 3]), (97, [3, 3, 3, 3]), (102, [3, 3, 3, 3]), (107, [1]), (108, [1]), (112, [2]), (118, [3, 3, 3, 3]), (123, [3, 3, 3, 3]), (131, [3, 3, 3, 3]), (133, [3, 3, 3, 3])]
noncomputable def d5f : List (Nat × (List AV → Option (AV × List (List AV)))) := [(106, a6t), (107, b1j), (121, b2q), (122, b8m), (136, b7f), (137, b6v), (138, b8e), (165, b1g)]
variable {oG : Option Nat} {rG : Nat}
noncomputable def cxT (oG : Option Nat) : Cx := { P := Tryz.prog, md := d6h mdT, ext := c5n d5f, it := fun _ => none, fz := fun k => [57, 60, 82, 89, 97, 102, 118, 123, 131, 133].contains k, fzB := fun T d => [(69, 58), (34, 98), (23, 57), (23, 26), (23, 47), (23, 67), (23, 103)].contains (T, d), gl := fun g => match oG with | some r => if g = 0 then some (.val (.map (some r))) else none | none => none, mp := fun k => match oG with | some r => if k = r then some d4z else none | none => none }
noncomputable def cxE : Cx := { P := Tryz.prog, md := d6h mdT, ext := fun _ => none, fz := fun k => [57, 60, 82, 89, 97, 102, 118, 123, 131, 133].contains k }
theorem c6j (xs : List Int) (hl : xs.length ≤ G9) : CW (cxT oG) 106 [.list (xs.map iV)] = some (.own 1 (xs.map iV), []) := a3m (cxT oG) rfl (by simp [a6t, c6p, hl])
theorem d5i (xs : List Int) (hl : xs.length ≤ G9) : CW (cxT oG) 107 [.own 1 (xs.map iV)] = some (.tup [], [(S6 xs).map iV]) := a3m (cxT oG) rfl (by simp [b1j, c6p, hl])
theorem d3i (l : List UInt8) (b : UInt8) (hl : l.length < 4294967281) : CW (cxT oG) 121 [tV l, tV [b]] = some (.own 1 ((splitB b l).map tV), []) := a3m (cxT oG) rfl (by show (if l.length < 4294967281 then some ((AV.own 1 ((splitB b l).map tV), []) : AV × List (List AV)) else none) = _; rw [if_pos hl])
theorem d5g (ps : List (List UInt8)) (b : UInt8) (h1 : ps.length ≤ G9) (h2 : (joinB b ps).length ≤ G9) : CW (cxT oG) 122 [.list (ps.map tV), tV [b]] = some (tV (joinB b ps), []) := a3m (cxT oG) rfl (by show ((unT (ps.map tV)).bind fun ps => if ps.length ≤ G9 ∧ (joinB b ps).length ≤ G9 then some ((tV (joinB b ps), []) : AV × List (List AV)) else none) = _; rw [d3p, Option.bind_some, if_pos ⟨h1, h2⟩])
theorem d6d (l : List UInt8) (b : UInt8) : CW (cxT oG) 136 [tV l, tV [b]] = some (.tup [tV (a3k b l), bV (decide (l.head? = some b))], []) := a3m (cxT oG) rfl rfl
theorem d4y (l : List UInt8) (b : UInt8) (hl : l.length < 4294967281) : CW (cxT oG) 137 [tV l, tV [b]] = some (.tup [tV (b5b b l), bV (decide (l.getLast? = some b))], []) := a3m (cxT oG) rfl (by show (if l.length < 4294967281 then some ((AV.tup [tV (b5b b l), bV (decide (l.getLast? = some b))], []) : AV × List (List AV)) else none) = _; rw [if_pos hl])
theorem c3p (l : List UInt8) (hl : l.length < 4294967281) : CW (cxT oG) 138 [tV l] = some (atR l, []) := a3m (cxT oG) rfl (by show (if l.length < 4294967281 then some ((atR l, []) : AV × List (List AV)) else none) = _; rw [if_pos hl])
theorem d6a (n : Int) (h : -9223372036854775808 ≤ n ∧ n ≤ 9223372036854775807) : CW (cxT oG) 165 [iV n] = some (tV (dec n), []) := a3m (cxT oG) rfl (by simp [b1g, h])

theorem b2h : F3 Tryz.f135 = [0, 1, 2, 6] := by kernel_rfl
theorem b6q (n lo hi : Int) : CW (cxT oG) 135 [iV n, iV lo, iV hi] = some (bV (decide (lo ≤ n) && decide (n ≤ hi)), []) := by
 refine F0 rfl Tryz.func135 rfl ⟨by kernel_rfl, rfl, dT rfl, dT rfl, by decide⟩ b2h <| A3 <| A0 <| y_S rfl <| xN [0,1,2] [] rfl <| A3 <| A0 <| y_M rfl <| y_M rfl <| a7o rfl rfl <| y_M rfl ?_
 refine C6 rfl rfl ?_ ?_ <;> intro hg0 <;> have hg := hg0 <;> try simp only [SG] at hg
 ·refine y_M rfl <| gT rfl rfl <| y_M rfl <| gT rfl rfl <| a7o rfl rfl <| E8 rfl (by assumption) rfl rfl <| y_S rfl <| xN [6] [] rfl <| B1 <| C2 rfl rfl trivial ?_
  simp_all [ofConst]; try omega
 refine gF rfl rfl <| gF rfl rfl <| F4 rfl (by assumption) rfl rfl <| y_S rfl <| xN [6] [] rfl <| B1 <| C2 rfl rfl trivial ?_
 simp_all [ofConst]; try omega

theorem c8n : F3 Tryz.f114 = [0, 1, 2, 6] := by kernel_rfl
theorem d6x (n lo hi : Int) : CW (cxT oG) 114 [iV n, iV lo, iV hi] = some (bV (decide (lo ≤ n) && decide (n ≤ hi)), []) := by
 refine F0 rfl Tryz.func114 rfl ⟨by kernel_rfl, rfl, dT rfl, dT rfl, by decide⟩ c8n <| A3 <| A0 <| y_S rfl <| xN [0,1,2] [] rfl <| A3 <| A0 <| y_M rfl <| y_M rfl <| c0b rfl rfl <| y_M rfl ?_
 refine C6 rfl rfl ?_ ?_ <;> intro hg0 <;> have hg := hg0 <;> try simp only [SG] at hg
 ·refine y_M rfl <| gT rfl rfl <| y_M rfl <| gT rfl rfl <| a7o rfl rfl <| E8 rfl (by assumption) rfl rfl <| y_S rfl <| xN [6] [] rfl <| B1 <| C2 rfl rfl trivial ?_
  simp_all [ofConst]; try omega
 refine gF rfl rfl <| gF rfl rfl <| F4 rfl (by assumption) rfl rfl <| y_S rfl <| xN [6] [] rfl <| B1 <| C2 rfl rfl trivial ?_
 simp_all [ofConst]; try omega

theorem a7k : F3 Tryz.f164 = [0, 1, 4, 8, 7, 9, 5, 16] := by kernel_rfl
theorem b6w (xs : List Int) (hl : xs.length ≤ 1000) (k : Nat) (a b : AV) (q : Int → Bool) (hq : ∀ x, CW (cxT oG) k [iV x, .ipt a 0, .ipt b 0] = some (bV (q x), [])) : ∃ res outs, (fun res outs => ∃ r : Int, res = iV r ∧ outs = [] ∧ decide (0 ≤ r) = xs.any q) res outs ∧ CW (cxT oG) 164 [L xs, .clo k [.ipt a 0, .ipt b 0]] = some (res, outs) := by
 refine M3 rfl Tryz.func164 rfl ⟨by kernel_rfl, rfl, dT rfl, dT rfl, by decide⟩ a7k <| A3 <| A0 <| y_S rfl <| xN [0,1] [] rfl <| A3 <| A3 <| A0 <| y_M rfl <| C9 rfl rfl <| y_M rfl <| xN [0,1,7,8] [] rfl <| B7 <| F5 (β := Nat) [(.t 0, _), (.t 1, _), (.t 7, _)] (fun (i : Nat) => [(.t 8, iV i)]) (fun (i : Nat) => i ≤ xs.length ∧ ∀ j, j < i → q (xs.getD j default) = false) (fun (i : Nat) => xs.length - i) 0 ⟨rfl, rfl, rfl, rfl, trivial⟩ ⟨Nat.zero_le _, fun j h => by omega⟩ ?_
 intro i hb
 obtain ⟨hi1, hi2⟩ := hb
 refine A3 <| A0 <| H4 rfl rfl <| xN [0,1,7,8,9] [] rfl <| A3 ?_
 refine A5 rfl ?_ ?_ <;> intro hc <;> try simp only [SL] at hc
 ·refine A9 <| A3 <| B7 <| A3 <| A0 <| y_M rfl <| y_S rfl <| xN [0,1,5,7,8] [] rfl <| A3 <| A0 <| y_M rfl <| y_M rfl <| y_M rfl <| B5 rfl rfl rfl (fun _ => rfl) (by omega) <| y_I rfl ?_
  apply c5l rfl rfl
  ·apply A6
   ·exact B6 rfl
   apply A6
   ·exact B6 rfl
   apply A6
   ·exact B6 rfl
   exact B8
  ·exact hq (xs.getD i default)
  ·exact ⟨rfl, rfl, rfl, dT rfl, rfl⟩
  ·exact .inl rfl
  ·exact B0
  ·exact B9 rfl
  ·exact fun _ => rfl
  intro g16
  refine xN [0,1,5,7,8,16] [] rfl ?_
  refine A5 rfl ?_ ?_ <;> intro hc <;> try simp only [SL] at hc
  ·refine A3 <| A0 <| y_M rfl <| y_S rfl <| xN [4] [] rfl <| B1 ?_
   refine ⟨_, _, ?_, I6 rfl rfl C0⟩
   exact ⟨_, rfl, rfl, d3k (by omega) hc⟩
  refine A9 <| A0 <| F8 rfl rfl (C1 (by omega)) <| y_M rfl <| xN [0,1,7,8] [] rfl ?_
  refine ⟨i + 1, ⟨by omega, fun a ha => by rcases Nat.lt_succ_iff_lt_or_eq.1 ha with h | h; exact hi2 a h; subst h; exact hc⟩, (by omega), ⟨rfl, rfl, rfl, rfl, trivial⟩⟩
 refine F6 <| A3 <| A0 <| y_S rfl <| xN [4] [] rfl <| B1 ?_
 refine ⟨_, _, ?_, I6 rfl rfl C0⟩
 exact ⟨-1, rfl, rfl, d0z fun j hj => hi2 j (by omega)⟩

theorem a4n : F3 Tryz.f141 = [0, 1, 4] := by kernel_rfl
theorem b0y (xs : List Int) (hl : xs.length ≤ 1000) (k : Nat) (a b : AV) (q : Int → Bool) (hq : ∀ x, CW (cxT oG) k [iV x, .ipt a 0, .ipt b 0] = some (bV (q x), [])) : CW (cxT oG) 141 [L xs, .clo k [.ipt a 0, .ipt b 0]] = some (bV (xs.any q), []) := by
 obtain ⟨_, _, ⟨r, rfl, rfl, hr⟩, hC⟩ := b6w (oG := oG) xs hl k a b q hq
 refine F0 rfl Tryz.func141 rfl ⟨by kernel_rfl, rfl, dT rfl, dT rfl, by decide⟩ a4n <| A3 <| A0 <| y_S rfl <| xN [0,1] [] rfl <| A3 <| A0 <| y_M rfl <| y_M rfl ?_
 apply xC rfl
 ·apply A6
  ·exact B6 rfl
  apply A6
  ·exact d0l rfl (d2e (d2e d2t))
  exact B8
 ·exact hC
 refine ⟨⟨rfl, rfl, rfl, dT rfl, rfl⟩, .inl rfl, B0, B9 rfl, fun _ => rfl, fun g7 => ?_⟩
 refine c0b rfl rfl <| y_S rfl <| xN [4] [] rfl <| B1 <| C2 rfl rfl trivial ?_
 rw [← hr]

theorem b5t : F3 Tryz.f142 = [0, 1, 2, 4] := by kernel_rfl
theorem d0x (x lo hi : Int) : CW (cxT oG) 142 [iV x, .ipt (iV lo) 0, .ipt (iV hi) 0] = some (bV (!(decide (lo ≤ x) && decide (x ≤ hi))), []) := by
 refine F0 rfl Tryz.func142 rfl ⟨by kernel_rfl, rfl, dT rfl, dT rfl, by decide⟩ b5t <| A3 <| A0 <| y_S rfl <| xN [0,1,2] [] rfl <| A3 <| A0 <| y_M rfl <| y_I rfl <| y_I rfl ?_
 refine xC3 rfl rfl rfl rfl (d6x _ _ _) ⟨rfl, rfl, rfl⟩ rfl rfl fun g8 => ?_
 refine L4 rfl <| y_S rfl <| xN [4] [] rfl <| B1 <| C2 rfl rfl trivial ?_
 rfl

theorem b7a : F3 Tryz.f111 = [0, 1, 2, 6, 4, 5] := by kernel_rfl
theorem c6h (xs : List Int) (hl : xs.length ≤ 1000) (lo hi : Int) : CW (cxT oG) 111 [L xs, iV lo, iV hi] = some (bV (a8j lo hi xs), []) := by
 refine F0 rfl Tryz.func111 rfl ⟨by kernel_rfl, rfl, dT rfl, dT rfl, by decide⟩ b7a <| A3 <| A0 <| b5x rfl rfl rfl (fun _ => Q4 rfl) (fun _ => rfl) ?_
 intro g4
 refine b5x rfl rfl rfl (fun _ => Q4 rfl) (fun _ => rfl) ?_
 intro g5
 refine y_S rfl <| xN [0,4,5] [4,5] rfl <| A3 <| A0 <| y_M rfl <| c2q rfl rfl ?_
 apply xC rfl
 ·apply A6
  ·exact B6 rfl
  apply A6
  ·exact d0l rfl (d2s rfl rfl (d2s rfl rfl d2t))
  exact B8
 ·exact b0y xs hl 142 (iV lo) (iV hi) _ (fun x => d0x x lo hi)
 refine ⟨⟨rfl, rfl, rfl, dT rfl, rfl⟩, .inr ⟨rfl, rfl⟩, B0, B9 rfl, fun _ => rfl, fun g9 => ?_⟩
 refine L4 rfl <| y_S rfl <| xN [6] [] rfl <| B1 <| C2 rfl rfl trivial ?_
 exact congrArg bV (d0b lo hi xs)

theorem a8c : F3 Tryz.f103 = [0, 2, 3, 7, 15] := by kernel_rfl
theorem a9p (xs : List Int) (hl : xs.length ≤ 1048576) : CW (cxT oG) 103 [L xs] = some (bV (vd xs), []) := by
 refine F0 rfl Tryz.func103 rfl ⟨by kernel_rfl, rfl, dT rfl, dT rfl, by decide⟩ a8c <| A3 <| A0 <| y_S rfl <| xN [0] [] rfl <| A3 <| A3 <| A0 <| y_S rfl <| xN [0,3] [] rfl <| B7 <| F5 (β := Nat) [(.t 0, _)] (fun (i : Nat) => [(.t 3, iV i)]) (fun (i : Nat) => i ≤ xs.length ∧ ∀ j, j < i → -200 ≤ xs.getD j default ∧ xs.getD j default ≤ 200) (fun (i : Nat) => xs.length - i) 0 ⟨rfl, rfl, trivial⟩ ⟨Nat.zero_le _, fun j h => by omega⟩ ?_
 intro i hb
 obtain ⟨hi1, hi2⟩ := hb
 refine A3 <| A3 <| A0 <| y_M rfl <| y_M rfl <| C9 rfl rfl <| H4 rfl rfl <| xN [0,3,7] [] rfl ?_
 refine A5 rfl ?_ ?_ <;> intro hc <;> try simp only [SL] at hc
 ·refine A9 <| A3 <| B7 <| A3 <| A0 <| y_M rfl <| y_M rfl <| B5 rfl rfl rfl (fun _ => rfl) (by omega) <| y_I rfl ?_
  refine xC3 rfl rfl rfl rfl (b6q _ _ _) ⟨rfl, rfl, rfl⟩ rfl rfl fun g14 => ?_
  refine L4 rfl <| xN [0,3,15] [] rfl ?_
  refine A5 rfl ?_ ?_ <;> intro hc <;> try simp only [SL] at hc
  ·refine A3 <| A0 <| y_S rfl <| xN [2] [] rfl <| B1 <| C2 rfl rfl trivial ?_
   rw [vd, b9w (show i < xs.length by omega) (by (simp_all; omega)), Bool.and_false]
   rfl
  refine A9 <| A0 <| y_M rfl <| F8 rfl rfl (C1 (by omega)) <| y_S rfl <| xN [0,3] [] rfl ?_
  refine ⟨i + 1, ⟨by omega, fun j hj => by rcases Nat.lt_succ_iff_lt_or_eq.1 hj with h | h; (· exact hi2 j h); (· subst h; assumption)⟩, (by omega), ⟨rfl, rfl, trivial⟩⟩
 refine F6 <| A3 <| A0 <| y_M rfl <| C9 rfl rfl <| a7o rfl rfl <| y_S rfl <| xN [2] [] rfl <| B1 <| C2 rfl rfl trivial ?_
 rw [vd, c6t fun j hj => hi2 j (by omega), Bool.and_true]
 exact congrArg bV (decide_eq_decide.2 (by omega))

theorem a7f : F3 Tryz.f100 = [0, 2] := by kernel_rfl
theorem a2t (xs : List Int) (hl : xs.length ≤ 1048576) : CW (cxT oG) 100 [L xs] = some (bV (vd xs), []) := by
 refine F0 rfl Tryz.func100 rfl ⟨by kernel_rfl, rfl, dT rfl, dT rfl, by decide⟩ a7f <| A3 <| A0 <| y_S rfl <| xN [0] [] rfl <| A3 <| A0 <| y_M rfl <| C9 rfl rfl <| a7o rfl rfl <| y_M rfl ?_
 refine C6 rfl rfl ?_ ?_ <;> intro hg0 <;> have hg := hg0 <;> try simp only [SG] at hg
 ·refine y_M rfl <| gT rfl rfl ?_
  refine xC3 rfl rfl rfl rfl (c6h xs (by omega) (-200) 200) ⟨rfl, rfl, rfl⟩ rfl rfl fun g8 => ?_
  refine E8 rfl (by assumption) rfl rfl <| y_S rfl <| xN [2] [] rfl <| B1 <| C2 rfl rfl trivial ?_
  cases hb : a8j (-200) 200 xs <;> simp_all [vd, ofConst] <;> omega
 refine gF rfl rfl <| F4 rfl (by assumption) rfl rfl <| y_S rfl <| xN [2] [] rfl <| B1 <| C2 rfl rfl trivial ?_
 cases hb : a8j (-200) 200 xs <;> simp_all [vd, ofConst] <;> omega

theorem b8g : F3 Tryz.f64 = [0, 2, 3, 4, 10, 19] := by kernel_rfl
theorem a5j (w : ByteArray) : CW (cxT oG) 64 [sV w] = some (iV (nd w), []) := by
 refine F0 rfl Tryz.func64 rfl ⟨by kernel_rfl, rfl, dT rfl, dT rfl, by decide⟩ b8g <| A3 <| A0 <| y_S rfl <| xN [0] [] rfl <| A3 <| A3 <| A0 <| y_M rfl <| xN [3] [] rfl <| B7 <| A3 <| A3 <| A0 <| H8 rfl rfl <| y_S rfl <| xN [3,4] [] rfl ?_
 refine A5 rfl ?_ ?_ <;> intro hc <;> try simp only [SL] at hc
 ·refine A9 ?_
  refine A5 rfl (fun hc => ?_) (fun hc => absurd hc (by simp_all))
  refine A3 <| A0 <| y_S rfl <| xN [2] [] rfl <| B1 <| C2 rfl rfl trivial <| congrArg iV ?_
  simp_all [nd]
 refine A3 <| A0 <| H8 rfl rfl <| y_S rfl <| xN [3,4] [] rfl ?_
 refine A5 rfl ?_ ?_ <;> intro hc <;> try simp only [SL] at hc
 ·refine A9 ?_
  refine A5 rfl (fun hc => ?_) (fun hc => absurd hc (by simp_all))
  refine A3 <| A0 <| y_S rfl <| xN [2] [] rfl <| B1 <| C2 rfl rfl trivial <| congrArg iV ?_
  simp_all [nd]
 refine A3 <| A0 <| H8 rfl rfl <| y_S rfl <| xN [3,4] [] rfl ?_
 refine A5 rfl ?_ ?_ <;> intro hc <;> try simp only [SL] at hc
 ·refine A9 ?_
  refine A5 rfl (fun hc => ?_) (fun hc => absurd hc (by simp_all))
  refine A3 <| A0 <| y_S rfl <| xN [2] [] rfl <| B1 <| C2 rfl rfl trivial <| congrArg iV ?_
  simp_all [nd]
 refine A3 <| A0 <| H8 rfl rfl <| y_S rfl <| xN [3,4] [] rfl ?_
 refine A5 rfl ?_ ?_ <;> intro hc <;> try simp only [SL] at hc
 ·refine A9 ?_
  refine A5 rfl (fun hc => ?_) (fun hc => absurd hc (by simp_all))
  refine A3 <| A0 <| y_S rfl <| xN [2] [] rfl <| B1 <| C2 rfl rfl trivial <| congrArg iV ?_
  simp_all [nd]
 refine A0 <| H8 rfl rfl <| y_S rfl <| xN [3,4] [] rfl ?_
 refine A5 rfl ?_ ?_ <;> intro hc <;> try simp only [SL] at hc
 ·refine A3 <| A0 <| y_S rfl <| xN [2] [] rfl <| B1 <| C2 rfl rfl trivial <| congrArg iV ?_
  simp_all [nd]
 refine A3 <| A3 <| A0 <| H8 rfl rfl <| y_S rfl <| xN [3,10] [] rfl ?_
 refine A5 rfl ?_ ?_ <;> intro hc <;> try simp only [SL] at hc
 ·refine A9 ?_
  refine A5 rfl (fun hc => ?_) (fun hc => absurd hc (by simp_all))
  refine A3 <| A0 <| y_S rfl <| xN [2] [] rfl <| B1 <| C2 rfl rfl trivial <| congrArg iV ?_
  simp_all [nd]
 refine A3 <| A0 <| H8 rfl rfl <| y_S rfl <| xN [3,10] [] rfl ?_
 refine A5 rfl ?_ ?_ <;> intro hc <;> try simp only [SL] at hc
 ·refine A9 ?_
  refine A5 rfl (fun hc => ?_) (fun hc => absurd hc (by simp_all))
  refine A3 <| A0 <| y_S rfl <| xN [2] [] rfl <| B1 <| C2 rfl rfl trivial <| congrArg iV ?_
  simp_all [nd]
 refine A3 <| A0 <| H8 rfl rfl <| y_S rfl <| xN [3,10] [] rfl ?_
 refine A5 rfl ?_ ?_ <;> intro hc <;> try simp only [SL] at hc
 ·refine A9 ?_
  refine A5 rfl (fun hc => ?_) (fun hc => absurd hc (by simp_all))
  refine A3 <| A0 <| y_S rfl <| xN [2] [] rfl <| B1 <| C2 rfl rfl trivial <| congrArg iV ?_
  simp_all [nd]
 refine A3 <| A0 <| H8 rfl rfl <| y_S rfl <| xN [3,10] [] rfl ?_
 refine A5 rfl ?_ ?_ <;> intro hc <;> try simp only [SL] at hc
 ·refine A9 ?_
  refine A5 rfl (fun hc => ?_) (fun hc => absurd hc (by simp_all))
  refine A3 <| A0 <| y_S rfl <| xN [2] [] rfl <| B1 <| C2 rfl rfl trivial <| congrArg iV ?_
  simp_all [nd]
 refine A3 <| A0 <| H8 rfl rfl <| y_S rfl <| xN [3,10] [] rfl ?_
 refine A5 rfl ?_ ?_ <;> intro hc <;> try simp only [SL] at hc
 ·refine A9 ?_
  refine A5 rfl (fun hc => ?_) (fun hc => absurd hc (by simp_all))
  refine A3 <| A0 <| y_S rfl <| xN [2] [] rfl <| B1 <| C2 rfl rfl trivial <| congrArg iV ?_
  simp_all [nd]
 refine A3 <| A0 <| H8 rfl rfl <| y_S rfl <| xN [3,10] [] rfl ?_
 refine A5 rfl ?_ ?_ <;> intro hc <;> try simp only [SL] at hc
 ·refine A9 ?_
  refine A5 rfl (fun hc => ?_) (fun hc => absurd hc (by simp_all))
  refine A3 <| A0 <| y_S rfl <| xN [2] [] rfl <| B1 <| C2 rfl rfl trivial <| congrArg iV ?_
  simp_all [nd]
 refine A3 <| A0 <| H8 rfl rfl <| y_S rfl <| xN [3,10] [] rfl ?_
 refine A5 rfl ?_ ?_ <;> intro hc <;> try simp only [SL] at hc
 ·refine A9 ?_
  refine A5 rfl (fun hc => ?_) (fun hc => absurd hc (by simp_all))
  refine A3 <| A0 <| y_S rfl <| xN [2] [] rfl <| B1 <| C2 rfl rfl trivial <| congrArg iV ?_
  simp_all [nd]
 refine A0 <| H8 rfl rfl <| y_S rfl <| xN [3,10] [] rfl ?_
 refine A5 rfl ?_ ?_ <;> intro hc <;> try simp only [SL] at hc
 ·refine A3 <| A0 <| y_S rfl <| xN [2] [] rfl <| B1 <| C2 rfl rfl trivial <| congrArg iV ?_
  simp_all [nd]
 refine A3 <| A3 <| A0 <| H8 rfl rfl <| y_S rfl <| xN [3,19] [] rfl ?_
 refine A5 rfl ?_ ?_ <;> intro hc <;> try simp only [SL] at hc
 ·refine A9 ?_
  refine A5 rfl (fun hc => ?_) (fun hc => absurd hc (by simp_all))
  refine A3 <| A0 <| y_S rfl <| xN [2] [] rfl <| B1 <| C2 rfl rfl trivial <| congrArg iV ?_
  simp_all [nd]
 refine A0 <| H8 rfl rfl <| y_S rfl <| xN [19] [] rfl ?_
 refine A5 rfl ?_ ?_ <;> intro hc <;> try simp only [SL] at hc
 ·refine A3 <| A0 <| y_S rfl <| xN [2] [] rfl <| B1 <| C2 rfl rfl trivial <| congrArg iV ?_
  simp_all [nd]
 refine A9 <| A3 <| A0 <| y_S rfl <| xN [2] [] rfl <| B1 <| C2 rfl rfl trivial <| congrArg iV ?_
 simp_all [nd]

theorem b4f : F3 Tryz.f86 = [0, 2, 3, 4, 13, 16] := by kernel_rfl
theorem a0m (w : ByteArray) : CW (cxT oG) 86 [sV w] = some (iV (rch w), []) := by
 refine F0 rfl Tryz.func86 rfl ⟨by kernel_rfl, rfl, dT rfl, dT rfl, by decide⟩ b4f <| A3 <| A0 <| y_S rfl <| xN [0] [] rfl <| A3 <| A3 <| A0 <| y_M rfl <| xN [3] [] rfl <| B7 <| A3 <| A3 <| A0 <| H8 rfl rfl <| y_S rfl <| xN [3,4] [] rfl ?_
 refine A5 rfl ?_ ?_ <;> intro hc <;> try simp only [SL] at hc
 ·refine A9 ?_
  refine A5 rfl (fun hc => ?_) (fun hc => absurd hc (by simp_all))
  refine A3 <| A0 <| y_S rfl <| xN [2] [] rfl <| B1 <| C2 rfl rfl trivial <| congrArg iV ?_
  simp_all [rch]
 refine A3 <| A0 <| H8 rfl rfl <| y_S rfl <| xN [3,4] [] rfl ?_
 refine A5 rfl ?_ ?_ <;> intro hc <;> try simp only [SL] at hc
 ·refine A9 ?_
  refine A5 rfl (fun hc => ?_) (fun hc => absurd hc (by simp_all))
  refine A3 <| A0 <| y_S rfl <| xN [2] [] rfl <| B1 <| C2 rfl rfl trivial <| congrArg iV ?_
  simp_all [rch]
 refine A3 <| A0 <| H8 rfl rfl <| y_S rfl <| xN [3,4] [] rfl ?_
 refine A5 rfl ?_ ?_ <;> intro hc <;> try simp only [SL] at hc
 ·refine A9 ?_
  refine A5 rfl (fun hc => ?_) (fun hc => absurd hc (by simp_all))
  refine A3 <| A0 <| y_S rfl <| xN [2] [] rfl <| B1 <| C2 rfl rfl trivial <| congrArg iV ?_
  simp_all [rch]
 refine A3 <| A0 <| H8 rfl rfl <| y_S rfl <| xN [3,4] [] rfl ?_
 refine A5 rfl ?_ ?_ <;> intro hc <;> try simp only [SL] at hc
 ·refine A9 ?_
  refine A5 rfl (fun hc => ?_) (fun hc => absurd hc (by simp_all))
  refine A3 <| A0 <| y_S rfl <| xN [2] [] rfl <| B1 <| C2 rfl rfl trivial <| congrArg iV ?_
  simp_all [rch]
 refine A3 <| A0 <| H8 rfl rfl <| y_S rfl <| xN [3,4] [] rfl ?_
 refine A5 rfl ?_ ?_ <;> intro hc <;> try simp only [SL] at hc
 ·refine A9 ?_
  refine A5 rfl (fun hc => ?_) (fun hc => absurd hc (by simp_all))
  refine A3 <| A0 <| y_S rfl <| xN [2] [] rfl <| B1 <| C2 rfl rfl trivial <| congrArg iV ?_
  simp_all [rch]
 refine A3 <| A0 <| H8 rfl rfl <| y_S rfl <| xN [3,4] [] rfl ?_
 refine A5 rfl ?_ ?_ <;> intro hc <;> try simp only [SL] at hc
 ·refine A9 ?_
  refine A5 rfl (fun hc => ?_) (fun hc => absurd hc (by simp_all))
  refine A3 <| A0 <| y_S rfl <| xN [2] [] rfl <| B1 <| C2 rfl rfl trivial <| congrArg iV ?_
  simp_all [rch]
 refine A3 <| A0 <| H8 rfl rfl <| y_S rfl <| xN [3,4] [] rfl ?_
 refine A5 rfl ?_ ?_ <;> intro hc <;> try simp only [SL] at hc
 ·refine A9 ?_
  refine A5 rfl (fun hc => ?_) (fun hc => absurd hc (by simp_all))
  refine A3 <| A0 <| y_S rfl <| xN [2] [] rfl <| B1 <| C2 rfl rfl trivial <| congrArg iV ?_
  simp_all [rch]
 refine A0 <| H8 rfl rfl <| y_S rfl <| xN [3,4] [] rfl ?_
 refine A5 rfl ?_ ?_ <;> intro hc <;> try simp only [SL] at hc
 ·refine A3 <| A0 <| y_S rfl <| xN [2] [] rfl <| B1 <| C2 rfl rfl trivial <| congrArg iV ?_
  simp_all [rch]
 refine A3 <| A3 <| A0 <| H8 rfl rfl <| y_S rfl <| xN [3,13] [] rfl ?_
 refine A5 rfl ?_ ?_ <;> intro hc <;> try simp only [SL] at hc
 ·refine A9 ?_
  refine A5 rfl (fun hc => ?_) (fun hc => absurd hc (by simp_all))
  refine A3 <| A0 <| y_S rfl <| xN [2] [] rfl <| B1 <| C2 rfl rfl trivial <| congrArg iV ?_
  simp_all [rch]
 refine A0 <| H8 rfl rfl <| y_S rfl <| xN [3,13] [] rfl ?_
 refine A5 rfl ?_ ?_ <;> intro hc <;> try simp only [SL] at hc
 ·refine A3 <| A0 <| y_S rfl <| xN [2] [] rfl <| B1 <| C2 rfl rfl trivial <| congrArg iV ?_
  simp_all [rch]
 refine A3 <| A3 <| A0 <| H8 rfl rfl <| y_S rfl <| xN [3,16] [] rfl ?_
 refine A5 rfl ?_ ?_ <;> intro hc <;> try simp only [SL] at hc
 ·refine A9 ?_
  refine A5 rfl (fun hc => ?_) (fun hc => absurd hc (by simp_all))
  refine A3 <| A0 <| y_S rfl <| xN [2] [] rfl <| B1 <| C2 rfl rfl trivial <| congrArg iV ?_
  simp_all [rch]
 refine A3 <| A0 <| H8 rfl rfl <| y_S rfl <| xN [3,16] [] rfl ?_
 refine A5 rfl ?_ ?_ <;> intro hc <;> try simp only [SL] at hc
 ·refine A9 ?_
  refine A5 rfl (fun hc => ?_) (fun hc => absurd hc (by simp_all))
  refine A3 <| A0 <| y_S rfl <| xN [2] [] rfl <| B1 <| C2 rfl rfl trivial <| congrArg iV ?_
  simp_all [rch]
 refine A3 <| A0 <| H8 rfl rfl <| y_S rfl <| xN [3,16] [] rfl ?_
 refine A5 rfl ?_ ?_ <;> intro hc <;> try simp only [SL] at hc
 ·refine A9 ?_
  refine A5 rfl (fun hc => ?_) (fun hc => absurd hc (by simp_all))
  refine A3 <| A0 <| y_S rfl <| xN [2] [] rfl <| B1 <| C2 rfl rfl trivial <| congrArg iV ?_
  simp_all [rch]
 refine A0 <| H8 rfl rfl <| y_S rfl <| xN [16] [] rfl ?_
 refine A5 rfl ?_ ?_ <;> intro hc <;> try simp only [SL] at hc
 ·refine A3 <| A0 <| y_S rfl <| xN [2] [] rfl <| B1 <| C2 rfl rfl trivial <| congrArg iV ?_
  simp_all [rch]
 refine A9 <| A3 <| A0 <| y_S rfl <| xN [2] [] rfl <| B1 <| C2 rfl rfl trivial <| congrArg iV ?_
 simp_all [rch]

theorem b5i : F3 Tryz.f148 = [0, 2, 4, 10] := by kernel_rfl
theorem a4u (n : Int) (hn : -1000000 ≤ n ∧ n ≤ 1000000) : CW (cxT oG) 148 [iV n] = some (tV (dec n), []) := by
 obtain ⟨kk, hkk⟩ : ∃ kk : Nat, 2 * n.natAbs + (if n < 0 then 1 else 0) < kk := ⟨_, Nat.lt_succ_self _⟩
 revert n
 induction kk with
 | zero => intro n hn hkk; exact absurd hkk (Nat.not_lt_zero _)
 | succ kk ih =>
  intro n hn hkk
  refine F0 rfl Tryz.func148 rfl ⟨by kernel_rfl, rfl, dT rfl, dT rfl, by decide⟩ b5i <| A3 <| A0 <| y_S rfl <| xN [0] [] rfl <| A3 <| A3 <| A0 <| y_M rfl <| H4 rfl rfl <| xN [0,4] [] rfl ?_
  refine A5 rfl ?_ ?_ <;> intro hc <;> try simp only [SL] at hc
  ·refine A3 <| A0 <| y_M rfl <| b3d rfl (C1 (by omega)) ?_
   have hdl := T8 (m := -n) (by omega)
   refine xC1 rfl rfl (ih (-n) (by omega) (by split at hkk <;> split <;> omega)) ⟨rfl, rfl, rfl⟩ rfl rfl fun g7 => ?_
   refine M8 rfl rfl (by simp only [G9, List.length_append, List.length_cons, List.length_nil]; omega) <| y_S rfl <| xN [2] [] rfl <| B1 <| C2 rfl rfl trivial ?_
   exact congrArg tV (d4f (by assumption)).symm
  refine A9 <| A3 <| A3 <| A0 <| y_M rfl <| H4 rfl rfl <| xN [0,10] [] rfl ?_
  refine A5 rfl ?_ ?_ <;> intro hc <;> try simp only [SL] at hc
  ·refine A3 <| A0 <| y_M rfl <| y_M rfl <| F8 rfl rfl (C1 (by omega)) <| T2 rfl rfl (O6 rfl (by omega)) (O6 rfl (by omega)) (by (simp; omega)) <| y_S rfl <| xN [2] [] rfl <| B1 <| C2 rfl rfl trivial ?_
   rw [d3f (by omega)]
  refine A9 <| A3 <| A0 <| y_M rfl ?_
  have hd10 : n.tdiv 10 = n / 10 := Int.tdiv_eq_ediv_of_nonneg (by omega)
  refine d1n rfl rfl ⟨by omega, C1 (by omega)⟩ ?_
  have hd10 : n.tdiv 10 = n / 10 := Int.tdiv_eq_ediv_of_nonneg (by omega)
  have hdl0 := T8 (m := n.tdiv 10) (by omega)
  refine xC1 rfl rfl (ih (n.tdiv 10) (by omega) (by split at hkk <;> split <;> omega)) ⟨rfl, rfl, rfl⟩ rfl rfl fun g17 => ?_
  refine y_M rfl <| b6g rfl rfl (by omega) ?_
  have hm10 : n.tmod 10 = n % 10 := Int.tmod_eq_emod_of_nonneg (by omega)
  have hdl1 := T8 (m := n.tmod 10) (by omega)
  refine xC1 rfl rfl (ih (n.tmod 10) (by omega) (by split at hkk <;> split <;> omega)) ⟨rfl, rfl, rfl⟩ rfl rfl fun g20 => ?_
  refine M8 rfl rfl (by simp only [G9, List.length_append, List.length_cons, List.length_nil]; omega) <| y_S rfl <| xN [2] [] rfl <| B1 <| C2 rfl rfl trivial ?_
  rw [← d5v (by omega)]

theorem b0e : F3 Tryz.f124 = [0, 2, 4, 8, 12, 3] := by kernel_rfl
theorem a6a (ns : List Int) (hl : ns.length ≤ 1000000) (hnb : ∀ n ∈ ns, -1000000 ≤ n ∧ n ≤ 1000000) : CW (cxT oG) 124 [L ns] = some (tV (O3 ns), []) := by
 have hg := fun (i : Nat) (h : i < ns.length) => hnb _ (a3x h)
 refine F0 rfl Tryz.func124 rfl ⟨by kernel_rfl, rfl, dT rfl, dT rfl, by decide⟩ b0e <| A3 <| A0 <| y_S rfl <| xN [0] [] rfl <| A3 <| A0 <| y_S rfl <| xN [0,3] [] rfl <| A3 <| A3 <| A0 <| y_S rfl <| xN [0,3,4] [] rfl <| B7 <| F5 (β := Nat) [(.t 0, _)] (fun (i : Nat) => [(.t 4, iV i), (.t 3, tV (O3 (ns.take i)))]) (fun (i : Nat) => i ≤ ns.length) (fun (i : Nat) => ns.length - i) 0 ⟨rfl, rfl, rfl, trivial⟩ (Nat.zero_le _) ?_
 intro i hb
 have hi1 := hb
 have hll := Y1 (ns := ns.take i) (fun n hn => hnb n (List.mem_of_mem_take hn))
 rw [List.length_take] at hll
 refine A3 <| A3 <| A0 <| y_M rfl <| y_M rfl <| C9 rfl rfl <| H4 rfl rfl <| xN [0,3,4,8] [] rfl ?_
 refine A5 rfl ?_ ?_ <;> intro hc <;> try simp only [SL] at hc
 ·refine A9 <| A3 <| B7 <| A3 <| A3 <| A0 <| y_M rfl <| M4 rfl rfl <| xN [0,3,4,12] [] rfl ?_
  refine A5 rfl ?_ ?_ <;> intro hc <;> try simp only [SL] at hc
  ·have hi0 : 0 < i := by omega
   refine A0 <| y_M rfl <| M8 rfl rfl (by simp only [G9, List.length_append, List.length_cons, List.length_nil]; omega) <| y_S rfl <| xN [0,3,4] [] rfl <| A0 <| y_M rfl <| y_M rfl <| y_M rfl <| B5 rfl rfl rfl (fun _ => rfl) (by omega) <| y_I rfl ?_
   have hgi := hg i (by omega)
   have hdl := T8 hgi
   refine xC1 rfl rfl (a4u (ns.getD i default) hgi) ⟨rfl, rfl, rfl⟩ rfl rfl fun g20 => ?_
   refine M8 rfl rfl (by simp only [G9, List.length_append, List.length_cons, List.length_nil]; omega) <| y_S rfl <| xN [0,3,4] [] rfl <| A0 <| y_M rfl <| F8 rfl rfl (C1 (by omega)) <| y_S rfl <| xN [0,3,4] [] rfl ?_
   rw [← b9j (by omega) hi0]
   refine ⟨i + 1, ?_, (by omega), ⟨rfl, rfl, rfl, trivial⟩⟩
   omega
  have hi0 : i = 0 := by omega
  refine A9 <| A0 <| y_M rfl <| y_M rfl <| y_M rfl <| B5 rfl rfl rfl (fun _ => rfl) (by omega) <| y_I rfl ?_
  have hgi := hg i (by omega)
  have hdl := T8 hgi
  refine xC1 rfl rfl (a4u (ns.getD i default) hgi) ⟨rfl, rfl, rfl⟩ rfl rfl fun g20 => ?_
  refine M8 rfl rfl (by simp only [G9, List.length_append, List.length_cons, List.length_nil]; omega) <| y_S rfl <| xN [0,3,4] [] rfl <| A0 <| y_M rfl <| F8 rfl rfl (C1 (by omega)) <| y_S rfl <| xN [0,3,4] [] rfl ?_
  rw [← c0t (by omega) hi0]
  refine ⟨i + 1, ?_, (by omega), ⟨rfl, rfl, rfl, trivial⟩⟩
  omega
 refine F6 <| A3 <| A0 <| y_M rfl <| y_S rfl <| xN [2] [] rfl <| B1 <| C2 rfl rfl trivial ?_
 rw [List.take_of_length_le (by omega)]

theorem b2u : F3 Tryz.f101 = [0, 1, 4, 7, 12, 19, 6, 5] := by kernel_rfl
theorem b6e (s : List UInt8) (hs : s.length ≤ 1048576) (c : UInt8) : CW (cxT oG) 101 [tV s, uV c.toNat] = some (.own 1 ((splitB c s).map tV), []) := by
 refine F0 rfl Tryz.func101 rfl ⟨by kernel_rfl, rfl, dT rfl, dT rfl, by decide⟩ b2u <| A3 <| A0 ?_
 (refine A8 rfl rfl (fun _ => rfl) ?_; intro g4)
 refine xN [0,1] [] rfl <| A3 <| A0 <| B3 (es := List.map tV []) rfl rfl (dT rfl) rfl rfl (fun _ => B2 (A7 fun _ => rfl)) (fun _ => rfl) ?_
 intro g8
 (refine xO rfl rfl (by simp) rfl (fun _ => rfl) (fun _ => rfl) ?_; intro g5)
 refine xN [0,1,5] [5] rfl <| A3 <| A0 <| y_S rfl <| xN [0,1,5,6] [5] rfl <| A3 <| A3 <| A0 <| y_S rfl <| xN [0,1,5,6,7] [5] rfl <| B7 <| F5 (β := Nat × Nat × List (List UInt8) × Nat) [(.t 0, _), (.t 1, _)] (fun (z : Nat × Nat × List (List UInt8) × Nat) => match z with | (i, fr, out, g) => [(.t 7, iV i), (.t 6, iV fr), (.t 5, .sl 5 g none 0 out.length), (.h 5, .obj g 0 1 (out.map tV))]) (fun (z : Nat × Nat × List (List UInt8) × Nat) => match z with | (i, fr, out, g) => i ≤ s.length ∧ fr ≤ i ∧ out.length ≤ i ∧ splitB c s = out ++ U7 ((s.drop fr).take (i - fr)) (splitB c (s.drop i))) (fun (z : Nat × Nat × List (List UInt8) × Nat) => match z with | (i, fr, out, g) => s.length - i) (0, 0, [], _) ⟨rfl, rfl, rfl, rfl, rfl, rfl, trivial⟩ ⟨Nat.zero_le _, Nat.le_refl _, Nat.le_refl _, by simp [b6n]⟩ ?_
 intro z hb
 obtain ⟨i, fr, out, g⟩ := z
 try dsimp only at hb
 obtain ⟨hi1, hfr, hol, hsp⟩ := hb
 refine A3 <| A3 <| A0 <| y_M rfl <| y_M rfl <| a2u rfl rfl <| H4 rfl rfl <| xN [0,1,5,6,7,12] [5] rfl ?_
 refine A5 rfl ?_ ?_ <;> intro hc <;> try simp only [SL] at hc
 ·refine A9 <| A3 <| B7 <| A3 <| A0 <| y_M rfl <| y_M rfl <| O2 rfl rfl rfl (by omega) <| y_M rfl <| L0 rfl rfl <| xN [0,1,5,6,7,19] [5] rfl ?_
  refine A5 rfl ?_ ?_ <;> intro hc <;> try simp only [SL] at hc
  ·have hcb : s.getD i 0 = c := UInt8.toNat_inj.1 (by omega)
   refine A3 <| A0 <| y_M rfl <| y_M rfl <| y_M rfl <| y_M rfl <| T2 rfl rfl (G0 rfl) (G0 rfl) (by omega) <| B3 (es := List.map tV [_]) rfl rfl (dT rfl) rfl rfl (fun _ => B2 (A7 fun _ => rfl)) (fun _ => rfl) ?_
   intro g25
   refine xA rfl rfl rfl rfl (by simp) (by simp) rfl rfl rfl rfl rfl (fun _ => rfl) (by simp only [LN]; omega) (fun _ => rfl) ?_
   intro g26
   (refine xO rfl rfl (by simp) rfl (fun _ => rfl) (fun _ => rfl) ?_; intro g5)
   refine xN [0,1,5,7] [5] rfl <| A0 <| y_M rfl <| F8 rfl rfl (C1 (by omega)) <| y_S rfl <| xN [0,1,5,6,7] [5] rfl <| A0 <| y_M rfl <| F8 rfl rfl (C1 (by omega)) <| y_S rfl <| xN [0,1,5,6,7] [5] rfl ?_
   refine ⟨(i + 1, i + 1, out ++ [(s.drop fr).take (i - fr)], _), ?_, (by simp only; omega), ⟨rfl, rfl, rfl, rfl, rfl, rfl, trivial⟩⟩
   have hst := b3v (by omega) hfr hsp
   exact ⟨by omega, by omega, by simp; omega, hst.1 hcb⟩
  have hcb : s.getD i 0 ≠ c := fun e => hc (by rw [e])
  refine A9 <| A0 <| y_M rfl <| F8 rfl rfl (C1 (by omega)) <| y_S rfl <| xN [0,1,5,6,7] [5] rfl ?_
  refine ⟨(i + 1, fr, out, _), ?_, (by simp only; omega), ⟨rfl, rfl, rfl, rfl, rfl, rfl, trivial⟩⟩
  have hst := b3v (by omega) hfr hsp
  exact ⟨by omega, by omega, by omega, hst.2 hcb⟩
 refine F6 <| A3 <| A0 <| y_M rfl <| y_M rfl <| y_M rfl <| T2 rfl rfl I2 (G0 rfl) (by omega) <| B3 (es := List.map tV [_]) rfl rfl (dT rfl) rfl rfl (fun _ => B2 (A7 fun _ => rfl)) (fun _ => rfl) ?_
 intro g33
 refine xA rfl rfl rfl rfl (by simp) (by simp) rfl rfl rfl rfl rfl (fun _ => rfl) (by simp only [LN]; omega) (fun _ => rfl) ?_
 intro g34
 (refine xO rfl rfl (by simp) rfl (fun _ => rfl) (fun _ => rfl) ?_; intro g4)
 refine xN [4] [4] rfl <| B1 <| J9 rfl rfl (by simp) (by exact A7 fun _ => rfl) trivial ?_
 have hil : i = s.length := by omega
 rw [hsp, hil, List.drop_length, splitB, U7, List.append_nil]

theorem b0l : F3 Tryz.f125 = [0, 2, 3, 5, 6, 17, 7, 8, 31, 10, 37, 9, 53, 62, 75, 4] := by kernel_rfl
theorem c3v (s : List UInt8) (hs : s.length ≤ 1048576) : CW (cxT oG) 125 [tV s] = some (.tup [.own 1 (((rdL s).getD []).map iV), bV (rdL s).isSome], []) := by
 obtain ⟨ps, hps⟩ : ∃ ps, ps = splitB 44 s := ⟨_, rfl⟩
 have hpl := Y5 44 s
 rw [← hps] at hpl
 have hpp := a1e 44 s
 rw [← hps] at hpp
 refine F0 rfl Tryz.func125 rfl ⟨by kernel_rfl, rfl, dT rfl, dT rfl, by decide⟩ b0l <| A3 <| A0 ?_
 (refine A8 rfl rfl (fun _ => rfl) ?_; intro g2)
 refine y_S rfl <| xN [0] [] rfl <| A3 <| A0 <| B3 (es := List.map iV []) rfl rfl (dT rfl) rfl rfl (fun _ => B2 (A7 fun _ => rfl)) (fun _ => rfl) ?_
 intro g11
 (refine xO rfl rfl (by simp) rfl (fun _ => rfl) (fun _ => rfl) ?_; intro g4)
 refine xN [0,4] [4] rfl <| A3 <| A0 <| y_M rfl ?_
 apply xC rfl
 ·apply A6
  ·exact B6 rfl
  apply A6
  ·exact B6 rfl
  exact B8
 ·exact b6e s hs 44
 refine ⟨⟨rfl, rfl, rfl, dT rfl, rfl⟩, .inl rfl, B0, H9, fun _ => rfl, fun g13 => ?_⟩
 rw [← hps]
 try simp only [List.length_map]
 (refine xO rfl rfl (by simp) rfl (fun _ => rfl) (fun _ => rfl) ?_; intro g5)
 refine xN [4,5] [4,5] rfl <| A3 <| A3 <| A0 <| y_S rfl <| xN [4,5,6] [4,5] rfl <| B7 <| F5 (β := Nat × List Int × Nat) [(.t 5, _), (.h 5, _)] (fun (z : Nat × List Int × Nat) => match z with | (i, ns, g) => [(.t 6, iV i), (.t 4, .sl 4 g none 0 ns.length), (.h 4, .obj g 0 1 (ns.map iV))]) (fun (z : Nat × List Int × Nat) => match z with | (i, ns, g) => i ≤ ps.length ∧ a0z (ps.take i) = some ns) (fun (z : Nat × List Int × Nat) => match z with | (i, ns, g) => ps.length - i) (0, [], _) ⟨rfl, rfl, rfl, rfl, rfl, trivial⟩ ⟨Nat.zero_le _, rfl⟩ ?_
 intro z hb
 obtain ⟨i, ns, g⟩ := z
 try dsimp only at hb
 obtain ⟨hi1, hrd⟩ := hb
 have hnl := a9i hrd
 rw [List.length_take] at hnl
 have hpi := fun h : i < ps.length => hpp _ (L1 h)
 refine A3 <| A3 <| A0 <| y_M rfl <| y_M rfl <| G8 rfl rfl <| H4 rfl rfl <| xN [4,5,6,17] [4,5] rfl ?_
 refine A5 rfl ?_ ?_ <;> intro hc <;> try simp only [SL] at hc
 ·refine A9 <| A3 <| B7 <| A3 <| A0 <| y_M rfl <| y_M rfl <| D9 rfl rfl rfl rfl (by omega) (by (simp; done)) rfl <| G3 rfl rfl (by omega) (fun _ => rfl) (fun _ => rfl) rfl <| y_S rfl <| xN [4,5,6,7] [4,5] rfl <| A3 <| A0 <| y_M rfl <| b5w rfl rfl <| y_M rfl ?_
  refine C6 rfl rfl ?_ ?_ <;> intro hg0 <;> have hg := hg0 <;> try simp only [SG] at hg
  ·refine y_M rfl <| gT rfl rfl ?_
   have hp0 : 0 < (ps.getD i default).length := List.length_pos_iff.2 (by assumption)
   refine O2 (n := 0) rfl rfl rfl hp0 <| gT rfl rfl <| L0 rfl rfl <| E8 rfl (by assumption) rfl rfl <| y_S rfl <| xN [4,5,6,7,8] [4,5] rfl <| A3 <| A3 <| A0 <| y_M rfl <| xN [4,5,6,7,8,31] [4,5] rfl ?_
   refine A5 rfl ?_ ?_ <;> intro hc <;> try simp only [SL] at hc
   ·obtain ⟨hng, hup⟩ := d6j (p := (ps.getD i default)) (by assumption) (by omega)
    have hul := b8t (ps.getD i default)
    rw [hup] at hul
    refine A0 <| y_M rfl <| T2 rfl rfl I2 (G0 (n := 1) rfl) (by omega) <| y_S rfl <| xN [4,5,6,7,8] [4,5] rfl <| A3 <| A0 <| y_S rfl <| xN [4,5,6,7,8,9] [4,5] rfl <| A3 <| A3 <| A0 <| y_S rfl <| xN [4,5,6,7,8,9,10] [4,5] rfl <| B7 ?_
    have hup0 := hup
    refine F5 (β := Nat × Int) [(.t 4, _), (.t 5, _), (.t 6, _), (.t 7, _), (.t 8, _), (.h 4, _), (.h 5, _)] (fun (z : Nat × Int) => match z with | (k, a) => [(.t 10, iV k), (.t 9, iV a)]) (fun (z : Nat × Int) => match z with | (k, a) => k ≤ (unS (ps.getD i default)).length ∧ 0 ≤ a ∧ U9 0 ((unS (ps.getD i default)).take k) = some a.toNat) (fun (z : Nat × Int) => match z with | (k, a) => (unS (ps.getD i default)).length - k) (0, 0) ⟨rfl, rfl, rfl, rfl, rfl, rfl, rfl, rfl, rfl, trivial⟩ ⟨Nat.zero_le _, by decide, rfl⟩ ?_
    intro z hb
    obtain ⟨k, a⟩ := z
    try dsimp only at hb
    obtain ⟨hk1, ha0, hdg⟩ := hb
    have hab := b1i (by decide) hdg
    rw [hup] at hk1 hdg
    refine A3 <| A3 <| A0 <| y_M rfl <| y_M rfl <| a2u rfl rfl <| H4 rfl rfl <| xN [4,5,6,7,8,9,10,37] [4,5] rfl ?_
    refine A5 rfl ?_ ?_ <;> intro hc <;> try simp only [SL] at hc
    ·refine A9 <| A3 <| B7 <| A3 <| A3 <| A0 <| y_M rfl <| y_M rfl <| O2 rfl rfl rfl (by omega) <| H4 rfl rfl <| y_M rfl ?_
     refine C6 rfl rfl ?_ ?_ <;> intro hg0 <;> have hg := hg0 <;> try simp only [SG] at hg
     ·refine y_M rfl <| gT rfl rfl <| y_M rfl <| gT rfl rfl <| O2 rfl rfl rfl (by omega) <| gT rfl rfl <| M4 rfl rfl <| F4 rfl (by assumption) rfl rfl <| y_M rfl ?_
      refine C6 rfl rfl ?_ ?_ <;> intro hg0 <;> have hg := hg0 <;> try simp only [SG] at hg
      ·refine y_M rfl <| gT rfl rfl <| M4 rfl rfl <| F4 rfl (by assumption) rfl rfl <| xN [4,5,6,7,8,9,10,53] [4,5] rfl ?_
       refine A5 rfl ?_ ?_ <;> intro hc <;> try simp only [SL] at hc
       ·refine A3 <| A0 ?_
        (refine A8 rfl rfl (fun _ => rfl) ?_; intro g2)
        refine y_S rfl <| xN [2,3] [2] rfl <| B1 <| C7 (E7 rfl rfl (by simp) (by rfl) (D7 rfl rfl (E3 C0))) ?_
        rw [rdL, ← hps, K3 (show i < ps.length by omega) (V9 (by rw [hup]; exact R9 (by omega) hdg (by omega)))]
        rfl
       refine A9 <| A0 <| y_M rfl <| a5s rfl rfl (C1 (by omega)) <| y_M rfl <| y_M rfl <| O2 rfl rfl rfl (by omega) <| K6 rfl rfl (d5h (by omega)) <| a4m rfl rfl rfl (C1 (by omega)) <| F8 rfl rfl (C1 (by omega)) <| y_S rfl <| xN [4,5,6,7,8,9,10] [4,5] rfl <| A0 <| y_M rfl <| F8 rfl rfl (C1 (by omega)) <| y_S rfl <| xN [4,5,6,7,8,9,10] [4,5] rfl ?_
       refine ⟨(k + 1, _), ?_, (by simp only [hup]; omega), ⟨rfl, rfl, rfl, rfl, rfl, rfl, rfl, rfl, rfl, trivial⟩⟩
       rw [hup]
       have hds := a8r (by omega) hdg (by omega)
       exact ⟨by omega, by omega, hds.trans (congrArg some (by omega))⟩
      refine gF rfl rfl <| E8 rfl (by assumption) rfl rfl <| xN [4,5,6,7,8,9,10,53] [4,5] rfl ?_
      refine A5 rfl (fun hc => ?_) (fun hc => absurd hc (by decide))
      refine A3 <| A0 ?_
      (refine A8 rfl rfl (fun _ => rfl) ?_; intro g2)
      refine y_S rfl <| xN [2,3] [2] rfl <| B1 <| C7 (E7 rfl rfl (by simp) (by rfl) (D7 rfl rfl (E3 C0))) ?_
      rw [rdL, ← hps, K3 (show i < ps.length by omega) (V9 (by rw [hup]; exact R9 (by omega) hdg (by omega)))]
      rfl
     refine gF rfl rfl <| gF rfl rfl <| gF rfl rfl <| E8 rfl (by assumption) rfl rfl <| y_M rfl <| M1 rfl rfl rfl <| M1 rfl rfl rfl <| E8 rfl rfl rfl rfl <| xN [4,5,6,7,8,9,10,53] [4,5] rfl ?_
     refine A5 rfl (fun hc => ?_) (fun hc => absurd hc (by decide))
     refine A3 <| A0 ?_
     (refine A8 rfl rfl (fun _ => rfl) ?_; intro g2)
     refine y_S rfl <| xN [2,3] [2] rfl <| B1 <| C7 (E7 rfl rfl (by simp) (by rfl) (D7 rfl rfl (E3 C0))) ?_
     rw [rdL, ← hps, K3 (show i < ps.length by omega) (V9 (by rw [hup]; exact R9 (by omega) hdg (by omega)))]
     rfl
    have hdU : U9 0 (unS (ps.getD i default)) = some a.toNat := by rw [hup]; rw [List.take_of_length_le (by omega)] at hdg; exact hdg
    refine F6 <| A3 <| A3 <| A0 <| y_M rfl <| xN [4,5,6,7,9,62] [4,5] rfl ?_
    refine A5 rfl (fun hc => ?_) (fun hc => absurd hc (by simp_all))
    refine A0 <| y_M rfl <| b3d rfl (C1 (by omega)) <| y_S rfl <| xN [4,5,6,7,9] [4,5] rfl <| A3 <| A3 <| A0 <| y_M rfl <| b3i rfl rfl <| y_M rfl ?_
    refine C6 rfl rfl ?_ ?_ <;> intro hg0 <;> have hg := hg0 <;> try simp only [SG] at hg
    ·refine y_M rfl <| gT rfl rfl ?_
     have hdl1 := T8 (m := -a) (by omega)
     have hdl2 := T8 (m := a) (by omega)
     refine xC1 rfl rfl (a4u (-a) (by omega)) ⟨rfl, rfl, rfl⟩ rfl rfl fun g69 => ?_
     refine gT rfl rfl <| y_M rfl <| gT rfl rfl <| y_M rfl <| gT rfl rfl <| D9 rfl rfl rfl rfl (by omega) (by (simp; done)) rfl <| gT rfl rfl <| G3 rfl rfl (by omega) (fun _ => rfl) (fun _ => rfl) rfl <| gT rfl rfl <| b5w rfl rfl <| F4 rfl (by assumption) rfl rfl ?_
     refine K4 ⟨fun _ => ⟨by (simp only [a2z, List.nil_append, List.append_nil, List.map_cons, List.map_nil, List.cons_append]; decide +kernel), by decide +kernel⟩, [(.t 4, _), (.t 5, _), (.t 6, _), (.t 9, _), (.t 75, _), (.h 4, _), (.h 5, _)], ⟨rfl, rfl, rfl, rfl, rfl, rfl, rfl, rfl, rfl, rfl, rfl, rfl, rfl, rfl, trivial⟩, ?_⟩
     refine A5 rfl ?_ ?_ <;> intro hc <;> try simp only [SL] at hc
     ·refine A3 <| A0 ?_
      (refine A8 rfl rfl (fun _ => rfl) ?_; intro g2)
      refine y_S rfl <| xN [2,3] [2] rfl <| B1 <| C7 (E7 rfl rfl (by simp) (by rfl) (D7 rfl rfl (E3 C0))) ?_
      have hno : rdI (ps.getD i default) = none := by exact a8g (m := -a) hdU (by (rw [hng, if_pos rfl]; omega)) (by exact .inr (by assumption))
      rw [rdL, ← hps, K3 (show i < ps.length by omega) hno]
      rfl
     have hri := c4o (m := -a) hdU (by (rw [hng, if_pos rfl]; omega)) (by rw [hup]; assumption) (by assumption)
     refine A9 <| A0 <| y_M rfl <| y_M rfl <| B3 (es := List.map iV [_]) rfl rfl (dT rfl) rfl rfl (fun _ => B2 (A7 fun _ => rfl)) (fun _ => rfl) ?_
     intro g78
     refine xA rfl rfl rfl rfl (by simp) (by simp) rfl rfl rfl rfl rfl (fun _ => rfl) (by simp only [LN]; omega) (fun _ => rfl) ?_
     intro g79
     (refine xO rfl rfl (by simp) rfl (fun _ => rfl) (fun _ => rfl) ?_; intro g4)
     refine xN [4,5,6] [4,5] rfl <| A0 <| y_M rfl <| F8 rfl rfl (C1 (by omega)) <| y_S rfl <| xN [4,5,6] [4,5] rfl ?_
     refine ⟨(i + 1, ns ++ [-a], _), ?_, (by simp only; omega), ⟨rfl, rfl, rfl, rfl, rfl, trivial⟩⟩
     exact ⟨by omega, a8n (by omega) hrd hri⟩
    iterate 6 refine gF rfl rfl ?_
    refine E8 rfl (by assumption) rfl rfl ?_
    refine K4 ⟨fun _ => ⟨by decide +kernel, by decide +kernel⟩, [(.t 4, _), (.t 5, _), (.t 6, _), (.t 9, _), (.t 75, _), (.h 4, _), (.h 5, _)], ⟨rfl, rfl, rfl, rfl, rfl, rfl, rfl, rfl, rfl, rfl, rfl, rfl, rfl, rfl, trivial⟩, ?_⟩
    refine A5 rfl (fun hc => ?_) (fun hc => absurd hc (by decide))
    refine A3 <| A0 ?_
    (refine A8 rfl rfl (fun _ => rfl) ?_; intro g2)
    refine y_S rfl <| xN [2,3] [2] rfl <| B1 <| C7 (E7 rfl rfl (by simp) (by rfl) (D7 rfl rfl (E3 C0))) ?_
    have hno : rdI (ps.getD i default) = none := by exact a8g (m := -a) hdU (by (rw [hng, if_pos rfl]; omega)) (by exact .inl (by rw [hup]; assumption))
    rw [rdL, ← hps, K3 (show i < ps.length by omega) hno]
    rfl
   obtain ⟨hng, hup⟩ := d4q (p := (ps.getD i default)) (by exact .inr (by omega))
   have hul := b8t (ps.getD i default)
   rw [hup] at hul
   refine A9 <| A3 <| A0 <| y_S rfl <| xN [4,5,6,7,8,9] [4,5] rfl <| A3 <| A3 <| A0 <| y_S rfl <| xN [4,5,6,7,8,9,10] [4,5] rfl <| B7 ?_
   have hup0 := hup
   refine F5 (β := Nat × Int) [(.t 4, _), (.t 5, _), (.t 6, _), (.t 7, _), (.t 8, _), (.h 4, _), (.h 5, _)] (fun (z : Nat × Int) => match z with | (k, a) => [(.t 10, iV k), (.t 9, iV a)]) (fun (z : Nat × Int) => match z with | (k, a) => k ≤ (unS (ps.getD i default)).length ∧ 0 ≤ a ∧ U9 0 ((unS (ps.getD i default)).take k) = some a.toNat) (fun (z : Nat × Int) => match z with | (k, a) => (unS (ps.getD i default)).length - k) (0, 0) ⟨rfl, rfl, rfl, rfl, rfl, rfl, rfl, rfl, rfl, trivial⟩ ⟨Nat.zero_le _, by decide, rfl⟩ ?_
   intro z hb
   obtain ⟨k, a⟩ := z
   try dsimp only at hb
   obtain ⟨hk1, ha0, hdg⟩ := hb
   have hab := b1i (by decide) hdg
   rw [hup] at hk1 hdg
   refine A3 <| A3 <| A0 <| y_M rfl <| y_M rfl <| a2u rfl rfl <| H4 rfl rfl <| xN [4,5,6,7,8,9,10,37] [4,5] rfl ?_
   refine A5 rfl ?_ ?_ <;> intro hc <;> try simp only [SL] at hc
   ·refine A9 <| A3 <| B7 <| A3 <| A3 <| A0 <| y_M rfl <| y_M rfl <| O2 rfl rfl rfl (by omega) <| H4 rfl rfl <| y_M rfl ?_
    refine C6 rfl rfl ?_ ?_ <;> intro hg0 <;> have hg := hg0 <;> try simp only [SG] at hg
    ·refine y_M rfl <| gT rfl rfl <| y_M rfl <| gT rfl rfl <| O2 rfl rfl rfl (by omega) <| gT rfl rfl <| M4 rfl rfl <| F4 rfl (by assumption) rfl rfl <| y_M rfl ?_
     refine C6 rfl rfl ?_ ?_ <;> intro hg0 <;> have hg := hg0 <;> try simp only [SG] at hg
     ·refine y_M rfl <| gT rfl rfl <| M4 rfl rfl <| F4 rfl (by assumption) rfl rfl <| xN [4,5,6,7,8,9,10,53] [4,5] rfl ?_
      refine A5 rfl ?_ ?_ <;> intro hc <;> try simp only [SL] at hc
      ·refine A3 <| A0 ?_
       (refine A8 rfl rfl (fun _ => rfl) ?_; intro g2)
       refine y_S rfl <| xN [2,3] [2] rfl <| B1 <| C7 (E7 rfl rfl (by simp) (by rfl) (D7 rfl rfl (E3 C0))) ?_
       rw [rdL, ← hps, K3 (show i < ps.length by omega) (V9 (by rw [hup]; exact R9 (by omega) hdg (by omega)))]
       rfl
      refine A9 <| A0 <| y_M rfl <| a5s rfl rfl (C1 (by omega)) <| y_M rfl <| y_M rfl <| O2 rfl rfl rfl (by omega) <| K6 rfl rfl (d5h (by omega)) <| a4m rfl rfl rfl (C1 (by omega)) <| F8 rfl rfl (C1 (by omega)) <| y_S rfl <| xN [4,5,6,7,8,9,10] [4,5] rfl <| A0 <| y_M rfl <| F8 rfl rfl (C1 (by omega)) <| y_S rfl <| xN [4,5,6,7,8,9,10] [4,5] rfl ?_
      refine ⟨(k + 1, _), ?_, (by simp only [hup]; omega), ⟨rfl, rfl, rfl, rfl, rfl, rfl, rfl, rfl, rfl, trivial⟩⟩
      rw [hup]
      have hds := a8r (by omega) hdg (by omega)
      exact ⟨by omega, by omega, hds.trans (congrArg some (by omega))⟩
     refine gF rfl rfl <| E8 rfl (by assumption) rfl rfl <| xN [4,5,6,7,8,9,10,53] [4,5] rfl ?_
     refine A5 rfl (fun hc => ?_) (fun hc => absurd hc (by decide))
     refine A3 <| A0 ?_
     (refine A8 rfl rfl (fun _ => rfl) ?_; intro g2)
     refine y_S rfl <| xN [2,3] [2] rfl <| B1 <| C7 (E7 rfl rfl (by simp) (by rfl) (D7 rfl rfl (E3 C0))) ?_
     rw [rdL, ← hps, K3 (show i < ps.length by omega) (V9 (by rw [hup]; exact R9 (by omega) hdg (by omega)))]
     rfl
    refine gF rfl rfl <| gF rfl rfl <| gF rfl rfl <| E8 rfl (by assumption) rfl rfl <| y_M rfl <| M1 rfl rfl rfl <| M1 rfl rfl rfl <| E8 rfl rfl rfl rfl <| xN [4,5,6,7,8,9,10,53] [4,5] rfl ?_
    refine A5 rfl (fun hc => ?_) (fun hc => absurd hc (by decide))
    refine A3 <| A0 ?_
    (refine A8 rfl rfl (fun _ => rfl) ?_; intro g2)
    refine y_S rfl <| xN [2,3] [2] rfl <| B1 <| C7 (E7 rfl rfl (by simp) (by rfl) (D7 rfl rfl (E3 C0))) ?_
    rw [rdL, ← hps, K3 (show i < ps.length by omega) (V9 (by rw [hup]; exact R9 (by omega) hdg (by omega)))]
    rfl
   have hdU : U9 0 (unS (ps.getD i default)) = some a.toNat := by rw [hup]; rw [List.take_of_length_le (by omega)] at hdg; exact hdg
   refine F6 <| A3 <| A3 <| A0 <| y_M rfl <| xN [4,5,6,7,9,62] [4,5] rfl ?_
   refine A5 rfl (fun hc => absurd hc (by simp_all)) (fun hc => ?_)
   refine A9 <| A3 <| A3 <| A0 <| y_M rfl <| b3i rfl rfl <| y_M rfl ?_
   refine C6 rfl rfl ?_ ?_ <;> intro hg0 <;> have hg := hg0 <;> try simp only [SG] at hg
   ·refine y_M rfl <| gT rfl rfl ?_
    have hdl1 := T8 (m := -a) (by omega)
    have hdl2 := T8 (m := a) (by omega)
    refine xC1 rfl rfl (a4u a (by omega)) ⟨rfl, rfl, rfl⟩ rfl rfl fun g69 => ?_
    refine gT rfl rfl <| y_M rfl <| gT rfl rfl <| y_M rfl <| gT rfl rfl <| D9 rfl rfl rfl rfl (by omega) (by (simp; done)) rfl <| gT rfl rfl <| G3 rfl rfl (by omega) (fun _ => rfl) (fun _ => rfl) rfl <| gT rfl rfl <| b5w rfl rfl <| F4 rfl (by assumption) rfl rfl ?_
    refine K4 ⟨fun _ => ⟨by (simp only [a2z, List.nil_append, List.append_nil, List.map_cons, List.map_nil, List.cons_append]; decide +kernel), by decide +kernel⟩, [(.t 4, _), (.t 5, _), (.t 6, _), (.t 9, _), (.t 75, _), (.h 4, _), (.h 5, _)], ⟨rfl, rfl, rfl, rfl, rfl, rfl, rfl, rfl, rfl, rfl, rfl, rfl, rfl, rfl, trivial⟩, ?_⟩
    refine A5 rfl ?_ ?_ <;> intro hc <;> try simp only [SL] at hc
    ·refine A3 <| A0 ?_
     (refine A8 rfl rfl (fun _ => rfl) ?_; intro g2)
     refine y_S rfl <| xN [2,3] [2] rfl <| B1 <| C7 (E7 rfl rfl (by simp) (by rfl) (D7 rfl rfl (E3 C0))) ?_
     have hno : rdI (ps.getD i default) = none := by exact a8g (m := a) hdU (by (rw [hng, if_neg (by decide)]; omega)) (by exact .inr (by assumption))
     rw [rdL, ← hps, K3 (show i < ps.length by omega) hno]
     rfl
    have hri := c4o (m := a) hdU (by (rw [hng, if_neg (by decide)]; omega)) (by rw [hup]; assumption) (by assumption)
    refine A9 <| A0 <| y_M rfl <| y_M rfl <| B3 (es := List.map iV [_]) rfl rfl (dT rfl) rfl rfl (fun _ => B2 (A7 fun _ => rfl)) (fun _ => rfl) ?_
    intro g78
    refine xA rfl rfl rfl rfl (by simp) (by simp) rfl rfl rfl rfl rfl (fun _ => rfl) (by simp only [LN]; omega) (fun _ => rfl) ?_
    intro g79
    (refine xO rfl rfl (by simp) rfl (fun _ => rfl) (fun _ => rfl) ?_; intro g4)
    refine xN [4,5,6] [4,5] rfl <| A0 <| y_M rfl <| F8 rfl rfl (C1 (by omega)) <| y_S rfl <| xN [4,5,6] [4,5] rfl ?_
    refine ⟨(i + 1, ns ++ [a], _), ?_, (by simp only; omega), ⟨rfl, rfl, rfl, rfl, rfl, trivial⟩⟩
    exact ⟨by omega, a8n (by omega) hrd hri⟩
   iterate 6 refine gF rfl rfl ?_
   refine E8 rfl (by assumption) rfl rfl ?_
   refine K4 ⟨fun _ => ⟨by decide +kernel, by decide +kernel⟩, [(.t 4, _), (.t 5, _), (.t 6, _), (.t 9, _), (.t 75, _), (.h 4, _), (.h 5, _)], ⟨rfl, rfl, rfl, rfl, rfl, rfl, rfl, rfl, rfl, rfl, rfl, rfl, rfl, rfl, trivial⟩, ?_⟩
   refine A5 rfl (fun hc => ?_) (fun hc => absurd hc (by decide))
   refine A3 <| A0 ?_
   (refine A8 rfl rfl (fun _ => rfl) ?_; intro g2)
   refine y_S rfl <| xN [2,3] [2] rfl <| B1 <| C7 (E7 rfl rfl (by simp) (by rfl) (D7 rfl rfl (E3 C0))) ?_
   have hno : rdI (ps.getD i default) = none := by exact a8g (m := a) hdU (by (rw [hng, if_neg (by decide)]; omega)) (by exact .inl (by rw [hup]; assumption))
   rw [rdL, ← hps, K3 (show i < ps.length by omega) hno]
   rfl
  refine gF rfl rfl <| gF rfl rfl <| F4 rfl (by assumption) rfl rfl <| y_S rfl <| xN [4,5,6,7,8] [4,5] rfl <| A3 <| A3 <| A0 <| y_M rfl <| xN [4,5,6,7,8,31] [4,5] rfl ?_
  refine A5 rfl (fun hc => absurd hc (by decide)) (fun hc => ?_)
  refine A9 <| A3 <| A0 <| y_S rfl <| xN [4,5,6,7,8,9] [4,5] rfl <| A3 <| A3 <| A0 <| y_S rfl <| xN [4,5,6,7,8,9,10] [4,5] rfl <| B7 ?_
  (obtain ⟨hng, hup⟩ := d4q (p := (ps.getD i default)) (.inl (by assumption)); have hul := b8t (ps.getD i default); rw [hup] at hul)
  refine F5 (β := Nat × Int) [(.t 4, _), (.t 5, _), (.t 6, _), (.t 7, _), (.t 8, _), (.h 4, _), (.h 5, _)] (fun (z : Nat × Int) => match z with | (k, a) => [(.t 10, iV k), (.t 9, iV a)]) (fun (z : Nat × Int) => match z with | (k, a) => k ≤ (unS (ps.getD i default)).length ∧ 0 ≤ a ∧ U9 0 ((unS (ps.getD i default)).take k) = some a.toNat) (fun (z : Nat × Int) => match z with | (k, a) => (unS (ps.getD i default)).length - k) (0, 0) ⟨rfl, rfl, rfl, rfl, rfl, rfl, rfl, rfl, rfl, trivial⟩ ⟨Nat.zero_le _, by decide, rfl⟩ ?_
  intro z hb
  obtain ⟨k, a⟩ := z
  try dsimp only at hb
  obtain ⟨hk1, ha0, hdg⟩ := hb
  have hab := b1i (by decide) hdg
  rw [hup] at hk1 hdg
  refine A3 <| A3 <| A0 <| y_M rfl <| y_M rfl <| a2u rfl rfl <| H4 rfl rfl <| xN [4,5,6,7,8,9,10,37] [4,5] rfl ?_
  refine A5 rfl ?_ ?_ <;> intro hc <;> try simp only [SL] at hc
  ·refine A9 <| A3 <| B7 <| A3 <| A3 <| A0 <| y_M rfl <| y_M rfl <| O2 rfl rfl rfl (by omega) <| H4 rfl rfl <| y_M rfl ?_
   refine C6 rfl rfl ?_ ?_ <;> intro hg0 <;> have hg := hg0 <;> try simp only [SG] at hg
   ·refine y_M rfl <| gT rfl rfl <| y_M rfl <| gT rfl rfl <| O2 rfl rfl rfl (by omega) <| gT rfl rfl <| M4 rfl rfl <| F4 rfl (by assumption) rfl rfl <| y_M rfl ?_
    refine C6 rfl rfl ?_ ?_ <;> intro hg0 <;> have hg := hg0 <;> try simp only [SG] at hg
    ·refine y_M rfl <| gT rfl rfl <| M4 rfl rfl <| F4 rfl (by assumption) rfl rfl <| xN [4,5,6,7,8,9,10,53] [4,5] rfl ?_
     refine A5 rfl ?_ ?_ <;> intro hc <;> try simp only [SL] at hc
     ·refine A3 <| A0 ?_
      (refine A8 rfl rfl (fun _ => rfl) ?_; intro g2)
      refine y_S rfl <| xN [2,3] [2] rfl <| B1 <| C7 (E7 rfl rfl (by simp) (by rfl) (D7 rfl rfl (E3 C0))) ?_
      rw [rdL, ← hps, K3 (show i < ps.length by omega) (V9 (by rw [hup]; exact R9 (by omega) hdg (by omega)))]
      rfl
     refine A9 <| A0 <| y_M rfl <| a5s rfl rfl (C1 (by omega)) <| y_M rfl <| y_M rfl <| O2 rfl rfl rfl (by omega) <| K6 rfl rfl (d5h (by omega)) <| a4m rfl rfl rfl (C1 (by omega)) <| F8 rfl rfl (C1 (by omega)) <| y_S rfl <| xN [4,5,6,7,8,9,10] [4,5] rfl <| A0 <| y_M rfl <| F8 rfl rfl (C1 (by omega)) <| y_S rfl <| xN [4,5,6,7,8,9,10] [4,5] rfl ?_
     refine ⟨(k + 1, _), ?_, (by simp only [hup]; omega), ⟨rfl, rfl, rfl, rfl, rfl, rfl, rfl, rfl, rfl, trivial⟩⟩
     rw [hup]
     have hds := a8r (by omega) hdg (by omega)
     exact ⟨by omega, by omega, hds.trans (congrArg some (by omega))⟩
    refine gF rfl rfl <| E8 rfl (by assumption) rfl rfl <| xN [4,5,6,7,8,9,10,53] [4,5] rfl ?_
    refine A5 rfl (fun hc => ?_) (fun hc => absurd hc (by decide))
    refine A3 <| A0 ?_
    (refine A8 rfl rfl (fun _ => rfl) ?_; intro g2)
    refine y_S rfl <| xN [2,3] [2] rfl <| B1 <| C7 (E7 rfl rfl (by simp) (by rfl) (D7 rfl rfl (E3 C0))) ?_
    rw [rdL, ← hps, K3 (show i < ps.length by omega) (V9 (by rw [hup]; exact R9 (by omega) hdg (by omega)))]
    rfl
   refine gF rfl rfl <| gF rfl rfl <| gF rfl rfl <| E8 rfl (by assumption) rfl rfl <| y_M rfl <| M1 rfl rfl rfl <| M1 rfl rfl rfl <| E8 rfl rfl rfl rfl <| xN [4,5,6,7,8,9,10,53] [4,5] rfl ?_
   refine A5 rfl (fun hc => ?_) (fun hc => absurd hc (by decide))
   refine A3 <| A0 ?_
   (refine A8 rfl rfl (fun _ => rfl) ?_; intro g2)
   refine y_S rfl <| xN [2,3] [2] rfl <| B1 <| C7 (E7 rfl rfl (by simp) (by rfl) (D7 rfl rfl (E3 C0))) ?_
   rw [rdL, ← hps, K3 (show i < ps.length by omega) (V9 (by rw [hup]; exact R9 (by omega) hdg (by omega)))]
   rfl
  have hdU : U9 0 (unS (ps.getD i default)) = some a.toNat := by rw [hup]; rw [List.take_of_length_le (by omega)] at hdg; exact hdg
  refine F6 <| A3 <| A3 <| A0 <| y_M rfl <| xN [4,5,6,7,9,62] [4,5] rfl ?_
  refine A5 rfl (fun hc => absurd hc (by decide)) (fun hc => ?_)
  refine A9 <| A3 <| A3 <| A0 <| y_M rfl <| b3i rfl rfl <| y_M rfl ?_
  refine C6 rfl rfl ?_ ?_ <;> intro hg0 <;> have hg := hg0 <;> try simp only [SG] at hg
  ·refine y_M rfl <| gT rfl rfl ?_
   have hdl1 := T8 (m := -a) (by omega)
   have hdl2 := T8 (m := a) (by omega)
   refine xC1 rfl rfl (a4u a (by omega)) ⟨rfl, rfl, rfl⟩ rfl rfl fun g69 => ?_
   refine gT rfl rfl <| y_M rfl <| gT rfl rfl <| y_M rfl <| gT rfl rfl <| D9 rfl rfl rfl rfl (by omega) (by (simp; done)) rfl <| gT rfl rfl <| G3 rfl rfl (by omega) (fun _ => rfl) (fun _ => rfl) rfl <| gT rfl rfl <| b5w rfl rfl <| F4 rfl (by assumption) rfl rfl ?_
   refine K4 ⟨fun _ => ⟨by (simp only [a2z, List.nil_append, List.append_nil, List.map_cons, List.map_nil, List.cons_append]; decide +kernel), by decide +kernel⟩, [(.t 4, _), (.t 5, _), (.t 6, _), (.t 9, _), (.t 75, _), (.h 4, _), (.h 5, _)], ⟨rfl, rfl, rfl, rfl, rfl, rfl, rfl, rfl, rfl, rfl, rfl, rfl, rfl, rfl, trivial⟩, ?_⟩
   refine A5 rfl ?_ ?_ <;> intro hc <;> try simp only [SL] at hc
   ·refine A3 <| A0 ?_
    (refine A8 rfl rfl (fun _ => rfl) ?_; intro g2)
    refine y_S rfl <| xN [2,3] [2] rfl <| B1 <| C7 (E7 rfl rfl (by simp) (by rfl) (D7 rfl rfl (E3 C0))) ?_
    have hno : rdI (ps.getD i default) = none := by exact a8g (m := a) hdU (by (rw [hng, if_neg (by decide)]; omega)) (by exact .inl (by rw [hup]; assumption))
    rw [rdL, ← hps, K3 (show i < ps.length by omega) hno]
    rfl
   have hri := c4o (m := a) hdU (by (rw [hng, if_neg (by decide)]; omega)) (by rw [hup]; assumption) (by assumption)
   refine A9 <| A0 <| y_M rfl <| y_M rfl <| B3 (es := List.map iV [_]) rfl rfl (dT rfl) rfl rfl (fun _ => B2 (A7 fun _ => rfl)) (fun _ => rfl) ?_
   intro g78
   refine xA rfl rfl rfl rfl (by simp) (by simp) rfl rfl rfl rfl rfl (fun _ => rfl) (by simp only [LN]; omega) (fun _ => rfl) ?_
   intro g79
   (refine xO rfl rfl (by simp) rfl (fun _ => rfl) (fun _ => rfl) ?_; intro g4)
   refine xN [4,5,6] [4,5] rfl <| A0 <| y_M rfl <| F8 rfl rfl (C1 (by omega)) <| y_S rfl <| xN [4,5,6] [4,5] rfl ?_
   refine ⟨(i + 1, ns ++ [a], _), ?_, (by simp only; omega), ⟨rfl, rfl, rfl, rfl, rfl, trivial⟩⟩
   exact ⟨by omega, a8n (by omega) hrd hri⟩
  iterate 6 refine gF rfl rfl ?_
  refine E8 rfl (by assumption) rfl rfl ?_
  refine K4 ⟨fun _ => ⟨by decide +kernel, by decide +kernel⟩, [(.t 4, _), (.t 5, _), (.t 6, _), (.t 9, _), (.t 75, _), (.h 4, _), (.h 5, _)], ⟨rfl, rfl, rfl, rfl, rfl, rfl, rfl, rfl, rfl, rfl, rfl, rfl, rfl, rfl, trivial⟩, ?_⟩
  refine A5 rfl (fun hc => ?_) (fun hc => absurd hc (by decide))
  refine A3 <| A0 ?_
  (refine A8 rfl rfl (fun _ => rfl) ?_; intro g2)
  refine y_S rfl <| xN [2,3] [2] rfl <| B1 <| C7 (E7 rfl rfl (by simp) (by rfl) (D7 rfl rfl (E3 C0))) ?_
  have hno : rdI (ps.getD i default) = none := by exact a8g (m := a) hdU (by (rw [hng, if_neg (by decide)]; omega)) (by exact .inl (by rw [hup]; assumption))
  rw [rdL, ← hps, K3 (show i < ps.length by omega) hno]
  rfl
 refine F6 <| A3 <| A0 <| y_M rfl ?_
 (refine xO rfl rfl (by simp) rfl (fun _ => rfl) (fun _ => rfl) ?_; intro g2)
 refine y_S rfl <| xN [2,3] [2] rfl <| B1 <| C7 (E7 rfl rfl (by simp) (by exact A7 fun _ => rfl) (D7 rfl rfl (E3 C0))) ?_
 have hil : i = ps.length := by omega
 rw [hil, List.take_length] at hrd
 rw [rdL, ← hps, hrd]
 rfl

theorem b0x : F3 Tryz.f85 = [0, 2, 3, 4, 22, 24, 5, 6] := by kernel_rfl
theorem W7 (s : List UInt8) (hs : s.length ≤ 1048576) : CW (cxT oG) 85 [tV s] = some (.tup [.own 1 ((c1w s).map iV), bV (numsOf s).isSome], []) := by
 refine F0 rfl Tryz.func85 rfl ⟨by kernel_rfl, rfl, dT rfl, dT rfl, by decide⟩ b0x <| A3 <| A0 ?_
 (refine A8 rfl rfl (fun _ => rfl) ?_; intro g2)
 refine y_S rfl <| xN [0] [] rfl <| A3 <| A0 <| y_M rfl <| a2u rfl rfl <| y_S rfl <| xN [0,4] [] rfl <| A3 <| A3 <| A0 <| y_M rfl <| H4 rfl rfl <| y_M rfl ?_
 refine C6 rfl rfl ?_ ?_ <;> intro hg0 <;> have hg := hg0 <;> try simp only [SG] at hg
 ·refine y_M rfl <| gT rfl rfl <| O2 (n := 0) rfl rfl rfl (by omega) <| gT rfl rfl <| a9o rfl rfl <| F4 rfl (by assumption) rfl rfl <| y_M rfl ?_
  refine C6 rfl rfl ?_ ?_ <;> intro hg0 <;> have hg := hg0 <;> try simp only [SG] at hg
  ·refine y_M rfl <| gT rfl rfl <| y_M rfl <| gT rfl rfl <| K6 rfl rfl (C1 (by omega)) <| gT rfl rfl ?_
   rw [show ((s.length : Int) - 1) = ((s.length - 1 : Nat) : Int) by omega]
   refine O2 rfl rfl rfl (by omega) <| gT rfl rfl <| a9o rfl rfl <| F4 rfl (by assumption) rfl rfl <| xN [0,4,22] [] rfl ?_
   refine A5 rfl ?_ ?_ <;> intro hc <;> try simp only [SL] at hc
   ·refine A3 <| A0 ?_
    (refine A8 rfl rfl (fun _ => rfl) ?_; intro g2)
    refine y_S rfl <| xN [2,3] [2] rfl <| B1 <| C7 (E7 rfl rfl (by simp) (by rfl) (D7 rfl rfl (E3 C0))) ?_
    obtain ⟨hn1, hn2⟩ := a5e (s := s) (by exact .inr (.inr (by omega)))
    rw [hn1, hn2]
    rfl
   have hin := c7h (s := s) (by omega) (by omega) (by omega)
   refine A9 <| A3 <| A3 <| A0 <| y_M rfl <| L0 rfl rfl <| xN [0,4,24] [] rfl ?_
   refine A5 rfl ?_ ?_ <;> intro hc <;> try simp only [SL] at hc
   ·refine A3 <| A0 <| B3 (es := List.map iV []) rfl rfl (dT rfl) rfl rfl (fun _ => B2 (A7 fun _ => rfl)) (fun _ => rfl) ?_
    intro g25
    (refine xO rfl rfl (by simp) rfl (fun _ => rfl) (fun _ => rfl) ?_; intro g2)
    refine y_S rfl <| xN [2,3] [2] rfl <| B1 <| C7 (E7 rfl rfl (by simp) (by rfl) (D7 rfl rfl (E3 C0))) ?_
    obtain ⟨hn1, hn2⟩ := hin.1 (by omega)
    rw [hn1, hn2]
    rfl
   refine A9 <| A3 <| A0 <| y_M rfl <| y_M rfl <| K6 rfl rfl (C1 (by omega)) ?_
   rw [show ((s.length : Int) - 1) = ((s.length - 1 : Nat) : Int) by omega]
   have hrl := d4c ((s.drop 1).take (s.length - 1 - 1))
   have hin2 : ((s.drop 1).take (s.length - 1 - 1)).length ≤ s.length - 2 := by simp only [List.length_take, List.length_drop]; omega
   refine T2 rfl rfl (G0 rfl) (G0 (n := 1) rfl) (by omega) ?_
   apply xC rfl
   ·apply A6
    ·exact B6 rfl
    exact B8
   ·exact c3v ((s.drop 1).take (s.length - 1 - 1)) (by omega)
   refine ⟨⟨rfl, rfl, rfl, dT rfl, rfl⟩, .inr ⟨H5 _ _, rfl⟩, B0, G7 (J8 fun _ => I4 rfl K2), fun _ => rfl, fun g31 => ?_⟩
   simp only [List.length_map]
   refine y_M rfl <| y_E rfl <| y_E rfl ?_
   (refine xO rfl rfl (by simp) rfl (fun _ => rfl) (fun _ => rfl) ?_; intro g5)
   refine y_S rfl <| xN [5,6] [5] rfl <| A3 <| A0 <| y_M rfl <| y_M rfl <| y_M rfl ?_
   refine C6 rfl rfl ?_ ?_ <;> intro hg0 <;> have hg := hg0 <;> try simp only [SG] at hg
   ·refine y_M rfl <| gT rfl rfl ?_
    apply xC rfl
    ·apply A6
     ·exact E5 rfl rfl rfl (by (simp; done)) (fun _ => rfl)
     exact B8
    ·exact a9p ((rdL ((s.drop 1).take (s.length - 1 - 1))).getD []) (by omega)
    refine ⟨⟨rfl, rfl, rfl, dT rfl, rfl⟩, .inr ⟨rfl, rfl⟩, B0, B9 rfl, fun _ => rfl, fun g38 => ?_⟩
    refine E8 rfl (by assumption) rfl rfl ?_
    (refine xO rfl rfl (by simp) rfl (fun _ => rfl) (fun _ => rfl) ?_; intro g2)
    refine y_S rfl <| xN [2,3] [2] rfl <| B1 <| C7 (E7 rfl rfl (by simp) (by exact A7 fun _ => rfl) (D7 rfl rfl (E3 C0))) ?_
    obtain ⟨hn1, hn2⟩ := hin.2 (by omega)
    rw [hn2, b1x hn1]
    simp_all
    try rfl
   refine gF rfl rfl <| F4 rfl (by assumption) rfl rfl ?_
   (refine xO rfl rfl (by simp) rfl (fun _ => rfl) (fun _ => rfl) ?_; intro g2)
   refine y_S rfl <| xN [2,3] [2] rfl <| B1 <| C7 (E7 rfl rfl (by simp) (by exact A7 fun _ => rfl) (D7 rfl rfl (E3 C0))) ?_
   obtain ⟨hn1, hn2⟩ := hin.2 (by omega)
   rw [hn2, b1x hn1]
   simp_all
   try rfl
  iterate 4 refine gF rfl rfl ?_
  refine E8 rfl (by assumption) rfl rfl <| xN [0,4,22] [] rfl ?_
  refine A5 rfl (fun hc => ?_) (fun hc => absurd hc (by decide))
  refine A3 <| A0 ?_
  (refine A8 rfl rfl (fun _ => rfl) ?_; intro g2)
  refine y_S rfl <| xN [2,3] [2] rfl <| B1 <| C7 (E7 rfl rfl (by simp) (by rfl) (D7 rfl rfl (E3 C0))) ?_
  obtain ⟨hn1, hn2⟩ := a5e (s := s) (by exact .inr (.inl (by omega)))
  rw [hn1, hn2]
  rfl
 refine gF rfl rfl <| gF rfl rfl <| E8 rfl (by assumption) rfl rfl <| y_M rfl ?_
 iterate 5 refine M1 rfl rfl rfl ?_
 refine E8 rfl rfl rfl rfl <| xN [0,4,22] [] rfl ?_
 refine A5 rfl (fun hc => ?_) (fun hc => absurd hc (by decide))
 refine A3 <| A0 ?_
 (refine A8 rfl rfl (fun _ => rfl) ?_; intro g2)
 refine y_S rfl <| xN [2,3] [2] rfl <| B1 <| C7 (E7 rfl rfl (by simp) (by rfl) (D7 rfl rfl (E3 C0))) ?_
 obtain ⟨hn1, hn2⟩ := a5e (s := s) (by exact .inl (by omega))
 rw [hn1, hn2]
 rfl

theorem b0w : F3 Tryz.f102 = [0, 2, 3, 4, 15, 6, 24, 5, 7, 34, 43, 9, 12, 53, 8, 10, 11, 48, 59] := by kernel_rfl
theorem b4e (ws : List W8) (hws : ws.length ≤ 1048600 ∧ ∀ w ∈ ws, w.length ≤ 1048576) : CW (cxT oG) 102 [.list (ws.map tV)] = some (rtR (rdT ws), []) := by
 obtain ⟨kk, hkk⟩ : ∃ kk : Nat, ws.length < kk := ⟨_, Nat.lt_succ_self _⟩
 revert ws
 induction kk with
 | zero => intro ws hws hkk; exact absurd hkk (Nat.not_lt_zero _)
 | succ kk ih =>
  intro ws hws hkk
  refine F0 rfl Tryz.func102 rfl ⟨by kernel_rfl, rfl, dT rfl, dT rfl, by decide⟩ b0w <| A3 <| A0 <| y_A rfl (fun _ => rfl) ?_
  intro g2
  (refine A8 rfl rfl (fun _ => rfl) ?_; intro g3)
  refine y_S rfl <| xN [0,2] [2] rfl <| A3 <| A3 <| A0 <| y_M rfl <| C9 rfl rfl <| L0 rfl rfl <| xN [0,2,15] [2] rfl ?_
  refine A5 rfl ?_ ?_ <;> intro hc <;> try simp only [SL] at hc
  ·have hw0 : ws = [] := List.length_eq_zero_iff.1 (by simpa using hc)
   subst hw0
   refine A3 <| A0 <| W5 (fs := [_, _, _]) rfl rfl rfl rfl rfl <| xB rfl rfl rfl rfl rfl rfl rfl rfl rfl ?_
   (refine A8 rfl rfl (fun _ => rfl) ?_; intro g3)
   refine y_S rfl <| xN [2,3,4] [2,3] rfl <| B1 <| C7 (N9 rfl rfl rfl rfl (Q3 rfl (L9 rfl (L9 rfl Y0))) (E7 rfl rfl (by simp) (by rfl) (D7 rfl rfl (E3 C0)))) ?_
   rfl
  obtain ⟨w, ws1, rfl⟩ : ∃ w ws1, ws = w :: ws1 := List.exists_cons_of_ne_nil (fun e => by subst e; simp at hc)
  have hw := hws.2 w (by simp)
  refine A9 <| A3 <| A0 <| y_M rfl <| B5 rfl rfl rfl (fun _ => rfl) (by (change 0 < _; omega)) <| y_I rfl ?_
  apply xC rfl
  ·apply A6
   ·exact B6 rfl
   exact B8
  ·exact W7 w (by omega)
  refine ⟨⟨rfl, rfl, rfl, dT rfl, rfl⟩, .inr ⟨H5 _ _, rfl⟩, B0, G7 (J8 fun _ => I4 rfl K2), fun _ => rfl, fun g21 => ?_⟩
  simp only [List.length_map]
  refine y_M rfl <| y_E rfl <| y_E rfl ?_
  (refine xO rfl rfl (by simp) rfl (fun _ => rfl) (fun _ => rfl) ?_; intro g5)
  refine y_S rfl <| xN [0,2,5,6] [2,5] rfl <| A3 <| A3 <| A0 <| y_M rfl <| xN [0,2,5,24] [2,5] rfl ?_
  refine A5 rfl ?_ ?_ <;> intro hc <;> try simp only [SL] at hc
  ·obtain ⟨ns, hns⟩ := Option.isSome_iff_exists.1 hc
   have hraw := c5w hns
   refine A3 <| A0 <| y_M rfl <| W5 (fs := [_, _, _]) rfl rfl rfl rfl rfl <| y_M rfl <| V6 rfl rfl rfl (Mv.sized_map fun _ => rfl) I2 (G0 (n := 1) rfl) (by simp) ?_
   rw [show ((List.map tV (w :: ws1)).drop 1).take ((List.map tV (w :: ws1)).length - 1) = ws1.map tV from by rw [List.map_cons, List.drop_succ_cons, List.drop_zero, List.take_of_length_le (by simp)]]
   refine a3y rfl rfl rfl rfl (a7y rfl (d5e (by decide) (a7y rfl c3s))) (fun _ => rfl) ⟨by decide, rfl, dT rfl, Nat.le_refl _⟩ (fun _ => rfl) (fun _ => rfl) (fun _ => (by rfl)) ?_
   intro z
   simp only [a0b, List.cons_append, List.nil_append]
   refine y_S rfl <| y_S rfl ?_
   refine K4 ⟨fun _ => ⟨by (simp only [a2z, List.nil_append, List.append_nil, List.map_cons, List.map_nil, List.cons_append]; decide +kernel), by decide +kernel⟩, [(.t 2, _), (.t 3, _), (.t 4, _), (.h 2, _), (.h 5, _)], ⟨rfl, rfl, rfl, rfl, rfl, rfl, rfl, rfl, rfl, rfl, trivial⟩, ?_⟩
   refine B1 <| C7 (N9 rfl rfl rfl rfl (Q3 rfl (b8d rfl rfl (by simp) (fun _ => rfl) (L9 rfl Y0))) (D7 rfl rfl (D7 rfl rfl (E3 C0)))) ?_
   rw [d1k hns, hraw]
   rfl
  have hnn : numsOf w = none := by simpa using hc
  refine A9 <| A3 <| A0 <| y_M rfl <| B5 rfl rfl rfl (fun _ => rfl) (by (change 0 < _; omega)) <| y_I rfl ?_
  refine xC1 rfl rfl (a0m (bA w)) ⟨rfl, rfl, rfl⟩ rfl rfl fun g32 => ?_
  refine y_S rfl <| xN [0,2,7] [2] rfl <| A3 <| A3 <| A0 <| y_M rfl <| H4 rfl rfl <| xN [0,2,7,34] [2] rfl ?_
  refine A5 rfl ?_ ?_ <;> intro hc <;> try simp only [SL] at hc
  ·refine A3 <| A0 <| W5 (fs := [_, _, _]) rfl rfl rfl rfl rfl <| xB rfl rfl rfl rfl rfl rfl rfl rfl rfl ?_
   (refine A8 rfl rfl (fun _ => rfl) ?_; intro g3)
   refine y_S rfl <| xN [2,3,4] [2,3] rfl <| B1 <| C7 (N9 rfl rfl rfl rfl (Q3 rfl (L9 rfl (L9 rfl Y0))) (E7 rfl rfl (by simp) (by rfl) (D7 rfl rfl (E3 C0)))) ?_
   rw [d4b hnn (by omega)]
   rfl
  refine A9 <| A3 <| A0 <| y_M rfl <| B5 rfl rfl rfl (fun _ => rfl) (by (change 0 < _; omega)) <| y_I rfl <| W5 (fs := [_, _, _]) rfl rfl rfl rfl rfl <| y_A rfl (fun _ => rfl) ?_
  intro g8
  refine xB rfl rfl rfl rfl rfl rfl rfl rfl rfl <| xN [0,2,7,8] [2,8] rfl <| A3 <| A0 ?_
  rcases b5u (w := bA w) (by omega) with hn | hn | hn
  ·rw [hn]
   refine y_M rfl <| V6 rfl rfl rfl (Mv.sized_map fun _ => rfl) I2 (G0 (n := 1) rfl) (by simp) ?_
   rw [show ((List.map tV (w :: ws1)).drop 1).take ((List.map tV (w :: ws1)).length - 1) = ws1.map tV from by rw [List.map_cons, List.drop_succ_cons, List.drop_zero, List.take_of_length_le (by simp)]]
   refine y_S rfl <| xN [2,7,8,9] [2,8] rfl <| A3 <| B7 <| a0j <| A3 <| A3 <| A0 <| y_M rfl <| M4 rfl rfl <| xN [2,7,8,9,43] [2,8] rfl ?_
   refine A5 rfl (fun hc => absurd hc (by decide)) (fun hc => ?_)
   refine F6 <| A3 <| A0 <| y_B rfl <| y_M rfl <| xB rfl rfl rfl rfl rfl rfl rfl rfl rfl <| y_S rfl <| y_S rfl <| xN [2,3,4] [2] rfl <| B1 <| C7 (N9 rfl rfl rfl rfl (Q3 rfl (L9 rfl (L9 rfl Y0))) (D7 rfl rfl (D7 rfl rfl (E3 C0)))) ?_
   rw [d3m hnn hn]
   rfl
  ·rw [hn]
   refine y_M rfl <| V6 rfl rfl rfl (Mv.sized_map fun _ => rfl) I2 (G0 (n := 1) rfl) (by simp) ?_
   rw [show ((List.map tV (w :: ws1)).drop 1).take ((List.map tV (w :: ws1)).length - 1) = ws1.map tV from by rw [List.map_cons, List.drop_succ_cons, List.drop_zero, List.take_of_length_le (by simp)]]
   refine y_S rfl <| xN [2,7,8,9] [2,8] rfl <| A3 <| B7 <| a0j <| A3 <| A3 <| A0 <| y_M rfl <| M4 rfl rfl <| xN [2,7,8,9,43] [2,8] rfl ?_
   refine A5 rfl (fun hc => ?_) (fun hc => absurd hc (by decide))
   refine A9 <| A3 <| B7 <| A3 <| A0 <| y_M rfl ?_
   rcases hr1 : rdT ws1 with _ | ⟨k1, r1⟩
   ·skip
    apply xC rfl
    ·apply A6
     ·exact B6 rfl
     exact B8
    ·exact (by have hi := ih ws1 ⟨by simp only [List.length_cons] at hws; omega, fun x hx => hws.2 x (List.mem_cons_of_mem _ hx)⟩ (by simp only [List.length_cons] at hkk; omega); rw [hr1] at hi; exact hi)
    refine ⟨⟨rfl, rfl, rfl, dT rfl, rfl⟩, .inl rfl, B0, G7 (I4 rfl (J8 fun _ => I4 rfl K2)), fun _ => C3 (B2 rfl) (by rfl), fun g48 => ?_⟩
    refine y_M rfl <| y_E rfl <| y_E rfl <| y_E rfl <| y_A rfl (fun _ => rfl) ?_
    intro g10
    refine xB rfl rfl rfl rfl rfl rfl rfl rfl rfl ?_
    (refine J0 rfl rfl (by (simp; done)) rfl (fun _ => (B2 (by rfl))) (fun _ => rfl) ?_; intro g11)
    refine y_S rfl <| xN [2,7,8,10,11,12] [2,8,10] rfl <| A3 <| A3 <| A0 <| y_M rfl <| L4 rfl <| xN [2,7,8,10,11,53] [2,8,10] rfl ?_
    refine A5 rfl (fun hc => ?_) (fun hc => absurd hc (by decide))
    refine A3 <| A0 <| W5 (fs := [_, _, _]) rfl rfl rfl rfl rfl <| xB rfl rfl rfl rfl rfl rfl rfl rfl rfl ?_
    (refine A8 rfl rfl (fun _ => rfl) ?_; intro g3)
    refine y_S rfl <| xN [2,3,4] [2,3] rfl <| B1 <| C7 (N9 rfl rfl rfl rfl (Q3 rfl (L9 rfl (L9 rfl Y0))) (E7 rfl rfl (by simp) (by rfl) (D7 rfl rfl (E3 C0)))) ?_
    rw [d0y hnn hn, hr1]
    rfl
   skip
   apply xC rfl
   ·apply A6
    ·exact B6 rfl
    exact B8
   ·exact (by have hi := ih ws1 ⟨by simp only [List.length_cons] at hws; omega, fun x hx => hws.2 x (List.mem_cons_of_mem _ hx)⟩ (by simp only [List.length_cons] at hkk; omega); rw [hr1] at hi; exact hi)
   refine ⟨⟨rfl, rfl, rfl, dT rfl, rfl⟩, .inl rfl, B0, O1 rfl, fun _ => rfl, fun g48 => ?_⟩
   refine y_M rfl <| y_E rfl <| y_E rfl <| y_E rfl <| y_A rfl (fun _ => rfl) ?_
   intro g10
   refine xB rfl rfl rfl rfl rfl rfl rfl rfl rfl <| y_S rfl <| y_S rfl <| xN [2,7,8,10,11,12] [2,8,10] rfl <| A3 <| A3 <| A0 <| y_M rfl <| L4 rfl <| xN [2,7,8,10,11,53] [2,8,10] rfl ?_
   refine A5 rfl (fun hc => absurd hc (by decide)) (fun hc => ?_)
   refine A9 <| A3 <| A0 <| y_F rfl <| y_L rfl <| y_B rfl <| a1s (es := List.map trV [_]) rfl rfl (dT rfl) rfl rfl (fun _ => B2 (A7 fun _ => rfl)) (fun _ => rfl) ?_
   intro g58
   refine a5p rfl rfl rfl (by simp) (by decide) rfl rfl rfl (dT rfl) (fun _ => ⟨rfl, rfl⟩) (by simp only [G9]; (simp only [List.length_nil, List.length_cons, List.length_append, Nat.zero_add, List.length_map]; omega)) (fun _ => rfl) ?_
   intro g59
   refine y_F rfl <| a2q rfl rfl rfl rfl rfl (Nat.le_refl _) rfl <| xN [2,7,8,11] [2,8,1000059] rfl <| A0 <| y_M rfl <| y_S rfl <| xN [2,7,8,9] [2,8,1000059] rfl <| A0 <| y_M rfl <| K6 rfl rfl (C1 (by omega)) <| y_S rfl <| xN [2,7,8,9] [2,8,1000059] rfl <| a0j <| A3 <| A3 <| A0 <| y_M rfl <| M4 rfl rfl <| xN [2,7,8,9,43] [2,8,1000059] rfl ?_
   refine A5 rfl (fun hc => absurd hc (by decide)) (fun hc => ?_)
   refine F6 <| A3 <| A0 <| y_B rfl <| y_M rfl <| a3y rfl rfl rfl rfl (a7y rfl (a7y rfl (c5p (by decide) (by decide) rfl (by simp) fun _ => c3s))) (fun _ => rfl) ⟨by decide, rfl, dT rfl, Nat.le_refl _⟩ (fun _ => rfl) (fun _ => rfl) (fun _ => C3 (by rfl) (C3 (B2 (A7 fun _ => rfl)) (by rfl))) ?_
   intro z
   simp only [a0b, List.cons_append, List.nil_append]
   refine y_S rfl <| y_S rfl <| xN [2,3,4] [2,300002] rfl <| B1 <| C7 (N9 rfl rfl rfl rfl (Q3 rfl (L9 rfl (b8d rfl rfl (by simp) (fun _ => rfl) Y0))) (D7 rfl rfl (D7 rfl rfl (E3 C0)))) ?_
   rw [d0y hnn hn, hr1]
   rfl
  rw [hn]
  refine y_M rfl <| V6 rfl rfl rfl (Mv.sized_map fun _ => rfl) I2 (G0 (n := 1) rfl) (by simp) ?_
  rw [show ((List.map tV (w :: ws1)).drop 1).take ((List.map tV (w :: ws1)).length - 1) = ws1.map tV from by rw [List.map_cons, List.drop_succ_cons, List.drop_zero, List.take_of_length_le (by simp)]]
  refine y_S rfl <| xN [2,7,8,9] [2,8] rfl <| A3 <| B7 <| a0j <| A3 <| A3 <| A0 <| y_M rfl <| M4 rfl rfl <| xN [2,7,8,9,43] [2,8] rfl ?_
  refine A5 rfl (fun hc => ?_) (fun hc => absurd hc (by decide))
  refine A9 <| A3 <| B7 <| A3 <| A0 <| y_M rfl ?_
  rcases hr1 : rdT ws1 with _ | ⟨k1, r1⟩
  ·skip
   apply xC rfl
   ·apply A6
    ·exact B6 rfl
    exact B8
   ·exact (by have hi := ih ws1 ⟨by simp only [List.length_cons] at hws; omega, fun x hx => hws.2 x (List.mem_cons_of_mem _ hx)⟩ (by simp only [List.length_cons] at hkk; omega); rw [hr1] at hi; exact hi)
   refine ⟨⟨rfl, rfl, rfl, dT rfl, rfl⟩, .inl rfl, B0, G7 (I4 rfl (J8 fun _ => I4 rfl K2)), fun _ => C3 (B2 rfl) (by rfl), fun g48 => ?_⟩
   refine y_M rfl <| y_E rfl <| y_E rfl <| y_E rfl <| y_A rfl (fun _ => rfl) ?_
   intro g10
   refine xB rfl rfl rfl rfl rfl rfl rfl rfl rfl ?_
   (refine J0 rfl rfl (by (simp; done)) rfl (fun _ => (B2 (by rfl))) (fun _ => rfl) ?_; intro g11)
   refine y_S rfl <| xN [2,7,8,10,11,12] [2,8,10] rfl <| A3 <| A3 <| A0 <| y_M rfl <| L4 rfl <| xN [2,7,8,10,11,53] [2,8,10] rfl ?_
   refine A5 rfl (fun hc => ?_) (fun hc => absurd hc (by decide))
   refine A3 <| A0 <| W5 (fs := [_, _, _]) rfl rfl rfl rfl rfl <| xB rfl rfl rfl rfl rfl rfl rfl rfl rfl ?_
   (refine A8 rfl rfl (fun _ => rfl) ?_; intro g3)
   refine y_S rfl <| xN [2,3,4] [2,3] rfl <| B1 <| C7 (N9 rfl rfl rfl rfl (Q3 rfl (L9 rfl (L9 rfl Y0))) (E7 rfl rfl (by simp) (by rfl) (D7 rfl rfl (E3 C0)))) ?_
   rw [b8a hnn hn, hr1]
   rfl
  skip
  apply xC rfl
  ·apply A6
   ·exact B6 rfl
   exact B8
  ·exact (by have hi := ih ws1 ⟨by simp only [List.length_cons] at hws; omega, fun x hx => hws.2 x (List.mem_cons_of_mem _ hx)⟩ (by simp only [List.length_cons] at hkk; omega); rw [hr1] at hi; exact hi)
  refine ⟨⟨rfl, rfl, rfl, dT rfl, rfl⟩, .inl rfl, B0, O1 rfl, fun _ => rfl, fun g48 => ?_⟩
  refine y_M rfl <| y_E rfl <| y_E rfl <| y_E rfl <| y_A rfl (fun _ => rfl) ?_
  intro g10
  refine xB rfl rfl rfl rfl rfl rfl rfl rfl rfl <| y_S rfl <| y_S rfl <| xN [2,7,8,10,11,12] [2,8,10] rfl <| A3 <| A3 <| A0 <| y_M rfl <| L4 rfl <| xN [2,7,8,10,11,53] [2,8,10] rfl ?_
  refine A5 rfl (fun hc => absurd hc (by decide)) (fun hc => ?_)
  refine A9 <| A3 <| A0 <| y_F rfl <| y_L rfl <| y_B rfl <| a1s (es := List.map trV [_]) rfl rfl (dT rfl) rfl rfl (fun _ => B2 (A7 fun _ => rfl)) (fun _ => rfl) ?_
  intro g58
  refine a5p rfl rfl rfl (by simp) (by decide) rfl rfl rfl (dT rfl) (fun _ => ⟨rfl, rfl⟩) (by simp only [G9]; (simp only [List.length_nil, List.length_cons, List.length_append, Nat.zero_add, List.length_map]; omega)) (fun _ => rfl) ?_
  intro g59
  refine y_F rfl <| a2q rfl rfl rfl rfl rfl (Nat.le_refl _) rfl <| xN [2,7,8,11] [2,8,1000059] rfl <| A0 <| y_M rfl <| y_S rfl <| xN [2,7,8,9] [2,8,1000059] rfl <| A0 <| y_M rfl <| K6 rfl rfl (C1 (by omega)) <| y_S rfl <| xN [2,7,8,9] [2,8,1000059] rfl <| a0j <| A3 <| A3 <| A0 <| y_M rfl <| M4 rfl rfl <| xN [2,7,8,9,43] [2,8,1000059] rfl ?_
  refine A5 rfl (fun hc => ?_) (fun hc => absurd hc (by decide))
  refine A9 <| A3 <| B7 <| A3 <| A0 <| y_M rfl ?_
  rcases hr2 : rdT r1 with _ | ⟨k2, r2⟩
  ·skip
   apply xC rfl
   ·apply A6
    ·exact B6 rfl
    exact B8
   ·exact (by have hi := ih r1 ⟨by have := a7b hr1; simp only [List.length_cons] at hws; omega, fun x hx => hws.2 x (List.mem_cons_of_mem _ (c5k hr1 x hx))⟩ (by have := a7b hr1; simp only [List.length_cons] at hkk; omega); rw [hr2] at hi; exact hi)
   refine ⟨⟨rfl, rfl, rfl, dT rfl, rfl⟩, .inl rfl, B0, G7 (I4 rfl (J8 fun _ => I4 rfl K2)), fun _ => C3 (B2 rfl) (by rfl), fun g48 => ?_⟩
   refine y_M rfl <| y_E rfl <| y_E rfl <| y_E rfl <| y_A rfl (fun _ => rfl) ?_
   intro g10
   refine xB rfl rfl rfl rfl rfl rfl rfl rfl rfl ?_
   (refine J0 rfl rfl (by (simp; done)) rfl (fun _ => (B2 (by rfl))) (fun _ => rfl) ?_; intro g11)
   refine y_S rfl <| xN [2,7,8,10,11,12] [2,8,1000059,10] rfl <| A3 <| A3 <| A0 <| y_M rfl <| L4 rfl <| xN [2,7,8,10,11,53] [2,8,1000059,10] rfl ?_
   refine A5 rfl (fun hc => ?_) (fun hc => absurd hc (by decide))
   refine A3 <| A0 <| W5 (fs := [_, _, _]) rfl rfl rfl rfl rfl <| xB rfl rfl rfl rfl rfl rfl rfl rfl rfl ?_
   (refine A8 rfl rfl (fun _ => rfl) ?_; intro g3)
   refine y_S rfl <| xN [2,3,4] [2,3] rfl <| B1 <| C7 (N9 rfl rfl rfl rfl (Q3 rfl (L9 rfl (L9 rfl Y0))) (E7 rfl rfl (by simp) (by rfl) (D7 rfl rfl (E3 C0)))) ?_
   rw [b8a hnn hn, hr1, Option.bind_some, hr2]
   rfl
  skip
  apply xC rfl
  ·apply A6
   ·exact B6 rfl
   exact B8
  ·exact (by have hi := ih r1 ⟨by have := a7b hr1; simp only [List.length_cons] at hws; omega, fun x hx => hws.2 x (List.mem_cons_of_mem _ (c5k hr1 x hx))⟩ (by have := a7b hr1; simp only [List.length_cons] at hkk; omega); rw [hr2] at hi; exact hi)
  refine ⟨⟨rfl, rfl, rfl, dT rfl, rfl⟩, .inl rfl, B0, O1 rfl, fun _ => rfl, fun g48 => ?_⟩
  refine y_M rfl <| y_E rfl <| y_E rfl <| y_E rfl <| y_A rfl (fun _ => rfl) ?_
  intro g10
  refine xB rfl rfl rfl rfl rfl rfl rfl rfl rfl <| y_S rfl <| y_S rfl <| xN [2,7,8,10,11,12] [2,8,1000059,10] rfl <| A3 <| A3 <| A0 <| y_M rfl <| L4 rfl <| xN [2,7,8,10,11,53] [2,8,1000059,10] rfl ?_
  refine A5 rfl (fun hc => absurd hc (by decide)) (fun hc => ?_)
  refine A9 <| A3 <| A0 <| y_F rfl <| y_L rfl <| y_B rfl <| a1s (es := List.map trV [_]) rfl rfl (dT rfl) rfl rfl (fun _ => B2 (A7 fun _ => rfl)) (fun _ => rfl) ?_
  intro g58
  refine xA rfl rfl rfl rfl (by simp) (by simp) rfl rfl rfl rfl rfl (fun _ => rfl) (by simp only [LN]; omega) (fun _ => rfl) ?_
  intro g59
  refine y_F rfl <| a2q rfl rfl rfl rfl rfl (Nat.le_refl _) rfl <| xN [2,7,8,11] [2,8,1000059] rfl <| A0 <| y_M rfl <| y_S rfl <| xN [2,7,8,9] [2,8,1000059] rfl <| A0 <| y_M rfl <| K6 rfl rfl (C1 (by omega)) <| y_S rfl <| xN [2,7,8,9] [2,8,1000059] rfl <| a0j <| A3 <| A3 <| A0 <| y_M rfl <| M4 rfl rfl <| xN [2,7,8,9,43] [2,8,1000059] rfl ?_
  refine A5 rfl (fun hc => absurd hc (by decide)) (fun hc => ?_)
  refine F6 <| A3 <| A0 <| y_B rfl <| y_M rfl <| a3y rfl rfl rfl rfl (a7y rfl (a7y rfl (c5p (by decide) (by decide) rfl (by simp) fun _ => c3s))) (fun _ => rfl) ⟨by decide, rfl, dT rfl, Nat.le_refl _⟩ (fun _ => rfl) (fun _ => rfl) (fun _ => C3 (by rfl) (C3 (B2 (A7 fun _ => rfl)) (by rfl))) ?_
  intro z
  simp only [a0b, List.cons_append, List.nil_append]
  refine y_S rfl <| y_S rfl <| xN [2,3,4] [2,300002] rfl <| B1 <| C7 (N9 rfl rfl rfl rfl (Q3 rfl (L9 rfl (b8d rfl rfl (by simp) (fun _ => rfl) Y0))) (D7 rfl rfl (D7 rfl rfl (E3 C0)))) ?_
  rw [b8a hnn hn, hr1, Option.bind_some, hr2]
  rfl

theorem b0v : F3 Tryz.f60 = [0, 2, 3, 4, 17, 6, 7, 5, 21] := by kernel_rfl
theorem c3j (s : List UInt8) (hs : s.length ≤ 1048576) : CW (cxT oG) 60 [tV s] = some (.tup [trV (rpT s), bV (rdPlan s).isSome], []) := by
 obtain ⟨ws, hws⟩ : ∃ ws, ws = splitB 32 s := ⟨_, rfl⟩
 have hwl := Y5 32 s
 have hwp := a1e 32 s
 rw [← hws] at hwl hwp
 refine F0 rfl Tryz.func60 rfl ⟨by kernel_rfl, rfl, dT rfl, dT rfl, by decide⟩ b0v <| A3 <| A0 <| y_A rfl (fun _ => rfl) ?_
 intro g2
 refine y_S rfl <| xN [0,2] [2] rfl <| A3 <| A0 <| y_M rfl ?_
 apply xC rfl
 ·apply A6
  ·exact B6 rfl
  apply A6
  ·exact B6 rfl
  exact B8
 ·exact b6e s (by omega) 32
 refine ⟨⟨rfl, rfl, rfl, dT rfl, rfl⟩, .inl rfl, B0, H9, fun _ => rfl, fun g9 => ?_⟩
 rw [← hws]
 try simp only [List.length_map]
 (refine xO rfl rfl (by simp) rfl (fun _ => rfl) (fun _ => rfl) ?_; intro g4)
 refine xN [0,2,4] [2,4] rfl <| A3 <| A3 <| A0 <| y_M rfl <| a2u rfl rfl <| M4 rfl rfl <| y_M rfl ?_
 refine C6 rfl rfl ?_ ?_ <;> intro hg0 <;> have hg := hg0 <;> try simp only [SG] at hg
 ·refine y_M rfl <| gT rfl rfl <| G8 rfl rfl <| gT rfl rfl <| M4 rfl rfl <| F4 rfl (by assumption) rfl rfl <| xN [2,4,17] [2,4] rfl ?_
  refine A5 rfl ?_ ?_ <;> intro hc <;> try simp only [SL] at hc
  ·refine A3 <| A0 <| W5 (fs := [_, _, _]) rfl rfl rfl rfl rfl <| xB rfl rfl rfl rfl rfl rfl rfl rfl rfl <| y_S rfl <| xN [2,3] [2] rfl <| B1 <| C7 (N9 rfl rfl rfl rfl (Q3 rfl (L9 rfl (L9 rfl Y0))) (D7 rfl rfl (E3 C0))) ?_
   obtain ⟨h1, h2⟩ := b3h (s := s) (by rw [hws] at *; omega)
   rw [h1, h2]
   rfl
  have hin := c8z hws (by omega)
  refine A9 <| A3 <| A0 <| y_M rfl ?_
  rcases hr : rdT ws with _ | ⟨t, r⟩
  ·skip
   apply xC rfl
   ·apply A6
    ·exact G4 rfl rfl (by (simp; done)) (fun _ => rfl)
    exact B8
   ·exact (by have hi := b4e (oG := oG) ws ⟨by omega, fun w hw => by have := hwp w hw; omega⟩; rw [hr] at hi; exact hi)
   refine ⟨⟨rfl, rfl, rfl, dT rfl, rfl⟩, .inl rfl, B0, G7 (I4 rfl (J8 fun _ => I4 rfl K2)), fun _ => C3 (X8 (A7 fun _ => rfl) (by decide)) (by rfl), fun g21 => ?_⟩
   refine y_M rfl <| y_E rfl <| y_E rfl <| y_E rfl <| y_A rfl (fun _ => rfl) ?_
   intro g5
   refine xB rfl rfl rfl rfl rfl rfl rfl rfl rfl ?_
   (refine J0 rfl rfl (by (simp; done)) rfl (fun _ => (B2 (by rfl))) (fun _ => rfl) ?_; intro g6)
   refine y_S rfl <| xN [2,5,6,7] [2,5] rfl <| A3 <| A0 <| y_B rfl <| y_M rfl <| y_M rfl <| M1 rfl rfl rfl <| M1 rfl rfl rfl <| M1 rfl rfl rfl <| F4 rfl rfl rfl rfl <| xB rfl rfl rfl rfl rfl rfl rfl rfl rfl <| y_S rfl <| xN [2,3] [2] rfl <| B1 <| C7 (N9 rfl rfl rfl rfl (Q3 rfl (Q3 rfl (Q3 rfl Y0))) (D7 rfl rfl (E3 C0))) ?_
   obtain ⟨h1, h2⟩ := hin.1 hr
   rw [h1, h2]
   rfl
  skip
  apply xC rfl
  ·apply A6
   ·exact G4 rfl rfl (by (simp; done)) (fun _ => rfl)
   exact B8
  ·exact (by have hi := b4e (oG := oG) ws ⟨by omega, fun w hw => by have := hwp w hw; omega⟩; rw [hr] at hi; exact hi)
  refine ⟨⟨rfl, rfl, rfl, dT rfl, rfl⟩, .inl rfl, B0, O1 rfl, fun _ => C3 (X8 (A7 fun _ => rfl) (by decide)) (by rfl), fun g21 => ?_⟩
  refine y_M rfl <| y_E rfl <| y_E rfl <| y_E rfl <| y_A rfl (fun _ => rfl) ?_
  intro g5
  refine xB rfl rfl rfl rfl rfl rfl rfl rfl rfl <| y_S rfl <| y_S rfl <| xN [2,5,6,7] [2,5] rfl <| A3 <| A0 <| y_B rfl <| y_M rfl <| y_M rfl <| E4 rfl rfl rfl <| y_M rfl <| E4 rfl rfl rfl <| C9 rfl rfl <| E4 rfl rfl rfl <| L0 rfl rfl <| E8 rfl rfl rfl rfl <| xB rfl rfl rfl rfl rfl rfl rfl rfl rfl <| y_S rfl <| xN [2,3] [2] rfl <| B1 <| C7 (N9 rfl rfl rfl rfl (Q3 rfl (Q3 rfl (Q3 rfl Y0))) (D7 rfl rfl (E3 C0))) ?_
  obtain ⟨h1, h2⟩ := hin.2 t r hr
  rw [h1, h2]
  rfl
 refine gF rfl rfl <| gF rfl rfl <| E8 rfl (by assumption) rfl rfl <| xN [2,4,17] [2,4] rfl ?_
 refine A5 rfl (fun hc => ?_) (fun hc => absurd hc (by decide))
 refine A3 <| A0 <| W5 (fs := [_, _, _]) rfl rfl rfl rfl rfl <| xB rfl rfl rfl rfl rfl rfl rfl rfl rfl <| y_S rfl <| xN [2,3] [2] rfl <| B1 <| C7 (N9 rfl rfl rfl rfl (Q3 rfl (L9 rfl (L9 rfl Y0))) (D7 rfl rfl (E3 C0))) ?_
 obtain ⟨h1, h2⟩ := b3h (s := s) (by rw [hws] at *; omega)
 rw [h1, h2]
 rfl

theorem b2e : F3 Tryz.f143 = [0, 2, 8, 7, 9, 6, 5, 3] := by kernel_rfl
theorem c7o (ns : List Int) (hl : ns.length ≤ 1000000) (hnb : ∀ n ∈ ns, -1000000 ≤ n ∧ n ≤ 1000000) : CW (cxT oG) 143 [L ns] = some (tV (O3 ns), []) := by
 have hg := fun (i : Nat) (h : i < ns.length) => hnb _ (a3x h)
 have hll := Y1 (ns := ns) hnb
 refine F0 rfl Tryz.func143 rfl ⟨by kernel_rfl, rfl, dT rfl, dT rfl, by decide⟩ b2e <| A3 <| A0 <| y_S rfl <| xN [0] [] rfl <| A3 <| A0 ?_
 (refine A8 rfl rfl (fun _ => rfl) ?_; intro g3)
 refine xN [0,3] [3] rfl <| A3 <| A3 <| A0 <| y_M rfl <| C9 rfl rfl <| y_M rfl <| xN [3,6,7,8] [3] rfl <| B7 <| F5 (β := Nat × List (List UInt8) × Nat) [(.t 6, _), (.t 7, _)] (fun (z : Nat × List (List UInt8) × Nat) => match z with | (i, ps, g) => [(.t 8, iV i), (.t 3, .sl 3 g none 0 ps.length), (.h 3, .obj g 0 1 (ps.map tV))]) (fun (z : Nat × List (List UInt8) × Nat) => match z with | (i, ps, g) => i ≤ ns.length ∧ ps = (ns.take i).map dec) (fun (z : Nat × List (List UInt8) × Nat) => match z with | (i, ps, g) => ns.length - i) (0, [], _) ⟨rfl, rfl, rfl, rfl, rfl, trivial⟩ ⟨Nat.zero_le _, rfl⟩ ?_
 intro z hb
 obtain ⟨i, ps, g⟩ := z
 try dsimp only at hb
 obtain ⟨hi1, hps⟩ := hb
 have hpl : ps.length = i := by rw [hps]; simp; omega
 refine A3 <| A0 <| H4 rfl rfl <| xN [3,6,7,8,9] [3] rfl <| A3 ?_
 refine A5 rfl ?_ ?_ <;> intro hc <;> try simp only [SL] at hc
 ·refine A9 <| A3 <| B7 <| A3 <| A0 <| B5 rfl rfl rfl (fun _ => rfl) (by omega) <| y_I rfl <| y_S rfl <| xN [3,5,6,7,8] [3] rfl <| A0 <| y_M rfl <| y_M rfl ?_
  have hgi := hg i (by omega)
  refine xC1 rfl rfl (d6a (ns.getD i default) (by omega)) ⟨rfl, rfl, rfl⟩ rfl rfl fun g14 => ?_
  refine B3 (es := List.map tV [_]) rfl rfl (dT rfl) rfl rfl (fun _ => B2 (A7 fun _ => rfl)) (fun _ => rfl) ?_
  intro g15
  refine xA rfl rfl rfl rfl (by simp) (by simp) rfl rfl rfl rfl rfl (fun _ => rfl) (by simp only [LN]; omega) (fun _ => rfl) ?_
  intro g16
  (refine xO rfl rfl (by simp) rfl (fun _ => rfl) (fun _ => rfl) ?_; intro g3)
  refine xN [3,6,7,8] [3] rfl <| A0 <| F8 rfl rfl (C1 (by omega)) <| y_M rfl <| xN [3,6,7,8] [3] rfl ?_
  refine ⟨(i + 1, ps ++ [dec (ns.getD i default)], _), ?_, (by simp only; omega), ⟨rfl, rfl, rfl, rfl, rfl, trivial⟩⟩
  exact ⟨by omega, by rw [hps, ← b4p (by omega)]⟩
 refine F6 <| A3 <| A0 <| y_M rfl ?_
 have hpe : ps = ns.map dec := by rw [hps, List.take_of_length_le (by omega)]
 have hje : joinB 44 ps = O3 ns := by rw [hpe]; rfl
 apply xC rfl
 ·apply A6
  ·exact E5 rfl rfl rfl (by (simp; done)) (fun _ => rfl)
  apply A6
  ·exact B6 rfl
  exact B8
 ·exact d5g ps 44 (by simp only [G9]; omega) (by rw [hje]; simp only [G9]; omega)
 refine ⟨⟨rfl, rfl, rfl, dT rfl, rfl⟩, .inr ⟨rfl, rfl⟩, B0, B9 rfl, fun _ => rfl, fun g19 => ?_⟩
 refine y_S rfl <| xN [2] [] rfl <| B1 <| C2 rfl rfl trivial ?_
 rw [hje]

theorem a8i : F3 Tryz.f113 = [0, 2] := by kernel_rfl
theorem a9m (ns : List Int) (hl : ns.length ≤ 1000000) (hnb : ∀ n ∈ ns, -1000000 ≤ n ∧ n ≤ 1000000) : CW (cxT oG) 113 [L ns] = some (tV (showL ns), []) := by
 have hll := Y1 (ns := ns) hnb
 refine F0 rfl Tryz.func113 rfl ⟨by kernel_rfl, rfl, dT rfl, dT rfl, by decide⟩ a8i <| A3 <| A0 <| y_S rfl <| xN [0] [] rfl <| A3 <| A0 <| y_M rfl ?_
 refine xC1 rfl rfl (c7o ns hl hnb) ⟨rfl, rfl, rfl⟩ rfl rfl fun g4 => ?_
 iterate 2 refine M8 rfl rfl (by simp only [G9, List.length_append, List.length_cons, List.length_nil]; omega) ?_
 refine y_S rfl <| xN [2] [] rfl <| B1 <| C2 rfl rfl trivial ?_
 rfl

theorem a7v : F3 Tryz.f104 = [0, 2, 3, 4, 6, 5, 27, 29, 33, 32, 34, 31, 9, 11, 43, 10, 7] := by kernel_rfl
theorem c2e (w : List UInt8) (hs : w.length ≤ 1048576) : CW (cxT oG) 104 [tV w] = some (.tup [.own 1 ((rlX w).map iV), bV (okI w)], []) := by
 have hc1 := d0f 91 w
 have hc2 := c9u 93 (a3k 91 w)
 refine F0 rfl Tryz.func104 rfl ⟨by kernel_rfl, rfl, dT rfl, dT rfl, by decide⟩ a7v <| A3 <| A0 ?_
 (refine A8 rfl rfl (fun _ => rfl) ?_; intro g2)
 refine y_S rfl <| xN [0] [] rfl <| A3 <| A0 <| y_M rfl ?_
 apply xC rfl
 ·apply A6
  ·exact B6 rfl
  apply A6
  ·exact B6 rfl
  exact B8
 ·exact d6d w 91
 refine ⟨⟨rfl, rfl, rfl, dT rfl, rfl⟩, .inl rfl, B0, O1 rfl, fun _ => rfl, fun g14 => ?_⟩
 refine y_M rfl <| y_E rfl <| y_E rfl <| y_S rfl <| y_S rfl <| xN [0,4,5] [] rfl <| A3 <| A0 <| y_M rfl ?_
 apply xC rfl
 ·apply A6
  ·exact B6 rfl
  apply A6
  ·exact B6 rfl
  exact B8
 ·exact d4y (a3k 91 w) 93 (by omega)
 refine ⟨⟨rfl, rfl, rfl, dT rfl, rfl⟩, .inl rfl, B0, O1 rfl, fun _ => rfl, fun g19 => ?_⟩
 refine y_M rfl <| y_E rfl <| y_E rfl <| y_S rfl <| y_S rfl <| xN [0,4,5,6] [] rfl <| A3 <| A3 <| A0 <| y_M rfl <| L4 rfl <| y_M rfl ?_
 refine C6 rfl rfl ?_ ?_ <;> intro hg0 <;> have hg := hg0 <;> try simp only [SG] at hg
 ·refine y_M rfl <| gT rfl rfl <| L4 rfl <| F4 rfl (by assumption) rfl rfl <| xN [0,4,27] [] rfl ?_
  refine A5 rfl ?_ ?_ <;> intro hc <;> try simp only [SL] at hc
  ·refine A3 <| A0 ?_
   (refine A8 rfl rfl (fun _ => rfl) ?_; intro g2)
   refine y_S rfl <| xN [2,3] [2] rfl <| B1 <| C7 (E7 rfl rfl (by simp) (by rfl) (D7 rfl rfl (E3 C0))) ?_
   obtain ⟨h1, h2⟩ := b8l (c1n (w := w) (by simp_all [okB]))
   rw [h1, h2]
   rfl
  have hok : okB w = true := by simp [okB]; constructor <;> assumption
  obtain ⟨ps, hps0⟩ : ∃ ps, ps = splitB 44 (a3l w) := ⟨_, rfl⟩
  have hpl := Y5 44 (a3l w)
  have hpp := a1e 44 (a3l w)
  rw [← hps0] at hpl hpp
  have hil := d1s hok
  refine A9 <| A3 <| A0 ?_
  (refine A8 rfl rfl (fun _ => rfl) ?_; intro g7)
  refine xN [0,4,7] [7] rfl <| A3 <| A3 <| A0 <| y_M rfl <| b5w rfl rfl <| xN [0,4,7,29] [7] rfl ?_
  refine A5 rfl ?_ ?_ <;> intro hc <;> try simp only [SL] at hc
  ·have hin : a3l w ≠ [] := hc
   refine A3 <| A0 <| y_M rfl ?_
   have hps := hps0
   apply a6g rfl
   ·apply A6
    ·exact B6 rfl
    apply A6
    ·exact B6 rfl
    exact B8
   ·exact d3i (a3l w) 44 (by unfold a3l; omega)
   ·exact ⟨rfl, rfl, rfl, dT rfl, rfl⟩
   ·exact .inl rfl
   ·exact B0
   ·exact H9
   ·(intro _; exact C3 (B2 (A7 fun _ => rfl)) rfl)
   intro g31
   rw [← hps]
   try simp only [List.length_map]
   refine G8 rfl rfl <| y_M rfl <| xN [0,7,31,32,33] [7,1000031] rfl <| B7 <| F5 (β := Nat × List Int × Nat) [(.t 0, _), (.t 31, _), (.t 32, _), (.h 1000031, _)] (fun (z : Nat × List Int × Nat) => match z with | (i, ns, g) => [(.t 33, iV i), (.t 7, .sl 7 g none 0 ns.length), (.h 7, .obj g 0 1 (ns.map iV))]) (fun (z : Nat × List Int × Nat) => match z with | (i, ns, g) => i ≤ ps.length ∧ rdA (ps.take i) = some ns) (fun (z : Nat × List Int × Nat) => match z with | (i, ns, g) => ps.length - i) (0, [], _) ⟨rfl, rfl, rfl, rfl, rfl, rfl, rfl, trivial⟩ ⟨Nat.zero_le _, rfl⟩ ?_
   intro z hb
   obtain ⟨i, ns, g⟩ := z
   try dsimp only at hb
   obtain ⟨hi1, hrd⟩ := hb
   have hpi := fun h : i < ps.length => hpp _ (L1 h)
   have hnl := b3q hrd
   rw [List.length_take] at hnl
   refine A3 <| A0 <| H4 rfl rfl <| xN [0,7,31,32,33,34] [7,1000031] rfl <| A3 ?_
   refine A5 rfl ?_ ?_ <;> intro hc <;> try simp only [SL] at hc
   ·refine A9 <| A3 <| B7 <| A3 <| A0 <| D9 rfl rfl rfl rfl (by omega) (by (simp; done)) rfl <| G3 rfl rfl (by omega) (fun _ => rfl) (fun _ => rfl) rfl <| y_S rfl <| xN [0,7,9,31,32,33] [7,1000031] rfl <| A3 <| A0 <| y_M rfl ?_
    rcases hat : Lib.atoiAll (ps.getD i default) with v | _ | _
    ·skip
     apply xC rfl
     ·apply A6
      ·exact B6 rfl
      exact B8
     ·exact (by have hi := c3p (oG := oG) (ps.getD i default) (by omega); unfold atR at hi; rw [hat] at hi; exact hi)
     refine ⟨⟨rfl, rfl, rfl, dT rfl, rfl⟩, .inl rfl, B0, O1 rfl, fun _ => rfl, fun g39 => ?_⟩
     refine y_M rfl <| y_E rfl <| y_E rfl <| y_S rfl <| y_S rfl <| xN [0,7,10,11,31,32,33] [7,1000031] rfl <| A3 <| A3 <| A0 <| y_M rfl <| c9l rfl rfl rfl rfl <| xN [0,7,10,31,32,33,43] [7,1000031] rfl ?_
     refine A5 rfl (fun hc => absurd hc (by decide)) (fun hc => ?_)
     refine A9 <| A0 <| y_M rfl <| y_M rfl <| B3 (es := List.map iV [_]) rfl rfl (dT rfl) rfl rfl (fun _ => B2 (A7 fun _ => rfl)) (fun _ => rfl) ?_
     intro g46
     refine xA rfl rfl rfl rfl (by simp) (by simp) rfl rfl rfl rfl rfl (fun _ => rfl) (by simp only [LN]; omega) (fun _ => rfl) ?_
     intro g47
     (refine xO rfl rfl (by simp) rfl (fun _ => rfl) (fun _ => rfl) ?_; intro g7)
     refine xN [0,7,31,32,33] [7,1000031] rfl <| A0 <| F8 rfl rfl (C1 (by omega)) <| y_M rfl <| xN [0,7,31,32,33] [7,1000031] rfl ?_
     refine ⟨(i + 1, ns ++ [v], _), ?_, (by simp only; omega), ⟨rfl, rfl, rfl, rfl, rfl, rfl, rfl, trivial⟩⟩
     exact ⟨by omega, d0g (by omega) hrd hat⟩
    ·skip
     apply xC rfl
     ·apply A6
      ·exact B6 rfl
      exact B8
     ·exact (by have hi := c3p (oG := oG) (ps.getD i default) (by omega); unfold atR at hi; rw [hat] at hi; exact hi)
     refine ⟨⟨rfl, rfl, rfl, dT rfl, rfl⟩, .inl rfl, B0, O1 rfl, fun _ => rfl, fun g39 => ?_⟩
     refine y_M rfl <| y_E rfl <| y_E rfl <| y_S rfl <| y_S rfl <| xN [0,7,10,11,31,32,33] [7,1000031] rfl <| A3 <| A3 <| A0 <| y_M rfl <| c0q rfl rfl rfl <| xN [0,7,10,31,32,33,43] [7,1000031] rfl ?_
     refine A5 rfl (fun hc => ?_) (fun hc => absurd hc (by decide))
     refine A3 <| A0 ?_
     (refine A8 rfl rfl (fun _ => rfl) ?_; intro g2)
     refine y_S rfl <| xN [2,3] [2] rfl <| B1 <| C7 (E7 rfl rfl (by simp) (by rfl) (D7 rfl rfl (E3 C0))) ?_
     obtain ⟨h1, h2⟩ := b8l (w := w) (by rw [b0z hok hin, ← hps0]; exact b9f (i := i) (by omega) (by intro v hv; rw [hat] at hv; cases hv))
     rw [h1, h2]
     rfl
    skip
    apply xC rfl
    ·apply A6
     ·exact B6 rfl
     exact B8
    ·exact (by have hi := c3p (oG := oG) (ps.getD i default) (by omega); unfold atR at hi; rw [hat] at hi; exact hi)
    refine ⟨⟨rfl, rfl, rfl, dT rfl, rfl⟩, .inl rfl, B0, O1 rfl, fun _ => rfl, fun g39 => ?_⟩
    refine y_M rfl <| y_E rfl <| y_E rfl <| y_S rfl <| y_S rfl <| xN [0,7,10,11,31,32,33] [7,1000031] rfl <| A3 <| A3 <| A0 <| y_M rfl <| c0q rfl rfl rfl <| xN [0,7,10,31,32,33,43] [7,1000031] rfl ?_
    refine A5 rfl (fun hc => ?_) (fun hc => absurd hc (by decide))
    refine A3 <| A0 ?_
    (refine A8 rfl rfl (fun _ => rfl) ?_; intro g2)
    refine y_S rfl <| xN [2,3] [2] rfl <| B1 <| C7 (E7 rfl rfl (by simp) (by rfl) (D7 rfl rfl (E3 C0))) ?_
    obtain ⟨h1, h2⟩ := b8l (w := w) (by rw [b0z hok hin, ← hps0]; exact b9f (i := i) (by omega) (by intro v hv; rw [hat] at hv; cases hv))
    rw [h1, h2]
    rfl
   refine F6 <| A3 <| A0 <| y_M rfl <| y_M rfl ?_
   apply xC rfl
   ·apply A6
    ·exact E5 rfl rfl rfl (by (simp; done)) (fun _ => rfl)
    exact B8
   ·exact a2t ns (by omega)
   refine ⟨⟨rfl, rfl, rfl, dT rfl, rfl⟩, .inr ⟨rfl, rfl⟩, B0, B9 rfl, fun _ => rfl, fun g51 => ?_⟩
   refine y_M rfl ?_
   refine C6 rfl rfl ?_ ?_ <;> intro hg0 <;> have hg := hg0 <;> try simp only [SG] at hg
   ·refine y_M rfl <| gT rfl rfl ?_
    (have hnb := c9j (ns := ns) (by assumption); have hvl := b3a (show vd ns = true by assumption))
    apply xC rfl
    ·apply A6
     ·exact E5 rfl rfl rfl (by (simp; done)) (fun _ => rfl)
     exact B8
    ·exact a9m ns (by omega) hnb
    refine ⟨⟨rfl, rfl, rfl, dT rfl, rfl⟩, .inr ⟨rfl, rfl⟩, B0, B9 rfl, fun _ => rfl, fun g54 => ?_⟩
    refine gT rfl rfl <| y_M rfl <| gT rfl rfl <| b3i rfl rfl <| E8 rfl (by assumption) rfl rfl ?_
    (refine xO rfl rfl (by simp) rfl (fun _ => rfl) (fun _ => rfl) ?_; intro g2)
    refine y_S rfl <| xN [2,3] [2] rfl <| B1 <| C7 (E7 rfl rfl (by simp) (by exact A7 fun _ => rfl) (D7 rfl rfl (E3 C0))) ?_
    (have hx := hin; obtain ⟨h1, h2⟩ := a7a (ns := ns) (w := w) (by rw [b0z hok hx, ← hps0]; rw [List.take_of_length_le (by omega)] at hrd; exact hrd))
    (rw [h1, h2, hg, Bool.true_and]; rfl)
   refine gF rfl rfl <| gF rfl rfl <| gF rfl rfl <| F4 rfl (by assumption) rfl rfl ?_
   (refine xO rfl rfl (by simp) rfl (fun _ => rfl) (fun _ => rfl) ?_; intro g2)
   refine y_S rfl <| xN [2,3] [2] rfl <| B1 <| C7 (E7 rfl rfl (by simp) (by exact A7 fun _ => rfl) (D7 rfl rfl (E3 C0))) ?_
   (have hx := hin; obtain ⟨h1, h2⟩ := a7a (ns := ns) (w := w) (by rw [b0z hok hx, ← hps0]; rw [List.take_of_length_le (by omega)] at hrd; exact hrd))
   (rw [h1, h2, hg, Bool.false_and]; rfl)
  have hie : a3l w = [] := hc
  refine A9 <| A3 <| A0 <| y_M rfl <| y_M rfl ?_
  apply xC rfl
  ·apply A6
   ·exact b1b rfl rfl rfl rfl rfl
   exact B8
  ·exact a2t [] (by decide)
  refine ⟨⟨rfl, rfl, rfl, dT rfl, rfl⟩, .inr ⟨rfl, rfl⟩, B0, B9 rfl, fun _ => rfl, fun g51 => ?_⟩
  refine y_M rfl ?_
  refine C6 rfl rfl ?_ ?_ <;> intro hg0 <;> have hg := hg0 <;> try simp only [SG] at hg
  ·refine y_M rfl <| gT rfl rfl ?_
   skip
   apply xC rfl
   ·apply A6
    ·exact b1b rfl rfl rfl rfl rfl
    exact B8
   ·exact a9m [] (by decide) (by simp)
   refine ⟨⟨rfl, rfl, rfl, dT rfl, rfl⟩, .inr ⟨rfl, rfl⟩, B0, B9 rfl, fun _ => rfl, fun g54 => ?_⟩
   refine gT rfl rfl <| y_M rfl <| gT rfl rfl <| b3i rfl rfl <| E8 rfl rfl rfl rfl ?_
   (refine J0 rfl rfl (by (simp; done)) rfl (fun _ => (B2 (by rfl))) (fun _ => rfl) ?_; intro g2)
   refine y_S rfl <| xN [2,3] [2] rfl <| B1 <| C7 (E7 rfl rfl (by simp) (by rfl) (D7 rfl rfl (E3 C0))) ?_
   obtain ⟨h1, h2⟩ := a7a (ns := []) (w := w) (c5o hok hie)
   (rw [h1, h2, hg, Bool.true_and]; rfl)
  refine gF rfl rfl <| gF rfl rfl <| gF rfl rfl <| F4 rfl (by assumption) rfl rfl ?_
  (refine J0 rfl rfl (by (simp; done)) rfl (fun _ => (B2 (by rfl))) (fun _ => rfl) ?_; intro g2)
  refine y_S rfl <| xN [2,3] [2] rfl <| B1 <| C7 (E7 rfl rfl (by simp) (by rfl) (D7 rfl rfl (E3 C0))) ?_
  obtain ⟨h1, h2⟩ := a7a (ns := []) (w := w) (c5o hok hie)
  (rw [h1, h2, hg, Bool.false_and]; rfl)
 refine gF rfl rfl <| E8 rfl (by assumption) rfl rfl <| xN [0,4,27] [] rfl ?_
 refine A5 rfl (fun hc => ?_) (fun hc => absurd hc (by decide))
 refine A3 <| A0 ?_
 (refine A8 rfl rfl (fun _ => rfl) ?_; intro g2)
 refine y_S rfl <| xN [2,3] [2] rfl <| B1 <| C7 (E7 rfl rfl (by simp) (by rfl) (D7 rfl rfl (E3 C0))) ?_
 obtain ⟨h1, h2⟩ := b8l (c1n (w := w) (by simp_all [okB]))
 rw [h1, h2]
 rfl

theorem b0i : F3 Tryz.f63 = [0, 2, 3, 4, 6, 12, 5] := by kernel_rfl
theorem a0u (w : List UInt8) (hs : w.length ≤ 1048576) : CW (cxT oG) 63 [tV w] = some (.tup [tV (if (numsOf w).isSome = true then lW else w), .own 1 (((numsOf w).getD []).map iV), bV ((numsOf w).isSome || decide (0 ≤ rch (bA w)))], []) := by
 refine F0 rfl Tryz.func63 rfl ⟨by kernel_rfl, rfl, dT rfl, dT rfl, by decide⟩ b0i <| A3 <| A0 <| y_S rfl ?_
 (refine A8 rfl rfl (fun _ => rfl) ?_; intro g3)
 refine y_S rfl <| xN [0] [] rfl <| A3 <| A3 <| A0 <| y_M rfl ?_
 apply xC rfl
 ·apply A6
  ·exact B6 rfl
  exact B8
 ·exact (by have hi := c2e (oG := oG) w hs; rw [d5o] at hi; exact hi)
 refine ⟨⟨rfl, rfl, rfl, dT rfl, rfl⟩, .inr ⟨H5 _ _, rfl⟩, B0, G7 (J8 fun _ => I4 rfl K2), fun _ => rfl, fun g9 => ?_⟩
 simp only [List.length_map]
 refine y_M rfl <| y_E rfl <| y_E rfl ?_
 (refine xO rfl rfl (by simp) rfl (fun _ => rfl) (fun _ => rfl) ?_; intro g5)
 refine y_S rfl <| xN [0,5,6] [5] rfl <| A3 <| A0 <| y_M rfl <| xN [0,5,12] [5] rfl ?_
 refine A5 rfl ?_ ?_ <;> intro hc <;> try simp only [SL] at hc
 ·obtain ⟨ns, hns⟩ := Option.isSome_iff_exists.1 hc
  have hraw := d5s hns
  refine A3 <| A0 <| y_M rfl <| y_S rfl ?_
  (refine xO rfl rfl (by simp) rfl (fun _ => rfl) (fun _ => rfl) ?_; intro g3)
  refine y_S rfl <| xN [2,3,4] [3] rfl <| B1 <| C7 (D7 rfl rfl (E7 rfl rfl (by simp) (by exact A7 fun _ => rfl) (D7 rfl rfl (E3 C0)))) ?_
  rw [hns, hraw]
  rfl
 have hnn : numsOf w = none := by simpa using hc
 have hwo := d4n w
 refine A9 <| A3 <| A0 <| y_M rfl <| y_M rfl <| b5w rfl rfl <| y_M rfl ?_
 refine C6 rfl rfl ?_ ?_ <;> intro hg0 <;> have hg := hg0 <;> try simp only [SG] at hg
 ·refine y_M rfl <| gT rfl rfl ?_
  refine xC1 rfl rfl (a5j (bA w)) ⟨rfl, rfl, rfl⟩ rfl rfl fun g19 => ?_
  refine gT rfl rfl <| c0b rfl rfl <| E8 rfl (by assumption) rfl rfl <| y_S rfl ?_
  (refine A8 rfl rfl (fun _ => rfl) ?_; intro g3)
  refine y_S rfl <| xN [2,3,4] [3] rfl <| B1 <| C7 (D7 rfl rfl (E7 rfl rfl (by simp) (by rfl) (D7 rfl rfl (E3 C0)))) ?_
  rw [hnn, ← hwo]
  simp_all
  try rfl
 refine gF rfl rfl <| gF rfl rfl <| F4 rfl (by assumption) rfl rfl <| y_S rfl ?_
 (refine A8 rfl rfl (fun _ => rfl) ?_; intro g3)
 refine y_S rfl <| xN [2,3,4] [3] rfl <| B1 <| C7 (D7 rfl rfl (E7 rfl rfl (by simp) (by rfl) (D7 rfl rfl (E3 C0)))) ?_
 rw [hnn, ← hwo]
 simp_all
 try rfl

theorem a8t : F3 Tryz.f80 = [0, 2, 1, 7, 4, 19, 3] := by kernel_rfl
theorem b9v (ns : List Int) (hv : vd ns = true) : CW (cxT oG) 80 [trK (.lst ns)] = some (tV (showL ns), []) := by
 have hl := b3a hv
 have hnb := c9j hv
 have hll := Y1 hnb
 refine F0 rfl Tryz.func80 rfl ⟨by kernel_rfl, rfl, dT rfl, dT rfl, by decide⟩ a8t <| A3 <| A0 <| b5x rfl rfl rfl (fun _ => Q4 rfl) (fun _ => rfl) ?_
 intro g1
 refine y_S rfl <| xN [1] [1] rfl <| A3 <| A3 <| A0 <| y_F rfl <| y_L rfl <| b3i rfl rfl <| xN [1,7] [1] rfl ?_
 refine A5 rfl (fun hc => ?_) (fun hc => ?_)
 ·try simp only [SL] at hc
  refine A3 <| A0 <| y_F rfl <| y_L rfl ?_
  refine xC1 rfl rfl (a6a ns (by omega) hnb) ⟨rfl, rfl, rfl⟩ rfl rfl fun g10 => ?_
  iterate 2 refine M8 rfl rfl (by simp only [G9, List.length_append, List.length_cons, List.length_nil]; omega) ?_
  refine y_S rfl <| xN [2] [] rfl <| B1 <| C2 rfl rfl trivial ?_
  rfl
 try simp only [SD] at hc
 exact absurd rfl hc

theorem b7c : F3 Tryz.f132 = [0, 2, 1, 4, 10, 3, 23] := by kernel_rfl
theorem d4j (t : Pl) (ht : t.sz ≤ 1000) (hgd : t.good) : CW (cxT oG) 132 [trK t] = some (.own 1 ((codeP t).map tV), []) := by
 obtain ⟨kk, hkk⟩ : ∃ kk : Nat, t.sz < kk := ⟨_, Nat.lt_succ_self _⟩
 revert t
 induction kk with
 | zero => intro t ht hgd hkk; exact absurd hkk (Nat.not_lt_zero _)
 | succ kk ih =>
  intro t ht hgd hkk
  have hkl := d2p t
  have hcl := fun i => U4 (t.kids.getD i default)
  have hkz := fun i => d0r (t := t) (i := i)
  have hkg := fun i => c9q hgd (i := i)
  have hnl := fun i => c6z (t := t) (i := i)
  have hco := fun h => c9h (t := t) h
  refine F0 rfl Tryz.func132 rfl ⟨by kernel_rfl, rfl, dT rfl, dT rfl, by decide⟩ b7c <| A3 <| A0 <| b5x rfl rfl rfl (fun _ => Q4 rfl) (fun _ => rfl) ?_
  intro g1
  (refine A8 rfl rfl (fun _ => rfl) ?_; intro g2)
  refine xN [1] [1] rfl <| A3 <| A0 <| B3 (es := List.map tV []) rfl rfl (dT rfl) rfl rfl (fun _ => B2 (A7 fun _ => rfl)) (fun _ => rfl) ?_
  intro g5
  (refine xO rfl rfl (by simp) rfl (fun _ => rfl) (fun _ => rfl) ?_; intro g3)
  refine xN [1,3] [1,3] rfl <| A3 <| A3 <| A0 <| y_S rfl <| xN [1,3,4] [1,3] rfl <| B7 <| F5 (β := Nat × List W8 × Nat) [(.t 1, _), (.h 1, _)] (fun (z : Nat × List W8 × Nat) => match z with | (i, cs, g) => [(.t 4, iV i), (.h 3, .obj g 0 1 (cs.map tV)), (.t 3, .sl 3 g none 0 cs.length)]) (fun (z : Nat × List W8 × Nat) => match z with | (i, cs, g) => i ≤ t.kids.length ∧ cs = a3w t i) (fun (z : Nat × List W8 × Nat) => match z with | (i, cs, g) => t.kids.length - i) (0, [], _) ⟨rfl, rfl, rfl, rfl, rfl, trivial⟩ ⟨Nat.zero_le _, rfl⟩ ?_
  intro z hb
  obtain ⟨i, cs, g⟩ := z
  try dsimp only at hb
  obtain ⟨hi1, ha⟩ := hb
  have hnb := hnl i hi1
  rw [← ha] at hnb
  refine A3 <| A3 <| A0 <| y_M rfl <| y_F rfl <| y_L rfl <| C9 rfl rfl <| H4 rfl rfl <| xN [1,3,4,10] [1,3] rfl ?_
  refine A5 rfl ?_ ?_ <;> intro hc <;> try simp only [SL] at hc
  ·refine A9 <| A3 <| B7 <| A0 <| y_M rfl <| y_F rfl <| y_L rfl <| y_M rfl <| B5 rfl rfl rfl (fun _ => rfl) (by omega) <| y_I rfl ?_
   have h1 := hcl i
   have h2 := hkz i (by omega)
   apply xC rfl
   ·apply A6
    ·exact B6 rfl
    exact B8
   ·exact (by have hk2 := d0r (t := t) (i := i) (by omega); have hi := ih (t.kids.getD i default) (by omega) (hkg i (by omega)) (by omega); rw [← d4t] at hi; exact hi)
   refine ⟨⟨rfl, rfl, rfl, dT rfl, rfl⟩, .inl rfl, B0, H9, fun _ => rfl, fun g19 => ?_⟩
   simp only [List.length_map]
   refine L7 rfl rfl rfl rfl (by (simp; done)) (by simp) (by decide) rfl rfl rfl rfl (dT rfl) (fun _ => ⟨rfl, rfl⟩) (by simp only [G9]; omega) (fun _ => rfl) ?_
   intro g20
   (refine xO rfl rfl (by simp) rfl (fun _ => rfl) (fun _ => rfl) ?_; intro g3)
   refine xN [1,3,4] [1,3] rfl <| A0 <| y_M rfl <| F8 rfl rfl (C1 (by omega)) <| y_S rfl <| xN [1,3,4] [1,3] rfl ?_
   refine ⟨(i + 1, _, _), ⟨by omega, by rw [a3w, ← ha]⟩, (by simp only; omega), ⟨rfl, rfl, rfl, rfl, rfl, trivial⟩⟩
  refine F6 <| A3 <| A3 <| A0 <| y_F rfl <| y_L rfl <| b3i rfl rfl <| xN [1,3,23] [1,3] rfl ?_
  refine A5 rfl ?_ ?_ <;> intro hc <;> try simp only [SL] at hc
  ·obtain ⟨ns, rfl, hv⟩ := c8c hgd (by assumption)
   refine A3 <| A0 <| y_M rfl <| y_B rfl ?_
   refine xC1 rfl rfl (b9v ns hv) ⟨rfl, rfl, rfl⟩ rfl rfl fun g26 => ?_
   refine B3 (es := List.map tV [_]) rfl rfl (dT rfl) rfl rfl (fun _ => B2 (A7 fun _ => rfl)) (fun _ => rfl) ?_
   intro g27
   refine xA rfl rfl rfl rfl (by simp) (by simp) rfl rfl rfl rfl rfl (fun _ => rfl) (by simp only [LN]; omega) (fun _ => rfl) ?_
   intro g28
   (refine xO rfl rfl (by simp) rfl (fun _ => rfl) (fun _ => rfl) ?_; intro g2)
   refine xN [2] [2] rfl <| B1 <| J9 rfl rfl (by simp) (by exact A7 fun _ => rfl) trivial ?_
   rw [ha, c7s ns i hi1]
  refine A9 <| A3 <| A0 <| y_M rfl <| y_F rfl <| y_L rfl <| B3 (es := List.map tV [_]) rfl rfl (dT rfl) rfl rfl (fun _ => B2 (A7 fun _ => rfl)) (fun _ => rfl) ?_
  intro g32
  refine xA rfl rfl rfl rfl (by simp) (by simp) rfl rfl rfl rfl rfl (fun _ => rfl) (by simp only [LN]; omega) (fun _ => rfl) ?_
  intro g33
  (refine xO rfl rfl (by simp) rfl (fun _ => rfl) (fun _ => rfl) ?_; intro g2)
  refine xN [2] [2] rfl <| B1 <| J9 rfl rfl (by simp) (by exact A7 fun _ => rfl) trivial ?_
  rw [ha, show i = t.kids.length by omega, hco (by assumption)]

theorem b2l : F3 Tryz.f90 = [0, 2, 4, 11, 3, 7] := by kernel_rfl
theorem c8x (s : List UInt8) (hs : s.length ≤ 1048576) : CW (cxT oG) 90 [tV s] = some (.own 1 ((codeT s).map tV), []) := by
 refine F0 rfl Tryz.func90 rfl ⟨by kernel_rfl, rfl, dT rfl, dT rfl, by decide⟩ b2l <| A3 <| A0 ?_
 (refine A8 rfl rfl (fun _ => rfl) ?_; intro g2)
 refine xN [0] [] rfl <| A3 <| A0 <| y_M rfl ?_
 apply xC rfl
 ·apply A6
  ·exact B6 rfl
  exact B8
 ·exact c3j s hs
 refine ⟨⟨rfl, rfl, rfl, dT rfl, rfl⟩, .inl rfl, B0, O1 rfl, fun _ => rfl, fun g7 => ?_⟩
 refine y_M rfl <| y_E rfl <| y_E rfl <| y_A rfl (fun _ => rfl) ?_
 intro g3
 refine xB rfl rfl rfl rfl rfl rfl rfl rfl rfl <| y_S rfl <| xN [3,4] [3] rfl <| A3 <| A3 <| A0 <| y_M rfl <| L4 rfl <| xN [3,11] [3] rfl ?_
 refine A5 rfl ?_ ?_ <;> intro hc <;> try simp only [SL] at hc
 ·refine A3 <| A0 ?_
  (refine A8 rfl rfl (fun _ => rfl) ?_; intro g2)
  refine xN [2] [2] rfl <| B1 <| J9 rfl rfl (by simp) (by rfl) trivial ?_
  rw [b2v hc]
  rfl
 refine A9 <| A3 <| A0 <| y_B rfl ?_
 obtain ⟨t, ht1, ht2, ht3⟩ := c3c hc
 have hpg := a9c hs ht1
 rw [ht2, d4t]
 apply xC rfl
 ·apply A6
  ·exact B6 rfl
  exact B8
 ·exact d4j t (by omega) hpg
 refine ⟨⟨rfl, rfl, rfl, dT rfl, rfl⟩, .inl rfl, B0, H9, fun _ => rfl, fun g13 => ?_⟩
 simp only [List.length_map]
 (refine xO rfl rfl (by simp) rfl (fun _ => rfl) (fun _ => rfl) ?_; intro g2)
 refine xN [2] [2] rfl <| B1 <| J9 rfl rfl (by simp) (by exact A7 fun _ => rfl) trivial ?_
 rw [b3e ht1]

theorem b8y : F3 Tryz.f91 = [0, 1, 4, 24, 5, 36, 6] := by kernel_rfl
theorem P2 (bs : List Int) (p : Int) (hbs : a1k bs) (hl : bs.length ≤ 1048576) (hp : 0 ≤ p ∧ p ≤ 1000000000) (n : Int) (hn : n ≤ 1000000000) : ∃ res outs, (fun res outs => ∃ k, res = iV k ∧ outs = [[rdr bs (p + 1)]] ∧ (1 ≤ n → 0 ≤ k ∧ k < n) ∧ (n < 1 → k = 0)) res outs ∧ CW (cxT oG) 91 [.ownp [rdr bs p] 0 0, iV n] = some (res, outs) := by
 refine M3 rfl Tryz.func91 rfl ⟨by kernel_rfl, rfl, dT rfl, dT rfl, by decide⟩ b8y <| A3 <| A0 <| y_S rfl <| xN [0,1] [0] rfl <| A3 <| A0 <| y_M rfl <| y_M rfl <| M5 rfl rfl rfl <| y_F rfl <| y_L rfl <| F8 rfl rfl (C1 (by omega)) <| M5 rfl rfl rfl <| y_F rfl <| b1a rfl rfl rfl rfl rfl ⟨by decide, rfl, dT rfl, dT rfl, rfl⟩ (by exact c9b rfl) <| xN [0,1] [0] rfl <| A3 <| A3 <| A0 <| y_M rfl <| H4 rfl rfl <| y_M rfl ?_
 refine C6 rfl rfl ?_ ?_ <;> intro hg0 <;> have hg := hg0 <;> try simp only [SG] at hg
 ·refine y_M rfl <| gT rfl rfl <| M5 rfl rfl rfl <| gT rfl rfl <| y_F rfl <| gT rfl rfl <| y_L rfl <| gT rfl rfl <| C9 rfl rfl <| gT rfl rfl <| L0 rfl rfl <| F4 rfl (by assumption) rfl rfl <| xN [0,1,24] [0] rfl ?_
  refine A5 rfl ?_ ?_ <;> intro hc <;> try simp only [SL] at hc
  ·refine A3 <| A0 <| y_S rfl <| xN [4] [0] rfl <| B1 ?_
   refine ⟨_, _, ?_, I6 rfl rfl (H6 rfl rfl)⟩
   refine ⟨_, rfl, rfl, fun h => ?_, fun h => ?_⟩
   ·omega
   omega
  refine A9 <| A3 <| A0 <| y_M rfl <| M5 rfl rfl rfl <| y_F rfl <| y_L rfl <| K6 rfl rfl (C1 (by omega)) <| y_S rfl <| xN [0,1,5] [0] rfl <| A3 <| A3 <| A0 <| y_M rfl <| y_M rfl <| M5 rfl rfl rfl <| y_F rfl <| y_L rfl <| C9 rfl rfl <| H4 rfl rfl <| xN [0,1,5,36] [0] rfl ?_
  refine A5 rfl ?_ ?_ <;> intro hc <;> try simp only [SL] at hc
  ·refine A3 <| A0 <| y_M rfl <| M5 rfl rfl rfl <| y_F rfl <| y_L rfl <| y_M rfl <| S4 rfl rfl rfl (fun _ => rfl) (by omega) <| y_I rfl <| a4m rfl rfl rfl (C1 (by have := hbs.getD (p + 1 - 1).toNat; omega)) <| y_M rfl ?_
   have hk := hbs.getD (p + 1 - 1).toNat
   refine b6g rfl rfl (by omega) <| y_S rfl <| xN [4] [0] rfl <| B1 ?_
   refine ⟨_, _, ?_, I6 rfl rfl (H6 rfl rfl)⟩
   refine ⟨_, rfl, rfl, fun h => ?_, fun h => ?_⟩
   ·exact a6z (by omega) (by omega)
   omega
  refine A9 <| A3 <| A0 <| y_M rfl <| M5 rfl rfl rfl <| y_F rfl <| y_L rfl <| y_M rfl <| y_M rfl <| M5 rfl rfl rfl <| y_F rfl <| y_L rfl <| C9 rfl rfl ?_
  have hlen : 0 < (bs.length : Int) := by omega
  refine b6g rfl rfl (by omega) ?_
  have hm1 := a6z (a := p + 1 - 1) (by omega) hlen
  refine S4 rfl rfl rfl (fun _ => rfl) (by omega) <| y_I rfl <| a4m rfl rfl rfl (C1 (by have := hbs.getD ((p + 1 - 1).tmod bs.length).toNat; omega)) ?_
  have hk := hbs.getD ((p + 1 - 1).tmod bs.length).toNat
  refine a5s rfl rfl (C1 (by omega)) <| y_M rfl <| M5 rfl rfl rfl <| y_F rfl <| y_L rfl <| y_M rfl <| a5s rfl rfl (C1 (by omega)) <| F8 rfl rfl (C1 (by omega)) <| y_M rfl <| M5 rfl rfl rfl <| y_F rfl <| y_L rfl <| C9 rfl rfl <| b6g rfl rfl (by omega) ?_
  have hm2 := a6z (a := (p + 1 - 1) * 7 + 3) (by omega) hlen
  refine S4 rfl rfl rfl (fun _ => rfl) (by omega) <| y_I rfl <| a4m rfl rfl rfl (C1 (by have := hbs.getD (((p + 1 - 1) * 7 + 3).tmod bs.length).toNat; omega)) ?_
  have hk2 := hbs.getD (((p + 1 - 1) * 7 + 3).tmod bs.length).toNat
  refine a5s rfl rfl (C1 (by omega)) <| F8 rfl rfl (C1 (by omega)) <| y_M rfl <| a5s rfl rfl (C1 (by omega)) <| F8 rfl rfl (C1 (by omega)) <| y_M rfl <| y_M rfl <| M5 rfl rfl rfl <| y_F rfl <| y_L rfl <| C9 rfl rfl ?_
  have hd := c5d (a := p + 1 - 1) (b := bs.length) (by omega) (by omega)
  refine d1n rfl rfl ⟨by omega, C1 (by omega)⟩ <| a5s rfl rfl (C1 (by omega)) <| F8 rfl rfl (C1 (by omega)) <| y_S rfl ?_
  refine K4 ⟨fun _ => ⟨by decide +kernel, by decide +kernel⟩, [(.t 1, _), (.t 6, _), (.h 0, _)], ⟨rfl, rfl, rfl, rfl, rfl, rfl, trivial⟩, ?_⟩
  refine A3 <| A0 <| y_M rfl <| y_M rfl ?_
  have hd2 := c5d (a := (bs.getD ((p + 1 - 1).tmod bs.length).toNat default * 131 + bs.getD (((p + 1 - 1) * 7 + 3).tmod bs.length).toNat default * 1117 + (p + 1 - 1) * 29 + (p + 1 - 1).tdiv bs.length * 53)) (b := 64) (by omega) (by decide)
  refine d1n rfl rfl ⟨by omega, C1 (by omega)⟩ ?_
  have hx := d5y (x := (bs.getD ((p + 1 - 1).tmod bs.length).toNat default * 131 + bs.getD (((p + 1 - 1) * 7 + 3).tmod bs.length).toNat default * 1117 + (p + 1 - 1) * 29 + (p + 1 - 1).tdiv bs.length * 53)) (by omega) (y := (bs.getD ((p + 1 - 1).tmod bs.length).toNat default * 131 + bs.getD (((p + 1 - 1) * 7 + 3).tmod bs.length).toNat default * 1117 + (p + 1 - 1) * 29 + (p + 1 - 1).tdiv bs.length * 53).tdiv 64) (by omega)
  refine d6o rfl rfl <| y_S rfl <| xN [1,6] [0] rfl <| A3 <| A0 <| y_M rfl <| y_M rfl <| b6g rfl rfl (by omega) <| y_S rfl <| xN [4] [0] rfl <| B1 ?_
  refine ⟨_, _, ?_, I6 rfl rfl (H6 rfl rfl)⟩
  refine ⟨_, rfl, rfl, fun h => ?_, fun h => ?_⟩
  ·exact a6z (by omega) (by omega)
  omega
 iterate 5 refine gF rfl rfl ?_
 refine E8 rfl (by assumption) rfl rfl <| xN [0,1,24] [0] rfl ?_
 refine A5 rfl (fun hc => ?_) (fun hc => absurd hc (by decide))
 refine A3 <| A0 <| y_S rfl <| xN [4] [0] rfl <| B1 ?_
 refine ⟨_, _, ?_, I6 rfl rfl (H6 rfl rfl)⟩
 refine ⟨_, rfl, rfl, fun h => ?_, fun h => ?_⟩
 ·omega
 omega

theorem c2p : F3 Tryz.f94 = [0, 1, 4] := by kernel_rfl
theorem b2y (bs : List Int) (p : Int) (hbs : a1k bs) (hl : bs.length ≤ 1048576) (hp : 0 ≤ p ∧ p ≤ 1000000000) (xs : List Int) (hx : 1 ≤ xs.length ∧ xs.length ≤ 1000) : ∃ res outs, (fun res outs => ∃ k, res = iV k ∧ outs = [[rdr bs (p + 1)]] ∧ k ∈ xs) res outs ∧ CW (cxT oG) 94 [.ownp [rdr bs p] 0 0, L xs] = some (res, outs) := by
 refine M3 rfl Tryz.func94 rfl ⟨by kernel_rfl, rfl, dT rfl, dT rfl, by decide⟩ c2p <| A3 <| A0 <| y_S rfl <| xN [0,1] [0] rfl <| A3 <| A0 <| y_M rfl <| y_M rfl <| y_M rfl <| C9 rfl rfl ?_
 obtain ⟨_, _, ⟨k, rfl, rfl, hk1, hk2⟩, hC⟩ := P2 (oG := oG) bs p hbs hl hp xs.length (by omega)
 have hk1 := hk1 (by omega)
 apply xC rfl
 ·apply A6
  ·exact H1 rfl (by decide) rfl
  apply A6
  ·exact B6 rfl
  exact B8
 ·exact hC
 refine ⟨⟨rfl, rfl, rfl, dT rfl, rfl⟩, .inl rfl, D5 rfl rfl rfl B0, B9 rfl, fun _ => rfl, fun g9 => ?_⟩
 refine S4 rfl rfl rfl (fun _ => rfl) (by omega) <| y_I rfl <| y_S rfl <| xN [4] [0] rfl <| B1 ?_
 refine ⟨_, _, ?_, I6 rfl rfl (H6 rfl rfl)⟩
 refine ⟨_, rfl, rfl, a3x (by omega)⟩

theorem a8d : F3 Tryz.f54 = [0, 2, 5] := by kernel_rfl
theorem c0h (bs : List Int) (hl : bs.length ≤ 1048576) : ∃ res outs, (fun res outs => res = .ownp [rdr (bs.take 2000) 0] 0 0 ∧ outs = []) res outs ∧ CW (cxT oG) 54 [.list (bs.map uV)] = some (res, outs) := by
 refine M3 rfl Tryz.func54 rfl ⟨by kernel_rfl, rfl, dT rfl, dT rfl, by decide⟩ a8d <| A3 <| A0 <| y_S rfl <| xN [0] [] rfl <| A3 <| A3 <| A0 <| y_M rfl <| C9 rfl rfl <| M4 rfl rfl <| xN [0,5] [] rfl ?_
 refine A5 rfl ?_ ?_ <;> intro hc <;> try simp only [SL] at hc
 ·refine A0 <| y_M rfl <| V6 rfl rfl rfl (Mv.sized_map fun _ => rfl) (G0 rfl) I2 (by (simp; omega)) <| y_S rfl <| xN [0] [] rfl <| A3 <| A0 <| y_M rfl <| W5 (fs := [_, _]) rfl rfl rfl rfl rfl <| b5x rfl rfl rfl (fun _ => Q4 rfl) (fun _ => rfl) ?_
  intro g10
  (refine a2x rfl rfl rfl rfl (fun _ => Q4 rfl) (fun _ => rfl) ?_; intro g2)
  refine xN [2] [2] rfl <| B1 ?_
  refine ⟨_, _, ?_, c5m rfl rfl rfl C0⟩
  have e : rdr (bs.take 2000) 0 = .agg [.list ((bs.map uV).take 2000), iV 0] := by unfold rdr; rw [List.map_take]
  rw [e]
  exact ⟨rfl, rfl⟩
 refine A9 <| A3 <| A0 <| y_M rfl <| W5 (fs := [_, _]) rfl rfl rfl rfl rfl <| b5x rfl rfl rfl (fun _ => Q4 rfl) (fun _ => rfl) ?_
 intro g10
 (refine a2x rfl rfl rfl rfl (fun _ => Q4 rfl) (fun _ => rfl) ?_; intro g2)
 refine xN [2] [2] rfl <| B1 ?_
 refine ⟨_, _, ?_, c5m rfl rfl rfl C0⟩
 have e : bs.take 2000 = bs := List.take_of_length_le (by omega)
 rw [e]
 exact ⟨rfl, rfl⟩

theorem c3b : F3 Tryz.f92 = [0, 1, 4] := by kernel_rfl
theorem a6l (bs : List Int) (p : Int) (hbs : a1k bs) (hl : bs.length ≤ 1048576) (hp : 0 ≤ p ∧ p ≤ 1000000000) (ss : List W8) (hs : 1 ≤ ss.length ∧ ss.length ≤ 1000) : ∃ res outs, (fun res outs => ∃ k, res = tV k ∧ outs = [[rdr bs (p + 1)]] ∧ k ∈ ss) res outs ∧ CW (cxT oG) 92 [.ownp [rdr bs p] 0 0, .list (ss.map tV)] = some (res, outs) := by
 refine M3 rfl Tryz.func92 rfl ⟨by kernel_rfl, rfl, dT rfl, dT rfl, by decide⟩ c3b <| A3 <| A0 <| y_S rfl <| xN [0,1] [0] rfl <| A3 <| A0 <| y_M rfl <| y_M rfl <| y_M rfl <| C9 rfl rfl ?_
 obtain ⟨_, _, ⟨k, rfl, rfl, hk, -⟩, hC⟩ := P2 (oG := oG) bs (p) hbs hl (by omega) (ss.length) (by omega)
 have hk := hk (by omega)
 apply xC rfl
 ·apply A6
  ·exact H1 rfl (by decide) rfl
  apply A6
  ·exact B6 rfl
  exact B8
 ·exact hC
 refine ⟨⟨rfl, rfl, rfl, dT rfl, rfl⟩, .inl rfl, D5 rfl rfl rfl B0, B9 rfl, fun _ => rfl, fun g9 => ?_⟩
 refine S4 rfl rfl rfl (fun _ => rfl) (by omega) <| y_I rfl <| y_S rfl <| xN [4] [0] rfl <| B1 ?_
 refine ⟨_, _, ?_, I6 rfl rfl (H6 rfl rfl)⟩
 refine ⟨_, rfl, rfl, L1 (by omega)⟩

theorem b0q : F3 Tryz.f93 = [0, 1, 4, 15, 18, 6, 5, 29, 42, 7, 50, 8] := by kernel_rfl
theorem c4t (bs : List Int) (p : Int) (d : Nat) (hbs : a1k bs) (hl : bs.length ≤ 1048576) (hp : 0 ≤ p ∧ p + gN d ≤ 50000000)  (hd : d ≤ 5) : ∃ res outs, (fun res outs => ∃ (x : W8) (q : Int), res = tV x ∧ outs = [[rdr bs q]] ∧ p ≤ q ∧ q ≤ p + gN d ∧ x.length ≤ lN d) res outs ∧ CW (cxT oG) 93 [.ownp [rdr bs p] 0 0, iV d] = some (res, outs) := by
 obtain ⟨kk, hkk⟩ : ∃ kk : Nat, d < kk := ⟨_, Nat.lt_succ_self _⟩
 revert bs p d
 induction kk with
 | zero => intro bs p d hbs hl hp hd hkk; exact absurd hkk (Nat.not_lt_zero _)
 | succ kk ih =>
  intro bs p d hbs hl hp hd hkk
  have hgd := b6y d
  have hld := c3a d
  refine M3 rfl Tryz.func93 rfl ⟨by kernel_rfl, rfl, dT rfl, dT rfl, by decide⟩ b0q <| A3 <| A0 <| y_S rfl <| xN [0,1] [0] rfl <| A3 <| A3 <| A0 <| y_M rfl <| L0 rfl rfl <| y_M rfl ?_
  refine C6 rfl rfl ?_ ?_ <;> intro hg0 <;> have hg := hg0 <;> try simp only [SG] at hg
  ·refine y_M rfl <| gT rfl rfl ?_
   obtain ⟨_, _, ⟨k0, rfl, rfl, hk0, -⟩, hC0⟩ := P2 (oG := oG) bs (p) hbs hl (by omega) (5) (by omega)
   have hk0 := hk0 (by omega)
   apply xC rfl
   ·apply A6
    ·exact H1 rfl (by decide) rfl
    apply A6
    ·exact B6 rfl
    exact B8
   ·exact hC0
   refine ⟨⟨rfl, rfl, rfl, dT rfl, rfl⟩, .inl rfl, D5 rfl rfl rfl B0, B9 rfl, fun _ => rfl, fun g13 => ?_⟩
   refine gT rfl rfl <| L0 rfl rfl <| F4 rfl (by assumption) rfl rfl <| xN [0,1,15] [0] rfl ?_
   refine A5 rfl ?_ ?_ <;> intro hc <;> try simp only [SL] at hc
   ·refine A3 <| A3 <| A0 <| y_M rfl ?_
    obtain ⟨_, _, ⟨k1, rfl, rfl, hk1, -⟩, hC1⟩ := P2 (oG := oG) bs (p + 1) hbs hl (by omega) (2) (by omega)
    have hk1 := hk1 (by omega)
    apply xC rfl
    ·apply A6
     ·exact H1 rfl (by decide) rfl
     apply A6
     ·exact B6 rfl
     exact B8
    ·exact hC1
    refine ⟨⟨rfl, rfl, rfl, dT rfl, rfl⟩, .inl rfl, D5 rfl rfl rfl B0, B9 rfl, fun _ => rfl, fun g17 => ?_⟩
    refine L0 rfl rfl <| xN [0,18] [0] rfl ?_
    refine A5 rfl ?_ ?_ <;> intro hc <;> try simp only [SL] at hc
    ·refine A3 <| A0 <| y_M rfl <| B3 (es := List.map tV [[97], [98], [97], [99], [100]]) rfl rfl (dT rfl) rfl rfl (fun _ => B2 (A7 fun _ => rfl)) (fun _ => rfl) ?_
     intro g20
     obtain ⟨_, _, ⟨w1, rfl, rfl, hw1⟩, hC2⟩ := a6l (oG := oG) bs (p + 1 + 1) hbs hl (by omega) [[97], [98], [97], [99], [100]] (by decide)
     have hw1b : w1.length ≤ 1 := by have hall : ∀ x ∈ ([[97], [98], [97], [99], [100]] : List W8), x.length ≤ 1 := (by decide); exact hall _ hw1
     apply xC rfl
     ·apply A6
      ·exact H1 rfl (by decide) rfl
      apply A6
      ·exact G4 rfl rfl (by (simp; done)) (fun _ => rfl)
      exact B8
     ·exact hC2
     refine ⟨⟨rfl, rfl, rfl, dT rfl, rfl⟩, .inl rfl, D5 rfl rfl rfl B0, B9 rfl, fun _ => rfl, fun g21 => ?_⟩
     refine y_S rfl <| xN [4] [0] rfl <| B1 ?_
     refine ⟨_, _, ?_, I6 rfl rfl (H6 rfl rfl)⟩
     exact ⟨_, _, rfl, rfl, by omega, by omega, by omega⟩
    refine A9 <| A3 <| A0 <| B3 (es := List.map iV []) rfl rfl (dT rfl) rfl rfl (fun _ => B2 (A7 fun _ => rfl)) (fun _ => rfl) ?_
    intro g22
    (refine xO rfl rfl (by simp) rfl (fun _ => rfl) (fun _ => rfl) ?_; intro g5)
    refine xN [0,5] [0,5] rfl <| A3 <| A3 <| A0 <| y_M rfl <| B3 (es := List.map iV [2, 3, 1, 0, 4]) rfl rfl (dT rfl) rfl rfl (fun _ => B2 (A7 fun _ => rfl)) (fun _ => rfl) ?_
    intro g24
    obtain ⟨_, _, ⟨n1, rfl, rfl, hn1⟩, hC3⟩ := b2y (oG := oG) bs (p + 1 + 1) hbs hl (by omega) [2, 3, 1, 0, 4] (by decide)
    have hn1b : 0 ≤ n1 ∧ n1 ≤ 4 := by simp at hn1; omega
    apply xC rfl
    ·apply A6
     ·exact H1 rfl (by decide) rfl
     apply A6
     ·exact G4 rfl rfl (by (simp; done)) (fun _ => rfl)
     exact B8
    ·exact hC3
    refine ⟨⟨rfl, rfl, rfl, dT rfl, rfl⟩, .inl rfl, D5 rfl rfl rfl B0, B9 rfl, fun _ => rfl, fun g25 => ?_⟩
    refine y_S rfl <| xN [0,5,6] [0,5] rfl <| B7 <| F5 (β := List Int × Nat × Int) [(.t 0, _), (.t 6, _)] (fun (z : List Int × Nat × Int) => match z with | (xs, g, q) => [(.h 0, .obj 1 4 0 [rdr bs q]), (.t 5, .sl 5 g none 0 xs.length), (.h 5, .obj g 0 1 (xs.map iV))]) (fun (z : List Int × Nat × Int) => match z with | (xs, g, q) => (xs.length : Int) ≤ n1 ∧ p ≤ q ∧ q ≤ p + 4 + xs.length ∧ ∀ x ∈ xs, -20 ≤ x ∧ x ≤ 20) (fun (z : List Int × Nat × Int) => match z with | (xs, g, q) => 5 - xs.length) ([], _, _) ⟨rfl, rfl, rfl, rfl, rfl, trivial⟩ ⟨by simp; omega, by omega, by omega, by simp⟩ ?_
    intro z hb
    obtain ⟨xs, g, q⟩ := z
    try dsimp only at hb
    obtain ⟨hx1, hq1, hq2, hxb⟩ := hb
    refine A3 <| A3 <| A0 <| y_M rfl <| G8 rfl rfl <| y_M rfl <| H4 rfl rfl <| xN [0,5,6,29] [0,5] rfl ?_
    refine A5 rfl ?_ ?_ <;> intro hc <;> try simp only [SL] at hc
    ·refine A9 <| B7 <| A0 <| y_M rfl <| y_M rfl ?_
     obtain ⟨_, _, ⟨k2, rfl, rfl, hk2, -⟩, hC4⟩ := P2 (oG := oG) bs (q) hbs hl (by omega) (41) (by omega)
     have hk2 := hk2 (by omega)
     apply xC rfl
     ·apply A6
      ·exact H1 rfl (by decide) rfl
      apply A6
      ·exact B6 rfl
      exact B8
     ·exact hC4
     refine ⟨⟨rfl, rfl, rfl, dT rfl, rfl⟩, .inl rfl, D5 rfl rfl rfl B0, B9 rfl, fun _ => rfl, fun g32 => ?_⟩
     refine K6 rfl rfl (C1 (by omega)) <| B3 (es := List.map iV [k2 - 20]) rfl rfl (dT rfl) rfl rfl (fun _ => B2 (A7 fun _ => rfl)) (fun _ => rfl) ?_
     intro g34
     refine xA rfl rfl rfl rfl (by simp) (by simp) rfl rfl rfl rfl rfl (fun _ => rfl) (by simp only [LN]; omega) (fun _ => rfl) ?_
     intro g35
     (refine xO rfl rfl (by simp) rfl (fun _ => rfl) (fun _ => rfl) ?_; intro g5)
     refine xN [0,5,6] [0,5] rfl ?_
     refine ⟨(xs ++ [k2 - 20], _, q + 1), ?_, (by simp only [List.length_append, List.length_singleton]; omega), ⟨rfl, rfl, rfl, rfl, rfl, trivial⟩⟩
     refine ⟨?_, ?_, ?_, fun x hx => ?_⟩
     ·simp only [List.length_append, List.length_singleton]; omega
     ·omega
     ·simp only [List.length_append, List.length_singleton]; omega
     rcases List.mem_append.1 hx with hx | hx
     ·exact hxb x hx
     rw [List.mem_singleton.1 hx]; omega
    refine F6 <| A3 <| A0 <| y_M rfl ?_
    have hll := Y1 (ns := xs) (fun n hn => by have := hxb n hn; omega)
    apply xC rfl
    ·apply A6
     ·exact E5 rfl rfl rfl (by (simp; done)) (fun _ => rfl)
     exact B8
    ·exact a6a xs (by omega) (fun n hn => by have := hxb n hn; omega)
    refine ⟨⟨rfl, rfl, rfl, dT rfl, rfl⟩, .inr ⟨rfl, rfl⟩, B0, B9 rfl, fun _ => rfl, fun g37 => ?_⟩
    iterate 2 refine M8 rfl rfl (by simp only [G9, List.length_append, List.length_cons, List.length_nil]; omega) ?_
    refine y_S rfl <| xN [4] [0] rfl <| B1 ?_
    refine ⟨_, _, ?_, I6 rfl rfl (H6 rfl rfl)⟩
    exact ⟨_, _, rfl, rfl, by omega, by omega, by (simp only [List.length_append, List.length_cons, List.length_nil]; omega)⟩
   obtain ⟨d1, rfl⟩ : ∃ d1, d = d1 + 1 := ⟨d - 1, by omega⟩
   have hge : gN (d1 + 1) = 2 * gN d1 + 20 := rfl
   have hle : lN (d1 + 1) = 2 * lN d1 + 60 := rfl
   have hgp := b6y d1
   have hlp := c3a d1
   have hlm := c5g (d := d1 + 1) hd
   refine A9 <| A3 <| A3 <| A0 <| y_M rfl ?_
   obtain ⟨_, _, ⟨k3, rfl, rfl, hk3, -⟩, hC5⟩ := P2 (oG := oG) bs (p + 1) hbs hl (by omega) (4) (by omega)
   have hk3 := hk3 (by omega)
   apply xC rfl
   ·apply A6
    ·exact H1 rfl (by decide) rfl
    apply A6
    ·exact B6 rfl
    exact B8
   ·exact hC5
   refine ⟨⟨rfl, rfl, rfl, dT rfl, rfl⟩, .inl rfl, D5 rfl rfl rfl B0, B9 rfl, fun _ => rfl, fun g41 => ?_⟩
   refine L0 rfl rfl <| xN [0,1,42] [0] rfl ?_
   refine A5 rfl ?_ ?_ <;> intro hc <;> try simp only [SL] at hc
   ·refine A3 <| A0 <| y_M rfl <| y_M rfl <| K6 rfl rfl (C1 (by omega)) ?_
    obtain ⟨_, _, ⟨x1, q1, rfl, rfl, hx11, hx12, hx13⟩, hC6⟩ := ih bs (p + 1 + 1) d1 hbs hl (by omega) (by omega) (by omega)
    rw [show ((d1 + 1 : Nat) : Int) - 1 = (d1 : Int) by omega]
    apply xC rfl
    ·apply A6
     ·exact H1 rfl (by decide) rfl
     apply A6
     ·exact B6 rfl
     exact B8
    ·exact hC6
    refine ⟨⟨rfl, rfl, rfl, dT rfl, rfl⟩, .inl rfl, D5 rfl rfl rfl B0, B9 rfl, fun _ => rfl, fun g46 => ?_⟩
    refine y_S rfl <| xN [0,1,7] [0] rfl <| A3 <| A0 <| y_M rfl <| y_S rfl <| xN [0,1,7,8] [0] rfl <| A3 <| A3 <| A0 <| y_M rfl ?_
    obtain ⟨_, _, ⟨k4, rfl, rfl, hk4, -⟩, hC7⟩ := P2 (oG := oG) bs (q1) hbs hl (by omega) (2) (by omega)
    have hk4 := hk4 (by omega)
    apply xC rfl
    ·apply A6
     ·exact H1 rfl (by decide) rfl
     apply A6
     ·exact B6 rfl
     exact B8
    ·exact hC7
    refine ⟨⟨rfl, rfl, rfl, dT rfl, rfl⟩, .inl rfl, D5 rfl rfl rfl B0, B9 rfl, fun _ => rfl, fun g49 => ?_⟩
    refine L0 rfl rfl <| xN [0,1,7,8,50] [0] rfl ?_
    refine A5 rfl ?_ ?_ <;> intro hc <;> try simp only [SL] at hc
    ·refine A0 <| y_M rfl <| y_M rfl <| K6 rfl rfl (C1 (by omega)) ?_
     obtain ⟨_, _, ⟨x2, q2, rfl, rfl, hx21, hx22, hx23⟩, hC8⟩ := ih bs (q1 + 1) d1 hbs hl (by omega) (by omega) (by omega)
     rw [show ((d1 + 1 : Nat) : Int) - 1 = (d1 : Int) by omega]
     apply xC rfl
     ·apply A6
      ·exact H1 rfl (by decide) rfl
      apply A6
      ·exact B6 rfl
      exact B8
     ·exact hC8
     refine ⟨⟨rfl, rfl, rfl, dT rfl, rfl⟩, .inl rfl, D5 rfl rfl rfl B0, B9 rfl, fun _ => rfl, fun g54 => ?_⟩
     refine y_S rfl <| xN [0,7,8] [0] rfl <| A3 <| A0 <| y_M rfl <| B3 (es := List.map tV [[97, 100, 100], [106, 111, 105, 110], [106, 111, 105, 110]]) rfl rfl (dT rfl) rfl rfl (fun _ => B2 (A7 fun _ => rfl)) (fun _ => rfl) ?_
     intro g56
     obtain ⟨_, _, ⟨w2, rfl, rfl, hw2⟩, hC9⟩ := a6l (oG := oG) bs (q2) hbs hl (by omega) [[97, 100, 100], [106, 111, 105, 110], [106, 111, 105, 110]] (by decide)
     have hw2b : w2.length ≤ 4 := by have hall : ∀ x ∈ ([[97, 100, 100], [106, 111, 105, 110], [106, 111, 105, 110]] : List W8), x.length ≤ 4 := (by decide); exact hall _ hw2
     apply xC rfl
     ·apply A6
      ·exact H1 rfl (by decide) rfl
      apply A6
      ·exact G4 rfl rfl (by (simp; done)) (fun _ => rfl)
      exact B8
     ·exact hC9
     refine ⟨⟨rfl, rfl, rfl, dT rfl, rfl⟩, .inl rfl, D5 rfl rfl rfl B0, B9 rfl, fun _ => rfl, fun g57 => ?_⟩
     refine M8 rfl rfl (by simp only [G9, List.length_append, List.length_cons, List.length_nil]; omega) <| y_M rfl ?_
     iterate 2 refine M8 rfl rfl (by simp only [G9, List.length_append, List.length_cons, List.length_nil]; omega) ?_
     refine y_M rfl <| M8 rfl rfl (by simp only [G9, List.length_append, List.length_cons, List.length_nil]; omega) <| y_S rfl <| xN [4] [0] rfl <| B1 ?_
     refine ⟨_, _, ?_, I6 rfl rfl (H6 rfl rfl)⟩
     exact ⟨_, _, rfl, rfl, by omega, by omega, by (simp only [List.length_append, List.length_cons, List.length_nil]; omega)⟩
    refine A9 <| A3 <| A0 <| y_M rfl <| B3 (es := List.map tV [[97, 100, 100], [106, 111, 105, 110], [106, 111, 105, 110]]) rfl rfl (dT rfl) rfl rfl (fun _ => B2 (A7 fun _ => rfl)) (fun _ => rfl) ?_
    intro g56
    obtain ⟨_, _, ⟨w2, rfl, rfl, hw2⟩, hC9⟩ := a6l (oG := oG) bs (q1 + 1) hbs hl (by omega) [[97, 100, 100], [106, 111, 105, 110], [106, 111, 105, 110]] (by decide)
    have hw2b : w2.length ≤ 4 := by have hall : ∀ x ∈ ([[97, 100, 100], [106, 111, 105, 110], [106, 111, 105, 110]] : List W8), x.length ≤ 4 := (by decide); exact hall _ hw2
    apply xC rfl
    ·apply A6
     ·exact H1 rfl (by decide) rfl
     apply A6
     ·exact G4 rfl rfl (by (simp; done)) (fun _ => rfl)
     exact B8
    ·exact hC9
    refine ⟨⟨rfl, rfl, rfl, dT rfl, rfl⟩, .inl rfl, D5 rfl rfl rfl B0, B9 rfl, fun _ => rfl, fun g57 => ?_⟩
    refine M8 rfl rfl (by simp only [G9, List.length_append, List.length_cons, List.length_nil]; omega) <| y_M rfl ?_
    iterate 2 refine M8 rfl rfl (by simp only [G9, List.length_append, List.length_cons, List.length_nil]; omega) ?_
    refine y_M rfl <| M8 rfl rfl (by simp only [G9, List.length_append, List.length_cons, List.length_nil]; omega) <| y_S rfl <| xN [4] [0] rfl <| B1 ?_
    refine ⟨_, _, ?_, I6 rfl rfl (H6 rfl rfl)⟩
    exact ⟨_, _, rfl, rfl, by omega, by omega, by (simp only [List.length_append, List.length_cons, List.length_nil]; omega)⟩
   refine A9 <| A3 <| A0 <| y_M rfl <| B3 (es := List.map tV [[115, 111, 114, 116], [114, 101, 118], [110, 101, 103], [97, 98, 115], [100, 105, 102, 102], [115, 117, 109, 115], [114, 97, 110, 107, 115], [116, 111, 116, 97, 108], [115, 111, 114, 116], [114, 101, 118], [110, 101, 103], [97, 98, 115]]) rfl rfl (dT rfl) rfl rfl (fun _ => B2 (A7 fun _ => rfl)) (fun _ => rfl) ?_
   intro g65
   obtain ⟨_, _, ⟨w3, rfl, rfl, hw3⟩, hC10⟩ := a6l (oG := oG) bs (p + 1 + 1) hbs hl (by omega) [[115, 111, 114, 116], [114, 101, 118], [110, 101, 103], [97, 98, 115], [100, 105, 102, 102], [115, 117, 109, 115], [114, 97, 110, 107, 115], [116, 111, 116, 97, 108], [115, 111, 114, 116], [114, 101, 118], [110, 101, 103], [97, 98, 115]] (by decide)
   have hw3b : w3.length ≤ 5 := by have hall : ∀ x ∈ ([[115, 111, 114, 116], [114, 101, 118], [110, 101, 103], [97, 98, 115], [100, 105, 102, 102], [115, 117, 109, 115], [114, 97, 110, 107, 115], [116, 111, 116, 97, 108], [115, 111, 114, 116], [114, 101, 118], [110, 101, 103], [97, 98, 115]] : List W8), x.length ≤ 5 := (by decide); exact hall _ hw3
   apply xC rfl
   ·apply A6
    ·exact H1 rfl (by decide) rfl
    apply A6
    ·exact G4 rfl rfl (by (simp; done)) (fun _ => rfl)
    exact B8
   ·exact hC10
   refine ⟨⟨rfl, rfl, rfl, dT rfl, rfl⟩, .inl rfl, D5 rfl rfl rfl B0, B9 rfl, fun _ => rfl, fun g66 => ?_⟩
   refine M8 rfl rfl (by simp only [G9, List.length_append, List.length_cons, List.length_nil]; omega) <| y_M rfl <| y_M rfl <| K6 rfl rfl (C1 (by omega)) ?_
   obtain ⟨_, _, ⟨x3, q3, rfl, rfl, hx31, hx32, hx33⟩, hC11⟩ := ih bs (p + 1 + 1 + 1) d1 hbs hl (by omega) (by omega) (by omega)
   rw [show ((d1 + 1 : Nat) : Int) - 1 = (d1 : Int) by omega]
   apply xC rfl
   ·apply A6
    ·exact H1 rfl (by decide) rfl
    apply A6
    ·exact B6 rfl
    exact B8
   ·exact hC11
   refine ⟨⟨rfl, rfl, rfl, dT rfl, rfl⟩, .inl rfl, D5 rfl rfl rfl B0, B9 rfl, fun _ => rfl, fun g71 => ?_⟩
   refine M8 rfl rfl (by simp only [G9, List.length_append, List.length_cons, List.length_nil]; omega) <| y_S rfl <| xN [4] [0] rfl <| B1 ?_
   refine ⟨_, _, ?_, I6 rfl rfl (H6 rfl rfl)⟩
   exact ⟨_, _, rfl, rfl, by omega, by omega, by (simp only [List.length_append, List.length_cons, List.length_nil]; omega)⟩
  refine gF rfl rfl <| gF rfl rfl <| E8 rfl (by assumption) rfl rfl <| xN [0,1,15] [0] rfl ?_
  refine A5 rfl (fun hc => ?_) (fun hc => absurd hc (by decide))
  refine A3 <| A3 <| A0 <| y_M rfl ?_
  obtain ⟨_, _, ⟨k1, rfl, rfl, hk1, -⟩, hC1⟩ := P2 (oG := oG) bs (p) hbs hl (by omega) (2) (by omega)
  have hk1 := hk1 (by omega)
  apply xC rfl
  ·apply A6
   ·exact H1 rfl (by decide) rfl
   apply A6
   ·exact B6 rfl
   exact B8
  ·exact hC1
  refine ⟨⟨rfl, rfl, rfl, dT rfl, rfl⟩, .inl rfl, D5 rfl rfl rfl B0, B9 rfl, fun _ => rfl, fun g17 => ?_⟩
  refine L0 rfl rfl <| xN [0,18] [0] rfl ?_
  refine A5 rfl ?_ ?_ <;> intro hc <;> try simp only [SL] at hc
  ·refine A3 <| A0 <| y_M rfl <| B3 (es := List.map tV [[97], [98], [97], [99], [100]]) rfl rfl (dT rfl) rfl rfl (fun _ => B2 (A7 fun _ => rfl)) (fun _ => rfl) ?_
   intro g20
   obtain ⟨_, _, ⟨w1, rfl, rfl, hw1⟩, hC2⟩ := a6l (oG := oG) bs (p + 1) hbs hl (by omega) [[97], [98], [97], [99], [100]] (by decide)
   have hw1b : w1.length ≤ 1 := by have hall : ∀ x ∈ ([[97], [98], [97], [99], [100]] : List W8), x.length ≤ 1 := (by decide); exact hall _ hw1
   apply xC rfl
   ·apply A6
    ·exact H1 rfl (by decide) rfl
    apply A6
    ·exact G4 rfl rfl (by (simp; done)) (fun _ => rfl)
    exact B8
   ·exact hC2
   refine ⟨⟨rfl, rfl, rfl, dT rfl, rfl⟩, .inl rfl, D5 rfl rfl rfl B0, B9 rfl, fun _ => rfl, fun g21 => ?_⟩
   refine y_S rfl <| xN [4] [0] rfl <| B1 ?_
   refine ⟨_, _, ?_, I6 rfl rfl (H6 rfl rfl)⟩
   exact ⟨_, _, rfl, rfl, by omega, by omega, by omega⟩
  refine A9 <| A3 <| A0 <| B3 (es := List.map iV []) rfl rfl (dT rfl) rfl rfl (fun _ => B2 (A7 fun _ => rfl)) (fun _ => rfl) ?_
  intro g22
  (refine xO rfl rfl (by simp) rfl (fun _ => rfl) (fun _ => rfl) ?_; intro g5)
  refine xN [0,5] [0,5] rfl <| A3 <| A3 <| A0 <| y_M rfl <| B3 (es := List.map iV [2, 3, 1, 0, 4]) rfl rfl (dT rfl) rfl rfl (fun _ => B2 (A7 fun _ => rfl)) (fun _ => rfl) ?_
  intro g24
  obtain ⟨_, _, ⟨n1, rfl, rfl, hn1⟩, hC3⟩ := b2y (oG := oG) bs (p + 1) hbs hl (by omega) [2, 3, 1, 0, 4] (by decide)
  have hn1b : 0 ≤ n1 ∧ n1 ≤ 4 := by simp at hn1; omega
  apply xC rfl
  ·apply A6
   ·exact H1 rfl (by decide) rfl
   apply A6
   ·exact G4 rfl rfl (by (simp; done)) (fun _ => rfl)
   exact B8
  ·exact hC3
  refine ⟨⟨rfl, rfl, rfl, dT rfl, rfl⟩, .inl rfl, D5 rfl rfl rfl B0, B9 rfl, fun _ => rfl, fun g25 => ?_⟩
  refine y_S rfl <| xN [0,5,6] [0,5] rfl <| B7 <| F5 (β := List Int × Nat × Int) [(.t 0, _), (.t 6, _)] (fun (z : List Int × Nat × Int) => match z with | (xs, g, q) => [(.h 0, .obj 1 4 0 [rdr bs q]), (.t 5, .sl 5 g none 0 xs.length), (.h 5, .obj g 0 1 (xs.map iV))]) (fun (z : List Int × Nat × Int) => match z with | (xs, g, q) => (xs.length : Int) ≤ n1 ∧ p ≤ q ∧ q ≤ p + 4 + xs.length ∧ ∀ x ∈ xs, -20 ≤ x ∧ x ≤ 20) (fun (z : List Int × Nat × Int) => match z with | (xs, g, q) => 5 - xs.length) ([], _, _) ⟨rfl, rfl, rfl, rfl, rfl, trivial⟩ ⟨by simp; omega, by omega, by omega, by simp⟩ ?_
  intro z hb
  obtain ⟨xs, g, q⟩ := z
  try dsimp only at hb
  obtain ⟨hx1, hq1, hq2, hxb⟩ := hb
  refine A3 <| A3 <| A0 <| y_M rfl <| G8 rfl rfl <| y_M rfl <| H4 rfl rfl <| xN [0,5,6,29] [0,5] rfl ?_
  refine A5 rfl ?_ ?_ <;> intro hc <;> try simp only [SL] at hc
  ·refine A9 <| B7 <| A0 <| y_M rfl <| y_M rfl ?_
   obtain ⟨_, _, ⟨k2, rfl, rfl, hk2, -⟩, hC4⟩ := P2 (oG := oG) bs (q) hbs hl (by omega) (41) (by omega)
   have hk2 := hk2 (by omega)
   apply xC rfl
   ·apply A6
    ·exact H1 rfl (by decide) rfl
    apply A6
    ·exact B6 rfl
    exact B8
   ·exact hC4
   refine ⟨⟨rfl, rfl, rfl, dT rfl, rfl⟩, .inl rfl, D5 rfl rfl rfl B0, B9 rfl, fun _ => rfl, fun g32 => ?_⟩
   refine K6 rfl rfl (C1 (by omega)) <| B3 (es := List.map iV [k2 - 20]) rfl rfl (dT rfl) rfl rfl (fun _ => B2 (A7 fun _ => rfl)) (fun _ => rfl) ?_
   intro g34
   refine xA rfl rfl rfl rfl (by simp) (by simp) rfl rfl rfl rfl rfl (fun _ => rfl) (by simp only [LN]; omega) (fun _ => rfl) ?_
   intro g35
   (refine xO rfl rfl (by simp) rfl (fun _ => rfl) (fun _ => rfl) ?_; intro g5)
   refine xN [0,5,6] [0,5] rfl ?_
   refine ⟨(xs ++ [k2 - 20], _, q + 1), ?_, (by simp only [List.length_append, List.length_singleton]; omega), ⟨rfl, rfl, rfl, rfl, rfl, trivial⟩⟩
   refine ⟨?_, ?_, ?_, fun x hx => ?_⟩
   ·simp only [List.length_append, List.length_singleton]; omega
   ·omega
   ·simp only [List.length_append, List.length_singleton]; omega
   rcases List.mem_append.1 hx with hx | hx
   ·exact hxb x hx
   rw [List.mem_singleton.1 hx]; omega
  refine F6 <| A3 <| A0 <| y_M rfl ?_
  have hll := Y1 (ns := xs) (fun n hn => by have := hxb n hn; omega)
  apply xC rfl
  ·apply A6
   ·exact E5 rfl rfl rfl (by (simp; done)) (fun _ => rfl)
   exact B8
  ·exact a6a xs (by omega) (fun n hn => by have := hxb n hn; omega)
  refine ⟨⟨rfl, rfl, rfl, dT rfl, rfl⟩, .inr ⟨rfl, rfl⟩, B0, B9 rfl, fun _ => rfl, fun g37 => ?_⟩
  iterate 2 refine M8 rfl rfl (by simp only [G9, List.length_append, List.length_cons, List.length_nil]; omega) ?_
  refine y_S rfl <| xN [4] [0] rfl <| B1 ?_
  refine ⟨_, _, ?_, I6 rfl rfl (H6 rfl rfl)⟩
  exact ⟨_, _, rfl, rfl, by omega, by omega, by (simp only [List.length_append, List.length_cons, List.length_nil]; omega)⟩

theorem b4y : F3 Tryz.f95 = [0, 1, 4, 12, 13, 5, 19, 32, 37] := by kernel_rfl
theorem d0n (bs : List Int) (p : Int) (hbs : a1k bs) (hl : bs.length ≤ 1048576) (hp : 0 ≤ p ∧ p ≤ 100000000) (s : W8) (hs : s.length ≤ 100000) : ∃ res outs, (fun res outs => ∃ (x : W8) (q : Int), res = tV x ∧ outs = [[rdr bs q]] ∧ p ≤ q ∧ q ≤ p + 10 ∧ x.length ≤ s.length + 10) res outs ∧ CW (cxT oG) 95 [.ownp [rdr bs p] 0 0, tV s] = some (res, outs) := by
 refine M3 rfl Tryz.func95 rfl ⟨by kernel_rfl, rfl, dT rfl, dT rfl, by decide⟩ b4y <| A3 <| A0 <| y_S rfl <| xN [0,1] [0] rfl <| A3 <| A0 <| y_M rfl <| y_M rfl <| a2u rfl rfl <| F8 rfl rfl (C1 (by omega)) ?_
 obtain ⟨_, _, ⟨k0, rfl, rfl, hk0, -⟩, hC0⟩ := P2 (oG := oG) bs (p) hbs hl (by omega) (s.length + 1) (by omega)
 have hk0 := hk0 (by omega)
 apply xC rfl
 ·apply A6
  ·exact H1 rfl (by decide) rfl
  apply A6
  ·exact B6 rfl
  exact B8
 ·exact hC0
 refine ⟨⟨rfl, rfl, rfl, dT rfl, rfl⟩, .inl rfl, D5 rfl rfl rfl B0, B9 rfl, fun _ => rfl, fun g10 => ?_⟩
 refine y_S rfl <| xN [0,1,5] [0] rfl <| A3 <| A3 <| A0 <| y_M rfl ?_
 obtain ⟨_, _, ⟨k1, rfl, rfl, hk1, -⟩, hC1⟩ := P2 (oG := oG) bs (p + 1) hbs hl (by omega) (5) (by omega)
 have hk1 := hk1 (by omega)
 apply xC rfl
 ·apply A6
  ·exact H1 rfl (by decide) rfl
  apply A6
  ·exact B6 rfl
  exact B8
 ·exact hC1
 refine ⟨⟨rfl, rfl, rfl, dT rfl, rfl⟩, .inl rfl, D5 rfl rfl rfl B0, B9 rfl, fun _ => rfl, fun g12 => ?_⟩
 refine xN [0,1,5,12] [0] rfl <| B7 <| A3 <| A3 <| A0 <| L0 rfl rfl <| y_S rfl <| xN [0,1,5,12,13] [0] rfl ?_
 refine A5 rfl ?_ ?_ <;> intro hc <;> try simp only [SL] at hc
 ·refine A9 ?_
  refine A5 rfl (fun hc => ?_) (fun hc => absurd hc (by simp_all))
  refine A3 <| A0 <| y_M rfl <| y_M rfl <| a2u rfl rfl <| H4 rfl rfl <| xN [0,1,5,19] [0] rfl ?_
  refine A5 rfl ?_ ?_ <;> intro hc <;> try simp only [SL] at hc
  ·refine A3 <| A0 <| y_M rfl <| y_M rfl <| T2 rfl rfl (O6 rfl (by omega)) I2 (by omega) <| y_M rfl <| B3 (es := List.map tV [[48], [49], [97], [44], [45], [93], [32]]) rfl rfl (dT rfl) rfl rfl (fun _ => B2 (A7 fun _ => rfl)) (fun _ => rfl) ?_
   intro g24
   obtain ⟨_, _, ⟨w1, rfl, rfl, hw1⟩, hC2⟩ := a6l (oG := oG) bs (p + 1 + 1) hbs hl (by omega) [[48], [49], [97], [44], [45], [93], [32]] (by decide)
   have hw1b : w1.length ≤ 1 := by have hall : ∀ x ∈ ([[48], [49], [97], [44], [45], [93], [32]] : List W8), x.length ≤ 1 := (by decide); exact hall _ hw1
   apply xC rfl
   ·apply A6
    ·exact H1 rfl (by decide) rfl
    apply A6
    ·exact G4 rfl rfl (by (simp; done)) (fun _ => rfl)
    exact B8
   ·exact hC2
   refine ⟨⟨rfl, rfl, rfl, dT rfl, rfl⟩, .inl rfl, D5 rfl rfl rfl B0, B9 rfl, fun _ => rfl, fun g25 => ?_⟩
   refine M8 rfl rfl (by simp only [G9, List.length_append, List.length_take, List.length_drop]; omega) <| y_M rfl <| y_M rfl <| F8 rfl rfl (C1 (by omega)) <| T2 rfl rfl I2 (O6 rfl (by omega)) (by omega) <| M8 rfl rfl (by simp only [G9, List.length_append, List.length_take, List.length_drop]; omega) <| y_S rfl ?_
   refine K4 ⟨fun _ => ⟨by (simp only [a2z, List.nil_append, List.append_nil, List.map_cons, List.map_nil, List.cons_append]; decide +kernel), by decide +kernel⟩, [(.t 4, _), (.h 0, _)], ⟨rfl, rfl, rfl, rfl, trivial⟩, ?_⟩
   refine B1 ?_
   refine ⟨_, _, ?_, I6 rfl rfl (H6 rfl rfl)⟩
   exact ⟨_, _, rfl, rfl, by omega, by omega, by (simp only [List.length_append, List.length_cons, List.length_nil, List.length_take, List.length_drop]; omega)⟩
  refine A9 <| A3 <| A0 <| y_M rfl <| y_S rfl <| xN [4] [0] rfl <| B1 ?_
  refine ⟨_, _, ?_, I6 rfl rfl (H6 rfl rfl)⟩
  exact ⟨_, _, rfl, rfl, by omega, by omega, by omega⟩
 refine A0 <| L0 rfl rfl <| y_S rfl <| xN [0,1,5,12,13] [0] rfl ?_
 refine A5 rfl ?_ ?_ <;> intro hc <;> try simp only [SL] at hc
 ·refine A3 <| A0 <| y_M rfl <| y_M rfl <| a2u rfl rfl <| H4 rfl rfl <| xN [0,1,5,19] [0] rfl ?_
  refine A5 rfl ?_ ?_ <;> intro hc <;> try simp only [SL] at hc
  ·refine A3 <| A0 <| y_M rfl <| y_M rfl <| T2 rfl rfl (O6 rfl (by omega)) I2 (by omega) <| y_M rfl <| B3 (es := List.map tV [[48], [49], [97], [44], [45], [93], [32]]) rfl rfl (dT rfl) rfl rfl (fun _ => B2 (A7 fun _ => rfl)) (fun _ => rfl) ?_
   intro g24
   obtain ⟨_, _, ⟨w1, rfl, rfl, hw1⟩, hC2⟩ := a6l (oG := oG) bs (p + 1 + 1) hbs hl (by omega) [[48], [49], [97], [44], [45], [93], [32]] (by decide)
   have hw1b : w1.length ≤ 1 := by have hall : ∀ x ∈ ([[48], [49], [97], [44], [45], [93], [32]] : List W8), x.length ≤ 1 := (by decide); exact hall _ hw1
   apply xC rfl
   ·apply A6
    ·exact H1 rfl (by decide) rfl
    apply A6
    ·exact G4 rfl rfl (by (simp; done)) (fun _ => rfl)
    exact B8
   ·exact hC2
   refine ⟨⟨rfl, rfl, rfl, dT rfl, rfl⟩, .inl rfl, D5 rfl rfl rfl B0, B9 rfl, fun _ => rfl, fun g25 => ?_⟩
   refine M8 rfl rfl (by simp only [G9, List.length_append, List.length_take, List.length_drop]; omega) <| y_M rfl <| y_M rfl <| F8 rfl rfl (C1 (by omega)) <| T2 rfl rfl I2 (O6 rfl (by omega)) (by omega) <| M8 rfl rfl (by simp only [G9, List.length_append, List.length_take, List.length_drop]; omega) <| y_S rfl ?_
   refine K4 ⟨fun _ => ⟨by (simp only [a2z, List.nil_append, List.append_nil, List.map_cons, List.map_nil, List.cons_append]; decide +kernel), by decide +kernel⟩, [(.t 4, _), (.h 0, _)], ⟨rfl, rfl, rfl, rfl, trivial⟩, ?_⟩
   refine B1 ?_
   refine ⟨_, _, ?_, I6 rfl rfl (H6 rfl rfl)⟩
   exact ⟨_, _, rfl, rfl, by omega, by omega, by (simp only [List.length_append, List.length_cons, List.length_nil, List.length_take, List.length_drop]; omega)⟩
  refine A9 <| A3 <| A0 <| y_M rfl <| y_S rfl <| xN [4] [0] rfl <| B1 ?_
  refine ⟨_, _, ?_, I6 rfl rfl (H6 rfl rfl)⟩
  exact ⟨_, _, rfl, rfl, by omega, by omega, by omega⟩
 refine A3 <| A0 <| L0 rfl rfl <| y_S rfl <| xN [0,1,5,12,32] [0] rfl ?_
 refine A5 rfl ?_ ?_ <;> intro hc <;> try simp only [SL] at hc
 ·refine A3 <| A0 <| y_M rfl <| y_M rfl <| T2 rfl rfl (O6 rfl (by omega)) I2 (by omega) <| y_S rfl <| xN [4] [0] rfl <| B1 ?_
  refine ⟨_, _, ?_, I6 rfl rfl (H6 rfl rfl)⟩
  exact ⟨_, _, rfl, rfl, by omega, by omega, by (simp only [List.length_append, List.length_cons, List.length_nil, List.length_take, List.length_drop]; omega)⟩
 refine A3 <| A0 <| L0 rfl rfl <| y_S rfl <| xN [0,1,37] [0] rfl ?_
 refine A5 rfl ?_ ?_ <;> intro hc <;> try simp only [SL] at hc
 ·refine A3 <| A0 <| y_M rfl <| y_M rfl <| B3 (es := List.map tV [[48], [44], [32], [32, 97]]) rfl rfl (dT rfl) rfl rfl (fun _ => B2 (A7 fun _ => rfl)) (fun _ => rfl) ?_
  intro g41
  obtain ⟨_, _, ⟨w2, rfl, rfl, hw2⟩, hC3⟩ := a6l (oG := oG) bs (p + 1 + 1) hbs hl (by omega) [[48], [44], [32], [32, 97]] (by decide)
  have hw2b : w2.length ≤ 2 := by have hall : ∀ x ∈ ([[48], [44], [32], [32, 97]] : List W8), x.length ≤ 2 := (by decide); exact hall _ hw2
  apply xC rfl
  ·apply A6
   ·exact H1 rfl (by decide) rfl
   apply A6
   ·exact G4 rfl rfl (by (simp; done)) (fun _ => rfl)
   exact B8
  ·exact hC3
  refine ⟨⟨rfl, rfl, rfl, dT rfl, rfl⟩, .inl rfl, D5 rfl rfl rfl B0, B9 rfl, fun _ => rfl, fun g42 => ?_⟩
  refine M8 rfl rfl (by simp only [G9, List.length_append, List.length_cons, List.length_nil]; omega) <| y_S rfl <| xN [4] [0] rfl <| B1 ?_
  refine ⟨_, _, ?_, I6 rfl rfl (H6 rfl rfl)⟩
  exact ⟨_, _, rfl, rfl, by omega, by omega, by (simp only [List.length_append, List.length_cons, List.length_nil, List.length_take, List.length_drop]; omega)⟩
 refine A9 <| A3 <| A0 <| y_M rfl <| y_S rfl <| xN [4] [0] rfl <| B1 ?_
 refine ⟨_, _, ?_, I6 rfl rfl (H6 rfl rfl)⟩
 exact ⟨_, _, rfl, rfl, by omega, by omega, by omega⟩

theorem b0n : F3 Tryz.f55 = [0, 2, 11, 3] := by kernel_rfl
theorem c3o (bs : List Int) (p : Int) (hbs : a1k bs) (hl : bs.length ≤ 1048576) (hp : 0 ≤ p ∧ p ≤ 1000000) : ∃ res outs, (fun res outs => ∃ (x : W8) (q : Int), res = tV x ∧ outs = [[rdr bs q]] ∧ p ≤ q ∧ q ≤ p + 3000 ∧ x.length ≤ 5000) res outs ∧ CW (cxT oG) 55 [.ownp [rdr bs p] 0 0] = some (res, outs) := by
 refine M3 rfl Tryz.func55 rfl ⟨by kernel_rfl, rfl, dT rfl, dT rfl, by decide⟩ b0n <| A3 <| A0 <| y_S rfl <| xN [0] [0] rfl <| A3 <| A0 <| y_M rfl <| y_M rfl <| B3 (es := List.map iV [3, 4, 2, 5, 1, 0]) rfl rfl (dT rfl) rfl rfl (fun _ => B2 (A7 fun _ => rfl)) (fun _ => rfl) ?_
 intro g6
 obtain ⟨_, _, ⟨k0, rfl, rfl, hk0⟩, hC0⟩ := b2y (oG := oG) bs (p) hbs hl (by omega) [3, 4, 2, 5, 1, 0] (by decide)
 have hk0b : 0 ≤ k0 ∧ k0 ≤ 5 := by simp at hk0; omega
 obtain ⟨d, rfl⟩ : ∃ d : Nat, k0 = d := ⟨k0.toNat, by omega⟩
 have hgm := d2z (d := d) (by omega)
 have hlm := c5g (d := d) (by omega)
 have hgp := b6y d
 apply xC rfl
 ·apply A6
  ·exact H1 rfl (by decide) rfl
  apply A6
  ·exact G4 rfl rfl (by (simp; done)) (fun _ => rfl)
  exact B8
 ·exact hC0
 refine ⟨⟨rfl, rfl, rfl, dT rfl, rfl⟩, .inl rfl, D5 rfl rfl rfl B0, B9 rfl, fun _ => rfl, fun g7 => ?_⟩
 obtain ⟨_, _, ⟨x, q, rfl, rfl, hx1, hx2, hx3⟩, hC1⟩ := c4t (oG := oG) bs (p + 1) d hbs hl (by omega) (by omega)
 apply xC rfl
 ·apply A6
  ·exact H1 rfl (by decide) rfl
  apply A6
  ·exact B6 rfl
  exact B8
 ·exact hC1
 refine ⟨⟨rfl, rfl, rfl, dT rfl, rfl⟩, .inl rfl, D5 rfl rfl rfl B0, B9 rfl, fun _ => rfl, fun g8 => ?_⟩
 refine y_S rfl <| xN [0,3] [0] rfl <| A3 <| A3 <| A0 <| y_M rfl ?_
 obtain ⟨_, _, ⟨k1, rfl, rfl, hk1, -⟩, hC2⟩ := P2 (oG := oG) bs (q) hbs hl (by omega) (16) (by omega)
 have hk1 := hk1 (by omega)
 apply xC rfl
 ·apply A6
  ·exact H1 rfl (by decide) rfl
  apply A6
  ·exact B6 rfl
  exact B8
 ·exact hC2
 refine ⟨⟨rfl, rfl, rfl, dT rfl, rfl⟩, .inl rfl, D5 rfl rfl rfl B0, B9 rfl, fun _ => rfl, fun g10 => ?_⟩
 refine L0 rfl rfl <| xN [0,3,11] [0] rfl ?_
 refine A5 rfl ?_ ?_ <;> intro hc <;> try simp only [SL] at hc
 ·refine A0 <| y_M rfl <| y_M rfl ?_
  obtain ⟨_, _, ⟨y, q2, rfl, rfl, hy1, hy2, hy3⟩, hC3⟩ := d0n (oG := oG) bs (q + 1) hbs hl (by omega) x (by omega)
  apply xC rfl
  ·apply A6
   ·exact H1 rfl (by decide) rfl
   apply A6
   ·exact B6 rfl
   exact B8
  ·exact hC3
  refine ⟨⟨rfl, rfl, rfl, dT rfl, rfl⟩, .inl rfl, D5 rfl rfl rfl B0, B9 rfl, fun _ => rfl, fun g14 => ?_⟩
  refine y_S rfl <| xN [3] [0] rfl <| A3 <| A0 <| y_M rfl <| y_S rfl <| xN [2] [0] rfl <| B1 ?_
  refine ⟨_, _, ?_, I6 rfl rfl (H6 rfl rfl)⟩
  exact ⟨_, _, rfl, rfl, by omega, by omega, by omega⟩
 refine A9 <| A3 <| A0 <| y_M rfl <| y_S rfl <| xN [2] [0] rfl <| B1 ?_
 refine ⟨_, _, ?_, I6 rfl rfl (H6 rfl rfl)⟩
 exact ⟨_, _, rfl, rfl, by omega, by omega, by omega⟩

theorem b8x : F3 Tryz.f112 = [0, 2] := by kernel_rfl
theorem c5f (xs : List Int) (hx : xs.length ≤ G9) : CW (cxT oG) 112 [.own 1 (xs.map iV)] = some (.own 1 (xs.map iV), []) := by
 refine F0 rfl Tryz.func112 rfl ⟨by kernel_rfl, rfl, dT rfl, dT rfl, by decide⟩ b8x <| A3 <| A0 ?_
 (refine A8 rfl rfl (fun _ => rfl) ?_; intro g2)
 refine xN [0] [0] rfl <| A3 <| A0 <| y_M rfl <| y_M rfl <| G8 rfl rfl <| y_M rfl <| G8 rfl rfl ?_
 refine d5d rfl rfl rfl rfl rfl rfl (fun hz => ?_) (fun hz => ?_)
 ·skip
  (refine A8 rfl rfl (fun _ => rfl) ?_; intro g2)
  refine xN [2] [0,2] rfl <| B1 <| J9 rfl rfl (by (simp; done)) (by rfl) trivial ?_
  (have h0 : xs = [] := (by simpa using hz); subst h0; rfl)
 skip
 (refine xO rfl rfl (by simp) rfl (fun _ => rfl) (fun _ => rfl) ?_; intro g2)
 refine xN [2] [0,2] rfl <| B1 <| J9 rfl rfl (by (simp; done)) (by exact A7 fun _ => rfl) trivial ?_
 rfl

theorem b7j : F3 Tryz.f105 = [0, 2] := by kernel_rfl
theorem c6q (x : List Int) (hl : x.length ≤ 1048576) : CW (cxT oG) 105 [L x] = some (.own 1 (x.map iV), []) := by
 refine F0 rfl Tryz.func105 rfl ⟨by kernel_rfl, rfl, dT rfl, dT rfl, by decide⟩ b7j <| A3 <| A0 ?_
 (refine A8 rfl rfl (fun _ => rfl) ?_; intro g2)
 refine xN [0] [] rfl <| A3 <| A0 <| y_M rfl ?_
 apply xC rfl
 ·apply A6
  ·exact B6 rfl
  exact B8
 ·exact c6j x (by simp only [G9]; omega)
 refine ⟨⟨rfl, rfl, rfl, dT rfl, rfl⟩, .inl rfl, B0, H9, fun _ => rfl, fun g4 => ?_⟩
 simp only [List.length_map]
 apply xC rfl
 ·apply A6
  ·exact c5x rfl rfl (by (simp; done)) (A7 fun _ => rfl)
  exact B8
 ·exact c5f x (by simp only [G9]; omega)
 refine ⟨⟨rfl, rfl, rfl, dT rfl, rfl⟩, .inl rfl, B0, H9, fun _ => rfl, fun g5 => ?_⟩
 simp only [List.length_map]
 (refine xO rfl rfl (by simp) rfl (fun _ => rfl) (fun _ => rfl) ?_; intro g2)
 refine xN [2] [2] rfl <| B1 <| J9 rfl rfl (by simp) (by exact A7 fun _ => rfl) trivial ?_
 rfl

theorem b3r : F3 Tryz.f126 = [0, 2, 4, 10, 5, 3, 27] := by kernel_rfl
theorem c8t (xs : List Int) (hl : xs.length ≤ 1000) : CW (cxT oG) 126 [L xs] = some (.own 1 ((S6 xs).map iV), []) := by
 refine F0 rfl Tryz.func126 rfl ⟨by kernel_rfl, rfl, dT rfl, dT rfl, by decide⟩ b3r <| A3 <| A0 ?_
 (refine A8 rfl rfl (fun _ => rfl) ?_; intro g2)
 refine xN [0] [] rfl <| A3 <| A0 <| B3 (es := List.map iV []) rfl rfl (dT rfl) rfl rfl (fun _ => B2 (A7 fun _ => rfl)) (fun _ => rfl) ?_
 intro g6
 (refine xO rfl rfl (by simp) rfl (fun _ => rfl) (fun _ => rfl) ?_; intro g3)
 refine xN [0,3] [3] rfl <| A3 <| A3 <| A0 <| y_S rfl <| xN [0,3,4] [3] rfl <| B7 <| F5 (β := Nat × List Int × Nat) [(.t 0, _)] (fun (z : Nat × List Int × Nat) => match z with | (i, out, g) => [(.t 4, iV i), (.t 3, .sl 3 g none 0 out.length), (.h 3, .obj g 0 1 (out.map iV))]) (fun (z : Nat × List Int × Nat) => match z with | (i, out, g) => i ≤ xs.length ∧ out = S6 (xs.take i)) (fun (z : Nat × List Int × Nat) => match z with | (i, out, g) => xs.length - i) (0, [], _) ⟨rfl, rfl, rfl, rfl, trivial⟩ ⟨Nat.zero_le _, rfl⟩ ?_
 intro z hb
 obtain ⟨i, out, g⟩ := z
 try dsimp only at hb
 obtain ⟨hi1, hi2⟩ := hb
 have hol : out.length = i := by rw [hi2, a2i, List.length_take]; omega
 refine A3 <| A3 <| A0 <| y_M rfl <| y_M rfl <| C9 rfl rfl <| H4 rfl rfl <| xN [0,3,4,10] [3] rfl ?_
 refine A5 rfl ?_ ?_ <;> intro hc <;> try simp only [SL] at hc
 ·refine A9 <| A3 <| B7 <| A3 <| A0 <| y_S rfl <| xN [0,3,4,5] [3] rfl <| A3 <| B7 <| F5 (β := Nat) [(.t 0, _), (.t 3, _), (.t 4, _), (.h 3, _)] (fun (k : Nat) => [(.t 5, iV k)]) (fun (k : Nat) => k ≤ out.length ∧ ∀ j, j < k → out.getD j default ≤ xs.getD i default) (fun (k : Nat) => out.length - k) 0 ⟨rfl, rfl, rfl, rfl, rfl, trivial⟩ ⟨Nat.zero_le _, fun j h => by omega⟩ ?_
  intro k hb
  obtain ⟨hk1, hk2⟩ := hb
  refine A3 <| A3 <| A0 <| y_M rfl <| y_M rfl <| G8 rfl rfl <| H4 rfl rfl <| y_M rfl ?_
  refine C6 rfl rfl ?_ ?_ <;> intro hg0 <;> have hg := hg0 <;> try simp only [SG] at hg
  ·refine y_M rfl <| gT rfl rfl <| y_M rfl <| gT rfl rfl <| D9 rfl rfl rfl rfl (by omega) (by (simp; done)) rfl <| gT rfl rfl <| G3 rfl rfl (by omega) (fun _ => rfl) (fun _ => rfl) rfl <| gT rfl rfl <| y_M rfl <| gT rfl rfl <| y_M rfl <| gT rfl rfl <| B5 rfl rfl rfl (fun _ => rfl) (by omega) <| gT rfl rfl <| y_I rfl <| gT rfl rfl <| a7o rfl rfl <| E8 rfl (by assumption) rfl rfl ?_
   refine K4 ⟨fun _ => ⟨by decide +kernel, by decide +kernel⟩, [(.t 0, _), (.t 3, _), (.t 4, _), (.t 5, _), (.t 27, _), (.h 3, _)], ⟨rfl, rfl, rfl, rfl, rfl, rfl, rfl, rfl, rfl, rfl, rfl, rfl, trivial⟩, ?_⟩
   refine A5 rfl ?_ ?_ <;> intro hc <;> try simp only [SL] at hc
   ·refine A9 <| B7 <| A0 <| y_M rfl <| F8 rfl rfl (C1 (by omega)) <| y_S rfl <| xN [0,3,4,5] [3] rfl ?_
    refine ⟨k + 1, ⟨by omega, fun a ha => by rcases Nat.lt_succ_iff_lt_or_eq.1 ha with h | h; exact hk2 a h; subst h; exact hc⟩, (by omega), ⟨rfl, rfl, rfl, rfl, rfl, trivial⟩⟩
   refine F6 <| A0 <| B3 (es := List.map iV []) rfl rfl (dT rfl) rfl rfl (fun _ => B2 (A7 fun _ => rfl)) (fun _ => rfl) ?_
   intro g30
   refine y_M rfl <| y_M rfl <| X0 rfl rfl rfl (G0 rfl) (by omega) rfl <| N0 rfl rfl rfl rfl (by decide) rfl (by (simp; done)) (by omega) rfl rfl rfl (dT rfl) (fun _ => ⟨rfl, rfl, rfl⟩) (by simp only [G9]; (simp only [List.length_nil, List.length_cons, List.length_append, Nat.zero_add, List.length_map]; omega)) (fun _ => rfl) ?_
   intro g34
   refine y_M rfl <| y_M rfl <| B5 rfl rfl rfl (fun _ => rfl) (by omega) <| y_I rfl <| B3 (es := List.map iV [_]) rfl rfl (dT rfl) rfl rfl (fun _ => B2 (A7 fun _ => rfl)) (fun _ => rfl) ?_
   intro g39
   refine L7 rfl rfl rfl rfl (by (simp; done)) (by simp) (by decide) rfl rfl rfl rfl (dT rfl) (fun _ => ⟨rfl, rfl⟩) (by simp only [G9]; (simp; omega)) (fun _ => rfl) ?_
   intro g40
   refine y_M rfl <| y_M rfl <| a1d rfl rfl rfl I2 (G0 rfl) (by omega) rfl <| N0 rfl rfl rfl rfl (by decide) rfl (by (simp; done)) (by omega) rfl rfl rfl (dT rfl) (fun _ => ⟨rfl, rfl, rfl⟩) (by simp only [G9]; (simp; omega)) (fun _ => rfl) ?_
   intro g44
   (refine xO rfl rfl (by simp) rfl (fun _ => rfl) (fun _ => rfl) ?_; intro g3)
   refine K4 ⟨fun _ => ⟨by decide +kernel, by decide +kernel⟩, [(.t 0, _), (.t 3, _), (.t 4, _), (.h 3, _)], ⟨rfl, rfl, rfl, rfl, rfl, rfl, rfl, rfl, trivial⟩, ?_⟩
   refine A0 <| y_M rfl <| F8 rfl rfl (C1 (by omega)) <| y_S rfl <| xN [0,3,4] [3] rfl ?_
   refine ⟨(i + 1, _, _), ?_, (by simp only; omega), ⟨rfl, rfl, rfl, rfl, trivial⟩⟩
   exact ⟨by omega, by rw [b3p (by omega), ← hi2]; exact a8z (hi2 ▸ V7 _) hk1 hk2 fun h => by omega⟩
  iterate 8 refine gF rfl rfl ?_
  refine F4 rfl (by assumption) rfl rfl ?_
  refine K4 ⟨fun _ => ⟨by decide +kernel, by decide +kernel⟩, [(.t 0, _), (.t 3, _), (.t 4, _), (.t 5, _), (.t 27, _), (.h 3, _)], ⟨rfl, rfl, rfl, rfl, rfl, rfl, rfl, rfl, rfl, rfl, rfl, rfl, trivial⟩, ?_⟩
  refine A5 rfl (fun hc => absurd hc (by decide)) (fun hc => ?_)
  refine F6 <| A0 <| B3 (es := List.map iV []) rfl rfl (dT rfl) rfl rfl (fun _ => B2 (A7 fun _ => rfl)) (fun _ => rfl) ?_
  intro g30
  refine y_M rfl <| y_M rfl <| X0 rfl rfl rfl (G0 rfl) (by omega) rfl <| N0 rfl rfl rfl rfl (by decide) rfl (by (simp; done)) (by omega) rfl rfl rfl (dT rfl) (fun _ => ⟨rfl, rfl, rfl⟩) (by simp only [G9]; (simp only [List.length_nil, List.length_cons, List.length_append, Nat.zero_add, List.length_map]; omega)) (fun _ => rfl) ?_
  intro g34
  refine y_M rfl <| y_M rfl <| B5 rfl rfl rfl (fun _ => rfl) (by omega) <| y_I rfl <| B3 (es := List.map iV [_]) rfl rfl (dT rfl) rfl rfl (fun _ => B2 (A7 fun _ => rfl)) (fun _ => rfl) ?_
  intro g39
  refine L7 rfl rfl rfl rfl (by (simp; done)) (by simp) (by decide) rfl rfl rfl rfl (dT rfl) (fun _ => ⟨rfl, rfl⟩) (by simp only [G9]; (simp; omega)) (fun _ => rfl) ?_
  intro g40
  refine y_M rfl <| y_M rfl <| a1d rfl rfl rfl I2 (G0 rfl) (by omega) rfl <| N0 rfl rfl rfl rfl (by decide) rfl (by (simp; done)) (by omega) rfl rfl rfl (dT rfl) (fun _ => ⟨rfl, rfl, rfl⟩) (by simp only [G9]; (simp; omega)) (fun _ => rfl) ?_
  intro g44
  (refine xO rfl rfl (by simp) rfl (fun _ => rfl) (fun _ => rfl) ?_; intro g3)
  refine K4 ⟨fun _ => ⟨by decide +kernel, by decide +kernel⟩, [(.t 0, _), (.t 3, _), (.t 4, _), (.h 3, _)], ⟨rfl, rfl, rfl, rfl, rfl, rfl, rfl, rfl, trivial⟩, ?_⟩
  refine A0 <| y_M rfl <| F8 rfl rfl (C1 (by omega)) <| y_S rfl <| xN [0,3,4] [3] rfl ?_
  refine ⟨(i + 1, _, _), ?_, (by simp only; omega), ⟨rfl, rfl, rfl, rfl, trivial⟩⟩
  exact ⟨by omega, by rw [b3p (by omega), ← hi2]; exact a8z (hi2 ▸ V7 _) hk1 hk2 fun h => by omega⟩
 refine F6 <| A3 <| A0 <| y_M rfl ?_
 (refine xO rfl rfl (by simp) rfl (fun _ => rfl) (fun _ => rfl) ?_; intro g2)
 refine xN [2] [2] rfl <| B1 <| J9 rfl rfl (by simp) (by exact A7 fun _ => rfl) trivial ?_
 rw [hi2, List.take_of_length_le (by omega)]

theorem c0d : F3 Tryz.f110 = [0, 2, 8, 7, 9, 6, 5, 3] := by kernel_rfl
theorem d5r (x : List Int) (hv : vl x = true) : CW (cxT oG) 110 [L x] = some (iV x.sum, []) := by
 have hx40 := (Q8.1 hv).1
 have hgb := a0i hv
 refine F0 rfl Tryz.func110 rfl ⟨by kernel_rfl, rfl, dT rfl, dT rfl, by decide⟩ c0d <| A3 <| A0 <| y_S rfl <| xN [0] [] rfl <| A3 <| A0 <| y_S rfl <| xN [0,3] [] rfl <| A3 <| A3 <| A0 <| y_M rfl <| C9 rfl rfl <| y_M rfl <| xN [3,6,7,8] [] rfl <| B7 <| F5 (β := Nat × Int) [(.t 6, _), (.t 7, _)] (fun (z : Nat × Int) => match z with | (i, a) => [(.t 8, iV i), (.t 3, iV a)]) (fun (z : Nat × Int) => match z with | (i, a) => i ≤ x.length ∧ a = prS (H3 x) i) (fun (z : Nat × Int) => match z with | (i, a) => x.length - i) (0, 0) ⟨rfl, rfl, rfl, rfl, trivial⟩ ⟨Nat.zero_le _, rfl⟩ ?_
 intro z hb
 obtain ⟨i, a⟩ := z
 try dsimp only at hb
 obtain ⟨hi1, ha⟩ := hb
 have hsb := c1o hv i
 have hgi : -100000 ≤ x.getD i default ∧ x.getD i default ≤ 100000 := hgb i
 rw [← ha] at hsb
 refine A3 <| A0 <| H4 rfl rfl <| xN [3,6,7,8,9] [] rfl <| A3 ?_
 refine A5 rfl ?_ ?_ <;> intro hc <;> try simp only [SL] at hc
 ·refine A9 <| A3 <| B7 <| A3 <| A0 <| B5 rfl rfl rfl (fun _ => rfl) (by omega) <| y_I rfl <| y_S rfl <| xN [3,5,6,7,8] [] rfl <| A0 <| y_M rfl <| y_M rfl <| F8 rfl rfl (C1 (by omega)) <| y_S rfl <| xN [3,6,7,8] [] rfl <| A0 <| F8 rfl rfl (C1 (by omega)) <| y_M rfl <| xN [3,6,7,8] [] rfl ?_
  refine ⟨(i + 1, a + x.getD i default), ⟨by omega, by rw [prS, ha]; rfl⟩, (by simp only; omega), ⟨rfl, rfl, rfl, rfl, trivial⟩⟩
 refine F6 <| A3 <| A0 <| y_M rfl <| y_S rfl <| xN [2] [] rfl <| B1 <| C2 rfl rfl trivial ?_
 rw [ha, show i = x.length by omega, b6h]

theorem c1r : F3 Tryz.f129 = [0, 2, 4, 8, 3] := by kernel_rfl
theorem d5t (x : List Int) (hv : vl x = true) : CW (cxT oG) 129 [L x] = some (iV x.sum, []) := by
 have hx40 := (Q8.1 hv).1
 have hgb := a0i hv
 refine F0 rfl Tryz.func129 rfl ⟨by kernel_rfl, rfl, dT rfl, dT rfl, by decide⟩ c1r <| A3 <| A0 <| y_S rfl <| xN [0] [] rfl <| A3 <| A0 <| y_S rfl <| xN [0,3] [] rfl <| A3 <| A3 <| A0 <| y_S rfl <| xN [0,3,4] [] rfl <| B7 <| F5 (β := Nat × Int) [(.t 0, _)] (fun (z : Nat × Int) => match z with | (i, a) => [(.t 4, iV i), (.t 3, iV a)]) (fun (z : Nat × Int) => match z with | (i, a) => i ≤ x.length ∧ a = prS (H3 x) i) (fun (z : Nat × Int) => match z with | (i, a) => x.length - i) (0, 0) ⟨rfl, rfl, rfl, trivial⟩ ⟨Nat.zero_le _, rfl⟩ ?_
 intro z hb
 obtain ⟨i, a⟩ := z
 try dsimp only at hb
 obtain ⟨hi1, ha⟩ := hb
 have hsb := c1o hv i
 have hgi : -100000 ≤ x.getD i default ∧ x.getD i default ≤ 100000 := hgb i
 rw [← ha] at hsb
 refine A3 <| A3 <| A0 <| y_M rfl <| y_M rfl <| C9 rfl rfl <| H4 rfl rfl <| xN [0,3,4,8] [] rfl ?_
 refine A5 rfl ?_ ?_ <;> intro hc <;> try simp only [SL] at hc
 ·refine A9 <| A3 <| B7 <| A0 <| y_M rfl <| y_M rfl <| y_M rfl <| B5 rfl rfl rfl (fun _ => rfl) (by omega) <| y_I rfl <| F8 rfl rfl (C1 (by omega)) <| y_S rfl <| xN [0,3,4] [] rfl <| A0 <| y_M rfl <| F8 rfl rfl (C1 (by omega)) <| y_S rfl <| xN [0,3,4] [] rfl ?_
  refine ⟨(i + 1, a + x.getD i default), ⟨by omega, by rw [prS, ha]; rfl⟩, (by simp only; omega), ⟨rfl, rfl, rfl, trivial⟩⟩
 refine F6 <| A3 <| A0 <| y_M rfl <| y_S rfl <| xN [2] [] rfl <| B1 <| C2 rfl rfl trivial ?_
 rw [ha, show i = x.length by omega, b6h]

theorem b5r : F3 Tryz.f109 = [0, 2, 13, 12, 14, 11, 4, 3, 23, 22, 24, 21, 5, 7, 27, 37] := by kernel_rfl
theorem d0k (x : List Int) (hv : vl x = true) : CW (cxT oG) 109 [L x] = some (.own 1 ((rkI x).map iV), []) := by
 have hx40 := (Q8.1 hv).1
 have hgb := a0i hv
 refine F0 rfl Tryz.func109 rfl ⟨by kernel_rfl, rfl, dT rfl, dT rfl, by decide⟩ b5r <| A3 <| A0 ?_
 (refine A8 rfl rfl (fun _ => rfl) ?_; intro g2)
 refine xN [0] [] rfl <| A3 <| A0 <| y_M rfl <| C9 rfl rfl <| b9m (f := iV) (x0 := 0) rfl rfl rfl rfl rfl (by simp only [G9]; omega) (dT rfl) (fun _ => B2 (by exact A7 fun _ => rfl)) (fun _ => rfl) ?_
 intro g10
 (refine xO rfl rfl (by simp) rfl (fun _ => rfl) (fun _ => rfl) ?_; intro g3)
 refine xN [0,3] [3] rfl <| A3 <| A3 <| A0 <| y_M rfl <| C9 rfl rfl <| y_M rfl <| xN [0,3,11,12,13] [3] rfl <| B7 ?_
 refine F5 (β := Nat × List Int) [(.t 0, _), (.t 3, _), (.t 11, _), (.t 12, _)] (fun (z : Nat × List Int) => match z with | (i, l) => [(.t 13, iV i), (.h 3, .obj g3 0 1 (l.map iV))]) (fun (z : Nat × List Int) => match z with | (i, l) => i ≤ x.length ∧ S5 x.length (fun i => 1 + prS (rkT x (H3 x i)) x.length) (fun _ => 0) i l) (fun (z : Nat × List Int) => match z with | (i, l) => x.length - i) (0, List.replicate x.length 0) ⟨rfl, rfl, rfl, rfl, rfl, rfl, trivial⟩ ⟨Nat.zero_le _, by simp, fun j hj => by rw [if_neg (by omega)]; simp [List.getD_eq_getElem?_getD, hj]⟩ ?_
 intro z hb
 obtain ⟨i, l⟩ := z
 try dsimp only at hb
 obtain ⟨hi1, hf⟩ := hb
 have hfl := hf.1
 refine A3 <| A0 <| H4 rfl rfl <| xN [0,3,11,12,13,14] [3] rfl <| A3 ?_
 refine A5 rfl ?_ ?_ <;> intro hc <;> try simp only [SL] at hc
 ·refine A9 <| A3 <| B7 <| A3 <| A0 <| y_M rfl <| B5 rfl rfl rfl (fun _ => rfl) (by omega) <| y_I rfl <| y_S rfl <| y_S rfl <| xN [0,3,4,5,11,12,13] [3] rfl <| A3 <| A0 <| y_M rfl <| y_M rfl <| D9 rfl rfl rfl rfl (by omega) (by (simp; omega)) rfl <| K5 rfl rfl rfl (by omega) (fun _ _ => ⟨rfl, rfl, dT rfl, dT rfl, rfl, rfl⟩) (by decide) (by exact B2 (A7 fun _ => rfl)) <| xN [0,3,4,5,11,12,13] [3] rfl <| A3 <| A0 <| y_M rfl <| C9 rfl rfl <| y_M rfl <| xN [0,3,4,5,11,12,13,21,22,23] [3] rfl <| B7 <| F5 (β := Nat × List Int) [(.t 0, _), (.t 3, _), (.t 4, _), (.t 5, _), (.t 11, _), (.t 12, _), (.t 13, _), (.t 21, _), (.t 22, _)] (fun (z : Nat × List Int) => match z with | (k, l2) => [(.t 23, iV k), (.h 3, .obj g3 0 1 (l2.map iV))]) (fun (z : Nat × List Int) => match z with | (k, l2) => k ≤ x.length ∧ l2 = l.set i (1 + prS (rkT x (H3 x i)) k)) (fun (z : Nat × List Int) => match z with | (k, l2) => x.length - k) (0, l.set i 1) ⟨rfl, rfl, rfl, rfl, rfl, rfl, rfl, rfl, rfl, rfl, rfl, trivial⟩ ⟨Nat.zero_le _, rfl⟩ ?_
  intro z hb
  obtain ⟨k, l2⟩ := z
  try dsimp only at hb
  obtain ⟨hk1, hl2⟩ := hb
  have hl2l : l2.length = x.length := by rw [hl2]; simp [hfl]
  have hl2i : l2.getD i default = 1 + prS (rkT x (H3 x i)) k := by rw [hl2, a4r _ _ _ _ (by omega), if_pos rfl]
  have hrb := d6k x (H3 x i) k
  refine A3 <| A0 <| H4 rfl rfl <| xN [0,3,4,5,11,12,13,21,22,23,24] [3] rfl <| A3 ?_
  refine A5 rfl ?_ ?_ <;> intro hc <;> try simp only [SL] at hc
  ·refine A9 <| A3 <| B7 <| A3 <| A0 <| B5 rfl rfl rfl (fun _ => rfl) (by omega) <| y_I rfl <| y_S rfl <| xN [0,3,4,5,7,11,12,13,21,22,23] [3] rfl <| B7 <| A3 <| A0 <| y_M rfl <| y_M rfl <| H4 rfl rfl <| y_S rfl <| xN [0,3,4,5,7,11,12,13,21,22,23,27] [3] rfl ?_
   refine A5 rfl ?_ ?_ <;> intro hc <;> try simp only [SL] at hc
   ·refine A0 <| y_M rfl <| y_M rfl <| D9 rfl rfl rfl rfl (by omega) (by (simp; omega)) rfl <| G3 rfl rfl (by omega) (fun _ => rfl) (fun _ => rfl) rfl <| F8 rfl rfl (C1 (by omega)) <| D9 rfl rfl rfl rfl (by omega) (by (simp; omega)) rfl <| K5 rfl rfl rfl (by omega) (fun _ _ => ⟨rfl, rfl, dT rfl, dT rfl, rfl, rfl⟩) (by decide) (by exact B2 (A7 fun _ => rfl)) <| xN [0,3,4,5,11,12,13,21,22,23] [3] rfl <| A0 <| F8 rfl rfl (C1 (by omega)) <| y_M rfl <| xN [0,3,4,5,11,12,13,21,22,23] [3] rfl ?_
    refine ⟨(k + 1, l2.set i (l2.getD i default + 2)), ?_, (by simp only; omega), ⟨rfl, rfl, rfl, rfl, rfl, rfl, rfl, rfl, rfl, rfl, rfl, trivial⟩⟩
    have hrs : prS (rkT x (H3 x i)) (k + 1) = prS (rkT x (H3 x i)) k + rkT x (H3 x i) k := rfl
    exact ⟨by omega, by rw [hl2i, hl2, List.set_set, hrs, rkT, if_pos (by assumption), Int.add_assoc]⟩
   refine A3 <| A0 <| y_M rfl <| y_M rfl <| L0 rfl rfl <| y_S rfl <| xN [0,3,4,5,11,12,13,21,22,23,37] [3] rfl ?_
   refine A5 rfl ?_ ?_ <;> intro hc <;> try simp only [SL] at hc
   ·refine A0 <| y_M rfl <| y_M rfl <| D9 rfl rfl rfl rfl (by omega) (by (simp; omega)) rfl <| G3 rfl rfl (by omega) (fun _ => rfl) (fun _ => rfl) rfl <| F8 rfl rfl (C1 (by omega)) <| D9 rfl rfl rfl rfl (by omega) (by (simp; omega)) rfl <| K5 rfl rfl rfl (by omega) (fun _ _ => ⟨rfl, rfl, dT rfl, dT rfl, rfl, rfl⟩) (by decide) (by exact B2 (A7 fun _ => rfl)) <| xN [0,3,4,5,11,12,13,21,22,23] [3] rfl <| A0 <| F8 rfl rfl (C1 (by omega)) <| y_M rfl <| xN [0,3,4,5,11,12,13,21,22,23] [3] rfl ?_
    refine ⟨(k + 1, l2.set i (l2.getD i default + 1)), ?_, (by simp only; omega), ⟨rfl, rfl, rfl, rfl, rfl, rfl, rfl, rfl, rfl, rfl, rfl, trivial⟩⟩
    have hrs : prS (rkT x (H3 x i)) (k + 1) = prS (rkT x (H3 x i)) k + rkT x (H3 x i) k := rfl
    exact ⟨by omega, by rw [hl2i, hl2, List.set_set, hrs, rkT, if_neg (by unfold H3; omega), if_pos (by assumption), Int.add_assoc]⟩
   refine A9 <| A0 <| F8 rfl rfl (C1 (by omega)) <| y_M rfl <| xN [0,3,4,5,11,12,13,21,22,23] [3] rfl ?_
   refine ⟨(k + 1, l2), ?_, (by simp only; omega), ⟨rfl, rfl, rfl, rfl, rfl, rfl, rfl, rfl, rfl, rfl, rfl, trivial⟩⟩
   have hrs : prS (rkT x (H3 x i)) (k + 1) = prS (rkT x (H3 x i)) k + rkT x (H3 x i) k := rfl
   exact ⟨by omega, by rw [hl2, hrs, rkT, if_neg (by unfold H3; omega), if_neg (by unfold H3; omega), Int.add_zero]⟩
  refine F6 <| A0 <| F8 rfl rfl (C1 (by omega)) <| y_M rfl <| xN [0,3,11,12,13] [3] rfl ?_
  refine ⟨(i + 1, l2), ?_, (by simp only; omega), ⟨rfl, rfl, rfl, rfl, rfl, rfl, trivial⟩⟩
  exact ⟨by omega, by rw [hl2]; exact hf.step (by omega) (by rw [show k = x.length by omega])⟩
 refine F6 <| A3 <| A0 <| y_M rfl ?_
 (refine J0 rfl rfl (by (simp; omega)) rfl (fun _ => (B2 (by exact A7 fun _ => rfl))) (fun _ => rfl) ?_; intro g2)
 refine xN [2] [2] rfl <| B1 <| J9 rfl rfl (by (simp [hfl]; done)) (by exact A7 fun _ => rfl) trivial ?_
 rw [hf.fin (by omega)]
 rfl

theorem b5m : F3 Tryz.f128 = [0, 2, 4, 12, 7, 18, 29, 5, 40, 6, 3] := by kernel_rfl
theorem d1u (x : List Int) (hv : vl x = true) : CW (cxT oG) 128 [L x] = some (.own 1 ((rkI x).map iV), []) := by
 have hx40 := (Q8.1 hv).1
 have hgb := a0i hv
 refine F0 rfl Tryz.func128 rfl ⟨by kernel_rfl, rfl, dT rfl, dT rfl, by decide⟩ b5m <| A3 <| A0 ?_
 (refine A8 rfl rfl (fun _ => rfl) ?_; intro g2)
 refine xN [0] [] rfl <| A3 <| A0 <| B3 (es := List.map iV []) rfl rfl (dT rfl) rfl rfl (fun _ => B2 (A7 fun _ => rfl)) (fun _ => rfl) ?_
 intro g8
 (refine xO rfl rfl (by simp) rfl (fun _ => rfl) (fun _ => rfl) ?_; intro g3)
 refine xN [0,3] [3] rfl <| A3 <| A3 <| A0 <| y_S rfl <| xN [0,3,4] [3] rfl <| B7 <| F5 (β := Nat × List Int × Nat) [(.t 0, _)] (fun (z : Nat × List Int × Nat) => match z with | (i, l, g) => [(.t 4, iV i), (.h 3, .obj g 0 1 (l.map iV)), (.t 3, .sl 3 g none 0 l.length)]) (fun (z : Nat × List Int × Nat) => match z with | (i, l, g) => i ≤ x.length ∧ l = (List.range i).map fun i => 1 + prS (rkT x (H3 x i)) x.length) (fun (z : Nat × List Int × Nat) => match z with | (i, l, g) => x.length - i) (0, [], _) ⟨rfl, rfl, rfl, rfl, trivial⟩ ⟨Nat.zero_le _, rfl⟩ ?_
 intro z hb
 obtain ⟨i, l, g⟩ := z
 try dsimp only at hb
 obtain ⟨hi1, hl⟩ := hb
 have hll : l.length = i := by rw [hl]; simp
 refine A3 <| A3 <| A0 <| y_M rfl <| y_M rfl <| C9 rfl rfl <| H4 rfl rfl <| xN [0,3,4,12] [3] rfl ?_
 refine A5 rfl ?_ ?_ <;> intro hc <;> try simp only [SL] at hc
 ·refine A9 <| A3 <| B7 <| A3 <| A0 <| y_S rfl <| xN [0,3,4,5] [3] rfl <| A3 <| A0 <| y_S rfl <| xN [0,3,4,5,6] [3] rfl <| A3 <| A3 <| A0 <| y_S rfl <| xN [0,3,4,5,6,7] [3] rfl <| B7 <| F5 (β := Nat × Int × Int) [(.t 0, _), (.t 3, _), (.t 4, _), (.h 3, _)] (fun (z : Nat × Int × Int) => match z with | (k, a, b) => [(.t 7, iV k), (.t 5, iV a), (.t 6, iV b)]) (fun (z : Nat × Int × Int) => match z with | (k, a, b) => k ≤ x.length ∧ 2 * a + b = prS (rkT x (H3 x i)) k ∧ 0 ≤ a ∧ a ≤ k ∧ 0 ≤ b ∧ b ≤ k) (fun (z : Nat × Int × Int) => match z with | (k, a, b) => x.length - k) (0, 0, 0) ⟨rfl, rfl, rfl, rfl, rfl, rfl, rfl, trivial⟩ ⟨Nat.zero_le _, rfl, by decide, by decide, by decide, by decide⟩ ?_
  intro z hb
  obtain ⟨k, a, b⟩ := z
  try dsimp only at hb
  obtain ⟨hk1, hab, ha0, ha1, hb0, hb1⟩ := hb
  refine A3 <| A3 <| A0 <| y_M rfl <| y_M rfl <| C9 rfl rfl <| H4 rfl rfl <| xN [0,3,4,5,6,7,18] [3] rfl ?_
  refine A5 rfl ?_ ?_ <;> intro hc <;> try simp only [SL] at hc
  ·refine A9 <| A3 <| B7 <| A3 <| A3 <| A0 <| y_M rfl <| y_M rfl <| B5 rfl rfl rfl (fun _ => rfl) (by omega) <| y_I rfl <| y_M rfl <| y_M rfl <| B5 rfl rfl rfl (fun _ => rfl) (by omega) <| y_I rfl <| H4 rfl rfl ?_
   refine K4 ⟨fun _ => ⟨by decide +kernel, by decide +kernel⟩, [(.t 0, _), (.t 3, _), (.t 4, _), (.t 5, _), (.t 6, _), (.t 7, _), (.t 29, _), (.h 3, _)], ⟨rfl, rfl, rfl, rfl, rfl, rfl, rfl, rfl, rfl, rfl, rfl, rfl, rfl, rfl, rfl, rfl, trivial⟩, ?_⟩
   refine A5 rfl ?_ ?_ <;> intro hc <;> try simp only [SL] at hc
   ·refine A0 <| y_M rfl <| F8 rfl rfl (C1 (by omega)) <| y_S rfl <| xN [0,3,4,5,6,7] [3] rfl <| A3 <| A0 <| y_M rfl <| y_M rfl <| B5 rfl rfl rfl (fun _ => rfl) (by omega) <| y_I rfl <| y_M rfl <| y_M rfl <| B5 rfl rfl rfl (fun _ => rfl) (by omega) <| y_I rfl <| L0 rfl rfl ?_
    refine K4 ⟨fun _ => ⟨by decide +kernel, by decide +kernel⟩, [(.t 0, _), (.t 3, _), (.t 4, _), (.t 5, _), (.t 6, _), (.t 7, _), (.t 40, _), (.h 3, _)], ⟨rfl, rfl, rfl, rfl, rfl, rfl, rfl, rfl, rfl, rfl, rfl, rfl, rfl, rfl, rfl, rfl, trivial⟩, ?_⟩
    refine A5 rfl ?_ ?_ <;> intro hc <;> try simp only [SL] at hc
    ·refine A0 <| y_M rfl <| F8 rfl rfl (C1 (by omega)) <| y_S rfl <| xN [0,3,4,5,6,7] [3] rfl <| A0 <| y_M rfl <| F8 rfl rfl (C1 (by omega)) <| y_S rfl <| xN [0,3,4,5,6,7] [3] rfl ?_
     refine ⟨(k + 1, a + 1, b + 1), ?_, (by simp only; omega), ⟨rfl, rfl, rfl, rfl, rfl, rfl, rfl, trivial⟩⟩
     have hrs : prS (rkT x (H3 x i)) (k + 1) = prS (rkT x (H3 x i)) k + rkT x (H3 x i) k := rfl
     exact ⟨by omega, by rw [hrs, ← hab, rkT, if_pos (by assumption)]; omega, by omega, by omega, by omega, by omega⟩
    refine A9 <| A0 <| y_M rfl <| F8 rfl rfl (C1 (by omega)) <| y_S rfl <| xN [0,3,4,5,6,7] [3] rfl ?_
    refine ⟨(k + 1, a + 1, b), ?_, (by simp only; omega), ⟨rfl, rfl, rfl, rfl, rfl, rfl, rfl, trivial⟩⟩
    have hrs : prS (rkT x (H3 x i)) (k + 1) = prS (rkT x (H3 x i)) k + rkT x (H3 x i) k := rfl
    exact ⟨by omega, by rw [hrs, ← hab, rkT, if_pos (by assumption)]; omega, by omega, by omega, by omega, by omega⟩
   refine A9 <| A3 <| A0 <| y_M rfl <| y_M rfl <| B5 rfl rfl rfl (fun _ => rfl) (by omega) <| y_I rfl <| y_M rfl <| y_M rfl <| B5 rfl rfl rfl (fun _ => rfl) (by omega) <| y_I rfl <| L0 rfl rfl ?_
   refine K4 ⟨fun _ => ⟨by decide +kernel, by decide +kernel⟩, [(.t 0, _), (.t 3, _), (.t 4, _), (.t 5, _), (.t 6, _), (.t 7, _), (.t 40, _), (.h 3, _)], ⟨rfl, rfl, rfl, rfl, rfl, rfl, rfl, rfl, rfl, rfl, rfl, rfl, rfl, rfl, rfl, rfl, trivial⟩, ?_⟩
   refine A5 rfl ?_ ?_ <;> intro hc <;> try simp only [SL] at hc
   ·refine A0 <| y_M rfl <| F8 rfl rfl (C1 (by omega)) <| y_S rfl <| xN [0,3,4,5,6,7] [3] rfl <| A0 <| y_M rfl <| F8 rfl rfl (C1 (by omega)) <| y_S rfl <| xN [0,3,4,5,6,7] [3] rfl ?_
    refine ⟨(k + 1, a, b + 1), ?_, (by simp only; omega), ⟨rfl, rfl, rfl, rfl, rfl, rfl, rfl, trivial⟩⟩
    have hrs : prS (rkT x (H3 x i)) (k + 1) = prS (rkT x (H3 x i)) k + rkT x (H3 x i) k := rfl
    exact ⟨by omega, by rw [hrs, ← hab, rkT, if_neg (by unfold H3; omega), if_pos (by assumption)]; omega, by omega, by omega, by omega, by omega⟩
   refine A9 <| A0 <| y_M rfl <| F8 rfl rfl (C1 (by omega)) <| y_S rfl <| xN [0,3,4,5,6,7] [3] rfl ?_
   refine ⟨(k + 1, a, b), ?_, (by simp only; omega), ⟨rfl, rfl, rfl, rfl, rfl, rfl, rfl, trivial⟩⟩
   have hrs : prS (rkT x (H3 x i)) (k + 1) = prS (rkT x (H3 x i)) k + rkT x (H3 x i) k := rfl
   exact ⟨by omega, by rw [hrs, ← hab, rkT, if_neg (by unfold H3; omega), if_neg (by unfold H3; omega)]; omega, by omega, by omega, by omega, by omega⟩
  refine F6 <| A0 <| y_M rfl <| y_M rfl <| a5s rfl rfl (C1 (by omega)) <| y_M rfl <| F8 rfl rfl (C1 (by omega)) <| F8 rfl rfl (C1 (by omega)) <| B3 (es := List.map iV [_]) rfl rfl (dT rfl) rfl rfl (fun _ => B2 (A7 fun _ => rfl)) (fun _ => rfl) ?_
  intro g49
  refine xA rfl rfl rfl rfl (by simp) (by simp) rfl rfl rfl rfl rfl (fun _ => rfl) (by simp only [LN]; omega) (fun _ => rfl) ?_
  intro g50
  (refine xO rfl rfl (by simp) rfl (fun _ => rfl) (fun _ => rfl) ?_; intro g3)
  refine xN [0,3,4] [3] rfl <| A0 <| y_M rfl <| F8 rfl rfl (C1 (by omega)) <| y_S rfl <| xN [0,3,4] [3] rfl ?_
  refine ⟨(i + 1, l ++ [2 * a + b + 1], _), ?_, (by simp only; omega), ⟨rfl, rfl, rfl, rfl, trivial⟩⟩
  exact ⟨by omega, by rw [hl, U2, hab, show k = x.length by omega, Int.add_comm]⟩
 refine F6 <| A3 <| A0 <| y_M rfl ?_
 (refine xO rfl rfl (by simp) rfl (fun _ => rfl) (fun _ => rfl) ?_; intro g2)
 refine xN [2] [2] rfl <| B1 <| J9 rfl rfl (by simp) (by exact A7 fun _ => rfl) trivial ?_
 rw [hl, show i = x.length by omega]
 rfl

theorem b1o : F3 Tryz.f127 = [0, 2, 4, 10, 3] := by kernel_rfl
theorem c6x (x : List Int) (hl : x.length ≤ 1000) : CW (cxT oG) 127 [L x] = some (.own 1 (x.reverse.map iV), []) := by
 refine F0 rfl Tryz.func127 rfl ⟨by kernel_rfl, rfl, dT rfl, dT rfl, by decide⟩ b1o <| A3 <| A0 ?_
 (refine A8 rfl rfl (fun _ => rfl) ?_; intro g2)
 refine xN [0] [] rfl <| A3 <| A0 <| B3 (es := List.map iV []) rfl rfl (dT rfl) rfl rfl (fun _ => B2 (A7 fun _ => rfl)) (fun _ => rfl) ?_
 intro g5
 (refine xO rfl rfl (by simp) rfl (fun _ => rfl) (fun _ => rfl) ?_; intro g3)
 refine xN [0,3] [3] rfl <| A3 <| A3 <| A0 <| y_M rfl <| C9 rfl rfl <| K6 rfl rfl (C1 (by omega)) <| y_S rfl <| xN [0,3,4] [3] rfl <| B7 <| F5 (β := Nat × List Int × Nat) [(.t 0, _)] (fun (z : Nat × List Int × Nat) => match z with | (k, l, g) => [(.t 4, iV ((k : Int) - 1)), (.h 3, .obj g 0 1 (l.map iV)), (.t 3, .sl 3 g none 0 l.length)]) (fun (z : Nat × List Int × Nat) => match z with | (k, l, g) => k ≤ x.length ∧ l = (x.drop k).reverse) (fun (z : Nat × List Int × Nat) => match z with | (k, l, g) => k) (x.length, [], _) ⟨rfl, rfl, rfl, rfl, trivial⟩ ⟨Nat.le_refl _, by simp⟩ ?_
 intro z hb
 obtain ⟨k, l, g⟩ := z
 try dsimp only at hb
 obtain ⟨hk1, hl2⟩ := hb
 have hll : l.length = x.length - k := by rw [hl2]; simp
 refine A3 <| A3 <| A0 <| y_M rfl <| c0b rfl rfl <| xN [0,3,4,10] [3] rfl ?_
 refine A5 rfl ?_ ?_ <;> intro hc <;> try simp only [SL] at hc
 ·obtain ⟨k', rfl⟩ : ∃ k', k = k' + 1 := ⟨k - 1, by omega⟩
  rw [show (((k' + 1 : Nat) : Int) - 1) = (k' : Int) by omega]
  refine A9 <| A3 <| B7 <| A0 <| y_M rfl <| y_M rfl <| y_M rfl <| B5 rfl rfl rfl (fun _ => rfl) (by omega) <| y_I rfl <| B3 (es := List.map iV [_]) rfl rfl (dT rfl) rfl rfl (fun _ => B2 (A7 fun _ => rfl)) (fun _ => rfl) ?_
  intro g18
  refine xA rfl rfl rfl rfl (by simp) (by simp) rfl rfl rfl rfl rfl (fun _ => rfl) (by simp only [LN]; omega) (fun _ => rfl) ?_
  intro g19
  (refine xO rfl rfl (by simp) rfl (fun _ => rfl) (fun _ => rfl) ?_; intro g3)
  refine xN [0,3,4] [3] rfl <| A0 <| y_M rfl <| K6 rfl rfl (C1 (by omega)) <| y_S rfl <| xN [0,3,4] [3] rfl ?_
  refine ⟨(k', l ++ [x.getD k' default], _), ?_, (by simp only; omega), ⟨rfl, rfl, rfl, rfl, trivial⟩⟩
  exact ⟨by omega, by rw [hl2, c9a (show k' < x.length by omega), List.reverse_cons]⟩
 refine F6 <| A3 <| A0 <| y_M rfl ?_
 (refine xO rfl rfl (by simp) rfl (fun _ => rfl) (fun _ => rfl) ?_; intro g2)
 refine xN [2] [2] rfl <| B1 <| J9 rfl rfl (by simp) (by exact A7 fun _ => rfl) trivial ?_
 rw [hl2, show k = 0 by omega]
 rfl

theorem a7x : F3 Tryz.f130 = [0, 2, 3, 7, 15] := by kernel_rfl
theorem b9i (x : List Int) (hl : x.length ≤ 1048576) : CW (cxT oG) 130 [L x] = some (bV (vl x), []) := by
 refine F0 rfl Tryz.func130 rfl ⟨by kernel_rfl, rfl, dT rfl, dT rfl, by decide⟩ a7x <| A3 <| A0 <| y_S rfl <| xN [0] [] rfl <| A3 <| A3 <| A0 <| y_S rfl <| xN [0,3] [] rfl <| B7 <| F5 (β := Nat) [(.t 0, _)] (fun (i : Nat) => [(.t 3, iV i)]) (fun (i : Nat) => i ≤ x.length ∧ ∀ j, j < i → -100000 ≤ x.getD j default ∧ x.getD j default ≤ 100000) (fun (i : Nat) => x.length - i) 0 ⟨rfl, rfl, trivial⟩ ⟨Nat.zero_le _, fun j h => by omega⟩ ?_
 intro i hb
 obtain ⟨hi1, hi2⟩ := hb
 refine A3 <| A3 <| A0 <| y_M rfl <| y_M rfl <| C9 rfl rfl <| H4 rfl rfl <| xN [0,3,7] [] rfl ?_
 refine A5 rfl ?_ ?_ <;> intro hc <;> try simp only [SL] at hc
 ·refine A9 <| A3 <| B7 <| A3 <| A0 <| y_M rfl <| y_M rfl <| B5 rfl rfl rfl (fun _ => rfl) (by omega) <| y_I rfl ?_
  refine xC3 rfl rfl rfl rfl (b6q _ _ _) ⟨rfl, rfl, rfl⟩ rfl rfl fun g14 => ?_
  refine L4 rfl <| xN [0,3,15] [] rfl ?_
  refine A5 rfl ?_ ?_ <;> intro hc <;> try simp only [SL] at hc
  ·refine A3 <| A0 <| y_S rfl <| xN [2] [] rfl <| B1 <| C2 rfl rfl trivial ?_
   rw [vl, b9w (show i < x.length by omega) (by (simp_all; omega)), Bool.and_false]
   rfl
  refine A9 <| A0 <| y_M rfl <| F8 rfl rfl (C1 (by omega)) <| y_S rfl <| xN [0,3] [] rfl ?_
  refine ⟨i + 1, ⟨by omega, fun j hj => by rcases Nat.lt_succ_iff_lt_or_eq.1 hj with h | h; (· exact hi2 j h); (· subst h; assumption)⟩, (by omega), ⟨rfl, rfl, trivial⟩⟩
 refine F6 <| A3 <| A0 <| y_M rfl <| C9 rfl rfl <| a7o rfl rfl <| y_S rfl <| xN [2] [] rfl <| B1 <| C2 rfl rfl trivial ?_
 rw [vl, c6t fun j hj => hi2 j (by omega), Bool.and_true]
 exact congrArg bV (decide_eq_decide.2 (by omega))

theorem a4b : F3 Tryz.f61 = [0, 2, 3, 7, 15] := by kernel_rfl
theorem b0m (cols : List (List Int)) (hc4 : cols.length ≤ 1048576) (hcb : ∀ c ∈ cols, c.length ≤ 1048576) : CW (cxT oG) 61 [M cols] = some (bV (vcs cols), []) := by
 refine F0 rfl Tryz.func61 rfl ⟨by kernel_rfl, rfl, dT rfl, dT rfl, by decide⟩ a4b <| A3 <| A0 <| y_S rfl <| xN [0] [] rfl <| A3 <| A3 <| A0 <| y_S rfl <| xN [0,3] [] rfl <| B7 <| F5 (β := Nat) [(.t 0, _)] (fun (i : Nat) => [(.t 3, iV i)]) (fun (i : Nat) => i ≤ cols.length ∧ ∀ j, j < i → vd (cols.getD j default) = true) (fun (i : Nat) => cols.length - i) 0 ⟨rfl, rfl, trivial⟩ ⟨Nat.zero_le _, fun j h => by omega⟩ ?_
 intro i hb
 obtain ⟨hi1, hi2⟩ := hb
 have hci := fun h : i < cols.length => hcb _ (L1 h)
 refine A3 <| A3 <| A0 <| y_M rfl <| y_M rfl <| C9 rfl rfl <| H4 rfl rfl <| xN [0,3,7] [] rfl ?_
 refine A5 rfl ?_ ?_ <;> intro hc <;> try simp only [SL] at hc
 ·refine A9 <| A3 <| B7 <| A3 <| A0 <| y_M rfl <| y_M rfl <| B5 rfl rfl rfl (fun _ => rfl) (by omega) <| y_I rfl ?_
  refine xC1 rfl rfl (a9p (cols.getD i default) (hci (by omega))) ⟨rfl, rfl, rfl⟩ rfl rfl fun g14 => ?_
  refine L4 rfl <| xN [0,3,15] [] rfl ?_
  refine A5 rfl ?_ ?_ <;> intro hc <;> try simp only [SL] at hc
  ·refine A3 <| A0 <| y_S rfl <| xN [2] [] rfl <| B1 <| C2 rfl rfl trivial ?_
   rw [d3d (show i < cols.length by omega) (by simpa using hc)]
   rfl
  refine A9 <| A0 <| y_M rfl <| F8 rfl rfl (C1 (by omega)) <| y_S rfl <| xN [0,3] [] rfl ?_
  refine ⟨i + 1, ⟨by omega, fun j hj => by rcases Nat.lt_succ_iff_lt_or_eq.1 hj with h | h; (· exact hi2 j h); (· subst h; simpa using hc)⟩, (by omega), ⟨rfl, rfl, trivial⟩⟩
 refine F6 <| A3 <| A0 <| y_M rfl <| C9 rfl rfl <| a7o rfl rfl <| y_S rfl <| xN [2] [] rfl <| B1 <| C2 rfl rfl trivial ?_
 rw [d1q fun j hj => hi2 j (by omega)]

theorem a7t : F3 Tryz.f99 = [0, 2] := by kernel_rfl
theorem c0g (c : List Int) (hc : c.length ≤ 1048576) : CW (cxT oG) 99 [L c] = some (bV (!vd c), []) := by
 refine F0 rfl Tryz.func99 rfl ⟨by kernel_rfl, rfl, dT rfl, dT rfl, by decide⟩ a7t <| A3 <| A0 <| y_S rfl <| xN [0] [] rfl <| A3 <| A0 <| y_M rfl ?_
 refine xC1 rfl rfl (a2t c hc) ⟨rfl, rfl, rfl⟩ rfl rfl fun g4 => ?_
 refine L4 rfl <| y_S rfl <| xN [2] [] rfl <| B1 <| C2 rfl rfl trivial ?_
 rfl

theorem a7j : F3 Tryz.f134 = [0, 1, 4, 8, 7, 9, 5, 16] := by kernel_rfl
theorem b7z (cols : List (List Int)) (hc4 : cols.length ≤ 1048576) (hcb : ∀ c ∈ cols, c.length ≤ 1048576) : ∃ res outs, (fun res outs => ∃ r : Int, res = iV r ∧ outs = [] ∧ decide (0 ≤ r) = cols.any fun c => !vd c) res outs ∧ CW (cxT oG) 134 [M cols, .clo 99 []] = some (res, outs) := by
 refine M3 rfl Tryz.func134 rfl ⟨by kernel_rfl, rfl, dT rfl, dT rfl, by decide⟩ a7j <| A3 <| A0 <| y_S rfl <| xN [0,1] [] rfl <| A3 <| A3 <| A0 <| y_M rfl <| C9 rfl rfl <| y_M rfl <| xN [0,1,7,8] [] rfl <| B7 <| F5 (β := Nat) [(.t 0, _), (.t 1, _), (.t 7, _)] (fun (i : Nat) => [(.t 8, iV i)]) (fun (i : Nat) => i ≤ cols.length ∧ ∀ j, j < i → (!vd (cols.getD j default)) = false) (fun (i : Nat) => cols.length - i) 0 ⟨rfl, rfl, rfl, rfl, trivial⟩ ⟨Nat.zero_le _, fun j h => by omega⟩ ?_
 intro i hb
 obtain ⟨hi1, hi2⟩ := hb
 have hci := fun h : i < cols.length => hcb _ (L1 h)
 refine A3 <| A0 <| H4 rfl rfl <| xN [0,1,7,8,9] [] rfl <| A3 ?_
 refine A5 rfl ?_ ?_ <;> intro hc <;> try simp only [SL] at hc
 ·refine A9 <| A3 <| B7 <| A3 <| A0 <| y_M rfl <| y_S rfl <| xN [0,1,5,7,8] [] rfl <| A3 <| A0 <| y_M rfl <| y_M rfl <| y_M rfl <| B5 rfl rfl rfl (fun _ => rfl) (by omega) <| y_I rfl ?_
  apply c5l rfl rfl
  ·apply A6
   ·exact B6 rfl
   exact B8
  ·exact c0g (cols.getD i default) (hci (by omega))
  ·exact ⟨rfl, rfl, rfl, dT rfl, rfl⟩
  ·exact .inl rfl
  ·exact B0
  ·exact B9 rfl
  ·exact fun _ => rfl
  intro g16
  refine xN [0,1,5,7,8,16] [] rfl ?_
  refine A5 rfl ?_ ?_ <;> intro hc <;> try simp only [SL] at hc
  ·refine A3 <| A0 <| y_M rfl <| y_S rfl <| xN [4] [] rfl <| B1 ?_
   refine ⟨_, _, ?_, I6 rfl rfl C0⟩
   exact ⟨_, rfl, rfl, c9k (q := fun c => !vd c) (by omega) (by simpa using hc)⟩
  refine A9 <| A0 <| F8 rfl rfl (C1 (by omega)) <| y_M rfl <| xN [0,1,7,8] [] rfl ?_
  refine ⟨i + 1, ⟨by omega, fun j hj => by rcases Nat.lt_succ_iff_lt_or_eq.1 hj with h | h; (· exact hi2 j h); (· subst h; simpa using hc)⟩, (by omega), ⟨rfl, rfl, rfl, rfl, trivial⟩⟩
 refine F6 <| A3 <| A0 <| y_S rfl <| xN [4] [] rfl <| B1 ?_
 refine ⟨_, _, ?_, I6 rfl rfl C0⟩
 exact ⟨-1, rfl, rfl, c6w fun j hj => hi2 j (by omega)⟩

theorem a3t : F3 Tryz.f98 = [0, 1, 4] := by kernel_rfl
theorem b0f (cols : List (List Int)) (hc4 : cols.length ≤ 1048576) (hcb : ∀ c ∈ cols, c.length ≤ 1048576) : CW (cxT oG) 98 [M cols, .clo 99 []] = some (bV (cols.any fun c => !vd c), []) := by
 obtain ⟨_, _, ⟨r, rfl, rfl, hr⟩, hC⟩ := b7z (oG := oG) cols hc4 hcb
 refine F0 rfl Tryz.func98 rfl ⟨by kernel_rfl, rfl, dT rfl, dT rfl, by decide⟩ a3t <| A3 <| A0 <| y_S rfl <| xN [0,1] [] rfl <| A3 <| A0 <| y_M rfl <| y_M rfl ?_
 refine xC2 rfl rfl rfl (hC) ⟨rfl, rfl, rfl⟩ rfl rfl fun g7 => ?_
 refine c0b rfl rfl <| y_S rfl <| xN [4] [] rfl <| B1 <| C2 rfl rfl trivial ?_
 rw [← hr]

theorem a5n : F3 Tryz.f58 = [0, 2] := by kernel_rfl
theorem b2z (cols : List (List Int)) (hc4 : cols.length ≤ 1048576) (hcb : ∀ c ∈ cols, c.length ≤ 1048576) : CW (cxT oG) 58 [M cols] = some (bV (vcs cols), []) := by
 refine F0 rfl Tryz.func58 rfl ⟨by kernel_rfl, rfl, dT rfl, dT rfl, by decide⟩ a5n <| A3 <| A0 <| y_S rfl <| xN [0] [] rfl <| A3 <| A0 <| y_M rfl <| C9 rfl rfl <| a7o rfl rfl <| y_M rfl ?_
 refine C6 rfl rfl ?_ ?_ <;> intro hg0 <;> have hg := hg0 <;> try simp only [SG] at hg
 ·refine y_M rfl <| gT rfl rfl ?_
  refine xC2 rfl rfl rfl (b0f cols hc4 hcb) ⟨rfl, rfl, rfl⟩ rfl rfl fun g8 => ?_
  refine gT rfl rfl <| L4 rfl <| E8 rfl (by assumption) rfl rfl <| y_S rfl <| xN [2] [] rfl <| B1 <| C2 rfl rfl trivial ?_
  rw [c5v]
  (simp_all; done)
 refine gF rfl rfl <| gF rfl rfl <| F4 rfl (by assumption) rfl rfl <| y_S rfl <| xN [2] [] rfl <| B1 <| C2 rfl rfl trivial ?_
 rw [c5v]
 (simp_all [ofConst]; intros; omega)

theorem b4b : F3 Tryz.f108 = [0, 3, 2, 9] := by kernel_rfl
theorem c8f (x : List Int) (hl : x.length ≤ 1000) : ∃ res outs, (fun res outs => res = .tup [] ∧ outs = [x.reverse.map iV]) res outs ∧ CW (cxT oG) 108 [.own 1 (x.map iV)] = some (res, outs) := by
 refine M3 rfl Tryz.func108 rfl ⟨by kernel_rfl, rfl, dT rfl, dT rfl, by decide⟩ b4b <| A3 <| A0 <| y_M rfl <| G8 rfl rfl ?_
 simp only [List.length_map]
 refine K6 rfl rfl (C1 (by omega)) <| y_S rfl <| y_S rfl <| xN [0,2,3] [0] rfl <| B7 ?_
 rw [show ((x.length : Int) - 1) = (x.length : Int) - 1 - ((0 : Nat) : Int) by simp]
 refine F5 (β := Nat × List Int) [(.t 0, _)] (fun (z : Nat × List Int) => match z with | (i, l) => [(.t 2, iV i), (.t 3, iV ((x.length : Int) - 1 - (i : Int))), (.h 0, .obj 1 1 1 (l.map iV))]) (fun (z : Nat × List Int) => match z with | (i, l) => i ≤ x.length ∧ b8i x i l) (fun (z : Nat × List Int) => match z with | (i, l) => x.length - i) (0, x) ⟨rfl, rfl, rfl, rfl, trivial⟩ ⟨Nat.zero_le _, b8i.start x⟩ ?_
 intro z hb
 obtain ⟨i, l⟩ := z
 try dsimp only at hb
 obtain ⟨hi1, hr⟩ := hb
 have hrl := hr.1
 refine A3 <| A3 <| A0 <| y_M rfl <| y_M rfl <| H4 rfl rfl <| xN [0,2,3,9] [0] rfl ?_
 refine A5 rfl ?_ ?_ <;> intro hc <;> try simp only [SL] at hc
 ·refine A9 <| A3 <| B7 <| A0 ?_
  iterate 6 refine y_M rfl ?_
  rw [show ((x.length : Int) - 1 - (i : Int)) = ((x.length - 1 - i : Nat) : Int) by omega]
  refine D9 rfl rfl rfl rfl (by (simp; omega)) (by (simp; omega)) rfl <| G3 rfl rfl (by omega) (fun _ => rfl) (fun _ => rfl) rfl <| y_M rfl <| y_M rfl <| D9 rfl rfl rfl rfl (by (simp; omega)) (by (simp; omega)) rfl <| G3 rfl rfl (by omega) (fun _ => rfl) (fun _ => rfl) rfl <| D9 rfl rfl rfl rfl (by (simp; omega)) (by (simp; omega)) rfl <| K5 rfl rfl rfl (by omega) (fun _ _ => ⟨rfl, rfl, dT rfl, dT rfl, rfl, rfl⟩) (by decide) (by exact b6d (A7 fun _ => rfl)) <| D9 rfl rfl rfl rfl (by (simp; omega)) (by (simp; omega)) rfl <| K5 rfl rfl rfl (by (simp; omega)) (fun _ _ => ⟨rfl, rfl, dT rfl, dT rfl, rfl, rfl⟩) (by decide) (by exact b6d (A7 fun _ => rfl)) ?_
  refine K4 ⟨fun _ => ⟨by decide +kernel, by decide +kernel⟩, [(.t 0, _), (.t 2, _), (.t 3, _), (.h 0, _)], ⟨rfl, rfl, rfl, rfl, rfl, rfl, rfl, rfl, trivial⟩, ?_⟩
  refine A0 <| y_M rfl <| F8 rfl rfl (C1 (by omega)) ?_
  rw [show ((x.length - 1 - i : Nat) : Int) = (x.length : Int) - 1 - (i : Int) by omega]
  refine y_M rfl <| K6 rfl rfl (C1 (by omega)) <| y_S rfl <| y_S rfl <| xN [0,2,3] [0] rfl ?_
  rw [show ((x.length : Int) - 1 - (i : Int) - 1) = (x.length : Int) - 1 - ((i + 1 : Nat) : Int) by omega]
  refine ⟨(i + 1, _), ?_, (by simp only; omega), ⟨rfl, rfl, rfl, rfl, trivial⟩⟩
  exact ⟨by omega, hr.step (by omega)⟩
 refine F6 ?_
 refine ⟨_, _, ?_, d2q (H6 rfl (a3f fun _ => rfl))⟩
 exact ⟨rfl, by rw [hr.fin (by omega)]⟩

theorem b5e : F3 Tryz.f65 = [0, 1, 2, 6, 9, 7, 19] := by kernel_rfl
theorem c9s (k : Nat) (hk : k < 4) (nums : List Int) (cols : List (List Int)) (hc4 : cols.length ≤ 1048576) (hcb : ∀ c ∈ cols, c.length ≤ 1048576) : CW (cxT oG) 65 [sV (d1z k), L nums, M cols] = some (.own 1 ((cols.getD k default).map iV), []) := by
 have hgl : (cols.getD k default).length ≤ 1048576 := by rcases Nat.lt_or_ge k cols.length with c | c; (· exact hcb _ (L1 c)); (· rw [List.getD_eq_getElem?_getD, List.getElem?_eq_none c]; exact Nat.zero_le _)
 refine F0 rfl Tryz.func65 rfl ⟨by kernel_rfl, rfl, dT rfl, dT rfl, by decide⟩ b5e <| A3 <| A0 ?_
 (refine A8 rfl rfl (fun _ => rfl) ?_; intro g6)
 refine xN [0,1,2] [] rfl <| A3 <| A3 <| A0 <| y_M rfl <| d1o (t := false) rfl rfl (by match k, hk with | 0, _ => decide +kernel | 1, _ => decide +kernel | 2, _ => decide +kernel | 3, _ => decide +kernel) <| xN [0,1,2,9] [] rfl ?_
 refine A5 rfl (fun hc => ?_) (fun hc => ?_)
 ·try simp only [SD] at hc
  exact absurd hc (by decide)
 try simp only [SL] at hc
 refine A9 <| A3 <| A3 <| A0 <| y_M rfl <| a4h (b := UInt8.ofNat (97 + k)) rfl rfl rfl (by decide) rfl ?_
 rw [show (UInt8.ofNat (97 + k)).toNat = 97 + k from by match k, hk with | 0, _ => rfl | 1, _ => rfl | 2, _ => rfl | 3, _ => rfl]
 refine K6 rfl rfl (by constructor <;> simp [IntKind.min, IntKind.max, IntKind.signed, IntKind.bits] <;> omega) ?_
 rw [show ((97 + k : Nat) : Int) - 97 = (k : Int) by omega]
 refine a4m rfl rfl rfl (C1 (by omega)) <| y_S rfl <| xN [2,7] [] rfl <| A3 <| A0 <| y_M rfl <| y_M rfl <| C9 rfl rfl <| H4 rfl rfl <| xN [2,7,19] [] rfl ?_
 refine A5 rfl ?_ ?_ <;> intro hc <;> try simp only [SL] at hc
 ·refine A3 <| A0 <| y_M rfl <| y_M rfl <| B5 rfl rfl rfl (fun _ => rfl) (by omega) <| y_I rfl ?_
  apply xC rfl
  ·apply A6
   ·exact B6 rfl
   exact B8
  ·exact c6q (cols.getD k default) hgl
  refine ⟨⟨rfl, rfl, rfl, dT rfl, rfl⟩, .inl rfl, B0, H9, fun _ => rfl, fun g24 => ?_⟩
  simp only [List.length_map]
  (refine xO rfl rfl (by simp) rfl (fun _ => rfl) (fun _ => rfl) ?_; intro g6)
  refine xN [6] [6] rfl <| B1 <| J9 rfl rfl (by simp) (by exact A7 fun _ => rfl) trivial ?_
  rfl
 refine A9 <| A3 <| A0 ?_
 (refine A8 rfl rfl (fun _ => rfl) ?_; intro g6)
 refine xN [6] [6] rfl <| B1 <| J9 rfl rfl (by simp) (by rfl) trivial ?_
 rw [List.getD_eq_getElem?_getD, List.getElem?_eq_none (by omega)]
 rfl

theorem b3o : F3 Tryz.f65 = [0, 1, 2, 6, 9, 7, 19] := by kernel_rfl
theorem c7t (nums : List Int) (hn : nums.length ≤ 1048576) (cols : List (List Int)) : CW (cxT oG) 65 [sV wList, L nums, M cols] = some (.own 1 (nums.map iV), []) := by
 refine F0 rfl Tryz.func65 rfl ⟨by kernel_rfl, rfl, dT rfl, dT rfl, by decide⟩ b3o <| A3 <| A0 ?_
 (refine A8 rfl rfl (fun _ => rfl) ?_; intro g6)
 refine xN [0,1,2] [] rfl <| A3 <| A3 <| A0 <| y_M rfl <| d1o (t := true) rfl rfl (by decide +kernel) <| xN [0,1,2,9] [] rfl ?_
 refine A5 rfl (fun hc => ?_) (fun hc => ?_)
 ·try simp only [SL] at hc
  refine A3 <| A0 <| y_M rfl ?_
  apply xC rfl
  ·apply A6
   ·exact B6 rfl
   exact B8
  ·exact c6q nums hn
  refine ⟨⟨rfl, rfl, rfl, dT rfl, rfl⟩, .inl rfl, B0, H9, fun _ => rfl, fun g11 => ?_⟩
  simp only [List.length_map]
  (refine xO rfl rfl (by simp) rfl (fun _ => rfl) (fun _ => rfl) ?_; intro g6)
  refine xN [6] [6] rfl <| B1 <| J9 rfl rfl (by simp) (by exact A7 fun _ => rfl) trivial ?_
  rfl
 try simp only [SD] at hc
 exact absurd hc (by decide)

theorem b0h : F3 Tryz.f87 = [0, 1, 4, 5, 13] := by kernel_rfl
theorem c4f (k : Nat) (hk : k < 4) (cols : List (List Int)) (hc4 : cols.length ≤ 1048576) (hcb : ∀ c ∈ cols, c.length ≤ 1048576) : CW (cxT oG) 87 [sV (d1z k), M cols] = some (.own 1 ((cols.getD k default).map iV), []) := by
 have hgl : (cols.getD k default).length ≤ 1048576 := by rcases Nat.lt_or_ge k cols.length with c | c; (· exact hcb _ (L1 c)); (· rw [List.getD_eq_getElem?_getD, List.getElem?_eq_none c]; exact Nat.zero_le _)
 refine F0 rfl Tryz.func87 rfl ⟨by kernel_rfl, rfl, dT rfl, dT rfl, by decide⟩ b0h <| A3 <| A0 ?_
 (refine A8 rfl rfl (fun _ => rfl) ?_; intro g4)
 refine xN [0,1] [] rfl <| A3 <| A0 <| y_M rfl <| a4h (b := UInt8.ofNat (97 + k)) rfl rfl rfl (by decide) rfl ?_
 rw [show (UInt8.ofNat (97 + k)).toNat = 97 + k from by match k, hk with | 0, _ => rfl | 1, _ => rfl | 2, _ => rfl | 3, _ => rfl]
 refine K6 rfl rfl (by constructor <;> simp [IntKind.min, IntKind.max, IntKind.signed, IntKind.bits] <;> omega) ?_
 rw [show ((97 + k : Nat) : Int) - 97 = (k : Int) by omega]
 refine a4m rfl rfl rfl (C1 (by omega)) <| y_S rfl <| xN [1,5] [] rfl <| A3 <| A3 <| A0 <| y_M rfl <| y_M rfl <| C9 rfl rfl <| H4 rfl rfl <| xN [1,5,13] [] rfl ?_
 refine A5 rfl ?_ ?_ <;> intro hc <;> try simp only [SL] at hc
 ·refine A3 <| A0 <| B3 (es := List.map iV []) rfl rfl (dT rfl) rfl rfl (fun _ => B2 (A7 fun _ => rfl)) (fun _ => rfl) ?_
  intro g14
  refine y_M rfl <| y_M rfl <| B5 rfl rfl rfl (fun _ => rfl) (by omega) <| y_I rfl <| V3 rfl rfl rfl (by (simp; done)) rfl rfl rfl (dT rfl) (fun _ => ⟨rfl, rfl, rfl⟩) (by simp only [G9]; (simp only [List.length_nil, List.length_cons, List.length_append, Nat.zero_add, List.length_map]; omega)) (fun _ => rfl) ?_
  intro g19
  (refine xO rfl rfl (by simp) rfl (fun _ => rfl) (fun _ => rfl) ?_; intro g4)
  refine xN [4] [4] rfl <| B1 <| J9 rfl rfl (by simp) (by exact A7 fun _ => rfl) trivial ?_
  rfl
 refine A9 <| A3 <| A0 <| B3 (es := List.map iV []) rfl rfl (dT rfl) rfl rfl (fun _ => B2 (A7 fun _ => rfl)) (fun _ => rfl) ?_
 intro g20
 (refine xO rfl rfl (by simp) rfl (fun _ => rfl) (fun _ => rfl) ?_; intro g4)
 refine xN [4] [4] rfl <| B1 <| J9 rfl rfl (by simp) (by rfl) trivial ?_
 rw [List.getD_eq_getElem?_getD, List.getElem?_eq_none (by omega)]
 rfl

theorem b5q : F3 Tryz.f66 = [0, 1, 4, 5, 15, 20, 21, 6, 25, 29, 33, 32, 34, 7, 45, 49, 48, 50, 8, 66, 9, 72, 86, 10, 91, 105, 109, 114, 124, 129, 128, 130, 127, 12, 11, 142, 156, 63] := by kernel_rfl
theorem c2g (op : ByteArray) (h1 : 1 ≤ nd op) (x y : List Int) (hx : vl x = true) (hy : vl y = true) (ls : List (List Int)) (hl1 : 1 ≤ ls.length) (hl2 : nd op = 2 → 2 ≤ ls.length) (hlx : ls.getD 0 default = x) (hly : 2 ≤ ls.length → ls.getD 1 default = y) : CW (cxT oG) 66 [sV op, M ls] = some (.tup [.own 1 (((mkR op x y).getD []).map iV), bV (mkR op x y).isSome], []) := by
 have hx40 := (Q8.1 hx).1
 have hy40 := (Q8.1 hy).1
 have hgx := a0i hx
 have hgy := a0i hy
 have hsx := a2i x
 refine F0 rfl Tryz.func66 rfl ⟨by kernel_rfl, rfl, dT rfl, dT rfl, by decide⟩ b5q <| A3 <| A0 ?_
 (refine A8 rfl rfl (fun _ => rfl) ?_; intro g4)
 refine y_S rfl <| xN [0,1] [] rfl <| A3 <| A0 ?_
 (refine A8 rfl rfl (fun _ => rfl) ?_; intro g6)
 refine xN [0,1,6] [6] rfl <| A3 <| A3 <| A0 <| y_M rfl <| C9 rfl rfl <| M4 rfl rfl <| xN [0,1,6,15] [6] rfl ?_
 refine A5 rfl (fun hc => ?_) (fun hc => ?_)
 ·try simp only [SL] at hc
  refine A0 <| y_M rfl <| B5 rfl rfl rfl (fun _ => rfl) (by (change 0 < _; omega)) <| y_I rfl ?_
  rw [hlx]
  apply xC rfl
  ·apply A6
   ·exact B6 rfl
   exact B8
  ·exact c6j x (by simp only [G9]; omega)
  refine ⟨⟨rfl, rfl, rfl, dT rfl, rfl⟩, .inl rfl, B0, H9, fun _ => rfl, fun g19 => ?_⟩
  simp only [List.length_map]
  (refine xO rfl rfl (by simp) rfl (fun _ => rfl) (fun _ => rfl) ?_; intro g6)
  refine xN [0,1,6] [6] rfl <| c0e <| A3 <| A0 <| y_M rfl <| xN [1,6,20] [6] rfl ?_
  refine c9y (β := List Int × Nat × Nat) [] trivial (fun (z : List Int × Nat × Nat) => match z with | (r, n, g) => [(.h 6, .obj g 0 1 (r.map iV)), (.t 6, .sl 6 g none 0 n)]) (fun (z : List Int × Nat × Nat) => match z with | (r, n, g) => N8 op x y = some r ∧ n = r.length ∧ r.length ≤ 80) ?_ ?_
  ·skip
   refine B7 <| A3 <| A0 <| H8 rfl rfl <| y_S rfl <| xN [1,6,20,21] [6] rfl ?_
   refine A5 rfl ?_ ?_ <;> intro hc <;> try simp only [SL] at hc
   ·try simp at hc
    refine A0 <| y_M rfl ?_
    apply a6g rfl
    ·apply A6
     ·exact c1y rfl rfl (by decide) (by (simp; done)) (a3f fun _ => rfl)
     exact B8
    ·exact d5i x (by simp only [G9]; omega)
    ·exact ⟨rfl, rfl, rfl, dT rfl, rfl⟩
    ·exact .inl rfl
    ·exact D5 rfl (by simp) (b2d _ _) B0
    ·exact O1 rfl
    ·(intro _; exact C3 (B2 (A7 fun _ => rfl)) rfl)
    intro g24
    refine xN [6] [6] rfl ?_
    refine ⟨(_, _, _), ?_, ⟨rfl, rfl, trivial⟩⟩
    exact ⟨(by (simp [N8, *]; done)), (by (simp; done)), (by omega)⟩
   try simp at hc
   refine A3 <| A0 <| H8 rfl rfl <| y_S rfl <| xN [1,6,20,25] [6] rfl ?_
   refine A5 rfl ?_ ?_ <;> intro hc <;> try simp only [SL] at hc
   ·try simp at hc
    refine A0 <| y_M rfl ?_
    obtain ⟨_, _, ⟨rfl, rfl⟩, hRv⟩ := c8f (oG := oG) x (by omega)
    apply a6g rfl
    ·apply A6
     ·exact c1y rfl rfl (by decide) (by (simp; done)) (a3f fun _ => rfl)
     exact B8
    ·exact hRv
    ·exact ⟨rfl, rfl, rfl, dT rfl, rfl⟩
    ·exact .inl rfl
    ·exact D5 rfl (by simp) (b2d _ _) B0
    ·exact O1 rfl
    ·(intro _; exact C3 (B2 (A7 fun _ => rfl)) rfl)
    intro g28
    refine xN [6] [6] rfl ?_
    refine ⟨(_, _, _), ?_, ⟨rfl, rfl, trivial⟩⟩
    exact ⟨(by (simp [N8, *]; done)), (by (simp; done)), (by (simp; omega))⟩
   try simp at hc
   refine A3 <| A0 <| H8 rfl rfl <| y_S rfl <| xN [1,6,20,29] [6] rfl ?_
   refine A5 rfl ?_ ?_ <;> intro hc <;> try simp only [SL] at hc
   ·try simp at hc
    refine A3 <| A0 <| y_M rfl <| G8 rfl rfl <| y_M rfl <| xN [6,32,33] [6] rfl <| B7 <| F5 (β := Nat × List Int) [(.t 6, _), (.t 32, _)] (fun (z : Nat × List Int) => match z with | (i, l) => [(.t 33, iV i), (.h 6, .obj g6 0 1 (l.map iV))]) (fun (z : Nat × List Int) => match z with | (i, l) => i ≤ x.length ∧ S5 x.length (fun i => -(H3 x i)) (H3 x) i l) (fun (z : Nat × List Int) => match z with | (i, l) => x.length - i) (0, x) ⟨rfl, rfl, rfl, rfl, trivial⟩ ⟨Nat.zero_le _, S5.start x _⟩ ?_
    intro z hb
    obtain ⟨i, l⟩ := z
    try dsimp only at hb
    obtain ⟨hi1, hf⟩ := hb
    have hfl := hf.1
    have hfa := fun h : i < x.length => hf.at h
    have hgi := hgx i
    have hgyi : -100000 ≤ y.getD i default ∧ y.getD i default ≤ 100000 := hgy i
    refine A3 <| A0 <| H4 rfl rfl <| xN [6,32,33,34] [6] rfl <| A3 ?_
    refine A5 rfl ?_ ?_ <;> intro hc <;> try simp only [SL] at hc
    ·refine A9 <| A3 <| B7 <| A3 <| A0 <| y_M rfl <| y_S rfl <| xN [6,7,32,33] [6] rfl <| A0 <| y_M rfl <| y_M rfl <| y_M rfl <| y_M rfl <| D9 rfl rfl rfl rfl (by omega) (by (simp; omega)) rfl <| G3 rfl rfl (by omega) (fun _ => rfl) (fun _ => rfl) rfl <| b3d rfl (C1 (by omega)) <| D9 rfl rfl rfl rfl (by omega) (by (simp; omega)) rfl <| K5 rfl rfl rfl (by omega) (fun _ _ => ⟨rfl, rfl, dT rfl, dT rfl, rfl, rfl⟩) (by decide) (by exact B2 (A7 fun _ => rfl)) <| xN [6,32,33] [6] rfl <| A0 <| F8 rfl rfl (C1 (by omega)) <| y_M rfl <| xN [6,32,33] [6] rfl ?_
     refine ⟨(i + 1, l.set i (-(l.getD i default))), ?_, (by simp only; omega), ⟨rfl, rfl, rfl, rfl, trivial⟩⟩
     exact ⟨by omega, hf.step (by omega) (by rw [hfa (by omega)]; done)⟩
    refine F6 ?_
    refine ⟨(_, _, _), ?_, ⟨rfl, rfl, trivial⟩⟩
    exact ⟨by rw [(hf.fin (by omega)).trans (a6m x fun v => -v)]; simp [N8, *], by omega, by omega⟩
   try simp at hc
   refine A3 <| A0 <| H8 rfl rfl <| y_S rfl <| xN [1,6,20,45] [6] rfl ?_
   refine A5 rfl ?_ ?_ <;> intro hc <;> try simp only [SL] at hc
   ·try simp at hc
    refine A3 <| A0 <| y_M rfl <| G8 rfl rfl <| y_M rfl <| xN [6,48,49] [6] rfl <| B7 <| F5 (β := Nat × List Int) [(.t 6, _), (.t 48, _)] (fun (z : Nat × List Int) => match z with | (i, l) => [(.t 49, iV i), (.h 6, .obj g6 0 1 (l.map iV))]) (fun (z : Nat × List Int) => match z with | (i, l) => i ≤ x.length ∧ S5 x.length (fun i => max (H3 x i) (-(H3 x i))) (H3 x) i l) (fun (z : Nat × List Int) => match z with | (i, l) => x.length - i) (0, x) ⟨rfl, rfl, rfl, rfl, trivial⟩ ⟨Nat.zero_le _, S5.start x _⟩ ?_
    intro z hb
    obtain ⟨i, l⟩ := z
    try dsimp only at hb
    obtain ⟨hi1, hf⟩ := hb
    have hfl := hf.1
    have hfa := fun h : i < x.length => hf.at h
    have hgi := hgx i
    have hgyi : -100000 ≤ y.getD i default ∧ y.getD i default ≤ 100000 := hgy i
    refine A3 <| A0 <| H4 rfl rfl <| xN [6,48,49,50] [6] rfl <| A3 ?_
    refine A5 rfl ?_ ?_ <;> intro hc <;> try simp only [SL] at hc
    ·refine A9 <| A3 <| B7 <| A3 <| A0 <| y_M rfl <| y_S rfl <| xN [6,8,48,49] [6] rfl <| A0 <| y_M rfl <| y_M rfl <| y_M rfl <| y_M rfl <| D9 rfl rfl rfl rfl (by omega) (by (simp; omega)) rfl <| G3 rfl rfl (by omega) (fun _ => rfl) (fun _ => rfl) rfl <| y_M rfl <| y_M rfl <| D9 rfl rfl rfl rfl (by omega) (by (simp; omega)) rfl <| G3 rfl rfl (by omega) (fun _ => rfl) (fun _ => rfl) rfl <| b3d rfl (C1 (by omega)) <| d4p rfl rfl <| D9 rfl rfl rfl rfl (by omega) (by (simp; omega)) rfl <| K5 rfl rfl rfl (by omega) (fun _ _ => ⟨rfl, rfl, dT rfl, dT rfl, rfl, rfl⟩) (by decide) (by exact B2 (A7 fun _ => rfl)) ?_
     refine K4 ⟨fun _ => ⟨by decide +kernel, by decide +kernel⟩, [(.t 6, _), (.t 48, _), (.t 49, _), (.h 6, _)], ⟨rfl, rfl, rfl, rfl, rfl, rfl, rfl, rfl, trivial⟩, ?_⟩
     refine A0 <| F8 rfl rfl (C1 (by omega)) <| y_M rfl <| xN [6,48,49] [6] rfl ?_
     refine ⟨(i + 1, l.set i (max (l.getD i default) (-(l.getD i default)))), ?_, (by simp only; omega), ⟨rfl, rfl, rfl, rfl, trivial⟩⟩
     exact ⟨by omega, hf.step (by omega) (by rw [hfa (by omega)]; done)⟩
    refine F6 ?_
    refine ⟨(_, _, _), ?_, ⟨rfl, rfl, trivial⟩⟩
    exact ⟨by rw [(hf.fin (by omega)).trans (a6m x fun v => max v (-v))]; simp [N8, *], by omega, by omega⟩
   try simp at hc
   refine A3 <| A0 <| H8 rfl rfl <| y_S rfl <| xN [1,6,20,66] [6] rfl ?_
   refine A5 rfl ?_ ?_ <;> intro hc <;> try simp only [SL] at hc
   ·try simp at hc
    refine A3 <| A0 <| y_M rfl <| G8 rfl rfl <| K6 rfl rfl (C1 (by omega)) <| y_S rfl <| xN [6,9] [6] rfl <| B7 <| F5 (β := Nat × List Int) [(.t 6, _)] (fun (z : Nat × List Int) => match z with | (k, l) => [(.t 9, iV ((k : Int) - 1)), (.h 6, .obj g6 0 1 (l.map iV))]) (fun (z : Nat × List Int) => match z with | (k, l) => k ≤ x.length ∧ a3h x (k - 1) l) (fun (z : Nat × List Int) => match z with | (k, l) => k) (x.length, x) ⟨rfl, rfl, rfl, trivial⟩ ⟨Nat.le_refl _, a3h.start x⟩ ?_
    intro z hb
    obtain ⟨k, l⟩ := z
    try dsimp only at hb
    obtain ⟨hk1, hd⟩ := hb
    have hdl := hd.1
    refine A3 <| A3 <| A0 <| y_M rfl <| M4 rfl rfl <| xN [6,9,72] [6] rfl ?_
    refine A5 rfl ?_ ?_ <;> intro hc <;> try simp only [SL] at hc
    ·refine A9 <| A3 <| B7 <| A0 <| y_M rfl <| y_M rfl ?_
     rw [show ((k : Int) - 1) = ((k - 1 : Nat) : Int) by omega]
     refine D9 rfl rfl rfl rfl (by omega) (by (simp; omega)) rfl <| G3 rfl rfl (by omega) (fun _ => rfl) (fun _ => rfl) rfl <| y_M rfl <| y_M rfl <| K6 rfl rfl (C1 (by omega)) ?_
     rw [show ((k - 1 : Nat) : Int) - 1 = ((k - 1 - 1 : Nat) : Int) by omega]
     refine D9 rfl rfl rfl rfl (by omega) (by (simp; omega)) rfl <| G3 rfl rfl (by omega) (fun _ => rfl) (fun _ => rfl) rfl ?_
     have hd1 := hd.val (k - 1)
     have hd2 := hd.val (k - 1 - 1)
     have hg1 := hgx (k - 1)
     have hg2 := hgx (k - 1 - 1)
     have hg3 := hgx (k - 1 - 1 - 1)
     refine K6 rfl rfl (C1 (by omega)) <| D9 rfl rfl rfl rfl (by omega) (by (simp; omega)) rfl <| K5 rfl rfl rfl (by omega) (fun _ _ => ⟨rfl, rfl, dT rfl, dT rfl, rfl, rfl⟩) (by decide) (by exact B2 (A7 fun _ => rfl)) ?_
     refine K4 ⟨fun _ => ⟨by decide +kernel, by decide +kernel⟩, [(.t 6, _), (.t 9, _), (.h 6, _)], ⟨rfl, rfl, rfl, rfl, rfl, rfl, trivial⟩, ?_⟩
     refine A0 <| y_M rfl <| K6 rfl rfl (C1 (by omega)) <| y_S rfl <| xN [6,9] [6] rfl ?_
     refine ⟨(k - 1, _), ?_, (by simp only; omega), ⟨rfl, rfl, rfl, trivial⟩⟩
     exact ⟨by omega, hd.step (by omega) (by omega)⟩
    refine F6 ?_
    refine ⟨(_, _, _), ?_, ⟨rfl, rfl, trivial⟩⟩
    exact ⟨by rw [show l = dfI x from a3h.fin ((show k - 1 = 0 by omega) ▸ hd)]; simp [N8, *], by omega, by omega⟩
   try simp at hc
   refine A3 <| A0 <| H8 rfl rfl <| y_S rfl <| xN [1,6,20,86] [6] rfl ?_
   refine A5 rfl ?_ ?_ <;> intro hc <;> try simp only [SL] at hc
   ·try simp at hc
    refine A3 <| A0 <| y_S rfl <| xN [6,10] [6] rfl <| B7 <| F5 (β := Nat × List Int) [(.t 6, _)] (fun (z : Nat × List Int) => match z with | (i, l) => [(.t 10, iV i), (.h 6, .obj g6 0 1 (l.map iV))]) (fun (z : Nat × List Int) => match z with | (i, l) => 1 ≤ i ∧ S5 x.length (fun i => prS (H3 x) (i + 1)) (H3 x) i l) (fun (z : Nat × List Int) => match z with | (i, l) => x.length - i) (1, x) ⟨rfl, rfl, rfl, trivial⟩ ⟨Nat.le_refl _, S5.start1 x⟩ ?_
    intro z hb
    obtain ⟨i, l⟩ := z
    try dsimp only at hb
    obtain ⟨hi1, hf⟩ := hb
    have hfl := hf.1
    have hfa := fun h : i < x.length => hf.at h
    have hgi := hgx i
    refine A3 <| A3 <| A0 <| y_M rfl <| y_M rfl <| G8 rfl rfl <| H4 rfl rfl <| xN [6,10,91] [6] rfl ?_
    refine A5 rfl ?_ ?_ <;> intro hc <;> try simp only [SL] at hc
    ·refine A9 <| A3 <| B7 <| A0 <| y_M rfl <| y_M rfl <| D9 rfl rfl rfl rfl (by omega) (by (simp; omega)) rfl <| G3 rfl rfl (by omega) (fun _ => rfl) (fun _ => rfl) rfl <| y_M rfl <| y_M rfl <| K6 rfl rfl (C1 (by omega)) ?_
     rw [show ((i : Int) - 1) = ((i - 1 : Nat) : Int) by omega]
     refine D9 rfl rfl rfl rfl (by omega) (by (simp; omega)) rfl <| G3 rfl rfl (by omega) (fun _ => rfl) (fun _ => rfl) rfl ?_
     have hfb := hf.before (j := i - 1) (by omega) (by omega)
     have hsb := c1o hx (i - 1 + 1)
     refine F8 rfl rfl (C1 (by omega)) <| D9 rfl rfl rfl rfl (by omega) (by (simp; omega)) rfl <| K5 rfl rfl rfl (by omega) (fun _ _ => ⟨rfl, rfl, dT rfl, dT rfl, rfl, rfl⟩) (by decide) (by exact B2 (A7 fun _ => rfl)) ?_
     refine K4 ⟨fun _ => ⟨by decide +kernel, by decide +kernel⟩, [(.t 6, _), (.t 10, _), (.h 6, _)], ⟨rfl, rfl, rfl, rfl, rfl, rfl, trivial⟩, ?_⟩
     refine A0 <| y_M rfl <| F8 rfl rfl (C1 (by omega)) <| y_S rfl <| xN [6,10] [6] rfl ?_
     refine ⟨(i + 1, l.set i (l.getD i default + l.getD (i - 1) default)), ?_, (by simp only; omega), ⟨rfl, rfl, rfl, trivial⟩⟩
     have hfb2 := hf.before (j := i - 1) (by omega) (by omega)
     rw [show i - 1 + 1 = i by omega] at hfb2
     exact ⟨by omega, hf.step (by omega) (by rw [hfa (by omega), hfb2, Int.add_comm]; rfl)⟩
    refine F6 ?_
    refine ⟨(_, _, _), ?_, ⟨rfl, rfl, trivial⟩⟩
    exact ⟨by rw [show l = smI x from hf.fin (by omega)]; simp [N8, *], by omega, by omega⟩
   try simp at hc
   refine A3 <| A0 <| H8 rfl rfl <| y_S rfl <| xN [1,6,20,105] [6] rfl ?_
   refine A5 rfl ?_ ?_ <;> intro hc <;> try simp only [SL] at hc
   ·try simp at hc
    refine A0 <| y_M rfl ?_
    apply xC rfl
    ·apply A6
     ·exact E5 rfl rfl rfl (by (simp; done)) (fun _ => rfl)
     exact B8
    ·exact d0k x hx
    refine ⟨⟨rfl, rfl, rfl, dT rfl, rfl⟩, .inr ⟨Y6 fun _ => rfl, rfl⟩, B0, H9, fun _ => rfl, fun g108 => ?_⟩
    simp only [List.length_map]
    (refine xO rfl rfl (by simp) rfl (fun _ => rfl) (fun _ => rfl) ?_; intro g6)
    refine xN [6] [6] rfl ?_
    refine ⟨(_, _, _), ?_, ⟨rfl, rfl, trivial⟩⟩
    exact ⟨(by (simp [N8, rkI, *]; done)), (by (simp [dfI, smI, rkI, adI]; done)), (by (simp; omega))⟩
   try simp at hc
   refine A3 <| A0 <| H8 rfl rfl <| y_S rfl <| xN [1,6,20,109] [6] rfl ?_
   refine A5 rfl ?_ ?_ <;> intro hc <;> try simp only [SL] at hc
   ·try simp at hc
    refine A0 <| y_M rfl ?_
    apply xC rfl
    ·apply A6
     ·exact E5 rfl rfl rfl (by (simp; done)) (fun _ => rfl)
     exact B8
    ·exact d5r x hx
    refine ⟨⟨rfl, rfl, rfl, dT rfl, rfl⟩, .inr ⟨rfl, rfl⟩, B0, B9 rfl, fun _ => rfl, fun g112 => ?_⟩
    refine B3 (es := List.map iV [_]) rfl rfl (dT rfl) rfl rfl (fun _ => B2 (A7 fun _ => rfl)) (fun _ => rfl) ?_
    intro g113
    (refine xO rfl rfl (by simp) rfl (fun _ => rfl) (fun _ => rfl) ?_; intro g6)
    refine xN [6] [6] rfl ?_
    refine ⟨(_, _, _), ?_, ⟨rfl, rfl, trivial⟩⟩
    exact ⟨(by (simp [N8, *]; done)), (by (simp; done)), (by (simp; done))⟩
   try simp at hc
   refine A3 <| A0 <| H8 rfl rfl <| y_S rfl <| xN [1,6,20,114] [6] rfl ?_
   refine A5 rfl ?_ ?_ <;> intro hc <;> try simp only [SL] at hc
   ·try simp at hc
    have h2l := hl2 (c9t (.inl hc))
    refine A3 <| A3 <| A0 <| y_M rfl <| B5 rfl rfl rfl (fun _ => rfl) (by (change 0 < _; omega)) <| y_I rfl ?_
    rw [hlx]
    refine C9 rfl rfl <| y_M rfl <| B5 rfl rfl rfl (fun _ => rfl) (by (simp; omega)) <| y_I rfl ?_
    rw [hly h2l]
    refine C9 rfl rfl <| a9o rfl rfl ?_
    refine K4 ⟨fun _ => ⟨by decide +kernel, by decide +kernel⟩, [(.t 1, _), (.t 6, _), (.t 124, _), (.h 6, _)], ⟨rfl, rfl, rfl, rfl, rfl, rfl, rfl, rfl, trivial⟩, ?_⟩
    refine A5 rfl ?_ ?_ <;> intro hc <;> try simp only [SL] at hc
    ·refine A3 <| A0 ?_
     (refine A8 rfl rfl (fun _ => rfl) ?_; intro g4)
     refine y_S rfl <| xN [4,5] [4] rfl <| B1 <| C7 (E7 rfl rfl (by simp) (by rfl) (D7 rfl rfl (E3 C0))) ?_
     have hne : ¬ x.length = y.length := by omega
     rw [show mkR op x y = none from by simp [mkR, N8, *]]
     rfl
    refine A9 <| A3 <| A0 <| y_M rfl <| B5 rfl rfl rfl (fun _ => rfl) (by (simp; omega)) <| y_I rfl ?_
    rw [hly h2l]
    refine C9 rfl rfl <| y_M rfl <| xN [6,127,128,129] [6] rfl <| B7 <| F5 (β := Nat × List Int) [(.t 6, _), (.t 127, _), (.t 128, _)] (fun (z : Nat × List Int) => match z with | (i, l) => [(.t 129, iV i), (.h 6, .obj g6 0 1 (l.map iV))]) (fun (z : Nat × List Int) => match z with | (i, l) => i ≤ x.length ∧ S5 x.length (fun i => H3 x i + H3 y i) (H3 x) i l) (fun (z : Nat × List Int) => match z with | (i, l) => x.length - i) (0, x) ⟨rfl, rfl, rfl, rfl, rfl, trivial⟩ ⟨Nat.zero_le _, S5.start x _⟩ ?_
    intro z hb
    obtain ⟨i, l⟩ := z
    try dsimp only at hb
    obtain ⟨hi1, hf⟩ := hb
    have hfl := hf.1
    have hfa := fun h : i < x.length => hf.at h
    have hgi := hgx i
    have hgyi : -100000 ≤ y.getD i default ∧ y.getD i default ≤ 100000 := hgy i
    refine A3 <| A0 <| H4 rfl rfl <| xN [6,127,128,129,130] [6] rfl <| A3 ?_
    refine A5 rfl ?_ ?_ <;> intro hc <;> try simp only [SL] at hc
    ·refine A9 <| A3 <| B7 <| A3 <| A0 <| y_M rfl <| B5 rfl rfl rfl (fun _ => rfl) (by omega) <| y_I rfl <| y_S rfl <| y_S rfl <| xN [6,11,12,127,128,129] [6] rfl <| A0 <| y_M rfl <| y_M rfl <| D9 rfl rfl rfl rfl (by omega) (by (simp; omega)) rfl <| G3 rfl rfl (by omega) (fun _ => rfl) (fun _ => rfl) rfl <| y_M rfl <| F8 rfl rfl (C1 (by omega)) <| D9 rfl rfl rfl rfl (by omega) (by (simp; omega)) rfl <| K5 rfl rfl rfl (by omega) (fun _ _ => ⟨rfl, rfl, dT rfl, dT rfl, rfl, rfl⟩) (by decide) (by exact B2 (A7 fun _ => rfl)) <| xN [6,127,128,129] [6] rfl <| A0 <| F8 rfl rfl (C1 (by omega)) <| y_M rfl <| xN [6,127,128,129] [6] rfl ?_
     refine ⟨(i + 1, l.set i (l.getD i default + y.getD i default)), ?_, (by simp only; omega), ⟨rfl, rfl, rfl, rfl, rfl, trivial⟩⟩
     exact ⟨by omega, hf.step (by omega) (by rw [hfa (by omega)]; rfl)⟩
    refine F6 ?_
    refine ⟨(_, _, _), ?_, ⟨rfl, rfl, trivial⟩⟩
    exact ⟨adF (by assumption) (by omega) (hf.fin (by omega)) rfl, by omega, by omega⟩
   try simp at hc
   refine A3 <| A0 <| H8 rfl rfl <| y_S rfl <| xN [1,6,142] [6] rfl ?_
   refine A5 rfl ?_ ?_ <;> intro hc <;> try simp only [SL] at hc
   ·try simp at hc
    have h2l := hl2 (c9t (.inr hc))
    refine A0 <| y_M rfl <| y_M rfl <| B5 rfl rfl rfl (fun _ => rfl) (by (simp; omega)) <| y_I rfl ?_
    rw [hly h2l]
    refine V3 rfl rfl rfl (by (simp; done)) rfl rfl rfl (dT rfl) (fun _ => ⟨rfl, rfl, rfl⟩) (by simp only [G9]; omega) (fun _ => rfl) ?_
    intro g148
    (refine xO rfl rfl (by simp) rfl (fun _ => rfl) (fun _ => rfl) ?_; intro g6)
    refine xN [6] [6] rfl ?_
    refine ⟨(_, _, _), ?_, ⟨rfl, rfl, trivial⟩⟩
    exact ⟨(by (simp [N8, *]; done)), (by (simp; done)), (by (simp; omega))⟩
   try simp at hc
   refine A9 ?_
   refine ⟨(_, _, _), ?_, ⟨rfl, rfl, trivial⟩⟩
   exact ⟨(by (simp [N8, *]; done)), (by (simp; done)), (by omega)⟩
  intro z hb
  obtain ⟨r, n, g⟩ := z
  try dsimp only at hb
  obtain ⟨hraw, hn, hr80⟩ := hb
  subst hn
  refine A3 <| A3 <| A0 <| y_M rfl <| G8 rfl rfl <| M4 rfl rfl <| y_M rfl ?_
  refine C6 rfl rfl ?_ ?_ <;> intro hg0 <;> have hg := hg0 <;> try simp only [SG] at hg
  ·refine y_M rfl <| gT rfl rfl ?_
   apply xC rfl
   ·apply A6
    ·exact E5 rfl rfl rfl (by (simp; done)) (fun _ => rfl)
    apply A6
    ·exact B6 rfl
    apply A6
    ·exact B6 rfl
    exact B8
   ·exact c6h r (by omega) (-100000) 100000
   refine ⟨⟨rfl, rfl, rfl, dT rfl, rfl⟩, .inr ⟨rfl, rfl⟩, B0, B9 rfl, fun _ => rfl, fun g154 => ?_⟩
   refine gT rfl rfl <| L4 rfl <| F4 rfl (by assumption) rfl rfl <| xN [6,156] [6] rfl ?_
   refine A5 rfl ?_ ?_ <;> intro hc <;> try simp only [SL] at hc
   ·refine A3 <| A0 ?_
    (refine A8 rfl rfl (fun _ => rfl) ?_; intro g4)
    refine y_S rfl <| xN [4,5] [4] rfl <| B1 <| C7 (E7 rfl rfl (by simp) (by rfl) (D7 rfl rfl (E3 C0))) ?_
    rw [mkR, hraw, Option.bind_some, if_neg (by rw [Q8]; simp_all; try omega)]
    rfl
   refine A9 <| A3 <| A0 <| y_M rfl ?_
   apply xC rfl
   ·apply A6
    ·exact c5x rfl rfl (by (simp; done)) (A7 fun _ => rfl)
    exact B8
   ·exact c5f r (by simp only [G9]; omega)
   refine ⟨⟨rfl, rfl, rfl, dT rfl, rfl⟩, .inl rfl, B0, H9, fun _ => rfl, fun g158 => ?_⟩
   simp only [List.length_map]
   (refine xO rfl rfl (by simp) rfl (fun _ => rfl) (fun _ => rfl) ?_; intro g4)
   refine y_S rfl <| xN [4,5] [4] rfl <| B1 <| C7 (E7 rfl rfl (by simp) (by exact A7 fun _ => rfl) (D7 rfl rfl (E3 C0))) ?_
   rw [mkR, hraw, Option.bind_some, if_pos (Q8.2 ⟨by omega, by simp_all⟩)]
   rfl
  refine gF rfl rfl <| gF rfl rfl <| E8 rfl (by assumption) rfl rfl <| xN [6,156] [6] rfl ?_
  refine A5 rfl (fun hc => ?_) (fun hc => absurd hc (by decide))
  refine A3 <| A0 ?_
  (refine A8 rfl rfl (fun _ => rfl) ?_; intro g4)
  refine y_S rfl <| xN [4,5] [4] rfl <| B1 <| C7 (E7 rfl rfl (by simp) (by rfl) (D7 rfl rfl (E3 C0))) ?_
  rw [mkR, hraw, Option.bind_some, if_neg (by rw [Q8]; simp_all; try omega)]
  rfl
 try simp only [SD] at hc
 omega

theorem b8n : F3 Tryz.f88 = [0, 1, 2, 6, 7, 16, 17, 21, 25, 9, 30, 8, 41, 10, 46, 62, 11, 67, 71, 91, 13, 96, 12, 109, 113, 120, 126, 14, 130, 145] := by kernel_rfl
theorem c5z (op : ByteArray) (h1 : 1 ≤ nd op) (x y : List Int) (hx : vl x = true) (hy : vl y = true) : CW (cxT oG) 88 [sV op, L x, L y] = some (.tup [.own 1 ((raR op x y).map iV), bV (mkR op x y).isSome], []) := by
 have hx40 := (Q8.1 hx).1
 have hy40 := (Q8.1 hy).1
 have hgx := a0i hx
 have hgy := a0i hy
 have hsx := a2i x
 refine F0 rfl Tryz.func88 rfl ⟨by kernel_rfl, rfl, dT rfl, dT rfl, by decide⟩ b8n <| A3 <| A0 ?_
 (refine A8 rfl rfl (fun _ => rfl) ?_; intro g6)
 refine y_S rfl <| xN [0,1,2] [] rfl <| A3 <| A0 <| B3 (es := List.map iV []) rfl rfl (dT rfl) rfl rfl (fun _ => B2 (A7 fun _ => rfl)) (fun _ => rfl) ?_
 intro g15
 (refine xO rfl rfl (by simp) rfl (fun _ => rfl) (fun _ => rfl) ?_; intro g8)
 refine xN [0,1,2,8] [8] rfl <| c0e <| A3 <| A0 <| y_M rfl <| xN [1,2,8,16] [8] rfl ?_
 refine c9y (β := List Int × Nat × Nat) [] trivial (fun (z : List Int × Nat × Nat) => match z with | (r, n, g) => [(.h 8, .obj g 0 1 (r.map iV)), (.t 8, .sl 8 g none 0 n)]) (fun (z : List Int × Nat × Nat) => match z with | (r, n, g) => N8 op x y = some r ∧ n = r.length ∧ r.length ≤ 80) ?_ ?_
 ·skip
  refine B7 <| A3 <| A0 <| H8 rfl rfl <| y_S rfl <| xN [1,2,8,16,17] [8] rfl ?_
  refine A5 rfl ?_ ?_ <;> intro hc <;> try simp only [SL] at hc
  ·try simp at hc
   refine A0 <| y_M rfl ?_
   apply xC rfl
   ·apply A6
    ·exact B6 rfl
    exact B8
   ·exact c8t x (by omega)
   refine ⟨⟨rfl, rfl, rfl, dT rfl, rfl⟩, .inl rfl, B0, H9, fun _ => rfl, fun g20 => ?_⟩
   simp only [List.length_map]
   (refine xO rfl rfl (by simp) rfl (fun _ => rfl) (fun _ => rfl) ?_; intro g8)
   refine xN [8] [8] rfl ?_
   refine ⟨(_, _, _), ?_, ⟨rfl, rfl, trivial⟩⟩
   exact ⟨(by (simp [N8, *]; done)), (by (simp; done)), (by (simp; omega))⟩
  try simp at hc
  refine A3 <| A0 <| H8 rfl rfl <| y_S rfl <| xN [1,2,8,16,21] [8] rfl ?_
  refine A5 rfl ?_ ?_ <;> intro hc <;> try simp only [SL] at hc
  ·try simp at hc
   refine A0 <| y_M rfl ?_
   apply xC rfl
   ·apply A6
    ·exact B6 rfl
    exact B8
   ·exact c6x x (by omega)
   refine ⟨⟨rfl, rfl, rfl, dT rfl, rfl⟩, .inl rfl, B0, H9, fun _ => rfl, fun g24 => ?_⟩
   simp only [List.length_map]
   (refine xO rfl rfl (by simp) rfl (fun _ => rfl) (fun _ => rfl) ?_; intro g8)
   refine xN [8] [8] rfl ?_
   refine ⟨(_, _, _), ?_, ⟨rfl, rfl, trivial⟩⟩
   exact ⟨(by (simp [N8, *]; done)), (by (simp; done)), (by (simp; omega))⟩
  try simp at hc
  refine A3 <| A0 <| H8 rfl rfl <| y_S rfl <| xN [1,2,8,16,25] [8] rfl ?_
  refine A5 rfl ?_ ?_ <;> intro hc <;> try simp only [SL] at hc
  ·try simp at hc
   refine A3 <| A0 <| y_S rfl <| xN [1,8,9] [8] rfl <| B7 <| F5 (β := Nat × List Int × Nat) [(.t 1, _)] (fun (z : Nat × List Int × Nat) => match z with | (i, l, g) => [(.t 9, iV i), (.h 8, .obj g 0 1 (l.map iV)), (.t 8, .sl 8 g none 0 l.length)]) (fun (z : Nat × List Int × Nat) => match z with | (i, l, g) => i ≤ x.length ∧ l = (List.range i).map (fun i => -(H3 x i))) (fun (z : Nat × List Int × Nat) => match z with | (i, l, g) => x.length - i) (0, [], _) ⟨rfl, rfl, rfl, rfl, trivial⟩ ⟨Nat.zero_le _, rfl⟩ ?_
   intro z hb
   obtain ⟨i, l, g⟩ := z
   try dsimp only at hb
   obtain ⟨hi1, hl⟩ := hb
   have hll : l.length = i := by rw [hl]; simp
   have hgi : -100000 ≤ x.getD i default ∧ x.getD i default ≤ 100000 := hgx i
   have hgyi : -100000 ≤ y.getD i default ∧ y.getD i default ≤ 100000 := hgy i
   refine A3 <| A3 <| A0 <| y_M rfl <| y_M rfl <| C9 rfl rfl <| H4 rfl rfl <| xN [1,8,9,30] [8] rfl ?_
   refine A5 rfl ?_ ?_ <;> intro hc <;> try simp only [SL] at hc
   ·refine A9 <| A3 <| B7 <| A0 <| y_M rfl <| y_M rfl <| y_M rfl <| B5 rfl rfl rfl (fun _ => rfl) (by omega) <| y_I rfl <| b3d rfl (C1 (by omega)) <| B3 (es := List.map iV [_]) rfl rfl (dT rfl) rfl rfl (fun _ => B2 (A7 fun _ => rfl)) (fun _ => rfl) ?_
    intro g39
    refine xA rfl rfl rfl rfl (by simp) (by simp) rfl rfl rfl rfl rfl (fun _ => rfl) (by simp only [LN]; omega) (fun _ => rfl) ?_
    intro g40
    (refine xO rfl rfl (by simp) rfl (fun _ => rfl) (fun _ => rfl) ?_; intro g8)
    refine xN [1,8,9] [8] rfl <| A0 <| y_M rfl <| F8 rfl rfl (C1 (by omega)) <| y_S rfl <| xN [1,8,9] [8] rfl ?_
    refine ⟨(i + 1, l ++ [-(x.getD i default)], _), ?_, (by simp only; omega), ⟨rfl, rfl, rfl, rfl, trivial⟩⟩
    exact ⟨by omega, by rw [hl, U2]; rfl⟩
   refine F6 ?_
   refine ⟨(_, _, _), ?_, ⟨rfl, rfl, trivial⟩⟩
   exact ⟨apF (show l = x.map (fun v => -v) by rw [hl, show i = x.length by omega]; exact a6m x fun v => -v) (by simp [N8, *]), by omega, by omega⟩
  try simp at hc
  refine A3 <| A0 <| H8 rfl rfl <| y_S rfl <| xN [1,2,8,16,41] [8] rfl ?_
  refine A5 rfl ?_ ?_ <;> intro hc <;> try simp only [SL] at hc
  ·try simp at hc
   refine A3 <| A0 <| y_S rfl <| xN [1,8,10] [8] rfl <| B7 <| F5 (β := Nat × List Int × Nat) [(.t 1, _)] (fun (z : Nat × List Int × Nat) => match z with | (i, l, g) => [(.t 10, iV i), (.h 8, .obj g 0 1 (l.map iV)), (.t 8, .sl 8 g none 0 l.length)]) (fun (z : Nat × List Int × Nat) => match z with | (i, l, g) => i ≤ x.length ∧ l = (List.range i).map (fun i => max (H3 x i) (-(H3 x i)))) (fun (z : Nat × List Int × Nat) => match z with | (i, l, g) => x.length - i) (0, [], _) ⟨rfl, rfl, rfl, rfl, trivial⟩ ⟨Nat.zero_le _, rfl⟩ ?_
   intro z hb
   obtain ⟨i, l, g⟩ := z
   try dsimp only at hb
   obtain ⟨hi1, hl⟩ := hb
   have hll : l.length = i := by rw [hl]; simp
   have hgi : -100000 ≤ x.getD i default ∧ x.getD i default ≤ 100000 := hgx i
   have hgyi : -100000 ≤ y.getD i default ∧ y.getD i default ≤ 100000 := hgy i
   refine A3 <| A3 <| A0 <| y_M rfl <| y_M rfl <| C9 rfl rfl <| H4 rfl rfl <| xN [1,8,10,46] [8] rfl ?_
   refine A5 rfl ?_ ?_ <;> intro hc <;> try simp only [SL] at hc
   ·refine A9 <| A3 <| B7 <| A0 <| y_M rfl <| y_M rfl <| y_M rfl <| B5 rfl rfl rfl (fun _ => rfl) (by omega) <| y_I rfl <| y_M rfl <| y_M rfl <| B5 rfl rfl rfl (fun _ => rfl) (by omega) <| y_I rfl <| b3d rfl (C1 (by omega)) <| d4p rfl rfl <| B3 (es := List.map iV [_]) rfl rfl (dT rfl) rfl rfl (fun _ => B2 (A7 fun _ => rfl)) (fun _ => rfl) ?_
    intro g60
    refine xA rfl rfl rfl rfl (by simp) (by simp) rfl rfl rfl rfl rfl (fun _ => rfl) (by simp only [LN]; omega) (fun _ => rfl) ?_
    intro g61
    (refine xO rfl rfl (by simp) rfl (fun _ => rfl) (fun _ => rfl) ?_; intro g8)
    refine K4 ⟨fun _ => ⟨by decide +kernel, by decide +kernel⟩, [(.t 1, _), (.t 8, _), (.t 10, _), (.h 8, _)], ⟨rfl, rfl, rfl, rfl, rfl, rfl, rfl, rfl, trivial⟩, ?_⟩
    refine A0 <| y_M rfl <| F8 rfl rfl (C1 (by omega)) <| y_S rfl <| xN [1,8,10] [8] rfl ?_
    refine ⟨(i + 1, l ++ [max (x.getD i default) (-(x.getD i default))], _), ?_, (by simp only; omega), ⟨rfl, rfl, rfl, rfl, trivial⟩⟩
    exact ⟨by omega, by rw [hl, U2]; rfl⟩
   refine F6 ?_
   refine ⟨(_, _, _), ?_, ⟨rfl, rfl, trivial⟩⟩
   exact ⟨apF (show l = x.map (fun v => max v (-v)) by rw [hl, show i = x.length by omega]; exact a6m x fun v => max v (-v)) (by simp [N8, *]), by omega, by omega⟩
  try simp at hc
  refine A3 <| A0 <| H8 rfl rfl <| y_S rfl <| xN [1,2,8,16,62] [8] rfl ?_
  refine A5 rfl ?_ ?_ <;> intro hc <;> try simp only [SL] at hc
  ·try simp at hc
   refine A3 <| A0 <| y_S rfl <| xN [1,8,11] [8] rfl <| B7 <| F5 (β := Nat × List Int × Nat) [(.t 1, _)] (fun (z : Nat × List Int × Nat) => match z with | (i, l, g) => [(.t 11, iV i), (.h 8, .obj g 0 1 (l.map iV)), (.t 8, .sl 8 g none 0 l.length)]) (fun (z : Nat × List Int × Nat) => match z with | (i, l, g) => i ≤ x.length ∧ l = (List.range i).map (fun i => if i = 0 then H3 x 0 else H3 x i - H3 x (i - 1))) (fun (z : Nat × List Int × Nat) => match z with | (i, l, g) => x.length - i) (0, [], _) ⟨rfl, rfl, rfl, rfl, trivial⟩ ⟨Nat.zero_le _, rfl⟩ ?_
   intro z hb
   obtain ⟨i, l, g⟩ := z
   try dsimp only at hb
   obtain ⟨hi1, hl⟩ := hb
   have hll : l.length = i := by rw [hl]; simp
   have hgi : -100000 ≤ x.getD i default ∧ x.getD i default ≤ 100000 := hgx i
   have hgyi : -100000 ≤ y.getD i default ∧ y.getD i default ≤ 100000 := hgy i
   refine A3 <| A3 <| A0 <| y_M rfl <| y_M rfl <| C9 rfl rfl <| H4 rfl rfl <| xN [1,8,11,67] [8] rfl ?_
   refine A5 rfl ?_ ?_ <;> intro hc <;> try simp only [SL] at hc
   ·refine A9 <| A3 <| B7 <| A3 <| A0 <| y_M rfl <| L0 rfl rfl <| xN [1,8,11,71] [8] rfl ?_
    refine A5 rfl ?_ ?_ <;> intro hc <;> try simp only [SL] at hc
    ·refine A0 <| y_M rfl <| y_M rfl <| B5 rfl rfl rfl (fun _ => rfl) (by (change 0 < _; omega)) <| y_I rfl <| B3 (es := List.map iV [_]) rfl rfl (dT rfl) rfl rfl (fun _ => B2 (A7 fun _ => rfl)) (fun _ => rfl) ?_
     intro g76
     refine xA rfl rfl rfl rfl (by simp) (by simp) rfl rfl rfl rfl rfl (fun _ => rfl) (by simp only [LN]; omega) (fun _ => rfl) ?_
     intro g77
     (refine xO rfl rfl (by simp) rfl (fun _ => rfl) (fun _ => rfl) ?_; intro g8)
     refine xN [1,8,11] [8] rfl <| A0 <| y_M rfl <| F8 rfl rfl (C1 (by omega)) <| y_S rfl <| xN [1,8,11] [8] rfl ?_
     refine ⟨(i + 1, l ++ [x.getD 0 default], _), ?_, (by simp only; omega), ⟨rfl, rfl, rfl, rfl, trivial⟩⟩
     exact ⟨by omega, by rw [hl, U2, if_pos (by omega)]; rfl⟩
    refine A0 <| y_M rfl <| y_M rfl <| y_M rfl <| B5 rfl rfl rfl (fun _ => rfl) (by omega) <| y_I rfl <| y_M rfl <| y_M rfl <| K6 rfl rfl (C1 (by omega)) ?_
    rw [show ((i : Int) - 1) = ((i - 1 : Nat) : Int) by omega]
    have hgi2 : -100000 ≤ x.getD (i - 1) default ∧ x.getD (i - 1) default ≤ 100000 := hgx (i - 1)
    refine B5 rfl rfl rfl (fun _ => rfl) (by omega) <| y_I rfl <| K6 rfl rfl (C1 (by omega)) <| B3 (es := List.map iV [_]) rfl rfl (dT rfl) rfl rfl (fun _ => B2 (A7 fun _ => rfl)) (fun _ => rfl) ?_
    intro g89
    refine xA rfl rfl rfl rfl (by simp) (by simp) rfl rfl rfl rfl rfl (fun _ => rfl) (by simp only [LN]; omega) (fun _ => rfl) ?_
    intro g90
    (refine xO rfl rfl (by simp) rfl (fun _ => rfl) (fun _ => rfl) ?_; intro g8)
    refine K4 ⟨fun _ => ⟨by decide +kernel, by decide +kernel⟩, [(.t 1, _), (.t 8, _), (.t 11, _), (.h 8, _)], ⟨rfl, rfl, rfl, rfl, rfl, rfl, rfl, rfl, trivial⟩, ?_⟩
    refine A0 <| y_M rfl <| F8 rfl rfl (C1 (by omega)) <| y_S rfl <| xN [1,8,11] [8] rfl ?_
    refine ⟨(i + 1, l ++ [x.getD i default - x.getD (i - 1) default], _), ?_, (by simp only; omega), ⟨rfl, rfl, rfl, rfl, trivial⟩⟩
    exact ⟨by omega, by rw [hl, U2, if_neg (by omega)]; rfl⟩
   refine F6 ?_
   refine ⟨(_, _, _), ?_, ⟨rfl, rfl, trivial⟩⟩
   exact ⟨apF (show l = dfI x by rw [hl, show i = x.length by omega]; rfl) (by simp [N8, *]), by omega, by omega⟩
  try simp at hc
  refine A3 <| A0 <| H8 rfl rfl <| y_S rfl <| xN [1,2,8,16,91] [8] rfl ?_
  refine A5 rfl ?_ ?_ <;> intro hc <;> try simp only [SL] at hc
  ·try simp at hc
   refine A3 <| A0 <| y_S rfl <| xN [1,8,12] [8] rfl <| A3 <| A0 <| y_S rfl <| xN [1,8,12,13] [8] rfl <| B7 <| F5 (β := Nat × Int × List Int × Nat) [(.t 1, _)] (fun (z : Nat × Int × List Int × Nat) => match z with | (i, s, l, g) => [(.t 13, iV i), (.t 12, iV s), (.h 8, .obj g 0 1 (l.map iV)), (.t 8, .sl 8 g none 0 l.length)]) (fun (z : Nat × Int × List Int × Nat) => match z with | (i, s, l, g) => i ≤ x.length ∧ s = prS (H3 x) i ∧ l = (List.range i).map fun i => prS (H3 x) (i + 1)) (fun (z : Nat × Int × List Int × Nat) => match z with | (i, s, l, g) => x.length - i) (0, 0, [], _) ⟨rfl, rfl, rfl, rfl, rfl, trivial⟩ ⟨Nat.zero_le _, rfl, rfl⟩ ?_
   intro z hb
   obtain ⟨i, s, l, g⟩ := z
   try dsimp only at hb
   obtain ⟨hi1, hs, hl⟩ := hb
   have hll : l.length = i := by rw [hl]; simp
   have hgi : -100000 ≤ x.getD i default ∧ x.getD i default ≤ 100000 := hgx i
   have hsb := c1o hx i
   rw [← hs] at hsb
   refine A3 <| A3 <| A0 <| y_M rfl <| y_M rfl <| C9 rfl rfl <| H4 rfl rfl <| xN [1,8,12,13,96] [8] rfl ?_
   refine A5 rfl ?_ ?_ <;> intro hc <;> try simp only [SL] at hc
   ·refine A9 <| A3 <| B7 <| A3 <| A0 <| y_M rfl <| y_M rfl <| y_M rfl <| B5 rfl rfl rfl (fun _ => rfl) (by omega) <| y_I rfl <| F8 rfl rfl (C1 (by omega)) <| y_S rfl <| xN [1,8,12,13] [8] rfl <| A0 <| y_M rfl <| y_M rfl <| B3 (es := List.map iV [_]) rfl rfl (dT rfl) rfl rfl (fun _ => B2 (A7 fun _ => rfl)) (fun _ => rfl) ?_
    intro g107
    refine xA rfl rfl rfl rfl (by simp) (by simp) rfl rfl rfl rfl rfl (fun _ => rfl) (by simp only [LN]; omega) (fun _ => rfl) ?_
    intro g108
    (refine xO rfl rfl (by simp) rfl (fun _ => rfl) (fun _ => rfl) ?_; intro g8)
    refine xN [1,8,12,13] [8] rfl <| A0 <| y_M rfl <| F8 rfl rfl (C1 (by omega)) <| y_S rfl <| xN [1,8,12,13] [8] rfl ?_
    refine ⟨(i + 1, s + x.getD i default, l ++ [s + x.getD i default], _), ?_, (by simp only; omega), ⟨rfl, rfl, rfl, rfl, rfl, trivial⟩⟩
    exact ⟨by omega, by rw [prS, hs]; rfl, by rw [hl, U2, prS, hs]; rfl⟩
   refine F6 ?_
   refine ⟨(_, _, _), ?_, ⟨rfl, rfl, trivial⟩⟩
   exact ⟨apF (show l = smI x by rw [hl, show i = x.length by omega]; rfl) (by simp [N8, *]), by omega, by omega⟩
  try simp at hc
  refine A3 <| A0 <| H8 rfl rfl <| y_S rfl <| xN [1,2,8,16,109] [8] rfl ?_
  refine A5 rfl ?_ ?_ <;> intro hc <;> try simp only [SL] at hc
  ·try simp at hc
   refine A0 <| y_M rfl ?_
   apply xC rfl
   ·apply A6
    ·exact B6 rfl
    exact B8
   ·exact d1u x hx
   refine ⟨⟨rfl, rfl, rfl, dT rfl, rfl⟩, .inl rfl, B0, H9, fun _ => rfl, fun g112 => ?_⟩
   simp only [List.length_map]
   (refine xO rfl rfl (by simp) rfl (fun _ => rfl) (fun _ => rfl) ?_; intro g8)
   refine xN [8] [8] rfl ?_
   refine ⟨(_, _, _), ?_, ⟨rfl, rfl, trivial⟩⟩
   exact ⟨(by (simp [N8, rkI, *]; done)), (by (simp [dfI, smI, rkI, adI]; done)), (by (simp; omega))⟩
  try simp at hc
  refine A3 <| A0 <| H8 rfl rfl <| y_S rfl <| xN [1,2,8,16,113] [8] rfl ?_
  refine A5 rfl ?_ ?_ <;> intro hc <;> try simp only [SL] at hc
  ·try simp at hc
   refine A0 <| y_M rfl <| y_M rfl ?_
   refine xC1 rfl rfl (d5t x hx) ⟨rfl, rfl, rfl⟩ rfl rfl fun g117 => ?_
   refine B3 (es := List.map iV [_]) rfl rfl (dT rfl) rfl rfl (fun _ => B2 (A7 fun _ => rfl)) (fun _ => rfl) ?_
   intro g118
   refine xA rfl rfl rfl rfl (by simp) (by simp) rfl rfl rfl rfl rfl (fun _ => rfl) (by simp only [LN]; omega) (fun _ => rfl) ?_
   intro g119
   (refine xO rfl rfl (by simp) rfl (fun _ => rfl) (fun _ => rfl) ?_; intro g8)
   refine xN [8] [8] rfl ?_
   refine ⟨(_, _, _), ?_, ⟨rfl, rfl, trivial⟩⟩
   exact ⟨(by (simp [N8, *]; done)), (by (simp; done)), (by (simp; done))⟩
  try simp at hc
  refine A3 <| A0 <| H8 rfl rfl <| y_S rfl <| xN [1,2,8,16,120] [8] rfl ?_
  refine A5 rfl ?_ ?_ <;> intro hc <;> try simp only [SL] at hc
  ·try simp at hc
   refine A3 <| A3 <| A0 <| y_M rfl <| C9 rfl rfl <| y_M rfl <| C9 rfl rfl <| a9o rfl rfl <| xN [1,2,8,126] [8] rfl ?_
   refine A5 rfl ?_ ?_ <;> intro hc <;> try simp only [SL] at hc
   ·refine A3 <| A0 ?_
    (refine A8 rfl rfl (fun _ => rfl) ?_; intro g6)
    refine y_S rfl <| xN [6,7] [6] rfl <| B1 <| C7 (E7 rfl rfl (by simp) (by rfl) (D7 rfl rfl (E3 C0))) ?_
    have hne : ¬ x.length = y.length := by omega
    rw [show mkR op x y = none from by simp [mkR, N8, *], show raR op x y = [] from by simp [raR, N8, *]]
    rfl
   refine A9 <| A3 <| A0 <| y_S rfl <| xN [1,2,8,14] [8] rfl <| B7 <| F5 (β := Nat × List Int × Nat) [(.t 1, _), (.t 2, _)] (fun (z : Nat × List Int × Nat) => match z with | (i, l, g) => [(.t 14, iV i), (.h 8, .obj g 0 1 (l.map iV)), (.t 8, .sl 8 g none 0 l.length)]) (fun (z : Nat × List Int × Nat) => match z with | (i, l, g) => i ≤ x.length ∧ l = (List.range i).map (fun i => H3 x i + H3 y i)) (fun (z : Nat × List Int × Nat) => match z with | (i, l, g) => x.length - i) (0, [], _) ⟨rfl, rfl, rfl, rfl, rfl, trivial⟩ ⟨Nat.zero_le _, rfl⟩ ?_
   intro z hb
   obtain ⟨i, l, g⟩ := z
   try dsimp only at hb
   obtain ⟨hi1, hl⟩ := hb
   have hll : l.length = i := by rw [hl]; simp
   have hgi : -100000 ≤ x.getD i default ∧ x.getD i default ≤ 100000 := hgx i
   have hgyi : -100000 ≤ y.getD i default ∧ y.getD i default ≤ 100000 := hgy i
   refine A3 <| A3 <| A0 <| y_M rfl <| y_M rfl <| C9 rfl rfl <| H4 rfl rfl <| xN [1,2,8,14,130] [8] rfl ?_
   refine A5 rfl ?_ ?_ <;> intro hc <;> try simp only [SL] at hc
   ·refine A9 <| A3 <| B7 <| A0 <| y_M rfl <| y_M rfl <| y_M rfl <| B5 rfl rfl rfl (fun _ => rfl) (by omega) <| y_I rfl <| y_M rfl <| y_M rfl <| B5 rfl rfl rfl (fun _ => rfl) (by omega) <| y_I rfl <| F8 rfl rfl (C1 (by omega)) <| B3 (es := List.map iV [_]) rfl rfl (dT rfl) rfl rfl (fun _ => B2 (A7 fun _ => rfl)) (fun _ => rfl) ?_
    intro g143
    refine xA rfl rfl rfl rfl (by simp) (by simp) rfl rfl rfl rfl rfl (fun _ => rfl) (by simp only [LN]; omega) (fun _ => rfl) ?_
    intro g144
    (refine xO rfl rfl (by simp) rfl (fun _ => rfl) (fun _ => rfl) ?_; intro g8)
    refine K4 ⟨fun _ => ⟨by decide +kernel, by decide +kernel⟩, [(.t 1, _), (.t 2, _), (.t 8, _), (.t 14, _), (.h 8, _)], ⟨rfl, rfl, rfl, rfl, rfl, rfl, rfl, rfl, rfl, rfl, trivial⟩, ?_⟩
    refine A0 <| y_M rfl <| F8 rfl rfl (C1 (by omega)) <| y_S rfl <| xN [1,2,8,14] [8] rfl ?_
    refine ⟨(i + 1, l ++ [x.getD i default + y.getD i default], _), ?_, (by simp only; omega), ⟨rfl, rfl, rfl, rfl, rfl, trivial⟩⟩
    exact ⟨by omega, by rw [hl, U2]; rfl⟩
   refine F6 ?_
   refine ⟨(_, _, _), ?_, ⟨rfl, rfl, trivial⟩⟩
   exact ⟨adF (by assumption) (by omega) (by rw [hl, show i = x.length by omega]; rfl) rfl, by omega, by omega⟩
  try simp at hc
  refine A3 <| A0 <| H8 rfl rfl <| y_S rfl <| xN [1,2,8,145] [8] rfl ?_
  refine A5 rfl ?_ ?_ <;> intro hc <;> try simp only [SL] at hc
  ·try simp at hc
   refine A0 <| y_M rfl <| y_M rfl <| V3 rfl rfl rfl (by (simp; done)) rfl rfl rfl (dT rfl) (fun _ => ⟨rfl, rfl, rfl⟩) (by simp only [G9]; (simp only [List.length_nil, List.length_cons, List.length_append, Nat.zero_add, List.length_map]; omega)) (fun _ => rfl) ?_
   intro g149
   refine y_M rfl <| V3 rfl rfl rfl (by (simp; done)) rfl rfl rfl (dT rfl) (fun _ => ⟨rfl, rfl, rfl⟩) (by simp only [G9]; (simp only [List.length_nil, List.length_cons, List.length_append, Nat.zero_add, List.length_map]; omega)) (fun _ => rfl) ?_
   intro g151
   (refine xO rfl rfl (by simp) rfl (fun _ => rfl) (fun _ => rfl) ?_; intro g8)
   refine xN [8] [8] rfl ?_
   refine ⟨(_, _, _), ?_, ⟨rfl, rfl, trivial⟩⟩
   exact ⟨(by (simp [N8, *]; done)), (by (simp; done)), (by (simp; omega))⟩
  try simp at hc
  refine A9 ?_
  refine ⟨(_, _, _), ?_, ⟨rfl, rfl, trivial⟩⟩
  exact absurd (d2b h1) (by simp [*])
 intro z hb
 obtain ⟨r, n, g⟩ := z
 try dsimp only at hb
 obtain ⟨hraw, hn, hr80⟩ := hb
 subst hn
 refine A3 <| A0 <| y_M rfl <| y_M rfl ?_
 apply xC rfl
 ·apply A6
  ·exact E5 rfl rfl rfl (by (simp; done)) (fun _ => rfl)
  exact B8
 ·exact b9i r (by omega)
 refine ⟨⟨rfl, rfl, rfl, dT rfl, rfl⟩, .inr ⟨rfl, rfl⟩, B0, B9 rfl, fun _ => rfl, fun g154 => ?_⟩
 (refine xO rfl rfl (by simp) rfl (fun _ => rfl) (fun _ => rfl) ?_; intro g6)
 refine y_S rfl <| xN [6,7] [6] rfl <| B1 <| C7 (E7 rfl rfl (by simp) (by exact A7 fun _ => rfl) (D7 rfl rfl (E3 C0))) ?_
 rw [raR, mkR, hraw, Option.bind_some, Option.getD_some]
 cases hvr : vl r <;> rfl
end Go.Proofs.YtcpmbhfnapijaaaGreatDoor
