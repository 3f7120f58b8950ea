/- What each function of the program gives on the abstract machine, part 1 of 2. Conditions: those in front of each theorem. -/
import Derived.Test.YtagllmiiglicfaaGreatDoorMd
import Derived.Test.YtagllmiiglicfaaGreatDoorChecked
import Derived.KernelRfl

set_option linter.unusedVariables false
set_option linter.unusedSimpArgs false
namespace Go.Proofs.YtagllmiiglicfaaGreatDoor
open Go Go.Mv Go.Proofs
set_option maxRecDepth 100000
set_option maxHeartbeats 20000000

theorem SD : (∀ {p : Prop} [Decidable p], (decide p = true) = p) ∧ (∀ {p : Prop} {_ : Decidable p}, decide p = false ↔ ¬p) ∧ (∀ (b : Bool), ((!b) = true) = (b = false)) ∧ (∀ (b : Bool), ((!b) = false) = (b = true)) ∧ (∀ {α : Type} [BEq α] [LawfulBEq α] {a b : α}, (a != b) = true ↔ a ≠ b) ∧
    (∀ {α : Type} [BEq α] [LawfulBEq α] {a b : α}, (a == b) = true ↔ a = b) ∧ (∀ {α : Type} (a b : α), (a ≠ b) = ¬a = b) ∧ (!true) = false ∧ (!false) = true ∧ (∀ {α : Type} [BEq α] [LawfulBEq α] {a b : α}, (a == b) = false ↔ a ≠ b) ∧ (∀ {α : Type} [BEq α] [LawfulBEq α] {a b : α}, (a != b) = false ↔ a = b) ∧
    (∀ {p : Prop} [Decidable p], ¬¬p ↔ p) ∧ (∀ {a b : Int}, ¬a < b ↔ b ≤ a) ∧ (∀ {a b : Int}, ¬a ≤ b ↔ b < a) :=
  ⟨@decide_eq_true_eq, @decide_eq_false_iff_not, @Bool.not_eq_true', @Bool.not_eq_false', @bne_iff_ne, @beq_iff_eq, @ne_eq, @Bool.not_true, @Bool.not_false, @beq_eq_false_iff_ne, @bne_eq_false_iff_eq, @Decidable.not_not, @Int.not_lt, @Int.not_le⟩
theorem SG : ((∀ {p : Prop} [Decidable p], (decide p = true) = p) ∧ (∀ {p : Prop} {_ : Decidable p}, decide p = false ↔ ¬p) ∧ (∀ (b : Bool), ((!b) = true) = (b = false)) ∧ (∀ (b : Bool), ((!b) = false) = (b = true)) ∧ (∀ {α : Type} [BEq α] [LawfulBEq α] {a b : α}, (a != b) = true ↔ a ≠ b) ∧
    (∀ {α : Type} [BEq α] [LawfulBEq α] {a b : α}, (a == b) = true ↔ a = b) ∧ (∀ {α : Type} (a b : α), (a ≠ b) = ¬a = b) ∧ (!true) = false ∧ (!false) = true ∧ (∀ {α : Type} [BEq α] [LawfulBEq α] {a b : α}, (a == b) = false ↔ a ≠ b) ∧ (∀ {α : Type} [BEq α] [LawfulBEq α] {a b : α}, (a != b) = false ↔ a = b) ∧
    (∀ {p : Prop} [Decidable p], ¬¬p ↔ p) ∧ (∀ {a b : Int}, ¬a < b ↔ b ≤ a) ∧ (∀ {a b : Int}, ¬a ≤ b ↔ b < a)) ∧
    (∀ (a b : Bool), ((a && b) = true) = (a = true ∧ b = true)) ∧ (∀ {x y : Bool}, (x && y) = false ↔ x = false ∨ y = false) ∧ (∀ (a b : Bool), ((a || b) = true) = (a = true ∨ b = true)) ∧ (∀ {x y : Bool}, (x || y) = false ↔ x = false ∧ y = false) :=
  ⟨SD, @Bool.and_eq_true, @Bool.and_eq_false_iff, @Bool.or_eq_true, @Bool.or_eq_false_iff⟩
def c7e (keep : List Nat) (A : Asr) : List Mv.Loc → Asr → Option Asr
  | l :: ls, B => match keepLoc keep l, Mv.look A l with
    | true, some a => c7e keep A ls ((l, a) :: B)
    | _, _ => none
  | [], B => some B
theorem c4s {keep : List Nat} {A : Asr} : ∀ (ls : List Mv.Loc) {B C : Asr}, KeepL keep A B → c7e keep A ls B = some C → KeepL keep A C
  | [], B, C, h, e => by simp only [c7e, Option.some.injEq] at e; rw [← e]; exact h
  | l :: ls, B, C, h, e => by
    simp only [c7e] at e
    split at e
    · exact c4s ls (show KeepL keep A ((l, _) :: B) from ⟨by assumption, by assumption, h⟩) e
    · cases e
theorem kS (ts hs : List Nat) {keep : List Nat} {A B : Asr} (h : c7e keep A (ts.map .t ++ hs.map .h) [] = some B) : KeepL keep A B := c4s _ (show KeepL keep A [] from trivial) h
section
variable {cx : Cx} {keep : List Nat} {ops0 : Array Oper} {r : List Oper} {A : Asr} {Q : Asr → List Log → Prop}
variable {d ty : Nat} {pos : String} {aft : Array Edge}
theorem gT {op : Op} {dst : Option Nat} {g dg : Nat} {want b : Bool} (hd : (ops0[g]?).bind (·.dst) = some dg) (hb : Mv.look A (.t dg) = some (.val (.bool b)))
    (h : XR cx keep ops0 (⟨dst, op, ty, pos, aft, none⟩ :: r) A fun A' lg => Q A' (c4i (.t dg) lg)) (hw : b = want := by assumption) : XR cx keep ops0 (⟨dst, op, ty, pos, aft, some (g, want)⟩ :: r) A Q := T9 hd hb hw h
theorem gF {op : Op} {g dg : Nat} {want b : Bool} (hd : (ops0[g]?).bind (·.dst) = some dg) (hb : Mv.look A (.t dg) = some (.val (.bool b)))
    (h : XR cx keep ops0 r ((.t d, .val (.tuple #[])) :: A) fun A' lg => Q A' (([.t dg], [.t d]) :: lg)) (hw : b = !want := by assumption) : XR cx keep ops0 (⟨some d, op, ty, pos, aft, some (g, want)⟩ :: r) A Q := F4 hd hb hw h
theorem xN {B : Asr} {p : Asr → List Log → Prop} {R : Asr → Prop} (ts hs : List Nat) (h : c7e keep A (ts.map .t ++ hs.map .h) [] = some B) (q : R B) :
    XR cx keep ops0 [] A (fun A' lg => (false = true → p A' lg) ∧ ∃ B, KeepL keep A' B ∧ R B) := G2 ⟨nofun, B, kS ts hs h, q⟩
theorem xC {G : Type} {k : Nat} {args : Array Operand} {Ts : Array Nat} {vs av : List AV} {ids : List (Nat × Bool)} {wp wb : Ws} {lp lb li : List Mv.Loc} {res : AV} {outs : List (List AV)} {v : G → AV} {wi : G → Ws}
    (hv : opds A args.toList = some vs) (hp : a5h (CW cx) A (cx.md k) 0 vs av ids wp lp) (hC : CW cx k av = some (res, outs))
    (hr : (apartIds ids = true ∧ M1 ((Y0 (cx.md k) 0 vs).map (·.1)) = true ∧ M1 ((cidAll (cx.md k) 0 av).map (·.1)) = true ∧ av.length ≤ 1000 ∧ a0g av = true) ∧
      (ids.all (fun x => x.2) = true ∨ (hasList res = false ∧ outs.any E3 = false)) ∧
      b4k (CW cx) (puts A wp) (Y0 (cx.md k) 0 vs) outs wb lb ∧ a6j (CW cx) (puts (puts A wp) wb) d res v wi li ∧
      (∀ g, tRefsOk keep (keptWs keep (wp ++ (wb ++ (wi g ++ [(.t d, v g)])))) = true) ∧
      ∀ g, XR cx keep ops0 r (I1 A (wp ++ (wb ++ (wi g ++ [(.t d, v g)])))) fun A' lg => Q A' ((a0j args.toList ++ (lp ++ (lb ++ li)), M5 (wp ++ (wb ++ (wi g ++ [(.t d, v g)])))) :: lg)) :
    XR cx keep ops0 (⟨some d, .call ⟨.value (.func k), args, Ts⟩, ty, pos, aft, none⟩ :: r) A Q :=
  a2d hv hp hC hr.1 hr.2.1 hr.2.2.1 hr.2.2.2.1 hr.2.2.2.2.1 hr.2.2.2.2.2
theorem xC1 {k : Nat} {Ts : Array Nat} {x1 : Operand} {v1 res : AV} (hx : opds A [x1] = some [v1]) (p1 : S8 v1 = true) (hC : CW cx k [v1] = some (res, []))
    (hb : Y0 (cx.md k) 0 [v1] = [] ∧ M1 ((cidAll (cx.md k) 0 [v1]).map (·.1)) = true ∧ a0g [v1] = true) (hi : I5 res = true) (hk : tRefsOk keep (keptWs keep [(.t d, res)]) = true)
    (h : ∀ _ : Unit, XR cx keep ops0 r (I1 A [(.t d, res)]) fun A' lg => Q A' ((a0j [x1], [.t d]) :: lg)) : XR cx keep ops0 (⟨some d, .call ⟨.value (.func k), #[x1], Ts⟩, ty, pos, aft, none⟩ :: r) A Q :=
  a2d hx (B0 (B6 p1) C6) hC ⟨rfl, by rw [hb.1]; rfl, hb.2.1, by simp, hb.2.2⟩ (.inl rfl) (by rw [hb.1]; exact B4) (E6 hi) (fun _ => hk) (fun g => by have := h g; simpa [M5] using this)
theorem xC2 {k : Nat} {Ts : Array Nat} {x1 x2 : Operand} {v1 v2 res : AV} (hx : opds A [x1, x2] = some [v1, v2]) (p1 : S8 v1 = true) (p2 : S8 v2 = true) (hC : CW cx k [v1, v2] = some (res, []))
    (hb : Y0 (cx.md k) 0 [v1, v2] = [] ∧ M1 ((cidAll (cx.md k) 0 [v1, v2]).map (·.1)) = true ∧ a0g [v1, v2] = true) (hi : I5 res = true) (hk : tRefsOk keep (keptWs keep [(.t d, res)]) = true)
    (h : ∀ _ : Unit, XR cx keep ops0 r (I1 A [(.t d, res)]) fun A' lg => Q A' ((a0j [x1, x2], [.t d]) :: lg)) : XR cx keep ops0 (⟨some d, .call ⟨.value (.func k), #[x1, x2], Ts⟩, ty, pos, aft, none⟩ :: r) A Q :=
  a2d hx (B0 (B6 p1) (B0 (B6 p2) C6)) hC ⟨rfl, by rw [hb.1]; rfl, hb.2.1, by simp, hb.2.2⟩ (.inl rfl) (by rw [hb.1]; exact B4) (E6 hi) (fun _ => hk) (fun g => by have := h g; simpa [M5] using this)
theorem xC3 {k : Nat} {Ts : Array Nat} {x1 x2 x3 : Operand} {v1 v2 v3 res : AV} (hx : opds A [x1, x2, x3] = some [v1, v2, v3]) (p1 : S8 v1 = true) (p2 : S8 v2 = true) (p3 : S8 v3 = true) (hC : CW cx k [v1, v2, v3] = some (res, []))
    (hb : Y0 (cx.md k) 0 [v1, v2, v3] = [] ∧ M1 ((cidAll (cx.md k) 0 [v1, v2, v3]).map (·.1)) = true ∧ a0g [v1, v2, v3] = true) (hi : I5 res = true) (hk : tRefsOk keep (keptWs keep [(.t d, res)]) = true)
    (h : ∀ _ : Unit, XR cx keep ops0 r (I1 A [(.t d, res)]) fun A' lg => Q A' ((a0j [x1, x2, x3], [.t d]) :: lg)) : XR cx keep ops0 (⟨some d, .call ⟨.value (.func k), #[x1, x2, x3], Ts⟩, ty, pos, aft, none⟩ :: r) A Q :=
  a2d hx (B0 (B6 p1) (B0 (B6 p2) (B0 (B6 p3) C6))) hC ⟨rfl, by rw [hb.1]; rfl, hb.2.1, by simp, hb.2.2⟩ (.inl rfl) (by rw [hb.1]; exact B4) (E6 hi) (fun _ => hk) (fun g => by have := h g; simpa [M5] using this)
theorem xO {α : Type} {f : α → AV} {xs : List α} {x : Operand} {id g s n : Nat} (hx : opd A x = some (.sl id g none 0 n)) (ho : Mv.look A (.h id) = some (.obj g 0 s (xs.map f))) (hn : n = (xs.map f).length) (hne : Loc.beq (.h d) (.h id) = false) (hf : ∀ a, J5 (f a) = true)
    (hk : ∀ g, slotOk keep (.t d) (.sl d g none 0 n) = true) (h : ∀ g', XR cx keep ops0 r ((.t d, .sl d g' none 0 n) :: (.h d, .obj g' 0 s (xs.map f)) :: (.h id, .dead g) :: A) fun A' lg => Q A' ((rds x ++ [.h id, .h d], [.h id, .h d, .t d]) :: lg)) :
    XR cx keep ops0 (⟨some d, .assign x, ty, pos, aft, none⟩ :: r) A Q := F0 hx ho hn hne (fun _ => B3 (A6 hf)) hk h
theorem xB {T id g m s : Nat} {a x : Operand} {e v : AV} (ha : opd A a = some (.ptr id g none 0 0)) (hx : opd A x = some v) (ho : Mv.look A (.h id) = some (.obj g m s [e])) (hl : b0i (leaves e) v = true)
    (hc : decide (m ≠ 2 ∧ (leaves v).length = (tyS cx.P T).size ∧ 0 < (leaves v).length ∧ (leaves v).length ≤ (leaves e).length) = true) (hw : T4 (leaves v) (leaves e) = true) (hp : putAt e 0 v = v) (hm : decide (m = 3) = true) (hi : M3 [v] = true)
    (h : XR cx keep ops0 r ((.h id, .obj g m s [v]) :: A) fun A' lg => Q A' ((rds a ++ (rds x ++ [.h id, .h id, .h id]), [.h id]) :: lg)) : XR cx keep ops0 (⟨none, .store T a x, ty, pos, aft, none⟩ :: r) A Q := by
  obtain ⟨h1, h2, h3, h4⟩ := of_decide_eq_true hc
  exact b7g ha hx ho hl ⟨h1, h2, h3, h4, hw⟩ hp (by rw [of_decide_eq_true hm]; exact I2 hi) h
theorem xA {α : Type} {f : α → AV} {xs ys : List α} {T T' E s id g n id2 g2 n2 : Nat} {x y : Operand} {z : AV} (hx : opd A x = some (.sl id g none 0 n)) (hy : opd A y = some (.sl id2 g2 none 0 n2)) (ho : Mv.look A (.h id) = some (.obj g 0 s (xs.map f))) (ho2 : Mv.look A (.h id2) = some (.obj g2 0 s (ys.map f)))
    (hn : n = (xs.map f).length) (hn2 : n2 = (ys.map f).length) (hd : (decide (1000000 ≤ id2) && !Loc.beq (.h id) (.h id2)) = true) (hT : S3 cx.P T = some (E, s)) (hT' : K1 (tyS cx.P T').k = true) (hz : Z1 cx.P E = some (z, s)) (hb : decide ((tyS cx.P E).bytes ≤ 4096) = true) (hf : ∀ a, ((leaves (f a)).all cellLeaf && J5 (f a)) = true)
    (hle : xs.length + ys.length ≤ 4294967296) (hk : ∀ g, slotOk keep (.t d) (.sl (tid d 0) g none 0 (xs ++ ys).length) = true)
    (h : ∀ g', XR cx keep ops0 r ((.t d, .sl (tid d 0) g' none 0 (xs ++ ys).length) :: (.h (tid d 0), .obj g' 0 s ((xs ++ ys).map f)) :: (.h id, .dead g) :: (.h id2, .dead g2) :: A) fun A' lg => Q A' ((rds x ++ (rds y ++ [.h id2, .h id, .h (tid d 0)]), [.h id2, .h id, .h (tid d 0), .t d]) :: lg)) :
    XR cx keep ops0 (⟨some d, .call ⟨.builtin .append, #[x, y], #[T, T']⟩, ty, pos, aft, none⟩ :: r) A Q := by
  simp only [Bool.and_eq_true, decide_eq_true_eq, Bool.not_eq_true'] at hd hf
  exact U5 hx hy ho ho2 hn hn2 hd.1 hd.2 hT hT' hz (of_decide_eq_true hb) hf (Nat.le_trans hle (by decide)) hk h
theorem y_M {x : Operand} {v : AV} (e : (opd A x, slotOk keep (.t d) v) = (some v, true)) (h : XR cx keep ops0 r ((.t d, v) :: A) fun A' lg => Q A' ((rds x, [.t d]) :: lg)) : XR cx keep ops0 (⟨some d, .move x, ty, pos, aft, none⟩ :: r) A Q := by
  simp only [Prod.mk.injEq] at e
  exact d3h e.1 e.2 h
theorem y_S {x : Operand} {v : AV} (e : (opd A x, a1p v, slotOk keep (.t d) v) = (some v, true, true)) (h : XR cx keep ops0 r ((.t d, v) :: A) fun A' lg => Q A' ((rds x, [.t d]) :: lg)) : XR cx keep ops0 (⟨some d, .assign x, ty, pos, aft, none⟩ :: r) A Q := by
  simp only [Prod.mk.injEq] at e
  exact c9n e.1 e.2.1 e.2.2 h
theorem y_F {x : Operand} {S f o ft : Nat} {v v' : AV} (e : (opd A x, (match (tyS cx.P S).k with | .struct fs => fs[f]? | _ => none), decide ((tyS cx.P ft).size ≠ 0), (match v with | .ptr id g p i j => some (AV.ptr id g p i (j + o)) | .ipt e j => some (.ipt e (j + o)) | _ => none), slotOk keep (.t d) v') = (some v, some (o, ft), true, some v', true)) (h : XR cx keep ops0 r ((.t d, v') :: A) fun A' lg => Q A' ((rds x, [.t d]) :: lg)) : XR cx keep ops0 (⟨some d, .fieldAddr S x f, ty, pos, aft, none⟩ :: r) A Q := by
  simp only [Prod.mk.injEq] at e
  refine b9b e.1 e.2.1 (of_decide_eq_true e.2.2.1) ?_ e.2.2.2.2 h
  have e4 := e.2.2.2.1
  cases v <;> exact e4
theorem y_L {a : Operand} {T id g m s i j : Nat} {es : List AV} {e0 v : AV} (e : (opd A a, Mv.look A (.h id), es[i]?, ((leaves e0).all fun l => !isOwn l), partF cx.P T ((leaves e0).drop j), slotOk keep (.t d) v) = (some (.ptr id g none i j), some (.obj g m s es), some e0, true, some v, true)) (h : XR cx keep ops0 r ((.t d, v) :: A) fun A' lg => Q A' ((rds a ++ [.h id], [.t d]) :: lg)) : XR cx keep ops0 (⟨some d, .load T a, ty, pos, aft, none⟩ :: r) A Q := by
  simp only [Prod.mk.injEq] at e
  exact a4l e.1 e.2.1 e.2.2.1 e.2.2.2.1 e.2.2.2.2.1 e.2.2.2.2.2 h
theorem y_E {x : Operand} {i : Nat} {vs : List AV} {v : AV} (e : (opd A x, vs[i]?, slotOk keep (.t d) v) = (some (.tup vs), some v, true)) (h : XR cx keep ops0 r ((.t d, v) :: A) fun A' lg => Q A' ((rds x, [.t d]) :: lg)) : XR cx keep ops0 (⟨some d, .extract x i, ty, pos, aft, none⟩ :: r) A Q := by
  simp only [Prod.mk.injEq] at e
  exact c5v e.1 e.2.1 e.2.2 h
theorem y_B {a : Operand} {T id g m s : Nat} {v : AV} (e : (opd A a, Mv.look A (.h id), ((leaves v).all fun l => !isOwn l), partF cx.P T (leaves v), slotOk keep (.t d) v) = (some (.ptr id g none 0 0), some (.obj g m s [v]), true, some v, true)) (h : XR cx keep ops0 r ((.t d, v) :: A) fun A' lg => Q A' ((rds a ++ [.h id], [.t d]) :: lg)) : XR cx keep ops0 (⟨some d, .load T a, ty, pos, aft, none⟩ :: r) A Q := by
  simp only [Prod.mk.injEq] at e
  exact c1e e.1 e.2.1 e.2.2.1 e.2.2.2.1 e.2.2.2.2 h
theorem y_I {a : Operand} {T : Nat} {v : AV} (e : (opd A a, partF cx.P T (leaves v), slotOk keep (.t d) v) = (some (.ipt v 0), some v, true)) (h : XR cx keep ops0 r ((.t d, v) :: A) fun A' lg => Q A' ((rds a, [.t d]) :: lg)) : XR cx keep ops0 (⟨some d, .load T a, ty, pos, aft, none⟩ :: r) A Q := by
  simp only [Prod.mk.injEq] at e
  exact b9u e.1 e.2.1 e.2.2 h
theorem y_A {T s : Nat} {z : AV} (e : (Z1 cx.P T, M3 [z], slotOk keep (.t d) (.ptr d 0 none 0 0)) = (some (z, s), true, true)) (hk : ∀ g, slotOk keep (.t d) (.ptr d g none 0 0) = true)
    (h : ∀ g, XR cx keep ops0 r ((.t d, .ptr d g none 0 0) :: (.h d, .obj g 3 s [z]) :: A) fun A' lg => Q A' (([.h d], [.h d, .t d]) :: lg)) : XR cx keep ops0 (⟨some d, .alloc T, ty, pos, aft, none⟩ :: r) A Q := by
  simp only [Prod.mk.injEq] at e
  exact d1e e.1 (fun _ => I2 e.2.1) hk h
end
theorem SL : (∀ {α β : Type} {av : List α} (f : α → β), (av.map f).length = av.length) ∧ (((∀ {p : Prop} [Decidable p], (decide p = true) = p) ∧ (∀ {p : Prop} {_ : Decidable p}, decide p = false ↔ ¬p) ∧ (∀ (b : Bool), ((!b) = true) = (b = false)) ∧ (∀ (b : Bool), ((!b) = false) = (b = true)) ∧ (∀ {α : Type} [BEq α] [LawfulBEq α] {a b : α}, (a != b) = true ↔ a ≠ b) ∧
    (∀ {α : Type} [BEq α] [LawfulBEq α] {a b : α}, (a == b) = true ↔ a = b) ∧ (∀ {α : Type} (a b : α), (a ≠ b) = ¬a = b) ∧ (!true) = false ∧ (!false) = true ∧ (∀ {α : Type} [BEq α] [LawfulBEq α] {a b : α}, (a == b) = false ↔ a ≠ b) ∧ (∀ {α : Type} [BEq α] [LawfulBEq α] {a b : α}, (a != b) = false ↔ a = b) ∧
    (∀ {p : Prop} [Decidable p], ¬¬p ↔ p) ∧ (∀ {a b : Int}, ¬a < b ↔ b ≤ a) ∧ (∀ {a b : Int}, ¬a ≤ b ↔ b < a)) ∧
    (∀ (a b : Bool), ((a && b) = true) = (a = true ∧ b = true)) ∧ (∀ {x y : Bool}, (x && y) = false ↔ x = false ∨ y = false) ∧ (∀ (a b : Bool), ((a || b) = true) = (a = true ∨ b = true)) ∧ (∀ {x y : Bool}, (x || y) = false ↔ x = false ∧ y = false)) := ⟨@List.length_map.{0, 0}, SG⟩
theorem LN : (∀ {α : Type}, ([] : List α).length = 0) ∧ (∀ {α : Type} {a : α} {l : List α}, (a :: l).length = l.length + 1) ∧ (∀ {α : Type} {a b : List α}, (a ++ b).length = a.length + b.length) ∧ (∀ n : Nat, 0 + n = n) ∧ (∀ {α β : Type} {l : List α} (f : α → β), (l.map f).length = l.length) := ⟨rfl, rfl, List.length_append, Nat.zero_add, List.length_map.{0, 0}⟩
theorem dT {p : Prop} [Decidable p] (h : decide p = true) : p := of_decide_eq_true h

def mdT : List (Nat × List Nat) := [(4, [3, 3, 3, 3]), (7, [4]), (9, [3, 3, 3, 3]), (10, [0, 2]), (11, [3, 3, 3, 3]), (12, [0, 2]), (13, [2]), (16, [1]), (19, [3, 3, 3, 3]), (21, [3, 3, 3, 3]), (30, [3, 3, 3, 3]), (31, [2])]
noncomputable def d3b : List (Nat × (List AV → Option (AV × List (List AV)))) := [(29, b1v), (32, a6r), (48, b8v), (49, b8u), (50, b6u), (76, b1m), (77, b7b)]
noncomputable def cxT : Cx := { P := Tryz.prog, md := d4a mdT, ext := c4p d3b, it := fun _ => none, fz := fun k => [9, 11, 19, 21, 30].contains k, fzB := fun T d => [(28, 58), (22, 98)].contains (T, d) }
noncomputable def cxE : Cx := { P := Tryz.prog, md := d4a mdT, ext := fun _ => none, fz := fun k => [9, 11, 19, 21, 30].contains k }
theorem c4m (l : List UInt8) (b : UInt8) (hl : l.length < 4294967281) : CW cxT 29 [tV l, tV [b]] = some (.own 1 ((splitB b l).map tV), []) := a6c cxT rfl (by show (if l.length < 4294967281 then some ((AV.own 1 ((splitB b l).map tV), []) : AV × List (List AV)) else none) = _; rw [if_pos hl])
theorem d1b (xs : List Int) (hl : xs.length ≤ I8) : CW cxT 32 [.list (xs.map iV)] = some (.own 1 (xs.map iV), []) := a6c cxT rfl (by simp [a6r, d0r, hl])
theorem d3i (l : List UInt8) (b : UInt8) : CW cxT 48 [tV l, tV [b]] = some (.tup [tV (a3e b l), bV (decide (l.head? = some b))], []) := a6c cxT rfl rfl
theorem d2t (l : List UInt8) (b : UInt8) (hl : l.length < 4294967281) : CW cxT 49 [tV l, tV [b]] = some (.tup [tV (b4v b l), bV (decide (l.getLast? = some b))], []) := a6c cxT rfl (by show (if l.length < 4294967281 then some ((AV.tup [tV (b4v b l), bV (decide (l.getLast? = some b))], []) : AV × List (List AV)) else none) = _; rw [if_pos hl])
theorem c2t (l : List UInt8) (hl : l.length < 4294967281) : CW cxT 50 [tV l] = some (atR l, []) := a6c cxT rfl (by show (if l.length < 4294967281 then some ((atR l, []) : AV × List (List AV)) else none) = _; rw [if_pos hl])
theorem d2w (n : Int) (h : -9223372036854775808 ≤ n ∧ n ≤ 9223372036854775807) : CW cxT 76 [iV n] = some (tV (dec n), []) := a6c cxT rfl (by simp [b1m, h])
theorem d2s (ps : List (List UInt8)) (b : UInt8) (h1 : ps.length ≤ I8) (h2 : (joinB b ps).length ≤ I8) : CW cxT 77 [.list (ps.map tV), tV [b]] = some (tV (joinB b ps), []) := a6c cxT rfl (by show ((unT (ps.map tV)).bind fun ps => if ps.length ≤ I8 ∧ (joinB b ps).length ≤ I8 then some ((tV (joinB b ps), []) : AV × List (List AV)) else none) = _; rw [d0m, Option.bind_some, if_pos ⟨h1, h2⟩])

theorem b2h : F6 Tryz.f39 = [0, 1, 2, 6] := by kernel_rfl
theorem c6c (n lo hi : Int) : CW cxT 39 [iV n, iV lo, iV hi] = some (bV (decide (lo ≤ n) && decide (n ≤ hi)), []) := by
 refine E7 rfl Tryz.func39 rfl ⟨by kernel_rfl, rfl, dT rfl, dT rfl, by decide⟩ b2h <| A3 <| A0 <| y_S rfl <| xN [0,1,2] [] rfl <| A3 <| A0 <| y_M rfl <| y_M rfl <| a9g rfl rfl <| y_M rfl ?_
 refine B8 rfl rfl ?_ ?_ <;> intro hg0 <;> have hg := hg0 <;> try simp only [SG] at hg
 ·refine y_M rfl <| gT rfl rfl <| y_M rfl <| gT rfl rfl <| a9g rfl rfl <| E5 rfl (by assumption) rfl rfl <| y_S rfl <| xN [6] [] rfl <| B2 <| C0 rfl rfl trivial ?_
  simp_all [ofConst]; try omega
 refine gF rfl rfl <| gF rfl rfl <| C8 rfl (by assumption) rfl rfl <| y_S rfl <| xN [6] [] rfl <| B2 <| C0 rfl rfl trivial ?_
 simp_all [ofConst]; try omega

theorem c6g : F6 Tryz.f75 = [0, 1, 2, 6] := by kernel_rfl
theorem d4d (n lo hi : Int) : CW cxT 75 [iV n, iV lo, iV hi] = some (bV (decide (lo ≤ n) && decide (n ≤ hi)), []) := by
 refine E7 rfl Tryz.func75 rfl ⟨by kernel_rfl, rfl, dT rfl, dT rfl, by decide⟩ c6g <| A3 <| A0 <| y_S rfl <| xN [0,1,2] [] rfl <| A3 <| A0 <| y_M rfl <| y_M rfl <| a4d rfl rfl <| y_M rfl ?_
 refine B8 rfl rfl ?_ ?_ <;> intro hg0 <;> have hg := hg0 <;> try simp only [SG] at hg
 ·refine y_M rfl <| gT rfl rfl <| y_M rfl <| gT rfl rfl <| a9g rfl rfl <| E5 rfl (by assumption) rfl rfl <| y_S rfl <| xN [6] [] rfl <| B2 <| C0 rfl rfl trivial ?_
  simp_all [ofConst]; try omega
 refine gF rfl rfl <| gF rfl rfl <| C8 rfl (by assumption) rfl rfl <| y_S rfl <| xN [6] [] rfl <| B2 <| C0 rfl rfl trivial ?_
 simp_all [ofConst]; try omega

theorem a6q : F6 Tryz.f81 = [0, 1, 4, 8, 7, 9, 5, 16] := by kernel_rfl
theorem b9a (xs : List Int) (hl : xs.length ≤ 1000) (k : Nat) (a b : AV) (q : Int → Bool) (hq : ∀ x, CW cxT k [iV x, .ipt a 0, .ipt b 0] = some (bV (q x), [])) : ∃ res outs, (fun res outs => ∃ r : Int, res = iV r ∧ outs = [] ∧ decide (0 ≤ r) = xs.any q) res outs ∧ CW cxT 81 [L xs, .clo k [.ipt a 0, .ipt b 0]] = some (res, outs) := by
 refine a8y rfl Tryz.func81 rfl ⟨by kernel_rfl, rfl, dT rfl, dT rfl, by decide⟩ a6q <| A3 <| A0 <| y_S rfl <| xN [0,1] [] rfl <| A3 <| A3 <| A0 <| y_M rfl <| D8 rfl rfl <| y_M rfl <| xN [0,1,7,8] [] rfl <| B7 <| I4 (β := Nat) [(.t 0, _), (.t 1, _), (.t 7, _)] (fun (i : Nat) => [(.t 8, iV i)]) (fun (i : Nat) => i ≤ xs.length ∧ ∀ j, j < i → q (xs.getD j default) = false) (fun (i : Nat) => xs.length - i) 0 ⟨rfl, rfl, rfl, rfl, trivial⟩ ⟨Nat.zero_le _, fun j h => by omega⟩ ?_
 intro i hb
 obtain ⟨hi1, hi2⟩ := hb
 refine A3 <| A0 <| G6 rfl rfl <| xN [0,1,7,8,9] [] rfl <| A3 ?_
 refine A5 rfl ?_ ?_ <;> intro hc <;> try simp only [SL] at hc
 ·refine A8 <| A3 <| B7 <| A3 <| A0 <| y_M rfl <| y_S rfl <| xN [0,1,5,7,8] [] rfl <| A3 <| A0 <| y_M rfl <| y_M rfl <| y_M rfl <| E9 rfl rfl rfl (fun _ => rfl) (by omega) <| y_I rfl ?_
  apply c5a rfl rfl
  ·apply B0
   ·exact B6 rfl
   apply B0
   ·exact B6 rfl
   apply B0
   ·exact B6 rfl
   exact C6
  ·exact hq (xs.getD i default)
  ·exact ⟨rfl, rfl, rfl, dT rfl, rfl⟩
  ·exact .inl rfl
  ·exact B4
  ·exact E6 rfl
  ·exact fun _ => rfl
  intro g16
  refine xN [0,1,5,7,8,16] [] rfl ?_
  refine A5 rfl ?_ ?_ <;> intro hc <;> try simp only [SL] at hc
  ·refine A3 <| A0 <| y_M rfl <| y_S rfl <| xN [4] [] rfl <| B2 ?_
   refine ⟨_, _, ?_, a7g rfl rfl B5⟩
   exact ⟨_, rfl, rfl, d0s (by omega) hc⟩
  refine A8 <| A0 <| G5 rfl rfl (F5 (by omega)) <| y_M rfl <| xN [0,1,7,8] [] rfl ?_
  refine ⟨i + 1, ⟨by omega, fun a ha => by rcases Nat.lt_succ_iff_lt_or_eq.1 ha with h | h; exact hi2 a h; subst h; exact hc⟩, (by omega), ⟨rfl, rfl, rfl, rfl, trivial⟩⟩
 refine F7 <| A3 <| A0 <| y_S rfl <| xN [4] [] rfl <| B2 ?_
 refine ⟨_, _, ?_, a7g rfl rfl B5⟩
 exact ⟨-1, rfl, rfl, c7p fun j hj => hi2 j (by omega)⟩

theorem a4i : F6 Tryz.f73 = [0, 1, 4] := by kernel_rfl
theorem b0q (xs : List Int) (hl : xs.length ≤ 1000) (k : Nat) (a b : AV) (q : Int → Bool) (hq : ∀ x, CW cxT k [iV x, .ipt a 0, .ipt b 0] = some (bV (q x), [])) : CW cxT 73 [L xs, .clo k [.ipt a 0, .ipt b 0]] = some (bV (xs.any q), []) := by
 obtain ⟨_, _, ⟨r, rfl, rfl, hr⟩, hC⟩ := b9a xs hl k a b q hq
 refine E7 rfl Tryz.func73 rfl ⟨by kernel_rfl, rfl, dT rfl, dT rfl, by decide⟩ a4i <| A3 <| A0 <| y_S rfl <| xN [0,1] [] rfl <| A3 <| A0 <| y_M rfl <| y_M rfl ?_
 apply xC rfl
 ·apply B0
  ·exact B6 rfl
  apply B0
  ·exact a1e rfl (d0h (d0h a1c))
  exact C6
 ·exact hC
 refine ⟨⟨rfl, rfl, rfl, dT rfl, rfl⟩, .inl rfl, B4, E6 rfl, fun _ => rfl, fun g7 => ?_⟩
 refine a4d rfl rfl <| y_S rfl <| xN [4] [] rfl <| B2 <| C0 rfl rfl trivial ?_
 rw [← hr]

theorem b5h : F6 Tryz.f74 = [0, 1, 2, 4] := by kernel_rfl
theorem c9h (x lo hi : Int) : CW cxT 74 [iV x, .ipt (iV lo) 0, .ipt (iV hi) 0] = some (bV (!(decide (lo ≤ x) && decide (x ≤ hi))), []) := by
 refine E7 rfl Tryz.func74 rfl ⟨by kernel_rfl, rfl, dT rfl, dT rfl, by decide⟩ b5h <| A3 <| A0 <| y_S rfl <| xN [0,1,2] [] rfl <| A3 <| A0 <| y_M rfl <| y_I rfl <| y_I rfl ?_
 refine xC3 rfl rfl rfl rfl (d4d _ _ _) ⟨rfl, rfl, rfl⟩ rfl rfl fun g8 => ?_
 refine N7 rfl <| y_S rfl <| xN [4] [] rfl <| B2 <| C0 rfl rfl trivial ?_
 rfl

theorem b6p : F6 Tryz.f62 = [0, 1, 2, 6, 4, 5] := by kernel_rfl
theorem d1o (xs : List Int) (hl : xs.length ≤ 1000) (lo hi : Int) : CW cxT 62 [L xs, iV lo, iV hi] = some (bV (b0r lo hi xs), []) := by
 refine E7 rfl Tryz.func62 rfl ⟨by kernel_rfl, rfl, dT rfl, dT rfl, by decide⟩ b6p <| A3 <| A0 <| Y2 rfl rfl rfl (fun _ => I2 rfl) (fun _ => rfl) ?_
 intro g4
 refine Y2 rfl rfl rfl (fun _ => I2 rfl) (fun _ => rfl) ?_
 intro g5
 refine y_S rfl <| xN [0,4,5] [4,5] rfl <| A3 <| A0 <| y_M rfl <| O6 rfl rfl ?_
 apply xC rfl
 ·apply B0
  ·exact B6 rfl
  apply B0
  ·exact a1e rfl (c9q rfl rfl (c9q rfl rfl a1c))
  exact C6
 ·exact b0q xs hl 74 (iV lo) (iV hi) _ (fun x => c9h x lo hi)
 refine ⟨⟨rfl, rfl, rfl, dT rfl, rfl⟩, .inr ⟨rfl, rfl⟩, B4, E6 rfl, fun _ => rfl, fun g9 => ?_⟩
 refine N7 rfl <| y_S rfl <| xN [6] [] rfl <| B2 <| C0 rfl rfl trivial ?_
 exact congrArg bV (c7t lo hi xs)

theorem a8q : F6 Tryz.f34 = [0, 2, 3, 7, 15] := by kernel_rfl
theorem c0b (xs : List Int) (hl : xs.length ≤ 1048576) : CW cxT 34 [L xs] = some (bV (vd xs), []) := by
 refine E7 rfl Tryz.func34 rfl ⟨by kernel_rfl, rfl, dT rfl, dT rfl, by decide⟩ a8q <| A3 <| A0 <| y_S rfl <| xN [0] [] rfl <| A3 <| A3 <| A0 <| y_S rfl <| xN [0,3] [] rfl <| B7 <| I4 (β := Nat) [(.t 0, _)] (fun (i : Nat) => [(.t 3, iV i)]) (fun (i : Nat) => i ≤ xs.length ∧ ∀ j, j < i → -200 ≤ xs.getD j default ∧ xs.getD j default ≤ 200) (fun (i : Nat) => xs.length - i) 0 ⟨rfl, rfl, trivial⟩ ⟨Nat.zero_le _, fun j h => by omega⟩ ?_
 intro i hb
 obtain ⟨hi1, hi2⟩ := hb
 refine A3 <| A3 <| A0 <| y_M rfl <| y_M rfl <| D8 rfl rfl <| G6 rfl rfl <| xN [0,3,7] [] rfl ?_
 refine A5 rfl ?_ ?_ <;> intro hc <;> try simp only [SL] at hc
 ·refine A8 <| A3 <| B7 <| A3 <| A0 <| y_M rfl <| y_M rfl <| E9 rfl rfl rfl (fun _ => rfl) (by omega) <| y_I rfl ?_
  refine xC3 rfl rfl rfl rfl (c6c _ _ _) ⟨rfl, rfl, rfl⟩ rfl rfl fun g14 => ?_
  refine N7 rfl <| xN [0,3,15] [] rfl ?_
  refine A5 rfl ?_ ?_ <;> intro hc <;> try simp only [SL] at hc
  ·refine A3 <| A0 <| y_S rfl <| xN [2] [] rfl <| B2 <| C0 rfl rfl trivial ?_
   rw [vd, c9a (show i < xs.length by omega) (by (simp_all; omega)), Bool.and_false]
   rfl
  refine A8 <| A0 <| y_M rfl <| G5 rfl rfl (F5 (by omega)) <| y_S rfl <| xN [0,3] [] rfl ?_
  refine ⟨i + 1, ⟨by omega, fun j hj => by rcases Nat.lt_succ_iff_lt_or_eq.1 hj with h | h; (· exact hi2 j h); (· subst h; assumption)⟩, (by omega), ⟨rfl, rfl, trivial⟩⟩
 refine F7 <| A3 <| A0 <| y_M rfl <| D8 rfl rfl <| a9g rfl rfl <| y_S rfl <| xN [2] [] rfl <| B2 <| C0 rfl rfl trivial ?_
 rw [vd, d1s fun j hj => hi2 j (by omega), Bool.and_true]
 exact congrArg bV (decide_eq_decide.2 (by omega))

theorem a6o : F6 Tryz.f51 = [0, 2] := by kernel_rfl
theorem a7f (xs : List Int) (hl : xs.length ≤ 1048576) : CW cxT 51 [L xs] = some (bV (vd xs), []) := by
 refine E7 rfl Tryz.func51 rfl ⟨by kernel_rfl, rfl, dT rfl, dT rfl, by decide⟩ a6o <| A3 <| A0 <| y_S rfl <| xN [0] [] rfl <| A3 <| A0 <| y_M rfl <| D8 rfl rfl <| a9g rfl rfl <| y_M rfl ?_
 refine B8 rfl rfl ?_ ?_ <;> intro hg0 <;> have hg := hg0 <;> try simp only [SG] at hg
 ·refine y_M rfl <| gT rfl rfl ?_
  refine xC3 rfl rfl rfl rfl (d1o xs (by omega) (-200) 200) ⟨rfl, rfl, rfl⟩ rfl rfl fun g8 => ?_
  refine E5 rfl (by assumption) rfl rfl <| y_S rfl <| xN [2] [] rfl <| B2 <| C0 rfl rfl trivial ?_
  cases hb : b0r (-200) 200 xs <;> simp_all [vd, ofConst] <;> omega
 refine gF rfl rfl <| C8 rfl (by assumption) rfl rfl <| y_S rfl <| xN [2] [] rfl <| B2 <| C0 rfl rfl trivial ?_
 cases hb : b0r (-200) 200 xs <;> simp_all [vd, ofConst] <;> omega

theorem b7i : F6 Tryz.f37 = [0, 2, 3, 4, 10, 19] := by kernel_rfl
theorem a6n (w : ByteArray) : CW cxT 37 [sV w] = some (iV (nd w), []) := by
 refine E7 rfl Tryz.func37 rfl ⟨by kernel_rfl, rfl, dT rfl, dT rfl, by decide⟩ b7i <| A3 <| A0 <| y_S rfl <| xN [0] [] rfl <| A3 <| A3 <| A0 <| y_M rfl <| xN [3] [] rfl <| B7 <| A3 <| A3 <| A0 <| M4 rfl rfl <| y_S rfl <| xN [3,4] [] rfl ?_
 refine A5 rfl ?_ ?_ <;> intro hc <;> try simp only [SL] at hc
 ·refine A8 ?_
  refine A5 rfl (fun hc => ?_) (fun hc => absurd hc (by simp_all))
  refine A3 <| A0 <| y_S rfl <| xN [2] [] rfl <| B2 <| C0 rfl rfl trivial <| congrArg iV ?_
  simp_all [nd]
 refine A3 <| A0 <| M4 rfl rfl <| y_S rfl <| xN [3,4] [] rfl ?_
 refine A5 rfl ?_ ?_ <;> intro hc <;> try simp only [SL] at hc
 ·refine A8 ?_
  refine A5 rfl (fun hc => ?_) (fun hc => absurd hc (by simp_all))
  refine A3 <| A0 <| y_S rfl <| xN [2] [] rfl <| B2 <| C0 rfl rfl trivial <| congrArg iV ?_
  simp_all [nd]
 refine A3 <| A0 <| M4 rfl rfl <| y_S rfl <| xN [3,4] [] rfl ?_
 refine A5 rfl ?_ ?_ <;> intro hc <;> try simp only [SL] at hc
 ·refine A8 ?_
  refine A5 rfl (fun hc => ?_) (fun hc => absurd hc (by simp_all))
  refine A3 <| A0 <| y_S rfl <| xN [2] [] rfl <| B2 <| C0 rfl rfl trivial <| congrArg iV ?_
  simp_all [nd]
 refine A3 <| A0 <| M4 rfl rfl <| y_S rfl <| xN [3,4] [] rfl ?_
 refine A5 rfl ?_ ?_ <;> intro hc <;> try simp only [SL] at hc
 ·refine A8 ?_
  refine A5 rfl (fun hc => ?_) (fun hc => absurd hc (by simp_all))
  refine A3 <| A0 <| y_S rfl <| xN [2] [] rfl <| B2 <| C0 rfl rfl trivial <| congrArg iV ?_
  simp_all [nd]
 refine A0 <| M4 rfl rfl <| y_S rfl <| xN [3,4] [] rfl ?_
 refine A5 rfl ?_ ?_ <;> intro hc <;> try simp only [SL] at hc
 ·refine A3 <| A0 <| y_S rfl <| xN [2] [] rfl <| B2 <| C0 rfl rfl trivial <| congrArg iV ?_
  simp_all [nd]
 refine A3 <| A3 <| A0 <| M4 rfl rfl <| y_S rfl <| xN [3,10] [] rfl ?_
 refine A5 rfl ?_ ?_ <;> intro hc <;> try simp only [SL] at hc
 ·refine A8 ?_
  refine A5 rfl (fun hc => ?_) (fun hc => absurd hc (by simp_all))
  refine A3 <| A0 <| y_S rfl <| xN [2] [] rfl <| B2 <| C0 rfl rfl trivial <| congrArg iV ?_
  simp_all [nd]
 refine A3 <| A0 <| M4 rfl rfl <| y_S rfl <| xN [3,10] [] rfl ?_
 refine A5 rfl ?_ ?_ <;> intro hc <;> try simp only [SL] at hc
 ·refine A8 ?_
  refine A5 rfl (fun hc => ?_) (fun hc => absurd hc (by simp_all))
  refine A3 <| A0 <| y_S rfl <| xN [2] [] rfl <| B2 <| C0 rfl rfl trivial <| congrArg iV ?_
  simp_all [nd]
 refine A3 <| A0 <| M4 rfl rfl <| y_S rfl <| xN [3,10] [] rfl ?_
 refine A5 rfl ?_ ?_ <;> intro hc <;> try simp only [SL] at hc
 ·refine A8 ?_
  refine A5 rfl (fun hc => ?_) (fun hc => absurd hc (by simp_all))
  refine A3 <| A0 <| y_S rfl <| xN [2] [] rfl <| B2 <| C0 rfl rfl trivial <| congrArg iV ?_
  simp_all [nd]
 refine A3 <| A0 <| M4 rfl rfl <| y_S rfl <| xN [3,10] [] rfl ?_
 refine A5 rfl ?_ ?_ <;> intro hc <;> try simp only [SL] at hc
 ·refine A8 ?_
  refine A5 rfl (fun hc => ?_) (fun hc => absurd hc (by simp_all))
  refine A3 <| A0 <| y_S rfl <| xN [2] [] rfl <| B2 <| C0 rfl rfl trivial <| congrArg iV ?_
  simp_all [nd]
 refine A3 <| A0 <| M4 rfl rfl <| y_S rfl <| xN [3,10] [] rfl ?_
 refine A5 rfl ?_ ?_ <;> intro hc <;> try simp only [SL] at hc
 ·refine A8 ?_
  refine A5 rfl (fun hc => ?_) (fun hc => absurd hc (by simp_all))
  refine A3 <| A0 <| y_S rfl <| xN [2] [] rfl <| B2 <| C0 rfl rfl trivial <| congrArg iV ?_
  simp_all [nd]
 refine A3 <| A0 <| M4 rfl rfl <| y_S rfl <| xN [3,10] [] rfl ?_
 refine A5 rfl ?_ ?_ <;> intro hc <;> try simp only [SL] at hc
 ·refine A8 ?_
  refine A5 rfl (fun hc => ?_) (fun hc => absurd hc (by simp_all))
  refine A3 <| A0 <| y_S rfl <| xN [2] [] rfl <| B2 <| C0 rfl rfl trivial <| congrArg iV ?_
  simp_all [nd]
 refine A3 <| A0 <| M4 rfl rfl <| y_S rfl <| xN [3,10] [] rfl ?_
 refine A5 rfl ?_ ?_ <;> intro hc <;> try simp only [SL] at hc
 ·refine A8 ?_
  refine A5 rfl (fun hc => ?_) (fun hc => absurd hc (by simp_all))
  refine A3 <| A0 <| y_S rfl <| xN [2] [] rfl <| B2 <| C0 rfl rfl trivial <| congrArg iV ?_
  simp_all [nd]
 refine A0 <| M4 rfl rfl <| y_S rfl <| xN [3,10] [] rfl ?_
 refine A5 rfl ?_ ?_ <;> intro hc <;> try simp only [SL] at hc
 ·refine A3 <| A0 <| y_S rfl <| xN [2] [] rfl <| B2 <| C0 rfl rfl trivial <| congrArg iV ?_
  simp_all [nd]
 refine A3 <| A3 <| A0 <| M4 rfl rfl <| y_S rfl <| xN [3,19] [] rfl ?_
 refine A5 rfl ?_ ?_ <;> intro hc <;> try simp only [SL] at hc
 ·refine A8 ?_
  refine A5 rfl (fun hc => ?_) (fun hc => absurd hc (by simp_all))
  refine A3 <| A0 <| y_S rfl <| xN [2] [] rfl <| B2 <| C0 rfl rfl trivial <| congrArg iV ?_
  simp_all [nd]
 refine A0 <| M4 rfl rfl <| y_S rfl <| xN [19] [] rfl ?_
 refine A5 rfl ?_ ?_ <;> intro hc <;> try simp only [SL] at hc
 ·refine A3 <| A0 <| y_S rfl <| xN [2] [] rfl <| B2 <| C0 rfl rfl trivial <| congrArg iV ?_
  simp_all [nd]
 refine A8 <| A3 <| A0 <| y_S rfl <| xN [2] [] rfl <| B2 <| C0 rfl rfl trivial <| congrArg iV ?_
 simp_all [nd]

theorem b3o : F6 Tryz.f28 = [0, 2, 3, 4, 13, 16] := by kernel_rfl
theorem c5o (w : ByteArray) : CW cxT 28 [sV w] = some (iV (rch w), []) := by
 refine E7 rfl Tryz.func28 rfl ⟨by kernel_rfl, rfl, dT rfl, dT rfl, by decide⟩ b3o <| A3 <| A0 <| y_S rfl <| xN [0] [] rfl <| A3 <| A3 <| A0 <| y_M rfl <| xN [3] [] rfl <| B7 <| A3 <| A3 <| A0 <| M4 rfl rfl <| y_S rfl <| xN [3,4] [] rfl ?_
 refine A5 rfl ?_ ?_ <;> intro hc <;> try simp only [SL] at hc
 ·refine A8 ?_
  refine A5 rfl (fun hc => ?_) (fun hc => absurd hc (by simp_all))
  refine A3 <| A0 <| y_S rfl <| xN [2] [] rfl <| B2 <| C0 rfl rfl trivial <| congrArg iV ?_
  simp_all [rch]
 refine A3 <| A0 <| M4 rfl rfl <| y_S rfl <| xN [3,4] [] rfl ?_
 refine A5 rfl ?_ ?_ <;> intro hc <;> try simp only [SL] at hc
 ·refine A8 ?_
  refine A5 rfl (fun hc => ?_) (fun hc => absurd hc (by simp_all))
  refine A3 <| A0 <| y_S rfl <| xN [2] [] rfl <| B2 <| C0 rfl rfl trivial <| congrArg iV ?_
  simp_all [rch]
 refine A3 <| A0 <| M4 rfl rfl <| y_S rfl <| xN [3,4] [] rfl ?_
 refine A5 rfl ?_ ?_ <;> intro hc <;> try simp only [SL] at hc
 ·refine A8 ?_
  refine A5 rfl (fun hc => ?_) (fun hc => absurd hc (by simp_all))
  refine A3 <| A0 <| y_S rfl <| xN [2] [] rfl <| B2 <| C0 rfl rfl trivial <| congrArg iV ?_
  simp_all [rch]
 refine A3 <| A0 <| M4 rfl rfl <| y_S rfl <| xN [3,4] [] rfl ?_
 refine A5 rfl ?_ ?_ <;> intro hc <;> try simp only [SL] at hc
 ·refine A8 ?_
  refine A5 rfl (fun hc => ?_) (fun hc => absurd hc (by simp_all))
  refine A3 <| A0 <| y_S rfl <| xN [2] [] rfl <| B2 <| C0 rfl rfl trivial <| congrArg iV ?_
  simp_all [rch]
 refine A3 <| A0 <| M4 rfl rfl <| y_S rfl <| xN [3,4] [] rfl ?_
 refine A5 rfl ?_ ?_ <;> intro hc <;> try simp only [SL] at hc
 ·refine A8 ?_
  refine A5 rfl (fun hc => ?_) (fun hc => absurd hc (by simp_all))
  refine A3 <| A0 <| y_S rfl <| xN [2] [] rfl <| B2 <| C0 rfl rfl trivial <| congrArg iV ?_
  simp_all [rch]
 refine A3 <| A0 <| M4 rfl rfl <| y_S rfl <| xN [3,4] [] rfl ?_
 refine A5 rfl ?_ ?_ <;> intro hc <;> try simp only [SL] at hc
 ·refine A8 ?_
  refine A5 rfl (fun hc => ?_) (fun hc => absurd hc (by simp_all))
  refine A3 <| A0 <| y_S rfl <| xN [2] [] rfl <| B2 <| C0 rfl rfl trivial <| congrArg iV ?_
  simp_all [rch]
 refine A3 <| A0 <| M4 rfl rfl <| y_S rfl <| xN [3,4] [] rfl ?_
 refine A5 rfl ?_ ?_ <;> intro hc <;> try simp only [SL] at hc
 ·refine A8 ?_
  refine A5 rfl (fun hc => ?_) (fun hc => absurd hc (by simp_all))
  refine A3 <| A0 <| y_S rfl <| xN [2] [] rfl <| B2 <| C0 rfl rfl trivial <| congrArg iV ?_
  simp_all [rch]
 refine A0 <| M4 rfl rfl <| y_S rfl <| xN [3,4] [] rfl ?_
 refine A5 rfl ?_ ?_ <;> intro hc <;> try simp only [SL] at hc
 ·refine A3 <| A0 <| y_S rfl <| xN [2] [] rfl <| B2 <| C0 rfl rfl trivial <| congrArg iV ?_
  simp_all [rch]
 refine A3 <| A3 <| A0 <| M4 rfl rfl <| y_S rfl <| xN [3,13] [] rfl ?_
 refine A5 rfl ?_ ?_ <;> intro hc <;> try simp only [SL] at hc
 ·refine A8 ?_
  refine A5 rfl (fun hc => ?_) (fun hc => absurd hc (by simp_all))
  refine A3 <| A0 <| y_S rfl <| xN [2] [] rfl <| B2 <| C0 rfl rfl trivial <| congrArg iV ?_
  simp_all [rch]
 refine A0 <| M4 rfl rfl <| y_S rfl <| xN [3,13] [] rfl ?_
 refine A5 rfl ?_ ?_ <;> intro hc <;> try simp only [SL] at hc
 ·refine A3 <| A0 <| y_S rfl <| xN [2] [] rfl <| B2 <| C0 rfl rfl trivial <| congrArg iV ?_
  simp_all [rch]
 refine A3 <| A3 <| A0 <| M4 rfl rfl <| y_S rfl <| xN [3,16] [] rfl ?_
 refine A5 rfl ?_ ?_ <;> intro hc <;> try simp only [SL] at hc
 ·refine A8 ?_
  refine A5 rfl (fun hc => ?_) (fun hc => absurd hc (by simp_all))
  refine A3 <| A0 <| y_S rfl <| xN [2] [] rfl <| B2 <| C0 rfl rfl trivial <| congrArg iV ?_
  simp_all [rch]
 refine A3 <| A0 <| M4 rfl rfl <| y_S rfl <| xN [3,16] [] rfl ?_
 refine A5 rfl ?_ ?_ <;> intro hc <;> try simp only [SL] at hc
 ·refine A8 ?_
  refine A5 rfl (fun hc => ?_) (fun hc => absurd hc (by simp_all))
  refine A3 <| A0 <| y_S rfl <| xN [2] [] rfl <| B2 <| C0 rfl rfl trivial <| congrArg iV ?_
  simp_all [rch]
 refine A3 <| A0 <| M4 rfl rfl <| y_S rfl <| xN [3,16] [] rfl ?_
 refine A5 rfl ?_ ?_ <;> intro hc <;> try simp only [SL] at hc
 ·refine A8 ?_
  refine A5 rfl (fun hc => ?_) (fun hc => absurd hc (by simp_all))
  refine A3 <| A0 <| y_S rfl <| xN [2] [] rfl <| B2 <| C0 rfl rfl trivial <| congrArg iV ?_
  simp_all [rch]
 refine A0 <| M4 rfl rfl <| y_S rfl <| xN [16] [] rfl ?_
 refine A5 rfl ?_ ?_ <;> intro hc <;> try simp only [SL] at hc
 ·refine A3 <| A0 <| y_S rfl <| xN [2] [] rfl <| B2 <| C0 rfl rfl trivial <| congrArg iV ?_
  simp_all [rch]
 refine A8 <| A3 <| A0 <| y_S rfl <| xN [2] [] rfl <| B2 <| C0 rfl rfl trivial <| congrArg iV ?_
 simp_all [rch]

theorem b4s : F6 Tryz.f38 = [0, 2, 4, 10] := by kernel_rfl
theorem b2n (n : Int) (hn : -1000000 ≤ n ∧ n ≤ 1000000) : CW cxT 38 [iV n] = some (tV (dec n), []) := by
 obtain ⟨kk, hkk⟩ : ∃ kk : Nat, 2 * n.natAbs + (if n < 0 then 1 else 0) < kk := ⟨_, Nat.lt_succ_self _⟩
 revert n
 induction kk with
 | zero => intro n hn hkk; exact absurd hkk (Nat.not_lt_zero _)
 | succ kk ih =>
  intro n hn hkk
  refine E7 rfl Tryz.func38 rfl ⟨by kernel_rfl, rfl, dT rfl, dT rfl, by decide⟩ b4s <| A3 <| A0 <| y_S rfl <| xN [0] [] rfl <| A3 <| A3 <| A0 <| y_M rfl <| G6 rfl rfl <| xN [0,4] [] rfl ?_
  refine A5 rfl ?_ ?_ <;> intro hc <;> try simp only [SL] at hc
  ·refine A3 <| A0 <| y_M rfl <| d2e rfl (F5 (by omega)) ?_
   have hdl := X3 (m := -n) (by omega)
   refine xC1 rfl rfl (ih (-n) (by omega) (by split at hkk <;> split <;> omega)) ⟨rfl, rfl, rfl⟩ rfl rfl fun g7 => ?_
   refine b3p rfl rfl (by simp only [I8, List.length_append, List.length_cons, List.length_nil]; omega) <| y_S rfl <| xN [2] [] rfl <| B2 <| C0 rfl rfl trivial ?_
   exact congrArg tV (d1h (by assumption)).symm
  refine A8 <| A3 <| A3 <| A0 <| y_M rfl <| G6 rfl rfl <| xN [0,10] [] rfl ?_
  refine A5 rfl ?_ ?_ <;> intro hc <;> try simp only [SL] at hc
  ·refine A3 <| A0 <| y_M rfl <| y_M rfl <| G5 rfl rfl (F5 (by omega)) <| a4s rfl rfl (a3j rfl (by omega)) (a3j rfl (by omega)) (by (simp; omega)) <| y_S rfl <| xN [2] [] rfl <| B2 <| C0 rfl rfl trivial ?_
   rw [d1p (by omega)]
  refine A8 <| A3 <| A0 <| y_M rfl ?_
  have hd10 : n.tdiv 10 = n / 10 := Int.tdiv_eq_ediv_of_nonneg (by omega)
  refine d1x rfl rfl ⟨by omega, F5 (by omega)⟩ ?_
  have hd10 : n.tdiv 10 = n / 10 := Int.tdiv_eq_ediv_of_nonneg (by omega)
  have hdl0 := X3 (m := n.tdiv 10) (by omega)
  refine xC1 rfl rfl (ih (n.tdiv 10) (by omega) (by split at hkk <;> split <;> omega)) ⟨rfl, rfl, rfl⟩ rfl rfl fun g17 => ?_
  refine y_M rfl <| d2g rfl rfl (by omega) ?_
  have hm10 : n.tmod 10 = n % 10 := Int.tmod_eq_emod_of_nonneg (by omega)
  have hdl1 := X3 (m := n.tmod 10) (by omega)
  refine xC1 rfl rfl (ih (n.tmod 10) (by omega) (by split at hkk <;> split <;> omega)) ⟨rfl, rfl, rfl⟩ rfl rfl fun g20 => ?_
  refine b3p rfl rfl (by simp only [I8, List.length_append, List.length_cons, List.length_nil]; omega) <| y_S rfl <| xN [2] [] rfl <| B2 <| C0 rfl rfl trivial ?_
  rw [← d3k (by omega)]

theorem b3n : F6 Tryz.f18 = [0, 1, 4, 7, 12, 19, 6, 5] := by kernel_rfl
theorem b5v (s : List UInt8) (hs : s.length ≤ 1048576) (c : UInt8) : CW cxT 18 [tV s, uV c.toNat] = some (.own 1 ((splitB c s).map tV), []) := by
 refine E7 rfl Tryz.func18 rfl ⟨by kernel_rfl, rfl, dT rfl, dT rfl, by decide⟩ b3n <| A3 <| A0 ?_
 (refine B1 rfl rfl (fun _ => rfl) ?_; intro g4)
 refine xN [0,1] [] rfl <| A3 <| A0 <| G0 (es := List.map tV []) rfl rfl (dT rfl) rfl rfl (fun _ => B3 (A6 fun _ => rfl)) (fun _ => rfl) ?_
 intro g8
 (refine xO rfl rfl (by simp) rfl (fun _ => rfl) (fun _ => rfl) ?_; intro g5)
 refine xN [0,1,5] [5] rfl <| A3 <| A0 <| y_S rfl <| xN [0,1,5,6] [5] rfl <| A3 <| A3 <| A0 <| y_S rfl <| xN [0,1,5,6,7] [5] rfl <| B7 <| I4 (β := Nat × Nat × List (List UInt8) × Nat) [(.t 0, _), (.t 1, _)] (fun (z : Nat × Nat × List (List UInt8) × Nat) => match z with | (i, fr, out, g) => [(.t 7, iV i), (.t 6, iV fr), (.t 5, .sl 5 g none 0 out.length), (.h 5, .obj g 0 1 (out.map tV))]) (fun (z : Nat × Nat × List (List UInt8) × Nat) => match z with | (i, fr, out, g) => i ≤ s.length ∧ fr ≤ i ∧ out.length ≤ i ∧ splitB c s = out ++ T7 ((s.drop fr).take (i - fr)) (splitB c (s.drop i))) (fun (z : Nat × Nat × List (List UInt8) × Nat) => match z with | (i, fr, out, g) => s.length - i) (0, 0, [], _) ⟨rfl, rfl, rfl, rfl, rfl, rfl, trivial⟩ ⟨Nat.zero_le _, Nat.le_refl _, Nat.le_refl _, by simp [b6i]⟩ ?_
 intro z hb
 obtain ⟨i, fr, out, g⟩ := z
 try dsimp only at hb
 obtain ⟨hi1, hfr, hol, hsp⟩ := hb
 refine A3 <| A3 <| A0 <| y_M rfl <| y_M rfl <| a3s rfl rfl <| G6 rfl rfl <| xN [0,1,5,6,7,12] [5] rfl ?_
 refine A5 rfl ?_ ?_ <;> intro hc <;> try simp only [SL] at hc
 ·refine A8 <| A3 <| B7 <| A3 <| A0 <| y_M rfl <| y_M rfl <| N9 rfl rfl rfl (by omega) <| y_M rfl <| U0 rfl rfl <| xN [0,1,5,6,7,19] [5] rfl ?_
  refine A5 rfl ?_ ?_ <;> intro hc <;> try simp only [SL] at hc
  ·have hcb : s.getD i 0 = c := UInt8.toNat_inj.1 (by omega)
   refine A3 <| A0 <| y_M rfl <| y_M rfl <| y_M rfl <| y_M rfl <| a4s rfl rfl (H8 rfl) (H8 rfl) (by omega) <| G0 (es := List.map tV [_]) rfl rfl (dT rfl) rfl rfl (fun _ => B3 (A6 fun _ => rfl)) (fun _ => rfl) ?_
   intro g25
   refine xA rfl rfl rfl rfl (by simp) (by simp) rfl rfl rfl rfl rfl (fun _ => rfl) (by simp only [LN]; omega) (fun _ => rfl) ?_
   intro g26
   (refine xO rfl rfl (by simp) rfl (fun _ => rfl) (fun _ => rfl) ?_; intro g5)
   refine xN [0,1,5,7] [5] rfl <| A0 <| y_M rfl <| G5 rfl rfl (F5 (by omega)) <| y_S rfl <| xN [0,1,5,6,7] [5] rfl <| A0 <| y_M rfl <| G5 rfl rfl (F5 (by omega)) <| y_S rfl <| xN [0,1,5,6,7] [5] rfl ?_
   refine ⟨(i + 1, i + 1, out ++ [(s.drop fr).take (i - fr)], _), ?_, (by simp only; omega), ⟨rfl, rfl, rfl, rfl, rfl, rfl, trivial⟩⟩
   have hst := b3a (by omega) hfr hsp
   exact ⟨by omega, by omega, by simp; omega, hst.1 hcb⟩
  have hcb : s.getD i 0 ≠ c := fun e => hc (by rw [e])
  refine A8 <| A0 <| y_M rfl <| G5 rfl rfl (F5 (by omega)) <| y_S rfl <| xN [0,1,5,6,7] [5] rfl ?_
  refine ⟨(i + 1, fr, out, _), ?_, (by simp only; omega), ⟨rfl, rfl, rfl, rfl, rfl, rfl, trivial⟩⟩
  have hst := b3a (by omega) hfr hsp
  exact ⟨by omega, by omega, by omega, hst.2 hcb⟩
 refine F7 <| A3 <| A0 <| y_M rfl <| y_M rfl <| y_M rfl <| a4s rfl rfl L9 (H8 rfl) (by omega) <| G0 (es := List.map tV [_]) rfl rfl (dT rfl) rfl rfl (fun _ => B3 (A6 fun _ => rfl)) (fun _ => rfl) ?_
 intro g33
 refine xA rfl rfl rfl rfl (by simp) (by simp) rfl rfl rfl rfl rfl (fun _ => rfl) (by simp only [LN]; omega) (fun _ => rfl) ?_
 intro g34
 (refine xO rfl rfl (by simp) rfl (fun _ => rfl) (fun _ => rfl) ?_; intro g4)
 refine xN [4] [4] rfl <| B2 <| S6 rfl rfl (by simp) (by exact A6 fun _ => rfl) trivial ?_
 have hil : i = s.length := by omega
 rw [hsp, hil, List.drop_length, splitB, T7, List.append_nil]

theorem b0l : F6 Tryz.f33 = [0, 2, 3, 5, 6, 17, 7, 8, 31, 10, 37, 9, 53, 62, 75, 4] := by kernel_rfl
theorem c3o (s : List UInt8) (hs : s.length ≤ 1048576) : CW cxT 33 [tV s] = some (.tup [.own 1 (((rdL s).getD []).map iV), bV (rdL s).isSome], []) := by
 obtain ⟨ps, hps⟩ : ∃ ps, ps = splitB 44 s := ⟨_, rfl⟩
 have hpl := S4 44 s
 rw [← hps] at hpl
 have hpp := Y4 44 s
 rw [← hps] at hpp
 refine E7 rfl Tryz.func33 rfl ⟨by kernel_rfl, rfl, dT rfl, dT rfl, by decide⟩ b0l <| A3 <| A0 ?_
 (refine B1 rfl rfl (fun _ => rfl) ?_; intro g2)
 refine y_S rfl <| xN [0] [] rfl <| A3 <| A0 <| G0 (es := List.map iV []) rfl rfl (dT rfl) rfl rfl (fun _ => B3 (A6 fun _ => rfl)) (fun _ => rfl) ?_
 intro g11
 (refine xO rfl rfl (by simp) rfl (fun _ => rfl) (fun _ => rfl) ?_; intro g4)
 refine xN [0,4] [4] rfl <| A3 <| A0 <| y_M rfl ?_
 apply xC rfl
 ·apply B0
  ·exact B6 rfl
  apply B0
  ·exact B6 rfl
  exact C6
 ·exact b5v s hs 44
 refine ⟨⟨rfl, rfl, rfl, dT rfl, rfl⟩, .inl rfl, B4, K0, fun _ => rfl, fun g13 => ?_⟩
 rw [← hps]
 try simp only [List.length_map]
 (refine xO rfl rfl (by simp) rfl (fun _ => rfl) (fun _ => rfl) ?_; intro g5)
 refine xN [4,5] [4,5] rfl <| A3 <| A3 <| A0 <| y_S rfl <| xN [4,5,6] [4,5] rfl <| B7 <| I4 (β := Nat × List Int × Nat) [(.t 5, _), (.h 5, _)] (fun (z : Nat × List Int × Nat) => match z with | (i, ns, g) => [(.t 6, iV i), (.t 4, .sl 4 g none 0 ns.length), (.h 4, .obj g 0 1 (ns.map iV))]) (fun (z : Nat × List Int × Nat) => match z with | (i, ns, g) => i ≤ ps.length ∧ a0p (ps.take i) = some ns) (fun (z : Nat × List Int × Nat) => match z with | (i, ns, g) => ps.length - i) (0, [], _) ⟨rfl, rfl, rfl, rfl, rfl, trivial⟩ ⟨Nat.zero_le _, rfl⟩ ?_
 intro z hb
 obtain ⟨i, ns, g⟩ := z
 try dsimp only at hb
 obtain ⟨hi1, hrd⟩ := hb
 have hnl := a9y hrd
 rw [List.length_take] at hnl
 have hpi := fun h : i < ps.length => hpp _ (M6 h)
 refine A3 <| A3 <| A0 <| y_M rfl <| y_M rfl <| H7 rfl rfl <| G6 rfl rfl <| xN [4,5,6,17] [4,5] rfl ?_
 refine A5 rfl ?_ ?_ <;> intro hc <;> try simp only [SL] at hc
 ·refine A8 <| A3 <| B7 <| A3 <| A0 <| y_M rfl <| y_M rfl <| D4 rfl rfl rfl rfl (by omega) (by (simp; done)) rfl <| Y1 rfl rfl (by omega) (fun _ => rfl) (fun _ => rfl) rfl <| y_S rfl <| xN [4,5,6,7] [4,5] rfl <| A3 <| A0 <| y_M rfl <| b6c rfl rfl <| y_M rfl ?_
  refine B8 rfl rfl ?_ ?_ <;> intro hg0 <;> have hg := hg0 <;> try simp only [SG] at hg
  ·refine y_M rfl <| gT rfl rfl ?_
   have hp0 : 0 < (ps.getD i default).length := List.length_pos_iff.2 (by assumption)
   refine N9 (n := 0) rfl rfl rfl hp0 <| gT rfl rfl <| U0 rfl rfl <| E5 rfl (by assumption) rfl rfl <| y_S rfl <| xN [4,5,6,7,8] [4,5] rfl <| A3 <| A3 <| A0 <| y_M rfl <| xN [4,5,6,7,8,31] [4,5] rfl ?_
   refine A5 rfl ?_ ?_ <;> intro hc <;> try simp only [SL] at hc
   ·obtain ⟨hng, hup⟩ := d3q (p := (ps.getD i default)) (by assumption) (by omega)
    have hul := b7v (ps.getD i default)
    rw [hup] at hul
    refine A0 <| y_M rfl <| a4s rfl rfl L9 (H8 (n := 1) rfl) (by omega) <| y_S rfl <| xN [4,5,6,7,8] [4,5] rfl <| A3 <| A0 <| y_S rfl <| xN [4,5,6,7,8,9] [4,5] rfl <| A3 <| A3 <| A0 <| y_S rfl <| xN [4,5,6,7,8,9,10] [4,5] rfl <| B7 ?_
    have hup0 := hup
    refine I4 (β := Nat × Int) [(.t 4, _), (.t 5, _), (.t 6, _), (.t 7, _), (.t 8, _), (.h 4, _), (.h 5, _)] (fun (z : Nat × Int) => match z with | (k, a) => [(.t 10, iV k), (.t 9, iV a)]) (fun (z : Nat × Int) => match z with | (k, a) => k ≤ (unS (ps.getD i default)).length ∧ 0 ≤ a ∧ U4 0 ((unS (ps.getD i default)).take k) = some a.toNat) (fun (z : Nat × Int) => match z with | (k, a) => (unS (ps.getD i default)).length - k) (0, 0) ⟨rfl, rfl, rfl, rfl, rfl, rfl, rfl, rfl, rfl, trivial⟩ ⟨Nat.zero_le _, by decide, rfl⟩ ?_
    intro z hb
    obtain ⟨k, a⟩ := z
    try dsimp only at hb
    obtain ⟨hk1, ha0, hdg⟩ := hb
    have hab := b1o (by decide) hdg
    rw [hup] at hk1 hdg
    refine A3 <| A3 <| A0 <| y_M rfl <| y_M rfl <| a3s rfl rfl <| G6 rfl rfl <| xN [4,5,6,7,8,9,10,37] [4,5] rfl ?_
    refine A5 rfl ?_ ?_ <;> intro hc <;> try simp only [SL] at hc
    ·refine A8 <| A3 <| B7 <| A3 <| A3 <| A0 <| y_M rfl <| y_M rfl <| N9 rfl rfl rfl (by omega) <| G6 rfl rfl <| y_M rfl ?_
     refine B8 rfl rfl ?_ ?_ <;> intro hg0 <;> have hg := hg0 <;> try simp only [SG] at hg
     ·refine y_M rfl <| gT rfl rfl <| y_M rfl <| gT rfl rfl <| N9 rfl rfl rfl (by omega) <| gT rfl rfl <| Z2 rfl rfl <| C8 rfl (by assumption) rfl rfl <| y_M rfl ?_
      refine B8 rfl rfl ?_ ?_ <;> intro hg0 <;> have hg := hg0 <;> try simp only [SG] at hg
      ·refine y_M rfl <| gT rfl rfl <| Z2 rfl rfl <| C8 rfl (by assumption) rfl rfl <| xN [4,5,6,7,8,9,10,53] [4,5] rfl ?_
       refine A5 rfl ?_ ?_ <;> intro hc <;> try simp only [SL] at hc
       ·refine A3 <| A0 ?_
        (refine B1 rfl rfl (fun _ => rfl) ?_; intro g2)
        refine y_S rfl <| xN [2,3] [2] rfl <| B2 <| B9 (E4 rfl rfl (by simp) (by rfl) (C3 rfl rfl (C9 B5))) ?_
        rw [rdL, ← hps, K6 (show i < ps.length by omega) (V2 (by rw [hup]; exact R8 (by omega) hdg (by omega)))]
        rfl
       refine A8 <| A0 <| y_M rfl <| c8w rfl rfl (F5 (by omega)) <| y_M rfl <| y_M rfl <| N9 rfl rfl rfl (by omega) <| a9t rfl rfl (d3j (by omega)) <| b8p rfl rfl rfl (F5 (by omega)) <| G5 rfl rfl (F5 (by omega)) <| y_S rfl <| xN [4,5,6,7,8,9,10] [4,5] rfl <| A0 <| y_M rfl <| G5 rfl rfl (F5 (by omega)) <| y_S rfl <| xN [4,5,6,7,8,9,10] [4,5] rfl ?_
       refine ⟨(k + 1, _), ?_, (by simp only [hup]; omega), ⟨rfl, rfl, rfl, rfl, rfl, rfl, rfl, rfl, rfl, trivial⟩⟩
       rw [hup]
       have hds := a8r (by omega) hdg (by omega)
       exact ⟨by omega, by omega, hds.trans (congrArg some (by omega))⟩
      refine gF rfl rfl <| E5 rfl (by assumption) rfl rfl <| xN [4,5,6,7,8,9,10,53] [4,5] rfl ?_
      refine A5 rfl (fun hc => ?_) (fun hc => absurd hc (by decide))
      refine A3 <| A0 ?_
      (refine B1 rfl rfl (fun _ => rfl) ?_; intro g2)
      refine y_S rfl <| xN [2,3] [2] rfl <| B2 <| B9 (E4 rfl rfl (by simp) (by rfl) (C3 rfl rfl (C9 B5))) ?_
      rw [rdL, ← hps, K6 (show i < ps.length by omega) (V2 (by rw [hup]; exact R8 (by omega) hdg (by omega)))]
      rfl
     refine gF rfl rfl <| gF rfl rfl <| gF rfl rfl <| E5 rfl (by assumption) rfl rfl <| y_M rfl <| F4 rfl rfl rfl <| F4 rfl rfl rfl <| E5 rfl rfl rfl rfl <| xN [4,5,6,7,8,9,10,53] [4,5] rfl ?_
     refine A5 rfl (fun hc => ?_) (fun hc => absurd hc (by decide))
     refine A3 <| A0 ?_
     (refine B1 rfl rfl (fun _ => rfl) ?_; intro g2)
     refine y_S rfl <| xN [2,3] [2] rfl <| B2 <| B9 (E4 rfl rfl (by simp) (by rfl) (C3 rfl rfl (C9 B5))) ?_
     rw [rdL, ← hps, K6 (show i < ps.length by omega) (V2 (by rw [hup]; exact R8 (by omega) hdg (by omega)))]
     rfl
    have hdU : U4 0 (unS (ps.getD i default)) = some a.toNat := by rw [hup]; rw [List.take_of_length_le (by omega)] at hdg; exact hdg
    refine F7 <| A3 <| A3 <| A0 <| y_M rfl <| xN [4,5,6,7,9,62] [4,5] rfl ?_
    refine A5 rfl (fun hc => ?_) (fun hc => absurd hc (by simp_all))
    refine A0 <| y_M rfl <| d2e rfl (F5 (by omega)) <| y_S rfl <| xN [4,5,6,7,9] [4,5] rfl <| A3 <| A3 <| A0 <| y_M rfl <| a0t rfl rfl <| y_M rfl ?_
    refine B8 rfl rfl ?_ ?_ <;> intro hg0 <;> have hg := hg0 <;> try simp only [SG] at hg
    ·refine y_M rfl <| gT rfl rfl ?_
     have hdl1 := X3 (m := -a) (by omega)
     have hdl2 := X3 (m := a) (by omega)
     refine xC1 rfl rfl (b2n (-a) (by omega)) ⟨rfl, rfl, rfl⟩ rfl rfl fun g69 => ?_
     refine gT rfl rfl <| y_M rfl <| gT rfl rfl <| y_M rfl <| gT rfl rfl <| D4 rfl rfl rfl rfl (by omega) (by (simp; done)) rfl <| gT rfl rfl <| Y1 rfl rfl (by omega) (fun _ => rfl) (fun _ => rfl) rfl <| gT rfl rfl <| b6c rfl rfl <| C8 rfl (by assumption) rfl rfl ?_
     refine G2 ⟨fun _ => ⟨by (simp only [M5, List.nil_append, List.append_nil, List.map_cons, List.map_nil, List.cons_append]; decide +kernel), by decide +kernel⟩, [(.t 4, _), (.t 5, _), (.t 6, _), (.t 9, _), (.t 75, _), (.h 4, _), (.h 5, _)], ⟨rfl, rfl, rfl, rfl, rfl, rfl, rfl, rfl, rfl, rfl, rfl, rfl, rfl, rfl, trivial⟩, ?_⟩
     refine A5 rfl ?_ ?_ <;> intro hc <;> try simp only [SL] at hc
     ·refine A3 <| A0 ?_
      (refine B1 rfl rfl (fun _ => rfl) ?_; intro g2)
      refine y_S rfl <| xN [2,3] [2] rfl <| B2 <| B9 (E4 rfl rfl (by simp) (by rfl) (C3 rfl rfl (C9 B5))) ?_
      have hno : rdI (ps.getD i default) = none := by exact a8c (m := -a) hdU (by (rw [hng, if_pos rfl]; omega)) (by exact .inr (by assumption))
      rw [rdL, ← hps, K6 (show i < ps.length by omega) hno]
      rfl
     have hri := c2f (m := -a) hdU (by (rw [hng, if_pos rfl]; omega)) (by rw [hup]; assumption) (by assumption)
     refine A8 <| A0 <| y_M rfl <| y_M rfl <| G0 (es := List.map iV [_]) rfl rfl (dT rfl) rfl rfl (fun _ => B3 (A6 fun _ => rfl)) (fun _ => rfl) ?_
     intro g78
     refine xA rfl rfl rfl rfl (by simp) (by simp) rfl rfl rfl rfl rfl (fun _ => rfl) (by simp only [LN]; omega) (fun _ => rfl) ?_
     intro g79
     (refine xO rfl rfl (by simp) rfl (fun _ => rfl) (fun _ => rfl) ?_; intro g4)
     refine xN [4,5,6] [4,5] rfl <| A0 <| y_M rfl <| G5 rfl rfl (F5 (by omega)) <| y_S rfl <| xN [4,5,6] [4,5] rfl ?_
     refine ⟨(i + 1, ns ++ [-a], _), ?_, (by simp only; omega), ⟨rfl, rfl, rfl, rfl, rfl, trivial⟩⟩
     exact ⟨by omega, a7y (by omega) hrd hri⟩
    iterate 6 refine gF rfl rfl ?_
    refine E5 rfl (by assumption) rfl rfl ?_
    refine G2 ⟨fun _ => ⟨by decide +kernel, by decide +kernel⟩, [(.t 4, _), (.t 5, _), (.t 6, _), (.t 9, _), (.t 75, _), (.h 4, _), (.h 5, _)], ⟨rfl, rfl, rfl, rfl, rfl, rfl, rfl, rfl, rfl, rfl, rfl, rfl, rfl, rfl, trivial⟩, ?_⟩
    refine A5 rfl (fun hc => ?_) (fun hc => absurd hc (by decide))
    refine A3 <| A0 ?_
    (refine B1 rfl rfl (fun _ => rfl) ?_; intro g2)
    refine y_S rfl <| xN [2,3] [2] rfl <| B2 <| B9 (E4 rfl rfl (by simp) (by rfl) (C3 rfl rfl (C9 B5))) ?_
    have hno : rdI (ps.getD i default) = none := by exact a8c (m := -a) hdU (by (rw [hng, if_pos rfl]; omega)) (by exact .inl (by rw [hup]; assumption))
    rw [rdL, ← hps, K6 (show i < ps.length by omega) hno]
    rfl
   obtain ⟨hng, hup⟩ := d2h (p := (ps.getD i default)) (by exact .inr (by omega))
   have hul := b7v (ps.getD i default)
   rw [hup] at hul
   refine A8 <| A3 <| A0 <| y_S rfl <| xN [4,5,6,7,8,9] [4,5] rfl <| A3 <| A3 <| A0 <| y_S rfl <| xN [4,5,6,7,8,9,10] [4,5] rfl <| B7 ?_
   have hup0 := hup
   refine I4 (β := Nat × Int) [(.t 4, _), (.t 5, _), (.t 6, _), (.t 7, _), (.t 8, _), (.h 4, _), (.h 5, _)] (fun (z : Nat × Int) => match z with | (k, a) => [(.t 10, iV k), (.t 9, iV a)]) (fun (z : Nat × Int) => match z with | (k, a) => k ≤ (unS (ps.getD i default)).length ∧ 0 ≤ a ∧ U4 0 ((unS (ps.getD i default)).take k) = some a.toNat) (fun (z : Nat × Int) => match z with | (k, a) => (unS (ps.getD i default)).length - k) (0, 0) ⟨rfl, rfl, rfl, rfl, rfl, rfl, rfl, rfl, rfl, trivial⟩ ⟨Nat.zero_le _, by decide, rfl⟩ ?_
   intro z hb
   obtain ⟨k, a⟩ := z
   try dsimp only at hb
   obtain ⟨hk1, ha0, hdg⟩ := hb
   have hab := b1o (by decide) hdg
   rw [hup] at hk1 hdg
   refine A3 <| A3 <| A0 <| y_M rfl <| y_M rfl <| a3s rfl rfl <| G6 rfl rfl <| xN [4,5,6,7,8,9,10,37] [4,5] rfl ?_
   refine A5 rfl ?_ ?_ <;> intro hc <;> try simp only [SL] at hc
   ·refine A8 <| A3 <| B7 <| A3 <| A3 <| A0 <| y_M rfl <| y_M rfl <| N9 rfl rfl rfl (by omega) <| G6 rfl rfl <| y_M rfl ?_
    refine B8 rfl rfl ?_ ?_ <;> intro hg0 <;> have hg := hg0 <;> try simp only [SG] at hg
    ·refine y_M rfl <| gT rfl rfl <| y_M rfl <| gT rfl rfl <| N9 rfl rfl rfl (by omega) <| gT rfl rfl <| Z2 rfl rfl <| C8 rfl (by assumption) rfl rfl <| y_M rfl ?_
     refine B8 rfl rfl ?_ ?_ <;> intro hg0 <;> have hg := hg0 <;> try simp only [SG] at hg
     ·refine y_M rfl <| gT rfl rfl <| Z2 rfl rfl <| C8 rfl (by assumption) rfl rfl <| xN [4,5,6,7,8,9,10,53] [4,5] rfl ?_
      refine A5 rfl ?_ ?_ <;> intro hc <;> try simp only [SL] at hc
      ·refine A3 <| A0 ?_
       (refine B1 rfl rfl (fun _ => rfl) ?_; intro g2)
       refine y_S rfl <| xN [2,3] [2] rfl <| B2 <| B9 (E4 rfl rfl (by simp) (by rfl) (C3 rfl rfl (C9 B5))) ?_
       rw [rdL, ← hps, K6 (show i < ps.length by omega) (V2 (by rw [hup]; exact R8 (by omega) hdg (by omega)))]
       rfl
      refine A8 <| A0 <| y_M rfl <| c8w rfl rfl (F5 (by omega)) <| y_M rfl <| y_M rfl <| N9 rfl rfl rfl (by omega) <| a9t rfl rfl (d3j (by omega)) <| b8p rfl rfl rfl (F5 (by omega)) <| G5 rfl rfl (F5 (by omega)) <| y_S rfl <| xN [4,5,6,7,8,9,10] [4,5] rfl <| A0 <| y_M rfl <| G5 rfl rfl (F5 (by omega)) <| y_S rfl <| xN [4,5,6,7,8,9,10] [4,5] rfl ?_
      refine ⟨(k + 1, _), ?_, (by simp only [hup]; omega), ⟨rfl, rfl, rfl, rfl, rfl, rfl, rfl, rfl, rfl, trivial⟩⟩
      rw [hup]
      have hds := a8r (by omega) hdg (by omega)
      exact ⟨by omega, by omega, hds.trans (congrArg some (by omega))⟩
     refine gF rfl rfl <| E5 rfl (by assumption) rfl rfl <| xN [4,5,6,7,8,9,10,53] [4,5] rfl ?_
     refine A5 rfl (fun hc => ?_) (fun hc => absurd hc (by decide))
     refine A3 <| A0 ?_
     (refine B1 rfl rfl (fun _ => rfl) ?_; intro g2)
     refine y_S rfl <| xN [2,3] [2] rfl <| B2 <| B9 (E4 rfl rfl (by simp) (by rfl) (C3 rfl rfl (C9 B5))) ?_
     rw [rdL, ← hps, K6 (show i < ps.length by omega) (V2 (by rw [hup]; exact R8 (by omega) hdg (by omega)))]
     rfl
    refine gF rfl rfl <| gF rfl rfl <| gF rfl rfl <| E5 rfl (by assumption) rfl rfl <| y_M rfl <| F4 rfl rfl rfl <| F4 rfl rfl rfl <| E5 rfl rfl rfl rfl <| xN [4,5,6,7,8,9,10,53] [4,5] rfl ?_
    refine A5 rfl (fun hc => ?_) (fun hc => absurd hc (by decide))
    refine A3 <| A0 ?_
    (refine B1 rfl rfl (fun _ => rfl) ?_; intro g2)
    refine y_S rfl <| xN [2,3] [2] rfl <| B2 <| B9 (E4 rfl rfl (by simp) (by rfl) (C3 rfl rfl (C9 B5))) ?_
    rw [rdL, ← hps, K6 (show i < ps.length by omega) (V2 (by rw [hup]; exact R8 (by omega) hdg (by omega)))]
    rfl
   have hdU : U4 0 (unS (ps.getD i default)) = some a.toNat := by rw [hup]; rw [List.take_of_length_le (by omega)] at hdg; exact hdg
   refine F7 <| A3 <| A3 <| A0 <| y_M rfl <| xN [4,5,6,7,9,62] [4,5] rfl ?_
   refine A5 rfl (fun hc => absurd hc (by simp_all)) (fun hc => ?_)
   refine A8 <| A3 <| A3 <| A0 <| y_M rfl <| a0t rfl rfl <| y_M rfl ?_
   refine B8 rfl rfl ?_ ?_ <;> intro hg0 <;> have hg := hg0 <;> try simp only [SG] at hg
   ·refine y_M rfl <| gT rfl rfl ?_
    have hdl1 := X3 (m := -a) (by omega)
    have hdl2 := X3 (m := a) (by omega)
    refine xC1 rfl rfl (b2n a (by omega)) ⟨rfl, rfl, rfl⟩ rfl rfl fun g69 => ?_
    refine gT rfl rfl <| y_M rfl <| gT rfl rfl <| y_M rfl <| gT rfl rfl <| D4 rfl rfl rfl rfl (by omega) (by (simp; done)) rfl <| gT rfl rfl <| Y1 rfl rfl (by omega) (fun _ => rfl) (fun _ => rfl) rfl <| gT rfl rfl <| b6c rfl rfl <| C8 rfl (by assumption) rfl rfl ?_
    refine G2 ⟨fun _ => ⟨by (simp only [M5, List.nil_append, List.append_nil, List.map_cons, List.map_nil, List.cons_append]; decide +kernel), by decide +kernel⟩, [(.t 4, _), (.t 5, _), (.t 6, _), (.t 9, _), (.t 75, _), (.h 4, _), (.h 5, _)], ⟨rfl, rfl, rfl, rfl, rfl, rfl, rfl, rfl, rfl, rfl, rfl, rfl, rfl, rfl, trivial⟩, ?_⟩
    refine A5 rfl ?_ ?_ <;> intro hc <;> try simp only [SL] at hc
    ·refine A3 <| A0 ?_
     (refine B1 rfl rfl (fun _ => rfl) ?_; intro g2)
     refine y_S rfl <| xN [2,3] [2] rfl <| B2 <| B9 (E4 rfl rfl (by simp) (by rfl) (C3 rfl rfl (C9 B5))) ?_
     have hno : rdI (ps.getD i default) = none := by exact a8c (m := a) hdU (by (rw [hng, if_neg (by decide)]; omega)) (by exact .inr (by assumption))
     rw [rdL, ← hps, K6 (show i < ps.length by omega) hno]
     rfl
    have hri := c2f (m := a) hdU (by (rw [hng, if_neg (by decide)]; omega)) (by rw [hup]; assumption) (by assumption)
    refine A8 <| A0 <| y_M rfl <| y_M rfl <| G0 (es := List.map iV [_]) rfl rfl (dT rfl) rfl rfl (fun _ => B3 (A6 fun _ => rfl)) (fun _ => rfl) ?_
    intro g78
    refine xA rfl rfl rfl rfl (by simp) (by simp) rfl rfl rfl rfl rfl (fun _ => rfl) (by simp only [LN]; omega) (fun _ => rfl) ?_
    intro g79
    (refine xO rfl rfl (by simp) rfl (fun _ => rfl) (fun _ => rfl) ?_; intro g4)
    refine xN [4,5,6] [4,5] rfl <| A0 <| y_M rfl <| G5 rfl rfl (F5 (by omega)) <| y_S rfl <| xN [4,5,6] [4,5] rfl ?_
    refine ⟨(i + 1, ns ++ [a], _), ?_, (by simp only; omega), ⟨rfl, rfl, rfl, rfl, rfl, trivial⟩⟩
    exact ⟨by omega, a7y (by omega) hrd hri⟩
   iterate 6 refine gF rfl rfl ?_
   refine E5 rfl (by assumption) rfl rfl ?_
   refine G2 ⟨fun _ => ⟨by decide +kernel, by decide +kernel⟩, [(.t 4, _), (.t 5, _), (.t 6, _), (.t 9, _), (.t 75, _), (.h 4, _), (.h 5, _)], ⟨rfl, rfl, rfl, rfl, rfl, rfl, rfl, rfl, rfl, rfl, rfl, rfl, rfl, rfl, trivial⟩, ?_⟩
   refine A5 rfl (fun hc => ?_) (fun hc => absurd hc (by decide))
   refine A3 <| A0 ?_
   (refine B1 rfl rfl (fun _ => rfl) ?_; intro g2)
   refine y_S rfl <| xN [2,3] [2] rfl <| B2 <| B9 (E4 rfl rfl (by simp) (by rfl) (C3 rfl rfl (C9 B5))) ?_
   have hno : rdI (ps.getD i default) = none := by exact a8c (m := a) hdU (by (rw [hng, if_neg (by decide)]; omega)) (by exact .inl (by rw [hup]; assumption))
   rw [rdL, ← hps, K6 (show i < ps.length by omega) hno]
   rfl
  refine gF rfl rfl <| gF rfl rfl <| C8 rfl (by assumption) rfl rfl <| y_S rfl <| xN [4,5,6,7,8] [4,5] rfl <| A3 <| A3 <| A0 <| y_M rfl <| xN [4,5,6,7,8,31] [4,5] rfl ?_
  refine A5 rfl (fun hc => absurd hc (by decide)) (fun hc => ?_)
  refine A8 <| A3 <| A0 <| y_S rfl <| xN [4,5,6,7,8,9] [4,5] rfl <| A3 <| A3 <| A0 <| y_S rfl <| xN [4,5,6,7,8,9,10] [4,5] rfl <| B7 ?_
  (obtain ⟨hng, hup⟩ := d2h (p := (ps.getD i default)) (.inl (by assumption)); have hul := b7v (ps.getD i default); rw [hup] at hul)
  refine I4 (β := Nat × Int) [(.t 4, _), (.t 5, _), (.t 6, _), (.t 7, _), (.t 8, _), (.h 4, _), (.h 5, _)] (fun (z : Nat × Int) => match z with | (k, a) => [(.t 10, iV k), (.t 9, iV a)]) (fun (z : Nat × Int) => match z with | (k, a) => k ≤ (unS (ps.getD i default)).length ∧ 0 ≤ a ∧ U4 0 ((unS (ps.getD i default)).take k) = some a.toNat) (fun (z : Nat × Int) => match z with | (k, a) => (unS (ps.getD i default)).length - k) (0, 0) ⟨rfl, rfl, rfl, rfl, rfl, rfl, rfl, rfl, rfl, trivial⟩ ⟨Nat.zero_le _, by decide, rfl⟩ ?_
  intro z hb
  obtain ⟨k, a⟩ := z
  try dsimp only at hb
  obtain ⟨hk1, ha0, hdg⟩ := hb
  have hab := b1o (by decide) hdg
  rw [hup] at hk1 hdg
  refine A3 <| A3 <| A0 <| y_M rfl <| y_M rfl <| a3s rfl rfl <| G6 rfl rfl <| xN [4,5,6,7,8,9,10,37] [4,5] rfl ?_
  refine A5 rfl ?_ ?_ <;> intro hc <;> try simp only [SL] at hc
  ·refine A8 <| A3 <| B7 <| A3 <| A3 <| A0 <| y_M rfl <| y_M rfl <| N9 rfl rfl rfl (by omega) <| G6 rfl rfl <| y_M rfl ?_
   refine B8 rfl rfl ?_ ?_ <;> intro hg0 <;> have hg := hg0 <;> try simp only [SG] at hg
   ·refine y_M rfl <| gT rfl rfl <| y_M rfl <| gT rfl rfl <| N9 rfl rfl rfl (by omega) <| gT rfl rfl <| Z2 rfl rfl <| C8 rfl (by assumption) rfl rfl <| y_M rfl ?_
    refine B8 rfl rfl ?_ ?_ <;> intro hg0 <;> have hg := hg0 <;> try simp only [SG] at hg
    ·refine y_M rfl <| gT rfl rfl <| Z2 rfl rfl <| C8 rfl (by assumption) rfl rfl <| xN [4,5,6,7,8,9,10,53] [4,5] rfl ?_
     refine A5 rfl ?_ ?_ <;> intro hc <;> try simp only [SL] at hc
     ·refine A3 <| A0 ?_
      (refine B1 rfl rfl (fun _ => rfl) ?_; intro g2)
      refine y_S rfl <| xN [2,3] [2] rfl <| B2 <| B9 (E4 rfl rfl (by simp) (by rfl) (C3 rfl rfl (C9 B5))) ?_
      rw [rdL, ← hps, K6 (show i < ps.length by omega) (V2 (by rw [hup]; exact R8 (by omega) hdg (by omega)))]
      rfl
     refine A8 <| A0 <| y_M rfl <| c8w rfl rfl (F5 (by omega)) <| y_M rfl <| y_M rfl <| N9 rfl rfl rfl (by omega) <| a9t rfl rfl (d3j (by omega)) <| b8p rfl rfl rfl (F5 (by omega)) <| G5 rfl rfl (F5 (by omega)) <| y_S rfl <| xN [4,5,6,7,8,9,10] [4,5] rfl <| A0 <| y_M rfl <| G5 rfl rfl (F5 (by omega)) <| y_S rfl <| xN [4,5,6,7,8,9,10] [4,5] rfl ?_
     refine ⟨(k + 1, _), ?_, (by simp only [hup]; omega), ⟨rfl, rfl, rfl, rfl, rfl, rfl, rfl, rfl, rfl, trivial⟩⟩
     rw [hup]
     have hds := a8r (by omega) hdg (by omega)
     exact ⟨by omega, by omega, hds.trans (congrArg some (by omega))⟩
    refine gF rfl rfl <| E5 rfl (by assumption) rfl rfl <| xN [4,5,6,7,8,9,10,53] [4,5] rfl ?_
    refine A5 rfl (fun hc => ?_) (fun hc => absurd hc (by decide))
    refine A3 <| A0 ?_
    (refine B1 rfl rfl (fun _ => rfl) ?_; intro g2)
    refine y_S rfl <| xN [2,3] [2] rfl <| B2 <| B9 (E4 rfl rfl (by simp) (by rfl) (C3 rfl rfl (C9 B5))) ?_
    rw [rdL, ← hps, K6 (show i < ps.length by omega) (V2 (by rw [hup]; exact R8 (by omega) hdg (by omega)))]
    rfl
   refine gF rfl rfl <| gF rfl rfl <| gF rfl rfl <| E5 rfl (by assumption) rfl rfl <| y_M rfl <| F4 rfl rfl rfl <| F4 rfl rfl rfl <| E5 rfl rfl rfl rfl <| xN [4,5,6,7,8,9,10,53] [4,5] rfl ?_
   refine A5 rfl (fun hc => ?_) (fun hc => absurd hc (by decide))
   refine A3 <| A0 ?_
   (refine B1 rfl rfl (fun _ => rfl) ?_; intro g2)
   refine y_S rfl <| xN [2,3] [2] rfl <| B2 <| B9 (E4 rfl rfl (by simp) (by rfl) (C3 rfl rfl (C9 B5))) ?_
   rw [rdL, ← hps, K6 (show i < ps.length by omega) (V2 (by rw [hup]; exact R8 (by omega) hdg (by omega)))]
   rfl
  have hdU : U4 0 (unS (ps.getD i default)) = some a.toNat := by rw [hup]; rw [List.take_of_length_le (by omega)] at hdg; exact hdg
  refine F7 <| A3 <| A3 <| A0 <| y_M rfl <| xN [4,5,6,7,9,62] [4,5] rfl ?_
  refine A5 rfl (fun hc => absurd hc (by decide)) (fun hc => ?_)
  refine A8 <| A3 <| A3 <| A0 <| y_M rfl <| a0t rfl rfl <| y_M rfl ?_
  refine B8 rfl rfl ?_ ?_ <;> intro hg0 <;> have hg := hg0 <;> try simp only [SG] at hg
  ·refine y_M rfl <| gT rfl rfl ?_
   have hdl1 := X3 (m := -a) (by omega)
   have hdl2 := X3 (m := a) (by omega)
   refine xC1 rfl rfl (b2n a (by omega)) ⟨rfl, rfl, rfl⟩ rfl rfl fun g69 => ?_
   refine gT rfl rfl <| y_M rfl <| gT rfl rfl <| y_M rfl <| gT rfl rfl <| D4 rfl rfl rfl rfl (by omega) (by (simp; done)) rfl <| gT rfl rfl <| Y1 rfl rfl (by omega) (fun _ => rfl) (fun _ => rfl) rfl <| gT rfl rfl <| b6c rfl rfl <| C8 rfl (by assumption) rfl rfl ?_
   refine G2 ⟨fun _ => ⟨by (simp only [M5, List.nil_append, List.append_nil, List.map_cons, List.map_nil, List.cons_append]; decide +kernel), by decide +kernel⟩, [(.t 4, _), (.t 5, _), (.t 6, _), (.t 9, _), (.t 75, _), (.h 4, _), (.h 5, _)], ⟨rfl, rfl, rfl, rfl, rfl, rfl, rfl, rfl, rfl, rfl, rfl, rfl, rfl, rfl, trivial⟩, ?_⟩
   refine A5 rfl ?_ ?_ <;> intro hc <;> try simp only [SL] at hc
   ·refine A3 <| A0 ?_
    (refine B1 rfl rfl (fun _ => rfl) ?_; intro g2)
    refine y_S rfl <| xN [2,3] [2] rfl <| B2 <| B9 (E4 rfl rfl (by simp) (by rfl) (C3 rfl rfl (C9 B5))) ?_
    have hno : rdI (ps.getD i default) = none := by exact a8c (m := a) hdU (by (rw [hng, if_neg (by decide)]; omega)) (by exact .inl (by rw [hup]; assumption))
    rw [rdL, ← hps, K6 (show i < ps.length by omega) hno]
    rfl
   have hri := c2f (m := a) hdU (by (rw [hng, if_neg (by decide)]; omega)) (by rw [hup]; assumption) (by assumption)
   refine A8 <| A0 <| y_M rfl <| y_M rfl <| G0 (es := List.map iV [_]) rfl rfl (dT rfl) rfl rfl (fun _ => B3 (A6 fun _ => rfl)) (fun _ => rfl) ?_
   intro g78
   refine xA rfl rfl rfl rfl (by simp) (by simp) rfl rfl rfl rfl rfl (fun _ => rfl) (by simp only [LN]; omega) (fun _ => rfl) ?_
   intro g79
   (refine xO rfl rfl (by simp) rfl (fun _ => rfl) (fun _ => rfl) ?_; intro g4)
   refine xN [4,5,6] [4,5] rfl <| A0 <| y_M rfl <| G5 rfl rfl (F5 (by omega)) <| y_S rfl <| xN [4,5,6] [4,5] rfl ?_
   refine ⟨(i + 1, ns ++ [a], _), ?_, (by simp only; omega), ⟨rfl, rfl, rfl, rfl, rfl, trivial⟩⟩
   exact ⟨by omega, a7y (by omega) hrd hri⟩
  iterate 6 refine gF rfl rfl ?_
  refine E5 rfl (by assumption) rfl rfl ?_
  refine G2 ⟨fun _ => ⟨by decide +kernel, by decide +kernel⟩, [(.t 4, _), (.t 5, _), (.t 6, _), (.t 9, _), (.t 75, _), (.h 4, _), (.h 5, _)], ⟨rfl, rfl, rfl, rfl, rfl, rfl, rfl, rfl, rfl, rfl, rfl, rfl, rfl, rfl, trivial⟩, ?_⟩
  refine A5 rfl (fun hc => ?_) (fun hc => absurd hc (by decide))
  refine A3 <| A0 ?_
  (refine B1 rfl rfl (fun _ => rfl) ?_; intro g2)
  refine y_S rfl <| xN [2,3] [2] rfl <| B2 <| B9 (E4 rfl rfl (by simp) (by rfl) (C3 rfl rfl (C9 B5))) ?_
  have hno : rdI (ps.getD i default) = none := by exact a8c (m := a) hdU (by (rw [hng, if_neg (by decide)]; omega)) (by exact .inl (by rw [hup]; assumption))
  rw [rdL, ← hps, K6 (show i < ps.length by omega) hno]
  rfl
 refine F7 <| A3 <| A0 <| y_M rfl ?_
 (refine xO rfl rfl (by simp) rfl (fun _ => rfl) (fun _ => rfl) ?_; intro g2)
 refine y_S rfl <| xN [2,3] [2] rfl <| B2 <| B9 (E4 rfl rfl (by simp) (by exact A6 fun _ => rfl) (C3 rfl rfl (C9 B5))) ?_
 have hil : i = ps.length := by omega
 rw [hil, List.take_length] at hrd
 rw [rdL, ← hps, hrd]
 rfl

theorem b0e : F6 Tryz.f27 = [0, 2, 3, 4, 22, 24, 5, 6] := by kernel_rfl
theorem c4f (s : List UInt8) (hs : s.length ≤ 1048576) : CW cxT 27 [tV s] = some (.tup [.own 1 ((b9l s).map iV), bV (numsOf s).isSome], []) := by
 refine E7 rfl Tryz.func27 rfl ⟨by kernel_rfl, rfl, dT rfl, dT rfl, by decide⟩ b0e <| A3 <| A0 ?_
 (refine B1 rfl rfl (fun _ => rfl) ?_; intro g2)
 refine y_S rfl <| xN [0] [] rfl <| A3 <| A0 <| y_M rfl <| a3s rfl rfl <| y_S rfl <| xN [0,4] [] rfl <| A3 <| A3 <| A0 <| y_M rfl <| G6 rfl rfl <| y_M rfl ?_
 refine B8 rfl rfl ?_ ?_ <;> intro hg0 <;> have hg := hg0 <;> try simp only [SG] at hg
 ·refine y_M rfl <| gT rfl rfl <| N9 (n := 0) rfl rfl rfl (by omega) <| gT rfl rfl <| Z3 rfl rfl <| C8 rfl (by assumption) rfl rfl <| y_M rfl ?_
  refine B8 rfl rfl ?_ ?_ <;> intro hg0 <;> have hg := hg0 <;> try simp only [SG] at hg
  ·refine y_M rfl <| gT rfl rfl <| y_M rfl <| gT rfl rfl <| a9t rfl rfl (F5 (by omega)) <| gT rfl rfl ?_
   rw [show ((s.length : Int) - 1) = ((s.length - 1 : Nat) : Int) by omega]
   refine N9 rfl rfl rfl (by omega) <| gT rfl rfl <| Z3 rfl rfl <| C8 rfl (by assumption) rfl rfl <| xN [0,4,22] [] rfl ?_
   refine A5 rfl ?_ ?_ <;> intro hc <;> try simp only [SL] at hc
   ·refine A3 <| A0 ?_
    (refine B1 rfl rfl (fun _ => rfl) ?_; intro g2)
    refine y_S rfl <| xN [2,3] [2] rfl <| B2 <| B9 (E4 rfl rfl (by simp) (by rfl) (C3 rfl rfl (C9 B5))) ?_
    obtain ⟨hn1, hn2⟩ := a8a (s := s) (by exact .inr (.inr (by omega)))
    rw [hn1, hn2]
    rfl
   have hin := c5n (s := s) (by omega) (by omega) (by omega)
   refine A8 <| A3 <| A3 <| A0 <| y_M rfl <| U0 rfl rfl <| xN [0,4,24] [] rfl ?_
   refine A5 rfl ?_ ?_ <;> intro hc <;> try simp only [SL] at hc
   ·refine A3 <| A0 <| G0 (es := List.map iV []) rfl rfl (dT rfl) rfl rfl (fun _ => B3 (A6 fun _ => rfl)) (fun _ => rfl) ?_
    intro g25
    (refine xO rfl rfl (by simp) rfl (fun _ => rfl) (fun _ => rfl) ?_; intro g2)
    refine y_S rfl <| xN [2,3] [2] rfl <| B2 <| B9 (E4 rfl rfl (by simp) (by rfl) (C3 rfl rfl (C9 B5))) ?_
    obtain ⟨hn1, hn2⟩ := hin.1 (by omega)
    rw [hn1, hn2]
    rfl
   refine A8 <| A3 <| A0 <| y_M rfl <| y_M rfl <| a9t rfl rfl (F5 (by omega)) ?_
   rw [show ((s.length : Int) - 1) = ((s.length - 1 : Nat) : Int) by omega]
   have hrl := d0u ((s.drop 1).take (s.length - 1 - 1))
   have hin2 : ((s.drop 1).take (s.length - 1 - 1)).length ≤ s.length - 2 := by simp only [List.length_take, List.length_drop]; omega
   refine a4s rfl rfl (H8 rfl) (H8 (n := 1) rfl) (by omega) ?_
   apply xC rfl
   ·apply B0
    ·exact B6 rfl
    exact C6
   ·exact c3o ((s.drop 1).take (s.length - 1 - 1)) (by omega)
   refine ⟨⟨rfl, rfl, rfl, dT rfl, rfl⟩, .inr ⟨a2w _ _, rfl⟩, B4, G4 (K2 fun _ => H2 rfl K7), fun _ => rfl, fun g31 => ?_⟩
   simp only [List.length_map]
   refine y_M rfl <| y_E rfl <| y_E rfl ?_
   (refine xO rfl rfl (by simp) rfl (fun _ => rfl) (fun _ => rfl) ?_; intro g5)
   refine y_S rfl <| xN [5,6] [5] rfl <| A3 <| A0 <| y_M rfl <| y_M rfl <| y_M rfl ?_
   refine B8 rfl rfl ?_ ?_ <;> intro hg0 <;> have hg := hg0 <;> try simp only [SG] at hg
   ·refine y_M rfl <| gT rfl rfl ?_
    apply xC rfl
    ·apply B0
     ·exact Q9 rfl rfl rfl (by (simp; done)) (fun _ => rfl)
     exact C6
    ·exact c0b ((rdL ((s.drop 1).take (s.length - 1 - 1))).getD []) (by omega)
    refine ⟨⟨rfl, rfl, rfl, dT rfl, rfl⟩, .inr ⟨rfl, rfl⟩, B4, E6 rfl, fun _ => rfl, fun g38 => ?_⟩
    refine E5 rfl (by assumption) rfl rfl ?_
    (refine xO rfl rfl (by simp) rfl (fun _ => rfl) (fun _ => rfl) ?_; intro g2)
    refine y_S rfl <| xN [2,3] [2] rfl <| B2 <| B9 (E4 rfl rfl (by simp) (by exact A6 fun _ => rfl) (C3 rfl rfl (C9 B5))) ?_
    obtain ⟨hn1, hn2⟩ := hin.2 (by omega)
    rw [hn2, b3s hn1]
    simp_all
    try rfl
   refine gF rfl rfl <| C8 rfl (by assumption) rfl rfl ?_
   (refine xO rfl rfl (by simp) rfl (fun _ => rfl) (fun _ => rfl) ?_; intro g2)
   refine y_S rfl <| xN [2,3] [2] rfl <| B2 <| B9 (E4 rfl rfl (by simp) (by exact A6 fun _ => rfl) (C3 rfl rfl (C9 B5))) ?_
   obtain ⟨hn1, hn2⟩ := hin.2 (by omega)
   rw [hn2, b3s hn1]
   simp_all
   try rfl
  iterate 4 refine gF rfl rfl ?_
  refine E5 rfl (by assumption) rfl rfl <| xN [0,4,22] [] rfl ?_
  refine A5 rfl (fun hc => ?_) (fun hc => absurd hc (by decide))
  refine A3 <| A0 ?_
  (refine B1 rfl rfl (fun _ => rfl) ?_; intro g2)
  refine y_S rfl <| xN [2,3] [2] rfl <| B2 <| B9 (E4 rfl rfl (by simp) (by rfl) (C3 rfl rfl (C9 B5))) ?_
  obtain ⟨hn1, hn2⟩ := a8a (s := s) (by exact .inr (.inl (by omega)))
  rw [hn1, hn2]
  rfl
 refine gF rfl rfl <| gF rfl rfl <| E5 rfl (by assumption) rfl rfl <| y_M rfl ?_
 iterate 5 refine F4 rfl rfl rfl ?_
 refine E5 rfl rfl rfl rfl <| xN [0,4,22] [] rfl ?_
 refine A5 rfl (fun hc => ?_) (fun hc => absurd hc (by decide))
 refine A3 <| A0 ?_
 (refine B1 rfl rfl (fun _ => rfl) ?_; intro g2)
 refine y_S rfl <| xN [2,3] [2] rfl <| B2 <| B9 (E4 rfl rfl (by simp) (by rfl) (C3 rfl rfl (C9 B5))) ?_
 obtain ⟨hn1, hn2⟩ := a8a (s := s) (by exact .inl (by omega))
 rw [hn1, hn2]
 rfl

theorem b0k : F6 Tryz.f19 = [0, 2, 3, 4, 15, 6, 24, 5, 7, 34, 43, 9, 12, 53, 8, 10, 11, 48, 59] := by kernel_rfl
theorem b1r (ws : List W8) (hws : ws.length ≤ 1048600 ∧ ∀ w ∈ ws, w.length ≤ 1048576) : CW cxT 19 [.list (ws.map tV)] = some (rtR (rdT ws), []) := by
 obtain ⟨kk, hkk⟩ : ∃ kk : Nat, ws.length < kk := ⟨_, Nat.lt_succ_self _⟩
 revert ws
 induction kk with
 | zero => intro ws hws hkk; exact absurd hkk (Nat.not_lt_zero _)
 | succ kk ih =>
  intro ws hws hkk
  refine E7 rfl Tryz.func19 rfl ⟨by kernel_rfl, rfl, dT rfl, dT rfl, by decide⟩ b0k <| A3 <| A0 <| y_A rfl (fun _ => rfl) ?_
  intro g2
  (refine B1 rfl rfl (fun _ => rfl) ?_; intro g3)
  refine y_S rfl <| xN [0,2] [2] rfl <| A3 <| A3 <| A0 <| y_M rfl <| D8 rfl rfl <| U0 rfl rfl <| xN [0,2,15] [2] rfl ?_
  refine A5 rfl ?_ ?_ <;> intro hc <;> try simp only [SL] at hc
  ·have hw0 : ws = [] := List.length_eq_zero_iff.1 (by simpa using hc)
   subst hw0
   refine A3 <| A0 <| H6 (fs := [_, _, _]) rfl rfl rfl rfl rfl <| xB rfl rfl rfl rfl rfl rfl rfl rfl rfl ?_
   (refine B1 rfl rfl (fun _ => rfl) ?_; intro g3)
   refine y_S rfl <| xN [2,3,4] [2,3] rfl <| B2 <| B9 (G9 rfl rfl rfl rfl (H1 rfl (H5 rfl (H5 rfl K5))) (E4 rfl rfl (by simp) (by rfl) (C3 rfl rfl (C9 B5)))) ?_
   rfl
  obtain ⟨w, ws1, rfl⟩ : ∃ w ws1, ws = w :: ws1 := List.exists_cons_of_ne_nil (fun e => by subst e; simp at hc)
  have hw := hws.2 w (by simp)
  refine A8 <| A3 <| A0 <| y_M rfl <| E9 rfl rfl rfl (fun _ => rfl) (by (change 0 < _; omega)) <| y_I rfl ?_
  apply xC rfl
  ·apply B0
   ·exact B6 rfl
   exact C6
  ·exact c4f w (by omega)
  refine ⟨⟨rfl, rfl, rfl, dT rfl, rfl⟩, .inr ⟨a2w _ _, rfl⟩, B4, G4 (K2 fun _ => H2 rfl K7), fun _ => rfl, fun g21 => ?_⟩
  simp only [List.length_map]
  refine y_M rfl <| y_E rfl <| y_E rfl ?_
  (refine xO rfl rfl (by simp) rfl (fun _ => rfl) (fun _ => rfl) ?_; intro g5)
  refine y_S rfl <| xN [0,2,5,6] [2,5] rfl <| A3 <| A3 <| A0 <| y_M rfl <| xN [0,2,5,24] [2,5] rfl ?_
  refine A5 rfl ?_ ?_ <;> intro hc <;> try simp only [SL] at hc
  ·obtain ⟨ns, hns⟩ := Option.isSome_iff_exists.1 hc
   have hraw := d0t hns
   refine A3 <| A0 <| y_M rfl <| H6 (fs := [_, _, _]) rfl rfl rfl rfl rfl <| y_M rfl <| M9 rfl rfl rfl (Mv.sized_map fun _ => rfl) L9 (H8 (n := 1) rfl) (by simp) ?_
   rw [show ((List.map tV (w :: ws1)).drop 1).take ((List.map tV (w :: ws1)).length - 1) = ws1.map tV from by rw [List.map_cons, List.drop_succ_cons, List.drop_zero, List.take_of_length_le (by simp)]]
   refine G7 rfl rfl rfl rfl (D9 rfl (a2l (by decide) (D9 rfl I9))) (fun _ => rfl) ⟨by decide, rfl, dT rfl, Nat.le_refl _⟩ (fun _ => rfl) (fun _ => rfl) (fun _ => (by rfl)) ?_
   intro z
   simp only [I1, List.cons_append, List.nil_append]
   refine y_S rfl <| y_S rfl ?_
   refine G2 ⟨fun _ => ⟨by (simp only [M5, List.nil_append, List.append_nil, List.map_cons, List.map_nil, List.cons_append]; decide +kernel), by decide +kernel⟩, [(.t 2, _), (.t 3, _), (.t 4, _), (.h 2, _), (.h 5, _)], ⟨rfl, rfl, rfl, rfl, rfl, rfl, rfl, rfl, rfl, rfl, trivial⟩, ?_⟩
   refine B2 <| B9 (G9 rfl rfl rfl rfl (H1 rfl (a2n rfl rfl (by simp) (fun _ => rfl) (H5 rfl K5))) (C3 rfl rfl (C3 rfl rfl (C9 B5)))) ?_
   rw [b9c hns, hraw]
   rfl
  have hnn : numsOf w = none := by simpa using hc
  refine A8 <| A3 <| A0 <| y_M rfl <| E9 rfl rfl rfl (fun _ => rfl) (by (change 0 < _; omega)) <| y_I rfl ?_
  refine xC1 rfl rfl (c5o (bA w)) ⟨rfl, rfl, rfl⟩ rfl rfl fun g32 => ?_
  refine y_S rfl <| xN [0,2,7] [2] rfl <| A3 <| A3 <| A0 <| y_M rfl <| G6 rfl rfl <| xN [0,2,7,34] [2] rfl ?_
  refine A5 rfl ?_ ?_ <;> intro hc <;> try simp only [SL] at hc
  ·refine A3 <| A0 <| H6 (fs := [_, _, _]) rfl rfl rfl rfl rfl <| xB rfl rfl rfl rfl rfl rfl rfl rfl rfl ?_
   (refine B1 rfl rfl (fun _ => rfl) ?_; intro g3)
   refine y_S rfl <| xN [2,3,4] [2,3] rfl <| B2 <| B9 (G9 rfl rfl rfl rfl (H1 rfl (H5 rfl (H5 rfl K5))) (E4 rfl rfl (by simp) (by rfl) (C3 rfl rfl (C9 B5)))) ?_
   rw [c4q hnn (by omega)]
   rfl
  refine A8 <| A3 <| A0 <| y_M rfl <| E9 rfl rfl rfl (fun _ => rfl) (by (change 0 < _; omega)) <| y_I rfl <| H6 (fs := [_, _, _]) rfl rfl rfl rfl rfl <| y_A rfl (fun _ => rfl) ?_
  intro g8
  refine xB rfl rfl rfl rfl rfl rfl rfl rfl rfl <| xN [0,2,7,8] [2,8] rfl <| A3 <| A0 ?_
  rcases b6l (w := bA w) (by omega) with hn | hn | hn
  ·rw [hn]
   refine y_M rfl <| M9 rfl rfl rfl (Mv.sized_map fun _ => rfl) L9 (H8 (n := 1) rfl) (by simp) ?_
   rw [show ((List.map tV (w :: ws1)).drop 1).take ((List.map tV (w :: ws1)).length - 1) = ws1.map tV from by rw [List.map_cons, List.drop_succ_cons, List.drop_zero, List.take_of_length_le (by simp)]]
   refine y_S rfl <| xN [2,7,8,9] [2,8] rfl <| A3 <| B7 <| E8 <| A3 <| A3 <| A0 <| y_M rfl <| Z2 rfl rfl <| xN [2,7,8,9,43] [2,8] rfl ?_
   refine A5 rfl (fun hc => absurd hc (by decide)) (fun hc => ?_)
   refine F7 <| A3 <| A0 <| y_B rfl <| y_M rfl <| xB rfl rfl rfl rfl rfl rfl rfl rfl rfl <| y_S rfl <| y_S rfl <| xN [2,3,4] [2] rfl <| B2 <| B9 (G9 rfl rfl rfl rfl (H1 rfl (H5 rfl (H5 rfl K5))) (C3 rfl rfl (C3 rfl rfl (C9 B5)))) ?_
   rw [c5i hnn hn]
   rfl
  ·rw [hn]
   refine y_M rfl <| M9 rfl rfl rfl (Mv.sized_map fun _ => rfl) L9 (H8 (n := 1) rfl) (by simp) ?_
   rw [show ((List.map tV (w :: ws1)).drop 1).take ((List.map tV (w :: ws1)).length - 1) = ws1.map tV from by rw [List.map_cons, List.drop_succ_cons, List.drop_zero, List.take_of_length_le (by simp)]]
   refine y_S rfl <| xN [2,7,8,9] [2,8] rfl <| A3 <| B7 <| E8 <| A3 <| A3 <| A0 <| y_M rfl <| Z2 rfl rfl <| xN [2,7,8,9,43] [2,8] rfl ?_
   refine A5 rfl (fun hc => ?_) (fun hc => absurd hc (by decide))
   refine A8 <| A3 <| B7 <| A3 <| A0 <| y_M rfl ?_
   rcases hr1 : rdT ws1 with _ | ⟨k1, r1⟩
   ·skip
    apply xC rfl
    ·apply B0
     ·exact B6 rfl
     exact C6
    ·exact (by have hi := ih ws1 ⟨by simp only [List.length_cons] at hws; omega, fun x hx => hws.2 x (List.mem_cons_of_mem _ hx)⟩ (by simp only [List.length_cons] at hkk; omega); rw [hr1] at hi; exact hi)
    refine ⟨⟨rfl, rfl, rfl, dT rfl, rfl⟩, .inl rfl, B4, G4 (H2 rfl (K2 fun _ => H2 rfl K7)), fun _ => A7 (B3 rfl) (by rfl), fun g48 => ?_⟩
    refine y_M rfl <| y_E rfl <| y_E rfl <| y_E rfl <| y_A rfl (fun _ => rfl) ?_
    intro g10
    refine xB rfl rfl rfl rfl rfl rfl rfl rfl rfl ?_
    (refine F0 rfl rfl (by (simp; done)) rfl (fun _ => (B3 (by rfl))) (fun _ => rfl) ?_; intro g11)
    refine y_S rfl <| xN [2,7,8,10,11,12] [2,8,10] rfl <| A3 <| A3 <| A0 <| y_M rfl <| N7 rfl <| xN [2,7,8,10,11,53] [2,8,10] rfl ?_
    refine A5 rfl (fun hc => ?_) (fun hc => absurd hc (by decide))
    refine A3 <| A0 <| H6 (fs := [_, _, _]) rfl rfl rfl rfl rfl <| xB rfl rfl rfl rfl rfl rfl rfl rfl rfl ?_
    (refine B1 rfl rfl (fun _ => rfl) ?_; intro g3)
    refine y_S rfl <| xN [2,3,4] [2,3] rfl <| B2 <| B9 (G9 rfl rfl rfl rfl (H1 rfl (H5 rfl (H5 rfl K5))) (E4 rfl rfl (by simp) (by rfl) (C3 rfl rfl (C9 B5)))) ?_
    rw [b7n hnn hn, hr1]
    rfl
   skip
   apply xC rfl
   ·apply B0
    ·exact B6 rfl
    exact C6
   ·exact (by have hi := ih ws1 ⟨by simp only [List.length_cons] at hws; omega, fun x hx => hws.2 x (List.mem_cons_of_mem _ hx)⟩ (by simp only [List.length_cons] at hkk; omega); rw [hr1] at hi; exact hi)
   refine ⟨⟨rfl, rfl, rfl, dT rfl, rfl⟩, .inl rfl, B4, L6 rfl, fun _ => rfl, fun g48 => ?_⟩
   refine y_M rfl <| y_E rfl <| y_E rfl <| y_E rfl <| y_A rfl (fun _ => rfl) ?_
   intro g10
   refine xB rfl rfl rfl rfl rfl rfl rfl rfl rfl <| y_S rfl <| y_S rfl <| xN [2,7,8,10,11,12] [2,8,10] rfl <| A3 <| A3 <| A0 <| y_M rfl <| N7 rfl <| xN [2,7,8,10,11,53] [2,8,10] rfl ?_
   refine A5 rfl (fun hc => absurd hc (by decide)) (fun hc => ?_)
   refine A8 <| A3 <| A0 <| y_F rfl <| y_L rfl <| y_B rfl <| a1h (es := List.map trV [_]) rfl rfl (dT rfl) rfl rfl (fun _ => B3 (A6 fun _ => rfl)) (fun _ => rfl) ?_
   intro g58
   refine P6 rfl rfl rfl (by simp) (by decide) rfl rfl rfl (dT rfl) (fun _ => ⟨rfl, rfl⟩) (by simp only [I8]; (simp only [List.length_nil, List.length_cons, List.length_append, Nat.zero_add, List.length_map]; omega)) (fun _ => rfl) ?_
   intro g59
   refine y_F rfl <| O8 rfl rfl rfl rfl rfl (Nat.le_refl _) rfl <| xN [2,7,8,11] [2,8,1000059] rfl <| A0 <| y_M rfl <| y_S rfl <| xN [2,7,8,9] [2,8,1000059] rfl <| A0 <| y_M rfl <| a9t rfl rfl (F5 (by omega)) <| y_S rfl <| xN [2,7,8,9] [2,8,1000059] rfl <| E8 <| A3 <| A3 <| A0 <| y_M rfl <| Z2 rfl rfl <| xN [2,7,8,9,43] [2,8,1000059] rfl ?_
   refine A5 rfl (fun hc => absurd hc (by decide)) (fun hc => ?_)
   refine F7 <| A3 <| A0 <| y_B rfl <| y_M rfl <| G7 rfl rfl rfl rfl (D9 rfl (D9 rfl (T3 (by decide) (by decide) rfl (by simp) fun _ => I9))) (fun _ => rfl) ⟨by decide, rfl, dT rfl, Nat.le_refl _⟩ (fun _ => rfl) (fun _ => rfl) (fun _ => A7 (by rfl) (A7 (B3 (A6 fun _ => rfl)) (by rfl))) ?_
   intro z
   simp only [I1, List.cons_append, List.nil_append]
   refine y_S rfl <| y_S rfl <| xN [2,3,4] [2,300002] rfl <| B2 <| B9 (G9 rfl rfl rfl rfl (H1 rfl (H5 rfl (a2n rfl rfl (by simp) (fun _ => rfl) K5))) (C3 rfl rfl (C3 rfl rfl (C9 B5)))) ?_
   rw [b7n hnn hn, hr1]
   rfl
  rw [hn]
  refine y_M rfl <| M9 rfl rfl rfl (Mv.sized_map fun _ => rfl) L9 (H8 (n := 1) rfl) (by simp) ?_
  rw [show ((List.map tV (w :: ws1)).drop 1).take ((List.map tV (w :: ws1)).length - 1) = ws1.map tV from by rw [List.map_cons, List.drop_succ_cons, List.drop_zero, List.take_of_length_le (by simp)]]
  refine y_S rfl <| xN [2,7,8,9] [2,8] rfl <| A3 <| B7 <| E8 <| A3 <| A3 <| A0 <| y_M rfl <| Z2 rfl rfl <| xN [2,7,8,9,43] [2,8] rfl ?_
  refine A5 rfl (fun hc => ?_) (fun hc => absurd hc (by decide))
  refine A8 <| A3 <| B7 <| A3 <| A0 <| y_M rfl ?_
  rcases hr1 : rdT ws1 with _ | ⟨k1, r1⟩
  ·skip
   apply xC rfl
   ·apply B0
    ·exact B6 rfl
    exact C6
   ·exact (by have hi := ih ws1 ⟨by simp only [List.length_cons] at hws; omega, fun x hx => hws.2 x (List.mem_cons_of_mem _ hx)⟩ (by simp only [List.length_cons] at hkk; omega); rw [hr1] at hi; exact hi)
   refine ⟨⟨rfl, rfl, rfl, dT rfl, rfl⟩, .inl rfl, B4, G4 (H2 rfl (K2 fun _ => H2 rfl K7)), fun _ => A7 (B3 rfl) (by rfl), fun g48 => ?_⟩
   refine y_M rfl <| y_E rfl <| y_E rfl <| y_E rfl <| y_A rfl (fun _ => rfl) ?_
   intro g10
   refine xB rfl rfl rfl rfl rfl rfl rfl rfl rfl ?_
   (refine F0 rfl rfl (by (simp; done)) rfl (fun _ => (B3 (by rfl))) (fun _ => rfl) ?_; intro g11)
   refine y_S rfl <| xN [2,7,8,10,11,12] [2,8,10] rfl <| A3 <| A3 <| A0 <| y_M rfl <| N7 rfl <| xN [2,7,8,10,11,53] [2,8,10] rfl ?_
   refine A5 rfl (fun hc => ?_) (fun hc => absurd hc (by decide))
   refine A3 <| A0 <| H6 (fs := [_, _, _]) rfl rfl rfl rfl rfl <| xB rfl rfl rfl rfl rfl rfl rfl rfl rfl ?_
   (refine B1 rfl rfl (fun _ => rfl) ?_; intro g3)
   refine y_S rfl <| xN [2,3,4] [2,3] rfl <| B2 <| B9 (G9 rfl rfl rfl rfl (H1 rfl (H5 rfl (H5 rfl K5))) (E4 rfl rfl (by simp) (by rfl) (C3 rfl rfl (C9 B5)))) ?_
   rw [a5b hnn hn, hr1]
   rfl
  skip
  apply xC rfl
  ·apply B0
   ·exact B6 rfl
   exact C6
  ·exact (by have hi := ih ws1 ⟨by simp only [List.length_cons] at hws; omega, fun x hx => hws.2 x (List.mem_cons_of_mem _ hx)⟩ (by simp only [List.length_cons] at hkk; omega); rw [hr1] at hi; exact hi)
  refine ⟨⟨rfl, rfl, rfl, dT rfl, rfl⟩, .inl rfl, B4, L6 rfl, fun _ => rfl, fun g48 => ?_⟩
  refine y_M rfl <| y_E rfl <| y_E rfl <| y_E rfl <| y_A rfl (fun _ => rfl) ?_
  intro g10
  refine xB rfl rfl rfl rfl rfl rfl rfl rfl rfl <| y_S rfl <| y_S rfl <| xN [2,7,8,10,11,12] [2,8,10] rfl <| A3 <| A3 <| A0 <| y_M rfl <| N7 rfl <| xN [2,7,8,10,11,53] [2,8,10] rfl ?_
  refine A5 rfl (fun hc => absurd hc (by decide)) (fun hc => ?_)
  refine A8 <| A3 <| A0 <| y_F rfl <| y_L rfl <| y_B rfl <| a1h (es := List.map trV [_]) rfl rfl (dT rfl) rfl rfl (fun _ => B3 (A6 fun _ => rfl)) (fun _ => rfl) ?_
  intro g58
  refine P6 rfl rfl rfl (by simp) (by decide) rfl rfl rfl (dT rfl) (fun _ => ⟨rfl, rfl⟩) (by simp only [I8]; (simp only [List.length_nil, List.length_cons, List.length_append, Nat.zero_add, List.length_map]; omega)) (fun _ => rfl) ?_
  intro g59
  refine y_F rfl <| O8 rfl rfl rfl rfl rfl (Nat.le_refl _) rfl <| xN [2,7,8,11] [2,8,1000059] rfl <| A0 <| y_M rfl <| y_S rfl <| xN [2,7,8,9] [2,8,1000059] rfl <| A0 <| y_M rfl <| a9t rfl rfl (F5 (by omega)) <| y_S rfl <| xN [2,7,8,9] [2,8,1000059] rfl <| E8 <| A3 <| A3 <| A0 <| y_M rfl <| Z2 rfl rfl <| xN [2,7,8,9,43] [2,8,1000059] rfl ?_
  refine A5 rfl (fun hc => ?_) (fun hc => absurd hc (by decide))
  refine A8 <| A3 <| B7 <| A3 <| A0 <| y_M rfl ?_
  rcases hr2 : rdT r1 with _ | ⟨k2, r2⟩
  ·skip
   apply xC rfl
   ·apply B0
    ·exact B6 rfl
    exact C6
   ·exact (by have hi := ih r1 ⟨by have := X9 hr1; simp only [List.length_cons] at hws; omega, fun x hx => hws.2 x (List.mem_cons_of_mem _ (b1f hr1 x hx))⟩ (by have := X9 hr1; simp only [List.length_cons] at hkk; omega); rw [hr2] at hi; exact hi)
   refine ⟨⟨rfl, rfl, rfl, dT rfl, rfl⟩, .inl rfl, B4, G4 (H2 rfl (K2 fun _ => H2 rfl K7)), fun _ => A7 (B3 rfl) (by rfl), fun g48 => ?_⟩
   refine y_M rfl <| y_E rfl <| y_E rfl <| y_E rfl <| y_A rfl (fun _ => rfl) ?_
   intro g10
   refine xB rfl rfl rfl rfl rfl rfl rfl rfl rfl ?_
   (refine F0 rfl rfl (by (simp; done)) rfl (fun _ => (B3 (by rfl))) (fun _ => rfl) ?_; intro g11)
   refine y_S rfl <| xN [2,7,8,10,11,12] [2,8,1000059,10] rfl <| A3 <| A3 <| A0 <| y_M rfl <| N7 rfl <| xN [2,7,8,10,11,53] [2,8,1000059,10] rfl ?_
   refine A5 rfl (fun hc => ?_) (fun hc => absurd hc (by decide))
   refine A3 <| A0 <| H6 (fs := [_, _, _]) rfl rfl rfl rfl rfl <| xB rfl rfl rfl rfl rfl rfl rfl rfl rfl ?_
   (refine B1 rfl rfl (fun _ => rfl) ?_; intro g3)
   refine y_S rfl <| xN [2,3,4] [2,3] rfl <| B2 <| B9 (G9 rfl rfl rfl rfl (H1 rfl (H5 rfl (H5 rfl K5))) (E4 rfl rfl (by simp) (by rfl) (C3 rfl rfl (C9 B5)))) ?_
   rw [a5b hnn hn, hr1, Option.bind_some, hr2]
   rfl
  skip
  apply xC rfl
  ·apply B0
   ·exact B6 rfl
   exact C6
  ·exact (by have hi := ih r1 ⟨by have := X9 hr1; simp only [List.length_cons] at hws; omega, fun x hx => hws.2 x (List.mem_cons_of_mem _ (b1f hr1 x hx))⟩ (by have := X9 hr1; simp only [List.length_cons] at hkk; omega); rw [hr2] at hi; exact hi)
  refine ⟨⟨rfl, rfl, rfl, dT rfl, rfl⟩, .inl rfl, B4, L6 rfl, fun _ => rfl, fun g48 => ?_⟩
  refine y_M rfl <| y_E rfl <| y_E rfl <| y_E rfl <| y_A rfl (fun _ => rfl) ?_
  intro g10
  refine xB rfl rfl rfl rfl rfl rfl rfl rfl rfl <| y_S rfl <| y_S rfl <| xN [2,7,8,10,11,12] [2,8,1000059,10] rfl <| A3 <| A3 <| A0 <| y_M rfl <| N7 rfl <| xN [2,7,8,10,11,53] [2,8,1000059,10] rfl ?_
  refine A5 rfl (fun hc => absurd hc (by decide)) (fun hc => ?_)
  refine A8 <| A3 <| A0 <| y_F rfl <| y_L rfl <| y_B rfl <| a1h (es := List.map trV [_]) rfl rfl (dT rfl) rfl rfl (fun _ => B3 (A6 fun _ => rfl)) (fun _ => rfl) ?_
  intro g58
  refine xA rfl rfl rfl rfl (by simp) (by simp) rfl rfl rfl rfl rfl (fun _ => rfl) (by simp only [LN]; omega) (fun _ => rfl) ?_
  intro g59
  refine y_F rfl <| O8 rfl rfl rfl rfl rfl (Nat.le_refl _) rfl <| xN [2,7,8,11] [2,8,1000059] rfl <| A0 <| y_M rfl <| y_S rfl <| xN [2,7,8,9] [2,8,1000059] rfl <| A0 <| y_M rfl <| a9t rfl rfl (F5 (by omega)) <| y_S rfl <| xN [2,7,8,9] [2,8,1000059] rfl <| E8 <| A3 <| A3 <| A0 <| y_M rfl <| Z2 rfl rfl <| xN [2,7,8,9,43] [2,8,1000059] rfl ?_
  refine A5 rfl (fun hc => absurd hc (by decide)) (fun hc => ?_)
  refine F7 <| A3 <| A0 <| y_B rfl <| y_M rfl <| G7 rfl rfl rfl rfl (D9 rfl (D9 rfl (T3 (by decide) (by decide) rfl (by simp) fun _ => I9))) (fun _ => rfl) ⟨by decide, rfl, dT rfl, Nat.le_refl _⟩ (fun _ => rfl) (fun _ => rfl) (fun _ => A7 (by rfl) (A7 (B3 (A6 fun _ => rfl)) (by rfl))) ?_
  intro z
  simp only [I1, List.cons_append, List.nil_append]
  refine y_S rfl <| y_S rfl <| xN [2,3,4] [2,300002] rfl <| B2 <| B9 (G9 rfl rfl rfl rfl (H1 rfl (H5 rfl (a2n rfl rfl (by simp) (fun _ => rfl) K5))) (C3 rfl rfl (C3 rfl rfl (C9 B5)))) ?_
  rw [a5b hnn hn, hr1, Option.bind_some, hr2]
  rfl

theorem b0j : F6 Tryz.f9 = [0, 2, 3, 4, 17, 6, 7, 5, 21] := by kernel_rfl
theorem c4h (s : List UInt8) (hs : s.length ≤ 1048576) : CW cxT 9 [tV s] = some (.tup [trV (rpT s), bV (rdPlan s).isSome], []) := by
 obtain ⟨ws, hws⟩ : ∃ ws, ws = splitB 32 s := ⟨_, rfl⟩
 have hwl := S4 32 s
 have hwp := Y4 32 s
 rw [← hws] at hwl hwp
 refine E7 rfl Tryz.func9 rfl ⟨by kernel_rfl, rfl, dT rfl, dT rfl, by decide⟩ b0j <| A3 <| A0 <| y_A rfl (fun _ => rfl) ?_
 intro g2
 refine y_S rfl <| xN [0,2] [2] rfl <| A3 <| A0 <| y_M rfl ?_
 apply xC rfl
 ·apply B0
  ·exact B6 rfl
  apply B0
  ·exact B6 rfl
  exact C6
 ·exact b5v s (by omega) 32
 refine ⟨⟨rfl, rfl, rfl, dT rfl, rfl⟩, .inl rfl, B4, K0, fun _ => rfl, fun g9 => ?_⟩
 rw [← hws]
 try simp only [List.length_map]
 (refine xO rfl rfl (by simp) rfl (fun _ => rfl) (fun _ => rfl) ?_; intro g4)
 refine xN [0,2,4] [2,4] rfl <| A3 <| A3 <| A0 <| y_M rfl <| a3s rfl rfl <| Z2 rfl rfl <| y_M rfl ?_
 refine B8 rfl rfl ?_ ?_ <;> intro hg0 <;> have hg := hg0 <;> try simp only [SG] at hg
 ·refine y_M rfl <| gT rfl rfl <| H7 rfl rfl <| gT rfl rfl <| Z2 rfl rfl <| C8 rfl (by assumption) rfl rfl <| xN [2,4,17] [2,4] rfl ?_
  refine A5 rfl ?_ ?_ <;> intro hc <;> try simp only [SL] at hc
  ·refine A3 <| A0 <| H6 (fs := [_, _, _]) rfl rfl rfl rfl rfl <| xB rfl rfl rfl rfl rfl rfl rfl rfl rfl <| y_S rfl <| xN [2,3] [2] rfl <| B2 <| B9 (G9 rfl rfl rfl rfl (H1 rfl (H5 rfl (H5 rfl K5))) (C3 rfl rfl (C9 B5))) ?_
   obtain ⟨h1, h2⟩ := b3q (s := s) (by rw [hws] at *; omega)
   rw [h1, h2]
   rfl
  have hin := c5x hws (by omega)
  refine A8 <| A3 <| A0 <| y_M rfl ?_
  rcases hr : rdT ws with _ | ⟨t, r⟩
  ·skip
   apply xC rfl
   ·apply B0
    ·exact a0u rfl rfl (by (simp; done)) (fun _ => rfl)
    exact C6
   ·exact (by have hi := b1r ws ⟨by omega, fun w hw => by have := hwp w hw; omega⟩; rw [hr] at hi; exact hi)
   refine ⟨⟨rfl, rfl, rfl, dT rfl, rfl⟩, .inl rfl, B4, G4 (H2 rfl (K2 fun _ => H2 rfl K7)), fun _ => A7 (a1k (A6 fun _ => rfl) (by decide)) (by rfl), fun g21 => ?_⟩
   refine y_M rfl <| y_E rfl <| y_E rfl <| y_E rfl <| y_A rfl (fun _ => rfl) ?_
   intro g5
   refine xB rfl rfl rfl rfl rfl rfl rfl rfl rfl ?_
   (refine F0 rfl rfl (by (simp; done)) rfl (fun _ => (B3 (by rfl))) (fun _ => rfl) ?_; intro g6)
   refine y_S rfl <| xN [2,5,6,7] [2,5] rfl <| A3 <| A0 <| y_B rfl <| y_M rfl <| y_M rfl <| F4 rfl rfl rfl <| F4 rfl rfl rfl <| F4 rfl rfl rfl <| C8 rfl rfl rfl rfl <| xB rfl rfl rfl rfl rfl rfl rfl rfl rfl <| y_S rfl <| xN [2,3] [2] rfl <| B2 <| B9 (G9 rfl rfl rfl rfl (H1 rfl (H1 rfl (H1 rfl K5))) (C3 rfl rfl (C9 B5))) ?_
   obtain ⟨h1, h2⟩ := hin.1 hr
   rw [h1, h2]
   rfl
  skip
  apply xC rfl
  ·apply B0
   ·exact a0u rfl rfl (by (simp; done)) (fun _ => rfl)
   exact C6
  ·exact (by have hi := b1r ws ⟨by omega, fun w hw => by have := hwp w hw; omega⟩; rw [hr] at hi; exact hi)
  refine ⟨⟨rfl, rfl, rfl, dT rfl, rfl⟩, .inl rfl, B4, L6 rfl, fun _ => A7 (a1k (A6 fun _ => rfl) (by decide)) (by rfl), fun g21 => ?_⟩
  refine y_M rfl <| y_E rfl <| y_E rfl <| y_E rfl <| y_A rfl (fun _ => rfl) ?_
  intro g5
  refine xB rfl rfl rfl rfl rfl rfl rfl rfl rfl <| y_S rfl <| y_S rfl <| xN [2,5,6,7] [2,5] rfl <| A3 <| A0 <| y_B rfl <| y_M rfl <| y_M rfl <| T9 rfl rfl rfl <| y_M rfl <| T9 rfl rfl rfl <| D8 rfl rfl <| T9 rfl rfl rfl <| U0 rfl rfl <| E5 rfl rfl rfl rfl <| xB rfl rfl rfl rfl rfl rfl rfl rfl rfl <| y_S rfl <| xN [2,3] [2] rfl <| B2 <| B9 (G9 rfl rfl rfl rfl (H1 rfl (H1 rfl (H1 rfl K5))) (C3 rfl rfl (C9 B5))) ?_
  obtain ⟨h1, h2⟩ := hin.2 t r hr
  rw [h1, h2]
  rfl
 refine gF rfl rfl <| gF rfl rfl <| E5 rfl (by assumption) rfl rfl <| xN [2,4,17] [2,4] rfl ?_
 refine A5 rfl (fun hc => ?_) (fun hc => absurd hc (by decide))
 refine A3 <| A0 <| H6 (fs := [_, _, _]) rfl rfl rfl rfl rfl <| xB rfl rfl rfl rfl rfl rfl rfl rfl rfl <| y_S rfl <| xN [2,3] [2] rfl <| B2 <| B9 (G9 rfl rfl rfl rfl (H1 rfl (H5 rfl (H5 rfl K5))) (C3 rfl rfl (C9 B5))) ?_
 obtain ⟨h1, h2⟩ := b3q (s := s) (by rw [hws] at *; omega)
 rw [h1, h2]
 rfl

theorem b2a : F6 Tryz.f63 = [0, 2, 8, 7, 9, 6, 5, 3] := by kernel_rfl
theorem c6u (ns : List Int) (hl : ns.length ≤ 1000000) (hnb : ∀ n ∈ ns, -1000000 ≤ n ∧ n ≤ 1000000) : CW cxT 63 [L ns] = some (tV (V3 ns), []) := by
 have hg := fun (i : Nat) (h : i < ns.length) => hnb _ (b3t h)
 have hll := b6d (ns := ns) hnb
 refine E7 rfl Tryz.func63 rfl ⟨by kernel_rfl, rfl, dT rfl, dT rfl, by decide⟩ b2a <| A3 <| A0 <| y_S rfl <| xN [0] [] rfl <| A3 <| A0 ?_
 (refine B1 rfl rfl (fun _ => rfl) ?_; intro g3)
 refine xN [0,3] [3] rfl <| A3 <| A3 <| A0 <| y_M rfl <| D8 rfl rfl <| y_M rfl <| xN [3,6,7,8] [3] rfl <| B7 <| I4 (β := Nat × List (List UInt8) × Nat) [(.t 6, _), (.t 7, _)] (fun (z : Nat × List (List UInt8) × Nat) => match z with | (i, ps, g) => [(.t 8, iV i), (.t 3, .sl 3 g none 0 ps.length), (.h 3, .obj g 0 1 (ps.map tV))]) (fun (z : Nat × List (List UInt8) × Nat) => match z with | (i, ps, g) => i ≤ ns.length ∧ ps = (ns.take i).map dec) (fun (z : Nat × List (List UInt8) × Nat) => match z with | (i, ps, g) => ns.length - i) (0, [], _) ⟨rfl, rfl, rfl, rfl, rfl, trivial⟩ ⟨Nat.zero_le _, rfl⟩ ?_
 intro z hb
 obtain ⟨i, ps, g⟩ := z
 try dsimp only at hb
 obtain ⟨hi1, hps⟩ := hb
 have hpl : ps.length = i := by rw [hps]; simp; omega
 refine A3 <| A0 <| G6 rfl rfl <| xN [3,6,7,8,9] [3] rfl <| A3 ?_
 refine A5 rfl ?_ ?_ <;> intro hc <;> try simp only [SL] at hc
 ·refine A8 <| A3 <| B7 <| A3 <| A0 <| E9 rfl rfl rfl (fun _ => rfl) (by omega) <| y_I rfl <| y_S rfl <| xN [3,5,6,7,8] [3] rfl <| A0 <| y_M rfl <| y_M rfl ?_
  have hgi := hg i (by omega)
  refine xC1 rfl rfl (d2w (ns.getD i default) (by omega)) ⟨rfl, rfl, rfl⟩ rfl rfl fun g14 => ?_
  refine G0 (es := List.map tV [_]) rfl rfl (dT rfl) rfl rfl (fun _ => B3 (A6 fun _ => rfl)) (fun _ => rfl) ?_
  intro g15
  refine xA rfl rfl rfl rfl (by simp) (by simp) rfl rfl rfl rfl rfl (fun _ => rfl) (by simp only [LN]; omega) (fun _ => rfl) ?_
  intro g16
  (refine xO rfl rfl (by simp) rfl (fun _ => rfl) (fun _ => rfl) ?_; intro g3)
  refine xN [3,6,7,8] [3] rfl <| A0 <| G5 rfl rfl (F5 (by omega)) <| y_M rfl <| xN [3,6,7,8] [3] rfl ?_
  refine ⟨(i + 1, ps ++ [dec (ns.getD i default)], _), ?_, (by simp only; omega), ⟨rfl, rfl, rfl, rfl, rfl, trivial⟩⟩
  exact ⟨by omega, by rw [hps, ← b5d (by omega)]⟩
 refine F7 <| A3 <| A0 <| y_M rfl ?_
 have hpe : ps = ns.map dec := by rw [hps, List.take_of_length_le (by omega)]
 have hje : joinB 44 ps = V3 ns := by rw [hpe]; rfl
 apply xC rfl
 ·apply B0
  ·exact Q9 rfl rfl rfl (by (simp; done)) (fun _ => rfl)
  apply B0
  ·exact B6 rfl
  exact C6
 ·exact d2s ps 44 (by simp only [I8]; omega) (by rw [hje]; simp only [I8]; omega)
 refine ⟨⟨rfl, rfl, rfl, dT rfl, rfl⟩, .inr ⟨rfl, rfl⟩, B4, E6 rfl, fun _ => rfl, fun g19 => ?_⟩
 refine y_S rfl <| xN [2] [] rfl <| B2 <| C0 rfl rfl trivial ?_
 rw [hje]

theorem a8v : F6 Tryz.f52 = [0, 2] := by kernel_rfl
theorem a9f (ns : List Int) (hl : ns.length ≤ 1000000) (hnb : ∀ n ∈ ns, -1000000 ≤ n ∧ n ≤ 1000000) : CW cxT 52 [L ns] = some (tV (V7 ns), []) := by
 have hll := b6d (ns := ns) hnb
 refine E7 rfl Tryz.func52 rfl ⟨by kernel_rfl, rfl, dT rfl, dT rfl, by decide⟩ a8v <| A3 <| A0 <| y_S rfl <| xN [0] [] rfl <| A3 <| A0 <| y_M rfl ?_
 refine xC1 rfl rfl (c6u ns hl hnb) ⟨rfl, rfl, rfl⟩ rfl rfl fun g4 => ?_
 iterate 2 refine b3p rfl rfl (by simp only [I8, List.length_append, List.length_cons, List.length_nil]; omega) ?_
 refine y_S rfl <| xN [2] [] rfl <| B2 <| C0 rfl rfl trivial ?_
 rfl

theorem a8w : F6 Tryz.f43 = [0, 2, 3, 4, 6, 5, 27, 29, 33, 32, 34, 31, 9, 11, 43, 10, 7] := by kernel_rfl
theorem c0d (w : List UInt8) (hs : w.length ≤ 1048576) : CW cxT 43 [tV w] = some (.tup [.own 1 ((rlX w).map iV), bV (okI w)], []) := by
 have hc1 := c9b 91 w
 have hc2 := c7s 93 (a3e 91 w)
 refine E7 rfl Tryz.func43 rfl ⟨by kernel_rfl, rfl, dT rfl, dT rfl, by decide⟩ a8w <| A3 <| A0 ?_
 (refine B1 rfl rfl (fun _ => rfl) ?_; intro g2)
 refine y_S rfl <| xN [0] [] rfl <| A3 <| A0 <| y_M rfl ?_
 apply xC rfl
 ·apply B0
  ·exact B6 rfl
  apply B0
  ·exact B6 rfl
  exact C6
 ·exact d3i w 91
 refine ⟨⟨rfl, rfl, rfl, dT rfl, rfl⟩, .inl rfl, B4, L6 rfl, fun _ => rfl, fun g14 => ?_⟩
 refine y_M rfl <| y_E rfl <| y_E rfl <| y_S rfl <| y_S rfl <| xN [0,4,5] [] rfl <| A3 <| A0 <| y_M rfl ?_
 apply xC rfl
 ·apply B0
  ·exact B6 rfl
  apply B0
  ·exact B6 rfl
  exact C6
 ·exact d2t (a3e 91 w) 93 (by omega)
 refine ⟨⟨rfl, rfl, rfl, dT rfl, rfl⟩, .inl rfl, B4, L6 rfl, fun _ => rfl, fun g19 => ?_⟩
 refine y_M rfl <| y_E rfl <| y_E rfl <| y_S rfl <| y_S rfl <| xN [0,4,5,6] [] rfl <| A3 <| A3 <| A0 <| y_M rfl <| N7 rfl <| y_M rfl ?_
 refine B8 rfl rfl ?_ ?_ <;> intro hg0 <;> have hg := hg0 <;> try simp only [SG] at hg
 ·refine y_M rfl <| gT rfl rfl <| N7 rfl <| C8 rfl (by assumption) rfl rfl <| xN [0,4,27] [] rfl ?_
  refine A5 rfl ?_ ?_ <;> intro hc <;> try simp only [SL] at hc
  ·refine A3 <| A0 ?_
   (refine B1 rfl rfl (fun _ => rfl) ?_; intro g2)
   refine y_S rfl <| xN [2,3] [2] rfl <| B2 <| B9 (E4 rfl rfl (by simp) (by rfl) (C3 rfl rfl (C9 B5))) ?_
   obtain ⟨h1, h2⟩ := b8b (b9o (w := w) (by simp_all [okB]))
   rw [h1, h2]
   rfl
  have hok : okB w = true := by simp [okB]; constructor <;> assumption
  obtain ⟨ps, hps0⟩ : ∃ ps, ps = splitB 44 (a4n w) := ⟨_, rfl⟩
  have hpl := S4 44 (a4n w)
  have hpp := Y4 44 (a4n w)
  rw [← hps0] at hpl hpp
  have hil := c8m hok
  refine A8 <| A3 <| A0 ?_
  (refine B1 rfl rfl (fun _ => rfl) ?_; intro g7)
  refine xN [0,4,7] [7] rfl <| A3 <| A3 <| A0 <| y_M rfl <| b6c rfl rfl <| xN [0,4,7,29] [7] rfl ?_
  refine A5 rfl ?_ ?_ <;> intro hc <;> try simp only [SL] at hc
  ·have hin : a4n w ≠ [] := hc
   refine A3 <| A0 <| y_M rfl ?_
   have hps := hps0
   apply a2d rfl
   ·apply B0
    ·exact B6 rfl
    apply B0
    ·exact B6 rfl
    exact C6
   ·exact c4m (a4n w) 44 (by unfold a4n; omega)
   ·exact ⟨rfl, rfl, rfl, dT rfl, rfl⟩
   ·exact .inl rfl
   ·exact B4
   ·exact K0
   ·(intro _; exact A7 (B3 (A6 fun _ => rfl)) rfl)
   intro g31
   rw [← hps]
   try simp only [List.length_map]
   refine H7 rfl rfl <| y_M rfl <| xN [0,7,31,32,33] [7,1000031] rfl <| B7 <| I4 (β := Nat × List Int × Nat) [(.t 0, _), (.t 31, _), (.t 32, _), (.h 1000031, _)] (fun (z : Nat × List Int × Nat) => match z with | (i, ns, g) => [(.t 33, iV i), (.t 7, .sl 7 g none 0 ns.length), (.h 7, .obj g 0 1 (ns.map iV))]) (fun (z : Nat × List Int × Nat) => match z with | (i, ns, g) => i ≤ ps.length ∧ rdA (ps.take i) = some ns) (fun (z : Nat × List Int × Nat) => match z with | (i, ns, g) => ps.length - i) (0, [], _) ⟨rfl, rfl, rfl, rfl, rfl, rfl, rfl, trivial⟩ ⟨Nat.zero_le _, rfl⟩ ?_
   intro z hb
   obtain ⟨i, ns, g⟩ := z
   try dsimp only at hb
   obtain ⟨hi1, hrd⟩ := hb
   have hpi := fun h : i < ps.length => hpp _ (M6 h)
   have hnl := b2d hrd
   rw [List.length_take] at hnl
   refine A3 <| A0 <| G6 rfl rfl <| xN [0,7,31,32,33,34] [7,1000031] rfl <| A3 ?_
   refine A5 rfl ?_ ?_ <;> intro hc <;> try simp only [SL] at hc
   ·refine A8 <| A3 <| B7 <| A3 <| A0 <| D4 rfl rfl rfl rfl (by omega) (by (simp; done)) rfl <| Y1 rfl rfl (by omega) (fun _ => rfl) (fun _ => rfl) rfl <| y_S rfl <| xN [0,7,9,31,32,33] [7,1000031] rfl <| A3 <| A0 <| y_M rfl ?_
    rcases hat : Lib.atoiAll (ps.getD i default) with v | _ | _
    ·skip
     apply xC rfl
     ·apply B0
      ·exact B6 rfl
      exact C6
     ·exact (by have hi := c2t (ps.getD i default) (by omega); unfold atR at hi; rw [hat] at hi; exact hi)
     refine ⟨⟨rfl, rfl, rfl, dT rfl, rfl⟩, .inl rfl, B4, L6 rfl, fun _ => rfl, fun g39 => ?_⟩
     refine y_M rfl <| y_E rfl <| y_E rfl <| y_S rfl <| y_S rfl <| xN [0,7,10,11,31,32,33] [7,1000031] rfl <| A3 <| A3 <| A0 <| y_M rfl <| c9o rfl rfl rfl rfl <| xN [0,7,10,31,32,33,43] [7,1000031] rfl ?_
     refine A5 rfl (fun hc => absurd hc (by decide)) (fun hc => ?_)
     refine A8 <| A0 <| y_M rfl <| y_M rfl <| G0 (es := List.map iV [_]) rfl rfl (dT rfl) rfl rfl (fun _ => B3 (A6 fun _ => rfl)) (fun _ => rfl) ?_
     intro g46
     refine xA rfl rfl rfl rfl (by simp) (by simp) rfl rfl rfl rfl rfl (fun _ => rfl) (by simp only [LN]; omega) (fun _ => rfl) ?_
     intro g47
     (refine xO rfl rfl (by simp) rfl (fun _ => rfl) (fun _ => rfl) ?_; intro g7)
     refine xN [0,7,31,32,33] [7,1000031] rfl <| A0 <| G5 rfl rfl (F5 (by omega)) <| y_M rfl <| xN [0,7,31,32,33] [7,1000031] rfl ?_
     refine ⟨(i + 1, ns ++ [v], _), ?_, (by simp only; omega), ⟨rfl, rfl, rfl, rfl, rfl, rfl, rfl, trivial⟩⟩
     exact ⟨by omega, c8z (by omega) hrd hat⟩
    ·skip
     apply xC rfl
     ·apply B0
      ·exact B6 rfl
      exact C6
     ·exact (by have hi := c2t (ps.getD i default) (by omega); unfold atR at hi; rw [hat] at hi; exact hi)
     refine ⟨⟨rfl, rfl, rfl, dT rfl, rfl⟩, .inl rfl, B4, L6 rfl, fun _ => rfl, fun g39 => ?_⟩
     refine y_M rfl <| y_E rfl <| y_E rfl <| y_S rfl <| y_S rfl <| xN [0,7,10,11,31,32,33] [7,1000031] rfl <| A3 <| A3 <| A0 <| y_M rfl <| b9w rfl rfl rfl <| xN [0,7,10,31,32,33,43] [7,1000031] rfl ?_
     refine A5 rfl (fun hc => ?_) (fun hc => absurd hc (by decide))
     refine A3 <| A0 ?_
     (refine B1 rfl rfl (fun _ => rfl) ?_; intro g2)
     refine y_S rfl <| xN [2,3] [2] rfl <| B2 <| B9 (E4 rfl rfl (by simp) (by rfl) (C3 rfl rfl (C9 B5))) ?_
     obtain ⟨h1, h2⟩ := b8b (w := w) (by rw [b1l hok hin, ← hps0]; exact b9n (i := i) (by omega) (by intro v hv; rw [hat] at hv; cases hv))
     rw [h1, h2]
     rfl
    skip
    apply xC rfl
    ·apply B0
     ·exact B6 rfl
     exact C6
    ·exact (by have hi := c2t (ps.getD i default) (by omega); unfold atR at hi; rw [hat] at hi; exact hi)
    refine ⟨⟨rfl, rfl, rfl, dT rfl, rfl⟩, .inl rfl, B4, L6 rfl, fun _ => rfl, fun g39 => ?_⟩
    refine y_M rfl <| y_E rfl <| y_E rfl <| y_S rfl <| y_S rfl <| xN [0,7,10,11,31,32,33] [7,1000031] rfl <| A3 <| A3 <| A0 <| y_M rfl <| b9w rfl rfl rfl <| xN [0,7,10,31,32,33,43] [7,1000031] rfl ?_
    refine A5 rfl (fun hc => ?_) (fun hc => absurd hc (by decide))
    refine A3 <| A0 ?_
    (refine B1 rfl rfl (fun _ => rfl) ?_; intro g2)
    refine y_S rfl <| xN [2,3] [2] rfl <| B2 <| B9 (E4 rfl rfl (by simp) (by rfl) (C3 rfl rfl (C9 B5))) ?_
    obtain ⟨h1, h2⟩ := b8b (w := w) (by rw [b1l hok hin, ← hps0]; exact b9n (i := i) (by omega) (by intro v hv; rw [hat] at hv; cases hv))
    rw [h1, h2]
    rfl
   refine F7 <| A3 <| A0 <| y_M rfl <| y_M rfl ?_
   apply xC rfl
   ·apply B0
    ·exact Q9 rfl rfl rfl (by (simp; done)) (fun _ => rfl)
    exact C6
   ·exact a7f ns (by omega)
   refine ⟨⟨rfl, rfl, rfl, dT rfl, rfl⟩, .inr ⟨rfl, rfl⟩, B4, E6 rfl, fun _ => rfl, fun g51 => ?_⟩
   refine y_M rfl ?_
   refine B8 rfl rfl ?_ ?_ <;> intro hg0 <;> have hg := hg0 <;> try simp only [SG] at hg
   ·refine y_M rfl <| gT rfl rfl ?_
    (have hnb := d3x (ns := ns) (by assumption); have hvl := N4 (show vd ns = true by assumption))
    apply xC rfl
    ·apply B0
     ·exact Q9 rfl rfl rfl (by (simp; done)) (fun _ => rfl)
     exact C6
    ·exact a9f ns (by omega) hnb
    refine ⟨⟨rfl, rfl, rfl, dT rfl, rfl⟩, .inr ⟨rfl, rfl⟩, B4, E6 rfl, fun _ => rfl, fun g54 => ?_⟩
    refine gT rfl rfl <| y_M rfl <| gT rfl rfl <| a0t rfl rfl <| E5 rfl (by assumption) rfl rfl ?_
    (refine xO rfl rfl (by simp) rfl (fun _ => rfl) (fun _ => rfl) ?_; intro g2)
    refine y_S rfl <| xN [2,3] [2] rfl <| B2 <| B9 (E4 rfl rfl (by simp) (by exact A6 fun _ => rfl) (C3 rfl rfl (C9 B5))) ?_
    (have hx := hin; obtain ⟨h1, h2⟩ := a6e (ns := ns) (w := w) (by rw [b1l hok hx, ← hps0]; rw [List.take_of_length_le (by omega)] at hrd; exact hrd))
    (rw [h1, h2, hg, Bool.true_and]; rfl)
   refine gF rfl rfl <| gF rfl rfl <| gF rfl rfl <| C8 rfl (by assumption) rfl rfl ?_
   (refine xO rfl rfl (by simp) rfl (fun _ => rfl) (fun _ => rfl) ?_; intro g2)
   refine y_S rfl <| xN [2,3] [2] rfl <| B2 <| B9 (E4 rfl rfl (by simp) (by exact A6 fun _ => rfl) (C3 rfl rfl (C9 B5))) ?_
   (have hx := hin; obtain ⟨h1, h2⟩ := a6e (ns := ns) (w := w) (by rw [b1l hok hx, ← hps0]; rw [List.take_of_length_le (by omega)] at hrd; exact hrd))
   (rw [h1, h2, hg, Bool.false_and]; rfl)
  have hie : a4n w = [] := hc
  refine A8 <| A3 <| A0 <| y_M rfl <| y_M rfl ?_
  apply xC rfl
  ·apply B0
   ·exact b1p rfl rfl rfl rfl rfl
   exact C6
  ·exact a7f [] (by decide)
  refine ⟨⟨rfl, rfl, rfl, dT rfl, rfl⟩, .inr ⟨rfl, rfl⟩, B4, E6 rfl, fun _ => rfl, fun g51 => ?_⟩
  refine y_M rfl ?_
  refine B8 rfl rfl ?_ ?_ <;> intro hg0 <;> have hg := hg0 <;> try simp only [SG] at hg
  ·refine y_M rfl <| gT rfl rfl ?_
   skip
   apply xC rfl
   ·apply B0
    ·exact b1p rfl rfl rfl rfl rfl
    exact C6
   ·exact a9f [] (by decide) (by simp)
   refine ⟨⟨rfl, rfl, rfl, dT rfl, rfl⟩, .inr ⟨rfl, rfl⟩, B4, E6 rfl, fun _ => rfl, fun g54 => ?_⟩
   refine gT rfl rfl <| y_M rfl <| gT rfl rfl <| a0t rfl rfl <| E5 rfl rfl rfl rfl ?_
   (refine F0 rfl rfl (by (simp; done)) rfl (fun _ => (B3 (by rfl))) (fun _ => rfl) ?_; intro g2)
   refine y_S rfl <| xN [2,3] [2] rfl <| B2 <| B9 (E4 rfl rfl (by simp) (by rfl) (C3 rfl rfl (C9 B5))) ?_
   obtain ⟨h1, h2⟩ := a6e (ns := []) (w := w) (c4z hok hie)
   (rw [h1, h2, hg, Bool.true_and]; rfl)
  refine gF rfl rfl <| gF rfl rfl <| gF rfl rfl <| C8 rfl (by assumption) rfl rfl ?_
  (refine F0 rfl rfl (by (simp; done)) rfl (fun _ => (B3 (by rfl))) (fun _ => rfl) ?_; intro g2)
  refine y_S rfl <| xN [2,3] [2] rfl <| B2 <| B9 (E4 rfl rfl (by simp) (by rfl) (C3 rfl rfl (C9 B5))) ?_
  obtain ⟨h1, h2⟩ := a6e (ns := []) (w := w) (c4z hok hie)
  (rw [h1, h2, hg, Bool.false_and]; rfl)
 refine gF rfl rfl <| E5 rfl (by assumption) rfl rfl <| xN [0,4,27] [] rfl ?_
 refine A5 rfl (fun hc => ?_) (fun hc => absurd hc (by decide))
 refine A3 <| A0 ?_
 (refine B1 rfl rfl (fun _ => rfl) ?_; intro g2)
 refine y_S rfl <| xN [2,3] [2] rfl <| B2 <| B9 (E4 rfl rfl (by simp) (by rfl) (C3 rfl rfl (C9 B5))) ?_
 obtain ⟨h1, h2⟩ := b8b (b9o (w := w) (by simp_all [okB]))
 rw [h1, h2]
 rfl

theorem b0f : F6 Tryz.f36 = [0, 2, 3, 4, 6, 12, 5] := by kernel_rfl
theorem a0f (w : List UInt8) (hs : w.length ≤ 1048576) : CW cxT 36 [tV w] = some (.tup [tV (if (numsOf w).isSome = true then lW else w), .own 1 (((numsOf w).getD []).map iV), bV ((numsOf w).isSome || decide (0 ≤ rch (bA w)))], []) := by
 refine E7 rfl Tryz.func36 rfl ⟨by kernel_rfl, rfl, dT rfl, dT rfl, by decide⟩ b0f <| A3 <| A0 <| y_S rfl ?_
 (refine B1 rfl rfl (fun _ => rfl) ?_; intro g3)
 refine y_S rfl <| xN [0] [] rfl <| A3 <| A3 <| A0 <| y_M rfl ?_
 apply xC rfl
 ·apply B0
  ·exact B6 rfl
  exact C6
 ·exact (by have hi := c0d w hs; rw [d2o] at hi; exact hi)
 refine ⟨⟨rfl, rfl, rfl, dT rfl, rfl⟩, .inr ⟨a2w _ _, rfl⟩, B4, G4 (K2 fun _ => H2 rfl K7), fun _ => rfl, fun g9 => ?_⟩
 simp only [List.length_map]
 refine y_M rfl <| y_E rfl <| y_E rfl ?_
 (refine xO rfl rfl (by simp) rfl (fun _ => rfl) (fun _ => rfl) ?_; intro g5)
 refine y_S rfl <| xN [0,5,6] [5] rfl <| A3 <| A0 <| y_M rfl <| xN [0,5,12] [5] rfl ?_
 refine A5 rfl ?_ ?_ <;> intro hc <;> try simp only [SL] at hc
 ·obtain ⟨ns, hns⟩ := Option.isSome_iff_exists.1 hc
  have hraw := d2n hns
  refine A3 <| A0 <| y_M rfl <| y_S rfl ?_
  (refine xO rfl rfl (by simp) rfl (fun _ => rfl) (fun _ => rfl) ?_; intro g3)
  refine y_S rfl <| xN [2,3,4] [3] rfl <| B2 <| B9 (C3 rfl rfl (E4 rfl rfl (by simp) (by exact A6 fun _ => rfl) (C3 rfl rfl (C9 B5)))) ?_
  rw [hns, hraw]
  rfl
 have hnn : numsOf w = none := by simpa using hc
 have hwo := d1d w
 refine A8 <| A3 <| A0 <| y_M rfl <| y_M rfl <| b6c rfl rfl <| y_M rfl ?_
 refine B8 rfl rfl ?_ ?_ <;> intro hg0 <;> have hg := hg0 <;> try simp only [SG] at hg
 ·refine y_M rfl <| gT rfl rfl ?_
  refine xC1 rfl rfl (a6n (bA w)) ⟨rfl, rfl, rfl⟩ rfl rfl fun g19 => ?_
  refine gT rfl rfl <| a4d rfl rfl <| E5 rfl (by assumption) rfl rfl <| y_S rfl ?_
  (refine B1 rfl rfl (fun _ => rfl) ?_; intro g3)
  refine y_S rfl <| xN [2,3,4] [3] rfl <| B2 <| B9 (C3 rfl rfl (E4 rfl rfl (by simp) (by rfl) (C3 rfl rfl (C9 B5)))) ?_
  rw [hnn, ← hwo]
  simp_all
  try rfl
 refine gF rfl rfl <| gF rfl rfl <| C8 rfl (by assumption) rfl rfl <| y_S rfl ?_
 (refine B1 rfl rfl (fun _ => rfl) ?_; intro g3)
 refine y_S rfl <| xN [2,3,4] [3] rfl <| B2 <| B9 (C3 rfl rfl (E4 rfl rfl (by simp) (by rfl) (C3 rfl rfl (C9 B5)))) ?_
 rw [hnn, ← hwo]
 simp_all
 try rfl

theorem a7z : F6 Tryz.f30 = [0, 2, 3, 4, 15, 7, 26, 6, 5, 35, 34, 36, 9, 12, 44, 8, 10, 11, 39, 50] := by kernel_rfl
theorem a9e (ws : List W8) (hws : ws.length ≤ 1048600 ∧ ∀ w ∈ ws, w.length ≤ 1048576) : CW cxT 30 [.list (ws.map tV)] = some (rtR (rdT ws), []) := by
 obtain ⟨kk, hkk⟩ : ∃ kk : Nat, ws.length < kk := ⟨_, Nat.lt_succ_self _⟩
 revert ws
 induction kk with
 | zero => intro ws hws hkk; exact absurd hkk (Nat.not_lt_zero _)
 | succ kk ih =>
  intro ws hws hkk
  refine E7 rfl Tryz.func30 rfl ⟨by kernel_rfl, rfl, dT rfl, dT rfl, by decide⟩ a7z <| A3 <| A0 <| y_A rfl (fun _ => rfl) ?_
  intro g2
  (refine B1 rfl rfl (fun _ => rfl) ?_; intro g3)
  refine y_S rfl <| xN [0,2] [2] rfl <| A3 <| A3 <| A0 <| y_M rfl <| D8 rfl rfl <| U0 rfl rfl <| xN [0,2,15] [2] rfl ?_
  refine A5 rfl ?_ ?_ <;> intro hc <;> try simp only [SL] at hc
  ·have hw0 : ws = [] := List.length_eq_zero_iff.1 (by simpa using hc)
   subst hw0
   refine A3 <| A0 <| H6 (fs := [_, _, _]) rfl rfl rfl rfl rfl <| xB rfl rfl rfl rfl rfl rfl rfl rfl rfl ?_
   (refine B1 rfl rfl (fun _ => rfl) ?_; intro g3)
   refine y_S rfl <| xN [2,3,4] [2,3] rfl <| B2 <| B9 (G9 rfl rfl rfl rfl (H1 rfl (H5 rfl (H5 rfl K5))) (E4 rfl rfl (by simp) (by rfl) (C3 rfl rfl (C9 B5)))) ?_
   rfl
  obtain ⟨w, ws1, rfl⟩ : ∃ w ws1, ws = w :: ws1 := List.exists_cons_of_ne_nil (fun e => by subst e; simp at hc)
  have hw := hws.2 w (by simp)
  refine A8 <| A3 <| A0 <| y_M rfl <| E9 rfl rfl rfl (fun _ => rfl) (by (change 0 < _; omega)) <| y_I rfl ?_
  rcases c7w w with ⟨ns, hns⟩ | ⟨hnn, hn⟩ | ⟨hnn, hn⟩ | ⟨hnn, hn⟩ | ⟨hnn, hn⟩
  ·skip
   apply xC rfl
   ·apply B0
    ·exact B6 rfl
    exact C6
   ·exact (show CW cxT 36 [tV w] = some (.tup [tV lW, .own 1 (ns.map iV), bV true], []) from by have hi := a0f w (by omega); rw [hns] at hi; exact hi)
   refine ⟨⟨rfl, rfl, rfl, dT rfl, rfl⟩, .inr ⟨by simp [hasList, E3], rfl⟩, B4, G4 (H2 rfl (K2 fun _ => H2 rfl K7)), fun _ => A7 (B3 (A6 fun _ => rfl)) (by rfl), fun g21 => ?_⟩
   try simp only [List.length_map]
   refine y_M rfl <| y_E rfl <| y_E rfl <| y_E rfl <| y_S rfl ?_
   (refine xO rfl rfl (by simp) rfl (fun _ => rfl) (fun _ => rfl) ?_; intro g6)
   refine y_S rfl <| xN [0,2,5,6,7] [2,6] rfl <| A3 <| A3 <| A0 <| y_M rfl <| N7 rfl <| xN [0,2,5,6,26] [2,6] rfl ?_
   refine A5 rfl (fun hc => absurd hc (by decide)) (fun hc => ?_)
   refine A8 <| A3 <| A0 <| y_M rfl <| y_M rfl <| H6 (fs := [_, _, _]) rfl rfl rfl rfl rfl <| y_M rfl <| M9 rfl rfl rfl (Mv.sized_map fun _ => rfl) L9 (H8 (n := 1) rfl) (by simp) ?_
   rw [show ((List.map tV (w :: ws1)).drop 1).take ((List.map tV (w :: ws1)).length - 1) = ws1.map tV from by rw [List.map_cons, List.drop_succ_cons, List.drop_zero, List.take_of_length_le (by simp)]]
   refine y_A rfl (fun _ => rfl) ?_
   intro g8
   refine G7 rfl rfl rfl rfl (D9 rfl (a2l (by decide) (D9 rfl I9))) (fun _ => rfl) ⟨by decide, rfl, dT rfl, Nat.le_refl _⟩ (fun _ => rfl) (fun _ => rfl) (fun _ => (by rfl)) ?_
   intro z
   simp only [I1, List.cons_append, List.nil_append]
   refine y_S rfl ?_
   refine G2 ⟨fun _ => ⟨by (simp only [M5, List.nil_append, List.append_nil, List.map_cons, List.map_nil, List.cons_append]; decide +kernel), by decide +kernel⟩, [(.t 2, _), (.t 5, _), (.t 8, _), (.t 9, _), (.h 2, _), (.h 8, _), (.h 6, _)], ⟨rfl, rfl, rfl, rfl, rfl, rfl, rfl, rfl, rfl, rfl, rfl, rfl, rfl, rfl, trivial⟩, ?_⟩
   refine A3 <| A3 <| A0 <| y_M rfl ?_
   refine xC1 rfl rfl (a6n (bA lW)) ⟨rfl, rfl, rfl⟩ rfl rfl fun g34 => ?_
   rw [show nd (bA lW) = 0 from d1j rfl]
   refine y_M rfl <| xN [2,8,9,34,35] [2,8,6] rfl <| B7 <| E8 <| A3 <| A0 <| G6 rfl rfl <| xN [2,8,9,34,35,36] [2,8,6] rfl <| A3 ?_
   refine A5 rfl (fun hc => absurd hc (by decide)) (fun hc => ?_)
   refine F7 <| A3 <| A0 <| y_B rfl <| y_M rfl <| G7 rfl rfl rfl rfl (D9 rfl (a2l (by decide) (D9 rfl I9))) (fun _ => rfl) ⟨by decide, rfl, dT rfl, Nat.le_refl _⟩ (fun _ => rfl) (fun _ => rfl) (fun _ => (by rfl)) ?_
   intro z
   simp only [I1, List.cons_append, List.nil_append]
   refine y_S rfl <| y_S rfl <| xN [2,3,4] [2,6] rfl <| B2 <| B9 (G9 rfl rfl rfl rfl (H1 rfl (a2n rfl rfl (by simp) (fun _ => rfl) (H5 rfl K5))) (C3 rfl rfl (C3 rfl rfl (C9 B5)))) ?_
   rw [b9c hns]
   rfl
  ·skip
   apply xC rfl
   ·apply B0
    ·exact B6 rfl
    exact C6
   ·exact (show CW cxT 36 [tV w] = some (.tup [tV w, .own 1 [], bV true], []) from by have hi := a0f w (by omega); rw [hnn] at hi; rw [show decide (0 ≤ rch (bA w)) = true from decide_eq_true (by omega)] at hi; exact hi)
   refine ⟨⟨rfl, rfl, rfl, dT rfl, rfl⟩, .inr ⟨rfl, rfl⟩, B4, G4 (H2 rfl (K2 fun _ => H2 rfl K7)), fun _ => A7 (B3 rfl) (by rfl), fun g21 => ?_⟩
   try simp only [List.length_map]
   refine y_M rfl <| y_E rfl <| y_E rfl <| y_E rfl <| y_S rfl ?_
   (refine F0 rfl rfl (by (simp; done)) rfl (fun _ => (B3 (by rfl))) (fun _ => rfl) ?_; intro g6)
   refine y_S rfl <| xN [0,2,5,6,7] [2,6] rfl <| A3 <| A3 <| A0 <| y_M rfl <| N7 rfl <| xN [0,2,5,6,26] [2,6] rfl ?_
   refine A5 rfl (fun hc => absurd hc (by decide)) (fun hc => ?_)
   refine A8 <| A3 <| A0 <| y_M rfl <| y_M rfl <| H6 (fs := [_, _, _]) rfl rfl rfl rfl rfl <| y_M rfl <| M9 rfl rfl rfl (Mv.sized_map fun _ => rfl) L9 (H8 (n := 1) rfl) (by simp) ?_
   rw [show ((List.map tV (w :: ws1)).drop 1).take ((List.map tV (w :: ws1)).length - 1) = ws1.map tV from by rw [List.map_cons, List.drop_succ_cons, List.drop_zero, List.take_of_length_le (by simp)]]
   refine y_A rfl (fun _ => rfl) ?_
   intro g8
   refine G7 rfl rfl rfl rfl (D9 rfl (a2l (by decide) (D9 rfl I9))) (fun _ => rfl) ⟨by decide, rfl, dT rfl, Nat.le_refl _⟩ (fun _ => rfl) (fun _ => rfl) (fun _ => (by rfl)) ?_
   intro z
   simp only [I1, List.cons_append, List.nil_append]
   refine y_S rfl ?_
   refine G2 ⟨fun _ => ⟨by (simp only [M5, List.nil_append, List.append_nil, List.map_cons, List.map_nil, List.cons_append]; decide +kernel), by decide +kernel⟩, [(.t 2, _), (.t 5, _), (.t 8, _), (.t 9, _), (.h 2, _), (.h 8, _), (.h 6, _)], ⟨rfl, rfl, rfl, rfl, rfl, rfl, rfl, rfl, rfl, rfl, rfl, rfl, rfl, rfl, trivial⟩, ?_⟩
   refine A3 <| A3 <| A0 <| y_M rfl ?_
   refine xC1 rfl rfl (a6n (bA w)) ⟨rfl, rfl, rfl⟩ rfl rfl fun g34 => ?_
   rw [show nd (bA w) = 0 from (a8o (by omega)).trans hn]
   refine y_M rfl <| xN [2,8,9,34,35] [2,8,6] rfl <| B7 <| E8 <| A3 <| A0 <| G6 rfl rfl <| xN [2,8,9,34,35,36] [2,8,6] rfl <| A3 ?_
   refine A5 rfl (fun hc => absurd hc (by decide)) (fun hc => ?_)
   refine F7 <| A3 <| A0 <| y_B rfl <| y_M rfl <| G7 rfl rfl rfl rfl (D9 rfl (a2l (by decide) (D9 rfl I9))) (fun _ => rfl) ⟨by decide, rfl, dT rfl, Nat.le_refl _⟩ (fun _ => rfl) (fun _ => rfl) (fun _ => (by rfl)) ?_
   intro z
   simp only [I1, List.cons_append, List.nil_append]
   refine y_S rfl <| y_S rfl <| xN [2,3,4] [2,6] rfl <| B2 <| B9 (G9 rfl rfl rfl rfl (H1 rfl (b8h rfl rfl rfl (H5 rfl K5))) (C3 rfl rfl (C3 rfl rfl (C9 B5)))) ?_
   rw [c5i hnn hn]
   rfl
  ·skip
   apply xC rfl
   ·apply B0
    ·exact B6 rfl
    exact C6
   ·exact (show CW cxT 36 [tV w] = some (.tup [tV w, .own 1 [], bV true], []) from by have hi := a0f w (by omega); rw [hnn] at hi; rw [show decide (0 ≤ rch (bA w)) = true from decide_eq_true (by omega)] at hi; exact hi)
   refine ⟨⟨rfl, rfl, rfl, dT rfl, rfl⟩, .inr ⟨rfl, rfl⟩, B4, G4 (H2 rfl (K2 fun _ => H2 rfl K7)), fun _ => A7 (B3 rfl) (by rfl), fun g21 => ?_⟩
   try simp only [List.length_map]
   refine y_M rfl <| y_E rfl <| y_E rfl <| y_E rfl <| y_S rfl ?_
   (refine F0 rfl rfl (by (simp; done)) rfl (fun _ => (B3 (by rfl))) (fun _ => rfl) ?_; intro g6)
   refine y_S rfl <| xN [0,2,5,6,7] [2,6] rfl <| A3 <| A3 <| A0 <| y_M rfl <| N7 rfl <| xN [0,2,5,6,26] [2,6] rfl ?_
   refine A5 rfl (fun hc => absurd hc (by decide)) (fun hc => ?_)
   refine A8 <| A3 <| A0 <| y_M rfl <| y_M rfl <| H6 (fs := [_, _, _]) rfl rfl rfl rfl rfl <| y_M rfl <| M9 rfl rfl rfl (Mv.sized_map fun _ => rfl) L9 (H8 (n := 1) rfl) (by simp) ?_
   rw [show ((List.map tV (w :: ws1)).drop 1).take ((List.map tV (w :: ws1)).length - 1) = ws1.map tV from by rw [List.map_cons, List.drop_succ_cons, List.drop_zero, List.take_of_length_le (by simp)]]
   refine y_A rfl (fun _ => rfl) ?_
   intro g8
   refine G7 rfl rfl rfl rfl (D9 rfl (a2l (by decide) (D9 rfl I9))) (fun _ => rfl) ⟨by decide, rfl, dT rfl, Nat.le_refl _⟩ (fun _ => rfl) (fun _ => rfl) (fun _ => (by rfl)) ?_
   intro z
   simp only [I1, List.cons_append, List.nil_append]
   refine y_S rfl ?_
   refine G2 ⟨fun _ => ⟨by (simp only [M5, List.nil_append, List.append_nil, List.map_cons, List.map_nil, List.cons_append]; decide +kernel), by decide +kernel⟩, [(.t 2, _), (.t 5, _), (.t 8, _), (.t 9, _), (.h 2, _), (.h 8, _), (.h 6, _)], ⟨rfl, rfl, rfl, rfl, rfl, rfl, rfl, rfl, rfl, rfl, rfl, rfl, rfl, rfl, trivial⟩, ?_⟩
   refine A3 <| A3 <| A0 <| y_M rfl ?_
   refine xC1 rfl rfl (a6n (bA w)) ⟨rfl, rfl, rfl⟩ rfl rfl fun g34 => ?_
   rw [show nd (bA w) = 1 from (a8o (by omega)).trans hn]
   refine y_M rfl <| xN [2,8,9,34,35] [2,8,6] rfl <| B7 <| E8 <| A3 <| A0 <| G6 rfl rfl <| xN [2,8,9,34,35,36] [2,8,6] rfl <| A3 ?_
   refine A5 rfl (fun hc => ?_) (fun hc => absurd hc (by decide))
   refine A8 <| A3 <| B7 <| A3 <| A0 <| y_M rfl ?_
   rcases hr1 : rdT ws1 with _ | ⟨k1, r1⟩
   ·skip
    apply xC rfl
    ·apply B0
     ·exact B6 rfl
     exact C6
    ·exact (by have hi := ih ws1 ⟨by simp only [List.length_cons] at hws; omega, fun x hx => hws.2 x (List.mem_cons_of_mem _ hx)⟩ (by simp only [List.length_cons] at hkk; omega); rw [hr1] at hi; exact hi)
    refine ⟨⟨rfl, rfl, rfl, dT rfl, rfl⟩, .inl rfl, B4, G4 (H2 rfl (K2 fun _ => H2 rfl K7)), fun _ => A7 (B3 rfl) (by rfl), fun g39 => ?_⟩
    refine y_M rfl <| y_E rfl <| y_E rfl <| y_E rfl <| y_A rfl (fun _ => rfl) ?_
    intro g10
    refine xB rfl rfl rfl rfl rfl rfl rfl rfl rfl ?_
    (refine F0 rfl rfl (by (simp; done)) rfl (fun _ => (B3 (by rfl))) (fun _ => rfl) ?_; intro g11)
    refine y_S rfl <| xN [2,8,10,11,12,34,35] [2,8,6,10] rfl <| A3 <| A3 <| A0 <| y_M rfl <| N7 rfl <| xN [2,8,10,11,34,35,44] [2,8,6,10] rfl ?_
    refine A5 rfl (fun hc => ?_) (fun hc => absurd hc (by decide))
    refine A3 <| A0 <| H6 (fs := [_, _, _]) rfl rfl rfl rfl rfl <| xB rfl rfl rfl rfl rfl rfl rfl rfl rfl ?_
    (refine B1 rfl rfl (fun _ => rfl) ?_; intro g3)
    refine y_S rfl <| xN [2,3,4] [2,3] rfl <| B2 <| B9 (G9 rfl rfl rfl rfl (H1 rfl (H5 rfl (H5 rfl K5))) (E4 rfl rfl (by simp) (by rfl) (C3 rfl rfl (C9 B5)))) ?_
    rw [b7n hnn hn, hr1]
    rfl
   skip
   apply xC rfl
   ·apply B0
    ·exact B6 rfl
    exact C6
   ·exact (by have hi := ih ws1 ⟨by simp only [List.length_cons] at hws; omega, fun x hx => hws.2 x (List.mem_cons_of_mem _ hx)⟩ (by simp only [List.length_cons] at hkk; omega); rw [hr1] at hi; exact hi)
   refine ⟨⟨rfl, rfl, rfl, dT rfl, rfl⟩, .inl rfl, B4, L6 rfl, fun _ => rfl, fun g39 => ?_⟩
   refine y_M rfl <| y_E rfl <| y_E rfl <| y_E rfl <| y_A rfl (fun _ => rfl) ?_
   intro g10
   refine xB rfl rfl rfl rfl rfl rfl rfl rfl rfl <| y_S rfl <| y_S rfl <| xN [2,8,10,11,12,34,35] [2,8,6,10] rfl <| A3 <| A3 <| A0 <| y_M rfl <| N7 rfl <| xN [2,8,10,11,34,35,44] [2,8,6,10] rfl ?_
   refine A5 rfl (fun hc => absurd hc (by decide)) (fun hc => ?_)
   refine A8 <| A3 <| A0 <| y_F rfl <| y_L rfl <| y_B rfl <| G0 (es := List.map trV [_]) rfl rfl (dT rfl) rfl rfl (fun _ => B3 (A6 fun _ => rfl)) (fun _ => rfl) ?_
   intro g49
   refine P6 rfl rfl rfl (by simp) (by decide) rfl rfl rfl (dT rfl) (fun _ => ⟨rfl, rfl⟩) (by simp only [I8]; (simp only [List.length_nil, List.length_cons, List.length_append, Nat.zero_add, List.length_map]; omega)) (fun _ => rfl) ?_
   intro g50
   refine y_F rfl <| O8 rfl rfl rfl rfl rfl (Nat.le_refl _) rfl <| xN [2,8,11,34,35] [2,8,6,1000050] rfl <| A0 <| y_M rfl <| y_S rfl <| xN [2,8,9,34,35] [2,8,6,1000050] rfl <| A0 <| G5 rfl rfl (F5 (by omega)) <| y_M rfl <| xN [2,8,9,34,35] [2,8,6,1000050] rfl <| E8 <| A3 <| A0 <| G6 rfl rfl <| xN [2,8,9,34,35,36] [2,8,6,1000050] rfl <| A3 ?_
   refine A5 rfl (fun hc => absurd hc (by decide)) (fun hc => ?_)
   refine F7 <| A3 <| A0 <| y_B rfl <| y_M rfl <| G7 rfl rfl rfl rfl (D9 rfl (a2l (by decide) (T3 (by decide) (by decide) rfl (by simp) fun _ => I9))) (fun _ => rfl) ⟨by decide, rfl, dT rfl, Nat.le_refl _⟩ (fun _ => rfl) (fun _ => rfl) (fun _ => A7 (by rfl) (A7 (B3 (A6 fun _ => rfl)) (by rfl))) ?_
   intro z
   simp only [I1, List.cons_append, List.nil_append]
   refine y_S rfl <| y_S rfl <| xN [2,3,4] [2,6,300002] rfl <| B2 <| B9 (G9 rfl rfl rfl rfl (H1 rfl (b8h rfl rfl rfl (a2n rfl rfl (by simp) (fun _ => rfl) K5))) (C3 rfl rfl (C3 rfl rfl (C9 B5)))) ?_
   rw [b7n hnn hn, hr1]
   rfl
  ·skip
   apply xC rfl
   ·apply B0
    ·exact B6 rfl
    exact C6
   ·exact (show CW cxT 36 [tV w] = some (.tup [tV w, .own 1 [], bV true], []) from by have hi := a0f w (by omega); rw [hnn] at hi; rw [show decide (0 ≤ rch (bA w)) = true from decide_eq_true (by omega)] at hi; exact hi)
   refine ⟨⟨rfl, rfl, rfl, dT rfl, rfl⟩, .inr ⟨rfl, rfl⟩, B4, G4 (H2 rfl (K2 fun _ => H2 rfl K7)), fun _ => A7 (B3 rfl) (by rfl), fun g21 => ?_⟩
   try simp only [List.length_map]
   refine y_M rfl <| y_E rfl <| y_E rfl <| y_E rfl <| y_S rfl ?_
   (refine F0 rfl rfl (by (simp; done)) rfl (fun _ => (B3 (by rfl))) (fun _ => rfl) ?_; intro g6)
   refine y_S rfl <| xN [0,2,5,6,7] [2,6] rfl <| A3 <| A3 <| A0 <| y_M rfl <| N7 rfl <| xN [0,2,5,6,26] [2,6] rfl ?_
   refine A5 rfl (fun hc => absurd hc (by decide)) (fun hc => ?_)
   refine A8 <| A3 <| A0 <| y_M rfl <| y_M rfl <| H6 (fs := [_, _, _]) rfl rfl rfl rfl rfl <| y_M rfl <| M9 rfl rfl rfl (Mv.sized_map fun _ => rfl) L9 (H8 (n := 1) rfl) (by simp) ?_
   rw [show ((List.map tV (w :: ws1)).drop 1).take ((List.map tV (w :: ws1)).length - 1) = ws1.map tV from by rw [List.map_cons, List.drop_succ_cons, List.drop_zero, List.take_of_length_le (by simp)]]
   refine y_A rfl (fun _ => rfl) ?_
   intro g8
   refine G7 rfl rfl rfl rfl (D9 rfl (a2l (by decide) (D9 rfl I9))) (fun _ => rfl) ⟨by decide, rfl, dT rfl, Nat.le_refl _⟩ (fun _ => rfl) (fun _ => rfl) (fun _ => (by rfl)) ?_
   intro z
   simp only [I1, List.cons_append, List.nil_append]
   refine y_S rfl ?_
   refine G2 ⟨fun _ => ⟨by (simp only [M5, List.nil_append, List.append_nil, List.map_cons, List.map_nil, List.cons_append]; decide +kernel), by decide +kernel⟩, [(.t 2, _), (.t 5, _), (.t 8, _), (.t 9, _), (.h 2, _), (.h 8, _), (.h 6, _)], ⟨rfl, rfl, rfl, rfl, rfl, rfl, rfl, rfl, rfl, rfl, rfl, rfl, rfl, rfl, trivial⟩, ?_⟩
   refine A3 <| A3 <| A0 <| y_M rfl ?_
   refine xC1 rfl rfl (a6n (bA w)) ⟨rfl, rfl, rfl⟩ rfl rfl fun g34 => ?_
   rw [show nd (bA w) = 2 from (a8o (by omega)).trans hn]
   refine y_M rfl <| xN [2,8,9,34,35] [2,8,6] rfl <| B7 <| E8 <| A3 <| A0 <| G6 rfl rfl <| xN [2,8,9,34,35,36] [2,8,6] rfl <| A3 ?_
   refine A5 rfl (fun hc => ?_) (fun hc => absurd hc (by decide))
   refine A8 <| A3 <| B7 <| A3 <| A0 <| y_M rfl ?_
   rcases hr1 : rdT ws1 with _ | ⟨k1, r1⟩
   ·skip
    apply xC rfl
    ·apply B0
     ·exact B6 rfl
     exact C6
    ·exact (by have hi := ih ws1 ⟨by simp only [List.length_cons] at hws; omega, fun x hx => hws.2 x (List.mem_cons_of_mem _ hx)⟩ (by simp only [List.length_cons] at hkk; omega); rw [hr1] at hi; exact hi)
    refine ⟨⟨rfl, rfl, rfl, dT rfl, rfl⟩, .inl rfl, B4, G4 (H2 rfl (K2 fun _ => H2 rfl K7)), fun _ => A7 (B3 rfl) (by rfl), fun g39 => ?_⟩
    refine y_M rfl <| y_E rfl <| y_E rfl <| y_E rfl <| y_A rfl (fun _ => rfl) ?_
    intro g10
    refine xB rfl rfl rfl rfl rfl rfl rfl rfl rfl ?_
    (refine F0 rfl rfl (by (simp; done)) rfl (fun _ => (B3 (by rfl))) (fun _ => rfl) ?_; intro g11)
    refine y_S rfl <| xN [2,8,10,11,12,34,35] [2,8,6,10] rfl <| A3 <| A3 <| A0 <| y_M rfl <| N7 rfl <| xN [2,8,10,11,34,35,44] [2,8,6,10] rfl ?_
    refine A5 rfl (fun hc => ?_) (fun hc => absurd hc (by decide))
    refine A3 <| A0 <| H6 (fs := [_, _, _]) rfl rfl rfl rfl rfl <| xB rfl rfl rfl rfl rfl rfl rfl rfl rfl ?_
    (refine B1 rfl rfl (fun _ => rfl) ?_; intro g3)
    refine y_S rfl <| xN [2,3,4] [2,3] rfl <| B2 <| B9 (G9 rfl rfl rfl rfl (H1 rfl (H5 rfl (H5 rfl K5))) (E4 rfl rfl (by simp) (by rfl) (C3 rfl rfl (C9 B5)))) ?_
    rw [a5b hnn hn, hr1]
    rfl
   skip
   apply xC rfl
   ·apply B0
    ·exact B6 rfl
    exact C6
   ·exact (by have hi := ih ws1 ⟨by simp only [List.length_cons] at hws; omega, fun x hx => hws.2 x (List.mem_cons_of_mem _ hx)⟩ (by simp only [List.length_cons] at hkk; omega); rw [hr1] at hi; exact hi)
   refine ⟨⟨rfl, rfl, rfl, dT rfl, rfl⟩, .inl rfl, B4, L6 rfl, fun _ => rfl, fun g39 => ?_⟩
   refine y_M rfl <| y_E rfl <| y_E rfl <| y_E rfl <| y_A rfl (fun _ => rfl) ?_
   intro g10
   refine xB rfl rfl rfl rfl rfl rfl rfl rfl rfl <| y_S rfl <| y_S rfl <| xN [2,8,10,11,12,34,35] [2,8,6,10] rfl <| A3 <| A3 <| A0 <| y_M rfl <| N7 rfl <| xN [2,8,10,11,34,35,44] [2,8,6,10] rfl ?_
   refine A5 rfl (fun hc => absurd hc (by decide)) (fun hc => ?_)
   refine A8 <| A3 <| A0 <| y_F rfl <| y_L rfl <| y_B rfl <| G0 (es := List.map trV [_]) rfl rfl (dT rfl) rfl rfl (fun _ => B3 (A6 fun _ => rfl)) (fun _ => rfl) ?_
   intro g49
   refine P6 rfl rfl rfl (by simp) (by decide) rfl rfl rfl (dT rfl) (fun _ => ⟨rfl, rfl⟩) (by simp only [I8]; (simp only [List.length_nil, List.length_cons, List.length_append, Nat.zero_add, List.length_map]; omega)) (fun _ => rfl) ?_
   intro g50
   refine y_F rfl <| O8 rfl rfl rfl rfl rfl (Nat.le_refl _) rfl <| xN [2,8,11,34,35] [2,8,6,1000050] rfl <| A0 <| y_M rfl <| y_S rfl <| xN [2,8,9,34,35] [2,8,6,1000050] rfl <| A0 <| G5 rfl rfl (F5 (by omega)) <| y_M rfl <| xN [2,8,9,34,35] [2,8,6,1000050] rfl <| E8 <| A3 <| A0 <| G6 rfl rfl <| xN [2,8,9,34,35,36] [2,8,6,1000050] rfl <| A3 ?_
   refine A5 rfl (fun hc => ?_) (fun hc => absurd hc (by decide))
   refine A8 <| A3 <| B7 <| A3 <| A0 <| y_M rfl ?_
   rcases hr2 : rdT r1 with _ | ⟨k2, r2⟩
   ·skip
    apply xC rfl
    ·apply B0
     ·exact B6 rfl
     exact C6
    ·exact (by have hi := ih r1 ⟨by have := X9 hr1; simp only [List.length_cons] at hws; omega, fun x hx => hws.2 x (List.mem_cons_of_mem _ (b1f hr1 x hx))⟩ (by have := X9 hr1; simp only [List.length_cons] at hkk; omega); rw [hr2] at hi; exact hi)
    refine ⟨⟨rfl, rfl, rfl, dT rfl, rfl⟩, .inl rfl, B4, G4 (H2 rfl (K2 fun _ => H2 rfl K7)), fun _ => A7 (B3 rfl) (by rfl), fun g39 => ?_⟩
    refine y_M rfl <| y_E rfl <| y_E rfl <| y_E rfl <| y_A rfl (fun _ => rfl) ?_
    intro g10
    refine xB rfl rfl rfl rfl rfl rfl rfl rfl rfl ?_
    (refine F0 rfl rfl (by (simp; done)) rfl (fun _ => (B3 (by rfl))) (fun _ => rfl) ?_; intro g11)
    refine y_S rfl <| xN [2,8,10,11,12,34,35] [2,8,6,1000050,10] rfl <| A3 <| A3 <| A0 <| y_M rfl <| N7 rfl <| xN [2,8,10,11,34,35,44] [2,8,6,1000050,10] rfl ?_
    refine A5 rfl (fun hc => ?_) (fun hc => absurd hc (by decide))
    refine A3 <| A0 <| H6 (fs := [_, _, _]) rfl rfl rfl rfl rfl <| xB rfl rfl rfl rfl rfl rfl rfl rfl rfl ?_
    (refine B1 rfl rfl (fun _ => rfl) ?_; intro g3)
    refine y_S rfl <| xN [2,3,4] [2,3] rfl <| B2 <| B9 (G9 rfl rfl rfl rfl (H1 rfl (H5 rfl (H5 rfl K5))) (E4 rfl rfl (by simp) (by rfl) (C3 rfl rfl (C9 B5)))) ?_
    rw [a5b hnn hn, hr1, Option.bind_some, hr2]
    rfl
   skip
   apply xC rfl
   ·apply B0
    ·exact B6 rfl
    exact C6
   ·exact (by have hi := ih r1 ⟨by have := X9 hr1; simp only [List.length_cons] at hws; omega, fun x hx => hws.2 x (List.mem_cons_of_mem _ (b1f hr1 x hx))⟩ (by have := X9 hr1; simp only [List.length_cons] at hkk; omega); rw [hr2] at hi; exact hi)
   refine ⟨⟨rfl, rfl, rfl, dT rfl, rfl⟩, .inl rfl, B4, L6 rfl, fun _ => rfl, fun g39 => ?_⟩
   refine y_M rfl <| y_E rfl <| y_E rfl <| y_E rfl <| y_A rfl (fun _ => rfl) ?_
   intro g10
   refine xB rfl rfl rfl rfl rfl rfl rfl rfl rfl <| y_S rfl <| y_S rfl <| xN [2,8,10,11,12,34,35] [2,8,6,1000050,10] rfl <| A3 <| A3 <| A0 <| y_M rfl <| N7 rfl <| xN [2,8,10,11,34,35,44] [2,8,6,1000050,10] rfl ?_
   refine A5 rfl (fun hc => absurd hc (by decide)) (fun hc => ?_)
   refine A8 <| A3 <| A0 <| y_F rfl <| y_L rfl <| y_B rfl <| G0 (es := List.map trV [_]) rfl rfl (dT rfl) rfl rfl (fun _ => B3 (A6 fun _ => rfl)) (fun _ => rfl) ?_
   intro g49
   refine xA rfl rfl rfl rfl (by simp) (by simp) rfl rfl rfl rfl rfl (fun _ => rfl) (by simp only [LN]; omega) (fun _ => rfl) ?_
   intro g50
   refine y_F rfl <| O8 rfl rfl rfl rfl rfl (Nat.le_refl _) rfl <| xN [2,8,11,34,35] [2,8,6,1000050] rfl <| A0 <| y_M rfl <| y_S rfl <| xN [2,8,9,34,35] [2,8,6,1000050] rfl <| A0 <| G5 rfl rfl (F5 (by omega)) <| y_M rfl <| xN [2,8,9,34,35] [2,8,6,1000050] rfl <| E8 <| A3 <| A0 <| G6 rfl rfl <| xN [2,8,9,34,35,36] [2,8,6,1000050] rfl <| A3 ?_
   refine A5 rfl (fun hc => absurd hc (by decide)) (fun hc => ?_)
   refine F7 <| A3 <| A0 <| y_B rfl <| y_M rfl <| G7 rfl rfl rfl rfl (D9 rfl (a2l (by decide) (T3 (by decide) (by decide) rfl (by simp) fun _ => I9))) (fun _ => rfl) ⟨by decide, rfl, dT rfl, Nat.le_refl _⟩ (fun _ => rfl) (fun _ => rfl) (fun _ => A7 (by rfl) (A7 (B3 (A6 fun _ => rfl)) (by rfl))) ?_
   intro z
   simp only [I1, List.cons_append, List.nil_append]
   refine y_S rfl <| y_S rfl <| xN [2,3,4] [2,6,300002] rfl <| B2 <| B9 (G9 rfl rfl rfl rfl (H1 rfl (b8h rfl rfl rfl (a2n rfl rfl (by simp) (fun _ => rfl) K5))) (C3 rfl rfl (C3 rfl rfl (C9 B5)))) ?_
   rw [a5b hnn hn, hr1, Option.bind_some, hr2]
   rfl
  skip
  apply xC rfl
  ·apply B0
   ·exact B6 rfl
   exact C6
  ·exact (show CW cxT 36 [tV w] = some (.tup [tV w, .own 1 [], bV false], []) from by have hi := a0f w (by omega); rw [hnn] at hi; rw [show decide (0 ≤ rch (bA w)) = false from decide_eq_false (by omega)] at hi; exact hi)
  refine ⟨⟨rfl, rfl, rfl, dT rfl, rfl⟩, .inr ⟨rfl, rfl⟩, B4, G4 (H2 rfl (K2 fun _ => H2 rfl K7)), fun _ => A7 (B3 rfl) (by rfl), fun g21 => ?_⟩
  try simp only [List.length_map]
  refine y_M rfl <| y_E rfl <| y_E rfl <| y_E rfl <| y_S rfl ?_
  (refine F0 rfl rfl (by (simp; done)) rfl (fun _ => (B3 (by rfl))) (fun _ => rfl) ?_; intro g6)
  refine y_S rfl <| xN [0,2,5,6,7] [2,6] rfl <| A3 <| A3 <| A0 <| y_M rfl <| N7 rfl <| xN [0,2,5,6,26] [2,6] rfl ?_
  refine A5 rfl (fun hc => ?_) (fun hc => absurd hc (by decide))
  refine A3 <| A0 <| H6 (fs := [_, _, _]) rfl rfl rfl rfl rfl <| xB rfl rfl rfl rfl rfl rfl rfl rfl rfl ?_
  (refine B1 rfl rfl (fun _ => rfl) ?_; intro g3)
  refine y_S rfl <| xN [2,3,4] [2,3] rfl <| B2 <| B9 (G9 rfl rfl rfl rfl (H1 rfl (H5 rfl (H5 rfl K5))) (E4 rfl rfl (by simp) (by rfl) (C3 rfl rfl (C9 B5)))) ?_
  rw [c4q hnn hn]
  rfl

theorem a7x : F6 Tryz.f21 = [0, 2, 3, 4, 6, 7, 5, 12] := by kernel_rfl
theorem c0z (s : List UInt8) (hs : s.length ≤ 1048576) : CW cxT 21 [tV s] = some (.tup [trV (ipT s), bV (c3d s)], []) := by
 obtain ⟨ws, hws⟩ : ∃ ws, ws = splitB 32 s := ⟨_, rfl⟩
 have hwl := S4 32 s
 have hwp := Y4 32 s
 rw [← hws] at hwl hwp
 refine E7 rfl Tryz.func21 rfl ⟨by kernel_rfl, rfl, dT rfl, dT rfl, by decide⟩ a7x <| A3 <| A0 <| y_A rfl (fun _ => rfl) ?_
 intro g2
 refine y_S rfl <| xN [0,2] [2] rfl <| A3 <| A0 <| y_M rfl ?_
 apply xC rfl
 ·apply B0
  ·exact B6 rfl
  apply B0
  ·exact B6 rfl
  exact C6
 ·exact c4m s 32 (by omega)
 refine ⟨⟨rfl, rfl, rfl, dT rfl, rfl⟩, .inl rfl, B4, K0, fun _ => rfl, fun g9 => ?_⟩
 rw [← hws]
 try simp only [List.length_map]
 (refine xO rfl rfl (by simp) rfl (fun _ => rfl) (fun _ => rfl) ?_; intro g4)
 refine xN [2,4] [2,4] rfl <| A3 <| A0 <| y_M rfl ?_
 rcases hr : rdT ws with _ | ⟨t, r⟩
 ·skip
  apply xC rfl
  ·apply B0
   ·exact a0u rfl rfl (by (simp; done)) (fun _ => rfl)
   exact C6
  ·exact (by have hi := a9e ws ⟨by omega, fun w hw => by have := hwp w hw; omega⟩; rw [hr] at hi; exact hi)
  refine ⟨⟨rfl, rfl, rfl, dT rfl, rfl⟩, .inl rfl, B4, G4 (H2 rfl (K2 fun _ => H2 rfl K7)), fun _ => A7 (a1k (A6 fun _ => rfl) (by decide)) (by rfl), fun g12 => ?_⟩
  refine y_M rfl <| y_E rfl <| y_E rfl <| y_E rfl <| y_A rfl (fun _ => rfl) ?_
  intro g5
  refine xB rfl rfl rfl rfl rfl rfl rfl rfl rfl ?_
  (refine F0 rfl rfl (by (simp; done)) rfl (fun _ => (B3 (by rfl))) (fun _ => rfl) ?_; intro g6)
  refine y_S rfl <| xN [2,4,5,6,7] [2,4,5] rfl <| A3 <| A0 <| y_B rfl <| y_M rfl <| y_M rfl <| F4 rfl rfl rfl <| F4 rfl rfl rfl <| F4 rfl rfl rfl <| C8 rfl rfl rfl rfl <| y_M rfl <| F4 rfl rfl rfl <| F4 rfl rfl rfl <| F4 rfl rfl rfl <| C8 rfl rfl rfl rfl <| xB rfl rfl rfl rfl rfl rfl rfl rfl rfl <| y_S rfl <| xN [2,3] [2] rfl <| B2 <| B9 (G9 rfl rfl rfl rfl (H1 rfl (H1 rfl (H1 rfl K5))) (C3 rfl rfl (C9 B5))) ?_
  obtain ⟨h1, h2⟩ := d1i hws hr
  rw [h1, h2]
  rfl
 skip
 apply xC rfl
 ·apply B0
  ·exact a0u rfl rfl (by (simp; done)) (fun _ => rfl)
  exact C6
 ·exact (by have hi := a9e ws ⟨by omega, fun w hw => by have := hwp w hw; omega⟩; rw [hr] at hi; exact hi)
 refine ⟨⟨rfl, rfl, rfl, dT rfl, rfl⟩, .inl rfl, B4, L6 rfl, fun _ => A7 (a1k (A6 fun _ => rfl) (by decide)) (by rfl), fun g12 => ?_⟩
 refine y_M rfl <| y_E rfl <| y_E rfl <| y_E rfl <| y_A rfl (fun _ => rfl) ?_
 intro g5
 refine xB rfl rfl rfl rfl rfl rfl rfl rfl rfl <| y_S rfl <| y_S rfl <| xN [2,4,5,6,7] [2,4,5] rfl <| A3 <| A0 <| y_B rfl <| y_M rfl <| y_M rfl <| T9 rfl rfl rfl <| y_M rfl <| T9 rfl rfl rfl <| D8 rfl rfl <| T9 rfl rfl rfl <| U0 rfl rfl <| E5 rfl rfl rfl rfl <| y_M rfl ?_
 refine B8 rfl rfl ?_ ?_ <;> intro hg0 <;> have hg := hg0 <;> try simp only [SG] at hg
 ·refine y_M rfl <| gT rfl rfl <| H7 rfl rfl <| gT rfl rfl <| a9g rfl rfl <| E5 rfl (by assumption) rfl rfl <| xB rfl rfl rfl rfl rfl rfl rfl rfl rfl <| y_S rfl <| xN [2,3] [2] rfl <| B2 <| B9 (G9 rfl rfl rfl rfl (H1 rfl (H1 rfl (H1 rfl K5))) (C3 rfl rfl (C9 B5))) ?_
  obtain ⟨h1, h2⟩ := c4v hws hr
  rw [h1, h2]
  simp_all
  try rfl
 refine gF rfl rfl <| gF rfl rfl <| C8 rfl (by assumption) rfl rfl <| xB rfl rfl rfl rfl rfl rfl rfl rfl rfl <| y_S rfl <| xN [2,3] [2] rfl <| B2 <| B9 (G9 rfl rfl rfl rfl (H1 rfl (H1 rfl (H1 rfl K5))) (C3 rfl rfl (C9 B5))) ?_
 obtain ⟨h1, h2⟩ := c4v hws hr
 rw [h1, h2]
 simp_all
 try rfl

theorem a7s : F6 Tryz.f11 = [0, 2, 3, 5, 4, 8] := by kernel_rfl
theorem c1c (s : List UInt8) (hs : s.length ≤ 1048576) : CW cxT 11 [tV s] = some (.tup [trV (ipT s), bV (rdPlan s).isSome], []) := by
 have hip := d3z s
 refine E7 rfl Tryz.func11 rfl ⟨by kernel_rfl, rfl, dT rfl, dT rfl, by decide⟩ a7s <| A3 <| A0 <| y_A rfl (fun _ => rfl) ?_
 intro g2
 refine y_S rfl <| xN [0,2] [2] rfl <| A3 <| A0 <| y_M rfl ?_
 apply xC rfl
 ·apply B0
  ·exact B6 rfl
  exact C6
 ·exact c0z s hs
 refine ⟨⟨rfl, rfl, rfl, dT rfl, rfl⟩, .inl rfl, B4, L6 rfl, fun _ => rfl, fun g8 => ?_⟩
 refine y_M rfl <| y_E rfl <| y_E rfl <| y_A rfl (fun _ => rfl) ?_
 intro g4
 refine xB rfl rfl rfl rfl rfl rfl rfl rfl rfl <| y_S rfl <| xN [0,2,4,5] [2,4] rfl <| A3 <| A0 <| y_B rfl <| y_M rfl <| y_M rfl ?_
 refine B8 rfl rfl ?_ ?_ <;> intro hg0 <;> have hg := hg0 <;> try simp only [SG] at hg
 ·refine y_M rfl <| gT rfl rfl <| a3s rfl rfl <| gT rfl rfl <| a9g rfl rfl <| E5 rfl (by assumption) rfl rfl <| xB rfl rfl rfl rfl rfl rfl rfl rfl rfl <| y_S rfl <| xN [2,3] [2] rfl <| B2 <| B9 (G9 rfl rfl rfl rfl (H1 rfl (H1 rfl (H1 rfl K5))) (C3 rfl rfl (C9 B5))) ?_
  rw [← hip]
  simp_all
  try rfl
 refine gF rfl rfl <| gF rfl rfl <| C8 rfl (by assumption) rfl rfl <| xB rfl rfl rfl rfl rfl rfl rfl rfl rfl <| y_S rfl <| xN [2,3] [2] rfl <| B2 <| B9 (G9 rfl rfl rfl rfl (H1 rfl (H1 rfl (H1 rfl K5))) (C3 rfl rfl (C9 B5))) ?_
 rw [← hip]
 simp_all
 try rfl

theorem a8s : F6 Tryz.f15 = [0, 2, 5, 7, 3] := by kernel_rfl
theorem a9z (k : Int) (hk : k ≤ 1000000) : CW cxT 15 [iV k] = some (tV (mT k), []) := by
 refine E7 rfl Tryz.func15 rfl ⟨by kernel_rfl, rfl, dT rfl, dT rfl, by decide⟩ a8s <| A3 <| A0 <| y_S rfl <| xN [0] [] rfl <| A3 <| A3 <| A0 <| y_M rfl <| a9g rfl rfl <| xN [0,5] [] rfl ?_
 refine A5 rfl ?_ ?_ <;> intro hc <;> try simp only [SL] at hc
 ·refine A3 <| A0 <| y_S rfl <| xN [2] [] rfl <| B2 <| C0 rfl rfl trivial ?_
  rw [mT, if_pos (by omega)]
  rfl
 refine A8 <| A3 <| A0 <| y_S rfl <| xN [0,3] [] rfl <| A3 <| B7 <| c4w (β := Int × List UInt8) (fun (z : Int × List UInt8) => match z with | (q, s) => [(.t 0, iV q), (.t 3, tV s)]) (fun (z : Int × List UInt8) => match z with | (q, s) => 0 ≤ q ∧ q + s.length ≤ 1000001 ∧ mkS k q s) (fun (z : Int × List UInt8) => match z with | (q, s) => q.toNat) (k, []) ⟨rfl, rfl, trivial⟩ ⟨by omega, by show k + ((0 : Nat) : Int) ≤ _; omega, by rw [mkS, if_neg (by omega), List.append_nil]⟩ ?_
 intro z hb
 obtain ⟨q, s⟩ := z
 try dsimp only at hb
 obtain ⟨hq0, hq, hmk⟩ := hb
 refine A3 <| A3 <| A0 <| y_M rfl <| Z2 rfl rfl <| xN [0,3,7] [] rfl ?_
 refine A5 rfl ?_ ?_ <;> intro hc <;> try simp only [SL] at hc
 ·refine A8 <| B7 <| A3 <| A0 <| y_M rfl ?_
  have hm1 : 0 ≤ q.tmod 10 ∧ q.tmod 10 < 10 := ⟨Int.tmod_nonneg _ (by omega), Int.tmod_lt_of_pos _ (by decide)⟩
  have hd1 : q.tdiv 10 = q / 10 := Int.tdiv_eq_ediv_of_nonneg (by omega)
  refine d2g rfl rfl (by omega) <| G5 rfl rfl (F5 (by omega)) ?_
  refine b8p rfl rfl rfl (by constructor <;> simp [IntKind.min, IntKind.max, IntKind.signed, IntKind.bits] <;> omega) ?_
  refine G0 (es := List.map uV [_]) rfl rfl (dT rfl) rfl rfl (fun _ => B3 (A6 fun _ => rfl)) (fun _ => rfl) ?_
  intro g12
  refine d1l rfl rfl rfl rfl rfl rfl (by simp) (d2l (by omega)) <| y_M rfl <| b3p rfl rfl (by simp only [I8, List.length_append, List.length_cons, List.length_nil]; omega) <| y_S rfl <| xN [0,3] [] rfl <| A0 <| y_M rfl <| d1x rfl rfl ⟨by omega, F5 (by omega)⟩ <| y_S rfl <| xN [0,3] [] rfl ?_
  refine ⟨(q.tdiv 10, _), ⟨by omega, by simp only [List.length_append, List.length_cons, List.length_nil]; omega, d0a hmk (by omega)⟩, (by simp only; omega), ⟨rfl, rfl, trivial⟩⟩
 refine F7 <| A3 <| A0 <| y_M rfl <| b3p rfl rfl (by simp only [I8, List.length_append, List.length_cons, List.length_nil]; omega) <| y_S rfl <| xN [2] [] rfl <| B2 <| C0 rfl rfl trivial ?_
 rw [← d1n hmk (by omega) (by omega)]
 rfl

theorem b0w : F6 Tryz.f20 = [0, 1, 4, 10, 5, 14, 25] := by kernel_rfl
theorem a2z (a b : List Int) (ha : a.length ≤ 1048576) (hlb : b.length ≤ 1048576) : CW cxT 20 [L a, L b] = some (bV (decide (a = b)), []) := by
 refine E7 rfl Tryz.func20 rfl ⟨by kernel_rfl, rfl, dT rfl, dT rfl, by decide⟩ b0w <| A3 <| A0 <| y_S rfl <| xN [0,1] [] rfl <| A3 <| A3 <| A0 <| y_M rfl <| D8 rfl rfl <| y_M rfl <| D8 rfl rfl <| Z3 rfl rfl <| xN [0,1,10] [] rfl ?_
 refine A5 rfl ?_ ?_ <;> intro hc <;> try simp only [SL] at hc
 ·refine A3 <| A0 <| y_S rfl <| xN [4] [] rfl <| B2 <| C0 rfl rfl trivial ?_
  rw [a3c (by omega)]
  rfl
 refine A8 <| A3 <| A3 <| A0 <| y_S rfl <| xN [0,1,5] [] rfl <| B7 <| I4 (β := Nat) [(.t 0, _), (.t 1, _)] (fun (i : Nat) => [(.t 5, iV i)]) (fun (i : Nat) => i ≤ a.length ∧ ∀ j, j < i → a.getD j default = b.getD j default) (fun (i : Nat) => a.length - i) 0 ⟨rfl, rfl, rfl, trivial⟩ ⟨Nat.zero_le _, fun j h => by omega⟩ ?_
 intro i hb
 obtain ⟨hi1, hi2⟩ := hb
 refine A3 <| A3 <| A0 <| y_M rfl <| y_M rfl <| D8 rfl rfl <| G6 rfl rfl <| xN [0,1,5,14] [] rfl ?_
 refine A5 rfl ?_ ?_ <;> intro hc <;> try simp only [SL] at hc
 ·refine A8 <| A3 <| B7 <| A3 <| A0 <| y_M rfl <| y_M rfl <| E9 rfl rfl rfl (fun _ => rfl) (by omega) <| y_I rfl <| y_M rfl <| y_M rfl <| E9 rfl rfl rfl (fun _ => rfl) (by omega) <| y_I rfl <| Z3 rfl rfl ?_
  refine G2 ⟨fun _ => ⟨by decide +kernel, by decide +kernel⟩, [(.t 0, _), (.t 1, _), (.t 5, _), (.t 25, _)], ⟨rfl, rfl, rfl, rfl, rfl, rfl, rfl, rfl, trivial⟩, ?_⟩
  refine A5 rfl ?_ ?_ <;> intro hc <;> try simp only [SL] at hc
  ·refine A3 <| A0 <| y_S rfl <| xN [4] [] rfl <| B2 <| C0 rfl rfl trivial ?_
   rw [a4o (i := i) (by omega) (by assumption)]
   rfl
  refine A8 <| A0 <| y_M rfl <| G5 rfl rfl (F5 (by omega)) <| y_S rfl <| xN [0,1,5] [] rfl ?_
  refine ⟨i + 1, ⟨by omega, fun j hj => by rcases Nat.lt_succ_iff_lt_or_eq.1 hj with h | h; (· exact hi2 j h); (· subst h; assumption)⟩, (by omega), ⟨rfl, rfl, rfl, trivial⟩⟩
 refine F7 <| A3 <| A0 <| y_S rfl <| xN [4] [] rfl <| B2 <| C0 rfl rfl trivial ?_
 rw [a4g (by omega) fun j hj => hi2 j (by omega)]
 rfl

theorem b4f : F6 Tryz.f10 = [0, 1, 4, 5, 2, 16, 6, 7, 26, 9, 41, 8, 10, 49, 89, 20, 88] := by kernel_rfl
theorem c8r (t : Pl) (ss : List Stp) (hss : ss.length + t.sz ≤ 1000 ∧ ∀ s ∈ ss, stG s) (hgd : t.good) : CW cxT 10 [trK t, .own 4 (ss.map stA)] = some (.tup [iV ((shareP t ss).2 : Nat), .own 4 ((shareP t ss).1.map stA)], []) := by
 obtain ⟨kk, hkk⟩ : ∃ kk : Nat, t.sz < kk := ⟨_, Nat.lt_succ_self _⟩
 revert t ss
 induction kk with
 | zero => intro t ss hss hgd hkk; exact absurd hkk (Nat.not_lt_zero _)
 | succ kk ih =>
  intro t ss hss hgd hkk
  refine E7 rfl Tryz.func10 rfl ⟨by kernel_rfl, rfl, dT rfl, dT rfl, by decide⟩ b4f <| A3 <| A0 ?_
  rcases t with ns | w | ⟨w, p⟩ | ⟨w, p, q⟩
  ·rw [b8o]
   have hvl := N4 (show vd ns = true from hgd)
   refine Y2 rfl rfl rfl (fun _ => I2 rfl) (fun _ => rfl) ?_
   intro g2
   refine y_S rfl ?_
   (refine B1 rfl rfl (fun _ => rfl) ?_; intro g5)
   refine xN [1,2] [1,2] rfl <| A3 <| A0 <| y_F rfl <| y_L rfl <| H6 (fs := [_, iV (-1), iV (-1), .nil]) rfl rfl rfl rfl rfl <| y_A rfl (fun _ => rfl) ?_
   intro g6
   refine xB rfl rfl rfl rfl rfl rfl rfl rfl rfl <| xN [1,2,6] [1,2,6] rfl <| A3 <| A3 <| A0 <| y_F rfl <| y_L rfl <| a0t rfl rfl <| xN [1,2,6,16] [1,2,6] rfl ?_
   refine A5 rfl (fun hc => ?_) (fun hc => absurd hc (by decide))
   refine A0 <| G0 (es := List.map iV []) rfl rfl (dT rfl) rfl rfl (fun _ => B3 (A6 fun _ => rfl)) (fun _ => rfl) ?_
   intro g17
   refine y_F rfl <| y_L rfl <| b1s rfl rfl rfl (by (simp; done)) rfl rfl rfl (dT rfl) (fun _ => ⟨rfl, rfl, rfl⟩) (by simp only [I8]; (simp only [List.length_nil, List.length_cons, List.length_append, Nat.zero_add, List.length_map]; omega)) (fun _ => rfl) ?_
   intro g20
   simp only [List.nil_append]
   refine y_F rfl <| O8 rfl rfl rfl rfl rfl (Nat.le_refl _) rfl <| xN [1,2,6] [1,2,6,1000020] rfl <| A3 <| A3 <| A0 <| y_S rfl <| xN [1,2,6,7] [1,2,6,1000020] rfl <| B7 <| E8 <| A3 <| A3 <| A0 <| y_M rfl <| y_F rfl <| y_L rfl <| D8 rfl rfl <| G6 rfl rfl <| xN [1,2,6,7,26] [1,2,6,1000020] rfl ?_
   refine A5 rfl (fun hc => absurd hc (by decide)) (fun hc => ?_)
   refine F7 <| A3 <| A3 <| A0 <| y_S rfl <| xN [1,6,10] [1,6,1000020] rfl <| B7 <| I4 (β := Nat) [(.t 1, _), (.t 6, _), (.h 1, _), (.h 6, _), (.h 1000020, _)] (fun (i : Nat) => [(.t 10, iV i)]) (fun (i : Nat) => i ≤ ss.length ∧ ∀ j, j < i → ss.getD j default ≠ (H3 (.lst ns) (-1) (-1))) (fun (i : Nat) => ss.length - i) 0 ⟨rfl, rfl, rfl, rfl, rfl, rfl, trivial⟩ ⟨Nat.zero_le _, fun j h => by omega⟩ ?_
   intro i hb
   obtain ⟨hi1, hne⟩ := hb
   refine A3 <| A3 <| A0 <| y_M rfl <| y_M rfl <| H7 rfl rfl <| G6 rfl rfl <| xN [1,6,10,49] [1,6,1000020] rfl ?_
   refine A5 rfl ?_ ?_ <;> intro hc <;> try simp only [SL] at hc
   ·refine A8 <| A3 <| B7 <| A3 <| A0 <| y_M rfl <| y_M rfl <| D4 rfl rfl rfl rfl (by (simp; omega)) (by (simp; done)) rfl <| y_F rfl <| H4 rfl rfl (by omega) (fun _ => rfl) rfl rfl <| y_F rfl <| y_L rfl <| a0t rfl rfl <| y_M rfl ?_
    refine B8 rfl rfl ?_ ?_ <;> intro hg0 <;> have hg := hg0 <;> try simp only [SG] at hg
    ·refine y_M rfl <| gT rfl rfl <| y_M rfl <| gT rfl rfl <| D4 rfl rfl rfl rfl (by (simp; omega)) (by (simp; done)) rfl <| gT rfl rfl <| y_F rfl <| gT rfl rfl <| H4 rfl rfl (by omega) (fun _ => rfl) rfl rfl <| gT rfl rfl <| y_F rfl <| gT rfl rfl <| y_L rfl <| gT rfl rfl <| U0 rfl rfl <| E5 rfl (by assumption) rfl rfl <| y_M rfl ?_
     refine B8 rfl rfl ?_ ?_ <;> intro hg0 <;> have hg := hg0 <;> try simp only [SG] at hg
     ·refine y_M rfl <| gT rfl rfl <| y_M rfl <| gT rfl rfl <| D4 rfl rfl rfl rfl (by (simp; omega)) (by (simp; done)) rfl <| gT rfl rfl <| y_F rfl <| gT rfl rfl <| H4 rfl rfl (by omega) (fun _ => rfl) rfl rfl <| gT rfl rfl <| y_F rfl <| gT rfl rfl <| y_L rfl <| gT rfl rfl <| U0 rfl rfl <| E5 rfl (by assumption) rfl rfl <| y_M rfl ?_
      refine B8 rfl rfl ?_ ?_ <;> intro hg0 <;> have hg := hg0 <;> try simp only [SG] at hg
      ·refine y_M rfl <| gT rfl rfl <| y_M rfl <| gT rfl rfl <| D4 rfl rfl rfl rfl (by (simp; omega)) (by (simp; done)) rfl <| gT rfl rfl <| y_F rfl <| gT rfl rfl <| H4 rfl rfl (by omega) (fun _ => rfl) rfl rfl <| gT rfl rfl <| y_F rfl <| gT rfl rfl <| y_L rfl <| gT rfl rfl ?_
       apply xC rfl
       ·apply B0
        ·exact B6 rfl
        apply B0
        ·exact Q9 rfl rfl rfl (by (simp; done)) (fun _ => rfl)
        exact C6
       ·exact a2z (ss.getD i default).ns ns (by have hsg := hss.2 _ (M6 (xs := ss) (i := i) (by omega)); have := N4 hsg.2; omega) (by omega)
       refine ⟨⟨rfl, rfl, rfl, dT rfl, rfl⟩, .inr ⟨rfl, rfl⟩, B4, E6 rfl, fun _ => rfl, fun g88 => ?_⟩
       refine E5 rfl (by assumption) rfl rfl ?_
       refine G2 ⟨fun _ => ⟨by (simp only [M5, List.nil_append, List.append_nil, List.map_cons, List.map_nil, List.cons_append]; decide +kernel), by decide +kernel⟩, [(.t 1, _), (.t 6, _), (.t 10, _), (.t 89, _), (.h 1, _), (.h 6, _), (.h 1000020, _)], ⟨rfl, rfl, rfl, rfl, rfl, rfl, rfl, rfl, rfl, rfl, rfl, rfl, rfl, rfl, trivial⟩, ?_⟩
       refine A5 rfl ?_ ?_ <;> intro hc <;> try simp only [SL] at hc
       ·refine A3 <| A0 <| y_M rfl <| y_M rfl <| y_S rfl ?_
        (refine xO rfl rfl (by simp) rfl (fun _ => rfl) (fun _ => rfl) ?_; intro g5)
        refine xN [4,5] [5] rfl <| B2 <| B9 (C3 rfl rfl (E4 rfl rfl (by simp) (by exact A6 fun _ => rfl) (C9 B5))) ?_
        have hx : ss.getD i default = (H3 (.lst ns) (-1) (-1)) := b1j (by assumption) (by assumption) (by assumption) (by assumption)
        obtain ⟨h1, h2⟩ := a2b (by omega) hx hne
        show _ = AV.tup [iV (stIx (H3 (.lst ns) (-1) (-1)) ss : Nat), .own 4 ((stAdd (H3 (.lst ns) (-1) (-1)) ss).map stA)]
        rw [h1, h2]
        rfl
       refine A8 <| A0 <| y_M rfl <| G5 rfl rfl (F5 (by omega)) <| y_S rfl <| xN [1,6,10] [1,6,1000020] rfl ?_
       refine ⟨i + 1, ⟨by omega, fun j hj => by rcases Nat.lt_succ_iff_lt_or_eq.1 hj with h | h; (· exact hne j h); (· subst h; exact b1h (by assumption))⟩, (by omega), ⟨rfl, rfl, rfl, rfl, rfl, rfl, trivial⟩⟩
      iterate 7 refine gF rfl rfl ?_
      refine C8 rfl (by assumption) rfl rfl ?_
      refine G2 ⟨fun _ => ⟨by decide +kernel, by decide +kernel⟩, [(.t 1, _), (.t 6, _), (.t 10, _), (.t 89, _), (.h 1, _), (.h 6, _), (.h 1000020, _)], ⟨rfl, rfl, rfl, rfl, rfl, rfl, rfl, rfl, rfl, rfl, rfl, rfl, rfl, rfl, trivial⟩, ?_⟩
      refine A5 rfl (fun hc => absurd hc (by decide)) (fun hc => ?_)
      refine A8 <| A0 <| y_M rfl <| G5 rfl rfl (F5 (by omega)) <| y_S rfl <| xN [1,6,10] [1,6,1000020] rfl ?_
      refine ⟨i + 1, ⟨by omega, fun j hj => by rcases Nat.lt_succ_iff_lt_or_eq.1 hj with h | h; (· exact hne j h); (· subst h; exact b0z (by assumption))⟩, (by omega), ⟨rfl, rfl, rfl, rfl, rfl, rfl, trivial⟩⟩
     iterate 7 refine gF rfl rfl ?_
     refine C8 rfl (by assumption) rfl rfl <| y_M rfl ?_
     iterate 8 refine F4 rfl rfl rfl ?_
     refine C8 rfl rfl rfl rfl ?_
     refine G2 ⟨fun _ => ⟨by decide +kernel, by decide +kernel⟩, [(.t 1, _), (.t 6, _), (.t 10, _), (.t 89, _), (.h 1, _), (.h 6, _), (.h 1000020, _)], ⟨rfl, rfl, rfl, rfl, rfl, rfl, rfl, rfl, rfl, rfl, rfl, rfl, rfl, rfl, trivial⟩, ?_⟩
     refine A5 rfl (fun hc => absurd hc (by decide)) (fun hc => ?_)
     refine A8 <| A0 <| y_M rfl <| G5 rfl rfl (F5 (by omega)) <| y_S rfl <| xN [1,6,10] [1,6,1000020] rfl ?_
     refine ⟨i + 1, ⟨by omega, fun j hj => by rcases Nat.lt_succ_iff_lt_or_eq.1 hj with h | h; (· exact hne j h); (· subst h; exact b1g (by assumption))⟩, (by omega), ⟨rfl, rfl, rfl, rfl, rfl, rfl, trivial⟩⟩
    iterate 7 refine gF rfl rfl ?_
    refine C8 rfl (by assumption) rfl rfl <| y_M rfl ?_
    iterate 8 refine F4 rfl rfl rfl ?_
    refine C8 rfl rfl rfl rfl <| y_M rfl ?_
    iterate 8 refine F4 rfl rfl rfl ?_
    refine C8 rfl rfl rfl rfl ?_
    refine G2 ⟨fun _ => ⟨by decide +kernel, by decide +kernel⟩, [(.t 1, _), (.t 6, _), (.t 10, _), (.t 89, _), (.h 1, _), (.h 6, _), (.h 1000020, _)], ⟨rfl, rfl, rfl, rfl, rfl, rfl, rfl, rfl, rfl, rfl, rfl, rfl, rfl, rfl, trivial⟩, ?_⟩
    refine A5 rfl (fun hc => absurd hc (by decide)) (fun hc => ?_)
    refine A8 <| A0 <| y_M rfl <| G5 rfl rfl (F5 (by omega)) <| y_S rfl <| xN [1,6,10] [1,6,1000020] rfl ?_
    refine ⟨i + 1, ⟨by omega, fun j hj => by rcases Nat.lt_succ_iff_lt_or_eq.1 hj with h | h; (· exact hne j h); (· subst h; exact b1e (by assumption))⟩, (by omega), ⟨rfl, rfl, rfl, rfl, rfl, rfl, trivial⟩⟩
   refine F7 <| A3 <| A0 <| y_M rfl <| H7 rfl rfl <| G0 (es := List.map stA []) rfl rfl (dT rfl) rfl rfl (fun _ => B3 (A6 fun _ => rfl)) (fun _ => rfl) ?_
   intro g94
   refine y_M rfl <| Z9 rfl rfl rfl rfl (by decide) rfl (by (simp; done)) (by (simp; done)) rfl rfl rfl (dT rfl) (fun _ => ⟨rfl, rfl, rfl⟩) (by simp only [I8]; (simp only [List.length_nil, List.length_cons, List.length_append, Nat.zero_add, List.length_map]; omega)) (fun _ => rfl) ?_
   intro g96
   refine y_B rfl <| J7 (mk := 2) (fs := [_, _, _, _]) rfl rfl rfl (dT rfl) rfl rfl (Y9 rfl (Y9 rfl (Y9 rfl (d3d rfl (by simp) (fun _ => rfl) I9)))) (fun _ _ => A7 (a1k (A6 fun _ => rfl) (by decide)) (A7 (B3 rfl) (G1 rfl))) ?_
   intro z98 g98
   simp only [I1, List.cons_append, List.nil_append]
   rw [d4b]
   refine U5 rfl rfl rfl rfl (by (simp; done)) (by simp) (by decide) rfl rfl rfl rfl (dT rfl) (fun _ => ⟨rfl, rfl⟩) (by simp only [I8]; (simp; omega)) (fun _ => rfl) ?_
   intro g99
   refine y_S rfl ?_
   (refine xO rfl rfl (by simp) rfl (fun _ => rfl) (fun _ => rfl) ?_; intro g5)
   refine G2 ⟨fun _ => ⟨by (simp only [M5, List.nil_append, List.append_nil, List.map_cons, List.map_nil, List.cons_append]; decide +kernel), by decide +kernel⟩, [(.t 4, _), (.t 5, _), (.h 5, _)], ⟨rfl, rfl, rfl, rfl, rfl, rfl, trivial⟩, ?_⟩
   refine B2 <| B9 (C3 rfl rfl (E4 rfl rfl (by simp) (by exact A6 fun _ => rfl) (C9 B5))) ?_
   obtain ⟨h1, h2⟩ := a0l (l := ss) (s := (H3 (.lst ns) (-1) (-1))) fun j hj => hne j (by omega)
   show _ = AV.tup [iV (stIx (H3 (.lst ns) (-1) (-1)) ss : Nat), .own 4 ((stAdd (H3 (.lst ns) (-1) (-1)) ss).map stA)]
   rw [h1, h2]
   simp only [List.length_map, List.drop_zero, List.take_length]
   rfl
  ·rw [b7p]
   have hwl : w ≠ lW := hgd.1
   refine Y2 rfl rfl rfl (fun _ => I2 rfl) (fun _ => rfl) ?_
   intro g2
   refine y_S rfl ?_
   (refine B1 rfl rfl (fun _ => rfl) ?_; intro g5)
   refine xN [1,2] [1,2] rfl <| A3 <| A0 <| y_F rfl <| y_L rfl <| H6 (fs := [_, iV (-1), iV (-1), .nil]) rfl rfl rfl rfl rfl <| y_A rfl (fun _ => rfl) ?_
   intro g6
   refine xB rfl rfl rfl rfl rfl rfl rfl rfl rfl <| xN [1,2,6] [1,2,6] rfl <| A3 <| A3 <| A0 <| y_F rfl <| y_L rfl <| a0t rfl rfl <| xN [1,2,6,16] [1,2,6] rfl ?_
   refine A5 rfl (fun hc => absurd hc (by simp_all)) (fun hc => ?_)
   refine A8 <| A3 <| A3 <| A0 <| y_S rfl <| xN [1,2,6,7] [1,2,6] rfl <| B7 <| E8 <| A3 <| A3 <| A0 <| y_M rfl <| y_F rfl <| y_L rfl <| D8 rfl rfl <| G6 rfl rfl <| xN [1,2,6,7,26] [1,2,6] rfl ?_
   refine A5 rfl (fun hc => absurd hc (by decide)) (fun hc => ?_)
   refine F7 <| A3 <| A3 <| A0 <| y_S rfl <| xN [1,6,10] [1,6] rfl <| B7 <| I4 (β := Nat) [(.t 1, _), (.t 6, _), (.h 1, _), (.h 6, _)] (fun (i : Nat) => [(.t 10, iV i)]) (fun (i : Nat) => i ≤ ss.length ∧ ∀ j, j < i → ss.getD j default ≠ (H3 (.col w) (-1) (-1))) (fun (i : Nat) => ss.length - i) 0 ⟨rfl, rfl, rfl, rfl, rfl, trivial⟩ ⟨Nat.zero_le _, fun j h => by omega⟩ ?_
   intro i hb
   obtain ⟨hi1, hne⟩ := hb
   refine A3 <| A3 <| A0 <| y_M rfl <| y_M rfl <| H7 rfl rfl <| G6 rfl rfl <| xN [1,6,10,49] [1,6] rfl ?_
   refine A5 rfl ?_ ?_ <;> intro hc <;> try simp only [SL] at hc
   ·refine A8 <| A3 <| B7 <| A3 <| A0 <| y_M rfl <| y_M rfl <| D4 rfl rfl rfl rfl (by (simp; omega)) (by (simp; done)) rfl <| y_F rfl <| H4 rfl rfl (by omega) (fun _ => rfl) rfl rfl <| y_F rfl <| y_L rfl <| a0t rfl rfl <| y_M rfl ?_
    refine B8 rfl rfl ?_ ?_ <;> intro hg0 <;> have hg := hg0 <;> try simp only [SG] at hg
    ·refine y_M rfl <| gT rfl rfl <| y_M rfl <| gT rfl rfl <| D4 rfl rfl rfl rfl (by (simp; omega)) (by (simp; done)) rfl <| gT rfl rfl <| y_F rfl <| gT rfl rfl <| H4 rfl rfl (by omega) (fun _ => rfl) rfl rfl <| gT rfl rfl <| y_F rfl <| gT rfl rfl <| y_L rfl <| gT rfl rfl <| U0 rfl rfl <| E5 rfl (by assumption) rfl rfl <| y_M rfl ?_
     refine B8 rfl rfl ?_ ?_ <;> intro hg0 <;> have hg := hg0 <;> try simp only [SG] at hg
     ·refine y_M rfl <| gT rfl rfl <| y_M rfl <| gT rfl rfl <| D4 rfl rfl rfl rfl (by (simp; omega)) (by (simp; done)) rfl <| gT rfl rfl <| y_F rfl <| gT rfl rfl <| H4 rfl rfl (by omega) (fun _ => rfl) rfl rfl <| gT rfl rfl <| y_F rfl <| gT rfl rfl <| y_L rfl <| gT rfl rfl <| U0 rfl rfl <| E5 rfl (by assumption) rfl rfl <| y_M rfl ?_
      refine B8 rfl rfl ?_ ?_ <;> intro hg0 <;> have hg := hg0 <;> try simp only [SG] at hg
      ·refine y_M rfl <| gT rfl rfl <| y_M rfl <| gT rfl rfl <| D4 rfl rfl rfl rfl (by (simp; omega)) (by (simp; done)) rfl <| gT rfl rfl <| y_F rfl <| gT rfl rfl <| H4 rfl rfl (by omega) (fun _ => rfl) rfl rfl <| gT rfl rfl <| y_F rfl <| gT rfl rfl <| y_L rfl <| gT rfl rfl ?_
       apply xC rfl
       ·apply B0
        ·exact B6 rfl
        apply B0
        ·exact a7b (dT rfl)
        exact C6
       ·exact a2z (ss.getD i default).ns [] (by have hsg := hss.2 _ (M6 (xs := ss) (i := i) (by omega)); have := N4 hsg.2; omega) (by decide)
       refine ⟨⟨rfl, rfl, rfl, dT rfl, rfl⟩, .inl rfl, B4, E6 rfl, fun _ => rfl, fun g88 => ?_⟩
       refine E5 rfl (by assumption) rfl rfl ?_
       refine G2 ⟨fun _ => ⟨by (simp only [M5, List.nil_append, List.append_nil, List.map_cons, List.map_nil, List.cons_append]; decide +kernel), by decide +kernel⟩, [(.t 1, _), (.t 6, _), (.t 10, _), (.t 89, _), (.h 1, _), (.h 6, _)], ⟨rfl, rfl, rfl, rfl, rfl, rfl, rfl, rfl, rfl, rfl, rfl, rfl, trivial⟩, ?_⟩
       refine A5 rfl ?_ ?_ <;> intro hc <;> try simp only [SL] at hc
       ·refine A3 <| A0 <| y_M rfl <| y_M rfl <| y_S rfl ?_
        (refine xO rfl rfl (by simp) rfl (fun _ => rfl) (fun _ => rfl) ?_; intro g5)
        refine xN [4,5] [5] rfl <| B2 <| B9 (C3 rfl rfl (E4 rfl rfl (by simp) (by exact A6 fun _ => rfl) (C9 B5))) ?_
        have hx : ss.getD i default = (H3 (.col w) (-1) (-1)) := b1j (by assumption) (by assumption) (by assumption) (by assumption)
        obtain ⟨h1, h2⟩ := a2b (by omega) hx hne
        show _ = AV.tup [iV (stIx (H3 (.col w) (-1) (-1)) ss : Nat), .own 4 ((stAdd (H3 (.col w) (-1) (-1)) ss).map stA)]
        rw [h1, h2]
        rfl
       refine A8 <| A0 <| y_M rfl <| G5 rfl rfl (F5 (by omega)) <| y_S rfl <| xN [1,6,10] [1,6] rfl ?_
       refine ⟨i + 1, ⟨by omega, fun j hj => by rcases Nat.lt_succ_iff_lt_or_eq.1 hj with h | h; (· exact hne j h); (· subst h; exact b1h (by assumption))⟩, (by omega), ⟨rfl, rfl, rfl, rfl, rfl, trivial⟩⟩
      iterate 7 refine gF rfl rfl ?_
      refine C8 rfl (by assumption) rfl rfl ?_
      refine G2 ⟨fun _ => ⟨by decide +kernel, by decide +kernel⟩, [(.t 1, _), (.t 6, _), (.t 10, _), (.t 89, _), (.h 1, _), (.h 6, _)], ⟨rfl, rfl, rfl, rfl, rfl, rfl, rfl, rfl, rfl, rfl, rfl, rfl, trivial⟩, ?_⟩
      refine A5 rfl (fun hc => absurd hc (by decide)) (fun hc => ?_)
      refine A8 <| A0 <| y_M rfl <| G5 rfl rfl (F5 (by omega)) <| y_S rfl <| xN [1,6,10] [1,6] rfl ?_
      refine ⟨i + 1, ⟨by omega, fun j hj => by rcases Nat.lt_succ_iff_lt_or_eq.1 hj with h | h; (· exact hne j h); (· subst h; exact b0z (by assumption))⟩, (by omega), ⟨rfl, rfl, rfl, rfl, rfl, trivial⟩⟩
     iterate 7 refine gF rfl rfl ?_
     refine C8 rfl (by assumption) rfl rfl <| y_M rfl ?_
     iterate 8 refine F4 rfl rfl rfl ?_
     refine C8 rfl rfl rfl rfl ?_
     refine G2 ⟨fun _ => ⟨by decide +kernel, by decide +kernel⟩, [(.t 1, _), (.t 6, _), (.t 10, _), (.t 89, _), (.h 1, _), (.h 6, _)], ⟨rfl, rfl, rfl, rfl, rfl, rfl, rfl, rfl, rfl, rfl, rfl, rfl, trivial⟩, ?_⟩
     refine A5 rfl (fun hc => absurd hc (by decide)) (fun hc => ?_)
     refine A8 <| A0 <| y_M rfl <| G5 rfl rfl (F5 (by omega)) <| y_S rfl <| xN [1,6,10] [1,6] rfl ?_
     refine ⟨i + 1, ⟨by omega, fun j hj => by rcases Nat.lt_succ_iff_lt_or_eq.1 hj with h | h; (· exact hne j h); (· subst h; exact b1g (by assumption))⟩, (by omega), ⟨rfl, rfl, rfl, rfl, rfl, trivial⟩⟩
    iterate 7 refine gF rfl rfl ?_
    refine C8 rfl (by assumption) rfl rfl <| y_M rfl ?_
    iterate 8 refine F4 rfl rfl rfl ?_
    refine C8 rfl rfl rfl rfl <| y_M rfl ?_
    iterate 8 refine F4 rfl rfl rfl ?_
    refine C8 rfl rfl rfl rfl ?_
    refine G2 ⟨fun _ => ⟨by decide +kernel, by decide +kernel⟩, [(.t 1, _), (.t 6, _), (.t 10, _), (.t 89, _), (.h 1, _), (.h 6, _)], ⟨rfl, rfl, rfl, rfl, rfl, rfl, rfl, rfl, rfl, rfl, rfl, rfl, trivial⟩, ?_⟩
    refine A5 rfl (fun hc => absurd hc (by decide)) (fun hc => ?_)
    refine A8 <| A0 <| y_M rfl <| G5 rfl rfl (F5 (by omega)) <| y_S rfl <| xN [1,6,10] [1,6] rfl ?_
    refine ⟨i + 1, ⟨by omega, fun j hj => by rcases Nat.lt_succ_iff_lt_or_eq.1 hj with h | h; (· exact hne j h); (· subst h; exact b1e (by assumption))⟩, (by omega), ⟨rfl, rfl, rfl, rfl, rfl, trivial⟩⟩
   refine F7 <| A3 <| A0 <| y_M rfl <| H7 rfl rfl <| G0 (es := List.map stA []) rfl rfl (dT rfl) rfl rfl (fun _ => B3 (A6 fun _ => rfl)) (fun _ => rfl) ?_
   intro g94
   refine y_M rfl <| Z9 rfl rfl rfl rfl (by decide) rfl (by (simp; done)) (by (simp; done)) rfl rfl rfl (dT rfl) (fun _ => ⟨rfl, rfl, rfl⟩) (by simp only [I8]; (simp only [List.length_nil, List.length_cons, List.length_append, Nat.zero_add, List.length_map]; omega)) (fun _ => rfl) ?_
   intro g96
   refine y_B rfl <| J7 (mk := 2) (fs := [_, _, _, _]) rfl rfl rfl (dT rfl) rfl rfl (Y9 rfl (Y9 rfl (Y9 rfl (b8x I9)))) (fun _ _ => A7 (B3 rfl) (G1 rfl)) ?_
   intro z98 g98
   simp only [I1, List.cons_append, List.nil_append]
   rw [c3q]
   refine U5 rfl rfl rfl rfl (by (simp; done)) (by simp) (by decide) rfl rfl rfl rfl (dT rfl) (fun _ => ⟨rfl, rfl⟩) (by simp only [I8]; (simp; omega)) (fun _ => rfl) ?_
   intro g99
   refine y_S rfl ?_
   (refine xO rfl rfl (by simp) rfl (fun _ => rfl) (fun _ => rfl) ?_; intro g5)
   refine G2 ⟨fun _ => ⟨by (simp only [M5, List.nil_append, List.append_nil, List.map_cons, List.map_nil, List.cons_append]; decide +kernel), by decide +kernel⟩, [(.t 4, _), (.t 5, _), (.h 5, _)], ⟨rfl, rfl, rfl, rfl, rfl, rfl, trivial⟩, ?_⟩
   refine B2 <| B9 (C3 rfl rfl (E4 rfl rfl (by simp) (by exact A6 fun _ => rfl) (C9 B5))) ?_
   obtain ⟨h1, h2⟩ := a0l (l := ss) (s := (H3 (.col w) (-1) (-1))) fun j hj => hne j (by omega)
   show _ = AV.tup [iV (stIx (H3 (.col w) (-1) (-1)) ss : Nat), .own 4 ((stAdd (H3 (.col w) (-1) (-1)) ss).map stA)]
   rw [h1, h2]
   simp only [List.length_map, List.drop_zero, List.take_length]
   rfl
  ·rw [c2r]
   have hwl : w ≠ lW := hgd.1
   have hs1 := K8 p ss
   have hsz1 : (Pl.un w p).sz = p.sz + 1 := rfl
   refine Y2 rfl rfl rfl (fun _ => I2 rfl) (fun _ => rfl) ?_
   intro g2
   refine y_S rfl ?_
   (refine B1 rfl rfl (fun _ => rfl) ?_; intro g5)
   refine xN [1,2] [1,2] rfl <| A3 <| A0 <| y_F rfl <| y_L rfl <| H6 (fs := [_, iV (-1), iV (-1), .nil]) rfl rfl rfl rfl rfl <| y_A rfl (fun _ => rfl) ?_
   intro g6
   refine xB rfl rfl rfl rfl rfl rfl rfl rfl rfl <| xN [1,2,6] [1,2,6] rfl <| A3 <| A3 <| A0 <| y_F rfl <| y_L rfl <| a0t rfl rfl <| xN [1,2,6,16] [1,2,6] rfl ?_
   refine A5 rfl (fun hc => absurd hc (by simp_all)) (fun hc => ?_)
   refine A8 <| A3 <| A3 <| A0 <| y_S rfl <| xN [1,2,6,7] [1,2,6] rfl <| B7 <| E8 <| A3 <| A3 <| A0 <| y_M rfl <| y_F rfl <| y_L rfl <| D8 rfl rfl <| G6 rfl rfl <| xN [1,2,6,7,26] [1,2,6] rfl ?_
   refine A5 rfl (fun hc => ?_) (fun hc => absurd hc (by exact fun h => Bool.noConfusion (show true = false from h)))
   refine A8 <| A3 <| B7 <| A3 <| A0 <| y_F rfl <| y_L rfl <| y_M rfl <| K9 rfl rfl rfl (fun _ => rfl) (by show (0 : Int) ≤ 0 ∧ (0 : Int) < ((1 : Nat) : Int); omega) <| y_I rfl <| y_M rfl ?_
   apply xC rfl
   ·apply B0
    ·exact B6 rfl
    apply B0
    ·exact X1 rfl rfl (by (simp; done)) (A6 fun _ => rfl)
    exact C6
   ·exact (by have hi := ih p ss ⟨by omega, hss.2⟩ hgd.2.2 (by omega); rw [← a4k] at hi; exact hi)
   refine ⟨⟨rfl, rfl, rfl, dT rfl, rfl⟩, .inl rfl, B4, G4 (H2 rfl (K2 fun _ => K7)), fun _ => A7 (by rfl) (A7 (B3 (A6 fun _ => rfl)) (by rfl)), fun g36 => ?_⟩
   simp only [List.length_map]
   refine y_M rfl <| y_E rfl <| y_E rfl <| y_S rfl ?_
   (refine xO rfl rfl (by simp) rfl (fun _ => rfl) (fun _ => rfl) ?_; intro g9)
   refine xN [2,6,7,8,9] [2,6,9] rfl <| A3 <| A0 <| y_M rfl ?_
   (refine xO rfl rfl (by simp) rfl (fun _ => rfl) (fun _ => rfl) ?_; intro g1)
   refine xN [1,2,6,7,8] [1,2,6] rfl <| A3 <| A0 <| y_M rfl <| U0 rfl rfl <| xN [1,2,6,7,8,41] [1,2,6] rfl ?_
   refine A5 rfl (fun hc => ?_) (fun hc => absurd hc (by decide))
   refine A0 <| y_M rfl <| y_F rfl <| T1 rfl rfl rfl rfl rfl ⟨by decide, rfl, dT rfl, dT rfl, rfl⟩ (by exact I2 rfl) <| xN [1,2,6,7] [1,2,6] rfl <| A0 <| y_M rfl <| G5 rfl rfl (F5 (by omega)) <| y_S rfl <| xN [1,2,6,7] [1,2,6] rfl <| E8 <| A3 <| A3 <| A0 <| y_M rfl <| y_F rfl <| y_L rfl <| D8 rfl rfl <| G6 rfl rfl <| xN [1,2,6,7,26] [1,2,6] rfl ?_
   refine A5 rfl (fun hc => absurd hc (by exact fun h => Bool.noConfusion (show false = true from h))) (fun hc => ?_)
   refine F7 <| A3 <| A3 <| A0 <| y_S rfl <| xN [1,6,10] [1,6] rfl <| B7 <| I4 (β := Nat) [(.t 1, _), (.t 6, _), (.h 1, _), (.h 6, _)] (fun (i : Nat) => [(.t 10, iV i)]) (fun (i : Nat) => i ≤ (shareP p ss).1.length ∧ ∀ j, j < i → (shareP p ss).1.getD j default ≠ (H3 (.un w p) ((shareP p ss).2 : Int) (-1))) (fun (i : Nat) => (shareP p ss).1.length - i) 0 ⟨rfl, rfl, rfl, rfl, rfl, trivial⟩ ⟨Nat.zero_le _, fun j h => by omega⟩ ?_
   intro i hb
   obtain ⟨hi1, hne⟩ := hb
   refine A3 <| A3 <| A0 <| y_M rfl <| y_M rfl <| H7 rfl rfl <| G6 rfl rfl <| xN [1,6,10,49] [1,6] rfl ?_
   refine A5 rfl ?_ ?_ <;> intro hc <;> try simp only [SL] at hc
   ·refine A8 <| A3 <| B7 <| A3 <| A0 <| y_M rfl <| y_M rfl <| D4 rfl rfl rfl rfl (by omega) (by (simp; done)) rfl <| y_F rfl <| H4 rfl rfl (by omega) (fun _ => rfl) rfl rfl <| y_F rfl <| y_L rfl <| a0t rfl rfl <| y_M rfl ?_
    refine B8 rfl rfl ?_ ?_ <;> intro hg0 <;> have hg := hg0 <;> try simp only [SG] at hg
    ·refine y_M rfl <| gT rfl rfl <| y_M rfl <| gT rfl rfl <| D4 rfl rfl rfl rfl (by omega) (by (simp; done)) rfl <| gT rfl rfl <| y_F rfl <| gT rfl rfl <| H4 rfl rfl (by omega) (fun _ => rfl) rfl rfl <| gT rfl rfl <| y_F rfl <| gT rfl rfl <| y_L rfl <| gT rfl rfl <| U0 rfl rfl <| E5 rfl (by assumption) rfl rfl <| y_M rfl ?_
     refine B8 rfl rfl ?_ ?_ <;> intro hg0 <;> have hg := hg0 <;> try simp only [SG] at hg
     ·refine y_M rfl <| gT rfl rfl <| y_M rfl <| gT rfl rfl <| D4 rfl rfl rfl rfl (by omega) (by (simp; done)) rfl <| gT rfl rfl <| y_F rfl <| gT rfl rfl <| H4 rfl rfl (by omega) (fun _ => rfl) rfl rfl <| gT rfl rfl <| y_F rfl <| gT rfl rfl <| y_L rfl <| gT rfl rfl <| U0 rfl rfl <| E5 rfl (by assumption) rfl rfl <| y_M rfl ?_
      refine B8 rfl rfl ?_ ?_ <;> intro hg0 <;> have hg := hg0 <;> try simp only [SG] at hg
      ·refine y_M rfl <| gT rfl rfl <| y_M rfl <| gT rfl rfl <| D4 rfl rfl rfl rfl (by omega) (by (simp; done)) rfl <| gT rfl rfl <| y_F rfl <| gT rfl rfl <| H4 rfl rfl (by omega) (fun _ => rfl) rfl rfl <| gT rfl rfl <| y_F rfl <| gT rfl rfl <| y_L rfl <| gT rfl rfl ?_
       apply xC rfl
       ·apply B0
        ·exact B6 rfl
        apply B0
        ·exact a7b (dT rfl)
        exact C6
       ·exact a2z ((shareP p ss).1.getD i default).ns [] (by have hsg := (N8 p _ hgd.2.2 hss.2) _ (M6 (xs := (shareP p ss).1) (i := i) (by omega)); have := N4 hsg.2; omega) (by decide)
       refine ⟨⟨rfl, rfl, rfl, dT rfl, rfl⟩, .inl rfl, B4, E6 rfl, fun _ => rfl, fun g88 => ?_⟩
       refine E5 rfl (by assumption) rfl rfl ?_
       refine G2 ⟨fun _ => ⟨by (simp only [M5, List.nil_append, List.append_nil, List.map_cons, List.map_nil, List.cons_append]; decide +kernel), by decide +kernel⟩, [(.t 1, _), (.t 6, _), (.t 10, _), (.t 89, _), (.h 1, _), (.h 6, _)], ⟨rfl, rfl, rfl, rfl, rfl, rfl, rfl, rfl, rfl, rfl, rfl, rfl, trivial⟩, ?_⟩
       refine A5 rfl ?_ ?_ <;> intro hc <;> try simp only [SL] at hc
       ·refine A3 <| A0 <| y_M rfl <| y_M rfl <| y_S rfl ?_
        (refine xO rfl rfl (by simp) rfl (fun _ => rfl) (fun _ => rfl) ?_; intro g5)
        refine xN [4,5] [5] rfl <| B2 <| B9 (C3 rfl rfl (E4 rfl rfl (by simp) (by exact A6 fun _ => rfl) (C9 B5))) ?_
        have hx : (shareP p ss).1.getD i default = (H3 (.un w p) ((shareP p ss).2 : Int) (-1)) := b1j (by assumption) (by assumption) (by assumption) (by assumption)
        obtain ⟨h1, h2⟩ := a2b (by omega) hx hne
        show _ = AV.tup [iV (stIx (H3 (.un w p) ((shareP p ss).2 : Int) (-1)) (shareP p ss).1 : Nat), .own 4 ((stAdd (H3 (.un w p) ((shareP p ss).2 : Int) (-1)) (shareP p ss).1).map stA)]
        rw [h1, h2]
        rfl
       refine A8 <| A0 <| y_M rfl <| G5 rfl rfl (F5 (by omega)) <| y_S rfl <| xN [1,6,10] [1,6] rfl ?_
       refine ⟨i + 1, ⟨by omega, fun j hj => by rcases Nat.lt_succ_iff_lt_or_eq.1 hj with h | h; (· exact hne j h); (· subst h; exact b1h (by assumption))⟩, (by omega), ⟨rfl, rfl, rfl, rfl, rfl, trivial⟩⟩
      iterate 7 refine gF rfl rfl ?_
      refine C8 rfl (by assumption) rfl rfl ?_
      refine G2 ⟨fun _ => ⟨by decide +kernel, by decide +kernel⟩, [(.t 1, _), (.t 6, _), (.t 10, _), (.t 89, _), (.h 1, _), (.h 6, _)], ⟨rfl, rfl, rfl, rfl, rfl, rfl, rfl, rfl, rfl, rfl, rfl, rfl, trivial⟩, ?_⟩
      refine A5 rfl (fun hc => absurd hc (by decide)) (fun hc => ?_)
      refine A8 <| A0 <| y_M rfl <| G5 rfl rfl (F5 (by omega)) <| y_S rfl <| xN [1,6,10] [1,6] rfl ?_
      refine ⟨i + 1, ⟨by omega, fun j hj => by rcases Nat.lt_succ_iff_lt_or_eq.1 hj with h | h; (· exact hne j h); (· subst h; exact b0z (by assumption))⟩, (by omega), ⟨rfl, rfl, rfl, rfl, rfl, trivial⟩⟩
     iterate 7 refine gF rfl rfl ?_
     refine C8 rfl (by assumption) rfl rfl <| y_M rfl ?_
     iterate 8 refine F4 rfl rfl rfl ?_
     refine C8 rfl rfl rfl rfl ?_
     refine G2 ⟨fun _ => ⟨by decide +kernel, by decide +kernel⟩, [(.t 1, _), (.t 6, _), (.t 10, _), (.t 89, _), (.h 1, _), (.h 6, _)], ⟨rfl, rfl, rfl, rfl, rfl, rfl, rfl, rfl, rfl, rfl, rfl, rfl, trivial⟩, ?_⟩
     refine A5 rfl (fun hc => absurd hc (by decide)) (fun hc => ?_)
     refine A8 <| A0 <| y_M rfl <| G5 rfl rfl (F5 (by omega)) <| y_S rfl <| xN [1,6,10] [1,6] rfl ?_
     refine ⟨i + 1, ⟨by omega, fun j hj => by rcases Nat.lt_succ_iff_lt_or_eq.1 hj with h | h; (· exact hne j h); (· subst h; exact b1g (by assumption))⟩, (by omega), ⟨rfl, rfl, rfl, rfl, rfl, trivial⟩⟩
    iterate 7 refine gF rfl rfl ?_
    refine C8 rfl (by assumption) rfl rfl <| y_M rfl ?_
    iterate 8 refine F4 rfl rfl rfl ?_
    refine C8 rfl rfl rfl rfl <| y_M rfl ?_
    iterate 8 refine F4 rfl rfl rfl ?_
    refine C8 rfl rfl rfl rfl ?_
    refine G2 ⟨fun _ => ⟨by decide +kernel, by decide +kernel⟩, [(.t 1, _), (.t 6, _), (.t 10, _), (.t 89, _), (.h 1, _), (.h 6, _)], ⟨rfl, rfl, rfl, rfl, rfl, rfl, rfl, rfl, rfl, rfl, rfl, rfl, trivial⟩, ?_⟩
    refine A5 rfl (fun hc => absurd hc (by decide)) (fun hc => ?_)
    refine A8 <| A0 <| y_M rfl <| G5 rfl rfl (F5 (by omega)) <| y_S rfl <| xN [1,6,10] [1,6] rfl ?_
    refine ⟨i + 1, ⟨by omega, fun j hj => by rcases Nat.lt_succ_iff_lt_or_eq.1 hj with h | h; (· exact hne j h); (· subst h; exact b1e (by assumption))⟩, (by omega), ⟨rfl, rfl, rfl, rfl, rfl, trivial⟩⟩
   refine F7 <| A3 <| A0 <| y_M rfl <| H7 rfl rfl <| G0 (es := List.map stA []) rfl rfl (dT rfl) rfl rfl (fun _ => B3 (A6 fun _ => rfl)) (fun _ => rfl) ?_
   intro g94
   refine y_M rfl <| Z9 rfl rfl rfl rfl (by decide) rfl (by (simp; done)) (by omega) rfl rfl rfl (dT rfl) (fun _ => ⟨rfl, rfl, rfl⟩) (by simp only [I8]; (simp only [List.length_nil, List.length_cons, List.length_append, Nat.zero_add, List.length_map]; omega)) (fun _ => rfl) ?_
   intro g96
   refine y_B rfl <| J7 (mk := 2) (fs := [_, _, _, _]) rfl rfl rfl (dT rfl) rfl rfl (Y9 rfl (Y9 rfl (Y9 rfl (b8x I9)))) (fun _ _ => A7 (B3 rfl) (G1 rfl)) ?_
   intro z98 g98
   simp only [I1, List.cons_append, List.nil_append]
   rw [c3q]
   refine U5 rfl rfl rfl rfl (by (simp; done)) (by simp) (by decide) rfl rfl rfl rfl (dT rfl) (fun _ => ⟨rfl, rfl⟩) (by simp only [I8]; (simp; omega)) (fun _ => rfl) ?_
   intro g99
   refine y_S rfl ?_
   (refine xO rfl rfl (by simp) rfl (fun _ => rfl) (fun _ => rfl) ?_; intro g5)
   refine G2 ⟨fun _ => ⟨by (simp only [M5, List.nil_append, List.append_nil, List.map_cons, List.map_nil, List.cons_append]; decide +kernel), by decide +kernel⟩, [(.t 4, _), (.t 5, _), (.h 5, _)], ⟨rfl, rfl, rfl, rfl, rfl, rfl, trivial⟩, ?_⟩
   refine B2 <| B9 (C3 rfl rfl (E4 rfl rfl (by simp) (by exact A6 fun _ => rfl) (C9 B5))) ?_
   obtain ⟨h1, h2⟩ := a0l (l := (shareP p ss).1) (s := (H3 (.un w p) ((shareP p ss).2 : Int) (-1))) fun j hj => hne j (by omega)
   show _ = AV.tup [iV (stIx (H3 (.un w p) ((shareP p ss).2 : Int) (-1)) (shareP p ss).1 : Nat), .own 4 ((stAdd (H3 (.un w p) ((shareP p ss).2 : Int) (-1)) (shareP p ss).1).map stA)]
   rw [h1, h2]
   simp only [List.length_map, List.drop_zero, List.take_length]
   rfl
  rw [b6t]
  have hwl : w ≠ lW := hgd.1
  have hs1 := K8 p ss
  have hs2 := K8 q (shareP p ss).1
  have hsz1 : (Pl.bin w p q).sz = p.sz + q.sz + 1 := rfl
  refine Y2 rfl rfl rfl (fun _ => I2 rfl) (fun _ => rfl) ?_
  intro g2
  refine y_S rfl ?_
  (refine B1 rfl rfl (fun _ => rfl) ?_; intro g5)
  refine xN [1,2] [1,2] rfl <| A3 <| A0 <| y_F rfl <| y_L rfl <| H6 (fs := [_, iV (-1), iV (-1), .nil]) rfl rfl rfl rfl rfl <| y_A rfl (fun _ => rfl) ?_
  intro g6
  refine xB rfl rfl rfl rfl rfl rfl rfl rfl rfl <| xN [1,2,6] [1,2,6] rfl <| A3 <| A3 <| A0 <| y_F rfl <| y_L rfl <| a0t rfl rfl <| xN [1,2,6,16] [1,2,6] rfl ?_
  refine A5 rfl (fun hc => absurd hc (by simp_all)) (fun hc => ?_)
  refine A8 <| A3 <| A3 <| A0 <| y_S rfl <| xN [1,2,6,7] [1,2,6] rfl <| B7 <| E8 <| A3 <| A3 <| A0 <| y_M rfl <| y_F rfl <| y_L rfl <| D8 rfl rfl <| G6 rfl rfl <| xN [1,2,6,7,26] [1,2,6] rfl ?_
  refine A5 rfl (fun hc => ?_) (fun hc => absurd hc (by exact fun h => Bool.noConfusion (show true = false from h)))
  refine A8 <| A3 <| B7 <| A3 <| A0 <| y_F rfl <| y_L rfl <| y_M rfl <| K9 rfl rfl rfl (fun _ => rfl) (by show (0 : Int) ≤ 0 ∧ (0 : Int) < ((2 : Nat) : Int); omega) <| y_I rfl <| y_M rfl ?_
  apply xC rfl
  ·apply B0
   ·exact B6 rfl
   apply B0
   ·exact X1 rfl rfl (by (simp; done)) (A6 fun _ => rfl)
   exact C6
  ·exact (by have hi := ih p ss ⟨by omega, hss.2⟩ hgd.2.2.1 (by omega); rw [← a4k] at hi; exact hi)
  refine ⟨⟨rfl, rfl, rfl, dT rfl, rfl⟩, .inl rfl, B4, G4 (H2 rfl (K2 fun _ => K7)), fun _ => A7 (by rfl) (A7 (B3 (A6 fun _ => rfl)) (by rfl)), fun g36 => ?_⟩
  simp only [List.length_map]
  refine y_M rfl <| y_E rfl <| y_E rfl <| y_S rfl ?_
  (refine xO rfl rfl (by simp) rfl (fun _ => rfl) (fun _ => rfl) ?_; intro g9)
  refine xN [2,6,7,8,9] [2,6,9] rfl <| A3 <| A0 <| y_M rfl ?_
  (refine xO rfl rfl (by simp) rfl (fun _ => rfl) (fun _ => rfl) ?_; intro g1)
  refine xN [1,2,6,7,8] [1,2,6] rfl <| A3 <| A0 <| y_M rfl <| U0 rfl rfl <| xN [1,2,6,7,8,41] [1,2,6] rfl ?_
  refine A5 rfl (fun hc => ?_) (fun hc => absurd hc (by decide))
  refine A0 <| y_M rfl <| y_F rfl <| T1 rfl rfl rfl rfl rfl ⟨by decide, rfl, dT rfl, dT rfl, rfl⟩ (by exact I2 rfl) <| xN [1,2,6,7] [1,2,6] rfl <| A0 <| y_M rfl <| G5 rfl rfl (F5 (by omega)) <| y_S rfl <| xN [1,2,6,7] [1,2,6] rfl <| E8 <| A3 <| A3 <| A0 <| y_M rfl <| y_F rfl <| y_L rfl <| D8 rfl rfl <| G6 rfl rfl <| xN [1,2,6,7,26] [1,2,6] rfl ?_
  refine A5 rfl (fun hc => ?_) (fun hc => absurd hc (by exact fun h => Bool.noConfusion (show true = false from h)))
  refine A8 <| A3 <| B7 <| A3 <| A0 <| y_F rfl <| y_L rfl <| y_M rfl <| K9 rfl rfl rfl (fun _ => rfl) (by show (0 : Int) ≤ 1 ∧ (1 : Int) < ((2 : Nat) : Int); omega) <| y_I rfl <| y_M rfl ?_
  apply xC rfl
  ·apply B0
   ·exact B6 rfl
   apply B0
   ·exact X1 rfl rfl (by (simp; done)) (A6 fun _ => rfl)
   exact C6
  ·exact (by have hi := ih q (shareP p ss).1 ⟨by omega, (N8 p _ hgd.2.2.1 hss.2)⟩ hgd.2.2.2 (by omega); rw [← a4k] at hi; exact hi)
  refine ⟨⟨rfl, rfl, rfl, dT rfl, rfl⟩, .inl rfl, B4, G4 (H2 rfl (K2 fun _ => K7)), fun _ => A7 (by rfl) (A7 (B3 (A6 fun _ => rfl)) (by rfl)), fun g36 => ?_⟩
  simp only [List.length_map]
  refine y_M rfl <| y_E rfl <| y_E rfl <| y_S rfl ?_
  (refine xO rfl rfl (by simp) rfl (fun _ => rfl) (fun _ => rfl) ?_; intro g9)
  refine xN [2,6,7,8,9] [2,6,9] rfl <| A3 <| A0 <| y_M rfl ?_
  (refine xO rfl rfl (by simp) rfl (fun _ => rfl) (fun _ => rfl) ?_; intro g1)
  refine xN [1,2,6,7,8] [1,2,6] rfl <| A3 <| A0 <| y_M rfl <| U0 rfl rfl <| xN [1,2,6,7,8,41] [1,2,6] rfl ?_
  refine A5 rfl (fun hc => absurd hc (by decide)) (fun hc => ?_)
  refine A0 <| y_M rfl <| y_F rfl <| T1 rfl rfl rfl rfl rfl ⟨by decide, rfl, dT rfl, dT rfl, rfl⟩ (by exact I2 rfl) <| xN [1,2,6,7] [1,2,6] rfl <| A0 <| y_M rfl <| G5 rfl rfl (F5 (by omega)) <| y_S rfl <| xN [1,2,6,7] [1,2,6] rfl <| E8 <| A3 <| A3 <| A0 <| y_M rfl <| y_F rfl <| y_L rfl <| D8 rfl rfl <| G6 rfl rfl <| xN [1,2,6,7,26] [1,2,6] rfl ?_
  refine A5 rfl (fun hc => absurd hc (by exact fun h => Bool.noConfusion (show false = true from h))) (fun hc => ?_)
  refine F7 <| A3 <| A3 <| A0 <| y_S rfl <| xN [1,6,10] [1,6] rfl <| B7 <| I4 (β := Nat) [(.t 1, _), (.t 6, _), (.h 1, _), (.h 6, _)] (fun (i : Nat) => [(.t 10, iV i)]) (fun (i : Nat) => i ≤ (shareP q (shareP p ss).1).1.length ∧ ∀ j, j < i → (shareP q (shareP p ss).1).1.getD j default ≠ (H3 (.bin w p q) ((shareP p ss).2 : Int) ((shareP q (shareP p ss).1).2 : Int))) (fun (i : Nat) => (shareP q (shareP p ss).1).1.length - i) 0 ⟨rfl, rfl, rfl, rfl, rfl, trivial⟩ ⟨Nat.zero_le _, fun j h => by omega⟩ ?_
  intro i hb
  obtain ⟨hi1, hne⟩ := hb
  refine A3 <| A3 <| A0 <| y_M rfl <| y_M rfl <| H7 rfl rfl <| G6 rfl rfl <| xN [1,6,10,49] [1,6] rfl ?_
  refine A5 rfl ?_ ?_ <;> intro hc <;> try simp only [SL] at hc
  ·refine A8 <| A3 <| B7 <| A3 <| A0 <| y_M rfl <| y_M rfl <| D4 rfl rfl rfl rfl (by omega) (by (simp; done)) rfl <| y_F rfl <| H4 rfl rfl (by omega) (fun _ => rfl) rfl rfl <| y_F rfl <| y_L rfl <| a0t rfl rfl <| y_M rfl ?_
   refine B8 rfl rfl ?_ ?_ <;> intro hg0 <;> have hg := hg0 <;> try simp only [SG] at hg
   ·refine y_M rfl <| gT rfl rfl <| y_M rfl <| gT rfl rfl <| D4 rfl rfl rfl rfl (by omega) (by (simp; done)) rfl <| gT rfl rfl <| y_F rfl <| gT rfl rfl <| H4 rfl rfl (by omega) (fun _ => rfl) rfl rfl <| gT rfl rfl <| y_F rfl <| gT rfl rfl <| y_L rfl <| gT rfl rfl <| U0 rfl rfl <| E5 rfl (by assumption) rfl rfl <| y_M rfl ?_
    refine B8 rfl rfl ?_ ?_ <;> intro hg0 <;> have hg := hg0 <;> try simp only [SG] at hg
    ·refine y_M rfl <| gT rfl rfl <| y_M rfl <| gT rfl rfl <| D4 rfl rfl rfl rfl (by omega) (by (simp; done)) rfl <| gT rfl rfl <| y_F rfl <| gT rfl rfl <| H4 rfl rfl (by omega) (fun _ => rfl) rfl rfl <| gT rfl rfl <| y_F rfl <| gT rfl rfl <| y_L rfl <| gT rfl rfl <| U0 rfl rfl <| E5 rfl (by assumption) rfl rfl <| y_M rfl ?_
     refine B8 rfl rfl ?_ ?_ <;> intro hg0 <;> have hg := hg0 <;> try simp only [SG] at hg
     ·refine y_M rfl <| gT rfl rfl <| y_M rfl <| gT rfl rfl <| D4 rfl rfl rfl rfl (by omega) (by (simp; done)) rfl <| gT rfl rfl <| y_F rfl <| gT rfl rfl <| H4 rfl rfl (by omega) (fun _ => rfl) rfl rfl <| gT rfl rfl <| y_F rfl <| gT rfl rfl <| y_L rfl <| gT rfl rfl ?_
      apply xC rfl
      ·apply B0
       ·exact B6 rfl
       apply B0
       ·exact a7b (dT rfl)
       exact C6
      ·exact a2z ((shareP q (shareP p ss).1).1.getD i default).ns [] (by have hsg := (N8 q _ hgd.2.2.2 (N8 p _ hgd.2.2.1 hss.2)) _ (M6 (xs := (shareP q (shareP p ss).1).1) (i := i) (by omega)); have := N4 hsg.2; omega) (by decide)
      refine ⟨⟨rfl, rfl, rfl, dT rfl, rfl⟩, .inl rfl, B4, E6 rfl, fun _ => rfl, fun g88 => ?_⟩
      refine E5 rfl (by assumption) rfl rfl ?_
      refine G2 ⟨fun _ => ⟨by (simp only [M5, List.nil_append, List.append_nil, List.map_cons, List.map_nil, List.cons_append]; decide +kernel), by decide +kernel⟩, [(.t 1, _), (.t 6, _), (.t 10, _), (.t 89, _), (.h 1, _), (.h 6, _)], ⟨rfl, rfl, rfl, rfl, rfl, rfl, rfl, rfl, rfl, rfl, rfl, rfl, trivial⟩, ?_⟩
      refine A5 rfl ?_ ?_ <;> intro hc <;> try simp only [SL] at hc
      ·refine A3 <| A0 <| y_M rfl <| y_M rfl <| y_S rfl ?_
       (refine xO rfl rfl (by simp) rfl (fun _ => rfl) (fun _ => rfl) ?_; intro g5)
       refine xN [4,5] [5] rfl <| B2 <| B9 (C3 rfl rfl (E4 rfl rfl (by simp) (by exact A6 fun _ => rfl) (C9 B5))) ?_
       have hx : (shareP q (shareP p ss).1).1.getD i default = (H3 (.bin w p q) ((shareP p ss).2 : Int) ((shareP q (shareP p ss).1).2 : Int)) := b1j (by assumption) (by assumption) (by assumption) (by assumption)
       obtain ⟨h1, h2⟩ := a2b (by omega) hx hne
       show _ = AV.tup [iV (stIx (H3 (.bin w p q) ((shareP p ss).2 : Int) ((shareP q (shareP p ss).1).2 : Int)) (shareP q (shareP p ss).1).1 : Nat), .own 4 ((stAdd (H3 (.bin w p q) ((shareP p ss).2 : Int) ((shareP q (shareP p ss).1).2 : Int)) (shareP q (shareP p ss).1).1).map stA)]
       rw [h1, h2]
       rfl
      refine A8 <| A0 <| y_M rfl <| G5 rfl rfl (F5 (by omega)) <| y_S rfl <| xN [1,6,10] [1,6] rfl ?_
      refine ⟨i + 1, ⟨by omega, fun j hj => by rcases Nat.lt_succ_iff_lt_or_eq.1 hj with h | h; (· exact hne j h); (· subst h; exact b1h (by assumption))⟩, (by omega), ⟨rfl, rfl, rfl, rfl, rfl, trivial⟩⟩
     iterate 7 refine gF rfl rfl ?_
     refine C8 rfl (by assumption) rfl rfl ?_
     refine G2 ⟨fun _ => ⟨by decide +kernel, by decide +kernel⟩, [(.t 1, _), (.t 6, _), (.t 10, _), (.t 89, _), (.h 1, _), (.h 6, _)], ⟨rfl, rfl, rfl, rfl, rfl, rfl, rfl, rfl, rfl, rfl, rfl, rfl, trivial⟩, ?_⟩
     refine A5 rfl (fun hc => absurd hc (by decide)) (fun hc => ?_)
     refine A8 <| A0 <| y_M rfl <| G5 rfl rfl (F5 (by omega)) <| y_S rfl <| xN [1,6,10] [1,6] rfl ?_
     refine ⟨i + 1, ⟨by omega, fun j hj => by rcases Nat.lt_succ_iff_lt_or_eq.1 hj with h | h; (· exact hne j h); (· subst h; exact b0z (by assumption))⟩, (by omega), ⟨rfl, rfl, rfl, rfl, rfl, trivial⟩⟩
    iterate 7 refine gF rfl rfl ?_
    refine C8 rfl (by assumption) rfl rfl <| y_M rfl ?_
    iterate 8 refine F4 rfl rfl rfl ?_
    refine C8 rfl rfl rfl rfl ?_
    refine G2 ⟨fun _ => ⟨by decide +kernel, by decide +kernel⟩, [(.t 1, _), (.t 6, _), (.t 10, _), (.t 89, _), (.h 1, _), (.h 6, _)], ⟨rfl, rfl, rfl, rfl, rfl, rfl, rfl, rfl, rfl, rfl, rfl, rfl, trivial⟩, ?_⟩
    refine A5 rfl (fun hc => absurd hc (by decide)) (fun hc => ?_)
    refine A8 <| A0 <| y_M rfl <| G5 rfl rfl (F5 (by omega)) <| y_S rfl <| xN [1,6,10] [1,6] rfl ?_
    refine ⟨i + 1, ⟨by omega, fun j hj => by rcases Nat.lt_succ_iff_lt_or_eq.1 hj with h | h; (· exact hne j h); (· subst h; exact b1g (by assumption))⟩, (by omega), ⟨rfl, rfl, rfl, rfl, rfl, trivial⟩⟩
   iterate 7 refine gF rfl rfl ?_
   refine C8 rfl (by assumption) rfl rfl <| y_M rfl ?_
   iterate 8 refine F4 rfl rfl rfl ?_
   refine C8 rfl rfl rfl rfl <| y_M rfl ?_
   iterate 8 refine F4 rfl rfl rfl ?_
   refine C8 rfl rfl rfl rfl ?_
   refine G2 ⟨fun _ => ⟨by decide +kernel, by decide +kernel⟩, [(.t 1, _), (.t 6, _), (.t 10, _), (.t 89, _), (.h 1, _), (.h 6, _)], ⟨rfl, rfl, rfl, rfl, rfl, rfl, rfl, rfl, rfl, rfl, rfl, rfl, trivial⟩, ?_⟩
   refine A5 rfl (fun hc => absurd hc (by decide)) (fun hc => ?_)
   refine A8 <| A0 <| y_M rfl <| G5 rfl rfl (F5 (by omega)) <| y_S rfl <| xN [1,6,10] [1,6] rfl ?_
   refine ⟨i + 1, ⟨by omega, fun j hj => by rcases Nat.lt_succ_iff_lt_or_eq.1 hj with h | h; (· exact hne j h); (· subst h; exact b1e (by assumption))⟩, (by omega), ⟨rfl, rfl, rfl, rfl, rfl, trivial⟩⟩
  refine F7 <| A3 <| A0 <| y_M rfl <| H7 rfl rfl <| G0 (es := List.map stA []) rfl rfl (dT rfl) rfl rfl (fun _ => B3 (A6 fun _ => rfl)) (fun _ => rfl) ?_
  intro g94
  refine y_M rfl <| Z9 rfl rfl rfl rfl (by decide) rfl (by (simp; done)) (by omega) rfl rfl rfl (dT rfl) (fun _ => ⟨rfl, rfl, rfl⟩) (by simp only [I8]; (simp only [List.length_nil, List.length_cons, List.length_append, Nat.zero_add, List.length_map]; omega)) (fun _ => rfl) ?_
  intro g96
  refine y_B rfl <| J7 (mk := 2) (fs := [_, _, _, _]) rfl rfl rfl (dT rfl) rfl rfl (Y9 rfl (Y9 rfl (Y9 rfl (b8x I9)))) (fun _ _ => A7 (B3 rfl) (G1 rfl)) ?_
  intro z98 g98
  simp only [I1, List.cons_append, List.nil_append]
  rw [c3q]
  refine U5 rfl rfl rfl rfl (by (simp; done)) (by simp) (by decide) rfl rfl rfl rfl (dT rfl) (fun _ => ⟨rfl, rfl⟩) (by simp only [I8]; (simp; omega)) (fun _ => rfl) ?_
  intro g99
  refine y_S rfl ?_
  (refine xO rfl rfl (by simp) rfl (fun _ => rfl) (fun _ => rfl) ?_; intro g5)
  refine G2 ⟨fun _ => ⟨by (simp only [M5, List.nil_append, List.append_nil, List.map_cons, List.map_nil, List.cons_append]; decide +kernel), by decide +kernel⟩, [(.t 4, _), (.t 5, _), (.h 5, _)], ⟨rfl, rfl, rfl, rfl, rfl, rfl, trivial⟩, ?_⟩
  refine B2 <| B9 (C3 rfl rfl (E4 rfl rfl (by simp) (by exact A6 fun _ => rfl) (C9 B5))) ?_
  obtain ⟨h1, h2⟩ := a0l (l := (shareP q (shareP p ss).1).1) (s := (H3 (.bin w p q) ((shareP p ss).2 : Int) ((shareP q (shareP p ss).1).2 : Int))) fun j hj => hne j (by omega)
  show _ = AV.tup [iV (stIx (H3 (.bin w p q) ((shareP p ss).2 : Int) ((shareP q (shareP p ss).1).2 : Int)) (shareP q (shareP p ss).1).1 : Nat), .own 4 ((stAdd (H3 (.bin w p q) ((shareP p ss).2 : Int) ((shareP q (shareP p ss).1).2 : Int)) (shareP q (shareP p ss).1).1).map stA)]
  rw [h1, h2]
  simp only [List.length_map, List.drop_zero, List.take_length]
  rfl

theorem a6x : F6 Tryz.f4 = [0, 2, 4, 13, 3, 6, 9] := by kernel_rfl
theorem b6x (s : List UInt8) (hs : s.length ≤ 1048576) : CW cxT 4 [tV s] = some (.own 4 ((sharesT s).map stA), []) := by
 refine E7 rfl Tryz.func4 rfl ⟨by kernel_rfl, rfl, dT rfl, dT rfl, by decide⟩ a6x <| A3 <| A0 ?_
 (refine B1 rfl rfl (fun _ => rfl) ?_; intro g2)
 refine xN [0] [] rfl <| A3 <| A0 <| y_M rfl ?_
 apply xC rfl
 ·apply B0
  ·exact B6 rfl
  exact C6
 ·exact c4h s hs
 refine ⟨⟨rfl, rfl, rfl, dT rfl, rfl⟩, .inl rfl, B4, L6 rfl, fun _ => rfl, fun g9 => ?_⟩
 refine y_M rfl <| y_E rfl <| y_E rfl <| y_A rfl (fun _ => rfl) ?_
 intro g3
 refine xB rfl rfl rfl rfl rfl rfl rfl rfl rfl <| y_S rfl <| xN [3,4] [3] rfl <| A3 <| A3 <| A0 <| y_M rfl <| N7 rfl <| xN [3,13] [3] rfl ?_
 refine A5 rfl ?_ ?_ <;> intro hc <;> try simp only [SL] at hc
 ·refine A3 <| A0 ?_
  (refine B1 rfl rfl (fun _ => rfl) ?_; intro g2)
  refine xN [2] [2] rfl <| B2 <| S6 rfl rfl (by simp) (by rfl) trivial ?_
  rw [a7p hc]
  rfl
 refine A8 <| A3 <| A0 <| y_B rfl <| G0 (es := List.map stA []) rfl rfl (dT rfl) rfl rfl (fun _ => B3 (A6 fun _ => rfl)) (fun _ => rfl) ?_
 intro g16
 obtain ⟨t, ht1, ht2, ht3⟩ := b2v hc
 obtain ⟨hst, hwf, hgd, hsl, hsz⟩ := a5s ht1
 have hsl2 := K8 t []
 rw [ht2, a4k]
 apply xC rfl
 ·apply B0
  ·exact B6 rfl
  apply B0
  ·exact X1 rfl rfl (by (simp; done)) (A6 fun _ => rfl)
  exact C6
 ·exact c8r t [] ⟨by simp only [List.length_nil]; omega, fun _ h => by cases h⟩ hgd
 refine ⟨⟨rfl, rfl, rfl, dT rfl, rfl⟩, .inl rfl, B4, G4 (H2 rfl (K2 fun _ => K7)), fun _ => A7 (by rfl) (A7 (B3 (A6 fun _ => rfl)) (by rfl)), fun g17 => ?_⟩
 simp only [List.length_map]
 refine y_M rfl <| y_E rfl <| y_E rfl <| y_S rfl ?_
 (refine xO rfl rfl (by simp) rfl (fun _ => rfl) (fun _ => rfl) ?_; intro g6)
 refine xN [6] [6] rfl <| A3 <| A0 <| y_M rfl ?_
 (refine xO rfl rfl (by simp) rfl (fun _ => rfl) (fun _ => rfl) ?_; intro g2)
 refine xN [2] [2] rfl <| B2 <| S6 rfl rfl (by simp) (by exact A6 fun _ => rfl) trivial ?_
 rw [a6l ht1]

theorem b7a : F6 Tryz.f31 = [0, 2] := by kernel_rfl
theorem d0w (xs : List Int) (hx : xs.length ≤ I8) : CW cxT 31 [.own 1 (xs.map iV)] = some (.own 1 (xs.map iV), []) := by
 refine E7 rfl Tryz.func31 rfl ⟨by kernel_rfl, rfl, dT rfl, dT rfl, by decide⟩ b7a <| A3 <| A0 ?_
 (refine B1 rfl rfl (fun _ => rfl) ?_; intro g2)
 refine xN [0] [0] rfl <| A3 <| A0 <| y_M rfl <| y_M rfl <| H7 rfl rfl <| y_M rfl <| H7 rfl rfl ?_
 refine c8t rfl rfl rfl rfl rfl rfl (fun hz => ?_) (fun hz => ?_)
 ·skip
  (refine B1 rfl rfl (fun _ => rfl) ?_; intro g2)
  refine xN [2] [0,2] rfl <| B2 <| S6 rfl rfl (by (simp; done)) (by rfl) trivial ?_
  (have h0 : xs = [] := (by simpa using hz); subst h0; rfl)
 skip
 (refine xO rfl rfl (by simp) rfl (fun _ => rfl) (fun _ => rfl) ?_; intro g2)
 refine xN [2] [0,2] rfl <| B2 <| S6 rfl rfl (by (simp; done)) (by exact A6 fun _ => rfl) trivial ?_
 rfl

theorem b8r : F6 Tryz.f22 = [0, 2] := by kernel_rfl
theorem a1b (x : List Int) (hl : x.length ≤ 1048576) : CW cxT 22 [L x] = some (.own 1 (x.map iV), []) := by
 refine E7 rfl Tryz.func22 rfl ⟨by kernel_rfl, rfl, dT rfl, dT rfl, by decide⟩ b8r <| A3 <| A0 ?_
 (refine B1 rfl rfl (fun _ => rfl) ?_; intro g2)
 refine xN [0] [] rfl <| A3 <| A0 <| y_M rfl ?_
 apply xC rfl
 ·apply B0
  ·exact B6 rfl
  exact C6
 ·exact d1b x (by simp only [I8]; omega)
 refine ⟨⟨rfl, rfl, rfl, dT rfl, rfl⟩, .inl rfl, B4, K0, fun _ => rfl, fun g4 => ?_⟩
 simp only [List.length_map]
 apply xC rfl
 ·apply B0
  ·exact X1 rfl rfl (by (simp; done)) (A6 fun _ => rfl)
  exact C6
 ·exact d0w x (by simp only [I8]; omega)
 refine ⟨⟨rfl, rfl, rfl, dT rfl, rfl⟩, .inl rfl, B4, K0, fun _ => rfl, fun g5 => ?_⟩
 simp only [List.length_map]
 (refine xO rfl rfl (by simp) rfl (fun _ => rfl) (fun _ => rfl) ?_; intro g2)
 refine xN [2] [2] rfl <| B2 <| S6 rfl rfl (by simp) (by exact A6 fun _ => rfl) trivial ?_
 rfl

theorem b5l : F6 Tryz.f25 = [0, 1, 4, 10, 13, 12, 14, 5, 24] := by kernel_rfl
theorem c7y (a b : List Int) (ha : a.length ≤ 1048576) (hlb : b.length ≤ 1048576) : CW cxT 25 [L a, L b] = some (bV (decide (a = b)), []) := by
 refine E7 rfl Tryz.func25 rfl ⟨by kernel_rfl, rfl, dT rfl, dT rfl, by decide⟩ b5l <| A3 <| A0 <| y_S rfl <| xN [0,1] [] rfl <| A3 <| A3 <| A0 <| y_M rfl <| D8 rfl rfl <| y_M rfl <| D8 rfl rfl <| Z3 rfl rfl <| xN [0,1,10] [] rfl ?_
 refine A5 rfl ?_ ?_ <;> intro hc <;> try simp only [SL] at hc
 ·refine A3 <| A0 <| y_S rfl <| xN [4] [] rfl <| B2 <| C0 rfl rfl trivial ?_
  rw [a3c (by omega)]
  rfl
 refine A8 <| A3 <| A3 <| A0 <| y_M rfl <| D8 rfl rfl <| y_M rfl <| xN [0,1,12,13] [] rfl <| B7 <| I4 (β := Nat) [(.t 0, _), (.t 1, _), (.t 12, _)] (fun (i : Nat) => [(.t 13, iV i)]) (fun (i : Nat) => i ≤ a.length ∧ ∀ j, j < i → a.getD j default = b.getD j default) (fun (i : Nat) => a.length - i) 0 ⟨rfl, rfl, rfl, rfl, trivial⟩ ⟨Nat.zero_le _, fun j h => by omega⟩ ?_
 intro i hb
 obtain ⟨hi1, hi2⟩ := hb
 refine A3 <| A0 <| G6 rfl rfl <| xN [0,1,12,13,14] [] rfl <| A3 ?_
 refine A5 rfl ?_ ?_ <;> intro hc <;> try simp only [SL] at hc
 ·refine A8 <| A3 <| B7 <| A3 <| A0 <| y_M rfl <| y_S rfl <| xN [0,1,5,12,13] [] rfl <| A3 <| A0 <| y_M rfl <| y_M rfl <| E9 rfl rfl rfl (fun _ => rfl) (by omega) <| y_I rfl <| y_M rfl <| y_M rfl <| E9 rfl rfl rfl (fun _ => rfl) (by omega) <| y_I rfl <| Z3 rfl rfl ?_
  refine G2 ⟨fun _ => ⟨by decide +kernel, by decide +kernel⟩, [(.t 0, _), (.t 1, _), (.t 12, _), (.t 13, _), (.t 24, _)], ⟨rfl, rfl, rfl, rfl, rfl, rfl, rfl, rfl, rfl, rfl, trivial⟩, ?_⟩
  refine A5 rfl ?_ ?_ <;> intro hc <;> try simp only [SL] at hc
  ·refine A3 <| A0 <| y_S rfl <| xN [4] [] rfl <| B2 <| C0 rfl rfl trivial ?_
   rw [a4o (i := i) (by omega) (by assumption)]
   rfl
  refine A8 <| A0 <| G5 rfl rfl (F5 (by omega)) <| y_M rfl <| xN [0,1,12,13] [] rfl ?_
  refine ⟨i + 1, ⟨by omega, fun j hj => by rcases Nat.lt_succ_iff_lt_or_eq.1 hj with h | h; (· exact hi2 j h); (· subst h; assumption)⟩, (by omega), ⟨rfl, rfl, rfl, rfl, trivial⟩⟩
 refine F7 <| A3 <| A0 <| y_S rfl <| xN [4] [] rfl <| B2 <| C0 rfl rfl trivial ?_
 rw [a4g (by omega) fun j hj => hi2 j (by omega)]
 rfl

theorem b5j : F6 Tryz.f24 = [0, 1, 3, 2] := by kernel_rfl
theorem c8h (x y : Stp) (hx : x.ns.length ≤ 1048576) (hy : y.ns.length ≤ 1048576) : CW cxT 24 [stA x, .ipt (stA y) 0] = some (bV (decide (x = y)), []) := by
 have hd := d0q x y
 refine E7 rfl Tryz.func24 rfl ⟨by kernel_rfl, rfl, dT rfl, dT rfl, by decide⟩ b5j <| A3 <| A0 <| Y2 rfl rfl rfl (fun _ => I2 rfl) (fun _ => rfl) ?_
 intro g2
 refine y_S rfl <| xN [1,2] [2] rfl <| A3 <| A0 <| y_F rfl <| y_L rfl <| y_F rfl <| O9 rfl rfl rfl <| a0t rfl rfl <| y_M rfl ?_
 refine B8 rfl rfl ?_ ?_ <;> intro hg0 <;> have hg := hg0 <;> try simp only [SG] at hg
 ·refine y_F rfl <| gT rfl rfl <| y_L rfl <| gT rfl rfl <| y_F rfl <| gT rfl rfl <| O9 rfl rfl rfl <| gT rfl rfl <| U0 rfl rfl <| E5 rfl (by assumption) rfl rfl <| y_M rfl ?_
  refine B8 rfl rfl ?_ ?_ <;> intro hg0 <;> have hg := hg0 <;> try simp only [SG] at hg
  ·refine y_F rfl <| gT rfl rfl <| y_L rfl <| gT rfl rfl <| y_F rfl <| gT rfl rfl <| O9 rfl rfl rfl <| gT rfl rfl <| U0 rfl rfl <| E5 rfl (by assumption) rfl rfl <| y_M rfl ?_
   refine B8 rfl rfl ?_ ?_ <;> intro hg0 <;> have hg := hg0 <;> try simp only [SG] at hg
   ·refine y_F rfl <| gT rfl rfl <| y_L rfl <| gT rfl rfl <| y_F rfl <| gT rfl rfl <| O9 rfl rfl rfl <| gT rfl rfl ?_
    refine xC2 rfl rfl rfl (c7y x.ns y.ns hx hy) ⟨rfl, rfl, rfl⟩ rfl rfl fun g28 => ?_
    refine E5 rfl (by assumption) rfl rfl <| y_S rfl <| xN [3] [] rfl <| B2 <| C0 rfl rfl trivial ?_
    rw [hd]
    simp_all
    try rfl
   iterate 4 refine gF rfl rfl ?_
   refine C8 rfl (by assumption) rfl rfl <| y_S rfl <| xN [3] [] rfl <| B2 <| C0 rfl rfl trivial ?_
   rw [hd]
   simp_all
   try rfl
  iterate 4 refine gF rfl rfl ?_
  refine C8 rfl (by assumption) rfl rfl <| y_M rfl ?_
  iterate 5 refine F4 rfl rfl rfl ?_
  refine C8 rfl rfl rfl rfl <| y_S rfl <| xN [3] [] rfl <| B2 <| C0 rfl rfl trivial ?_
  rw [hd]
  simp_all
  try rfl
 iterate 4 refine gF rfl rfl ?_
 refine C8 rfl (by assumption) rfl rfl <| y_M rfl ?_
 iterate 5 refine F4 rfl rfl rfl ?_
 refine C8 rfl rfl rfl rfl <| y_M rfl ?_
 iterate 5 refine F4 rfl rfl rfl ?_
 refine C8 rfl rfl rfl rfl <| y_S rfl <| xN [3] [] rfl <| B2 <| C0 rfl rfl trivial ?_
 rw [hd]
 simp_all
 try rfl

theorem b3m : F6 Tryz.f23 = [0, 1, 4, 8, 7, 9, 5, 16] := by kernel_rfl
theorem T8 (ss : List Stp) (hss : ss.length ≤ 1000 ∧ ∀ s ∈ ss, stG s) (y : Stp) (hy : y.ns.length ≤ 1048576) : CW cxT 23 [.list (ss.map stA), .clo 24 [.ipt (stA y) 0]] = some (iV (stJ y ss), []) := by
 refine E7 rfl Tryz.func23 rfl ⟨by kernel_rfl, rfl, dT rfl, dT rfl, by decide⟩ b3m <| A3 <| A0 <| y_S rfl <| xN [0,1] [] rfl <| A3 <| A3 <| A0 <| y_M rfl <| D8 rfl rfl <| y_M rfl <| xN [0,1,7,8] [] rfl <| B7 <| I4 (β := Nat) [(.t 0, _), (.t 1, _), (.t 7, _)] (fun (i : Nat) => [(.t 8, iV i)]) (fun (i : Nat) => i ≤ ss.length ∧ ∀ j, j < i → ss.getD j default ≠ y) (fun (i : Nat) => ss.length - i) 0 ⟨rfl, rfl, rfl, rfl, trivial⟩ ⟨Nat.zero_le _, fun j h => by omega⟩ ?_
 intro i hb
 obtain ⟨hi1, hne⟩ := hb
 refine A3 <| A0 <| G6 rfl rfl <| xN [0,1,7,8,9] [] rfl <| A3 ?_
 refine A5 rfl ?_ ?_ <;> intro hc <;> try simp only [SL] at hc
 ·refine A8 <| A3 <| B7 <| A3 <| A0 <| y_M rfl <| y_S rfl <| xN [0,1,5,7,8] [] rfl <| A3 <| A0 <| y_M rfl <| y_M rfl <| y_M rfl <| E9 rfl rfl rfl (fun _ => rfl) (by omega) <| y_I rfl ?_
  have hsg := hss.2 _ (M6 (xs := ss) (i := i) (by omega))
  have hvl := N4 hsg.2
  apply c5a rfl rfl
  ·apply B0
   ·exact B6 rfl
   apply B0
   ·exact B6 rfl
   exact C6
  ·exact c8h (ss.getD i default) y (by omega) hy
  ·exact ⟨rfl, rfl, rfl, dT rfl, rfl⟩
  ·exact .inl rfl
  ·exact B4
  ·exact E6 rfl
  ·exact fun _ => rfl
  intro g16
  refine xN [0,1,5,7,8,16] [] rfl ?_
  refine A5 rfl ?_ ?_ <;> intro hc <;> try simp only [SL] at hc
  ·refine A3 <| A0 <| y_M rfl <| y_S rfl <| xN [4] [] rfl <| B2 <| C0 rfl rfl trivial ?_
   rw [d3l (by omega) (by assumption) hne]
  refine A8 <| A0 <| G5 rfl rfl (F5 (by omega)) <| y_M rfl <| xN [0,1,7,8] [] rfl ?_
  refine ⟨i + 1, ⟨by omega, fun j hj => by rcases Nat.lt_succ_iff_lt_or_eq.1 hj with h | h; (· exact hne j h); (· subst h; assumption)⟩, (by omega), ⟨rfl, rfl, rfl, rfl, trivial⟩⟩
 refine F7 <| A3 <| A0 <| y_S rfl <| xN [4] [] rfl <| B2 <| C0 rfl rfl trivial ?_
 rw [d2j fun j hj => hne j (by omega)]
 rfl

theorem b5p : F6 Tryz.f13 = [0, 2] := by kernel_rfl
theorem c8e (xs : List Stp) (hx : xs.length ≤ I8) : CW cxT 13 [.own 4 (xs.map stO)] = some (.own 4 (xs.map stO), []) := by
 refine E7 rfl Tryz.func13 rfl ⟨by kernel_rfl, rfl, dT rfl, dT rfl, by decide⟩ b5p <| A3 <| A0 ?_
 (refine B1 rfl rfl (fun _ => rfl) ?_; intro g2)
 refine xN [0] [0] rfl <| A3 <| A0 <| y_M rfl <| y_M rfl <| H7 rfl rfl <| y_M rfl <| H7 rfl rfl ?_
 refine c8t rfl rfl rfl rfl rfl rfl (fun hz => ?_) (fun hz => ?_)
 ·skip
  (refine B1 rfl rfl (fun _ => rfl) ?_; intro g2)
  refine xN [2] [0,2] rfl <| B2 <| S6 rfl rfl (by (simp; done)) (by rfl) trivial ?_
  (have h0 : xs = [] := (by simpa using hz); subst h0; rfl)
 skip
 (refine xO rfl rfl (by simp) rfl (fun _ => rfl) (fun _ => rfl) ?_; intro g2)
 refine xN [2] [0,2] rfl <| B2 <| S6 rfl rfl (by (simp; done)) (by exact A6 fun _ => rfl) trivial ?_
 rfl

theorem b4z : F6 Tryz.f12 = [0, 1, 4, 5, 2, 6, 23, 22, 24, 21, 9, 8, 7, 10, 44, 15, 35] := by kernel_rfl
theorem d0f (t : Pl) (ss : List Stp) (hss : ss.length + t.sz ≤ 1000 ∧ ∀ s ∈ ss, stG s) (hgd : t.good) : CW cxT 12 [trK t, stL ss] = some (.tup [.own 4 ((shareP t ss).1.map stO), iV ((shareP t ss).2 : Nat)], []) := by
 obtain ⟨kk, hkk⟩ : ∃ kk : Nat, t.sz < kk := ⟨_, Nat.lt_succ_self _⟩
 revert t ss
 induction kk with
 | zero => intro t ss hss hgd hkk; exact absurd hkk (Nat.not_lt_zero _)
 | succ kk ih =>
  intro t ss hss hgd hkk
  refine E7 rfl Tryz.func12 rfl ⟨by kernel_rfl, rfl, dT rfl, dT rfl, by decide⟩ b4z <| A3 <| A0 ?_
  rcases t with ns | w | ⟨w, p⟩ | ⟨w, p, q⟩ <;> rcases ss with _ | ⟨s0, sr⟩
  ·rw [b8o]
   skip
   refine Y2 rfl rfl rfl (fun _ => I2 rfl) (fun _ => rfl) ?_
   intro g2
   (refine B1 rfl rfl (fun _ => rfl) ?_; intro g4)
   refine y_S rfl <| xN [1,2] [2] rfl <| A3 <| A0 <| y_F rfl <| y_L rfl <| y_F rfl <| y_L rfl ?_
   apply a2d rfl
   ·apply B0
    ·exact B6 rfl
    exact C6
   ·exact a1b ns (by have := N4 (show vd ns = true from hgd); omega)
   ·exact ⟨rfl, rfl, rfl, dT rfl, rfl⟩
   ·exact .inl rfl
   ·exact B4
   ·exact K0
   ·(intro _; exact A7 (B3 (A6 fun _ => rfl)) rfl)
   intro g15
   simp only [List.length_map]
   refine H6 (fs := [_, iV (-1), iV (-1), _]) rfl rfl rfl rfl rfl <| y_A rfl (fun _ => rfl) ?_
   intro g6
   refine G7 rfl rfl rfl rfl (D9 rfl (D9 rfl (D9 rfl (T3 (by decide) (by decide) rfl (by simp) fun _ => I9)))) (fun _ => rfl) ⟨by decide, rfl, dT rfl, Nat.le_refl _⟩ (fun _ => rfl) (fun _ => rfl) (fun _ => A7 (by rfl) (A7 (B3 (A6 fun _ => rfl)) (by rfl))) ?_
   intro z
   simp only [I1, List.cons_append, List.nil_append]
   refine G2 ⟨fun _ => ⟨by (simp only [M5, List.nil_append, List.append_nil, List.map_cons, List.map_nil, List.cons_append]; decide +kernel), by decide +kernel⟩, [(.t 1, _), (.t 2, _), (.t 6, _), (.h 2, _), (.h 6, _), (.h 400006, _)], ⟨rfl, rfl, rfl, rfl, rfl, rfl, rfl, rfl, rfl, rfl, rfl, rfl, trivial⟩, ?_⟩
   refine A3 <| A0 <| y_F rfl <| y_F rfl <| N1 rfl rfl rfl rfl (fun _ => rfl) (fun _ => rfl) ?_
   intro g19
   refine F0 rfl rfl (by simp) rfl (fun _ => rfl) (fun _ => rfl) ?_
   intro g7
   refine xN [1,2,6,7] [2,6,400006,7] rfl <| A3 <| A3 <| A0 <| y_F rfl <| y_L rfl <| D8 rfl rfl <| y_M rfl <| xN [1,6,7,21,22,23] [6,400006,7] rfl <| B7 <| E8 <| A3 <| A0 <| G6 rfl rfl <| xN [1,6,7,21,22,23,24] [6,400006,7] rfl <| A3 ?_
   refine A5 rfl (fun hc => absurd hc (by decide)) (fun hc => ?_)
   refine F7 <| A3 <| A0 <| y_M rfl <| O6 rfl rfl ?_
   apply xC rfl
   ·apply B0
    ·exact a7b (dT rfl)
    apply B0
    ·exact a1e rfl (a0v rfl (L8 (L8 (L8 (a3o rfl rfl (by simp) (fun _ => rfl) a3m)))) a1c)
    exact C6
   ·exact T8 [] ⟨by simp only [List.length_cons, List.length_nil] at *; omega, hss.2⟩ (H3 (.lst ns) (-1) (-1)) (by exact Nat.le_trans (N4 (Z8 hgd)) (by decide))
   refine ⟨⟨rfl, rfl, rfl, dT rfl, rfl⟩, .inr ⟨rfl, rfl⟩, B4, E6 rfl, fun _ => rfl, fun g42 => ?_⟩
   refine y_S rfl <| xN [1,6,10] [6,400006] rfl <| A3 <| A3 <| A0 <| y_M rfl <| a4d rfl rfl <| xN [1,6,10,44] [6,400006] rfl ?_
   refine A5 rfl ?_ ?_ <;> intro hc <;> try simp only [SL] at hc
   ·refine A3 <| A0 <| y_M rfl <| y_M rfl ?_
    (refine B1 rfl rfl (fun _ => rfl) ?_; intro g4)
    refine y_S rfl <| xN [4,5] [4] rfl <| B2 <| B9 (E4 rfl rfl (by simp) (by rfl) (C3 rfl rfl (C9 B5))) ?_
    obtain ⟨h1, h2, h3⟩ := a0y hc
    show _ = AV.tup [.own 4 ((stAdd (H3 (.lst ns) (-1) (-1)) []).map stO), iV (stIx (H3 (.lst ns) (-1) (-1)) [] : Nat)]
    rw [h2, ← h1]
    rfl
   refine A8 <| A3 <| A0 <| y_M rfl <| y_B rfl <| J7 (mk := 0) (fs := [_, _, _, _]) rfl rfl rfl (dT rfl) rfl rfl (D9 rfl (D9 rfl (D9 rfl (a0x rfl (by simp) (R9 fun _ => rfl) rfl I9)))) (fun _ _ => A7 (by rfl) (A7 (B3 (by rfl)) (G1 rfl))) ?_
   intro z49 g49
   simp only [I1, List.cons_append, List.nil_append]
   rw [a9s]
   refine P6 rfl rfl rfl (by simp) (by decide) rfl rfl rfl (dT rfl) (fun _ => ⟨rfl, rfl⟩) (by simp only [I8]; (simp only [List.length_nil, List.length_cons, List.length_append, Nat.zero_add, List.length_map]; omega)) (fun _ => rfl) ?_
   intro g50
   refine y_M rfl <| b6g rfl rfl ?_
   (refine xO rfl rfl (by simp) rfl (fun _ => rfl) (fun _ => rfl) ?_; intro g4)
   refine y_S rfl <| xN [4,5] [4] rfl <| B2 <| B9 (E4 rfl rfl (by simp) (by rfl) (C3 rfl rfl (C9 B5))) ?_
   obtain ⟨h1, h2⟩ := X6 hc
   show _ = AV.tup [.own 4 ((stAdd (H3 (.lst ns) (-1) (-1)) []).map stO), iV (stIx (H3 (.lst ns) (-1) (-1)) [] : Nat)]
   rw [h1, h2]
   rfl
  ·rw [b8o]
   skip
   have hlc : (s0 :: sr).length = sr.length + 1 := rfl
   refine Y2 rfl rfl rfl (fun _ => I2 rfl) (fun _ => rfl) ?_
   intro g2
   (refine B1 rfl rfl (fun _ => rfl) ?_; intro g4)
   refine y_S rfl <| xN [1,2] [1,2] rfl <| A3 <| A0 <| y_F rfl <| y_L rfl <| y_F rfl <| y_L rfl ?_
   apply a2d rfl
   ·apply B0
    ·exact B6 rfl
    exact C6
   ·exact a1b ns (by have := N4 (show vd ns = true from hgd); omega)
   ·exact ⟨rfl, rfl, rfl, dT rfl, rfl⟩
   ·exact .inl rfl
   ·exact B4
   ·exact K0
   ·(intro _; exact A7 (B3 (A6 fun _ => rfl)) rfl)
   intro g15
   simp only [List.length_map]
   refine H6 (fs := [_, iV (-1), iV (-1), _]) rfl rfl rfl rfl rfl <| y_A rfl (fun _ => rfl) ?_
   intro g6
   refine G7 rfl rfl rfl rfl (D9 rfl (D9 rfl (D9 rfl (T3 (by decide) (by decide) rfl (by simp) fun _ => I9)))) (fun _ => rfl) ⟨by decide, rfl, dT rfl, Nat.le_refl _⟩ (fun _ => rfl) (fun _ => rfl) (fun _ => A7 (by rfl) (A7 (B3 (A6 fun _ => rfl)) (by rfl))) ?_
   intro z
   simp only [I1, List.cons_append, List.nil_append]
   refine G2 ⟨fun _ => ⟨by (simp only [M5, List.nil_append, List.append_nil, List.map_cons, List.map_nil, List.cons_append]; decide +kernel), by decide +kernel⟩, [(.t 1, _), (.t 2, _), (.t 6, _), (.h 1, _), (.h 2, _), (.h 6, _), (.h 400006, _)], ⟨rfl, rfl, rfl, rfl, rfl, rfl, rfl, rfl, rfl, rfl, rfl, rfl, rfl, rfl, trivial⟩, ?_⟩
   refine A3 <| A0 <| y_F rfl <| y_F rfl <| N1 rfl rfl rfl rfl (fun _ => rfl) (fun _ => rfl) ?_
   intro g19
   refine F0 rfl rfl (by simp) rfl (fun _ => rfl) (fun _ => rfl) ?_
   intro g7
   refine xN [1,2,6,7] [1,2,6,400006,7] rfl <| A3 <| A3 <| A0 <| y_F rfl <| y_L rfl <| D8 rfl rfl <| y_M rfl <| xN [1,6,7,21,22,23] [1,6,400006,7] rfl <| B7 <| E8 <| A3 <| A0 <| G6 rfl rfl <| xN [1,6,7,21,22,23,24] [1,6,400006,7] rfl <| A3 ?_
   refine A5 rfl (fun hc => absurd hc (by decide)) (fun hc => ?_)
   refine F7 <| A3 <| A0 <| y_M rfl <| O6 rfl rfl ?_
   apply xC rfl
   ·apply B0
    ·exact L0 rfl rfl rfl (by (simp; done))
    apply B0
    ·exact a1e rfl (a0v rfl (L8 (L8 (L8 (a3o rfl rfl (by simp) (fun _ => rfl) a3m)))) a1c)
    exact C6
   ·exact T8 (s0 :: sr) ⟨by simp only [List.length_cons, List.length_nil] at *; omega, hss.2⟩ (H3 (.lst ns) (-1) (-1)) (by exact Nat.le_trans (N4 (Z8 hgd)) (by decide))
   refine ⟨⟨rfl, rfl, rfl, dT rfl, rfl⟩, .inr ⟨rfl, rfl⟩, B4, E6 rfl, fun _ => rfl, fun g42 => ?_⟩
   refine y_S rfl <| xN [1,6,10] [1,6,400006] rfl <| A3 <| A3 <| A0 <| y_M rfl <| a4d rfl rfl <| xN [1,6,10,44] [1,6,400006] rfl ?_
   refine A5 rfl ?_ ?_ <;> intro hc <;> try simp only [SL] at hc
   ·refine A3 <| A0 <| y_M rfl <| y_M rfl ?_
    (refine xO rfl rfl (by simp) rfl (fun _ => rfl) (fun _ => rfl) ?_; intro g4)
    refine y_S rfl <| xN [4,5] [4] rfl <| B2 <| B9 (E4 rfl rfl (by simp) (by exact A6 fun _ => rfl) (C3 rfl rfl (C9 B5))) ?_
    obtain ⟨h1, h2, h3⟩ := a0y hc
    show _ = AV.tup [.own 4 ((stAdd (H3 (.lst ns) (-1) (-1)) (s0 :: sr)).map stO), iV (stIx (H3 (.lst ns) (-1) (-1)) (s0 :: sr) : Nat)]
    rw [h2, ← h1]
    rfl
   refine A8 <| A3 <| A0 <| y_M rfl <| y_B rfl <| J7 (mk := 0) (fs := [_, _, _, _]) rfl rfl rfl (dT rfl) rfl rfl (D9 rfl (D9 rfl (D9 rfl (a0x rfl (by simp) (R9 fun _ => rfl) rfl I9)))) (fun _ _ => A7 (by rfl) (A7 (B3 (by rfl)) (G1 rfl))) ?_
   intro z49 g49
   simp only [I1, List.cons_append, List.nil_append]
   rw [a9s]
   refine xA rfl rfl rfl rfl (by simp) (by simp) rfl rfl rfl rfl rfl (fun _ => rfl) (by simp only [LN]; omega) (fun _ => rfl) ?_
   intro g50
   refine y_M rfl <| H7 rfl rfl ?_
   (refine xO rfl rfl (by simp) rfl (fun _ => rfl) (fun _ => rfl) ?_; intro g4)
   refine y_S rfl <| xN [4,5] [4] rfl <| B2 <| B9 (E4 rfl rfl (by simp) (by exact A6 fun _ => rfl) (C3 rfl rfl (C9 B5))) ?_
   obtain ⟨h1, h2⟩ := X6 hc
   show _ = AV.tup [.own 4 ((stAdd (H3 (.lst ns) (-1) (-1)) (s0 :: sr)).map stO), iV (stIx (H3 (.lst ns) (-1) (-1)) (s0 :: sr) : Nat)]
   rw [h1, h2]
   rfl
  ·rw [b7p]
   have hwl : w ≠ lW := hgd.1
   refine Y2 rfl rfl rfl (fun _ => I2 rfl) (fun _ => rfl) ?_
   intro g2
   (refine B1 rfl rfl (fun _ => rfl) ?_; intro g4)
   refine y_S rfl <| xN [1,2] [2] rfl <| A3 <| A0 <| y_F rfl <| y_L rfl <| y_F rfl <| y_L rfl ?_
   apply xC rfl
   ·apply B0
    ·exact B6 rfl
    exact C6
   ·exact a1b [] (by decide)
   refine ⟨⟨rfl, rfl, rfl, dT rfl, rfl⟩, .inl rfl, B4, K0, fun _ => rfl, fun g15 => ?_⟩
   simp only [List.length_map]
   refine H6 (fs := [_, iV (-1), iV (-1), _]) rfl rfl rfl rfl rfl <| y_A rfl (fun _ => rfl) ?_
   intro g6
   refine G7 rfl rfl rfl rfl (D9 rfl (D9 rfl (D9 rfl (T3 (by decide) (by decide) rfl (by simp) fun _ => I9)))) (fun _ => rfl) ⟨by decide, rfl, dT rfl, Nat.le_refl _⟩ (fun _ => rfl) (fun _ => rfl) (fun _ => A7 (by rfl) (A7 (B3 (A6 fun _ => rfl)) (by rfl))) ?_
   intro z
   simp only [I1, List.cons_append, List.nil_append]
   refine G2 ⟨fun _ => ⟨by (simp only [M5, List.nil_append, List.append_nil, List.map_cons, List.map_nil, List.cons_append]; decide +kernel), by decide +kernel⟩, [(.t 1, _), (.t 2, _), (.t 6, _), (.h 2, _), (.h 6, _), (.h 400006, _)], ⟨rfl, rfl, rfl, rfl, rfl, rfl, rfl, rfl, rfl, rfl, rfl, rfl, trivial⟩, ?_⟩
   refine A3 <| A0 <| y_F rfl <| y_F rfl <| N1 rfl rfl rfl rfl (fun _ => rfl) (fun _ => rfl) ?_
   intro g19
   refine F0 rfl rfl (by simp) rfl (fun _ => rfl) (fun _ => rfl) ?_
   intro g7
   refine xN [1,2,6,7] [2,6,400006,7] rfl <| A3 <| A3 <| A0 <| y_F rfl <| y_L rfl <| D8 rfl rfl <| y_M rfl <| xN [1,6,7,21,22,23] [6,400006,7] rfl <| B7 <| E8 <| A3 <| A0 <| G6 rfl rfl <| xN [1,6,7,21,22,23,24] [6,400006,7] rfl <| A3 ?_
   refine A5 rfl (fun hc => absurd hc (by decide)) (fun hc => ?_)
   refine F7 <| A3 <| A0 <| y_M rfl <| O6 rfl rfl ?_
   apply xC rfl
   ·apply B0
    ·exact a7b (dT rfl)
    apply B0
    ·exact a1e rfl (a0v rfl (L8 (L8 (L8 (a3o rfl rfl (by simp) (fun _ => rfl) a3m)))) a1c)
    exact C6
   ·exact T8 [] ⟨by simp only [List.length_cons, List.length_nil] at *; omega, hss.2⟩ (H3 (.col w) (-1) (-1)) (by exact Nat.le_trans (N4 (Z8 hgd)) (by decide))
   refine ⟨⟨rfl, rfl, rfl, dT rfl, rfl⟩, .inr ⟨rfl, rfl⟩, B4, E6 rfl, fun _ => rfl, fun g42 => ?_⟩
   refine y_S rfl <| xN [1,6,10] [6,400006] rfl <| A3 <| A3 <| A0 <| y_M rfl <| a4d rfl rfl <| xN [1,6,10,44] [6,400006] rfl ?_
   refine A5 rfl ?_ ?_ <;> intro hc <;> try simp only [SL] at hc
   ·refine A3 <| A0 <| y_M rfl <| y_M rfl ?_
    (refine B1 rfl rfl (fun _ => rfl) ?_; intro g4)
    refine y_S rfl <| xN [4,5] [4] rfl <| B2 <| B9 (E4 rfl rfl (by simp) (by rfl) (C3 rfl rfl (C9 B5))) ?_
    obtain ⟨h1, h2, h3⟩ := a0y hc
    show _ = AV.tup [.own 4 ((stAdd (H3 (.col w) (-1) (-1)) []).map stO), iV (stIx (H3 (.col w) (-1) (-1)) [] : Nat)]
    rw [h2, ← h1]
    rfl
   refine A8 <| A3 <| A0 <| y_M rfl <| y_B rfl <| J7 (mk := 0) (fs := [_, _, _, _]) rfl rfl rfl (dT rfl) rfl rfl (D9 rfl (D9 rfl (D9 rfl (a0x rfl (by simp) (R9 fun _ => rfl) rfl I9)))) (fun _ _ => A7 (by rfl) (A7 (B3 (by rfl)) (G1 rfl))) ?_
   intro z49 g49
   simp only [I1, List.cons_append, List.nil_append]
   rw [a9s]
   refine P6 rfl rfl rfl (by simp) (by decide) rfl rfl rfl (dT rfl) (fun _ => ⟨rfl, rfl⟩) (by simp only [I8]; (simp only [List.length_nil, List.length_cons, List.length_append, Nat.zero_add, List.length_map]; omega)) (fun _ => rfl) ?_
   intro g50
   refine y_M rfl <| b6g rfl rfl ?_
   (refine xO rfl rfl (by simp) rfl (fun _ => rfl) (fun _ => rfl) ?_; intro g4)
   refine y_S rfl <| xN [4,5] [4] rfl <| B2 <| B9 (E4 rfl rfl (by simp) (by rfl) (C3 rfl rfl (C9 B5))) ?_
   obtain ⟨h1, h2⟩ := X6 hc
   show _ = AV.tup [.own 4 ((stAdd (H3 (.col w) (-1) (-1)) []).map stO), iV (stIx (H3 (.col w) (-1) (-1)) [] : Nat)]
   rw [h1, h2]
   rfl
  ·rw [b7p]
   have hwl : w ≠ lW := hgd.1
   have hlc : (s0 :: sr).length = sr.length + 1 := rfl
   refine Y2 rfl rfl rfl (fun _ => I2 rfl) (fun _ => rfl) ?_
   intro g2
   (refine B1 rfl rfl (fun _ => rfl) ?_; intro g4)
   refine y_S rfl <| xN [1,2] [1,2] rfl <| A3 <| A0 <| y_F rfl <| y_L rfl <| y_F rfl <| y_L rfl ?_
   apply xC rfl
   ·apply B0
    ·exact B6 rfl
    exact C6
   ·exact a1b [] (by decide)
   refine ⟨⟨rfl, rfl, rfl, dT rfl, rfl⟩, .inl rfl, B4, K0, fun _ => rfl, fun g15 => ?_⟩
   simp only [List.length_map]
   refine H6 (fs := [_, iV (-1), iV (-1), _]) rfl rfl rfl rfl rfl <| y_A rfl (fun _ => rfl) ?_
   intro g6
   refine G7 rfl rfl rfl rfl (D9 rfl (D9 rfl (D9 rfl (T3 (by decide) (by decide) rfl (by simp) fun _ => I9)))) (fun _ => rfl) ⟨by decide, rfl, dT rfl, Nat.le_refl _⟩ (fun _ => rfl) (fun _ => rfl) (fun _ => A7 (by rfl) (A7 (B3 (A6 fun _ => rfl)) (by rfl))) ?_
   intro z
   simp only [I1, List.cons_append, List.nil_append]
   refine G2 ⟨fun _ => ⟨by (simp only [M5, List.nil_append, List.append_nil, List.map_cons, List.map_nil, List.cons_append]; decide +kernel), by decide +kernel⟩, [(.t 1, _), (.t 2, _), (.t 6, _), (.h 1, _), (.h 2, _), (.h 6, _), (.h 400006, _)], ⟨rfl, rfl, rfl, rfl, rfl, rfl, rfl, rfl, rfl, rfl, rfl, rfl, rfl, rfl, trivial⟩, ?_⟩
   refine A3 <| A0 <| y_F rfl <| y_F rfl <| N1 rfl rfl rfl rfl (fun _ => rfl) (fun _ => rfl) ?_
   intro g19
   refine F0 rfl rfl (by simp) rfl (fun _ => rfl) (fun _ => rfl) ?_
   intro g7
   refine xN [1,2,6,7] [1,2,6,400006,7] rfl <| A3 <| A3 <| A0 <| y_F rfl <| y_L rfl <| D8 rfl rfl <| y_M rfl <| xN [1,6,7,21,22,23] [1,6,400006,7] rfl <| B7 <| E8 <| A3 <| A0 <| G6 rfl rfl <| xN [1,6,7,21,22,23,24] [1,6,400006,7] rfl <| A3 ?_
   refine A5 rfl (fun hc => absurd hc (by decide)) (fun hc => ?_)
   refine F7 <| A3 <| A0 <| y_M rfl <| O6 rfl rfl ?_
   apply xC rfl
   ·apply B0
    ·exact L0 rfl rfl rfl (by (simp; done))
    apply B0
    ·exact a1e rfl (a0v rfl (L8 (L8 (L8 (a3o rfl rfl (by simp) (fun _ => rfl) a3m)))) a1c)
    exact C6
   ·exact T8 (s0 :: sr) ⟨by simp only [List.length_cons, List.length_nil] at *; omega, hss.2⟩ (H3 (.col w) (-1) (-1)) (by exact Nat.le_trans (N4 (Z8 hgd)) (by decide))
   refine ⟨⟨rfl, rfl, rfl, dT rfl, rfl⟩, .inr ⟨rfl, rfl⟩, B4, E6 rfl, fun _ => rfl, fun g42 => ?_⟩
   refine y_S rfl <| xN [1,6,10] [1,6,400006] rfl <| A3 <| A3 <| A0 <| y_M rfl <| a4d rfl rfl <| xN [1,6,10,44] [1,6,400006] rfl ?_
   refine A5 rfl ?_ ?_ <;> intro hc <;> try simp only [SL] at hc
   ·refine A3 <| A0 <| y_M rfl <| y_M rfl ?_
    (refine xO rfl rfl (by simp) rfl (fun _ => rfl) (fun _ => rfl) ?_; intro g4)
    refine y_S rfl <| xN [4,5] [4] rfl <| B2 <| B9 (E4 rfl rfl (by simp) (by exact A6 fun _ => rfl) (C3 rfl rfl (C9 B5))) ?_
    obtain ⟨h1, h2, h3⟩ := a0y hc
    show _ = AV.tup [.own 4 ((stAdd (H3 (.col w) (-1) (-1)) (s0 :: sr)).map stO), iV (stIx (H3 (.col w) (-1) (-1)) (s0 :: sr) : Nat)]
    rw [h2, ← h1]
    rfl
   refine A8 <| A3 <| A0 <| y_M rfl <| y_B rfl <| J7 (mk := 0) (fs := [_, _, _, _]) rfl rfl rfl (dT rfl) rfl rfl (D9 rfl (D9 rfl (D9 rfl (a0x rfl (by simp) (R9 fun _ => rfl) rfl I9)))) (fun _ _ => A7 (by rfl) (A7 (B3 (by rfl)) (G1 rfl))) ?_
   intro z49 g49
   simp only [I1, List.cons_append, List.nil_append]
   rw [a9s]
   refine xA rfl rfl rfl rfl (by simp) (by simp) rfl rfl rfl rfl rfl (fun _ => rfl) (by simp only [LN]; omega) (fun _ => rfl) ?_
   intro g50
   refine y_M rfl <| H7 rfl rfl ?_
   (refine xO rfl rfl (by simp) rfl (fun _ => rfl) (fun _ => rfl) ?_; intro g4)
   refine y_S rfl <| xN [4,5] [4] rfl <| B2 <| B9 (E4 rfl rfl (by simp) (by exact A6 fun _ => rfl) (C3 rfl rfl (C9 B5))) ?_
   obtain ⟨h1, h2⟩ := X6 hc
   show _ = AV.tup [.own 4 ((stAdd (H3 (.col w) (-1) (-1)) (s0 :: sr)).map stO), iV (stIx (H3 (.col w) (-1) (-1)) (s0 :: sr) : Nat)]
   rw [h1, h2]
   rfl
  ·rw [c2r]
   have hwl : w ≠ lW := hgd.1
   have hs1 := K8 p []
   have hsz1 : (Pl.un w p).sz = p.sz + 1 := rfl
   refine Y2 rfl rfl rfl (fun _ => I2 rfl) (fun _ => rfl) ?_
   intro g2
   (refine B1 rfl rfl (fun _ => rfl) ?_; intro g4)
   refine y_S rfl <| xN [1,2] [2] rfl <| A3 <| A0 <| y_F rfl <| y_L rfl <| y_F rfl <| y_L rfl ?_
   apply xC rfl
   ·apply B0
    ·exact B6 rfl
    exact C6
   ·exact a1b [] (by decide)
   refine ⟨⟨rfl, rfl, rfl, dT rfl, rfl⟩, .inl rfl, B4, K0, fun _ => rfl, fun g15 => ?_⟩
   simp only [List.length_map]
   refine H6 (fs := [_, iV (-1), iV (-1), _]) rfl rfl rfl rfl rfl <| y_A rfl (fun _ => rfl) ?_
   intro g6
   refine G7 rfl rfl rfl rfl (D9 rfl (D9 rfl (D9 rfl (T3 (by decide) (by decide) rfl (by simp) fun _ => I9)))) (fun _ => rfl) ⟨by decide, rfl, dT rfl, Nat.le_refl _⟩ (fun _ => rfl) (fun _ => rfl) (fun _ => A7 (by rfl) (A7 (B3 (A6 fun _ => rfl)) (by rfl))) ?_
   intro z
   simp only [I1, List.cons_append, List.nil_append]
   refine G2 ⟨fun _ => ⟨by (simp only [M5, List.nil_append, List.append_nil, List.map_cons, List.map_nil, List.cons_append]; decide +kernel), by decide +kernel⟩, [(.t 1, _), (.t 2, _), (.t 6, _), (.h 2, _), (.h 6, _), (.h 400006, _)], ⟨rfl, rfl, rfl, rfl, rfl, rfl, rfl, rfl, rfl, rfl, rfl, rfl, trivial⟩, ?_⟩
   refine A3 <| A0 <| y_F rfl <| y_F rfl <| N1 rfl rfl rfl rfl (fun _ => rfl) (fun _ => rfl) ?_
   intro g19
   refine F0 rfl rfl (by simp) rfl (fun _ => rfl) (fun _ => rfl) ?_
   intro g7
   refine xN [1,2,6,7] [2,6,400006,7] rfl <| A3 <| A3 <| A0 <| y_F rfl <| y_L rfl <| D8 rfl rfl <| y_M rfl <| xN [1,6,7,21,22,23] [6,400006,7] rfl <| B7 <| E8 <| A3 <| A0 <| G6 rfl rfl <| xN [1,6,7,21,22,23,24] [6,400006,7] rfl <| A3 ?_
   refine A5 rfl (fun hc => ?_) (fun hc => absurd hc (by exact fun h => Bool.noConfusion (show true = false from h)))
   refine A8 <| A3 <| B7 <| A3 <| A0 <| y_M rfl <| K9 rfl rfl rfl (fun _ => rfl) (by show (0 : Int) ≤ 0 ∧ (0 : Int) < ((1 : Nat) : Int); omega) <| y_I rfl <| y_A rfl (fun _ => rfl) ?_
   intro g9
   refine y_S rfl <| xB rfl rfl rfl rfl rfl rfl rfl rfl rfl <| xN [1,6,7,8,9,21,22,23] [6,400006,7,9] rfl <| A0 <| y_M rfl <| y_M rfl <| D4 rfl rfl rfl rfl (by (change 0 < _; omega)) (by (simp; done)) rfl <| Q7 rfl rfl rfl rfl rfl <| y_B rfl <| y_M rfl ?_
   apply xC rfl
   ·apply B0
    ·exact B6 rfl
    apply B0
    ·exact b8l ⟨dT rfl, dT rfl⟩
    exact C6
   ·exact (by have hi := ih p [] ⟨by simp only [List.length_cons, List.length_nil] at *; omega, hss.2⟩ hgd.2.2 (by omega); rw [← a4k] at hi; exact hi)
   refine ⟨⟨rfl, rfl, rfl, dT rfl, rfl⟩, .inl rfl, B4, G4 (K2 fun _ => H2 rfl K7), fun _ => A7 (B3 (A6 fun _ => rfl)) (by rfl), fun g35 => ?_⟩
   simp only [List.length_map]
   refine y_M rfl <| y_E rfl <| y_E rfl ?_
   (refine xO rfl rfl (by simp) rfl (fun _ => rfl) (fun _ => rfl) ?_; intro g1)
   refine W7 rfl rfl rfl <| T1 rfl rfl rfl rfl rfl ⟨by decide, rfl, dT rfl, dT rfl, rfl⟩ rfl ?_
   refine G2 ⟨fun _ => ⟨by (simp only [M5, List.nil_append, List.append_nil, List.map_cons, List.map_nil, List.cons_append]; decide +kernel), by decide +kernel⟩, [(.t 1, _), (.t 6, _), (.t 7, _), (.t 21, _), (.t 22, _), (.t 23, _), (.h 1, _), (.h 6, _), (.h 400006, _), (.h 7, _)], ⟨rfl, rfl, rfl, rfl, rfl, rfl, rfl, rfl, rfl, rfl, rfl, rfl, rfl, rfl, rfl, rfl, rfl, rfl, rfl, rfl, trivial⟩, ?_⟩
   refine A0 <| G5 rfl rfl (F5 (by omega)) <| y_M rfl <| xN [1,6,7,21,22,23] [1,6,400006,7] rfl <| E8 <| A3 <| A0 <| G6 rfl rfl <| xN [1,6,7,21,22,23,24] [1,6,400006,7] rfl <| A3 ?_
   refine A5 rfl (fun hc => absurd hc (by exact fun h => Bool.noConfusion (show false = true from h))) (fun hc => ?_)
   refine F7 <| A3 <| A0 <| y_M rfl <| O6 rfl rfl ?_
   apply xC rfl
   ·apply B0
    ·exact L0 rfl rfl rfl (by (simp; done))
    apply B0
    ·exact a1e rfl (a0v rfl (L8 (L8 (L8 (a3o rfl rfl (by simp) (fun _ => rfl) a3m)))) a1c)
    exact C6
   ·exact T8 (shareP p []).1 ⟨by simp only [List.length_cons, List.length_nil] at *; omega, (N8 p _ hgd.2.2 hss.2)⟩ (H3 (.un w p) ((shareP p []).2 : Int) (-1)) (by exact Nat.le_trans (N4 (Z8 hgd)) (by decide))
   refine ⟨⟨rfl, rfl, rfl, dT rfl, rfl⟩, .inr ⟨rfl, rfl⟩, B4, E6 rfl, fun _ => rfl, fun g42 => ?_⟩
   refine y_S rfl <| xN [1,6,10] [1,6,400006] rfl <| A3 <| A3 <| A0 <| y_M rfl <| a4d rfl rfl <| xN [1,6,10,44] [1,6,400006] rfl ?_
   refine A5 rfl ?_ ?_ <;> intro hc <;> try simp only [SL] at hc
   ·refine A3 <| A0 <| y_M rfl <| y_M rfl ?_
    (refine xO rfl rfl (by simp) rfl (fun _ => rfl) (fun _ => rfl) ?_; intro g4)
    refine y_S rfl <| xN [4,5] [4] rfl <| B2 <| B9 (E4 rfl rfl (by simp) (by exact A6 fun _ => rfl) (C3 rfl rfl (C9 B5))) ?_
    obtain ⟨h1, h2, h3⟩ := a0y hc
    show _ = AV.tup [.own 4 ((stAdd (H3 (.un w p) ((shareP p []).2 : Int) (-1)) (shareP p []).1).map stO), iV (stIx (H3 (.un w p) ((shareP p []).2 : Int) (-1)) (shareP p []).1 : Nat)]
    rw [h2, ← h1]
    rfl
   refine A8 <| A3 <| A0 <| y_M rfl <| y_B rfl <| J7 (mk := 0) (fs := [_, _, _, _]) rfl rfl rfl (dT rfl) rfl rfl (D9 rfl (D9 rfl (D9 rfl (a0x rfl (by simp) (R9 fun _ => rfl) rfl I9)))) (fun _ _ => A7 (by rfl) (A7 (B3 (by rfl)) (G1 rfl))) ?_
   intro z49 g49
   simp only [I1, List.cons_append, List.nil_append]
   rw [a9s]
   refine xA rfl rfl rfl rfl (by simp) (by simp) rfl rfl rfl rfl rfl (fun _ => rfl) (by simp only [LN]; omega) (fun _ => rfl) ?_
   intro g50
   refine y_M rfl <| H7 rfl rfl ?_
   (refine xO rfl rfl (by simp) rfl (fun _ => rfl) (fun _ => rfl) ?_; intro g4)
   refine y_S rfl <| xN [4,5] [4] rfl <| B2 <| B9 (E4 rfl rfl (by simp) (by exact A6 fun _ => rfl) (C3 rfl rfl (C9 B5))) ?_
   obtain ⟨h1, h2⟩ := X6 hc
   show _ = AV.tup [.own 4 ((stAdd (H3 (.un w p) ((shareP p []).2 : Int) (-1)) (shareP p []).1).map stO), iV (stIx (H3 (.un w p) ((shareP p []).2 : Int) (-1)) (shareP p []).1 : Nat)]
   rw [h1, h2]
   rfl
  ·rw [c2r]
   have hwl : w ≠ lW := hgd.1
   have hs1 := K8 p (s0 :: sr)
   have hsz1 : (Pl.un w p).sz = p.sz + 1 := rfl
   have hlc : (s0 :: sr).length = sr.length + 1 := rfl
   refine Y2 rfl rfl rfl (fun _ => I2 rfl) (fun _ => rfl) ?_
   intro g2
   (refine B1 rfl rfl (fun _ => rfl) ?_; intro g4)
   refine y_S rfl <| xN [1,2] [1,2] rfl <| A3 <| A0 <| y_F rfl <| y_L rfl <| y_F rfl <| y_L rfl ?_
   apply xC rfl
   ·apply B0
    ·exact B6 rfl
    exact C6
   ·exact a1b [] (by decide)
   refine ⟨⟨rfl, rfl, rfl, dT rfl, rfl⟩, .inl rfl, B4, K0, fun _ => rfl, fun g15 => ?_⟩
   simp only [List.length_map]
   refine H6 (fs := [_, iV (-1), iV (-1), _]) rfl rfl rfl rfl rfl <| y_A rfl (fun _ => rfl) ?_
   intro g6
   refine G7 rfl rfl rfl rfl (D9 rfl (D9 rfl (D9 rfl (T3 (by decide) (by decide) rfl (by simp) fun _ => I9)))) (fun _ => rfl) ⟨by decide, rfl, dT rfl, Nat.le_refl _⟩ (fun _ => rfl) (fun _ => rfl) (fun _ => A7 (by rfl) (A7 (B3 (A6 fun _ => rfl)) (by rfl))) ?_
   intro z
   simp only [I1, List.cons_append, List.nil_append]
   refine G2 ⟨fun _ => ⟨by (simp only [M5, List.nil_append, List.append_nil, List.map_cons, List.map_nil, List.cons_append]; decide +kernel), by decide +kernel⟩, [(.t 1, _), (.t 2, _), (.t 6, _), (.h 1, _), (.h 2, _), (.h 6, _), (.h 400006, _)], ⟨rfl, rfl, rfl, rfl, rfl, rfl, rfl, rfl, rfl, rfl, rfl, rfl, rfl, rfl, trivial⟩, ?_⟩
   refine A3 <| A0 <| y_F rfl <| y_F rfl <| N1 rfl rfl rfl rfl (fun _ => rfl) (fun _ => rfl) ?_
   intro g19
   refine F0 rfl rfl (by simp) rfl (fun _ => rfl) (fun _ => rfl) ?_
   intro g7
   refine xN [1,2,6,7] [1,2,6,400006,7] rfl <| A3 <| A3 <| A0 <| y_F rfl <| y_L rfl <| D8 rfl rfl <| y_M rfl <| xN [1,6,7,21,22,23] [1,6,400006,7] rfl <| B7 <| E8 <| A3 <| A0 <| G6 rfl rfl <| xN [1,6,7,21,22,23,24] [1,6,400006,7] rfl <| A3 ?_
   refine A5 rfl (fun hc => ?_) (fun hc => absurd hc (by exact fun h => Bool.noConfusion (show true = false from h)))
   refine A8 <| A3 <| B7 <| A3 <| A0 <| y_M rfl <| K9 rfl rfl rfl (fun _ => rfl) (by show (0 : Int) ≤ 0 ∧ (0 : Int) < ((1 : Nat) : Int); omega) <| y_I rfl <| y_A rfl (fun _ => rfl) ?_
   intro g9
   refine y_S rfl <| xB rfl rfl rfl rfl rfl rfl rfl rfl rfl <| xN [1,6,7,8,9,21,22,23] [1,6,400006,7,9] rfl <| A0 <| y_M rfl <| y_M rfl <| D4 rfl rfl rfl rfl (by (change 0 < _; omega)) (by (simp; done)) rfl <| Q7 rfl rfl rfl rfl rfl <| y_B rfl <| y_M rfl ?_
   apply xC rfl
   ·apply B0
    ·exact B6 rfl
    apply B0
    ·exact X1 rfl rfl (by (simp; done)) (A6 fun _ => rfl)
    exact C6
   ·exact (by have hi := ih p (s0 :: sr) ⟨by simp only [List.length_cons, List.length_nil] at *; omega, hss.2⟩ hgd.2.2 (by omega); rw [← a4k] at hi; exact hi)
   refine ⟨⟨rfl, rfl, rfl, dT rfl, rfl⟩, .inl rfl, B4, G4 (K2 fun _ => H2 rfl K7), fun _ => A7 (by rfl) (A7 (B3 (A6 fun _ => rfl)) (by rfl)), fun g35 => ?_⟩
   simp only [List.length_map]
   refine y_M rfl <| y_E rfl <| y_E rfl ?_
   (refine xO rfl rfl (by simp) rfl (fun _ => rfl) (fun _ => rfl) ?_; intro g1)
   refine W7 rfl rfl rfl <| T1 rfl rfl rfl rfl rfl ⟨by decide, rfl, dT rfl, dT rfl, rfl⟩ rfl ?_
   refine G2 ⟨fun _ => ⟨by (simp only [M5, List.nil_append, List.append_nil, List.map_cons, List.map_nil, List.cons_append]; decide +kernel), by decide +kernel⟩, [(.t 1, _), (.t 6, _), (.t 7, _), (.t 21, _), (.t 22, _), (.t 23, _), (.h 1, _), (.h 6, _), (.h 400006, _), (.h 7, _)], ⟨rfl, rfl, rfl, rfl, rfl, rfl, rfl, rfl, rfl, rfl, rfl, rfl, rfl, rfl, rfl, rfl, rfl, rfl, rfl, rfl, trivial⟩, ?_⟩
   refine A0 <| G5 rfl rfl (F5 (by omega)) <| y_M rfl <| xN [1,6,7,21,22,23] [1,6,400006,7] rfl <| E8 <| A3 <| A0 <| G6 rfl rfl <| xN [1,6,7,21,22,23,24] [1,6,400006,7] rfl <| A3 ?_
   refine A5 rfl (fun hc => absurd hc (by exact fun h => Bool.noConfusion (show false = true from h))) (fun hc => ?_)
   refine F7 <| A3 <| A0 <| y_M rfl <| O6 rfl rfl ?_
   apply xC rfl
   ·apply B0
    ·exact L0 rfl rfl rfl (by (simp; done))
    apply B0
    ·exact a1e rfl (a0v rfl (L8 (L8 (L8 (a3o rfl rfl (by simp) (fun _ => rfl) a3m)))) a1c)
    exact C6
   ·exact T8 (shareP p (s0 :: sr)).1 ⟨by simp only [List.length_cons, List.length_nil] at *; omega, (N8 p _ hgd.2.2 hss.2)⟩ (H3 (.un w p) ((shareP p (s0 :: sr)).2 : Int) (-1)) (by exact Nat.le_trans (N4 (Z8 hgd)) (by decide))
   refine ⟨⟨rfl, rfl, rfl, dT rfl, rfl⟩, .inr ⟨rfl, rfl⟩, B4, E6 rfl, fun _ => rfl, fun g42 => ?_⟩
   refine y_S rfl <| xN [1,6,10] [1,6,400006] rfl <| A3 <| A3 <| A0 <| y_M rfl <| a4d rfl rfl <| xN [1,6,10,44] [1,6,400006] rfl ?_
   refine A5 rfl ?_ ?_ <;> intro hc <;> try simp only [SL] at hc
   ·refine A3 <| A0 <| y_M rfl <| y_M rfl ?_
    (refine xO rfl rfl (by simp) rfl (fun _ => rfl) (fun _ => rfl) ?_; intro g4)
    refine y_S rfl <| xN [4,5] [4] rfl <| B2 <| B9 (E4 rfl rfl (by simp) (by exact A6 fun _ => rfl) (C3 rfl rfl (C9 B5))) ?_
    obtain ⟨h1, h2, h3⟩ := a0y hc
    show _ = AV.tup [.own 4 ((stAdd (H3 (.un w p) ((shareP p (s0 :: sr)).2 : Int) (-1)) (shareP p (s0 :: sr)).1).map stO), iV (stIx (H3 (.un w p) ((shareP p (s0 :: sr)).2 : Int) (-1)) (shareP p (s0 :: sr)).1 : Nat)]
    rw [h2, ← h1]
    rfl
   refine A8 <| A3 <| A0 <| y_M rfl <| y_B rfl <| J7 (mk := 0) (fs := [_, _, _, _]) rfl rfl rfl (dT rfl) rfl rfl (D9 rfl (D9 rfl (D9 rfl (a0x rfl (by simp) (R9 fun _ => rfl) rfl I9)))) (fun _ _ => A7 (by rfl) (A7 (B3 (by rfl)) (G1 rfl))) ?_
   intro z49 g49
   simp only [I1, List.cons_append, List.nil_append]
   rw [a9s]
   refine xA rfl rfl rfl rfl (by simp) (by simp) rfl rfl rfl rfl rfl (fun _ => rfl) (by simp only [LN]; omega) (fun _ => rfl) ?_
   intro g50
   refine y_M rfl <| H7 rfl rfl ?_
   (refine xO rfl rfl (by simp) rfl (fun _ => rfl) (fun _ => rfl) ?_; intro g4)
   refine y_S rfl <| xN [4,5] [4] rfl <| B2 <| B9 (E4 rfl rfl (by simp) (by exact A6 fun _ => rfl) (C3 rfl rfl (C9 B5))) ?_
   obtain ⟨h1, h2⟩ := X6 hc
   show _ = AV.tup [.own 4 ((stAdd (H3 (.un w p) ((shareP p (s0 :: sr)).2 : Int) (-1)) (shareP p (s0 :: sr)).1).map stO), iV (stIx (H3 (.un w p) ((shareP p (s0 :: sr)).2 : Int) (-1)) (shareP p (s0 :: sr)).1 : Nat)]
   rw [h1, h2]
   rfl
  ·rw [b6t]
   have hwl : w ≠ lW := hgd.1
   have hs1 := K8 p []
   have hs2 := K8 q (shareP p []).1
   have hsz1 : (Pl.bin w p q).sz = p.sz + q.sz + 1 := rfl
   refine Y2 rfl rfl rfl (fun _ => I2 rfl) (fun _ => rfl) ?_
   intro g2
   (refine B1 rfl rfl (fun _ => rfl) ?_; intro g4)
   refine y_S rfl <| xN [1,2] [2] rfl <| A3 <| A0 <| y_F rfl <| y_L rfl <| y_F rfl <| y_L rfl ?_
   apply xC rfl
   ·apply B0
    ·exact B6 rfl
    exact C6
   ·exact a1b [] (by decide)
   refine ⟨⟨rfl, rfl, rfl, dT rfl, rfl⟩, .inl rfl, B4, K0, fun _ => rfl, fun g15 => ?_⟩
   simp only [List.length_map]
   refine H6 (fs := [_, iV (-1), iV (-1), _]) rfl rfl rfl rfl rfl <| y_A rfl (fun _ => rfl) ?_
   intro g6
   refine G7 rfl rfl rfl rfl (D9 rfl (D9 rfl (D9 rfl (T3 (by decide) (by decide) rfl (by simp) fun _ => I9)))) (fun _ => rfl) ⟨by decide, rfl, dT rfl, Nat.le_refl _⟩ (fun _ => rfl) (fun _ => rfl) (fun _ => A7 (by rfl) (A7 (B3 (A6 fun _ => rfl)) (by rfl))) ?_
   intro z
   simp only [I1, List.cons_append, List.nil_append]
   refine G2 ⟨fun _ => ⟨by (simp only [M5, List.nil_append, List.append_nil, List.map_cons, List.map_nil, List.cons_append]; decide +kernel), by decide +kernel⟩, [(.t 1, _), (.t 2, _), (.t 6, _), (.h 2, _), (.h 6, _), (.h 400006, _)], ⟨rfl, rfl, rfl, rfl, rfl, rfl, rfl, rfl, rfl, rfl, rfl, rfl, trivial⟩, ?_⟩
   refine A3 <| A0 <| y_F rfl <| y_F rfl <| N1 rfl rfl rfl rfl (fun _ => rfl) (fun _ => rfl) ?_
   intro g19
   refine F0 rfl rfl (by simp) rfl (fun _ => rfl) (fun _ => rfl) ?_
   intro g7
   refine xN [1,2,6,7] [2,6,400006,7] rfl <| A3 <| A3 <| A0 <| y_F rfl <| y_L rfl <| D8 rfl rfl <| y_M rfl <| xN [1,6,7,21,22,23] [6,400006,7] rfl <| B7 <| E8 <| A3 <| A0 <| G6 rfl rfl <| xN [1,6,7,21,22,23,24] [6,400006,7] rfl <| A3 ?_
   refine A5 rfl (fun hc => ?_) (fun hc => absurd hc (by exact fun h => Bool.noConfusion (show true = false from h)))
   refine A8 <| A3 <| B7 <| A3 <| A0 <| y_M rfl <| K9 rfl rfl rfl (fun _ => rfl) (by show (0 : Int) ≤ 0 ∧ (0 : Int) < ((2 : Nat) : Int); omega) <| y_I rfl <| y_A rfl (fun _ => rfl) ?_
   intro g9
   refine y_S rfl <| xB rfl rfl rfl rfl rfl rfl rfl rfl rfl <| xN [1,6,7,8,9,21,22,23] [6,400006,7,9] rfl <| A0 <| y_M rfl <| y_M rfl <| D4 rfl rfl rfl rfl (by (change 0 < _; omega)) (by (simp; done)) rfl <| Q7 rfl rfl rfl rfl rfl <| y_B rfl <| y_M rfl ?_
   apply xC rfl
   ·apply B0
    ·exact B6 rfl
    apply B0
    ·exact b8l ⟨dT rfl, dT rfl⟩
    exact C6
   ·exact (by have hi := ih p [] ⟨by simp only [List.length_cons, List.length_nil] at *; omega, hss.2⟩ hgd.2.2.1 (by omega); rw [← a4k] at hi; exact hi)
   refine ⟨⟨rfl, rfl, rfl, dT rfl, rfl⟩, .inl rfl, B4, G4 (K2 fun _ => H2 rfl K7), fun _ => A7 (B3 (A6 fun _ => rfl)) (by rfl), fun g35 => ?_⟩
   simp only [List.length_map]
   refine y_M rfl <| y_E rfl <| y_E rfl ?_
   (refine xO rfl rfl (by simp) rfl (fun _ => rfl) (fun _ => rfl) ?_; intro g1)
   refine W7 rfl rfl rfl <| T1 rfl rfl rfl rfl rfl ⟨by decide, rfl, dT rfl, dT rfl, rfl⟩ rfl ?_
   refine G2 ⟨fun _ => ⟨by (simp only [M5, List.nil_append, List.append_nil, List.map_cons, List.map_nil, List.cons_append]; decide +kernel), by decide +kernel⟩, [(.t 1, _), (.t 6, _), (.t 7, _), (.t 21, _), (.t 22, _), (.t 23, _), (.h 1, _), (.h 6, _), (.h 400006, _), (.h 7, _)], ⟨rfl, rfl, rfl, rfl, rfl, rfl, rfl, rfl, rfl, rfl, rfl, rfl, rfl, rfl, rfl, rfl, rfl, rfl, rfl, rfl, trivial⟩, ?_⟩
   refine A0 <| G5 rfl rfl (F5 (by omega)) <| y_M rfl <| xN [1,6,7,21,22,23] [1,6,400006,7] rfl <| E8 <| A3 <| A0 <| G6 rfl rfl <| xN [1,6,7,21,22,23,24] [1,6,400006,7] rfl <| A3 ?_
   refine A5 rfl (fun hc => ?_) (fun hc => absurd hc (by exact fun h => Bool.noConfusion (show true = false from h)))
   refine A8 <| A3 <| B7 <| A3 <| A0 <| y_M rfl <| K9 rfl rfl rfl (fun _ => rfl) (by show (0 : Int) ≤ 1 ∧ (1 : Int) < ((2 : Nat) : Int); omega) <| y_I rfl <| y_A rfl (fun _ => rfl) ?_
   intro g9
   refine y_S rfl <| xB rfl rfl rfl rfl rfl rfl rfl rfl rfl <| xN [1,6,7,8,9,21,22,23] [1,6,400006,7,9] rfl <| A0 <| y_M rfl <| y_M rfl <| D4 rfl rfl rfl rfl (by (simp; done)) (by (simp; done)) rfl <| Q7 rfl rfl rfl rfl rfl <| y_B rfl <| y_M rfl ?_
   apply xC rfl
   ·apply B0
    ·exact B6 rfl
    apply B0
    ·exact X1 rfl rfl (by (simp; done)) (A6 fun _ => rfl)
    exact C6
   ·exact (by have hi := ih q (shareP p []).1 ⟨by simp only [List.length_cons, List.length_nil] at *; omega, (N8 p _ hgd.2.2.1 hss.2)⟩ hgd.2.2.2 (by omega); rw [← a4k] at hi; rw [c9d (by omega)] at hi; exact hi)
   refine ⟨⟨rfl, rfl, rfl, dT rfl, rfl⟩, .inl rfl, B4, G4 (K2 fun _ => H2 rfl K7), fun _ => A7 (by rfl) (A7 (B3 (A6 fun _ => rfl)) (by rfl)), fun g35 => ?_⟩
   simp only [List.length_map]
   refine y_M rfl <| y_E rfl <| y_E rfl ?_
   (refine xO rfl rfl (by simp) rfl (fun _ => rfl) (fun _ => rfl) ?_; intro g1)
   refine W7 rfl rfl rfl <| T1 rfl rfl rfl rfl rfl ⟨by decide, rfl, dT rfl, dT rfl, rfl⟩ rfl ?_
   refine G2 ⟨fun _ => ⟨by (simp only [M5, List.nil_append, List.append_nil, List.map_cons, List.map_nil, List.cons_append]; decide +kernel), by decide +kernel⟩, [(.t 1, _), (.t 6, _), (.t 7, _), (.t 21, _), (.t 22, _), (.t 23, _), (.h 1, _), (.h 6, _), (.h 400006, _), (.h 7, _)], ⟨rfl, rfl, rfl, rfl, rfl, rfl, rfl, rfl, rfl, rfl, rfl, rfl, rfl, rfl, rfl, rfl, rfl, rfl, rfl, rfl, trivial⟩, ?_⟩
   refine A0 <| G5 rfl rfl (F5 (by omega)) <| y_M rfl <| xN [1,6,7,21,22,23] [1,6,400006,7] rfl <| E8 <| A3 <| A0 <| G6 rfl rfl <| xN [1,6,7,21,22,23,24] [1,6,400006,7] rfl <| A3 ?_
   refine A5 rfl (fun hc => absurd hc (by exact fun h => Bool.noConfusion (show false = true from h))) (fun hc => ?_)
   refine F7 <| A3 <| A0 <| y_M rfl <| O6 rfl rfl ?_
   apply xC rfl
   ·apply B0
    ·exact L0 rfl rfl rfl (by (simp; done))
    apply B0
    ·exact a1e rfl (a0v rfl (L8 (L8 (L8 (a3o rfl rfl (by simp) (fun _ => rfl) a3m)))) a1c)
    exact C6
   ·exact T8 (shareP q (shareP p []).1).1 ⟨by simp only [List.length_cons, List.length_nil] at *; omega, (N8 q _ hgd.2.2.2 (N8 p _ hgd.2.2.1 hss.2))⟩ (H3 (.bin w p q) ((shareP p []).2 : Int) ((shareP q (shareP p []).1).2 : Int)) (by exact Nat.le_trans (N4 (Z8 hgd)) (by decide))
   refine ⟨⟨rfl, rfl, rfl, dT rfl, rfl⟩, .inr ⟨rfl, rfl⟩, B4, E6 rfl, fun _ => rfl, fun g42 => ?_⟩
   refine y_S rfl <| xN [1,6,10] [1,6,400006] rfl <| A3 <| A3 <| A0 <| y_M rfl <| a4d rfl rfl <| xN [1,6,10,44] [1,6,400006] rfl ?_
   refine A5 rfl ?_ ?_ <;> intro hc <;> try simp only [SL] at hc
   ·refine A3 <| A0 <| y_M rfl <| y_M rfl ?_
    (refine xO rfl rfl (by simp) rfl (fun _ => rfl) (fun _ => rfl) ?_; intro g4)
    refine y_S rfl <| xN [4,5] [4] rfl <| B2 <| B9 (E4 rfl rfl (by simp) (by exact A6 fun _ => rfl) (C3 rfl rfl (C9 B5))) ?_
    obtain ⟨h1, h2, h3⟩ := a0y hc
    show _ = AV.tup [.own 4 ((stAdd (H3 (.bin w p q) ((shareP p []).2 : Int) ((shareP q (shareP p []).1).2 : Int)) (shareP q (shareP p []).1).1).map stO), iV (stIx (H3 (.bin w p q) ((shareP p []).2 : Int) ((shareP q (shareP p []).1).2 : Int)) (shareP q (shareP p []).1).1 : Nat)]
    rw [h2, ← h1]
    rfl
   refine A8 <| A3 <| A0 <| y_M rfl <| y_B rfl <| J7 (mk := 0) (fs := [_, _, _, _]) rfl rfl rfl (dT rfl) rfl rfl (D9 rfl (D9 rfl (D9 rfl (a0x rfl (by simp) (R9 fun _ => rfl) rfl I9)))) (fun _ _ => A7 (by rfl) (A7 (B3 (by rfl)) (G1 rfl))) ?_
   intro z49 g49
   simp only [I1, List.cons_append, List.nil_append]
   rw [a9s]
   refine xA rfl rfl rfl rfl (by simp) (by simp) rfl rfl rfl rfl rfl (fun _ => rfl) (by simp only [LN]; omega) (fun _ => rfl) ?_
   intro g50
   refine y_M rfl <| H7 rfl rfl ?_
   (refine xO rfl rfl (by simp) rfl (fun _ => rfl) (fun _ => rfl) ?_; intro g4)
   refine y_S rfl <| xN [4,5] [4] rfl <| B2 <| B9 (E4 rfl rfl (by simp) (by exact A6 fun _ => rfl) (C3 rfl rfl (C9 B5))) ?_
   obtain ⟨h1, h2⟩ := X6 hc
   show _ = AV.tup [.own 4 ((stAdd (H3 (.bin w p q) ((shareP p []).2 : Int) ((shareP q (shareP p []).1).2 : Int)) (shareP q (shareP p []).1).1).map stO), iV (stIx (H3 (.bin w p q) ((shareP p []).2 : Int) ((shareP q (shareP p []).1).2 : Int)) (shareP q (shareP p []).1).1 : Nat)]
   rw [h1, h2]
   rfl
  rw [b6t]
  have hwl : w ≠ lW := hgd.1
  have hs1 := K8 p (s0 :: sr)
  have hs2 := K8 q (shareP p (s0 :: sr)).1
  have hsz1 : (Pl.bin w p q).sz = p.sz + q.sz + 1 := rfl
  have hlc : (s0 :: sr).length = sr.length + 1 := rfl
  refine Y2 rfl rfl rfl (fun _ => I2 rfl) (fun _ => rfl) ?_
  intro g2
  (refine B1 rfl rfl (fun _ => rfl) ?_; intro g4)
  refine y_S rfl <| xN [1,2] [1,2] rfl <| A3 <| A0 <| y_F rfl <| y_L rfl <| y_F rfl <| y_L rfl ?_
  apply xC rfl
  ·apply B0
   ·exact B6 rfl
   exact C6
  ·exact a1b [] (by decide)
  refine ⟨⟨rfl, rfl, rfl, dT rfl, rfl⟩, .inl rfl, B4, K0, fun _ => rfl, fun g15 => ?_⟩
  simp only [List.length_map]
  refine H6 (fs := [_, iV (-1), iV (-1), _]) rfl rfl rfl rfl rfl <| y_A rfl (fun _ => rfl) ?_
  intro g6
  refine G7 rfl rfl rfl rfl (D9 rfl (D9 rfl (D9 rfl (T3 (by decide) (by decide) rfl (by simp) fun _ => I9)))) (fun _ => rfl) ⟨by decide, rfl, dT rfl, Nat.le_refl _⟩ (fun _ => rfl) (fun _ => rfl) (fun _ => A7 (by rfl) (A7 (B3 (A6 fun _ => rfl)) (by rfl))) ?_
  intro z
  simp only [I1, List.cons_append, List.nil_append]
  refine G2 ⟨fun _ => ⟨by (simp only [M5, List.nil_append, List.append_nil, List.map_cons, List.map_nil, List.cons_append]; decide +kernel), by decide +kernel⟩, [(.t 1, _), (.t 2, _), (.t 6, _), (.h 1, _), (.h 2, _), (.h 6, _), (.h 400006, _)], ⟨rfl, rfl, rfl, rfl, rfl, rfl, rfl, rfl, rfl, rfl, rfl, rfl, rfl, rfl, trivial⟩, ?_⟩
  refine A3 <| A0 <| y_F rfl <| y_F rfl <| N1 rfl rfl rfl rfl (fun _ => rfl) (fun _ => rfl) ?_
  intro g19
  refine F0 rfl rfl (by simp) rfl (fun _ => rfl) (fun _ => rfl) ?_
  intro g7
  refine xN [1,2,6,7] [1,2,6,400006,7] rfl <| A3 <| A3 <| A0 <| y_F rfl <| y_L rfl <| D8 rfl rfl <| y_M rfl <| xN [1,6,7,21,22,23] [1,6,400006,7] rfl <| B7 <| E8 <| A3 <| A0 <| G6 rfl rfl <| xN [1,6,7,21,22,23,24] [1,6,400006,7] rfl <| A3 ?_
  refine A5 rfl (fun hc => ?_) (fun hc => absurd hc (by exact fun h => Bool.noConfusion (show true = false from h)))
  refine A8 <| A3 <| B7 <| A3 <| A0 <| y_M rfl <| K9 rfl rfl rfl (fun _ => rfl) (by show (0 : Int) ≤ 0 ∧ (0 : Int) < ((2 : Nat) : Int); omega) <| y_I rfl <| y_A rfl (fun _ => rfl) ?_
  intro g9
  refine y_S rfl <| xB rfl rfl rfl rfl rfl rfl rfl rfl rfl <| xN [1,6,7,8,9,21,22,23] [1,6,400006,7,9] rfl <| A0 <| y_M rfl <| y_M rfl <| D4 rfl rfl rfl rfl (by (change 0 < _; omega)) (by (simp; done)) rfl <| Q7 rfl rfl rfl rfl rfl <| y_B rfl <| y_M rfl ?_
  apply xC rfl
  ·apply B0
   ·exact B6 rfl
   apply B0
   ·exact X1 rfl rfl (by (simp; done)) (A6 fun _ => rfl)
   exact C6
  ·exact (by have hi := ih p (s0 :: sr) ⟨by simp only [List.length_cons, List.length_nil] at *; omega, hss.2⟩ hgd.2.2.1 (by omega); rw [← a4k] at hi; exact hi)
  refine ⟨⟨rfl, rfl, rfl, dT rfl, rfl⟩, .inl rfl, B4, G4 (K2 fun _ => H2 rfl K7), fun _ => A7 (by rfl) (A7 (B3 (A6 fun _ => rfl)) (by rfl)), fun g35 => ?_⟩
  simp only [List.length_map]
  refine y_M rfl <| y_E rfl <| y_E rfl ?_
  (refine xO rfl rfl (by simp) rfl (fun _ => rfl) (fun _ => rfl) ?_; intro g1)
  refine W7 rfl rfl rfl <| T1 rfl rfl rfl rfl rfl ⟨by decide, rfl, dT rfl, dT rfl, rfl⟩ rfl ?_
  refine G2 ⟨fun _ => ⟨by (simp only [M5, List.nil_append, List.append_nil, List.map_cons, List.map_nil, List.cons_append]; decide +kernel), by decide +kernel⟩, [(.t 1, _), (.t 6, _), (.t 7, _), (.t 21, _), (.t 22, _), (.t 23, _), (.h 1, _), (.h 6, _), (.h 400006, _), (.h 7, _)], ⟨rfl, rfl, rfl, rfl, rfl, rfl, rfl, rfl, rfl, rfl, rfl, rfl, rfl, rfl, rfl, rfl, rfl, rfl, rfl, rfl, trivial⟩, ?_⟩
  refine A0 <| G5 rfl rfl (F5 (by omega)) <| y_M rfl <| xN [1,6,7,21,22,23] [1,6,400006,7] rfl <| E8 <| A3 <| A0 <| G6 rfl rfl <| xN [1,6,7,21,22,23,24] [1,6,400006,7] rfl <| A3 ?_
  refine A5 rfl (fun hc => ?_) (fun hc => absurd hc (by exact fun h => Bool.noConfusion (show true = false from h)))
  refine A8 <| A3 <| B7 <| A3 <| A0 <| y_M rfl <| K9 rfl rfl rfl (fun _ => rfl) (by show (0 : Int) ≤ 1 ∧ (1 : Int) < ((2 : Nat) : Int); omega) <| y_I rfl <| y_A rfl (fun _ => rfl) ?_
  intro g9
  refine y_S rfl <| xB rfl rfl rfl rfl rfl rfl rfl rfl rfl <| xN [1,6,7,8,9,21,22,23] [1,6,400006,7,9] rfl <| A0 <| y_M rfl <| y_M rfl <| D4 rfl rfl rfl rfl (by (simp; done)) (by (simp; done)) rfl <| Q7 rfl rfl rfl rfl rfl <| y_B rfl <| y_M rfl ?_
  apply xC rfl
  ·apply B0
   ·exact B6 rfl
   apply B0
   ·exact X1 rfl rfl (by (simp; done)) (A6 fun _ => rfl)
   exact C6
  ·exact (by have hi := ih q (shareP p (s0 :: sr)).1 ⟨by simp only [List.length_cons, List.length_nil] at *; omega, (N8 p _ hgd.2.2.1 hss.2)⟩ hgd.2.2.2 (by omega); rw [← a4k] at hi; rw [c9d (by omega)] at hi; exact hi)
  refine ⟨⟨rfl, rfl, rfl, dT rfl, rfl⟩, .inl rfl, B4, G4 (K2 fun _ => H2 rfl K7), fun _ => A7 (by rfl) (A7 (B3 (A6 fun _ => rfl)) (by rfl)), fun g35 => ?_⟩
  simp only [List.length_map]
  refine y_M rfl <| y_E rfl <| y_E rfl ?_
  (refine xO rfl rfl (by simp) rfl (fun _ => rfl) (fun _ => rfl) ?_; intro g1)
  refine W7 rfl rfl rfl <| T1 rfl rfl rfl rfl rfl ⟨by decide, rfl, dT rfl, dT rfl, rfl⟩ rfl ?_
  refine G2 ⟨fun _ => ⟨by (simp only [M5, List.nil_append, List.append_nil, List.map_cons, List.map_nil, List.cons_append]; decide +kernel), by decide +kernel⟩, [(.t 1, _), (.t 6, _), (.t 7, _), (.t 21, _), (.t 22, _), (.t 23, _), (.h 1, _), (.h 6, _), (.h 400006, _), (.h 7, _)], ⟨rfl, rfl, rfl, rfl, rfl, rfl, rfl, rfl, rfl, rfl, rfl, rfl, rfl, rfl, rfl, rfl, rfl, rfl, rfl, rfl, trivial⟩, ?_⟩
  refine A0 <| G5 rfl rfl (F5 (by omega)) <| y_M rfl <| xN [1,6,7,21,22,23] [1,6,400006,7] rfl <| E8 <| A3 <| A0 <| G6 rfl rfl <| xN [1,6,7,21,22,23,24] [1,6,400006,7] rfl <| A3 ?_
  refine A5 rfl (fun hc => absurd hc (by exact fun h => Bool.noConfusion (show false = true from h))) (fun hc => ?_)
  refine F7 <| A3 <| A0 <| y_M rfl <| O6 rfl rfl ?_
  apply xC rfl
  ·apply B0
   ·exact L0 rfl rfl rfl (by (simp; done))
   apply B0
   ·exact a1e rfl (a0v rfl (L8 (L8 (L8 (a3o rfl rfl (by simp) (fun _ => rfl) a3m)))) a1c)
   exact C6
  ·exact T8 (shareP q (shareP p (s0 :: sr)).1).1 ⟨by simp only [List.length_cons, List.length_nil] at *; omega, (N8 q _ hgd.2.2.2 (N8 p _ hgd.2.2.1 hss.2))⟩ (H3 (.bin w p q) ((shareP p (s0 :: sr)).2 : Int) ((shareP q (shareP p (s0 :: sr)).1).2 : Int)) (by exact Nat.le_trans (N4 (Z8 hgd)) (by decide))
  refine ⟨⟨rfl, rfl, rfl, dT rfl, rfl⟩, .inr ⟨rfl, rfl⟩, B4, E6 rfl, fun _ => rfl, fun g42 => ?_⟩
  refine y_S rfl <| xN [1,6,10] [1,6,400006] rfl <| A3 <| A3 <| A0 <| y_M rfl <| a4d rfl rfl <| xN [1,6,10,44] [1,6,400006] rfl ?_
  refine A5 rfl ?_ ?_ <;> intro hc <;> try simp only [SL] at hc
  ·refine A3 <| A0 <| y_M rfl <| y_M rfl ?_
   (refine xO rfl rfl (by simp) rfl (fun _ => rfl) (fun _ => rfl) ?_; intro g4)
   refine y_S rfl <| xN [4,5] [4] rfl <| B2 <| B9 (E4 rfl rfl (by simp) (by exact A6 fun _ => rfl) (C3 rfl rfl (C9 B5))) ?_
   obtain ⟨h1, h2, h3⟩ := a0y hc
   show _ = AV.tup [.own 4 ((stAdd (H3 (.bin w p q) ((shareP p (s0 :: sr)).2 : Int) ((shareP q (shareP p (s0 :: sr)).1).2 : Int)) (shareP q (shareP p (s0 :: sr)).1).1).map stO), iV (stIx (H3 (.bin w p q) ((shareP p (s0 :: sr)).2 : Int) ((shareP q (shareP p (s0 :: sr)).1).2 : Int)) (shareP q (shareP p (s0 :: sr)).1).1 : Nat)]
   rw [h2, ← h1]
   rfl
  refine A8 <| A3 <| A0 <| y_M rfl <| y_B rfl <| J7 (mk := 0) (fs := [_, _, _, _]) rfl rfl rfl (dT rfl) rfl rfl (D9 rfl (D9 rfl (D9 rfl (a0x rfl (by simp) (R9 fun _ => rfl) rfl I9)))) (fun _ _ => A7 (by rfl) (A7 (B3 (by rfl)) (G1 rfl))) ?_
  intro z49 g49
  simp only [I1, List.cons_append, List.nil_append]
  rw [a9s]
  refine xA rfl rfl rfl rfl (by simp) (by simp) rfl rfl rfl rfl rfl (fun _ => rfl) (by simp only [LN]; omega) (fun _ => rfl) ?_
  intro g50
  refine y_M rfl <| H7 rfl rfl ?_
  (refine xO rfl rfl (by simp) rfl (fun _ => rfl) (fun _ => rfl) ?_; intro g4)
  refine y_S rfl <| xN [4,5] [4] rfl <| B2 <| B9 (E4 rfl rfl (by simp) (by exact A6 fun _ => rfl) (C3 rfl rfl (C9 B5))) ?_
  obtain ⟨h1, h2⟩ := X6 hc
  show _ = AV.tup [.own 4 ((stAdd (H3 (.bin w p q) ((shareP p (s0 :: sr)).2 : Int) ((shareP q (shareP p (s0 :: sr)).1).2 : Int)) (shareP q (shareP p (s0 :: sr)).1).1).map stO), iV (stIx (H3 (.bin w p q) ((shareP p (s0 :: sr)).2 : Int) ((shareP q (shareP p (s0 :: sr)).1).2 : Int)) (shareP q (shareP p (s0 :: sr)).1).1 : Nat)]
  rw [h1, h2]
  rfl

theorem a6h : F6 Tryz.f5 = [0, 2, 4, 13, 3, 5, 9] := by kernel_rfl
theorem a6y (s : List UInt8) (hs : s.length ≤ 1048576) : CW cxT 5 [tV s] = some (.own 4 ((sharesT s).map stO), []) := by
 refine E7 rfl Tryz.func5 rfl ⟨by kernel_rfl, rfl, dT rfl, dT rfl, by decide⟩ a6h <| A3 <| A0 ?_
 (refine B1 rfl rfl (fun _ => rfl) ?_; intro g2)
 refine xN [0] [] rfl <| A3 <| A0 <| y_M rfl ?_
 apply xC rfl
 ·apply B0
  ·exact B6 rfl
  exact C6
 ·exact c1c s hs
 refine ⟨⟨rfl, rfl, rfl, dT rfl, rfl⟩, .inl rfl, B4, L6 rfl, fun _ => rfl, fun g9 => ?_⟩
 refine y_M rfl <| y_E rfl <| y_E rfl <| y_A rfl (fun _ => rfl) ?_
 intro g3
 refine xB rfl rfl rfl rfl rfl rfl rfl rfl rfl <| y_S rfl <| xN [3,4] [3] rfl <| A3 <| A3 <| A0 <| y_M rfl <| N7 rfl <| xN [3,13] [3] rfl ?_
 refine A5 rfl ?_ ?_ <;> intro hc <;> try simp only [SL] at hc
 ·refine A3 <| A0 ?_
  (refine B1 rfl rfl (fun _ => rfl) ?_; intro g2)
  refine xN [2] [2] rfl <| B2 <| S6 rfl rfl (by simp) (by rfl) trivial ?_
  rw [a7p hc]
  rfl
 refine A8 <| A3 <| A0 <| y_B rfl ?_
 obtain ⟨t, ht1, ht2, ht3⟩ := b2v hc
 obtain ⟨hst, hwf, hgd, hsl, hsz⟩ := a5s ht1
 have hsl2 := K8 t []
 rw [d2z ht1, a4k]
 apply xC rfl
 ·apply B0
  ·exact B6 rfl
  apply B0
  ·exact b8l ⟨dT rfl, dT rfl⟩
  exact C6
 ·exact d0f t [] ⟨by simp only [List.length_nil]; omega, fun _ h => by cases h⟩ hgd
 refine ⟨⟨rfl, rfl, rfl, dT rfl, rfl⟩, .inl rfl, B4, G4 (K2 fun _ => H2 rfl K7), fun _ => A7 (B3 (A6 fun _ => rfl)) (by rfl), fun g16 => ?_⟩
 simp only [List.length_map]
 refine y_M rfl <| y_E rfl <| y_E rfl ?_
 (refine xO rfl rfl (by simp) rfl (fun _ => rfl) (fun _ => rfl) ?_; intro g5)
 refine y_S rfl <| xN [5] [5] rfl <| A3 <| A0 <| y_M rfl ?_
 apply xC rfl
 ·apply B0
  ·exact X1 rfl rfl (by (simp; done)) (A6 fun _ => rfl)
  exact C6
 ·exact c8e (shareP t []).1 (by simp only [I8]; simp only [List.length_nil] at hsl2; omega)
 refine ⟨⟨rfl, rfl, rfl, dT rfl, rfl⟩, .inl rfl, B4, K0, fun _ => rfl, fun g20 => ?_⟩
 simp only [List.length_map]
 (refine xO rfl rfl (by simp) rfl (fun _ => rfl) (fun _ => rfl) ?_; intro g2)
 refine xN [2] [2] rfl <| B2 <| S6 rfl rfl (by simp) (by exact A6 fun _ => rfl) trivial ?_
 rw [a6l ht1]

theorem b5o : F6 Tryz.f26 = [0, 1, 4, 10, 5, 14, 25] := by kernel_rfl
theorem c9i (xs : List Int) (hl : xs.length ≤ 1048576) : CW cxT 26 [L xs, L xs] = some (bV true, []) := by
 refine E7 rfl Tryz.func26 rfl ⟨by kernel_rfl, rfl, dT rfl, dT rfl, by decide⟩ b5o <| A3 <| A0 <| y_S rfl <| xN [0,1] [] rfl <| A3 <| A3 <| A0 <| y_M rfl <| D8 rfl rfl <| y_M rfl <| D8 rfl rfl <| Z3 rfl rfl <| xN [0,1,10] [] rfl ?_
 refine A5 rfl (fun hc => ?_) (fun hc => ?_)
 ·try simp only [SD] at hc
  exact absurd trivial hc
 try simp only [SL] at hc
 refine A8 <| A3 <| A3 <| A0 <| y_S rfl <| xN [0,1,5] [] rfl <| B7 <| I4 (β := Nat) [(.t 0, _), (.t 1, _)] (fun (i : Nat) => [(.t 5, iV i)]) (fun (i : Nat) => i ≤ xs.length) (fun (i : Nat) => xs.length - i) 0 ⟨rfl, rfl, rfl, trivial⟩ (Nat.zero_le _) ?_
 intro i hb
 have hi1 := hb
 refine A3 <| A3 <| A0 <| y_M rfl <| y_M rfl <| D8 rfl rfl <| G6 rfl rfl <| xN [0,1,5,14] [] rfl ?_
 refine A5 rfl ?_ ?_ <;> intro hc <;> try simp only [SL] at hc
 ·refine A8 <| A3 <| B7 <| A3 <| A0 <| y_M rfl <| y_M rfl <| E9 rfl rfl rfl (fun _ => rfl) (by omega) <| y_I rfl <| y_M rfl <| y_M rfl <| E9 rfl rfl rfl (fun _ => rfl) (by omega) <| y_I rfl <| Z3 rfl rfl ?_
  refine G2 ⟨fun _ => ⟨by decide +kernel, by decide +kernel⟩, [(.t 0, _), (.t 1, _), (.t 5, _), (.t 25, _)], ⟨rfl, rfl, rfl, rfl, rfl, rfl, rfl, rfl, trivial⟩, ?_⟩
  refine A5 rfl (fun hc => ?_) (fun hc => ?_)
  ·try simp only [SD] at hc
   exact absurd trivial hc
  try simp only [SL] at hc
  refine A8 <| A0 <| y_M rfl <| G5 rfl rfl (F5 (by omega)) <| y_S rfl <| xN [0,1,5] [] rfl ?_
  refine ⟨i + 1, (by omega), (by omega), ⟨rfl, rfl, rfl, trivial⟩⟩
 refine F7 <| A3 <| A0 <| y_S rfl <| xN [4] [] rfl <| B2 <| C0 rfl rfl trivial ?_
 rfl

theorem b0u : F6 Tryz.f16 = [0, 1, 4, 5, 9] := by kernel_rfl
theorem c2m (xs : List Int) (hl : xs.length ≤ 1048576) (k : Int) (hk : 0 ≤ k ∧ k ≤ 1000000000) : ∃ res outs, (fun res outs => res = iV (k + xs.length) ∧ outs = [(mkI k xs.length).map iV]) res outs ∧ CW cxT 16 [.own 1 (xs.map iV), iV k] = some (res, outs) := by
 refine a8y rfl Tryz.func16 rfl ⟨by kernel_rfl, rfl, dT rfl, dT rfl, by decide⟩ b0u <| A3 <| A0 <| y_S rfl <| xN [0,1] [0] rfl <| A3 <| A3 <| A0 <| y_S rfl <| xN [0,1,5] [0] rfl <| B7 <| I4 (β := Nat × List Int × Int) [(.t 0, _)] (fun (z : Nat × List Int × Int) => match z with | (i, ys, q) => [(.t 5, iV i), (.t 1, iV q), (.h 0, .obj 1 1 1 (ys.map iV))]) (fun (z : Nat × List Int × Int) => match z with | (i, ys, q) => i ≤ xs.length ∧ ys.length = xs.length ∧ q = k + i ∧ ∀ j, j < i → ys.getD j default = k + j) (fun (z : Nat × List Int × Int) => match z with | (i, ys, q) => xs.length - i) (0, xs, k) ⟨rfl, rfl, rfl, rfl, trivial⟩ ⟨Nat.zero_le _, rfl, by simp, fun j h => by omega⟩ ?_
 intro z hb
 obtain ⟨i, ys, q⟩ := z
 try dsimp only at hb
 obtain ⟨hi1, hi2, hq, hi3⟩ := hb
 refine A3 <| A3 <| A0 <| y_M rfl <| y_M rfl <| H7 rfl rfl <| G6 rfl rfl <| xN [0,1,5,9] [0] rfl ?_
 refine A5 rfl ?_ ?_ <;> intro hc <;> try simp only [SL] at hc
 ·refine A8 <| A3 <| B7 <| A3 <| A0 <| y_M rfl <| y_M rfl <| y_M rfl <| D4 rfl rfl rfl rfl (by (simp; omega)) (by (simp; omega)) rfl <| b8z rfl rfl rfl (by omega) (fun _ _ => ⟨rfl, rfl, dT rfl, dT rfl, rfl, rfl⟩) (by decide) (by exact a1v (A6 fun _ => rfl)) <| xN [0,1,5] [0] rfl <| A0 <| y_M rfl <| G5 rfl rfl (F5 (by omega)) <| y_S rfl <| xN [0,1,5] [0] rfl <| A0 <| y_M rfl <| G5 rfl rfl (F5 (by omega)) <| y_S rfl <| xN [0,1,5] [0] rfl ?_
  refine ⟨(i + 1, ys.set i q, q + 1), ⟨by omega, by simp [hi2], by omega, fun j hj => by rw [a8h (by omega)]; by_cases e : j = i; (· rw [if_pos e, e, hq]); (· rw [if_neg e]; exact hi3 j (by omega))⟩, (by simp only; omega), ⟨rfl, rfl, rfl, rfl, trivial⟩⟩
 refine F7 <| A3 <| A0 <| y_M rfl <| y_S rfl <| xN [4] [0] rfl <| B2 ?_
 refine ⟨_, _, ?_, a7g rfl rfl (c7x rfl (R9 fun _ => rfl))⟩
 exact ⟨by rw [show q = k + (xs.length : Int) by omega], by rw [b5x (xs := ys) (ys := mkI k xs.length) (by simp [hi2]) fun j hj => by rw [hi3 j (by omega), b9g (by omega)]]⟩

theorem b0o : F6 Tryz.f17 = [0, 1, 4, 5, 9, 17] := by kernel_rfl
theorem c4d (n : Nat) (hl : n ≤ 1048576) (k : Int) (hk : 0 ≤ k ∧ k ≤ 1000000000) : CW cxT 17 [L (mkI k n), iV k] = some (iV (k + n), []) := by
 have hml := c3z k n
 refine E7 rfl Tryz.func17 rfl ⟨by kernel_rfl, rfl, dT rfl, dT rfl, by decide⟩ b0o <| A3 <| A0 <| y_S rfl <| xN [0,1] [] rfl <| A3 <| A3 <| A0 <| y_S rfl <| xN [0,1,5] [] rfl <| B7 <| I4 (β := Nat × Int) [(.t 0, _)] (fun (z : Nat × Int) => match z with | (i, q) => [(.t 5, iV i), (.t 1, iV q)]) (fun (z : Nat × Int) => match z with | (i, q) => i ≤ n ∧ q = k + i) (fun (z : Nat × Int) => match z with | (i, q) => n - i) (0, k) ⟨rfl, rfl, rfl, trivial⟩ ⟨Nat.zero_le _, by simp⟩ ?_
 intro z hb
 obtain ⟨i, q⟩ := z
 try dsimp only at hb
 obtain ⟨hi1, hq⟩ := hb
 have hgi : i < n → (mkI k n).getD i default = q := fun h => by rw [hq]; exact b9g (k := k) h
 refine A3 <| A3 <| A0 <| y_M rfl <| y_M rfl <| D8 rfl rfl <| G6 rfl rfl <| xN [0,1,5,9] [] rfl ?_
 refine A5 rfl ?_ ?_ <;> intro hc <;> try simp only [SL] at hc
 ·refine A8 <| A3 <| B7 <| A3 <| A3 <| A0 <| y_M rfl <| y_M rfl <| E9 rfl rfl rfl (fun _ => rfl) (by omega) <| y_I rfl <| y_M rfl <| Z3 rfl rfl <| xN [0,1,5,17] [] rfl ?_
  refine A5 rfl (fun hc => ?_) (fun hc => ?_)
  ·try simp only [SD] at hc
   exact absurd (by (rw [hgi (by omega)]; done)) hc
  try simp only [SL] at hc
  refine A8 <| A0 <| y_M rfl <| G5 rfl rfl (F5 (by omega)) <| y_S rfl <| xN [0,1,5] [] rfl <| A0 <| y_M rfl <| G5 rfl rfl (F5 (by omega)) <| y_S rfl <| xN [0,1,5] [] rfl ?_
  refine ⟨(i + 1, q + 1), ⟨by omega, by omega⟩, (by simp only; omega), ⟨rfl, rfl, rfl, trivial⟩⟩
 refine F7 <| A3 <| A0 <| y_M rfl <| y_S rfl <| xN [4] [] rfl <| B2 <| C0 rfl rfl trivial ?_
 rw [show q = k + (n : Int) by omega]

theorem a6v : F6 Tryz.f14 = [0, 1, 4, 3, 2, 9, 14, 19, 25] := by kernel_rfl
theorem b8t (s : Stp) (hs : s.ns.length ≤ 1048576) : CW cxT 14 [stA s, stA s] = some (bV true, []) := by
 refine E7 rfl Tryz.func14 rfl ⟨by kernel_rfl, rfl, dT rfl, dT rfl, by decide⟩ a6v <| A3 <| A0 <| Y2 rfl rfl rfl (fun _ => I2 rfl) (fun _ => rfl) ?_
 intro g2
 refine Y2 rfl rfl rfl (fun _ => I2 rfl) (fun _ => rfl) ?_
 intro g3
 refine y_S rfl <| xN [2,3] [2,3] rfl <| A3 <| A3 <| A0 <| y_F rfl <| y_L rfl <| y_F rfl <| y_L rfl <| c8k rfl rfl <| xN [2,3,9] [2,3] rfl ?_
 refine A5 rfl (fun hc => ?_) (fun hc => ?_)
 ·try simp only [SD] at hc
  exact absurd hc (by simp)
 try simp only [SL] at hc
 refine A8 <| A3 <| A3 <| A0 <| y_F rfl <| y_L rfl <| y_F rfl <| y_L rfl <| Z3 rfl rfl <| xN [2,3,14] [2,3] rfl ?_
 refine A5 rfl (fun hc => ?_) (fun hc => ?_)
 ·try simp only [SD] at hc
  exact absurd hc (by simp)
 try simp only [SL] at hc
 refine A8 <| A3 <| A3 <| A0 <| y_F rfl <| y_L rfl <| y_F rfl <| y_L rfl <| Z3 rfl rfl <| xN [2,3,19] [2,3] rfl ?_
 refine A5 rfl (fun hc => ?_) (fun hc => ?_)
 ·try simp only [SD] at hc
  exact absurd hc (by simp)
 try simp only [SL] at hc
 refine A8 <| A3 <| A3 <| A0 <| y_F rfl <| y_L rfl <| y_F rfl <| y_L rfl ?_
 refine xC2 rfl rfl rfl (c9i s.ns hs) ⟨rfl, rfl, rfl⟩ rfl rfl fun g24 => ?_
 refine N7 rfl <| xN [25] [] rfl ?_
 refine A5 rfl (fun hc => ?_) (fun hc => ?_)
 ·try simp only [SD] at hc
  exact absurd hc (by simp)
 try simp only [SL] at hc
 refine A8 <| A3 <| A0 <| y_S rfl <| xN [4] [] rfl <| B2 <| C0 rfl rfl trivial ?_
 rfl
end Go.Proofs.YtagllmiiglicfaaGreatDoor
