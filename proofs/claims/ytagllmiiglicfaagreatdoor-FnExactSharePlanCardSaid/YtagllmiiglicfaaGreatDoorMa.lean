/- The abstract machine, part 1 of 4: it runs the model's code on abstract values and is proved sound over any program. Conditions: none. -/
import Derived.Laws.StructEq
import Derived.Laws.Tables
import Derived.Orders
import Derived.OrdersIn
import Derived.WalkKit

set_option linter.unusedVariables false
set_option linter.unusedSimpArgs false
section
namespace Go.Mv
open Go
inductive Loc where
 | t (i : Nat)
 | h (i : Nat)
def Loc.beq : Loc → Loc → Bool
 | .t i, .t j => i == j
 | .h i, .h j => i == j
 | _, _ => false
inductive AV where
 | undef
 | val (v : Value)
 | nil
 | list (es : List AV)
 | own (s : Nat) (es : List AV)
 | ownp (es : List AV) (i j : Nat)
 | sl (id g : Nat) (p : Option (Nat × Nat)) (off n : Nat)
 | ptr (id g : Nat) (p : Option (Nat × Nat)) (i j : Nat)
 | ipt (e : AV) (j : Nat)
 | agg (fs : List AV)
 | tup (vs : List AV)
 | clo (f : Nat) (caps : List AV)
 | obj (g m s : Nat) (es : List AV)
 | dead (g : Nat)
 | ifc
 | asl (id g i j n : Nat)
 deriving Inhabited
abbrev St := Loc → AV
abbrev Ws := List (Loc × AV)
def St.upd (st : St) (l : Loc) (a : AV) : St := fun k => if Loc.beq k l then a else st k
def St.upds (st : St) : Ws → St
 | [] => st
 | (l, a) :: r => (st.upd l a).upds r
def leaves : AV → List AV
 | .agg fs => fs
 | a => [a]
def leafAt (es : List AV) (i j : Nat) : Option AV := (es[i]?).bind fun e => (leaves e)[j]?
def F9 : AV → Nat
 | .obj g _ _ _ => g
 | .dead g => g
 | _ => 0
mutual
def frz : AV → AV
 | .own _ es => .list (frzL es)
 | .agg fs => .agg (frzL fs)
 | .undef => .undef
 | .val v => .val v
 | .nil => .nil
 | .list es => .list es
 | .ownp es i j => .ownp es i j
 | .sl id g p off n => .sl id g p off n
 | .ptr id g p i j => .ptr id g p i j
 | .ipt e j => .ipt e j
 | .tup vs => .tup vs
 | .clo f cs => .clo f cs
 | .obj g m s es => .obj g m s es
 | .dead g => .dead g
 | .ifc => .ifc
 | .asl id g i j n => .asl id g i j n
def frzL : List AV → List AV
 | [] => []
 | a :: r => frz a :: frzL r
end
def a0h : AV → Bool
 | .ipt _ _ => true
 | _ => false
def immLeaf : AV → Bool
 | .val _ => true
 | .nil => true
 | .list _ => true
 | .clo _ cs => cs.all a0h
 | .ifc => true
 | _ => false
def isOwn : AV → Bool
 | .own _ _ => true
 | _ => false
def I0 : AV → Bool
 | .nil => true
 | _ => false
def J5 : AV → Bool
 | .agg fs => fs.all fun l => isOwn l || immLeaf l
 | a => isOwn a || immLeaf a
def I5 : AV → Bool
 | .agg fs => fs.all immLeaf
 | a => immLeaf a
def c6w : AV → Bool
 | .agg fs => fs.all fun l => immLeaf l && !I0 l
 | a => immLeaf a
def M3 (es : List AV) : Bool := es.all I5
def D6 (es : List AV) : Bool := es.all J5
def tid (d k : Nat) : Nat := 1000000 * (k + 1) + d
def fid (d j : Nat) : Nat := 100000 * (j + 1) + d
inductive Rd (α : Type) where
 | ret (a : α)
 | fail
 | read (l : Loc) (k : AV → Rd α)
 | need (p : Prop) (d : Decidable p) (k : Rd α)
 | call (f : Nat) (args : List AV) (k : AV → List (List AV) → Rd α)
namespace Rd
def bind {α β : Type} : Rd α → (α → Rd β) → Rd β
 | .ret a, f => f a
 | .fail, _ => .fail
 | .read l k, f => .read l fun v => (k v).bind f
 | .need p d k, f => .need p d (k.bind f)
 | .call g args k, f => .call g args fun r o => (k r o).bind f
instance : Monad Rd where
 pure := Rd.ret
 bind := Rd.bind
def run {α : Type} (C : Nat → List AV → Option (AV × List (List AV))) (st : St) : Rd α → Option (α × List Loc)
 | .ret a => some (a, [])
 | .fail => none
 | .read l k => match (k (st l)).run C st with
  | some (a, ls) => some (a, l :: ls)
  | none => none
 | .need _ d k => match d with
  | isTrue _ => k.run C st
  | isFalse _ => none
 | .call f args k => match C f args with
  | some (r, o) => (k r o).run C st
  | none => none
end Rd
def rd (l : Loc) : Rd AV := .read l .ret
def need (p : Prop) [d : Decidable p] : Rd Unit := .need p d (.ret ())
def doCall (f : Nat) (args : List AV) : Rd (AV × List (List AV)) := .call f args fun r o => .ret (r, o)
def Ws.look : Ws → Loc → Option AV
 | [], _ => none
 | (k, a) :: r, l => match Ws.look r l with
  | some v => some v
  | none => if Loc.beq l k then some a else none
def Rd.over {α : Type} (ws : Ws) : Rd α → Rd α
 | .ret a => .ret a
 | .fail => .fail
 | .read l k => match Ws.look ws l with
  | some v => (k v).over ws
  | none => .read l fun v => (k v).over ws
 | .need p d k => .need p d (k.over ws)
 | .call f args k => .call f args fun r o => (k r o).over ws
def RW (α : Type) := Rd (α × Ws)
namespace RW
def bind {α β : Type} (x : RW α) (f : α → RW β) : RW β :=
 Rd.bind (α := α × Ws) x fun a => Rd.bind (α := β × Ws) (Rd.over a.2 (f a.1)) fun b => .ret (b.1, a.2 ++ b.2)
instance : Monad RW where
 pure a := Rd.ret (a, [])
 bind := RW.bind
def fail {α : Type} : RW α := Rd.fail
end RW
def up {α : Type} (x : Rd α) : RW α := Rd.bind x fun a => .ret (a, [])
def wr (ws : Ws) : RW Unit := Rd.ret ((), ws)
inductive TK where
 | bad
 | other
 | int (k : IntKind)
 | bool
 | string
 | slice (elem : Nat)
 | array (n elem : Nat)
 | struct (fs : List (Nat × Nat))
 | ptr (elem : Nat)
structure TyS where
 size : Nat
 bytes : Nat
 k : TK
 zero : AV
def ofConst : Value → AV
 | .slice none 0 0 => .nil
 | .agg cs => .agg (cs.toList.map fun v => match v with | .slice none 0 0 => .nil | v => .val v)
 | .func (.func f) first captured => if first.size = 0 ∧ captured.size = 0 then .clo f [] else .val (.func (.func f) first captured)
 | v => .val v
def tyS (P : Program) (T : Nat) : TyS :=
 match P.info? T with
 | none => ⟨0, 0, .bad, .undef⟩
 | some i => ⟨i.size, i.bytes,
   (match P.underlying T with
    | some (.int k) => .int k
    | some .bool => .bool
    | some .string => .string
    | some (.slice e) => .slice e
    | some (.array n e) => .array n e
    | some (.struct fs) => .struct (fs.toList.map fun f => (f.offset, f.type))
    | some (.pointer e) => .ptr e
    | some _ => .other
    | none => .bad),
   (match i.zero with | some v => ofConst v | none => .undef)⟩
structure Cx where
 P : Program
 md : Nat → Nat → Nat
 ext : Nat → Option (List AV → Option (AV × List (List AV)))
 it : Nat → Option (List AV → Option (List (List Value))) := fun _ => none
 gl : Nat → Option AV := fun _ => none
 mp : Nat → Option (List (ByteArray × Value)) := fun _ => none
 fz : Nat → Bool := fun _ => false
 fzB : Nat → Nat → Bool := fun _ _ => false
def rdO : Operand → Rd AV
 | .tmp t => rd (.t t)
 | .const v => .ret (ofConst v)
 | .func f => .ret (.clo f [])
 | .global g => .ret (.val (.pointer (some ⟨g, 0, none⟩)))
def rdNode (id g : Nat) (p : Option (Nat × Nat)) : Rd (Nat × Nat × List AV) :=
 .read (.h id) fun o => match o with
  | .obj g' m s es => do
   need (g' = g)
   match p with
   | none => .ret (m, s, es)
   | some (i, j) => match leafAt es i j with
    | some (.own s' es') => .ret (m, s', es')
    | _ => .fail
  | _ => .fail
def bxB (m : Nat) (p : Option (Nat × Nat)) : Bool := p.isNone && (m == 3 || m == 4)
def slc : AV → Rd (List AV)
 | .list es => .ret es
 | .nil => .ret []
 | .sl id g p off n => do
  let (m, _, es) ← rdNode id g p
  need (bxB m p = false ∧ off + n ≤ es.length)
  .ret ((es.drop off).take n)
 | _ => .fail
def putAt (e : AV) (j : Nat) (v : AV) : AV :=
 match e, v with
 | .agg fs, .agg gs => .agg (fs.take j ++ gs ++ fs.drop (j + gs.length))
 | .agg fs, l => .agg (fs.set j l)
 | _, v => v
def wrNode (id : Nat) (p : Option (Nat × Nat)) (es' : List AV) : Rd Ws :=
 .read (.h id) fun o => match o with
  | .obj g m s es => match p with
   | none => .ret [(.h id, .obj g m s es')]
   | some (i, j) => match es[i]?, leafAt es i j with
    | some e, some (.own s' _) => .ret [(.h id, .obj g m s (es.set i (putAt e j (.own s' es'))))]
    | _, _ => .fail
  | _ => .fail
def freeze : AV → RW (List AV)
 | .list es => pure es
 | .nil => pure []
 | .sl id g p off n => do
  let (m, s, es) ← up (rdNode id g p)
  up (need (bxB m p = false ∧ off + n ≤ es.length))
  if m = 2 then pure ((es.drop off).take n) else do
   up (need (m = 0 ∧ D6 es = true))
   match p with
   | none => do
    wr [(.h id, .obj g 2 s (frzL es))]
    pure (((frzL es).drop off).take n)
   | some (i, j) => do
    let o ← up (rd (.h id))
    match o with
    | .obj _ m' s' ps => match ps[i]? with
     | some e => do
      wr [(.h id, .obj g m' s' (ps.set i (putAt e j (.list (frzL es)))))]
      pure (((frzL es).drop off).take n)
     | none => RW.fail
    | _ => RW.fail
 | _ => RW.fail
def b1z : Value → Bool
 | .agg _ => false
 | .tuple _ => false
 | _ => true
def H0 (m : Nat) (cur : AV) (f : Nat) (v : AV) : RW AV :=
 match v with
 | .val v => do up (need (b1z v = true)); pure (.val v)
 | .clo k cs => do up (need (cs.all a0h = true)); pure (.clo k cs)
 | .list es => pure (.list es)
 | .ptr id g p i j => do up (need (m = 0)); pure (.ptr id g p i j)
 | .nil => match cur with
  | .nil => if m = 2 then pure (.list []) else pure .nil
  | _ => pure (.list [])
 | .sl id g p off n =>
  if m = 3 then
   if 100000 ≤ id ∧ p = none ∧ off = 0 ∧ id ≠ f then do
    let (m', s, es) ← up (rdNode id g none)
    if m' = 0 then do
     up (need (n ≤ es.length))
     wr [(.h id, .dead g)]
     let o ← up (rd (.h f))
     wr [(.h f, .obj (F9 o + 1) 0 s (es.take n))]
     pure (.sl f (F9 o + 1) none 0 n)
    else do
     let es ← freeze (.sl id g p off n)
     pure (.list es)
   else pure (.sl id g p off n)
  else if m = 0 ∧ p = none ∧ off = 0 ∧ I0 cur = true then do
   let (m', s, es) ← up (rdNode id g none)
   if m' = 0 then do
    up (need (n ≤ es.length ∧ D6 es = true))
    wr [(.h id, .dead g)]
    pure (.own s (frzL (es.take n)))
   else do
    let es ← freeze (.sl id g p off n)
    pure (.list es)
  else do
   let es ← freeze (.sl id g p off n)
   pure (.list es)
 | _ => RW.fail
def absorbLeaves (m f : Nat) : Nat → List AV → List AV → RW (List AV)
 | _, _, [] => pure []
 | j, cs, v :: vs => do
  let v' ← H0 m (cs.headD .undef) (fid f j) v
  let vs' ← absorbLeaves m f (j + 1) cs.tail vs
  pure (v' :: vs')
def absorb (m f : Nat) (j : Nat) (cs : List AV) (v : AV) : RW AV :=
 match v with
 | .agg fs => do
  let fs' ← absorbLeaves m f j cs fs
  pure (.agg fs')
 | v => H0 m (cs.headD .undef) (fid f j) v
def a3l (id g : Nat) (p : Option (Nat × Nat)) (i j : Nat) (l : AV) : AV :=
 match l with
 | .own _ es => match p with
  | none => .sl id g (some (i, j)) 0 es.length
  | some _ => .undef
 | l => l
def viewLeaves (id g : Nat) (p : Option (Nat × Nat)) (i : Nat) : Nat → List AV → List AV
 | _, [] => []
 | j, l :: ls => a3l id g p i j l :: viewLeaves id g p i (j + 1) ls
def O3 : TK → Bool
 | .bad => true
 | _ => false
def a1g : TK → Bool
 | .struct _ => true
 | .array _ _ => true
 | _ => false
def I8 : Nat := 4294967296
def inI (k : IntKind) (x : Int) : Prop := k.min ≤ x ∧ x ≤ k.max
instance (k : IntKind) (x : Int) : Decidable (inI k x) := inferInstanceAs (Decidable (_ ∧ _))
def b2k : TK → AV → AV → Option Bool
 | .int _, .val (.int k a), .val (.int k' b) => if k = k' then some (a == b) else none
 | .bool, .val (.bool a), .val (.bool b) => some (a == b)
 | .string, .val (.string a), .val (.string b) => some (a.toList == b.toList)
 | _, _, _ => none
def b0c : List TK → List AV → List AV → Option Bool
 | [], [], [] => some true
 | k :: ks, a :: r, b :: s => match b2k k a b, b0c ks r s with
  | some x, some y => some (x && y)
  | _, _ => none
 | _, _, _ => none
def intBin (op : BinOp) (k : IntKind) (a b : Int) : Rd AV :=
 match op with
 | .add => do need (inI k (a + b)); .ret (.val (.int k (a + b)))
 | .sub => do need (inI k (a - b)); .ret (.val (.int k (a - b)))
 | .mul => do need (inI k (a * b)); .ret (.val (.int k (a * b)))
 | .quo => do need (b ≠ 0 ∧ inI k (a.tdiv b)); .ret (.val (.int k (a.tdiv b)))
 | .rem => do need (b ≠ 0); .ret (.val (.int k (a.tmod b)))
 | .eql => .ret (.val (.bool (a == b)))
 | .neq => .ret (.val (.bool (a != b)))
 | .lss => .ret (.val (.bool (decide (a < b))))
 | .leq => .ret (.val (.bool (decide (a ≤ b))))
 | .gtr => .ret (.val (.bool (decide (b < a))))
 | .geq => .ret (.val (.bool (decide (b ≤ a))))
 | .shl => do need (0 ≤ b ∧ b < k.bits ∧ inI k (a * 2 ^ b.toNat)); .ret (.val (.int k (a * 2 ^ b.toNat)))
 | .shr => do need (0 ≤ b ∧ b < k.bits); .ret (.val (.int k (a.fdiv (2 ^ b.toNat))))
 | .and => .ret (.val (.int k (k.wrap ((BitVec.ofInt k.bits a &&& BitVec.ofInt k.bits b).toNat))))
 | .or => .ret (.val (.int k (k.wrap ((BitVec.ofInt k.bits a ||| BitVec.ofInt k.bits b).toNat))))
 | .xor => .ret (.val (.int k (k.wrap ((BitVec.ofInt k.bits a ^^^ BitVec.ofInt k.bits b).toNat))))
 | .andNot => .fail
def b4c (op : BinOp) (a b : ByteArray) : Rd AV :=
 match op with
 | .add => do need (a.size + b.size ≤ I8); .ret (.val (.string (a ++ b)))
 | .eql => .ret (.val (.bool (a.toList == b.toList)))
 | .neq => .ret (.val (.bool (!(a.toList == b.toList))))
 | _ => .fail
def a2k (ks : List TK) (op : BinOp) (a b : AV) : Rd AV :=
 match a, b with
 | .val (.int k x), .val (.int k' y) => match op with
  | .shl => intBin .shl k x y
  | .shr => intBin .shr k x y
  | op => do need (k = k'); intBin op k x y
 | .val (.string x), .val (.string y) => b4c op x y
 | .val (.bool x), .val (.bool y) => match op with
  | .eql => .ret (.val (.bool (x == y)))
  | .neq => .ret (.val (.bool (!(x == y))))
  | _ => .fail
 | .ifc, .val .nilIface => match op with
  | .eql => .ret (.val (.bool false))
  | .neq => .ret (.val (.bool true))
  | _ => .fail
 | .val .nilIface, .val .nilIface => match op with
  | .eql => .ret (.val (.bool true))
  | .neq => .ret (.val (.bool false))
  | _ => .fail
 | .agg xs, .agg ys => match op, b0c ks xs ys with
  | .eql, some b => .ret (.val (.bool b))
  | .neq, some b => .ret (.val (.bool (!b)))
  | _, _ => .fail
 | _, _ => .fail
def unA (op : UnOp) (a : AV) : Rd AV :=
 match op, a with
 | .neg, .val (.int k x) => do need (inI k (0 - x)); .ret (.val (.int k (-x)))
 | .not, .val (.bool b) => .ret (.val (.bool (!b)))
 | _, _ => .fail
def max2 (a b : AV) : Rd AV := match a, b with
 | .val (.int k x), .val (.int k' y) => do need (k = k'); .ret (.val (.int k (max x y)))
 | _, _ => .fail
def min2 (a b : AV) : Rd AV := match a, b with
 | .val (.int k x), .val (.int k' y) => do need (k = k'); .ret (.val (.int k (min x y)))
 | _, _ => .fail
def foldA (f : AV → AV → Rd AV) : AV → List AV → Rd AV
 | a, [] => .ret a
 | a, b :: r => do let c ← f a b; foldA f c r
def asNat : AV → Rd Nat
 | .val (.int _ n) => do need (0 ≤ n); .ret n.toNat
 | _ => .fail
def optNat (o : Option Operand) (dflt : Nat) : Rd Nat :=
 match o with
 | none => .ret dflt
 | some x => do let v ← rdO x; asNat v
def setD (o : Oper) (a : AV) : Ws := match o.dst with
 | some d => [(.t d, a)]
 | none => []
def dstOf (o : Oper) : Rd Nat := match o.dst with
 | some d => .ret d
 | none => .fail
def elemOf (P : Program) (T : Nat) : Rd Nat := match (tyS P T).k with
 | .slice e => do
  need (O3 (tyS P e).k = false)
  .ret e
 | _ => .fail
def a2g (s : Nat) (es : List AV) : Bool := es.all fun e => (leaves e).length == s
def a0m (P : Program) (T : Nat) (ls : List AV) : Rd AV :=
 if a1g (tyS P T).k = true then do
  need ((tyS P T).size ≤ ls.length)
  .ret (.agg (ls.take (tyS P T).size))
 else do
  need ((tyS P T).size = 1 ∧ O3 (tyS P T).k = false)
  match ls with
  | l :: _ => .ret l
  | [] => .fail
def loadA (P : Program) (T : Nat) (a : AV) : Rd AV :=
 match a with
 | .ptr id g p i j => do
  let (_, _, es) ← rdNode id g p
  match es[i]? with
  | some e => a0m P T (viewLeaves id g p i j ((leaves e).drop j))
  | none => .fail
 | .ipt e j => a0m P T ((leaves e).drop j)
 | _ => .fail
def T4 : List AV → List AV → Bool
 | l :: ls, c :: cs => ((!isOwn l && !I0 l) || I0 c) && T4 ls cs
 | [], _ => true
 | _ :: _, [] => false
def a5u (P : Program) (T : Nat) (a v : AV) : RW Unit :=
 match a with
 | .ptr id g p i j => do
  let (m, _, es) ← up (rdNode id g p)
  match es[i]? with
  | some e => do
   let v' ← absorb (if p = none then m else 4) id j ((leaves e).drop j) v
   let (m', _, es') ← up (rdNode id g p)
   match es'[i]? with
   | some e' => do
    up (need (m' = m ∧ m ≠ 2 ∧ (leaves v).length = (tyS P T).size ∧ 0 < (leaves v).length ∧ j + (leaves v).length ≤ (leaves e').length ∧
     T4 (leaves v') ((leaves e').drop j) = true ∧ (p = none ∨ M3 (es'.set i (putAt e' j v')) = true)))
    let w ← up (wrNode id p (es'.set i (putAt e' j v')))
    wr w
   | none => RW.fail
  | none => RW.fail
 | _ => RW.fail
def b1y : AV → Bool
 | .sl _ _ none _ _ => true
 | _ => false
def b8i (P : Program) (T : Nat) (a v : AV) : RW Unit :=
 match a with
 | .ptr id g none i j => do
  let (m, s, es) ← up (rdNode id g none)
  if m = 3 then do
   match es[i]? with
   | some e => do
    up (need ((tyS P T).size = 1 ∧ j + 1 ≤ (leaves e).length))
    wr [(.h id, .obj g m s (es.set i (putAt e j v)))]
   | none => RW.fail
  else a5u P T (.ptr id g none i j) v
 | a => a5u P T a v
def b3x (P : Program) (T : Nat) (a v : AV) : RW Unit := if b1y v = true then b8i P T a v else a5u P T a v
def L5 : AV → Bool
 | .undef => false
 | .tup _ => false
 | .val v => b1z v
 | _ => true
def loadG (cx : Cx) (T : Nat) (a : AV) : Rd AV :=
 match a with
 | .val (.pointer (some ⟨g, 0, none⟩)) => match cx.gl g with
  | some v => a0m cx.P T [v]
  | none => .fail
 | a => loadA cx.P T a
def c2n (s : ByteArray) : List (ByteArray × Value) → Option Value
 | [] => none
 | (k, v) :: r => if s == k then some v else c2n s r
def a3y : TK → Bool
 | .string => true
 | _ => false
def lookupA (cx : Cx) (T : Nat) (m k : AV) (ok : Bool) : Rd AV :=
 match m, k with
 | .val (.map (some r)), .val (.string s) => match cx.mp r, cx.P.underlying T with
  | some tb, some (.map key elem) => do
   need (a3y (tyS cx.P key).k = true)
   match c2n s tb with
   | some u => .ret (if ok then .tup [ofConst u, .val (.bool true)] else ofConst u)
   | none => do
    need (O3 (tyS cx.P elem).k = false ∧ L5 (tyS cx.P elem).zero = true)
    .ret (if ok then .tup [(tyS cx.P elem).zero, .val (.bool false)] else (tyS cx.P elem).zero)
  | _, _ => .fail
 | _, _ => .fail
def U3 (place : Nat → Option (Nat × Nat)) (fs : List AV) : List (Nat × Operand) → Rd (List AV)
 | [] => .ret fs
 | (i, x) :: r => do
  let v ← rdO x
  match place i with
  | none => .fail
  | some (off, size) => do
   need (L5 v = true ∧ (leaves v).length = size ∧ off + size ≤ fs.length)
   U3 place (fs.take off ++ leaves v ++ fs.drop (off + size)) r
def b6z (P : Program) (T : Nat) (parts : List (Nat × Operand)) : Rd AV :=
 match (tyS P T).k, (tyS P T).zero with
 | .struct fl, .agg zs => do
  need ((fl.all fun f => !O3 (tyS P f.2).k) = true)
  let fs ← U3 (fun i => (fl[i]?).map fun f => (f.1, (tyS P f.2).size)) zs parts
  .ret (.agg fs)
 | .array _ e, .agg zs => do
  need (O3 (tyS P e).k = false)
  let fs ← U3 (fun i => some (i * (tyS P e).size, (tyS P e).size)) zs parts
  .ret (.agg fs)
 | _, _ => .fail
def X4 (mk s : Nat) (es : List AV) : List (Nat × Operand) → RW (List AV)
 | [] => pure es
 | (i, x) :: r => do
  let v ← up (rdO x)
  up (need ((leaves v).length = s ∧ i < es.length))
  let v' ← absorb mk 0 0 (List.replicate s .nil) v
  X4 mk s (es.set i v') r
def indexAddrA (P : Program) (T : Nat) (x i : AV) : Rd AV := do
 let n ← asNat i
 match x with
 | .list es => do
  let E ← elemOf P T
  match es[n]? with
  | some e => do
   need ((leaves e).length = (tyS P E).size)
   .ret (.ipt e 0)
  | none => .fail
 | .sl id g p off ln => do
  let E ← elemOf P T
  let (_, s, es) ← rdNode id g p
  need (n < ln ∧ off + ln ≤ es.length ∧ s = (tyS P E).size)
  .ret (.ptr id g p (off + n) 0)
 | .ptr id g p a b => match (tyS P T).k with
  | .array len E => do
   need (n < len ∧ O3 (tyS P E).k = false)
   .ret (.ptr id g p a (b + n * (tyS P E).size))
  | _ => .fail
 | _ => .fail
def fieldAddrA (P : Program) (T : Nat) (x : AV) (f : Nat) : Rd AV :=
 match (tyS P T).k with
 | .struct fs => match fs[f]? with
  | some (o, ft) => do
   need ((tyS P ft).size ≠ 0)
   match x with
   | .ptr id g p i j => .ret (.ptr id g p i (j + o))
   | .ipt e j => .ret (.ipt e (j + o))
   | _ => .fail
  | none => .fail
 | _ => .fail
def fieldA (P : Program) (T : Nat) (x : AV) (f : Nat) : Rd AV :=
 match (tyS P T).k, x with
 | .struct fs, .agg ls => match fs[f]? with
  | some (o, ft) => a0m P ft (ls.drop o)
  | none => .fail
 | _, _ => .fail
def indexA (P : Program) (T : Nat) (x i : AV) : Rd AV := do
 let n ← asNat i
 match (tyS P T).k, x with
 | .string, .val (.string s) => match s.data.toList[n]? with
  | some b => .ret (.val (.int .u8 b.toNat))
  | none => .fail
 | .array len e, .agg ls => do
  need (n < len ∧ O3 (tyS P e).k = false)
  a0m P e (ls.drop (n * (tyS P e).size))
 | _, _ => .fail
def sliceA (P : Program) (T : Nat) (x : AV) (lo hi mx : Option Operand) : Rd AV :=
 match (tyS P T).k, x with
 | .string, .val (.string s) => do
  need (mx = none)
  let h ← optNat hi s.size
  let l ← optNat lo 0
  need (l ≤ h ∧ h ≤ s.size)
  .ret (.val (.string (s.extract l h)))
 | .slice E, .list es => do
  let m ← optNat mx es.length
  let h ← optNat hi es.length
  let l ← optNat lo 0
  need (l ≤ h ∧ h ≤ m ∧ m ≤ es.length ∧ (mx = none ∨ hi ≠ none))
  need (O3 (tyS P E).k = false ∧ a2g (tyS P E).size es = true)
  if mx ≠ none ∧ m = l then .ret .nil else .ret (.list ((es.drop l).take (h - l)))
 | .slice E, .nil => do
  let m ← optNat mx 0
  let h ← optNat hi 0
  let l ← optNat lo 0
  need (l ≤ h ∧ h ≤ m ∧ m ≤ 0 ∧ (mx = none ∨ hi ≠ none))
  need (O3 (tyS P E).k = false)
  .ret .nil
 | .slice E, .sl id g p off n => do
  let m ← optNat mx n
  let h ← optNat hi n
  let l ← optNat lo 0
  need (l ≤ h ∧ h ≤ m ∧ m ≤ n ∧ (mx = none ∨ hi ≠ none))
  need (O3 (tyS P E).k = false)
  if mx ≠ none ∧ m = l then .ret .nil
  else if l = 0 then .ret (.sl id g p off h)
  else do
   let (_, s, _) ← rdNode id g p
   need (s = (tyS P E).size)
   .ret (.sl id g p (off + l) (h - l))
 | .array n E, .ptr id g none i j => do
  need (lo = none ∧ hi = none ∧ mx = none ∧ (tyS P E).size = 1)
  .ret (.asl id g i j n)
 | _, _ => .fail
def c4n (P : Program) (src dst : Nat) (x : AV) : Rd AV :=
 match (tyS P src).k, (tyS P dst).k, x with
 | .int _, .int k, .val (.int _ n) => do need (inI k n); .ret (.val (.int k n))
 | .string, .string, .val (.string s) => .ret (.val (.string s))
 | _, _, _ => .fail
def O2 : List AV → Option (List UInt8)
 | [] => some []
 | .val (.int .u8 n) :: r => if 0 ≤ n ∧ n < 256 then (O2 r).map (UInt8.ofNat n.toNat :: ·) else none
 | _ => none
def b7l (P : Program) (src dst : Nat) (x : AV) : Rd AV :=
 match (tyS P src).k, (tyS P dst).k with
 | .slice e, .string => match (tyS P e).k with
  | .int .u8 => do
   let es ← slc x
   match O2 es with
   | some l => .ret (.val (.string ⟨l.toArray⟩))
   | none => .fail
  | _ => .fail
 | _, _ => .fail
def lenA (v : AV) : Rd AV := match v with
 | .list es => .ret (.val (.int .i64 es.length))
 | .nil => .ret (.val (.int .i64 0))
 | .sl _ _ _ _ n => .ret (.val (.int .i64 n))
 | .val (.string s) => .ret (.val (.int .i64 s.size))
 | _ => .fail
def lenOk (P : Program) (T : Nat) (v : AV) : Prop := match (tyS P T).k, v with
 | .string, .val _ => True
 | .slice _, .list _ => True
 | .slice _, .nil => True
 | .slice _, .sl _ _ _ _ _ => True
 | _, _ => False
instance (P : Program) (T : Nat) (v : AV) : Decidable (lenOk P T v) := by
 unfold lenOk; split <;> infer_instance
def cellLeaf : AV → Bool
 | .agg _ => false
 | l => L5 l
def a9j (es : List AV) : Bool := es.all fun e => (leaves e).all cellLeaf
def c4e (s : Nat) (v : AV) : RW (List AV) :=
 match v with
 | .sl id g p off n => do
  let (m, s', es) ← up (rdNode id g p)
  up (need (s' = s))
  if 1000000 ≤ id ∧ p = none ∧ m = 0 ∧ off = 0 ∧ n = es.length then do
   wr [(.h id, .dead g)]
   pure es
  else do
   let es ← up (slc (.sl id g p off n))
   if M3 es = true then pure es else freeze (.sl id g p off n)
 | v => do
  let es ← up (slc v)
  up (need (a2g s es = true))
  pure es
def a2o (P : Program) (d T : Nat) (a b : AV) : RW AV := do
 let E ← up (elemOf P T)
 up (need ((tyS P E).bytes ≤ 4096 ∧ (leaves (tyS P E).zero).length = (tyS P E).size ∧ L5 (tyS P E).zero = true))
 let ys ← c4e (tyS P E).size b
 up (need (a9j ys = true))
 match a with
 | .nil => do
  up (need (ys.length ≤ I8))
  let o ← up (rd (.h (tid d 0)))
  wr [(.h (tid d 0), .obj (F9 o + 1) 0 (tyS P E).size ys)]
  pure (.sl (tid d 0) (F9 o + 1) none 0 ys.length)
 | .sl id g none 0 n => do
  let (m, s, es) ← up (rdNode id g none)
  up (need (m = 0 ∧ n ≤ es.length ∧ s = (tyS P E).size ∧ n + ys.length ≤ I8))
  wr [(.h id, .dead g)]
  let o ← up (rd (.h (tid d 0)))
  wr [(.h (tid d 0), .obj (F9 o + 1) 0 s (es.take n ++ ys))]
  pure (.sl (tid d 0) (F9 o + 1) none 0 (n + ys.length))
 | _ => RW.fail
def a4x : AV → Bool
 | .val v => b1z v
 | .list _ => true
 | _ => false
def d3e (es : List AV) : Bool := es.all fun e => (leaves e).all a4x
def d3g (es : List AV) : Bool := es.all fun e => (leaves e).all fun l => !isOwn l
def d0b (P : Program) (T : Nat) (a b : AV) : RW AV := do
 let E ← up (elemOf P T)
 let ys ← up (slc b)
 up (need (d3e ys = true ∧ a2g (tyS P E).size ys = true))
 match a with
 | .sl id g p off n => do
  let (m, s, es) ← up (rdNode id g p)
  let k := min ys.length n
  up (need (m ≠ 2 ∧ bxB m p = false ∧ off + n ≤ es.length ∧ s = (tyS P E).size ∧ d3g ((es.drop off).take k) = true ∧ k ≤ I8))
  let w ← up (wrNode id p (es.take off ++ ys.take k ++ es.drop (off + k)))
  wr w
  pure (.val (.int .i64 k))
 | _ => RW.fail
mutual
def hasList : AV → Bool
 | .list _ => true
 | .own _ es => E3 es
 | .ownp es _ _ => E3 es
 | .agg fs => E3 fs
 | .tup vs => E3 vs
 | .ipt _ _ => true
 | .clo _ cs => E3 cs
 | _ => false
def E3 : List AV → Bool
 | [] => false
 | a :: r => hasList a || E3 r
end
def passLeaf (v : AV) : Rd AV :=
 match v with
 | .sl id g p off n => do
  let es ← slc (.sl id g p off n)
  need (D6 es = true)
  .ret (.list (frzL es))
 | .nil => .ret (.list [])
 | .val v => .ret (.val v)
 | .list es => .ret (.list es)
 | .clo k [] => .ret (.clo k [])
 | .ifc => .ret .ifc
 | _ => .fail
def passLeaves : List AV → Rd (List AV)
 | [] => .ret []
 | v :: r => do
  let v' ← passLeaf v
  let r' ← passLeaves r
  .ret (v' :: r')
def slIds (b : Bool) (fs : List AV) : List (Nat × Bool) := fs.filterMap fun l => match l with
 | .sl id _ _ _ _ => some (id, b)
 | _ => none
def passCap (v : AV) : Rd (AV × List (Nat × Bool)) :=
 match v with
 | .ipt e j => .ret (.ipt e j, [])
 | .ptr id g none i j => do
  let (_, _, es) ← rdNode id g none
  match es[i]? with
  | some (.agg fs) => do
   let fs' ← passLeaves fs
   .ret (.ipt (.agg fs') j, (id, false) :: slIds false fs)
  | some e => do
   let e' ← passLeaf e
   .ret (.ipt e' j, (id, false) :: slIds false [e])
  | none => .fail
 | v => do
  let v' ← passLeaf v
  .ret (v', slIds false [v])
def passCaps : List AV → Rd (List AV × List (Nat × Bool))
 | [] => .ret ([], [])
 | v :: r => do
  let (v', i) ← passCap v
  let (r', i') ← passCaps r
  .ret (v' :: r', i ++ i')
def passVars : List AV → Rd (List AV × List (Nat × Bool))
 | [] => .ret ([], [])
 | v :: r => do
  let (v', a) ← (match v with
   | .ptr id g none i j => do
    let (m, _, es) ← rdNode id g none
    need ((m = 3 ∨ m = 4) ∧ M3 es = true ∧ i = 0)
    .ret (.ownp es 0 j, [(id, true)])
   | v => passCap v)
  let (r', a') ← passVars r
  .ret (v' :: r', a ++ a')
def keepLeaf (v : AV) : RW AV :=
 match v with
 | .sl id g p off n => do
  let es ← freeze (.sl id g p off n)
  pure (.list es)
 | v => up (passLeaf v)
def keepLeaves : List AV → RW (List AV)
 | [] => pure []
 | v :: r => do
  let v' ← keepLeaf v
  let r' ← keepLeaves r
  pure (v' :: r')
def keepCap (v : AV) : RW AV :=
 match v with
 | .ipt e j => pure (.ipt e j)
 | v => keepLeaf v
def keepCaps : List AV → RW (List AV)
 | [] => pure []
 | v :: r => do
  let v' ← keepCap v
  let r' ← keepCaps r
  pure (v' :: r')
def a2a (md : Nat) (v : AV) : RW (AV × List (Nat × Bool)) :=
 match v with
 | .agg fs =>
  if md = 3 then do
   let fs' ← keepLeaves fs
   pure (.agg fs', slIds true fs)
  else do
   let fs' ← up (passLeaves fs)
   pure (.agg fs', slIds false fs)
 | .clo f caps =>
  if md = 3 then do
   let caps' ← keepCaps caps
   pure (.clo f caps', slIds true caps)
  else if md = 1 then do
   let (caps', a) ← up (passVars caps)
   pure (.clo f caps', a)
  else do
   let (caps', a) ← up (passCaps caps)
   pure (.clo f caps', a)
 | .ipt e j => pure (.ipt e j, [])
 | .asl id g i j n => do
  up (need (md = 0))
  let (_, _, es) ← up (rdNode id g none)
  match es[i]? with
  | some e => do
   up (need (j + n ≤ (leaves e).length))
   let fs ← up (passLeaves (((leaves e).drop j).take n))
   pure (.list fs, (id, false) :: slIds false (((leaves e).drop j).take n))
  | none => RW.fail
 | .ptr id g none i j => do
  let (m, _, es) ← up (rdNode id g none)
  up (need ((m = 3 ∨ m = 4) ∧ M3 es = true ∧ i = 0))
  pure (.ownp es 0 j, [(id, true)])
 | .sl id g p off n =>
  if md = 0 then do
   let v' ← up (passLeaf (.sl id g p off n))
   pure (v', [(id, false)])
  else if md = 1 then do
   let (m, s, es) ← up (rdNode id g p)
   if m = 0 ∧ p = none ∧ M3 es = false then do
    up (need (off = 0 ∧ n = es.length ∧ D6 es = true))
    wr [(.h id, .obj g 0 s (frzL es))]
    pure (.own s (frzL es), [(id, true)])
   else do
    up (need (m ≠ 2 ∧ bxB m p = false ∧ off = 0 ∧ n = es.length ∧ M3 es = true))
    pure (.own s es, [(id, true)])
  else if md = 2 then do
   let (m, s, es) ← up (rdNode id g none)
   up (need (m = 0 ∧ off = 0 ∧ n ≤ es.length ∧ p = none ∧ D6 es = true))
   wr [(.h id, .dead g)]
   pure (.own s (es.take n), [(id, true)])
  else if md = 4 then do
   let (m, s, es) ← up (rdNode id g p)
   up (need (p = none ∧ m ≠ 2 ∧ bxB m p = false ∧ off = 0 ∧ n = es.length ∧ D6 es = true))
   pure (.own s es, [(id, true)])
  else do
   let es ← freeze (.sl id g p off n)
   pure (.list es, [(id, true)])
 | .nil => if md = 0 ∨ md = 3 then pure (.list [], []) else pure (.nil, [])
 | v => do
  let v' ← up (passLeaf v)
  pure (v', [])
def passAll (md : Nat → Nat) : Nat → List AV → RW (List AV × List (Nat × Bool))
 | _, [] => pure ([], [])
 | i, v :: r => do
  let (v', a) ← a2a (md i) v
  let (r', a') ← passAll md (i + 1) r
  pure (v' :: r', a ++ a')
def b7d (c : AV) : AV → Bool
 | .own s _ => match c with
  | .own s' _ => s' == s
  | _ => false
 | _ => true
def a0a : List AV → List AV → Bool
 | c :: cs, l :: ls => (!I0 l || I0 c) && (b7d c l && a0a cs ls)
 | [], l :: ls => !I0 l && (!isOwn l && a0a [] ls)
 | _, [] => true
def nilFit : List AV → List AV → Bool
 | e :: es, o :: os => a0a (leaves e) (leaves o) && nilFit es os
 | [], o :: os => a0a [] (leaves o) && nilFit [] os
 | _, [] => true
def a4m (id g : Nat) (p : Option (Nat × Nat)) (o : List AV) : RW Unit := do
 let (_, _, es) ← up (rdNode id g p)
 up (need (o.length = es.length ∧ nilFit es o = true))
 let w ← up (wrNode id p o)
 wr w
abbrev Tg := Nat × Nat × Option (Nat × Nat)
def W1 : List AV → List Tg
 | [] => []
 | c :: r => match c with
  | .ptr id g none _ _ => (id, g, none) :: W1 r
  | _ => W1 r
def X8 (md : Nat) (v : AV) : List Tg :=
 match v with
 | .ptr id g none _ _ => [(id, g, none)]
 | .sl id g p _ _ => if md = 1 ∨ md = 4 then [(id, g, p)] else []
 | .clo _ caps => if md = 1 then W1 caps else []
 | _ => []
def Y0 (md : Nat → Nat) : Nat → List AV → List Tg
 | _, [] => []
 | i, v :: r => X8 (md i) v ++ Y0 md (i + 1) r
def X5 : List Tg → List (List AV) → RW Unit
 | [], [] => pure ()
 | (id, g, p) :: r, o :: os => do
  a4m id g p o
  X5 r os
 | _, _ => RW.fail
abbrev Cid := Nat × Nat × Nat
def cidCaps (i : Nat) : Nat → List AV → List Cid
 | _, [] => []
 | k, c :: r => match c with
  | .ownp _ _ _ => (fid i k, 4, 0) :: cidCaps i (k + 1) r
  | _ => cidCaps i (k + 1) r
def N6 (md i : Nat) (a : AV) : List Cid :=
 match a with
 | .own s _ => if md = 2 then [] else [(i, 1, s)]
 | .ownp _ _ _ => [(i, 4, 0)]
 | .clo _ caps => cidCaps i 0 caps
 | _ => []
def cidAll (md : Nat → Nat) : Nat → List AV → List Cid
 | _, [] => []
 | i, a :: r => N6 (md i) i a ++ cidAll md (i + 1) r
def a0g (as : List AV) : Bool := as.all fun a => match a with
 | .clo _ caps => decide (caps.length ≤ 9)
 | _ => true
def M1 : List Nat → Bool
 | [] => true
 | i :: r => r.all (fun j => j != i) && M1 r
def apartIds : List (Nat × Bool) → Bool
 | [] => true
 | (i, b) :: r => r.all (fun x => x.1 != i || (!b && !x.2)) && apartIds r
def U9 (id : Nat) (v : AV) : RW AV :=
 match v with
 | .own s es => do
  let o ← up (rd (.h id))
  wr [(.h id, .obj (F9 o + 1) 0 s es)]
  pure (.sl id (F9 o + 1) none 0 es.length)
 | .val v => pure (.val v)
 | .nil => pure .nil
 | .list es => pure (.list es)
 | .clo k [] => pure (.clo k [])
 | .clo k (c :: cs) => do
  up (need ((c :: cs).all a0h = true))
  pure (.clo k (c :: cs))
 | .ifc => pure .ifc
 | _ => RW.fail
def V8 (d : Nat) : Nat → List AV → RW (List AV)
 | _, [] => pure []
 | k, v :: r => do
  let v' ← U9 (tid d k) v
  let r' ← V8 d (k + 1) r
  pure (v' :: r')
def boxS (es : List AV) : Nat := match es with
 | e :: _ => (leaves e).length
 | [] => 0
def inst1 (d k : Nat) (v : AV) : RW AV :=
 match v with
 | .agg fs => do let fs' ← V8 d (k + 1) fs; pure (.agg fs')
 | .ownp es i j => do
  let o ← up (rd (.h (tid d k)))
  wr [(.h (tid d k), .obj (F9 o + 1) 3 (boxS es) es)]
  pure (.ptr (tid d k) (F9 o + 1) none i j)
 | v => U9 (tid d k) v
def instAll (d : Nat) : Nat → List AV → RW (List AV)
 | _, [] => pure []
 | k, v :: r => do
  let v' ← inst1 d k v
  let r' ← instAll d (k + 16) r
  pure (v' :: r')
def c2q (d : Nat) (v : AV) : RW AV :=
 match v with
 | .tup vs => do let vs' ← instAll d 16 vs; pure (.tup vs')
 | v => inst1 d 0 v
def c1w (cx : Cx) (d : Option Nat) (f : Nat) (args : List AV) : RW AV := do
 let (as, ids) ← passAll (cx.md f) 0 args
 up (need (apartIds ids = true ∧ M1 ((Y0 (cx.md f) 0 args).map (·.1)) = true ∧ M1 ((cidAll (cx.md f) 0 as).map (·.1)) = true ∧ as.length ≤ 1000 ∧ a0g as = true))
 let (res, outs) ← up (doCall f as)
 -- what is only lent lies in no result
 up (need (ids.all (fun x => x.2) = true ∨ (hasList res = false ∧ outs.any E3 = false)))
 X5 (Y0 (cx.md f) 0 args) outs
 match d with
 | none => pure .undef
 | some d => c2q d res
def rdOs : List Operand → Rd (List AV)
 | [] => .ret []
 | x :: r => do let v ← rdO x; let r' ← rdOs r; .ret (v :: r')
def a2p (P : Program) (T X : Nat) (v : AV) : RW AV :=
 match v with
 | .nil => do
  let E ← up (elemOf P T)
  let o ← up (rd (.h X))
  wr [(.h X, .obj (F9 o + 1) 0 (tyS P E).size [])]
  pure (.sl X (F9 o + 1) none 0 0)
 | .sl id g none 0 n => do
  let (m, s, es) ← up (rdNode id g none)
  if m = 0 then do
   up (need (n ≤ es.length))
   if id = X then do
    wr [(.h X, .obj g 0 s (es.take n))]
    pure (.sl X g none 0 n)
   else do
    wr [(.h id, .dead g)]
    let o ← up (rd (.h X))
    wr [(.h X, .obj (F9 o + 1) 0 s (es.take n))]
    pure (.sl X (F9 o + 1) none 0 n)
  else pure v
 | .ptr id g none i j => do
  let (m, s, es) ← up (rdNode id g none)
  if m = 3 ∧ id ≠ X ∧ M3 es = true then do
   wr [(.h id, .dead g)]
   let o ← up (rd (.h X))
   wr [(.h X, .obj (F9 o + 1) 3 s es)]
   pure (.ptr X (F9 o + 1) none i j)
  else pure v
 | v => pure v
def fieldKs (P : Program) (T : Nat) : List TK := match (tyS P T).k with
 | .struct fs => fs.map fun f => (tyS P f.2).k
 | _ => []
def c7n (P : Program) (T : Nat) : Bool := match P.underlying T with
 | some (.struct fs) => (fs.toList.zipIdx.all fun f => f.1.offset == f.2 && f.1.name != "_" && !O3 (tyS P f.1.type).k && !a1g (tyS P f.1.type).k)
   && !P.stoodInHeld T && !P.eqGuardType P.depth T && !O3 (tyS P T).k
 | _ => false
def a4e : Operand → Bool
 | .const _ => true
 | _ => false
def a1m (P : Program) (T : Nat) : Bool := match P.underlying T with
 | some (.interface _) => true
 | _ => false
def a0s (P : Program) (T : Nat) (x y : Operand) (a : AV) : Bool := match a with
 | .agg _ => c7n P T
 | .val (.bool _) => match (tyS P T).k with | .bool => true | _ => false
 | .ifc => a1m P T
 | .val .nilIface => a1m P T && (a4e x || a4e y)
 | _ => true
def opV (cx : Cx) (op : Op) : Rd AV :=
 match op with
 | .move x => rdO x
 | .pick c a b => do
  let v ← rdO c
  match v with
  | .val (.bool true) => rdO a
  | .val (.bool false) => rdO b
  | _ => .fail
 | .build T parts => b6z cx.P T parts.toList
 | .load T a => do let v ← rdO a; loadG cx T v
 | .lookup T x k ok => do let m ← rdO x; let i ← rdO k; lookupA cx T m i ok
 | .nilCheck x => do
  let v ← rdO x
  match v with
  | .ptr id g p i j => .ret (.ptr id g p i j)
  | .ipt e j => .ret (.ipt e j)
  | _ => .fail
 | .binOp op T x y _ => do
  let a ← rdO x
  let b ← rdO y
  need (a0s cx.P T x y a = true)
  a2k (fieldKs cx.P T) op a b
 | .unOp op _ x => do let a ← rdO x; unA op a
 | .convert s t x => do
  let a ← rdO x
  match a with
  | .val v => c4n cx.P s t (.val v)
  | a => b7l cx.P s t a
 | .makeFunc (.func f) first caps => do
  need (first.size = 0)
  let cs ← rdOs caps.toList
  .ret (.clo f cs)
 | .slice T x lo hi mx => do let v ← rdO x; sliceA cx.P T v lo hi mx
 | .fieldAddr T x f => do let v ← rdO x; fieldAddrA cx.P T v f
 | .field T x f => do let v ← rdO x; fieldA cx.P T v f
 | .indexAddr T x i => do let v ← rdO x; let k ← rdO i; indexAddrA cx.P T v k
 | .index T x i => do let v ← rdO x; let k ← rdO i; indexA cx.P T v k
 | .extract x i => do
  let v ← rdO x
  match v with
  | .tup vs => match vs[i]? with
   | some u => .ret u
   | none => .fail
  | _ => .fail
 | .call c => match c.callee with
  | .builtin .len => match c.args.toList, c.argTypes.toList with
   | [x], [T] => do let v ← rdO x; need (lenOk cx.P T v); lenA v
   | _, _ => .fail
  | .builtin .max => do
   let vs ← rdOs c.args.toList
   match vs with
   | a :: r => foldA max2 a r
   | [] => .fail
  | .builtin .min => do
   let vs ← rdOs c.args.toList
   match vs with
   | a :: r => foldA min2 a r
   | [] => .fail
  | _ => .fail
 | _ => .fail
def K1 : TK → Bool
 | .slice _ => true
 | _ => false
def aopV (cx : Cx) (o : Oper) : RW AV :=
 match o.op with
 | .assign x => do
  let v ← up (rdO x)
  match o.dst with
  | some X => a2p cx.P o.type X v
  | none => pure v
 | .alloc T => do
  let d ← up (dstOf o)
  let old ← up (rd (.h d))
  up (need ((leaves (tyS cx.P T).zero).length = (tyS cx.P T).size ∧ L5 (tyS cx.P T).zero = true))
  wr [(.h d, .obj (F9 old + 1) 3 (tyS cx.P T).size [(tyS cx.P T).zero])]
  pure (.ptr d (F9 old + 1) none 0 0)
 | .box _ x => do
  let d ← up (dstOf o)
  let v ← up (rdO x)
  let v' ← absorb 3 d 0 ((leaves v).map fun _ => AV.nil) v
  let old ← up (rd (.h d))
  wr [(.h d, .obj (F9 old + 1) 3 (leaves v).length [v'])]
  pure (.ptr d (F9 old + 1) none 0 0)
 | .buildSlice T n parts => do
  let d ← up (dstOf o)
  let E ← up (elemOf cx.P T)
  up (need (n * (tyS cx.P E).size ≤ 16777216 ∧ (leaves (tyS cx.P E).zero).length = (tyS cx.P E).size ∧ L5 (tyS cx.P E).zero = true ∧ 0 < (tyS cx.P E).size))
  let es ← X4 (if cx.fzB T d = true then 2 else 0) (tyS cx.P E).size (List.replicate n (tyS cx.P E).zero) parts.toList
  let old ← up (rd (.h (tid d 0)))
  wr [(.h (tid d 0), .obj (F9 old + 1) 0 (tyS cx.P E).size es)]
  pure (.sl (tid d 0) (F9 old + 1) none 0 n)
 | .makeSlice T l c => do
  let d ← up (dstOf o)
  let vl ← up (rdO l)
  let vc ← up (rdO c)
  let n ← up (asNat vl)
  let n' ← up (asNat vc)
  let E ← up (elemOf cx.P T)
  up (need (n = n' ∧ n ≤ I8 ∧ (tyS cx.P E).bytes ≤ 4096 ∧ (leaves (tyS cx.P E).zero).length = (tyS cx.P E).size ∧ L5 (tyS cx.P E).zero = true ∧ 0 < (tyS cx.P E).size))
  let old ← up (rd (.h (tid d 0)))
  wr [(.h (tid d 0), .obj (F9 old + 1) 0 (tyS cx.P E).size (List.replicate n (tyS cx.P E).zero))]
  pure (.sl (tid d 0) (F9 old + 1) none 0 n)
 | .call c => match c.callee with
  | .builtin .append => match c.args.toList, c.argTypes.toList with
   | [x, y], [T, T'] => do
    let d ← up (dstOf o)
    up (need (K1 (tyS cx.P T').k = true))
    let a ← up (rdO x)
    let b ← up (rdO y)
    a2o cx.P d T a b
   | _, _ => RW.fail
  | .builtin .copy => match c.args.toList, c.argTypes.toList with
   | [x, y], [T, _] => do
    let a ← up (rdO x)
    let b ← up (rdO y)
    d0b cx.P T a b
   | _, _ => RW.fail
  | .value f => do
   let fv ← up (rdO f)
   let vs ← up (rdOs c.args.toList)
   match fv with
   | .clo k caps => c1w cx o.dst k (vs ++ caps)
   | _ => RW.fail
  | _ => up (opV cx o.op)
 | .store T a x => do
  up (need (o.dst = none))
  let p ← up (rdO a)
  let v ← up (rdO x)
  b3x cx.P T p v
  pure .undef
 | op => up (opV cx op)
def aop (cx : Cx) (o : Oper) : RW Unit := do
 let v ← aopV cx o
 wr (setD o v)
def Q1 (cx : Cx) (ops : Array Oper) (o : Oper) : RW Unit :=
 match o.guard with
 | none => aop cx o
 | some (g, want) => match (ops[g]?).bind (·.dst) with
  | some d => do
   let v ← up (rd (.t d))
   match v with
   | .val (.bool b) => if b = want then aop cx o else wr (setD o (.val Go.undef))
   | .val (.tuple _) => wr (setD o (.val Go.undef))
   | _ => RW.fail
  | none => RW.fail
abbrev Caller := Nat → List AV → Option (AV × List (List AV))
abbrev Log := List Loc × List Loc
def N5 (C : Caller) (cx : Cx) (ops : Array Oper) : List Oper → St → Option (Ws × List Log)
 | [], _ => some ([], [])
 | o :: r, st => match Rd.run (α := Unit × Ws) C st (Q1 cx ops o) with
  | some ((_, ws), rs) => match N5 C cx ops r (st.upds ws) with
   | some (ws', lg) => some (ws ++ ws', (rs, ws.map (·.1)) :: lg)
   | none => none
  | none => none
def hasLoc (ls : List Loc) (l : Loc) : Bool := ls.any (Loc.beq l)
def clash (a b : Log) : Bool := a.2.any (fun l => hasLoc b.1 l || hasLoc b.2 l) || a.1.any (fun l => hasLoc b.2 l)
def anc (o : Oper) (acc : List Nat) : Nat :=
 o.after.toList.foldl (fun s e => if Region.binds .any e then s ||| (2 ^ e.on) ||| acc.getD e.on 0 else s) 0
def S7 : List Oper → List Log → List (Log × Nat) → Bool
 | o :: os, l :: ls, prev =>
  let a := anc o (prev.map (·.2))
  prev.zipIdx.all (fun x => !clash x.1.1 l || a.testBit x.2) && S7 os ls (prev ++ [(l, a)])
 | _, _, _ => true
def a7t (ops : Array Oper) : List Nat → List Nat → Bool
 | [], seen => (List.range ops.size).all fun i => seen.contains i
 | t :: ts, seen => (match ops[t]? with
  | some o => o.after.toList.all fun e => !Region.binds .any e || seen.contains e.on
  | none => false) && a7t ops ts (t :: seen)
def a4w (ops : Array Oper) : Bool := a7t ops (List.range ops.size) [] || a7t ops (Region.linearise .any ops 0) []
def keepLoc (keep : List Nat) : Loc → Bool
 | .t i => keep.contains i
 | .h i => keep.contains (i % 100000)
mutual
def refsOk (keep : List Nat) : AV → Bool
 | .sl id _ _ _ _ => keep.contains (id % 100000)
 | .asl id _ _ _ _ => keep.contains (id % 100000)
 | .ptr id _ _ _ _ => keep.contains (id % 100000)
 | .agg fs => P9 keep fs
 | .tup vs => P9 keep vs
 | .clo _ cs => P9 keep cs
 | _ => true
def P9 (keep : List Nat) : List AV → Bool
 | [] => true
 | a :: r => refsOk keep a && P9 keep r
end
def keptWs (keep : List Nat) (ws : Ws) : Ws := ws.filter fun w => keepLoc keep w.1
def tRefsOk (keep : List Nat) (ws : Ws) : Bool := ws.all fun w => match w.2 with
 | .obj _ m _ es => if m = 3 ∨ m = 4 then P9 keep es else D6 es || P9 keep es
 | .dead _ => true
 | a => refsOk keep a
def R7 (C : Caller) (cx : Cx) (keep : List Nat) (ops : Array Oper) (draw : Bool) (st : St) : Option St :=
 match N5 C cx ops ops.toList st with
 | some (ws, lg) => if (draw = true → S7 ops.toList lg [] = true ∧ a4w ops = true) ∧ tRefsOk keep (keptWs keep ws) = true then some (st.upds (keptWs keep ws)) else none
 | none => none
inductive AExit where
 | normal
 | exit (id : Nat)
 | ret
def opA (st : St) : Operand → AV
 | .tmp t => st (.t t)
 | .const v => ofConst v
 | _ => .undef
def codeDsts : Code → List Nat
 | .region _ ops _ => ops.toList.flatMap fun o => o.dst.toList
 | .seq a b => codeDsts a ++ codeDsts b
 | .cond _ a b => codeDsts a ++ codeDsts b
 | .block _ b => codeDsts b
 | .loop b => codeDsts b
 | .rangeFunc _ ps a b => ps.toList ++ codeDsts a ++ codeDsts b
 | _ => []
def O5 : Code → Bool
 | .rangeFunc .. => false
 | .seq a b => O5 a && O5 b
 | .cond _ a b => O5 a && O5 b
 | .block _ b => O5 b
 | .loop b => O5 b
 | _ => true
def asgOps : List Oper → Option (List (Nat × Nat))
 | [] => some []
 | o :: r => match o.dst, o.op, o.guard, asgOps r with
  | some d, .assign (.tmp p), none, some l => some ((d, p) :: l)
  | _, _, _, _ => none
def codeAsg : Code → Option (List (Nat × Nat))
 | .skip => some []
 | .region _ ops false => asgOps ops.toList
 | .seq a b => match codeAsg a, codeAsg b with
  | some l, some l' => some (l ++ l')
  | _, _ => none
 | _ => none
def maskS (zl : List Nat) (st : St) : St := fun l => match l with
 | .t i => if zl.contains i then .undef else st (.t i)
 | .h i => st (.h i)
def c9g (keep : List Nat) (l : List (Nat × Nat)) (s : St) : St := l.foldl (fun s x => if keep.contains x.1 then s.upd (.t x.1) (s (.t x.2)) else s) s
def startS (keep ps : List Nat) (l : List (Nat × Nat)) (zl : List Nat) (vs : List Value) (st : St) : St :=
 c9g keep l ((maskS zl st).upds (keptWs keep ((ps.zip vs).map fun x => (.t x.1, .val x.2))))
def arounds (run : St → Option (AExit × St)) (start : List Value → St → St) (msk : St → St) : List (List Value) → St → Option St
 | [], st => some (msk st)
 | vs :: r, st => match run (start vs st) with
  | some (.normal, st') => arounds run start msk r st'
  | _ => none
open Classical in
noncomputable def a3a (run : St → Option (AExit × St)) (start : List Value → St → St) (msk : St → St) (xs : List (List Value)) (st : St) : Option (AExit × St) :=
 if ∀ ys, (∀ y ∈ ys, y ∈ xs) → ys.length ≤ xs.length → (arounds run start msk ys st).isSome = true then (arounds run start msk xs st).map fun s => (.normal, s) else none
noncomputable def aexec (C : Caller) (cx : Cx) (keep : List Nat) : Nat → Code → St → Option (AExit × St)
 | 0, _, _ => none
 | n + 1, c, st => match c with
  | .skip => some (.normal, st)
  | .region _ ops draw => match R7 C cx keep ops draw st with
   | some st' => some (.normal, st')
   | none => none
  | .seq a b => match aexec C cx keep n a st with
   | some (.normal, st1) => aexec C cx keep n b st1
   | r => r
  | .cond c a b => match opA st c with
   | .val (.bool true) => aexec C cx keep n a st
   | .val (.bool false) => aexec C cx keep n b st
   | _ => none
  | .block id b => match aexec C cx keep n b st with
   | some (.exit i, st1) => if i = id then some (.normal, st1) else some (.exit i, st1)
   | r => r
  | .loop b => match aexec C cx keep n b st with
   | some (.normal, st1) => aexec C cx keep n (.loop b) st1
   | r => r
  | .exit i => some (.exit i, st)
  | .ret => some (.ret, st)
  | .rangeFunc g ps a b => match opA st g, codeAsg a with
   | .clo k caps, some l => match (cx.it k).bind fun F => F caps with
    | some xs => if O5 b = true ∧ caps.all a0h = true ∧ (xs.all fun vs => vs.length == ps.size) = true then
      a3a (fun s => aexec C cx keep n b s) (startS keep ps.toList l (codeDsts (.rangeFunc g ps a b))) (maskS (codeDsts (.rangeFunc g ps a b))) xs st
     else none
    | none => none
   | _, _ => none
  | _ => none
def b7u (x : Operand) : List Nat := match x with
 | .tmp t => [t]
 | _ => []
def d1u (o : Oper) : List Nat := o.op.operands.toList.flatMap b7u
def N3 : Code → List Nat
 | .region _ ops _ => (ops.toList.foldl (fun (acc : List Nat × List Nat) o =>
   ((d1u o).filter (fun t => !acc.2.contains t) ++ acc.1, o.dst.toList ++ acc.2)) ([], [])).1
 | .seq a b => N3 a ++ N3 b
 | .cond c a b => b7u c ++ N3 a ++ N3 b
 | .block _ b => N3 b
 | .loop b => N3 b
 | .scope b => N3 b
 | .rangeFunc g _ a b => b7u g ++ N3 a ++ N3 b
 | _ => []
def L1 (n : Nat) : Code → Bool
 | .region _ ops _ => ops.all fun o => match o.dst with | some d => decide (d < n ∧ d < 100000) | none => true
 | .seq a b => L1 n a && L1 n b
 | .cond _ a b => L1 n a && L1 n b
 | .block _ b => L1 n b
 | .loop b => L1 n b
 | .skip => true
 | .exit _ => true
 | .ret => true
 | .rangeFunc _ ps a b => (ps.toList.all fun d => decide (d < n ∧ d < 100000)) && L1 n a && L1 n b
 | _ => false
def c7l (acc : List (Nat × List Nat)) (o : Oper) : List (Nat × List Nat) :=
 let look (x : Operand) : List Nat := match x with
  | .tmp t => ((acc.find? fun y => y.1 == t).map (·.2)).getD []
  | _ => []
 match o.dst with
 | none => acc
 | some d => (d, match o.op with
  | .move x => look x
  | .slice _ x _ _ _ => look x
  | .extract x _ => look x
  | .pick _ a b => look a ++ look b
  | .build _ ps => ps.toList.flatMap fun y => look y.2
  | .buildSlice .. => [d]
  | .makeSlice .. => [d]
  | .call _ => [d]
  | .box .. => [d]
  | .alloc .. => [d]
  | _ => []) :: acc
def Z7 (keep : List Nat) : Code → List Nat
 | .region _ ops _ =>
  let acc := ops.toList.foldl c7l []
  (acc.flatMap fun y => if keep.contains y.1 then y.2 else []) ++ ops.toList.flatMap fun o => match o.op with
   | .store _ _ (.tmp t) => ((acc.find? fun y => y.1 == t).map (·.2)).getD []
   | _ => []
 | .seq a b => Z7 keep a ++ Z7 keep b
 | .cond _ a b => Z7 keep a ++ Z7 keep b
 | .block _ b => Z7 keep b
 | .loop b => Z7 keep b
 | .rangeFunc _ _ a b => Z7 keep a ++ Z7 keep b
 | _ => []
def d1t : ResultVar → Nat
 | .tmp t => t
 | .cell a _ => a
def F6 (fn : Func) : List Nat :=
 match fn.body with
 | none => []
 | some c =>
  let k := (List.range (fn.params.size + fn.nfree)) ++ fn.results.toList.map d1t ++ N3 c
  (k ++ Z7 k c).eraseDups
def initCaps (i : Nat) : Nat → List AV → List AV
 | _, [] => []
 | k, c :: r => (match c with
  | .ownp _ a b => .ptr (fid i k) 1 none a b
  | c => c) :: initCaps i (k + 1) r
def initLoc (md : Nat → Nat) (args : List AV) : St
 | .t i => match args[i]? with
  | some (.own _ es) => .sl i 1 none 0 es.length
  | some (.ownp _ a b) => .ptr i 1 none a b
  | some (.clo f caps) => .clo f (initCaps i 0 caps)
  | some a => a
  | none => .undef
 | .h i => if i < 100000 then match args[i]? with
   | some (.own s es) => .obj 1 (if md i = 2 then 0 else 1) s es
   | some (.ownp es _ _) => .obj 1 4 0 es
   | _ => .undef
  else match args[i % 100000]? with
   | some (.clo _ caps) => if i < 1000000 then match caps[i / 100000 - 1]? with
     | some (.ownp es _ _) => .obj 1 4 0 es
     | _ => .undef
    else .undef
   | _ => .undef
def c1s (id i j : Nat) : RW Unit := do
 let o ← up (rd (.h id))
 match o with
 | .obj g m s es => match es[i]? with
  | some e => wr [(.h id, .obj g m s (es.set i (putAt e j .undef)))]
  | none => RW.fail
 | _ => RW.fail
def W9 (v : AV) : RW AV :=
 match v with
 | .sl id g p off n => do
  let (m, s, es) ← up (rdNode id g p)
  if m = 0 ∧ off = 0 then do
   up (need (n ≤ es.length ∧ D6 es = true))
   match p with
   | none => wr [(.h id, .dead g)]
   | some (i, j) => c1s id i j
   pure (.own s (es.take n))
  else do
   let es ← freeze v
   pure (.list es)
 | .val v => pure (.val v)
 | .ifc => pure .ifc
 | .nil => pure .nil
 | .list es => pure (.list es)
 | .clo k cs => do up (need (cs.all a0h = true)); pure (.clo k cs)
 | _ => RW.fail
def a1w (v : AV) : RW AV :=
 match v with
 | .sl id g p off n => do
  let es ← freeze (.sl id g p off n)
  pure (.list es)
 | .nil => pure (.list [])
 | v => W9 v
def retLf (b : Bool) (v : AV) : RW AV := if b = true then a1w v else W9 v
def retLeaves (b : Bool) : List AV → RW (List AV)
 | [] => pure []
 | v :: r => do
  let v' ← retLf b v
  let r' ← retLeaves b r
  pure (v' :: r')
def ret1 (b : Bool) (v : AV) : RW AV :=
 match v with
 | .agg fs => do let fs' ← retLeaves b fs; pure (.agg fs')
 | .ptr id g none i j => do
  let (m, _, es) ← up (rdNode id g none)
  up (need (m = 3 ∧ M3 es = true ∧ i = 0))
  wr [(.h id, .dead g)]
  pure (.ownp es 0 j)
 | v => W9 v
def retVar (P : Program) (b : Bool) (r : ResultVar) : RW AV :=
 match r with
 | .tmp t => do let v ← up (rd (.t t)); ret1 b v
 | .cell a T => do
  let p ← up (rd (.t a))
  match p with
  | .ptr id g q i j => do let v ← up (loadA P T (.ptr id g q i j)); ret1 b v
  | _ => RW.fail
def retAll (P : Program) (b : Bool) : List ResultVar → RW (List AV)
 | [] => pure []
 | r :: rs => do
  let v ← retVar P b r
  let vs ← retAll P b rs
  pure (v :: vs)
def outsOf (st : St) : List Cid → Option (List (List AV))
 | [] => some []
 | (cid, m, s) :: r => match st (.h cid) with
  | .obj g' m' s' es => if g' = 1 ∧ m' = m ∧ s' = s ∧ D6 es = true then (outsOf st r).map (es :: ·) else none
  | _ => none
def Q0 : List AV → AV
 | [v] => v
 | vs => .tup vs
noncomputable def acall (cx : Cx) : Nat → Caller
 | 0, _, _ => none
 | n + 1, f, args => match cx.ext f with
  | some F => F args
  | none => match cx.P.funcs[f]? with
   | none => none
   | some fn => match fn.body with
    | none => none
    | some c =>
     if L1 fn.ntmps c = true ∧ args.length = fn.params.size + fn.nfree ∧ args.length ≤ fn.ntmps ∧ args.length ≤ 1000 ∧ (fn.name == "runtime.NumGoroutine") = false then
      match aexec (acall cx n) cx (F6 fn) n c (initLoc (cx.md f) args) with
      | some (.exit _, _) => none
      | some (_, st) => match Rd.run (α := List AV × Ws) (acall cx n) st (retAll cx.P (cx.fz f) fn.results.toList) with
       | some ((vs, ws), _) => match outsOf (st.upds ws) (cidAll (cx.md f) 0 args) with
        | some outs => some (Q0 vs, outs)
        | none => none
       | none => none
      | none => none
     else none
theorem Loc.beq_iff (a b : Mv.Loc) : Loc.beq a b = true ↔ a = b := by
 cases a <;> cases b <;> simp [Loc.beq]
theorem Loc.beq_false (a b : Mv.Loc) : Loc.beq a b = false ↔ a ≠ b := by
 rw [← Bool.not_eq_true, Loc.beq_iff]
theorem St.upd_eq (st : St) (l : Mv.Loc) (a : AV) : st.upd l a l = a := by
 simp [St.upd, (Loc.beq_iff l l).2 rfl]
theorem St.upd_ne (st : St) {l k : Mv.Loc} (a : AV) (h : k ≠ l) : st.upd l a k = st k := by
 simp [St.upd, (Loc.beq_false k l).2 h]
theorem St.upds_append (st : St) (a b : Ws) : st.upds (a ++ b) = (st.upds a).upds b := by
 induction a generalizing st with
 | nil => rfl
 | cons x a ih => obtain ⟨l, v⟩ := x; exact ih _
theorem St.upds_notin (st : St) (ws : Ws) (k : Mv.Loc) (h : ∀ w ∈ ws, w.1 ≠ k) : st.upds ws k = st k := by
 induction ws generalizing st with
 | nil => rfl
 | cons x a ih =>
  obtain ⟨l, v⟩ := x
  rw [St.upds, ih _ (fun w hw => h w (List.mem_cons_of_mem _ hw)), St.upd_ne]
  exact fun e => h (l, v) (List.mem_cons_self ..) e.symm
theorem St.upds_congr {st st' : St} (ws : Ws) (k : Mv.Loc) (h : st k = st' k) : st.upds ws k = st'.upds ws k := by
 induction ws generalizing st st' with
 | nil => exact h
 | cons x a ih =>
  obtain ⟨l, v⟩ := x
  refine ih ?_
  by_cases e : k = l
  ·subst e; rw [St.upd_eq, St.upd_eq]
  ·rw [St.upd_ne _ _ e, St.upd_ne _ _ e, h]
theorem St.upds_in {st st' : St} (ws : Ws) (k : Mv.Loc) (h : ∃ w ∈ ws, w.1 = k) : st.upds ws k = st'.upds ws k := by
 induction ws generalizing st st' with
 | nil => obtain ⟨w, hw, _⟩ := h; cases hw
 | cons x a ih =>
  obtain ⟨l, v⟩ := x
  by_cases e : k = l
  ·subst e
   exact St.upds_congr a k (by rw [St.upd_eq, St.upd_eq])
  ·refine ih ?_
   obtain ⟨w, hw, hk⟩ := h
   cases hw with
   | head => exact (e hk.symm).elim
   | tail _ hw => exact ⟨w, hw, hk⟩
theorem a2m (ls : List Mv.Loc) (l : Mv.Loc) : hasLoc ls l = true ↔ l ∈ ls := by
 simp only [hasLoc, List.any_eq_true, Loc.beq_iff]
 constructor
 ·rintro ⟨x, hx, rfl⟩; exact hx
 ·exact fun h => ⟨l, h, rfl⟩
theorem St.upds_comm (st : St) (a b : Ws) (h : ∀ l, l ∈ a.map (·.1) → l ∈ b.map (·.1) → False) : (st.upds a).upds b = (st.upds b).upds a := by
 funext k
 by_cases ha : k ∈ a.map (·.1)
 ·have hb : ∀ w ∈ b, w.1 ≠ k := fun w hw e => h k ha (e ▸ List.mem_map_of_mem hw)
  rw [St.upds_notin _ b k hb]
  obtain ⟨w, hw, e⟩ := List.mem_map.1 ha
  exact St.upds_in a k ⟨w, hw, e⟩
 ·have ha' : ∀ w ∈ a, w.1 ≠ k := fun w hw e => ha (e ▸ List.mem_map_of_mem hw)
  rw [St.upds_notin (st.upds b) a k ha']
  exact St.upds_congr b k (St.upds_notin st a k ha')
namespace Rd
variable {C : Caller} {st st' : St} {α β : Type}
theorem run_local (x : Rd α) {a : α} {ls : List Mv.Loc} (h : x.run C st = some (a, ls)) (hl : ∀ l ∈ ls, st' l = st l) : x.run C st' = some (a, ls) := by
 induction x generalizing ls with
 | ret b => simpa [run] using h
 | fail => simp [run] at h
 | read l k ih =>
  simp only [run] at h ⊢
  cases hk : (k (st l)).run C st with
  | none => simp [hk] at h
  | some r =>
   obtain ⟨b, ms⟩ := r
   simp only [hk, Option.some.injEq, Prod.mk.injEq] at h
   obtain ⟨rfl, rfl⟩ := h
   rw [hl l (List.mem_cons_self ..), ih _ hk (fun m hm => hl m (List.mem_cons_of_mem _ hm))]
 | need p d k ih =>
  cases d with
  | isTrue _ => exact ih h hl
  | isFalse _ => simp [run] at h
 | call f args k ih =>
  simp only [run] at h ⊢
  cases hc : C f args with
  | none => simp [hc] at h
  | some r =>
   obtain ⟨r, o⟩ := r
   simp only [hc] at h ⊢
   exact ih _ _ h hl
def ev (C : Caller) (st : St) (x : Rd α) : Option α := (x.run C st).map (·.1)
theorem ev_of_run {x : Rd α} {a : α} {ls : List Mv.Loc} (h : x.run C st = some (a, ls)) : x.ev C st = some a := by simp [ev, h]
@[simp] theorem ev_ret (a : α) : (Rd.ret a).ev C st = some a := rfl
@[simp] theorem ev_pure (a : α) : (pure a : Rd α).ev C st = some a := rfl
@[simp] theorem ev_fail : (Rd.fail : Rd α).ev C st = none := rfl
@[simp] theorem ev_read (l : Mv.Loc) (k : AV → Rd α) : (Rd.read l k).ev C st = (k (st l)).ev C st := by
 simp only [ev, run]; cases (k (st l)).run C st <;> rfl
@[simp] theorem ev_needc (p : Prop) (d : Decidable p) (k : Rd α) : (Rd.need p d k).ev C st = if p then k.ev C st else none := by
 cases d with
 | isTrue h => simp [ev, run, h]
 | isFalse h => simp [ev, run, h]
theorem ev_callc (f : Nat) (args : List AV) (k : AV → List (List AV) → Rd α) :
  (Rd.call f args k).ev C st = (C f args).bind fun r => (k r.1 r.2).ev C st := by
 simp only [ev, run]; cases C f args <;> rfl
theorem ev_bind' (x : Rd α) (f : α → Rd β) : (x.bind f).ev C st = (x.ev C st).bind fun a => (f a).ev C st := by
 induction x with
 | ret a => rfl
 | fail => rfl
 | read l k ih => simp only [Rd.bind, ev_read, ih]
 | need p d k ih => simp only [Rd.bind, ev_needc, ih]; split <;> rfl
 | call g args k ih =>
  simp only [Rd.bind, ev_callc, ih]
  cases C g args <;> rfl
@[simp] theorem ev_bind (x : Rd α) (f : α → Rd β) : (x >>= f).ev C st = (x.ev C st).bind fun a => (f a).ev C st := ev_bind' x f
end Rd
theorem b6a (ws : Ws) (st : St) (l : Mv.Loc) : st.upds ws l = (Ws.look ws l).getD (st l) := by
 induction ws generalizing st with
 | nil => rfl
 | cons x r ih =>
  obtain ⟨k, a⟩ := x
  rw [St.upds, ih, Ws.look]
  cases Ws.look r l with
  | some v => rfl
  | none =>
   simp only [Option.getD_none]
   unfold St.upd
   split <;> rfl
theorem Rd.ev_over {C : Caller} {st : St} {α : Type} (ws : Ws) (x : Rd α) : (x.over ws).ev C st = x.ev C (st.upds ws) := by
 induction x with
 | ret a => rfl
 | fail => rfl
 | read l k ih =>
  simp only [Rd.over, Rd.ev_read, b6a]
  cases Ws.look ws l with
  | some v => simp only [Option.getD_some]; exact ih v
  | none => simp only [Option.getD_none, Rd.ev_read]; exact ih _
 | need p d k ih => simp only [Rd.over, Rd.ev_needc, ih]
 | call f args k ih => simp only [Rd.over, Rd.ev_callc, ih]
def RW.go {α : Type} (C : Caller) (st : St) (x : RW α) : Option (α × St) := (Rd.ev (α := α × Ws) C st x).map fun r => (r.1, st.upds r.2)
theorem RW.go_of_ev {α : Type} {C : Caller} {st : St} {x : RW α} {a : α} {ws : Ws} (h : Rd.ev (α := α × Ws) C st x = some (a, ws)) : x.go C st = some (a, st.upds ws) := by
 unfold RW.go; rw [h]; rfl
@[simp] theorem RW.go_pure {α : Type} {C : Caller} {st : St} (a : α) : (pure a : RW α).go C st = some (a, st) := rfl
@[simp] theorem RW.go_fail {α : Type} {C : Caller} {st : St} : (RW.fail : RW α).go C st = none := rfl
@[simp] theorem RW.go_wr {C : Caller} {st : St} (ws : Ws) : (wr ws).go C st = some ((), st.upds ws) := rfl
theorem RW.go_up' {α : Type} {C : Caller} {st : St} (x : Rd α) : ((Rd.bind x fun a => Rd.ret (a, ([] : Ws))).ev C st).map (fun r => (r.1, st.upds r.2)) = (x.ev C st).map fun a => (a, st) := by
 rw [Rd.ev_bind']
 cases x.ev C st <;> rfl
@[simp] theorem RW.go_up {α : Type} {C : Caller} {st : St} (x : Rd α) : (up x).go C st = (x.ev C st).map fun a => (a, st) := RW.go_up' x
theorem RW.go_bind' {α β : Type} {C : Caller} {st : St} (x : Rd (α × Ws)) (f : α → Rd (β × Ws)) :
  ((Rd.bind x fun a => Rd.bind (Rd.over a.2 (f a.1)) fun b => Rd.ret (b.1, a.2 ++ b.2)).ev C st).map (fun r => (r.1, st.upds r.2)) =
   ((x.ev C st).map fun r => (r.1, st.upds r.2)).bind fun r => ((f r.1).ev C r.2).map fun r2 => (r2.1, r.2.upds r2.2) := by
 rw [Rd.ev_bind']
 cases h : x.ev C st with
 | none => rfl
 | some r =>
  obtain ⟨a, ws⟩ := r
  simp only [Option.bind_some, Option.map_some]
  rw [Rd.ev_bind', Rd.ev_over]
  cases h2 : (f a).ev C (st.upds ws) with
  | none => rfl
  | some r2 => simp [St.upds_append]
@[simp] theorem RW.go_bind {α β : Type} {C : Caller} {st : St} (x : RW α) (f : α → RW β) :
  (x >>= f).go C st = (x.go C st).bind fun r => (f r.1).go C r.2 := RW.go_bind' x f
@[simp] theorem S1 {C : Caller} {st : St} (l : Mv.Loc) : (rd l).ev C st = some (st l) := by simp [rd]
@[simp] theorem C1 {C : Caller} {st : St} (p : Prop) [Decidable p] : (need p).ev C st = if p then some () else none := by simp [need]
@[simp] theorem c6h {C : Caller} {st : St} (f : Nat) (args : List AV) : (doCall f args).ev C st = C f args := by
 simp only [doCall, Rd.ev_callc]; cases C f args <;> rfl
section orders
variable (C : Caller) (cx : Cx) (ops : Array Oper)
inductive Runs : St → List Nat → List Log → St → Prop
 | nil (st : St) : Runs st [] [] st
 | cons {st st' : St} {i : Nat} {o : Oper} {ws : Ws} {rs : List Mv.Loc} {l : List Nat} {lg : List Log} (ho : ops[i]? = some o)
   (h : Rd.run (α := Unit × Ws) C st (Q1 cx ops o) = some (((), ws), rs)) (r : Runs (st.upds ws) l lg st') : Runs st (i :: l) ((rs, ws.map (·.1)) :: lg) st'
theorem b9r {a b : Log} (h : clash a b = false) :
  (∀ l ∈ a.2, l ∉ b.1 ∧ l ∉ b.2) ∧ (∀ l ∈ a.1, l ∉ b.2) := by
 simp only [clash, Bool.or_eq_false_iff, List.any_eq_false] at h
 obtain ⟨h1, h2⟩ := h
 refine ⟨fun l hl => ?_, fun l hl => ?_⟩
 ·have := h1 l hl
  simp only [Bool.or_eq_true, a2m, not_or] at this
  exact this
 ·have := h2 l hl
  simpa only [a2m] using this
variable {C cx ops}
theorem c7z {st : St} {oa ob : Oper} {wa wb : Ws} {ra rb : List Mv.Loc} (ha : Rd.run (α := Unit × Ws) C st (Q1 cx ops oa) = some (((), wa), ra))
  (hb : Rd.run (α := Unit × Ws) C (st.upds wa) (Q1 cx ops ob) = some (((), wb), rb)) (hc : clash (ra, wa.map (·.1)) (rb, wb.map (·.1)) = false) :
  Rd.run (α := Unit × Ws) C st (Q1 cx ops ob) = some (((), wb), rb) ∧ Rd.run (α := Unit × Ws) C (st.upds wb) (Q1 cx ops oa) = some (((), wa), ra) ∧ (st.upds wa).upds wb = (st.upds wb).upds wa := by
 obtain ⟨h1, h2⟩ := b9r hc
 refine ⟨Rd.run_local _ hb fun l hl => ?_, Rd.run_local _ ha fun l hl => ?_, St.upds_comm _ _ _ fun l x y => (h1 l x).2 y⟩
 ·exact (St.upds_notin _ _ _ fun w hw e => (h1 l (List.mem_map.2 ⟨w, hw, e⟩)).1 hl).symm
 ·exact St.upds_notin _ _ _ fun w hw e => h2 l hl (List.mem_map.2 ⟨w, hw, e⟩)
theorem Runs.front {i : Nat} {gi : Log} {l2 : List Nat} {g2 : List Log} {st' : St} :
  ∀ (l1 : List Nat) (g1 : List Log) (st : St), l1.length = g1.length → Runs C cx ops st (l1 ++ i :: l2) (g1 ++ gi :: g2) st' →
   (∀ x ∈ g1, clash x gi = false) → Runs C cx ops st (i :: (l1 ++ l2)) (gi :: (g1 ++ g2)) st' := by
 intro l1
 induction l1 with
 | nil =>
  intro g1 st hl h _
  cases g1 with
  | nil => exact h
  | cons x g => simp at hl
 | cons a l1 ih =>
  intro g1 st hl h hc
  cases g1 with
  | nil => simp at hl
  | cons ga g1 =>
   simp only [List.cons_append] at h
   cases h with
   | cons hoa ha r =>
    have := ih g1 _ (by simpa using hl) r (fun x hx => hc x (List.mem_cons_of_mem _ hx))
    cases this with
    | cons hob hb r2 =>
     obtain ⟨k1, k2, k3⟩ := c7z ha hb (hc _ (List.mem_cons_self ..))
     exact .cons hob k1 (.cons hoa k2 (k3 ▸ r2))
end orders
theorem b2c {C : Caller} {cx : Cx} {ops : Array Oper} : ∀ (l : List Oper) (k : Nat) (st : St) (ws : Ws) (lg : List Log),
  (∀ j, l[j]? = ops[k + j]?) → N5 C cx ops l st = some (ws, lg) → Runs C cx ops st (List.range' k l.length) lg (st.upds ws) ∧ lg.length = l.length := by
 intro l
 induction l with
 | nil =>
  intro k st ws lg _ h
  simp only [N5, Option.some.injEq, Prod.mk.injEq] at h
  obtain ⟨rfl, rfl⟩ := h
  exact ⟨.nil _, rfl⟩
 | cons o l ih =>
  intro k st ws lg hk h
  simp only [N5] at h
  cases h1 : Rd.run (α := Unit × Ws) C st (Q1 cx ops o) with
  | none => simp [h1] at h
  | some r =>
   obtain ⟨⟨⟨⟩, ws1⟩, rs⟩ := r
   simp only [h1] at h
   cases h2 : N5 C cx ops l (st.upds ws1) with
   | none => simp [h2] at h
   | some r2 =>
    obtain ⟨ws2, lg2⟩ := r2
    simp only [h2, Option.some.injEq, Prod.mk.injEq] at h
    obtain ⟨rfl, rfl⟩ := h
    obtain ⟨q1, q2⟩ := ih (k + 1) _ _ _ (fun j => by have := hk (j + 1); simpa [Nat.add_assoc, Nat.add_comm 1 j] using this) h2
    have h0 : ops[k]? = some o := by simpa using (hk 0).symm
    rw [St.upds_append]
    exact ⟨.cons h0 h1 q1, by simp [q2]⟩
inductive Anc (ops : Array Oper) : Nat → Nat → Prop
 | one {j : Nat} {o : Oper} {e : Edge} (ho : ops[j]? = some o) (he : e ∈ o.after) (hb : Region.binds .any e = true) : Anc ops e.on j
 | step {i j : Nat} {o : Oper} {e : Edge} (h : Anc ops i e.on) (ho : ops[j]? = some o) (he : e ∈ o.after) (hb : Region.binds .any e = true) : Anc ops i j
theorem c0f {acc : List Nat} (x : Nat) : ∀ (es : List Edge) (s : Nat),
  (es.foldl (fun s e => if Region.binds .any e then s ||| (2 ^ e.on) ||| acc.getD e.on 0 else s) s).testBit x = true →
   s.testBit x = true ∨ ∃ e ∈ es, Region.binds .any e = true ∧ (e.on = x ∨ (acc.getD e.on 0).testBit x = true) := by
 intro es
 induction es with
 | nil => intro s h; exact .inl h
 | cons e es ih =>
  intro s h
  simp only [List.foldl_cons] at h
  rcases ih _ h with h | ⟨e', he', hb, h⟩
  ·by_cases hb : Region.binds .any e = true
   ·simp only [hb, if_true, Nat.testBit_or, Bool.or_eq_true, Nat.testBit_two_pow, decide_eq_true_eq] at h
    rcases h with (h | h) | h
    ·exact .inl h
    ·exact .inr ⟨e, List.mem_cons_self .., hb, .inl h⟩
    ·exact .inr ⟨e, List.mem_cons_self .., hb, .inr h⟩
   ·simp only [hb] at h
    exact .inl h
  ·exact .inr ⟨e', List.mem_cons_of_mem _ he', hb, h⟩
abbrev b7c (ops : Array Oper) (a b : Nat × Log) : Prop := clash a.2 b.2 = false ∨ Anc ops a.1 b.1
theorem b1u {ops : Array Oper} : ∀ (l : List Oper) (lg : List Log) (prev : List (Log × Nat)) (k : Nat),
  (∀ j, l[j]? = ops[k + j]?) → prev.length = k → (∀ i m x, prev[i]? = some m → m.2.testBit x = true → Anc ops x i) →
  lg.length = l.length → S7 l lg prev = true →
   (∀ (j : Nat) (g : Log), lg[j]? = some g → ∀ (i : Nat) (m : Log × Nat), prev[i]? = some m → b7c ops (i, m.1) (k + j, g)) ∧
   ((List.range' k l.length).zip lg).Pairwise (b7c ops) := by
 intro l
 induction l with
 | nil =>
  intro lg prev k _ _ _ hl _
  have : lg = [] := by simpa using hl
  subst this
  exact ⟨fun j g h => by simp at h, by simp⟩
 | cons o l ih =>
  intro lg prev k hk hp hm hl h
  cases lg with
  | nil => simp at hl
  | cons g lg =>
   have h0 : ops[k]? = some o := by simpa using (hk 0).symm
   simp only [S7, Bool.and_eq_true] at h
   obtain ⟨h1, h2⟩ := h
   have hanc : ∀ x, (anc o (prev.map (·.2))).testBit x = true → Anc ops x k := by
    intro x hx
    unfold anc at hx
    rcases c0f x o.after.toList 0 hx with h | ⟨e, he, hb, h⟩
    ·simp at h
    ·have he' : e ∈ o.after := by simpa using he
     rcases h with rfl | h
     ·exact .one h0 he' hb
     ·refine .step ?_ h0 he' hb
      have hlt : e.on < prev.length := by
       rcases Nat.lt_or_ge e.on prev.length with h' | h'
       ·exact h'
       ·rw [List.getD_eq_getElem?_getD, List.getElem?_eq_none (by simpa using h')] at h
        simp at h
      have hg : prev[e.on]? = some prev[e.on] := List.getElem?_eq_getElem hlt
      refine hm _ _ x hg ?_
      rw [List.getD_eq_getElem?_getD, List.getElem?_map, hg] at h
      exact h
   obtain ⟨q1, q2⟩ := ih lg (prev ++ [(g, anc o (prev.map (·.2)))]) (k + 1)
    (fun j => by have := hk (j + 1); simpa [Nat.add_assoc, Nat.add_comm 1 j] using this) (by simp [hp]) (by
     intro i m x hi hx
     by_cases hlt : i < prev.length
     ·rw [List.getElem?_append_left hlt] at hi
      exact hm i m x hi hx
     ·have : i = prev.length := by
       rcases Nat.lt_or_ge prev.length i with h' | h'
       ·rw [List.getElem?_eq_none (by simp; omega)] at hi; simp at hi
       ·omega
      subst this
      simp only [List.getElem?_concat_length, Option.some.injEq] at hi
      subst hi
      rw [hp]
      exact hanc x hx) (by simpa using hl) h2
   have hself : ∀ (i : Nat) (m : Log × Nat), prev[i]? = some m → b7c ops (i, m.1) (k, g) := by
    intro i m hi
    have := List.all_eq_true.1 h1 (m, i) (by
     rw [List.mem_iff_getElem?]
     exact ⟨i, by simp [hi]⟩)
    simp only [Bool.or_eq_true, Bool.not_eq_true'] at this
    rcases this with h | h
    ·exact .inl h
    ·exact .inr (hanc _ h)
   refine ⟨?_, ?_⟩
   ·intro j g' hj i m hi
    cases j with
    | zero =>
     simp only [List.getElem?_cons_zero, Option.some.injEq] at hj
     subst hj
     exact hself i m hi
    | succ j =>
     have hi' : (prev ++ [(g, anc o (prev.map (·.2)))])[i]? = some m := by
      rw [List.getElem?_append_left (List.getElem?_eq_some_iff.1 hi).1]; exact hi
     have := q1 j g' (by simpa using hj) i m hi'
     rw [show k + (j + 1) = k + 1 + j from by omega]
     exact this
   ·simp only [List.length_cons, List.range'_succ, List.zip_cons_cons, List.pairwise_cons]
    refine ⟨?_, q2⟩
    intro y hy
    obtain ⟨j, hj⟩ := List.mem_iff_getElem?.1 hy
    have hg : (prev ++ [(g, anc o (prev.map (·.2)))])[k]? = some (g, anc o (prev.map (·.2))) := by
     rw [← hp]; simp
    rw [List.getElem?_zip_eq_some] at hj
    obtain ⟨ha, hb⟩ := hj
    have hy1 : y.1 = k + 1 + j := by
     have hlt := (List.getElem?_eq_some_iff.1 ha).1
     rw [List.getElem?_eq_getElem hlt] at ha
     simp only [List.getElem_range', Nat.one_mul, Option.some.injEq] at ha
     exact ha.symm
    have := q1 j y.2 hb k _ hg
    rw [← hy1] at this
    exact this
theorem a5t {ops : Array Oper} {j : Nat} {listed : Array Bool} : j ∈ Region.ready .any ops listed ↔
  listed.getD j true = false ∧ ∃ o, ops[j]? = some o ∧ ∀ e ∈ o.after, Region.binds .any e = true → listed.getD e.on false = true := mem_ready
theorem b3r {ops : Array Oper} {listed : Array Bool} : ∀ (T seen : List Nat), a7t ops T seen = true →
  (∀ i ∈ seen, listed.getD i false = true) → (∃ j, j < ops.size ∧ listed.getD j true = false) → listed.size = ops.size →
  Region.ready .any ops listed ≠ [] := by
 intro T
 induction T with
 | nil =>
  intro seen h hs ⟨j, hj, hu⟩ hsz
  simp only [a7t, List.all_eq_true, List.mem_range] at h
  have h1 := hs j (by simpa using h j hj)
  have : listed.getD j true = listed.getD j false := by
   simp [Array.getD, hsz, hj]
  rw [this, h1] at hu
  cases hu
 | cons t T ih =>
  intro seen h hs hex hsz
  simp only [a7t, Bool.and_eq_true] at h
  obtain ⟨h1, h2⟩ := h
  cases ho : ops[t]? with
  | none => simp [ho] at h1
  | some o =>
   simp only [ho, List.all_eq_true] at h1
   have hlt : t < ops.size := (Array.getElem?_eq_some_iff.1 ho).1
   by_cases ht : listed.getD t true = false
   ·intro hr
    have : t ∈ Region.ready .any ops listed := a5t.2 ⟨ht, o, ho, fun e he hb => by
     have := h1 e (by simpa using he)
     simp only [hb, Bool.not_true, Bool.false_or] at this
     exact hs _ (by simpa using this)⟩
    rw [hr] at this
    cases this
   ·refine ih (t :: seen) h2 ?_ hex hsz
    intro i hi
    rcases List.mem_cons.1 hi with rfl | hi
    ·have : listed.getD i true = listed.getD i false := by simp [Array.getD, hsz, hlt]
     rw [← this]
     simpa using ht
    ·exact hs i hi
section
variable {P : Program} {C : Caller} {cx : Cx} {ops : Array Oper} {Q : Exit → Act → World → Prop}
def c2p (Fc : Fence) (n : Nat) (P : Program) (C : Caller) (cx : Cx) (ops : Array Oper) (R : St → Act → World → Prop) : Prop :=
 ∀ (i : Nat) (o : Oper) (st : St) (a : Act) (w : World) (ws : Ws) (rs : List Mv.Loc) (K : Act → World → Prop) (Q : Exit → Act → World → Prop),
  ops[i]? = some o → Rd.run (α := Unit × Ws) C st (Q1 cx ops o) = some (((), ws), rs) → R st a w → (∀ a' w', R (st.upds ws) a' w' → K a' w') → wpOpIn Fc n P ops Q i K a w
theorem b4u {Fc : Fence} {n : Nat} {R : St → Act → World → Prop} (hstep : c2p Fc n P C cx ops R) (htopo : a4w ops = true) {st' : St}
  (hQ : ∀ a w, R st' a w → Q .normal a w) :
  ∀ (fuel : Nat) (listed : Array Bool) (st : St) (a : Act) (w : World) (L : List Nat) (lg : List Log),
   Runs C cx ops st L lg st' → lg.length = L.length → (L.zip lg).Pairwise (b7c ops) → L.Nodup →
   (∀ i, i ∈ L ↔ i < ops.size ∧ listed.getD i true = false) → listed.size = ops.size →
   (∀ j o, ops[j]? = some o → listed.getD j false = true → ∀ e ∈ o.after, Region.binds .any e = true → listed.getD e.on false = true) →
   L.length ≤ fuel → R st a w → wpAnyIn Fc n P .any ops Q fuel listed a w := by
 have hprog : ∀ (listed : Array Bool) (L : List Nat), (∀ i, i ∈ L ↔ i < ops.size ∧ listed.getD i true = false) → listed.size = ops.size →
   Region.ready .any ops listed = [] → L = [] := by
  intro listed L hL hsz hr
  cases L with
  | nil => rfl
  | cons x L =>
   have hx := (hL x).1 (List.mem_cons_self ..)
   simp only [a4w, Bool.or_eq_true] at htopo
   rcases htopo with h | h
   ·exact (b3r _ [] h (fun i hi => by cases hi) ⟨x, hx⟩ hsz hr).elim
   ·exact (b3r _ [] h (fun i hi => by cases hi) ⟨x, hx⟩ hsz hr).elim
 intro fuel
 induction fuel with
 | zero =>
  intro listed st a w L lg hr hlg _ _ hL hsz _ hfu hR
  have hL0 : L = [] := by simpa using hfu
  subst hL0
  cases hr
  refine ⟨?_, hQ _ _ hR⟩
  cases hrd : Region.ready .any ops listed with
  | nil => rfl
  | cons x xs =>
   have hx := a5t.1 (hrd ▸ List.mem_cons_self .. : x ∈ Region.ready .any ops listed)
   obtain ⟨hx1, o, ho, _⟩ := hx
   have := (hL x).2 ⟨(Array.getElem?_eq_some_iff.1 ho).1, hx1⟩
   cases this
 | succ fuel ih =>
  intro listed st a w L lg hr hlg hpw hnd hL hsz hdc hfu hR
  refine ⟨fun hrd => ?_, fun i hi => ?_⟩
  ·have hL0 := hprog listed L hL hsz hrd
   subst hL0
   cases hr
   exact hQ _ _ hR
  ·obtain ⟨hi1, o, ho, hall⟩ := a5t.1 hi
   have hlt : i < ops.size := (Array.getElem?_eq_some_iff.1 ho).1
   have hiL : i ∈ L := (hL i).2 ⟨hlt, hi1⟩
   obtain ⟨l1, l2, rfl⟩ := List.append_of_mem hiL
   -- the logs part alike
   obtain ⟨g1, gi, g2, rfl, hg1, hg2⟩ : ∃ g1 gi g2, lg = g1 ++ gi :: g2 ∧ g1.length = l1.length ∧ g2.length = l2.length := by
    refine ⟨lg.take l1.length, lg[l1.length]'(by simp at hlg; omega), lg.drop (l1.length + 1), ?_, ?_, ?_⟩
    ·rw [← List.drop_eq_getElem_cons, List.take_append_drop]
    ·simp at hlg ⊢; omega
    ·simp at hlg ⊢; omega
   -- nothing ahead of i is bound to be ahead of it
   have hanc : ∀ x, Anc ops x i → listed.getD x false = true := by
    have key : ∀ x j, Anc ops x j → (∀ o, ops[j]? = some o → ∀ e ∈ o.after, Region.binds .any e = true → listed.getD e.on false = true) → listed.getD x false = true := by
     intro x j h
     induction h with
     | one ho he hb => exact fun hh => hh _ ho _ he hb
     | step _ ho he hb ih => exact fun hh => ih fun o' ho' e' he' hb' => hdc _ _ ho' (hh _ ho _ he hb) _ he' hb'
    intro x hx
    refine key x i hx fun o' ho' e he hb => ?_
    rw [ho] at ho'
    cases ho'
    exact hall e he hb
   have hz : (l1 ++ i :: l2).zip (g1 ++ gi :: g2) = l1.zip g1 ++ (i, gi) :: l2.zip g2 := by
    rw [List.zip_append hg1.symm]; rfl
   rw [hz] at hpw
   have hc : ∀ x ∈ g1, clash x gi = false := by
    intro x hx
    obtain ⟨k, hk⟩ := List.mem_iff_getElem?.1 hx
    have hklt : k < l1.length := by
     have := (List.getElem?_eq_some_iff.1 hk).1; omega
    have hmem : (l1[k], x) ∈ l1.zip g1 := by
     rw [List.mem_iff_getElem?]
     exact ⟨k, by rw [List.getElem?_zip_eq_some]; exact ⟨List.getElem?_eq_getElem hklt, hk⟩⟩
    have := (List.pairwise_append.1 hpw).2.2 _ hmem (i, gi) (List.mem_cons_self ..)
    rcases this with h | h
    ·exact h
    ·exfalso
     have h1 := hanc _ h
     have hin : l1[k] ∈ l1 ++ i :: l2 := List.mem_append_left _ (List.getElem_mem ..)
     have h2 := (hL _).1 hin
     have : listed.getD l1[k] true = listed.getD l1[k] false := by simp [Array.getD, hsz, h2.1]
     rw [this, h1] at h2
     exact absurd h2.2 (by simp)
   have hfr := Runs.front l1 g1 st hg1.symm hr hc
   cases hfr with
   | @cons _ _ _ o' ws rs _ _ ho' h r2 =>
    rw [ho] at ho'
    cases ho'
    refine hstep i o st a w ws rs _ Q ho h hR fun a' w' hR' => ?_
    have hgi : (listed.setIfInBounds i true).getD i true = true := by simp [Array.getD, hsz, hlt]
    refine ih (listed.setIfInBounds i true) _ a' w' (l1 ++ l2) (g1 ++ g2) r2 (by simp at hlg ⊢; omega) ?_ ?_ ?_ (by simpa using hsz) ?_ (by simp at hfu ⊢; omega) hR'
    ·rw [List.zip_append hg1.symm]
     refine hpw.sublist ?_
     exact List.Sublist.append (List.Sublist.refl _) (List.sublist_cons_self ..)
    ·refine hnd.sublist ?_
     exact List.Sublist.append (List.Sublist.refl _) (List.sublist_cons_self ..)
    ·intro x
     have hni : i ∉ l1 ++ l2 := by
      have := List.nodup_append.1 hnd
      intro hm
      rcases List.mem_append.1 hm with hm | hm
      ·exact this.2.2 i hm i (List.mem_cons_self ..) rfl
      ·exact (List.nodup_cons.1 this.2.1).1 hm
     constructor
     ·intro hx
      have hne : x ≠ i := fun e => hni (e ▸ hx)
      have hx' : x ∈ l1 ++ i :: l2 := by
       rcases List.mem_append.1 hx with h | h
       ·exact List.mem_append_left _ h
       ·exact List.mem_append_right _ (List.mem_cons_of_mem _ h)
      have := (hL x).1 hx'
      exact ⟨this.1, by rw [getD_set_ne true (Ne.symm hne)]; exact this.2⟩
     ·rintro ⟨hx1, hx2⟩
      have hne : x ≠ i := fun e => by subst e; rw [hgi] at hx2; cases hx2
      rw [getD_set_ne true (Ne.symm hne)] at hx2
      have := (hL x).2 ⟨hx1, hx2⟩
      rcases List.mem_append.1 this with h | h
      ·exact List.mem_append_left _ h
      ·rcases List.mem_cons.1 h with h | h
       ·exact (hne h).elim
       ·exact List.mem_append_right _ h
    ·intro j oj hoj hj e he hb
     by_cases hji : j = i
     ·subst hji
      rw [ho] at hoj
      cases hoj
      exact getD_set_true (hall e he hb)
     ·rw [getD_set_ne false (Ne.symm hji)] at hj
      exact getD_set_true (hdc j oj hoj hj e he hb)
end
abbrev Base := Option (Nat × Nat)
abbrev Path := Option (Nat × Nat)
abbrev Nu := Nat → Path → Base
def csize (w : World) (b : Nat) : Nat := match w.heap[b]? with
 | some (.cells c _ _) => c.size
 | _ => 0
inductive RV (w : World) (D : Nat → Prop) : AV → Value → Prop
 | val (v : Value) : RV w D (.val v) v
 | ifc (t : TypeId) (v : Value) : RV w D .ifc (.iface t v)
 | nil (a : Option Addr) : RV w D .nil (.slice a 0 0)
 | list (es : List AV) (a : Option Addr) (cap b o s : Nat) (c : Nat → Nat → Value) (hcap : es.length ≤ cap)
   (ha : es ≠ [] → a = some ⟨b, o, none⟩ ∧ D b ∧ b < w.heap.size) (hs : ∀ e ∈ es, (leaves e).length = s)
   (hc : ∀ i j l, leafAt es i j = some l → w.cell? ⟨b, o + i * s + j, none⟩ = some (c i j))
   (hl : ∀ i j l, leafAt es i j = some l → RV w D l (c i j)) : RV w D (.list es) (.slice a es.length cap)
 | agg (fs : List AV) (cs : Array Value) (hs : cs.size = fs.length) (hl : ∀ (i : Nat) (l : AV), fs[i]? = some l → RV w D l (cs.getD i undef)) : RV w D (.agg fs) (.agg cs)
 | tup (fs : List AV) (cs : Array Value) (hs : cs.size = fs.length) (hl : ∀ (i : Nat) (l : AV), fs[i]? = some l → RV w D l (cs.getD i undef)) : RV w D (.tup fs) (.tuple cs)
 | ipt (e : AV) (j b o : Nat) (c : Nat → Value) (ha : D b ∧ b < w.heap.size)
   (hc : ∀ (k : Nat) (l : AV), (leaves e)[k]? = some l → w.cell? ⟨b, o + k, none⟩ = some (c k))
   (hl : ∀ (k : Nat) (l : AV), (leaves e)[k]? = some l → RV w D l (c k)) : RV w D (.ipt e j) (.pointer (some ⟨b, o + j, none⟩))
 | clo (f : Nat) (caps : List AV) (vs : Array Value) (hs : vs.size = caps.length) (hl : ∀ (i : Nat) (l : AV), caps[i]? = some l → RV w D l (vs.getD i undef)) :
   RV w D (.clo f caps) (.func (.func f) #[] vs)
theorem cell?_congr {w w' : World} {a : Addr} (h : w'.heap[a.block]? = w.heap[a.block]?) : w'.cell? a = w.cell? a := by
 unfold World.cell?; rw [h]
theorem L3 {w w' : World} {b : Nat} (h : w'.heap[b]? = w.heap[b]?) : csize w' b = csize w b := by
 unfold csize; rw [h]
theorem b4h {es : List AV} {i j : Nat} {l : AV} (h : leafAt es i j = some l) : es ≠ [] := by
 intro e; subst e; simp [leafAt] at h
theorem RV.mono {w w' : World} {D D' : Nat → Prop} {a : AV} {v : Value} (h : RV w D a v)
  (hD : ∀ b, D b → b < w.heap.size → w'.heap[b]? = w.heap[b]? ∧ D' b) (hw : w.heap.size ≤ w'.heap.size) : RV w' D' a v := by
 induction h with
 | val v => exact .val v
 | ifc t v => exact .ifc t v
 | nil a => exact .nil a
 | list es a cap b o s c hcap ha hs hc hl ih =>
  refine .list es a cap b o s c hcap (fun hne => ?_) hs (fun i j l h => ?_) ih
  ·obtain ⟨h1, h2, h3⟩ := ha hne
   exact ⟨h1, (hD b h2 h3).2, by omega⟩
  ·obtain ⟨_, h2, h3⟩ := ha (b4h h)
   rw [cell?_congr (w := w) (hD b h2 h3).1]
   exact hc i j l h
 | agg fs cs hs hl ih => exact .agg fs cs hs ih
 | tup fs cs hs hl ih => exact .tup fs cs hs ih
 | ipt e j b o c ha hc hl ih =>
  refine .ipt e j b o c ⟨(hD b ha.1 ha.2).2, by have := ha.2; omega⟩ (fun k l h => ?_) ih
  rw [cell?_congr (w := w) (hD b ha.1 ha.2).1]
  exact hc k l h
 | clo f caps vs hs hl ih => exact .clo f caps vs hs ih
def SlV (w : World) (base : Base) (s off n : Nat) (v : Value) : Prop :=
 ∃ a cap, v = .slice a n cap ∧ n ≤ cap ∧ (cap = 0 ∨ ∃ b o, base = some (b, o) ∧ a = some ⟨b, o + off * s, none⟩ ∧ o + (off + cap) * s ≤ csize w b)
def nodeAt (st : St) (id g : Nat) (p : Path) : Option (Nat × Nat × List AV) :=
 match st (.h id) with
 | .obj g' m s es => if g' = g then (match p with
   | none => some (m, s, es)
   | some (i, j) => match leafAt es i j with
    | some (.own s' es') => some (m, s', es')
    | _ => none) else none
 | _ => none
def c4b (st : St) (id g : Nat) (p : Path) : Prop :=
 ∀ m s es, st (.h id) = .obj g m s es → ∀ i j, p = some (i, j) → leafAt es i j ≠ some .nil
inductive RS (st : St) (ν : Nu) (w : World) (D : Nat → Prop) : AV → Value → Prop
 | undef (v : Value) : RS st ν w D .undef v
 | data (a : AV) (v : Value) (h : RV w D a v) : RS st ν w D a v
 | sl (id g : Nat) (p : Path) (off n : Nat) (v : Value) (hv : ∃ a cap, v = .slice a n cap ∧ n ≤ cap) (hg : g ≤ F9 (st (.h id))) (hb : c4b st id g p)
   (h : ∀ m s es, nodeAt st id g p = some (m, s, es) → SlV w (ν id p) s off n v) : RS st ν w D (.sl id g p off n) v
 | ptr (id g : Nat) (p : Path) (i j : Nat) (v : Value) (hv : ∃ b q, v = .pointer (some ⟨b, q, none⟩)) (hg : g ≤ F9 (st (.h id))) (hb : c4b st id g p)
   (h : ∀ m s es, nodeAt st id g p = some (m, s, es) → ∃ b o, ν id p = some (b, o) ∧ v = .pointer (some ⟨b, o + i * s + j, none⟩)) :
   RS st ν w D (.ptr id g p i j) v
 | asl (id g i j n : Nat) (v : Value) (hv : ∃ b q, v = .slice (some ⟨b, q, none⟩) n n) (hg : g ≤ F9 (st (.h id)))
   (h : ∀ m s es, nodeAt st id g none = some (m, s, es) → ∃ b o, ν id none = some (b, o) ∧ v = .slice (some ⟨b, o + i * s + j, none⟩) n n) :
   RS st ν w D (.asl id g i j n) v
 | agg (fs : List AV) (cs : Array Value) (hs : cs.size = fs.length) (hl : ∀ (i : Nat) (l : AV), fs[i]? = some l → RS st ν w D l (cs.getD i undef)) :
   RS st ν w D (.agg fs) (.agg cs)
 | tup (fs : List AV) (cs : Array Value) (hs : cs.size = fs.length) (hl : ∀ (i : Nat) (l : AV), fs[i]? = some l → RS st ν w D l (cs.getD i undef)) :
   RS st ν w D (.tup fs) (.tuple cs)
 | clo (f : Nat) (caps : List AV) (vs : Array Value) (hs : vs.size = caps.length) (hl : ∀ (i : Nat) (l : AV), caps[i]? = some l → RS st ν w D l (vs.getD i undef)) :
   RS st ν w D (.clo f caps) (.func (.func f) #[] vs)
structure Ext (st : St) (ν : Nu) (w : World) (st' : St) (ν' : Nu) (w' : World) : Prop where
 stamps : ∀ id, F9 (st (.h id)) ≤ F9 (st' (.h id))
 objs : ∀ id g m' s' es', g ≤ F9 (st (.h id)) → st' (.h id) = .obj g m' s' es' →
  ∃ m es, st (.h id) = .obj g m s' es ∧ ν' id none = ν id none ∧ (∀ b o, ν id none = some (b, o) → csize w' b = csize w b) ∧
   ∀ i j, (leafAt es' i j = some .nil → leafAt es i j = some .nil) ∧
    ∀ s2 es2', leafAt es' i j = some (.own s2 es2') → leafAt es i j = some .nil ∨
     ∃ es2, leafAt es i j = some (.own s2 es2) ∧ ν' id (some (i, j)) = ν id (some (i, j)) ∧ (∀ b o, ν id (some (i, j)) = some (b, o) → csize w' b = csize w b)
theorem SlV.mono {w w' : World} {base base' : Base} {s off n : Nat} {v : Value} (h : SlV w base s off n v) (hb : base' = base)
  (hc : ∀ b o, base = some (b, o) → csize w' b = csize w b) : SlV w' base' s off n v := by
 subst hb
 obtain ⟨a, cap, rfl, h1, h2⟩ := h
 refine ⟨a, cap, rfl, h1, h2.imp id ?_⟩
 rintro ⟨b, o, hbo, ha, hle⟩
 exact ⟨b, o, hbo, ha, by rw [hc b o hbo]; exact hle⟩
theorem Ext.node {st st' : St} {ν ν' : Nu} {w w' : World} (E : Ext st ν w st' ν' w') {id g : Nat} {p : Path} {m' s' : Nat} {es' : List AV}
  (hg : g ≤ F9 (st (.h id))) (hb : c4b st id g p) (h : nodeAt st' id g p = some (m', s', es')) :
  ∃ m es, nodeAt st id g p = some (m, s', es) ∧ ν' id p = ν id p ∧ (∀ b o, ν id p = some (b, o) → csize w' b = csize w b) := by
 unfold nodeAt at h
 split at h
 ·rename_i g' m1 s1 es1 hobj
  split at h
  ·rename_i hgg
   subst hgg
   obtain ⟨m, es, h1, h2, h3, h4⟩ := E.objs id g' m1 s1 es1 hg hobj
   cases p with
   | none =>
    simp only [Option.some.injEq, Prod.mk.injEq] at h
    obtain ⟨rfl, rfl, rfl⟩ := h
    exact ⟨m, es, by simp [nodeAt, h1], h2, h3⟩
   | some q =>
    obtain ⟨i, j⟩ := q
    simp only at h
    split at h
    ·rename_i s2 es2 hl
     simp only [Option.some.injEq, Prod.mk.injEq] at h
     obtain ⟨rfl, rfl, rfl⟩ := h
     rcases (h4 i j).2 s2 es2 hl with hn | ⟨es3, k1, k2, k3⟩
     ·exact ((hb m s1 es h1 i j rfl) hn).elim
     ·exact ⟨m, es3, by simp [nodeAt, h1, k1], k2, k3⟩
    ·simp at h
  ·simp at h
 ·simp at h
theorem Ext.born {st st' : St} {ν ν' : Nu} {w w' : World} (E : Ext st ν w st' ν' w') {id g : Nat} {p : Path}
  (hg : g ≤ F9 (st (.h id))) (hb : c4b st id g p) : c4b st' id g p := by
 intro m s es h i j hp hn
 obtain ⟨m0, es0, h1, _, _, h4⟩ := E.objs id g m s es hg h
 exact hb m0 s es0 h1 i j hp ((h4 i j).1 hn)
theorem RS.mono {st st' : St} {ν ν' : Nu} {w w' : World} {D D' : Nat → Prop} {a : AV} {v : Value} (h : RS st ν w D a v) (E : Ext st ν w st' ν' w')
  (hD : ∀ b, D b → b < w.heap.size → w'.heap[b]? = w.heap[b]? ∧ D' b) (hw : w.heap.size ≤ w'.heap.size) : RS st' ν' w' D' a v := by
 induction h with
 | undef v => exact .undef v
 | data a v h => exact .data a v (h.mono hD hw)
 | sl id g p off n v hv hg hb h =>
  refine .sl id g p off n v hv (Nat.le_trans hg (E.stamps id)) (E.born hg hb) fun m s es hn => ?_
  obtain ⟨m0, es0, h1, h2, h3⟩ := E.node hg hb hn
  exact (h _ _ _ h1).mono h2 h3
 | ptr id g p i j v hv hg hb h =>
  refine .ptr id g p i j v hv (Nat.le_trans hg (E.stamps id)) (E.born hg hb) fun m s es hn => ?_
  obtain ⟨m0, es0, h1, h2, _⟩ := E.node hg hb hn
  rw [h2]
  exact h _ _ _ h1
 | asl id g i j n v hv hg h =>
  refine .asl id g i j n v hv (Nat.le_trans hg (E.stamps id)) fun m s es hn => ?_
  obtain ⟨m0, es0, h1, h2, _⟩ := E.node hg (fun _ _ _ _ _ _ hp => by cases hp) hn
  rw [h2]
  exact h _ _ _ h1
 | agg fs cs hs hl ih => exact .agg fs cs hs ih
 | tup fs cs hs hl ih => exact .tup fs cs hs ih
 | clo f caps vs hs hl ih => exact .clo f caps vs hs ih
theorem Ext.refl (st : St) (ν : Nu) (w : World) : Ext st ν w st ν w :=
 ⟨fun _ => Nat.le_refl _, fun _ _ m' _ es' _ h => ⟨m', es', h, rfl, fun _ _ _ => rfl, fun _ _ => ⟨id, fun _ es2 h => .inr ⟨es2, h, rfl, fun _ _ _ => rfl⟩⟩⟩⟩
theorem Ext.of_same {st st' : St} {ν : Nu} {w w' : World} (h : ∀ id, st' (.h id) = st (.h id)) (hc : ∀ b, csize w' b = csize w b) : Ext st ν w st' ν w' :=
 ⟨fun id => by rw [h id]; exact Nat.le_refl _, fun id g m' s' es' _ he =>
  ⟨m', es', by rw [← h id]; exact he, rfl, fun _ _ _ => hc _, fun _ _ => ⟨fun x => x, fun _ es2 x => .inr ⟨es2, x, rfl, fun _ _ _ => hc _⟩⟩⟩⟩
def S0 (w : World) (L : AV → Value → Prop) (φ : Path → Base) (i j : Nat) (l : AV) (v : Value) : Prop :=
 match l with
 | .own s' es' => SlV w (φ (some (i, j))) s' 0 es'.length v
 | l => L l v
def RN (w : World) (L : AV → Value → Prop) (φ : Path → Base) (base : Base) (bx : Prop) (s : Nat) (es : List AV) : Prop :=
 match base with
 | none => es = []
 | some (b, o) => ∃ c ety, w.heap[b]? = some (.cells c ety (0, 0)) ∧ o + es.length * s ≤ c.size ∧ (¬ bx → ∀ e ∈ es, (leaves e).length = s) ∧
   (bx → es.length ≤ 1) ∧
   ∀ i j l, leafAt es i j = some l → ∃ v, c[o + i * s + j]? = some v ∧ S0 w L φ i j l v
def Z0 (es : List AV) : Prop := ∀ i j l, leafAt es i j = some l → immLeaf l = true
structure RO (w : World) (L : AV → Value → Prop) (φ : Path → Base) (bx : Prop) (s : Nat) (es : List AV) : Prop where
 top : RN w L φ (φ none) bx s es
 sub : ∀ i j s' es', leafAt es i j = some (.own s' es') → RN w L φ (φ (some (i, j))) False s' es' ∧ Z0 es'
theorem S0.mono {w w' : World} {L L' : AV → Value → Prop} {φ φ' : Path → Base} {i j : Nat} {l : AV} {v : Value} (h : S0 w L φ i j l v)
  (hL : ∀ a v, L a v → L' a v) (hφ : ∀ s' es', l = .own s' es' → φ' (some (i, j)) = φ (some (i, j)))
  (hc : ∀ s' es' b o, l = .own s' es' → φ (some (i, j)) = some (b, o) → csize w' b = csize w b) : S0 w' L' φ' i j l v := by
 cases l with
 | own s' es' => exact SlV.mono (h : SlV w _ _ _ _ _) (hφ _ _ rfl) (fun b o hb => hc _ _ b o rfl hb)
 | _ => exact hL _ _ h
theorem RN.mono {w w' : World} {L L' : AV → Value → Prop} {φ φ' : Path → Base} {base base' : Base} {bx : Prop} {s : Nat} {es : List AV} (h : RN w L φ base bx s es)
  (hbase : base' = base) (hb : ∀ b o, base = some (b, o) → w'.heap[b]? = w.heap[b]?) (hL : ∀ a v, L a v → L' a v)
  (hφ : ∀ i j s' es', leafAt es i j = some (.own s' es') → φ' (some (i, j)) = φ (some (i, j)) ∧ ∀ b o, φ (some (i, j)) = some (b, o) → csize w' b = csize w b) :
  RN w' L' φ' base' bx s es := by
 subst hbase
 cases base' with
 | none => exact h
 | some q =>
  obtain ⟨b, o⟩ := q
  obtain ⟨c, ety, h1, h2, h3, h5, h4⟩ := h
  refine ⟨c, ety, by rw [hb b o rfl]; exact h1, h2, h3, h5, fun i j l hl => ?_⟩
  obtain ⟨v, hv, hr⟩ := h4 i j l hl
  exact ⟨v, hv, hr.mono hL (fun s' es' e => (hφ i j s' es' (e ▸ hl)).1) (fun s' es' b o e => (hφ i j s' es' (e ▸ hl)).2 b o)⟩
theorem RO.mono {w w' : World} {L L' : AV → Value → Prop} {φ φ' : Path → Base} {bx : Prop} {s : Nat} {es : List AV} (h : RO w L φ bx s es)
  (hφ0 : φ' none = φ none) (hφ : ∀ i j s' es', leafAt es i j = some (.own s' es') → φ' (some (i, j)) = φ (some (i, j)))
  (hb : ∀ b o, φ none = some (b, o) → w'.heap[b]? = w.heap[b]?)
  (hb' : ∀ i j s' es' b o, leafAt es i j = some (.own s' es') → φ (some (i, j)) = some (b, o) → w'.heap[b]? = w.heap[b]?)
  (hL : ∀ a v, L a v → L' a v) : RO w' L' φ' bx s es := by
 refine ⟨h.top.mono hφ0 hb hL fun i j s' es' hl => ⟨hφ i j s' es' hl, fun b o hbo => L3 (hb' i j s' es' b o hl hbo)⟩, fun i j s' es' hl => ?_⟩
 obtain ⟨h1, h2⟩ := h.sub i j s' es' hl
 refine ⟨h1.mono (hφ i j s' es' hl) (fun b o => hb' i j s' es' b o hl) hL fun i' j' s2 es2 hl' => ?_, h2⟩
 have := h2 i' j' _ hl'
 simp [immLeaf] at this
structure Flo where
 φ : Path → Base
 s : Nat
 es : List AV
abbrev FK := Nat × Nat × Nat
abbrev Fl := FK → Option Flo
def Fl.emp : Fl := fun _ => none
def Fl.set (F : Fl) (k : FK) (f : Option Flo) : Fl := fun x => if x = k then f else F x
theorem Fl.set_eq (F : Fl) (k : FK) (f : Option Flo) : F.set k f k = f := by simp [Fl.set]
theorem Fl.set_ne (F : Fl) {k x : FK} (f : Option Flo) (h : x ≠ k) : F.set k f x = F x := by simp [Fl.set, h]
inductive Key where
 | nd (id : Nat) (p : Path)
 | fl (k : FK) (p : Path)
def livePath (es : List AV) (p : Path) : Prop := ∀ q, p = some q → ∃ s' es', leafAt es q.1 q.2 = some (.own s' es')
def live (st : St) (F : Fl) : Key → Prop
 | .nd id p => ∃ g m s es, st (.h id) = .obj g m s es ∧ m ≠ 2 ∧ livePath es p
 | .fl k p => ∃ f, F k = some f ∧ livePath f.es p
def baseOf (ν : Nu) (F : Fl) : Key → Base
 | .nd id p => ν id p
 | .fl k p => match F k with
  | some f => f.φ p
  | none => none
def TB (st : St) (ν : Nu) (F : Fl) (b : Nat) : Prop := ∃ k o, live st F k ∧ baseOf ν F k = some (b, o)
structure Env where
 mo : Prop
 gb : Nat → Prop
 G : World → Prop
 stable : ∀ w w', (∀ b, gb b → w'.heap[b]? = w.heap[b]?) → G w → G w'
structure Rel (Γ : Env) (w0 : World) (A O0 : Nat → Prop) (ν0 : Nu) (N : Nat) (F : Fl) (D : Nat → Prop) (st : St) (ν : Nu) (tm : Array Value) (w : World) : Prop where
 size : tm.size = N
 slots : ∀ i, i < N → RS st ν w D (st (.t i)) (tm.getD i undef)
 high : ∀ i, N ≤ i → st (.t i) = .undef
 objs : ∀ id g m s es, st (.h id) = .obj g m s es → RO w (RS st ν w D) (ν id) (m = 3 ∨ m = 4) s es
 frozen : ∀ id g s es, st (.h id) = .obj g 2 s es → (∀ b o, ν id none = some (b, o) → D b) ∧ M3 es = true
 flos : ∀ k f, F k = some f → RO w (RS st ν w D) f.φ False f.s f.es
 inj : ∀ k1 k2 b o1 o2, live st F k1 → live st F k2 → baseOf ν F k1 = some (b, o1) → baseOf ν F k2 = some (b, o2) → k1 = k2
 dT : ∀ b, D b → ¬ TB st ν F b
 dA : ∀ b, D b → A b ∨ w0.heap.size ≤ b
 dlt : ∀ b, D b → b < w.heap.size ∧ ((w0.heap.size ≤ b ∨ O0 b) → ∃ c ety, w.heap[b]? = some (.cells c ety (0, 0)))
 tO : ∀ b, TB st ν F b → O0 b ∨ w0.heap.size ≤ b
 le : w0.heap.size ≤ w.heap.size
 os : w.os = w0.os
 tape : w.tape = w0.tape
 output : w.output = w0.output
 dr : Γ.mo → w0.drawn ≤ w.drawn
 fr : ∀ b, b < w0.heap.size → ¬ O0 b → w.heap[b]? = w0.heap[b]?
 cs : ∀ b, b < w0.heap.size → csize w b = csize w0 b
 io : ∀ id g m s es, st (.h id) = .obj g m s es → (m = 1 ∨ m = 4) → ν id = ν0 id
 gO : ∀ b, Γ.gb b → ¬ O0 b ∧ b < w0.heap.size
 gi : Γ.G w0
theorem J1 {es : List AV} {n i j : Nat} {l : AV} (h : leafAt (es.take n) i j = some l) : leafAt es i j = some l := by
 unfold leafAt at *
 rw [List.getElem?_take] at h
 split at h
 ·exact h
 ·simp at h
theorem RN.lt {w : World} {L : AV → Value → Prop} {φ : Path → Base} {base : Base} {bx : Prop} {s : Nat} {es : List AV} (h : RN w L φ base bx s es) {b o : Nat}
  (hb : base = some (b, o)) : b < w.heap.size := by
 subst hb
 obtain ⟨c, ety, h1, _⟩ := h
 rcases Nat.lt_or_ge b w.heap.size with h' | h'
 ·exact h'
 ·rw [Array.getElem?_eq_none h'] at h1; cases h1
section
variable {Γ : Env} {w0 : World} {A O0 : Nat → Prop} {ν0 : Nu} {N : Nat} {F : Fl} {D : Nat → Prop} {st : St} {ν : Nu} {tm : Array Value} {w : World}
theorem Rel.live_lt (R : Rel Γ w0 A O0 ν0 N F D st ν tm w) {k : Key} {b o : Nat} (hl : live st F k) (hb : baseOf ν F k = some (b, o)) : b < w.heap.size := by
 cases k with
 | nd id p =>
  obtain ⟨g, m, s, es, h1, h2, h3⟩ := hl
  have := R.objs id g m s es h1
  cases p with
  | none => exact this.top.lt hb
  | some q =>
   obtain ⟨s', es', h4⟩ := h3 q rfl
   exact (this.sub q.1 q.2 s' es' h4).1.lt hb
 | fl k p =>
  obtain ⟨f, h1, h3⟩ := hl
  have := R.flos k f h1
  simp only [baseOf, h1] at hb
  cases p with
  | none => exact this.top.lt hb
  | some q =>
   obtain ⟨s', es', h4⟩ := h3 q rfl
   exact (this.sub q.1 q.2 s' es' h4).1.lt hb
theorem Rel.TB_lt (R : Rel Γ w0 A O0 ν0 N F D st ν tm w) {b : Nat} (h : TB st ν F b) : b < w.heap.size := by
 obtain ⟨k, o, h1, h2⟩ := h
 exact R.live_lt h1 h2
theorem RN.cells {w : World} {L : AV → Value → Prop} {φ : Path → Base} {base : Base} {bx : Prop} {s : Nat} {es : List AV} (h : RN w L φ base bx s es) {b o : Nat} (hb : base = some (b, o)) :
  ∃ c ety, w.heap[b]? = some (.cells c ety (0, 0)) := by
 subst hb
 obtain ⟨c, ety, h1, _⟩ := h
 exact ⟨c, ety, h1⟩
theorem Rel.live_cells (R : Rel Γ w0 A O0 ν0 N F D st ν tm w) {k : Key} {b o : Nat} (hl : live st F k) (hb : baseOf ν F k = some (b, o)) : ∃ c ety, w.heap[b]? = some (.cells c ety (0, 0)) := by
 cases k with
 | nd id p =>
  obtain ⟨g, m, s, es, h1, h2, h3⟩ := hl
  have := R.objs id g m s es h1
  cases p with
  | none => exact this.top.cells hb
  | some q =>
   obtain ⟨s', es', h4⟩ := h3 q rfl
   exact (this.sub q.1 q.2 s' es' h4).1.cells hb
 | fl k p =>
  obtain ⟨f, h1, h3⟩ := hl
  have := R.flos k f h1
  simp only [baseOf, h1] at hb
  cases p with
  | none => exact this.top.cells hb
  | some q =>
   obtain ⟨s', es', h4⟩ := h3 q rfl
   exact (this.sub q.1 q.2 s' es' h4).1.cells hb
theorem Rel.TB_cells (R : Rel Γ w0 A O0 ν0 N F D st ν tm w) {b : Nat} (h : TB st ν F b) : ∃ c ety, w.heap[b]? = some (.cells c ety (0, 0)) := by
 obtain ⟨k, o, h1, h2⟩ := h
 exact R.live_cells h1 h2
theorem c5d (st : St) (d : Nat) (a : AV) (id : Nat) : st.upd (.t d) a (.h id) = st (.h id) := St.upd_ne _ _ (by simp)
theorem c4j (st : St) (d : Nat) (a : AV) {i : Nat} (h : i ≠ d) : st.upd (.t d) a (.t i) = st (.t i) := St.upd_ne _ _ (by simpa using h)
theorem P8 (st : St) (d : Nat) (a : AV) (i : Nat) : st.upd (.h d) a (.t i) = st (.t i) := St.upd_ne _ _ (by simp)
theorem J4 (st : St) (d : Nat) (a : AV) {i : Nat} (h : i ≠ d) : st.upd (.h d) a (.h i) = st (.h i) := St.upd_ne _ _ (by simpa using h)
theorem a2f {st st' : St} {F : Fl} (h : ∀ id, st' (.h id) = st (.h id)) (k : Key) : live st' F k ↔ live st F k := by
 cases k <;> simp [live, h]
theorem a4c {st st' : St} {F : Fl} {ν : Nu} (h : ∀ id, st' (.h id) = st (.h id)) (b : Nat) : TB st' ν F b ↔ TB st ν F b := by
 simp [TB, a2f h]
theorem Rel.slotsOnly (R : Rel Γ w0 A O0 ν0 N F D st ν tm w) {st' : St} {tm' : Array Value} (hh : ∀ id, st' (.h id) = st (.h id)) (hsz : tm'.size = N)
  (hs : ∀ i, i < N → RS st ν w D (st' (.t i)) (tm'.getD i undef)) (hhi : ∀ i, N ≤ i → st' (.t i) = .undef) : Rel Γ w0 A O0 ν0 N F D st' ν tm' w := by
 have E : Ext st ν w st' ν w := Ext.of_same hh fun _ => rfl
 have hL : ∀ a v, RS st ν w D a v → RS st' ν w D a v := fun a v h => h.mono E (fun b hb _ => ⟨rfl, hb⟩) (Nat.le_refl _)
 refine ⟨hsz, fun i hi => hL _ _ (hs i hi), hhi, ?_, ?_, ?_, ?_, ?_, R.dA, R.dlt, ?_, R.le, R.os, R.tape, R.output, R.dr, R.fr, R.cs, ?_, R.gO, R.gi⟩
 ·intro id g m s es h
  rw [hh] at h
  exact (R.objs id g m s es h).mono rfl (fun _ _ _ _ _ => rfl) (fun _ _ _ => rfl) (fun _ _ _ _ _ _ _ _ => rfl) hL
 ·intro id g s es h
  rw [hh] at h
  exact R.frozen id g s es h
 ·intro k f h
  exact (R.flos k f h).mono rfl (fun _ _ _ _ _ => rfl) (fun _ _ _ => rfl) (fun _ _ _ _ _ _ _ _ => rfl) hL
 ·intro k1 k2 b o1 o2 h1 h2 h3 h4
  exact R.inj k1 k2 b o1 o2 ((a2f hh _).1 h1) ((a2f hh _).1 h2) h3 h4
 ·intro b hb ht
  exact R.dT b hb ((a4c hh b).1 ht)
 ·intro b ht
  exact R.tO b ((a4c hh b).1 ht)
 ·intro id g m s es h hm
  rw [hh] at h
  exact R.io id g m s es h hm
theorem a5y (tm : Array Value) (d i : Nat) (v : Value) (hd : d < tm.size) :
  (tm.setIfInBounds d v).getD i undef = if i = d then v else tm.getD i undef := by
 by_cases h : i = d
 ·subst h; simp [Array.getD, hd]
 ·simp only [h, if_false, Array.getD_eq_getD_getElem?, Array.getElem?_setIfInBounds_ne (Ne.symm h)]
theorem Rel.setT (R : Rel Γ w0 A O0 ν0 N F D st ν tm w) {d : Nat} {a : AV} {v : Value} (hd : d < N) (h : RS st ν w D a v) :
  Rel Γ w0 A O0 ν0 N F D (st.upd (.t d) a) ν (tm.setIfInBounds d v) w := by
 refine R.slotsOnly (c5d st d a) (by simpa using R.size) (fun i hi => ?_) (fun i hi => ?_)
 ·rw [a5y _ _ _ _ (by rw [R.size]; exact hd)]
  by_cases hid : i = d
  ·subst hid; rw [St.upd_eq]; simpa using h
  ·rw [c4j _ _ _ hid]; simpa [hid] using R.slots i hi
 ·rw [c4j _ _ _ (by omega)]; exact R.high i hi
theorem d0y (R : Rel Γ w0 A O0 ν0 N F D st ν tm w) {st' : St} {ν' : Nu} {F' : Fl} (f : Key → Key)
  (h1 : ∀ k b o, live st' F' k → baseOf ν' F' k = some (b, o) → (∃ o', live st F (f k) ∧ baseOf ν F (f k) = some (b, o')))
  (h2 : ∀ k1 k2, live st' F' k1 → live st' F' k2 → f k1 = f k2 → k1 = k2) :
  (∀ k1 k2 b o1 o2, live st' F' k1 → live st' F' k2 → baseOf ν' F' k1 = some (b, o1) → baseOf ν' F' k2 = some (b, o2) → k1 = k2) ∧
  (∀ b, TB st' ν' F' b → TB st ν F b) := by
 refine ⟨fun k1 k2 b o1 o2 l1 l2 b1 b2 => ?_, fun b ⟨k, o, l, hb⟩ => ?_⟩
 ·obtain ⟨o1', m1, c1⟩ := h1 k1 b o1 l1 b1
  obtain ⟨o2', m2, c2⟩ := h1 k2 b o2 l2 b2
  exact h2 k1 k2 l1 l2 (R.inj _ _ b o1' o2' m1 m2 c1 c2)
 ·obtain ⟨o', m, c⟩ := h1 k b o l hb
  exact ⟨_, o', m, c⟩
end
section
variable {Γ : Env} {w0 : World} {A O0 : Nat → Prop} {ν0 : Nu} {N : Nat} {F : Fl} {D : Nat → Prop} {st : St} {ν : Nu} {tm : Array Value} {w : World}
theorem RS.same {st' : St} {ν' : Nu} {D' : Nat → Prop} {a : AV} {v : Value} (h : RS st ν w D a v) (E : Ext st ν w st' ν' w) (hD : ∀ b, D b → D' b) : RS st' ν' w D' a v :=
 h.mono E (fun b hb _ => ⟨rfl, hD b hb⟩) (Nat.le_refl _)
theorem Rel.ghost (R : Rel Γ w0 A O0 ν0 N F D st ν tm w) {st' : St} {ν' : Nu} {F' : Fl} {D' : Nat → Prop} (ht : ∀ i, st' (.t i) = st (.t i))
  (E : Ext st ν w st' ν' w) (hD : ∀ b, D b → D' b)
  (objs : ∀ id g m s es, st' (.h id) = .obj g m s es → RO w (RS st' ν' w D') (ν' id) (m = 3 ∨ m = 4) s es)
  (frozen : ∀ id g s es, st' (.h id) = .obj g 2 s es → (∀ b o, ν' id none = some (b, o) → D' b) ∧ M3 es = true)
  (flos : ∀ k f, F' k = some f → RO w (RS st' ν' w D') f.φ False f.s f.es)
  (f : Key → Key)
  (h1 : ∀ k b o, live st' F' k → baseOf ν' F' k = some (b, o) → (∃ o', live st F (f k) ∧ baseOf ν F (f k) = some (b, o')))
  (h2 : ∀ k1 k2, live st' F' k1 → live st' F' k2 → f k1 = f k2 → k1 = k2)
  (dN : ∀ b, D' b → ¬ D b → ¬ TB st' ν' F' b ∧ (A b ∨ w0.heap.size ≤ b) ∧ b < w.heap.size ∧ ((w0.heap.size ≤ b ∨ O0 b) → ∃ c ety, w.heap[b]? = some (.cells c ety (0, 0))))
  (io : ∀ id g m s es, st' (.h id) = .obj g m s es → (m = 1 ∨ m = 4) → ν' id = ν0 id) : Rel Γ w0 A O0 ν0 N F' D' st' ν' tm w := by
 obtain ⟨i1, i2⟩ := d0y R f h1 h2
 refine ⟨R.size, fun i hi => ?_, fun i hi => by rw [ht]; exact R.high i hi, objs, frozen, flos, i1, fun b hb htb => ?_, fun b hb => ?_, fun b hb => ?_, fun b htb => R.tO b (i2 b htb), R.le, R.os, R.tape, R.output, R.dr, R.fr, R.cs, io, R.gO, R.gi⟩
 ·rw [ht]; exact (R.slots i hi).same E hD
 ·by_cases hd : D b
  ·exact R.dT b hd (i2 b htb)
  ·exact (dN b hb hd).1 htb
 ·by_cases hd : D b
  ·exact R.dA b hd
  ·exact (dN b hb hd).2.1
 ·by_cases hd : D b
  ·exact R.dlt b hd
  ·exact (dN b hb hd).2.2
theorem Rel.hlt (R : Rel Γ w0 A O0 ν0 N F D st ν tm w) {id g m s : Nat} {es : List AV} (h : st (.h id) = .obj g m s es) {p : Path} (hp : livePath es p) {b o : Nat} (hb : ν id p = some (b, o)) : b < w.heap.size := by
 have := R.objs id g m s es h
 cases p with
 | none => exact this.top.lt hb
 | some q =>
  obtain ⟨s', es', h4⟩ := hp q rfl
  exact (this.sub q.1 q.2 s' es' h4).1.lt hb
theorem Rel.extUpd (R : Rel Γ w0 A O0 ν0 N F D st ν tm w) {id : Nat} {a : AV} {ν' : Nu} {w' : World} (hs : F9 (st (.h id)) ≤ F9 a)
  (hn : ∀ g m s es, a = .obj g m s es → F9 (st (.h id)) < g) (hν : ∀ i, i ≠ id → ν' i = ν i) (hc : ∀ b, b < w.heap.size → csize w' b = csize w b) :
  Ext st ν w (st.upd (.h id) a) ν' w' := by
 refine ⟨fun i => ?_, fun i g m' s' es' hg h => ?_⟩
 ·by_cases e : i = id
  ·subst e; rw [St.upd_eq]; exact hs
  ·rw [J4 _ _ _ e]; exact Nat.le_refl _
 ·by_cases e : i = id
  ·subst e
   rw [St.upd_eq] at h
   have := hn _ _ _ _ h
   omega
  ·rw [J4 _ _ _ e] at h
   refine ⟨m', es', h, by rw [hν i e], fun b o hb => hc b (R.hlt h (fun _ hq => by cases hq) hb), fun x y => ⟨fun z => z, fun s2 es2 z => .inr ⟨es2, z, by rw [hν i e], fun b o hb => hc b (R.hlt h (fun q hq => by cases hq; exact ⟨s2, es2, z⟩) hb)⟩⟩⟩
def FrF (κ : FK) (id : Nat) : Key → Key
 | .nd i p => .nd i p
 | .fl k p => if k = κ then .nd id p else .fl k p
theorem Rel.detach (R : Rel Γ w0 A O0 ν0 N F D st ν tm w) {id g s : Nat} {es : List AV} (h : st (.h id) = .obj g 0 s es) {κ : FK} (hκ : F κ = none) :
  Rel Γ w0 A O0 ν0 N (F.set κ (some ⟨ν id, s, es⟩)) D (st.upd (.h id) (.dead g)) ν tm w := by
 have E : Ext st ν w (st.upd (.h id) (.dead g)) ν w := R.extUpd (by rw [h]; exact Nat.le_refl _) (by intro _ _ _ _ e; cases e) (fun _ _ => rfl) (fun _ _ => rfl)
 have hL : ∀ a v, RS st ν w D a v → RS (st.upd (.h id) (.dead g)) ν w D a v := fun a v h => h.same E (fun _ hb => hb)
 have hob : ∀ i g' m s' es', st.upd (.h id) (.dead g) (.h i) = .obj g' m s' es' → i ≠ id ∧ st (.h i) = .obj g' m s' es' := by
  intro i g' m s' es' hi
  by_cases e : i = id
  ·subst e; rw [St.upd_eq] at hi; cases hi
  ·rw [J4 _ _ _ e] at hi; exact ⟨e, hi⟩
 refine R.ghost (fun i => P8 _ _ _ _) E (fun _ hb => hb) ?_ ?_ ?_ (FrF κ id) ?_ ?_ (fun b hb hd => (hd hb).elim) ?_
 ·intro i g' m s' es' hi
  exact (R.objs i g' m s' es' (hob _ _ _ _ _ hi).2).mono rfl (fun _ _ _ _ _ => rfl) (fun _ _ _ => rfl) (fun _ _ _ _ _ _ _ _ => rfl) hL
 ·intro i g' s' es' hi
  exact R.frozen i g' s' es' (hob _ _ _ _ _ hi).2
 ·intro k f hf
  by_cases e : k = κ
  ·subst e
   rw [Fl.set_eq] at hf
   cases hf
   have := R.objs id g 0 s es h
   simp only [show ¬ ((0 : Nat) = 3 ∨ (0 : Nat) = 4) from by decide] at this
   exact this.mono rfl (fun _ _ _ _ _ => rfl) (fun _ _ _ => rfl) (fun _ _ _ _ _ _ _ _ => rfl) hL
  ·rw [Fl.set_ne _ _ e] at hf
   exact (R.flos k f hf).mono rfl (fun _ _ _ _ _ => rfl) (fun _ _ _ => rfl) (fun _ _ _ _ _ _ _ _ => rfl) hL
 ·intro k b o hl hb
  cases k with
  | nd i p =>
   obtain ⟨g', m, s', es', h1, h2, h3⟩ := hl
   exact ⟨o, ⟨g', m, s', es', (hob _ _ _ _ _ h1).2, h2, h3⟩, hb⟩
  | fl k p =>
   obtain ⟨f, h1, h3⟩ := hl
   by_cases e : k = κ
   ·subst e
    rw [Fl.set_eq] at h1
    cases h1
    simp only [baseOf, Fl.set_eq] at hb
    simp only [FrF, if_true]
    exact ⟨o, ⟨g, 0, s, es, h, by decide, h3⟩, hb⟩
   ·rw [Fl.set_ne _ _ e] at h1
    simp only [baseOf, Fl.set_ne _ _ e] at hb
    simp only [FrF, e, if_false]
    exact ⟨o, ⟨f, h1, h3⟩, hb⟩
 ·intro k1 k2 l1 l2 he
  have hid : ∀ p, ¬ live (st.upd (.h id) (.dead g)) (F.set κ (some ⟨ν id, s, es⟩)) (.nd id p) := by
   rintro p ⟨g', m, s', es', h1, _⟩
   exact (hob _ _ _ _ _ h1).1 rfl
  cases k1 with
  | nd i p => cases k2 with
   | nd j q => exact he
   | fl k q =>
    simp only [FrF] at he
    split at he
    ·cases he; exact (hid _ l1).elim
    ·cases he
  | fl k p => cases k2 with
   | nd j q =>
    simp only [FrF] at he
    split at he
    ·cases he; exact (hid _ l2).elim
    ·cases he
   | fl k' q =>
    simp only [FrF] at he
    split at he <;> split at he
    ·rename_i e1 e2; cases he; rw [e1, e2]
    ·cases he
    ·cases he
    ·exact he
 ·intro i g' m s' es' hi hm
  exact R.io i g' m s' es' (hob _ _ _ _ _ hi).2 hm
def Nu.set (ν : Nu) (id : Nat) (φ : Path → Base) : Nu := fun i => if i = id then φ else ν i
theorem Nu.set_eq (ν : Nu) (id : Nat) (φ : Path → Base) : ν.set id φ id = φ := by simp [Nu.set]
theorem Nu.set_ne (ν : Nu) {id i : Nat} (φ : Path → Base) (h : i ≠ id) : ν.set id φ i = ν i := by simp [Nu.set, h]
def FrN (κ : FK) (id : Nat) : Key → Key
 | .nd i p => if i = id then .fl κ p else .nd i p
 | .fl k p => .fl k p
theorem RO.tobx {L : AV → Value → Prop} {φ : Path → Base} {s : Nat} {es : List AV} (h : RO w L φ False s es) {bx : Prop} (hb : bx → es.length ≤ 1) : RO w L φ bx s es := by
 refine ⟨?_, h.sub⟩
 have ht := h.top
 unfold RN at ht ⊢
 split
 ·rename_i hb'
  rw [hb'] at ht
  exact ht
 ·rename_i b o hb'
  rw [hb'] at ht
  obtain ⟨c, ety, h1, h2, h3, h5, h4⟩ := ht
  exact ⟨c, ety, h1, h2, fun _ => h3 (fun h => h), hb, h4⟩
theorem Rel.attach (R : Rel Γ w0 A O0 ν0 N F D st ν tm w) {κ : FK} {f : Flo} (hκ : F κ = some f) (id g : Nat) (hg : F9 (st (.h id)) < g) (m0 : Nat) (hm0 : m0 = 0 ∨ m0 = 3 ∧ f.es.length ≤ 1) :
  Rel Γ w0 A O0 ν0 N (F.set κ none) D (st.upd (.h id) (.obj g m0 f.s f.es)) (ν.set id f.φ) tm w ∧ Ext st ν w (st.upd (.h id) (.obj g m0 f.s f.es)) (ν.set id f.φ) w := by
 have E : Ext st ν w (st.upd (.h id) (.obj g m0 f.s f.es)) (ν.set id f.φ) w :=
  R.extUpd (Nat.le_of_lt hg) (by intro _ _ _ _ e; cases e; exact hg) (fun i hi => Nu.set_ne _ _ hi) (fun _ _ => rfl)
 have hL : ∀ a v, RS st ν w D a v → RS (st.upd (.h id) (.obj g m0 f.s f.es)) (ν.set id f.φ) w D a v := fun a v h => h.same E (fun _ hb => hb)
 have hob : ∀ i g' m s' es', i ≠ id → st.upd (.h id) (.obj g m0 f.s f.es) (.h i) = .obj g' m s' es' → st (.h i) = .obj g' m s' es' := by
  intro i g' m s' es' e hi
  rw [J4 _ _ _ e] at hi; exact hi
 refine ⟨R.ghost (fun i => P8 _ _ _ _) E (fun _ hb => hb) ?_ ?_ ?_ (FrN κ id) ?_ ?_ (fun b hb hd => (hd hb).elim) ?_, E⟩
 ·intro i g' m s' es' hi
  by_cases e : i = id
  ·subst e
   rw [St.upd_eq] at hi
   cases hi
   rw [Nu.set_eq]
   have := (R.flos κ f hκ).tobx (bx := (m0 = 3 ∨ m0 = 4)) (fun hb => by omega)
   exact this.mono rfl (fun _ _ _ _ _ => rfl) (fun _ _ _ => rfl) (fun _ _ _ _ _ _ _ _ => rfl) hL
  ·rw [Nu.set_ne _ _ e]
   exact (R.objs i g' m s' es' (hob _ _ _ _ _ e hi)).mono rfl (fun _ _ _ _ _ => rfl) (fun _ _ _ => rfl) (fun _ _ _ _ _ _ _ _ => rfl) hL
 ·intro i g' s' es' hi
  by_cases e : i = id
  ·subst e; rw [St.upd_eq] at hi; cases hi; omega
  ·rw [Nu.set_ne _ _ e]; exact R.frozen i g' s' es' (hob _ _ _ _ _ e hi)
 ·intro k f' hf
  by_cases e : k = κ
  ·subst e; rw [Fl.set_eq] at hf; cases hf
  ·rw [Fl.set_ne _ _ e] at hf
   exact (R.flos k f' hf).mono rfl (fun _ _ _ _ _ => rfl) (fun _ _ _ => rfl) (fun _ _ _ _ _ _ _ _ => rfl) hL
 ·intro k b o hl hb
  cases k with
  | nd i p =>
   obtain ⟨g', m, s', es', h1, h2, h3⟩ := hl
   by_cases e : i = id
   ·subst e
    rw [St.upd_eq] at h1
    cases h1
    simp only [baseOf, Nu.set_eq] at hb
    simp only [FrN, if_true]
    exact ⟨o, ⟨f, hκ, h3⟩, by simp only [baseOf, hκ]; exact hb⟩
   ·simp only [baseOf, Nu.set_ne _ _ e] at hb
    simp only [FrN, e, if_false]
    exact ⟨o, ⟨g', m, s', es', hob _ _ _ _ _ e h1, h2, h3⟩, hb⟩
  | fl k p =>
   obtain ⟨f', h1, h3⟩ := hl
   have e : k ≠ κ := by intro e; subst e; rw [Fl.set_eq] at h1; cases h1
   rw [Fl.set_ne _ _ e] at h1
   simp only [baseOf, Fl.set_ne _ _ e] at hb
   exact ⟨o, ⟨f', h1, h3⟩, hb⟩
 ·intro k1 k2 l1 l2 he
  have hk : ∀ p, ¬ live (st.upd (.h id) (.obj g m0 f.s f.es)) (F.set κ none) (.fl κ p) := by
   rintro p ⟨f', h1, _⟩
   rw [Fl.set_eq] at h1; cases h1
  cases k1 with
  | nd i p => cases k2 with
   | nd j q =>
    simp only [FrN] at he
    split at he <;> split at he
    ·rename_i e1 e2; cases he; rw [e1, e2]
    ·cases he
    ·cases he
    ·exact he
   | fl k q =>
    simp only [FrN] at he
    split at he
    ·cases he; exact (hk _ l2).elim
    ·cases he
  | fl k p => cases k2 with
   | nd j q =>
    simp only [FrN] at he
    split at he
    ·cases he; exact (hk _ l1).elim
    ·cases he
   | fl k' q => exact he
 ·intro i g' m s' es' hi hm
  by_cases e : i = id
  ·subst e; rw [St.upd_eq] at hi; cases hi; omega
  ·rw [Nu.set_ne _ _ e]; exact R.io i g' m s' es' (hob _ _ _ _ _ e hi) hm
theorem Rel.refloat (R : Rel Γ w0 A O0 ν0 N F D st ν tm w) {κ : FK} {f : Flo} (hκ : F κ = some f) (f' : Option Flo) {D' : Nat → Prop} (hD : ∀ b, D b → D' b)
  (hf : ∀ f1, f' = some f1 → RO w (RS st ν w D') f1.φ False f1.s f1.es ∧ ∀ p b o, livePath f1.es p → f1.φ p = some (b, o) → livePath f.es p ∧ ∃ o', f.φ p = some (b, o'))
  (dN : ∀ b, D' b → ¬ D b → ¬ TB st ν (F.set κ f') b ∧ (A b ∨ w0.heap.size ≤ b) ∧ b < w.heap.size ∧ ((w0.heap.size ≤ b ∨ O0 b) → ∃ c ety, w.heap[b]? = some (.cells c ety (0, 0)))) : Rel Γ w0 A O0 ν0 N (F.set κ f') D' st ν tm w := by
 have E := Ext.refl st ν w
 have hL : ∀ a v, RS st ν w D a v → RS st ν w D' a v := fun a v h => h.same E hD
 refine R.ghost (fun _ => rfl) E hD ?_ ?_ ?_ id ?_ (fun _ _ _ _ h => h) dN R.io
 ·intro i g' m s' es' hi
  exact (R.objs i g' m s' es' hi).mono rfl (fun _ _ _ _ _ => rfl) (fun _ _ _ => rfl) (fun _ _ _ _ _ _ _ _ => rfl) hL
 ·intro i g' s' es' hi
  obtain ⟨h1, h2⟩ := R.frozen i g' s' es' hi
  exact ⟨fun b o hb => hD b (h1 b o hb), h2⟩
 ·intro k f1 hf1
  by_cases e : k = κ
  ·subst e; rw [Fl.set_eq] at hf1; exact (hf f1 hf1).1
  ·rw [Fl.set_ne _ _ e] at hf1
   exact (R.flos k f1 hf1).mono rfl (fun _ _ _ _ _ => rfl) (fun _ _ _ => rfl) (fun _ _ _ _ _ _ _ _ => rfl) hL
 ·intro k b o hl hb
  cases k with
  | nd i p => exact ⟨o, hl, hb⟩
  | fl k p =>
   obtain ⟨f1, h1, h3⟩ := hl
   by_cases e : k = κ
   ·subst e
    rw [Fl.set_eq] at h1
    simp only [baseOf, Fl.set_eq, h1] at hb
    obtain ⟨q1, o', q2⟩ := (hf f1 h1).2 p b o h3 hb
    exact ⟨o', ⟨f, hκ, q1⟩, by simp only [baseOf, hκ, id]; exact q2⟩
   ·rw [Fl.set_ne _ _ e] at h1
    simp only [baseOf, Fl.set_ne _ _ e] at hb
    exact ⟨o, ⟨f1, h1, h3⟩, hb⟩
end
theorem M2 (es : List AV) : frzL es = es.map frz := by
 induction es with
 | nil => simp [frzL]
 | cons a r ih => simp [frzL, ih]
theorem W6 (e : AV) : leaves (frz e) = (leaves e).map frz := by
 cases e <;> simp [frz, leaves, M2]
theorem M0 (es : List AV) (i j : Nat) : leafAt (frzL es) i j = (leafAt es i j).map frz := by
 unfold leafAt
 rw [M2, List.getElem?_map]
 cases es[i]? with
 | none => rfl
 | some e => simp [W6, List.getElem?_map]
theorem N2 {es : List AV} (h : D6 es = true) {i j : Nat} {l : AV} (hl : leafAt es i j = some l) : isOwn l = true ∨ immLeaf l = true := by
 unfold leafAt at hl
 cases he : es[i]? with
 | none => simp [he] at hl
 | some e =>
  simp only [he, Option.bind_some] at hl
  have := List.all_eq_true.1 h e (List.mem_of_getElem? he)
  cases e with
  | agg fs =>
   simp only [J5, List.all_eq_true, Bool.or_eq_true] at this
   exact this l (List.mem_of_getElem? hl)
  | _ =>
   simp only [leaves] at hl
   rcases j with _ | j
   ·simp only [List.getElem?_cons_zero, Option.some.injEq] at hl
    subst hl
    simpa [J5] using this
   ·simp at hl
theorem I6 {es : List AV} (h : M3 es = true) {i j : Nat} {l : AV} (hl : leafAt es i j = some l) : immLeaf l = true := by
 unfold leafAt at hl
 cases he : es[i]? with
 | none => simp [he] at hl
 | some e =>
  simp only [he, Option.bind_some] at hl
  have := List.all_eq_true.1 h e (List.mem_of_getElem? he)
  cases e with
  | agg fs =>
   simp only [I5, List.all_eq_true] at this
   exact this l (List.mem_of_getElem? hl)
  | _ =>
   simp only [leaves] at hl
   rcases j with _ | j
   ·simp only [List.getElem?_cons_zero, Option.some.injEq] at hl
    subst hl
    exact this
   ·simp at hl
theorem b8g {es : List AV} (h : ∀ i j l, leafAt es i j = some l → immLeaf l = true) : M3 es = true := by
 unfold M3
 rw [List.all_eq_true]
 intro e he
 obtain ⟨i, hi⟩ := List.mem_iff_getElem?.1 he
 cases e with
 | agg fs =>
  simp only [I5, List.all_eq_true]
  intro l hl
  obtain ⟨j, hj⟩ := List.mem_iff_getElem?.1 hl
  exact h i j l (by simp [leafAt, hi, leaves, hj])
 | _ => simp only [I5]; exact h i 0 _ (by simp [leafAt, hi, leaves])
theorem V5 {l : AV} (h : immLeaf l = true) : frz l = l := by
 cases l with
 | clo f cs => rfl
 | _ => simp [immLeaf] at h <;> simp [frz]
theorem b9t {l : AV} (h : isOwn l = true ∨ immLeaf l = true) : immLeaf (frz l) = true := by
 rcases h with h | h
 ·cases l <;> simp [isOwn] at h
  simp [frz, immLeaf]
 ·rw [V5 h]; exact h
theorem c6t {e : AV} (h : J5 e = true) : I5 (frz e) = true := by
 cases e with
 | agg fs =>
  simp only [frz, M2, I5, List.all_map, List.all_eq_true, J5] at *
  intro l hl
  have := h l hl
  simp only [Bool.or_eq_true] at this
  exact b9t this
 | own s es => simp [frz, I5, immLeaf]
 | clo f cs => simpa [frz, I5, J5, isOwn, immLeaf] using h
 | _ => simp [J5, isOwn, immLeaf] at h <;> simp [frz, I5, immLeaf]
theorem a1r {es : List AV} (h : D6 es = true) : M3 (frzL es) = true := by
 rw [M2]
 simp only [M3, List.all_map, List.all_eq_true]
 intro e he
 exact c6t (List.all_eq_true.1 h e he)
theorem U2 {es : List AV} (h : M3 es = true) : frzL es = es := by
 rw [M2]
 conv => rhs; rw [← List.map_id es]
 refine List.map_congr_left fun e he => ?_
 have := List.all_eq_true.1 h e he
 cases e with
 | agg fs =>
  simp only [I5, List.all_eq_true] at this
  simp only [frz, id, M2]
  congr 1
  conv => rhs; rw [← List.map_id fs]
  exact List.map_congr_left fun l hl => V5 (this l hl)
 | _ => exact V5 this
section
variable {Γ : Env} {w0 : World} {A O0 : Nat → Prop} {ν0 : Nu} {N : Nat} {F : Fl} {D : Nat → Prop} {st : St} {ν : Nu} {tm : Array Value} {w : World}
theorem RS.imm {a : AV} {v : Value} (h : RS st ν w D a v) (hi : immLeaf a = true) : RV w D a v := by
 cases h with
 | data _ _ h => exact h
 | clo f caps vs hs hl =>
  exact .clo f caps vs hs fun i l h => by
   have hl2 := hl i l h
   have hip : a0h l = true := List.all_eq_true.1 hi l (List.mem_of_getElem? h)
   cases l <;> simp [a0h] at hip
   cases hl2 with
   | data _ _ h => exact h
 | _ => simp [immLeaf] at hi
theorem Q4 {φ : Path → Base} {base : Base} {s : Nat} {es : List AV} (h : RN w (RS st ν w D) φ base False s es) (hi : Z0 es)
  (hD : ∀ b o, base = some (b, o) → D b) {off n : Nat} {v : Value} (hv : SlV w base s off n v) (hle : off + n ≤ es.length) :
  RV w D (.list ((es.drop off).take n)) v := by
 obtain ⟨a, cap, rfl, h1, h2⟩ := hv
 have hlen : ((es.drop off).take n).length = n := by simp; omega
 have key : RV w D (.list ((es.drop off).take n)) (.slice a ((es.drop off).take n).length cap) := by
  rcases h2 with h2 | ⟨b, o, hbo, ha, hsz⟩
  ·have hn : n = 0 := by omega
   subst hn
   simp only [List.take_zero]
   exact .list [] a cap 0 0 0 (fun _ _ => undef) (by simp) (fun hne => (hne rfl).elim) (fun e he => by cases he) (fun i j l hl => by simp [leafAt] at hl) (fun i j l hl => by simp [leafAt] at hl)
  ·subst hbo
   obtain ⟨c, ety, k1, k2, k3, _, k4⟩ := h
   have hsub : ∀ i j l, leafAt ((es.drop off).take n) i j = some l → leafAt es (off + i) j = some l := by
    intro i j l hl
    have := J1 hl
    unfold leafAt at this ⊢
    rwa [List.getElem?_drop] at this
   refine .list _ a cap b (o + off * s) s (fun i j => (c[o + (off + i) * s + j]?).getD undef) (by rw [hlen]; exact h1)
    (fun hne => ⟨ha, hD b o rfl, ?_⟩) (fun e he => k3 (fun h => h) e (List.mem_of_mem_drop (List.mem_of_mem_take he))) (fun i j l hl => ?_) (fun i j l hl => ?_)
   ·rcases Nat.lt_or_ge b w.heap.size with h' | h'
    ·exact h'
    ·rw [Array.getElem?_eq_none h'] at k1; cases k1
   ·obtain ⟨x, hx, _⟩ := k4 _ _ _ (hsub i j l hl)
    simp only [World.cell?, k1]
    rw [hx, show o + off * s + i * s + j = o + (off + i) * s + j from by rw [Nat.add_mul]; omega, hx]
    rfl
   ·obtain ⟨x, hx, hr⟩ := k4 _ _ _ (hsub i j l hl)
    have him := hi _ _ _ (hsub i j l hl)
    simp only [hx, Option.getD_some]
    cases l with
    | own => simp [immLeaf] at him
    | _ => exact (hr : RS st ν w D _ _).imm him
 rwa [hlen] at key
theorem Rel.extSame (R : Rel Γ w0 A O0 ν0 N F D st ν tm w) {id g m s m' : Nat} {es es' : List AV} (h : st (.h id) = .obj g m s es) {ν' : Nu} {w' : World}
  (hν : ∀ i, i ≠ id → ν' i = ν i) (hc : ∀ b, b < w.heap.size → csize w' b = csize w b) (h0 : ν' id none = ν id none)
  (hl : ∀ i j, (leafAt es' i j = some .nil → leafAt es i j = some .nil) ∧
   ∀ s2 es2', leafAt es' i j = some (.own s2 es2') → leafAt es i j = some .nil ∨ ∃ es2, leafAt es i j = some (.own s2 es2) ∧ ν' id (some (i, j)) = ν id (some (i, j))) :
  Ext st ν w (st.upd (.h id) (.obj g m' s es')) ν' w' := by
 refine ⟨fun i => ?_, fun i g1 m1 s1 es1 hg hi => ?_⟩
 ·by_cases e : i = id
  ·subst e; rw [St.upd_eq, h]; exact Nat.le_refl _
  ·rw [J4 _ _ _ e]; exact Nat.le_refl _
 ·by_cases e : i = id
  ·subst e
   rw [St.upd_eq] at hi
   cases hi
   refine ⟨m, es, h, h0, fun b o hb => hc b (R.hlt h (fun _ hq => by cases hq) hb), fun x y => ⟨(hl x y).1, fun s2 es2 hz => ?_⟩⟩
   rcases (hl x y).2 s2 es2 hz with h1 | ⟨es3, h1, h2⟩
   ·exact .inl h1
   ·exact .inr ⟨es3, h1, h2, fun b o hb => hc b (R.hlt h (fun q hq => by cases hq; exact ⟨s2, es3, h1⟩) hb)⟩
  ·rw [J4 _ _ _ e] at hi
   refine ⟨m1, es1, hi, by rw [hν i e], fun b o hb => hc b (R.hlt hi (fun _ hq => by cases hq) hb), fun x y => ⟨fun z => z, fun s2 es2 z => .inr ⟨es2, z, by rw [hν i e], fun b o hb => hc b (R.hlt hi (fun q hq => by cases hq; exact ⟨s2, es2, z⟩) hb)⟩⟩⟩
theorem Rel.freezeTop (R : Rel Γ w0 A O0 ν0 N F D st ν tm w) {id g s : Nat} {es : List AV} (h : st (.h id) = .obj g 0 s es) (hr : D6 es = true)
  (hA : ∀ b, TB st ν F b → A b ∨ w0.heap.size ≤ b) :
  ∃ D' : Nat → Prop, (∀ b, D b → D' b) ∧ Rel Γ w0 A O0 ν0 N F D' (st.upd (.h id) (.obj g 2 s (frzL es))) ν tm w ∧
   Ext st ν w (st.upd (.h id) (.obj g 2 s (frzL es))) ν w := by
 have E : Ext st ν w (st.upd (.h id) (.obj g 2 s (frzL es))) ν w := by
  refine R.extSame h (fun _ _ => rfl) (fun _ _ => rfl) rfl fun i j => ⟨fun hn => ?_, fun s2 es2 ho => ?_⟩
  ·rw [M0] at hn
   cases hl : leafAt es i j with
   | none => simp [hl] at hn
   | some l =>
    simp only [hl, Option.map_some, Option.some.injEq] at hn
    cases l <;> simp [frz] at hn
    rfl
  ·rw [M0] at ho
   cases hl : leafAt es i j with
   | none => simp [hl] at ho
   | some l =>
    simp only [hl, Option.map_some, Option.some.injEq] at ho
    cases l <;> simp [frz] at ho
 have hD : ∀ b, D b → (D b ∨ ∃ p o, livePath es p ∧ ν id p = some (b, o)) := fun b hb => .inl hb
 have hL : ∀ a v, RS st ν w D a v → RS (st.upd (.h id) (.obj g 2 s (frzL es))) ν w (fun b => D b ∨ ∃ p o, livePath es p ∧ ν id p = some (b, o)) a v :=
  fun a v h => h.same E hD
 have hob : ∀ i g' m s' es', i ≠ id → st.upd (.h id) (.obj g 2 s (frzL es)) (.h i) = .obj g' m s' es' → st (.h i) = .obj g' m s' es' := by
  intro i g' m s' es' e hi
  rw [J4 _ _ _ e] at hi; exact hi
 have hRO := R.objs id g 0 s es h
 have hlv : ∀ k, live (st.upd (.h id) (.obj g 2 s (frzL es))) F k → live st F k ∧ ∀ p, k ≠ .nd id p := by
  intro k hk
  cases k with
  | nd i p =>
   obtain ⟨g', m, s', es', h1, h2, h3⟩ := hk
   have e : i ≠ id := by
    intro e; subst e; rw [St.upd_eq] at h1; cases h1; exact h2 rfl
   exact ⟨⟨g', m, s', es', hob _ _ _ _ _ e h1, h2, h3⟩, fun p' hp => by cases hp; exact e rfl⟩
  | fl k p => exact ⟨hk, fun p' hp => by cases hp⟩
 refine ⟨fun b => D b ∨ ∃ p o, livePath es p ∧ ν id p = some (b, o), hD, ?_, E⟩
 refine R.ghost (fun i => P8 _ _ _ _) E hD ?_ ?_ ?_ (fun k => k) ?_ (fun _ _ _ _ h => h) ?_ ?_
 ·intro i g' m s' es' hi
  by_cases e : i = id
  ·subst e
   rw [St.upd_eq] at hi
   cases hi
   simp only [show ¬ ((2 : Nat) = 3 ∨ (2 : Nat) = 4) from by decide]
   simp only [show ¬ ((0 : Nat) = 3 ∨ (0 : Nat) = 4) from by decide] at hRO
   refine ⟨?_, fun x y s2 es2 hz => ?_⟩
   ·have ht := hRO.top
    cases hν : ν i none with
    | none =>
     rw [hν] at ht
     have : es = [] := ht
     subst this
     show frzL [] = []
     simp [frzL]
    | some q =>
     obtain ⟨b, o⟩ := q
     rw [hν] at ht
     obtain ⟨c, ety, k1, k2, k3, k5, k4⟩ := ht
     refine ⟨c, ety, k1, by simpa [M2] using k2, fun hb e he => ?_, fun hb => hb.elim, fun x y l hl => ?_⟩
     ·rw [M2] at he
      obtain ⟨e', he', rfl⟩ := List.mem_map.1 he
      rw [W6, List.length_map]
      exact k3 hb e' he'
     ·rw [M0] at hl
      cases hl0 : leafAt es x y with
      | none => simp [hl0] at hl
      | some l0 =>
       simp only [hl0, Option.map_some, Option.some.injEq] at hl
       subst hl
       obtain ⟨v, hv, hrv⟩ := k4 x y l0 hl0
       refine ⟨v, hv, ?_⟩
       rcases N2 hr hl0 with ho | him
       ·cases l0 <;> simp [isOwn] at ho
        rename_i s2 es2
        obtain ⟨q1, q2⟩ := hRO.sub x y s2 es2 hl0
        have hfr : frzL es2 = es2 := by
         rw [M2]
         conv => rhs; rw [← List.map_id es2]
         refine List.map_congr_left fun e he => ?_
         obtain ⟨z, hz⟩ := List.mem_iff_getElem?.1 he
         cases e with
         | agg fs =>
          simp only [frz, id, M2]
          congr 1
          conv => rhs; rw [← List.map_id fs]
          refine List.map_congr_left fun l hl => ?_
          obtain ⟨y', hy'⟩ := List.mem_iff_getElem?.1 hl
          exact V5 (q2 z y' l (by simp [leafAt, hz, leaves, hy']))
         | _ => exact V5 (q2 z 0 _ (by simp [leafAt, hz, leaves]))
        simp only [frz, hfr]
        have hrv' : SlV w (ν i (some (x, y))) s2 0 es2.length v := hrv
        have := Q4 (D := fun b => D b ∨ ∃ p o, livePath es p ∧ ν i p = some (b, o)) (st := st) (ν := ν) (φ := ν i) (q1.mono rfl (fun _ _ _ => rfl) (fun a v h => h.same (Ext.refl _ _ _) hD) (fun i j s' es' hx => by
         have := q2 i j _ hx; simp [immLeaf] at this)) q2 (fun b o hb => .inr ⟨some (x, y), o, (fun q hq => by cases hq; exact ⟨s2, es2, hl0⟩), hb⟩) hrv' (by omega)
        simp only [List.drop_zero, List.take_length] at this
        exact .data _ _ this
       ·rw [V5 him]
        cases l0 with
        | own => simp [immLeaf] at him
        | _ => exact hL _ _ hrv
   ·rw [M0] at hz
    cases hl0 : leafAt es x y with
    | none => simp [hl0] at hz
    | some l0 => simp only [hl0, Option.map_some, Option.some.injEq] at hz; cases l0 <;> simp [frz] at hz
  ·exact (R.objs i g' m s' es' (hob _ _ _ _ _ e hi)).mono rfl (fun _ _ _ _ _ => rfl) (fun _ _ _ => rfl) (fun _ _ _ _ _ _ _ _ => rfl) hL
 ·intro i g' s' es' hi
  by_cases e : i = id
  ·subst e
   rw [St.upd_eq] at hi
   cases hi
   exact ⟨fun b o hb => .inr ⟨none, o, (fun _ hq => by cases hq), hb⟩, a1r hr⟩
  ·obtain ⟨h1, h2⟩ := R.frozen i g' s' es' (hob _ _ _ _ _ e hi)
   exact ⟨fun b o hb => .inl (h1 b o hb), h2⟩
 ·intro k f hf
  exact (R.flos k f hf).mono rfl (fun _ _ _ _ _ => rfl) (fun _ _ _ => rfl) (fun _ _ _ _ _ _ _ _ => rfl) hL
 ·intro k b o hl hb
  exact ⟨o, (hlv k hl).1, hb⟩
 ·rintro b (hb | ⟨p, o, hp, hb⟩) hd
  ·exact (hd hb).elim
  ·have htb : TB st ν F b := ⟨.nd id p, o, ⟨g, 0, s, es, h, by decide, hp⟩, hb⟩
   refine ⟨?_, hA b htb, R.TB_lt htb, fun _ => R.TB_cells htb⟩
   rintro ⟨k, o', hl, hb'⟩
   obtain ⟨l1, l2⟩ := hlv k hl
   exact l2 p (R.inj k (.nd id p) b o' o l1 ⟨g, 0, s, es, h, by decide, hp⟩ hb' hb)
 ·intro i g' m s' es' hi hm
  by_cases e : i = id
  ·subst e; rw [St.upd_eq] at hi; cases hi; rcases hm with h | h <;> cases h
  ·exact R.io i g' m s' es' (hob _ _ _ _ _ e hi) hm
theorem Rel.freezeIn (R : Rel Γ w0 A O0 ν0 N F D st ν tm w) {id g s : Nat} {es : List AV} (h : st (.h id) = .obj g 0 s es) (hr : D6 es = true)
  (hA : ∀ b, TB st ν F b → A b ∨ w0.heap.size ≤ b) :
  ∃ D' : Nat → Prop, (∀ b, D b → D' b) ∧ Rel Γ w0 A O0 ν0 N F D' (st.upd (.h id) (.obj g 0 s (frzL es))) ν tm w ∧
   Ext st ν w (st.upd (.h id) (.obj g 0 s (frzL es))) ν w := by
 have E : Ext st ν w (st.upd (.h id) (.obj g 0 s (frzL es))) ν w := by
  refine R.extSame h (fun _ _ => rfl) (fun _ _ => rfl) rfl fun i j => ⟨fun hn => ?_, fun s2 es2 ho => ?_⟩
  ·rw [M0] at hn
   cases hl : leafAt es i j with
   | none => simp [hl] at hn
   | some l =>
    simp only [hl, Option.map_some, Option.some.injEq] at hn
    cases l <;> simp [frz] at hn
    rfl
  ·rw [M0] at ho
   cases hl : leafAt es i j with
   | none => simp [hl] at ho
   | some l =>
    simp only [hl, Option.map_some, Option.some.injEq] at ho
    cases l <;> simp [frz] at ho
 have hD : ∀ b, D b → (D b ∨ ∃ q o, livePath es (some q) ∧ ν id (some q) = some (b, o)) := fun b hb => .inl hb
 have hL : ∀ a v, RS st ν w D a v → RS (st.upd (.h id) (.obj g 0 s (frzL es))) ν w (fun b => D b ∨ ∃ q o, livePath es (some q) ∧ ν id (some q) = some (b, o)) a v :=
  fun a v h => h.same E hD
 have hob : ∀ i g' m s' es', i ≠ id → st.upd (.h id) (.obj g 0 s (frzL es)) (.h i) = .obj g' m s' es' → st (.h i) = .obj g' m s' es' := by
  intro i g' m s' es' e hi
  rw [J4 _ _ _ e] at hi; exact hi
 have hRO := R.objs id g 0 s es h
 have hlv : ∀ k, live (st.upd (.h id) (.obj g 0 s (frzL es))) F k → live st F k ∧ ∀ q, k ≠ .nd id (some q) := by
  intro k hk
  cases k with
  | nd i p =>
   obtain ⟨g', m, s', es', h1, h2, h3⟩ := hk
   by_cases e : i = id
   ·subst e
    rw [St.upd_eq] at h1
    cases h1
    cases p with
    | none => exact ⟨⟨g, 0, s, es, h, h2, fun _ hq => by cases hq⟩, fun q hq => by cases hq⟩
    | some q =>
     obtain ⟨s2, es2, hz⟩ := h3 q rfl
     have := I6 (a1r hr) hz
     simp [immLeaf] at this
   ·exact ⟨⟨g', m, s', es', hob _ _ _ _ _ e h1, h2, h3⟩, fun p' hp => by cases hp; exact e rfl⟩
  | fl k p => exact ⟨hk, fun p' hp => by cases hp⟩
 refine ⟨fun b => D b ∨ ∃ q o, livePath es (some q) ∧ ν id (some q) = some (b, o), hD, ?_, E⟩
 refine R.ghost (fun i => P8 _ _ _ _) E hD ?_ ?_ ?_ (fun k => k) ?_ (fun _ _ _ _ h => h) ?_ ?_
 ·intro i g' m s' es' hi
  by_cases e : i = id
  ·subst e
   rw [St.upd_eq] at hi
   cases hi
   simp only [show ¬ ((0 : Nat) = 3 ∨ (0 : Nat) = 4) from by decide]
   simp only [show ¬ ((0 : Nat) = 3 ∨ (0 : Nat) = 4) from by decide] at hRO
   refine ⟨?_, fun x y s2 es2 hz => ?_⟩
   ·have ht := hRO.top
    cases hν : ν i none with
    | none =>
     rw [hν] at ht
     have : es = [] := ht
     subst this
     show frzL [] = []
     simp [frzL]
    | some q =>
     obtain ⟨b, o⟩ := q
     rw [hν] at ht
     obtain ⟨c, ety, k1, k2, k3, k5, k4⟩ := ht
     refine ⟨c, ety, k1, by simpa [M2] using k2, fun hb e he => ?_, fun hb => hb.elim, fun x y l hl => ?_⟩
     ·rw [M2] at he
      obtain ⟨e', he', rfl⟩ := List.mem_map.1 he
      rw [W6, List.length_map]
      exact k3 hb e' he'
     ·rw [M0] at hl
      cases hl0 : leafAt es x y with
      | none => simp [hl0] at hl
      | some l0 =>
       simp only [hl0, Option.map_some, Option.some.injEq] at hl
       subst hl
       obtain ⟨v, hv, hrv⟩ := k4 x y l0 hl0
       refine ⟨v, hv, ?_⟩
       rcases N2 hr hl0 with ho | him
       ·cases l0 <;> simp [isOwn] at ho
        rename_i s2 es2
        obtain ⟨q1, q2⟩ := hRO.sub x y s2 es2 hl0
        have hfr : frzL es2 = es2 := by
         rw [M2]
         conv => rhs; rw [← List.map_id es2]
         refine List.map_congr_left fun e he => ?_
         obtain ⟨z, hz⟩ := List.mem_iff_getElem?.1 he
         cases e with
         | agg fs =>
          simp only [frz, id, M2]
          congr 1
          conv => rhs; rw [← List.map_id fs]
          refine List.map_congr_left fun l hl => ?_
          obtain ⟨y', hy'⟩ := List.mem_iff_getElem?.1 hl
          exact V5 (q2 z y' l (by simp [leafAt, hz, leaves, hy']))
         | _ => exact V5 (q2 z 0 _ (by simp [leafAt, hz, leaves]))
        simp only [frz, hfr]
        have hrv' : SlV w (ν i (some (x, y))) s2 0 es2.length v := hrv
        have := Q4 (D := fun b => D b ∨ ∃ q o, livePath es (some q) ∧ ν i (some q) = some (b, o)) (st := st) (ν := ν) (φ := ν i) (q1.mono rfl (fun _ _ _ => rfl) (fun a v h => h.same (Ext.refl _ _ _) hD) (fun i j s' es' hx => by
         have := q2 i j _ hx; simp [immLeaf] at this)) q2 (fun b o hb => .inr ⟨(x, y), o, (fun q hq => by cases hq; exact ⟨s2, es2, hl0⟩), hb⟩) hrv' (by omega)
        simp only [List.drop_zero, List.take_length] at this
        exact .data _ _ this
       ·rw [V5 him]
        cases l0 with
        | own => simp [immLeaf] at him
        | _ => exact hL _ _ hrv
   ·rw [M0] at hz
    cases hl0 : leafAt es x y with
    | none => simp [hl0] at hz
    | some l0 => simp only [hl0, Option.map_some, Option.some.injEq] at hz; cases l0 <;> simp [frz] at hz
  ·exact (R.objs i g' m s' es' (hob _ _ _ _ _ e hi)).mono rfl (fun _ _ _ _ _ => rfl) (fun _ _ _ => rfl) (fun _ _ _ _ _ _ _ _ => rfl) hL
 ·intro i g' s' es' hi
  by_cases e : i = id
  ·subst e
   rw [St.upd_eq] at hi
   cases hi
  ·obtain ⟨h1, h2⟩ := R.frozen i g' s' es' (hob _ _ _ _ _ e hi)
   exact ⟨fun b o hb => .inl (h1 b o hb), h2⟩
 ·intro k f hf
  exact (R.flos k f hf).mono rfl (fun _ _ _ _ _ => rfl) (fun _ _ _ => rfl) (fun _ _ _ _ _ _ _ _ => rfl) hL
 ·intro k b o hl hb
  exact ⟨o, (hlv k hl).1, hb⟩
 ·rintro b (hb | ⟨q, o, hp, hb⟩) hd
  ·exact (hd hb).elim
  ·have htb : TB st ν F b := ⟨.nd id (some q), o, ⟨g, 0, s, es, h, by decide, hp⟩, hb⟩
   refine ⟨?_, hA b htb, R.TB_lt htb, fun _ => R.TB_cells htb⟩
   rintro ⟨k, o', hl, hb'⟩
   obtain ⟨l1, l2⟩ := hlv k hl
   exact l2 q (R.inj k (.nd id (some q)) b o' o l1 ⟨g, 0, s, es, h, by decide, hp⟩ hb' hb)
 ·intro i g' m s' es' hi hm
  by_cases e : i = id
  ·subst e; rw [St.upd_eq] at hi; cases hi; rcases hm with h | h <;> cases h
  ·exact R.io i g' m s' es' (hob _ _ _ _ _ e hi) hm
end
structure WStep (Γ : Env) (w w' : World) (bt : Nat) : Prop where
 le : w.heap.size ≤ w'.heap.size
 os : w'.os = w.os
 tape : w'.tape = w.tape
 output : w'.output = w.output
 dr : Γ.mo → w.drawn ≤ w'.drawn
 keep : ∀ b, b < w.heap.size → b ≠ bt → w'.heap[b]? = w.heap[b]?
 cs : ∀ b, b < w.heap.size → csize w' b = csize w b
section
variable {Γ : Env} {w0 : World} {A O0 : Nat → Prop} {ν0 : Nu} {N : Nat} {F : Fl} {D : Nat → Prop} {st : St} {ν : Nu} {tm : Array Value} {w : World}
theorem Rel.extW (R : Rel Γ w0 A O0 ν0 N F D st ν tm w) {w' : World} {bt : Nat} (W : WStep Γ w w' bt) : Ext st ν w st ν w' :=
 ⟨fun _ => Nat.le_refl _, fun id g m' s' es' _ h => ⟨m', es', h, rfl, fun b o hb => W.cs b (R.hlt h (fun _ hq => by cases hq) hb),
  fun i j => ⟨fun z => z, fun s2 es2 z => .inr ⟨es2, z, rfl, fun b o hb => W.cs b (R.hlt h (fun q hq => by cases hq; exact ⟨s2, es2, z⟩) hb)⟩⟩⟩⟩
theorem Rel.keepD (R : Rel Γ w0 A O0 ν0 N F D st ν tm w) {w' : World} {bt : Nat} (W : WStep Γ w w' bt) (hbt : TB st ν F bt ∨ w.heap.size ≤ bt) :
  ∀ b, D b → b < w.heap.size → w'.heap[b]? = w.heap[b]? ∧ D b := by
 intro b hb hlt
 refine ⟨W.keep b hlt ?_, hb⟩
 rintro rfl
 rcases hbt with h | h
 ·exact R.dT b hb h
 ·omega
theorem Rel.world (R : Rel Γ w0 A O0 ν0 N F D st ν tm w) {st' : St} {ν' : Nu} {F' : Fl} {w' : World} {bt : Nat} (W : WStep Γ w w' bt) (hbt : TB st ν F bt ∨ w.heap.size ≤ bt)
  (ht : ∀ i, st' (.t i) = st (.t i)) (E : Ext st ν w st' ν' w')
  (objs : ∀ id g m s es, st' (.h id) = .obj g m s es → RO w' (RS st' ν' w' D) (ν' id) (m = 3 ∨ m = 4) s es)
  (frozen : ∀ id g s es, st' (.h id) = .obj g 2 s es → (∀ b o, ν' id none = some (b, o) → D b) ∧ M3 es = true)
  (flos : ∀ k f, F' k = some f → RO w' (RS st' ν' w' D) f.φ False f.s f.es)
  (f : Key → Key) (fresh : Key → Prop)
  (h1 : ∀ k b o, live st' F' k → baseOf ν' F' k = some (b, o) → (¬ fresh k ∧ ∃ o', live st F (f k) ∧ baseOf ν F (f k) = some (b, o')) ∨ (fresh k ∧ w.heap.size ≤ b))
  (h2 : ∀ k1 k2, live st' F' k1 → live st' F' k2 → ¬ fresh k1 → ¬ fresh k2 → f k1 = f k2 → k1 = k2)
  (h3 : ∀ k1 k2, fresh k1 → fresh k2 → k1 = k2)
  (io : ∀ id g m s es, st' (.h id) = .obj g m s es → (m = 1 ∨ m = 4) → ν' id = ν0 id) : Rel Γ w0 A O0 ν0 N F' D st' ν' tm w' := by
 have hD := R.keepD W hbt
 have hTB : ∀ b, TB st' ν' F' b → TB st ν F b ∨ w.heap.size ≤ b := by
  rintro b ⟨k, o, hl, hb⟩
  rcases h1 k b o hl hb with ⟨_, o', m, c⟩ | ⟨_, h⟩
  ·exact .inl ⟨_, o', m, c⟩
  ·exact .inr h
 refine ⟨R.size, fun i hi => ?_, fun i hi => by rw [ht]; exact R.high i hi, objs, frozen, flos, ?_, ?_, R.dA, fun b hb => ⟨Nat.lt_of_lt_of_le (R.dlt b hb).1 W.le, fun h => by rw [(hD b hb (R.dlt b hb).1).1]; exact (R.dlt b hb).2 h⟩, ?_, Nat.le_trans R.le W.le, W.os.trans R.os, W.tape.trans R.tape, W.output.trans R.output, fun h => Nat.le_trans (R.dr h) (W.dr h), ?_, fun b hb => (W.cs b (Nat.lt_of_lt_of_le hb R.le)).trans (R.cs b hb), io, R.gO, R.gi⟩
 ·rw [ht]; exact (R.slots i hi).mono E hD W.le
 ·intro k1 k2 b o1 o2 l1 l2 b1 b2
  rcases h1 k1 b o1 l1 b1 with ⟨n1, o1', m1, c1⟩ | ⟨n1, g1⟩ <;> rcases h1 k2 b o2 l2 b2 with ⟨n2, o2', m2, c2⟩ | ⟨n2, g2⟩
  ·exact h2 k1 k2 l1 l2 n1 n2 (R.inj _ _ b o1' o2' m1 m2 c1 c2)
  ·have := R.live_lt m1 c1; omega
  ·have := R.live_lt m2 c2; omega
  ·exact h3 k1 k2 n1 n2
 ·intro b hb htb
  rcases hTB b htb with h | h
  ·exact R.dT b hb h
  ·have := (R.dlt b hb).1; omega
 ·intro b htb
  rcases hTB b htb with h | h
  ·exact R.tO b h
  ·exact .inr (Nat.le_trans R.le h)
 ·intro b hb hO
  rw [W.keep b (Nat.lt_of_lt_of_le hb R.le) ?_]
  ·exact R.fr b hb hO
  ·rintro rfl
   rcases hbt with h | h
   ·rcases R.tO b h with h | h
    ·exact hO h
    ·omega
   ·have := R.le; omega
theorem Rel.objW (R : Rel Γ w0 A O0 ν0 N F D st ν tm w) {st' : St} {ν' : Nu} {w' : World} {bt : Nat} (W : WStep Γ w w' bt) (hbt : TB st ν F bt ∨ w.heap.size ≤ bt)
  (E : Ext st ν w st' ν' w') {id g m s : Nat} {es : List AV} (h : st (.h id) = .obj g m s es) (hν : ν' id = ν id)
  (hne : ∀ p b o, livePath es p → ν id p = some (b, o) → b ≠ bt) : RO w' (RS st' ν' w' D) (ν' id) (m = 3 ∨ m = 4) s es := by
 have hD := R.keepD W hbt
 rw [hν]
 refine (R.objs id g m s es h).mono rfl (fun _ _ _ _ _ => rfl) (fun b o hb => ?_) (fun i j s' es' b o hl hb => ?_) (fun a v h => h.mono E hD W.le)
 ·have hp : livePath es none := fun _ hq => by cases hq
  exact W.keep b (R.hlt h hp hb) (hne none b o hp hb)
 ·have hp : livePath es (some (i, j)) := fun q hq => by cases hq; exact ⟨s', es', hl⟩
  exact W.keep b (R.hlt h hp hb) (hne _ b o hp hb)
theorem Rel.floW (R : Rel Γ w0 A O0 ν0 N F D st ν tm w) {st' : St} {ν' : Nu} {w' : World} {bt : Nat} (W : WStep Γ w w' bt) (hbt : TB st ν F bt ∨ w.heap.size ≤ bt)
  (E : Ext st ν w st' ν' w') {k : FK} {f : Flo} (h : F k = some f)
  (hne : ∀ p b o, livePath f.es p → f.φ p = some (b, o) → b ≠ bt) : RO w' (RS st' ν' w' D) f.φ False f.s f.es := by
 have hD := R.keepD W hbt
 have hlt : ∀ p b o, livePath f.es p → f.φ p = some (b, o) → b < w.heap.size := fun p b o hp hb =>
  R.live_lt (k := .fl k p) ⟨f, h, hp⟩ (by simp only [baseOf, h]; exact hb)
 refine (R.flos k f h).mono rfl (fun _ _ _ _ _ => rfl) (fun b o hb => ?_) (fun i j s' es' b o hl hb => ?_) (fun a v h => h.mono E hD W.le)
 ·have hp : livePath f.es none := fun _ hq => by cases hq
  exact W.keep b (hlt _ _ _ hp hb) (hne none b o hp hb)
 ·have hp : livePath f.es (some (i, j)) := fun q hq => by cases hq; exact ⟨s', es', hl⟩
  exact W.keep b (hlt _ _ _ hp hb) (hne _ b o hp hb)
def FrC0 (κ0 : FK) (σt : Option FK) (σ : Nat → Nat → FK × Path) : Path → Key
 | none => match σt with
  | some kt => .fl kt none
  | none => .fl κ0 none
 | some (i, j) => .fl (σ i j).1 (σ i j).2
def FrC (κ0 : FK) (σt : Option FK) (σ : Nat → Nat → FK × Path) : Key → Key
 | .nd i p => .nd i p
 | .fl k p => if k = κ0 then FrC0 κ0 σt σ p else .fl k p
theorem Rel.compose (R : Rel Γ w0 A O0 ν0 N F D st ν tm w) {w' : World} {bt : Nat} (W : WStep Γ w w' bt) (Kc : FK → Prop) (κ0 : FK) (hκ0 : F κ0 = none ∨ Kc κ0)
  (new : Flo) (σt : Option FK) (σ : Nat → Nat → FK × Path) (hnew : ∃ o, new.φ none = some (bt, o))
  (htop : (σt = none ∧ w.heap.size ≤ bt) ∨ ∃ kt ft o', σt = some kt ∧ Kc kt ∧ F kt = some ft ∧ ft.φ none = some (bt, o'))
  (hRN : RN w' (RS st ν w D) new.φ (new.φ none) False new.s new.es)
  (hsub : ∀ i j s' es', leafAt new.es i j = some (.own s' es') → Kc (σ i j).1 ∧ (∃ f, F (σ i j).1 = some f ∧ livePath f.es (σ i j).2 ∧ f.φ (σ i j).2 = new.φ (some (i, j)) ∧
   RN w (RS st ν w D) f.φ (f.φ (σ i j).2) False s' es') ∧ Z0 es')
  (hσ : ∀ i j i' j' s1 e1 s2 e2, leafAt new.es i j = some (.own s1 e1) → leafAt new.es i' j' = some (.own s2 e2) → σ i j = σ i' j' → i = i' ∧ j = j')
  (hσt : ∀ kt, σt = some kt → ∀ i j s' es', leafAt new.es i j = some (.own s' es') → σ i j ≠ (kt, none))
  {F' : Fl} (hF0 : F' κ0 = some new) (hF1 : ∀ k, k ≠ κ0 → Kc k → F' k = none) (hF2 : ∀ k, k ≠ κ0 → ¬ Kc k → F' k = F k) :
  Rel Γ w0 A O0 ν0 N F' D st ν tm w' := by
 obtain ⟨o0, hnew⟩ := hnew
 have hbt : TB st ν F bt ∨ w.heap.size ≤ bt := by
  rcases htop with ⟨_, h⟩ | ⟨kt, ft, o', _, _, h1, h2⟩
  ·exact .inr h
  ·exact .inl ⟨.fl kt none, o', ⟨ft, h1, fun _ hq => by cases hq⟩, by simp only [baseOf, h1]; exact h2⟩
 have E := R.extW W
 have hD := R.keepD W hbt
 have hL : ∀ a v, RS st ν w D a v → RS st ν w' D a v := fun a v h => h.mono E hD W.le
 have hbtown : ∀ k o, live st F k → baseOf ν F k = some (bt, o) → ∃ kt, σt = some kt ∧ Kc kt ∧ k = .fl kt none := by
  intro k o hl hb
  have hlt := R.live_lt hl hb
  rcases htop with ⟨_, h⟩ | ⟨kt, ft, o', e, hk, h1, h2⟩
  ·omega
  ·exact ⟨kt, e, hk, R.inj k (.fl kt none) bt o o' hl ⟨ft, h1, fun _ hq => by cases hq⟩ hb (by simp only [baseOf, h1]; exact h2)⟩
 have hF : ∀ k f, F' k = some f → k ≠ κ0 → ¬ Kc k ∧ F k = some f := by
  intro k f hf hne
  by_cases hk : Kc k
  ·rw [hF1 k hne hk] at hf; cases hf
  ·rw [hF2 k hne hk] at hf; exact ⟨hk, hf⟩
 refine R.world W hbt (fun _ => rfl) E ?_ R.frozen ?_
  (FrC κ0 σt σ)
  (fun k => k = .fl κ0 none ∧ σt = none) ?_ ?_ (fun k1 k2 h1 h2 => h1.1.trans h2.1.symm) R.io
 ·intro id g m s es h
  refine R.objW W hbt E h rfl fun p b o hp hb e => ?_
  subst e
  by_cases hm : m = 2
  ·subst hm
   cases p with
   | none =>
    have := (R.frozen id g s es h).1 b o hb
    rcases hbt with h' | h'
    ·exact R.dT b this h'
    ·have := (R.dlt b this).1; omega
   | some q =>
    obtain ⟨s', es', hq⟩ := hp q rfl
    have := I6 (R.frozen id g s es h).2 hq
    simp [immLeaf] at this
  ·obtain ⟨kt, _, _, h'⟩ := hbtown (.nd id p) o ⟨g, m, s, es, h, hm, hp⟩ hb
   cases h'
 ·intro k f hf
  by_cases e : k = κ0
  ·subst e
   rw [hF0] at hf
   cases hf
   refine ⟨hRN.mono rfl (fun _ _ _ => rfl) hL (fun _ _ _ _ _ => ⟨rfl, fun _ _ _ => rfl⟩), fun i j s' es' hl => ?_⟩
   obtain ⟨q1, ⟨f, q2, q3, q4, q5⟩, q6⟩ := hsub i j s' es' hl
   refine ⟨(q5.mono (base' := new.φ (some (i, j))) q4.symm (fun b o hb => ?_) hL (fun i' j' s2 es2 hl2 => ?_) : RN w' (RS st ν w' D) new.φ _ False s' es'), q6⟩
   ·refine W.keep b (q5.lt hb) ?_
    rintro rfl
    obtain ⟨kt, e1, _, e2⟩ := hbtown (.fl (σ i j).1 (σ i j).2) o ⟨f, q2, q3⟩ (by simp only [baseOf, q2]; exact hb)
    injection e2 with e3 e4
    exact hσt kt e1 i j s' es' hl (Prod.ext e3 e4)
   ·have := q6 i' j' _ hl2
    simp [immLeaf] at this
  ·obtain ⟨hk, hf'⟩ := hF k f hf e
   refine R.floW W hbt E hf' fun p b o hp hb e' => ?_
   subst e'
   obtain ⟨kt, _, hkt, h'⟩ := hbtown (.fl k p) o ⟨f, hf', hp⟩ (by simp only [baseOf, hf']; exact hb)
   cases h'
   exact hk hkt
 ·intro k b o hl hb
  cases k with
  | nd i p => exact .inl ⟨(fun h => by cases h.1), o, hl, hb⟩
  | fl k p =>
   obtain ⟨f, h1, h3⟩ := hl
   by_cases e : k = κ0
   ·subst e
    rw [hF0] at h1
    cases h1
    simp only [baseOf, hF0] at hb
    cases p with
    | none =>
     rw [hnew] at hb
     cases hb
     rcases htop with ⟨e, h⟩ | ⟨kt, ft, o', e, hk, k1, k2⟩
     ·exact .inr ⟨⟨rfl, e⟩, h⟩
     ·subst e
      refine .inl ⟨(fun h => by cases h.2), o', ?_, ?_⟩
      ·simp only [FrC, FrC0, if_true]; exact ⟨ft, k1, fun _ hq => by cases hq⟩
      ·simp only [FrC, FrC0, if_true, baseOf, k1]; exact k2
    | some q =>
     obtain ⟨i, j⟩ := q
     obtain ⟨s', es', hl⟩ := h3 (i, j) rfl
     obtain ⟨q1, ⟨f, q2, q3, q4, q5⟩, q6⟩ := hsub i j s' es' hl
     refine .inl ⟨(fun h => by cases h.1), o, ?_, ?_⟩
     ·simp only [FrC, FrC0, if_true]; exact ⟨f, q2, q3⟩
     ·simp only [FrC, FrC0, if_true, baseOf, q2]; rw [q4]; exact hb
   ·obtain ⟨hk, hf'⟩ := hF k f h1 e
    refine .inl ⟨(fun h => by cases h.1; exact e rfl), o, ?_, ?_⟩
    ·simp only [FrC, e, if_false]; exact ⟨f, hf', h3⟩
    ·simp only [FrC, e, if_false, baseOf, hf']
     simp only [baseOf, h1] at hb
     exact hb
 ·intro k1 k2 l1 l2 n1 n2 he
  have key : ∀ k p, live st F' (.fl k p) → k ≠ κ0 → ¬ Kc k := fun k p hl e => by
   obtain ⟨f, h1, _⟩ := hl
   exact (hF k f h1 e).1
  -- what the new float's owners come from is consumed
  have con : ∀ p, live st F' (.fl κ0 p) → ¬ (Key.fl κ0 p = .fl κ0 none ∧ σt = none) → ∃ k' p', Kc k' ∧ FrC0 κ0 σt σ p = .fl k' p' := by
   intro p hl hn
   cases p with
   | none =>
    rcases htop with ⟨e, _⟩ | ⟨kt, ft, o', e, hk, _, _⟩
    ·exact (hn ⟨rfl, e⟩).elim
    ·subst e; exact ⟨kt, none, hk, rfl⟩
   | some q =>
    obtain ⟨i, j⟩ := q
    obtain ⟨f, h1, h3⟩ := hl
    rw [hF0] at h1
    cases h1
    obtain ⟨s', es', hl⟩ := h3 (i, j) rfl
    exact ⟨_, _, (hsub i j s' es' hl).1, rfl⟩
  cases k1 with
  | nd i p => cases k2 with
   | nd j q => exact he
   | fl k q =>
    by_cases e : k = κ0
    ·subst e
     obtain ⟨k', p', _, hc⟩ := con q l2 n2
     simp only [FrC, if_true] at he
     rw [hc] at he; cases he
    ·simp only [FrC, e, if_false] at he; cases he
  | fl k p => cases k2 with
   | nd j q =>
    by_cases e : k = κ0
    ·subst e
     obtain ⟨k', p', _, hc⟩ := con p l1 n1
     simp only [FrC, if_true] at he
     rw [hc] at he; cases he
    ·simp only [FrC, e, if_false] at he; cases he
   | fl k' q =>
    by_cases e1 : k = κ0 <;> by_cases e2 : k' = κ0
    ·subst e1
     subst e2
     simp only [FrC, if_true] at he
     cases p with
     | none => cases q with
      | none => rfl
      | some q =>
       obtain ⟨i, j⟩ := q
       obtain ⟨f, h1, h3⟩ := l2
       rw [hF0] at h1; cases h1
       obtain ⟨s', es', hl⟩ := h3 (i, j) rfl
       rcases htop with ⟨e, _⟩ | ⟨kt, ft, o', e, hk, _, _⟩
       ·exact (n1 ⟨rfl, e⟩).elim
       ·subst e
        simp only [FrC0] at he
        injection he with e3 e4
        exact (hσt kt rfl i j s' es' hl (Prod.ext e3.symm e4.symm)).elim
     | some p =>
      obtain ⟨i, j⟩ := p
      obtain ⟨f, h1, h3⟩ := l1
      rw [hF0] at h1; cases h1
      obtain ⟨s', es', hl⟩ := h3 (i, j) rfl
      cases q with
      | none =>
       rcases htop with ⟨e, _⟩ | ⟨kt, ft, o', e, hk, _, _⟩
       ·exact (n2 ⟨rfl, e⟩).elim
       ·subst e
        simp only [FrC0] at he
        injection he with e3 e4
        exact (hσt kt rfl i j s' es' hl (Prod.ext e3 e4)).elim
      | some q =>
       obtain ⟨i', j'⟩ := q
       obtain ⟨f', h1', h3'⟩ := l2
       rw [hF0] at h1'; cases h1'
       obtain ⟨s2, es2, hl2⟩ := h3' (i', j') rfl
       simp only [FrC0] at he
       injection he with e3 e4
       obtain ⟨rfl, rfl⟩ := hσ i j i' j' _ _ _ _ hl hl2 (Prod.ext e3 e4)
       rfl
    ·subst e1
     obtain ⟨k2', p', hk, hc⟩ := con p l1 n1
     simp only [FrC, if_true, e2, if_false] at he
     rw [hc] at he
     cases he
     exact (key _ q l2 e2 hk).elim
    ·subst e2
     obtain ⟨k2', p', hk, hc⟩ := con q l2 n2
     simp only [FrC, if_true, e1, if_false] at he
     rw [hc] at he
     cases he
     exact (key _ p l1 e1 hk).elim
    ·simp only [FrC, e1, e2, if_false] at he
     exact he
end
section
variable {Γ : Env} {w0 : World} {A O0 : Nat → Prop} {ν0 : Nu} {N : Nat} {F : Fl} {D : Nat → Prop} {st : St} {ν : Nu} {tm : Array Value} {w : World}
def FrS (id : Nat) (fr : Nat → Nat → Prop) [∀ i j, Decidable (fr i j)] (σ : Nat → Nat → FK) : Key → Key
 | .nd i p => if i = id then (match p with
   | none => .nd i none
   | some (x, y) => if fr x y then .fl (σ x y) none else .nd i (some (x, y))) else .nd i p
 | .fl k p => .fl k p
open Classical in
theorem Rel.storeTop (R : Rel Γ w0 A O0 ν0 N F D st ν tm w) {w' : World} {bt : Nat} (W : WStep Γ w w' bt) {id g m s : Nat} {es es' : List AV}
  (h : st (.h id) = .obj g m s es) (hm : m ≠ 2) (hb : ∃ o, ν id none = some (bt, o)) (φ : Path → Base) (hφ0 : φ none = ν id none)
  (hRN : RN w' (RS st ν w D) φ (φ none) (m = 3 ∨ m = 4) s es')
  (hnil : ∀ i j, leafAt es' i j = some .nil → leafAt es i j = some .nil)
  (fr : Nat → Nat → Prop) (σ : Nat → Nat → FK) (Kc : FK → Prop)
  (hown : ∀ i j s' es2, leafAt es' i j = some (.own s' es2) →
   (¬ fr i j ∧ leafAt es i j = some (.own s' es2) ∧ φ (some (i, j)) = ν id (some (i, j))) ∨
   (fr i j ∧ leafAt es i j = some .nil ∧ Kc (σ i j) ∧ ∃ f, F (σ i j) = some f ∧ f.φ none = φ (some (i, j)) ∧ f.s = s' ∧ f.es = es2 ∧ Z0 es2))
  (hσ : ∀ i j i' j' s1 e1 s2 e2, leafAt es' i j = some (.own s1 e1) → leafAt es' i' j' = some (.own s2 e2) → fr i j → fr i' j' → σ i j = σ i' j' → i = i' ∧ j = j')
  (hio : m = 1 ∨ m = 4 → φ = ν id) {F' : Fl} (hF1 : ∀ k, Kc k → F' k = none) (hF2 : ∀ k, ¬ Kc k → F' k = F k) :
  Rel Γ w0 A O0 ν0 N F' D (st.upd (.h id) (.obj g m s es')) (ν.set id φ) tm w' ∧ Ext st ν w (st.upd (.h id) (.obj g m s es')) (ν.set id φ) w' := by
 obtain ⟨o0, hb⟩ := hb
 have hlk : live st F (.nd id none) := ⟨g, m, s, es, h, hm, fun _ hq => by cases hq⟩
 have hbt : TB st ν F bt ∨ w.heap.size ≤ bt := .inl ⟨.nd id none, o0, hlk, hb⟩
 have E : Ext st ν w (st.upd (.h id) (.obj g m s es')) (ν.set id φ) w' := by
  refine R.extSame h (fun i hi => Nu.set_ne _ _ hi) W.cs (by rw [Nu.set_eq]; exact hφ0) fun i j => ⟨hnil i j, fun s2 es2 hl => ?_⟩
  rw [Nu.set_eq]
  rcases hown i j s2 es2 hl with ⟨_, h1, h2⟩ | ⟨_, h1, _⟩
  ·exact .inr ⟨es2, h1, h2⟩
  ·exact .inl h1
 have hD := R.keepD W hbt
 have hL : ∀ a v, RS st ν w D a v → RS (st.upd (.h id) (.obj g m s es')) (ν.set id φ) w' D a v := fun a v h => h.mono E hD W.le
 have hob : ∀ i g' m' s' e', i ≠ id → st.upd (.h id) (.obj g m s es') (.h i) = .obj g' m' s' e' → st (.h i) = .obj g' m' s' e' := by
  intro i g' m' s' e' e hi
  rw [J4 _ _ _ e] at hi; exact hi
 have hbtown : ∀ k o, live st F k → baseOf ν F k = some (bt, o) → k = .nd id none := fun k o hl hbo =>
  R.inj k (.nd id none) bt o o0 hl hlk hbo hb
 refine ⟨R.world W hbt (fun i => P8 _ _ _ _) E ?_ ?_ ?_ (FrS id fr σ) (fun _ => False) ?_ ?_ (fun _ _ h => h.elim) ?_, E⟩
 ·intro i g' m' s' e' hi
  by_cases e : i = id
  ·subst e
   rw [St.upd_eq] at hi
   cases hi
   rw [Nu.set_eq]
   refine ⟨hRN.mono rfl (fun _ _ _ => rfl) hL (fun _ _ _ _ _ => ⟨rfl, fun _ _ _ => rfl⟩), fun x y s2 es2 hl => ?_⟩
   rcases hown x y s2 es2 hl with ⟨_, h1, h2⟩ | ⟨_, h1, h2, f, h3, h4, h5, h6, h7⟩
   ·obtain ⟨q1, q2⟩ := (R.objs i g m s es h).sub x y s2 es2 h1
    refine ⟨q1.mono h2 (fun b o hbo => ?_) hL (fun i' j' s3 es3 hl3 => ?_), q2⟩
    ·refine W.keep b (q1.lt hbo) ?_
     rintro rfl
     have := hbtown (.nd i (some (x, y))) o ⟨g, m, s, es, h, hm, fun q hq => by cases hq; exact ⟨s2, es2, h1⟩⟩ hbo
     cases this
    ·have := q2 i' j' _ hl3; simp [immLeaf] at this
   ·have q1 := (R.flos _ f h3).top
    rw [h5, h6] at q1
    refine ⟨(q1.mono (base' := φ (some (x, y))) h4.symm (fun b o hbo => ?_) hL (fun i' j' s3 es3 hl3 => ?_) : RN w' _ φ _ False s2 es2), h7⟩
    ·refine W.keep b (q1.lt hbo) ?_
     rintro rfl
     have := hbtown (.fl (σ x y) none) o ⟨f, h3, fun _ hq => by cases hq⟩ (by simp only [baseOf, h3]; exact hbo)
     cases this
    ·have := h7 i' j' _ hl3; simp [immLeaf] at this
  ·refine R.objW W hbt E (hob _ _ _ _ _ e hi) (Nu.set_ne _ _ e) fun p b o hp hbo e' => ?_
   subst e'
   by_cases hm2 : m' = 2
   ·subst hm2
    have hfz := R.frozen i g' s' e' (hob _ _ _ _ _ e hi)
    cases p with
    | none => exact R.dT b (hfz.1 b o hbo) ⟨.nd id none, o0, hlk, hb⟩
    | some q =>
     obtain ⟨s3, es3, hq⟩ := hp q rfl
     have := I6 hfz.2 hq
     simp [immLeaf] at this
   ·have := hbtown (.nd i p) o ⟨g', m', s', e', hob _ _ _ _ _ e hi, hm2, hp⟩ hbo
    cases this
    exact e rfl
 ·intro i g' s' e' hi
  by_cases e : i = id
  ·subst e; rw [St.upd_eq] at hi; cases hi; exact (hm rfl).elim
  ·rw [Nu.set_ne _ _ e]; exact R.frozen i g' s' e' (hob _ _ _ _ _ e hi)
 ·intro k f hf
  by_cases hk : Kc k
  ·rw [hF1 k hk] at hf; cases hf
  ·rw [hF2 k hk] at hf
   refine R.floW W hbt E hf fun p b o hp hbo e' => ?_
   subst e'
   have := hbtown (.fl k p) o ⟨f, hf, hp⟩ (by simp only [baseOf, hf]; exact hbo)
   cases this
 ·intro k b o hl hbo
  refine .inl ⟨fun h => h, ?_⟩
  cases k with
  | nd i p =>
   obtain ⟨g', m', s', e', h1, h2, h3⟩ := hl
   by_cases e : i = id
   ·subst e
    rw [St.upd_eq] at h1
    cases h1
    simp only [baseOf, Nu.set_eq] at hbo
    cases p with
    | none => simp only [FrS, if_true]; exact ⟨o, hlk, by simp only [baseOf]; rw [← hφ0]; exact hbo⟩
    | some q =>
     obtain ⟨x, y⟩ := q
     obtain ⟨s2, es2, hq⟩ := h3 (x, y) rfl
     rcases hown x y s2 es2 hq with ⟨q0, q1, q2⟩ | ⟨q0, q1, q2, f, q3, q4, q5, q6, q7⟩
     ·simp only [FrS, if_true, q0, if_false]
      exact ⟨o, ⟨g, m, s, es, h, hm, fun z hz => by cases hz; exact ⟨s2, es2, q1⟩⟩, by simp only [baseOf]; rw [← q2]; exact hbo⟩
     ·simp only [FrS, if_true, q0]
      exact ⟨o, ⟨f, q3, fun _ hz => by cases hz⟩, by simp only [baseOf, q3]; rw [q4]; exact hbo⟩
   ·simp only [baseOf, Nu.set_ne _ _ e] at hbo
    simp only [FrS, e, if_false]
    exact ⟨o, ⟨g', m', s', e', hob _ _ _ _ _ e h1, h2, h3⟩, hbo⟩
  | fl k p =>
   obtain ⟨f, h1, h3⟩ := hl
   by_cases hk : Kc k
   ·rw [hF1 k hk] at h1; cases h1
   ·rw [hF2 k hk] at h1
    simp only [baseOf, hF2 k hk] at hbo
    exact ⟨o, ⟨f, h1, h3⟩, hbo⟩
 ·intro k1 k2 l1 l2 _ _ he
  -- what is new in the object comes from what is consumed
  have hnew : ∀ x y, live (st.upd (.h id) (.obj g m s es')) F' (.nd id (some (x, y))) → fr x y → Kc (σ x y) := by
   rintro x y ⟨g', m', s', e', h1, h2, h3⟩ hfr
   rw [St.upd_eq] at h1
   cases h1
   obtain ⟨s2, es2, hq⟩ := h3 (x, y) rfl
   rcases hown x y s2 es2 hq with ⟨q0, _⟩ | ⟨_, _, q2, _⟩
   ·exact (q0 hfr).elim
   ·exact q2
  have hkf : ∀ k p, live (st.upd (.h id) (.obj g m s es')) F' (.fl k p) → ¬ Kc k := by
   rintro k p ⟨f, h1, _⟩ hk
   rw [hF1 k hk] at h1; cases h1
  have hleaf : ∀ x y, live (st.upd (.h id) (.obj g m s es')) F' (.nd id (some (x, y))) → ∃ s2 es2, leafAt es' x y = some (.own s2 es2) := by
   rintro x y ⟨g', m', s', e', h1, h2, h3⟩
   rw [St.upd_eq] at h1
   cases h1
   exact h3 (x, y) rfl
  cases k1 with
  | nd i p => cases k2 with
   | nd j q =>
    by_cases e1 : i = id <;> by_cases e2 : j = id
    ·subst e1
     subst e2
     cases p with
     | none => cases q with
      | none => rfl
      | some q =>
       obtain ⟨x, y⟩ := q
       simp only [FrS, if_true] at he
       split at he <;> cases he
     | some p =>
      obtain ⟨x, y⟩ := p
      cases q with
      | none =>
       simp only [FrS, if_true] at he
       split at he <;> cases he
      | some q =>
       obtain ⟨x', y'⟩ := q
       simp only [FrS, if_true] at he
       by_cases f1 : fr x y <;> by_cases f2 : fr x' y' <;> simp only [f1, f2, if_true, if_false] at he
       ·injection he with he _
        obtain ⟨s1, e1, h1⟩ := hleaf x y l1
        obtain ⟨s2, e2, h2⟩ := hleaf x' y' l2
        obtain ⟨rfl, rfl⟩ := hσ x y x' y' _ _ _ _ h1 h2 f1 f2 he
        rfl
       ·cases he
       ·cases he
       ·exact he
    ·subst e1
     simp only [FrS, if_true, e2, if_false] at he
     cases p with
     | none => cases he; exact (e2 rfl).elim
     | some p =>
      simp only at he
      split at he
      ·cases he
      ·cases he; exact (e2 rfl).elim
    ·subst e2
     simp only [FrS, if_true, e1, if_false] at he
     cases q with
     | none => cases he; exact (e1 rfl).elim
     | some q =>
      simp only at he
      split at he
      ·cases he
      ·cases he; exact (e1 rfl).elim
    ·simpa only [FrS, e1, e2, if_false] using he
   | fl k q =>
    by_cases e1 : i = id
    ·subst e1
     simp only [FrS, if_true] at he
     cases p with
     | none => cases he
     | some p =>
      obtain ⟨x, y⟩ := p
      simp only at he
      by_cases f1 : fr x y
      ·simp only [f1, if_true] at he
       cases he
       exact (hkf _ _ l2 (hnew x y l1 f1)).elim
      ·simp only [f1, if_false] at he; cases he
    ·simp only [FrS, e1, if_false] at he; cases he
  | fl k p => cases k2 with
   | nd j q =>
    by_cases e1 : j = id
    ·subst e1
     simp only [FrS, if_true] at he
     cases q with
     | none => cases he
     | some q =>
      obtain ⟨x, y⟩ := q
      simp only at he
      by_cases f1 : fr x y
      ·simp only [f1, if_true] at he
       cases he
       exact (hkf _ _ l1 (hnew x y l2 f1)).elim
      ·simp only [f1, if_false] at he; cases he
    ·simp only [FrS, e1, if_false] at he; cases he
   | fl k' q => exact he
 ·intro i g' m' s' e' hi hmm
  by_cases e : i = id
  ·subst e; rw [St.upd_eq] at hi; cases hi; rw [Nu.set_eq, hio hmm]; exact R.io i g m s es h hmm
  ·rw [Nu.set_ne _ _ e]; exact R.io i g' m' s' e' (hob _ _ _ _ _ e hi) hmm
end
section
variable {Γ : Env} {w0 : World} {A O0 : Nat → Prop} {ν0 : Nu} {N : Nat} {F : Fl} {D : Nat → Prop} {st : St} {ν : Nu} {tm : Array Value} {w : World}
structure LeafSet (bx : Prop) (s : Nat) (es es' : List AV) (x y : Nat) (l : AV) : Prop where
 other : ∀ i j, (i, j) ≠ (x, y) → leafAt es' i j = leafAt es i j
 at_ : leafAt es' x y = some l
 len : es'.length = es.length
 sz : ¬ bx → (∀ e ∈ es, (leaves e).length = s) → ∀ e ∈ es', (leaves e).length = s
theorem U6 {e l : AV} {y : Nat} (hy : y < (leaves e).length) (hl : ∀ gs, l ≠ .agg gs) : leaves (putAt e y l) = (leaves e).set y l := by
 cases e with
 | agg fs => cases l <;> first | rfl | (exact (hl _ rfl).elim)
 | _ =>
  simp only [leaves, List.length_cons, List.length_nil] at hy
  obtain rfl : y = 0 := by omega
  cases l <;> first | rfl | (exact (hl _ rfl).elim)
theorem S5 {bx : Prop} {s : Nat} {es : List AV} {x y : Nat} {e l0 l : AV} (he : es[x]? = some e) (h0 : leafAt es x y = some l0) (hl : ∀ gs, l ≠ .agg gs) :
  LeafSet bx s es (es.set x (putAt e y l)) x y l := by
 have hx : x < es.length := (List.getElem?_eq_some_iff.1 he).1
 have hy : y < (leaves e).length := by
  simp only [leafAt, he, Option.bind_some] at h0
  exact (List.getElem?_eq_some_iff.1 h0).1
 refine ⟨fun i j hne => ?_, ?_, by simp, fun hb hs e' he' => ?_⟩
 ·unfold leafAt
  by_cases hi : i = x
  ·subst hi
   have hj : j ≠ y := fun e => hne (by rw [e])
   rw [List.getElem?_set_self hx, he]
   simp only [Option.bind_some]
   rw [U6 hy hl, List.getElem?_set_ne (Ne.symm hj)]
  ·rw [List.getElem?_set_ne (Ne.symm hi)]
 ·unfold leafAt
  rw [List.getElem?_set_self hx]
  simp only [Option.bind_some]
  rw [U6 hy hl, List.getElem?_set_self hy]
 ·rcases List.mem_or_eq_of_mem_set he' with h | h
  ·exact hs e' h
  ·subst h
   rw [U6 hy hl, List.length_set]
   exact hs e (List.mem_of_getElem? he)
theorem Rel.storeSub (R : Rel Γ w0 A O0 ν0 N F D st ν tm w) {w' : World} {bt : Nat} (W : WStep Γ w w' bt) {id g m s x y s2 : Nat} {es es' es2 es2' : List AV}
  (h : st (.h id) = .obj g m s es) (hm : m ≠ 2) (hl : leafAt es x y = some (.own s2 es2)) (hb : ∃ o, ν id (some (x, y)) = some (bt, o))
  (hs : LeafSet (m = 3 ∨ m = 4) s es es' x y (.own s2 es2')) (hlen : es2'.length = es2.length)
  (hRN : RN w' (RS st ν w D) (ν id) (ν id (some (x, y))) False s2 es2') (hno : Z0 es2') :
  Rel Γ w0 A O0 ν0 N F D (st.upd (.h id) (.obj g m s es')) ν tm w' ∧ Ext st ν w (st.upd (.h id) (.obj g m s es')) ν w' := by
 obtain ⟨o0, hb⟩ := hb
 have hlk : live st F (.nd id (some (x, y))) := ⟨g, m, s, es, h, hm, fun q hq => by cases hq; exact ⟨s2, es2, hl⟩⟩
 have hbt : TB st ν F bt ∨ w.heap.size ≤ bt := .inl ⟨.nd id (some (x, y)), o0, hlk, hb⟩
 have hown : ∀ i j s3 es3, leafAt es' i j = some (.own s3 es3) → ∃ es4, leafAt es i j = some (.own s3 es4) ∧ es4.length = es3.length ∧ ((i, j) ≠ (x, y) → es4 = es3) := by
  intro i j s3 es3 h3
  by_cases e : (i, j) = (x, y)
  ·cases e
   rw [hs.at_] at h3
   cases h3
   exact ⟨es2, hl, hlen.symm, fun hne => (hne rfl).elim⟩
  ·rw [hs.other i j e] at h3
   exact ⟨es3, h3, rfl, fun _ => rfl⟩
 have E : Ext st ν w (st.upd (.h id) (.obj g m s es')) ν w' := by
  refine R.extSame h (fun i hi => rfl) W.cs rfl fun i j => ⟨fun hn => ?_, fun s3 es3 h3 => ?_⟩
  ·by_cases e : (i, j) = (x, y)
   ·cases e; rw [hs.at_] at hn; cases hn
   ·rw [hs.other i j e] at hn; exact hn
  ·obtain ⟨es4, h4, _⟩ := hown i j s3 es3 h3
   exact .inr ⟨es4, h4, rfl⟩
 have hD := R.keepD W hbt
 have hL : ∀ a v, RS st ν w D a v → RS (st.upd (.h id) (.obj g m s es')) ν w' D a v := fun a v h => h.mono E hD W.le
 have hob : ∀ i g' m' s' e', i ≠ id → st.upd (.h id) (.obj g m s es') (.h i) = .obj g' m' s' e' → st (.h i) = .obj g' m' s' e' := by
  intro i g' m' s' e' e hi
  rw [J4 _ _ _ e] at hi; exact hi
 have hbtown : ∀ k o, live st F k → baseOf ν F k = some (bt, o) → k = .nd id (some (x, y)) := fun k o hl hbo =>
  R.inj k (.nd id (some (x, y))) bt o o0 hl hlk hbo hb
 have hlive : ∀ k, live (st.upd (.h id) (.obj g m s es')) F k → live st F k := by
  intro k hk
  cases k with
  | nd i p =>
   obtain ⟨g', m', s', e', h1, h2, h3⟩ := hk
   by_cases e : i = id
   ·subst e
    rw [St.upd_eq] at h1
    cases h1
    refine ⟨g, m, s, es, h, hm, fun q hq => ?_⟩
    obtain ⟨s3, es3, h4⟩ := h3 q hq
    obtain ⟨es4, h5, _⟩ := hown _ _ _ _ h4
    exact ⟨s3, es4, h5⟩
   ·exact ⟨g', m', s', e', hob _ _ _ _ _ e h1, h2, h3⟩
  | fl k p => exact hk
 refine ⟨R.world W hbt (fun i => P8 _ _ _ _) E ?_ ?_ ?_ (fun k => k) (fun _ => False) (fun k b o hk hbo => .inl ⟨fun h => h, o, hlive k hk, hbo⟩)
  (fun _ _ _ _ _ _ h => h) (fun _ _ h => h.elim) ?_, E⟩
 ·intro i g' m' s' e' hi
  by_cases e : i = id
  ·subst e
   rw [St.upd_eq] at hi
   cases hi
   have hRO := R.objs i g m s es h
   refine ⟨?_, fun a b s3 es3 h3 => ?_⟩
   ·have ht := hRO.top
    cases hν : ν i none with
    | none =>
     rw [hν] at ht
     have : es = [] := ht
     subst this
     simp [leafAt] at hl
    | some q =>
     obtain ⟨b, o⟩ := q
     rw [hν] at ht
     obtain ⟨c, ety, k1, k2, k3, k5, k4⟩ := ht
     have hne : b ≠ bt := by
      rintro rfl
      have := hbtown (.nd i none) o ⟨g, m, s, es, h, hm, fun _ hq => by cases hq⟩ hν
      cases this
     have hblt : b < w.heap.size := by
      rcases Nat.lt_or_ge b w.heap.size with h' | h'
      ·exact h'
      ·rw [Array.getElem?_eq_none h'] at k1; cases k1
     refine ⟨c, ety, by rw [W.keep b hblt hne]; exact k1, by rw [hs.len]; exact k2, fun hb => hs.sz hb (k3 hb), fun hb => by rw [hs.len]; exact k5 hb, fun a b' l hl' => ?_⟩
     by_cases e : (a, b') = (x, y)
     ·cases e
      rw [hs.at_] at hl'
      cases hl'
      obtain ⟨v, hv, hr⟩ := k4 _ _ _ hl
      refine ⟨v, hv, ?_⟩
      have hr' : SlV w (ν i (some (x, y))) s2 0 es2.length v := hr
      show SlV w' (ν i (some (x, y))) s2 0 es2'.length v
      rw [hlen]
      exact hr'.mono rfl fun b1 o1 hb1 => W.cs b1 (R.live_lt (k := .nd i (some (x, y))) hlk hb1)
     ·rw [hs.other _ _ e] at hl'
      obtain ⟨v, hv, hr⟩ := k4 _ _ _ hl'
      exact ⟨v, hv, hr.mono hL (fun _ _ _ => rfl) fun s3 es3 b1 o1 he hb1 => W.cs b1 (R.hlt h (fun q hq => by cases hq; exact ⟨s3, es3, he ▸ hl'⟩) hb1)⟩
   ·by_cases e : (a, b) = (x, y)
    ·cases e
     rw [hs.at_] at h3
     cases h3
     refine ⟨hRN.mono rfl (fun _ _ _ => rfl) hL (fun i' j' s4 es4 h4 => ?_), hno⟩
     have := hno i' j' _ h4; simp [immLeaf] at this
    ·rw [hs.other _ _ e] at h3
     obtain ⟨q1, q2⟩ := hRO.sub a b s3 es3 h3
     refine ⟨q1.mono rfl (fun b1 o1 hb1 => ?_) hL (fun i' j' s4 es4 h4 => ?_), q2⟩
     ·refine W.keep b1 (q1.lt hb1) ?_
      rintro rfl
      have := hbtown (.nd i (some (a, b))) o1 ⟨g, m, s, es, h, hm, fun q hq => by cases hq; exact ⟨s3, es3, h3⟩⟩ hb1
      injection this with _ this
      injection this with this
      exact e this
     ·have := q2 i' j' _ h4; simp [immLeaf] at this
  ·refine R.objW W hbt E (hob _ _ _ _ _ e hi) rfl fun p b o hp hbo e' => ?_
   subst e'
   by_cases hm2 : m' = 2
   ·subst hm2
    have hfz := R.frozen i g' s' e' (hob _ _ _ _ _ e hi)
    cases p with
    | none => exact R.dT b (hfz.1 b o hbo) ⟨.nd id (some (x, y)), o0, hlk, hb⟩
    | some q =>
     obtain ⟨s3, es3, hq⟩ := hp q rfl
     have := I6 hfz.2 hq
     simp [immLeaf] at this
   ·have := hbtown (.nd i p) o ⟨g', m', s', e', hob _ _ _ _ _ e hi, hm2, hp⟩ hbo
    cases this
    exact e rfl
 ·intro i g' s' e' hi
  by_cases e : i = id
  ·subst e; rw [St.upd_eq] at hi; cases hi; exact (hm rfl).elim
  ·exact R.frozen i g' s' e' (hob _ _ _ _ _ e hi)
 ·intro k f hf
  refine R.floW W hbt E hf fun p b o hp hbo e' => ?_
  subst e'
  have := hbtown (.fl k p) o ⟨f, hf, hp⟩ (by simp only [baseOf, hf]; exact hbo)
  cases this
 ·intro i g' m' s' e' hi hmm
  by_cases e : i = id
  ·subst e; rw [St.upd_eq] at hi; cases hi; exact R.io i g m s es h hmm
  ·exact R.io i g' m' s' e' (hob _ _ _ _ _ e hi) hmm
theorem Rel.outSub (R : Rel Γ w0 A O0 ν0 N F D st ν tm w) {id g m s x y s2 : Nat} {es es' es2 : List AV} {l' : AV}
  (h : st (.h id) = .obj g m s es) (hm : m ≠ 2) (hl : leafAt es x y = some (.own s2 es2))
  (hs : LeafSet (m = 3 ∨ m = 4) s es es' x y l') {D' : Nat → Prop} {F' : Fl} (κ : FK) (hκ : F κ = none)
  (hc : (l' = .undef ∧ D' = D ∧ F' = F.set κ (some ⟨fun _ => ν id (some (x, y)), s2, es2⟩)) ∨
   (l' = .list es2 ∧ D' = (fun b => D b ∨ ∃ o, ν id (some (x, y)) = some (b, o)) ∧ F' = F)) (hOA : ∀ b, O0 b → A b) :
  Rel Γ w0 A O0 ν0 N F' D' (st.upd (.h id) (.obj g m s es')) ν tm w ∧ Ext st ν w (st.upd (.h id) (.obj g m s es')) ν w := by
 have hlk : live st F (.nd id (some (x, y))) := ⟨g, m, s, es, h, hm, fun q hq => by cases hq; exact ⟨s2, es2, hl⟩⟩
 have hno' : ∀ s3 es3, l' ≠ .own s3 es3 := by
  rintro s3 es3 rfl
  rcases hc with ⟨h, _⟩ | ⟨h, _⟩ <;> cases h
 have hnn : l' ≠ .nil := by
  rintro rfl
  rcases hc with ⟨h, _⟩ | ⟨h, _⟩ <;> cases h
 have hown : ∀ i j s3 es3, leafAt es' i j = some (.own s3 es3) → (i, j) ≠ (x, y) ∧ leafAt es i j = some (.own s3 es3) := by
  intro i j s3 es3 h3
  by_cases e : (i, j) = (x, y)
  ·cases e; rw [hs.at_] at h3; cases h3; exact (hno' _ _ rfl).elim
  ·rw [hs.other i j e] at h3; exact ⟨e, h3⟩
 have E : Ext st ν w (st.upd (.h id) (.obj g m s es')) ν w := by
  refine R.extSame h (fun i hi => rfl) (fun _ _ => rfl) rfl fun i j => ⟨fun hn => ?_, fun s3 es3 h3 => .inr ⟨es3, (hown i j s3 es3 h3).2, rfl⟩⟩
  by_cases e : (i, j) = (x, y)
  ·cases e; rw [hs.at_] at hn; cases hn; exact (hnn rfl).elim
  ·rw [hs.other i j e] at hn; exact hn
 have hD : ∀ b, D b → D' b := by
  rcases hc with ⟨_, rfl, _⟩ | ⟨_, rfl, _⟩
  ·exact fun b hb => hb
  ·exact fun b hb => .inl hb
 have hL : ∀ a v, RS st ν w D a v → RS (st.upd (.h id) (.obj g m s es')) ν w D' a v := fun a v h => h.same E hD
 have hob : ∀ i g' m' s' e', i ≠ id → st.upd (.h id) (.obj g m s es') (.h i) = .obj g' m' s' e' → st (.h i) = .obj g' m' s' e' := by
  intro i g' m' s' e' e hi
  rw [J4 _ _ _ e] at hi; exact hi
 have hlive : ∀ i p, live (st.upd (.h id) (.obj g m s es')) F (.nd i p) → live st F (.nd i p) ∧ Key.nd i p ≠ .nd id (some (x, y)) := by
  rintro i p ⟨g', m', s', e', h1, h2, h3⟩
  by_cases e : i = id
  ·subst e
   rw [St.upd_eq] at h1
   cases h1
   refine ⟨⟨g, m, s, es, h, hm, fun q hq => ?_⟩, fun he => ?_⟩
   ·obtain ⟨s3, es3, h4⟩ := h3 q hq
    exact ⟨s3, es3, (hown _ _ _ _ h4).2⟩
   ·injection he with _ he
    obtain ⟨s3, es3, h4⟩ := h3 (x, y) he
    exact (hown _ _ _ _ h4).1 rfl
  ·exact ⟨⟨g', m', s', e', hob _ _ _ _ _ e h1, h2, h3⟩, fun he => by injection he with he _; exact e he⟩
 have hRO := R.objs id g m s es h
 obtain ⟨q1, q2⟩ := hRO.sub x y s2 es2 hl
 refine ⟨R.ghost (fun i => P8 _ _ _ _) E hD ?_ ?_ ?_ (fun k => match k with
   | .nd i p => .nd i p
   | .fl k p => if k = κ then .nd id (some (x, y)) else .fl k p) ?_ ?_ ?_ ?_, E⟩
 ·intro i g' m' s' e' hi
  by_cases e : i = id
  ·subst e
   rw [St.upd_eq] at hi
   cases hi
   refine ⟨?_, fun a b s3 es3 h3 => ?_⟩
   ·have ht := hRO.top
    cases hν : ν i none with
    | none =>
     rw [hν] at ht
     have : es = [] := ht
     subst this
     simp [leafAt] at hl
    | some q =>
     obtain ⟨b, o⟩ := q
     rw [hν] at ht
     obtain ⟨c, ety, k1, k2, k3, k5, k4⟩ := ht
     refine ⟨c, ety, k1, by rw [hs.len]; exact k2, fun hb => hs.sz hb (k3 hb), fun hb => by rw [hs.len]; exact k5 hb, fun a b' l hl' => ?_⟩
     by_cases e : (a, b') = (x, y)
     ·cases e
      rw [hs.at_] at hl'
      cases hl'
      obtain ⟨v, hv, hr⟩ := k4 _ _ _ hl
      refine ⟨v, hv, ?_⟩
      rcases hc with ⟨rfl, rfl, _⟩ | ⟨rfl, rfl, _⟩
      ·exact .undef v
      ·have hr' : SlV w (ν i (some (x, y))) s2 0 es2.length v := hr
       have := Q4 (D := fun b => D b ∨ ∃ o, ν i (some (x, y)) = some (b, o)) (st := st) (ν := ν) (φ := ν i) (q1.mono rfl (fun _ _ _ => rfl) (fun a v h => h.same (Ext.refl _ _ _) hD) (fun i j s' es' hx => by
         have := q2 i j _ hx; simp [immLeaf] at this)) q2 (fun b o hb => .inr ⟨o, hb⟩) hr' (by omega)
       simp only [List.drop_zero, List.take_length] at this
       exact .data _ _ this
     ·rw [hs.other _ _ e] at hl'
      obtain ⟨v, hv, hr⟩ := k4 _ _ _ hl'
      exact ⟨v, hv, hr.mono hL (fun _ _ _ => rfl) fun _ _ _ _ _ _ => rfl⟩
   ·obtain ⟨_, h4⟩ := hown _ _ _ _ h3
    obtain ⟨q1, q2⟩ := hRO.sub a b s3 es3 h4
    refine ⟨q1.mono rfl (fun _ _ _ => rfl) hL (fun i' j' s4 es4 h4 => ?_), q2⟩
    have := q2 i' j' _ h4; simp [immLeaf] at this
  ·exact (R.objs i g' m' s' e' (hob _ _ _ _ _ e hi)).mono rfl (fun _ _ _ _ _ => rfl) (fun _ _ _ => rfl) (fun _ _ _ _ _ _ _ _ => rfl) hL
 ·intro i g' s' e' hi
  by_cases e : i = id
  ·subst e; rw [St.upd_eq] at hi; cases hi; exact (hm rfl).elim
  ·obtain ⟨h1, h2⟩ := R.frozen i g' s' e' (hob _ _ _ _ _ e hi)
   exact ⟨fun b o hb => hD b (h1 b o hb), h2⟩
 ·intro k f hf
  have old : ∀ f, F k = some f → RO w (RS (st.upd (.h id) (.obj g m s es')) ν w D') f.φ False f.s f.es := fun f hf =>
   (R.flos k f hf).mono rfl (fun _ _ _ _ _ => rfl) (fun _ _ _ => rfl) (fun _ _ _ _ _ _ _ _ => rfl) hL
  rcases hc with ⟨_, _, rfl⟩ | ⟨_, _, rfl⟩
  ·by_cases e : k = κ
   ·subst e
    rw [Fl.set_eq] at hf
    cases hf
    refine ⟨q1.mono rfl (fun _ _ _ => rfl) hL (fun i' j' s4 es4 h4 => ?_), fun i' j' s4 es4 h4 => ?_⟩ <;>
     (have := q2 i' j' _ h4; simp [immLeaf] at this)
   ·rw [Fl.set_ne _ _ e] at hf
    exact old f hf
  ·exact old f hf
 ·intro k b o hk hbo
  cases k with
  | nd i p => exact ⟨o, (hlive i p (by cases hk with | intro g' hk => exact ⟨g', hk⟩)).1, hbo⟩
  | fl k p =>
   obtain ⟨f, h1, h3⟩ := hk
   rcases hc with ⟨_, _, rfl⟩ | ⟨_, _, rfl⟩
   ·by_cases e : k = κ
    ·subst e
     rw [Fl.set_eq] at h1
     cases h1
     simp only [baseOf, Fl.set_eq] at hbo
     simp only [if_true]
     exact ⟨o, hlk, hbo⟩
    ·rw [Fl.set_ne _ _ e] at h1
     simp only [baseOf, Fl.set_ne _ _ e] at hbo
     simp only [e, if_false]
     exact ⟨o, ⟨f, h1, h3⟩, hbo⟩
   ·have e : k ≠ κ := by rintro rfl; rw [hκ] at h1; cases h1
    simp only [e, if_false]
    exact ⟨o, ⟨f, h1, h3⟩, hbo⟩
 ·intro k1 k2 l1 l2 he
  have nl : ∀ i p, live (st.upd (.h id) (.obj g m s es')) F' (.nd i p) → Key.nd i p ≠ .nd id (some (x, y)) := fun i p hk =>
   (hlive i p (by cases hk with | intro g' hk => exact ⟨g', hk⟩)).2
  cases k1 with
  | nd i p => cases k2 with
   | nd j q => exact he
   | fl k q =>
    simp only at he
    by_cases e : k = κ
    ·simp only [e, if_true] at he; exact (nl i p l1 he).elim
    ·simp only [e, if_false] at he; cases he
  | fl k p => cases k2 with
   | nd j q =>
    simp only at he
    by_cases e : k = κ
    ·simp only [e, if_true] at he; exact (nl j q l2 he.symm).elim
    ·simp only [e, if_false] at he; cases he
   | fl k' q =>
    simp only at he
    by_cases e1 : k = κ <;> by_cases e2 : k' = κ
    ·subst e1; subst e2
     obtain ⟨f1, a1, b1⟩ := l1
     obtain ⟨f2, a2, b2⟩ := l2
     rcases hc with ⟨_, _, rfl⟩ | ⟨_, _, rfl⟩
     ·rw [Fl.set_eq] at a1 a2
      cases a1; cases a2
      have hp : ∀ p, livePath es2 p → p = none := by
       intro p hp
       cases p with
       | none => rfl
       | some q =>
        obtain ⟨s3, es3, h4⟩ := hp q rfl
        have := q2 _ _ _ h4; simp [immLeaf] at this
      rw [hp p b1, hp q b2]
     ·rw [hκ] at a1; cases a1
    ·simp only [e1, e2, if_true, if_false] at he; cases he
    ·simp only [e1, e2, if_true, if_false] at he; cases he
    ·simpa only [e1, e2, if_false] using he
 ·rcases hc with ⟨_, rfl, _⟩ | ⟨_, rfl, rfl⟩
  ·exact fun b hb hd => (hd hb).elim
  ·rintro b (hb | ⟨o, hb⟩) hd
   ·exact (hd hb).elim
   ·have htb : TB st ν F' b := ⟨_, o, hlk, hb⟩
    refine ⟨?_, ?_, R.TB_lt htb, fun _ => R.TB_cells htb⟩
    ·rintro ⟨k, o', hk, hb'⟩
     cases k with
     | nd i p =>
      obtain ⟨l1, l2⟩ := hlive i p hk
      exact l2 (R.inj _ _ b o' o l1 hlk hb' hb)
     | fl k p =>
      have := R.inj (.fl k p) _ b o' o hk hlk hb' hb
      cases this
    ·rcases R.tO b htb with h | h
     ·exact .inl (hOA b h)
     ·exact .inr h
 ·intro i g' m' s' e' hi hmm
  by_cases e : i = id
  ·subst e; rw [St.upd_eq] at hi; cases hi; exact R.io i g m s es h hmm
  ·exact R.io i g' m' s' e' (hob _ _ _ _ _ e hi) hmm
end
theorem L7 {P : Program} {T : Nat} (h : O3 (tyS P T).k = false) :
  ∃ i d, P.info? T = some i ∧ P.underlying T = some d ∧ (tyS P T).size = i.size ∧ (tyS P T).bytes = i.bytes ∧
   (∀ v, i.zero = some v → (tyS P T).zero = ofConst v) ∧ (i.zero = none → (tyS P T).zero = .undef) := by
 unfold tyS at h ⊢
 cases hi : P.info? T with
 | none => simp [hi, O3] at h
 | some i =>
  simp only [hi] at h ⊢
  cases hu : P.underlying T with
  | none => simp [hu, O3] at h
  | some d => exact ⟨i, d, rfl, rfl, rfl, rfl, fun v hv => by simp [hv], fun hv => by simp [hv]⟩
theorem a3x {P : Program} {T : Nat} (h : (tyS P T).size ≠ 0) : ∃ i, P.info? T = some i ∧ (tyS P T).size = i.size := by
 unfold tyS at h ⊢
 cases hi : P.info? T with
 | none => simp [hi] at h
 | some i => exact ⟨i, rfl, rfl⟩
theorem K3 {P : Program} {T E : Nat} (h : (tyS P T).k = .slice E) : P.underlying T = some (.slice E) := by
 unfold tyS at h
 cases hi : P.info? T with
 | none => simp [hi] at h
 | some i =>
  simp only [hi] at h
  split at h <;> first | (cases h; assumption) | cases h
theorem a4y {P : Program} {T n E : Nat} (h : (tyS P T).k = .array n E) : P.underlying T = some (.array n E) := by
 unfold tyS at h
 cases hi : P.info? T with
 | none => simp [hi] at h
 | some i =>
  simp only [hi] at h
  split at h <;> first | (cases h; assumption) | cases h
theorem Q8 {P : Program} {T : Nat} (h : (tyS P T).k = .string) : P.underlying T = some .string := by
 unfold tyS at h
 cases hi : P.info? T with
 | none => simp [hi] at h
 | some i =>
  simp only [hi] at h
  split at h <;> first | assumption | cases h
theorem b9e {P : Program} {T : Nat} (h : (tyS P T).k = .bool) : P.underlying T = some .bool := by
 unfold tyS at h
 cases hi : P.info? T with
 | none => simp [hi] at h
 | some i =>
  simp only [hi] at h
  split at h <;> first | assumption | cases h
theorem b1b {P : Program} {T : Nat} {k : IntKind} (h : (tyS P T).k = .int k) : P.underlying T = some (.int k) := by
 unfold tyS at h
 cases hi : P.info? T with
 | none => simp [hi] at h
 | some i =>
  simp only [hi] at h
  split at h <;> first | (cases h; assumption) | cases h
theorem a2j {P : Program} {T : Nat} {fs : List (Nat × Nat)} (h : (tyS P T).k = .struct fs) :
  ∃ fl : Array Field, P.underlying T = some (.struct fl) ∧ fs = fl.toList.map fun f => (f.offset, f.type) := by
 unfold tyS at h
 cases hi : P.info? T with
 | none => simp [hi] at h
 | some i =>
  simp only [hi] at h
  split at h <;> first | (cases h; exact ⟨_, by assumption, rfl⟩) | cases h
theorem b4e {P : Program} {T : Nat} {fl : Array Field} (h : P.underlying T = some (.struct fl)) (hb : O3 (tyS P T).k = false) :
  (tyS P T).k = .struct (fl.toList.map fun f => (f.offset, f.type)) := by
 obtain ⟨i, d, hi, _⟩ := L7 hb
 unfold tyS
 simp only [hi, h]
theorem d0z {P : Program} {T : Nat} {d : TypeDesc} (h : P.underlying T = some d) (hi : (tyS P T).size ≠ 0 ∨ O3 (tyS P T).k = false) :
  a1g (tyS P T).k = (match d with | .struct _ | .array _ _ => true | _ => false) := by
 have : ∃ i, P.info? T = some i := by
  rcases hi with hi | hi
  ·obtain ⟨i, hi, _⟩ := a3x hi; exact ⟨i, hi⟩
  ·obtain ⟨i, _, hi, _⟩ := L7 hi; exact ⟨i, hi⟩
 obtain ⟨i, hi⟩ := this
 unfold tyS
 simp only [hi, h]
 cases d <;> rfl
theorem F8 {P : Program} {T : Nat} {d : TypeDesc} (h : P.underlying T = some d) (w : World) : (underlying T).run P w = .ok d w := by
 simp [underlying, h]
theorem b1i {P : Program} {T : Nat} {i : TypeInfo} (h : P.info? T = some i) (w : World) : (typeInfo T).run P w = .ok i w := by
 simp [typeInfo, h]
theorem I3 {P : Program} {T : Nat} {i : TypeInfo} (h : P.info? T = some i) (w : World) : (sizeOf T).run P w = .ok i.size w := by
 simp [Go.sizeOf, b1i h]
theorem a1u {P : Program} {T : Nat} {i : TypeInfo} {v : Value} (h : P.info? T = some i) (hz : i.zero = some v) (w : World) : (zeroValue T).run P w = .ok v w := by
 simp [zeroValue, b1i h, hz]
theorem a1l {P : Program} {T : Nat} (h : O3 (tyS P T).k = false) (w : World) : (isAgg T).run P w = .ok (a1g (tyS P T).k) w := by
 obtain ⟨i, d, hi, hd, _⟩ := L7 h
 rw [d0z hd (.inr h)]
 simp only [isAgg, Sem.run_bind, F8 hd, Result.andThen_ok]
 cases d <;> rfl
theorem a0n (b o k : Nat) : (⟨b, o, none⟩ : Addr).add k = ⟨b, o + k, none⟩ := by
 unfold Addr.add; split
 ·rename_i h; subst h; rfl
 ·rfl
def Y8 (w : World) (b : Nat) (c : Array Value) (ety : TypeId) : World := { w with heap := w.heap.setIfInBounds b (.cells c ety (0, 0)) }
theorem a0q {w : World} {b : Nat} {c : Array Value} {ety : TypeId} (h : b < w.heap.size) : (Y8 w b c ety).heap[b]? = some (.cells c ety (0, 0)) := by
 simp [Y8, h]
theorem b1c {w : World} {b k : Nat} {c : Array Value} {ety : TypeId} (h : k ≠ b) : (Y8 w b c ety).heap[k]? = w.heap[k]? := by
 simp [Y8, Array.getElem?_setIfInBounds_ne (Ne.symm h)]
theorem c7g (w : World) (b : Nat) (c : Array Value) (ety : TypeId) : (Y8 w b c ety).heap.size = w.heap.size := by simp [Y8]
theorem a2u {Γ : Env} {w : World} {b : Nat} {c c' : Array Value} {ety ety' : TypeId} (h : w.heap[b]? = some (.cells c ety (0, 0))) (hs : c'.size = c.size) : WStep Γ w (Y8 w b c' ety') b := by
 have hlt : b < w.heap.size := (Array.getElem?_eq_some_iff.1 h).1
 refine ⟨by rw [c7g]; exact Nat.le_refl _, rfl, rfl, rfl, fun _ => Nat.le_refl _, fun k _ hk => b1c hk, fun k hk => ?_⟩
 by_cases e : k = b
 ·subst e; simp [csize, a0q hlt, h, hs]
 ·exact L3 (b1c e)
theorem c2b {Γ : Env} (w : World) (o : Obj) : WStep Γ w (w.alloc o) w.heap.size :=
 ⟨by simp, rfl, rfl, rfl, fun _ => Nat.le_refl _, fun b hb _ => heap_alloc_old w o hb, fun b hb => L3 (heap_alloc_old w o hb)⟩
theorem WStep.refl {Γ : Env} (w : World) (b : Nat) : WStep Γ w w b := ⟨Nat.le_refl _, rfl, rfl, rfl, fun _ => Nat.le_refl _, fun _ _ _ => rfl, fun _ _ => rfl⟩
theorem WStep.drew {Γ : Env} {w w' : World} {b : Nat} (h : WStep Γ w w' b) (n : Nat) (hn : w'.drawn ≤ n) : WStep Γ w { w' with drawn := n } b := ⟨h.le, h.os, h.tape, h.output, fun m => Nat.le_trans (h.dr m) hn, h.keep, h.cs⟩
def S2 (c : Array Value) (k : Nat) : List Value → Array Value
 | [] => c
 | v :: r => S2 (c.setIfInBounds k v) (k + 1) r
theorem R6 (c : Array Value) (k : Nat) (vs : List Value) : (S2 c k vs).size = c.size := by
 induction vs generalizing c k with
 | nil => rfl
 | cons v r ih => rw [S2, ih]; simp
theorem a2c (c : Array Value) (k : Nat) (vs : List Value) (j : Nat) (hle : k + vs.length ≤ c.size) :
  (S2 c k vs)[j]? = if k ≤ j ∧ j < k + vs.length then vs[j - k]? else c[j]? := by
 induction vs generalizing c k with
 | nil => simp only [S2, List.length_nil]; rw [if_neg (by omega)]
 | cons v r ih =>
  simp only [List.length_cons] at hle ⊢
  rw [S2, ih _ _ (by simp; omega)]
  by_cases h1 : k + 1 ≤ j ∧ j < k + 1 + r.length
  ·rw [if_pos h1, if_pos (by omega), show j - k = (j - (k + 1)) + 1 from by omega, List.getElem?_cons_succ]
  ·rw [if_neg h1]
   by_cases h2 : j = k
   ·subst h2
    rw [if_pos (by omega), Array.getElem?_setIfInBounds_self_of_lt (by omega)]
    simp
   ·rw [if_neg (by omega), Array.getElem?_setIfInBounds_ne (by omega)]
theorem V4 (P : Program) {b o : Nat} {ety : TypeId} : ∀ (vs : List Value) (i : Nat) (c : Array Value) (w : World), w.heap[b]? = some (.cells c ety (0, 0)) →
  (∀ v ∈ vs, v.oneCell' = true) → o + i + vs.length ≤ c.size →
  (storeCells ⟨b, o, none⟩ vs i).run P w = .ok () (if vs = [] then w else Y8 w b (S2 c (o + i) vs) ety) := by
 intro vs
 induction vs with
 | nil => intro i c w h hv hle; simp [storeCells]
 | cons v r ih =>
  intro i c w h hv hle
  simp only [List.length_cons] at hle
  have hlt : b < w.heap.size := (Array.getElem?_eq_some_iff.1 h).1
  have hc : w.cell? ⟨b, o + i, none⟩ = some (c[o + i]'(by omega)) := by
   simp [World.cell?, h, Array.getElem?_eq_getElem (show o + i < c.size by omega)]
  have hf : w.frozen? ⟨b, o + i, none⟩ = false := by simp [World.frozen?, h]
  have hset : w.setCell ⟨b, o + i, none⟩ v = Y8 w b (c.setIfInBounds (o + i) v) ety := by
   simp only [World.setCell, Y8]
   congr 1
   apply Array.ext_getElem?
   intro k
   rw [Array.getElem?_modify]
   by_cases e : b = k
   ·subst e
    have hh : w.heap[b] = .cells c ety (0, 0) := by
     have := h; rw [Array.getElem?_eq_getElem hlt] at this; exact Option.some.inj this
    simp [hlt, hh]
   ·rw [if_neg e, Array.getElem?_setIfInBounds_ne e]
  simp only [storeCells, Sem.run_bind, a0n]
  rw [run_store _ _ _ _ _ (hv v (List.mem_cons_self ..)), hc]
  simp only [hf, Bool.false_eq_true, if_false, Result.andThen_ok, hset]
  rw [ih (i + 1) _ _ (a0q hlt) (fun u hu => hv u (List.mem_cons_of_mem _ hu)) (by simp; omega)]
  simp only [reduceCtorEq, if_false, S2]
  split
  ·rename_i e; subst e; simp [S2]
  ·congr 1
   simp only [Y8]
   congr 1
   rw [Array.setIfInBounds_setIfInBounds]
   rfl
theorem a8p {P : Program} (w : World) (b o n : Nat) (f : Nat → Value) (h : ∀ j, j < n → w.cell? ⟨b, o + j, none⟩ = some (f j)) :
  (loadCells ⟨b, o, none⟩ n).run P w = .ok ((List.range n).map f).toArray w :=
 run_loadCells w _ n f fun j hj => by rw [a0n]; exact h j hj
section
variable {P : Program} {C : Caller} {Γ : Env} {w0 : World} {A O0 : Nat → Prop} {ν0 : Nu} {N : Nat} {F : Fl} {D : Nat → Prop} {st : St} {ν : Nu} {tm : Array Value} {w : World}
theorem RS.val_inv {u v : Value} (h : RS st ν w D (.val u) v) : v = u := by
 cases h with
 | data _ _ h => cases h; rfl
theorem RS.nil_inv {v : Value} (h : RS st ν w D .nil v) : ∃ a, v = .slice a 0 0 := by
 cases h with
 | data _ _ h => cases h; exact ⟨_, rfl⟩
theorem RS.ifc_inv {v : Value} (h : RS st ν w D .ifc v) : ∃ t x, v = .iface t x := by
 cases h with
 | data _ _ h => cases h; exact ⟨_, _, rfl⟩
theorem RS.list_inv {es : List AV} {v : Value} (h : RS st ν w D (.list es) v) : RV w D (.list es) v := by
 cases h with
 | data _ _ h => exact h
theorem RS.ipt_inv {e : AV} {j : Nat} {v : Value} (h : RS st ν w D (.ipt e j) v) : RV w D (.ipt e j) v := by
 cases h with
 | data _ _ h => exact h
theorem RS.agg_inv {fs : List AV} {v : Value} (h : RS st ν w D (.agg fs) v) :
  ∃ cs : Array Value, v = .agg cs ∧ cs.size = fs.length ∧ ∀ (i : Nat) (l : AV), fs[i]? = some l → RS st ν w D l (cs.getD i Go.undef) := by
 cases h with
 | data _ _ h => cases h with
  | agg _ cs hs hl => exact ⟨cs, rfl, hs, fun i l h => .data _ _ (hl i l h)⟩
 | agg _ cs hs hl => exact ⟨cs, rfl, hs, hl⟩
theorem RS.tup_inv {fs : List AV} {v : Value} (h : RS st ν w D (.tup fs) v) :
  ∃ cs : Array Value, v = .tuple cs ∧ cs.size = fs.length ∧ ∀ (i : Nat) (l : AV), fs[i]? = some l → RS st ν w D l (cs.getD i Go.undef) := by
 cases h with
 | data _ _ h => cases h with
  | tup _ cs hs hl => exact ⟨cs, rfl, hs, fun i l h => .data _ _ (hl i l h)⟩
 | tup _ cs hs hl => exact ⟨cs, rfl, hs, hl⟩
theorem RS.clo_inv {f : Nat} {caps : List AV} {v : Value} (h : RS st ν w D (.clo f caps) v) :
  ∃ cs : Array Value, v = .func (.func f) #[] cs ∧ cs.size = caps.length ∧ ∀ (i : Nat) (l : AV), caps[i]? = some l → RS st ν w D l (cs.getD i Go.undef) := by
 cases h with
 | data _ _ h => cases h with
  | clo _ _ cs hs hl => exact ⟨cs, rfl, hs, fun i l h => .data _ _ (hl i l h)⟩
 | clo _ _ cs hs hl => exact ⟨cs, rfl, hs, hl⟩
theorem RS.sl_inv {id g : Nat} {p : Path} {off n : Nat} {v : Value} (h : RS st ν w D (.sl id g p off n) v) :
  (∃ a cap, v = .slice a n cap ∧ n ≤ cap) ∧ g ≤ F9 (st (.h id)) ∧ c4b st id g p ∧ ∀ m s es, nodeAt st id g p = some (m, s, es) → SlV w (ν id p) s off n v := by
 cases h with
 | data _ _ h => cases h
 | sl _ _ _ _ _ _ hv hg hb h => exact ⟨hv, hg, hb, h⟩
theorem RS.ptr_inv {id g : Nat} {p : Path} {i j : Nat} {v : Value} (h : RS st ν w D (.ptr id g p i j) v) :
  (∃ b q, v = .pointer (some ⟨b, q, none⟩)) ∧ g ≤ F9 (st (.h id)) ∧ c4b st id g p ∧ ∀ m s es, nodeAt st id g p = some (m, s, es) → ∃ b o, ν id p = some (b, o) ∧ v = .pointer (some ⟨b, o + i * s + j, none⟩) := by
 cases h with
 | data _ _ h => cases h
 | ptr _ _ _ _ _ _ hv hg hb h => exact ⟨hv, hg, hb, h⟩
theorem RS.asl_inv {id g i j n : Nat} {v : Value} (h : RS st ν w D (.asl id g i j n) v) :
  (∃ b q, v = .slice (some ⟨b, q, none⟩) n n) ∧ g ≤ F9 (st (.h id)) ∧ ∀ m s es, nodeAt st id g none = some (m, s, es) → ∃ b o, ν id none = some (b, o) ∧ v = .slice (some ⟨b, o + i * s + j, none⟩) n n := by
 cases h with
 | data _ _ h => cases h
 | asl _ _ _ _ _ _ hv hg h => exact ⟨hv, hg, h⟩
theorem G3 {id g : Nat} {p : Path} {m s : Nat} {es : List AV} : (rdNode id g p).ev C st = some (m, s, es) ↔ nodeAt st id g p = some (m, s, es) := by
 unfold rdNode nodeAt
 rw [Rd.ev_read]
 cases st (.h id) <;> simp
 rename_i g' m' s' es'
 by_cases hg : g' = g
 ·simp only [hg, if_true, true_and]
  cases p with
  | none => simp
  | some q =>
   obtain ⟨i, j⟩ := q
   simp only
   cases leafAt es' i j with
   | none => simp
   | some l => cases l <;> simp
 ·simp [hg]
theorem RV.ofConst (v : Value) : RV w D (ofConst v) v := by
 unfold Mv.ofConst
 split
 ·exact .nil _
 ·rename_i cs
  refine .agg _ cs (by simp) fun i l hl => ?_
  rw [List.getElem?_map] at hl
  cases hc : cs.toList[i]? with
  | none => simp [hc] at hl
  | some c =>
   have hcd : cs.getD i undef = c := by
    have : cs[i]? = some c := by simpa using hc
    simp [Array.getD_eq_getD_getElem?, this]
   rw [hcd]
   simp only [hc, Option.map_some, Option.some.injEq] at hl
   subst hl
   split
   ·exact .nil _
   ·exact .val _
 ·rename_i f first captured
  split
  ·rename_i h
   obtain ⟨h1, h2⟩ := h
   obtain rfl : first = #[] := Array.eq_empty_of_size_eq_zero h1
   exact .clo f [] captured h2 (fun i l hl => by simp at hl)
  ·exact .val _
 ·exact .val _
theorem D7 {x : Operand} {a : AV} (h : (rdO x).ev C st = some a) (R : Rel Γ w0 A O0 ν0 N F D st ν tm w) {ds : List Deferred} :
  RS st ν w D a ((Act.mk tm ds).eval x) := by
 cases x with
 | tmp t =>
  simp only [rdO, S1, Option.some.injEq] at h
  subst h
  rcases Nat.lt_or_ge t N with h | h
  ·exact R.slots t h
  ·rw [R.high t h]; exact .undef _
 | const v =>
  simp only [rdO, Rd.ev_ret, Option.some.injEq] at h
  subst h
  exact .data _ _ (RV.ofConst v)
 | func f =>
  simp only [rdO, Rd.ev_ret, Option.some.injEq] at h
  subst h
  exact .data _ _ (.clo f [] #[] rfl (fun i l hl => by simp at hl))
 | global g =>
  simp only [rdO, Rd.ev_ret, Option.some.injEq] at h
  subst h
  exact .data _ _ (.val _)
theorem J9 {id g : Nat} {p : Path} {m s : Nat} {es : List AV} (h : nodeAt st id g p = some (m, s, es)) :
  ∃ s0 es0, st (.h id) = .obj g m s0 es0 ∧ (p = none ∧ s0 = s ∧ es0 = es ∨ ∃ i j, p = some (i, j) ∧ leafAt es0 i j = some (.own s es)) := by
 unfold nodeAt at h
 split at h
 ·rename_i g' m' s' es' ho
  split at h
  ·rename_i hg
   subst hg
   cases p with
   | none =>
    simp only [Option.some.injEq, Prod.mk.injEq] at h
    obtain ⟨rfl, rfl, rfl⟩ := h
    exact ⟨s', es', ho, .inl ⟨rfl, rfl, rfl⟩⟩
   | some q =>
    obtain ⟨i, j⟩ := q
    simp only at h
    split at h
    ·rename_i s2 es2 hl
     simp only [Option.some.injEq, Prod.mk.injEq] at h
     obtain ⟨rfl, rfl, rfl⟩ := h
     exact ⟨s', es', ho, .inr ⟨i, j, rfl, hl⟩⟩
    ·simp at h
  ·simp at h
 ·simp at h
def c2y (m : Nat) (p : Path) : Prop := p = none ∧ (m = 3 ∨ m = 4)
theorem Rel.node (R : Rel Γ w0 A O0 ν0 N F D st ν tm w) {id g : Nat} {p : Path} {m s : Nat} {es : List AV} (h : nodeAt st id g p = some (m, s, es)) :
  RN w (RS st ν w D) (ν id) (ν id p) (c2y m p) s es ∧ (p ≠ none → Z0 es) := by
 obtain ⟨s0, es0, h1, h2⟩ := J9 h
 have h3 := R.objs id g m s0 es0 h1
 rcases h2 with ⟨rfl, rfl, rfl⟩ | ⟨i, j, rfl, h2⟩
 ·simp only [c2y, true_and]
  exact ⟨h3.top, fun h => (h rfl).elim⟩
 ·obtain ⟨q1, q2⟩ := h3.sub i j s es h2
  simp only [c2y, reduceCtorEq, false_and]
  exact ⟨q1, fun _ => q2⟩
def RL (st : St) (ν : Nu) (w : World) (D : Nat → Prop) (fs : List AV) (cs : List Value) : Prop :=
 cs.length = fs.length ∧ ∀ (i : Nat) (l : AV), fs[i]? = some l → ∃ v : Value, cs[i]? = some v ∧ RS st ν w D l v
theorem RL.agg {fs : List AV} {cs : Array Value} (h : RL st ν w D fs cs.toList) : RS st ν w D (.agg fs) (.agg cs) := by
 refine .agg fs cs (by simpa using h.1) fun i l hl => ?_
 obtain ⟨v, h1, h2⟩ := h.2 i l hl
 have : cs[i]? = some v := by simpa using h1
 rw [Array.getD_eq_getD_getElem?, this]
 exact h2
theorem RS.agg_list {fs : List AV} {v : Value} (h : RS st ν w D (.agg fs) v) : ∃ cs : Array Value, v = .agg cs ∧ RL st ν w D fs cs.toList := by
 obtain ⟨cs, rfl, h1, h2⟩ := h.agg_inv
 refine ⟨cs, rfl, by simpa using h1, fun i l hl => ?_⟩
 have hi : i < fs.length := (List.getElem?_eq_some_iff.1 hl).1
 have := h2 i l hl
 refine ⟨cs[i]'(by omega), by simp [show i < cs.size by omega], ?_⟩
 simpa [Array.getD, show i < cs.size by omega] using this
theorem RL.drop {fs : List AV} {cs : List Value} (h : RL st ν w D fs cs) (n : Nat) : RL st ν w D (fs.drop n) (cs.drop n) := by
 refine ⟨by simp [h.1], fun i l hl => ?_⟩
 rw [List.getElem?_drop] at hl ⊢
 exact h.2 _ _ hl
theorem RL.take {fs : List AV} {cs : List Value} (h : RL st ν w D fs cs) (n : Nat) : RL st ν w D (fs.take n) (cs.take n) := by
 refine ⟨by simp [h.1], fun i l hl => ?_⟩
 rw [List.getElem?_take] at hl ⊢
 split at hl
 ·rename_i hi
  rw [if_pos hi]
  exact h.2 _ _ hl
 ·cases hl
theorem RL.append {fs gs : List AV} {cs ds : List Value} (h : RL st ν w D fs cs) (h' : RL st ν w D gs ds) : RL st ν w D (fs ++ gs) (cs ++ ds) := by
 refine ⟨by simp [h.1, h'.1], fun i l hl => ?_⟩
 rw [List.getElem?_append] at hl ⊢
 rw [h.1]
 split at hl
 ·rename_i hi; rw [if_pos hi]; exact h.2 _ _ hl
 ·rename_i hi; rw [if_neg hi]; exact h'.2 _ _ hl
theorem RL.nil : RL st ν w D [] [] := ⟨rfl, fun i l h => by simp at h⟩
theorem RL.cons {f : AV} {fs : List AV} {c : Value} {cs : List Value} (h : RS st ν w D f c) (h' : RL st ν w D fs cs) : RL st ν w D (f :: fs) (c :: cs) := by
 refine ⟨by simp [h'.1], fun i l hl => ?_⟩
 cases i with
 | zero => simp at hl; subst hl; exact ⟨c, by simp, h⟩
 | succ i => simp only [List.getElem?_cons_succ] at hl ⊢; exact h'.2 i l hl
theorem RL.one {f : AV} {c : Value} (h : RS st ν w D f c) : RL st ν w D [f] [c] := RL.cons h RL.nil
theorem b6m (o : Oper) (a : AV) (ws : Ws) (st : St) : st.upds (ws ++ setD o a) = match o.dst with
  | some d => (st.upds ws).upd (.t d) a
  | none => st.upds ws := by
 rw [St.upds_append]
 unfold setD
 cases o.dst <;> rfl
theorem c2l {o : Oper} {ws : Ws} {a : AV} {v : Value} {D' : Nat → Prop} {ν' : Nu} {w' : World} {ds : List Deferred} {next : Act → World → Prop} {Q : Exit → Act → World → Prop}
  (hrun : (execOp (Act.mk tm ds).eval o).run P w = .ok (.value v) w')
  (R : Rel Γ w0 A O0 ν0 N F D' (st.upds ws) ν' tm w') (hv : RS (st.upds ws) ν' w' D' a v) (hd : ∀ d, o.dst = some d → d < N)
  (hn : ∀ D' ν' tm' w', Rel Γ w0 A O0 ν0 N F D' (st.upds (ws ++ setD o a)) ν' tm' w' → next ⟨tm', ds⟩ w') : o.wp P ⟨tm, ds⟩ w next Q := by
 rw [Oper.wp, hrun, Oper.upon_value]
 rw [b6m] at hn
 unfold Act.put
 cases hdst : o.dst with
 | none => simp only [hdst] at hn ⊢; exact hn D' ν' tm w' R
 | some d => simp only [hdst] at hn ⊢; exact hn D' ν' _ w' (R.setT (hd d hdst) hv)
end
section
variable {P : Program} {C : Caller} {Γ : Env} {w0 : World} {A O0 : Nat → Prop} {ν0 : Nu} {N : Nat} {F : Fl} {D : Nat → Prop} {st : St} {ν : Nu} {tm : Array Value} {w : World}
theorem b8s {P : Program} {T : Nat} (h : a1g (tyS P T).k = true) : O3 (tyS P T).k = false := by
 cases hk : (tyS P T).k <;> simp [hk, a1g] at h <;> rfl
theorem b6h {T : Nat} {ls : List AV} {u : AV} (h : (a0m P T ls).ev C st = some u) :
  O3 (tyS P T).k = false ∧ ((a1g (tyS P T).k = true ∧ (tyS P T).size ≤ ls.length ∧ u = .agg (ls.take (tyS P T).size)) ∨
   (a1g (tyS P T).k = false ∧ (tyS P T).size = 1 ∧ ls[0]? = some u)) := by
 unfold a0m at h
 split at h
 ·rename_i hk
  simp only [Rd.ev_bind, C1, Rd.ev_ret, Option.bind_eq_some_iff] at h
  obtain ⟨_, h1, h2⟩ := h
  split at h1
  ·rename_i hle; cases h2; exact ⟨b8s hk, .inl ⟨hk, hle, rfl⟩⟩
  ·cases h1
 ·rename_i hk
  simp only [Rd.ev_bind, C1, Option.bind_eq_some_iff] at h
  obtain ⟨_, h1, h2⟩ := h
  split at h1
  ·rename_i hle
   refine ⟨hle.2, .inr ⟨by simpa using hk, hle.1, ?_⟩⟩
   cases ls with
   | nil => simp at h2
   | cons l r => simp at h2; simp [h2]
  ·cases h1
theorem b3l {T off : Nat} {fs : List AV} {cs : Array Value} {u : AV} (h : (a0m P T (fs.drop off)).ev C st = some u) (hr : RL st ν w D fs cs.toList) :
  ∃ v, (part T cs off).run P w = .ok v w ∧ RS st ν w D u v := by
 obtain ⟨hb, h⟩ := b6h h
 obtain ⟨i, d, hi, hd, hsz, _⟩ := L7 hb
 unfold part
 rcases h with ⟨hk, hle, rfl⟩ | ⟨hk, h1, h2⟩
 ·refine ⟨.agg (cs.extract off (off + i.size)), ?_, ?_⟩
  ·simp only [Sem.run_bind, a1l hb, Result.andThen_ok, hk, if_true, I3 hi, Sem.run_pure]
  ·refine RL.agg ?_
   rw [Array.toList_extract, List.extract_eq_take_drop, Nat.add_sub_cancel_left, hsz]
   exact (hr.drop off).take _
 ·rw [List.getElem?_drop] at h2
  obtain ⟨v, h3, h4⟩ := hr.2 _ _ h2
  refine ⟨v, ?_, h4⟩
  have h3 : cs[off]? = some v := by simpa using h3
  simp only [Sem.run_bind, a1l hb, Result.andThen_ok, hk, Bool.false_eq_true, if_false, h3, Sem.run_pure]
theorem a1f {T b q : Nat} {ls : List AV} {u : AV} (h : (a0m P T ls).ev C st = some u)
  (hc : ∀ (k : Nat) (l : AV), ls[k]? = some l → ∃ v, w.cell? ⟨b, q + k, none⟩ = some v ∧ RS st ν w D l v) :
  ∃ v, (loadVar T ⟨b, q, none⟩).run P w = .ok v w ∧ RS st ν w D u v := by
 obtain ⟨hb, h⟩ := b6h h
 obtain ⟨i, d, hi, hd, hsz, _⟩ := L7 hb
 unfold loadVar
 rcases h with ⟨hk, hle, rfl⟩ | ⟨hk, h1, h2⟩
 ·have hcell : ∀ k, k < i.size → w.cell? ⟨b, q + k, none⟩ = some ((w.cell? ⟨b, q + k, none⟩).getD Go.undef) := by
   intro k hk'
   obtain ⟨v, hv, _⟩ := hc k ls[k] (List.getElem?_eq_getElem (by omega))
   rw [hv]; rfl
  refine ⟨.agg ((List.range i.size).map fun k => (w.cell? ⟨b, q + k, none⟩).getD Go.undef).toArray, ?_, ?_⟩
  ·simp only [Sem.run_bind, a1l hb, Result.andThen_ok, hk, if_true, I3 hi, Sem.run_pure, a8p w b q i.size _ hcell]
  ·refine RL.agg ⟨by simp; omega, fun k l hl => ?_⟩
   rw [List.getElem?_take] at hl
   split at hl
   ·rename_i hlt
    obtain ⟨v, hv, hr⟩ := hc k l hl
    exact ⟨v, by simp [List.getElem?_range (show k < i.size by omega), hv], hr⟩
   ·cases hl
 ·obtain ⟨v, hv, hr⟩ := hc 0 u h2
  refine ⟨v, ?_, hr⟩
  have hv : w.cell? ⟨b, q, none⟩ = some v := hv
  simp only [Sem.run_bind, a1l hb, Result.andThen_ok, hk, Bool.false_eq_true, if_false, run_load, hv]
theorem c3g {id g : Nat} {p : Path} {m s : Nat} {es : List AV} (h : nodeAt st id g p = some (m, s, es))
  {i j : Nat} {l : AV} {v : Value} (hl : leafAt es i j = some l) (hv : S0 w (RS st ν w D) (ν id) i j l v) : RS st ν w D (a3l id g p i j l) v := by
 obtain ⟨s0, es0, h1, h2⟩ := J9 h
 cases l with
 | own s' es' =>
  rcases h2 with ⟨rfl, rfl, rfl⟩ | ⟨i', j', rfl, h2⟩
  ·refine .sl id g (some (i, j)) 0 es'.length v (by obtain ⟨a, cap, e, hle, _⟩ := (hv : SlV w _ _ _ _ _); exact ⟨a, cap, e, hle⟩) (by rw [h1]; exact Nat.le_refl _) (fun m2 s2 es2 h3 i' j' hp hn => ?_) (fun m2 s2 es2 h3 => ?_)
   ·rw [h1] at h3
    cases h3
    cases hp
    rw [hl] at hn; cases hn
   ·unfold nodeAt at h3
    rw [h1] at h3
    simp only [if_true, hl, Option.some.injEq, Prod.mk.injEq] at h3
    obtain ⟨rfl, rfl, rfl⟩ := h3
    exact hv
  ·exact .undef v
 | _ => exact hv
theorem b2j (id g : Nat) (p : Path) (i : Nat) : ∀ (ls : List AV) (j k : Nat), (viewLeaves id g p i j ls)[k]? = (ls[k]?).map (a3l id g p i (j + k)) := by
 intro ls
 induction ls with
 | nil => intro j k; simp [viewLeaves]
 | cons l ls ih =>
  intro j k
  cases k with
  | zero => simp [viewLeaves]
  | succ k => simp only [viewLeaves, List.getElem?_cons_succ, ih]; congr 2; omega
theorem RN.cell {L : AV → Value → Prop} {φ : Path → Base} {b o : Nat} {bx : Prop} {s : Nat} {es : List AV} (h : RN w L φ (some (b, o)) bx s es) {i j : Nat} {l : AV}
  (hl : leafAt es i j = some l) : ∃ v, w.cell? ⟨b, o + i * s + j, none⟩ = some v ∧ S0 w L φ i j l v := by
 obtain ⟨c, ety, h1, h2, h3, h5, h4⟩ := h
 obtain ⟨v, hv, hr⟩ := h4 i j l hl
 exact ⟨v, by simp [World.cell?, h1, hv], hr⟩
theorem b3j (R : Rel Γ w0 A O0 ν0 N F D st ν tm w) {T : Nat} {a u : AV} {va : Value} (h : (loadA P T a).ev C st = some u) (ha : RS st ν w D a va) :
  ∃ v, (Instr.loadAt T va).run P w = .ok v w ∧ RS st ν w D u v := by
 cases a <;> simp only [loadA, Rd.ev_fail, reduceCtorEq] at h
 ·rename_i id g p i j
  simp only [Rd.ev_bind, Option.bind_eq_some_iff] at h
  obtain ⟨⟨m, s, es⟩, h1, h2⟩ := h
  rw [G3] at h1
  simp only at h2
  split at h2
  ·rename_i e he
   obtain ⟨_, _, _, hx⟩ := ha.ptr_inv
   obtain ⟨b, o, hbo, rfl⟩ := hx _ _ _ h1
   obtain ⟨hRN, _⟩ := R.node h1
   rw [hbo] at hRN
   obtain ⟨v, k1, k2⟩ := a1f (w := w) (ν := ν) (D := D) (b := b) (q := o + i * s + j) h2 (fun k l hl => by
    rw [b2j] at hl
    rw [List.getElem?_drop] at hl
    cases hk : (leaves e)[j + k]? with
    | none => simp [hk] at hl
    | some l0 =>
     simp only [hk, Option.map_some, Option.some.injEq] at hl
     subst hl
     have hla : leafAt es i (j + k) = some l0 := by simp [leafAt, he, hk]
     obtain ⟨v, hv, hr⟩ := hRN.cell hla
     exact ⟨v, by rw [show o + i * s + j + k = o + i * s + (j + k) from by omega]; exact hv, c3g h1 hla hr⟩)
   exact ⟨v, by simp only [Instr.loadAt, Instr.sureAddr, Sem.run_bind, Sem.run_pure, Result.andThen_ok, k1], k2⟩
  ·simp at h2
 ·rename_i e j
  cases ha.ipt_inv with
  | ipt _ _ b o c hab hc hl =>
   obtain ⟨v, k1, k2⟩ := a1f (w := w) (ν := ν) (D := D) (b := b) (q := o + j) h (fun k l hkl => by
    rw [List.getElem?_drop] at hkl
    exact ⟨c (j + k), by rw [Nat.add_assoc]; exact hc _ _ hkl, .data _ _ (hl _ _ hkl)⟩)
   exact ⟨v, by simp only [Instr.loadAt, Instr.sureAddr, Sem.run_bind, Sem.run_pure, Result.andThen_ok, k1], k2⟩
theorem c0a {T f : Nat} {x u : AV} {vx : Value} (h : (fieldA P T x f).ev C st = some u) (hx : RS st ν w D x vx) :
  ∃ v, (Instr.field T vx f).run P w = .ok v w ∧ RS st ν w D u v := by
 unfold fieldA at h
 split at h
 ·rename_i fs ls hk
  split at h
  ·rename_i o ft hf
   obtain ⟨fl, hu, rfl⟩ := a2j hk
   obtain ⟨cs, rfl, hr⟩ := hx.agg_list
   rw [List.getElem?_map] at hf
   cases hfl : fl.toList[f]? with
   | none => simp [hfl] at hf
   | some fd =>
    simp only [hfl, Option.map_some, Option.some.injEq, Prod.mk.injEq] at hf
    obtain ⟨rfl, rfl⟩ := hf
    obtain ⟨v, k1, k2⟩ := b3l h hr
    have hfl : fl[f]? = some fd := by simpa using hfl
    exact ⟨v, by simp only [Instr.field, Sem.run_bind, F8 hu, Result.andThen_ok, hfl, asAgg, Sem.run_pure, k1], k2⟩
  ·simp at h
 ·simp at h
theorem a3t {a : AV} {n : Nat} (h : (asNat a).ev C st = some n) : ∃ k, a = .val (.int k n) := by
 unfold asNat at h
 split at h
 ·rename_i k x
  simp only [Rd.ev_bind, C1, Rd.ev_ret, Option.bind_eq_some_iff] at h
  obtain ⟨_, h1, h2⟩ := h
  split at h1
  ·rename_i hx; cases h2; exact ⟨k, by congr 2; omega⟩
  ·cases h1
 ·simp at h
theorem b0t {T f : Nat} {x u : AV} {vx : Value} (h : (fieldAddrA P T x f).ev C st = some u) (hx : RS st ν w D x vx) :
  ∃ v, (Instr.fieldAt T vx f).run P w = .ok v w ∧ RS st ν w D u v := by
 unfold fieldAddrA at h
 split at h
 ·rename_i fs hk
  obtain ⟨fl, hu, rfl⟩ := a2j hk
  split at h
  ·rename_i o ft hf
   rw [List.getElem?_map] at hf
   cases hfl : fl.toList[f]? with
   | none => simp [hfl] at hf
   | some fd =>
    simp only [hfl, Option.map_some, Option.some.injEq, Prod.mk.injEq] at hf
    obtain ⟨rfl, rfl⟩ := hf
    have hfl : fl[f]? = some fd := by simpa using hfl
    simp only [Rd.ev_bind, C1, Option.bind_eq_some_iff] at h
    obtain ⟨_, h1, h2⟩ := h
    split at h1
    ·rename_i hsz
     obtain ⟨i, hi, his⟩ := a3x hsz
     have key : ∀ b q, (Instr.fieldAt T (.pointer (some ⟨b, q, none⟩)) f).run P w = .ok (.pointer (some ⟨b, q + fd.offset, none⟩)) w := by
      intro b q
      have : ¬ i.size = 0 := by omega
      simp only [Instr.fieldAt, Sem.run_bind, F8 hu, Result.andThen_ok, hfl, Instr.sureAddr, Sem.run_pure, fieldPlace, I3 hi, this, if_false, a0n]
     split at h2
     ·rename_i id g p i j
      simp only [Rd.ev_ret, Option.some.injEq] at h2
      subst h2
      obtain ⟨⟨b, q, rfl⟩, q1, q2, q3⟩ := hx.ptr_inv
      refine ⟨_, key b q, .ptr id g p i _ _ ⟨_, _, rfl⟩ q1 q2 fun m' s' es' hn' => ?_⟩
      obtain ⟨b', o', hbo', he⟩ := q3 _ _ _ hn'
      cases he
      exact ⟨b, o', hbo', by rw [Nat.add_assoc]⟩
     ·rename_i e j
      simp only [Rd.ev_ret, Option.some.injEq] at h2
      subst h2
      cases hx.ipt_inv with
      | ipt _ _ b o c hab hc hl =>
       exact ⟨_, key b _, .data _ _ (by rw [Nat.add_assoc]; exact .ipt e _ b o c hab hc hl)⟩
     ·simp at h2
    ·cases h1
  ·simp at h
 ·simp at h
theorem a0c {T E : Nat} (h : (elemOf P T).ev C st = some E) : (tyS P T).k = .slice E ∧ O3 (tyS P E).k = false := by
 unfold elemOf at h
 split at h
 ·rename_i e hk
  simp only [Rd.ev_bind, C1, Rd.ev_ret, Option.bind_eq_some_iff] at h
  obtain ⟨_, h1, h2⟩ := h
  split at h1
  ·rename_i hb; cases h2; exact ⟨hk, hb⟩
  ·cases h1
 ·simp at h
theorem C4 {p : Prop} [Decidable p] {u : Unit} (h : (if p then some () else none) = some u) : p := by
 split at h
 ·assumption
 ·cases h
theorem b0n (R : Rel Γ w0 A O0 ν0 N F D st ν tm w) {T : Nat} {x k u : AV} {vx vk : Value} (h : (indexAddrA P T x k).ev C st = some u) (hx : RS st ν w D x vx) (hk : RS st ν w D k vk) :
  ∃ v, (Instr.indexAt T vx vk).run P w = .ok v w ∧ RS st ν w D u v := by
 unfold indexAddrA at h
 simp only [Rd.ev_bind, Option.bind_eq_some_iff] at h
 obtain ⟨n, h1, h2⟩ := h
 obtain ⟨kk, rfl⟩ := a3t h1
 obtain rfl := hk.val_inv
 split at h2
 ·rename_i es
  simp only [Rd.ev_bind, Option.bind_eq_some_iff] at h2
  obtain ⟨E, h3, h4⟩ := h2
  obtain ⟨hs, hb⟩ := a0c h3
  have hu := K3 hs
  obtain ⟨i, d, hi, hd, hsz, _⟩ := L7 hb
  split at h4
  ·rename_i e he
   simp only [Rd.ev_bind, C1, Rd.ev_ret, Option.bind_eq_some_iff] at h4
   obtain ⟨_, h5, h6⟩ := h4
   have h5 := C4 h5
   cases h6
   have hn : n < es.length := (List.getElem?_eq_some_iff.1 he).1
   cases hx.list_inv with
   | list _ a cap b o s c hcap ha hls hc hl =>
    obtain ⟨rfl, hD, hlt⟩ := ha (by intro e; subst e; simp at hn)
    have hss : s = i.size := by rw [← hsz, ← h5, hls e (List.mem_of_getElem? he)]
    subst hss
    refine ⟨.pointer (some ⟨b, o + n * i.size, none⟩), ?_, .data _ _ ?_⟩
    ·simp only [Instr.indexAt, asIntOf, Sem.run_bind, Sem.run_pure, Result.andThen_ok, F8 hu]
     simp [I3 hi, hn, a0n]
    ·exact .ipt e 0 b (o + n * i.size) (fun k => c n k) ⟨hD, hlt⟩ (fun k l hkl => hc n k l (by simp [leafAt, he, hkl])) (fun k l hkl => hl n k l (by simp [leafAt, he, hkl]))
  ·simp at h4
 ·rename_i id g p off ln
  simp only [Rd.ev_bind, Option.bind_eq_some_iff] at h2
  obtain ⟨E, h3, ⟨m, s, es⟩, h4, h5⟩ := h2
  obtain ⟨hs, hb⟩ := a0c h3
  rw [G3] at h4
  have hu := K3 hs
  obtain ⟨i, d, hi, hd, hsz, _⟩ := L7 hb
  simp only [Rd.ev_bind, C1, Rd.ev_ret, Option.bind_eq_some_iff] at h5
  obtain ⟨_, h5, h6⟩ := h5
  have h5 := C4 h5
  cases h6
  obtain ⟨⟨a, cap, rfl, hcap⟩, q1, q2, q3⟩ := hx.sl_inv
  obtain ⟨a', cap', he, _, hx'⟩ := q3 _ _ _ h4
  cases he
  rcases hx' with rfl | ⟨b, o, hbo, rfl, hsz'⟩
  ·omega
  ·refine ⟨.pointer (some ⟨b, o + off * s + n * i.size, none⟩), ?_, .ptr id g p _ 0 _ ⟨_, _, rfl⟩ q1 q2 fun m' s' es' hn' => ?_⟩
   ·simp only [Instr.indexAt, asIntOf, Sem.run_bind, Sem.run_pure, Result.andThen_ok, F8 hu]
    simp [I3 hi, h5.1, a0n]
   ·rw [h4] at hn'
    cases hn'
    refine ⟨b, o, hbo, ?_⟩
    rw [Nat.add_mul, h5.2.2, hsz, Nat.add_zero, Nat.add_assoc]
 ·rename_i id g p a b
  split at h2
  ·rename_i len E hs
   simp only [Rd.ev_bind, C1, Rd.ev_ret, Option.bind_eq_some_iff] at h2
   obtain ⟨_, h5, h6⟩ := h2
   have h5 := C4 h5
   cases h6
   have hu := a4y hs
   obtain ⟨i, d, hi, hd, hsz, _⟩ := L7 h5.2
   obtain ⟨⟨bb, q, rfl⟩, q1, q2, q3⟩ := hx.ptr_inv
   refine ⟨.pointer (some ⟨bb, q + n * i.size, none⟩), ?_, .ptr id g p _ _ _ ⟨_, _, rfl⟩ q1 q2 fun m' s' es' hn' => ?_⟩
   ·simp only [Instr.indexAt, asIntOf, Sem.run_bind, Sem.run_pure, Result.andThen_ok, F8 hu, Instr.sureAddr]
    simp [I3 hi, h5.1, a0n]
   ·obtain ⟨b', o', hbo', he⟩ := q3 _ _ _ hn'
    cases he
    exact ⟨bb, o', hbo', by rw [hsz, Nat.add_assoc]⟩
  ·simp at h2
 ·simp at h2
end
section
variable {P : Program} {C : Caller} {Γ : Env} {w0 : World} {A O0 : Nat → Prop} {ν0 : Nu} {N : Nat} {F : Fl} {D : Nat → Prop} {st : St} {ν : Nu} {tm : Array Value} {w : World}
theorem c1m {T : Nat} {x k u : AV} {vx vk : Value} (h : (indexA P T x k).ev C st = some u) (hx : RS st ν w D x vx) (hk : RS st ν w D k vk) :
  ∃ v, (Instr.index T vx vk).run P w = .ok v w ∧ RS st ν w D u v := by
 unfold indexA at h
 simp only [Rd.ev_bind, Option.bind_eq_some_iff] at h
 obtain ⟨n, h1, h2⟩ := h
 obtain ⟨kk, rfl⟩ := a3t h1
 obtain rfl := hk.val_inv
 split at h2
 ·rename_i s hs
  obtain rfl := hx.val_inv
  split at h2
  ·rename_i b hb
   simp only [Rd.ev_ret, Option.some.injEq] at h2
   subst h2
   refine ⟨_, ?_, .data _ _ (.val _)⟩
   have hn : n < s.size := by
    have := (List.getElem?_eq_some_iff.1 hb).1
    simpa using this
   have hsn : s[n]? = some b := by
    have h3 : s.data[n]? = some b := by simpa using hb
    rw [getElem?_pos s n hn]
    rw [Array.getElem?_eq_some_iff] at h3
    obtain ⟨h4, h5⟩ := h3
    exact congrArg some h5
   simp only [Instr.index, asIntOf, Sem.run_bind, Sem.run_pure, Result.andThen_ok, F8 (Q8 hs)]
   simp [hsn]
  ·simp at h2
 ·rename_i len e ls hs
  simp only [Rd.ev_bind, C1, Option.bind_eq_some_iff] at h2
  obtain ⟨_, h3, h4⟩ := h2
  have h3 := C4 h3
  obtain ⟨i, d, hi, hd, hsz, _⟩ := L7 h3.2
  obtain ⟨cs, rfl, hr⟩ := hx.agg_list
  rw [hsz] at h4
  obtain ⟨v, k1, k2⟩ := b3l (P := P) (w := w) h4 hr
  refine ⟨v, ?_, k2⟩
  simp only [Instr.index, asIntOf, Sem.run_bind, Sem.run_pure, Result.andThen_ok, F8 (a4y hs)]
  simp [h3.1, I3 hi, k1]
 ·simp at h2
theorem R5 (R : Rel Γ w0 A O0 ν0 N F D st ν tm w) {ds : List Deferred} {o : Option Operand} {dflt n : Nat} (h : (optNat o dflt).ev C st = some n) :
  (o = none ∧ n = dflt) ∨ ∃ x k, o = some x ∧ (Act.mk tm ds).eval x = .int k n := by
 cases o with
 | none => simp [optNat] at h; exact .inl ⟨rfl, h.symm⟩
 | some x =>
  simp only [optNat, Rd.ev_bind, Option.bind_eq_some_iff] at h
  obtain ⟨a, h1, h2⟩ := h
  obtain ⟨k, rfl⟩ := a3t h2
  exact .inr ⟨x, k, rfl, (D7 h1 R).val_inv⟩
theorem J6 {k : IntKind} {n y : Nat} {code : BoundsCode} (h : n ≤ y) : (Instr.sliceBound (.int k n) y code).run P w = .ok n w := by
 have : (n : Int) ≤ y := by omega
 simp [Instr.sliceBound, asIntOf, this]
theorem T2 (R : Rel Γ w0 A O0 ν0 N F D st ν tm w) {ds : List Deferred} {isS : Bool} {len cap m h l dm : Nat} {lo hi mx : Option Operand}
  (h1 : (optNat mx dm).ev C st = some m) (h2 : (optNat hi len).ev C st = some h) (h3 : (optNat lo 0).ev C st = some l)
  (hle : l ≤ h ∧ h ≤ m ∧ m ≤ dm ∧ (mx = none ∨ hi ≠ none)) (hc : dm ≤ cap) :
  (Instr.sliceBounds isS len cap (lo.map (Act.mk tm ds).eval) (hi.map (Act.mk tm ds).eval) (mx.map (Act.mk tm ds).eval)).run P w =
   .ok (l, h, if mx = none then cap else m) w := by
 obtain ⟨ha, hb, hc', hd⟩ := hle
 unfold Instr.sliceBounds
 rcases R5 R (ds := ds) h1 with ⟨rfl, rfl⟩ | ⟨xm, km, rfl, em⟩
 ·rcases R5 R (ds := ds) h2 with ⟨rfl, rfl⟩ | ⟨xh, kh, rfl, eh⟩
  ·rcases R5 R (ds := ds) h3 with ⟨rfl, rfl⟩ | ⟨xl, kl, rfl, el⟩
   ·simp
   ·simp [el, J6 ha]
  ·rcases R5 R (ds := ds) h3 with ⟨rfl, rfl⟩ | ⟨xl, kl, rfl, el⟩
   ·simp [eh, J6 (show h ≤ cap by omega)]
   ·simp [eh, el, J6 (show h ≤ cap by omega), J6 ha]
 ·rcases R5 R (ds := ds) h2 with ⟨rfl, rfl⟩ | ⟨xh, kh, rfl, eh⟩
  ·simp at hd
  ·rcases R5 R (ds := ds) h3 with ⟨rfl, rfl⟩ | ⟨xl, kl, rfl, el⟩
   ·simp [em, eh, J6 (show m ≤ cap by omega), J6 hb]
   ·simp [em, eh, el, J6 (show m ≤ cap by omega), J6 hb, J6 ha]
theorem a3r {s : Nat} {es : List AV} (h : a2g s es = true) : ∀ e ∈ es, (leaves e).length = s := by
 intro e he
 have := List.all_eq_true.1 h e he
 simpa using this
theorem c0p (R : Rel Γ w0 A O0 ν0 N F D st ν tm w) {ds : List Deferred} {T : Nat} {x u : AV} {vx : Value} {lo hi mx : Option Operand} (h : (sliceA P T x lo hi mx).ev C st = some u) (hx : RS st ν w D x vx) :
  ∃ v, (Instr.sliceAt T vx (lo.map (Act.mk tm ds).eval) (hi.map (Act.mk tm ds).eval) (mx.map (Act.mk tm ds).eval)).run P w = .ok v w ∧ RS st ν w D u v := by
 unfold sliceA at h
 split at h
 ·rename_i s hs
  obtain rfl := hx.val_inv
  simp only [Rd.ev_bind, C1, Rd.ev_ret, Option.bind_eq_some_iff] at h
  obtain ⟨_, h1, hh, h2, l, h3, _, h4, h5⟩ := h
  obtain rfl := C4 h1
  have h4 := C4 h4
  cases h5
  have hu := Q8 hs
  have hb := T2 (P := P) (isS := false) (cap := s.size) R (ds := ds) (mx := none) (m := s.size) (dm := s.size) rfl h2 h3 ⟨h4.1, h4.2, Nat.le_refl _, .inl rfl⟩ (Nat.le_refl _)
  refine ⟨_, ?_, .data _ _ (.val _)⟩
  simp only [Option.map_none] at hb
  simp [Instr.sliceAt, Instr.slice, F8 hu, hb]
 ·rename_i E es hs
  simp only [Rd.ev_bind, C1, Option.bind_eq_some_iff] at h
  obtain ⟨m, h1, hh, h2, l, h3, _, h4, _, h6, h5⟩ := h
  have h4 := C4 h4
  have h6 := C4 h6
  have hu := K3 hs
  obtain ⟨i, d, hi', hd, hsz, _⟩ := L7 h6.1
  cases hx.list_inv with
  | list _ a cap b o s c hcap ha hls hc hl =>
   have hb := T2 (P := P) (isS := true) R (ds := ds) h1 h2 h3 h4 hcap
   refine ⟨.slice (if (if mx = none then cap else m) = l then a else a.map (·.add (l * i.size))) (hh - l) ((if mx = none then cap else m) - l), ?_, ?_⟩
   ·simp [Instr.sliceAt, Instr.slice, F8 hu, hb, I3 hi']
   ·split at h5
    ·rename_i hm
     simp only [Rd.ev_ret, Option.some.injEq] at h5
     subst h5
     rw [if_neg hm.1, hm.2, Nat.sub_self, show hh - l = 0 by omega]
     exact .data _ _ (.nil _)
    ·rename_i hm
     simp only [Rd.ev_ret, Option.some.injEq] at h5
     subst h5
     have hlen : ((es.drop l).take (hh - l)).length = hh - l := by simp; omega
     have hM : hh ≤ if mx = none then cap else m := by split <;> omega
     have hsub : ∀ i j x, leafAt ((es.drop l).take (hh - l)) i j = some x → leafAt es (l + i) j = some x := by
      intro i j x hx
      have := J1 hx
      unfold leafAt at this ⊢
      rwa [List.getElem?_drop] at this
     refine .data _ _ ?_
     have := RV.list (w := w) (D := D) ((es.drop l).take (hh - l)) (if (if mx = none then cap else m) = l then a else a.map (·.add (l * i.size))) ((if mx = none then cap else m) - l) b (o + l * s) s
      (fun i j => c (l + i) j) (by rw [hlen]; omega) (fun hne => ?_) (fun e he => hls e (List.mem_of_mem_drop (List.mem_of_mem_take he)))
      (fun i j x hx => by rw [show o + l * s + i * s + j = o + (l + i) * s + j from by rw [Nat.add_mul]; omega]; exact hc _ _ _ (hsub i j x hx))
      (fun i j x hx => hl _ _ _ (hsub i j x hx))
     ·rwa [hlen] at this
     ·have hne' : 0 < hh - l := by rw [← hlen]; exact List.length_pos_iff.2 hne
      have hes : es ≠ [] := by intro e; subst e; simp at hlen; omega
      obtain ⟨rfl, k1, k2⟩ := ha hes
      rw [if_neg (by omega)]
      obtain ⟨e, he⟩ := List.exists_mem_of_ne_nil es hes
      have : s = i.size := by rw [← hls e he, a3r h6.2 e he, hsz]
      exact ⟨by simp [a0n, this], k1, k2⟩
 ·rename_i E hs
  simp only [Rd.ev_bind, C1, Rd.ev_ret, Option.bind_eq_some_iff] at h
  obtain ⟨m, h1, hh, h2, l, h3, _, h4, _, h6, h5⟩ := h
  have h4 := C4 h4
  have h6 := C4 h6
  cases h5
  have hu := K3 hs
  obtain ⟨i, d, hi', hd, hsz, _⟩ := L7 h6
  obtain ⟨a, rfl⟩ := hx.nil_inv
  have hb := T2 (P := P) (isS := true) R (ds := ds) h1 h2 h3 h4 (Nat.le_refl _)
  refine ⟨.slice a 0 0, ?_, .data _ _ (.nil _)⟩
  obtain rfl : m = 0 := by omega
  obtain rfl : hh = 0 := by omega
  obtain rfl : l = 0 := by omega
  simp [Instr.sliceAt, Instr.slice, F8 hu, hb, I3 hi']
 ·rename_i E id g p off n hs
  simp only [Rd.ev_bind, C1, Option.bind_eq_some_iff] at h
  obtain ⟨m, h1, hh, h2, l, h3, _, h4, _, h6, h5⟩ := h
  have h4 := C4 h4
  have h6 := C4 h6
  have hu := K3 hs
  obtain ⟨i, d, hi', hd, hsz, _⟩ := L7 h6
  obtain ⟨⟨a, cap, rfl, hcap⟩, q1, q2, q3⟩ := hx.sl_inv
  have hb := T2 (P := P) (isS := true) R (ds := ds) h1 h2 h3 h4 hcap
  have hM : hh ≤ if mx = none then cap else m := by split <;> omega
  have hM' : (if mx = none then cap else m) ≤ cap := by split <;> omega
  refine ⟨.slice (if (if mx = none then cap else m) = l then a else a.map (·.add (l * i.size))) (hh - l) ((if mx = none then cap else m) - l), ?_, ?_⟩
  ·simp [Instr.sliceAt, Instr.slice, F8 hu, hb, I3 hi']
  ·have key : (∀ m s es, nodeAt st id g p = some (m, s, es) → l = 0 ∨ s = i.size) →
     RS st ν w D (.sl id g p (off + l) (hh - l)) (.slice (if (if mx = none then cap else m) = l then a else a.map (·.add (l * i.size))) (hh - l) ((if mx = none then cap else m) - l)) := by
    intro hk
    refine .sl id g p _ _ _ ⟨_, _, rfl, by omega⟩ q1 q2 fun m' s es hn => ?_
    obtain ⟨a', cap', he, hc1, hc2⟩ := q3 _ _ _ hn
    cases he
    refine ⟨_, _, rfl, by omega, ?_⟩
    by_cases hML : (if mx = none then cap else m) = l
    ·exact .inl (by omega)
    ·rw [if_neg hML]
     rcases hc2 with rfl | ⟨b, o, hbo, rfl, hle⟩
     ·omega
     ·refine .inr ⟨b, o, hbo, ?_, ?_⟩
      ·simp only [Option.map_some, a0n]
       rcases hk _ _ _ hn with rfl | rfl
       ·simp
       ·rw [Nat.add_mul, Nat.add_assoc]
      ·refine Nat.le_trans ?_ hle
       refine Nat.add_le_add_left (Nat.mul_le_mul_right _ ?_) _
       omega
   split at h5
   ·rename_i hm
    simp only [Rd.ev_ret, Option.some.injEq] at h5
    subst h5
    rw [if_neg hm.1, hm.2, Nat.sub_self, show hh - l = 0 by omega]
    exact .data _ _ (.nil _)
   ·split at h5
    ·rename_i hl0
     simp only [Rd.ev_ret, Option.some.injEq] at h5
     subst h5
     have := key (fun _ _ _ _ => .inl hl0)
     rw [show off + l = off by omega, show (hh - l) = hh by omega] at this
     rwa [show (hh - l) = hh by omega]
    ·simp only [Rd.ev_bind, C1, Rd.ev_ret, Option.bind_eq_some_iff] at h5
     obtain ⟨⟨m', s, es⟩, h7, _, h8, h9⟩ := h5
     rw [G3] at h7
     have h8 := C4 h8
     cases h9
     exact key fun _ s' _ hn => .inr (by rw [h7] at hn; cases hn; exact h8.trans hsz)
 ·rename_i n E id g i j hs
  simp only [Rd.ev_bind, C1, Rd.ev_ret, Option.bind_eq_some_iff] at h
  obtain ⟨_, h1, h2⟩ := h
  obtain ⟨rfl, rfl, rfl, hsz⟩ := C4 h1
  cases h2
  have hu := a4y hs
  obtain ⟨inf, hi', _⟩ := a3x (P := P) (T := E) (by omega)
  obtain ⟨⟨b, q, rfl⟩, q1, q2, q3⟩ := hx.ptr_inv
  refine ⟨.slice (some ⟨b, q, none⟩) n n, ?_, .asl id g i j n _ ⟨_, _, rfl⟩ q1 fun m' s' es' hn => ?_⟩
  ·simp [Instr.sliceAt, Instr.sliceBounds, F8 hu, I3 hi', Instr.sureAddr, a0n]
  ·obtain ⟨b', o', hbo', he⟩ := q3 _ _ _ hn
   cases he
   exact ⟨b, o', hbo', rfl⟩
 ·simp at h
end
theorem a2i {k : IntKind} {n : Int} (h : inI k n) : k.wrap n = n := by
 obtain ⟨h1, h2⟩ := h
 cases k <;> simp only [IntKind.min, IntKind.max, IntKind.signed, IntKind.bits, IntKind.wrap] at * <;> simp at * <;> omega
section
variable {P : Program} {C : Caller} {Γ : Env} {w0 : World} {A O0 : Nat → Prop} {ν0 : Nu} {N : Nat} {F : Fl} {D : Nat → Prop} {st : St} {ν : Nu} {tm : Array Value} {w : World}
theorem b8c {op : BinOp} {k : IntKind} {x y : Int} {u : AV} (T : Nat) (h : (intBin op k x y).ev C st = some u) :
  ∃ v, u = .val v ∧ (binOp op T (.int k x) (.int k y)).run P w = .ok v w := by
 cases op <;> simp only [intBin, Rd.ev_bind, C1, Rd.ev_ret, Rd.ev_fail, Option.bind_eq_some_iff, Option.some.injEq, reduceCtorEq] at h
 case add | sub | mul =>
  obtain ⟨_, h1, rfl⟩ := h
  exact ⟨_, rfl, by simp [binOp, Op.intArith, a2i (C4 h1)]⟩
 case quo =>
  obtain ⟨_, h1, rfl⟩ := h
  have h1 := C4 h1
  exact ⟨_, rfl, by simp [binOp, Op.intDiv, a2i h1.2, h1.1]⟩
 case rem =>
  obtain ⟨_, h1, rfl⟩ := h
  have h1 := C4 h1
  exact ⟨_, rfl, by simp [binOp, Op.intDiv, h1]⟩
 case shl =>
  obtain ⟨_, h1, rfl⟩ := h
  have h1 := C4 h1
  have hm : min y.toNat k.bits = y.toNat := by omega
  exact ⟨_, rfl, by simp [binOp, Op.shift, hm, a2i h1.2.2, show ¬ y < 0 by omega]⟩
 case shr =>
  obtain ⟨_, h1, rfl⟩ := h
  have h1 := C4 h1
  have hm : min y.toNat k.bits = y.toNat := by omega
  exact ⟨_, rfl, by simp [binOp, Op.shift, hm, show ¬ y < 0 by omega]⟩
 all_goals
  subst h
  exact ⟨_, rfl, by simp [binOp, Op.intCmp, Op.intBits]⟩
theorem b0d {op : BinOp} {k k' : IntKind} {x y : Int} {u : AV} (T : Nat) (hop : op = .shl ∨ op = .shr) (h : (intBin op k x y).ev C st = some u) :
  ∃ v, u = .val v ∧ (binOp op T (.int k x) (.int k' y)).run P w = .ok v w := by
 rcases hop with rfl | rfl <;> simp only [intBin, Rd.ev_bind, C1, Rd.ev_ret, Option.bind_eq_some_iff] at h
 ·obtain ⟨_, h1, h2⟩ := h
  cases h2
  have h1 := C4 h1
  have hm : min y.toNat k.bits = y.toNat := by omega
  exact ⟨_, rfl, by simp [binOp, Op.shift, hm, a2i h1.2.2, show ¬ y < 0 by omega]⟩
 ·obtain ⟨_, h1, h2⟩ := h
  cases h2
  have h1 := C4 h1
  have hm : min y.toNat k.bits = y.toNat := by omega
  exact ⟨_, rfl, by simp [binOp, Op.shift, hm, show ¬ y < 0 by omega]⟩
theorem b3d {a b : AV} {r : Bool} {va vb : Value} {T : Nat} (d : Nat) (h : b2k (tyS P T).k a b = some r)
  (ha : RS st ν w D a va) (hb : RS st ν w D b vb) : (Op.equalIn (d + 1) T va vb).run P w = .ok r w := by
 unfold b2k at h
 split at h
 ·rename_i k0 k x k' y hk
  obtain rfl := ha.val_inv
  obtain rfl := hb.val_inv
  split at h
  ·rename_i e
   subst e
   cases h
   exact run_equalIn_int w d T k k0 x y (b1b hk)
  ·cases h
 ·rename_i x y hk
  obtain rfl := ha.val_inv
  obtain rfl := hb.val_inv
  cases h
  exact run_equalIn_bool w d T x y (b9e hk)
 ·rename_i x y hk
  obtain rfl := ha.val_inv
  obtain rfl := hb.val_inv
  cases h
  exact run_equalIn_string w d T x y (Q8 hk)
 ·cases h
theorem b1t (d : Nat) {cs ds : Array Value} : ∀ (fs : List Field) (k : Nat) (xs ys : List AV) (r : Bool),
  (fs.zipIdx k).all (fun f => f.1.offset == f.2 && f.1.name != "_" && !O3 (tyS P f.1.type).k && !a1g (tyS P f.1.type).k) = true →
  b0c (fs.map fun f => (tyS P f.type).k) xs ys = some r → RL st ν w D xs (cs.toList.drop k) → RL st ν w D ys (ds.toList.drop k) →
  (Op.eqFields (d + 1) cs ds fs).run P w = .ok r w := by
 intro fs
 induction fs with
 | nil =>
  intro k xs ys r _ h _ _
  cases xs <;> cases ys <;> simp [b0c] at h
  subst h
  rfl
 | cons f fs ih =>
  intro k xs ys r hall h hx hy
  rw [List.zipIdx_cons, List.all_cons] at hall
  simp only [Bool.and_eq_true, beq_iff_eq, bne_iff_ne, ne_eq, Bool.not_eq_true'] at hall
  obtain ⟨⟨⟨⟨hoff, hname⟩, hbad⟩, hagg⟩, hrest⟩ := hall
  simp only [List.map_cons] at h
  cases xs with
  | nil => cases ys <;> simp [b0c] at h
  | cons x xs =>
   cases ys with
   | nil => simp [b0c] at h
   | cons y ys =>
    simp only [b0c] at h
    split at h
    ·rename_i b1 b2 h1 h2
     cases h
     obtain ⟨v1, e1, r1⟩ := hx.2 0 x rfl
     obtain ⟨v2, e2, r2⟩ := hy.2 0 y rfl
     rw [List.getElem?_drop] at e1 e2
     have e1 : cs[f.offset]? = some v1 := by rw [hoff]; simpa using e1
     have e2 : ds[f.offset]? = some v2 := by rw [hoff]; simpa using e2
     have hp : ∀ (zs : Array Value) (v : Value), zs[f.offset]? = some v → (part f.type zs f.offset).run P w = .ok v w := by
      intro zs v hz
      simp only [part, Sem.run_bind, a1l hbad, Result.andThen_ok, hagg, Bool.false_eq_true, if_false, hz, Sem.run_pure]
     have hq := b3d d h1 r1 r2
     have hrec := ih (k + 1) xs ys b2 hrest h2 (by simpa using hx.drop 1) (by simpa using hy.drop 1)
     simp only [Op.eqFields, hname, ne_eq, not_false_eq_true, if_true, Sem.run_bind, hp cs v1 e1, hp ds v2 e2, Result.andThen_ok, hq]
     cases b1
     ·simp
     ·simpa using hrec
    ·cases h
theorem c0n (d : Nat) {T : Nat} {ms : Array (String × TypeId)} (hu : P.underlying T = some (.interface ms)) (t : TypeId) (z : Value) :
  (Op.equalIn (d + 1) T (.iface t z) .nilIface).run P w = .ok false w := by
 simp [Op.equalIn, F8 hu]
theorem b9v (d : Nat) {T : Nat} {ms : Array (String × TypeId)} (hu : P.underlying T = some (.interface ms)) :
  (Op.equalIn (d + 1) T .nilIface .nilIface).run P w = .ok true w := by
 simp [Op.equalIn, F8 hu]
theorem c7k {op : BinOp} {T : Nat} {x y : Operand} {a b u : AV} {va vb : Value} (h : (a2k (fieldKs P T) op a b).ev C st = some u) (he : a0s P T x y a = true)
  (ha : RS st ν w D a va) (hb : RS st ν w D b vb) : ∃ v, (eqGuard op T x y va vb).run P w = .ok () w ∧ (binOp op T va vb).run P w = .ok v w ∧ RS st ν w D u v := by
 unfold a2k at h
 split at h
 ·rename_i k x' k' y'
  obtain rfl := ha.val_inv
  obtain rfl := hb.val_inv
  have hg : (eqGuard op T x y (.int k x') (.int k' y')).run P w = .ok () w := by
   unfold eqGuard; split <;> simp
  split at h
  ·obtain ⟨v, rfl, h1⟩ := b0d (P := P) (w := w) (k' := k') T (.inl rfl) h
   exact ⟨v, hg, h1, .data _ _ (.val _)⟩
  ·obtain ⟨v, rfl, h1⟩ := b0d (P := P) (w := w) (k' := k') T (.inr rfl) h
   exact ⟨v, hg, h1, .data _ _ (.val _)⟩
  ·simp only [Rd.ev_bind, C1, Option.bind_eq_some_iff] at h
   obtain ⟨_, h1, h2⟩ := h
   obtain rfl := C4 h1
   obtain ⟨v, rfl, h1⟩ := b8c (P := P) (w := w) T h2
   exact ⟨v, hg, h1, .data _ _ (.val _)⟩
 ·rename_i x' y'
  obtain rfl := ha.val_inv
  obtain rfl := hb.val_inv
  have hg : (eqGuard op T x y (.string x') (.string y')).run P w = .ok () w := by
   unfold eqGuard; split <;> simp
  unfold b4c at h
  split at h <;> simp only [Rd.ev_bind, C1, Rd.ev_ret, Rd.ev_fail, Option.bind_eq_some_iff, Option.some.injEq, reduceCtorEq] at h
  ·obtain ⟨_, h1, rfl⟩ := h
   have h1 := C4 h1
   refine ⟨_, hg, ?_, .data _ _ (.val _)⟩
   have : ¬ ((x'.size + y'.size : Nat) : Int) > IntKind.i64.max := by
    simp only [I8] at h1
    have : IntKind.i64.max = 9223372036854775807 := rfl
    omega
   simp only [binOp, Op.stringOp, this, if_false, Sem.run_pure]
  ·subst h; exact ⟨_, hg, by simp [binOp, Op.stringOp], .data _ _ (.val _)⟩
  ·subst h; exact ⟨_, hg, by simp [binOp, Op.stringOp], .data _ _ (.val _)⟩
 ·rename_i x' y'
  obtain rfl := ha.val_inv
  obtain rfl := hb.val_inv
  have hg : (eqGuard op T x y (.bool x') (.bool y')).run P w = .ok () w := by
   unfold eqGuard; split <;> simp
  have ht : P.underlying T = some .bool := by
   simp only [a0s] at he
   split at he
   ·rename_i hk; exact b9e hk
   ·cases he
  split at h <;> simp only [Rd.ev_ret, Rd.ev_fail, Option.some.injEq, reduceCtorEq] at h
  ·subst h; exact ⟨_, hg, run_eql_bool w T x' y' ht, .data _ _ (.val _)⟩
  ·subst h; exact ⟨_, hg, run_neq_bool w T x' y' ht, .data _ _ (.val _)⟩
 ·obtain ⟨t, z, rfl⟩ := ha.ifc_inv
  obtain rfl := hb.val_inv
  have hg : (eqGuard op T x y (.iface t z) .nilIface).run P w = .ok () w := by
   unfold eqGuard; split <;> simp
  simp only [a0s, a1m] at he
  split at he
  ·rename_i ms hu
   have hq : (Op.equal T (.iface t z) .nilIface).run P w = .ok false w := c0n 9999 hu t z
   split at h <;> simp only [Rd.ev_ret, Rd.ev_fail, Option.some.injEq, reduceCtorEq] at h
   ·subst h; exact ⟨_, hg, by simp only [binOp, Sem.run_bind, hq]; rfl, .data _ _ (.val _)⟩
   ·subst h; exact ⟨_, hg, by simp only [binOp, Sem.run_bind, hq]; rfl, .data _ _ (.val _)⟩
  ·cases he
 ·obtain rfl := ha.val_inv
  obtain rfl := hb.val_inv
  simp only [a0s, a1m, Bool.and_eq_true, Bool.or_eq_true] at he
  obtain ⟨he, hc⟩ := he
  have hg : (eqGuard op T x y .nilIface .nilIface).run P w = .ok () w := by
   rcases hc with hc | hc
   ·cases x <;> simp [a4e] at hc
    cases op <;> simp [eqGuard]
   ·cases y <;> simp [a4e] at hc
    cases op <;> cases x <;> simp [eqGuard]
  split at he
  ·rename_i ms hu
   have hq : (Op.equal T .nilIface .nilIface).run P w = .ok true w := b9v 9999 hu
   split at h <;> simp only [Rd.ev_ret, Rd.ev_fail, Option.some.injEq, reduceCtorEq] at h
   ·subst h; exact ⟨_, hg, by simp only [binOp, Sem.run_bind, hq]; rfl, .data _ _ (.val _)⟩
   ·subst h; exact ⟨_, hg, by simp only [binOp, Sem.run_bind, hq]; rfl, .data _ _ (.val _)⟩
  ·cases he
 ·rename_i xs ys
  obtain ⟨cs, rfl, hcs⟩ := ha.agg_list
  obtain ⟨ds, rfl, hds⟩ := hb.agg_list
  simp only [a0s, c7n] at he
  split at he
  ·rename_i fs hu
   simp only [Bool.and_eq_true, Bool.not_eq_true'] at he
   obtain ⟨⟨⟨hall, hst⟩, hgt⟩, hbad⟩ := he
   have hf : P.fieldsOf T = fs := by simp [Program.fieldsOf, hu]
   have hks : ∀ r, b0c (fieldKs P T) xs ys = some r → (Op.equalIn 10000 T (.agg cs) (.agg ds)).run P w = .ok r w := by
    intro r hr
    rw [run_equalIn_struct w 9999 T cs ds (by rw [hf]; exact hu) hst, hf]
    unfold fieldKs at hr
    split at hr
    ·rename_i fl hk
     obtain ⟨fl', hu', rfl⟩ := a2j hk
     rw [hu] at hu'
     cases hu'
     rw [List.map_map] at hr
     exact b1t 9998 fs.toList 0 xs ys r hall hr (by simpa using hcs) (by simpa using hds)
    ·rename_i hk
     exact (hk _ (b4e hu hbad)).elim
   split at h <;> simp only [Rd.ev_ret, Rd.ev_fail, Option.some.injEq, reduceCtorEq] at h
   ·rename_i hr
    subst h
    exact ⟨_, run_eqGuard_agg w .eql T x y cs ds hgt, by rw [run_eql_struct, hks _ hr]; rfl, .data _ _ (.val _)⟩
   ·rename_i hr
    subst h
    exact ⟨_, run_eqGuard_agg w .neq T x y cs ds hgt, by rw [run_neq_struct, hks _ hr]; rfl, .data _ _ (.val _)⟩
  ·cases he
 ·simp at h
end
section
variable {P : Program} {C : Caller} {Γ : Env} {w0 : World} {A O0 : Nat → Prop} {ν0 : Nu} {N : Nat} {F : Fl} {D : Nat → Prop} {st : St} {ν : Nu} {tm : Array Value} {w : World}
theorem c9l {op : UnOp} {a u : AV} {va : Value} (h : (unA op a).ev C st = some u) (ha : RS st ν w D a va) :
  ∃ v, (Op.unary op va).run P w = .ok v w ∧ RS st ν w D u v := by
 unfold unA at h
 split at h
 ·obtain rfl := ha.val_inv
  simp only [Rd.ev_bind, C1, Rd.ev_ret, Option.bind_eq_some_iff] at h
  obtain ⟨_, h1, h2⟩ := h
  have h1 := C4 h1
  cases h2
  refine ⟨_, ?_, .data _ _ (.val _)⟩
  simp only [Op.unary, Op.intArith, a2i h1, Sem.run_pure]
  simp
 ·obtain rfl := ha.val_inv
  simp only [Rd.ev_ret, Option.some.injEq] at h
  subst h
  exact ⟨_, by simp [Op.unary], .data _ _ (.val _)⟩
 ·simp at h
theorem c4a {S T : Nat} {x : Value} {u : AV} (h : (c4n P S T (.val x)).ev C st = some u) :
  ∃ v, (convert S T x).run P w = .ok v w ∧ RS st ν w D u v := by
 unfold c4n at h
 split at h
 ·rename_i ks kd k n hs ht hx
  cases hx
  simp only [Rd.ev_bind, C1, Rd.ev_ret, Option.bind_eq_some_iff] at h
  obtain ⟨_, h1, h2⟩ := h
  have h1 := C4 h1
  cases h2
  refine ⟨_, ?_, .data _ _ (.val _)⟩
  simp only [convert, Sem.run_bind, F8 (b1b hs), F8 (b1b ht), Result.andThen_ok, Conv.intToInt, a2i h1, Sem.run_pure]
 ·rename_i s hs ht hx
  cases hx
  simp only [Rd.ev_ret, Option.some.injEq] at h
  subst h
  refine ⟨_, ?_, .data _ _ (.val _)⟩
  simp only [convert, Sem.run_bind, F8 (Q8 hs), F8 (Q8 ht), Result.andThen_ok, Sem.run_pure]
 ·simp at h
theorem c7h {T : Nat} {a u : AV} {va : Value} (h : (lenA a).ev C st = some u) (hok : lenOk P T a) (ha : RS st ν w D a va) (ts : Array TypeId) (hts : ts[0]? = some T) (T' : TypeId) :
  ∃ v, (Builtin.len_ ts T' #[va]).run P w = .ok v w ∧ RS st ν w D u v := by
 unfold lenOk at hok
 unfold lenA at h
 split at h
 ·rename_i es
  simp only [Rd.ev_ret, Option.some.injEq] at h
  subst h
  split at hok <;> try (exact hok.elim)
  all_goals (rename_i hk hx; first | cases hx | skip)
  rename_i E es hk
  cases ha.list_inv with
  | list _ a cap b o s c hcap hal hls hc hl =>
   refine ⟨_, ?_, .data _ _ (.val _)⟩
   simp [Builtin.len_, hts, F8 (K3 hk), goInt]
 ·simp only [Rd.ev_ret, Option.some.injEq] at h
  subst h
  split at hok <;> try (exact hok.elim)
  all_goals (rename_i hk hx; first | cases hx | skip)
  rename_i E hk
  obtain ⟨a, rfl⟩ := ha.nil_inv
  refine ⟨_, ?_, .data _ _ (.val _)⟩
  simp [Builtin.len_, hts, F8 (K3 hk), goInt]
 ·simp only [Rd.ev_ret, Option.some.injEq] at h
  subst h
  split at hok <;> try (exact hok.elim)
  all_goals (rename_i hk hx; first | cases hx | skip)
  rename_i hk
  obtain ⟨⟨a, cap, rfl, _⟩, _⟩ := ha.sl_inv
  refine ⟨_, ?_, .data _ _ (.val _)⟩
  simp [Builtin.len_, hts, F8 (K3 hk), goInt]
 ·simp only [Rd.ev_ret, Option.some.injEq] at h
  subst h
  obtain rfl := ha.val_inv
  split at hok <;> try (exact hok.elim)
  all_goals (rename_i hk hx; first | cases hx | skip)
  rename_i hk
  refine ⟨_, ?_, .data _ _ (.val _)⟩
  simp [Builtin.len_, hts, F8 (Q8 hk), goInt]
 ·simp at h
theorem a2y (R : Rel Γ w0 A O0 ν0 N F D st ν tm w) {ds : List Deferred} : ∀ (xs : List Operand) {as : List AV}, (rdOs xs).ev C st = some as →
  RL st ν w D as (xs.map (Act.mk tm ds).eval) := by
 intro xs
 induction xs with
 | nil => intro as h; simp [rdOs] at h; subst h; exact RL.nil
 | cons x xs ih =>
  intro as h
  simp only [rdOs, Rd.ev_bind, Rd.ev_ret, Option.bind_eq_some_iff] at h
  obtain ⟨a, h1, r, h2, h3⟩ := h
  cases h3
  exact RL.cons (D7 h1 R) (ih h2)
theorem d3m (x y : Int) : (if y > x then y else x) = max x y := by split <;> omega
theorem d3a (x y : Int) : (if y < x then y else x) = min x y := by split <;> omega
theorem c8v {a u : AV} {va : Value} : ∀ (as : List AV) (vs : List Value) (a : AV) (va : Value), (foldA max2 a as).ev C st = some u → RS st ν w D a va → RL st ν w D as vs →
  ∃ v, (vs.foldlM Builtin.max2 va).run P w = .ok v w ∧ RS st ν w D u v := by
 intro as
 induction as with
 | nil =>
  intro vs a va h ha hr
  have : vs = [] := by simpa using hr.1
  subst this
  simp only [foldA, Rd.ev_ret, Option.some.injEq] at h
  subst h
  exact ⟨va, by simp, ha⟩
 | cons b r ih =>
  intro vs a va h ha hr
  cases vs with
  | nil => have := hr.1; simp at this
  | cons vb vs =>
   simp only [foldA, Rd.ev_bind, Option.bind_eq_some_iff] at h
   obtain ⟨c, h1, h2⟩ := h
   unfold max2 at h1
   split at h1
   ·simp only [Rd.ev_bind, C1, Rd.ev_ret, Option.bind_eq_some_iff] at h1
    obtain ⟨_, h3, h4⟩ := h1
    cases h4
    obtain rfl := ha.val_inv
    obtain ⟨v', hv', hb⟩ := hr.2 0 _ rfl
    cases hv'
    obtain rfl := hb.val_inv
    obtain ⟨v, k1, k2⟩ := ih vs _ (.int _ (max _ _)) h2 (.data _ _ (.val _)) (by simpa using hr.drop 1)
    refine ⟨v, ?_, k2⟩
    simp only [List.foldlM_cons, Sem.run_bind, Builtin.max2, Sem.run_pure, Result.andThen_ok, d3m, k1]
   ·simp at h1
theorem c9s {a u : AV} {va : Value} : ∀ (as : List AV) (vs : List Value) (a : AV) (va : Value), (foldA min2 a as).ev C st = some u → RS st ν w D a va → RL st ν w D as vs →
  ∃ v, (vs.foldlM Builtin.min2 va).run P w = .ok v w ∧ RS st ν w D u v := by
 intro as
 induction as with
 | nil =>
  intro vs a va h ha hr
  have : vs = [] := by simpa using hr.1
  subst this
  simp only [foldA, Rd.ev_ret, Option.some.injEq] at h
  subst h
  exact ⟨va, by simp, ha⟩
 | cons b r ih =>
  intro vs a va h ha hr
  cases vs with
  | nil => have := hr.1; simp at this
  | cons vb vs =>
   simp only [foldA, Rd.ev_bind, Option.bind_eq_some_iff] at h
   obtain ⟨c, h1, h2⟩ := h
   unfold min2 at h1
   split at h1
   ·simp only [Rd.ev_bind, C1, Rd.ev_ret, Option.bind_eq_some_iff] at h1
    obtain ⟨_, h3, h4⟩ := h1
    cases h4
    obtain rfl := ha.val_inv
    obtain ⟨v', hv', hb⟩ := hr.2 0 _ rfl
    cases hv'
    obtain rfl := hb.val_inv
    obtain ⟨v, k1, k2⟩ := ih vs _ (.int _ (min _ _)) h2 (.data _ _ (.val _)) (by simpa using hr.drop 1)
    refine ⟨v, ?_, k2⟩
    simp only [List.foldlM_cons, Sem.run_bind, Builtin.min2, Sem.run_pure, Result.andThen_ok, d3a, k1]
   ·simp at h1
theorem b9m {a : AV} {v : Value} (h : RS st ν w D a v) (ho : L5 a = true) : RL st ν w D (leaves a) v.cells.toList := by
 cases a with
 | agg fs => obtain ⟨cs, rfl, hr⟩ := h.agg_list; exact hr
 | undef => simp [L5] at ho
 | tup _ => simp [L5] at ho
 | val u =>
  obtain rfl := h.val_inv
  simp only [L5] at ho
  have : v.cells.toList = [v] := by cases v <;> simp [Value.cells, b1z] at ho ⊢
  rw [this]
  exact RL.one h
 | nil => obtain ⟨a, rfl⟩ := h.nil_inv; exact RL.one h
 | list es => cases h.list_inv with | list _ a cap b o s c => exact RL.one h
 | own s es => cases h with | data _ _ h => cases h
 | ownp es i j => cases h with | data _ _ h => cases h
 | sl id g p off n => obtain ⟨⟨a, cap, rfl, _⟩, _⟩ := h.sl_inv; exact RL.one h
 | ptr id g p i j => obtain ⟨⟨a, cap, rfl⟩, _⟩ := h.ptr_inv; exact RL.one h
 | ipt e j => cases h.ipt_inv with | ipt _ _ b o c => exact RL.one h
 | clo f cs => obtain ⟨vs, rfl, _⟩ := h.clo_inv; exact RL.one h
 | obj g m s es => cases h with | data _ _ h => cases h
 | dead g => cases h with | data _ _ h => cases h
 | ifc => obtain ⟨t, x, rfl⟩ := h.ifc_inv; exact RL.one h
 | asl id g i j n => obtain ⟨⟨a, cap, rfl⟩, _⟩ := h.asl_inv; exact RL.one h
theorem c1r (c : Array Value) (k : Nat) (vs : List Value) (h : k + vs.length ≤ c.size) : (S2 c k vs).toList = c.toList.take k ++ vs ++ c.toList.drop (k + vs.length) := by
 apply List.ext_getElem?
 intro j
 rw [Array.getElem?_toList, a2c c k vs j h]
 have hl : (c.toList.take k).length = k := by simp; omega
 split
 ·rename_i hj
  rw [List.getElem?_append_left (by simp [hl]; omega), List.getElem?_append_right (by omega), hl]
 ·rename_i hj
  by_cases hjk : j < k
  ·rw [List.getElem?_append_left (by simp; omega), List.getElem?_append_left (by omega), List.getElem?_take, if_pos hjk]
   simp
  ·rw [List.getElem?_append_right (by simp; omega), List.getElem?_drop]
   rw [List.length_append, hl]
   rw [show k + vs.length + (j - (k + vs.length)) = j by omega]
   simp
theorem c2h (off : Nat) (vs : List Value) : ∀ (k : Nat) (c : Array Value),
  (vs.zipIdx k).foldl (fun (cs : Array Value) (x : Value × Nat) => cs.setIfInBounds (off + x.2) x.1) c = S2 c (off + k) vs := by
 induction vs with
 | nil => intro k c; rfl
 | cons v vs ih =>
  intro k c
  rw [List.zipIdx_cons, List.foldl_cons, ih]
  rfl
theorem a8m (off : Nat) (vs : Array Value) (c : Array Value) :
  (vs.zipIdx.foldl (fun (cs : Array Value) (x : Value × Nat) => cs.setIfInBounds (off + x.2) x.1) c) = S2 c off vs.toList := by
 rw [← Array.foldl_toList, Array.toList_zipIdx, c2h]
 rfl
theorem b2e (R : Rel Γ w0 A O0 ν0 N F D st ν tm w) {ds : List Deferred} {pl pl' : Nat → Option (Nat × Nat)} (hpl : ∀ i x, pl i = some x → pl' i = some x) :
  ∀ (parts : List (Nat × Operand)) (fs : List AV) (cs : Array Value) {gs : List AV}, (U3 pl fs parts).ev C st = some gs → RL st ν w D fs cs.toList →
   ∃ cs', Instr.fill pl' cs (parts.map fun x => (x.1, (Act.mk tm ds).eval x.2)) = some cs' ∧ RL st ν w D gs cs'.toList := by
 intro parts
 induction parts with
 | nil =>
  intro fs cs gs h hr
  simp only [U3, Rd.ev_ret, Option.some.injEq] at h
  subst h
  exact ⟨cs, rfl, hr⟩
 | cons p parts ih =>
  obtain ⟨i, x⟩ := p
  intro fs cs gs h hr
  simp only [U3, Rd.ev_bind, Option.bind_eq_some_iff] at h
  obtain ⟨a, h1, h2⟩ := h
  split at h2
  ·simp at h2
  ·rename_i off size hp
   simp only [Rd.ev_bind, C1, Option.bind_eq_some_iff] at h2
   obtain ⟨_, h3, h4⟩ := h2
   obtain ⟨k1, k2, k3⟩ := C4 h3
   have hv := b9m (D7 h1 R (ds := ds)) k1
   have hsz : ((Act.mk tm ds).eval x).cells.size = size := by have := hv.1; simp only [Array.length_toList] at this; omega
   have hcs : cs.size = fs.length := by have := hr.1; simpa using this
   obtain ⟨cs', e1, e2⟩ := ih _ (S2 cs off ((Act.mk tm ds).eval x).cells.toList) h4 (by
    rw [c1r _ _ _ (by simp; omega)]
    refine RL.append (RL.append (hr.take off) hv) ?_
    have : ((Act.mk tm ds).eval x).cells.toList.length = size := by simpa using hsz
    rw [this]
    exact hr.drop _)
   refine ⟨cs', ?_, e2⟩
   simp only [List.map_cons, Instr.fill, hpl _ _ hp]
   have hcond : ((((Act.mk tm ds).eval x).cells.size ≠ size || off + ((Act.mk tm ds).eval x).cells.size > cs.size) : Bool) = false := by
    simp [hsz]; omega
   simp only [ne_eq, decide_not] at hcond ⊢
   rw [hcond]
   simp only [Bool.false_eq_true, if_false]
   rw [a8m]
   exact e1
theorem b2u {T : Nat} {zs : List AV} (hz : (tyS P T).zero = .agg zs) : ∃ (i : TypeInfo) (cs : Array Value), P.info? T = some i ∧ i.zero = some (.agg cs) ∧ RL st ν w D zs cs.toList := by
 unfold tyS at hz
 cases hi : P.info? T with
 | none => simp [hi] at hz
 | some i =>
  simp only [hi] at hz
  split at hz
  ·rename_i v hv
   have h1 : RS st ν w D (.agg zs) v := by rw [← hz]; exact .data _ _ (RV.ofConst v)
   obtain ⟨cs, rfl, hr⟩ := h1.agg_list
   exact ⟨i, cs, rfl, hv, hr⟩
  ·cases hz
theorem c1x (R : Rel Γ w0 A O0 ν0 N F D st ν tm w) {ds : List Deferred} {T : Nat} {parts : Array (Nat × Operand)} {u : AV} (h : (b6z P T parts.toList).ev C st = some u) :
  ∃ v, (Instr.build T (parts.map fun x => (x.1, (Act.mk tm ds).eval x.2))).run P w = .ok v w ∧ RS st ν w D u v := by
 unfold b6z at h
 split at h
 ·rename_i fl zs hk hz
  simp only [Rd.ev_bind, C1, Rd.ev_ret, Option.bind_eq_some_iff] at h
  obtain ⟨_, h1, fs, h2, h3⟩ := h
  have h1 := C4 h1
  cases h3
  obtain ⟨fields, hu, rfl⟩ := a2j hk
  obtain ⟨i, cs, hi, hiz, hr⟩ := b2u (st := st) (ν := ν) (w := w) (D := D) hz
  have hpl : fields.toList.mapM (fun f => (P.info? f.type).map fun i => (f.offset, i.size)) = some (fields.toList.map fun f => (f.offset, (tyS P f.type).size)) := by
   simp only [List.all_map] at h1
   generalize fields.toList = l at h1
   induction l with
   | nil => rfl
   | cons f l ih =>
    simp only [List.all_cons, Bool.and_eq_true, Function.comp, Bool.not_eq_true'] at h1
    obtain ⟨i, d, hi, _, hsz, _⟩ := L7 h1.1
    rw [List.mapM_cons, ih h1.2]
    simp [hi, hsz]
  obtain ⟨cs', e1, e2⟩ := b2e R (ds := ds) (pl' := fun i => ((fields.toList.map fun f => (f.offset, (tyS P f.type).size)).toArray)[i]?) (by
   intro i x hx
   simpa using hx) parts.toList zs cs h2 hr
  refine ⟨.agg cs', ?_, RL.agg e2⟩
  simp only [Instr.build, Sem.run_bind, a1u hi hiz, Result.andThen_ok, F8 hu, Value.cells]
  have := run_places (P := P) w fields.toList _ hpl
  simp only [Array.mapM_eq_mapM_toList, Sem.run_bind, Sem.run_map, bind_pure_comp, this, Result.andThen_ok]
  simp only [Array.toList_map, e1, Sem.run_pure]
 ·rename_i n e zs hk hz
  simp only [Rd.ev_bind, C1, Rd.ev_ret, Option.bind_eq_some_iff] at h
  obtain ⟨_, h1, fs, h2, h3⟩ := h
  have h1 := C4 h1
  cases h3
  have hu := a4y hk
  obtain ⟨i, cs, hi, hiz, hr⟩ := b2u (st := st) (ν := ν) (w := w) (D := D) hz
  obtain ⟨ie, de, hie, _, hsz, _⟩ := L7 h1
  obtain ⟨cs', e1, e2⟩ := b2e R (ds := ds) (pl' := fun i => some (i * ie.size, ie.size)) (by
   intro i x hx
   rw [← hsz]; exact hx) parts.toList zs cs h2 hr
  refine ⟨.agg cs', ?_, RL.agg e2⟩
  simp only [Instr.build, Sem.run_bind, a1u hi hiz, Result.andThen_ok, F8 hu, Value.cells, I3 hie, Array.toList_map, e1, Sem.run_pure]
 ·simp at h
end
section
variable {P : Program} {C : Caller} {Γ : Env} {w0 : World} {A O0 : Nat → Prop} {ν0 : Nu} {N : Nat} {F : Fl} {D : Nat → Prop} {st : St} {ν : Nu} {tm : Array Value} {w : World}
theorem O1 {m : Nat} {p : Path} (h : bxB m p = false) : ¬ c2y m p := by
 rintro ⟨rfl, h1⟩
 rcases h1 with rfl | rfl <;> simp [bxB] at h
theorem RN.unbx {L : AV → Value → Prop} {φ : Path → Base} {base : Base} {bx : Prop} {s : Nat} {es : List AV} (h : RN w L φ base bx s es) (hb : ¬ bx) : RN w L φ base False s es := by
 cases base with
 | none => exact h
 | some q =>
  obtain ⟨c, ety, h1, h2, h3, h5, h4⟩ := h
  exact ⟨c, ety, h1, h2, fun _ => h3 hb, fun h => h.elim, h4⟩
def SlC (st : St) (ν : Nu) (w : World) (D : Nat → Prop) (es : List AV) (v : Value) : Prop :=
 ∃ a cap, v = .slice a es.length cap ∧ es.length ≤ cap ∧ (es ≠ [] → ∃ b o s, a = some ⟨b, o, none⟩ ∧ b < w.heap.size ∧ (∀ e ∈ es, (leaves e).length = s) ∧
  ∀ i j l, leafAt es i j = some l → ∃ v, w.cell? ⟨b, o + i * s + j, none⟩ = some v ∧ (isOwn l = false → RS st ν w D l v))
theorem S0.notOwn {L : AV → Value → Prop} {φ : Path → Base} {i j : Nat} {l : AV} {v : Value} (h : S0 w L φ i j l v) (ho : isOwn l = false) : L l v := by
 cases l <;> first | exact h | simp [isOwn] at ho
theorem c7u {φ : Path → Base} {base : Base} {s off n : Nat} {es : List AV} {v : Value} (hRN : RN w (RS st ν w D) φ base False s es) (hv : SlV w base s off n v)
  (hle : off + n ≤ es.length) : SlC st ν w D ((es.drop off).take n) v := by
 obtain ⟨a, cap, rfl, h1, h2⟩ := hv
 have hlen : ((es.drop off).take n).length = n := by simp; omega
 refine ⟨a, cap, by rw [hlen], by omega, fun hne => ?_⟩
 have hn : 0 < n := by rw [← hlen]; exact List.length_pos_iff.2 hne
 rcases h2 with h2 | ⟨b, o, hbo, ha, hsz⟩
 ·omega
 ·subst hbo
  have hsub : ∀ i j l, leafAt ((es.drop off).take n) i j = some l → leafAt es (off + i) j = some l := by
   intro i j l hl
   have := J1 hl
   unfold leafAt at this ⊢
   rwa [List.getElem?_drop] at this
  refine ⟨b, o + off * s, s, ha, hRN.lt rfl, ?_, fun i j l hl => ?_⟩
  ·obtain ⟨c, ety, k1, k2, k3, _, k4⟩ := hRN
   exact fun e he => k3 (fun h => h) e (List.mem_of_mem_drop (List.mem_of_mem_take he))
  ·obtain ⟨v, hv, hr⟩ := hRN.cell (hsub i j l hl)
   exact ⟨v, by rw [show o + off * s + i * s + j = o + (off + i) * s + j from by rw [Nat.add_mul]; omega]; exact hv, hr.notOwn⟩
theorem b5u (R : Rel Γ w0 A O0 ν0 N F D st ν tm w) {a : AV} {es : List AV} {va : Value} (h : (slc a).ev C st = some es) (ha : RS st ν w D a va) : SlC st ν w D es va := by
 unfold slc at h
 split at h
 ·simp only [Rd.ev_ret, Option.some.injEq] at h
  subst h
  cases ha.list_inv with
  | list _ a cap b o s c hcap hal hls hc hl =>
   refine ⟨a, cap, rfl, hcap, fun hne => ?_⟩
   obtain ⟨rfl, h1, h2⟩ := hal hne
   exact ⟨b, o, s, rfl, h2, hls, fun i j l hx => ⟨c i j, hc i j l hx, fun _ => .data _ _ (hl i j l hx)⟩⟩
 ·simp only [Rd.ev_ret, Option.some.injEq] at h
  subst h
  obtain ⟨a, rfl⟩ := ha.nil_inv
  exact ⟨a, 0, rfl, Nat.le_refl _, fun h => (h rfl).elim⟩
 ·rename_i id g p off n
  simp only [Rd.ev_bind, Option.bind_eq_some_iff] at h
  obtain ⟨⟨m, s, es'⟩, h1, h2⟩ := h
  rw [G3] at h1
  simp only [Rd.ev_bind, C1, Rd.ev_ret, Option.bind_eq_some_iff] at h2
  obtain ⟨_, h3, h4⟩ := h2
  obtain ⟨h5, h6⟩ := C4 h3
  cases h4
  obtain ⟨_, _, _, hx⟩ := ha.sl_inv
  exact c7u ((R.node h1).1.unbx (O1 h5)) (hx _ _ _ h1) h6
 ·simp at h
theorem SlC.len {es : List AV} {v : Value} (h : SlC st ν w D es v) : ∃ a cap, v = .slice a es.length cap := by
 obtain ⟨a, cap, h, _⟩ := h
 exact ⟨a, cap, h⟩
theorem a1o {s : Nat} : ∀ (es : List AV), (∀ e ∈ es, (leaves e).length = s) → ∀ k, (es.flatMap leaves)[k]? = leafAt es (k / s) (k % s) := by
 intro es
 induction es with
 | nil => intro _ k; simp [leafAt]
 | cons e es ih =>
  intro h k
  have he := h e (List.mem_cons_self ..)
  have hr := ih fun x hx => h x (List.mem_cons_of_mem _ hx)
  rw [List.flatMap_cons]
  by_cases hk : k < s
  ·rw [List.getElem?_append_left (by omega), Nat.div_eq_of_lt hk, Nat.mod_eq_of_lt hk]
   simp [leafAt]
  ·rw [List.getElem?_append_right (by omega), he, hr]
   by_cases hs : s = 0
   ·subst hs
    simp only [Nat.div_zero, Nat.mod_zero, Nat.sub_zero]
    unfold leafAt
    cases es with
    | nil =>
     simp
     have : leaves e = [] := List.length_eq_zero_iff.1 he
     simp [this]
    | cons e2 es =>
     have h2 : (leaves e2).length = 0 := h e2 (by simp)
     have : leaves e = [] := List.length_eq_zero_iff.1 he
     have h2' : leaves e2 = [] := List.length_eq_zero_iff.1 h2
     simp [this, h2']
   ·have h1 : (k - s) / s + 1 = k / s := by
     have := Nat.div_eq_sub_div (Nat.pos_of_ne_zero hs) (by omega : s ≤ k)
     omega
    have h2 : (k - s) % s = k % s := (Nat.mod_eq_sub_mod (by omega)).symm
    rw [h2, ← h1]
    simp [leafAt]
theorem X7 {s : Nat} : ∀ (es : List AV), (∀ e ∈ es, (leaves e).length = s) → (es.flatMap leaves).length = es.length * s := by
 intro es
 induction es with
 | nil => intro _; simp
 | cons e es ih =>
  intro h
  rw [List.flatMap_cons, List.length_append, ih fun x hx => h x (List.mem_cons_of_mem _ hx), h e (List.mem_cons_self ..), List.length_cons, Nat.add_mul]
  omega
theorem SlC.load {es : List AV} {v : Value} (h : SlC st ν w D es v) {s : Nat} (hs : ∀ e ∈ es, (leaves e).length = s) (n : Nat) (hn : n ≤ es.length) :
  ∃ (a : Option Addr) (cap : Nat) (vs : List Value), v = .slice a es.length cap ∧ vs.length = n * s ∧
   (∀ k l, k < n * s → (es.flatMap leaves)[k]? = some l → ∃ x, vs[k]? = some x ∧ (isOwn l = false → RS st ν w D l x)) ∧
   ((a = none ∧ n = 0) ∨ ∃ a', a = some a' ∧ (loadCells a' (n * s)).run P w = .ok vs.toArray w) := by
 obtain ⟨a, cap, rfl, hc, hx⟩ := h
 by_cases hes : es = []
 ·subst hes
  simp only [List.length_nil, Nat.le_zero] at hn
  subst hn
  refine ⟨a, cap, [], rfl, by simp, fun k l hk => by omega, ?_⟩
  cases a with
  | none => exact .inl ⟨rfl, rfl⟩
  | some a => exact .inr ⟨a, rfl, by simp [loadCells, loadCellsFrom]⟩
 ·obtain ⟨b, o, s', rfl, hb, hs', hl⟩ := hx hes
  obtain ⟨e, he⟩ := List.exists_mem_of_ne_nil es hes
  obtain rfl : s' = s := by rw [← hs' e he, hs e he]
  have hcell : ∀ k, k < n * s' → ∃ x l, w.cell? ⟨b, o + k, none⟩ = some x ∧ (es.flatMap leaves)[k]? = some l ∧ (isOwn l = false → RS st ν w D l x) := by
   intro k hk
   have hk2 : k < (es.flatMap leaves).length := by
    rw [X7 es hs]
    exact Nat.lt_of_lt_of_le hk (Nat.mul_le_mul_right _ hn)
   have h1 := a1o es hs k
   rw [List.getElem?_eq_getElem hk2] at h1
   obtain ⟨x, hx1, hx2⟩ := hl _ _ _ h1.symm
   refine ⟨x, _, ?_, List.getElem?_eq_getElem hk2, hx2⟩
   rw [← hx1]
   congr 2
   have := Nat.div_add_mod k s'
   rw [Nat.mul_comm] at this
   omega
  refine ⟨_, cap, (List.range (n * s')).map fun k => (w.cell? ⟨b, o + k, none⟩).getD Go.undef, rfl, by simp, fun k l hk hkl => ?_, .inr ⟨_, rfl, ?_⟩⟩
  ·obtain ⟨x, l', h1, h2, h3⟩ := hcell k hk
   rw [hkl] at h2
   cases h2
   exact ⟨x, by simp [List.getElem?_range hk, h1], h3⟩
  ·exact a8p w b o (n * s') _ fun j hj => by
    obtain ⟨x, l', h1, _⟩ := hcell j hj
    rw [h1]; rfl
theorem c9c (l : List UInt8) (acc : ByteArray) : (l.foldl ByteArray.push acc).data.toList = acc.data.toList ++ l := by
 induction l generalizing acc with
 | nil => simp
 | cons b l ih => rw [List.foldl_cons, ih]; simp [ByteArray.push]
theorem c6q (a b : ByteArray) (h : a.data.toList = b.data.toList) : a = b := by
 obtain ⟨⟨x⟩⟩ := a
 obtain ⟨⟨y⟩⟩ := b
 simp at h
 subst h
 rfl
theorem b8d {es : List AV} {l : List UInt8} (h : O2 es = some l) : (∀ e ∈ es, (leaves e).length = 1) ∧ (es.flatMap leaves) = es ∧ (∀ e ∈ es, isOwn e = false) := by
 induction es generalizing l with
 | nil => simp
 | cons e es ih =>
  unfold O2 at h
  split at h
  ·rename_i h'; cases h'
  ·rename_i n r h'
   cases h'
   split at h
   ·cases hr : O2 es with
    | none => simp [hr] at h
    | some l' =>
     obtain ⟨h1, h2, h3⟩ := ih hr
     refine ⟨?_, by simp [leaves, h2], ?_⟩
     ·intro e he
      cases he with
      | head => rfl
      | tail _ he => exact h1 e he
     ·intro e he
      cases he with
      | head => rfl
      | tail _ he => exact h3 e he
   ·cases h
  ·cases h
theorem c7c (P : Program) (f : Value → ByteArray → Sem (ForInStep ByteArray)) (hf : ∀ n s, f (.int .u8 n) s = pure (ForInStep.yield (s.push (UInt8.ofNat n.toNat)))) : ∀ (es : List AV) (vs : List Value) (l : List UInt8) (acc : ByteArray), O2 es = some l → RL st ν w D es vs →
  (forIn vs acc f : Sem ByteArray).run P w = .ok (l.foldl ByteArray.push acc) w := by
 intro es
 induction es with
 | nil =>
  intro vs l acc h hr
  have : vs = [] := by simpa using hr.1
  subst this
  simp only [O2, Option.some.injEq] at h
  subst h
  simp
 | cons e es ih =>
  intro vs l acc h hr
  cases vs with
  | nil => have := hr.1; simp at this
  | cons v vs =>
   unfold O2 at h
   split at h
   ·rename_i h'; cases h'
   ·rename_i n r h'
    cases h'
    split at h
    ·cases hl : O2 es with
     | none => simp [hl] at h
     | some l' =>
      simp only [hl, Option.map_some, Option.some.injEq] at h
      subst h
      obtain ⟨v', hv', hrv⟩ := hr.2 0 _ rfl
      cases hv'
      obtain rfl := hrv.val_inv
      simp only [List.forIn_cons, Sem.run_bind, hf, Sem.run_pure, Result.andThen_ok]
      exact ih vs l' _ hl (by simpa using hr.drop 1)
    ·cases h
   ·cases h
theorem c0c (R : Rel Γ w0 A O0 ν0 N F D st ν tm w) {S T : Nat} {a u : AV} {va : Value} (h : (b7l P S T a).ev C st = some u) (ha : RS st ν w D a va) :
  ∃ v, (convert S T va).run P w = .ok v w ∧ RS st ν w D u v := by
 unfold b7l at h
 split at h
 ·rename_i e hs ht
  split at h
  ·rename_i he
   simp only [Rd.ev_bind, Option.bind_eq_some_iff] at h
   obtain ⟨es, h1, h2⟩ := h
   split at h2
   ·rename_i l hl
    simp only [Rd.ev_ret, Option.some.injEq] at h2
    subst h2
    obtain ⟨q1, q2, q3⟩ := b8d hl
    obtain ⟨ad, cap, vs, rfl, k1, k2, k3⟩ := (b5u R h1 ha).load (P := P) q1 es.length (Nat.le_refl _)
    rw [q2] at k2
    have hRL : RL st ν w D es vs := ⟨by omega, fun i l hil => by
     have hi : i < es.length := (List.getElem?_eq_some_iff.1 hil).1
     obtain ⟨x, hx1, hx2⟩ := k2 i l (by omega) hil
     exact ⟨x, hx1, hx2 (q3 l (List.mem_of_getElem? hil))⟩⟩
    refine ⟨.string ⟨l.toArray⟩, ?_, .data _ _ (.val _)⟩
    have hgoal : (Conv.bytesToString (.slice ad es.length cap)).run P w = .ok (.string ⟨l.toArray⟩) w := by
     unfold Conv.bytesToString
     rcases k3 with ⟨rfl, hn⟩ | ⟨a', rfl, hload⟩
     ·have : es = [] := List.length_eq_zero_iff.1 hn
      subst this
      simp only [O2, Option.some.injEq] at hl
      subst hl
      rfl
     ·rw [Nat.mul_one] at hload
      have hbe : (l.foldl ByteArray.push ByteArray.empty) = ⟨l.toArray⟩ := c6q _ _ (by rw [c9c]; rfl)
      simp only [Sem.run_bind, hload, Result.andThen_ok]
      rw [← Array.forIn_toList]
      rw [c7c P _ (fun _ _ => rfl) es vs l ByteArray.empty hl hRL, hbe]
      rfl
    simp only [convert, Sem.run_bind, F8 (K3 hs), F8 (Q8 ht), Result.andThen_ok, F8 (b1b he)]
    cases ad <;> exact hgoal
   ·simp at h2
  ·simp at h
 ·simp at h
end
section
variable {P : Program} {C : Caller} {Γ : Env} {w0 : World} {A O0 : Nat → Prop} {ν0 : Nu} {N : Nat} {F : Fl} {D : Nat → Prop} {st : St} {ν : Nu} {tm : Array Value} {w : World}
theorem RV.list_nil (a : Option Addr) : RV w D (.list []) (.slice a 0 0) :=
 .list [] a 0 0 0 0 (fun _ _ => Go.undef) (by simp) (fun hne => (hne rfl).elim) (fun e he => by cases he) (fun i j l hl => by simp [leafAt] at hl) (fun i j l hl => by simp [leafAt] at hl)
theorem V6 {es : List AV} (h : M3 es = true) : Z0 es := fun _ _ _ hl => I6 h hl
theorem Q5 (es : List AV) : (frzL es).length = es.length := by rw [M2]; simp
theorem a2r {es : List AV} (h : Z0 es) : M3 es = true := b8g h
theorem c2w {m : Nat} {p : Path} (h : m ≠ 3 ∧ m ≠ 4) : ¬ c2y m p := by
 rintro ⟨_, rfl | rfl⟩
 ·exact h.1 rfl
 ·exact h.2 rfl
theorem R4 (hOA : ∀ b, O0 b → A b) {κ : FK} (hκ : F κ = none) (R : Rel Γ w0 A O0 ν0 N F D st ν tm w) {a : AV} {es : List AV} {st' : St} {v : Value} (h : (freeze a).go C st = some (es, st')) (ha : RS st ν w D a v) :
  ∃ D' : Nat → Prop, (∀ b, D b → D' b) ∧ Rel Γ w0 A O0 ν0 N F D' st' ν tm w ∧ Ext st ν w st' ν w ∧ RV w D' (.list es) v := by
 unfold freeze at h
 split at h
 ·simp only [RW.go_pure, Option.some.injEq, Prod.mk.injEq] at h
  obtain ⟨rfl, rfl⟩ := h
  exact ⟨D, fun _ h => h, R, Ext.refl _ _ _, ha.list_inv⟩
 ·simp only [RW.go_pure, Option.some.injEq, Prod.mk.injEq] at h
  obtain ⟨rfl, rfl⟩ := h
  obtain ⟨a, rfl⟩ := ha.nil_inv
  exact ⟨D, fun _ h => h, R, Ext.refl _ _ _, RV.list_nil a⟩
 ·rename_i id g p off n
  simp only [RW.go_bind, RW.go_up, Option.bind_eq_some_iff, Option.map_eq_some_iff] at h
  obtain ⟨_, ⟨⟨m, s, es0⟩, h1, rfl⟩, h⟩ := h
  rw [G3] at h1
  obtain ⟨_, ⟨_, h2, rfl⟩, h⟩ := h
  simp only [C1] at h2
  obtain ⟨hbx, hle⟩ := C4 h2
  obtain ⟨_, _, _, hsl⟩ := ha.sl_inv
  have hsl := hsl _ _ _ h1
  simp only at h
  split at h
  ·rename_i hm
   subst hm
   simp only [RW.go_pure, Option.some.injEq, Prod.mk.injEq] at h
   obtain ⟨rfl, rfl⟩ := h
   obtain ⟨s0, es1, hst, hp⟩ := J9 h1
   obtain ⟨hfD, hfi⟩ := R.frozen id g s0 es1 hst
   rcases hp with ⟨rfl, rfl, rfl⟩ | ⟨i, j, rfl, hl⟩
   ·exact ⟨D, fun _ h => h, R, Ext.refl _ _ _, Q4 ((R.node h1).1.unbx (O1 hbx)) (V6 hfi) hfD hsl hle⟩
   ·have := I6 hfi hl
    simp [immLeaf] at this
  ·simp only [RW.go_bind, RW.go_up, Option.bind_eq_some_iff, Option.map_eq_some_iff, C1] at h
   obtain ⟨_, ⟨_, h3, rfl⟩, h⟩ := h
   obtain ⟨rfl, hnr⟩ := C4 h3
   cases p with
   | none =>
    simp only [RW.go_bind, RW.go_wr, RW.go_pure, Option.bind_some, Option.some.injEq, Prod.mk.injEq] at h
    obtain ⟨rfl, rfl⟩ := h
    obtain ⟨s0, es1, hst, hp⟩ := J9 h1
    rcases hp with ⟨_, rfl, rfl⟩ | ⟨i, j, hq, _⟩
    ·obtain ⟨D', hD, R', E⟩ := R.freezeTop hst hnr (fun b hb => (R.tO b hb).imp (hOA b) fun h => h)
     refine ⟨D', hD, R', E, ?_⟩
     have hst' : (st.upd (.h id) (.obj g 2 s0 (frzL es1))) (.h id) = .obj g 2 s0 (frzL es1) := St.upd_eq _ _ _
     obtain ⟨hfD, hfi⟩ := R'.frozen id g s0 _ hst'
     have hRN := (R'.objs id g 2 s0 _ hst').top.unbx (by decide)
     exact Q4 hRN (V6 hfi) hfD hsl (by rw [Q5]; exact hle)
    ·cases hq
   | some q =>
    obtain ⟨i, j⟩ := q
    simp only [RW.go_bind, RW.go_up, S1, Option.map_some, Option.bind_some] at h
    obtain ⟨s0, ps, hst, hp⟩ := J9 h1
    rcases hp with ⟨hq, _⟩ | ⟨i', j', hq, hl⟩
    ·cases hq
    ·cases hq
     rw [hst] at h
     simp only at h
     split at h
     ·rename_i e he
      simp only [RW.go_bind, RW.go_wr, RW.go_pure, Option.bind_some, Option.some.injEq, Prod.mk.injEq] at h
      obtain ⟨rfl, rfl⟩ := h
      obtain ⟨hRN, hno⟩ := R.node h1
      have hno := hno (by simp)
      have himm := a2r hno
      have hfr := U2 himm
      rw [hfr]
      obtain ⟨R', E⟩ := R.outSub hst (by decide) hl (S5 (bx := (0 = 3 ∨ 0 = 4)) (s := s0) he hl (l := .list es0) (by intro gs hh; cases hh)) (F' := F) (D' := fun b => D b ∨ ∃ o, ν id (some (i, j)) = some (b, o)) κ hκ
       (.inr ⟨rfl, rfl, rfl⟩) hOA
      refine ⟨_, fun b hb => .inl hb, R', E, ?_⟩
      refine Q4 (st := st) (ν := ν) ((hRN.unbx (O1 hbx)).mono rfl (fun _ _ _ => rfl) (fun a v h => h.same (Ext.refl _ _ _) (fun b hb => .inl hb)) (fun i j s' es' hl' => ⟨rfl, fun _ _ _ => rfl⟩)) hno (fun b o hb => .inr ⟨o, hb⟩) hsl hle
     ·simp at h
 ·simp at h
theorem b6e {v : Value} (h : b1z v = true) : v.oneCell' = true := by
 cases v <;> simp [b1z, Value.oneCell'] at h ⊢
theorem RO.cut {L : AV → Value → Prop} {φ : Path → Base} {bx : Prop} {s : Nat} {es : List AV} (h : RO w L φ bx s es) (n : Nat) : RO w L φ bx s (es.take n) := by
 refine ⟨?_, fun i j s' es' hl => h.sub i j s' es' (J1 hl)⟩
 have ht := h.top
 unfold RN at ht ⊢
 split
 ·rename_i hb
  rw [hb] at ht
  simp [ht]
 ·rename_i b o hb
  rw [hb] at ht
  obtain ⟨c, ety, h1, h2, h3, h5, h4⟩ := ht
  refine ⟨c, ety, h1, ?_, fun hb e he => h3 hb e (List.mem_of_mem_take he), fun hb => ?_, fun i j l hl => h4 i j l (J1 hl)⟩
  ·refine Nat.le_trans (Nat.add_le_add_left (Nat.mul_le_mul_right _ ?_) _) h2
   rw [List.length_take]; omega
  ·have := h5 hb
   rw [List.length_take]; omega
theorem a5n {es : List AV} {n : Nat} {p : Path} (h : livePath (es.take n) p) : livePath es p := by
 intro q hq
 obtain ⟨s, es', hl⟩ := h q hq
 exact ⟨s, es', J1 hl⟩
theorem Rel.cut (R : Rel Γ w0 A O0 ν0 N F D st ν tm w) {κ : FK} {f : Flo} (hκ : F κ = some f) (n : Nat) :
  Rel Γ w0 A O0 ν0 N (F.set κ (some ⟨f.φ, f.s, f.es.take n⟩)) D st ν tm w := by
 refine R.refloat hκ _ (fun _ h => h) (fun f1 h1 => ?_) (fun b hb hd => (hd hb).elim)
 cases h1
 exact ⟨(R.flos κ f hκ).cut n, fun p b o hp hb => ⟨a5n hp, o, hb⟩⟩
theorem Rel.frzFlo (R : Rel Γ w0 A O0 ν0 N F D st ν tm w) (hOA : ∀ b, O0 b → A b) {κ : FK} {f : Flo} (hκ : F κ = some f) (hr : D6 f.es = true) :
  ∃ D' : Nat → Prop, (∀ b, D b → D' b) ∧ Rel Γ w0 A O0 ν0 N (F.set κ (some ⟨f.φ, f.s, frzL f.es⟩)) D' st ν tm w := by
 have hD : ∀ b, D b → D b ∨ ∃ i j s' es' o, leafAt f.es i j = some (.own s' es') ∧ f.φ (some (i, j)) = some (b, o) := fun b hb => .inl hb
 have hL : ∀ a v, RS st ν w D a v → RS st ν w (fun b => D b ∨ ∃ i j s' es' o, leafAt f.es i j = some (.own s' es') ∧ f.φ (some (i, j)) = some (b, o)) a v :=
  fun a v h => h.same (Ext.refl _ _ _) hD
 have hno : ∀ i j s' es', leafAt (frzL f.es) i j ≠ some (.own s' es') := by
  intro i j s' es' hl
  have := I6 (a1r hr) hl
  simp [immLeaf] at this
 have hRO := R.flos κ f hκ
 refine ⟨_, hD, R.refloat hκ _ hD (fun f1 h1 => ?_) (fun b hb hd => ?_)⟩
 ·cases h1
  refine ⟨⟨?_, fun i j s' es' hl => (hno i j s' es' hl).elim⟩, fun p b o hp hb => ⟨?_, o, hb⟩⟩
  ·have ht := hRO.top
   unfold RN at ht ⊢
   simp only
   split
   ·rename_i hb
    rw [hb] at ht
    simp only at ht
    rw [ht]; rfl
   ·rename_i b o hb
    rw [hb] at ht
    obtain ⟨c, ety, h1, h2, h3, h5, h4⟩ := ht
    refine ⟨c, ety, h1, by rw [Q5]; exact h2, fun hbb e he => ?_, fun hb => hb.elim, fun i j l hl => ?_⟩
    ·rw [M2] at he
     obtain ⟨e0, he0, rfl⟩ := List.mem_map.1 he
     rw [W6, List.length_map]
     exact h3 hbb e0 he0
    ·rw [M0] at hl
     cases hl0 : leafAt f.es i j with
     | none => simp [hl0] at hl
     | some l0 =>
      simp only [hl0, Option.map_some, Option.some.injEq] at hl
      subst hl
      obtain ⟨v, hv, hr'⟩ := h4 i j l0 hl0
      refine ⟨v, hv, ?_⟩
      rcases N2 hr hl0 with ho | hi
      ·cases l0 <;> simp [isOwn] at ho
       rename_i s2 es2
       obtain ⟨q1, q2⟩ := hRO.sub i j s2 es2 hl0
       have hfr : frzL es2 = es2 := U2 (a2r q2)
       simp only [frz, hfr]
       have := Q4 (st := st) (ν := ν) (D := fun b => D b ∨ ∃ i j s' es' o, leafAt f.es i j = some (.own s' es') ∧ f.φ (some (i, j)) = some (b, o))
        (q1.mono rfl (fun _ _ _ => rfl) hL (fun _ _ _ _ _ => ⟨rfl, fun _ _ _ => rfl⟩)) q2 (fun b o hb => .inr ⟨i, j, s2, es2, o, hl0, hb⟩) (off := 0) (n := es2.length) hr' (by omega)
       simp only [List.drop_zero, List.take_length] at this
       exact .data _ _ this
      ·rw [V5 hi]
       refine S0.mono hr' hL (fun s' es' e => ?_) (fun s' es' b o e => ?_) <;> (subst e; simp [immLeaf] at hi)
  ·cases p with
   | none => exact fun q hq => by cases hq
   | some q =>
    obtain ⟨s', es', hl⟩ := hp q rfl
    exact (hno _ _ _ _ hl).elim
 ·rcases hb with hb | ⟨i, j, s', es', o, hl, hb⟩
  ·exact (hd hb).elim
  ·have hlv : live st F (.fl κ (some (i, j))) := ⟨f, hκ, fun q hq => by cases hq; exact ⟨s', es', hl⟩⟩
   have hba : baseOf ν F (.fl κ (some (i, j))) = some (b, o) := by simp only [baseOf, hκ]; exact hb
   refine ⟨?_, ?_, ⟨R.live_lt hlv hba, fun _ => R.live_cells hlv hba⟩⟩
   ·rintro ⟨k, o', hk, hb'⟩
    cases k with
    | nd id p =>
     have := R.inj (.nd id p) _ b o' o hk hlv hb' hba
     cases this
    | fl k p =>
     obtain ⟨f1, h1, h3⟩ := hk
     by_cases e : k = κ
     ·subst e
      rw [Fl.set_eq] at h1
      cases h1
      simp only [baseOf, Fl.set_eq] at hb'
      cases p with
      | none =>
       have := R.inj (.fl k none) _ b o' o ⟨f, hκ, fun q hq => by cases hq⟩ hlv (by simp only [baseOf, hκ]; exact hb') hba
       cases this
      | some q =>
       obtain ⟨s2, es2, hl2⟩ := h3 q rfl
       exact (hno _ _ _ _ hl2).elim
     ·rw [Fl.set_ne _ _ e] at h1
      simp only [baseOf, Fl.set_ne _ _ e] at hb'
      have := R.inj (.fl k p) _ b o' o ⟨f1, h1, h3⟩ hlv hb' hba
      cases this
      exact e rfl
   ·rcases R.tO b ⟨_, o, hlv, hba⟩ with h | h
    ·exact .inl (hOA b h)
    ·exact .inr h
theorem Fl.set_set (F : Fl) (κ : FK) (a b : Option Flo) : (F.set κ a).set κ b = F.set κ b := by
 funext k; by_cases h : k = κ <;> simp [Fl.set, h]
theorem Fl.set_none (F : Fl) {κ : FK} (h : F κ = none) : F.set κ none = F := by
 funext k; by_cases e : k = κ
 ·subst e; simp [Fl.set, h]
 ·simp [Fl.set, e]
theorem Rel.takeObj (R : Rel Γ w0 A O0 ν0 N F D st ν tm w) {id g s : Nat} {es : List AV} (h : st (.h id) = .obj g 0 s es) {κ : FK} (hκ : F κ = none) (n : Nat) :
  Rel Γ w0 A O0 ν0 N (F.set κ (some ⟨ν id, s, es.take n⟩)) D (st.upd (.h id) (.dead g)) ν tm w ∧ Ext st ν w (st.upd (.h id) (.dead g)) ν w := by
 have R1 := R.detach h hκ
 have R2 := R1.cut (κ := κ) (f := ⟨ν id, s, es⟩) (Fl.set_eq _ _ _) n
 rw [Fl.set_set] at R2
 exact ⟨R2, R.extUpd (by rw [h]; exact Nat.le_refl _) (by intro _ _ _ _ e; cases e) (fun _ _ => rfl) (fun _ _ => rfl)⟩
theorem Ext.trans {st st1 st2 : St} {ν ν1 ν2 : Nu} {w w1 w2 : World} (E : Ext st ν w st1 ν1 w1) (E' : Ext st1 ν1 w1 st2 ν2 w2) : Ext st ν w st2 ν2 w2 := by
 refine ⟨fun id => Nat.le_trans (E.stamps id) (E'.stamps id), fun id g m' s' es' hg h => ?_⟩
 obtain ⟨m1, es1, h1, h2, h3, h4⟩ := E'.objs id g m' s' es' (Nat.le_trans hg (E.stamps id)) h
 obtain ⟨m0, es0, k1, k2, k3, k4⟩ := E.objs id g m1 s' es1 hg h1
 refine ⟨m0, es0, k1, h2.trans k2, fun b o hb => (h3 b o (k2 ▸ hb)).trans (k3 b o hb), fun i j => ⟨fun hn => (k4 i j).1 ((h4 i j).1 hn), fun s2 es2' ho => ?_⟩⟩
 rcases (h4 i j).2 s2 es2' ho with hn | ⟨es2, a1, a2, a3⟩
 ·exact .inl ((k4 i j).1 hn)
 ·rcases (k4 i j).2 s2 es2 a1 with hn | ⟨es3, b1, b2, b3⟩
  ·exact .inl hn
  ·exact .inr ⟨es3, b1, a2.trans b2, fun b o hb => (a3 b o (b2 ▸ hb)).trans (b3 b o hb)⟩
theorem Q3 {es : List AV} (h : D6 es = true) (n : Nat) : D6 (es.take n) = true := by
 unfold D6 at h ⊢
 rw [List.all_eq_true] at h ⊢
 exact fun e he => h e (List.mem_of_mem_take he)
def LeafOk (F : Fl) (m : Nat) (cur : AV) (κ : FK) (st' : St) (ν' : Nu) (w : World) (F' : Fl) (D' : Nat → Prop) (v' : AV) (x : Value) : Prop :=
 x.oneCell' = true ∧ (I0 v' = true → I0 cur = true) ∧ (∀ gs, v' ≠ .agg gs) ∧
 ((isOwn v' = false ∧ F' = F ∧ RS st' ν' w D' v' x) ∨
  (∃ s es φ, v' = .own s es ∧ I0 cur = true ∧ m = 0 ∧ F' = F.set κ (some ⟨φ, s, es⟩) ∧ Z0 es ∧ SlV w (φ none) s 0 es.length x))
theorem a1n (hOA : ∀ b, O0 b → A b) {κ : FK} (hκ : F κ = none) (R : Rel Γ w0 A O0 ν0 N F D st ν tm w) {m f : Nat} {cur v v' : AV} {st' : St} {x : Value}
  (h : (H0 m cur f v).go C st = some (v', st')) (hx : RS st ν w D v x) :
  ∃ F' D' ν', Rel Γ w0 A O0 ν0 N F' D' st' ν' tm w ∧ Ext st ν w st' ν' w ∧ (∀ b, D b → D' b) ∧ LeafOk F m cur κ st' ν' w F' D' v' x := by
 have frz : ∀ id g p off n es, v = .sl id g p off n → (freeze v).go C st = some (es, st') → v' = .list es →
   ∃ F' D' ν', Rel Γ w0 A O0 ν0 N F' D' st' ν' tm w ∧ Ext st ν w st' ν' w ∧ (∀ b, D b → D' b) ∧ LeafOk F m cur κ st' ν' w F' D' v' x := by
  intro id g p off n es hv hf hv'
  subst hv hv'
  obtain ⟨D', hD, R', E, hr⟩ := R4 hOA hκ R hf hx
  obtain ⟨⟨a, cap, rfl, _⟩, _⟩ := hx.sl_inv
  exact ⟨F, D', ν, R', E, hD, rfl, by simp [I0], (by intro gs hh; cases hh), .inl ⟨rfl, rfl, .data _ _ hr⟩⟩
 have same : ∀ u, v' = u → st' = st → x.oneCell' = true → (I0 u = true → I0 cur = true) → (∀ gs, u ≠ .agg gs) → isOwn u = false → RS st ν w D u x →
   ∃ F' D' ν', Rel Γ w0 A O0 ν0 N F' D' st' ν' tm w ∧ Ext st ν w st' ν' w ∧ (∀ b, D b → D' b) ∧ LeafOk F m cur κ st' ν' w F' D' v' x := by
  rintro u rfl rfl h1 h2 h3 h4 h5
  exact ⟨F, D, ν, R, Ext.refl _ _ _, fun _ h => h, h1, h2, h3, .inl ⟨h4, rfl, h5⟩⟩
 unfold H0 at h
 split at h
 ·simp only [RW.go_bind, RW.go_up, RW.go_pure, C1, Option.bind_eq_some_iff, Option.map_eq_some_iff] at h
  obtain ⟨_, ⟨_, h1, rfl⟩, h2⟩ := h
  have h1 := C4 h1
  cases h2
  obtain rfl := hx.val_inv
  exact same _ rfl rfl (b6e h1) (by simp [I0]) (by intro gs hh; cases hh) rfl hx
 ·simp only [RW.go_bind, RW.go_up, RW.go_pure, C1, Option.bind_eq_some_iff, Option.map_eq_some_iff] at h
  obtain ⟨_, ⟨_, h1, rfl⟩, h2⟩ := h
  have h1 := C4 h1
  cases h2
  obtain ⟨cs, rfl, _⟩ := hx.clo_inv
  exact same _ rfl rfl rfl (by simp [I0]) (by intro gs hh; cases hh) rfl hx
 ·simp only [RW.go_pure, Option.some.injEq, Prod.mk.injEq] at h
  obtain ⟨rfl, rfl⟩ := h
  refine same _ rfl rfl ?_ (by simp [I0]) (by intro gs hh; cases hh) rfl hx
  cases hx.list_inv; rfl
 ·simp only [RW.go_bind, RW.go_up, RW.go_pure, C1, Option.bind_eq_some_iff, Option.map_eq_some_iff] at h
  obtain ⟨_, ⟨_, h1, rfl⟩, h2⟩ := h
  cases h2
  obtain ⟨⟨b, q, rfl⟩, _⟩ := hx.ptr_inv
  exact same _ rfl rfl rfl (by simp [I0]) (by intro gs hh; cases hh) rfl hx
 ·obtain ⟨a, rfl⟩ := hx.nil_inv
  split at h
  ·split at h
   ·simp only [RW.go_pure, Option.some.injEq, Prod.mk.injEq] at h
    obtain ⟨rfl, rfl⟩ := h
    exact same _ rfl rfl rfl (by simp [I0]) (by intro gs hh; cases hh) rfl (.data _ _ (RV.list_nil a))
   ·simp only [RW.go_pure, Option.some.injEq, Prod.mk.injEq] at h
    obtain ⟨rfl, rfl⟩ := h
    exact same _ rfl rfl rfl (fun _ => rfl) (by intro gs hh; cases hh) rfl hx
  ·simp only [RW.go_pure, Option.some.injEq, Prod.mk.injEq] at h
   obtain ⟨rfl, rfl⟩ := h
   exact same _ rfl rfl rfl (by simp [I0]) (by intro gs hh; cases hh) rfl (.data _ _ (RV.list_nil a))
 ·rename_i id g p off n
  have viaF : ((freeze (.sl id g p off n) >>= fun es => (pure (.list es) : RW AV)).go C st = some (v', st')) →
    ∃ F' D' ν', Rel Γ w0 A O0 ν0 N F' D' st' ν' tm w ∧ Ext st ν w st' ν' w ∧ (∀ b, D b → D' b) ∧ LeafOk F m cur κ st' ν' w F' D' v' x := by
   intro h
   simp only [RW.go_bind, RW.go_pure, Option.bind_eq_some_iff] at h
   obtain ⟨⟨es, st1⟩, h1, h2⟩ := h
   cases h2
   exact frz id g p off n es rfl h1 rfl
  have obj0 : ∀ {s : Nat} {es : List AV}, nodeAt st id g none = some (0, s, es) → st (.h id) = .obj g 0 s es := by
   intro s es hn
   obtain ⟨s0, es0, h1, h2⟩ := J9 hn
   rcases h2 with ⟨_, rfl, rfl⟩ | ⟨i, j, hq, _⟩
   ·exact h1
   ·cases hq
  split at h
  ·split at h
   ·rename_i hc
    obtain ⟨_, rfl, rfl, _⟩ := hc
    simp only [RW.go_bind, RW.go_up, Option.bind_eq_some_iff, Option.map_eq_some_iff] at h
    obtain ⟨_, ⟨⟨m', s, es⟩, h1, rfl⟩, h⟩ := h
    rw [G3] at h1
    simp only at h
    split at h
    ·rename_i hm'
     subst hm'
     simp only [RW.go_bind, RW.go_up, RW.go_wr, RW.go_pure, C1, S1, Option.bind_some, Option.map_some, Option.bind_eq_some_iff, Option.map_eq_some_iff] at h
     obtain ⟨_, ⟨_, h2, rfl⟩, h3⟩ := h
     have h2 := C4 h2
     cases h3
     have hst := obj0 h1
     obtain ⟨R1, E1⟩ := R.takeObj hst hκ n
     obtain ⟨R2, E2⟩ := R1.attach (κ := κ) (Fl.set_eq _ _ _) f (F9 ((st.upd (.h id) (.dead g)) (.h f)) + 1) (Nat.lt_succ_self _) 0 (.inl rfl)
     rw [Fl.set_set, Fl.set_none _ hκ] at R2
     obtain ⟨⟨a, cap, rfl, hcap⟩, _, _, hsl⟩ := hx.sl_inv
     refine ⟨F, D, _, R2, E1.trans E2, fun _ h => h, rfl, by simp [I0], (by intro gs hh; cases hh), .inl ⟨rfl, rfl, ?_⟩⟩
     refine .sl f _ none 0 n _ ⟨a, cap, rfl, hcap⟩ ?_ (fun _ _ _ _ _ _ hq => by cases hq) fun m2 s2 es2 hn => ?_
     ·simp only [St.upds]
      rw [St.upd_eq]
      exact Nat.le_refl _
     ·simp only [St.upds] at hn
      unfold nodeAt at hn
      rw [St.upd_eq] at hn
      simp only [if_true, Option.some.injEq, Prod.mk.injEq] at hn
      obtain ⟨_, rfl, _⟩ := hn
      rw [Nu.set_eq]
      exact hsl _ _ _ h1
    ·exact viaF h
   ·simp only [RW.go_pure, Option.some.injEq, Prod.mk.injEq] at h
    obtain ⟨rfl, rfl⟩ := h
    obtain ⟨⟨a, cap, rfl, _⟩, _⟩ := hx.sl_inv
    exact same _ rfl rfl rfl (by simp [I0]) (by intro gs hh; cases hh) rfl hx
  ·split at h
   ·rename_i hm3 hc
    obtain ⟨rfl, rfl, rfl, hcn⟩ := hc
    simp only [RW.go_bind, RW.go_up, Option.bind_eq_some_iff, Option.map_eq_some_iff] at h
    obtain ⟨_, ⟨⟨m', s, es⟩, h1, rfl⟩, h⟩ := h
    rw [G3] at h1
    simp only at h
    split at h
    ·rename_i hm'
     subst hm'
     simp only [RW.go_bind, RW.go_up, RW.go_wr, RW.go_pure, C1, Option.bind_some, Option.bind_eq_some_iff, Option.map_eq_some_iff] at h
     obtain ⟨_, ⟨_, h2, rfl⟩, h3⟩ := h
     have h2 := C4 h2
     cases h3
     have hst := obj0 h1
     obtain ⟨R1, E1⟩ := R.takeObj hst hκ n
     obtain ⟨D', hD, R2⟩ := R1.frzFlo hOA (κ := κ) (Fl.set_eq _ _ _) (Q3 h2.2 n)
     rw [Fl.set_set] at R2
     obtain ⟨⟨a, cap, rfl, hcap⟩, _, _, hsl⟩ := hx.sl_inv
     refine ⟨_, D', _, R2, E1, hD, rfl, by simp [I0], (by intro gs hh; cases hh), .inr ⟨s, frzL (es.take n), ν id, rfl, hcn, rfl, rfl, V6 (a1r (Q3 h2.2 n)), ?_⟩⟩
     rw [Q5, List.length_take, Nat.min_eq_left h2.1]
     exact hsl _ _ _ h1
    ·exact viaF h
   ·exact viaF h
 ·simp at h
end
end Go.Mv
end
