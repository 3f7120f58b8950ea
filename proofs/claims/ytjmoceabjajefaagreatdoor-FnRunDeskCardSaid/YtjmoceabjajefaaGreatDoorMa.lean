/- The abstract machine, part 1 of 5: it runs the model's code on abstract values and is proved sound over any program. Conditions: none. -/
import Derived.Laws.StructEq
import Derived.Laws.Tables
import Derived.Orders
import Derived.OrdersIn
import Derived.WalkKit
set_option linter.unusedVariables false
set_option linter.unusedSimpArgs false
open Go.Act renaming mk→Yu
open Array renaming getElem?_eq_some_iff→ZC, getD_eq_getD_getElem?→ZN, getElem?_setIfInBounds_ne→Yr, toList_map→YW
open BitVec renaming ofInt→Yf
open Bool renaming and_eq_true→Zy, false_eq_true→ZZ
open Go.Builtin renaming len_→XD
open ByteArray renaming push→XF
open Go renaming undef→Yj
open Go.Instr renaming indexAt→XM, sliceBounds→XK, sliceAt→Xm
open Go.IntKind renaming i64→Yt
open List renaming replicate→ZP, range→Yb, mem_cons_of_mem→Zn, mem_cons_self→Zr, mem_map→ZI, getD_eq_getElem?_getD→Zc, getElem?_eq_none→ZQ, getElem?_eq_getElem→Zg, getElem?_map→ZE, getElem?_append_left→ZX, all_eq_true→Zt, mem_iff_getElem?→ZG, getElem?_cons_zero→Zs, getElem?_eq_some_iff→Zq, length_cons→Ze, getElem?_zip_eq_some→Xb, mem_cons→ZM, mem_append_left→ZU, mem_append→ZF, mem_append_right→Yc, getElem?_take→YA, mem_of_getElem?→Zx, map_congr_left→YI, getElem?_drop→Yd, mem_of_mem_drop→Yw, mem_of_mem_take→ZV, length_map→Zi, drop_zero→ZY, take_length→Yo, length_nil→Zo, getElem?_cons_succ→ZR, getElem?_range→Yv, map_cons→Zz, getElem?_append_right→Yn, length_append→Zf, length_eq_zero_iff→ZW, length_take→ZH
open Nat renaming add_assoc→YK, le_trans→Yg, le_refl→Zd, add_mul→Yk, lt_of_lt_of_le→YF, mul_le_mul_right→ZS
open Go.Op renaming equalIn→XE
open Option renaming bind_some→Zl, map_some→ZA, bind_eq_some_iff→Za, map_eq_some_iff→Zh
open Option.some renaming injEq→Zb
open Prod.mk renaming injEq→Zk
open Go.Region renaming binds→Xc, ready→Xs
open Go.Result renaming andThen_ok→Zu
open Go.Sem renaming run_bind→ZD, run_pure→ZO
section
namespace Go.Mv
theorem U.{u}{a:Sort u}{b:a}:b=b:=rfl
open Go
inductive Loc where
 |t (i:Nat)
 |h (i:Nat)
def Loc.beq:Loc->Loc->Bool
 | .t i,.t j=>i==j
 | .h i,.h j=>i==j
 |_,_=>false
inductive AV where
 |undef
 |val (v:Value)
 |nil
 |list (es:List AV)
 |own (s:Nat) (es:List AV)
 |ownp (es:List AV) (i j:Nat)
 |sl (id g:Nat) (p:Option (Nat×Nat)) (off n:Nat)
 |ptr (id g:Nat) (p:Option (Nat×Nat)) (i j:Nat)
 |ipt (e:AV) (j:Nat)
 |agg (fs:List AV)
 |tup (vs:List AV)
 |clo (f:Nat) (caps:List AV)
 |obj (g m s:Nat) (es:List AV)
 |dead (g:Nat)
 |ifc
 |asl (id g i j n:Nat)
 deriving Inhabited
abbrev St:=Loc->AV
abbrev Ws:=List (Loc×AV)
def St.upd(st:St)(l:Loc)(a:AV):St:=fun k=>if Loc.beq k l then a else st k
def St.upds(st:St):Ws->St
 |[]=>st
 |(l,a)::r=>(st.upd l a).upds r
def leaves:AV->List AV
 | .agg b=>b
 |a=>[a]
def leafAt(es:List AV)(i j:Nat):Option AV:=(es[i]?).bind fun e=>(leaves e)[j]?
def I6:AV->Nat
 | .obj g _ _ _=>g
 | .dead g=>g
 |_=>0
mutual
def frz:AV->AV
 | .own _ es=> .list (frzL es)
 | .agg a=> .agg (frzL a)
 | .undef=> .undef
 | .val v=> .val v
 | .nil=> .nil
 | .list es=> .list es
 | .ownp es i j=> .ownp es i j
 | .sl id g p off n=> .sl id g p off n
 | .ptr id g p i j=> .ptr id g p i j
 | .ipt e j=> .ipt e j
 | .tup vs=> .tup vs
 | .clo f cs=> .clo f cs
 | .obj g m s es=> .obj g m s es
 | .dead g=> .dead g
 | .ifc=> .ifc
 | .asl id g i j n=> .asl id g i j n
def frzL:List AV->List AV
 |[]=>[]
 |a::r=>frz a::frzL r
end
def a3y:AV->Bool
 | .ipt _ _=>true
 |_=>false
def immLeaf:AV->Bool
 | .val _=>true
 | .nil=>true
 | .list _=>true
 | .clo _ cs=>cs.all a3y
 | .ifc=>true
 |_=>false
def isOwn:AV->Bool
 | .own _ _=>true
 |_=>false
def L4:AV->Bool
 | .nil=>true
 |_=>false
def M1:AV->Bool
 | .agg b=>b.all fun l=>isOwn l||immLeaf l
 |a=>isOwn a||immLeaf a
def L5:AV->Bool
 | .agg b=>b.all immLeaf
 |a=>immLeaf a
def d9s:AV->Bool
 | .agg b=>b.all fun l=>immLeaf l&& !L4 l
 |a=>immLeaf a
def P1(es:List AV):Bool:=es.all L5
def G4(es:List AV):Bool:=es.all M1
def tid(d k:Nat):Nat:=1000000*(k+1)+d
def fid(d j:Nat):Nat:=100000*(j+1)+d
inductive Rd(α:Type) where
 |ret (a:α)
 |fail
 |read (l:Loc) (k:AV->Rd α)
 |need (p:Prop) (d:Decidable p) (k:Rd α)
 |call (f:Nat) (args:List AV) (k:AV->List (List AV)->Rd α)
namespace Rd
def bind{α β:Type}:Rd α->(α->Rd β)->Rd β
 | .ret a,f=>f a
 | .fail,_=> .fail
 | .read l k,f=> .read l fun v=>(k v).bind f
 | .need p d k,f=> .need p d (k.bind f)
 | .call g args k,f=> .call g args fun r o=>(k r o).bind f
instance:Monad Rd where
 pure:=Rd.ret
 bind:=Rd.bind
def run{α:Type}(C:Nat->List AV->Option (AV×List (List AV)))(st:St):Rd α->Option (α×List Loc)
 | .ret a=>some (a,[])
 | .fail=>none
 | .read l k=>match(k (st l)).run C st with
  |some (a,ls)=>some (a,l::ls)
  |none=>none
 | .need _ d k=>match d with
  |isTrue _=>k.run C st
  |isFalse _=>none
 | .call f args k=>match C f args with
  |some (r,o)=>(k r o).run C st
  |none=>none
end Rd
def rd(l:Loc):Rd AV:= .read l .ret
def need(p:Prop)[d:Decidable p]:Rd Unit:= .need p d (.ret ())
def doCall(f:Nat)(args:List AV):Rd (AV×List (List AV)):= .call f args fun r o=> .ret (r,o)
def Ws.look:Ws->Loc->Option AV
 |[],_=>none
 |(k,a)::r,l=>match Ws.look r l with
  |some v=>some v
  |none=>if Loc.beq l k then some a else none
def Rd.over{α:Type}(ws:Ws):Rd α->Rd α
 | .ret a=> .ret a
 | .fail=> .fail
 | .read l k=>match Ws.look ws l with
  |some v=>(k v).over ws
  |none=> .read l fun v=>(k v).over ws
 | .need p d k=> .need p d (k.over ws)
 | .call f args k=> .call f args fun r o=>(k r o).over ws
def RW(α:Type):=Rd (α×Ws)
namespace RW
def bind{α β:Type}(x:RW α)(f:α->RW β):RW β:=
 Rd.bind (α:=α×Ws) x fun a=>Rd.bind (α:=β×Ws) (Rd.over a.2 (f a.1)) fun b=> .ret (b.1,a.2++b.2)
instance:Monad RW where
 pure a:=Rd.ret (a,[])
 bind:=RW.bind
def fail{α:Type}:RW α:=Rd.fail
end RW
def up{α:Type}(x:Rd α):RW α:=Rd.bind x fun a=> .ret (a,[])
def wr(ws:Ws):RW Unit:=Rd.ret ((),ws)
inductive TK where
 |bad
 |other
 |int (k:IntKind)
 |bool
 |string
 |slice (elem:Nat)
 |array (n elem:Nat)
 |struct (fs:List (Nat×Nat))
 |ptr (elem:Nat)
structure TyS where
 size:Nat
 bytes:Nat
 k:TK
 zero:AV
def ofConst:Value->AV
 | .slice none 0 0=> .nil
 | .agg cs=> .agg (cs.toList.map fun v=>match v with| .slice none 0 0=> .nil|v=> .val v)
 | .func (.func f) first captured=>if first.size=0/\captured.size=0 then .clo f []else .val (.func (.func f) first captured)
 |v=> .val v
def tyS(P:Program)(T:Nat):TyS:=
 match P.info? T with
 |none=>⟨0,0,.bad,.undef⟩
 |some i=>⟨i.size,i.bytes,
  (match P.underlying T with
   |some (.int k)=> .int k
   |some .bool=> .bool
   |some .string=> .string
   |some (.slice e)=> .slice e
   |some (.array n e)=> .array n e
   |some (.struct a)=> .struct (a.toList.map fun f=>(f.offset,f.type))
   |some (.pointer e)=> .ptr e
   |some _=> .other
   |none=> .bad),
  (match i.zero with|some v=>ofConst v|none=> .undef)⟩
structure Cx where
 P:Program
 md:Nat->Nat->Nat
 ext:Nat->Option (List AV->Option (AV×List (List AV)))
 it:Nat->Option (List AV->Option (List (List Value))):=fun _=>none
 gl:Nat->Option AV:=fun _=>none
 mp:Nat->Option (List (ByteArray×Value)):=fun _=>none
 fz:Nat->Bool:=fun _=>false
 fzB:Nat->Nat->Bool:=fun _ _=>false
def rdO:Operand->Rd AV
 | .tmp t=>rd (.t t)
 | .const v=> .ret (ofConst v)
 | .func f=> .ret (.clo f [])
 | .global g=> .ret (.val (.pointer (some ⟨g,0,none⟩)))
def rdNode(id g:Nat)(p:Option (Nat×Nat)):Rd (Nat×Nat×List AV):=
 .read (.h id) fun o=>match o with
  | .obj b m s es=>do
   need (b=g)
   match p with
   |none=> .ret (m,s,es)
   |some (i,j)=>match leafAt es i j with
    |some (.own c a)=> .ret (m,c,a)
    |_=> .fail
  |_=> .fail
def bxB(m:Nat)(p:Option (Nat×Nat)):Bool:=p.isNone&&(m==3||m==4)
def slc:AV->Rd (List AV)
 | .list es=> .ret es
 | .nil=> .ret []
 | .sl id g p off n=>do
  let(m,_,es) <-rdNode id g p
  need (bxB m p=false/\off+n<=es.length)
  .ret ((es.drop off).take n)
 |_=> .fail
def putAt(e:AV)(j:Nat)(v:AV):AV:=
 match e,v with
 | .agg a,.agg gs=> .agg (a.take j++gs++a.drop (j+gs.length))
 | .agg a,l=> .agg (a.set j l)
 |_,v=>v
def wrNode(id:Nat)(p:Option (Nat×Nat))(a:List AV):Rd Ws:=
 .read (.h id) fun o=>match o with
  | .obj g m s es=>match p with
   |none=> .ret [(.h id,.obj g m s a)]
   |some (i,j)=>match es[i]?,leafAt es i j with
    |some e,some (.own b _)=> .ret [(.h id,.obj g m s (es.set i (putAt e j (.own b a))))]
    |_,_=> .fail
  |_=> .fail
def freeze:AV->RW (List AV)
 | .list es=>pure es
 | .nil=>pure []
 | .sl id g p off n=>do
  let(m,s,es) <-up (rdNode id g p)
  up (need (bxB m p=false/\off+n<=es.length))
  if m=2 then pure ((es.drop off).take n)else do
   up (need (m=0/\G4 es=true))
   match p with
   |none=>do
    wr [(.h id,.obj g 2 s (frzL es))]
    pure (((frzL es).drop off).take n)
   |some (i,j)=>do
    let o <-up (rd (.h id))
    match o with
    | .obj _ b c a=>match a[i]? with
     |some e=>do
      wr [(.h id,.obj g b c (a.set i (putAt e j (.list (frzL es)))))]
      pure (((frzL es).drop off).take n)
     |none=>RW.fail
    |_=>RW.fail
 |_=>RW.fail
def c2h:Value->Bool
 | .agg _=>false
 | .tuple _=>false
 |_=>true
def K7(m:Nat)(cur:AV)(f:Nat)(v:AV):RW AV:=
 match v with
 | .val v=>do up (need (c2h v=true));pure (.val v)
 | .clo k cs=>do up (need (cs.all a3y=true));pure (.clo k cs)
 | .list es=>pure (.list es)
 | .ptr id g p i j=>do up (need (m=0));pure (.ptr id g p i j)
 | .nil=>match cur with
  | .nil=>if m=2 then pure (.list [])else pure .nil
  |_=>pure (.list [])
 | .sl id g p off n=>
  if m=3 then
   if 100000<=id/\p=none/\off=0/\id≠f then do
    let(a,s,es) <-up (rdNode id g none)
    if a=0 then do
     up (need (n<=es.length))
     wr [(.h id,.dead g)]
     let o <-up (rd (.h f))
     wr [(.h f,.obj (I6 o+1) 0 s (es.take n))]
     pure (.sl f (I6 o+1) none 0 n)
    else do
     let es <-freeze (.sl id g p off n)
     pure (.list es)
   else pure (.sl id g p off n)
  else if m=0/\p=none/\off=0/\L4 cur=true then do
   let(a,s,es) <-up (rdNode id g none)
   if a=0 then do
    up (need (n<=es.length/\G4 es=true))
    wr [(.h id,.dead g)]
    pure (.own s (frzL (es.take n)))
   else do
    let es <-freeze (.sl id g p off n)
    pure (.list es)
  else do
   let es <-freeze (.sl id g p off n)
   pure (.list es)
 |_=>RW.fail
def absorbLeaves(m f:Nat):Nat->List AV->List AV->RW (List AV)
 |_,_,[]=>pure []
 |j,cs,v::vs=>do
  let b <-K7 m (cs.headD .undef) (fid f j) v
  let a <-absorbLeaves m f (j+1) cs.tail vs
  pure (b::a)
def absorb(m f:Nat)(j:Nat)(cs:List AV)(v:AV):RW AV:=
 match v with
 | .agg b=>do
  let a <-absorbLeaves m f j cs b
  pure (.agg a)
 |v=>K7 m (cs.headD .undef) (fid f j) v
def a8v(id g:Nat)(p:Option (Nat×Nat))(i j:Nat)(l:AV):AV:=
 match l with
 | .own _ es=>match p with
  |none=> .sl id g (some (i,j)) 0 es.length
  |some _=> .undef
 |l=>l
def viewLeaves(id g:Nat)(p:Option (Nat×Nat))(i:Nat):Nat->List AV->List AV
 |_,[]=>[]
 |j,l::ls=>a8v id g p i j l::viewLeaves id g p i (j+1) ls
def Q3:TK->Bool
 | .bad=>true
 |_=>false
def a4n:TK->Bool
 | .struct _=>true
 | .array _ _=>true
 |_=>false
def H0:Nat:=4294967296
def inI(k:IntKind)(x:Int):Prop:=k.min<=x/\x<=k.max
instance (k:IntKind) (x:Int):Decidable (inI k x):=inferInstanceAs (Decidable (_/\_))
def b9n:TK->AV->AV->Option Bool
 | .int _,.val (.int k a),.val (.int c b)=>if k=c then some (a==b)else none
 | .bool,.val (.bool a),.val (.bool b)=>some (a==b)
 | .string,.val (.string a),.val (.string b)=>some (a.toList==b.toList)
 |_,_,_=>none
def b5i:List TK->List AV->List AV->Option Bool
 |[],[],[]=>some true
 |k::c,a::r,b::s=>match b9n k a b,b5i c r s with
  |some x,some y=>some (x&&y)
  |_,_=>none
 |_,_,_=>none
def intBin(op:BinOp)(k:IntKind)(a b:Int):Rd AV:=
 match op with
 | .add=>do need (inI k (a+b));.ret (.val (.int k (a+b)))
 | .sub=>do need (inI k (a-b));.ret (.val (.int k (a-b)))
 | .mul=>do need (inI k (a*b));.ret (.val (.int k (a*b)))
 | .quo=>do need (b≠0/\inI k (a.tdiv b));.ret (.val (.int k (a.tdiv b)))
 | .rem=>do need (b≠0);.ret (.val (.int k (a.tmod b)))
 | .eql=> .ret (.val (.bool (a==b)))
 | .neq=> .ret (.val (.bool (a !=b)))
 | .lss=> .ret (.val (.bool (decide (a<b))))
 | .leq=> .ret (.val (.bool (decide (a<=b))))
 | .gtr=> .ret (.val (.bool (decide (b<a))))
 | .geq=> .ret (.val (.bool (decide (b<=a))))
 | .shl=>do need (0<=b/\b<k.bits/\inI k (a*2^b.toNat));.ret (.val (.int k (a*2^b.toNat)))
 | .shr=>do need (0<=b/\b<k.bits);.ret (.val (.int k (a.fdiv (2^b.toNat))))
 | .and=> .ret (.val (.int k (k.wrap ((Yf k.bits a&&&Yf k.bits b).toNat))))
 | .or=> .ret (.val (.int k (k.wrap ((Yf k.bits a|||Yf k.bits b).toNat))))
 | .xor=> .ret (.val (.int k (k.wrap ((Yf k.bits a^^^Yf k.bits b).toNat))))
 | .andNot=> .fail
def c0f(op:BinOp)(a b:ByteArray):Rd AV:=
 match op with
 | .add=>do need (a.size+b.size<=H0);.ret (.val (.string (a++b)))
 | .eql=> .ret (.val (.bool (a.toList==b.toList)))
 | .neq=> .ret (.val (.bool (!(a.toList==b.toList))))
 |_=> .fail
def a3s(d:List TK)(op:BinOp)(a b:AV):Rd AV:=
 match a,b with
 | .val (.int k x),.val (.int c y)=>match op with
  | .shl=>intBin .shl k x y
  | .shr=>intBin .shr k x y
  |op=>do need (k=c);intBin op k x y
 | .val (.string x),.val (.string y)=>c0f op x y
 | .val (.bool x),.val (.bool y)=>match op with
  | .eql=> .ret (.val (.bool (x==y)))
  | .neq=> .ret (.val (.bool (!(x==y))))
  |_=> .fail
 | .ifc,.val .nilIface=>match op with
  | .eql=> .ret (.val (.bool false))
  | .neq=> .ret (.val (.bool true))
  |_=> .fail
 | .val .nilIface,.val .nilIface=>match op with
  | .eql=> .ret (.val (.bool true))
  | .neq=> .ret (.val (.bool false))
  |_=> .fail
 | .agg xs,.agg ys=>match op,b5i d xs ys with
  | .eql,some b=> .ret (.val (.bool b))
  | .neq,some b=> .ret (.val (.bool (!b)))
  |_,_=> .fail
 |_,_=> .fail
def unA(op:UnOp)(a:AV):Rd AV:=
 match op,a with
 | .neg,.val (.int k x)=>do need (inI k (0-x));.ret (.val (.int k (-x)))
 | .not,.val (.bool b)=> .ret (.val (.bool (!b)))
 |_,_=> .fail
def max2(a b:AV):Rd AV:=match a,b with
 | .val (.int k x),.val (.int c y)=>do need (k=c);.ret (.val (.int k (max x y)))
 |_,_=> .fail
def min2(a b:AV):Rd AV:=match a,b with
 | .val (.int k x),.val (.int c y)=>do need (k=c);.ret (.val (.int k (min x y)))
 |_,_=> .fail
def foldA(f:AV->AV->Rd AV):AV->List AV->Rd AV
 |a,[]=> .ret a
 |a,b::r=>do let c <-f a b;foldA f c r
def asNat:AV->Rd Nat
 | .val (.int _ n)=>do need (0<=n);.ret n.toNat
 |_=> .fail
def optNat(o:Option Operand)(dflt:Nat):Rd Nat:=
 match o with
 |none=> .ret dflt
 |some x=>do let v <-rdO x;asNat v
def setD(o:Oper)(a:AV):Ws:=match o.dst with
 |some d=>[(.t d,a)]
 |none=>[]
def dstOf(o:Oper):Rd Nat:=match o.dst with
 |some d=> .ret d
 |none=> .fail
def elemOf(P:Program)(T:Nat):Rd Nat:=match(tyS P T).k with
 | .slice e=>do
  need (Q3 (tyS P e).k=false)
  .ret e
 |_=> .fail
def a3n(s:Nat)(es:List AV):Bool:=es.all fun e=>(leaves e).length==s
def a3o(P:Program)(T:Nat)(ls:List AV):Rd AV:=
 if a4n (tyS P T).k=true then do
  need ((tyS P T).size<=ls.length)
  .ret (.agg (ls.take (tyS P T).size))
 else do
  need ((tyS P T).size=1/\Q3 (tyS P T).k=false)
  match ls with
  |l::_=> .ret l
  |[]=> .fail
def loadA(P:Program)(T:Nat)(a:AV):Rd AV:=
 match a with
 | .ptr id g p i j=>do
  let(_,_,es) <-rdNode id g p
  match es[i]? with
  |some e=>a3o P T (viewLeaves id g p i j ((leaves e).drop j))
  |none=> .fail
 | .ipt e j=>a3o P T ((leaves e).drop j)
 |_=> .fail
def X9:List AV->List AV->Bool
 |l::ls,c::cs=>((!isOwn l&& !L4 l)||L4 c)&&X9 ls cs
 |[],_=>true
 |_::_,[]=>false
def a7d(P:Program)(T:Nat)(a v:AV):RW Unit:=
 match a with
 | .ptr id g p i j=>do
  let(m,_,es) <-up (rdNode id g p)
  match es[i]? with
  |some e=>do
   let d <-absorb (if p=none then m else 4) id j ((leaves e).drop j) v
   let(f,_,b) <-up (rdNode id g p)
   match b[i]? with
   |some c=>do
    up (need (f=m/\m≠2/\(leaves v).length=(tyS P T).size/\0<(leaves v).length/\j+(leaves v).length<=(leaves c).length/\
     X9 (leaves d) ((leaves c).drop j)=true/\(p=none\/P1 (b.set i (putAt c j d))=true)))
    let w <-up (wrNode id p (b.set i (putAt c j d)))
    wr w
   |none=>RW.fail
  |none=>RW.fail
 |_=>RW.fail
def b5h:AV->Bool
 | .sl _ _ none _ _=>true
 |_=>false
def b8z(P:Program)(T:Nat)(a v:AV):RW Unit:=
 match a with
 | .ptr id g none i j=>do
  let(m,s,es) <-up (rdNode id g none)
  if m=3 then do
   match es[i]? with
   |some e=>do
    up (need ((tyS P T).size=1/\j+1<=(leaves e).length))
    wr [(.h id,.obj g m s (es.set i (putAt e j v)))]
   |none=>RW.fail
  else a7d P T (.ptr id g none i j) v
 |a=>a7d P T a v
def b3k(P:Program)(T:Nat)(a v:AV):RW Unit:=if b5h v=true then b8z P T a v else a7d P T a v
def O7:AV->Bool
 | .undef=>false
 | .tup _=>false
 | .val v=>c2h v
 |_=>true
def loadG(cx:Cx)(T:Nat)(a:AV):Rd AV:=
 match a with
 | .val (.pointer (some ⟨g,0,none⟩))=>match cx.gl g with
  |some v=>a3o cx.P T [v]
  |none=> .fail
 |a=>loadA cx.P T a
def a4m(s:ByteArray):List (ByteArray×Value)->Option Value
 |[]=>none
 |(k,v)::r=>if s==k then some v else a4m s r
def a6e:TK->Bool
 | .string=>true
 |_=>false
def lookupA(cx:Cx)(T:Nat)(m k:AV)(ok:Bool):Rd AV:=
 match m,k with
 | .val (.map (some r)),.val (.string s)=>match cx.mp r,cx.P.underlying T with
  |some a,some (.map key elem)=>do
   need (a6e (tyS cx.P key).k=true)
   match a4m s a with
   |some u=> .ret (if ok then .tup [ofConst u,.val (.bool true)]else ofConst u)
   |none=>do
    need (Q3 (tyS cx.P elem).k=false/\O7 (tyS cx.P elem).zero=true)
    .ret (if ok then .tup [(tyS cx.P elem).zero,.val (.bool false)]else(tyS cx.P elem).zero)
  |_,_=> .fail
 |_,_=> .fail
def a0i(place:Nat->Option (Nat×Nat))(fs:List AV):List (Nat×Operand)->Rd (List AV)
 |[]=> .ret fs
 |(i,x)::r=>do
  let v <-rdO x
  match place i with
  |none=> .fail
  |some (off,size)=>do
   need (O7 v=true/\(leaves v).length=size/\off+size<=fs.length)
   a0i place (fs.take off++leaves v++fs.drop (off+size)) r
def c7c(P:Program)(T:Nat)(parts:List (Nat×Operand)):Rd AV:=
 match(tyS P T).k,(tyS P T).zero with
 | .struct fl,.agg b=>do
  need ((fl.all fun f=> !Q3 (tyS P f.2).k)=true)
  let a <-a0i (fun i=>(fl[i]?).map fun f=>(f.1,(tyS P f.2).size)) b parts
  .ret (.agg a)
 | .array _ e,.agg b=>do
  need (Q3 (tyS P e).k=false)
  let a <-a0i (fun i=>some (i*(tyS P e).size,(tyS P e).size)) b parts
  .ret (.agg a)
 |_,_=> .fail
def a0x(mk s:Nat)(es:List AV):List (Nat×Operand)->RW (List AV)
 |[]=>pure es
 |(i,x)::r=>do
  let v <-up (rdO x)
  up (need ((leaves v).length=s/\i<es.length))
  let a <-absorb mk 0 0 (ZP s .nil) v
  a0x mk s (es.set i a) r
def indexAddrA(P:Program)(T:Nat)(x i:AV):Rd AV:=do
 let n <-asNat i
 match x with
 | .list es=>do
  let E <-elemOf P T
  match es[n]? with
  |some e=>do
   need ((leaves e).length=(tyS P E).size)
   .ret (.ipt e 0)
  |none=> .fail
 | .sl id g p off c=>do
  let E <-elemOf P T
  let(_,s,es) <-rdNode id g p
  need (n<c/\off+c<=es.length/\s=(tyS P E).size)
  .ret (.ptr id g p (off+n) 0)
 | .ptr id g p a b=>match(tyS P T).k with
  | .array len E=>do
   need (n<len/\Q3 (tyS P E).k=false)
   .ret (.ptr id g p a (b+n*(tyS P E).size))
  |_=> .fail
 |_=> .fail
def fieldAddrA(P:Program)(T:Nat)(x:AV)(f:Nat):Rd AV:=
 match(tyS P T).k with
 | .struct a=>match a[f]? with
  |some (o,b)=>do
   need ((tyS P b).size≠0)
   match x with
   | .ptr id g p i j=> .ret (.ptr id g p i (j+o))
   | .ipt e j=> .ret (.ipt e (j+o))
   |_=> .fail
  |none=> .fail
 |_=> .fail
def fieldA(P:Program)(T:Nat)(x:AV)(f:Nat):Rd AV:=
 match(tyS P T).k,x with
 | .struct a,.agg ls=>match a[f]? with
  |some (o,b)=>a3o P b (ls.drop o)
  |none=> .fail
 |_,_=> .fail
def indexA(P:Program)(T:Nat)(x i:AV):Rd AV:=do
 let n <-asNat i
 match(tyS P T).k,x with
 | .string,.val (.string s)=>match s.data.toList[n]? with
  |some b=> .ret (.val (.int .u8 b.toNat))
  |none=> .fail
 | .array len e,.agg ls=>do
  need (n<len/\Q3 (tyS P e).k=false)
  a3o P e (ls.drop (n*(tyS P e).size))
 |_,_=> .fail
def sliceA(P:Program)(T:Nat)(x:AV)(b a mx:Option Operand):Rd AV:=
 match(tyS P T).k,x with
 | .string,.val (.string s)=>do
  need (mx=none)
  let h <-optNat a s.size
  let l <-optNat b 0
  need (l<=h/\h<=s.size)
  .ret (.val (.string (s.extract l h)))
 | .slice E,.list es=>do
  let m <-optNat mx es.length
  let h <-optNat a es.length
  let l <-optNat b 0
  need (l<=h/\h<=m/\m<=es.length/\(mx=none\/a≠none))
  need (Q3 (tyS P E).k=false/\a3n (tyS P E).size es=true)
  if mx≠none/\m=l then .ret .nil else .ret (.list ((es.drop l).take (h-l)))
 | .slice E,.nil=>do
  let m <-optNat mx 0
  let h <-optNat a 0
  let l <-optNat b 0
  need (l<=h/\h<=m/\m<=0/\(mx=none\/a≠none))
  need (Q3 (tyS P E).k=false)
  .ret .nil
 | .slice E,.sl id g p off n=>do
  let m <-optNat mx n
  let h <-optNat a n
  let l <-optNat b 0
  need (l<=h/\h<=m/\m<=n/\(mx=none\/a≠none))
  need (Q3 (tyS P E).k=false)
  if mx≠none/\m=l then .ret .nil
  else if l=0 then .ret (.sl id g p off h)
  else do
   let(_,s,_) <-rdNode id g p
   need (s=(tyS P E).size)
   .ret (.sl id g p (off+l) (h-l))
 | .array n E,.ptr id g none i j=>do
  need (b=none/\a=none/\mx=none/\(tyS P E).size=1)
  .ret (.asl id g i j n)
 |_,_=> .fail
def e1c(P:Program)(src dst:Nat)(x:AV):Rd AV:=
 match(tyS P src).k,(tyS P dst).k,x with
 | .int _,.int k,.val (.int _ n)=>do need (inI k n);.ret (.val (.int k n))
 | .string,.string,.val (.string s)=> .ret (.val (.string s))
 |_,_,_=> .fail
def Z3:List AV->Option (List UInt8)
 |[]=>some []
 | .val (.int .u8 n)::r=>if 0<=n/\n<256 then(Z3 r).map (UInt8.ofNat n.toNat:: ·)else none
 |_=>none
def e0m(P:Program)(src dst:Nat)(x:AV):Rd AV:=
 match(tyS P src).k,(tyS P dst).k with
 | .slice e,.string=>match(tyS P e).k with
  | .int .u8=>do
   let es <-slc x
   match Z3 es with
   |some l=> .ret (.val (.string ⟨l.toArray⟩))
   |none=> .fail
  |_=> .fail
 |_,_=> .fail
def lenA(v:AV):Rd AV:=match v with
 | .list es=> .ret (.val (.int .i64 es.length))
 | .nil=> .ret (.val (.int .i64 0))
 | .sl _ _ _ _ n=> .ret (.val (.int .i64 n))
 | .val (.string s)=> .ret (.val (.int .i64 s.size))
 |_=> .fail
def lenOk(P:Program)(T:Nat)(v:AV):Prop:=match(tyS P T).k,v with
 | .string,.val _=>True
 | .slice _,.list _=>True
 | .slice _,.nil=>True
 | .slice _,.sl _ _ _ _ _=>True
 |_,_=>False
instance (P:Program) (T:Nat) (v:AV):Decidable (lenOk P T v):=by
 unfold lenOk;split<;>infer_instance
def cellLeaf:AV->Bool
 | .agg _=>false
 |l=>O7 l
def b6d(es:List AV):Bool:=es.all fun e=>(leaves e).all cellLeaf
def d7u(s:Nat)(v:AV):RW (List AV):=
 match v with
 | .sl id g p off n=>do
  let(m,a,es) <-up (rdNode id g p)
  up (need (a=s))
  if 1000000<=id/\p=none/\m=0/\off=0/\n=es.length then do
   wr [(.h id,.dead g)]
   pure es
  else do
   let es <-up (slc (.sl id g p off n))
   if P1 es=true then pure es else freeze (.sl id g p off n)
 |v=>do
  let es <-up (slc v)
  up (need (a3n s es=true))
  pure es
def a6j(P:Program)(d T:Nat)(a b:AV):RW AV:=do
 let E <-up (elemOf P T)
 up (need ((tyS P E).bytes<=4096/\(leaves (tyS P E).zero).length=(tyS P E).size/\O7 (tyS P E).zero=true))
 let ys <-d7u (tyS P E).size b
 up (need (b6d ys=true))
 match a with
 | .nil=>do
  up (need (ys.length<=H0))
  let o <-up (rd (.h (tid d 0)))
  wr [(.h (tid d 0),.obj (I6 o+1) 0 (tyS P E).size ys)]
  pure (.sl (tid d 0) (I6 o+1) none 0 ys.length)
 | .sl id g none 0 n=>do
  let(m,s,es) <-up (rdNode id g none)
  up (need (m=0/\n<=es.length/\s=(tyS P E).size/\n+ys.length<=H0))
  wr [(.h id,.dead g)]
  let o <-up (rd (.h (tid d 0)))
  wr [(.h (tid d 0),.obj (I6 o+1) 0 s (es.take n++ys))]
  pure (.sl (tid d 0) (I6 o+1) none 0 (n+ys.length))
 |_=>RW.fail
def a9j:AV->Bool
 | .val v=>c2h v
 | .list _=>true
 |_=>false
def d7m(es:List AV):Bool:=es.all fun e=>(leaves e).all a9j
def d8f(es:List AV):Bool:=es.all fun e=>(leaves e).all fun l=> !isOwn l
def e1d(P:Program)(T:Nat)(a b:AV):RW AV:=do
 let E <-up (elemOf P T)
 let ys <-up (slc b)
 up (need (d7m ys=true/\a3n (tyS P E).size ys=true))
 match a with
 | .sl id g p off n=>do
  let(m,s,es) <-up (rdNode id g p)
  let k:=min ys.length n
  up (need (m≠2/\bxB m p=false/\off+n<=es.length/\s=(tyS P E).size/\d8f ((es.drop off).take k)=true/\k<=H0))
  let w <-up (wrNode id p (es.take off++ys.take k++es.drop (off+k)))
  wr w
  pure (.val (.int .i64 k))
 |_=>RW.fail
mutual
def hasList:AV->Bool
 | .list _=>true
 | .own _ es=>G3 es
 | .ownp es _ _=>G3 es
 | .agg a=>G3 a
 | .tup vs=>G3 vs
 | .ipt _ _=>true
 | .clo _ cs=>G3 cs
 |_=>false
def G3:List AV->Bool
 |[]=>false
 |a::r=>hasList a||G3 r
end
def passLeaf(v:AV):Rd AV:=
 match v with
 | .sl id g p off n=>do
  let es <-slc (.sl id g p off n)
  need (G4 es=true)
  .ret (.list (frzL es))
 | .nil=> .ret (.list [])
 | .val v=> .ret (.val v)
 | .list es=> .ret (.list es)
 | .clo k []=> .ret (.clo k [])
 | .ifc=> .ret .ifc
 |_=> .fail
def passLeaves:List AV->Rd (List AV)
 |[]=> .ret []
 |v::r=>do
  let b <-passLeaf v
  let a <-passLeaves r
  .ret (b::a)
def slIds(b:Bool)(fs:List AV):List (Nat×Bool):=fs.filterMap fun l=>match l with
 | .sl id _ _ _ _=>some (id,b)
 |_=>none
def passCap(v:AV):Rd (AV×List (Nat×Bool)):=
 match v with
 | .ipt e j=> .ret (.ipt e j,[])
 | .ptr id g none i j=>do
  let(_,_,es) <-rdNode id g none
  match es[i]? with
  |some (.agg b)=>do
   let a <-passLeaves b
   .ret (.ipt (.agg a) j,(id,false)::slIds false b)
  |some e=>do
   let c <-passLeaf e
   .ret (.ipt c j,(id,false)::slIds false [e])
  |none=> .fail
 |v=>do
  let d <-passLeaf v
  .ret (d,slIds false [v])
def passCaps:List AV->Rd (List AV×List (Nat×Bool))
 |[]=> .ret ([],[])
 |v::r=>do
  let(c,i) <-passCap v
  let(b,a) <-passCaps r
  .ret (c::b,i++a)
def passVars:List AV->Rd (List AV×List (Nat×Bool))
 |[]=> .ret ([],[])
 |v::r=>do
  let(d,a) <-(match v with
   | .ptr id g none i j=>do
    let(m,_,es) <-rdNode id g none
    need ((m=3\/m=4)/\P1 es=true/\i=0)
    .ret (.ownp es 0 j,[(id,true)])
   |v=>passCap v)
  let(c,b) <-passVars r
  .ret (d::c,a++b)
def keepLeaf(v:AV):RW AV:=
 match v with
 | .sl id g p off n=>do
  let es <-freeze (.sl id g p off n)
  pure (.list es)
 |v=>up (passLeaf v)
def keepLeaves:List AV->RW (List AV)
 |[]=>pure []
 |v::r=>do
  let b <-keepLeaf v
  let a <-keepLeaves r
  pure (b::a)
def keepCap(v:AV):RW AV:=
 match v with
 | .ipt e j=>pure (.ipt e j)
 |v=>keepLeaf v
def keepCaps:List AV->RW (List AV)
 |[]=>pure []
 |v::r=>do
  let b <-keepCap v
  let a <-keepCaps r
  pure (b::a)
def a3k(md:Nat)(v:AV):RW (AV×List (Nat×Bool)):=
 match v with
 | .agg d=>
  if md=3 then do
   let c <-keepLeaves d
   pure (.agg c,slIds true d)
  else do
   let c <-up (passLeaves d)
   pure (.agg c,slIds false d)
 | .clo f caps=>
  if md=3 then do
   let b <-keepCaps caps
   pure (.clo f b,slIds true caps)
  else if md=1 then do
   let(b,a) <-up (passVars caps)
   pure (.clo f b,a)
  else do
   let(b,a) <-up (passCaps caps)
   pure (.clo f b,a)
 | .ipt e j=>pure (.ipt e j,[])
 | .asl id g i j n=>do
  up (need (md=0))
  let(_,_,es) <-up (rdNode id g none)
  match es[i]? with
  |some e=>do
   up (need (j+n<=(leaves e).length))
   let d <-up (passLeaves (((leaves e).drop j).take n))
   pure (.list d,(id,false)::slIds false (((leaves e).drop j).take n))
  |none=>RW.fail
 | .ptr id g none i j=>do
  let(m,_,es) <-up (rdNode id g none)
  up (need ((m=3\/m=4)/\P1 es=true/\i=0))
  pure (.ownp es 0 j,[(id,true)])
 | .sl id g p off n=>
  if md=0 then do
   let k <-up (passLeaf (.sl id g p off n))
   pure (k,[(id,false)])
  else if md=1 then do
   let(m,s,es) <-up (rdNode id g p)
   if m=0/\p=none/\P1 es=false then do
    up (need (off=0/\n=es.length/\G4 es=true))
    wr [(.h id,.obj g 0 s (frzL es))]
    pure (.own s (frzL es),[(id,true)])
   else do
    up (need (m≠2/\bxB m p=false/\off=0/\n=es.length/\P1 es=true))
    pure (.own s es,[(id,true)])
  else if md=2 then do
   let(m,s,es) <-up (rdNode id g none)
   up (need (m=0/\off=0/\n<=es.length/\p=none/\G4 es=true))
   wr [(.h id,.dead g)]
   pure (.own s (es.take n),[(id,true)])
  else if md=4 then do
   let(m,s,es) <-up (rdNode id g p)
   up (need (p=none/\m≠2/\bxB m p=false/\off=0/\n=es.length/\G4 es=true))
   pure (.own s es,[(id,true)])
  else do
   let es <-freeze (.sl id g p off n)
   pure (.list es,[(id,true)])
 | .nil=>if md=0\/md=3 then pure (.list [],[])else pure (.nil,[])
 |v=>do
  let k <-up (passLeaf v)
  pure (k,[])
def passAll(md:Nat->Nat):Nat->List AV->RW (List AV×List (Nat×Bool))
 |_,[]=>pure ([],[])
 |i,v::r=>do
  let(d,a) <-a3k (md i) v
  let(c,b) <-passAll md (i+1) r
  pure (d::c,a++b)
def d1a(c:AV):AV->Bool
 | .own s _=>match c with
  | .own a _=>a==s
  |_=>false
 |_=>true
def a3a:List AV->List AV->Bool
 |c::cs,l::ls=>(!L4 l||L4 c)&&(d1a c l&&a3a cs ls)
 |[],l::ls=> !L4 l&&(!isOwn l&&a3a [] ls)
 |_,[]=>true
def nilFit:List AV->List AV->Bool
 |e::es,o::os=>a3a (leaves e) (leaves o)&&nilFit es os
 |[],o::os=>a3a [] (leaves o)&&nilFit [] os
 |_,[]=>true
def b2x(id g:Nat)(p:Option (Nat×Nat))(o:List AV):RW Unit:=do
 let(_,_,es) <-up (rdNode id g p)
 up (need (o.length=es.length/\nilFit es o=true))
 let w <-up (wrNode id p o)
 wr w
abbrev Tg:=Nat×Nat×Option (Nat×Nat)
def a1e:List AV->List Tg
 |[]=>[]
 |c::r=>match c with
  | .ptr id g none _ _=>(id,g,none)::a1e r
  |_=>a1e r
def a2a(md:Nat)(v:AV):List Tg:=
 match v with
 | .ptr id g none _ _=>[(id,g,none)]
 | .sl id g p _ _=>if md=1\/md=4 then[(id,g,p)]else[]
 | .clo _ caps=>if md=1 then a1e caps else[]
 |_=>[]
def a2f(md:Nat->Nat):Nat->List AV->List Tg
 |_,[]=>[]
 |i,v::r=>a2a (md i) v++a2f md (i+1) r
def a2r:List Tg->List (List AV)->RW Unit
 |[],[]=>pure ()
 |(id,g,p)::r,o::os=>do
  b2x id g p o
  a2r r os
 |_,_=>RW.fail
abbrev Cid:=Nat×Nat×Nat
def cidCaps(i:Nat):Nat->List AV->List Cid
 |_,[]=>[]
 |k,c::r=>match c with
  | .ownp _ _ _=>(fid i k,4,0)::cidCaps i (k+1) r
  |_=>cidCaps i (k+1) r
def R9(md i:Nat)(a:AV):List Cid:=
 match a with
 | .own s _=>if md=2 then[]else[(i,1,s)]
 | .ownp _ _ _=>[(i,4,0)]
 | .clo _ caps=>cidCaps i 0 caps
 |_=>[]
def cidAll(md:Nat->Nat):Nat->List AV->List Cid
 |_,[]=>[]
 |i,a::r=>R9 (md i) i a++cidAll md (i+1) r
def a3j(as:List AV):Bool:=as.all fun a=>match a with
 | .clo _ caps=>decide (caps.length<=9)
 |_=>true
def nodupB:List Nat->Bool
 |[]=>true
 |i::r=>r.all (fun j=>j !=i)&&nodupB r
def apartIds:List (Nat×Bool)->Bool
 |[]=>true
 |(i,b)::r=>r.all (fun x=>x.1 !=i||(!b&& !x.2))&&apartIds r
def a0z(id:Nat)(v:AV):RW AV:=
 match v with
 | .own s es=>do
  let o <-up (rd (.h id))
  wr [(.h id,.obj (I6 o+1) 0 s es)]
  pure (.sl id (I6 o+1) none 0 es.length)
 | .val v=>pure (.val v)
 | .nil=>pure .nil
 | .list es=>pure (.list es)
 | .clo k []=>pure (.clo k [])
 | .clo k (c::cs)=>do
  up (need ((c::cs).all a3y=true))
  pure (.clo k (c::cs))
 | .ifc=>pure .ifc
 |_=>RW.fail
def a1n(d:Nat):Nat->List AV->RW (List AV)
 |_,[]=>pure []
 |k,v::r=>do
  let b <-a0z (tid d k) v
  let a <-a1n d (k+1) r
  pure (b::a)
def boxS(es:List AV):Nat:=match es with
 |e::_=>(leaves e).length
 |[]=>0
def inst1(d k:Nat)(v:AV):RW AV:=
 match v with
 | .agg b=>do let a <-a1n d (k+1) b;pure (.agg a)
 | .ownp es i j=>do
  let o <-up (rd (.h (tid d k)))
  wr [(.h (tid d k),.obj (I6 o+1) 3 (boxS es) es)]
  pure (.ptr (tid d k) (I6 o+1) none i j)
 |v=>a0z (tid d k) v
def instAll(d:Nat):Nat->List AV->RW (List AV)
 |_,[]=>pure []
 |k,v::r=>do
  let b <-inst1 d k v
  let a <-instAll d (k+16) r
  pure (b::a)
def d8q(d:Nat)(v:AV):RW AV:=
 match v with
 | .tup vs=>do let a <-instAll d 16 vs;pure (.tup a)
 |v=>inst1 d 0 v
def d3q(cx:Cx)(d:Option Nat)(f:Nat)(args:List AV):RW AV:=do
 let(as,ids) <-passAll (cx.md f) 0 args
 up (need (apartIds ids=true/\nodupB ((a2f (cx.md f) 0 args).map (·.1))=true/\nodupB ((cidAll (cx.md f) 0 as).map (·.1))=true/\as.length<=1000/\a3j as=true))
 let(res,outs) <-up (doCall f as)
 --b is only lent a in no result
 up (need (ids.all (fun x=>x.2)=true\/(hasList res=false/\outs.any G3=false)))
 a2r (a2f (cx.md f) 0 args) outs
 match d with
 |none=>pure .undef
 |some d=>d8q d res
def rdOs:List Operand->Rd (List AV)
 |[]=> .ret []
 |x::r=>do let v <-rdO x;let a <-rdOs r;.ret (v::a)
def a2w(P:Program)(T X:Nat)(v:AV):RW AV:=
 match v with
 | .nil=>do
  let E <-up (elemOf P T)
  let o <-up (rd (.h X))
  wr [(.h X,.obj (I6 o+1) 0 (tyS P E).size [])]
  pure (.sl X (I6 o+1) none 0 0)
 | .sl id g none 0 n=>do
  let(m,s,es) <-up (rdNode id g none)
  if m=0 then do
   up (need (n<=es.length))
   if id=X then do
    wr [(.h X,.obj g 0 s (es.take n))]
    pure (.sl X g none 0 n)
   else do
    wr [(.h id,.dead g)]
    let o <-up (rd (.h X))
    wr [(.h X,.obj (I6 o+1) 0 s (es.take n))]
    pure (.sl X (I6 o+1) none 0 n)
  else pure v
 | .ptr id g none i j=>do
  let(m,s,es) <-up (rdNode id g none)
  if m=3/\id≠X/\P1 es=true then do
   wr [(.h id,.dead g)]
   let o <-up (rd (.h X))
   wr [(.h X,.obj (I6 o+1) 3 s es)]
   pure (.ptr X (I6 o+1) none i j)
  else pure v
 |v=>pure v
def fieldKs(P:Program)(T:Nat):List TK:=match(tyS P T).k with
 | .struct a=>a.map fun f=>(tyS P f.2).k
 |_=>[]
def e7i(P:Program)(T:Nat):Bool:=match P.underlying T with
 |some (.struct a)=>(a.toList.zipIdx.all fun f=>f.1.offset==f.2&&f.1.name != "_"&& !Q3 (tyS P f.1.type).k&& !a4n (tyS P f.1.type).k)
  && !P.stoodInHeld T&& !P.eqGuardType P.depth T&& !Q3 (tyS P T).k
 |_=>false
def a8z:Operand->Bool
 | .const _=>true
 |_=>false
def a4s(P:Program)(T:Nat):Bool:=match P.underlying T with
 |some (.interface _)=>true
 |_=>false
def a1y(P:Program)(T:Nat)(x y:Operand)(a:AV):Bool:=match a with
 | .agg _=>e7i P T
 | .val (.bool _)=>match(tyS P T).k with| .bool=>true|_=>false
 | .ifc=>a4s P T
 | .val .nilIface=>a4s P T&&(a8z x||a8z y)
 |_=>true
def opV(cx:Cx)(op:Op):Rd AV:=
 match op with
 | .move x=>rdO x
 | .pick c a b=>do
  let v <-rdO c
  match v with
  | .val (.bool true)=>rdO a
  | .val (.bool false)=>rdO b
  |_=> .fail
 | .build T parts=>c7c cx.P T parts.toList
 | .load T a=>do let v <-rdO a;loadG cx T v
 | .lookup T x k ok=>do let m <-rdO x;let i <-rdO k;lookupA cx T m i ok
 | .nilCheck x=>do
  let v <-rdO x
  match v with
  | .ptr id g p i j=> .ret (.ptr id g p i j)
  | .ipt e j=> .ret (.ipt e j)
  |_=> .fail
 | .binOp op T x y _=>do
  let a <-rdO x
  let b <-rdO y
  need (a1y cx.P T x y a=true)
  a3s (fieldKs cx.P T) op a b
 | .unOp op _ x=>do let a <-rdO x;unA op a
 | .convert s t x=>do
  let a <-rdO x
  match a with
  | .val v=>e1c cx.P s t (.val v)
  |a=>e0m cx.P s t a
 | .makeFunc (.func f) first caps=>do
  need (first.size=0)
  let cs <-rdOs caps.toList
  .ret (.clo f cs)
 | .slice T x h d l=>do let v <-rdO x;sliceA cx.P T v h d l
 | .fieldAddr T x f=>do let v <-rdO x;fieldAddrA cx.P T v f
 | .field T x f=>do let v <-rdO x;fieldA cx.P T v f
 | .indexAddr T x i=>do let v <-rdO x;let k <-rdO i;indexAddrA cx.P T v k
 | .index T x i=>do let v <-rdO x;let k <-rdO i;indexA cx.P T v k
 | .extract x i=>do
  let v <-rdO x
  match v with
  | .tup vs=>match vs[i]? with
   |some u=> .ret u
   |none=> .fail
  |_=> .fail
 | .call c=>match c.callee with
  | .builtin .len=>match c.args.toList,c.argTypes.toList with
   |[x],[T]=>do let v <-rdO x;need (lenOk cx.P T v);lenA v
   |_,_=> .fail
  | .builtin .max=>do
   let vs <-rdOs c.args.toList
   match vs with
   |a::r=>foldA max2 a r
   |[]=> .fail
  | .builtin .min=>do
   let vs <-rdOs c.args.toList
   match vs with
   |a::r=>foldA min2 a r
   |[]=> .fail
  |_=> .fail
 |_=> .fail
def P2:TK->Bool
 | .slice _=>true
 |_=>false
def aopV(cx:Cx)(o:Oper):RW AV:=
 match o.op with
 | .assign x=>do
  let v <-up (rdO x)
  match o.dst with
  |some X=>a2w cx.P o.type X v
  |none=>pure v
 | .alloc T=>do
  let d <-up (dstOf o)
  let e <-up (rd (.h d))
  up (need ((leaves (tyS cx.P T).zero).length=(tyS cx.P T).size/\O7 (tyS cx.P T).zero=true))
  wr [(.h d,.obj (I6 e+1) 3 (tyS cx.P T).size [(tyS cx.P T).zero])]
  pure (.ptr d (I6 e+1) none 0 0)
 | .box _ x=>do
  let d <-up (dstOf o)
  let v <-up (rdO x)
  let m <-absorb 3 d 0 ((leaves v).map fun _=>AV.nil) v
  let e <-up (rd (.h d))
  wr [(.h d,.obj (I6 e+1) 3 (leaves v).length [m])]
  pure (.ptr d (I6 e+1) none 0 0)
 | .buildSlice T n parts=>do
  let d <-up (dstOf o)
  let E <-up (elemOf cx.P T)
  up (need (n*(tyS cx.P E).size<=16777216/\(leaves (tyS cx.P E).zero).length=(tyS cx.P E).size/\O7 (tyS cx.P E).zero=true/\0<(tyS cx.P E).size))
  let es <-a0x (if cx.fzB T d=true then 2 else 0) (tyS cx.P E).size (ZP n (tyS cx.P E).zero) parts.toList
  let e <-up (rd (.h (tid d 0)))
  wr [(.h (tid d 0),.obj (I6 e+1) 0 (tyS cx.P E).size es)]
  pure (.sl (tid d 0) (I6 e+1) none 0 n)
 | .makeSlice T l c=>do
  let d <-up (dstOf o)
  let vl <-up (rdO l)
  let vc <-up (rdO c)
  let n <-up (asNat vl)
  let j <-up (asNat vc)
  let E <-up (elemOf cx.P T)
  up (need (n=j/\n<=H0/\(tyS cx.P E).bytes<=4096/\(leaves (tyS cx.P E).zero).length=(tyS cx.P E).size/\O7 (tyS cx.P E).zero=true/\0<(tyS cx.P E).size))
  let e <-up (rd (.h (tid d 0)))
  wr [(.h (tid d 0),.obj (I6 e+1) 0 (tyS cx.P E).size (ZP n (tyS cx.P E).zero))]
  pure (.sl (tid d 0) (I6 e+1) none 0 n)
 | .call c=>match c.callee with
  | .builtin .append=>match c.args.toList,c.argTypes.toList with
   |[x,y],[T,g]=>do
    let d <-up (dstOf o)
    up (need (P2 (tyS cx.P g).k=true))
    let a <-up (rdO x)
    let b <-up (rdO y)
    a6j cx.P d T a b
   |_,_=>RW.fail
  | .builtin .copy=>match c.args.toList,c.argTypes.toList with
   |[x,y],[T,_]=>do
    let a <-up (rdO x)
    let b <-up (rdO y)
    e1d cx.P T a b
   |_,_=>RW.fail
  | .value f=>do
   let i <-up (rdO f)
   let vs <-up (rdOs c.args.toList)
   match i with
   | .clo k caps=>d3q cx o.dst k (vs++caps)
   |_=>RW.fail
  |_=>up (opV cx o.op)
 | .store T a x=>do
  up (need (o.dst=none))
  let p <-up (rdO a)
  let v <-up (rdO x)
  b3k cx.P T p v
  pure .undef
 |op=>up (opV cx op)
def aop(cx:Cx)(o:Oper):RW Unit:=do
 let v <-aopV cx o
 wr (setD o v)
def V7(cx:Cx)(ops:Array Oper)(o:Oper):RW Unit:=
 match o.guard with
 |none=>aop cx o
 |some (g,want)=>match(ops[g]?).bind (·.dst)with
  |some d=>do
   let v <-up (rd (.t d))
   match v with
   | .val (.bool b)=>if b=want then aop cx o else wr (setD o (.val Yj))
   | .val (.tuple _)=>wr (setD o (.val Yj))
   |_=>RW.fail
  |none=>RW.fail
abbrev Caller:=Nat->List AV->Option (AV×List (List AV))
abbrev Log:=List Loc×List Loc
def S2(C:Caller)(cx:Cx)(ops:Array Oper):List Oper->St->Option (Ws×List Log)
 |[],_=>some ([],[])
 |o::r,st=>match Rd.run (α:=Unit×Ws) C st (V7 cx ops o)with
  |some ((_,ws),rs)=>match S2 C cx ops r (st.upds ws)with
   |some (a,b)=>some (ws++a,(rs,ws.map (·.1))::b)
   |none=>none
  |none=>none
def hasLoc(ls:List Loc)(l:Loc):Bool:=ls.any (Loc.beq l)
def clash(a b:Log):Bool:=a.2.any (fun l=>hasLoc b.1 l||hasLoc b.2 l)||a.1.any (fun l=>hasLoc b.2 l)
def anc(o:Oper)(acc:List Nat):Nat:=
 o.after.toList.foldl (fun s e=>if Xc .any e then s|||(2^e.on)|||acc.getD e.on 0 else s) 0
def Y8:List Oper->List Log->List (Log×Nat)->Bool
 |o::os,l::ls,prev=>
  let a:=anc o (prev.map (·.2))
  prev.zipIdx.all (fun x=> !clash x.1.1 l||a.testBit x.2)&&Y8 os ls (prev++[(l,a)])
 |_,_,_=>true
def b3o(ops:Array Oper):List Nat->List Nat->Bool
 |[],seen=>(Yb ops.size).all fun i=>seen.contains i
 |t::a,seen=>(match ops[t]? with
  |some o=>o.after.toList.all fun e=> !Region.binds .any e||seen.contains e.on
  |none=>false)&&b3o ops a (t::seen)
def a9f(ops:Array Oper):Bool:=b3o ops (Yb ops.size) []||b3o ops (Region.linearise .any ops 0) []
def keepLoc(keep:List Nat):Loc->Bool
 | .t i=>keep.contains i
 | .h i=>keep.contains (i%100000)
mutual
def refsOk(keep:List Nat):AV->Bool
 | .sl id _ _ _ _=>keep.contains (id%100000)
 | .asl id _ _ _ _=>keep.contains (id%100000)
 | .ptr id _ _ _ _=>keep.contains (id%100000)
 | .agg a=>V2 keep a
 | .tup vs=>V2 keep vs
 | .clo _ cs=>V2 keep cs
 |_=>true
def V2(keep:List Nat):List AV->Bool
 |[]=>true
 |a::r=>refsOk keep a&&V2 keep r
end
def keptWs(keep:List Nat)(ws:Ws):Ws:=ws.filter fun w=>keepLoc keep w.1
def tRefsOk(keep:List Nat)(ws:Ws):Bool:=ws.all fun w=>match w.2 with
 | .obj _ m _ es=>if m=3\/m=4 then V2 keep es else G4 es||V2 keep es
 | .dead _=>true
 |a=>refsOk keep a
def X5(C:Caller)(cx:Cx)(keep:List Nat)(ops:Array Oper)(draw:Bool)(st:St):Option St:=
 match S2 C cx ops ops.toList st with
 |some (ws,a)=>if(draw=true->Y8 ops.toList a []=true/\a9f ops=true)/\tRefsOk keep (keptWs keep ws)=true then some (st.upds (keptWs keep ws))else none
 |none=>none
inductive AExit where
 |normal
 |exit (id:Nat)
 |ret
def opA(st:St):Operand->AV
 | .tmp t=>st (.t t)
 | .const v=>ofConst v
 |_=> .undef
def codeDsts:Code->List Nat
 | .region _ ops _=>ops.toList.flatMap fun o=>o.dst.toList
 | .seq a b=>codeDsts a++codeDsts b
 | .cond _ a b=>codeDsts a++codeDsts b
 | .block _ b=>codeDsts b
 | .loop b=>codeDsts b
 | .rangeFunc _ c a b=>c.toList++codeDsts a++codeDsts b
 |_=>[]
def T7:Code->Bool
 | .rangeFunc .. =>false
 | .seq a b=>T7 a&&T7 b
 | .cond _ a b=>T7 a&&T7 b
 | .block _ b=>T7 b
 | .loop b=>T7 b
 |_=>true
def asgOps:List Oper->Option (List (Nat×Nat))
 |[]=>some []
 |o::r=>match o.dst,o.op,o.guard,asgOps r with
  |some d,.assign (.tmp p),none,some l=>some ((d,p)::l)
  |_,_,_,_=>none
def codeAsg:Code->Option (List (Nat×Nat))
 | .skip=>some []
 | .region _ ops false=>asgOps ops.toList
 | .seq a b=>match codeAsg a,codeAsg b with
  |some l,some c=>some (l++c)
  |_,_=>none
 |_=>none
def maskS(a:List Nat)(st:St):St:=fun l=>match l with
 | .t i=>if a.contains i then .undef else st (.t i)
 | .h i=>st (.h i)
def f0m(keep:List Nat)(l:List (Nat×Nat))(s:St):St:=l.foldl (fun s x=>if keep.contains x.1 then s.upd (.t x.1) (s (.t x.2))else s) s
def startS(keep ps:List Nat)(l:List (Nat×Nat))(a:List Nat)(vs:List Value)(st:St):St:=
 f0m keep l ((maskS a st).upds (keptWs keep ((ps.zip vs).map fun x=>(.t x.1,.val x.2))))
def arounds(run:St->Option (AExit×St))(start:List Value->St->St)(a:St->St):List (List Value)->St->Option St
 |[],st=>some (a st)
 |vs::r,st=>match run (start vs st)with
  |some (.normal,st')=>arounds run start a r st'
  |_=>none
open Classical in
noncomputable def a5v(run:St->Option (AExit×St))(start:List Value->St->St)(a:St->St)(xs:List (List Value))(st:St):Option (AExit×St):=
 if∀ys,(∀y∈ys,y∈xs)->ys.length<=xs.length->(arounds run start a ys st).isSome=true then(arounds run start a xs st).map fun s=>(.normal,s)else none
noncomputable def aexec(C:Caller)(cx:Cx)(keep:List Nat):Nat->Code->St->Option (AExit×St)
 |0,_,_=>none
 |n+1,c,st=>match c with
  | .skip=>some (.normal,st)
  | .region _ ops draw=>match X5 C cx keep ops draw st with
   |some st'=>some (.normal,st')
   |none=>none
  | .seq a b=>match aexec C cx keep n a st with
   |some (.normal,d)=>aexec C cx keep n b d
   |r=>r
  | .cond c a b=>match opA st c with
   | .val (.bool true)=>aexec C cx keep n a st
   | .val (.bool false)=>aexec C cx keep n b st
   |_=>none
  | .block id b=>match aexec C cx keep n b st with
   |some (.exit i,d)=>if i=id then some (.normal,d)else some (.exit i,d)
   |r=>r
  | .loop b=>match aexec C cx keep n b st with
   |some (.normal,d)=>aexec C cx keep n (.loop b) d
   |r=>r
  | .exit i=>some (.exit i,st)
  | .ret=>some (.ret,st)
  | .rangeFunc g e a b=>match opA st g,codeAsg a with
   | .clo k caps,some l=>match(cx.it k).bind fun F=>F caps with
    |some xs=>if T7 b=true/\caps.all a3y=true/\(xs.all fun vs=>vs.length==e.size)=true then
     a5v (fun s=>aexec C cx keep n b s) (startS keep e.toList l (codeDsts (.rangeFunc g e a b))) (maskS (codeDsts (.rangeFunc g e a b))) xs st
     else none
    |none=>none
   |_,_=>none
  |_=>none
def c7n(x:Operand):List Nat:=match x with
 | .tmp t=>[t]
 |_=>[]
def f3j(o:Oper):List Nat:=o.op.operands.toList.flatMap c7n
def S1:Code->List Nat
 | .region _ ops _=>(ops.toList.foldl (fun(acc:List Nat×List Nat) o=>
   ((f3j o).filter (fun t=> !acc.2.contains t)++acc.1,o.dst.toList++acc.2)) ([],[])).1
 | .seq a b=>S1 a++S1 b
 | .cond c a b=>c7n c++S1 a++S1 b
 | .block _ b=>S1 b
 | .loop b=>S1 b
 | .scope b=>S1 b
 | .rangeFunc g _ a b=>c7n g++S1 a++S1 b
 |_=>[]
def O8(n:Nat):Code->Bool
 | .region _ ops _=>ops.all fun o=>match o.dst with|some d=>decide (d<n/\d<100000)|none=>true
 | .seq a b=>O8 n a&&O8 n b
 | .cond _ a b=>O8 n a&&O8 n b
 | .block _ b=>O8 n b
 | .loop b=>O8 n b
 | .skip=>true
 | .exit _=>true
 | .ret=>true
 | .rangeFunc _ c a b=>(c.toList.all fun d=>decide (d<n/\d<100000))&&O8 n a&&O8 n b
 |_=>false
def e3x(acc:List (Nat×List Nat))(o:Oper):List (Nat×List Nat):=
 let look (x:Operand):List Nat:=match x with
  | .tmp t=>((acc.find? fun y=>y.1==t).map (·.2)).getD []
  |_=>[]
 match o.dst with
 |none=>acc
 |some d=>(d,match o.op with
  | .move x=>look x
  | .slice _ x _ _ _=>look x
  | .extract x _=>look x
  | .pick _ a b=>look a++look b
  | .build _ c=>c.toList.flatMap fun y=>look y.2
  | .buildSlice .. =>[d]
  | .makeSlice .. =>[d]
  | .call _=>[d]
  | .box .. =>[d]
  | .alloc .. =>[d]
  |_=>[])::acc
def a2u(keep:List Nat):Code->List Nat
 | .region _ ops _=>
  let acc:=ops.toList.foldl e3x []
  (acc.flatMap fun y=>if keep.contains y.1 then y.2 else[])++ops.toList.flatMap fun o=>match o.op with
   | .store _ _ (.tmp t)=>((acc.find? fun y=>y.1==t).map (·.2)).getD []
   |_=>[]
 | .seq a b=>a2u keep a++a2u keep b
 | .cond _ a b=>a2u keep a++a2u keep b
 | .block _ b=>a2u keep b
 | .loop b=>a2u keep b
 | .rangeFunc _ _ a b=>a2u keep a++a2u keep b
 |_=>[]
def f3e:ResultVar->Nat
 | .tmp t=>t
 | .cell a _=>a
def D9(fn:Func):List Nat:=
 match fn.body with
 |none=>[]
 |some c=>
  let k:=(Yb (fn.params.size+fn.nfree))++fn.results.toList.map f3e++S1 c
  (k++a2u k c).eraseDups
def initCaps(i:Nat):Nat->List AV->List AV
 |_,[]=>[]
 |k,c::r=>(match c with
  | .ownp _ a b=> .ptr (fid i k) 1 none a b
  |c=>c)::initCaps i (k+1) r
def initLoc(md:Nat->Nat)(args:List AV):St
 | .t i=>match args[i]? with
  |some (.own _ es)=> .sl i 1 none 0 es.length
  |some (.ownp _ a b)=> .ptr i 1 none a b
  |some (.clo f caps)=> .clo f (initCaps i 0 caps)
  |some a=>a
  |none=> .undef
 | .h i=>if i<100000 then match args[i]? with
   |some (.own s es)=> .obj 1 (if md i=2 then 0 else 1) s es
   |some (.ownp es _ _)=> .obj 1 4 0 es
   |_=> .undef
  else match args[i%100000]? with
   |some (.clo _ caps)=>if i<1000000 then match caps[i/100000-1]? with
    |some (.ownp es _ _)=> .obj 1 4 0 es
    |_=> .undef
    else .undef
   |_=> .undef
def d1k(id i j:Nat):RW Unit:=do
 let o <-up (rd (.h id))
 match o with
 | .obj g m s es=>match es[i]? with
  |some e=>wr [(.h id,.obj g m s (es.set i (putAt e j .undef)))]
  |none=>RW.fail
 |_=>RW.fail
def a1r(v:AV):RW AV:=
 match v with
 | .sl id g p off n=>do
  let(m,s,es) <-up (rdNode id g p)
  if m=0/\off=0 then do
   up (need (n<=es.length/\G4 es=true))
   match p with
   |none=>wr [(.h id,.dead g)]
   |some (i,j)=>d1k id i j
   pure (.own s (es.take n))
  else do
   let es <-freeze v
   pure (.list es)
 | .val v=>pure (.val v)
 | .ifc=>pure .ifc
 | .nil=>pure .nil
 | .list es=>pure (.list es)
 | .clo k cs=>do up (need (cs.all a3y=true));pure (.clo k cs)
 |_=>RW.fail
def a5l(v:AV):RW AV:=
 match v with
 | .sl id g p off n=>do
  let es <-freeze (.sl id g p off n)
  pure (.list es)
 | .nil=>pure (.list [])
 |v=>a1r v
def retLf(b:Bool)(v:AV):RW AV:=if b=true then a5l v else a1r v
def retLeaves(b:Bool):List AV->RW (List AV)
 |[]=>pure []
 |v::r=>do
  let c <-retLf b v
  let a <-retLeaves b r
  pure (c::a)
def ret1(b:Bool)(v:AV):RW AV:=
 match v with
 | .agg c=>do let a <-retLeaves b c;pure (.agg a)
 | .ptr id g none i j=>do
  let(m,_,es) <-up (rdNode id g none)
  up (need (m=3/\P1 es=true/\i=0))
  wr [(.h id,.dead g)]
  pure (.ownp es 0 j)
 |v=>a1r v
def retVar(P:Program)(b:Bool)(r:ResultVar):RW AV:=
 match r with
 | .tmp t=>do let v <-up (rd (.t t));ret1 b v
 | .cell a T=>do
  let p <-up (rd (.t a))
  match p with
  | .ptr id g q i j=>do let v <-up (loadA P T (.ptr id g q i j));ret1 b v
  |_=>RW.fail
def retAll(P:Program)(b:Bool):List ResultVar->RW (List AV)
 |[]=>pure []
 |r::rs=>do
  let v <-retVar P b r
  let vs <-retAll P b rs
  pure (v::vs)
def outsOf(st:St):List Cid->Option (List (List AV))
 |[]=>some []
 |(a,m,s)::r=>match st (.h a)with
  | .obj b c d es=>if b=1/\c=m/\d=s/\G4 es=true then(outsOf st r).map (es:: ·)else none
  |_=>none
def V4:List AV->AV
 |[v]=>v
 |vs=> .tup vs
noncomputable def acall(cx:Cx):Nat->Caller
 |0,_,_=>none
 |n+1,f,args=>match cx.ext f with
  |some F=>F args
  |none=>match cx.P.funcs[f]? with
   |none=>none
   |some fn=>match fn.body with
    |none=>none
    |some c=>
     if O8 fn.ntmps c=true/\args.length=fn.params.size+fn.nfree/\args.length<=fn.ntmps/\args.length<=1000/\(fn.name== "runtime.NumGoroutine")=false then
      match aexec (acall cx n) cx (D9 fn) n c (initLoc (cx.md f) args)with
      |some (.exit _,_)=>none
      |some (_,st)=>match Rd.run (α:=List AV×Ws) (acall cx n) st (retAll cx.P (cx.fz f) fn.results.toList)with
       |some ((vs,ws),_)=>match outsOf (st.upds ws) (cidAll (cx.md f) 0 args)with
        |some outs=>some (V4 vs,outs)
        |none=>none
       |none=>none
      |none=>none
     else none
theorem Loc.beq_iff(a b:Mv.Loc):Loc.beq a b=true↔a=b:=by
 cases a<;>cases b<;>simp[Loc.beq]
theorem Loc.beq_false(a b:Mv.Loc):Loc.beq a b=false↔a≠b:=by
 rw[<-Bool.not_eq_true,Loc.beq_iff]
theorem St.upd_eq(st:St)(l:Mv.Loc)(a:AV):st.upd l a l=a:=by
 simp[St.upd,(Loc.beq_iff l l).2 U]
theorem St.upd_ne(st:St){l k:Mv.Loc}(a:AV)(h:k≠l):st.upd l a k=st k:=by
 simp[St.upd,(Loc.beq_false k l).2 h]
theorem St.upds_append(st:St)(a b:Ws):st.upds (a++b)=(st.upds a).upds b:=by
 induction a generalizing st with
 |nil=>rfl
 |cons x a c=>obtain⟨l,v⟩:=x;exact c _
theorem St.upds_notin(st:St)(ws:Ws)(k:Mv.Loc)(h:∀w∈ws,w.1≠k):st.upds ws k=st k:=by
 induction ws generalizing st with
 |nil=>rfl
 |cons x a b=>
  obtain⟨l,v⟩:=x;rw[St.upds,b _ (fun w hw=>h w (Zn _ hw)),St.upd_ne];exact fun e=>h (l,v) (Zr ..) e.symm
theorem St.upds_congr{st st':St}(ws:Ws)(k:Mv.Loc)(h:st k=st' k):st.upds ws k=st'.upds ws k:=by
 induction ws generalizing st st' with
 |nil=>exact h
 |cons x a b=>
  obtain⟨l,v⟩:=x;refine b ?_;by_cases e:k=l
  ·subst e;rw[St.upd_eq,St.upd_eq]
  ·rw[St.upd_ne _ _ e,St.upd_ne _ _ e,h]
theorem St.upds_in{st st':St}(ws:Ws)(k:Mv.Loc)(h:∃w∈ws,w.1=k):st.upds ws k=st'.upds ws k:=by
 induction ws generalizing st st' with
 |nil=>obtain⟨w,hw,_⟩:=h;cases hw
 |cons x a c=>
  obtain⟨l,v⟩:=x;by_cases e:k=l
  ·subst e
   exact St.upds_congr a k (by rw[St.upd_eq,St.upd_eq])
  ·refine c ?_
   obtain⟨w,hw,b⟩:=h;cases hw with
   |head=>exact(e b.symm).elim
   |tail _ hw=>exact⟨w,hw,b⟩
theorem a6d(ls:List Mv.Loc)(l:Mv.Loc):hasLoc ls l=true↔l∈ls:=by
 simp only[hasLoc,List.any_eq_true,Loc.beq_iff];constructor
 ·rintro⟨x,a,rfl⟩;exact a
 ·exact fun h=>⟨l,h,U⟩
theorem St.upds_comm(st:St)(a b:Ws)(h:∀l,l∈a.map (·.1)->l∈b.map (·.1)->False):(st.upds a).upds b=(st.upds b).upds a:=by
 funext k
 by_cases d:k∈a.map (·.1)
 ·have f:∀w∈b,w.1≠k:=fun w hw e=>h k d (e▸List.mem_map_of_mem hw)
  rw[St.upds_notin _ b k f];obtain⟨w,hw,e⟩:=ZI.1 d;exact St.upds_in a k ⟨w,hw,e⟩
 ·have c:∀w∈a,w.1≠k:=fun w hw e=>d (e▸List.mem_map_of_mem hw)
  rw[St.upds_notin (st.upds b) a k c];exact St.upds_congr b k (St.upds_notin st a k c)
namespace Rd
variable{C:Caller}{st st':St}{α β:Type}
theorem run_local(x:Rd α){a:α}{ls:List Mv.Loc}(h:x.run C st=some (a,ls))(e:∀l∈ls,st' l=st l):x.run C st'=some (a,ls):=by
 induction x generalizing ls with
 |ret b=>simpa[run]using h
 |fail=>simp[run]at h
 |read l k c=>
  simp only[run]at h|-;cases g:(k (st l)).run C st with
  |none=>simp[g]at h
  |some r=>
   obtain⟨b,ms⟩:=r;simp only[g,Zb,Zk]at h;obtain⟨rfl,rfl⟩:=h;rw[e l (Zr ..),c _ g (fun m hm=>e m (Zn _ hm))]
 |need p d k c=>
  cases d with
  |isTrue _=>exact c h e
  |isFalse _=>simp[run]at h
 |call f args k c=>
  simp only[run]at h|-;cases i:C f args with
  |none=>simp[i]at h
  |some r=>
   obtain⟨r,o⟩:=r;simp only[i]at h|-;exact c _ _ h e
def ev(C:Caller)(st:St)(x:Rd α):Option α:=(x.run C st).map (·.1)
theorem ev_of_run{x:Rd α}{a:α}{ls:List Mv.Loc}(h:x.run C st=some (a,ls)):x.ev C st=some a:=by simp[ev,h]
@[simp] theorem ev_ret(a:α):(Rd.ret a).ev C st=some a:=rfl
@[simp] theorem ev_pure(a:α):(pure a:Rd α).ev C st=some a:=rfl
@[simp] theorem ev_fail:(Rd.fail:Rd α).ev C st=none:=rfl
@[simp] theorem ev_read(l:Mv.Loc)(k:AV->Rd α):(Rd.read l k).ev C st=(k (st l)).ev C st:=by
 simp only[ev,run];cases(k (st l)).run C st<;>rfl
@[simp] theorem ev_needc(p:Prop)(d:Decidable p)(k:Rd α):(Rd.need p d k).ev C st=if p then k.ev C st else none:=by
 cases d with
 |isTrue h=>simp[ev,run,h]
 |isFalse h=>simp[ev,run,h]
theorem ev_callc(f:Nat)(args:List AV)(k:AV->List (List AV)->Rd α):
 (Rd.call f args k).ev C st=(C f args).bind fun r=>(k r.1 r.2).ev C st:=by
 simp only[ev,run];cases C f args<;>rfl
theorem ev_bind'(x:Rd α)(f:α->Rd β):(x.bind f).ev C st=(x.ev C st).bind fun a=>(f a).ev C st:=by
 induction x with
 |ret a=>rfl
 |fail=>rfl
 |read l k b=>simp only[Rd.bind,ev_read,b]
 |need p d k b=>simp only[Rd.bind,ev_needc,b];split<;>rfl
 |call g args k b=>
  simp only[Rd.bind,ev_callc,b];cases C g args<;>rfl
@[simp] theorem ev_bind(x:Rd α)(f:α->Rd β):(x>>=f).ev C st=(x.ev C st).bind fun a=>(f a).ev C st:=ev_bind' x f
end Rd
theorem c6c(ws:Ws)(st:St)(l:Mv.Loc):st.upds ws l=(Ws.look ws l).getD (st l):=by
 induction ws generalizing st with
 |nil=>rfl
 |cons x r b=>
  obtain⟨k,a⟩:=x;rw[St.upds,b,Ws.look];cases Ws.look r l with
  |some v=>rfl
  |none=>
   simp only[Option.getD_none];unfold St.upd;split<;>rfl
theorem Rd.ev_over{C:Caller}{st:St}{α:Type}(ws:Ws)(x:Rd α):(x.over ws).ev C st=x.ev C (st.upds ws):=by
 induction x with
 |ret a=>rfl
 |fail=>rfl
 |read l k b=>
  simp only[Rd.over,Rd.ev_read,c6c];cases Ws.look ws l with
  |some v=>simp only[Option.getD_some];exact b v
  |none=>simp only[Option.getD_none,Rd.ev_read];exact b _
 |need p d k b=>simp only[Rd.over,Rd.ev_needc,b]
 |call f args k b=>simp only[Rd.over,Rd.ev_callc,b]
def RW.go{α:Type}(C:Caller)(st:St)(x:RW α):Option (α×St):=(Rd.ev (α:=α×Ws) C st x).map fun r=>(r.1,st.upds r.2)
theorem RW.go_of_ev{α:Type}{C:Caller}{st:St}{x:RW α}{a:α}{ws:Ws}(h:Rd.ev (α:=α×Ws) C st x=some (a,ws)):x.go C st=some (a,st.upds ws):=by
 unfold RW.go;rw[h];rfl
@[simp] theorem RW.go_pure{α:Type}{C:Caller}{st:St}(a:α):(pure a:RW α).go C st=some (a,st):=rfl
@[simp] theorem RW.go_fail{α:Type}{C:Caller}{st:St}:(RW.fail:RW α).go C st=none:=rfl
@[simp] theorem RW.go_wr{C:Caller}{st:St}(ws:Ws):(wr ws).go C st=some ((),st.upds ws):=rfl
theorem RW.go_up'{α:Type}{C:Caller}{st:St}(x:Rd α):((Rd.bind x fun a=>Rd.ret (a,([]:Ws))).ev C st).map (fun r=>(r.1,st.upds r.2))=(x.ev C st).map fun a=>(a,st):=by
 rw[Rd.ev_bind'];cases x.ev C st<;>rfl
@[simp] theorem RW.go_up{α:Type}{C:Caller}{st:St}(x:Rd α):(up x).go C st=(x.ev C st).map fun a=>(a,st):=RW.go_up' x
theorem RW.go_bind'{α β:Type}{C:Caller}{st:St}(x:Rd (α×Ws))(f:α->Rd (β×Ws)):
 ((Rd.bind x fun a=>Rd.bind (Rd.over a.2 (f a.1)) fun b=>Rd.ret (b.1,a.2++b.2)).ev C st).map (fun r=>(r.1,st.upds r.2))=
  ((x.ev C st).map fun r=>(r.1,st.upds r.2)).bind fun r=>((f r.1).ev C r.2).map fun c=>(c.1,r.2.upds c.2):=by
 rw[Rd.ev_bind'];cases h:x.ev C st with
 |none=>rfl
 |some r=>
  obtain⟨a,ws⟩:=r;simp only[Zl,ZA];rw[Rd.ev_bind',Rd.ev_over];cases d:(f a).ev C (st.upds ws)with
  |none=>rfl
  |some c=>simp[St.upds_append]
@[simp] theorem RW.go_bind{α β:Type}{C:Caller}{st:St}(x:RW α)(f:α->RW β):
 (x>>=f).go C st=(x.go C st).bind fun r=>(f r.1).go C r.2:=RW.go_bind' x f
@[simp] theorem Y3{C:Caller}{st:St}(l:Mv.Loc):(rd l).ev C st=some (st l):=by simp[rd]
@[simp] theorem F6{C:Caller}{st:St}(p:Prop)[Decidable p]:(need p).ev C st=if p then some ()else none:=by simp[need]
@[simp] theorem e3k{C:Caller}{st:St}(f:Nat)(args:List AV):(doCall f args).ev C st=C f args:=by
 simp only[doCall,Rd.ev_callc];cases C f args<;>rfl
section orders
variable(C:Caller)(cx:Cx)(ops:Array Oper)
inductive Runs:St->List Nat->List Log->St->Prop
 |nil (st:St):Runs st [] [] st
 |cons {st st':St} {i:Nat} {o:Oper} {ws:Ws} {rs:List Mv.Loc} {l:List Nat} {lg:List Log} (ho:ops[i]? =some o)
  (h:Rd.run (α:=Unit×Ws) C st (V7 cx ops o)=some (((),ws),rs)) (r:Runs (st.upds ws) l lg st'):Runs st (i::l) ((rs,ws.map (·.1))::lg) st'
theorem d6c{a b:Log}(h:clash a b=false):
 (∀l∈a.2,l∉b.1/\l∉b.2)/\(∀l∈a.1,l∉b.2):=by
 simp only[clash,Bool.or_eq_false_iff,List.any_eq_false]at h;obtain⟨d,e⟩:=h;refine⟨fun l c=> ?_,fun l c=> ?_⟩
 ·have:=d l c
  simp only[Bool.or_eq_true,a6d,not_or]at this;exact this
 ·have:=e l c
  simpa only[a6d]using this
variable{C cx ops}
theorem e6o{st:St}{h i:Oper}{a b:Ws}{d f:List Mv.Loc}(k:Rd.run (α:=Unit×Ws) C st (V7 cx ops h)=some (((),a),d))
 (m:Rd.run (α:=Unit×Ws) C (st.upds a) (V7 cx ops i)=some (((),b),f)) (n:clash (d,a.map (·.1)) (f,b.map (·.1))=false):
 Rd.run (α:=Unit×Ws) C st (V7 cx ops i)=some (((),b),f)/\Rd.run (α:=Unit×Ws) C (st.upds b) (V7 cx ops h)=some (((),a),d)/\(st.upds a).upds b=(st.upds b).upds a:=by
 obtain⟨g,j⟩:=d6c n;refine⟨Rd.run_local _ m fun l c=> ?_,Rd.run_local _ k fun l c=> ?_,St.upds_comm _ _ _ fun l x y=>(g l x).2 y⟩
 ·exact(St.upds_notin _ _ _ fun w hw e=>(g l (ZI.2 ⟨w,hw,e⟩)).1 c).symm
 ·exact St.upds_notin _ _ _ fun w hw e=>j l c (ZI.2 ⟨w,hw,e⟩)
theorem Runs.front{i:Nat}{gi:Log}{j:List Nat}{g2:List Log}{st':St}:
 ∀(b:List Nat) (g1:List Log) (st:St),b.length=g1.length->Runs C cx ops st (b++i::j) (g1++gi::g2) st'->
  (∀x∈g1,clash x gi=false)->Runs C cx ops st (i::(b++j)) (gi::(g1++g2)) st':=by
 intro b
 induction b with
 |nil=>
  intro g1 st c h _;cases g1 with
  |nil=>exact h
  |cons x g=>simp at c
 |cons a b n=>
  intro g1 st c h f;cases g1 with
  |nil=>simp at c
  |cons t g1=>
   simp only[List.cons_append]at h;cases h with
   |cons d k r=>
    have:=n g1 _ (by simpa using c) r (fun x m=>f x (Zn _ m));cases this with
    |cons e l s=>
     obtain⟨o,p,q⟩:=e6o k l (f _ (Zr ..));exact .cons e o (.cons d p (q▸s))
end orders
theorem b9k{C:Caller}{cx:Cx}{ops:Array Oper}:∀(l:List Oper) (k:Nat) (st:St) (ws:Ws) (a:List Log),
 (∀j,l[j]? =ops[k+j]?)->S2 C cx ops l st=some (ws,a)->Runs C cx ops st (List.range' k l.length) a (st.upds ws)/\a.length=l.length:=by
 intro l
 induction l with
 |nil=>
  intro k st ws a _ h;simp only[S2,Zb,Zk]at h;obtain⟨rfl,rfl⟩:=h;exact⟨.nil _,U⟩
 |cons o l g=>
  intro k st ws a e h;simp only[S2]at h;cases b:Rd.run (α:=Unit×Ws) C st (V7 cx ops o)with
  |none=>simp[b]at h
  |some r=>
   obtain⟨⟨⟨⟩,d⟩,rs⟩:=r;simp only[b]at h;cases c:S2 C cx ops l (st.upds d)with
   |none=>simp[c]at h
   |some p=>
    obtain⟨q,i⟩:=p;simp only[c,Zb,Zk]at h;obtain⟨rfl,rfl⟩:=h;obtain⟨m,n⟩:=g (k+1) _ _ _ (fun j=>by have:=e (j+1);simpa[YK,Nat.add_comm 1 j]using this) c;have f:ops[k]? =some o:=by simpa using(e 0).symm
    rw[St.upds_append];exact⟨.cons f b m,by simp[n]⟩
inductive Anc(ops:Array Oper):Nat->Nat->Prop
 |one {j:Nat} {o:Oper} {e:Edge} (ho:ops[j]? =some o) (he:e∈o.after) (hb:Xc .any e=true):Anc ops e.on j
 |step {i j:Nat} {o:Oper} {e:Edge} (h:Anc ops i e.on) (ho:ops[j]? =some o) (he:e∈o.after) (hb:Xc .any e=true):Anc ops i j
theorem d2w{acc:List Nat}(x:Nat):∀(es:List Edge) (s:Nat),
 (es.foldl (fun s e=>if Xc .any e then s|||(2^e.on)|||acc.getD e.on 0 else s) s).testBit x=true->
  s.testBit x=true\/∃e∈es,Xc .any e=true/\(e.on=x\/(acc.getD e.on 0).testBit x=true):=by
 intro es
 induction es with
 |nil=>intro s h;exact .inl h
 |cons e es d=>
  intro s h;simp only[List.foldl_cons]at h;rcases d _ h with h|⟨c,b,a,h⟩
  ·by_cases a:Xc .any e=true
   ·simp only[a,if_true,Nat.testBit_or,Bool.or_eq_true,Nat.testBit_two_pow,decide_eq_true_eq]at h
    rcases h with(h|h)|h
    ·exact .inl h
    ·exact .inr ⟨e,Zr ..,a,.inl h⟩
    ·exact .inr ⟨e,Zr ..,a,.inr h⟩
   ·simp only[a]at h
    exact .inl h
  ·exact .inr ⟨c,Zn _ b,a,h⟩
abbrev c8y(ops:Array Oper)(a b:Nat×Log):Prop:=clash a.2 b.2=false\/Anc ops a.1 b.1
theorem c1c{ops:Array Oper}:∀(l:List Oper) (b:List Log) (prev:List (Log×Nat)) (k:Nat),
 (∀j,l[j]? =ops[k+j]?)->prev.length=k->(∀i m x,prev[i]? =some m->m.2.testBit x=true->Anc ops x i)->
 b.length=l.length->Y8 l b prev=true->
  (∀(j:Nat) (g:Log),b[j]? =some g->∀(i:Nat) (m:Log×Nat),prev[i]? =some m->c8y ops (i,m.1) (k+j,g))/\
  ((List.range' k l.length).zip b).Pairwise (c8y ops):=by
 intro l
 induction l with
 |nil=>
  intro b prev k _ _ _ u _;have:b=[]:=by simpa using u
  subst this;exact⟨fun j g h=>by simp at h,by simp⟩
 |cons o l M=>
  intro b prev k G z hm u h;cases b with
  |nil=>simp at u
  |cons g b=>
   have E:ops[k]? =some o:=by simpa using(G 0).symm
   simp only[Y8,Zy]at h;obtain⟨J,K⟩:=h;have c:∀x,(anc o (prev.map (·.2))).testBit x=true->Anc ops x k:=by
    intro x q;unfold anc at q;rcases d2w x o.after.toList 0 q with h|⟨e,he,s,h⟩
    ·simp at h
    ·have p:e∈o.after:=by simpa using he
     rcases h with rfl|h
     ·exact .one E p s
     ·refine .step ?_ E p s
      have hlt:e.on<prev.length:=by
       rcases Nat.lt_or_ge e.on prev.length with n|n
       ·exact n
       ·rw[Zc,ZQ (by simpa using n)]at h
        simp at h
      have t:prev[e.on]? =some prev[e.on]:=Zg hlt;refine hm _ _ x t ?_;rw[Zc,ZE,t]at h;exact h
   obtain⟨H,O⟩:=M b (prev++[(g,anc o (prev.map (·.2)))]) (k+1)
    (fun j=>by have:=G (j+1);simpa[YK,Nat.add_comm 1 j]using this) (by simp[z]) (by
     intro i m x a q;by_cases hlt:i<prev.length
     ·rw[ZX hlt]at a
      exact hm i m x a q
     ·have:i=prev.length:=by
       rcases Nat.lt_or_ge prev.length i with n|n
       ·rw[ZQ (by simp;omega)]at a;simp at a
       ·omega
      subst this;simp only[List.getElem?_concat_length,Zb]at a;subst a;rw[z];exact c x q) (by simpa using u) K
   have d:∀(i:Nat) (m:Log×Nat),prev[i]? =some m->c8y ops (i,m.1) (k,g):=by
    intro i m a;have:=Zt.1 J (m,i) (by
     rw[ZG];exact⟨i,by simp[a]⟩)
    simp only[Bool.or_eq_true,Bool.not_eq_true']at this;rcases this with h|h
    ·exact .inl h
    ·exact .inr (c _ h)
   refine⟨?_,?_⟩
   ·intro j I f i m a
    cases j with
    |zero=>
     simp only[Zs,Zb]at f;subst f;exact d i m a
    |succ j=>
     have v:(prev++[(g,anc o (prev.map (·.2)))])[i]? =some m:=by
      rw[ZX (Zq.1 a).1];exact a
     have:=H j I (by simpa using f) i m v;rw[show k+(j+1)=k+1+j from by omega];exact this
   ·simp only[Ze,List.range'_succ,List.zip_cons_cons,List.pairwise_cons]
    refine⟨?_,O⟩;intro y L;obtain⟨j,f⟩:=ZG.1 L;have t:(prev++[(g,anc o (prev.map (·.2)))])[k]? =some (g,anc o (prev.map (·.2))):=by
     rw[<-z];simp
    rw[Xb]at f;obtain⟨r,s⟩:=f;have B:y.1=k+1+j:=by
     have hlt:=(Zq.1 r).1;rw[Zg hlt]at r;simp only[List.getElem_range',Nat.one_mul,Zb]at r;exact r.symm
    have:=H j y.2 s k _ t;rw[<-B]at this;exact this
theorem b0o{ops:Array Oper}{j:Nat}{listed:Array Bool}:j∈Xs .any ops listed↔
 listed.getD j true=false/\∃o,ops[j]? =some o/\∀e∈o.after,Xc .any e=true->listed.getD e.on false=true:=mem_ready
theorem c2t{ops:Array Oper}{listed:Array Bool}:∀(T seen:List Nat),b3o ops T seen=true->
 (∀i∈seen,listed.getD i false=true)->(∃j,j<ops.size/\listed.getD j true=false)->listed.size=ops.size->
 Xs .any ops listed≠[]:=by
 intro T
 induction T with
 |nil=>
  intro seen h d ⟨j,g,hu⟩ a;simp only[b3o,Zt,List.mem_range]at h;have b:=d j (by simpa using h j g);have:listed.getD j true=listed.getD j false:=by
   simp[Array.getD,a,g]
  rw[this,b]at hu;cases hu
 |cons t T p=>
  intro seen h d hex a;simp only[b3o,Zy]at h;obtain⟨b,l⟩:=h;cases c:ops[t]? with
  |none=>simp[c]at b
  |some o=>
   simp only[c,Zt]at b;have hlt:t<ops.size:=(ZC.1 c).1;by_cases k:listed.getD t true=false
   ·intro n
    have:t∈Xs .any ops listed:=b0o.2 ⟨k,o,c,fun e he m=>by
     have:=b e (by simpa using he);simp only[m,Bool.not_true,Bool.false_or]at this;exact d _ (by simpa using this)⟩
    rw[n]at this;cases this
   ·refine p (t::seen) l ?_ hex a
    intro i f;rcases ZM.1 f with rfl|f
    ·have:listed.getD i true=listed.getD i false:=by simp[Array.getD,a,hlt]
     rw[<-this];simpa using k
    ·exact d i f
section
variable{P:Program}{C:Caller}{cx:Cx}{ops:Array Oper}{Q:Exit->Act->World->Prop}
def d9h(d:Fence)(n:Nat)(P:Program)(C:Caller)(cx:Cx)(ops:Array Oper)(R:St->Act->World->Prop):Prop:=
 ∀(i:Nat) (o:Oper) (st:St) (a:Act) (w:World) (ws:Ws) (rs:List Mv.Loc) (K:Act->World->Prop) (Q:Exit->Act->World->Prop),
  ops[i]? =some o->Rd.run (α:=Unit×Ws) C st (V7 cx ops o)=some (((),ws),rs)->R st a w->(∀b c,R (st.upds ws) b c->K b c)->wpOpIn d n P ops Q i K a w
theorem c3h{Fc:Fence}{n:Nat}{R:St->Act->World->Prop}(J:d9h Fc n P C cx ops R)(l:a9f ops=true){st':St}
 (hQ:∀a w,R st' a w->Q .normal a w):
 ∀(fuel:Nat) (listed:Array Bool) (st:St) (a:Act) (w:World) (L:List Nat) (s:List Log),
  Runs C cx ops st L s st'->s.length=L.length->(L.zip s).Pairwise (c8y ops)->L.Nodup->
  (∀i,i∈L↔i<ops.size/\listed.getD i true=false)->listed.size=ops.size->
  (∀j o,ops[j]? =some o->listed.getD j false=true->∀e∈o.after,Xc .any e=true->listed.getD e.on false=true)->
  L.length<=fuel->R st a w->wpAnyIn Fc n P .any ops Q fuel listed a w:=by
 have E:∀(listed:Array Bool) (L:List Nat),(∀i,i∈L↔i<ops.size/\listed.getD i true=false)->listed.size=ops.size->
  Xs .any ops listed=[]->L=[]:=by
  intro listed L p b H;cases L with
  |nil=>rfl
  |cons x L=>
   have m:=(p x).1 (Zr ..);simp only[a9f,Bool.or_eq_true]at l;rcases l with h|h
   ·exact(c2t _ [] h (fun i T=>by cases T) ⟨x,m⟩ b H).elim
   ·exact(c2t _ [] h (fun i T=>by cases T) ⟨x,m⟩ b H).elim
 intro fuel
 induction fuel with
 |zero=>
  intro listed st a w L s H f _ _ p b _ y Z;have v:L=[]:=by simpa using y
  subst v;cases H;refine⟨?_,hQ _ _ Z⟩;cases I:Xs .any ops listed with
  |nil=>rfl
  |cons x xs=>
   have m:=b0o.1 (I▸Zr .. :x∈Xs .any ops listed);obtain⟨K,o,g,_⟩:=m;have:=(p x).2 ⟨(ZC.1 g).1,K⟩;cases this
 |succ fuel ih=>
  intro listed st a w L s H f G Y p b S y Z;refine⟨fun I=> ?_,fun i T=> ?_⟩
  ·have v:=E listed L p b I
   subst v;cases H;exact hQ _ _ Z
  ·obtain⟨a5,o,g,t⟩:=b0o.1 T
   have hlt:i<ops.size:=(ZC.1 g).1;have a6:i∈L:=(p i).2 ⟨hlt,a5⟩;obtain⟨c,M,rfl⟩:=List.append_of_mem a6
   --ac aa part alike
   obtain⟨g1,gi,g2,rfl,z,ab⟩:∃g1 gi g2,s=g1++gi::g2/\g1.length=c.length/\g2.length=M.length:=by
    refine⟨s.take c.length,s[c.length]'(by simp at f;omega),s.drop (c.length+1),?_,?_,?_⟩
    ·rw[<-List.drop_eq_getElem_cons,List.take_append_drop]
    ·simp at f|-;omega
    ·simp at f|-;omega
   --nothing ahead of i is bound to be ahead of it
   have O:∀x,Anc ops x i->listed.getD x false=true:=by
    have key:∀x j,Anc ops x j->(∀o,ops[j]? =some o->∀e∈o.after,Xc .any e=true->listed.getD e.on false=true)->listed.getD x false=true:=by
     intro x j h
     induction h with
     |one g he u=>exact fun hh=>hh _ g _ he u
     |step _ g he u ih=>exact fun hh=>ih fun o' d e' a2 a1=>S _ _ d (hh _ g _ he u) _ a2 a1
    intro x m;refine key x i m fun o' d e he u=> ?_
    rw[g]at d;cases d;exact t e he u
   have hz:(c++i::M).zip (g1++gi::g2)=c.zip g1++(i,gi)::M.zip g2:=by
    rw[List.zip_append z.symm];rfl
   rw[hz]at G;have hc:∀x∈g1,clash x gi=false:=by
    intro x m;obtain⟨k,hk⟩:=ZG.1 m;have W:k<c.length:=by
     have:=(Zq.1 hk).1;omega
    have X:(c[k],x)∈c.zip g1:=by
     rw[ZG];exact⟨k,by rw[Xb];exact⟨Zg W,hk⟩⟩
    have:=(List.pairwise_append.1 G).2.2 _ X (i,gi) (Zr ..);rcases this with h|h
    ·exact h
    ·exfalso
     have h1:=O _ h;have a7:c[k]∈c++i::M:=ZU _ (List.getElem_mem ..);have h2:=(p _).1 a7;have:listed.getD c[k] true=listed.getD c[k] false:=by simp[Array.getD,b,h2.1]
     rw[this,h1]at h2;exact absurd h2.2 (by simp)
   have a3:=Runs.front c g1 st z.symm H hc;cases a3 with
   | @cons _ _ _ o' ws rs _ _ d h r2=>
    rw[g]at d;cases d;refine J i o st a w ws rs _ Q g h Z fun a' w' a0=> ?_
    have a4:(listed.setIfInBounds i true).getD i true=true:=by simp[Array.getD,b,hlt]
    refine ih (listed.setIfInBounds i true) _ a' w' (c++M) (g1++g2) r2 (by simp at f|-;omega) ?_ ?_ ?_ (by simpa using b) ?_ (by simp at y|-;omega) a0
    ·rw[List.zip_append z.symm]
     refine G.sublist ?_;exact List.Sublist.append (List.Sublist.refl _) (List.sublist_cons_self ..)
    ·refine Y.sublist ?_
     exact List.Sublist.append (List.Sublist.refl _) (List.sublist_cons_self ..)
    ·intro x
     have a8:i∉c++M:=by
      have:=List.nodup_append.1 Y;intro hm;rcases ZF.1 hm with hm|hm
      ·exact this.2.2 i hm i (Zr ..) U
      ·exact(List.nodup_cons.1 this.2.1).1 hm
     constructor
     ·intro m
      have q:x≠i:=fun e=>a8 (e▸m)
      have a9:x∈c++i::M:=by
       rcases ZF.1 m with h|h
       ·exact ZU _ h
       ·exact Yc _ (Zn _ h)
      have:=(p x).1 a9;exact⟨this.1,by rw[getD_set_ne true (Ne.symm q)];exact this.2⟩
     ·rintro⟨K,r⟩
      have q:x≠i:=fun e=>by subst e;rw[a4]at r;cases r
      rw[getD_set_ne true (Ne.symm q)]at r;have:=(p x).2 ⟨K,r⟩;rcases ZF.1 this with h|h
      ·exact ZU _ h
      ·rcases ZM.1 h with h|h
       ·exact(q h).elim
       ·exact Yc _ h
    ·intro j oj B hj e he u
     by_cases V:j=i
     ·subst V
      rw[g]at B;cases B;exact getD_set_true (t e he u)
     ·rw[getD_set_ne false (Ne.symm V)]at hj
      exact getD_set_true (S j oj B hj e he u)
end
abbrev Base:=Option (Nat×Nat)
abbrev Path:=Option (Nat×Nat)
abbrev Nu:=Nat->Path->Base
def csize(w:World)(b:Nat):Nat:=match w.heap[b]? with
 |some (.cells c _ _)=>c.size
 |_=>0
inductive RV(w:World)(D:Nat->Prop):AV->Value->Prop
 |val (v:Value):RV w D (.val v) v
 |ifc (t:TypeId) (v:Value):RV w D .ifc (.iface t v)
 |nil (a:Option Addr):RV w D .nil (.slice a 0 0)
 |list (es:List AV) (a:Option Addr) (cap b o s:Nat) (c:Nat->Nat->Value) (hcap:es.length<=cap)
  (ha:es≠[]->a=some ⟨b,o,none⟩/\D b/\b<w.heap.size) (hs:∀e∈es,(leaves e).length=s)
  (hc:∀i j l,leafAt es i j=some l->w.cell? ⟨b,o+i*s+j,none⟩=some (c i j))
  (hl:∀i j l,leafAt es i j=some l->RV w D l (c i j)):RV w D (.list es) (.slice a es.length cap)
 |agg (fs:List AV) (cs:Array Value) (hs:cs.size=fs.length) (hl:∀(i:Nat) (l:AV),fs[i]? =some l->RV w D l (cs.getD i undef)):RV w D (.agg fs) (.agg cs)
 |tup (fs:List AV) (cs:Array Value) (hs:cs.size=fs.length) (hl:∀(i:Nat) (l:AV),fs[i]? =some l->RV w D l (cs.getD i undef)):RV w D (.tup fs) (.tuple cs)
 |ipt (e:AV) (j b o:Nat) (c:Nat->Value) (ha:D b/\b<w.heap.size)
  (hc:∀(k:Nat) (l:AV),(leaves e)[k]? =some l->w.cell? ⟨b,o+k,none⟩=some (c k))
  (hl:∀(k:Nat) (l:AV),(leaves e)[k]? =some l->RV w D l (c k)):RV w D (.ipt e j) (.pointer (some ⟨b,o+j,none⟩))
 |clo (f:Nat) (caps:List AV) (vs:Array Value) (hs:vs.size=caps.length) (hl:∀(i:Nat) (l:AV),caps[i]? =some l->RV w D l (vs.getD i undef)):
  RV w D (.clo f caps) (.func (.func f) #[] vs)
theorem cell?_congr{w w':World}{a:Addr}(h:w'.heap[a.block]? =w.heap[a.block]?):w'.cell? a=w.cell? a:=by
 unfold World.cell?;rw[h]
theorem O9{w w':World}{b:Nat}(h:w'.heap[b]? =w.heap[b]?):csize w' b=csize w b:=by
 unfold csize;rw[h]
theorem c3u{es:List AV}{i j:Nat}{l:AV}(h:leafAt es i j=some l):es≠[]:=by
 intro e;subst e;simp[leafAt]at h
theorem RV.mono{w w':World}{D D':Nat->Prop}{a:AV}{v:Value}(h:RV w D a v)
 (p:∀b,D b->b<w.heap.size->w'.heap[b]? =w.heap[b]?/\D' b) (hw:w.heap.size<=w'.heap.size):RV w' D' a v:=by
 induction h with
 |val v=>exact .val v
 |ifc t v=>exact .ifc t v
 |nil a=>exact .nil a
 |list es a cap b o s c n g m y q d=>
  refine .list es a cap b o s c n (fun z=> ?_) m (fun i j l h=> ?_) d
  ·obtain⟨B,u,x⟩:=g z
   exact⟨B,(p b u x).2,by omega⟩
  ·obtain⟨_,u,x⟩:=g (c3u h)
   rw[cell?_congr (w:=w) (p b u x).1];exact y i j l h
 |agg r cs m q d=>exact .agg r cs m d
 |tup r cs m q d=>exact .tup r cs m d
 |ipt e j b o c g y q d=>
  refine .ipt e j b o c ⟨(p b g.1 g.2).2,by have:=g.2;omega⟩ (fun k l h=> ?_) d;rw[cell?_congr (w:=w) (p b g.1 g.2).1];exact y k l h
 |clo f caps vs m q d=>exact .clo f caps vs m d
def SlV(w:World)(base:Base)(s off n:Nat)(v:Value):Prop:=
 ∃a cap,v= .slice a n cap/\n<=cap/\(cap=0\/∃b o,base=some (b,o)/\a=some ⟨b,o+off*s,none⟩/\o+(off+cap)*s<=csize w b)
def nodeAt(st:St)(id g:Nat)(p:Path):Option (Nat×Nat×List AV):=
 match st (.h id)with
 | .obj b m s es=>if b=g then(match p with
   |none=>some (m,s,es)
   |some (i,j)=>match leafAt es i j with
    |some (.own c a)=>some (m,c,a)
    |_=>none)else none
 |_=>none
def d7c(st:St)(id g:Nat)(p:Path):Prop:=
 ∀m s es,st (.h id)= .obj g m s es->∀i j,p=some (i,j)->leafAt es i j≠some .nil
inductive RS(st:St)(ν:Nu)(w:World)(D:Nat->Prop):AV->Value->Prop
 |undef (v:Value):RS st ν w D .undef v
 |data (a:AV) (v:Value) (h:RV w D a v):RS st ν w D a v
 |sl (id g:Nat) (p:Path) (off n:Nat) (v:Value) (hv:∃a cap,v= .slice a n cap/\n<=cap) (hg:g<=I6 (st (.h id))) (hb:d7c st id g p)
  (h:∀m s es,nodeAt st id g p=some (m,s,es)->SlV w (ν id p) s off n v):RS st ν w D (.sl id g p off n) v
 |ptr (id g:Nat) (p:Path) (i j:Nat) (v:Value) (hv:∃b q,v= .pointer (some ⟨b,q,none⟩)) (hg:g<=I6 (st (.h id))) (hb:d7c st id g p)
  (h:∀m s es,nodeAt st id g p=some (m,s,es)->∃b o,ν id p=some (b,o)/\v= .pointer (some ⟨b,o+i*s+j,none⟩)):
  RS st ν w D (.ptr id g p i j) v
 |asl (id g i j n:Nat) (v:Value) (hv:∃b q,v= .slice (some ⟨b,q,none⟩) n n) (hg:g<=I6 (st (.h id)))
  (h:∀m s es,nodeAt st id g none=some (m,s,es)->∃b o,ν id none=some (b,o)/\v= .slice (some ⟨b,o+i*s+j,none⟩) n n):
  RS st ν w D (.asl id g i j n) v
 |agg (fs:List AV) (cs:Array Value) (hs:cs.size=fs.length) (hl:∀(i:Nat) (l:AV),fs[i]? =some l->RS st ν w D l (cs.getD i undef)):
  RS st ν w D (.agg fs) (.agg cs)
 |tup (fs:List AV) (cs:Array Value) (hs:cs.size=fs.length) (hl:∀(i:Nat) (l:AV),fs[i]? =some l->RS st ν w D l (cs.getD i undef)):
  RS st ν w D (.tup fs) (.tuple cs)
 |clo (f:Nat) (caps:List AV) (vs:Array Value) (hs:vs.size=caps.length) (hl:∀(i:Nat) (l:AV),caps[i]? =some l->RS st ν w D l (vs.getD i undef)):
  RS st ν w D (.clo f caps) (.func (.func f) #[] vs)
structure Ext(st:St)(ν:Nu)(w:World)(st':St)(ν':Nu)(w':World):Prop where
 stamps:∀id,I6 (st (.h id))<=I6 (st' (.h id))
 objs:∀id g m' s' es',g<=I6 (st (.h id))->st' (.h id)= .obj g m' s' es'->
  ∃m es,st (.h id)= .obj g m s' es/\ν' id none=ν id none/\(∀b o,ν id none=some (b,o)->csize w' b=csize w b)/\
   ∀i j,(leafAt es' i j=some .nil->leafAt es i j=some .nil)/\
    ∀s2 es2',leafAt es' i j=some (.own s2 es2')->leafAt es i j=some .nil\/
     ∃es2,leafAt es i j=some (.own s2 es2)/\ν' id (some (i,j))=ν id (some (i,j))/\(∀b o,ν id (some (i,j))=some (b,o)->csize w' b=csize w b)
theorem SlV.mono{w w':World}{base base':Base}{s off n:Nat}{v:Value}(h:SlV w base s off n v)(g:base'=base)
 (i:∀b o,base=some (b,o)->csize w' b=csize w b):SlV w' base' s off n v:=by
 subst g;obtain⟨a,cap,rfl,d,e⟩:=h;refine⟨a,cap,U,d,e.imp id ?_⟩;rintro⟨b,o,c,f,hle⟩;exact⟨b,o,c,f,by rw[i b o c];exact hle⟩
theorem Ext.node{st st':St}{ν c:Nu}{w w':World}(E:Ext st ν w st' c w'){id g:Nat}{p:Path}{I s':Nat}{d:List AV}
 (x:g<=I6 (st (.h id))) (v:d7c st id g p) (h:nodeAt st' id g p=some (I,s',d)):
 ∃m es,nodeAt st id g p=some (m,s',es)/\c id p=ν id p/\(∀b o,ν id p=some (b,o)->csize w' b=csize w b):=by
 unfold nodeAt at h;split at h
 ·rename_i r m1 s1 e a
  split at h
  ·rename_i n
   subst n;obtain⟨m,es,l,s,t,u⟩:=E.objs id r m1 s1 e x a;cases p with
   |none=>
    simp only[Zb,Zk]at h;obtain⟨rfl,rfl,rfl⟩:=h;exact⟨m,es,by simp[nodeAt,l],s,t⟩
   |some q=>
    obtain⟨i,j⟩:=q;simp only at h;split at h
    ·rename_i s2 f y
     simp only[Zb,Zk]at h;obtain⟨rfl,rfl,rfl⟩:=h;rcases(u i j).2 s2 f y with z|⟨k,B,G,H⟩
     ·exact((v m s1 es l i j U) z).elim
     ·exact⟨m,k,by simp[nodeAt,l,B],G,H⟩
    ·simp at h
  ·simp at h
 ·simp at h
theorem Ext.born{st st':St}{ν b:Nu}{w w':World}(E:Ext st ν w st' b w'){id g:Nat}{p:Path}
 (f:g<=I6 (st (.h id))) (e:d7c st id g p):d7c st' id g p:=by
 intro m s es h i j l k;obtain⟨m0,a,c,_,_,d⟩:=E.objs id g m s es f h;exact e m0 s a c i j l ((d i j).1 k)
theorem RS.mono{st st':St}{ν u:Nu}{w w':World}{D D':Nat->Prop}{a:AV}{v:Value}(h:RS st ν w D a v)(E:Ext st ν w st' u w')
 (B:∀b,D b->b<w.heap.size->w'.heap[b]? =w.heap[b]?/\D' b) (hw:w.heap.size<=w'.heap.size):RS st' u w' D' a v:=by
 induction h with
 |undef v=>exact .undef v
 |data a v h=>exact .data a v (h.mono B hw)
 |sl id g p off n v r c l h=>
  refine .sl id g p off n v r (Yg c (E.stamps id)) (E.born c l) fun m s es o=> ?_
  obtain⟨m0,d,e,k,z⟩:=E.node c l o;exact(h _ _ _ e).mono k z
 |ptr id g p i j v r c l h=>
  refine .ptr id g p i j v r (Yg c (E.stamps id)) (E.born c l) fun m s es o=> ?_
  obtain⟨m0,d,e,k,_⟩:=E.node c l o;rw[k];exact h _ _ _ e
 |asl id g i j n v r c h=>
  refine .asl id g i j n v r (Yg c (E.stamps id)) fun m s es o=> ?_
  obtain⟨m0,d,e,k,_⟩:=E.node c (fun _ _ _ _ _ _ G=>by cases G) o;rw[k];exact h _ _ _ e
 |agg x cs q y t=>exact .agg x cs q t
 |tup x cs q y t=>exact .tup x cs q t
 |clo f caps vs q y t=>exact .clo f caps vs q t
theorem Ext.refl(st:St)(ν:Nu)(w:World):Ext st ν w st ν w:=
 ⟨fun _=>Zd _,fun _ _ c _ a _ h=>⟨c,a,h,U,fun _ _ _=>U,fun _ _=>⟨id,fun _ b h=> .inr ⟨b,h,U,fun _ _ _=>U⟩⟩⟩⟩
theorem Ext.of_same{st st':St}{ν:Nu}{w w':World}(h:∀id,st' (.h id)=st (.h id))(d:∀b,csize w' b=csize w b):Ext st ν w st' ν w':=
 ⟨fun id=>by rw[h id];exact Zd _,fun id g e f a _ he=>
  ⟨e,a,by rw[<-h id];exact he,U,fun _ _ _=>d _,fun _ _=>⟨fun x=>x,fun _ c x=> .inr ⟨c,x,U,fun _ _ _=>d _⟩⟩⟩⟩
def Y0(w:World)(L:AV->Value->Prop)(φ:Path->Base)(i j:Nat)(l:AV)(v:Value):Prop:=
 match l with
 | .own b a=>SlV w (φ (some (i,j))) b 0 a.length v
 |l=>L l v
def RN(w:World)(L:AV->Value->Prop)(φ:Path->Base)(base:Base)(bx:Prop)(s:Nat)(es:List AV):Prop:=
 match base with
 |none=>es=[]
 |some (b,o)=>∃c a,w.heap[b]? =some (.cells c a (0,0))/\o+es.length*s<=c.size/\(¬bx->∀e∈es,(leaves e).length=s)/\
  (bx->es.length<=1)/\
  ∀i j l,leafAt es i j=some l->∃v,c[o+i*s+j]? =some v/\Y0 w L φ i j l v
def a2k(es:List AV):Prop:=∀i j l,leafAt es i j=some l->immLeaf l=true
structure RO(w:World)(L:AV->Value->Prop)(φ:Path->Base)(bx:Prop)(s:Nat)(es:List AV):Prop where
 top:RN w L φ (φ none) bx s es
 sub:∀i j s' es',leafAt es i j=some (.own s' es')->RN w L φ (φ (some (i,j))) False s' es'/\a2k es'
theorem Y0.mono{w w':World}{L e:AV->Value->Prop}{φ φ':Path->Base}{i j:Nat}{l:AV}{v:Value}(h:Y0 w L φ i j l v)
 (f:∀a v,L a v->e a v) (d:∀s' c,l= .own s' c->φ' (some (i,j))=φ (some (i,j)))
 (k:∀s' c b o,l= .own s' c->φ (some (i,j))=some (b,o)->csize w' b=csize w b):Y0 w' e φ' i j l v:=by
 cases l with
 |own s' c=>exact SlV.mono (h:SlV w _ _ _ _ _) (d _ _ U) (fun b o g=>k _ _ b o U g)
 |_=>exact f _ _ h
theorem RN.mono{w w':World}{L n:AV->Value->Prop}{φ φ':Path->Base}{base base':Base}{bx:Prop}{s:Nat}{es:List AV}(h:RN w L φ base bx s es)
 (f:base'=base) (z:∀b o,base=some (b,o)->w'.heap[b]? =w.heap[b]?) (y:∀a v,L a v->n a v)
 (g:∀i j s' d,leafAt es i j=some (.own s' d)->φ' (some (i,j))=φ (some (i,j))/\∀b o,φ (some (i,j))=some (b,o)->csize w' b=csize w b):
 RN w' n φ' base' bx s es:=by
 subst f;cases base' with
 |none=>exact h
 |some q=>
  obtain⟨b,o⟩:=q;obtain⟨c,k,p,r,t,x,u⟩:=h;refine⟨c,k,by rw[z b o U];exact p,r,t,x,fun i j l m=> ?_⟩;obtain⟨v,E,B⟩:=u i j l m;exact⟨v,E,B.mono y (fun s' d e=>(g i j s' d (e▸m)).1) (fun s' d b o e=>(g i j s' d (e▸m)).2 b o)⟩
theorem RO.mono{w w':World}{L m:AV->Value->Prop}{φ φ':Path->Base}{bx:Prop}{s:Nat}{es:List AV}(h:RO w L φ bx s es)
 (g:φ' none=φ none) (f:∀i j s' c,leafAt es i j=some (.own s' c)->φ' (some (i,j))=φ (some (i,j)))
 (t:∀b o,φ none=some (b,o)->w'.heap[b]? =w.heap[b]?)
 (e:∀i j s' c b o,leafAt es i j=some (.own s' c)->φ (some (i,j))=some (b,o)->w'.heap[b]? =w.heap[b]?)
 (p:∀a v,L a v->m a v):RO w' m φ' bx s es:=by
 refine⟨h.top.mono g t p fun i j s' c d=>⟨f i j s' c d,fun b o k=>O9 (e i j s' c b o d k)⟩,fun i j s' c d=> ?_⟩;obtain⟨r,n⟩:=h.sub i j s' c d;refine⟨r.mono (f i j s' c d) (fun b o=>e i j s' c b o d) p fun u x s2 q l=> ?_,n⟩;have:=n u x _ l;simp[immLeaf]at this
structure Flo where
 φ:Path->Base
 s:Nat
 es:List AV
abbrev FK:=Nat×Nat×Nat
abbrev Fl:=FK->Option Flo
def Fl.emp:Fl:=fun _=>none
def Fl.set(F:Fl)(k:FK)(f:Option Flo):Fl:=fun x=>if x=k then f else F x
theorem Fl.set_eq(F:Fl)(k:FK)(f:Option Flo):F.set k f k=f:=by simp[Fl.set]
theorem Fl.set_ne(F:Fl){k x:FK}(f:Option Flo)(h:x≠k):F.set k f x=F x:=by simp[Fl.set,h]
inductive Key where
 |nd (id:Nat) (p:Path)
 |fl (k:FK) (p:Path)
def livePath(es:List AV)(p:Path):Prop:=∀q,p=some q->∃b a,leafAt es q.1 q.2=some (.own b a)
def live(st:St)(F:Fl):Key->Prop
 | .nd id p=>∃g m s es,st (.h id)= .obj g m s es/\m≠2/\livePath es p
 | .fl k p=>∃f,F k=some f/\livePath f.es p
def baseOf(ν:Nu)(F:Fl):Key->Base
 | .nd id p=>ν id p
 | .fl k p=>match F k with
  |some f=>f.φ p
  |none=>none
def TB(st:St)(ν:Nu)(F:Fl)(b:Nat):Prop:=∃k o,live st F k/\baseOf ν F k=some (b,o)
structure Env where
 mo:Prop
 gb:Nat->Prop
 G:World->Prop
 stable:∀w w',(∀b,gb b->w'.heap[b]? =w.heap[b]?)->G w->G w'
structure Rel(Γ:Env)(w0:World)(A O0:Nat->Prop)(ν0:Nu)(N:Nat)(F:Fl)(D:Nat->Prop)(st:St)(ν:Nu)(tm:Array Value)(w:World):Prop where
 size:tm.size=N
 slots:∀i,i<N->RS st ν w D (st (.t i)) (tm.getD i undef)
 high:∀i,N<=i->st (.t i)= .undef
 objs:∀id g m s es,st (.h id)= .obj g m s es->RO w (RS st ν w D) (ν id) (m=3\/m=4) s es
 frozen:∀id g s es,st (.h id)= .obj g 2 s es->(∀b o,ν id none=some (b,o)->D b)/\P1 es=true
 flos:∀k f,F k=some f->RO w (RS st ν w D) f.φ False f.s f.es
 inj:∀k1 k2 b o1 o2,live st F k1->live st F k2->baseOf ν F k1=some (b,o1)->baseOf ν F k2=some (b,o2)->k1=k2
 dT:∀b,D b->¬TB st ν F b
 dA:∀b,D b->A b\/w0.heap.size<=b
 dlt:∀b,D b->b<w.heap.size/\((w0.heap.size<=b\/O0 b)->∃c ety,w.heap[b]? =some (.cells c ety (0,0)))
 tO:∀b,TB st ν F b->O0 b\/w0.heap.size<=b
 le:w0.heap.size<=w.heap.size
 os:w.os=w0.os
 tape:w.tape=w0.tape
 output:w.output=w0.output
 dr:Γ.mo->w0.drawn<=w.drawn
 fr:∀b,b<w0.heap.size->¬O0 b->w.heap[b]? =w0.heap[b]?
 cs:∀b,b<w0.heap.size->csize w b=csize w0 b
 io:∀id g m s es,st (.h id)= .obj g m s es->(m=1\/m=4)->ν id=ν0 id
 gO:∀b,Γ.gb b->¬O0 b/\b<w0.heap.size
 gi:Γ.G w0
theorem N0{es:List AV}{n i j:Nat}{l:AV}(h:leafAt (es.take n) i j=some l):leafAt es i j=some l:=by
 unfold leafAt at*;rw[YA]at h;split at h
 ·exact h
 ·simp at h
theorem RN.lt{w:World}{L:AV->Value->Prop}{φ:Path->Base}{base:Base}{bx:Prop}{s:Nat}{es:List AV}(h:RN w L φ base bx s es){b o:Nat}
 (f:base=some (b,o)):b<w.heap.size:=by
 subst f;obtain⟨c,e,d,_⟩:=h;rcases Nat.lt_or_ge b w.heap.size with a|a
 ·exact a
 ·rw[Array.getElem?_eq_none a]at d;cases d
section
variable{Γ:Env}{w0:World}{A O0:Nat->Prop}{ν0:Nu}{N:Nat}{F:Fl}{D:Nat->Prop}{st:St}{ν:Nu}{tm:Array Value}{w:World}
theorem Rel.live_lt(R:Rel Γ w0 A O0 ν0 N F D st ν tm w){k:Key}{b o:Nat}(j:live st F k)(c:baseOf ν F k=some (b,o)):b<w.heap.size:=by
 cases k with
 |nd id p=>
  obtain⟨g,m,s,es,d,l,e⟩:=j;have:=R.objs id g m s es d;cases p with
  |none=>exact this.top.lt c
  |some q=>
   obtain⟨i,a,h⟩:=e q U;exact(this.sub q.1 q.2 i a h).1.lt c
 |fl k p=>
  obtain⟨f,d,e⟩:=j;have:=R.flos k f d;simp only[baseOf,d]at c;cases p with
  |none=>exact this.top.lt c
  |some q=>
   obtain⟨i,a,h⟩:=e q U;exact(this.sub q.1 q.2 i a h).1.lt c
theorem Rel.TB_lt(R:Rel Γ w0 A O0 ν0 N F D st ν tm w){b:Nat}(h:TB st ν F b):b<w.heap.size:=by
 obtain⟨k,o,a,c⟩:=h;exact R.live_lt a c
theorem RN.cells{w:World}{L:AV->Value->Prop}{φ:Path->Base}{base:Base}{bx:Prop}{s:Nat}{es:List AV}(h:RN w L φ base bx s es){b o:Nat}(d:base=some (b,o)):
 ∃c ety,w.heap[b]? =some (.cells c ety (0,0)):=by
 subst d;obtain⟨c,ety,a,_⟩:=h;exact⟨c,ety,a⟩
theorem Rel.live_cells(R:Rel Γ w0 A O0 ν0 N F D st ν tm w){k:Key}{b o:Nat}(l:live st F k)(d:baseOf ν F k=some (b,o)):∃c ety,w.heap[b]? =some (.cells c ety (0,0)):=by
 cases k with
 |nd id p=>
  obtain⟨g,m,s,es,e,n,h⟩:=l;have:=R.objs id g m s es e;cases p with
  |none=>exact this.top.cells d
  |some q=>
   obtain⟨j,a,i⟩:=h q U;exact(this.sub q.1 q.2 j a i).1.cells d
 |fl k p=>
  obtain⟨f,e,h⟩:=l;have:=R.flos k f e;simp only[baseOf,e]at d;cases p with
  |none=>exact this.top.cells d
  |some q=>
   obtain⟨j,a,i⟩:=h q U;exact(this.sub q.1 q.2 j a i).1.cells d
theorem Rel.TB_cells(R:Rel Γ w0 A O0 ν0 N F D st ν tm w){b:Nat}(h:TB st ν F b):∃c ety,w.heap[b]? =some (.cells c ety (0,0)):=by
 obtain⟨k,o,a,d⟩:=h;exact R.live_cells a d
theorem e3e(st:St)(d:Nat)(a:AV)(id:Nat):st.upd (.t d) a (.h id)=st (.h id):=St.upd_ne _ _ (by simp)
theorem e0p(st:St)(d:Nat)(a:AV){i:Nat}(h:i≠d):st.upd (.t d) a (.t i)=st (.t i):=St.upd_ne _ _ (by simpa using h)
theorem U9(st:St)(d:Nat)(a:AV)(i:Nat):st.upd (.h d) a (.t i)=st (.t i):=St.upd_ne _ _ (by simp)
theorem N4(st:St)(d:Nat)(a:AV){i:Nat}(h:i≠d):st.upd (.h d) a (.h i)=st (.h i):=St.upd_ne _ _ (by simpa using h)
theorem a6k{st st':St}{F:Fl}(h:∀id,st' (.h id)=st (.h id))(k:Key):live st' F k↔live st F k:=by
 cases k<;>simp[live,h]
theorem a8r{st st':St}{F:Fl}{ν:Nu}(h:∀id,st' (.h id)=st (.h id))(b:Nat):TB st' ν F b↔TB st ν F b:=by
 simp[TB,a6k h]
theorem Rel.slotsOnly(R:Rel Γ w0 A O0 ν0 N F D st ν tm w){st':St}{d:Array Value}(c:∀id,st' (.h id)=st (.h id))(n:d.size=N)
 (y:∀i,i<N->RS st ν w D (st' (.t i)) (d.getD i undef)) (l:∀i,N<=i->st' (.t i)= .undef):Rel Γ w0 A O0 ν0 N F D st' ν d w:=by
 have E:Ext st ν w st' ν w:=Ext.of_same c fun _=>U
 have e:∀a v,RS st ν w D a v->RS st' ν w D a v:=fun a v h=>h.mono E (fun b j _=>⟨U,j⟩) (Zd _)
 refine⟨n,fun i x=>e _ _ (y i x),l,?_,?_,?_,?_,?_,R.dA,R.dlt,?_,R.le,R.os,R.tape,R.output,R.dr,R.fr,R.cs,?_,R.gO,R.gi⟩
 ·intro id g m s es h
  rw[c]at h;exact(R.objs id g m s es h).mono U (fun _ _ _ _ _=>U) (fun _ _ _=>U) (fun _ _ _ _ _ _ _ _=>U) e
 ·intro id g s es h
  rw[c]at h;exact R.frozen id g s es h
 ·intro k f h
  exact(R.flos k f h).mono U (fun _ _ _ _ _=>U) (fun _ _ _=>U) (fun _ _ _ _ _ _ _ _=>U) e
 ·intro z B b G H p q r u
  exact R.inj z B b G H ((a6k c _).1 p) ((a6k c _).1 q) r u
 ·intro b j o
  exact R.dT b j ((a8r c b).1 o)
 ·intro b o
  exact R.tO b ((a8r c b).1 o)
 ·intro id g m s es h hm
  rw[c]at h;exact R.io id g m s es h hm
theorem b0t(tm:Array Value)(d i:Nat)(v:Value)(a:d<tm.size):
 (tm.setIfInBounds d v).getD i undef=if i=d then v else tm.getD i undef:=by
 by_cases h:i=d
 ·subst h;simp[Array.getD,a]
 ·simp only[h,if_false,ZN,Yr (Ne.symm h)]
theorem Rel.setT(R:Rel Γ w0 A O0 ν0 N F D st ν tm w){d:Nat}{a:AV}{v:Value}(c:d<N)(h:RS st ν w D a v):
 Rel Γ w0 A O0 ν0 N F D (st.upd (.t d) a) ν (tm.setIfInBounds d v) w:=by
 refine R.slotsOnly (e3e st d a) (by simpa using R.size) (fun i b=> ?_) (fun i b=> ?_)
 ·rw[b0t _ _ _ _ (by rw[R.size];exact c)]
  by_cases hid:i=d
  ·subst hid;rw[St.upd_eq];simpa using h
  ·rw[e0p _ _ _ hid];simpa[hid]using R.slots i b
 ·rw[e0p _ _ _ (by omega)];exact R.high i b
theorem f1p(R:Rel Γ w0 A O0 ν0 N F D st ν tm w){st':St}{e:Nu}{F':Fl}(f:Key->Key)
 (g:∀k b o,live st' F' k->baseOf e F' k=some (b,o)->(∃h,live st F (f k)/\baseOf ν F (f k)=some (b,h)))
 (v:∀a d,live st' F' a->live st' F' d->f a=f d->a=d):
 (∀a d b i n,live st' F' a->live st' F' d->baseOf e F' a=some (b,i)->baseOf e F' d=some (b,n)->a=d)/\
 (∀b,TB st' e F' b->TB st ν F b):=by
 refine⟨fun a d b i n q r s t=> ?_,fun b ⟨k,o,l,x⟩=> ?_⟩
 ·obtain⟨j,m1,u⟩:=g a b i q s
  obtain⟨p,m2,c2⟩:=g d b n r t;exact v a d q r (R.inj _ _ b j p m1 m2 u c2)
 ·obtain⟨h,m,c⟩:=g k b o l x
  exact⟨_,h,m,c⟩
end
section
variable{Γ:Env}{w0:World}{A O0:Nat->Prop}{ν0:Nu}{N:Nat}{F:Fl}{D:Nat->Prop}{st:St}{ν:Nu}{tm:Array Value}{w:World}
theorem RS.same{st':St}{c:Nu}{D':Nat->Prop}{a:AV}{v:Value}(h:RS st ν w D a v)(E:Ext st ν w st' c w)(d:∀b,D b->D' b):RS st' c w D' a v:=
 h.mono E (fun b e _=>⟨U,d b e⟩) (Zd _)
theorem Rel.ghost(R:Rel Γ w0 A O0 ν0 N F D st ν tm w){st':St}{a:Nu}{F':Fl}{D':Nat->Prop}(r:∀i,st' (.t i)=st (.t i))
 (E:Ext st ν w st' a w) (x:∀b,D b->D' b)
 (objs:∀id g m s es,st' (.h id)= .obj g m s es->RO w (RS st' a w D') (a id) (m=3\/m=4) s es)
 (frozen:∀id g s es,st' (.h id)= .obj g 2 s es->(∀b o,a id none=some (b,o)->D' b)/\P1 es=true)
 (flos:∀k f,F' k=some f->RO w (RS st' a w D') f.φ False f.s f.es)
 (f:Key->Key)
 (u:∀k b o,live st' F' k->baseOf a F' k=some (b,o)->(∃y,live st F (f k)/\baseOf ν F (f k)=some (b,y)))
 (v:∀p q,live st' F' p->live st' F' q->f p=f q->p=q)
 (l:∀b,D' b->¬D b->¬TB st' a F' b/\(A b\/w0.heap.size<=b)/\b<w.heap.size/\((w0.heap.size<=b\/O0 b)->∃c ety,w.heap[b]? =some (.cells c ety (0,0))))
 (io:∀id g m s es,st' (.h id)= .obj g m s es->(m=1\/m=4)->a id=ν0 id):Rel Γ w0 A O0 ν0 N F' D' st' a tm w:=by
 obtain⟨i1,i2⟩:=f1p R f u v;refine⟨R.size,fun i n=> ?_,fun i n=>by rw[r];exact R.high i n,objs,frozen,flos,i1,fun b j d=> ?_,fun b j=> ?_,fun b j=> ?_,fun b d=>R.tO b (i2 b d),R.le,R.os,R.tape,R.output,R.dr,R.fr,R.cs,io,R.gO,R.gi⟩
 ·rw[r];exact(R.slots i n).same E x
 ·by_cases e:D b
  ·exact R.dT b e (i2 b d)
  ·exact(l b j e).1 d
 ·by_cases e:D b
  ·exact R.dA b e
  ·exact(l b j e).2.1
 ·by_cases e:D b
  ·exact R.dlt b e
  ·exact(l b j e).2.2
theorem Rel.hlt(R:Rel Γ w0 A O0 ν0 N F D st ν tm w){id g m s:Nat}{es:List AV}(h:st (.h id)= .obj g m s es){p:Path}(e:livePath es p){b o:Nat}(c:ν id p=some (b,o)):b<w.heap.size:=by
 have:=R.objs id g m s es h;cases p with
 |none=>exact this.top.lt c
 |some q=>
  obtain⟨f,a,d⟩:=e q U;exact(this.sub q.1 q.2 f a d).1.lt c
theorem Rel.extUpd(R:Rel Γ w0 A O0 ν0 N F D st ν tm w){id:Nat}{a:AV}{f:Nu}{w':World}(p:I6 (st (.h id))<=I6 a)
 (n:∀g m s es,a= .obj g m s es->I6 (st (.h id))<g) (d:∀i,i≠id->f i=ν i) (l:∀b,b<w.heap.size->csize w' b=csize w b):
 Ext st ν w (st.upd (.h id) a) f w':=by
 refine⟨fun i=> ?_,fun i g r u j t h=> ?_⟩
 ·by_cases e:i=id
  ·subst e;rw[St.upd_eq];exact p
  ·rw[N4 _ _ _ e];exact Zd _
 ·by_cases e:i=id
  ·subst e
   rw[St.upd_eq]at h;have:=n _ _ _ _ h;omega
  ·rw[N4 _ _ _ e]at h
   refine⟨r,j,h,by rw[d i e],fun b o k=>l b (R.hlt h (fun _ hq=>by cases hq) k),fun x y=>⟨fun z=>z,fun s2 c z=> .inr ⟨c,z,by rw[d i e],fun b o k=>l b (R.hlt h (fun q hq=>by cases hq;exact⟨s2,c,z⟩) k)⟩⟩⟩
def FrF(κ:FK)(id:Nat):Key->Key
 | .nd i p=> .nd i p
 | .fl k p=>if k=κ then .nd id p else .fl k p
theorem Rel.detach(R:Rel Γ w0 A O0 ν0 N F D st ν tm w){id g s:Nat}{es:List AV}(h:st (.h id)= .obj g 0 s es){κ:FK}(L:F κ=none):
 Rel Γ w0 A O0 ν0 N (F.set κ (some ⟨ν id,s,es⟩)) D (st.upd (.h id) (.dead g)) ν tm w:=by
 have E:Ext st ν w (st.upd (.h id) (.dead g)) ν w:=R.extUpd (by rw[h];exact Zd _) (by intro _ _ _ _ e;cases e) (fun _ _=>U) (fun _ _=>U);have z:∀a v,RS st ν w D a v->RS (st.upd (.h id) (.dead g)) ν w D a v:=fun a v h=>h.same E (fun _ n=>n)
 have r:∀i d m l c,st.upd (.h id) (.dead g) (.h i)= .obj d m l c->i≠id/\st (.h i)= .obj d m l c:=by
  intro i d m l c t;by_cases e:i=id
  ·subst e;rw[St.upd_eq]at t;cases t
  ·rw[N4 _ _ _ e]at t;exact⟨e,t⟩
 refine R.ghost (fun i=>U9 _ _ _ _) E (fun _ n=>n) ?_ ?_ ?_ (FrF κ id) ?_ ?_ (fun b n K=>(K n).elim) ?_
 ·intro i d m l c t
  exact(R.objs i d m l c (r _ _ _ _ _ t).2).mono U (fun _ _ _ _ _=>U) (fun _ _ _=>U) (fun _ _ _ _ _ _ _ _=>U) z
 ·intro i d l c t
  exact R.frozen i d l c (r _ _ _ _ _ t).2
 ·intro k f y
  by_cases e:k=κ
  ·subst e
   rw[Fl.set_eq]at y;cases y;have:=R.objs id g 0 s es h;simp only[show¬((0:Nat)=3\/(0:Nat)=4)from by decide]at this;exact this.mono U (fun _ _ _ _ _=>U) (fun _ _ _=>U) (fun _ _ _ _ _ _ _ _=>U) z
  ·rw[Fl.set_ne _ _ e]at y
   exact(R.flos k f y).mono U (fun _ _ _ _ _=>U) (fun _ _ _=>U) (fun _ _ _ _ _ _ _ _=>U) z
 ·intro k b o B n
  cases k with
  |nd i p=>
   obtain⟨d,m,l,c,u,J,x⟩:=B;exact⟨o,⟨d,m,l,c,(r _ _ _ _ _ u).2,J,x⟩,n⟩
  |fl k p=>
   obtain⟨f,u,x⟩:=B;by_cases e:k=κ
   ·subst e
    rw[Fl.set_eq]at u;cases u;simp only[baseOf,Fl.set_eq]at n;simp only[FrF,if_true];exact⟨o,⟨g,0,s,es,h,by decide,x⟩,n⟩
   ·rw[Fl.set_ne _ _ e]at u
    simp only[baseOf,Fl.set_ne _ _ e]at n;simp only[FrF,e,if_false];exact⟨o,⟨f,u,x⟩,n⟩
 ·intro M G O S he
  have hid:∀p,¬live (st.upd (.h id) (.dead g)) (F.set κ (some ⟨ν id,s,es⟩)) (.nd id p):=by
   rintro p ⟨d,m,l,c,u,_⟩;exact(r _ _ _ _ _ u).1 U
  cases M with
  |nd i p=>cases G with
   |nd j q=>exact he
   |fl k q=>
    simp only[FrF]at he;split at he
    ·cases he;exact(hid _ O).elim
    ·cases he
  |fl k p=>cases G with
   |nd j q=>
    simp only[FrF]at he;split at he
    ·cases he;exact(hid _ S).elim
    ·cases he
   |fl T q=>
    simp only[FrF]at he;split at he<;>split at he
    ·rename_i H I;cases he;rw[H,I]
    ·cases he
    ·cases he
    ·exact he
 ·intro i d m l c t hm
  exact R.io i d m l c (r _ _ _ _ _ t).2 hm
def Nu.set(ν:Nu)(id:Nat)(φ:Path->Base):Nu:=fun i=>if i=id then φ else ν i
theorem Nu.set_eq(ν:Nu)(id:Nat)(φ:Path->Base):ν.set id φ id=φ:=by simp[Nu.set]
theorem Nu.set_ne(ν:Nu){id i:Nat}(φ:Path->Base)(h:i≠id):ν.set id φ i=ν i:=by simp[Nu.set,h]
def FrN(κ:FK)(id:Nat):Key->Key
 | .nd i p=>if i=id then .fl κ p else .nd i p
 | .fl k p=> .fl k p
theorem RO.tobx{L:AV->Value->Prop}{φ:Path->Base}{s:Nat}{es:List AV}(h:RO w L φ False s es){bx:Prop}(k:bx->es.length<=1):RO w L φ bx s es:=by
 refine⟨?_,h.sub⟩;have d:=h.top;unfold RN at d|-;split
 ·rename_i a
  rw[a]at d;exact d
 ·rename_i b o a
  rw[a]at d;obtain⟨c,e,f,g,i,l,j⟩:=d;exact⟨c,e,f,g,fun _=>i (fun h=>h),k,j⟩
theorem Rel.attach(R:Rel Γ w0 A O0 ν0 N F D st ν tm w){κ:FK}{f:Flo}(u:F κ=some f)(id g:Nat)(G:I6 (st (.h id))<g)(m0:Nat)(S:m0=0\/m0=3/\f.es.length<=1):
 Rel Γ w0 A O0 ν0 N (F.set κ none) D (st.upd (.h id) (.obj g m0 f.s f.es)) (ν.set id f.φ) tm w/\Ext st ν w (st.upd (.h id) (.obj g m0 f.s f.es)) (ν.set id f.φ) w:=by
 have E:Ext st ν w (st.upd (.h id) (.obj g m0 f.s f.es)) (ν.set id f.φ) w:=
  R.extUpd (Nat.le_of_lt G) (by intro _ _ _ _ e;cases e;exact G) (fun i d=>Nu.set_ne _ _ d) (fun _ _=>U)
 have B:∀a v,RS st ν w D a v->RS (st.upd (.h id) (.obj g m0 f.s f.es)) (ν.set id f.φ) w D a v:=fun a v h=>h.same E (fun _ l=>l)
 have t:∀i n m s c,i≠id->st.upd (.h id) (.obj g m0 f.s f.es) (.h i)= .obj n m s c->st (.h i)= .obj n m s c:=by
  intro i n m s c e d;rw[N4 _ _ _ e]at d;exact d
 refine⟨R.ghost (fun i=>U9 _ _ _ _) E (fun _ l=>l) ?_ ?_ ?_ (FrN κ id) ?_ ?_ (fun b l O=>(O l).elim) ?_,E⟩
 ·intro i n m s c d
  by_cases e:i=id
  ·subst e
   rw[St.upd_eq]at d;cases d;rw[Nu.set_eq];have:=(R.flos κ f u).tobx (bx:=(m0=3\/m0=4)) (fun l=>by omega);exact this.mono U (fun _ _ _ _ _=>U) (fun _ _ _=>U) (fun _ _ _ _ _ _ _ _=>U) B
  ·rw[Nu.set_ne _ _ e]
   exact(R.objs i n m s c (t _ _ _ _ _ e d)).mono U (fun _ _ _ _ _=>U) (fun _ _ _=>U) (fun _ _ _ _ _ _ _ _=>U) B
 ·intro i n s c d
  by_cases e:i=id
  ·subst e;rw[St.upd_eq]at d;cases d;omega
  ·rw[Nu.set_ne _ _ e];exact R.frozen i n s c (t _ _ _ _ _ e d)
 ·intro k x z
  by_cases e:k=κ
  ·subst e;rw[Fl.set_eq]at z;cases z
  ·rw[Fl.set_ne _ _ e]at z
   exact(R.flos k x z).mono U (fun _ _ _ _ _=>U) (fun _ _ _=>U) (fun _ _ _ _ _ _ _ _=>U) B
 ·intro k b o I l
  cases k with
  |nd i p=>
   obtain⟨n,m,s,c,r,M,y⟩:=I;by_cases e:i=id
   ·subst e
    rw[St.upd_eq]at r;cases r;simp only[baseOf,Nu.set_eq]at l;simp only[FrN,if_true];exact⟨o,⟨f,u,y⟩,by simp only[baseOf,u];exact l⟩
   ·simp only[baseOf,Nu.set_ne _ _ e]at l
    simp only[FrN,e,if_false];exact⟨o,⟨n,m,s,c,t _ _ _ _ _ e r,M,y⟩,l⟩
  |fl k p=>
   obtain⟨x,r,y⟩:=I;have e:k≠κ:=by intro e;subst e;rw[Fl.set_eq]at r;cases r
   rw[Fl.set_ne _ _ e]at r;simp only[baseOf,Fl.set_ne _ _ e]at l;exact⟨o,⟨x,r,y⟩,l⟩
 ·intro T J V W he
  have H:∀p,¬live (st.upd (.h id) (.obj g m0 f.s f.es)) (F.set κ none) (.fl κ p):=by
   rintro p ⟨x,r,_⟩;rw[Fl.set_eq]at r;cases r
  cases T with
  |nd i p=>cases J with
   |nd j q=>
    simp only[FrN]at he;split at he<;>split at he
    ·rename_i K L;cases he;rw[K,L]
    ·cases he
    ·cases he
    ·exact he
   |fl k q=>
    simp only[FrN]at he;split at he
    ·cases he;exact(H _ W).elim
    ·cases he
  |fl k p=>cases J with
   |nd j q=>
    simp only[FrN]at he;split at he
    ·cases he;exact(H _ V).elim
    ·cases he
   |fl X q=>exact he
 ·intro i n m s c d hm
  by_cases e:i=id
  ·subst e;rw[St.upd_eq]at d;cases d;omega
  ·rw[Nu.set_ne _ _ e];exact R.io i n m s c (t _ _ _ _ _ e d) hm
theorem Rel.refloat(R:Rel Γ w0 A O0 ν0 N F D st ν tm w){κ:FK}{f:Flo}(n:F κ=some f)(q:Option Flo){D':Nat->Prop}(s:∀b,D b->D' b)
 (B:∀f1,q=some f1->RO w (RS st ν w D') f1.φ False f1.s f1.es/\∀p b o,livePath f1.es p->f1.φ p=some (b,o)->livePath f.es p/\∃u,f.φ p=some (b,u))
 (H:∀b,D' b->¬D b->¬TB st ν (F.set κ q) b/\(A b\/w0.heap.size<=b)/\b<w.heap.size/\((w0.heap.size<=b\/O0 b)->∃c ety,w.heap[b]? =some (.cells c ety (0,0)))):Rel Γ w0 A O0 ν0 N (F.set κ q) D' st ν tm w:=by
 have E:=Ext.refl st ν w;have z:∀a v,RS st ν w D a v->RS st ν w D' a v:=fun a v h=>h.same E s
 refine R.ghost (fun _=>U) E s ?_ ?_ ?_ id ?_ (fun _ _ _ _ h=>h) H R.io
 ·intro i r m x g t
  exact(R.objs i r m x g t).mono U (fun _ _ _ _ _=>U) (fun _ _ _=>U) (fun _ _ _ _ _ _ _ _=>U) z
 ·intro i r x g t
  obtain⟨j,I⟩:=R.frozen i r x g t;exact⟨fun b o l=>s b (j b o l),I⟩
 ·intro k f1 d
  by_cases e:k=κ
  ·subst e;rw[Fl.set_eq]at d;exact(B f1 d).1
  ·rw[Fl.set_ne _ _ e]at d
   exact(R.flos k f1 d).mono U (fun _ _ _ _ _=>U) (fun _ _ _=>U) (fun _ _ _ _ _ _ _ _=>U) z
 ·intro k b o G l
  cases k with
  |nd i p=>exact⟨o,G,l⟩
  |fl k p=>
   obtain⟨f1,j,y⟩:=G;by_cases e:k=κ
   ·subst e
    rw[Fl.set_eq]at j;simp only[baseOf,Fl.set_eq,j]at l;obtain⟨J,u,K⟩:=(B f1 j).2 p b o y l;exact⟨u,⟨f,n,J⟩,by simp only[baseOf,n,id];exact K⟩
   ·rw[Fl.set_ne _ _ e]at j
    simp only[baseOf,Fl.set_ne _ _ e]at l;exact⟨o,⟨f1,j,y⟩,l⟩
end
theorem P5(es:List AV):frzL es=es.map frz:=by
 induction es with
 |nil=>simp[frzL]
 |cons a r b=>simp[frzL,b]
theorem a1g(e:AV):leaves (frz e)=(leaves e).map frz:=by
 cases e<;>simp[frz,leaves,P5]
theorem P6(es:List AV)(i j:Nat):leafAt (frzL es) i j=(leafAt es i j).map frz:=by
 unfold leafAt;rw[P5,ZE];cases es[i]? with
 |none=>rfl
 |some e=>simp[a1g,ZE]
theorem R4{es:List AV}(h:G4 es=true){i j:Nat}{l:AV}(a:leafAt es i j=some l):isOwn l=true\/immLeaf l=true:=by
 unfold leafAt at a;cases he:es[i]? with
 |none=>simp[he]at a
 |some e=>
  simp only[he,Zl]at a;have:=Zt.1 h e (Zx he);cases e with
  |agg b=>
   simp only[M1,Zt,Bool.or_eq_true]at this;exact this l (Zx a)
  |_=>
   simp only[leaves]at a;rcases j with _|j
   ·simp only[Zs,Zb]at a
    subst a;simpa[M1]using this
   ·simp at a
theorem M2{es:List AV}(h:P1 es=true){i j:Nat}{l:AV}(a:leafAt es i j=some l):immLeaf l=true:=by
 unfold leafAt at a;cases he:es[i]? with
 |none=>simp[he]at a
 |some e=>
  simp only[he,Zl]at a;have:=Zt.1 h e (Zx he);cases e with
  |agg b=>
   simp only[L5,Zt]at this;exact this l (Zx a)
  |_=>
   simp only[leaves]at a;rcases j with _|j
   ·simp only[Zs,Zb]at a
    subst a;exact this
   ·simp at a
theorem d0o{es:List AV}(h:∀i j l,leafAt es i j=some l->immLeaf l=true):P1 es=true:=by
 unfold P1;rw[Zt];intro e he;obtain⟨i,a⟩:=ZG.1 he;cases e with
 |agg d=>
  simp only[L5,Zt];intro l c;obtain⟨j,b⟩:=ZG.1 c;exact h i j l (by simp[leafAt,a,leaves,b])
 |_=>simp only[L5];exact h i 0 _ (by simp[leafAt,a,leaves])
theorem a0q{l:AV}(h:immLeaf l=true):frz l=l:=by
 cases l with
 |clo f cs=>rfl
 |_=>simp[immLeaf]at h<;>simp[frz]
theorem d6p{l:AV}(h:isOwn l=true\/immLeaf l=true):immLeaf (frz l)=true:=by
 rcases h with h|h
 ·cases l<;>simp[isOwn]at h
  simp[frz,immLeaf]
 ·rw[a0q h];exact h
theorem e3n{e:AV}(h:M1 e=true):L5 (frz e)=true:=by
 cases e with
 |agg b=>
  simp only[frz,P5,L5,List.all_map,Zt,M1]at*;intro l a;have:=h l a;simp only[Bool.or_eq_true]at this;exact d6p this
 |own s es=>simp[frz,L5,immLeaf]
 |clo f cs=>simpa[frz,L5,M1,isOwn,immLeaf]using h
 |_=>simp[M1,isOwn,immLeaf]at h<;>simp[frz,L5,immLeaf]
theorem a4t{es:List AV}(h:G4 es=true):P1 (frzL es)=true:=by
 rw[P5];simp only[P1,List.all_map,Zt];intro e he;exact e3n (Zt.1 h e he)
theorem a0f{es:List AV}(h:P1 es=true):frzL es=es:=by
 rw[P5]
 conv=>rhs;rw[<-List.map_id es]
 refine YI fun e he=> ?_
 have:=Zt.1 h e he;cases e with
 |agg a=>
  simp only[L5,Zt]at this;simp only[frz,id,P5];congr 1
  conv=>rhs;rw[<-List.map_id a]
  exact YI fun l b=>a0q (this l b)
 |_=>exact a0q this
section
variable{Γ:Env}{w0:World}{A O0:Nat->Prop}{ν0:Nu}{N:Nat}{F:Fl}{D:Nat->Prop}{st:St}{ν:Nu}{tm:Array Value}{w:World}
theorem RS.imm{a:AV}{v:Value}(h:RS st ν w D a v)(d:immLeaf a=true):RV w D a v:=by
 cases h with
 |data _ _ h=>exact h
 |clo f caps vs g e=>
  exact .clo f caps vs g fun i l h=>by
   have c:=e i l h;have b:a3y l=true:=Zt.1 d l (Zx h);cases l<;>simp[a3y]at b
   cases c with
   |data _ _ h=>exact h
 |_=>simp[immLeaf]at d
theorem W1{φ:Path->Base}{base:Base}{s:Nat}{es:List AV}(h:RN w (RS st ν w D) φ base False s es)(G:a2k es)
 (B:∀b o,base=some (b,o)->D b) {off n:Nat} {v:Value} (K:SlV w base s off n v) (hle:off+n<=es.length):
 RV w D (.list ((es.drop off).take n)) v:=by
 obtain⟨a,cap,rfl,z,t⟩:=K;have hlen:((es.drop off).take n).length=n:=by simp;omega
 have key:RV w D (.list ((es.drop off).take n)) (.slice a ((es.drop off).take n).length cap):=by
  rcases t with t|⟨b,o,q,E,J⟩
  ·have H:n=0:=by omega
   subst H;simp only[List.take_zero];exact .list [] a cap 0 0 0 (fun _ _=>undef) (by simp) (fun k=>(k U).elim) (fun e he=>by cases he) (fun i j l f=>by simp[leafAt]at f) (fun i j l f=>by simp[leafAt]at f)
  ·subst q
   obtain⟨c,y,r,M,L,_,u⟩:=h;have d:∀i j l,leafAt ((es.drop off).take n) i j=some l->leafAt es (off+i) j=some l:=by
    intro i j l f;have:=N0 f;unfold leafAt at this|-;rwa[Yd]at this
   refine .list _ a cap b (o+off*s) s (fun i j=>(c[o+(off+i)*s+j]?).getD undef) (by rw[hlen];exact z)
    (fun k=>⟨E,B b o U,?_⟩) (fun e he=>L (fun h=>h) e (Yw (ZV he))) (fun i j l f=> ?_) (fun i j l f=> ?_)
   ·rcases Nat.lt_or_ge b w.heap.size with p|p
    ·exact p
    ·rw[Array.getElem?_eq_none p]at r;cases r
   ·obtain⟨x,m,_⟩:=u _ _ _ (d i j l f)
    simp only[World.cell?,r];rw[m,show o+off*s+i*s+j=o+(off+i)*s+j from by rw[Yk];omega,m]
    rfl
   ·obtain⟨x,m,I⟩:=u _ _ _ (d i j l f)
    have g:=G _ _ _ (d i j l f);simp only[m,Option.getD_some];cases l with
    |own=>simp[immLeaf]at g
    |_=>exact(I:RS st ν w D _ _).imm g
 rwa[hlen]at key
theorem Rel.extSame(R:Rel Γ w0 A O0 ν0 N F D st ν tm w){id g m s H:Nat}{es d:List AV}(h:st (.h id)= .obj g m s es){c:Nu}{w':World}
 (p:∀i,i≠id->c i=ν i) (t:∀b,b<w.heap.size->csize w' b=csize w b) (B:c id none=ν id none)
 (v:∀i j,(leafAt d i j=some .nil->leafAt es i j=some .nil)/\
  ∀s2 l,leafAt d i j=some (.own s2 l)->leafAt es i j=some .nil\/∃a,leafAt es i j=some (.own s2 a)/\c id (some (i,j))=ν id (some (i,j))):
 Ext st ν w (st.upd (.h id) (.obj g H s d)) c w':=by
 refine⟨fun i=> ?_,fun i g1 m1 s1 u I k=> ?_⟩
 ·by_cases e:i=id
  ·subst e;rw[St.upd_eq,h];exact Zd _
  ·rw[N4 _ _ _ e];exact Zd _
 ·by_cases e:i=id
  ·subst e
   rw[St.upd_eq]at k;cases k;refine⟨m,es,h,B,fun b o f=>t b (R.hlt h (fun _ hq=>by cases hq) f),fun x y=>⟨(v x y).1,fun s2 a G=> ?_⟩⟩;rcases(v x y).2 s2 a G with r|⟨n,r,E⟩
   ·exact .inl r
   ·exact .inr ⟨n,r,E,fun b o f=>t b (R.hlt h (fun q hq=>by cases hq;exact⟨s2,n,r⟩) f)⟩
  ·rw[N4 _ _ _ e]at k
   refine⟨m1,u,k,by rw[p i e],fun b o f=>t b (R.hlt k (fun _ hq=>by cases hq) f),fun x y=>⟨fun z=>z,fun s2 a z=> .inr ⟨a,z,by rw[p i e],fun b o f=>t b (R.hlt k (fun q hq=>by cases hq;exact⟨s2,a,z⟩) f)⟩⟩⟩
theorem Rel.freezeTop(R:Rel Γ w0 A O0 ν0 N F D st ν tm w){id g s:Nat}{es:List AV}(h:st (.h id)= .obj g 0 s es)(hr:G4 es=true)
 (hA:∀b,TB st ν F b->A b\/w0.heap.size<=b):
 ∃D':Nat->Prop,(∀b,D b->D' b)/\Rel Γ w0 A O0 ν0 N F D' (st.upd (.h id) (.obj g 2 s (frzL es))) ν tm w/\
  Ext st ν w (st.upd (.h id) (.obj g 2 s (frzL es))) ν w:=by
 have E:Ext st ν w (st.upd (.h id) (.obj g 2 s (frzL es))) ν w:=by
  refine R.extSame h (fun _ _=>U) (fun _ _=>U) U fun i j=>⟨fun hn=> ?_,fun s2 t M=> ?_⟩
  ·rw[P6]at hn
   cases u:leafAt es i j with
   |none=>simp[u]at hn
   |some l=>
    simp only[u,ZA,Zb]at hn;cases l<;>simp[frz]at hn
    rfl
  ·rw[P6]at M
   cases u:leafAt es i j with
   |none=>simp[u]at M
   |some l=>
    simp only[u,ZA,Zb]at M;cases l<;>simp[frz]at M
 have hD:∀b,D b->(D b\/∃p o,livePath es p/\ν id p=some (b,o)):=fun b r=> .inl r
 have hL:∀a v,RS st ν w D a v->RS (st.upd (.h id) (.obj g 2 s (frzL es))) ν w (fun b=>D b\/∃p o,livePath es p/\ν id p=some (b,o)) a v:=
  fun a v h=>h.same E hD
 have I:∀i H m G d,i≠id->st.upd (.h id) (.obj g 2 s (frzL es)) (.h i)= .obj H m G d->st (.h i)= .obj H m G d:=by
  intro i H m G d e B;rw[N4 _ _ _ e]at B;exact B
 have J:=R.objs id g 0 s es h;have V:∀k,live (st.upd (.h id) (.obj g 2 s (frzL es))) F k->live st F k/\∀p,k≠.nd id p:=by
  intro k hk;cases k with
  |nd i p=>
   obtain⟨H,m,G,d,S,h2,h3⟩:=hk;have e:i≠id:=by
    intro e;subst e;rw[St.upd_eq]at S;cases S;exact h2 U
   exact⟨⟨H,m,G,d,I _ _ _ _ _ e S,h2,h3⟩,fun p' O=>by cases O;exact e U⟩
  |fl k p=>exact⟨hk,fun p' O=>by cases O⟩
 refine⟨fun b=>D b\/∃p o,livePath es p/\ν id p=some (b,o),hD,?_,E⟩;refine R.ghost (fun i=>U9 _ _ _ _) E hD ?_ ?_ ?_ (fun k=>k) ?_ (fun _ _ _ _ h=>h) ?_ ?_
 ·intro i H m G d B
  by_cases e:i=id
  ·subst e
   rw[St.upd_eq]at B;cases B;simp only[show¬((2:Nat)=3\/(2:Nat)=4)from by decide];simp only[show¬((0:Nat)=3\/(0:Nat)=4)from by decide]at J;refine⟨?_,fun x y s2 t L=> ?_⟩
   ·have ht:=J.top
    cases Y:ν i none with
    |none=>
     rw[Y]at ht;have:es=[]:=ht;subst this;show frzL []=[];simp[frzL]
    |some q=>
     obtain⟨b,o⟩:=q;rw[Y]at ht;obtain⟨c,a0,k1,k2,k3,k5,k4⟩:=ht;refine⟨c,a0,k1,by simpa[P5]using k2,fun r e he=> ?_,fun r=>r.elim,fun x y l u=> ?_⟩
     ·rw[P5]at he
      obtain⟨e',a2,rfl⟩:=ZI.1 he;rw[a1g,Zi];exact k3 r e' a2
     ·rw[P6]at u
      cases n:leafAt es x y with
      |none=>simp[n]at u
      |some Z=>
       simp only[n,ZA,Zb]at u;subst u;obtain⟨v,hv,W⟩:=k4 x y Z n;refine⟨v,hv,?_⟩;rcases R4 hr n with M|T
       ·cases Z<;>simp[isOwn]at M
        rename_i s2 t;obtain⟨q1,q2⟩:=J.sub x y s2 t n;have a3:frzL t=t:=by
         rw[P5]
         conv=>rhs;rw[<-List.map_id t]
         refine YI fun e he=> ?_
         obtain⟨z,L⟩:=ZG.1 he;cases e with
         |agg fs=>
          simp only[frz,id,P5];congr 1
          conv=>rhs;rw[<-List.map_id fs]
          refine YI fun l u=> ?_
          obtain⟨y',a4⟩:=ZG.1 u;exact a0q (q2 z y' l (by simp[leafAt,L,leaves,a4]))
         |_=>exact a0q (q2 z 0 _ (by simp[leafAt,L,leaves]))
        simp only[frz,a3];have X:SlV w (ν i (some (x,y))) s2 0 t.length v:=W;have:=W1 (D:=fun b=>D b\/∃p o,livePath es p/\ν i p=some (b,o)) (st:=st) (ν:=ν) (φ:=ν i) (q1.mono U (fun _ _ _=>U) (fun a v h=>h.same (Ext.refl _ _ _) hD) (fun i j G d hx=>by
         have:=q2 i j _ hx;simp[immLeaf]at this)) q2 (fun b o r=> .inr ⟨some (x,y),o,(fun q hq=>by cases hq;exact⟨s2,t,n⟩),r⟩) X (by omega)
        simp only[ZY,Yo]at this;exact .data _ _ this
       ·rw[a0q T]
        cases Z with
        |own=>simp[immLeaf]at T
        |_=>exact hL _ _ W
   ·rw[P6]at L
    cases n:leafAt es x y with
    |none=>simp[n]at L
    |some Z=>simp only[n,ZA,Zb]at L;cases Z<;>simp[frz]at L
  ·exact(R.objs i H m G d (I _ _ _ _ _ e B)).mono U (fun _ _ _ _ _=>U) (fun _ _ _=>U) (fun _ _ _ _ _ _ _ _=>U) hL
 ·intro i H G d B
  by_cases e:i=id
  ·subst e
   rw[St.upd_eq]at B;cases B;exact⟨fun b o r=> .inr ⟨none,o,(fun _ hq=>by cases hq),r⟩,a4t hr⟩
  ·obtain⟨S,h2⟩:=R.frozen i H G d (I _ _ _ _ _ e B)
   exact⟨fun b o r=> .inl (S b o r),h2⟩
 ·intro k f hf
  exact(R.flos k f hf).mono U (fun _ _ _ _ _=>U) (fun _ _ _=>U) (fun _ _ _ _ _ _ _ _=>U) hL
 ·intro k b o u r
  exact⟨o,(V k u).1,r⟩
 ·rintro b (r|⟨p,o,O,r⟩) hd
  ·exact(hd r).elim
  ·have K:TB st ν F b:=⟨.nd id p,o,⟨g,0,s,es,h,by decide,O⟩,r⟩
   refine⟨?_,hA b K,R.TB_lt K,fun _=>R.TB_cells K⟩;rintro⟨k,o',u,a1⟩;obtain⟨l1,l2⟩:=V k u;exact l2 p (R.inj k (.nd id p) b o' o l1 ⟨g,0,s,es,h,by decide,O⟩ a1 r)
 ·intro i H m G d B hm
  by_cases e:i=id
  ·subst e;rw[St.upd_eq]at B;cases B;rcases hm with h|h<;>cases h
  ·exact R.io i H m G d (I _ _ _ _ _ e B) hm
theorem Rel.freezeIn(R:Rel Γ w0 A O0 ν0 N F D st ν tm w){id g s:Nat}{es:List AV}(h:st (.h id)= .obj g 0 s es)(hr:G4 es=true)
 (hA:∀b,TB st ν F b->A b\/w0.heap.size<=b):
 ∃D':Nat->Prop,(∀b,D b->D' b)/\Rel Γ w0 A O0 ν0 N F D' (st.upd (.h id) (.obj g 0 s (frzL es))) ν tm w/\
  Ext st ν w (st.upd (.h id) (.obj g 0 s (frzL es))) ν w:=by
 have E:Ext st ν w (st.upd (.h id) (.obj g 0 s (frzL es))) ν w:=by
  refine R.extSame h (fun _ _=>U) (fun _ _=>U) U fun i j=>⟨fun hn=> ?_,fun s2 n M=> ?_⟩
  ·rw[P6]at hn
   cases u:leafAt es i j with
   |none=>simp[u]at hn
   |some l=>
    simp only[u,ZA,Zb]at hn;cases l<;>simp[frz]at hn
    rfl
  ·rw[P6]at M
   cases u:leafAt es i j with
   |none=>simp[u]at M
   |some l=>
    simp only[u,ZA,Zb]at M;cases l<;>simp[frz]at M
 have hD:∀b,D b->(D b\/∃q o,livePath es (some q)/\ν id (some q)=some (b,o)):=fun b t=> .inl t
 have hL:∀a v,RS st ν w D a v->RS (st.upd (.h id) (.obj g 0 s (frzL es))) ν w (fun b=>D b\/∃q o,livePath es (some q)/\ν id (some q)=some (b,o)) a v:=
  fun a v h=>h.same E hD
 have I:∀i H m G d,i≠id->st.upd (.h id) (.obj g 0 s (frzL es)) (.h i)= .obj H m G d->st (.h i)= .obj H m G d:=by
  intro i H m G d e B;rw[N4 _ _ _ e]at B;exact B
 have K:=R.objs id g 0 s es h;have V:∀k,live (st.upd (.h id) (.obj g 0 s (frzL es))) F k->live st F k/\∀q,k≠.nd id (some q):=by
  intro k hk;cases k with
  |nd i p=>
   obtain⟨H,m,G,d,S,h2,h3⟩:=hk;by_cases e:i=id
   ·subst e
    rw[St.upd_eq]at S;cases S;cases p with
    |none=>exact⟨⟨g,0,s,es,h,h2,fun _ hq=>by cases hq⟩,fun q hq=>by cases hq⟩
    |some q=>
     obtain⟨s2,n,J⟩:=h3 q U;have:=M2 (a4t hr) J;simp[immLeaf]at this
   ·exact⟨⟨H,m,G,d,I _ _ _ _ _ e S,h2,h3⟩,fun p' O=>by cases O;exact e U⟩
  |fl k p=>exact⟨hk,fun p' O=>by cases O⟩
 refine⟨fun b=>D b\/∃q o,livePath es (some q)/\ν id (some q)=some (b,o),hD,?_,E⟩;refine R.ghost (fun i=>U9 _ _ _ _) E hD ?_ ?_ ?_ (fun k=>k) ?_ (fun _ _ _ _ h=>h) ?_ ?_
 ·intro i H m G d B
  by_cases e:i=id
  ·subst e
   rw[St.upd_eq]at B;cases B;simp only[show¬((0:Nat)=3\/(0:Nat)=4)from by decide];simp only[show¬((0:Nat)=3\/(0:Nat)=4)from by decide]at K;refine⟨?_,fun x y s2 n J=> ?_⟩
   ·have ht:=K.top
    cases Y:ν i none with
    |none=>
     rw[Y]at ht;have:es=[]:=ht;subst this;show frzL []=[];simp[frzL]
    |some q=>
     obtain⟨b,o⟩:=q;rw[Y]at ht;obtain⟨c,a0,k1,k2,k3,k5,k4⟩:=ht;refine⟨c,a0,k1,by simpa[P5]using k2,fun t e he=> ?_,fun t=>t.elim,fun x y l u=> ?_⟩
     ·rw[P5]at he
      obtain⟨e',a2,rfl⟩:=ZI.1 he;rw[a1g,Zi];exact k3 t e' a2
     ·rw[P6]at u
      cases r:leafAt es x y with
      |none=>simp[r]at u
      |some Z=>
       simp only[r,ZA,Zb]at u;subst u;obtain⟨v,hv,W⟩:=k4 x y Z r;refine⟨v,hv,?_⟩;rcases R4 hr r with M|T
       ·cases Z<;>simp[isOwn]at M
        rename_i s2 n;obtain⟨q1,q2⟩:=K.sub x y s2 n r;have a3:frzL n=n:=by
         rw[P5]
         conv=>rhs;rw[<-List.map_id n]
         refine YI fun e he=> ?_
         obtain⟨z,J⟩:=ZG.1 he;cases e with
         |agg fs=>
          simp only[frz,id,P5];congr 1
          conv=>rhs;rw[<-List.map_id fs]
          refine YI fun l u=> ?_
          obtain⟨y',a4⟩:=ZG.1 u;exact a0q (q2 z y' l (by simp[leafAt,J,leaves,a4]))
         |_=>exact a0q (q2 z 0 _ (by simp[leafAt,J,leaves]))
        simp only[frz,a3];have X:SlV w (ν i (some (x,y))) s2 0 n.length v:=W;have:=W1 (D:=fun b=>D b\/∃q o,livePath es (some q)/\ν i (some q)=some (b,o)) (st:=st) (ν:=ν) (φ:=ν i) (q1.mono U (fun _ _ _=>U) (fun a v h=>h.same (Ext.refl _ _ _) hD) (fun i j G d hx=>by
         have:=q2 i j _ hx;simp[immLeaf]at this)) q2 (fun b o t=> .inr ⟨(x,y),o,(fun q hq=>by cases hq;exact⟨s2,n,r⟩),t⟩) X (by omega)
        simp only[ZY,Yo]at this;exact .data _ _ this
       ·rw[a0q T]
        cases Z with
        |own=>simp[immLeaf]at T
        |_=>exact hL _ _ W
   ·rw[P6]at J
    cases r:leafAt es x y with
    |none=>simp[r]at J
    |some Z=>simp only[r,ZA,Zb]at J;cases Z<;>simp[frz]at J
  ·exact(R.objs i H m G d (I _ _ _ _ _ e B)).mono U (fun _ _ _ _ _=>U) (fun _ _ _=>U) (fun _ _ _ _ _ _ _ _=>U) hL
 ·intro i H G d B
  by_cases e:i=id
  ·subst e
   rw[St.upd_eq]at B;cases B
  ·obtain⟨S,h2⟩:=R.frozen i H G d (I _ _ _ _ _ e B)
   exact⟨fun b o t=> .inl (S b o t),h2⟩
 ·intro k f hf
  exact(R.flos k f hf).mono U (fun _ _ _ _ _=>U) (fun _ _ _=>U) (fun _ _ _ _ _ _ _ _=>U) hL
 ·intro k b o u t
  exact⟨o,(V k u).1,t⟩
 ·rintro b (t|⟨q,o,O,t⟩) hd
  ·exact(hd t).elim
  ·have L:TB st ν F b:=⟨.nd id (some q),o,⟨g,0,s,es,h,by decide,O⟩,t⟩
   refine⟨?_,hA b L,R.TB_lt L,fun _=>R.TB_cells L⟩;rintro⟨k,o',u,a1⟩;obtain⟨l1,l2⟩:=V k u;exact l2 q (R.inj k (.nd id (some q)) b o' o l1 ⟨g,0,s,es,h,by decide,O⟩ a1 t)
 ·intro i H m G d B hm
  by_cases e:i=id
  ·subst e;rw[St.upd_eq]at B;cases B;rcases hm with h|h<;>cases h
  ·exact R.io i H m G d (I _ _ _ _ _ e B) hm
end
structure WStep(Γ:Env)(w w':World)(bt:Nat):Prop where
 le:w.heap.size<=w'.heap.size
 os:w'.os=w.os
 tape:w'.tape=w.tape
 output:w'.output=w.output
 dr:Γ.mo->w.drawn<=w'.drawn
 keep:∀b,b<w.heap.size->b≠bt->w'.heap[b]? =w.heap[b]?
 cs:∀b,b<w.heap.size->csize w' b=csize w b
section
variable{Γ:Env}{w0:World}{A O0:Nat->Prop}{ν0:Nu}{N:Nat}{F:Fl}{D:Nat->Prop}{st:St}{ν:Nu}{tm:Array Value}{w:World}
theorem Rel.extW(R:Rel Γ w0 A O0 ν0 N F D st ν tm w){w':World}{bt:Nat}(W:WStep Γ w w' bt):Ext st ν w st ν w':=
 ⟨fun _=>Zd _,fun id g e f c _ h=>⟨e,c,h,U,fun b o d=>W.cs b (R.hlt h (fun _ hq=>by cases hq) d),
  fun i j=>⟨fun z=>z,fun s2 a z=> .inr ⟨a,z,U,fun b o d=>W.cs b (R.hlt h (fun q hq=>by cases hq;exact⟨s2,a,z⟩) d)⟩⟩⟩⟩
theorem Rel.keepD(R:Rel Γ w0 A O0 ν0 N F D st ν tm w){w':World}{bt:Nat}(W:WStep Γ w w' bt)(a:TB st ν F bt\/w.heap.size<=bt):
 ∀b,D b->b<w.heap.size->w'.heap[b]? =w.heap[b]?/\D b:=by
 intro b c hlt;refine⟨W.keep b hlt ?_,c⟩;rintro rfl;rcases a with h|h
 ·exact R.dT b c h
 ·omega
theorem Rel.world(R:Rel Γ w0 A O0 ν0 N F D st ν tm w){st':St}{a:Nu}{F':Fl}{w':World}{bt:Nat}(W:WStep Γ w w' bt)(p:TB st ν F bt\/w.heap.size<=bt)
 (I:∀i,st' (.t i)=st (.t i)) (E:Ext st ν w st' a w')
 (objs:∀id g m s es,st' (.h id)= .obj g m s es->RO w' (RS st' a w' D) (a id) (m=3\/m=4) s es)
 (frozen:∀id g s es,st' (.h id)= .obj g 2 s es->(∀b o,a id none=some (b,o)->D b)/\P1 es=true)
 (flos:∀k f,F' k=some f->RO w' (RS st' a w' D) f.φ False f.s f.es)
 (f:Key->Key) (fresh:Key->Prop)
 (q:∀k b o,live st' F' k->baseOf a F' k=some (b,o)->(¬fresh k/\∃x,live st F (f k)/\baseOf ν F (f k)=some (b,x))\/(fresh k/\w.heap.size<=b))
 (O:∀e j,live st' F' e->live st' F' j->¬fresh e->¬fresh j->f e=f j->e=j)
 (S:∀e j,fresh e->fresh j->e=j)
 (io:∀id g m s es,st' (.h id)= .obj g m s es->(m=1\/m=4)->a id=ν0 id):Rel Γ w0 A O0 ν0 N F' D st' a tm w':=by
 have G:=R.keepD W p;have n:∀b,TB st' a F' b->TB st ν F b\/w.heap.size<=b:=by
  rintro b ⟨k,o,T,d⟩;rcases q k b o T d with⟨_,x,m,c⟩|⟨_,h⟩
  ·exact .inl ⟨_,x,m,c⟩
  ·exact .inr h
 refine⟨R.size,fun i r=> ?_,fun i r=>by rw[I];exact R.high i r,objs,frozen,flos,?_,?_,R.dA,fun b d=>⟨YF (R.dlt b d).1 W.le,fun h=>by rw[(G b d (R.dlt b d).1).1];exact(R.dlt b d).2 h⟩,?_,Yg R.le W.le,W.os.trans R.os,W.tape.trans R.tape,W.output.trans R.output,fun h=>Yg (R.dr h) (W.dr h),?_,fun b d=>(W.cs b (YF d R.le)).trans (R.cs b d),io,R.gO,R.gi⟩
 ·rw[I];exact(R.slots i r).mono E G W.le
 ·intro e j b V X J K L M
  rcases q e b V J L with⟨u,y,m1,B⟩|⟨u,g1⟩<;>rcases q j b X K M with⟨v,z,m2,c2⟩|⟨v,g2⟩
  ·exact O e j J K u v (R.inj _ _ b y z m1 m2 B c2)
  ·have:=R.live_lt m1 B;omega
  ·have:=R.live_lt m2 c2;omega
  ·exact S e j u v
 ·intro b d l
  rcases n b l with h|h
  ·exact R.dT b d h
  ·have:=(R.dlt b d).1;omega
 ·intro b l
  rcases n b l with h|h
  ·exact R.tO b h
  ·exact .inr (Yg R.le h)
 ·intro b d H
  rw[W.keep b (YF d R.le) ?_]
  ·exact R.fr b d H
  ·rintro rfl
   rcases p with h|h
   ·rcases R.tO b h with h|h
    ·exact H h
    ·omega
   ·have:=R.le;omega
theorem Rel.objW(R:Rel Γ w0 A O0 ν0 N F D st ν tm w){st':St}{c:Nu}{w':World}{bt:Nat}(W:WStep Γ w w' bt)(l:TB st ν F bt\/w.heap.size<=bt)
 (E:Ext st ν w st' c w') {id g m s:Nat} {es:List AV} (h:st (.h id)= .obj g m s es) (n:c id=ν id)
 (e:∀p b o,livePath es p->ν id p=some (b,o)->b≠bt):RO w' (RS st' c w' D) (c id) (m=3\/m=4) s es:=by
 have r:=R.keepD W l;rw[n];refine(R.objs id g m s es h).mono U (fun _ _ _ _ _=>U) (fun b o d=> ?_) (fun i j u k b o t d=> ?_) (fun a v h=>h.mono E r W.le)
 ·have f:livePath es none:=fun _ hq=>by cases hq
  exact W.keep b (R.hlt h f d) (e none b o f d)
 ·have f:livePath es (some (i,j)):=fun q hq=>by cases hq;exact⟨u,k,t⟩
  exact W.keep b (R.hlt h f d) (e _ b o f d)
theorem Rel.floW(R:Rel Γ w0 A O0 ν0 N F D st ν tm w){st':St}{g:Nu}{w':World}{bt:Nat}(W:WStep Γ w w' bt)(m:TB st ν F bt\/w.heap.size<=bt)
 (E:Ext st ν w st' g w') {k:FK} {f:Flo} (h:F k=some f)
 (e:∀p b o,livePath f.es p->f.φ p=some (b,o)->b≠bt):RO w' (RS st' g w' D) f.φ False f.s f.es:=by
 have n:=R.keepD W m;have hlt:∀p b o,livePath f.es p->f.φ p=some (b,o)->b<w.heap.size:=fun p b o d c=>
  R.live_lt (k:= .fl k p) ⟨f,h,d⟩ (by simp only[baseOf,h];exact c)
 refine(R.flos k f h).mono U (fun _ _ _ _ _=>U) (fun b o c=> ?_) (fun i j s l b o r c=> ?_) (fun a v h=>h.mono E n W.le)
 ·have d:livePath f.es none:=fun _ hq=>by cases hq
  exact W.keep b (hlt _ _ _ d c) (e none b o d c)
 ·have d:livePath f.es (some (i,j)):=fun q hq=>by cases hq;exact⟨s,l,r⟩
  exact W.keep b (hlt _ _ _ d c) (e _ b o d c)
def FrC0(κ0:FK)(σt:Option FK)(σ:Nat->Nat->FK×Path):Path->Key
 |none=>match σt with
  |some a=> .fl a none
  |none=> .fl κ0 none
 |some (i,j)=> .fl (σ i j).1 (σ i j).2
def FrC(κ0:FK)(σt:Option FK)(σ:Nat->Nat->FK×Path):Key->Key
 | .nd i p=> .nd i p
 | .fl k p=>if k=κ0 then FrC0 κ0 σt σ p else .fl k p
theorem Rel.compose(R:Rel Γ w0 A O0 ν0 N F D st ν tm w){w':World}{bt:Nat}(W:WStep Γ w w' bt)(J:FK->Prop)(κ0:FK)(ad:F κ0=none\/J κ0)
 (new:Flo) (σt:Option FK) (σ:Nat->Nat->FK×Path) (H:∃o,new.φ none=some (bt,o))
 (r:(σt=none/\w.heap.size<=bt)\/∃d B K,σt=some d/\J d/\F d=some B/\B.φ none=some (bt,K))
 (a8:RN w' (RS st ν w D) new.φ (new.φ none) False new.s new.es)
 (I:∀i j s' c,leafAt new.es i j=some (.own s' c)->J (σ i j).1/\(∃f,F (σ i j).1=some f/\livePath f.es (σ i j).2/\f.φ (σ i j).2=new.φ (some (i,j))/\
  RN w (RS st ν w D) f.φ (f.φ (σ i j).2) False s' c)/\a2k c)
 (aa:∀i j V X s1 M s2 O,leafAt new.es i j=some (.own s1 M)->leafAt new.es V X=some (.own s2 O)->σ i j=σ V X->i=V/\j=X)
 (hσt:∀d,σt=some d->∀i j s' c,leafAt new.es i j=some (.own s' c)->σ i j≠(d,none))
 {F':Fl} (y:F' κ0=some new) (a6:∀k,k≠κ0->J k->F' k=none) (a7:∀k,k≠κ0->¬J k->F' k=F k):
 Rel Γ w0 A O0 ν0 N F' D st ν tm w':=by
 obtain⟨o0,H⟩:=H;have G:TB st ν F bt\/w.heap.size<=bt:=by
  rcases r with⟨_,h⟩|⟨d,B,K,_,_,l,h2⟩
  ·exact .inr h
  ·exact .inl ⟨.fl d none,K,⟨B,l,fun _ hq=>by cases hq⟩,by simp only[baseOf,l];exact h2⟩
 have E:=R.extW W;have hD:=R.keepD W G;have hL:∀a v,RS st ν w D a v->RS st ν w' D a v:=fun a v h=>h.mono E hD W.le
 have t:∀k o,live st F k->baseOf ν F k=some (bt,o)->∃d,σt=some d/\J d/\k= .fl d none:=by
  intro k o n u;have hlt:=R.live_lt n u;rcases r with⟨_,h⟩|⟨d,B,K,e,x,l,h2⟩
  ·omega
  ·exact⟨d,e,x,R.inj k (.fl d none) bt o K n ⟨B,l,fun _ hq=>by cases hq⟩ u (by simp only[baseOf,l];exact h2)⟩
 have hF:∀k f,F' k=some f->k≠κ0->¬J k/\F k=some f:=by
  intro k f T a2;by_cases x:J k
  ·rw[a6 k a2 x]at T;cases T
  ·rw[a7 k a2 x]at T;exact⟨x,T⟩
 refine R.world W G (fun _=>U) E ?_ R.frozen ?_
  (FrC κ0 σt σ)
  (fun k=>k= .fl κ0 none/\σt=none) ?_ ?_ (fun k1 k2 l h2=>l.1.trans h2.1.symm) R.io
 ·intro id g m s es h
  refine R.objW W G E h U fun p b o hp u e=> ?_
  subst e;by_cases hm:m=2
  ·subst hm
   cases p with
   |none=>
    have:=(R.frozen id g s es h).1 b o u;rcases G with h'|h'
    ·exact R.dT b this h'
    ·have:=(R.dlt b this).1;omega
   |some q=>
    obtain⟨s',c,hq⟩:=hp q U;have:=M2 (R.frozen id g s es h).2 hq;simp[immLeaf]at this
  ·obtain⟨d,_,_,h'⟩:=t (.nd id p) o ⟨g,m,s,es,h,hm,hp⟩ u
   cases h'
 ·intro k f T
  by_cases e:k=κ0
  ·subst e
   rw[y]at T;cases T;refine⟨a8.mono U (fun _ _ _=>U) hL (fun _ _ _ _ _=>⟨U,fun _ _ _=>U⟩),fun i j s' c n=> ?_⟩;obtain⟨q1,⟨f,q2,q3,q4,q5⟩,q6⟩:=I i j s' c n;refine⟨(q5.mono (base':=new.φ (some (i,j))) q4.symm (fun b o u=> ?_) hL (fun V X s2 a4 a0=> ?_):RN w' (RS st ν w' D) new.φ _ False s' c),q6⟩
   ·refine W.keep b (q5.lt u) ?_
    rintro rfl;obtain⟨d,M,_,O⟩:=t (.fl (σ i j).1 (σ i j).2) o ⟨f,q2,q3⟩ (by simp only[baseOf,q2];exact u);injection O with Y Z
    exact hσt d M i j s' c n (Prod.ext Y Z)
   ·have:=q6 V X _ a0
    simp[immLeaf]at this
  ·obtain⟨x,z⟩:=hF k f T e
   refine R.floW W G E z fun p b o hp u e'=> ?_
   subst e';obtain⟨d,_,a9,h'⟩:=t (.fl k p) o ⟨f,z,hp⟩ (by simp only[baseOf,z];exact u);cases h';exact x a9
 ·intro k b o n u
  cases k with
  |nd i p=>exact .inl ⟨(fun h=>by cases h.1),o,n,u⟩
  |fl k p=>
   obtain⟨f,l,S⟩:=n;by_cases e:k=κ0
   ·subst e
    rw[y]at l;cases l;simp only[baseOf,y]at u;cases p with
    |none=>
     rw[H]at u;cases u;rcases r with⟨e,h⟩|⟨d,B,K,e,x,k1,k2⟩
     ·exact .inr ⟨⟨U,e⟩,h⟩
     ·subst e
      refine .inl ⟨(fun h=>by cases h.2),K,?_,?_⟩
      ·simp only[FrC,FrC0,if_true];exact⟨B,k1,fun _ hq=>by cases hq⟩
      ·simp only[FrC,FrC0,if_true,baseOf,k1];exact k2
    |some q=>
     obtain⟨i,j⟩:=q;obtain⟨s',c,n⟩:=S (i,j) U;obtain⟨q1,⟨f,q2,q3,q4,q5⟩,q6⟩:=I i j s' c n;refine .inl ⟨(fun h=>by cases h.1),o,?_,?_⟩
     ·simp only[FrC,FrC0,if_true];exact⟨f,q2,q3⟩
     ·simp only[FrC,FrC0,if_true,baseOf,q2];rw[q4];exact u
   ·obtain⟨x,z⟩:=hF k f l e
    refine .inl ⟨(fun h=>by cases h.1;exact e U),o,?_,?_⟩
    ·simp only[FrC,e,if_false];exact⟨f,z,S⟩
    ·simp only[FrC,e,if_false,baseOf,z]
     simp only[baseOf,l]at u;exact u
 ·intro k1 k2 l1 l2 n1 n2 he
  have key:∀k p,live st F' (.fl k p)->k≠κ0->¬J k:=fun k p n e=>by
   obtain⟨f,l,_⟩:=n;exact(hF k f l e).1
  --ae af new float's a3 ac from is consumed
  have L:∀p,live st F' (.fl κ0 p)->¬(Key.fl κ0 p= .fl κ0 none/\σt=none)->∃k' p',J k'/\FrC0 κ0 σt σ p= .fl k' p':=by
   intro p n hn;cases p with
   |none=>
    rcases r with⟨e,_⟩|⟨d,B,K,e,x,_,_⟩
    ·exact(hn ⟨U,e⟩).elim
    ·subst e;exact⟨d,none,x,U⟩
   |some q=>
    obtain⟨i,j⟩:=q;obtain⟨f,l,S⟩:=n;rw[y]at l;cases l;obtain⟨s',c,n⟩:=S (i,j) U;exact⟨_,_,(I i j s' c n).1,U⟩
  cases k1 with
  |nd i p=>cases k2 with
   |nd j q=>exact he
   |fl k q=>
    by_cases e:k=κ0
    ·subst e
     obtain⟨k',p',_,hc⟩:=L q l2 n2;simp only[FrC,if_true]at he;rw[hc]at he;cases he
    ·simp only[FrC,e,if_false]at he;cases he
  |fl k p=>cases k2 with
   |nd j q=>
    by_cases e:k=κ0
    ·subst e
     obtain⟨k',p',_,hc⟩:=L p l1 n1;simp only[FrC,if_true]at he;rw[hc]at he;cases he
    ·simp only[FrC,e,if_false]at he;cases he
   |fl k' q=>
    by_cases M:k=κ0<;>by_cases O:k'=κ0
    ·subst M
     subst O;simp only[FrC,if_true]at he;cases p with
     |none=>cases q with
      |none=>rfl
      |some q=>
       obtain⟨i,j⟩:=q;obtain⟨f,l,S⟩:=l2;rw[y]at l;cases l;obtain⟨s',c,n⟩:=S (i,j) U;rcases r with⟨e,_⟩|⟨d,B,K,e,x,_,_⟩
       ·exact(n1 ⟨U,e⟩).elim
       ·subst e
        simp only[FrC0]at he;injection he with Y Z
        exact(hσt d U i j s' c n (Prod.ext Y.symm Z.symm)).elim
     |some p=>
      obtain⟨i,j⟩:=p;obtain⟨f,l,S⟩:=l1;rw[y]at l;cases l;obtain⟨s',c,n⟩:=S (i,j) U;cases q with
      |none=>
       rcases r with⟨e,_⟩|⟨d,B,K,e,x,_,_⟩
       ·exact(n2 ⟨U,e⟩).elim
       ·subst e
        simp only[FrC0]at he;injection he with Y Z
        exact(hσt d U i j s' c n (Prod.ext Y Z)).elim
      |some q=>
       obtain⟨V,X⟩:=q;obtain⟨f',a1,a5⟩:=l2;rw[y]at a1;cases a1;obtain⟨s2,a4,a0⟩:=a5 (V,X) U;simp only[FrC0]at he;injection he with Y Z
       obtain⟨rfl,rfl⟩:=aa i j V X _ _ _ _ n a0 (Prod.ext Y Z)
       rfl
    ·subst M
     obtain⟨ab,p',x,hc⟩:=L p l1 n1;simp only[FrC,if_true,O,if_false]at he;rw[hc]at he;cases he;exact(key _ q l2 O x).elim
    ·subst O
     obtain⟨ab,p',x,hc⟩:=L q l2 n2;simp only[FrC,if_true,M,if_false]at he;rw[hc]at he;cases he;exact(key _ p l1 M x).elim
    ·simp only[FrC,M,O,if_false]at he
     exact he
end
section
variable{Γ:Env}{w0:World}{A O0:Nat->Prop}{ν0:Nu}{N:Nat}{F:Fl}{D:Nat->Prop}{st:St}{ν:Nu}{tm:Array Value}{w:World}
def FrS(id:Nat)(fr:Nat->Nat->Prop)[∀i j,Decidable (fr i j)](σ:Nat->Nat->FK):Key->Key
 | .nd i p=>if i=id then(match p with
   |none=> .nd i none
   |some (x,y)=>if fr x y then .fl (σ x y) none else .nd i (some (x,y)))else .nd i p
 | .fl k p=> .fl k p
open Classical in
theorem Rel.storeTop(R:Rel Γ w0 A O0 ν0 N F D st ν tm w){w':World}{bt:Nat}(W:WStep Γ w w' bt){id g m s:Nat}{es l:List AV}
 (h:st (.h id)= .obj g m s es) (hm:m≠2) (hb:∃o,ν id none=some (bt,o)) (φ:Path->Base) (a0:φ none=ν id none)
 (ab:RN w' (RS st ν w D) φ (φ none) (m=3\/m=4) s l)
 (a9:∀i j,leafAt l i j=some .nil->leafAt es i j=some .nil)
 (fr:Nat->Nat->Prop) (σ:Nat->Nat->FK) (Kc:FK->Prop)
 (H:∀i j s' d,leafAt l i j=some (.own s' d)->
  (¬fr i j/\leafAt es i j=some (.own s' d)/\φ (some (i,j))=ν id (some (i,j)))\/
  (fr i j/\leafAt es i j=some .nil/\Kc (σ i j)/\∃f,F (σ i j)=some f/\f.φ none=φ (some (i,j))/\f.s=s'/\f.es=d/\a2k d))
 (ae:∀i j i' j' s1 B s2 O,leafAt l i j=some (.own s1 B)->leafAt l i' j'=some (.own s2 O)->fr i j->fr i' j'->σ i j=σ i' j'->i=i'/\j=j')
 (ad:m=1\/m=4->φ=ν id) {F':Fl} (a1:∀k,Kc k->F' k=none) (a2:∀k,¬Kc k->F' k=F k):
 Rel Γ w0 A O0 ν0 N F' D (st.upd (.h id) (.obj g m s l)) (ν.set id φ) tm w'/\Ext st ν w (st.upd (.h id) (.obj g m s l)) (ν.set id φ) w':=by
 obtain⟨o0,hb⟩:=hb;have T:live st F (.nd id none):=⟨g,m,s,es,h,hm,fun _ hq=>by cases hq⟩;have S:TB st ν F bt\/w.heap.size<=bt:= .inl ⟨.nd id none,o0,T,hb⟩;have E:Ext st ν w (st.upd (.h id) (.obj g m s l)) (ν.set id φ) w':=by
  refine R.extSame h (fun i u=>Nu.set_ne _ _ u) W.cs (by rw[Nu.set_eq];exact a0) fun i j=>⟨a9 i j,fun s2 d Y=> ?_⟩
  rw[Nu.set_eq];rcases H i j s2 d Y with⟨_,n,M⟩|⟨_,n,_⟩
  ·exact .inr ⟨d,n,M⟩
  ·exact .inl n
 have hD:=R.keepD W S;have hL:∀a v,RS st ν w D a v->RS (st.upd (.h id) (.obj g m s l)) (ν.set id φ) w' D a v:=fun a v h=>h.mono E hD W.le
 have I:∀i G K s' t,i≠id->st.upd (.h id) (.obj g m s l) (.h i)= .obj G K s' t->st (.h i)= .obj G K s' t:=by
  intro i G K s' t e u;rw[N4 _ _ _ e]at u;exact u
 have r:∀k o,live st F k->baseOf ν F k=some (bt,o)->k= .nd id none:=fun k o Y c=>
  R.inj k (.nd id none) bt o o0 Y T c hb
 refine⟨R.world W S (fun i=>U9 _ _ _ _) E ?_ ?_ ?_ (FrS id fr σ) (fun _=>False) ?_ ?_ (fun _ _ h=>h.elim) ?_,E⟩
 ·intro i G K s' t u
  by_cases e:i=id
  ·subst e
   rw[St.upd_eq]at u;cases u;rw[Nu.set_eq];refine⟨ab.mono U (fun _ _ _=>U) hL (fun _ _ _ _ _=>⟨U,fun _ _ _=>U⟩),fun x y s2 d Y=> ?_⟩;rcases H x y s2 d Y with⟨_,n,M⟩|⟨_,n,M,f,J,h4,h5,h6,h7⟩
   ·obtain⟨V,q2⟩:=(R.objs i g m s es h).sub x y s2 d n
    refine⟨V.mono M (fun b o c=> ?_) hL (fun i' j' s3 a5 a3=> ?_),q2⟩
    ·refine W.keep b (V.lt c) ?_
     rintro rfl;have:=r (.nd i (some (x,y))) o ⟨g,m,s,es,h,hm,fun q hq=>by cases hq;exact⟨s2,d,n⟩⟩ c;cases this
    ·have:=q2 i' j' _ a3;simp[immLeaf]at this
   ·have V:=(R.flos _ f J).top
    rw[h5,h6]at V;refine⟨(V.mono (base':=φ (some (x,y))) h4.symm (fun b o c=> ?_) hL (fun i' j' s3 a5 a3=> ?_):RN w' _ φ _ False s2 d),h7⟩
    ·refine W.keep b (V.lt c) ?_
     rintro rfl;have:=r (.fl (σ x y) none) o ⟨f,J,fun _ hq=>by cases hq⟩ (by simp only[baseOf,J];exact c);cases this
    ·have:=h7 i' j' _ a3;simp[immLeaf]at this
  ·refine R.objW W S E (I _ _ _ _ _ e u) (Nu.set_ne _ _ e) fun p b o hp c t=> ?_
   subst t;by_cases a8:K=2
   ·subst a8
    have a6:=R.frozen i G s' t (I _ _ _ _ _ e u);cases p with
    |none=>exact R.dT b (a6.1 b o c) ⟨.nd id none,o0,T,hb⟩
    |some q=>
     obtain⟨s3,a5,hq⟩:=hp q U;have:=M2 a6.2 hq;simp[immLeaf]at this
   ·have:=r (.nd i p) o ⟨G,K,s',t,I _ _ _ _ _ e u,a8,hp⟩ c
    cases this;exact e U
 ·intro i G s' t u
  by_cases e:i=id
  ·subst e;rw[St.upd_eq]at u;cases u;exact(hm U).elim
  ·rw[Nu.set_ne _ _ e];exact R.frozen i G s' t (I _ _ _ _ _ e u)
 ·intro k f hf
  by_cases X:Kc k
  ·rw[a1 k X]at hf;cases hf
  ·rw[a2 k X]at hf
   refine R.floW W S E hf fun p b o hp c t=> ?_
   subst t;have:=r (.fl k p) o ⟨f,hf,hp⟩ (by simp only[baseOf,hf];exact c);cases this
 ·intro k b o Y c
  refine .inl ⟨fun h=>h,?_⟩;cases k with
  |nd i p=>
   obtain⟨G,K,s',t,n,M,J⟩:=Y;by_cases e:i=id
   ·subst e
    rw[St.upd_eq]at n;cases n;simp only[baseOf,Nu.set_eq]at c;cases p with
    |none=>simp only[FrS,if_true];exact⟨o,T,by simp only[baseOf];rw[<-a0];exact c⟩
    |some q=>
     obtain⟨x,y⟩:=q;obtain⟨s2,d,hq⟩:=J (x,y) U;rcases H x y s2 d hq with⟨q0,V,q2⟩|⟨q0,V,q2,f,q3,q4,q5,q6,q7⟩
     ·simp only[FrS,if_true,q0,if_false]
      exact⟨o,⟨g,m,s,es,h,hm,fun z hz=>by cases hz;exact⟨s2,d,V⟩⟩,by simp only[baseOf];rw[<-q2];exact c⟩
     ·simp only[FrS,if_true,q0]
      exact⟨o,⟨f,q3,fun _ hz=>by cases hz⟩,by simp only[baseOf,q3];rw[q4];exact c⟩
   ·simp only[baseOf,Nu.set_ne _ _ e]at c
    simp only[FrS,e,if_false];exact⟨o,⟨G,K,s',t,I _ _ _ _ _ e n,M,J⟩,c⟩
  |fl k p=>
   obtain⟨f,n,J⟩:=Y;by_cases X:Kc k
   ·rw[a1 k X]at n;cases n
   ·rw[a2 k X]at n
    simp only[baseOf,a2 k X]at c;exact⟨o,⟨f,n,J⟩,c⟩
 ·intro k1 k2 l1 l2 _ _ he
  --aa is new in af object comes from aa is consumed
  have Z:∀x y,live (st.upd (.h id) (.obj g m s l)) F' (.nd id (some (x,y)))->fr x y->Kc (σ x y):=by
   rintro x y ⟨G,K,s',t,n,M,J⟩ ac;rw[St.upd_eq]at n;cases n;obtain⟨s2,d,hq⟩:=J (x,y) U;rcases H x y s2 d hq with⟨q0,_⟩|⟨_,_,q2,_⟩
   ·exact(q0 ac).elim
   ·exact q2
  have a7:∀k p,live (st.upd (.h id) (.obj g m s l)) F' (.fl k p)->¬Kc k:=by
   rintro k p ⟨f,n,_⟩ X;rw[a1 k X]at n;cases n
  have L:∀x y,live (st.upd (.h id) (.obj g m s l)) F' (.nd id (some (x,y)))->∃s2 d,leafAt l x y=some (.own s2 d):=by
   rintro x y ⟨G,K,s',t,n,M,J⟩;rw[St.upd_eq]at n;cases n;exact J (x,y) U
  cases k1 with
  |nd i p=>cases k2 with
   |nd j q=>
    by_cases B:i=id<;>by_cases O:j=id
    ·subst B
     subst O;cases p with
     |none=>cases q with
      |none=>rfl
      |some q=>
       obtain⟨x,y⟩:=q;simp only[FrS,if_true]at he;split at he<;>cases he
     |some p=>
      obtain⟨x,y⟩:=p;cases q with
      |none=>
       simp only[FrS,if_true]at he;split at he<;>cases he
      |some q=>
       obtain⟨x',y'⟩:=q;simp only[FrS,if_true]at he;by_cases f1:fr x y<;>by_cases f2:fr x' y'<;>simp only[f1,f2,if_true,if_false]at he
       ·injection he with he _
        obtain⟨s1,B,n⟩:=L x y l1;obtain⟨s2,O,M⟩:=L x' y' l2;obtain⟨rfl,rfl⟩:=ae x y x' y' _ _ _ _ n M f1 f2 he
        rfl
       ·cases he
       ·cases he
       ·exact he
    ·subst B
     simp only[FrS,if_true,O,if_false]at he;cases p with
     |none=>cases he;exact(O U).elim
     |some p=>
      simp only at he;split at he
      ·cases he
      ·cases he;exact(O U).elim
    ·subst O
     simp only[FrS,if_true,B,if_false]at he;cases q with
     |none=>cases he;exact(B U).elim
     |some q=>
      simp only at he;split at he
      ·cases he
      ·cases he;exact(B U).elim
    ·simpa only[FrS,B,O,if_false]using he
   |fl k q=>
    by_cases B:i=id
    ·subst B
     simp only[FrS,if_true]at he;cases p with
     |none=>cases he
     |some p=>
      obtain⟨x,y⟩:=p;simp only at he;by_cases f1:fr x y
      ·simp only[f1,if_true]at he
       cases he;exact(a7 _ _ l2 (Z x y l1 f1)).elim
      ·simp only[f1,if_false]at he;cases he
    ·simp only[FrS,B,if_false]at he;cases he
  |fl k p=>cases k2 with
   |nd j q=>
    by_cases B:j=id
    ·subst B
     simp only[FrS,if_true]at he;cases q with
     |none=>cases he
     |some q=>
      obtain⟨x,y⟩:=q;simp only at he;by_cases f1:fr x y
      ·simp only[f1,if_true]at he
       cases he;exact(a7 _ _ l1 (Z x y l2 f1)).elim
      ·simp only[f1,if_false]at he;cases he
    ·simp only[FrS,B,if_false]at he;cases he
   |fl k' q=>exact he
 ·intro i G K s' t u a4
  by_cases e:i=id
  ·subst e;rw[St.upd_eq]at u;cases u;rw[Nu.set_eq,ad a4];exact R.io i g m s es h a4
  ·rw[Nu.set_ne _ _ e];exact R.io i G K s' t (I _ _ _ _ _ e u) a4
end
section
variable{Γ:Env}{w0:World}{A O0:Nat->Prop}{ν0:Nu}{N:Nat}{F:Fl}{D:Nat->Prop}{st:St}{ν:Nu}{tm:Array Value}{w:World}
structure LeafSet(bx:Prop)(s:Nat)(es es':List AV)(x y:Nat)(l:AV):Prop where
 other:∀i j,(i,j)≠(x,y)->leafAt es' i j=leafAt es i j
 at_:leafAt es' x y=some l
 len:es'.length=es.length
 sz:¬bx->(∀e∈es,(leaves e).length=s)->∀e∈es',(leaves e).length=s
theorem a0s{e l:AV}{y:Nat}(b:y<(leaves e).length)(a:∀gs,l≠.agg gs):leaves (putAt e y l)=(leaves e).set y l:=by
 cases e with
 |agg c=>cases l<;>first|rfl|(exact(a _ rfl).elim)
 |_=>
  simp only[leaves,Ze,Zo]at b;obtain rfl:y=0:=by omega
  cases l<;>first|rfl|(exact(a _ rfl).elim)
theorem Y9{bx:Prop}{s:Nat}{es:List AV}{x y:Nat}{e p l:AV}(he:es[x]? =some e)(f:leafAt es x y=some p)(c:∀gs,l≠.agg gs):
 LeafSet bx s es (es.set x (putAt e y l)) x y l:=by
 have m:x<es.length:=(Zq.1 he).1;have a:y<(leaves e).length:=by
  simp only[leafAt,he,Zl]at f;exact(Zq.1 f).1
 refine⟨fun i j d=> ?_,?_,by simp,fun q k n b=> ?_⟩
 ·unfold leafAt
  by_cases g:i=x
  ·subst g
   have o:j≠y:=fun e=>d (by rw[e])
   rw[List.getElem?_set_self m,he];simp only[Zl];rw[a0s a c,List.getElem?_set_ne (Ne.symm o)]
  ·rw[List.getElem?_set_ne (Ne.symm g)]
 ·unfold leafAt
  rw[List.getElem?_set_self m];simp only[Zl];rw[a0s a c,List.getElem?_set_self a]
 ·rcases List.mem_or_eq_of_mem_set b with h|h
  ·exact k n h
  ·subst h
   rw[a0s a c,List.length_set];exact k e (Zx he)
theorem Rel.storeSub(R:Rel Γ w0 A O0 ν0 N F D st ν tm w){w':World}{bt:Nat}(W:WStep Γ w w' bt){id g m s x y s2:Nat}{es t O u:List AV}
 (h:st (.h id)= .obj g m s es) (hm:m≠2) (hl:leafAt es x y=some (.own s2 O)) (V:∃o,ν id (some (x,y))=some (bt,o))
 (T:LeafSet (m=3\/m=4) s es t x y (.own s2 u)) (hlen:u.length=O.length)
 (ab:RN w' (RS st ν w D) (ν id) (ν id (some (x,y))) False s2 u) (a9:a2k u):
 Rel Γ w0 A O0 ν0 N F D (st.upd (.h id) (.obj g m s t)) ν tm w'/\Ext st ν w (st.upd (.h id) (.obj g m s t)) ν w':=by
 obtain⟨o0,V⟩:=V;have Z:live st F (.nd id (some (x,y))):=⟨g,m,s,es,h,hm,fun q hq=>by cases hq;exact⟨s2,O,hl⟩⟩;have Y:TB st ν F bt\/w.heap.size<=bt:= .inl ⟨.nd id (some (x,y)),o0,Z,V⟩;have a0:∀i j K d,leafAt t i j=some (.own K d)->∃r,leafAt es i j=some (.own K r)/\r.length=d.length/\((i,j)≠(x,y)->r=d):=by
  intro i j K d H;by_cases e:(i,j)=(x,y)
  ·cases e
   rw[T.at_]at H;cases H;exact⟨O,hl,hlen.symm,fun a2=>(a2 U).elim⟩
  ·rw[T.other i j e]at H
   exact⟨d,H,U,fun _=>U⟩
 have E:Ext st ν w (st.upd (.h id) (.obj g m s t)) ν w':=by
  refine R.extSame h (fun i B=>U) W.cs U fun i j=>⟨fun hn=> ?_,fun K d H=> ?_⟩
  ·by_cases e:(i,j)=(x,y)
   ·cases e;rw[T.at_]at hn;cases hn
   ·rw[T.other i j e]at hn;exact hn
  ·obtain⟨r,h4,_⟩:=a0 i j K d H
   exact .inr ⟨r,h4,U⟩
 have hD:=R.keepD W Y;have hL:∀a v,RS st ν w D a v->RS (st.upd (.h id) (.obj g m s t)) ν w' D a v:=fun a v h=>h.mono E hD W.le
 have J:∀i L X M G,i≠id->st.upd (.h id) (.obj g m s t) (.h i)= .obj L X M G->st (.h i)= .obj L X M G:=by
  intro i L X M G e B;rw[N4 _ _ _ e]at B;exact B
 have n:∀k o,live st F k->baseOf ν F k=some (bt,o)->k= .nd id (some (x,y)):=fun k o hl z=>
  R.inj k (.nd id (some (x,y))) bt o o0 hl Z z V
 have a1:∀k,live (st.upd (.h id) (.obj g m s t)) F k->live st F k:=by
  intro k hk;cases k with
  |nd i p=>
   obtain⟨L,X,M,G,h1,h2,H⟩:=hk;by_cases e:i=id
   ·subst e
    rw[St.upd_eq]at h1;cases h1;refine⟨g,m,s,es,h,hm,fun q hq=> ?_⟩;obtain⟨K,d,h4⟩:=H q hq;obtain⟨r,h5,_⟩:=a0 _ _ _ _ h4;exact⟨K,r,h5⟩
   ·exact⟨L,X,M,G,J _ _ _ _ _ e h1,h2,H⟩
  |fl k p=>exact hk
 refine⟨R.world W Y (fun i=>U9 _ _ _ _) E ?_ ?_ ?_ (fun k=>k) (fun _=>False) (fun k b o hk z=> .inl ⟨fun h=>h,o,a1 k hk,z⟩)
  (fun _ _ _ _ _ _ h=>h) (fun _ _ h=>h.elim) ?_,E⟩
 ·intro i L X M G B
  by_cases e:i=id
  ·subst e
   rw[St.upd_eq]at B;cases B;have a4:=R.objs i g m s es h;refine⟨?_,fun a b K d H=> ?_⟩
   ·have ht:=a4.top
    cases a3:ν i none with
    |none=>
     rw[a3]at ht;have:es=[]:=ht;subst this;simp[leafAt]at hl
    |some q=>
     obtain⟨b,o⟩:=q;rw[a3]at ht;obtain⟨c,aa,k1,k2,k3,k5,k4⟩:=ht;have a2:b≠bt:=by
      rintro rfl;have:=n (.nd i none) o ⟨g,m,s,es,h,hm,fun _ hq=>by cases hq⟩ a3;cases this
     have a5:b<w.heap.size:=by
      rcases Nat.lt_or_ge b w.heap.size with h'|h'
      ·exact h'
      ·rw[Array.getElem?_eq_none h']at k1;cases k1
     refine⟨c,aa,by rw[W.keep b a5 a2];exact k1,by rw[T.len];exact k2,fun V=>T.sz V (k3 V),fun V=>by rw[T.len];exact k5 V,fun a b' l S=> ?_⟩;by_cases e:(a,b')=(x,y)
     ·cases e
      rw[T.at_]at S;cases S;obtain⟨v,hv,hr⟩:=k4 _ _ _ hl;refine⟨v,hv,?_⟩;have ac:SlV w (ν i (some (x,y))) s2 0 O.length v:=hr;show SlV w' (ν i (some (x,y))) s2 0 u.length v;rw[hlen];exact ac.mono U fun b1 o1 I=>W.cs b1 (R.live_lt (k:= .nd i (some (x,y))) Z I)
     ·rw[T.other _ _ e]at S
      obtain⟨v,hv,hr⟩:=k4 _ _ _ S;exact⟨v,hv,hr.mono hL (fun _ _ _=>U) fun K d b1 o1 he I=>W.cs b1 (R.hlt h (fun q hq=>by cases hq;exact⟨K,d,he▸S⟩) I)⟩
   ·by_cases e:(a,b)=(x,y)
    ·cases e
     rw[T.at_]at H;cases H;refine⟨ab.mono U (fun _ _ _=>U) hL (fun i' j' s4 r h4=> ?_),a9⟩;have:=a9 i' j' _ h4;simp[immLeaf]at this
    ·rw[T.other _ _ e]at H
     obtain⟨q1,q2⟩:=a4.sub a b K d H;refine⟨q1.mono U (fun b1 o1 I=> ?_) hL (fun i' j' s4 r h4=> ?_),q2⟩
     ·refine W.keep b1 (q1.lt I) ?_
      rintro rfl;have:=n (.nd i (some (a,b))) o1 ⟨g,m,s,es,h,hm,fun q hq=>by cases hq;exact⟨K,d,H⟩⟩ I;injection this with _ this
      injection this with this
      exact e this
     ·have:=q2 i' j' _ h4;simp[immLeaf]at this
  ·refine R.objW W Y E (J _ _ _ _ _ e B) U fun p b o hp z G=> ?_
   subst G;by_cases a7:X=2
   ·subst a7
    have a6:=R.frozen i L M G (J _ _ _ _ _ e B);cases p with
    |none=>exact R.dT b (a6.1 b o z) ⟨.nd id (some (x,y)),o0,Z,V⟩
    |some q=>
     obtain⟨K,d,hq⟩:=hp q U;have:=M2 a6.2 hq;simp[immLeaf]at this
   ·have:=n (.nd i p) o ⟨L,X,M,G,J _ _ _ _ _ e B,a7,hp⟩ z
    cases this;exact e U
 ·intro i L M G B
  by_cases e:i=id
  ·subst e;rw[St.upd_eq]at B;cases B;exact(hm U).elim
  ·exact R.frozen i L M G (J _ _ _ _ _ e B)
 ·intro k f hf
  refine R.floW W Y E hf fun p b o hp z G=> ?_
  subst G;have:=n (.fl k p) o ⟨f,hf,hp⟩ (by simp only[baseOf,hf];exact z);cases this
 ·intro i L X M G B a8
  by_cases e:i=id
  ·subst e;rw[St.upd_eq]at B;cases B;exact R.io i g m s es h a8
  ·exact R.io i L X M G (J _ _ _ _ _ e B) a8
theorem Rel.outSub(R:Rel Γ w0 A O0 ν0 N F D st ν tm w){id g m s x y s2:Nat}{es n t:List AV}{l':AV}
 (h:st (.h id)= .obj g m s es) (hm:m≠2) (hl:leafAt es x y=some (.own s2 t))
 (X:LeafSet (m=3\/m=4) s es n x y l') {D':Nat->Prop} {F':Fl} (κ:FK) (a8:F κ=none)
 (Z:(l'= .undef/\D'=D/\F'=F.set κ (some ⟨fun _=>ν id (some (x,y)),s2,t⟩))\/
  (l'= .list t/\D'=(fun b=>D b\/∃o,ν id (some (x,y))=some (b,o))/\F'=F)) (ac:∀b,O0 b->A b):
 Rel Γ w0 A O0 ν0 N F' D' (st.upd (.h id) (.obj g m s n)) ν tm w/\Ext st ν w (st.upd (.h id) (.obj g m s n)) ν w:=by
 have V:live st F (.nd id (some (x,y))):=⟨g,m,s,es,h,hm,fun q hq=>by cases hq;exact⟨s2,t,hl⟩⟩;have a7:∀I d,l'≠.own I d:=by
  rintro I d rfl;rcases Z with⟨h,_⟩|⟨h,_⟩<;>cases h
 have ad:l'≠.nil:=by
  rintro rfl;rcases Z with⟨h,_⟩|⟨h,_⟩<;>cases h
 have H:∀i j I d,leafAt n i j=some (.own I d)->(i,j)≠(x,y)/\leafAt es i j=some (.own I d):=by
  intro i j I d z;by_cases e:(i,j)=(x,y)
  ·cases e;rw[X.at_]at z;cases z;exact(a7 _ _ U).elim
  ·rw[X.other i j e]at z;exact⟨e,z⟩
 have E:Ext st ν w (st.upd (.h id) (.obj g m s n)) ν w:=by
  refine R.extSame h (fun i B=>U) (fun _ _=>U) U fun i j=>⟨fun hn=> ?_,fun I d z=> .inr ⟨d,(H i j I d z).2,U⟩⟩
  by_cases e:(i,j)=(x,y)
  ·cases e;rw[X.at_]at hn;cases hn;exact(ad U).elim
  ·rw[X.other i j e]at hn;exact hn
 have hD:∀b,D b->D' b:=by
  rcases Z with⟨_,rfl,_⟩|⟨_,rfl,_⟩
  ·exact fun b r=>r
  ·exact fun b r=> .inl r
 have hL:∀a v,RS st ν w D a v->RS (st.upd (.h id) (.obj g m s n)) ν w D' a v:=fun a v h=>h.same E hD
 have W:∀i u Y M O,i≠id->st.upd (.h id) (.obj g m s n) (.h i)= .obj u Y M O->st (.h i)= .obj u Y M O:=by
  intro i u Y M O e B;rw[N4 _ _ _ e]at B;exact B
 have G:∀i p,live (st.upd (.h id) (.obj g m s n)) F (.nd i p)->live st F (.nd i p)/\Key.nd i p≠.nd id (some (x,y)):=by
  rintro i p ⟨u,Y,M,O,J,h2,z⟩;by_cases e:i=id
  ·subst e
   rw[St.upd_eq]at J;cases J;refine⟨⟨g,m,s,es,h,hm,fun q hq=> ?_⟩,fun he=> ?_⟩
   ·obtain⟨I,d,L⟩:=z q hq
    exact⟨I,d,(H _ _ _ _ L).2⟩
   ·injection he with _ he
    obtain⟨I,d,L⟩:=z (x,y) he;exact(H _ _ _ _ L).1 U
  ·exact⟨⟨u,Y,M,O,W _ _ _ _ _ e J,h2,z⟩,fun he=>by injection he with he _;exact e he⟩
 have a0:=R.objs id g m s es h;obtain⟨q1,q2⟩:=a0.sub x y s2 t hl;refine⟨R.ghost (fun i=>U9 _ _ _ _) E hD ?_ ?_ ?_ (fun k=>match k with
  | .nd i p=> .nd i p
  | .fl k p=>if k=κ then .nd id (some (x,y))else .fl k p) ?_ ?_ ?_ ?_,E⟩
 ·intro i u Y M O B
  by_cases e:i=id
  ·subst e
   rw[St.upd_eq]at B;cases B;refine⟨?_,fun a b I d z=> ?_⟩
   ·have ht:=a0.top
    cases a9:ν i none with
    |none=>
     rw[a9]at ht;have:es=[]:=ht;subst this;simp[leafAt]at hl
    |some q=>
     obtain⟨b,o⟩:=q;rw[a9]at ht;obtain⟨c,ab,k1,k2,k3,k5,k4⟩:=ht;refine⟨c,ab,k1,by rw[X.len];exact k2,fun r=>X.sz r (k3 r),fun r=>by rw[X.len];exact k5 r,fun a b' l T=> ?_⟩;by_cases e:(a,b')=(x,y)
     ·cases e
      rw[X.at_]at T;cases T;obtain⟨v,hv,hr⟩:=k4 _ _ _ hl;refine⟨v,hv,?_⟩;rcases Z with⟨rfl,rfl,_⟩|⟨rfl,rfl,_⟩
      ·exact .undef v
      ·have ae:SlV w (ν i (some (x,y))) s2 0 t.length v:=hr
       have:=W1 (D:=fun b=>D b\/∃o,ν i (some (x,y))=some (b,o)) (st:=st) (ν:=ν) (φ:=ν i) (q1.mono U (fun _ _ _=>U) (fun a v h=>h.same (Ext.refl _ _ _) hD) (fun i j M n hx=>by
        have:=q2 i j _ hx;simp[immLeaf]at this)) q2 (fun b o r=> .inr ⟨o,r⟩) ae (by omega)
       simp only[ZY,Yo]at this;exact .data _ _ this
     ·rw[X.other _ _ e]at T
      obtain⟨v,hv,hr⟩:=k4 _ _ _ T;exact⟨v,hv,hr.mono hL (fun _ _ _=>U) fun _ _ _ _ _ _=>U⟩
   ·obtain⟨_,L⟩:=H _ _ _ _ z
    obtain⟨q1,q2⟩:=a0.sub a b I d L;refine⟨q1.mono U (fun _ _ _=>U) hL (fun i' j' s4 a4 L=> ?_),q2⟩;have:=q2 i' j' _ L;simp[immLeaf]at this
  ·exact(R.objs i u Y M O (W _ _ _ _ _ e B)).mono U (fun _ _ _ _ _=>U) (fun _ _ _=>U) (fun _ _ _ _ _ _ _ _=>U) hL
 ·intro i u M O B
  by_cases e:i=id
  ·subst e;rw[St.upd_eq]at B;cases B;exact(hm U).elim
  ·obtain⟨J,h2⟩:=R.frozen i u M O (W _ _ _ _ _ e B)
   exact⟨fun b o r=>hD b (J b o r),h2⟩
 ·intro k f hf
  have aa:∀f,F k=some f->RO w (RS (st.upd (.h id) (.obj g m s n)) ν w D') f.φ False f.s f.es:=fun f hf=>
   (R.flos k f hf).mono U (fun _ _ _ _ _=>U) (fun _ _ _=>U) (fun _ _ _ _ _ _ _ _=>U) hL
  rcases Z with⟨_,_,rfl⟩|⟨_,_,rfl⟩
  ·by_cases e:k=κ
   ·subst e
    rw[Fl.set_eq]at hf;cases hf;refine⟨q1.mono U (fun _ _ _=>U) hL (fun i' j' s4 a4 L=> ?_),fun i' j' s4 a4 L=> ?_⟩<;>
     (have:=q2 i' j' _ L;simp[immLeaf]at this)
   ·rw[Fl.set_ne _ _ e]at hf
    exact aa f hf
  ·exact aa f hf
 ·intro k b o S K
  cases k with
  |nd i p=>exact⟨o,(G i p (by cases S with|intro u S=>exact⟨u,S⟩)).1,K⟩
  |fl k p=>
   obtain⟨f,J,z⟩:=S;rcases Z with⟨_,_,rfl⟩|⟨_,_,rfl⟩
   ·by_cases e:k=κ
    ·subst e
     rw[Fl.set_eq]at J;cases J;simp only[baseOf,Fl.set_eq]at K;simp only[if_true];exact⟨o,V,K⟩
    ·rw[Fl.set_ne _ _ e]at J
     simp only[baseOf,Fl.set_ne _ _ e]at K;simp only[e,if_false];exact⟨o,⟨f,J,z⟩,K⟩
   ·have e:k≠κ:=by rintro rfl;rw[a8]at J;cases J
    simp only[e,if_false];exact⟨o,⟨f,J,z⟩,K⟩
 ·intro k1 k2 l1 l2 he
  have nl:∀i p,live (st.upd (.h id) (.obj g m s n)) F' (.nd i p)->Key.nd i p≠.nd id (some (x,y)):=fun i p S=>
   (G i p (by cases S with|intro u S=>exact⟨u,S⟩)).2
  cases k1 with
  |nd i p=>cases k2 with
   |nd j q=>exact he
   |fl k q=>
    simp only at he;by_cases e:k=κ
    ·simp only[e,if_true]at he;exact(nl i p l1 he).elim
    ·simp only[e,if_false]at he;cases he
  |fl k p=>cases k2 with
   |nd j q=>
    simp only at he;by_cases e:k=κ
    ·simp only[e,if_true]at he;exact(nl j q l2 he.symm).elim
    ·simp only[e,if_false]at he;cases he
   |fl k' q=>
    simp only at he;by_cases e1:k=κ<;>by_cases e2:k'=κ
    ·subst e1;subst e2
     obtain⟨f1,a1,b1⟩:=l1;obtain⟨f2,a2,b2⟩:=l2;rcases Z with⟨_,_,rfl⟩|⟨_,_,rfl⟩
     ·rw[Fl.set_eq]at a1 a2
      cases a1;cases a2;have hp:∀p,livePath t p->p=none:=by
       intro p hp;cases p with
       |none=>rfl
       |some q=>
        obtain⟨I,d,L⟩:=hp q U;have:=q2 _ _ _ L;simp[immLeaf]at this
      rw[hp p b1,hp q b2]
     ·rw[a8]at a1;cases a1
    ·simp only[e1,e2,if_true,if_false]at he;cases he
    ·simp only[e1,e2,if_true,if_false]at he;cases he
    ·simpa only[e1,e2,if_false]using he
 ·rcases Z with⟨_,rfl,_⟩|⟨_,rfl,rfl⟩
  ·exact fun b r hd=>(hd r).elim
  ·rintro b (r|⟨o,r⟩) hd
   ·exact(hd r).elim
   ·have a3:TB st ν F' b:=⟨_,o,V,r⟩
    refine⟨?_,?_,R.TB_lt a3,fun _=>R.TB_cells a3⟩
    ·rintro⟨k,o',S,a5⟩
     cases k with
     |nd i p=>
      obtain⟨l1,l2⟩:=G i p S;exact l2 (R.inj _ _ b o' o l1 V a5 r)
     |fl k p=>
      have:=R.inj (.fl k p) _ b o' o S V a5 r;cases this
    ·rcases R.tO b a3 with h|h
     ·exact .inl (ac b h)
     ·exact .inr h
 ·intro i u Y M O B a6
  by_cases e:i=id
  ·subst e;rw[St.upd_eq]at B;cases B;exact R.io i g m s es h a6
  ·exact R.io i u Y M O (W _ _ _ _ _ e B) a6
end
theorem P4{P:Program}{T:Nat}(h:Q3 (tyS P T).k=false):
 ∃i d,P.info? T=some i/\P.underlying T=some d/\(tyS P T).size=i.size/\(tyS P T).bytes=i.bytes/\
  (∀v,i.zero=some v->(tyS P T).zero=ofConst v)/\(i.zero=none->(tyS P T).zero= .undef):=by
 unfold tyS at h|-;cases b:P.info? T with
 |none=>simp[b,Q3]at h
 |some i=>
  simp only[b]at h|-;cases hu:P.underlying T with
  |none=>simp[hu,Q3]at h
  |some d=>exact⟨i,d,U,U,U,U,fun v a=>by simp[a],fun a=>by simp[a]⟩
theorem a7w{P:Program}{T:Nat}(h:(tyS P T).size≠0):∃i,P.info? T=some i/\(tyS P T).size=i.size:=by
 unfold tyS at h|-;cases a:P.info? T with
 |none=>simp[a]at h
 |some i=>exact⟨i,U,U⟩
theorem O4{P:Program}{T E:Nat}(h:(tyS P T).k= .slice E):P.underlying T=some (.slice E):=by
 unfold tyS at h;cases a:P.info? T with
 |none=>simp[a]at h
 |some i=>
  simp only[a]at h;split at h<;>first|(cases h;assumption)|cases h
theorem a9u{P:Program}{T n E:Nat}(h:(tyS P T).k= .array n E):P.underlying T=some (.array n E):=by
 unfold tyS at h;cases a:P.info? T with
 |none=>simp[a]at h
 |some i=>
  simp only[a]at h;split at h<;>first|(cases h;assumption)|cases h
theorem W7{P:Program}{T:Nat}(h:(tyS P T).k= .string):P.underlying T=some .string:=by
 unfold tyS at h;cases a:P.info? T with
 |none=>simp[a]at h
 |some i=>
  simp only[a]at h;split at h<;>first|assumption|cases h
theorem d1y{P:Program}{T:Nat}(h:(tyS P T).k= .bool):P.underlying T=some .bool:=by
 unfold tyS at h;cases a:P.info? T with
 |none=>simp[a]at h
 |some i=>
  simp only[a]at h;split at h<;>first|assumption|cases h
theorem b8j{P:Program}{T:Nat}{k:IntKind}(h:(tyS P T).k= .int k):P.underlying T=some (.int k):=by
 unfold tyS at h;cases a:P.info? T with
 |none=>simp[a]at h
 |some i=>
  simp only[a]at h;split at h<;>first|(cases h;assumption)|cases h
theorem a5z{P:Program}{T:Nat}{fs:List (Nat×Nat)}(h:(tyS P T).k= .struct fs):
 ∃fl:Array Field,P.underlying T=some (.struct fl)/\fs=fl.toList.map fun f=>(f.offset,f.type):=by
 unfold tyS at h;cases a:P.info? T with
 |none=>simp[a]at h
 |some i=>
  simp only[a]at h;split at h<;>first|(cases h;exact⟨_,by assumption,rfl⟩)|cases h
theorem c3g{P:Program}{T:Nat}{fl:Array Field}(h:P.underlying T=some (.struct fl))(a:Q3 (tyS P T).k=false):
 (tyS P T).k= .struct (fl.toList.map fun f=>(f.offset,f.type)):=by
 obtain⟨i,d,b,_⟩:=P4 a;unfold tyS;simp only[b,h]
theorem f3p{P:Program}{T:Nat}{d:TypeDesc}(h:P.underlying T=some d)(a:(tyS P T).size≠0\/Q3 (tyS P T).k=false):
 a4n (tyS P T).k=(match d with| .struct _| .array _ _=>true|_=>false):=by
 have:∃i,P.info? T=some i:=by
  rcases a with a|a
  ·obtain⟨i,a,_⟩:=a7w a;exact⟨i,a⟩
  ·obtain⟨i,_,a,_⟩:=P4 a;exact⟨i,a⟩
 obtain⟨i,a⟩:=this;unfold tyS;simp only[a,h];cases d<;>rfl
theorem I8{P:Program}{T:Nat}{d:TypeDesc}(h:P.underlying T=some d)(w:World):(underlying T).run P w= .ok d w:=by
 simp[underlying,h]
theorem b8e{P:Program}{T:Nat}{i:TypeInfo}(h:P.info? T=some i)(w:World):(typeInfo T).run P w= .ok i w:=by
 simp[typeInfo,h]
theorem L7{P:Program}{T:Nat}{i:TypeInfo}(h:P.info? T=some i)(w:World):(sizeOf T).run P w= .ok i.size w:=by
 simp[Go.sizeOf,b8e h]
theorem a5o{P:Program}{T:Nat}{i:TypeInfo}{v:Value}(h:P.info? T=some i)(a:i.zero=some v)(w:World):(zeroValue T).run P w= .ok v w:=by
 simp[zeroValue,b8e h,a]
theorem a5e{P:Program}{T:Nat}(h:Q3 (tyS P T).k=false)(w:World):(isAgg T).run P w= .ok (a4n (tyS P T).k) w:=by
 obtain⟨i,d,b,a,_⟩:=P4 h;rw[f3p a (.inr h)];simp only[isAgg,ZD,I8 a,Zu];cases d<;>rfl
theorem a2j(b o k:Nat):(⟨b,o,none⟩:Addr).add k=⟨b,o+k,none⟩:=by
 unfold Addr.add;split
 ·rename_i h;subst h;rfl
 ·rfl
def a2l(w:World)(b:Nat)(c:Array Value)(ety:TypeId):World:={w with heap:=w.heap.setIfInBounds b (.cells c ety (0,0))}
theorem a3x{w:World}{b:Nat}{c:Array Value}{ety:TypeId}(h:b<w.heap.size):(a2l w b c ety).heap[b]? =some (.cells c ety (0,0)):=by
 simp[a2l,h]
theorem b7p{w:World}{b k:Nat}{c:Array Value}{ety:TypeId}(h:k≠b):(a2l w b c ety).heap[k]? =w.heap[k]? :=by
 simp[a2l,Yr (Ne.symm h)]
theorem e5p(w:World)(b:Nat)(c:Array Value)(ety:TypeId):(a2l w b c ety).heap.size=w.heap.size:=by simp[a2l]
theorem a6q{Γ:Env}{w:World}{b:Nat}{c d:Array Value}{ety a:TypeId}(h:w.heap[b]? =some (.cells c ety (0,0)))(g:d.size=c.size):WStep Γ w (a2l w b d a) b:=by
 have hlt:b<w.heap.size:=(ZC.1 h).1;refine⟨by rw[e5p];exact Zd _,U,U,U,fun _=>Zd _,fun k _ f=>b7p f,fun k f=> ?_⟩;by_cases e:k=b
 ·subst e;simp[csize,a3x hlt,h,g]
 ·exact O9 (b7p e)
theorem d2u{Γ:Env}(w:World)(o:Obj):WStep Γ w (w.alloc o) w.heap.size:=
 ⟨by simp,U,U,U,fun _=>Zd _,fun b a _=>heap_alloc_old w o a,fun b a=>O9 (heap_alloc_old w o a)⟩
theorem WStep.refl{Γ:Env}(w:World)(b:Nat):WStep Γ w w b:=⟨Zd _,rfl,rfl,rfl,fun _=>Zd _,fun _ _ _=>rfl,fun _ _=>rfl⟩
theorem WStep.drew{Γ:Env}{w w':World}{b:Nat}(h:WStep Γ w w' b)(n:Nat)(a:w'.drawn<=n):WStep Γ w {w' with drawn:=n} b:=⟨h.le,h.os,h.tape,h.output,fun m=>Yg (h.dr m) a,h.keep,h.cs⟩
def Y4(c:Array Value)(k:Nat):List Value->Array Value
 |[]=>c
 |v::r=>Y4 (c.setIfInBounds k v) (k+1) r
theorem X3(c:Array Value)(k:Nat)(vs:List Value):(Y4 c k vs).size=c.size:=by
 induction vs generalizing c k with
 |nil=>rfl
 |cons v r a=>rw[Y4,a];simp
theorem a5p(c:Array Value)(k:Nat)(vs:List Value)(j:Nat)(hle:k+vs.length<=c.size):
 (Y4 c k vs)[j]? =if k<=j/\j<k+vs.length then vs[j-k]? else c[j]? :=by
 induction vs generalizing c k with
 |nil=>simp only[Y4,Zo];rw[if_neg (by omega)]
 |cons v r d=>
  simp only[Ze]at hle|-;rw[Y4,d _ _ (by simp;omega)];by_cases a:k+1<=j/\j<k+1+r.length
  ·rw[if_pos a,if_pos (by omega),show j-k=(j-(k+1))+1 from by omega,ZR]
  ·rw[if_neg a]
   by_cases b:j=k
   ·subst b
    rw[if_pos (by omega),Array.getElem?_setIfInBounds_self_of_lt (by omega)];simp
   ·rw[if_neg (by omega),Yr (by omega)]
theorem a0n(P:Program){b o:Nat}{ety:TypeId}:∀(vs:List Value) (i:Nat) (c:Array Value) (w:World),w.heap[b]? =some (.cells c ety (0,0))->
 (∀v∈vs,v.oneCell'=true)->o+i+vs.length<=c.size->
 (storeCells ⟨b,o,none⟩ vs i).run P w= .ok () (if vs=[]then w else a2l w b (Y4 c (o+i) vs) ety):=by
 intro vs
 induction vs with
 |nil=>intro i c w h d hle;simp[storeCells]
 |cons v r l=>
  intro i c w h d hle;simp only[Ze]at hle;have hlt:b<w.heap.size:=(ZC.1 h).1;have f:w.cell? ⟨b,o+i,none⟩=some (c[o+i]'(by omega)):=by
   simp[World.cell?,h,Array.getElem?_eq_getElem (show o+i<c.size by omega)]
  have g:w.frozen? ⟨b,o+i,none⟩=false:=by simp[World.frozen?,h]
  have a:w.setCell ⟨b,o+i,none⟩ v=a2l w b (c.setIfInBounds (o+i) v) ety:=by
   simp only[World.setCell,a2l];congr 1;apply Array.ext_getElem?;intro k;rw[Array.getElem?_modify];by_cases e:b=k
   ·subst e
    have j:w.heap[b]= .cells c ety (0,0):=by
     have:=h;rw[Array.getElem?_eq_getElem hlt]at this;exact Option.some.inj this
    simp[hlt,j]
   ·rw[if_neg e,Yr e]
  simp only[storeCells,ZD,a2j];rw[run_store _ _ _ _ _ (d v (Zr ..)),f];simp only[g,ZZ,if_false,Zu,a];rw[l (i+1) _ _ (a3x hlt) (fun u hu=>d u (Zn _ hu)) (by simp;omega)];simp only[reduceCtorEq,if_false,Y4];split
  ·rename_i e;subst e;simp[Y4]
  ·congr 1
   simp only[a2l];congr 1;rw[Array.setIfInBounds_setIfInBounds]
   rfl
theorem b3g{P:Program}(w:World)(b o n:Nat)(f:Nat->Value)(h:∀j,j<n->w.cell? ⟨b,o+j,none⟩=some (f j)):
 (loadCells ⟨b,o,none⟩ n).run P w= .ok ((Yb n).map f).toArray w:=
 run_loadCells w _ n f fun j a=>by rw[a2j];exact h j a
section
variable{P:Program}{C:Caller}{Γ:Env}{w0:World}{A O0:Nat->Prop}{ν0:Nu}{N:Nat}{F:Fl}{D:Nat->Prop}{st:St}{ν:Nu}{tm:Array Value}{w:World}
theorem RS.val_inv{u v:Value}(h:RS st ν w D (.val u) v):v=u:=by
 cases h with
 |data _ _ h=>cases h;rfl
theorem RS.nil_inv{v:Value}(h:RS st ν w D .nil v):∃a,v= .slice a 0 0:=by
 cases h with
 |data _ _ h=>cases h;exact⟨_,U⟩
theorem RS.ifc_inv{v:Value}(h:RS st ν w D .ifc v):∃t x,v= .iface t x:=by
 cases h with
 |data _ _ h=>cases h;exact⟨_,_,U⟩
theorem RS.list_inv{es:List AV}{v:Value}(h:RS st ν w D (.list es) v):RV w D (.list es) v:=by
 cases h with
 |data _ _ h=>exact h
theorem RS.ipt_inv{e:AV}{j:Nat}{v:Value}(h:RS st ν w D (.ipt e j) v):RV w D (.ipt e j) v:=by
 cases h with
 |data _ _ h=>exact h
theorem RS.agg_inv{fs:List AV}{v:Value}(h:RS st ν w D (.agg fs) v):
 ∃cs:Array Value,v= .agg cs/\cs.size=fs.length/\∀(i:Nat) (l:AV),fs[i]? =some l->RS st ν w D l (cs.getD i Yj):=by
 cases h with
 |data _ _ h=>cases h with
  |agg _ cs b a=>exact⟨cs,U,b,fun i l h=> .data _ _ (a i l h)⟩
 |agg _ cs b a=>exact⟨cs,U,b,a⟩
theorem RS.tup_inv{fs:List AV}{v:Value}(h:RS st ν w D (.tup fs) v):
 ∃cs:Array Value,v= .tuple cs/\cs.size=fs.length/\∀(i:Nat) (l:AV),fs[i]? =some l->RS st ν w D l (cs.getD i Yj):=by
 cases h with
 |data _ _ h=>cases h with
  |tup _ cs b a=>exact⟨cs,U,b,fun i l h=> .data _ _ (a i l h)⟩
 |tup _ cs b a=>exact⟨cs,U,b,a⟩
theorem RS.clo_inv{f:Nat}{caps:List AV}{v:Value}(h:RS st ν w D (.clo f caps) v):
 ∃cs:Array Value,v= .func (.func f) #[] cs/\cs.size=caps.length/\∀(i:Nat) (l:AV),caps[i]? =some l->RS st ν w D l (cs.getD i Yj):=by
 cases h with
 |data _ _ h=>cases h with
  |clo _ _ cs b a=>exact⟨cs,U,b,fun i l h=> .data _ _ (a i l h)⟩
 |clo _ _ cs b a=>exact⟨cs,U,b,a⟩
theorem RS.sl_inv{id g:Nat}{p:Path}{off n:Nat}{v:Value}(h:RS st ν w D (.sl id g p off n) v):
 (∃a cap,v= .slice a n cap/\n<=cap)/\g<=I6 (st (.h id))/\d7c st id g p/\∀m s es,nodeAt st id g p=some (m,s,es)->SlV w (ν id p) s off n v:=by
 cases h with
 |data _ _ h=>cases h
 |sl _ _ _ _ _ _ d c b h=>exact⟨d,c,b,h⟩
theorem RS.ptr_inv{id g:Nat}{p:Path}{i j:Nat}{v:Value}(h:RS st ν w D (.ptr id g p i j) v):
 (∃b q,v= .pointer (some ⟨b,q,none⟩))/\g<=I6 (st (.h id))/\d7c st id g p/\∀m s es,nodeAt st id g p=some (m,s,es)->∃b o,ν id p=some (b,o)/\v= .pointer (some ⟨b,o+i*s+j,none⟩):=by
 cases h with
 |data _ _ h=>cases h
 |ptr _ _ _ _ _ _ d c a h=>exact⟨d,c,a,h⟩
theorem RS.asl_inv{id g i j n:Nat}{v:Value}(h:RS st ν w D (.asl id g i j n) v):
 (∃b q,v= .slice (some ⟨b,q,none⟩) n n)/\g<=I6 (st (.h id))/\∀m s es,nodeAt st id g none=some (m,s,es)->∃b o,ν id none=some (b,o)/\v= .slice (some ⟨b,o+i*s+j,none⟩) n n:=by
 cases h with
 |data _ _ h=>cases h
 |asl _ _ _ _ _ _ c a h=>exact⟨c,a,h⟩
theorem J4{id g:Nat}{p:Path}{m s:Nat}{es:List AV}:(rdNode id g p).ev C st=some (m,s,es)↔nodeAt st id g p=some (m,s,es):=by
 unfold rdNode nodeAt;rw[Rd.ev_read];cases st (.h id)<;>simp
 rename_i c d e a;by_cases b:c=g
 ·simp only[b,if_true,true_and]
  cases p with
  |none=>simp
  |some q=>
   obtain⟨i,j⟩:=q;simp only;cases leafAt a i j with
   |none=>simp
   |some l=>cases l<;>simp
 ·simp[b]
theorem RV.ofConst(v:Value):RV w D (ofConst v) v:=by
 unfold Mv.ofConst;split
 ·exact .nil _
 ·rename_i cs
  refine .agg _ cs (by simp) fun i l a=> ?_
  rw[ZE]at a;cases b:cs.toList[i]? with
  |none=>simp[b]at a
  |some c=>
   have d:cs.getD i undef=c:=by
    have:cs[i]? =some c:=by simpa using b
    simp[ZN,this]
   rw[d];simp only[b,ZA,Zb]at a;subst a;split
   ·exact .nil _
   ·exact .val _
 ·rename_i f first captured
  split
  ·rename_i h
   obtain⟨e,g⟩:=h;obtain rfl:first= #[]:=Array.eq_empty_of_size_eq_zero e
   exact .clo f [] captured g (fun i l a=>by simp at a)
  ·exact .val _
 ·exact .val _
theorem G5{x:Operand}{a:AV}(h:(rdO x).ev C st=some a)(R:Rel Γ w0 A O0 ν0 N F D st ν tm w){ds:List Deferred}:
 RS st ν w D a ((Yu tm ds).eval x):=by
 cases x with
 |tmp t=>
  simp only[rdO,Y3,Zb]at h;subst h;rcases Nat.lt_or_ge t N with h|h
  ·exact R.slots t h
  ·rw[R.high t h];exact .undef _
 |const v=>
  simp only[rdO,Rd.ev_ret,Zb]at h;subst h;exact .data _ _ (RV.ofConst v)
 |func f=>
  simp only[rdO,Rd.ev_ret,Zb]at h;subst h;exact .data _ _ (.clo f [] #[] U (fun i l b=>by simp at b))
 |global g=>
  simp only[rdO,Rd.ev_ret,Zb]at h;subst h;exact .data _ _ (.val _)
theorem N9{id g:Nat}{p:Path}{m s:Nat}{es:List AV}(h:nodeAt st id g p=some (m,s,es)):
 ∃e a,st (.h id)= .obj g m e a/\(p=none/\e=s/\a=es\/∃i j,p=some (i,j)/\leafAt a i j=some (.own s es)):=by
 unfold nodeAt at h;split at h
 ·rename_i n o d b c
  split at h
  ·rename_i k
   subst k;cases p with
   |none=>
    simp only[Zb,Zk]at h;obtain⟨rfl,rfl,rfl⟩:=h;exact⟨d,b,c,.inl ⟨U,U,U⟩⟩
   |some q=>
    obtain⟨i,j⟩:=q;simp only at h;split at h
    ·rename_i s2 f l
     simp only[Zb,Zk]at h;obtain⟨rfl,rfl,rfl⟩:=h;exact⟨d,b,c,.inr ⟨i,j,U,l⟩⟩
    ·simp at h
  ·simp at h
 ·simp at h
def d9v(m:Nat)(p:Path):Prop:=p=none/\(m=3\/m=4)
theorem Rel.node(R:Rel Γ w0 A O0 ν0 N F D st ν tm w){id g:Nat}{p:Path}{m s:Nat}{es:List AV}(h:nodeAt st id g p=some (m,s,es)):
 RN w (RS st ν w D) (ν id) (ν id p) (d9v m p) s es/\(p≠none->a2k es):=by
 obtain⟨k,a,d,b⟩:=N9 h;have c:=R.objs id g m k a d;rcases b with⟨rfl,rfl,rfl⟩|⟨i,j,rfl,b⟩
 ·simp only[d9v,true_and]
  exact⟨c.top,fun h=>(h U).elim⟩
 ·obtain⟨e,f⟩:=c.sub i j s es b
  simp only[d9v,reduceCtorEq,false_and];exact⟨e,fun _=>f⟩
def RL(st:St)(ν:Nu)(w:World)(D:Nat->Prop)(fs:List AV)(cs:List Value):Prop:=
 cs.length=fs.length/\∀(i:Nat) (l:AV),fs[i]? =some l->∃v:Value,cs[i]? =some v/\RS st ν w D l v
theorem RL.agg{fs:List AV}{cs:Array Value}(h:RL st ν w D fs cs.toList):RS st ν w D (.agg fs) (.agg cs):=by
 refine .agg fs cs (by simpa using h.1) fun i l c=> ?_
 obtain⟨v,a,b⟩:=h.2 i l c;have:cs[i]? =some v:=by simpa using a
 rw[ZN,this];exact b
theorem RS.agg_list{fs:List AV}{v:Value}(h:RS st ν w D (.agg fs) v):∃cs:Array Value,v= .agg cs/\RL st ν w D fs cs.toList:=by
 obtain⟨cs,rfl,b,c⟩:=h.agg_inv;refine⟨cs,U,by simpa using b,fun i l a=> ?_⟩;have d:i<fs.length:=(Zq.1 a).1;have:=c i l a;refine⟨cs[i]'(by omega),by simp[show i<cs.size by omega],?_⟩;simpa[Array.getD,show i<cs.size by omega]using this
theorem RL.drop{fs:List AV}{cs:List Value}(h:RL st ν w D fs cs)(n:Nat):RL st ν w D (fs.drop n) (cs.drop n):=by
 refine⟨by simp[h.1],fun i l a=> ?_⟩;rw[Yd]at a|-;exact h.2 _ _ a
theorem RL.take{fs:List AV}{cs:List Value}(h:RL st ν w D fs cs)(n:Nat):RL st ν w D (fs.take n) (cs.take n):=by
 refine⟨by simp[h.1],fun i l a=> ?_⟩;rw[YA]at a|-;split at a
 ·rename_i b
  rw[if_pos b];exact h.2 _ _ a
 ·cases a
theorem RL.append{fs gs:List AV}{cs ds:List Value}(h:RL st ν w D fs cs)(c:RL st ν w D gs ds):RL st ν w D (fs++gs) (cs++ds):=by
 refine⟨by simp[h.1,c.1],fun i l a=> ?_⟩;rw[List.getElem?_append]at a|-;rw[h.1];split at a
 ·rename_i b;rw[if_pos b];exact h.2 _ _ a
 ·rename_i b;rw[if_neg b];exact c.2 _ _ a
theorem RL.nil:RL st ν w D [] []:=⟨rfl,fun i l h=>by simp at h⟩
theorem RL.cons{f:AV}{fs:List AV}{c:Value}{cs:List Value}(h:RS st ν w D f c)(b:RL st ν w D fs cs):RL st ν w D (f::fs) (c::cs):=by
 refine⟨by simp[b.1],fun i l a=> ?_⟩;cases i with
 |zero=>simp at a;subst a;exact⟨c,by simp,h⟩
 |succ i=>simp only[ZR]at a|-;exact b.2 i l a
theorem RL.one{f:AV}{c:Value}(h:RS st ν w D f c):RL st ν w D [f] [c]:=RL.cons h RL.nil
theorem c5q(o:Oper)(a:AV)(ws:Ws)(st:St):st.upds (ws++setD o a)=match o.dst with
 |some d=>(st.upds ws).upd (.t d) a
 |none=>st.upds ws:=by
 rw[St.upds_append];unfold setD;cases o.dst<;>rfl
theorem d9c{o:Oper}{ws:Ws}{a:AV}{v:Value}{D':Nat->Prop}{b:Nu}{w':World}{ds:List Deferred}{next:Act->World->Prop}{Q:Exit->Act->World->Prop}
 (f:(execOp (Yu tm ds).eval o).run P w= .ok (.value v) w')
 (R:Rel Γ w0 A O0 ν0 N F D' (st.upds ws) b tm w') (i:RS (st.upds ws) b w' D' a v) (h:∀d,o.dst=some d->d<N)
 (e:∀D' b g w',Rel Γ w0 A O0 ν0 N F D' (st.upds (ws++setD o a)) b g w'->next ⟨g,ds⟩ w'):o.wp P ⟨tm,ds⟩ w next Q:=by
 rw[Oper.wp,f,Oper.upon_value];rw[c5q]at e;unfold Act.put;cases c:o.dst with
 |none=>simp only[c]at e|-;exact e D' b tm w' R
 |some d=>simp only[c]at e|-;exact e D' b _ w' (R.setT (h d c) i)
end
section
variable{P:Program}{C:Caller}{Γ:Env}{w0:World}{A O0:Nat->Prop}{ν0:Nu}{N:Nat}{F:Fl}{D:Nat->Prop}{st:St}{ν:Nu}{tm:Array Value}{w:World}
theorem c9x{P:Program}{T:Nat}(h:a4n (tyS P T).k=true):Q3 (tyS P T).k=false:=by
 cases a:(tyS P T).k<;>simp[a,a4n]at h<;>rfl
theorem c6q{T:Nat}{ls:List AV}{u:AV}(h:(a3o P T ls).ev C st=some u):
 Q3 (tyS P T).k=false/\((a4n (tyS P T).k=true/\(tyS P T).size<=ls.length/\u= .agg (ls.take (tyS P T).size))\/
  (a4n (tyS P T).k=false/\(tyS P T).size=1/\ls[0]? =some u)):=by
 unfold a3o at h;split at h
 ·rename_i c
  simp only[Rd.ev_bind,F6,Rd.ev_ret,Za]at h;obtain⟨_,a,b⟩:=h;split at a
  ·rename_i hle;cases b;exact⟨c9x c,.inl ⟨c,hle,U⟩⟩
  ·cases a
 ·rename_i c
  simp only[Rd.ev_bind,F6,Za]at h;obtain⟨_,a,b⟩:=h;split at a
  ·rename_i hle
   refine⟨hle.2,.inr ⟨by simpa using c,hle.1,?_⟩⟩;cases ls with
   |nil=>simp at b
   |cons l r=>simp at b;simp[b]
  ·cases a
theorem c0v{T off:Nat}{fs:List AV}{cs:Array Value}{u:AV}(h:(a3o P T (fs.drop off)).ev C st=some u)(g:RL st ν w D fs cs.toList):
 ∃v,(part T cs off).run P w= .ok v w/\RS st ν w D u v:=by
 obtain⟨b,h⟩:=c6q h;obtain⟨i,d,k,m,e,_⟩:=P4 b;unfold part;rcases h with⟨c,hle,rfl⟩|⟨c,l,f⟩
 ·refine⟨.agg (cs.extract off (off+i.size)),?_,?_⟩
  ·simp only[ZD,a5e b,Zu,c,if_true,L7 k,ZO]
  ·refine RL.agg ?_
   rw[Array.toList_extract,List.extract_eq_take_drop,Nat.add_sub_cancel_left,e];exact(g.drop off).take _
 ·rw[Yd]at f
  obtain⟨v,a,j⟩:=g.2 _ _ f;refine⟨v,?_,j⟩;have a:cs[off]? =some v:=by simpa using a
  simp only[ZD,a5e b,Zu,c,ZZ,if_false,a,ZO]
theorem a4l{T b q:Nat}{ls:List AV}{u:AV}(h:(a3o P T ls).ev C st=some u)
 (g:∀(k:Nat) (l:AV),ls[k]? =some l->∃v,w.cell? ⟨b,q+k,none⟩=some v/\RS st ν w D l v):
 ∃v,(loadVar T ⟨b,q,none⟩).run P w= .ok v w/\RS st ν w D u v:=by
 obtain⟨f,h⟩:=c6q h;obtain⟨i,d,o,t,r,_⟩:=P4 f;unfold loadVar;rcases h with⟨j,hle,rfl⟩|⟨j,s,n⟩
 ·have a:∀k,k<i.size->w.cell? ⟨b,q+k,none⟩=some ((w.cell? ⟨b,q+k,none⟩).getD Yj):=by
   intro k p;obtain⟨v,c,_⟩:=g k ls[k] (Zg (by omega));rw[c];rfl
  refine⟨.agg ((Yb i.size).map fun k=>(w.cell? ⟨b,q+k,none⟩).getD Yj).toArray,?_,?_⟩
  ·simp only[ZD,a5e f,Zu,j,if_true,L7 o,ZO,b3g w b q i.size _ a]
  ·refine RL.agg ⟨by simp;omega,fun k l e=> ?_⟩
   rw[YA]at e;split at e
   ·rename_i hlt
    obtain⟨v,c,m⟩:=g k l e;exact⟨v,by simp[Yv (show k<i.size by omega),c],m⟩
   ·cases e
 ·obtain⟨v,c,m⟩:=g 0 u n
  refine⟨v,?_,m⟩;have c:w.cell? ⟨b,q,none⟩=some v:=c;simp only[ZD,a5e f,Zu,j,ZZ,if_false,run_load,c]
theorem d7q{id g:Nat}{p:Path}{m s:Nat}{es:List AV}(h:nodeAt st id g p=some (m,s,es))
 {i j:Nat} {l:AV} {v:Value} (o:leafAt es i j=some l) (k:Y0 w (RS st ν w D) (ν id) i j l v):RS st ν w D (a8v id g p i j l) v:=by
 obtain⟨z,r,f,n⟩:=N9 h;cases l with
 |own y c=>
  rcases n with⟨rfl,rfl,rfl⟩|⟨u,x,rfl,n⟩
  ·refine .sl id g (some (i,j)) 0 c.length v (by obtain⟨a,cap,e,hle,_⟩:=(k:SlV w _ _ _ _ _);exact⟨a,cap,e,hle⟩) (by rw[f];exact Zd _) (fun m2 s2 d b u x t q=> ?_) (fun m2 s2 d b=> ?_)
   ·rw[f]at b
    cases b;cases t;rw[o]at q;cases q
   ·unfold nodeAt at b
    rw[f]at b;simp only[if_true,o,Zb,Zk]at b;obtain⟨rfl,rfl,rfl⟩:=b;exact k
  ·exact .undef v
 |_=>exact k
theorem c2b(id g:Nat)(p:Path)(i:Nat):∀(ls:List AV) (j k:Nat),(viewLeaves id g p i j ls)[k]? =(ls[k]?).map (a8v id g p i (j+k)):=by
 intro ls
 induction ls with
 |nil=>intro j k;simp[viewLeaves]
 |cons l ls a=>
  intro j k;cases k with
  |zero=>simp[viewLeaves]
  |succ k=>simp only[viewLeaves,ZR,a];congr 2;omega
theorem RN.cell{L:AV->Value->Prop}{φ:Path->Base}{b o:Nat}{bx:Prop}{s:Nat}{es:List AV}(h:RN w L φ (some (b,o)) bx s es){i j:Nat}{l:AV}
 (f:leafAt es i j=some l):∃v,w.cell? ⟨b,o+i*s+j,none⟩=some v/\Y0 w L φ i j l v:=by
 obtain⟨c,a,d,m,n,p,e⟩:=h;obtain⟨v,k,g⟩:=e i j l f;exact⟨v,by simp[World.cell?,d,k],g⟩
theorem c1l(R:Rel Γ w0 A O0 ν0 N F D st ν tm w){T:Nat}{a u:AV}{va:Value}(h:(loadA P T a).ev C st=some u)(G:RS st ν w D a va):
 ∃v,(Instr.loadAt T va).run P w= .ok v w/\RS st ν w D u v:=by
 cases a<;>simp only[loadA,Rd.ev_fail,reduceCtorEq]at h
 ·rename_i id g p i j
  simp only[Rd.ev_bind,Za]at h;obtain⟨⟨m,s,es⟩,t,x⟩:=h;rw[J4]at t;simp only at x;split at x
  ·rename_i e he
   obtain⟨_,_,_,L⟩:=G.ptr_inv;obtain⟨b,o,y,rfl⟩:=L _ _ _ t;obtain⟨n,_⟩:=R.node t;rw[y]at n;obtain⟨v,B,E⟩:=a4l (w:=w) (ν:=ν) (D:=D) (b:=b) (q:=o+i*s+j) x (fun k l f=>by
    rw[c2b]at f;rw[Yd]at f;cases z:(leaves e)[j+k]? with
    |none=>simp[z]at f
    |some M=>
     simp only[z,ZA,Zb]at f;subst f;have r:leafAt es i (j+k)=some M:=by simp[leafAt,he,z]
     obtain⟨v,K,J⟩:=n.cell r;exact⟨v,by rw[show o+i*s+j+k=o+i*s+(j+k)from by omega];exact K,d7q t r J⟩)
   exact⟨v,by simp only[Instr.loadAt,Instr.sureAddr,ZD,ZO,Zu,B],E⟩
  ·simp at x
 ·rename_i e j
  cases G.ipt_inv with
  |ipt _ _ b o c H I f=>
   obtain⟨v,B,E⟩:=a4l (w:=w) (ν:=ν) (D:=D) (b:=b) (q:=o+j) h (fun k l d=>by
    rw[Yd]at d;exact⟨c (j+k),by rw[YK];exact I _ _ d,.data _ _ (f _ _ d)⟩)
   exact⟨v,by simp only[Instr.loadAt,Instr.sureAddr,ZD,ZO,Zu,B],E⟩
theorem d4r{T f:Nat}{x u:AV}{c:Value}(h:(fieldA P T x f).ev C st=some u)(g:RS st ν w D x c):
 ∃v,(Instr.field T c f).run P w= .ok v w/\RS st ν w D u v:=by
 unfold fieldA at h;split at h
 ·rename_i k ls d
  split at h
  ·rename_i o l b
   obtain⟨fl,hu,rfl⟩:=a5z d;obtain⟨cs,rfl,e⟩:=g.agg_list;rw[ZE]at b;cases a:fl.toList[f]? with
   |none=>simp[a]at b
   |some fd=>
    simp only[a,ZA,Zb,Zk]at b;obtain⟨rfl,rfl⟩:=b;obtain⟨v,i,j⟩:=c0v h e;have a:fl[f]? =some fd:=by simpa using a
    exact⟨v,by simp only[Instr.field,ZD,I8 hu,Zu,a,asAgg,ZO,i],j⟩
  ·simp at h
 ·simp at h
theorem a8j{a:AV}{n:Nat}(h:(asNat a).ev C st=some n):∃k,a= .val (.int k n):=by
 unfold asNat at h;split at h
 ·rename_i k x
  simp only[Rd.ev_bind,F6,Rd.ev_ret,Za]at h;obtain⟨_,b,c⟩:=h;split at b
  ·rename_i d;cases c;exact⟨k,by congr 2;omega⟩
  ·cases b
 ·simp at h
theorem b7i{T f:Nat}{x u:AV}{y:Value}(h:(fieldAddrA P T x f).ev C st=some u)(t:RS st ν w D x y):
 ∃v,(Instr.fieldAt T y f).run P w= .ok v w/\RS st ν w D u v:=by
 unfold fieldAddrA at h;split at h
 ·rename_i R H
  obtain⟨fl,hu,rfl⟩:=a5z H;split at h
  ·rename_i o S l
   rw[ZE]at l;cases a:fl.toList[f]? with
   |none=>simp[a]at l
   |some fd=>
    simp only[a,ZA,Zb,Zk]at l;obtain⟨rfl,rfl⟩:=l;have a:fl[f]? =some fd:=by simpa using a
    simp only[Rd.ev_bind,F6,Za]at h;obtain⟨_,s,d⟩:=h;split at s
    ·rename_i r
     obtain⟨i,E,G⟩:=a7w r;have key:∀b q,(Instr.fieldAt T (.pointer (some ⟨b,q,none⟩)) f).run P w= .ok (.pointer (some ⟨b,q+fd.offset,none⟩)) w:=by
      intro b q;have:¬i.size=0:=by omega
      simp only[Instr.fieldAt,ZD,I8 hu,Zu,a,Instr.sureAddr,ZO,fieldPlace,L7 E,this,if_false,a2j]
     split at d
     ·rename_i id g p i j
      simp only[Rd.ev_ret,Zb]at d;subst d;obtain⟨⟨b,q,rfl⟩,K,L,M⟩:=t.ptr_inv;refine⟨_,key b q,.ptr id g p i _ _ ⟨_,_,U⟩ K L fun V W z n=> ?_⟩;obtain⟨O,J,k,he⟩:=M _ _ _ n;cases he;exact⟨b,J,k,by rw[YK]⟩
     ·rename_i e j
      simp only[Rd.ev_ret,Zb]at d;subst d;cases t.ipt_inv with
      |ipt _ _ b o c m B I=>
       exact⟨_,key b _,.data _ _ (by rw[YK];exact .ipt e _ b o c m B I)⟩
     ·simp at d
    ·cases s
  ·simp at h
 ·simp at h
theorem a3d{T E:Nat}(h:(elemOf P T).ev C st=some E):(tyS P T).k= .slice E/\Q3 (tyS P E).k=false:=by
 unfold elemOf at h;split at h
 ·rename_i e d
  simp only[Rd.ev_bind,F6,Rd.ev_ret,Za]at h;obtain⟨_,a,b⟩:=h;split at a
  ·rename_i c;cases b;exact⟨d,c⟩
  ·cases a
 ·simp at h
theorem F7{p:Prop}[Decidable p]{u:Unit}(h:(if p then some ()else none)=some u):p:=by
 split at h
 ·assumption
 ·cases h
theorem b6k(R:Rel Γ w0 A O0 ν0 N F D st ν tm w){T:Nat}{x k u:AV}{vx vk:Value}(h:(indexAddrA P T x k).ev C st=some u)(W:RS st ν w D x vx)(hk:RS st ν w D k vk):
 ∃v,(XM T vx vk).run P w= .ok v w/\RS st ν w D u v:=by
 unfold indexAddrA at h;simp only[Rd.ev_bind,Za]at h;obtain⟨n,h1,r⟩:=h;obtain⟨kk,rfl⟩:=a8j h1;obtain rfl:=hk.val_inv;split at r
 ·rename_i es
  simp only[Rd.ev_bind,Za]at r;obtain⟨E,L,y⟩:=r;obtain⟨J,M⟩:=a3d L;have hu:=O4 J;obtain⟨i,d,I,hd,j,_⟩:=P4 M;split at y
  ·rename_i e he
   simp only[Rd.ev_bind,F6,Rd.ev_ret,Za]at y;obtain⟨_,f,B⟩:=y;have f:=F7 f;cases B;have hn:n<es.length:=(Zq.1 he).1;cases W.list_inv with
   |list _ a cap b o s c H ha S hc hl=>
    obtain⟨rfl,hD,hlt⟩:=ha (by intro e;subst e;simp at hn);have V:s=i.size:=by rw[<-j,<-f,S e (Zx he)]
    subst V;refine⟨.pointer (some ⟨b,o+n*i.size,none⟩),?_,.data _ _ ?_⟩
    ·simp only[XM,asIntOf,ZD,ZO,Zu,I8 hu]
     simp[L7 I,hn,a2j]
    ·exact .ipt e 0 b (o+n*i.size) (fun k=>c n k) ⟨hD,hlt⟩ (fun k l z=>hc n k l (by simp[leafAt,he,z])) (fun k l z=>hl n k l (by simp[leafAt,he,z]))
  ·simp at y
 ·rename_i id g p off ln
  simp only[Rd.ev_bind,Za]at r;obtain⟨E,L,⟨m,s,es⟩,y,f⟩:=r;obtain⟨J,M⟩:=a3d L;rw[J4]at y;have hu:=O4 J;obtain⟨i,d,I,hd,j,_⟩:=P4 M;simp only[Rd.ev_bind,F6,Rd.ev_ret,Za]at f;obtain⟨_,f,B⟩:=f;have f:=F7 f;cases B;obtain⟨⟨a,cap,rfl,H⟩,Y,Z,q3⟩:=W.sl_inv;obtain⟨a',a0,he,_,X⟩:=q3 _ _ _ y;cases he;rcases X with rfl|⟨b,o,O,rfl,a1⟩
  ·omega
  ·refine⟨.pointer (some ⟨b,o+off*s+n*i.size,none⟩),?_,.ptr id g p _ 0 _ ⟨_,_,U⟩ Y Z fun m' s' K t=> ?_⟩
   ·simp only[XM,asIntOf,ZD,ZO,Zu,I8 hu]
    simp[L7 I,f.1,a2j]
   ·rw[y]at t
    cases t;refine⟨b,o,O,?_⟩;rw[Yk,f.2.2,j,Nat.add_zero,YK]
 ·rename_i id g p a b
  split at r
  ·rename_i len E J
   simp only[Rd.ev_bind,F6,Rd.ev_ret,Za]at r;obtain⟨_,f,B⟩:=r;have f:=F7 f;cases B;have hu:=a9u J;obtain⟨i,d,I,hd,j,_⟩:=P4 f.2;obtain⟨⟨bb,q,rfl⟩,Y,Z,q3⟩:=W.ptr_inv;refine⟨.pointer (some ⟨bb,q+n*i.size,none⟩),?_,.ptr id g p _ _ _ ⟨_,_,U⟩ Y Z fun m' s' K t=> ?_⟩
   ·simp only[XM,asIntOf,ZD,ZO,Zu,I8 hu,Instr.sureAddr]
    simp[L7 I,f.1,a2j]
   ·obtain⟨b',o',G,he⟩:=q3 _ _ _ t
    cases he;exact⟨bb,o',G,by rw[j,YK]⟩
  ·simp at r
 ·simp at r
end
section
variable{P:Program}{C:Caller}{Γ:Env}{w0:World}{A O0:Nat->Prop}{ν0:Nu}{N:Nat}{F:Fl}{D:Nat->Prop}{st:St}{ν:Nu}{tm:Array Value}{w:World}
theorem d3o{T:Nat}{x k u:AV}{q p:Value}(h:(indexA P T x k).ev C st=some u)(o:RS st ν w D x q)(z:RS st ν w D k p):
 ∃v,(Instr.index T q p).run P w= .ok v w/\RS st ν w D u v:=by
 unfold indexA at h;simp only[Rd.ev_bind,Za]at h;obtain⟨n,r,a⟩:=h;obtain⟨J,rfl⟩:=a8j r;obtain rfl:=z.val_inv;split at a
 ·rename_i s g
  obtain rfl:=o.val_inv;split at a
  ·rename_i b m
   simp only[Rd.ev_ret,Zb]at a;subst a;refine⟨_,?_,.data _ _ (.val _)⟩;have B:n<s.size:=by
    have:=(Zq.1 m).1;simpa using this
   have j:s[n]? =some b:=by
    have c:s.data[n]? =some b:=by simpa using m
    rw[getElem?_pos s n B];rw[ZC]at c;obtain⟨f,t⟩:=c;exact congrArg some t
   simp only[Instr.index,asIntOf,ZD,ZO,Zu,I8 (W7 g)];simp[j]
  ·simp at a
 ·rename_i len e ls g
  simp only[Rd.ev_bind,F6,Za]at a;obtain⟨_,c,f⟩:=a;have c:=F7 c;obtain⟨i,d,y,I,l,_⟩:=P4 c.2;obtain⟨cs,rfl,E⟩:=o.agg_list;rw[l]at f;obtain⟨v,G,H⟩:=c0v (P:=P) (w:=w) f E;refine⟨v,?_,H⟩;simp only[Instr.index,asIntOf,ZD,ZO,Zu,I8 (a9u g)];simp[c.1,L7 y,G]
 ·simp at a
theorem X1(R:Rel Γ w0 A O0 ν0 N F D st ν tm w){ds:List Deferred}{o:Option Operand}{dflt n:Nat}(h:(optNat o dflt).ev C st=some n):
 (o=none/\n=dflt)\/∃x k,o=some x/\(Yu tm ds).eval x= .int k n:=by
 cases o with
 |none=>simp[optNat]at h;exact .inl ⟨U,h.symm⟩
 |some x=>
  simp only[optNat,Rd.ev_bind,Za]at h;obtain⟨a,b,c⟩:=h;obtain⟨k,rfl⟩:=a8j c;exact .inr ⟨x,k,U,(G5 b R).val_inv⟩
theorem N8{k:IntKind}{n y:Nat}{code:BoundsCode}(h:n<=y):(Instr.sliceBound (.int k n) y code).run P w= .ok n w:=by
 have:(n:Int)<=y:=by omega
 simp[Instr.sliceBound,asIntOf,this]
theorem Z5(R:Rel Γ w0 A O0 ν0 N F D st ν tm w){ds:List Deferred}{isS:Bool}{len cap m h l dm:Nat}{i d mx:Option Operand}
 (k:(optNat mx dm).ev C st=some m) (e:(optNat d len).ev C st=some h) (b:(optNat i 0).ev C st=some l)
 (hle:l<=h/\h<=m/\m<=dm/\(mx=none\/d≠none)) (r:dm<=cap):
 (XK isS len cap (i.map (Yu tm ds).eval) (d.map (Yu tm ds).eval) (mx.map (Yu tm ds).eval)).run P w=
  .ok (l,h,if mx=none then cap else m) w:=by
 obtain⟨c,f,n,o⟩:=hle;unfold XK;rcases X1 R (ds:=ds) k with⟨rfl,rfl⟩|⟨t,s,rfl,em⟩
 ·rcases X1 R (ds:=ds) e with⟨rfl,rfl⟩|⟨q,p,rfl,a⟩
  ·rcases X1 R (ds:=ds) b with⟨rfl,rfl⟩|⟨j,g,rfl,el⟩
   ·simp
   ·simp[el,N8 c]
  ·rcases X1 R (ds:=ds) b with⟨rfl,rfl⟩|⟨j,g,rfl,el⟩
   ·simp[a,N8 (show h<=cap by omega)]
   ·simp[a,el,N8 (show h<=cap by omega),N8 c]
 ·rcases X1 R (ds:=ds) e with⟨rfl,rfl⟩|⟨q,p,rfl,a⟩
  ·simp at o
  ·rcases X1 R (ds:=ds) b with⟨rfl,rfl⟩|⟨j,g,rfl,el⟩
   ·simp[em,a,N8 (show m<=cap by omega),N8 f]
   ·simp[em,a,el,N8 (show m<=cap by omega),N8 f,N8 c]
theorem a7k{s:Nat}{es:List AV}(h:a3n s es=true):∀e∈es,(leaves e).length=s:=by
 intro e he;have:=Zt.1 h e he;simpa using this
theorem d3e(R:Rel Γ w0 A O0 ν0 N F D st ν tm w){ds:List Deferred}{T:Nat}{x u:AV}{vx:Value}{lo hi mx:Option Operand}(h:(sliceA P T x lo hi mx).ev C st=some u)(G:RS st ν w D x vx):
 ∃v,(Xm T vx (lo.map (Yu tm ds).eval) (hi.map (Yu tm ds).eval) (mx.map (Yu tm ds).eval)).run P w= .ok v w/\RS st ν w D u v:=by
 unfold sliceA at h;split at h
 ·rename_i s J
  obtain rfl:=G.val_inv;simp only[Rd.ev_bind,F6,Rd.ev_ret,Za]at h;obtain⟨_,H,f,I,l,M,_,r,k⟩:=h;obtain rfl:=F7 H;have r:=F7 r;cases k;have hu:=W7 J;have K:=Z5 (P:=P) (isS:=false) (cap:=s.size) R (ds:=ds) (mx:=none) (m:=s.size) (dm:=s.size) U I M ⟨r.1,r.2,Zd _,.inl U⟩ (Zd _);refine⟨_,?_,.data _ _ (.val _)⟩;simp only[Option.map_none]at K;simp[Xm,Instr.slice,I8 hu,K]
 ·rename_i E es J
  simp only[Rd.ev_bind,F6,Za]at h;obtain⟨m,H,f,I,l,M,_,r,_,y,k⟩:=h;have r:=F7 r;have y:=F7 y;have hu:=O4 J;obtain⟨i,d,t,hd,B,_⟩:=P4 y.1;cases G.list_inv with
  |list _ a cap b o s c z ha W hc hl=>
   have K:=Z5 (P:=P) (isS:=true) R (ds:=ds) H I M r z;refine⟨.slice (if(if mx=none then cap else m)=l then a else a.map (·.add (l*i.size))) (f-l) ((if mx=none then cap else m)-l),?_,?_⟩
   ·simp[Xm,Instr.slice,I8 hu,K,L7 t]
   ·split at k
    ·rename_i hm
     simp only[Rd.ev_ret,Zb]at k;subst k;rw[if_neg hm.1,hm.2,Nat.sub_self,show f-l=0 by omega];exact .data _ _ (.nil _)
    ·rename_i hm
     simp only[Rd.ev_ret,Zb]at k;subst k;have hlen:((es.drop l).take (f-l)).length=f-l:=by simp;omega
     have hM:f<=if mx=none then cap else m:=by split<;>omega
     have L:∀i j x,leafAt ((es.drop l).take (f-l)) i j=some x->leafAt es (l+i) j=some x:=by
      intro i j x G;have:=N0 G;unfold leafAt at this|-;rwa[Yd]at this
     refine .data _ _ ?_;have:=RV.list (w:=w) (D:=D) ((es.drop l).take (f-l)) (if(if mx=none then cap else m)=l then a else a.map (·.add (l*i.size))) ((if mx=none then cap else m)-l) b (o+l*s) s
      (fun i j=>c (l+i) j) (by rw[hlen];omega) (fun a2=> ?_) (fun e he=>W e (Yw (ZV he)))
      (fun i j x G=>by rw[show o+l*s+i*s+j=o+(l+i)*s+j from by rw[Yk];omega];exact hc _ _ _ (L i j x G))
      (fun i j x G=>hl _ _ _ (L i j x G))
     ·rwa[hlen]at this
     ·have a4:0<f-l:=by rw[<-hlen];exact List.length_pos_iff.2 a2
      have V:es≠[]:=by intro e;subst e;simp at hlen;omega
      obtain⟨rfl,k1,k2⟩:=ha V;rw[if_neg (by omega)];obtain⟨e,he⟩:=List.exists_mem_of_ne_nil es V;have:s=i.size:=by rw[<-W e he,a7k y.2 e he,B]
      exact⟨by simp[a2j,this],k1,k2⟩
 ·rename_i E J
  simp only[Rd.ev_bind,F6,Rd.ev_ret,Za]at h;obtain⟨m,H,f,I,l,M,_,r,_,y,k⟩:=h;have r:=F7 r;have y:=F7 y;cases k;have hu:=O4 J;obtain⟨i,d,t,hd,B,_⟩:=P4 y;obtain⟨a,rfl⟩:=G.nil_inv;have K:=Z5 (P:=P) (isS:=true) R (ds:=ds) H I M r (Zd _);refine⟨.slice a 0 0,?_,.data _ _ (.nil _)⟩;obtain rfl:m=0:=by omega
  obtain rfl:f=0:=by omega
  obtain rfl:l=0:=by omega
  simp[Xm,Instr.slice,I8 hu,K,L7 t]
 ·rename_i E id g p off n J
  simp only[Rd.ev_bind,F6,Za]at h;obtain⟨m,H,f,I,l,M,_,r,_,y,k⟩:=h;have r:=F7 r;have y:=F7 y;have hu:=O4 J;obtain⟨i,d,t,hd,B,_⟩:=P4 y;obtain⟨⟨a,cap,rfl,z⟩,q1,q2,q3⟩:=G.sl_inv;have K:=Z5 (P:=P) (isS:=true) R (ds:=ds) H I M r z;have hM:f<=if mx=none then cap else m:=by split<;>omega
  have a6:(if mx=none then cap else m)<=cap:=by split<;>omega
  refine⟨.slice (if(if mx=none then cap else m)=l then a else a.map (·.add (l*i.size))) (f-l) ((if mx=none then cap else m)-l),?_,?_⟩
  ·simp[Xm,Instr.slice,I8 hu,K,L7 t]
  ·have key:(∀m s es,nodeAt st id g p=some (m,s,es)->l=0\/s=i.size)->
    RS st ν w D (.sl id g p (off+l) (f-l)) (.slice (if(if mx=none then cap else m)=l then a else a.map (·.add (l*i.size))) (f-l) ((if mx=none then cap else m)-l)):=by
    intro hk;refine .sl id g p _ _ _ ⟨_,_,U,by omega⟩ q1 q2 fun m' s es O=> ?_
    obtain⟨a',a3,he,a7,a0⟩:=q3 _ _ _ O;cases he;refine⟨_,_,U,by omega,?_⟩;by_cases Y:(if mx=none then cap else m)=l
    ·exact .inl (by omega)
    ·rw[if_neg Y]
     rcases a0 with rfl|⟨b,o,Z,rfl,hle⟩
     ·omega
     ·refine .inr ⟨b,o,Z,?_,?_⟩
      ·simp only[ZA,a2j]
       rcases hk _ _ _ O with rfl|rfl
       ·simp
       ·rw[Yk,YK]
      ·refine Yg ?_ hle
       refine Nat.add_le_add_left (ZS _ ?_) _;omega
   split at k
   ·rename_i hm
    simp only[Rd.ev_ret,Zb]at k;subst k;rw[if_neg hm.1,hm.2,Nat.sub_self,show f-l=0 by omega];exact .data _ _ (.nil _)
   ·split at k
    ·rename_i a1
     simp only[Rd.ev_ret,Zb]at k;subst k;have:=key (fun _ _ _ _=> .inl a1);rw[show off+l=off by omega,show(f-l)=f by omega]at this;rwa[show(f-l)=f by omega]
    ·simp only[Rd.ev_bind,F6,Rd.ev_ret,Za]at k
     obtain⟨⟨m',s,es⟩,h7,_,X,h9⟩:=k;rw[J4]at h7;have X:=F7 X;cases h9;exact key fun _ s' _ O=> .inr (by rw[h7]at O;cases O;exact X.trans B)
 ·rename_i n E id g i j J
  simp only[Rd.ev_bind,F6,Rd.ev_ret,Za]at h;obtain⟨_,H,I⟩:=h;obtain⟨rfl,rfl,rfl,B⟩:=F7 H;cases I;have hu:=a9u J;obtain⟨inf,t,_⟩:=a7w (P:=P) (T:=E) (by omega);obtain⟨⟨b,q,rfl⟩,q1,q2,q3⟩:=G.ptr_inv;refine⟨.slice (some ⟨b,q,none⟩) n n,?_,.asl id g i j n _ ⟨_,_,U⟩ q1 fun m' s' a5 O=> ?_⟩
  ·simp[Xm,XK,I8 hu,L7 t,Instr.sureAddr,a2j]
  ·obtain⟨b',o',S,he⟩:=q3 _ _ _ O
   cases he;exact⟨b,o',S,U⟩
 ·simp at h
end
theorem a2s{k:IntKind}{n:Int}(h:inI k n):k.wrap n=n:=by
 obtain⟨a,b⟩:=h;cases k<;>simp only[IntKind.min,IntKind.max,IntKind.signed,IntKind.bits,IntKind.wrap]at* <;>simp at* <;>omega
section
variable{P:Program}{C:Caller}{Γ:Env}{w0:World}{A O0:Nat->Prop}{ν0:Nu}{N:Nat}{F:Fl}{D:Nat->Prop}{st:St}{ν:Nu}{tm:Array Value}{w:World}
theorem c8e{op:BinOp}{k:IntKind}{x y:Int}{u:AV}(T:Nat)(h:(intBin op k x y).ev C st=some u):
 ∃v,u= .val v/\(binOp op T (.int k x) (.int k y)).run P w= .ok v w:=by
 cases op<;>simp only[intBin,Rd.ev_bind,F6,Rd.ev_ret,Rd.ev_fail,Za,Zb,reduceCtorEq]at h
 case add|sub|mul=>
  obtain⟨_,a,rfl⟩:=h;exact⟨_,U,by simp[binOp,Op.intArith,a2s (F7 a)]⟩
 case quo=>
  obtain⟨_,a,rfl⟩:=h;have a:=F7 a;exact⟨_,U,by simp[binOp,Op.intDiv,a2s a.2,a.1]⟩
 case rem=>
  obtain⟨_,a,rfl⟩:=h;have a:=F7 a;exact⟨_,U,by simp[binOp,Op.intDiv,a]⟩
 case shl=>
  obtain⟨_,a,rfl⟩:=h;have a:=F7 a;have hm:min y.toNat k.bits=y.toNat:=by omega
  exact⟨_,U,by simp[binOp,Op.shift,hm,a2s a.2.2,show¬y<0 by omega]⟩
 case shr=>
  obtain⟨_,a,rfl⟩:=h;have a:=F7 a;have hm:min y.toNat k.bits=y.toNat:=by omega
  exact⟨_,U,by simp[binOp,Op.shift,hm,show¬y<0 by omega]⟩
 all_goals
  subst h;exact⟨_,U,by simp[binOp,Op.intCmp,Op.intBits]⟩
theorem b5m{op:BinOp}{k k':IntKind}{x y:Int}{u:AV}(T:Nat)(c:op= .shl\/op= .shr)(h:(intBin op k x y).ev C st=some u):
 ∃v,u= .val v/\(binOp op T (.int k x) (.int k' y)).run P w= .ok v w:=by
 rcases c with rfl|rfl<;>simp only[intBin,Rd.ev_bind,F6,Rd.ev_ret,Za]at h
 ·obtain⟨_,a,b⟩:=h
  cases b;have a:=F7 a;have hm:min y.toNat k.bits=y.toNat:=by omega
  exact⟨_,U,by simp[binOp,Op.shift,hm,a2s a.2.2,show¬y<0 by omega]⟩
 ·obtain⟨_,a,b⟩:=h
  cases b;have a:=F7 a;have hm:min y.toNat k.bits=y.toNat:=by omega
  exact⟨_,U,by simp[binOp,Op.shift,hm,show¬y<0 by omega]⟩
theorem c2g{a b:AV}{r:Bool}{va i:Value}{T:Nat}(d:Nat)(h:b9n (tyS P T).k a b=some r)
 (f:RS st ν w D a va) (g:RS st ν w D b i):(XE (d+1) T va i).run P w= .ok r w:=by
 unfold b9n at h;split at h
 ·rename_i k0 k x j y c
  obtain rfl:=f.val_inv;obtain rfl:=g.val_inv;split at h
  ·rename_i e
   subst e;cases h;exact run_equalIn_int w d T k k0 x y (b8j c)
  ·cases h
 ·rename_i x y c
  obtain rfl:=f.val_inv;obtain rfl:=g.val_inv;cases h;exact run_equalIn_bool w d T x y (d1y c)
 ·rename_i x y c
  obtain rfl:=f.val_inv;obtain rfl:=g.val_inv;cases h;exact run_equalIn_string w d T x y (W7 c)
 ·cases h
theorem c2y(d:Nat){cs ds:Array Value}:∀(fs:List Field) (k:Nat) (xs ys:List AV) (r:Bool),
 (fs.zipIdx k).all (fun f=>f.1.offset==f.2&&f.1.name != "_"&& !Q3 (tyS P f.1.type).k&& !a4n (tyS P f.1.type).k)=true->
 b5i (fs.map fun f=>(tyS P f.type).k) xs ys=some r->RL st ν w D xs (cs.toList.drop k)->RL st ν w D ys (ds.toList.drop k)->
 (Op.eqFields (d+1) cs ds fs).run P w= .ok r w:=by
 intro fs
 induction fs with
 |nil=>
  intro k xs ys r _ h _ _;cases xs<;>cases ys<;>simp[b5i]at h
  subst h
  rfl
 |cons f fs E=>
  intro k xs ys r a h p q;rw[List.zipIdx_cons,List.all_cons]at a;simp only[Zy,beq_iff_eq,bne_iff_ne,ne_eq,Bool.not_eq_true']at a;obtain⟨⟨⟨⟨b,c⟩,i⟩,g⟩,e⟩:=a;simp only[Zz]at h;cases xs with
  |nil=>cases ys<;>simp[b5i]at h
  |cons x xs=>
   cases ys with
   |nil=>simp[b5i]at h
   |cons y ys=>
    simp only[b5i]at h;split at h
    ·rename_i s t u z
     cases h;obtain⟨v1,l,G⟩:=p.2 0 x U;obtain⟨v2,m,H⟩:=q.2 0 y U;rw[Yd]at l m;have l:cs[f.offset]? =some v1:=by rw[b];simpa using l
     have m:ds[f.offset]? =some v2:=by rw[b];simpa using m
     have o:∀(n:Array Value) (v:Value),n[f.offset]? =some v->(part f.type n f.offset).run P w= .ok v w:=by
      intro n v B;simp only[part,ZD,a5e i,Zu,g,ZZ,if_false,B,ZO]
     have hq:=c2g d u G H;have j:=E (k+1) xs ys t e z (by simpa using p.drop 1) (by simpa using q.drop 1);simp only[Op.eqFields,c,ne_eq,not_false_eq_true,if_true,ZD,o cs v1 l,o ds v2 m,Zu,hq];cases s
     ·simp
     ·simpa using j
    ·cases h
theorem d5h(d:Nat){T:Nat}{ms:Array (String×TypeId)}(hu:P.underlying T=some (.interface ms))(t:TypeId)(z:Value):
 (XE (d+1) T (.iface t z) .nilIface).run P w= .ok false w:=by
 simp[XE,I8 hu]
theorem d3z(d:Nat){T:Nat}{ms:Array (String×TypeId)}(hu:P.underlying T=some (.interface ms)):
 (XE (d+1) T .nilIface .nilIface).run P w= .ok true w:=by
 simp[XE,I8 hu]
theorem e5j{op:BinOp}{T:Nat}{x y:Operand}{a b u:AV}{va J:Value}(h:(a3s (fieldKs P T) op a b).ev C st=some u)(he:a1y P T x y a=true)
 (i:RS st ν w D a va) (j:RS st ν w D b J):∃v,(eqGuard op T x y va J).run P w= .ok () w/\(binOp op T va J).run P w= .ok v w/\RS st ν w D u v:=by
 unfold a3s at h;split at h
 ·rename_i k f I g
  obtain rfl:=i.val_inv;obtain rfl:=j.val_inv;have c:(eqGuard op T x y (.int k f) (.int I g)).run P w= .ok () w:=by
   unfold eqGuard;split<;>simp
  split at h
  ·obtain⟨v,rfl,d⟩:=b5m (P:=P) (w:=w) (k':=I) T (.inl U) h
   exact⟨v,c,d,.data _ _ (.val _)⟩
  ·obtain⟨v,rfl,d⟩:=b5m (P:=P) (w:=w) (k':=I) T (.inr U) h
   exact⟨v,c,d,.data _ _ (.val _)⟩
  ·simp only[Rd.ev_bind,F6,Za]at h
   obtain⟨_,d,R⟩:=h;obtain rfl:=F7 d;obtain⟨v,rfl,d⟩:=c8e (P:=P) (w:=w) T R;exact⟨v,c,d,.data _ _ (.val _)⟩
 ·rename_i f g
  obtain rfl:=i.val_inv;obtain rfl:=j.val_inv;have c:(eqGuard op T x y (.string f) (.string g)).run P w= .ok () w:=by
   unfold eqGuard;split<;>simp
  unfold c0f at h;split at h<;>simp only[Rd.ev_bind,F6,Rd.ev_ret,Rd.ev_fail,Za,Zb,reduceCtorEq]at h
  ·obtain⟨_,d,rfl⟩:=h
   have d:=F7 d;refine⟨_,c,?_,.data _ _ (.val _)⟩;have:¬((f.size+g.size:Nat):Int)>Yt.max:=by
    simp only[H0]at d;have:Yt.max=9223372036854775807:=rfl;omega
   simp only[binOp,Op.stringOp,this,if_false,ZO]
  ·subst h;exact⟨_,c,by simp[binOp,Op.stringOp],.data _ _ (.val _)⟩
  ·subst h;exact⟨_,c,by simp[binOp,Op.stringOp],.data _ _ (.val _)⟩
 ·rename_i f g
  obtain rfl:=i.val_inv;obtain rfl:=j.val_inv;have c:(eqGuard op T x y (.bool f) (.bool g)).run P w= .ok () w:=by
   unfold eqGuard;split<;>simp
  have M:P.underlying T=some .bool:=by
   simp only[a1y]at he;split at he
   ·rename_i p;exact d1y p
   ·cases he
  split at h<;>simp only[Rd.ev_ret,Rd.ev_fail,Zb,reduceCtorEq]at h
  ·subst h;exact⟨_,c,run_eql_bool w T f g M,.data _ _ (.val _)⟩
  ·subst h;exact⟨_,c,run_neq_bool w T f g M,.data _ _ (.val _)⟩
 ·obtain⟨t,z,rfl⟩:=i.ifc_inv
  obtain rfl:=j.val_inv;have c:(eqGuard op T x y (.iface t z) .nilIface).run P w= .ok () w:=by
   unfold eqGuard;split<;>simp
  simp only[a1y,a4s]at he;split at he
  ·rename_i ms hu
   have hq:(Op.equal T (.iface t z) .nilIface).run P w= .ok false w:=d5h 9999 hu t z;split at h<;>simp only[Rd.ev_ret,Rd.ev_fail,Zb,reduceCtorEq]at h
   ·subst h;exact⟨_,c,by simp only[binOp,ZD,hq];rfl,.data _ _ (.val _)⟩
   ·subst h;exact⟨_,c,by simp only[binOp,ZD,hq];rfl,.data _ _ (.val _)⟩
  ·cases he
 ·obtain rfl:=i.val_inv
  obtain rfl:=j.val_inv;simp only[a1y,a4s,Zy,Bool.or_eq_true]at he;obtain⟨he,n⟩:=he;have c:(eqGuard op T x y .nilIface .nilIface).run P w= .ok () w:=by
   rcases n with n|n
   ·cases x<;>simp[a8z]at n
    cases op<;>simp[eqGuard]
   ·cases y<;>simp[a8z]at n
    cases op<;>cases x<;>simp[eqGuard]
  split at he
  ·rename_i ms hu
   have hq:(Op.equal T .nilIface .nilIface).run P w= .ok true w:=d3z 9999 hu;split at h<;>simp only[Rd.ev_ret,Rd.ev_fail,Zb,reduceCtorEq]at h
   ·subst h;exact⟨_,c,by simp only[binOp,ZD,hq];rfl,.data _ _ (.val _)⟩
   ·subst h;exact⟨_,c,by simp only[binOp,ZD,hq];rfl,.data _ _ (.val _)⟩
  ·cases he
 ·rename_i xs ys
  obtain⟨cs,rfl,E⟩:=i.agg_list;obtain⟨B,rfl,G⟩:=j.agg_list;simp only[a1y,e7i]at he;split at he
  ·rename_i K hu
   simp only[Zy,Bool.not_eq_true']at he;obtain⟨⟨⟨l,H⟩,o⟩,m⟩:=he;have L:P.fieldsOf T=K:=by simp[Program.fieldsOf,hu]
   have q:∀r,b5i (fieldKs P T) xs ys=some r->(XE 10000 T (.agg cs) (.agg B)).run P w= .ok r w:=by
    intro r e;rw[run_equalIn_struct w 9999 T cs B (by rw[L];exact hu) H,L];unfold fieldKs at e;split at e
    ·rename_i fl p
     obtain⟨O,s,rfl⟩:=a5z p;rw[hu]at s;cases s;rw[List.map_map]at e;exact c2y 9998 K.toList 0 xs ys r l e (by simpa using E) (by simpa using G)
    ·rename_i p
     exact(p _ (c3g hu m)).elim
   split at h<;>simp only[Rd.ev_ret,Rd.ev_fail,Zb,reduceCtorEq]at h
   ·rename_i e
    subst h;exact⟨_,run_eqGuard_agg w .eql T x y cs B o,by rw[run_eql_struct,q _ e];rfl,.data _ _ (.val _)⟩
   ·rename_i e
    subst h;exact⟨_,run_eqGuard_agg w .neq T x y cs B o,by rw[run_neq_struct,q _ e];rfl,.data _ _ (.val _)⟩
  ·cases he
 ·simp at h
end
section
variable{P:Program}{C:Caller}{Γ:Env}{w0:World}{A O0:Nat->Prop}{ν0:Nu}{N:Nat}{F:Fl}{D:Nat->Prop}{st:St}{ν:Nu}{tm:Array Value}{w:World}
theorem e6h{op:UnOp}{a u:AV}{va:Value}(h:(unA op a).ev C st=some u)(c:RS st ν w D a va):
 ∃v,(Op.unary op va).run P w= .ok v w/\RS st ν w D u v:=by
 unfold unA at h;split at h
 ·obtain rfl:=c.val_inv
  simp only[Rd.ev_bind,F6,Rd.ev_ret,Za]at h;obtain⟨_,b,d⟩:=h;have b:=F7 b;cases d;refine⟨_,?_,.data _ _ (.val _)⟩;simp only[Op.unary,Op.intArith,a2s b,ZO];simp
 ·obtain rfl:=c.val_inv
  simp only[Rd.ev_ret,Zb]at h;subst h;exact⟨_,by simp[Op.unary],.data _ _ (.val _)⟩
 ·simp at h
theorem d9i{S T:Nat}{x:Value}{u:AV}(h:(e1c P S T (.val x)).ev C st=some u):
 ∃v,(convert S T x).run P w= .ok v w/\RS st ν w D u v:=by
 unfold e1c at h;split at h
 ·rename_i g f k n b c d
  cases d;simp only[Rd.ev_bind,F6,Rd.ev_ret,Za]at h;obtain⟨_,a,e⟩:=h;have a:=F7 a;cases e;refine⟨_,?_,.data _ _ (.val _)⟩;simp only[convert,ZD,I8 (b8j b),I8 (b8j c),Zu,Conv.intToInt,a2s a,ZO]
 ·rename_i s b c d
  cases d;simp only[Rd.ev_ret,Zb]at h;subst h;refine⟨_,?_,.data _ _ (.val _)⟩;simp only[convert,ZD,I8 (W7 b),I8 (W7 c),Zu,ZO]
 ·simp at h
theorem e4w{T:Nat}{a u:AV}{va:Value}(h:(lenA a).ev C st=some u)(d:lenOk P T a)(i:RS st ν w D a va)(k:Array TypeId)(f:k[0]? =some T)(T':TypeId):
 ∃v,(XD k T' #[va]).run P w= .ok v w/\RS st ν w D u v:=by
 unfold lenOk at d;unfold lenA at h;split at h
 ·rename_i es
  simp only[Rd.ev_ret,Zb]at h;subst h;split at d<;>try(exact d.elim)
  all_goals(rename_i e g;first|cases g|skip)
  rename_i E es e;cases i.list_inv with
  |list _ a cap b o s c j l m n p=>
   refine⟨_,?_,.data _ _ (.val _)⟩;simp[XD,f,I8 (O4 e),goInt]
 ·simp only[Rd.ev_ret,Zb]at h
  subst h;split at d<;>try(exact d.elim)
  all_goals(rename_i e g;first|cases g|skip)
  rename_i E e;obtain⟨a,rfl⟩:=i.nil_inv;refine⟨_,?_,.data _ _ (.val _)⟩;simp[XD,f,I8 (O4 e),goInt]
 ·simp only[Rd.ev_ret,Zb]at h
  subst h;split at d<;>try(exact d.elim)
  all_goals(rename_i e g;first|cases g|skip)
  rename_i e;obtain⟨⟨a,cap,rfl,_⟩,_⟩:=i.sl_inv;refine⟨_,?_,.data _ _ (.val _)⟩;simp[XD,f,I8 (O4 e),goInt]
 ·simp only[Rd.ev_ret,Zb]at h
  subst h;obtain rfl:=i.val_inv;split at d<;>try(exact d.elim)
  all_goals(rename_i e g;first|cases g|skip)
  rename_i e;refine⟨_,?_,.data _ _ (.val _)⟩;simp[XD,f,I8 (W7 e),goInt]
 ·simp at h
theorem a6g(R:Rel Γ w0 A O0 ν0 N F D st ν tm w){ds:List Deferred}:∀(xs:List Operand) {as:List AV},(rdOs xs).ev C st=some as->
 RL st ν w D as (xs.map (Yu tm ds).eval):=by
 intro xs
 induction xs with
 |nil=>intro as h;simp[rdOs]at h;subst h;exact RL.nil
 |cons x xs e=>
  intro as h;simp only[rdOs,Rd.ev_bind,Rd.ev_ret,Za]at h;obtain⟨a,b,r,c,d⟩:=h;cases d;exact RL.cons (G5 b R) (e c)
theorem f4j(x y:Int):(if y>x then y else x)=max x y:=by split<;>omega
theorem f5h(x y:Int):(if y<x then y else x)=min x y:=by split<;>omega
theorem e9l{a u:AV}{va:Value}:∀(as:List AV) (vs:List Value) (a:AV) (va:Value),(foldA max2 a as).ev C st=some u->RS st ν w D a va->RL st ν w D as vs->
 ∃v,(vs.foldlM Builtin.max2 va).run P w= .ok v w/\RS st ν w D u v:=by
 intro as
 induction as with
 |nil=>
  intro vs a va h f e;have:vs=[]:=by simpa using e.1
  subst this;simp only[foldA,Rd.ev_ret,Zb]at h;subst h;exact⟨va,by simp,f⟩
 |cons b r l=>
  intro vs a va h f e;cases vs with
  |nil=>have:=e.1;simp at this
  |cons q vs=>
   simp only[foldA,Rd.ev_bind,Za]at h;obtain⟨c,d,i⟩:=h;unfold max2 at d;split at d
   ·simp only[Rd.ev_bind,F6,Rd.ev_ret,Za]at d
    obtain⟨_,o,j⟩:=d;cases j;obtain rfl:=f.val_inv;obtain⟨p,g,k⟩:=e.2 0 _ U;cases g;obtain rfl:=k.val_inv;obtain⟨v,m,n⟩:=l vs _ (.int _ (max _ _)) i (.data _ _ (.val _)) (by simpa using e.drop 1);refine⟨v,?_,n⟩;simp only[List.foldlM_cons,ZD,Builtin.max2,ZO,Zu,f4j,m]
   ·simp at d
theorem e7f{a u:AV}{va:Value}:∀(as:List AV) (vs:List Value) (a:AV) (va:Value),(foldA min2 a as).ev C st=some u->RS st ν w D a va->RL st ν w D as vs->
 ∃v,(vs.foldlM Builtin.min2 va).run P w= .ok v w/\RS st ν w D u v:=by
 intro as
 induction as with
 |nil=>
  intro vs a va h f e;have:vs=[]:=by simpa using e.1
  subst this;simp only[foldA,Rd.ev_ret,Zb]at h;subst h;exact⟨va,by simp,f⟩
 |cons b r l=>
  intro vs a va h f e;cases vs with
  |nil=>have:=e.1;simp at this
  |cons q vs=>
   simp only[foldA,Rd.ev_bind,Za]at h;obtain⟨c,d,i⟩:=h;unfold min2 at d;split at d
   ·simp only[Rd.ev_bind,F6,Rd.ev_ret,Za]at d
    obtain⟨_,o,j⟩:=d;cases j;obtain rfl:=f.val_inv;obtain⟨p,g,k⟩:=e.2 0 _ U;cases g;obtain rfl:=k.val_inv;obtain⟨v,m,n⟩:=l vs _ (.int _ (min _ _)) i (.data _ _ (.val _)) (by simpa using e.drop 1);refine⟨v,?_,n⟩;simp only[List.foldlM_cons,ZD,Builtin.min2,ZO,Zu,f5h,m]
   ·simp at d
theorem d3d{a:AV}{v:Value}(h:RS st ν w D a v)(d:O7 a=true):RL st ν w D (leaves a) v.cells.toList:=by
 cases a with
 |agg l=>obtain⟨cs,rfl,k⟩:=h.agg_list;exact k
 |undef=>simp[O7]at d
 |tup _=>simp[O7]at d
 |val u=>
  obtain rfl:=h.val_inv;simp only[O7]at d;have:v.cells.toList=[v]:=by cases v<;>simp[Value.cells,c2h]at d|-
  rw[this];exact RL.one h
 |nil=>obtain⟨a,rfl⟩:=h.nil_inv;exact RL.one h
 |list es=>cases h.list_inv with|list _ a cap b o s c=>exact RL.one h
 |own s es=>cases h with|data _ _ h=>cases h
 |ownp es i j=>cases h with|data _ _ h=>cases h
 |sl id g p off n=>obtain⟨⟨a,cap,rfl,_⟩,_⟩:=h.sl_inv;exact RL.one h
 |ptr id g p i j=>obtain⟨⟨a,cap,rfl⟩,_⟩:=h.ptr_inv;exact RL.one h
 |ipt e j=>cases h.ipt_inv with|ipt _ _ b o c=>exact RL.one h
 |clo f cs=>obtain⟨vs,rfl,_⟩:=h.clo_inv;exact RL.one h
 |obj g m s es=>cases h with|data _ _ h=>cases h
 |dead g=>cases h with|data _ _ h=>cases h
 |ifc=>obtain⟨t,x,rfl⟩:=h.ifc_inv;exact RL.one h
 |asl id g i j n=>obtain⟨⟨a,cap,rfl⟩,_⟩:=h.asl_inv;exact RL.one h
theorem d3i(c:Array Value)(k:Nat)(vs:List Value)(h:k+vs.length<=c.size):(Y4 c k vs).toList=c.toList.take k++vs++c.toList.drop (k+vs.length):=by
 apply List.ext_getElem?;intro j;rw[Array.getElem?_toList,a5p c k vs j h];have b:(c.toList.take k).length=k:=by simp;omega
 split
 ·rename_i d
  rw[ZX (by simp[b];omega),Yn (by omega),b]
 ·rename_i d
  by_cases a:j<k
  ·rw[ZX (by simp;omega),ZX (by omega),YA,if_pos a]
   simp
  ·rw[Yn (by simp;omega),Yd]
   rw[Zf,b];rw[show k+vs.length+(j-(k+vs.length))=j by omega];simp
theorem d9r(off:Nat)(vs:List Value):∀(k:Nat) (c:Array Value),
 (vs.zipIdx k).foldl (fun(cs:Array Value) (x:Value×Nat)=>cs.setIfInBounds (off+x.2) x.1) c=Y4 c (off+k) vs:=by
 induction vs with
 |nil=>intro k c;rfl
 |cons v vs a=>
  intro k c;rw[List.zipIdx_cons,List.foldl_cons,a]
  rfl
theorem b4r(off:Nat)(vs:Array Value)(c:Array Value):
 (vs.zipIdx.foldl (fun(cs:Array Value) (x:Value×Nat)=>cs.setIfInBounds (off+x.2) x.1) c)=Y4 c off vs.toList:=by
 rw[<-Array.foldl_toList,Array.toList_zipIdx,d9r]
 rfl
theorem c0t(R:Rel Γ w0 A O0 ν0 N F D st ν tm w){ds:List Deferred}{pl pl':Nat->Option (Nat×Nat)}(g:∀i x,pl i=some x->pl' i=some x):
 ∀(parts:List (Nat×Operand)) (fs:List AV) (cs:Array Value) {gs:List AV},(a0i pl fs parts).ev C st=some gs->RL st ν w D fs cs.toList->
  ∃c,Instr.fill pl' cs (parts.map fun x=>(x.1,(Yu tm ds).eval x.2))=some c/\RL st ν w D gs c.toList:=by
 intro parts
 induction parts with
 |nil=>
  intro fs cs gs h d;simp only[a0i,Rd.ev_ret,Zb]at h;subst h;exact⟨cs,U,d⟩
 |cons p parts s=>
  obtain⟨i,x⟩:=p;intro fs cs gs h d;simp only[a0i,Rd.ev_bind,Za]at h;obtain⟨a,m,f⟩:=h;split at f
  ·simp at f
  ·rename_i off size r
   simp only[Rd.ev_bind,F6,Za]at f;obtain⟨_,n,o⟩:=f;obtain⟨t,u,v⟩:=F7 n;have j:=d3d (G5 m R (ds:=ds)) t;have e:((Yu tm ds).eval x).cells.size=size:=by have:=j.1;simp only[Array.length_toList]at this;omega
   have q:cs.size=fs.length:=by have:=d.1;simpa using this
   obtain⟨c,k,l⟩:=s _ (Y4 cs off ((Yu tm ds).eval x).cells.toList) o (by
    rw[d3i _ _ _ (by simp;omega)];refine RL.append (RL.append (d.take off) j) ?_;have:((Yu tm ds).eval x).cells.toList.length=size:=by simpa using e
    rw[this];exact d.drop _)
   refine⟨c,?_,l⟩;simp only[Zz,Instr.fill,g _ _ r];have b:((((Yu tm ds).eval x).cells.size≠size||off+((Yu tm ds).eval x).cells.size>cs.size):Bool)=false:=by
    simp[e];omega
   simp only[ne_eq,decide_not]at b|-;rw[b];simp only[ZZ,if_false];rw[b4r];exact k
theorem c0c{T:Nat}{b:List AV}(a:(tyS P T).zero= .agg b):∃(i:TypeInfo) (cs:Array Value),P.info? T=some i/\i.zero=some (.agg cs)/\RL st ν w D b cs.toList:=by
 unfold tyS at a;cases c:P.info? T with
 |none=>simp[c]at a
 |some i=>
  simp only[c]at a;split at a
  ·rename_i v f
   have d:RS st ν w D (.agg b) v:=by rw[<-a];exact .data _ _ (RV.ofConst v)
   obtain⟨cs,rfl,e⟩:=d.agg_list;exact⟨i,cs,U,f,e⟩
  ·cases a
theorem d4x(R:Rel Γ w0 A O0 ν0 N F D st ν tm w){ds:List Deferred}{T:Nat}{parts:Array (Nat×Operand)}{u:AV}(h:(c7c P T parts.toList).ev C st=some u):
 ∃v,(Instr.build T (parts.map fun x=>(x.1,(Yu tm ds).eval x.2))).run P w= .ok v w/\RS st ν w D u v:=by
 unfold c7c at h;split at h
 ·rename_i fl B r z
  simp only[Rd.ev_bind,F6,Rd.ev_ret,Za]at h;obtain⟨_,a,G,o,p⟩:=h;have a:=F7 a;cases p;obtain⟨fields,hu,rfl⟩:=a5z r;obtain⟨i,cs,j,c,t⟩:=c0c (st:=st) (ν:=ν) (w:=w) (D:=D) z;have s:fields.toList.mapM (fun f=>(P.info? f.type).map fun i=>(f.offset,i.size))=some (fields.toList.map fun f=>(f.offset,(tyS P f.type).size)):=by
   simp only[List.all_map]at a;generalize fields.toList=l at a
   induction l with
   |nil=>rfl
   |cons f l H=>
    simp only[List.all_cons,Zy,Function.comp,Bool.not_eq_true']at a;obtain⟨i,d,j,_,g,_⟩:=P4 a.1;rw[List.mapM_cons,H a.2];simp[j,g]
  obtain⟨b,k,m⟩:=c0t R (ds:=ds) (pl':=fun i=>((fields.toList.map fun f=>(f.offset,(tyS P f.type).size)).toArray)[i]?) (by
   intro i x y;simpa using y) parts.toList B cs o t
  refine⟨.agg b,?_,RL.agg m⟩;simp only[Instr.build,ZD,a5o j c,Zu,I8 hu,Value.cells];have:=run_places (P:=P) w fields.toList _ s;simp only[Array.mapM_eq_mapM_toList,ZD,Sem.run_map,bind_pure_comp,this,Zu];simp only[YW,k,ZO]
 ·rename_i n e B r z
  simp only[Rd.ev_bind,F6,Rd.ev_ret,Za]at h;obtain⟨_,a,G,o,p⟩:=h;have a:=F7 a;cases p;have hu:=a9u r;obtain⟨i,cs,j,c,t⟩:=c0c (st:=st) (ν:=ν) (w:=w) (D:=D) z;obtain⟨E,I,q,_,g,_⟩:=P4 a;obtain⟨b,k,m⟩:=c0t R (ds:=ds) (pl':=fun i=>some (i*E.size,E.size)) (by
   intro i x y;rw[<-g];exact y) parts.toList B cs o t
  refine⟨.agg b,?_,RL.agg m⟩;simp only[Instr.build,ZD,a5o j c,Zu,I8 hu,Value.cells,L7 q,YW,k,ZO]
 ·simp at h
end
section
variable{P:Program}{C:Caller}{Γ:Env}{w0:World}{A O0:Nat->Prop}{ν0:Nu}{N:Nat}{F:Fl}{D:Nat->Prop}{st:St}{ν:Nu}{tm:Array Value}{w:World}
theorem S9{m:Nat}{p:Path}(h:bxB m p=false):¬d9v m p:=by
 rintro⟨rfl,a⟩;rcases a with rfl|rfl<;>simp[bxB]at h
theorem RN.unbx{L:AV->Value->Prop}{φ:Path->Base}{base:Base}{bx:Prop}{s:Nat}{es:List AV}(h:RN w L φ base bx s es)(g:¬bx):RN w L φ base False s es:=by
 cases base with
 |none=>exact h
 |some q=>
  obtain⟨c,a,b,d,e,i,f⟩:=h;exact⟨c,a,b,d,fun _=>e g,fun h=>h.elim,f⟩
def SlC(st:St)(ν:Nu)(w:World)(D:Nat->Prop)(es:List AV)(v:Value):Prop:=
 ∃a cap,v= .slice a es.length cap/\es.length<=cap/\(es≠[]->∃b o s,a=some ⟨b,o,none⟩/\b<w.heap.size/\(∀e∈es,(leaves e).length=s)/\
  ∀i j l,leafAt es i j=some l->∃v,w.cell? ⟨b,o+i*s+j,none⟩=some v/\(isOwn l=false->RS st ν w D l v))
theorem Y0.notOwn{L:AV->Value->Prop}{φ:Path->Base}{i j:Nat}{l:AV}{v:Value}(h:Y0 w L φ i j l v)(a:isOwn l=false):L l v:=by
 cases l<;>first|exact h|simp[isOwn]at a
theorem e7q{φ:Path->Base}{base:Base}{s off n:Nat}{es:List AV}{v:Value}(d:RN w (RS st ν w D) φ base False s es)(p:SlV w base s off n v)
 (hle:off+n<=es.length):SlC st ν w D ((es.drop off).take n) v:=by
 obtain⟨a,cap,rfl,z,q⟩:=p;have hlen:((es.drop off).take n).length=n:=by simp;omega
 refine⟨a,cap,by rw[hlen],by omega,fun m=> ?_⟩;have B:0<n:=by rw[<-hlen];exact List.length_pos_iff.2 m
 rcases q with q|⟨b,o,g,t,x⟩
 ·omega
 ·subst g
  have f:∀i j l,leafAt ((es.drop off).take n) i j=some l->leafAt es (off+i) j=some l:=by
   intro i j l k;have:=N0 k;unfold leafAt at this|-;rwa[Yd]at this
  refine⟨b,o+off*s,s,t,d.lt U,?_,fun i j l k=> ?_⟩
  ·obtain⟨c,r,E,G,y,_,H⟩:=d
   exact fun e he=>y (fun h=>h) e (Yw (ZV he))
  ·obtain⟨v,p,u⟩:=d.cell (f i j l k)
   exact⟨v,by rw[show o+off*s+i*s+j=o+(off+i)*s+j from by rw[Yk];omega];exact p,u.notOwn⟩
theorem c6a(R:Rel Γ w0 A O0 ν0 N F D st ν tm w){a:AV}{es:List AV}{va:Value}(h:(slc a).ev C st=some es)(q:RS st ν w D a va):SlC st ν w D es va:=by
 unfold slc at h;split at h
 ·simp only[Rd.ev_ret,Zb]at h
  subst h;cases q.list_inv with
  |list _ a cap b o s c d r t E G=>
   refine⟨a,cap,U,d,fun u=> ?_⟩;obtain⟨rfl,e,f⟩:=r u;exact⟨b,o,s,U,f,t,fun i j l k=>⟨c i j,E i j l k,fun _=> .data _ _ (G i j l k)⟩⟩
 ·simp only[Rd.ev_ret,Zb]at h
  subst h;obtain⟨a,rfl⟩:=q.nil_inv;exact⟨a,0,U,Zd _,fun h=>(h U).elim⟩
 ·rename_i id g p off n
  simp only[Rd.ev_bind,Za]at h;obtain⟨⟨m,s,v⟩,e,f⟩:=h;rw[J4]at e;simp only[Rd.ev_bind,F6,Rd.ev_ret,Za]at f;obtain⟨_,x,y⟩:=f;obtain⟨z,B⟩:=F7 x;cases y;obtain⟨_,_,_,k⟩:=q.sl_inv;exact e7q ((R.node e).1.unbx (S9 z)) (k _ _ _ e) B
 ·simp at h
theorem a5j{s:Nat}:∀(es:List AV),(∀e∈es,(leaves e).length=s)->∀k,(es.flatMap leaves)[k]? =leafAt es (k/s) (k%s):=by
 intro es
 induction es with
 |nil=>intro _ k;simp[leafAt]
 |cons e es l=>
  intro h k;have he:=h e (Zr ..);have i:=l fun x j=>h x (Zn _ j)
  rw[List.flatMap_cons];by_cases d:k<s
  ·rw[ZX (by omega),Nat.div_eq_of_lt d,Nat.mod_eq_of_lt d]
   simp[leafAt]
  ·rw[Yn (by omega),he,i]
   by_cases f:s=0
   ·subst f
    simp only[Nat.div_zero,Nat.mod_zero,Nat.sub_zero];unfold leafAt;cases es with
    |nil=>
     simp;have:leaves e=[]:=ZW.1 he;simp[this]
    |cons a es=>
     have b:(leaves a).length=0:=h a (by simp);have:leaves e=[]:=ZW.1 he;have c:leaves a=[]:=ZW.1 b;simp[this,c]
   ·have g:(k-s)/s+1=k/s:=by
     have:=Nat.div_eq_sub_div (Nat.pos_of_ne_zero f) (by omega:s<=k);omega
    have b:(k-s)%s=k%s:=(Nat.mod_eq_sub_mod (by omega)).symm;rw[b,<-g];simp[leafAt]
theorem a2c{s:Nat}:∀(es:List AV),(∀e∈es,(leaves e).length=s)->(es.flatMap leaves).length=es.length*s:=by
 intro es
 induction es with
 |nil=>intro _;simp
 |cons e es b=>
  intro h;rw[List.flatMap_cons,Zf,b fun x a=>h x (Zn _ a),h e (Zr ..),Ze,Yk];omega
theorem SlC.load{es:List AV}{v:Value}(h:SlC st ν w D es v){s:Nat}(r:∀e∈es,(leaves e).length=s)(n:Nat)(q:n<=es.length):
 ∃(a:Option Addr) (cap:Nat) (vs:List Value),v= .slice a es.length cap/\vs.length=n*s/\
  (∀k l,k<n*s->(es.flatMap leaves)[k]? =some l->∃x,vs[k]? =some x/\(isOwn l=false->RS st ν w D l x))/\
  ((a=none/\n=0)\/∃z,a=some z/\(loadCells z (n*s)).run P w= .ok vs.toArray w):=by
 obtain⟨a,cap,rfl,L,I⟩:=h;by_cases d:es=[]
 ·subst d
  simp only[Zo,Nat.le_zero]at q;subst q;refine⟨a,cap,[],U,by simp,fun k l g=>by omega,?_⟩;cases a with
  |none=>exact .inl ⟨U,U⟩
  |some a=>exact .inr ⟨a,U,by simp[loadCells,loadCellsFrom]⟩
 ·obtain⟨b,o,m,rfl,K,t,H⟩:=I d
  obtain⟨e,he⟩:=List.exists_mem_of_ne_nil es d;obtain rfl:m=s:=by rw[<-t e he,r e he]
  have c:∀k,k<n*m->∃x l,w.cell? ⟨b,o+k,none⟩=some x/\(es.flatMap leaves)[k]? =some l/\(isOwn l=false->RS st ν w D l x):=by
   intro k g;have i:k<(es.flatMap leaves).length:=by
    rw[a2c es r];exact YF g (ZS _ q)
   have f:=a5j es r k;rw[Zg i]at f;obtain⟨x,u,y⟩:=H _ _ _ f.symm;refine⟨x,_,?_,Zg i,y⟩;rw[<-u];congr 2;have:=Nat.div_add_mod k m;rw[Nat.mul_comm]at this;omega
  refine⟨_,cap,(Yb (n*m)).map fun k=>(w.cell? ⟨b,o+k,none⟩).getD Yj,U,by simp,fun k l g p=> ?_,.inr ⟨_,U,?_⟩⟩
  ·obtain⟨x,J,f,B,E⟩:=c k g
   rw[p]at B;cases B;exact⟨x,by simp[Yv g,f],E⟩
  ·exact b3g w b o (n*m) _ fun j G=>by
    obtain⟨x,J,f,_⟩:=c j G;rw[f];rfl
theorem e6q(l:List UInt8)(acc:ByteArray):(l.foldl XF acc).data.toList=acc.data.toList++l:=by
 induction l generalizing acc with
 |nil=>simp
 |cons b l a=>rw[List.foldl_cons,a];simp[XF]
theorem e6b(a b:ByteArray)(h:a.data.toList=b.data.toList):a=b:=by
 obtain⟨⟨x⟩⟩:=a;obtain⟨⟨y⟩⟩:=b;simp at h;subst h
 rfl
theorem d0d{es:List AV}{l:List UInt8}(h:Z3 es=some l):(∀e∈es,(leaves e).length=1)/\(es.flatMap leaves)=es/\(∀e∈es,isOwn e=false):=by
 induction es generalizing l with
 |nil=>simp
 |cons e es g=>
  unfold Z3 at h;split at h
  ·rename_i a;cases a
  ·rename_i n r a
   cases a;split at h
   ·cases b:Z3 es with
    |none=>simp[b]at h
    |some i=>
     obtain⟨c,d,f⟩:=g b;refine⟨?_,by simp[leaves,d],?_⟩
     ·intro e he
      cases he with
      |head=>rfl
      |tail _ he=>exact c e he
     ·intro e he
      cases he with
      |head=>rfl
      |tail _ he=>exact f e he
   ·cases h
  ·cases h
theorem e5w(P:Program)(f:Value->ByteArray->Sem (ForInStep ByteArray))(i:∀n s,f (.int .u8 n) s=pure (ForInStep.yield (s.push (UInt8.ofNat n.toNat)))):∀(es:List AV) (vs:List Value) (l:List UInt8) (acc:ByteArray),Z3 es=some l->RL st ν w D es vs->
 (forIn vs acc f:Sem ByteArray).run P w= .ok (l.foldl XF acc) w:=by
 intro es
 induction es with
 |nil=>
  intro vs l acc h a;have:vs=[]:=by simpa using a.1
  subst this;simp only[Z3,Zb]at h;subst h;simp
 |cons e es j=>
  intro vs l acc h a;cases vs with
  |nil=>have:=a.1;simp at this
  |cons v vs=>
   unfold Z3 at h;split at h
   ·rename_i b;cases b
   ·rename_i n r b
    cases b;split at h
    ·cases c:Z3 es with
     |none=>simp[c]at h
     |some k=>
      simp only[c,ZA,Zb]at h;subst h;obtain⟨m,g,d⟩:=a.2 0 _ U;cases g;obtain rfl:=d.val_inv;simp only[List.forIn_cons,ZD,i,ZO,Zu];exact j vs k _ c (by simpa using a.drop 1)
    ·cases h
   ·cases h
theorem d2s(R:Rel Γ w0 A O0 ν0 N F D st ν tm w){S T:Nat}{a u:AV}{va:Value}(h:(e0m P S T a).ev C st=some u)(r:RS st ν w D a va):
 ∃v,(convert S T va).run P w= .ok v w/\RS st ν w D u v:=by
 unfold e0m at h;split at h
 ·rename_i e t y
  split at h
  ·rename_i he
   simp only[Rd.ev_bind,Za]at h;obtain⟨es,q,f⟩:=h;split at f
   ·rename_i l g
    simp only[Rd.ev_ret,Zb]at f;subst f;obtain⟨B,E,G⟩:=d0d g;obtain⟨o,cap,vs,rfl,J,p,z⟩:=(c6a R q r).load (P:=P) B es.length (Zd _);rw[E]at p;have j:RL st ν w D es vs:=⟨by omega,fun i l d=>by
     have I:i<es.length:=(Zq.1 d).1;obtain⟨x,m,n⟩:=p i l (by omega) d;exact⟨x,m,n (G l (Zx d))⟩⟩
    refine⟨.string ⟨l.toArray⟩,?_,.data _ _ (.val _)⟩;have c:(Conv.bytesToString (.slice o es.length cap)).run P w= .ok (.string ⟨l.toArray⟩) w:=by
     unfold Conv.bytesToString;rcases z with⟨rfl,s⟩|⟨H,rfl,b⟩
     ·have:es=[]:=ZW.1 s
      subst this;simp only[Z3,Zb]at g;subst g
      rfl
     ·rw[Nat.mul_one]at b
      have k:(l.foldl XF ByteArray.empty)=⟨l.toArray⟩:=e6b _ _ (by rw[e6q];rfl);simp only[ZD,b,Zu];rw[<-Array.forIn_toList];rw[e5w P _ (fun _ _=>U) es vs l ByteArray.empty g j,k]
      rfl
    simp only[convert,ZD,I8 (O4 t),I8 (W7 y),Zu,I8 (b8j he)];cases o<;>exact c
   ·simp at f
  ·simp at h
 ·simp at h
end
section
variable{P:Program}{C:Caller}{Γ:Env}{w0:World}{A O0:Nat->Prop}{ν0:Nu}{N:Nat}{F:Fl}{D:Nat->Prop}{st:St}{ν:Nu}{tm:Array Value}{w:World}
theorem RV.list_nil(a:Option Addr):RV w D (.list []) (.slice a 0 0):=
 .list [] a 0 0 0 0 (fun _ _=>Yj) (by simp) (fun c=>(c U).elim) (fun e he=>by cases he) (fun i j l b=>by simp[leafAt]at b) (fun i j l b=>by simp[leafAt]at b)
theorem a0m{es:List AV}(h:P1 es=true):a2k es:=fun _ _ _ a=>M2 h a
theorem V8(es:List AV):(frzL es).length=es.length:=by rw[P5];simp
theorem a5y{es:List AV}(h:a2k es):P1 es=true:=d0o h
theorem d9p{m:Nat}{p:Path}(h:m≠3/\m≠4):¬d9v m p:=by
 rintro⟨_,rfl|rfl⟩
 ·exact h.1 U
 ·exact h.2 U
theorem X2(H:∀b,O0 b->A b){κ:FK}(V:F κ=none)(R:Rel Γ w0 A O0 ν0 N F D st ν tm w){a:AV}{es:List AV}{st':St}{v:Value}(h:(freeze a).go C st=some (es,st'))(O:RS st ν w D a v):
 ∃D':Nat->Prop,(∀b,D b->D' b)/\Rel Γ w0 A O0 ν0 N F D' st' ν tm w/\Ext st ν w st' ν w/\RV w D' (.list es) v:=by
 unfold freeze at h;split at h
 ·simp only[RW.go_pure,Zb,Zk]at h
  obtain⟨rfl,rfl⟩:=h;exact⟨D,fun _ h=>h,R,Ext.refl _ _ _,O.list_inv⟩
 ·simp only[RW.go_pure,Zb,Zk]at h
  obtain⟨rfl,rfl⟩:=h;obtain⟨a,rfl⟩:=O.nil_inv;exact⟨D,fun _ h=>h,R,Ext.refl _ _ _,RV.list_nil a⟩
 ·rename_i id g p off n
  simp only[RW.go_bind,RW.go_up,Za,Zh]at h;obtain⟨_,⟨⟨m,s,M⟩,x,rfl⟩,h⟩:=h;rw[J4]at x;obtain⟨_,⟨_,W,rfl⟩,h⟩:=h;simp only[F6]at W;obtain⟨I,hle⟩:=F7 W;obtain⟨_,_,_,d⟩:=O.sl_inv;have d:=d _ _ _ x;simp only at h;split at h
  ·rename_i hm
   subst hm;simp only[RW.go_pure,Zb,Zk]at h;obtain⟨rfl,rfl⟩:=h;obtain⟨u,f,c,K⟩:=N9 x;obtain⟨B,k⟩:=R.frozen id g u f c;rcases K with⟨rfl,rfl,rfl⟩|⟨i,j,rfl,L⟩
   ·exact⟨D,fun _ h=>h,R,Ext.refl _ _ _,W1 ((R.node x).1.unbx (S9 I)) (a0m k) B d hle⟩
   ·have:=M2 k L
    simp[immLeaf]at this
  ·simp only[RW.go_bind,RW.go_up,Za,Zh,F6]at h
   obtain⟨_,⟨_,Y,rfl⟩,h⟩:=h;obtain⟨rfl,T⟩:=F7 Y;cases p with
   |none=>
    simp only[RW.go_bind,RW.go_wr,RW.go_pure,Zl,Zb,Zk]at h;obtain⟨rfl,rfl⟩:=h;obtain⟨u,f,c,K⟩:=N9 x;rcases K with⟨_,rfl,rfl⟩|⟨i,j,hq,_⟩
    ·obtain⟨D',Z,G,E⟩:=R.freezeTop c T (fun b z=>(R.tO b z).imp (H b) fun h=>h)
     refine⟨D',Z,G,E,?_⟩;have t:(st.upd (.h id) (.obj g 2 u (frzL f))) (.h id)= .obj g 2 u (frzL f):=St.upd_eq _ _ _;obtain⟨B,k⟩:=G.frozen id g u _ t;have y:=(G.objs id g 2 u _ t).top.unbx (by decide);exact W1 y (a0m k) B d (by rw[V8];exact hle)
    ·cases hq
   |some q=>
    obtain⟨i,j⟩:=q;simp only[RW.go_bind,RW.go_up,Y3,ZA,Zl]at h;obtain⟨u,ps,c,K⟩:=N9 x;rcases K with⟨hq,_⟩|⟨i',j',hq,L⟩
    ·cases hq
    ·cases hq
     rw[c]at h;simp only at h;split at h
     ·rename_i e he
      simp only[RW.go_bind,RW.go_wr,RW.go_pure,Zl,Zb,Zk]at h;obtain⟨rfl,rfl⟩:=h;obtain⟨y,r⟩:=R.node x;have r:=r (by simp);have J:=a5y r;have S:=a0f J;rw[S];obtain⟨G,E⟩:=R.outSub c (by decide) L (Y9 (bx:=(0=3\/0=4)) (s:=u) he L (l:= .list M) (by intro gs hh;cases hh)) (F':=F) (D':=fun b=>D b\/∃o,ν id (some (i,j))=some (b,o)) κ V
       (.inr ⟨U,U,U⟩) H
      refine⟨_,fun b z=> .inl z,G,E,?_⟩;refine W1 (st:=st) (ν:=ν) ((y.unbx (S9 I)).mono U (fun _ _ _=>U) (fun a v h=>h.same (Ext.refl _ _ _) (fun b z=> .inl z)) (fun i j s' X a0=>⟨U,fun _ _ _=>U⟩)) r (fun b o z=> .inr ⟨o,z⟩) d hle
     ·simp at h
 ·simp at h
theorem c5k{v:Value}(h:c2h v=true):v.oneCell'=true:=by
 cases v<;>simp[c2h,Value.oneCell']at h|-
theorem RO.cut{L:AV->Value->Prop}{φ:Path->Base}{bx:Prop}{s:Nat}{es:List AV}(h:RO w L φ bx s es)(n:Nat):RO w L φ bx s (es.take n):=by
 refine⟨?_,fun i j u f k=>h.sub i j u f (N0 k)⟩;have d:=h.top;unfold RN at d|-;split
 ·rename_i a
  rw[a]at d;simp[d]
 ·rename_i b o a
  rw[a]at d;obtain⟨c,g,m,p,q,t,r⟩:=d;refine⟨c,g,m,?_,fun a e he=>q a e (ZV he),fun a=> ?_,fun i j l k=>r i j l (N0 k)⟩
  ·refine Yg (Nat.add_le_add_left (ZS _ ?_) _) p
   rw[ZH];omega
  ·have:=t a
   rw[ZH];omega
theorem b0b{es:List AV}{n:Nat}{p:Path}(h:livePath (es.take n) p):livePath es p:=by
 intro q hq;obtain⟨s,a,b⟩:=h q hq;exact⟨s,a,N0 b⟩
theorem Rel.cut(R:Rel Γ w0 A O0 ν0 N F D st ν tm w){κ:FK}{f:Flo}(a:F κ=some f)(n:Nat):
 Rel Γ w0 A O0 ν0 N (F.set κ (some ⟨f.φ,f.s,f.es.take n⟩)) D st ν tm w:=by
 refine R.refloat a _ (fun _ h=>h) (fun f1 d=> ?_) (fun b c e=>(e c).elim);cases d;exact⟨(R.flos κ f a).cut n,fun p b o g c=>⟨b0b g,o,c⟩⟩
theorem Rel.frzFlo(R:Rel Γ w0 A O0 ν0 N F D st ν tm w)(M:∀b,O0 b->A b){κ:FK}{f:Flo}(x:F κ=some f)(hr:G4 f.es=true):
 ∃D':Nat->Prop,(∀b,D b->D' b)/\Rel Γ w0 A O0 ν0 N (F.set κ (some ⟨f.φ,f.s,frzL f.es⟩)) D' st ν tm w:=by
 have L:∀b,D b->D b\/∃i j m d o,leafAt f.es i j=some (.own m d)/\f.φ (some (i,j))=some (b,o):=fun b g=> .inl g
 have X:∀a v,RS st ν w D a v->RS st ν w (fun b=>D b\/∃i j m d o,leafAt f.es i j=some (.own m d)/\f.φ (some (i,j))=some (b,o)) a v:=
  fun a v h=>h.same (Ext.refl _ _ _) L
 have E:∀i j m d,leafAt (frzL f.es) i j≠some (.own m d):=by
  intro i j m d y;have:=M2 (a4t hr) y;simp[immLeaf]at this
 have H:=R.flos κ f x;refine⟨_,L,R.refloat x _ L (fun f1 B=> ?_) (fun b g hd=> ?_)⟩
 ·cases B
  refine⟨⟨?_,fun i j m d y=>(E i j m d y).elim⟩,fun p b o hp g=>⟨?_,o,g⟩⟩
  ·have G:=H.top
   unfold RN at G|-;simp only;split
   ·rename_i g
    rw[g]at G;simp only at G;rw[G];rfl
   ·rename_i b o g
    rw[g]at G;obtain⟨c,K,B,h2,J,h5,h4⟩:=G;refine⟨c,K,B,by rw[V8];exact h2,fun O e he=> ?_,fun g=>g.elim,fun i j l y=> ?_⟩
    ·rw[P5]at he
     obtain⟨e0,S,rfl⟩:=ZI.1 he;rw[a1g,Zi];exact J O e0 S
    ·rw[P6]at y
     cases t:leafAt f.es i j with
     |none=>simp[t]at y
     |some l0=>
      simp only[t,ZA,Zb]at y;subst y;obtain⟨v,hv,I⟩:=h4 i j l0 t;refine⟨v,hv,?_⟩;rcases R4 hr t with ho|Y
      ·cases l0<;>simp[isOwn]at ho
       rename_i s2 r;obtain⟨q1,q2⟩:=H.sub i j s2 r t;have T:frzL r=r:=a0f (a5y q2);simp only[frz,T];have:=W1 (st:=st) (ν:=ν) (D:=fun b=>D b\/∃i j m d o,leafAt f.es i j=some (.own m d)/\f.φ (some (i,j))=some (b,o))
        (q1.mono U (fun _ _ _=>U) X (fun _ _ _ _ _=>⟨U,fun _ _ _=>U⟩)) q2 (fun b o g=> .inr ⟨i,j,s2,r,o,t,g⟩) (off:=0) (n:=r.length) I (by omega)
       simp only[ZY,Yo]at this;exact .data _ _ this
      ·rw[a0q Y]
       refine Y0.mono I X (fun m d e=> ?_) (fun m d b o e=> ?_)<;>(subst e;simp[immLeaf]at Y)
  ·cases p with
   |none=>exact fun q hq=>by cases hq
   |some q=>
    obtain⟨m,d,y⟩:=hp q U;exact(E _ _ _ _ y).elim
 ·rcases g with g|⟨i,j,m,d,o,y,g⟩
  ·exact(hd g).elim
  ·have u:live st F (.fl κ (some (i,j))):=⟨f,x,fun q hq=>by cases hq;exact⟨m,d,y⟩⟩
   have s:baseOf ν F (.fl κ (some (i,j)))=some (b,o):=by simp only[baseOf,x];exact g
   refine⟨?_,?_,⟨R.live_lt u s,fun _=>R.live_cells u s⟩⟩
   ·rintro⟨k,W,Z,z⟩
    cases k with
    |nd id p=>
     have:=R.inj (.nd id p) _ b W o Z u z s;cases this
    |fl k p=>
     obtain⟨f1,B,J⟩:=Z;by_cases e:k=κ
     ·subst e
      rw[Fl.set_eq]at B;cases B;simp only[baseOf,Fl.set_eq]at z;cases p with
      |none=>
       have:=R.inj (.fl k none) _ b W o ⟨f,x,fun q hq=>by cases hq⟩ u (by simp only[baseOf,x];exact z) s;cases this
      |some q=>
       obtain⟨s2,r,V⟩:=J q U;exact(E _ _ _ _ V).elim
     ·rw[Fl.set_ne _ _ e]at B
      simp only[baseOf,Fl.set_ne _ _ e]at z;have:=R.inj (.fl k p) _ b W o ⟨f1,B,J⟩ u z s;cases this;exact e U
   ·rcases R.tO b ⟨_,o,u,s⟩with h|h
    ·exact .inl (M b h)
    ·exact .inr h
theorem Fl.set_set(F:Fl)(κ:FK)(a b:Option Flo):(F.set κ a).set κ b=F.set κ b:=by
 funext k;by_cases h:k=κ<;>simp[Fl.set,h]
theorem Fl.set_none(F:Fl){κ:FK}(h:F κ=none):F.set κ none=F:=by
 funext k;by_cases e:k=κ
 ·subst e;simp[Fl.set,h]
 ·simp[Fl.set,e]
theorem Rel.takeObj(R:Rel Γ w0 A O0 ν0 N F D st ν tm w){id g s:Nat}{es:List AV}(h:st (.h id)= .obj g 0 s es){κ:FK}(a:F κ=none)(n:Nat):
 Rel Γ w0 A O0 ν0 N (F.set κ (some ⟨ν id,s,es.take n⟩)) D (st.upd (.h id) (.dead g)) ν tm w/\Ext st ν w (st.upd (.h id) (.dead g)) ν w:=by
 have c:=R.detach h a;have b:=c.cut (κ:=κ) (f:=⟨ν id,s,es⟩) (Fl.set_eq _ _ _) n;rw[Fl.set_set]at b;exact⟨b,R.extUpd (by rw[h];exact Zd _) (by intro _ _ _ _ e;cases e) (fun _ _=>U) (fun _ _=>U)⟩
theorem Ext.trans{st e f:St}{ν k l:Nu}{w B G:World}(E:Ext st ν w e k B)(t:Ext e k B f l G):Ext st ν w f l G:=by
 refine⟨fun id=>Yg (E.stamps id) (t.stamps id),fun id g T z m x h=> ?_⟩;obtain⟨m1,p,K,L,M,v⟩:=t.objs id g T z m (Yg x (E.stamps id)) h;obtain⟨m0,n,R,y,S,s⟩:=E.objs id g m1 z p x K;refine⟨m0,n,R,L.trans y,fun b o c=>(M b o (y▸c)).trans (S b o c),fun i j=>⟨fun d=>(s i j).1 ((v i j).1 d),fun s2 a O=> ?_⟩⟩;rcases(v i j).2 s2 a O with d|⟨q,H,a2,a3⟩
 ·exact .inl ((s i j).1 d)
 ·rcases(s i j).2 s2 q H with d|⟨r,I,u,J⟩
  ·exact .inl d
  ·exact .inr ⟨r,I,a2.trans u,fun b o c=>(a3 b o (u▸c)).trans (J b o c)⟩
theorem W0{es:List AV}(h:G4 es=true)(n:Nat):G4 (es.take n)=true:=by
 unfold G4 at h|-;rw[Zt]at h|-;exact fun e he=>h e (ZV he)
def LeafOk(F:Fl)(m:Nat)(cur:AV)(κ:FK)(st':St)(b:Nu)(w:World)(F':Fl)(D':Nat->Prop)(a:AV)(x:Value):Prop:=
 x.oneCell'=true/\(L4 a=true->L4 cur=true)/\(∀gs,a≠.agg gs)/\
 ((isOwn a=false/\F'=F/\RS st' b w D' a x)\/
  (∃s es φ,a= .own s es/\L4 cur=true/\m=0/\F'=F.set κ (some ⟨φ,s,es⟩)/\a2k es/\SlV w (φ none) s 0 es.length x))
theorem a5c(L:∀b,O0 b->A b){κ:FK}(r:F κ=none)(R:Rel Γ w0 A O0 ν0 N F D st ν tm w){m f:Nat}{cur v z:AV}{st':St}{x:Value}
 (h:(K7 m cur f v).go C st=some (z,st')) (l:RS st ν w D v x):
 ∃F' D' c,Rel Γ w0 A O0 ν0 N F' D' st' c tm w/\Ext st ν w st' c w/\(∀b,D b->D' b)/\LeafOk F m cur κ st' c w F' D' z x:=by
 have frz:∀id g p off n es,v= .sl id g p off n->(freeze v).go C st=some (es,st')->z= .list es->
  ∃F' D' c,Rel Γ w0 A O0 ν0 N F' D' st' c tm w/\Ext st ν w st' c w/\(∀b,D b->D' b)/\LeafOk F m cur κ st' c w F' D' z x:=by
  intro id g p off n es hv hf W;subst hv W;obtain⟨D',S,Y,E,hr⟩:=X2 L r R hf l;obtain⟨⟨a,cap,rfl,_⟩,_⟩:=l.sl_inv;exact⟨F,D',ν,Y,E,S,U,by simp[L4],(by intro gs e;cases e),.inl ⟨U,U,.data _ _ hr⟩⟩
 have same:∀u,z=u->st'=st->x.oneCell'=true->(L4 u=true->L4 cur=true)->(∀gs,u≠.agg gs)->isOwn u=false->RS st ν w D u x->
  ∃F' D' c,Rel Γ w0 A O0 ν0 N F' D' st' c tm w/\Ext st ν w st' c w/\(∀b,D b->D' b)/\LeafOk F m cur κ st' c w F' D' z x:=by
  rintro u rfl rfl d k K h4 h5;exact⟨F,D,ν,R,Ext.refl _ _ _,fun _ h=>h,d,k,K,.inl ⟨h4,U,h5⟩⟩
 unfold K7 at h;split at h
 ·simp only[RW.go_bind,RW.go_up,RW.go_pure,F6,Za,Zh]at h
  obtain⟨_,⟨_,d,rfl⟩,k⟩:=h;have d:=F7 d;cases k;obtain rfl:=l.val_inv;exact same _ U U (c5k d) (by simp[L4]) (by intro gs e;cases e) U l
 ·simp only[RW.go_bind,RW.go_up,RW.go_pure,F6,Za,Zh]at h
  obtain⟨_,⟨_,d,rfl⟩,k⟩:=h;have d:=F7 d;cases k;obtain⟨cs,rfl,_⟩:=l.clo_inv;exact same _ U U U (by simp[L4]) (by intro gs e;cases e) U l
 ·simp only[RW.go_pure,Zb,Zk]at h
  obtain⟨rfl,rfl⟩:=h;refine same _ U U ?_ (by simp[L4]) (by intro gs e;cases e) U l;cases l.list_inv;rfl
 ·simp only[RW.go_bind,RW.go_up,RW.go_pure,F6,Za,Zh]at h
  obtain⟨_,⟨_,d,rfl⟩,k⟩:=h;cases k;obtain⟨⟨b,q,rfl⟩,_⟩:=l.ptr_inv;exact same _ U U U (by simp[L4]) (by intro gs e;cases e) U l
 ·obtain⟨a,rfl⟩:=l.nil_inv
  split at h
  ·split at h
   ·simp only[RW.go_pure,Zb,Zk]at h
    obtain⟨rfl,rfl⟩:=h;exact same _ U U U (by simp[L4]) (by intro gs e;cases e) U (.data _ _ (RV.list_nil a))
   ·simp only[RW.go_pure,Zb,Zk]at h
    obtain⟨rfl,rfl⟩:=h;exact same _ U U U (fun _=>U) (by intro gs e;cases e) U l
  ·simp only[RW.go_pure,Zb,Zk]at h
   obtain⟨rfl,rfl⟩:=h;exact same _ U U U (by simp[L4]) (by intro gs e;cases e) U (.data _ _ (RV.list_nil a))
 ·rename_i id g p off n
  have o:((freeze (.sl id g p off n)>>=fun es=>(pure (.list es):RW AV)).go C st=some (z,st'))->
   ∃F' D' c,Rel Γ w0 A O0 ν0 N F' D' st' c tm w/\Ext st ν w st' c w/\(∀b,D b->D' b)/\LeafOk F m cur κ st' c w F' D' z x:=by
   intro h;simp only[RW.go_bind,RW.go_pure,Za]at h;obtain⟨⟨es,a2⟩,d,k⟩:=h;cases k;exact frz id g p off n es U d U
  have y:∀{s:Nat} {es:List AV},nodeAt st id g none=some (0,s,es)->st (.h id)= .obj g 0 s es:=by
   intro s es G;obtain⟨s0,Z,d,k⟩:=N9 G;rcases k with⟨_,rfl,rfl⟩|⟨i,j,hq,_⟩
   ·exact d
   ·cases hq
  split at h
  ·split at h
   ·rename_i T
    obtain⟨_,rfl,rfl,_⟩:=T;simp only[RW.go_bind,RW.go_up,Za,Zh]at h;obtain⟨_,⟨⟨m',s,es⟩,d,rfl⟩,h⟩:=h;rw[J4]at d;simp only at h;split at h
    ·rename_i B
     subst B;simp only[RW.go_bind,RW.go_up,RW.go_wr,RW.go_pure,F6,Y3,Zl,ZA,Za,Zh]at h;obtain⟨_,⟨_,k,rfl⟩,K⟩:=h;have k:=F7 k;cases K;have I:=y d;obtain⟨O,M⟩:=R.takeObj I r n;obtain⟨J,X⟩:=O.attach (κ:=κ) (Fl.set_eq _ _ _) f (I6 ((st.upd (.h id) (.dead g)) (.h f))+1) (Nat.lt_succ_self _) 0 (.inl U);rw[Fl.set_set,Fl.set_none _ r]at J;obtain⟨⟨a,cap,rfl,t⟩,_,_,H⟩:=l.sl_inv;refine⟨F,D,_,J,M.trans X,fun _ h=>h,U,by simp[L4],(by intro gs e;cases e),.inl ⟨U,U,?_⟩⟩;refine .sl f _ none 0 n _ ⟨a,cap,U,t⟩ ?_ (fun _ _ _ _ _ _ hq=>by cases hq) fun m2 s2 a0 G=> ?_
     ·simp only[St.upds]
      rw[St.upd_eq];exact Zd _
     ·simp only[St.upds]at G
      unfold nodeAt at G;rw[St.upd_eq]at G;simp only[if_true,Zb,Zk]at G;obtain⟨_,rfl,_⟩:=G;rw[Nu.set_eq];exact H _ _ _ d
    ·exact o h
   ·simp only[RW.go_pure,Zb,Zk]at h
    obtain⟨rfl,rfl⟩:=h;obtain⟨⟨a,cap,rfl,_⟩,_⟩:=l.sl_inv;exact same _ U U U (by simp[L4]) (by intro gs e;cases e) U l
  ·split at h
   ·rename_i a1 T
    obtain⟨rfl,rfl,rfl,V⟩:=T;simp only[RW.go_bind,RW.go_up,Za,Zh]at h;obtain⟨_,⟨⟨m',s,es⟩,d,rfl⟩,h⟩:=h;rw[J4]at d;simp only at h;split at h
    ·rename_i B
     subst B;simp only[RW.go_bind,RW.go_up,RW.go_wr,RW.go_pure,F6,Zl,Za,Zh]at h;obtain⟨_,⟨_,k,rfl⟩,K⟩:=h;have k:=F7 k;cases K;have I:=y d;obtain⟨O,M⟩:=R.takeObj I r n;obtain⟨D',S,J⟩:=O.frzFlo L (κ:=κ) (Fl.set_eq _ _ _) (W0 k.2 n);rw[Fl.set_set]at J;obtain⟨⟨a,cap,rfl,t⟩,_,_,H⟩:=l.sl_inv;refine⟨_,D',_,J,M,S,U,by simp[L4],(by intro gs e;cases e),.inr ⟨s,frzL (es.take n),ν id,U,V,U,U,a0m (a4t (W0 k.2 n)),?_⟩⟩;rw[V8,ZH,Nat.min_eq_left k.1];exact H _ _ _ d
    ·exact o h
   ·exact o h
 ·simp at h
end
end Go.Mv
end
