/- What each function of the program gives on the abstract machine, part 1 of 3. Conditions: those in front of each theorem. -/
import Derived.Test.YtjmoceabjajefaaGreatDoorMe
import Derived.Test.YtjmoceabjajefaaGreatDoorChecked
import Derived.KernelRfl
set_option linter.unusedVariables false
set_option linter.unusedSimpArgs false
open Bool renaming and_eq_true→Zy, noConfusion→ZK
open List renaming length_map→Zi, length_append→Zf, length_cons→Ze, length_nil→Zo, length_take→ZH, take_of_length_le→ZB, map→Zw, append_nil→Zm, nil_append→Zj, map_cons→Zz, map_nil→Ya, cons_append→Zp, length_drop→Yp, length_eq_zero_iff→ZW, drop_succ_cons→Yh, drop_zero→ZY, mem_cons_of_mem→Zn, map_append→Yi, getD_eq_getElem?_getD→Zc, length_singleton→Ym, mem_append→ZF, mem_singleton→Ye
open Nat renaming zero_add→ZL, zero_le→Zv, lt_succ_iff_lt_or_eq→Yx, lt_succ_self→ZJ, not_lt_zero→Yz, le_refl→Zd
open Option renaming bind_some→Zl, isSome_iff_exists→ZT
open Option.some renaming injEq→Zb
open Prod.mk renaming injEq→Zk
namespace Go.Proofs.YtjmoceabjajefaaGreatDoor
open Go Go.Mv Go.Proofs
set_option maxRecDepth 100000
set_option maxHeartbeats 20000000
theorem SD:(∀{p:Prop} [Decidable p],(decide p=true)=p)/\(∀{p:Prop} {_:Decidable p},decide p=false↔¬p)/\(∀(b:Bool),((!b)=true)=(b=false))/\(∀(b:Bool),((!b)=false)=(b=true))/\(∀{α:Type} [BEq α] [LawfulBEq α] {a b:α},(a !=b)=true↔a≠b)/\
 (∀{α:Type} [BEq α] [LawfulBEq α] {a b:α},(a==b)=true↔a=b)/\(∀{α:Type} (a b:α),(a≠b)=¬a=b)/\(!true)=false/\(!false)=true/\(∀{α:Type} [BEq α] [LawfulBEq α] {a b:α},(a==b)=false↔a≠b)/\(∀{α:Type} [BEq α] [LawfulBEq α] {a b:α},(a !=b)=false↔a=b)/\
 (∀{p:Prop} [Decidable p],¬¬p↔p)/\(∀{a b:Int},¬a<b↔b<=a)/\(∀{a b:Int},¬a<=b↔b<a):=
 ⟨@decide_eq_true_eq,@decide_eq_false_iff_not,@Bool.not_eq_true',@Bool.not_eq_false',@bne_iff_ne,@beq_iff_eq,@ne_eq,@Bool.not_true,@Bool.not_false,@beq_eq_false_iff_ne,@bne_eq_false_iff_eq,@Decidable.not_not,@Int.not_lt,@Int.not_le⟩
theorem SG:((∀{p:Prop} [Decidable p],(decide p=true)=p)/\(∀{p:Prop} {_:Decidable p},decide p=false↔¬p)/\(∀(b:Bool),((!b)=true)=(b=false))/\(∀(b:Bool),((!b)=false)=(b=true))/\(∀{α:Type} [BEq α] [LawfulBEq α] {a b:α},(a !=b)=true↔a≠b)/\
 (∀{α:Type} [BEq α] [LawfulBEq α] {a b:α},(a==b)=true↔a=b)/\(∀{α:Type} (a b:α),(a≠b)=¬a=b)/\(!true)=false/\(!false)=true/\(∀{α:Type} [BEq α] [LawfulBEq α] {a b:α},(a==b)=false↔a≠b)/\(∀{α:Type} [BEq α] [LawfulBEq α] {a b:α},(a !=b)=false↔a=b)/\
 (∀{p:Prop} [Decidable p],¬¬p↔p)/\(∀{a b:Int},¬a<b↔b<=a)/\(∀{a b:Int},¬a<=b↔b<a))/\
 (∀(a b:Bool),((a&&b)=true)=(a=true/\b=true))/\(∀{x y:Bool},(x&&y)=false↔x=false\/y=false)/\(∀(a b:Bool),((a||b)=true)=(a=true\/b=true))/\(∀{x y:Bool},(x||y)=false↔x=false/\y=false):=
 ⟨SD,@Zy,@Bool.and_eq_false_iff,@Bool.or_eq_true,@Bool.or_eq_false_iff⟩
def e5a(keep:List Nat)(A:Asr):List Mv.Loc->Asr->Option Asr
 |l::ls,B=>match keepLoc keep l,Mv.look A l with
  |true,some a=>e5a keep A ls ((l,a)::B)
  |_,_=>none
 |[],B=>some B
theorem e2c{keep:List Nat}{A:Asr}:∀(ls:List Mv.Loc) {B C:Asr},KeepL keep A B->e5a keep A ls B=some C->KeepL keep A C
 |[],B,C,h,e=>by simp only[e5a,Zb]at e;rw[<-e];exact h
 |l::ls,B,C,h,e=>by
  simp only[e5a]at e;split at e
  ·exact e2c ls (show KeepL keep A ((l,_)::B)from⟨by assumption,by assumption,h⟩) e
  ·cases e
theorem kS(b a:List Nat){keep:List Nat}{A B:Asr}(h:e5a keep A (b.map .t++a.map .h) []=some B):KeepL keep A B:=e2c _ (show KeepL keep A []from trivial) h
section
variable{cx:Cx}{keep:List Nat}{ops0:Array Oper}{r:List Oper}{A:Asr}{Q:Asr->List Log->Prop}
variable{d ty:Nat}{pos:String}{aft:Array Edge}
theorem gT{op:Op}{dst:Option Nat}{g dg:Nat}{want b:Bool}(e:(ops0[g]?).bind (·.dst)=some dg)(c:Mv.look A (.t dg)=some (.val (.bool b)))
 (h:XR cx keep ops0 (⟨dst,op,ty,pos,aft,none⟩::r) A fun a f=>Q a (e2m (.t dg) f)) (hw:b=want:=by assumption):XR cx keep ops0 (⟨dst,op,ty,pos,aft,some (g,want)⟩::r) A Q:=G2 e c hw h
theorem gF{op:Op}{g dg:Nat}{want b:Bool}(e:(ops0[g]?).bind (·.dst)=some dg)(c:Mv.look A (.t dg)=some (.val (.bool b)))
 (h:XR cx keep ops0 r ((.t d,.val (.tuple #[]))::A) fun a f=>Q a (([.t dg],[.t d])::f)) (hw:b= !want:=by assumption):XR cx keep ops0 (⟨some d,op,ty,pos,aft,some (g,want)⟩::r) A Q:=H6 e c hw h
theorem xN{B:Asr}{p:Asr->List Log->Prop}{R:Asr->Prop}(c b:List Nat)(h:e5a keep A (c.map .t++b.map .h) []=some B)(q:R B):
 XR cx keep ops0 [] A (fun a e=>(false=true->p a e)/\∃B,KeepL keep a B/\R B):=G7 ⟨nofun,B,kS c b h,q⟩
theorem xC{G:Type}{k:Nat}{args:Array Operand}{h:Array Nat}{vs av:List AV}{ids:List (Nat×Bool)}{wp b:Ws}{e lb li:List Mv.Loc}{res:AV}{outs:List (List AV)}{v:G->AV}{c:G->Ws}
 (l:opds A args.toList=some vs) (j:a9r (CW cx) A (cx.md k) 0 vs av ids wp e) (i:CW cx k av=some (res,outs))
 (a:(apartIds ids=true/\nodupB ((a2f (cx.md k) 0 vs).map (·.1))=true/\nodupB ((cidAll (cx.md k) 0 av).map (·.1))=true/\av.length<=1000/\a3j av=true)/\
   (ids.all (fun x=>x.2)=true\/(hasList res=false/\outs.any G3=false))/\
   e0f (CW cx) (puts A wp) (a2f (cx.md k) 0 vs) outs b lb/\a7x (CW cx) (puts (puts A wp) b) d res v c li/\
   (∀g,tRefsOk keep (keptWs keep (wp++(b++(c g++[(.t d,v g)]))))=true)/\
   ∀g,XR cx keep ops0 r (K5 A (wp++(b++(c g++[(.t d,v g)])))) fun f m=>Q f ((a3q args.toList++(e++(lb++li)),V5 (wp++(b++(c g++[(.t d,v g)]))))::m)):
 XR cx keep ops0 (⟨some d,.call ⟨.value (.func k),args,h⟩,ty,pos,aft,none⟩::r) A Q:=
 a1h l j i a.1 a.2.1 a.2.2.1 a.2.2.2.1 a.2.2.2.2.1 a.2.2.2.2.2
theorem xC1{k:Nat}{e:Array Nat}{b:Operand}{v1 res:AV}(l:opds A [b]=some [v1])(n:Y7 v1=true)(f:CW cx k [v1]=some (res,[]))
 (a:a2f (cx.md k) 0 [v1]=[]/\nodupB ((cidAll (cx.md k) 0 [v1]).map (·.1))=true/\a3j [v1]=true) (i:L5 res=true) (j:tRefsOk keep (keptWs keep [(.t d,res)])=true)
 (h:∀_:Unit,XR cx keep ops0 r (K5 A [(.t d,res)]) fun c m=>Q c ((a3q [b],[.t d])::m)):XR cx keep ops0 (⟨some d,.call ⟨.value (.func k),#[b],e⟩,ty,pos,aft,none⟩::r) A Q:=
 a1h l (A8 (B1 n) C2) f ⟨U,by rw[a.1];rfl,a.2.1,by simp,a.2.2⟩ (.inl U) (by rw[a.1];exact B2) (C8 i) (fun _=>j) (fun g=>by have:=h g;simpa[V5]using this)
theorem xC2{k:Nat}{f:Array Nat}{b c:Operand}{v1 v2 res:AV}(m:opds A [b,c]=some [v1,v2])(o:Y7 v1=true)(p:Y7 v2=true)(i:CW cx k [v1,v2]=some (res,[]))
 (a:a2f (cx.md k) 0 [v1,v2]=[]/\nodupB ((cidAll (cx.md k) 0 [v1,v2]).map (·.1))=true/\a3j [v1,v2]=true) (j:L5 res=true) (l:tRefsOk keep (keptWs keep [(.t d,res)])=true)
 (h:∀_:Unit,XR cx keep ops0 r (K5 A [(.t d,res)]) fun e n=>Q e ((a3q [b,c],[.t d])::n)):XR cx keep ops0 (⟨some d,.call ⟨.value (.func k),#[b,c],f⟩,ty,pos,aft,none⟩::r) A Q:=
 a1h m (A8 (B1 o) (A8 (B1 p) C2)) i ⟨U,by rw[a.1];rfl,a.2.1,by simp,a.2.2⟩ (.inl U) (by rw[a.1];exact B2) (C8 j) (fun _=>l) (fun g=>by have:=h g;simpa[V5]using this)
theorem xC3{k:Nat}{i:Array Nat}{b c e:Operand}{v1 v2 v3 res:AV}(n:opds A [b,c,e]=some [v1,v2,v3])(p:Y7 v1=true)(q:Y7 v2=true)(s:Y7 v3=true)(j:CW cx k [v1,v2,v3]=some (res,[]))
 (a:a2f (cx.md k) 0 [v1,v2,v3]=[]/\nodupB ((cidAll (cx.md k) 0 [v1,v2,v3]).map (·.1))=true/\a3j [v1,v2,v3]=true) (l:L5 res=true) (m:tRefsOk keep (keptWs keep [(.t d,res)])=true)
 (h:∀_:Unit,XR cx keep ops0 r (K5 A [(.t d,res)]) fun f o=>Q f ((a3q [b,c,e],[.t d])::o)):XR cx keep ops0 (⟨some d,.call ⟨.value (.func k),#[b,c,e],i⟩,ty,pos,aft,none⟩::r) A Q:=
 a1h n (A8 (B1 p) (A8 (B1 q) (A8 (B1 s) C2))) j ⟨U,by rw[a.1];rfl,a.2.1,by simp,a.2.2⟩ (.inl U) (by rw[a.1];exact B2) (C8 l) (fun _=>m) (fun g=>by have:=h g;simpa[V5]using this)
theorem xO{α:Type}{f:α->AV}{xs:List α}{x:Operand}{id g s n:Nat}(l:opd A x=some (.sl id g none 0 n))(k:Mv.look A (.h id)=some (.obj g 0 s (xs.map f)))(j:n=(xs.map f).length)(b:Loc.beq (.h d) (.h id)=false)(e:∀a,M1 (f a)=true)
 (i:∀g,slotOk keep (.t d) (.sl d g none 0 n)=true) (h:∀g',XR cx keep ops0 r ((.t d,.sl d g' none 0 n)::(.h d,.obj g' 0 s (xs.map f))::(.h id,.dead g)::A) fun c m=>Q c ((rds x++[.h id,.h d],[.h id,.h d,.t d])::m)):
 XR cx keep ops0 (⟨some d,.assign x,ty,pos,aft,none⟩::r) A Q:=I9 l k j b (fun _=>B3 (A6 e)) i h
theorem xB{T id g m s:Nat}{a x:Operand}{e v:AV}(k:opd A a=some (.ptr id g none 0 0))(t:opd A x=some v)(p:Mv.look A (.h id)=some (.obj g m s [e]))(o:b6v (leaves e) v=true)
 (l:decide (m≠2/\(leaves v).length=(tyS cx.P T).size/\0<(leaves v).length/\(leaves v).length<=(leaves e).length)=true) (hw:X9 (leaves v) (leaves e)=true) (q:putAt e 0 v=v) (hm:decide (m=3)=true) (n:P1 [v]=true)
 (h:XR cx keep ops0 r ((.h id,.obj g m s [v])::A) fun b u=>Q b ((rds a++(rds x++[.h id,.h id,.h id]),[.h id])::u)):XR cx keep ops0 (⟨none,.store T a x,ty,pos,aft,none⟩::r) A Q:=by
 obtain⟨c,f,i,j⟩:=of_decide_eq_true l;exact c7u k t p o ⟨c,f,i,j,hw⟩ q (by rw[of_decide_eq_true hm];exact H7 n) h
theorem xA{α:Type}{f:α->AV}{xs ys:List α}{T T' E s id g n b g2 m:Nat}{x y:Operand}{z:AV}(B:opd A x=some (.sl id g none 0 n))(C:opd A y=some (.sl b g2 none 0 m))(w:Mv.look A (.h id)=some (.obj g 0 s (xs.map f)))(j:Mv.look A (.h b)=some (.obj g2 0 s (ys.map f)))
 (v:n=(xs.map f).length) (i:m=(ys.map f).length) (e:(decide (1000000<=b)&& !Loc.beq (.h id) (.h b))=true) (p:Q8 cx.P T=some (E,s)) (c:P2 (tyS cx.P T').k=true) (D:a0v cx.P E=some (z,s)) (q:decide ((tyS cx.P E).bytes<=4096)=true) (l:∀a,((leaves (f a)).all cellLeaf&&M1 (f a))=true)
 (hle:xs.length+ys.length<=4294967296) (u:∀g,slotOk keep (.t d) (.sl (tid d 0) g none 0 (xs++ys).length)=true)
 (h:∀g',XR cx keep ops0 r ((.t d,.sl (tid d 0) g' none 0 (xs++ys).length)::(.h (tid d 0),.obj g' 0 s ((xs++ys).map f))::(.h id,.dead g)::(.h b,.dead g2)::A) fun o F=>Q o ((rds x++(rds y++[.h b,.h id,.h (tid d 0)]),[.h b,.h id,.h (tid d 0),.t d])::F)):
 XR cx keep ops0 (⟨some d,.call ⟨.builtin .append,#[x,y],#[T,T']⟩,ty,pos,aft,none⟩::r) A Q:=by
 simp only[Zy,decide_eq_true_eq,Bool.not_eq_true']at e l;exact R5 B C w j v i e.1 e.2 p c D (of_decide_eq_true q) l (Nat.le_trans hle (by decide)) u h
theorem y_M{x:Operand}{v:AV}(e:(opd A x,slotOk keep (.t d) v)=(some v,true))(h:XR cx keep ops0 r ((.t d,v)::A) fun a b=>Q a ((rds x,[.t d])::b)):XR cx keep ops0 (⟨some d,.move x,ty,pos,aft,none⟩::r) A Q:=by
 simp only[Zk]at e;exact f4u e.1 e.2 h
theorem y_S{x:Operand}{v:AV}(e:(opd A x,a5f v,slotOk keep (.t d) v)=(some v,true,true))(h:XR cx keep ops0 r ((.t d,v)::A) fun a b=>Q a ((rds x,[.t d])::b)):XR cx keep ops0 (⟨some d,.assign x,ty,pos,aft,none⟩::r) A Q:=by
 simp only[Zk]at e;exact e9a e.1 e.2.1 e.2.2 h
theorem y_F{x:Operand}{S f o b:Nat}{v a:AV}(e:(opd A x,(match(tyS cx.P S).k with| .struct fs=>fs[f]? |_=>none),decide ((tyS cx.P b).size≠0),(match v with| .ptr id g p i j=>some (AV.ptr id g p i (j+o))| .ipt e j=>some (.ipt e (j+o))|_=>none),slotOk keep (.t d) a)=(some v,some (o,b),true,some a,true))(h:XR cx keep ops0 r ((.t d,a)::A) fun c m=>Q c ((rds x,[.t d])::m)):XR cx keep ops0 (⟨some d,.fieldAddr S x f,ty,pos,aft,none⟩::r) A Q:=by
 simp only[Zk]at e;refine d1v e.1 e.2.1 (of_decide_eq_true e.2.2.1) ?_ e.2.2.2.2 h;have l:=e.2.2.2.1;cases v<;>exact l
theorem y_L{a:Operand}{T id g m s i j:Nat}{es:List AV}{b v:AV}(e:(opd A a,Mv.look A (.h id),es[i]?,((leaves b).all fun l=> !isOwn l),partF cx.P T ((leaves b).drop j),slotOk keep (.t d) v)=(some (.ptr id g none i j),some (.obj g m s es),some b,true,some v,true))(h:XR cx keep ops0 r ((.t d,v)::A) fun c f=>Q c ((rds a++[.h id],[.t d])::f)):XR cx keep ops0 (⟨some d,.load T a,ty,pos,aft,none⟩::r) A Q:=by
 simp only[Zk]at e;exact a7n e.1 e.2.1 e.2.2.1 e.2.2.2.1 e.2.2.2.2.1 e.2.2.2.2.2 h
theorem y_E{x:Operand}{i:Nat}{vs:List AV}{v:AV}(e:(opd A x,vs[i]?,slotOk keep (.t d) v)=(some (.tup vs),some v,true))(h:XR cx keep ops0 r ((.t d,v)::A) fun a b=>Q a ((rds x,[.t d])::b)):XR cx keep ops0 (⟨some d,.extract x i,ty,pos,aft,none⟩::r) A Q:=by
 simp only[Zk]at e;exact e4t e.1 e.2.1 e.2.2 h
theorem y_B{a:Operand}{T id g m s:Nat}{v:AV}(e:(opd A a,Mv.look A (.h id),((leaves v).all fun l=> !isOwn l),partF cx.P T (leaves v),slotOk keep (.t d) v)=(some (.ptr id g none 0 0),some (.obj g m s [v]),true,some v,true))(h:XR cx keep ops0 r ((.t d,v)::A) fun b c=>Q b ((rds a++[.h id],[.t d])::c)):XR cx keep ops0 (⟨some d,.load T a,ty,pos,aft,none⟩::r) A Q:=by
 simp only[Zk]at e;exact d3h e.1 e.2.1 e.2.2.1 e.2.2.2.1 e.2.2.2.2 h
theorem y_I{a:Operand}{T:Nat}{v:AV}(e:(opd A a,partF cx.P T (leaves v),slotOk keep (.t d) v)=(some (.ipt v 0),some v,true))(h:XR cx keep ops0 r ((.t d,v)::A) fun b c=>Q b ((rds a,[.t d])::c)):XR cx keep ops0 (⟨some d,.load T a,ty,pos,aft,none⟩::r) A Q:=by
 simp only[Zk]at e;exact d4l e.1 e.2.1 e.2.2 h
theorem y_A{T s:Nat}{z:AV}(e:(a0v cx.P T,P1 [z],slotOk keep (.t d) (.ptr d 0 none 0 0))=(some (z,s),true,true))(b:∀g,slotOk keep (.t d) (.ptr d g none 0 0)=true)
 (h:∀g,XR cx keep ops0 r ((.t d,.ptr d g none 0 0)::(.h d,.obj g 3 s [z])::A) fun a c=>Q a (([.h d],[.h d,.t d])::c)):XR cx keep ops0 (⟨some d,.alloc T,ty,pos,aft,none⟩::r) A Q:=by
 simp only[Zk]at e;exact f1n e.1 (fun _=>H7 e.2.1) b h
end
theorem SL:(∀{α β:Type} {av:List α} (f:α->β),(av.map f).length=av.length)/\(((∀{p:Prop} [Decidable p],(decide p=true)=p)/\(∀{p:Prop} {_:Decidable p},decide p=false↔¬p)/\(∀(b:Bool),((!b)=true)=(b=false))/\(∀(b:Bool),((!b)=false)=(b=true))/\(∀{α:Type} [BEq α] [LawfulBEq α] {a b:α},(a !=b)=true↔a≠b)/\
 (∀{α:Type} [BEq α] [LawfulBEq α] {a b:α},(a==b)=true↔a=b)/\(∀{α:Type} (a b:α),(a≠b)=¬a=b)/\(!true)=false/\(!false)=true/\(∀{α:Type} [BEq α] [LawfulBEq α] {a b:α},(a==b)=false↔a≠b)/\(∀{α:Type} [BEq α] [LawfulBEq α] {a b:α},(a !=b)=false↔a=b)/\
 (∀{p:Prop} [Decidable p],¬¬p↔p)/\(∀{a b:Int},¬a<b↔b<=a)/\(∀{a b:Int},¬a<=b↔b<a))/\
 (∀(a b:Bool),((a&&b)=true)=(a=true/\b=true))/\(∀{x y:Bool},(x&&y)=false↔x=false\/y=false)/\(∀(a b:Bool),((a||b)=true)=(a=true\/b=true))/\(∀{x y:Bool},(x||y)=false↔x=false/\y=false)):=⟨@Zi.{0,0},SG⟩
theorem LN:(∀{α:Type},([]:List α).length=0)/\(∀{α:Type} {a:α} {l:List α},(a::l).length=l.length+1)/\(∀{α:Type} {a b:List α},(a++b).length=a.length+b.length)/\(∀n:Nat,0+n=n)/\(∀{α β:Type} {l:List α} (f:α->β),(l.map f).length=l.length):=⟨rfl,rfl,Zf,ZL,Zi.{0,0}⟩
theorem dT{p:Prop}[Decidable p](h:decide p=true):p:=of_decide_eq_true h
def mdT:List (Nat×List Nat):=[(12,[0,2]),(14,[3,3,3,3]),(16,[3,3,3,3]),(17,[3,3,3,3]),(18,[3,3,3,3]),(19,[3,3,3,3]),(20,[3,3,3,3]),(21,[3,3,3,3]),(22,[3,3,3,3]),(27,[3,3,3,3]),(52,[3,3,3,3]),(55,[3,3,3,3]),(56,[3,3,3,3]),(69,[3,3,3,3]),(91,[3,3,3,3]),(95,[3,3,3,3]),(96,[3,3,3,3]),(117,[3,3,3,3]),(123,[3,3,3,3]),(125,[2]),(133,[1]),(134,[1]),(136,[2]),(143,[1]),(160,[1]),(179,[1])]
noncomputable def f5j:List (Nat×(List AV->Option (AV×List (List AV)))):=[(42,d7a),(46,b7o),(83,c6z),(122,b9e),(132,b2w),(133,b7v),(184,c9l),(185,c7d),(186,c8l)]
variable{oG:Option Nat}{rG:Nat}
noncomputable def cxT(oG:Option Nat):Cx:={P:=Tryz.prog,md:=f6g mdT,ext:=e2w f5j,it:=fun _=>none,fz:=fun k=>[22,27,52,55,56,69,95,96,117,123].contains k,fzB:=fun T d=>[(53,58),(32,57),(32,26),(32,80)].contains (T,d),gl:=fun g=>match oG with|some r=>if g=1 then some (.val (.map (some r)))else none|none=>none,mp:=fun k=>match oG with|some r=>if k=r then some goneTb else none|none=>none}
noncomputable def cxE:Cx:={P:=Tryz.prog,md:=f6g mdT,ext:=fun _=>none,fz:=fun k=>[22,27,52,55,56,69,95,96,117,123].contains k}
theorem f6y(l:List UInt8)(b:UInt8)(a:l.length<4294967281):CW (cxT oG) 42 [tV l,tV [b]]=some (.tup [tV (kdC b l),tV (rsC b l),bV (decide ((kdC b l).length<l.length))],[]):=a3u (cxT oG) rfl (by show(if l.length<4294967281 then some ((AV.tup [tV (kdC b l),tV (rsC b l),bV (decide ((kdC b l).length<l.length))],[]):AV×List (List AV))else none)=_;rw[if_pos a])
theorem b1a(n:Int)(h: -9223372036854775808<=n/\n<=9223372036854775807):CW (cxT oG) 46 [iV n]=some (tV (dec n),[]):=a3u (cxT oG) rfl (by simp[b7o,h])
theorem e0c(ps:List (List UInt8))(b:UInt8)(a:ps.length<=H0)(c:(joinB b ps).length<=H0):CW (cxT oG) 83 [.list (ps.map tV),tV [b]]=some (tV (joinB b ps),[]):=a3u (cxT oG) rfl (by show((unT (ps.map tV)).bind fun ps=>if ps.length<=H0/\(joinB b ps).length<=H0 then some ((tV (joinB b ps),[]):AV×List (List AV))else none)=_;rw[e2g,Zl,if_pos ⟨a,c⟩])
theorem d1c(l:List UInt8)(b:UInt8)(a:l.length<4294967281):CW (cxT oG) 122 [tV l,tV [b]]=some (.own 1 ((splitB b l).map tV),[]):=a3u (cxT oG) rfl (by show(if l.length<4294967281 then some ((AV.own 1 ((splitB b l).map tV),[]):AV×List (List AV))else none)=_;rw[if_pos a])
theorem d1f(xs:List Int)(a:xs.length<=H0):CW (cxT oG) 132 [.list (xs.map iV)]=some (.own 1 (xs.map iV),[]):=a3u (cxT oG) rfl (by simp[b2w,e2l,a])
theorem e7a(xs:List Int)(a:xs.length<=H0):CW (cxT oG) 133 [.own 1 (xs.map iV)]=some (.tup [],[(T3 xs).map iV]):=a3u (cxT oG) rfl (by simp[b7v,e2l,a])
theorem f4r(l:List UInt8)(b:UInt8):CW (cxT oG) 184 [tV l,tV [b]]=some (.tup [tV (a6w b l),bV (decide (l.head? =some b))],[]):=a3u (cxT oG) rfl rfl
theorem f4s(l:List UInt8)(b:UInt8)(a:l.length<4294967281):CW (cxT oG) 185 [tV l,tV [b]]=some (.tup [tV (c3q b l),bV (decide (l.getLast? =some b))],[]):=a3u (cxT oG) rfl (by show(if l.length<4294967281 then some ((AV.tup [tV (c3q b l),bV (decide (l.getLast? =some b))],[]):AV×List (List AV))else none)=_;rw[if_pos a])
theorem d8b(l:List UInt8)(a:l.length<4294967281):CW (cxT oG) 186 [tV l]=some (atR l,[]):=a3u (cxT oG) rfl (by show(if l.length<4294967281 then some ((atR l,[]):AV×List (List AV))else none)=_;rw[if_pos a])
theorem c0m:D9 Tryz.f54=[0,1,2,6]:=by kernel_rfl
theorem a1f(n c b:Int):CW (cxT oG) 54 [iV n,iV c,iV b]=some (bV (decide (c<=n)&&decide (n<=b)),[]):=by
 refine C7 U Tryz.func54 U ⟨by kernel_rfl,U,dT U,dT U,by decide⟩ c0m<|A3<|A0<|y_S U<|xN [0,1,2] [] U<|A3<|A0<|y_M U<|y_M U<|a2q U U<|y_M U ?_
 refine D5 U U ?_ ?_<;>intro a<;>have e:=a<;>try simp only[SG]at e
 ·refine y_M U<|gT U U<|y_M U<|gT U U<|a2q U U<|F0 U (by assumption) U U<|y_S U<|xN [6] [] U<|A9<|C4 U U trivial ?_
  simp_all[ofConst];try omega
 refine gF U U<|gF U U<|E8 U (by assumption) U U<|y_S U<|xN [6] [] U<|A9<|C4 U U trivial ?_
 simp_all[ofConst];try omega
theorem e4p:D9 Tryz.f106=[0,1,2,6]:=by kernel_rfl
theorem f4t(n c b:Int):CW (cxT oG) 106 [iV n,iV c,iV b]=some (bV (decide (c<=n)&&decide (n<=b)),[]):=by
 refine C7 U Tryz.func106 U ⟨by kernel_rfl,U,dT U,dT U,by decide⟩ e4p<|A3<|A0<|y_S U<|xN [0,1,2] [] U<|A3<|A0<|y_M U<|y_M U<|c0r U U<|y_M U ?_
 refine D5 U U ?_ ?_<;>intro a<;>have e:=a<;>try simp only[SG]at e
 ·refine y_M U<|gT U U<|y_M U<|gT U U<|a2q U U<|F0 U (by assumption) U U<|y_S U<|xN [6] [] U<|A9<|C4 U U trivial ?_
  simp_all[ofConst];try omega
 refine gF U U<|gF U U<|E8 U (by assumption) U U<|y_S U<|xN [6] [] U<|A9<|C4 U U trivial ?_
 simp_all[ofConst];try omega
theorem b2k:D9 Tryz.f137=[0,1,4,8,7,9,5,16]:=by kernel_rfl
theorem c8k(xs:List Int)(n:xs.length<=1000)(k:Nat)(a b:AV)(q:Int->Bool)(hq:∀x,CW (cxT oG) k [iV x,.ipt a 0,.ipt b 0]=some (bV (q x),[])):∃res outs,(fun res outs=>∃r:Int,res=iV r/\outs=[]/\decide (0<=r)=xs.any q) res outs/\CW (cxT oG) 137 [L xs,.clo k [.ipt a 0,.ipt b 0]]=some (res,outs):=by
 refine M3 U Tryz.func137 U ⟨by kernel_rfl,U,dT U,dT U,by decide⟩ b2k<|A3<|A0<|y_S U<|xN [0,1] [] U<|A3<|A3<|A0<|y_M U<|B8 U U<|y_M U<|xN [0,1,7,8] [] U<|B0<|D8 (β:=Nat) [(.t 0,_),(.t 1,_),(.t 7,_)] (fun(i:Nat)=>[(.t 8,iV i)]) (fun(i:Nat)=>i<=xs.length/\∀j,j<i->q (xs.getD j default)=false) (fun(i:Nat)=>xs.length-i) 0 ⟨U,U,U,U,trivial⟩ ⟨Zv _,fun j h=>by omega⟩ ?_
 intro i g;obtain⟨l,e⟩:=g;refine A3<|A0<|F4 U U<|xN [0,1,7,8,9] [] U<|A3 ?_
 refine A4 U ?_ ?_<;>intro c<;>try simp only[SL]at c
 ·refine A7<|A3<|B0<|A3<|A0<|y_M U<|y_S U<|xN [0,1,5,7,8] [] U<|A3<|A0<|y_M U<|y_M U<|y_M U<|B7 U U U (fun _=>U) (by omega)<|y_I U ?_
  apply d1h U U
  ·apply A8
   ·exact B1 U
   apply A8
   ·exact B1 U
   apply A8
   ·exact B1 U
   exact C2
  ·exact hq (xs.getD i default)
  ·exact⟨U,U,U,dT U,U⟩
  ·exact .inl U
  ·exact B2
  ·exact C8 U
  ·exact fun _=>U
  intro g16;refine xN [0,1,5,7,8,16] [] U ?_;refine A4 U ?_ ?_<;>intro c<;>try simp only[SL]at c
  ·refine A3<|A0<|y_M U<|y_S U<|xN [4] [] U<|A9 ?_
   refine⟨_,_,?_,J1 U U B5⟩;exact⟨_,U,U,f1i (by omega) c⟩
  refine A7<|A0<|D7 U U (B9 (by omega))<|y_M U<|xN [0,1,7,8] [] U ?_
  refine⟨i+1,⟨by omega,fun a f=>by rcases Yx.1 f with h|h;exact e a h;subst h;exact c⟩,(by omega),⟨U,U,U,U,trivial⟩⟩
 refine D6<|A3<|A0<|y_S U<|xN [4] [] U<|A9 ?_
 refine⟨_,_,?_,J1 U U B5⟩;exact⟨-1,U,U,e6r fun j m=>e j (by omega)⟩
theorem a8p:D9 Tryz.f104=[0,1,4]:=by kernel_rfl
theorem b6n(xs:List Int)(e:xs.length<=1000)(k:Nat)(a b:AV)(q:Int->Bool)(hq:∀x,CW (cxT oG) k [iV x,.ipt a 0,.ipt b 0]=some (bV (q x),[])):CW (cxT oG) 104 [L xs,.clo k [.ipt a 0,.ipt b 0]]=some (bV (xs.any q),[]):=by
 obtain⟨_,_,⟨r,rfl,rfl,f⟩,c⟩:=c8k (oG:=oG) xs e k a b q hq;refine C7 U Tryz.func104 U ⟨by kernel_rfl,U,dT U,dT U,by decide⟩ a8p<|A3<|A0<|y_S U<|xN [0,1] [] U<|A3<|A0<|y_M U<|y_M U ?_
 apply xC U
 ·apply A8
  ·exact B1 U
  apply A8
  ·exact c2s U (c9z (c9z c0a))
  exact C2
 ·exact c
 refine⟨⟨U,U,U,dT U,U⟩,.inl U,B2,C8 U,fun _=>U,fun g7=> ?_⟩;refine c0r U U<|y_S U<|xN [4] [] U<|A9<|C4 U U trivial ?_
 rw[<-f]
theorem c3x:D9 Tryz.f105=[0,1,2,4]:=by kernel_rfl
theorem e8i(x b a:Int):CW (cxT oG) 105 [iV x,.ipt (iV b) 0,.ipt (iV a) 0]=some (bV (!(decide (b<=x)&&decide (x<=a))),[]):=by
 refine C7 U Tryz.func105 U ⟨by kernel_rfl,U,dT U,dT U,by decide⟩ c3x<|A3<|A0<|y_S U<|xN [0,1,2] [] U<|A3<|A0<|y_M U<|y_I U<|y_I U ?_
 refine xC3 U U U U (f4t _ _ _) ⟨U,U,U⟩ U U fun g8=> ?_
 refine H8 U<|y_S U<|xN [4] [] U<|A9<|C4 U U trivial ?_
 rfl
theorem c7v:D9 Tryz.f76=[0,1,2,6,4,5]:=by kernel_rfl
theorem b2z(xs:List Int)(c:xs.length<=1000)(b a:Int):CW (cxT oG) 76 [L xs,iV b,iV a]=some (bV (a1c b a xs),[]):=by
 refine C7 U Tryz.func76 U ⟨by kernel_rfl,U,dT U,dT U,by decide⟩ c7v<|A3<|A0<|P3 U U U (fun _=>H7 U) (fun _=>U) ?_
 intro g4;refine P3 U U U (fun _=>H7 U) (fun _=>U) ?_;intro g5;refine y_S U<|xN [0,4,5] [4,5] U<|A3<|A0<|y_M U<|b8v U U ?_
 apply xC U
 ·apply A8
  ·exact B1 U
  apply A8
  ·exact c2s U (d8r U U (d8r U U c0a))
  exact C2
 ·exact b6n xs c 105 (iV b) (iV a) _ (fun x=>e8i x b a)
 refine⟨⟨U,U,U,dT U,U⟩,.inr ⟨U,U⟩,B2,C8 U,fun _=>U,fun g9=> ?_⟩;refine H8 U<|y_S U<|xN [6] [] U<|A9<|C4 U U trivial ?_
 exact congrArg bV (e6v b a xs)
theorem b4s:D9 Tryz.f24=[0,2,3,7,15]:=by kernel_rfl
theorem a0d(xs:List Int)(g:xs.length<=1048576):CW (cxT oG) 24 [L xs]=some (bV (vd xs),[]):=by
 refine C7 U Tryz.func24 U ⟨by kernel_rfl,U,dT U,dT U,by decide⟩ b4s<|A3<|A0<|y_S U<|xN [0] [] U<|A3<|A3<|A0<|y_S U<|xN [0,3] [] U<|B0<|D8 (β:=Nat) [(.t 0,_)] (fun(i:Nat)=>[(.t 3,iV i)]) (fun(i:Nat)=>i<=xs.length/\∀j,j<i->-200<=xs.getD j default/\xs.getD j default<=200) (fun(i:Nat)=>xs.length-i) 0 ⟨U,U,trivial⟩ ⟨Zv _,fun j h=>by omega⟩ ?_
 intro i e;obtain⟨f,a⟩:=e;refine A3<|A3<|A0<|y_M U<|y_M U<|B8 U U<|F4 U U<|xN [0,3,7] [] U ?_
 refine A4 U ?_ ?_<;>intro b<;>try simp only[SL]at b
 ·refine A7<|A3<|B0<|A3<|A0<|y_M U<|y_M U<|B7 U U U (fun _=>U) (by omega)<|y_I U ?_
  refine xC3 U U U U (a1f _ _ _) ⟨U,U,U⟩ U U fun g14=> ?_
  refine H8 U<|xN [0,3,15] [] U ?_
  refine A4 U ?_ ?_<;>intro b<;>try simp only[SL]at b
  ·refine A3<|A0<|y_S U<|xN [2] [] U<|A9<|C4 U U trivial ?_
   rw[vd,d3r (show i<xs.length by omega) (by(simp_all;omega)),Bool.and_false]
   rfl
  refine A7<|A0<|y_M U<|D7 U U (B9 (by omega))<|y_S U<|xN [0,3] [] U ?_
  refine⟨i+1,⟨by omega,fun j c=>by rcases Yx.1 c with h|h;(·exact a j h);(·subst h;assumption)⟩,(by omega),⟨U,U,trivial⟩⟩
 refine D6<|A3<|A0<|y_M U<|B8 U U<|a2q U U<|y_S U<|xN [2] [] U<|A9<|C4 U U trivial ?_
 rw[vd,e1y fun j c=>a j (by omega),Bool.and_true];exact congrArg bV (decide_eq_decide.2 (by omega))
theorem b1o:D9 Tryz.f49=[0,2]:=by kernel_rfl
theorem T6(xs:List Int)(e:xs.length<=1048576):CW (cxT oG) 49 [L xs]=some (bV (vd xs),[]):=by
 refine C7 U Tryz.func49 U ⟨by kernel_rfl,U,dT U,dT U,by decide⟩ b1o<|A3<|A0<|y_S U<|xN [0] [] U<|A3<|A0<|y_M U<|B8 U U<|a2q U U<|y_M U ?_
 refine D5 U U ?_ ?_<;>intro a<;>have c:=a<;>try simp only[SG]at c
 ·refine y_M U<|gT U U ?_
  refine xC3 U U U U (b2z xs (by omega) (-200) 200) ⟨U,U,U⟩ U U fun g8=> ?_
  refine F0 U (by assumption) U U<|y_S U<|xN [2] [] U<|A9<|C4 U U trivial ?_
  cases b:a1c (-200) 200 xs<;>simp_all[vd,ofConst]<;>omega
 refine gF U U<|E8 U (by assumption) U U<|y_S U<|xN [2] [] U<|A9<|C4 U U trivial ?_
 cases b:a1c (-200) 200 xs<;>simp_all[vd,ofConst]<;>omega
theorem d0m:D9 Tryz.f150=[0,2,3,4,10,19]:=by kernel_rfl
theorem b2s(w:ByteArray):CW (cxT oG) 150 [sV w]=some (iV (nd w),[]):=by
 refine C7 U Tryz.func150 U ⟨by kernel_rfl,U,dT U,dT U,by decide⟩ d0m<|A3<|A0<|y_S U<|xN [0] [] U<|A3<|A3<|A0<|y_M U<|xN [3] [] U<|B0<|A3<|A3<|A0<|K0 U U<|y_S U<|xN [3,4] [] U ?_
 refine A4 U ?_ ?_<;>intro a<;>try simp only[SL]at a
 ·refine A7 ?_
  refine A4 U (fun a=> ?_) (fun a=>absurd a (by simp_all));refine A3<|A0<|y_S U<|xN [2] [] U<|A9<|C4 U U trivial<|congrArg iV ?_
  simp_all[nd]
 refine A3<|A0<|K0 U U<|y_S U<|xN [3,4] [] U ?_
 refine A4 U ?_ ?_<;>intro a<;>try simp only[SL]at a
 ·refine A7 ?_
  refine A4 U (fun a=> ?_) (fun a=>absurd a (by simp_all));refine A3<|A0<|y_S U<|xN [2] [] U<|A9<|C4 U U trivial<|congrArg iV ?_
  simp_all[nd]
 refine A3<|A0<|K0 U U<|y_S U<|xN [3,4] [] U ?_
 refine A4 U ?_ ?_<;>intro a<;>try simp only[SL]at a
 ·refine A7 ?_
  refine A4 U (fun a=> ?_) (fun a=>absurd a (by simp_all));refine A3<|A0<|y_S U<|xN [2] [] U<|A9<|C4 U U trivial<|congrArg iV ?_
  simp_all[nd]
 refine A3<|A0<|K0 U U<|y_S U<|xN [3,4] [] U ?_
 refine A4 U ?_ ?_<;>intro a<;>try simp only[SL]at a
 ·refine A7 ?_
  refine A4 U (fun a=> ?_) (fun a=>absurd a (by simp_all));refine A3<|A0<|y_S U<|xN [2] [] U<|A9<|C4 U U trivial<|congrArg iV ?_
  simp_all[nd]
 refine A0<|K0 U U<|y_S U<|xN [3,4] [] U ?_
 refine A4 U ?_ ?_<;>intro a<;>try simp only[SL]at a
 ·refine A3<|A0<|y_S U<|xN [2] [] U<|A9<|C4 U U trivial<|congrArg iV ?_
  simp_all[nd]
 refine A3<|A3<|A0<|K0 U U<|y_S U<|xN [3,10] [] U ?_
 refine A4 U ?_ ?_<;>intro a<;>try simp only[SL]at a
 ·refine A7 ?_
  refine A4 U (fun a=> ?_) (fun a=>absurd a (by simp_all));refine A3<|A0<|y_S U<|xN [2] [] U<|A9<|C4 U U trivial<|congrArg iV ?_
  simp_all[nd]
 refine A3<|A0<|K0 U U<|y_S U<|xN [3,10] [] U ?_
 refine A4 U ?_ ?_<;>intro a<;>try simp only[SL]at a
 ·refine A7 ?_
  refine A4 U (fun a=> ?_) (fun a=>absurd a (by simp_all));refine A3<|A0<|y_S U<|xN [2] [] U<|A9<|C4 U U trivial<|congrArg iV ?_
  simp_all[nd]
 refine A3<|A0<|K0 U U<|y_S U<|xN [3,10] [] U ?_
 refine A4 U ?_ ?_<;>intro a<;>try simp only[SL]at a
 ·refine A7 ?_
  refine A4 U (fun a=> ?_) (fun a=>absurd a (by simp_all));refine A3<|A0<|y_S U<|xN [2] [] U<|A9<|C4 U U trivial<|congrArg iV ?_
  simp_all[nd]
 refine A3<|A0<|K0 U U<|y_S U<|xN [3,10] [] U ?_
 refine A4 U ?_ ?_<;>intro a<;>try simp only[SL]at a
 ·refine A7 ?_
  refine A4 U (fun a=> ?_) (fun a=>absurd a (by simp_all));refine A3<|A0<|y_S U<|xN [2] [] U<|A9<|C4 U U trivial<|congrArg iV ?_
  simp_all[nd]
 refine A3<|A0<|K0 U U<|y_S U<|xN [3,10] [] U ?_
 refine A4 U ?_ ?_<;>intro a<;>try simp only[SL]at a
 ·refine A7 ?_
  refine A4 U (fun a=> ?_) (fun a=>absurd a (by simp_all));refine A3<|A0<|y_S U<|xN [2] [] U<|A9<|C4 U U trivial<|congrArg iV ?_
  simp_all[nd]
 refine A3<|A0<|K0 U U<|y_S U<|xN [3,10] [] U ?_
 refine A4 U ?_ ?_<;>intro a<;>try simp only[SL]at a
 ·refine A7 ?_
  refine A4 U (fun a=> ?_) (fun a=>absurd a (by simp_all));refine A3<|A0<|y_S U<|xN [2] [] U<|A9<|C4 U U trivial<|congrArg iV ?_
  simp_all[nd]
 refine A3<|A0<|K0 U U<|y_S U<|xN [3,10] [] U ?_
 refine A4 U ?_ ?_<;>intro a<;>try simp only[SL]at a
 ·refine A7 ?_
  refine A4 U (fun a=> ?_) (fun a=>absurd a (by simp_all));refine A3<|A0<|y_S U<|xN [2] [] U<|A9<|C4 U U trivial<|congrArg iV ?_
  simp_all[nd]
 refine A0<|K0 U U<|y_S U<|xN [3,10] [] U ?_
 refine A4 U ?_ ?_<;>intro a<;>try simp only[SL]at a
 ·refine A3<|A0<|y_S U<|xN [2] [] U<|A9<|C4 U U trivial<|congrArg iV ?_
  simp_all[nd]
 refine A3<|A3<|A0<|K0 U U<|y_S U<|xN [3,19] [] U ?_
 refine A4 U ?_ ?_<;>intro a<;>try simp only[SL]at a
 ·refine A7 ?_
  refine A4 U (fun a=> ?_) (fun a=>absurd a (by simp_all));refine A3<|A0<|y_S U<|xN [2] [] U<|A9<|C4 U U trivial<|congrArg iV ?_
  simp_all[nd]
 refine A0<|K0 U U<|y_S U<|xN [19] [] U ?_
 refine A4 U ?_ ?_<;>intro a<;>try simp only[SL]at a
 ·refine A3<|A0<|y_S U<|xN [2] [] U<|A9<|C4 U U trivial<|congrArg iV ?_
  simp_all[nd]
 refine A7<|A3<|A0<|y_S U<|xN [2] [] U<|A9<|C4 U U trivial<|congrArg iV ?_
 simp_all[nd]
theorem b9h:D9 Tryz.f87=[0,2,3,4,13,16]:=by kernel_rfl
theorem e5b(w:ByteArray):CW (cxT oG) 87 [sV w]=some (iV (rch w),[]):=by
 refine C7 U Tryz.func87 U ⟨by kernel_rfl,U,dT U,dT U,by decide⟩ b9h<|A3<|A0<|y_S U<|xN [0] [] U<|A3<|A3<|A0<|y_M U<|xN [3] [] U<|B0<|A3<|A3<|A0<|K0 U U<|y_S U<|xN [3,4] [] U ?_
 refine A4 U ?_ ?_<;>intro a<;>try simp only[SL]at a
 ·refine A7 ?_
  refine A4 U (fun a=> ?_) (fun a=>absurd a (by simp_all));refine A3<|A0<|y_S U<|xN [2] [] U<|A9<|C4 U U trivial<|congrArg iV ?_
  simp_all[rch]
 refine A3<|A0<|K0 U U<|y_S U<|xN [3,4] [] U ?_
 refine A4 U ?_ ?_<;>intro a<;>try simp only[SL]at a
 ·refine A7 ?_
  refine A4 U (fun a=> ?_) (fun a=>absurd a (by simp_all));refine A3<|A0<|y_S U<|xN [2] [] U<|A9<|C4 U U trivial<|congrArg iV ?_
  simp_all[rch]
 refine A3<|A0<|K0 U U<|y_S U<|xN [3,4] [] U ?_
 refine A4 U ?_ ?_<;>intro a<;>try simp only[SL]at a
 ·refine A7 ?_
  refine A4 U (fun a=> ?_) (fun a=>absurd a (by simp_all));refine A3<|A0<|y_S U<|xN [2] [] U<|A9<|C4 U U trivial<|congrArg iV ?_
  simp_all[rch]
 refine A3<|A0<|K0 U U<|y_S U<|xN [3,4] [] U ?_
 refine A4 U ?_ ?_<;>intro a<;>try simp only[SL]at a
 ·refine A7 ?_
  refine A4 U (fun a=> ?_) (fun a=>absurd a (by simp_all));refine A3<|A0<|y_S U<|xN [2] [] U<|A9<|C4 U U trivial<|congrArg iV ?_
  simp_all[rch]
 refine A3<|A0<|K0 U U<|y_S U<|xN [3,4] [] U ?_
 refine A4 U ?_ ?_<;>intro a<;>try simp only[SL]at a
 ·refine A7 ?_
  refine A4 U (fun a=> ?_) (fun a=>absurd a (by simp_all));refine A3<|A0<|y_S U<|xN [2] [] U<|A9<|C4 U U trivial<|congrArg iV ?_
  simp_all[rch]
 refine A3<|A0<|K0 U U<|y_S U<|xN [3,4] [] U ?_
 refine A4 U ?_ ?_<;>intro a<;>try simp only[SL]at a
 ·refine A7 ?_
  refine A4 U (fun a=> ?_) (fun a=>absurd a (by simp_all));refine A3<|A0<|y_S U<|xN [2] [] U<|A9<|C4 U U trivial<|congrArg iV ?_
  simp_all[rch]
 refine A3<|A0<|K0 U U<|y_S U<|xN [3,4] [] U ?_
 refine A4 U ?_ ?_<;>intro a<;>try simp only[SL]at a
 ·refine A7 ?_
  refine A4 U (fun a=> ?_) (fun a=>absurd a (by simp_all));refine A3<|A0<|y_S U<|xN [2] [] U<|A9<|C4 U U trivial<|congrArg iV ?_
  simp_all[rch]
 refine A0<|K0 U U<|y_S U<|xN [3,4] [] U ?_
 refine A4 U ?_ ?_<;>intro a<;>try simp only[SL]at a
 ·refine A3<|A0<|y_S U<|xN [2] [] U<|A9<|C4 U U trivial<|congrArg iV ?_
  simp_all[rch]
 refine A3<|A3<|A0<|K0 U U<|y_S U<|xN [3,13] [] U ?_
 refine A4 U ?_ ?_<;>intro a<;>try simp only[SL]at a
 ·refine A7 ?_
  refine A4 U (fun a=> ?_) (fun a=>absurd a (by simp_all));refine A3<|A0<|y_S U<|xN [2] [] U<|A9<|C4 U U trivial<|congrArg iV ?_
  simp_all[rch]
 refine A0<|K0 U U<|y_S U<|xN [3,13] [] U ?_
 refine A4 U ?_ ?_<;>intro a<;>try simp only[SL]at a
 ·refine A3<|A0<|y_S U<|xN [2] [] U<|A9<|C4 U U trivial<|congrArg iV ?_
  simp_all[rch]
 refine A3<|A3<|A0<|K0 U U<|y_S U<|xN [3,16] [] U ?_
 refine A4 U ?_ ?_<;>intro a<;>try simp only[SL]at a
 ·refine A7 ?_
  refine A4 U (fun a=> ?_) (fun a=>absurd a (by simp_all));refine A3<|A0<|y_S U<|xN [2] [] U<|A9<|C4 U U trivial<|congrArg iV ?_
  simp_all[rch]
 refine A3<|A0<|K0 U U<|y_S U<|xN [3,16] [] U ?_
 refine A4 U ?_ ?_<;>intro a<;>try simp only[SL]at a
 ·refine A7 ?_
  refine A4 U (fun a=> ?_) (fun a=>absurd a (by simp_all));refine A3<|A0<|y_S U<|xN [2] [] U<|A9<|C4 U U trivial<|congrArg iV ?_
  simp_all[rch]
 refine A3<|A0<|K0 U U<|y_S U<|xN [3,16] [] U ?_
 refine A4 U ?_ ?_<;>intro a<;>try simp only[SL]at a
 ·refine A7 ?_
  refine A4 U (fun a=> ?_) (fun a=>absurd a (by simp_all));refine A3<|A0<|y_S U<|xN [2] [] U<|A9<|C4 U U trivial<|congrArg iV ?_
  simp_all[rch]
 refine A0<|K0 U U<|y_S U<|xN [16] [] U ?_
 refine A4 U ?_ ?_<;>intro a<;>try simp only[SL]at a
 ·refine A3<|A0<|y_S U<|xN [2] [] U<|A9<|C4 U U trivial<|congrArg iV ?_
  simp_all[rch]
 refine A7<|A3<|A0<|y_S U<|xN [2] [] U<|A9<|C4 U U trivial<|congrArg iV ?_
 simp_all[rch]
theorem c3i:D9 Tryz.f28=[0,2,4,10]:=by kernel_rfl
theorem U1(n:Int)(j: -1000000<=n/\n<=1000000):CW (cxT oG) 28 [iV n]=some (tV (dec n),[]):=by
 obtain⟨c,a⟩:∃c:Nat,2*n.natAbs+(if n<0 then 1 else 0)<c:=⟨_,ZJ _⟩;revert n
 induction c with
 |zero=>intro n j a;exact absurd a (Yz _)
 |succ c f=>
  intro n j a;refine C7 U Tryz.func28 U ⟨by kernel_rfl,U,dT U,dT U,by decide⟩ c3i<|A3<|A0<|y_S U<|xN [0] [] U<|A3<|A3<|A0<|y_M U<|F4 U U<|xN [0,4] [] U ?_
  refine A4 U ?_ ?_<;>intro e<;>try simp only[SL]at e
  ·refine A3<|A0<|y_M U<|a4z U (B9 (by omega)) ?_
   have k:=M5 (m:= -n) (by omega);refine xC1 U U (f (-n) (by omega) (by split at a<;>split<;>omega)) ⟨U,U,U⟩ U U fun g7=> ?_
   refine J9 U U (by simp only[H0,Zf,Ze,Zo];omega)<|y_S U<|xN [2] [] U<|A9<|C4 U U trivial ?_
   exact congrArg tV (f3h (by assumption)).symm
  refine A7<|A3<|A3<|A0<|y_M U<|F4 U U<|xN [0,10] [] U ?_
  refine A4 U ?_ ?_<;>intro e<;>try simp only[SL]at e
  ·refine A3<|A0<|y_M U<|y_M U<|D7 U U (B9 (by omega))<|Q7 U U (T2 U (by omega)) (T2 U (by omega)) (by(simp;omega))<|y_S U<|xN [2] [] U<|A9<|C4 U U trivial ?_
   rw[f3x (by omega)]
  refine A7<|A3<|A0<|y_M U ?_
  have b:n.tdiv 10=n/10:=Int.tdiv_eq_ediv_of_nonneg (by omega);refine a1a U U ⟨by omega,B9 (by omega)⟩ ?_;have b:n.tdiv 10=n/10:=Int.tdiv_eq_ediv_of_nonneg (by omega);have g:=M5 (m:=n.tdiv 10) (by omega);refine xC1 U U (f (n.tdiv 10) (by omega) (by split at a<;>split<;>omega)) ⟨U,U,U⟩ U U fun g17=> ?_
  refine y_M U<|b8t U U (by omega) ?_
  have i:n.tmod 10=n%10:=Int.tmod_eq_emod_of_nonneg (by omega);have h:=M5 (m:=n.tmod 10) (by omega);refine xC1 U U (f (n.tmod 10) (by omega) (by split at a<;>split<;>omega)) ⟨U,U,U⟩ U U fun g20=> ?_
  refine J9 U U (by simp only[H0,Zf,Ze,Zo];omega)<|y_S U<|xN [2] [] U<|A9<|C4 U U trivial ?_
  rw[<-f5m (by omega)]
theorem b6t:D9 Tryz.f30=[0,2,4,8,12,3]:=by kernel_rfl
theorem a3v(ns:List Int)(o:ns.length<=1000000)(c:∀n∈ns,-1000000<=n/\n<=1000000):CW (cxT oG) 30 [L ns]=some (tV (P0 ns),[]):=by
 have j:=fun(i:Nat) (h:i<ns.length)=>c _ (N3 h)
 refine C7 U Tryz.func30 U ⟨by kernel_rfl,U,dT U,dT U,by decide⟩ b6t<|A3<|A0<|y_S U<|xN [0] [] U<|A3<|A0<|y_S U<|xN [0,3] [] U<|A3<|A3<|A0<|y_S U<|xN [0,3,4] [] U<|B0<|D8 (β:=Nat) [(.t 0,_)] (fun(i:Nat)=>[(.t 4,iV i),(.t 3,tV (P0 (ns.take i)))]) (fun(i:Nat)=>i<=ns.length) (fun(i:Nat)=>ns.length-i) 0 ⟨U,U,U,trivial⟩ (Zv _) ?_
 intro i k;have l:=k;have g:=U5 (ns:=ns.take i) (fun n m=>c n (List.mem_of_mem_take m));rw[ZH]at g;refine A3<|A3<|A0<|y_M U<|y_M U<|B8 U U<|F4 U U<|xN [0,3,4,8] [] U ?_
 refine A4 U ?_ ?_<;>intro e<;>try simp only[SL]at e
 ·refine A7<|A3<|B0<|A3<|A3<|A0<|y_M U<|M0 U U<|xN [0,3,4,12] [] U ?_
  refine A4 U ?_ ?_<;>intro e<;>try simp only[SL]at e
  ·have b:0<i:=by omega
   refine A0<|y_M U<|J9 U U (by simp only[H0,Zf,Ze,Zo];omega)<|y_S U<|xN [0,3,4] [] U<|A0<|y_M U<|y_M U<|y_M U<|B7 U U U (fun _=>U) (by omega)<|y_I U ?_
   have a:=j i (by omega);have f:=M5 a;refine xC1 U U (U1 (ns.getD i default) a) ⟨U,U,U⟩ U U fun g20=> ?_
   refine J9 U U (by simp only[H0,Zf,Ze,Zo];omega)<|y_S U<|xN [0,3,4] [] U<|A0<|y_M U<|D7 U U (B9 (by omega))<|y_S U<|xN [0,3,4] [] U ?_
   rw[<-d2c (by omega) b];refine⟨i+1,?_,(by omega),⟨U,U,U,trivial⟩⟩;omega
  have b:i=0:=by omega
  refine A7<|A0<|y_M U<|y_M U<|y_M U<|B7 U U U (fun _=>U) (by omega)<|y_I U ?_
  have a:=j i (by omega);have f:=M5 a;refine xC1 U U (U1 (ns.getD i default) a) ⟨U,U,U⟩ U U fun g20=> ?_
  refine J9 U U (by simp only[H0,Zf,Ze,Zo];omega)<|y_S U<|xN [0,3,4] [] U<|A0<|y_M U<|D7 U U (B9 (by omega))<|y_S U<|xN [0,3,4] [] U ?_
  rw[<-d1s (by omega) b];refine⟨i+1,?_,(by omega),⟨U,U,U,trivial⟩⟩;omega
 refine D6<|A3<|A0<|y_M U<|y_S U<|xN [2] [] U<|A9<|C4 U U trivial ?_
 rw[ZB (by omega)]
theorem c0g:D9 Tryz.f51=[0,1,4,7,12,19,6,5]:=by kernel_rfl
theorem c5w(s:List UInt8)(w:s.length<=1048576)(c:UInt8):CW (cxT oG) 51 [tV s,uV c.toNat]=some (.own 1 ((splitB c s).map tV),[]):=by
 refine C7 U Tryz.func51 U ⟨by kernel_rfl,U,dT U,dT U,by decide⟩ c0g<|A3<|A0 ?_
 (refine B4 U U (fun _=>U) ?_;intro g4)
 refine xN [0,1] [] U<|A3<|A0<|B6 (es:=Zw tV []) U U (dT U) U U (fun _=>B3 (A6 fun _=>U)) (fun _=>U) ?_
 intro g8
 (refine xO U U (by simp) U (fun _=>U) (fun _=>U) ?_;intro g5)
 refine xN [0,1,5] [5] U<|A3<|A0<|y_S U<|xN [0,1,5,6] [5] U<|A3<|A3<|A0<|y_S U<|xN [0,1,5,6,7] [5] U<|B0<|D8 (β:=Nat×Nat×List (List UInt8)×Nat) [(.t 0,_),(.t 1,_)] (fun(z:Nat×Nat×List (List UInt8)×Nat)=>match z with|(i,fr,out,g)=>[(.t 7,iV i),(.t 6,iV fr),(.t 5,.sl 5 g none 0 out.length),(.h 5,.obj g 0 1 (out.map tV))]) (fun(z:Nat×Nat×List (List UInt8)×Nat)=>match z with|(i,fr,out,g)=>i<=s.length/\fr<=i/\out.length<=i/\splitB c s=out++a0b ((s.drop fr).take (i-fr)) (splitB c (s.drop i))) (fun(z:Nat×Nat×List (List UInt8)×Nat)=>match z with|(i,fr,out,g)=>s.length-i) (0,0,[],_) ⟨U,U,U,U,U,U,trivial⟩ ⟨Zv _,Zd _,Zd _,by simp[c5o]⟩ ?_
 intro z m;obtain⟨i,fr,out,g⟩:=z
 try dsimp only at m
 obtain⟨u,j,v,b⟩:=m;refine A3<|A3<|A0<|y_M U<|y_M U<|W5 U U<|F4 U U<|xN [0,1,5,6,7,12] [5] U ?_
 refine A4 U ?_ ?_<;>intro k<;>try simp only[SL]at k
 ·refine A7<|A3<|B0<|A3<|A0<|y_M U<|y_M U<|M9 U U U (by omega)<|y_M U<|K6 U U<|xN [0,1,5,6,7,19] [5] U ?_
  refine A4 U ?_ ?_<;>intro k<;>try simp only[SL]at k
  ·have a:s.getD i 0=c:=UInt8.toNat_inj.1 (by omega)
   refine A3<|A0<|y_M U<|y_M U<|y_M U<|y_M U<|Q7 U U (G1 U) (G1 U) (by omega)<|B6 (es:=Zw tV [_]) U U (dT U) U U (fun _=>B3 (A6 fun _=>U)) (fun _=>U) ?_
   intro n;refine xA U U U U (by simp) (by simp) U U U U U (fun _=>U) (by simp only[LN];omega) (fun _=>U) ?_;intro o
   (refine xO U U (by simp) U (fun _=>U) (fun _=>U) ?_;intro g5)
   refine xN [0,1,5,7] [5] U<|A0<|y_M U<|D7 U U (B9 (by omega))<|y_S U<|xN [0,1,5,6,7] [5] U<|A0<|y_M U<|D7 U U (B9 (by omega))<|y_S U<|xN [0,1,5,6,7] [5] U ?_
   refine⟨(i+1,i+1,out++[(s.drop fr).take (i-fr)],_),?_,(by simp only;omega),⟨U,U,U,U,U,U,trivial⟩⟩;have f:=c0i (by omega) j b;exact⟨by omega,by omega,by simp;omega,f.1 a⟩
  have a:s.getD i 0≠c:=fun e=>k (by rw[e])
  refine A7<|A0<|y_M U<|D7 U U (B9 (by omega))<|y_S U<|xN [0,1,5,6,7] [5] U ?_
  refine⟨(i+1,fr,out,_),?_,(by simp only;omega),⟨U,U,U,U,U,U,trivial⟩⟩;have f:=c0i (by omega) j b;exact⟨by omega,by omega,by omega,f.2 a⟩
 refine D6<|A3<|A0<|y_M U<|y_M U<|y_M U<|Q7 U U I2 (G1 U) (by omega)<|B6 (es:=Zw tV [_]) U U (dT U) U U (fun _=>B3 (A6 fun _=>U)) (fun _=>U) ?_
 intro p;refine xA U U U U (by simp) (by simp) U U U U U (fun _=>U) (by simp only[LN];omega) (fun _=>U) ?_;intro q
 (refine xO U U (by simp) U (fun _=>U) (fun _=>U) ?_;intro g4)
 refine xN [4] [4] U<|A9<|J3 U U (by simp) (by exact A6 fun _=>U) trivial ?_
 have l:i=s.length:=by omega
 rw[b,l,List.drop_length,splitB,a0b,Zm]
theorem b6s:D9 Tryz.f116=[0,2,3,5,6,17,7,8,31,10,37,9,53,62,75,4]:=by kernel_rfl
theorem d6t(s:List UInt8)(V:s.length<=1048576):CW (cxT oG) 116 [tV s]=some (.tup [.own 1 (((rdL s).getD []).map iV),bV (rdL s).isSome],[]):=by
 obtain⟨f,l⟩:∃f,f=splitB 44 s:=⟨_,U⟩;have R:=Z0 44 s;rw[<-l]at R;have L:=a0h 44 s;rw[<-l]at L;refine C7 U Tryz.func116 U ⟨by kernel_rfl,U,dT U,dT U,by decide⟩ b6s<|A3<|A0 ?_
 (refine B4 U U (fun _=>U) ?_;intro g2)
 refine y_S U<|xN [0] [] U<|A3<|A0<|B6 (es:=Zw iV []) U U (dT U) U U (fun _=>B3 (A6 fun _=>U)) (fun _=>U) ?_
 intro g11
 (refine xO U U (by simp) U (fun _=>U) (fun _=>U) ?_;intro g4)
 refine xN [0,4] [4] U<|A3<|A0<|y_M U ?_
 apply xC U
 ·apply A8
  ·exact B1 U
  apply A8
  ·exact B1 U
  exact C2
 ·exact c5w s V 44
 refine⟨⟨U,U,U,dT U,U⟩,.inl U,B2,H4,fun _=>U,fun g13=> ?_⟩;rw[<-l]
 try simp only[Zi]
 (refine xO U U (by simp) U (fun _=>U) (fun _=>U) ?_;intro g5)
 refine xN [4,5] [4,5] U<|A3<|A3<|A0<|y_S U<|xN [4,5,6] [4,5] U<|B0<|D8 (β:=Nat×List Int×Nat) [(.t 5,_),(.h 5,_)] (fun(z:Nat×List Int×Nat)=>match z with|(i,ns,g)=>[(.t 6,iV i),(.t 4,.sl 4 g none 0 ns.length),(.h 4,.obj g 0 1 (ns.map iV))]) (fun(z:Nat×List Int×Nat)=>match z with|(i,ns,g)=>i<=f.length/\a3i (f.take i)=some ns) (fun(z:Nat×List Int×Nat)=>match z with|(i,ns,g)=>f.length-i) (0,[],_) ⟨U,U,U,U,U,trivial⟩ ⟨Zv _,U⟩ ?_
 intro z x;obtain⟨i,ns,g⟩:=z
 try dsimp only at x
 obtain⟨S,w⟩:=x;have O:=b5d w;rw[ZH]at O;have T:=fun h:i<f.length=>L _ (N2 h)
 refine A3<|A3<|A0<|y_M U<|y_M U<|G8 U U<|F4 U U<|xN [4,5,6,17] [4,5] U ?_
 refine A4 U ?_ ?_<;>intro c<;>try simp only[SL]at c
 ·refine A7<|A3<|B0<|A3<|A0<|y_M U<|y_M U<|C9 U U U U (by omega) (by(simp;done)) U<|E6 U U (by omega) (fun _=>U) (fun _=>U) U<|y_S U<|xN [4,5,6,7] [4,5] U<|A3<|A0<|y_M U<|b5j U U<|y_M U ?_
  refine D5 U U ?_ ?_<;>intro j<;>have v:=j<;>try simp only[SG]at v
  ·refine y_M U<|gT U U ?_
   have P:0<(f.getD i default).length:=List.length_pos_iff.2 (by assumption);refine M9 (n:=0) U U U P<|gT U U<|K6 U U<|F0 U (by assumption) U U<|y_S U<|xN [4,5,6,7,8] [4,5] U<|A3<|A3<|A0<|y_M U<|xN [4,5,6,7,8,31] [4,5] U ?_
   refine A4 U ?_ ?_<;>intro c<;>try simp only[SL]at c
   ·obtain⟨q,b⟩:=f6r (p:=(f.getD i default)) (by assumption) (by omega)
    have D:=c8n (f.getD i default);rw[b]at D;refine A0<|y_M U<|Q7 U U I2 (G1 (n:=1) U) (by omega)<|y_S U<|xN [4,5,6,7,8] [4,5] U<|A3<|A0<|y_S U<|xN [4,5,6,7,8,9] [4,5] U<|A3<|A3<|A0<|y_S U<|xN [4,5,6,7,8,9,10] [4,5] U<|B0 ?_
    have M:=b;refine D8 (β:=Nat×Int) [(.t 4,_),(.t 5,_),(.t 6,_),(.t 7,_),(.t 8,_),(.h 4,_),(.h 5,_)] (fun(z:Nat×Int)=>match z with|(k,a)=>[(.t 10,iV k),(.t 9,iV a)]) (fun(z:Nat×Int)=>match z with|(k,a)=>k<=(unS (f.getD i default)).length/\0<=a/\a0k 0 ((unS (f.getD i default)).take k)=some a.toNat) (fun(z:Nat×Int)=>match z with|(k,a)=>(unS (f.getD i default)).length-k) (0,0) ⟨U,U,U,U,U,U,U,U,U,trivial⟩ ⟨Zv _,by decide,U⟩ ?_;intro z x;obtain⟨k,a⟩:=z
    try dsimp only at x
    obtain⟨B,J,e⟩:=x;have K:=b8m (by decide) e;rw[b]at B e;refine A3<|A3<|A0<|y_M U<|y_M U<|W5 U U<|F4 U U<|xN [4,5,6,7,8,9,10,37] [4,5] U ?_
    refine A4 U ?_ ?_<;>intro c<;>try simp only[SL]at c
    ·refine A7<|A3<|B0<|A3<|A3<|A0<|y_M U<|y_M U<|M9 U U U (by omega)<|F4 U U<|y_M U ?_
     refine D5 U U ?_ ?_<;>intro j<;>have v:=j<;>try simp only[SG]at v
     ·refine y_M U<|gT U U<|y_M U<|gT U U<|M9 U U U (by omega)<|gT U U<|M0 U U<|E8 U (by assumption) U U<|y_M U ?_
      refine D5 U U ?_ ?_<;>intro j<;>have v:=j<;>try simp only[SG]at v
      ·refine y_M U<|gT U U<|M0 U U<|E8 U (by assumption) U U<|xN [4,5,6,7,8,9,10,53] [4,5] U ?_
       refine A4 U ?_ ?_<;>intro c<;>try simp only[SL]at c
       ·refine A3<|A0 ?_
        (refine B4 U U (fun _=>U) ?_;intro g2)
        refine y_S U<|xN [2,3] [2] U<|A9<|C0 (F9 U U (by simp) (by rfl) (D3 U U (C5 B5))) ?_
        rw[rdL,<-l,O3 (show i<f.length by omega) (a0l (by rw[b];exact X4 (by omega) e (by omega)))]
        rfl
       refine A7<|A0<|y_M U<|V3 U U (B9 (by omega))<|y_M U<|y_M U<|M9 U U U (by omega)<|J7 U U (d5r (by omega))<|a2m U U U (B9 (by omega))<|D7 U U (B9 (by omega))<|y_S U<|xN [4,5,6,7,8,9,10] [4,5] U<|A0<|y_M U<|D7 U U (B9 (by omega))<|y_S U<|xN [4,5,6,7,8,9,10] [4,5] U ?_
       refine⟨(k+1,_),?_,(by simp only[b];omega),⟨U,U,U,U,U,U,U,U,U,trivial⟩⟩;rw[b];have y:=b4b (by omega) e (by omega);exact⟨by omega,by omega,y.trans (congrArg some (by omega))⟩
      refine gF U U<|F0 U (by assumption) U U<|xN [4,5,6,7,8,9,10,53] [4,5] U ?_
      refine A4 U (fun c=> ?_) (fun c=>absurd c (by decide));refine A3<|A0 ?_
      (refine B4 U U (fun _=>U) ?_;intro g2)
      refine y_S U<|xN [2,3] [2] U<|A9<|C0 (F9 U U (by simp) (by rfl) (D3 U U (C5 B5))) ?_
      rw[rdL,<-l,O3 (show i<f.length by omega) (a0l (by rw[b];exact X4 (by omega) e (by omega)))]
      rfl
     refine gF U U<|gF U U<|gF U U<|F0 U (by assumption) U U<|y_M U<|H6 U U U<|H6 U U U<|F0 U U U U<|xN [4,5,6,7,8,9,10,53] [4,5] U ?_
     refine A4 U (fun c=> ?_) (fun c=>absurd c (by decide));refine A3<|A0 ?_
     (refine B4 U U (fun _=>U) ?_;intro g2)
     refine y_S U<|xN [2,3] [2] U<|A9<|C0 (F9 U U (by simp) (by rfl) (D3 U U (C5 B5))) ?_
     rw[rdL,<-l,O3 (show i<f.length by omega) (a0l (by rw[b];exact X4 (by omega) e (by omega)))]
     rfl
    have o:a0k 0 (unS (f.getD i default))=some a.toNat:=by rw[b];rw[ZB (by omega)]at e;exact e
    refine D6<|A3<|A3<|A0<|y_M U<|xN [4,5,6,7,9,62] [4,5] U ?_
    refine A4 U (fun c=> ?_) (fun c=>absurd c (by simp_all));refine A0<|y_M U<|a4z U (B9 (by omega))<|y_S U<|xN [4,5,6,7,9] [4,5] U<|A3<|A3<|A0<|y_M U<|H1 U U<|y_M U ?_
    refine D5 U U ?_ ?_<;>intro j<;>have v:=j<;>try simp only[SG]at v
    ·refine y_M U<|gT U U ?_
     have E:=M5 (m:= -a) (by omega);have F:=M5 (m:=a) (by omega);refine xC1 U U (U1 (-a) (by omega)) ⟨U,U,U⟩ U U fun G=> ?_
     refine gT U U<|y_M U<|gT U U<|y_M U<|gT U U<|C9 U U U U (by omega) (by(simp;done)) U<|gT U U<|E6 U U (by omega) (fun _=>U) (fun _=>U) U<|gT U U<|b5j U U<|E8 U (by assumption) U U ?_
     refine G7 ⟨fun _=>⟨by(simp only[V5,Zj,Zm,Zz,Ya,Zp];decide+kernel),by decide+kernel⟩,[(.t 4,_),(.t 5,_),(.t 6,_),(.t 9,_),(.t 75,_),(.h 4,_),(.h 5,_)],⟨U,U,U,U,U,U,U,U,U,U,U,U,U,U,trivial⟩,?_⟩;refine A4 U ?_ ?_<;>intro c<;>try simp only[SL]at c
     ·refine A3<|A0 ?_
      (refine B4 U U (fun _=>U) ?_;intro g2)
      refine y_S U<|xN [2,3] [2] U<|A9<|C0 (F9 U U (by simp) (by rfl) (D3 U U (C5 B5))) ?_
      have u:rdI (f.getD i default)=none:=by exact b4d (m:= -a) o (by(rw[q,if_pos U];omega)) (by exact .inr (by assumption))
      rw[rdL,<-l,O3 (show i<f.length by omega) u]
      rfl
     have C:=d8h (m:= -a) o (by(rw[q,if_pos U];omega)) (by rw[b];assumption) (by assumption);refine A7<|A0<|y_M U<|y_M U<|B6 (es:=Zw iV [_]) U U (dT U) U U (fun _=>B3 (A6 fun _=>U)) (fun _=>U) ?_
     intro H;refine xA U U U U (by simp) (by simp) U U U U U (fun _=>U) (by simp only[LN];omega) (fun _=>U) ?_;intro I
     (refine xO U U (by simp) U (fun _=>U) (fun _=>U) ?_;intro g4)
     refine xN [4,5,6] [4,5] U<|A0<|y_M U<|D7 U U (B9 (by omega))<|y_S U<|xN [4,5,6] [4,5] U ?_
     refine⟨(i+1,ns++[-a],_),?_,(by simp only;omega),⟨U,U,U,U,U,trivial⟩⟩;exact⟨by omega,b3c (by omega) w C⟩
    iterate 6 refine gF U U ?_
    refine F0 U (by assumption) U U ?_;refine G7 ⟨fun _=>⟨by decide+kernel,by decide+kernel⟩,[(.t 4,_),(.t 5,_),(.t 6,_),(.t 9,_),(.t 75,_),(.h 4,_),(.h 5,_)],⟨U,U,U,U,U,U,U,U,U,U,U,U,U,U,trivial⟩,?_⟩;refine A4 U (fun c=> ?_) (fun c=>absurd c (by decide));refine A3<|A0 ?_
    (refine B4 U U (fun _=>U) ?_;intro g2)
    refine y_S U<|xN [2,3] [2] U<|A9<|C0 (F9 U U (by simp) (by rfl) (D3 U U (C5 B5))) ?_
    have u:rdI (f.getD i default)=none:=by exact b4d (m:= -a) o (by(rw[q,if_pos U];omega)) (by exact .inl (by rw[b];assumption))
    rw[rdL,<-l,O3 (show i<f.length by omega) u]
    rfl
   obtain⟨q,b⟩:=f4g (p:=(f.getD i default)) (by exact .inr (by omega));have D:=c8n (f.getD i default);rw[b]at D;refine A7<|A3<|A0<|y_S U<|xN [4,5,6,7,8,9] [4,5] U<|A3<|A3<|A0<|y_S U<|xN [4,5,6,7,8,9,10] [4,5] U<|B0 ?_
   have M:=b;refine D8 (β:=Nat×Int) [(.t 4,_),(.t 5,_),(.t 6,_),(.t 7,_),(.t 8,_),(.h 4,_),(.h 5,_)] (fun(z:Nat×Int)=>match z with|(k,a)=>[(.t 10,iV k),(.t 9,iV a)]) (fun(z:Nat×Int)=>match z with|(k,a)=>k<=(unS (f.getD i default)).length/\0<=a/\a0k 0 ((unS (f.getD i default)).take k)=some a.toNat) (fun(z:Nat×Int)=>match z with|(k,a)=>(unS (f.getD i default)).length-k) (0,0) ⟨U,U,U,U,U,U,U,U,U,trivial⟩ ⟨Zv _,by decide,U⟩ ?_;intro z x;obtain⟨k,a⟩:=z
   try dsimp only at x
   obtain⟨B,J,e⟩:=x;have K:=b8m (by decide) e;rw[b]at B e;refine A3<|A3<|A0<|y_M U<|y_M U<|W5 U U<|F4 U U<|xN [4,5,6,7,8,9,10,37] [4,5] U ?_
   refine A4 U ?_ ?_<;>intro c<;>try simp only[SL]at c
   ·refine A7<|A3<|B0<|A3<|A3<|A0<|y_M U<|y_M U<|M9 U U U (by omega)<|F4 U U<|y_M U ?_
    refine D5 U U ?_ ?_<;>intro j<;>have v:=j<;>try simp only[SG]at v
    ·refine y_M U<|gT U U<|y_M U<|gT U U<|M9 U U U (by omega)<|gT U U<|M0 U U<|E8 U (by assumption) U U<|y_M U ?_
     refine D5 U U ?_ ?_<;>intro j<;>have v:=j<;>try simp only[SG]at v
     ·refine y_M U<|gT U U<|M0 U U<|E8 U (by assumption) U U<|xN [4,5,6,7,8,9,10,53] [4,5] U ?_
      refine A4 U ?_ ?_<;>intro c<;>try simp only[SL]at c
      ·refine A3<|A0 ?_
       (refine B4 U U (fun _=>U) ?_;intro g2)
       refine y_S U<|xN [2,3] [2] U<|A9<|C0 (F9 U U (by simp) (by rfl) (D3 U U (C5 B5))) ?_
       rw[rdL,<-l,O3 (show i<f.length by omega) (a0l (by rw[b];exact X4 (by omega) e (by omega)))]
       rfl
      refine A7<|A0<|y_M U<|V3 U U (B9 (by omega))<|y_M U<|y_M U<|M9 U U U (by omega)<|J7 U U (d5r (by omega))<|a2m U U U (B9 (by omega))<|D7 U U (B9 (by omega))<|y_S U<|xN [4,5,6,7,8,9,10] [4,5] U<|A0<|y_M U<|D7 U U (B9 (by omega))<|y_S U<|xN [4,5,6,7,8,9,10] [4,5] U ?_
      refine⟨(k+1,_),?_,(by simp only[b];omega),⟨U,U,U,U,U,U,U,U,U,trivial⟩⟩;rw[b];have y:=b4b (by omega) e (by omega);exact⟨by omega,by omega,y.trans (congrArg some (by omega))⟩
     refine gF U U<|F0 U (by assumption) U U<|xN [4,5,6,7,8,9,10,53] [4,5] U ?_
     refine A4 U (fun c=> ?_) (fun c=>absurd c (by decide));refine A3<|A0 ?_
     (refine B4 U U (fun _=>U) ?_;intro g2)
     refine y_S U<|xN [2,3] [2] U<|A9<|C0 (F9 U U (by simp) (by rfl) (D3 U U (C5 B5))) ?_
     rw[rdL,<-l,O3 (show i<f.length by omega) (a0l (by rw[b];exact X4 (by omega) e (by omega)))]
     rfl
    refine gF U U<|gF U U<|gF U U<|F0 U (by assumption) U U<|y_M U<|H6 U U U<|H6 U U U<|F0 U U U U<|xN [4,5,6,7,8,9,10,53] [4,5] U ?_
    refine A4 U (fun c=> ?_) (fun c=>absurd c (by decide));refine A3<|A0 ?_
    (refine B4 U U (fun _=>U) ?_;intro g2)
    refine y_S U<|xN [2,3] [2] U<|A9<|C0 (F9 U U (by simp) (by rfl) (D3 U U (C5 B5))) ?_
    rw[rdL,<-l,O3 (show i<f.length by omega) (a0l (by rw[b];exact X4 (by omega) e (by omega)))]
    rfl
   have o:a0k 0 (unS (f.getD i default))=some a.toNat:=by rw[b];rw[ZB (by omega)]at e;exact e
   refine D6<|A3<|A3<|A0<|y_M U<|xN [4,5,6,7,9,62] [4,5] U ?_
   refine A4 U (fun c=>absurd c (by simp_all)) (fun c=> ?_);refine A7<|A3<|A3<|A0<|y_M U<|H1 U U<|y_M U ?_
   refine D5 U U ?_ ?_<;>intro j<;>have v:=j<;>try simp only[SG]at v
   ·refine y_M U<|gT U U ?_
    have E:=M5 (m:= -a) (by omega);have F:=M5 (m:=a) (by omega);refine xC1 U U (U1 a (by omega)) ⟨U,U,U⟩ U U fun G=> ?_
    refine gT U U<|y_M U<|gT U U<|y_M U<|gT U U<|C9 U U U U (by omega) (by(simp;done)) U<|gT U U<|E6 U U (by omega) (fun _=>U) (fun _=>U) U<|gT U U<|b5j U U<|E8 U (by assumption) U U ?_
    refine G7 ⟨fun _=>⟨by(simp only[V5,Zj,Zm,Zz,Ya,Zp];decide+kernel),by decide+kernel⟩,[(.t 4,_),(.t 5,_),(.t 6,_),(.t 9,_),(.t 75,_),(.h 4,_),(.h 5,_)],⟨U,U,U,U,U,U,U,U,U,U,U,U,U,U,trivial⟩,?_⟩;refine A4 U ?_ ?_<;>intro c<;>try simp only[SL]at c
    ·refine A3<|A0 ?_
     (refine B4 U U (fun _=>U) ?_;intro g2)
     refine y_S U<|xN [2,3] [2] U<|A9<|C0 (F9 U U (by simp) (by rfl) (D3 U U (C5 B5))) ?_
     have u:rdI (f.getD i default)=none:=by exact b4d (m:=a) o (by(rw[q,if_neg (by decide)];omega)) (by exact .inr (by assumption))
     rw[rdL,<-l,O3 (show i<f.length by omega) u]
     rfl
    have C:=d8h (m:=a) o (by(rw[q,if_neg (by decide)];omega)) (by rw[b];assumption) (by assumption);refine A7<|A0<|y_M U<|y_M U<|B6 (es:=Zw iV [_]) U U (dT U) U U (fun _=>B3 (A6 fun _=>U)) (fun _=>U) ?_
    intro H;refine xA U U U U (by simp) (by simp) U U U U U (fun _=>U) (by simp only[LN];omega) (fun _=>U) ?_;intro I
    (refine xO U U (by simp) U (fun _=>U) (fun _=>U) ?_;intro g4)
    refine xN [4,5,6] [4,5] U<|A0<|y_M U<|D7 U U (B9 (by omega))<|y_S U<|xN [4,5,6] [4,5] U ?_
    refine⟨(i+1,ns++[a],_),?_,(by simp only;omega),⟨U,U,U,U,U,trivial⟩⟩;exact⟨by omega,b3c (by omega) w C⟩
   iterate 6 refine gF U U ?_
   refine F0 U (by assumption) U U ?_;refine G7 ⟨fun _=>⟨by decide+kernel,by decide+kernel⟩,[(.t 4,_),(.t 5,_),(.t 6,_),(.t 9,_),(.t 75,_),(.h 4,_),(.h 5,_)],⟨U,U,U,U,U,U,U,U,U,U,U,U,U,U,trivial⟩,?_⟩;refine A4 U (fun c=> ?_) (fun c=>absurd c (by decide));refine A3<|A0 ?_
   (refine B4 U U (fun _=>U) ?_;intro g2)
   refine y_S U<|xN [2,3] [2] U<|A9<|C0 (F9 U U (by simp) (by rfl) (D3 U U (C5 B5))) ?_
   have u:rdI (f.getD i default)=none:=by exact b4d (m:=a) o (by(rw[q,if_neg (by decide)];omega)) (by exact .inl (by rw[b];assumption))
   rw[rdL,<-l,O3 (show i<f.length by omega) u]
   rfl
  refine gF U U<|gF U U<|E8 U (by assumption) U U<|y_S U<|xN [4,5,6,7,8] [4,5] U<|A3<|A3<|A0<|y_M U<|xN [4,5,6,7,8,31] [4,5] U ?_
  refine A4 U (fun c=>absurd c (by decide)) (fun c=> ?_);refine A7<|A3<|A0<|y_S U<|xN [4,5,6,7,8,9] [4,5] U<|A3<|A3<|A0<|y_S U<|xN [4,5,6,7,8,9,10] [4,5] U<|B0 ?_
  (obtain⟨q,b⟩:=f4g (p:=(f.getD i default)) (.inl (by assumption));have D:=c8n (f.getD i default);rw[b]at D)
  refine D8 (β:=Nat×Int) [(.t 4,_),(.t 5,_),(.t 6,_),(.t 7,_),(.t 8,_),(.h 4,_),(.h 5,_)] (fun(z:Nat×Int)=>match z with|(k,a)=>[(.t 10,iV k),(.t 9,iV a)]) (fun(z:Nat×Int)=>match z with|(k,a)=>k<=(unS (f.getD i default)).length/\0<=a/\a0k 0 ((unS (f.getD i default)).take k)=some a.toNat) (fun(z:Nat×Int)=>match z with|(k,a)=>(unS (f.getD i default)).length-k) (0,0) ⟨U,U,U,U,U,U,U,U,U,trivial⟩ ⟨Zv _,by decide,U⟩ ?_;intro z x;obtain⟨k,a⟩:=z
  try dsimp only at x
  obtain⟨B,J,e⟩:=x;have K:=b8m (by decide) e;rw[b]at B e;refine A3<|A3<|A0<|y_M U<|y_M U<|W5 U U<|F4 U U<|xN [4,5,6,7,8,9,10,37] [4,5] U ?_
  refine A4 U ?_ ?_<;>intro c<;>try simp only[SL]at c
  ·refine A7<|A3<|B0<|A3<|A3<|A0<|y_M U<|y_M U<|M9 U U U (by omega)<|F4 U U<|y_M U ?_
   refine D5 U U ?_ ?_<;>intro j<;>have v:=j<;>try simp only[SG]at v
   ·refine y_M U<|gT U U<|y_M U<|gT U U<|M9 U U U (by omega)<|gT U U<|M0 U U<|E8 U (by assumption) U U<|y_M U ?_
    refine D5 U U ?_ ?_<;>intro j<;>have v:=j<;>try simp only[SG]at v
    ·refine y_M U<|gT U U<|M0 U U<|E8 U (by assumption) U U<|xN [4,5,6,7,8,9,10,53] [4,5] U ?_
     refine A4 U ?_ ?_<;>intro c<;>try simp only[SL]at c
     ·refine A3<|A0 ?_
      (refine B4 U U (fun _=>U) ?_;intro g2)
      refine y_S U<|xN [2,3] [2] U<|A9<|C0 (F9 U U (by simp) (by rfl) (D3 U U (C5 B5))) ?_
      rw[rdL,<-l,O3 (show i<f.length by omega) (a0l (by rw[b];exact X4 (by omega) e (by omega)))]
      rfl
     refine A7<|A0<|y_M U<|V3 U U (B9 (by omega))<|y_M U<|y_M U<|M9 U U U (by omega)<|J7 U U (d5r (by omega))<|a2m U U U (B9 (by omega))<|D7 U U (B9 (by omega))<|y_S U<|xN [4,5,6,7,8,9,10] [4,5] U<|A0<|y_M U<|D7 U U (B9 (by omega))<|y_S U<|xN [4,5,6,7,8,9,10] [4,5] U ?_
     refine⟨(k+1,_),?_,(by simp only[b];omega),⟨U,U,U,U,U,U,U,U,U,trivial⟩⟩;rw[b];have y:=b4b (by omega) e (by omega);exact⟨by omega,by omega,y.trans (congrArg some (by omega))⟩
    refine gF U U<|F0 U (by assumption) U U<|xN [4,5,6,7,8,9,10,53] [4,5] U ?_
    refine A4 U (fun c=> ?_) (fun c=>absurd c (by decide));refine A3<|A0 ?_
    (refine B4 U U (fun _=>U) ?_;intro g2)
    refine y_S U<|xN [2,3] [2] U<|A9<|C0 (F9 U U (by simp) (by rfl) (D3 U U (C5 B5))) ?_
    rw[rdL,<-l,O3 (show i<f.length by omega) (a0l (by rw[b];exact X4 (by omega) e (by omega)))]
    rfl
   refine gF U U<|gF U U<|gF U U<|F0 U (by assumption) U U<|y_M U<|H6 U U U<|H6 U U U<|F0 U U U U<|xN [4,5,6,7,8,9,10,53] [4,5] U ?_
   refine A4 U (fun c=> ?_) (fun c=>absurd c (by decide));refine A3<|A0 ?_
   (refine B4 U U (fun _=>U) ?_;intro g2)
   refine y_S U<|xN [2,3] [2] U<|A9<|C0 (F9 U U (by simp) (by rfl) (D3 U U (C5 B5))) ?_
   rw[rdL,<-l,O3 (show i<f.length by omega) (a0l (by rw[b];exact X4 (by omega) e (by omega)))]
   rfl
  have o:a0k 0 (unS (f.getD i default))=some a.toNat:=by rw[b];rw[ZB (by omega)]at e;exact e
  refine D6<|A3<|A3<|A0<|y_M U<|xN [4,5,6,7,9,62] [4,5] U ?_
  refine A4 U (fun c=>absurd c (by decide)) (fun c=> ?_);refine A7<|A3<|A3<|A0<|y_M U<|H1 U U<|y_M U ?_
  refine D5 U U ?_ ?_<;>intro j<;>have v:=j<;>try simp only[SG]at v
  ·refine y_M U<|gT U U ?_
   have E:=M5 (m:= -a) (by omega);have F:=M5 (m:=a) (by omega);refine xC1 U U (U1 a (by omega)) ⟨U,U,U⟩ U U fun G=> ?_
   refine gT U U<|y_M U<|gT U U<|y_M U<|gT U U<|C9 U U U U (by omega) (by(simp;done)) U<|gT U U<|E6 U U (by omega) (fun _=>U) (fun _=>U) U<|gT U U<|b5j U U<|E8 U (by assumption) U U ?_
   refine G7 ⟨fun _=>⟨by(simp only[V5,Zj,Zm,Zz,Ya,Zp];decide+kernel),by decide+kernel⟩,[(.t 4,_),(.t 5,_),(.t 6,_),(.t 9,_),(.t 75,_),(.h 4,_),(.h 5,_)],⟨U,U,U,U,U,U,U,U,U,U,U,U,U,U,trivial⟩,?_⟩;refine A4 U ?_ ?_<;>intro c<;>try simp only[SL]at c
   ·refine A3<|A0 ?_
    (refine B4 U U (fun _=>U) ?_;intro g2)
    refine y_S U<|xN [2,3] [2] U<|A9<|C0 (F9 U U (by simp) (by rfl) (D3 U U (C5 B5))) ?_
    have u:rdI (f.getD i default)=none:=by exact b4d (m:=a) o (by(rw[q,if_neg (by decide)];omega)) (by exact .inl (by rw[b];assumption))
    rw[rdL,<-l,O3 (show i<f.length by omega) u]
    rfl
   have C:=d8h (m:=a) o (by(rw[q,if_neg (by decide)];omega)) (by rw[b];assumption) (by assumption);refine A7<|A0<|y_M U<|y_M U<|B6 (es:=Zw iV [_]) U U (dT U) U U (fun _=>B3 (A6 fun _=>U)) (fun _=>U) ?_
   intro H;refine xA U U U U (by simp) (by simp) U U U U U (fun _=>U) (by simp only[LN];omega) (fun _=>U) ?_;intro I
   (refine xO U U (by simp) U (fun _=>U) (fun _=>U) ?_;intro g4)
   refine xN [4,5,6] [4,5] U<|A0<|y_M U<|D7 U U (B9 (by omega))<|y_S U<|xN [4,5,6] [4,5] U ?_
   refine⟨(i+1,ns++[a],_),?_,(by simp only;omega),⟨U,U,U,U,U,trivial⟩⟩;exact⟨by omega,b3c (by omega) w C⟩
  iterate 6 refine gF U U ?_
  refine F0 U (by assumption) U U ?_;refine G7 ⟨fun _=>⟨by decide+kernel,by decide+kernel⟩,[(.t 4,_),(.t 5,_),(.t 6,_),(.t 9,_),(.t 75,_),(.h 4,_),(.h 5,_)],⟨U,U,U,U,U,U,U,U,U,U,U,U,U,U,trivial⟩,?_⟩;refine A4 U (fun c=> ?_) (fun c=>absurd c (by decide));refine A3<|A0 ?_
  (refine B4 U U (fun _=>U) ?_;intro g2)
  refine y_S U<|xN [2,3] [2] U<|A9<|C0 (F9 U U (by simp) (by rfl) (D3 U U (C5 B5))) ?_
  have u:rdI (f.getD i default)=none:=by exact b4d (m:=a) o (by(rw[q,if_neg (by decide)];omega)) (by exact .inl (by rw[b];assumption))
  rw[rdL,<-l,O3 (show i<f.length by omega) u]
  rfl
 refine D6<|A3<|A0<|y_M U ?_
 (refine xO U U (by simp) U (fun _=>U) (fun _=>U) ?_;intro g2)
 refine y_S U<|xN [2,3] [2] U<|A9<|C0 (F9 U U (by simp) (by exact A6 fun _=>U) (D3 U U (C5 B5))) ?_
 have N:i=f.length:=by omega
 rw[N,List.take_length]at w;rw[rdL,<-l,w]
 rfl
theorem b6q:D9 Tryz.f86=[0,2,3,4,22,24,5,6]:=by kernel_rfl
theorem d9w(s:List UInt8)(m:s.length<=1048576):CW (cxT oG) 86 [tV s]=some (.tup [.own 1 ((d3y s).map iV),bV (numsOf s).isSome],[]):=by
 refine C7 U Tryz.func86 U ⟨by kernel_rfl,U,dT U,dT U,by decide⟩ b6q<|A3<|A0 ?_
 (refine B4 U U (fun _=>U) ?_;intro g2)
 refine y_S U<|xN [0] [] U<|A3<|A0<|y_M U<|W5 U U<|y_S U<|xN [0,4] [] U<|A3<|A3<|A0<|y_M U<|F4 U U<|y_M U ?_
 refine D5 U U ?_ ?_<;>intro c<;>have g:=c<;>try simp only[SG]at g
 ·refine y_M U<|gT U U<|M9 (n:=0) U U U (by omega)<|gT U U<|b0i U U<|E8 U (by assumption) U U<|y_M U ?_
  refine D5 U U ?_ ?_<;>intro c<;>have g:=c<;>try simp only[SG]at g
  ·refine y_M U<|gT U U<|y_M U<|gT U U<|J7 U U (B9 (by omega))<|gT U U ?_
   rw[show((s.length:Int)-1)=((s.length-1:Nat):Int) by omega];refine M9 U U U (by omega)<|gT U U<|b0i U U<|E8 U (by assumption) U U<|xN [0,4,22] [] U ?_
   refine A4 U ?_ ?_<;>intro e<;>try simp only[SL]at e
   ·refine A3<|A0 ?_
    (refine B4 U U (fun _=>U) ?_;intro g2)
    refine y_S U<|xN [2,3] [2] U<|A9<|C0 (F9 U U (by simp) (by rfl) (D3 U U (C5 B5))) ?_
    obtain⟨a,b⟩:=a9g (s:=s) (by exact .inr (.inr (by omega)));rw[a,b]
    rfl
   have f:=e6d (s:=s) (by omega) (by omega) (by omega);refine A7<|A3<|A3<|A0<|y_M U<|K6 U U<|xN [0,4,24] [] U ?_
   refine A4 U ?_ ?_<;>intro e<;>try simp only[SL]at e
   ·refine A3<|A0<|B6 (es:=Zw iV []) U U (dT U) U U (fun _=>B3 (A6 fun _=>U)) (fun _=>U) ?_
    intro i
    (refine xO U U (by simp) U (fun _=>U) (fun _=>U) ?_;intro g2)
    refine y_S U<|xN [2,3] [2] U<|A9<|C0 (F9 U U (by simp) (by rfl) (D3 U U (C5 B5))) ?_
    obtain⟨a,b⟩:=f.1 (by omega);rw[a,b]
    rfl
   refine A7<|A3<|A0<|y_M U<|y_M U<|J7 U U (B9 (by omega)) ?_
   rw[show((s.length:Int)-1)=((s.length-1:Nat):Int) by omega];have l:=f2e ((s.drop 1).take (s.length-1-1));have h:((s.drop 1).take (s.length-1-1)).length<=s.length-2:=by simp only[ZH,Yp];omega
   refine Q7 U U (G1 U) (G1 (n:=1) U) (by omega) ?_;apply xC U
   ·apply A8
    ·exact B1 U
    exact C2
   ·exact d6t ((s.drop 1).take (s.length-1-1)) (by omega)
   refine⟨⟨U,U,U,dT U,U⟩,.inr ⟨I5 _ _,U⟩,B2,H3 (L1 fun _=>J5 U L3),fun _=>U,fun j=> ?_⟩;simp only[Zi];refine y_M U<|y_E U<|y_E U ?_
   (refine xO U U (by simp) U (fun _=>U) (fun _=>U) ?_;intro g5)
   refine y_S U<|xN [5,6] [5] U<|A3<|A0<|y_M U<|y_M U<|y_M U ?_
   refine D5 U U ?_ ?_<;>intro c<;>have g:=c<;>try simp only[SG]at g
   ·refine y_M U<|gT U U ?_
    apply xC U
    ·apply A8
     ·exact E7 U U U (by(simp;done)) (fun _=>U)
     exact C2
    ·exact a0d ((rdL ((s.drop 1).take (s.length-1-1))).getD []) (by omega)
    refine⟨⟨U,U,U,dT U,U⟩,.inr ⟨U,U⟩,B2,C8 U,fun _=>U,fun k=> ?_⟩;refine F0 U (by assumption) U U ?_
    (refine xO U U (by simp) U (fun _=>U) (fun _=>U) ?_;intro g2)
    refine y_S U<|xN [2,3] [2] U<|A9<|C0 (F9 U U (by simp) (by exact A6 fun _=>U) (D3 U U (C5 B5))) ?_
    obtain⟨a,b⟩:=f.2 (by omega);rw[b,c1z a];simp_all
    try rfl
   refine gF U U<|E8 U (by assumption) U U ?_
   (refine xO U U (by simp) U (fun _=>U) (fun _=>U) ?_;intro g2)
   refine y_S U<|xN [2,3] [2] U<|A9<|C0 (F9 U U (by simp) (by exact A6 fun _=>U) (D3 U U (C5 B5))) ?_
   obtain⟨a,b⟩:=f.2 (by omega);rw[b,c1z a];simp_all
   try rfl
  iterate 4 refine gF U U ?_
  refine F0 U (by assumption) U U<|xN [0,4,22] [] U ?_
  refine A4 U (fun e=> ?_) (fun e=>absurd e (by decide));refine A3<|A0 ?_
  (refine B4 U U (fun _=>U) ?_;intro g2)
  refine y_S U<|xN [2,3] [2] U<|A9<|C0 (F9 U U (by simp) (by rfl) (D3 U U (C5 B5))) ?_
  obtain⟨a,b⟩:=a9g (s:=s) (by exact .inr (.inl (by omega)));rw[a,b]
  rfl
 refine gF U U<|gF U U<|F0 U (by assumption) U U<|y_M U ?_
 iterate 5 refine H6 U U U ?_
 refine F0 U U U U<|xN [0,4,22] [] U ?_
 refine A4 U (fun e=> ?_) (fun e=>absurd e (by decide));refine A3<|A0 ?_
 (refine B4 U U (fun _=>U) ?_;intro g2)
 refine y_S U<|xN [2,3] [2] U<|A9<|C0 (F9 U U (by simp) (by rfl) (D3 U U (C5 B5))) ?_
 obtain⟨a,b⟩:=a9g (s:=s) (by exact .inl (by omega));rw[a,b]
 rfl
theorem b6z:D9 Tryz.f52=[0,2,3,4,15,6,24,5,7,34,43,9,12,53,8,10,11,48,59]:=by kernel_rfl
theorem b9y(ws:List W8)(f:ws.length<=1048600/\∀w∈ws,w.length<=1048576):CW (cxT oG) 52 [.list (ws.map tV)]=some (rtR (rdT ws),[]):=by
 obtain⟨y,g⟩:∃y:Nat,ws.length<y:=⟨_,ZJ _⟩;revert ws
 induction y with
 |zero=>intro ws f g;exact absurd g (Yz _)
 |succ y p=>
  intro ws f g;refine C7 U Tryz.func52 U ⟨by kernel_rfl,U,dT U,dT U,by decide⟩ b6z<|A3<|A0<|y_A U (fun _=>U) ?_
  intro g2
  (refine B4 U U (fun _=>U) ?_;intro g3)
  refine y_S U<|xN [0,2] [2] U<|A3<|A3<|A0<|y_M U<|B8 U U<|K6 U U<|xN [0,2,15] [2] U ?_
  refine A4 U ?_ ?_<;>intro a<;>try simp only[SL]at a
  ·have C:ws=[]:=ZW.1 (by simpa using a)
   subst C;refine A3<|A0<|I3 (fs:=[_,_,_]) U U U U U<|xB U U U U U U U U U ?_
   (refine B4 U U (fun _=>U) ?_;intro g3)
   refine y_S U<|xN [2,3,4] [2,3] U<|A9<|C0 (F5 U U U U (E3 U (J0 U (J0 U H2))) (F9 U U (by simp) (by rfl) (D3 U U (C5 B5)))) ?_
   rfl
  obtain⟨w,b,rfl⟩:∃w b,ws=w::b:=List.exists_cons_of_ne_nil (fun e=>by subst e;simp at a);have hw:=f.2 w (by simp);refine A7<|A3<|A0<|y_M U<|B7 U U U (fun _=>U) (by(change 0<_;omega))<|y_I U ?_
  apply xC U
  ·apply A8
   ·exact B1 U
   exact C2
  ·exact d9w w (by omega)
  refine⟨⟨U,U,U,dT U,U⟩,.inr ⟨I5 _ _,U⟩,B2,H3 (L1 fun _=>J5 U L3),fun _=>U,fun g21=> ?_⟩;simp only[Zi];refine y_M U<|y_E U<|y_E U ?_
  (refine xO U U (by simp) U (fun _=>U) (fun _=>U) ?_;intro g5)
  refine y_S U<|xN [0,2,5,6] [2,5] U<|A3<|A3<|A0<|y_M U<|xN [0,2,5,24] [2,5] U ?_
  refine A4 U ?_ ?_<;>intro a<;>try simp only[SL]at a
  ·obtain⟨ns,u⟩:=ZT.1 a
   have v:=f3b u;refine A3<|A0<|y_M U<|I3 (fs:=[_,_,_]) U U U U U<|y_M U<|N7 U U U (Mv.sized_map fun _=>U) I2 (G1 (n:=1) U) (by simp) ?_
   rw[show((Zw tV (w::b)).drop 1).take ((Zw tV (w::b)).length-1)=b.map tV from by rw[Zz,Yh,ZY,ZB (by simp)]];refine G0 U U U U (G6 U (O2 (by decide) (G6 U K9))) (fun _=>U) ⟨by decide,U,dT U,Zd _⟩ (fun _=>U) (fun _=>U) (fun _=>(by rfl)) ?_;intro z;simp only[K5,Zp,Zj];refine y_S U<|y_S U ?_
   refine G7 ⟨fun _=>⟨by(simp only[V5,Zj,Zm,Zz,Ya,Zp];decide+kernel),by decide+kernel⟩,[(.t 2,_),(.t 3,_),(.t 4,_),(.h 2,_),(.h 5,_)],⟨U,U,U,U,U,U,U,U,U,U,trivial⟩,?_⟩;refine A9<|C0 (F5 U U U U (E3 U (L6 U U (by simp) (fun _=>U) (J0 U H2))) (D3 U U (D3 U U (C5 B5)))) ?_
   rw[d3w u,v]
   rfl
  have j:numsOf w=none:=by simpa using a
  refine A7<|A3<|A0<|y_M U<|B7 U U U (fun _=>U) (by(change 0<_;omega))<|y_I U ?_
  refine xC1 U U (e5b (bA w)) ⟨U,U,U⟩ U U fun D=> ?_
  refine y_S U<|xN [0,2,7] [2] U<|A3<|A3<|A0<|y_M U<|F4 U U<|xN [0,2,7,34] [2] U ?_
  refine A4 U ?_ ?_<;>intro a<;>try simp only[SL]at a
  ·refine A3<|A0<|I3 (fs:=[_,_,_]) U U U U U<|xB U U U U U U U U U ?_
   (refine B4 U U (fun _=>U) ?_;intro g3)
   refine y_S U<|xN [2,3,4] [2,3] U<|A9<|C0 (F5 U U U U (E3 U (J0 U (J0 U H2))) (F9 U U (by simp) (by rfl) (D3 U U (C5 B5)))) ?_
   rw[e1l j (by omega)]
   rfl
  refine A7<|A3<|A0<|y_M U<|B7 U U U (fun _=>U) (by(change 0<_;omega))<|y_I U<|I3 (fs:=[_,_,_]) U U U U U<|y_A U (fun _=>U) ?_
  intro g8;refine xB U U U U U U U U U<|xN [0,2,7,8] [2,8] U<|A3<|A0 ?_
  rcases c6v (w:=bA w) (by omega)with l|l|l
  ·rw[l]
   refine y_M U<|N7 U U U (Mv.sized_map fun _=>U) I2 (G1 (n:=1) U) (by simp) ?_
   rw[show((Zw tV (w::b)).drop 1).take ((Zw tV (w::b)).length-1)=b.map tV from by rw[Zz,Yh,ZY,ZB (by simp)]];refine y_S U<|xN [2,7,8,9] [2,8] U<|A3<|B0<|H5<|A3<|A3<|A0<|y_M U<|M0 U U<|xN [2,7,8,9,43] [2,8] U ?_
   refine A4 U (fun a=>absurd a (by decide)) (fun a=> ?_);refine D6<|A3<|A0<|y_B U<|y_M U<|xB U U U U U U U U U<|y_S U<|y_S U<|xN [2,3,4] [2] U<|A9<|C0 (F5 U U U U (E3 U (J0 U (J0 U H2))) (D3 U U (D3 U U (C5 B5)))) ?_
   rw[e1z j l]
   rfl
  ·rw[l]
   refine y_M U<|N7 U U U (Mv.sized_map fun _=>U) I2 (G1 (n:=1) U) (by simp) ?_
   rw[show((Zw tV (w::b)).drop 1).take ((Zw tV (w::b)).length-1)=b.map tV from by rw[Zz,Yh,ZY,ZB (by simp)]];refine y_S U<|xN [2,7,8,9] [2,8] U<|A3<|B0<|H5<|A3<|A3<|A0<|y_M U<|M0 U U<|xN [2,7,8,9,43] [2,8] U ?_
   refine A4 U (fun a=> ?_) (fun a=>absurd a (by decide));refine A7<|A3<|B0<|A3<|A0<|y_M U ?_
   rcases c:rdT b with _|⟨E,B⟩
   ·skip
    apply xC U
    ·apply A8
     ·exact B1 U
     exact C2
    ·exact(by have i:=p b ⟨by simp only[Ze]at f;omega,fun x m=>f.2 x (Zn _ m)⟩ (by simp only[Ze]at g;omega);rw[c]at i;exact i)
    refine⟨⟨U,U,U,dT U,U⟩,.inl U,B2,H3 (J5 U (L1 fun _=>J5 U L3)),fun _=>C6 (B3 U) (by rfl),fun k=> ?_⟩;refine y_M U<|y_E U<|y_E U<|y_E U<|y_A U (fun _=>U) ?_
    intro g10;refine xB U U U U U U U U U ?_
    (refine I9 U U (by(simp;done)) U (fun _=>(B3 (by rfl))) (fun _=>U) ?_;intro g11)
    refine y_S U<|xN [2,7,8,10,11,12] [2,8,10] U<|A3<|A3<|A0<|y_M U<|H8 U<|xN [2,7,8,10,11,53] [2,8,10] U ?_
    refine A4 U (fun a=> ?_) (fun a=>absurd a (by decide));refine A3<|A0<|I3 (fs:=[_,_,_]) U U U U U<|xB U U U U U U U U U ?_
    (refine B4 U U (fun _=>U) ?_;intro g3)
    refine y_S U<|xN [2,3,4] [2,3] U<|A9<|C0 (F5 U U U U (E3 U (J0 U (J0 U H2))) (F9 U U (by simp) (by rfl) (D3 U U (C5 B5)))) ?_
    rw[c9n j l,c]
    rfl
   skip
   apply xC U
   ·apply A8
    ·exact B1 U
    exact C2
   ·exact(by have i:=p b ⟨by simp only[Ze]at f;omega,fun x m=>f.2 x (Zn _ m)⟩ (by simp only[Ze]at g;omega);rw[c]at i;exact i)
   refine⟨⟨U,U,U,dT U,U⟩,.inl U,B2,J2 U,fun _=>U,fun k=> ?_⟩;refine y_M U<|y_E U<|y_E U<|y_E U<|y_A U (fun _=>U) ?_
   intro g10;refine xB U U U U U U U U U<|y_S U<|y_S U<|xN [2,7,8,10,11,12] [2,8,10] U<|A3<|A3<|A0<|y_M U<|H8 U<|xN [2,7,8,10,11,53] [2,8,10] U ?_
   refine A4 U (fun a=>absurd a (by decide)) (fun a=> ?_);refine A7<|A3<|A0<|y_F U<|y_L U<|y_B U<|a4q (es:=Zw trV [_]) U U (dT U) U U (fun _=>B3 (A6 fun _=>U)) (fun _=>U) ?_
   intro q;refine U7 U U U (by simp) (by decide) U U U (dT U) (fun _=>⟨U,U⟩) (by simp only[H0];(simp only[Zo,Ze,Zf,ZL,Zi];omega)) (fun _=>U) ?_;intro s;refine y_F U<|O6 U U U U U (Zd _) U<|xN [2,7,8,11] [2,8,1000059] U<|A0<|y_M U<|y_S U<|xN [2,7,8,9] [2,8,1000059] U<|A0<|y_M U<|J7 U U (B9 (by omega))<|y_S U<|xN [2,7,8,9] [2,8,1000059] U<|H5<|A3<|A3<|A0<|y_M U<|M0 U U<|xN [2,7,8,9,43] [2,8,1000059] U ?_
   refine A4 U (fun a=>absurd a (by decide)) (fun a=> ?_);refine D6<|A3<|A0<|y_B U<|y_M U<|G0 U U U U (G6 U (G6 U (a0w (by decide) (by decide) U (by simp) fun _=>K9))) (fun _=>U) ⟨by decide,U,dT U,Zd _⟩ (fun _=>U) (fun _=>U) (fun _=>C6 (by rfl) (C6 (B3 (A6 fun _=>U)) (by rfl))) ?_
   intro z;simp only[K5,Zp,Zj];refine y_S U<|y_S U<|xN [2,3,4] [2,300002] U<|A9<|C0 (F5 U U U U (E3 U (J0 U (L6 U U (by simp) (fun _=>U) H2))) (D3 U U (D3 U U (C5 B5)))) ?_
   rw[c9n j l,c]
   rfl
  rw[l];refine y_M U<|N7 U U U (Mv.sized_map fun _=>U) I2 (G1 (n:=1) U) (by simp) ?_
  rw[show((Zw tV (w::b)).drop 1).take ((Zw tV (w::b)).length-1)=b.map tV from by rw[Zz,Yh,ZY,ZB (by simp)]];refine y_S U<|xN [2,7,8,9] [2,8] U<|A3<|B0<|H5<|A3<|A3<|A0<|y_M U<|M0 U U<|xN [2,7,8,9,43] [2,8] U ?_
  refine A4 U (fun a=> ?_) (fun a=>absurd a (by decide));refine A7<|A3<|B0<|A3<|A0<|y_M U ?_
  rcases c:rdT b with _|⟨E,B⟩
  ·skip
   apply xC U
   ·apply A8
    ·exact B1 U
    exact C2
   ·exact(by have i:=p b ⟨by simp only[Ze]at f;omega,fun x m=>f.2 x (Zn _ m)⟩ (by simp only[Ze]at g;omega);rw[c]at i;exact i)
   refine⟨⟨U,U,U,dT U,U⟩,.inl U,B2,H3 (J5 U (L1 fun _=>J5 U L3)),fun _=>C6 (B3 U) (by rfl),fun k=> ?_⟩;refine y_M U<|y_E U<|y_E U<|y_E U<|y_A U (fun _=>U) ?_
   intro g10;refine xB U U U U U U U U U ?_
   (refine I9 U U (by(simp;done)) U (fun _=>(B3 (by rfl))) (fun _=>U) ?_;intro g11)
   refine y_S U<|xN [2,7,8,10,11,12] [2,8,10] U<|A3<|A3<|A0<|y_M U<|H8 U<|xN [2,7,8,10,11,53] [2,8,10] U ?_
   refine A4 U (fun a=> ?_) (fun a=>absurd a (by decide));refine A3<|A0<|I3 (fs:=[_,_,_]) U U U U U<|xB U U U U U U U U U ?_
   (refine B4 U U (fun _=>U) ?_;intro g3)
   refine y_S U<|xN [2,3,4] [2,3] U<|A9<|C0 (F5 U U U U (E3 U (J0 U (J0 U H2))) (F9 U U (by simp) (by rfl) (D3 U U (C5 B5)))) ?_
   rw[a9t j l,c]
   rfl
  skip
  apply xC U
  ·apply A8
   ·exact B1 U
   exact C2
  ·exact(by have i:=p b ⟨by simp only[Ze]at f;omega,fun x m=>f.2 x (Zn _ m)⟩ (by simp only[Ze]at g;omega);rw[c]at i;exact i)
  refine⟨⟨U,U,U,dT U,U⟩,.inl U,B2,J2 U,fun _=>U,fun k=> ?_⟩;refine y_M U<|y_E U<|y_E U<|y_E U<|y_A U (fun _=>U) ?_
  intro g10;refine xB U U U U U U U U U<|y_S U<|y_S U<|xN [2,7,8,10,11,12] [2,8,10] U<|A3<|A3<|A0<|y_M U<|H8 U<|xN [2,7,8,10,11,53] [2,8,10] U ?_
  refine A4 U (fun a=>absurd a (by decide)) (fun a=> ?_);refine A7<|A3<|A0<|y_F U<|y_L U<|y_B U<|a4q (es:=Zw trV [_]) U U (dT U) U U (fun _=>B3 (A6 fun _=>U)) (fun _=>U) ?_
  intro q;refine U7 U U U (by simp) (by decide) U U U (dT U) (fun _=>⟨U,U⟩) (by simp only[H0];(simp only[Zo,Ze,Zf,ZL,Zi];omega)) (fun _=>U) ?_;intro s;refine y_F U<|O6 U U U U U (Zd _) U<|xN [2,7,8,11] [2,8,1000059] U<|A0<|y_M U<|y_S U<|xN [2,7,8,9] [2,8,1000059] U<|A0<|y_M U<|J7 U U (B9 (by omega))<|y_S U<|xN [2,7,8,9] [2,8,1000059] U<|H5<|A3<|A3<|A0<|y_M U<|M0 U U<|xN [2,7,8,9,43] [2,8,1000059] U ?_
  refine A4 U (fun a=> ?_) (fun a=>absurd a (by decide));refine A7<|A3<|B0<|A3<|A0<|y_M U ?_
  rcases o:rdT B with _|⟨F,G⟩
  ·skip
   apply xC U
   ·apply A8
    ·exact B1 U
    exact C2
   ·exact(by have i:=p B ⟨by have:=a1x c;simp only[Ze]at f;omega,fun x m=>f.2 x (Zn _ (b7u c x m))⟩ (by have:=a1x c;simp only[Ze]at g;omega);rw[o]at i;exact i)
   refine⟨⟨U,U,U,dT U,U⟩,.inl U,B2,H3 (J5 U (L1 fun _=>J5 U L3)),fun _=>C6 (B3 U) (by rfl),fun k=> ?_⟩;refine y_M U<|y_E U<|y_E U<|y_E U<|y_A U (fun _=>U) ?_
   intro g10;refine xB U U U U U U U U U ?_
   (refine I9 U U (by(simp;done)) U (fun _=>(B3 (by rfl))) (fun _=>U) ?_;intro g11)
   refine y_S U<|xN [2,7,8,10,11,12] [2,8,1000059,10] U<|A3<|A3<|A0<|y_M U<|H8 U<|xN [2,7,8,10,11,53] [2,8,1000059,10] U ?_
   refine A4 U (fun a=> ?_) (fun a=>absurd a (by decide));refine A3<|A0<|I3 (fs:=[_,_,_]) U U U U U<|xB U U U U U U U U U ?_
   (refine B4 U U (fun _=>U) ?_;intro g3)
   refine y_S U<|xN [2,3,4] [2,3] U<|A9<|C0 (F5 U U U U (E3 U (J0 U (J0 U H2))) (F9 U U (by simp) (by rfl) (D3 U U (C5 B5)))) ?_
   rw[a9t j l,c,Zl,o]
   rfl
  skip
  apply xC U
  ·apply A8
   ·exact B1 U
   exact C2
  ·exact(by have i:=p B ⟨by have:=a1x c;simp only[Ze]at f;omega,fun x m=>f.2 x (Zn _ (b7u c x m))⟩ (by have:=a1x c;simp only[Ze]at g;omega);rw[o]at i;exact i)
  refine⟨⟨U,U,U,dT U,U⟩,.inl U,B2,J2 U,fun _=>U,fun k=> ?_⟩;refine y_M U<|y_E U<|y_E U<|y_E U<|y_A U (fun _=>U) ?_
  intro g10;refine xB U U U U U U U U U<|y_S U<|y_S U<|xN [2,7,8,10,11,12] [2,8,1000059,10] U<|A3<|A3<|A0<|y_M U<|H8 U<|xN [2,7,8,10,11,53] [2,8,1000059,10] U ?_
  refine A4 U (fun a=>absurd a (by decide)) (fun a=> ?_);refine A7<|A3<|A0<|y_F U<|y_L U<|y_B U<|a4q (es:=Zw trV [_]) U U (dT U) U U (fun _=>B3 (A6 fun _=>U)) (fun _=>U) ?_
  intro q;refine xA U U U U (by simp) (by simp) U U U U U (fun _=>U) (by simp only[LN];omega) (fun _=>U) ?_;intro s;refine y_F U<|O6 U U U U U (Zd _) U<|xN [2,7,8,11] [2,8,1000059] U<|A0<|y_M U<|y_S U<|xN [2,7,8,9] [2,8,1000059] U<|A0<|y_M U<|J7 U U (B9 (by omega))<|y_S U<|xN [2,7,8,9] [2,8,1000059] U<|H5<|A3<|A3<|A0<|y_M U<|M0 U U<|xN [2,7,8,9,43] [2,8,1000059] U ?_
  refine A4 U (fun a=>absurd a (by decide)) (fun a=> ?_);refine D6<|A3<|A0<|y_B U<|y_M U<|G0 U U U U (G6 U (G6 U (a0w (by decide) (by decide) U (by simp) fun _=>K9))) (fun _=>U) ⟨by decide,U,dT U,Zd _⟩ (fun _=>U) (fun _=>U) (fun _=>C6 (by rfl) (C6 (B3 (A6 fun _=>U)) (by rfl))) ?_
  intro z;simp only[K5,Zp,Zj];refine y_S U<|y_S U<|xN [2,3,4] [2,300002] U<|A9<|C0 (F5 U U U U (E3 U (J0 U (L6 U U (by simp) (fun _=>U) H2))) (D3 U U (D3 U U (C5 B5)))) ?_
  rw[a9t j l,c,Zl,o]
  rfl
theorem b6o:D9 Tryz.f22=[0,2,3,4,17,6,7,5,21]:=by kernel_rfl
theorem b9s(s:List UInt8)(m:s.length<=1048576):CW (cxT oG) 22 [tV s]=some (.tup [trV (rpT s),bV (rdPlan s).isSome],[]):=by
 obtain⟨ws,a⟩:∃ws,ws=splitB 32 s:=⟨_,U⟩;have k:=Z0 32 s;have e:=a0h 32 s;rw[<-a]at k e;refine C7 U Tryz.func22 U ⟨by kernel_rfl,U,dT U,dT U,by decide⟩ b6o<|A3<|A0<|y_A U (fun _=>U) ?_
 intro g2;refine y_S U<|xN [0,2] [2] U<|A3<|A0<|y_M U ?_
 apply xC U
 ·apply A8
  ·exact B1 U
  apply A8
  ·exact B1 U
  exact C2
 ·exact c5w s (by omega) 32
 refine⟨⟨U,U,U,dT U,U⟩,.inl U,B2,H4,fun _=>U,fun g9=> ?_⟩;rw[<-a]
 try simp only[Zi]
 (refine xO U U (by simp) U (fun _=>U) (fun _=>U) ?_;intro g4)
 refine xN [0,2,4] [2,4] U<|A3<|A3<|A0<|y_M U<|W5 U U<|M0 U U<|y_M U ?_
 refine D5 U U ?_ ?_<;>intro j<;>have l:=j<;>try simp only[SG]at l
 ·refine y_M U<|gT U U<|G8 U U<|gT U U<|M0 U U<|E8 U (by assumption) U U<|xN [2,4,17] [2,4] U ?_
  refine A4 U ?_ ?_<;>intro h<;>try simp only[SL]at h
  ·refine A3<|A0<|I3 (fs:=[_,_,_]) U U U U U<|xB U U U U U U U U U<|y_S U<|xN [2,3] [2] U<|A9<|C0 (F5 U U U U (E3 U (J0 U (J0 U H2))) (D3 U U (C5 B5))) ?_
   obtain⟨b,c⟩:=b9t (s:=s) (by rw[a]at*;omega);rw[b,c]
   rfl
  have g:=e5k a (by omega);refine A7<|A3<|A0<|y_M U ?_
  rcases i:rdT ws with _|⟨t,r⟩
  ·skip
   apply xC U
   ·apply A8
    ·exact K2 U U (by(simp;done)) (fun _=>U)
    exact C2
   ·exact(by have f:=b9y (oG:=oG) ws ⟨by omega,fun w hw=>by have:=e w hw;omega⟩;rw[i]at f;exact f)
   refine⟨⟨U,U,U,dT U,U⟩,.inl U,B2,H3 (J5 U (L1 fun _=>J5 U L3)),fun _=>C6 (Q5 (A6 fun _=>U) (by decide)) (by rfl),fun g21=> ?_⟩;refine y_M U<|y_E U<|y_E U<|y_E U<|y_A U (fun _=>U) ?_
   intro g5;refine xB U U U U U U U U U ?_
   (refine I9 U U (by(simp;done)) U (fun _=>(B3 (by rfl))) (fun _=>U) ?_;intro g6)
   refine y_S U<|xN [2,5,6,7] [2,5] U<|A3<|A0<|y_B U<|y_M U<|y_M U<|H6 U U U<|H6 U U U<|H6 U U U<|E8 U U U U<|xB U U U U U U U U U<|y_S U<|xN [2,3] [2] U<|A9<|C0 (F5 U U U U (E3 U (E3 U (E3 U H2))) (D3 U U (C5 B5))) ?_
   obtain⟨b,c⟩:=g.1 i;rw[b,c]
   rfl
  skip
  apply xC U
  ·apply A8
   ·exact K2 U U (by(simp;done)) (fun _=>U)
   exact C2
  ·exact(by have f:=b9y (oG:=oG) ws ⟨by omega,fun w hw=>by have:=e w hw;omega⟩;rw[i]at f;exact f)
  refine⟨⟨U,U,U,dT U,U⟩,.inl U,B2,J2 U,fun _=>C6 (Q5 (A6 fun _=>U) (by decide)) (by rfl),fun g21=> ?_⟩;refine y_M U<|y_E U<|y_E U<|y_E U<|y_A U (fun _=>U) ?_
  intro g5;refine xB U U U U U U U U U<|y_S U<|y_S U<|xN [2,5,6,7] [2,5] U<|A3<|A0<|y_B U<|y_M U<|y_M U<|G2 U U U<|y_M U<|G2 U U U<|B8 U U<|G2 U U U<|K6 U U<|F0 U U U U<|xB U U U U U U U U U<|y_S U<|xN [2,3] [2] U<|A9<|C0 (F5 U U U U (E3 U (E3 U (E3 U H2))) (D3 U U (C5 B5))) ?_
  obtain⟨b,c⟩:=g.2 t r i;rw[b,c]
  rfl
 refine gF U U<|gF U U<|F0 U (by assumption) U U<|xN [2,4,17] [2,4] U ?_
 refine A4 U (fun h=> ?_) (fun h=>absurd h (by decide));refine A3<|A0<|I3 (fs:=[_,_,_]) U U U U U<|xB U U U U U U U U U<|y_S U<|xN [2,3] [2] U<|A9<|C0 (F5 U U U U (E3 U (J0 U (J0 U H2))) (D3 U U (C5 B5))) ?_
 obtain⟨b,c⟩:=b9t (s:=s) (by rw[a]at*;omega);rw[b,c]
 rfl
theorem c0n:D9 Tryz.f77=[0,2,8,7,9,6,5,3]:=by kernel_rfl
theorem b4q(ns:List Int)(s:ns.length<=1000000)(e:∀n∈ns,-1000000<=n/\n<=1000000):CW (cxT oG) 77 [L ns]=some (tV (P0 ns),[]):=by
 have l:=fun(i:Nat) (h:i<ns.length)=>e _ (N3 h)
 have p:=U5 (ns:=ns) e;refine C7 U Tryz.func77 U ⟨by kernel_rfl,U,dT U,dT U,by decide⟩ c0n<|A3<|A0<|y_S U<|xN [0] [] U<|A3<|A0 ?_
 (refine B4 U U (fun _=>U) ?_;intro g3)
 refine xN [0,3] [3] U<|A3<|A3<|A0<|y_M U<|B8 U U<|y_M U<|xN [3,6,7,8] [3] U<|B0<|D8 (β:=Nat×List (List UInt8)×Nat) [(.t 6,_),(.t 7,_)] (fun(z:Nat×List (List UInt8)×Nat)=>match z with|(i,a,g)=>[(.t 8,iV i),(.t 3,.sl 3 g none 0 a.length),(.h 3,.obj g 0 1 (a.map tV))]) (fun(z:Nat×List (List UInt8)×Nat)=>match z with|(i,a,g)=>i<=ns.length/\a=(ns.take i).map dec) (fun(z:Nat×List (List UInt8)×Nat)=>match z with|(i,a,g)=>ns.length-i) (0,[],_) ⟨U,U,U,U,U,trivial⟩ ⟨Zv _,U⟩ ?_
 intro z j;obtain⟨i,a,g⟩:=z
 try dsimp only at j
 obtain⟨o,b⟩:=j;have q:a.length=i:=by rw[b];simp;omega
 refine A3<|A0<|F4 U U<|xN [3,6,7,8,9] [3] U<|A3 ?_
 refine A4 U ?_ ?_<;>intro k<;>try simp only[SL]at k
 ·refine A7<|A3<|B0<|A3<|A0<|B7 U U U (fun _=>U) (by omega)<|y_I U<|y_S U<|xN [3,5,6,7,8] [3] U<|A0<|y_M U<|y_M U ?_
  have m:=l i (by omega);refine xC1 U U (b1a (ns.getD i default) (by omega)) ⟨U,U,U⟩ U U fun g14=> ?_
  refine B6 (es:=Zw tV [_]) U U (dT U) U U (fun _=>B3 (A6 fun _=>U)) (fun _=>U) ?_;intro g15;refine xA U U U U (by simp) (by simp) U U U U U (fun _=>U) (by simp only[LN];omega) (fun _=>U) ?_;intro g16
  (refine xO U U (by simp) U (fun _=>U) (fun _=>U) ?_;intro g3)
  refine xN [3,6,7,8] [3] U<|A0<|D7 U U (B9 (by omega))<|y_M U<|xN [3,6,7,8] [3] U ?_
  refine⟨(i+1,a++[dec (ns.getD i default)],_),?_,(by simp only;omega),⟨U,U,U,U,U,trivial⟩⟩;exact⟨by omega,by rw[b,<-c3k (by omega)]⟩
 refine D6<|A3<|A0<|y_M U ?_
 have f:a=ns.map dec:=by rw[b,ZB (by omega)]
 have c:joinB 44 a=P0 ns:=by rw[f];rfl
 apply xC U
 ·apply A8
  ·exact E7 U U U (by(simp;done)) (fun _=>U)
  apply A8
  ·exact B1 U
  exact C2
 ·exact e0c a 44 (by simp only[H0];omega) (by rw[c];simp only[H0];omega)
 refine⟨⟨U,U,U,dT U,U⟩,.inr ⟨U,U⟩,B2,C8 U,fun _=>U,fun g19=> ?_⟩;refine y_S U<|xN [2] [] U<|A9<|C4 U U trivial ?_
 rw[c]
theorem b3t:D9 Tryz.f124=[0,2]:=by kernel_rfl
theorem a8g(ns:List Int)(b:ns.length<=1000000)(a:∀n∈ns,-1000000<=n/\n<=1000000):CW (cxT oG) 124 [L ns]=some (tV (S3 ns),[]):=by
 have c:=U5 (ns:=ns) a;refine C7 U Tryz.func124 U ⟨by kernel_rfl,U,dT U,dT U,by decide⟩ b3t<|A3<|A0<|y_S U<|xN [0] [] U<|A3<|A0<|y_M U ?_
 refine xC1 U U (b4q ns b a) ⟨U,U,U⟩ U U fun g4=> ?_
 iterate 2 refine J9 U U (by simp only[H0,Zf,Ze,Zo];omega) ?_
 refine y_S U<|xN [2] [] U<|A9<|C4 U U trivial ?_
 rfl
theorem b5c:D9 Tryz.f165=[0,2,3,4,6,5,27,29,33,32,34,31,9,11,43,10,7]:=by kernel_rfl
theorem d2a(w:List UInt8)(S:w.length<=1048576):CW (cxT oG) 165 [tV w]=some (.tup [.own 1 ((rlX w).map iV),bV (okI w)],[]):=by
 have L:=e9k 91 w;have M:=e7s 93 (a6w 91 w);refine C7 U Tryz.func165 U ⟨by kernel_rfl,U,dT U,dT U,by decide⟩ b5c<|A3<|A0 ?_
 (refine B4 U U (fun _=>U) ?_;intro g2)
 refine y_S U<|xN [0] [] U<|A3<|A0<|y_M U ?_
 apply xC U
 ·apply A8
  ·exact B1 U
  apply A8
  ·exact B1 U
  exact C2
 ·exact f4r w 91
 refine⟨⟨U,U,U,dT U,U⟩,.inl U,B2,J2 U,fun _=>U,fun g14=> ?_⟩;refine y_M U<|y_E U<|y_E U<|y_S U<|y_S U<|xN [0,4,5] [] U<|A3<|A0<|y_M U ?_
 apply xC U
 ·apply A8
  ·exact B1 U
  apply A8
  ·exact B1 U
  exact C2
 ·exact f4s (a6w 91 w) 93 (by omega)
 refine⟨⟨U,U,U,dT U,U⟩,.inl U,B2,J2 U,fun _=>U,fun g19=> ?_⟩;refine y_M U<|y_E U<|y_E U<|y_S U<|y_S U<|xN [0,4,5,6] [] U<|A3<|A3<|A0<|y_M U<|H8 U<|y_M U ?_
 refine D5 U U ?_ ?_<;>intro l<;>have o:=l<;>try simp only[SG]at o
 ·refine y_M U<|gT U U<|H8 U<|E8 U (by assumption) U U<|xN [0,4,27] [] U ?_
  refine A4 U ?_ ?_<;>intro b<;>try simp only[SL]at b
  ·refine A3<|A0 ?_
   (refine B4 U U (fun _=>U) ?_;intro g2)
   refine y_S U<|xN [2,3] [2] U<|A9<|C0 (F9 U U (by simp) (by rfl) (D3 U U (C5 B5))) ?_
   obtain⟨c,e⟩:=c9e (d3a (w:=w) (by simp_all[okB]));rw[c,e]
   rfl
  have f:okB w=true:=by simp[okB];constructor<;>assumption
  obtain⟨n,a⟩:∃n,n=splitB 44 (a7v w):=⟨_,U⟩;have E:=Z0 44 (a7v w);have u:=a0h 44 (a7v w);rw[<-a]at E u;have O:=e9j f;refine A7<|A3<|A0 ?_
  (refine B4 U U (fun _=>U) ?_;intro g7)
  refine xN [0,4,7] [7] U<|A3<|A3<|A0<|y_M U<|b5j U U<|xN [0,4,7,29] [7] U ?_
  refine A4 U ?_ ?_<;>intro b<;>try simp only[SL]at b
  ·have p:a7v w≠[]:=b
   refine A3<|A0<|y_M U ?_
   have F:=a;apply a1h U
   ·apply A8
    ·exact B1 U
    apply A8
    ·exact B1 U
    exact C2
   ·exact d1c (a7v w) 44 (by unfold a7v;omega)
   ·exact⟨U,U,U,dT U,U⟩
   ·exact .inl U
   ·exact B2
   ·exact H4
   ·(intro _;exact C6 (B3 (A6 fun _=>U)) U)
   intro I;rw[<-F]
   try simp only[Zi]
   refine G8 U U<|y_M U<|xN [0,7,31,32,33] [7,1000031] U<|B0<|D8 (β:=Nat×List Int×Nat) [(.t 0,_),(.t 31,_),(.t 32,_),(.h 1000031,_)] (fun(z:Nat×List Int×Nat)=>match z with|(i,ns,g)=>[(.t 33,iV i),(.t 7,.sl 7 g none 0 ns.length),(.h 7,.obj g 0 1 (ns.map iV))]) (fun(z:Nat×List Int×Nat)=>match z with|(i,ns,g)=>i<=n.length/\rdA (n.take i)=some ns) (fun(z:Nat×List Int×Nat)=>match z with|(i,ns,g)=>n.length-i) (0,[],_) ⟨U,U,U,U,U,U,U,trivial⟩ ⟨Zv _,U⟩ ?_
   intro z H;obtain⟨i,ns,g⟩:=z
   try dsimp only at H
   obtain⟨N,k⟩:=H;have P:=fun h:i<n.length=>u _ (N2 h)
   have D:=c1y k;rw[ZH]at D;refine A3<|A0<|F4 U U<|xN [0,7,31,32,33,34] [7,1000031] U<|A3 ?_
   refine A4 U ?_ ?_<;>intro b<;>try simp only[SL]at b
   ·refine A7<|A3<|B0<|A3<|A0<|C9 U U U U (by omega) (by(simp;done)) U<|E6 U U (by omega) (fun _=>U) (fun _=>U) U<|y_S U<|xN [0,7,9,31,32,33] [7,1000031] U<|A3<|A0<|y_M U ?_
    rcases j:Lib.atoiAll (n.getD i default)with v|_|_
    ·skip
     apply xC U
     ·apply A8
      ·exact B1 U
      exact C2
     ·exact(by have m:=d8b (oG:=oG) (n.getD i default) (by omega);unfold atR at m;rw[j]at m;exact m)
     refine⟨⟨U,U,U,dT U,U⟩,.inl U,B2,J2 U,fun _=>U,fun q=> ?_⟩;refine y_M U<|y_E U<|y_E U<|y_S U<|y_S U<|xN [0,7,10,11,31,32,33] [7,1000031] U<|A3<|A3<|A0<|y_M U<|e7r U U U U<|xN [0,7,10,31,32,33,43] [7,1000031] U ?_
     refine A4 U (fun b=>absurd b (by decide)) (fun b=> ?_);refine A7<|A0<|y_M U<|y_M U<|B6 (es:=Zw iV [_]) U U (dT U) U U (fun _=>B3 (A6 fun _=>U)) (fun _=>U) ?_
     intro J;refine xA U U U U (by simp) (by simp) U U U U U (fun _=>U) (by simp only[LN];omega) (fun _=>U) ?_;intro K
     (refine xO U U (by simp) U (fun _=>U) (fun _=>U) ?_;intro g7)
     refine xN [0,7,31,32,33] [7,1000031] U<|A0<|D7 U U (B9 (by omega))<|y_M U<|xN [0,7,31,32,33] [7,1000031] U ?_
     refine⟨(i+1,ns++[v],_),?_,(by simp only;omega),⟨U,U,U,U,U,U,U,trivial⟩⟩;exact⟨by omega,f1a (by omega) k j⟩
    ·skip
     apply xC U
     ·apply A8
      ·exact B1 U
      exact C2
     ·exact(by have m:=d8b (oG:=oG) (n.getD i default) (by omega);unfold atR at m;rw[j]at m;exact m)
     refine⟨⟨U,U,U,dT U,U⟩,.inl U,B2,J2 U,fun _=>U,fun q=> ?_⟩;refine y_M U<|y_E U<|y_E U<|y_S U<|y_S U<|xN [0,7,10,11,31,32,33] [7,1000031] U<|A3<|A3<|A0<|y_M U<|d4f U U U<|xN [0,7,10,31,32,33,43] [7,1000031] U ?_
     refine A4 U (fun b=> ?_) (fun b=>absurd b (by decide));refine A3<|A0 ?_
     (refine B4 U U (fun _=>U) ?_;intro g2)
     refine y_S U<|xN [2,3] [2] U<|A9<|C0 (F9 U U (by simp) (by rfl) (D3 U U (C5 B5))) ?_
     obtain⟨c,e⟩:=c9e (w:=w) (by rw[b7k f p,<-a];exact d3f (i:=i) (by omega) (by intro v x;rw[j]at x;cases x));rw[c,e]
     rfl
    skip
    apply xC U
    ·apply A8
     ·exact B1 U
     exact C2
    ·exact(by have m:=d8b (oG:=oG) (n.getD i default) (by omega);unfold atR at m;rw[j]at m;exact m)
    refine⟨⟨U,U,U,dT U,U⟩,.inl U,B2,J2 U,fun _=>U,fun q=> ?_⟩;refine y_M U<|y_E U<|y_E U<|y_S U<|y_S U<|xN [0,7,10,11,31,32,33] [7,1000031] U<|A3<|A3<|A0<|y_M U<|d4f U U U<|xN [0,7,10,31,32,33,43] [7,1000031] U ?_
    refine A4 U (fun b=> ?_) (fun b=>absurd b (by decide));refine A3<|A0 ?_
    (refine B4 U U (fun _=>U) ?_;intro g2)
    refine y_S U<|xN [2,3] [2] U<|A9<|C0 (F9 U U (by simp) (by rfl) (D3 U U (C5 B5))) ?_
    obtain⟨c,e⟩:=c9e (w:=w) (by rw[b7k f p,<-a];exact d3f (i:=i) (by omega) (by intro v x;rw[j]at x;cases x));rw[c,e]
    rfl
   refine D6<|A3<|A0<|y_M U<|y_M U ?_
   apply xC U
   ·apply A8
    ·exact E7 U U U (by(simp;done)) (fun _=>U)
    exact C2
   ·exact T6 ns (by omega)
   refine⟨⟨U,U,U,dT U,U⟩,.inr ⟨U,U⟩,B2,C8 U,fun _=>U,fun y=> ?_⟩;refine y_M U ?_;refine D5 U U ?_ ?_<;>intro l<;>have o:=l<;>try simp only[SG]at o
   ·refine y_M U<|gT U U ?_
    (have C:=e2a (ns:=ns) (by assumption);have R:=a4r (show vd ns=true by assumption))
    apply xC U
    ·apply A8
     ·exact E7 U U U (by(simp;done)) (fun _=>U)
     exact C2
    ·exact a8g ns (by omega) C
    refine⟨⟨U,U,U,dT U,U⟩,.inr ⟨U,U⟩,B2,C8 U,fun _=>U,fun B=> ?_⟩;refine gT U U<|y_M U<|gT U U<|H1 U U<|F0 U (by assumption) U U ?_
    (refine xO U U (by simp) U (fun _=>U) (fun _=>U) ?_;intro g2)
    refine y_S U<|xN [2,3] [2] U<|A9<|C0 (F9 U U (by simp) (by exact A6 fun _=>U) (D3 U U (C5 B5))) ?_
    (have G:=p;obtain⟨c,e⟩:=b1n (ns:=ns) (w:=w) (by rw[b7k f G,<-a];rw[ZB (by omega)]at k;exact k))
    (rw[c,e,o,Bool.true_and];rfl)
   refine gF U U<|gF U U<|gF U U<|E8 U (by assumption) U U ?_
   (refine xO U U (by simp) U (fun _=>U) (fun _=>U) ?_;intro g2)
   refine y_S U<|xN [2,3] [2] U<|A9<|C0 (F9 U U (by simp) (by exact A6 fun _=>U) (D3 U U (C5 B5))) ?_
   (have G:=p;obtain⟨c,e⟩:=b1n (ns:=ns) (w:=w) (by rw[b7k f G,<-a];rw[ZB (by omega)]at k;exact k))
   (rw[c,e,o,Bool.false_and];rfl)
  have s:a7v w=[]:=b;refine A7<|A3<|A0<|y_M U<|y_M U ?_
  apply xC U
  ·apply A8
   ·exact b7m U U U U U
   exact C2
  ·exact T6 [] (by decide)
  refine⟨⟨U,U,U,dT U,U⟩,.inr ⟨U,U⟩,B2,C8 U,fun _=>U,fun y=> ?_⟩;refine y_M U ?_;refine D5 U U ?_ ?_<;>intro l<;>have o:=l<;>try simp only[SG]at o
  ·refine y_M U<|gT U U ?_
   skip
   apply xC U
   ·apply A8
    ·exact b7m U U U U U
    exact C2
   ·exact a8g [] (by decide) (by simp)
   refine⟨⟨U,U,U,dT U,U⟩,.inr ⟨U,U⟩,B2,C8 U,fun _=>U,fun B=> ?_⟩;refine gT U U<|y_M U<|gT U U<|H1 U U<|F0 U U U U ?_
   (refine I9 U U (by(simp;done)) U (fun _=>(B3 (by rfl))) (fun _=>U) ?_;intro g2)
   refine y_S U<|xN [2,3] [2] U<|A9<|C0 (F9 U U (by simp) (by rfl) (D3 U U (C5 B5))) ?_
   obtain⟨c,e⟩:=b1n (ns:=[]) (w:=w) (e2z f s)
   (rw[c,e,o,Bool.true_and];rfl)
  refine gF U U<|gF U U<|gF U U<|E8 U (by assumption) U U ?_
  (refine I9 U U (by(simp;done)) U (fun _=>(B3 (by rfl))) (fun _=>U) ?_;intro g2)
  refine y_S U<|xN [2,3] [2] U<|A9<|C0 (F9 U U (by simp) (by rfl) (D3 U U (C5 B5))) ?_
  obtain⟨c,e⟩:=b1n (ns:=[]) (w:=w) (e2z f s)
  (rw[c,e,o,Bool.false_and];rfl)
 refine gF U U<|F0 U (by assumption) U U<|xN [0,4,27] [] U ?_
 refine A4 U (fun b=> ?_) (fun b=>absurd b (by decide));refine A3<|A0 ?_
 (refine B4 U U (fun _=>U) ?_;intro g2)
 refine y_S U<|xN [2,3] [2] U<|A9<|C0 (F9 U U (by simp) (by rfl) (D3 U U (C5 B5))) ?_
 obtain⟨c,e⟩:=c9e (d3a (w:=w) (by simp_all[okB]));rw[c,e]
 rfl
theorem b6h:D9 Tryz.f149=[0,2,3,4,6,12,5]:=by kernel_rfl
theorem a3w(w:List UInt8)(j:w.length<=1048576):CW (cxT oG) 149 [tV w]=some (.tup [tV (if(numsOf w).isSome=true then lW else w),.own 1 (((numsOf w).getD []).map iV),bV ((numsOf w).isSome||decide (0<=rch (bA w)))],[]):=by
 refine C7 U Tryz.func149 U ⟨by kernel_rfl,U,dT U,dT U,by decide⟩ b6h<|A3<|A0<|y_S U ?_
 (refine B4 U U (fun _=>U) ?_;intro g3)
 refine y_S U<|xN [0] [] U<|A3<|A3<|A0<|y_M U ?_
 apply xC U
 ·apply A8
  ·exact B1 U
  exact C2
 ·exact(by have h:=d2a (oG:=oG) w j;rw[f5i]at h;exact h)
 refine⟨⟨U,U,U,dT U,U⟩,.inr ⟨I5 _ _,U⟩,B2,H3 (L1 fun _=>J5 U L3),fun _=>U,fun g9=> ?_⟩;simp only[Zi];refine y_M U<|y_E U<|y_E U ?_
 (refine xO U U (by simp) U (fun _=>U) (fun _=>U) ?_;intro g5)
 refine y_S U<|xN [0,5,6] [5] U<|A3<|A0<|y_M U<|xN [0,5,12] [5] U ?_
 refine A4 U ?_ ?_<;>intro f<;>try simp only[SL]at f
 ·obtain⟨ns,b⟩:=ZT.1 f
  have c:=f5e b;refine A3<|A0<|y_M U<|y_S U ?_
  (refine xO U U (by simp) U (fun _=>U) (fun _=>U) ?_;intro g3)
  refine y_S U<|xN [2,3,4] [3] U<|A9<|C0 (D3 U U (F9 U U (by simp) (by exact A6 fun _=>U) (D3 U U (C5 B5)))) ?_
  rw[b,c]
  rfl
 have a:numsOf w=none:=by simpa using f
 have e:=f2j w;refine A7<|A3<|A0<|y_M U<|y_M U<|b5j U U<|y_M U ?_
 refine D5 U U ?_ ?_<;>intro g<;>have i:=g<;>try simp only[SG]at i
 ·refine y_M U<|gT U U ?_
  refine xC1 U U (b2s (bA w)) ⟨U,U,U⟩ U U fun g19=> ?_
  refine gT U U<|c0r U U<|F0 U (by assumption) U U<|y_S U ?_
  (refine B4 U U (fun _=>U) ?_;intro g3)
  refine y_S U<|xN [2,3,4] [3] U<|A9<|C0 (D3 U U (F9 U U (by simp) (by rfl) (D3 U U (C5 B5)))) ?_
  rw[a,<-e];simp_all
  try rfl
 refine gF U U<|gF U U<|E8 U (by assumption) U U<|y_S U ?_
 (refine B4 U U (fun _=>U) ?_;intro g3)
 refine y_S U<|xN [2,3,4] [3] U<|A9<|C0 (D3 U U (F9 U U (by simp) (by rfl) (D3 U U (C5 B5)))) ?_
 rw[a,<-e];simp_all
 try rfl
theorem b4x:D9 Tryz.f123=[0,2,3,4,15,7,26,6,5,35,34,36,9,12,44,8,10,11,39,50]:=by kernel_rfl
theorem b5o(ws:List W8)(g:ws.length<=1048600/\∀w∈ws,w.length<=1048576):CW (cxT oG) 123 [.list (ws.map tV)]=some (rtR (rdT ws),[]):=by
 obtain⟨y,j⟩:∃y:Nat,ws.length<y:=⟨_,ZJ _⟩;revert ws
 induction y with
 |zero=>intro ws g j;exact absurd j (Yz _)
 |succ y q=>
  intro ws g j;refine C7 U Tryz.func123 U ⟨by kernel_rfl,U,dT U,dT U,by decide⟩ b4x<|A3<|A0<|y_A U (fun _=>U) ?_
  intro g2
  (refine B4 U U (fun _=>U) ?_;intro g3)
  refine y_S U<|xN [0,2] [2] U<|A3<|A3<|A0<|y_M U<|B8 U U<|K6 U U<|xN [0,2,15] [2] U ?_
  refine A4 U ?_ ?_<;>intro a<;>try simp only[SL]at a
  ·have C:ws=[]:=ZW.1 (by simpa using a)
   subst C;refine A3<|A0<|I3 (fs:=[_,_,_]) U U U U U<|xB U U U U U U U U U ?_
   (refine B4 U U (fun _=>U) ?_;intro g3)
   refine y_S U<|xN [2,3,4] [2,3] U<|A9<|C0 (F5 U U U U (E3 U (J0 U (J0 U H2))) (F9 U U (by simp) (by rfl) (D3 U U (C5 B5)))) ?_
   rfl
  obtain⟨w,b,rfl⟩:∃w b,ws=w::b:=List.exists_cons_of_ne_nil (fun e=>by subst e;simp at a);have hw:=g.2 w (by simp);refine A7<|A3<|A0<|y_M U<|B7 U U U (fun _=>U) (by(change 0<_;omega))<|y_I U ?_
  rcases e8h w with⟨ns,v⟩|⟨i,k⟩|⟨i,k⟩|⟨i,k⟩|⟨i,k⟩
  ·skip
   apply xC U
   ·apply A8
    ·exact B1 U
    exact C2
   ·exact(show CW (cxT oG) 149 [tV w]=some (.tup [tV lW,.own 1 (ns.map iV),bV true],[])from by have c:=a3w (oG:=oG) w (by omega);rw[v]at c;exact c)
   refine⟨⟨U,U,U,dT U,U⟩,.inr ⟨by simp[hasList,G3],U⟩,B2,H3 (J5 U (L1 fun _=>J5 U L3)),fun _=>C6 (B3 (A6 fun _=>U)) (by rfl),fun g21=> ?_⟩
   try simp only[Zi]
   refine y_M U<|y_E U<|y_E U<|y_E U<|y_S U ?_
   (refine xO U U (by simp) U (fun _=>U) (fun _=>U) ?_;intro g6)
   refine y_S U<|xN [0,2,5,6,7] [2,6] U<|A3<|A3<|A0<|y_M U<|H8 U<|xN [0,2,5,6,26] [2,6] U ?_
   refine A4 U (fun a=>absurd a (by decide)) (fun a=> ?_);refine A7<|A3<|A0<|y_M U<|y_M U<|I3 (fs:=[_,_,_]) U U U U U<|y_M U<|N7 U U U (Mv.sized_map fun _=>U) I2 (G1 (n:=1) U) (by simp) ?_
   rw[show((Zw tV (w::b)).drop 1).take ((Zw tV (w::b)).length-1)=b.map tV from by rw[Zz,Yh,ZY,ZB (by simp)]];refine y_A U (fun _=>U) ?_;intro g8;refine G0 U U U U (G6 U (O2 (by decide) (G6 U K9))) (fun _=>U) ⟨by decide,U,dT U,Zd _⟩ (fun _=>U) (fun _=>U) (fun _=>(by rfl)) ?_;intro z;simp only[K5,Zp,Zj];refine y_S U ?_;refine G7 ⟨fun _=>⟨by(simp only[V5,Zj,Zm,Zz,Ya,Zp];decide+kernel),by decide+kernel⟩,[(.t 2,_),(.t 5,_),(.t 8,_),(.t 9,_),(.h 2,_),(.h 8,_),(.h 6,_)],⟨U,U,U,U,U,U,U,U,U,U,U,U,U,U,trivial⟩,?_⟩;refine A3<|A3<|A0<|y_M U ?_
   refine xC1 U U (b2s (bA lW)) ⟨U,U,U⟩ U U fun p=> ?_
   rw[show nd (bA lW)=0 from f3y U];refine y_M U<|xN [2,8,9,34,35] [2,8,6] U<|B0<|H5<|A3<|A0<|F4 U U<|xN [2,8,9,34,35,36] [2,8,6] U<|A3 ?_
   refine A4 U (fun a=>absurd a (by decide)) (fun a=> ?_);refine D6<|A3<|A0<|y_B U<|y_M U<|G0 U U U U (G6 U (O2 (by decide) (G6 U K9))) (fun _=>U) ⟨by decide,U,dT U,Zd _⟩ (fun _=>U) (fun _=>U) (fun _=>(by rfl)) ?_
   intro z;simp only[K5,Zp,Zj];refine y_S U<|y_S U<|xN [2,3,4] [2,6] U<|A9<|C0 (F5 U U U U (E3 U (L6 U U (by simp) (fun _=>U) (J0 U H2))) (D3 U U (D3 U U (C5 B5)))) ?_
   rw[d3w v]
   rfl
  ·skip
   apply xC U
   ·apply A8
    ·exact B1 U
    exact C2
   ·exact(show CW (cxT oG) 149 [tV w]=some (.tup [tV w,.own 1 [],bV true],[])from by have c:=a3w (oG:=oG) w (by omega);rw[i]at c;rw[show decide (0<=rch (bA w))=true from decide_eq_true (by omega)]at c;exact c)
   refine⟨⟨U,U,U,dT U,U⟩,.inr ⟨U,U⟩,B2,H3 (J5 U (L1 fun _=>J5 U L3)),fun _=>C6 (B3 U) (by rfl),fun g21=> ?_⟩
   try simp only[Zi]
   refine y_M U<|y_E U<|y_E U<|y_E U<|y_S U ?_
   (refine I9 U U (by(simp;done)) U (fun _=>(B3 (by rfl))) (fun _=>U) ?_;intro g6)
   refine y_S U<|xN [0,2,5,6,7] [2,6] U<|A3<|A3<|A0<|y_M U<|H8 U<|xN [0,2,5,6,26] [2,6] U ?_
   refine A4 U (fun a=>absurd a (by decide)) (fun a=> ?_);refine A7<|A3<|A0<|y_M U<|y_M U<|I3 (fs:=[_,_,_]) U U U U U<|y_M U<|N7 U U U (Mv.sized_map fun _=>U) I2 (G1 (n:=1) U) (by simp) ?_
   rw[show((Zw tV (w::b)).drop 1).take ((Zw tV (w::b)).length-1)=b.map tV from by rw[Zz,Yh,ZY,ZB (by simp)]];refine y_A U (fun _=>U) ?_;intro g8;refine G0 U U U U (G6 U (O2 (by decide) (G6 U K9))) (fun _=>U) ⟨by decide,U,dT U,Zd _⟩ (fun _=>U) (fun _=>U) (fun _=>(by rfl)) ?_;intro z;simp only[K5,Zp,Zj];refine y_S U ?_;refine G7 ⟨fun _=>⟨by(simp only[V5,Zj,Zm,Zz,Ya,Zp];decide+kernel),by decide+kernel⟩,[(.t 2,_),(.t 5,_),(.t 8,_),(.t 9,_),(.h 2,_),(.h 8,_),(.h 6,_)],⟨U,U,U,U,U,U,U,U,U,U,U,U,U,U,trivial⟩,?_⟩;refine A3<|A3<|A0<|y_M U ?_
   refine xC1 U U (b2s (bA w)) ⟨U,U,U⟩ U U fun p=> ?_
   rw[show nd (bA w)=0 from(S8 (by omega)).trans k];refine y_M U<|xN [2,8,9,34,35] [2,8,6] U<|B0<|H5<|A3<|A0<|F4 U U<|xN [2,8,9,34,35,36] [2,8,6] U<|A3 ?_
   refine A4 U (fun a=>absurd a (by decide)) (fun a=> ?_);refine D6<|A3<|A0<|y_B U<|y_M U<|G0 U U U U (G6 U (O2 (by decide) (G6 U K9))) (fun _=>U) ⟨by decide,U,dT U,Zd _⟩ (fun _=>U) (fun _=>U) (fun _=>(by rfl)) ?_
   intro z;simp only[K5,Zp,Zj];refine y_S U<|y_S U<|xN [2,3,4] [2,6] U<|A9<|C0 (F5 U U U U (E3 U (c8x U U U (J0 U H2))) (D3 U U (D3 U U (C5 B5)))) ?_
   rw[e1z i k]
   rfl
  ·skip
   apply xC U
   ·apply A8
    ·exact B1 U
    exact C2
   ·exact(show CW (cxT oG) 149 [tV w]=some (.tup [tV w,.own 1 [],bV true],[])from by have c:=a3w (oG:=oG) w (by omega);rw[i]at c;rw[show decide (0<=rch (bA w))=true from decide_eq_true (by omega)]at c;exact c)
   refine⟨⟨U,U,U,dT U,U⟩,.inr ⟨U,U⟩,B2,H3 (J5 U (L1 fun _=>J5 U L3)),fun _=>C6 (B3 U) (by rfl),fun g21=> ?_⟩
   try simp only[Zi]
   refine y_M U<|y_E U<|y_E U<|y_E U<|y_S U ?_
   (refine I9 U U (by(simp;done)) U (fun _=>(B3 (by rfl))) (fun _=>U) ?_;intro g6)
   refine y_S U<|xN [0,2,5,6,7] [2,6] U<|A3<|A3<|A0<|y_M U<|H8 U<|xN [0,2,5,6,26] [2,6] U ?_
   refine A4 U (fun a=>absurd a (by decide)) (fun a=> ?_);refine A7<|A3<|A0<|y_M U<|y_M U<|I3 (fs:=[_,_,_]) U U U U U<|y_M U<|N7 U U U (Mv.sized_map fun _=>U) I2 (G1 (n:=1) U) (by simp) ?_
   rw[show((Zw tV (w::b)).drop 1).take ((Zw tV (w::b)).length-1)=b.map tV from by rw[Zz,Yh,ZY,ZB (by simp)]];refine y_A U (fun _=>U) ?_;intro g8;refine G0 U U U U (G6 U (O2 (by decide) (G6 U K9))) (fun _=>U) ⟨by decide,U,dT U,Zd _⟩ (fun _=>U) (fun _=>U) (fun _=>(by rfl)) ?_;intro z;simp only[K5,Zp,Zj];refine y_S U ?_;refine G7 ⟨fun _=>⟨by(simp only[V5,Zj,Zm,Zz,Ya,Zp];decide+kernel),by decide+kernel⟩,[(.t 2,_),(.t 5,_),(.t 8,_),(.t 9,_),(.h 2,_),(.h 8,_),(.h 6,_)],⟨U,U,U,U,U,U,U,U,U,U,U,U,U,U,trivial⟩,?_⟩;refine A3<|A3<|A0<|y_M U ?_
   refine xC1 U U (b2s (bA w)) ⟨U,U,U⟩ U U fun p=> ?_
   rw[show nd (bA w)=1 from(S8 (by omega)).trans k];refine y_M U<|xN [2,8,9,34,35] [2,8,6] U<|B0<|H5<|A3<|A0<|F4 U U<|xN [2,8,9,34,35,36] [2,8,6] U<|A3 ?_
   refine A4 U (fun a=> ?_) (fun a=>absurd a (by decide));refine A7<|A3<|B0<|A3<|A0<|y_M U ?_
   rcases f:rdT b with _|⟨D,B⟩
   ·skip
    apply xC U
    ·apply A8
     ·exact B1 U
     exact C2
    ·exact(by have c:=q b ⟨by simp only[Ze]at g;omega,fun x m=>g.2 x (Zn _ m)⟩ (by simp only[Ze]at j;omega);rw[f]at c;exact c)
    refine⟨⟨U,U,U,dT U,U⟩,.inl U,B2,H3 (J5 U (L1 fun _=>J5 U L3)),fun _=>C6 (B3 U) (by rfl),fun l=> ?_⟩;refine y_M U<|y_E U<|y_E U<|y_E U<|y_A U (fun _=>U) ?_
    intro g10;refine xB U U U U U U U U U ?_
    (refine I9 U U (by(simp;done)) U (fun _=>(B3 (by rfl))) (fun _=>U) ?_;intro g11)
    refine y_S U<|xN [2,8,10,11,12,34,35] [2,8,6,10] U<|A3<|A3<|A0<|y_M U<|H8 U<|xN [2,8,10,11,34,35,44] [2,8,6,10] U ?_
    refine A4 U (fun a=> ?_) (fun a=>absurd a (by decide));refine A3<|A0<|I3 (fs:=[_,_,_]) U U U U U<|xB U U U U U U U U U ?_
    (refine B4 U U (fun _=>U) ?_;intro g3)
    refine y_S U<|xN [2,3,4] [2,3] U<|A9<|C0 (F5 U U U U (E3 U (J0 U (J0 U H2))) (F9 U U (by simp) (by rfl) (D3 U U (C5 B5)))) ?_
    rw[c9n i k,f]
    rfl
   skip
   apply xC U
   ·apply A8
    ·exact B1 U
    exact C2
   ·exact(by have c:=q b ⟨by simp only[Ze]at g;omega,fun x m=>g.2 x (Zn _ m)⟩ (by simp only[Ze]at j;omega);rw[f]at c;exact c)
   refine⟨⟨U,U,U,dT U,U⟩,.inl U,B2,J2 U,fun _=>U,fun l=> ?_⟩;refine y_M U<|y_E U<|y_E U<|y_E U<|y_A U (fun _=>U) ?_
   intro g10;refine xB U U U U U U U U U<|y_S U<|y_S U<|xN [2,8,10,11,12,34,35] [2,8,6,10] U<|A3<|A3<|A0<|y_M U<|H8 U<|xN [2,8,10,11,34,35,44] [2,8,6,10] U ?_
   refine A4 U (fun a=>absurd a (by decide)) (fun a=> ?_);refine A7<|A3<|A0<|y_F U<|y_L U<|y_B U<|B6 (es:=Zw trV [_]) U U (dT U) U U (fun _=>B3 (A6 fun _=>U)) (fun _=>U) ?_
   intro s;refine U7 U U U (by simp) (by decide) U U U (dT U) (fun _=>⟨U,U⟩) (by simp only[H0];(simp only[Zo,Ze,Zf,ZL,Zi];omega)) (fun _=>U) ?_;intro u;refine y_F U<|O6 U U U U U (Zd _) U<|xN [2,8,11,34,35] [2,8,6,1000050] U<|A0<|y_M U<|y_S U<|xN [2,8,9,34,35] [2,8,6,1000050] U<|A0<|D7 U U (B9 (by omega))<|y_M U<|xN [2,8,9,34,35] [2,8,6,1000050] U<|H5<|A3<|A0<|F4 U U<|xN [2,8,9,34,35,36] [2,8,6,1000050] U<|A3 ?_
   refine A4 U (fun a=>absurd a (by decide)) (fun a=> ?_);refine D6<|A3<|A0<|y_B U<|y_M U<|G0 U U U U (G6 U (O2 (by decide) (a0w (by decide) (by decide) U (by simp) fun _=>K9))) (fun _=>U) ⟨by decide,U,dT U,Zd _⟩ (fun _=>U) (fun _=>U) (fun _=>C6 (by rfl) (C6 (B3 (A6 fun _=>U)) (by rfl))) ?_
   intro z;simp only[K5,Zp,Zj];refine y_S U<|y_S U<|xN [2,3,4] [2,6,300002] U<|A9<|C0 (F5 U U U U (E3 U (c8x U U U (L6 U U (by simp) (fun _=>U) H2))) (D3 U U (D3 U U (C5 B5)))) ?_
   rw[c9n i k,f]
   rfl
  ·skip
   apply xC U
   ·apply A8
    ·exact B1 U
    exact C2
   ·exact(show CW (cxT oG) 149 [tV w]=some (.tup [tV w,.own 1 [],bV true],[])from by have c:=a3w (oG:=oG) w (by omega);rw[i]at c;rw[show decide (0<=rch (bA w))=true from decide_eq_true (by omega)]at c;exact c)
   refine⟨⟨U,U,U,dT U,U⟩,.inr ⟨U,U⟩,B2,H3 (J5 U (L1 fun _=>J5 U L3)),fun _=>C6 (B3 U) (by rfl),fun g21=> ?_⟩
   try simp only[Zi]
   refine y_M U<|y_E U<|y_E U<|y_E U<|y_S U ?_
   (refine I9 U U (by(simp;done)) U (fun _=>(B3 (by rfl))) (fun _=>U) ?_;intro g6)
   refine y_S U<|xN [0,2,5,6,7] [2,6] U<|A3<|A3<|A0<|y_M U<|H8 U<|xN [0,2,5,6,26] [2,6] U ?_
   refine A4 U (fun a=>absurd a (by decide)) (fun a=> ?_);refine A7<|A3<|A0<|y_M U<|y_M U<|I3 (fs:=[_,_,_]) U U U U U<|y_M U<|N7 U U U (Mv.sized_map fun _=>U) I2 (G1 (n:=1) U) (by simp) ?_
   rw[show((Zw tV (w::b)).drop 1).take ((Zw tV (w::b)).length-1)=b.map tV from by rw[Zz,Yh,ZY,ZB (by simp)]];refine y_A U (fun _=>U) ?_;intro g8;refine G0 U U U U (G6 U (O2 (by decide) (G6 U K9))) (fun _=>U) ⟨by decide,U,dT U,Zd _⟩ (fun _=>U) (fun _=>U) (fun _=>(by rfl)) ?_;intro z;simp only[K5,Zp,Zj];refine y_S U ?_;refine G7 ⟨fun _=>⟨by(simp only[V5,Zj,Zm,Zz,Ya,Zp];decide+kernel),by decide+kernel⟩,[(.t 2,_),(.t 5,_),(.t 8,_),(.t 9,_),(.h 2,_),(.h 8,_),(.h 6,_)],⟨U,U,U,U,U,U,U,U,U,U,U,U,U,U,trivial⟩,?_⟩;refine A3<|A3<|A0<|y_M U ?_
   refine xC1 U U (b2s (bA w)) ⟨U,U,U⟩ U U fun p=> ?_
   rw[show nd (bA w)=2 from(S8 (by omega)).trans k];refine y_M U<|xN [2,8,9,34,35] [2,8,6] U<|B0<|H5<|A3<|A0<|F4 U U<|xN [2,8,9,34,35,36] [2,8,6] U<|A3 ?_
   refine A4 U (fun a=> ?_) (fun a=>absurd a (by decide));refine A7<|A3<|B0<|A3<|A0<|y_M U ?_
   rcases f:rdT b with _|⟨D,B⟩
   ·skip
    apply xC U
    ·apply A8
     ·exact B1 U
     exact C2
    ·exact(by have c:=q b ⟨by simp only[Ze]at g;omega,fun x m=>g.2 x (Zn _ m)⟩ (by simp only[Ze]at j;omega);rw[f]at c;exact c)
    refine⟨⟨U,U,U,dT U,U⟩,.inl U,B2,H3 (J5 U (L1 fun _=>J5 U L3)),fun _=>C6 (B3 U) (by rfl),fun l=> ?_⟩;refine y_M U<|y_E U<|y_E U<|y_E U<|y_A U (fun _=>U) ?_
    intro g10;refine xB U U U U U U U U U ?_
    (refine I9 U U (by(simp;done)) U (fun _=>(B3 (by rfl))) (fun _=>U) ?_;intro g11)
    refine y_S U<|xN [2,8,10,11,12,34,35] [2,8,6,10] U<|A3<|A3<|A0<|y_M U<|H8 U<|xN [2,8,10,11,34,35,44] [2,8,6,10] U ?_
    refine A4 U (fun a=> ?_) (fun a=>absurd a (by decide));refine A3<|A0<|I3 (fs:=[_,_,_]) U U U U U<|xB U U U U U U U U U ?_
    (refine B4 U U (fun _=>U) ?_;intro g3)
    refine y_S U<|xN [2,3,4] [2,3] U<|A9<|C0 (F5 U U U U (E3 U (J0 U (J0 U H2))) (F9 U U (by simp) (by rfl) (D3 U U (C5 B5)))) ?_
    rw[a9t i k,f]
    rfl
   skip
   apply xC U
   ·apply A8
    ·exact B1 U
    exact C2
   ·exact(by have c:=q b ⟨by simp only[Ze]at g;omega,fun x m=>g.2 x (Zn _ m)⟩ (by simp only[Ze]at j;omega);rw[f]at c;exact c)
   refine⟨⟨U,U,U,dT U,U⟩,.inl U,B2,J2 U,fun _=>U,fun l=> ?_⟩;refine y_M U<|y_E U<|y_E U<|y_E U<|y_A U (fun _=>U) ?_
   intro g10;refine xB U U U U U U U U U<|y_S U<|y_S U<|xN [2,8,10,11,12,34,35] [2,8,6,10] U<|A3<|A3<|A0<|y_M U<|H8 U<|xN [2,8,10,11,34,35,44] [2,8,6,10] U ?_
   refine A4 U (fun a=>absurd a (by decide)) (fun a=> ?_);refine A7<|A3<|A0<|y_F U<|y_L U<|y_B U<|B6 (es:=Zw trV [_]) U U (dT U) U U (fun _=>B3 (A6 fun _=>U)) (fun _=>U) ?_
   intro s;refine U7 U U U (by simp) (by decide) U U U (dT U) (fun _=>⟨U,U⟩) (by simp only[H0];(simp only[Zo,Ze,Zf,ZL,Zi];omega)) (fun _=>U) ?_;intro u;refine y_F U<|O6 U U U U U (Zd _) U<|xN [2,8,11,34,35] [2,8,6,1000050] U<|A0<|y_M U<|y_S U<|xN [2,8,9,34,35] [2,8,6,1000050] U<|A0<|D7 U U (B9 (by omega))<|y_M U<|xN [2,8,9,34,35] [2,8,6,1000050] U<|H5<|A3<|A0<|F4 U U<|xN [2,8,9,34,35,36] [2,8,6,1000050] U<|A3 ?_
   refine A4 U (fun a=> ?_) (fun a=>absurd a (by decide));refine A7<|A3<|B0<|A3<|A0<|y_M U ?_
   rcases o:rdT B with _|⟨E,F⟩
   ·skip
    apply xC U
    ·apply A8
     ·exact B1 U
     exact C2
    ·exact(by have c:=q B ⟨by have:=a1x f;simp only[Ze]at g;omega,fun x m=>g.2 x (Zn _ (b7u f x m))⟩ (by have:=a1x f;simp only[Ze]at j;omega);rw[o]at c;exact c)
    refine⟨⟨U,U,U,dT U,U⟩,.inl U,B2,H3 (J5 U (L1 fun _=>J5 U L3)),fun _=>C6 (B3 U) (by rfl),fun l=> ?_⟩;refine y_M U<|y_E U<|y_E U<|y_E U<|y_A U (fun _=>U) ?_
    intro g10;refine xB U U U U U U U U U ?_
    (refine I9 U U (by(simp;done)) U (fun _=>(B3 (by rfl))) (fun _=>U) ?_;intro g11)
    refine y_S U<|xN [2,8,10,11,12,34,35] [2,8,6,1000050,10] U<|A3<|A3<|A0<|y_M U<|H8 U<|xN [2,8,10,11,34,35,44] [2,8,6,1000050,10] U ?_
    refine A4 U (fun a=> ?_) (fun a=>absurd a (by decide));refine A3<|A0<|I3 (fs:=[_,_,_]) U U U U U<|xB U U U U U U U U U ?_
    (refine B4 U U (fun _=>U) ?_;intro g3)
    refine y_S U<|xN [2,3,4] [2,3] U<|A9<|C0 (F5 U U U U (E3 U (J0 U (J0 U H2))) (F9 U U (by simp) (by rfl) (D3 U U (C5 B5)))) ?_
    rw[a9t i k,f,Zl,o]
    rfl
   skip
   apply xC U
   ·apply A8
    ·exact B1 U
    exact C2
   ·exact(by have c:=q B ⟨by have:=a1x f;simp only[Ze]at g;omega,fun x m=>g.2 x (Zn _ (b7u f x m))⟩ (by have:=a1x f;simp only[Ze]at j;omega);rw[o]at c;exact c)
   refine⟨⟨U,U,U,dT U,U⟩,.inl U,B2,J2 U,fun _=>U,fun l=> ?_⟩;refine y_M U<|y_E U<|y_E U<|y_E U<|y_A U (fun _=>U) ?_
   intro g10;refine xB U U U U U U U U U<|y_S U<|y_S U<|xN [2,8,10,11,12,34,35] [2,8,6,1000050,10] U<|A3<|A3<|A0<|y_M U<|H8 U<|xN [2,8,10,11,34,35,44] [2,8,6,1000050,10] U ?_
   refine A4 U (fun a=>absurd a (by decide)) (fun a=> ?_);refine A7<|A3<|A0<|y_F U<|y_L U<|y_B U<|B6 (es:=Zw trV [_]) U U (dT U) U U (fun _=>B3 (A6 fun _=>U)) (fun _=>U) ?_
   intro s;refine xA U U U U (by simp) (by simp) U U U U U (fun _=>U) (by simp only[LN];omega) (fun _=>U) ?_;intro u;refine y_F U<|O6 U U U U U (Zd _) U<|xN [2,8,11,34,35] [2,8,6,1000050] U<|A0<|y_M U<|y_S U<|xN [2,8,9,34,35] [2,8,6,1000050] U<|A0<|D7 U U (B9 (by omega))<|y_M U<|xN [2,8,9,34,35] [2,8,6,1000050] U<|H5<|A3<|A0<|F4 U U<|xN [2,8,9,34,35,36] [2,8,6,1000050] U<|A3 ?_
   refine A4 U (fun a=>absurd a (by decide)) (fun a=> ?_);refine D6<|A3<|A0<|y_B U<|y_M U<|G0 U U U U (G6 U (O2 (by decide) (a0w (by decide) (by decide) U (by simp) fun _=>K9))) (fun _=>U) ⟨by decide,U,dT U,Zd _⟩ (fun _=>U) (fun _=>U) (fun _=>C6 (by rfl) (C6 (B3 (A6 fun _=>U)) (by rfl))) ?_
   intro z;simp only[K5,Zp,Zj];refine y_S U<|y_S U<|xN [2,3,4] [2,6,300002] U<|A9<|C0 (F5 U U U U (E3 U (c8x U U U (L6 U U (by simp) (fun _=>U) H2))) (D3 U U (D3 U U (C5 B5)))) ?_
   rw[a9t i k,f,Zl,o]
   rfl
  skip
  apply xC U
  ·apply A8
   ·exact B1 U
   exact C2
  ·exact(show CW (cxT oG) 149 [tV w]=some (.tup [tV w,.own 1 [],bV false],[])from by have c:=a3w (oG:=oG) w (by omega);rw[i]at c;rw[show decide (0<=rch (bA w))=false from decide_eq_false (by omega)]at c;exact c)
  refine⟨⟨U,U,U,dT U,U⟩,.inr ⟨U,U⟩,B2,H3 (J5 U (L1 fun _=>J5 U L3)),fun _=>C6 (B3 U) (by rfl),fun g21=> ?_⟩
  try simp only[Zi]
  refine y_M U<|y_E U<|y_E U<|y_E U<|y_S U ?_
  (refine I9 U U (by(simp;done)) U (fun _=>(B3 (by rfl))) (fun _=>U) ?_;intro g6)
  refine y_S U<|xN [0,2,5,6,7] [2,6] U<|A3<|A3<|A0<|y_M U<|H8 U<|xN [0,2,5,6,26] [2,6] U ?_
  refine A4 U (fun a=> ?_) (fun a=>absurd a (by decide));refine A3<|A0<|I3 (fs:=[_,_,_]) U U U U U<|xB U U U U U U U U U ?_
  (refine B4 U U (fun _=>U) ?_;intro g3)
  refine y_S U<|xN [2,3,4] [2,3] U<|A9<|C0 (F5 U U U U (E3 U (J0 U (J0 U H2))) (F9 U U (by simp) (by rfl) (D3 U U (C5 B5)))) ?_
  rw[e1l i k]
  rfl
theorem b4g:D9 Tryz.f95=[0,2,3,4,6,7,5,12]:=by kernel_rfl
theorem b5r(s:List UInt8)(k:s.length<=1048576):CW (cxT oG) 95 [tV s]=some (.tup [trV (ipT s),bV (d5m s)],[]):=by
 obtain⟨ws,a⟩:∃ws,ws=splitB 32 s:=⟨_,U⟩;have i:=Z0 32 s;have b:=a0h 32 s;rw[<-a]at i b;refine C7 U Tryz.func95 U ⟨by kernel_rfl,U,dT U,dT U,by decide⟩ b4g<|A3<|A0<|y_A U (fun _=>U) ?_
 intro g2;refine y_S U<|xN [0,2] [2] U<|A3<|A0<|y_M U ?_
 apply xC U
 ·apply A8
  ·exact B1 U
  apply A8
  ·exact B1 U
  exact C2
 ·exact d1c s 32 (by omega)
 refine⟨⟨U,U,U,dT U,U⟩,.inl U,B2,H4,fun _=>U,fun g9=> ?_⟩;rw[<-a]
 try simp only[Zi]
 (refine xO U U (by simp) U (fun _=>U) (fun _=>U) ?_;intro g4)
 refine xN [2,4] [2,4] U<|A3<|A0<|y_M U ?_
 rcases g:rdT ws with _|⟨t,r⟩
 ·skip
  apply xC U
  ·apply A8
   ·exact K2 U U (by(simp;done)) (fun _=>U)
   exact C2
  ·exact(by have f:=b5o (oG:=oG) ws ⟨by omega,fun w hw=>by have:=b w hw;omega⟩;rw[g]at f;exact f)
  refine⟨⟨U,U,U,dT U,U⟩,.inl U,B2,H3 (J5 U (L1 fun _=>J5 U L3)),fun _=>C6 (Q5 (A6 fun _=>U) (by decide)) (by rfl),fun g12=> ?_⟩;refine y_M U<|y_E U<|y_E U<|y_E U<|y_A U (fun _=>U) ?_
  intro g5;refine xB U U U U U U U U U ?_
  (refine I9 U U (by(simp;done)) U (fun _=>(B3 (by rfl))) (fun _=>U) ?_;intro g6)
  refine y_S U<|xN [2,4,5,6,7] [2,4,5] U<|A3<|A0<|y_B U<|y_M U<|y_M U<|H6 U U U<|H6 U U U<|H6 U U U<|E8 U U U U<|y_M U<|H6 U U U<|H6 U U U<|H6 U U U<|E8 U U U U<|xB U U U U U U U U U<|y_S U<|xN [2,3] [2] U<|A9<|C0 (F5 U U U U (E3 U (E3 U (E3 U H2))) (D3 U U (C5 B5))) ?_
  obtain⟨c,e⟩:=f1f a g;rw[c,e]
  rfl
 skip
 apply xC U
 ·apply A8
  ·exact K2 U U (by(simp;done)) (fun _=>U)
  exact C2
 ·exact(by have f:=b5o (oG:=oG) ws ⟨by omega,fun w hw=>by have:=b w hw;omega⟩;rw[g]at f;exact f)
 refine⟨⟨U,U,U,dT U,U⟩,.inl U,B2,J2 U,fun _=>C6 (Q5 (A6 fun _=>U) (by decide)) (by rfl),fun g12=> ?_⟩;refine y_M U<|y_E U<|y_E U<|y_E U<|y_A U (fun _=>U) ?_
 intro g5;refine xB U U U U U U U U U<|y_S U<|y_S U<|xN [2,4,5,6,7] [2,4,5] U<|A3<|A0<|y_B U<|y_M U<|y_M U<|G2 U U U<|y_M U<|G2 U U U<|B8 U U<|G2 U U U<|K6 U U<|F0 U U U U<|y_M U ?_
 refine D5 U U ?_ ?_<;>intro h<;>have j:=h<;>try simp only[SG]at j
 ·refine y_M U<|gT U U<|G8 U U<|gT U U<|a2q U U<|F0 U (by assumption) U U<|xB U U U U U U U U U<|y_S U<|xN [2,3] [2] U<|A9<|C0 (F5 U U U U (E3 U (E3 U (E3 U H2))) (D3 U U (C5 B5))) ?_
  obtain⟨c,e⟩:=c8h a g;rw[c,e];simp_all
  try rfl
 refine gF U U<|gF U U<|E8 U (by assumption) U U<|xB U U U U U U U U U<|y_S U<|xN [2,3] [2] U<|A9<|C0 (F5 U U U U (E3 U (E3 U (E3 U H2))) (D3 U U (C5 B5))) ?_
 obtain⟨c,e⟩:=c8h a g;rw[c,e];simp_all
 try rfl
theorem b4h:D9 Tryz.f69=[0,2,3,5,4,8]:=by kernel_rfl
theorem a7g(s:List UInt8)(e:s.length<=1048576):CW (cxT oG) 69 [tV s]=some (.tup [trV (ipT s),bV (rdPlan s).isSome],[]):=by
 have a:=f6k s;refine C7 U Tryz.func69 U ⟨by kernel_rfl,U,dT U,dT U,by decide⟩ b4h<|A3<|A0<|y_A U (fun _=>U) ?_
 intro g2;refine y_S U<|xN [0,2] [2] U<|A3<|A0<|y_M U ?_
 apply xC U
 ·apply A8
  ·exact B1 U
  exact C2
 ·exact b5r s e
 refine⟨⟨U,U,U,dT U,U⟩,.inl U,B2,J2 U,fun _=>U,fun g8=> ?_⟩;refine y_M U<|y_E U<|y_E U<|y_A U (fun _=>U) ?_
 intro g4;refine xB U U U U U U U U U<|y_S U<|xN [0,2,4,5] [2,4] U<|A3<|A0<|y_B U<|y_M U<|y_M U ?_
 refine D5 U U ?_ ?_<;>intro b<;>have c:=b<;>try simp only[SG]at c
 ·refine y_M U<|gT U U<|W5 U U<|gT U U<|a2q U U<|F0 U (by assumption) U U<|xB U U U U U U U U U<|y_S U<|xN [2,3] [2] U<|A9<|C0 (F5 U U U U (E3 U (E3 U (E3 U H2))) (D3 U U (C5 B5))) ?_
  rw[<-a];simp_all
  try rfl
 refine gF U U<|gF U U<|E8 U (by assumption) U U<|xB U U U U U U U U U<|y_S U<|xN [2,3] [2] U<|A9<|C0 (F5 U U U U (E3 U (E3 U (E3 U H2))) (D3 U U (C5 B5))) ?_
 rw[<-a];simp_all
 try rfl
theorem b1j:D9 Tryz.f44=[0,2,4,7]:=by kernel_rfl
theorem b1m(s:List UInt8)(a:s.length<=1048576):CW (cxT oG) 44 [tV s]=some (bV (rdPlan s).isSome,[]):=by
 refine C7 U Tryz.func44 U ⟨by kernel_rfl,U,dT U,dT U,by decide⟩ b1j<|A3<|A0<|y_S U<|xN [0] [] U<|A3<|A0<|y_M U ?_
 apply xC U
 ·apply A8
  ·exact B1 U
  exact C2
 ·exact a7g s a
 refine⟨⟨U,U,U,dT U,U⟩,.inl U,B2,J2 U,fun _=>U,fun g7=> ?_⟩;refine y_M U<|y_E U<|y_E U<|y_A U (fun _=>U) ?_
 intro g3;refine xB U U U U U U U U U<|y_S U<|xN [4] [] U<|A3<|A0<|y_M U<|y_S U<|xN [2] [] U<|A9<|C4 U U trivial ?_
 rfl
theorem c1j:D9 Tryz.f57=[0,2,3,4,7]:=by kernel_rfl
theorem e4e(w:ByteArray):CW (cxT oG) 57 [sV w]=some (iV (pr w),[]):=by
 refine C7 U Tryz.func57 U ⟨by kernel_rfl,U,dT U,dT U,by decide⟩ c1j<|A3<|A0<|y_S U<|xN [0] [] U<|A3<|A3<|A0<|y_M U<|xN [3] [] U<|B0<|A3<|A3<|A0<|K0 U U<|y_S U<|xN [3,4] [] U ?_
 refine A4 U ?_ ?_<;>intro a<;>try simp only[SL]at a
 ·refine A7 ?_
  refine A4 U (fun a=> ?_) (fun a=>absurd a (by simp_all));refine A3<|A0<|y_S U<|xN [2] [] U<|A9<|C4 U U trivial<|congrArg iV ?_
  simp_all[pr]
 refine A0<|K0 U U<|y_S U<|xN [3,4] [] U ?_
 refine A4 U ?_ ?_<;>intro a<;>try simp only[SL]at a
 ·refine A3<|A0<|y_S U<|xN [2] [] U<|A9<|C4 U U trivial<|congrArg iV ?_
  simp_all[pr]
 refine A3<|A3<|A0<|K0 U U<|y_S U<|xN [3,7] [] U ?_
 refine A4 U ?_ ?_<;>intro a<;>try simp only[SL]at a
 ·refine A7 ?_
  refine A4 U (fun a=> ?_) (fun a=>absurd a (by simp_all));refine A3<|A0<|y_S U<|xN [2] [] U<|A9<|C4 U U trivial<|congrArg iV ?_
  simp_all[pr]
 refine A3<|A0<|K0 U U<|y_S U<|xN [3,7] [] U ?_
 refine A4 U ?_ ?_<;>intro a<;>try simp only[SL]at a
 ·refine A7 ?_
  refine A4 U (fun a=> ?_) (fun a=>absurd a (by simp_all));refine A3<|A0<|y_S U<|xN [2] [] U<|A9<|C4 U U trivial<|congrArg iV ?_
  simp_all[pr]
 refine A3<|A0<|K0 U U<|y_S U<|xN [3,7] [] U ?_
 refine A4 U ?_ ?_<;>intro a<;>try simp only[SL]at a
 ·refine A7 ?_
  refine A4 U (fun a=> ?_) (fun a=>absurd a (by simp_all));refine A3<|A0<|y_S U<|xN [2] [] U<|A9<|C4 U U trivial<|congrArg iV ?_
  simp_all[pr]
 refine A3<|A0<|K0 U U<|y_S U<|xN [3,7] [] U ?_
 refine A4 U ?_ ?_<;>intro a<;>try simp only[SL]at a
 ·refine A7 ?_
  refine A4 U (fun a=> ?_) (fun a=>absurd a (by simp_all));refine A3<|A0<|y_S U<|xN [2] [] U<|A9<|C4 U U trivial<|congrArg iV ?_
  simp_all[pr]
 refine A0<|K0 U U<|y_S U<|xN [7] [] U ?_
 refine A4 U ?_ ?_<;>intro a<;>try simp only[SL]at a
 ·refine A3<|A0<|y_S U<|xN [2] [] U<|A9<|C4 U U trivial<|congrArg iV ?_
  simp_all[pr]
 refine A7<|A3<|A0<|y_S U<|xN [2] [] U<|A9<|C4 U U trivial<|congrArg iV ?_
 simp_all[pr]
theorem c8z:D9 Tryz.f29=[0,2,1,4,12,3]:=by kernel_rfl
theorem e1o(t:Pl)(o:t.sz<=1000):CW (cxT oG) 29 [trK t]=some (iV (Z1 t),[]):=by
 obtain⟨c,b⟩:∃c:Nat,t.sz<c:=⟨_,ZJ _⟩;revert t
 induction c with
 |zero=>intro t o b;exact absurd b (Yz _)
 |succ c v=>
  intro t o b;have s:=a5i t;have u:=S5 t;have n:=c2p (bA t.op);have g:=fun i=>S5 (t.kids.getD i default)
  have j:=fun i=>Z8 (t:=t) (i:=i)
  refine C7 U Tryz.func29 U ⟨by kernel_rfl,U,dT U,dT U,by decide⟩ c8z<|A3<|A0<|P3 U U U (fun _=>H7 U) (fun _=>U) ?_
  intro g1;refine y_S U<|xN [1] [1] U<|A3<|A0<|y_F U<|y_L U ?_
  refine xC1 U U (e4e (bA t.op)) ⟨U,U,U⟩ U U fun g7=> ?_
  refine y_S U<|xN [1,3] [1] U<|A3<|A3<|A0<|y_S U<|xN [1,3,4] [1] U<|B0<|D8 (β:=Nat×Int) [(.t 1,_),(.h 1,_)] (fun(z:Nat×Int)=>match z with|(i,a)=>[(.t 4,iV i),(.t 3,iV a)]) (fun(z:Nat×Int)=>match z with|(i,a)=>i<=t.kids.length/\a=S4 t i) (fun(z:Nat×Int)=>match z with|(i,a)=>t.kids.length-i) (0,_) ⟨U,U,U,U,trivial⟩ ⟨Zv _,U⟩ ?_
  intro z l;obtain⟨i,a⟩:=z
  try dsimp only at l
  obtain⟨f,e⟩:=l;have k:=a0r f;rw[<-e]at k;refine A3<|A3<|A0<|y_M U<|y_F U<|y_L U<|B8 U U<|F4 U U<|xN [1,3,4,12] [1] U ?_
  refine A4 U ?_ ?_<;>intro p<;>try simp only[SL]at p
  ·refine A7<|A3<|B0<|A0<|y_M U<|y_F U<|y_L U<|y_M U<|B7 U U U (fun _=>U) (by omega)<|y_I U ?_
   have w:=g i;have x:=j i (by omega);refine xC1 U U ((by have q:=Z8 (t:=t) (i:=i) (by omega);have m:=v (t.kids.getD i default) (by omega) (by omega);rw[<-L0]at m;exact m)) ⟨U,U,U⟩ U U fun g21=> ?_
   refine D7 U U (B9 (by omega))<|y_S U<|xN [1,3,4] [1] U<|A0<|y_M U<|D7 U U (B9 (by omega))<|y_S U<|xN [1,3,4] [1] U ?_
   refine⟨(i+1,_),⟨by omega,by rw[S4,<-e]⟩,(by simp only;omega),⟨U,U,U,U,trivial⟩⟩
  refine D6<|A3<|A0<|y_M U<|y_S U<|xN [2] [] U<|A9<|C4 U U trivial ?_
  rw[e,show i=t.kids.length by omega,X7]
theorem d0i:D9 Tryz.f73=[0,2,1,7,8,11,20,19,21,18,5,3]:=by kernel_rfl
theorem f3l(t:Pl)(v:t.sz<=1000):CW (cxT oG) 73 [trK t]=some (iV (Z1 t),[]):=by
 obtain⟨s,q⟩:∃s:Nat,t.sz<s:=⟨_,ZJ _⟩;revert t
 induction s with
 |zero=>intro t v q;exact absurd q (Yz _)
 |succ s n=>
  intro t v q;have w:=a5i t;have x:=S5 t;have u:=c2p (bA t.op);have j:=fun i=>S5 (t.kids.getD i default)
  have k:=fun i=>Z8 (t:=t) (i:=i)
  refine C7 U Tryz.func73 U ⟨by kernel_rfl,U,dT U,dT U,by decide⟩ d0i<|A3<|A0<|P3 U U U (fun _=>H7 U) (fun _=>U) ?_
  intro g1;refine y_S U<|xN [1] [1] U<|A3<|A0<|y_S U<|xN [1,3] [1] U<|A3<|A3<|A0<|y_F U<|y_L U<|xN [1,3,7] [1] U<|B0<|A3<|A3<|A0<|H1 U U<|y_S U<|xN [1,3,7,8] [1] U ?_
  refine A4 U ?_ ?_<;>intro b<;>try simp only[SL]at b
  ·refine A7 ?_
   refine A4 U (fun b=> ?_) (fun b=>absurd b (by simp_all));refine A0<|y_S U<|xN [1,3] [1] U<|A3<|A3<|A0<|y_F U<|y_L U<|B8 U U<|y_M U<|xN [3,18,19,20] [] U<|B0<|D8 (β:=Nat×Int) [(.t 18,_),(.t 19,_)] (fun(z:Nat×Int)=>match z with|(i,a)=>[(.t 20,iV i),(.t 3,iV a)]) (fun(z:Nat×Int)=>match z with|(i,a)=>i<=t.kids.length/\a=S4 t i) (fun(z:Nat×Int)=>match z with|(i,a)=>t.kids.length-i) (0,_) ⟨U,U,U,U,trivial⟩ ⟨Zv _,by show _=pr (bA t.op);simp_all[pr]⟩ ?_
   intro z g;obtain⟨i,a⟩:=z
   try dsimp only at g
   obtain⟨e,c⟩:=g;have f:=a0r e;rw[<-c]at f;refine A3<|A0<|F4 U U<|xN [3,18,19,20,21] [] U<|A3 ?_
   refine A4 U ?_ ?_<;>intro b<;>try simp only[SL]at b
   ·refine A7<|A3<|B0<|A3<|A0<|B7 U U U (fun _=>U) (by omega)<|y_I U<|y_A U (fun _=>U) ?_
    intro g5;refine xB U U U U U U U U U<|xN [3,5,18,19,20] [5] U<|A0<|y_M U<|y_B U ?_
    have o:=j i;have p:=k i (by omega);refine xC1 U U ((by have m:=Z8 (t:=t) (i:=i) (by omega);have h:=n (t.kids.getD i default) (by omega) (by omega);rw[<-L0]at h;exact h)) ⟨U,U,U⟩ U U fun l=> ?_
    refine D7 U U (B9 (by omega))<|y_S U<|xN [3,18,19,20] [] U<|A0<|D7 U U (B9 (by omega))<|y_M U<|xN [3,18,19,20] [] U ?_
    refine⟨(i+1,_),⟨by omega,by rw[S4,<-c]⟩,(by simp only;omega),⟨U,U,U,U,trivial⟩⟩
   refine D6<|A3<|A0<|y_M U<|y_S U<|xN [2] [] U<|A9<|C4 U U trivial ?_
   rw[c,show i=t.kids.length by omega,X7]
  refine A0<|H1 U U<|y_S U<|xN [1,3,7,8] [1] U ?_
  refine A4 U ?_ ?_<;>intro b<;>try simp only[SL]at b
  ·refine A0<|y_S U<|xN [1,3] [1] U<|A3<|A3<|A0<|y_F U<|y_L U<|B8 U U<|y_M U<|xN [3,18,19,20] [] U<|B0<|D8 (β:=Nat×Int) [(.t 18,_),(.t 19,_)] (fun(z:Nat×Int)=>match z with|(i,a)=>[(.t 20,iV i),(.t 3,iV a)]) (fun(z:Nat×Int)=>match z with|(i,a)=>i<=t.kids.length/\a=S4 t i) (fun(z:Nat×Int)=>match z with|(i,a)=>t.kids.length-i) (0,_) ⟨U,U,U,U,trivial⟩ ⟨Zv _,by show _=pr (bA t.op);simp_all[pr]⟩ ?_
   intro z g;obtain⟨i,a⟩:=z
   try dsimp only at g
   obtain⟨e,c⟩:=g;have f:=a0r e;rw[<-c]at f;refine A3<|A0<|F4 U U<|xN [3,18,19,20,21] [] U<|A3 ?_
   refine A4 U ?_ ?_<;>intro b<;>try simp only[SL]at b
   ·refine A7<|A3<|B0<|A3<|A0<|B7 U U U (fun _=>U) (by omega)<|y_I U<|y_A U (fun _=>U) ?_
    intro g5;refine xB U U U U U U U U U<|xN [3,5,18,19,20] [5] U<|A0<|y_M U<|y_B U ?_
    have o:=j i;have p:=k i (by omega);refine xC1 U U ((by have m:=Z8 (t:=t) (i:=i) (by omega);have h:=n (t.kids.getD i default) (by omega) (by omega);rw[<-L0]at h;exact h)) ⟨U,U,U⟩ U U fun l=> ?_
    refine D7 U U (B9 (by omega))<|y_S U<|xN [3,18,19,20] [] U<|A0<|D7 U U (B9 (by omega))<|y_M U<|xN [3,18,19,20] [] U ?_
    refine⟨(i+1,_),⟨by omega,by rw[S4,<-c]⟩,(by simp only;omega),⟨U,U,U,U,trivial⟩⟩
   refine D6<|A3<|A0<|y_M U<|y_S U<|xN [2] [] U<|A9<|C4 U U trivial ?_
   rw[c,show i=t.kids.length by omega,X7]
  refine A3<|A3<|A0<|H1 U U<|y_S U<|xN [1,3,7,11] [1] U ?_
  refine A4 U ?_ ?_<;>intro b<;>try simp only[SL]at b
  ·refine A7 ?_
   refine A4 U (fun b=> ?_) (fun b=>absurd b (by simp_all));refine A0<|y_S U<|xN [1,3] [1] U<|A3<|A3<|A0<|y_F U<|y_L U<|B8 U U<|y_M U<|xN [3,18,19,20] [] U<|B0<|D8 (β:=Nat×Int) [(.t 18,_),(.t 19,_)] (fun(z:Nat×Int)=>match z with|(i,a)=>[(.t 20,iV i),(.t 3,iV a)]) (fun(z:Nat×Int)=>match z with|(i,a)=>i<=t.kids.length/\a=S4 t i) (fun(z:Nat×Int)=>match z with|(i,a)=>t.kids.length-i) (0,_) ⟨U,U,U,U,trivial⟩ ⟨Zv _,by show _=pr (bA t.op);simp_all[pr]⟩ ?_
   intro z g;obtain⟨i,a⟩:=z
   try dsimp only at g
   obtain⟨e,c⟩:=g;have f:=a0r e;rw[<-c]at f;refine A3<|A0<|F4 U U<|xN [3,18,19,20,21] [] U<|A3 ?_
   refine A4 U ?_ ?_<;>intro b<;>try simp only[SL]at b
   ·refine A7<|A3<|B0<|A3<|A0<|B7 U U U (fun _=>U) (by omega)<|y_I U<|y_A U (fun _=>U) ?_
    intro g5;refine xB U U U U U U U U U<|xN [3,5,18,19,20] [5] U<|A0<|y_M U<|y_B U ?_
    have o:=j i;have p:=k i (by omega);refine xC1 U U ((by have m:=Z8 (t:=t) (i:=i) (by omega);have h:=n (t.kids.getD i default) (by omega) (by omega);rw[<-L0]at h;exact h)) ⟨U,U,U⟩ U U fun l=> ?_
    refine D7 U U (B9 (by omega))<|y_S U<|xN [3,18,19,20] [] U<|A0<|D7 U U (B9 (by omega))<|y_M U<|xN [3,18,19,20] [] U ?_
    refine⟨(i+1,_),⟨by omega,by rw[S4,<-c]⟩,(by simp only;omega),⟨U,U,U,U,trivial⟩⟩
   refine D6<|A3<|A0<|y_M U<|y_S U<|xN [2] [] U<|A9<|C4 U U trivial ?_
   rw[c,show i=t.kids.length by omega,X7]
  refine A3<|A0<|H1 U U<|y_S U<|xN [1,3,7,11] [1] U ?_
  refine A4 U ?_ ?_<;>intro b<;>try simp only[SL]at b
  ·refine A7 ?_
   refine A4 U (fun b=> ?_) (fun b=>absurd b (by simp_all));refine A0<|y_S U<|xN [1,3] [1] U<|A3<|A3<|A0<|y_F U<|y_L U<|B8 U U<|y_M U<|xN [3,18,19,20] [] U<|B0<|D8 (β:=Nat×Int) [(.t 18,_),(.t 19,_)] (fun(z:Nat×Int)=>match z with|(i,a)=>[(.t 20,iV i),(.t 3,iV a)]) (fun(z:Nat×Int)=>match z with|(i,a)=>i<=t.kids.length/\a=S4 t i) (fun(z:Nat×Int)=>match z with|(i,a)=>t.kids.length-i) (0,_) ⟨U,U,U,U,trivial⟩ ⟨Zv _,by show _=pr (bA t.op);simp_all[pr]⟩ ?_
   intro z g;obtain⟨i,a⟩:=z
   try dsimp only at g
   obtain⟨e,c⟩:=g;have f:=a0r e;rw[<-c]at f;refine A3<|A0<|F4 U U<|xN [3,18,19,20,21] [] U<|A3 ?_
   refine A4 U ?_ ?_<;>intro b<;>try simp only[SL]at b
   ·refine A7<|A3<|B0<|A3<|A0<|B7 U U U (fun _=>U) (by omega)<|y_I U<|y_A U (fun _=>U) ?_
    intro g5;refine xB U U U U U U U U U<|xN [3,5,18,19,20] [5] U<|A0<|y_M U<|y_B U ?_
    have o:=j i;have p:=k i (by omega);refine xC1 U U ((by have m:=Z8 (t:=t) (i:=i) (by omega);have h:=n (t.kids.getD i default) (by omega) (by omega);rw[<-L0]at h;exact h)) ⟨U,U,U⟩ U U fun l=> ?_
    refine D7 U U (B9 (by omega))<|y_S U<|xN [3,18,19,20] [] U<|A0<|D7 U U (B9 (by omega))<|y_M U<|xN [3,18,19,20] [] U ?_
    refine⟨(i+1,_),⟨by omega,by rw[S4,<-c]⟩,(by simp only;omega),⟨U,U,U,U,trivial⟩⟩
   refine D6<|A3<|A0<|y_M U<|y_S U<|xN [2] [] U<|A9<|C4 U U trivial ?_
   rw[c,show i=t.kids.length by omega,X7]
  refine A3<|A0<|H1 U U<|y_S U<|xN [1,3,7,11] [1] U ?_
  refine A4 U ?_ ?_<;>intro b<;>try simp only[SL]at b
  ·refine A7 ?_
   refine A4 U (fun b=> ?_) (fun b=>absurd b (by simp_all));refine A0<|y_S U<|xN [1,3] [1] U<|A3<|A3<|A0<|y_F U<|y_L U<|B8 U U<|y_M U<|xN [3,18,19,20] [] U<|B0<|D8 (β:=Nat×Int) [(.t 18,_),(.t 19,_)] (fun(z:Nat×Int)=>match z with|(i,a)=>[(.t 20,iV i),(.t 3,iV a)]) (fun(z:Nat×Int)=>match z with|(i,a)=>i<=t.kids.length/\a=S4 t i) (fun(z:Nat×Int)=>match z with|(i,a)=>t.kids.length-i) (0,_) ⟨U,U,U,U,trivial⟩ ⟨Zv _,by show _=pr (bA t.op);simp_all[pr]⟩ ?_
   intro z g;obtain⟨i,a⟩:=z
   try dsimp only at g
   obtain⟨e,c⟩:=g;have f:=a0r e;rw[<-c]at f;refine A3<|A0<|F4 U U<|xN [3,18,19,20,21] [] U<|A3 ?_
   refine A4 U ?_ ?_<;>intro b<;>try simp only[SL]at b
   ·refine A7<|A3<|B0<|A3<|A0<|B7 U U U (fun _=>U) (by omega)<|y_I U<|y_A U (fun _=>U) ?_
    intro g5;refine xB U U U U U U U U U<|xN [3,5,18,19,20] [5] U<|A0<|y_M U<|y_B U ?_
    have o:=j i;have p:=k i (by omega);refine xC1 U U ((by have m:=Z8 (t:=t) (i:=i) (by omega);have h:=n (t.kids.getD i default) (by omega) (by omega);rw[<-L0]at h;exact h)) ⟨U,U,U⟩ U U fun l=> ?_
    refine D7 U U (B9 (by omega))<|y_S U<|xN [3,18,19,20] [] U<|A0<|D7 U U (B9 (by omega))<|y_M U<|xN [3,18,19,20] [] U ?_
    refine⟨(i+1,_),⟨by omega,by rw[S4,<-c]⟩,(by simp only;omega),⟨U,U,U,U,trivial⟩⟩
   refine D6<|A3<|A0<|y_M U<|y_S U<|xN [2] [] U<|A9<|C4 U U trivial ?_
   rw[c,show i=t.kids.length by omega,X7]
  refine A3<|A0<|H1 U U<|y_S U<|xN [1,3,7,11] [1] U ?_
  refine A4 U ?_ ?_<;>intro b<;>try simp only[SL]at b
  ·refine A7 ?_
   refine A4 U (fun b=> ?_) (fun b=>absurd b (by simp_all));refine A0<|y_S U<|xN [1,3] [1] U<|A3<|A3<|A0<|y_F U<|y_L U<|B8 U U<|y_M U<|xN [3,18,19,20] [] U<|B0<|D8 (β:=Nat×Int) [(.t 18,_),(.t 19,_)] (fun(z:Nat×Int)=>match z with|(i,a)=>[(.t 20,iV i),(.t 3,iV a)]) (fun(z:Nat×Int)=>match z with|(i,a)=>i<=t.kids.length/\a=S4 t i) (fun(z:Nat×Int)=>match z with|(i,a)=>t.kids.length-i) (0,_) ⟨U,U,U,U,trivial⟩ ⟨Zv _,by show _=pr (bA t.op);simp_all[pr]⟩ ?_
   intro z g;obtain⟨i,a⟩:=z
   try dsimp only at g
   obtain⟨e,c⟩:=g;have f:=a0r e;rw[<-c]at f;refine A3<|A0<|F4 U U<|xN [3,18,19,20,21] [] U<|A3 ?_
   refine A4 U ?_ ?_<;>intro b<;>try simp only[SL]at b
   ·refine A7<|A3<|B0<|A3<|A0<|B7 U U U (fun _=>U) (by omega)<|y_I U<|y_A U (fun _=>U) ?_
    intro g5;refine xB U U U U U U U U U<|xN [3,5,18,19,20] [5] U<|A0<|y_M U<|y_B U ?_
    have o:=j i;have p:=k i (by omega);refine xC1 U U ((by have m:=Z8 (t:=t) (i:=i) (by omega);have h:=n (t.kids.getD i default) (by omega) (by omega);rw[<-L0]at h;exact h)) ⟨U,U,U⟩ U U fun l=> ?_
    refine D7 U U (B9 (by omega))<|y_S U<|xN [3,18,19,20] [] U<|A0<|D7 U U (B9 (by omega))<|y_M U<|xN [3,18,19,20] [] U ?_
    refine⟨(i+1,_),⟨by omega,by rw[S4,<-c]⟩,(by simp only;omega),⟨U,U,U,U,trivial⟩⟩
   refine D6<|A3<|A0<|y_M U<|y_S U<|xN [2] [] U<|A9<|C4 U U trivial ?_
   rw[c,show i=t.kids.length by omega,X7]
  refine A0<|H1 U U<|y_S U<|xN [1,3,11] [1] U ?_
  refine A4 U ?_ ?_<;>intro b<;>try simp only[SL]at b
  ·refine A0<|y_S U<|xN [1,3] [1] U<|A3<|A3<|A0<|y_F U<|y_L U<|B8 U U<|y_M U<|xN [3,18,19,20] [] U<|B0<|D8 (β:=Nat×Int) [(.t 18,_),(.t 19,_)] (fun(z:Nat×Int)=>match z with|(i,a)=>[(.t 20,iV i),(.t 3,iV a)]) (fun(z:Nat×Int)=>match z with|(i,a)=>i<=t.kids.length/\a=S4 t i) (fun(z:Nat×Int)=>match z with|(i,a)=>t.kids.length-i) (0,_) ⟨U,U,U,U,trivial⟩ ⟨Zv _,by show _=pr (bA t.op);simp_all[pr]⟩ ?_
   intro z g;obtain⟨i,a⟩:=z
   try dsimp only at g
   obtain⟨e,c⟩:=g;have f:=a0r e;rw[<-c]at f;refine A3<|A0<|F4 U U<|xN [3,18,19,20,21] [] U<|A3 ?_
   refine A4 U ?_ ?_<;>intro b<;>try simp only[SL]at b
   ·refine A7<|A3<|B0<|A3<|A0<|B7 U U U (fun _=>U) (by omega)<|y_I U<|y_A U (fun _=>U) ?_
    intro g5;refine xB U U U U U U U U U<|xN [3,5,18,19,20] [5] U<|A0<|y_M U<|y_B U ?_
    have o:=j i;have p:=k i (by omega);refine xC1 U U ((by have m:=Z8 (t:=t) (i:=i) (by omega);have h:=n (t.kids.getD i default) (by omega) (by omega);rw[<-L0]at h;exact h)) ⟨U,U,U⟩ U U fun l=> ?_
    refine D7 U U (B9 (by omega))<|y_S U<|xN [3,18,19,20] [] U<|A0<|D7 U U (B9 (by omega))<|y_M U<|xN [3,18,19,20] [] U ?_
    refine⟨(i+1,_),⟨by omega,by rw[S4,<-c]⟩,(by simp only;omega),⟨U,U,U,U,trivial⟩⟩
   refine D6<|A3<|A0<|y_M U<|y_S U<|xN [2] [] U<|A9<|C4 U U trivial ?_
   rw[c,show i=t.kids.length by omega,X7]
  refine A7<|A3<|A3<|A0<|y_F U<|y_L U<|B8 U U<|y_M U<|xN [3,18,19,20] [] U<|B0<|D8 (β:=Nat×Int) [(.t 18,_),(.t 19,_)] (fun(z:Nat×Int)=>match z with|(i,a)=>[(.t 20,iV i),(.t 3,iV a)]) (fun(z:Nat×Int)=>match z with|(i,a)=>i<=t.kids.length/\a=S4 t i) (fun(z:Nat×Int)=>match z with|(i,a)=>t.kids.length-i) (0,_) ⟨U,U,U,U,trivial⟩ ⟨Zv _,by show _=pr (bA t.op);simp_all[pr]⟩ ?_
  intro z g;obtain⟨i,a⟩:=z
  try dsimp only at g
  obtain⟨e,c⟩:=g;have f:=a0r e;rw[<-c]at f;refine A3<|A0<|F4 U U<|xN [3,18,19,20,21] [] U<|A3 ?_
  refine A4 U ?_ ?_<;>intro b<;>try simp only[SL]at b
  ·refine A7<|A3<|B0<|A3<|A0<|B7 U U U (fun _=>U) (by omega)<|y_I U<|y_A U (fun _=>U) ?_
   intro g5;refine xB U U U U U U U U U<|xN [3,5,18,19,20] [5] U<|A0<|y_M U<|y_B U ?_
   have o:=j i;have p:=k i (by omega);refine xC1 U U ((by have m:=Z8 (t:=t) (i:=i) (by omega);have h:=n (t.kids.getD i default) (by omega) (by omega);rw[<-L0]at h;exact h)) ⟨U,U,U⟩ U U fun l=> ?_
   refine D7 U U (B9 (by omega))<|y_S U<|xN [3,18,19,20] [] U<|A0<|D7 U U (B9 (by omega))<|y_M U<|xN [3,18,19,20] [] U ?_
   refine⟨(i+1,_),⟨by omega,by rw[S4,<-c]⟩,(by simp only;omega),⟨U,U,U,U,trivial⟩⟩
  refine D6<|A3<|A0<|y_M U<|y_S U<|xN [2] [] U<|A9<|C4 U U trivial ?_
  rw[c,show i=t.kids.length by omega,X7]
theorem c0j:D9 Tryz.f47=[0,2,4,11,3,7]:=by kernel_rfl
theorem e5d(s:List UInt8)(c:s.length<=1048576):CW (cxT oG) 47 [tV s]=some (iV (b0e s),[]):=by
 refine C7 U Tryz.func47 U ⟨by kernel_rfl,U,dT U,dT U,by decide⟩ c0j<|A3<|A0<|y_S U<|xN [0] [] U<|A3<|A0<|y_M U ?_
 apply xC U
 ·apply A8
  ·exact B1 U
  exact C2
 ·exact a7g s c
 refine⟨⟨U,U,U,dT U,U⟩,.inl U,B2,J2 U,fun _=>U,fun g7=> ?_⟩;refine y_M U<|y_E U<|y_E U<|y_A U (fun _=>U) ?_
 intro g3;refine xB U U U U U U U U U<|y_S U<|xN [3,4] [3] U<|A3<|A3<|A0<|y_M U<|H8 U<|xN [3,11] [3] U ?_
 refine A4 U ?_ ?_<;>intro b<;>try simp only[SL]at b
 ·refine A3<|A0<|y_S U<|xN [2] [] U<|A9<|C4 U U trivial ?_
  rw[b8u b]
  rfl
 refine A7<|A3<|A0<|y_B U ?_
 obtain⟨t,a,e,f⟩:=a6h b;rw[e9w a,L0];refine xC1 U U (f3l t (by omega)) ⟨U,U,U⟩ U U fun g13=> ?_
 refine y_S U<|xN [2] [] U<|A9<|C4 U U trivial ?_
 rw[a6c a]
theorem d0s:D9 Tryz.f125=[0,2]:=by kernel_rfl
theorem f1y(xs:List W8)(c:xs.length<=H0):CW (cxT oG) 125 [.own 1 (xs.map tV)]=some (.own 1 (xs.map tV),[]):=by
 refine C7 U Tryz.func125 U ⟨by kernel_rfl,U,dT U,dT U,by decide⟩ d0s<|A3<|A0 ?_
 (refine B4 U U (fun _=>U) ?_;intro g2)
 refine xN [0] [0] U<|A3<|A0<|y_M U<|y_M U<|G8 U U<|y_M U<|G8 U U ?_
 refine e7u U U U U U U (fun a=> ?_) (fun a=> ?_)
 ·skip
  (refine B4 U U (fun _=>U) ?_;intro g2)
  refine xN [2] [0,2] U<|A9<|J3 U U (by(simp;done)) (by rfl) trivial ?_
  (have b:xs=[]:=(by simpa using a);subst b;rfl)
 skip
 (refine xO U U (by simp) U (fun _=>U) (fun _=>U) ?_;intro g2)
 refine xN [2] [0,2] U<|A9<|J3 U U (by(simp;done)) (by exact A6 fun _=>U) trivial ?_
 rfl
theorem b7f:D9 Tryz.f26=[0,2,1,7,4,19,3]:=by kernel_rfl
theorem a6o(t:Pl)(g:(showP t).length<=1048576)(b:t.good):CW (cxT oG) 26 [trK t]=some (tV (showP t),[]):=by
 obtain⟨m,c⟩:∃m:Nat,t.sz<m:=⟨_,ZJ _⟩;revert t
 induction m with
 |zero=>intro t g b c;exact absurd c (Yz _)
 |succ m C=>
  intro t g b c;have y:=a5i t;have q:=fun i=>Z8 (t:=t) (i:=i)
  have p:=fun i=>a8n b (i:=i)
  have k:=fun i h=>b8x (t:=t) h (i:=i)
  have f:=fun h=>b4w (t:=t) h
  refine C7 U Tryz.func26 U ⟨by kernel_rfl,U,dT U,dT U,by decide⟩ b7f<|A3<|A0<|P3 U U U (fun _=>H7 U) (fun _=>U) ?_
  intro g1;refine y_S U<|xN [1] [1] U<|A3<|A3<|A0<|y_F U<|y_L U<|H1 U U<|xN [1,7] [1] U ?_
  refine A4 U ?_ ?_<;>intro o<;>try simp only[SL]at o
  ·obtain⟨ns,rfl,v⟩:=a0e b (by assumption)
   have F:=a4r v;have j:=e2a v;have B:=U5 j;refine A3<|A0<|y_F U<|y_L U ?_
   refine xC1 U U (a3v ns (by omega) j) ⟨U,U,U⟩ U U fun g10=> ?_
   iterate 2 refine J9 U U (by simp only[H0,Zf,Ze,Zo];omega) ?_
   refine y_S U<|xN [2] [] U<|A9<|C4 U U trivial ?_
   rfl
  have e:t.op≠lW:=by assumption
  refine A7<|A3<|A0<|y_F U<|y_L U<|y_S U<|xN [1,3] [1] U<|A3<|A3<|A0<|y_S U<|xN [1,3,4] [1] U<|B0<|D8 (β:=Nat×W8) [(.t 1,_),(.h 1,_)] (fun(z:Nat×W8)=>match z with|(i,a)=>[(.t 4,iV i),(.t 3,tV a)]) (fun(z:Nat×W8)=>match z with|(i,a)=>i<=t.kids.length/\a=a4a t i) (fun(z:Nat×W8)=>match z with|(i,a)=>t.kids.length-i) (0,_) ⟨U,U,U,U,trivial⟩ ⟨Zv _,U⟩ ?_
  intro z s;obtain⟨i,a⟩:=z
  try dsimp only at s
  obtain⟨x,n⟩:=s;have l:=fun h=>k i e h
  rw[<-n]at l;refine A3<|A3<|A0<|y_M U<|y_F U<|y_L U<|B8 U U<|F4 U U<|xN [1,3,4,19] [1] U ?_
  refine A4 U ?_ ?_<;>intro o<;>try simp only[SL]at o
  ·refine A7<|A3<|B0<|A0<|y_M U<|J9 U U (by simp only[H0,Zf,Ze,Zo];omega)<|y_F U<|y_L U<|y_M U<|B7 U U U (fun _=>U) (by omega)<|y_I U ?_
   have D:=k i e (by omega);have E:=q i (by omega);refine xC1 U U ((by have u:=C (t.kids.getD i default) (by have:=c7y (t:=t) (i:=i) (by omega);omega) (p i (by omega)) (by omega);rw[<-L0]at u;exact u)) ⟨U,U,U⟩ U U fun w=> ?_
   refine J9 U U (by simp only[H0,Zf,Ze,Zo];omega)<|y_S U<|xN [1,3,4] [1] U<|A0<|y_M U<|D7 U U (B9 (by omega))<|y_S U<|xN [1,3,4] [1] U ?_
   refine⟨(i+1,_),⟨by omega,by rw[a4a,<-n]⟩,(by simp only;omega),⟨U,U,U,U,trivial⟩⟩
  refine D6<|A3<|A0<|y_M U<|y_S U<|xN [2] [] U<|A9<|C4 U U trivial ?_
  rw[n,show i=t.kids.length by omega,f e]
theorem d5l:D9 Tryz.f117=[0,2,3,1,17,4,28,29,38,42]:=by kernel_rfl
theorem f6c(t:Pl)(b:t.good):CW (cxT oG) 117 [trK t]=some (.tup [trV ((Y2 t).getD t),bV (Y2 t).isSome],[]):=by
 have g:=a5i t;have j:=e1f b;have f:=fun h=>e1f (a8n b (i:=0) h)
 refine C7 U Tryz.func117 U ⟨by kernel_rfl,U,dT U,dT U,by decide⟩ d5l<|A3<|A0<|P3 U U U (fun _=>H7 U) (fun _=>U) ?_
 intro g1;refine y_A U (fun _=>U) ?_;intro g2;refine y_S U<|xN [1,2] [1,2] U<|A3<|A3<|A0<|y_F U<|y_L U<|B8 U U<|b0i U U<|y_M U ?_
 refine D5 U U ?_ ?_<;>intro c<;>have e:=c<;>try simp only[SG]at e
 ·refine y_F U<|gT U U<|y_L U<|gT U U<|B7 U U U (fun _=>U) (by(change 0<_;omega))<|gT U U<|y_F U<|gT U U<|c2m U U U<|gT U U ?_
  rw[a4u];refine B8 U U<|gT U U<|b0i U U<|E8 U (by assumption) U U<|xN [1,2,17] [1,2] U ?_
  refine A4 U ?_ ?_<;>intro a<;>try simp only[SL]at a
  ·refine A3<|A0<|y_B U<|xB U U U U U U U U U<|y_S U<|xN [2,3] [2] U<|A9<|C0 (F5 U U U U (E3 U (E3 U (E3 U H2))) (D3 U U (C5 B5))) ?_
   (rw[c6e (by omega)];show AV.tup [trK t,bV false]=AV.tup [trV t,bV false];rw[L0])
  refine A7<|A3<|A0<|y_F U<|y_L U<|B7 U U U (fun _=>U) (by(change 0<_;omega))<|y_I U<|y_A U (fun _=>U) ?_
  intro g4;refine xB U U U U U U U U U<|xN [1,2,4] [1,2,4] U<|A3<|A3<|A0<|y_F U<|y_L U<|J9 U U (by simp only[H0,Zf,Ze,Zo];omega)<|y_F U<|y_L U<|J9 U U (by simp only[H0,Zf,Ze,Zo];omega)<|xN [1,2,4,28] [1,2,4] U<|B0<|A3<|A3<|A0<|H1 U U<|y_S U<|xN [1,2,4,28,29] [1,2,4] U ?_
  refine A4 U ?_ ?_<;>intro a<;>try simp only[SL]at a
  ·refine A7 ?_
   refine A4 U (fun a=> ?_) (fun a=>absurd a (by simp_all));refine A3<|A0<|y_F U<|y_L U ?_
   rw[a4u];refine H9 U U U (fun _=>U) (by show(0:Int)<=0/\(0:Int)<((t.kids.getD 0 default).kids.length:Int);omega)<|y_I U<|xB U U U U U U U U U<|y_S U<|xN [2,3] [2] U<|A9<|C0 (F5 U U U U (E3 U (E3 U (E3 U H2))) (D3 U U (C5 B5))) ?_
   (rw[c8p (t:=t) (k:=[114,101,118,32,114,101,118]) (by omega) (by omega) (by assumption) (by decide)];rfl)
  refine A3<|A0<|H1 U U<|y_S U<|xN [1,2,4,28,29] [1,2,4] U ?_
  refine A4 U ?_ ?_<;>intro a<;>try simp only[SL]at a
  ·refine A7 ?_
   refine A4 U (fun a=> ?_) (fun a=>absurd a (by simp_all));refine A3<|A0<|y_F U<|y_L U ?_
   rw[a4u];refine H9 U U U (fun _=>U) (by show(0:Int)<=0/\(0:Int)<((t.kids.getD 0 default).kids.length:Int);omega)<|y_I U<|xB U U U U U U U U U<|y_S U<|xN [2,3] [2] U<|A9<|C0 (F5 U U U U (E3 U (E3 U (E3 U H2))) (D3 U U (C5 B5))) ?_
   (rw[c8p (t:=t) (k:=[110,101,103,32,110,101,103]) (by omega) (by omega) (by assumption) (by decide)];rfl)
  refine A3<|A0<|H1 U U<|y_S U<|xN [1,2,4,28,29] [1,2,4] U ?_
  refine A4 U ?_ ?_<;>intro a<;>try simp only[SL]at a
  ·refine A7 ?_
   refine A4 U (fun a=> ?_) (fun a=>absurd a (by simp_all));refine A3<|A0<|y_F U<|y_L U ?_
   rw[a4u];refine H9 U U U (fun _=>U) (by show(0:Int)<=0/\(0:Int)<((t.kids.getD 0 default).kids.length:Int);omega)<|y_I U<|xB U U U U U U U U U<|y_S U<|xN [2,3] [2] U<|A9<|C0 (F5 U U U U (E3 U (E3 U (E3 U H2))) (D3 U U (C5 B5))) ?_
   (rw[c8p (t:=t) (k:=[100,105,102,102,32,115,117,109,115]) (by omega) (by omega) (by assumption) (by decide)];rfl)
  refine A0<|H1 U U<|y_S U<|xN [1,2,4,28,29] [1,2,4] U ?_
  refine A4 U ?_ ?_<;>intro a<;>try simp only[SL]at a
  ·refine A3<|A0<|y_F U<|y_L U ?_
   rw[a4u];refine H9 U U U (fun _=>U) (by show(0:Int)<=0/\(0:Int)<((t.kids.getD 0 default).kids.length:Int);omega)<|y_I U<|xB U U U U U U U U U<|y_S U<|xN [2,3] [2] U<|A9<|C0 (F5 U U U U (E3 U (E3 U (E3 U H2))) (D3 U U (C5 B5))) ?_
   (rw[c8p (t:=t) (k:=[115,117,109,115,32,100,105,102,102]) (by omega) (by omega) (by assumption) (by decide)];rfl)
  refine A3<|A3<|A0<|H1 U U<|y_S U<|xN [1,2,4,28,38] [1,2,4] U ?_
  refine A4 U ?_ ?_<;>intro a<;>try simp only[SL]at a
  ·refine A7 ?_
   refine A4 U (fun a=> ?_) (fun a=>absurd a (by simp_all));refine A3<|A0<|y_B U<|xB U U U U U U U U U<|y_S U<|xN [2,3] [2] U<|A9<|C0 (F5 U U U U (E3 U (E3 U (E3 U H2))) (D3 U U (C5 B5))) ?_
   (rw[e6z (t:=t) (k:=[115,111,114,116,32,115,111,114,116]) (by omega) (by omega) (by assumption) (by decide)];rfl)
  refine A0<|H1 U U<|y_S U<|xN [1,2,4,28,38] [1,2,4] U ?_
  refine A4 U ?_ ?_<;>intro a<;>try simp only[SL]at a
  ·refine A3<|A0<|y_B U<|xB U U U U U U U U U<|y_S U<|xN [2,3] [2] U<|A9<|C0 (F5 U U U U (E3 U (E3 U (E3 U H2))) (D3 U U (C5 B5))) ?_
   (rw[e6z (t:=t) (k:=[97,98,115,32,97,98,115]) (by omega) (by omega) (by assumption) (by decide)];rfl)
  refine A3<|A3<|A0<|H1 U U<|y_S U<|xN [1,2,4,28,42] [1,2,4] U ?_
  refine A4 U ?_ ?_<;>intro a<;>try simp only[SL]at a
  ·refine A7 ?_
   refine A4 U (fun a=> ?_) (fun a=>absurd a (by simp_all));refine A3<|A0<|y_F U<|y_L U<|y_F U<|y_L U<|I3 (fs:=[_,_,_]) U U U U U<|xB U U U U U U U U U<|y_S U<|xN [2,3] [2] U<|A9<|C0 (F5 U U U U (E3 U (J0 U (E3 U H2))) (D3 U U (C5 B5))) ?_
   (rw[c9s (t:=t) (k:=[115,111,114,116,32,114,101,118]) (by omega) (by omega) (by assumption) (by decide)];show AV.tup [AV.agg [tV t.op,AV.list [],AV.list (a7s (t.kids.getD 0 default))],bV true]=AV.tup [trV (.un t.op ((t.kids.getD 0 default).kids.getD 0 default)),bV true];rw[b7x (w:=t.op) (t:=t.kids.getD 0 default) (by omega)];rfl)
  refine A3<|A0<|H1 U U<|y_S U<|xN [1,2,4,28,42] [1,2,4] U ?_
  refine A4 U ?_ ?_<;>intro a<;>try simp only[SL]at a
  ·refine A7 ?_
   refine A4 U (fun a=> ?_) (fun a=>absurd a (by simp_all));refine A3<|A0<|y_F U<|y_L U<|y_F U<|y_L U<|I3 (fs:=[_,_,_]) U U U U U<|xB U U U U U U U U U<|y_S U<|xN [2,3] [2] U<|A9<|C0 (F5 U U U U (E3 U (J0 U (E3 U H2))) (D3 U U (C5 B5))) ?_
   (rw[c9s (t:=t) (k:=[97,98,115,32,110,101,103]) (by omega) (by omega) (by assumption) (by decide)];show AV.tup [AV.agg [tV t.op,AV.list [],AV.list (a7s (t.kids.getD 0 default))],bV true]=AV.tup [trV (.un t.op ((t.kids.getD 0 default).kids.getD 0 default)),bV true];rw[b7x (w:=t.op) (t:=t.kids.getD 0 default) (by omega)];rfl)
  refine A3<|A0<|H1 U U<|y_S U<|xN [1,2,4,28,42] [1,2,4] U ?_
  refine A4 U ?_ ?_<;>intro a<;>try simp only[SL]at a
  ·refine A7 ?_
   refine A4 U (fun a=> ?_) (fun a=>absurd a (by simp_all));refine A3<|A0<|y_F U<|y_L U<|y_F U<|y_L U<|I3 (fs:=[_,_,_]) U U U U U<|xB U U U U U U U U U<|y_S U<|xN [2,3] [2] U<|A9<|C0 (F5 U U U U (E3 U (J0 U (E3 U H2))) (D3 U U (C5 B5))) ?_
   (rw[c9s (t:=t) (k:=[116,111,116,97,108,32,115,111,114,116]) (by omega) (by omega) (by assumption) (by decide)];show AV.tup [AV.agg [tV t.op,AV.list [],AV.list (a7s (t.kids.getD 0 default))],bV true]=AV.tup [trV (.un t.op ((t.kids.getD 0 default).kids.getD 0 default)),bV true];rw[b7x (w:=t.op) (t:=t.kids.getD 0 default) (by omega)];rfl)
  refine A0<|H1 U U<|y_S U<|xN [1,2,4,42] [1,2,4] U ?_
  refine A4 U ?_ ?_<;>intro a<;>try simp only[SL]at a
  ·refine A3<|A0<|y_F U<|y_L U<|y_F U<|y_L U<|I3 (fs:=[_,_,_]) U U U U U<|xB U U U U U U U U U<|y_S U<|xN [2,3] [2] U<|A9<|C0 (F5 U U U U (E3 U (J0 U (E3 U H2))) (D3 U U (C5 B5))) ?_
   (rw[c9s (t:=t) (k:=[116,111,116,97,108,32,114,101,118]) (by omega) (by omega) (by assumption) (by decide)];show AV.tup [AV.agg [tV t.op,AV.list [],AV.list (a7s (t.kids.getD 0 default))],bV true]=AV.tup [trV (.un t.op ((t.kids.getD 0 default).kids.getD 0 default)),bV true];rw[b7x (w:=t.op) (t:=t.kids.getD 0 default) (by omega)];rfl)
  refine A7<|A3<|A0<|y_B U<|xB U U U U U U U U U<|y_S U<|xN [2,3] [2] U<|A9<|C0 (F5 U U U U (E3 U (E3 U (E3 U H2))) (D3 U U (C5 B5))) ?_
  (rw[d4v (by omega) (by omega),f2q (by simp only[goneL,List.mem_cons,List.not_mem_nil,or_false];rintro x (rfl|rfl|rfl|rfl|rfl|rfl|rfl|rfl|rfl|rfl)<;>assumption)];show AV.tup [trK t,bV false]=AV.tup [trV t,bV false];rw[L0])
 iterate 6 refine gF U U ?_
 refine F0 U (by assumption) U U<|xN [1,2,17] [1,2] U ?_
 refine A4 U (fun a=> ?_) (fun a=>absurd a (by decide));refine A3<|A0<|y_B U<|xB U U U U U U U U U<|y_S U<|xN [2,3] [2] U<|A9<|C0 (F5 U U U U (E3 U (E3 U (E3 U H2))) (D3 U U (C5 B5))) ?_
 (rw[c6e (by omega)];show AV.tup [trK t,bV false]=AV.tup [trV t,bV false];rw[L0])
theorem b9w:D9 Tryz.f91=[0,2,1,5,16,4,3,6,25,7,8,37,9,13]:=by kernel_rfl
theorem e5r(t:Pl)(s:t.sz<=1000)(e:t.good):CW (cxT oG) 91 [trK t]=some (.own 3 ((oneP t).map trV),[]):=by
 obtain⟨u,l⟩:∃u:Nat,t.sz<u:=⟨_,ZJ _⟩;revert t
 induction u with
 |zero=>intro t s e l;exact absurd l (Yz _)
 |succ u G=>
  intro t s e l;have H:=a5i t;have o:=fun i (h:i<=t.kids.length)=>d4i (t:=t) h
  have q:=fun i j (h:i<t.kids.length)=>e9c (t:=t) (j:=j) h
  refine C7 U Tryz.func91 U ⟨by kernel_rfl,U,dT U,dT U,by decide⟩ b9w<|A3<|A0<|P3 U U U (fun _=>H7 U) (fun _=>U) ?_
  intro g1
  (refine B4 U U (fun _=>U) ?_;intro g2)
  refine xN [1] [1] U<|A3<|A0<|B6 (es:=Zw trV []) U U (dT U) U U (fun _=>B3 (A6 fun _=>U)) (fun _=>U) ?_
  intro g10
  (refine xO U U (by simp) U (fun _=>U) (fun _=>U) ?_;intro g3)
  refine xN [1,3] [1,3] U<|A3<|A0<|y_B U ?_
  apply xC U
  ·apply A8
   ·exact B1 U
   exact C2
  ·exact f6c t e
  refine⟨⟨U,U,U,dT U,U⟩,.inl U,B2,J2 U,fun _=>U,fun g13=> ?_⟩;refine y_M U<|y_E U<|y_E U<|y_A U (fun _=>U) ?_
  intro g4;refine xB U U U U U U U U U<|y_S U<|xN [1,3,4,5] [1,3,4] U<|A3<|A3<|A0<|y_M U<|xN [1,3,4,16] [1,3,4] U ?_
  refine A4 U ?_ ?_<;>intro f<;>try simp only[SL]at f
  ·refine A0<|y_M U<|y_B U<|B6 (es:=Zw trV [_]) U U (dT U) U U (fun _=>B3 (A6 fun _=>U)) (fun _=>U) ?_
   intro g19;refine xA U U U U (by simp) (by simp) U U U U U (fun _=>U) (by simp only[LN];omega) (fun _=>U) ?_;intro g20
   (refine xO U U (by simp) U (fun _=>U) (fun _=>U) ?_;intro g3)
   refine xN [1,3] [1,3] U<|A3<|A3<|A0<|y_S U<|xN [1,3,6] [1,3] U<|B0<|D8 (β:=Nat×List Pl×Nat) [(.t 1,_),(.h 1,_)] (fun(z:Nat×List Pl×Nat)=>match z with|(i,us,g)=>[(.t 6,iV i),(.h 3,.obj g 0 3 (us.map trV)),(.t 3,.sl 3 g none 0 us.length)]) (fun(z:Nat×List Pl×Nat)=>match z with|(i,us,g)=>i<=t.kids.length/\us=b1r t i) (fun(z:Nat×List Pl×Nat)=>match z with|(i,us,g)=>t.kids.length-i) (0,_,_) ⟨U,U,U,U,U,trivial⟩ ⟨Zv _,by(rw[b1r,ZT.1 f|>.choose_spec];rfl)⟩ ?_
   intro z c;obtain⟨i,us,g⟩:=z
   try dsimp only at c
   obtain⟨k,a⟩:=c;have m:=o i k;rw[<-a]at m;refine A3<|A3<|A0<|y_M U<|y_F U<|y_L U<|B8 U U<|F4 U U<|xN [1,3,6,25] [1,3] U ?_
   refine A4 U ?_ ?_<;>intro f<;>try simp only[SL]at f
   ·refine A7<|A3<|B0<|A3<|A0<|y_F U<|y_L U<|y_M U<|B7 U U U (fun _=>U) (by omega)<|y_I U ?_
    have D:=Z8 (t:=t) (i:=i) (by omega);have E:=a9p (t.kids.getD i default);apply xC U
    ·apply A8
     ·exact B1 U
     exact C2
    ·exact(by have p:=G (t.kids.getD i default) (by omega) (a8n e (by omega)) (by omega);rw[<-L0]at p;exact p)
    refine⟨⟨U,U,U,dT U,U⟩,.inl U,B2,H4,fun _=>U,fun v=> ?_⟩;simp only[Zi]
    (refine xO U U (by simp) U (fun _=>U) (fun _=>U) ?_;intro g7)
    refine xN [1,3,6,7] [1,3,7] U<|A3<|A0<|y_S U<|xN [1,3,6,7,8] [1,3,7] U<|B0<|D8 (β:=Nat×List Pl×Nat) [(.t 1,_),(.t 6,_),(.t 7,_),(.h 1,_),(.h 7,_)] (fun(z:Nat×List Pl×Nat)=>match z with|(j,vs,g1)=>[(.t 8,iV j),(.h 3,.obj g1 0 3 (vs.map trV)),(.t 3,.sl 3 g1 none 0 vs.length)]) (fun(z:Nat×List Pl×Nat)=>match z with|(j,vs,g1)=>j<=(oneP (t.kids.getD i default)).length/\vs=b7b t i j) (fun(z:Nat×List Pl×Nat)=>match z with|(j,vs,g1)=>(oneP (t.kids.getD i default)).length-j) (0,_,_) ⟨U,U,U,U,U,U,U,U,trivial⟩ ⟨Zv _,by rw[a,c6l]⟩ ?_
    intro z c;obtain⟨j,vs,g1⟩:=z
    try dsimp only at c
    obtain⟨C,b⟩:=c;have n:=q i j (by omega);rw[<-b]at n;refine A3<|A3<|A0<|y_M U<|y_M U<|G8 U U<|F4 U U<|xN [1,3,6,7,8,37] [1,3,7] U ?_
    refine A4 U ?_ ?_<;>intro f<;>try simp only[SL]at f
    ·refine A7<|A3<|B0<|A3<|A0<|B6 (es:=Zw trV []) U U (dT U) U U (fun _=>B3 (A6 fun _=>U)) (fun _=>U) ?_
     intro w;refine y_F U<|y_L U<|Q0 U U U (by(simp;done)) U U U (dT U) (fun _=>⟨U,U,U⟩) (by simp only[H0];(simp only[Zo,Ze,Zf,ZL,Zi];omega)) (fun _=>U) ?_
     intro x
     (refine xO U U (by simp) U (fun _=>U) (fun _=>U) ?_;intro g9)
     refine xN [1,3,6,7,8,9] [1,3,7,9] U<|A3<|A0<|y_M U<|y_M U<|y_M U<|y_M U<|C9 U U U U (by omega) (by(simp;done)) U<|E6 U U (by omega) (fun _=>U) (fun _=>U) U<|C9 U U U U (by(simp;omega)) (by(simp;done)) U<|K4 U U U (by(simp;omega)) (fun _ _=>⟨U,U,dT U,dT U,U,U⟩) (by decide) (by exact B3 (A6 fun _=>U))<|xN [1,3,6,7,8,9] [1,3,7,9] U<|A0<|y_M U<|y_F U<|y_L U<|y_F U<|y_L U<|y_M U<|I3 (fs:=[_,_,_]) U U U U U<|b5f (mk:=2) (fs:=[_,_,_]) U U U (dT U) U U (c8t U (c8t U (e9d U (by simp) (fun _=>U) K9))) (fun _ _=>C6 (Q5 (A6 fun _=>U) (by decide)) (C6 (B3 U) (I4 U))) ?_
     intro F y;simp only[K5,Zp,Zj];rw[e8q (by omega)];refine xA U U U U (by simp) (by simp) U U U U U (fun _=>U) (by simp only[LN];omega) (fun _=>U) ?_;intro B
     (refine xO U U (by simp) U (fun _=>U) (fun _=>U) ?_;intro g3)
     refine xN [1,3,6,7,8] [1,3,7] U<|A0<|y_M U<|D7 U U (B9 (by omega))<|y_S U<|xN [1,3,6,7,8] [1,3,7] U ?_
     refine⟨(j+1,_,_),⟨by omega,by rw[b];exact c5t (by omega)⟩,(by simp only;omega),⟨U,U,U,U,U,U,U,U,trivial⟩⟩
    refine D6<|A0<|y_M U<|D7 U U (B9 (by omega))<|y_S U<|xN [1,3,6] [1,3] U ?_
    refine⟨(i+1,_,_),⟨by omega,by rw[b];exact d2z (by omega)⟩,(by simp only;omega),⟨U,U,U,U,U,trivial⟩⟩
   refine D6<|A3<|A0<|y_M U ?_
   (refine xO U U (by simp) U (fun _=>U) (fun _=>U) ?_;intro g2)
   refine xN [2] [2] U<|A9<|J3 U U (by simp) (by exact A6 fun _=>U) trivial ?_
   rw[a,show i=t.kids.length by omega,c2k]
  refine A7<|A3<|A3<|A0<|y_S U<|xN [1,3,6] [1,3] U<|B0<|D8 (β:=Nat×List Pl×Nat) [(.t 1,_),(.h 1,_)] (fun(z:Nat×List Pl×Nat)=>match z with|(i,us,g)=>[(.t 6,iV i),(.h 3,.obj g 0 3 (us.map trV)),(.t 3,.sl 3 g none 0 us.length)]) (fun(z:Nat×List Pl×Nat)=>match z with|(i,us,g)=>i<=t.kids.length/\us=b1r t i) (fun(z:Nat×List Pl×Nat)=>match z with|(i,us,g)=>t.kids.length-i) (0,_,_) ⟨U,U,U,U,U,trivial⟩ ⟨Zv _,by(rw[b1r];simp_all)⟩ ?_
  intro z c;obtain⟨i,us,g⟩:=z
  try dsimp only at c
  obtain⟨k,a⟩:=c;have m:=o i k;rw[<-a]at m;refine A3<|A3<|A0<|y_M U<|y_F U<|y_L U<|B8 U U<|F4 U U<|xN [1,3,6,25] [1,3] U ?_
  refine A4 U ?_ ?_<;>intro f<;>try simp only[SL]at f
  ·refine A7<|A3<|B0<|A3<|A0<|y_F U<|y_L U<|y_M U<|B7 U U U (fun _=>U) (by omega)<|y_I U ?_
   have D:=Z8 (t:=t) (i:=i) (by omega);have E:=a9p (t.kids.getD i default);apply xC U
   ·apply A8
    ·exact B1 U
    exact C2
   ·exact(by have p:=G (t.kids.getD i default) (by omega) (a8n e (by omega)) (by omega);rw[<-L0]at p;exact p)
   refine⟨⟨U,U,U,dT U,U⟩,.inl U,B2,H4,fun _=>U,fun v=> ?_⟩;simp only[Zi]
   (refine xO U U (by simp) U (fun _=>U) (fun _=>U) ?_;intro g7)
   refine xN [1,3,6,7] [1,3,7] U<|A3<|A0<|y_S U<|xN [1,3,6,7,8] [1,3,7] U<|B0<|D8 (β:=Nat×List Pl×Nat) [(.t 1,_),(.t 6,_),(.t 7,_),(.h 1,_),(.h 7,_)] (fun(z:Nat×List Pl×Nat)=>match z with|(j,vs,g1)=>[(.t 8,iV j),(.h 3,.obj g1 0 3 (vs.map trV)),(.t 3,.sl 3 g1 none 0 vs.length)]) (fun(z:Nat×List Pl×Nat)=>match z with|(j,vs,g1)=>j<=(oneP (t.kids.getD i default)).length/\vs=b7b t i j) (fun(z:Nat×List Pl×Nat)=>match z with|(j,vs,g1)=>(oneP (t.kids.getD i default)).length-j) (0,_,_) ⟨U,U,U,U,U,U,U,U,trivial⟩ ⟨Zv _,by rw[a,c6l]⟩ ?_
   intro z c;obtain⟨j,vs,g1⟩:=z
   try dsimp only at c
   obtain⟨C,b⟩:=c;have n:=q i j (by omega);rw[<-b]at n;refine A3<|A3<|A0<|y_M U<|y_M U<|G8 U U<|F4 U U<|xN [1,3,6,7,8,37] [1,3,7] U ?_
   refine A4 U ?_ ?_<;>intro f<;>try simp only[SL]at f
   ·refine A7<|A3<|B0<|A3<|A0<|B6 (es:=Zw trV []) U U (dT U) U U (fun _=>B3 (A6 fun _=>U)) (fun _=>U) ?_
    intro w;refine y_F U<|y_L U<|Q0 U U U (by(simp;done)) U U U (dT U) (fun _=>⟨U,U,U⟩) (by simp only[H0];(simp only[Zo,Ze,Zf,ZL,Zi];omega)) (fun _=>U) ?_
    intro x
    (refine xO U U (by simp) U (fun _=>U) (fun _=>U) ?_;intro g9)
    refine xN [1,3,6,7,8,9] [1,3,7,9] U<|A3<|A0<|y_M U<|y_M U<|y_M U<|y_M U<|C9 U U U U (by omega) (by(simp;done)) U<|E6 U U (by omega) (fun _=>U) (fun _=>U) U<|C9 U U U U (by(simp;omega)) (by(simp;done)) U<|K4 U U U (by(simp;omega)) (fun _ _=>⟨U,U,dT U,dT U,U,U⟩) (by decide) (by exact B3 (A6 fun _=>U))<|xN [1,3,6,7,8,9] [1,3,7,9] U<|A0<|y_M U<|y_F U<|y_L U<|y_F U<|y_L U<|y_M U<|I3 (fs:=[_,_,_]) U U U U U<|b5f (mk:=2) (fs:=[_,_,_]) U U U (dT U) U U (c8t U (c8t U (e9d U (by simp) (fun _=>U) K9))) (fun _ _=>C6 (Q5 (A6 fun _=>U) (by decide)) (C6 (B3 U) (I4 U))) ?_
    intro F y;simp only[K5,Zp,Zj];rw[e8q (by omega)];refine xA U U U U (by simp) (by simp) U U U U U (fun _=>U) (by simp only[LN];omega) (fun _=>U) ?_;intro B
    (refine xO U U (by simp) U (fun _=>U) (fun _=>U) ?_;intro g3)
    refine xN [1,3,6,7,8] [1,3,7] U<|A0<|y_M U<|D7 U U (B9 (by omega))<|y_S U<|xN [1,3,6,7,8] [1,3,7] U ?_
    refine⟨(j+1,_,_),⟨by omega,by rw[b];exact c5t (by omega)⟩,(by simp only;omega),⟨U,U,U,U,U,U,U,U,trivial⟩⟩
   refine D6<|A0<|y_M U<|D7 U U (B9 (by omega))<|y_S U<|xN [1,3,6] [1,3] U ?_
   refine⟨(i+1,_,_),⟨by omega,by rw[b];exact d2z (by omega)⟩,(by simp only;omega),⟨U,U,U,U,U,trivial⟩⟩
  refine D6<|A3<|A0<|y_M U ?_
  (refine xO U U (by simp) U (fun _=>U) (fun _=>U) ?_;intro g2)
  refine xN [2] [2] U<|A9<|J3 U U (by simp) (by exact A6 fun _=>U) trivial ?_
  rw[a,show i=t.kids.length by omega,c2k]
theorem c9y:D9 Tryz.f98=[0,2,3,5,17,7,37,40,39,41,38,6,9,62,10,8,4]:=by kernel_rfl
theorem f2d(s:List UInt8)(R:s.length<=1048576)(hw:(splitB 32 s).length<=1000):CW (cxT (some rG)) 98 [tV s]=some (.own 1 (((N6 (splitB 32 s)).map (joinB 32)).map tV),[]):=by
 obtain⟨ws,l⟩:∃ws,ws=splitB 32 s:=⟨_,U⟩;rw[<-l];have T:ws.length<=1000:=by rw[l];exact hw
 have F:∀w∈ws,w.length<=1048576:=fun w h=>by rw[l]at h;have:=a0h 32 s w h;omega
 have D:=fun(i:Nat) (h:i<ws.length)=>F _ (N2 h)
 have E:(joinB 32 ws).length<=1048576:=by rw[l,b0m];exact R
 have N:1<=ws.length:=by rw[l];have:=b3b 32 s;cases h:splitB 32 s with|nil=>exact absurd h this|cons a b=>simp
 refine C7 U Tryz.func98 U ⟨by kernel_rfl,U,dT U,dT U,by decide⟩ c9y<|A3<|A0 ?_
 (refine B4 U U (fun _=>U) ?_;intro g2)
 refine xN [0] [] U<|A3<|A0<|y_M U ?_
 apply xC U
 ·apply A8
  ·exact B1 U
  apply A8
  ·exact B1 U
  exact C2
 ·exact d1c s 32 (by omega)
 refine⟨⟨U,U,U,dT U,U⟩,.inl U,B2,H4,fun _=>U,fun g12=> ?_⟩;rw[<-l]
 try simp only[Zi]
 (refine xO U U (by simp) U (fun _=>U) (fun _=>U) ?_;intro g3)
 refine xN [3] [3] U<|A3<|A0 ?_
 (refine B4 U U (fun _=>U) ?_;intro g4)
 refine xN [3,4] [3,4] U<|A3<|A3<|A0<|y_S U<|xN [3,4,5] [3,4] U<|B0<|D8 (β:=Nat×List W8×Nat) [(.t 3,_),(.h 3,_)] (fun(z:Nat×List W8×Nat)=>match z with|(i,us,g)=>[(.t 5,iV i),(.h 4,.obj g 0 1 (us.map tV)),(.t 4,.sl 4 g none 0 us.length)]) (fun(z:Nat×List W8×Nat)=>match z with|(i,us,g)=>i+1<=ws.length/\us=(hitsN ws i).map (joinB 32)) (fun(z:Nat×List W8×Nat)=>match z with|(i,us,g)=>ws.length-i) (0,[],_) ⟨U,U,U,U,U,trivial⟩ ⟨by omega,U⟩ ?_
 intro z C;obtain⟨i,us,g⟩:=z
 try dsimp only at C
 obtain⟨K,m⟩:=C;have S:us.length<=i:=by rw[m,Zi];exact c4z ws i
 refine A3<|A3<|A0<|y_M U<|D7 U U (B9 (by omega))<|y_M U<|G8 U U<|F4 U U<|xN [3,4,5,17] [3,4] U ?_
 refine A4 U ?_ ?_<;>intro c<;>try simp only[SL]at c
 ·refine A7<|A3<|B0<|A3<|A0<|d2e U U U<|y_M U<|y_M U<|C9 U U U U (by omega) (by(simp;done)) U<|E6 U U (by omega) (fun _=>U) (fun _=>U) U ?_
  have O:=D i (by omega);refine J9 U U (by simp only[H0,Zf,Ze,Zo];omega)<|y_M U<|y_M U<|D7 U U (B9 (by omega))<|C9 U U U U (by(simp;omega)) (by(simp;done)) U<|E6 U U (by(simp;omega)) (fun _=>U) (fun _=>U) U ?_
  have P:=D (i+1) (by omega);refine J9 U U (by simp only[H0,Zf,Ze,Zo];omega) ?_;rcases j:keyG ((ws.getD i default++[32])++ws.getD (i+1) default)with _|⟨x,y⟩
  ·skip
   refine d1u (u:= .undef) (b:=false) (v:= .agg [bV false,bV false]) U U (show(cxT (some rG)).mp rG=some goneTb from if_pos U) U ⟨U,U⟩ (by rw[b9g,j];rfl) U<|y_M U<|y_E U<|y_E U<|y_A U (fun _=>U) ?_
   intro g6;refine xB U U U U U U U U U<|y_S U ?_
   refine G7 ⟨fun _=>⟨by decide+kernel,by decide+kernel⟩,[(.t 3,_),(.t 4,_),(.t 5,_),(.t 6,_),(.t 7,_),(.h 3,_),(.h 4,_),(.h 6,_)],⟨U,U,U,U,U,U,U,U,U,U,U,U,U,U,U,U,trivial⟩,?_⟩;refine A3<|A3<|A0<|y_M U<|H8 U<|xN [3,4,5,6,37] [3,4,6] U ?_
   refine A4 U (fun c=> ?_) (fun c=>absurd c (by decide));refine D6<|A0<|y_M U<|D7 U U (B9 (by omega))<|y_S U<|xN [3,4,5] [3,4] U ?_
   refine⟨(i+1,_,_),⟨by omega,by rw[hitsN,Yi,m,b9a,j];simp⟩,(by simp only;omega),⟨U,U,U,U,U,trivial⟩⟩
  skip
  refine d1u (u:= .undef) (b:=true) (v:= .agg [bV x,bV y]) U U (show(cxT (some rG)).mp rG=some goneTb from if_pos U) U ⟨U,U⟩ (by rw[b9g,j];rfl) U<|y_M U<|y_E U<|y_E U<|y_A U (fun _=>U) ?_
  intro g6;refine xB U U U U U U U U U<|y_S U ?_
  refine G7 ⟨fun _=>⟨by decide+kernel,by decide+kernel⟩,[(.t 3,_),(.t 4,_),(.t 5,_),(.t 6,_),(.t 7,_),(.h 3,_),(.h 4,_),(.h 6,_)],⟨U,U,U,U,U,U,U,U,U,U,U,U,U,U,U,U,trivial⟩,?_⟩;refine A3<|A3<|A0<|y_M U<|H8 U<|xN [3,4,5,6,37] [3,4,6] U ?_
  refine A4 U (fun c=>absurd c (by decide)) (fun c=> ?_);refine A7<|A3<|A0 ?_
  (refine B4 U U (fun _=>U) ?_;intro g8)
  refine xN [3,4,5,6,8] [3,4,6,8] U<|A3<|A3<|A0<|y_M U<|G8 U U<|y_M U<|xN [3,4,5,6,8,38,39,40] [3,4,6,8] U<|B0<|D8 (β:=Nat×List W8×Nat) [(.t 3,_),(.t 4,_),(.t 5,_),(.t 6,_),(.t 38,_),(.t 39,_),(.h 3,_),(.h 4,_),(.h 6,_)] (fun(z:Nat×List W8×Nat)=>match z with|(k,ls,g1)=>[(.t 40,iV k),(.h 8,.obj g1 0 1 (ls.map tV)),(.t 8,.sl 8 g1 none 0 ls.length)]) (fun(z:Nat×List W8×Nat)=>match z with|(k,ls,g1)=>k<=ws.length/\ls=leftN ws i x y k) (fun(z:Nat×List W8×Nat)=>match z with|(k,ls,g1)=>ws.length-k) (0,[],_) ⟨U,U,U,U,U,U,U,U,U,U,U,U,trivial⟩ ⟨Zv _,U⟩ ?_
  intro z C;obtain⟨k,ls,g1⟩:=z
  try dsimp only at C
  obtain⟨L,e⟩:=C;have M:ls.length<=k:=by rw[e];exact c6m ws i x y k
  refine A3<|A0<|F4 U U<|xN [3,4,5,6,8,38,39,40,41] [3,4,6,8] U<|A3 ?_
  refine A4 U ?_ ?_<;>intro c<;>try simp only[SL]at c
  ·refine A7<|A3<|B0<|A3<|A0<|y_M U<|C9 U U U U (by omega) (by(simp;done)) U<|E6 U U (by omega) (fun _=>U) (fun _=>U) U<|y_S U<|y_S U<|xN [3,4,5,6,8,9,10,38,39,40] [3,4,6,8] U<|A3<|A0<|y_M U<|y_M U<|K6 U U<|y_M U ?_
   refine D5 U U ?_ ?_<;>intro f<;>have q:=f<;>try simp only[SG]at q
   ·refine X0 U U U U U (by omega) U<|gT U U<|y_L U<|F0 U (by assumption) U U<|y_M U ?_
    refine D5 U U ?_ ?_<;>intro f<;>have q:=f<;>try simp only[SG]at q
    ·refine y_M U<|gT U U<|y_M U<|gT U U<|D7 U U (B9 (by omega))<|gT U U<|K6 U U<|gT U U<|y_M U ?_
     refine D5 U U ?_ ?_<;>intro f<;>have q:=f<;>try simp only[SG]at q
     ·refine X0 U U U U U (by omega) U<|gT U U<|y_L U<|gT U U<|F0 U (by assumption) U U<|E8 U (by assumption) U U<|H8 U<|xN [3,4,5,6,8,10,38,39,40,62] [3,4,6,8] U ?_
      refine A4 U ?_ ?_<;>intro c<;>try simp only[SL]at c
      ·refine A0<|y_M U<|y_M U<|B6 (es:=Zw tV [_]) U U (dT U) U U (fun _=>B3 (A6 fun _=>U)) (fun _=>U) ?_
       intro n;refine R5 U U U U (by(simp;done)) (by simp) (by decide) U U U U (dT U) (fun _=>⟨U,U⟩) (by simp only[H0];omega) (fun _=>U) ?_;intro o
       (refine xO U U (by simp) U (fun _=>U) (fun _=>U) ?_;intro g8)
       refine xN [3,4,5,6,8,38,39,40] [3,4,6,8] U<|A0<|D7 U U (B9 (by omega))<|y_M U<|xN [3,4,5,6,8,38,39,40] [3,4,6,8] U ?_
       refine⟨(k+1,_,_),⟨by omega,by(exfalso;omega)⟩,(by simp only;omega),⟨U,U,U,U,U,U,U,U,U,U,U,U,trivial⟩⟩
      refine A7<|A0<|D7 U U (B9 (by omega))<|y_M U<|xN [3,4,5,6,8,38,39,40] [3,4,6,8] U ?_
      refine⟨(k+1,_,_),⟨by omega,by(exfalso;omega)⟩,(by simp only;omega),⟨U,U,U,U,U,U,U,U,U,U,U,U,trivial⟩⟩
     refine gF U U<|gT U U<|E8 U (by assumption) U U<|E8 U (by assumption) U U<|H8 U<|xN [3,4,5,6,8,10,38,39,40,62] [3,4,6,8] U ?_
     refine A4 U (fun c=> ?_) (fun c=>absurd c (by decide));refine A0<|y_M U<|y_M U<|B6 (es:=Zw tV [_]) U U (dT U) U U (fun _=>B3 (A6 fun _=>U)) (fun _=>U) ?_
     intro n;refine xA U U U U (by simp) (by simp) U U U U U (fun _=>U) (by simp only[LN];omega) (fun _=>U) ?_;intro o
     (refine xO U U (by simp) U (fun _=>U) (fun _=>U) ?_;intro g8)
     refine xN [3,4,5,6,8,38,39,40] [3,4,6,8] U<|A0<|D7 U U (B9 (by omega))<|y_M U<|xN [3,4,5,6,8,38,39,40] [3,4,6,8] U ?_
     refine⟨(k+1,_,_),⟨by omega,by exact c0w e (by rintro(⟨B,p⟩|⟨B,p⟩)<;>first|omega|exact ZK (p.symm.trans (show x=false by assumption)))⟩,(by simp only;omega),⟨U,U,U,U,U,U,U,U,U,U,U,U,trivial⟩⟩
    iterate 4 refine gF U U ?_
    refine a5g U U<|a5g U U<|gF U U<|F0 U (by assumption) U U<|H8 U<|xN [3,4,5,6,8,10,38,39,40,62] [3,4,6,8] U ?_
    refine A4 U (fun c=>absurd c (by decide)) (fun c=> ?_);refine A7<|A0<|D7 U U (B9 (by omega))<|y_M U<|xN [3,4,5,6,8,38,39,40] [3,4,6,8] U ?_
    refine⟨(k+1,_,_),⟨by omega,by exact c6o e (.inl ⟨by omega,by assumption⟩)⟩,(by simp only;omega),⟨U,U,U,U,U,U,U,U,U,U,U,U,trivial⟩⟩
   refine gF U U<|E8 U (by assumption) U U<|y_M U<|G2 U U U<|y_M U<|G2 U U U<|y_M U<|G2 U U U<|D7 U U (B9 (by omega))<|G2 U U U<|K6 U U<|G2 U U U<|y_M U ?_
   refine D5 U U ?_ ?_<;>intro f<;>have q:=f<;>try simp only[SG]at q
   ·refine X0 U U U U U (by omega) U<|gT U U<|y_L U<|G2 U U U<|F0 U (by assumption) U U<|E8 U U U U<|H8 U<|xN [3,4,5,6,8,10,38,39,40,62] [3,4,6,8] U ?_
    refine A4 U ?_ ?_<;>intro c<;>try simp only[SL]at c
    ·refine A0<|y_M U<|y_M U<|B6 (es:=Zw tV [_]) U U (dT U) U U (fun _=>B3 (A6 fun _=>U)) (fun _=>U) ?_
     intro n;refine xA U U U U (by simp) (by simp) U U U U U (fun _=>U) (by simp only[LN];omega) (fun _=>U) ?_;intro o
     (refine xO U U (by simp) U (fun _=>U) (fun _=>U) ?_;intro g8)
     refine xN [3,4,5,6,8,38,39,40] [3,4,6,8] U<|A0<|D7 U U (B9 (by omega))<|y_M U<|xN [3,4,5,6,8,38,39,40] [3,4,6,8] U ?_
     refine⟨(k+1,_,_),⟨by omega,by exact c0w e (by rintro(⟨B,p⟩|⟨B,p⟩)<;>first|omega|exact ZK (p.symm.trans (show y=false by assumption)))⟩,(by simp only;omega),⟨U,U,U,U,U,U,U,U,U,U,U,U,trivial⟩⟩
    refine A7<|A0<|D7 U U (B9 (by omega))<|y_M U<|xN [3,4,5,6,8,38,39,40] [3,4,6,8] U ?_
    refine⟨(k+1,_,_),⟨by omega,by exact c6o e (.inr ⟨by omega,by assumption⟩)⟩,(by simp only;omega),⟨U,U,U,U,U,U,U,U,U,U,U,U,trivial⟩⟩
   refine gF U U<|G2 U U U<|E8 U (by assumption) U U<|E8 U U U U<|H8 U<|xN [3,4,5,6,8,10,38,39,40,62] [3,4,6,8] U ?_
   refine A4 U (fun c=> ?_) (fun c=>absurd c (by decide));refine A0<|y_M U<|y_M U<|B6 (es:=Zw tV [_]) U U (dT U) U U (fun _=>B3 (A6 fun _=>U)) (fun _=>U) ?_
   intro n;refine xA U U U U (by simp) (by simp) U U U U U (fun _=>U) (by simp only[LN];omega) (fun _=>U) ?_;intro o
   (refine xO U U (by simp) U (fun _=>U) (fun _=>U) ?_;intro g8)
   refine xN [3,4,5,6,8,38,39,40] [3,4,6,8] U<|A0<|D7 U U (B9 (by omega))<|y_M U<|xN [3,4,5,6,8,38,39,40] [3,4,6,8] U ?_
   refine⟨(k+1,_,_),⟨by omega,by exact c0w e (by rintro(⟨B,p⟩|⟨B,p⟩)<;>omega)⟩,(by simp only;omega),⟨U,U,U,U,U,U,U,U,U,U,U,U,trivial⟩⟩
  refine D6<|A0<|y_M U<|y_M U ?_
  apply xC U
  ·apply A8
   ·exact E7 U U U (by(simp;done)) (fun _=>U)
   apply A8
   ·exact B1 U
   exact C2
  ·exact e0c ls 32 (by simp only[H0];omega) (by rw[e];have:=e5c (i:=i) (x:=x) (y:=y) E (show k=ws.length by omega);simp only[H0];omega)
  refine⟨⟨U,U,U,dT U,U⟩,.inr ⟨U,U⟩,B2,C8 U,fun _=>U,fun G=> ?_⟩;refine B6 (es:=Zw tV [_]) U U (dT U) U U (fun _=>B3 (A6 fun _=>U)) (fun _=>U) ?_;intro H;refine xA U U U U (by simp) (by simp) U U U U U (fun _=>U) (by simp only[LN];omega) (fun _=>U) ?_;intro I
  (refine xO U U (by simp) U (fun _=>U) (fun _=>U) ?_;intro g4)
  refine xN [3,4,5] [3,4] U<|A0<|y_M U<|D7 U U (B9 (by omega))<|y_S U<|xN [3,4,5] [3,4] U ?_
  refine⟨(i+1,_,_),⟨by omega,by rw[hitsN,Yi,m,b9a,j];(rw[e,show k=ws.length by omega];rfl)⟩,(by simp only;omega),⟨U,U,U,U,U,trivial⟩⟩
 refine D6<|A3<|A0<|y_M U ?_
 apply xC U
 ·apply A8
  ·exact b2c U U (by(simp;done)) (A6 fun _=>U)
  exact C2
 ·exact f1y us (by simp only[H0];omega)
 refine⟨⟨U,U,U,dT U,U⟩,.inl U,B2,H4,fun _=>U,fun J=> ?_⟩;simp only[Zi]
 (refine xO U U (by simp) U (fun _=>U) (fun _=>U) ?_;intro g2)
 refine xN [2] [2] U<|A9<|J3 U U (by simp) (by exact A6 fun _=>U) trivial ?_
 rw[m,show i=ws.length-1 by omega,c2d]
theorem c0y:D9 Tryz.f56=[0,2,1,3,8]:=by kernel_rfl
theorem e5s(t:Pl)(m:t.sz<=1000)(f:t.good)(i:t.wf):CW (cxT oG) 56 [trK t]=some (trV (normP t),[]):=by
 refine C7 U Tryz.func56 U ⟨by kernel_rfl,U,dT U,dT U,by decide⟩ c0y<|A3<|A0<|P3 U U U (fun _=>H7 U) (fun _=>U) ?_
 intro g1;refine y_A U (fun _=>U) ?_;intro g2;refine xN [1,2] [1,2] U<|B0 ?_
 rw[<-L0];refine D8 (β:=Pl) [(.t 1,_),(.t 2,_),(.h 2,_)] (fun(u:Pl)=>[(.h 1,.obj g1 3 3 [trV u])]) (fun(u:Pl)=>u.sz<=t.sz/\u.good/\u.wf/\normP u=normP t) (fun(u:Pl)=>u.sz) t ⟨U,U,U,U,trivial⟩ ⟨Zd _,f,i,U⟩ ?_;intro u j;obtain⟨n,b,e,c⟩:=j;refine B0<|A3<|A0<|y_B U ?_
 rw[L0];apply xC U
 ·apply A8
  ·exact B1 U
  exact C2
 ·exact e5r u (by omega) b
 refine⟨⟨U,U,U,dT U,U⟩,.inl U,B2,H4,fun _=>U,fun g5=> ?_⟩;simp only[Zi]
 (refine xO U U (by simp) U (fun _=>U) (fun _=>U) ?_;intro g3)
 refine xN [1,2,3] [1,2,3] U<|A3<|A3<|A0<|y_M U<|G8 U U<|K6 U U<|xN [1,2,3,8] [1,2,3] U ?_
 refine A4 U ?_ ?_<;>intro k<;>try simp only[SL]at k
 ·refine A3<|A0<|y_B U<|xB U U U U U U U U U<|xN [2] [2] U<|A9<|C0 (F5 U U U U (E3 U (E3 U (E3 U H2))) (C5 B5)) ?_
  rw[<-c,a1v (ZW.1 (by omega))];exact(L0 u).symm
 have a:(oneP u).getD 0 default∈oneP u:=N2 (by omega);have g:=U8 u e _ a;refine A7<|A0<|y_M U<|C9 U U U U (by(change 0<_;omega)) (by(simp;done)) U<|E6 U U (by(change 0<_;omega)) (fun _=>U) (fun _=>U) U<|xB U U U U U U U U U<|xN [1,2] [1,2] U ?_
 try rw[l]
 refine⟨((oneP u).getD 0 default),⟨by omega,a8x u b _ a,g.1,by rw[<-c];exact d2r e a⟩,(by omega),⟨U,U,U,U,trivial⟩⟩
theorem c2r:D9 Tryz.f71=[0,2,3,8]:=by kernel_rfl
theorem e5x(t:Pl)(g:t.wf)(m:t.sz<=1000)(k:(showP t).length<=1048576):CW (cxT (some rG)) 71 [tV (showP t)]=some (tV (showP (normP t)),[]):=by
 refine C7 U Tryz.func71 U ⟨by kernel_rfl,U,dT U,dT U,by decide⟩ c2r<|A3<|A0<|y_S U<|xN [0] [] U<|B0<|a5t (β:=Pl) (fun(u:Pl)=>[(.t 0,tV (showP u))]) (fun(u:Pl)=>u.sz<=t.sz/\u.wf/\(showP u).length<=(showP t).length/\normP u=normP t) (fun(u:Pl)=>u.sz) t ⟨U,trivial⟩ ⟨Zd _,g,Zd _,U⟩ ?_
 intro u i;obtain⟨o,b,n,c⟩:=i;refine B0<|A3<|A0<|y_M U ?_
 apply xC U
 ·apply A8
  ·exact B1 U
  exact C2
 ·exact(by have h:=f2d (rG:=rG) (showP u) (by omega) (by rw[c1w b];omega);rw[d7f b]at h;exact h)
 refine⟨⟨U,U,U,dT U,U⟩,.inl U,B2,H4,fun _=>U,fun g5=> ?_⟩;simp only[Zi]
 (refine xO U U (by simp) U (fun _=>U) (fun _=>U) ?_;intro g3)
 refine xN [0,3] [3] U<|A3<|A3<|A0<|y_M U<|G8 U U<|K6 U U<|xN [0,3,8] [3] U ?_
 refine A4 U ?_ ?_<;>intro j<;>try simp only[SL]at j
 ·refine A3<|A0<|y_M U<|y_S U<|xN [2] [] U<|A9<|C4 U U trivial ?_
  rw[<-c,a1v (ZW.1 (by omega))]
 have a:(oneP u).getD 0 default∈oneP u:=N2 (by omega);have f:=U8 u b _ a;have l:=b2q u _ a;have e:((oneP u).map showP).getD 0 default=showP ((oneP u).getD 0 default):=by rw[Zc,Zc,List.getElem?_map,List.getElem?_eq_getElem (by omega)];rfl
 refine A7<|A0<|y_M U<|C9 U U U U (by(change 0<_;omega)) (by(simp;done)) U<|E6 U U (by(simp;omega)) (fun _=>U) (fun _=>U) U<|y_S U<|xN [0] [] U ?_
 try rw[e]
 refine⟨((oneP u).getD 0 default),⟨by omega,f.1,by omega,by rw[<-c];exact d2r b a⟩,(by omega),⟨U,trivial⟩⟩
theorem d4j:D9 Tryz.f20=[0,1,4,24,5,36,6]:=by kernel_rfl
theorem a2n(c:List Int)(p:Int)(e:a8b c)(u:c.length<=1048576)(w:0<=p/\p<=1000000000)(n:Int)(v:n<=1000000000):∃res outs,(fun res outs=>∃k,res=iV k/\outs=[[rdr c (p+1)]]/\(1<=n->0<=k/\k<n)/\(n<1->k=0)) res outs/\CW (cxT oG) 20 [.ownp [rdr c p] 0 0,iV n]=some (res,outs):=by
 refine M3 U Tryz.func20 U ⟨by kernel_rfl,U,dT U,dT U,by decide⟩ d4j<|A3<|A0<|y_S U<|xN [0,1] [0] U<|A3<|A0<|y_M U<|y_M U<|L8 U U U<|y_F U<|y_L U<|D7 U U (B9 (by omega))<|L8 U U U<|y_F U<|b7t U U U U U ⟨by decide,U,dT U,dT U,U⟩ (by exact e3h U)<|xN [0,1] [0] U<|A3<|A3<|A0<|y_M U<|F4 U U<|y_M U ?_
 refine D5 U U ?_ ?_<;>intro g<;>have j:=g<;>try simp only[SG]at j
 ·refine y_M U<|gT U U<|L8 U U U<|gT U U<|y_F U<|gT U U<|y_L U<|gT U U<|B8 U U<|gT U U<|K6 U U<|E8 U (by assumption) U U<|xN [0,1,24] [0] U ?_
  refine A4 U ?_ ?_<;>intro f<;>try simp only[SL]at f
  ·refine A3<|A0<|y_S U<|xN [4] [0] U<|A9 ?_
   refine⟨_,_,?_,J1 U U (I0 U U)⟩;refine⟨_,U,U,fun h=> ?_,fun h=> ?_⟩
   ·omega
   omega
  refine A7<|A3<|A0<|y_M U<|L8 U U U<|y_F U<|y_L U<|J7 U U (B9 (by omega))<|y_S U<|xN [0,1,5] [0] U<|A3<|A3<|A0<|y_M U<|y_M U<|L8 U U U<|y_F U<|y_L U<|B8 U U<|F4 U U<|xN [0,1,5,36] [0] U ?_
  refine A4 U ?_ ?_<;>intro f<;>try simp only[SL]at f
  ·refine A3<|A0<|y_M U<|L8 U U U<|y_F U<|y_L U<|y_M U<|H9 U U U (fun _=>U) (by omega)<|y_I U<|a2m U U U (B9 (by have:=e.getD (p+1-1).toNat;omega))<|y_M U ?_
   have l:=e.getD (p+1-1).toNat;refine b8t U U (by omega)<|y_S U<|xN [4] [0] U<|A9 ?_
   refine⟨_,_,?_,J1 U U (I0 U U)⟩;refine⟨_,U,U,fun h=> ?_,fun h=> ?_⟩
   ·exact b8c (by omega) (by omega)
   omega
  refine A7<|A3<|A0<|y_M U<|L8 U U U<|y_F U<|y_L U<|y_M U<|y_M U<|L8 U U U<|y_F U<|y_L U<|B8 U U ?_
  have hlen:0<(c.length:Int):=by omega
  refine b8t U U (by omega) ?_;have o:=b8c (a:=p+1-1) (by omega) hlen;refine H9 U U U (fun _=>U) (by omega)<|y_I U<|a2m U U U (B9 (by have:=e.getD ((p+1-1).tmod c.length).toNat;omega)) ?_
  have l:=e.getD ((p+1-1).tmod c.length).toNat;refine V3 U U (B9 (by omega))<|y_M U<|L8 U U U<|y_F U<|y_L U<|y_M U<|V3 U U (B9 (by omega))<|D7 U U (B9 (by omega))<|y_M U<|L8 U U U<|y_F U<|y_L U<|B8 U U<|b8t U U (by omega) ?_
  have q:=b8c (a:=(p+1-1)*7+3) (by omega) hlen;refine H9 U U U (fun _=>U) (by omega)<|y_I U<|a2m U U U (B9 (by have:=e.getD (((p+1-1)*7+3).tmod c.length).toNat;omega)) ?_
  have m:=e.getD (((p+1-1)*7+3).tmod c.length).toNat;refine V3 U U (B9 (by omega))<|D7 U U (B9 (by omega))<|y_M U<|V3 U U (B9 (by omega))<|D7 U U (B9 (by omega))<|y_M U<|y_M U<|L8 U U U<|y_F U<|y_L U<|B8 U U ?_
  have s:=b7q (a:=p+1-1) (b:=c.length) (by omega) (by omega);refine a1a U U ⟨by omega,B9 (by omega)⟩<|V3 U U (B9 (by omega))<|D7 U U (B9 (by omega))<|y_S U ?_
  refine G7 ⟨fun _=>⟨by decide+kernel,by decide+kernel⟩,[(.t 1,_),(.t 6,_),(.h 0,_)],⟨U,U,U,U,U,U,trivial⟩,?_⟩;refine A3<|A0<|y_M U<|y_M U ?_
  have i:=b7q (a:=(c.getD ((p+1-1).tmod c.length).toNat default*131+c.getD (((p+1-1)*7+3).tmod c.length).toNat default*1117+(p+1-1)*29+(p+1-1).tdiv c.length*53)) (b:=64) (by omega) (by decide);refine a1a U U ⟨by omega,B9 (by omega)⟩ ?_;have z:=f5b (x:=(c.getD ((p+1-1).tmod c.length).toNat default*131+c.getD (((p+1-1)*7+3).tmod c.length).toNat default*1117+(p+1-1)*29+(p+1-1).tdiv c.length*53)) (by omega) (y:=(c.getD ((p+1-1).tmod c.length).toNat default*131+c.getD (((p+1-1)*7+3).tmod c.length).toNat default*1117+(p+1-1)*29+(p+1-1).tdiv c.length*53).tdiv 64) (by omega);refine f6i U U<|y_S U<|xN [1,6] [0] U<|A3<|A0<|y_M U<|y_M U<|b8t U U (by omega)<|y_S U<|xN [4] [0] U<|A9 ?_
  refine⟨_,_,?_,J1 U U (I0 U U)⟩;refine⟨_,U,U,fun h=> ?_,fun h=> ?_⟩
  ·exact b8c (by omega) (by omega)
  omega
 iterate 5 refine gF U U ?_
 refine F0 U (by assumption) U U<|xN [0,1,24] [0] U ?_
 refine A4 U (fun f=> ?_) (fun f=>absurd f (by decide));refine A3<|A0<|y_S U<|xN [4] [0] U<|A9 ?_
 refine⟨_,_,?_,J1 U U (I0 U U)⟩;refine⟨_,U,U,fun h=> ?_,fun h=> ?_⟩
 ·omega
 omega
theorem d9y:D9 Tryz.f17=[0,1,4]:=by kernel_rfl
theorem e2t(a:List Int)(p:Int)(c:a8b a)(g:a.length<=1048576)(h:0<=p/\p<=1000000000)(xs:List Int)(i:1<=xs.length/\xs.length<=1000):∃res outs,(fun res outs=>∃k,res=iV k/\outs=[[rdr a (p+1)]]/\k∈xs) res outs/\CW (cxT oG) 17 [.ownp [rdr a p] 0 0,L xs]=some (res,outs):=by
 refine M3 U Tryz.func17 U ⟨by kernel_rfl,U,dT U,dT U,by decide⟩ d9y<|A3<|A0<|y_S U<|xN [0,1] [0] U<|A3<|A0<|y_M U<|y_M U<|y_M U<|B8 U U ?_
 obtain⟨_,_,⟨k,rfl,rfl,b,f⟩,e⟩:=a2n (oG:=oG) a p c g h xs.length (by omega);have b:=b (by omega);apply xC U
 ·apply A8
  ·exact M7 U (by decide) U
  apply A8
  ·exact B1 U
  exact C2
 ·exact e
 refine⟨⟨U,U,U,dT U,U⟩,.inl U,G9 U U U B2,C8 U,fun _=>U,fun g9=> ?_⟩;refine H9 U U U (fun _=>U) (by omega)<|y_I U<|y_S U<|xN [4] [0] U<|A9 ?_
 refine⟨_,_,?_,J1 U U (I0 U U)⟩;refine⟨_,U,U,N3 (by omega)⟩
theorem b3p:D9 Tryz.f16=[0,2,5]:=by kernel_rfl
theorem d2x(a:List Int)(c:a.length<=1048576):∃res outs,(fun res outs=>res= .ownp [rdr (a.take 2000) 0] 0 0/\outs=[]) res outs/\CW (cxT oG) 16 [.list (a.map uV)]=some (res,outs):=by
 refine M3 U Tryz.func16 U ⟨by kernel_rfl,U,dT U,dT U,by decide⟩ b3p<|A3<|A0<|y_S U<|xN [0] [] U<|A3<|A3<|A0<|y_M U<|B8 U U<|M0 U U<|xN [0,5] [] U ?_
 refine A4 U ?_ ?_<;>intro b<;>try simp only[SL]at b
 ·refine A0<|y_M U<|N7 U U U (Mv.sized_map fun _=>U) (G1 U) I2 (by(simp;omega))<|y_S U<|xN [0] [] U<|A3<|A0<|y_M U<|I3 (fs:=[_,_]) U U U U U<|P3 U U U (fun _=>H7 U) (fun _=>U) ?_
  intro g10
  (refine a6f U U U U (fun _=>H7 U) (fun _=>U) ?_;intro g2)
  refine xN [2] [2] U<|A9 ?_
  refine⟨_,_,?_,e2s U U U B5⟩;have e:rdr (a.take 2000) 0= .agg [.list ((a.map uV).take 2000),iV 0]:=by unfold rdr;rw[List.map_take]
  rw[e];exact⟨U,U⟩
 refine A7<|A3<|A0<|y_M U<|I3 (fs:=[_,_]) U U U U U<|P3 U U U (fun _=>H7 U) (fun _=>U) ?_
 intro g10
 (refine a6f U U U U (fun _=>H7 U) (fun _=>U) ?_;intro g2)
 refine xN [2] [2] U<|A9 ?_
 refine⟨_,_,?_,e2s U U U B5⟩;have e:a.take 2000=a:=ZB (by omega);rw[e];exact⟨U,U⟩
theorem d9z:D9 Tryz.f18=[0,1,4]:=by kernel_rfl
theorem b0f(a:List Int)(p:Int)(c:a8b a)(g:a.length<=1048576)(h:0<=p/\p<=1000000000)(b:List W8)(i:1<=b.length/\b.length<=1000):∃res outs,(fun res outs=>∃k,res=tV k/\outs=[[rdr a (p+1)]]/\k∈b) res outs/\CW (cxT oG) 18 [.ownp [rdr a p] 0 0,.list (b.map tV)]=some (res,outs):=by
 refine M3 U Tryz.func18 U ⟨by kernel_rfl,U,dT U,dT U,by decide⟩ d9z<|A3<|A0<|y_S U<|xN [0,1] [0] U<|A3<|A0<|y_M U<|y_M U<|y_M U<|B8 U U ?_
 obtain⟨_,_,⟨k,rfl,rfl,e,-⟩,f⟩:=a2n (oG:=oG) a (p) c g (by omega) (b.length) (by omega);have e:=e (by omega);apply xC U
 ·apply A8
  ·exact M7 U (by decide) U
  apply A8
  ·exact B1 U
  exact C2
 ·exact f
 refine⟨⟨U,U,U,dT U,U⟩,.inl U,G9 U U U B2,C8 U,fun _=>U,fun g9=> ?_⟩;refine H9 U U U (fun _=>U) (by omega)<|y_I U<|y_S U<|xN [4] [0] U<|A9 ?_
 refine⟨_,_,?_,J1 U U (I0 U U)⟩;refine⟨_,U,U,N2 (by omega)⟩
theorem b6p:D9 Tryz.f19=[0,1,4,15,18,6,5,29,42,7,50,8]:=by kernel_rfl
theorem d7z(c:List Int)(p:Int)(d:Nat)(a:a8b c)(e:c.length<=1048576)(hp:0<=p/\p+gN d<=50000000)(hd:d<=5):∃res outs,(fun res outs=>∃(x:W8) (q:Int),res=tV x/\outs=[[rdr c q]]/\p<=q/\q<=p+gN d/\x.length<=lN d) res outs/\CW (cxT oG) 19 [.ownp [rdr c p] 0 0,iV d]=some (res,outs):=by
 obtain⟨P,w⟩:∃P:Nat,d<P:=⟨_,ZJ _⟩;revert c p d
 induction P with
 |zero=>intro c p d a e hp hd w;exact absurd w (Yz _)
 |succ P ih=>
  intro c p d a e hp hd w;have ar:=d1g d;have aw:=d6s d;refine M3 U Tryz.func19 U ⟨by kernel_rfl,U,dT U,dT U,by decide⟩ b6p<|A3<|A0<|y_S U<|xN [0,1] [0] U<|A3<|A3<|A0<|y_M U<|K6 U U<|y_M U ?_
  refine D5 U U ?_ ?_<;>intro a4<;>have hg:=a4<;>try simp only[SG]at hg
  ·refine y_M U<|gT U U ?_
   obtain⟨_,_,⟨k0,rfl,rfl,I,-⟩,Z⟩:=a2n (oG:=oG) c (p) a e (by omega) (5) (by omega);have I:=I (by omega);apply xC U
   ·apply A8
    ·exact M7 U (by decide) U
    apply A8
    ·exact B1 U
    exact C2
   ·exact Z
   refine⟨⟨U,U,U,dT U,U⟩,.inl U,G9 U U U B2,C8 U,fun _=>U,fun g13=> ?_⟩;refine gT U U<|K6 U U<|E8 U (by assumption) U U<|xN [0,1,15] [0] U ?_
   refine A4 U ?_ ?_<;>intro f<;>try simp only[SL]at f
   ·refine A3<|A3<|A0<|y_M U ?_
    obtain⟨_,_,⟨k1,rfl,rfl,j,-⟩,m⟩:=a2n (oG:=oG) c (p+1) a e (by omega) (2) (by omega);have j:=j (by omega);apply xC U
    ·apply A8
     ·exact M7 U (by decide) U
     apply A8
     ·exact B1 U
     exact C2
    ·exact m
    refine⟨⟨U,U,U,dT U,U⟩,.inl U,G9 U U U B2,C8 U,fun _=>U,fun g17=> ?_⟩;refine K6 U U<|xN [0,18] [0] U ?_
    refine A4 U ?_ ?_<;>intro f<;>try simp only[SL]at f
    ·refine A3<|A0<|y_M U<|B6 (es:=Zw tV [[97],[98],[97],[99],[100]]) U U (dT U) U U (fun _=>B3 (A6 fun _=>U)) (fun _=>U) ?_
     intro g20;obtain⟨_,_,⟨w1,rfl,rfl,C⟩,o⟩:=b0f (oG:=oG) c (p+1+1) a e (by omega) [[97],[98],[97],[99],[100]] (by decide);have M:w1.length<=1:=by have b:∀x∈([[97],[98],[97],[99],[100]]:List W8),x.length<=1:=(by decide);exact b _ C
     apply xC U
     ·apply A8
      ·exact M7 U (by decide) U
      apply A8
      ·exact K2 U U (by(simp;done)) (fun _=>U)
      exact C2
     ·exact o
     refine⟨⟨U,U,U,dT U,U⟩,.inl U,G9 U U U B2,C8 U,fun _=>U,fun g21=> ?_⟩;refine y_S U<|xN [4] [0] U<|A9 ?_
     refine⟨_,_,?_,J1 U U (I0 U U)⟩;exact⟨_,_,U,U,by omega,by omega,by omega⟩
    refine A7<|A3<|A0<|B6 (es:=Zw iV []) U U (dT U) U U (fun _=>B3 (A6 fun _=>U)) (fun _=>U) ?_
    intro g22
    (refine xO U U (by simp) U (fun _=>U) (fun _=>U) ?_;intro g5)
    refine xN [0,5] [0,5] U<|A3<|A3<|A0<|y_M U<|B6 (es:=Zw iV [2,3,1,0,4]) U U (dT U) U U (fun _=>B3 (A6 fun _=>U)) (fun _=>U) ?_
    intro g24;obtain⟨_,_,⟨E,rfl,rfl,B⟩,s⟩:=e2t (oG:=oG) c (p+1+1) a e (by omega) [2,3,1,0,4] (by decide);have L:0<=E/\E<=4:=by simp at B;omega
    apply xC U
    ·apply A8
     ·exact M7 U (by decide) U
     apply A8
     ·exact K2 U U (by(simp;done)) (fun _=>U)
     exact C2
    ·exact s
    refine⟨⟨U,U,U,dT U,U⟩,.inl U,G9 U U U B2,C8 U,fun _=>U,fun R=> ?_⟩;refine y_S U<|xN [0,5,6] [0,5] U<|B0<|D8 (β:=List Int×Nat×Int) [(.t 0,_),(.t 6,_)] (fun(z:List Int×Nat×Int)=>match z with|(xs,g,q)=>[(.h 0,.obj 1 4 0 [rdr c q]),(.t 5,.sl 5 g none 0 xs.length),(.h 5,.obj g 0 1 (xs.map iV))]) (fun(z:List Int×Nat×Int)=>match z with|(xs,g,q)=>(xs.length:Int)<=E/\p<=q/\q<=p+4+xs.length/\∀x∈xs,-20<=x/\x<=20) (fun(z:List Int×Nat×Int)=>match z with|(xs,g,q)=>5-xs.length) ([],_,_) ⟨U,U,U,U,U,trivial⟩ ⟨by simp;omega,by omega,by omega,by simp⟩ ?_
    intro z H;obtain⟨xs,g,q⟩:=z
    try dsimp only at H
    obtain⟨a9,a6,a7,i⟩:=H;refine A3<|A3<|A0<|y_M U<|G8 U U<|y_M U<|F4 U U<|xN [0,5,6,29] [0,5] U ?_
    refine A4 U ?_ ?_<;>intro f<;>try simp only[SL]at f
    ·refine A7<|B0<|A0<|y_M U<|y_M U ?_
     obtain⟨_,_,⟨O,rfl,rfl,k,-⟩,u⟩:=a2n (oG:=oG) c (q) a e (by omega) (41) (by omega);have k:=k (by omega);apply xC U
     ·apply A8
      ·exact M7 U (by decide) U
      apply A8
      ·exact B1 U
      exact C2
     ·exact u
     refine⟨⟨U,U,U,dT U,U⟩,.inl U,G9 U U U B2,C8 U,fun _=>U,fun S=> ?_⟩;refine J7 U U (B9 (by omega))<|B6 (es:=Zw iV [O-20]) U U (dT U) U U (fun _=>B3 (A6 fun _=>U)) (fun _=>U) ?_
     intro T;refine xA U U U U (by simp) (by simp) U U U U U (fun _=>U) (by simp only[LN];omega) (fun _=>U) ?_;intro V
     (refine xO U U (by simp) U (fun _=>U) (fun _=>U) ?_;intro g5)
     refine xN [0,5,6] [0,5] U ?_;refine⟨(xs++[O-20],_,q+1),?_,(by simp only[Zf,Ym];omega),⟨U,U,U,U,U,trivial⟩⟩;refine⟨?_,?_,?_,fun x l=> ?_⟩
     ·simp only[Zf,Ym];omega
     ·omega
     ·simp only[Zf,Ym];omega
     rcases ZF.1 l with l|l
     ·exact i x l
     rw[Ye.1 l];omega
    refine D6<|A3<|A0<|y_M U ?_
    have a5:=U5 (ns:=xs) (fun n y=>by have:=i n y;omega);apply xC U
    ·apply A8
     ·exact E7 U U U (by(simp;done)) (fun _=>U)
     exact C2
    ·exact a3v xs (by omega) (fun n y=>by have:=i n y;omega)
    refine⟨⟨U,U,U,dT U,U⟩,.inr ⟨U,U⟩,B2,C8 U,fun _=>U,fun W=> ?_⟩
    iterate 2 refine J9 U U (by simp only[H0,Zf,Ze,Zo];omega) ?_
    refine y_S U<|xN [4] [0] U<|A9 ?_
    refine⟨_,_,?_,J1 U U (I0 U U)⟩;exact⟨_,_,U,U,by omega,by omega,by(simp only[Zf,Ze,Zo];omega)⟩
   obtain⟨d1,rfl⟩:∃d1,d=d1+1:=⟨d-1,by omega⟩;have au:gN (d1+1)=2*gN d1+20:=rfl;have hle:lN (d1+1)=2*lN d1+60:=rfl;have av:=d1g d1;have ay:=d6s d1;have ax:=e1g (d:=d1+1) hd;refine A7<|A3<|A3<|A0<|y_M U ?_
   obtain⟨_,_,⟨k3,rfl,rfl,J,-⟩,a0⟩:=a2n (oG:=oG) c (p+1) a e (by omega) (4) (by omega);have J:=J (by omega);apply xC U
   ·apply A8
    ·exact M7 U (by decide) U
    apply A8
    ·exact B1 U
    exact C2
   ·exact a0
   refine⟨⟨U,U,U,dT U,U⟩,.inl U,G9 U U U B2,C8 U,fun _=>U,fun ak=> ?_⟩;refine K6 U U<|xN [0,1,42] [0] U ?_
   refine A4 U ?_ ?_<;>intro f<;>try simp only[SL]at f
   ·refine A3<|A0<|y_M U<|y_M U<|J7 U U (B9 (by omega)) ?_
    obtain⟨_,_,⟨x1,q1,rfl,rfl,ab,ac,ad⟩,a1⟩:=ih c (p+1+1) d1 a e (by omega) (by omega) (by omega);rw[show((d1+1:Nat):Int)-1=(d1:Int) by omega];apply xC U
    ·apply A8
     ·exact M7 U (by decide) U
     apply A8
     ·exact B1 U
     exact C2
    ·exact a1
    refine⟨⟨U,U,U,dT U,U⟩,.inl U,G9 U U U B2,C8 U,fun _=>U,fun al=> ?_⟩;refine y_S U<|xN [0,1,7] [0] U<|A3<|A0<|y_M U<|y_S U<|xN [0,1,7,8] [0] U<|A3<|A3<|A0<|y_M U ?_
    obtain⟨_,_,⟨k4,rfl,rfl,K,-⟩,a2⟩:=a2n (oG:=oG) c (q1) a e (by omega) (2) (by omega);have K:=K (by omega);apply xC U
    ·apply A8
     ·exact M7 U (by decide) U
     apply A8
     ·exact B1 U
     exact C2
    ·exact a2
    refine⟨⟨U,U,U,dT U,U⟩,.inl U,G9 U U U B2,C8 U,fun _=>U,fun am=> ?_⟩;refine K6 U U<|xN [0,1,7,8,50] [0] U ?_
    refine A4 U ?_ ?_<;>intro f<;>try simp only[SL]at f
    ·refine A0<|y_M U<|y_M U<|J7 U U (B9 (by omega)) ?_
     obtain⟨_,_,⟨x2,q2,rfl,rfl,ae,af,ag⟩,a3⟩:=ih c (q1+1) d1 a e (by omega) (by omega) (by omega);rw[show((d1+1:Nat):Int)-1=(d1:Int) by omega];apply xC U
     ·apply A8
      ·exact M7 U (by decide) U
      apply A8
      ·exact B1 U
      exact C2
     ·exact a3
     refine⟨⟨U,U,U,dT U,U⟩,.inl U,G9 U U U B2,C8 U,fun _=>U,fun an=> ?_⟩;refine y_S U<|xN [0,7,8] [0] U<|A3<|A0<|y_M U<|B6 (es:=Zw tV [[97,100,100],[106,111,105,110],[106,111,105,110]]) U U (dT U) U U (fun _=>B3 (A6 fun _=>U)) (fun _=>U) ?_
     intro X;obtain⟨_,_,⟨w2,rfl,rfl,D⟩,v⟩:=b0f (oG:=oG) c (q2) a e (by omega) [[97,100,100],[106,111,105,110],[106,111,105,110]] (by decide);have N:w2.length<=4:=by have b:∀x∈([[97,100,100],[106,111,105,110],[106,111,105,110]]:List W8),x.length<=4:=(by decide);exact b _ D
     apply xC U
     ·apply A8
      ·exact M7 U (by decide) U
      apply A8
      ·exact K2 U U (by(simp;done)) (fun _=>U)
      exact C2
     ·exact v
     refine⟨⟨U,U,U,dT U,U⟩,.inl U,G9 U U U B2,C8 U,fun _=>U,fun Y=> ?_⟩;refine J9 U U (by simp only[H0,Zf,Ze,Zo];omega)<|y_M U ?_
     iterate 2 refine J9 U U (by simp only[H0,Zf,Ze,Zo];omega) ?_
     refine y_M U<|J9 U U (by simp only[H0,Zf,Ze,Zo];omega)<|y_S U<|xN [4] [0] U<|A9 ?_
     refine⟨_,_,?_,J1 U U (I0 U U)⟩;exact⟨_,_,U,U,by omega,by omega,by(simp only[Zf,Ze,Zo];omega)⟩
    refine A7<|A3<|A0<|y_M U<|B6 (es:=Zw tV [[97,100,100],[106,111,105,110],[106,111,105,110]]) U U (dT U) U U (fun _=>B3 (A6 fun _=>U)) (fun _=>U) ?_
    intro X;obtain⟨_,_,⟨w2,rfl,rfl,D⟩,v⟩:=b0f (oG:=oG) c (q1+1) a e (by omega) [[97,100,100],[106,111,105,110],[106,111,105,110]] (by decide);have N:w2.length<=4:=by have b:∀x∈([[97,100,100],[106,111,105,110],[106,111,105,110]]:List W8),x.length<=4:=(by decide);exact b _ D
    apply xC U
    ·apply A8
     ·exact M7 U (by decide) U
     apply A8
     ·exact K2 U U (by(simp;done)) (fun _=>U)
     exact C2
    ·exact v
    refine⟨⟨U,U,U,dT U,U⟩,.inl U,G9 U U U B2,C8 U,fun _=>U,fun Y=> ?_⟩;refine J9 U U (by simp only[H0,Zf,Ze,Zo];omega)<|y_M U ?_
    iterate 2 refine J9 U U (by simp only[H0,Zf,Ze,Zo];omega) ?_
    refine y_M U<|J9 U U (by simp only[H0,Zf,Ze,Zo];omega)<|y_S U<|xN [4] [0] U<|A9 ?_
    refine⟨_,_,?_,J1 U U (I0 U U)⟩;exact⟨_,_,U,U,by omega,by omega,by(simp only[Zf,Ze,Zo];omega)⟩
   refine A7<|A3<|A0<|y_M U<|B6 (es:=Zw tV [[115,111,114,116],[114,101,118],[110,101,103],[97,98,115],[100,105,102,102],[115,117,109,115],[114,97,110,107,115],[116,111,116,97,108],[115,111,114,116],[114,101,118],[110,101,103],[97,98,115]]) U U (dT U) U U (fun _=>B3 (A6 fun _=>U)) (fun _=>U) ?_
   intro ao;obtain⟨_,_,⟨w3,rfl,rfl,a8⟩,F⟩:=b0f (oG:=oG) c (p+1+1) a e (by omega) [[115,111,114,116],[114,101,118],[110,101,103],[97,98,115],[100,105,102,102],[115,117,109,115],[114,97,110,107,115],[116,111,116,97,108],[115,111,114,116],[114,101,118],[110,101,103],[97,98,115]] (by decide);have aa:w3.length<=5:=by have b:∀x∈([[115,111,114,116],[114,101,118],[110,101,103],[97,98,115],[100,105,102,102],[115,117,109,115],[114,97,110,107,115],[116,111,116,97,108],[115,111,114,116],[114,101,118],[110,101,103],[97,98,115]]:List W8),x.length<=5:=(by decide);exact b _ a8
   apply xC U
   ·apply A8
    ·exact M7 U (by decide) U
    apply A8
    ·exact K2 U U (by(simp;done)) (fun _=>U)
    exact C2
   ·exact F
   refine⟨⟨U,U,U,dT U,U⟩,.inl U,G9 U U U B2,C8 U,fun _=>U,fun ap=> ?_⟩;refine J9 U U (by simp only[H0,Zf,Ze,Zo];omega)<|y_M U<|y_M U<|J7 U U (B9 (by omega)) ?_
   obtain⟨_,_,⟨x3,q3,rfl,rfl,ah,ai,aj⟩,G⟩:=ih c (p+1+1+1) d1 a e (by omega) (by omega) (by omega);rw[show((d1+1:Nat):Int)-1=(d1:Int) by omega];apply xC U
   ·apply A8
    ·exact M7 U (by decide) U
    apply A8
    ·exact B1 U
    exact C2
   ·exact G
   refine⟨⟨U,U,U,dT U,U⟩,.inl U,G9 U U U B2,C8 U,fun _=>U,fun aq=> ?_⟩;refine J9 U U (by simp only[H0,Zf,Ze,Zo];omega)<|y_S U<|xN [4] [0] U<|A9 ?_
   refine⟨_,_,?_,J1 U U (I0 U U)⟩;exact⟨_,_,U,U,by omega,by omega,by(simp only[Zf,Ze,Zo];omega)⟩
  refine gF U U<|gF U U<|F0 U (by assumption) U U<|xN [0,1,15] [0] U ?_
  refine A4 U (fun f=> ?_) (fun f=>absurd f (by decide));refine A3<|A3<|A0<|y_M U ?_
  obtain⟨_,_,⟨k1,rfl,rfl,j,-⟩,m⟩:=a2n (oG:=oG) c (p) a e (by omega) (2) (by omega);have j:=j (by omega);apply xC U
  ·apply A8
   ·exact M7 U (by decide) U
   apply A8
   ·exact B1 U
   exact C2
  ·exact m
  refine⟨⟨U,U,U,dT U,U⟩,.inl U,G9 U U U B2,C8 U,fun _=>U,fun g17=> ?_⟩;refine K6 U U<|xN [0,18] [0] U ?_
  refine A4 U ?_ ?_<;>intro f<;>try simp only[SL]at f
  ·refine A3<|A0<|y_M U<|B6 (es:=Zw tV [[97],[98],[97],[99],[100]]) U U (dT U) U U (fun _=>B3 (A6 fun _=>U)) (fun _=>U) ?_
   intro g20;obtain⟨_,_,⟨w1,rfl,rfl,C⟩,o⟩:=b0f (oG:=oG) c (p+1) a e (by omega) [[97],[98],[97],[99],[100]] (by decide);have M:w1.length<=1:=by have b:∀x∈([[97],[98],[97],[99],[100]]:List W8),x.length<=1:=(by decide);exact b _ C
   apply xC U
   ·apply A8
    ·exact M7 U (by decide) U
    apply A8
    ·exact K2 U U (by(simp;done)) (fun _=>U)
    exact C2
   ·exact o
   refine⟨⟨U,U,U,dT U,U⟩,.inl U,G9 U U U B2,C8 U,fun _=>U,fun g21=> ?_⟩;refine y_S U<|xN [4] [0] U<|A9 ?_
   refine⟨_,_,?_,J1 U U (I0 U U)⟩;exact⟨_,_,U,U,by omega,by omega,by omega⟩
  refine A7<|A3<|A0<|B6 (es:=Zw iV []) U U (dT U) U U (fun _=>B3 (A6 fun _=>U)) (fun _=>U) ?_
  intro g22
  (refine xO U U (by simp) U (fun _=>U) (fun _=>U) ?_;intro g5)
  refine xN [0,5] [0,5] U<|A3<|A3<|A0<|y_M U<|B6 (es:=Zw iV [2,3,1,0,4]) U U (dT U) U U (fun _=>B3 (A6 fun _=>U)) (fun _=>U) ?_
  intro g24;obtain⟨_,_,⟨E,rfl,rfl,B⟩,s⟩:=e2t (oG:=oG) c (p+1) a e (by omega) [2,3,1,0,4] (by decide);have L:0<=E/\E<=4:=by simp at B;omega
  apply xC U
  ·apply A8
   ·exact M7 U (by decide) U
   apply A8
   ·exact K2 U U (by(simp;done)) (fun _=>U)
   exact C2
  ·exact s
  refine⟨⟨U,U,U,dT U,U⟩,.inl U,G9 U U U B2,C8 U,fun _=>U,fun R=> ?_⟩;refine y_S U<|xN [0,5,6] [0,5] U<|B0<|D8 (β:=List Int×Nat×Int) [(.t 0,_),(.t 6,_)] (fun(z:List Int×Nat×Int)=>match z with|(xs,g,q)=>[(.h 0,.obj 1 4 0 [rdr c q]),(.t 5,.sl 5 g none 0 xs.length),(.h 5,.obj g 0 1 (xs.map iV))]) (fun(z:List Int×Nat×Int)=>match z with|(xs,g,q)=>(xs.length:Int)<=E/\p<=q/\q<=p+4+xs.length/\∀x∈xs,-20<=x/\x<=20) (fun(z:List Int×Nat×Int)=>match z with|(xs,g,q)=>5-xs.length) ([],_,_) ⟨U,U,U,U,U,trivial⟩ ⟨by simp;omega,by omega,by omega,by simp⟩ ?_
  intro z H;obtain⟨xs,g,q⟩:=z
  try dsimp only at H
  obtain⟨a9,a6,a7,i⟩:=H;refine A3<|A3<|A0<|y_M U<|G8 U U<|y_M U<|F4 U U<|xN [0,5,6,29] [0,5] U ?_
  refine A4 U ?_ ?_<;>intro f<;>try simp only[SL]at f
  ·refine A7<|B0<|A0<|y_M U<|y_M U ?_
   obtain⟨_,_,⟨O,rfl,rfl,k,-⟩,u⟩:=a2n (oG:=oG) c (q) a e (by omega) (41) (by omega);have k:=k (by omega);apply xC U
   ·apply A8
    ·exact M7 U (by decide) U
    apply A8
    ·exact B1 U
    exact C2
   ·exact u
   refine⟨⟨U,U,U,dT U,U⟩,.inl U,G9 U U U B2,C8 U,fun _=>U,fun S=> ?_⟩;refine J7 U U (B9 (by omega))<|B6 (es:=Zw iV [O-20]) U U (dT U) U U (fun _=>B3 (A6 fun _=>U)) (fun _=>U) ?_
   intro T;refine xA U U U U (by simp) (by simp) U U U U U (fun _=>U) (by simp only[LN];omega) (fun _=>U) ?_;intro V
   (refine xO U U (by simp) U (fun _=>U) (fun _=>U) ?_;intro g5)
   refine xN [0,5,6] [0,5] U ?_;refine⟨(xs++[O-20],_,q+1),?_,(by simp only[Zf,Ym];omega),⟨U,U,U,U,U,trivial⟩⟩;refine⟨?_,?_,?_,fun x l=> ?_⟩
   ·simp only[Zf,Ym];omega
   ·omega
   ·simp only[Zf,Ym];omega
   rcases ZF.1 l with l|l
   ·exact i x l
   rw[Ye.1 l];omega
  refine D6<|A3<|A0<|y_M U ?_
  have a5:=U5 (ns:=xs) (fun n y=>by have:=i n y;omega);apply xC U
  ·apply A8
   ·exact E7 U U U (by(simp;done)) (fun _=>U)
   exact C2
  ·exact a3v xs (by omega) (fun n y=>by have:=i n y;omega)
  refine⟨⟨U,U,U,dT U,U⟩,.inr ⟨U,U⟩,B2,C8 U,fun _=>U,fun W=> ?_⟩
  iterate 2 refine J9 U U (by simp only[H0,Zf,Ze,Zo];omega) ?_
  refine y_S U<|xN [4] [0] U<|A9 ?_
  refine⟨_,_,?_,J1 U U (I0 U U)⟩;exact⟨_,_,U,U,by omega,by omega,by(simp only[Zf,Ze,Zo];omega)⟩
theorem c3p:D9 Tryz.f21=[0,1,4,12,13,5,19,32,37]:=by kernel_rfl
theorem f0n(e:List Int)(p:Int)(c:a8b e)(k:e.length<=1048576)(D:0<=p/\p<=100000000)(s:W8)(E:s.length<=100000):∃res outs,(fun res outs=>∃(x:W8) (q:Int),res=tV x/\outs=[[rdr e q]]/\p<=q/\q<=p+10/\x.length<=s.length+10) res outs/\CW (cxT oG) 21 [.ownp [rdr e p] 0 0,tV s]=some (res,outs):=by
 refine M3 U Tryz.func21 U ⟨by kernel_rfl,U,dT U,dT U,by decide⟩ c3p<|A3<|A0<|y_S U<|xN [0,1] [0] U<|A3<|A0<|y_M U<|y_M U<|W5 U U<|D7 U U (B9 (by omega)) ?_
 obtain⟨_,_,⟨k0,rfl,rfl,i,-⟩,n⟩:=a2n (oG:=oG) e (p) c k (by omega) (s.length+1) (by omega);have i:=i (by omega);apply xC U
 ·apply A8
  ·exact M7 U (by decide) U
  apply A8
  ·exact B1 U
  exact C2
 ·exact n
 refine⟨⟨U,U,U,dT U,U⟩,.inl U,G9 U U U B2,C8 U,fun _=>U,fun g10=> ?_⟩;refine y_S U<|xN [0,1,5] [0] U<|A3<|A3<|A0<|y_M U ?_
 obtain⟨_,_,⟨F,rfl,rfl,j,-⟩,o⟩:=a2n (oG:=oG) e (p+1) c k (by omega) (5) (by omega);have j:=j (by omega);apply xC U
 ·apply A8
  ·exact M7 U (by decide) U
  apply A8
  ·exact B1 U
  exact C2
 ·exact o
 refine⟨⟨U,U,U,dT U,U⟩,.inl U,G9 U U U B2,C8 U,fun _=>U,fun g12=> ?_⟩;refine xN [0,1,5,12] [0] U<|B0<|A3<|A3<|A0<|K6 U U<|y_S U<|xN [0,1,5,12,13] [0] U ?_
 refine A4 U ?_ ?_<;>intro b<;>try simp only[SL]at b
 ·refine A7 ?_
  refine A4 U (fun b=> ?_) (fun b=>absurd b (by simp_all));refine A3<|A0<|y_M U<|y_M U<|W5 U U<|F4 U U<|xN [0,1,5,19] [0] U ?_
  refine A4 U ?_ ?_<;>intro b<;>try simp only[SL]at b
  ·refine A3<|A0<|y_M U<|y_M U<|Q7 U U (T2 U (by omega)) I2 (by omega)<|y_M U<|B6 (es:=Zw tV [[48],[49],[97],[44],[45],[93],[32]]) U U (dT U) U U (fun _=>B3 (A6 fun _=>U)) (fun _=>U) ?_
   intro g24;obtain⟨_,_,⟨w,rfl,rfl,g⟩,f⟩:=b0f (oG:=oG) e (p+1+1) c k (by omega) [[48],[49],[97],[44],[45],[93],[32]] (by decide);have l:w.length<=1:=by have a:∀x∈([[48],[49],[97],[44],[45],[93],[32]]:List W8),x.length<=1:=(by decide);exact a _ g
   apply xC U
   ·apply A8
    ·exact M7 U (by decide) U
    apply A8
    ·exact K2 U U (by(simp;done)) (fun _=>U)
    exact C2
   ·exact f
   refine⟨⟨U,U,U,dT U,U⟩,.inl U,G9 U U U B2,C8 U,fun _=>U,fun m=> ?_⟩;refine J9 U U (by simp only[H0,Zf,ZH,Yp];omega)<|y_M U<|y_M U<|D7 U U (B9 (by omega))<|Q7 U U I2 (T2 U (by omega)) (by omega)<|J9 U U (by simp only[H0,Zf,ZH,Yp];omega)<|y_S U ?_
   refine G7 ⟨fun _=>⟨by(simp only[V5,Zj,Zm,Zz,Ya,Zp];decide+kernel),by decide+kernel⟩,[(.t 4,_),(.h 0,_)],⟨U,U,U,U,trivial⟩,?_⟩;refine A9 ?_;refine⟨_,_,?_,J1 U U (I0 U U)⟩;exact⟨_,_,U,U,by omega,by omega,by(simp only[Zf,Ze,Zo,ZH,Yp];omega)⟩
  refine A7<|A3<|A0<|y_M U<|y_S U<|xN [4] [0] U<|A9 ?_
  refine⟨_,_,?_,J1 U U (I0 U U)⟩;exact⟨_,_,U,U,by omega,by omega,by omega⟩
 refine A0<|K6 U U<|y_S U<|xN [0,1,5,12,13] [0] U ?_
 refine A4 U ?_ ?_<;>intro b<;>try simp only[SL]at b
 ·refine A3<|A0<|y_M U<|y_M U<|W5 U U<|F4 U U<|xN [0,1,5,19] [0] U ?_
  refine A4 U ?_ ?_<;>intro b<;>try simp only[SL]at b
  ·refine A3<|A0<|y_M U<|y_M U<|Q7 U U (T2 U (by omega)) I2 (by omega)<|y_M U<|B6 (es:=Zw tV [[48],[49],[97],[44],[45],[93],[32]]) U U (dT U) U U (fun _=>B3 (A6 fun _=>U)) (fun _=>U) ?_
   intro g24;obtain⟨_,_,⟨w,rfl,rfl,g⟩,f⟩:=b0f (oG:=oG) e (p+1+1) c k (by omega) [[48],[49],[97],[44],[45],[93],[32]] (by decide);have l:w.length<=1:=by have a:∀x∈([[48],[49],[97],[44],[45],[93],[32]]:List W8),x.length<=1:=(by decide);exact a _ g
   apply xC U
   ·apply A8
    ·exact M7 U (by decide) U
    apply A8
    ·exact K2 U U (by(simp;done)) (fun _=>U)
    exact C2
   ·exact f
   refine⟨⟨U,U,U,dT U,U⟩,.inl U,G9 U U U B2,C8 U,fun _=>U,fun m=> ?_⟩;refine J9 U U (by simp only[H0,Zf,ZH,Yp];omega)<|y_M U<|y_M U<|D7 U U (B9 (by omega))<|Q7 U U I2 (T2 U (by omega)) (by omega)<|J9 U U (by simp only[H0,Zf,ZH,Yp];omega)<|y_S U ?_
   refine G7 ⟨fun _=>⟨by(simp only[V5,Zj,Zm,Zz,Ya,Zp];decide+kernel),by decide+kernel⟩,[(.t 4,_),(.h 0,_)],⟨U,U,U,U,trivial⟩,?_⟩;refine A9 ?_;refine⟨_,_,?_,J1 U U (I0 U U)⟩;exact⟨_,_,U,U,by omega,by omega,by(simp only[Zf,Ze,Zo,ZH,Yp];omega)⟩
  refine A7<|A3<|A0<|y_M U<|y_S U<|xN [4] [0] U<|A9 ?_
  refine⟨_,_,?_,J1 U U (I0 U U)⟩;exact⟨_,_,U,U,by omega,by omega,by omega⟩
 refine A3<|A0<|K6 U U<|y_S U<|xN [0,1,5,12,32] [0] U ?_
 refine A4 U ?_ ?_<;>intro b<;>try simp only[SL]at b
 ·refine A3<|A0<|y_M U<|y_M U<|Q7 U U (T2 U (by omega)) I2 (by omega)<|y_S U<|xN [4] [0] U<|A9 ?_
  refine⟨_,_,?_,J1 U U (I0 U U)⟩;exact⟨_,_,U,U,by omega,by omega,by(simp only[Zf,Ze,Zo,ZH,Yp];omega)⟩
 refine A3<|A0<|K6 U U<|y_S U<|xN [0,1,37] [0] U ?_
 refine A4 U ?_ ?_<;>intro b<;>try simp only[SL]at b
 ·refine A3<|A0<|y_M U<|y_M U<|B6 (es:=Zw tV [[48],[44],[32],[32,97]]) U U (dT U) U U (fun _=>B3 (A6 fun _=>U)) (fun _=>U) ?_
  intro z;obtain⟨_,_,⟨C,rfl,rfl,v⟩,u⟩:=b0f (oG:=oG) e (p+1+1) c k (by omega) [[48],[44],[32],[32,97]] (by decide);have y:C.length<=2:=by have a:∀x∈([[48],[44],[32],[32,97]]:List W8),x.length<=2:=(by decide);exact a _ v
  apply xC U
  ·apply A8
   ·exact M7 U (by decide) U
   apply A8
   ·exact K2 U U (by(simp;done)) (fun _=>U)
   exact C2
  ·exact u
  refine⟨⟨U,U,U,dT U,U⟩,.inl U,G9 U U U B2,C8 U,fun _=>U,fun B=> ?_⟩;refine J9 U U (by simp only[H0,Zf,Ze,Zo];omega)<|y_S U<|xN [4] [0] U<|A9 ?_
  refine⟨_,_,?_,J1 U U (I0 U U)⟩;exact⟨_,_,U,U,by omega,by omega,by(simp only[Zf,Ze,Zo,ZH,Yp];omega)⟩
 refine A7<|A3<|A0<|y_M U<|y_S U<|xN [4] [0] U<|A9 ?_
 refine⟨_,_,?_,J1 U U (I0 U U)⟩;exact⟨_,_,U,U,by omega,by omega,by omega⟩
theorem c8b:D9 Tryz.f136=[0,2]:=by kernel_rfl
theorem c7p(xs:List Int)(c:xs.length<=H0):CW (cxT oG) 136 [.own 1 (xs.map iV)]=some (.own 1 (xs.map iV),[]):=by
 refine C7 U Tryz.func136 U ⟨by kernel_rfl,U,dT U,dT U,by decide⟩ c8b<|A3<|A0 ?_
 (refine B4 U U (fun _=>U) ?_;intro g2)
 refine xN [0] [0] U<|A3<|A0<|y_M U<|y_M U<|G8 U U<|y_M U<|G8 U U ?_
 refine e7u U U U U U U (fun a=> ?_) (fun a=> ?_)
 ·skip
  (refine B4 U U (fun _=>U) ?_;intro g2)
  refine xN [2] [0,2] U<|A9<|J3 U U (by(simp;done)) (by rfl) trivial ?_
  (have b:xs=[]:=(by simpa using a);subst b;rfl)
 skip
 (refine xO U U (by simp) U (fun _=>U) (fun _=>U) ?_;intro g2)
 refine xN [2] [0,2] U<|A9<|J3 U U (by(simp;done)) (by exact A6 fun _=>U) trivial ?_
 rfl
theorem d0a:D9 Tryz.f131=[0,2]:=by kernel_rfl
theorem e1a(x:List Int)(a:x.length<=1048576):CW (cxT oG) 131 [L x]=some (.own 1 (x.map iV),[]):=by
 refine C7 U Tryz.func131 U ⟨by kernel_rfl,U,dT U,dT U,by decide⟩ d0a<|A3<|A0 ?_
 (refine B4 U U (fun _=>U) ?_;intro g2)
 refine xN [0] [] U<|A3<|A0<|y_M U ?_
 apply xC U
 ·apply A8
  ·exact B1 U
  exact C2
 ·exact d1f x (by simp only[H0];omega)
 refine⟨⟨U,U,U,dT U,U⟩,.inl U,B2,H4,fun _=>U,fun g4=> ?_⟩;simp only[Zi];apply xC U
 ·apply A8
  ·exact b2c U U (by(simp;done)) (A6 fun _=>U)
  exact C2
 ·exact c7p x (by simp only[H0];omega)
 refine⟨⟨U,U,U,dT U,U⟩,.inl U,B2,H4,fun _=>U,fun g5=> ?_⟩;simp only[Zi]
 (refine xO U U (by simp) U (fun _=>U) (fun _=>U) ?_;intro g2)
 refine xN [2] [2] U<|A9<|J3 U U (by simp) (by exact A6 fun _=>U) trivial ?_
 rfl
end Go.Proofs.YtjmoceabjajefaaGreatDoor
