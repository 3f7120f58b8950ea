/- What each function of the program gives on the abstract machine, part 1 of 3. Conditions: those in front of each theorem. -/
import Derived.Test.YtjmoceabjajefaaGreatDoorMe
import Derived.Test.YtjmoceabjajefaaGreatDoorChecked
import Derived.KernelRfl
set_option linter.unusedVariables false
set_option linter.unusedSimpArgs false
open Bool renaming and_eq_true→Zx, noConfusion→ZH
open List renaming length_map→Zh, length_append→Zl, length_cons→Zg, length_nil→Zs, length_take→ZU, take_of_length_le→ZC, map→ZA, append_nil→Zm, nil_append→Zi, map_cons→Zy, map_nil→Yf, cons_append→Zp, length_eq_zero_iff→ZT, drop_succ_cons→Yg, drop_zero→ZX, mem_cons_of_mem→Zn, map_append→ZZ, getD_eq_getElem?_getD→Zc
open Nat renaming zero_add→ZI, zero_le→Zt, lt_succ_iff_lt_or_eq→Ys, lt_succ_self→ZK, not_lt_zero→Yy, le_refl→Zd
open Option renaming bind_some→Zk, isSome_iff_exists→ZS
open Option.some renaming injEq→Zb
open Prod.mk renaming injEq→Zj
namespace Go.Proofs.YtjmoceabjajefaaGreatDoor
open Go Go.Mv Go.Proofs
set_option maxRecDepth 100000
set_option maxHeartbeats 20000000
theorem SD:(∀{p:Prop} [Decidable p],(decide p=true)=p)/\(∀{p:Prop} {_:Decidable p},decide p=false↔¬p)/\(∀(b:Bool),((!b)=true)=(b=false))/\(∀(b:Bool),((!b)=false)=(b=true))/\(∀{α:Type} [BEq α] [LawfulBEq α] {a b:α},(a !=b)=true↔a≠b)/\
 (∀{α:Type} [BEq α] [LawfulBEq α] {a b:α},(a==b)=true↔a=b)/\(∀{α:Type} (a b:α),(a≠b)=¬a=b)/\(!true)=false/\(!false)=true/\(∀{α:Type} [BEq α] [LawfulBEq α] {a b:α},(a==b)=false↔a≠b)/\(∀{α:Type} [BEq α] [LawfulBEq α] {a b:α},(a !=b)=false↔a=b)/\
 (∀{p:Prop} [Decidable p],¬¬p↔p)/\(∀{a b:Int},¬a<b↔b<=a)/\(∀{a b:Int},¬a<=b↔b<a):=
 ⟨@decide_eq_true_eq,@decide_eq_false_iff_not,@Bool.not_eq_true',@Bool.not_eq_false',@bne_iff_ne,@beq_iff_eq,@ne_eq,@Bool.not_true,@Bool.not_false,@beq_eq_false_iff_ne,@bne_eq_false_iff_eq,@Decidable.not_not,@Int.not_lt,@Int.not_le⟩
theorem SG:((∀{p:Prop} [Decidable p],(decide p=true)=p)/\(∀{p:Prop} {_:Decidable p},decide p=false↔¬p)/\(∀(b:Bool),((!b)=true)=(b=false))/\(∀(b:Bool),((!b)=false)=(b=true))/\(∀{α:Type} [BEq α] [LawfulBEq α] {a b:α},(a !=b)=true↔a≠b)/\
 (∀{α:Type} [BEq α] [LawfulBEq α] {a b:α},(a==b)=true↔a=b)/\(∀{α:Type} (a b:α),(a≠b)=¬a=b)/\(!true)=false/\(!false)=true/\(∀{α:Type} [BEq α] [LawfulBEq α] {a b:α},(a==b)=false↔a≠b)/\(∀{α:Type} [BEq α] [LawfulBEq α] {a b:α},(a !=b)=false↔a=b)/\
 (∀{p:Prop} [Decidable p],¬¬p↔p)/\(∀{a b:Int},¬a<b↔b<=a)/\(∀{a b:Int},¬a<=b↔b<a))/\
 (∀(a b:Bool),((a&&b)=true)=(a=true/\b=true))/\(∀{x y:Bool},(x&&y)=false↔x=false\/y=false)/\(∀(a b:Bool),((a||b)=true)=(a=true\/b=true))/\(∀{x y:Bool},(x||y)=false↔x=false/\y=false):=
 ⟨SD,@Zx,@Bool.and_eq_false_iff,@Bool.or_eq_true,@Bool.or_eq_false_iff⟩
def e4b(keep:List Nat)(A:Asr):List Mv.Loc->Asr->Option Asr
 |l::ls,B=>match keepLoc keep l,Mv.look A l with
  |true,some a=>e4b keep A ls ((l,a)::B)
  |_,_=>none
 |[],B=>some B
theorem e1g{keep:List Nat}{A:Asr}:∀(ls:List Mv.Loc) {B C:Asr},KeepL keep A B->e4b keep A ls B=some C->KeepL keep A C
 |[],B,C,h,e=>by simp only[e4b,Zb]at e;rw[<-e];exact h
 |l::ls,B,C,h,e=>by
  simp only[e4b]at e;split at e
  ·exact e1g ls (show KeepL keep A ((l,_)::B)from⟨by assumption,by assumption,h⟩) e
  ·cases e
theorem kS(b a:List Nat){keep:List Nat}{A B:Asr}(h:e4b keep A (b.map .t++a.map .h) []=some B):KeepL keep A B:=e1g _ (show KeepL keep A []from trivial) h
section
variable{cx:Cx}{keep:List Nat}{ops0:Array Oper}{r:List Oper}{A:Asr}{Q:Asr->List Log->Prop}
variable{d ty:Nat}{pos:String}{aft:Array Edge}
theorem gT{op:Op}{dst:Option Nat}{g dg:Nat}{want b:Bool}(e:(ops0[g]?).bind (·.dst)=some dg)(c:Mv.look A (.t dg)=some (.val (.bool b)))
 (h:XR cx keep ops0 (⟨dst,op,ty,pos,aft,none⟩::r) A fun a f=>Q a (e1q (.t dg) f)) (hw:b=want:=by assumption):XR cx keep ops0 (⟨dst,op,ty,pos,aft,some (g,want)⟩::r) A Q:=H1 e c hw h
theorem gF{op:Op}{g dg:Nat}{want b:Bool}(e:(ops0[g]?).bind (·.dst)=some dg)(c:Mv.look A (.t dg)=some (.val (.bool b)))
 (h:XR cx keep ops0 r ((.t d,.val (.tuple #[]))::A) fun a f=>Q a (([.t dg],[.t d])::f)) (hw:b= !want:=by assumption):XR cx keep ops0 (⟨some d,op,ty,pos,aft,some (g,want)⟩::r) A Q:=H4 e c hw h
theorem xN{B:Asr}{p:Asr->List Log->Prop}{R:Asr->Prop}(c b:List Nat)(h:e4b keep A (c.map .t++b.map .h) []=some B)(q:R B):
 XR cx keep ops0 [] A (fun a e=>(false=true->p a e)/\∃B,KeepL keep a B/\R B):=G7 ⟨nofun,B,kS c b h,q⟩
theorem xC{G:Type}{k:Nat}{args:Array Operand}{h:Array Nat}{vs av:List AV}{ids:List (Nat×Bool)}{wp b:Ws}{e lb li:List Mv.Loc}{res:AV}{outs:List (List AV)}{v:G->AV}{c:G->Ws}
 (l:opds A args.toList=some vs) (j:a9j (CW cx) A (cx.md k) 0 vs av ids wp e) (i:CW cx k av=some (res,outs))
 (a:(apartIds ids=true/\nodupB ((a1w (cx.md k) 0 vs).map (·.1))=true/\nodupB ((cidAll (cx.md k) 0 av).map (·.1))=true/\av.length<=1000/\a2x av=true)/\
   (ids.all (fun x=>x.2)=true\/(hasList res=false/\outs.any G1=false))/\
   d9j (CW cx) (puts A wp) (a1w (cx.md k) 0 vs) outs b lb/\b1q (CW cx) (puts (puts A wp) b) d res v c li/\
   (∀g,tRefsOk keep (keptWs keep (wp++(b++(c g++[(.t d,v g)]))))=true)/\
   ∀g,XR cx keep ops0 r (J7 A (wp++(b++(c g++[(.t d,v g)])))) fun f m=>Q f ((a3d args.toList++(e++(lb++li)),V8 (wp++(b++(c g++[(.t d,v g)]))))::m)):
 XR cx keep ops0 (⟨some d,.call ⟨.value (.func k),args,h⟩,ty,pos,aft,none⟩::r) A Q:=
 a0z l j i a.1 a.2.1 a.2.2.1 a.2.2.2.1 a.2.2.2.2.1 a.2.2.2.2.2
theorem xC1{k:Nat}{e:Array Nat}{b:Operand}{v1 res:AV}(l:opds A [b]=some [v1])(n:X7 v1=true)(f:CW cx k [v1]=some (res,[]))
 (a:a1w (cx.md k) 0 [v1]=[]/\nodupB ((cidAll (cx.md k) 0 [v1]).map (·.1))=true/\a2x [v1]=true) (i:L0 res=true) (j:tRefsOk keep (keptWs keep [(.t d,res)])=true)
 (h:∀_:Unit,XR cx keep ops0 r (J7 A [(.t d,res)]) fun c m=>Q c ((a3d [b],[.t d])::m)):XR cx keep ops0 (⟨some d,.call ⟨.value (.func k),#[b],e⟩,ty,pos,aft,none⟩::r) A Q:=
 a0z l (B0 (B2 n) C8) f ⟨U,by rw[a.1];rfl,a.2.1,by simp,a.2.2⟩ (.inl U) (by rw[a.1];exact B6) (F7 i) (fun _=>j) (fun g=>by have:=h g;simpa[V8]using this)
theorem xC2{k:Nat}{f:Array Nat}{b c:Operand}{v1 v2 res:AV}(m:opds A [b,c]=some [v1,v2])(o:X7 v1=true)(p:X7 v2=true)(i:CW cx k [v1,v2]=some (res,[]))
 (a:a1w (cx.md k) 0 [v1,v2]=[]/\nodupB ((cidAll (cx.md k) 0 [v1,v2]).map (·.1))=true/\a2x [v1,v2]=true) (j:L0 res=true) (l:tRefsOk keep (keptWs keep [(.t d,res)])=true)
 (h:∀_:Unit,XR cx keep ops0 r (J7 A [(.t d,res)]) fun e n=>Q e ((a3d [b,c],[.t d])::n)):XR cx keep ops0 (⟨some d,.call ⟨.value (.func k),#[b,c],f⟩,ty,pos,aft,none⟩::r) A Q:=
 a0z m (B0 (B2 o) (B0 (B2 p) C8)) i ⟨U,by rw[a.1];rfl,a.2.1,by simp,a.2.2⟩ (.inl U) (by rw[a.1];exact B6) (F7 j) (fun _=>l) (fun g=>by have:=h g;simpa[V8]using this)
theorem xC3{k:Nat}{i:Array Nat}{b c e:Operand}{v1 v2 v3 res:AV}(n:opds A [b,c,e]=some [v1,v2,v3])(p:X7 v1=true)(q:X7 v2=true)(s:X7 v3=true)(j:CW cx k [v1,v2,v3]=some (res,[]))
 (a:a1w (cx.md k) 0 [v1,v2,v3]=[]/\nodupB ((cidAll (cx.md k) 0 [v1,v2,v3]).map (·.1))=true/\a2x [v1,v2,v3]=true) (l:L0 res=true) (m:tRefsOk keep (keptWs keep [(.t d,res)])=true)
 (h:∀_:Unit,XR cx keep ops0 r (J7 A [(.t d,res)]) fun f o=>Q f ((a3d [b,c,e],[.t d])::o)):XR cx keep ops0 (⟨some d,.call ⟨.value (.func k),#[b,c,e],i⟩,ty,pos,aft,none⟩::r) A Q:=
 a0z n (B0 (B2 p) (B0 (B2 q) (B0 (B2 s) C8))) j ⟨U,by rw[a.1];rfl,a.2.1,by simp,a.2.2⟩ (.inl U) (by rw[a.1];exact B6) (F7 l) (fun _=>m) (fun g=>by have:=h g;simpa[V8]using this)
theorem xO{α:Type}{f:α->AV}{xs:List α}{x:Operand}{id g s n:Nat}(l:opd A x=some (.sl id g none 0 n))(k:Mv.look A (.h id)=some (.obj g 0 s (xs.map f)))(j:n=(xs.map f).length)(b:Loc.beq (.h d) (.h id)=false)(e:∀a,L3 (f a)=true)
 (i:∀g,slotOk keep (.t d) (.sl d g none 0 n)=true) (h:∀g',XR cx keep ops0 r ((.t d,.sl d g' none 0 n)::(.h d,.obj g' 0 s (xs.map f))::(.h id,.dead g)::A) fun c m=>Q c ((rds x++[.h id,.h d],[.h id,.h d,.t d])::m)):
 XR cx keep ops0 (⟨some d,.assign x,ty,pos,aft,none⟩::r) A Q:=H8 l k j b (fun _=>B5 (A7 e)) i h
theorem xB{T id g m s:Nat}{a x:Operand}{e v:AV}(k:opd A a=some (.ptr id g none 0 0))(t:opd A x=some v)(p:Mv.look A (.h id)=some (.obj g m s [e]))(o:b6n (leaves e) v=true)
 (l:decide (m≠2/\(leaves v).length=(tyS cx.P T).size/\0<(leaves v).length/\(leaves v).length<=(leaves e).length)=true) (hw:W7 (leaves v) (leaves e)=true) (q:putAt e 0 v=v) (hm:decide (m=3)=true) (n:P5 [v]=true)
 (h:XR cx keep ops0 r ((.h id,.obj g m s [v])::A) fun b u=>Q b ((rds a++(rds x++[.h id,.h id,.h id]),[.h id])::u)):XR cx keep ops0 (⟨none,.store T a x,ty,pos,aft,none⟩::r) A Q:=by
 obtain⟨c,f,i,j⟩:=of_decide_eq_true l;exact c7a k t p o ⟨c,f,i,j,hw⟩ q (by rw[of_decide_eq_true hm];exact I8 n) h
theorem xA{α:Type}{f:α->AV}{xs ys:List α}{T T' E s id g n b g2 m:Nat}{x y:Operand}{z:AV}(B:opd A x=some (.sl id g none 0 n))(C:opd A y=some (.sl b g2 none 0 m))(w:Mv.look A (.h id)=some (.obj g 0 s (xs.map f)))(j:Mv.look A (.h b)=some (.obj g2 0 s (ys.map f)))
 (v:n=(xs.map f).length) (i:m=(ys.map f).length) (e:(decide (1000000<=b)&& !Loc.beq (.h id) (.h b))=true) (p:Q2 cx.P T=some (E,s)) (c:O5 (tyS cx.P T').k=true) (D:a0n cx.P E=some (z,s)) (q:decide ((tyS cx.P E).bytes<=4096)=true) (l:∀a,((leaves (f a)).all cellLeaf&&L3 (f a))=true)
 (hle:xs.length+ys.length<=4294967296) (u:∀g,slotOk keep (.t d) (.sl (tid d 0) g none 0 (xs++ys).length)=true)
 (h:∀g',XR cx keep ops0 r ((.t d,.sl (tid d 0) g' none 0 (xs++ys).length)::(.h (tid d 0),.obj g' 0 s ((xs++ys).map f))::(.h id,.dead g)::(.h b,.dead g2)::A) fun o F=>Q o ((rds x++(rds y++[.h b,.h id,.h (tid d 0)]),[.h b,.h id,.h (tid d 0),.t d])::F)):
 XR cx keep ops0 (⟨some d,.call ⟨.builtin .append,#[x,y],#[T,T']⟩,ty,pos,aft,none⟩::r) A Q:=by
 simp only[Zx,decide_eq_true_eq,Bool.not_eq_true']at e l;exact Q5 B C w j v i e.1 e.2 p c D (of_decide_eq_true q) l (Nat.le_trans hle (by decide)) u h
theorem y_M{x:Operand}{v:AV}(e:(opd A x,slotOk keep (.t d) v)=(some v,true))(h:XR cx keep ops0 r ((.t d,v)::A) fun a b=>Q a ((rds x,[.t d])::b)):XR cx keep ops0 (⟨some d,.move x,ty,pos,aft,none⟩::r) A Q:=by
 simp only[Zj]at e;exact f3o e.1 e.2 h
theorem y_S{x:Operand}{v:AV}(e:(opd A x,a4y v,slotOk keep (.t d) v)=(some v,true,true))(h:XR cx keep ops0 r ((.t d,v)::A) fun a b=>Q a ((rds x,[.t d])::b)):XR cx keep ops0 (⟨some d,.assign x,ty,pos,aft,none⟩::r) A Q:=by
 simp only[Zj]at e;exact e8b e.1 e.2.1 e.2.2 h
theorem y_F{x:Operand}{S f o b:Nat}{v a:AV}(e:(opd A x,(match(tyS cx.P S).k with| .struct fs=>fs[f]? |_=>none),decide ((tyS cx.P b).size≠0),(match v with| .ptr id g p i j=>some (AV.ptr id g p i (j+o))| .ipt e j=>some (.ipt e (j+o))|_=>none),slotOk keep (.t d) a)=(some v,some (o,b),true,some a,true))(h:XR cx keep ops0 r ((.t d,a)::A) fun c m=>Q c ((rds x,[.t d])::m)):XR cx keep ops0 (⟨some d,.fieldAddr S x f,ty,pos,aft,none⟩::r) A Q:=by
 simp only[Zj]at e;refine d1a e.1 e.2.1 (of_decide_eq_true e.2.2.1) ?_ e.2.2.2.2 h;have l:=e.2.2.2.1;cases v<;>exact l
theorem y_L{a:Operand}{T id g m s i j:Nat}{es:List AV}{b v:AV}(e:(opd A a,Mv.look A (.h id),es[i]?,((leaves b).all fun l=> !isOwn l),partF cx.P T ((leaves b).drop j),slotOk keep (.t d) v)=(some (.ptr id g none i j),some (.obj g m s es),some b,true,some v,true))(h:XR cx keep ops0 r ((.t d,v)::A) fun c f=>Q c ((rds a++[.h id],[.t d])::f)):XR cx keep ops0 (⟨some d,.load T a,ty,pos,aft,none⟩::r) A Q:=by
 simp only[Zj]at e;exact a7d e.1 e.2.1 e.2.2.1 e.2.2.2.1 e.2.2.2.2.1 e.2.2.2.2.2 h
theorem y_E{x:Operand}{i:Nat}{vs:List AV}{v:AV}(e:(opd A x,vs[i]?,slotOk keep (.t d) v)=(some (.tup vs),some v,true))(h:XR cx keep ops0 r ((.t d,v)::A) fun a b=>Q a ((rds x,[.t d])::b)):XR cx keep ops0 (⟨some d,.extract x i,ty,pos,aft,none⟩::r) A Q:=by
 simp only[Zj]at e;exact e3u e.1 e.2.1 e.2.2 h
theorem y_B{a:Operand}{T id g m s:Nat}{v:AV}(e:(opd A a,Mv.look A (.h id),((leaves v).all fun l=> !isOwn l),partF cx.P T (leaves v),slotOk keep (.t d) v)=(some (.ptr id g none 0 0),some (.obj g m s [v]),true,some v,true))(h:XR cx keep ops0 r ((.t d,v)::A) fun b c=>Q b ((rds a++[.h id],[.t d])::c)):XR cx keep ops0 (⟨some d,.load T a,ty,pos,aft,none⟩::r) A Q:=by
 simp only[Zj]at e;exact d2m e.1 e.2.1 e.2.2.1 e.2.2.2.1 e.2.2.2.2 h
theorem y_I{a:Operand}{T:Nat}{v:AV}(e:(opd A a,partF cx.P T (leaves v),slotOk keep (.t d) v)=(some (.ipt v 0),some v,true))(h:XR cx keep ops0 r ((.t d,v)::A) fun b c=>Q b ((rds a,[.t d])::c)):XR cx keep ops0 (⟨some d,.load T a,ty,pos,aft,none⟩::r) A Q:=by
 simp only[Zj]at e;exact d3r e.1 e.2.1 e.2.2 h
theorem y_A{T s:Nat}{z:AV}(e:(a0n cx.P T,P5 [z],slotOk keep (.t d) (.ptr d 0 none 0 0))=(some (z,s),true,true))(b:∀g,slotOk keep (.t d) (.ptr d g none 0 0)=true)
 (h:∀g,XR cx keep ops0 r ((.t d,.ptr d g none 0 0)::(.h d,.obj g 3 s [z])::A) fun a c=>Q a (([.h d],[.h d,.t d])::c)):XR cx keep ops0 (⟨some d,.alloc T,ty,pos,aft,none⟩::r) A Q:=by
 simp only[Zj]at e;exact f0i e.1 (fun _=>I8 e.2.1) b h
end
theorem SL:(∀{α β:Type} {av:List α} (f:α->β),(av.map f).length=av.length)/\(((∀{p:Prop} [Decidable p],(decide p=true)=p)/\(∀{p:Prop} {_:Decidable p},decide p=false↔¬p)/\(∀(b:Bool),((!b)=true)=(b=false))/\(∀(b:Bool),((!b)=false)=(b=true))/\(∀{α:Type} [BEq α] [LawfulBEq α] {a b:α},(a !=b)=true↔a≠b)/\
 (∀{α:Type} [BEq α] [LawfulBEq α] {a b:α},(a==b)=true↔a=b)/\(∀{α:Type} (a b:α),(a≠b)=¬a=b)/\(!true)=false/\(!false)=true/\(∀{α:Type} [BEq α] [LawfulBEq α] {a b:α},(a==b)=false↔a≠b)/\(∀{α:Type} [BEq α] [LawfulBEq α] {a b:α},(a !=b)=false↔a=b)/\
 (∀{p:Prop} [Decidable p],¬¬p↔p)/\(∀{a b:Int},¬a<b↔b<=a)/\(∀{a b:Int},¬a<=b↔b<a))/\
 (∀(a b:Bool),((a&&b)=true)=(a=true/\b=true))/\(∀{x y:Bool},(x&&y)=false↔x=false\/y=false)/\(∀(a b:Bool),((a||b)=true)=(a=true\/b=true))/\(∀{x y:Bool},(x||y)=false↔x=false/\y=false)):=⟨@Zh.{0,0},SG⟩
theorem LN:(∀{α:Type},([]:List α).length=0)/\(∀{α:Type} {a:α} {l:List α},(a::l).length=l.length+1)/\(∀{α:Type} {a b:List α},(a++b).length=a.length+b.length)/\(∀n:Nat,0+n=n)/\(∀{α β:Type} {l:List α} (f:α->β),(l.map f).length=l.length):=⟨rfl,rfl,Zl,ZI,Zh.{0,0}⟩
theorem dT{p:Prop}[Decidable p](h:decide p=true):p:=of_decide_eq_true h
def mdT:List (Nat×List Nat):=[(12,[0,2]),(14,[3,3,3,3]),(16,[3,3,3,3]),(17,[3,3,3,3]),(18,[3,3,3,3]),(19,[3,3,3,3]),(20,[3,3,3,3]),(21,[3,3,3,3]),(22,[3,3,3,3]),(27,[3,3,3,3]),(52,[3,3,3,3]),(55,[3,3,3,3]),(56,[3,3,3,3]),(69,[3,3,3,3]),(91,[3,3,3,3]),(95,[3,3,3,3]),(96,[3,3,3,3]),(117,[3,3,3,3]),(123,[3,3,3,3]),(125,[2]),(133,[1]),(134,[1]),(136,[2]),(143,[1]),(160,[1]),(179,[1])]
noncomputable def f4c:List (Nat×(List AV->Option (AV×List (List AV)))):=[(42,d6e),(46,b7f),(83,c6g),(122,b8r),(132,b2n),(133,b7k),(184,c8q),(185,c6k),(186,c7q)]
variable{oG:Option Nat}{rG:Nat}
noncomputable def cxT(oG:Option Nat):Cx:={P:=Tryz.prog,md:=f4y mdT,ext:=e1y f4c,it:=fun _=>none,fz:=fun k=>[22,27,52,55,56,69,95,96,117,123].contains k,fzB:=fun T d=>[(53,58),(32,57),(32,26),(32,80)].contains (T,d),gl:=fun g=>match oG with|some r=>if g=1 then some (.val (.map (some r)))else none|none=>none,mp:=fun k=>match oG with|some r=>if k=r then some goneTb else none|none=>none}
noncomputable def cxE:Cx:={P:=Tryz.prog,md:=f4y mdT,ext:=fun _=>none,fz:=fun k=>[22,27,52,55,56,69,95,96,117,123].contains k}
theorem f5p(l:List UInt8)(b:UInt8)(a:l.length<4294967281):CW (cxT oG) 42 [tV l,tV [b]]=some (.tup [tV (kdC b l),tV (rsC b l),bV (decide ((kdC b l).length<l.length))],[]):=a3g (cxT oG) rfl (by show(if l.length<4294967281 then some ((AV.tup [tV (kdC b l),tV (rsC b l),bV (decide ((kdC b l).length<l.length))],[]):AV×List (List AV))else none)=_;rw[if_pos a])
theorem b0q(n:Int)(h: -9223372036854775808<=n/\n<=9223372036854775807):CW (cxT oG) 46 [iV n]=some (tV (dec n),[]):=a3g (cxT oG) rfl (by simp[b7f,h])
theorem d9g(ps:List (List UInt8))(b:UInt8)(a:ps.length<=H6)(c:(joinB b ps).length<=H6):CW (cxT oG) 83 [.list (ps.map tV),tV [b]]=some (tV (joinB b ps),[]):=a3g (cxT oG) rfl (by show((unT (ps.map tV)).bind fun ps=>if ps.length<=H6/\(joinB b ps).length<=H6 then some ((tV (joinB b ps),[]):AV×List (List AV))else none)=_;rw[e1k,Zk,if_pos ⟨a,c⟩])
theorem d0i(l:List UInt8)(b:UInt8)(a:l.length<4294967281):CW (cxT oG) 122 [tV l,tV [b]]=some (.own 1 ((splitB b l).map tV),[]):=a3g (cxT oG) rfl (by show(if l.length<4294967281 then some ((AV.own 1 ((splitB b l).map tV),[]):AV×List (List AV))else none)=_;rw[if_pos a])
theorem d0l(xs:List Int)(a:xs.length<=H6):CW (cxT oG) 132 [.list (xs.map iV)]=some (.own 1 (xs.map iV),[]):=a3g (cxT oG) rfl (by simp[b2n,e1p,a])
theorem e6c(xs:List Int)(a:xs.length<=H6):CW (cxT oG) 133 [.own 1 (xs.map iV)]=some (.tup [],[(S6 xs).map iV]):=a3g (cxT oG) rfl (by simp[b7k,e1p,a])
theorem f3l(l:List UInt8)(b:UInt8):CW (cxT oG) 184 [tV l,tV [b]]=some (.tup [tV (a6m b l),bV (decide (l.head? =some b))],[]):=a3g (cxT oG) rfl rfl
theorem f3m(l:List UInt8)(b:UInt8)(a:l.length<4294967281):CW (cxT oG) 185 [tV l,tV [b]]=some (.tup [tV (c2x b l),bV (decide (l.getLast? =some b))],[]):=a3g (cxT oG) rfl (by show(if l.length<4294967281 then some ((AV.tup [tV (c2x b l),bV (decide (l.getLast? =some b))],[]):AV×List (List AV))else none)=_;rw[if_pos a])
theorem d7d(l:List UInt8)(a:l.length<4294967281):CW (cxT oG) 186 [tV l]=some (atR l,[]):=a3g (cxT oG) rfl (by show(if l.length<4294967281 then some ((atR l,[]):AV×List (List AV))else none)=_;rw[if_pos a])
theorem b9z:D8 Tryz.f54=[0,1,2,6]:=by kernel_rfl
theorem a0x(n c b:Int):CW (cxT oG) 54 [iV n,iV c,iV b]=some (bV (decide (c<=n)&&decide (n<=b)),[]):=by
 refine C5 U Tryz.func54 U ⟨by kernel_rfl,U,dT U,dT U,by decide⟩ b9z<|A3<|A0<|y_S U<|xN [0,1,2] [] U<|A3<|A0<|y_M U<|y_M U<|a3j U U<|y_M U ?_
 refine D3 U U ?_ ?_<;>intro a<;>have e:=a<;>try simp only[SG]at e
 ·refine y_M U<|gT U U<|y_M U<|gT U U<|a3j U U<|E9 U (by assumption) U U<|y_S U<|xN [6] [] U<|A9<|C2 U U trivial ?_
  simp_all[ofConst];try omega
 refine gF U U<|gF U U<|E8 U (by assumption) U U<|y_S U<|xN [6] [] U<|A9<|C2 U U trivial ?_
 simp_all[ofConst];try omega
theorem e3q:D8 Tryz.f106=[0,1,2,6]:=by kernel_rfl
theorem f3n(n c b:Int):CW (cxT oG) 106 [iV n,iV c,iV b]=some (bV (decide (c<=n)&&decide (n<=b)),[]):=by
 refine C5 U Tryz.func106 U ⟨by kernel_rfl,U,dT U,dT U,by decide⟩ e3q<|A3<|A0<|y_S U<|xN [0,1,2] [] U<|A3<|A0<|y_M U<|y_M U<|c0e U U<|y_M U ?_
 refine D3 U U ?_ ?_<;>intro a<;>have e:=a<;>try simp only[SG]at e
 ·refine y_M U<|gT U U<|y_M U<|gT U U<|a3j U U<|E9 U (by assumption) U U<|y_S U<|xN [6] [] U<|A9<|C2 U U trivial ?_
  simp_all[ofConst];try omega
 refine gF U U<|gF U U<|E8 U (by assumption) U U<|y_S U<|xN [6] [] U<|A9<|C2 U U trivial ?_
 simp_all[ofConst];try omega
theorem b2a:D8 Tryz.f137=[0,1,4,8,7,9,5,16]:=by kernel_rfl
theorem c7p(xs:List Int)(n:xs.length<=1000)(k:Nat)(a b:AV)(q:Int->Bool)(hq:∀x,CW (cxT oG) k [iV x,.ipt a 0,.ipt b 0]=some (bV (q x),[])):∃res outs,(fun res outs=>∃r:Int,res=iV r/\outs=[]/\decide (0<=r)=xs.any q) res outs/\CW (cxT oG) 137 [L xs,.clo k [.ipt a 0,.ipt b 0]]=some (res,outs):=by
 refine P9 U Tryz.func137 U ⟨by kernel_rfl,U,dT U,dT U,by decide⟩ b2a<|A3<|A0<|y_S U<|xN [0,1] [] U<|A3<|A3<|A0<|y_M U<|B7 U U<|y_M U<|xN [0,1,7,8] [] U<|A8<|D7 (β:=Nat) [(.t 0,_),(.t 1,_),(.t 7,_)] (fun(i:Nat)=>[(.t 8,iV i)]) (fun(i:Nat)=>i<=xs.length/\∀j,j<i->q (xs.getD j default)=false) (fun(i:Nat)=>xs.length-i) 0 ⟨U,U,U,U,trivial⟩ ⟨Zt _,fun j h=>by omega⟩ ?_
 intro i g;obtain⟨l,e⟩:=g;refine A3<|A0<|F0 U U<|xN [0,1,7,8,9] [] U<|A3 ?_
 refine A4 U ?_ ?_<;>intro c<;>try simp only[SL]at c
 ·refine A6<|A3<|A8<|A3<|A0<|y_M U<|y_S U<|xN [0,1,5,7,8] [] U<|A3<|A0<|y_M U<|y_M U<|y_M U<|B4 U U U (fun _=>U) (by omega)<|y_I U ?_
  apply d0m U U
  ·apply B0
   ·exact B2 U
   apply B0
   ·exact B2 U
   apply B0
   ·exact B2 U
   exact C8
  ·exact hq (xs.getD i default)
  ·exact⟨U,U,U,dT U,U⟩
  ·exact .inl U
  ·exact B6
  ·exact F7 U
  ·exact fun _=>U
  intro g16;refine xN [0,1,5,7,8,16] [] U ?_;refine A4 U ?_ ?_<;>intro c<;>try simp only[SL]at c
  ·refine A3<|A0<|y_M U<|y_S U<|xN [4] [] U<|A9 ?_
   refine⟨_,_,?_,M1 U U B3⟩;exact⟨_,U,U,f0d (by omega) c⟩
  refine A6<|A0<|D6 U U (B9 (by omega))<|y_M U<|xN [0,1,7,8] [] U ?_
  refine⟨i+1,⟨by omega,fun a f=>by rcases Ys.1 f with h|h;exact e a h;subst h;exact c⟩,(by omega),⟨U,U,U,U,trivial⟩⟩
 refine D5<|A3<|A0<|y_S U<|xN [4] [] U<|A9 ?_
 refine⟨_,_,?_,M1 U U B3⟩;exact⟨-1,U,U,e5t fun j m=>e j (by omega)⟩
theorem a8g:D8 Tryz.f104=[0,1,4]:=by kernel_rfl
theorem b6g(xs:List Int)(e:xs.length<=1000)(k:Nat)(a b:AV)(q:Int->Bool)(hq:∀x,CW (cxT oG) k [iV x,.ipt a 0,.ipt b 0]=some (bV (q x),[])):CW (cxT oG) 104 [L xs,.clo k [.ipt a 0,.ipt b 0]]=some (bV (xs.any q),[]):=by
 obtain⟨_,_,⟨r,rfl,rfl,f⟩,c⟩:=c7p (oG:=oG) xs e k a b q hq;refine C5 U Tryz.func104 U ⟨by kernel_rfl,U,dT U,dT U,by decide⟩ a8g<|A3<|A0<|y_S U<|xN [0,1] [] U<|A3<|A0<|y_M U<|y_M U ?_
 apply xC U
 ·apply B0
  ·exact B2 U
  apply B0
  ·exact c2a U (c9f (c9f b9n))
  exact C8
 ·exact c
 refine⟨⟨U,U,U,dT U,U⟩,.inl U,B6,F7 U,fun _=>U,fun g7=> ?_⟩;refine c0e U U<|y_S U<|xN [4] [] U<|A9<|C2 U U trivial ?_
 rw[<-f]
theorem c3d:D8 Tryz.f105=[0,1,2,4]:=by kernel_rfl
theorem e7i(x b a:Int):CW (cxT oG) 105 [iV x,.ipt (iV b) 0,.ipt (iV a) 0]=some (bV (!(decide (b<=x)&&decide (x<=a))),[]):=by
 refine C5 U Tryz.func105 U ⟨by kernel_rfl,U,dT U,dT U,by decide⟩ c3d<|A3<|A0<|y_S U<|xN [0,1,2] [] U<|A3<|A0<|y_M U<|y_I U<|y_I U ?_
 refine xC3 U U U U (f3n _ _ _) ⟨U,U,U⟩ U U fun g8=> ?_
 refine H5 U<|y_S U<|xN [4] [] U<|A9<|C2 U U trivial ?_
 rfl
theorem c7b:D8 Tryz.f76=[0,1,2,6,4,5]:=by kernel_rfl
theorem b2q(xs:List Int)(c:xs.length<=1000)(b a:Int):CW (cxT oG) 76 [L xs,iV b,iV a]=some (bV (a0u b a xs),[]):=by
 refine C5 U Tryz.func76 U ⟨by kernel_rfl,U,dT U,dT U,by decide⟩ c7b<|A3<|A0<|P3 U U U (fun _=>I8 U) (fun _=>U) ?_
 intro g4;refine P3 U U U (fun _=>I8 U) (fun _=>U) ?_;intro g5;refine y_S U<|xN [0,4,5] [4,5] U<|A3<|A0<|y_M U<|b8i U U ?_
 apply xC U
 ·apply B0
  ·exact B2 U
  apply B0
  ·exact c2a U (d7v U U (d7v U U b9n))
  exact C8
 ·exact b6g xs c 105 (iV b) (iV a) _ (fun x=>e7i x b a)
 refine⟨⟨U,U,U,dT U,U⟩,.inr ⟨U,U⟩,B6,F7 U,fun _=>U,fun g9=> ?_⟩;refine H5 U<|y_S U<|xN [6] [] U<|A9<|C2 U U trivial ?_
 exact congrArg bV (e5x b a xs)
theorem b4j:D8 Tryz.f24=[0,2,3,7,15]:=by kernel_rfl
theorem Z2(xs:List Int)(g:xs.length<=1048576):CW (cxT oG) 24 [L xs]=some (bV (vd xs),[]):=by
 refine C5 U Tryz.func24 U ⟨by kernel_rfl,U,dT U,dT U,by decide⟩ b4j<|A3<|A0<|y_S U<|xN [0] [] U<|A3<|A3<|A0<|y_S U<|xN [0,3] [] U<|A8<|D7 (β:=Nat) [(.t 0,_)] (fun(i:Nat)=>[(.t 3,iV i)]) (fun(i:Nat)=>i<=xs.length/\∀j,j<i->-200<=xs.getD j default/\xs.getD j default<=200) (fun(i:Nat)=>xs.length-i) 0 ⟨U,U,trivial⟩ ⟨Zt _,fun j h=>by omega⟩ ?_
 intro i e;obtain⟨f,a⟩:=e;refine A3<|A3<|A0<|y_M U<|y_M U<|B7 U U<|F0 U U<|xN [0,3,7] [] U ?_
 refine A4 U ?_ ?_<;>intro b<;>try simp only[SL]at b
 ·refine A6<|A3<|A8<|A3<|A0<|y_M U<|y_M U<|B4 U U U (fun _=>U) (by omega)<|y_I U ?_
  refine xC3 U U U U (a0x _ _ _) ⟨U,U,U⟩ U U fun g14=> ?_
  refine H5 U<|xN [0,3,15] [] U ?_
  refine A4 U ?_ ?_<;>intro b<;>try simp only[SL]at b
  ·refine A3<|A0<|y_S U<|xN [2] [] U<|A9<|C2 U U trivial ?_
   rw[vd,d2w (show i<xs.length by omega) (by(simp_all;omega)),Bool.and_false]
   rfl
  refine A6<|A0<|y_M U<|D6 U U (B9 (by omega))<|y_S U<|xN [0,3] [] U ?_
  refine⟨i+1,⟨by omega,fun j c=>by rcases Ys.1 c with h|h;(·exact a j h);(·subst h;assumption)⟩,(by omega),⟨U,U,trivial⟩⟩
 refine D5<|A3<|A0<|y_M U<|B7 U U<|a3j U U<|y_S U<|xN [2] [] U<|A9<|C2 U U trivial ?_
 rw[vd,e1c fun j c=>a j (by omega),Bool.and_true];exact congrArg bV (decide_eq_decide.2 (by omega))
theorem b1d:D8 Tryz.f49=[0,2]:=by kernel_rfl
theorem S9(xs:List Int)(e:xs.length<=1048576):CW (cxT oG) 49 [L xs]=some (bV (vd xs),[]):=by
 refine C5 U Tryz.func49 U ⟨by kernel_rfl,U,dT U,dT U,by decide⟩ b1d<|A3<|A0<|y_S U<|xN [0] [] U<|A3<|A0<|y_M U<|B7 U U<|a3j U U<|y_M U ?_
 refine D3 U U ?_ ?_<;>intro a<;>have c:=a<;>try simp only[SG]at c
 ·refine y_M U<|gT U U ?_
  refine xC3 U U U U (b2q xs (by omega) (-200) 200) ⟨U,U,U⟩ U U fun g8=> ?_
  refine E9 U (by assumption) U U<|y_S U<|xN [2] [] U<|A9<|C2 U U trivial ?_
  cases b:a0u (-200) 200 xs<;>simp_all[vd,ofConst]<;>omega
 refine gF U U<|E8 U (by assumption) U U<|y_S U<|xN [2] [] U<|A9<|C2 U U trivial ?_
 cases b:a0u (-200) 200 xs<;>simp_all[vd,ofConst]<;>omega
theorem c9s:D8 Tryz.f150=[0,2,3,4,10,19]:=by kernel_rfl
theorem b2j(w:ByteArray):CW (cxT oG) 150 [sV w]=some (iV (nd w),[]):=by
 refine C5 U Tryz.func150 U ⟨by kernel_rfl,U,dT U,dT U,by decide⟩ c9s<|A3<|A0<|y_S U<|xN [0] [] U<|A3<|A3<|A0<|y_M U<|xN [3] [] U<|A8<|A3<|A3<|A0<|J3 U U<|y_S U<|xN [3,4] [] U ?_
 refine A4 U ?_ ?_<;>intro a<;>try simp only[SL]at a
 ·refine A6 ?_
  refine A4 U (fun a=> ?_) (fun a=>absurd a (by simp_all));refine A3<|A0<|y_S U<|xN [2] [] U<|A9<|C2 U U trivial<|congrArg iV ?_
  simp_all[nd]
 refine A3<|A0<|J3 U U<|y_S U<|xN [3,4] [] U ?_
 refine A4 U ?_ ?_<;>intro a<;>try simp only[SL]at a
 ·refine A6 ?_
  refine A4 U (fun a=> ?_) (fun a=>absurd a (by simp_all));refine A3<|A0<|y_S U<|xN [2] [] U<|A9<|C2 U U trivial<|congrArg iV ?_
  simp_all[nd]
 refine A3<|A0<|J3 U U<|y_S U<|xN [3,4] [] U ?_
 refine A4 U ?_ ?_<;>intro a<;>try simp only[SL]at a
 ·refine A6 ?_
  refine A4 U (fun a=> ?_) (fun a=>absurd a (by simp_all));refine A3<|A0<|y_S U<|xN [2] [] U<|A9<|C2 U U trivial<|congrArg iV ?_
  simp_all[nd]
 refine A3<|A0<|J3 U U<|y_S U<|xN [3,4] [] U ?_
 refine A4 U ?_ ?_<;>intro a<;>try simp only[SL]at a
 ·refine A6 ?_
  refine A4 U (fun a=> ?_) (fun a=>absurd a (by simp_all));refine A3<|A0<|y_S U<|xN [2] [] U<|A9<|C2 U U trivial<|congrArg iV ?_
  simp_all[nd]
 refine A0<|J3 U U<|y_S U<|xN [3,4] [] U ?_
 refine A4 U ?_ ?_<;>intro a<;>try simp only[SL]at a
 ·refine A3<|A0<|y_S U<|xN [2] [] U<|A9<|C2 U U trivial<|congrArg iV ?_
  simp_all[nd]
 refine A3<|A3<|A0<|J3 U U<|y_S U<|xN [3,10] [] U ?_
 refine A4 U ?_ ?_<;>intro a<;>try simp only[SL]at a
 ·refine A6 ?_
  refine A4 U (fun a=> ?_) (fun a=>absurd a (by simp_all));refine A3<|A0<|y_S U<|xN [2] [] U<|A9<|C2 U U trivial<|congrArg iV ?_
  simp_all[nd]
 refine A3<|A0<|J3 U U<|y_S U<|xN [3,10] [] U ?_
 refine A4 U ?_ ?_<;>intro a<;>try simp only[SL]at a
 ·refine A6 ?_
  refine A4 U (fun a=> ?_) (fun a=>absurd a (by simp_all));refine A3<|A0<|y_S U<|xN [2] [] U<|A9<|C2 U U trivial<|congrArg iV ?_
  simp_all[nd]
 refine A3<|A0<|J3 U U<|y_S U<|xN [3,10] [] U ?_
 refine A4 U ?_ ?_<;>intro a<;>try simp only[SL]at a
 ·refine A6 ?_
  refine A4 U (fun a=> ?_) (fun a=>absurd a (by simp_all));refine A3<|A0<|y_S U<|xN [2] [] U<|A9<|C2 U U trivial<|congrArg iV ?_
  simp_all[nd]
 refine A3<|A0<|J3 U U<|y_S U<|xN [3,10] [] U ?_
 refine A4 U ?_ ?_<;>intro a<;>try simp only[SL]at a
 ·refine A6 ?_
  refine A4 U (fun a=> ?_) (fun a=>absurd a (by simp_all));refine A3<|A0<|y_S U<|xN [2] [] U<|A9<|C2 U U trivial<|congrArg iV ?_
  simp_all[nd]
 refine A3<|A0<|J3 U U<|y_S U<|xN [3,10] [] U ?_
 refine A4 U ?_ ?_<;>intro a<;>try simp only[SL]at a
 ·refine A6 ?_
  refine A4 U (fun a=> ?_) (fun a=>absurd a (by simp_all));refine A3<|A0<|y_S U<|xN [2] [] U<|A9<|C2 U U trivial<|congrArg iV ?_
  simp_all[nd]
 refine A3<|A0<|J3 U U<|y_S U<|xN [3,10] [] U ?_
 refine A4 U ?_ ?_<;>intro a<;>try simp only[SL]at a
 ·refine A6 ?_
  refine A4 U (fun a=> ?_) (fun a=>absurd a (by simp_all));refine A3<|A0<|y_S U<|xN [2] [] U<|A9<|C2 U U trivial<|congrArg iV ?_
  simp_all[nd]
 refine A3<|A0<|J3 U U<|y_S U<|xN [3,10] [] U ?_
 refine A4 U ?_ ?_<;>intro a<;>try simp only[SL]at a
 ·refine A6 ?_
  refine A4 U (fun a=> ?_) (fun a=>absurd a (by simp_all));refine A3<|A0<|y_S U<|xN [2] [] U<|A9<|C2 U U trivial<|congrArg iV ?_
  simp_all[nd]
 refine A0<|J3 U U<|y_S U<|xN [3,10] [] U ?_
 refine A4 U ?_ ?_<;>intro a<;>try simp only[SL]at a
 ·refine A3<|A0<|y_S U<|xN [2] [] U<|A9<|C2 U U trivial<|congrArg iV ?_
  simp_all[nd]
 refine A3<|A3<|A0<|J3 U U<|y_S U<|xN [3,19] [] U ?_
 refine A4 U ?_ ?_<;>intro a<;>try simp only[SL]at a
 ·refine A6 ?_
  refine A4 U (fun a=> ?_) (fun a=>absurd a (by simp_all));refine A3<|A0<|y_S U<|xN [2] [] U<|A9<|C2 U U trivial<|congrArg iV ?_
  simp_all[nd]
 refine A0<|J3 U U<|y_S U<|xN [19] [] U ?_
 refine A4 U ?_ ?_<;>intro a<;>try simp only[SL]at a
 ·refine A3<|A0<|y_S U<|xN [2] [] U<|A9<|C2 U U trivial<|congrArg iV ?_
  simp_all[nd]
 refine A6<|A3<|A0<|y_S U<|xN [2] [] U<|A9<|C2 U U trivial<|congrArg iV ?_
 simp_all[nd]
theorem b8u:D8 Tryz.f87=[0,2,3,4,13,16]:=by kernel_rfl
theorem e4c(w:ByteArray):CW (cxT oG) 87 [sV w]=some (iV (rch w),[]):=by
 refine C5 U Tryz.func87 U ⟨by kernel_rfl,U,dT U,dT U,by decide⟩ b8u<|A3<|A0<|y_S U<|xN [0] [] U<|A3<|A3<|A0<|y_M U<|xN [3] [] U<|A8<|A3<|A3<|A0<|J3 U U<|y_S U<|xN [3,4] [] U ?_
 refine A4 U ?_ ?_<;>intro a<;>try simp only[SL]at a
 ·refine A6 ?_
  refine A4 U (fun a=> ?_) (fun a=>absurd a (by simp_all));refine A3<|A0<|y_S U<|xN [2] [] U<|A9<|C2 U U trivial<|congrArg iV ?_
  simp_all[rch]
 refine A3<|A0<|J3 U U<|y_S U<|xN [3,4] [] U ?_
 refine A4 U ?_ ?_<;>intro a<;>try simp only[SL]at a
 ·refine A6 ?_
  refine A4 U (fun a=> ?_) (fun a=>absurd a (by simp_all));refine A3<|A0<|y_S U<|xN [2] [] U<|A9<|C2 U U trivial<|congrArg iV ?_
  simp_all[rch]
 refine A3<|A0<|J3 U U<|y_S U<|xN [3,4] [] U ?_
 refine A4 U ?_ ?_<;>intro a<;>try simp only[SL]at a
 ·refine A6 ?_
  refine A4 U (fun a=> ?_) (fun a=>absurd a (by simp_all));refine A3<|A0<|y_S U<|xN [2] [] U<|A9<|C2 U U trivial<|congrArg iV ?_
  simp_all[rch]
 refine A3<|A0<|J3 U U<|y_S U<|xN [3,4] [] U ?_
 refine A4 U ?_ ?_<;>intro a<;>try simp only[SL]at a
 ·refine A6 ?_
  refine A4 U (fun a=> ?_) (fun a=>absurd a (by simp_all));refine A3<|A0<|y_S U<|xN [2] [] U<|A9<|C2 U U trivial<|congrArg iV ?_
  simp_all[rch]
 refine A3<|A0<|J3 U U<|y_S U<|xN [3,4] [] U ?_
 refine A4 U ?_ ?_<;>intro a<;>try simp only[SL]at a
 ·refine A6 ?_
  refine A4 U (fun a=> ?_) (fun a=>absurd a (by simp_all));refine A3<|A0<|y_S U<|xN [2] [] U<|A9<|C2 U U trivial<|congrArg iV ?_
  simp_all[rch]
 refine A3<|A0<|J3 U U<|y_S U<|xN [3,4] [] U ?_
 refine A4 U ?_ ?_<;>intro a<;>try simp only[SL]at a
 ·refine A6 ?_
  refine A4 U (fun a=> ?_) (fun a=>absurd a (by simp_all));refine A3<|A0<|y_S U<|xN [2] [] U<|A9<|C2 U U trivial<|congrArg iV ?_
  simp_all[rch]
 refine A3<|A0<|J3 U U<|y_S U<|xN [3,4] [] U ?_
 refine A4 U ?_ ?_<;>intro a<;>try simp only[SL]at a
 ·refine A6 ?_
  refine A4 U (fun a=> ?_) (fun a=>absurd a (by simp_all));refine A3<|A0<|y_S U<|xN [2] [] U<|A9<|C2 U U trivial<|congrArg iV ?_
  simp_all[rch]
 refine A0<|J3 U U<|y_S U<|xN [3,4] [] U ?_
 refine A4 U ?_ ?_<;>intro a<;>try simp only[SL]at a
 ·refine A3<|A0<|y_S U<|xN [2] [] U<|A9<|C2 U U trivial<|congrArg iV ?_
  simp_all[rch]
 refine A3<|A3<|A0<|J3 U U<|y_S U<|xN [3,13] [] U ?_
 refine A4 U ?_ ?_<;>intro a<;>try simp only[SL]at a
 ·refine A6 ?_
  refine A4 U (fun a=> ?_) (fun a=>absurd a (by simp_all));refine A3<|A0<|y_S U<|xN [2] [] U<|A9<|C2 U U trivial<|congrArg iV ?_
  simp_all[rch]
 refine A0<|J3 U U<|y_S U<|xN [3,13] [] U ?_
 refine A4 U ?_ ?_<;>intro a<;>try simp only[SL]at a
 ·refine A3<|A0<|y_S U<|xN [2] [] U<|A9<|C2 U U trivial<|congrArg iV ?_
  simp_all[rch]
 refine A3<|A3<|A0<|J3 U U<|y_S U<|xN [3,16] [] U ?_
 refine A4 U ?_ ?_<;>intro a<;>try simp only[SL]at a
 ·refine A6 ?_
  refine A4 U (fun a=> ?_) (fun a=>absurd a (by simp_all));refine A3<|A0<|y_S U<|xN [2] [] U<|A9<|C2 U U trivial<|congrArg iV ?_
  simp_all[rch]
 refine A3<|A0<|J3 U U<|y_S U<|xN [3,16] [] U ?_
 refine A4 U ?_ ?_<;>intro a<;>try simp only[SL]at a
 ·refine A6 ?_
  refine A4 U (fun a=> ?_) (fun a=>absurd a (by simp_all));refine A3<|A0<|y_S U<|xN [2] [] U<|A9<|C2 U U trivial<|congrArg iV ?_
  simp_all[rch]
 refine A3<|A0<|J3 U U<|y_S U<|xN [3,16] [] U ?_
 refine A4 U ?_ ?_<;>intro a<;>try simp only[SL]at a
 ·refine A6 ?_
  refine A4 U (fun a=> ?_) (fun a=>absurd a (by simp_all));refine A3<|A0<|y_S U<|xN [2] [] U<|A9<|C2 U U trivial<|congrArg iV ?_
  simp_all[rch]
 refine A0<|J3 U U<|y_S U<|xN [16] [] U ?_
 refine A4 U ?_ ?_<;>intro a<;>try simp only[SL]at a
 ·refine A3<|A0<|y_S U<|xN [2] [] U<|A9<|C2 U U trivial<|congrArg iV ?_
  simp_all[rch]
 refine A6<|A3<|A0<|y_S U<|xN [2] [] U<|A9<|C2 U U trivial<|congrArg iV ?_
 simp_all[rch]
theorem c2q:D8 Tryz.f28=[0,2,4,10]:=by kernel_rfl
theorem T5(n:Int)(j: -1000000<=n/\n<=1000000):CW (cxT oG) 28 [iV n]=some (tV (dec n),[]):=by
 obtain⟨c,a⟩:∃c:Nat,2*n.natAbs+(if n<0 then 1 else 0)<c:=⟨_,ZK _⟩;revert n
 induction c with
 |zero=>intro n j a;exact absurd a (Yy _)
 |succ c f=>
  intro n j a;refine C5 U Tryz.func28 U ⟨by kernel_rfl,U,dT U,dT U,by decide⟩ c2q<|A3<|A0<|y_S U<|xN [0] [] U<|A3<|A3<|A0<|y_M U<|F0 U U<|xN [0,4] [] U ?_
  refine A4 U ?_ ?_<;>intro e<;>try simp only[SL]at e
  ·refine A3<|A0<|y_M U<|a4s U (B9 (by omega)) ?_
   have k:=L4 (m:= -n) (by omega);refine xC1 U U (f (-n) (by omega) (by split at a<;>split<;>omega)) ⟨U,U,U⟩ U U fun g7=> ?_
   refine N6 U U (by simp only[H6,Zl,Zg,Zs];omega)<|y_S U<|xN [2] [] U<|A9<|C2 U U trivial ?_
   exact congrArg tV (f2c (by assumption)).symm
  refine A6<|A3<|A3<|A0<|y_M U<|F0 U U<|xN [0,10] [] U ?_
  refine A4 U ?_ ?_<;>intro e<;>try simp only[SL]at e
  ·refine A3<|A0<|y_M U<|y_M U<|D6 U U (B9 (by omega))<|a1n U U (a7m U (by omega)) (a7m U (by omega)) (by(simp;omega))<|y_S U<|xN [2] [] U<|A9<|C2 U U trivial ?_
   rw[f2r (by omega)]
  refine A6<|A3<|A0<|y_M U ?_
  have b:n.tdiv 10=n/10:=Int.tdiv_eq_ediv_of_nonneg (by omega);refine a2f U U ⟨by omega,B9 (by omega)⟩ ?_;have b:n.tdiv 10=n/10:=Int.tdiv_eq_ediv_of_nonneg (by omega);have g:=L4 (m:=n.tdiv 10) (by omega);refine xC1 U U (f (n.tdiv 10) (by omega) (by split at a<;>split<;>omega)) ⟨U,U,U⟩ U U fun g17=> ?_
  refine y_M U<|e5i U U (by omega) ?_
  have i:n.tmod 10=n%10:=Int.tmod_eq_emod_of_nonneg (by omega);have h:=L4 (m:=n.tmod 10) (by omega);refine xC1 U U (f (n.tmod 10) (by omega) (by split at a<;>split<;>omega)) ⟨U,U,U⟩ U U fun g20=> ?_
  refine N6 U U (by simp only[H6,Zl,Zg,Zs];omega)<|y_S U<|xN [2] [] U<|A9<|C2 U U trivial ?_
  rw[<-f4f (by omega)]
theorem b6l:D8 Tryz.f30=[0,2,4,8,12,3]:=by kernel_rfl
theorem b0j(ns:List Int)(o:ns.length<=1000000)(c:∀n∈ns,-1000000<=n/\n<=1000000):CW (cxT oG) 30 [L ns]=some (tV (O6 ns),[]):=by
 have j:=fun(i:Nat) (h:i<ns.length)=>c _ (M7 h)
 refine C5 U Tryz.func30 U ⟨by kernel_rfl,U,dT U,dT U,by decide⟩ b6l<|A3<|A0<|y_S U<|xN [0] [] U<|A3<|A0<|y_S U<|xN [0,3] [] U<|A3<|A3<|A0<|y_S U<|xN [0,3,4] [] U<|A8<|D7 (β:=Nat) [(.t 0,_)] (fun(i:Nat)=>[(.t 4,iV i),(.t 3,tV (O6 (ns.take i)))]) (fun(i:Nat)=>i<=ns.length) (fun(i:Nat)=>ns.length-i) 0 ⟨U,U,U,trivial⟩ (Zt _) ?_
 intro i k;have l:=k;have g:=Z6 (ns:=ns.take i) (fun n m=>c n (List.mem_of_mem_take m));rw[ZU]at g;refine A3<|A3<|A0<|y_M U<|y_M U<|B7 U U<|F0 U U<|xN [0,3,4,8] [] U ?_
 refine A4 U ?_ ?_<;>intro e<;>try simp only[SL]at e
 ·refine A6<|A3<|A8<|A3<|A3<|A0<|y_M U<|M0 U U<|xN [0,3,4,12] [] U ?_
  refine A4 U ?_ ?_<;>intro e<;>try simp only[SL]at e
  ·have b:0<i:=by omega
   refine A0<|y_M U<|N6 U U (by simp only[H6,Zl,Zg,Zs];omega)<|y_S U<|xN [0,3,4] [] U<|A0<|y_M U<|y_M U<|y_M U<|B4 U U U (fun _=>U) (by omega)<|y_I U ?_
   have a:=j i (by omega);have f:=L4 a;refine xC1 U U (T5 (ns.getD i default) a) ⟨U,U,U⟩ U U fun g20=> ?_
   refine N6 U U (by simp only[H6,Zl,Zg,Zs];omega)<|y_S U<|xN [0,3,4] [] U<|A0<|y_M U<|D6 U U (B9 (by omega))<|y_S U<|xN [0,3,4] [] U ?_
   rw[<-d1h (by omega) b];refine⟨i+1,?_,(by omega),⟨U,U,U,trivial⟩⟩;omega
  have b:i=0:=by omega
  refine A6<|A0<|y_M U<|y_M U<|y_M U<|B4 U U U (fun _=>U) (by omega)<|y_I U ?_
  have a:=j i (by omega);have f:=L4 a;refine xC1 U U (T5 (ns.getD i default) a) ⟨U,U,U⟩ U U fun g20=> ?_
  refine N6 U U (by simp only[H6,Zl,Zg,Zs];omega)<|y_S U<|xN [0,3,4] [] U<|A0<|y_M U<|D6 U U (B9 (by omega))<|y_S U<|xN [0,3,4] [] U ?_
  rw[<-d0x (by omega) b];refine⟨i+1,?_,(by omega),⟨U,U,U,trivial⟩⟩;omega
 refine D5<|A3<|A0<|y_M U<|y_S U<|xN [2] [] U<|A9<|C2 U U trivial ?_
 rw[ZC (by omega)]
theorem b9t:D8 Tryz.f51=[0,1,4,7,12,19,6,5]:=by kernel_rfl
theorem c5d(s:List UInt8)(w:s.length<=1048576)(c:UInt8):CW (cxT oG) 51 [tV s,uV c.toNat]=some (.own 1 ((splitB c s).map tV),[]):=by
 refine C5 U Tryz.func51 U ⟨by kernel_rfl,U,dT U,dT U,by decide⟩ b9t<|A3<|A0 ?_
 (refine B1 U U (fun _=>U) ?_;intro g4)
 refine xN [0,1] [] U<|A3<|A0<|C0 (es:=ZA tV []) U U (dT U) U U (fun _=>B5 (A7 fun _=>U)) (fun _=>U) ?_
 intro g8
 (refine xO U U (by simp) U (fun _=>U) (fun _=>U) ?_;intro g5)
 refine xN [0,1,5] [5] U<|A3<|A0<|y_S U<|xN [0,1,5,6] [5] U<|A3<|A3<|A0<|y_S U<|xN [0,1,5,6,7] [5] U<|A8<|D7 (β:=Nat×Nat×List (List UInt8)×Nat) [(.t 0,_),(.t 1,_)] (fun(z:Nat×Nat×List (List UInt8)×Nat)=>match z with|(i,fr,out,g)=>[(.t 7,iV i),(.t 6,iV fr),(.t 5,.sl 5 g none 0 out.length),(.h 5,.obj g 0 1 (out.map tV))]) (fun(z:Nat×Nat×List (List UInt8)×Nat)=>match z with|(i,fr,out,g)=>i<=s.length/\fr<=i/\out.length<=i/\splitB c s=out++Z0 ((s.drop fr).take (i-fr)) (splitB c (s.drop i))) (fun(z:Nat×Nat×List (List UInt8)×Nat)=>match z with|(i,fr,out,g)=>s.length-i) (0,0,[],_) ⟨U,U,U,U,U,U,trivial⟩ ⟨Zt _,Zd _,Zd _,by simp[c4v]⟩ ?_
 intro z m;obtain⟨i,fr,out,g⟩:=z
 try dsimp only at m
 obtain⟨u,j,v,b⟩:=m;refine A3<|A3<|A0<|y_M U<|y_M U<|a3l U U<|F0 U U<|xN [0,1,5,6,7,12] [5] U ?_
 refine A4 U ?_ ?_<;>intro k<;>try simp only[SL]at k
 ·refine A6<|A3<|A8<|A3<|A0<|y_M U<|y_M U<|M3 U U U (by omega)<|y_M U<|M9 U U<|xN [0,1,5,6,7,19] [5] U ?_
  refine A4 U ?_ ?_<;>intro k<;>try simp only[SL]at k
  ·have a:s.getD i 0=c:=UInt8.toNat_inj.1 (by omega)
   refine A3<|A0<|y_M U<|y_M U<|y_M U<|y_M U<|a1n U U (G2 U) (G2 U) (by omega)<|C0 (es:=ZA tV [_]) U U (dT U) U U (fun _=>B5 (A7 fun _=>U)) (fun _=>U) ?_
   intro n;refine xA U U U U (by simp) (by simp) U U U U U (fun _=>U) (by simp only[LN];omega) (fun _=>U) ?_;intro o
   (refine xO U U (by simp) U (fun _=>U) (fun _=>U) ?_;intro g5)
   refine xN [0,1,5,7] [5] U<|A0<|y_M U<|D6 U U (B9 (by omega))<|y_S U<|xN [0,1,5,6,7] [5] U<|A0<|y_M U<|D6 U U (B9 (by omega))<|y_S U<|xN [0,1,5,6,7] [5] U ?_
   refine⟨(i+1,i+1,out++[(s.drop fr).take (i-fr)],_),?_,(by simp only;omega),⟨U,U,U,U,U,U,trivial⟩⟩;have f:=b9v (by omega) j b;exact⟨by omega,by omega,by simp;omega,f.1 a⟩
  have a:s.getD i 0≠c:=fun e=>k (by rw[e])
  refine A6<|A0<|y_M U<|D6 U U (B9 (by omega))<|y_S U<|xN [0,1,5,6,7] [5] U ?_
  refine⟨(i+1,fr,out,_),?_,(by simp only;omega),⟨U,U,U,U,U,U,trivial⟩⟩;have f:=b9v (by omega) j b;exact⟨by omega,by omega,by omega,f.2 a⟩
 refine D5<|A3<|A0<|y_M U<|y_M U<|y_M U<|a1n U U J9 (G2 U) (by omega)<|C0 (es:=ZA tV [_]) U U (dT U) U U (fun _=>B5 (A7 fun _=>U)) (fun _=>U) ?_
 intro p;refine xA U U U U (by simp) (by simp) U U U U U (fun _=>U) (by simp only[LN];omega) (fun _=>U) ?_;intro q
 (refine xO U U (by simp) U (fun _=>U) (fun _=>U) ?_;intro g4)
 refine xN [4] [4] U<|A9<|I6 U U (by simp) (by exact A7 fun _=>U) trivial ?_
 have l:i=s.length:=by omega
 rw[b,l,List.drop_length,splitB,Z0,Zm]
theorem b6k:D8 Tryz.f116=[0,2,3,5,6,17,7,8,31,10,37,9,53,62,75,4]:=by kernel_rfl
theorem d5x(s:List UInt8)(V:s.length<=1048576):CW (cxT oG) 116 [tV s]=some (.tup [.own 1 (((rdL s).getD []).map iV),bV (rdL s).isSome],[]):=by
 obtain⟨f,l⟩:∃f,f=splitB 44 s:=⟨_,U⟩;have R:=Y0 44 s;rw[<-l]at R;have L:=Z8 44 s;rw[<-l]at L;refine C5 U Tryz.func116 U ⟨by kernel_rfl,U,dT U,dT U,by decide⟩ b6k<|A3<|A0 ?_
 (refine B1 U U (fun _=>U) ?_;intro g2)
 refine y_S U<|xN [0] [] U<|A3<|A0<|C0 (es:=ZA iV []) U U (dT U) U U (fun _=>B5 (A7 fun _=>U)) (fun _=>U) ?_
 intro g11
 (refine xO U U (by simp) U (fun _=>U) (fun _=>U) ?_;intro g4)
 refine xN [0,4] [4] U<|A3<|A0<|y_M U ?_
 apply xC U
 ·apply B0
  ·exact B2 U
  apply B0
  ·exact B2 U
  exact C8
 ·exact c5d s V 44
 refine⟨⟨U,U,U,dT U,U⟩,.inl U,B6,G6,fun _=>U,fun g13=> ?_⟩;rw[<-l]
 try simp only[Zh]
 (refine xO U U (by simp) U (fun _=>U) (fun _=>U) ?_;intro g5)
 refine xN [4,5] [4,5] U<|A3<|A3<|A0<|y_S U<|xN [4,5,6] [4,5] U<|A8<|D7 (β:=Nat×List Int×Nat) [(.t 5,_),(.h 5,_)] (fun(z:Nat×List Int×Nat)=>match z with|(i,ns,g)=>[(.t 6,iV i),(.t 4,.sl 4 g none 0 ns.length),(.h 4,.obj g 0 1 (ns.map iV))]) (fun(z:Nat×List Int×Nat)=>match z with|(i,ns,g)=>i<=f.length/\a2w (f.take i)=some ns) (fun(z:Nat×List Int×Nat)=>match z with|(i,ns,g)=>f.length-i) (0,[],_) ⟨U,U,U,U,U,trivial⟩ ⟨Zt _,U⟩ ?_
 intro z x;obtain⟨i,ns,g⟩:=z
 try dsimp only at x
 obtain⟨S,w⟩:=x;have O:=b4w w;rw[ZU]at O;have T:=fun h:i<f.length=>L _ (L8 h)
 refine A3<|A3<|A0<|y_M U<|y_M U<|H2 U U<|F0 U U<|xN [4,5,6,17] [4,5] U ?_
 refine A4 U ?_ ?_<;>intro c<;>try simp only[SL]at c
 ·refine A6<|A3<|A8<|A3<|A0<|y_M U<|y_M U<|C6 U U U U (by omega) (by(simp;done)) U<|E4 U U (by omega) (fun _=>U) (fun _=>U) U<|y_S U<|xN [4,5,6,7] [4,5] U<|A3<|A0<|y_M U<|b5c U U<|y_M U ?_
  refine D3 U U ?_ ?_<;>intro j<;>have v:=j<;>try simp only[SG]at v
  ·refine y_M U<|gT U U ?_
   have P:0<(f.getD i default).length:=List.length_pos_iff.2 (by assumption);refine M3 (n:=0) U U U P<|gT U U<|M9 U U<|E9 U (by assumption) U U<|y_S U<|xN [4,5,6,7,8] [4,5] U<|A3<|A3<|A0<|y_M U<|xN [4,5,6,7,8,31] [4,5] U ?_
   refine A4 U ?_ ?_<;>intro c<;>try simp only[SL]at c
   ·obtain⟨q,b⟩:=f5i (p:=(f.getD i default)) (by assumption) (by omega)
    have D:=c7t (f.getD i default);rw[b]at D;refine A0<|y_M U<|a1n U U J9 (G2 (n:=1) U) (by omega)<|y_S U<|xN [4,5,6,7,8] [4,5] U<|A3<|A0<|y_S U<|xN [4,5,6,7,8,9] [4,5] U<|A3<|A3<|A0<|y_S U<|xN [4,5,6,7,8,9,10] [4,5] U<|A8 ?_
    have M:=b;refine D7 (β:=Nat×Int) [(.t 4,_),(.t 5,_),(.t 6,_),(.t 7,_),(.t 8,_),(.h 4,_),(.h 5,_)] (fun(z:Nat×Int)=>match z with|(k,a)=>[(.t 10,iV k),(.t 9,iV a)]) (fun(z:Nat×Int)=>match z with|(k,a)=>k<=(unS (f.getD i default)).length/\0<=a/\a0b 0 ((unS (f.getD i default)).take k)=some a.toNat) (fun(z:Nat×Int)=>match z with|(k,a)=>(unS (f.getD i default)).length-k) (0,0) ⟨U,U,U,U,U,U,U,U,U,trivial⟩ ⟨Zt _,by decide,U⟩ ?_;intro z x;obtain⟨k,a⟩:=z
    try dsimp only at x
    obtain⟨B,J,e⟩:=x;have K:=b8a (by decide) e;rw[b]at B e;refine A3<|A3<|A0<|y_M U<|y_M U<|a3l U U<|F0 U U<|xN [4,5,6,7,8,9,10,37] [4,5] U ?_
    refine A4 U ?_ ?_<;>intro c<;>try simp only[SL]at c
    ·refine A6<|A3<|A8<|A3<|A3<|A0<|y_M U<|y_M U<|M3 U U U (by omega)<|F0 U U<|y_M U ?_
     refine D3 U U ?_ ?_<;>intro j<;>have v:=j<;>try simp only[SG]at v
     ·refine y_M U<|gT U U<|y_M U<|gT U U<|M3 U U U (by omega)<|gT U U<|M0 U U<|E8 U (by assumption) U U<|y_M U ?_
      refine D3 U U ?_ ?_<;>intro j<;>have v:=j<;>try simp only[SG]at v
      ·refine y_M U<|gT U U<|M0 U U<|E8 U (by assumption) U U<|xN [4,5,6,7,8,9,10,53] [4,5] U ?_
       refine A4 U ?_ ?_<;>intro c<;>try simp only[SL]at c
       ·refine A3<|A0 ?_
        (refine B1 U U (fun _=>U) ?_;intro g2)
        refine y_S U<|xN [2,3] [2] U<|A9<|B8 (F9 U U (by simp) (by rfl) (C9 U U (C4 B3))) ?_
        rw[rdL,<-l,N3 (show i<f.length by omega) (a0c (by rw[b];exact W1 (by omega) e (by omega)))]
        rfl
       refine A6<|A0<|y_M U<|a0o U U (B9 (by omega))<|y_M U<|y_M U<|M3 U U U (by omega)<|J8 U U (d4x (by omega))<|a6f U U U (B9 (by omega))<|D6 U U (B9 (by omega))<|y_S U<|xN [4,5,6,7,8,9,10] [4,5] U<|A0<|y_M U<|D6 U U (B9 (by omega))<|y_S U<|xN [4,5,6,7,8,9,10] [4,5] U ?_
       refine⟨(k+1,_),?_,(by simp only[b];omega),⟨U,U,U,U,U,U,U,U,U,trivial⟩⟩;rw[b];have y:=b3t (by omega) e (by omega);exact⟨by omega,by omega,y.trans (congrArg some (by omega))⟩
      refine gF U U<|E9 U (by assumption) U U<|xN [4,5,6,7,8,9,10,53] [4,5] U ?_
      refine A4 U (fun c=> ?_) (fun c=>absurd c (by decide));refine A3<|A0 ?_
      (refine B1 U U (fun _=>U) ?_;intro g2)
      refine y_S U<|xN [2,3] [2] U<|A9<|B8 (F9 U U (by simp) (by rfl) (C9 U U (C4 B3))) ?_
      rw[rdL,<-l,N3 (show i<f.length by omega) (a0c (by rw[b];exact W1 (by omega) e (by omega)))]
      rfl
     refine gF U U<|gF U U<|gF U U<|E9 U (by assumption) U U<|y_M U<|H4 U U U<|H4 U U U<|E9 U U U U<|xN [4,5,6,7,8,9,10,53] [4,5] U ?_
     refine A4 U (fun c=> ?_) (fun c=>absurd c (by decide));refine A3<|A0 ?_
     (refine B1 U U (fun _=>U) ?_;intro g2)
     refine y_S U<|xN [2,3] [2] U<|A9<|B8 (F9 U U (by simp) (by rfl) (C9 U U (C4 B3))) ?_
     rw[rdL,<-l,N3 (show i<f.length by omega) (a0c (by rw[b];exact W1 (by omega) e (by omega)))]
     rfl
    have o:a0b 0 (unS (f.getD i default))=some a.toNat:=by rw[b];rw[ZC (by omega)]at e;exact e
    refine D5<|A3<|A3<|A0<|y_M U<|xN [4,5,6,7,9,62] [4,5] U ?_
    refine A4 U (fun c=> ?_) (fun c=>absurd c (by simp_all));refine A0<|y_M U<|a4s U (B9 (by omega))<|y_S U<|xN [4,5,6,7,9] [4,5] U<|A3<|A3<|A0<|y_M U<|H0 U U<|y_M U ?_
    refine D3 U U ?_ ?_<;>intro j<;>have v:=j<;>try simp only[SG]at v
    ·refine y_M U<|gT U U ?_
     have E:=L4 (m:= -a) (by omega);have F:=L4 (m:=a) (by omega);refine xC1 U U (T5 (-a) (by omega)) ⟨U,U,U⟩ U U fun G=> ?_
     refine gT U U<|y_M U<|gT U U<|y_M U<|gT U U<|C6 U U U U (by omega) (by(simp;done)) U<|gT U U<|E4 U U (by omega) (fun _=>U) (fun _=>U) U<|gT U U<|b5c U U<|E8 U (by assumption) U U ?_
     refine G7 ⟨fun _=>⟨by(simp only[V8,Zi,Zm,Zy,Yf,Zp];decide+kernel),by decide+kernel⟩,[(.t 4,_),(.t 5,_),(.t 6,_),(.t 9,_),(.t 75,_),(.h 4,_),(.h 5,_)],⟨U,U,U,U,U,U,U,U,U,U,U,U,U,U,trivial⟩,?_⟩;refine A4 U ?_ ?_<;>intro c<;>try simp only[SL]at c
     ·refine A3<|A0 ?_
      (refine B1 U U (fun _=>U) ?_;intro g2)
      refine y_S U<|xN [2,3] [2] U<|A9<|B8 (F9 U U (by simp) (by rfl) (C9 U U (C4 B3))) ?_
      have u:rdI (f.getD i default)=none:=by exact b3v (m:= -a) o (by(rw[q,if_pos U];omega)) (by exact .inr (by assumption))
      rw[rdL,<-l,N3 (show i<f.length by omega) u]
      rfl
     have C:=d7j (m:= -a) o (by(rw[q,if_pos U];omega)) (by rw[b];assumption) (by assumption);refine A6<|A0<|y_M U<|y_M U<|C0 (es:=ZA iV [_]) U U (dT U) U U (fun _=>B5 (A7 fun _=>U)) (fun _=>U) ?_
     intro H;refine xA U U U U (by simp) (by simp) U U U U U (fun _=>U) (by simp only[LN];omega) (fun _=>U) ?_;intro I
     (refine xO U U (by simp) U (fun _=>U) (fun _=>U) ?_;intro g4)
     refine xN [4,5,6] [4,5] U<|A0<|y_M U<|D6 U U (B9 (by omega))<|y_S U<|xN [4,5,6] [4,5] U ?_
     refine⟨(i+1,ns++[-a],_),?_,(by simp only;omega),⟨U,U,U,U,U,trivial⟩⟩;exact⟨by omega,b2t (by omega) w C⟩
    iterate 6 refine gF U U ?_
    refine E9 U (by assumption) U U ?_;refine G7 ⟨fun _=>⟨by decide+kernel,by decide+kernel⟩,[(.t 4,_),(.t 5,_),(.t 6,_),(.t 9,_),(.t 75,_),(.h 4,_),(.h 5,_)],⟨U,U,U,U,U,U,U,U,U,U,U,U,U,U,trivial⟩,?_⟩;refine A4 U (fun c=> ?_) (fun c=>absurd c (by decide));refine A3<|A0 ?_
    (refine B1 U U (fun _=>U) ?_;intro g2)
    refine y_S U<|xN [2,3] [2] U<|A9<|B8 (F9 U U (by simp) (by rfl) (C9 U U (C4 B3))) ?_
    have u:rdI (f.getD i default)=none:=by exact b3v (m:= -a) o (by(rw[q,if_pos U];omega)) (by exact .inl (by rw[b];assumption))
    rw[rdL,<-l,N3 (show i<f.length by omega) u]
    rfl
   obtain⟨q,b⟩:=f3a (p:=(f.getD i default)) (by exact .inr (by omega));have D:=c7t (f.getD i default);rw[b]at D;refine A6<|A3<|A0<|y_S U<|xN [4,5,6,7,8,9] [4,5] U<|A3<|A3<|A0<|y_S U<|xN [4,5,6,7,8,9,10] [4,5] U<|A8 ?_
   have M:=b;refine D7 (β:=Nat×Int) [(.t 4,_),(.t 5,_),(.t 6,_),(.t 7,_),(.t 8,_),(.h 4,_),(.h 5,_)] (fun(z:Nat×Int)=>match z with|(k,a)=>[(.t 10,iV k),(.t 9,iV a)]) (fun(z:Nat×Int)=>match z with|(k,a)=>k<=(unS (f.getD i default)).length/\0<=a/\a0b 0 ((unS (f.getD i default)).take k)=some a.toNat) (fun(z:Nat×Int)=>match z with|(k,a)=>(unS (f.getD i default)).length-k) (0,0) ⟨U,U,U,U,U,U,U,U,U,trivial⟩ ⟨Zt _,by decide,U⟩ ?_;intro z x;obtain⟨k,a⟩:=z
   try dsimp only at x
   obtain⟨B,J,e⟩:=x;have K:=b8a (by decide) e;rw[b]at B e;refine A3<|A3<|A0<|y_M U<|y_M U<|a3l U U<|F0 U U<|xN [4,5,6,7,8,9,10,37] [4,5] U ?_
   refine A4 U ?_ ?_<;>intro c<;>try simp only[SL]at c
   ·refine A6<|A3<|A8<|A3<|A3<|A0<|y_M U<|y_M U<|M3 U U U (by omega)<|F0 U U<|y_M U ?_
    refine D3 U U ?_ ?_<;>intro j<;>have v:=j<;>try simp only[SG]at v
    ·refine y_M U<|gT U U<|y_M U<|gT U U<|M3 U U U (by omega)<|gT U U<|M0 U U<|E8 U (by assumption) U U<|y_M U ?_
     refine D3 U U ?_ ?_<;>intro j<;>have v:=j<;>try simp only[SG]at v
     ·refine y_M U<|gT U U<|M0 U U<|E8 U (by assumption) U U<|xN [4,5,6,7,8,9,10,53] [4,5] U ?_
      refine A4 U ?_ ?_<;>intro c<;>try simp only[SL]at c
      ·refine A3<|A0 ?_
       (refine B1 U U (fun _=>U) ?_;intro g2)
       refine y_S U<|xN [2,3] [2] U<|A9<|B8 (F9 U U (by simp) (by rfl) (C9 U U (C4 B3))) ?_
       rw[rdL,<-l,N3 (show i<f.length by omega) (a0c (by rw[b];exact W1 (by omega) e (by omega)))]
       rfl
      refine A6<|A0<|y_M U<|a0o U U (B9 (by omega))<|y_M U<|y_M U<|M3 U U U (by omega)<|J8 U U (d4x (by omega))<|a6f U U U (B9 (by omega))<|D6 U U (B9 (by omega))<|y_S U<|xN [4,5,6,7,8,9,10] [4,5] U<|A0<|y_M U<|D6 U U (B9 (by omega))<|y_S U<|xN [4,5,6,7,8,9,10] [4,5] U ?_
      refine⟨(k+1,_),?_,(by simp only[b];omega),⟨U,U,U,U,U,U,U,U,U,trivial⟩⟩;rw[b];have y:=b3t (by omega) e (by omega);exact⟨by omega,by omega,y.trans (congrArg some (by omega))⟩
     refine gF U U<|E9 U (by assumption) U U<|xN [4,5,6,7,8,9,10,53] [4,5] U ?_
     refine A4 U (fun c=> ?_) (fun c=>absurd c (by decide));refine A3<|A0 ?_
     (refine B1 U U (fun _=>U) ?_;intro g2)
     refine y_S U<|xN [2,3] [2] U<|A9<|B8 (F9 U U (by simp) (by rfl) (C9 U U (C4 B3))) ?_
     rw[rdL,<-l,N3 (show i<f.length by omega) (a0c (by rw[b];exact W1 (by omega) e (by omega)))]
     rfl
    refine gF U U<|gF U U<|gF U U<|E9 U (by assumption) U U<|y_M U<|H4 U U U<|H4 U U U<|E9 U U U U<|xN [4,5,6,7,8,9,10,53] [4,5] U ?_
    refine A4 U (fun c=> ?_) (fun c=>absurd c (by decide));refine A3<|A0 ?_
    (refine B1 U U (fun _=>U) ?_;intro g2)
    refine y_S U<|xN [2,3] [2] U<|A9<|B8 (F9 U U (by simp) (by rfl) (C9 U U (C4 B3))) ?_
    rw[rdL,<-l,N3 (show i<f.length by omega) (a0c (by rw[b];exact W1 (by omega) e (by omega)))]
    rfl
   have o:a0b 0 (unS (f.getD i default))=some a.toNat:=by rw[b];rw[ZC (by omega)]at e;exact e
   refine D5<|A3<|A3<|A0<|y_M U<|xN [4,5,6,7,9,62] [4,5] U ?_
   refine A4 U (fun c=>absurd c (by simp_all)) (fun c=> ?_);refine A6<|A3<|A3<|A0<|y_M U<|H0 U U<|y_M U ?_
   refine D3 U U ?_ ?_<;>intro j<;>have v:=j<;>try simp only[SG]at v
   ·refine y_M U<|gT U U ?_
    have E:=L4 (m:= -a) (by omega);have F:=L4 (m:=a) (by omega);refine xC1 U U (T5 a (by omega)) ⟨U,U,U⟩ U U fun G=> ?_
    refine gT U U<|y_M U<|gT U U<|y_M U<|gT U U<|C6 U U U U (by omega) (by(simp;done)) U<|gT U U<|E4 U U (by omega) (fun _=>U) (fun _=>U) U<|gT U U<|b5c U U<|E8 U (by assumption) U U ?_
    refine G7 ⟨fun _=>⟨by(simp only[V8,Zi,Zm,Zy,Yf,Zp];decide+kernel),by decide+kernel⟩,[(.t 4,_),(.t 5,_),(.t 6,_),(.t 9,_),(.t 75,_),(.h 4,_),(.h 5,_)],⟨U,U,U,U,U,U,U,U,U,U,U,U,U,U,trivial⟩,?_⟩;refine A4 U ?_ ?_<;>intro c<;>try simp only[SL]at c
    ·refine A3<|A0 ?_
     (refine B1 U U (fun _=>U) ?_;intro g2)
     refine y_S U<|xN [2,3] [2] U<|A9<|B8 (F9 U U (by simp) (by rfl) (C9 U U (C4 B3))) ?_
     have u:rdI (f.getD i default)=none:=by exact b3v (m:=a) o (by(rw[q,if_neg (by decide)];omega)) (by exact .inr (by assumption))
     rw[rdL,<-l,N3 (show i<f.length by omega) u]
     rfl
    have C:=d7j (m:=a) o (by(rw[q,if_neg (by decide)];omega)) (by rw[b];assumption) (by assumption);refine A6<|A0<|y_M U<|y_M U<|C0 (es:=ZA iV [_]) U U (dT U) U U (fun _=>B5 (A7 fun _=>U)) (fun _=>U) ?_
    intro H;refine xA U U U U (by simp) (by simp) U U U U U (fun _=>U) (by simp only[LN];omega) (fun _=>U) ?_;intro I
    (refine xO U U (by simp) U (fun _=>U) (fun _=>U) ?_;intro g4)
    refine xN [4,5,6] [4,5] U<|A0<|y_M U<|D6 U U (B9 (by omega))<|y_S U<|xN [4,5,6] [4,5] U ?_
    refine⟨(i+1,ns++[a],_),?_,(by simp only;omega),⟨U,U,U,U,U,trivial⟩⟩;exact⟨by omega,b2t (by omega) w C⟩
   iterate 6 refine gF U U ?_
   refine E9 U (by assumption) U U ?_;refine G7 ⟨fun _=>⟨by decide+kernel,by decide+kernel⟩,[(.t 4,_),(.t 5,_),(.t 6,_),(.t 9,_),(.t 75,_),(.h 4,_),(.h 5,_)],⟨U,U,U,U,U,U,U,U,U,U,U,U,U,U,trivial⟩,?_⟩;refine A4 U (fun c=> ?_) (fun c=>absurd c (by decide));refine A3<|A0 ?_
   (refine B1 U U (fun _=>U) ?_;intro g2)
   refine y_S U<|xN [2,3] [2] U<|A9<|B8 (F9 U U (by simp) (by rfl) (C9 U U (C4 B3))) ?_
   have u:rdI (f.getD i default)=none:=by exact b3v (m:=a) o (by(rw[q,if_neg (by decide)];omega)) (by exact .inl (by rw[b];assumption))
   rw[rdL,<-l,N3 (show i<f.length by omega) u]
   rfl
  refine gF U U<|gF U U<|E8 U (by assumption) U U<|y_S U<|xN [4,5,6,7,8] [4,5] U<|A3<|A3<|A0<|y_M U<|xN [4,5,6,7,8,31] [4,5] U ?_
  refine A4 U (fun c=>absurd c (by decide)) (fun c=> ?_);refine A6<|A3<|A0<|y_S U<|xN [4,5,6,7,8,9] [4,5] U<|A3<|A3<|A0<|y_S U<|xN [4,5,6,7,8,9,10] [4,5] U<|A8 ?_
  (obtain⟨q,b⟩:=f3a (p:=(f.getD i default)) (.inl (by assumption));have D:=c7t (f.getD i default);rw[b]at D)
  refine D7 (β:=Nat×Int) [(.t 4,_),(.t 5,_),(.t 6,_),(.t 7,_),(.t 8,_),(.h 4,_),(.h 5,_)] (fun(z:Nat×Int)=>match z with|(k,a)=>[(.t 10,iV k),(.t 9,iV a)]) (fun(z:Nat×Int)=>match z with|(k,a)=>k<=(unS (f.getD i default)).length/\0<=a/\a0b 0 ((unS (f.getD i default)).take k)=some a.toNat) (fun(z:Nat×Int)=>match z with|(k,a)=>(unS (f.getD i default)).length-k) (0,0) ⟨U,U,U,U,U,U,U,U,U,trivial⟩ ⟨Zt _,by decide,U⟩ ?_;intro z x;obtain⟨k,a⟩:=z
  try dsimp only at x
  obtain⟨B,J,e⟩:=x;have K:=b8a (by decide) e;rw[b]at B e;refine A3<|A3<|A0<|y_M U<|y_M U<|a3l U U<|F0 U U<|xN [4,5,6,7,8,9,10,37] [4,5] U ?_
  refine A4 U ?_ ?_<;>intro c<;>try simp only[SL]at c
  ·refine A6<|A3<|A8<|A3<|A3<|A0<|y_M U<|y_M U<|M3 U U U (by omega)<|F0 U U<|y_M U ?_
   refine D3 U U ?_ ?_<;>intro j<;>have v:=j<;>try simp only[SG]at v
   ·refine y_M U<|gT U U<|y_M U<|gT U U<|M3 U U U (by omega)<|gT U U<|M0 U U<|E8 U (by assumption) U U<|y_M U ?_
    refine D3 U U ?_ ?_<;>intro j<;>have v:=j<;>try simp only[SG]at v
    ·refine y_M U<|gT U U<|M0 U U<|E8 U (by assumption) U U<|xN [4,5,6,7,8,9,10,53] [4,5] U ?_
     refine A4 U ?_ ?_<;>intro c<;>try simp only[SL]at c
     ·refine A3<|A0 ?_
      (refine B1 U U (fun _=>U) ?_;intro g2)
      refine y_S U<|xN [2,3] [2] U<|A9<|B8 (F9 U U (by simp) (by rfl) (C9 U U (C4 B3))) ?_
      rw[rdL,<-l,N3 (show i<f.length by omega) (a0c (by rw[b];exact W1 (by omega) e (by omega)))]
      rfl
     refine A6<|A0<|y_M U<|a0o U U (B9 (by omega))<|y_M U<|y_M U<|M3 U U U (by omega)<|J8 U U (d4x (by omega))<|a6f U U U (B9 (by omega))<|D6 U U (B9 (by omega))<|y_S U<|xN [4,5,6,7,8,9,10] [4,5] U<|A0<|y_M U<|D6 U U (B9 (by omega))<|y_S U<|xN [4,5,6,7,8,9,10] [4,5] U ?_
     refine⟨(k+1,_),?_,(by simp only[b];omega),⟨U,U,U,U,U,U,U,U,U,trivial⟩⟩;rw[b];have y:=b3t (by omega) e (by omega);exact⟨by omega,by omega,y.trans (congrArg some (by omega))⟩
    refine gF U U<|E9 U (by assumption) U U<|xN [4,5,6,7,8,9,10,53] [4,5] U ?_
    refine A4 U (fun c=> ?_) (fun c=>absurd c (by decide));refine A3<|A0 ?_
    (refine B1 U U (fun _=>U) ?_;intro g2)
    refine y_S U<|xN [2,3] [2] U<|A9<|B8 (F9 U U (by simp) (by rfl) (C9 U U (C4 B3))) ?_
    rw[rdL,<-l,N3 (show i<f.length by omega) (a0c (by rw[b];exact W1 (by omega) e (by omega)))]
    rfl
   refine gF U U<|gF U U<|gF U U<|E9 U (by assumption) U U<|y_M U<|H4 U U U<|H4 U U U<|E9 U U U U<|xN [4,5,6,7,8,9,10,53] [4,5] U ?_
   refine A4 U (fun c=> ?_) (fun c=>absurd c (by decide));refine A3<|A0 ?_
   (refine B1 U U (fun _=>U) ?_;intro g2)
   refine y_S U<|xN [2,3] [2] U<|A9<|B8 (F9 U U (by simp) (by rfl) (C9 U U (C4 B3))) ?_
   rw[rdL,<-l,N3 (show i<f.length by omega) (a0c (by rw[b];exact W1 (by omega) e (by omega)))]
   rfl
  have o:a0b 0 (unS (f.getD i default))=some a.toNat:=by rw[b];rw[ZC (by omega)]at e;exact e
  refine D5<|A3<|A3<|A0<|y_M U<|xN [4,5,6,7,9,62] [4,5] U ?_
  refine A4 U (fun c=>absurd c (by decide)) (fun c=> ?_);refine A6<|A3<|A3<|A0<|y_M U<|H0 U U<|y_M U ?_
  refine D3 U U ?_ ?_<;>intro j<;>have v:=j<;>try simp only[SG]at v
  ·refine y_M U<|gT U U ?_
   have E:=L4 (m:= -a) (by omega);have F:=L4 (m:=a) (by omega);refine xC1 U U (T5 a (by omega)) ⟨U,U,U⟩ U U fun G=> ?_
   refine gT U U<|y_M U<|gT U U<|y_M U<|gT U U<|C6 U U U U (by omega) (by(simp;done)) U<|gT U U<|E4 U U (by omega) (fun _=>U) (fun _=>U) U<|gT U U<|b5c U U<|E8 U (by assumption) U U ?_
   refine G7 ⟨fun _=>⟨by(simp only[V8,Zi,Zm,Zy,Yf,Zp];decide+kernel),by decide+kernel⟩,[(.t 4,_),(.t 5,_),(.t 6,_),(.t 9,_),(.t 75,_),(.h 4,_),(.h 5,_)],⟨U,U,U,U,U,U,U,U,U,U,U,U,U,U,trivial⟩,?_⟩;refine A4 U ?_ ?_<;>intro c<;>try simp only[SL]at c
   ·refine A3<|A0 ?_
    (refine B1 U U (fun _=>U) ?_;intro g2)
    refine y_S U<|xN [2,3] [2] U<|A9<|B8 (F9 U U (by simp) (by rfl) (C9 U U (C4 B3))) ?_
    have u:rdI (f.getD i default)=none:=by exact b3v (m:=a) o (by(rw[q,if_neg (by decide)];omega)) (by exact .inl (by rw[b];assumption))
    rw[rdL,<-l,N3 (show i<f.length by omega) u]
    rfl
   have C:=d7j (m:=a) o (by(rw[q,if_neg (by decide)];omega)) (by rw[b];assumption) (by assumption);refine A6<|A0<|y_M U<|y_M U<|C0 (es:=ZA iV [_]) U U (dT U) U U (fun _=>B5 (A7 fun _=>U)) (fun _=>U) ?_
   intro H;refine xA U U U U (by simp) (by simp) U U U U U (fun _=>U) (by simp only[LN];omega) (fun _=>U) ?_;intro I
   (refine xO U U (by simp) U (fun _=>U) (fun _=>U) ?_;intro g4)
   refine xN [4,5,6] [4,5] U<|A0<|y_M U<|D6 U U (B9 (by omega))<|y_S U<|xN [4,5,6] [4,5] U ?_
   refine⟨(i+1,ns++[a],_),?_,(by simp only;omega),⟨U,U,U,U,U,trivial⟩⟩;exact⟨by omega,b2t (by omega) w C⟩
  iterate 6 refine gF U U ?_
  refine E9 U (by assumption) U U ?_;refine G7 ⟨fun _=>⟨by decide+kernel,by decide+kernel⟩,[(.t 4,_),(.t 5,_),(.t 6,_),(.t 9,_),(.t 75,_),(.h 4,_),(.h 5,_)],⟨U,U,U,U,U,U,U,U,U,U,U,U,U,U,trivial⟩,?_⟩;refine A4 U (fun c=> ?_) (fun c=>absurd c (by decide));refine A3<|A0 ?_
  (refine B1 U U (fun _=>U) ?_;intro g2)
  refine y_S U<|xN [2,3] [2] U<|A9<|B8 (F9 U U (by simp) (by rfl) (C9 U U (C4 B3))) ?_
  have u:rdI (f.getD i default)=none:=by exact b3v (m:=a) o (by(rw[q,if_neg (by decide)];omega)) (by exact .inl (by rw[b];assumption))
  rw[rdL,<-l,N3 (show i<f.length by omega) u]
  rfl
 refine D5<|A3<|A0<|y_M U ?_
 (refine xO U U (by simp) U (fun _=>U) (fun _=>U) ?_;intro g2)
 refine y_S U<|xN [2,3] [2] U<|A9<|B8 (F9 U U (by simp) (by exact A7 fun _=>U) (C9 U U (C4 B3))) ?_
 have N:i=f.length:=by omega
 rw[N,List.take_length]at w;rw[rdL,<-l,w]
 rfl
theorem b6i:D8 Tryz.f86=[0,2,3,4,22,24,5,6]:=by kernel_rfl
theorem d9c(s:List UInt8)(m:s.length<=1048576):CW (cxT oG) 86 [tV s]=some (.tup [.own 1 ((d3e s).map iV),bV (numsOf s).isSome],[]):=by
 refine C5 U Tryz.func86 U ⟨by kernel_rfl,U,dT U,dT U,by decide⟩ b6i<|A3<|A0 ?_
 (refine B1 U U (fun _=>U) ?_;intro g2)
 refine y_S U<|xN [0] [] U<|A3<|A0<|y_M U<|a3l U U<|y_S U<|xN [0,4] [] U<|A3<|A3<|A0<|y_M U<|F0 U U<|y_M U ?_
 refine D3 U U ?_ ?_<;>intro c<;>have g:=c<;>try simp only[SG]at g
 ·refine y_M U<|gT U U<|M3 (n:=0) U U U (by omega)<|gT U U<|a8f U U<|E8 U (by assumption) U U<|y_M U ?_
  refine D3 U U ?_ ?_<;>intro c<;>have g:=c<;>try simp only[SG]at g
  ·refine y_M U<|gT U U<|y_M U<|gT U U<|J8 U U (B9 (by omega))<|gT U U ?_
   rw[show((s.length:Int)-1)=((s.length-1:Nat):Int) by omega];refine M3 U U U (by omega)<|gT U U<|a8f U U<|E8 U (by assumption) U U<|xN [0,4,22] [] U ?_
   refine A4 U ?_ ?_<;>intro e<;>try simp only[SL]at e
   ·refine A3<|A0 ?_
    (refine B1 U U (fun _=>U) ?_;intro g2)
    refine y_S U<|xN [2,3] [2] U<|A9<|B8 (F9 U U (by simp) (by rfl) (C9 U U (C4 B3))) ?_
    obtain⟨a,b⟩:=a8y (s:=s) (by exact .inr (.inr (by omega)));rw[a,b]
    rfl
   have f:=e5e (s:=s) (by omega) (by omega) (by omega);refine A6<|A3<|A3<|A0<|y_M U<|M9 U U<|xN [0,4,24] [] U ?_
   refine A4 U ?_ ?_<;>intro e<;>try simp only[SL]at e
   ·refine A3<|A0<|C0 (es:=ZA iV []) U U (dT U) U U (fun _=>B5 (A7 fun _=>U)) (fun _=>U) ?_
    intro i
    (refine xO U U (by simp) U (fun _=>U) (fun _=>U) ?_;intro g2)
    refine y_S U<|xN [2,3] [2] U<|A9<|B8 (F9 U U (by simp) (by rfl) (C9 U U (C4 B3))) ?_
    obtain⟨a,b⟩:=f.1 (by omega);rw[a,b]
    rfl
   refine A6<|A3<|A0<|y_M U<|y_M U<|J8 U U (B9 (by omega)) ?_
   rw[show((s.length:Int)-1)=((s.length-1:Nat):Int) by omega];have l:=f1b ((s.drop 1).take (s.length-1-1));have h:((s.drop 1).take (s.length-1-1)).length<=s.length-2:=by simp only[ZU,List.length_drop];omega
   refine a1n U U (G2 U) (G2 (n:=1) U) (by omega) ?_;apply xC U
   ·apply B0
    ·exact B2 U
    exact C8
   ·exact d5x ((s.drop 1).take (s.length-1-1)) (by omega)
   refine⟨⟨U,U,U,dT U,U⟩,.inr ⟨H9 _ _,U⟩,B6,G9 (K5 fun _=>J0 U K6),fun _=>U,fun j=> ?_⟩;simp only[Zh];refine y_M U<|y_E U<|y_E U ?_
   (refine xO U U (by simp) U (fun _=>U) (fun _=>U) ?_;intro g5)
   refine y_S U<|xN [5,6] [5] U<|A3<|A0<|y_M U<|y_M U<|y_M U ?_
   refine D3 U U ?_ ?_<;>intro c<;>have g:=c<;>try simp only[SG]at g
   ·refine y_M U<|gT U U ?_
    apply xC U
    ·apply B0
     ·exact E6 U U U (by(simp;done)) (fun _=>U)
     exact C8
    ·exact Z2 ((rdL ((s.drop 1).take (s.length-1-1))).getD []) (by omega)
    refine⟨⟨U,U,U,dT U,U⟩,.inr ⟨U,U⟩,B6,F7 U,fun _=>U,fun k=> ?_⟩;refine E9 U (by assumption) U U ?_
    (refine xO U U (by simp) U (fun _=>U) (fun _=>U) ?_;intro g2)
    refine y_S U<|xN [2,3] [2] U<|A9<|B8 (F9 U U (by simp) (by exact A7 fun _=>U) (C9 U U (C4 B3))) ?_
    obtain⟨a,b⟩:=f.2 (by omega);rw[b,c1h a];simp_all
    try rfl
   refine gF U U<|E8 U (by assumption) U U ?_
   (refine xO U U (by simp) U (fun _=>U) (fun _=>U) ?_;intro g2)
   refine y_S U<|xN [2,3] [2] U<|A9<|B8 (F9 U U (by simp) (by exact A7 fun _=>U) (C9 U U (C4 B3))) ?_
   obtain⟨a,b⟩:=f.2 (by omega);rw[b,c1h a];simp_all
   try rfl
  iterate 4 refine gF U U ?_
  refine E9 U (by assumption) U U<|xN [0,4,22] [] U ?_
  refine A4 U (fun e=> ?_) (fun e=>absurd e (by decide));refine A3<|A0 ?_
  (refine B1 U U (fun _=>U) ?_;intro g2)
  refine y_S U<|xN [2,3] [2] U<|A9<|B8 (F9 U U (by simp) (by rfl) (C9 U U (C4 B3))) ?_
  obtain⟨a,b⟩:=a8y (s:=s) (by exact .inr (.inl (by omega)));rw[a,b]
  rfl
 refine gF U U<|gF U U<|E9 U (by assumption) U U<|y_M U ?_
 iterate 5 refine H4 U U U ?_
 refine E9 U U U U<|xN [0,4,22] [] U ?_
 refine A4 U (fun e=> ?_) (fun e=>absurd e (by decide));refine A3<|A0 ?_
 (refine B1 U U (fun _=>U) ?_;intro g2)
 refine y_S U<|xN [2,3] [2] U<|A9<|B8 (F9 U U (by simp) (by rfl) (C9 U U (C4 B3))) ?_
 obtain⟨a,b⟩:=a8y (s:=s) (by exact .inl (by omega));rw[a,b]
 rfl
theorem b6r:D8 Tryz.f52=[0,2,3,4,15,6,24,5,7,34,43,9,12,53,8,10,11,48,59]:=by kernel_rfl
theorem b9l(ws:List W8)(f:ws.length<=1048600/\∀w∈ws,w.length<=1048576):CW (cxT oG) 52 [.list (ws.map tV)]=some (rtR (rdT ws),[]):=by
 obtain⟨y,g⟩:∃y:Nat,ws.length<y:=⟨_,ZK _⟩;revert ws
 induction y with
 |zero=>intro ws f g;exact absurd g (Yy _)
 |succ y p=>
  intro ws f g;refine C5 U Tryz.func52 U ⟨by kernel_rfl,U,dT U,dT U,by decide⟩ b6r<|A3<|A0<|y_A U (fun _=>U) ?_
  intro g2
  (refine B1 U U (fun _=>U) ?_;intro g3)
  refine y_S U<|xN [0,2] [2] U<|A3<|A3<|A0<|y_M U<|B7 U U<|M9 U U<|xN [0,2,15] [2] U ?_
  refine A4 U ?_ ?_<;>intro a<;>try simp only[SL]at a
  ·have C:ws=[]:=ZT.1 (by simpa using a)
   subst C;refine A3<|A0<|I3 (fs:=[_,_,_]) U U U U U<|xB U U U U U U U U U ?_
   (refine B1 U U (fun _=>U) ?_;intro g3)
   refine y_S U<|xN [2,3,4] [2,3] U<|A9<|B8 (F3 U U U U (D9 U (I5 U (I5 U G8))) (F9 U U (by simp) (by rfl) (C9 U U (C4 B3)))) ?_
   rfl
  obtain⟨w,b,rfl⟩:∃w b,ws=w::b:=List.exists_cons_of_ne_nil (fun e=>by subst e;simp at a);have hw:=f.2 w (by simp);refine A6<|A3<|A0<|y_M U<|B4 U U U (fun _=>U) (by(change 0<_;omega))<|y_I U ?_
  apply xC U
  ·apply B0
   ·exact B2 U
   exact C8
  ·exact d9c w (by omega)
  refine⟨⟨U,U,U,dT U,U⟩,.inr ⟨H9 _ _,U⟩,B6,G9 (K5 fun _=>J0 U K6),fun _=>U,fun g21=> ?_⟩;simp only[Zh];refine y_M U<|y_E U<|y_E U ?_
  (refine xO U U (by simp) U (fun _=>U) (fun _=>U) ?_;intro g5)
  refine y_S U<|xN [0,2,5,6] [2,5] U<|A3<|A3<|A0<|y_M U<|xN [0,2,5,24] [2,5] U ?_
  refine A4 U ?_ ?_<;>intro a<;>try simp only[SL]at a
  ·obtain⟨ns,u⟩:=ZS.1 a
   have v:=f1x u;refine A3<|A0<|y_M U<|I3 (fs:=[_,_,_]) U U U U U<|y_M U<|N7 U U U (Mv.sized_map fun _=>U) J9 (G2 (n:=1) U) (by simp) ?_
   rw[show((ZA tV (w::b)).drop 1).take ((ZA tV (w::b)).length-1)=b.map tV from by rw[Zy,Yg,ZX,ZC (by simp)]];refine G0 U U U U (G5 U (N2 (by decide) (G5 U K1))) (fun _=>U) ⟨by decide,U,dT U,Zd _⟩ (fun _=>U) (fun _=>U) (fun _=>(by rfl)) ?_;intro z;simp only[J7,Zp,Zi];refine y_S U<|y_S U ?_
   refine G7 ⟨fun _=>⟨by(simp only[V8,Zi,Zm,Zy,Yf,Zp];decide+kernel),by decide+kernel⟩,[(.t 2,_),(.t 3,_),(.t 4,_),(.h 2,_),(.h 5,_)],⟨U,U,U,U,U,U,U,U,U,U,trivial⟩,?_⟩;refine A9<|B8 (F3 U U U U (D9 U (K8 U U (by simp) (fun _=>U) (I5 U G8))) (C9 U U (C9 U U (C4 B3)))) ?_
   rw[d3c u,v]
   rfl
  have j:numsOf w=none:=by simpa using a
  refine A6<|A3<|A0<|y_M U<|B4 U U U (fun _=>U) (by(change 0<_;omega))<|y_I U ?_
  refine xC1 U U (e4c (bA w)) ⟨U,U,U⟩ U U fun D=> ?_
  refine y_S U<|xN [0,2,7] [2] U<|A3<|A3<|A0<|y_M U<|F0 U U<|xN [0,2,7,34] [2] U ?_
  refine A4 U ?_ ?_<;>intro a<;>try simp only[SL]at a
  ·refine A3<|A0<|I3 (fs:=[_,_,_]) U U U U U<|xB U U U U U U U U U ?_
   (refine B1 U U (fun _=>U) ?_;intro g3)
   refine y_S U<|xN [2,3,4] [2,3] U<|A9<|B8 (F3 U U U U (D9 U (I5 U (I5 U G8))) (F9 U U (by simp) (by rfl) (C9 U U (C4 B3)))) ?_
   rw[e0o j (by omega)]
   rfl
  refine A6<|A3<|A0<|y_M U<|B4 U U U (fun _=>U) (by(change 0<_;omega))<|y_I U<|I3 (fs:=[_,_,_]) U U U U U<|y_A U (fun _=>U) ?_
  intro g8;refine xB U U U U U U U U U<|xN [0,2,7,8] [2,8] U<|A3<|A0 ?_
  rcases c6c (w:=bA w) (by omega)with l|l|l
  ·rw[l]
   refine y_M U<|N7 U U U (Mv.sized_map fun _=>U) J9 (G2 (n:=1) U) (by simp) ?_
   rw[show((ZA tV (w::b)).drop 1).take ((ZA tV (w::b)).length-1)=b.map tV from by rw[Zy,Yg,ZX,ZC (by simp)]];refine y_S U<|xN [2,7,8,9] [2,8] U<|A3<|A8<|H3<|A3<|A3<|A0<|y_M U<|M0 U U<|xN [2,7,8,9,43] [2,8] U ?_
   refine A4 U (fun a=>absurd a (by decide)) (fun a=> ?_);refine D5<|A3<|A0<|y_B U<|y_M U<|xB U U U U U U U U U<|y_S U<|y_S U<|xN [2,3,4] [2] U<|A9<|B8 (F3 U U U U (D9 U (I5 U (I5 U G8))) (C9 U U (C9 U U (C4 B3)))) ?_
   rw[e1d j l]
   rfl
  ·rw[l]
   refine y_M U<|N7 U U U (Mv.sized_map fun _=>U) J9 (G2 (n:=1) U) (by simp) ?_
   rw[show((ZA tV (w::b)).drop 1).take ((ZA tV (w::b)).length-1)=b.map tV from by rw[Zy,Yg,ZX,ZC (by simp)]];refine y_S U<|xN [2,7,8,9] [2,8] U<|A3<|A8<|H3<|A3<|A3<|A0<|y_M U<|M0 U U<|xN [2,7,8,9,43] [2,8] U ?_
   refine A4 U (fun a=> ?_) (fun a=>absurd a (by decide));refine A6<|A3<|A8<|A3<|A0<|y_M U ?_
   rcases c:rdT b with _|⟨E,B⟩
   ·skip
    apply xC U
    ·apply B0
     ·exact B2 U
     exact C8
    ·exact(by have i:=p b ⟨by simp only[Zg]at f;omega,fun x m=>f.2 x (Zn _ m)⟩ (by simp only[Zg]at g;omega);rw[c]at i;exact i)
    refine⟨⟨U,U,U,dT U,U⟩,.inl U,B6,G9 (J0 U (K5 fun _=>J0 U K6)),fun _=>C7 (B5 U) (by rfl),fun k=> ?_⟩;refine y_M U<|y_E U<|y_E U<|y_E U<|y_A U (fun _=>U) ?_
    intro g10;refine xB U U U U U U U U U ?_
    (refine H8 U U (by(simp;done)) U (fun _=>(B5 (by rfl))) (fun _=>U) ?_;intro g11)
    refine y_S U<|xN [2,7,8,10,11,12] [2,8,10] U<|A3<|A3<|A0<|y_M U<|H5 U<|xN [2,7,8,10,11,53] [2,8,10] U ?_
    refine A4 U (fun a=> ?_) (fun a=>absurd a (by decide));refine A3<|A0<|I3 (fs:=[_,_,_]) U U U U U<|xB U U U U U U U U U ?_
    (refine B1 U U (fun _=>U) ?_;intro g3)
    refine y_S U<|xN [2,3,4] [2,3] U<|A9<|B8 (F3 U U U U (D9 U (I5 U (I5 U G8))) (F9 U U (by simp) (by rfl) (C9 U U (C4 B3)))) ?_
    rw[c8s j l,c]
    rfl
   skip
   apply xC U
   ·apply B0
    ·exact B2 U
    exact C8
   ·exact(by have i:=p b ⟨by simp only[Zg]at f;omega,fun x m=>f.2 x (Zn _ m)⟩ (by simp only[Zg]at g;omega);rw[c]at i;exact i)
   refine⟨⟨U,U,U,dT U,U⟩,.inl U,B6,I7 U,fun _=>U,fun k=> ?_⟩;refine y_M U<|y_E U<|y_E U<|y_E U<|y_A U (fun _=>U) ?_
   intro g10;refine xB U U U U U U U U U<|y_S U<|y_S U<|xN [2,7,8,10,11,12] [2,8,10] U<|A3<|A3<|A0<|y_M U<|H5 U<|xN [2,7,8,10,11,53] [2,8,10] U ?_
   refine A4 U (fun a=>absurd a (by decide)) (fun a=> ?_);refine A6<|A3<|A0<|y_F U<|y_L U<|y_B U<|a4i (es:=ZA trV [_]) U U (dT U) U U (fun _=>B5 (A7 fun _=>U)) (fun _=>U) ?_
   intro q;refine U0 U U U (by simp) (by decide) U U U (dT U) (fun _=>⟨U,U⟩) (by simp only[H6];(simp only[Zs,Zg,Zl,ZI,Zh];omega)) (fun _=>U) ?_;intro s;refine y_F U<|N8 U U U U U (Zd _) U<|xN [2,7,8,11] [2,8,1000059] U<|A0<|y_M U<|y_S U<|xN [2,7,8,9] [2,8,1000059] U<|A0<|y_M U<|J8 U U (B9 (by omega))<|y_S U<|xN [2,7,8,9] [2,8,1000059] U<|H3<|A3<|A3<|A0<|y_M U<|M0 U U<|xN [2,7,8,9,43] [2,8,1000059] U ?_
   refine A4 U (fun a=>absurd a (by decide)) (fun a=> ?_);refine D5<|A3<|A0<|y_B U<|y_M U<|G0 U U U U (G5 U (G5 U (a0p (by decide) (by decide) U (by simp) fun _=>K1))) (fun _=>U) ⟨by decide,U,dT U,Zd _⟩ (fun _=>U) (fun _=>U) (fun _=>C7 (by rfl) (C7 (B5 (A7 fun _=>U)) (by rfl))) ?_
   intro z;simp only[J7,Zp,Zi];refine y_S U<|y_S U<|xN [2,3,4] [2,300002] U<|A9<|B8 (F3 U U U U (D9 U (I5 U (K8 U U (by simp) (fun _=>U) G8))) (C9 U U (C9 U U (C4 B3)))) ?_
   rw[c8s j l,c]
   rfl
  rw[l];refine y_M U<|N7 U U U (Mv.sized_map fun _=>U) J9 (G2 (n:=1) U) (by simp) ?_
  rw[show((ZA tV (w::b)).drop 1).take ((ZA tV (w::b)).length-1)=b.map tV from by rw[Zy,Yg,ZX,ZC (by simp)]];refine y_S U<|xN [2,7,8,9] [2,8] U<|A3<|A8<|H3<|A3<|A3<|A0<|y_M U<|M0 U U<|xN [2,7,8,9,43] [2,8] U ?_
  refine A4 U (fun a=> ?_) (fun a=>absurd a (by decide));refine A6<|A3<|A8<|A3<|A0<|y_M U ?_
  rcases c:rdT b with _|⟨E,B⟩
  ·skip
   apply xC U
   ·apply B0
    ·exact B2 U
    exact C8
   ·exact(by have i:=p b ⟨by simp only[Zg]at f;omega,fun x m=>f.2 x (Zn _ m)⟩ (by simp only[Zg]at g;omega);rw[c]at i;exact i)
   refine⟨⟨U,U,U,dT U,U⟩,.inl U,B6,G9 (J0 U (K5 fun _=>J0 U K6)),fun _=>C7 (B5 U) (by rfl),fun k=> ?_⟩;refine y_M U<|y_E U<|y_E U<|y_E U<|y_A U (fun _=>U) ?_
   intro g10;refine xB U U U U U U U U U ?_
   (refine H8 U U (by(simp;done)) U (fun _=>(B5 (by rfl))) (fun _=>U) ?_;intro g11)
   refine y_S U<|xN [2,7,8,10,11,12] [2,8,10] U<|A3<|A3<|A0<|y_M U<|H5 U<|xN [2,7,8,10,11,53] [2,8,10] U ?_
   refine A4 U (fun a=> ?_) (fun a=>absurd a (by decide));refine A3<|A0<|I3 (fs:=[_,_,_]) U U U U U<|xB U U U U U U U U U ?_
   (refine B1 U U (fun _=>U) ?_;intro g3)
   refine y_S U<|xN [2,3,4] [2,3] U<|A9<|B8 (F3 U U U U (D9 U (I5 U (I5 U G8))) (F9 U U (by simp) (by rfl) (C9 U U (C4 B3)))) ?_
   rw[a9k j l,c]
   rfl
  skip
  apply xC U
  ·apply B0
   ·exact B2 U
   exact C8
  ·exact(by have i:=p b ⟨by simp only[Zg]at f;omega,fun x m=>f.2 x (Zn _ m)⟩ (by simp only[Zg]at g;omega);rw[c]at i;exact i)
  refine⟨⟨U,U,U,dT U,U⟩,.inl U,B6,I7 U,fun _=>U,fun k=> ?_⟩;refine y_M U<|y_E U<|y_E U<|y_E U<|y_A U (fun _=>U) ?_
  intro g10;refine xB U U U U U U U U U<|y_S U<|y_S U<|xN [2,7,8,10,11,12] [2,8,10] U<|A3<|A3<|A0<|y_M U<|H5 U<|xN [2,7,8,10,11,53] [2,8,10] U ?_
  refine A4 U (fun a=>absurd a (by decide)) (fun a=> ?_);refine A6<|A3<|A0<|y_F U<|y_L U<|y_B U<|a4i (es:=ZA trV [_]) U U (dT U) U U (fun _=>B5 (A7 fun _=>U)) (fun _=>U) ?_
  intro q;refine U0 U U U (by simp) (by decide) U U U (dT U) (fun _=>⟨U,U⟩) (by simp only[H6];(simp only[Zs,Zg,Zl,ZI,Zh];omega)) (fun _=>U) ?_;intro s;refine y_F U<|N8 U U U U U (Zd _) U<|xN [2,7,8,11] [2,8,1000059] U<|A0<|y_M U<|y_S U<|xN [2,7,8,9] [2,8,1000059] U<|A0<|y_M U<|J8 U U (B9 (by omega))<|y_S U<|xN [2,7,8,9] [2,8,1000059] U<|H3<|A3<|A3<|A0<|y_M U<|M0 U U<|xN [2,7,8,9,43] [2,8,1000059] U ?_
  refine A4 U (fun a=> ?_) (fun a=>absurd a (by decide));refine A6<|A3<|A8<|A3<|A0<|y_M U ?_
  rcases o:rdT B with _|⟨F,G⟩
  ·skip
   apply xC U
   ·apply B0
    ·exact B2 U
    exact C8
   ·exact(by have i:=p B ⟨by have:=a1q c;simp only[Zg]at f;omega,fun x m=>f.2 x (Zn _ (b7j c x m))⟩ (by have:=a1q c;simp only[Zg]at g;omega);rw[o]at i;exact i)
   refine⟨⟨U,U,U,dT U,U⟩,.inl U,B6,G9 (J0 U (K5 fun _=>J0 U K6)),fun _=>C7 (B5 U) (by rfl),fun k=> ?_⟩;refine y_M U<|y_E U<|y_E U<|y_E U<|y_A U (fun _=>U) ?_
   intro g10;refine xB U U U U U U U U U ?_
   (refine H8 U U (by(simp;done)) U (fun _=>(B5 (by rfl))) (fun _=>U) ?_;intro g11)
   refine y_S U<|xN [2,7,8,10,11,12] [2,8,1000059,10] U<|A3<|A3<|A0<|y_M U<|H5 U<|xN [2,7,8,10,11,53] [2,8,1000059,10] U ?_
   refine A4 U (fun a=> ?_) (fun a=>absurd a (by decide));refine A3<|A0<|I3 (fs:=[_,_,_]) U U U U U<|xB U U U U U U U U U ?_
   (refine B1 U U (fun _=>U) ?_;intro g3)
   refine y_S U<|xN [2,3,4] [2,3] U<|A9<|B8 (F3 U U U U (D9 U (I5 U (I5 U G8))) (F9 U U (by simp) (by rfl) (C9 U U (C4 B3)))) ?_
   rw[a9k j l,c,Zk,o]
   rfl
  skip
  apply xC U
  ·apply B0
   ·exact B2 U
   exact C8
  ·exact(by have i:=p B ⟨by have:=a1q c;simp only[Zg]at f;omega,fun x m=>f.2 x (Zn _ (b7j c x m))⟩ (by have:=a1q c;simp only[Zg]at g;omega);rw[o]at i;exact i)
  refine⟨⟨U,U,U,dT U,U⟩,.inl U,B6,I7 U,fun _=>U,fun k=> ?_⟩;refine y_M U<|y_E U<|y_E U<|y_E U<|y_A U (fun _=>U) ?_
  intro g10;refine xB U U U U U U U U U<|y_S U<|y_S U<|xN [2,7,8,10,11,12] [2,8,1000059,10] U<|A3<|A3<|A0<|y_M U<|H5 U<|xN [2,7,8,10,11,53] [2,8,1000059,10] U ?_
  refine A4 U (fun a=>absurd a (by decide)) (fun a=> ?_);refine A6<|A3<|A0<|y_F U<|y_L U<|y_B U<|a4i (es:=ZA trV [_]) U U (dT U) U U (fun _=>B5 (A7 fun _=>U)) (fun _=>U) ?_
  intro q;refine xA U U U U (by simp) (by simp) U U U U U (fun _=>U) (by simp only[LN];omega) (fun _=>U) ?_;intro s;refine y_F U<|N8 U U U U U (Zd _) U<|xN [2,7,8,11] [2,8,1000059] U<|A0<|y_M U<|y_S U<|xN [2,7,8,9] [2,8,1000059] U<|A0<|y_M U<|J8 U U (B9 (by omega))<|y_S U<|xN [2,7,8,9] [2,8,1000059] U<|H3<|A3<|A3<|A0<|y_M U<|M0 U U<|xN [2,7,8,9,43] [2,8,1000059] U ?_
  refine A4 U (fun a=>absurd a (by decide)) (fun a=> ?_);refine D5<|A3<|A0<|y_B U<|y_M U<|G0 U U U U (G5 U (G5 U (a0p (by decide) (by decide) U (by simp) fun _=>K1))) (fun _=>U) ⟨by decide,U,dT U,Zd _⟩ (fun _=>U) (fun _=>U) (fun _=>C7 (by rfl) (C7 (B5 (A7 fun _=>U)) (by rfl))) ?_
  intro z;simp only[J7,Zp,Zi];refine y_S U<|y_S U<|xN [2,3,4] [2,300002] U<|A9<|B8 (F3 U U U U (D9 U (I5 U (K8 U U (by simp) (fun _=>U) G8))) (C9 U U (C9 U U (C4 B3)))) ?_
  rw[a9k j l,c,Zk,o]
  rfl
theorem b6h:D8 Tryz.f22=[0,2,3,4,17,6,7,5,21]:=by kernel_rfl
theorem b9f(s:List UInt8)(m:s.length<=1048576):CW (cxT oG) 22 [tV s]=some (.tup [trV (rpT s),bV (rdPlan s).isSome],[]):=by
 obtain⟨ws,a⟩:∃ws,ws=splitB 32 s:=⟨_,U⟩;have k:=Y0 32 s;have e:=Z8 32 s;rw[<-a]at k e;refine C5 U Tryz.func22 U ⟨by kernel_rfl,U,dT U,dT U,by decide⟩ b6h<|A3<|A0<|y_A U (fun _=>U) ?_
 intro g2;refine y_S U<|xN [0,2] [2] U<|A3<|A0<|y_M U ?_
 apply xC U
 ·apply B0
  ·exact B2 U
  apply B0
  ·exact B2 U
  exact C8
 ·exact c5d s (by omega) 32
 refine⟨⟨U,U,U,dT U,U⟩,.inl U,B6,G6,fun _=>U,fun g9=> ?_⟩;rw[<-a]
 try simp only[Zh]
 (refine xO U U (by simp) U (fun _=>U) (fun _=>U) ?_;intro g4)
 refine xN [0,2,4] [2,4] U<|A3<|A3<|A0<|y_M U<|a3l U U<|M0 U U<|y_M U ?_
 refine D3 U U ?_ ?_<;>intro j<;>have l:=j<;>try simp only[SG]at l
 ·refine y_M U<|gT U U<|H2 U U<|gT U U<|M0 U U<|E8 U (by assumption) U U<|xN [2,4,17] [2,4] U ?_
  refine A4 U ?_ ?_<;>intro h<;>try simp only[SL]at h
  ·refine A3<|A0<|I3 (fs:=[_,_,_]) U U U U U<|xB U U U U U U U U U<|y_S U<|xN [2,3] [2] U<|A9<|B8 (F3 U U U U (D9 U (I5 U (I5 U G8))) (C9 U U (C4 B3))) ?_
   obtain⟨b,c⟩:=b9g (s:=s) (by rw[a]at*;omega);rw[b,c]
   rfl
  have g:=e4k a (by omega);refine A6<|A3<|A0<|y_M U ?_
  rcases i:rdT ws with _|⟨t,r⟩
  ·skip
   apply xC U
   ·apply B0
    ·exact a3o U U (by(simp;done)) (fun _=>U)
    exact C8
   ·exact(by have f:=b9l (oG:=oG) ws ⟨by omega,fun w hw=>by have:=e w hw;omega⟩;rw[i]at f;exact f)
   refine⟨⟨U,U,U,dT U,U⟩,.inl U,B6,G9 (J0 U (K5 fun _=>J0 U K6)),fun _=>C7 (P8 (A7 fun _=>U) (by decide)) (by rfl),fun g21=> ?_⟩;refine y_M U<|y_E U<|y_E U<|y_E U<|y_A U (fun _=>U) ?_
   intro g5;refine xB U U U U U U U U U ?_
   (refine H8 U U (by(simp;done)) U (fun _=>(B5 (by rfl))) (fun _=>U) ?_;intro g6)
   refine y_S U<|xN [2,5,6,7] [2,5] U<|A3<|A0<|y_B U<|y_M U<|y_M U<|H4 U U U<|H4 U U U<|H4 U U U<|E8 U U U U<|xB U U U U U U U U U<|y_S U<|xN [2,3] [2] U<|A9<|B8 (F3 U U U U (D9 U (D9 U (D9 U G8))) (C9 U U (C4 B3))) ?_
   obtain⟨b,c⟩:=g.1 i;rw[b,c]
   rfl
  skip
  apply xC U
  ·apply B0
   ·exact a3o U U (by(simp;done)) (fun _=>U)
   exact C8
  ·exact(by have f:=b9l (oG:=oG) ws ⟨by omega,fun w hw=>by have:=e w hw;omega⟩;rw[i]at f;exact f)
  refine⟨⟨U,U,U,dT U,U⟩,.inl U,B6,I7 U,fun _=>C7 (P8 (A7 fun _=>U) (by decide)) (by rfl),fun g21=> ?_⟩;refine y_M U<|y_E U<|y_E U<|y_E U<|y_A U (fun _=>U) ?_
  intro g5;refine xB U U U U U U U U U<|y_S U<|y_S U<|xN [2,5,6,7] [2,5] U<|A3<|A0<|y_B U<|y_M U<|y_M U<|H1 U U U<|y_M U<|H1 U U U<|B7 U U<|H1 U U U<|M9 U U<|E9 U U U U<|xB U U U U U U U U U<|y_S U<|xN [2,3] [2] U<|A9<|B8 (F3 U U U U (D9 U (D9 U (D9 U G8))) (C9 U U (C4 B3))) ?_
  obtain⟨b,c⟩:=g.2 t r i;rw[b,c]
  rfl
 refine gF U U<|gF U U<|E9 U (by assumption) U U<|xN [2,4,17] [2,4] U ?_
 refine A4 U (fun h=> ?_) (fun h=>absurd h (by decide));refine A3<|A0<|I3 (fs:=[_,_,_]) U U U U U<|xB U U U U U U U U U<|y_S U<|xN [2,3] [2] U<|A9<|B8 (F3 U U U U (D9 U (I5 U (I5 U G8))) (C9 U U (C4 B3))) ?_
 obtain⟨b,c⟩:=b9g (s:=s) (by rw[a]at*;omega);rw[b,c]
 rfl
theorem c0a:D8 Tryz.f77=[0,2,8,7,9,6,5,3]:=by kernel_rfl
theorem b4h(ns:List Int)(s:ns.length<=1000000)(e:∀n∈ns,-1000000<=n/\n<=1000000):CW (cxT oG) 77 [L ns]=some (tV (O6 ns),[]):=by
 have l:=fun(i:Nat) (h:i<ns.length)=>e _ (M7 h)
 have p:=Z6 (ns:=ns) e;refine C5 U Tryz.func77 U ⟨by kernel_rfl,U,dT U,dT U,by decide⟩ c0a<|A3<|A0<|y_S U<|xN [0] [] U<|A3<|A0 ?_
 (refine B1 U U (fun _=>U) ?_;intro g3)
 refine xN [0,3] [3] U<|A3<|A3<|A0<|y_M U<|B7 U U<|y_M U<|xN [3,6,7,8] [3] U<|A8<|D7 (β:=Nat×List (List UInt8)×Nat) [(.t 6,_),(.t 7,_)] (fun(z:Nat×List (List UInt8)×Nat)=>match z with|(i,a,g)=>[(.t 8,iV i),(.t 3,.sl 3 g none 0 a.length),(.h 3,.obj g 0 1 (a.map tV))]) (fun(z:Nat×List (List UInt8)×Nat)=>match z with|(i,a,g)=>i<=ns.length/\a=(ns.take i).map dec) (fun(z:Nat×List (List UInt8)×Nat)=>match z with|(i,a,g)=>ns.length-i) (0,[],_) ⟨U,U,U,U,U,trivial⟩ ⟨Zt _,U⟩ ?_
 intro z j;obtain⟨i,a,g⟩:=z
 try dsimp only at j
 obtain⟨o,b⟩:=j;have q:a.length=i:=by rw[b];simp;omega
 refine A3<|A0<|F0 U U<|xN [3,6,7,8,9] [3] U<|A3 ?_
 refine A4 U ?_ ?_<;>intro k<;>try simp only[SL]at k
 ·refine A6<|A3<|A8<|A3<|A0<|B4 U U U (fun _=>U) (by omega)<|y_I U<|y_S U<|xN [3,5,6,7,8] [3] U<|A0<|y_M U<|y_M U ?_
  have m:=l i (by omega);refine xC1 U U (b0q (ns.getD i default) (by omega)) ⟨U,U,U⟩ U U fun g14=> ?_
  refine C0 (es:=ZA tV [_]) U U (dT U) U U (fun _=>B5 (A7 fun _=>U)) (fun _=>U) ?_;intro g15;refine xA U U U U (by simp) (by simp) U U U U U (fun _=>U) (by simp only[LN];omega) (fun _=>U) ?_;intro g16
  (refine xO U U (by simp) U (fun _=>U) (fun _=>U) ?_;intro g3)
  refine xN [3,6,7,8] [3] U<|A0<|D6 U U (B9 (by omega))<|y_M U<|xN [3,6,7,8] [3] U ?_
  refine⟨(i+1,a++[dec (ns.getD i default)],_),?_,(by simp only;omega),⟨U,U,U,U,U,trivial⟩⟩;exact⟨by omega,by rw[b,<-c2s (by omega)]⟩
 refine D5<|A3<|A0<|y_M U ?_
 have f:a=ns.map dec:=by rw[b,ZC (by omega)]
 have c:joinB 44 a=O6 ns:=by rw[f];rfl
 apply xC U
 ·apply B0
  ·exact E6 U U U (by(simp;done)) (fun _=>U)
  apply B0
  ·exact B2 U
  exact C8
 ·exact d9g a 44 (by simp only[H6];omega) (by rw[c];simp only[H6];omega)
 refine⟨⟨U,U,U,dT U,U⟩,.inr ⟨U,U⟩,B6,F7 U,fun _=>U,fun g19=> ?_⟩;refine y_S U<|xN [2] [] U<|A9<|C2 U U trivial ?_
 rw[c]
theorem b3j:D8 Tryz.f124=[0,2]:=by kernel_rfl
theorem a7v(ns:List Int)(b:ns.length<=1000000)(a:∀n∈ns,-1000000<=n/\n<=1000000):CW (cxT oG) 124 [L ns]=some (tV (R9 ns),[]):=by
 have c:=Z6 (ns:=ns) a;refine C5 U Tryz.func124 U ⟨by kernel_rfl,U,dT U,dT U,by decide⟩ b3j<|A3<|A0<|y_S U<|xN [0] [] U<|A3<|A0<|y_M U ?_
 refine xC1 U U (b4h ns b a) ⟨U,U,U⟩ U U fun g4=> ?_
 iterate 2 refine N6 U U (by simp only[H6,Zl,Zg,Zs];omega) ?_
 refine y_S U<|xN [2] [] U<|A9<|C2 U U trivial ?_
 rfl
theorem b4u:D8 Tryz.f165=[0,2,3,4,6,5,27,29,33,32,34,31,9,11,43,10,7]:=by kernel_rfl
theorem d1f(w:List UInt8)(S:w.length<=1048576):CW (cxT oG) 165 [tV w]=some (.tup [.own 1 ((rlX w).map iV),bV (okI w)],[]):=by
 have L:=e8l 91 w;have M:=e6t 93 (a6m 91 w);refine C5 U Tryz.func165 U ⟨by kernel_rfl,U,dT U,dT U,by decide⟩ b4u<|A3<|A0 ?_
 (refine B1 U U (fun _=>U) ?_;intro g2)
 refine y_S U<|xN [0] [] U<|A3<|A0<|y_M U ?_
 apply xC U
 ·apply B0
  ·exact B2 U
  apply B0
  ·exact B2 U
  exact C8
 ·exact f3l w 91
 refine⟨⟨U,U,U,dT U,U⟩,.inl U,B6,I7 U,fun _=>U,fun g14=> ?_⟩;refine y_M U<|y_E U<|y_E U<|y_S U<|y_S U<|xN [0,4,5] [] U<|A3<|A0<|y_M U ?_
 apply xC U
 ·apply B0
  ·exact B2 U
  apply B0
  ·exact B2 U
  exact C8
 ·exact f3m (a6m 91 w) 93 (by omega)
 refine⟨⟨U,U,U,dT U,U⟩,.inl U,B6,I7 U,fun _=>U,fun g19=> ?_⟩;refine y_M U<|y_E U<|y_E U<|y_S U<|y_S U<|xN [0,4,5,6] [] U<|A3<|A3<|A0<|y_M U<|H5 U<|y_M U ?_
 refine D3 U U ?_ ?_<;>intro l<;>have o:=l<;>try simp only[SG]at o
 ·refine y_M U<|gT U U<|H5 U<|E8 U (by assumption) U U<|xN [0,4,27] [] U ?_
  refine A4 U ?_ ?_<;>intro b<;>try simp only[SL]at b
  ·refine A3<|A0 ?_
   (refine B1 U U (fun _=>U) ?_;intro g2)
   refine y_S U<|xN [2,3] [2] U<|A9<|B8 (F9 U U (by simp) (by rfl) (C9 U U (C4 B3))) ?_
   obtain⟨c,e⟩:=c8k (d2f (w:=w) (by simp_all[okB]));rw[c,e]
   rfl
  have f:okB w=true:=by simp[okB];constructor<;>assumption
  obtain⟨n,a⟩:∃n,n=splitB 44 (a7l w):=⟨_,U⟩;have E:=Y0 44 (a7l w);have u:=Z8 44 (a7l w);rw[<-a]at E u;have O:=e8k f;refine A6<|A3<|A0 ?_
  (refine B1 U U (fun _=>U) ?_;intro g7)
  refine xN [0,4,7] [7] U<|A3<|A3<|A0<|y_M U<|b5c U U<|xN [0,4,7,29] [7] U ?_
  refine A4 U ?_ ?_<;>intro b<;>try simp only[SL]at b
  ·have p:a7l w≠[]:=b
   refine A3<|A0<|y_M U ?_
   have F:=a;apply a0z U
   ·apply B0
    ·exact B2 U
    apply B0
    ·exact B2 U
    exact C8
   ·exact d0i (a7l w) 44 (by unfold a7l;omega)
   ·exact⟨U,U,U,dT U,U⟩
   ·exact .inl U
   ·exact B6
   ·exact G6
   ·(intro _;exact C7 (B5 (A7 fun _=>U)) U)
   intro I;rw[<-F]
   try simp only[Zh]
   refine H2 U U<|y_M U<|xN [0,7,31,32,33] [7,1000031] U<|A8<|D7 (β:=Nat×List Int×Nat) [(.t 0,_),(.t 31,_),(.t 32,_),(.h 1000031,_)] (fun(z:Nat×List Int×Nat)=>match z with|(i,ns,g)=>[(.t 33,iV i),(.t 7,.sl 7 g none 0 ns.length),(.h 7,.obj g 0 1 (ns.map iV))]) (fun(z:Nat×List Int×Nat)=>match z with|(i,ns,g)=>i<=n.length/\rdA (n.take i)=some ns) (fun(z:Nat×List Int×Nat)=>match z with|(i,ns,g)=>n.length-i) (0,[],_) ⟨U,U,U,U,U,U,U,trivial⟩ ⟨Zt _,U⟩ ?_
   intro z H;obtain⟨i,ns,g⟩:=z
   try dsimp only at H
   obtain⟨N,k⟩:=H;have P:=fun h:i<n.length=>u _ (L8 h)
   have D:=c1g k;rw[ZU]at D;refine A3<|A0<|F0 U U<|xN [0,7,31,32,33,34] [7,1000031] U<|A3 ?_
   refine A4 U ?_ ?_<;>intro b<;>try simp only[SL]at b
   ·refine A6<|A3<|A8<|A3<|A0<|C6 U U U U (by omega) (by(simp;done)) U<|E4 U U (by omega) (fun _=>U) (fun _=>U) U<|y_S U<|xN [0,7,9,31,32,33] [7,1000031] U<|A3<|A0<|y_M U ?_
    rcases j:Lib.atoiAll (n.getD i default)with v|_|_
    ·skip
     apply xC U
     ·apply B0
      ·exact B2 U
      exact C8
     ·exact(by have m:=d7d (oG:=oG) (n.getD i default) (by omega);unfold atR at m;rw[j]at m;exact m)
     refine⟨⟨U,U,U,dT U,U⟩,.inl U,B6,I7 U,fun _=>U,fun q=> ?_⟩;refine y_M U<|y_E U<|y_E U<|y_S U<|y_S U<|xN [0,7,10,11,31,32,33] [7,1000031] U<|A3<|A3<|A0<|y_M U<|e6s U U U U<|xN [0,7,10,31,32,33,43] [7,1000031] U ?_
     refine A4 U (fun b=>absurd b (by decide)) (fun b=> ?_);refine A6<|A0<|y_M U<|y_M U<|C0 (es:=ZA iV [_]) U U (dT U) U U (fun _=>B5 (A7 fun _=>U)) (fun _=>U) ?_
     intro J;refine xA U U U U (by simp) (by simp) U U U U U (fun _=>U) (by simp only[LN];omega) (fun _=>U) ?_;intro K
     (refine xO U U (by simp) U (fun _=>U) (fun _=>U) ?_;intro g7)
     refine xN [0,7,31,32,33] [7,1000031] U<|A0<|D6 U U (B9 (by omega))<|y_M U<|xN [0,7,31,32,33] [7,1000031] U ?_
     refine⟨(i+1,ns++[v],_),?_,(by simp only;omega),⟨U,U,U,U,U,U,U,trivial⟩⟩;exact⟨by omega,e9w (by omega) k j⟩
    ·skip
     apply xC U
     ·apply B0
      ·exact B2 U
      exact C8
     ·exact(by have m:=d7d (oG:=oG) (n.getD i default) (by omega);unfold atR at m;rw[j]at m;exact m)
     refine⟨⟨U,U,U,dT U,U⟩,.inl U,B6,I7 U,fun _=>U,fun q=> ?_⟩;refine y_M U<|y_E U<|y_E U<|y_S U<|y_S U<|xN [0,7,10,11,31,32,33] [7,1000031] U<|A3<|A3<|A0<|y_M U<|d3m U U U<|xN [0,7,10,31,32,33,43] [7,1000031] U ?_
     refine A4 U (fun b=> ?_) (fun b=>absurd b (by decide));refine A3<|A0 ?_
     (refine B1 U U (fun _=>U) ?_;intro g2)
     refine y_S U<|xN [2,3] [2] U<|A9<|B8 (F9 U U (by simp) (by rfl) (C9 U U (C4 B3))) ?_
     obtain⟨c,e⟩:=c8k (w:=w) (by rw[b7b f p,<-a];exact d2k (i:=i) (by omega) (by intro v x;rw[j]at x;cases x));rw[c,e]
     rfl
    skip
    apply xC U
    ·apply B0
     ·exact B2 U
     exact C8
    ·exact(by have m:=d7d (oG:=oG) (n.getD i default) (by omega);unfold atR at m;rw[j]at m;exact m)
    refine⟨⟨U,U,U,dT U,U⟩,.inl U,B6,I7 U,fun _=>U,fun q=> ?_⟩;refine y_M U<|y_E U<|y_E U<|y_S U<|y_S U<|xN [0,7,10,11,31,32,33] [7,1000031] U<|A3<|A3<|A0<|y_M U<|d3m U U U<|xN [0,7,10,31,32,33,43] [7,1000031] U ?_
    refine A4 U (fun b=> ?_) (fun b=>absurd b (by decide));refine A3<|A0 ?_
    (refine B1 U U (fun _=>U) ?_;intro g2)
    refine y_S U<|xN [2,3] [2] U<|A9<|B8 (F9 U U (by simp) (by rfl) (C9 U U (C4 B3))) ?_
    obtain⟨c,e⟩:=c8k (w:=w) (by rw[b7b f p,<-a];exact d2k (i:=i) (by omega) (by intro v x;rw[j]at x;cases x));rw[c,e]
    rfl
   refine D5<|A3<|A0<|y_M U<|y_M U ?_
   apply xC U
   ·apply B0
    ·exact E6 U U U (by(simp;done)) (fun _=>U)
    exact C8
   ·exact S9 ns (by omega)
   refine⟨⟨U,U,U,dT U,U⟩,.inr ⟨U,U⟩,B6,F7 U,fun _=>U,fun y=> ?_⟩;refine y_M U ?_;refine D3 U U ?_ ?_<;>intro l<;>have o:=l<;>try simp only[SG]at o
   ·refine y_M U<|gT U U ?_
    (have C:=e1e (ns:=ns) (by assumption);have R:=a4j (show vd ns=true by assumption))
    apply xC U
    ·apply B0
     ·exact E6 U U U (by(simp;done)) (fun _=>U)
     exact C8
    ·exact a7v ns (by omega) C
    refine⟨⟨U,U,U,dT U,U⟩,.inr ⟨U,U⟩,B6,F7 U,fun _=>U,fun B=> ?_⟩;refine gT U U<|y_M U<|gT U U<|H0 U U<|E9 U (by assumption) U U ?_
    (refine xO U U (by simp) U (fun _=>U) (fun _=>U) ?_;intro g2)
    refine y_S U<|xN [2,3] [2] U<|A9<|B8 (F9 U U (by simp) (by exact A7 fun _=>U) (C9 U U (C4 B3))) ?_
    (have G:=p;obtain⟨c,e⟩:=b1c (ns:=ns) (w:=w) (by rw[b7b f G,<-a];rw[ZC (by omega)]at k;exact k))
    (rw[c,e,o,Bool.true_and];rfl)
   refine gF U U<|gF U U<|gF U U<|E8 U (by assumption) U U ?_
   (refine xO U U (by simp) U (fun _=>U) (fun _=>U) ?_;intro g2)
   refine y_S U<|xN [2,3] [2] U<|A9<|B8 (F9 U U (by simp) (by exact A7 fun _=>U) (C9 U U (C4 B3))) ?_
   (have G:=p;obtain⟨c,e⟩:=b1c (ns:=ns) (w:=w) (by rw[b7b f G,<-a];rw[ZC (by omega)]at k;exact k))
   (rw[c,e,o,Bool.false_and];rfl)
  have s:a7l w=[]:=b;refine A6<|A3<|A0<|y_M U<|y_M U ?_
  apply xC U
  ·apply B0
   ·exact b7d U U U U U
   exact C8
  ·exact S9 [] (by decide)
  refine⟨⟨U,U,U,dT U,U⟩,.inr ⟨U,U⟩,B6,F7 U,fun _=>U,fun y=> ?_⟩;refine y_M U ?_;refine D3 U U ?_ ?_<;>intro l<;>have o:=l<;>try simp only[SG]at o
  ·refine y_M U<|gT U U ?_
   skip
   apply xC U
   ·apply B0
    ·exact b7d U U U U U
    exact C8
   ·exact a7v [] (by decide) (by simp)
   refine⟨⟨U,U,U,dT U,U⟩,.inr ⟨U,U⟩,B6,F7 U,fun _=>U,fun B=> ?_⟩;refine gT U U<|y_M U<|gT U U<|H0 U U<|E9 U U U U ?_
   (refine H8 U U (by(simp;done)) U (fun _=>(B5 (by rfl))) (fun _=>U) ?_;intro g2)
   refine y_S U<|xN [2,3] [2] U<|A9<|B8 (F9 U U (by simp) (by rfl) (C9 U U (C4 B3))) ?_
   obtain⟨c,e⟩:=b1c (ns:=[]) (w:=w) (e2b f s)
   (rw[c,e,o,Bool.true_and];rfl)
  refine gF U U<|gF U U<|gF U U<|E8 U (by assumption) U U ?_
  (refine H8 U U (by(simp;done)) U (fun _=>(B5 (by rfl))) (fun _=>U) ?_;intro g2)
  refine y_S U<|xN [2,3] [2] U<|A9<|B8 (F9 U U (by simp) (by rfl) (C9 U U (C4 B3))) ?_
  obtain⟨c,e⟩:=b1c (ns:=[]) (w:=w) (e2b f s)
  (rw[c,e,o,Bool.false_and];rfl)
 refine gF U U<|E9 U (by assumption) U U<|xN [0,4,27] [] U ?_
 refine A4 U (fun b=> ?_) (fun b=>absurd b (by decide));refine A3<|A0 ?_
 (refine B1 U U (fun _=>U) ?_;intro g2)
 refine y_S U<|xN [2,3] [2] U<|A9<|B8 (F9 U U (by simp) (by rfl) (C9 U U (C4 B3))) ?_
 obtain⟨c,e⟩:=c8k (d2f (w:=w) (by simp_all[okB]));rw[c,e]
 rfl
theorem b6a:D8 Tryz.f149=[0,2,3,4,6,12,5]:=by kernel_rfl
theorem a3h(w:List UInt8)(j:w.length<=1048576):CW (cxT oG) 149 [tV w]=some (.tup [tV (if(numsOf w).isSome=true then lW else w),.own 1 (((numsOf w).getD []).map iV),bV ((numsOf w).isSome||decide (0<=rch (bA w)))],[]):=by
 refine C5 U Tryz.func149 U ⟨by kernel_rfl,U,dT U,dT U,by decide⟩ b6a<|A3<|A0<|y_S U ?_
 (refine B1 U U (fun _=>U) ?_;intro g3)
 refine y_S U<|xN [0] [] U<|A3<|A3<|A0<|y_M U ?_
 apply xC U
 ·apply B0
  ·exact B2 U
  exact C8
 ·exact(by have h:=d1f (oG:=oG) w j;rw[f4b]at h;exact h)
 refine⟨⟨U,U,U,dT U,U⟩,.inr ⟨H9 _ _,U⟩,B6,G9 (K5 fun _=>J0 U K6),fun _=>U,fun g9=> ?_⟩;simp only[Zh];refine y_M U<|y_E U<|y_E U ?_
 (refine xO U U (by simp) U (fun _=>U) (fun _=>U) ?_;intro g5)
 refine y_S U<|xN [0,5,6] [5] U<|A3<|A0<|y_M U<|xN [0,5,12] [5] U ?_
 refine A4 U ?_ ?_<;>intro f<;>try simp only[SL]at f
 ·obtain⟨ns,b⟩:=ZS.1 f
  have c:=f3x b;refine A3<|A0<|y_M U<|y_S U ?_
  (refine xO U U (by simp) U (fun _=>U) (fun _=>U) ?_;intro g3)
  refine y_S U<|xN [2,3,4] [3] U<|A9<|B8 (C9 U U (F9 U U (by simp) (by exact A7 fun _=>U) (C9 U U (C4 B3)))) ?_
  rw[b,c]
  rfl
 have a:numsOf w=none:=by simpa using f
 have e:=f1g w;refine A6<|A3<|A0<|y_M U<|y_M U<|b5c U U<|y_M U ?_
 refine D3 U U ?_ ?_<;>intro g<;>have i:=g<;>try simp only[SG]at i
 ·refine y_M U<|gT U U ?_
  refine xC1 U U (b2j (bA w)) ⟨U,U,U⟩ U U fun g19=> ?_
  refine gT U U<|c0e U U<|E9 U (by assumption) U U<|y_S U ?_
  (refine B1 U U (fun _=>U) ?_;intro g3)
  refine y_S U<|xN [2,3,4] [3] U<|A9<|B8 (C9 U U (F9 U U (by simp) (by rfl) (C9 U U (C4 B3)))) ?_
  rw[a,<-e];simp_all
  try rfl
 refine gF U U<|gF U U<|E8 U (by assumption) U U<|y_S U ?_
 (refine B1 U U (fun _=>U) ?_;intro g3)
 refine y_S U<|xN [2,3,4] [3] U<|A9<|B8 (C9 U U (F9 U U (by simp) (by rfl) (C9 U U (C4 B3)))) ?_
 rw[a,<-e];simp_all
 try rfl
theorem b4p:D8 Tryz.f123=[0,2,3,4,15,7,26,6,5,35,34,36,9,12,44,8,10,11,39,50]:=by kernel_rfl
theorem b5h(ws:List W8)(g:ws.length<=1048600/\∀w∈ws,w.length<=1048576):CW (cxT oG) 123 [.list (ws.map tV)]=some (rtR (rdT ws),[]):=by
 obtain⟨y,j⟩:∃y:Nat,ws.length<y:=⟨_,ZK _⟩;revert ws
 induction y with
 |zero=>intro ws g j;exact absurd j (Yy _)
 |succ y q=>
  intro ws g j;refine C5 U Tryz.func123 U ⟨by kernel_rfl,U,dT U,dT U,by decide⟩ b4p<|A3<|A0<|y_A U (fun _=>U) ?_
  intro g2
  (refine B1 U U (fun _=>U) ?_;intro g3)
  refine y_S U<|xN [0,2] [2] U<|A3<|A3<|A0<|y_M U<|B7 U U<|M9 U U<|xN [0,2,15] [2] U ?_
  refine A4 U ?_ ?_<;>intro a<;>try simp only[SL]at a
  ·have C:ws=[]:=ZT.1 (by simpa using a)
   subst C;refine A3<|A0<|I3 (fs:=[_,_,_]) U U U U U<|xB U U U U U U U U U ?_
   (refine B1 U U (fun _=>U) ?_;intro g3)
   refine y_S U<|xN [2,3,4] [2,3] U<|A9<|B8 (F3 U U U U (D9 U (I5 U (I5 U G8))) (F9 U U (by simp) (by rfl) (C9 U U (C4 B3)))) ?_
   rfl
  obtain⟨w,b,rfl⟩:∃w b,ws=w::b:=List.exists_cons_of_ne_nil (fun e=>by subst e;simp at a);have hw:=g.2 w (by simp);refine A6<|A3<|A0<|y_M U<|B4 U U U (fun _=>U) (by(change 0<_;omega))<|y_I U ?_
  rcases e7h w with⟨ns,v⟩|⟨i,k⟩|⟨i,k⟩|⟨i,k⟩|⟨i,k⟩
  ·skip
   apply xC U
   ·apply B0
    ·exact B2 U
    exact C8
   ·exact(show CW (cxT oG) 149 [tV w]=some (.tup [tV lW,.own 1 (ns.map iV),bV true],[])from by have c:=a3h (oG:=oG) w (by omega);rw[v]at c;exact c)
   refine⟨⟨U,U,U,dT U,U⟩,.inr ⟨by simp[hasList,G1],U⟩,B6,G9 (J0 U (K5 fun _=>J0 U K6)),fun _=>C7 (B5 (A7 fun _=>U)) (by rfl),fun g21=> ?_⟩
   try simp only[Zh]
   refine y_M U<|y_E U<|y_E U<|y_E U<|y_S U ?_
   (refine xO U U (by simp) U (fun _=>U) (fun _=>U) ?_;intro g6)
   refine y_S U<|xN [0,2,5,6,7] [2,6] U<|A3<|A3<|A0<|y_M U<|H5 U<|xN [0,2,5,6,26] [2,6] U ?_
   refine A4 U (fun a=>absurd a (by decide)) (fun a=> ?_);refine A6<|A3<|A0<|y_M U<|y_M U<|I3 (fs:=[_,_,_]) U U U U U<|y_M U<|N7 U U U (Mv.sized_map fun _=>U) J9 (G2 (n:=1) U) (by simp) ?_
   rw[show((ZA tV (w::b)).drop 1).take ((ZA tV (w::b)).length-1)=b.map tV from by rw[Zy,Yg,ZX,ZC (by simp)]];refine y_A U (fun _=>U) ?_;intro g8;refine G0 U U U U (G5 U (N2 (by decide) (G5 U K1))) (fun _=>U) ⟨by decide,U,dT U,Zd _⟩ (fun _=>U) (fun _=>U) (fun _=>(by rfl)) ?_;intro z;simp only[J7,Zp,Zi];refine y_S U ?_;refine G7 ⟨fun _=>⟨by(simp only[V8,Zi,Zm,Zy,Yf,Zp];decide+kernel),by decide+kernel⟩,[(.t 2,_),(.t 5,_),(.t 8,_),(.t 9,_),(.h 2,_),(.h 8,_),(.h 6,_)],⟨U,U,U,U,U,U,U,U,U,U,U,U,U,U,trivial⟩,?_⟩;refine A3<|A3<|A0<|y_M U ?_
   refine xC1 U U (b2j (bA lW)) ⟨U,U,U⟩ U U fun p=> ?_
   rw[show nd (bA lW)=0 from f2s U];refine y_M U<|xN [2,8,9,34,35] [2,8,6] U<|A8<|H3<|A3<|A0<|F0 U U<|xN [2,8,9,34,35,36] [2,8,6] U<|A3 ?_
   refine A4 U (fun a=>absurd a (by decide)) (fun a=> ?_);refine D5<|A3<|A0<|y_B U<|y_M U<|G0 U U U U (G5 U (N2 (by decide) (G5 U K1))) (fun _=>U) ⟨by decide,U,dT U,Zd _⟩ (fun _=>U) (fun _=>U) (fun _=>(by rfl)) ?_
   intro z;simp only[J7,Zp,Zi];refine y_S U<|y_S U<|xN [2,3,4] [2,6] U<|A9<|B8 (F3 U U U U (D9 U (K8 U U (by simp) (fun _=>U) (I5 U G8))) (C9 U U (C9 U U (C4 B3)))) ?_
   rw[d3c v]
   rfl
  ·skip
   apply xC U
   ·apply B0
    ·exact B2 U
    exact C8
   ·exact(show CW (cxT oG) 149 [tV w]=some (.tup [tV w,.own 1 [],bV true],[])from by have c:=a3h (oG:=oG) w (by omega);rw[i]at c;rw[show decide (0<=rch (bA w))=true from decide_eq_true (by omega)]at c;exact c)
   refine⟨⟨U,U,U,dT U,U⟩,.inr ⟨U,U⟩,B6,G9 (J0 U (K5 fun _=>J0 U K6)),fun _=>C7 (B5 U) (by rfl),fun g21=> ?_⟩
   try simp only[Zh]
   refine y_M U<|y_E U<|y_E U<|y_E U<|y_S U ?_
   (refine H8 U U (by(simp;done)) U (fun _=>(B5 (by rfl))) (fun _=>U) ?_;intro g6)
   refine y_S U<|xN [0,2,5,6,7] [2,6] U<|A3<|A3<|A0<|y_M U<|H5 U<|xN [0,2,5,6,26] [2,6] U ?_
   refine A4 U (fun a=>absurd a (by decide)) (fun a=> ?_);refine A6<|A3<|A0<|y_M U<|y_M U<|I3 (fs:=[_,_,_]) U U U U U<|y_M U<|N7 U U U (Mv.sized_map fun _=>U) J9 (G2 (n:=1) U) (by simp) ?_
   rw[show((ZA tV (w::b)).drop 1).take ((ZA tV (w::b)).length-1)=b.map tV from by rw[Zy,Yg,ZX,ZC (by simp)]];refine y_A U (fun _=>U) ?_;intro g8;refine G0 U U U U (G5 U (N2 (by decide) (G5 U K1))) (fun _=>U) ⟨by decide,U,dT U,Zd _⟩ (fun _=>U) (fun _=>U) (fun _=>(by rfl)) ?_;intro z;simp only[J7,Zp,Zi];refine y_S U ?_;refine G7 ⟨fun _=>⟨by(simp only[V8,Zi,Zm,Zy,Yf,Zp];decide+kernel),by decide+kernel⟩,[(.t 2,_),(.t 5,_),(.t 8,_),(.t 9,_),(.h 2,_),(.h 8,_),(.h 6,_)],⟨U,U,U,U,U,U,U,U,U,U,U,U,U,U,trivial⟩,?_⟩;refine A3<|A3<|A0<|y_M U ?_
   refine xC1 U U (b2j (bA w)) ⟨U,U,U⟩ U U fun p=> ?_
   rw[show nd (bA w)=0 from(S3 (by omega)).trans k];refine y_M U<|xN [2,8,9,34,35] [2,8,6] U<|A8<|H3<|A3<|A0<|F0 U U<|xN [2,8,9,34,35,36] [2,8,6] U<|A3 ?_
   refine A4 U (fun a=>absurd a (by decide)) (fun a=> ?_);refine D5<|A3<|A0<|y_B U<|y_M U<|G0 U U U U (G5 U (N2 (by decide) (G5 U K1))) (fun _=>U) ⟨by decide,U,dT U,Zd _⟩ (fun _=>U) (fun _=>U) (fun _=>(by rfl)) ?_
   intro z;simp only[J7,Zp,Zi];refine y_S U<|y_S U<|xN [2,3,4] [2,6] U<|A9<|B8 (F3 U U U U (D9 U (c8c U U U (I5 U G8))) (C9 U U (C9 U U (C4 B3)))) ?_
   rw[e1d i k]
   rfl
  ·skip
   apply xC U
   ·apply B0
    ·exact B2 U
    exact C8
   ·exact(show CW (cxT oG) 149 [tV w]=some (.tup [tV w,.own 1 [],bV true],[])from by have c:=a3h (oG:=oG) w (by omega);rw[i]at c;rw[show decide (0<=rch (bA w))=true from decide_eq_true (by omega)]at c;exact c)
   refine⟨⟨U,U,U,dT U,U⟩,.inr ⟨U,U⟩,B6,G9 (J0 U (K5 fun _=>J0 U K6)),fun _=>C7 (B5 U) (by rfl),fun g21=> ?_⟩
   try simp only[Zh]
   refine y_M U<|y_E U<|y_E U<|y_E U<|y_S U ?_
   (refine H8 U U (by(simp;done)) U (fun _=>(B5 (by rfl))) (fun _=>U) ?_;intro g6)
   refine y_S U<|xN [0,2,5,6,7] [2,6] U<|A3<|A3<|A0<|y_M U<|H5 U<|xN [0,2,5,6,26] [2,6] U ?_
   refine A4 U (fun a=>absurd a (by decide)) (fun a=> ?_);refine A6<|A3<|A0<|y_M U<|y_M U<|I3 (fs:=[_,_,_]) U U U U U<|y_M U<|N7 U U U (Mv.sized_map fun _=>U) J9 (G2 (n:=1) U) (by simp) ?_
   rw[show((ZA tV (w::b)).drop 1).take ((ZA tV (w::b)).length-1)=b.map tV from by rw[Zy,Yg,ZX,ZC (by simp)]];refine y_A U (fun _=>U) ?_;intro g8;refine G0 U U U U (G5 U (N2 (by decide) (G5 U K1))) (fun _=>U) ⟨by decide,U,dT U,Zd _⟩ (fun _=>U) (fun _=>U) (fun _=>(by rfl)) ?_;intro z;simp only[J7,Zp,Zi];refine y_S U ?_;refine G7 ⟨fun _=>⟨by(simp only[V8,Zi,Zm,Zy,Yf,Zp];decide+kernel),by decide+kernel⟩,[(.t 2,_),(.t 5,_),(.t 8,_),(.t 9,_),(.h 2,_),(.h 8,_),(.h 6,_)],⟨U,U,U,U,U,U,U,U,U,U,U,U,U,U,trivial⟩,?_⟩;refine A3<|A3<|A0<|y_M U ?_
   refine xC1 U U (b2j (bA w)) ⟨U,U,U⟩ U U fun p=> ?_
   rw[show nd (bA w)=1 from(S3 (by omega)).trans k];refine y_M U<|xN [2,8,9,34,35] [2,8,6] U<|A8<|H3<|A3<|A0<|F0 U U<|xN [2,8,9,34,35,36] [2,8,6] U<|A3 ?_
   refine A4 U (fun a=> ?_) (fun a=>absurd a (by decide));refine A6<|A3<|A8<|A3<|A0<|y_M U ?_
   rcases f:rdT b with _|⟨D,B⟩
   ·skip
    apply xC U
    ·apply B0
     ·exact B2 U
     exact C8
    ·exact(by have c:=q b ⟨by simp only[Zg]at g;omega,fun x m=>g.2 x (Zn _ m)⟩ (by simp only[Zg]at j;omega);rw[f]at c;exact c)
    refine⟨⟨U,U,U,dT U,U⟩,.inl U,B6,G9 (J0 U (K5 fun _=>J0 U K6)),fun _=>C7 (B5 U) (by rfl),fun l=> ?_⟩;refine y_M U<|y_E U<|y_E U<|y_E U<|y_A U (fun _=>U) ?_
    intro g10;refine xB U U U U U U U U U ?_
    (refine H8 U U (by(simp;done)) U (fun _=>(B5 (by rfl))) (fun _=>U) ?_;intro g11)
    refine y_S U<|xN [2,8,10,11,12,34,35] [2,8,6,10] U<|A3<|A3<|A0<|y_M U<|H5 U<|xN [2,8,10,11,34,35,44] [2,8,6,10] U ?_
    refine A4 U (fun a=> ?_) (fun a=>absurd a (by decide));refine A3<|A0<|I3 (fs:=[_,_,_]) U U U U U<|xB U U U U U U U U U ?_
    (refine B1 U U (fun _=>U) ?_;intro g3)
    refine y_S U<|xN [2,3,4] [2,3] U<|A9<|B8 (F3 U U U U (D9 U (I5 U (I5 U G8))) (F9 U U (by simp) (by rfl) (C9 U U (C4 B3)))) ?_
    rw[c8s i k,f]
    rfl
   skip
   apply xC U
   ·apply B0
    ·exact B2 U
    exact C8
   ·exact(by have c:=q b ⟨by simp only[Zg]at g;omega,fun x m=>g.2 x (Zn _ m)⟩ (by simp only[Zg]at j;omega);rw[f]at c;exact c)
   refine⟨⟨U,U,U,dT U,U⟩,.inl U,B6,I7 U,fun _=>U,fun l=> ?_⟩;refine y_M U<|y_E U<|y_E U<|y_E U<|y_A U (fun _=>U) ?_
   intro g10;refine xB U U U U U U U U U<|y_S U<|y_S U<|xN [2,8,10,11,12,34,35] [2,8,6,10] U<|A3<|A3<|A0<|y_M U<|H5 U<|xN [2,8,10,11,34,35,44] [2,8,6,10] U ?_
   refine A4 U (fun a=>absurd a (by decide)) (fun a=> ?_);refine A6<|A3<|A0<|y_F U<|y_L U<|y_B U<|C0 (es:=ZA trV [_]) U U (dT U) U U (fun _=>B5 (A7 fun _=>U)) (fun _=>U) ?_
   intro s;refine U0 U U U (by simp) (by decide) U U U (dT U) (fun _=>⟨U,U⟩) (by simp only[H6];(simp only[Zs,Zg,Zl,ZI,Zh];omega)) (fun _=>U) ?_;intro u;refine y_F U<|N8 U U U U U (Zd _) U<|xN [2,8,11,34,35] [2,8,6,1000050] U<|A0<|y_M U<|y_S U<|xN [2,8,9,34,35] [2,8,6,1000050] U<|A0<|D6 U U (B9 (by omega))<|y_M U<|xN [2,8,9,34,35] [2,8,6,1000050] U<|H3<|A3<|A0<|F0 U U<|xN [2,8,9,34,35,36] [2,8,6,1000050] U<|A3 ?_
   refine A4 U (fun a=>absurd a (by decide)) (fun a=> ?_);refine D5<|A3<|A0<|y_B U<|y_M U<|G0 U U U U (G5 U (N2 (by decide) (a0p (by decide) (by decide) U (by simp) fun _=>K1))) (fun _=>U) ⟨by decide,U,dT U,Zd _⟩ (fun _=>U) (fun _=>U) (fun _=>C7 (by rfl) (C7 (B5 (A7 fun _=>U)) (by rfl))) ?_
   intro z;simp only[J7,Zp,Zi];refine y_S U<|y_S U<|xN [2,3,4] [2,6,300002] U<|A9<|B8 (F3 U U U U (D9 U (c8c U U U (K8 U U (by simp) (fun _=>U) G8))) (C9 U U (C9 U U (C4 B3)))) ?_
   rw[c8s i k,f]
   rfl
  ·skip
   apply xC U
   ·apply B0
    ·exact B2 U
    exact C8
   ·exact(show CW (cxT oG) 149 [tV w]=some (.tup [tV w,.own 1 [],bV true],[])from by have c:=a3h (oG:=oG) w (by omega);rw[i]at c;rw[show decide (0<=rch (bA w))=true from decide_eq_true (by omega)]at c;exact c)
   refine⟨⟨U,U,U,dT U,U⟩,.inr ⟨U,U⟩,B6,G9 (J0 U (K5 fun _=>J0 U K6)),fun _=>C7 (B5 U) (by rfl),fun g21=> ?_⟩
   try simp only[Zh]
   refine y_M U<|y_E U<|y_E U<|y_E U<|y_S U ?_
   (refine H8 U U (by(simp;done)) U (fun _=>(B5 (by rfl))) (fun _=>U) ?_;intro g6)
   refine y_S U<|xN [0,2,5,6,7] [2,6] U<|A3<|A3<|A0<|y_M U<|H5 U<|xN [0,2,5,6,26] [2,6] U ?_
   refine A4 U (fun a=>absurd a (by decide)) (fun a=> ?_);refine A6<|A3<|A0<|y_M U<|y_M U<|I3 (fs:=[_,_,_]) U U U U U<|y_M U<|N7 U U U (Mv.sized_map fun _=>U) J9 (G2 (n:=1) U) (by simp) ?_
   rw[show((ZA tV (w::b)).drop 1).take ((ZA tV (w::b)).length-1)=b.map tV from by rw[Zy,Yg,ZX,ZC (by simp)]];refine y_A U (fun _=>U) ?_;intro g8;refine G0 U U U U (G5 U (N2 (by decide) (G5 U K1))) (fun _=>U) ⟨by decide,U,dT U,Zd _⟩ (fun _=>U) (fun _=>U) (fun _=>(by rfl)) ?_;intro z;simp only[J7,Zp,Zi];refine y_S U ?_;refine G7 ⟨fun _=>⟨by(simp only[V8,Zi,Zm,Zy,Yf,Zp];decide+kernel),by decide+kernel⟩,[(.t 2,_),(.t 5,_),(.t 8,_),(.t 9,_),(.h 2,_),(.h 8,_),(.h 6,_)],⟨U,U,U,U,U,U,U,U,U,U,U,U,U,U,trivial⟩,?_⟩;refine A3<|A3<|A0<|y_M U ?_
   refine xC1 U U (b2j (bA w)) ⟨U,U,U⟩ U U fun p=> ?_
   rw[show nd (bA w)=2 from(S3 (by omega)).trans k];refine y_M U<|xN [2,8,9,34,35] [2,8,6] U<|A8<|H3<|A3<|A0<|F0 U U<|xN [2,8,9,34,35,36] [2,8,6] U<|A3 ?_
   refine A4 U (fun a=> ?_) (fun a=>absurd a (by decide));refine A6<|A3<|A8<|A3<|A0<|y_M U ?_
   rcases f:rdT b with _|⟨D,B⟩
   ·skip
    apply xC U
    ·apply B0
     ·exact B2 U
     exact C8
    ·exact(by have c:=q b ⟨by simp only[Zg]at g;omega,fun x m=>g.2 x (Zn _ m)⟩ (by simp only[Zg]at j;omega);rw[f]at c;exact c)
    refine⟨⟨U,U,U,dT U,U⟩,.inl U,B6,G9 (J0 U (K5 fun _=>J0 U K6)),fun _=>C7 (B5 U) (by rfl),fun l=> ?_⟩;refine y_M U<|y_E U<|y_E U<|y_E U<|y_A U (fun _=>U) ?_
    intro g10;refine xB U U U U U U U U U ?_
    (refine H8 U U (by(simp;done)) U (fun _=>(B5 (by rfl))) (fun _=>U) ?_;intro g11)
    refine y_S U<|xN [2,8,10,11,12,34,35] [2,8,6,10] U<|A3<|A3<|A0<|y_M U<|H5 U<|xN [2,8,10,11,34,35,44] [2,8,6,10] U ?_
    refine A4 U (fun a=> ?_) (fun a=>absurd a (by decide));refine A3<|A0<|I3 (fs:=[_,_,_]) U U U U U<|xB U U U U U U U U U ?_
    (refine B1 U U (fun _=>U) ?_;intro g3)
    refine y_S U<|xN [2,3,4] [2,3] U<|A9<|B8 (F3 U U U U (D9 U (I5 U (I5 U G8))) (F9 U U (by simp) (by rfl) (C9 U U (C4 B3)))) ?_
    rw[a9k i k,f]
    rfl
   skip
   apply xC U
   ·apply B0
    ·exact B2 U
    exact C8
   ·exact(by have c:=q b ⟨by simp only[Zg]at g;omega,fun x m=>g.2 x (Zn _ m)⟩ (by simp only[Zg]at j;omega);rw[f]at c;exact c)
   refine⟨⟨U,U,U,dT U,U⟩,.inl U,B6,I7 U,fun _=>U,fun l=> ?_⟩;refine y_M U<|y_E U<|y_E U<|y_E U<|y_A U (fun _=>U) ?_
   intro g10;refine xB U U U U U U U U U<|y_S U<|y_S U<|xN [2,8,10,11,12,34,35] [2,8,6,10] U<|A3<|A3<|A0<|y_M U<|H5 U<|xN [2,8,10,11,34,35,44] [2,8,6,10] U ?_
   refine A4 U (fun a=>absurd a (by decide)) (fun a=> ?_);refine A6<|A3<|A0<|y_F U<|y_L U<|y_B U<|C0 (es:=ZA trV [_]) U U (dT U) U U (fun _=>B5 (A7 fun _=>U)) (fun _=>U) ?_
   intro s;refine U0 U U U (by simp) (by decide) U U U (dT U) (fun _=>⟨U,U⟩) (by simp only[H6];(simp only[Zs,Zg,Zl,ZI,Zh];omega)) (fun _=>U) ?_;intro u;refine y_F U<|N8 U U U U U (Zd _) U<|xN [2,8,11,34,35] [2,8,6,1000050] U<|A0<|y_M U<|y_S U<|xN [2,8,9,34,35] [2,8,6,1000050] U<|A0<|D6 U U (B9 (by omega))<|y_M U<|xN [2,8,9,34,35] [2,8,6,1000050] U<|H3<|A3<|A0<|F0 U U<|xN [2,8,9,34,35,36] [2,8,6,1000050] U<|A3 ?_
   refine A4 U (fun a=> ?_) (fun a=>absurd a (by decide));refine A6<|A3<|A8<|A3<|A0<|y_M U ?_
   rcases o:rdT B with _|⟨E,F⟩
   ·skip
    apply xC U
    ·apply B0
     ·exact B2 U
     exact C8
    ·exact(by have c:=q B ⟨by have:=a1q f;simp only[Zg]at g;omega,fun x m=>g.2 x (Zn _ (b7j f x m))⟩ (by have:=a1q f;simp only[Zg]at j;omega);rw[o]at c;exact c)
    refine⟨⟨U,U,U,dT U,U⟩,.inl U,B6,G9 (J0 U (K5 fun _=>J0 U K6)),fun _=>C7 (B5 U) (by rfl),fun l=> ?_⟩;refine y_M U<|y_E U<|y_E U<|y_E U<|y_A U (fun _=>U) ?_
    intro g10;refine xB U U U U U U U U U ?_
    (refine H8 U U (by(simp;done)) U (fun _=>(B5 (by rfl))) (fun _=>U) ?_;intro g11)
    refine y_S U<|xN [2,8,10,11,12,34,35] [2,8,6,1000050,10] U<|A3<|A3<|A0<|y_M U<|H5 U<|xN [2,8,10,11,34,35,44] [2,8,6,1000050,10] U ?_
    refine A4 U (fun a=> ?_) (fun a=>absurd a (by decide));refine A3<|A0<|I3 (fs:=[_,_,_]) U U U U U<|xB U U U U U U U U U ?_
    (refine B1 U U (fun _=>U) ?_;intro g3)
    refine y_S U<|xN [2,3,4] [2,3] U<|A9<|B8 (F3 U U U U (D9 U (I5 U (I5 U G8))) (F9 U U (by simp) (by rfl) (C9 U U (C4 B3)))) ?_
    rw[a9k i k,f,Zk,o]
    rfl
   skip
   apply xC U
   ·apply B0
    ·exact B2 U
    exact C8
   ·exact(by have c:=q B ⟨by have:=a1q f;simp only[Zg]at g;omega,fun x m=>g.2 x (Zn _ (b7j f x m))⟩ (by have:=a1q f;simp only[Zg]at j;omega);rw[o]at c;exact c)
   refine⟨⟨U,U,U,dT U,U⟩,.inl U,B6,I7 U,fun _=>U,fun l=> ?_⟩;refine y_M U<|y_E U<|y_E U<|y_E U<|y_A U (fun _=>U) ?_
   intro g10;refine xB U U U U U U U U U<|y_S U<|y_S U<|xN [2,8,10,11,12,34,35] [2,8,6,1000050,10] U<|A3<|A3<|A0<|y_M U<|H5 U<|xN [2,8,10,11,34,35,44] [2,8,6,1000050,10] U ?_
   refine A4 U (fun a=>absurd a (by decide)) (fun a=> ?_);refine A6<|A3<|A0<|y_F U<|y_L U<|y_B U<|C0 (es:=ZA trV [_]) U U (dT U) U U (fun _=>B5 (A7 fun _=>U)) (fun _=>U) ?_
   intro s;refine xA U U U U (by simp) (by simp) U U U U U (fun _=>U) (by simp only[LN];omega) (fun _=>U) ?_;intro u;refine y_F U<|N8 U U U U U (Zd _) U<|xN [2,8,11,34,35] [2,8,6,1000050] U<|A0<|y_M U<|y_S U<|xN [2,8,9,34,35] [2,8,6,1000050] U<|A0<|D6 U U (B9 (by omega))<|y_M U<|xN [2,8,9,34,35] [2,8,6,1000050] U<|H3<|A3<|A0<|F0 U U<|xN [2,8,9,34,35,36] [2,8,6,1000050] U<|A3 ?_
   refine A4 U (fun a=>absurd a (by decide)) (fun a=> ?_);refine D5<|A3<|A0<|y_B U<|y_M U<|G0 U U U U (G5 U (N2 (by decide) (a0p (by decide) (by decide) U (by simp) fun _=>K1))) (fun _=>U) ⟨by decide,U,dT U,Zd _⟩ (fun _=>U) (fun _=>U) (fun _=>C7 (by rfl) (C7 (B5 (A7 fun _=>U)) (by rfl))) ?_
   intro z;simp only[J7,Zp,Zi];refine y_S U<|y_S U<|xN [2,3,4] [2,6,300002] U<|A9<|B8 (F3 U U U U (D9 U (c8c U U U (K8 U U (by simp) (fun _=>U) G8))) (C9 U U (C9 U U (C4 B3)))) ?_
   rw[a9k i k,f,Zk,o]
   rfl
  skip
  apply xC U
  ·apply B0
   ·exact B2 U
   exact C8
  ·exact(show CW (cxT oG) 149 [tV w]=some (.tup [tV w,.own 1 [],bV false],[])from by have c:=a3h (oG:=oG) w (by omega);rw[i]at c;rw[show decide (0<=rch (bA w))=false from decide_eq_false (by omega)]at c;exact c)
  refine⟨⟨U,U,U,dT U,U⟩,.inr ⟨U,U⟩,B6,G9 (J0 U (K5 fun _=>J0 U K6)),fun _=>C7 (B5 U) (by rfl),fun g21=> ?_⟩
  try simp only[Zh]
  refine y_M U<|y_E U<|y_E U<|y_E U<|y_S U ?_
  (refine H8 U U (by(simp;done)) U (fun _=>(B5 (by rfl))) (fun _=>U) ?_;intro g6)
  refine y_S U<|xN [0,2,5,6,7] [2,6] U<|A3<|A3<|A0<|y_M U<|H5 U<|xN [0,2,5,6,26] [2,6] U ?_
  refine A4 U (fun a=> ?_) (fun a=>absurd a (by decide));refine A3<|A0<|I3 (fs:=[_,_,_]) U U U U U<|xB U U U U U U U U U ?_
  (refine B1 U U (fun _=>U) ?_;intro g3)
  refine y_S U<|xN [2,3,4] [2,3] U<|A9<|B8 (F3 U U U U (D9 U (I5 U (I5 U G8))) (F9 U U (by simp) (by rfl) (C9 U U (C4 B3)))) ?_
  rw[e0o i k]
  rfl
theorem b3y:D8 Tryz.f95=[0,2,3,4,6,7,5,12]:=by kernel_rfl
theorem b5k(s:List UInt8)(k:s.length<=1048576):CW (cxT oG) 95 [tV s]=some (.tup [trV (ipT s),bV (d4s s)],[]):=by
 obtain⟨ws,a⟩:∃ws,ws=splitB 32 s:=⟨_,U⟩;have i:=Y0 32 s;have b:=Z8 32 s;rw[<-a]at i b;refine C5 U Tryz.func95 U ⟨by kernel_rfl,U,dT U,dT U,by decide⟩ b3y<|A3<|A0<|y_A U (fun _=>U) ?_
 intro g2;refine y_S U<|xN [0,2] [2] U<|A3<|A0<|y_M U ?_
 apply xC U
 ·apply B0
  ·exact B2 U
  apply B0
  ·exact B2 U
  exact C8
 ·exact d0i s 32 (by omega)
 refine⟨⟨U,U,U,dT U,U⟩,.inl U,B6,G6,fun _=>U,fun g9=> ?_⟩;rw[<-a]
 try simp only[Zh]
 (refine xO U U (by simp) U (fun _=>U) (fun _=>U) ?_;intro g4)
 refine xN [2,4] [2,4] U<|A3<|A0<|y_M U ?_
 rcases g:rdT ws with _|⟨t,r⟩
 ·skip
  apply xC U
  ·apply B0
   ·exact a3o U U (by(simp;done)) (fun _=>U)
   exact C8
  ·exact(by have f:=b5h (oG:=oG) ws ⟨by omega,fun w hw=>by have:=b w hw;omega⟩;rw[g]at f;exact f)
  refine⟨⟨U,U,U,dT U,U⟩,.inl U,B6,G9 (J0 U (K5 fun _=>J0 U K6)),fun _=>C7 (P8 (A7 fun _=>U) (by decide)) (by rfl),fun g12=> ?_⟩;refine y_M U<|y_E U<|y_E U<|y_E U<|y_A U (fun _=>U) ?_
  intro g5;refine xB U U U U U U U U U ?_
  (refine H8 U U (by(simp;done)) U (fun _=>(B5 (by rfl))) (fun _=>U) ?_;intro g6)
  refine y_S U<|xN [2,4,5,6,7] [2,4,5] U<|A3<|A0<|y_B U<|y_M U<|y_M U<|H4 U U U<|H4 U U U<|H4 U U U<|E8 U U U U<|y_M U<|H4 U U U<|H4 U U U<|H4 U U U<|E8 U U U U<|xB U U U U U U U U U<|y_S U<|xN [2,3] [2] U<|A9<|B8 (F3 U U U U (D9 U (D9 U (D9 U G8))) (C9 U U (C4 B3))) ?_
  obtain⟨c,e⟩:=f0b a g;rw[c,e]
  rfl
 skip
 apply xC U
 ·apply B0
  ·exact a3o U U (by(simp;done)) (fun _=>U)
  exact C8
 ·exact(by have f:=b5h (oG:=oG) ws ⟨by omega,fun w hw=>by have:=b w hw;omega⟩;rw[g]at f;exact f)
 refine⟨⟨U,U,U,dT U,U⟩,.inl U,B6,I7 U,fun _=>C7 (P8 (A7 fun _=>U) (by decide)) (by rfl),fun g12=> ?_⟩;refine y_M U<|y_E U<|y_E U<|y_E U<|y_A U (fun _=>U) ?_
 intro g5;refine xB U U U U U U U U U<|y_S U<|y_S U<|xN [2,4,5,6,7] [2,4,5] U<|A3<|A0<|y_B U<|y_M U<|y_M U<|H1 U U U<|y_M U<|H1 U U U<|B7 U U<|H1 U U U<|M9 U U<|E9 U U U U<|y_M U ?_
 refine D3 U U ?_ ?_<;>intro h<;>have j:=h<;>try simp only[SG]at j
 ·refine y_M U<|gT U U<|H2 U U<|gT U U<|a3j U U<|E9 U (by assumption) U U<|xB U U U U U U U U U<|y_S U<|xN [2,3] [2] U<|A9<|B8 (F3 U U U U (D9 U (D9 U (D9 U G8))) (C9 U U (C4 B3))) ?_
  obtain⟨c,e⟩:=c7m a g;rw[c,e];simp_all
  try rfl
 refine gF U U<|gF U U<|E8 U (by assumption) U U<|xB U U U U U U U U U<|y_S U<|xN [2,3] [2] U<|A9<|B8 (F3 U U U U (D9 U (D9 U (D9 U G8))) (C9 U U (C4 B3))) ?_
 obtain⟨c,e⟩:=c7m a g;rw[c,e];simp_all
 try rfl
theorem b3z:D8 Tryz.f69=[0,2,3,5,4,8]:=by kernel_rfl
theorem a6w(s:List UInt8)(e:s.length<=1048576):CW (cxT oG) 69 [tV s]=some (.tup [trV (ipT s),bV (rdPlan s).isSome],[]):=by
 have a:=f5b s;refine C5 U Tryz.func69 U ⟨by kernel_rfl,U,dT U,dT U,by decide⟩ b3z<|A3<|A0<|y_A U (fun _=>U) ?_
 intro g2;refine y_S U<|xN [0,2] [2] U<|A3<|A0<|y_M U ?_
 apply xC U
 ·apply B0
  ·exact B2 U
  exact C8
 ·exact b5k s e
 refine⟨⟨U,U,U,dT U,U⟩,.inl U,B6,I7 U,fun _=>U,fun g8=> ?_⟩;refine y_M U<|y_E U<|y_E U<|y_A U (fun _=>U) ?_
 intro g4;refine xB U U U U U U U U U<|y_S U<|xN [0,2,4,5] [2,4] U<|A3<|A0<|y_B U<|y_M U<|y_M U ?_
 refine D3 U U ?_ ?_<;>intro b<;>have c:=b<;>try simp only[SG]at c
 ·refine y_M U<|gT U U<|a3l U U<|gT U U<|a3j U U<|E9 U (by assumption) U U<|xB U U U U U U U U U<|y_S U<|xN [2,3] [2] U<|A9<|B8 (F3 U U U U (D9 U (D9 U (D9 U G8))) (C9 U U (C4 B3))) ?_
  rw[<-a];simp_all
  try rfl
 refine gF U U<|gF U U<|E8 U (by assumption) U U<|xB U U U U U U U U U<|y_S U<|xN [2,3] [2] U<|A9<|B8 (F3 U U U U (D9 U (D9 U (D9 U G8))) (C9 U U (C4 B3))) ?_
 rw[<-a];simp_all
 try rfl
theorem b0y:D8 Tryz.f44=[0,2,4,7]:=by kernel_rfl
theorem b1b(s:List UInt8)(a:s.length<=1048576):CW (cxT oG) 44 [tV s]=some (bV (rdPlan s).isSome,[]):=by
 refine C5 U Tryz.func44 U ⟨by kernel_rfl,U,dT U,dT U,by decide⟩ b0y<|A3<|A0<|y_S U<|xN [0] [] U<|A3<|A0<|y_M U ?_
 apply xC U
 ·apply B0
  ·exact B2 U
  exact C8
 ·exact a6w s a
 refine⟨⟨U,U,U,dT U,U⟩,.inl U,B6,I7 U,fun _=>U,fun g7=> ?_⟩;refine y_M U<|y_E U<|y_E U<|y_A U (fun _=>U) ?_
 intro g3;refine xB U U U U U U U U U<|y_S U<|xN [4] [] U<|A3<|A0<|y_M U<|y_S U<|xN [2] [] U<|A9<|C2 U U trivial ?_
 rfl
theorem c0u:D8 Tryz.f57=[0,2,3,4,7]:=by kernel_rfl
theorem e3f(w:ByteArray):CW (cxT oG) 57 [sV w]=some (iV (pr w),[]):=by
 refine C5 U Tryz.func57 U ⟨by kernel_rfl,U,dT U,dT U,by decide⟩ c0u<|A3<|A0<|y_S U<|xN [0] [] U<|A3<|A3<|A0<|y_M U<|xN [3] [] U<|A8<|A3<|A3<|A0<|J3 U U<|y_S U<|xN [3,4] [] U ?_
 refine A4 U ?_ ?_<;>intro a<;>try simp only[SL]at a
 ·refine A6 ?_
  refine A4 U (fun a=> ?_) (fun a=>absurd a (by simp_all));refine A3<|A0<|y_S U<|xN [2] [] U<|A9<|C2 U U trivial<|congrArg iV ?_
  simp_all[pr]
 refine A0<|J3 U U<|y_S U<|xN [3,4] [] U ?_
 refine A4 U ?_ ?_<;>intro a<;>try simp only[SL]at a
 ·refine A3<|A0<|y_S U<|xN [2] [] U<|A9<|C2 U U trivial<|congrArg iV ?_
  simp_all[pr]
 refine A3<|A3<|A0<|J3 U U<|y_S U<|xN [3,7] [] U ?_
 refine A4 U ?_ ?_<;>intro a<;>try simp only[SL]at a
 ·refine A6 ?_
  refine A4 U (fun a=> ?_) (fun a=>absurd a (by simp_all));refine A3<|A0<|y_S U<|xN [2] [] U<|A9<|C2 U U trivial<|congrArg iV ?_
  simp_all[pr]
 refine A3<|A0<|J3 U U<|y_S U<|xN [3,7] [] U ?_
 refine A4 U ?_ ?_<;>intro a<;>try simp only[SL]at a
 ·refine A6 ?_
  refine A4 U (fun a=> ?_) (fun a=>absurd a (by simp_all));refine A3<|A0<|y_S U<|xN [2] [] U<|A9<|C2 U U trivial<|congrArg iV ?_
  simp_all[pr]
 refine A3<|A0<|J3 U U<|y_S U<|xN [3,7] [] U ?_
 refine A4 U ?_ ?_<;>intro a<;>try simp only[SL]at a
 ·refine A6 ?_
  refine A4 U (fun a=> ?_) (fun a=>absurd a (by simp_all));refine A3<|A0<|y_S U<|xN [2] [] U<|A9<|C2 U U trivial<|congrArg iV ?_
  simp_all[pr]
 refine A3<|A0<|J3 U U<|y_S U<|xN [3,7] [] U ?_
 refine A4 U ?_ ?_<;>intro a<;>try simp only[SL]at a
 ·refine A6 ?_
  refine A4 U (fun a=> ?_) (fun a=>absurd a (by simp_all));refine A3<|A0<|y_S U<|xN [2] [] U<|A9<|C2 U U trivial<|congrArg iV ?_
  simp_all[pr]
 refine A0<|J3 U U<|y_S U<|xN [7] [] U ?_
 refine A4 U ?_ ?_<;>intro a<;>try simp only[SL]at a
 ·refine A3<|A0<|y_S U<|xN [2] [] U<|A9<|C2 U U trivial<|congrArg iV ?_
  simp_all[pr]
 refine A6<|A3<|A0<|y_S U<|xN [2] [] U<|A9<|C2 U U trivial<|congrArg iV ?_
 simp_all[pr]
theorem c8e:D8 Tryz.f29=[0,2,1,4,12,3]:=by kernel_rfl
theorem e0r(t:Pl)(o:t.sz<=1000):CW (cxT oG) 29 [trK t]=some (iV (Y1 t),[]):=by
 obtain⟨c,b⟩:∃c:Nat,t.sz<c:=⟨_,ZK _⟩;revert t
 induction c with
 |zero=>intro t o b;exact absurd b (Yy _)
 |succ c v=>
  intro t o b;have s:=a5b t;have u:=S0 t;have n:=c1x (bA t.op);have g:=fun i=>S0 (t.kids.getD i default)
  have j:=fun i=>Y8 (t:=t) (i:=i)
  refine C5 U Tryz.func29 U ⟨by kernel_rfl,U,dT U,dT U,by decide⟩ c8e<|A3<|A0<|P3 U U U (fun _=>I8 U) (fun _=>U) ?_
  intro g1;refine y_S U<|xN [1] [1] U<|A3<|A0<|y_F U<|y_L U ?_
  refine xC1 U U (e3f (bA t.op)) ⟨U,U,U⟩ U U fun g7=> ?_
  refine y_S U<|xN [1,3] [1] U<|A3<|A3<|A0<|y_S U<|xN [1,3,4] [1] U<|A8<|D7 (β:=Nat×Int) [(.t 1,_),(.h 1,_)] (fun(z:Nat×Int)=>match z with|(i,a)=>[(.t 4,iV i),(.t 3,iV a)]) (fun(z:Nat×Int)=>match z with|(i,a)=>i<=t.kids.length/\a=R8 t i) (fun(z:Nat×Int)=>match z with|(i,a)=>t.kids.length-i) (0,_) ⟨U,U,U,U,trivial⟩ ⟨Zt _,U⟩ ?_
  intro z l;obtain⟨i,a⟩:=z
  try dsimp only at l
  obtain⟨f,e⟩:=l;have k:=a0j f;rw[<-e]at k;refine A3<|A3<|A0<|y_M U<|y_F U<|y_L U<|B7 U U<|F0 U U<|xN [1,3,4,12] [1] U ?_
  refine A4 U ?_ ?_<;>intro p<;>try simp only[SL]at p
  ·refine A6<|A3<|A8<|A0<|y_M U<|y_F U<|y_L U<|y_M U<|B4 U U U (fun _=>U) (by omega)<|y_I U ?_
   have w:=g i;have x:=j i (by omega);refine xC1 U U ((by have q:=Y8 (t:=t) (i:=i) (by omega);have m:=v (t.kids.getD i default) (by omega) (by omega);rw[<-K4]at m;exact m)) ⟨U,U,U⟩ U U fun g21=> ?_
   refine D6 U U (B9 (by omega))<|y_S U<|xN [1,3,4] [1] U<|A0<|y_M U<|D6 U U (B9 (by omega))<|y_S U<|xN [1,3,4] [1] U ?_
   refine⟨(i+1,_),⟨by omega,by rw[R8,<-e]⟩,(by simp only;omega),⟨U,U,U,U,trivial⟩⟩
  refine D5<|A3<|A0<|y_M U<|y_S U<|xN [2] [] U<|A9<|C2 U U trivial ?_
  rw[e,show i=t.kids.length by omega,W5]
theorem c9o:D8 Tryz.f73=[0,2,1,7,8,11,20,19,21,18,5,3]:=by kernel_rfl
theorem f2g(t:Pl)(v:t.sz<=1000):CW (cxT oG) 73 [trK t]=some (iV (Y1 t),[]):=by
 obtain⟨s,q⟩:∃s:Nat,t.sz<s:=⟨_,ZK _⟩;revert t
 induction s with
 |zero=>intro t v q;exact absurd q (Yy _)
 |succ s n=>
  intro t v q;have w:=a5b t;have x:=S0 t;have u:=c1x (bA t.op);have j:=fun i=>S0 (t.kids.getD i default)
  have k:=fun i=>Y8 (t:=t) (i:=i)
  refine C5 U Tryz.func73 U ⟨by kernel_rfl,U,dT U,dT U,by decide⟩ c9o<|A3<|A0<|P3 U U U (fun _=>I8 U) (fun _=>U) ?_
  intro g1;refine y_S U<|xN [1] [1] U<|A3<|A0<|y_S U<|xN [1,3] [1] U<|A3<|A3<|A0<|y_F U<|y_L U<|xN [1,3,7] [1] U<|A8<|A3<|A3<|A0<|H0 U U<|y_S U<|xN [1,3,7,8] [1] U ?_
  refine A4 U ?_ ?_<;>intro b<;>try simp only[SL]at b
  ·refine A6 ?_
   refine A4 U (fun b=> ?_) (fun b=>absurd b (by simp_all));refine A0<|y_S U<|xN [1,3] [1] U<|A3<|A3<|A0<|y_F U<|y_L U<|B7 U U<|y_M U<|xN [3,18,19,20] [] U<|A8<|D7 (β:=Nat×Int) [(.t 18,_),(.t 19,_)] (fun(z:Nat×Int)=>match z with|(i,a)=>[(.t 20,iV i),(.t 3,iV a)]) (fun(z:Nat×Int)=>match z with|(i,a)=>i<=t.kids.length/\a=R8 t i) (fun(z:Nat×Int)=>match z with|(i,a)=>t.kids.length-i) (0,_) ⟨U,U,U,U,trivial⟩ ⟨Zt _,by show _=pr (bA t.op);simp_all[pr]⟩ ?_
   intro z g;obtain⟨i,a⟩:=z
   try dsimp only at g
   obtain⟨e,c⟩:=g;have f:=a0j e;rw[<-c]at f;refine A3<|A0<|F0 U U<|xN [3,18,19,20,21] [] U<|A3 ?_
   refine A4 U ?_ ?_<;>intro b<;>try simp only[SL]at b
   ·refine A6<|A3<|A8<|A3<|A0<|B4 U U U (fun _=>U) (by omega)<|y_I U<|y_A U (fun _=>U) ?_
    intro g5;refine xB U U U U U U U U U<|xN [3,5,18,19,20] [5] U<|A0<|y_M U<|y_B U ?_
    have o:=j i;have p:=k i (by omega);refine xC1 U U ((by have m:=Y8 (t:=t) (i:=i) (by omega);have h:=n (t.kids.getD i default) (by omega) (by omega);rw[<-K4]at h;exact h)) ⟨U,U,U⟩ U U fun l=> ?_
    refine D6 U U (B9 (by omega))<|y_S U<|xN [3,18,19,20] [] U<|A0<|D6 U U (B9 (by omega))<|y_M U<|xN [3,18,19,20] [] U ?_
    refine⟨(i+1,_),⟨by omega,by rw[R8,<-c]⟩,(by simp only;omega),⟨U,U,U,U,trivial⟩⟩
   refine D5<|A3<|A0<|y_M U<|y_S U<|xN [2] [] U<|A9<|C2 U U trivial ?_
   rw[c,show i=t.kids.length by omega,W5]
  refine A0<|H0 U U<|y_S U<|xN [1,3,7,8] [1] U ?_
  refine A4 U ?_ ?_<;>intro b<;>try simp only[SL]at b
  ·refine A0<|y_S U<|xN [1,3] [1] U<|A3<|A3<|A0<|y_F U<|y_L U<|B7 U U<|y_M U<|xN [3,18,19,20] [] U<|A8<|D7 (β:=Nat×Int) [(.t 18,_),(.t 19,_)] (fun(z:Nat×Int)=>match z with|(i,a)=>[(.t 20,iV i),(.t 3,iV a)]) (fun(z:Nat×Int)=>match z with|(i,a)=>i<=t.kids.length/\a=R8 t i) (fun(z:Nat×Int)=>match z with|(i,a)=>t.kids.length-i) (0,_) ⟨U,U,U,U,trivial⟩ ⟨Zt _,by show _=pr (bA t.op);simp_all[pr]⟩ ?_
   intro z g;obtain⟨i,a⟩:=z
   try dsimp only at g
   obtain⟨e,c⟩:=g;have f:=a0j e;rw[<-c]at f;refine A3<|A0<|F0 U U<|xN [3,18,19,20,21] [] U<|A3 ?_
   refine A4 U ?_ ?_<;>intro b<;>try simp only[SL]at b
   ·refine A6<|A3<|A8<|A3<|A0<|B4 U U U (fun _=>U) (by omega)<|y_I U<|y_A U (fun _=>U) ?_
    intro g5;refine xB U U U U U U U U U<|xN [3,5,18,19,20] [5] U<|A0<|y_M U<|y_B U ?_
    have o:=j i;have p:=k i (by omega);refine xC1 U U ((by have m:=Y8 (t:=t) (i:=i) (by omega);have h:=n (t.kids.getD i default) (by omega) (by omega);rw[<-K4]at h;exact h)) ⟨U,U,U⟩ U U fun l=> ?_
    refine D6 U U (B9 (by omega))<|y_S U<|xN [3,18,19,20] [] U<|A0<|D6 U U (B9 (by omega))<|y_M U<|xN [3,18,19,20] [] U ?_
    refine⟨(i+1,_),⟨by omega,by rw[R8,<-c]⟩,(by simp only;omega),⟨U,U,U,U,trivial⟩⟩
   refine D5<|A3<|A0<|y_M U<|y_S U<|xN [2] [] U<|A9<|C2 U U trivial ?_
   rw[c,show i=t.kids.length by omega,W5]
  refine A3<|A3<|A0<|H0 U U<|y_S U<|xN [1,3,7,11] [1] U ?_
  refine A4 U ?_ ?_<;>intro b<;>try simp only[SL]at b
  ·refine A6 ?_
   refine A4 U (fun b=> ?_) (fun b=>absurd b (by simp_all));refine A0<|y_S U<|xN [1,3] [1] U<|A3<|A3<|A0<|y_F U<|y_L U<|B7 U U<|y_M U<|xN [3,18,19,20] [] U<|A8<|D7 (β:=Nat×Int) [(.t 18,_),(.t 19,_)] (fun(z:Nat×Int)=>match z with|(i,a)=>[(.t 20,iV i),(.t 3,iV a)]) (fun(z:Nat×Int)=>match z with|(i,a)=>i<=t.kids.length/\a=R8 t i) (fun(z:Nat×Int)=>match z with|(i,a)=>t.kids.length-i) (0,_) ⟨U,U,U,U,trivial⟩ ⟨Zt _,by show _=pr (bA t.op);simp_all[pr]⟩ ?_
   intro z g;obtain⟨i,a⟩:=z
   try dsimp only at g
   obtain⟨e,c⟩:=g;have f:=a0j e;rw[<-c]at f;refine A3<|A0<|F0 U U<|xN [3,18,19,20,21] [] U<|A3 ?_
   refine A4 U ?_ ?_<;>intro b<;>try simp only[SL]at b
   ·refine A6<|A3<|A8<|A3<|A0<|B4 U U U (fun _=>U) (by omega)<|y_I U<|y_A U (fun _=>U) ?_
    intro g5;refine xB U U U U U U U U U<|xN [3,5,18,19,20] [5] U<|A0<|y_M U<|y_B U ?_
    have o:=j i;have p:=k i (by omega);refine xC1 U U ((by have m:=Y8 (t:=t) (i:=i) (by omega);have h:=n (t.kids.getD i default) (by omega) (by omega);rw[<-K4]at h;exact h)) ⟨U,U,U⟩ U U fun l=> ?_
    refine D6 U U (B9 (by omega))<|y_S U<|xN [3,18,19,20] [] U<|A0<|D6 U U (B9 (by omega))<|y_M U<|xN [3,18,19,20] [] U ?_
    refine⟨(i+1,_),⟨by omega,by rw[R8,<-c]⟩,(by simp only;omega),⟨U,U,U,U,trivial⟩⟩
   refine D5<|A3<|A0<|y_M U<|y_S U<|xN [2] [] U<|A9<|C2 U U trivial ?_
   rw[c,show i=t.kids.length by omega,W5]
  refine A3<|A0<|H0 U U<|y_S U<|xN [1,3,7,11] [1] U ?_
  refine A4 U ?_ ?_<;>intro b<;>try simp only[SL]at b
  ·refine A6 ?_
   refine A4 U (fun b=> ?_) (fun b=>absurd b (by simp_all));refine A0<|y_S U<|xN [1,3] [1] U<|A3<|A3<|A0<|y_F U<|y_L U<|B7 U U<|y_M U<|xN [3,18,19,20] [] U<|A8<|D7 (β:=Nat×Int) [(.t 18,_),(.t 19,_)] (fun(z:Nat×Int)=>match z with|(i,a)=>[(.t 20,iV i),(.t 3,iV a)]) (fun(z:Nat×Int)=>match z with|(i,a)=>i<=t.kids.length/\a=R8 t i) (fun(z:Nat×Int)=>match z with|(i,a)=>t.kids.length-i) (0,_) ⟨U,U,U,U,trivial⟩ ⟨Zt _,by show _=pr (bA t.op);simp_all[pr]⟩ ?_
   intro z g;obtain⟨i,a⟩:=z
   try dsimp only at g
   obtain⟨e,c⟩:=g;have f:=a0j e;rw[<-c]at f;refine A3<|A0<|F0 U U<|xN [3,18,19,20,21] [] U<|A3 ?_
   refine A4 U ?_ ?_<;>intro b<;>try simp only[SL]at b
   ·refine A6<|A3<|A8<|A3<|A0<|B4 U U U (fun _=>U) (by omega)<|y_I U<|y_A U (fun _=>U) ?_
    intro g5;refine xB U U U U U U U U U<|xN [3,5,18,19,20] [5] U<|A0<|y_M U<|y_B U ?_
    have o:=j i;have p:=k i (by omega);refine xC1 U U ((by have m:=Y8 (t:=t) (i:=i) (by omega);have h:=n (t.kids.getD i default) (by omega) (by omega);rw[<-K4]at h;exact h)) ⟨U,U,U⟩ U U fun l=> ?_
    refine D6 U U (B9 (by omega))<|y_S U<|xN [3,18,19,20] [] U<|A0<|D6 U U (B9 (by omega))<|y_M U<|xN [3,18,19,20] [] U ?_
    refine⟨(i+1,_),⟨by omega,by rw[R8,<-c]⟩,(by simp only;omega),⟨U,U,U,U,trivial⟩⟩
   refine D5<|A3<|A0<|y_M U<|y_S U<|xN [2] [] U<|A9<|C2 U U trivial ?_
   rw[c,show i=t.kids.length by omega,W5]
  refine A3<|A0<|H0 U U<|y_S U<|xN [1,3,7,11] [1] U ?_
  refine A4 U ?_ ?_<;>intro b<;>try simp only[SL]at b
  ·refine A6 ?_
   refine A4 U (fun b=> ?_) (fun b=>absurd b (by simp_all));refine A0<|y_S U<|xN [1,3] [1] U<|A3<|A3<|A0<|y_F U<|y_L U<|B7 U U<|y_M U<|xN [3,18,19,20] [] U<|A8<|D7 (β:=Nat×Int) [(.t 18,_),(.t 19,_)] (fun(z:Nat×Int)=>match z with|(i,a)=>[(.t 20,iV i),(.t 3,iV a)]) (fun(z:Nat×Int)=>match z with|(i,a)=>i<=t.kids.length/\a=R8 t i) (fun(z:Nat×Int)=>match z with|(i,a)=>t.kids.length-i) (0,_) ⟨U,U,U,U,trivial⟩ ⟨Zt _,by show _=pr (bA t.op);simp_all[pr]⟩ ?_
   intro z g;obtain⟨i,a⟩:=z
   try dsimp only at g
   obtain⟨e,c⟩:=g;have f:=a0j e;rw[<-c]at f;refine A3<|A0<|F0 U U<|xN [3,18,19,20,21] [] U<|A3 ?_
   refine A4 U ?_ ?_<;>intro b<;>try simp only[SL]at b
   ·refine A6<|A3<|A8<|A3<|A0<|B4 U U U (fun _=>U) (by omega)<|y_I U<|y_A U (fun _=>U) ?_
    intro g5;refine xB U U U U U U U U U<|xN [3,5,18,19,20] [5] U<|A0<|y_M U<|y_B U ?_
    have o:=j i;have p:=k i (by omega);refine xC1 U U ((by have m:=Y8 (t:=t) (i:=i) (by omega);have h:=n (t.kids.getD i default) (by omega) (by omega);rw[<-K4]at h;exact h)) ⟨U,U,U⟩ U U fun l=> ?_
    refine D6 U U (B9 (by omega))<|y_S U<|xN [3,18,19,20] [] U<|A0<|D6 U U (B9 (by omega))<|y_M U<|xN [3,18,19,20] [] U ?_
    refine⟨(i+1,_),⟨by omega,by rw[R8,<-c]⟩,(by simp only;omega),⟨U,U,U,U,trivial⟩⟩
   refine D5<|A3<|A0<|y_M U<|y_S U<|xN [2] [] U<|A9<|C2 U U trivial ?_
   rw[c,show i=t.kids.length by omega,W5]
  refine A3<|A0<|H0 U U<|y_S U<|xN [1,3,7,11] [1] U ?_
  refine A4 U ?_ ?_<;>intro b<;>try simp only[SL]at b
  ·refine A6 ?_
   refine A4 U (fun b=> ?_) (fun b=>absurd b (by simp_all));refine A0<|y_S U<|xN [1,3] [1] U<|A3<|A3<|A0<|y_F U<|y_L U<|B7 U U<|y_M U<|xN [3,18,19,20] [] U<|A8<|D7 (β:=Nat×Int) [(.t 18,_),(.t 19,_)] (fun(z:Nat×Int)=>match z with|(i,a)=>[(.t 20,iV i),(.t 3,iV a)]) (fun(z:Nat×Int)=>match z with|(i,a)=>i<=t.kids.length/\a=R8 t i) (fun(z:Nat×Int)=>match z with|(i,a)=>t.kids.length-i) (0,_) ⟨U,U,U,U,trivial⟩ ⟨Zt _,by show _=pr (bA t.op);simp_all[pr]⟩ ?_
   intro z g;obtain⟨i,a⟩:=z
   try dsimp only at g
   obtain⟨e,c⟩:=g;have f:=a0j e;rw[<-c]at f;refine A3<|A0<|F0 U U<|xN [3,18,19,20,21] [] U<|A3 ?_
   refine A4 U ?_ ?_<;>intro b<;>try simp only[SL]at b
   ·refine A6<|A3<|A8<|A3<|A0<|B4 U U U (fun _=>U) (by omega)<|y_I U<|y_A U (fun _=>U) ?_
    intro g5;refine xB U U U U U U U U U<|xN [3,5,18,19,20] [5] U<|A0<|y_M U<|y_B U ?_
    have o:=j i;have p:=k i (by omega);refine xC1 U U ((by have m:=Y8 (t:=t) (i:=i) (by omega);have h:=n (t.kids.getD i default) (by omega) (by omega);rw[<-K4]at h;exact h)) ⟨U,U,U⟩ U U fun l=> ?_
    refine D6 U U (B9 (by omega))<|y_S U<|xN [3,18,19,20] [] U<|A0<|D6 U U (B9 (by omega))<|y_M U<|xN [3,18,19,20] [] U ?_
    refine⟨(i+1,_),⟨by omega,by rw[R8,<-c]⟩,(by simp only;omega),⟨U,U,U,U,trivial⟩⟩
   refine D5<|A3<|A0<|y_M U<|y_S U<|xN [2] [] U<|A9<|C2 U U trivial ?_
   rw[c,show i=t.kids.length by omega,W5]
  refine A0<|H0 U U<|y_S U<|xN [1,3,11] [1] U ?_
  refine A4 U ?_ ?_<;>intro b<;>try simp only[SL]at b
  ·refine A0<|y_S U<|xN [1,3] [1] U<|A3<|A3<|A0<|y_F U<|y_L U<|B7 U U<|y_M U<|xN [3,18,19,20] [] U<|A8<|D7 (β:=Nat×Int) [(.t 18,_),(.t 19,_)] (fun(z:Nat×Int)=>match z with|(i,a)=>[(.t 20,iV i),(.t 3,iV a)]) (fun(z:Nat×Int)=>match z with|(i,a)=>i<=t.kids.length/\a=R8 t i) (fun(z:Nat×Int)=>match z with|(i,a)=>t.kids.length-i) (0,_) ⟨U,U,U,U,trivial⟩ ⟨Zt _,by show _=pr (bA t.op);simp_all[pr]⟩ ?_
   intro z g;obtain⟨i,a⟩:=z
   try dsimp only at g
   obtain⟨e,c⟩:=g;have f:=a0j e;rw[<-c]at f;refine A3<|A0<|F0 U U<|xN [3,18,19,20,21] [] U<|A3 ?_
   refine A4 U ?_ ?_<;>intro b<;>try simp only[SL]at b
   ·refine A6<|A3<|A8<|A3<|A0<|B4 U U U (fun _=>U) (by omega)<|y_I U<|y_A U (fun _=>U) ?_
    intro g5;refine xB U U U U U U U U U<|xN [3,5,18,19,20] [5] U<|A0<|y_M U<|y_B U ?_
    have o:=j i;have p:=k i (by omega);refine xC1 U U ((by have m:=Y8 (t:=t) (i:=i) (by omega);have h:=n (t.kids.getD i default) (by omega) (by omega);rw[<-K4]at h;exact h)) ⟨U,U,U⟩ U U fun l=> ?_
    refine D6 U U (B9 (by omega))<|y_S U<|xN [3,18,19,20] [] U<|A0<|D6 U U (B9 (by omega))<|y_M U<|xN [3,18,19,20] [] U ?_
    refine⟨(i+1,_),⟨by omega,by rw[R8,<-c]⟩,(by simp only;omega),⟨U,U,U,U,trivial⟩⟩
   refine D5<|A3<|A0<|y_M U<|y_S U<|xN [2] [] U<|A9<|C2 U U trivial ?_
   rw[c,show i=t.kids.length by omega,W5]
  refine A6<|A3<|A3<|A0<|y_F U<|y_L U<|B7 U U<|y_M U<|xN [3,18,19,20] [] U<|A8<|D7 (β:=Nat×Int) [(.t 18,_),(.t 19,_)] (fun(z:Nat×Int)=>match z with|(i,a)=>[(.t 20,iV i),(.t 3,iV a)]) (fun(z:Nat×Int)=>match z with|(i,a)=>i<=t.kids.length/\a=R8 t i) (fun(z:Nat×Int)=>match z with|(i,a)=>t.kids.length-i) (0,_) ⟨U,U,U,U,trivial⟩ ⟨Zt _,by show _=pr (bA t.op);simp_all[pr]⟩ ?_
  intro z g;obtain⟨i,a⟩:=z
  try dsimp only at g
  obtain⟨e,c⟩:=g;have f:=a0j e;rw[<-c]at f;refine A3<|A0<|F0 U U<|xN [3,18,19,20,21] [] U<|A3 ?_
  refine A4 U ?_ ?_<;>intro b<;>try simp only[SL]at b
  ·refine A6<|A3<|A8<|A3<|A0<|B4 U U U (fun _=>U) (by omega)<|y_I U<|y_A U (fun _=>U) ?_
   intro g5;refine xB U U U U U U U U U<|xN [3,5,18,19,20] [5] U<|A0<|y_M U<|y_B U ?_
   have o:=j i;have p:=k i (by omega);refine xC1 U U ((by have m:=Y8 (t:=t) (i:=i) (by omega);have h:=n (t.kids.getD i default) (by omega) (by omega);rw[<-K4]at h;exact h)) ⟨U,U,U⟩ U U fun l=> ?_
   refine D6 U U (B9 (by omega))<|y_S U<|xN [3,18,19,20] [] U<|A0<|D6 U U (B9 (by omega))<|y_M U<|xN [3,18,19,20] [] U ?_
   refine⟨(i+1,_),⟨by omega,by rw[R8,<-c]⟩,(by simp only;omega),⟨U,U,U,U,trivial⟩⟩
  refine D5<|A3<|A0<|y_M U<|y_S U<|xN [2] [] U<|A9<|C2 U U trivial ?_
  rw[c,show i=t.kids.length by omega,W5]
theorem b9w:D8 Tryz.f47=[0,2,4,11,3,7]:=by kernel_rfl
theorem e4e(s:List UInt8)(c:s.length<=1048576):CW (cxT oG) 47 [tV s]=some (iV (a9v s),[]):=by
 refine C5 U Tryz.func47 U ⟨by kernel_rfl,U,dT U,dT U,by decide⟩ b9w<|A3<|A0<|y_S U<|xN [0] [] U<|A3<|A0<|y_M U ?_
 apply xC U
 ·apply B0
  ·exact B2 U
  exact C8
 ·exact a6w s c
 refine⟨⟨U,U,U,dT U,U⟩,.inl U,B6,I7 U,fun _=>U,fun g7=> ?_⟩;refine y_M U<|y_E U<|y_E U<|y_A U (fun _=>U) ?_
 intro g3;refine xB U U U U U U U U U<|y_S U<|xN [3,4] [3] U<|A3<|A3<|A0<|y_M U<|H5 U<|xN [3,11] [3] U ?_
 refine A4 U ?_ ?_<;>intro b<;>try simp only[SL]at b
 ·refine A3<|A0<|y_S U<|xN [2] [] U<|A9<|C2 U U trivial ?_
  rw[b8h b]
  rfl
 refine A6<|A3<|A0<|y_B U ?_
 obtain⟨t,a,e,f⟩:=a5x b;rw[e8w a,K4];refine xC1 U U (f2g t (by omega)) ⟨U,U,U⟩ U U fun g13=> ?_
 refine y_S U<|xN [2] [] U<|A9<|C2 U U trivial ?_
 rw[a5t a]
theorem c9y:D8 Tryz.f125=[0,2]:=by kernel_rfl
theorem f0t(xs:List W8)(c:xs.length<=H6):CW (cxT oG) 125 [.own 1 (xs.map tV)]=some (.own 1 (xs.map tV),[]):=by
 refine C5 U Tryz.func125 U ⟨by kernel_rfl,U,dT U,dT U,by decide⟩ c9y<|A3<|A0 ?_
 (refine B1 U U (fun _=>U) ?_;intro g2)
 refine xN [0] [0] U<|A3<|A0<|y_M U<|y_M U<|H2 U U<|y_M U<|H2 U U ?_
 refine e6v U U U U U U (fun a=> ?_) (fun a=> ?_)
 ·skip
  (refine B1 U U (fun _=>U) ?_;intro g2)
  refine xN [2] [0,2] U<|A9<|I6 U U (by(simp;done)) (by rfl) trivial ?_
  (have b:xs=[]:=(by simpa using a);subst b;rfl)
 skip
 (refine xO U U (by simp) U (fun _=>U) (fun _=>U) ?_;intro g2)
 refine xN [2] [0,2] U<|A9<|I6 U U (by(simp;done)) (by exact A7 fun _=>U) trivial ?_
 rfl
theorem b6w:D8 Tryz.f26=[0,2,1,7,4,19,3]:=by kernel_rfl
theorem a6d(t:Pl)(g:(showP t).length<=1048576)(b:t.good):CW (cxT oG) 26 [trK t]=some (tV (showP t),[]):=by
 obtain⟨m,c⟩:∃m:Nat,t.sz<m:=⟨_,ZK _⟩;revert t
 induction m with
 |zero=>intro t g b c;exact absurd c (Yy _)
 |succ m C=>
  intro t g b c;have y:=a5b t;have q:=fun i=>Y8 (t:=t) (i:=i)
  have p:=fun i=>a8d b (i:=i)
  have k:=fun i h=>b8k (t:=t) h (i:=i)
  have f:=fun h=>b4o (t:=t) h
  refine C5 U Tryz.func26 U ⟨by kernel_rfl,U,dT U,dT U,by decide⟩ b6w<|A3<|A0<|P3 U U U (fun _=>I8 U) (fun _=>U) ?_
  intro g1;refine y_S U<|xN [1] [1] U<|A3<|A3<|A0<|y_F U<|y_L U<|H0 U U<|xN [1,7] [1] U ?_
  refine A4 U ?_ ?_<;>intro o<;>try simp only[SL]at o
  ·obtain⟨ns,rfl,v⟩:=Z3 b (by assumption)
   have F:=a4j v;have j:=e1e v;have B:=Z6 j;refine A3<|A0<|y_F U<|y_L U ?_
   refine xC1 U U (b0j ns (by omega) j) ⟨U,U,U⟩ U U fun g10=> ?_
   iterate 2 refine N6 U U (by simp only[H6,Zl,Zg,Zs];omega) ?_
   refine y_S U<|xN [2] [] U<|A9<|C2 U U trivial ?_
   rfl
  have e:t.op≠lW:=by assumption
  refine A6<|A3<|A0<|y_F U<|y_L U<|y_S U<|xN [1,3] [1] U<|A3<|A3<|A0<|y_S U<|xN [1,3,4] [1] U<|A8<|D7 (β:=Nat×W8) [(.t 1,_),(.h 1,_)] (fun(z:Nat×W8)=>match z with|(i,a)=>[(.t 4,iV i),(.t 3,tV a)]) (fun(z:Nat×W8)=>match z with|(i,a)=>i<=t.kids.length/\a=a3p t i) (fun(z:Nat×W8)=>match z with|(i,a)=>t.kids.length-i) (0,_) ⟨U,U,U,U,trivial⟩ ⟨Zt _,U⟩ ?_
  intro z s;obtain⟨i,a⟩:=z
  try dsimp only at s
  obtain⟨x,n⟩:=s;have l:=fun h=>k i e h
  rw[<-n]at l;refine A3<|A3<|A0<|y_M U<|y_F U<|y_L U<|B7 U U<|F0 U U<|xN [1,3,4,19] [1] U ?_
  refine A4 U ?_ ?_<;>intro o<;>try simp only[SL]at o
  ·refine A6<|A3<|A8<|A0<|y_M U<|N6 U U (by simp only[H6,Zl,Zg,Zs];omega)<|y_F U<|y_L U<|y_M U<|B4 U U U (fun _=>U) (by omega)<|y_I U ?_
   have D:=k i e (by omega);have E:=q i (by omega);refine xC1 U U ((by have u:=C (t.kids.getD i default) (by have:=c7e (t:=t) (i:=i) (by omega);omega) (p i (by omega)) (by omega);rw[<-K4]at u;exact u)) ⟨U,U,U⟩ U U fun w=> ?_
   refine N6 U U (by simp only[H6,Zl,Zg,Zs];omega)<|y_S U<|xN [1,3,4] [1] U<|A0<|y_M U<|D6 U U (B9 (by omega))<|y_S U<|xN [1,3,4] [1] U ?_
   refine⟨(i+1,_),⟨by omega,by rw[a3p,<-n]⟩,(by simp only;omega),⟨U,U,U,U,trivial⟩⟩
  refine D5<|A3<|A0<|y_M U<|y_S U<|xN [2] [] U<|A9<|C2 U U trivial ?_
  rw[n,show i=t.kids.length by omega,f e]
theorem d4r:D8 Tryz.f117=[0,2,3,1,17,4,28,29,38,42]:=by kernel_rfl
theorem f4u(t:Pl)(b:t.good):CW (cxT oG) 117 [trK t]=some (.tup [trV ((X2 t).getD t),bV (X2 t).isSome],[]):=by
 have g:=a5b t;have j:=e0j b;have f:=fun h=>e0j (a8d b (i:=0) h)
 refine C5 U Tryz.func117 U ⟨by kernel_rfl,U,dT U,dT U,by decide⟩ d4r<|A3<|A0<|P3 U U U (fun _=>I8 U) (fun _=>U) ?_
 intro g1;refine y_A U (fun _=>U) ?_;intro g2;refine y_S U<|xN [1,2] [1,2] U<|A3<|A3<|A0<|y_F U<|y_L U<|B7 U U<|a8f U U<|y_M U ?_
 refine D3 U U ?_ ?_<;>intro c<;>have e:=c<;>try simp only[SG]at e
 ·refine y_F U<|gT U U<|y_L U<|gT U U<|B4 U U U (fun _=>U) (by(change 0<_;omega))<|gT U U<|y_F U<|gT U U<|c1u U U U<|gT U U ?_
  rw[a4n];refine B7 U U<|gT U U<|a8f U U<|E8 U (by assumption) U U<|xN [1,2,17] [1,2] U ?_
  refine A4 U ?_ ?_<;>intro a<;>try simp only[SL]at a
  ·refine A3<|A0<|y_B U<|xB U U U U U U U U U<|y_S U<|xN [2,3] [2] U<|A9<|B8 (F3 U U U U (D9 U (D9 U (D9 U G8))) (C9 U U (C4 B3))) ?_
   (rw[c5l (by omega)];show AV.tup [trK t,bV false]=AV.tup [trV t,bV false];rw[K4])
  refine A6<|A3<|A0<|y_F U<|y_L U<|B4 U U U (fun _=>U) (by(change 0<_;omega))<|y_I U<|y_A U (fun _=>U) ?_
  intro g4;refine xB U U U U U U U U U<|xN [1,2,4] [1,2,4] U<|A3<|A3<|A0<|y_F U<|y_L U<|N6 U U (by simp only[H6,Zl,Zg,Zs];omega)<|y_F U<|y_L U<|N6 U U (by simp only[H6,Zl,Zg,Zs];omega)<|xN [1,2,4,28] [1,2,4] U<|A8<|A3<|A3<|A0<|H0 U U<|y_S U<|xN [1,2,4,28,29] [1,2,4] U ?_
  refine A4 U ?_ ?_<;>intro a<;>try simp only[SL]at a
  ·refine A6 ?_
   refine A4 U (fun a=> ?_) (fun a=>absurd a (by simp_all));refine A3<|A0<|y_F U<|y_L U ?_
   rw[a4n];refine J1 U U U (fun _=>U) (by show(0:Int)<=0/\(0:Int)<((t.kids.getD 0 default).kids.length:Int);omega)<|y_I U<|xB U U U U U U U U U<|y_S U<|xN [2,3] [2] U<|A9<|B8 (F3 U U U U (D9 U (D9 U (D9 U G8))) (C9 U U (C4 B3))) ?_
   (rw[c7v (t:=t) (k:=[114,101,118,32,114,101,118]) (by omega) (by omega) (by assumption) (by decide)];rfl)
  refine A3<|A0<|H0 U U<|y_S U<|xN [1,2,4,28,29] [1,2,4] U ?_
  refine A4 U ?_ ?_<;>intro a<;>try simp only[SL]at a
  ·refine A6 ?_
   refine A4 U (fun a=> ?_) (fun a=>absurd a (by simp_all));refine A3<|A0<|y_F U<|y_L U ?_
   rw[a4n];refine J1 U U U (fun _=>U) (by show(0:Int)<=0/\(0:Int)<((t.kids.getD 0 default).kids.length:Int);omega)<|y_I U<|xB U U U U U U U U U<|y_S U<|xN [2,3] [2] U<|A9<|B8 (F3 U U U U (D9 U (D9 U (D9 U G8))) (C9 U U (C4 B3))) ?_
   (rw[c7v (t:=t) (k:=[110,101,103,32,110,101,103]) (by omega) (by omega) (by assumption) (by decide)];rfl)
  refine A3<|A0<|H0 U U<|y_S U<|xN [1,2,4,28,29] [1,2,4] U ?_
  refine A4 U ?_ ?_<;>intro a<;>try simp only[SL]at a
  ·refine A6 ?_
   refine A4 U (fun a=> ?_) (fun a=>absurd a (by simp_all));refine A3<|A0<|y_F U<|y_L U ?_
   rw[a4n];refine J1 U U U (fun _=>U) (by show(0:Int)<=0/\(0:Int)<((t.kids.getD 0 default).kids.length:Int);omega)<|y_I U<|xB U U U U U U U U U<|y_S U<|xN [2,3] [2] U<|A9<|B8 (F3 U U U U (D9 U (D9 U (D9 U G8))) (C9 U U (C4 B3))) ?_
   (rw[c7v (t:=t) (k:=[100,105,102,102,32,115,117,109,115]) (by omega) (by omega) (by assumption) (by decide)];rfl)
  refine A0<|H0 U U<|y_S U<|xN [1,2,4,28,29] [1,2,4] U ?_
  refine A4 U ?_ ?_<;>intro a<;>try simp only[SL]at a
  ·refine A3<|A0<|y_F U<|y_L U ?_
   rw[a4n];refine J1 U U U (fun _=>U) (by show(0:Int)<=0/\(0:Int)<((t.kids.getD 0 default).kids.length:Int);omega)<|y_I U<|xB U U U U U U U U U<|y_S U<|xN [2,3] [2] U<|A9<|B8 (F3 U U U U (D9 U (D9 U (D9 U G8))) (C9 U U (C4 B3))) ?_
   (rw[c7v (t:=t) (k:=[115,117,109,115,32,100,105,102,102]) (by omega) (by omega) (by assumption) (by decide)];rfl)
  refine A3<|A3<|A0<|H0 U U<|y_S U<|xN [1,2,4,28,38] [1,2,4] U ?_
  refine A4 U ?_ ?_<;>intro a<;>try simp only[SL]at a
  ·refine A6 ?_
   refine A4 U (fun a=> ?_) (fun a=>absurd a (by simp_all));refine A3<|A0<|y_B U<|xB U U U U U U U U U<|y_S U<|xN [2,3] [2] U<|A9<|B8 (F3 U U U U (D9 U (D9 U (D9 U G8))) (C9 U U (C4 B3))) ?_
   (rw[e6b (t:=t) (k:=[115,111,114,116,32,115,111,114,116]) (by omega) (by omega) (by assumption) (by decide)];rfl)
  refine A0<|H0 U U<|y_S U<|xN [1,2,4,28,38] [1,2,4] U ?_
  refine A4 U ?_ ?_<;>intro a<;>try simp only[SL]at a
  ·refine A3<|A0<|y_B U<|xB U U U U U U U U U<|y_S U<|xN [2,3] [2] U<|A9<|B8 (F3 U U U U (D9 U (D9 U (D9 U G8))) (C9 U U (C4 B3))) ?_
   (rw[e6b (t:=t) (k:=[97,98,115,32,97,98,115]) (by omega) (by omega) (by assumption) (by decide)];rfl)
  refine A3<|A3<|A0<|H0 U U<|y_S U<|xN [1,2,4,28,42] [1,2,4] U ?_
  refine A4 U ?_ ?_<;>intro a<;>try simp only[SL]at a
  ·refine A6 ?_
   refine A4 U (fun a=> ?_) (fun a=>absurd a (by simp_all));refine A3<|A0<|y_F U<|y_L U<|y_F U<|y_L U<|I3 (fs:=[_,_,_]) U U U U U<|xB U U U U U U U U U<|y_S U<|xN [2,3] [2] U<|A9<|B8 (F3 U U U U (D9 U (I5 U (D9 U G8))) (C9 U U (C4 B3))) ?_
   (rw[c8x (t:=t) (k:=[115,111,114,116,32,114,101,118]) (by omega) (by omega) (by assumption) (by decide)];show AV.tup [AV.agg [tV t.op,AV.list [],AV.list (a7i (t.kids.getD 0 default))],bV true]=AV.tup [trV (.un t.op ((t.kids.getD 0 default).kids.getD 0 default)),bV true];rw[b7m (w:=t.op) (t:=t.kids.getD 0 default) (by omega)];rfl)
  refine A3<|A0<|H0 U U<|y_S U<|xN [1,2,4,28,42] [1,2,4] U ?_
  refine A4 U ?_ ?_<;>intro a<;>try simp only[SL]at a
  ·refine A6 ?_
   refine A4 U (fun a=> ?_) (fun a=>absurd a (by simp_all));refine A3<|A0<|y_F U<|y_L U<|y_F U<|y_L U<|I3 (fs:=[_,_,_]) U U U U U<|xB U U U U U U U U U<|y_S U<|xN [2,3] [2] U<|A9<|B8 (F3 U U U U (D9 U (I5 U (D9 U G8))) (C9 U U (C4 B3))) ?_
   (rw[c8x (t:=t) (k:=[97,98,115,32,110,101,103]) (by omega) (by omega) (by assumption) (by decide)];show AV.tup [AV.agg [tV t.op,AV.list [],AV.list (a7i (t.kids.getD 0 default))],bV true]=AV.tup [trV (.un t.op ((t.kids.getD 0 default).kids.getD 0 default)),bV true];rw[b7m (w:=t.op) (t:=t.kids.getD 0 default) (by omega)];rfl)
  refine A3<|A0<|H0 U U<|y_S U<|xN [1,2,4,28,42] [1,2,4] U ?_
  refine A4 U ?_ ?_<;>intro a<;>try simp only[SL]at a
  ·refine A6 ?_
   refine A4 U (fun a=> ?_) (fun a=>absurd a (by simp_all));refine A3<|A0<|y_F U<|y_L U<|y_F U<|y_L U<|I3 (fs:=[_,_,_]) U U U U U<|xB U U U U U U U U U<|y_S U<|xN [2,3] [2] U<|A9<|B8 (F3 U U U U (D9 U (I5 U (D9 U G8))) (C9 U U (C4 B3))) ?_
   (rw[c8x (t:=t) (k:=[116,111,116,97,108,32,115,111,114,116]) (by omega) (by omega) (by assumption) (by decide)];show AV.tup [AV.agg [tV t.op,AV.list [],AV.list (a7i (t.kids.getD 0 default))],bV true]=AV.tup [trV (.un t.op ((t.kids.getD 0 default).kids.getD 0 default)),bV true];rw[b7m (w:=t.op) (t:=t.kids.getD 0 default) (by omega)];rfl)
  refine A0<|H0 U U<|y_S U<|xN [1,2,4,42] [1,2,4] U ?_
  refine A4 U ?_ ?_<;>intro a<;>try simp only[SL]at a
  ·refine A3<|A0<|y_F U<|y_L U<|y_F U<|y_L U<|I3 (fs:=[_,_,_]) U U U U U<|xB U U U U U U U U U<|y_S U<|xN [2,3] [2] U<|A9<|B8 (F3 U U U U (D9 U (I5 U (D9 U G8))) (C9 U U (C4 B3))) ?_
   (rw[c8x (t:=t) (k:=[116,111,116,97,108,32,114,101,118]) (by omega) (by omega) (by assumption) (by decide)];show AV.tup [AV.agg [tV t.op,AV.list [],AV.list (a7i (t.kids.getD 0 default))],bV true]=AV.tup [trV (.un t.op ((t.kids.getD 0 default).kids.getD 0 default)),bV true];rw[b7m (w:=t.op) (t:=t.kids.getD 0 default) (by omega)];rfl)
  refine A6<|A3<|A0<|y_B U<|xB U U U U U U U U U<|y_S U<|xN [2,3] [2] U<|A9<|B8 (F3 U U U U (D9 U (D9 U (D9 U G8))) (C9 U U (C4 B3))) ?_
  (rw[d4d (by omega) (by omega),f1m (by simp only[goneL,List.mem_cons,List.not_mem_nil,or_false];rintro x (rfl|rfl|rfl|rfl|rfl|rfl|rfl|rfl|rfl|rfl)<;>assumption)];show AV.tup [trK t,bV false]=AV.tup [trV t,bV false];rw[K4])
 iterate 6 refine gF U U ?_
 refine E9 U (by assumption) U U<|xN [1,2,17] [1,2] U ?_
 refine A4 U (fun a=> ?_) (fun a=>absurd a (by decide));refine A3<|A0<|y_B U<|xB U U U U U U U U U<|y_S U<|xN [2,3] [2] U<|A9<|B8 (F3 U U U U (D9 U (D9 U (D9 U G8))) (C9 U U (C4 B3))) ?_
 (rw[c5l (by omega)];show AV.tup [trK t,bV false]=AV.tup [trV t,bV false];rw[K4])
theorem b9j:D8 Tryz.f91=[0,2,1,5,16,4,3,6,25,7,8,37,9,13]:=by kernel_rfl
theorem e4r(t:Pl)(s:t.sz<=1000)(e:t.good):CW (cxT oG) 91 [trK t]=some (.own 3 ((oneP t).map trV),[]):=by
 obtain⟨u,l⟩:∃u:Nat,t.sz<u:=⟨_,ZK _⟩;revert t
 induction u with
 |zero=>intro t s e l;exact absurd l (Yy _)
 |succ u G=>
  intro t s e l;have H:=a5b t;have o:=fun i (h:i<=t.kids.length)=>d3p (t:=t) h
  have q:=fun i j (h:i<t.kids.length)=>e8d (t:=t) (j:=j) h
  refine C5 U Tryz.func91 U ⟨by kernel_rfl,U,dT U,dT U,by decide⟩ b9j<|A3<|A0<|P3 U U U (fun _=>I8 U) (fun _=>U) ?_
  intro g1
  (refine B1 U U (fun _=>U) ?_;intro g2)
  refine xN [1] [1] U<|A3<|A0<|C0 (es:=ZA trV []) U U (dT U) U U (fun _=>B5 (A7 fun _=>U)) (fun _=>U) ?_
  intro g10
  (refine xO U U (by simp) U (fun _=>U) (fun _=>U) ?_;intro g3)
  refine xN [1,3] [1,3] U<|A3<|A0<|y_B U ?_
  apply xC U
  ·apply B0
   ·exact B2 U
   exact C8
  ·exact f4u t e
  refine⟨⟨U,U,U,dT U,U⟩,.inl U,B6,I7 U,fun _=>U,fun g13=> ?_⟩;refine y_M U<|y_E U<|y_E U<|y_A U (fun _=>U) ?_
  intro g4;refine xB U U U U U U U U U<|y_S U<|xN [1,3,4,5] [1,3,4] U<|A3<|A3<|A0<|y_M U<|xN [1,3,4,16] [1,3,4] U ?_
  refine A4 U ?_ ?_<;>intro f<;>try simp only[SL]at f
  ·refine A0<|y_M U<|y_B U<|C0 (es:=ZA trV [_]) U U (dT U) U U (fun _=>B5 (A7 fun _=>U)) (fun _=>U) ?_
   intro g19;refine xA U U U U (by simp) (by simp) U U U U U (fun _=>U) (by simp only[LN];omega) (fun _=>U) ?_;intro g20
   (refine xO U U (by simp) U (fun _=>U) (fun _=>U) ?_;intro g3)
   refine xN [1,3] [1,3] U<|A3<|A3<|A0<|y_S U<|xN [1,3,6] [1,3] U<|A8<|D7 (β:=Nat×List Pl×Nat) [(.t 1,_),(.h 1,_)] (fun(z:Nat×List Pl×Nat)=>match z with|(i,us,g)=>[(.t 6,iV i),(.h 3,.obj g 0 3 (us.map trV)),(.t 3,.sl 3 g none 0 us.length)]) (fun(z:Nat×List Pl×Nat)=>match z with|(i,us,g)=>i<=t.kids.length/\us=b1g t i) (fun(z:Nat×List Pl×Nat)=>match z with|(i,us,g)=>t.kids.length-i) (0,_,_) ⟨U,U,U,U,U,trivial⟩ ⟨Zt _,by(rw[b1g,ZS.1 f|>.choose_spec];rfl)⟩ ?_
   intro z c;obtain⟨i,us,g⟩:=z
   try dsimp only at c
   obtain⟨k,a⟩:=c;have m:=o i k;rw[<-a]at m;refine A3<|A3<|A0<|y_M U<|y_F U<|y_L U<|B7 U U<|F0 U U<|xN [1,3,6,25] [1,3] U ?_
   refine A4 U ?_ ?_<;>intro f<;>try simp only[SL]at f
   ·refine A6<|A3<|A8<|A3<|A0<|y_F U<|y_L U<|y_M U<|B4 U U U (fun _=>U) (by omega)<|y_I U ?_
    have D:=Y8 (t:=t) (i:=i) (by omega);have E:=a9g (t.kids.getD i default);apply xC U
    ·apply B0
     ·exact B2 U
     exact C8
    ·exact(by have p:=G (t.kids.getD i default) (by omega) (a8d e (by omega)) (by omega);rw[<-K4]at p;exact p)
    refine⟨⟨U,U,U,dT U,U⟩,.inl U,B6,G6,fun _=>U,fun v=> ?_⟩;simp only[Zh]
    (refine xO U U (by simp) U (fun _=>U) (fun _=>U) ?_;intro g7)
    refine xN [1,3,6,7] [1,3,7] U<|A3<|A0<|y_S U<|xN [1,3,6,7,8] [1,3,7] U<|A8<|D7 (β:=Nat×List Pl×Nat) [(.t 1,_),(.t 6,_),(.t 7,_),(.h 1,_),(.h 7,_)] (fun(z:Nat×List Pl×Nat)=>match z with|(j,vs,g1)=>[(.t 8,iV j),(.h 3,.obj g1 0 3 (vs.map trV)),(.t 3,.sl 3 g1 none 0 vs.length)]) (fun(z:Nat×List Pl×Nat)=>match z with|(j,vs,g1)=>j<=(oneP (t.kids.getD i default)).length/\vs=b6t t i j) (fun(z:Nat×List Pl×Nat)=>match z with|(j,vs,g1)=>(oneP (t.kids.getD i default)).length-j) (0,_,_) ⟨U,U,U,U,U,U,U,U,trivial⟩ ⟨Zt _,by rw[a,c5s]⟩ ?_
    intro z c;obtain⟨j,vs,g1⟩:=z
    try dsimp only at c
    obtain⟨C,b⟩:=c;have n:=q i j (by omega);rw[<-b]at n;refine A3<|A3<|A0<|y_M U<|y_M U<|H2 U U<|F0 U U<|xN [1,3,6,7,8,37] [1,3,7] U ?_
    refine A4 U ?_ ?_<;>intro f<;>try simp only[SL]at f
    ·refine A6<|A3<|A8<|A3<|A0<|C0 (es:=ZA trV []) U U (dT U) U U (fun _=>B5 (A7 fun _=>U)) (fun _=>U) ?_
     intro w;refine y_F U<|y_L U<|P2 U U U (by(simp;done)) U U U (dT U) (fun _=>⟨U,U,U⟩) (by simp only[H6];(simp only[Zs,Zg,Zl,ZI,Zh];omega)) (fun _=>U) ?_
     intro x
     (refine xO U U (by simp) U (fun _=>U) (fun _=>U) ?_;intro g9)
     refine xN [1,3,6,7,8,9] [1,3,7,9] U<|A3<|A0<|y_M U<|y_M U<|y_M U<|y_M U<|C6 U U U U (by omega) (by(simp;done)) U<|E4 U U (by omega) (fun _=>U) (fun _=>U) U<|C6 U U U U (by(simp;omega)) (by(simp;done)) U<|J4 U U U (by(simp;omega)) (fun _ _=>⟨U,U,dT U,dT U,U,U⟩) (by decide) (by exact B5 (A7 fun _=>U))<|xN [1,3,6,7,8,9] [1,3,7,9] U<|A0<|y_M U<|y_F U<|y_L U<|y_F U<|y_L U<|y_M U<|I3 (fs:=[_,_,_]) U U U U U<|b4y (mk:=2) (fs:=[_,_,_]) U U U (dT U) U U (c7y U (c7y U (e8e U (by simp) (fun _=>U) K1))) (fun _ _=>C7 (P8 (A7 fun _=>U) (by decide)) (C7 (B5 U) (I1 U))) ?_
     intro F y;simp only[J7,Zp,Zi];rw[e7q (by omega)];refine xA U U U U (by simp) (by simp) U U U U U (fun _=>U) (by simp only[LN];omega) (fun _=>U) ?_;intro B
     (refine xO U U (by simp) U (fun _=>U) (fun _=>U) ?_;intro g3)
     refine xN [1,3,6,7,8] [1,3,7] U<|A0<|y_M U<|D6 U U (B9 (by omega))<|y_S U<|xN [1,3,6,7,8] [1,3,7] U ?_
     refine⟨(j+1,_,_),⟨by omega,by rw[b];exact c5a (by omega)⟩,(by simp only;omega),⟨U,U,U,U,U,U,U,U,trivial⟩⟩
    refine D5<|A0<|y_M U<|D6 U U (B9 (by omega))<|y_S U<|xN [1,3,6] [1,3] U ?_
    refine⟨(i+1,_,_),⟨by omega,by rw[b];exact d2e (by omega)⟩,(by simp only;omega),⟨U,U,U,U,U,trivial⟩⟩
   refine D5<|A3<|A0<|y_M U ?_
   (refine xO U U (by simp) U (fun _=>U) (fun _=>U) ?_;intro g2)
   refine xN [2] [2] U<|A9<|I6 U U (by simp) (by exact A7 fun _=>U) trivial ?_
   rw[a,show i=t.kids.length by omega,c1s]
  refine A6<|A3<|A3<|A0<|y_S U<|xN [1,3,6] [1,3] U<|A8<|D7 (β:=Nat×List Pl×Nat) [(.t 1,_),(.h 1,_)] (fun(z:Nat×List Pl×Nat)=>match z with|(i,us,g)=>[(.t 6,iV i),(.h 3,.obj g 0 3 (us.map trV)),(.t 3,.sl 3 g none 0 us.length)]) (fun(z:Nat×List Pl×Nat)=>match z with|(i,us,g)=>i<=t.kids.length/\us=b1g t i) (fun(z:Nat×List Pl×Nat)=>match z with|(i,us,g)=>t.kids.length-i) (0,_,_) ⟨U,U,U,U,U,trivial⟩ ⟨Zt _,by(rw[b1g];simp_all)⟩ ?_
  intro z c;obtain⟨i,us,g⟩:=z
  try dsimp only at c
  obtain⟨k,a⟩:=c;have m:=o i k;rw[<-a]at m;refine A3<|A3<|A0<|y_M U<|y_F U<|y_L U<|B7 U U<|F0 U U<|xN [1,3,6,25] [1,3] U ?_
  refine A4 U ?_ ?_<;>intro f<;>try simp only[SL]at f
  ·refine A6<|A3<|A8<|A3<|A0<|y_F U<|y_L U<|y_M U<|B4 U U U (fun _=>U) (by omega)<|y_I U ?_
   have D:=Y8 (t:=t) (i:=i) (by omega);have E:=a9g (t.kids.getD i default);apply xC U
   ·apply B0
    ·exact B2 U
    exact C8
   ·exact(by have p:=G (t.kids.getD i default) (by omega) (a8d e (by omega)) (by omega);rw[<-K4]at p;exact p)
   refine⟨⟨U,U,U,dT U,U⟩,.inl U,B6,G6,fun _=>U,fun v=> ?_⟩;simp only[Zh]
   (refine xO U U (by simp) U (fun _=>U) (fun _=>U) ?_;intro g7)
   refine xN [1,3,6,7] [1,3,7] U<|A3<|A0<|y_S U<|xN [1,3,6,7,8] [1,3,7] U<|A8<|D7 (β:=Nat×List Pl×Nat) [(.t 1,_),(.t 6,_),(.t 7,_),(.h 1,_),(.h 7,_)] (fun(z:Nat×List Pl×Nat)=>match z with|(j,vs,g1)=>[(.t 8,iV j),(.h 3,.obj g1 0 3 (vs.map trV)),(.t 3,.sl 3 g1 none 0 vs.length)]) (fun(z:Nat×List Pl×Nat)=>match z with|(j,vs,g1)=>j<=(oneP (t.kids.getD i default)).length/\vs=b6t t i j) (fun(z:Nat×List Pl×Nat)=>match z with|(j,vs,g1)=>(oneP (t.kids.getD i default)).length-j) (0,_,_) ⟨U,U,U,U,U,U,U,U,trivial⟩ ⟨Zt _,by rw[a,c5s]⟩ ?_
   intro z c;obtain⟨j,vs,g1⟩:=z
   try dsimp only at c
   obtain⟨C,b⟩:=c;have n:=q i j (by omega);rw[<-b]at n;refine A3<|A3<|A0<|y_M U<|y_M U<|H2 U U<|F0 U U<|xN [1,3,6,7,8,37] [1,3,7] U ?_
   refine A4 U ?_ ?_<;>intro f<;>try simp only[SL]at f
   ·refine A6<|A3<|A8<|A3<|A0<|C0 (es:=ZA trV []) U U (dT U) U U (fun _=>B5 (A7 fun _=>U)) (fun _=>U) ?_
    intro w;refine y_F U<|y_L U<|P2 U U U (by(simp;done)) U U U (dT U) (fun _=>⟨U,U,U⟩) (by simp only[H6];(simp only[Zs,Zg,Zl,ZI,Zh];omega)) (fun _=>U) ?_
    intro x
    (refine xO U U (by simp) U (fun _=>U) (fun _=>U) ?_;intro g9)
    refine xN [1,3,6,7,8,9] [1,3,7,9] U<|A3<|A0<|y_M U<|y_M U<|y_M U<|y_M U<|C6 U U U U (by omega) (by(simp;done)) U<|E4 U U (by omega) (fun _=>U) (fun _=>U) U<|C6 U U U U (by(simp;omega)) (by(simp;done)) U<|J4 U U U (by(simp;omega)) (fun _ _=>⟨U,U,dT U,dT U,U,U⟩) (by decide) (by exact B5 (A7 fun _=>U))<|xN [1,3,6,7,8,9] [1,3,7,9] U<|A0<|y_M U<|y_F U<|y_L U<|y_F U<|y_L U<|y_M U<|I3 (fs:=[_,_,_]) U U U U U<|b4y (mk:=2) (fs:=[_,_,_]) U U U (dT U) U U (c7y U (c7y U (e8e U (by simp) (fun _=>U) K1))) (fun _ _=>C7 (P8 (A7 fun _=>U) (by decide)) (C7 (B5 U) (I1 U))) ?_
    intro F y;simp only[J7,Zp,Zi];rw[e7q (by omega)];refine xA U U U U (by simp) (by simp) U U U U U (fun _=>U) (by simp only[LN];omega) (fun _=>U) ?_;intro B
    (refine xO U U (by simp) U (fun _=>U) (fun _=>U) ?_;intro g3)
    refine xN [1,3,6,7,8] [1,3,7] U<|A0<|y_M U<|D6 U U (B9 (by omega))<|y_S U<|xN [1,3,6,7,8] [1,3,7] U ?_
    refine⟨(j+1,_,_),⟨by omega,by rw[b];exact c5a (by omega)⟩,(by simp only;omega),⟨U,U,U,U,U,U,U,U,trivial⟩⟩
   refine D5<|A0<|y_M U<|D6 U U (B9 (by omega))<|y_S U<|xN [1,3,6] [1,3] U ?_
   refine⟨(i+1,_,_),⟨by omega,by rw[b];exact d2e (by omega)⟩,(by simp only;omega),⟨U,U,U,U,U,trivial⟩⟩
  refine D5<|A3<|A0<|y_M U ?_
  (refine xO U U (by simp) U (fun _=>U) (fun _=>U) ?_;intro g2)
  refine xN [2] [2] U<|A9<|I6 U U (by simp) (by exact A7 fun _=>U) trivial ?_
  rw[a,show i=t.kids.length by omega,c1s]
theorem c9e:D8 Tryz.f98=[0,2,3,5,17,7,37,40,39,41,38,6,9,62,10,8,4]:=by kernel_rfl
theorem f0z(s:List UInt8)(R:s.length<=1048576)(hw:(splitB 32 s).length<=1000):CW (cxT (some rG)) 98 [tV s]=some (.own 1 (((M4 (splitB 32 s)).map (joinB 32)).map tV),[]):=by
 obtain⟨ws,l⟩:∃ws,ws=splitB 32 s:=⟨_,U⟩;rw[<-l];have T:ws.length<=1000:=by rw[l];exact hw
 have F:∀w∈ws,w.length<=1048576:=fun w h=>by rw[l]at h;have:=Z8 32 s w h;omega
 have D:=fun(i:Nat) (h:i<ws.length)=>F _ (L8 h)
 have E:(joinB 32 ws).length<=1048576:=by rw[l,b0b];exact R
 have N:1<=ws.length:=by rw[l];have:=b2s 32 s;cases h:splitB 32 s with|nil=>exact absurd h this|cons a b=>simp
 refine C5 U Tryz.func98 U ⟨by kernel_rfl,U,dT U,dT U,by decide⟩ c9e<|A3<|A0 ?_
 (refine B1 U U (fun _=>U) ?_;intro g2)
 refine xN [0] [] U<|A3<|A0<|y_M U ?_
 apply xC U
 ·apply B0
  ·exact B2 U
  apply B0
  ·exact B2 U
  exact C8
 ·exact d0i s 32 (by omega)
 refine⟨⟨U,U,U,dT U,U⟩,.inl U,B6,G6,fun _=>U,fun g12=> ?_⟩;rw[<-l]
 try simp only[Zh]
 (refine xO U U (by simp) U (fun _=>U) (fun _=>U) ?_;intro g3)
 refine xN [3] [3] U<|A3<|A0 ?_
 (refine B1 U U (fun _=>U) ?_;intro g4)
 refine xN [3,4] [3,4] U<|A3<|A3<|A0<|y_S U<|xN [3,4,5] [3,4] U<|A8<|D7 (β:=Nat×List W8×Nat) [(.t 3,_),(.h 3,_)] (fun(z:Nat×List W8×Nat)=>match z with|(i,us,g)=>[(.t 5,iV i),(.h 4,.obj g 0 1 (us.map tV)),(.t 4,.sl 4 g none 0 us.length)]) (fun(z:Nat×List W8×Nat)=>match z with|(i,us,g)=>i+1<=ws.length/\us=(hitsN ws i).map (joinB 32)) (fun(z:Nat×List W8×Nat)=>match z with|(i,us,g)=>ws.length-i) (0,[],_) ⟨U,U,U,U,U,trivial⟩ ⟨by omega,U⟩ ?_
 intro z C;obtain⟨i,us,g⟩:=z
 try dsimp only at C
 obtain⟨K,m⟩:=C;have S:us.length<=i:=by rw[m,Zh];exact c4f ws i
 refine A3<|A3<|A0<|y_M U<|D6 U U (B9 (by omega))<|y_M U<|H2 U U<|F0 U U<|xN [3,4,5,17] [3,4] U ?_
 refine A4 U ?_ ?_<;>intro c<;>try simp only[SL]at c
 ·refine A6<|A3<|A8<|A3<|A0<|d1j U U U<|y_M U<|y_M U<|C6 U U U U (by omega) (by(simp;done)) U<|E4 U U (by omega) (fun _=>U) (fun _=>U) U ?_
  have O:=D i (by omega);refine N6 U U (by simp only[H6,Zl,Zg,Zs];omega)<|y_M U<|y_M U<|D6 U U (B9 (by omega))<|C6 U U U U (by(simp;omega)) (by(simp;done)) U<|E4 U U (by(simp;omega)) (fun _=>U) (fun _=>U) U ?_
  have P:=D (i+1) (by omega);refine N6 U U (by simp only[H6,Zl,Zg,Zs];omega) ?_;rcases j:keyG ((ws.getD i default++[32])++ws.getD (i+1) default)with _|⟨x,y⟩
  ·skip
   refine d0z (u:= .undef) (b:=false) (v:= .agg [bV false,bV false]) U U (show(cxT (some rG)).mp rG=some goneTb from if_pos U) U ⟨U,U⟩ (by rw[b8t,j];rfl) U<|y_M U<|y_E U<|y_E U<|y_A U (fun _=>U) ?_
   intro g6;refine xB U U U U U U U U U<|y_S U ?_
   refine G7 ⟨fun _=>⟨by decide+kernel,by decide+kernel⟩,[(.t 3,_),(.t 4,_),(.t 5,_),(.t 6,_),(.t 7,_),(.h 3,_),(.h 4,_),(.h 6,_)],⟨U,U,U,U,U,U,U,U,U,U,U,U,U,U,U,U,trivial⟩,?_⟩;refine A3<|A3<|A0<|y_M U<|H5 U<|xN [3,4,5,6,37] [3,4,6] U ?_
   refine A4 U (fun c=> ?_) (fun c=>absurd c (by decide));refine D5<|A0<|y_M U<|D6 U U (B9 (by omega))<|y_S U<|xN [3,4,5] [3,4] U ?_
   refine⟨(i+1,_,_),⟨by omega,by rw[hitsN,ZZ,m,b8n,j];simp⟩,(by simp only;omega),⟨U,U,U,U,U,trivial⟩⟩
  skip
  refine d0z (u:= .undef) (b:=true) (v:= .agg [bV x,bV y]) U U (show(cxT (some rG)).mp rG=some goneTb from if_pos U) U ⟨U,U⟩ (by rw[b8t,j];rfl) U<|y_M U<|y_E U<|y_E U<|y_A U (fun _=>U) ?_
  intro g6;refine xB U U U U U U U U U<|y_S U ?_
  refine G7 ⟨fun _=>⟨by decide+kernel,by decide+kernel⟩,[(.t 3,_),(.t 4,_),(.t 5,_),(.t 6,_),(.t 7,_),(.h 3,_),(.h 4,_),(.h 6,_)],⟨U,U,U,U,U,U,U,U,U,U,U,U,U,U,U,U,trivial⟩,?_⟩;refine A3<|A3<|A0<|y_M U<|H5 U<|xN [3,4,5,6,37] [3,4,6] U ?_
  refine A4 U (fun c=>absurd c (by decide)) (fun c=> ?_);refine A6<|A3<|A0 ?_
  (refine B1 U U (fun _=>U) ?_;intro g8)
  refine xN [3,4,5,6,8] [3,4,6,8] U<|A3<|A3<|A0<|y_M U<|H2 U U<|y_M U<|xN [3,4,5,6,8,38,39,40] [3,4,6,8] U<|A8<|D7 (β:=Nat×List W8×Nat) [(.t 3,_),(.t 4,_),(.t 5,_),(.t 6,_),(.t 38,_),(.t 39,_),(.h 3,_),(.h 4,_),(.h 6,_)] (fun(z:Nat×List W8×Nat)=>match z with|(k,ls,g1)=>[(.t 40,iV k),(.h 8,.obj g1 0 1 (ls.map tV)),(.t 8,.sl 8 g1 none 0 ls.length)]) (fun(z:Nat×List W8×Nat)=>match z with|(k,ls,g1)=>k<=ws.length/\ls=leftN ws i x y k) (fun(z:Nat×List W8×Nat)=>match z with|(k,ls,g1)=>ws.length-k) (0,[],_) ⟨U,U,U,U,U,U,U,U,U,U,U,U,trivial⟩ ⟨Zt _,U⟩ ?_
  intro z C;obtain⟨k,ls,g1⟩:=z
  try dsimp only at C
  obtain⟨L,e⟩:=C;have M:ls.length<=k:=by rw[e];exact c5t ws i x y k
  refine A3<|A0<|F0 U U<|xN [3,4,5,6,8,38,39,40,41] [3,4,6,8] U<|A3 ?_
  refine A4 U ?_ ?_<;>intro c<;>try simp only[SL]at c
  ·refine A6<|A3<|A8<|A3<|A0<|y_M U<|C6 U U U U (by omega) (by(simp;done)) U<|E4 U U (by omega) (fun _=>U) (fun _=>U) U<|y_S U<|y_S U<|xN [3,4,5,6,8,9,10,38,39,40] [3,4,6,8] U<|A3<|A0<|y_M U<|y_M U<|M9 U U<|y_M U ?_
   refine D3 U U ?_ ?_<;>intro f<;>have q:=f<;>try simp only[SG]at q
   ·refine V6 U U U U U (by omega) U<|gT U U<|y_L U<|E9 U (by assumption) U U<|y_M U ?_
    refine D3 U U ?_ ?_<;>intro f<;>have q:=f<;>try simp only[SG]at q
    ·refine y_M U<|gT U U<|y_M U<|gT U U<|D6 U U (B9 (by omega))<|gT U U<|M9 U U<|gT U U<|y_M U ?_
     refine D3 U U ?_ ?_<;>intro f<;>have q:=f<;>try simp only[SG]at q
     ·refine V6 U U U U U (by omega) U<|gT U U<|y_L U<|gT U U<|E9 U (by assumption) U U<|E8 U (by assumption) U U<|H5 U<|xN [3,4,5,6,8,10,38,39,40,62] [3,4,6,8] U ?_
      refine A4 U ?_ ?_<;>intro c<;>try simp only[SL]at c
      ·refine A0<|y_M U<|y_M U<|C0 (es:=ZA tV [_]) U U (dT U) U U (fun _=>B5 (A7 fun _=>U)) (fun _=>U) ?_
       intro n;refine Q5 U U U U (by(simp;done)) (by simp) (by decide) U U U U (dT U) (fun _=>⟨U,U⟩) (by simp only[H6];omega) (fun _=>U) ?_;intro o
       (refine xO U U (by simp) U (fun _=>U) (fun _=>U) ?_;intro g8)
       refine xN [3,4,5,6,8,38,39,40] [3,4,6,8] U<|A0<|D6 U U (B9 (by omega))<|y_M U<|xN [3,4,5,6,8,38,39,40] [3,4,6,8] U ?_
       refine⟨(k+1,_,_),⟨by omega,by(exfalso;omega)⟩,(by simp only;omega),⟨U,U,U,U,U,U,U,U,U,U,U,U,trivial⟩⟩
      refine A6<|A0<|D6 U U (B9 (by omega))<|y_M U<|xN [3,4,5,6,8,38,39,40] [3,4,6,8] U ?_
      refine⟨(k+1,_,_),⟨by omega,by(exfalso;omega)⟩,(by simp only;omega),⟨U,U,U,U,U,U,U,U,U,U,U,U,trivial⟩⟩
     refine gF U U<|gT U U<|E8 U (by assumption) U U<|E8 U (by assumption) U U<|H5 U<|xN [3,4,5,6,8,10,38,39,40,62] [3,4,6,8] U ?_
     refine A4 U (fun c=> ?_) (fun c=>absurd c (by decide));refine A0<|y_M U<|y_M U<|C0 (es:=ZA tV [_]) U U (dT U) U U (fun _=>B5 (A7 fun _=>U)) (fun _=>U) ?_
     intro n;refine xA U U U U (by simp) (by simp) U U U U U (fun _=>U) (by simp only[LN];omega) (fun _=>U) ?_;intro o
     (refine xO U U (by simp) U (fun _=>U) (fun _=>U) ?_;intro g8)
     refine xN [3,4,5,6,8,38,39,40] [3,4,6,8] U<|A0<|D6 U U (B9 (by omega))<|y_M U<|xN [3,4,5,6,8,38,39,40] [3,4,6,8] U ?_
     refine⟨(k+1,_,_),⟨by omega,by exact c0j e (by rintro(⟨B,p⟩|⟨B,p⟩)<;>first|omega|exact ZH (p.symm.trans (show x=false by assumption)))⟩,(by simp only;omega),⟨U,U,U,U,U,U,U,U,U,U,U,U,trivial⟩⟩
    iterate 4 refine gF U U ?_
    refine a4z U U<|a4z U U<|gF U U<|E9 U (by assumption) U U<|H5 U<|xN [3,4,5,6,8,10,38,39,40,62] [3,4,6,8] U ?_
    refine A4 U (fun c=>absurd c (by decide)) (fun c=> ?_);refine A6<|A0<|D6 U U (B9 (by omega))<|y_M U<|xN [3,4,5,6,8,38,39,40] [3,4,6,8] U ?_
    refine⟨(k+1,_,_),⟨by omega,by exact c5v e (.inl ⟨by omega,by assumption⟩)⟩,(by simp only;omega),⟨U,U,U,U,U,U,U,U,U,U,U,U,trivial⟩⟩
   refine gF U U<|E8 U (by assumption) U U<|y_M U<|H1 U U U<|y_M U<|H1 U U U<|y_M U<|H1 U U U<|D6 U U (B9 (by omega))<|H1 U U U<|M9 U U<|H1 U U U<|y_M U ?_
   refine D3 U U ?_ ?_<;>intro f<;>have q:=f<;>try simp only[SG]at q
   ·refine V6 U U U U U (by omega) U<|gT U U<|y_L U<|H1 U U U<|E9 U (by assumption) U U<|E8 U U U U<|H5 U<|xN [3,4,5,6,8,10,38,39,40,62] [3,4,6,8] U ?_
    refine A4 U ?_ ?_<;>intro c<;>try simp only[SL]at c
    ·refine A0<|y_M U<|y_M U<|C0 (es:=ZA tV [_]) U U (dT U) U U (fun _=>B5 (A7 fun _=>U)) (fun _=>U) ?_
     intro n;refine xA U U U U (by simp) (by simp) U U U U U (fun _=>U) (by simp only[LN];omega) (fun _=>U) ?_;intro o
     (refine xO U U (by simp) U (fun _=>U) (fun _=>U) ?_;intro g8)
     refine xN [3,4,5,6,8,38,39,40] [3,4,6,8] U<|A0<|D6 U U (B9 (by omega))<|y_M U<|xN [3,4,5,6,8,38,39,40] [3,4,6,8] U ?_
     refine⟨(k+1,_,_),⟨by omega,by exact c0j e (by rintro(⟨B,p⟩|⟨B,p⟩)<;>first|omega|exact ZH (p.symm.trans (show y=false by assumption)))⟩,(by simp only;omega),⟨U,U,U,U,U,U,U,U,U,U,U,U,trivial⟩⟩
    refine A6<|A0<|D6 U U (B9 (by omega))<|y_M U<|xN [3,4,5,6,8,38,39,40] [3,4,6,8] U ?_
    refine⟨(k+1,_,_),⟨by omega,by exact c5v e (.inr ⟨by omega,by assumption⟩)⟩,(by simp only;omega),⟨U,U,U,U,U,U,U,U,U,U,U,U,trivial⟩⟩
   refine gF U U<|H1 U U U<|E8 U (by assumption) U U<|E8 U U U U<|H5 U<|xN [3,4,5,6,8,10,38,39,40,62] [3,4,6,8] U ?_
   refine A4 U (fun c=> ?_) (fun c=>absurd c (by decide));refine A0<|y_M U<|y_M U<|C0 (es:=ZA tV [_]) U U (dT U) U U (fun _=>B5 (A7 fun _=>U)) (fun _=>U) ?_
   intro n;refine xA U U U U (by simp) (by simp) U U U U U (fun _=>U) (by simp only[LN];omega) (fun _=>U) ?_;intro o
   (refine xO U U (by simp) U (fun _=>U) (fun _=>U) ?_;intro g8)
   refine xN [3,4,5,6,8,38,39,40] [3,4,6,8] U<|A0<|D6 U U (B9 (by omega))<|y_M U<|xN [3,4,5,6,8,38,39,40] [3,4,6,8] U ?_
   refine⟨(k+1,_,_),⟨by omega,by exact c0j e (by rintro(⟨B,p⟩|⟨B,p⟩)<;>omega)⟩,(by simp only;omega),⟨U,U,U,U,U,U,U,U,U,U,U,U,trivial⟩⟩
  refine D5<|A0<|y_M U<|y_M U ?_
  apply xC U
  ·apply B0
   ·exact E6 U U U (by(simp;done)) (fun _=>U)
   apply B0
   ·exact B2 U
   exact C8
  ·exact d9g ls 32 (by simp only[H6];omega) (by rw[e];have:=e4d (i:=i) (x:=x) (y:=y) E (show k=ws.length by omega);simp only[H6];omega)
  refine⟨⟨U,U,U,dT U,U⟩,.inr ⟨U,U⟩,B6,F7 U,fun _=>U,fun G=> ?_⟩;refine C0 (es:=ZA tV [_]) U U (dT U) U U (fun _=>B5 (A7 fun _=>U)) (fun _=>U) ?_;intro H;refine xA U U U U (by simp) (by simp) U U U U U (fun _=>U) (by simp only[LN];omega) (fun _=>U) ?_;intro I
  (refine xO U U (by simp) U (fun _=>U) (fun _=>U) ?_;intro g4)
  refine xN [3,4,5] [3,4] U<|A0<|y_M U<|D6 U U (B9 (by omega))<|y_S U<|xN [3,4,5] [3,4] U ?_
  refine⟨(i+1,_,_),⟨by omega,by rw[hitsN,ZZ,m,b8n,j];(rw[e,show k=ws.length by omega];rfl)⟩,(by simp only;omega),⟨U,U,U,U,U,trivial⟩⟩
 refine D5<|A3<|A0<|y_M U ?_
 apply xC U
 ·apply B0
  ·exact b1s U U (by(simp;done)) (A7 fun _=>U)
  exact C8
 ·exact f0t us (by simp only[H6];omega)
 refine⟨⟨U,U,U,dT U,U⟩,.inl U,B6,G6,fun _=>U,fun J=> ?_⟩;simp only[Zh]
 (refine xO U U (by simp) U (fun _=>U) (fun _=>U) ?_;intro g2)
 refine xN [2] [2] U<|A9<|I6 U U (by simp) (by exact A7 fun _=>U) trivial ?_
 rw[m,show i=ws.length-1 by omega,c1l]
theorem c0l:D8 Tryz.f56=[0,2,1,3,8]:=by kernel_rfl
theorem e4s(t:Pl)(m:t.sz<=1000)(f:t.good)(i:t.wf):CW (cxT oG) 56 [trK t]=some (trV (normP t),[]):=by
 refine C5 U Tryz.func56 U ⟨by kernel_rfl,U,dT U,dT U,by decide⟩ c0l<|A3<|A0<|P3 U U U (fun _=>I8 U) (fun _=>U) ?_
 intro g1;refine y_A U (fun _=>U) ?_;intro g2;refine xN [1,2] [1,2] U<|A8 ?_
 rw[<-K4];refine D7 (β:=Pl) [(.t 1,_),(.t 2,_),(.h 2,_)] (fun(u:Pl)=>[(.h 1,.obj g1 3 3 [trV u])]) (fun(u:Pl)=>u.sz<=t.sz/\u.good/\u.wf/\normP u=normP t) (fun(u:Pl)=>u.sz) t ⟨U,U,U,U,trivial⟩ ⟨Zd _,f,i,U⟩ ?_;intro u j;obtain⟨n,b,e,c⟩:=j;refine A8<|A3<|A0<|y_B U ?_
 rw[K4];apply xC U
 ·apply B0
  ·exact B2 U
  exact C8
 ·exact e4r u (by omega) b
 refine⟨⟨U,U,U,dT U,U⟩,.inl U,B6,G6,fun _=>U,fun g5=> ?_⟩;simp only[Zh]
 (refine xO U U (by simp) U (fun _=>U) (fun _=>U) ?_;intro g3)
 refine xN [1,2,3] [1,2,3] U<|A3<|A3<|A0<|y_M U<|H2 U U<|M9 U U<|xN [1,2,3,8] [1,2,3] U ?_
 refine A4 U ?_ ?_<;>intro k<;>try simp only[SL]at k
 ·refine A3<|A0<|y_B U<|xB U U U U U U U U U<|xN [2] [2] U<|A9<|B8 (F3 U U U U (D9 U (D9 U (D9 U G8))) (C4 B3)) ?_
  rw[<-c,a1o (ZT.1 (by omega))];exact(K4 u).symm
 have a:(oneP u).getD 0 default∈oneP u:=L8 (by omega);have g:=U1 u e _ a;refine A6<|A0<|y_M U<|C6 U U U U (by(change 0<_;omega)) (by(simp;done)) U<|E4 U U (by(change 0<_;omega)) (fun _=>U) (fun _=>U) U<|xB U U U U U U U U U<|xN [1,2] [1,2] U ?_
 try rw[l]
 refine⟨((oneP u).getD 0 default),⟨by omega,a8o u b _ a,g.1,by rw[<-c];exact d1w e a⟩,(by omega),⟨U,U,U,U,trivial⟩⟩
theorem c1z:D8 Tryz.f71=[0,2,3,8]:=by kernel_rfl
theorem e4x(t:Pl)(g:t.wf)(m:t.sz<=1000)(k:(showP t).length<=1048576):CW (cxT (some rG)) 71 [tV (showP t)]=some (tV (showP (normP t)),[]):=by
 refine C5 U Tryz.func71 U ⟨by kernel_rfl,U,dT U,dT U,by decide⟩ c1z<|A3<|A0<|y_S U<|xN [0] [] U<|A8<|a5l (β:=Pl) (fun(u:Pl)=>[(.t 0,tV (showP u))]) (fun(u:Pl)=>u.sz<=t.sz/\u.wf/\(showP u).length<=(showP t).length/\normP u=normP t) (fun(u:Pl)=>u.sz) t ⟨U,trivial⟩ ⟨Zd _,g,Zd _,U⟩ ?_
 intro u i;obtain⟨o,b,n,c⟩:=i;refine A8<|A3<|A0<|y_M U ?_
 apply xC U
 ·apply B0
  ·exact B2 U
  exact C8
 ·exact(by have h:=f0z (rG:=rG) (showP u) (by omega) (by rw[c1e b];omega);rw[d6j b]at h;exact h)
 refine⟨⟨U,U,U,dT U,U⟩,.inl U,B6,G6,fun _=>U,fun g5=> ?_⟩;simp only[Zh]
 (refine xO U U (by simp) U (fun _=>U) (fun _=>U) ?_;intro g3)
 refine xN [0,3] [3] U<|A3<|A3<|A0<|y_M U<|H2 U U<|M9 U U<|xN [0,3,8] [3] U ?_
 refine A4 U ?_ ?_<;>intro j<;>try simp only[SL]at j
 ·refine A3<|A0<|y_M U<|y_S U<|xN [2] [] U<|A9<|C2 U U trivial ?_
  rw[<-c,a1o (ZT.1 (by omega))]
 have a:(oneP u).getD 0 default∈oneP u:=L8 (by omega);have f:=U1 u b _ a;have l:=b2h u _ a;have e:((oneP u).map showP).getD 0 default=showP ((oneP u).getD 0 default):=by rw[Zc,Zc,List.getElem?_map,List.getElem?_eq_getElem (by omega)];rfl
 refine A6<|A0<|y_M U<|C6 U U U U (by(change 0<_;omega)) (by(simp;done)) U<|E4 U U (by(simp;omega)) (fun _=>U) (fun _=>U) U<|y_S U<|xN [0] [] U ?_
 try rw[e]
 refine⟨((oneP u).getD 0 default),⟨by omega,f.1,by omega,by rw[<-c];exact d1w b a⟩,(by omega),⟨U,trivial⟩⟩
theorem c7g:D8 Tryz.f136=[0,2]:=by kernel_rfl
theorem c6v(xs:List Int)(c:xs.length<=H6):CW (cxT oG) 136 [.own 1 (xs.map iV)]=some (.own 1 (xs.map iV),[]):=by
 refine C5 U Tryz.func136 U ⟨by kernel_rfl,U,dT U,dT U,by decide⟩ c7g<|A3<|A0 ?_
 (refine B1 U U (fun _=>U) ?_;intro g2)
 refine xN [0] [0] U<|A3<|A0<|y_M U<|y_M U<|H2 U U<|y_M U<|H2 U U ?_
 refine e6v U U U U U U (fun a=> ?_) (fun a=> ?_)
 ·skip
  (refine B1 U U (fun _=>U) ?_;intro g2)
  refine xN [2] [0,2] U<|A9<|I6 U U (by(simp;done)) (by rfl) trivial ?_
  (have b:xs=[]:=(by simpa using a);subst b;rfl)
 skip
 (refine xO U U (by simp) U (fun _=>U) (fun _=>U) ?_;intro g2)
 refine xN [2] [0,2] U<|A9<|I6 U U (by(simp;done)) (by exact A7 fun _=>U) trivial ?_
 rfl
theorem c9g:D8 Tryz.f131=[0,2]:=by kernel_rfl
theorem e0d(x:List Int)(a:x.length<=1048576):CW (cxT oG) 131 [L x]=some (.own 1 (x.map iV),[]):=by
 refine C5 U Tryz.func131 U ⟨by kernel_rfl,U,dT U,dT U,by decide⟩ c9g<|A3<|A0 ?_
 (refine B1 U U (fun _=>U) ?_;intro g2)
 refine xN [0] [] U<|A3<|A0<|y_M U ?_
 apply xC U
 ·apply B0
  ·exact B2 U
  exact C8
 ·exact d0l x (by simp only[H6];omega)
 refine⟨⟨U,U,U,dT U,U⟩,.inl U,B6,G6,fun _=>U,fun g4=> ?_⟩;simp only[Zh];apply xC U
 ·apply B0
  ·exact b1s U U (by(simp;done)) (A7 fun _=>U)
  exact C8
 ·exact c6v x (by simp only[H6];omega)
 refine⟨⟨U,U,U,dT U,U⟩,.inl U,B6,G6,fun _=>U,fun g5=> ?_⟩;simp only[Zh]
 (refine xO U U (by simp) U (fun _=>U) (fun _=>U) ?_;intro g2)
 refine xN [2] [2] U<|A9<|I6 U U (by simp) (by exact A7 fun _=>U) trivial ?_
 rfl
theorem d4c:D8 Tryz.f97=[0,2,1,10,17,16,18,15,5,3]:=by kernel_rfl
theorem f4t(t:Pl)(q:(showP t).length<=1048576)(f:t.good):CW (cxT oG) 97 [trK t]=some (tV (showP t),[]):=by
 obtain⟨w,k⟩:∃w:Nat,t.sz<w:=⟨_,ZK _⟩;revert t
 induction w with
 |zero=>intro t q f k;exact absurd k (Yy _)
 |succ w y=>
  intro t q f k;have D:=a5b t;have p:=fun i=>Y8 (t:=t) (i:=i)
  have o:=fun i=>a8d f (i:=i)
  have u:=fun i h=>b8k (t:=t) h (i:=i)
  have g:=fun h=>b4o (t:=t) h
  have b:t.op=lW->t.kids.length=0/\R9 t.ns=showP t:=fun e=>by obtain⟨ns,rfl,_⟩:=Z3 f e;exact⟨U,U⟩
  have v:=f2m f;have F:=a4j v;have s:=e1e v;have E:=Z6 s;refine C5 U Tryz.func97 U ⟨by kernel_rfl,U,dT U,dT U,by decide⟩ d4c<|A3<|A0<|P3 U U U (fun _=>I8 U) (fun _=>U) ?_
  intro g1;refine y_S U<|xN [1] [1] U<|A3<|A0<|y_F U<|y_L U<|y_S U<|xN [1,3] [1] U<|A3<|A3<|A0<|y_F U<|y_L U<|H0 U U<|xN [1,3,10] [1] U ?_
  refine A4 U ?_ ?_<;>intro m<;>try simp only[SL]at m
  ·refine A0<|y_F U<|y_L U ?_
   refine xC1 U U (a7v t.ns (by omega) s) ⟨U,U,U⟩ U U fun g13=> ?_
   refine y_S U<|xN [1,3] [1] U<|A3<|A3<|A0<|y_F U<|y_L U<|B7 U U<|y_M U<|xN [3,15,16,17] [] U<|A8<|D7 (β:=Nat×W8) [(.t 15,_),(.t 16,_)] (fun(z:Nat×W8)=>match z with|(i,a)=>[(.t 17,iV i),(.t 3,tV a)]) (fun(z:Nat×W8)=>match z with|(i,a)=>i<=t.kids.length/\(t.op=lW->a=showP t)/\(t.op≠lW->a=a3p t i)) (fun(z:Nat×W8)=>match z with|(i,a)=>t.kids.length-i) (0,_) ⟨U,U,U,U,trivial⟩ ⟨Zt _,by exact fun e=>(b e).2,by exact fun h=>absurd (by assumption) h⟩ ?_
   intro z l;obtain⟨i,a⟩:=z
   try dsimp only at l
   obtain⟨x,j,c⟩:=l;refine A3<|A0<|F0 U U<|xN [3,15,16,17,18] [] U<|A3 ?_
   refine A4 U ?_ ?_<;>intro m<;>try simp only[SL]at m
   ·refine A6<|A3<|A8<|A3<|A0<|B4 U U U (fun _=>U) (by omega)<|y_I U<|y_A U (fun _=>U) ?_
    intro g5;refine xB U U U U U U U U U<|xN [3,5,15,16,17] [5] U<|A0<|y_M U<|y_B U ?_
    have B:=u i (fun e=>by have:=(b e).1;omega) (by omega);have C:=p i (by omega);rw[c (fun e=>by have:=(b e).1;omega)];refine xC1 U U ((by have n:=y (t.kids.getD i default) (by have:=c7e (t:=t) (i:=i) (by omega);omega) (o i (by omega)) (by omega);rw[<-K4]at n;exact n)) ⟨U,U,U⟩ U U fun g23=> ?_
    iterate 2 refine N6 U U (by simp only[H6,Zl,Zg,Zs];omega) ?_
    refine y_S U<|xN [3,15,16,17] [] U<|A0<|D6 U U (B9 (by omega))<|y_M U<|xN [3,15,16,17] [] U ?_
    refine⟨(i+1,_),⟨by omega,fun e=>by have:=(b e).1;omega,fun e=>by rw[a3p];simp⟩,(by simp only;omega),⟨U,U,U,U,trivial⟩⟩
   refine D5<|A3<|A0<|y_M U<|y_S U<|xN [2] [] U<|A9<|C2 U U trivial ?_
   by_cases e:t.op=lW
   ·rw[j e]
   rw[c e,show i=t.kids.length by omega,g e]
  refine A6<|A3<|A3<|A0<|y_F U<|y_L U<|B7 U U<|y_M U<|xN [3,15,16,17] [] U<|A8<|D7 (β:=Nat×W8) [(.t 15,_),(.t 16,_)] (fun(z:Nat×W8)=>match z with|(i,a)=>[(.t 17,iV i),(.t 3,tV a)]) (fun(z:Nat×W8)=>match z with|(i,a)=>i<=t.kids.length/\(t.op=lW->a=showP t)/\(t.op≠lW->a=a3p t i)) (fun(z:Nat×W8)=>match z with|(i,a)=>t.kids.length-i) (0,_) ⟨U,U,U,U,trivial⟩ ⟨Zt _,by exact fun e=>absurd e (by assumption),by exact fun _=>U⟩ ?_
  intro z l;obtain⟨i,a⟩:=z
  try dsimp only at l
  obtain⟨x,j,c⟩:=l;refine A3<|A0<|F0 U U<|xN [3,15,16,17,18] [] U<|A3 ?_
  refine A4 U ?_ ?_<;>intro m<;>try simp only[SL]at m
  ·refine A6<|A3<|A8<|A3<|A0<|B4 U U U (fun _=>U) (by omega)<|y_I U<|y_A U (fun _=>U) ?_
   intro g5;refine xB U U U U U U U U U<|xN [3,5,15,16,17] [5] U<|A0<|y_M U<|y_B U ?_
   have B:=u i (fun e=>by have:=(b e).1;omega) (by omega);have C:=p i (by omega);rw[c (fun e=>by have:=(b e).1;omega)];refine xC1 U U ((by have n:=y (t.kids.getD i default) (by have:=c7e (t:=t) (i:=i) (by omega);omega) (o i (by omega)) (by omega);rw[<-K4]at n;exact n)) ⟨U,U,U⟩ U U fun g23=> ?_
   iterate 2 refine N6 U U (by simp only[H6,Zl,Zg,Zs];omega) ?_
   refine y_S U<|xN [3,15,16,17] [] U<|A0<|D6 U U (B9 (by omega))<|y_M U<|xN [3,15,16,17] [] U ?_
   refine⟨(i+1,_),⟨by omega,fun e=>by have:=(b e).1;omega,fun e=>by rw[a3p];simp⟩,(by simp only;omega),⟨U,U,U,U,trivial⟩⟩
  refine D5<|A3<|A0<|y_M U<|y_S U<|xN [2] [] U<|A9<|C2 U U trivial ?_
  by_cases e:t.op=lW
  ·rw[j e]
  rw[c e,show i=t.kids.length by omega,g e]
theorem b9m:D8 Tryz.f59=[0,2,4,10,5,3,27]:=by kernel_rfl
theorem c4z(xs:List Int)(y:xs.length<=1000):CW (cxT oG) 59 [L xs]=some (.own 1 ((S6 xs).map iV),[]):=by
 refine C5 U Tryz.func59 U ⟨by kernel_rfl,U,dT U,dT U,by decide⟩ b9m<|A3<|A0 ?_
 (refine B1 U U (fun _=>U) ?_;intro g2)
 refine xN [0] [] U<|A3<|A0<|C0 (es:=ZA iV []) U U (dT U) U U (fun _=>B5 (A7 fun _=>U)) (fun _=>U) ?_
 intro g6
 (refine xO U U (by simp) U (fun _=>U) (fun _=>U) ?_;intro g3)
 refine xN [0,3] [3] U<|A3<|A3<|A0<|y_S U<|xN [0,3,4] [3] U<|A8<|D7 (β:=Nat×List Int×Nat) [(.t 0,_)] (fun(z:Nat×List Int×Nat)=>match z with|(i,out,g)=>[(.t 4,iV i),(.t 3,.sl 3 g none 0 out.length),(.h 3,.obj g 0 1 (out.map iV))]) (fun(z:Nat×List Int×Nat)=>match z with|(i,out,g)=>i<=xs.length/\out=S6 (xs.take i)) (fun(z:Nat×List Int×Nat)=>match z with|(i,out,g)=>xs.length-i) (0,[],_) ⟨U,U,U,U,trivial⟩ ⟨Zt _,U⟩ ?_
 intro z l;obtain⟨i,out,g⟩:=z
 try dsimp only at l
 obtain⟨w,b⟩:=l;have x:out.length=i:=by rw[b,Q6,ZU];omega
 refine A3<|A3<|A0<|y_M U<|y_M U<|B7 U U<|F0 U U<|xN [0,3,4,10] [3] U ?_
 refine A4 U ?_ ?_<;>intro c<;>try simp only[SL]at c
 ·refine A6<|A3<|A8<|A3<|A0<|y_S U<|xN [0,3,4,5] [3] U<|A3<|A8<|D7 (β:=Nat) [(.t 0,_),(.t 3,_),(.t 4,_),(.h 3,_)] (fun(k:Nat)=>[(.t 5,iV k)]) (fun(k:Nat)=>k<=out.length/\∀j,j<k->out.getD j default<=xs.getD i default) (fun(k:Nat)=>out.length-k) 0 ⟨U,U,U,U,U,trivial⟩ ⟨Zt _,fun j h=>by omega⟩ ?_
  intro k l;obtain⟨f,e⟩:=l;refine A3<|A3<|A0<|y_M U<|y_M U<|H2 U U<|F0 U U<|y_M U ?_
  refine D3 U U ?_ ?_<;>intro s<;>have v:=s<;>try simp only[SG]at v
  ·refine y_M U<|gT U U<|y_M U<|gT U U<|C6 U U U U (by omega) (by(simp;done)) U<|gT U U<|E4 U U (by omega) (fun _=>U) (fun _=>U) U<|gT U U<|y_M U<|gT U U<|y_M U<|gT U U<|B4 U U U (fun _=>U) (by omega)<|gT U U<|y_I U<|gT U U<|a3j U U<|E9 U (by assumption) U U ?_
   refine G7 ⟨fun _=>⟨by decide+kernel,by decide+kernel⟩,[(.t 0,_),(.t 3,_),(.t 4,_),(.t 5,_),(.t 27,_),(.h 3,_)],⟨U,U,U,U,U,U,U,U,U,U,U,U,trivial⟩,?_⟩;refine A4 U ?_ ?_<;>intro c<;>try simp only[SL]at c
   ·refine A6<|A8<|A0<|y_M U<|D6 U U (B9 (by omega))<|y_S U<|xN [0,3,4,5] [3] U ?_
    refine⟨k+1,⟨by omega,fun a u=>by rcases Ys.1 u with h|h;exact e a h;subst h;exact c⟩,(by omega),⟨U,U,U,U,U,trivial⟩⟩
   refine D5<|A0<|C0 (es:=ZA iV []) U U (dT U) U U (fun _=>B5 (A7 fun _=>U)) (fun _=>U) ?_
   intro m;refine y_M U<|y_M U<|a3i U U U (G2 U) (by omega) U<|a2n U U U U (by decide) U (by(simp;done)) (by omega) U U U (dT U) (fun _=>⟨U,U,U⟩) (by simp only[H6];(simp only[Zs,Zg,Zl,ZI,Zh];omega)) (fun _=>U) ?_
   intro n;refine y_M U<|y_M U<|B4 U U U (fun _=>U) (by omega)<|y_I U<|C0 (es:=ZA iV [_]) U U (dT U) U U (fun _=>B5 (A7 fun _=>U)) (fun _=>U) ?_
   intro o;refine Q5 U U U U (by(simp;done)) (by simp) (by decide) U U U U (dT U) (fun _=>⟨U,U⟩) (by simp only[H6];(simp;omega)) (fun _=>U) ?_;intro p;refine y_M U<|y_M U<|a7s U U U J9 (G2 U) (by omega) U<|a2n U U U U (by decide) U (by(simp;done)) (by omega) U U U (dT U) (fun _=>⟨U,U,U⟩) (by simp only[H6];(simp;omega)) (fun _=>U) ?_
   intro q
   (refine xO U U (by simp) U (fun _=>U) (fun _=>U) ?_;intro g3)
   refine G7 ⟨fun _=>⟨by decide+kernel,by decide+kernel⟩,[(.t 0,_),(.t 3,_),(.t 4,_),(.h 3,_)],⟨U,U,U,U,U,U,U,U,trivial⟩,?_⟩;refine A0<|y_M U<|D6 U U (B9 (by omega))<|y_S U<|xN [0,3,4] [3] U ?_
   refine⟨(i+1,_,_),?_,(by simp only;omega),⟨U,U,U,U,trivial⟩⟩;exact⟨by omega,by rw[c0f (by omega),<-b];exact b5g (b▸a0m _) f e fun h=>by omega⟩
  iterate 8 refine gF U U ?_
  refine E8 U (by assumption) U U ?_;refine G7 ⟨fun _=>⟨by decide+kernel,by decide+kernel⟩,[(.t 0,_),(.t 3,_),(.t 4,_),(.t 5,_),(.t 27,_),(.h 3,_)],⟨U,U,U,U,U,U,U,U,U,U,U,U,trivial⟩,?_⟩;refine A4 U (fun c=>absurd c (by decide)) (fun c=> ?_);refine D5<|A0<|C0 (es:=ZA iV []) U U (dT U) U U (fun _=>B5 (A7 fun _=>U)) (fun _=>U) ?_
  intro m;refine y_M U<|y_M U<|a3i U U U (G2 U) (by omega) U<|a2n U U U U (by decide) U (by(simp;done)) (by omega) U U U (dT U) (fun _=>⟨U,U,U⟩) (by simp only[H6];(simp only[Zs,Zg,Zl,ZI,Zh];omega)) (fun _=>U) ?_
  intro n;refine y_M U<|y_M U<|B4 U U U (fun _=>U) (by omega)<|y_I U<|C0 (es:=ZA iV [_]) U U (dT U) U U (fun _=>B5 (A7 fun _=>U)) (fun _=>U) ?_
  intro o;refine Q5 U U U U (by(simp;done)) (by simp) (by decide) U U U U (dT U) (fun _=>⟨U,U⟩) (by simp only[H6];(simp;omega)) (fun _=>U) ?_;intro p;refine y_M U<|y_M U<|a7s U U U J9 (G2 U) (by omega) U<|a2n U U U U (by decide) U (by(simp;done)) (by omega) U U U (dT U) (fun _=>⟨U,U,U⟩) (by simp only[H6];(simp;omega)) (fun _=>U) ?_
  intro q
  (refine xO U U (by simp) U (fun _=>U) (fun _=>U) ?_;intro g3)
  refine G7 ⟨fun _=>⟨by decide+kernel,by decide+kernel⟩,[(.t 0,_),(.t 3,_),(.t 4,_),(.h 3,_)],⟨U,U,U,U,U,U,U,U,trivial⟩,?_⟩;refine A0<|y_M U<|D6 U U (B9 (by omega))<|y_S U<|xN [0,3,4] [3] U ?_
  refine⟨(i+1,_,_),?_,(by simp only;omega),⟨U,U,U,U,trivial⟩⟩;exact⟨by omega,by rw[c0f (by omega),<-b];exact b5g (b▸a0m _) f e fun h=>by omega⟩
 refine D5<|A3<|A0<|y_M U ?_
 (refine xO U U (by simp) U (fun _=>U) (fun _=>U) ?_;intro g2)
 refine xN [2] [2] U<|A9<|I6 U U (by simp) (by exact A7 fun _=>U) trivial ?_
 rw[b,ZC (by omega)]
theorem d4l:D8 Tryz.f113=[0,2,8,7,9,6,5,3]:=by kernel_rfl
theorem e7b(x:List Int)(f:vl x=true):CW (cxT oG) 113 [L x]=some (iV x.sum,[]):=by
 have h:=(P7.1 f).1;have c:=a2i f;refine C5 U Tryz.func113 U ⟨by kernel_rfl,U,dT U,dT U,by decide⟩ d4l<|A3<|A0<|y_S U<|xN [0] [] U<|A3<|A0<|y_S U<|xN [0,3] [] U<|A3<|A3<|A0<|y_M U<|B7 U U<|y_M U<|xN [3,6,7,8] [] U<|A8<|D7 (β:=Nat×Int) [(.t 6,_),(.t 7,_)] (fun(z:Nat×Int)=>match z with|(i,a)=>[(.t 8,iV i),(.t 3,iV a)]) (fun(z:Nat×Int)=>match z with|(i,a)=>i<=x.length/\a=prS (J2 x) i) (fun(z:Nat×Int)=>match z with|(i,a)=>x.length-i) (0,0) ⟨U,U,U,U,trivial⟩ ⟨Zt _,U⟩ ?_
 intro z g;obtain⟨i,a⟩:=z
 try dsimp only at g
 obtain⟨l,b⟩:=g;have e:=d4u f i;have k: -100000<=x.getD i default/\x.getD i default<=100000:=c i;rw[<-b]at e;refine A3<|A0<|F0 U U<|xN [3,6,7,8,9] [] U<|A3 ?_
 refine A4 U ?_ ?_<;>intro j<;>try simp only[SL]at j
 ·refine A6<|A3<|A8<|A3<|A0<|B4 U U U (fun _=>U) (by omega)<|y_I U<|y_S U<|xN [3,5,6,7,8] [] U<|A0<|y_M U<|y_M U<|D6 U U (B9 (by omega))<|y_S U<|xN [3,6,7,8] [] U<|A0<|D6 U U (B9 (by omega))<|y_M U<|xN [3,6,7,8] [] U ?_
  refine⟨(i+1,a+x.getD i default),⟨by omega,by rw[prS,b];rfl⟩,(by simp only;omega),⟨U,U,U,U,trivial⟩⟩
 refine D5<|A3<|A0<|y_M U<|y_S U<|xN [2] [] U<|A9<|C2 U U trivial ?_
 rw[b,show i=x.length by omega,c4t]
theorem d1t:D8 Tryz.f63=[0,2,4,8,3]:=by kernel_rfl
theorem e8s(x:List Int)(f:vl x=true):CW (cxT oG) 63 [L x]=some (iV x.sum,[]):=by
 have h:=(P7.1 f).1;have c:=a2i f;refine C5 U Tryz.func63 U ⟨by kernel_rfl,U,dT U,dT U,by decide⟩ d1t<|A3<|A0<|y_S U<|xN [0] [] U<|A3<|A0<|y_S U<|xN [0,3] [] U<|A3<|A3<|A0<|y_S U<|xN [0,3,4] [] U<|A8<|D7 (β:=Nat×Int) [(.t 0,_)] (fun(z:Nat×Int)=>match z with|(i,a)=>[(.t 4,iV i),(.t 3,iV a)]) (fun(z:Nat×Int)=>match z with|(i,a)=>i<=x.length/\a=prS (J2 x) i) (fun(z:Nat×Int)=>match z with|(i,a)=>x.length-i) (0,0) ⟨U,U,U,trivial⟩ ⟨Zt _,U⟩ ?_
 intro z g;obtain⟨i,a⟩:=z
 try dsimp only at g
 obtain⟨l,b⟩:=g;have e:=d4u f i;have k: -100000<=x.getD i default/\x.getD i default<=100000:=c i;rw[<-b]at e;refine A3<|A3<|A0<|y_M U<|y_M U<|B7 U U<|F0 U U<|xN [0,3,4,8] [] U ?_
 refine A4 U ?_ ?_<;>intro j<;>try simp only[SL]at j
 ·refine A6<|A3<|A8<|A0<|y_M U<|y_M U<|y_M U<|B4 U U U (fun _=>U) (by omega)<|y_I U<|D6 U U (B9 (by omega))<|y_S U<|xN [0,3,4] [] U<|A0<|y_M U<|D6 U U (B9 (by omega))<|y_S U<|xN [0,3,4] [] U ?_
  refine⟨(i+1,a+x.getD i default),⟨by omega,by rw[prS,b];rfl⟩,(by simp only;omega),⟨U,U,U,trivial⟩⟩
 refine D5<|A3<|A0<|y_M U<|y_S U<|xN [2] [] U<|A9<|C2 U U trivial ?_
 rw[b,show i=x.length by omega,c4t]
theorem c3c:D8 Tryz.f135=[0,2,13,12,14,11,4,3,23,22,24,21,5,7,27,37]:=by kernel_rfl
theorem e7m(x:List Int)(q:vl x=true):CW (cxT oG) 135 [L x]=some (.own 1 ((rkI x).map iV),[]):=by
 have s:=(P7.1 q).1;have u:=a2i q;refine C5 U Tryz.func135 U ⟨by kernel_rfl,U,dT U,dT U,by decide⟩ c3c<|A3<|A0 ?_
 (refine B1 U U (fun _=>U) ?_;intro g2)
 refine xN [0] [] U<|A3<|A0<|y_M U<|B7 U U<|Z5 (f:=iV) (x0:=0) U U U U U (by simp only[H6];omega) (dT U) (fun _=>B5 (by exact A7 fun _=>U)) (fun _=>U) ?_
 intro g10
 (refine xO U U (by simp) U (fun _=>U) (fun _=>U) ?_;intro g3)
 refine xN [0,3] [3] U<|A3<|A3<|A0<|y_M U<|B7 U U<|y_M U<|xN [0,3,11,12,13] [3] U<|A8 ?_
 refine D7 (β:=Nat×List Int) [(.t 0,_),(.t 3,_),(.t 11,_),(.t 12,_)] (fun(z:Nat×List Int)=>match z with|(i,l)=>[(.t 13,iV i),(.h 3,.obj g3 0 1 (l.map iV))]) (fun(z:Nat×List Int)=>match z with|(i,l)=>i<=x.length/\X1 x.length (fun i=>1+prS (rkT x (J2 x i)) x.length) (fun _=>0) i l) (fun(z:Nat×List Int)=>match z with|(i,l)=>x.length-i) (0,List.replicate x.length 0) ⟨U,U,U,U,U,U,trivial⟩ ⟨Zt _,by simp,fun j w=>by rw[if_neg (by omega)];simp[Zc,w]⟩ ?_;intro z m;obtain⟨i,l⟩:=z
 try dsimp only at m
 obtain⟨v,o⟩:=m;have n:=o.1;refine A3<|A0<|F0 U U<|xN [0,3,11,12,13,14] [3] U<|A3 ?_
 refine A4 U ?_ ?_<;>intro g<;>try simp only[SL]at g
 ·refine A6<|A3<|A8<|A3<|A0<|y_M U<|B4 U U U (fun _=>U) (by omega)<|y_I U<|y_S U<|y_S U<|xN [0,3,4,5,11,12,13] [3] U<|A3<|A0<|y_M U<|y_M U<|C6 U U U U (by omega) (by(simp;omega)) U<|J4 U U U (by omega) (fun _ _=>⟨U,U,dT U,dT U,U,U⟩) (by decide) (by exact B5 (A7 fun _=>U))<|xN [0,3,4,5,11,12,13] [3] U<|A3<|A0<|y_M U<|B7 U U<|y_M U<|xN [0,3,4,5,11,12,13,21,22,23] [3] U<|A8<|D7 (β:=Nat×List Int) [(.t 0,_),(.t 3,_),(.t 4,_),(.t 5,_),(.t 11,_),(.t 12,_),(.t 13,_),(.t 21,_),(.t 22,_)] (fun(z:Nat×List Int)=>match z with|(k,b)=>[(.t 23,iV k),(.h 3,.obj g3 0 1 (b.map iV))]) (fun(z:Nat×List Int)=>match z with|(k,b)=>k<=x.length/\b=l.set i (1+prS (rkT x (J2 x i)) k)) (fun(z:Nat×List Int)=>match z with|(k,b)=>x.length-k) (0,l.set i 1) ⟨U,U,U,U,U,U,U,U,U,U,U,trivial⟩ ⟨Zt _,U⟩ ?_
  intro z m;obtain⟨k,b⟩:=z
  try dsimp only at m
  obtain⟨y,a⟩:=m;have p:b.length=x.length:=by rw[a];simp[n]
  have e:b.getD i default=1+prS (rkT x (J2 x i)) k:=by rw[a,a3f _ _ _ _ (by omega),if_pos U]
  have B:=f5l x (J2 x i) k;refine A3<|A0<|F0 U U<|xN [0,3,4,5,11,12,13,21,22,23,24] [3] U<|A3 ?_
  refine A4 U ?_ ?_<;>intro g<;>try simp only[SL]at g
  ·refine A6<|A3<|A8<|A3<|A0<|B4 U U U (fun _=>U) (by omega)<|y_I U<|y_S U<|xN [0,3,4,5,7,11,12,13,21,22,23] [3] U<|A8<|A3<|A0<|y_M U<|y_M U<|F0 U U<|y_S U<|xN [0,3,4,5,7,11,12,13,21,22,23,27] [3] U ?_
   refine A4 U ?_ ?_<;>intro g<;>try simp only[SL]at g
   ·refine A0<|y_M U<|y_M U<|C6 U U U U (by omega) (by(simp;omega)) U<|E4 U U (by omega) (fun _=>U) (fun _=>U) U<|D6 U U (B9 (by omega))<|C6 U U U U (by omega) (by(simp;omega)) U<|J4 U U U (by omega) (fun _ _=>⟨U,U,dT U,dT U,U,U⟩) (by decide) (by exact B5 (A7 fun _=>U))<|xN [0,3,4,5,11,12,13,21,22,23] [3] U<|A0<|D6 U U (B9 (by omega))<|y_M U<|xN [0,3,4,5,11,12,13,21,22,23] [3] U ?_
    refine⟨(k+1,b.set i (b.getD i default+2)),?_,(by simp only;omega),⟨U,U,U,U,U,U,U,U,U,U,U,trivial⟩⟩;have c:prS (rkT x (J2 x i)) (k+1)=prS (rkT x (J2 x i)) k+rkT x (J2 x i) k:=rfl;exact⟨by omega,by rw[e,a,List.set_set,c,rkT,if_pos (by assumption),Int.add_assoc]⟩
   refine A3<|A0<|y_M U<|y_M U<|M9 U U<|y_S U<|xN [0,3,4,5,11,12,13,21,22,23,37] [3] U ?_
   refine A4 U ?_ ?_<;>intro g<;>try simp only[SL]at g
   ·refine A0<|y_M U<|y_M U<|C6 U U U U (by omega) (by(simp;omega)) U<|E4 U U (by omega) (fun _=>U) (fun _=>U) U<|D6 U U (B9 (by omega))<|C6 U U U U (by omega) (by(simp;omega)) U<|J4 U U U (by omega) (fun _ _=>⟨U,U,dT U,dT U,U,U⟩) (by decide) (by exact B5 (A7 fun _=>U))<|xN [0,3,4,5,11,12,13,21,22,23] [3] U<|A0<|D6 U U (B9 (by omega))<|y_M U<|xN [0,3,4,5,11,12,13,21,22,23] [3] U ?_
    refine⟨(k+1,b.set i (b.getD i default+1)),?_,(by simp only;omega),⟨U,U,U,U,U,U,U,U,U,U,U,trivial⟩⟩;have c:prS (rkT x (J2 x i)) (k+1)=prS (rkT x (J2 x i)) k+rkT x (J2 x i) k:=rfl;exact⟨by omega,by rw[e,a,List.set_set,c,rkT,if_neg (by unfold J2;omega),if_pos (by assumption),Int.add_assoc]⟩
   refine A6<|A0<|D6 U U (B9 (by omega))<|y_M U<|xN [0,3,4,5,11,12,13,21,22,23] [3] U ?_
   refine⟨(k+1,b),?_,(by simp only;omega),⟨U,U,U,U,U,U,U,U,U,U,U,trivial⟩⟩;have c:prS (rkT x (J2 x i)) (k+1)=prS (rkT x (J2 x i)) k+rkT x (J2 x i) k:=rfl;exact⟨by omega,by rw[a,c,rkT,if_neg (by unfold J2;omega),if_neg (by unfold J2;omega),Int.add_zero]⟩
  refine D5<|A0<|D6 U U (B9 (by omega))<|y_M U<|xN [0,3,11,12,13] [3] U ?_
  refine⟨(i+1,b),?_,(by simp only;omega),⟨U,U,U,U,U,U,trivial⟩⟩;exact⟨by omega,by rw[a];exact o.step (by omega) (by rw[show k=x.length by omega])⟩
 refine D5<|A3<|A0<|y_M U ?_
 (refine H8 U U (by(simp;omega)) U (fun _=>(B5 (by exact A7 fun _=>U))) (fun _=>U) ?_;intro g2)
 refine xN [2] [2] U<|A9<|I6 U U (by(simp[n];done)) (by exact A7 fun _=>U) trivial ?_
 rw[o.fin (by omega)]
 rfl
theorem c3h:D8 Tryz.f89=[0,2,4,12,7,18,29,5,40,6,3]:=by kernel_rfl
theorem e8q(x:List Int)(n:vl x=true):CW (cxT oG) 89 [L x]=some (.own 1 ((rkI x).map iV),[]):=by
 have o:=(P7.1 n).1;have y:=a2i n;refine C5 U Tryz.func89 U ⟨by kernel_rfl,U,dT U,dT U,by decide⟩ c3h<|A3<|A0 ?_
 (refine B1 U U (fun _=>U) ?_;intro g2)
 refine xN [0] [] U<|A3<|A0<|C0 (es:=ZA iV []) U U (dT U) U U (fun _=>B5 (A7 fun _=>U)) (fun _=>U) ?_
 intro g8
 (refine xO U U (by simp) U (fun _=>U) (fun _=>U) ?_;intro g3)
 refine xN [0,3] [3] U<|A3<|A3<|A0<|y_S U<|xN [0,3,4] [3] U<|A8<|D7 (β:=Nat×List Int×Nat) [(.t 0,_)] (fun(z:Nat×List Int×Nat)=>match z with|(i,l,g)=>[(.t 4,iV i),(.h 3,.obj g 0 1 (l.map iV)),(.t 3,.sl 3 g none 0 l.length)]) (fun(z:Nat×List Int×Nat)=>match z with|(i,l,g)=>i<=x.length/\l=(List.range i).map fun i=>1+prS (rkT x (J2 x i)) x.length) (fun(z:Nat×List Int×Nat)=>match z with|(i,l,g)=>x.length-i) (0,[],_) ⟨U,U,U,U,trivial⟩ ⟨Zt _,U⟩ ?_
 intro z j;obtain⟨i,l,g⟩:=z
 try dsimp only at j
 obtain⟨B,m⟩:=j;have D:l.length=i:=by rw[m];simp
 refine A3<|A3<|A0<|y_M U<|y_M U<|B7 U U<|F0 U U<|xN [0,3,4,12] [3] U ?_
 refine A4 U ?_ ?_<;>intro f<;>try simp only[SL]at f
 ·refine A6<|A3<|A8<|A3<|A0<|y_S U<|xN [0,3,4,5] [3] U<|A3<|A0<|y_S U<|xN [0,3,4,5,6] [3] U<|A3<|A3<|A0<|y_S U<|xN [0,3,4,5,6,7] [3] U<|A8<|D7 (β:=Nat×Int×Int) [(.t 0,_),(.t 3,_),(.t 4,_),(.h 3,_)] (fun(z:Nat×Int×Int)=>match z with|(k,a,b)=>[(.t 7,iV k),(.t 5,iV a),(.t 6,iV b)]) (fun(z:Nat×Int×Int)=>match z with|(k,a,b)=>k<=x.length/\2*a+b=prS (rkT x (J2 x i)) k/\0<=a/\a<=k/\0<=b/\b<=k) (fun(z:Nat×Int×Int)=>match z with|(k,a,b)=>x.length-k) (0,0,0) ⟨U,U,U,U,U,U,U,trivial⟩ ⟨Zt _,U,by decide,by decide,by decide,by decide⟩ ?_
  intro z j;obtain⟨k,a,b⟩:=z
  try dsimp only at j
  obtain⟨C,e,s,u,v,w⟩:=j;refine A3<|A3<|A0<|y_M U<|y_M U<|B7 U U<|F0 U U<|xN [0,3,4,5,6,7,18] [3] U ?_
  refine A4 U ?_ ?_<;>intro f<;>try simp only[SL]at f
  ·refine A6<|A3<|A8<|A3<|A3<|A0<|y_M U<|y_M U<|B4 U U U (fun _=>U) (by omega)<|y_I U<|y_M U<|y_M U<|B4 U U U (fun _=>U) (by omega)<|y_I U<|F0 U U ?_
   refine G7 ⟨fun _=>⟨by decide+kernel,by decide+kernel⟩,[(.t 0,_),(.t 3,_),(.t 4,_),(.t 5,_),(.t 6,_),(.t 7,_),(.t 29,_),(.h 3,_)],⟨U,U,U,U,U,U,U,U,U,U,U,U,U,U,U,U,trivial⟩,?_⟩;refine A4 U ?_ ?_<;>intro f<;>try simp only[SL]at f
   ·refine A0<|y_M U<|D6 U U (B9 (by omega))<|y_S U<|xN [0,3,4,5,6,7] [3] U<|A3<|A0<|y_M U<|y_M U<|B4 U U U (fun _=>U) (by omega)<|y_I U<|y_M U<|y_M U<|B4 U U U (fun _=>U) (by omega)<|y_I U<|M9 U U ?_
    refine G7 ⟨fun _=>⟨by decide+kernel,by decide+kernel⟩,[(.t 0,_),(.t 3,_),(.t 4,_),(.t 5,_),(.t 6,_),(.t 7,_),(.t 40,_),(.h 3,_)],⟨U,U,U,U,U,U,U,U,U,U,U,U,U,U,U,U,trivial⟩,?_⟩;refine A4 U ?_ ?_<;>intro f<;>try simp only[SL]at f
    ·refine A0<|y_M U<|D6 U U (B9 (by omega))<|y_S U<|xN [0,3,4,5,6,7] [3] U<|A0<|y_M U<|D6 U U (B9 (by omega))<|y_S U<|xN [0,3,4,5,6,7] [3] U ?_
     refine⟨(k+1,a+1,b+1),?_,(by simp only;omega),⟨U,U,U,U,U,U,U,trivial⟩⟩;have c:prS (rkT x (J2 x i)) (k+1)=prS (rkT x (J2 x i)) k+rkT x (J2 x i) k:=rfl;exact⟨by omega,by rw[c,<-e,rkT,if_pos (by assumption)];omega,by omega,by omega,by omega,by omega⟩
    refine A6<|A0<|y_M U<|D6 U U (B9 (by omega))<|y_S U<|xN [0,3,4,5,6,7] [3] U ?_
    refine⟨(k+1,a+1,b),?_,(by simp only;omega),⟨U,U,U,U,U,U,U,trivial⟩⟩;have c:prS (rkT x (J2 x i)) (k+1)=prS (rkT x (J2 x i)) k+rkT x (J2 x i) k:=rfl;exact⟨by omega,by rw[c,<-e,rkT,if_pos (by assumption)];omega,by omega,by omega,by omega,by omega⟩
   refine A6<|A3<|A0<|y_M U<|y_M U<|B4 U U U (fun _=>U) (by omega)<|y_I U<|y_M U<|y_M U<|B4 U U U (fun _=>U) (by omega)<|y_I U<|M9 U U ?_
   refine G7 ⟨fun _=>⟨by decide+kernel,by decide+kernel⟩,[(.t 0,_),(.t 3,_),(.t 4,_),(.t 5,_),(.t 6,_),(.t 7,_),(.t 40,_),(.h 3,_)],⟨U,U,U,U,U,U,U,U,U,U,U,U,U,U,U,U,trivial⟩,?_⟩;refine A4 U ?_ ?_<;>intro f<;>try simp only[SL]at f
   ·refine A0<|y_M U<|D6 U U (B9 (by omega))<|y_S U<|xN [0,3,4,5,6,7] [3] U<|A0<|y_M U<|D6 U U (B9 (by omega))<|y_S U<|xN [0,3,4,5,6,7] [3] U ?_
    refine⟨(k+1,a,b+1),?_,(by simp only;omega),⟨U,U,U,U,U,U,U,trivial⟩⟩;have c:prS (rkT x (J2 x i)) (k+1)=prS (rkT x (J2 x i)) k+rkT x (J2 x i) k:=rfl;exact⟨by omega,by rw[c,<-e,rkT,if_neg (by unfold J2;omega),if_pos (by assumption)];omega,by omega,by omega,by omega,by omega⟩
   refine A6<|A0<|y_M U<|D6 U U (B9 (by omega))<|y_S U<|xN [0,3,4,5,6,7] [3] U ?_
   refine⟨(k+1,a,b),?_,(by simp only;omega),⟨U,U,U,U,U,U,U,trivial⟩⟩;have c:prS (rkT x (J2 x i)) (k+1)=prS (rkT x (J2 x i)) k+rkT x (J2 x i) k:=rfl;exact⟨by omega,by rw[c,<-e,rkT,if_neg (by unfold J2;omega),if_neg (by unfold J2;omega)];omega,by omega,by omega,by omega,by omega⟩
  refine D5<|A0<|y_M U<|y_M U<|a0o U U (B9 (by omega))<|y_M U<|D6 U U (B9 (by omega))<|D6 U U (B9 (by omega))<|C0 (es:=ZA iV [_]) U U (dT U) U U (fun _=>B5 (A7 fun _=>U)) (fun _=>U) ?_
  intro p;refine xA U U U U (by simp) (by simp) U U U U U (fun _=>U) (by simp only[LN];omega) (fun _=>U) ?_;intro q
  (refine xO U U (by simp) U (fun _=>U) (fun _=>U) ?_;intro g3)
  refine xN [0,3,4] [3] U<|A0<|y_M U<|D6 U U (B9 (by omega))<|y_S U<|xN [0,3,4] [3] U ?_
  refine⟨(i+1,l++[2*a+b+1],_),?_,(by simp only;omega),⟨U,U,U,U,trivial⟩⟩;exact⟨by omega,by rw[m,Y6,e,show k=x.length by omega,Int.add_comm]⟩
 refine D5<|A3<|A0<|y_M U ?_
 (refine xO U U (by simp) U (fun _=>U) (fun _=>U) ?_;intro g2)
 refine xN [2] [2] U<|A9<|I6 U U (by simp) (by exact A7 fun _=>U) trivial ?_
 rw[m,show i=x.length by omega]
 rfl
theorem c0h:D8 Tryz.f88=[0,2,4,10,3]:=by kernel_rfl
theorem e4a(x:List Int)(j:x.length<=1000):CW (cxT oG) 88 [L x]=some (.own 1 (x.reverse.map iV),[]):=by
 refine C5 U Tryz.func88 U ⟨by kernel_rfl,U,dT U,dT U,by decide⟩ c0h<|A3<|A0 ?_
 (refine B1 U U (fun _=>U) ?_;intro g2)
 refine xN [0] [] U<|A3<|A0<|C0 (es:=ZA iV []) U U (dT U) U U (fun _=>B5 (A7 fun _=>U)) (fun _=>U) ?_
 intro g5
 (refine xO U U (by simp) U (fun _=>U) (fun _=>U) ?_;intro g3)
 refine xN [0,3] [3] U<|A3<|A3<|A0<|y_M U<|B7 U U<|J8 U U (B9 (by omega))<|y_S U<|xN [0,3,4] [3] U<|A8<|D7 (β:=Nat×List Int×Nat) [(.t 0,_)] (fun(z:Nat×List Int×Nat)=>match z with|(k,l,g)=>[(.t 4,iV ((k:Int)-1)),(.h 3,.obj g 0 1 (l.map iV)),(.t 3,.sl 3 g none 0 l.length)]) (fun(z:Nat×List Int×Nat)=>match z with|(k,l,g)=>k<=x.length/\l=(x.drop k).reverse) (fun(z:Nat×List Int×Nat)=>match z with|(k,l,g)=>k) (x.length,[],_) ⟨U,U,U,U,trivial⟩ ⟨Zd _,by simp⟩ ?_
 intro z c;obtain⟨k,l,g⟩:=z
 try dsimp only at c
 obtain⟨f,a⟩:=c;have i:l.length=x.length-k:=by rw[a];simp
 refine A3<|A3<|A0<|y_M U<|c0e U U<|xN [0,3,4,10] [3] U ?_
 refine A4 U ?_ ?_<;>intro e<;>try simp only[SL]at e
 ·obtain⟨b,rfl⟩:∃b,k=b+1:=⟨k-1,by omega⟩
  rw[show(((b+1:Nat):Int)-1)=(b:Int) by omega];refine A6<|A3<|A8<|A0<|y_M U<|y_M U<|y_M U<|B4 U U U (fun _=>U) (by omega)<|y_I U<|C0 (es:=ZA iV [_]) U U (dT U) U U (fun _=>B5 (A7 fun _=>U)) (fun _=>U) ?_
  intro g18;refine xA U U U U (by simp) (by simp) U U U U U (fun _=>U) (by simp only[LN];omega) (fun _=>U) ?_;intro g19
  (refine xO U U (by simp) U (fun _=>U) (fun _=>U) ?_;intro g3)
  refine xN [0,3,4] [3] U<|A0<|y_M U<|J8 U U (B9 (by omega))<|y_S U<|xN [0,3,4] [3] U ?_
  refine⟨(b,l++[x.getD b default],_),?_,(by simp only;omega),⟨U,U,U,U,trivial⟩⟩;exact⟨by omega,by rw[a,e4q (show b<x.length by omega),List.reverse_cons]⟩
 refine D5<|A3<|A0<|y_M U ?_
 (refine xO U U (by simp) U (fun _=>U) (fun _=>U) ?_;intro g2)
 refine xN [2] [2] U<|A9<|I6 U U (by simp) (by exact A7 fun _=>U) trivial ?_
 rw[a,show k=0 by omega]
 rfl
theorem b3c:D8 Tryz.f90=[0,2,3,7,15]:=by kernel_rfl
theorem d0q(x:List Int)(g:x.length<=1048576):CW (cxT oG) 90 [L x]=some (bV (vl x),[]):=by
 refine C5 U Tryz.func90 U ⟨by kernel_rfl,U,dT U,dT U,by decide⟩ b3c<|A3<|A0<|y_S U<|xN [0] [] U<|A3<|A3<|A0<|y_S U<|xN [0,3] [] U<|A8<|D7 (β:=Nat) [(.t 0,_)] (fun(i:Nat)=>[(.t 3,iV i)]) (fun(i:Nat)=>i<=x.length/\∀j,j<i->-100000<=x.getD j default/\x.getD j default<=100000) (fun(i:Nat)=>x.length-i) 0 ⟨U,U,trivial⟩ ⟨Zt _,fun j h=>by omega⟩ ?_
 intro i e;obtain⟨f,a⟩:=e;refine A3<|A3<|A0<|y_M U<|y_M U<|B7 U U<|F0 U U<|xN [0,3,7] [] U ?_
 refine A4 U ?_ ?_<;>intro b<;>try simp only[SL]at b
 ·refine A6<|A3<|A8<|A3<|A0<|y_M U<|y_M U<|B4 U U U (fun _=>U) (by omega)<|y_I U ?_
  refine xC3 U U U U (a0x _ _ _) ⟨U,U,U⟩ U U fun g14=> ?_
  refine H5 U<|xN [0,3,15] [] U ?_
  refine A4 U ?_ ?_<;>intro b<;>try simp only[SL]at b
  ·refine A3<|A0<|y_S U<|xN [2] [] U<|A9<|C2 U U trivial ?_
   rw[vl,d2w (show i<x.length by omega) (by(simp_all;omega)),Bool.and_false]
   rfl
  refine A6<|A0<|y_M U<|D6 U U (B9 (by omega))<|y_S U<|xN [0,3] [] U ?_
  refine⟨i+1,⟨by omega,fun j c=>by rcases Ys.1 c with h|h;(·exact a j h);(·subst h;assumption)⟩,(by omega),⟨U,U,trivial⟩⟩
 refine D5<|A3<|A0<|y_M U<|B7 U U<|a3j U U<|y_S U<|xN [2] [] U<|A9<|C2 U U trivial ?_
 rw[vl,e1c fun j c=>a j (by omega),Bool.and_true];exact congrArg bV (decide_eq_decide.2 (by omega))
theorem b4q:D8 Tryz.f101=[0,2]:=by kernel_rfl
theorem d4v(c:List Int)(a:c.length<=1048576):CW (cxT oG) 101 [L c]=some (bV (!vd c),[]):=by
 refine C5 U Tryz.func101 U ⟨by kernel_rfl,U,dT U,dT U,by decide⟩ b4q<|A3<|A0<|y_S U<|xN [0] [] U<|A3<|A0<|y_M U ?_
 refine xC1 U U (S9 c a) ⟨U,U,U⟩ U U fun g4=> ?_
 refine H5 U<|y_S U<|xN [2] [] U<|A9<|C2 U U trivial ?_
 rfl
theorem b2l:D8 Tryz.f130=[0,1,4,8,7,9,5,16]:=by kernel_rfl
theorem c6o(a:List (List Int))(m:a.length<=1048576)(f:∀c∈a,c.length<=1048576):∃res outs,(fun res outs=>∃r:Int,res=iV r/\outs=[]/\decide (0<=r)=a.any fun c=> !vd c) res outs/\CW (cxT oG) 130 [M a,.clo 101 []]=some (res,outs):=by
 refine P9 U Tryz.func130 U ⟨by kernel_rfl,U,dT U,dT U,by decide⟩ b2l<|A3<|A0<|y_S U<|xN [0,1] [] U<|A3<|A3<|A0<|y_M U<|B7 U U<|y_M U<|xN [0,1,7,8] [] U<|A8<|D7 (β:=Nat) [(.t 0,_),(.t 1,_),(.t 7,_)] (fun(i:Nat)=>[(.t 8,iV i)]) (fun(i:Nat)=>i<=a.length/\∀j,j<i->(!vd (a.getD j default))=false) (fun(i:Nat)=>a.length-i) 0 ⟨U,U,U,U,trivial⟩ ⟨Zt _,fun j h=>by omega⟩ ?_
 intro i l;obtain⟨n,e⟩:=l;have g:=fun h:i<a.length=>f _ (L8 h)
 refine A3<|A0<|F0 U U<|xN [0,1,7,8,9] [] U<|A3 ?_
 refine A4 U ?_ ?_<;>intro b<;>try simp only[SL]at b
 ·refine A6<|A3<|A8<|A3<|A0<|y_M U<|y_S U<|xN [0,1,5,7,8] [] U<|A3<|A0<|y_M U<|y_M U<|y_M U<|B4 U U U (fun _=>U) (by omega)<|y_I U ?_
  apply d0m U U
  ·apply B0
   ·exact B2 U
   exact C8
  ·exact d4v (a.getD i default) (g (by omega))
  ·exact⟨U,U,U,dT U,U⟩
  ·exact .inl U
  ·exact B6
  ·exact F7 U
  ·exact fun _=>U
  intro g16;refine xN [0,1,5,7,8,16] [] U ?_;refine A4 U ?_ ?_<;>intro b<;>try simp only[SL]at b
  ·refine A3<|A0<|y_M U<|y_S U<|xN [4] [] U<|A9 ?_
   refine⟨_,_,?_,M1 U U B3⟩;exact⟨_,U,U,e6q (q:=fun c=> !vd c) (by omega) (by simpa using b)⟩
  refine A6<|A0<|D6 U U (B9 (by omega))<|y_M U<|xN [0,1,7,8] [] U ?_
  refine⟨i+1,⟨by omega,fun j k=>by rcases Ys.1 k with h|h;(·exact e j h);(·subst h;simpa using b)⟩,(by omega),⟨U,U,U,U,trivial⟩⟩
 refine D5<|A3<|A0<|y_S U<|xN [4] [] U<|A9 ?_
 refine⟨_,_,?_,M1 U U B3⟩;exact⟨-1,U,U,e3y fun j k=>e j (by omega)⟩
theorem a8p:D8 Tryz.f100=[0,1,4]:=by kernel_rfl
theorem b6x(a:List (List Int))(b:a.length<=1048576)(e:∀c∈a,c.length<=1048576):CW (cxT oG) 100 [M a,.clo 101 []]=some (bV (a.any fun c=> !vd c),[]):=by
 obtain⟨_,_,⟨r,rfl,rfl,g⟩,f⟩:=c6o (oG:=oG) a b e;refine C5 U Tryz.func100 U ⟨by kernel_rfl,U,dT U,dT U,by decide⟩ a8p<|A3<|A0<|y_S U<|xN [0,1] [] U<|A3<|A0<|y_M U<|y_M U ?_
 refine xC2 U U U (f) ⟨U,U,U⟩ U U fun g7=> ?_
 refine c0e U U<|y_S U<|xN [4] [] U<|A9<|C2 U U trivial ?_
 rw[<-g]
theorem a9r:D8 Tryz.f74=[0,2]:=by kernel_rfl
theorem b9c(a:List (List Int))(b:a.length<=1048576)(e:∀c∈a,c.length<=1048576):CW (cxT oG) 74 [M a]=some (bV (vcs a),[]):=by
 refine C5 U Tryz.func74 U ⟨by kernel_rfl,U,dT U,dT U,by decide⟩ a9r<|A3<|A0<|y_S U<|xN [0] [] U<|A3<|A0<|y_M U<|B7 U U<|a3j U U<|y_M U ?_
 refine D3 U U ?_ ?_<;>intro f<;>have g:=f<;>try simp only[SG]at g
 ·refine y_M U<|gT U U ?_
  refine xC2 U U U (b6x a b e) ⟨U,U,U⟩ U U fun g8=> ?_
  refine gT U U<|H5 U<|E9 U (by assumption) U U<|y_S U<|xN [2] [] U<|A9<|C2 U U trivial ?_
  rw[e1s]
  (simp_all;done)
 refine gF U U<|gF U U<|E8 U (by assumption) U U<|y_S U<|xN [2] [] U<|A9<|C2 U U trivial ?_
 rw[e1s]
 (simp_all[ofConst];intros;omega)
end Go.Proofs.YtjmoceabjajefaaGreatDoor
