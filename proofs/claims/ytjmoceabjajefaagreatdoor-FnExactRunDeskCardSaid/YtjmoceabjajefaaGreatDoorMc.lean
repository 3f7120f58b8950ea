/- The abstract machine, part 3 of 5: it runs the model's code on abstract values and is proved sound over any program. Conditions: none. -/
import Derived.LoopNIn
import Derived.RangeFuncLeaves
import Derived.RangeFuncNested
import Derived.Test.YtjmoceabjajefaaGreatDoorMb
set_option linter.unusedVariables false
set_option linter.unusedSimpArgs false
open Go.Act renaming mk→Yp
open Array renaming getElem?_eq_some_iff→ZB, getElem?_setIfInBounds_ne→Yn, getD_eq_getD_getElem?→ZJ
open BitVec renaming ofInt→Yv
open Bool renaming false_eq_true→ZY, and_eq_true→Zx, or_eq_false_iff→Yz
open Classical renaming choose_spec→YH
open Go renaming undef→Yh
open List renaming getElem?_cons_zero→Zr, getElem?_cons_succ→ZQ, mem_of_getElem?→Zw, mem_iff_getElem?→ZF, getElem?_eq_some_iff→Zo, getElem?_eq_getElem→Ze, all_eq_true→Zu, nil_append→Zi, mem_cons→ZP, mem_cons_self→Zq, mem_cons_of_mem→Zn, mem_singleton→Yu, filter_cons→Xt, mem_filter→Xx, cons_append→Zp, map_cons→Zy, length_cons→Zg, mem_append_left→ZV, mem_append_right→Yc, mem_append→ZL, mem_map→ZG, contains_iff_mem→YV, of_mem_zip→YK, map_append→ZZ, drop_zero→ZX, getElem?_eq_none→ZO, getElem?_map→ZE, getElem?_append_left→ZW, getElem?_append_right→Yk, singleton_append→YW, append_nil→Zm, length_map→Zh, append_assoc→Ym, getD_eq_getElem?_getD→Zc, take_length→Yl, replicate→ZN, length_append→Zl
open Nat renaming lt_succ_self→ZK, le_refl→Zd, zero_add→ZI, lt_of_lt_of_le→YC, le_trans→Ye, le_max_left→Yx, le_max_right→Yt
open Option renaming map_some→Zz, bind_some→Zk, bind_eq_some_iff→Za, map_eq_some_iff→Zf, isSome_iff_exists→ZS
open Option.some renaming injEq→Zb
open Prod.mk renaming injEq→Zj
open Go.Region renaming wanted→YO
open Go.Result renaming andThen_ok→Zv
open Go.Sem renaming run_bind→ZD, run_pure→ZM
section
namespace Go.Mv
open Go
section
variable{P:Program}{C:Caller}{Γ:Env}{w0:World}{A O0:Nat->Prop}{ν0:Nu}{N:Nat}{F:Fl}{D:Nat->Prop}{st:St}{ν:Nu}{tm:Array Value}{w:World}
def S7(F:Fl)(D:Nat->Prop)(w:World)(κ:FK)(a:AV)(v:Value):Prop:=
 (∃s es φ,a= .own s es/\F κ=some ⟨φ,s,es⟩/\G3 es=true/\SlV w (φ none) s 0 es.length v)\/(Y4 a=true/\RV w D a v)
def a0v(F:Fl)(D:Nat->Prop)(w:World)(k:Nat)(a:AV)(v:Value):Prop:=
 (∃c cs,a= .agg c/\v= .agg cs/\cs.size=c.length/\∀(j:Nat) (l:AV),c[j]? =some l->S7 F D w (5,k,j+1) l (cs.getD j Yh))\/
 (∃es j φ b o,a= .ownp es 0 j/\F (5,k,0)=some ⟨φ,boxS es,es⟩/\P5 es=true/\es.length<=1/\φ none=some (b,o)/\v= .pointer (some ⟨b,o+j,none⟩))\/
 S7 F D w (5,k,0) a v
def AllRes(F:Fl)(D:Nat->Prop)(w:World)(a:AV)(v:Value):Prop:=
 (∃vs cs,a= .tup vs/\v= .tuple cs/\cs.size=vs.length/\∀(k:Nat) (l:AV),vs[k]? =some l->a0v F D w k l (cs.getD k Yh))\/a0v F D w 0 a v
theorem Rel.dropF(R:Rel Γ w0 A O0 ν0 N F D st ν tm w){F':Fl}(h:∀κ f,F' κ=some f->F κ=some f):Rel Γ w0 A O0 ν0 N F' D st ν tm w:=by
 refine R.ghost (fun _=>U) (Ext.refl _ _ _) (fun _ h=>h) R.objs R.frozen (fun k f l=>R.flos k f (h k f l)) id ?_ (fun _ _ _ _ h=>h) (fun b a j=>(j a).elim) R.io;intro k b o e a;cases k with
 |nd i p=>exact⟨o,e,a⟩
 |fl k p=>
  obtain⟨f,c,g⟩:=e;simp only[baseOf,c]at a;exact⟨o,⟨f,h k f c,g⟩,by simp only[id,baseOf,h k f c];exact a⟩
theorem S7.keep{F':Fl}{κ:FK}{a:AV}{v:Value}(h:S7 F D w κ a v)(f:F' κ=F κ):S7 F' D w κ a v:=by
 rcases h with⟨s,es,φ,b,c,e⟩|h
 ·exact .inl ⟨s,es,φ,b,f.trans c,e⟩
 ·exact .inr h
theorem a0v.keep{F':Fl}{k:Nat}{a:AV}{v:Value}(h:a0v F D w k a v)(g:∀j,F' (5,k,j)=F (5,k,j)):a0v F' D w k a v:=by
 rcases h with⟨i,cs,c,e,f,m⟩|⟨es,j,φ,b,o,c,e,f⟩|h
 ·exact .inl ⟨i,cs,c,e,f,fun j l p=>(m j l p).keep (g _)⟩
 ·exact .inr (.inl ⟨es,j,φ,b,o,c,(g _).trans e,f⟩)
 ·exact .inr (.inr (h.keep (g _)))
theorem a7u(R:Rel Γ w0 A O0 ν0 N F D st ν tm w){κ:FK}{id:Nat}{a u:AV}{v:Value}{st':St}(q:S7 F D w κ a v)(h:(a0s id a).go C st=some (u,st')):
 ∃F' c,Rel Γ w0 A O0 ν0 N F' D st' c tm w/\Ext st ν w st' c w/\(∀b,b≠κ->F' b=F b)/\RS st' c w D u v:=by
 rcases q with⟨s,es,φ,rfl,l,e,f⟩|⟨o,f⟩
 ·simp only[a0s,RW.go_bind,RW.go_up,X3,RW.go_wr,RW.go_pure,Zz,Zk,Zb,Zj]at h
  obtain⟨rfl,rfl⟩:=h;obtain⟨i,E⟩:=R.attach l id (I0 (st (.h id))+1) (ZK _) 0 (.inl U);refine⟨_,_,i,E,fun b h=>Fl.set_ne _ _ h,?_⟩;obtain⟨x,cap,rfl,g,k⟩:=f;simp only[St.upds];refine .sl id _ none 0 es.length _ ⟨x,cap,U,g⟩ (by rw[St.upd_eq];exact Zd _) (by intro _ _ _ _ _ _ p;cases p) fun m t j e=> ?_
  rw[a1b]at e;cases e;rw[Nu.set_eq];exact⟨x,cap,U,g,k⟩
 ·have same:st'=st->u=a->∃F' c,Rel Γ w0 A O0 ν0 N F' D st' c tm w/\Ext st ν w st' c w/\(∀b,b≠κ->F' b=F b)/\RS st' c w D u v:=by
   rintro rfl rfl;exact⟨F,ν,R,Ext.refl _ _ _,fun _ _=>U,.data _ _ f⟩
  unfold a0s at h;split at h
  ·simp[Y4,immLeaf]at o
  all_goals first
   |(simp only[RW.go_bind,RW.go_up,F5,Za,Zf,RW.go_pure,Zb,Zj]at h;obtain⟨_,⟨_,_,rfl⟩,h⟩:=h;exact same h.2.symm h.1.symm)
   |(simp only[RW.go_pure,Zb,Zj]at h;exact same h.2.symm h.1.symm)
   |simp at h
theorem b4b{d k:Nat}:∀(fs us:List AV) (i:Nat) (F:Fl) (st st':St) (ν:Nu) (n:Nat) (xs:Nat->Value),Rel Γ w0 A O0 ν0 N F D st ν tm w->(a1g d i fs).go C st=some (us,st')->
 (∀(j:Nat) (l:AV),fs[j]? =some l->S7 F D w (5,k,n+j+1) l (xs j))->
 ∃F' b,Rel Γ w0 A O0 ν0 N F' D st' b tm w/\Ext st ν w st' b w/\(∀a,(∀j,a≠(5,k,n+j+1))->F' a=F a)/\us.length=fs.length/\∀(j:Nat) (l:AV),us[j]? =some l->RS st' b w D l (xs j):=by
 intro fs
 induction fs with
 |nil=>
  intro us i F st st' ν n xs R h _;simp only[a1g,RW.go_pure,Zb,Zj]at h;obtain⟨rfl,rfl⟩:=h;exact⟨F,ν,R,Ext.refl _ _ _,fun _ _=>U,U,fun j l p=>by simp at p⟩
 |cons f fs S=>
  intro us i F st st' ν n xs R h E;simp only[a1g,RW.go_bind,RW.go_pure,Za]at h;obtain⟨⟨u,t⟩,L,⟨x,v⟩,M,O⟩:=h;cases O;obtain⟨H,y,J,G,g,q⟩:=a7u R (E 0 f U) L;obtain⟨I,z,K,B,o,p,s⟩:=S x (i+1) H t v y (n+1) (fun j=>xs (j+1)) J M (fun j l c=>by
   have:=E (j+1) l (by simpa using c);rw[show n+1+j+1=n+(j+1)+1 from by omega];exact this.keep (g _ (by intro e;injection e with _ e;injection e with _ e;omega)))
  refine⟨I,z,K,G.trans B,fun a m=> ?_,by simp[p],fun j l c=> ?_⟩
  ·rw[o a (fun j=>by have:=m (j+1);rwa[show n+1+j+1=n+(j+1)+1 from by omega]),g a (m 0)]
  ·cases j with
   |zero=>
    simp only[Zr,Zb]at c;subst c;exact q.same B fun _ h=>h
   |succ j=>
    simp only[ZQ]at c;exact s j l c
theorem b5p{d i k:Nat}(R:Rel Γ w0 A O0 ν0 N F D st ν tm w){a u:AV}{v:Value}{st':St}(q:a0v F D w k a v)(h:(inst1 d i a).go C st=some (u,st')):
 ∃F' e,Rel Γ w0 A O0 ν0 N F' D st' e tm w/\Ext st ν w st' e w/\(∀c,(∀j,c≠(5,k,j))->F' c=F c)/\RS st' e w D u v:=by
 rcases q with⟨B,cs,rfl,rfl,M,K⟩|⟨es,j,φ,b,o,rfl,p,y,hle,I,rfl⟩|q
 ·simp only[inst1,RW.go_bind,RW.go_pure,Za]at h
  obtain⟨⟨us,x⟩,G,H⟩:=h;cases H;obtain⟨F',e,g,E,p,hlen,t⟩:=b4b (k:=k) B us (i+1) F st x ν 0 (fun j=>cs.getD j Yh) R G (fun j l J=>by have:=K j l J;rwa[ZI]);exact⟨F',e,g,E,fun c f=>p c fun j=>f _,.agg us cs (by rw[M,hlen]) t⟩
 ·simp only[inst1,RW.go_bind,RW.go_up,X3,RW.go_wr,RW.go_pure,Zz,Zk,Zb,Zj]at h
  obtain⟨rfl,rfl⟩:=h;obtain⟨g,E⟩:=R.attach p (tid d i) (I0 (st (.h (tid d i)))+1) (ZK _) 3 (.inr ⟨U,hle⟩);refine⟨_,_,g,E,fun c h=>Fl.set_ne _ _ (h 0),?_⟩;simp only[St.upds];refine .ptr _ _ none 0 j _ ⟨b,o+j,U⟩ (by rw[St.upd_eq];exact Zd _) (by intro _ _ _ _ _ _ L;cases L) fun m V z S=> ?_
  rw[Nu.set_eq];exact⟨b,o,I,by simp⟩
 ·have O:(inst1 d i a).go C st=(a0s (tid d i) a).go C st:=by
   rcases q with⟨s,es,φ,rfl,_⟩|⟨y,_⟩
   ·rfl
   ·cases a<;>first|rfl|simp[Y4,immLeaf]at y
  rw[O]at h;obtain⟨F',e,g,E,p,t⟩:=a7u R q h;exact⟨F',e,g,E,fun c f=>p c (f 0),t⟩
theorem c3u{d:Nat}:∀(vs us:List AV) (i:Nat) (F:Fl) (st st':St) (ν:Nu) (n:Nat) (xs:Nat->Value),Rel Γ w0 A O0 ν0 N F D st ν tm w->(instAll d i vs).go C st=some (us,st')->
 (∀(j:Nat) (l:AV),vs[j]? =some l->a0v F D w (n+j) l (xs j))->
 ∃F' a,Rel Γ w0 A O0 ν0 N F' D st' a tm w/\Ext st ν w st' a w/\us.length=vs.length/\∀(j:Nat) (l:AV),us[j]? =some l->RS st' a w D l (xs j):=by
 intro vs
 induction vs with
 |nil=>
  intro us i F st st' ν n xs R h _;simp only[instAll,RW.go_pure,Zb,Zj]at h;obtain⟨rfl,rfl⟩:=h;exact⟨F,ν,R,Ext.refl _ _ _,U,fun j l g=>by simp at g⟩
 |cons f M K=>
  intro us i F st st' ν n xs R h x;simp only[instAll,RW.go_bind,RW.go_pure,Za]at h;obtain⟨⟨u,o⟩,H,⟨q,p⟩,I,J⟩:=h;cases J;obtain⟨z,s,E,y,c,k⟩:=b5p R (x 0 f U) H;obtain⟨B,t,G,v,g,m⟩:=K q (i+16) z o p s (n+1) (fun j=>xs (j+1)) E I (fun j l b=>by
   have:=x (j+1) l (by simpa using b);rw[show n+1+j=n+(j+1)from by omega];exact this.keep fun O=>c _ (by intro L e;injection e with _ e;injection e with e _;omega))
  refine⟨B,t,G,y.trans v,by simp[g],fun j l b=> ?_⟩;cases j with
  |zero=>
   simp only[Zr,Zb]at b;subst b;exact k.same v fun _ h=>h
  |succ j=>
   simp only[ZQ]at b;exact m j l b
theorem d6i{d:Nat}(R:Rel Γ w0 A O0 ν0 N F D st ν tm w){a u:AV}{v:Value}{st':St}(k:AllRes F D w a v)(h:(d7u d a).go C st=some (u,st')):
 ∃c,Rel Γ w0 A O0 ν0 N Fl.emp D st' c tm w/\RS st' c w D u v:=by
 have fin:∀e c,Rel Γ w0 A O0 ν0 N e D st' c tm w->RS st' c w D u v->∃c,Rel Γ w0 A O0 ν0 N Fl.emp D st' c tm w/\RS st' c w D u v:=
  fun e c g i=>⟨c,g.dropF (by intro I f h;cases h),i⟩
 rcases k with⟨vs,cs,rfl,rfl,z,y⟩|k
 ·simp only[d7u,RW.go_bind,RW.go_pure,Za]at h
  obtain⟨⟨us,m⟩,p,q⟩:=h;cases q;obtain⟨e,c,g,E,hlen,i⟩:=c3u vs us 16 F st m ν 0 (fun j=>cs.getD j Yh) R p (fun j l x=>by have:=y j l x;rwa[ZI]);exact fin e c g (.tup us cs (by rw[z,hlen]) i)
 ·have B:(d7u d a).go C st=(inst1 d 0 a).go C st:=by
   rcases k with⟨G,cs,rfl,_⟩|⟨es,j,φ,b,o,rfl,_⟩|⟨s,es,φ,rfl,_⟩|⟨t,_⟩
   ·rfl
   ·rfl
   ·rfl
   ·cases a<;>first|rfl|simp[Y4,immLeaf]at t
  rw[B]at h;obtain⟨e,c,g,E,H,i⟩:=b5p R k h;exact fin e c g i
theorem S7.conv{D':Nat->Prop}{κ:FK}{a:AV}{v:Value}(h:S7 F D w κ a v)(f:hasList a=false\/∀b,D b->D' b):S7 F D' w κ a v:=by
 rcases h with h|⟨c,e⟩
 ·exact .inl h
 ·exact .inr ⟨c,e.convR c f⟩
theorem a0v.conv{D':Nat->Prop}{k:Nat}{a:AV}{v:Value}(h:a0v F D w k a v)(e:hasList a=false\/∀b,D b->D' b):a0v F D' w k a v:=by
 rcases h with⟨c,cs,rfl,g,i,m⟩|h|h
 ·refine .inl ⟨c,cs,U,g,i,fun j l f=>(m j l f).conv (e.imp (fun h=> ?_) fun h=>h)⟩
  simp only[hasList]at h;exact a0h c h l (Zw f)
 ·exact .inr (.inl h)
 ·exact .inr (.inr (h.conv e))
theorem AllRes.conv{D':Nat->Prop}{a:AV}{v:Value}(h:AllRes F D w a v)(e:hasList a=false\/∀b,D b->D' b):AllRes F D' w a v:=by
 rcases h with⟨c,cs,rfl,g,i,k⟩|h
 ·refine .inl ⟨c,cs,U,g,i,fun j l f=>(k j l f).conv (e.imp (fun h=> ?_) fun h=>h)⟩
  simp only[hasList]at h;exact a0h c h l (Zw f)
 ·exact .inr (h.conv e)
end
def d0s(F:Fl)(res:AV):Prop:=∀a f,F a=some f->G3 f.es=true/\(hasList res=false->G1 f.es=false)
def ArgOk(w:World)(D:Nat->Prop):AV->Prop
 | .own _ es=>G3 es=true
 | .ownp es _ _=>P5 es=true
 | .clo _ caps=>∀c∈caps,(∃es i j,c= .ownp es i j/\P5 es=true)\/∃v,RV w D c v
 |a=>∃v,RV w D a v
def Contract(Γ:Env)(P:Program)(md:Nat->Nat)(f:Nat)(as:List AV)(res:AV)(outs:List (List AV)):Prop:=
 ∀(w:World) (A O0:Nat->Prop) (ν0:Nu) (D:Nat->Prop) (vals:Array Value),(∀b,O0 b->A b)->
  Rel Γ w A O0 ν0 as.length Fl.emp D (initLoc md as) ν0 vals w->(∀a∈as,ArgOk w D a)->
  Calls P f vals w fun e j=>∃v,e= .returned v/\∃g i c h,Rel Γ w A O0 ν0 0 g i c h #[] j/\outsOf c (cidAll md 0 as)=some outs/\AllRes g i j res v/\d0s g res
def Enters(P:Program)(f:Nat):Prop:=∃fn,P.funcs[f]? =some fn/\(fn.name== "runtime.NumGoroutine")=false/\fn.body.isNone=false
def SoundC(Γ:Env)(cx:Cx)(C:Caller):Prop:=GlOk Γ cx/\∀f as res outs,C f as=some (res,outs)->Contract Γ cx.P (cx.md f) f as res outs/\Enters cx.P f
theorem b0z{P:Program}{f:Nat}(h:Enters P f)(args:Array Value)(w:World):(callFunc f args).run P w= .ok (.enter f args) w:=by
 obtain⟨fn,c,g,i⟩:=h;have a:fn.name≠ "runtime.NumGoroutine":=by simpa using g
 have b:fn.body≠none:=by intro e;simp[e]at i
 simp[callFunc,ZD,c,a,b]
section
variable{P:Program}{C:Caller}{Γ:Env}{w0:World}{A O0:Nat->Prop}{ν0:Nu}{N:Nat}{F:Fl}{D:Nat->Prop}{st:St}{ν:Nu}{tm:Array Value}{w:World}
theorem PArg.ok{ids:List (Nat×Bool)}{i md:Nat}{v a:AV}{val:Value}(h:PArg F D st ν w ids i md v a val):ArgOk w (DL D st F ν ids) a:=by
 cases h with
 |data _ _ _ _ l=>
  have z:=l;cases l with
  |clo f caps vs R L=>
   intro c y;obtain⟨k,u⟩:=ZF.1 y;exact .inr ⟨_,L k c u⟩
  |_=>exact⟨_,z⟩
 |moved id g n s es φ _ q Y S l hid=>exact l
 |lentS id g p m s es _ q hn hm I J hid S=>
  exact J.1
 |lentP _ _ _ H=>
  obtain⟨id,g,j,m,s,es,b,o,rfl,rfl,E,G,x,V,W,X⟩:=H;exact x
 |clo f caps e cs M q O R Z B y=>
  intro c t;obtain⟨k,u⟩:=ZF.1 t;have K:k<e.length:=(Zo.1 u).1;rcases y k _ c (Ze (by omega)) u with⟨l,_⟩|⟨id,g,j,m,s,es,b,o,_,rfl,E,G,x,_⟩
  ·exact .inr ⟨_,l⟩
  ·exact .inl ⟨es,0,j,U,x⟩
theorem ArgOk.wider{D2:Nat->Prop}{a:AV}(h:ArgOk w D a)(f:∀b,D b->D2 b):ArgOk w D2 a:=by
 cases a<;>first
  |exact h
  |(obtain⟨v,e⟩:=h;exact⟨v,e.wider f⟩)
  |(intro c g;rcases h c g with h|⟨v,e⟩;exact .inl h;exact .inr ⟨v,e.wider f⟩)
theorem e7e(cx:Cx)(hS:SoundC Γ cx C)(B:∀b,O0 b->A b)(R:Rel Γ w0 A O0 ν0 N Fl.emp D st ν tm w){ds:List Deferred}{k:Nat}{d:Option Nat}{args:List AV}{vals:List Value}{a:AV}{st':St}
 (h:(d2v cx d k args).go C st=some (a,st')) (hr:RL st ν w D args vals) {next:Value->World->Prop} {Rq:Ending->World->Prop}
 (hn:∀v D' l w',Rel Γ w0 A O0 ν0 N Fl.emp D' st' l tm w'->RS st' l w' D' a v->Rq (.returned v) w'):Calls cx.P k vals.toArray w Rq/\Enters cx.P k:=by
 unfold d2v at h;simp only[RW.go_bind,RW.go_up,F5,e2l,Za,Zf]at h;obtain⟨⟨⟨as,ids⟩,s⟩,h1,_,⟨_,h2,rfl⟩,_,⟨⟨res,outs⟩,h3,rfl⟩,_,⟨_,i,rfl⟩,⟨u,a1⟩,h5,y⟩:=h;obtain⟨m,p,K,hlen,g⟩:=F6 h2;have i:=F6 i;simp only at m p K hlen g h3 i h5;obtain⟨F1,D1,L,a4,R1,E1,a5,a7,J,hL,z,a6,hp⟩:=c3n B (cx.md k) args as ids vals 0 Fl.emp D st s (fun _ _=>U) R h1 m hr;have Y:vals.length=args.length:=hr.1;obtain⟨V,S⟩:=e4u (md:=cx.md k) (as0:=as) (ids:=ids) g args as vals L 0 J Y (by omega) hL (fun j a W=>by rw[ZI];exact W) hp;have H:Hand Γ w0 A O0 ν0 N F1 D1 s ν tm w (cx.md k) ids (a1w (cx.md k) 0 args) as vals:=by
  refine⟨R1,m,p,K,hlen,by omega,V,fun j a E=> ?_,g⟩;have W:j<as.length:=(Zo.1 E).1;have X:args[j]? =some (args[j]'(by omega)):=Ze (by omega);have hx:vals[j]? =some (vals[j]'(by omega)):=Ze (by omega);refine⟨L j,args[j]'(by omega),_,hx,hL j,?_,?_⟩
  ·have:=S j _ a X E
   rwa[ZI]at this
  ·have:=hp j _ a _ X E hx
   rwa[ZI]at this
 obtain⟨hC,hE⟩:=hS.2 k as res outs h3;refine⟨(hC w _ _ _ _ vals.toArray (fun b G=> .inr G) H.init (fun a E=> ?_)).mono ?_,hE⟩
 ·obtain⟨j,W⟩:=ZF.1 E
  obtain⟨L',v',a3,_,z,_,a0⟩:=H.args j a W;exact a0.ok.wider fun b G=>G.mono z
 rintro e w' ⟨v,rfl,Fc,Dc,a2,νc,Rc,ho,O,I⟩;obtain⟨b1,b2,b3⟩:=c3g _ _ _ _ _ h5 p;have Z:=e9s _ _ ho;have M:Merge Γ F1 D1 s ν w (cx.md k) ids (a1w (cx.md k) 0 args) as Fc Dc a2 νc w' a1 (ids.all (fun x=>x.2)=true):=by
  refine⟨Rc,b1,b2,fun t c hz=> ?_,fun hq=>Zu.1 hq,fun κ f hf=> ?_⟩
  ·obtain⟨o,⟨q1,q2⟩,q3,q4⟩:=d3v _ _ _ Z t c hz
   refine⟨o,q1,q2,b3 t o q3,i.imp (fun h=>h) fun h=> ?_⟩;have:=List.any_eq_false.1 h.2 o q4;simpa using this
  ·obtain⟨q1,q2⟩:=I κ f hf
   exact⟨q1,i.imp (fun h=>h) fun h=>q2 h.1⟩
 have R2:=M.rel B H;have q:AllRes Fc (Dn D1 Dc (ids.all (fun x=>x.2)=true)) w' res v:=O.conv (by
  rcases i with i|i
  ·exact .inr fun b G=> .inr ⟨i,G⟩
  ·exact .inl i.1)
 simp only at y;split at y
 ·simp only[RW.go_pure,Zb,Zj]at y
  obtain⟨rfl,rfl⟩:=y;exact hn v _ ν w' (R2.dropF (by intro κ f h;cases h)) (.undef v)
 ·obtain⟨l,R3,X⟩:=d6i R2 q y
  exact hn v _ l w' R3 X
theorem f2q(cx:Cx)(W:SoundC Γ cx C)(x:∀b,O0 b->A b)(R:Rel Γ w0 A O0 ν0 N Fl.emp D st ν tm w){ds:List Deferred}{o:Oper}{st':St}(i:a6c o.op=true)(X:∀d,o.dst=some d->d<N)
 (h:(aop cx o).go C st=some ((),st')) {next:Act->World->Prop} {Q:Exit->Act->World->Prop}
 (p:∀D' j t w',Rel Γ w0 A O0 ν0 N Fl.emp D' st' j t w'->next ⟨t,ds⟩ w'):o.wp cx.P ⟨tm,ds⟩ w next Q:=by
 unfold aop at h;simp only[RW.go_bind,RW.go_wr,Za,Zb]at h;obtain⟨⟨a,I⟩,m,M⟩:=h;cases M;unfold aopV at m;split at m<;>rename_i L<;>(try(rw[L]at i;simp[a6c]at i))
 case h_8=>
  rename_i E;exfalso;unfold a6c at i;split at i
  ·rename_i c' y
   exact E _ y
  ·cases i
 rename_i c;split at m<;>rename_i e
 ·simp[e]at i
 ·simp[e]at i
 ·rename_i f
  simp only[RW.go_bind,RW.go_up,Za,Zf]at m;obtain⟨_,⟨fv,O,rfl⟩,_,⟨vs,S,rfl⟩,u⟩:=m;simp only at u;split at u
  ·rename_i k caps
   have z:=G4 O R (ds:=ds);obtain⟨cs,B,Z,H⟩:=z.clo_list;have G:=a5w R (ds:=ds) _ S;have Y:=RL.append G H;obtain⟨K,V⟩:=e7e cx W x R (ds:=ds) u Y (next:=fun _ _=>True) (Rq:=fun
    | .returned v,l=>next ((Yp tm ds).put o.dst v) l
    | .panicked chain,l=>Q (.panic chain) (Yp tm ds) l
    | .outgrown,_=>LetsOut Q) (fun v D' j w' J hv=>by
     have s:=c4x o a [] I;simp only[Zi,St.upds]at s;rw[s]at p;unfold Act.put;cases g:o.dst with
     |none=>simp only[g]at p|-;exact p D' j tm w' J
     |some d=>simp only[g]at p|-;exact p D' j _ w' (J.setT (X d g) hv))
   have q:(execOp (Yp tm ds).eval o).run cx.P w= .ok (.enter k (c.args.map (Yp tm ds).eval++cs)) w:=by
    simp only[execOp,L,resolve,e,B,Deferred.ofValue,ZD,ZM,Zv,invoke];have:=b0z V (c.args.map (Yp tm ds).eval++cs) w;simpa using this
   rw[Oper.wp,q,Oper.upon_enter];have:(c.args.toList.map (Yp tm ds).eval++cs.toList).toArray=c.args.map (Yp tm ds).eval++cs:=by
    apply Array.ext';simp
   rw[this]at K;exact K
  ·simp at u
 ·exfalso
  split at i
  ·rename_i f z
   exact e _ z
  ·cases i
end
end Go.Mv
end
section
namespace Go.Mv
open Go Go.RowKit
section
variable{Γ:Env}{w0:World}{A O0:Nat->Prop}{ν0:Nu}{N:Nat}{F:Fl}{D:Nat->Prop}{st:St}{ν:Nu}{tm:Array Value}{w:World}
theorem Rel.rebase(R:Rel Γ w0 A O0 ν0 N F D st ν tm w):Rel Γ w (fun b=>D b\/TB st ν F b) (TB st ν F) ν0 N F D st ν tm w:=by
 refine⟨R.size,R.slots,R.high,R.objs,R.frozen,R.flos,R.inj,R.dT,fun b a=> .inl (.inl a),fun b a=>⟨(R.dlt b a).1,fun h=> ?_⟩,fun b a=> .inl a,Zd _,U,U,U,fun _=>Zd _,
  fun _ _ _=>U,fun _ _=>U,R.io,fun b a=> ?_,Γ.stable _ _ (fun b a=>R.fr b (R.gO b a).2 (R.gO b a).1) R.gi⟩
 ·rcases h with h|h
  ·have:=(R.dlt b a).1;omega
  ·exact(R.dT b a h).elim
 ·obtain⟨c,e⟩:=R.gO b a
  refine⟨fun f=> ?_,YC e R.le⟩;rcases R.tO b f with h|h
  ·exact c h
  ·omega
theorem Rel.unbase(R:Rel Γ w0 A O0 ν0 N F D st ν tm w)(i:∀b,O0 b->A b){N':Nat}{F':Fl}{D':Nat->Prop}{st':St}{g:Nu}{f:Array Value}{w':World}
 (a:Rel Γ w (fun b=>D b\/TB st ν F b) (TB st ν F) ν0 N' F' D' st' g f w'):Rel Γ w0 A O0 ν0 N' F' D' st' g f w':=by
 have hle:=R.le;refine⟨a.size,a.slots,a.high,a.objs,a.frozen,a.flos,a.inj,a.dT,fun b c=> ?_,fun b c=>⟨(a.dlt b c).1,fun h=> ?_⟩,fun b j=> ?_,Ye R.le a.le,a.os.trans R.os,a.tape.trans R.tape,a.output.trans R.output,
  fun h=>Ye (R.dr h) (a.dr h),fun b c k=> ?_,fun b c=>(a.cs b (by omega)).trans (R.cs b c),a.io,R.gO,R.gi⟩
 ·rcases a.dA b c with(h|h)|h
  ·exact R.dA b h
  ·exact(R.tO b h).imp (i b) id
  ·exact .inr (by omega)
 ·rcases a.dA b c with(e|e)|e
  ·rw[a.fr b (R.dlt b e).1 (R.dT b e)]
   exact(R.dlt b e).2 h
  ·exact(a.dlt b c).2 (.inr e)
  ·exact(a.dlt b c).2 (.inl e)
 ·rcases a.tO b j with h|h
  ·exact R.tO b h
  ·exact .inr (by omega)
 ·rw[a.fr b (by omega) (fun j=>(R.tO b j).elim k (by omega))]
  exact R.fr b c k
theorem Rel.others(R:Rel Γ w0 A O0 ν0 N F D st ν tm w){N':Nat}{F':Fl}{D':Nat->Prop}{st':St}{f:Nu}{e:Array Value}{w':World}
 (g:Rel Γ w (fun b=>D b\/TB st ν F b) (TB st ν F) ν0 N' F' D' st' f e w'):KeepsOthers w w':=
 ⟨g.le,fun k o a j=>by
  rw[g.fr k (ZB.1 a).1 (fun l=> ?_)]
  ·exact a
  ·obtain⟨c,i,h⟩:=R.TB_cells l
   rw[a]at h;cases h;cases j⟩
end
def Fr(ro:Option Nat):Fence:={Fence.wide with round:=ro}
theorem e9d{ro:Option Nat}{n:Nat}{P:Program}{f:FuncId}{args:Array Value}{w:World}{R:Ending->World->Prop}(h:Calls P f args w R):CallsIn (Fr ro) n P f args w R:=
 (callsIn_wide (n:=n)).2 h
theorem f2i{ro:Option Nat}{n:Nat}{P:Program}{row:String}{args:Array Value}{w:World}{R:Value->World->Prop}(h:Rows P row args w R):RowsIn (Fr ro) n P row args w R:=
 fun c cs _=>let⟨v,a,r,s⟩:=h c cs;⟨v,a,r,stepsIn_wide.2 s⟩
theorem f5r{ro:Option Nat}{n:Nat}{P:Program}{o:Oper}{a:Act}{w:World}{K:Act->World->Prop}{Q:Exit->Act->World->Prop}(b:∀c,o.op≠.defer c)(h:o.wp P a w K Q):o.wpIn (Fr ro) n P a w K Q:=by
 refine⟨fun _ _=>trivial,?_⟩;rw[Oper.semAt_eq _ _ _ b];unfold Oper.wp at h;generalize (execOp a.eval o).run P w=r at*;cases r with
 |ok x e=>
  cases x<;>simp only[Oper.upon,Oper.uponIn]at h|-<;>first
   |exact h
   |exact⟨fun h=>by simp[Fr,Fence.wide]at h,e9d h⟩
   |exact⟨fun h=>by simp[Fr,Fence.wide]at h,f2i h⟩
   |exact h.elim
 |halt x e=>cases x<;>simp only[Oper.upon,Oper.uponIn]at h|-<;>exact h
theorem e8u{P:Program}{o:Oper}{a:Act}{w:World}{K:Act->World->Prop}{Q:Exit->Act->World->Prop}
 (h:o.wp P a w (fun g w'=>(∀i,o.dst≠some i->g.tmps[i]? =a.tmps[i]?)->K g w') Q):o.wp P a w K Q:=by
 have c:∀(b:Act) (v:Value) (i:Nat),b.tmps=a.tmps->o.dst≠some i->(b.put o.dst v).tmps[i]? =a.tmps[i]? :=by
  intro b v i j f;unfold Act.put;cases k:o.dst with
  |none=>exact congrArg (·[i]?) j
  |some d=>
   simp only;rw[j,Yn (fun e=>f (by rw[k,e]))]
 unfold Oper.wp at*;generalize (execOp a.eval o).run P w=r at*;cases r with
 |ok x w'=>
  cases x<;>simp only[Oper.upon]at h|-<;>first
   |exact h (fun i f=>c _ _ i rfl f)
   |exact Calls.mono h (fun e l he=>by cases e<;>first|exact he (fun i f=>c _ _ i rfl f)|exact he)
   |exact Rows.mono h (fun _ _ he=>he (fun i f=>c _ _ i rfl f))
   |exact h
 |halt x w'=>cases x<;>simp only[Oper.upon]at h|-<;>exact h
theorem c7l{C:Caller}{cx:Cx}{o:Oper}{st st':St}(h:(aop cx o).go C st=some ((),st')):∀c,o.op≠.defer c:=by
 intro c a;unfold aop aopV at h;simp[a,opV]at h
section
variable{Γ:Env}{w0:World}{A O0:Nat->Prop}{ν0:Nu}{N:Nat}{F:Fl}{D:Nat->Prop}{st:St}{ν:Nu}{tm:Array Value}{w:World}
theorem Rel.turn(R:Rel Γ w0 A O0 ν0 N F D st ν tm w){w':World}{row:Option Nat}(y:w.grownBy w' row)
 (J:∀r,row=some r->w0.heap.size<=r/\∃o:Obj,w.heap[r]? =some o/\o.isCells=false) (W:Γ.mo->w.drawn<=w'.drawn):Rel Γ w0 A O0 ν0 N F D st ν tm w':=by
 have V:∀b,TB st ν F b->w'.heap[b]? =w.heap[b]? :=fun b l=>y.block b (R.TB_lt l) fun e=>by
  obtain⟨_,o,L,M⟩:=J b e.symm;obtain⟨c,K,H⟩:=R.TB_cells l;rw[L]at H;cases H;cases M
 have O:∀b,D b->w'.heap[b]? =w.heap[b]? :=fun b l=>y.block b (R.dlt b l).1 fun e=>by
  obtain⟨h0,o,L,M⟩:=J b e.symm;obtain⟨c,K,H⟩:=(R.dlt b l).2 (.inl h0);rw[L]at H;cases H;cases M
 have t:∀id g m s es p b o,st (.h id)= .obj g m s es->livePath es p->ν id p=some (b,o)->w'.heap[b]? =w.heap[b]? :=by
  intro id g m s es p b o h Z l;by_cases hm:m=2
  ·subst hm
   obtain⟨k1,k2⟩:=R.frozen id g s es h;cases p with
   |none=>exact O b (k1 b o l)
   |some q=>
    obtain⟨B,u,h4⟩:=Z q U;have:=L1 k2 h4;simp[immLeaf]at this
  ·exact V b ⟨.nd id p,o,⟨g,m,s,es,h,hm,Z⟩,l⟩
 have x:∀(es:List AV),livePath es none:=fun _ _ hq=>by cases hq
 have E:Ext st ν w st ν w':=
  ⟨fun _=>Zd _,fun id g Y B u _ h=>⟨Y,u,h,U,fun b o l=>O4 (t id g Y B u none b o h (x _) l),
   fun i j=>⟨fun z=>z,fun s2 G z=> .inr ⟨G,z,U,fun b o l=>O4 (t id g Y B u _ b o h (fun q hq=>by cases hq;exact⟨s2,G,z⟩) l)⟩⟩⟩⟩
 have S:∀a v,RS st ν w D a v->RS st ν w' D a v:=fun a v h=>h.mono E (fun b l _=>⟨O b l,l⟩) y.size
 refine⟨R.size,fun i hi=>S _ _ (R.slots i hi),R.high,fun id g m s es h=> ?_,R.frozen,fun k f I=> ?_,R.inj,R.dT,R.dA,fun b l=>⟨YC (R.dlt b l).1 y.size,fun h=>by rw[O b l];exact(R.dlt b l).2 h⟩,R.tO,
  Ye R.le y.size,y.os.trans R.os,y.tape.trans R.tape,y.output.trans R.output,fun h=>Ye (R.dr h) (W h),fun b l hO=> ?_,fun b l=> ?_,R.io,R.gO,R.gi⟩
 ·exact(R.objs id g m s es h).mono U (fun _ _ _ _ _=>U) (fun b o l=>t id g m s es none b o h (x _) l) (fun i j B u b o X l=>t id g m s es (some (i,j)) b o h (fun q hq=>by cases hq;exact⟨B,u,X⟩) l) S
 ·exact(R.flos k f I).mono U (fun _ _ _ _ _=>U) (fun b o l=>V b ⟨.fl k none,o,⟨f,I,x _⟩,by simp only[baseOf,I];exact l⟩)
   (fun i j B u b o X l=>V b ⟨.fl k (some (i,j)),o,⟨f,I,fun q hq=>by cases hq;exact⟨B,u,X⟩⟩,by simp only[baseOf,I];exact l⟩) S
 ·rw[y.block b (YC l R.le) fun e=>by have:=(J b e.symm).1;omega]
  exact R.fr b l hO
 ·rw[O4 (y.block b (YC l R.le) fun e=>by have:=(J b e.symm).1;omega)]
  exact R.cs b l
end
def mkD(k:Nat):Deferred:={target:= .collected k,args:= #[]}
def a3y(B:Nat)(ds:List Deferred)(w:World):Prop:=∃a:List Nat,ds=a.map mkD/\a.Nodup/\∀k∈a,B<=k/\w.heap[k]? =some (.deferred (some []))
theorem a3y.nil(B:Nat)(w:World):a3y B [] w:=⟨[],rfl,List.nodup_nil,fun _ h=>by cases h⟩
theorem a3y.keeps{B:Nat}{ds:List Deferred}{w w':World}(h:a3y B ds w)(f:KeepsOthers w w'):a3y B ds w':=by
 obtain⟨g,c,e,b⟩:=h;exact⟨g,c,e,fun k a=>⟨(b k a).1,f.same k _ (b k a).2 U⟩⟩
theorem a3y.cons{B:Nat}{ds:List Deferred}{w w':World}(h:a3y B ds w)(i:KeepsOthers w w'){k:Nat}(g:B<=k)(hlt:w.heap.size<=k)(hm:w'.heap[k]? =some (.deferred (some []))):a3y B (mkD k::ds) w':=by
 obtain⟨l,e,f,b⟩:=h;refine⟨k::l,by rw[e];rfl,List.nodup_cons.2 ⟨fun c=> ?_,f⟩,fun j a=> ?_⟩
 ·have:=(ZB.1 (b k c).2).1;omega
 ·rcases ZP.1 a with rfl|a
  ·exact⟨g,hm⟩
  ·exact⟨(b j a).1,i.same j _ (b j a).2 U⟩
theorem a3y.same{B:Nat}{ds:List Deferred}{w w':World}(h:a3y B ds w)(e:w'.heap=w.heap):a3y B ds w':=by
 obtain⟨g,a,b,c⟩:=h;exact⟨g,a,b,fun k f=>by rw[e];exact c k f⟩
theorem a5r{P:Program}{fn:Func}{n:Nat}{Γ:Env}{w0:World}{A O0:Nat->Prop}{ν0:Nu}{N:Nat}{st:St}{tm:Array Value}{R:Ending->World->Prop}
 (a:∀D ν w,Rel Γ w0 A O0 ν0 N Fl.emp D st ν tm w->∃v,(results fn tm).run P w= .ok v w/\R (.returned v) w):
 ∀(b:List Nat) (D:Nat->Prop) (ν:Nu) (w:World),b.Nodup->(∀k∈b,w0.heap.size<=k/\w.heap[k]? =some (.deferred (some [])))->Rel Γ w0 A O0 ν0 N Fl.emp D st ν tm w->LeavesInM Fence.wide n P fn tm R (b.map mkD) .returning w
 |[],D,ν,w,_,_,c=>a D ν w c
 |k::b,D,ν,w,o,m,c=>by
  obtain⟨p,g⟩:=m k (Zq ..);refine⟨(by intro h;cases h),.inl ⟨k,_,U,run_takeDeferred g,a5r a b D ν _ (List.nodup_cons.1 o).2 (fun j l=> ?_) (c.turn (grownBy_putObj' w k _) (fun r e=>by cases e;exact⟨p,_,g,U⟩) (fun _=>Zd _))⟩⟩;obtain⟨q,i⟩:=m j (Zn _ l);refine⟨q,?_⟩;have f:j≠k:=fun e=>by subst e;exact(List.nodup_cons.1 o).1 l
  have e:=(grownBy_putObj' w k (.deferred none)).block j (ZB.1 i).1 (fun e=>f (by cases e;rfl));rw[e];exact i
section
variable{P:Program}{C:Caller}{ro:Option Nat}{n:Nat}{T:(Nat->Prop)×Array Value}{Γ:Env}{w0:World}{A O0:Nat->Prop}{ν0:Nu}{N:Nat}{F:Fl}{D:Nat->Prop}{st:St}{ν:Nu}{tm:Array Value}{w:World}
theorem Rel.drawn(R:Rel Γ w0 A O0 ν0 N F D st ν tm w)(n:Nat)(l:w.drawn<=n):Rel Γ w0 A O0 ν0 N F D st ν tm {w with drawn:=n}:=by
 have W:WStep Γ w {w with drawn:=n} w.heap.size:=(WStep.refl w _).drew n l;have E:Ext st ν w st ν {w with drawn:=n}:=R.extW W;have e:∀a v,RS st ν w D a v->RS st ν {w with drawn:=n} D a v:=fun a v h=>h.mono E (fun b c _=>⟨U,c⟩) (Zd _)
 refine R.world W (.inr (Zd _)) (fun _=>U) E ?_ R.frozen ?_ id (fun _=>False) (fun k b o j c=> .inl ⟨fun h=>h,o,j,c⟩) (fun _ _ _ _ _ _ h=>h) (fun _ _ h=>h.elim) R.io
 ·intro id g m s es h
  exact(R.objs id g m s es h).mono U (fun _ _ _ _ _=>U) (fun _ _ _=>U) (fun _ _ _ _ _ _ _ _=>U) e
 ·intro k f i
  exact(R.flos k f i).mono U (fun _ _ _ _ _=>U) (fun _ _ _=>U) (fun _ _ _ _ _ _ _ _=>U) e
def Rg(Γ:Env)(T:(Nat->Prop)×Array Value)(w0:World)(A O0:Nat->Prop)(ν0:Nu)(N:Nat)(st:St)(a:Act)(w:World):Prop:=
 a3y w0.heap.size a.defers w/\(∀i,¬T.1 i->a.tmps[i]? =T.2[i]?)/\∃D ν,Rel Γ w0 A O0 ν0 N Fl.emp D st ν a.tmps w
theorem e3r{st:St}{x:RW Unit}{ws:Ws}{rs:List Mv.Loc}(h:Rd.run (α:=Unit×Ws) C st x=some (((),ws),rs)):x.go C st=some ((),st.upds ws):=
 RW.go_of_ev (Rd.ev_of_run h)
theorem f2l(cx:Cx)(Y:SoundC Γ cx C)(B:∀b,O0 b->A b){ops:Array Oper}(M:∀(i:Nat) (o:Oper),ops[i]? =some o->∀d,o.dst=some d->d<N)(V:∀(i:Nat) (o:Oper),ops[i]? =some o->∀d,o.dst=some d->T.1 d):
 d8n (Fr ro) n cx.P C cx ops (Rg Γ T w0 A O0 ν0 N):=by
 intro i o st a w ws rs K Q u H hR L;obtain⟨tm,X⟩:=a;obtain⟨k,E,D,ν,R⟩:=hR;simp only at k E R;have c:=e3r H;have main:(aop cx o).go C st=some ((),st.upds ws)->o.wpIn (Fr ro) n cx.P ⟨tm,X⟩ w K Q:=by
  intro h;refine f5r (c7l h) (e8u ?_);by_cases Z:a6c o.op=true
  ·exact f2q cx Y (fun b q=> .inr q) R.rebase Z (M i o u) h fun J y W w' z x=>L _ _ ⟨k.keeps (R.others z),fun j l=>(x j (fun e=>l (V i o u j e))).trans (E j l),J,y,R.unbase B z⟩
  ·exact f3q cx Y.1 (fun b q=> .inr q) R.rebase (by simpa using Z) (M i o u) h fun J y W w' z x=>L _ _ ⟨k.keeps (R.others z),fun j l=>(x j (fun e=>l (V i o u j e))).trans (E j l),J,y,R.unbase B z⟩
 have skip:(wr (setD o (.val Yh))).go C st=some ((),st.upds ws)->K ((Yp tm X).put o.dst Yh) w:=by
  intro h;simp only[RW.go_wr,Zb,Zj,true_and]at h;refine L _ _ ?_;rw[<-h];unfold Act.put setD;cases f:o.dst with
  |none=>exact⟨k,E,D,ν,R⟩
  |some d=>exact⟨k,fun j l=>by rw[Yn (fun e=>l (V i o u j (by rw[f,e])))];exact E j l,D,ν,R.setT (M i o u d f) (.data _ _ (.val _))⟩
 unfold wpOpIn;simp only[u];unfold U7 at c;split at c
 ·rename_i G
  have:YO o (yielded ops tm)=true:=by simp[YO,G]
  simp only[this,if_true];exact main c
 ·rename_i g want G
  split at c
  ·rename_i d f
   simp only[RW.go_bind,RW.go_up,X3,Zz,Zk]at c;have p:∀v,st (.t d)= .val v->tm[d]? =some v:=by
    intro v S;have hlt:d<N:=by
     rcases Nat.lt_or_ge d N with h|h
     ·exact h
     ·rw[R.high d h]at S;cases S
    have:=R.slots d hlt;rw[S]at this;have:=this.val_inv;have O:tm.size=N:=R.size;have m:d<tm.size:=O▸hlt;rw[ZJ]at this;have hx:tm[d]? =some (tm[d]'m):=Array.getElem?_eq_getElem m;rw[hx]at this|-;simpa using this
   split at c
   ·rename_i b q
    have I:yielded ops tm g=some b:=by simp[yielded,f,p _ q]
    split at c
    ·rename_i s
     have:YO o (yielded ops tm)=true:=by simp[YO,G,I,s]
     simp only[this,if_true];exact main c
    ·rename_i s
     have:YO o (yielded ops tm)=false:=by simp[YO,G,I,s]
     simp only[this,ZY,if_false];exact⟨fun _ _=>trivial,skip c⟩
   ·rename_i t q
    have I:yielded ops tm g=none:=by simp[yielded,f,p _ q]
    have:YO o (yielded ops tm)=false:=by simp[YO,G,I]
    simp only[this,ZY,if_false];exact⟨fun _ _=>trivial,skip c⟩
   ·simp at c
  ·simp at c
theorem c2i{g:Fence}{cx:Cx}{ops:Array Oper}{R:St->Act->World->Prop}(b:d8n g n P C cx ops R){st':St}{Q:Exit->Act->World->Prop}
 (k:∀a w,R st' a w->Q .normal a w):∀(L:List Nat) (f:List Log) (st:St) (a:Act) (w:World),Runs C cx ops st L f st'->R st a w->wpOpsIn g n P ops Q L a w:=by
 intro L
 induction L with
 |nil=>
  intro f st a w h c;cases h;exact k a w c
 |cons i L m=>
  intro f st a w h c;cases h with
  | @cons _ _ _ o ws rs _ _ l h r=>
   rw[wpOpsIn_cons];exact b i o st a w ws rs _ Q l h c fun j p e=>m _ _ j p r e
theorem e3k(cx:Cx)(E:SoundC Γ cx C)(p:∀b,O0 b->A b)(hm:cx.P.follows .mixedOrders=true){ops:Array Oper}(H:∀(i:Nat) (o:Oper),ops[i]? =some o->∀d,o.dst=some d->d<N)(K:∀(i:Nat) (o:Oper),ops[i]? =some o->∀d,o.dst=some d->T.1 d)
 {draw:Bool} {id:Nat} {ws:Ws} {l:List Log} {a:Act} (J:R7 C cx ops ops.toList st=some (ws,l)) (G:draw=true->X8 ops.toList l []=true/\a8x ops=true)
 (y:Rg Γ T w0 A O0 ν0 N st a w) {Q:Exit->Act->World->Prop} (v:∀a w,Rg Γ T w0 A O0 ν0 N (st.upds ws) a w->Q .normal a w):(Code.region id ops draw).wpIn (Fr ro) n cx.P Q a w:=by
 have e:=f2l (ro:=ro) (n:=n) (w0:=w0) (A:=A) (O0:=O0) (ν0:=ν0) cx E p H K;obtain⟨c,hlen⟩:=b8x ops.toList 0 st ws l (fun j=>by simp) J;have t:ops.toList.length=ops.size:=by simp
 cases draw with
 |false=>
  refine wpIn_region ?_;rw[List.range_eq_range',<-t];exact c2i e v _ _ _ _ _ c y
 |true=>
  obtain⟨f,g⟩:=G U;refine wpIn_region_any hm ?_;have s:=(c0o (ops:=ops) ops.toList l [] 0 (fun j=>by simp) U (fun i m x h=>by simp at h) hlen f).2;have q:Rg Γ T w0 A O0 ν0 N st a {w with drawn:=w.drawn+1}:=by
   obtain⟨u,B,D,ν,R⟩:=y;exact⟨u.same U,B,D,ν,R.drawn _ (Nat.le_succ _)⟩
  refine c2p e g v ops.size _ st a _ _ l c (by simp[hlen]) s List.nodup_range' ?_ (by simp) ?_ (by simp) q
  ·intro i
   rw[List.mem_range'];constructor
   ·rintro⟨j,z,rfl⟩
    have k:j<ops.size:=by omega
    have:0+1*j=j:=by omega
    rw[this];exact⟨k,by simp[Array.getD,k]⟩
   ·rintro⟨u,_⟩
    exact⟨i,by omega,by omega⟩
  ·intro j o z I
   have hlt:j<ops.size:=(ZB.1 z).1;simp[Array.getD,hlt]at I
end
def refOkV(keep:List Nat)(a:AV):Bool:=match a with
 | .obj _ m _ es=>if m=3\/m=4 then U4 keep es else G3 es||U4 keep es
 | .dead _=>true
 |a=>refsOk keep a
structure KInv(keep:List Nat)(st:St):Prop where
 gone:∀l,keepLoc keep l=false->st l= .undef
 refs:∀l,refOkV keep (st l)=true
theorem a1r{keep:List Nat}:∀(fs:List AV),U4 keep fs=true->∀l∈fs,refsOk keep l=true:=by
 intro fs
 induction fs with
 |nil=>intro _ l b;cases b
 |cons a r c=>
  intro h l b;simp only[U4,Zx]at h;cases b with
  |head=>exact h.1
  |tail _ b=>exact c h.2 l b
theorem c3i{keep:List Nat}{e l:AV}(h:refsOk keep e=true)(a:l∈leaves e):refsOk keep l=true:=by
 cases e with
 |agg b=>exact a1r b (by simpa[refsOk]using h) l a
 |_=>simp only[leaves,Yu]at a;subst a;exact h
theorem b2c{keep:List Nat}{es:List AV}(h:U4 keep es=true){i j:Nat}{l:AV}(a:leafAt es i j=some l):refsOk keep l=true:=by
 unfold leafAt at a;cases he:es[i]? with
 |none=>simp[he]at a
 |some e=>
  simp only[he,Zk]at a;exact c3i (a1r es h e (Zw he)) (Zw a)
section
variable{P:Program}{C:Caller}{Γ:Env}{w0:World}{A O0:Nat->Prop}{ν0:Nu}{N:Nat}{F:Fl}{D:Nat->Prop}{st:St}{ν:Nu}{tm:Array Value}{w:World}
theorem RS.drop{keep:List Nat}{k:St}(B:∀l,keepLoc keep l=true->k l=st l){a:AV}{v:Value}(h:RS st ν w D a v):refsOk keep a=true->RS k ν w D a v:=by
 induction h with
 |undef v=>exact fun _=> .undef v
 |data a v h=>exact fun _=> .data a v h
 |sl id g p off n v x q z h=>
  intro c;have e:k (.h id)=st (.h id):=B _ (by simpa[refsOk,keepLoc]using c);refine .sl id g p off n v x (by rw[e];exact q) (fun m s es E=>z m s es (by rw[<-e];exact E)) fun m s es t=>h m s es (by rw[<-a2l e];exact t)
 |ptr id g p i j v x q z h=>
  intro c;have e:k (.h id)=st (.h id):=B _ (by simpa[refsOk,keepLoc]using c);refine .ptr id g p i j v x (by rw[e];exact q) (fun m s es E=>z m s es (by rw[<-e];exact E)) fun m s es t=>h m s es (by rw[<-a2l e];exact t)
 |asl id g i j n v x q h=>
  intro c;have e:k (.h id)=st (.h id):=B _ (by simpa[refsOk,keepLoc]using c);exact .asl id g i j n v x (by rw[e];exact q) fun m s es t=>h m s es (by rw[<-a2l e];exact t)
 |agg o cs u G y=>
  intro c;exact .agg o cs u fun i l b=>y i l b (a1r o (by simpa[refsOk]using c) l (Zw b))
 |tup o cs u G y=>
  intro c;exact .tup o cs u fun i l b=>y i l b (a1r o (by simpa[refsOk]using c) l (Zw b))
 |clo f caps vs u G y=>
  intro c;exact .clo f caps vs u fun i l b=>y i l b (a1r caps (by simpa[refsOk]using c) l (Zw b))
theorem Rel.dropLocs(R:Rel Γ w0 A O0 ν0 N Fl.emp D st ν tm w){keep:List Nat}{u:St}(B:∀l,keepLoc keep l=true->u l=st l)(E:KInv keep u):
 Rel Γ w0 A O0 ν0 N Fl.emp D u ν tm w:=by
 have y:∀id g m s es,u (.h id)= .obj g m s es->st (.h id)= .obj g m s es:=by
  intro id g m s es h;by_cases e:keepLoc keep (.h id)=true
  ·rw[<-B _ e];exact h
  ·rw[E.gone _ (by simpa using e)]at h;cases h
 have c:∀k,live u Fl.emp k->live st Fl.emp k:=by
  intro k x;cases k with
  |nd id p=>
   obtain⟨g,m,s,es,K,L,M⟩:=x;exact⟨g,m,s,es,y _ _ _ _ _ K,L,M⟩
  |fl k p=>exact x
 refine⟨R.size,fun i G=> ?_,fun i G=> ?_,?_,fun id g s es h=>R.frozen id g s es (y _ _ _ _ _ h),(by intro k f h;cases h),fun V W b Z o2 X Y=>R.inj V W b Z o2 (c _ X) (c _ Y),
  fun b O ⟨k,o,x,z⟩=>R.dT b O ⟨k,o,c k x,z⟩,R.dA,R.dlt,fun b ⟨k,o,x,z⟩=>R.tO b ⟨k,o,c k x,z⟩,R.le,R.os,R.tape,R.output,R.dr,R.fr,R.cs,fun id g m s es h=>R.io id g m s es (y _ _ _ _ _ h),R.gO,R.gi⟩
 ·by_cases e:keepLoc keep (.t i)=true
  ·have q:=E.refs (.t i)
   rw[B _ e]at q|-;have I:=R.slots i G;refine I.drop B ?_;revert q I;generalize st (.t i)=a;intro q I;cases a<;>first|exact q|rfl
  ·rw[E.gone _ (by simpa using e)]
   exact .undef _
 ·by_cases e:keepLoc keep (.t i)=true
  ·rw[B _ e];exact R.high i G
  ·exact E.gone _ (by simpa using e)
 ·intro id g m s es h
  have q:=E.refs (.h id);rw[h]at q;have H:∀l v,immLeaf l=true->RS st ν w D l v->RS u ν w D l v:=fun l v G h=> .data _ _ (h.imm G)
  refine(R.objs id g m s es (y _ _ _ _ _ h)).monoL U (fun _ _ _ _ _=>U) (fun _ _ _=>U) (fun _ _ _ _ _ _ _ _=>U) (fun i j l v x S J=> ?_) (fun _ _ _ _ _ _ l v _ _=>H l v);simp only[refOkV]at q;split at q
  ·exact J.drop B (b2c q x)
  ·rw[Bool.or_eq_true]at q
   rcases q with q|q
   ·refine H l v ?_ J
    rcases Q4 q x with h|h
    ·rw[S]at h;cases h
    ·exact h
   ·exact J.drop B (b2c q x)
end
theorem c4o{keep:List Nat}{l:Mv.Loc}(e:keepLoc keep l=true):∀(ws:Ws) (st:St),st.upds (keptWs keep ws) l=st.upds ws l:=by
 intro ws
 induction ws with
 |nil=>intro st;rfl
 |cons x ws c=>
  intro st;obtain⟨k,a⟩:=x;by_cases b:keepLoc keep k=true
  ·simp only[keptWs,Xt,b,if_true,St.upds]
   exact c _
  ·simp only[keptWs,Xt,b,St.upds]
   rw[if_neg (by simp)];rw[<-c (st.upd k a)];refine St.upds_congr _ _ ?_;rw[St.upd_ne];rintro rfl;exact b e
theorem e9p:∀(ws:Ws) (st:St) (l:Mv.Loc),st.upds ws l=st l\/∃x∈ws,x.1=l/\st.upds ws l=x.2:=by
 intro ws
 induction ws with
 |nil=>intro st l;exact .inl U
 |cons x ws g=>
  intro st l;obtain⟨k,a⟩:=x;rcases g (st.upd k a) l with h|⟨x,b,c,f⟩
  ·by_cases e:l=k
   ·subst e
    exact .inr ⟨_,Zq ..,U,by rw[St.upds,h,St.upd_eq]⟩
   ·exact .inl (by rw[St.upds,h,St.upd_ne _ _ e])
  ·exact .inr ⟨x,Zn _ b,c,f⟩
theorem KInv.upds{keep:List Nat}{st:St}(a:KInv keep st){ws:Ws}(h:tRefsOk keep (keptWs keep ws)=true):KInv keep (st.upds (keptWs keep ws)):=by
 refine⟨fun l b=> ?_,fun l=> ?_⟩
 ·rw[St.upds_notin _ _ _ (fun w hw e=> ?_)]
  ·exact a.gone l b
  ·have:=(Xx.1 hw).2
   rw[e,b]at this;cases this
 ·rcases e9p (keptWs keep ws) st l with e|⟨x,c,g,f⟩
  ·rw[e];exact a.refs l
  ·rw[f]
   have:=Zu.1 h x c;exact this
theorem c3e{ro:Option Nat}{n:Nat}{T:(Nat->Prop)×Array Value}{C:Caller}{Γ:Env}{w0:World}{A O0:Nat->Prop}{ν0:Nu}{N:Nat}(cx:Cx)(s:SoundC Γ cx C)(e:∀b,O0 b->A b)(hm:cx.P.follows .mixedOrders=true){ops:Array Oper}
 (t:∀(i:Nat) (o:Oper),ops[i]? =some o->∀d,o.dst=some d->d<N) (x:∀(i:Nat) (o:Oper),ops[i]? =some o->∀d,o.dst=some d->T.1 d) {draw:Bool} {id:Nat} {keep:List Nat} {st st':St} {a:Act} {w:World} (h:W3 C cx keep ops draw st=some st')
 (m:KInv keep st) (q:Rg Γ T w0 A O0 ν0 N st a w) {Q:Exit->Act->World->Prop} (p:∀a w,KInv keep st'->Rg Γ T w0 A O0 ν0 N st' a w->Q .normal a w):(Code.region id ops draw).wpIn (Fr ro) n cx.P Q a w:=by
 unfold W3 at h;split at h
 ·rename_i ws y v
  split at h
  ·rename_i g
   cases h;have c:=m.upds g.2;refine e3k cx s e hm t x v g.1 q fun a w f=>p a w c ?_
   obtain⟨j,k,D,ν,R⟩:=f;exact⟨j,k,D,ν,R.dropLocs (fun l u=>c4o u ws st) c⟩
  ·cases h
 ·cases h
end Go.Mv
end
section
namespace Go.Mv
open Go Go.RowKit
theorem d6s(a:List Nat)(st:St):maskS a (maskS a st)=maskS a st:=by
 funext l
 cases l with
 |t i=>simp only[maskS];split<;>rfl
 |h i=>rfl
theorem d1i{keep ps:List Nat}{l:List (Nat×Nat)}{a:List Nat}{vs:List Value}{st:St}:startS keep ps l a vs (maskS a st)=startS keep ps l a vs st:=by
 unfold startS;rw[d6s]
theorem a5s{run:St->Option (AExit×St)}{start:List Value->St->St}{a:St->St}(hm:∀vs st,start vs (a st)=start vs st):∀(ys:List (List Value)) (v:List Value) (st:St),
 arounds run start a (ys++[v]) st=(arounds run start a ys st).bind fun s=>match run (start v s)with
  |some (.normal,b)=>some (a b)
  |_=>none
 |[],v,st=>by
  simp only[Zi,arounds,Zk,hm];cases run (start v st)with
  |none=>rfl
  |some r=>obtain⟨e,s⟩:=r;cases e<;>rfl
 |y::ys,v,st=>by
  simp only[Zp,arounds];cases run (start y st)with
  |none=>rfl
  |some r=>
   obtain⟨e,s⟩:=r;cases e with
   |normal=>exact a5s hm ys v s
   |exit i=>rfl
   |ret=>rfl
section
variable{Γ:Env}{w0:World}{A O0:Nat->Prop}{ν0:Nu}{N:Nat}{F:Fl}{D:Nat->Prop}{st:St}{ν:Nu}{tm:Array Value}{w:World}
theorem Rel.mask(R:Rel Γ w0 A O0 ν0 N F D st ν tm w)(f:List Nat){a:Array Value}(c:a.size=N)(j:∀i,f.contains i=false->tm[i]? =a[i]?):Rel Γ w0 A O0 ν0 N F D (maskS f st) ν a w:=by
 refine R.slotsOnly (fun _=>U) c (fun i b=> ?_) (fun i b=> ?_)
 ·simp only[maskS]
  split
  ·exact .undef _
  ·rename_i h
   have g:=R.slots i b;have e:a.getD i undef=tm.getD i undef:=by rw[ZJ,ZJ,j i (by simpa using h)]
   rw[e];exact g
 ·simp only[maskS]
  split
  ·rfl
  ·exact R.high i b
theorem KInv.mask{keep:List Nat}(a:KInv keep st)(c:List Nat):KInv keep (maskS c st):=by
 refine⟨fun l b=> ?_,fun l=> ?_⟩
 ·cases l with
  |t i=>simp only[maskS];split<;>first|rfl|exact a.gone _ b
  |h i=>exact a.gone _ b
 ·cases l with
  |t i=>simp only[maskS];split<;>first|rfl|exact a.refs (.t i)
  |h i=>exact a.refs (.h i)
theorem Rel.setSlot(R:Rel Γ w0 A O0 ν0 N F D st ν tm w){keep:List Nat}(b:KInv keep st){d:Nat}(i:d<N){a:AV}{v:Value}(h:RS st ν w D a v)(j:refOkV keep a=true):
 Rel Γ w0 A O0 ν0 N F D (if keep.contains d then st.upd (.t d) a else st) ν (tm.setIfInBounds d v) w/\KInv keep (if keep.contains d then st.upd (.t d) a else st):=by
 split
 ·rename_i f
  refine⟨R.setT i h,fun l c=> ?_,fun l=> ?_⟩
  ·rw[St.upd_ne]
   ·exact b.gone l c
   ·rintro rfl
    simp only[keepLoc]at c;rw[f]at c;cases c
  ·by_cases e:l= .t d
   ·subst e;rw[St.upd_eq];exact j
   ·rw[St.upd_ne _ _ e];exact b.refs l
 ·rename_i f
  have g:=R.setT (a:= .undef) (v:=v) i (.undef v);have e:st.upd (.t d) .undef=st:=by
   funext l
   by_cases e:l= .t d
   ·subst e;rw[St.upd_eq];exact(b.gone _ (by simpa[keepLoc]using f)).symm
   ·rw[St.upd_ne _ _ e]
  rw[e]at g;exact⟨g,b⟩
end
section
variable{Γ:Env}{w0:World}{A O0:Nat->Prop}{ν0:Nu}{N:Nat}{F:Fl}{D:Nat->Prop}{ν:Nu}{w:World}
theorem Rel.vals{keep:List Nat}:∀(L:List (Nat×Value)) (st:St) (tm:Array Value),(∀x∈L,x.1<N)->KInv keep st->Rel Γ w0 A O0 ν0 N F D st ν tm w->
 Rel Γ w0 A O0 ν0 N F D (st.upds (keptWs keep (L.map fun x=>(.t x.1,.val x.2)))) ν (L.foldl (fun t x=>t.setIfInBounds x.1 x.2) tm) w/\KInv keep (st.upds (keptWs keep (L.map fun x=>(.t x.1,.val x.2))))
 |[],st,tm,_,c,R=>⟨R,c⟩
 |x::L,st,tm,g,c,R=>by
  obtain⟨h,f⟩:=R.setSlot c (g x (Zq ..)) (a:= .val x.2) (v:=x.2) (.data _ _ (.val _)) U;have:=Rel.vals L _ _ (fun y i=>g y (Zn _ i)) f h;simp only[Zy,List.foldl_cons];by_cases b:keep.contains x.1=true
  ·rw[if_pos b]at this
   have e:keptWs keep ((Mv.Loc.t x.1,AV.val x.2)::L.map fun x=>(.t x.1,.val x.2))=(Mv.Loc.t x.1,AV.val x.2)::keptWs keep (L.map fun x=>(.t x.1,.val x.2)):=by
    unfold keptWs;rw[Xt,if_pos (by exact b)]
   rw[e];exact this
  ·rw[if_neg b]at this
   have e:keptWs keep ((Mv.Loc.t x.1,AV.val x.2)::L.map fun x=>(.t x.1,.val x.2))=keptWs keep (L.map fun x=>(.t x.1,.val x.2)):=by
    unfold keptWs;rw[Xt,if_neg (by exact b)]
   rw[e];exact this
theorem Rel.asg{keep:List Nat}:∀(L:List (Nat×Nat)) (st:St) (tm:Array Value),(∀x∈L,x.1<N)->KInv keep st->Rel Γ w0 A O0 ν0 N F D st ν tm w->
 Rel Γ w0 A O0 ν0 N F D (e9k keep L st) ν (L.foldl (fun t x=>t.setIfInBounds x.1 (t.getD x.2 undef)) tm) w/\KInv keep (e9k keep L st)
 |[],st,tm,_,a,R=>⟨R,a⟩
 |x::L,st,tm,c,a,R=>by
  have f:RS st ν w D (st (.t x.2)) (tm.getD x.2 undef):=by
   rcases Nat.lt_or_ge x.2 N with h|h
   ·exact R.slots _ h
   ·rw[R.high _ h];exact .undef _
  obtain⟨e,b⟩:=R.setSlot a (c x (Zq ..)) f (a.refs (.t x.2));exact Rel.asg L _ _ (fun y g=>c y (Zn _ g)) b e
end
theorem c4y{ro:Option Nat}{n:Nat}{P:Program}{ops:Array Oper}{K:Act->World->Prop}{m:Exit->Act->World->Prop}{ds:List Deferred}{W:World}:
 ∀(L:List Oper) (i0:Nat) (l:List (Nat×Nat)) (t:Array Value),(∀j,j<L.length->ops[i0+j]? =L[j]?)->asgOps L=some l->K ⟨l.foldl (fun t x=>t.setIfInBounds x.1 (t.getD x.2 undef)) t,ds⟩ W->
  wpOpsIn (Fr ro) n P ops (Exit.then K m) (List.range' i0 L.length) ⟨t,ds⟩ W
 |[],i0,l,t,_,a,f=>by
  simp only[asgOps,Zb]at a;subst a;exact f
 |o::L,i0,l,t,i,a,f=>by
  simp only[asgOps]at a;split at a
  ·rename_i d p v s k u g
   cases a;have h:=i 0 (by simp);simp only[Nat.add_zero,Zr]at h;rw[Zg,List.range'_succ,wpOpsIn_cons];unfold wpOpIn;simp only[h];have hw:YO o (yielded ops t)=true:=by simp[YO,u]
   simp only[hw,if_true];refine⟨fun _ _=>trivial,?_⟩;have e:(o.semAt (Fr ro).round (Yp t ds).eval).run P W= .ok (.value ((Yp t ds).eval (.tmp p))) W:=by
    rw[Oper.semAt_eq _ _ _ (by rw[k];intro c q;cases q)];simp[execOp,k,Sem.run]
   rw[e,Oper.uponIn_value];have b:(Yp t ds).put o.dst ((Yp t ds).eval (.tmp p))=⟨t.setIfInBounds d (t.getD p undef),ds⟩:=by
    rw[s];rfl
   rw[b];exact c4y L (i0+1) v _ (fun j y=>by
    have:=i (j+1) (by simp;omega);rw[show i0+1+j=i0+(j+1) by omega];simpa using this) g f
  ·cases a
theorem d7e{ro:Option Nat}{n:Nat}{P:Program}{ds:List Deferred}{c:Code}:∀{K:Act->World->Prop} {g:Exit->Act->World->Prop} {W:World} {l:List (Nat×Nat)} {t:Array Value} (_:codeAsg c=some l)
 (_:K ⟨l.foldl (fun t x=>t.setIfInBounds x.1 (t.getD x.2 undef)) t,ds⟩ W),c.wpIn (Fr ro) n P (Exit.then K g) ⟨t,ds⟩ W:=by
 induction c with
 |skip=>
  intro K g W l t e f;cases e;exact wpIn_skip f
 |region id ops dr=>
  intro K g W l t e f;cases dr with
  |true=>simp[codeAsg]at e
  |false=>
   refine wpIn_region ?_;rw[List.range_eq_range',<-Array.length_toList];exact c4y ops.toList 0 l t (fun j o=>by simp) e f
 |seq a b h i=>
  intro K g W l t e f;simp only[codeAsg]at e;split at e
  ·rename_i p q k m
   cases e;rw[List.foldl_append]at f;exact wpIn_seq (h k (i m f))
  ·cases e
 |_=>intro K g W l t e f;simp[codeAsg]at e
theorem b5r:∀(L:List Oper) (l:List (Nat×Nat)),asgOps L=some l->∀x∈l,x.1∈L.flatMap fun o=>o.dst.toList:=by
 intro L
 induction L with
 |nil=>intro l a x b;simp only[asgOps,Zb]at a;subst a;cases b
 |cons o L f=>
  intro l a x b;simp only[asgOps]at a;split at a
  ·rename_i d p g e i h c
   cases a;rw[List.flatMap_cons];rcases ZP.1 b with rfl|b
   ·exact ZV _ (by simp[e])
   ·exact Yc _ (f g c x b)
  ·cases a
theorem c8v{c:Code}:∀{l:List (Nat×Nat)} (_:codeAsg c=some l),∀x∈l,x.1∈codeDsts c:=by
 induction c with
 |skip=>intro l e x f;cases e;cases f
 |region id ops dr=>
  intro l e x f;cases dr with
  |true=>simp[codeAsg]at e
  |false=>exact b5r _ _ e x f
 |seq a b g h=>
  intro l e x f;simp only[codeAsg]at e;split at e
  ·rename_i k m i j
   cases e;rcases ZL.1 f with f|f
   ·exact ZV _ (g i x f)
   ·exact Yc _ (h j x f)
  ·cases e
 |_=>intro l e;simp[codeAsg]at e
def f4z(D:Nat->Prop)(W a:World):Prop:=∀b,D b->a.heap[b]? =W.heap[b]?
def f4l(Γ:Env)(P:Program)(k:Nat)(caps:List AV)(xs:List (List Value)):Prop:=
 ¬Γ.mo/\Enters P k/\∀(w:World) (D:Nat->Prop) (a:Array Value),(∀b,D b->b<w.heap.size)->a.size=caps.length->(∀i c,caps[i]? =some c->RV w D c (a.getD i undef))->∀n,1<=n->
  SeqStopsK Fence.wide n P k a (fun x:{y//y∈xs}=>x.1.toArray) (f4z D) (fun ys=>ys.map (·.1)=xs) (fun _=>True) xs.length w
def a5y(Γ:Env)(cx:Cx):Prop:=∀k F caps xs,cx.it k=some F->F caps=some xs->f4l Γ cx.P k caps xs
end Go.Mv
end
section
namespace Go.Mv
open Go Go.RowKit
def exitOf:AExit->Exit
 | .normal=> .normal
 | .exit i=> .exit i
 | .ret=> .ret
def dstsIn(Z:Nat->Prop):Code->Prop
 | .region _ ops _=>∀(i:Nat) (o:Oper),ops[i]? =some o->∀d,o.dst=some d->Z d
 | .seq a b=>dstsIn Z a/\dstsIn Z b
 | .cond _ a b=>dstsIn Z a/\dstsIn Z b
 | .block _ b=>dstsIn Z b
 | .loop b=>dstsIn Z b
 |_=>True
theorem V3:∀c:Code,dstsIn (fun _=>True) c
 | .region _ _ _=>fun _ _ _ _ _=>trivial
 | .seq a b=>⟨V3 a,V3 b⟩
 | .cond _ a b=>⟨V3 a,V3 b⟩
 | .block _ b=>V3 b
 | .loop b=>V3 b
 | .skip=>trivial
 | .exit _=>trivial
 | .ret=>trivial
 | .goto _=>trivial
 | .label _=>trivial
 | .scope _=>trivial
 | .refuse _=>trivial
 | .rangeFunc .. =>trivial
theorem a1a{Z:Nat->Prop}:∀c:Code,(∀d∈codeDsts c,Z d)->dstsIn Z c
 | .region _ ops _,h=>fun i o f d e=>h d (by
   simp only[codeDsts,List.mem_flatMap];exact⟨o,Array.mem_toList_iff.2 (Array.mem_of_getElem? f),by simp[e]⟩)
 | .seq a b,h=>⟨a1a a fun d e=>h d (by simp[codeDsts,e]),a1a b fun d e=>h d (by simp[codeDsts,e])⟩
 | .cond _ a b,h=>⟨a1a a fun d e=>h d (by simp[codeDsts,e]),a1a b fun d e=>h d (by simp[codeDsts,e])⟩
 | .block _ b,h=>a1a b fun d e=>h d (by simp[codeDsts,e])
 | .loop b,h=>a1a b fun d e=>h d (by simp[codeDsts,e])
 | .skip,_=>trivial
 | .exit _,_=>trivial
 | .ret,_=>trivial
 | .goto _,_=>trivial
 | .label _,_=>trivial
 | .scope _,_=>trivial
 | .refuse _,_=>trivial
 | .rangeFunc ..,_=>trivial
section
variable{C:Caller}{Γ:Env}{N:Nat}
theorem f2t{w0:World}{A O0:Nat->Prop}{ν0:Nu}{st:St}{D:Nat->Prop}{ν:Nu}{tm:Array Value}{w:World}{ds:List Deferred}(R:Rel Γ w0 A O0 ν0 N Fl.emp D st ν tm w){c:Operand}{x:AV}(h:opA st c=x)(a:x≠.undef):RS st ν w D x ((Yp tm ds).eval c):=by
 refine G4 (C:=fun _ _=>none) (x:=c) ?_ R;cases c with
 |tmp t=>simp only[rdO,X3];exact congrArg some h
 |const v=>simp only[rdO,Rd.ev_ret];exact congrArg some h
 |func f=>simp[opA]at h;exact(a h.symm).elim
 |global g=>simp[opA]at h;exact(a h.symm).elim
theorem d1e{T:(Nat->Prop)×Array Value}{w0:World}{A O0:Nat->Prop}{ν0:Nu}{st:St}{a:Act}{w:World}(i:Rg Γ T w0 A O0 ν0 N st a w){c:Operand}{b:Bool}(h:opA st c= .val (.bool b)):a.eval c= .bool b:=by
 obtain⟨tm,e⟩:=a;obtain⟨k,j,D,ν,R⟩:=i;have:RS st ν w D (.val (.bool b)) ((Yp tm e).eval c):=by
  refine G4 (C:=fun _ _=>none) (x:=c) ?_ R;cases c with
  |tmp t=>simp only[rdO,X3];exact congrArg some h
  |const v=>simp only[rdO,Rd.ev_ret];exact congrArg some h
  |func f=>simp[opA]at h
  |global g=>simp[opA]at h
 exact this.val_inv
theorem b4x{n:Nat}{id:Nat}{ops:Array Oper}{draw:Bool}(h:O2 n (.region id ops draw)=true):∀(i:Nat) (o:Oper),ops[i]? =some o->∀d,o.dst=some d->d<n:=by
 intro i o c d a;simp only[O2,Array.all_eq_true]at h;have b:=(ZB.1 c);obtain⟨hlt,he⟩:=b;have:=h i hlt;rw[he,a]at this;simpa using(of_decide_eq_true this).1
def f4x(cx:Cx)(Γ:Env)(C:Caller)(N:Nat)(keep:List Nat)(n:Nat):Prop:=∀(ro:Option Nat) (m:Nat) (T:(Nat->Prop)×Array Value) (w0:World) (A O0:Nat->Prop) (ν0:Nu),(ro=none->2<=m)->(∀b,O0 b->A b)->
 ∀(c:Code) (st e:St) (r:AExit) (a:Act) (w:World) (Q:Exit->Act->World->Prop),aexec C cx keep n c st=some (r,e)->O2 N c=true->dstsIn T.1 c->(ro=none\/T1 c=true)->KInv keep st->Rg Γ T w0 A O0 ν0 N st a w->
  (∀a w,KInv keep e->Rg Γ T w0 A O0 ν0 N e a w->Q (exitOf r) a w)->c.wpIn (Fr ro) m cx.P Q a w
theorem a6v{β:Type}(f:Array Value->Nat×β->Value)(a:List Nat):∀(L:List (Nat×β)) (t:Array Value),(∀x∈L,a.contains x.1=true)->∀i,a.contains i=false->(L.foldl (fun t x=>t.setIfInBounds x.1 (f t x)) t)[i]? =t[i]?
 |[],_,_,_,_=>rfl
 |x::L,t,h,i,b=>by
  rw[List.foldl_cons,a6v f a L _ (fun y c=>h y (Zn _ c)) i b,Yn];intro e;have:=h x (Zq ..);rw[e,b]at this;cases this
theorem e8r(keep:List Nat):∀(l:List (Nat×Nat)) (s:St) (id:Nat),e9k keep l s (.h id)=s (.h id)
 |[],_,_=>rfl
 |x::l,s,id=>by
  show e9k keep l _ (.h id)=_;rw[e8r keep l];simp only;split
  ·exact e2g _ _ _ _
  ·rfl
theorem e6u(keep ps:List Nat)(l:List (Nat×Nat))(b:List Nat)(vs:List Value)(s:St)(id:Nat):startS keep ps l b vs s (.h id)=s (.h id):=by
 unfold startS;rw[e8r,St.upds_notin]
 ·rfl
 ·intro x a
  have:=(Xx.1 a).1;obtain⟨y,_,rfl⟩:=ZG.1 this;intro e;cases e
theorem d6o{n:Nat}{c:Code}:∀{l:List (Nat×Nat)} (_:codeAsg c=some l) (_:O2 n c=true),∀x∈l,x.1<n:=by
 induction c with
 |skip=>intro l e _ x f;cases e;cases f
 |region id ops dr=>
  intro l e g x f;cases dr with
  |true=>simp[codeAsg]at e
  |false=>
   have h:=b5r _ _ e x f;simp only[List.mem_flatMap]at h;obtain⟨o,q,f⟩:=h;obtain⟨i,p⟩:=ZF.1 q;exact b4x g i o (by simpa using p) x.1 (by simpa using f)
 |seq a b j k=>
  intro l e g x f;simp only[codeAsg]at e;simp only[O2,Zx]at g;split at e
  ·rename_i s t h m
   cases e;rcases ZL.1 f with f|f
   ·exact j h g.1 x f
   ·exact k m g.2 x f
  ·cases e
 |_=>intro l e;simp[codeAsg]at e
theorem d8b(cx:Cx)(hI:a5y Γ cx){keep:List Nat}{n:Nat}(hX:f4x cx Γ C N keep n){ro:Option Nat}{m:Nat}{T:(Nat->Prop)×Array Value}{w0:World}{A O0:Nat->Prop}{ν0:Nu}(az:ro=none->2<=m)(al:∀b,O0 b->A b)
 {g:Operand} {ps:Array Tmp} {ac S:Code} {st st':St} {r:AExit} {a:Act} {w:World} {Q:Exit->Act->World->Prop} (h:aexec C cx keep (n+1) (.rangeFunc g ps ac S) st=some (r,st')) (hd:O2 N (.rangeFunc g ps ac S)=true)
 (hn:ro=none\/T1 (.rangeFunc g ps ac S)=true) (hK:KInv keep st) (hR:Rg Γ T w0 A O0 ν0 N st a w) (hQ:∀a w,KInv keep st'->Rg Γ T w0 A O0 ν0 N st' a w->Q (exitOf r) a w):(Code.rangeFunc g ps ac S).wpIn (Fr ro) m cx.P Q a w:=by
 obtain rfl:ro=none:=hn.resolve_right (by simp[T1]);have b8:=az U;simp only[aexec]at h;split at h
 ·rename_i k caps l hg hl
  split at h
  ·rename_i xs b4
   split at h
   ·rename_i hc
    obtain⟨b1,av,hlen⟩:=hc;unfold a5m at h;split at h
    ·rename_i G
     simp only[Zf,Zj]at h;obtain⟨sf,a3,rfl,rfl⟩:=h;obtain⟨F,hF,ag⟩:=Za.1 b4;obtain⟨b0,hE,a1⟩:=hI k F caps xs hF ag;obtain⟨tm,ds⟩:=a;obtain⟨a6,hT,Z,b5,R⟩:=hR;simp only at a6 hT R;have au:=f2t R (ds:=ds) hg (by simp);obtain⟨lb,aw,ab,aa⟩:=au.clo_list;have b3:∀i c,caps[i]? =some c->RV w Z c (lb.getD i undef):=fun i c hi=>by
      obtain⟨v,E,I⟩:=aa.2 i c hi;have e:lb.getD i undef=v:=by
       rw[ZJ];rw[Array.getElem?_toList]at E;rw[E];rfl
      rw[e];have ao:a3m c=true:=Zu.1 av c (Zw hi);cases c<;>simp[a3m]at ao
      cases I with
      |data _ _ h=>exact h
     obtain⟨f,O⟩:∃f,f=codeDsts (.rangeFunc g ps ac S):=⟨_,U⟩;rw[<-O]at G a3;simp only[O2,Zx]at hd;obtain⟨⟨ar,ap⟩,aq⟩:=hd;have a5:∀p∈ps.toList,p<N:=fun p hp=>(of_decide_eq_true (Zu.1 ar p hp)).1
     have b2:∀p∈ps.toList,f.contains p=true:=fun p hp=>by rw[O,YV];simp[codeDsts,hp]
     have ay:∀x∈l,f.contains x.1=true:=fun x hx=>by rw[O,YV];simp[codeDsts,c8v hl x hx]
     have ax:∀x∈l,x.1<N:=fun x hx=>by
      exact d6o hl ap x hx
     have ae:∀vs s,startS keep ps.toList l f vs (maskS f s)=startS keep ps.toList l f vs s:=fun vs s=>d1i
     obtain⟨run,H⟩:∃run:St->Option (AExit×St),run=fun s=>aexec C cx keep n S s:=⟨_,U⟩
     rw[<-H]at G a3;have B:∀b,Z b->b<w.heap.size:=fun b j=>(R.dlt b j).1
     have ad:=R.le;refine wpIn_rangeFunc_ownG (F:=Fr none) (n:=m) U (by omega) (gf:=k) (lb:=lb) aw trivial (fun args w=>b0z hE args w) (w0:=w) (N:=xs.length) (a1 w Z lb B ab b3 (m-1) (by omega))
      (fun E I b j=>(I b j).trans (E b j)) (fun W l' o o' b7 _ _ _ b j=>World.putObj_heap_other (by have:=B b j;omega)) (Below.refl _ w)
      (fun x=>by simpa using Zu.1 hlen x.1 x.2)
      (fun ys W=>∃s,arounds run (startS keep ps.toList l f) (maskS f) (ys.map (·.1)) st=some s/\KInv keep s/\KeepsOthers w W/\(∀b,Z b->W.heap[b]? =w.heap[b]?)/\∃D ν,(∀b,Z b->¬TB s ν Fl.emp b)/\Rel Γ w0 A O0 ν0 N Fl.emp D s ν tm W)
      (fun _ _ _=>False) ?_ (fun c s X Y row h _ _=>h) ?_
      (fun x=>⟨l.foldl (fun t x=>t.setIfInBounds x.1 (t.getD x.2 undef)) ((ps.toList.zip x.1).foldl (fun t x=>t.setIfInBounds x.1 x.2) tm),[]⟩) ?_ ?_ ?_ (fun _ _ _ _ _ _ h _=>h.elim)
     ·rintro ys X Y row ⟨s,E,I,V,h4,D,ν,h5,R1⟩ J L
      refine⟨s,E,I,⟨Ye V.size J.size,fun k' o hk ho=> ?_⟩,fun b j=> ?_,D,ν,h5,R1.turn J (fun r e=>⟨Ye ad (L r e).1,(L r e).2⟩) (fun h=>(b0 h).elim)⟩
      ·have h6:=V.same k' o hk ho
       rw[J.block k' (ZB.1 h6).1 (fun e=>by have:=(L k' e.symm).1;have:=(ZB.1 hk).1;omega)];exact h6
      ·have h6:=B b j
       have h7:=V.size;rw[J.block b (by omega) (fun e=>by have:=(L b e.symm).1;omega)];exact h4 b j
     ·exact⟨maskS f st,U,hK.mask f,KeepsOthers.refl w,fun _ _=>U,Z,b5,fun b j ht=>R.dT b j ((a8i (fun _=>U) b).1 ht),R.mask f R.size (fun _ _=>U)⟩
     ·intro l' x W K ah
      have e:(ps.zip x.1.toArray).foldl (fun t (p,v)=>t.setIfInBounds p v) tm=(ps.toList.zip x.1).foldl (fun t x=>t.setIfInBounds x.1 x.2) tm:=by
       rw[<-Array.foldl_toList,Array.toList_zip]
      show ac.wpIn (Fr (some l')) _ _ _ ⟨(ps.zip x.1.toArray).foldl (fun t (p,v)=>t.setIfInBounds p v) tm,[]⟩ W;rw[e];exact d7e hl ah
     ·rintro l' pre x W ⟨s,E,I,V,h4,D,ν,h5,R1⟩ hlt
      have u:=G (pre.map (·.1)++[x.1]) (fun y M=>by
       rcases ZL.1 M with M|M
       ·obtain⟨z,_,rfl⟩:=ZG.1 M;exact z.2
       ·rw[Yu.1 M];exact x.2) (by simp;omega)
      rw[a5s ae,E,Zk]at u;cases q:run (startS keep ps.toList l f x.1 s)with
      |none=>simp[q]at u
      |some rr=>
       obtain⟨e,s2⟩:=rr;cases e with
       |exit i=>simp[q]at u
       |ret=>simp[q]at u
       |normal=>
        obtain⟨Ra,aj⟩:=Rel.vals (keep:=keep) (ps.toList.zip x.1) (maskS f s) tm (fun y M=>a5 _ (YK M).1) (I.mask f) (R1.mask f R1.size (fun _ _=>U));obtain⟨Rb,ak⟩:=Rel.asg l _ _ ax aj Ra;have a4:∀b,TB (startS keep ps.toList l f x.1 s) ν Fl.emp b->TB s ν Fl.emp b:=fun b j=>(a8i (fun id=>e6u _ _ _ _ _ _ id) b).1 j
        have a0:Rel Γ w0 A O0 ν0 N Fl.emp D (startS keep ps.toList l f x.1 s) ν _ W:=Rb;refine hX (some l') (m-1-1) (fun i=>f.contains i=true,tm) W _ _ ν0 (by intro h;cases h) (fun b j=> .inr j) S (startS keep ps.toList l f x.1 s) s2 .normal _ W _ (by rw[H]at q;exact q) aq
         (a1a S fun d hd=>by simp only[O,YV];simp[codeDsts,hd]) (.inr b1) ak ⟨a3y.nil _ _,fun i hi=> ?_,D,ν,a0.rebase⟩ (fun a2 W2 ai am=> ?_)
        ·have a7:f.contains i=false:=by simpa using hi
         rw[a6v (fun t x=>t.getD x.2 undef) f l _ ay i a7,a6v (fun _ x=>x.2) f _ tm (fun y M=>b2 _ (YK M).1) i a7]
        ·obtain⟨_,an,D2,b6,R2⟩:=am
         have a8:=a0.others R2;have h7:=V.size;have a9:∀b,Z b->W2.heap[b]? =W.heap[b]? :=fun b j=>R2.fr b (by have:=B b j;omega) (fun ht=>h5 b j (a4 b ht))
         refine⟨a8.from _,a9,maskS f s2,?_,ai.mask f,V.trans a8,fun b j=>(a9 b j).trans (h4 b j),D2,b6,fun b j ht=> ?_,(a0.unbase al R2).mask f R.size (fun i hi=>an i (by simpa using hi))⟩
         ·rw[ZZ,Zy,List.map_nil,a5s ae,E,Zk,q]
         ·rcases R2.tO b ((a8i (fun _=>U) b).1 ht)with h8|h8
          ·exact h5 b j (a4 b h8)
          ·have:=B b j;omega
     ·rintro Dk ys W hle hS ⟨s,E,I,V,h4,D,ν,h5,R1⟩ af
      rw[hS,a3]at E;cases E;exact hQ _ W I ⟨a6.cons V (by omega) hle af,hT,D,ν,R1⟩
    ·cases h
   ·cases h
  ·cases h
 ·cases h
theorem d1v(cx:Cx)(X:SoundC Γ cx C)(W:a5y Γ cx)(hm:cx.P.follows .mixedOrders=true){keep:List Nat}:∀(n:Nat) (ro:Option Nat) (m:Nat) (T:(Nat->Prop)×Array Value) (w0:World) (A O0:Nat->Prop) (ν0:Nu),(ro=none->2<=m)->(∀b,O0 b->A b)->
 (∀(c:Code) (st st':St) (r:AExit) (a:Act) (w:World) (Q:Exit->Act->World->Prop),aexec C cx keep n c st=some (r,st')->O2 N c=true->dstsIn T.1 c->(ro=none\/T1 c=true)->KInv keep st->Rg Γ T w0 A O0 ν0 N st a w->
  (∀a w,KInv keep st'->Rg Γ T w0 A O0 ν0 N st' a w->Q (exitOf r) a w)->c.wpIn (Fr ro) m cx.P Q a w)/\
 (∀(b:Code) (st st':St) (r:AExit) (a:Act) (w:World) (Q:Exit->Act->World->Prop),aexec C cx keep n (.loop b) st=some (r,st')->O2 N b=true->dstsIn T.1 b->(ro=none\/T1 b=true)->KInv keep st->Rg Γ T w0 A O0 ν0 N st a w->
  (∀a w,KInv keep st'->Rg Γ T w0 A O0 ν0 N st' a w->Q (exitOf r) a w)->Code.roundsIn (Fr ro) m cx.P b Q n a w):=by
 intro n
 induction n with
 |zero=>exact fun ro m T w0 A O0 ν0 _ _=>⟨fun c st st' r a w Q h=>by simp[aexec]at h,fun b st st' r a w Q h=>by simp[aexec]at h⟩
 |succ n E=>
  intro ro m T w0 A O0 ν0 J I;obtain⟨p,R⟩:=E ro m T w0 A O0 ν0 J I;have B:∀(b:Code) (st st':St) (r:AExit) (a:Act) (w:World) (Q:Exit->Act->World->Prop),aexec C cx keep (n+1) (.loop b) st=some (r,st')->O2 N b=true->dstsIn T.1 b->(ro=none\/T1 b=true)->KInv keep st->Rg Γ T w0 A O0 ν0 N st a w->
   (∀a w,KInv keep st'->Rg Γ T w0 A O0 ν0 N st' a w->Q (exitOf r) a w)->Code.roundsIn (Fr ro) m cx.P b Q (n+1) a w:=by
   intro b st st' r a w Q h o G t s l j;rw[roundsIn_succ];simp only[aexec]at h;cases v:aexec C cx keep n b st with
   |none=>simp[v]at h
   |some x=>
    obtain⟨H,k⟩:=x;refine p b st k H a w _ v o G t s l fun q u e f=> ?_
    cases H with
    |normal=>
     simp only[v]at h;exact R b k st' r q u Q h o G t e f j
    |exit i=>
     simp only[v,Zb,Zj]at h;obtain⟨rfl,rfl⟩:=h;exact j q u e f
    |ret=>
     simp only[v,Zb,Zj]at h;obtain⟨rfl,rfl⟩:=h;exact j q u e f
  refine⟨fun c st st' r a w Q h o G t s l j=> ?_,B⟩;cases c with
  |skip=>
   simp only[aexec,Zb,Zj]at h;obtain⟨rfl,rfl⟩:=h;exact wpIn_skip (j a w s l)
  |region id ops draw=>
   simp only[aexec]at h;cases O:W3 C cx keep ops draw st with
   |none=>simp[O]at h
   |some k=>
    simp only[O,Zb,Zj]at h;obtain⟨rfl,rfl⟩:=h;exact c3e cx X I hm (b4x o) G O s l j
  |seq x y=>
   simp only[O2,Zx]at o;simp only[T1,Zx]at t;simp only[aexec]at h;refine wpIn_seq ?_;cases K:aexec C cx keep n x st with
   |none=>simp[K]at h
   |some z=>
    obtain⟨H,k⟩:=z;refine p x st k H a w _ K o.1 G.1 (t.imp id (·.1)) s l fun q u e f=> ?_
    cases H with
    |normal=>
     simp only[K]at h;exact p y k st' r q u Q h o.2 G.2 (t.imp id (·.2)) e f j
    |exit i=>
     simp only[K,Zb,Zj]at h;obtain⟨rfl,rfl⟩:=h;exact j q u e f
    |ret=>
     simp only[K,Zb,Zj]at h;obtain⟨rfl,rfl⟩:=h;exact j q u e f
  |cond c x y=>
   simp only[O2,Zx]at o;simp only[T1,Zx]at t;simp only[aexec]at h;split at h
   ·rename_i M
    exact wpIn_cond_true (d1e l M) (p x st st' r a w Q h o.1 G.1 (t.imp id (·.1)) s l j)
   ·rename_i M
    exact wpIn_cond_false (d1e l M) (p y st st' r a w Q h o.2 G.2 (t.imp id (·.2)) s l j)
   ·cases h
  |block id b=>
   simp only[O2]at o;simp only[aexec]at h;refine wpIn_block ?_;cases v:aexec C cx keep n b st with
   |none=>simp[v]at h
   |some z=>
    obtain⟨H,k⟩:=z;refine p b st k H a w _ v o G t s l fun q u e f=> ?_
    cases H with
    |normal=>
     simp only[v,Zb,Zj]at h;obtain⟨rfl,rfl⟩:=h;exact j q u e f
    |exit i=>
     simp only[v]at h;by_cases L:i=id
     ·simp only[L,if_true,Zb,Zj]at h
      obtain⟨rfl,rfl⟩:=h;simp only[exitOf,Exit.inBlock,L,if_true];exact j q u e f
     ·simp only[L,if_false,Zb,Zj]at h
      obtain⟨rfl,rfl⟩:=h;simp only[exitOf,Exit.inBlock,L,if_false];exact j q u e f
    |ret=>
     simp only[v,Zb,Zj]at h;obtain⟨rfl,rfl⟩:=h;exact j q u e f
  |loop b=>exact wpIn_loop_rounds (n+1) (B b st st' r a w Q h (by simpa[O2]using o) G t s l j)
  |exit i=>
   simp only[aexec,Zb,Zj]at h;obtain⟨rfl,rfl⟩:=h;exact wpIn_exit (j a w s l)
  |ret=>
   simp only[aexec,Zb,Zj]at h;obtain⟨rfl,rfl⟩:=h;exact wpIn_ret (j a w s l)
  |rangeFunc g Z ac Y=>exact d8b cx W (fun ro m T w0 A O0 ν0 S V=>(E ro m T w0 A O0 ν0 S V).1) J I h o t s l j
  |_=>simp[aexec]at h
end
section
variable{P:Program}{C:Caller}{Γ:Env}{w0:World}{A O0:Nat->Prop}{ν0:Nu}{N:Nat}{F:Fl}{D:Nat->Prop}{st:St}{ν:Nu}{tm:Array Value}{w:World}
theorem RO.ofBox{L:AV->Value->Prop}{φ:Path->Base}{bx:Prop}{s:Nat}{es:List AV}(h:RO w L φ bx s es)(y:bx):RO w L φ False (boxS es) es:=by
 refine⟨?_,h.sub⟩;have p:=h.top;cases k:φ none with
 |none=>
  rw[k]at p;exact p
 |some q=>
  obtain⟨b,o⟩:=q;rw[k]at p;obtain⟨c,a,u,f,G,x,m⟩:=p;have hle:=x y
  match es,hle,f,m with
  |[],_,f,_=>exact⟨c,a,u,by simpa using f,(fun _ e he=>by cases he),(fun h=>h.elim),(fun i j l g=>by simp[leafAt]at g)⟩
  |[e],_,f,m=>
   refine⟨c,a,u,?_,fun _ E he=> ?_,fun h=>h.elim,fun i j l g=> ?_⟩
   ·simp only[boxS,Zg,List.length_nil,ZI,Nat.one_mul]
    cases H:(leaves e).length with
    |zero=>simp at f;omega
    |succ n=>
     obtain⟨v,t,_⟩:=m 0 n ((leaves e)[n]'(by omega)) (by simp[leafAt]);have:=(ZB.1 t).1;omega
   ·simp only[Yu]at he
    subst he
    rfl
   ·have z:i=0:=by
     unfold leafAt at g;cases i with
     |zero=>rfl
     |succ i=>simp at g
    subst z;obtain⟨v,t,B⟩:=m 0 j l g;exact⟨v,by simpa using t,B⟩
  |_::_::_,hle,_,_=>simp at hle
theorem Rel.detachBox(R:Rel Γ w0 A O0 ν0 N F D st ν tm w){id g s:Nat}{es:List AV}(h:st (.h id)= .obj g 3 s es){κ:FK}(S:F κ=none):
 Rel Γ w0 A O0 ν0 N (F.set κ (some ⟨ν id,boxS es,es⟩)) D (st.upd (.h id) (.dead g)) ν tm w:=by
 have E:Ext st ν w (st.upd (.h id) (.dead g)) ν w:=R.extUpd (by rw[h];exact Zd _) (by intro _ _ _ _ e;cases e) (fun _ _=>U) (fun _ _=>U);have H:∀a v,RS st ν w D a v->RS (st.upd (.h id) (.dead g)) ν w D a v:=fun a v h=>h.same E (fun _ u=>u)
 have x:∀i l m t c,st.upd (.h id) (.dead g) (.h i)= .obj l m t c->i≠id/\st (.h i)= .obj l m t c:=by
  intro i l m t c y;by_cases e:i=id
  ·subst e;rw[St.upd_eq]at y;cases y
  ·rw[L9 _ _ _ e]at y;exact⟨e,y⟩
 refine R.ghost (fun i=>U2 _ _ _ _) E (fun _ u=>u) ?_ ?_ ?_ (FrF κ id) ?_ ?_ (fun b u O=>(O u).elim) ?_
 ·intro i l m t c y
  exact(R.objs i l m t c (x _ _ _ _ _ y).2).mono U (fun _ _ _ _ _=>U) (fun _ _ _=>U) (fun _ _ _ _ _ _ _ _=>U) H
 ·intro i l t c y
  exact R.frozen i l t c (x _ _ _ _ _ y).2
 ·intro k f G
  by_cases e:k=κ
  ·subst e
   rw[Fl.set_eq]at G;cases G;have:=(R.objs id g 3 s es h).ofBox (.inl U);exact this.mono U (fun _ _ _ _ _=>U) (fun _ _ _=>U) (fun _ _ _ _ _ _ _ _=>U) H
  ·rw[Fl.set_ne _ _ e]at G
   exact(R.flos k f G).mono U (fun _ _ _ _ _=>U) (fun _ _ _=>U) (fun _ _ _ _ _ _ _ _=>U) H
 ·intro k b o I u
  cases k with
  |nd i p=>
   obtain⟨l,m,t,c,z,M,B⟩:=I;exact⟨o,⟨l,m,t,c,(x _ _ _ _ _ z).2,M,B⟩,u⟩
  |fl k p=>
   obtain⟨f,z,B⟩:=I;by_cases e:k=κ
   ·subst e
    rw[Fl.set_eq]at z;cases z;simp only[baseOf,Fl.set_eq]at u;simp only[FrF,if_true];exact⟨o,⟨g,3,s,es,h,by decide,B⟩,u⟩
   ·rw[Fl.set_ne _ _ e]at z
    simp only[baseOf,Fl.set_ne _ _ e]at u;simp only[FrF,e,if_false];exact⟨o,⟨f,z,B⟩,u⟩
 ·intro V J W X he
  have hid:∀p,¬live (st.upd (.h id) (.dead g)) (F.set κ (some ⟨ν id,boxS es,es⟩)) (.nd id p):=by
   rintro p ⟨l,m,t,c,z,_⟩;exact(x _ _ _ _ _ z).1 U
  cases V with
  |nd i p=>cases J with
   |nd j q=>exact he
   |fl k q=>
    simp only[FrF]at he;split at he
    ·cases he;exact(hid _ W).elim
    ·cases he
  |fl k p=>cases J with
   |nd j q=>
    simp only[FrF]at he;split at he
    ·cases he;exact(hid _ X).elim
    ·cases he
   |fl Y q=>
    simp only[FrF]at he;split at he<;>split at he
    ·rename_i K L;cases he;rw[K,L]
    ·cases he
    ·cases he
    ·exact he
 ·intro i l m t c y hm
  exact R.io i l m t c (x _ _ _ _ _ y).2 hm
theorem a4c(G:∀b,O0 b->A b){κ:FK}(o:F κ=none)(R:Rel Γ w0 A O0 ν0 N F D st ν tm w){v a:AV}{st':St}{x:Value}(h:(a1j v).go C st=some (a,st'))(K:RS st ν w D v x):
 ∃F' D',(∀b,D b->D' b)/\Rel Γ w0 A O0 ν0 N F' D' st' ν tm w/\Ext st ν w st' ν w/\(∀c,c≠κ->F' c=F c)/\S7 F' D' w κ a x/\
  (∀f,F' κ=some f->G3 f.es=true/\G1 f.es=hasList a):=by
 have same:st'=st->immLeaf a=true->RV w D a x->∃F' D',(∀b,D b->D' b)/\Rel Γ w0 A O0 ν0 N F' D' st' ν tm w/\Ext st ν w st' ν w/\(∀c,c≠κ->F' c=F c)/\S7 F' D' w κ a x/\
  (∀f,F' κ=some f->G3 f.es=true/\G1 f.es=hasList a):=by
  rintro rfl J L;exact⟨F,D,fun _ h=>h,R,Ext.refl _ _ _,fun _ _=>U,.inr ⟨d8p J,L⟩,fun f k=>by rw[o]at k;cases k⟩
 unfold a1j at h;split at h
 ·rename_i id g p off n
  simp only[RW.go_bind,RW.go_up,Za,Zf]at h;obtain⟨_,⟨⟨m,s,es⟩,z,rfl⟩,h⟩:=h;rw[I9]at z;obtain⟨_,_,_,u⟩:=K.sl_inv;have u:=u _ _ _ z;simp only at h;split at h
  ·rename_i Y
   obtain⟨rfl,rfl⟩:=Y;simp only[RW.go_bind,RW.go_up,F5,Za,Zf]at h;obtain⟨_,⟨_,B,rfl⟩,h⟩:=h;obtain⟨hn,t⟩:=F6 B;have hlen:(es.take n).length=n:=by rw[List.length_take];omega
   cases p with
   |none=>
    simp only[RW.go_bind,RW.go_wr,RW.go_pure,Zk,Zb,Zj]at h;obtain⟨rfl,rfl⟩:=h;obtain⟨y,E⟩:=R.takeObj (N5 z) o n;refine⟨_,D,fun _ h=>h,y,E,fun c h=>Fl.set_ne _ _ h,.inl ⟨s,_,ν id,U,Fl.set_eq _ _ _,V0 t n,by rw[hlen];exact u⟩,fun f k=> ?_⟩;rw[Fl.set_eq]at k;cases k;exact⟨V0 t n,U⟩
   |some q=>
    obtain⟨i,j⟩:=q;obtain⟨s0,ps,I,hp⟩:=N1 z;rcases hp with⟨hq,_⟩|⟨i',j',hq,O⟩
    ·cases hq
    ·cases hq
     simp only[d0p,RW.go_bind,RW.go_up,X3,Zz,Zk,I]at h;cases he:ps[i]? with
     |none=>simp[he]at h
     |some e=>
      simp only[he,RW.go_wr,RW.go_pure,Zk,Zb,Zj]at h;obtain⟨rfl,rfl⟩:=h;obtain⟨X,H⟩:=R.node z;have H:=H (by simp);obtain⟨y,E⟩:=R.outSub I (by decide) O (X9 (bx:=(0=3\/0=4)) (s:=s0) he O (l:= .undef) (by intro gs Z;cases Z)) κ o
       (.inl ⟨U,U,U⟩) G
      have M:=y.cut (κ:=κ) (Fl.set_eq _ _ _) n;rw[Fl.set_set]at M;refine⟨_,D,fun _ h=>h,M,E,fun c h=>Fl.set_ne _ _ h,.inl ⟨s,_,_,U,Fl.set_eq _ _ _,V0 t n,by rw[hlen];exact u⟩,fun f k=> ?_⟩;rw[Fl.set_eq]at k;cases k;exact⟨V0 t n,U⟩
  ·simp only[RW.go_bind,RW.go_pure,Za]at h
   obtain⟨⟨S,a0⟩,B,V⟩:=h;cases V;obtain⟨D',W,y,E,L⟩:=V9 G o R B K;exact⟨F,D',W,y,E,fun _ _=>U,.inr ⟨U,L⟩,fun f k=>by rw[o]at k;cases k⟩
 all_goals first
  |(simp only[RW.go_pure,Zb,Zj]at h;obtain⟨rfl,rfl⟩:=h;exact same rfl rfl (K.imm rfl))
  |(simp only[RW.go_bind,RW.go_up,F5,RW.go_pure,Za,Zf]at h
    obtain⟨_,⟨_,B,rfl⟩,h⟩:=h;have J:=F6 B;simp only[Zb,Zj]at h;obtain⟨rfl,rfl⟩:=h;exact same U J (K.imm J))
  |simp at h
theorem b9r(g:∀b,O0 b->A b){κ:FK}(c:F κ=none)(R:Rel Γ w0 A O0 ν0 N F D st ν tm w){v a:AV}{st':St}{x:Value}(h:(a5d v).go C st=some (a,st'))(m:RS st ν w D v x):
 ∃F' D',(∀b,D b->D' b)/\Rel Γ w0 A O0 ν0 N F' D' st' ν tm w/\Ext st ν w st' ν w/\(∀e,e≠κ->F' e=F e)/\S7 F' D' w κ a x/\
  (∀f,F' κ=some f->G3 f.es=true/\G1 f.es=hasList a):=by
 unfold a5d at h;split at h
 ·simp only[RW.go_bind,RW.go_pure,Za]at h
  obtain⟨⟨p,y⟩,q,s⟩:=h;cases s;obtain⟨D',t,o,E,u⟩:=V9 g c R q m;exact⟨F,D',t,o,E,fun _ _=>U,.inr ⟨U,u⟩,fun f k=>by rw[c]at k;cases k⟩
 ·simp only[RW.go_pure,Zb,Zj]at h
  obtain⟨rfl,rfl⟩:=h;obtain⟨a,rfl⟩:=m.nil_inv;exact⟨F,D,fun _ h=>h,R,Ext.refl _ _ _,fun _ _=>U,.inr ⟨U,.list [] a 0 0 0 0 (fun _ _=>undef) (Zd _) (fun h=>(h U).elim) (fun _ h=>by simp at h) (fun i j l h=>by simp[leafAt]at h) (fun i j l h=>by simp[leafAt]at h)⟩,fun f k=>by rw[c]at k;cases k⟩
 ·exact a4c g c R h m
theorem d5a(e:∀b,O0 b->A b){j:Bool}{κ:FK}(g:F κ=none)(R:Rel Γ w0 A O0 ν0 N F D st ν tm w){v a:AV}{st':St}{x:Value}(h:(retLf j v).go C st=some (a,st'))(i:RS st ν w D v x):
 ∃F' D',(∀b,D b->D' b)/\Rel Γ w0 A O0 ν0 N F' D' st' ν tm w/\Ext st ν w st' ν w/\(∀c,c≠κ->F' c=F c)/\S7 F' D' w κ a x/\
  (∀f,F' κ=some f->G3 f.es=true/\G1 f.es=hasList a):=by
 unfold retLf at h;split at h
 ·exact b9r e g R h i
 ·exact a4c e g R h i
theorem b6v(K:∀b,O0 b->A b){bz:Bool}{k:Nat}:∀(fs us:List AV) (cs:List Value) (n:Nat) (F:Fl) (D:Nat->Prop) (st st':St),(∀j,n<j->F (5,k,j)=none)->Rel Γ w0 A O0 ν0 N F D st ν tm w->
 (retLeaves bz fs).go C st=some (us,st')->RL st ν w D fs cs->
 ∃F' D',(∀b,D b->D' b)/\Rel Γ w0 A O0 ν0 N F' D' st' ν tm w/\Ext st ν w st' ν w/\(∀g,(∀j,n<j->g≠(5,k,j))->F' g=F g)/\us.length=fs.length/\
  (∀(j:Nat) (l:AV),us[j]? =some l->∃x:Value,cs[j]? =some x/\S7 F' D' w (5,k,n+j+1) l x)/\
  (∀j f,n<j->F' (5,k,j)=some f->G3 f.es=true/\(G1 us=false->G1 f.es=false)):=by
 intro fs
 induction fs with
 |nil=>
  intro us cs n F D st st' I R h J;simp only[retLeaves,RW.go_pure,Zb,Zj]at h;obtain⟨rfl,rfl⟩:=h;exact⟨F,D,fun _ h=>h,R,Ext.refl _ _ _,fun _ _=>U,U,fun j l p=>(by simp at p),fun j f E q=>by rw[I j E]at q;cases q⟩
 |cons v fs ih=>
  intro us cs n F D st st' I R h J;simp only[retLeaves,RW.go_bind,RW.go_pure,Za]at h;obtain⟨⟨u,H⟩,h1,⟨Z,Y⟩,h2,h3⟩:=h;cases h3;cases cs with
  |nil=>have:=J.1;simp at this
  |cons c cs=>
   obtain⟨c',L,X⟩:=J.2 0 v U;cases L;obtain⟨F1,D1,t,R1,E1,z,S,M⟩:=d5a K (I (n+1) (ZK _)) R h1 X;have W:RL H ν w D1 fs cs:=by
    have:=J.drop 1;simp only[List.drop_succ_cons,ZX]at this;exact⟨this.1,fun i l p=>by obtain⟨v,a,b⟩:=this.2 i l p;exact⟨v,a,b.same E1 t⟩⟩
   obtain⟨F2,D2,y,R2,E2,B,hlen,V,O⟩:=ih Z cs (n+1) F1 D1 H Y (fun j E=>by
    rw[z _ (by intro e;injection e with _ e;injection e with _ e;omega)];exact I j (by omega)) R1 h2 W
   have hk:F2 (5,k,n+1)=F1 (5,k,n+1):=B _ fun j E e=>by injection e with _ e;injection e with _ e;omega
   refine⟨F2,D2,fun b hb=>y b (t b hb),R2,E1.trans E2,fun g G=> ?_,by simp[hlen],fun j l p=> ?_,fun j f E q=> ?_⟩
   ·rw[B g (fun j E=>G j (by omega)),z g (G _ (ZK _))]
   ·cases j with
    |zero=>
     simp only[Zr,Zb]at p;subst p;refine⟨c,U,?_⟩;rcases S with⟨s,es,φ,m,o,q3⟩|⟨m,o⟩
     ·exact .inl ⟨s,es,φ,m,hk.trans o,q3⟩
     ·exact .inr ⟨m,o.wider y⟩
    |succ j=>
     simp only[ZQ]at p|-;obtain⟨x,m,o⟩:=V j l p;exact⟨x,m,by rw[show n+(j+1)+1=n+1+j+1 from by omega];exact o⟩
   ·by_cases e:j=n+1
    ·subst e
     rw[hk]at q;obtain⟨m,o⟩:=M f q;refine⟨m,fun h=> ?_⟩;simp only[G1,Yz]at h;rw[o];exact h.1
    ·obtain⟨m,o⟩:=O j f (by omega) q
     refine⟨m,fun h=> ?_⟩;simp only[G1,Yz]at h;exact o h.2
theorem c0c(K:∀b,O0 b->A b){bz:Bool}{k:Nat}(G:∀j,F (5,k,j)=none)(R:Rel Γ w0 A O0 ν0 N F D st ν tm w){v a:AV}{st':St}{x:Value}(h:(ret1 bz v).go C st=some (a,st'))(Z:RS st ν w D v x):
 ∃F' D',(∀b,D b->D' b)/\Rel Γ w0 A O0 ν0 N F' D' st' ν tm w/\Ext st ν w st' ν w/\(∀p,(∀j,p≠(5,k,j))->F' p=F p)/\a0v F' D' w k a x/\
  (∀j f,F' (5,k,j)=some f->G3 f.es=true/\(hasList a=false->G1 f.es=false)):=by
 unfold ret1 at h;split at h
 ·rename_i fs
  obtain⟨cs,rfl,hr⟩:=Z.agg_list;simp only[RW.go_bind,RW.go_pure,Za]at h;obtain⟨⟨us,a0⟩,J,M⟩:=h;cases M;obtain⟨F',D',O,I,E,u,hlen,W,y⟩:=b6v K (k:=k) fs us cs.toList 0 F D st a0 (fun j _=>G j) R J hr;have Y:=hr.1;refine⟨F',D',O,I,E,fun p z=>u p fun j _=>z j,.inl ⟨us,cs,U,U,by rw[hlen];simpa using Y,fun j l V=> ?_⟩,fun j f q=> ?_⟩
  ·obtain⟨x,B,H⟩:=W j l V
   have B:cs[j]? =some x:=by simpa using B
   rw[ZJ,B];rw[ZI]at H;exact H
  ·cases j with
   |zero=>
    rw[u _ (fun j hj e=>by injection e with _ e;injection e with _ e;omega),G]at q;cases q
   |succ j=>
    obtain⟨B,H⟩:=y (j+1) f (Nat.succ_pos _) q;exact⟨B,fun h=>H (by simpa[hasList]using h)⟩
 ·rename_i id g i j
  simp only[RW.go_bind,RW.go_up,RW.go_wr,RW.go_pure,F5,Za,Zf]at h;obtain⟨_,⟨⟨m,s,es⟩,J,rfl⟩,_,⟨_,M,rfl⟩,_,h3,h4⟩:=h;rw[I9]at J;obtain⟨rfl,S,rfl⟩:=F6 M;cases h3;cases h4;obtain⟨_,_,_,hp⟩:=Z.ptr_inv;obtain⟨b,o,L,rfl⟩:=hp _ _ _ J;have X:=N5 J;have I:=R.detachBox X (G 0);have E:Ext st ν w (st.upd (.h id) (.dead g)) ν w:=R.extUpd (by rw[X];exact Zd _) (by intro _ _ _ _ e;cases e) (fun _ _=>U) (fun _ _=>U);have hle:es.length<=1:=by
   have ht:=(R.objs _ _ _ _ _ X).top;rw[L]at ht;obtain⟨c,a1,k1,k2,k3,k5,k4⟩:=ht;exact k5 (.inl U)
  refine⟨_,D,fun _ h=>h,I,E,fun p h=>Fl.set_ne _ _ (h 0),.inr (.inl ⟨es,j,ν id,b,o,U,Fl.set_eq _ _ _,S,hle,L,by simp⟩),fun j' f y=> ?_⟩;by_cases e:j'=0
  ·subst e
   rw[Fl.set_eq]at y;cases y;refine⟨?_,fun h=>by simpa[hasList]using h⟩;have:=Z4 S;unfold G3;rw[Zu];intro e he;have a2:L0 e=true:=Zu.1 S e he;cases e<;>simp_all[L0,L3]
  ·rw[Fl.set_ne _ _ (by intro t;injection t with _ t;injection t with _ t;exact e t),G]at y
   cases y
 ·obtain⟨F',D',O,I,E,u,W,y⟩:=a4c K (G 0) R h Z
  refine⟨F',D',O,I,E,fun p z=>u p (z 0),.inr (.inr W),fun j f q=> ?_⟩;by_cases e:j=0
  ·subst e
   obtain⟨B,H⟩:=y f q;exact⟨B,fun h=>by rw[H];exact h⟩
  ·rw[u _ (by intro t;injection t with _ t;injection t with _ t;exact e t),G]at q
   cases q
end
section
variable{P:Program}{C:Caller}{Γ:Env}{w0:World}{A O0:Nat->Prop}{ν0:Nu}{N:Nat}{F:Fl}{D:Nat->Prop}{st:St}{ν:Nu}{tm:Array Value}{w:World}
def resSem(tmps:Array Value):ResultVar->Sem Value
 | .tmp t=>pure (tmps.getD t undef)
 | .cell a t=>do loadVar t (<-asAddr (tmps.getD a undef))
theorem d9k(fn:Func)(tmps:Array Value):results fn tmps=(do
 let vs <-fn.results.toList.mapM (resSem tmps)
 pure (if h:vs.toArray.size=1 then vs.toArray[0]else .tuple vs.toArray)):=by
 have:fn.results.mapM (resSem tmps)=Functor.map List.toArray (fn.results.toList.mapM (resSem tmps)):=by
  rw[Array.mapM_eq_mapM_toList]
 have a:results fn tmps=(do
  let vs <-fn.results.mapM (resSem tmps)
  pure (if h:vs.size=1 then vs[0]else .tuple vs)):=by
  unfold results;congr 1
 rw[a,this];simp only[map_eq_pure_bind,bind_assoc,pure_bind]
theorem c6w(m:∀b,O0 b->A b){k:Nat}(B:∀j,F (5,k,j)=none)(R:Rel Γ w0 A O0 ν0 N F D st ν tm w){r:ResultVar}{a:AV}{st':St}{H:Bool}(h:(retVar P H r).go C st=some (a,st')):
 ∃x F' D',(resSem tm r).run P w= .ok x w/\(∀b,D b->D' b)/\Rel Γ w0 A O0 ν0 N F' D' st' ν tm w/\(∀l,(∀j,l≠(5,k,j))->F' l=F l)/\a0v F' D' w k a x/\
  (∀j f,F' (5,k,j)=some f->G3 f.es=true/\(hasList a=false->G1 f.es=false)):=by
 have slot:∀t,RS st ν w D (st (.t t)) (tm.getD t Yh):=by
  intro t;rcases Nat.lt_or_ge t N with h|h
  ·exact R.slots t h
  ·rw[R.high t h];exact .undef _
 cases r with
 |tmp t=>
  simp only[retVar,RW.go_bind,RW.go_up,X3,Zz,Zk]at h;obtain⟨F',D',u,p,E,e,s,I⟩:=c0c m B R h (slot t);exact⟨_,F',D',U,u,p,e,s,I⟩
 |cell c T=>
  simp only[retVar,RW.go_bind,RW.go_up,X3,Zz,Zk]at h;split at h
  ·rename_i id g q i j L
   simp only[RW.go_bind,RW.go_up,Za,Zf]at h;obtain⟨_,⟨v,s,rfl⟩,h⟩:=h;have y:=slot c;rw[L]at y;obtain⟨x,z,M⟩:=c0w (P:=P) R s y;obtain⟨F',D',u,p,E,e,J,K⟩:=c0c m B R h M;refine⟨x,F',D',?_,u,p,e,J,K⟩;obtain⟨⟨b,o,G⟩,_⟩:=y.ptr_inv;rw[G]at z;simp only[Instr.loadAt,Instr.sureAddr,ZD,ZM,Zv]at z;simp only[resSem,G,asAddr,ZD,ZM,Zv,z]
  ·simp at h
theorem c9b(E:∀b,O0 b->A b){bz:Bool}:∀(rs:List ResultVar) (us:List AV) (k:Nat) (F:Fl) (D:Nat->Prop) (st st':St),(∀i j,k<=i->F (5,i,j)=none)->Rel Γ w0 A O0 ν0 N F D st ν tm w->
 (retAll P bz rs).go C st=some (us,st')->
 ∃xs F' D',(rs.mapM (resSem tm)).run P w= .ok xs w/\xs.length=us.length/\us.length=rs.length/\(∀b,D b->D' b)/\Rel Γ w0 A O0 ν0 N F' D' st' ν tm w/\(∀c,(∀i j,k<=i->c≠(5,i,j))->F' c=F c)/\
  (∀(j:Nat) (a:AV),us[j]? =some a->∃x:Value,xs[j]? =some x/\a0v F' D' w (k+j) a x)/\
  (∀i j f,k<=i->F' (5,i,j)=some f->G3 f.es=true/\(G1 us=false->G1 f.es=false)):=by
 intro rs
 induction rs with
 |nil=>
  intro us k F D st st' z R h;simp only[retAll,RW.go_pure,Zb,Zj]at h;obtain⟨rfl,rfl⟩:=h;exact⟨[],F,D,U,U,U,fun _ h=>h,R,fun _ _=>U,fun j a g=>(by simp at g),fun i j f q l=>by rw[z i j q]at l;cases l⟩
 |cons r rs ih=>
  intro us k F D st st' z R h;simp only[retAll,RW.go_bind,RW.go_pure,Za]at h;obtain⟨⟨u,O⟩,h1,⟨V,S⟩,h2,h3⟩:=h;cases h3;obtain⟨x,W,D1,hx,B,Z,o,K,G⟩:=c6w E (k:=k) (fun j=>z k j (Zd _)) R h1;obtain⟨xs,X,D2,M,I,J,m,R2,p,L,H⟩:=ih V (k+1) W D1 O S (fun i j q=>by
   rw[o _ (fun j' e=>by injection e with _ e;injection e with e _;omega)];exact z i j (by omega)) Z h2
  have Y:∀j,X (5,k,j)=W (5,k,j):=fun j=>p _ fun i' j' q e=>by injection e with _ e;injection e with e _;omega
  refine⟨x::xs,X,D2,?_,by simp[I],by simp[J],fun b hb=>m b (B b hb),R2,fun c s=> ?_,fun j a g=> ?_,fun i j f q l=> ?_⟩
  ·simp only[List.mapM_cons,ZD,hx,Zv,M,ZM]
  ·rw[p c (fun i j q=>s i j (by omega)),o c (fun j=>s k j (Zd _))]
  ·cases j with
   |zero=>
    simp only[Zr,Zb]at g;subst g;exact⟨x,U,(K.keep Y).conv (.inr m)⟩
   |succ j=>
    simp only[ZQ]at g|-;obtain⟨y,t,v⟩:=L j a g;exact⟨y,t,by rw[show k+(j+1)=k+1+j from by omega];exact v⟩
  ·by_cases e:i=k
   ·subst e
    rw[Y]at l;obtain⟨t,v⟩:=G j f l;refine⟨t,fun h=>v ?_⟩;simp only[G1,Yz]at h;exact h.1
   ·obtain⟨t,v⟩:=H i j f (by omega) l
    refine⟨t,fun h=>v ?_⟩;simp only[G1,Yz]at h;exact h.2
end
section
variable{P:Program}{C:Caller}{Γ:Env}{w0:World}{A O0:Nat->Prop}{ν0:Nu}{N:Nat}{F:Fl}{D:Nat->Prop}{st:St}{ν:Nu}{tm:Array Value}{w:World}
theorem Y7{keep:List Nat}:∀(fs:List AV),(∀l∈fs,refsOk keep l=true)->U4 keep fs=true:=by
 intro fs
 induction fs with
 |nil=>intro _;rfl
 |cons a r c=>
  intro h;simp only[U4,Zx];exact⟨h a (Zq ..),c fun l b=>h l (Zn _ b)⟩
theorem RV.refsOk{keep:List Nat}{a:AV}{v:Value}(h:RV w D a v):refsOk keep a=true:=by
 induction h with
 |agg g cs j b e=>
  simp only[Mv.refsOk];refine Y7 g fun l b=> ?_
  obtain⟨i,c⟩:=ZF.1 b;exact e i l c
 |tup g cs j b e=>
  simp only[Mv.refsOk];refine Y7 g fun l b=> ?_
  obtain⟨i,c⟩:=ZF.1 b;exact e i l c
 |clo f caps vs j b e=>
  simp only[Mv.refsOk];refine Y7 caps fun l b=> ?_
  obtain⟨i,c⟩:=ZF.1 b;exact e i l c
 |_=>rfl
theorem b0v{keep:List Nat}{l:AV}(h:immLeaf l=true):refsOk keep l=true:=by
 cases l with
 |clo f caps=>
  simp only[refsOk];refine Y7 caps fun l a=> ?_
  have:=Zu.1 (show caps.all a3m=true from h) l a;cases l<;>simp[a3m]at this
  rfl
 |_=>first|rfl|simp[immLeaf]at h
theorem b3s{keep:List Nat}{es:List AV}(h:P5 es=true):U4 keep es=true:=by
 refine Y7 es fun e he=> ?_
 have:=Zu.1 h e he;cases e with
 |agg a=>
  simp only[refsOk];refine Y7 a fun l b=>b0v ?_
  exact Zu.1 (by simpa[L0]using this) l b
 |_=>exact b0v this
theorem e4v{md:Nat->Nat}{as:List AV}{keep:List Nat}(G:∀i,i<as.length->keep.contains i=true)(hlen:as.length<=1000)(E:∀a∈as,ArgOk w D a):KInv keep (initLoc md as):=by
 refine⟨fun l q=> ?_,fun l=> ?_⟩
 ·cases l with
  |t i=>
   have:as[i]? =none:=by
    rcases Nat.lt_or_ge i as.length with h|h
    ·have:=G i h
     simp only[keepLoc]at q;rw[this]at q;cases q
    ·exact ZO h
   simp only[initLoc,this]
  |h i=>
   have:as[i%100000]? =none:=by
    rcases Nat.lt_or_ge (i%100000) as.length with h|h
    ·have:=G _ h
     simp only[keepLoc]at q;rw[this]at q;cases q
    ·exact ZO h
   simp only[initLoc];split
   ·rename_i o
    rw[Nat.mod_eq_of_lt o]at this;simp only[this]
   ·simp only[this]
 ·cases l with
  |t i=>
   cases o:as[i]? with
   |none=>simp only[initLoc,o];rfl
   |some a=>
    have hlt:i<as.length:=(Zo.1 o).1;have j:=E a (Zw o);have B:keep.contains (i%100000)=true:=by rw[Nat.mod_eq_of_lt (by omega)];exact G i hlt
    simp only[initLoc,o];cases a with
    |own s es=>simpa[refOkV,refsOk]using B
    |ownp es a b=>simpa[refOkV,refsOk]using B
    |clo f caps=>
     simp only[refOkV,refsOk];refine Y7 _ fun l q=> ?_
     obtain⟨k,p⟩:=ZF.1 q;rw[a5k]at p;cases z:caps[k]? with
     |none=>simp[z]at p
     |some c=>
      simp only[z,Zz,Zb]at p;subst p;rcases j c (Zw z)with⟨es,x,y,rfl,_⟩|⟨v,u⟩
      ·simp only[refsOk,fid]
       rw[show(100000*(0+k+1)+i)%100000=i from by omega];exact G i hlt
      ·have:=u.refsOk (keep:=keep)
       cases c<;>first|exact this|cases u
    |_=>first
     |rfl
     |(obtain⟨v,u⟩:=j;exact u.refsOk)
     |(obtain⟨v,u⟩:=j;cases u)
  |h i=>
   cases e:initLoc md as (.h i)with
   |obj g m s es=>
    simp only[initLoc]at e;simp only[refOkV];split at e
    ·split at e
     ·rename_i o
      cases e;have j:G3 es=true:=E _ (Zw o);by_cases I:md i=2<;>simp[I,j]
     ·rename_i o
      cases e;have j:P5 es=true:=E _ (Zw o);simp only[Nat.reduceEqDiff,or_true,if_true];exact b3s j
     ·cases e
    ·split at e
     ·rename_i o
      split at e
      ·split at e
       ·rename_i z
        cases e;have j:=E _ (Zw o);rcases j _ (Zw z)with⟨J,x,y,he,H⟩|⟨v,u⟩
        ·cases he
         simp only[Nat.reduceEqDiff,or_true,if_true];exact b3s H
        ·cases u
       ·cases e
      ·cases e
     ·cases e
   |_=>
    simp only[initLoc]at e;split at e
    ·split at e
     ·cases e
     ·cases e
     ·first|(cases e;rfl)|cases e
    ·split at e
     ·split at e
      ·split at e
       ·cases e
       ·first|(cases e;rfl)|cases e
      ·first|(cases e;rfl)|cases e
     ·first|(cases e;rfl)|cases e
theorem Rel.slotsUp(R:Rel Γ w0 A O0 ν0 N F D st ν tm w){N':Nat}(c:N<=N'):Rel Γ w0 A O0 ν0 N' F D st ν (tm++Array.replicate (N'-tm.size) Yh) w:=by
 have b:=R.size;refine⟨by simp;omega,fun i a=> ?_,fun i a=>R.high i (by omega),R.objs,R.frozen,R.flos,R.inj,R.dT,R.dA,R.dlt,R.tO,R.le,R.os,R.tape,R.output,R.dr,R.fr,R.cs,R.io,R.gO,R.gi⟩;rcases Nat.lt_or_ge i N with h|h
 ·have:(tm++Array.replicate (N'-tm.size) Yh).getD i Yh=tm.getD i Yh:=by
   rw[ZJ,ZJ,Array.getElem?_append_left (by omega)]
  rw[this];exact R.slots i h
 ·rw[R.high i h]
  exact .undef _
def noSlots(st:St):St:=fun l=>match l with
 | .t _=> .undef
 | .h i=>st (.h i)
theorem Rel.noSlots(R:Rel Γ w0 A O0 ν0 N F D st ν tm w):Rel Γ w0 A O0 ν0 0 F D (noSlots st) ν #[] w:=by
 have E:Ext st ν w (Mv.noSlots st) ν w:=Ext.of_same (fun _=>U) fun _=>U
 have p:∀a v,RS st ν w D a v->RS (Mv.noSlots st) ν w D a v:=fun a v h=>h.mono E (fun b j _=>⟨U,j⟩) (Zd _)
 have c:=a6a (st:=st) (st':=Mv.noSlots st) (F:=F) (fun _=>U);refine⟨U,fun i q=>by omega,fun i q=>U,?_,fun id g s es h=>R.frozen id g s es h,?_,?_,?_,R.dA,R.dlt,?_,R.le,R.os,R.tape,R.output,R.dr,R.fr,R.cs,fun id g m s es h=>R.io id g m s es h,R.gO,R.gi⟩
 ·intro id g m s es h
  exact(R.objs id g m s es h).mono U (fun _ _ _ _ _=>U) (fun _ _ _=>U) (fun _ _ _ _ _ _ _ _=>U) p
 ·intro k f h
  exact(R.flos k f h).mono U (fun _ _ _ _ _=>U) (fun _ _ _=>U) (fun _ _ _ _ _ _ _ _=>U) p
 ·intro t u b z B x y
  exact R.inj t u b z B ((c _).1 x) ((c _).1 y)
 ·rintro b j ⟨k,o,l,e⟩
  exact R.dT b j ⟨k,o,(c _).1 l,e⟩
 ·rintro b ⟨k,o,l,e⟩
  exact R.tO b ⟨k,o,(c _).1 l,e⟩
theorem c9x{st st':St}(h:∀i,st' (.h i)=st (.h i)):∀(l:List Cid),outsOf st' l=outsOf st l:=by
 intro l
 induction l with
 |nil=>rfl
 |cons c l b=>
  obtain⟨a,m,s⟩:=c;simp only[outsOf,h,b]
theorem d5t{fn:Func}{c:Code}(a:fn.body=some c){i:Nat}(b:i<fn.params.size+fn.nfree):(D8 fn).contains i=true:=by
 simp only[D8,a];rw[YV,List.mem_eraseDups];exact ZV _ (ZV _ (ZV _ (List.mem_range.2 b)))
def c7z(Γ:Env)(cx:Cx):Prop:=∀f F as res outs,cx.ext f=some F->F as=some (res,outs)->Contract Γ cx.P (cx.md f) f as res outs/\Enters cx.P f
theorem d3n(cx:Cx)(I:GlOk Γ cx)(hX:c7z Γ cx)(hI:a5y Γ cx)(hm:cx.P.follows .mixedOrders=true):∀n,SoundC Γ cx (acall cx n):=by
 intro n
 induction n with
 |zero=>exact⟨I,fun f as res outs h=>by simp[acall]at h⟩
 |succ n ih=>
  refine⟨I,?_⟩;intro f as res outs h;simp only[acall]at h;split at h
  ·rename_i F hF
   exact hX f F as res outs hF h
  ·split at h
   ·cases h
   ·rename_i fn q
    split at h
    ·cases h
    ·rename_i c Z
     split at h
     ·rename_i hc
      obtain⟨hd,hlen,hle,J,a2⟩:=hc;refine⟨?_,fn,q,a2,by rw[Z];rfl⟩;intro w A O0 ν0 D vals G R o;refine(callsIn_wide (n:=2)).1 (callsIn_of_wp_marks q Z trivial ?_);have a6:=R.size;have R0:=R.slotsUp (N':=fn.ntmps) hle;have hK:KInv (D8 fn) (initLoc (cx.md f) as):=e4v (fun i hi=>d5t Z (by omega)) J o;cases K:aexec (acall cx n) cx (D8 fn) n c (initLoc (cx.md f) as)with
      |none=>simp[K]at h
      |some r=>
       obtain⟨r,st⟩:=r;have g:∀st,(match Rd.run (α:=List AV×Ws) (acall cx n) st (retAll cx.P (cx.fz f) fn.results.toList)with
        |some ((vs,ws),_)=>match outsOf (st.upds ws) (cidAll (cx.md f) 0 as)with
         |some outs=>some (U5 vs,outs)
         |none=>none
        |none=>none)=some (res,outs)->∀D1 b tm B,Rel Γ w A O0 ν0 fn.ntmps Fl.emp D1 st b tm B->∃v,(results fn tm).run cx.P B= .ok v B/\
         ∃v',Ending.returned v= .returned v'/\∃p S M a3,Rel Γ w A O0 ν0 0 p S M a3 #[] B/\outsOf M (cidAll (cx.md f) 0 as)=some outs/\AllRes p S B res v'/\d0s p res:=by
        intro st h D1 b tm B E;cases hr:Rd.run (α:=List AV×Ws) (acall cx n) st (retAll cx.P (cx.fz f) fn.results.toList)with
        |none=>simp[hr]at h
        |some z=>
         obtain⟨⟨us,ws⟩,ls⟩:=z;simp only[hr]at h;cases ho:outsOf (st.upds ws) (cidAll (cx.md f) 0 as)with
         |none=>simp[ho]at h
         |some os=>
          simp only[ho,Zb,Zj]at h;obtain⟨rfl,rfl⟩:=h;have a0:(retAll cx.P (cx.fz f) fn.results.toList).go (acall cx n) st=some (us,st.upds ws):=RW.go_of_ev (Rd.ev_of_run hr);obtain⟨xs,p,S,k1,L,k3,k4,k5,k6,V,k8⟩:=c9b (P:=cx.P) G fn.results.toList us 0 Fl.emp D1 st _ (fun _ _ _=>U) E a0;have H:d0s p (U5 us):=by
           intro κ f q;by_cases hex:∃i j,κ=(5,i,j)
           ·obtain⟨i,j,rfl⟩:=hex
            obtain⟨s,t⟩:=k8 i j f (Nat.zero_le _) q;refine⟨s,fun h=>t ?_⟩
            match us,h with
            |[v],h=>simpa[U5,G1]using h
            |[],_=>rfl
            |v::v2::r,h=>simpa[U5,hasList]using h
           ·rw[k6 κ fun i j _ e=>hex ⟨i,j,e⟩]at q
            cases q
          refine⟨if h:xs.toArray.size=1 then xs.toArray[0]else .tuple xs.toArray,?_,_,U,p,S,noSlots (st.upds ws),b,k5.noSlots,(c9x (st:=st.upds ws) (st':=Mv.noSlots (st.upds ws)) (fun _=>U) _).trans ho,?_,H⟩
          ·rw[d9k]
           simp only[ZD,k1,Zv,ZM]
          ·by_cases W:xs.length=1
           ·match xs,us,L,W,V with
            |[x],[u],_,_,V=>
             obtain⟨y,s,t⟩:=V 0 u U;simp only[Zr,Zb]at s;subst s;exact .inr t
           ·have hw:U5 us= .tup us:=by
             match us,L with
             |[],_=>rfl
             |[u],L=>exact(W (by simpa using L)).elim
             |_::_::_,_=>rfl
            rw[hw];simp only[List.size_toArray,W,dif_neg,not_false_eq_true];refine .inl ⟨us,xs.toArray,U,U,by simpa using L,fun j a ha=> ?_⟩;obtain⟨y,s,t⟩:=V j a ha;rw[ZJ];simp only[List.getElem?_toArray,s,Option.getD_some];rw[ZI]at t;exact t
       have X:Rg Γ (fun _=>True,#[]) w A O0 ν0 fn.ntmps (initLoc (cx.md f) as) {tmps:=vals++Array.replicate (fn.ntmps-vals.size) undef,defers:=[]} w:=⟨a3y.nil _ _,fun i hi=>(hi trivial).elim,D,ν0,R0⟩;refine(d1v cx ih hI hm n none 2 (fun _=>True,#[]) w A O0 ν0 (fun _=>Zd 2) G).1 c _ st r _ w _ K hd (V3 c) (.inl U) hK X fun a1 w1 a5 Y=> ?_
       obtain⟨O,a4⟩:=a1;obtain⟨⟨ks,k,l,m⟩,_,D1,b,E⟩:=Y;simp only at k E;subst k;cases r with
       |normal=>simp only[K]at h;exact a5r (fun D ν w R=>g st h D ν O w R) ks D1 b w1 l m E
       |ret=>simp only[K]at h;exact a5r (fun D ν w R=>g st h D ν O w R) ks D1 b w1 l m E
       |exit i=>simp[K]at h
     ·cases h
end
def CLe(C a:Caller):Prop:=∀f as r,C f as=some r->a f as=some r
theorem a7g{C i:Caller}(h:CLe C i){α:Type}{st:St}:∀(x:Rd α) {r:α×List Mv.Loc},x.run C st=some r->x.run i st=some r:=by
 intro x
 induction x with
 |ret a=>exact fun h=>h
 |fail=>exact fun h=>h
 |read l k c=>
  intro r b;simp only[Rd.run]at b|-;cases g:(k (st l)).run C st with
  |none=>simp[g]at b
  |some z=>rw[c _ g];simpa[g]using b
 |need p d k c=>
  intro r b;cases d with
  |isTrue _=>exact c b
  |isFalse _=>exact b
 |call f as k c=>
  intro r b;simp only[Rd.run]at b|-;cases e:C f as with
  |none=>simp[e]at b
  |some z=>
   rw[h f as z e];simp only[e]at b;exact c _ _ b
theorem b5o{C e:Caller}(h:CLe C e){cx:Cx}{ops:Array Oper}:∀(l:List Oper) (st:St) {r:Ws×List Log},R7 C cx ops l st=some r->R7 e cx ops l st=some r:=by
 intro l
 induction l with
 |nil=>exact fun st r h=>h
 |cons o l f=>
  intro st r a;simp only[R7]at a|-;cases c:Rd.run (α:=Unit×Ws) C st (U7 cx ops o)with
  |none=>simp[c]at a
  |some z=>
   obtain⟨⟨u,ws⟩,rs⟩:=z;rw[a7g h _ c];simp only[c]at a|-;cases b:R7 C cx ops l (st.upds ws)with
   |none=>simp[b]at a
   |some z2=>rw[f _ b];simpa[b]using a
theorem c8b{C c:Caller}(h:CLe C c){cx:Cx}{keep:List Nat}{ops:Array Oper}{draw:Bool}{st st':St}(b:W3 C cx keep ops draw st=some st'):W3 c cx keep ops draw st=some st':=by
 unfold W3 at b|-;cases a:R7 C cx ops ops.toList st with
 |none=>simp[a]at b
 |some z=>rw[b5o h _ _ a];simpa[a]using b
theorem Q3{run run':St->Option (AExit×St)}(h:∀s r,run s=some r->run' s=some r){start:List Value->St->St}{c:St->St}:∀(xs:List (List Value)) (st:St) {s:St},arounds run start c xs st=some s->arounds run' start c xs st=some s
 |[],st,s,a=>a
 |v::xs,st,s,a=>by
  simp only[arounds]at a|-;cases b:run (start v st)with
  |none=>simp[b]at a
  |some z=>
   obtain⟨e,s1⟩:=z;rw[h _ _ b];cases e with
   |normal=>simp only[b]at a|-;exact Q3 h xs s1 a
   |exit i=>simp[b]at a
   |ret=>simp[b]at a
theorem d3j{run run':St->Option (AExit×St)}(h:∀s r,run s=some r->run' s=some r){start:List Value->St->St}{b:St->St}{xs:List (List Value)}{st:St}{r:AExit×St}(a:a5m run start b xs st=some r):a5m run' start b xs st=some r:=by
 unfold a5m at a|-;split at a
 ·rename_i i
  rw[if_pos fun ys f g=>by
   obtain⟨s,c⟩:=ZS.1 (i ys f g);rw[Q3 h ys st c];rfl]
  simp only[Zf]at a|-;obtain⟨s,c,e⟩:=a;exact⟨s,Q3 h xs st c,e⟩
 ·cases a
theorem a2e{runW:St->Option (AExit×St)}{run:Nat->St->Option (AExit×St)}(hm:∀m k,m<=k->∀s r,run m s=some r->run k s=some r)(f:∀s r,runW s=some r->∃m,run m s=some r){start:List Value->St->St}{c:St->St}:
 ∀(xs:List (List Value)) (st:St) {s:St},arounds runW start c xs st=some s->∃m,arounds (run m) start c xs st=some s
 |[],st,s,a=>⟨0,a⟩
 |v::xs,st,s,a=>by
  simp only[arounds]at a;cases b:runW (start v st)with
  |none=>simp[b]at a
  |some z=>
   obtain⟨e,s1⟩:=z;obtain⟨m1,g⟩:=f _ _ b;cases e with
   |normal=>
    simp only[b]at a;obtain⟨m2,h⟩:=a2e hm f xs s1 a;refine⟨max m1 m2,?_⟩;simp only[arounds,hm _ _ (Yx m1 m2) _ _ g];exact Q3 (hm _ _ (Yt m1 m2)) xs s1 h
   |exit i=>simp[b]at a
   |ret=>simp[b]at a
def listsTo(xs:List (List Value)):Nat->List (List (List Value))
 |0=>[[]]
 |n+1=>[]::xs.flatMap fun x=>(listsTo xs n).map (x:: ·)
theorem b4z{xs:List (List Value)}:∀{n:Nat} {ys:List (List Value)},(∀y∈ys,y∈xs)->ys.length<=n->ys∈listsTo xs n
 |0,[],_,_=>by simp[listsTo]
 |0,_::_,_,h=>by simp at h
 |n+1,[],_,_=>by simp[listsTo]
 |n+1,y::ys,a,h=>by
  simp only[listsTo,ZP,List.mem_flatMap,ZG];exact .inr ⟨y,a y (Zq ..),ys,b4z (fun z b=>a z (Zn _ b)) (by simpa using h),U⟩
theorem b8v{runW:St->Option (AExit×St)}{run:Nat->St->Option (AExit×St)}(hm:∀m k,m<=k->∀s r,run m s=some r->run k s=some r)(o:∀s r,runW s=some r->∃m,run m s=some r){start:List Value->St->St}{a:St->St}
 {xs:List (List Value)} {st:St} {r:AExit×St} (g:a5m runW start a xs st=some r):∃m,a5m (run m) start a xs st=some r:=by
 unfold a5m at g;split at g
 ·rename_i f
  simp only[Zf]at g;obtain⟨s,t,e⟩:=g;have key:∀L:List (List (List Value)),(∀ys∈L,(arounds runW start a ys st).isSome=true)->∃m,∀ys∈L,(arounds (run m) start a ys st).isSome=true:=by
   intro L
   induction L with
   |nil=>exact fun _=>⟨0,fun _ h=>by cases h⟩
   |cons y L u=>
    intro h;obtain⟨m1,i⟩:=u fun ys c=>h ys (Zn _ c)
    obtain⟨s1,l⟩:=ZS.1 (h y (Zq ..));obtain⟨m2,j⟩:=a2e hm o y st l;refine⟨max m1 m2,fun ys c=> ?_⟩;rcases ZP.1 c with rfl|c
    ·rw[Q3 (hm _ _ (Yt m1 m2)) _ st j];rfl
    ·obtain⟨v,b⟩:=ZS.1 (i ys c)
     rw[Q3 (hm _ _ (Yx m1 m2)) _ st b];rfl
  obtain⟨m1,i⟩:=key ((listsTo xs xs.length).filter fun ys=>(arounds runW start a ys st).isSome) (fun ys c=>(Xx.1 c).2);obtain⟨m2,j⟩:=a2e hm o xs st t;refine⟨max m1 m2,?_⟩;unfold a5m;rw[if_pos fun ys p q=>by
   obtain⟨v,b⟩:=ZS.1 (i ys (Xx.2 ⟨b4z p q,f ys p q⟩));rw[Q3 (hm _ _ (Yx m1 m2)) ys st b];rfl]
  rw[Q3 (hm _ _ (Yt m1 m2)) xs st j];rw[<-e];rfl
 ·cases g
theorem T3{C t:Caller}(h:CLe C t){cx:Cx}{keep:List Nat}:∀(n m:Nat) (c:Code) (st:St) {r:AExit×St},n<=m->aexec C cx keep n c st=some r->aexec t cx keep m c st=some r:=by
 intro n
 induction n with
 |zero=>intro m c st r _ f;simp[aexec]at f
 |succ n l=>
  intro m c st r hm f;obtain⟨m,rfl⟩:∃k,m=k+1:=⟨m-1,by omega⟩;have hm:n<=m:=by omega
  cases c with
  |region id ops draw=>
   simp only[aexec]at f|-;cases p:W3 C cx keep ops draw st with
   |none=>simp[p]at f
   |some z=>rw[c8b h p];simpa[p]using f
  |seq a b=>
   simp only[aexec]at f|-;cases j:aexec C cx keep n a st with
   |none=>simp[j]at f
   |some z=>
    rw[l m a st hm j];obtain⟨e,o⟩:=z;cases e with
    |normal=>simp only[j]at f|-;exact l m b o hm f
    |exit i=>simpa[j]using f
    |ret=>simpa[j]using f
  |cond x a b=>
   simp only[aexec]at f|-;split at f
   ·exact l m a st hm f
   ·exact l m b st hm f
   ·cases f
  |block i b=>
   simp only[aexec]at f|-;cases j:aexec C cx keep n b st with
   |none=>simp[j]at f
   |some z=>rw[l m b st hm j];simpa[j]using f
  |loop b=>
   simp only[aexec]at f|-;cases j:aexec C cx keep n b st with
   |none=>simp[j]at f
   |some z=>
    rw[l m b st hm j];obtain⟨e,o⟩:=z;cases e with
    |normal=>simp only[j]at f|-;exact l m (.loop b) o hm f
    |exit i=>simpa[j]using f
    |ret=>simpa[j]using f
  |rangeFunc g y a b=>
   simp only[aexec]at f|-;split at f
   ·split at f
    ·rename_i xs q
     split at f
     ·rename_i u
      simp only[q,if_pos u];exact d3j (fun s r v=>l m b s hm v) f
     ·cases f
    ·cases f
   ·cases f
  |_=>first|(simp[aexec]at f;done)|simpa[aexec]using f
noncomputable def a3c(C:Caller)(cx:Cx)(n:Nat):Caller:=fun f args=>
 match cx.ext f with
  |some F=>F args
  |none=>match cx.P.funcs[f]? with
   |none=>none
   |some fn=>match fn.body with
    |none=>none
    |some c=>
     if O2 fn.ntmps c=true/\args.length=fn.params.size+fn.nfree/\args.length<=fn.ntmps/\args.length<=1000/\(fn.name== "runtime.NumGoroutine")=false then
      match aexec C cx (D8 fn) n c (initLoc (cx.md f) args)with
      |some (.exit _,_)=>none
      |some (_,st)=>match Rd.run (α:=List AV×Ws) C st (retAll cx.P (cx.fz f) fn.results.toList)with
       |some ((vs,ws),_)=>match outsOf (st.upds ws) (cidAll (cx.md f) 0 args)with
        |some outs=>some (U5 vs,outs)
        |none=>none
       |none=>none
      |none=>none
     else none
theorem b0c(cx:Cx)(n:Nat):acall cx (n+1)=a3c (acall cx n) cx n:=by
 funext f args
 simp only[acall,a3c]
 rfl
theorem b5y{C j:Caller}(h:CLe C j){cx:Cx}{n m:Nat}(hm:n<=m):CLe (a3c C cx n) (a3c j cx m):=by
 intro f as r a;unfold a3c at a|-;split at a
 ·exact a
 ·split at a
  ·exact a
  ·rename_i fn p
   split at a
   ·exact a
   ·rename_i c o
    split at a
    ·rename_i l
     rw[if_pos l];cases g:aexec C cx (D8 fn) n c (initLoc (cx.md f) as)with
     |none=>simp[g]at a
     |some z=>
      rw[T3 h n m _ _ hm g];obtain⟨e,st⟩:=z;have key:∀st,(match Rd.run (α:=List AV×Ws) C st (retAll cx.P (cx.fz f) fn.results.toList)with
       |some ((vs,ws),_)=>match outsOf (st.upds ws) (cidAll (cx.md f) 0 as)with
        |some outs=>some (U5 vs,outs)
        |none=>none
       |none=>none)=some r->(match Rd.run (α:=List AV×Ws) j st (retAll cx.P (cx.fz f) fn.results.toList)with
       |some ((vs,ws),_)=>match outsOf (st.upds ws) (cidAll (cx.md f) 0 as)with
        |some outs=>some (U5 vs,outs)
        |none=>none
       |none=>none)=some r:=by
       intro st k;cases b:Rd.run (α:=List AV×Ws) C st (retAll cx.P (cx.fz f) fn.results.toList)with
       |none=>simp[b]at k
       |some z2=>rw[a7g h _ b];simpa[b]using k
      cases e with
      |exit i=>simp[g]at a
      |normal=>simp only[g]at a|-;exact key st a
      |ret=>simp only[g]at a|-;exact key st a
    ·cases a
theorem c2v(cx:Cx):∀n,CLe (acall cx n) (acall cx (n+1)):=by
 intro n
 induction n with
 |zero=>intro f as r h;simp[acall]at h
 |succ n a=>rw[b0c cx n,b0c cx (n+1)];exact b5y a (Nat.le_succ n)
theorem L5(cx:Cx){n m:Nat}(h:n<=m):CLe (acall cx n) (acall cx m):=by
 induction h with
 |refl=>exact fun _ _ _ h=>h
 |step _ b=>exact fun f as r a=>c2v cx _ f as r (b f as r a)
open Classical in
noncomputable def CW(cx:Cx):Caller:=fun f as=>if h:∃n r,acall cx n f as=some r then some (Classical.choose (YH h))else none
theorem d6x(cx:Cx)(f:Nat)(as:List AV)(r:AV×List (List AV)):CW cx f as=some r↔∃n,acall cx n f as=some r:=by
 unfold CW;constructor
 ·intro h
  split at h
  ·rename_i a
   have:=YH (YH a);simp only[Zb]at h;rw[h]at this;exact⟨_,this⟩
  ·cases h
 ·rintro⟨n,c⟩
  have a:∃n r,acall cx n f as=some r:=⟨n,r,c⟩;rw[dif_pos a];have:=YH (YH a);have e:=L5 cx (Yx n (Classical.choose a)) f as _ c;have b:=L5 cx (Yt n (Classical.choose a)) f as _ this;rw[e]at b;exact b.symm
theorem b5x{cx:Cx}{α:Type}{st:St}:∀(x:Rd α) {r:α×List Mv.Loc},x.run (CW cx) st=some r->∃n,x.run (acall cx n) st=some r:=by
 intro x
 induction x with
 |ret a=>exact fun h=>⟨0,h⟩
 |fail=>intro r h;simp[Rd.run]at h
 |read l k c=>
  intro r b;simp only[Rd.run]at b|-;cases g:(k (st l)).run (CW cx) st with
  |none=>simp[g]at b
  |some z=>
   obtain⟨n,i⟩:=c _ g;exact⟨n,by rw[i];simpa[g]using b⟩
 |need p d k c=>
  intro r b;cases d with
  |isTrue _=>exact c b
  |isFalse _=>simp[Rd.run]at b
 |call f as k c=>
  intro r b;simp only[Rd.run]at b|-;cases e:CW cx f as with
  |none=>simp[e]at b
  |some z=>
   simp only[e]at b;obtain⟨n,i⟩:=c _ _ b;obtain⟨m,hm⟩:=(d6x cx f as z).1 e;refine⟨max n m,?_⟩;rw[L5 cx (Yt n m) f as z hm];exact a7g (L5 cx (Yx n m)) _ i
theorem b9q{cx:Cx}{ops:Array Oper}:∀(l:List Oper) (st:St) {r:Ws×List Log},R7 (CW cx) cx ops l st=some r->∃n,R7 (acall cx n) cx ops l st=some r:=by
 intro l
 induction l with
 |nil=>exact fun st r h=>⟨0,h⟩
 |cons o l f=>
  intro st r a;simp only[R7]at a|-;cases c:Rd.run (α:=Unit×Ws) (CW cx) st (U7 cx ops o)with
  |none=>simp[c]at a
  |some z=>
   obtain⟨⟨u,ws⟩,rs⟩:=z;simp only[c]at a;obtain⟨n,e⟩:=b5x _ c;cases b:R7 (CW cx) cx ops l (st.upds ws)with
   |none=>simp[b]at a
   |some z2=>
    obtain⟨m,hm⟩:=f _ b;refine⟨max n m,?_⟩;rw[a7g (L5 cx (Yx n m)) _ e];simp only;rw[b5o (L5 cx (Yt n m)) _ _ hm];simpa[b]using a
theorem b6e{cx:Cx}{keep:List Nat}{ops:Array Oper}{draw:Bool}{st st':St}(b:W3 (CW cx) cx keep ops draw st=some st'):∃n,W3 (acall cx n) cx keep ops draw st=some st':=by
 unfold W3 at b|-;cases a:R7 (CW cx) cx ops ops.toList st with
 |none=>simp[a]at b
 |some z=>
  obtain⟨n,c⟩:=b9q _ _ a;exact⟨n,by rw[c];simpa[a]using b⟩
theorem c3j{cx:Cx}{keep:List Nat}:∀(n:Nat) (c:Code) (st:St) {r:AExit×St},aexec (CW cx) cx keep n c st=some r->∃m,aexec (acall cx m) cx keep n c st=some r:=by
 intro n
 induction n with
 |zero=>intro c st r f;simp[aexec]at f
 |succ n j=>
  intro c st r f;cases c with
  |region id ops draw=>
   simp only[aexec]at f|-;cases q:W3 (CW cx) cx keep ops draw st with
   |none=>simp[q]at f
   |some z=>
    obtain⟨m,hm⟩:=b6e q;exact⟨m,by rw[hm];simpa[q]using f⟩
  |seq a b=>
   simp only[aexec]at f|-;cases h:aexec (CW cx) cx keep n a st with
   |none=>simp[h]at f
   |some z=>
    obtain⟨m,hm⟩:=j a st h;obtain⟨e,o⟩:=z;cases e with
    |normal=>
     simp only[h]at f;obtain⟨m2,l⟩:=j b o f;refine⟨max m m2,?_⟩;rw[T3 (L5 cx (Yx m m2)) n n _ _ (Zd _) hm];exact T3 (L5 cx (Yt m m2)) n n _ _ (Zd _) l
    |exit i=>exact⟨m,by rw[hm];simpa[h]using f⟩
    |ret=>exact⟨m,by rw[hm];simpa[h]using f⟩
  |cond x a b=>
   simp only[aexec]at f|-;split at f
   ·exact j a st f
   ·exact j b st f
   ·cases f
  |block i b=>
   simp only[aexec]at f|-;cases h:aexec (CW cx) cx keep n b st with
   |none=>simp[h]at f
   |some z=>
    obtain⟨m,hm⟩:=j b st h;exact⟨m,by rw[hm];simpa[h]using f⟩
  |loop b=>
   simp only[aexec]at f|-;cases h:aexec (CW cx) cx keep n b st with
   |none=>simp[h]at f
   |some z=>
    obtain⟨m,hm⟩:=j b st h;obtain⟨e,o⟩:=z;cases e with
    |normal=>
     simp only[h]at f;obtain⟨m2,l⟩:=j (.loop b) o f;refine⟨max m m2,?_⟩;rw[T3 (L5 cx (Yx m m2)) n n _ _ (Zd _) hm];exact T3 (L5 cx (Yt m m2)) n n _ _ (Zd _) l
    |exit i=>exact⟨m,by rw[hm];simpa[h]using f⟩
    |ret=>exact⟨m,by rw[hm];simpa[h]using f⟩
  |rangeFunc g y a b=>
   simp only[aexec]at f|-;split at f
   ·split at f
    ·rename_i xs u
     split at f
     ·rename_i v
      simp only[u,if_pos v];exact b8v (runW:=fun s=>aexec (CW cx) cx keep n b s) (run:=fun m s=>aexec (acall cx m) cx keep n b s) (fun m k p s r t=>T3 (L5 cx p) n n _ _ (Zd _) t) (fun s r t=>j b s t) f
     ·cases f
    ·cases f
   ·cases f
  |_=>exact⟨0,by first|(simp[aexec]at f;done)|simpa[aexec]using f⟩
theorem c1a(cx:Cx){n f:Nat}{as:List AV}{r:AV×List (List AV)}(h:a3c (CW cx) cx n f as=some r):CW cx f as=some r:=by
 have hm:∃m,a3c (acall cx m) cx n f as=some r:=by
  unfold a3c at h|-;split at h
  ·exact⟨0,h⟩
  ·split at h
   ·cases h
   ·rename_i fn q
    split at h
    ·cases h
    ·rename_i c p
     split at h
     ·rename_i l
      simp only[if_pos l];cases g:aexec (CW cx) cx (D8 fn) n c (initLoc (cx.md f) as)with
      |none=>simp[g]at h
      |some z=>
       obtain⟨m,hm⟩:=c3j n _ _ g;obtain⟨e,st⟩:=z;have key:∀st,(match Rd.run (α:=List AV×Ws) (CW cx) st (retAll cx.P (cx.fz f) fn.results.toList)with
        |some ((vs,ws),_)=>match outsOf (st.upds ws) (cidAll (cx.md f) 0 as)with
         |some outs=>some (U5 vs,outs)
         |none=>none
        |none=>none)=some r->∃m2,∀k,m2<=k->(match Rd.run (α:=List AV×Ws) (acall cx k) st (retAll cx.P (cx.fz f) fn.results.toList)with
        |some ((vs,ws),_)=>match outsOf (st.upds ws) (cidAll (cx.md f) 0 as)with
         |some outs=>some (U5 vs,outs)
         |none=>none
        |none=>none)=some r:=by
        intro st j;cases b:Rd.run (α:=List AV×Ws) (CW cx) st (retAll cx.P (cx.fz f) fn.results.toList)with
        |none=>simp[b]at j
        |some z2=>
         obtain⟨m2,a⟩:=b5x _ b;refine⟨m2,fun k o=> ?_⟩;rw[a7g (L5 cx o) _ a];simpa[b]using j
       cases e with
       |exit i=>simp[g]at h
       |normal=>
        simp only[g]at h;obtain⟨m2,a⟩:=key st h;refine⟨max m m2,?_⟩;rw[T3 (L5 cx (Yx m m2)) n n _ _ (Zd _) hm];exact a _ (Yt m m2)
       |ret=>
        simp only[g]at h;obtain⟨m2,a⟩:=key st h;refine⟨max m m2,?_⟩;rw[T3 (L5 cx (Yx m m2)) n n _ _ (Zd _) hm];exact a _ (Yt m m2)
     ·cases h
 obtain⟨m,hm⟩:=hm;refine(d6x cx f as r).2 ⟨max n m+1,?_⟩;rw[b0c];exact b5y (L5 cx (Yt n m)) (Yx n m) f as r hm
theorem a5y.none{Γ:Env}{cx:Cx}(h:cx.it=fun _=>none):a5y Γ cx:=fun k F caps xs a=>by rw[h]at a;cases a
theorem a3g(cx:Cx){f:Nat}{F:List AV->Option (AV×List (List AV))}(a:cx.ext f=some F){as:List AV}{r:AV×List (List AV)}(h:F as=some r):CW cx f as=some r:=by
 refine c1a cx (n:=0) ?_;unfold a3c;simp only[a];exact h
theorem d3q{Γ:Env}(cx:Cx)(a:GlOk Γ cx)(c:c7z Γ cx)(b:a5y Γ cx)(hm:cx.P.follows .mixedOrders=true):SoundC Γ cx (CW cx):=by
 refine⟨a,fun f as res outs h=> ?_⟩;obtain⟨n,e⟩:=(d6x cx f as _).1 h;exact(d3n cx a c b hm n).2 f as res outs e
abbrev Asr:=List (Mv.Loc×AV)
def look:Asr->Mv.Loc->Option AV
 |[],_=>none
 |(k,a)::r,l=>match Loc.beq l k with
  |true=>some a
  |false=>look r l
def put:Asr->Mv.Loc->AV->Asr
 |[],l,a=>[(l,a)]
 |(k,b)::r,l,a=>match Loc.beq l k with
  |true=>(k,a)::r
  |false=>(k,b)::put r l a
def puts:Asr->Ws->Asr
 |A,[]=>A
 |A,(l,a)::r=>puts (put A l a) r
def Sat(st:St)(A:Asr):Prop:=∀l a,look A l=some a->st l=a
theorem P4(A:Asr)(l k:Mv.Loc)(a:AV):look (put A l a) k=if Loc.beq k l then some a else look A k:=by
 induction A with
 |nil=>simp only[put,look];cases Loc.beq k l<;>rfl
 |cons x A g=>
  obtain⟨m,b⟩:=x;simp only[put];cases c:Loc.beq l m with
  |true=>
   have:=(Loc.beq_iff _ _).1 c;subst this;simp only[look];cases Loc.beq k l<;>rfl
  |false=>
   simp only[look,g];cases f:Loc.beq k m with
   |true=>
    have:=(Loc.beq_iff _ _).1 f;subst this;have:Loc.beq k l=false:=by
     rw[Loc.beq_false]at c|-;exact fun e=>c e.symm
    simp[this]
   |false=>rfl
theorem Sat.put{st:St}{A:Asr}(h:Sat st A)(l:Mv.Loc)(a:AV):Sat (st.upd l a) (put A l a):=by
 intro k b c;rw[P4]at c;unfold St.upd;cases e:Loc.beq k l with
 |true=>simp only[e,if_true,Zb]at c|-;exact c
 |false=>simp only[e,ZY,if_false]at c|-;exact h k b c
theorem Sat.puts:∀(ws:Ws) {st:St} {A:Asr},Sat st A->Sat (st.upds ws) (puts A ws):=by
 intro ws
 induction ws with
 |nil=>exact fun h=>h
 |cons x ws b=>obtain⟨l,a⟩:=x;exact fun h=>b (h.put l a)
def wpA{α:Type}(C:Caller)(A:Asr):Rd α->(α->List Mv.Loc->Prop)->Prop
 | .ret a,Q=>Q a []
 | .fail,_=>False
 | .read l k,Q=>match look A l with
  |some v=>wpA C A (k v) fun a ls=>Q a (l::ls)
  |none=>∀v,wpA C A (k v) fun a ls=>Q a (l::ls)
 | .need p _ k,Q=>p/\wpA C A k Q
 | .call f as k,Q=>∃r o,C f as=some (r,o)/\wpA C A (k r o) Q
theorem c4s{α:Type}{C:Caller}{A:Asr}{st:St}(m:Sat st A):∀(x:Rd α) (Q:α->List Mv.Loc->Prop),wpA C A x Q->∃a ls,x.run C st=some (a,ls)/\Q a ls:=by
 intro x
 induction x with
 |ret a=>exact fun Q h=>⟨a,[],U,h⟩
 |fail=>exact fun Q h=>h.elim
 |read l k e=>
  intro Q h;simp only[wpA]at h;have:wpA C A (k (st l)) fun a ls=>Q a (l::ls):=by
   cases g:look A l with
   |none=>simp only[g]at h;exact h _
   |some v=>simp only[g]at h;rw[m l v g];exact h
  obtain⟨a,ls,b,c⟩:=e _ _ this;exact⟨a,l::ls,by simp only[Rd.run,b],c⟩
 |need p d k e=>
  intro Q h;obtain⟨a,ls,b,c⟩:=e Q h.2;refine⟨a,ls,?_,c⟩;cases d with
  |isTrue _=>exact b
  |isFalse j=>exact(j h.1).elim
 |call f as k e=>
  intro Q h;obtain⟨r,o,i,h⟩:=h;obtain⟨a,ls,b,c⟩:=e _ _ Q h;exact⟨a,ls,by simp only[Rd.run,i,b],c⟩
theorem e2k{α β:Type}{C:Caller}{A:Asr}:∀(x:Rd α) (f:α->Rd β) (Q:β->List Mv.Loc->Prop),
 wpA C A (x.bind f) Q=wpA C A x fun a ls=>wpA C A (f a) fun b ms=>Q b (ls++ms):=by
 intro x
 induction x with
 |ret a=>intro f Q;rfl
 |fail=>intro f Q;rfl
 |read l k c=>
  intro f Q;simp only[Rd.bind,wpA,c]
  rfl
 |need p d k c=>
  intro f Q;simp only[Rd.bind,wpA,c]
 |call g as k c=>
  intro f Q;simp only[Rd.bind,wpA,c]
theorem M2{α:Type}{C:Caller}{A:Asr}{x:Rd α}:∀{Q c:α->List Mv.Loc->Prop},(∀a ls,Q a ls->c a ls)->wpA C A x Q->wpA C A x c:=by
 induction x with
 |ret a=>exact fun hq h=>hq _ _ h
 |fail=>exact fun _ h=>h
 |read l k b=>
  intro Q c hq h;simp only[wpA]at h|-;cases e:look A l with
  |none=>simp only[e]at h|-;exact fun v=>b v (fun a ls h=>hq a _ h) (h v)
  |some v=>simp only[e]at h|-;exact b v (fun a ls h=>hq a _ h) h
 |need p d k b=>exact fun hq h=>⟨h.1,b hq h.2⟩
 |call f as k b=>
  intro Q c hq h;obtain⟨r,o,g,h⟩:=h;exact⟨r,o,g,b _ _ hq h⟩
def V8(ws:Ws):List Mv.Loc:=ws.map (·.1)
theorem e8p{α:Type}{C:Caller}{st:St}(ws:Ws):∀(y:Rd α) {b:α} {ms:List Mv.Loc},y.run C (st.upds ws)=some (b,ms)->∃c,(y.over ws).run C st=some (b,c)/\∀l∈c,l∈ms:=by
 intro y
 induction y with
 |ret a=>intro b ms h;simp only[Rd.run,Zb,Zj]at h;obtain⟨rfl,rfl⟩:=h;exact⟨[],U,fun _ h=>h⟩
 |fail=>intro b ms h;simp[Rd.run]at h
 |read l k g=>
  intro b ms h;simp only[Rd.run]at h;cases i:(k (st.upds ws l)).run C (st.upds ws)with
  |none=>simp[i]at h
  |some z=>
   obtain⟨t,s⟩:=z;simp only[i,Zb,Zj]at h;obtain⟨rfl,rfl⟩:=h;obtain⟨c,e,j⟩:=g _ i;rw[c5j]at e;simp only[Rd.over];cases q:Ws.look ws l with
   |some v=>
    simp only[q,Option.getD_some]at e;exact⟨c,e,fun m hm=>Zn _ (j m hm)⟩
   |none=>
    simp only[q,Option.getD_none]at e;refine⟨l::c,by simp only[Rd.run,e],fun m hm=> ?_⟩;cases hm with
    |head=>exact Zq ..
    |tail _ hm=>exact Zn _ (j m hm)
 |need p d k g=>
  intro b ms h;cases d with
  |isTrue _=>exact g h
  |isFalse _=>simp[Rd.run]at h
 |call f as k g=>
  intro b ms h;simp only[Rd.run]at h;simp only[Rd.over,Rd.run];cases o:C f as with
  |none=>simp[o]at h
  |some z=>simp only[o]at h|-;exact g _ _ h
def wpW{α:Type}(C:Caller)(A:Asr)(x:RW α)(R:α->Ws->List Mv.Loc->Prop):Prop:=
 ∀st,Sat st A->∃a ws ls b,Rd.run (α:=α×Ws) C st x=some ((a,ws),ls)/\(∀l∈ls,l∈b)/\R a ws b
theorem C3{α:Type}{C:Caller}{A:Asr}{a:α}{R:α->Ws->List Mv.Loc->Prop}(h:R a [] []):wpW C A (pure a) R:=
 fun st _=>⟨a,[],[],[],U,fun _ h=>h,h⟩
theorem J5{C:Caller}{A:Asr}{ws:Ws}{R:Unit->Ws->List Mv.Loc->Prop}(h:R () ws []):wpW C A (wr ws) R:=
 fun st _=>⟨(),ws,[],[],U,fun _ h=>h,h⟩
theorem d7s{α:Type}{C:Caller}{st:St}(x:Rd α){a:α}{ls:List Mv.Loc}(h:x.run C st=some (a,ls)):Rd.run (α:=α×Ws) C st (up x)=some ((a,[]),ls):=by
 show Rd.run (α:=α×Ws) C st (Rd.bind x fun a=> .ret (a,[]))=_
 induction x generalizing ls with
 |ret b=>simp only[Rd.run,Zb,Zj]at h;obtain⟨rfl,rfl⟩:=h;rfl
 |fail=>simp[Rd.run]at h
 |read l k c=>
  simp only[Rd.run]at h;cases e:(k (st l)).run C st with
  |none=>simp[e]at h
  |some z=>
   obtain⟨j,i⟩:=z;simp only[e,Zb,Zj]at h;obtain⟨rfl,rfl⟩:=h;have:=c _ e;simp only[Rd.bind,Rd.run,this]
 |need p d k c=>
  cases d with
  |isTrue _=>exact c h
  |isFalse _=>simp[Rd.run]at h
 |call f as k c=>
  simp only[Rd.run]at h;simp only[Rd.bind,Rd.run];cases g:C f as with
  |none=>simp[g]at h
  |some z=>simp only[g]at h|-;exact c _ _ h
theorem I4{α:Type}{C:Caller}{A:Asr}{x:Rd α}{R:α->Ws->List Mv.Loc->Prop}(h:wpA C A x fun a ls=>R a [] ls):wpW C A (up x) R:=by
 intro st e;obtain⟨a,ls,b,c⟩:=c4s e _ _ h;exact⟨a,[],ls,ls,d7s x b,fun _ h=>h,c⟩
theorem a9p{α β:Type}{C:Caller}{st:St}(x:Rd α)(f:α->Rd β){a:α}{ls ms:List Mv.Loc}{b:β}(h:x.run C st=some (a,ls))(j:(f a).run C st=some (b,ms)):(x.bind f).run C st=some (b,ls++ms):=by
 induction x generalizing ls with
 |ret c=>simp only[Rd.run,Zb,Zj]at h;obtain⟨rfl,rfl⟩:=h;exact j
 |fail=>simp[Rd.run]at h
 |read l k e=>
  simp only[Rd.run]at h;cases g:(k (st l)).run C st with
  |none=>simp[g]at h
  |some z=>
   obtain⟨o,m⟩:=z;simp only[g,Zb,Zj]at h;obtain⟨rfl,rfl⟩:=h;have:=e _ g;simp only[Rd.bind,Rd.run,this,Zp]
 |need p d k e=>
  cases d with
  |isTrue _=>exact e h
  |isFalse _=>simp[Rd.run]at h
 |call f as k e=>
  simp only[Rd.run]at h;simp only[Rd.bind,Rd.run];cases i:C f as with
  |none=>simp[i]at h
  |some z=>simp only[i]at h|-;exact e _ _ h
theorem A5{α β:Type}{C:Caller}{A:Asr}{x:RW α}{f:α->RW β}{R:β->Ws->List Mv.Loc->Prop}
 (h:wpW C A x fun a ws ls=>wpW C (puts A ws) (f a) fun b c e=>R b (ws++c) (ls++e)):wpW C A (x>>=f) R:=by
 intro st k;obtain⟨a,ws,ls,e,m,o,p⟩:=h st k;obtain⟨b,c,ms,i,q,s,t⟩:=p _ (k.puts ws);obtain⟨j,u,v⟩:=e8p ws _ q;refine⟨b,ws++c,ls++j,e++i,?_,fun l g=> ?_,t⟩
 ·show Rd.run (α:=β×Ws) C st (Rd.bind (α:=α×Ws) x fun a=>Rd.bind (α:=β×Ws) (Rd.over a.2 (f a.1)) fun b=> .ret (b.1,a.2++b.2))=_
  refine a9p _ _ m ?_;have:=a9p (α:=β×Ws) (β:=β×Ws) _ (fun b=> .ret (b.1,ws++b.2)) u (b:=(b,ws++c)) (ms:=[]) U;simpa using this
 ·rcases ZL.1 g with g|g
  ·exact ZV _ (o l g)
  ·exact Yc _ (s l (v l g))
theorem H7{α:Type}{C:Caller}{A:Asr}{x:RW α}{R c:α->Ws->List Mv.Loc->Prop}(h:wpW C A x R)(i:∀a ws ls,R a ws ls->c a ws ls):wpW C A x c:=by
 intro st j;obtain⟨a,ws,ls,b,e,f,g⟩:=h st j;exact⟨a,ws,ls,b,e,f,i _ _ _ g⟩
def e8t:List Log->List Log->Prop
 |[],[]=>True
 |a::x,b::y=>(∀l∈a.1,l∈b.1)/\a.2=b.2/\e8t x y
 |_,_=>False
theorem d7x{a f b g:Log}(p:∀l∈a.1,l∈f.1)(i:a.2=f.2)(q:∀l∈b.1,l∈g.1)(c:b.2=g.2)(h:clash f g=false):clash a b=false:=by
 simp only[clash,Yz,List.any_eq_false,Bool.or_eq_true,not_or,Bool.not_eq_true]at h|-;obtain⟨m,o⟩:=h;have hm:∀(x y:List Mv.Loc) l,(∀l∈x,l∈y)->hasLoc y l=false->hasLoc x l=false:=by
  intro x y l j k;rw[<-Bool.not_eq_true]at k|-;exact fun s=>k ((a5u _ _).2 (j l ((a5u _ _).1 s)))
 refine⟨fun l e=> ?_,fun l e=> ?_⟩
 ·rw[i]at e
  have:=m l e;exact⟨hm _ _ _ q this.1,by rw[c];exact this.2⟩
 ·rw[c];exact o l (p l e)
theorem c4d:∀(os:List Oper) (m e:List Log) (prev c:List (Log×Nat)),e8t m e->prev.length=c.length->(∀(i:Nat) x p,prev[i]? =some x->c[i]? =some p->(∀l∈x.1.1,l∈p.1.1)/\x.1.2=p.1.2/\x.2=p.2)->
 X8 os e c=true->X8 os m prev=true:=by
 intro os
 induction os with
 |nil=>intro m e prev c _ _ _ _;rfl
 |cons o os J=>
  intro m e prev c E hlen z h;cases m with
  |nil=>rfl
  |cons a m=>cases e with
   |nil=>exact E.elim
   |cons b e=>
    obtain⟨G,H,K⟩:=E;simp only[X8,Zx]at h|-;have u:prev.map (·.2)=c.map (·.2):=by
     apply List.ext_getElem?;intro i;rw[ZE,ZE];rcases Nat.lt_or_ge i prev.length with s|s
     ·have B:prev[i]? =some prev[i]:=Ze s
      have q:c[i]? =some (c[i]'(by omega)):=Ze (by omega);rw[B,q];simp[(z i _ _ B q).2.2]
     ·rw[ZO s,ZO (by omega)]
    rw[u];refine⟨?_,J m e _ _ K (by simp[hlen]) (fun i x p j f=> ?_) h.2⟩
    ·rw[Zu]
     rintro⟨x,i⟩ j;obtain⟨k,v⟩:=ZF.1 j;rw[List.getElem?_zipIdx]at v;cases g:prev[k]? with
     |none=>simp[g]at v
     |some y=>
      simp only[g,Zz,Zb,Zj]at v;obtain⟨rfl,rfl⟩:=v;have I:k<prev.length:=(Zo.1 g).1;have q:c[k]? =some (c[k]'(by omega)):=Ze (by omega);obtain⟨L,M,O⟩:=z k _ _ g q;have:=Zu.1 h.1 (c[k]'(by omega),0+k) (by
       rw[ZF];exact⟨k,by rw[List.getElem?_zipIdx,q];rfl⟩)
      simp only[Bool.or_eq_true,Bool.not_eq_true']at this|-;exact this.imp (fun h=>d7x L M G H h) fun h=>h
    ·by_cases s:i<prev.length
     ·rw[ZW s]at j
      rw[ZW (by omega)]at f;exact z i x p j f
     ·rw[Yk (by omega)]at j
      rw[Yk (by omega),<-hlen]at f;cases t:i-prev.length with
      |zero=>
       simp only[t,Zr,Zb]at j f;subst j f;exact⟨G,H,U⟩
      |succ n=>simp[t]at j
def XR(cx:Cx)(keep:List Nat)(ops0:Array Oper)(rest:List Oper)(A:Asr)(Q:Asr->List Log->Prop):Prop:=
 ∀st,Sat st A->∃ws c a,R7 (CW cx) cx ops0 rest st=some (ws,c)/\e8t c a/\tRefsOk keep (keptWs keep ws)=true/\∃b,Sat (st.upds ws) b/\Q b a
theorem a8b{keep:List Nat}(a b:Ws):tRefsOk keep (keptWs keep (a++b))=(tRefsOk keep (keptWs keep a)&&tRefsOk keep (keptWs keep b)):=by
 simp only[tRefsOk,keptWs,List.filter_append,List.all_append]
theorem G7{cx:Cx}{keep:List Nat}{ops0:Array Oper}{A:Asr}{Q:Asr->List Log->Prop}(h:Q A []):XR cx keep ops0 [] A Q:=
 fun st a=>⟨[],[],[],U,trivial,U,A,a,h⟩
theorem a8w{cx:Cx}{keep:List Nat}{ops0:Array Oper}{o:Oper}{r:List Oper}{A:Asr}{Q:Asr->List Log->Prop}
 (h:wpW (CW cx) A (U7 cx ops0 o) fun _ ws ls=>tRefsOk keep (keptWs keep ws)=true/\XR cx keep ops0 r (puts A ws) fun a c=>Q a ((ls,V8 ws)::c)):
 XR cx keep ops0 (o::r) A Q:=by
 intro st i;obtain⟨⟨⟩,ws,ls,f,j,b,k,l⟩:=h st i;obtain⟨g,c,e,m,t,p,a,q,s⟩:=l _ (i.puts ws);refine⟨ws++g,(ls,V8 ws)::c,(f,V8 ws)::e,?_,⟨b,U,t⟩,?_,a,?_,s⟩
 ·simp only[R7,j,m];rfl
 ·rw[a8b,k,p];rfl
 ·rw[St.upds_append];exact q
def opd(A:Asr):Operand->Option AV
 | .tmp t=>look A (.t t)
 | .const v=>some (ofConst v)
 | .func f=>some (.clo f [])
 | .global g=>some (.val (.pointer (some ⟨g,0,none⟩)))
def rds:Operand->List Mv.Loc
 | .tmp t=>[.t t]
 |_=>[]
def slotOk(keep:List Nat)(l:Mv.Loc)(v:AV):Bool:= !keepLoc keep l||refOkV keep v
section
variable{C:Caller}{A:Asr}
theorem E3{α β:Type}(x:Rd α)(f:α->Rd β)(Q:β->List Mv.Loc->Prop):
 wpA C A (x>>=f) Q=wpA C A x fun a ls=>wpA C A (f a) fun b ms=>Q b (ls++ms):=e2k x f Q
theorem F4{α:Type}(a:α)(Q:α->List Mv.Loc->Prop):wpA C A (.ret a) Q=Q a []:=rfl
theorem F8(p:Prop)[Decidable p](Q:Unit->List Mv.Loc->Prop):wpA C A (need p) Q=(p/\Q () []):=rfl
theorem M6{α:Type}{l:Mv.Loc}{v:AV}(h:look A l=some v)(k:AV->Rd α)(Q:α->List Mv.Loc->Prop):wpA C A (.read l k) Q=wpA C A (k v) fun a ls=>Q a (l::ls):=by
 simp only[wpA,h]
theorem b4m{l:Mv.Loc}{v:AV}(h:look A l=some v)(Q:AV->List Mv.Loc->Prop):wpA C A (rd l) Q=Q v [l]:=M6 h _ Q
theorem E5{x:Operand}{v:AV}(h:opd A x=some v)(Q:AV->List Mv.Loc->Prop):wpA C A (rdO x) Q=Q v (rds x):=by
 cases x with
 |tmp t=>exact b4m h Q
 |const c=>simp only[opd,Zb]at h;subst h;rfl
 |func f=>simp only[opd,Zb]at h;subst h;rfl
 |global g=>simp only[opd,Zb]at h;subst h;rfl
end
section
variable{cx:Cx}{keep:List Nat}{ops0:Array Oper}{r:List Oper}{A:Asr}{Q:Asr->List Log->Prop}
def Wk(A B:Asr):Prop:=∀l a,look B l=some a->look A l=some a
theorem XR.wk{A B:Asr}(h:Wk A B)(e:XR cx keep ops0 r B Q):XR cx keep ops0 r A Q:=
 fun st c=>e st fun l a b=>c l a (h l a b)
theorem a5n(A:Asr)(l:Mv.Loc)(a:AV):∀k,look ((l,a)::A) k=look (put A l a) k:=by
 intro k;rw[P4];simp only[look];cases Loc.beq k l<;>rfl
theorem I1{keep:List Nat}{l:Mv.Loc}{v:AV}(h:slotOk keep l v=true):tRefsOk keep (keptWs keep [(l,v)])=true:=by
 unfold slotOk at h;unfold keptWs tRefsOk;cases a:keepLoc keep l with
 |false=>simp[List.filter,a]
 |true=>
  simp only[a,Bool.not_true,Bool.false_or]at h;simp only[List.filter,a,List.all_cons,List.all_nil,Bool.and_true];exact h
theorem C7{keep:List Nat}{l:Mv.Loc}{v:AV}{ws:Ws}(h:slotOk keep l v=true)(a:tRefsOk keep (keptWs keep ws)=true):tRefsOk keep (keptWs keep ((l,v)::ws))=true:=by
 have:=a8b (keep:=keep) [(l,v)] ws;simp only[YW]at this;rw[this,I1 h,a]
 rfl
theorem K2{d:Nat}{op:Op}{ty:Nat}{pos:String}{aft:Array Edge}{v:AV}{l:List Mv.Loc}(i:∀o:Oper,o.op=op->aopV cx o=up (opV cx op))(c:wpA (CW cx) A (opV cx op) fun a ls=>a=v/\ls=l)
 (g:slotOk keep (.t d) v=true) (h:XR cx keep ops0 r ((.t d,v)::A) fun e j=>Q e ((l,[.t d])::j)):XR cx keep ops0 (⟨some d,op,ty,pos,aft,none⟩::r) A Q:=by
 refine a8w ?_;have:U7 cx ops0 ⟨some d,op,ty,pos,aft,none⟩=aop cx ⟨some d,op,ty,pos,aft,none⟩:=rfl;rw[this];unfold aop;refine A5 ?_;rw[i _ U];refine I4 (M2 ?_ c);rintro a ls ⟨rfl,rfl⟩;refine J5 ?_;refine⟨I1 g,?_⟩;simp only[Zm];exact XR.wk (fun k b f=>by
  show look (put A (.t d) a) k=some b;rw[<-a5n];exact f) h
end
abbrev iV(n:Int):AV:= .val (.int .i64 n)
abbrev bV(b:Bool):AV:= .val (.bool b)
abbrev sV(s:ByteArray):AV:= .val (.string s)
abbrev uV(n:Int):AV:= .val (.int .u8 n)
theorem B9{x:Int}(h: -9223372036854775808<=x/\x<=9223372036854775807):inI .i64 x:=h
section
variable{cx:Cx}{keep:List Nat}{ops0:Array Oper}{r:List Oper}{A:Asr}{Q:Asr->List Log->Prop}{d:Nat}{ty:Nat}{pos:String}{aft:Array Edge}
theorem f3o{x:Operand}{v:AV}(e:opd A x=some v)(b:slotOk keep (.t d) v=true)(h:XR cx keep ops0 r ((.t d,v)::A) fun a f=>Q a ((rds x,[.t d])::f)):
 XR cx keep ops0 (⟨some d,.move x,ty,pos,aft,none⟩::r) A Q:=
 K2 (fun o c=>by simp only[aopV,c]) (by simp only[opV,E5 e,and_self]) b h
theorem D6{T z:Nat}{a b:Operand}{k:IntKind}{x y:Int}(e:opd A a=some (.val (.int k x)))(f:opd A b=some (.val (.int k y)))(g:inI k (x+y))
 (h:XR cx keep ops0 r ((.t d,.val (.int k (x+y)))::A) fun c j=>Q c ((rds a++rds b,[.t d])::j)):XR cx keep ops0 (⟨some d,.binOp .add T a b z,ty,pos,aft,none⟩::r) A Q:=
 K2 (fun o i=>by simp only[aopV,i]) (by simp only[opV,E3,E5 e,E5 f,F8,F4,a3n,intBin,a1z,Zm,Zi,true_and,and_self,and_true];exact g) (by simp[slotOk,refOkV,refsOk]) h
theorem J8{T z:Nat}{a b:Operand}{k:IntKind}{x y:Int}(e:opd A a=some (.val (.int k x)))(f:opd A b=some (.val (.int k y)))(g:inI k (x-y))
 (h:XR cx keep ops0 r ((.t d,.val (.int k (x-y)))::A) fun c j=>Q c ((rds a++rds b,[.t d])::j)):XR cx keep ops0 (⟨some d,.binOp .sub T a b z,ty,pos,aft,none⟩::r) A Q:=
 K2 (fun o i=>by simp only[aopV,i]) (by simp only[opV,E3,E5 e,E5 f,F8,F4,a3n,intBin,a1z,Zm,Zi,true_and,and_self,and_true];exact g) (by simp[slotOk,refOkV,refsOk]) h
theorem a0o{T z:Nat}{a b:Operand}{k:IntKind}{x y:Int}(e:opd A a=some (.val (.int k x)))(f:opd A b=some (.val (.int k y)))(g:inI k (x*y))
 (h:XR cx keep ops0 r ((.t d,.val (.int k (x*y)))::A) fun c j=>Q c ((rds a++rds b,[.t d])::j)):XR cx keep ops0 (⟨some d,.binOp .mul T a b z,ty,pos,aft,none⟩::r) A Q:=
 K2 (fun o i=>by simp only[aopV,i]) (by simp only[opV,E3,E5 e,E5 f,F8,F4,a3n,intBin,a1z,Zm,Zi,true_and,and_self,and_true];exact g) (by simp[slotOk,refOkV,refsOk]) h
theorem a2f{T z:Nat}{a b:Operand}{k:IntKind}{x y:Int}(e:opd A a=some (.val (.int k x)))(f:opd A b=some (.val (.int k y)))(g:y≠0/\inI k (x.tdiv y))
 (h:XR cx keep ops0 r ((.t d,.val (.int k (x.tdiv y)))::A) fun c j=>Q c ((rds a++rds b,[.t d])::j)):XR cx keep ops0 (⟨some d,.binOp .quo T a b z,ty,pos,aft,none⟩::r) A Q:=
 K2 (fun o i=>by simp only[aopV,i]) (by simp only[opV,E3,E5 e,E5 f,F8,F4,a3n,intBin,a1z,Zm,Zi,true_and,and_self,and_true];exact g) (by simp[slotOk,refOkV,refsOk]) h
theorem e5i{T z:Nat}{a b:Operand}{k:IntKind}{x y:Int}(e:opd A a=some (.val (.int k x)))(f:opd A b=some (.val (.int k y)))(g:y≠0)
 (h:XR cx keep ops0 r ((.t d,.val (.int k (x.tmod y)))::A) fun c j=>Q c ((rds a++rds b,[.t d])::j)):XR cx keep ops0 (⟨some d,.binOp .rem T a b z,ty,pos,aft,none⟩::r) A Q:=
 K2 (fun o i=>by simp only[aopV,i]) (by simp only[opV,E3,E5 e,E5 f,F8,F4,a3n,intBin,a1z,Zm,Zi,true_and,and_self,and_true];exact g) (by simp[slotOk,refOkV,refsOk]) h
theorem M9{T z:Nat}{a b:Operand}{k:IntKind}{x y:Int}(e:opd A a=some (.val (.int k x)))(f:opd A b=some (.val (.int k y)))
 (h:XR cx keep ops0 r ((.t d,.val (.bool (x==y)))::A) fun c i=>Q c ((rds a++rds b,[.t d])::i)):XR cx keep ops0 (⟨some d,.binOp .eql T a b z,ty,pos,aft,none⟩::r) A Q:=
 K2 (fun o g=>by simp only[aopV,g]) (by simp only[opV,E3,E5 e,E5 f,F8,F4,a3n,intBin,a1z,Zm,Zi,true_and,and_self,and_true]) (by simp[slotOk,refOkV,refsOk]) h
theorem a8f{T z:Nat}{a b:Operand}{k:IntKind}{x y:Int}(e:opd A a=some (.val (.int k x)))(f:opd A b=some (.val (.int k y)))
 (h:XR cx keep ops0 r ((.t d,.val (.bool (x !=y)))::A) fun c i=>Q c ((rds a++rds b,[.t d])::i)):XR cx keep ops0 (⟨some d,.binOp .neq T a b z,ty,pos,aft,none⟩::r) A Q:=
 K2 (fun o g=>by simp only[aopV,g]) (by simp only[opV,E3,E5 e,E5 f,F8,F4,a3n,intBin,a1z,Zm,Zi,true_and,and_self,and_true]) (by simp[slotOk,refOkV,refsOk]) h
theorem F0{T z:Nat}{a b:Operand}{k:IntKind}{x y:Int}(e:opd A a=some (.val (.int k x)))(f:opd A b=some (.val (.int k y)))
 (h:XR cx keep ops0 r ((.t d,.val (.bool (decide (x<y))))::A) fun c i=>Q c ((rds a++rds b,[.t d])::i)):XR cx keep ops0 (⟨some d,.binOp .lss T a b z,ty,pos,aft,none⟩::r) A Q:=
 K2 (fun o g=>by simp only[aopV,g]) (by simp only[opV,E3,E5 e,E5 f,F8,F4,a3n,intBin,a1z,Zm,Zi,true_and,and_self,and_true]) (by simp[slotOk,refOkV,refsOk]) h
theorem a3j{T z:Nat}{a b:Operand}{k:IntKind}{x y:Int}(e:opd A a=some (.val (.int k x)))(f:opd A b=some (.val (.int k y)))
 (h:XR cx keep ops0 r ((.t d,.val (.bool (decide (x<=y))))::A) fun c i=>Q c ((rds a++rds b,[.t d])::i)):XR cx keep ops0 (⟨some d,.binOp .leq T a b z,ty,pos,aft,none⟩::r) A Q:=
 K2 (fun o g=>by simp only[aopV,g]) (by simp only[opV,E3,E5 e,E5 f,F8,F4,a3n,intBin,a1z,Zm,Zi,true_and,and_self,and_true]) (by simp[slotOk,refOkV,refsOk]) h
theorem M0{T z:Nat}{a b:Operand}{k:IntKind}{x y:Int}(e:opd A a=some (.val (.int k x)))(f:opd A b=some (.val (.int k y)))
 (h:XR cx keep ops0 r ((.t d,.val (.bool (decide (y<x))))::A) fun c i=>Q c ((rds a++rds b,[.t d])::i)):XR cx keep ops0 (⟨some d,.binOp .gtr T a b z,ty,pos,aft,none⟩::r) A Q:=
 K2 (fun o g=>by simp only[aopV,g]) (by simp only[opV,E3,E5 e,E5 f,F8,F4,a3n,intBin,a1z,Zm,Zi,true_and,and_self,and_true]) (by simp[slotOk,refOkV,refsOk]) h
theorem c0e{T z:Nat}{a b:Operand}{k:IntKind}{x y:Int}(e:opd A a=some (.val (.int k x)))(f:opd A b=some (.val (.int k y)))
 (h:XR cx keep ops0 r ((.t d,.val (.bool (decide (y<=x))))::A) fun c i=>Q c ((rds a++rds b,[.t d])::i)):XR cx keep ops0 (⟨some d,.binOp .geq T a b z,ty,pos,aft,none⟩::r) A Q:=
 K2 (fun o g=>by simp only[aopV,g]) (by simp only[opV,E3,E5 e,E5 f,F8,F4,a3n,intBin,a1z,Zm,Zi,true_and,and_self,and_true]) (by simp[slotOk,refOkV,refsOk]) h
theorem e1r{T z:Nat}{a b:Operand}{k:IntKind}{x y:Int}(e:opd A a=some (.val (.int k x)))(f:opd A b=some (.val (.int k y)))
 (h:XR cx keep ops0 r ((.t d,.val (.int k (k.wrap ((Yv k.bits x&&&Yv k.bits y).toNat))))::A) fun c i=>Q c ((rds a++rds b,[.t d])::i)):XR cx keep ops0 (⟨some d,.binOp .and T a b z,ty,pos,aft,none⟩::r) A Q:=
 K2 (fun o g=>by simp only[aopV,g]) (by simp only[opV,E3,E5 e,E5 f,F8,F4,a3n,intBin,a1z,Zm,Zi,true_and,and_self,and_true]) (by simp[slotOk,refOkV,refsOk]) h
theorem f5k{T z:Nat}{a b:Operand}{k k':IntKind}{x y:Int}(e:opd A a=some (.val (.int k x)))(f:opd A b=some (.val (.int k' y)))(g:0<=y/\y<k.bits/\inI k (x*2^y.toNat))
 (h:XR cx keep ops0 r ((.t d,.val (.int k (x*2^y.toNat)))::A) fun c j=>Q c ((rds a++rds b,[.t d])::j)):XR cx keep ops0 (⟨some d,.binOp .shl T a b z,ty,pos,aft,none⟩::r) A Q:=
 K2 (fun o i=>by simp only[aopV,i]) (by simp only[opV,E3,E5 e,E5 f,F8,F4,a3n,intBin,a1z,Zm,Zi,true_and,and_self,and_true];exact g) (by simp[slotOk,refOkV,refsOk]) h
theorem c4q{T z:Nat}{a b:Operand}{k k':IntKind}{x y:Int}(e:opd A a=some (.val (.int k x)))(f:opd A b=some (.val (.int k' y)))(g:0<=y/\y<k.bits)
 (h:XR cx keep ops0 r ((.t d,.val (.int k (x.fdiv (2^y.toNat))))::A) fun c j=>Q c ((rds a++rds b,[.t d])::j)):XR cx keep ops0 (⟨some d,.binOp .shr T a b z,ty,pos,aft,none⟩::r) A Q:=
 K2 (fun o i=>by simp only[aopV,i]) (by simp only[opV,E3,E5 e,E5 f,F8,F4,a3n,intBin,a1z,Zm,Zi,true_and,and_self,and_true];exact g) (by simp[slotOk,refOkV,refsOk]) h
theorem f3t{T z:Nat}{a b:Operand}{x y:ByteArray}(e:opd A a=some (.val (.string x)))(f:opd A b=some (.val (.string y)))(g:x.size+y.size<=H6)
 (h:XR cx keep ops0 r ((.t d,.val (.string (x++y)))::A) fun c j=>Q c ((rds a++rds b,[.t d])::j)):XR cx keep ops0 (⟨some d,.binOp .add T a b z,ty,pos,aft,none⟩::r) A Q:=
 K2 (fun o i=>by simp only[aopV,i]) (by simp only[opV,E3,E5 e,E5 f,F8,F4,a3n,b9s,a1z,Zm,Zi,true_and,and_self,and_true];exact g) (by simp[slotOk,refOkV,refsOk]) h
theorem J3{T z:Nat}{a b:Operand}{x y:ByteArray}(e:opd A a=some (.val (.string x)))(f:opd A b=some (.val (.string y)))
 (h:XR cx keep ops0 r ((.t d,bV (x.toList==y.toList))::A) fun c i=>Q c ((rds a++rds b,[.t d])::i)):XR cx keep ops0 (⟨some d,.binOp .eql T a b z,ty,pos,aft,none⟩::r) A Q:=
 K2 (fun o g=>by simp only[aopV,g]) (by simp only[opV,E3,E5 e,E5 f,F8,F4,a3n,b9s,a1z,Zm,Zi,true_and,and_self,and_true]) (by simp[slotOk,refOkV,refsOk]) h
theorem f5e{T z:Nat}{a b:Operand}{x y:ByteArray}(e:opd A a=some (.val (.string x)))(f:opd A b=some (.val (.string y)))
 (h:XR cx keep ops0 r ((.t d,bV (!(x.toList==y.toList)))::A) fun c i=>Q c ((rds a++rds b,[.t d])::i)):XR cx keep ops0 (⟨some d,.binOp .neq T a b z,ty,pos,aft,none⟩::r) A Q:=
 K2 (fun o g=>by simp only[aopV,g]) (by simp only[opV,E3,E5 e,E5 f,F8,F4,a3n,b9s,a1z,Zm,Zi,true_and,and_self,and_true]) (by simp[slotOk,refOkV,refsOk]) h
theorem a4s{T:Nat}{a:Operand}{k:IntKind}{x:Int}(c:opd A a=some (.val (.int k x)))(e:inI k (0-x))
 (h:XR cx keep ops0 r ((.t d,.val (.int k (-x)))::A) fun b g=>Q b ((rds a,[.t d])::g)):XR cx keep ops0 (⟨some d,.unOp .neg T a,ty,pos,aft,none⟩::r) A Q:=
 K2 (fun o f=>by simp only[aopV,f]) (by simp only[opV,E3,E5 c,F8,F4,unA,Zm,Zi,and_self,and_true];exact e) (by simp[slotOk,refOkV,refsOk]) h
theorem H5{T:Nat}{a:Operand}{x:Bool}(c:opd A a=some (.val (.bool x)))
 (h:XR cx keep ops0 r ((.t d,bV (!x))::A) fun b f=>Q b ((rds a,[.t d])::f)):XR cx keep ops0 (⟨some d,.unOp .not T a,ty,pos,aft,none⟩::r) A Q:=
 K2 (fun o e=>by simp only[aopV,e]) (by simp only[opV,E3,E5 c,F4,unA,Zm,and_self]) (by simp[slotOk,refOkV,refsOk]) h
theorem d7a{x:Operand}{T:Nat}{es:List AV}(f:opd A x=some (.list es))(a:O5 (tyS cx.P T).k=true)
 (h:XR cx keep ops0 r ((.t d,iV es.length)::A) fun b g=>Q b ((rds x,[.t d])::g)):XR cx keep ops0 (⟨some d,.call ⟨.builtin .len,#[x],#[T]⟩,ty,pos,aft,none⟩::r) A Q:=by
 refine K2 (fun o c=>by simp only[aopV,c]) ?_ (by simp[slotOk,refOkV,refsOk]) h;simp only[opV,E3,E5 f,F8,F4,lenA,Zm,Zi,and_self,and_true];unfold O5 at a;unfold lenOk;split at a
 ·rename_i e he;rw[he];trivial
 ·cases a
theorem B7{α:Type}{f:α->AV}{xs:List α}{x:Operand}{T:Nat}(c:opd A x=some (.list (xs.map f)))(b:O5 (tyS cx.P T).k=true)
 (h:XR cx keep ops0 r ((.t d,iV xs.length)::A) fun a e=>Q a ((rds x,[.t d])::e)):XR cx keep ops0 (⟨some d,.call ⟨.builtin .len,#[x],#[T]⟩,ty,pos,aft,none⟩::r) A Q:=
 d7a c b (by rw[Zh];exact h)
theorem H2{x:Operand}{T id g off n:Nat}{p:Option (Nat×Nat)}(f:opd A x=some (.sl id g p off n))(a:O5 (tyS cx.P T).k=true)
 (h:XR cx keep ops0 r ((.t d,iV n)::A) fun b i=>Q b ((rds x,[.t d])::i)):XR cx keep ops0 (⟨some d,.call ⟨.builtin .len,#[x],#[T]⟩,ty,pos,aft,none⟩::r) A Q:=by
 refine K2 (fun o c=>by simp only[aopV,c]) ?_ (by simp[slotOk,refOkV,refsOk]) h;simp only[opV,E3,E5 f,F8,F4,lenA,Zm,Zi,and_self,and_true];unfold O5 at a;unfold lenOk;split at a
 ·rename_i e he;rw[he];trivial
 ·cases a
theorem e3o{x:Operand}{T:Nat}{s:ByteArray}(e:opd A x=some (.val (.string s)))(a:a5v (tyS cx.P T).k=true)
 (h:XR cx keep ops0 r ((.t d,iV s.size)::A) fun b f=>Q b ((rds x,[.t d])::f)):XR cx keep ops0 (⟨some d,.call ⟨.builtin .len,#[x],#[T]⟩,ty,pos,aft,none⟩::r) A Q:=by
 refine K2 (fun o c=>by simp only[aopV,c]) ?_ (by simp[slotOk,refOkV,refsOk]) h;simp only[opV,E3,E5 e,F8,F4,lenA,Zm,Zi,and_self,and_true];unfold a5v at a;unfold lenOk;split at a
 ·rename_i he;rw[he];trivial
 ·cases a
theorem c4w{a b:Operand}{e:Array Nat}{k:IntKind}{x y:Int}(f:opd A a=some (.val (.int k x)))(g:opd A b=some (.val (.int k y)))
 (h:XR cx keep ops0 r ((.t d,.val (.int k (max x y)))::A) fun c j=>Q c ((rds a++rds b,[.t d])::j)):XR cx keep ops0 (⟨some d,.call ⟨.builtin .max,#[a,b],e⟩,ty,pos,aft,none⟩::r) A Q:=
 K2 (fun o i=>by simp only[aopV,i]) (by simp only[opV,rdOs,E3,E5 f,E5 g,F8,F4,foldA,max2,Zm,Zi,true_and,and_self,Ym]) (by simp[slotOk,refOkV,refsOk]) h
theorem f3c{a b:Operand}{e:Array Nat}{k:IntKind}{x y:Int}(f:opd A a=some (.val (.int k x)))(g:opd A b=some (.val (.int k y)))
 (h:XR cx keep ops0 r ((.t d,.val (.int k (min x y)))::A) fun c j=>Q c ((rds a++rds b,[.t d])::j)):XR cx keep ops0 (⟨some d,.call ⟨.builtin .min,#[a,b],e⟩,ty,pos,aft,none⟩::r) A Q:=
 K2 (fun o i=>by simp only[aopV,i]) (by simp only[opV,rdOs,E3,E5 f,E5 g,F8,F4,foldA,min2,Zm,Zi,true_and,and_self,Ym]) (by simp[slotOk,refOkV,refsOk]) h
def Q2(P:Program)(T:Nat):Option (Nat×Nat):=match(tyS P T).k with
 | .slice e=>if P6 (tyS P e).k=false then some (e,(tyS P e).size)else none
 |_=>none
theorem a1h{C:Caller}{P:Program}{T E s:Nat}(a:Q2 P T=some (E,s))(Q:Nat->List Mv.Loc->Prop):wpA C A (elemOf P T) Q=Q E []/\(tyS P E).size=s:=by
 unfold Q2 at a;unfold elemOf;split at a
 ·rename_i e he
  split at a
  ·rename_i b
   cases a;simp only[he,E3,F8,b,F4,true_and,Zm,and_self]
  ·cases a
 ·cases a
theorem W4{C:Caller}{k:IntKind}{n:Int}(h:0<=n)(Q:Nat->List Mv.Loc->Prop):wpA C A (asNat (.val (.int k n))) Q=Q n.toNat []:=by
 simp only[asNat,E3,F8,h,F4,true_and,Zm]
theorem J1{α:Type}[Inhabited α]{x i:Operand}{T E s:Nat}{f:α->AV}{xs:List α}{k:IntKind}{n:Int}(p:opd A x=some (.list (xs.map f)))(g:opd A i=some (.val (.int k n)))
 (b:Q2 cx.P T=some (E,s)) (m:∀a,(leaves (f a)).length=s) (j:0<=n/\n<xs.length)
 (h:XR cx keep ops0 r ((.t d,.ipt (f (xs.getD n.toNat default)) 0)::A) fun c q=>Q c ((rds x++rds i,[.t d])::q)):XR cx keep ops0 (⟨some d,.indexAddr T x i,ty,pos,aft,none⟩::r) A Q:=by
 refine K2 (fun o l=>by simp only[aopV,l]) ?_ (by simp[slotOk,refOkV,refsOk]) h;have hlt:n.toNat<xs.length:=by omega
 have e:(xs.map f)[n.toNat]? =some (f (xs.getD n.toNat default)):=by
  rw[ZE,Ze hlt,Zc,Ze hlt];rfl
 simp only[opV,E3,E5 p,E5 g,indexAddrA,W4 j.1,(a1h b _).1,e,F8,F4,m,Zm,Zi,and_self,and_true];exact(a1h (C:=fun _ _=>none) (A:=A) b fun _ _=>True).2.symm
theorem d8w{x i:Operand}{T E s id g m off a:Nat}{es:List AV}{k:IntKind}{n:Int}(v:opd A x=some (.sl id g none off a))(j:opd A i=some (.val (.int k n)))(b:look A (.h id)=some (.obj g m s es))
 (c:Q2 cx.P T=some (E,s)) (q:0<=n/\n<a) (p:off+a<=es.length) (l:slotOk keep (.t d) (.ptr id g none (off+n.toNat) 0)=true)
 (h:XR cx keep ops0 r ((.t d,.ptr id g none (off+n.toNat) 0)::A) fun e y=>Q e ((rds x++(rds i++[.h id]),[.t d])::y)):XR cx keep ops0 (⟨some d,.indexAddr T x i,ty,pos,aft,none⟩::r) A Q:=by
 refine K2 (fun o b=>by simp only[aopV,b]) ?_ l h;have u:=(a1h (C:=fun _ _=>none) (A:=A) c fun _ _=>True).2;have f:n.toNat<a:=by omega
 simp only[opV,E3,E5 v,E5 j,indexAddrA,W4 q.1,(a1h c _).1,rdNode,M6 b,F8,F4,Zm,Zi,true_and,f,p,u,and_self,Ym,YW]
def partF(P:Program)(T:Nat)(ls:List AV):Option AV:=
 if a4f (tyS P T).k=true then(if(tyS P T).size<=ls.length then some (.agg (ls.take (tyS P T).size))else none)
 else if(tyS P T).size=1/\P6 (tyS P T).k=false then ls.head? else none
theorem a1d{C:Caller}{P:Program}{T:Nat}{ls:List AV}{v:AV}(h:partF P T ls=some v)(Q:AV->List Mv.Loc->Prop):wpA C A (a3b P T ls) Q=Q v []:=by
 unfold partF at h;unfold a3b;split at h
 ·rename_i a
  split at h
  ·rename_i b
   cases h;simp only[a,if_true,E3,F8,b,F4,true_and,Zm]
  ·cases h
 ·rename_i a
  split at h
  ·rename_i b
   cases ls with
   |nil=>simp at h
   |cons l ls=>
    simp only[List.head?_cons,Zb]at h;subst h;simp only[a,E3,F8,b,F4,true_and,Zm,ZY,if_false,and_self]
  ·cases h
theorem c1u{a:Operand}{T j:Nat}{e v:AV}(c:opd A a=some (.ipt e j))(i:partF cx.P T ((leaves e).drop j)=some v)(f:slotOk keep (.t d) v=true)
 (h:XR cx keep ops0 r ((.t d,v)::A) fun b k=>Q b ((rds a,[.t d])::k)):XR cx keep ops0 (⟨some d,.load T a,ty,pos,aft,none⟩::r) A Q:=
 K2 (fun o g=>by simp only[aopV,g]) (by simp only[opV,E3,E5 c,loadG,loadA,a1d i,Zm,and_self]) f h
theorem d6k{a:Operand}{T id g m s i j:Nat}{es:List AV}{e v:AV}(f:opd A a=some (.ptr id g none i j))(b:look A (.h id)=some (.obj g m s es))(he:es[i]? =some e)
 (l:partF cx.P T (viewLeaves id g none i j ((leaves e).drop j))=some v) (k:slotOk keep (.t d) v=true)
 (h:XR cx keep ops0 r ((.t d,v)::A) fun c p=>Q c ((rds a++[.h id],[.t d])::p)):XR cx keep ops0 (⟨some d,.load T a,ty,pos,aft,none⟩::r) A Q:=
 K2 (fun o b=>by simp only[aopV,b]) (by simp only[opV,E3,E5 f,loadG,loadA,rdNode,M6 b,F8,F4,he,a1d l,Zm,Zi,true_and,and_self]) k h
theorem d1a{x:Operand}{S f o m:Nat}{v l:AV}(z:opd A x=some v)(b:(match(tyS cx.P S).k with| .struct fs=>fs[f]? |_=>none)=some (o,m))(y:(tyS cx.P m).size≠0)
 (a:(match v with| .ptr id g p i j=>some (.ptr id g p i (j+o))| .ipt e j=>some (.ipt e (j+o))|_=>none)=some l) (s:slotOk keep (.t d) l=true)
 (h:XR cx keep ops0 r ((.t d,l)::A) fun q B=>Q q ((rds x,[.t d])::B)):XR cx keep ops0 (⟨some d,.fieldAddr S x f,ty,pos,aft,none⟩::r) A Q:=by
 refine K2 (fun o u=>by simp only[aopV,u]) ?_ s h;simp only[opV,E3,E5 z,fieldAddrA];split at b
 ·rename_i fs c
  simp only[c,b,E3,F8];refine⟨y,?_⟩;split at a
  ·cases a;simp only[F4,Zm,and_self]
  ·cases a;simp only[F4,Zm,and_self]
  ·cases a
 ·cases b
theorem e3u{x:Operand}{i:Nat}{vs:List AV}{v:AV}(f:opd A x=some (.tup vs))(e:vs[i]? =some v)(b:slotOk keep (.t d) v=true)
 (h:XR cx keep ops0 r ((.t d,v)::A) fun a g=>Q a ((rds x,[.t d])::g)):XR cx keep ops0 (⟨some d,.extract x i,ty,pos,aft,none⟩::r) A Q:=
 K2 (fun o c=>by simp only[aopV,c]) (by simp only[opV,E3,E5 f,e,F4,Zm,and_self]) b h
theorem a3e{x:Operand}{v:AV}(f:opd A x=some v)(e:(match v with| .ptr .. =>true| .ipt .. =>true|_=>false)=true)(b:slotOk keep (.t d) v=true)
 (h:XR cx keep ops0 r ((.t d,v)::A) fun a g=>Q a ((rds x,[.t d])::g)):XR cx keep ops0 (⟨some d,.nilCheck x,ty,pos,aft,none⟩::r) A Q:=by
 refine K2 (fun o c=>by simp only[aopV,c]) ?_ b h;simp only[opV,E3,E5 f];cases v<;>first|(cases e;done)|simp[F4]
theorem a6r{x i:Operand}{T:Nat}{s:ByteArray}{k:IntKind}{n:Int}{b:UInt8}(a:a5v (tyS cx.P T).k=true)(l:opd A x=some (.val (.string s)))(f:opd A i=some (.val (.int k n)))(g:0<=n)
 (e:s.data.toList[n.toNat]? =some b)
 (h:XR cx keep ops0 r ((.t d,uV b.toNat)::A) fun c m=>Q c ((rds x++rds i,[.t d])::m)):XR cx keep ops0 (⟨some d,.index T x i,ty,pos,aft,none⟩::r) A Q:=by
 refine K2 (fun o j=>by simp only[aopV,j]) ?_ (by simp[slotOk,refOkV,refsOk]) h;unfold a5v at a;split at a
 ·rename_i he
  simp only[opV,E3,E5 l,E5 f,indexA,W4 g,he,e,F4,Zm,Zi,and_self]
 ·cases a
theorem a6f{S T:Nat}{x:Operand}{k k0 k':IntKind}{n:Int}(b:(tyS cx.P S).k= .int k0)(c:(tyS cx.P T).k= .int k)(g:opd A x=some (.val (.int k' n)))(e:inI k n)
 (h:XR cx keep ops0 r ((.t d,.val (.int k n))::A) fun a i=>Q a ((rds x,[.t d])::i)):XR cx keep ops0 (⟨some d,.convert S T x,ty,pos,aft,none⟩::r) A Q:=
 K2 (fun o f=>by simp only[aopV,f]) (by simp only[opV,E3,E5 g,e0f,b,c,F8,F4,Zm,Zi,and_self,and_true];exact e) (by simp[slotOk,refOkV,refsOk]) h
theorem N7{x:Operand}{T E:Nat}{e c:Option Operand}{es:List AV}{l m:Nat}{a b:List Mv.Loc}(u:opd A x=some (.list es))(g:(tyS cx.P T).k= .slice E)(i:P6 (tyS cx.P E).k=false)
 (v:a3a (tyS cx.P E).size es=true) (p:wpA (CW cx) A (optNat c es.length) fun n ls=>n=m/\ls=a) (q:wpA (CW cx) A (optNat e 0) fun n ls=>n=l/\ls=b) (j:l<=m/\m<=es.length)
 (h:XR cx keep ops0 r ((.t d,.list ((es.drop l).take (m-l)))::A) fun f y=>Q f ((rds x++(a++b),[.t d])::y)):XR cx keep ops0 (⟨some d,.slice T x e c none,ty,pos,aft,none⟩::r) A Q:=by
 refine K2 (fun o s=>by simp only[aopV,s]) ?_ (by simp[slotOk,refOkV,refsOk]) h;simp only[opV,E3,E5 u,sliceA,g,optNat,F4,Zi];refine M2 ?_ p;rintro _ _ ⟨rfl,rfl⟩;refine M2 ?_ q;rintro _ _ ⟨rfl,rfl⟩;simp only[F8,i,v,F4,ne_eq,not_true_eq_false,false_and,if_false,Zm,Zi,and_self,and_true,true_and,true_or,Zd,j]
end
theorem e3l{α:Type}(x:Rd α):x.over []=x:=by
 induction x with
 |ret a=>rfl
 |fail=>rfl
 |read l k b=>simp only[Rd.over,Ws.look,b]
 |need p d k b=>simp only[Rd.over,b]
 |call f as k b=>simp only[Rd.over,b]
section
variable{cx:Cx}{keep:List Nat}{ops0:Array Oper}{r:List Oper}{A:Asr}{Q:Asr->List Log->Prop}{d:Nat}{ty:Nat}{pos:String}{aft:Array Edge}
theorem d8a{o:Oper}(e:o.guard=none){v:AV}{ws:Ws}{ls:List Mv.Loc}{A1:Asr}(h:wpW (CW cx) A (aopV cx o) fun a w l=>a=v/\w=ws/\l=ls)
 (f:tRefsOk keep (keptWs keep (ws++setD o v))=true) (c:Wk (puts A (ws++setD o v)) A1) (g:XR cx keep ops0 r A1 fun b i=>Q b ((ls,V8 (ws++setD o v))::i)):XR cx keep ops0 (o::r) A Q:=by
 refine a8w ?_;have:U7 cx ops0 o=aop cx o:=by unfold U7;simp only[e]
 rw[this];unfold aop;refine A5 (H7 h ?_);rintro _ _ _ ⟨rfl,rfl,rfl⟩;refine J5 ?_;simp only[Zm];exact⟨f,XR.wk c g⟩
theorem a4l{o:Oper}(e:o.guard=none){v:Nat->AV}{ws:Nat->Ws}{ls:List Mv.Loc}{lw:List Mv.Loc}{A1:Nat->Asr}(h:wpW (CW cx) A (aopV cx o) fun a w l=>∃g,a=v g/\w=ws g/\l=ls)
 (f:∀g,tRefsOk keep (keptWs keep (ws g++setD o (v g)))=true) (hw:∀g,V8 (ws g++setD o (v g))=lw) (c:∀g,Wk (puts A (ws g++setD o (v g))) (A1 g))
 (i:∀g,XR cx keep ops0 r (A1 g) fun b j=>Q b ((ls,lw)::j)):XR cx keep ops0 (o::r) A Q:=by
 refine a8w ?_;have:U7 cx ops0 o=aop cx o:=by unfold U7;simp only[e]
 rw[this];unfold aop;refine A5 (H7 h ?_);rintro _ _ _ ⟨g,rfl,rfl,rfl⟩;refine J5 ?_;simp only[Zm];refine⟨f g,XR.wk (c g) ?_⟩;rw[hw g];exact i g
theorem J6{C:Caller}{x:Operand}{v:AV}(h:opd A x=some v){R:AV->Ws->List Mv.Loc->Prop}(a:R v [] (rds x)):wpW C A (up (rdO x)) R:=
 I4 (by rw[E5 h];exact a)
theorem E7{C:Caller}{p:Prop}[Decidable p](h:p){R:Unit->Ws->List Mv.Loc->Prop}(a:R () [] []):wpW C A (up (need p)) R:=
 I4 (by rw[F8];exact⟨h,a⟩)
theorem K3{C:Caller}{id g m s:Nat}{es:List AV}(a:look A (.h id)=some (.obj g m s es)){R:Nat×Nat×List AV->Ws->List Mv.Loc->Prop}(b:R (m,s,es) [] [.h id]):wpW C A (up (rdNode id g none)) R:=
 I4 (by simp only[rdNode,M6 a,E3,F8,F4,true_and,Zm];exact b)
theorem T4{C:Caller}{P:Program}{T E s:Nat}(a:Q2 P T=some (E,s)){R:Nat->Ws->List Mv.Loc->Prop}(b:R E [] []):wpW C A (up (elemOf P T)) R:=
 I4 (by rw[(a1h a _).1];exact b)
theorem M8{C:Caller}{l:Mv.Loc}{R:AV->Ws->List Mv.Loc->Prop}(a:∀v,R v [] [l]):wpW C A (up (rd l)) R:=by
 refine I4 ?_;unfold rd;simp only[wpA];cases look A l with
 |some v=>exact a v
 |none=>exact a
theorem c1v{P:Program}{T E s:Nat}(a:Q2 P T=some (E,s)):(tyS P E).size=s:=
 (a1h (C:=fun _ _=>none) (A:=[]) a fun _ _=>True).2
def a4y:AV->Bool
 | .nil=>false
 | .sl _ _ none 0 _=>false
 | .ptr _ _ none _ _=>false
 |_=>true
theorem d4p{P:Program}{T X:Nat}{v:AV}(h:a4y v=true):a3x P T X v=pure v:=by
 unfold a3x;split
 ·simp[a4y]at h
 ·simp[a4y]at h
 ·simp[a4y]at h
 ·rfl
theorem a2k(A:Asr)(l k:Mv.Loc)(a b:AV):Wk (put (put A l a) k b) ((k,b)::(l,a)::A):=by
 intro m c h;rw[P4,P4];simp only[look]at h;cases e:Loc.beq m k<;>cases f:Loc.beq m l<;>simp_all
theorem b1z(A:Asr)(l:Mv.Loc)(a:AV):Wk (put A l a) ((l,a)::A):=by
 intro m c h;rw[<-a5n];exact h
theorem a9m(A:Asr)(l k n:Mv.Loc)(a b e:AV):Wk (put (put (put A l a) k b) n e) ((n,e)::(k,b)::(l,a)::A):=by
 intro m c h;rw[P4,P4,P4];simp only[look]at h;cases f:Loc.beq m n<;>cases g:Loc.beq m k<;>cases i:Loc.beq m l<;>simp_all
theorem f2n(A:Asr)(l k n q:Mv.Loc)(a b e f:AV):Wk (put (put (put (put A l a) k b) n e) q f) ((q,f)::(n,e)::(k,b)::(l,a)::A):=by
 intro m c h;rw[P4,P4,P4,P4];simp only[look]at h;cases g:Loc.beq m n<;>cases i:Loc.beq m k<;>cases j:Loc.beq m l<;>cases o:Loc.beq m q<;>simp_all
theorem e8b{x:Operand}{v:AV}(e:opd A x=some v)(c:a4y v=true)(b:slotOk keep (.t d) v=true)(h:XR cx keep ops0 r ((.t d,v)::A) fun a f=>Q a ((rds x,[.t d])::f)):
 XR cx keep ops0 (⟨some d,.assign x,ty,pos,aft,none⟩::r) A Q:=by
 refine d8a (v:=v) (ws:=[]) (ls:=rds x) U ?_ (I1 b) (b1z _ _ _) h;simp only[aopV];refine A5 (J6 e ?_);simp only[d4p c];exact C3 (by simp)
theorem B1{x:Operand}{E s:Nat}(f:opd A x=some .nil)(a:Q2 cx.P ty=some (E,s))(c:∀g,slotOk keep (.t d) (.sl d g none 0 0)=true)
 (h:∀g,XR cx keep ops0 r ((.t d,.sl d g none 0 0)::(.h d,.obj g 0 s [])::A) fun b i=>Q b ((rds x++[.h d],[.h d,.t d])::i)):
 XR cx keep ops0 (⟨some d,.assign x,ty,pos,aft,none⟩::r) A Q:=by
 refine a4l (v:=fun g=> .sl d g none 0 0) (ws:=fun g=>[(.h d,.obj g 0 s [])]) (ls:=rds x++[.h d]) U ?_ (fun g=>C7 (by simp[slotOk,refOkV,G3]) (I1 (c g))) (fun g=>U) (fun g=>a2k _ _ _ _ _) h;have e:=c1v a;simp only[aopV];refine A5 (J6 f ?_);simp only[a3x];refine A5 (T4 a (A5 (M8 fun o=> ?_)));refine A5 (J5 (C3 ?_));exact⟨_,U,by simp[e],by simp⟩
theorem H8{x:Operand}{id g s n:Nat}{es:List AV}(k:opd A x=some (.sl id g none 0 n))(j:look A (.h id)=some (.obj g 0 s es))(i:n=es.length)(a:Loc.beq (.h d) (.h id)=false)
 (b:∀g,slotOk keep (.h d) (.obj g 0 s es)=true) (f:∀g,slotOk keep (.t d) (.sl d g none 0 n)=true)
 (h:∀g',XR cx keep ops0 r ((.t d,.sl d g' none 0 n)::(.h d,.obj g' 0 s es)::(.h id,.dead g)::A) fun c l=>Q c ((rds x++[.h id,.h d],[.h id,.h d,.t d])::l)):
 XR cx keep ops0 (⟨some d,.assign x,ty,pos,aft,none⟩::r) A Q:=by
 have hid:¬id=d:=fun e=>by rw[e]at a;simp[Loc.beq]at a
 refine a4l (v:=fun g=> .sl d g none 0 n) (ws:=fun g'=>[(.h id,.dead g),(.h d,.obj g' 0 s es)]) (ls:=rds x++[.h id,.h d]) U ?_
  (fun g=>C7 (by simp[slotOk,refOkV]) (C7 (b g) (I1 (f g)))) (fun g=>U) (fun g=>a9m _ _ _ _ _ _ _) h
 subst i;simp only[aopV];refine A5 (J6 k ?_);simp only[a3x];refine A5 (K3 j ?_);simp only[if_true];refine A5 (E7 (Zd _) ?_);simp only[hid,if_false];refine A5 (J5 (A5 (M8 fun o=>A5 (J5 (C3 ?_)))));exact⟨_,U,by simp,by simp⟩
def e1q(l:Mv.Loc):List Log->List Log
 |(r,w)::a=>(l::r,w)::a
 |[]=>[]
theorem a7e{o:Oper}{g:Nat}{want:Bool}{dg:Nat}(c:o.guard=some (g,want))(a:(ops0[g]?).bind (·.dst)=some dg):
 U7 cx ops0 o=(do
  let v <-up (rd (.t dg))
  match v with
  | .val (.bool b)=>if b=want then aop cx o else wr (setD o (.val Yh))
  | .val (.tuple _)=>wr (setD o (.val Yh))
  |_=>RW.fail):=by
 unfold U7;simp only[c,a]
 rfl
theorem H1{op:Op}{dst:Option Nat}{g dg:Nat}{want b:Bool}(I:(ops0[g]?).bind (·.dst)=some dg)(H:look A (.t dg)=some (.val (.bool b)))(hw:b=want)
 (h:XR cx keep ops0 (⟨dst,op,ty,pos,aft,none⟩::r) A fun B x=>Q B (e1q (.t dg) x)):XR cx keep ops0 (⟨dst,op,ty,pos,aft,some (g,want)⟩::r) A Q:=by
 intro st v;obtain⟨ws,x,f,i,j,E,G⟩:=h st v;have s:=v _ _ H;simp only[R7]at i|-;cases o:Rd.run (α:=Unit×Ws) (CW cx) st (U7 cx ops0 ⟨dst,op,ty,pos,aft,none⟩)with
 |none=>simp[o]at i
 |some z=>
  obtain⟨⟨⟨⟩,c⟩,rs⟩:=z;have k:aop cx ⟨dst,op,ty,pos,aft,some (g,want)⟩=aop cx ⟨dst,op,ty,pos,aft,none⟩:=by
   unfold aop aopV;cases op<;>rfl
  have m:Rd.run (α:=Unit×Ws) (CW cx) st (U7 cx ops0 ⟨dst,op,ty,pos,aft,some (g,want)⟩)=some (((),c),Mv.Loc.t dg::rs):=by
   rw[a7e U I];have p:Rd.run (α:=Unit×Ws) (CW cx) st (aop cx ⟨dst,op,ty,pos,aft,none⟩)=some (((),c),rs):=o;refine a9p (α:=AV×Ws) (β:=Unit×Ws) (up (rd (.t dg))) _ (a:=(.val (.bool b),[])) (ls:=[.t dg]) (ms:=rs) ?_ ?_
   ·refine d7s (rd (.t dg)) ?_
    simp only[rd,Rd.run,s]
   ·simp only[hw,if_true,k]
    have e:=e3l (α:=Unit×Ws) (aop cx ⟨dst,op,ty,pos,aft,none⟩);have q:Rd.run (α:=Unit×Ws) (CW cx) st (Rd.over (α:=Unit×Ws) [] (aop cx ⟨dst,op,ty,pos,aft,none⟩))=some (((),c),rs):=
     (congrArg (fun y=>Rd.run (α:=Unit×Ws) (CW cx) st y) e).trans p
    have:=a9p (α:=Unit×Ws) (β:=Unit×Ws) _ (fun b=> .ret (b.1,[]++b.2)) q (b:=((),c)) (ms:=[]) U;simpa using this
  rw[m];simp only[o]at i|-;cases u:R7 (CW cx) cx ops0 r (st.upds c)with
  |none=>simp[u]at i
  |some z2=>
   obtain⟨O,J⟩:=z2;simp only[u,Zb,Zj]at i|-;obtain⟨rfl,rfl⟩:=i;cases f with
   |nil=>exact j.elim
   |cons a f=>
    obtain⟨K,L,M⟩:=j;refine⟨_,_,e1q (.t dg) (a::f),⟨U,U⟩,⟨fun l j=> ?_,L,M⟩,E,G⟩;cases j with
    |head=>exact Zq ..
    |tail _ j=>exact Zn _ (K l j)
theorem H4{op:Op}{g dg:Nat}{want b:Bool}(e:(ops0[g]?).bind (·.dst)=some dg)(c:look A (.t dg)=some (.val (.bool b)))(hw:b= !want)
 (h:XR cx keep ops0 r ((.t d,.val (.tuple #[]))::A) fun a f=>Q a (([.t dg],[.t d])::f)):XR cx keep ops0 (⟨some d,op,ty,pos,aft,some (g,want)⟩::r) A Q:=by
 refine a8w ?_;rw[a7e U e];refine A5 (I4 ?_);rw[b4m c];have:¬b=want:=by subst hw;cases want<;>decide
 simp only[this,if_false];exact J5 ⟨I1 (by simp[slotOk,refOkV,refsOk,Yh]),XR.wk (b1z _ _ _) h⟩
theorem a4z{op:Op}{g dg:Nat}{want:Bool}{t:Array Value}(c:(ops0[g]?).bind (·.dst)=some dg)(b:look A (.t dg)=some (.val (.tuple t)))
 (h:XR cx keep ops0 r ((.t d,.val (.tuple #[]))::A) fun a e=>Q a (([.t dg],[.t d])::e)):XR cx keep ops0 (⟨some d,op,ty,pos,aft,some (g,want)⟩::r) A Q:=by
 refine a8w ?_;rw[a7e U c];refine A5 (I4 ?_);rw[b4m b];exact J5 ⟨I1 (by simp[slotOk,refOkV,refsOk,Yh]),XR.wk (b1z _ _ _) h⟩
theorem D3{op:Op}{g dg:Nat}{want b:Bool}(f:(ops0[g]?).bind (·.dst)=some dg)(e:look A (.t dg)=some (.val (.bool b)))
 (i:b=want->XR cx keep ops0 (⟨some d,op,ty,pos,aft,none⟩::r) A fun a c=>Q a (e1q (.t dg) c))
 (j:b= !want->XR cx keep ops0 r ((.t d,.val (.tuple #[]))::A) fun a c=>Q a (([.t dg],[.t d])::c)):XR cx keep ops0 (⟨some d,op,ty,pos,aft,some (g,want)⟩::r) A Q:=by
 by_cases h:b=want
 ·exact H1 f e h (i h)
 ·have:b= !want:=by cases b<;>cases want<;>simp_all
  exact H4 f e this (j this)
theorem E9{c a b:Operand}{t:Bool}{va:AV}(g:opd A c=some (.val (.bool t)))(k:t=true)(f:opd A a=some va)(i:slotOk keep (.t d) va=true)
 (h:XR cx keep ops0 r ((.t d,va)::A) fun e l=>Q e ((rds c++rds a,[.t d])::l)):XR cx keep ops0 (⟨some d,.pick c a b,ty,pos,aft,none⟩::r) A Q:=
 K2 (fun o j=>by simp only[aopV,j]) (by subst k;simp[opV,E3,E5 g,E5 f]) i h
theorem E8{c a b:Operand}{t:Bool}{e:AV}(i:opd A c=some (.val (.bool t)))(l:t=false)(g:opd A b=some e)(j:slotOk keep (.t d) e=true)
 (h:XR cx keep ops0 r ((.t d,e)::A) fun f m=>Q f ((rds c++rds b,[.t d])::m)):XR cx keep ops0 (⟨some d,.pick c a b,ty,pos,aft,none⟩::r) A Q:=
 K2 (fun o k=>by simp only[aopV,k]) (by subst l;simp[opV,E3,E5 i,E5 g]) j h
theorem B5{g s:Nat}{es:List AV}(h:G3 es=true):slotOk keep (.h d) (.obj g 0 s es)=true:=by simp[slotOk,refOkV,h]
theorem a2p{g s:Nat}{es:List AV}(h:G3 es=true):slotOk keep (.h d) (.obj g 1 s es)=true:=by simp[slotOk,refOkV,h]
theorem I8{g s:Nat}{es:List AV}(h:P5 es=true):slotOk keep (.h d) (.obj g 3 s es)=true:=by simp[slotOk,refOkV,b3s h]
end
theorem A7{α:Type}{f:α->AV}{xs:List α}(h:∀a,L3 (f a)=true):G3 (xs.map f)=true:=by
 unfold G3;rw[List.all_map,Zu];exact fun a _=>h a
theorem U3{α:Type}{f:α->AV}{xs:List α}(h:∀a,L0 (f a)=true):P5 (xs.map f)=true:=by
 unfold P5;rw[List.all_map,Zu];exact fun a _=>h a
theorem O3{α:Type}{f:α->AV}{xs:List α}(h:∀a,L0 (f a)=true):frzL (xs.map f)=xs.map f:=Z4 (U3 h)
def XA(cx:Cx)(keep:List Nat)(c:Code)(A:Asr)(Q:AExit->Asr->Prop):Prop:=
 ∀st,Sat st A->∃n r a,aexec (CW cx) cx keep n c st=some (r,a)/\∃b,Sat a b/\Q r b
def HasL(A:Asr):Asr->Prop
 |[]=>True
 |(l,a)::r=>look A l=some a/\HasL A r
def KeepL(keep:List Nat)(A:Asr):Asr->Prop
 |[]=>True
 |(l,a)::r=>keepLoc keep l=true/\look A l=some a/\KeepL keep A r
theorem c0r{l:Mv.Loc}{a:AV}:∀{B:Asr},look B l=some a->(l,a)∈B:=by
 intro B
 induction B with
 |nil=>intro h;cases h
 |cons x B e=>
  intro h;obtain⟨k,b⟩:=x;simp only[look]at h;cases c:Loc.beq l k with
  |true=>
   simp only[c,Zb]at h;have:=(Loc.beq_iff _ _).1 c;subst this h;exact Zq ..
  |false=>
   simp only[c]at h;exact Zn _ (e h)
theorem HasL.mem{A:Asr}:∀{B:Asr},HasL A B->∀{l a},(l,a)∈B->look A l=some a:=by
 intro B
 induction B with
 |nil=>intro _ l a h;cases h
 |cons x B b=>
  intro h l a hm;cases hm with
  |head=>exact h.1
  |tail _ hm=>exact b h.2 hm
theorem KeepL.mem{keep:List Nat}{A:Asr}:∀{B:Asr},KeepL keep A B->∀{l a},(l,a)∈B->keepLoc keep l=true/\look A l=some a:=by
 intro B
 induction B with
 |nil=>intro _ l a h;cases h
 |cons x B b=>
  intro h l a hm;cases hm with
  |head=>exact⟨h.1,h.2.1⟩
  |tail _ hm=>exact b h.2.2 hm
theorem HasL.sat{A B:Asr}{st:St}(h:HasL A B)(c:Sat st A):Sat st B:=fun l a b=>c l a (h.mem (c0r b))
section
variable{cx:Cx}{keep:List Nat}{A:Asr}{Q:AExit->Asr->Prop}
theorem XA.wk{c:Code}{B:Asr}(h:HasL A B)(b:XA cx keep c B Q):XA cx keep c A Q:=fun st a=>b st (h.sat a)
theorem A6(h:Q .normal A):XA cx keep .skip A Q:=fun st a=>⟨1,.normal,st,rfl,A,a,h⟩
theorem D5{i:Nat}(h:Q (.exit i) A):XA cx keep (.exit i) A Q:=fun st a=>⟨1,.exit i,st,rfl,A,a,h⟩
theorem A9(h:Q .ret A):XA cx keep .ret A Q:=fun st a=>⟨1,.ret,st,rfl,A,a,h⟩
theorem A0{id:Nat}{ops:Array Oper}{draw:Bool}
 (h:XR cx keep ops ops.toList A fun c b=>(draw=true->X8 ops.toList b []=true/\a8x ops=true)/\∃B,KeepL keep c B/\Q .normal B):XA cx keep (.region id ops draw) A Q:=by
 intro st s;obtain⟨ws,b,y,g,j,k,c,m,e,B,o,p⟩:=h st s;refine⟨1,.normal,st.upds (keptWs keep ws),?_,B,fun l a q=> ?_,p⟩
 ·simp only[aexec,W3,g]
  have:(draw=true->X8 ops.toList b []=true/\a8x ops=true)/\tRefsOk keep (keptWs keep ws)=true:=
   ⟨fun f=>⟨c4d _ _ _ _ _ j U (fun i x z t=>by simp at t) (e f).1,(e f).2⟩,k⟩
  rw[if_pos this]
 ·obtain⟨u,v⟩:=o.mem (c0r q)
  rw[c4o u];exact m l a v
theorem a0f(cx:Cx){keep:List Nat}{n m:Nat}{c:Code}{st:St}{r:AExit×St}(h:aexec (CW cx) cx keep n c st=some r)(hm:n<=m):aexec (CW cx) cx keep m c st=some r:=
 T3 (fun _ _ _ h=>h) n m c st hm h
theorem A3{a b:Code}(h:XA cx keep a A fun r e=>match r with
 | .normal=>XA cx keep b e Q
 |r=>Q r e):XA cx keep (.seq a b) A Q:=by
 intro st o;obtain⟨n,r,c,f,e,g,j⟩:=h st o;cases r with
 |normal=>
  obtain⟨m,t,k,p,l,q,s⟩:=j c g;refine⟨max n m+1,t,k,?_,l,q,s⟩;simp only[aexec,a0f cx f (Yx n m),a0f cx p (Yt n m)]
 |exit i=>exact⟨n+1,_,c,by simp only[aexec,f],e,g,j⟩
 |ret=>exact⟨n+1,_,c,by simp only[aexec,f],e,g,j⟩
theorem A4{c:Operand}{a b:Code}{t:Bool}(h:opd A c=some (.val (.bool t)))(m:t=true->XA cx keep a A Q)(o:t=false->XA cx keep b A Q):XA cx keep (.cond c a b) A Q:=by
 intro st i;have l:opA st c= .val (.bool t):=by
  cases c with
  |tmp x=>exact i _ _ h
  |const v=>simpa[opd,opA]using h
  |func f=>simp[opd]at h
  |global g=>simp[opd]at h
 cases t with
 |true=>
  obtain⟨n,r,e,j,k⟩:=m U st i;exact⟨n+1,r,e,by simp only[aexec,l,j],k⟩
 |false=>
  obtain⟨n,r,e,j,k⟩:=o U st i;exact⟨n+1,r,e,by simp only[aexec,l,j],k⟩
theorem A8{id:Nat}{b:Code}(h:XA cx keep b A fun r c=>match r with
 | .exit i=>if i=id then Q .normal c else Q (.exit i) c
 |r=>Q r c):XA cx keep (.block id b) A Q:=by
 intro st k;obtain⟨n,r,a,f,c,g,e⟩:=h st k;cases r with
 |normal=>exact⟨n+1,_,a,by simp only[aexec,f],c,g,e⟩
 |ret=>exact⟨n+1,_,a,by simp only[aexec,f],c,g,e⟩
 |exit i=>
  by_cases j:i=id
  ·simp only[j,if_true]at e
   exact⟨n+1,.normal,a,by simp only[aexec,f,j,if_true],c,g,e⟩
  ·simp only[j,if_false]at e
   exact⟨n+1,.exit i,a,by simp only[aexec,f,j,if_false],c,g,e⟩
theorem a5l{β:Type}{body:Code}(I:β->Asr)(P:β->Prop)(m:β->Nat)(f:β)(u:HasL A (I f))(t:P f)
 (z:∀b,P b->XA cx keep body (I b) fun r e=>match r with
  | .normal=>∃c,P c/\m c<m b/\HasL e (I c)
  |r=>Q r e):XA cx keep (.loop body) A Q:=by
 have key:∀n b,m b=n->P b->XA cx keep (.loop body) (I b) Q:=by
  intro n
  induction n using Nat.strongRecOn with
  |_ n B=>
   intro b y x st o;obtain⟨k,r,a,g,e,h,j⟩:=z b x st o;cases r with
   |normal=>
    obtain⟨c,l,hlt,v⟩:=j;obtain⟨p,E,q,g1,s,g2,g3⟩:=B (m c) (y▸hlt) c U l a (v.sat h);refine⟨max k p+1,E,q,?_,s,g2,g3⟩;simp only[aexec,a0f cx g (Yx k p),a0f cx g1 (Yt k p)]
   |exit i=>exact⟨k+1,_,a,by simp only[aexec,g],e,h,j⟩
   |ret=>exact⟨k+1,_,a,by simp only[aexec,g],e,h,j⟩
 exact XA.wk u (key _ f U t)
end
def c4g(md:Nat->Nat):Nat->List AV->Asr
 |_,[]=>[]
 |i,a::r=>(match a with
  | .own s es=>[(.t i,.sl i 1 none 0 es.length),(.h i,.obj 1 (if md i=2 then 0 else 1) s es)]
  | .ownp es x y=>[(.t i,.ptr i 1 none x y),(.h i,.obj 1 4 0 es)]
  | .clo f caps=>[(.t i,.clo f (initCaps i 0 caps))]
  |a=>[(.t i,a)])++c4g md (i+1) r
theorem e2j{md:Nat->Nat}{l:Mv.Loc}{v:AV}:∀(as:List AV) (k:Nat),(l,v)∈c4g md k as->∃(j:Nat) (a:AV),as[j]? =some a/\
 (match a with
 | .own s es=>(l= .t (k+j)/\v= .sl (k+j) 1 none 0 es.length)\/(l= .h (k+j)/\v= .obj 1 (if md (k+j)=2 then 0 else 1) s es)
 | .ownp es x y=>(l= .t (k+j)/\v= .ptr (k+j) 1 none x y)\/(l= .h (k+j)/\v= .obj 1 4 0 es)
 | .clo f caps=>l= .t (k+j)/\v= .clo f (initCaps (k+j) 0 caps)
 |a=>l= .t (k+j)/\v=a):=by
 intro as
 induction as with
 |nil=>intro k h;cases h
 |cons x as e=>
  intro k h;simp only[c4g]at h;rcases ZL.1 h with h|h
  ·refine⟨0,x,U,?_⟩
   cases x<;>simp only[ZP,Yu,Zj,List.not_mem_nil,or_false]at h|-<;>exact h
  ·obtain⟨j,a,b,c⟩:=e (k+1) h
   refine⟨j+1,a,b,?_⟩;rw[show k+(j+1)=k+1+j from by omega];exact c
theorem d3x{md:Nat->Nat}{as:List AV}(hlen:as.length<=1000):Sat (initLoc md as) (c4g md 0 as):=by
 intro l v e;obtain⟨j,a,b,c⟩:=e2j as 0 (c0r e);have f:j<as.length:=(Zo.1 b).1;simp only[ZI]at c;cases a with
 |own s es=>
  rcases c with⟨rfl,rfl⟩|⟨rfl,rfl⟩
  ·simp only[initLoc,b]
  ·exact b2p b (by omega)
 |ownp es x y=>
  rcases c with⟨rfl,rfl⟩|⟨rfl,rfl⟩
  ·simp only[initLoc,b]
  ·exact b3i b (by omega)
 |_=>obtain⟨rfl,rfl⟩:=c;simp only[initLoc,b]
def RetA(cx:Cx)(b:Bool)(rs:List ResultVar)(a:List Cid)(A:Asr)(res:AV)(outs:List (List AV)):Prop:=
 ∀st,Sat st A->∃us ws ls,Rd.run (α:=List AV×Ws) (CW cx) st (retAll cx.P b rs)=some ((us,ws),ls)/\outsOf (st.upds ws) a=some outs/\U5 us=res
def FnQ(cx:Cx)(b:Bool)(rs:List ResultVar)(a:List Cid)(res:AV)(outs:List (List AV)):AExit->Asr->Prop:=fun r A=>
 match r with
 | .exit _=>False
 |_=>RetA cx b rs a A res outs
theorem C5{cx:Cx}{f:Nat}{fn:Func}{c:Code}{as:List AV}{res:AV}{outs:List (List AV)}{keep:List Nat}(p:cx.ext f=none)(m:cx.P.funcs[f]? =some fn)(l:fn.body=some c)
 (j:O2 fn.ntmps c=true/\as.length=fn.params.size+fn.nfree/\as.length<=fn.ntmps/\as.length<=1000/\(fn.name== "runtime.NumGoroutine")=false) (o:D8 fn=keep)
 (h:XA cx keep c (c4g (cx.md f) 0 as) (FnQ cx (cx.fz f) fn.results.toList (cidAll (cx.md f) 0 as) res outs)):CW cx f as=some (res,outs):=by
 subst o;obtain⟨n,r,q,k,s,g,a⟩:=h _ (d3x j.2.2.2.1);refine c1a cx (n:=n) ?_;unfold a3c;simp only[p,m,l];rw[if_pos j,k];cases r with
 |exit i=>exact a.elim
 |normal=>
  obtain⟨us,ws,ls,b,e,rfl⟩:=a _ g;simp only[b,e]
 |ret=>
  obtain⟨us,ws,ls,b,e,rfl⟩:=a _ g;simp only[b,e]
def a3u(A:Asr):List Cid->List (List AV)->Prop
 |[],[]=>True
 |(a,m,s)::r,o::os=>look A (.h a)=some (.obj 1 m s o)/\G3 o=true/\a3u A r os
 |_,_=>False
theorem a3u.run{A:Asr}{st:St}(i:Sat st A):∀(a:List Cid) (outs:List (List AV)),a3u A a outs->outsOf st a=some outs:=by
 intro a
 induction a with
 |nil=>
  intro outs h;cases outs with
  |nil=>rfl
  |cons=>exact h.elim
 |cons c a j=>
  intro outs h;obtain⟨b,m,s⟩:=c;cases outs with
  |nil=>exact h.elim
  |cons o os=>
   obtain⟨e,f,g⟩:=h;simp only[outsOf,i _ _ e,f,and_self,if_true,j os g,Zz]
theorem c9a{cx:Cx}{b:Bool}{A:Asr}{rs:List ResultVar}{a:List Cid}{res:AV}{outs:List (List AV)}
 (h:wpW (CW cx) A (retAll cx.P b rs) fun us ws _=>U5 us=res/\a3u (puts A ws) a outs):RetA cx b rs a A res outs:=by
 intro st c;obtain⟨us,ws,ls,_,e,_,f,g⟩:=h st c;exact⟨us,ws,ls,e,g.run (c.puts ws) a outs,f⟩
section
variable{C:Caller}{A:Asr}
theorem a7c{v:AV}(b:immLeaf v=true){R:AV->Ws->List Mv.Loc->Prop}(a:R v [] []):wpW C A (a1j v) R:=by
 cases v with
 |clo f caps=>
  refine A5 (E7 b (C3 ?_));simpa using a
 |_=>first|exact C3 a|simp[immLeaf]at b
theorem d6z{id g s n:Nat}{es:List AV}(c:look A (.h id)=some (.obj g 0 s es))(b:n=es.length)(a:G3 es=true){R:AV->Ws->List Mv.Loc->Prop}(e:R (.own s es) [(.h id,.dead g)] [.h id]):
 wpW C A (a1j (.sl id g none 0 n)) R:=by
 subst b;unfold a1j;refine A5 (K3 c ?_);simp only[and_self,if_true];refine A5 (E7 ⟨Zd _,a⟩ (A5 (J5 (C3 ?_))));simpa using e
theorem c6u{v:AV}(a:(immLeaf v&& !K7 v)=true){R:AV->Ws->List Mv.Loc->Prop}(b:R v [] []):wpW C A (a5d v) R:=by
 simp only[Zx,Bool.not_eq_true']at a;have e:a5d v=a1j v:=by
  unfold a5d;split
  ·simp[immLeaf]at a
  ·simp[K7]at a
  ·rfl
 rw[e];exact a7c a.1 b
theorem c5n{b:Bool}{v:AV}(a:(immLeaf v&& !K7 v)=true){R:AV->Ws->List Mv.Loc->Prop}(c:R v [] []):wpW C A (retLf b v) R:=by
 unfold retLf;split
 ·exact c6u a c
 ·rw[Zx]at a
  exact a7c a.1 c
theorem c3s{b:Bool}{R:List AV->Ws->List Mv.Loc->Prop}:∀(fs:List AV),(fs.all fun l=>immLeaf l&& !K7 l)=true->R fs [] []->wpW C A (retLeaves b fs) R:=by
 intro fs
 induction fs generalizing R with
 |nil=>exact fun _ a=>C3 a
 |cons v fs c=>
  intro h a;rw[List.all_cons,Zx]at h;exact A5 (c5n h.1 (A5 (c h.2 (C3 (by simpa using a)))))
theorem e2x{b:Bool}{v:AV}(a:∀fs,v≠.agg fs)(c:∀id g i j,v≠.ptr id g none i j):ret1 b v=a1j v:=by
 unfold ret1;split
 ·exact(a _ U).elim
 ·exact(c _ _ _ _ U).elim
 ·rfl
theorem d6n{v:AV}(a:∀fs,v≠.agg fs)(h:L0 v=true):immLeaf v=true:=by
 unfold L0 at h;split at h
 ·exact(a _ U).elim
 ·exact h
theorem e5b{v:AV}(a:∀fs,v≠.agg fs)(h:d8y v=true):immLeaf v=true:=by
 unfold d8y at h;split at h
 ·exact(a _ U).elim
 ·exact h
theorem c2d{b:Bool}{v:AV}(l:d8y v=true){R:AV->Ws->List Mv.Loc->Prop}(k:R v [] []):wpW C A (ret1 b v) R:=by
 by_cases h:∃a,v= .agg a
 ·obtain⟨a,rfl⟩:=h
  exact A5 (c3s a l (C3 (by simpa using k)))
 ·have c:∀a,v≠.agg a:=fun a e=>h ⟨a,e⟩
  have f:=e5b c l;rw[e2x c (fun id g i j e=>by subst e;simp[immLeaf]at f)];exact a7c f k
theorem b5v{b:Bool}{id g s n:Nat}{es:List AV}(e:look A (.h id)=some (.obj g 0 s es))(c:n=es.length)(a:G3 es=true){R:AV->Ws->List Mv.Loc->Prop}(f:R (.own s es) [(.h id,.dead g)] [.h id]):
 wpW C A (ret1 b (.sl id g none 0 n)) R:=d6z e c a f
theorem a5j{P:Program}{b:Bool}{t:Nat}{v:AV}(c:look A (.t t)=some v){R:AV->Ws->List Mv.Loc->Prop}(h:wpW C A (ret1 b v) fun a ws ls=>R a ws (.t t::ls)):wpW C A (retVar P b (.tmp t)) R:=by
 unfold retVar;refine A5 (I4 ?_);rw[b4m c];refine H7 h fun a ws ls h=> ?_
 simpa using h
theorem a8t{P:Program}{b:Bool}{r:ResultVar}{rs:List ResultVar}{R:List AV->Ws->List Mv.Loc->Prop}(h:wpW C A (retVar P b r) fun a ws ls=>wpW C (puts A ws) (retAll P b rs) fun us e c=>R (a::us) (ws++e) (ls++c)):
 wpW C A (retAll P b (r::rs)) R:=by
 refine A5 (H7 h fun a ws ls h=>A5 (H7 h fun us e c h=>C3 ?_));simpa using h
end
theorem M1{cx:Cx}{b:Bool}{A:Asr}{t:Nat}{v:AV}(f:look A (.t t)=some v)(c:d8y v=true){a:List Cid}{outs:List (List AV)}(e:a3u A a outs):RetA cx b [.tmp t] a A v outs:=
 c9a (a8t (a5j f (c2d c (C3 ⟨U,e⟩))))
theorem e0g{cx:Cx}{b:Bool}{A:Asr}{t id g s n:Nat}{es:List AV}(j:look A (.t t)=some (.sl id g none 0 n))(c:look A (.h id)=some (.obj g 0 s es))(f:n=es.length)(e:G3 es=true)
 {a:List Cid} {outs:List (List AV)} (i:a3u (put A (.h id) (.dead g)) a outs):RetA cx b [.tmp t] a A (.own s es) outs:=
 c9a (a8t (a5j j (b5v c f e (C3 ⟨U,i⟩))))
theorem b2d{cx:Cx}{b:Bool}{A:Asr}{a:List Cid}{outs:List (List AV)}(c:a3u A a outs):RetA cx b [] a A (.tup []) outs:=
 c9a (C3 ⟨U,c⟩)
theorem C2{cx:Cx}{b:Bool}{A:Asr}{t:Nat}{v res:AV}(f:look A (.t t)=some v)(c:d8y v=true){a:List Cid}{outs:List (List AV)}(e:a3u A a outs)(he:v=res):RetA cx b [.tmp t] a A res outs:=by
 subst he;exact M1 f c e
theorem I6{cx:Cx}{b:Bool}{A:Asr}{t id g s n:Nat}{es:List AV}{res:AV}(j:look A (.t t)=some (.sl id g none 0 n))(c:look A (.h id)=some (.obj g 0 s es))(f:n=es.length)(e:G3 es=true)
 {a:List Cid} {outs:List (List AV)} (i:a3u (put A (.h id) (.dead g)) a outs) (he: .own s es=res):RetA cx b [.tmp t] a A res outs:=by
 subst he;exact e0g j c f e i
def J7:Asr->Ws->Asr
 |A,[]=>A
 |A,x::r=>J7 (x::A) r
theorem f1c{A B:Asr}(h:∀k,look A k=look B k)(l:Mv.Loc)(a:AV):∀k,look (put A l a) k=look ((l,a)::B) k:=by
 intro k;rw[P4];simp only[look,<-h k];cases Loc.beq k l<;>rfl
theorem d7i(ws:Ws):∀(A B:Asr),(∀k,look A k=look B k)->∀k,look (puts A ws) k=look (J7 B ws) k:=by
 induction ws with
 |nil=>exact fun A B h=>h
 |cons x ws b=>
  intro A B h;obtain⟨l,a⟩:=x;exact b _ _ (f1c h l a)
theorem b1l(A:Asr)(ws:Ws):Wk (puts A ws) (J7 A ws):=fun k a h=>by rw[d7i ws A A fun _=>rfl];exact h
def opds(A:Asr):List Operand->Option (List AV)
 |[]=>some []
 |x::r=>match opd A x with
  |some v=>(opds A r).map (v:: ·)
  |none=>none
def a3d(l:List Operand):List Mv.Loc:=l.flatMap rds
section
variable{cx:Cx}{keep:List Nat}{ops0:Array Oper}{r:List Oper}{A:Asr}{Q:Asr->List Log->Prop}{d:Nat}{ty:Nat}{pos:String}{aft:Array Edge}
theorem c1k{C:Caller}:∀(xs:List Operand) {vs:List AV},opds A xs=some vs->∀(R:List AV->List Mv.Loc->Prop),R vs (a3d xs)->wpA C A (rdOs xs) R:=by
 intro xs
 induction xs with
 |nil=>intro vs h R a;simp only[opds,Zb]at h;subst h;exact a
 |cons x xs e=>
  intro vs h R a;simp only[opds]at h;split at h
  ·rename_i v c
   simp only[Zf]at h;obtain⟨us,b,rfl⟩:=h;simp only[rdOs,E3,E5 c];refine e b _ ?_;simp only[F4,Zm];exact a
  ·cases h
def N0(C:Caller)(A:Asr)(md:Nat)(v a:AV)(ids:List (Nat×Bool))(ws:Ws)(ls:List Mv.Loc):Prop:=
 wpW C A (a4o md v) fun x w l=>x=(a,ids)/\w=ws/\l=ls
def a9j(C:Caller)(A:Asr)(md:Nat->Nat)(i:Nat)(vs as:List AV)(ids:List (Nat×Bool))(ws:Ws)(ls:List Mv.Loc):Prop:=
 wpW C A (passAll md i vs) fun x w l=>x=(as,ids)/\w=ws/\l=ls
theorem C8{C:Caller}{md:Nat->Nat}{i:Nat}:a9j C A md i [] [] [] [] []:=C3 ⟨rfl,rfl,rfl⟩
theorem B0{C:Caller}{md:Nat->Nat}{i:Nat}{v a:AV}{vs as:List AV}{ids b:List (Nat×Bool)}{ws e:Ws}{ls c:List Mv.Loc}(h:N0 C A (md i) v a ids ws ls)
 (t:a9j C (puts A ws) md (i+1) vs as b e c):a9j C A md i (v::vs) (a::as) (ids++b) (ws++e) (ls++c):=by
 refine A5 (H7 h ?_);rintro _ _ _ ⟨rfl,rfl,rfl⟩;refine A5 (H7 t ?_);rintro _ _ _ ⟨rfl,rfl,rfl⟩;exact C3 ⟨U,by simp,by simp⟩
def X7:AV->Bool
 | .val _=>true
 | .list _=>true
 | .ifc=>true
 | .ipt _ _=>true
 | .clo _ []=>true
 | .agg a=>a.all fun l=>match l with
  | .val _=>true
  | .list _=>true
  | .clo _ []=>true
  | .ifc=>true
  |_=>false
 |_=>false
theorem b4r{C:Caller}:∀(fs:List AV),(fs.all fun l=>match l with
 | .val _=>true
 | .list _=>true
 | .clo _ []=>true
 | .ifc=>true
 |_=>false)=true->∀(R:List AV->List Mv.Loc->Prop),R fs []->wpA C A (passLeaves fs) R:=by
 intro fs
 induction fs with
 |nil=>intro _ R a;exact a
 |cons f fs c=>
  intro h R a;simp only[List.all_cons,Zx]at h;simp only[passLeaves,E3];have b:∀(R:AV->List Mv.Loc->Prop),R f []->wpA C A (passLeaf f) R:=by
   intro R a;have:=h.1;cases f with
   |clo k caps=>cases caps with
    |nil=>exact a
    |cons=>simp at this
   |_=>first|exact a|simp at this
  refine b _ (c h.2 _ ?_);simp only[F4,Zm];exact a
theorem b5z{b:Bool}:∀(fs:List AV),(fs.all fun l=>match l with
 | .val _=>true
 | .list _=>true
 | .clo _ []=>true
 | .ifc=>true
 |_=>false)=true->slIds b fs=[]:=by
 intro fs
 induction fs with
 |nil=>intro _;rfl
 |cons f fs a=>
  intro h;simp only[List.all_cons,Zx]at h;have:=a h.2;unfold slIds at this|-;rw[List.filterMap_cons];cases f<;>simp at h<;>exact this
theorem b2w{C:Caller}:∀(fs:List AV),(fs.all fun l=>match l with
 | .val _=>true
 | .list _=>true
 | .clo _ []=>true
 | .ifc=>true
 |_=>false)=true->∀{A:Asr} (R:List AV->Ws->List Mv.Loc->Prop),R fs [] []->wpW C A (keepLeaves fs) R:=by
 intro fs
 induction fs with
 |nil=>intro _ A R a;exact C3 a
 |cons f fs c=>
  intro h A R a;simp only[List.all_cons,Zx]at h;have b:∀{A:Asr} (R:AV->Ws->List Mv.Loc->Prop),R f [] []->wpW C A (keepLeaf f) R:=by
   intro A R a;have:=h.1;cases f with
   |clo k caps=>cases caps with
    |nil=>exact I4 a
    |cons=>simp at this
   |_=>first|exact I4 a|simp at this
  refine A5 (b _ (A5 (c h.2 _ (C3 ?_))));simpa using a
theorem B2{C:Caller}{md:Nat}{v:AV}(h:X7 v=true):N0 C A md v v [] [] []:=by
 unfold N0 a4o;cases v with
 |val v=>
  refine A5 (I4 ?_);show wpW C (puts A []) (pure (AV.val v,([]:List (Nat×Bool)))) _;exact C3 ⟨U,U,U⟩
 |list es=>
  refine A5 (I4 ?_);show wpW C (puts A []) (pure (AV.list es,([]:List (Nat×Bool)))) _;exact C3 ⟨U,U,U⟩
 |ifc=>
  refine A5 (I4 ?_);show wpW C (puts A []) (pure (AV.ifc,([]:List (Nat×Bool)))) _;exact C3 ⟨U,U,U⟩
 |ipt e j=>exact C3 ⟨U,U,U⟩
 |clo f caps=>
  cases caps with
  |nil=>
   simp only;split
   ·exact A5 (C3 (C3 ⟨U,U,U⟩))
   ·split
    ·refine A5 (I4 ?_)
     show wpW C (puts A []) (pure (AV.clo f [],([]:List (Nat×Bool)))) _;exact C3 ⟨U,U,U⟩
    ·refine A5 (I4 ?_)
     show wpW C (puts A []) (pure (AV.clo f [],([]:List (Nat×Bool)))) _;exact C3 ⟨U,U,U⟩
  |cons=>simp[X7]at h
 |agg a=>
  simp only[X7]at h;simp only;split
  ·exact A5 (b2w a h _ (C3 ⟨by rw[b5z a h],U,U⟩))
  ·exact A5 (I4 (b4r a h _ (C3 ⟨by rw[b5z a h],U,U⟩)))
 |_=>simp[X7]at h
theorem e1u{C:Caller}{md:Nat}(h:md=0\/md=3):N0 C A md .nil (.list []) [] [] []:=by
 unfold N0 a4o;simp only[h,if_true];exact C3 ⟨U,U,U⟩
theorem b7d{C:Caller}{md id g m s n:Nat}{es:List AV}(a:md=0)(e:look A (.h id)=some (.obj g m s es))(b:bxB m none=false)(c:n=es.length)(f:G3 es=true):
 N0 C A md (.sl id g none 0 n) (.list (frzL es)) [(id,false)] [] [.h id]:=by
 subst a c;unfold N0 a4o;simp only[if_true];refine A5 (I4 ?_);simp only[passLeaf,slc,rdNode,E3,M6 e,F8,F4,b,Zm,Zi,ZX,Yl,f,ZI,Zd,and_self,true_and];exact C3 ⟨U,U,by simp⟩
theorem E6{α:Type}{f:α->AV}{xs:List α}{C:Caller}{md id g m s n:Nat}(c:md=0)(k:look A (.h id)=some (.obj g m s (xs.map f)))(i:bxB m none=false)(j:n=(xs.map f).length)(e:∀a,L0 (f a)=true):
 N0 C A md (.sl id g none 0 n) (.list (xs.map f)) [(id,false)] [] [.h id]:=by
 have l:G3 (xs.map f)=true:=A7 fun a=>by
  have:=e a;cases b:f a<;>rw[b]at this<;>simp_all[L0,L3]
 have:=b7d (C:=C) c k i j l;rwa[O3 e]at this
theorem a4q{C:Caller}{md id g m s n:Nat}{es:List AV}(a:md=1)(e:look A (.h id)=some (.obj g m s es))(hm:m≠2/\bxB m none=false)(c:n=es.length)(b:P5 es=true):
 N0 C A md (.sl id g none 0 n) (.own s es) [(id,true)] [] [.h id]:=by
 subst a c;unfold N0 a4o;simp only[show¬((1:Nat)=0)from by decide,if_false,if_true];refine A5 (K3 e ?_);simp only[b,Bool.true_eq_false,and_false,if_false];refine A5 (E7 (by simp[hm.1,hm.2]) (C3 ⟨U,U,by simp⟩))
theorem b1s{C:Caller}{md id g s n:Nat}{es:List AV}(a:md=2)(e:look A (.h id)=some (.obj g 0 s es))(c:n=es.length)(b:G3 es=true):
 N0 C A md (.sl id g none 0 n) (.own s es) [(id,true)] [(.h id,.dead g)] [.h id]:=by
 subst a c;unfold N0 a4o;simp only[show¬((2:Nat)=0)from by decide,show¬((2:Nat)=1)from by decide,if_false,if_true];refine A5 (K3 e (A5 (E7 (by simp[b]) (A5 (J5 (C3 ⟨?_,by simp,by simp⟩))))));simp
theorem f1i{C:Caller}{md id g s n:Nat}{es:List AV}(a:md=3)(e:look A (.h id)=some (.obj g 0 s es))(c:n=es.length)(b:G3 es=true):
 N0 C A md (.sl id g none 0 n) (.list (frzL es)) [(id,true)] [(.h id,.obj g 2 s (frzL es))] [.h id]:=by
 subst a c;unfold N0 a4o;simp only[show¬((3:Nat)=0)from by decide,show¬((3:Nat)=1)from by decide,show¬((3:Nat)=2)from by decide,if_false,freeze];refine A5 (A5 (K3 e (A5 (E7 (by simp[bxB]) ?_))));simp only[show¬((0:Nat)=2)from by decide,if_false];refine A5 (E7 (by simp[b]) (A5 (J5 (C3 (C3 ⟨?_,by simp,by simp⟩)))));have:(frzL es).take es.length=frzL es:=by rw[<-U8 es,Yl]
 simp[this]
def d9j(C:Caller)(A:Asr)(T:List Tg)(outs:List (List AV))(ws:Ws)(ls:List Mv.Loc):Prop:=wpW C A (a2h T outs) fun _ w l=>w=ws/\l=ls
theorem B6{C:Caller}:d9j C A [] [] [] []:=C3 ⟨rfl,rfl⟩
theorem a2s{C:Caller}{id g m s:Nat}{es o:List AV}{T:List Tg}{outs:List (List AV)}{ws:Ws}{ls:List Mv.Loc}(a:look A (.h id)=some (.obj g m s es))(c:o.length=es.length)(e:nilFit es o=true)
 (h:d9j C (puts A [(.h id,.obj g m s o)]) T outs ws ls):d9j C A ((id,g,none)::T) (o::outs) ((.h id,.obj g m s o)::ws) (.h id:: .h id::ls):=by
 unfold d9j a2h;refine A5 ?_;unfold b2o;refine A5 (K3 a (A5 (E7 ⟨c,e⟩ (A5 (I4 ?_)))));simp only[wrNode,M6 a,F4];have b:look (puts (puts A []) []) (.h id)=some (.obj g m s es):=a;rw[M6 b];simp only[F4];refine J5 (H7 h ?_);rintro _ _ _ ⟨rfl,rfl⟩;exact⟨by simp,by simp⟩
def b1q(C:Caller)(A:Asr)(d:Nat)(res:AV){G:Type}(v:G->AV)(ws:G->Ws)(ls:List Mv.Loc):Prop:=wpW C A (d7u d res) fun a w l=>∃g,a=v g/\w=ws g/\l=ls
theorem b1n{C:Caller}{id:Nat}{v:AV}(h:immLeaf v=true){R:AV->Ws->List Mv.Loc->Prop}(a:R v [] []):wpW C A (a0s id v) R:=by
 cases v with
 |clo f caps=>cases caps with
  |nil=>exact C3 a
  |cons c cs=>
   refine A5 (E7 h (C3 ?_));simpa using a
 |_=>first|exact C3 a|simp[immLeaf]at h
theorem c1i{C:Caller}{d:Nat}:∀(fs:List AV) (k:Nat) {A:Asr},fs.all immLeaf=true->∀{R:List AV->Ws->List Mv.Loc->Prop},R fs [] []->wpW C A (a1g d k fs) R:=by
 intro fs
 induction fs with
 |nil=>intro k A _ R a;exact C3 a
 |cons f fs b=>
  intro k A h R a;simp only[List.all_cons,Zx]at h;refine A5 (b1n h.1 (A5 (b (k+1) h.2 (C3 ?_))));simpa using a
theorem d8s{d k:Nat}{v:AV}(a:∀fs,v≠.agg fs)(b:∀es i j,v≠.ownp es i j):inst1 d k v=a0s (tid d k) v:=by
 unfold inst1;split
 ·exact(a _ U).elim
 ·exact(b _ _ _ U).elim
 ·rfl
theorem b4l{C:Caller}{d k:Nat}{v:AV}(h:L0 v=true){R:AV->Ws->List Mv.Loc->Prop}(f:R v [] []):wpW C A (inst1 d k v) R:=by
 by_cases he:∃a,v= .agg a
 ·obtain⟨a,rfl⟩:=he
  refine A5 (c1i a _ (by simpa[L0]using h) (C3 ?_));simpa using f
 ·have b:∀a,v≠.agg a:=fun a e=>he ⟨a,e⟩
  have c:=d6n b h;rw[d8s b (fun es i j e=>by subst e;simp[immLeaf]at c)];exact b1n c f
theorem b1m{C:Caller}{d k s:Nat}{es:List AV}{R:AV->Ws->List Mv.Loc->Prop}(a:∀g,R (.sl (tid d k) g none 0 es.length) [(.h (tid d k),.obj g 0 s es)] [.h (tid d k)]):wpW C A (inst1 d k (.own s es)) R:=by
 show wpW C A (a0s (tid d k) (.own s es)) R;refine A5 (M8 fun o=>A5 (J5 (C3 ?_)));have:=a (I0 o+1);simpa using this
theorem d4a{d:Nat}{v:AV}(h:∀vs,v≠.tup vs):d7u d v=inst1 d 0 v:=by
 unfold d7u;split
 ·exact(h _ U).elim
 ·rfl
theorem F7{C:Caller}{d:Nat}{v:AV}(h:L0 v=true):b1q C A d v (fun _:Unit=>v) (fun _=>[]) []:=by
 unfold b1q;rw[d4a (fun vs e=>by subst e;simp[L0,immLeaf]at h)];exact b4l h ⟨(),U,U,U⟩
theorem G6{C:Caller}{d s:Nat}{es:List AV}:b1q C A d (.own s es) (fun g:Nat=> .sl (tid d 0) g none 0 es.length) (fun g=>[(.h (tid d 0),.obj g 0 s es)]) [.h (tid d 0)]:=by
 unfold b1q;rw[d4a (fun vs e=>by cases e)];exact b1m fun g=>⟨g,U,U,U⟩
theorem b1v{C:Caller}{d:Nat}:∀(vs:List AV) (k:Nat) {A:Asr},vs.all L0=true->∀{R:List AV->Ws->List Mv.Loc->Prop},R vs [] []->wpW C A (instAll d k vs) R:=by
 intro vs
 induction vs with
 |nil=>intro k A _ R a;exact C3 a
 |cons f c b=>
  intro k A h R a;simp only[List.all_cons,Zx]at h;refine A5 (b4l h.1 (A5 (b (k+16) h.2 (C3 ?_))));simpa using a
theorem I7{C:Caller}{d:Nat}{vs:List AV}(h:vs.all L0=true):b1q C A d (.tup vs) (fun _:Unit=> .tup vs) (fun _=>[]) []:=by
 refine A5 (b1v vs 16 h (C3 ⟨(),U,U,U⟩))
theorem e1f{G:Type}{o:Oper}(e:o.guard=none){v:G->AV}{ws:G->Ws}{ls:List Mv.Loc}{A1:G->Asr}(h:wpW (CW cx) A (aopV cx o) fun a w l=>∃g,a=v g/\w=ws g/\l=ls)
 (f:∀g,tRefsOk keep (keptWs keep (ws g++setD o (v g)))=true) (c:∀g,Wk (puts A (ws g++setD o (v g))) (A1 g))
 (i:∀g,XR cx keep ops0 r (A1 g) fun b j=>Q b ((ls,V8 (ws g++setD o (v g)))::j)):XR cx keep ops0 (o::r) A Q:=by
 refine a8w ?_;have:U7 cx ops0 o=aop cx o:=by unfold U7;simp only[e]
 rw[this];unfold aop;refine A5 (H7 h ?_);rintro _ _ _ ⟨g,rfl,rfl,rfl⟩;refine J5 ?_;simp only[Zm];exact⟨f g,XR.wk (c g) (i g)⟩
theorem a0z{G:Type}{k:Nat}{args:Array Operand}{f:Array Nat}{vs as:List AV}{ids:List (Nat×Bool)}{wp a:Ws}{c lb li:List Mv.Loc}{res:AV}{outs:List (List AV)}{v:G->AV}{b:G->Ws}
 (s:opds A args.toList=some vs) (q:a9j (CW cx) A (cx.md k) 0 vs as ids wp c) (i:CW cx k as=some (res,outs))
 (l:apartIds ids=true/\nodupB ((a1w (cx.md k) 0 vs).map (·.1))=true/\nodupB ((cidAll (cx.md k) 0 as).map (·.1))=true/\as.length<=1000/\a2x as=true)
 (p:ids.all (fun x=>x.2)=true\/(hasList res=false/\outs.any G1=false))
 (j:d9j (CW cx) (puts A wp) (a1w (cx.md k) 0 vs) outs a lb) (m:b1q (CW cx) (puts (puts A wp) a) d res v b li)
 (o:∀g,tRefsOk keep (keptWs keep (wp++(a++(b g++[(.t d,v g)]))))=true)
 (h:∀g,XR cx keep ops0 r (J7 A (wp++(a++(b g++[(.t d,v g)])))) fun e u=>Q e ((a3d args.toList++(c++(lb++li)),V8 (wp++(a++(b g++[(.t d,v g)]))))::u)):
 XR cx keep ops0 (⟨some d,.call ⟨.value (.func k),args,f⟩,ty,pos,aft,none⟩::r) A Q:=by
 refine e1f (G:=G) (v:=v) (ws:=fun g=>wp++(a++b g)) (ls:=a3d args.toList++(c++(lb++li))) U ?_ (fun g=> ?_) (fun g=> ?_) (fun g=> ?_) (A1:=fun g=>J7 A (wp++(a++(b g++[(.t d,v g)]))))
 ·simp only[aopV]
  refine A5 (J6 (v:= .clo k []) U (A5 (I4 (c1k _ s _ ?_))));simp only[d2v,Zm];refine A5 (H7 q ?_);rintro _ _ _ ⟨rfl,rfl,rfl⟩;refine A5 (E7 l (A5 (I4 ?_)));refine⟨res,outs,i,?_⟩;refine A5 (E7 p (A5 (H7 j ?_)));rintro _ _ _ ⟨rfl,rfl⟩;refine H7 m ?_;rintro _ _ _ ⟨g,rfl,rfl,rfl⟩;exact⟨g,U,by simp,by simp[rds]⟩
 ·have:=o g
  simpa[setD]using this
 ·have:=b1l A (wp++(a++(b g++[(.t d,v g)])))
  simpa[setD]using this
 ·have:=h g
  simpa[setD]using this
end
section
variable{cx:Cx}{keep:List Nat}{ops0:Array Oper}{r:List Oper}{A:Asr}{Q:Asr->List Log->Prop}{d:Nat}{ty:Nat}{pos:String}{aft:Array Edge}
def T2(cur v:AV):Bool:=match v with
 | .val v=>c1p v
 | .clo _ cs=>cs.all a3m
 | .list _=>true
 | .nil=>K7 cur
 |_=>false
def a9n:List AV->List AV->Bool
 |_,[]=>true
 |cs,v::vs=>T2 (cs.headD .undef) v&&a9n cs.tail vs
def b6n(cs:List AV)(v:AV):Bool:=match v with
 | .agg a=>a9n cs a
 |v=>T2 (cs.headD .undef) v
theorem a7b{C:Caller}{m f:Nat}{cur v:AV}(hm:m≠2)(h:T2 cur v=true){R:AV->Ws->List Mv.Loc->Prop}(a:R v [] []):wpW C A (K0 m cur f v) R:=by
 unfold K0;cases v with
 |val v=>exact A5 (E7 h (C3 a))
 |clo k caps=>
  refine A5 (E7 h (C3 ?_));simpa using a
 |list es=>exact C3 a
 |nil=>
  cases cur<;>simp[T2,K7]at h
  simp only[hm,if_false];exact C3 a
 |_=>simp[T2]at h
theorem c3r{C:Caller}{m f:Nat}(hm:m≠2):∀(vs cs:List AV) (j:Nat) {A:Asr},a9n cs vs=true->∀{R:List AV->Ws->List Mv.Loc->Prop},R vs [] []->wpW C A (absorbLeaves m f j cs vs) R:=by
 intro vs
 induction vs with
 |nil=>intro cs j A _ R a;exact C3 a
 |cons v vs b=>
  intro cs j A h R a;simp only[a9n,Zx]at h;refine A5 (a7b hm h.1 (A5 (b cs.tail (j+1) h.2 (C3 ?_))));simpa using a
theorem c6r{C:Caller}{m f j:Nat}{cs:List AV}{v:AV}(hm:m≠2)(h:b6n cs v=true){R:AV->Ws->List Mv.Loc->Prop}(c:R v [] []):wpW C A (absorb m f j cs v) R:=by
 by_cases he:∃a,v= .agg a
 ·obtain⟨a,rfl⟩:=he
  refine A5 (c3r hm a cs j h (C3 ?_));simpa using c
 ·have b:∀a,v≠.agg a:=fun a e=>he ⟨a,e⟩
  have g:absorb m f j cs v=K0 m (cs.headD .undef) (fid f j) v:=by
   unfold absorb;split
   ·exact(b _ U).elim
   ·rfl
  have i:b6n cs v=T2 (cs.headD .undef) v:=by
   unfold b6n;split
   ·exact(b _ U).elim
   ·rfl
  rw[g];rw[i]at h;exact a7b hm h c
def a0n(P:Program)(T:Nat):Option (AV×Nat):=
 if(leaves (tyS P T).zero).length=(tyS P T).size/\O1 (tyS P T).zero=true then some ((tyS P T).zero,(tyS P T).size)else none
theorem V4{P:Program}{T s:Nat}{z:AV}(h:a0n P T=some (z,s)):(tyS P T).zero=z/\(tyS P T).size=s/\(leaves (tyS P T).zero).length=(tyS P T).size/\O1 (tyS P T).zero=true:=by
 unfold a0n at h;split at h
 ·rename_i a
  cases h;exact⟨U,U,a.1,a.2⟩
 ·cases h
theorem f0i{T s:Nat}{z:AV}(j:a0n cx.P T=some (z,s))(a:∀g,slotOk keep (.h d) (.obj g 3 s [z])=true)(k:∀g,slotOk keep (.t d) (.ptr d g none 0 0)=true)
 (h:∀g,XR cx keep ops0 r ((.t d,.ptr d g none 0 0)::(.h d,.obj g 3 s [z])::A) fun b l=>Q b (([.h d],[.h d,.t d])::l)):XR cx keep ops0 (⟨some d,.alloc T,ty,pos,aft,none⟩::r) A Q:=by
 obtain⟨c,e,f,i⟩:=V4 j;refine a4l (v:=fun g=> .ptr d g none 0 0) (ws:=fun g=>[(.h d,.obj g 3 s [z])]) (ls:=[.h d]) U ?_ (fun g=>C7 (a g) (I1 (k g))) (fun g=>U) (fun g=>a2k _ _ _ _ _) h;simp only[aopV,dstOf];refine A5 (I4 (show wpA (CW cx) A (.ret d) _ from ?_));show wpW (CW cx) (puts A []) _ _;refine A5 (M8 fun o=>A5 (E7 ⟨f,i⟩ (A5 (J5 (C3 ?_)))));exact⟨I0 o+1,U,by simp[c,e],by simp⟩
theorem P3{T s:Nat}{x:Operand}{v:AV}(i:opd A x=some v)(e:b6n ((leaves v).map fun _=>AV.nil) v=true)(f:(leaves v).length=s)(a:∀g,slotOk keep (.h d) (.obj g 3 s [v])=true)(c:∀g,slotOk keep (.t d) (.ptr d g none 0 0)=true)
 (h:∀g,XR cx keep ops0 r ((.t d,.ptr d g none 0 0)::(.h d,.obj g 3 s [v])::A) fun b j=>Q b ((rds x++[.h d],[.h d,.t d])::j)):XR cx keep ops0 (⟨some d,.box T x,ty,pos,aft,none⟩::r) A Q:=by
 refine a4l (v:=fun g=> .ptr d g none 0 0) (ws:=fun g=>[(.h d,.obj g 3 s [v])]) (ls:=rds x++[.h d]) U ?_ (fun g=>C7 (a g) (I1 (c g))) (fun g=>U) (fun g=>a2k _ _ _ _ _) h;simp only[aopV,dstOf];refine A5 (I4 (show wpA (CW cx) A (.ret d) _ from ?_));show wpW (CW cx) (puts A []) _ _;refine A5 (J6 i (A5 (c6r (by decide) e (A5 (M8 fun o=>A5 (J5 (C3 ?_)))))));exact⟨I0 o+1,U,by simp[f],by simp⟩
def fillF(A:Asr)(s:Nat)(es:List AV):List (Nat×Operand)->Option (List AV)
 |[]=>some es
 |(i,x)::r=>match opd A x with
  |some v=>if(leaves v).length=s/\i<es.length/\b6n (ZN s .nil) v=true then fillF A s (es.set i v) r else none
  |none=>none
theorem e9c{C:Caller}{mk s:Nat}(hm:mk≠2):∀(ps:List (Nat×Operand)) (es:List AV) {b:List AV},fillF A s es ps=some b->∀{R:List AV->Ws->List Mv.Loc->Prop},R b [] (a3d (ps.map (·.2)))->wpW C A (a0q mk s es ps) R:=by
 intro ps
 induction ps with
 |nil=>intro es b h R e;simp only[fillF,Zb]at h;subst h;exact C3 e
 |cons p ps g=>
  intro es b h R e;obtain⟨i,x⟩:=p;simp only[fillF]at h;split at h
  ·rename_i v f
   split at h
   ·rename_i c
    refine A5 (J6 f (A5 (E7 ⟨c.1,c.2.1⟩ (A5 (c6r hm c.2.2 ?_)))));refine H7 (g _ h (R:=fun a w l=>a=b/\w=[]/\l=a3d (ps.map (·.2))) ⟨U,U,U⟩) ?_;rintro _ _ _ ⟨rfl,rfl,rfl⟩;simpa[a3d]using e
   ·cases h
  ·cases h
theorem C0{T n E s:Nat}{ps:Array (Nat×Operand)}{z:AV}{es:List AV}(l:Q2 cx.P T=some (E,s))(q:a0n cx.P E=some (z,s))(e:n*s<=16777216/\0<s)(m:fillF A s (ZN n z) ps.toList=some es)(x:es.length=n)
 (c:∀g,slotOk keep (.h (tid d 0)) (.obj g 0 s es)=true) (p:∀g,slotOk keep (.t d) (.sl (tid d 0) g none 0 n)=true)
 (h:∀g,XR cx keep ops0 r ((.t d,.sl (tid d 0) g none 0 n)::(.h (tid d 0),.obj g 0 s es)::A) fun f u=>Q f ((a3d (ps.toList.map (·.2))++[.h (tid d 0)],[.h (tid d 0),.t d])::u))
 (b:cx.fzB T d=false:=by rfl):
 XR cx keep ops0 (⟨some d,.buildSlice T n ps,ty,pos,aft,none⟩::r) A Q:=by
 obtain⟨i,a,j,k⟩:=V4 q;refine a4l (v:=fun g=> .sl (tid d 0) g none 0 n) (ws:=fun g=>[(.h (tid d 0),.obj g 0 s es)]) (ls:=a3d (ps.toList.map (·.2))++[.h (tid d 0)]) U ?_ (fun g=>C7 (c g) (I1 (p g))) (fun g=>U) (fun g=>a2k _ _ _ _ _) h;simp only[aopV,dstOf];refine A5 (I4 (show wpA (CW cx) A (.ret d) _ from ?_));show wpW (CW cx) (puts A []) _ _;refine A5 (T4 l (A5 (E7 ⟨by rw[a];exact e.1,j,k,by rw[a];exact e.2⟩ ?_)));simp only[i,a,b,ZY,if_false];refine A5 (e9c (by decide) ps.toList _ m (A5 (M8 fun o=>A5 (J5 (C3 ?_)))));exact⟨I0 o+1,U,by simp,by simp⟩
theorem Z5{α:Type}{f:α->AV}{x0:α}{T E s:Nat}{l c:Operand}{k k':IntKind}{n:Int}{z:AV}(G:opd A l=some (.val (.int k n)))(x:opd A c=some (.val (.int k' n)))(u:Q2 cx.P T=some (E,s))(H:a0n cx.P E=some (z,s))(y:z=f x0)
 (b:0<=n/\n.toNat<=H6) (i:(tyS cx.P E).bytes<=4096/\0<s) (a:∀g,slotOk keep (.h (tid d 0)) (.obj g 0 s ((ZN n.toNat x0).map f))=true) (B:∀g,slotOk keep (.t d) (.sl (tid d 0) g none 0 n.toNat)=true)
 (h:∀g,XR cx keep ops0 r ((.t d,.sl (tid d 0) g none 0 n.toNat)::(.h (tid d 0),.obj g 0 s ((ZN n.toNat x0).map f))::A) fun j I=>Q j ((rds l++(rds c++[.h (tid d 0)]),[.h (tid d 0),.t d])::I)):
 XR cx keep ops0 (⟨some d,.makeSlice T l c,ty,pos,aft,none⟩::r) A Q:=by
 obtain⟨m,e,p,q⟩:=V4 H;refine a4l (v:=fun g=> .sl (tid d 0) g none 0 n.toNat) (ws:=fun g=>[(.h (tid d 0),.obj g 0 s ((ZN n.toNat x0).map f))]) (ls:=rds l++(rds c++[.h (tid d 0)])) U ?_ (fun g=>C7 (a g) (I1 (B g))) (fun g=>U) (fun g=>a2k _ _ _ _ _) h;simp only[aopV,dstOf];refine A5 (I4 (show wpA (CW cx) A (.ret d) _ from ?_));show wpW (CW cx) (puts A []) _ _;refine A5 (J6 G (A5 (J6 x (A5 (I4 ?_)))));rw[W4 b.1];refine A5 (I4 ?_);rw[W4 b.1];refine A5 (T4 u (A5 (E7 ⟨U,b.2,i.1,p,q,by rw[e];exact i.2⟩ (A5 (M8 fun o=>A5 (J5 (C3 ?_)))))));exact⟨I0 o+1,U,by simp[m,e,y],by simp⟩
theorem a9h{α:Type}{f:α->AV}{xs:List α}(h:∀a,(leaves (f a)).all cellLeaf=true):b5w (xs.map f)=true:=by
 unfold b5w;rw[List.all_map,Zu];exact fun a _=>h a
theorem c8i{T T' E s id g n a g2 m:Nat}{x y:Operand}{es ys:List AV}{z:AV}(L:opd A x=some (.sl id g none 0 n))(M:opd A y=some (.sl a g2 none 0 m))(l:look A (.h id)=some (.obj g 0 s es))(i:look A (.h a)=some (.obj g2 0 s ys))
 (J:n=es.length) (f:m=ys.length) (hid:1000000<=a) (b:Loc.beq (.h id) (.h a)=false) (B:Q2 cx.P T=some (E,s)) (c:O5 (tyS cx.P T').k=true) (O:a0n cx.P E=some (z,s)) (G:(tyS cx.P E).bytes<=4096) (H:b5w ys=true)
 (hle:n+ys.length<=H6) (e:∀g,slotOk keep (.h (tid d 0)) (.obj g 0 s (es++ys))=true) (I:∀g,slotOk keep (.t d) (.sl (tid d 0) g none 0 (n+ys.length))=true)
 (h:∀g',XR cx keep ops0 r ((.t d,.sl (tid d 0) g' none 0 (n+ys.length))::(.h (tid d 0),.obj g' 0 s (es++ys))::(.h id,.dead g)::(.h a,.dead g2)::A) fun p R=>Q p ((rds x++(rds y++[.h a,.h id,.h (tid d 0)]),[.h a,.h id,.h (tid d 0),.t d])::R)):
 XR cx keep ops0 (⟨some d,.call ⟨.builtin .append,#[x,y],#[T,T']⟩,ty,pos,aft,none⟩::r) A Q:=by
 obtain⟨S,j,q,u⟩:=V4 O;subst J f;refine a4l (v:=fun g'=> .sl (tid d 0) g' none 0 (es.length+ys.length)) (ws:=fun g'=>[(.h a,.dead g2),(.h id,.dead g),(.h (tid d 0),.obj g' 0 s (es++ys))]) (ls:=rds x++(rds y++[.h a,.h id,.h (tid d 0)])) U ?_
  (fun g=>C7 (by simp[slotOk,refOkV]) (C7 (by simp[slotOk,refOkV]) (C7 (e g) (I1 (I g))))) (fun g=>U) (fun g=>f2n _ _ _ _ _ _ _ _ _) h
 simp only[aopV,dstOf];refine A5 (I4 (show wpA (CW cx) A (.ret d) _ from ?_));show wpW (CW cx) (puts A []) _ _;refine A5 (E7 c (A5 (J6 L (A5 (J6 M ?_)))));unfold a5z;refine A5 (T4 B (A5 (E7 ⟨G,q,u⟩ (A5 ?_))));simp only[d6y];refine A5 (K3 i (A5 (E7 j.symm ?_)));rw[if_pos (by simp[hid])];refine A5 (J5 (C3 ?_));refine A5 (E7 H ?_);have K:look (puts (puts A ([]++([]++([]++[(Mv.Loc.h a,AV.dead g2)]++[])))) []) (.h id)=some (.obj g 0 s es):=by
  show look (put A (.h a) (.dead g2)) (.h id)=_;rw[P4,b];simpa using l
 simp only;refine A5 (K3 (by
  show look (put A (.h a) (.dead g2)) (.h id)=_;rw[P4,b];simpa using l) (A5 (E7 ⟨U,Zd _,j.symm,hle⟩ (A5 (J5 (A5 (M8 fun o=>A5 (J5 (C3 ?_)))))))))
 exact⟨I0 o+1,U,by simp,by simp⟩
theorem c3p{T T' E s id g n:Nat}{x y:Operand}{es ys:List AV}{z:AV}(G:opd A x=some (.sl id g none 0 n))(H:opd A y=some (.list ys))(B:look A (.h id)=some (.obj g 0 s es))
 (u:n=es.length) (l:Q2 cx.P T=some (E,s)) (a:O5 (tyS cx.P T').k=true) (I:a0n cx.P E=some (z,s)) (m:(tyS cx.P E).bytes<=4096) (p:b5w ys=true) (c:a3a s ys=true)
 (hle:n+ys.length<=H6) (b:∀g,slotOk keep (.h (tid d 0)) (.obj g 0 s (es++ys))=true) (q:∀g,slotOk keep (.t d) (.sl (tid d 0) g none 0 (n+ys.length))=true)
 (h:∀g',XR cx keep ops0 r ((.t d,.sl (tid d 0) g' none 0 (n+ys.length))::(.h (tid d 0),.obj g' 0 s (es++ys))::(.h id,.dead g)::A) fun f J=>Q f ((rds x++(rds y++[.h id,.h (tid d 0)]),[.h id,.h (tid d 0),.t d])::J)):
 XR cx keep ops0 (⟨some d,.call ⟨.builtin .append,#[x,y],#[T,T']⟩,ty,pos,aft,none⟩::r) A Q:=by
 obtain⟨K,e,i,j⟩:=V4 I;subst u;refine a4l (v:=fun g'=> .sl (tid d 0) g' none 0 (es.length+ys.length)) (ws:=fun g'=>[(.h id,.dead g),(.h (tid d 0),.obj g' 0 s (es++ys))]) (ls:=rds x++(rds y++[.h id,.h (tid d 0)])) U ?_
  (fun g=>C7 (by simp[slotOk,refOkV]) (C7 (b g) (I1 (q g)))) (fun g=>U) (fun g=>a9m _ _ _ _ _ _ _) h
 simp only[aopV,dstOf];refine A5 (I4 (show wpA (CW cx) A (.ret d) _ from ?_));show wpW (CW cx) (puts A []) _ _;refine A5 (E7 a (A5 (J6 G (A5 (J6 H ?_)))));unfold a5z;refine A5 (T4 l (A5 (E7 ⟨m,i,j⟩ (A5 ?_))));simp only[d6y];refine A5 (I4 (show wpA (CW cx) _ (.ret ys) _ from ?_));show wpW (CW cx) _ _ _;refine A5 (E7 (by rw[e];exact c) (C3 ?_));refine A5 (E7 p ?_);refine A5 (K3 B (A5 (E7 ⟨U,Zd _,e.symm,hle⟩ (A5 (J5 (A5 (M8 fun o=>A5 (J5 (C3 ?_)))))))));exact⟨I0 o+1,U,by simp,by simp⟩
theorem c8j{T T' E s a g2 j:Nat}{x y:Operand}{ys:List AV}{z:AV}(H:opd A x=some .nil)(I:opd A y=some (.sl a g2 none 0 j))(f:look A (.h a)=some (.obj g2 0 s ys))
 (e:j=ys.length) (hid:1000000<=a) (q:Q2 cx.P T=some (E,s)) (b:O5 (tyS cx.P T').k=true) (J:a0n cx.P E=some (z,s)) (u:(tyS cx.P E).bytes<=4096) (B:b5w ys=true)
 (hle:ys.length<=H6) (c:∀g,slotOk keep (.h (tid d 0)) (.obj g 0 s ys)=true) (G:∀g,slotOk keep (.t d) (.sl (tid d 0) g none 0 ys.length)=true)
 (h:∀g',XR cx keep ops0 r ((.t d,.sl (tid d 0) g' none 0 ys.length)::(.h (tid d 0),.obj g' 0 s ys)::(.h a,.dead g2)::A) fun l K=>Q l ((rds x++(rds y++[.h a,.h (tid d 0)]),[.h a,.h (tid d 0),.t d])::K)):
 XR cx keep ops0 (⟨some d,.call ⟨.builtin .append,#[x,y],#[T,T']⟩,ty,pos,aft,none⟩::r) A Q:=by
 obtain⟨L,i,m,p⟩:=V4 J;subst e;refine a4l (v:=fun g'=> .sl (tid d 0) g' none 0 ys.length) (ws:=fun g'=>[(.h a,.dead g2),(.h (tid d 0),.obj g' 0 s ys)]) (ls:=rds x++(rds y++[.h a,.h (tid d 0)])) U ?_
  (fun g=>C7 (by simp[slotOk,refOkV]) (C7 (c g) (I1 (G g)))) (fun g=>U) (fun g=>a9m _ _ _ _ _ _ _) h
 simp only[aopV,dstOf];refine A5 (I4 (show wpA (CW cx) A (.ret d) _ from ?_));show wpW (CW cx) (puts A []) _ _;refine A5 (E7 b (A5 (J6 H (A5 (J6 I ?_)))));unfold a5z;refine A5 (T4 q (A5 (E7 ⟨u,m,p⟩ (A5 ?_))));simp only[d6y];refine A5 (K3 f (A5 (E7 i.symm ?_)));rw[if_pos (by simp[hid])];refine A5 (J5 (C3 ?_));refine A5 (E7 B ?_);simp only;refine A5 (E7 hle (A5 (M8 fun o=>A5 (J5 (C3 ?_)))));exact⟨I0 o+1,U,by simp[i],by simp⟩
theorem c7r{T id g m s i j:Nat}{a x:Operand}{es:List AV}{e v:AV}(q:opd A a=some (.ptr id g none i j))(t:opd A x=some v)(k:look A (.h id)=some (.obj g m s es))(he:es[i]? =some e)
 (l:b6n ((leaves e).drop j) v=true) (b:m≠2/\(leaves v).length=(tyS cx.P T).size/\0<(leaves v).length/\j+(leaves v).length<=(leaves e).length/\W7 (leaves v) ((leaves e).drop j)=true)
 (c:slotOk keep (.h id) (.obj g m s (es.set i (putAt e j v)))=true)
 (h:XR cx keep ops0 r ((.h id,.obj g m s (es.set i (putAt e j v)))::A) fun o u=>Q o ((rds a++(rds x++[.h id,.h id,.h id]),[.h id])::u)):
 XR cx keep ops0 (⟨none,.store T a x,ty,pos,aft,none⟩::r) A Q:=by
 have f:b5a v=false:=by
  cases v with
  |sl=>simp[b6n,T2]at l
  |_=>rfl
 refine d8a (v:= .undef) (ws:=[(.h id,.obj g m s (es.set i (putAt e j v)))]) (ls:=rds a++(rds x++[.h id,.h id,.h id])) U ?_ (I1 c) (b1z _ _ _) h;simp only[aopV];refine A5 (E7 (by simp) (A5 (J6 q (A5 (J6 t (A5 ?_))))));unfold b3d;rw[if_neg (by rw[f];decide)];unfold a6t;refine A5 (K3 k ?_);simp only[he,if_true];refine A5 (c6r (by simp[b.1]) l (A5 (K3 k ?_)));simp only[he];refine A5 (E7 (by simp[b.1,b.2.1,b.2.2.2.1,b.2.2.2.2];have:=b.2.2.1;omega) (A5 (I4 ?_)));simp only[wrNode];have p:puts (puts (puts (puts (puts (puts (puts A []) []) []) []) []) []) []=A:=rfl;rw[p,M6 k];simp only[F4];refine J5 (C3 ?_);exact⟨U,by simp,by simp⟩
theorem d4o{α:Type}[Inhabited α]{f:α->AV}{xs:List α}{y:α}{T id g m s i:Nat}{a x:Operand}(l:opd A a=some (.ptr id g none i 0))(q:opd A x=some (f y))(p:look A (.h id)=some (.obj g m s (xs.map f)))(c:i<xs.length)
 (o:∀a b,b6n (leaves (f b)) (f a)=true/\(leaves (f a)).length=(tyS cx.P T).size/\0<(leaves (f a)).length/\(leaves (f a)).length<=(leaves (f b)).length/\W7 (leaves (f a)) (leaves (f b))=true/\putAt (f b) 0 (f a)=f a) (hm:m≠2)
 (e:slotOk keep (.h id) (.obj g m s ((xs.set i y).map f))=true)
 (h:XR cx keep ops0 r ((.h id,.obj g m s ((xs.set i y).map f))::A) fun k t=>Q k ((rds a++(rds x++[.h id,.h id,.h id]),[.h id])::t)):
 XR cx keep ops0 (⟨none,.store T a x,ty,pos,aft,none⟩::r) A Q:=by
 obtain⟨u,v,z,B,E,G⟩:=o y (xs[i]'c);have he:(xs.map f)[i]? =some (f (xs[i]'c)):=by rw[ZE,Ze c];rfl
 have j:(xs.map f).set i (putAt (f (xs[i]'c)) 0 (f y))=(xs.set i y).map f:=by rw[G,List.map_set]
 refine c7r l q p he (by simpa using u) ⟨hm,v,z,by simpa using B,by simpa using E⟩ (by rw[j];exact e) ?_;rw[j];exact h
theorem b8i{k:Nat}{caps:Array Operand}{vs:List AV}(e:opds A caps.toList=some vs)(b:slotOk keep (.t d) (.clo k vs)=true)
 (h:XR cx keep ops0 r ((.t d,.clo k vs)::A) fun a f=>Q a ((a3d caps.toList,[.t d])::f)):XR cx keep ops0 (⟨some d,.makeFunc (.func k) #[] caps,ty,pos,aft,none⟩::r) A Q:=
 K2 (fun o c=>by simp only[aopV,c]) (by
  simp only[opV,E3,F8];refine⟨U,c1k _ e _ ?_⟩;simp only[F4,Zm,Zi,and_self]) b h
def partsF(A:Asr)(place:Nat->Option (Nat×Nat))(fs:List AV):List (Nat×Operand)->Option (List AV)
 |[]=>some fs
 |(i,x)::r=>match opd A x,place i with
  |some v,some (off,size)=>if O1 v=true/\(leaves v).length=size/\off+size<=fs.length then partsF A place (fs.take off++leaves v++fs.drop (off+size)) r else none
  |_,_=>none
theorem e2r{C:Caller}{place:Nat->Option (Nat×Nat)}:∀(ps:List (Nat×Operand)) (fs:List AV) {a:List AV},partsF A place fs ps=some a->∀{R:List AV->List Mv.Loc->Prop},R a (a3d (ps.map (·.2)))->wpA C A (Z9 place fs ps) R:=by
 intro ps
 induction ps with
 |nil=>intro fs a h R b;simp only[partsF,Zb]at h;subst h;exact b
 |cons p ps g=>
  intro fs a h R b;obtain⟨i,x⟩:=p;simp only[partsF]at h;split at h
  ·rename_i v off size f e
   split at h
   ·rename_i c
    simp only[Z9,E3,E5 f,e,F8];refine⟨c,g _ h ?_⟩;simpa[a3d]using b
   ·cases h
  ·cases h
theorem I3{T:Nat}{ps:Array (Nat×Operand)}{fl:List (Nat×Nat)}{a fs:List AV}(c:(tyS cx.P T).k= .struct fl)(m:(tyS cx.P T).zero= .agg a)(e:(fl.all fun f=> !P6 (tyS cx.P f.2).k)=true)
 (g:partsF A (fun i=>(fl[i]?).map fun f=>(f.1,(tyS cx.P f.2).size)) a ps.toList=some fs) (j:slotOk keep (.t d) (.agg fs)=true)
 (h:XR cx keep ops0 r ((.t d,.agg fs)::A) fun b p=>Q b ((a3d (ps.toList.map (·.2)),[.t d])::p)):XR cx keep ops0 (⟨some d,.build T ps,ty,pos,aft,none⟩::r) A Q:=
 K2 (fun o l=>by simp only[aopV,l]) (by
  simp only[opV,c6j,c,m,E3,F8];refine⟨e,e2r _ _ g ?_⟩;simp only[F4,Zm,Zi,and_self]) j h
end
abbrev oI(xs:List Int):AV:= .own 1 (xs.map iV)
theorem b1y(xs:List Int):L3 (oI xs)=true:=rfl
section
variable{cx:Cx}{keep:List Nat}{ops0:Array Oper}{r:List Oper}{A:Asr}{Q:Asr->List Log->Prop}{d:Nat}{ty:Nat}{pos:String}{aft:Array Edge}
theorem J9{C:Caller}{n:Nat}:wpA C A (optNat none n) fun m ls=>m=n/\ls=[]:=⟨rfl,rfl⟩
theorem a7m{C:Caller}{x:Operand}{k:IntKind}{n:Int}{dflt:Nat}(h:opd A x=some (.val (.int k n)))(a:0<=n):wpA C A (optNat (some x) dflt) fun m ls=>m=n.toNat/\ls=rds x:=by
 simp only[optNat,E3,E5 h,W4 a,Zm,and_self]
theorem B4{α:Type}[Inhabited α]{x i:Operand}{T E s:Nat}{f:α->AV}{xs:List α}{k:IntKind}{n:Nat}(j:opd A x=some (.list (xs.map f)))(e:opd A i=some (.val (.int k (n:Int))))
 (c:Q2 cx.P T=some (E,s)) (g:∀a,(leaves (f a)).length=s) (m:n<xs.length)
 (h:XR cx keep ops0 r ((.t d,.ipt (f (xs.getD n default)) 0)::A) fun b l=>Q b ((rds x++rds i,[.t d])::l)):XR cx keep ops0 (⟨some d,.indexAddr T x i,ty,pos,aft,none⟩::r) A Q:=
 J1 j e c g (by omega) (by rw[Int.toNat_natCast];exact h)
theorem C6{x i:Operand}{T E s id g m a n:Nat}{es:List AV}{k:IntKind}(o:opd A x=some (.sl id g none 0 a))(f:opd A i=some (.val (.int k (n:Int))))(l:look A (.h id)=some (.obj g m s es))
 (c:Q2 cx.P T=some (E,s)) (u:n<a) (q:a<=es.length) (j:slotOk keep (.t d) (.ptr id g none n 0)=true)
 (h:XR cx keep ops0 r ((.t d,.ptr id g none n 0)::A) fun b p=>Q b ((rds x++(rds i++[.h id]),[.t d])::p)):XR cx keep ops0 (⟨some d,.indexAddr T x i,ty,pos,aft,none⟩::r) A Q:=by
 have e:0+(n:Int).toNat=n:=by simp
 exact d8w o f l c (by omega) (by omega) (by rw[e];exact j) (by rw[e];exact h)
theorem getElem?_map_getD{α:Type}[Inhabited α]{f:α->AV}{xs:List α}{i:Nat}(a:i<xs.length):(xs.map f)[i]? =some (f (xs.getD i default)):=by
 rw[ZE,Ze a,Zc,Ze a];rfl
end
theorem B3{A:Asr}:a3u A [] []:=trivial
theorem N9{A:Asr}{a m s:Nat}{o:List AV}(h:look A (.h a)=some (.obj 1 m s o))(b:P5 o=true):a3u A [(a,m,s)] [o]:=⟨h,T8 b,trivial⟩
def FnP(cx:Cx)(b:Bool)(rs:List ResultVar)(a:List Cid)(P:AV->List (List AV)->Prop):AExit->Asr->Prop:=fun r A=>
 match r with
 | .exit _=>False
 |_=>∃res outs,P res outs/\RetA cx b rs a A res outs
theorem P9{cx:Cx}{f:Nat}{fn:Func}{c:Code}{as:List AV}{P:AV->List (List AV)->Prop}{keep:List Nat}(v:cx.ext f=none)(s:cx.P.funcs[f]? =some fn)(q:fn.body=some c)
 (b:O2 fn.ntmps c=true/\as.length=fn.params.size+fn.nfree/\as.length<=fn.ntmps/\as.length<=1000/\(fn.name== "runtime.NumGoroutine")=false) (t:D8 fn=keep)
 (h:XA cx keep c (c4g (cx.md f) 0 as) (FnP cx (cx.fz f) fn.results.toList (cidAll (cx.md f) 0 as) P)):∃res outs,P res outs/\CW cx f as=some (res,outs):=by
 subst t;obtain⟨n,r,x,l,k,m,a⟩:=h _ (d3x b.2.2.2.1);have key:(∃res outs,P res outs/\RetA cx (cx.fz f) fn.results.toList (cidAll (cx.md f) 0 as) k res outs)->(∀i,r≠.exit i)->∃res outs,P res outs/\CW cx f as=some (res,outs):=by
  rintro⟨res,outs,o,p⟩ u;refine⟨res,outs,o,c1a cx (n:=n) ?_⟩;obtain⟨us,ws,ls,g,j,rfl⟩:=p _ m;unfold a3c;simp only[v,s,q];rw[if_pos b,l];cases r with
  |exit i=>exact(u i U).elim
  |normal=>simp only[g,j]
  |ret=>simp only[g,j]
 cases r with
 |exit i=>exact a.elim
 |normal=>exact key a (by intro i e;cases e)
 |ret=>exact key a (by intro i e;cases e)
section
variable{cx:Cx}{keep:List Nat}{ops0:Array Oper}{r:List Oper}{A:Asr}{Q:Asr->List Log->Prop}{d:Nat}{ty:Nat}{pos:String}{aft:Array Edge}
theorem d7z{C:Caller}{f id g s n:Nat}{ys:List AV}(j:look A (.h id)=some (.obj g 0 s ys))(i:n=ys.length)(b:P5 ys=true){R:AV->Ws->List Mv.Loc->Prop}(k:R (.own s ys) [(.h id,.dead g)] [.h id]):
 wpW C A (K0 0 .nil f (.sl id g none 0 n)) R:=by
 subst i;have a:G3 ys=true:=by
  unfold G3;rw[Zu];intro e he;have c:L0 e=true:=Zu.1 b e he;cases e<;>simp_all[L0,L3]
 unfold K0;simp only[show¬((0:Nat)=3)from by decide,if_false,K7,and_self,if_true];refine A5 (K3 j ?_);simp only[if_true];refine A5 (E7 ⟨Zd _,a⟩ (A5 (J5 (C3 ?_))));rw[Yl,Z4 b];simpa using k
theorem c8u{T E id g s n:Nat}{x:Operand}{z:AV}{ys:List AV}(y:opd A x=some (.sl id g none 0 n))(u:look A (.h id)=some (.obj g 0 s ys))(p:n=ys.length)(l:P5 ys=true)(k:Q2 cx.P T=some (E,1))(B:a0n cx.P E=some (z,1))
 (q:Loc.beq (.h (tid d 0)) (.h id)=false) (c:∀g,slotOk keep (.h (tid d 0)) (.obj g 0 1 [.own s ys])=true) (m:∀g,slotOk keep (.t d) (.sl (tid d 0) g none 0 1)=true)
 (h:∀g',XR cx keep ops0 r ((.t d,.sl (tid d 0) g' none 0 1)::(.h (tid d 0),.obj g' 0 1 [.own s ys])::(.h id,.dead g)::A) fun e G=>Q e ((rds x++[.h id,.h (tid d 0)],[.h id,.h (tid d 0),.t d])::G))
 (b:cx.fzB T d=false:=by rfl):
 XR cx keep ops0 (⟨some d,.buildSlice T 1 #[(0,x)],ty,pos,aft,none⟩::r) A Q:=by
 obtain⟨f,a,i,j⟩:=V4 B;refine a4l (v:=fun g=> .sl (tid d 0) g none 0 1) (ws:=fun g'=>[(.h id,.dead g),(.h (tid d 0),.obj g' 0 1 [.own s ys])]) (ls:=rds x++[.h id,.h (tid d 0)]) U ?_ (fun g=>C7 (by simp[slotOk,refOkV]) (C7 (c g) (I1 (m g)))) (fun g=>U) (fun g=>a9m _ _ _ _ _ _ _) h;simp only[aopV,dstOf];refine A5 (I4 (show wpA (CW cx) A (.ret d) _ from ?_));show wpW (CW cx) (puts A []) _ _;refine A5 (T4 k (A5 (E7 ⟨by rw[a];decide,i,j,by rw[a];decide⟩ ?_)));simp only[f,a,b,ZY,if_false];refine A5 ?_;simp only[a0q];refine A5 (J6 y (A5 (E7 (by simp[leaves]) ?_)));refine A5 ?_;simp only[absorb,ZN,List.headD];refine d7z u p l (C3 ?_);refine A5 (M8 fun o=>A5 (J5 (C3 ?_)));exact⟨I0 o+1,U,by simp,by simp⟩
theorem a8n{T E id g n:Nat}{x:Operand}{z:AV}{row:List Int}(k:opd A x=some (.sl id g none 0 n))(j:look A (.h id)=some (.obj g 0 1 (row.map iV)))(i:n=(row.map iV).length)(e:Q2 cx.P T=some (E,1))(l:a0n cx.P E=some (z,1))
 (b:Loc.beq (.h (tid d 0)) (.h id)=false) (f:∀g,slotOk keep (.t d) (.sl (tid d 0) g none 0 1)=true)
 (h:∀g',XR cx keep ops0 r ((.t d,.sl (tid d 0) g' none 0 1)::(.h (tid d 0),.obj g' 0 1 (List.map oI [row]))::(.h id,.dead g)::A) fun c m=>Q c ((rds x++[.h id,.h (tid d 0)],[.h id,.h (tid d 0),.t d])::m))
 (a:cx.fzB T d=false:=by rfl):
 XR cx keep ops0 (⟨some d,.buildSlice T 1 #[(0,x)],ty,pos,aft,none⟩::r) A Q:=
 c8u k j i (U3 fun _=>U) e l b (fun _=>B5 U) f h a
theorem Q5{α:Type}{f:α->AV}{xs ys:List α}{T T' E s id g n b g2 p:Nat}{x y:Operand}{z:AV}(H:opd A x=some (.sl id g none 0 n))(I:opd A y=some (.sl b g2 none 0 p))(G:look A (.h id)=some (.obj g 0 s (xs.map f)))(l:look A (.h b)=some (.obj g2 0 s (ys.map f)))
 (e:n=(xs.map f).length) (i:p=(ys.map f).length) (hid:1000000<=b) (j:Loc.beq (.h id) (.h b)=false) (u:Q2 cx.P T=some (E,s)) (c:O5 (tyS cx.P T').k=true) (J:a0n cx.P E=some (z,s)) (v:(tyS cx.P E).bytes<=4096) (o:∀a,(leaves (f a)).all cellLeaf=true/\L3 (f a)=true)
 (hle:xs.length+ys.length<=H6) (B:∀g,slotOk keep (.t d) (.sl (tid d 0) g none 0 (xs++ys).length)=true)
 (h:∀g',XR cx keep ops0 r ((.t d,.sl (tid d 0) g' none 0 (xs++ys).length)::(.h (tid d 0),.obj g' 0 s ((xs++ys).map f))::(.h id,.dead g)::(.h b,.dead g2)::A) fun q K=>Q q ((rds x++(rds y++[.h b,.h id,.h (tid d 0)]),[.h b,.h id,.h (tid d 0),.t d])::K)):
 XR cx keep ops0 (⟨some d,.call ⟨.builtin .append,#[x,y],#[T,T']⟩,ty,pos,aft,none⟩::r) A Q:=by
 have m:n+(ys.map f).length=(xs++ys).length:=by rw[e,Zh,Zh,Zl]
 refine c8i H I G l e i hid j u c J v (a9h fun a=>(o a).1) (by rw[e,Zh,Zh];exact hle) (fun g=>B5 ?_) (fun g=>by rw[m];exact B g) ?_
 ·rw[<-ZZ];exact A7 fun a=>(o a).2
 ·intro g'
  rw[m,<-ZZ];exact h g'
theorem P2{α:Type}{f:α->AV}{xs ys:List α}{T T' E s id g n:Nat}{x y:Operand}{z:AV}(q:opd A x=some (.sl id g none 0 n))(u:opd A y=some (.list (ys.map f)))(p:look A (.h id)=some (.obj g 0 s (xs.map f)))
 (e:n=(xs.map f).length) (l:Q2 cx.P T=some (E,s)) (b:O5 (tyS cx.P T').k=true) (v:a0n cx.P E=some (z,s)) (m:(tyS cx.P E).bytes<=4096) (c:∀a,(leaves (f a)).all cellLeaf=true/\L3 (f a)=true/\(leaves (f a)).length=s)
 (hle:xs.length+ys.length<=H6) (o:∀g,slotOk keep (.t d) (.sl (tid d 0) g none 0 (xs++ys).length)=true)
 (h:∀g',XR cx keep ops0 r ((.t d,.sl (tid d 0) g' none 0 (xs++ys).length)::(.h (tid d 0),.obj g' 0 s ((xs++ys).map f))::(.h id,.dead g)::A) fun j B=>Q j ((rds x++(rds y++[.h id,.h (tid d 0)]),[.h id,.h (tid d 0),.t d])::B)):
 XR cx keep ops0 (⟨some d,.call ⟨.builtin .append,#[x,y],#[T,T']⟩,ty,pos,aft,none⟩::r) A Q:=by
 have i:n+(ys.map f).length=(xs++ys).length:=by rw[e,Zh,Zh,Zl]
 refine c3p q u p e l b v m (a9h fun a=>(c a).1) ?_ (by rw[e,Zh,Zh];exact hle) (fun g=>B5 ?_) (fun g=>by rw[i];exact o g) ?_
 ·unfold a3a
  rw[List.all_map,Zu];intro a _;simpa using(c a).2.2
 ·rw[<-ZZ];exact A7 fun a=>(c a).2.1
 ·intro g'
  rw[i,<-ZZ];exact h g'
theorem U0{α:Type}{f:α->AV}{ys:List α}{T T' E s b g2 m:Nat}{x y:Operand}{z:AV}(v:opd A x=some .nil)(B:opd A y=some (.sl b g2 none 0 m))(j:look A (.h b)=some (.obj g2 0 s (ys.map f)))
 (i:m=(ys.map f).length) (hid:1000000<=b) (p:Q2 cx.P T=some (E,s)) (e:O5 (tyS cx.P T').k=true) (G:a0n cx.P E=some (z,s)) (q:(tyS cx.P E).bytes<=4096) (l:∀a,(leaves (f a)).all cellLeaf=true/\L3 (f a)=true)
 (hle:ys.length<=H6) (u:∀g,slotOk keep (.t d) (.sl (tid d 0) g none 0 ys.length)=true)
 (h:∀g',XR cx keep ops0 r ((.t d,.sl (tid d 0) g' none 0 ys.length)::(.h (tid d 0),.obj g' 0 s (ys.map f))::(.h b,.dead g2)::A) fun o H=>Q o ((rds x++(rds y++[.h b,.h (tid d 0)]),[.h b,.h (tid d 0),.t d])::H)):
 XR cx keep ops0 (⟨some d,.call ⟨.builtin .append,#[x,y],#[T,T']⟩,ty,pos,aft,none⟩::r) A Q:=by
 have c:(ys.map f).length=ys.length:=Zh ..;refine c8j v B j i hid p e G q (a9h fun a=>(l a).1) (by rw[c];exact hle) (fun g=>B5 (A7 fun a=>(l a).2)) (fun g=>by rw[c];exact u g) ?_;intro g';rw[c];exact h g'
end
theorem a3o{A:Asr}{α:Type}{f:α->AV}{xs:List α}{C:Caller}{md id g s n:Nat}(c:md=3)(j:look A (.h id)=some (.obj g 0 s (xs.map f)))(i:n=(xs.map f).length)(e:∀a,L0 (f a)=true):
 N0 C A md (.sl id g none 0 n) (.list (xs.map f)) [(id,true)] [(.h id,.obj g 2 s (xs.map f))] [.h id]:=by
 have k:G3 (xs.map f)=true:=A7 fun a=>by
  have:=e a;cases b:f a<;>rw[b]at this<;>simp_all[L0,L3]
 have:=f1i (C:=C) c j i k;rwa[O3 e]at this
theorem f0v(m:List (List Int)):frzL (m.map oI)=m.map fun xs=> .list (xs.map iV):=by
 rw[O8,List.map_map];refine List.map_congr_left fun xs _=> ?_
 show AV.list (frzL (xs.map iV))=_;rw[O3 fun _=>U]
theorem b1j{A:Asr}{m:List (List Int)}{C:Caller}{md id g k s n:Nat}(a:md=0)(e:look A (.h id)=some (.obj g k s (m.map oI)))(b:bxB k none=false)(c:n=(m.map oI).length):
 N0 C A md (.sl id g none 0 n) (.list (m.map fun xs=> .list (xs.map iV))) [(id,false)] [] [.h id]:=by
 have:=b7d (C:=C) a e b c (A7 b1y);rwa[f0v]at this
def f4y(a:List (Nat×List Nat))(f i:Nat):Nat:=match a.find? (fun x=>x.1==f)with
 |some x=>x.2.getD i 0
 |none=>0
def e1y(a:List (Nat×(List AV->Option (AV×List (List AV)))))(f:Nat):Option (List AV->Option (AV×List (List AV))):=match a.find? (fun x=>x.1==f)with
 |some x=>some x.2
 |none=>none
def unI:List AV->Option (List Int)
 |[]=>some []
 | .val (.int .i64 n)::r=>(unI r).map (n:: ·)
 |_=>none
theorem e1p(xs:List Int):unI (xs.map iV)=some xs:=by
 induction xs with
 |nil=>rfl
 |cons x xs a=>simp[unI,a]
def b6b(x:Int):List Int->List Int
 |[]=>[x]
 |y::r=>if x<=y then x::y::r else y::b6b x r
def S6:List Int->List Int
 |[]=>[]
 |x::r=>b6b x (S6 r)
theorem d1o(x:Int)(r:List Int):(b6b x r).length=r.length+1:=by
 induction r with
 |nil=>rfl
 |cons y r a=>simp only[b6b];split<;>simp[a]
@[simp] theorem Q6(xs:List Int):(S6 xs).length=xs.length:=by
 induction xs with
 |nil=>rfl
 |cons x r a=>simp[S6,d1o,a]
def b2n:List AV->Option (AV×List (List AV))
 |[.list es]=>if es.length<=H6 then(unI es).map fun xs=>(.own 1 (xs.map iV),[])else none
 |_=>none
def b7k:List AV->Option (AV×List (List AV))
 |[.own 1 es]=>if es.length<=H6 then(unI es).map fun xs=>(.tup [],[(S6 xs).map iV])else none
 |_=>none
abbrev L(xs:List Int):AV:= .list (xs.map iV)
abbrev M(xs:List (List Int)):AV:= .list (xs.map L)
theorem a1l{α:Type}{d:α}{xs ys:List α}(c:xs.length=ys.length)(h:∀j,j<xs.length->xs.getD j d=ys.getD j d):xs=ys:=by
 apply List.ext_getElem c;intro i a b;have:=h i a;simpa[Zc,Ze a,Ze b]using this
theorem sized_map{α:Type}{f:α->AV}{s:Nat}{xs:List α}(h:∀a,(leaves (f a)).length=s):a3a s (xs.map f)=true:=by
 unfold a3a;rw[List.all_map,Zu];intro a _;simpa using h a
def e7r(a:List Int):Prop:=∀b∈a,0<=b/\b<256
theorem e7r.getD{a:List Int}(h:e7r a)(i:Nat):0<=a.getD i default/\a.getD i default<256:=by
 rw[Zc];cases b:a[i]? with
 |none=>exact⟨by decide,by decide⟩
 |some x=>exact h x (Zw b)
theorem d9u{a b:Int}(c:0<=a)(e:0<=b):0<=a.tdiv b/\a.tdiv b<=a:=⟨Int.tdiv_nonneg c e,Int.tdiv_le_self b c⟩
theorem M7{xs:List Int}{i:Nat}(h:i<xs.length):xs.getD i default∈xs:=by
 rw[Zc,Ze h];exact List.getElem_mem h
@[simp] theorem hasListL_iV(xs:List Int):G1 (xs.map iV)=false:=by
 induction xs with
 |nil=>rfl
 |cons x xs a=>simp[G1,hasList,a]
@[simp] theorem hasListL_oI(xs:List (List Int)):G1 (xs.map oI)=false:=by
 induction xs with
 |nil=>rfl
 |cons x xs a=>simp[G1,hasList,a]
def G(gs:List (List Int))(i j:Nat):Int:=(gs.getD i default).getD j default
theorem b5u{cs:List AV}{n:Int}:a2o cs [iV n]=true:=by cases cs<;>simp[a2o,K7,isOwn,d0g]
theorem a5i(ys:List Int):∀es,nilFit es (ys.map iV)=true:=by
 induction ys with
 |nil=>intro es;cases es<;>rfl
 |cons y ys a=>
  intro es;cases es with
  |nil=>simp only[Zy,nilFit,leaves,Zx];exact⟨b5u,a []⟩
  |cons e es=>simp only[Zy,nilFit,Zx];exact⟨b5u,a es⟩
theorem a3f{α:Type}{d:α}(l:List α)(i:Nat)(x:α)(j:Nat)(a:i<l.length):(l.set i x).getD j d=if j=i then x else l.getD j d:=by
 rw[Zc,Zc];by_cases h:j=i
 ·subst h;simp[List.getElem?_set_self a]
 ·simp[h,List.getElem?_set_ne (Ne.symm h)]
end Go.Mv
end
