/- The abstract machine, part 4 of 5: it runs the model's code on abstract values and is proved sound over any program. Conditions: none. -/
import Derived.Below
import Derived.Laws.AppendOwn
import Derived.Lib.AtoiAll
import Derived.Lib.IndexMore
import Derived.OpenShut
import Derived.ProofKit
import Derived.Sort.Grow
import Derived.Test.YtjmoceabjajefaaGreatDoorMc
set_option linter.unusedVariables false
set_option linter.unusedSimpArgs false
open Array renaming getElem?_eq_some_iff→ZC
open BitVec renaming ofInt→Yf
open Bool renaming and_eq_true→Zy, false_eq_true→ZZ
open ByteArray.toList renaming loop→Xv
open Classical renaming byContradiction→YB
open Function renaming comp_def→Xt
open Int renaming le_refl→Xi, fdiv_eq_ediv_of_nonneg→XH, gcd→YG, gcd_dvd_left→Xj, gcd_dvd_right→XL, mul_ediv_cancel_left→Xp
open Go.IntKind renaming i64→Yt
open Go.Lib renaming parseUint10→YT
open List renaming getElem?_map→ZE, mem_map→ZI, length_map→Zi, mem_of_getElem?→Zx, length_eq_zero_iff→ZW, getElem?_eq_some_iff→Zq, getElem?_take→YA, getElem?_eq_getElem→Zg, getD_eq_getElem?_getD→Zc, getElem?_eq_none→ZQ, mem_cons_self→Zr, mem_cons_of_mem→Zn, mem_of_mem_take→ZV, getElem?_cons_zero→Zs, all_eq_true→Zt, mem_of_mem_drop→Yw, drop_zero→ZY, length_append→Zf, append_nil→Zm, nil_append→Zj, take_length→Yo, map_append→Yi, append_assoc→Yq, singleton_append→YZ, mem_append→ZF, pairwise_cons→YE, mem_cons→ZM, pairwise_iff_getElem→Xk, getElem_of_mem→Xl, length_drop→Yp, getElem?_drop→Yd, length_take→ZH, take_of_length_le→ZB, range→Yb, range_succ→YS, countP_append→YP, getElem?_range→Yv, drop_eq_getElem_cons→YH, mem_singleton→Ye, cons_append→Zp, take_succ_eq_append_getElem→Yl, map_singleton→XI, length_nil→Zo, length_singleton→Ym, length_cons→Ze, map_cons→Zz, drop_succ_cons→Yh, getD_cons_succ→YU, getElem?_append_right→Yn, getD_cons_zero→YV, replicate→ZP, map_nil→Ya, getLast?_cons_cons→XU, take_append_of_le_length→Xf, length_replicate→Xa
open Nat renaming le_refl→Zd, zero_le→Zv, le_trans→Yg, lt_succ_self→ZJ, add_assoc→YK, zero_add→ZL
open Option renaming map_some→ZA, bind_some→Zl, bind_eq_some_iff→Za, map_eq_some_iff→Zh, mem_toList→Xu
open Option.some renaming injEq→Zb
open Prod.mk renaming injEq→Zk
open Go.Sort renaming putCells→XO, putRow→Xr, ahead→Xh
open Go.Value renaming int→YO
section
namespace Go.Mv
open Go Go.RowKit
section
variable{P:Program}{Γ:Env}{w0:World}{A O0:Nat->Prop}{ν0:Nu}{N:Nat}{F:Fl}{D:Nat->Prop}{st:St}{ν:Nu}{tm:Array Value}{w:World}
theorem a3c{xs:List Int}{i j:Nat}{l:AV}(h:leafAt (xs.map iV) i j=some l):∃x,xs[i]? =some x/\j=0/\l=iV x:=by
 unfold leafAt at h;rw[ZE]at h;cases a:xs[i]? with
 |none=>simp[a]at h
 |some x=>
  simp only[a,ZA]at h;cases j with
  |zero=>simp[leaves]at h;exact⟨x,U,U,h.symm⟩
  |succ j=>simp[leaves]at h
theorem a0c{w':World}(c:Γ.mo->w.drawn<=w'.drawn)(h:Below w.heap.size w w'){bt:Nat}:WStep Γ w w' bt:=
 ⟨h.size,h.os,h.tape,h.output,c,fun b a _=>h.block b a,fun b a=>O9 (h.block b a)⟩
theorem Rel.ownEmpty(R:Rel Γ w0 A O0 ν0 N Fl.emp D st ν tm w)(κ:FK)(s:Nat):Rel Γ w0 A O0 ν0 N (Fl.emp.set κ (some ⟨fun _=>none,s,[]⟩)) D st ν tm w:=by
 refine R.ghost (fun _=>U) (Ext.refl _ _ _) (fun _ h=>h) R.objs R.frozen (fun k f g=> ?_) id ?_ (fun _ _ _ _ h=>h) (fun b c q=>(q c).elim) R.io
 ·by_cases e:k=κ
  ·subst e
   rw[Fl.set_eq]at g;cases g;exact⟨U,fun i j t n h=>by simp[leafAt]at h⟩
  ·rw[Fl.set_ne _ _ e]at g;cases g
 ·intro k b o l c
  cases k with
  |nd i p=>exact⟨o,l,c⟩
  |fl k p=>
   obtain⟨f,a,_⟩:=l;by_cases e:k=κ
   ·subst e
    rw[Fl.set_eq]at a;cases a;simp[baseOf,Fl.set_eq]at c
   ·rw[Fl.set_ne _ _ e]at a;cases a
theorem Rel.ownNew(R:Rel Γ w0 A O0 ν0 N Fl.emp D st ν tm w){w':World}{g:Nat}(W:WStep Γ w w' g)(s:w.heap.size<=g){c:Array Value}{ety:TypeId}
 (p:w'.heap[g]? =some (.cells c ety (0,0))) {xs:List Int} (n:xs.length<=c.size) (u:∀(i:Nat) (x:Int),xs[i]? =some x->c[i]? =some (YO .i64 x)) (κ:FK):
 Rel Γ w0 A O0 ν0 N (Fl.emp.set κ (some ⟨fun q=>match q with|none=>some (g,0)|some _=>none,1,xs.map iV⟩)) D st ν tm w':=by
 refine R.compose W (fun _=>False) κ (.inl U) ⟨fun q=>match q with|none=>some (g,0)|some _=>none,1,xs.map iV⟩ none (fun _ _=>(κ,none)) ⟨0,U⟩ (.inl ⟨U,s⟩)
  ?_ ?_ ?_ (fun _ h=>by cases h) (Fl.set_eq _ _ _) (fun _ _ h=>h.elim) (fun k t _=>Fl.set_ne _ _ t)
 ·refine⟨c,ety,p,by simpa using n,fun _ e he=> ?_,fun h=>h.elim,fun i j l a=> ?_⟩
  ·obtain⟨x,_,rfl⟩:=ZI.1 he
   rfl
  ·obtain⟨x,v,rfl,rfl⟩:=a3c a
   exact⟨_,by simpa using u i x v,RS.data _ _ (.val _)⟩
 ·intro i j I o a
  obtain⟨x,_,_,h⟩:=a3c a;cases h
 ·intro i j B E s1 y s2 z a
  obtain⟨x,_,_,h⟩:=a3c a;cases h
theorem b3e{κ:FK}{f:Flo}{res:AV}(c:G4 f.es=true)(g:G3 f.es=false):d1n (Fl.emp.set κ (some f)) res:=by
 intro k h a;by_cases e:k=κ
 ·subst e
  rw[Fl.set_eq]at a;cases a;exact⟨c,fun _=>g⟩
 ·rw[Fl.set_ne _ _ e]at a;cases a
theorem b6x(xs:List Int):G3 (xs.map iV)=false:=by
 induction xs with
 |nil=>rfl
 |cons x xs a=>simp[G3,hasList]
theorem Rel.stay(R:Rel Γ w0 A O0 ν0 N F D st ν tm w){w':World}{bt:Nat}(W:WStep Γ w w' bt)(a:w.heap.size<=bt):Rel Γ w0 A O0 ν0 N F D st ν tm w':=by
 have E:=R.extW W;refine R.world W (.inr a) (fun _=>U) E (fun id g m s es h=>R.objW W (.inr a) E h U fun p b o i c=> ?_) R.frozen (fun k f e=>R.floW W (.inr a) E e fun p b o i c=> ?_) id (fun _=>False)
  (fun k b o l c=> .inl ⟨fun h=>h,o,l,c⟩) (fun _ _ _ _ _ _ h=>h) (fun _ _ h=>h.elim) R.io
 ·have:=R.hlt h i c;omega
 ·have:=R.live_lt (k:= .fl k p) ⟨f,e,i⟩ (by simp only[baseOf,e];exact c);omega
theorem c0k(I:¬Γ.mo){f:Nat}{md:Nat->Nat}(xs:List Int)(hx:xs.length<=H0){E:TypeId}
 (O:∀(w:World) (a:Option Addr) (n c:Nat) (news:List Value),news.length=n->n<=H0->(n≠0->∃b o,a=some ⟨b,o,none⟩/\∀(j:Nat) u,news[j]? =some u->w.cell? ⟨b,o+j,none⟩=some u)->
  (∀u∈news,∃x,u=YO .i64 x)->
  Calls P f #[.slice a n c] w fun e w'=>∃v',e= .returned v'/\w'.ownsRow w.heap.size E 1 v' n news/\Below w.heap.size w w'):
 Contract Γ P md f [.list (xs.map iV)] (.own 1 (xs.map iV)) []:=by
 intro w A O0 ν0 D vals a1 R hA;have h0:=R.slots 0 (by simp);have X:vals.size=1:=by simpa using R.size
 obtain⟨v,rfl⟩:∃v,vals= #[v]:=by
  match vals,X with
  |⟨[v]⟩,_=>exact⟨v,U⟩
 have hv:RV w D (.list (xs.map iV)) v:=RS.list_inv h0;cases hv with
 |list _ a cap b o s c z ha hs hc hl=>
  have R0:=R.noSlots;rw[Zi]at z|-;refine(O w a xs.length cap (xs.map (YO .i64)) (by simp) hx (fun T=> ?_) (fun u hu=> ?_)).mono ?_
  ·have K:xs.map iV≠[]:=by
    intro h;exact T (by simpa using congrArg List.length h)
   obtain⟨rfl,_,_⟩:=ha K;refine⟨b,o,U,fun j u M=> ?_⟩;rw[ZE]at M;cases p:xs[j]? with
   |none=>simp[p]at M
   |some x=>
    simp only[p,ZA,Zb]at M;subst M;have B:leafAt (xs.map iV) j 0=some (iV x):=by
     unfold leafAt;rw[ZE,p]
     rfl
    have y:=hc j 0 _ B;have h2:=hl j 0 _ B;have V:s=1:=(hs (iV x) (ZI.2 ⟨x,Zx p,U⟩)).symm;subst V;have h3:c j 0=YO .i64 x:=by
     generalize c j 0=u at h2;cases h2
     rfl
    rw[h3]at y;simpa using y
  ·obtain⟨x,_,rfl⟩:=ZI.1 hu
   exact⟨x,U⟩
  ·rintro e w' ⟨v',rfl,⟨hlen,L⟩,hB⟩
   have J:G4 (xs.map iV)=true:=A6 fun _=>U
   rcases L with⟨rfl,hn⟩|⟨g,t,cur,rfl,hg,l,q,_,S,Y⟩
   ·have a0:xs=[]:=ZW.1 hn
    subst a0;refine⟨_,U,_,D,_,ν0,(R0.stay (a0c (fun h=>(I h).elim) hB (bt:=w.heap.size)) (Zd _)).ownEmpty (5,0,0) 1,U,.inr (.inr (.inr (.inl ⟨1,[],fun _=>none,U,Fl.set_eq _ _ _,U,?_⟩))),b3e U U⟩;exact⟨none,0,U,Zd _,.inl U⟩
   ·have Z:∀(i:Nat) (x:Int),xs[i]? =some x->cur[i]? =some (YO .i64 x):=by
     intro i x hi;have y:(cur.toList.take (xs.length*1))[i]? =some (YO .i64 x):=by rw[Y,ZE,hi];rfl
     have hlt:i<xs.length:=(Zq.1 hi).1;rw[YA,if_pos (by omega)]at y;simpa using y
    refine⟨_,U,_,D,_,ν0,R0.ownNew (a0c (fun h=>(I h).elim) hB) hg l (by omega) Z (5,0,0),U,.inr (.inr (.inr (.inl ⟨1,xs.map iV,_,U,Fl.set_eq _ _ _,J,?_⟩))),b3e J (b6x xs)⟩;refine⟨_,t,by rw[Zi],by rw[Zi];exact q,.inr ⟨g,0,U,by simp,?_⟩⟩;have:csize w' g=cur.size:=by unfold csize;rw[l]
    rw[this,S];simp
theorem RN.ints{L:AV->Value->Prop}{φ:Path->Base}{b o:Nat}{xs:List Int}{w:World}{bx:Prop}(h:RN w L φ (some (b,o)) bx 1 (xs.map iV))(p:∀x v,L (iV x) v->v=YO .i64 x):
 ∃c ety,w.heap[b]? =some (.cells c ety (0,0))/\o+xs.length<=c.size/\∀(i:Nat) (x:Int),xs[i]? =some x->c[o+i]? =some (YO .i64 x):=by
 obtain⟨c,ety,g,l,_,_,n⟩:=h;refine⟨c,ety,g,by simpa using l,fun i x q=> ?_⟩;have a:leafAt (xs.map iV) i 0=some (iV x):=by
  unfold leafAt;rw[ZE,q]
  rfl
 obtain⟨v,e,s⟩:=n i 0 _ a;rw[p x v s]at e;simpa using e
theorem b0l{α:Type}[Inhabited α](enc:α->Value)(off:Nat)(d:Array α)(c:Array Value):(XO enc off d c).size=c.size:=by simp[XO]
theorem c4n{f:Nat}{md:Nat->Nat}(xs ys:List Int)(hx:xs.length<=H0)(hy:ys.length=xs.length)(L:md 0=1)
 (M:∀(w:World) (a:Option Addr) (c:Nat),Calls P f #[.slice a 0 c] w fun e w'=>e= .returned (.tuple #[])/\w'=w)
 (S:∀(w:World) (b o c:Nat),Sort.Holds (YO .i64) w b o xs.toArray->b<w.heap.size->xs.length<=H0->
  Calls P f #[.slice (some ⟨b,o,none⟩) xs.length c] w fun e w'=>e= .returned (.tuple #[])/\∃n os,w'=Sort.grow (Xr (YO .i64) (Xh w n) b o ys.toArray) os):
 Contract Γ P md f [.own 1 (xs.map iV)] (.tup []) [ys.map iV]:=by
 intro w A O0 ν0 D vals a9 R hA;have h0:=R.slots 0 (by simp);have a3:vals.size=1:=by simpa using R.size
 obtain⟨v,rfl⟩:∃v,vals= #[v]:=by
  match vals,a3 with
  |⟨[v]⟩,_=>exact⟨v,U⟩
 have Y:RS (initLoc md [.own 1 (xs.map iV)]) ν0 w D (.sl 0 1 none 0 (xs.map iV).length) v:=h0;have O:initLoc md [.own 1 (xs.map iV)] (.h 0)= .obj 1 1 1 (xs.map iV):=by simp[initLoc,L]
 have q:noSlots (initLoc md [.own 1 (xs.map iV)]) (.h 0)= .obj 1 1 1 (xs.map iV):=O;have t:cidAll md 0 [.own 1 (xs.map iV)]=[(0,1,1)]:=by simp[cidAll,R9,L]
 have u:∀{F:Fl} {D:Nat->Prop} {w:World},AllRes F D w (.tup []) (.tuple #[]):= .inl ⟨[],#[],U,U,U,fun k l h=>by simp at h⟩;obtain⟨⟨a,cap,rfl,I⟩,_,_,T⟩:=Y.sl_inv;have T:=T 1 1 (xs.map iV) (by unfold nodeAt;rw[O];simp);have X:=R.noSlots;rw[Zi]at I T|-;by_cases hn:xs=[]
 ·subst hn
  have a5:ys=[]:=ZW.1 hy;subst a5;refine(M w a cap).mono ?_;rintro e w' ⟨rfl,rfl⟩;refine⟨_,U,Fl.emp,D,_,ν0,X,?_,u,fun _ _ h=>by cases h⟩;rw[t];unfold outsOf;rw[q];simp[outsOf,G4]
 ·obtain⟨a',a6,he,_,hb⟩:=T
  cases he;have a7:0<xs.length:=List.length_pos_iff.2 hn;rcases hb with hb|⟨b,o,B,ha,aa⟩
  ·omega
  ·rw[Nat.zero_mul,Nat.add_zero]at ha
   subst ha;have a0:=X.objs 0 1 1 1 (xs.map iV) q;have hT:=a0.top;rw[B]at hT;obtain⟨c,E,p,ab,a1⟩:=RN.ints hT (fun x v h=>by cases h with|data _ _ h=>cases h;rfl);have s:b<w.heap.size:=(ZC.1 p).1;refine(S w b o cap (fun j hj=> ?_) s hx).mono ?_
   ·have y:j<xs.length:=by simpa using hj
    have J:=a1 j (xs[j]'y) (Zg y);refine⟨?_,?_⟩
    ·unfold World.cell?
     simp only[p];simp[J,y]
    ·unfold World.frozen?
     simp only[p];simp
   ·rintro e w' ⟨rfl,n,os,rfl⟩
    have g:∀k,k<w.heap.size->(Sort.grow (Xr (YO .i64) (Xh w n) b o ys.toArray) os).heap[k]? =
     if k=b then some (.cells (XO (YO .i64) o ys.toArray c) E (0,0))else w.heap[k]? :=by
     intro k K;have h1:k<(Xr (YO .i64) (Xh w n) b o ys.toArray).heap.size:=by simpa[Xh]using K
     simp only[Sort.grow];rw[Array.getElem?_append_left h1];simp only[Xr,Sort.mapBlock,Xh,Array.getElem?_modify];by_cases e:b=k
     ·subst e
      simp[p,Sort.onCells]
     ·rw[if_neg e,if_neg (fun h=>e h.symm)]
    have W:WStep Γ w (Sort.grow (Xr (YO .i64) (Xh w n) b o ys.toArray) os) b:=by
     refine⟨by simp[Sort.grow,Xh],U,U,U,fun _=>by simp[Sort.grow,Xr,Sort.mapBlock,Xh],fun k K a2=> ?_,fun k K=> ?_⟩
     ·rw[g k K,if_neg a2]
     ·unfold csize
      rw[g k K];by_cases e:k=b
      ·subst e
       rw[if_pos U,p];exact b0l _ _ _ _
      ·rw[if_neg e]
    have Z:RN (Sort.grow (Xr (YO .i64) (Xh w n) b o ys.toArray) os) (RS (noSlots (initLoc md [.own 1 (xs.map iV)])) ν0 w D) (ν0 0) (ν0 0 none) (1=3\/1=4) 1 (ys.map iV):=by
     rw[B];refine⟨_,E,by rw[g b s,if_pos U],?_,fun _ e he=> ?_,fun h=>by simp at h,fun i j l hl=> ?_⟩
     ·rw[b0l,Zi,hy];omega
     ·obtain⟨x,_,rfl⟩:=ZI.1 he
      rfl
     ·obtain⟨x,z,rfl,rfl⟩:=a3c hl
      have V:i<ys.length:=(Zq.1 z).1;refine⟨.int .i64 x,?_,RS.data _ _ (.val _)⟩;have a4:ys[i]=x:=by rw[Zg V]at z;exact Option.some.inj z
      have hlt:o+i<c.size:=by omega
      simp only[XO,Nat.mul_one,Nat.add_zero,Array.getElem?_mapIdx];rw[Array.getElem?_eq_getElem hlt];simp[V,a4]
    obtain⟨R1,_⟩:=X.storeTop W q (by decide) ⟨o,B⟩ (ν0 0) U Z (fun i j h=>by obtain⟨x,_,_,h⟩:=a3c h;cases h) (fun _ _=>False) (fun _ _=>(0,0,0)) (fun _=>False)
     (fun i j s' a8 h=>by obtain⟨x,_,_,h⟩:=a3c h;cases h) (fun i j i' j' s1 e1 s2 e2 _ _ h=>h.elim) (fun _=>U) (F':=Fl.emp) (fun k h=>h.elim) (fun k _=>U)
    refine⟨_,U,Fl.emp,D,_,_,R1,?_,u,fun _ _ h=>by cases h⟩;rw[t];have V:P1 (ys.map iV)=true:=V1 fun _=>U
    simp[outsOf,St.upd_eq,U4 V]
end
end Go.Mv
end
section
namespace Go.Mv
open Go Go.RowKit Go.ChangeShapes Go.WideShapes Go.ChangeAt
def dataArg:AV->Bool
 | .val _=>true
 | .nil=>true
 | .list _=>true
 | .agg _=>true
 |_=>false
theorem c8j{md:Nat->Nat}{av:List AV}(l:∀a∈av,dataArg a=true):
 (∀i,initLoc md av (.t i)=av.getD i .undef)/\∀i,initLoc md av (.h i)= .undef:=by
 have c:∀i a,av[i]? =some a->dataArg a=true:=fun i a h=>l a (Zx h)
 refine⟨fun i=> ?_,fun i=> ?_⟩
 ·rw[Zc]
  have:=c i;unfold initLoc;show(match av[i]? with
   |some (AV.own s es)=>AV.sl i 1 none 0 es.length
   |some (AV.ownp es a b)=>AV.ptr i 1 none a b
   |some (AV.clo f caps)=>AV.clo f (initCaps i 0 caps)
   |some a=>a
   |none=>AV.undef)=_
  split<;>rename_i h
  ·rw[h]at this;simp[dataArg]at this
  ·rw[h]at this;simp[dataArg]at this
  ·rw[h]at this;simp[dataArg]at this
  ·rw[h];rfl
  ·rw[h];rfl
 ·have e:=c i
  have g:=c (i%100000);unfold initLoc;simp only;split
  ·split
   ·rename_i h;rw[h]at e;simp[dataArg]at e
   ·rename_i h;rw[h]at e;simp[dataArg]at e
   ·rfl
  ·split
   ·rename_i h;rw[h]at g;simp[dataArg]at g
   ·rfl
theorem d7s{Γ:Env}(cx:Cx)(O:SoundC Γ cx (CW cx)){f:Nat}{av:List AV}{vals:Array Value}{w:World}{v:Value}(z:vals.size=av.length)
 (I:∀i a,av[i]? =some a->RV w (fun b=>b<w.heap.size) a (vals.getD i undef)) (y:∀a∈av,dataArg a=true) (h:CW cx f av=some (.val v,[])) (S:∀b,Γ.gb b->b<w.heap.size) (M:Γ.G w):
 Calls cx.P f vals w fun e w'=>e= .returned v/\Below w.heap.size w w'/\(Γ.mo->w.drawn<=w'.drawn):=by
 obtain⟨B,x⟩:=c8j (md:=cx.md f) y;have l:∀k,¬live (initLoc (cx.md f) av) Fl.emp k:=by
  intro k J;cases k with
  |nd i p=>obtain⟨g,m,s,es,c,_⟩:=J;rw[x]at c;cases c
  |fl k p=>obtain⟨f,c,_⟩:=J;cases c
 have R:Rel Γ w (fun _=>True) (fun _=>False) (fun _ _=>none) av.length Fl.emp (fun b=>b<w.heap.size) (initLoc (cx.md f) av) (fun _ _=>none) vals w:=by
  refine⟨z,fun i t=> ?_,fun i t=> ?_,fun id g m s es c=> ?_,fun id g s es c=> ?_,fun k f c=> ?_,fun Z k2 b o1 o2 c=>(l _ c).elim,fun b q ⟨k,o,c,_⟩=>l _ c,fun b q=> .inl trivial,fun b q=>⟨q,fun h=>by rcases h with h|h;(·have:b<w.heap.size:=q;omega);(·exact h.elim)⟩,
   fun b ⟨k,o,c,_⟩=>(l _ c).elim,Zd _,U,U,U,fun _=>Zd _,fun b _ _=>U,fun b _=>U,fun id g m s es c=> ?_,fun b q=>⟨fun h=>h,S b q⟩,M⟩
  ·rw[B,Zc,Zg t]
   exact .data _ _ (I i _ (Zg t))
  ·rw[B,Zc,ZQ t];rfl
  ·rw[x]at c;cases c
  ·rw[x]at c;cases c
  ·cases c
  ·rw[x]at c;cases c
 obtain⟨L,_⟩:=O.2 f av _ _ h;refine(L w _ _ _ _ vals (fun _ h=>h.elim) R (fun a E=> ?_)).mono ?_
 ·obtain⟨i,t⟩:=List.mem_iff_getElem?.1 E
  have c:=I i a t;have K:=y a E;cases a<;>first
   |exact⟨_,c⟩
   |simp[dataArg]at K
 ·rintro e w' ⟨v',rfl,Y,X,T,V,n,_,u,_⟩
  refine⟨?_,⟨n.os,n.tape,n.output,n.le,fun k y=>n.fr k y (fun h=>h)⟩,n.dr⟩;rcases u with⟨vs,cs,c,_⟩|⟨fs,cs,c,_⟩|⟨es,j,φ,b,o,c,_⟩|⟨s,es,φ,c,_⟩|⟨_,c⟩
  ·cases c
  ·cases c
  ·cases c
  ·cases c
  ·cases c;rfl
theorem e5n{Γ:Env}(cx:Cx)(l:SoundC Γ cx (CW cx)){f:Nat}{av:List AV}{vals:Array Value}{w:World}{v:Value}(c:vals.size=av.length)
 (n:∀i a,av[i]? =some a->RV w (fun b=>b<w.heap.size) a (vals.getD i undef)) (p:∀a∈av,dataArg a=true) (h:CW cx f av=some (.val v,[])) (o:∀b,Γ.gb b->b<w.heap.size) (g:Γ.G w):
 Calls cx.P f vals w fun e w'=>e= .returned v/\Below w.heap.size w w':=
 (d7s cx l c n p h o g).mono fun _ _ h=>⟨h.1,h.2.1⟩
section
variable{H:Type}{enc:TypeId×Value->H}{P:Program}{W W':World}
theorem b0k(l:laidOutB P=true)(i:Below W.heap.size W W'):∀{a:List TypeId} {vs:List Value} {ds:List (DataW H)} {ps:List MemPlace},
 (∀t∈a,P.readableRec t=true/\t<P.types.size)->DataW.TrodAll enc P W 0 (fun _=>true) true a vs ds ps->(∀x∈ps,x.block<W.heap.size)->
 DataW.TrodAll enc P W' 0 (fun b=>decide (b<W.heap.size)) true a vs ds ps
 |[],[],[],_,_,h,_=>h
 |[],[],_::_,_,_,h,_=>h.elim
 |[],_::_,_,_,_,h,_=>h.elim
 |_::_,[],_,_,_,h,_=>h.elim
 |_::_,_::_,[],_,_,h,_=>h.elim
 |t::a,v::vs,d::ds,ps,n,h,hlt=>by
  obtain⟨p,q,o,s,rfl⟩:=h;obtain⟨c,e⟩:=n t (Zr ..);exact⟨p,q,Below.trod l c e o i (fun x g=>hlt x (List.mem_append_left _ g)),b0k l i (fun t u=>n t (Zn _ u)) s (fun x g=>hlt x (List.mem_append_right _ g)),U⟩
theorem f3r{t e:TypeId}{k:IntKind}{v:Value}{d:DataW H}{p:List MemPlace}(ht:P.underlying t=some (.slice e))(he:P.underlying e=some (.int k))(V:P.cellsOf e=1)
 (hv:∃a n c,v= .slice a n c) (h:DataW.Trod enc P W 0 (fun _=>true) true t v d p):
 ∃xs:List Int,RV W (fun b=>b<W.heap.size) (.list (xs.map fun x=> .val (.int k x))) v/\∀x∈xs,(Lit.int k x).wf=true:=by
 obtain⟨R,n,c,rfl⟩:=hv;obtain⟨fuel,X⟩:=h;rcases open_ints ht he V X with⟨y,_⟩|⟨a,len,cap,u,y,_,hl,_,hz,_,g,M⟩
 ·cases(show[Value.slice R n c]=[.slice none 0 0]from y)
  exact⟨[],.list [] none 0 0 0 1 (fun _ _=>undef) (Zd _) (fun h=>(h U).elim) (fun _ h=>by simp at h) (fun i j l h=>by simp[leafAt]at h) (fun i j l h=>by simp[leafAt]at h),fun _ h=>by simp at h⟩
 ·cases(show[Value.slice R n c]=[.slice (some a) len cap]from y)
  simp at hz;refine⟨u.take n,?_,fun x z=>M x (ZV z)⟩;have hlen:(u.take n).length=n:=by simp;omega
  have q:∀i j l,leafAt ((u.take n).map fun x=>AV.val (.int k x)) i j=some l->i<n/\j=0/\l= .val (.int k (u.getD i 0)):=by
   intro i j l h;unfold leafAt at h;rw[ZE]at h;cases z:(u.take n)[i]? with
   |none=>simp[z]at h
   |some x=>
    have I:i<n:=by have:=(Zq.1 z).1;omega
    rw[YA,if_pos I]at z;have O:(u.take n)[i]? =some x:=by rw[YA,if_pos I];exact z
    simp only[O,ZA]at h;cases j with
    |zero=>simp[leaves]at h;exact⟨I,U,by rw[Zc,z];exact h.symm⟩
    |succ j=>simp[leaves]at h
  have J:0<n->a=⟨a.block,a.off,none⟩/\a.block<W.heap.size:=by
   intro T;have B:=g 0 (by omega);have K:a.add 0=a:=rfl;rw[K]at B;unfold World.cell? at B;split at B
   ·rename_i cc _ _ Y
    split at B
    ·cases B
    ·rename_i Z
     refine⟨?_,(ZC.1 Y).1⟩;obtain⟨b,o,s⟩:=a;cases s
     ·rfl
     ·simp at Z
   ·cases B
  have:=RV.list (w:=W) (D:=fun b=>b<W.heap.size) ((u.take n).map fun x=>AV.val (.int k x)) (some a) c a.block a.off 1 (fun i _=> .int k (u.getD i 0)) (by simp;omega) (fun L=> ?_) (fun e he=> ?_) (fun i j l h=> ?_) (fun i j l h=> ?_)
  ·rw[Zi,hlen]at this
   exact this
  ·have T:0<n:=by
    rcases Nat.eq_zero_or_pos n with h|h
    ·subst h;simp at L
    ·exact h
   obtain⟨E,S⟩:=J T;exact⟨congrArg some E,S,S⟩
  ·obtain⟨x,_,rfl⟩:=ZI.1 he
   rfl
  ·obtain⟨I,rfl,rfl⟩:=q i j l h
   have E:=g i (by omega);have K:=(J (by omega)).1;rw[K]at E;rw[a2j]at E;simpa using E
  ·obtain⟨I,rfl,rfl⟩:=q i j l h
   exact .val _
end
section
variable{cx:Cx}{keep:List Nat}{ops0:Array Oper}{A:Asr}{d:Nat}{ty:Nat}{pos:String}{aft:Array Edge}{r:List Oper}{Q:Asr->List Log->Prop}
theorem d1h{G:Type}{k:Nat}{c:Operand}{caps:List AV}{args:Array Operand}{o:Array Nat}{vs as:List AV}{ids:List (Nat×Bool)}{wp a:Ws}{l lb li:List Mv.Loc}{res:AV}{outs:List (List AV)}{v:G->AV}{e:G->Ws}
 (i:opd A c=some (.clo k caps))
 (E:opds A args.toList=some vs) (B:a9r (CW cx) A (cx.md k) 0 (vs++caps) as ids wp l) (p:CW cx k as=some (res,outs))
 (s:apartIds ids=true/\nodupB ((a2f (cx.md k) 0 (vs++caps)).map (·.1))=true/\nodupB ((cidAll (cx.md k) 0 as).map (·.1))=true/\as.length<=1000/\a3j as=true)
 (z:ids.all (fun x=>x.2)=true\/(hasList res=false/\outs.any G3=false))
 (q:e0f (CW cx) (puts A wp) (a2f (cx.md k) 0 (vs++caps)) outs a lb) (u:a7x (CW cx) (puts (puts A wp) a) d res v e li)
 (y:∀g,tRefsOk keep (keptWs keep (wp++(a++(e g++[(.t d,v g)]))))=true)
 (h:∀g,XR cx keep ops0 r (K5 A (wp++(a++(e g++[(.t d,v g)])))) fun n I=>Q n ((rds c++(a3q args.toList++(l++(lb++li))),V5 (wp++(a++(e g++[(.t d,v g)]))))::I)):
 XR cx keep ops0 (⟨some d,.call ⟨.value c,args,o⟩,ty,pos,aft,none⟩::r) A Q:=by
 refine e2b (G:=G) (v:=v) (ws:=fun g=>wp++(a++e g)) (ls:=rds c++(a3q args.toList++(l++(lb++li)))) U ?_ (fun g=> ?_) (fun g=> ?_) (fun g=> ?_) (A1:=fun g=>K5 A (wp++(a++(e g++[(.t d,v g)]))))
 ·simp only[aopV]
  refine A5 (K3 i (A5 (I7 (c2c _ E _ ?_))));simp only[d3q];refine A5 (I1 B ?_);rintro _ _ _ ⟨rfl,rfl,rfl⟩;refine A5 (E9 s (A5 (I7 ?_)));refine⟨res,outs,p,?_⟩;refine A5 (E9 z (A5 (I1 q ?_)));rintro _ _ _ ⟨rfl,rfl⟩;refine I1 u ?_;rintro _ _ _ ⟨g,rfl,rfl,rfl⟩;exact⟨g,U,by simp,by simp⟩
 ·have:=y g
  simpa[setD]using this
 ·have:=b1w A (wp++(a++(e g++[(.t d,v g)])))
  simpa[setD]using this
 ·have:=h g
  simpa[setD]using this
def a0t(C:Caller)(A:Asr)(vs as:List AV)(ids:List (Nat×Bool))(ls:List Mv.Loc):Prop:=
 wpA C A (passCaps vs) fun x l=>x=(as,ids)/\l=ls
theorem c0a{C:Caller}:a0t C A [] [] [] []:=⟨rfl,rfl⟩
def d6m:AV->Bool
 | .val _=>true
 | .list _=>true
 |_=>false
theorem d8r{C:Caller}{id g m s j:Nat}{e:AV}{vs as:List AV}{ids:List (Nat×Bool)}{ls:List Mv.Loc}(a:look A (.h id)=some (.obj g m s [e]))(he:d6m e=true)(h:a0t C A vs as ids ls):
 a0t C A (.ptr id g none 0 j::vs) (.ipt e j::as) ((id,false)::ids) (.h id::ls):=by
 unfold a0t at h|-;cases e<;>first
  |(simp[d6m]at he;done)
  |(simp only[passCaps,passCap,E4,rdNode,N1 a,F8,F3,Zs,passLeaf,slIds,List.filterMap_nil,List.filterMap_cons,and_true,true_and]
    refine N5 ?_ h;rintro x l ⟨rfl,rfl⟩;simp)
theorem c9z{C:Caller}{j:Nat}{e:AV}{vs as:List AV}{ids:List (Nat×Bool)}{ls:List Mv.Loc}(h:a0t C A vs as ids ls):a0t C A (.ipt e j::vs) (.ipt e j::as) ids ls:=by
 unfold a0t at h|-;simp only[passCaps,passCap,E4,F3];refine N5 ?_ h;rintro x l ⟨rfl,rfl⟩;simp
theorem c2s{C:Caller}{md k:Nat}{vs as:List AV}{ids:List (Nat×Bool)}{ls:List Mv.Loc}(a:md=0)(h:a0t C A vs as ids ls):L9 C A md (.clo k vs) (.clo k as) ids [] ls:=by
 subst a;unfold L9 a3k;unfold a0t at h;simp only[Nat.zero_ne_one,if_false,show¬(0=3) by decide];refine A5 (I7 (N5 ?_ h));rintro x l ⟨rfl,rfl⟩;exact C3 ⟨U,by simp,by simp⟩
end
section
variable{cx:Cx}{keep:List Nat}{A:Asr}{Q:AExit->Asr->Prop}
theorem D8{β:Type}{body:Code}(K:Asr)(I:β->Asr)(P:β->Prop)(m:β->Nat)(c:β)(h:HasL A (K++I c))(g:P c)
 (i:∀b,P b->XA cx keep body (K++I b) fun r e=>match r with
  | .normal=>∃a,P a/\m a<m b/\HasL e (K++I a)
  |r=>Q r e):XA cx keep (.loop body) A Q:=a5t (fun b=>K++I b) P m c h g i
end
theorem a4o{id g i:Nat}{p:Option (Nat×Nat)}:∀(ls:List AV) (j:Nat),(ls.all fun l=> !isOwn l)=true->viewLeaves id g p i j ls=ls:=by
 intro ls
 induction ls with
 |nil=>intro j _;rfl
 |cons l ls a=>
  intro j h;simp only[List.all_cons,Zy]at h;simp only[viewLeaves,a _ h.2];have:a8v id g p i j l=l:=by
   unfold a8v;split
   ·simp[isOwn]at h
   ·rfl
  rw[this]
theorem e7m{ls:List AV}(h:(ls.all fun l=> !isOwn l)=true)(j:Nat):((ls.drop j).all fun l=> !isOwn l)=true:=by
 rw[Zt]at h|-;exact fun l a=>h l (Yw a)
section
variable{cx:Cx}{b:Bool}{cids:List Cid}{outs:List (List AV)}
def c3o(cx:Cx)(b:Bool)(cids:List Cid)(outs:List (List AV))(rs:List ResultVar)(A:Asr)(vs:List AV):Prop:=
 wpW (CW cx) A (retAll cx.P b rs) fun us ws _=>us=vs/\a3t (puts A ws) cids outs
theorem C5{A:Asr}(a:a3t A cids outs):c3o cx b cids outs [] A []:=C3 ⟨rfl,a⟩
theorem D3{A:Asr}{t:Nat}{v:AV}{rs:List ResultVar}{vs:List AV}(e:look A (.t t)=some v)(c:d9s v=true)(h:c3o cx b cids outs rs A vs):c3o cx b cids outs (.tmp t::rs) A (v::vs):=by
 refine a5q (a3h e (c2v c ?_));refine I1 h ?_;rintro us ws ls ⟨rfl,a⟩;exact⟨U,a⟩
theorem b6a(A:Asr):∀(a b:Ws),puts A (a++b)=puts (puts A a) b:=by
 intro a
 induction a generalizing A with
 |nil=>intro b;rfl
 |cons x a c=>intro b;obtain⟨l,v⟩:=x;exact c _ b
theorem F9{A:Asr}{t id g s n:Nat}{es:List AV}{rs:List ResultVar}{vs:List AV}(l:look A (.t t)=some (.sl id g none 0 n))(a:look A (.h id)=some (.obj g 0 s es))(i:n=es.length)(e:G4 es=true)
 (h:c3o cx b cids outs rs (put A (.h id) (.dead g)) vs):c3o cx b cids outs (.tmp t::rs) A (.own s es::vs):=by
 refine a5q (a3h l (b6c a i e ?_));refine I1 h ?_;rintro us ws ls ⟨rfl,c⟩;refine⟨U,?_⟩;rw[b6a];exact c
theorem a4i{A:Asr}{a T id g s:Nat}{e:AV}{rs:List ResultVar}{vs:List AV}(q:look A (.t a)=some (.ptr id g none 0 0))(o:look A (.h id)=some (.obj g 3 s [e]))(n:((leaves e).all fun l=> !isOwn l)=true)
 (p:partF cx.P T (leaves e)=some e) (i:d9s e=true) (h:c3o cx b cids outs rs A vs):c3o cx b cids outs (.cell a T::rs) A (e::vs):=by
 refine a5q ?_;unfold retVar;refine A5 (I7 ?_);rw[b4v q];refine A5 (I7 ?_);simp only[loadG,loadA,rdNode,E4];rw[N1 (by exact o)];simp only[E4,F8,F3,true_and,Zs,ZY];rw[a4o _ _ n,a1l p];refine c2v i ?_;refine I1 h ?_;rintro us ws ls ⟨rfl,c⟩;exact⟨U,c⟩
theorem C0{A:Asr}{rs:List ResultVar}{us:List AV}{res:AV}(h:c3o cx b cids outs rs A us)(he:V4 us=res):RetA cx b rs cids A res outs:=by
 refine c1o (I1 h ?_);rintro c ws _ ⟨rfl,a⟩;exact⟨he,a⟩
def c6y(C:Caller)(A:Asr)(d k:Nat)(vs:List AV){G:Type}(us:G->List AV)(ws:G->Ws)(ls:List Mv.Loc):Prop:=wpW C A (instAll d k vs) fun a w l=>∃g,a=us g/\w=ws g/\l=ls
variable{C:Caller}{A:Asr}{d k:Nat}
theorem L3:c6y C A d k [] (fun _:Unit=>[]) (fun _=>[]) []:=C3 ⟨(),rfl,rfl,rfl⟩
theorem J5{G:Type}{v:AV}{vs:List AV}{us:G->List AV}{ws:G->Ws}{ls:List Mv.Loc}(h:L5 v=true)(t:c6y C A d (k+16) vs us ws ls):c6y C A d k (v::vs) (fun g=>v::us g) ws ls:=by
 refine A5 (b4u h (A5 (I1 t ?_)));rintro _ _ _ ⟨g,rfl,rfl,rfl⟩;exact C3 ⟨g,U,by simp,by simp⟩
theorem L1{G:Type}{s:Nat}{es:List AV}{vs:List AV}{us:G->List AV}{ws:G->Ws}{ls:List Mv.Loc}(t:∀g0,c6y C (put A (.h (tid d k)) (.obj g0 0 s es)) d (k+16) vs us ws ls):
 c6y C A d k (.own s es::vs) (fun g:Nat×G=> .sl (tid d k) g.1 none 0 es.length::us g.2) (fun g=>(.h (tid d k),.obj g.1 0 s es)::ws g.2) (.h (tid d k)::ls):=by
 refine A5 (b1x fun g0=>A5 (I1 (t g0) ?_));rintro _ _ _ ⟨g,rfl,rfl,rfl⟩;exact C3 ⟨(g0,g),U,by simp,by simp⟩
theorem H3{G:Type}{vs:List AV}{us:G->List AV}{ws:G->Ws}{ls:List Mv.Loc}(h:c6y C A d 16 vs us ws ls):a7x C A d (.tup vs) (fun g=> .tup (us g)) ws ls:=by
 refine A5 (I1 h ?_);rintro _ _ _ ⟨g,rfl,rfl,rfl⟩;exact C3 ⟨g,U,by simp,by simp⟩
end
section
variable{cx:Cx}{keep:List Nat}{ops0:Array Oper}{r:List Oper}{A:Asr}{Q:Asr->List Log->Prop}{d:Nat}{ty:Nat}{pos:String}{aft:Array Edge}
theorem a7n{a:Operand}{T id g m s i j:Nat}{es:List AV}{e v:AV}(n:opd A a=some (.ptr id g none i j))(q:look A (.h id)=some (.obj g m s es))(he:es[i]? =some e)(p:((leaves e).all fun l=> !isOwn l)=true)
 (u:partF cx.P T ((leaves e).drop j)=some v) (o:slotOk keep (.t d) v=true)
 (h:XR cx keep ops0 r ((.t d,v)::A) fun c x=>Q c ((rds a++[.h id],[.t d])::x)):XR cx keep ops0 (⟨some d,.load T a,ty,pos,aft,none⟩::r) A Q:=
 d7g n q he (by rw[a4o _ _ (e7m p j)];exact u) o h
theorem a4c{α:Type}[Inhabited α]{f:α->AV}{xs:List α}{a:Operand}{T id g m s i j:Nat}{v:AV}(o:opd A a=some (.ptr id g none i j))(u:look A (.h id)=some (.obj g m s (xs.map f)))(c:i<xs.length)
 (q:∀a,((leaves (f a)).all fun l=> !isOwn l)=true) (x:partF cx.P T ((leaves (f (xs.getD i default))).drop j)=some v) (p:slotOk keep (.t d) v=true)
 (h:XR cx keep ops0 r ((.t d,v)::A) fun n y=>Q n ((rds a++[.h id],[.t d])::y)):XR cx keep ops0 (⟨some d,.load T a,ty,pos,aft,none⟩::r) A Q:=
 a7n (e:=f (xs.getD i default)) o u (by rw[ZE,Zg c,Zc,Zg c];rfl) (q _) x p h
theorem E6{α:Type}[Inhabited α]{f:α->AV}{xs:List α}{a:Operand}{T id g m s i:Nat}(e:opd A a=some (.ptr id g none i 0))(q:look A (.h id)=some (.obj g m s (xs.map f)))(n:i<xs.length)
 (p:∀a,((leaves (f a)).all fun l=> !isOwn l)=true) (u:∀a,partF cx.P T (leaves (f a))=some (f a)) (o:slotOk keep (.t d) (f (xs.getD i default))=true)
 (h:XR cx keep ops0 r ((.t d,f (xs.getD i default))::A) fun c v=>Q c ((rds a++[.h id],[.t d])::v)):XR cx keep ops0 (⟨some d,.load T a,ty,pos,aft,none⟩::r) A Q:=
 a4c e q n p (u _) o h
theorem d3h{a:Operand}{T id g m s:Nat}{e:AV}(i:opd A a=some (.ptr id g none 0 0))(p:look A (.h id)=some (.obj g m s [e]))(o:((leaves e).all fun l=> !isOwn l)=true)
 (q:partF cx.P T (leaves e)=some e) (n:slotOk keep (.t d) e=true)
 (h:XR cx keep ops0 r ((.t d,e)::A) fun c u=>Q c ((rds a++[.h id],[.t d])::u)):XR cx keep ops0 (⟨some d,.load T a,ty,pos,aft,none⟩::r) A Q:=
 a7n i p U o q n h
theorem d4l{a:Operand}{T:Nat}{e:AV}(g:opd A a=some (.ipt e 0))(l:partF cx.P T (leaves e)=some e)(i:slotOk keep (.t d) e=true)
 (h:XR cx keep ops0 r ((.t d,e)::A) fun c n=>Q c ((rds a,[.t d])::n)):XR cx keep ops0 (⟨some d,.load T a,ty,pos,aft,none⟩::r) A Q:=
 c2m g l i h
theorem K4{α:Type}[Inhabited α]{f:α->AV}{xs:List α}{y:α}{T id g m s i:Nat}{a x:Operand}(l:opd A a=some (.ptr id g none i 0))(p:look A (.h id)=some (.obj g m s (xs.map f)))(q:opd A x=some (f y))(n:i<xs.length)
 (o:∀a b,b6v (leaves (f b)) (f a)=true/\(leaves (f a)).length=(tyS cx.P T).size/\0<(leaves (f a)).length/\(leaves (f a)).length<=(leaves (f b)).length/\X9 (leaves (f a)) (leaves (f b))=true/\putAt (f b) 0 (f a)=f a) (hm:m≠2)
 (c:slotOk keep (.h id) (.obj g m s ((xs.set i y).map f))=true)
 (h:XR cx keep ops0 r ((.h id,.obj g m s ((xs.set i y).map f))::A) fun e t=>Q e ((rds a++(rds x++[.h id,.h id,.h id]),[.h id])::t)):
 XR cx keep ops0 (⟨none,.store T a x,ty,pos,aft,none⟩::r) A Q:=d5i l q p n o hm c h
theorem c7u{T id g m s:Nat}{a x:Operand}{e v:AV}(p:opd A a=some (.ptr id g none 0 0))(u:opd A x=some v)(t:look A (.h id)=some (.obj g m s [e]))
 (q:b6v (leaves e) v=true) (c:m≠2/\(leaves v).length=(tyS cx.P T).size/\0<(leaves v).length/\(leaves v).length<=(leaves e).length/\X9 (leaves v) (leaves e)=true) (n:putAt e 0 v=v)
 (l:slotOk keep (.h id) (.obj g m s [v])=true)
 (h:XR cx keep ops0 r ((.h id,.obj g m s [v])::A) fun o y=>Q o ((rds a++(rds x++[.h id,.h id,.h id]),[.h id])::y)):
 XR cx keep ops0 (⟨none,.store T a x,ty,pos,aft,none⟩::r) A Q:=
 b7t (i:=0) (j:=0) p u t U q ⟨c.1,c.2.1,c.2.2.1,by have:=c.2.2.2.1;omega,c.2.2.2.2⟩ (by rw[n];exact l) (by rw[n];exact h)
theorem a2z{α:Type}{f:α->AV}{xs ys:List α}{T T' E s id g n e g2 m2 off c:Nat}{x y:Operand}{z:AV}(Z:opd A x=some (.sl id g none 0 n))(hy:opd A y=some (.sl e g2 none off c))(Y:look A (.h id)=some (.obj g 0 s (xs.map f)))(l:look A (.h e)=some (.obj g2 m2 s (ys.map f)))
 (hid:e<1000000) (q:bxB m2 none=false) (X:n=(xs.map f).length) (B:off+c<=ys.length) (R:Q8 cx.P T=some (E,s)) (p:P2 (tyS cx.P T').k=true) (hz:a0v cx.P E=some (z,s)) (S:(tyS cx.P E).bytes<=4096)
 (u:∀a,(leaves (f a)).all cellLeaf=true/\M1 (f a)=true/\L5 (f a)=true)
 (hle:xs.length+c<=H0) (V:∀g,slotOk keep (.t d) (.sl (tid d 0) g none 0 (xs++(ys.drop off).take c).length)=true)
 (h:∀g',XR cx keep ops0 r ((.t d,.sl (tid d 0) g' none 0 (xs++(ys.drop off).take c).length)::(.h (tid d 0),.obj g' 0 s ((xs++(ys.drop off).take c).map f))::(.h id,.dead g)::A) fun J lg=>Q J ((rds x++(rds y++[.h e,.h e,.h id,.h (tid d 0)]),[.h id,.h (tid d 0),.t d])::lg)):
 XR cx keep ops0 (⟨some d,.call ⟨.builtin .append,#[x,y],#[T,T']⟩,ty,pos,aft,none⟩::r) A Q:=by
 obtain⟨h1,I,M,O⟩:=W6 hz;have i:((ys.drop off).take c).length=c:=by simp;omega
 have el:(xs++(ys.drop off).take c).length=xs.length+c:=by rw[Zf,i]
 have em:(((ys.map f).drop off).take c)=((ys.drop off).take c).map f:=by rw[List.map_take,List.map_drop]
 subst X;refine a3z (v:=fun g'=> .sl (tid d 0) g' none 0 (xs++(ys.drop off).take c).length) (ws:=fun g'=>[(.h id,.dead g),(.h (tid d 0),.obj g' 0 s ((xs++(ys.drop off).take c).map f))]) (ls:=rds x++(rds y++[.h e,.h e,.h id,.h (tid d 0)])) U ?_
  (fun g=>C6 (by simp[slotOk,refOkV]) (C6 (B3 (A6 fun a=>(u a).2.1)) (I4 (V g)))) (fun g=>U) (fun g=>a6r _ _ _ _ _ _ _) h
 simp only[aopV,dstOf];refine A5 (I7 (show wpA (CW cx) A (.ret d) _ from ?_));show wpW (CW cx) (puts A []) _ _;refine A5 (E9 p (A5 (K3 Z (A5 (K3 hy ?_)))));unfold a6j;refine A5 (U0 R (A5 (E9 ⟨S,M,O⟩ (A5 ?_))));simp only[d7u];refine A5 (K1 l (A5 (E9 I.symm ?_)));rw[if_neg (by omega)];refine A5 (I7 ?_);simp only[slc,rdNode,E4];rw[N1 (by exact l)];simp only[E4,F8,F3,q,Zi,B,true_and,and_true,Zm,Zj];rw[em,if_pos (V1 fun a=>(u a).2.2)];refine C3 ?_;refine A5 (E9 (a9q fun a=>(u a).1) ?_);refine A5 (K1 Y (A5 (E9 ⟨U,by simp,I.symm,by simp only[Zi,i];exact hle⟩ (A5 (J6 (A5 (M4 fun o=>A5 (J6 (C3 ?_)))))))));have K:xs.length+(((ys.drop off).take c).map f).length=(xs++(ys.drop off).take c).length:=by rw[el,Zi,i]
 have L:List.take xs.length (xs.map f)=xs.map f:=by rw[<-Zi (f:=f),Yo]
 exact⟨I6 o+1,by rw[K],by simp only[L,Yi];simp,by simp⟩
theorem a1j{x:Operand}{T E id g n m:Nat}{p:Option (Nat×Nat)}{off:Nat}{c:Option Operand}{a:List Mv.Loc}(y:opd A x=some (.sl id g p off n))(i:(tyS cx.P T).k= .slice E)(l:Q3 (tyS cx.P E).k=false)
 (s:wpA (CW cx) A (optNat c n) fun k ls=>k=m/\ls=a) (q:m<=n) (u:slotOk keep (.t d) (.sl id g p off m)=true)
 (h:XR cx keep ops0 r ((.t d,.sl id g p off m)::A) fun e z=>Q e ((rds x++a,[.t d])::z)):XR cx keep ops0 (⟨some d,.slice T x none c none,ty,pos,aft,none⟩::r) A Q:=by
 refine K8 (fun o v=>by simp only[aopV,v]) ?_ u h;simp only[opV,E4,E5 y,sliceA,i,optNat,F3,Zj];refine N5 ?_ s;rintro _ _ ⟨rfl,rfl⟩;simp only[F8,l,F3,ne_eq,not_true_eq_false,false_and,if_false,if_true,Zm,Zj,and_self,and_true,true_and,true_or,Zd,Zv,q]
theorem d3b{x:Operand}{T E id g n m l k0 s:Nat}{off:Nat}{v u:Option Operand}{es:List AV}{e i:List Mv.Loc}(M:opd A x=some (.sl id g none off n))(q:look A (.h id)=some (.obj g k0 s es))(a:Q8 cx.P T=some (E,s))
 (I:wpA (CW cx) A (optNat u n) fun k ls=>k=m/\ls=e) (K:wpA (CW cx) A (optNat v 0) fun k ls=>k=l/\ls=i) (B:l<=m/\m<=n) (p:l≠0) (J:slotOk keep (.t d) (.sl id g none (off+l) (m-l))=true)
 (h:XR cx keep ops0 r ((.t d,.sl id g none (off+l) (m-l))::A) fun y O=>Q y ((rds x++(e++(i++[.h id])),[.t d])::O)):XR cx keep ops0 (⟨some d,.slice T x v u none,ty,pos,aft,none⟩::r) A Q:=by
 refine K8 (fun o q=>by simp only[aopV,q]) ?_ J h;unfold Q8 at a;split at a
 ·rename_i R z
  split at a
  ·rename_i c
   simp only[Zb,Zk]at a;obtain⟨rfl,L⟩:=a;simp only[opV,E4,E5 M,sliceA,z,optNat,F3,Zj];refine N5 ?_ I;rintro _ _ ⟨rfl,rfl⟩;refine N5 ?_ K;rintro _ _ ⟨rfl,rfl⟩;simp only[F8,c,ne_eq,not_true_eq_false,false_and,if_false,and_self,and_true,true_and,true_or,Zd,B,p,E4,rdNode,N1 q,F3,L,Zj,Zm,Yq,YZ]
  ·cases a
 ·cases a
theorem G1{C:Caller}{A:Asr}{x:Operand}{k:IntKind}{n:Nat}{dflt:Nat}(h:opd A x=some (.val (.int k (n:Int)))):wpA C A (optNat (some x) dflt) fun m ls=>m=n/\ls=rds x:=by
 have:=T2 (C:=C) (dflt:=dflt) h (Int.natCast_nonneg n);simpa using this
theorem f2v{α:Type}{C:Caller}{A:Asr}{x:Rd α}{R:α->Ws->List Mv.Loc->Prop}{ls0:List Mv.Loc}(h:wpA C A x fun a ls=>(∀l∈ls,l∈ls0)/\R a [] ls0):wpW C A (up x) R:=by
 intro st i;obtain⟨a,ls,c,e,g⟩:=c5l i _ _ h;exact⟨a,[],ls,ls0,d8o x c,e,g⟩
theorem a8d{x:Operand}{T E id g n m l k0 s:Nat}{off:Nat}{u p:Option Operand}{es:List AV}{a c:List Mv.Loc}(J:opd A x=some (.sl id g none off n))(O:look A (.h id)=some (.obj g k0 s es))(i:Q8 cx.P T=some (E,s))
 (z:wpA (CW cx) A (optNat p n) fun k ls=>k=m/\ls=a) (I:wpA (CW cx) A (optNat u 0) fun k ls=>k=l/\ls=c) (y:l<=m/\m<=n) (B:slotOk keep (.t d) (.sl id g none (off+l) (m-l))=true)
 (h:XR cx keep ops0 r ((.t d,.sl id g none (off+l) (m-l))::A) fun K R=>Q K ((rds x++(a++(c++[.h id])),[.t d])::R)):XR cx keep ops0 (⟨some d,.slice T x u p none,ty,pos,aft,none⟩::r) A Q:=by
 by_cases o:l=0
 ·refine d8w (v:= .sl id g none (off+l) (m-l)) (ws:=[]) (ls:=rds x++(a++(c++[.h id]))) U ?_ (I4 B) (fun k b M=>by rw[<-M];exact(a5w A _ _ k).symm) h
  show wpW (CW cx) A (up (opV cx (.slice T x u p none))) _;refine f2v (ls0:=rds x++(a++(c++[.h id]))) ?_;unfold Q8 at i;split at i
  ·rename_i S L
   split at i
   ·rename_i e
    simp only[opV,E4,E5 J,sliceA,L,optNat,F3,Zj];refine N5 ?_ z;rintro _ _ ⟨rfl,rfl⟩;refine N5 ?_ I;rintro _ _ ⟨rfl,rfl⟩;simp only[F8,e,ne_eq,not_true_eq_false,false_and,if_false,and_self,and_true,true_and,true_or,Zd,y,o,if_true,F3,Nat.add_zero,Nat.sub_zero,Zm];refine⟨Zv _,fun q hq=> ?_⟩;simp only[ZF]at hq|-;rcases hq with hq|hq|hq
    ·exact .inl hq
    ·exact .inr (.inl hq)
    ·exact .inr (.inr (.inl hq))
   ·cases i
  ·cases i
 ·exact d3b J O i z I y o B h
theorem e7u{x:Operand}{T E id g n:Nat}{a mx:Operand}{k k':IntKind}(y:opd A x=some (.sl id g none 0 n))(q:(tyS cx.P T).k= .slice E)(s:Q3 (tyS cx.P E).k=false)
 (u:opd A a=some (.val (.int k n))) (hm:opd A mx=some (.val (.int k' n))) (B:slotOk keep (.t d) (.sl id g none 0 n)=true)
 (z:n=0->XR cx keep ops0 r ((.t d,.nil)::A) fun i p=>Q i ((rds x++(rds mx++rds a),[.t d])::p))
 (h:n≠0->XR cx keep ops0 r ((.t d,.sl id g none 0 n)::A) fun i p=>Q i ((rds x++(rds mx++rds a),[.t d])::p)):XR cx keep ops0 (⟨some d,.slice T x none (some a) (some mx),ty,pos,aft,none⟩::r) A Q:=by
 have e:(n:Int).toNat=n:=by simp
 by_cases c:n=0
 ·refine K8 (v:= .nil) (fun o l=>by simp only[aopV,l]) ?_ (by simp[slotOk,refOkV,refsOk]) (z c)
  simp only[opV,E4,E5 y,sliceA,q,optNat,E5 u,E5 hm,X6 (Int.natCast_nonneg n),e,F3,F8,s];simp[c,wpA]
 ·refine K8 (v:= .sl id g none 0 n) (fun o l=>by simp only[aopV,l]) ?_ B (h c)
  simp only[opV,E4,E5 y,sliceA,q,optNat,E5 u,E5 hm,X6 (Int.natCast_nonneg n),e,F3,F8,s];simp[c,wpA]
theorem a6y{x:Operand}{g s n:Nat}{es:List AV}(o:opd A x=some (.sl d g none 0 n))(l:look A (.h d)=some (.obj g 0 s es))(i:n<=es.length)
 (a:slotOk keep (.h d) (.obj g 0 s (es.take n))=true) (e:slotOk keep (.t d) (.sl d g none 0 n)=true)
 (h:XR cx keep ops0 r ((.t d,.sl d g none 0 n)::(.h d,.obj g 0 s (es.take n))::A) fun c p=>Q c ((rds x++[.h d],[.h d,.t d])::p)):
 XR cx keep ops0 (⟨some d,.assign x,ty,pos,aft,none⟩::r) A Q:=by
 refine d8w (v:= .sl d g none 0 n) (ws:=[(.h d,.obj g 0 s (es.take n))]) (ls:=rds x++[.h d]) U ?_ (C6 a (I4 e)) (a2v _ _ _ _ _) h;simp only[aopV];refine A5 (K3 o ?_);simp only[a2w];refine A5 (K1 l ?_);simp only[if_true];refine A5 (E9 i (A5 (J6 (C3 ?_))));exact⟨U,by simp,by simp⟩
end
theorem P7{α:Type}{f:α->AV}{xs:List α}(h:∀a,hasList (f a)=false):G3 (xs.map f)=false:=by
 induction xs with
 |nil=>rfl
 |cons x xs c=>simp[G3,h,c]
theorem f6v{α:Type}{f:α->AV}{xs:List α}(h:∀a,hasList (f a)=false):[xs.map f].any G3=false:=by
 simp[P7 h]
theorem a9c(x:Int)(r:List Int):(b6i x r).Perm (x::r):=by
 induction r with
 |nil=>exact .refl _
 |cons y r a=>
  simp only[b6i];split
  ·exact .refl _
  ·exact(List.Perm.cons y a).trans (List.Perm.swap x y r)
theorem T5(xs:List Int):(T3 xs).Perm xs:=by
 induction xs with
 |nil=>exact .refl _
 |cons x r a=>exact(a9c x (T3 r)).trans (List.Perm.cons x a)
theorem a7e(x:Int)(r:List Int)(h:r.Pairwise (·<= ·)):(b6i x r).Pairwise (·<= ·):=by
 induction r with
 |nil=>simp[b6i]
 |cons y r g=>
  simp only[b6i];have e:=YE.1 h;split
  ·rename_i c
   refine YE.2 ⟨fun z a=> ?_,h⟩;rcases ZM.1 a with rfl|a
   ·exact c
   ·have:=e.1 z a;omega
  ·rename_i c
   refine YE.2 ⟨fun z a=> ?_,g e.2⟩;rcases ZM.1 ((a9c x r).mem_iff.1 a)with rfl|a
   ·omega
   ·exact e.1 z a
theorem a0u(xs:List Int):(T3 xs).Pairwise (·<= ·):=by
 induction xs with
 |nil=>exact .nil
 |cons x r a=>exact a7e x _ a
theorem f0y{xs ys:List Int}(c:ys.Perm xs)(e:ys.Pairwise (·<= ·)):ys=T3 xs:=
 List.Perm.eq_of_pairwise (le:=(·<= ·)) (fun a b _ _ g h=>by omega) e (a0u xs) (c.trans (T5 xs).symm)
theorem b5k{s:List Int}(h:s.Pairwise (·<= ·)){i j:Nat}(e:i<=j)(c:j<s.length):s.getD i default<=s.getD j default:=by
 rw[Zc,Zc,Zg (by omega),Zg c];rcases Nat.lt_or_ge i j with a|a
 ·exact Xk.1 h i j (by omega) c a
 ·have:i=j:=by omega
  subst this;exact Xi _
theorem a2e{xs:List Int}{x:Int}(h:x∈xs):∃i,i<xs.length/\xs.getD i default=x:=by
 obtain⟨i,a,rfl⟩:=Xl h;exact⟨i,a,by rw[Zc,Zg a];rfl⟩
theorem c4e{out:List Int}{x:Int}{k:Nat}(g:out.Pairwise (·<= ·))(u:k<=out.length)(n:∀j,j<k->out.getD j default<=x)(o:k<out.length->x<=out.getD k default):
 out.take k++[x]++out.drop k=b6i x out:=by
 have t:(out.take k++[x]++out.drop k).Perm (x::out):=by
  have:=(List.perm_middle (l₁:=out.take k) (l₂:=out.drop k) (a:=x));rw[List.take_append_drop]at this;rw[Yq];exact this
 have h:(out.take k++[x]++out.drop k).Pairwise (·<= ·):=by
  rw[Yq,List.pairwise_append];refine⟨g.take,?_,?_⟩
  ·rw[YZ,YE]
   refine⟨fun b c=> ?_,g.drop⟩;obtain⟨i,l,rfl⟩:=a2e c;rw[Yp]at l;have e:(out.drop k).getD i default=out.getD (k+i) default:=by rw[Zc,Zc,Yd]
   rw[e];exact Int.le_trans (o (by omega)) (b5k g (by omega) (by omega))
  ·intro a q b c
   obtain⟨i,l,rfl⟩:=a2e q;rw[ZH]at l;have e:(out.take k).getD i default=out.getD i default:=by rw[Zc,Zc,YA,if_pos (by omega)]
   rw[e];rw[YZ,ZM]at c;rcases c with rfl|c
   ·exact n i (by omega)
   ·obtain⟨j,s,rfl⟩:=a2e c
    rw[Yp]at s;have p:(out.drop k).getD j default=out.getD (k+j) default:=by rw[Zc,Zc,Yd]
    rw[p];exact b5k g (by omega) (by omega)
 exact List.Perm.eq_of_pairwise (le:=(·<= ·)) (fun a b _ _ n o=>by omega) h (a7e x out g) (t.trans (a9c x out).symm)
theorem b5n{out:List Int}{x:Int}{k:Nat}(g:out.Pairwise (·<= ·))(e:k<=out.length)(a:∀j,j<k->out.getD j default<=x)(c:k<out.length->x<=out.getD k default):
 (([]++(out.drop 0).take k)++[x])++(out.drop (0+k)).take (out.length-k)=b6i x out:=by
 rw[<-c4e g e a c];simp;exact ZB (by simp)
theorem c0s{xs:List Int}{i:Nat}(h:i<xs.length):T3 (xs.take (i+1))=b6i (xs.getD i default) (T3 (xs.take i)):=by
 refine(f0y ?_ (a7e _ _ (a0u _))).symm;have e:xs.take (i+1)=xs.take i++[xs.getD i default]:=by
  rw[List.take_add_one,Zc,Zg h];rfl
 rw[e];exact((a9c _ _).trans (List.Perm.cons _ (T5 _))).trans (List.perm_append_comm (l₁:=[xs.getD i default]) (l₂:=xs.take i))
def bitN(s i:Nat):Nat:=s/2^i%2
theorem f1c{n:Nat}(h:n<2^63):Yt.wrap (n:Int)=(n:Int):=a2s (B9 (by omega))
theorem e8p{a:Nat}(h:a<2^63):(Yf Yt.bits (a:Int)).toNat=a:=by
 rw[BitVec.toNat_ofInt];simp only[IntKind.bits];omega
theorem f3f{a b:Nat}(c:a<2^63)(e:b<2^63):Yt.wrap ((Yf Yt.bits (a:Int)&&&Yf Yt.bits (b:Int)).toNat)=((a&&&b:Nat):Int):=by
 rw[BitVec.toNat_and,e8p c,e8p e];exact f1c (Nat.lt_of_le_of_lt Nat.and_le_left c)
theorem d5a(i:Nat):((2:Int)^i)=((2^i:Nat):Int):=by simp
section
variable{cx:Cx}{keep:List Nat}{ops0:Array Oper}{r:List Oper}{A:Asr}{Q:Asr->List Log->Prop}{d:Nat}{ty:Nat}{pos:String}{aft:Array Edge}
theorem f4n{T z:Nat}{a b:Operand}{x y:Nat}(g:opd A a=some (iV (x:Int)))(i:opd A b=some (iV (y:Int)))(n:y<64)
 (h:XR cx keep ops0 r ((.t d,iV ((x/2^y:Nat):Int))::A) fun c l=>Q c ((rds a++rds b,[.t d])::l)):XR cx keep ops0 (⟨some d,.binOp .shr T a b z,ty,pos,aft,none⟩::r) A Q:=by
 refine c5j g i (by simp only[IntKind.bits];omega) ?_;have e:(x:Int).fdiv (2^(y:Int).toNat)=((x/2^y:Nat):Int):=by
  rw[Int.toNat_natCast,d5a,XH _ (Int.natCast_nonneg _)];simp
 rw[e];exact h
theorem e9n{T z:Nat}{a b:Operand}{x y:Nat}(g:opd A a=some (iV (x:Int)))(i:opd A b=some (iV (y:Int)))(n:y<64/\x*2^y<2^63)
 (h:XR cx keep ops0 r ((.t d,iV ((x*2^y:Nat):Int))::A) fun c l=>Q c ((rds a++rds b,[.t d])::l)):XR cx keep ops0 (⟨some d,.binOp .shl T a b z,ty,pos,aft,none⟩::r) A Q:=by
 have e:(x:Int)*2^(y:Int).toNat=((x*2^y:Nat):Int):=by
  rw[Int.toNat_natCast,d5a];simp
 refine f6t g i ⟨by omega,by simp only[IntKind.bits];omega,by rw[e];exact B9 (by omega)⟩ ?_;rw[e];exact h
theorem f5x{T z:Nat}{a b:Operand}{x:Nat}(i:opd A a=some (iV (x:Int)))(l:opd A b=some (iV 1))(n:x<2^63)
 (h:XR cx keep ops0 r ((.t d,iV ((x%2:Nat):Int))::A) fun c o=>Q c ((rds a++rds b,[.t d])::o)):XR cx keep ops0 (⟨some d,.binOp .and T a b z,ty,pos,aft,none⟩::r) A Q:=by
 refine e2n i l ?_;have e:=f3f n (show 1<2^63 by decide);rw[Nat.and_one_is_mod]at e;have g:Yt.wrap ((Yf Yt.bits (x:Int)&&&Yf Yt.bits 1).toNat)=((x%2:Nat):Int):=e;rw[g];exact h
end
end Go.Mv
end
section
namespace Go.Mv
open Go Classical
section
variable{cx:Cx}{keep:List Nat}{ops0:Array Oper}{r:List Oper}{A:Asr}{Q:Asr->List Log->Prop}{d:Nat}{ty:Nat}{pos:String}{aft:Array Edge}
theorem f0z{T z:Nat}{a b:Operand}{x y:ByteArray}{t:Bool}(e:opd A a=some (.val (.string x)))(g:opd A b=some (.val (.string y)))(i:(x.toList==y.toList)=t)
 (h:XR cx keep ops0 r ((.t d,bV t)::A) fun c l=>Q c ((rds a++rds b,[.t d])::l)):XR cx keep ops0 (⟨some d,.binOp .eql T a b z,ty,pos,aft,none⟩::r) A Q:=by
 subst i;exact K0 e g h
end
def a1c(c a:Int)(xs:List Int):Bool:=xs.all fun x=>decide (c<=x)&&decide (x<=a)
theorem U2{e c:Int}{xs:List Int}:a1c e c xs=true↔∀i,i<xs.length->e<=xs.getD i default/\xs.getD i default<=c:=by
 unfold a1c;rw[Zt];constructor
 ·intro h i a
  have:=h _ (N3 a);simpa using this
 ·intro h x g
  obtain⟨i,a,rfl⟩:=a2e g;simpa using h i a
theorem c0z{e c:Int}{xs:List Int}(h:a1c e c xs=true){x:Int}(g:x∈xs):e<=x/\x<=c:=by
 obtain⟨i,a,rfl⟩:=a2e g;exact U2.1 h i a
def vo(l:List Int):Bool:=decide (1<=l.length)&&decide (l.length<=6)&&a1c 0 1000 l
theorem d8u{l:List Int}:vo l=true↔1<=l.length/\l.length<=6/\a1c 0 1000 l=true:=by
 unfold vo;simp only[Zy,decide_eq_true_eq,and_assoc]
def f5z(l:List Int)(s:Nat):Nat->List Int
 |0=>[]
 |k+1=>if bitN s k=1 then f5z l s k++[l.getD k default]else f5z l s k
def sel(l:List Int)(s:Nat):List Int:=f5z l s l.length
def Fnd(e:Bool)(s:List Int)(a:Int):Prop:=∃i,i<s.length/\s.getD i default*s.length<=if e then((i:Int)+1)*a else a
def CPr(l:List Int)(a:Int)(e:Bool)(i:Nat):Prop:=∀s,1<=s->s<2^l.length->bitN s i=1->Fnd e (T3 (sel l s)) a
noncomputable def f7h(l:List Int)(a:Int)(e:Bool)(k:Nat):List Int:=((Yb k).filter fun i=>decide (CPr l a e i)).map Int.ofNat
noncomputable def clo(l:List Int)(a:Int)(e:Bool):List Int:=f7h l a e l.length
theorem f7e{n:Nat}(h:n<=6):2^n<=64:=Nat.pow_le_pow_right (n:=2) (by decide) h
theorem f1i{xs:List Int}{q:Int->Bool}{i:Nat}(a:i<xs.length)(h:q (xs.getD i default)=true):decide (0<=(i:Int))=xs.any q:=by
 rw[decide_eq_true (Int.natCast_nonneg i)];exact(List.any_eq_true.2 ⟨_,N3 a,h⟩).symm
theorem e6r{xs:List Int}{q:Int->Bool}(h:∀j,j<xs.length->q (xs.getD j default)=false):decide (0<=(-1:Int))=xs.any q:=by
 have:xs.any q=false:=by
  rw[List.any_eq_false];intro x c;obtain⟨i,a,rfl⟩:=a2e c;rw[h i a];decide
 rw[this];rfl
theorem e6v(c a:Int)(xs:List Int):(!(xs.any fun x=> !(decide (c<=x)&&decide (x<=a))))=a1c c a xs:=by
 unfold a1c;rw[List.not_any_eq_all_not];simp
theorem f4l{xs:List Int}{i:Nat}(a:i<xs.length)(h:¬(0<=xs.getD i default/\xs.getD i default<=1000)):vo xs=false:=by
 rw[Bool.eq_false_iff];exact fun c=>h (U2.1 (d8u.1 c).2.2 i a)
theorem f3m{xs:List Int}(h:∀j,j<xs.length->0<=xs.getD j default/\xs.getD j default<=1000):vo xs=(decide (1<=(xs.length:Int))&&decide ((xs.length:Int)<=6)):=by
 unfold vo;rw[U2.2 h,Bool.and_true];congr 1<;>rw[decide_eq_decide]<;>omega
theorem N2{α:Type}[Inhabited α]{xs:List α}{i:Nat}(h:i<xs.length):xs.getD i default∈xs:=by
 rw[Zc,Zg h];exact List.getElem_mem h
theorem c5g{x n b m:Int}(h:0<=x/\x<=b)(c:n<=m)(a:0<=n):0<=x*n/\x*n<=b*m:=by
 refine⟨Int.mul_nonneg h.1 a,?_⟩;exact Int.le_trans (Int.mul_le_mul_of_nonneg_right h.2 a) (Int.mul_le_mul_of_nonneg_left c (by omega))
end Go.Mv
end
section
namespace Go.Mv
open Go Classical
abbrev nV(x:Nat):AV:=iV (x:Int)
def LTl(l:List Int)(a b:Nat):Prop:=l.getD a default<l.getD b default\/(l.getD a default=l.getD b default/\a<b)
theorem LTl.trans{l:List Int}{a b c:Nat}(h:LTl l a b)(e:LTl l b c):LTl l a c:=by unfold LTl at*;omega
theorem LTl.irr{l:List Int}{a:Nat}:¬LTl l a a:=by unfold LTl;omega
theorem LTl.le{l:List Int}{a b:Nat}(h:LTl l a b):l.getD a default<=l.getD b default:=by unfold LTl at h;omega
def Ord(l:List Int)(i:Nat)(d:List Nat):Prop:=d.length=l.length/\i<=l.length/\(∀x,i<=x->x<l.length->d.getD x default=x)/\(∀x,x<i->d.getD x default<i)/\
 (∀x y,x<y->y<i->LTl l (d.getD x default) (d.getD y default))/\∀v,v<i->∃x,x<i/\d.getD x default=v
def a6z(l:List Int)(i:Nat)(d0:List Nat)(j:Nat)(d:List Nat):Prop:=j<=i/\d.length=l.length/\
 (∀x,x<l.length->d.getD x default=if x<j then d0.getD x default else if x=j then i else if x<=i then d0.getD (x-1) default else x)/\∀x,j<=x->x<i->l.getD i default<l.getD (d0.getD x default) default
theorem b5a{l:List Nat}{i j x:Nat}(a:i<l.length):(l.set i x).getD j default=if j=i then x else l.getD j default:=a3r l i x j a
theorem a6z.start{l:List Int}{i:Nat}{d0:List Nat}(h:Ord l i d0)(g:i<l.length):a6z l i d0 i d0:=by
 refine⟨Zd _,h.1,fun x e=> ?_,fun x a c=>by omega⟩;by_cases a:x<i
 ·rw[if_pos a]
 ·rw[if_neg a]
  by_cases c:x=i
  ·subst c;rw[if_pos U,h.2.2.1 x (Zd _) e]
  ·rw[if_neg c,if_neg (by omega),h.2.2.1 x (by omega) e]
theorem a6z.step{l:List Int}{i j:Nat}{d0 d:List Nat}(h:a6z l i d0 j d)(t:i<l.length)(u:0<j)(hlt:l.getD (d.getD j default) default<l.getD (d.getD (j-1) default) default):
 a6z l i d0 (j-1) ((d.set j (d.getD (j-1) default)).set (j-1) (d.getD j default)):=by
 obtain⟨s,n,c,o⟩:=h;have e:d.getD j default=i:=by rw[c j (by omega),if_neg (by omega),if_pos U]
 have g:d.getD (j-1) default=d0.getD (j-1) default:=by rw[c (j-1) (by omega),if_pos (by omega)]
 rw[e,g]at hlt;refine⟨by omega,by simp[n],fun x p=> ?_,fun x v q=> ?_⟩
 ·rw[b5a (by rw[List.length_set];omega),b5a (by omega),e,g]
  by_cases a:x=j-1
  ·rw[if_pos a,if_neg (by omega),if_pos a]
  ·rw[if_neg a]
   by_cases a2:x=j
   ·rw[if_pos a2,if_neg (by omega),if_neg a,if_pos (by omega),a2]
   ·rw[if_neg a2,c x p]
    by_cases a3:x<j
    ·rw[if_pos a3,if_pos (by omega)]
    ·simp only[a,a2,a3,if_false,show¬x<j-1 by omega]
 ·by_cases a:x=j-1
  ·subst a;exact hlt
  ·exact o x (by omega) q
theorem a6z.fin{l:List Int}{i j:Nat}{d0 d:List Nat}(z:Ord l i d0)(h:a6z l i d0 j d)(L:i<l.length)(he:j=0\/¬l.getD (d.getD j default) default<l.getD (d.getD (j-1) default) default):Ord l (i+1) d:=by
 obtain⟨K,B,a,E⟩:=h;obtain⟨g1,g2,g3,g4,g5,g6⟩:=z;have u:d.getD j default=i:=by rw[a j (by omega),if_neg (by omega),if_pos U]
 have g:∀x,x<j->LTl l (d0.getD x default) i:=by
  intro x I;have hle:l.getD (d0.getD (j-1) default) default<=l.getD i default:=by
   rcases he with he|he
   ·omega
   ·rw[u,a (j-1) (by omega),if_pos (by omega)]at he;omega
  have J:=g4 x (by omega);by_cases e:x=j-1
  ·subst e;unfold LTl;omega
  ·have:=(g5 x (j-1) (by omega) (by omega)).le
   unfold LTl;omega
 have c:∀x,j<=x->x<i->LTl l i (d0.getD x default):=fun x o q=> .inl (E x o q)
 refine⟨B,by omega,fun x o q=> ?_,fun x o=> ?_,fun x y o q=> ?_,fun v M=> ?_⟩
 ·rw[a x q,if_neg (by omega),if_neg (by omega),if_neg (by omega)]
 ·rw[a x (by omega)]
  split
  ·have:=g4 x (by omega);omega
  ·split
   ·omega
   ·have:=g4 (x-1) (by omega)
    rw[if_pos (by omega)];omega
 ·rw[a x (by omega),a y (by omega)]
  by_cases p:y<j
  ·rw[if_pos (show x<j by omega),if_pos p];exact g5 x y o (by omega)
  ·rw[if_neg p]
   by_cases a2:y=j
   ·rw[if_pos a2,if_pos (show x<j by omega)];exact g x (by omega)
   ·rw[if_neg a2,if_pos (show y<=i by omega)]
    by_cases s:x<j
    ·rw[if_pos s];exact g5 x (y-1) (by omega) (by omega)
    ·rw[if_neg s]
     by_cases t:x=j
     ·rw[if_pos t];exact c (y-1) (by omega) (by omega)
     ·rw[if_neg t,if_pos (show x<=i by omega)];exact g5 (x-1) (y-1) (by omega) (by omega)
 ·by_cases e:v=i
  ·exact⟨j,by omega,by rw[u,e]⟩
  ·obtain⟨x,I,n⟩:=g6 v (by omega)
   by_cases p:x<j
   ·exact⟨x,by omega,by rw[a x (by omega),if_pos p,n]⟩
   ·refine⟨x+1,by omega,?_⟩
    rw[a (x+1) (by omega),if_neg (by omega),if_neg (by omega),if_pos (by omega)];simpa using n
theorem Ord.one{l:List Int}{d:List Nat}(h:d.length=l.length)(a:∀x,x<l.length->d.getD x default=x)(e:1<=l.length):Ord l 1 d:=by
 refine⟨h,e,fun x _ c=>a x c,fun x c=> ?_,fun x y g i=>by omega,fun v n=>⟨0,by omega,?_⟩⟩
 ·rw[a x (by omega)];exact c
 ·rw[a 0 (by omega)];omega
noncomputable def pl(l:List Int)(i k:Nat):Nat:=(Yb k).countP fun x=>decide (LTl l x i)
theorem a4d(l:List Int)(i k:Nat):pl l i (k+1)=if LTl l k i then pl l i k+1 else pl l i k:=by
 unfold pl;rw[YS,YP];by_cases h:LTl l k i<;>simp[h]
theorem f4e(l:List Int)(i k:Nat):pl l i k<=k:=by
 unfold pl;exact Yg List.countP_le_length (by simp)
noncomputable def at'(l:List Int)(i:Nat):Nat:=pl l i l.length
theorem c8a{α:Type}{p:α->Bool}{d:List α}{r:Nat}(e:r<=d.length)(a:∀x∈d.take r,p x=true)(c:∀x∈d.drop r,p x=false):d.countP p=r:=by
 conv=>lhs;rw[<-List.take_append_drop r d]
 rw[YP,List.countP_eq_length.2 a,List.countP_eq_zero.2 (fun x g=>by simp[c x g])];simp[e]
theorem b4m{xs:List Nat}{x:Nat}(h:x∈xs):∃i,i<xs.length/\xs.getD i default=x:=by
 obtain⟨i,a,rfl⟩:=Xl h;exact⟨i,a,by rw[Zc,Zg a];rfl⟩
theorem Ord.perm{l:List Int}{d:List Nat}(h:Ord l l.length d):(Yb l.length).Perm d:=by
 obtain⟨g1,g2,g3,g4,g5,g6⟩:=h;have n:d.Nodup:=by
  rw[List.nodup_iff_pairwise_ne,Xk];intro i j o p g e;have:=g5 i j g (by omega);rw[Zc,Zc,Zg o,Zg p]at this;simp only[Option.getD_some,e]at this;exact LTl.irr this
 rw[List.perm_ext_iff_of_nodup List.nodup_range n];intro a;rw[List.mem_range];constructor
 ·intro c
  obtain⟨x,q,rfl⟩:=g6 a c;exact N2 (by omega)
 ·intro c
  obtain⟨x,q,rfl⟩:=b4m c;exact g4 x (by omega)
theorem Ord.count{l:List Int}{d:List Nat}(h:Ord l l.length d){p:Nat->Bool}{r:Nat}(n:r<=l.length)(g:∀x,x<r->p (d.getD x default)=true)(i:∀x,r<=x->x<l.length->p (d.getD x default)=false):(Yb l.length).countP p=r:=by
 rw[h.perm.countP_eq];refine c8a (by rw[h.1];exact n) (fun y c=> ?_) (fun y c=> ?_)
 ·obtain⟨x,a,rfl⟩:=b4m c
  rw[ZH]at a;have e:(d.take r).getD x default=d.getD x default:=by rw[Zc,Zc,YA,if_pos (by omega)]
  rw[e];exact g x (by omega)
 ·obtain⟨x,a,rfl⟩:=b4m c
  rw[Yp,h.1]at a;have e:(d.drop r).getD x default=d.getD (r+x) default:=by rw[Zc,Zc,Yd]
  rw[e];exact i (r+x) (by omega) (by omega)
theorem Ord.at{l:List Int}{d:List Nat}(h:Ord l l.length d){r:Nat}(c:r<l.length):at' l (d.getD r default)=r:=by
 obtain⟨g1,g2,g3,g4,g5,g6⟩:=id h;refine h.count (Nat.le_of_lt c) (fun x i=>decide_eq_true (g5 x r i c)) (fun x n g=>decide_eq_false fun a=> ?_);by_cases e:x=r
 ·subst e;exact LTl.irr a
 ·exact LTl.irr (a.trans (g5 r x (by omega) g))
theorem Ord.ix{l:List Int}{d:List Nat}(h:Ord l l.length d){k:Nat}(c:k<l.length):at' l k<l.length/\d.getD (at' l k) default=k:=by
 obtain⟨x,a,rfl⟩:=h.2.2.2.2.2 k c;rw[h.at a];exact⟨a,U⟩
noncomputable def mxU(l:List Int)(i:Nat):Nat->Int
 |0=>0
 |k+1=>if at' l k<=at' l i then max (mxU l i k) (l.getD k default*((l.length:Int)-(at' l k:Int)))else mxU l i k
theorem e0d{l:List Int}{i:Nat}{V:Int}(o:0<=V):∀k,(mxU l i k<=V↔∀x,x<k->at' l x<=at' l i->l.getD x default*((l.length:Int)-(at' l x:Int))<=V)
 |0=>⟨fun _ x h=>by omega,fun _=>o⟩
 |k+1=>by
  unfold mxU;have n:=e0d (l:=l) (i:=i) o k;by_cases c:at' l k<=at' l i
  ·rw[if_pos c]
   constructor
   ·intro h x g a
    by_cases e:x=k
    ·subst e;omega
    ·exact n.1 (by omega) x (by omega) a
   ·intro h
    have p:=n.2 fun x g=>h x (by omega)
    have q:=h k (by omega) c;omega
  ·rw[if_neg c,n]
   constructor
   ·intro h x g a
    by_cases e:x=k
    ·subst e;exact absurd a c
    ·exact h x (by omega) a
   ·exact fun h x g=>h x (by omega)
noncomputable def sdv(l:List Int)(i:Nat):Int:=min (mxU l i l.length) 1000
noncomputable def sdU(l:List Int)(k:Nat):List Int:=(Yb k).map (sdv l)
noncomputable def sdR(l:List Int):List Int:=if vo l=true then sdU l l.length else[]
theorem e7g(l:List Int)(k:Nat):sdU l (k+1)=sdU l k++[sdv l k]:=by unfold sdU;rw[YS,Yi];rfl
@[simp] theorem d8l(l:List Int)(k:Nat):(sdU l k).length=k:=by simp[sdU]
theorem e6f{l:List Int}{k i:Nat}(h:i<k):(sdU l k).getD i default=sdv l i:=by
 unfold sdU;rw[Zc,ZE,Yv h];rfl
noncomputable def mR(l:List Int)(d:List Nat):Nat->Int
 |0=>0
 |r+1=>max (mR l d r) (min 1000 (l.getD (d.getD r default) default*((l.length:Int)-(r:Int))))
theorem f4a{l:List Int}{d:List Nat}{V:Int}(a:0<=V):∀r,(mR l d r<=V↔∀x,x<r->min 1000 (l.getD (d.getD x default) default*((l.length:Int)-(x:Int)))<=V)
 |0=>⟨fun _ x h=>by omega,fun _=>a⟩
 |r+1=>by
  unfold mR;have c:=f4a (l:=l) (d:=d) a r;constructor
  ·intro h x g
   by_cases e:x=r
   ·subst e;omega
   ·exact c.1 (by omega) x (by omega)
  ·intro h
   have i:=c.2 fun x g=>h x (by omega)
   have n:=h r (by omega);omega
theorem f0q{l:List Int}{d:List Nat}:∀r,0<=mR l d r
 |0=>Xi _
 |r+1=>by have:=f0q (l:=l) (d:=d) r;unfold mR;omega
theorem d0z{l:List Int}{i:Nat}:∀k,0<=mxU l i k
 |0=>Xi _
 |k+1=>by have:=d0z (l:=l) (i:=i) k;unfold mxU;split<;>omega
theorem Ord.mR{l:List Int}{d:List Nat}(h:Ord l l.length d){r:Nat}(e:r<l.length):Mv.mR l d (r+1)=sdv l (d.getD r default):=by
 have key:∀V:Int,0<=V->(Mv.mR l d (r+1)<=V↔sdv l (d.getD r default)<=V):=by
  intro V a;rw[f4a a];unfold sdv;constructor
  ·intro g
   by_cases p:1000<=V
   ·omega
   ·have:mxU l (d.getD r default) l.length<=V:=(e0d a _).2 fun k o n=>by
     obtain⟨t,a2⟩:=h.ix o;rw[h.at e]at n;have:=g (at' l k) (by omega);rw[a2]at this;omega
    omega
  ·intro hm x g
   by_cases p:1000<=V
   ·omega
   ·have c:mxU l (d.getD r default) l.length<=V:=by omega
    have:=(e0d a _).1 c (d.getD x default) (h.2.2.2.1 x (by omega)) (by rw[h.at e,h.at (by omega)];omega);rw[h.at (by omega)]at this;omega
 have q:=f0q (l:=l) (d:=d) (r+1);have s:0<=sdv l (d.getD r default):=by have:=d0z (l:=l) (i:=d.getD r default) l.length;unfold sdv;omega
 have u:=(key _ s).2 (Xi _);have v:=(key _ q).1 (Xi _);omega
end Go.Mv
namespace Go.Mv
open Go Classical
def c3s(x y:Int):Int:=if x<y then-1 else if y<x then 1 else 0
theorem c2o{x y:Int}:c3s x y<0↔x<y:=by unfold c3s;split<;>(try split)<;>omega
theorem f1j(x y:Int): -1<=c3s x y/\c3s x y<=1:=by unfold c3s;split<;>(try split)<;>omega
theorem a6z.lt{l:List Int}{i j:Nat}{d0 d:List Nat}(e:Ord l i d0)(h:a6z l i d0 j d)(g:i<l.length){x:Nat}(c:x<l.length):d.getD x default<l.length:=by
 rw[h.2.2.1 x c];have a:=e.2.2.2.1;split
 ·have:=a x (by have:=h.1;omega);omega
 ·split
  ·exact g
  ·split
   ·have:=a (x-1) (by omega);omega
   ·exact c
theorem f2m{l:List Int}{d:List Nat}(h:d.length=l.length)(a:∀x,x<l.length->d.getD x default=x)(c:1<=l.length):Ord l 1 d:=Ord.one h a c
noncomputable def plU(l:List Int)(k:Nat):List Nat:=(Yb k).map (at' l)
theorem f0h(l:List Int)(k:Nat):plU l (k+1)=plU l k++[at' l k]:=by unfold plU;rw[YS,Yi];rfl
@[simp] theorem d7y(l:List Int)(k:Nat):(plU l k).length=k:=by simp[plU]
theorem d3p{l:List Int}{k i:Nat}(h:i<k):(plU l k).getD i default=at' l i:=by
 unfold plU;rw[Zc,ZE,Yv h];rfl
def Fil(l:List Int)(d:List Nat)(r:Nat)(out:List Int):Prop:=r<=l.length/\out.length=l.length/\∀x,x<r->out.getD (d.getD x default) default=mR l d (x+1)
theorem Fil.set{l:List Int}{d:List Nat}(h:Ord l l.length d){r:Nat}{out:List Int}(n:Fil l d r out)(a:r<l.length):Fil l d (r+1) (out.set (d.getD r default) (mR l d (r+1))):=by
 obtain⟨o,c,g⟩:=n;have i:=h.2.2.2.1 r a;refine⟨by omega,by simp[c],fun x p=> ?_⟩;rw[a3r _ _ _ _ (by omega)];by_cases e:x=r
 ·subst e;rw[if_pos U]
 ·rw[if_neg,g x (by omega)]
  intro he;have:=h.2.2.2.2.1 x r (by omega) a;rw[he]at this;exact LTl.irr this
theorem Fil.fin{l:List Int}{d:List Nat}(h:Ord l l.length d){r:Nat}{out:List Int}(g:Fil l d r out)(p:l.length<=r):out=sdU l l.length:=by
 obtain⟨n,c,e⟩:=g;refine a1t (d:=default) (by simp[c]) fun i o=> ?_
 obtain⟨a,a2⟩:=h.ix (k:=i) (by omega);rw[e6f (by omega)];have:=e (at' l i) (by omega);rw[a2,h.mR a,a2]at this;exact this
end Go.Mv
namespace Go.Mv
theorem b4n(ys:List Nat)(es:List AV):nilFit es (ys.map nV)=true:=by
 have:=a5r (ys.map Int.ofNat) es;rwa[List.map_map]at this
end Go.Mv
namespace Go.Mv
theorem d0k(l:List Int):(sdR l).length<=l.length:=by unfold sdR;split<;>simp
abbrev qV(q:Rat):AV:= .agg [iV q.num,iV (q.den:Int)]
theorem d3j(a b:Int):YG b (a.tmod b)=YG a b:=by
 unfold YG;rw[Int.natAbs_tmod,Nat.gcd_comm b.natAbs,<-Nat.gcd_rec,Nat.gcd_comm]
theorem e1u(a b:Int):(a.tmod b).natAbs<=a.natAbs:=by rw[Int.natAbs_tmod];exact Nat.mod_le _ _
theorem e3b(a:Int){b:Int}(h:b≠0):(a.tmod b).natAbs<b.natAbs:=by rw[Int.natAbs_tmod];exact Nat.mod_lt _ (by omega)
theorem e0r(a:Int):max a (-a)=(YG a 0:Int):=by
 simp only[Int.gcd_zero_right];omega
theorem a7j{u g:Int}(h:g∣u):u.tdiv g=u/g:=Int.tdiv_eq_ediv_of_dvd h
theorem c2q{u d:Int}(a:0<d):(Rat.divInt u d).num=u.tdiv (YG u d:Int)/\((Rat.divInt u d).den:Int)=d.tdiv (YG u d:Int):=by
 rw[a7j (Xj ..),a7j (XL ..),Rat.num_divInt,Rat.den_divInt,if_neg (by omega),Int.gcd_comm d u,Int.sign_eq_one_of_pos a,Int.one_mul];refine⟨U,?_⟩;have e:((d.natAbs:Nat):Int)=d:=by omega
 rw[Int.natCast_ediv,e]
theorem f4q{u d:Int}(a:d<0):(Rat.divInt u d).num=u.tdiv (-(YG u d:Int))/\((Rat.divInt u d).den:Int)=d.tdiv (-(YG u d:Int)):=by
 rw[<-Rat.neg_divInt_neg];have:=c2q (u:= -u) (d:= -d) (by omega);rw[Int.neg_gcd,Int.gcd_neg]at this;rw[this.1,this.2,Int.neg_tdiv,Int.neg_tdiv,Int.tdiv_neg,Int.tdiv_neg];exact⟨U,U⟩
theorem a5d{u d:Int}(a:d≠0):0<(YG u d:Int):=by
 have:=Int.gcd_pos_of_ne_zero_right u a;omega
theorem e2e{u d:Int}(a:d≠0):(YG u d:Int)<=(d.natAbs:Int):=by
 have:=Nat.le_of_dvd (by omega) (Int.gcd_dvd_natAbs_right u d);omega
theorem R7(q:Rat):0<(q.den:Int):=by have:=q.den_nz;omega
def Sm(b:Int)(q:Rat):Prop:= -b<=q.num/\q.num<=b/\(q.den:Int)<=b
theorem b0j(u:Int)(g:Nat):(u.tdiv (g:Int)).natAbs<=u.natAbs:=by
 rw[Int.natAbs_tdiv];exact Nat.div_le_self _ _
theorem e1p{u d:Int}(c:d≠0):(Rat.divInt u d).num.natAbs<=u.natAbs/\(Rat.divInt u d).den<=d.natAbs:=by
 have key:∀(u d:Int),0<d->(Rat.divInt u d).num.natAbs<=u.natAbs/\(Rat.divInt u d).den<=d.natAbs:=by
  intro u d c;have h:=c2q (u:=u) c;have a:=b0j u (YG u d);have e:=b0j d (YG u d);rw[<-h.1]at a;rw[<-h.2]at e;exact⟨a,by omega⟩
 by_cases h:0<d
 ·exact key u d h
 ·have:=key (-u) (-d) (by omega)
  rw[Rat.neg_divInt_neg]at this;omega
theorem Sm.fr{u d b:Int}(a:d≠0)(hu: -b<=u/\u<=b)(c: -b<=d/\d<=b):Sm b (Rat.divInt u d):=by
 have:=e1p (u:=u) a;unfold Sm;omega
theorem b9b{x y a b:Int}(g: -a<=x/\x<=a)(h: -b<=y/\y<=b): -(a*b)<=x*y/\x*y<=a*b:=by
 have c:(x*y).natAbs<=(a*b).natAbs:=by
  rw[Int.natAbs_mul,Int.natAbs_mul];exact Nat.mul_le_mul (by omega) (by omega)
 have e:0<=a*b:=Int.mul_nonneg (by omega) (by omega);omega
theorem f5p(p q:Rat):p+q=Rat.divInt (p.num*q.den+q.num*p.den) ((p.den:Int)*q.den):=by
 rw[Rat.add_def',<-Rat.divInt_ofNat];simp
theorem b1e(p q:Rat):((p.den:Int)*q.den)≠0:=by
 have a:=R7 p;have c:=R7 q;have:=Int.mul_pos a c;omega
theorem f3o(p q:Rat):p+q=Rat.divInt (p.num*((q.den:Int).tdiv (YG p.den q.den:Int))+q.num*((p.den:Int).tdiv (YG p.den q.den:Int))) (((p.den:Int).tdiv (YG p.den q.den:Int))*q.den):=by
 have o:=a5d (u:=(p.den:Int)) (d:=(q.den:Int)) (by have:=R7 q;omega);obtain⟨a,c⟩:=Xj (p.den:Int) (q.den:Int);obtain⟨b,i⟩:=XL (p.den:Int) (q.den:Int);rw[a7j (Xj ..),a7j (XL ..)];have l:(p.den:Int)/(YG (p.den:Int) (q.den:Int):Int)=a:=by
  conv=>lhs;lhs;rw[c]
  exact Xp _ (by omega)
 have n:(q.den:Int)/(YG (p.den:Int) (q.den:Int):Int)=b:=by
  conv=>lhs;lhs;rw[i]
  exact Xp _ (by omega)
 rw[l,n,f5p];have s:=R7 p;have hq:=R7 q;have e:a≠0:=by intro h;rw[h]at c;omega
 rw[Rat.divInt_eq_divInt_iff (b1e p q) (Int.mul_ne_zero e (by omega))];generalize (YG (p.den:Int) (q.den:Int):Int)=g at*;rw[c,i]
 grind
theorem f4k(p q:Rat):(p-q).num<0↔p<q:=by
 have h:0<=(p-q).num↔0<=p-q:=Rat.num_nonneg;constructor
 ·intro e
  have a:¬0<=p-q:=fun c=>by have:=h.2 c;omega
  grind
 ·intro e
  have a:¬0<=p-q:=by grind
  have c:¬0<=(p-q).num:=fun g=>a (h.1 g)
  omega
theorem e0t(q:Rat):(-q).num= -q.num/\(-q).den=q.den:=⟨rfl,rfl⟩
end Go.Mv
namespace Go.Mv
theorem e3s(p q:Rat):((p.den:Int).tdiv (YG p.den q.den:Int))*q.den≠0:=by
 have i:=R7 p;have hq:=R7 q;have g:=a5d (u:=(p.den:Int)) (d:=(q.den:Int)) (by omega);obtain⟨a,c⟩:=Xj (p.den:Int) (q.den:Int);rw[a7j (Xj ..)];have e:(p.den:Int)/(YG (p.den:Int) (q.den:Int):Int)=a:=by
  conv=>lhs;lhs;rw[c]
  exact Xp _ (by omega)
 rw[e];refine Int.mul_ne_zero (fun h=> ?_) (by omega);rw[h]at c;omega
abbrev d6q(a:Int×Int):AV:= .agg [iV a.1,iV a.2]
section
variable{cx:Cx}{keep:List Nat}{ops0:Array Oper}{r:List Oper}{A:Asr}{Q:Asr->List Log->Prop}{d:Nat}{ty:Nat}{pos:String}{aft:Array Edge}
theorem f1r{x:Operand}{T f:Nat}{ls:List AV}{o:Nat×Nat}{v:AV}(n:opd A x=some (.agg ls))(a:(match(tyS cx.P T).k with| .struct fs=>fs[f]? |_=>none)=some o)
 (l:partF cx.P o.2 (ls.drop o.1)=some v) (g:slotOk keep (.t d) v=true)
 (h:XR cx keep ops0 r ((.t d,v)::A) fun e p=>Q e ((rds x,[.t d])::p)):XR cx keep ops0 (⟨some d,.field T x f,ty,pos,aft,none⟩::r) A Q:=by
 refine K8 (fun o i=>by simp only[aopV,i]) ?_ g h;simp only[opV,E4,E5 n,fieldA];split at a
 ·rename_i fs c
  simp only[c,a,a1l l,Zm,and_self]
 ·cases a
end
theorem d2n{A:Asr}{α:Type}{f:α->AV}{xs:List α}{C:Caller}{md id g m s off n:Nat}(i:md=0)(t:look A (.h id)=some (.obj g m s (xs.map f)))(p:bxB m none=false)(q:off+n<=xs.length)(o:∀a,L5 (f a)=true):
 L9 C A md (.sl id g none off n) (.list (((xs.drop off).take n).map f)) [(id,false)] [] [.h id]:=by
 have u:G4 (((xs.drop off).take n).map f)=true:=A6 fun a=>by
  have:=o a;cases c:f a<;>rw[c]at this<;>simp_all[L5,M1]
 have l:off+n<=(xs.map f).length:=by rw[Zi];exact q
 have e:((xs.map f).drop off).take n=((xs.drop off).take n).map f:=by rw[List.map_take,List.map_drop]
 subst i;unfold L9 a3k;simp only[if_true];refine A5 (I7 ?_);simp only[passLeaf,slc,rdNode,E4,N1 t,F8,F3,p,Zm,Zj,l,e,u,and_self,true_and,O1 o];exact C3 ⟨U,U,by simp⟩
section
variable{cx:Cx}{keep:List Nat}{ops0:Array Oper}{r:List Oper}{A:Asr}{Q:Asr->List Log->Prop}{d:Nat}{ty:Nat}{pos:String}{aft:Array Edge}
theorem c9i{α:Type}[Inhabited α]{f:α->AV}{xs:List α}{y:α}{v:AV}{T id g m s i j:Nat}{a x:Operand}(p:opd A a=some (.ptr id g none i j))(t:look A (.h id)=some (.obj g m s (xs.map f)))(z:opd A x=some v)(l:i<xs.length)
 (q:b6v ((leaves (f (xs.getD i default))).drop j) v=true)
 (c:(leaves v).length=(tyS cx.P T).size/\0<(leaves v).length/\j+(leaves v).length<=(leaves (f (xs.getD i default))).length/\X9 (leaves v) ((leaves (f (xs.getD i default))).drop j)=true) (hm:m≠2)
 (u:putAt (f (xs.getD i default)) j v=f y)
 (e:slotOk keep (.h id) (.obj g m s ((xs.set i y).map f))=true)
 (h:XR cx keep ops0 r ((.h id,.obj g m s ((xs.set i y).map f))::A) fun o B=>Q o ((rds a++(rds x++[.h id,.h id,.h id]),[.h id])::B)):
 XR cx keep ops0 (⟨none,.store T a x,ty,pos,aft,none⟩::r) A Q:=by
 have he:(xs.map f)[i]? =some (f (xs.getD i default)):=by rw[ZE,Zg l,Zc,Zg l];rfl
 have n:(xs.map f).set i (putAt (f (xs.getD i default)) j v)=(xs.set i y).map f:=by rw[u,List.map_set]
 refine b7t p z t he q ⟨hm,c.1,c.2.1,c.2.2.1,c.2.2.2⟩ (by rw[n];exact e) ?_;rw[n];exact h
end
def mkI(k:Int)(n:Nat):List Int:=(Yb n).map fun i:Nat=>k+(i:Int)
@[simp] theorem mkI_length(k:Int)(n:Nat):(mkI k n).length=n:=by simp[mkI]
def mkF(k:Int)(n:Nat):List (Int×Int):=(Yb n).map fun i:Nat=>(k+2*(i:Int),k+2*(i:Int)+1)
@[simp] theorem mkF_length(k:Int)(n:Nat):(mkF k n).length=n:=by simp[mkF]
section
variable{cx:Cx}{keep:List Nat}{ops0:Array Oper}{r:List Oper}{A:Asr}{Q:Asr->List Log->Prop}{d:Nat}{ty:Nat}{pos:String}{aft:Array Edge}
theorem X0{x i:Operand}{T E id g a c:Nat}{n:Int}{k:IntKind}(I:opd A x=some (.ptr id g none a 0))(s:opd A i=some (.val (.int k n)))(p:(tyS cx.P T).k= .array c E)(q:Q3 (tyS cx.P E).k=false)(B:(tyS cx.P E).size=1)(y:0<=n/\n<c)
 (u:slotOk keep (.t d) (.ptr id g none a n.toNat)=true)
 (h:XR cx keep ops0 r ((.t d,.ptr id g none a n.toNat)::A) fun l J=>Q l ((rds x++rds i,[.t d])::J)):XR cx keep ops0 (⟨some d,.indexAddr T x i,ty,pos,aft,none⟩::r) A Q:=by
 have e:0+n.toNat*(tyS cx.P E).size=n.toNat:=by rw[B];omega
 have hlt:n.toNat<c:=by omega
 refine K8 (v:= .ptr id g none a n.toNat) (fun o z=>by simp only[aopV,z]) ?_ u h;simp only[opV,E4,E5 I,E5 s,indexAddrA,X6 y.1,p,F8,F3,q,hlt,e,Zm,Zj,and_self,and_true,true_and]
end
section
variable{cx:Cx}{keep:List Nat}{ops0:Array Oper}{r:List Oper}{A:Asr}{Q:Asr->List Log->Prop}{d:Nat}{ty:Nat}{pos:String}{aft:Array Edge}
end
theorem f1w{cx:Cx}{keep:List Nat}{A B:Asr}{c:Code}{Q:AExit->Asr->Prop}(h:HasL A B)(e:XA cx keep c B Q):XA cx keep c A Q:=fun st a=>e st (h.sat a)
theorem Q5{keep:List Nat}{id g m s:Nat}{es:List AV}(h:G4 es=true)(hm:¬(m=3\/m=4)):slotOk keep (.h id) (.obj g m s es)=true:=by
 simp[slotOk,refOkV,h,hm]
instance:Inhabited Rat:=⟨0⟩
def f6j(xs:List Rat):List Rat:=xs.mergeSort fun x y=>decide (x<=y)
@[simp] theorem sortQ_length(xs:List Rat):(f6j xs).length=xs.length:=List.length_mergeSort _
def vpS(xs ys:List Int):Bool:=decide (xs.length=ys.length)&&decide (xs.length<=7)&&a1c (-12) 12 xs&&a1c (-12) 12 ys
def wd(xs:List Int):Bool:=xs.any fun x=>x !=xs.getD 0 default
def vc(xs ys:List Int):Bool:=vpS xs ys&&wd xs
theorem Sm.mono{a b:Int}{q:Rat}(h:Sm a q)(c:a<=b):Sm b q:=by obtain⟨e,g,i⟩:=h;exact⟨by omega,by omega,by omega⟩
theorem e0y{xs:List Int}{e c:Int}(h:a1c e c xs=true)(g:e<=0/\0<=c)(i:Nat):e<=xs.getD i default/\xs.getD i default<=c:=by
 rcases Nat.lt_or_ge i xs.length with a|a
 ·exact U2.1 h i a
 ·rw[Zc,ZQ a];exact g
def vd(xs:List Int):Bool:=decide (xs.length<=10)&&a1c (-200) 200 xs
theorem a4r{xs:List Int}(h:vd xs=true):xs.length<=10:=by
 simp only[vd,Zy,decide_eq_true_eq]at h;exact h.1
theorem e1y{c a:Int}{xs:List Int}(h:∀i,i<xs.length->c<=xs.getD i default/\xs.getD i default<=a):a1c c a xs=true:=U2.2 h
theorem d3r{e c:Int}{xs:List Int}{i:Nat}(a:i<xs.length)(h:¬(e<=xs.getD i default/\xs.getD i default<=c)):a1c e c xs=false:=by
 rw[Bool.eq_false_iff];exact fun g=>h (U2.1 g i a)
theorem e6x{xs:List Int}(h:vd xs=true):a1c (-200) 200 xs=true:=by
 simp only[vd,Zy]at h;exact h.2
section
variable{cx:Cx}{keep:List Nat}{A:Asr}{Q:AExit->Asr->Prop}
theorem a0a{β:Type}{a b:Code}(K:Asr)(_:HasL A K)(I:β->Asr)(P:β->Prop)(o:XA cx keep a A fun r c=>match r with
 | .normal=>∃b,P b/\HasL c (K++I b)
 |r=>Q r c)
 (p:∀x,P x->XA cx keep b (K++I x) Q):XA cx keep (.seq a b) A Q:=by
 refine A3 ?_;intro st t;obtain⟨n,r,g,h,c,l,e⟩:=o st t;refine⟨n,r,g,h,c,l,?_⟩;cases r with
 |normal=>
  obtain⟨x,s,q⟩:=e;exact f1w q (p x s)
 |ret=>exact e
 |exit i=>exact e
theorem W3{a b c:Code}(h:XA cx keep (.seq a (.seq b c)) A Q):XA cx keep (.seq (.seq a b) c) A Q:=by
 intro st t;obtain⟨n,r,p,e,q⟩:=h st t;refine⟨n+1,r,p,?_,q⟩;cases n with
 |zero=>simp[aexec]at e
 |succ n=>
  simp only[aexec]at e|-;cases g:aexec (CW cx) cx keep n a st with
  |none=>simp[g]at e
  |some x=>
   obtain⟨u,s1⟩:=x;have s:=a0o cx g (Nat.le_succ n);simp only[g]at e;cases u with
   |normal=>
    simp only at e|-;cases n with
    |zero=>simp[aexec]at g
    |succ n=>
     simp only[aexec]at e;cases l:aexec (CW cx) cx keep n b s1 with
     |none=>simp[l]at e
     |some y=>
      obtain⟨v,s2⟩:=y;have o:=a0o cx l (show n<=n+1 by omega);simp only[l]at e;simp only[g,o];cases v with
      |normal=>exact a0o cx e (show n<=n+1+1 by omega)
      |ret=>simpa using e
      |exit i=>simpa using e
   |ret=>simpa[g]using e
   |exit i=>simpa[g]using e
theorem H5{body:Code}(h:XA cx keep body A fun r c=>match r with
 | .normal=>XA cx keep (.loop body) c Q
 |r=>Q r c):XA cx keep (.loop body) A Q:=by
 intro st q;obtain⟨n,r,a,e,c,g,l⟩:=h st q;cases r with
 |normal=>
  obtain⟨m,v,o,s,p,t,u⟩:=l a g;refine⟨max n m+1,v,o,?_,p,t,u⟩;simp only[aexec,a0o cx e (Nat.le_max_left n m),a0o cx s (Nat.le_max_right n m)]
 |ret=>exact⟨n+1,_,a,by simp only[aexec,e],c,g,l⟩
 |exit i=>exact⟨n+1,_,a,by simp only[aexec,e],c,g,l⟩
end
section
variable{cx:Cx}{keep:List Nat}{ops0:Array Oper}{r:List Oper}{A:Asr}{Q:Asr->List Log->Prop}{d:Nat}{ty:Nat}{pos:String}{aft:Array Edge}
theorem d2e{T g:Nat}{u v:AV}(e:cx.gl g=some u)(n:partF cx.P T [u]=some v)(i:slotOk keep (.t d) v=true)
 (h:XR cx keep ops0 r ((.t d,v)::A) fun a p=>Q a (([],[.t d])::p)):XR cx keep ops0 (⟨some d,.load T (.global g),ty,pos,aft,none⟩::r) A Q:=
 K8 (fun o l=>by simp only[aopV,l]) (by
  have c:opd A (.global g)=some (.val (.pointer (some ⟨g,0,none⟩))):=rfl;simp only[opV,E4,E5 c,loadG,e,a1l n,Zm,and_self];exact⟨trivial,U⟩) i h
def e3c(P:Program)(T:Nat):Option Nat:=match P.underlying T with
 |some (.map key elem)=>if a6e (tyS P key).k=true then some elem else none
 |_=>none
theorem d1u{T n:Nat}{x k:Operand}{s:ByteArray}{g:List (ByteArray×Value)}{u v:AV}{b:Bool}{elem:Nat}(B:opd A x=some (.val (.map (some n))))(q:opd A k=some (.val (.string s)))(hm:cx.mp n=some g)(a:e3c cx.P T=some elem)
 (E:Q3 (tyS cx.P elem).k=false/\O7 (tyS cx.P elem).zero=true) (c:(match a4m s g with|some w=>(ofConst w,true)|none=>((tyS cx.P elem).zero,false))=(v,b)) (e:slotOk keep (.t d) (.tup [v,.val (.bool b)])=true)
 (h:XR cx keep ops0 r ((.t d,.tup [v,.val (.bool b)])::A) fun p I=>Q p ((rds x++rds k,[.t d])::I)):XR cx keep ops0 (⟨some d,.lookup T x k true,ty,pos,aft,none⟩::r) A Q:=by
 refine K8 (l:=rds x++rds k) (fun o y=>by simp only[aopV,y]) ?_ e h;simp only[opV,E4,E5 B,E5 q,lookupA,hm];unfold e3c at a;split at a
 ·rename_i key el hu
  split at a
  ·rename_i z
   cases a;simp only[hu,E4,F8,z,true_and];cases i:a4m s g with
   |none=>
    rw[i]at c;simp only[Zk]at c;obtain⟨rfl,rfl⟩:=c;simp[E4,F8,F3,E]
   |some w=>
    rw[i]at c;simp only[Zk]at c;obtain⟨rfl,rfl⟩:=c;simp[F3]
  ·cases a
 ·cases a
end
section
variable{cx:Cx}{keep:List Nat}{ops0:Array Oper}{r:List Oper}{A:Asr}{Q:Asr->List Log->Prop}{d:Nat}{ty:Nat}{pos:String}{aft:Array Edge}
variable{C:Caller}{m f j:Nat}{cs fs:List AV}{G:Type}{vs:G->List AV}{ws:G->Ws}{ls:List Mv.Loc}
def b5b(C:Caller)(A:Asr)(m f j:Nat)(cs fs:List AV){G:Type}(vs:G->List AV)(ws:G->Ws)(ls:List Mv.Loc):Prop:=
 wpW C A (absorbLeaves m f j cs fs) fun a w l=>∃g,a=vs g/\w=ws g/\l=ls
theorem K9:b5b C A m f j cs [] (fun _:Unit=>[]) (fun _=>[]) []:=C3 ⟨(),rfl,rfl,rfl⟩
theorem G6{v:AV}(h:T8 (cs.headD .undef) v=true)(t:b5b C A m f (j+1) cs.tail fs vs ws ls)(hm:m≠2:=by decide):b5b C A m f j cs (v::fs) (fun g=>v::vs g) ws ls:=by
 refine A5 (a7l hm h (A5 (I1 t ?_)));rintro _ _ _ ⟨g,rfl,rfl,rfl⟩;exact C3 ⟨g,U,by simp,by simp⟩
theorem a0w{id g s n:Nat}{ys:List AV}(hid:100000<=id)(a:id≠fid f j)(e:look A (.h id)=some (.obj g 0 s ys))(c:n=ys.length)
 (t:∀g',b5b C (put (put A (.h id) (.dead g)) (.h (fid f j)) (.obj g' 0 s ys)) 3 f (j+1) cs.tail fs vs ws ls):
 b5b C A 3 f j cs (.sl id g none 0 n::fs) (fun x:Nat×G=> .sl (fid f j) x.1 none 0 n::vs x.2) (fun x=>(.h id,.dead g)::(.h (fid f j),.obj x.1 0 s ys)::ws x.2) (.h id:: .h (fid f j)::ls):=by
 subst c;refine A5 ?_;unfold K7;simp only[if_true];rw[if_pos (by simp[hid,a])];refine A5 (K1 e ?_);simp only[if_true];refine A5 (E9 (Zd _) (A5 (J6 (A5 (M4 fun o=>A5 (J6 (C3 ?_)))))));have:=t (I6 o+1);simp only[Yo];refine A5 (I1 this ?_);rintro _ _ _ ⟨x,rfl,rfl,rfl⟩;exact C3 ⟨(I6 o+1,x),U,by simp,by simp⟩
theorem G0{T id g s i:Nat}{a x:Operand}{es:List AV}{e:AV}(p:opd A a=some (.ptr id g none i 0))(E:opd A x=some (.agg fs))(y:look A (.h id)=some (.obj g m s es))(he:es[i]? =some e)
 (u:b5b (CW cx) A m id 0 (leaves e) fs vs ws ls) (n:∀z,look (puts A (ws z)) (.h id)=some (.obj g m s es))
 (l:m≠2/\fs.length=(tyS cx.P T).size/\0<fs.length/\fs.length<=(leaves e).length) (q:∀z,X9 (vs z) (leaves e)=true) (B:∀z,putAt e 0 (.agg (vs z))= .agg (vs z))
 (t:∀z,tRefsOk keep (keptWs keep (ws z++[(.h id,.obj g m s (es.set i (.agg (vs z))))]))=true)
 (h:∀z,XR cx keep ops0 r (K5 A (ws z++[(.h id,.obj g m s (es.set i (.agg (vs z))))])) fun o I=>Q o ((rds a++(rds x++(.h id::(ls++[.h id,.h id]))),V5 (ws z++[(.h id,.obj g m s (es.set i (.agg (vs z))))]))::I)):
 XR cx keep ops0 (⟨none,.store T a x,ty,pos,aft,none⟩::r) A Q:=by
 refine e2b (v:=fun _=> .undef) (ws:=fun z=>ws z++[(.h id,.obj g m s (es.set i (.agg (vs z))))]) (ls:=rds a++(rds x++(.h id::(ls++[.h id,.h id])))) U ?_ (fun z=> ?_) (fun z=> ?_) (fun z=> ?_) (A1:=fun z=>K5 A (ws z++[(.h id,.obj g m s (es.set i (.agg (vs z))))]))
 ·simp only[aopV]
  refine A5 (E9 (by simp) (A5 (K3 p (A5 (K3 E (A5 ?_))))));unfold b3k;rw[if_neg (by simp[b5h])];unfold a7d;refine A5 (K1 y ?_);simp only[he,if_true];refine A5 ?_;simp only[absorb,ZY];refine A5 (I1 u ?_);rintro _ _ _ ⟨z,rfl,rfl,rfl⟩;refine C3 ?_;have c:=n z;refine A5 (K1 (by simpa[puts]using c) ?_);simp only[he];refine A5 (E9 (by refine⟨trivial,l.1,l.2.1,l.2.2.1,?_,q z,.inl trivial⟩;simpa[leaves]using l.2.2.2) (A5 (I7 ?_)));simp only[wrNode];rw[N1 (v:= .obj g m s es) (by simpa[puts]using c)];simp only[F3];refine J6 (C3 ?_);exact⟨z,U,by simp[B z],by simp⟩
 ·simpa[setD]using t z
 ·simpa[setD]using b1w A (ws z++[(.h id,.obj g m s (es.set i (.agg (vs z))))])
 ·simpa[setD]using h z
theorem O6{T id g s k:Nat}{a x:Operand}{e v:AV}(n:opd A a=some (.ptr id g none 0 k))(q:opd A x=some v)(o:look A (.h id)=some (.obj g 3 s [e]))(p:b5h v=true)(l:(tyS cx.P T).size=1)(he:k+1<=(leaves e).length)
 (c:slotOk keep (.h id) (.obj g 3 s [putAt e k v])=true)
 (h:XR cx keep ops0 r ((.h id,.obj g 3 s [putAt e k v])::A) fun i t=>Q i ((rds a++(rds x++[.h id]),[.h id])::t)):
 XR cx keep ops0 (⟨none,.store T a x,ty,pos,aft,none⟩::r) A Q:=by
 refine d8w (v:= .undef) (ws:=[(.h id,.obj g 3 s [putAt e k v])]) (ls:=rds a++(rds x++[.h id])) U ?_ (I4 c) (b2j _ _ _) h;simp only[aopV];refine A5 (E9 (by simp) (A5 (K3 n (A5 (K3 q (A5 ?_))))));unfold b3k;rw[if_pos p];unfold b8z;refine A5 (K1 o ?_);dsimp only;rw[if_pos (show(3:Nat)=3 from U)];simp only[Zs];refine A5 (E9 ⟨l,he⟩ (J6 (C3 ?_)));exact⟨U,by simp,by simp⟩
def c3r(C:Caller)(A:Asr)(b:Bool)(fs vs:List AV)(ws:Ws)(ls:List Mv.Loc):Prop:=wpW C A (retLeaves b fs) fun a w l=>a=vs/\w=ws/\l=ls
variable{b:Bool}{us:List AV}{w1:Ws}
theorem H2:c3r C A b [] [] [] []:=C3 ⟨rfl,rfl,rfl⟩
theorem E3{v:AV}(h:(immLeaf v&& !L4 v)=true)(t:c3r C A b fs us w1 ls):c3r C A b (v::fs) (v::us) w1 ls:=by
 refine A5 (c6g h (A5 (I1 t ?_)));rintro _ _ _ ⟨rfl,rfl,rfl⟩;exact C3 ⟨U,by simp,by simp⟩
theorem F5{cids:List Cid}{outs:List (List AV)}{a T id g s:Nat}{rs:List ResultVar}{os:List AV}(q:look A (.t a)=some (.ptr id g none 0 0))(n:look A (.h id)=some (.obj g 3 s [.agg fs]))(i:(fs.all fun l=> !isOwn l)=true)
 (o:partF cx.P T fs=some (.agg fs)) (p:c3r (CW cx) A b fs us w1 ls) (h:c3o cx b cids outs rs (puts A w1) os):c3o cx b cids outs (.cell a T::rs) A (.agg us::os):=by
 refine a5q ?_;unfold retVar;refine A5 (I7 ?_);rw[b4v q];refine A5 (I7 ?_);simp only[loadG,loadA,rdNode,E4];rw[N1 (by exact n)];simp only[E4,F8,F3,true_and,Zs,ZY,leaves];rw[a4o _ _ i,a1l o];refine A5 (I1 p ?_);rintro y w1 z ⟨rfl,rfl,rfl⟩;refine C3 ?_;have c:wpW (CW cx) (puts A ([]++([]++(w1++[])))) (retAll cx.P b rs) fun us ws _=>us=os/\a3t (puts (puts A w1) ws) cids outs:=by
  simp only[Zj,Zm];exact h
 refine I1 c ?_;rintro v x u ⟨rfl,e⟩;refine⟨U,?_⟩;simp only[Zj,Zm,b6a];exact e
variable{k:Nat}
end
def prS(f:Nat->Int):Nat->Int
 |0=>0
 |k+1=>prS f k+f k
theorem f0t{f:Nat->Int}{c:Int}:∀{n:Nat},(∀i,i<n->0<=f i/\f i<=c)->0<=prS f n/\prS f n<=n*c
 |0,_=>⟨Xi _,by simp[prS]⟩
 |n+1,h=>by
  have a:=f0t (n:=n) fun i g=>h i (by omega)
  have e:=h n (by omega);rw[prS];have:((n+1:Nat):Int)*c=n*c+c:=by rw[Int.natCast_succ,Int.add_mul,Int.one_mul]
  omega
theorem e0s(f:Nat->Int):∀n,prS f n=((Yb n).map f).sum
 |0=>rfl
 |n+1=>by rw[prS,e0s f n,YS,Yi,List.sum_append];simp
abbrev wList:ByteArray:=⟨#[108,105,115,116]⟩
abbrev wA:ByteArray:=⟨#[97]⟩
abbrev wB:ByteArray:=⟨#[98]⟩
abbrev wC:ByteArray:=⟨#[99]⟩
abbrev wD:ByteArray:=⟨#[100]⟩
abbrev e1v:ByteArray:=⟨#[115,111,114,116]⟩
abbrev f5a:ByteArray:=⟨#[114,101,118]⟩
abbrev f5y:ByteArray:=⟨#[110,101,103]⟩
abbrev f4o:ByteArray:=⟨#[97,98,115]⟩
abbrev e9y:ByteArray:=⟨#[100,105,102,102]⟩
abbrev f0l:ByteArray:=⟨#[115,117,109,115]⟩
abbrev d0h:ByteArray:=⟨#[114,97,110,107,115]⟩
abbrev e0n:ByteArray:=⟨#[116,111,116,97,108]⟩
abbrev f5g:ByteArray:=⟨#[97,100,100]⟩
abbrev e6k:ByteArray:=⟨#[106,111,105,110]⟩
def nd(w:ByteArray):Int:=
 if w.toList=wList.toList then 0 else if w.toList=wA.toList then 0 else if w.toList=wB.toList then 0 else if w.toList=wC.toList then 0 else if w.toList=wD.toList then 0
 else if w.toList=e1v.toList then 1 else if w.toList=f5a.toList then 1 else if w.toList=f5y.toList then 1 else if w.toList=f4o.toList then 1 else if w.toList=e9y.toList then 1
 else if w.toList=f0l.toList then 1 else if w.toList=d0h.toList then 1 else if w.toList=e0n.toList then 1 else if w.toList=f5g.toList then 2 else if w.toList=e6k.toList then 2 else-1
def rch(w:ByteArray):Int:=
 if w.toList=e1v.toList then 1 else if w.toList=f5a.toList then 1 else if w.toList=f5y.toList then 1 else if w.toList=f4o.toList then 1 else if w.toList=e9y.toList then 1
 else if w.toList=f0l.toList then 1 else if w.toList=d0h.toList then 1 else if w.toList=e0n.toList then 1 else if w.toList=f5g.toList then 2 else if w.toList=e6k.toList then 2
 else if w.toList=wA.toList then 0 else if w.toList=wB.toList then 0 else if w.toList=wC.toList then 0 else if w.toList=wD.toList then 0 else-1
theorem f4y{p:Prop}[Decidable p]{a b:Int}(c: -1<=a/\a<=2)(e: -1<=b/\b<=2): -1<=(if p then a else b)/\(if p then a else b)<=2:=by split<;>assumption
theorem f0i(w:ByteArray): -1<=rch w/\rch w<=2:=by
 unfold rch
 repeat (refine f4y (by decide) ?_)
 decide
def J8(x:List Int)(i:Nat):Int:=x.getD i default
def dfI(x:List Int):List Int:=(Yb x.length).map fun i=>if i=0 then J8 x 0 else J8 x i-J8 x (i-1)
def smI(x:List Int):List Int:=(Yb x.length).map fun i=>prS (J8 x) (i+1)
def rkT(x:List Int)(v:Int)(j:Nat):Int:=if J8 x j<v then 2 else if J8 x j=v then 1 else 0
def rkI(x:List Int):List Int:=(Yb x.length).map fun i=>1+prS (rkT x (J8 x i)) x.length
def adI(x y:List Int):List Int:=(Yb x.length).map fun i=>J8 x i+J8 y i
def Y6(op:ByteArray)(x y:List Int):Option (List Int):=
 if op.toList=e1v.toList then some (T3 x)else if op.toList=f5a.toList then some x.reverse else if op.toList=f5y.toList then some (x.map fun v=> -v)
 else if op.toList=f4o.toList then some (x.map fun v=>max v (-v))else if op.toList=e9y.toList then some (dfI x)else if op.toList=f0l.toList then some (smI x)
 else if op.toList=d0h.toList then some (rkI x)else if op.toList=e0n.toList then some [x.sum]else if op.toList=f5g.toList then(if x.length=y.length then some (adI x y)else none)
 else if op.toList=e6k.toList then some (x++y)else some x
def vl(x:List Int):Bool:=decide (x.length<=40)&&a1c (-100000) 100000 x
theorem Q4{x:List Int}:vl x=true↔x.length<=40/\a1c (-100000) 100000 x=true:=by simp[vl]
theorem b9q{x:List Int}(h:vd x=true):vl x=true:=by
 rw[Q4];have c:=a4r h;refine⟨by omega,U2.2 fun i a=> ?_⟩;have:=U2.1 (e6x h) i a;omega
def mkR(op:ByteArray)(x y:List Int):Option (List Int):=(Y6 op x y).bind fun r=>if vl r=true then some r else none
def raR(op:ByteArray)(x y:List Int):List Int:=(Y6 op x y).getD []
theorem b3d{op:ByteArray}{x y r:List Int}(h:mkR op x y=some r):vl r=true:=by
 unfold mkR at h;cases a:Y6 op x y with
 |none=>rw[a]at h;cases h
 |some q=>
  rw[a,Zl]at h;split at h
  ·cases h;assumption
  ·cases h
theorem b8p{op:ByteArray}{x y r:List Int}(h:mkR op x y=some r):raR op x y=r:=by
 unfold mkR at h;unfold raR;cases a:Y6 op x y with
 |none=>rw[a]at h;cases h
 |some q=>
  rw[a,Zl]at h;split at h
  ·cases h;rfl
  ·cases h
theorem a2t{x:List Int}(h:vl x=true)(i:Nat): -100000<=J8 x i/\J8 x i<=100000:=by
 unfold J8;rcases Nat.lt_or_ge i x.length with c|c
 ·exact U2.1 (Q4.1 h).2 i c
 ·rw[Zc,ZQ c];decide
theorem d5o{x:List Int}(h:vl x=true):∀i:Nat,-(100000*(i:Int))<=prS (J8 x) i/\prS (J8 x) i<=100000*(i:Int)
 |0=>by simp[prS]
 |i+1=>by
  have a:=d5o h i;have c:=a2t h i;rw[prS];omega
theorem f6u(x:List Int)(v:Int)(k:Nat):0<=prS (rkT x v) k/\prS (rkT x v) k<=k*2:=f0t fun i _=>by unfold rkT;split<;>(try split)<;>omega
def Y1(n:Nat)(f g:Nat->Int)(i:Nat)(l:List Int):Prop:=l.length=n/\∀j,j<n->l.getD j default=if j<i then f j else g j
theorem Y1.step{n i:Nat}{f g:Nat->Int}{l:List Int}(h:Y1 n f g i l)(a:i<n){v:Int}(p:v=f i):Y1 n f g (i+1) (l.set i v):=by
 refine⟨by simp[h.1],fun j o=> ?_⟩;rw[a3r _ _ _ _ (by rw[h.1];exact a)];by_cases e:j=i
 ·subst e;rw[if_pos U,if_pos (by omega),p]
 ·rw[if_neg e,h.2 j o]
  by_cases c:j<i
  ·rw[if_pos c,if_pos (by omega)]
  ·rw[if_neg c,if_neg (by omega)]
theorem Y1.at{n i:Nat}{f g:Nat->Int}{l:List Int}(h:Y1 n f g i l)(a:i<n):l.getD i default=g i:=by rw[h.2 i a,if_neg (by omega)]
theorem Y1.fin{n i:Nat}{f g:Nat->Int}{l:List Int}(h:Y1 n f g i l)(c:n<=i):l=(Yb n).map f:=by
 refine a1t (d:=default) (by simp[h.1]) fun j a=> ?_
 rw[h.1]at a;rw[h.2 j a,if_pos (by omega),Zc,ZE,Yv a]
 rfl
theorem Y1.start(x:List Int)(f:Nat->Int):Y1 x.length f (J8 x) 0 x:=⟨rfl,fun j a=>by rw[if_neg (by omega)];rfl⟩
theorem b1i(x:List Int)(f:Int->Int):(Yb x.length).map (fun i=>f (J8 x i))=x.map f:=by
 apply List.ext_getElem
 ·simp
 ·intro i a c
  simp at a;simp[J8,Zc,Zg a]
theorem Z6{f:Nat->Int}(i:Nat):(Yb (i+1)).map f=(Yb i).map f++[f i]:=by rw[YS,Yi];rfl
def a6t(x:List Int)(i:Nat)(l:List Int):Prop:=l.length=x.length/\∀j,j<x.length->l.getD j default=if i<j then J8 x j-J8 x (j-1)else J8 x j
theorem a6t.step{x l:List Int}{i:Nat}(h:a6t x i l)(n:0<i)(g:i<x.length):a6t x (i-1) (l.set i (l.getD i default-l.getD (i-1) default)):=by
 refine⟨by simp[h.1],fun j a=> ?_⟩;rw[a3r _ _ _ _ (by rw[h.1];exact g)];by_cases e:j=i
 ·subst e
  rw[if_pos U,h.2 j a,h.2 (j-1) (by omega),if_neg (by omega),if_neg (by omega),if_pos (by omega)]
 ·rw[if_neg e,h.2 j a]
  by_cases c:i<j
  ·rw[if_pos c,if_pos (by omega)]
  ·rw[if_neg c,if_neg (by omega)]
theorem a6t.fin{x l:List Int}(h:a6t x 0 l):l=dfI x:=by
 refine a1t (d:=default) (by simp[h.1,dfI]) fun j a=> ?_
 rw[h.1]at a;rw[h.2 j a,dfI,Zc,ZE,Yv a];show _=if j=0 then _ else _
 by_cases e:j=0
 ·subst e;rw[if_neg (by omega),if_pos U]
 ·rw[if_pos (by omega),if_neg e]
theorem c5m(x:List Int):prS (J8 x) x.length=x.sum:=e0s (J8 x) x.length▸(by
 congr 1;apply List.ext_getElem
 ·simp
 ·intro i c a
  simp[J8,Zc,Zg a])
end Go.Mv
namespace Go.Mv
theorem e5q{x:List Int}{k:Nat}(h:k<x.length):x.drop k=x.getD k default::x.drop (k+1):=by
 rw[YH h,Zc,Zg h];rfl
def e5e(k:Nat):ByteArray:=⟨#[UInt8.ofNat (97+k)]⟩
def vcs(a:List (List Int)):Bool:=a.all vd&&decide (a.length<=4)
theorem a1s{a:List (List Int)}:vcs a=true↔(∀c∈a,vd c=true)/\a.length<=4:=by simp[vcs]
theorem e2o(a:List (List Int)):vcs a=(decide ((a.length:Int)<=4)&& !(a.any fun c=> !vd c)):=by
 have e:(!(a.any fun c=> !vd c))=a.all vd:=by
  induction a with
  |nil=>rfl
  |cons c r h=>simp[h]
 have g:decide ((a.length:Int)<=4)=decide (a.length<=4):=decide_eq_decide.2 (by omega);rw[vcs,e,g,Bool.and_comm]
theorem e7p{ls:List (List Int)}{q:List Int->Bool}{i:Nat}(a:i<ls.length)(h:q (ls.getD i default)=true):decide (0<=(i:Int))=ls.any q:=by
 rw[decide_eq_true (by omega),eq_comm,List.any_eq_true];exact⟨_,N2 a,h⟩
theorem e4x{ls:List (List Int)}{q:List Int->Bool}(h:∀j,j<ls.length->q (ls.getD j default)=false):decide (0<=(-1:Int))=ls.any q:=by
 rw[decide_eq_false (by omega),eq_comm,List.any_eq_false];intro c e;obtain⟨i,a,rfl⟩:=Xl e;have:=h i a;rw[Zc,Zg a]at this;simp[show q ls[i]=false from this]
def d0p(x:List Int)(i:Nat)(l:List Int):Prop:=l.length=x.length/\∀j,j<x.length->l.getD j default=if j<i\/x.length-1-i<j then J8 x (x.length-1-j)else J8 x j
theorem d0p.start(x:List Int):d0p x 0 x:=⟨rfl,fun j a=>by rw[if_neg (by omega)];rfl⟩
theorem d0p.step{x l:List Int}{i:Nat}(h:d0p x i l)(n:i<x.length-1-i):d0p x (i+1) ((l.set i (l.getD (x.length-1-i) default)).set (x.length-1-i) (l.getD i default)):=by
 refine⟨by simp[h.1],fun j g=> ?_⟩;rw[a3r _ _ _ _ (by simp[h.1];omega),a3r _ _ _ _ (by rw[h.1];omega)];by_cases e:j=x.length-1-i
 ·subst e
  rw[if_pos U,h.2 i (by omega),if_neg (by omega),if_pos (by omega),show x.length-1-(x.length-1-i)=i by omega]
 ·rw[if_neg e]
  by_cases a:j=i
  ·subst a
   rw[if_pos U,h.2 _ (by omega),if_neg (by omega),if_pos (by omega)]
  ·rw[if_neg a,h.2 j g]
   by_cases c:j<i\/x.length-1-i<j
   ·rw[if_pos c,if_pos (by omega)]
   ·rw[if_neg c,if_neg (by omega)]
theorem d0p.fin{x l:List Int}{i:Nat}(h:d0p x i l)(g:x.length-1-i<=i):l=x.reverse:=by
 refine a1t (d:=default) (by simp[h.1]) fun j a=> ?_
 rw[h.1]at a;have e:x.reverse.getD j default=J8 x (x.length-1-j):=by
  unfold J8;rw[Zc,Zc,List.getElem?_reverse a]
 rw[h.2 j a,e];split
 ·rfl
 ·rename_i c
  rw[show x.length-1-j=j by omega]
end Go.Mv
namespace Go.Mv
theorem e7j{w:ByteArray}(h:1<=nd w):w.toList=[115,111,114,116]\/w.toList=[114,101,118]\/w.toList=[110,101,103]\/w.toList=[97,98,115]\/w.toList=[100,105,102,102]\/w.toList=[115,117,109,115]\/
 w.toList=[114,97,110,107,115]\/w.toList=[116,111,116,97,108]\/w.toList=[97,100,100]\/w.toList=[106,111,105,110]:=by
 refine YB fun c=> ?_
 simp only[not_or]at c;obtain⟨e,g,i,l,n,o,p,q,s,a⟩:=c;have key:nd w<=0:=by
  simp[nd,e,g,i,l,n,o,p,q,s,a]
  (repeat' split)<;>decide
 omega
theorem e9f{w:ByteArray}(h:w.toList=[97,100,100]\/w.toList=[106,111,105,110]):nd w=2:=by
 rcases h with h|h<;>simp[nd,h]
theorem Y1.start1(x:List Int):Y1 x.length (fun i=>prS (J8 x) (i+1)) (J8 x) 1 x:=⟨rfl,fun j a=>by
 by_cases c:j<1
 ·rw[if_pos c,show j=0 by omega];simp[prS,J8]
 ·rw[if_neg c];rfl⟩
theorem a6t.start(x:List Int):a6t x (x.length-1) x:=⟨rfl,fun j a=>by rw[if_neg (by omega)];rfl⟩
theorem a6t.val{x l:List Int}{i:Nat}(h:a6t x i l)(j:Nat):l.getD j default=if i<j/\j<x.length then J8 x j-J8 x (j-1)else J8 x j:=by
 rcases Nat.lt_or_ge j x.length with c|c
 ·rw[h.2 j c]
  by_cases c2:i<j
  ·rw[if_pos c2,if_pos ⟨c2,c⟩]
  ·rw[if_neg c2,if_neg (by omega)]
 ·rw[if_neg (by omega),Zc,ZQ (by rw[h.1];exact c)]
  unfold J8;rw[Zc,ZQ c]
theorem Y1.before{n i j:Nat}{f g:Nat->Int}{l:List Int}(h:Y1 n f g i l)(a:j<i)(c:j<n):l.getD j default=f j:=by rw[h.2 j c,if_pos a]
theorem adF{op:ByteArray}{x y l:List Int}(c:op.toList=[97,100,100])(a:x.length=y.length)(h:l=adI x y)(_:True=True):Y6 op x y=some l:=by
 simp[Y6,c,a,h]
theorem apF{op:ByteArray}{x y l a:List Int}(h:l=a)(c:Y6 op x y=some a):Y6 op x y=some l:=by rw[h];exact c
structure Stp where
 op:ByteArray
 a:Int
 b:Int
 ns:List Int
instance:Inhabited Stp:=⟨⟨⟨#[]⟩,0,0,[]⟩⟩
section
variable{cx:Cx}{keep:List Nat}{ops0:Array Oper}{r:List Oper}{A:Asr}{Q:Asr->List Log->Prop}{d:Nat}{ty:Nat}{pos:String}{aft:Array Edge}
def Stp.sOp(y:Stp)(s:ByteArray):Stp:=⟨s,y.a,y.b,y.ns⟩
def Stp.sA(y:Stp)(n:Int):Stp:=⟨y.op,n,y.b,y.ns⟩
def Stp.sB(y:Stp)(n:Int):Stp:=⟨y.op,y.a,n,y.ns⟩
def Stp.sN(y:Stp)(l:List Int):Stp:=⟨y.op,y.a,y.b,l⟩
@[simp] theorem Stp.sOp_ns(y:Stp)(s:ByteArray):(y.sOp s).ns=y.ns:=rfl
@[simp] theorem Stp.sA_ns(y:Stp)(s:Int):(y.sA s).ns=y.ns:=rfl
@[simp] theorem Stp.sB_ns(y:Stp)(s:Int):(y.sB s).ns=y.ns:=rfl
@[simp] theorem Stp.sN_ns(y:Stp)(s:List Int):(y.sN s).ns=s:=rfl
end
theorem f3y{w:ByteArray}(h:w.toList=wList.toList):nd w=0:=by rw[nd,if_pos h]
theorem d7o(w:ByteArray)(h:w.toList≠wList.toList):nd w=rch w:=by
 by_cases a:w.toList=wA.toList
 ·simp[nd,rch,a]
 by_cases c:w.toList=wB.toList
 ·simp[nd,rch,c]
 by_cases e:w.toList=wC.toList
 ·simp[nd,rch,e]
 by_cases g:w.toList=wD.toList
 ·simp[nd,rch,g]
 unfold nd rch;rw[if_neg h,if_neg a,if_neg c,if_neg e,if_neg g,if_neg a,if_neg c,if_neg e,if_neg g]
section
variable{cx:Cx}{keep:List Nat}{ops0:Array Oper}{r:List Oper}{A:Asr}{Q:Asr->List Log->Prop}{d:Nat}{ty:Nat}{pos:String}{aft:Array Edge}
end
def f0p(w:ByteArray):Nat:=(w.toList.headD 0).toNat-97
theorem f1x{a:List (List Int)}(h:vcs a=true)(k:Nat):vl (a.getD k default)=true:=by
 rcases Nat.lt_or_ge k a.length with c|c
 ·exact b9q ((a1s.1 h).1 _ (N2 c))
 ·rw[Zc,ZQ c];decide
theorem f1e{w:ByteArray}(h:nd w=0):w.toList=wList.toList\/∃k,k<4/\w.toList=[UInt8.ofNat (97+k)]:=by
 refine YB fun l=> ?_
 simp only[not_or,not_exists,not_and]at l;obtain⟨n,e⟩:=l;have a:=e 0 (by decide);have b:=e 1 (by decide);have c:=e 2 (by decide);have i:=e 3 (by decide);simp at a b c i;have g:¬w.toList=[108,105,115,116]:=by simpa using n
 simp[nd,g,a,b,c,i]at h
 (repeat' split at h)<;>simp at h
theorem f2k(b:ByteArray):∀n i r,b.size-i=n->Xv b i r=r.reverse++b.data.toList.drop i:=by
 intro n
 induction n with
 |zero=>
  intro i r h;rw[Xv];have a:¬i<b.size:=by omega
  rw[if_neg a,List.drop_eq_nil_of_le (by rw[Array.length_toList];show b.size<=i;omega),Zm]
 |succ n g=>
  intro i r h;rw[Xv];have a:i<b.size:=by omega
  have c:i<b.data.toList.length:=by rw[Array.length_toList];exact a
  rw[if_pos a,g (i+1) _ (by omega),YH c,List.reverse_cons,Yq];have e:b.get! i=b.data.toList[i]:=by
   show b.data[i]! =_;rw[getElem!_pos b.data i a];exact(Array.getElem_toList ..).symm
  rw[e];rfl
theorem a1b(b:ByteArray):b.toList=b.data.toList:=by
 rw[ByteArray.toList,f2k b b.size 0 [] (by omega)];rfl
theorem d6x{a b:ByteArray}(h:a.toList=b.toList):a=b:=by
 rw[a1b,a1b]at h;cases a;cases b;congr 1;exact Array.toList_inj.1 h
theorem f5u{w:ByteArray}(h:nd w=0):w=wList\/∃k,k<4/\w=e5e k:=by
 rcases f1e h with c|⟨k,a,c⟩
 ·exact .inl (d6x c)
 ·refine .inr ⟨k,a,d6x (c.trans ?_)⟩
  rw[a1b];rfl
theorem e3f{k:Nat}(a:k<4):f0p (e5e k)=k:=by
 unfold f0p;rw[a1b];show(UInt8.ofNat (97+k)).toNat-97=k
 match k,a with
 |0,_=>rfl
 |1,_=>rfl
 |2,_=>rfl
 |3,_=>rfl
end Go.Mv
namespace Go.Mv
theorem I5(xs:List Int)(b:Bool):hasList (.tup [.own 1 (xs.map iV),bV b])=false:=by simp[hasList,G3]
end Go.Mv
namespace Go.Mv
end Go.Mv
namespace Go.Mv
theorem c2i{w:ByteArray}(h:w.toList=wList.toList):rch w= -1:=by
 have e:w=wList:=d6x h;subst e;decide+kernel
theorem e1w{w:ByteArray}(h:rch w=0):(∃k,k<4/\w=e5e k)/\nd w=0:=by
 have g:w.toList≠wList.toList:=fun e=>by rw[c2i e]at h;cases h
 have a:nd w=0:=(d7o w g).trans h;rcases f5u a with c|c
 ·exact absurd (by rw[c]) g
 ·exact⟨c,a⟩
theorem e0l:vl []=true:=by decide
abbrev bA(l:List UInt8):ByteArray:=⟨l.toArray⟩
abbrev tV(l:List UInt8):AV:=sV (bA l)
theorem f1m(l:List UInt8):(bA l).size=l.length:=rfl
theorem a4y(l:List UInt8):(bA l).toList=l:=by rw[a1b]
theorem c6i(a b:List UInt8):bA a++bA b=bA (a++b):=by
 apply ByteArray.ext;simp
theorem d9k(a:List UInt8)(i j:Nat):(bA a).extract i j=bA ((a.drop i).take (j-i)):=by
 apply ByteArray.ext;simp[ByteArray.data_extract]
theorem a1p(b:ByteArray):bA b.data.toList=b:=by cases b;rfl
section
variable{cx:Cx}{keep:List Nat}{ops0:Array Oper}{r:List Oper}{A:Asr}{Q:Asr->List Log->Prop}{d:Nat}{ty:Nat}{pos:String}{aft:Array Edge}
theorem W5{x:Operand}{T:Nat}{l:List UInt8}(e:opd A x=some (tV l))(c:a6e (tyS cx.P T).k=true)
 (h:XR cx keep ops0 r ((.t d,iV l.length)::A) fun a g=>Q a ((rds x,[.t d])::g)):XR cx keep ops0 (⟨some d,.call ⟨.builtin .len,#[x],#[T]⟩,ty,pos,aft,none⟩::r) A Q:=e4n e c h
theorem M9{x i:Operand}{T n:Nat}{l:List UInt8}{k:IntKind}(c:a6e (tyS cx.P T).k=true)(o:opd A x=some (tV l))(e:opd A i=some (.val (.int k (n:Int))))(g:n<l.length)
 (h:XR cx keep ops0 r ((.t d,uV (l.getD n 0).toNat)::A) fun a p=>Q a ((rds x++rds i,[.t d])::p)):XR cx keep ops0 (⟨some d,.index T x i,ty,pos,aft,none⟩::r) A Q:=
 a7b c o e (by omega) (by rw[Int.toNat_natCast];show l[n]? =_;rw[Zc,Zg g];rfl) h
theorem J9{T z:Nat}{a b:Operand}{x y:List UInt8}(e:opd A a=some (tV x))(g:opd A b=some (tV y))(i:x.length+y.length<=H0)
 (h:XR cx keep ops0 r ((.t d,tV (x++y))::A) fun c l=>Q c ((rds a++rds b,[.t d])::l)):XR cx keep ops0 (⟨some d,.binOp .add T a b z,ty,pos,aft,none⟩::r) A Q:=
 f4z e g i (by rw[c6i];exact h)
theorem H1{T z:Nat}{a b:Operand}{x y:List UInt8}(e:opd A a=some (tV x))(g:opd A b=some (tV y))
 (h:XR cx keep ops0 r ((.t d,bV (decide (x=y)))::A) fun c i=>Q c ((rds a++rds b,[.t d])::i)):XR cx keep ops0 (⟨some d,.binOp .eql T a b z,ty,pos,aft,none⟩::r) A Q:=
 K0 e g (by rw[a4y,a4y,show(x==y)=decide (x=y)from Bool.eq_iff_iff.2 (by simp)];exact h)
theorem b5j{T z:Nat}{a b:Operand}{x y:List UInt8}(e:opd A a=some (tV x))(g:opd A b=some (tV y))
 (h:XR cx keep ops0 r ((.t d,bV (!decide (x=y)))::A) fun c i=>Q c ((rds a++rds b,[.t d])::i)):XR cx keep ops0 (⟨some d,.binOp .neq T a b z,ty,pos,aft,none⟩::r) A Q:=
 f6n e g (by rw[a4y,a4y,show(x==y)=decide (x=y)from Bool.eq_iff_iff.2 (by simp)];exact h)
theorem Q7{x:Operand}{T c a:Nat}{n i:Option Operand}{l:List UInt8}{e g:List Mv.Loc}(z:opd A x=some (tV l))(q:(tyS cx.P T).k= .string)
 (u:wpA (CW cx) A (optNat i l.length) fun k ls=>k=a/\ls=e) (v:wpA (CW cx) A (optNat n 0) fun k ls=>k=c/\ls=g) (s:c<=a/\a<=l.length)
 (h:XR cx keep ops0 r ((.t d,tV ((l.drop c).take (a-c)))::A) fun p B=>Q p ((rds x++(e++g),[.t d])::B)):XR cx keep ops0 (⟨some d,.slice T x n i none,ty,pos,aft,none⟩::r) A Q:=by
 refine K8 (fun o y=>by simp only[aopV,y]) ?_ (by simp[slotOk,refOkV,refsOk]) h;simp only[opV,E4,E5 z,sliceA,q,F8];refine⟨trivial,?_⟩;refine N5 ?_ u;rintro _ _ ⟨rfl,rfl⟩;refine N5 ?_ v;rintro _ _ ⟨rfl,rfl⟩;simp only[F8,F3,d9k,Zm];exact⟨s,by simp⟩
end
theorem d5r{x:Int}(h:0<=x/\x<=255):inI .u8 x:=by
 constructor<;>simp[IntKind.min,IntKind.max,IntKind.signed,IntKind.bits]<;>omega
def decN(n:Nat):List UInt8:=if n<10 then[UInt8.ofNat (48+n)]else decN (n/10)++[UInt8.ofNat (48+n%10)]
termination_by n
theorem e2x{n:Nat}(h:n<10):decN n=[UInt8.ofNat (48+n)]:=by rw[decN,if_pos h]
theorem f2x{n:Nat}(h:¬n<10):decN n=decN (n/10)++decN (n%10):=by
 rw[decN,if_neg h,e2x (show n%10<10 from Nat.mod_lt _ (by decide))]
def dec(n:Int):List UInt8:=if n<0 then 45::decN (-n).toNat else decN n.toNat
theorem b7w(n:Nat):dec (n:Int)=decN n:=by rw[dec,if_neg (by omega)];rfl
theorem u8n{k:Nat}(h:k<256):(UInt8.ofNat k).toNat=k:=by rw[UInt8.toNat_ofNat'];exact Nat.mod_eq_of_lt h
theorem b2g(n:Nat):∀b∈decN n,48<=b.toNat/\b.toNat<=57:=by
 induction n using Nat.strongRecOn with
 |_ n e=>
  rw[decN];split
  ·intro b a
   cases Ye.1 a;rw[u8n (by omega)];omega
  ·intro b a
   rcases ZF.1 a with c|c
   ·exact e _ (by omega) b c
   ·cases Ye.1 c
    rw[u8n (by omega)];omega
theorem b1v(n:Nat):decN n≠[]:=by
 rw[decN];split<;>simp
theorem e8g(n:Int):dec n≠[]:=by
 rw[dec];split
 ·simp
 ·exact b1v _
theorem d1m(n:Nat):∀{k:Nat},1<=k->n<10^k->(decN n).length<=k:=by
 induction n using Nat.strongRecOn with
 |_ n e=>
  intro k a c;rw[decN];split
  ·simpa using a
  ·rename_i h
   match k,a with
   |1,_=>omega
   |k+2,_=>
    have:=e (n/10) (by omega) (k:=k+1) (by omega) (by rw[Nat.pow_succ]at c;omega);simp;omega
theorem M5{m:Int}(h: -1000000<=m/\m<=1000000):(dec m).length<=8:=by
 rw[dec];split
 ·have:=d1m (-m).toNat (k:=7) (by decide) (by omega)
  simp;omega
 ·have:=d1m m.toNat (k:=7) (by decide) (by omega)
  omega
theorem f3h{n:Int}(h:n<0):dec n=[45]++dec (-n):=by
 rw[dec,if_pos h,dec,if_neg (by omega)];rfl
theorem f3x{n:Int}(h:0<=n/\n<10):dec n=(([48,49,50,51,52,53,54,55,56,57]:List UInt8).drop n.toNat).take ((n+1).toNat-n.toNat):=by
 obtain⟨k,rfl⟩:∃k:Nat,n=k:=⟨n.toNat,by omega⟩;have a:k<10:=by omega
 rw[b7w,e2x a]
 match k,a with
 |0,_=>rfl
 |1,_=>rfl
 |2,_=>rfl
 |3,_=>rfl
 |4,_=>rfl
 |5,_=>rfl
 |6,_=>rfl
 |7,_=>rfl
 |8,_=>rfl
 |9,_=>rfl
theorem f5m{n:Int}(h:¬n<10):dec n=dec (n.tdiv 10)++dec (n.tmod 10):=by
 obtain⟨k,rfl⟩:∃k:Nat,n=k:=⟨n.toNat,by omega⟩;have a:(k:Int).tdiv 10=((k/10:Nat):Int):=by rw[Int.tdiv_eq_ediv_of_nonneg (by omega)];omega
 have c:(k:Int).tmod 10=((k%10:Nat):Int):=by rw[Int.tmod_eq_emod_of_nonneg (by omega)];omega
 rw[a,c,b7w,b7w,b7w,f2x (by omega)]
def joinB(c:UInt8):List (List UInt8)->List UInt8
 |[]=>[]
 |[p]=>p
 |p::q::r=>p++c::joinB c (q::r)
def a0b(q:List UInt8):List (List UInt8)->List (List UInt8)
 |p::a=>(q++p)::a
 |[]=>[]
def splitB(c:UInt8):List UInt8->List (List UInt8)
 |[]=>[[]]
 |b::r=>if b=c then[]::splitB c r else a0b [b] (splitB c r)
theorem d2t(a b:List UInt8)(l:List (List UInt8)):a0b a (a0b b l)=a0b (a++b) l:=by cases l<;>simp[a0b]
theorem c5o(l:List (List UInt8)):a0b [] l=l:=by cases l<;>simp[a0b]
theorem b3b(c:UInt8)(l:List UInt8):splitB c l≠[]:=by
 induction l with
 |nil=>simp[splitB]
 |cons b r a=>
  rw[splitB];split
  ·simp
  ·cases h:splitB c r with
   |nil=>exact absurd h a
   |cons p e=>simp[a0b]
theorem d5e{c:UInt8}{p:List UInt8}(h:c∉p)(r:List UInt8):splitB c (p++c::r)=p::splitB c r:=by
 induction p with
 |nil=>simp[splitB]
 |cons b p a=>
  simp only[ZM,not_or]at h;rw[Zp,splitB,if_neg (fun e=>h.1 e.symm),a h.2]
  rfl
theorem d1j{c:UInt8}{p:List UInt8}(h:c∉p):splitB c p=[p]:=by
 induction p with
 |nil=>rfl
 |cons b p a=>
  simp only[ZM,not_or]at h;rw[splitB,if_neg (fun e=>h.1 e.symm),a h.2]
  rfl
theorem a9a{c:UInt8}:∀{ps:List (List UInt8)},ps≠[]->(∀p∈ps,c∉p)->splitB c (joinB c ps)=ps
 |[],h,_=>absurd U h
 |[p],_,h=>d1j (h p (by simp))
 |p::q::r,_,h=>by
  rw[joinB,d5e (h p (by simp)),a9a (by simp) fun x a=>h x (Zn _ a)]
theorem Q2{c:UInt8}{p:List UInt8}{r:List (List UInt8)}(h:r≠[]):joinB c (p::r)=p++c::joinB c r:=by
 cases r with
 |nil=>exact absurd U h
 |cons q r=>rfl
theorem b0m(c:UInt8)(l:List UInt8):joinB c (splitB c l)=l:=by
 induction l with
 |nil=>rfl
 |cons b r a=>
  rw[splitB];split
  ·rename_i e
   subst e;rw[Q2 (b3b _ _),a];rfl
  ·cases h:splitB c r with
   |nil=>exact absurd h (b3b c r)
   |cons p g=>
    rw[h]at a;cases g with
    |nil=>simp only[a0b,joinB]at a|-;rw[a];rfl
    |cons q g=>simp only[a0b,joinB]at a|-;rw[<-a];rfl
theorem c0i{c:UInt8}{s:List UInt8}{out:List (List UInt8)}{fr i:Nat}(g:i<s.length)(n:fr<=i)(h:splitB c s=out++a0b ((s.drop fr).take (i-fr)) (splitB c (s.drop i))):
 (s.getD i 0=c->splitB c s=(out++[(s.drop fr).take (i-fr)])++a0b ((s.drop (i+1)).take (i+1-(i+1))) (splitB c (s.drop (i+1))))/\
 (s.getD i 0≠c->splitB c s=out++a0b ((s.drop fr).take (i+1-fr)) (splitB c (s.drop (i+1)))):=by
 have e:s.drop i=s.getD i 0::s.drop (i+1):=by
  rw[YH g,Zc,Zg g];rfl
 refine⟨fun a=> ?_,fun a=> ?_⟩
 ·rw[h,e,splitB,if_pos a,Nat.sub_self,List.take_zero,c5o,a0b,Zm,Yq];rfl
 ·rw[h,e,splitB,if_neg a,d2t]
  congr 2;have l:(s.drop fr).take (i+1-fr)=(s.drop fr).take (i-fr)++[s.getD i 0]:=by
   rw[show i+1-fr=(i-fr)+1 by omega,Yl (by simp;omega)];congr 2;rw[List.getElem_drop,Zc,Zg g];simp[show fr+(i-fr)=i by omega]
  rw[l]
def a0k:Nat->List UInt8->Option Nat
 |a,[]=>some a
 |a,b::r=>if 48<=b.toNat/\b.toNat<=57/\a<=10000 then a0k (10*a+(b.toNat-48)) r else none
theorem a7p(x y:List UInt8):∀a,a0k a (x++y)=(a0k a x).bind fun b=>a0k b y:=by
 induction x with
 |nil=>intro a;rfl
 |cons c x e=>
  intro a;rw[Zp,a0k,a0k];split
  ·exact e _
  ·rfl
theorem d6g(n:Nat):n<=100009->a0k 0 (decN n)=some n:=by
 induction n using Nat.strongRecOn with
 |_ n a=>
  intro c;rw[decN];split
  ·rename_i h
   rw[a0k,u8n (by omega),if_pos (by omega),a0k];congr 1;omega
  ·rename_i h
   rw[a7p,a (n/10) (by omega) (by omega),Zl,a0k,u8n (by omega),if_pos (by omega),a0k];congr 1;omega
def neg?(t:List UInt8):Bool:=decide (t.head? =some 45)
def unS(t:List UInt8):List UInt8:=if neg? t=true then t.tail else t
def rdI(t:List UInt8):Option Int:=(a0k 0 (unS t)).bind fun n=>if unS t=[]\/dec (if neg? t=true then-(n:Int)else n)≠t then none else some (if neg? t=true then-(n:Int)else n)
theorem e8f{t:List UInt8}{m:Int}(h:rdI t=some m):t=dec m:=by
 unfold rdI at h;obtain⟨n,_,a⟩:=Za.1 h;by_cases c:unS t=[]\/dec (if neg? t=true then-(n:Int)else n)≠t
 ·rw[if_pos c]at a;cases a
 ·rw[if_neg c]at a
  simp only[not_or,Decidable.not_not]at c;rw[Zb]at a;rw[<-a];exact c.2.symm
theorem e8n(n:Nat):neg? (decN n)=false:=by
 cases h:decN n with
 |nil=>rfl
 |cons b r=>
  have:=b2g n b (by rw[h];simp);simp only[neg?,List.head?_cons,Zb,decide_eq_false_iff_not];intro e;subst e;exact absurd this.1 (by decide)
theorem f2u{m:Int}(h: -100000<=m/\m<=100000):rdI (dec m)=some m:=by
 by_cases hm:m<0
 ·have e:dec m=45::decN (-m).toNat:=by rw[dec,if_pos hm]
  have a:neg? (dec m)=true:=by rw[e];rfl
  have hu:unS (dec m)=decN (-m).toNat:=by rw[unS,if_pos a,e];rfl
  rw[rdI,hu,d6g _ (by omega),Zl,a];simp only[if_true];have c: -(((-m).toNat:Nat):Int)=m:=by omega
  rw[c,if_neg (by simp[b1v])]
 ·have e:dec m=decN m.toNat:=by rw[dec,if_neg hm]
  have a:neg? (dec m)=false:=by rw[e];exact e8n _
  have hu:unS (dec m)=decN m.toNat:=by rw[unS,a,if_neg (by decide),e]
  rw[rdI,hu,d6g _ (by omega),Zl,a];simp only[ZZ,if_false];have c:((m.toNat:Nat):Int)=m:=by omega
  rw[c,if_neg (by simp[b1v])]
theorem c1b{c:UInt8}(g:c≠45)(a:¬(48<=c.toNat/\c.toNat<=57))(n:Int):c∉dec n:=by
 rw[dec];split
 ·intro h
  rcases ZM.1 h with e|e
  ·exact g e
  ·exact a (b2g _ c e)
 ·exact fun h=>a (b2g _ c h)
def P0(ns:List Int):List UInt8:=joinB 44 (ns.map dec)
theorem b0x{c:UInt8}(p:List UInt8):∀{r:List (List UInt8)},r≠[]->joinB c (r++[p])=joinB c r++c::p
 |[],h=>absurd U h
 |[q],_=>rfl
 |q::a::r,_=>by
  have e:=b0x (c:=c) p (r:=a::r) (by simp);show q++c::joinB c ((a::r)++[p])=(q++c::joinB c (a::r))++c::p;rw[e];simp
theorem d2c{ns:List Int}{i:Nat}(a:i<ns.length)(c:0<i):P0 (ns.take (i+1))=P0 (ns.take i)++[44]++dec (ns.getD i default):=by
 have e:ns.getD i default=ns[i]:=by rw[Zc,Zg a];rfl
 rw[P0,P0,Yl a,Yi,XI,b0x,e,Yq]
 ·rfl
 ·intro h
  have:=congrArg List.length h;rw[Zi,ZH,Zo]at this;omega
theorem d1s{ns:List Int}{i:Nat}(c:i<ns.length)(a:i=0):P0 (ns.take (i+1))=P0 (ns.take i)++dec (ns.getD i default):=by
 subst a;cases ns with
 |nil=>simp at c
 |cons n r=>rfl
theorem U5{ns:List Int}(h:∀n∈ns,-1000000<=n/\n<=1000000):(P0 ns).length<=9*ns.length:=by
 have key:∀a:List (List UInt8),(∀p∈a,p.length<=8)->(joinB 44 a).length<=9*a.length:=by
  intro a
  induction a with
  |nil=>intro _;simp[joinB]
  |cons p r i=>
   intro c;have l:=c p (by simp);have e:=i fun q hq=>c q (Zn _ hq)
   cases r with
   |nil=>simp only[joinB,Ym];omega
   |cons q r=>rw[Q2 (by simp)];simp only[Zf,Ze]at e|-;omega
 have:=key (ns.map dec) fun p c=>by
  obtain⟨n,g,rfl⟩:=ZI.1 c;exact M5 (h n g)
 simpa[P0]using this
def S3(ns:List Int):List UInt8:=91::(P0 ns++[93])
def a3i:List (List UInt8)->Option (List Int)
 |[]=>some []
 |p::r=>(rdI p).bind fun n=>(a3i r).map fun ns=>n::ns
def rdL(s:List UInt8):Option (List Int):=a3i (splitB 44 s)
theorem b3i:∀{ps:List (List UInt8)} {ns:List Int},a3i ps=some ns->ps=ns.map dec
 |[],ns,h=>by cases h;rfl
 |p::r,ns,h=>by
  simp only[a3i,Za,Zh]at h;obtain⟨n,a,ms,c,rfl⟩:=h;rw[Zz,<-e8f a,<-b3i c]
theorem d1r:∀{ns:List Int},(∀n∈ns,-100000<=n/\n<=100000)->a3i (ns.map dec)=some ns
 |[],_=>rfl
 |n::ns,h=>by rw[Zz,a3i,f2u (h n (by simp)),Zl,d1r fun x a=>h x (Zn _ a)];rfl
theorem b5z(x y:List (List UInt8)):a3i (x++y)=(a3i x).bind fun a=>(a3i y).map fun b=>a++b:=by
 induction x with
 |nil=>cases h:a3i y<;>simp[a3i,h]
 |cons p x c=>
  rw[Zp,a3i,a3i,c];cases rdI p with
  |none=>rfl
  |some n=>
   cases a3i x with
   |none=>rfl
   |some a=>
    cases a3i y with
    |none=>rfl
    |some b=>rfl
theorem b3c{ps:List (List UInt8)}{ns:List Int}{i:Nat}{n:Int}(a:i<ps.length)(h:a3i (ps.take i)=some ns)(c:rdI (ps.getD i default)=some n):a3i (ps.take (i+1))=some (ns++[n]):=by
 have e:ps.getD i default=ps[i]:=by rw[Zc,Zg a];rfl
 rw[e]at c;rw[Yl a,b5z,h,Zl,a3i,c]
 rfl
theorem O3{ps:List (List UInt8)}{i:Nat}(a:i<ps.length)(c:rdI (ps.getD i default)=none):a3i ps=none:=by
 have e:ps.getD i default=ps[i]:=by rw[Zc,Zg a];rfl
 rw[e]at c;rw[<-List.take_append_drop i ps,b5z,YH a,a3i,c];cases a3i (ps.take i)<;>rfl
theorem b5d:∀{ps:List (List UInt8)} {ns:List Int},a3i ps=some ns->ns.length=ps.length:=fun h=>by rw[b3i h,Zi]
theorem b8m:∀{u:List UInt8} {a n:Nat},a<=100009->a0k a u=some n->n<=100009
 |[],a,n,c,h=>by cases h;exact c
 |b::r,a,n,_,h=>by
  rw[a0k]at h;split at h
  ·exact b8m (by omega) h
  ·cases h
theorem b4b{u:List UInt8}{k a:Nat}(g:k<u.length)(h:a0k 0 (u.take k)=some a)(c:48<=(u.getD k 0).toNat/\(u.getD k 0).toNat<=57/\a<=10000):a0k 0 (u.take (k+1))=some (10*a+((u.getD k 0).toNat-48)):=by
 have e:u.getD k 0=u[k]:=by rw[Zc,Zg g];rfl
 rw[e]at c|-;rw[Yl g,a7p,h,Zl,a0k,if_pos c,a0k]
theorem X4{u:List UInt8}{k a:Nat}(g:k<u.length)(h:a0k 0 (u.take k)=some a)(c:¬(48<=(u.getD k 0).toNat/\(u.getD k 0).toNat<=57/\a<=10000)):a0k 0 u=none:=by
 have e:u.getD k 0=u[k]:=by rw[Zc,Zg g];rfl
 rw[e]at c;rw[<-List.take_append_drop k u,a7p,h,Zl,YH g,a0k,if_neg c]
theorem a0l{p:List UInt8}(h:a0k 0 (unS p)=none):rdI p=none:=by rw[rdI,h];rfl
theorem d8h{p:List UInt8}{a:Nat}{m:Int}(h:a0k 0 (unS p)=some a)(hm:m=if neg? p=true then-(a:Int)else a)(c:unS p≠[])(e:dec m=p):rdI p=some m:=by
 rw[rdI,h,Zl,<-hm,if_neg (by simp[c,e])]
theorem b4d{p:List UInt8}{a:Nat}{m:Int}(h:a0k 0 (unS p)=some a)(hm:m=if neg? p=true then-(a:Int)else a)(c:unS p=[]\/dec m≠p):rdI p=none:=by
 rw[rdI,h,Zl,<-hm,if_pos c]
theorem f6r{p:List UInt8}(h:p≠[])(c:(p.getD 0 0).toNat=45):neg? p=true/\unS p=(p.drop 1).take (p.length-1):=by
 have a:neg? p=true:=by
  cases p with
  |nil=>exact absurd U h
  |cons b r=>exact decide_eq_true (congrArg some (UInt8.toNat_inj.1 c))
 refine⟨a,?_⟩;rw[unS,if_pos a];cases p with
 |nil=>rfl
 |cons b r=>simp
theorem f4g{p:List UInt8}(h:p=[]\/(p.getD 0 0).toNat≠45):neg? p=false/\unS p=p:=by
 have a:neg? p=false:=by
  cases p with
  |nil=>rfl
  |cons b r=>
   refine decide_eq_false fun e=> ?_
   rcases h with h|h
   ·cases h
   ·cases e;exact h U
 exact⟨a,by rw[unS,a,if_neg (by decide)]⟩
theorem a4h{ns:List Int}(h:ns≠[]):splitB 44 (P0 ns)=ns.map dec:=
 a9a (by simpa using h) fun p a=>by
  obtain⟨n,_,rfl⟩:=ZI.1 a;exact c1b (by decide) (by decide) n
def numsOf(w:List UInt8):Option (List Int):=
 if 2<=w.length/\w.getD 0 0=91/\w.getD (w.length-1) 0=93 then
  (if w.length=2 then some []else(rdL ((w.drop 1).take (w.length-1-1))).bind fun ns=>if vd ns=true then some ns else none)else none
theorem e4v(ns:List Int):(S3 ns).length=(P0 ns).length+2:=by simp[S3]
theorem e6n{w:List UInt8}(h:2<=w.length/\w.getD 0 0=91/\w.getD (w.length-1) 0=93):w=91::((w.drop 1).take (w.length-1-1)++[93]):=by
 obtain⟨c,p,q⟩:=h
 match w,c with
 |a::r,c=>
  simp only[Ze]at c;have o:a=91:=p;subst o;have t:r≠[]:=fun e=>by subst e;simp at c
  simp only[Ze,Nat.add_sub_cancel,Yh,ZY];congr 1;have n:r.getD (r.length-1) 0=93:=by
   have:(91::r).getD (r.length) 0=93:=by simpa using q
   rw[show r.length=(r.length-1)+1 by omega,YU]at this;exact this
  have g:=Yl (l:=r) (i:=r.length-1) (by omega);rw[show r.length-1+1=r.length by omega,Yo]at g;rw[Zc,Zg (by omega)]at n;have s:r[r.length-1]=93:=n;rw[s]at g;exact g
theorem a8o{w:List UInt8}{ns:List Int}(h:numsOf w=some ns):w=S3 ns/\vd ns=true:=by
 unfold numsOf at h;split at h
 ·rename_i i
  have c:=e6n i;split at h
  ·rename_i e
   cases h;refine⟨?_,by decide⟩;rw[c,e]
   rfl
  ·obtain⟨ms,g,a⟩:=Za.1 h
   split at a
   ·rename_i l
    cases a;refine⟨?_,l⟩;rw[c,S3,P0,<-b3i g,b0m]
   ·cases a
 ·cases h
theorem e9h{ns:List Int}(h:vd ns=true):∀n∈ns,-200<=n/\n<=200:=by
 intro n c;obtain⟨i,a,rfl⟩:=Xl c;have:=U2.1 (e6x h) i a;rw[Zc,Zg a]at this;exact this
theorem b5p{ns:List Int}(h:vd ns=true):numsOf (S3 ns)=some ns:=by
 unfold numsOf;have c:=e4v ns;rw[if_pos ⟨by omega,U,by
  rw[c,S3,show(P0 ns).length+2-1=(P0 ns).length+1 by omega,YU,Zc,Yn (Zd _)];simp⟩]
 by_cases a:ns=[]
 ·subst a
  rfl
 ·have g:P0 ns≠[]:=by
   intro e;have:=a4h a;rw[e]at this;cases ns with
   |nil=>exact a U
   |cons n r=>
    simp only[splitB,Zz,List.cons.injEq]at this;exact e8g n this.1.symm
  have i:0<(P0 ns).length:=List.length_pos_iff.2 g;rw[if_neg (by omega),c];have e:((S3 ns).drop 1).take ((P0 ns).length+2-1-1)=P0 ns:=by
   rw[S3,Yh,ZY,show(P0 ns).length+2-1-1=(P0 ns).length by omega,List.take_left]
  rw[e,rdL,a4h a,d1r fun n a=>by have:=e9h h n a;omega,Zl,if_pos h]
end Go.Mv
namespace Go.Mv
theorem Z0(c:UInt8)(l:List UInt8):(splitB c l).length<=l.length+1:=by
 induction l with
 |nil=>simp[splitB]
 |cons b r a=>
  rw[splitB];split
  ·simp;omega
  ·cases h:splitB c r with
   |nil=>simp[a0b]
   |cons p e=>rw[h]at a;simp[a0b]at a|-;omega
theorem a0h(c:UInt8)(l:List UInt8):∀p∈splitB c l,p.length<=l.length:=by
 induction l with
 |nil=>simp[splitB]
 |cons b r a=>
  rw[splitB];split
  ·intro p g
   rcases ZM.1 g with e|e
   ·subst e;simp
   ·have:=a p e;simp;omega
  ·cases h:splitB c r with
   |nil=>simp[a0b]
   |cons q i=>
    rw[h]at a;intro p g;rcases ZM.1 g with e|e
    ·subst e;have:=a q (by simp);simp;omega
    ·have:=a p (by simp[e]);simp;omega
end Go.Mv
namespace Go.Mv
theorem c8n(p:List UInt8):(unS p).length<=p.length:=by
 unfold unS;split
 ·cases p<;>simp
 ·exact Zd _
end Go.Mv
namespace Go.Mv
def d3y(w:List UInt8):List Int:=
 if 2<=w.length/\w.getD 0 0=91/\w.getD (w.length-1) 0=93 then(if w.length=2 then[]else(rdL ((w.drop 1).take (w.length-1-1))).getD [])else[]
theorem f4d{b c:UInt8}{k:Nat}(h:(b.toNat:Int)=k)(a:c.toNat=k):b=c:=UInt8.toNat_inj.1 (by omega)
theorem a9g{s:List UInt8}(h:s.length<2\/(s.getD 0 0).toNat≠91\/(s.getD (s.length-1) 0).toNat≠93):numsOf s=none/\d3y s=[]:=by
 have a:¬(2<=s.length/\s.getD 0 0=91/\s.getD (s.length-1) 0=93):=by
  rintro⟨g,c,e⟩;rcases h with h|h|h
  ·omega
  ·exact h (by rw[c];rfl)
  ·exact h (by rw[e];rfl)
 exact⟨if_neg a,if_neg a⟩
theorem e6d{s:List UInt8}(c:2<=s.length)(g:((s.getD 0 0).toNat:Int)=91)(h:((s.getD (s.length-1) 0).toNat:Int)=93):
 (s.length=2->numsOf s=some []/\d3y s=[])/\(s.length≠2->numsOf s=((rdL ((s.drop 1).take (s.length-1-1))).bind fun ns=>if vd ns=true then some ns else none)/\d3y s=(rdL ((s.drop 1).take (s.length-1-1))).getD []):=by
 have a:2<=s.length/\s.getD 0 0=91/\s.getD (s.length-1) 0=93:=⟨c,f4d g U,f4d h U⟩;refine⟨fun e=> ?_,fun e=> ?_⟩
 ·rw[numsOf,d3y,if_pos a,if_pos a,if_pos e,if_pos e];exact⟨U,U⟩
 ·rw[numsOf,d3y,if_pos a,if_pos a,if_neg e,if_neg e];exact⟨U,U⟩
theorem f3b{s:List UInt8}{ns:List Int}(h:numsOf s=some ns):d3y s=ns:=by
 unfold numsOf at h;unfold d3y;split at h
 ·rename_i g
  rw[if_pos g];split at h
  ·rename_i a
   rw[if_pos a];cases h;rfl
  ·rename_i a
   rw[if_neg a];obtain⟨ms,e,c⟩:=Za.1 h;split at c
   ·cases c;rw[e];rfl
   ·cases c
 ·cases h
theorem f2e(s:List UInt8):((rdL s).getD []).length<=s.length+1:=by
 cases h:rdL s with
 |none=>exact Zv _
 |some ns=>have:=b5d h;have a:=Z0 44 s;simp only[Option.getD_some];omega
theorem c1z{s:List UInt8}{o:Option (List Int)}(h:numsOf s=(o.bind fun ns=>if vd ns=true then some ns else none)):(numsOf s).isSome=(o.isSome&&vd (o.getD [])):=by
 rw[h];cases o with
 |none=>rfl
 |some ns=>
  simp only[Zl,Option.isSome_some,Bool.true_and,Option.getD_some];cases a:vd ns<;>rfl
inductive Pl where
 |lst (ns:List Int)
 |col (w:List UInt8)
 |un (w:List UInt8) (p:Pl)
 |bin (w:List UInt8) (p q:Pl)
 deriving Inhabited
abbrev lW:List UInt8:=[108,105,115,116]
def Pl.op:Pl->List UInt8
 | .lst _=>lW
 | .col w=>w
 | .un w _=>w
 | .bin w _ _=>w
def Pl.ns:Pl->List Int
 | .lst ns=>ns
 |_=>[]
def Pl.kids:Pl->List Pl
 | .lst _=>[]
 | .col _=>[]
 | .un _ p=>[p]
 | .bin _ p q=>[p,q]
def a7s:Pl->List AV
 | .lst _=>[]
 | .col _=>[]
 | .un _ p=>[.agg [tV p.op,.list (p.ns.map iV),.list (a7s p)]]
 | .bin _ p q=>[.agg [tV p.op,.list (p.ns.map iV),.list (a7s p)],.agg [tV q.op,.list (q.ns.map iV),.list (a7s q)]]
abbrev trV(t:Pl):AV:= .agg [tV t.op,.list (t.ns.map iV),.list (a7s t)]
abbrev trK(t:Pl):AV:= .agg [tV t.op,.list (t.ns.map iV),.list (t.kids.map trV)]
theorem a4u(t:Pl):a7s t=t.kids.map trV:=by cases t<;>rfl
theorem L0(t:Pl):trV t=trK t:=by show AV.agg _=AV.agg _;rw[a4u]
abbrev trZ:AV:= .agg [tV [],.list [],.list []]
abbrev W8:=List UInt8
def rdP:Nat->List W8->Option (Pl×List W8)
 |0,_=>none
 |_+1,[]=>none
 |n+1,w::ws=>match numsOf w with
  |some ns=>some (.lst ns,ws)
  |none=>
   if rch (bA w)=0 then some (.col w,ws)
   else if rch (bA w)=1 then(rdP n ws).map fun x=>(.un w x.1,x.2)
   else if rch (bA w)=2 then(rdP n ws).bind fun x=>(rdP n x.2).map fun y=>(.bin w x.1 y.1,y.2)
   else none
def rdT(ws:List W8):Option (Pl×List W8):=rdP ws.length ws
theorem a5m:∀{n:Nat} {ws r:List W8} {t:Pl},rdP n ws=some (t,r)->r.length<ws.length
 |0,_,_,_,h=>by cases h
 |_+1,[],_,_,h=>by cases h
 |n+1,w::ws,r,t,h=>by
  rw[rdP]at h;split at h
  ·cases h;exact ZJ _
  ·split at h
   ·cases h;exact ZJ _
   ·split at h
    ·obtain⟨⟨p,l⟩,c,e⟩:=Zh.1 h
     cases e;have:=a5m c;simp only[Ze];omega
    ·split at h
     ·obtain⟨⟨p,l⟩,c,e⟩:=Za.1 h
      obtain⟨⟨q,o⟩,g,i⟩:=Zh.1 e;cases i;have a:=a5m c;have b:=a5m g;simp only[Ze]at b|-;omega
     ·cases h
theorem c0o:∀{n m:Nat} {ws:List W8},ws.length<=n->ws.length<=m->rdP n ws=rdP m ws
 |0,0,_,_,_=>rfl
 |0,m+1,[],_,_=>rfl
 |n+1,0,[],_,_=>rfl
 |n+1,m+1,[],_,_=>rfl
 |0,_,w::ws,h,_=>by simp at h
 |n+1,0,w::ws,_,h=>by simp at h
 |n+1,m+1,w::ws,c,g=>by
  simp only[Ze]at c g;have e:rdP n ws=rdP m ws:=c0o (by omega) (by omega);rw[rdP,rdP,e];have a:((rdP m ws).bind fun x=>(rdP n x.2).map fun y=>(Pl.bin w x.1 y.1,y.2))=(rdP m ws).bind fun x=>(rdP m x.2).map fun y=>(Pl.bin w x.1 y.1,y.2):=by
   cases h:rdP m ws with
   |none=>rfl
   |some x=>
    obtain⟨p,r⟩:=x;have:=a5m h;simp only[Zl];rw[c0o (n:=n) (m:=m) (ws:=r) (by omega) (by omega)]
  rw[a]
theorem d3w{w:W8}{ws:List W8}{ns:List Int}(h:numsOf w=some ns):rdT (w::ws)=some (.lst ns,ws):=by
 rw[rdT,Ze,rdP,h]
theorem e1z{w:W8}{ws:List W8}(h:numsOf w=none)(a:rch (bA w)=0):rdT (w::ws)=some (.col w,ws):=by
 rw[rdT,Ze,rdP,h];exact if_pos a
theorem e1l{w:W8}{ws:List W8}(h:numsOf w=none)(a:rch (bA w)<0):rdT (w::ws)=none:=by
 rw[rdT,Ze,rdP,h];simp only;rw[if_neg (by omega),if_neg (by omega),if_neg (by omega)]
theorem c9n{w:W8}{ws:List W8}(h:numsOf w=none)(a:rch (bA w)=1):rdT (w::ws)=(rdT ws).map fun x=>(.un w x.1,x.2):=by
 rw[rdT,Ze,rdP,h];simp only;rw[if_neg (by omega),if_pos a];rfl
theorem a9t{w:W8}{ws:List W8}(h:numsOf w=none)(a:rch (bA w)=2):rdT (w::ws)=(rdT ws).bind fun x=>(rdT x.2).map fun y=>(.bin w x.1 y.1,y.2):=by
 rw[rdT,Ze,rdP,h];simp only;rw[if_neg (by omega),if_neg (by omega),if_pos a];show(rdT ws).bind _=_;cases h:rdT ws with
 |none=>rfl
 |some x=>
  obtain⟨p,r⟩:=x;have:=a5m h;simp only[Zl];rw[c0o (n:=ws.length) (m:=r.length) (ws:=r) (by omega) (by omega)];rfl
theorem a1x{ws r:List W8}{t:Pl}(h:rdT ws=some (t,r)):r.length<ws.length:=a5m h
def rtR:Option (Pl×List W8)->AV
 |some (t,r)=> .tup [trV t,.list (r.map tV),bV true]
 |none=> .tup [trZ,.own 1 [],bV false]
theorem c6v{w:ByteArray}(h:0<=rch w):rch w=0\/rch w=1\/rch w=2:=by have:=f0i w;omega
end Go.Mv
namespace Go.Mv
theorem b1t:∀{n:Nat} {ws r:List W8} {t:Pl},rdP n ws=some (t,r)->∀x∈r,x∈ws
 |0,_,_,_,h=>by cases h
 |_+1,[],_,_,h=>by cases h
 |n+1,w::ws,r,t,h=>by
  rw[rdP]at h;split at h
  ·cases h;exact fun x a=>Zn _ a
  ·split at h
   ·cases h;exact fun x a=>Zn _ a
   ·split at h
    ·obtain⟨⟨p,l⟩,c,e⟩:=Zh.1 h
     cases e;exact fun x a=>Zn _ (b1t c x a)
    ·split at h
     ·obtain⟨⟨p,l⟩,c,e⟩:=Za.1 h
      obtain⟨⟨q,o⟩,g,i⟩:=Zh.1 e;cases i;exact fun x a=>Zn _ (b1t c x (b1t g x a))
     ·cases h
theorem b7u{ws r:List W8}{t:Pl}(h:rdT ws=some (t,r)):∀x∈r,x∈ws:=b1t h
end Go.Mv
namespace Go.Mv
def rpT(s:List UInt8):Pl:=if s.length<=160/\(splitB 32 s).length<=16 then(match rdT (splitB 32 s)with|some (t,_)=>t|none=> .col [])else .col []
def rdPlan(s:List UInt8):Option Pl:=if s.length<=160/\(splitB 32 s).length<=16 then(rdT (splitB 32 s)).bind fun x=>if x.2.length=0 then some x.1 else none else none
theorem f6d{s:List UInt8}{t:Pl}(h:rdPlan s=some t):rpT s=t:=by
 unfold rdPlan at h;unfold rpT;split at h
 ·rename_i e
  rw[if_pos e];obtain⟨⟨t1,r⟩,c,a⟩:=Za.1 h;split at a
  ·cases a;rw[c]
  ·cases a
 ·cases h
theorem b9t{s:List UInt8}(h:160<s.length\/16<(splitB 32 s).length):rdPlan s=none/\rpT s= .col []:=by
 have a:¬(s.length<=160/\(splitB 32 s).length<=16):=by omega
 exact⟨if_neg a,if_neg a⟩
theorem e5k{s:List UInt8}{ws:List W8}(hw:ws=splitB 32 s)(h:s.length<=160/\ws.length<=16):(rdT ws=none->rdPlan s=none/\rpT s= .col [])/\∀t r,rdT ws=some (t,r)->(rdPlan s).isSome=decide ((r.length:Int)=0)/\rpT s=t:=by
 subst hw;refine⟨fun a=> ?_,fun t r a=> ?_⟩
 ·rw[rdPlan,rpT,if_pos h,if_pos h,a];exact⟨U,U⟩
 ·rw[rdPlan,rpT,if_pos h,if_pos h,a]
  refine⟨?_,U⟩;rw[Zl];by_cases c:r.length=0
  ·rw[if_pos c];simp[c]
  ·rw[if_neg c,decide_eq_false (by omega)];rfl
section
variable{cx:Cx}{keep:List Nat}{ops0:Array Oper}{r:List Oper}{A:Asr}{Q:Asr->List Log->Prop}{d:Nat}{ty:Nat}{pos:String}{aft:Array Edge}
variable{C:Caller}{m f j:Nat}{cs fs:List AV}{G:Type}{vs:G->List AV}{ws:G->Ws}{ls:List Mv.Loc}
theorem O2{id g n:Nat}(hid:id<100000)(t:b5b C A 3 f (j+1) cs.tail fs vs ws ls):b5b C A 3 f j cs (.sl id g none 0 n::fs) (fun x=> .sl id g none 0 n::vs x) ws ls:=by
 refine A5 ?_;unfold K7;simp only[if_true];rw[if_neg (by simp;omega)];refine C3 (A5 (I1 t ?_));rintro _ _ _ ⟨g,rfl,rfl,rfl⟩;exact C3 ⟨g,U,by simp,by simp⟩
theorem b1q{id g s n:Nat}{es:List AV}(i:look A (.h id)=some (.obj g 0 s es))(c:n=es.length)(a:G4 es=true){R:List AV->Ws->List Mv.Loc->Prop}(h:R (frzL es) [(.h id,.obj g 2 s (frzL es))] [.h id]):wpW C A (freeze (.sl id g none 0 n)) R:=by
 subst c;unfold freeze;refine A5 (K1 i (A5 (E9 (by simp[bxB]) ?_)));simp only[show¬((0:Nat)=2)from by decide,if_false];refine A5 (E9 (by simp[a]) (A5 (J6 (C3 ?_))));have e:(frzL es).take es.length=frzL es:=by rw[<-V8 es,Yo]
 simpa[e]using h
variable{b:Bool}{us:List AV}{w1:Ws}
theorem J0(a:b=true)(t:c3r C A b fs us w1 ls):c3r C A b (.nil::fs) (.list []::us) w1 ls:=by
 subst a;refine A5 ?_;unfold retLf;rw[if_pos U];refine C3 (A5 (I1 t ?_));rintro _ _ _ ⟨rfl,rfl,rfl⟩;exact C3 ⟨U,by simp,by simp⟩
theorem L6{α:Type}{φ:α->AV}{xs:List α}{id g s n:Nat}(i:b=true)(o:look A (.h id)=some (.obj g 0 s (xs.map φ)))(l:n=(xs.map φ).length)(e:∀a,L5 (φ a)=true)(t:c3r C (put A (.h id) (.obj g 2 s (xs.map φ))) b fs us w1 ls):
 c3r C A b (.sl id g none 0 n::fs) (.list (xs.map φ)::us) ((.h id,.obj g 2 s (xs.map φ))::w1) (.h id::ls):=by
 subst i;refine A5 ?_;unfold retLf;rw[if_pos U];have p:G4 (xs.map φ)=true:=A6 fun a=>by
  have:=e a;cases c:φ a<;>rw[c]at this<;>simp_all[L5,M1]
 refine A5 (b1q o l p (C3 (A5 ?_)));rw[O1 e];refine I1 t ?_;rintro _ _ _ ⟨rfl,rfl,rfl⟩;exact C3 ⟨U,by simp,by simp⟩
end
section
variable{cx:Cx}{keep:List Nat}{ops0:Array Oper}{r:List Oper}{A:Asr}{Q:Asr->List Log->Prop}{d:Nat}{ty:Nat}{pos:String}{aft:Array Edge}
theorem d4f{T z:Nat}{a b:Operand}(e:a4s cx.P T=true)(g:opd A a=some .ifc)(i:opd A b=some (.val .nilIface))
 (h:XR cx keep ops0 r ((.t d,bV true)::A) fun c n=>Q c ((rds a++rds b,[.t d])::n)):XR cx keep ops0 (⟨some d,.binOp .neq T a b z,ty,pos,aft,none⟩::r) A Q:=
 K8 (fun o l=>by simp only[aopV,l]) (by simp only[opV,E4,E5 g,E5 i,F8,F3,a3s,a1y,Zm,Zj,true_and,and_self,and_true];exact⟨e,by simp[F3]⟩) (by simp[slotOk,refOkV,refsOk]) h
theorem e7r{T z:Nat}{a b:Operand}(e:a4s cx.P T=true)(l:a8z b=true)(g:opd A a=some (.val .nilIface))(i:opd A b=some (.val .nilIface))
 (h:XR cx keep ops0 r ((.t d,bV false)::A) fun c p=>Q c ((rds a++rds b,[.t d])::p)):XR cx keep ops0 (⟨some d,.binOp .neq T a b z,ty,pos,aft,none⟩::r) A Q:=
 K8 (fun o n=>by simp only[aopV,n]) (by simp only[opV,E4,E5 g,E5 i,F8,F3,a3s,a1y,Zm,Zj,true_and,and_self,and_true,e,l,Bool.or_true,Bool.and_self]) (by simp[slotOk,refOkV,refsOk]) h
end
theorem c8x{A:Asr}{C:Caller}{fs us:List AV}{w1:Ws}{ls:List Mv.Loc}{b:Bool}{id g s n:Nat}(a:b=true)(e:look A (.h id)=some (.obj g 0 s []))(c:n=0)(t:c3r C (put A (.h id) (.obj g 2 s [])) b fs us w1 ls):
 c3r C A b (.sl id g none 0 n::fs) (.list []::us) ((.h id,.obj g 2 s [])::w1) (.h id::ls):=
 L6 (φ:=iV) (xs:=[]) a e c (fun _=>U) t
def unT:List AV->Option (List (List UInt8))
 |[]=>some []
 | .val (.string s)::r=>(unT r).map (s.data.toList:: ·)
 |_=>none
theorem e2g(ps:List (List UInt8)):unT (ps.map tV)=some ps:=by
 induction ps with
 |nil=>rfl
 |cons p ps a=>simp[unT,a]
def one?(s:ByteArray):Option UInt8:=match s.data.toList with
 |[b]=>some b
 |_=>none
theorem one?_some{s:ByteArray}{b:UInt8}(h:one? s=some b):s=bA [b]:=by
 unfold one? at h;split at h
 ·rename_i c a
  cases h;have:s=bA s.data.toList:=(a1p s).symm;rw[a]at this;exact this
 ·cases h
def b9e:List AV->Option (AV×List (List AV))
 |[.val (.string s),.val (.string c)]=>(one? c).bind fun b=>if s.size<4294967281 then some (.own 1 ((splitB b s.data.toList).map tV),[])else none
 |_=>none
def c6z:List AV->Option (AV×List (List AV))
 |[.list es,.val (.string c)]=>(one? c).bind fun b=>(unT es).bind fun a=>if a.length<=H0/\(joinB b a).length<=H0 then some (tV (joinB b a),[])else none
 |_=>none
def a6w(b:UInt8)(l:List UInt8):List UInt8:=if l.head? =some b then l.tail else l
def c3q(b:UInt8)(l:List UInt8):List UInt8:=if l.getLast? =some b then l.dropLast else l
def c9l:List AV->Option (AV×List (List AV))
 |[.val (.string s),.val (.string c)]=>(one? c).bind fun b=>some (.tup [tV (a6w b s.data.toList),bV (decide (s.data.toList.head? =some b))],[])
 |_=>none
def c7d:List AV->Option (AV×List (List AV))
 |[.val (.string s),.val (.string c)]=>(one? c).bind fun b=>if s.size<4294967281 then some (.tup [tV (c3q b s.data.toList),bV (decide (s.data.toList.getLast? =some b))],[])else none
 |_=>none
def b7o:List AV->Option (AV×List (List AV))
 |[.val (.int .i64 n)]=>if-9223372036854775808<=n/\n<=9223372036854775807 then some (tV (dec n),[])else none
 |_=>none
def atR(l:List UInt8):AV:=match Lib.atoiAll l with
 | .ok v=> .tup [iV v,.val .nilIface]
 | .range=> .tup [iV (Lib.atoiSat l),.ifc]
 |_=> .tup [iV 0,.ifc]
def c8l:List AV->Option (AV×List (List AV))
 |[.val (.string s)]=>if s.size<4294967281 then some (atR s.data.toList,[])else none
 |_=>none
theorem c1v{c:UInt8}(e:48<=c.toNat/\c.toNat<=57):∀(x:List UInt8) (a u:Nat),YT a x= .ok u->u<=100000000->YT a (x++[c])= .ok (u*10+(c.toNat-48))
 |[],a,u,h,hu=>by
  simp only[YT]at h;injection h with h
  subst h;simp only[Zj,YT];rw[if_pos e,if_neg (by omega),if_neg (by omega)]
 |b::r,a,u,h,hu=>by
  simp only[YT]at h;simp only[Zp,YT];split at h
  ·split at h
   ·cases h
   ·split at h
    ·cases h
    ·rename_i g i l
     rw[if_pos g,if_neg i,if_neg l];exact c1v e r _ u h hu
  ·cases h
theorem e4l(n:Nat):n<=1000000->YT 0 (decN n)= .ok n:=by
 induction n using Nat.strongRecOn with
 |_ n a=>
  intro c;rw[decN];split
  ·simp only[YT]
   rw[u8n (by omega),if_pos (by omega),if_neg (by omega),if_neg (by omega)];congr 1;omega
  ·rw[c1v (by rw[u8n (by omega)];omega) _ _ _ (a (n/10) (by omega) (by omega)) (by omega),u8n (by omega)]
   congr 1;omega
theorem e8x{n:Int}(h: -1000000<=n/\n<=1000000):Lib.atoiAll (dec n)= .ok n:=by
 have key:∀m:Nat,m<=1000000->Lib.parseMag (decN m)= .ok m:=fun m hm=>by rw[Lib.parseMag,if_neg (b1v m),e4l m hm]
 by_cases i:n<0
 ·rw[dec,if_pos i]
  simp only[Lib.atoiAll];rw[if_pos (.inr (by decide)),key _ (by omega)];simp only;rw[if_neg (by omega),if_neg (by omega)];have:(45:UInt8).toNat=45:=rfl;simp only[this,if_true];congr 1;omega
 ·have e:dec n=decN n.toNat:=by rw[dec,if_neg i]
  rw[e];have g:=key n.toNat (by omega);cases c:decN n.toNat with
  |nil=>exact absurd c (b1v _)
  |cons b r=>
   have l:=b2g n.toNat b (by rw[c];simp);rw[c]at g;simp only[Lib.atoiAll];rw[if_neg (by omega),g];have a:¬b.toNat=45:=by omega
   simp only[a,not_false_eq_true,true_and,false_and,if_false];rw[if_neg (by omega)];congr 1;omega
def rdA:List (List UInt8)->Option (List Int)
 |[]=>some []
 |p::r=>match Lib.atoiAll p with
  | .ok v=>(rdA r).map fun ns=>v::ns
  |_=>none
theorem e1j:∀{ns:List Int},(∀n∈ns,-1000000<=n/\n<=1000000)->rdA (ns.map dec)=some ns
 |[],_=>rfl
 |n::ns,h=>by rw[Zz,rdA,e8x (h n (by simp)),e1j fun x a=>h x (Zn _ a)];rfl
theorem f1a{ps:List (List UInt8)}{ns:List Int}{i:Nat}{v:Int}(c:i<ps.length)(h:rdA (ps.take i)=some ns)(e:Lib.atoiAll (ps.getD i default)= .ok v):rdA (ps.take (i+1))=some (ns++[v]):=by
 induction ps generalizing ns i with
 |nil=>simp at c
 |cons p r l=>
  cases i with
  |zero=>
   simp only[List.take_zero,rdA,Zb]at h;subst h;have a:Lib.atoiAll p= .ok v:=e;simp[rdA,a]
  |succ i=>
   simp only[List.take_succ_cons,rdA]at h|-;split at h
   ·rename_i u hu
    obtain⟨ms,g,rfl⟩:=Zh.1 h;rw[l (by simpa using c) g (by simpa using e)];rfl
   ·cases h
theorem d3f{ps:List (List UInt8)}{i:Nat}(c:i<ps.length)(e:∀v,Lib.atoiAll (ps.getD i default)≠.ok v):rdA ps=none:=by
 induction ps generalizing i with
 |nil=>simp at c
 |cons p r g=>
  cases i with
  |zero=>
   have a:∀v,Lib.atoiAll p≠.ok v:=e;rw[rdA];split
   ·rename_i u hu;exact absurd hu (a u)
   ·rfl
  |succ i=>
   rw[rdA];split
   ·rw[g (by simpa using c) (by simpa using e)];rfl
   ·rfl
def a7v(w:List UInt8):List UInt8:=c3q 93 (a6w 91 w)
def okB(w:List UInt8):Bool:=decide (w.head? =some 91)&&decide ((a6w 91 w).getLast? =some 93)
def a5n(w:List UInt8):Option (List Int):=if okB w=true then(if a7v w=[]then some []else rdA (splitB 44 (a7v w)))else none
def okI(w:List UInt8):Bool:=match a5n w with
 |some ns=>vd ns&&decide (S3 ns=w)
 |none=>false
theorem d4m{w:List UInt8}{ns:List Int}(h:numsOf w=some ns):a5n w=some ns:=by
 obtain⟨rfl,p⟩:=a8o h;have g:a6w 91 (S3 ns)=P0 ns++[93]:=by rw[a6w,if_pos (show(S3 ns).head? =some 91 from U)];rfl
 have i:(a6w 91 (S3 ns)).getLast? =some 93:=by rw[g];simp
 have l:a7v (S3 ns)=P0 ns:=by rw[a7v,c3q,if_pos i,g];simp
 have c:okB (S3 ns)=true:=by rw[okB,i];rfl
 rw[a5n,if_pos c,l];by_cases a:ns=[]
 ·subst a;rfl
 ·have o:P0 ns≠[]:=by
   intro e;have:=a4h a;rw[e]at this;cases ns with
   |nil=>exact a U
   |cons n r=>
    simp only[splitB,Zz,List.cons.injEq]at this;exact e8g n this.1.symm
  rw[if_neg o,a4h a];exact e1j fun n a=>by have:=e9h p n a;omega
theorem f5i(w:List UInt8):okI w=(numsOf w).isSome:=by
 cases h:numsOf w with
 |some ns=>
  obtain⟨e,a⟩:=a8o h;rw[okI,d4m h];simp[a,<-e]
 |none=>
  rw[okI];cases c:a5n w with
  |none=>rfl
  |some ns=>
   simp only;cases a:vd ns with
   |false=>rfl
   |true=>
    rw[Bool.true_and];refine decide_eq_false fun e=> ?_
    have:=b5p a;rw[e,h]at this;cases this
theorem e8h(w:List UInt8):(∃ns,numsOf w=some ns)\/(numsOf w=none/\rch (bA w)=0)\/(numsOf w=none/\rch (bA w)=1)\/(numsOf w=none/\rch (bA w)=2)\/(numsOf w=none/\rch (bA w)<0):=by
 cases h:numsOf w with
 |some ns=>exact .inl ⟨ns,U⟩
 |none=>
  have:=f0i (bA w);rcases Int.lt_or_le (rch (bA w)) 0 with c|c
  ·exact .inr (.inr (.inr (.inr ⟨U,c⟩)))
  ·rcases c6v c with c|c|c
   ·exact .inr (.inl ⟨U,c⟩)
   ·exact .inr (.inr (.inl ⟨U,c⟩))
   ·exact .inr (.inr (.inr (.inl ⟨U,c⟩)))
theorem f2j(w:List UInt8):(decide (w≠lW)&&decide (0<=nd (bA w)))=decide (0<=rch (bA w)):=by
 by_cases h:w=lW
 ·subst h
  rw[c2i (show(bA lW).toList=wList.toList from U)]
  rfl
 ·rw[decide_eq_true h,Bool.true_and,d7o _ (by rw[a4y,a1b];exact h)]
theorem S8{w:List UInt8}(h:0<=rch (bA w)):nd (bA w)=rch (bA w):=by
 refine d7o _ fun e=> ?_
 rw[c2i e]at h;omega
end Go.Mv
namespace Go.Mv
theorem c3k{ns:List Int}{i:Nat}(h:i<ns.length):(ns.take (i+1)).map dec=(ns.take i).map dec++[dec (ns.getD i default)]:=by
 rw[Yl h,Yi,XI,Zc,Zg h];rfl
theorem e9k(b:UInt8)(l:List UInt8):(a6w b l).length<=l.length:=by
 unfold a6w;split
 ·cases l<;>simp
 ·exact Zd _
theorem e7s(b:UInt8)(l:List UInt8):(c3q b l).length<=l.length:=by
 unfold c3q;split
 ·simp
 ·exact Zd _
theorem c1y:∀{ps:List (List UInt8)} {ns:List Int},rdA ps=some ns->ns.length=ps.length
 |[],ns,h=>by cases h;rfl
 |p::r,ns,h=>by
  rw[rdA]at h;split at h
  ·obtain⟨ms,a,rfl⟩:=Zh.1 h
   simp[c1y a]
  ·cases h
def rlX(w:List UInt8):List Int:=(a5n w).getD []
theorem f5e{w:List UInt8}{ns:List Int}(h:numsOf w=some ns):rlX w=ns:=by rw[rlX,d4m h];rfl
theorem c9e{w:List UInt8}(h:a5n w=none):okI w=false/\rlX w=[]:=by rw[okI,rlX,h];exact⟨rfl,rfl⟩
theorem b1n{w:List UInt8}{ns:List Int}(h:a5n w=some ns):okI w=(vd ns&&decide (S3 ns=w))/\rlX w=ns:=by rw[okI,rlX,h];exact⟨rfl,rfl⟩
theorem d3a{w:List UInt8}(h:okB w=false):a5n w=none:=by rw[a5n,h];rfl
theorem e2z{w:List UInt8}(h:okB w=true)(a:a7v w=[]):a5n w=some []:=by rw[a5n,if_pos h,if_pos a]
theorem b7k{w:List UInt8}(h:okB w=true)(a:a7v w≠[]):a5n w=rdA (splitB 44 (a7v w)):=by rw[a5n,if_pos h,if_neg a]
theorem e2a{ns:List Int}(h:vd ns=true):∀n∈ns,-1000000<=n/\n<=1000000:=fun n a=>by have:=e9h h n a;omega
theorem e9j{w:List UInt8}(h:okB w=true):(a7v w).length+2<=w.length:=by
 simp only[okB,Zy,decide_eq_true_eq]at h;obtain⟨c,a⟩:=h;have g:(a6w 91 w).length+1=w.length:=by
  rw[a6w,if_pos c];cases w with
  |nil=>cases c
  |cons b r=>rfl
 have i:(a7v w).length+1=(a6w 91 w).length:=by
  rw[a7v,c3q,if_pos a];cases e:a6w 91 w with
  |nil=>rw[e]at a;cases a
  |cons b r=>simp
 omega
end Go.Mv
namespace Go.Mv
def ipT(s:List UInt8):Pl:=match rdT (splitB 32 s)with
 |some (t,_)=>t
 |none=> .col []
def d5m(s:List UInt8):Bool:=match rdT (splitB 32 s)with
 |some (_,r)=>decide ((r.length:Int)=0)&&decide (((splitB 32 s).length:Int)<=16)
 |none=>false
theorem f1f{s:List UInt8}{ws:List W8}(hw:ws=splitB 32 s)(h:rdT ws=none):ipT s= .col []/\d5m s=false:=by
 subst hw;rw[ipT,d5m,h];exact⟨U,U⟩
theorem c8h{s:List UInt8}{ws:List W8}{t:Pl}{r:List W8}(hw:ws=splitB 32 s)(h:rdT ws=some (t,r)):ipT s=t/\d5m s=(decide ((r.length:Int)=0)&&decide ((ws.length:Int)<=16)):=by
 subst hw;rw[ipT,d5m,h];exact⟨U,U⟩
theorem f6k(s:List UInt8):(d5m s&&decide ((s.length:Int)<=160))=(rdPlan s).isSome:=by
 rw[d5m,rdPlan];by_cases h:s.length<=160/\(splitB 32 s).length<=16
 ·rw[if_pos h,decide_eq_true (show(s.length:Int)<=160 by omega),Bool.and_true]
  cases e:rdT (splitB 32 s)with
  |none=>rfl
  |some x=>
   obtain⟨t,r⟩:=x;simp only[Zl];rw[decide_eq_true (show((splitB 32 s).length:Int)<=16 by omega),Bool.and_true];by_cases c:r.length=0
   ·rw[if_pos c];simp[c]
   ·rw[if_neg c,decide_eq_false (by omega)];rfl
 ·rw[if_neg h]
  rcases Nat.lt_or_ge 160 s.length with c|c
  ·rw[decide_eq_false (show¬(s.length:Int)<=160 by omega),Bool.and_false];rfl
  ·have a:¬((splitB 32 s).length:Int)<=16:=by omega
   split
   ·rw[decide_eq_false a,Bool.and_false];rfl
   ·rfl
theorem e9w{s:List UInt8}{t:Pl}(h:rdPlan s=some t):ipT s=t:=by
 unfold rdPlan at h;split at h
 ·obtain⟨⟨t1,r⟩,c,a⟩:=Za.1 h
  split at a
  ·cases a;rw[ipT,c]
  ·cases a
 ·cases h
def pr(w:ByteArray):Int:=
 if w.toList=e1v.toList then 5 else if w.toList=d0h.toList then 5
 else if w.toList=wList.toList then 1 else if w.toList=wA.toList then 1 else if w.toList=wB.toList then 1 else if w.toList=wC.toList then 1 else if w.toList=wD.toList then 1 else 2
theorem f0r{p:Prop}[Decidable p]{a b:Int}(c:1<=a/\a<=5)(e:1<=b/\b<=5):1<=(if p then a else b)/\(if p then a else b)<=5:=by split<;>assumption
theorem c2p(w:ByteArray):1<=pr w/\pr w<=5:=by
 unfold pr
 repeat (refine f0r (by decide) ?_)
 decide
def Pl.sz:Pl->Nat
 | .lst _=>1
 | .col _=>1
 | .un _ p=>p.sz+1
 | .bin _ p q=>p.sz+q.sz+1
def Z1:Pl->Int
 | .lst _=>pr (bA lW)
 | .col w=>pr (bA w)
 | .un w p=>pr (bA w)+Z1 p
 | .bin w p q=>pr (bA w)+Z1 p+Z1 q
def S4(t:Pl):Nat->Int
 |0=>pr (bA t.op)
 |i+1=>S4 t i+Z1 (t.kids.getD i default)
theorem X7(t:Pl):S4 t t.kids.length=Z1 t:=by cases t<;>rfl
theorem S5:∀t:Pl,1<=Z1 t/\Z1 t<=5*t.sz
 | .lst _=>c2p _
 | .col w=>c2p _
 | .un w p=>by have:=S5 p;have:=c2p (bA w);simp only[Z1,Pl.sz];omega
 | .bin w p q=>by have:=S5 p;have:=S5 q;have:=c2p (bA w);simp only[Z1,Pl.sz];omega
theorem a0r{t:Pl}{i:Nat}(c:i<=t.kids.length):1<=S4 t i/\S4 t i<=Z1 t:=by
 have a:=c2p (bA t.op);cases t with
 |lst ns=>simp only[Pl.kids,Zo]at c;obtain rfl:i=0:=by omega
          exact⟨a.1,Xi _⟩
 |col w=>simp only[Pl.kids,Zo]at c;obtain rfl:i=0:=by omega
         exact⟨a.1,Xi _⟩
 |un w p=>
  have:=S5 p;rcases i with _|_|i
  ·simp only[S4,Z1,Pl.op]at a|-;omega
  ·simp only[S4,Z1,Pl.op,Pl.kids,YV]at a|-;omega
  ·simp[Pl.kids]at c
 |bin w p q=>
  have:=S5 p;have:=S5 q;rcases i with _|_|_|i
  ·simp only[S4,Z1,Pl.op]at a|-;omega
  ·simp only[S4,Z1,Pl.op,Pl.kids,YV]at a|-;omega
  ·simp only[S4,Z1,Pl.op,Pl.kids,YV,YU]at a|-;omega
  ·simp[Pl.kids]at c
theorem Z8{t:Pl}{i:Nat}(a:i<t.kids.length):(t.kids.getD i default).sz<t.sz:=by
 cases t with
 |lst ns=>simp[Pl.kids]at a
 |col w=>simp[Pl.kids]at a
 |un w p=>
  obtain rfl:i=0:=by simp[Pl.kids]at a;omega
  exact ZJ _
 |bin w p q=>
  rcases i with _|_|i
  ·simp only[Pl.kids,YV,Pl.sz];omega
  ·simp only[Pl.kids,YV,YU,Pl.sz];omega
  ·simp[Pl.kids]at a;omega
theorem a5i(t:Pl):t.kids.length<=2:=by cases t<;>simp[Pl.kids]
theorem c9u:∀{n:Nat} {ws r:List W8} {t:Pl},rdP n ws=some (t,r)->t.sz+r.length<=ws.length
 |0,_,_,_,h=>by cases h
 |_+1,[],_,_,h=>by cases h
 |n+1,w::ws,r,t,h=>by
  rw[rdP]at h;split at h
  ·cases h;simp only[Pl.sz,Ze];omega
  ·split at h
   ·cases h;simp only[Pl.sz,Ze];omega
   ·split at h
    ·obtain⟨⟨p,l⟩,c,e⟩:=Zh.1 h
     cases e;have:=c9u c;simp only[Pl.sz,Ze];omega
    ·split at h
     ·obtain⟨⟨p,l⟩,c,e⟩:=Za.1 h
      obtain⟨⟨q,o⟩,g,i⟩:=Zh.1 e;cases i;have a:=c9u c;have b:=c9u g;simp only[Pl.sz,Ze]at b|-;omega
     ·cases h
theorem c5d{s:List UInt8}{t:Pl}(h:rdPlan s=some t):t.sz<=16:=by
 unfold rdPlan at h;split at h
 ·rename_i e
  obtain⟨⟨t1,r⟩,c,a⟩:=Za.1 h;have:=c9u c;split at a
  ·cases a;simp only;omega
  ·cases a
 ·cases h
theorem a6h{s:List UInt8}(h:(rdPlan s).isSome=true):∃t,rdPlan s=some t/\rpT s=t/\t.sz<=16:=by
 obtain⟨t,a⟩:=Option.isSome_iff_exists.1 h;exact⟨t,a,f6d a,c5d a⟩
def b0e(s:List UInt8):Int:=match rdPlan s with
 |some t=>Z1 t
 |none=> -1
theorem a6c{s:List UInt8}{t:Pl}(h:rdPlan s=some t):b0e s=Z1 t:=by rw[b0e,h]
theorem b8u{s:List UInt8}(h:(rdPlan s).isSome=false):b0e s= -1:=by
 rw[b0e];cases e:rdPlan s with
 |none=>rfl
 |some t=>rw[e]at h;cases h
def Pl.good:Pl->Prop
 | .lst ns=>vd ns=true
 | .col w=>w≠lW/\w.length<=1048576
 | .un w p=>w≠lW/\w.length<=1048576/\p.good
 | .bin w p q=>w≠lW/\w.length<=1048576/\p.good/\q.good
theorem a0e{t:Pl}(h:t.good)(e:t.op=lW):∃ns,t= .lst ns/\vd ns=true:=by
 cases t with
 |lst ns=>exact⟨ns,U,h⟩
 |col w=>exact absurd e h.1
 |un w p=>exact absurd e h.1
 |bin w p q=>exact absurd e h.1
theorem a8n{t:Pl}(h:t.good){i:Nat}(a:i<t.kids.length):(t.kids.getD i default).good:=by
 cases t with
 |lst ns=>simp[Pl.kids]at a
 |col w=>simp[Pl.kids]at a
 |un w p=>
  obtain rfl:i=0:=by simp[Pl.kids]at a;omega
  exact h.2.2
 |bin w p q=>
  rcases i with _|_|i
  ·exact h.2.2.1
  ·exact h.2.2.2
  ·simp[Pl.kids]at a;omega
theorem c1n{w:W8}{ws:List W8}(a:∀x∈w::ws,x.length<=1048576)(h:0<=rch (bA w)):w≠lW/\w.length<=1048576:=
 ⟨fun e=>absurd h (by subst e;decide+kernel),a w (Zr ..)⟩
theorem e3p{w:W8}{ns:List Int}(h:numsOf w=some ns):vd ns=true:=by
 unfold numsOf at h;split at h
 ·split at h
  ·cases h;rfl
  ·obtain⟨ms,c,a⟩:=Za.1 h
   split at a
   ·cases a;assumption
   ·cases a
 ·cases h
theorem b2b:∀{n:Nat} {ws r:List W8} {t:Pl},(∀x∈ws,x.length<=1048576)->rdP n ws=some (t,r)->t.good
 |0,_,_,_,_,h=>by cases h
 |_+1,[],_,_,_,h=>by cases h
 |n+1,w::ws,r,t,g,h=>by
  have a:∀x∈ws,x.length<=1048576:=fun x l=>g x (Zn _ l)
  rw[rdP]at h;split at h
  ·cases h;exact e3p (by assumption)
  ·split at h
   ·cases h;exact c1n g (by omega)
   ·split at h
    ·obtain⟨⟨p,u⟩,e,i⟩:=Zh.1 h
     cases i;have c:=c1n g (by omega);exact⟨c.1,c.2,b2b a e⟩
    ·split at h
     ·obtain⟨⟨p,u⟩,e,i⟩:=Za.1 h
      obtain⟨⟨q,v⟩,o,s⟩:=Zh.1 i;cases s;have c:=c1n g (by omega);exact⟨c.1,c.2,b2b a e,b2b (fun x l=>a x (b1t e x l)) o⟩
     ·cases h
theorem d1q{s:List UInt8}(g:s.length<=1048576){t:Pl}(h:rdPlan s=some t):t.good:=by
 unfold rdPlan at h;split at h
 ·obtain⟨⟨t1,r⟩,c,a⟩:=Za.1 h
  split at a
  ·cases a;exact b2b (fun x e=>by have:=a0h 32 s x e;omega) c
  ·cases a
 ·cases h
def mT(k:Int):W8:=109::(if k<=0 then[48]else decN k.toNat)
def mkT(k:Int)(n:Nat):List W8:=(Yb n).map fun(j:Nat)=>mT (k+j)
@[simp] theorem mkT_length(k:Int)(n:Nat):(mkT k n).length=n:=by simp[mkT]
abbrev c4u:W8:=[114,101,118]
abbrev d5t:W8:=[110,101,103]
abbrev d5c:W8:=[97,98,115]
abbrev c6x:W8:=[100,105,102,102]
abbrev c5f:W8:=[115,117,109,115]
abbrev lSort:W8:=[115,111,114,116]
abbrev e4g:W8:=[116,111,116,97,108]
def goneL:List (W8×Bool×Bool):=
 [(c4u++32::c4u,true,true),(d5t++32::d5t,true,true),(c6x++32::c5f,true,true),(c5f++32::c6x,true,true),(lSort++32::lSort,true,false),(d5c++32::d5c,true,false),
  (lSort++32::c4u,false,true),(d5c++32::d5t,false,true),(e4g++32::lSort,false,true),(e4g++32::c4u,false,true)]
def keyG(k:W8):Option (Bool×Bool):=(goneL.find? fun e=>decide (e.1=k)).map (·.2)
def d9n(a b:W8)(r:List W8):List (List W8):=match keyG (a++32::b)with
 |some (x,y)=>[(if x then[]else[a])++((if y then[]else[b])++r)]
 |none=>[]
def N6:List W8->List (List W8)
 |a::b::r=>d9n a b r++(N6 (b::r)).map (a:: ·)
 |_=>[]
def wordsP:Pl->List W8
 | .lst ns=>[S3 ns]
 | .col w=>[w]
 | .un w p=>w::wordsP p
 | .bin w p q=>w::(wordsP p++wordsP q)
def a2p(x y:Bool)(w v:W8)(p:Pl):Pl:=match x,y with
 |true,true=>p
 |true,false=> .un v p
 |false,true=> .un w p
 |false,false=> .un w (.un v p)
def Y2:Pl->Option Pl
 | .un w (.un v p)=>(keyG (w++32::v)).map fun e=>a2p e.1 e.2 w v p
 |_=>none
def oneP:Pl->List Pl
 | .un w p=>(Y2 (.un w p)).toList++(oneP p).map (.un w)
 | .bin w p q=>(oneP p).map (fun u=> .bin w u q)++(oneP q).map (.bin w p)
 |_=>[]
def Pl.wf:Pl->Prop
 | .lst _=>True
 | .col w=>rch (bA w)=0
 | .un w p=>rch (bA w)=1/\p.wf
 | .bin w p q=>rch (bA w)=2/\p.wf/\q.wf
theorem d1p(x y:Bool)(w v:W8)(p:Pl):wordsP (a2p x y w v p)=(if x then[]else[w])++((if y then[]else[v])++wordsP p):=by
 cases x<;>cases y<;>rfl
def opsL:List (W8×Int):=[(lSort,1),(c4u,1),(d5t,1),(d5c,1),(c6x,1),(c5f,1),([114,97,110,107,115],1),(e4g,1),([97,100,100],2),([106,111,105,110],2),([97],0),([98],0),([99],0),([100],0)]
theorem a6m{w:W8}(h:0<=rch (bA w)):(w,rch (bA w))∈opsL:=by
 by_cases e:w∈opsL.map (·.1)
 ·have key:∀x∈opsL.map (·.1),(x,rch (bA x))∈opsL:=by decide+kernel
  exact key w e
 ·exfalso
  simp[opsL]at e;unfold rch at h;simp only[a1b]at h;simp_all[bA]
theorem e0o:∀a∈opsL,∀b∈opsL,keyG (a.1++32::b.1)≠none->a.2=1/\b.2=1:=by decide+kernel
theorem f5f{a:W8×Int}(c:a∈opsL)(x:W8):keyG (a.1++32::91::x)=none:=by
 simp only[opsL,ZM,List.not_mem_nil,or_false]at c;rcases c with rfl|rfl|rfl|rfl|rfl|rfl|rfl|rfl|rfl|rfl|rfl|rfl|rfl|rfl<;>simp[keyG,goneL]
theorem f2t(x b:W8):keyG ((91::x)++32::b)=none:=by simp[keyG,goneL]
theorem e2v{w:W8}(h:rch (bA w)=0\/rch (bA w)=2)(b:W8):keyG (w++32::b)=none:=by
 have a:=a6m (w:=w) (by omega);generalize rch (bA w)=k at h a;simp only[opsL,ZM,List.not_mem_nil,or_false,Zk]at a;rcases a with⟨rfl,rfl⟩|⟨rfl,rfl⟩|⟨rfl,rfl⟩|⟨rfl,rfl⟩|⟨rfl,rfl⟩|⟨rfl,rfl⟩|⟨rfl,rfl⟩|⟨rfl,rfl⟩|⟨rfl,rfl⟩|⟨rfl,rfl⟩|⟨rfl,rfl⟩|⟨rfl,rfl⟩|⟨rfl,rfl⟩|⟨rfl,rfl⟩<;>first|(exfalso;omega)|simp[keyG,goneL]
theorem c1q{a b:W8}{r:List W8}(h:keyG (a++32::b)=none):d9n a b r=[]:=by rw[d9n,h]
theorem b0w{a:W8}(h:∀b,keyG (a++32::b)=none)(r:List W8):N6 (a::r)=(N6 r).map (a:: ·):=by
 cases r with
 |nil=>rfl
 |cons b r=>rw[N6,c1q (h b),Zj]
theorem a8e(t:Pl):wordsP t≠[]:=by cases t<;>simp[wordsP]
theorem a9h:∀(t:Pl) (rest:List W8),t.wf->N6 (wordsP t++rest)=(oneP t).map (fun u=>wordsP u++rest)++(N6 rest).map (wordsP t++ ·)
 | .lst ns,rest,_=>by
  show N6 (S3 ns::rest)=_;rw[b0w (a:=S3 ns) fun b=>f2t _ b];rfl
 | .col w,rest,h=>by
  show N6 (w::rest)=_;rw[b0w fun b=>e2v (.inl h) b];rfl
 | .bin w p q,rest,h=>by
  show N6 (w::((wordsP p++wordsP q)++rest))=_;rw[b0w fun b=>e2v (.inr h.1) b,Yq,a9h p _ h.2.1,a9h q _ h.2.2];simp[oneP,wordsP,Yi,List.map_map,Xt,Yq]
 | .un w p,rest,h=>by
  have n:=a9h p rest h.2;have hw:=a6m (w:=w) (by have:=h.1;omega);have none_case:∀(b:W8) (r:List W8),keyG (w++32::b)=none->Y2 (.un w p)=none->wordsP p++rest=b::r->N6 (w::(wordsP p++rest))=(oneP (.un w p)).map (fun u=>wordsP u++rest)++(N6 rest).map (wordsP (.un w p)++ ·):=by
   intro b r c o e;rw[e,N6,c1q c,<-e,n];simp[oneP,o,wordsP,List.map_map,Xt]
  show N6 (w::(wordsP p++rest))=_;cases p with
  |lst ns=>exact none_case (S3 ns) rest (f5f hw _) U U
  |col v=>
   have i:=a6m (w:=v) (by have:=h.2;simp only[Pl.wf]at this;omega);refine none_case v rest (YB fun g=> ?_) U U;have:=(e0o _ hw _ i g).2;have:=h.2;simp only[Pl.wf]at this;simp_all
  |bin v p q=>
   have i:=a6m (w:=v) (by have:=h.2.1;omega);refine none_case v _ (YB fun g=> ?_) U U;have:=(e0o _ hw _ i g).2;have:=h.2.1;simp_all
  |un v p=>
   show N6 (w::v::(wordsP p++rest))=_;rw[N6];have l:N6 (v::(wordsP p++rest))=(oneP (.un v p)).map (fun u=>wordsP u++rest)++(N6 rest).map (wordsP (.un v p)++ ·):=n;rw[l];cases c:keyG (w++32::v)with
   |none=>rw[c1q c];simp[oneP,Y2,c,wordsP,List.map_map,Xt]
   |some e=>simp[oneP,Y2,d9n,c,wordsP,d1p,List.map_map,Xt]
theorem d3u{t:Pl}(h:t.wf):N6 (wordsP t)=(oneP t).map wordsP:=by
 have:=a9h t [] h;simpa[N6]using this
theorem a9b:∀{n:Nat} {ws r:List W8} {t:Pl},rdP n ws=some (t,r)->ws=wordsP t++r/\t.wf
 |0,_,_,_,h=>by cases h
 |_+1,[],_,_,h=>by cases h
 |n+1,w::ws,r,t,h=>by
  rw[rdP]at h;split at h
  ·cases h
   rename_i ns u;exact⟨by rw[(a8o u).1];rfl,trivial⟩
  ·split at h
   ·cases h;exact⟨U,by assumption⟩
   ·split at h
    ·obtain⟨⟨p,v⟩,e,g⟩:=Zh.1 h
     cases g;obtain⟨a,c⟩:=a9b e;exact⟨by rw[a];rfl,by assumption,c⟩
    ·split at h
     ·obtain⟨⟨p,v⟩,e,g⟩:=Za.1 h
      obtain⟨⟨q,x⟩,o,s⟩:=Zh.1 g;cases s;obtain⟨a,c⟩:=a9b e;obtain⟨i,l⟩:=a9b o;simp only at i;exact⟨by rw[a,i];simp[wordsP],by assumption,c,l⟩
     ·cases h
def showP(t:Pl):W8:=joinB 32 (wordsP t)
def f6q(t:Pl):Prop:=∀w∈wordsP t,(32:UInt8)∉w
theorem a3l{t:Pl}(h:f6q t):splitB 32 (showP t)=wordsP t:=a9a (a8e t) h
theorem e2y{k:W8}:keyG k≠some (false,false):=by
 unfold keyG;intro h;obtain⟨e,c,g⟩:=Zh.1 h;have hm:=List.mem_of_find?_eq_some c;have a:∀e∈goneL,e.2≠(false,false):=by decide+kernel
 exact a e hm g
theorem U8:∀(t:Pl),t.wf->∀u∈oneP t,u.wf/\u.sz<t.sz/\∀w∈wordsP u,w∈wordsP t
 | .lst _,_,u,h=>by cases h
 | .col _,_,u,h=>by cases h
 | .bin w p q,hw,u,h=>by
  simp only[oneP,ZF,ZI]at h;rcases h with⟨v,g,rfl⟩|⟨v,g,rfl⟩
  ·obtain⟨a,b,c⟩:=U8 p hw.2.1 v g
   refine⟨⟨hw.1,a,hw.2.2⟩,by simp only[Pl.sz];omega,fun x e=> ?_⟩;simp only[wordsP,ZM,ZF]at e|-;rcases e with h|h|h
   ·exact .inl h
   ·exact .inr (.inl (c x h))
   ·exact .inr (.inr h)
  ·obtain⟨a,b,c⟩:=U8 q hw.2.2 v g
   refine⟨⟨hw.1,hw.2.1,a⟩,by simp only[Pl.sz];omega,fun x e=> ?_⟩;simp only[wordsP,ZM,ZF]at e|-;rcases e with h|h|h
   ·exact .inl h
   ·exact .inr (.inl h)
   ·exact .inr (.inr (c x h))
 | .un w p,hw,u,h=>by
  simp only[oneP,ZF,ZI,Xu]at h;rcases h with h|⟨v,g,rfl⟩
  ·cases p with
   |lst ns=>cases h
   |col v=>cases h
   |bin v p q=>cases h
   |un v p=>
    obtain⟨⟨x,y⟩,l,n⟩:=Zh.1 h;have i:=e2y (k:=w++32::v);subst n;cases x<;>cases y
    ·exact absurd l i
    ·exact⟨⟨hw.1,hw.2.2⟩,by simp[a2p,Pl.sz],fun x e=>by simp[a2p,wordsP]at e|-;rcases e with h|h<;>simp[h]⟩
    ·exact⟨⟨hw.2.1,hw.2.2⟩,by simp[a2p,Pl.sz],fun x e=>by simp[a2p,wordsP]at e|-;rcases e with h|h<;>simp[h]⟩
    ·exact⟨hw.2.2,by simp[a2p,Pl.sz];omega,fun x e=>by simp[a2p,wordsP]at e|-;simp[e]⟩
  ·obtain⟨a,b,c⟩:=U8 p hw.2 v g
   refine⟨⟨hw.1,a⟩,by simp only[Pl.sz];omega,fun x e=> ?_⟩;simp only[wordsP,ZM]at e|-;rcases e with h|h
   ·exact .inl h
   ·exact .inr (c x h)
def b9d:Nat->Pl->Pl
 |0,t=>t
 |n+1,t=>match oneP t with
  |[]=>t
  |u::_=>b9d n u
def normP(t:Pl):Pl:=b9d t.sz t
theorem c6r:∀{n m:Nat} {t:Pl},t.wf->t.sz<=n->t.sz<=m->b9d n t=b9d m t
 |0,0,_,_,_,_=>rfl
 |0,_+1,t,_,h,_=>by cases t<;>simp[Pl.sz]at h
 |_+1,0,t,_,_,h=>by cases t<;>simp[Pl.sz]at h
 |n+1,m+1,t,hw,c,g=>by
  simp only[b9d];cases e:oneP t with
  |nil=>rfl
  |cons u r=>
   obtain⟨a,b,_⟩:=U8 t hw u (by rw[e];simp);exact c6r a (by omega) (by omega)
theorem a1v{t:Pl}(h:oneP t=[]):normP t=t:=by
 unfold normP;cases e:t.sz with
 |zero=>rfl
 |succ n=>simp only[b9d,h]
theorem X8{t u:Pl}{r:List Pl}(hw:t.wf)(h:oneP t=u::r):normP t=normP u:=by
 obtain⟨a,b,_⟩:=U8 t hw u (by rw[h];simp);unfold normP;obtain⟨n,c⟩:∃n,t.sz=n+1:=⟨t.sz-1,by omega⟩;rw[c];simp only[b9d,h];exact c6r a (by omega) (Zd _)
theorem b1h{c:UInt8}:∀{a b:List W8},a≠[]->b≠[]->joinB c (a++b)=joinB c a++c::joinB c b
 |[],_,h,_=>absurd U h
 |[p],b,_,h=>Q2 h
 |p::q::r,b,_,h=>by
  have e:=b1h (c:=c) (a:=q::r) (b:=b) (by simp) h;rw[Zp,Q2 (p:=p) (r:=q::r++b) (by simp),e,Q2 (p:=p) (r:=q::r) (by simp)];simp
theorem e8v(ns:List Int):showP (.lst ns)=S3 ns:=rfl
theorem b1l(w:W8)(p:Pl):showP (.un w p)=(w++[32])++showP p:=by
 rw[showP,wordsP,Q2 (a8e p)];simp[showP]
theorem a7z(w:W8)(p q:Pl):showP (.bin w p q)=((((w++[32])++showP p)++[32])++showP q):=by
 rw[showP,wordsP,Q2 (by simp[a8e]),b1h (a8e p) (a8e q)];simp[showP]
def a4a(t:Pl):Nat->W8
 |0=>t.op
 |i+1=>(a4a t i++[32])++showP (t.kids.getD i default)
theorem b4w{t:Pl}(h:t.op≠lW):a4a t t.kids.length=showP t:=by
 cases t with
 |lst ns=>exact absurd U h
 |col w=>rfl
 |un w p=>exact(b1l w p).symm
 |bin w p q=>exact(a7z w p q).symm
theorem e4f{t:Pl}(h:t.op≠lW){i:Nat}(c:i<=t.kids.length):(a4a t i).length<=(showP t).length:=by
 have key:∀k j:Nat,(a4a t j).length<=(a4a t (j+k)).length:=by
  intro k
  induction k with
  |zero=>intro j;exact Zd _
  |succ k a=>intro j;have:=a j;rw[<-YK,a4a];simp only[Zf];omega
 have:=key (t.kids.length-i) i;rwa[show i+(t.kids.length-i)=t.kids.length by omega,b4w h]at this
theorem c7y{t:Pl}{i:Nat}(a:i<t.kids.length):(showP (t.kids.getD i default)).length<(showP t).length:=by
 cases t with
 |lst ns=>simp[Pl.kids]at a
 |col w=>simp[Pl.kids]at a
 |un w p=>
  obtain rfl:i=0:=by simp[Pl.kids]at a;omega
  rw[b1l];simp[Pl.kids];omega
 |bin w p q=>
  rw[a7z];rcases i with _|_|i
  ·simp[Pl.kids];omega
  ·simp[Pl.kids];omega
  ·simp[Pl.kids]at a;omega
theorem b8x{t:Pl}(h:t.op≠lW){i:Nat}(a:i<t.kids.length):(a4a t i).length+1+(showP (t.kids.getD i default)).length<=(showP t).length:=by
 have:=e4f h (i:=i+1) (by omega);rw[a4a]at this;simp only[Zf,Ze,Zo]at this;omega
theorem e1f{t:Pl}(h:t.good):t.op.length<=1048576:=by
 cases t with
 |lst ns=>show 4<=1048576;decide
 |col w=>exact h.2
 |un w p=>exact h.2.1
 |bin w p q=>exact h.2.1
theorem b7y{t:Pl}(h:t.kids.length=1):t= .un t.op (t.kids.getD 0 default):=by
 cases t with
 |un w p=>rfl
 |lst ns=>simp[Pl.kids]at h
 |col w=>simp[Pl.kids]at h
 |bin w p q=>simp[Pl.kids]at h
theorem c6e{t:Pl}(h:t.kids.length≠1\/(t.kids.getD 0 default).kids.length≠1):Y2 t=none:=by
 cases t with
 |lst ns=>rfl
 |col w=>rfl
 |bin w p q=>rfl
 |un w p=>
  cases p with
  |lst ns=>rfl
  |col w=>rfl
  |bin w p q=>rfl
  |un v p=>simp[Pl.kids]at h
theorem d4v{t:Pl}(h:t.kids.length=1)(a:(t.kids.getD 0 default).kids.length=1):
 Y2 t=(keyG ((t.op++[32])++(t.kids.getD 0 default).op)).map fun e=>a2p e.1 e.2 t.op (t.kids.getD 0 default).op ((t.kids.getD 0 default).kids.getD 0 default):=by
 obtain⟨w,p,rfl⟩:∃w p,t= .un w p:=⟨_,_,b7y h⟩;obtain⟨v,p,rfl⟩:∃v q,p= .un v q:=⟨_,_,b7y a⟩;simp[Y2,Pl.kids,Pl.op]
theorem f5q{k:W8}{e:Bool×Bool}(h:(k,e)∈goneL):keyG k=some e:=by
 have a:∀x∈goneL,keyG x.1=some x.2:=by decide+kernel
 exact a _ h
theorem f2q{k:W8}(h:∀x∈goneL,k≠x.1):keyG k=none:=by
 unfold keyG;rw[List.find?_eq_none.2 fun x a=>by have:=h x a;simp[Ne.symm this]];rfl
theorem b4t{t:Pl}(h:t.kids.length=1)(a:(t.kids.getD 0 default).kids.length=1){k:W8}{e:Bool×Bool}(c:(t.op++[32])++(t.kids.getD 0 default).op=k)(hm:(k,e)∈goneL):
 Y2 t=some (a2p e.1 e.2 t.op (t.kids.getD 0 default).op ((t.kids.getD 0 default).kids.getD 0 default)):=by
 rw[d4v h a,c,f5q hm];rfl
theorem c8p{t:Pl}(h:t.kids.length=1)(a:(t.kids.getD 0 default).kids.length=1){k:W8}(c:(t.op++[32])++(t.kids.getD 0 default).op=k)(hm:(k,true,true)∈goneL):Y2 t=some ((t.kids.getD 0 default).kids.getD 0 default):=b4t h a c hm
theorem e6z{t:Pl}(h:t.kids.length=1)(a:(t.kids.getD 0 default).kids.length=1){k:W8}(c:(t.op++[32])++(t.kids.getD 0 default).op=k)(hm:(k,true,false)∈goneL):Y2 t=some (t.kids.getD 0 default):=
 (b4t h a c hm).trans (congrArg some (b7y a).symm)
theorem c9s{t:Pl}(h:t.kids.length=1)(a:(t.kids.getD 0 default).kids.length=1){k:W8}(c:(t.op++[32])++(t.kids.getD 0 default).op=k)(hm:(k,false,true)∈goneL):Y2 t=some (.un t.op ((t.kids.getD 0 default).kids.getD 0 default)):=b4t h a c hm
theorem b7x{w:W8}{t:Pl}(h:t.kids.length=1):a7s t=a7s (.un w (t.kids.getD 0 default)):=by
 rw[b7y h];rfl
section
variable{cx:Cx}{keep:List Nat}{ops0:Array Oper}{r:List Oper}{A:Asr}{Q:Asr->List Log->Prop}{d:Nat}{ty:Nat}{pos:String}{aft:Array Edge}
variable{C:Caller}{m f j:Nat}{cs fs:List AV}{G:Type}{vs:G->List AV}{ws:G->Ws}{ls:List Mv.Loc}
theorem a9l{α:Type}{φ:α->AV}{xs:List α}(e:∀a,L5 (φ a)=true):G4 (xs.map φ)=true:=A6 fun a=>by
 have:=e a;cases c:φ a<;>rw[c]at this<;>simp_all[L5,M1]
theorem e9d{α:Type}{φ:α->AV}{xs:List α}{id g s n:Nat}(i:look A (.h id)=some (.obj g 0 s (xs.map φ)))(e:n=(xs.map φ).length)(c:∀a,L5 (φ a)=true)
 (t:b5b C (put A (.h id) (.obj g 2 s (xs.map φ))) 2 f (j+1) cs.tail fs vs ws ls):
 b5b C A 2 f j cs (.sl id g none 0 n::fs) (fun y=> .list (xs.map φ)::vs y) (fun y=>(.h id,.obj g 2 s (xs.map φ))::ws y) (.h id::ls):=by
 refine A5 ?_;unfold K7;simp only[show¬((2:Nat)=3)from by decide,if_false];rw[if_neg (by simp)];refine A5 (b1q i e (a9l c) (C3 (A5 ?_)));rw[O1 c];refine I1 t ?_;rintro _ _ _ ⟨g,rfl,rfl,rfl⟩;exact C3 ⟨g,U,by simp,by simp⟩
theorem c8t{v:AV}(h:T8 .undef v=true)(t:b5b C A 2 f (j+1) cs.tail fs vs ws ls):b5b C A 2 f j cs (v::fs) (fun y=>v::vs y) ws ls:=by
 refine A5 ?_;have e:wpW C A (K7 2 (cs.headD .undef) (fid f j) v) fun a w l=>a=v/\w=[]/\l=[]:=by
  unfold K7;cases v with
  |val v=>exact A5 (E9 h (C3 ⟨U,U,U⟩))
  |clo k caps=>
   refine A5 (E9 h (C3 ?_));exact⟨U,U,U⟩
  |list es=>exact C3 ⟨U,U,U⟩
  |_=>simp[T8,L4]at h
 refine I1 e ?_;rintro _ _ _ ⟨rfl,rfl,rfl⟩;refine A5 (I1 t ?_);rintro _ _ _ ⟨g,rfl,rfl,rfl⟩;exact C3 ⟨g,U,by simp,by simp⟩
theorem b5f{T E s mk:Nat}{x:Operand}{z:AV}(K:opd A x=some (.agg fs))(u:Q8 cx.P T=some (E,s))(L:a0v cx.P E=some (z,s))(J:s<=16777216/\0<s)(c:fs.length=s)(g:(if cx.fzB T d=true then 2 else 0)=mk)
 (I:b5b (CW cx) A mk 0 0 (ZP s .nil) fs vs ws ls)
 (B:∀y g',tRefsOk keep (keptWs keep (ws y++[(.h (tid d 0),.obj g' 0 s [.agg (vs y)]),(.t d,.sl (tid d 0) g' none 0 1)]))=true)
 (h:∀y g',XR cx keep ops0 r (K5 A (ws y++[(.h (tid d 0),.obj g' 0 s [.agg (vs y)]),(.t d,.sl (tid d 0) g' none 0 1)])) fun i M=>Q i ((rds x++(ls++[.h (tid d 0)]),V5 (ws y++[(.h (tid d 0),.obj g' 0 s [.agg (vs y)]),(.t d,.sl (tid d 0) g' none 0 1)]))::M)):
 XR cx keep ops0 (⟨some d,.buildSlice T 1 #[(0,x)],ty,pos,aft,none⟩::r) A Q:=by
 obtain⟨l,a,n,q⟩:=W6 L;have e:∀(p:G×Nat),(ws p.1++[(Mv.Loc.h (tid d 0),AV.obj p.2 0 s [.agg (vs p.1)])])++[(Mv.Loc.t d,AV.sl (tid d 0) p.2 none 0 1)]=ws p.1++[(.h (tid d 0),.obj p.2 0 s [.agg (vs p.1)]),(.t d,.sl (tid d 0) p.2 none 0 1)]:=fun p=>by simp
 refine e2b (v:=fun p:G×Nat=> .sl (tid d 0) p.2 none 0 1) (ws:=fun p=>ws p.1++[(.h (tid d 0),.obj p.2 0 s [.agg (vs p.1)])]) (ls:=rds x++(ls++[.h (tid d 0)])) U ?_ (fun p=> ?_) (fun p=> ?_) (fun p=> ?_)
  (A1:=fun p=>K5 A (ws p.1++[(.h (tid d 0),.obj p.2 0 s [.agg (vs p.1)]),(.t d,.sl (tid d 0) p.2 none 0 1)]))
 ·simp only[aopV,dstOf]
  refine A5 (I7 (show wpA (CW cx) A (.ret d) _ from ?_));show wpW (CW cx) (puts A []) _ _;refine A5 (U0 u (A5 (E9 ⟨by rw[a];omega,n,q,by rw[a];exact J.2⟩ ?_)));simp only[l,a,g];refine A5 ?_;simp only[a0x];refine A5 (K3 K (A5 (E9 (by simp[leaves,c]) ?_)));refine A5 ?_;simp only[absorb];refine A5 (I1 I ?_);rintro _ _ _ ⟨y,rfl,rfl,rfl⟩;refine C3 (C3 ?_);refine A5 (M4 fun o=>A5 (J6 (C3 ?_)));exact⟨(y,I6 o+1),U,by simp,by simp⟩
 ·rw[show setD (⟨some d,.buildSlice T 1 #[(0,x)],ty,pos,aft,none⟩:Oper) (AV.sl (tid d 0) p.2 none 0 1)=[(.t d,.sl (tid d 0) p.2 none 0 1)]from U,e];exact B p.1 p.2
 ·rw[show setD (⟨some d,.buildSlice T 1 #[(0,x)],ty,pos,aft,none⟩:Oper) (AV.sl (tid d 0) p.2 none 0 1)=[(.t d,.sl (tid d 0) p.2 none 0 1)]from U,e];exact b1w A _
 ·rw[show setD (⟨some d,.buildSlice T 1 #[(0,x)],ty,pos,aft,none⟩:Oper) (AV.sl (tid d 0) p.2 none 0 1)=[(.t d,.sl (tid d 0) p.2 none 0 1)]from U,e];exact h p.1 p.2
theorem c7j{α:Type}{φ:α->AV}{xs:List α}{T E id g s n:Nat}{x:Operand}{z:AV}(L:opd A x=some (.sl id g none 0 n))(K:look A (.h id)=some (.obj g 0 s (xs.map φ)))(I:n=(xs.map φ).length)(i:∀a,L5 (φ a)=true)
 (y:Q8 cx.P T=some (E,1)) (M:a0v cx.P E=some (z,1)) (e:cx.fzB T d=true) (J:Loc.beq (.h (tid d 0)) (.h id)=false)
 (B:∀g',slotOk keep (.t d) (.sl (tid d 0) g' none 0 1)=true)
 (h:∀g',XR cx keep ops0 r ((.t d,.sl (tid d 0) g' none 0 1)::(.h (tid d 0),.obj g' 0 1 [.list (xs.map φ)])::(.h id,.obj g 2 s (xs.map φ))::A) fun l O=>Q l ((rds x++[.h id,.h (tid d 0)],[.h id,.h (tid d 0),.t d])::O)):
 XR cx keep ops0 (⟨some d,.buildSlice T 1 #[(0,x)],ty,pos,aft,none⟩::r) A Q:=by
 obtain⟨p,c,q,u⟩:=W6 M;refine a3z (v:=fun g'=> .sl (tid d 0) g' none 0 1) (ws:=fun g'=>[(.h id,.obj g 2 s (xs.map φ)),(.h (tid d 0),.obj g' 0 1 [.list (xs.map φ)])]) (ls:=rds x++[.h id,.h (tid d 0)]) U ?_
  (fun g=>C6 (Q5 (a9l i) (by decide)) (C6 (B3 U) (I4 (B g)))) (fun g=>U) (fun g=>a6r _ _ _ _ _ _ _) h
 simp only[aopV,dstOf];refine A5 (I7 (show wpA (CW cx) A (.ret d) _ from ?_));show wpW (CW cx) (puts A []) _ _;refine A5 (U0 y (A5 (E9 ⟨by rw[c];decide,q,u,by rw[c];decide⟩ ?_)));simp only[p,c,e,if_true];refine A5 ?_;simp only[a0x];refine A5 (K3 L (A5 (E9 (by simp[leaves]) ?_)));refine A5 ?_;simp only[absorb,ZP,List.headD];unfold K7;simp only[show¬((2:Nat)=3)from by decide,if_false];rw[if_neg (by simp)];refine A5 (b1q K I (a9l i) (C3 (C3 ?_)));rw[O1 i];refine A5 (M4 fun o=>A5 (J6 (C3 ?_)));exact⟨I6 o+1,U,by simp,by simp⟩
def Y5(C:Caller)(A:Asr)(fs fs':List AV)(lf:List Mv.Loc):Prop:=wpA C A (passLeaves fs) fun a l=>a=fs'/\l=lf
variable{fs':List AV}{lf:List Mv.Loc}
theorem d0g:Y5 C A [] [] []:=⟨rfl,rfl⟩
theorem e7d{v:Value}(t:Y5 C A fs fs' lf):Y5 C A (.val v::fs) (.val v::fs') lf:=by
 unfold Y5 at t|-;simp only[passLeaves,passLeaf,E4,F3];refine N5 ?_ t;rintro x l ⟨rfl,rfl⟩;exact⟨U,by simp⟩
theorem f7b{id g m s n:Nat}{es:List AV}(e:look A (.h id)=some (.obj g m s es))(a:bxB m none=false)(c:n=es.length)(i:G4 es=true)(t:Y5 C A fs fs' lf):Y5 C A (.sl id g none 0 n::fs) (.list (frzL es)::fs') (.h id::lf):=by
 subst c;unfold Y5 at t|-;simp only[passLeaves,passLeaf,slc,E4,rdNode,N1 e,F8,F3,true_and,a,ZL,Zd,and_self,ZY,Yo,i,Zm,Zj];refine N5 ?_ t;rintro x l ⟨rfl,rfl⟩;exact⟨U,by simp⟩
theorem f0a{α:Type}{φ:α->AV}{xs:List α}{id g m s n:Nat}(l:look A (.h id)=some (.obj g m s (xs.map φ)))(e:bxB m none=false)(i:n=(xs.map φ).length)(c:∀a,L5 (φ a)=true)(t:Y5 C A fs fs' lf):Y5 C A (.sl id g none 0 n::fs) (.list (xs.map φ)::fs') (.h id::lf):=by
 have:=f7b l e i (a9l c) t;rwa[O1 c]at this
theorem b1z{cur v:AV}(h:T8 .undef v=true){R:AV->Ws->List Mv.Loc->Prop}(a:R v [] []):wpW C A (K7 m cur f v) R:=by
 unfold K7;cases v with
 |val v=>exact A5 (E9 h (C3 a))
 |clo k caps=>
  refine A5 (E9 h (C3 ?_));simpa using a
 |list es=>exact C3 a
 |_=>simp[T8,L4]at h
theorem b9f:∀(vs cs:List AV) (j:Nat) {A:Asr},(vs.all fun v=>T8 .undef v)=true->∀{R:List AV->Ws->List Mv.Loc->Prop},R vs [] []->wpW C A (absorbLeaves m f j cs vs) R:=by
 intro vs
 induction vs with
 |nil=>intro cs j A _ R a;exact C3 a
 |cons v vs c=>
  intro cs j A h R a;simp only[List.all_cons,Zy]at h;refine A5 (b1z h.1 (A5 (c cs.tail (j+1) h.2 (C3 ?_))));simpa using a
theorem e7h{v:AV}(h:((leaves v).all fun v=>T8 .undef v)=true){R:AV->Ws->List Mv.Loc->Prop}(c:R v [] []):wpW C A (absorb m f j cs v) R:=by
 by_cases he:∃fs,v= .agg fs
 ·obtain⟨fs,rfl⟩:=he
  refine A5 (b9f fs cs j h (C3 ?_));simpa using c
 ·have a:∀fs,v≠.agg fs:=fun fs e=>he ⟨fs,e⟩
  have g:absorb m f j cs v=K7 m (cs.headD .undef) (fid f j) v:=by
   unfold absorb;split
   ·exact(a _ U).elim
   ·rfl
  have i:leaves v=[v]:=by
   unfold leaves;split
   ·exact(a _ U).elim
   ·rfl
  rw[i]at h;simp only[List.all_cons,List.all_nil,Bool.and_true]at h;rw[g];exact b1z h c
def fillI(A:Asr)(s:Nat)(es:List AV):List (Nat×Operand)->Option (List AV)
 |[]=>some es
 |(i,x)::r=>match opd A x with
  |some v=>if(leaves v).length=s/\i<es.length/\((leaves v).all fun v=>T8 .undef v)=true then fillI A s (es.set i v) r else none
  |none=>none
theorem e4r{mk s:Nat}:∀(ps:List (Nat×Operand)) (es:List AV) {c:List AV},fillI A s es ps=some c->∀{R:List AV->Ws->List Mv.Loc->Prop},R c [] (a3q (ps.map (·.2)))->wpW C A (a0x mk s es ps) R:=by
 intro ps
 induction ps with
 |nil=>intro es c h R g;simp only[fillI,Zb]at h;subst h;exact C3 g
 |cons p ps o=>
  intro es c h R g;obtain⟨i,x⟩:=p;simp only[fillI]at h;split at h
  ·rename_i v n
   split at h
   ·rename_i e
    refine A5 (K3 n (A5 (E9 ⟨e.1,e.2.1⟩ (A5 (e7h e.2.2 ?_)))));refine I1 (o _ h (R:=fun a w l=>a=c/\w=[]/\l=a3q (ps.map (·.2))) ⟨U,U,U⟩) ?_;rintro _ _ _ ⟨rfl,rfl,rfl⟩;simpa[a3q]using g
   ·cases h
  ·cases h
theorem a4q{T n E s:Nat}{ps:Array (Nat×Operand)}{z:AV}{es:List AV}(u:Q8 cx.P T=some (E,s))(B:a0v cx.P E=some (z,s))(e:n*s<=16777216/\0<s)(x:fillI A s (ZP n z) ps.toList=some es)(J:es.length=n)
 (c:∀g,slotOk keep (.h (tid d 0)) (.obj g 0 s es)=true) (y:∀g,slotOk keep (.t d) (.sl (tid d 0) g none 0 n)=true)
 (h:∀g,XR cx keep ops0 r ((.t d,.sl (tid d 0) g none 0 n)::(.h (tid d 0),.obj g 0 s es)::A) fun i I=>Q i ((a3q (ps.toList.map (·.2))++[.h (tid d 0)],[.h (tid d 0),.t d])::I)):
 XR cx keep ops0 (⟨some d,.buildSlice T n ps,ty,pos,aft,none⟩::r) A Q:=by
 obtain⟨l,a,p,q⟩:=W6 B;refine a3z (v:=fun g=> .sl (tid d 0) g none 0 n) (ws:=fun g=>[(.h (tid d 0),.obj g 0 s es)]) (ls:=a3q (ps.toList.map (·.2))++[.h (tid d 0)]) U ?_ (fun g=>C6 (c g) (I4 (y g))) (fun g=>U) (fun g=>a2v _ _ _ _ _) h;simp only[aopV,dstOf];refine A5 (I7 (show wpA (CW cx) A (.ret d) _ from ?_));show wpW (CW cx) (puts A []) _ _;refine A5 (U0 u (A5 (E9 ⟨by rw[a];exact e.1,p,q,by rw[a];exact e.2⟩ ?_)));simp only[l,a];refine A5 (e4r ps.toList _ x (A5 (M4 fun o=>A5 (J6 (C3 ?_)))));exact⟨I6 o+1,U,by simp,by simp⟩
end
theorem P9{α:Type}[Inhabited α]{l:List α}{j:Nat}(h:j<l.length):l.take (j+1)=l.take j++[l.getD j default]:=by
 rw[Yl h,Zc,Zg h];rfl
theorem c5z{α:Type}[Inhabited α](l:List α)(i n:Nat):(l.drop i).getD n default=l.getD (i+n) default:=by
 rw[Zc,Zc,Yd]
def f0g(t:Pl)(i:Nat)(u:Pl):Pl:=match t with
 | .un w _=> .un w u
 | .bin w p q=>if i=0 then .bin w u q else .bin w p u
 |t=>t
theorem f4p{t u:Pl}{i:Nat}(a:i<t.kids.length):AV.agg [tV t.op,.list (t.ns.map iV),.list ((t.kids.set i u).map trV)]=trV (f0g t i u):=by
 cases t with
 |lst ns=>simp[Pl.kids]at a
 |col w=>simp[Pl.kids]at a
 |un w p=>
  obtain rfl:i=0:=by simp[Pl.kids]at a;omega
  rfl
 |bin w p q=>
  rcases i with _|_|i
  ·rfl
  ·rfl
  ·simp[Pl.kids]at a;omega
theorem e8q{t u:Pl}{i:Nat}(a:i<t.kids.length):([.agg [tV t.op,.list (t.ns.map iV),.list ((t.kids.set i u).map trV)]]:List AV)=List.map trV [f0g t i u]:=by rw[f4p a];rfl
def b1r(t:Pl):Nat->List Pl
 |0=>(Y2 t).toList
 |i+1=>b1r t i++(oneP (t.kids.getD i default)).map (f0g t i)
theorem c2k(t:Pl):b1r t t.kids.length=oneP t:=by
 cases t with
 |lst ns=>rfl
 |col w=>rfl
 |un w p=>rfl
 |bin w p q=>rfl
theorem a9p:∀t:Pl,(oneP t).length<=t.sz
 | .lst _=>Zv _
 | .col _=>Zv _
 | .un w p=>by
  have:=a9p p;have a:(Y2 (.un w p)).toList.length<=1:=by cases Y2 (.un w p)<;>simp
  simp only[oneP,Zf,Zi,Pl.sz];omega
 | .bin w p q=>by
  have:=a9p p;have:=a9p q;simp only[oneP,Zf,Zi,Pl.sz];omega
theorem d4i{t:Pl}{i:Nat}(c:i<=t.kids.length):(b1r t i).length<=t.sz:=by
 have key:∀k j:Nat,(b1r t j).length<=(b1r t (j+k)).length:=by
  intro k
  induction k with
  |zero=>intro j;exact Zd _
  |succ k a=>intro j;have:=a j;rw[<-YK,b1r];simp only[Zf];omega
 have:=key (t.kids.length-i) i;rw[show i+(t.kids.length-i)=t.kids.length by omega,c2k]at this;exact Yg this (a9p t)
def b7b(t:Pl)(i j:Nat):List Pl:=b1r t i++((oneP (t.kids.getD i default)).take j).map (f0g t i)
theorem c6l(t:Pl)(i:Nat):b7b t i 0=b1r t i:=by simp[b7b]
theorem c5t{t:Pl}{i j:Nat}(a:j<(oneP (t.kids.getD i default)).length):b7b t i j++[f0g t i ((oneP (t.kids.getD i default)).getD j default)]=b7b t i (j+1):=by
 rw[b7b,b7b,P9 a];simp
theorem d2z{t:Pl}{i j:Nat}(a:(oneP (t.kids.getD i default)).length<=j):b7b t i j=b1r t (i+1):=by
 rw[b7b,ZB a];rfl
theorem e9c{t:Pl}{i j:Nat}(a:i<t.kids.length):(b7b t i j).length<=t.sz:=by
 have:=d4i (t:=t) (i:=i+1) (by omega);rw[b1r]at this;rw[b7b];simp only[Zf,Zi,ZH]at this|-;omega
theorem e5z{t u:Pl}(h:t.good)(hu:Y2 t=some u):u.good:=by
 cases t with
 |lst ns=>cases hu
 |col w=>cases hu
 |bin w p q=>cases hu
 |un w p=>
  cases p with
  |lst ns=>cases hu
  |col w=>cases hu
  |bin w p q=>cases hu
  |un v p=>
   obtain⟨⟨x,y⟩,a,rfl⟩:=Zh.1 hu;cases x<;>cases y
   ·exact h
   ·exact⟨h.1,h.2.1,h.2.2.2.2⟩
   ·exact h.2.2
   ·exact h.2.2.2.2
theorem a8x:∀(t:Pl),t.good->∀u∈oneP t,u.good
 | .lst _,_,u,h=>by cases h
 | .col _,_,u,h=>by cases h
 | .bin w p q,a,u,h=>by
  simp only[oneP,ZF,ZI]at h;rcases h with⟨v,c,rfl⟩|⟨v,c,rfl⟩
  ·exact⟨a.1,a.2.1,a8x p a.2.2.1 v c,a.2.2.2⟩
  ·exact⟨a.1,a.2.1,a.2.2.1,a8x q a.2.2.2 v c⟩
 | .un w p,a,u,h=>by
  simp only[oneP,ZF,ZI,Xu]at h;rcases h with h|⟨v,c,rfl⟩
  ·exact e5z a h
  ·exact⟨a.1,a.2.1,a8x p a.2.2 v c⟩
theorem b2q:∀(t:Pl),∀u∈oneP t,(showP u).length<=(showP t).length
 | .lst _,u,h=>by cases h
 | .col _,u,h=>by cases h
 | .bin w p q,u,h=>by
  simp only[oneP,ZF,ZI]at h;rcases h with⟨v,a,rfl⟩|⟨v,a,rfl⟩
  ·have:=b2q p v a;simp only[a7z,Zf];omega
  ·have:=b2q q v a;simp only[a7z,Zf];omega
 | .un w p,u,h=>by
  simp only[oneP,ZF,ZI,Xu]at h;rcases h with h|⟨v,a,rfl⟩
  ·cases p with
   |lst ns=>cases h
   |col v=>cases h
   |bin v p q=>cases h
   |un v p=>
    obtain⟨⟨x,y⟩,c,rfl⟩:=Zh.1 h;cases x<;>cases y<;>simp only[a2p,b1l,Zf]<;>omega
  ·have:=b2q p v a;simp only[b1l,Zf];omega
theorem d4t{t u:Pl}{r:List Pl}(h:oneP t=u::r):u∈oneP t:=by rw[h];exact Zr ..
def leftN(ws:List W8)(i:Nat)(x y:Bool):Nat->List W8
 |0=>[]
 |k+1=>leftN ws i x y k++(if(k=i/\x=true)\/(k=i+1/\y=true)then[]else[ws.getD k default])
def e6y(ws:List W8)(i:Nat)(x y:Bool):List W8:=leftN ws i x y ws.length
theorem d1w(ws:List W8)(i:Nat)(x y:Bool):∀k,k<=i->k<=ws.length->leftN ws i x y k=ws.take k
 |0,_,_=>rfl
 |k+1,h,a=>by
  rw[leftN,d1w ws i x y k (by omega) (by omega),if_neg (by omega),Yl (show k<ws.length by omega),Zc,Zg (show k<ws.length by omega)];rfl
theorem d1o(ws:List W8)(i:Nat)(x y:Bool)(a:i+1<ws.length):∀n,i+2+n<=ws.length->leftN ws i x y (i+2+n)=(ws.take i++((if x then[]else[ws.getD i default])++(if y then[]else[ws.getD (i+1) default])))++(ws.drop (i+2)).take n
 |0,_=>by
  rw[show i+2+0=(i+1)+1 from U,leftN,leftN,d1w ws i x y i (Zd _) (by omega)];cases x<;>cases y<;>simp
 |n+1,h=>by
  rw[show i+2+(n+1)=(i+2+n)+1 from U,leftN,d1o ws i x y a n (by omega),if_neg (c:=(i+2+n=i/\x=true)\/(i+2+n=i+1/\y=true)) (by omega),P9 (show n<(ws.drop (i+2)).length by rw[Yp];omega),c5z];simp
theorem c7t{ws:List W8}{i:Nat}(x y:Bool)(a:i+1<ws.length):e6y ws i x y=ws.take i++((if x then[]else[ws.getD i default])++((if y then[]else[ws.getD (i+1) default])++ws.drop (i+2))):=by
 have:=d1o ws i x y a (ws.length-(i+2)) (by omega);rw[show i+2+(ws.length-(i+2))=ws.length by omega]at this;rw[e6y,this,ZB (l:=ws.drop (i+2)) (by rw[Yp];omega)];simp
def b9a(ws:List W8)(i:Nat):List (List W8):=match keyG ((ws.getD i default++[32])++ws.getD (i+1) default)with
 |some (x,y)=>[e6y ws i x y]
 |none=>[]
def hitsN(ws:List W8):Nat->List (List W8)
 |0=>[]
 |i+1=>hitsN ws i++b9a ws i
theorem e4d{a:W8}{ws:List W8}{i:Nat}(c:i+1<ws.length):b9a (a::ws) (i+1)=(b9a ws i).map (a:: ·):=by
 unfold b9a;simp only[YU];cases e:keyG ((ws.getD i default++[32])++ws.getD (i+1) default)with
 |none=>rfl
 |some z=>
  obtain⟨x,y⟩:=z;simp only[Zz,Ya];rw[c7t x y c,c7t x y (show i+1+1<(a::ws).length by simpa using c)];simp
theorem c2u{a:W8}{ws:List W8}:∀{n:Nat},n<ws.length->hitsN (a::ws) (n+1)=b9a (a::ws) 0++(hitsN ws n).map (a:: ·)
 |0,_=>by simp[hitsN]
 |n+1,h=>by
  rw[hitsN,c2u (by omega),e4d (by omega),hitsN,Yi,Yq]
theorem c2d:∀ws:List W8,N6 ws=hitsN ws (ws.length-1)
 |[]=>rfl
 |[a]=>rfl
 |a::b::r=>by
  have c:b9a (a::b::r) 0=d9n a b r:=by
   have e:(a++[32])++b=a++32::b:=by simp
   unfold b9a d9n;simp only[YV,YU,e,ZL];cases keyG (a++32::b)with
   |none=>rfl
   |some z=>
    obtain⟨x,y⟩:=z;simp only;rw[c7t x y (by simp)];simp
  rw[N6,show(a::b::r).length-1=r.length+1 by simp,c2u (by simp),c,c2d (b::r)];simp
theorem c4z(ws:List W8):∀n,(hitsN ws n).length<=n
 |0=>Zd _
 |n+1=>by
  have:=c4z ws n;have a:(b9a ws n).length<=1:=by unfold b9a;split<;>simp
  rw[hitsN,Zf];omega
theorem c6m(ws:List W8)(i:Nat)(x y:Bool):∀k,(leftN ws i x y k).length<=k
 |0=>Zd _
 |k+1=>by
  have:=c6m ws i x y k;rw[leftN,Zf];split<;>simp<;>omega
theorem b8l(w:W8)(p q:Pl):oneP (.bin w p q)=(oneP p).map (fun u=> .bin w u q)++(oneP q).map (.bin w p):=rfl
theorem a8u(w:W8)(p:Pl):oneP (.un w p)=(Y2 (.un w p)).toList++(oneP p).map (.un w):=rfl
theorem b2h{w:W8}(hw:rch (bA w)=2):∀(n:Nat) (p q:Pl),p.sz+q.sz<=n->p.wf->q.wf->normP (.bin w p q)= .bin w (normP p) (normP q):=by
 intro n
 induction n with
 |zero=>intro p q h _ _;cases p<;>simp[Pl.sz]at h
 |succ n i=>
  intro p q l g hq;cases c:oneP p with
  |cons u r=>
   obtain⟨a,b,_⟩:=U8 p g u (by rw[c];simp);rw[X8 (t:= .bin w p q) (u:= .bin w u q) (r:=r.map (fun u=> .bin w u q)++(oneP q).map (.bin w p)) ⟨hw,g,hq⟩ (by rw[b8l,c];rfl),i u q (by omega) a hq,X8 g c]
  |nil=>
   cases e:oneP q with
   |cons u r=>
    obtain⟨a,b,_⟩:=U8 q hq u (by rw[e];simp);rw[X8 (t:= .bin w p q) (u:= .bin w p u) (r:=r.map (.bin w p)) ⟨hw,g,hq⟩ (by rw[b8l,c,e];rfl),i p u (by omega) g a,X8 hq e]
   |nil=>rw[a1v (t:= .bin w p q) (by rw[b8l,c,e];rfl),a1v c,a1v e]
def a2i:List W8->Pl->Pl
 |[],r=>r
 |a::l,r=> .un a (a2i l r)
def dW(e:Bool×Bool)(a b:W8):List W8:=(if e.1 then[]else[a])++(if e.2 then[]else[b])
theorem b1b(x y:Bool)(w v:W8)(q:Pl):a2p x y w v q=a2i (dW (x,y) w v) q:=by cases x<;>cases y<;>rfl
theorem c6s(l k:List W8)(r:Pl):a2i (l++k) r=a2i l (a2i k r):=by
 induction l with
 |nil=>rfl
 |cons a l c=>simp only[Zp,a2i,c]
theorem a5h(r:Pl):∀(l k:List W8),k∈N6 l->a2i k r∈oneP (a2i l r)
 |[],k,h=>by cases h
 |[a],k,h=>by cases h
 |a::b::l,k,h=>by
  rw[N6,ZF]at h;show a2i k r∈oneP (.un a (.un b (a2i l r)));rw[a8u,ZF];rcases h with h|h
  ·left
   unfold d9n at h;cases e:keyG (a++32::b)with
   |none=>rw[e]at h;cases h
   |some z=>
    obtain⟨x,y⟩:=z;rw[e]at h;simp only[Ye]at h;subst h;rw[Y2,e,<-Yq,c6s,show((if x=true then[]else[a])++if y=true then[]else[b])=dW (x,y) a b from U,<-b1b];simp
  ·right
   obtain⟨k,c,rfl⟩:=ZI.1 h;exact ZI.2 ⟨_,a5h r (b::l) k c,U⟩
def f4f(l k:List W8):Bool:=l==k||(N6 l).contains k||(N6 k).contains l||(N6 l).any fun m=>(N6 k).contains m
def uOps:List W8:=[lSort,c4u,d5t,d5c,c6x,c5f,[114,97,110,107,115],e4g]
theorem b9r{w:W8}(h:rch (bA w)=1):w∈uOps:=by
 have:=a6m (w:=w) (by omega);rw[h]at this;simp only[opsL,ZM,List.not_mem_nil,or_false,Zk]at this;simp only[uOps,ZM,List.not_mem_nil,or_false];rcases this with⟨rfl,h⟩|⟨rfl,h⟩|⟨rfl,h⟩|⟨rfl,h⟩|⟨rfl,h⟩|⟨rfl,h⟩|⟨rfl,h⟩|⟨rfl,h⟩|⟨rfl,h⟩|⟨rfl,h⟩|⟨rfl,h⟩|⟨rfl,h⟩|⟨rfl,h⟩|⟨rfl,h⟩<;>first|(exfalso;omega)|simp
theorem e7w:∀a∈uOps,∀b∈uOps,∀c∈uOps,(match keyG (a++32::b),keyG (b++32::c)with|some e,some f=>f4f (dW e a b++[c]) (a::dW f b c)|_,_=>true)=true:=by decide+kernel
theorem f7g:∀(n:Nat) (t:Pl),t.sz<=n->t.wf->∀u∈oneP t,normP u=normP t:=by
 intro n
 induction n with
 |zero=>intro t h;cases t<;>simp[Pl.sz]at h
 |succ n ih=>
  intro t hn hw u hu;cases t with
  |lst ns=>cases hu
  |col w=>cases hu
  |bin w p q=>
   simp only[Pl.sz]at hn;rw[b8l,ZF,ZI,ZI]at hu;rcases hu with⟨v,L,rfl⟩|⟨v,L,rfl⟩
   ·obtain⟨a,b,_⟩:=U8 p hw.2.1 v L
    rw[b2h hw.1 _ _ _ (Zd _) a hw.2.2,b2h hw.1 _ _ _ (Zd _) hw.2.1 hw.2.2,ih p (by omega) hw.2.1 v L]
   ·obtain⟨a,b,_⟩:=U8 q hw.2.2 v L
    rw[b2h hw.1 _ _ _ (Zd _) hw.2.1 a,b2h hw.1 _ _ _ (Zd _) hw.2.1 hw.2.2,ih q (by omega) hw.2.2 v L]
  |un w p=>
   have H:∀s:Pl,s.sz<(Pl.un w p).sz->s.wf->∀u∈oneP s,normP u=normP s:=fun s hs=>ih s (by omega)
   have a5:(Pl.un w p).sz=p.sz+1:=rfl;have l:∀(m:Nat) (k:Pl),k.sz<=m->k.sz<p.sz->k.wf->normP (.un w k)=normP (.un w (normP k)):=by
    intro m
    induction m with
    |zero=>intro k h;cases k<;>simp[Pl.sz]at h
    |succ m a0=>
     intro k R a4 B;cases e:oneP k with
     |nil=>rw[a1v e]
     |cons v r=>
      obtain⟨a,b,_⟩:=U8 k B v (by rw[e];simp);have o:=H (.un w k) (by simp only[Pl.sz];omega) ⟨hw.1,B⟩ (.un w v) (by rw[a8u,ZF];right;exact ZI.2 ⟨v,by rw[e];simp,U⟩);rw[<-o,a0 v (by omega) (by omega) a,X8 B e]
   have inner:∀i∈oneP p,∀M∈oneP p,normP (.un w i)=normP (.un w M):=by
    intro i o M K;obtain⟨a1,b1,_⟩:=U8 p hw.2 i o;obtain⟨a2,b2,_⟩:=U8 p hw.2 M K;rw[l _ i (Zd _) b1 a1,l _ M (Zd _) b2 a2,H p (by omega) hw.2 i o,H p (by omega) hw.2 M K]
   cases S:Y2 (.un w p)with
   |none=>
    have E:oneP (.un w p)=(oneP p).map (.un w):=by rw[a8u,S];rfl
    rw[E]at hu;obtain⟨i,g,rfl⟩:=ZI.1 hu;cases e:oneP p with
    |nil=>rw[e]at g;cases g
    |cons v r=>rw[X8 (t:= .un w p) (u:= .un w v) (r:=r.map (.un w)) hw (by rw[E,e];rfl)];exact inner i g v (by rw[e];simp)
   |some J=>
    have E:oneP (.un w p)=J::(oneP p).map (.un w):=by rw[a8u,S];rfl
    rw[X8 hw E];obtain⟨w0,s0,_⟩:=U8 _ hw J (by rw[E];simp);rw[E,ZM]at hu;rcases hu with rfl|hu
    ·rfl
    ·obtain⟨i,g,rfl⟩:=ZI.1 hu
     obtain⟨w1,s1,_⟩:=U8 (.un w p) hw (.un w i) (by rw[E];simp[g])
     --a common a3
     have common:∀c,(c=J\/c∈oneP J)->(c= .un w i\/c∈oneP (.un w i))->normP (.un w i)=normP J:=by
      intro c o K;have T:normP c=normP J:=by
       rcases o with rfl|o
       ·rfl
       ·exact H J s0 w0 c o
      have V:normP c=normP (.un w i):=by
       rcases K with rfl|K
       ·rfl
       ·exact H _ s1 w1 c K
      rw[<-T,<-V]
     cases p with
     |lst ns=>cases g
     |col v=>cases g
     |bin v p q=>cases S
     |un v q=>
      obtain⟨⟨x,y⟩,R,rfl⟩:=Zh.1 S;rw[a8u,ZF,ZI]at g;rcases g with g|⟨O,I,rfl⟩
      ·rw[Xu]at g
       cases q with
       |lst ns=>cases g
       |col z=>cases g
       |bin z p q=>cases g
       |un z r=>
        obtain⟨⟨x2,y2⟩,X,rfl⟩:=Zh.1 g;have hm:=e7w w (b9r hw.1) v (b9r hw.2.1) z (b9r hw.2.2.1);rw[R,X]at hm;have T:a2p x y w v (.un z r)=a2i (dW (x,y) w v++[z]) r:=by rw[b1b,c6s];rfl
        have V:Pl.un w (a2p x2 y2 v z r)=a2i (w::dW (x2,y2) v z) r:=by rw[b1b];rfl
        rw[T]at common|-;rw[V]at common|-;simp only[f4f,Bool.or_eq_true,beq_iff_eq,List.contains_iff_mem,List.any_eq_true]at hm;rcases hm with((hm|hm)|hm)|⟨m,Y,Z⟩
        ·exact common _ (.inl U) (.inl (by rw[hm]))
        ·exact common _ (.inr (a5h r _ _ hm)) (.inl U)
        ·exact common _ (.inl U) (.inr (a5h r _ _ hm))
        ·exact common _ (.inr (a5h r _ _ Y)) (.inr (a5h r _ _ Z))
      ·refine common (a2p x y w v O) (.inr ?_) (.inr ?_)
       ·cases x<;>cases y
        ·exact absurd R e2y
        ·show Pl.un w O∈oneP (.un w q)
         rw[a8u,ZF];exact .inr (ZI.2 ⟨_,I,U⟩)
        ·show Pl.un v O∈oneP (.un v q)
         rw[a8u,ZF];exact .inr (ZI.2 ⟨_,I,U⟩)
        ·exact I
       ·rw[a8u,ZF];left
        rw[show Y2 (.un w (.un v O))=some (a2p x y w v O) by rw[Y2,R];rfl];simp
theorem d2r{t u:Pl}(hw:t.wf)(h:u∈oneP t):normP u=normP t:=f7g _ t (Zd _) hw u h
theorem c2x{R:Pl->Prop}(o:∀t u:Pl,t.wf->R t->u∈oneP t->R u):∀(n:Nat) (t:Pl),t.sz<=n->t.wf->R t->R (normP t)/\(normP t).wf/\(normP t).sz<=t.sz/\oneP (normP t)=[]:=by
 intro n
 induction n with
 |zero=>intro t h;cases t<;>simp[Pl.sz]at h
 |succ n p=>
  intro t s hw c;cases e:oneP t with
  |nil=>rw[a1v e];exact⟨c,hw,Zd _,e⟩
  |cons u r=>
   have hu:u∈oneP t:=d4t e;obtain⟨a,b,_⟩:=U8 t hw u hu;rw[X8 hw e];obtain⟨g,i,q,l⟩:=p u (by omega) a (o t u hw c hu);exact⟨g,i,by omega,l⟩
theorem c9h{t:Pl}(h:t.wf):(normP t).wf:=(c2x (R:=fun _=>True) (fun _ _ _ _ _=>trivial) _ t (Zd _) h trivial).2.1
theorem f3a{t:Pl}(h:t.wf):(normP t).sz<=t.sz:=(c2x (R:=fun _=>True) (fun _ _ _ _ _=>trivial) _ t (Zd _) h trivial).2.2.1
theorem b3m{t:Pl}(h:t.wf)(a:t.good):(normP t).good:=(c2x (R:=Pl.good) (fun t u _ a hu=>a8x t a u hu) _ t (Zd _) h a).1
theorem f1d{t u:Pl}{r:List Pl}(h:t.wf)(e:oneP t=u::r):(normP t).sz<t.sz:=by
 obtain⟨a,b,_⟩:=U8 t h u (d4t e);rw[X8 h e];have:=f3a a;omega
theorem b9j{c d:UInt8}(a:c≠d):∀{ps:List W8},(∀p∈ps,c∉p)->c∉joinB d ps
 |[],_=>by simp[joinB]
 |[p],h=>by simpa[joinB]using h p (by simp)
 |p::q::r,h=>by
  have g:=b9j a (ps:=q::r) fun x e=>h x (Zn _ e)
  rw[Q2 (by simp)];simp only[ZF,ZM,not_or];exact⟨h p (by simp),a,g⟩
theorem d7j(ns:List Int):(32:UInt8)∉S3 ns:=by
 have h:(32:UInt8)∉P0 ns:=b9j (by decide) fun p a=>by
  obtain⟨n,_,rfl⟩:=ZI.1 a;exact c1b (by decide) (by decide) n
 simp only[S3,ZM,ZF,List.not_mem_nil,or_false,not_or];exact⟨by decide,h,by decide⟩
theorem f5d:∀x∈opsL,(32:UInt8)∉x.1/\(x.1.getD 0 0).toNat≠91/\x.1≠lW/\x.1.length<=5/\x.1≠[]:=by decide+kernel
theorem b2t{w:W8}(h:0<=rch (bA w)):(32:UInt8)∉w/\numsOf w=none/\w≠lW/\w.length<=5/\w≠[]:=by
 obtain⟨a,b,c,d,e⟩:=f5d _ (a6m h);exact⟨a,(a9g (.inr (.inl b))).1,c,d,e⟩
theorem a4e:∀{t:Pl},t.wf->f6q t
 | .lst ns,_=>by intro w hw;simp only[wordsP,Ye]at hw;subst hw;exact d7j ns
 | .col w,h=>by
  intro v a;simp only[wordsP,Ye]at a;subst a;simp only[Pl.wf]at h;exact(b2t (by omega)).1
 | .un w p,h=>by
  intro v a;simp only[wordsP,ZM]at a;rcases a with rfl|a
  ·exact(b2t (by have:=h.1;omega)).1
  ·exact a4e h.2 v a
 | .bin w p q,h=>by
  intro v a;simp only[wordsP,ZM,ZF]at a;rcases a with rfl|a|a
  ·exact(b2t (by have:=h.1;omega)).1
  ·exact a4e h.2.1 v a
  ·exact a4e h.2.2 v a
theorem a3f:∀t:Pl,(wordsP t).length=t.sz
 | .lst ns=>rfl
 | .col w=>rfl
 | .un w p=>by simp[wordsP,Pl.sz,a3f p]
 | .bin w p q=>by simp[wordsP,Pl.sz,a3f p,a3f q]
theorem a5a:∀(t:Pl) (n:Nat) (r:List W8),t.wf->t.good->t.sz<=n->rdP n (wordsP t++r)=some (t,r)
 |t,0,_,_,_,h=>by cases t<;>simp[Pl.sz]at h
 | .lst ns,n+1,r,_,c,_=>by
  show rdP (n+1) (S3 ns::r)=_;rw[rdP,b5p c]
 | .col w,n+1,r,hw,_,_=>by
  have a:rch (bA w)=0:=hw;show rdP (n+1) (w::r)=_;rw[rdP,(b2t (by omega)).2.1];simp only[if_pos a]
 | .un w p,n+1,r,hw,c,e=>by
  have a:=hw.1;simp only[Pl.sz]at e;show rdP (n+1) (w::(wordsP p++r))=_;rw[rdP,(b2t (by omega)).2.1];simp only;rw[if_neg (by omega),if_pos a,a5a p n r hw.2 c.2.2 (by omega)];rfl
 | .bin w p q,n+1,r,hw,c,e=>by
  have a:=hw.1;simp only[Pl.sz]at e;show rdP (n+1) (w::((wordsP p++wordsP q)++r))=_;rw[rdP,(b2t (by omega)).2.1];simp only;rw[if_neg (by omega),if_neg (by omega),if_pos a,Yq,a5a p n _ hw.2.1 c.2.2.1 (by omega),Zl,a5a q n r hw.2.2 c.2.2.2 (by omega)];rfl
theorem Z9{s:W8}{t:Pl}(h:rdPlan s=some t):s=showP t/\t.wf/\t.good/\s.length<=160/\t.sz<=16:=by
 have p:=c5d h;have n:s.length<=160:=by
  unfold rdPlan at h;split at h
  ·rename_i i;exact i.1
  ·cases h
 have l:=d1q (by omega) h;unfold rdPlan at h;split at h
 ·obtain⟨⟨t1,r⟩,g,a⟩:=Za.1 h
  split at a
  ·rename_i o
   cases a;obtain⟨c,e⟩:=a9b g;obtain rfl:r=[]:=ZW.1 o;rw[Zm]at c;exact⟨by rw[showP,<-c,b0m],e,l,n,p⟩
  ·cases a
 ·cases h
theorem d6h{t u:Pl}(c:t.wf)(gt:t.good)(hu:u.wf)(g:u.good)(h:showP t=showP u):t=u:=by
 have e:wordsP t=wordsP u:=by rw[<-a3l (a4e c),<-a3l (a4e hu),h]
 have a:=a5a t (t.sz+u.sz) [] c gt (by omega);have i:=a5a u (t.sz+u.sz) [] hu g (by omega);rw[e,i]at a;cases a;rfl
theorem b4o(t:Pl):0<t.sz:=by cases t<;>simp[Pl.sz]
deriving instance DecidableEq for Stp
def f7k(t:Pl)(a b:Int):Stp:=⟨bA t.op,a,b,t.ns⟩
def gN:Nat->Int
 |0=>20
 |d+1=>2*gN d+20
def lN:Nat->Nat
 |0=>60
 |d+1=>2*lN d+60
theorem d1g:∀d,20<=gN d
 |0=>by simp[gN]
 |d+1=>by have:=d1g d;simp only[gN];omega
theorem d6s:∀d,60<=lN d
 |0=>by simp[lN]
 |d+1=>by have:=d6s d;simp only[lN];omega
theorem f3g:∀{d:Nat},d<=5->gN d<=2000
 |0,_=>by simp[gN]|1,_=>by simp[gN]|2,_=>by simp[gN]|3,_=>by simp[gN]|4,_=>by simp[gN]|5,_=>by simp[gN]
 |d+6,h=>by omega
theorem e1g:∀{d:Nat},d<=5->lN d<=4000
 |0,_=>by simp[lN]|1,_=>by simp[lN]|2,_=>by simp[lN]|3,_=>by simp[lN]|4,_=>by simp[lN]|5,_=>by simp[lN]
 |d+6,h=>by omega
def goneTb:List (ByteArray×Value):=goneL.map fun e=>(bA e.1,.agg #[.bool e.2.1,.bool e.2.2])
theorem d9e(a b:W8):(bA a==bA b)=decide (a=b):=by
 show ByteArray.beq _ _=_;unfold ByteArray.beq;show(a.toArray==b.toArray)=_;by_cases e:a=b
 ·subst e;simp
 ·rw[decide_eq_false e];simpa using e
theorem b5x(k:W8):∀l:List (W8×Bool×Bool),a4m (bA k) (l.map fun e=>(bA e.1,Value.agg #[.bool e.2.1,.bool e.2.2]))=((l.find? fun e=>decide (e.1=k)).map (·.2)).map fun e=> .agg #[.bool e.1,.bool e.2]
 |[]=>rfl
 |e::l=>by
  rw[Zz,a4m,d9e];by_cases h:k=e.1
  ·subst h;simp
  ·rw[decide_eq_false h,List.find?_cons,decide_eq_false (fun x=>h x.symm)]
   simp only[ZZ,if_false];exact b5x k l
theorem b9g(k:W8):a4m (bA k) goneTb=(keyG k).map fun e=> .agg #[.bool e.1,.bool e.2]:=b5x k goneL
def jlW(ps:List W8):Nat:=(ps.map fun p=>p.length+1).sum
theorem e1n(a b:List W8):jlW (a++b)=jlW a+jlW b:=by simp[jlW]
theorem d5q{c:UInt8}:∀{ps:List W8},(joinB c ps).length=jlW ps-1
 |[]=>rfl
 |[p]=>by simp[joinB,jlW]
 |p::q::r=>by
  have a:=d5q (c:=c) (ps:=q::r);rw[Q2 (by simp),Zf,Ze,a];simp only[jlW,Zz,List.sum_cons];omega
theorem d3c(ws:List W8)(i:Nat)(x y:Bool):∀k,k<=ws.length->jlW (leftN ws i x y k)<=jlW (ws.take k)
 |0,_=>Zv _
 |k+1,h=>by
  have a:=d3c ws i x y k (by omega);rw[leftN,e1n,Yl (show k<ws.length by omega),e1n];have:jlW (if(k=i/\x=true)\/(k=i+1/\y=true)then[]else[ws.getD k default])<=jlW [ws[k]]:=by
   split
   ·exact Zv _
   ·rw[Zc,Zg (show k<ws.length by omega)];exact Zd _
  omega
theorem e5c{ws:List W8}{i k:Nat}{x y:Bool}(h:(joinB 32 ws).length<=1048576)(a:k=ws.length):(joinB 32 (leftN ws i x y k)).length<=1048576:=by
 subst a;have:=d3c ws i x y ws.length (Zd _);rw[Yo]at this;rw[d5q]at h|-;omega
end Go.Mv
namespace Go.Mv
theorem c0w{ws ls:List W8}{i k:Nat}{x y:Bool}(a:ls=leftN ws i x y k)(h:¬((k=i/\x=true)\/(k=i+1/\y=true))):ls++[ws.getD k default]=leftN ws i x y (k+1):=by rw[leftN,if_neg h,a]
theorem c6o{ws ls:List W8}{i k:Nat}{x y:Bool}(a:ls=leftN ws i x y k)(h:(k=i/\x=true)\/(k=i+1/\y=true)):ls=leftN ws i x y (k+1):=by rw[leftN,if_pos h,a,Zm]
end Go.Mv
namespace Go.Mv
theorem d7f{t:Pl}(h:t.wf):(N6 (splitB 32 (showP t))).map (joinB 32)=(oneP t).map showP:=by
 rw[a3l (a4e h),d3u h,List.map_map];rfl
theorem c1w{t:Pl}(h:t.wf):(splitB 32 (showP t)).length=t.sz:=by rw[a3l (a4e h),a3f]
theorem f3s{t:Pl}(h:t.good):vd t.ns=true:=by
 cases t with
 |lst ns=>exact h
 |_=>rfl
def kAt(a:List Stp)(k:Int)(i:Nat):Int:=k+(((a.take i).map fun s=>3+s.ns.length).sum:Nat)
def f7j(q:Int)(n:Nat):Stp:=⟨bA (mT q),q+1,q+1+1,mkI (q+1+1+1) n⟩
def f6m(a:List Stp)(k:Int):List Stp:=(Yb a.length).map fun i=>f7j (kAt a k i) (a.getD i default).ns.length
@[simp] theorem mkSt_length(a:List Stp)(k:Int):(f6m a k).length=a.length:=by simp[f6m]
end Go.Mv
namespace Go.Mv
end Go.Mv
namespace Go.Mv
theorem b8i(ns:List Int):trK (.lst ns)= .agg [tV lW,.list (ns.map iV),.list (([]:List Pl).map trV)]:=rfl
theorem b8k(w:W8):trK (.col w)= .agg [tV w,.list (([]:List Int).map iV),.list (([]:List Pl).map trV)]:=rfl
theorem d0f(w:W8)(p:Pl):trK (.un w p)= .agg [tV w,.list (([]:List Int).map iV),.list ([p].map trV)]:=rfl
theorem b7z(w:W8)(p q:Pl):trK (.bin w p q)= .agg [tV w,.list (([]:List Int).map iV),.list ([p,q].map trV)]:=rfl
abbrev lF(l:List Int):AV:= .list (l.map iV)
end Go.Mv
namespace Go.Mv
deriving instance DecidableEq for Pl
structure ClQ(P:List Pl):Prop where
 nd:P.Nodup
 good:∀t∈P,t.good
 kids:∀A t B,P=A++t::B->∀k∈t.kids,k∈A
theorem ClQ.nil:ClQ []:=⟨List.nodup_nil,(fun _ h=>by cases h),(fun A t B h=>by cases A<;>cases h)⟩
def ixQ(t:Pl):List Pl->Nat
 |[]=>0
 |x::r=>if x=t then 0 else ixQ t r+1
def f6o(P:List Pl)(t:Pl)(k:Nat):Int:=if k<t.kids.length then(ixQ (t.kids.getD k default) P:Int)else-1
def f7d(P:List Pl)(t:Pl):Stp:=f7k t (f6o P t 0) (f6o P t 1)
def enc(P:List Pl):List Stp:=P.map (f7d P)
def runP(a:List (List Int)):Pl->Option (List Int)
 | .lst ns=>some ns
 | .col w=>some (a.getD (f0p (bA w)) default)
 | .un w p=>(runP a p).bind fun x=>mkR (bA w) x []
 | .bin w p q=>(runP a p).bind fun x=>(runP a q).bind fun y=>mkR (bA w) x y
theorem a8c{a:List (List Int)}(g:vcs a=true):∀{t:Pl} {r:List Int},t.good->runP a t=some r->vl r=true
 | .lst ns,r,i,h=>by cases h;exact b9q i
 | .col w,r,_,h=>by cases h;exact f1x g _
 | .un w p,r,_,h=>by
  obtain⟨x,_,c⟩:=Za.1 h;exact b3d c
 | .bin w p q,r,_,h=>by
  obtain⟨x,_,c⟩:=Za.1 h;obtain⟨y,_,e⟩:=Za.1 c;exact b3d e
def runT(a:List (List Int))(s:W8):Option (List Int):=if vcs a=true then(rdPlan s).bind (runP a)else none
theorem a9k{a:List (List Int)}{s:W8}{t:Pl}(c:vcs a=true)(h:rdPlan s=some t):runT a s=runP a t:=by rw[runT,if_pos c,h];rfl
theorem b8r{a:List (List Int)}{s:W8}(h:(rdPlan s).isSome=false\/vcs a=false):runT a s=none:=by
 rw[runT];rcases h with h|h
 ·cases e:rdPlan s with
  |none=>split<;>rfl
  |some t=>rw[e]at h;cases h
 ·rw[h];rfl
def foldP:Pl->Pl
 | .lst ns=> .lst ns
 | .col w=> .col w
 | .un w p=>match foldP p with
  | .lst ns=>match mkR (bA w) ns []with
   |some r=>if vd r=true then .lst r else .un w (.lst ns)
   |none=> .un w (.lst ns)
  |k=> .un w k
 | .bin w p q=>match foldP p,foldP q with
  | .lst ns,.lst ms=>match mkR (bA w) ns ms with
   |some r=>if vd r=true then .lst r else .bin w (.lst ns) (.lst ms)
   |none=> .bin w (.lst ns) (.lst ms)
  |k,l=> .bin w k l
theorem b8o(w:W8)(p:Pl):foldP (.un w p)= .un w (foldP p)\/∃ns r,foldP p= .lst ns/\mkR (bA w) ns []=some r/\vd r=true/\foldP (.un w p)= .lst r:=by
 simp only[foldP];split
 ·split
  ·split
   ·rename_i _ ns e _ r h a;exact .inr ⟨ns,r,e,h,a,U⟩
   ·rename_i _ ns e _ r h a;exact .inl (by rw[e])
  ·rename_i _ ns e _ h;exact .inl (by rw[e])
 ·exact .inl U
theorem b2a(w:W8)(p q:Pl):foldP (.bin w p q)= .bin w (foldP p) (foldP q)\/∃ns ms r,foldP p= .lst ns/\foldP q= .lst ms/\mkR (bA w) ns ms=some r/\vd r=true/\foldP (.bin w p q)= .lst r:=by
 simp only[foldP];split
 ·split
  ·split
   ·rename_i _ _ ns ms a c _ r h e;exact .inr ⟨ns,ms,r,a,c,h,e,U⟩
   ·rename_i _ _ ns ms a c _ r h e;exact .inl (by rw[a,c])
  ·rename_i _ _ ns ms a c _ h;exact .inl (by rw[a,c])
 ·exact .inl U
theorem b2n:∀t:Pl,t.wf->(foldP t).wf
 | .lst _,h=>h
 | .col _,h=>h
 | .un w p,h=>by
  rcases b8o w p with e|⟨ns,r,_,_,_,e⟩
  ·rw[e];exact⟨h.1,b2n p h.2⟩
  ·rw[e];exact trivial
 | .bin w p q,h=>by
  rcases b2a w p q with e|⟨ns,ms,r,_,_,_,_,e⟩
  ·rw[e];exact⟨h.1,b2n p h.2.1,b2n q h.2.2⟩
  ·rw[e];exact trivial
theorem S7:∀t:Pl,t.good->(foldP t).good
 | .lst _,h=>h
 | .col _,h=>h
 | .un w p,h=>by
  rcases b8o w p with e|⟨ns,r,_,_,a,e⟩
  ·rw[e];exact⟨h.1,h.2.1,S7 p h.2.2⟩
  ·rw[e];exact a
 | .bin w p q,h=>by
  rcases b2a w p q with e|⟨ns,ms,r,_,_,_,a,e⟩
  ·rw[e];exact⟨h.1,h.2.1,S7 p h.2.2.1,S7 q h.2.2.2⟩
  ·rw[e];exact a
theorem b2e:∀t:Pl,(foldP t).sz<t.sz\/foldP t=t
 | .lst _=> .inr U
 | .col _=> .inr U
 | .un w p=>by
  have c:=b2e p;have:=b4o p;rcases b8o w p with e|⟨ns,r,_,_,_,e⟩
  ·rw[e]
   rcases c with c|c
   ·left;simp only[Pl.sz];omega
   ·right;rw[c]
  ·rw[e];left;simp only[Pl.sz];omega
 | .bin w p q=>by
  have c:=b2e p;have a:=b2e q;have:=b4o p;have:=b4o q;rcases b2a w p q with e|⟨ns,ms,r,_,_,_,_,e⟩
  ·rw[e]
   rcases c with c|c
   ·left
    rcases a with a|a
    ·simp only[Pl.sz];omega
    ·rw[a];simp only[Pl.sz];omega
   ·rcases a with a|a
    ·left;rw[c];simp only[Pl.sz];omega
    ·right;rw[c,a]
  ·rw[e];left;simp only[Pl.sz];omega
theorem c1a{t:Pl}(hw:t.wf):(normP t).sz<t.sz\/normP t=t:=by
 cases e:oneP t with
 |nil=>exact .inr (a1v e)
 |cons u l=>exact .inl (f1d hw e)
def stepB(t:Pl):Pl:=foldP (normP t)
def b2p:Nat->Pl->Pl
 |0,t=>t
 |n+1,t=>if stepB t=t then t else b2p n (stepB t)
def a7h(t:Pl):Pl:=b2p t.sz t
theorem a7c{t:Pl}(h:t.wf):(stepB t).wf:=b2n _ (c9h h)
theorem b1d{t:Pl}(h:t.wf)(a:t.good):(stepB t).good:=S7 _ (b3m h a)
theorem a8s{t:Pl}(h:t.wf):(stepB t).sz<t.sz\/normP t=t/\foldP t=t:=by
 have a:=b2e (normP t);unfold stepB;rcases c1a h with c|c
 ·left
  rcases a with a|a
  ·omega
  ·rw[a];exact c
 ·rw[c]at a|-
  rcases a with a|a
  ·exact .inl a
  ·exact .inr ⟨U,a⟩
theorem a7a{t:Pl}(h:normP t=t/\foldP t=t):stepB t=t:=by unfold stepB;rw[h.1,h.2]
theorem b8f{R:Pl->Prop}(c:∀t,t.wf->R t->R (stepB t)):∀(n:Nat) (t:Pl),t.sz<=n->t.wf->R t->R (b2p n t)/\(b2p n t).wf/\(b2p n t).sz<=t.sz/\stepB (b2p n t)=b2p n t
 |0,t,h,_,_=>by have:=b4o t;omega
 |n+1,t,h,hw,g=>by
  rw[b2p];by_cases e:stepB t=t
  ·rw[if_pos e];exact⟨g,hw,Zd _,e⟩
  ·rw[if_neg e]
   have i:(stepB t).sz<t.sz:=by
    rcases a8s hw with a|a
    ·exact a
    ·exact absurd (a7a a) e
   have:=b8f c n (stepB t) (by omega) (a7c hw) (c t hw g);exact⟨this.1,this.2.1,by omega,this.2.2.2⟩
theorem d4a:∀{n m:Nat} {t:Pl},t.wf->t.sz<=n->t.sz<=m->b2p n t=b2p m t
 |0,_,t,_,h,_=>by have:=b4o t;omega
 |_,0,t,_,_,h=>by have:=b4o t;omega
 |n+1,m+1,t,hw,a,c=>by
  rw[b2p,b2p];by_cases e:stepB t=t
  ·rw[if_pos e,if_pos e]
  ·rw[if_neg e,if_neg e]
   have g:(stepB t).sz<t.sz:=by
    rcases a8s hw with a|a
    ·exact a
    ·exact absurd (a7a a) e
   exact d4a (a7c hw) (by omega) (by omega)
theorem e1i{t:Pl}(h:stepB t=t):a7h t=t:=by
 unfold a7h;cases t.sz with
 |zero=>rfl
 |succ n=>rw[b2p,if_pos h]
theorem d3n{t:Pl}(hw:t.wf)(h:stepB t≠t):a7h t=a7h (stepB t):=by
 have e:(stepB t).sz<t.sz:=by
  rcases a8s hw with a|a
  ·exact a
  ·exact absurd (a7a a) h
 unfold a7h;obtain⟨k,c⟩:∃k,t.sz=k+1:=⟨t.sz-1,by omega⟩;rw[c,b2p,if_neg h];exact d4a (a7c hw) (by omega) (Zd _)
theorem c8q{t:Pl}(hw:t.wf):(a7h t).wf:=(b8f (R:=fun _=>True) (fun _ _ _=>trivial) _ t (Zd _) hw trivial).2.1
theorem e0j{t:Pl}(hw:t.wf):(a7h t).sz<=t.sz:=(b8f (R:=fun _=>True) (fun _ _ _=>trivial) _ t (Zd _) hw trivial).2.2.1
theorem c1e{t:Pl}(hw:t.wf)(e:t.good):(a7h t).good:=(b8f (R:=Pl.good) (fun _ a c=>b1d a c) _ t (Zd _) hw e).1
def c7m(s:W8):W8:=match rdPlan s with
 |some t=>showP (a7h t)
 |none=>[]
theorem a4w{s:W8}{t:Pl}(h:rdPlan s=some t):c7m s=showP (a7h t):=by rw[c7m,h]
theorem b3r{s:W8}(h:(rdPlan s).isSome=false):c7m s=[]:=by
 cases e:rdPlan s with
 |none=>rw[c7m,e]
 |some t=>rw[e]at h;cases h
theorem c6u(t:Pl):(foldP t).sz<=t.sz:=by rcases b2e t with h|h;omega;rw[h];exact Zd _
section
variable{C:Caller}{A:Asr}{fs fs':List AV}{lf:List Mv.Loc}
theorem a1u{es:List AV}(t:Y5 C A fs fs' lf):Y5 C A (.list es::fs) (.list es::fs') lf:=by
 unfold Y5 at t|-;simp only[passLeaves,passLeaf,E4,F3];refine N5 ?_ t;rintro x l ⟨rfl,rfl⟩;exact⟨U,by simp⟩
theorem e8k{md:Nat}(a:md≠3)(c:Y5 C A fs fs' lf):L9 C A md (.agg fs) (.agg fs') (slIds false fs) [] lf:=by
 unfold Y5 at c;unfold L9 a3k;simp only[a,if_false];refine A5 (I7 (N5 ?_ c));rintro x l ⟨rfl,rfl⟩;exact C3 ⟨U,U,by simp⟩
end
theorem d6r{ns:List Int}(h:vd ns=true):(S3 ns).length<=100:=by
 have a:=U5 (e2a h);have c:=a4r h;simp only[S3,Ze,Zf,Zo];omega
theorem V9:∀{t:Pl},t.wf->t.good->(showP t).length<=100*t.sz
 | .lst ns,_,a=>by rw[e8v];simp only[Pl.sz];exact d6r a
 | .col w,hw,_=>by
  have h:=(b2t (w:=w) (by have c:rch (bA w)=0:=hw;omega)).2.2.2.1;show w.length<=_;simp only[Pl.sz];omega
 | .un w p,hw,a=>by
  have h:=(b2t (w:=w) (by have c:=hw.1;omega)).2.2.2.1;have e:=V9 hw.2 a.2.2;rw[b1l];simp only[Pl.sz,Zf,Ze,Zo];omega
 | .bin w p q,hw,a=>by
  have h:=(b2t (w:=w) (by have c:=hw.1;omega)).2.2.2.1;have e:=V9 hw.2.1 a.2.2.1;have g:=V9 hw.2.2 a.2.2.2;rw[a7z];simp only[Pl.sz,Zf,Ze,Zo];omega
theorem f1l{t:Pl}(hw:t.wf)(e:t.good)(l:t.sz<=16):ipT (showP t)=t/\d5m (showP t)=true:=by
 have i:=a3l (a4e hw);have h:=a5a t (wordsP t).length [] hw e (by rw[a3f];exact Zd _);rw[Zm]at h;have g:rdT (wordsP t)=some (t,[]):=h;obtain⟨a,c⟩:=c8h i.symm g;refine⟨a,c.trans ?_⟩;rw[a3f];simp;omega
theorem c6n{w:W8}{p:Pl}(h:∀ns,foldP p≠.lst ns):foldP (.un w p)= .un w (foldP p):=by
 rcases b8o w p with e|⟨ns,r,e,_⟩
 ·exact e
 ·exact absurd e (h ns)
theorem a6l{w:W8}{p q:Pl}(h:(∀ns,foldP p≠.lst ns)\/∀ns,foldP q≠.lst ns):foldP (.bin w p q)= .bin w (foldP p) (foldP q):=by
 rcases b2a w p q with e|⟨ns,ms,r,a,c,_⟩
 ·exact e
 ·rcases h with h|h
  ·exact absurd a (h ns)
  ·exact absurd c (h ms)
theorem c6h{w:W8}{p:Pl}{ns r:List Int}(h:foldP p= .lst ns)(a:mkR (bA w) ns []=some r)(c:vd r=true):foldP (.un w p)= .lst r:=by
 simp only[foldP,h,a,c,if_true]
theorem a9m{w:W8}{p:Pl}{ns:List Int}(h:foldP p= .lst ns)(a:mkR (bA w) ns []=none\/∃r,mkR (bA w) ns []=some r/\vd r=false):foldP (.un w p)= .un w (.lst ns):=by
 rcases a with a|⟨r,a,c⟩
 ·simp only[foldP,h,a]
 ·simp only[foldP,h,a,c,ZZ,if_false]
theorem c1h{w:W8}{p q:Pl}{ns ms r:List Int}(h:foldP p= .lst ns)(a:foldP q= .lst ms)(c:mkR (bA w) ns ms=some r)(e:vd r=true):foldP (.bin w p q)= .lst r:=by
 simp only[foldP,h,a,c,e,if_true]
theorem a5x{w:W8}{p q:Pl}{ns ms:List Int}(h:foldP p= .lst ns)(c:foldP q= .lst ms)(a:mkR (bA w) ns ms=none\/∃r,mkR (bA w) ns ms=some r/\vd r=false):foldP (.bin w p q)= .bin w (.lst ns) (.lst ms):=by
 rcases a with a|⟨r,a,e⟩
 ·simp only[foldP,h,c,a]
 ·simp only[foldP,h,c,a,e,ZZ,if_false]
end Go.Mv
end
section
namespace Go.Mv
namespace Gp
def cnt:Nat->(List Bool->Bool)->Nat
 |0,p=>if p []then 1 else 0
 |N+1,p=>cnt N (fun r=>p (false::r))+cnt N fun r=>p (true::r)
def rowS(N s:Nat):List Bool:=(Yb N).map fun i=>s.testBit i
theorem rowS_len(N s:Nat):(rowS N s).length=N:=by simp[rowS]
theorem c6f(N s:Nat):rowS (N+1) s=decide (s%2=1)::rowS N (s/2):=by
 unfold rowS;rw[List.range_succ_eq_map,Zz,List.map_map];congr 1
 ·exact Nat.testBit_zero ..
 ·refine List.map_congr_left fun i _=> ?_
  exact Nat.testBit_succ ..
def cntS(N S:Nat)(p:List Bool->Bool):Nat:=(Yb S).countP fun s=>p (rowS N s)
theorem e5f(N:Nat)(p:List Bool->Bool):cntS N 0 p=0:=rfl
theorem cntS_succ(N S:Nat)(p:List Bool->Bool):cntS N (S+1) p=cntS N S p+if p (rowS N S)=true then 1 else 0:=by
 unfold cntS;rw[YS,YP,List.countP_cons,List.countP_nil,ZL]
theorem d4c(N:Nat)(p:List Bool->Bool):∀S,cntS (N+1) (2*S) p=cntS N S (fun r=>p (false::r))+cntS N S fun r=>p (true::r)
 |0=>rfl
 |S+1=>by
  have e:2*(S+1)=2*S+1+1:=by omega
  rw[e,cntS_succ,cntS_succ,d4c N p S,cntS_succ,cntS_succ,c6f,c6f];rw[show(2*S)%2=0 by omega,show(2*S+1)%2=1 by omega,show 2*S/2=S by omega,show(2*S+1)/2=S by omega];have d0:decide ((0:Nat)=1)=false:=rfl;have d1:decide ((1:Nat)=1)=true:=rfl;rw[d0,d1];omega
theorem cnt_S:∀(N:Nat) (p:List Bool->Bool),cntS N (2^N) p=cnt N p
 |0,p=>by
  rw[Nat.pow_zero,cntS_succ,e5f,cnt,ZL];rfl
 |N+1,p=>by
  rw[Nat.pow_succ,Nat.mul_comm,d4c,cnt_S N,cnt_S N,cnt]
def ap(m n:Nat)(i k:Nat):Nat:=((i:Int)*n-(k:Int)*m).natAbs
def f6l(m n:Nat):Nat->Nat->List Bool->Nat
 |_,_,[]=>0
 |i,k,true::r=>max (ap m n (i+1) k) (f6l m n (i+1) k r)
 |i,k,false::r=>max (ap m n i (k+1)) (f6l m n i (k+1) r)
def bin:Nat->Nat->Nat
 |0,0=>1
 |0,_+1=>0
 |N+1,0=>bin N 0
 |N+1,k+1=>bin N (k+1)+bin N k
end Gp
def mS(l:List Int)(i k:Nat):Int:=((l.drop i).take (k+1-i)).sum
def mq(l:List Int)(i k:Nat):Rat:=Rat.divInt (mS l i k) ((k+1-i:Nat):Int)
theorem e1k{l:List Int}{i x:Nat}(a:i<=x)(c:x<l.length):((l.drop i).take (x+1-i)).sum=((l.drop i).take (x-i)).sum+l.getD x default:=by
 rw[show x+1-i=x-i+1 by omega,P9 (by rw[Yp];omega),List.sum_append,c5z,show i+(x-i)=x by omega];simp
theorem e0e{b:Int}:∀(l:List Int),(∀x∈l,-b<=x/\x<=b)->-(b*l.length)<=l.sum/\l.sum<=b*l.length
 |[],_=>by simp
 |x::l,h=>by
  have c:=h x (Zr ..);have e:=e0e l fun y a=>h y (Zn _ a)
  simp only[List.sum_cons,Ze,Int.natCast_add,Int.natCast_one,Int.mul_add,Int.mul_one];omega
theorem e6p{l:List Int}(e:l.length<=8)(a:∀x∈l,-30<=x/\x<=30)(i n:Nat): -240<=((l.drop i).take n).sum/\((l.drop i).take n).sum<=240:=by
 have h:=e0e (b:=30) ((l.drop i).take n) fun x c=>a x (Yw (ZV c))
 have:((l.drop i).take n).length<=8:=by simp only[ZH,Yp];omega
 omega
theorem d5v{l:List Int}(c:l.length<=8)(a:∀x∈l,-30<=x/\x<=30){i k:Nat}(h:i<=k/\k<l.length):Sm 1000 (mq l i k):=by
 have:=e6p c a i (k+1-i);exact Sm.fr (by omega) (by unfold mS;omega) (by omega)
def pop(l:List Int)(k:Nat):List Nat->List Nat
 |a::b::r=>if mq l b (a-1)<mq l a k then a::b::r else pop l k (b::r)
 |s=>s
def poolN(l:List Int):Nat->List Nat
 |0=>[]
 |k+1=>pop l k (k::poolN l k)
def Stk(n:Nat)(st:List Nat):Prop:=st.Pairwise (· > ·)/\(∀x∈st,x<n)/\(st≠[]->st.getLast? =some 0)
theorem Stk.push{n:Nat}{st:List Nat}(h:Stk n st)(l:st=[]->n=0):Stk (n+1) (n::st):=by
 obtain⟨g,e,i⟩:=h;refine⟨YE.2 ⟨fun x c=>e x c,g⟩,fun x c=> ?_,fun _=> ?_⟩
 ·rcases ZM.1 c with rfl|c
  ·omega
  ·have:=e x c;omega
 ·cases st with
  |nil=>rw[l U];rfl
  |cons a r=>rw[XU];exact i (by simp)
theorem Stk.tail{n a b:Nat}{r:List Nat}(h:Stk n (a::b::r)):Stk n (b::r):=by
 obtain⟨c,e,g⟩:=h;refine⟨(YE.1 c).2,fun x i=>e x (Zn _ i),fun _=> ?_⟩;have:=g (by simp);rwa[XU]at this
theorem e2j{l:List Int}{k n:Nat}:∀(st:List Nat),Stk n st->Stk n (pop l k st)/\(st≠[]->pop l k st≠[])
 |[],h=>⟨h,fun h=>h⟩
 |[a],h=>⟨h,fun h=>h⟩
 |a::b::r,h=>by
  rw[pop];split
  ·exact⟨h,fun h=>h⟩
  ·have:=e2j (l:=l) (k:=k) (b::r) h.tail
   exact⟨this.1,fun _=>this.2 (by simp)⟩
theorem a5b(l:List Int):∀n,Stk n (poolN l n)/\(poolN l n=[]->n=0)
 |0=>⟨⟨.nil,fun x e=>(by cases e),fun h=>(h U).elim⟩,fun _=>U⟩
 |n+1=>by
  obtain⟨a,c⟩:=a5b l n;have:=e2j (l:=l) (k:=n) _ (a.push c);exact⟨this.1,fun h=>(this.2 (by simp) h).elim⟩
def e3z(l:List Int)(k:Nat)(st:List Nat):Prop:=2<=st.length/\¬mq l (st.getD 1 default) (st.getD 0 default-1)<mq l (st.getD 0 default) k
theorem e1q{l:List Int}{k:Nat}{st:List Nat}(h:e3z l k st):pop l k st=pop l k st.tail:=by
 match st,h with
 |a::b::r,h=>
  have c:¬mq l b (a-1)<mq l a k:=h.2;rw[pop,if_neg c];rfl
 |[a],h=>exact absurd h.1 (by simp)
 |[],h=>exact absurd h.1 (by simp)
theorem c9o{l:List Int}{k:Nat}{st:List Nat}(h:¬e3z l k st):pop l k st=st:=by
 match st with
 |a::b::r=>
  rw[pop,if_pos];exact Decidable.byContradiction fun c=>h ⟨by simp,c⟩
 |[a]=>rfl
 |[]=>rfl
def goO(st:List Nat):List Int:=st.reverse.map Int.ofNat
@[simp] theorem M8(st:List Nat):(goO st).length=st.length:=by simp[goO]
theorem d3v(k:Nat)(st:List Nat):goO st++[(k:Int)]=goO (k::st):=by simp[goO]
theorem f2o{a:Nat}{st:List Nat}:(goO (a::st)).take st.length=goO st:=by
 simp only[goO,List.reverse_cons,Yi,Zz,Ya];rw[Xf (by simp),ZB (by simp)]
theorem d5g{st:List Nat}(h:st≠[]):(goO st).take (st.length-1)=goO st.tail:=by
 cases st with
 |nil=>exact(h U).elim
 |cons a r=>exact f2o
theorem a9i{st:List Nat}{j:Nat}(h:j<st.length):(goO st).getD (st.length-1-j) default=((st.getD j default:Nat):Int):=by
 unfold goO;rw[Zc,ZE,List.getElem?_reverse (by omega),show st.length-1-(st.length-1-j)=j by omega,Zg h,Zc,Zg h]
 rfl
def nxt(a:List Nat)(n j:Nat):Nat:=if j+1<a.length then a.getD (j+1) default else n
def blk(l:List Int)(a:List Nat)(j:Nat):List Rat:=ZP (nxt a l.length j-a.getD j default) (mq l (a.getD j default) (nxt a l.length j-1))
def spr(l:List Int)(a:List Nat)(j:Nat):List Rat:=(Yb j).flatMap (blk l a)
theorem a7r(l:List Int)(a:List Nat)(j:Nat):spr l a (j+1)=spr l a j++blk l a j:=by
 unfold spr;rw[YS,List.flatMap_append];simp
def Ris(n:Nat)(a:List Nat):Prop:=0<a.length/\a.getD 0 default=0/\(∀j,j<a.length->a.getD j default<nxt a n j/\nxt a n j<=n)
theorem c9w{α:Type}[Inhabited α]{R:α->α->Prop}{l:List α}(h:l.Pairwise R){i j:Nat}(a:i<j)(c:j<l.length):R (l.getD i default) (l.getD j default):=by
 rw[Zc,Zc,Zg (by omega),Zg c];exact Xk.1 h i j (by omega) c a
theorem f5k{n:Nat}{st:List Nat}(h:Stk n st)(a:st≠[]):Ris n st.reverse:=by
 obtain⟨l,o,p⟩:=h;have s:st.reverse.Pairwise (· < ·):=by rw[List.pairwise_reverse];exact l
 have g:=p a;refine⟨by rw[List.length_reverse];exact List.length_pos_iff.2 a,?_,fun j q=> ?_⟩
 ·rw[Zc,<-List.head?_eq_getElem?,List.head?_reverse,g];rfl
 ·have c:∀i,i<st.reverse.length->st.reverse.getD i default<n:=fun i e=>o _ (List.mem_reverse.1 (by rw[Zc,Zg e];exact List.getElem_mem e))
  unfold nxt;split
  ·rename_i h
   exact⟨c9w s (ZJ j) h,by have:=c _ h;omega⟩
  ·exact⟨c j q,Zd n⟩
theorem b1f{l:List Int}{a:List Nat}(h:Ris l.length a):∀j,j<a.length->(spr l a j).length=a.getD j default
 |0,_=>by rw[h.2.1];rfl
 |j+1,c=>by
  have:=h.2.2 j (by omega);rw[a7r,Zf,b1f h j (by omega),blk,Xa];have e:nxt a l.length j=a.getD (j+1) default:=by unfold nxt;rw[if_pos c]
  omega
theorem d0q{l:List Int}{a:List Nat}(h:Ris l.length a):(spr l a a.length).length=l.length:=by
 obtain⟨m,hm⟩:∃m,a.length=m+1:=⟨a.length-1,by have:=h.1;omega⟩;have c:=h.2.2 m (by omega);rw[hm,a7r,Zf,b1f h m (by omega),blk,Xa];have e:nxt a l.length m=l.length:=by unfold nxt;rw[if_neg (by omega)]
 omega
def vlo(l:List Int):Bool:=decide (1<=l.length)&&decide (l.length<=8)&&a1c (-30) 30 l
theorem a6p{l:List Int}:vlo l=true↔(1<=l.length/\l.length<=8)/\∀x∈l,-30<=x/\x<=30:=by simp[vlo,a1c]
def bsR(l:List Int):List Nat:=(poolN l l.length).reverse
def riseQ(l:List Int):List Rat:=if vlo l=true then spr l (bsR l) (bsR l).length else[]
theorem b8d{l:List Int}(h:vlo l=true):Ris l.length (bsR l):=by
 obtain⟨a,c⟩:=a5b l l.length;exact f5k a fun e=>by have:=c e;have:=(a6p.1 h).1;omega
theorem c5v{l:List Int}(h:vlo l=true):(riseQ l).length=l.length:=by
 rw[riseQ,if_pos h,d0q (b8d h)]
theorem b2d{l:List Int}(h:¬vlo l=true):riseQ l=[]:=if_neg h
theorem e7b{l:List Int}:∀q∈riseQ l,Sm 1000 q:=by
 intro q hq;rw[riseQ]at hq;split at hq
 ·rename_i h
  obtain⟨c,e⟩:=a6p.1 h;have g:=b8d h;unfold spr at hq;obtain⟨j,a,hq⟩:=List.mem_flatMap.1 hq;have a:=g.2.2 j (List.mem_range.1 a);rw[blk,List.mem_replicate]at hq;rw[hq.2];exact d5v c.2 e (by omega)
 ·cases hq
def sg:List Int->List Bool->Int
 |v::l,b::r=>(if b=true then-v else v)+sg l r
 |_,_=>0
def flN:List Int->Int->Nat
 |[],s=>if s<=0 then 1 else 0
 |v::l,s=>flN l (s-v)+flN l (s+v)
theorem d0j:∀(l:List Int) (s:Int),flN l s=Gp.cnt l.length fun r=>decide (s<=sg l r)
 |[],s=>by
  rw[flN,Zo,Gp.cnt];by_cases h:s<=0
  ·rw[if_pos h,if_pos (show decide (s<=sg [] [])=true from decide_eq_true h)]
  ·rw[if_neg h,if_neg (fun e=>h (of_decide_eq_true (p:=s<=sg [] []) e))]
 |v::l,s=>by
  rw[flN,d0j l,d0j l,Ze,Gp.cnt];congr 1
  ·congr 1;funext r
   simp only[sg,ZZ,if_false];exact decide_eq_decide.2 (by omega)
  ·congr 1;funext r
   simp only[sg,if_true];exact decide_eq_decide.2 (by omega)
theorem d0b:∀(l:List Int) (s:Int),flN l s<=2^l.length
 |[],s=>by rw[flN];split<;>simp
 |v::l,s=>by
  have a:=d0b l (s-v);have c:=d0b l (s+v);rw[flN,Ze,Nat.pow_succ];omega
theorem f0j:∀(l:List Int) (r:List Bool) (v:Int) (b:Bool),l.length=r.length->sg (l++[v]) (r++[b])=sg l r+if b=true then-v else v
 |[],[],v,b,_=>by simp[sg]
 |x::l,c::r,v,b,h=>by
  have:=f0j l r v b (by simpa using h);simp only[Zp,sg,this];omega
 |[],_::_,_,_,h=>absurd h (by simp)
 |_::_,[],_,_,h=>absurd h (by simp)
def sgP(l:List Int)(S i:Nat):Int:=sg (l.take i) (Gp.rowS i S)
theorem e6i(l:List Int)(S:Nat):sgP l S 0=0:=rfl
theorem c1x{l:List Int}{S i:Nat}(h:i<l.length):sgP l S (i+1)=sgP l S i+if S.testBit i=true then-(l.getD i default)else l.getD i default:=by
 unfold sgP;rw[P9 h,show Gp.rowS (i+1) S=Gp.rowS i S++[S.testBit i] by unfold Gp.rowS;rw[YS,Yi];rfl,f0j _ _ _ _ (by rw[ZH,Gp.rowS_len];omega)]
theorem e8d{l:List Int}{S:Nat}(a:∀i,i<l.length->-200<=l.getD i default/\l.getD i default<=200):∀i,i<=l.length->-(200*(i:Int))<=sgP l S i/\sgP l S i<=200*(i:Int)
 |0,_=>by rw[e6i];simp
 |i+1,h=>by
  have c:=e8d (S:=S) a i (by omega);have e:=a i (by omega);rw[c1x (by omega)];split<;>omega
def Fst(l:List Int)(S m:Nat):Prop:=m=Gp.cntS l.length S fun r=>decide (l.sum<=sg l r)
theorem e6m{l:List Int}:Fst l 0 0:=rfl
theorem f5o{l:List Int}{S m:Nat}(h:Fst l S m):m<=S:=by
 rw[h];unfold Gp.cntS;exact Yg List.countP_le_length (by simp)
theorem e0z(l:List Int)(S:Nat):sgP l S l.length=sg l (Gp.rowS l.length S):=by unfold sgP;rw[Yo]
theorem f2s{l:List Int}{S m:Nat}(h:Fst l S m)(a:l.sum<=sgP l S l.length):Fst l (S+1) (m+1):=by
 unfold Fst at h|-;rw[Gp.cntS_succ,<-h,if_pos (by rw[<-e0z];exact decide_eq_true a)]
theorem f5c{l:List Int}{S m:Nat}(h:Fst l S m)(a:¬l.sum<=sgP l S l.length):Fst l (S+1) m:=by
 unfold Fst at h|-;rw[Gp.cntS_succ,<-h,if_neg (by rw[<-e0z];simp[a])];rfl
theorem f2z{l:List Int}{S m:Nat}(h:Fst l S m)(a:S=2^l.length):m=flN l l.sum:=by
 rw[h,a,Gp.cnt_S,d0j]
def flX(l:List Int):Int×Int:=if vd l=true then((flN l l.sum:Int),((2^l.length:Nat):Int))else(-1,-1)
theorem c9b{l:List Int}(h:vd l=true):flX l=((flN l l.sum:Int),((2^l.length:Nat):Int)):=if_pos h
theorem d8d{l:List Int}(h:¬vd l=true):flX l=(-1,-1):=if_neg h
theorem f4c(S i:Nat):decide (((S/2^i%2:Nat):Int)=1)=S.testBit i:=by
 rw[Nat.testBit_eq_decide_div_mod_eq];exact decide_eq_decide.2 (by omega)
theorem f7i{S i:Nat}(h:((S/2^i%2:Nat):Int)=1):S.testBit i=true:=by rw[<-f4c];exact decide_eq_true h
theorem f7c{S i:Nat}(h:¬((S/2^i%2:Nat):Int)=1):S.testBit i=false:=by rw[<-f4c];exact decide_eq_false h
def mdI(l:List Int):Int:=(T3 l).getD ((l.length-1)/2) default+(T3 l).getD (l.length/2) default
def frT(q:Rat):W8:=if(q.den:Int)=1 then dec q.num else dec q.num++[47]++dec q.den
def frsT(qs:List Rat):W8:=joinB 44 (qs.map frT)
def slT(p:Int×Int):W8:=dec p.1++[47]++dec p.2
abbrev c5u:W8:=[115,104,111,119]
abbrev a4b:W8:=[109,105,100,100,108,101]
abbrev b9l:W8:=[114,105,115,101]
abbrev c2l:W8:=[102,108,105,112]
abbrev c6d:W8:=[100,111,119,110]
abbrev wBetter:W8:=[98,101,116,116,101,114]
abbrev wCost:W8:=[99,111,115,116]
abbrev wWhat:W8:=[119,104,97,116]
abbrev wWrong:W8:=[119,114,111,110,103]
abbrev wDone:W8:=[100,111,110,101]
noncomputable def V0(w:W8)(ns:List Int):W8×Bool:=
 if w=c5u then(P0 ns,true)
 else if w=a4b then if ns.length=0 then([],false)else(frT (Rat.divInt (mdI ns) 2),true)
 else if w=b9l then(frsT (riseQ ns),decide (0<(riseQ ns).length))
 else if w=c2l then(slT (flX ns),decide (0<(flX ns).2))
 else if w=c6d then(P0 (sdR ns),decide (0<(sdR ns).length))
 else([],false)
theorem d6u{l:List Int}(h:1<=l.length)(a:∀x∈l,-100000<=x/\x<=100000): -200000<=mdI l/\mdI l<=200000:=by
 have g:=R6 l;have c:=a _ ((T5 l).mem_iff.1 (N3 (xs:=T3 l) (i:=(l.length-1)/2) (by omega)));have e:=a _ ((T5 l).mem_iff.1 (N3 (xs:=T3 l) (i:=l.length/2) (by omega)));unfold mdI;omega
theorem b8q{q:Rat}(h:Sm 1000000 q):(frT q).length<=17:=by
 have a:=M5 (m:=q.num) ⟨h.1,h.2.1⟩;have c:=R7 q;have e:=M5 (m:=(q.den:Int)) ⟨by omega,h.2.2⟩;unfold frT;split
 ·omega
 ·simp only[Zf,Ze,Zo];omega
theorem d8j{qs:List Rat}{i:Nat}(a:i<qs.length)(c:0<i):frsT (qs.take (i+1))=frsT (qs.take i)++[44]++frT (qs.getD i default):=by
 unfold frsT;rw[P9 a,Yi,XI,b0x _ (by intro e;have:=congrArg List.length e;rw[Zi,ZH,Zo]at this;omega)];simp
theorem d7d{qs:List Rat}{i:Nat}(c:i<qs.length)(a:i=0):frsT (qs.take (i+1))=frsT (qs.take i)++frT (qs.getD i default):=by
 subst a;unfold frsT;rw[P9 c]
 rfl
theorem b9c{qs:List Rat}:(∀q∈qs,Sm 1000000 q)->(frsT qs).length<=18*qs.length:=by
 induction qs with
 |nil=>intro _;exact Zv _
 |cons q r e=>
  intro h;have g:=b8q (h q (Zr ..));have a:=e fun x c=>h x (Zn _ c)
  unfold frsT at a|-;rw[Zz];rcases r with _|⟨i,r⟩
  ·simp only[Ya,joinB,Ze,Zo];omega
  ·rw[Q2 (by simp)]
   simp only[Zf,Ze]at a|-;omega
def kdC(c:UInt8)(l:W8):W8:=l.takeWhile fun b=>decide (b≠c)
def rsC(c:UInt8)(l:W8):W8:=l.drop ((kdC c l).length+1)
abbrev kdL(l:W8):W8:=kdC 32 l
abbrev rsL(l:W8):W8:=rsC 32 l
theorem d8p(c:UInt8)(l:W8):(kdC c l).length<=l.length:=by
 unfold kdC;exact(List.takeWhile_prefix _).length_le
theorem e9g(c:UInt8)(l:W8):(rsC c l).length<=l.length:=by unfold rsC;rw[Yp];omega
theorem e9b{c:UInt8}:∀{l:W8} {k:Nat},k<=l.length->(∀j,j<k->l.getD j 0≠c)->(k=l.length\/l.getD k 0=c)->kdC c l=l.take k
 |[],k,h,_,_=>by rw[List.take_nil];rfl
 |b::l,0,_,_,h=>by
  have a:b=c:=h.resolve_left (by simp);rw[kdC,List.takeWhile_cons,if_neg (by simp[a])];rfl
 |b::l,k+1,i,e,n=>by
  have a:b≠c:=e 0 (Nat.zero_lt_succ _);have g:=e9b (l:=l) (k:=k) (by simpa using i) (fun j o=>e (j+1) (Nat.succ_lt_succ o)) (n.imp (fun h=>by simpa using h) fun h=>h);unfold kdC at g;rw[kdC,List.takeWhile_cons,if_pos (by simp[a]),g];rfl
def c6t:List W8:=[[97],[98],[99],[100],wBetter,wCost,c5u,a4b,b9l,c2l,c6d]
def inW(w:W8):Bool:=c6t.any fun v=>decide (w=v)
noncomputable def deskL(C:List (List Int))(l:W8):W8×List (List Int):=
 if(kdL l).length<l.length/\inW (kdL l)=true then
  if(rdPlan (rsL l)).isSome=true then
   if kdL l=wBetter then(c7m (rsL l),C)
   else if kdL l=wCost then(dec (b0e (rsL l)),C)
   else match runT C (rsL l)with
    |none=>(wWrong,C)
    |some ns=>if(kdL l).length=1 then if vd ns=true then(wDone,C.set (((kdL l).getD 0 0).toNat-97) ns)else(wWrong,C)
     else if(V0 (kdL l) ns).2=true then((V0 (kdL l) ns).1,C)else(wWrong,C)
  else(wWrong,C)
 else(wWhat,C)
noncomputable def W9:List (List Int)->List W8->W8
 |_,[]=>[]
 |C,l::ls=>(deskL C l).1++[10]++W9 (deskL C l).2 ls
noncomputable def deskT(ls:List W8):W8:=if ls.length<=20 then W9 [[],[],[],[]] ls else[]
theorem d2l(n:Nat):(n:Int).tdiv 2=((n/2:Nat):Int):=by rw[show(2:Int)=((2:Nat):Int)from rfl,<-Int.ofNat_tdiv]
def V6(n:Nat):List Int:=ZP n 1
@[simp] theorem P8(n:Nat):(V6 n).length=n:=by simp[V6]
theorem a4v{n i:Nat}(h:i<n):(V6 n).getD i default=1:=by
 unfold V6;rw[Zc,List.getElem?_replicate,if_pos h];rfl
theorem e5t(n:Nat):V6 n++[1]=V6 (n+1):=by simp[V6,List.replicate_succ']
theorem e1b{n:Nat}{st:List Nat}(h:Stk n st)(c:2<=st.length):st.getD 1 default<st.getD 0 default/\st.getD 0 default<n:=by
 match st,h,c with
 |a::b::r,h,_=>exact⟨(YE.1 h.1).1 b (Zr ..),h.2.1 a (Zr ..)⟩
 |[_],_,c=>exact absurd c (by simp)
 |[],_,c=>exact absurd c (by simp)
theorem d4n{n:Nat}{st:List Nat}(h:Stk n st)(c:2<=st.length):Stk n st.tail/\st.tail≠[]:=by
 match st,h,c with
 |a::b::r,h,_=>exact⟨h.tail,by simp⟩
 |[_],_,c=>exact absurd c (by simp)
 |[],_,c=>exact absurd c (by simp)
theorem d3s{l:List Int}{k:Nat}{st:List Nat}(h:st=poolN l k):pop l k (k::st)=poolN l (k+1)/\Stk (k+1) (k::st)/\(k::st)≠[]:=by
 subst h;exact⟨U,(a5b l k).1.push (a5b l k).2,by simp⟩
theorem e2h{l:List Int}{k:Nat}:∀(st:List Nat),(pop l k st).length<=st.length
 |[]=>Zd _
 |[_]=>Zd _
 |a::b::r=>by
  have:=e2h (l:=l) (k:=k) (b::r);rw[pop];split
  ·exact Zd _
  ·simp only[Ze]at this|-;omega
theorem a8i(l:List Int):∀k,(poolN l k).length<=k
 |0=>Zd _
 |k+1=>by
  have c:=a8i l k;have a:=e2h (l:=l) (k:=k) (k::poolN l k);rw[poolN];simp only[Ze]at a;omega
def bsE(l:List Int):List Int:=goO (poolN l l.length)++[(l.length:Int)]
theorem d9o(l:List Int):bsE l=(bsR l).map Int.ofNat++[(l.length:Int)]:=rfl
theorem b8n{l:List Int}{j:Nat}(h:j<(bsR l).length):(bsE l).getD j default=(((bsR l).getD j default:Nat):Int):=by
 rw[d9o,Zc,List.getElem?_append_left (by simpa using h),ZE,Zc,Zg h];rfl
theorem e1s{l:List Int}{j:Nat}(h:j<(bsR l).length):(bsE l).getD (j+1) default=((nxt (bsR l) l.length j:Nat):Int):=by
 unfold nxt;split
 ·rename_i a;exact b8n a
 ·rename_i a
  rw[d9o,Zc,Yn (by simp;omega),show j+1-((bsR l).map Int.ofNat).length=0 by simp;omega];rfl
theorem a4f{l:List Int}{j:Nat}(h:j<(bsR l).length):((bsR l).map Int.ofNat).getD j default=(((bsR l).getD j default:Nat):Int):=by
 rw[Zc,ZE,Zc,Zg h];rfl
def prq(q:Rat):Int×Int:=(q.num,(q.den:Int))
def Lay(n:Nat)(qs:List Rat)(ps:List (Int×Int)):Prop:=qs.length<=n/\ps=qs.map prq++ZP (n-qs.length) (0,0)
theorem f0k(n:Nat):Lay n [] (ZP n (0,0)):=⟨Zv _,by simp⟩
theorem f1u{n x:Nat}{qs:List Rat}{ps:List (Int×Int)}(h:Lay n qs ps)(c:x=qs.length)(g:x<n)(q:Rat):Lay n (qs++[q]) (ps.set x (prq q)):=by
 obtain⟨e,a⟩:=h;subst c;refine⟨by simp;omega,?_⟩;obtain⟨m,hm⟩:∃m,n-qs.length=m+1:=⟨n-qs.length-1,by omega⟩;rw[a,hm,List.replicate_succ,List.set_append_right _ _ (by simp)];simp only[Zi,Nat.sub_self,List.set_cons_zero,Yi,Zz,Ya,Zf,Ym,Yq,Zp,Zj];rw[show n-(qs.length+1)=m by omega]
theorem e3g{n:Nat}{qs:List Rat}{ps:List (Int×Int)}(h:Lay n qs ps):ps.length=n:=by
 obtain⟨c,a⟩:=h;rw[a];simp;omega
theorem f1v{n:Nat}{qs:List Rat}{ps:List (Int×Int)}(h:Lay n qs ps)(a:qs.length=n):ps=qs.map prq:=by
 rw[h.2,a,Nat.sub_self];simp
theorem c9t(l:List Int)(a:List Nat)(b:Nat)(m:Rat)(x:Nat)(c:a.getD b default<=x):spr l a b++ZP (x+1-a.getD b default) m=(spr l a b++ZP (x-a.getD b default) m)++[m]:=by
 rw[show x+1-a.getD b default=x-a.getD b default+1 by omega,List.replicate_succ',Yq]
abbrev wV(n:Int):AV:= .val (.int .u64 n)
theorem e8w{n:Nat}(h:n<4294967296):IntKind.u64.wrap ((Yf IntKind.u64.bits (n:Int)&&&Yf IntKind.u64.bits 4294967295).toNat)=(n:Int):=by
 have a:(Yf 64 (n:Int)).toNat=n:=by rw[BitVec.toNat_ofInt];omega
 have c:(Yf 64 4294967295).toNat=2^32-1:=by decide
 show IntKind.u64.wrap (((Yf 64 (n:Int)&&&Yf 64 4294967295).toNat:Nat):Int)=(n:Int);rw[BitVec.toNat_and,a,c,Nat.and_two_pow_sub_one_eq_mod,Nat.mod_eq_of_lt (by omega)];show(n:Int)%18446744073709551616=n;omega
theorem d3l{n:Nat}(h:n<4294967296):(n:Int).fdiv (2^(32:Int).toNat)=0:=by
 show(n:Int).fdiv 4294967296=0;rw[XH _ (by decide)];omega
theorem a8h{n:Int}(h:0<=n/\n<=1000000):inI .u64 n:=⟨by show(0:Int)<=n;omega,by show n<=18446744073709551615;omega⟩
def Cps(n m:Nat)(xs:List Int):Prop:=m<=n/\xs=V6 m++ZP (n-m) 0
theorem e6g(n:Nat):Cps n 0 (ZP n 0):=⟨Zv _,by simp[V6]⟩
theorem e0u{n m:Nat}{xs:List Int}(h:Cps n m xs):xs.length=n:=by
 rw[h.2];simp;have:=h.1;omega
theorem f2c{n:Nat}{xs:List Int}(h:Cps n n xs):xs=V6 n:=by rw[h.2];simp
theorem d2f{n m k:Nat}{xs:List Int}(h:Cps n m xs)(g:m+k<=n):Cps n (m+k) (xs.take m++V6 k++xs.drop (m+k)):=by
 obtain⟨i,a⟩:=h;refine⟨g,?_⟩;have c:xs.take m=V6 m:=by rw[a,Xf (by simp),ZB (by simp)]
 have e:xs.drop (m+k)=ZP (n-(m+k)) 0:=by
  rw[a,List.drop_append,List.drop_of_length_le (by simp),Zj,List.drop_replicate];congr 1;simp;omega
 rw[c,e];congr 1;simp[V6,List.replicate_append_replicate]
theorem e4o{m k:Nat}(h:k<=m):(V6 m).take k=V6 k:=by simp[V6,Nat.min_eq_left h]
theorem e4s(n:Nat):a1c 1 5 (V6 n)=true:=by
 rw[U2];intro i a;rw[a4v (by simpa using a)];decide
theorem e3d{l:List Int}(h:∀j,j<l.length->-30<=l.getD j default/\l.getD j default<=30):a1c (-30) 30 l=true:=U2.2 h
theorem f1q{l:List Int}{i:Nat}(a:i<l.length)(h:¬(-30<=l.getD i default/\l.getD i default<=30)):vlo l=false:=by
 cases c:vlo l with
 |false=>rfl
 |true=>exact absurd ((a6p.1 c).2 _ (N3 a)) h
theorem d0l:∀{st:List Nat} {n:Nat},st.Pairwise (· > ·)->(∀x∈st,x<n)->st.length<=n
 |[],_,_,_=>Zv _
 |a::r,n,c,e=>by
  have h:=d0l (YE.1 c).2 (fun x g=>(YE.1 c).1 x g);have i:=e a (Zr ..);simp only[Ze];omega
def d7a:List AV->Option (AV×List (List AV))
 |[.val (.string s),.val (.string c)]=>(one? c).bind fun b=>if s.size<4294967281 then some (.tup [tV (kdC b s.data.toList),tV (rsC b s.data.toList),bV (decide ((kdC b s.data.toList).length<s.data.toList.length))],[])else none
 |_=>none
noncomputable def c7x:List AV->Option (AV×List (List AV))
 |[.list es]=>(unT es).bind fun ls=>if ls.length<=1048576/\∀l∈ls,l.length<=1048576 then some (tV (deskT ls),[])else none
 |_=>none
end Go.Mv
end
