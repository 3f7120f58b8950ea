/- The abstract machine, part 4 of 5: it runs the model's code on abstract values and is proved sound over any program. Conditions: none. -/
import Derived.Below
import Derived.Laws.AppendOwn
import Derived.Lib.AtoiAll
import Derived.OpenShut
import Derived.ProofKit
import Derived.Sort.Grow
import Derived.Test.YtjmoceabjajefaaGreatDoorMc
set_option linter.unusedVariables false
set_option linter.unusedSimpArgs false
open Array renaming getElem?_eq_some_iff→ZB
open BitVec renaming ofInt→Yv
open Bool renaming and_eq_true→Zx, false_eq_true→ZY
open ByteArray.toList renaming loop→Xs
open Classical renaming byContradiction→Yw, choose_spec→YH
open Function renaming comp_def→Xq
open Int renaming le_refl→Xg, gcd→YD, gcd_dvd_left→Xh, gcd_dvd_right→XI, mul_ediv_cancel_left→Xm
open Go.Lib renaming parseUint10→YR
open List renaming getElem?_map→ZE, mem_map→ZG, length_map→Zh, mem_of_getElem?→Zw, length_eq_zero_iff→ZT, getElem?_eq_some_iff→Zo, getElem?_take→YB, getElem?_eq_getElem→Ze, getD_eq_getElem?_getD→Zc, getElem?_eq_none→ZO, mem_cons_self→Zq, mem_cons_of_mem→Zn, getElem?_cons_zero→Zr, all_eq_true→Zu, mem_of_mem_drop→Yr, drop_zero→ZX, length_append→Zl, append_nil→Zm, nil_append→Zi, take_length→Yl, map_append→ZZ, append_assoc→Ym, singleton_append→YW, mem_append→ZL, pairwise_cons→YA, mem_cons→ZP, pairwise_iff_getElem→Xi, getElem_of_mem→Xc, take_append_drop→YG, getElem?_drop→Yd, length_take→ZU, take_of_length_le→ZC, range→Yb, range_succ→YQ, countP_append→XF, getElem?_range→Yq, sum_append→Xy, drop_eq_getElem_cons→YF, mem_singleton→Yu, cons_append→Zp, take_succ_eq_append_getElem→Yj, length_nil→Zs, length_cons→Zg, map_cons→Zy, drop_succ_cons→Yg, getD_cons_succ→YS, getD_cons_zero→YT, replicate→ZN, map_nil→Yf, map_congr_left→YE, getLast?_cons_cons→XP, length_replicate→YX
open Nat renaming le_refl→Zd, zero_le→Zt, le_trans→Ye, lt_succ_self→ZK, add_assoc→YJ, zero_add→ZI
open Option renaming map_some→Zz, bind_some→Zk, bind_eq_some_iff→Za, map_eq_some_iff→Zf, mem_toList→Xr
open Option.some renaming injEq→Zb
open Prod.mk renaming injEq→Zj
open Go.Sort renaming putCells→XL, putRow→Xo, ahead→Xf
open Go.Value renaming int→YN
section
namespace Go.Mv
open Go Go.RowKit
section
variable{P:Program}{Γ:Env}{w0:World}{A O0:Nat->Prop}{ν0:Nu}{N:Nat}{F:Fl}{D:Nat->Prop}{st:St}{ν:Nu}{tm:Array Value}{w:World}
theorem a2q{xs:List Int}{i j:Nat}{l:AV}(h:leafAt (xs.map iV) i j=some l):∃x,xs[i]? =some x/\j=0/\l=iV x:=by
 unfold leafAt at h;rw[ZE]at h;cases a:xs[i]? with
 |none=>simp[a]at h
 |some x=>
  simp only[a,Zz]at h;cases j with
  |zero=>simp[leaves]at h;exact⟨x,U,U,h.symm⟩
  |succ j=>simp[leaves]at h
theorem Z1{w':World}(c:Γ.mo->w.drawn<=w'.drawn)(h:Below w.heap.size w w'){bt:Nat}:WStep Γ w w' bt:=
 ⟨h.size,h.os,h.tape,h.output,c,fun b a _=>h.block b a,fun b a=>O4 (h.block b a)⟩
theorem Rel.ownEmpty(R:Rel Γ w0 A O0 ν0 N Fl.emp D st ν tm w)(κ:FK)(s:Nat):Rel Γ w0 A O0 ν0 N (Fl.emp.set κ (some ⟨fun _=>none,s,[]⟩)) D st ν tm w:=by
 refine R.ghost (fun _=>U) (Ext.refl _ _ _) (fun _ h=>h) R.objs R.frozen (fun k f g=> ?_) id ?_ (fun _ _ _ _ h=>h) (fun b c q=>(q c).elim) R.io
 ·by_cases e:k=κ
  ·subst e
   rw[Fl.set_eq]at g;cases g;exact⟨U,fun i j t n h=>by simp[leafAt]at h⟩
  ·rw[Fl.set_ne _ _ e]at g;cases g
 ·intro k b o l c
  cases k with
  |nd i p=>exact⟨o,l,c⟩
  |fl k p=>
   obtain⟨f,a,_⟩:=l;by_cases e:k=κ
   ·subst e
    rw[Fl.set_eq]at a;cases a;simp[baseOf,Fl.set_eq]at c
   ·rw[Fl.set_ne _ _ e]at a;cases a
theorem Rel.ownNew(R:Rel Γ w0 A O0 ν0 N Fl.emp D st ν tm w){w':World}{g:Nat}(W:WStep Γ w w' g)(s:w.heap.size<=g){c:Array Value}{ety:TypeId}
 (p:w'.heap[g]? =some (.cells c ety (0,0))) {xs:List Int} (n:xs.length<=c.size) (u:∀(i:Nat) (x:Int),xs[i]? =some x->c[i]? =some (YN .i64 x)) (κ:FK):
 Rel Γ w0 A O0 ν0 N (Fl.emp.set κ (some ⟨fun q=>match q with|none=>some (g,0)|some _=>none,1,xs.map iV⟩)) D st ν tm w':=by
 refine R.compose W (fun _=>False) κ (.inl U) ⟨fun q=>match q with|none=>some (g,0)|some _=>none,1,xs.map iV⟩ none (fun _ _=>(κ,none)) ⟨0,U⟩ (.inl ⟨U,s⟩)
  ?_ ?_ ?_ (fun _ h=>by cases h) (Fl.set_eq _ _ _) (fun _ _ h=>h.elim) (fun k t _=>Fl.set_ne _ _ t)
 ·refine⟨c,ety,p,by simpa using n,fun _ e he=> ?_,fun h=>h.elim,fun i j l a=> ?_⟩
  ·obtain⟨x,_,rfl⟩:=ZG.1 he
   rfl
  ·obtain⟨x,v,rfl,rfl⟩:=a2q a
   exact⟨_,by simpa using u i x v,RS.data _ _ (.val _)⟩
 ·intro i j I o a
  obtain⟨x,_,_,h⟩:=a2q a;cases h
 ·intro i j B E s1 y s2 z a
  obtain⟨x,_,_,h⟩:=a2q a;cases h
theorem b2v{κ:FK}{f:Flo}{res:AV}(c:G3 f.es=true)(g:G1 f.es=false):d0s (Fl.emp.set κ (some f)) res:=by
 intro k h a;by_cases e:k=κ
 ·subst e
  rw[Fl.set_eq]at a;cases a;exact⟨c,fun _=>g⟩
 ·rw[Fl.set_ne _ _ e]at a;cases a
theorem b6p(xs:List Int):G1 (xs.map iV)=false:=by
 induction xs with
 |nil=>rfl
 |cons x xs a=>simp[G1,hasList]
theorem Rel.stay(R:Rel Γ w0 A O0 ν0 N F D st ν tm w){w':World}{bt:Nat}(W:WStep Γ w w' bt)(a:w.heap.size<=bt):Rel Γ w0 A O0 ν0 N F D st ν tm w':=by
 have E:=R.extW W;refine R.world W (.inr a) (fun _=>U) E (fun id g m s es h=>R.objW W (.inr a) E h U fun p b o i c=> ?_) R.frozen (fun k f e=>R.floW W (.inr a) E e fun p b o i c=> ?_) id (fun _=>False)
  (fun k b o l c=> .inl ⟨fun h=>h,o,l,c⟩) (fun _ _ _ _ _ _ h=>h) (fun _ _ h=>h.elim) R.io
 ·have:=R.hlt h i c;omega
 ·have:=R.live_lt (k:= .fl k p) ⟨f,e,i⟩ (by simp only[baseOf,e];exact c);omega
theorem b9x(I:¬Γ.mo){f:Nat}{md:Nat->Nat}(xs:List Int)(hx:xs.length<=H6){E:TypeId}
 (O:∀(w:World) (a:Option Addr) (n c:Nat) (news:List Value),news.length=n->n<=H6->(n≠0->∃b o,a=some ⟨b,o,none⟩/\∀(j:Nat) u,news[j]? =some u->w.cell? ⟨b,o+j,none⟩=some u)->
  (∀u∈news,∃x,u=YN .i64 x)->
  Calls P f #[.slice a n c] w fun e w'=>∃v',e= .returned v'/\w'.ownsRow w.heap.size E 1 v' n news/\Below w.heap.size w w'):
 Contract Γ P md f [.list (xs.map iV)] (.own 1 (xs.map iV)) []:=by
 intro w A O0 ν0 D vals a1 R hA;have h0:=R.slots 0 (by simp);have X:vals.size=1:=by simpa using R.size
 obtain⟨v,rfl⟩:∃v,vals= #[v]:=by
  match vals,X with
  |⟨[v]⟩,_=>exact⟨v,U⟩
 have hv:RV w D (.list (xs.map iV)) v:=RS.list_inv h0;cases hv with
 |list _ a cap b o s c z ha hs hc hl=>
  have R0:=R.noSlots;rw[Zh]at z|-;refine(O w a xs.length cap (xs.map (YN .i64)) (by simp) hx (fun T=> ?_) (fun u hu=> ?_)).mono ?_
  ·have K:xs.map iV≠[]:=by
    intro h;exact T (by simpa using congrArg List.length h)
   obtain⟨rfl,_,_⟩:=ha K;refine⟨b,o,U,fun j u M=> ?_⟩;rw[ZE]at M;cases p:xs[j]? with
   |none=>simp[p]at M
   |some x=>
    simp only[p,Zz,Zb]at M;subst M;have B:leafAt (xs.map iV) j 0=some (iV x):=by
     unfold leafAt;rw[ZE,p]
     rfl
    have y:=hc j 0 _ B;have h2:=hl j 0 _ B;have V:s=1:=(hs (iV x) (ZG.2 ⟨x,Zw p,U⟩)).symm;subst V;have h3:c j 0=YN .i64 x:=by
     generalize c j 0=u at h2;cases h2
     rfl
    rw[h3]at y;simpa using y
  ·obtain⟨x,_,rfl⟩:=ZG.1 hu
   exact⟨x,U⟩
  ·rintro e w' ⟨v',rfl,⟨hlen,L⟩,hB⟩
   have J:G3 (xs.map iV)=true:=A7 fun _=>U
   rcases L with⟨rfl,hn⟩|⟨g,t,cur,rfl,hg,l,q,_,S,Y⟩
   ·have a0:xs=[]:=ZT.1 hn
    subst a0;refine⟨_,U,_,D,_,ν0,(R0.stay (Z1 (fun h=>(I h).elim) hB (bt:=w.heap.size)) (Zd _)).ownEmpty (5,0,0) 1,U,.inr (.inr (.inr (.inl ⟨1,[],fun _=>none,U,Fl.set_eq _ _ _,U,?_⟩))),b2v U U⟩;exact⟨none,0,U,Zd _,.inl U⟩
   ·have Z:∀(i:Nat) (x:Int),xs[i]? =some x->cur[i]? =some (YN .i64 x):=by
     intro i x hi;have y:(cur.toList.take (xs.length*1))[i]? =some (YN .i64 x):=by rw[Y,ZE,hi];rfl
     have hlt:i<xs.length:=(Zo.1 hi).1;rw[YB,if_pos (by omega)]at y;simpa using y
    refine⟨_,U,_,D,_,ν0,R0.ownNew (Z1 (fun h=>(I h).elim) hB) hg l (by omega) Z (5,0,0),U,.inr (.inr (.inr (.inl ⟨1,xs.map iV,_,U,Fl.set_eq _ _ _,J,?_⟩))),b2v J (b6p xs)⟩;refine⟨_,t,by rw[Zh],by rw[Zh];exact q,.inr ⟨g,0,U,by simp,?_⟩⟩;have:csize w' g=cur.size:=by unfold csize;rw[l]
    rw[this,S];simp
theorem RN.ints{L:AV->Value->Prop}{φ:Path->Base}{b o:Nat}{xs:List Int}{w:World}{bx:Prop}(h:RN w L φ (some (b,o)) bx 1 (xs.map iV))(p:∀x v,L (iV x) v->v=YN .i64 x):
 ∃c ety,w.heap[b]? =some (.cells c ety (0,0))/\o+xs.length<=c.size/\∀(i:Nat) (x:Int),xs[i]? =some x->c[o+i]? =some (YN .i64 x):=by
 obtain⟨c,ety,g,l,_,_,n⟩:=h;refine⟨c,ety,g,by simpa using l,fun i x q=> ?_⟩;have a:leafAt (xs.map iV) i 0=some (iV x):=by
  unfold leafAt;rw[ZE,q]
  rfl
 obtain⟨v,e,s⟩:=n i 0 _ a;rw[p x v s]at e;simpa using e
theorem b0a{α:Type}[Inhabited α](enc:α->Value)(off:Nat)(d:Array α)(c:Array Value):(XL enc off d c).size=c.size:=by simp[XL]
theorem c3t{f:Nat}{md:Nat->Nat}(xs ys:List Int)(hx:xs.length<=H6)(hy:ys.length=xs.length)(L:md 0=1)
 (M:∀(w:World) (a:Option Addr) (c:Nat),Calls P f #[.slice a 0 c] w fun e w'=>e= .returned (.tuple #[])/\w'=w)
 (S:∀(w:World) (b o c:Nat),Sort.Holds (YN .i64) w b o xs.toArray->b<w.heap.size->xs.length<=H6->
  Calls P f #[.slice (some ⟨b,o,none⟩) xs.length c] w fun e w'=>e= .returned (.tuple #[])/\∃n os,w'=Sort.grow (Xo (YN .i64) (Xf w n) b o ys.toArray) os):
 Contract Γ P md f [.own 1 (xs.map iV)] (.tup []) [ys.map iV]:=by
 intro w A O0 ν0 D vals a9 R hA;have h0:=R.slots 0 (by simp);have a3:vals.size=1:=by simpa using R.size
 obtain⟨v,rfl⟩:∃v,vals= #[v]:=by
  match vals,a3 with
  |⟨[v]⟩,_=>exact⟨v,U⟩
 have Y:RS (initLoc md [.own 1 (xs.map iV)]) ν0 w D (.sl 0 1 none 0 (xs.map iV).length) v:=h0;have O:initLoc md [.own 1 (xs.map iV)] (.h 0)= .obj 1 1 1 (xs.map iV):=by simp[initLoc,L]
 have q:noSlots (initLoc md [.own 1 (xs.map iV)]) (.h 0)= .obj 1 1 1 (xs.map iV):=O;have t:cidAll md 0 [.own 1 (xs.map iV)]=[(0,1,1)]:=by simp[cidAll,Q9,L]
 have u:∀{F:Fl} {D:Nat->Prop} {w:World},AllRes F D w (.tup []) (.tuple #[]):= .inl ⟨[],#[],U,U,U,fun k l h=>by simp at h⟩;obtain⟨⟨a,cap,rfl,I⟩,_,_,T⟩:=Y.sl_inv;have T:=T 1 1 (xs.map iV) (by unfold nodeAt;rw[O];simp);have X:=R.noSlots;rw[Zh]at I T|-;by_cases hn:xs=[]
 ·subst hn
  have a5:ys=[]:=ZT.1 hy;subst a5;refine(M w a cap).mono ?_;rintro e w' ⟨rfl,rfl⟩;refine⟨_,U,Fl.emp,D,_,ν0,X,?_,u,fun _ _ h=>by cases h⟩;rw[t];unfold outsOf;rw[q];simp[outsOf,G3]
 ·obtain⟨a',a6,he,_,hb⟩:=T
  cases he;have a7:0<xs.length:=List.length_pos_iff.2 hn;rcases hb with hb|⟨b,o,B,ha,aa⟩
  ·omega
  ·rw[Nat.zero_mul,Nat.add_zero]at ha
   subst ha;have a0:=X.objs 0 1 1 1 (xs.map iV) q;have hT:=a0.top;rw[B]at hT;obtain⟨c,E,p,ab,a1⟩:=RN.ints hT (fun x v h=>by cases h with|data _ _ h=>cases h;rfl);have s:b<w.heap.size:=(ZB.1 p).1;refine(S w b o cap (fun j hj=> ?_) s hx).mono ?_
   ·have y:j<xs.length:=by simpa using hj
    have J:=a1 j (xs[j]'y) (Ze y);refine⟨?_,?_⟩
    ·unfold World.cell?
     simp only[p];simp[J,y]
    ·unfold World.frozen?
     simp only[p];simp
   ·rintro e w' ⟨rfl,n,os,rfl⟩
    have g:∀k,k<w.heap.size->(Sort.grow (Xo (YN .i64) (Xf w n) b o ys.toArray) os).heap[k]? =
     if k=b then some (.cells (XL (YN .i64) o ys.toArray c) E (0,0))else w.heap[k]? :=by
     intro k K;have h1:k<(Xo (YN .i64) (Xf w n) b o ys.toArray).heap.size:=by simpa[Xf]using K
     simp only[Sort.grow];rw[Array.getElem?_append_left h1];simp only[Xo,Sort.mapBlock,Xf,Array.getElem?_modify];by_cases e:b=k
     ·subst e
      simp[p,Sort.onCells]
     ·rw[if_neg e,if_neg (fun h=>e h.symm)]
    have W:WStep Γ w (Sort.grow (Xo (YN .i64) (Xf w n) b o ys.toArray) os) b:=by
     refine⟨by simp[Sort.grow,Xf],U,U,U,fun _=>by simp[Sort.grow,Xo,Sort.mapBlock,Xf],fun k K a2=> ?_,fun k K=> ?_⟩
     ·rw[g k K,if_neg a2]
     ·unfold csize
      rw[g k K];by_cases e:k=b
      ·subst e
       rw[if_pos U,p];exact b0a _ _ _ _
      ·rw[if_neg e]
    have Z:RN (Sort.grow (Xo (YN .i64) (Xf w n) b o ys.toArray) os) (RS (noSlots (initLoc md [.own 1 (xs.map iV)])) ν0 w D) (ν0 0) (ν0 0 none) (1=3\/1=4) 1 (ys.map iV):=by
     rw[B];refine⟨_,E,by rw[g b s,if_pos U],?_,fun _ e he=> ?_,fun h=>by simp at h,fun i j l hl=> ?_⟩
     ·rw[b0a,Zh,hy];omega
     ·obtain⟨x,_,rfl⟩:=ZG.1 he
      rfl
     ·obtain⟨x,z,rfl,rfl⟩:=a2q hl
      have V:i<ys.length:=(Zo.1 z).1;refine⟨.int .i64 x,?_,RS.data _ _ (.val _)⟩;have a4:ys[i]=x:=by rw[Ze V]at z;exact Option.some.inj z
      have hlt:o+i<c.size:=by omega
      simp only[XL,Nat.mul_one,Nat.add_zero,Array.getElem?_mapIdx];rw[Array.getElem?_eq_getElem hlt];simp[V,a4]
    obtain⟨R1,_⟩:=X.storeTop W q (by decide) ⟨o,B⟩ (ν0 0) U Z (fun i j h=>by obtain⟨x,_,_,h⟩:=a2q h;cases h) (fun _ _=>False) (fun _ _=>(0,0,0)) (fun _=>False)
     (fun i j s' a8 h=>by obtain⟨x,_,_,h⟩:=a2q h;cases h) (fun i j i' j' s1 e1 s2 e2 _ _ h=>h.elim) (fun _=>U) (F':=Fl.emp) (fun k h=>h.elim) (fun k _=>U)
    refine⟨_,U,Fl.emp,D,_,_,R1,?_,u,fun _ _ h=>by cases h⟩;rw[t];have V:P5 (ys.map iV)=true:=U3 fun _=>U
    simp[outsOf,St.upd_eq,T8 V]
end
end Go.Mv
end
section
namespace Go.Mv
open Go Go.RowKit Go.ChangeShapes Go.WideShapes Go.ChangeAt
def dataArg:AV->Bool
 | .val _=>true
 | .nil=>true
 | .list _=>true
 | .agg _=>true
 |_=>false
theorem c7o{md:Nat->Nat}{av:List AV}(l:∀a∈av,dataArg a=true):
 (∀i,initLoc md av (.t i)=av.getD i .undef)/\∀i,initLoc md av (.h i)= .undef:=by
 have c:∀i a,av[i]? =some a->dataArg a=true:=fun i a h=>l a (Zw h)
 refine⟨fun i=> ?_,fun i=> ?_⟩
 ·rw[Zc]
  have:=c i;unfold initLoc;show(match av[i]? with
   |some (AV.own s es)=>AV.sl i 1 none 0 es.length
   |some (AV.ownp es a b)=>AV.ptr i 1 none a b
   |some (AV.clo f caps)=>AV.clo f (initCaps i 0 caps)
   |some a=>a
   |none=>AV.undef)=_
  split<;>rename_i h
  ·rw[h]at this;simp[dataArg]at this
  ·rw[h]at this;simp[dataArg]at this
  ·rw[h]at this;simp[dataArg]at this
  ·rw[h];rfl
  ·rw[h];rfl
 ·have e:=c i
  have g:=c (i%100000);unfold initLoc;simp only;split
  ·split
   ·rename_i h;rw[h]at e;simp[dataArg]at e
   ·rename_i h;rw[h]at e;simp[dataArg]at e
   ·rfl
  ·split
   ·rename_i h;rw[h]at g;simp[dataArg]at g
   ·rfl
theorem d6w{Γ:Env}(cx:Cx)(O:SoundC Γ cx (CW cx)){f:Nat}{av:List AV}{vals:Array Value}{w:World}{v:Value}(z:vals.size=av.length)
 (I:∀i a,av[i]? =some a->RV w (fun b=>b<w.heap.size) a (vals.getD i undef)) (y:∀a∈av,dataArg a=true) (h:CW cx f av=some (.val v,[])) (S:∀b,Γ.gb b->b<w.heap.size) (M:Γ.G w):
 Calls cx.P f vals w fun e w'=>e= .returned v/\Below w.heap.size w w'/\(Γ.mo->w.drawn<=w'.drawn):=by
 obtain⟨B,x⟩:=c7o (md:=cx.md f) y;have l:∀k,¬live (initLoc (cx.md f) av) Fl.emp k:=by
  intro k J;cases k with
  |nd i p=>obtain⟨g,m,s,es,c,_⟩:=J;rw[x]at c;cases c
  |fl k p=>obtain⟨f,c,_⟩:=J;cases c
 have R:Rel Γ w (fun _=>True) (fun _=>False) (fun _ _=>none) av.length Fl.emp (fun b=>b<w.heap.size) (initLoc (cx.md f) av) (fun _ _=>none) vals w:=by
  refine⟨z,fun i t=> ?_,fun i t=> ?_,fun id g m s es c=> ?_,fun id g s es c=> ?_,fun k f c=> ?_,fun Z k2 b o1 o2 c=>(l _ c).elim,fun b q ⟨k,o,c,_⟩=>l _ c,fun b q=> .inl trivial,fun b q=>⟨q,fun h=>by rcases h with h|h;(·have:b<w.heap.size:=q;omega);(·exact h.elim)⟩,
   fun b ⟨k,o,c,_⟩=>(l _ c).elim,Zd _,U,U,U,fun _=>Zd _,fun b _ _=>U,fun b _=>U,fun id g m s es c=> ?_,fun b q=>⟨fun h=>h,S b q⟩,M⟩
  ·rw[B,Zc,Ze t]
   exact .data _ _ (I i _ (Ze t))
  ·rw[B,Zc,ZO t];rfl
  ·rw[x]at c;cases c
  ·rw[x]at c;cases c
  ·cases c
  ·rw[x]at c;cases c
 obtain⟨L,_⟩:=O.2 f av _ _ h;refine(L w _ _ _ _ vals (fun _ h=>h.elim) R (fun a E=> ?_)).mono ?_
 ·obtain⟨i,t⟩:=List.mem_iff_getElem?.1 E
  have c:=I i a t;have K:=y a E;cases a<;>first
   |exact⟨_,c⟩
   |simp[dataArg]at K
 ·rintro e w' ⟨v',rfl,Y,X,T,V,n,_,u,_⟩
  refine⟨?_,⟨n.os,n.tape,n.output,n.le,fun k y=>n.fr k y (fun h=>h)⟩,n.dr⟩;rcases u with⟨vs,cs,c,_⟩|⟨fs,cs,c,_⟩|⟨es,j,φ,b,o,c,_⟩|⟨s,es,φ,c,_⟩|⟨_,c⟩
  ·cases c
  ·cases c
  ·cases c
  ·cases c
  ·cases c;rfl
theorem e4n{Γ:Env}(cx:Cx)(l:SoundC Γ cx (CW cx)){f:Nat}{av:List AV}{vals:Array Value}{w:World}{v:Value}(c:vals.size=av.length)
 (n:∀i a,av[i]? =some a->RV w (fun b=>b<w.heap.size) a (vals.getD i undef)) (p:∀a∈av,dataArg a=true) (h:CW cx f av=some (.val v,[])) (o:∀b,Γ.gb b->b<w.heap.size) (g:Γ.G w):
 Calls cx.P f vals w fun e w'=>e= .returned v/\Below w.heap.size w w':=
 (d6w cx l c n p h o g).mono fun _ _ h=>⟨h.1,h.2.1⟩
section
variable{H:Type}{enc:TypeId×Value->H}{P:Program}{W W':World}
theorem a9z(l:laidOutB P=true)(i:Below W.heap.size W W'):∀{a:List TypeId} {vs:List Value} {ds:List (DataW H)} {ps:List MemPlace},
 (∀t∈a,P.readableRec t=true/\t<P.types.size)->DataW.TrodAll enc P W 0 (fun _=>true) true a vs ds ps->(∀x∈ps,x.block<W.heap.size)->
 DataW.TrodAll enc P W' 0 (fun b=>decide (b<W.heap.size)) true a vs ds ps
 |[],[],[],_,_,h,_=>h
 |[],[],_::_,_,_,h,_=>h.elim
 |[],_::_,_,_,_,h,_=>h.elim
 |_::_,[],_,_,_,h,_=>h.elim
 |_::_,_::_,[],_,_,h,_=>h.elim
 |t::a,v::vs,d::ds,ps,n,h,hlt=>by
  obtain⟨p,q,o,s,rfl⟩:=h;obtain⟨c,e⟩:=n t (Zq ..);exact⟨p,q,Below.trod l c e o i (fun x g=>hlt x (List.mem_append_left _ g)),a9z l i (fun t u=>n t (Zn _ u)) s (fun x g=>hlt x (List.mem_append_right _ g)),U⟩
end
section
variable{cx:Cx}{keep:List Nat}{ops0:Array Oper}{A:Asr}{d:Nat}{ty:Nat}{pos:String}{aft:Array Edge}{r:List Oper}{Q:Asr->List Log->Prop}
theorem d0m{G:Type}{k:Nat}{c:Operand}{caps:List AV}{args:Array Operand}{o:Array Nat}{vs as:List AV}{ids:List (Nat×Bool)}{wp a:Ws}{l lb li:List Mv.Loc}{res:AV}{outs:List (List AV)}{v:G->AV}{e:G->Ws}
 (i:opd A c=some (.clo k caps))
 (E:opds A args.toList=some vs) (B:a9j (CW cx) A (cx.md k) 0 (vs++caps) as ids wp l) (p:CW cx k as=some (res,outs))
 (s:apartIds ids=true/\nodupB ((a1w (cx.md k) 0 (vs++caps)).map (·.1))=true/\nodupB ((cidAll (cx.md k) 0 as).map (·.1))=true/\as.length<=1000/\a2x as=true)
 (z:ids.all (fun x=>x.2)=true\/(hasList res=false/\outs.any G1=false))
 (q:d9j (CW cx) (puts A wp) (a1w (cx.md k) 0 (vs++caps)) outs a lb) (u:b1q (CW cx) (puts (puts A wp) a) d res v e li)
 (y:∀g,tRefsOk keep (keptWs keep (wp++(a++(e g++[(.t d,v g)]))))=true)
 (h:∀g,XR cx keep ops0 r (J7 A (wp++(a++(e g++[(.t d,v g)])))) fun n I=>Q n ((rds c++(a3d args.toList++(l++(lb++li))),V8 (wp++(a++(e g++[(.t d,v g)]))))::I)):
 XR cx keep ops0 (⟨some d,.call ⟨.value c,args,o⟩,ty,pos,aft,none⟩::r) A Q:=by
 refine e1f (G:=G) (v:=v) (ws:=fun g=>wp++(a++e g)) (ls:=rds c++(a3d args.toList++(l++(lb++li)))) U ?_ (fun g=> ?_) (fun g=> ?_) (fun g=> ?_) (A1:=fun g=>J7 A (wp++(a++(e g++[(.t d,v g)]))))
 ·simp only[aopV]
  refine A5 (J6 i (A5 (I4 (c1k _ E _ ?_))));simp only[d2v];refine A5 (H7 B ?_);rintro _ _ _ ⟨rfl,rfl,rfl⟩;refine A5 (E7 s (A5 (I4 ?_)));refine⟨res,outs,p,?_⟩;refine A5 (E7 z (A5 (H7 q ?_)));rintro _ _ _ ⟨rfl,rfl⟩;refine H7 u ?_;rintro _ _ _ ⟨g,rfl,rfl,rfl⟩;exact⟨g,U,by simp,by simp⟩
 ·have:=y g
  simpa[setD]using this
 ·have:=b1l A (wp++(a++(e g++[(.t d,v g)])))
  simpa[setD]using this
 ·have:=h g
  simpa[setD]using this
def a0l(C:Caller)(A:Asr)(vs as:List AV)(ids:List (Nat×Bool))(ls:List Mv.Loc):Prop:=
 wpA C A (passCaps vs) fun x l=>x=(as,ids)/\l=ls
theorem b9n{C:Caller}:a0l C A [] [] [] []:=⟨rfl,rfl⟩
def d5s:AV->Bool
 | .val _=>true
 | .list _=>true
 |_=>false
theorem d7v{C:Caller}{id g m s j:Nat}{e:AV}{vs as:List AV}{ids:List (Nat×Bool)}{ls:List Mv.Loc}(a:look A (.h id)=some (.obj g m s [e]))(he:d5s e=true)(h:a0l C A vs as ids ls):
 a0l C A (.ptr id g none 0 j::vs) (.ipt e j::as) ((id,false)::ids) (.h id::ls):=by
 unfold a0l at h|-;cases e<;>first
  |(simp[d5s]at he;done)
  |(simp only[passCaps,passCap,E3,rdNode,M6 a,F8,F4,Zr,passLeaf,slIds,List.filterMap_nil,List.filterMap_cons,and_true,true_and]
    refine M2 ?_ h;rintro x l ⟨rfl,rfl⟩;simp)
theorem c9f{C:Caller}{j:Nat}{e:AV}{vs as:List AV}{ids:List (Nat×Bool)}{ls:List Mv.Loc}(h:a0l C A vs as ids ls):a0l C A (.ipt e j::vs) (.ipt e j::as) ids ls:=by
 unfold a0l at h|-;simp only[passCaps,passCap,E3,F4];refine M2 ?_ h;rintro x l ⟨rfl,rfl⟩;simp
theorem c2a{C:Caller}{md k:Nat}{vs as:List AV}{ids:List (Nat×Bool)}{ls:List Mv.Loc}(a:md=0)(h:a0l C A vs as ids ls):N0 C A md (.clo k vs) (.clo k as) ids [] ls:=by
 subst a;unfold N0 a4o;unfold a0l at h;simp only[Nat.zero_ne_one,if_false,show¬(0=3) by decide];refine A5 (I4 (M2 ?_ h));rintro x l ⟨rfl,rfl⟩;exact C3 ⟨U,by simp,by simp⟩
end
section
variable{cx:Cx}{keep:List Nat}{A:Asr}{Q:AExit->Asr->Prop}
theorem D7{β:Type}{body:Code}(K:Asr)(I:β->Asr)(P:β->Prop)(m:β->Nat)(c:β)(h:HasL A (K++I c))(g:P c)
 (i:∀b,P b->XA cx keep body (K++I b) fun r e=>match r with
  | .normal=>∃a,P a/\m a<m b/\HasL e (K++I a)
  |r=>Q r e):XA cx keep (.loop body) A Q:=a5l (fun b=>K++I b) P m c h g i
end
theorem a4g{id g i:Nat}{p:Option (Nat×Nat)}:∀(ls:List AV) (j:Nat),(ls.all fun l=> !isOwn l)=true->viewLeaves id g p i j ls=ls:=by
 intro ls
 induction ls with
 |nil=>intro j _;rfl
 |cons l ls a=>
  intro j h;simp only[List.all_cons,Zx]at h;simp only[viewLeaves,a _ h.2];have:a8m id g p i j l=l:=by
   unfold a8m;split
   ·simp[isOwn]at h
   ·rfl
  rw[this]
theorem e6n{ls:List AV}(h:(ls.all fun l=> !isOwn l)=true)(j:Nat):((ls.drop j).all fun l=> !isOwn l)=true:=by
 rw[Zu]at h|-;exact fun l a=>h l (Yr a)
section
variable{cx:Cx}{b:Bool}{cids:List Cid}{outs:List (List AV)}
def c2w(cx:Cx)(b:Bool)(cids:List Cid)(outs:List (List AV))(rs:List ResultVar)(A:Asr)(vs:List AV):Prop:=
 wpW (CW cx) A (retAll cx.P b rs) fun us ws _=>us=vs/\a3u (puts A ws) cids outs
theorem C4{A:Asr}(a:a3u A cids outs):c2w cx b cids outs [] A []:=C3 ⟨rfl,a⟩
theorem C9{A:Asr}{t:Nat}{v:AV}{rs:List ResultVar}{vs:List AV}(e:look A (.t t)=some v)(c:d8y v=true)(h:c2w cx b cids outs rs A vs):c2w cx b cids outs (.tmp t::rs) A (v::vs):=by
 refine a8t (a5j e (c2d c ?_));refine H7 h ?_;rintro us ws ls ⟨rfl,a⟩;exact⟨U,a⟩
theorem b5t(A:Asr):∀(a b:Ws),puts A (a++b)=puts (puts A a) b:=by
 intro a
 induction a generalizing A with
 |nil=>intro b;rfl
 |cons x a c=>intro b;obtain⟨l,v⟩:=x;exact c _ b
theorem F9{A:Asr}{t id g s n:Nat}{es:List AV}{rs:List ResultVar}{vs:List AV}(l:look A (.t t)=some (.sl id g none 0 n))(a:look A (.h id)=some (.obj g 0 s es))(i:n=es.length)(e:G3 es=true)
 (h:c2w cx b cids outs rs (put A (.h id) (.dead g)) vs):c2w cx b cids outs (.tmp t::rs) A (.own s es::vs):=by
 refine a8t (a5j l (b5v a i e ?_));refine H7 h ?_;rintro us ws ls ⟨rfl,c⟩;refine⟨U,?_⟩;rw[b5t];exact c
theorem a4a{A:Asr}{a T id g s:Nat}{e:AV}{rs:List ResultVar}{vs:List AV}(q:look A (.t a)=some (.ptr id g none 0 0))(o:look A (.h id)=some (.obj g 3 s [e]))(n:((leaves e).all fun l=> !isOwn l)=true)
 (p:partF cx.P T (leaves e)=some e) (i:d8y e=true) (h:c2w cx b cids outs rs A vs):c2w cx b cids outs (.cell a T::rs) A (e::vs):=by
 refine a8t ?_;unfold retVar;refine A5 (I4 ?_);rw[b4m q];refine A5 (I4 ?_);simp only[loadG,loadA,rdNode,E3];rw[M6 (by exact o)];simp only[E3,F8,F4,true_and,Zr,ZX];rw[a4g _ _ n,a1d p];refine c2d i ?_;refine H7 h ?_;rintro us ws ls ⟨rfl,c⟩;exact⟨U,c⟩
theorem B8{A:Asr}{rs:List ResultVar}{us:List AV}{res:AV}(h:c2w cx b cids outs rs A us)(he:U5 us=res):RetA cx b rs cids A res outs:=by
 refine c9a (H7 h ?_);rintro c ws _ ⟨rfl,a⟩;exact⟨he,a⟩
def c6f(C:Caller)(A:Asr)(d k:Nat)(vs:List AV){G:Type}(us:G->List AV)(ws:G->Ws)(ls:List Mv.Loc):Prop:=wpW C A (instAll d k vs) fun a w l=>∃g,a=us g/\w=ws g/\l=ls
variable{C:Caller}{A:Asr}{d k:Nat}
theorem K6:c6f C A d k [] (fun _:Unit=>[]) (fun _=>[]) []:=C3 ⟨(),rfl,rfl,rfl⟩
theorem J0{G:Type}{v:AV}{vs:List AV}{us:G->List AV}{ws:G->Ws}{ls:List Mv.Loc}(h:L0 v=true)(t:c6f C A d (k+16) vs us ws ls):c6f C A d k (v::vs) (fun g=>v::us g) ws ls:=by
 refine A5 (b4l h (A5 (H7 t ?_)));rintro _ _ _ ⟨g,rfl,rfl,rfl⟩;exact C3 ⟨g,U,by simp,by simp⟩
theorem K5{G:Type}{s:Nat}{es:List AV}{vs:List AV}{us:G->List AV}{ws:G->Ws}{ls:List Mv.Loc}(t:∀g0,c6f C (put A (.h (tid d k)) (.obj g0 0 s es)) d (k+16) vs us ws ls):
 c6f C A d k (.own s es::vs) (fun g:Nat×G=> .sl (tid d k) g.1 none 0 es.length::us g.2) (fun g=>(.h (tid d k),.obj g.1 0 s es)::ws g.2) (.h (tid d k)::ls):=by
 refine A5 (b1m fun g0=>A5 (H7 (t g0) ?_));rintro _ _ _ ⟨g,rfl,rfl,rfl⟩;exact C3 ⟨(g0,g),U,by simp,by simp⟩
theorem G9{G:Type}{vs:List AV}{us:G->List AV}{ws:G->Ws}{ls:List Mv.Loc}(h:c6f C A d 16 vs us ws ls):b1q C A d (.tup vs) (fun g=> .tup (us g)) ws ls:=by
 refine A5 (H7 h ?_);rintro _ _ _ ⟨g,rfl,rfl,rfl⟩;exact C3 ⟨g,U,by simp,by simp⟩
end
section
variable{cx:Cx}{keep:List Nat}{ops0:Array Oper}{r:List Oper}{A:Asr}{Q:Asr->List Log->Prop}{d:Nat}{ty:Nat}{pos:String}{aft:Array Edge}
theorem a7d{a:Operand}{T id g m s i j:Nat}{es:List AV}{e v:AV}(n:opd A a=some (.ptr id g none i j))(q:look A (.h id)=some (.obj g m s es))(he:es[i]? =some e)(p:((leaves e).all fun l=> !isOwn l)=true)
 (u:partF cx.P T ((leaves e).drop j)=some v) (o:slotOk keep (.t d) v=true)
 (h:XR cx keep ops0 r ((.t d,v)::A) fun c x=>Q c ((rds a++[.h id],[.t d])::x)):XR cx keep ops0 (⟨some d,.load T a,ty,pos,aft,none⟩::r) A Q:=
 d6k n q he (by rw[a4g _ _ (e6n p j)];exact u) o h
theorem a3s{α:Type}[Inhabited α]{f:α->AV}{xs:List α}{a:Operand}{T id g m s i j:Nat}{v:AV}(o:opd A a=some (.ptr id g none i j))(u:look A (.h id)=some (.obj g m s (xs.map f)))(c:i<xs.length)
 (q:∀a,((leaves (f a)).all fun l=> !isOwn l)=true) (x:partF cx.P T ((leaves (f (xs.getD i default))).drop j)=some v) (p:slotOk keep (.t d) v=true)
 (h:XR cx keep ops0 r ((.t d,v)::A) fun n y=>Q n ((rds a++[.h id],[.t d])::y)):XR cx keep ops0 (⟨some d,.load T a,ty,pos,aft,none⟩::r) A Q:=
 a7d (e:=f (xs.getD i default)) o u (by rw[ZE,Ze c,Zc,Ze c];rfl) (q _) x p h
theorem E4{α:Type}[Inhabited α]{f:α->AV}{xs:List α}{a:Operand}{T id g m s i:Nat}(e:opd A a=some (.ptr id g none i 0))(q:look A (.h id)=some (.obj g m s (xs.map f)))(n:i<xs.length)
 (p:∀a,((leaves (f a)).all fun l=> !isOwn l)=true) (u:∀a,partF cx.P T (leaves (f a))=some (f a)) (o:slotOk keep (.t d) (f (xs.getD i default))=true)
 (h:XR cx keep ops0 r ((.t d,f (xs.getD i default))::A) fun c v=>Q c ((rds a++[.h id],[.t d])::v)):XR cx keep ops0 (⟨some d,.load T a,ty,pos,aft,none⟩::r) A Q:=
 a3s e q n p (u _) o h
theorem d2m{a:Operand}{T id g m s:Nat}{e:AV}(i:opd A a=some (.ptr id g none 0 0))(p:look A (.h id)=some (.obj g m s [e]))(o:((leaves e).all fun l=> !isOwn l)=true)
 (q:partF cx.P T (leaves e)=some e) (n:slotOk keep (.t d) e=true)
 (h:XR cx keep ops0 r ((.t d,e)::A) fun c u=>Q c ((rds a++[.h id],[.t d])::u)):XR cx keep ops0 (⟨some d,.load T a,ty,pos,aft,none⟩::r) A Q:=
 a7d i p U o q n h
theorem d3r{a:Operand}{T:Nat}{e:AV}(g:opd A a=some (.ipt e 0))(l:partF cx.P T (leaves e)=some e)(i:slotOk keep (.t d) e=true)
 (h:XR cx keep ops0 r ((.t d,e)::A) fun c n=>Q c ((rds a,[.t d])::n)):XR cx keep ops0 (⟨some d,.load T a,ty,pos,aft,none⟩::r) A Q:=
 c1u g l i h
theorem J4{α:Type}[Inhabited α]{f:α->AV}{xs:List α}{y:α}{T id g m s i:Nat}{a x:Operand}(l:opd A a=some (.ptr id g none i 0))(p:look A (.h id)=some (.obj g m s (xs.map f)))(q:opd A x=some (f y))(n:i<xs.length)
 (o:∀a b,b6n (leaves (f b)) (f a)=true/\(leaves (f a)).length=(tyS cx.P T).size/\0<(leaves (f a)).length/\(leaves (f a)).length<=(leaves (f b)).length/\W7 (leaves (f a)) (leaves (f b))=true/\putAt (f b) 0 (f a)=f a) (hm:m≠2)
 (c:slotOk keep (.h id) (.obj g m s ((xs.set i y).map f))=true)
 (h:XR cx keep ops0 r ((.h id,.obj g m s ((xs.set i y).map f))::A) fun e t=>Q e ((rds a++(rds x++[.h id,.h id,.h id]),[.h id])::t)):
 XR cx keep ops0 (⟨none,.store T a x,ty,pos,aft,none⟩::r) A Q:=d4o l q p n o hm c h
theorem c7a{T id g m s:Nat}{a x:Operand}{e v:AV}(p:opd A a=some (.ptr id g none 0 0))(u:opd A x=some v)(t:look A (.h id)=some (.obj g m s [e]))
 (q:b6n (leaves e) v=true) (c:m≠2/\(leaves v).length=(tyS cx.P T).size/\0<(leaves v).length/\(leaves v).length<=(leaves e).length/\W7 (leaves v) (leaves e)=true) (n:putAt e 0 v=v)
 (l:slotOk keep (.h id) (.obj g m s [v])=true)
 (h:XR cx keep ops0 r ((.h id,.obj g m s [v])::A) fun o y=>Q o ((rds a++(rds x++[.h id,.h id,.h id]),[.h id])::y)):
 XR cx keep ops0 (⟨none,.store T a x,ty,pos,aft,none⟩::r) A Q:=
 c7r (i:=0) (j:=0) p u t U q ⟨c.1,c.2.1,c.2.2.1,by have:=c.2.2.2.1;omega,c.2.2.2.2⟩ (by rw[n];exact l) (by rw[n];exact h)
theorem a2n{α:Type}{f:α->AV}{xs ys:List α}{T T' E s id g n e g2 m2 off c:Nat}{x y:Operand}{z:AV}(Z:opd A x=some (.sl id g none 0 n))(hy:opd A y=some (.sl e g2 none off c))(Y:look A (.h id)=some (.obj g 0 s (xs.map f)))(l:look A (.h e)=some (.obj g2 m2 s (ys.map f)))
 (hid:e<1000000) (q:bxB m2 none=false) (X:n=(xs.map f).length) (B:off+c<=ys.length) (R:Q2 cx.P T=some (E,s)) (p:O5 (tyS cx.P T').k=true) (hz:a0n cx.P E=some (z,s)) (S:(tyS cx.P E).bytes<=4096)
 (u:∀a,(leaves (f a)).all cellLeaf=true/\L3 (f a)=true/\L0 (f a)=true)
 (hle:xs.length+c<=H6) (V:∀g,slotOk keep (.t d) (.sl (tid d 0) g none 0 (xs++(ys.drop off).take c).length)=true)
 (h:∀g',XR cx keep ops0 r ((.t d,.sl (tid d 0) g' none 0 (xs++(ys.drop off).take c).length)::(.h (tid d 0),.obj g' 0 s ((xs++(ys.drop off).take c).map f))::(.h id,.dead g)::A) fun J lg=>Q J ((rds x++(rds y++[.h e,.h e,.h id,.h (tid d 0)]),[.h id,.h (tid d 0),.t d])::lg)):
 XR cx keep ops0 (⟨some d,.call ⟨.builtin .append,#[x,y],#[T,T']⟩,ty,pos,aft,none⟩::r) A Q:=by
 obtain⟨h1,I,M,O⟩:=V4 hz;have i:((ys.drop off).take c).length=c:=by simp;omega
 have el:(xs++(ys.drop off).take c).length=xs.length+c:=by rw[Zl,i]
 have em:(((ys.map f).drop off).take c)=((ys.drop off).take c).map f:=by rw[List.map_take,List.map_drop]
 subst X;refine a4l (v:=fun g'=> .sl (tid d 0) g' none 0 (xs++(ys.drop off).take c).length) (ws:=fun g'=>[(.h id,.dead g),(.h (tid d 0),.obj g' 0 s ((xs++(ys.drop off).take c).map f))]) (ls:=rds x++(rds y++[.h e,.h e,.h id,.h (tid d 0)])) U ?_
  (fun g=>C7 (by simp[slotOk,refOkV]) (C7 (B5 (A7 fun a=>(u a).2.1)) (I1 (V g)))) (fun g=>U) (fun g=>a9m _ _ _ _ _ _ _) h
 simp only[aopV,dstOf];refine A5 (I4 (show wpA (CW cx) A (.ret d) _ from ?_));show wpW (CW cx) (puts A []) _ _;refine A5 (E7 p (A5 (J6 Z (A5 (J6 hy ?_)))));unfold a5z;refine A5 (T4 R (A5 (E7 ⟨S,M,O⟩ (A5 ?_))));simp only[d6y];refine A5 (K3 l (A5 (E7 I.symm ?_)));rw[if_neg (by omega)];refine A5 (I4 ?_);simp only[slc,rdNode,E3];rw[M6 (by exact l)];simp only[E3,F8,F4,q,Zh,B,true_and,and_true,Zm,Zi];rw[em,if_pos (U3 fun a=>(u a).2.2)];refine C3 ?_;refine A5 (E7 (a9h fun a=>(u a).1) ?_);refine A5 (K3 Y (A5 (E7 ⟨U,by simp,I.symm,by simp only[Zh,i];exact hle⟩ (A5 (J5 (A5 (M8 fun o=>A5 (J5 (C3 ?_)))))))));have K:xs.length+(((ys.drop off).take c).map f).length=(xs++(ys.drop off).take c).length:=by rw[el,Zh,i]
 have L:List.take xs.length (xs.map f)=xs.map f:=by rw[<-Zh (f:=f),Yl]
 exact⟨I0 o+1,by rw[K],by simp only[L,ZZ];simp,by simp⟩
theorem a3i{x:Operand}{T E id g n m:Nat}{p:Option (Nat×Nat)}{off:Nat}{c:Option Operand}{a:List Mv.Loc}(y:opd A x=some (.sl id g p off n))(i:(tyS cx.P T).k= .slice E)(l:P6 (tyS cx.P E).k=false)
 (s:wpA (CW cx) A (optNat c n) fun k ls=>k=m/\ls=a) (q:m<=n) (u:slotOk keep (.t d) (.sl id g p off m)=true)
 (h:XR cx keep ops0 r ((.t d,.sl id g p off m)::A) fun e z=>Q e ((rds x++a,[.t d])::z)):XR cx keep ops0 (⟨some d,.slice T x none c none,ty,pos,aft,none⟩::r) A Q:=by
 refine K2 (fun o v=>by simp only[aopV,v]) ?_ u h;simp only[opV,E3,E5 y,sliceA,i,optNat,F4,Zi];refine M2 ?_ s;rintro _ _ ⟨rfl,rfl⟩;simp only[F8,l,F4,ne_eq,not_true_eq_false,false_and,if_false,if_true,Zm,Zi,and_self,and_true,true_and,true_or,Zd,Zt,q]
theorem d2g{x:Operand}{T E id g n m l k0 s:Nat}{off:Nat}{v u:Option Operand}{es:List AV}{e i:List Mv.Loc}(M:opd A x=some (.sl id g none off n))(q:look A (.h id)=some (.obj g k0 s es))(a:Q2 cx.P T=some (E,s))
 (I:wpA (CW cx) A (optNat u n) fun k ls=>k=m/\ls=e) (K:wpA (CW cx) A (optNat v 0) fun k ls=>k=l/\ls=i) (B:l<=m/\m<=n) (p:l≠0) (J:slotOk keep (.t d) (.sl id g none (off+l) (m-l))=true)
 (h:XR cx keep ops0 r ((.t d,.sl id g none (off+l) (m-l))::A) fun y O=>Q y ((rds x++(e++(i++[.h id])),[.t d])::O)):XR cx keep ops0 (⟨some d,.slice T x v u none,ty,pos,aft,none⟩::r) A Q:=by
 refine K2 (fun o q=>by simp only[aopV,q]) ?_ J h;unfold Q2 at a;split at a
 ·rename_i R z
  split at a
  ·rename_i c
   simp only[Zb,Zj]at a;obtain⟨rfl,L⟩:=a;simp only[opV,E3,E5 M,sliceA,z,optNat,F4,Zi];refine M2 ?_ I;rintro _ _ ⟨rfl,rfl⟩;refine M2 ?_ K;rintro _ _ ⟨rfl,rfl⟩;simp only[F8,c,ne_eq,not_true_eq_false,false_and,if_false,and_self,and_true,true_and,true_or,Zd,B,p,E3,rdNode,M6 q,F4,L,Zi,Zm,Ym,YW]
  ·cases a
 ·cases a
theorem G2{C:Caller}{A:Asr}{x:Operand}{k:IntKind}{n:Nat}{dflt:Nat}(h:opd A x=some (.val (.int k (n:Int)))):wpA C A (optNat (some x) dflt) fun m ls=>m=n/\ls=rds x:=by
 have:=a7m (C:=C) (dflt:=dflt) h (Int.natCast_nonneg n);simpa using this
theorem f1r{α:Type}{C:Caller}{A:Asr}{x:Rd α}{R:α->Ws->List Mv.Loc->Prop}{ls0:List Mv.Loc}(h:wpA C A x fun a ls=>(∀l∈ls,l∈ls0)/\R a [] ls0):wpW C A (up x) R:=by
 intro st i;obtain⟨a,ls,c,e,g⟩:=c4s i _ _ h;exact⟨a,[],ls,ls0,d7s x c,e,g⟩
theorem a7s{x:Operand}{T E id g n m l k0 s:Nat}{off:Nat}{u p:Option Operand}{es:List AV}{a c:List Mv.Loc}(J:opd A x=some (.sl id g none off n))(O:look A (.h id)=some (.obj g k0 s es))(i:Q2 cx.P T=some (E,s))
 (z:wpA (CW cx) A (optNat p n) fun k ls=>k=m/\ls=a) (I:wpA (CW cx) A (optNat u 0) fun k ls=>k=l/\ls=c) (y:l<=m/\m<=n) (B:slotOk keep (.t d) (.sl id g none (off+l) (m-l))=true)
 (h:XR cx keep ops0 r ((.t d,.sl id g none (off+l) (m-l))::A) fun K R=>Q K ((rds x++(a++(c++[.h id])),[.t d])::R)):XR cx keep ops0 (⟨some d,.slice T x u p none,ty,pos,aft,none⟩::r) A Q:=by
 by_cases o:l=0
 ·refine d8a (v:= .sl id g none (off+l) (m-l)) (ws:=[]) (ls:=rds x++(a++(c++[.h id]))) U ?_ (I1 B) (fun k b M=>by rw[<-M];exact(a5n A _ _ k).symm) h
  show wpW (CW cx) A (up (opV cx (.slice T x u p none))) _;refine f1r (ls0:=rds x++(a++(c++[.h id]))) ?_;unfold Q2 at i;split at i
  ·rename_i S L
   split at i
   ·rename_i e
    simp only[opV,E3,E5 J,sliceA,L,optNat,F4,Zi];refine M2 ?_ z;rintro _ _ ⟨rfl,rfl⟩;refine M2 ?_ I;rintro _ _ ⟨rfl,rfl⟩;simp only[F8,e,ne_eq,not_true_eq_false,false_and,if_false,and_self,and_true,true_and,true_or,Zd,y,o,if_true,F4,Nat.add_zero,Nat.sub_zero,Zm];refine⟨Zt _,fun q hq=> ?_⟩;simp only[ZL]at hq|-;rcases hq with hq|hq|hq
    ·exact .inl hq
    ·exact .inr (.inl hq)
    ·exact .inr (.inr (.inl hq))
   ·cases i
  ·cases i
 ·exact d2g J O i z I y o B h
theorem e6v{x:Operand}{T E id g n:Nat}{a mx:Operand}{k k':IntKind}(y:opd A x=some (.sl id g none 0 n))(q:(tyS cx.P T).k= .slice E)(s:P6 (tyS cx.P E).k=false)
 (u:opd A a=some (.val (.int k n))) (hm:opd A mx=some (.val (.int k' n))) (B:slotOk keep (.t d) (.sl id g none 0 n)=true)
 (z:n=0->XR cx keep ops0 r ((.t d,.nil)::A) fun i p=>Q i ((rds x++(rds mx++rds a),[.t d])::p))
 (h:n≠0->XR cx keep ops0 r ((.t d,.sl id g none 0 n)::A) fun i p=>Q i ((rds x++(rds mx++rds a),[.t d])::p)):XR cx keep ops0 (⟨some d,.slice T x none (some a) (some mx),ty,pos,aft,none⟩::r) A Q:=by
 have e:(n:Int).toNat=n:=by simp
 by_cases c:n=0
 ·refine K2 (v:= .nil) (fun o l=>by simp only[aopV,l]) ?_ (by simp[slotOk,refOkV,refsOk]) (z c)
  simp only[opV,E3,E5 y,sliceA,q,optNat,E5 u,E5 hm,W4 (Int.natCast_nonneg n),e,F4,F8,s];simp[c,wpA]
 ·refine K2 (v:= .sl id g none 0 n) (fun o l=>by simp only[aopV,l]) ?_ B (h c)
  simp only[opV,E3,E5 y,sliceA,q,optNat,E5 u,E5 hm,W4 (Int.natCast_nonneg n),e,F4,F8,s];simp[c,wpA]
theorem a6o{x:Operand}{g s n:Nat}{es:List AV}(o:opd A x=some (.sl d g none 0 n))(l:look A (.h d)=some (.obj g 0 s es))(i:n<=es.length)
 (a:slotOk keep (.h d) (.obj g 0 s (es.take n))=true) (e:slotOk keep (.t d) (.sl d g none 0 n)=true)
 (h:XR cx keep ops0 r ((.t d,.sl d g none 0 n)::(.h d,.obj g 0 s (es.take n))::A) fun c p=>Q c ((rds x++[.h d],[.h d,.t d])::p)):
 XR cx keep ops0 (⟨some d,.assign x,ty,pos,aft,none⟩::r) A Q:=by
 refine d8a (v:= .sl d g none 0 n) (ws:=[(.h d,.obj g 0 s (es.take n))]) (ls:=rds x++[.h d]) U ?_ (C7 a (I1 e)) (a2k _ _ _ _ _) h;simp only[aopV];refine A5 (J6 o ?_);simp only[a3x];refine A5 (K3 l ?_);simp only[if_true];refine A5 (E7 i (A5 (J5 (C3 ?_))));exact⟨U,by simp,by simp⟩
end
theorem P0{α:Type}{f:α->AV}{xs:List α}(h:∀a,hasList (f a)=false):G1 (xs.map f)=false:=by
 induction xs with
 |nil=>rfl
 |cons x xs c=>simp[G1,h,c]
theorem f5m{α:Type}{f:α->AV}{xs:List α}(h:∀a,hasList (f a)=false):[xs.map f].any G1=false:=by
 simp[P0 h]
theorem a8u(x:Int)(r:List Int):(b6b x r).Perm (x::r):=by
 induction r with
 |nil=>exact .refl _
 |cons y r a=>
  simp only[b6b];split
  ·exact .refl _
  ·exact(List.Perm.cons y a).trans (List.Perm.swap x y r)
theorem S8(xs:List Int):(S6 xs).Perm xs:=by
 induction xs with
 |nil=>exact .refl _
 |cons x r a=>exact(a8u x (S6 r)).trans (List.Perm.cons x a)
theorem a6u(x:Int)(r:List Int)(h:r.Pairwise (·<= ·)):(b6b x r).Pairwise (·<= ·):=by
 induction r with
 |nil=>simp[b6b]
 |cons y r g=>
  simp only[b6b];have e:=YA.1 h;split
  ·rename_i c
   refine YA.2 ⟨fun z a=> ?_,h⟩;rcases ZP.1 a with rfl|a
   ·exact c
   ·have:=e.1 z a;omega
  ·rename_i c
   refine YA.2 ⟨fun z a=> ?_,g e.2⟩;rcases ZP.1 ((a8u x r).mem_iff.1 a)with rfl|a
   ·omega
   ·exact e.1 z a
theorem a0m(xs:List Int):(S6 xs).Pairwise (·<= ·):=by
 induction xs with
 |nil=>exact .nil
 |cons x r a=>exact a6u x _ a
theorem e9u{xs ys:List Int}(c:ys.Perm xs)(e:ys.Pairwise (·<= ·)):ys=S6 xs:=
 List.Perm.eq_of_pairwise (le:=(·<= ·)) (fun a b _ _ g h=>by omega) e (a0m xs) (c.trans (S8 xs).symm)
theorem b5d{s:List Int}(h:s.Pairwise (·<= ·)){i j:Nat}(e:i<=j)(c:j<s.length):s.getD i default<=s.getD j default:=by
 rw[Zc,Zc,Ze (by omega),Ze c];rcases Nat.lt_or_ge i j with a|a
 ·exact Xi.1 h i j (by omega) c a
 ·have:i=j:=by omega
  subst this;exact Xg _
theorem a1v{xs:List Int}{x:Int}(h:x∈xs):∃i,i<xs.length/\xs.getD i default=x:=by
 obtain⟨i,a,rfl⟩:=Xc h;exact⟨i,a,by rw[Zc,Ze a];rfl⟩
theorem c3k{out:List Int}{x:Int}{k:Nat}(g:out.Pairwise (·<= ·))(u:k<=out.length)(n:∀j,j<k->out.getD j default<=x)(o:k<out.length->x<=out.getD k default):
 out.take k++[x]++out.drop k=b6b x out:=by
 have t:(out.take k++[x]++out.drop k).Perm (x::out):=by
  have:=(List.perm_middle (l₁:=out.take k) (l₂:=out.drop k) (a:=x));rw[YG]at this;rw[Ym];exact this
 have h:(out.take k++[x]++out.drop k).Pairwise (·<= ·):=by
  rw[Ym,List.pairwise_append];refine⟨g.take,?_,?_⟩
  ·rw[YW,YA]
   refine⟨fun b c=> ?_,g.drop⟩;obtain⟨i,l,rfl⟩:=a1v c;rw[List.length_drop]at l;have e:(out.drop k).getD i default=out.getD (k+i) default:=by rw[Zc,Zc,Yd]
   rw[e];exact Int.le_trans (o (by omega)) (b5d g (by omega) (by omega))
  ·intro a q b c
   obtain⟨i,l,rfl⟩:=a1v q;rw[ZU]at l;have e:(out.take k).getD i default=out.getD i default:=by rw[Zc,Zc,YB,if_pos (by omega)]
   rw[e];rw[YW,ZP]at c;rcases c with rfl|c
   ·exact n i (by omega)
   ·obtain⟨j,s,rfl⟩:=a1v c
    rw[List.length_drop]at s;have p:(out.drop k).getD j default=out.getD (k+j) default:=by rw[Zc,Zc,Yd]
    rw[p];exact b5d g (by omega) (by omega)
 exact List.Perm.eq_of_pairwise (le:=(·<= ·)) (fun a b _ _ n o=>by omega) h (a6u x out g) (t.trans (a8u x out).symm)
theorem b5g{out:List Int}{x:Int}{k:Nat}(g:out.Pairwise (·<= ·))(e:k<=out.length)(a:∀j,j<k->out.getD j default<=x)(c:k<out.length->x<=out.getD k default):
 (([]++(out.drop 0).take k)++[x])++(out.drop (0+k)).take (out.length-k)=b6b x out:=by
 rw[<-c3k g e a c];simp;exact ZC (by simp)
theorem c0f{xs:List Int}{i:Nat}(h:i<xs.length):S6 (xs.take (i+1))=b6b (xs.getD i default) (S6 (xs.take i)):=by
 refine(e9u ?_ (a6u _ _ (a0m _))).symm;have e:xs.take (i+1)=xs.take i++[xs.getD i default]:=by
  rw[List.take_add_one,Zc,Ze h];rfl
 rw[e];exact((a8u _ _).trans (List.Perm.cons _ (S8 _))).trans (List.perm_append_comm (l₁:=[xs.getD i default]) (l₂:=xs.take i))
def bitN(s i:Nat):Nat:=s/2^i%2
theorem e9y{n:Nat}(h:n<2^63):IntKind.i64.wrap (n:Int)=(n:Int):=a3q (B9 (by omega))
theorem e7p{a:Nat}(h:a<2^63):(Yv IntKind.i64.bits (a:Int)).toNat=a:=by
 rw[BitVec.toNat_ofInt];simp only[IntKind.bits];omega
theorem f2b{a b:Nat}(c:a<2^63)(e:b<2^63):IntKind.i64.wrap ((Yv IntKind.i64.bits (a:Int)&&&Yv IntKind.i64.bits (b:Int)).toNat)=((a&&&b:Nat):Int):=by
 rw[BitVec.toNat_and,e7p c,e7p e];exact e9y (Nat.lt_of_le_of_lt Nat.and_le_left c)
theorem d4h(i:Nat):((2:Int)^i)=((2^i:Nat):Int):=by simp
section
variable{cx:Cx}{keep:List Nat}{ops0:Array Oper}{r:List Oper}{A:Asr}{Q:Asr->List Log->Prop}{d:Nat}{ty:Nat}{pos:String}{aft:Array Edge}
theorem f3h{T z:Nat}{a b:Operand}{x y:Nat}(g:opd A a=some (iV (x:Int)))(i:opd A b=some (iV (y:Int)))(n:y<64)
 (h:XR cx keep ops0 r ((.t d,iV ((x/2^y:Nat):Int))::A) fun c l=>Q c ((rds a++rds b,[.t d])::l)):XR cx keep ops0 (⟨some d,.binOp .shr T a b z,ty,pos,aft,none⟩::r) A Q:=by
 refine c4q g i (by simp only[IntKind.bits];omega) ?_;have e:(x:Int).fdiv (2^(y:Int).toNat)=((x/2^y:Nat):Int):=by
  rw[Int.toNat_natCast,d4h,Int.fdiv_eq_ediv_of_nonneg _ (Int.natCast_nonneg _)];simp
 rw[e];exact h
theorem e8o{T z:Nat}{a b:Operand}{x y:Nat}(g:opd A a=some (iV (x:Int)))(i:opd A b=some (iV (y:Int)))(n:y<64/\x*2^y<2^63)
 (h:XR cx keep ops0 r ((.t d,iV ((x*2^y:Nat):Int))::A) fun c l=>Q c ((rds a++rds b,[.t d])::l)):XR cx keep ops0 (⟨some d,.binOp .shl T a b z,ty,pos,aft,none⟩::r) A Q:=by
 have e:(x:Int)*2^(y:Int).toNat=((x*2^y:Nat):Int):=by
  rw[Int.toNat_natCast,d4h];simp
 refine f5k g i ⟨by omega,by simp only[IntKind.bits];omega,by rw[e];exact B9 (by omega)⟩ ?_;rw[e];exact h
theorem f4p{T z:Nat}{a b:Operand}{x:Nat}(i:opd A a=some (iV (x:Int)))(l:opd A b=some (iV 1))(n:x<2^63)
 (h:XR cx keep ops0 r ((.t d,iV ((x%2:Nat):Int))::A) fun c o=>Q c ((rds a++rds b,[.t d])::o)):XR cx keep ops0 (⟨some d,.binOp .and T a b z,ty,pos,aft,none⟩::r) A Q:=by
 refine e1r i l ?_;have e:=f2b n (show 1<2^63 by decide);rw[Nat.and_one_is_mod]at e;have g:IntKind.i64.wrap ((Yv IntKind.i64.bits (x:Int)&&&Yv IntKind.i64.bits 1).toNat)=((x%2:Nat):Int):=e;rw[g];exact h
end
end Go.Mv
end
section
namespace Go.Mv
open Go Classical
section
variable{cx:Cx}{keep:List Nat}{ops0:Array Oper}{r:List Oper}{A:Asr}{Q:Asr->List Log->Prop}{d:Nat}{ty:Nat}{pos:String}{aft:Array Edge}
theorem e9v{T z:Nat}{a b:Operand}{x y:ByteArray}{t:Bool}(e:opd A a=some (.val (.string x)))(g:opd A b=some (.val (.string y)))(i:(x.toList==y.toList)=t)
 (h:XR cx keep ops0 r ((.t d,bV t)::A) fun c l=>Q c ((rds a++rds b,[.t d])::l)):XR cx keep ops0 (⟨some d,.binOp .eql T a b z,ty,pos,aft,none⟩::r) A Q:=by
 subst i;exact J3 e g h
end
def a0u(c a:Int)(xs:List Int):Bool:=xs.all fun x=>decide (c<=x)&&decide (x<=a)
theorem T6{e c:Int}{xs:List Int}:a0u e c xs=true↔∀i,i<xs.length->e<=xs.getD i default/\xs.getD i default<=c:=by
 unfold a0u;rw[Zu];constructor
 ·intro h i a
  have:=h _ (M7 a);simpa using this
 ·intro h x g
  obtain⟨i,a,rfl⟩:=a1v g;simpa using h i a
theorem c0m{e c:Int}{xs:List Int}(h:a0u e c xs=true){x:Int}(g:x∈xs):e<=x/\x<=c:=by
 obtain⟨i,a,rfl⟩:=a1v g;exact T6.1 h i a
def vo(l:List Int):Bool:=decide (1<=l.length)&&decide (l.length<=6)&&a0u 0 1000 l
theorem d7y{l:List Int}:vo l=true↔1<=l.length/\l.length<=6/\a0u 0 1000 l=true:=by
 unfold vo;simp only[Zx,decide_eq_true_eq,and_assoc]
def f4r(l:List Int)(s:Nat):Nat->List Int
 |0=>[]
 |k+1=>if bitN s k=1 then f4r l s k++[l.getD k default]else f4r l s k
def sel(l:List Int)(s:Nat):List Int:=f4r l s l.length
def Fnd(e:Bool)(s:List Int)(a:Int):Prop:=∃i,i<s.length/\s.getD i default*s.length<=if e then((i:Int)+1)*a else a
def CPr(l:List Int)(a:Int)(e:Bool)(i:Nat):Prop:=∀s,1<=s->s<2^l.length->bitN s i=1->Fnd e (S6 (sel l s)) a
noncomputable def f5y(l:List Int)(a:Int)(e:Bool)(k:Nat):List Int:=((Yb k).filter fun i=>decide (CPr l a e i)).map Int.ofNat
noncomputable def clo(l:List Int)(a:Int)(e:Bool):List Int:=f5y l a e l.length
theorem f5v{n:Nat}(h:n<=6):2^n<=64:=Nat.pow_le_pow_right (n:=2) (by decide) h
theorem f0d{xs:List Int}{q:Int->Bool}{i:Nat}(a:i<xs.length)(h:q (xs.getD i default)=true):decide (0<=(i:Int))=xs.any q:=by
 rw[decide_eq_true (Int.natCast_nonneg i)];exact(List.any_eq_true.2 ⟨_,M7 a,h⟩).symm
theorem e5t{xs:List Int}{q:Int->Bool}(h:∀j,j<xs.length->q (xs.getD j default)=false):decide (0<=(-1:Int))=xs.any q:=by
 have:xs.any q=false:=by
  rw[List.any_eq_false];intro x c;obtain⟨i,a,rfl⟩:=a1v c;rw[h i a];decide
 rw[this];rfl
theorem e5x(c a:Int)(xs:List Int):(!(xs.any fun x=> !(decide (c<=x)&&decide (x<=a))))=a0u c a xs:=by
 unfold a0u;rw[List.not_any_eq_all_not];simp
theorem f3f{xs:List Int}{i:Nat}(a:i<xs.length)(h:¬(0<=xs.getD i default/\xs.getD i default<=1000)):vo xs=false:=by
 rw[Bool.eq_false_iff];exact fun c=>h (T6.1 (d7y.1 c).2.2 i a)
theorem f2h{xs:List Int}(h:∀j,j<xs.length->0<=xs.getD j default/\xs.getD j default<=1000):vo xs=(decide (1<=(xs.length:Int))&&decide ((xs.length:Int)<=6)):=by
 unfold vo;rw[T6.2 h,Bool.and_true];congr 1<;>rw[decide_eq_decide]<;>omega
theorem L8{α:Type}[Inhabited α]{xs:List α}{i:Nat}(h:i<xs.length):xs.getD i default∈xs:=by
 rw[Zc,Ze h];exact List.getElem_mem h
theorem c4m{x n b m:Int}(h:0<=x/\x<=b)(c:n<=m)(a:0<=n):0<=x*n/\x*n<=b*m:=by
 refine⟨Int.mul_nonneg h.1 a,?_⟩;exact Int.le_trans (Int.mul_le_mul_of_nonneg_right h.2 a) (Int.mul_le_mul_of_nonneg_left c (by omega))
end Go.Mv
end
section
namespace Go.Mv
open Go Classical
abbrev nV(x:Nat):AV:=iV (x:Int)
def LTl(l:List Int)(a b:Nat):Prop:=l.getD a default<l.getD b default\/(l.getD a default=l.getD b default/\a<b)
theorem LTl.trans{l:List Int}{a b c:Nat}(h:LTl l a b)(e:LTl l b c):LTl l a c:=by unfold LTl at*;omega
theorem LTl.irr{l:List Int}{a:Nat}:¬LTl l a a:=by unfold LTl;omega
theorem LTl.le{l:List Int}{a b:Nat}(h:LTl l a b):l.getD a default<=l.getD b default:=by unfold LTl at h;omega
def Ord(l:List Int)(i:Nat)(d:List Nat):Prop:=d.length=l.length/\i<=l.length/\(∀x,i<=x->x<l.length->d.getD x default=x)/\(∀x,x<i->d.getD x default<i)/\
 (∀x y,x<y->y<i->LTl l (d.getD x default) (d.getD y default))/\∀v,v<i->∃x,x<i/\d.getD x default=v
def a6p(l:List Int)(i:Nat)(d0:List Nat)(j:Nat)(d:List Nat):Prop:=j<=i/\d.length=l.length/\
 (∀x,x<l.length->d.getD x default=if x<j then d0.getD x default else if x=j then i else if x<=i then d0.getD (x-1) default else x)/\∀x,j<=x->x<i->l.getD i default<l.getD (d0.getD x default) default
theorem b4s{l:List Nat}{i j x:Nat}(a:i<l.length):(l.set i x).getD j default=if j=i then x else l.getD j default:=a3f l i x j a
theorem a6p.start{l:List Int}{i:Nat}{d0:List Nat}(h:Ord l i d0)(g:i<l.length):a6p l i d0 i d0:=by
 refine⟨Zd _,h.1,fun x e=> ?_,fun x a c=>by omega⟩;by_cases a:x<i
 ·rw[if_pos a]
 ·rw[if_neg a]
  by_cases c:x=i
  ·subst c;rw[if_pos U,h.2.2.1 x (Zd _) e]
  ·rw[if_neg c,if_neg (by omega),h.2.2.1 x (by omega) e]
theorem a6p.step{l:List Int}{i j:Nat}{d0 d:List Nat}(h:a6p l i d0 j d)(t:i<l.length)(u:0<j)(hlt:l.getD (d.getD j default) default<l.getD (d.getD (j-1) default) default):
 a6p l i d0 (j-1) ((d.set j (d.getD (j-1) default)).set (j-1) (d.getD j default)):=by
 obtain⟨s,n,c,o⟩:=h;have e:d.getD j default=i:=by rw[c j (by omega),if_neg (by omega),if_pos U]
 have g:d.getD (j-1) default=d0.getD (j-1) default:=by rw[c (j-1) (by omega),if_pos (by omega)]
 rw[e,g]at hlt;refine⟨by omega,by simp[n],fun x p=> ?_,fun x v q=> ?_⟩
 ·rw[b4s (by rw[List.length_set];omega),b4s (by omega),e,g]
  by_cases a:x=j-1
  ·rw[if_pos a,if_neg (by omega),if_pos a]
  ·rw[if_neg a]
   by_cases a2:x=j
   ·rw[if_pos a2,if_neg (by omega),if_neg a,if_pos (by omega),a2]
   ·rw[if_neg a2,c x p]
    by_cases a3:x<j
    ·rw[if_pos a3,if_pos (by omega)]
    ·simp only[a,a2,a3,if_false,show¬x<j-1 by omega]
 ·by_cases a:x=j-1
  ·subst a;exact hlt
  ·exact o x (by omega) q
theorem a6p.fin{l:List Int}{i j:Nat}{d0 d:List Nat}(z:Ord l i d0)(h:a6p l i d0 j d)(L:i<l.length)(he:j=0\/¬l.getD (d.getD j default) default<l.getD (d.getD (j-1) default) default):Ord l (i+1) d:=by
 obtain⟨K,B,a,E⟩:=h;obtain⟨g1,g2,g3,g4,g5,g6⟩:=z;have u:d.getD j default=i:=by rw[a j (by omega),if_neg (by omega),if_pos U]
 have g:∀x,x<j->LTl l (d0.getD x default) i:=by
  intro x I;have hle:l.getD (d0.getD (j-1) default) default<=l.getD i default:=by
   rcases he with he|he
   ·omega
   ·rw[u,a (j-1) (by omega),if_pos (by omega)]at he;omega
  have J:=g4 x (by omega);by_cases e:x=j-1
  ·subst e;unfold LTl;omega
  ·have:=(g5 x (j-1) (by omega) (by omega)).le
   unfold LTl;omega
 have c:∀x,j<=x->x<i->LTl l i (d0.getD x default):=fun x o q=> .inl (E x o q)
 refine⟨B,by omega,fun x o q=> ?_,fun x o=> ?_,fun x y o q=> ?_,fun v M=> ?_⟩
 ·rw[a x q,if_neg (by omega),if_neg (by omega),if_neg (by omega)]
 ·rw[a x (by omega)]
  split
  ·have:=g4 x (by omega);omega
  ·split
   ·omega
   ·have:=g4 (x-1) (by omega)
    rw[if_pos (by omega)];omega
 ·rw[a x (by omega),a y (by omega)]
  by_cases p:y<j
  ·rw[if_pos (show x<j by omega),if_pos p];exact g5 x y o (by omega)
  ·rw[if_neg p]
   by_cases a2:y=j
   ·rw[if_pos a2,if_pos (show x<j by omega)];exact g x (by omega)
   ·rw[if_neg a2,if_pos (show y<=i by omega)]
    by_cases s:x<j
    ·rw[if_pos s];exact g5 x (y-1) (by omega) (by omega)
    ·rw[if_neg s]
     by_cases t:x=j
     ·rw[if_pos t];exact c (y-1) (by omega) (by omega)
     ·rw[if_neg t,if_pos (show x<=i by omega)];exact g5 (x-1) (y-1) (by omega) (by omega)
 ·by_cases e:v=i
  ·exact⟨j,by omega,by rw[u,e]⟩
  ·obtain⟨x,I,n⟩:=g6 v (by omega)
   by_cases p:x<j
   ·exact⟨x,by omega,by rw[a x (by omega),if_pos p,n]⟩
   ·refine⟨x+1,by omega,?_⟩
    rw[a (x+1) (by omega),if_neg (by omega),if_neg (by omega),if_pos (by omega)];simpa using n
theorem Ord.one{l:List Int}{d:List Nat}(h:d.length=l.length)(a:∀x,x<l.length->d.getD x default=x)(e:1<=l.length):Ord l 1 d:=by
 refine⟨h,e,fun x _ c=>a x c,fun x c=> ?_,fun x y g i=>by omega,fun v n=>⟨0,by omega,?_⟩⟩
 ·rw[a x (by omega)];exact c
 ·rw[a 0 (by omega)];omega
noncomputable def pl(l:List Int)(i k:Nat):Nat:=(Yb k).countP fun x=>decide (LTl l x i)
theorem a3t(l:List Int)(i k:Nat):pl l i (k+1)=if LTl l k i then pl l i k+1 else pl l i k:=by
 unfold pl;rw[YQ,XF];by_cases h:LTl l k i<;>simp[h]
theorem f2y(l:List Int)(i k:Nat):pl l i k<=k:=by
 unfold pl;exact Ye List.countP_le_length (by simp)
noncomputable def at'(l:List Int)(i:Nat):Nat:=pl l i l.length
theorem c7f{α:Type}{p:α->Bool}{d:List α}{r:Nat}(e:r<=d.length)(a:∀x∈d.take r,p x=true)(c:∀x∈d.drop r,p x=false):d.countP p=r:=by
 conv=>lhs;rw[<-YG r d]
 rw[XF,List.countP_eq_length.2 a,List.countP_eq_zero.2 (fun x g=>by simp[c x g])];simp[e]
theorem b4d{xs:List Nat}{x:Nat}(h:x∈xs):∃i,i<xs.length/\xs.getD i default=x:=by
 obtain⟨i,a,rfl⟩:=Xc h;exact⟨i,a,by rw[Zc,Ze a];rfl⟩
theorem Ord.perm{l:List Int}{d:List Nat}(h:Ord l l.length d):(Yb l.length).Perm d:=by
 obtain⟨g1,g2,g3,g4,g5,g6⟩:=h;have n:d.Nodup:=by
  rw[List.nodup_iff_pairwise_ne,Xi];intro i j o p g e;have:=g5 i j g (by omega);rw[Zc,Zc,Ze o,Ze p]at this;simp only[Option.getD_some,e]at this;exact LTl.irr this
 rw[List.perm_ext_iff_of_nodup List.nodup_range n];intro a;rw[List.mem_range];constructor
 ·intro c
  obtain⟨x,q,rfl⟩:=g6 a c;exact L8 (by omega)
 ·intro c
  obtain⟨x,q,rfl⟩:=b4d c;exact g4 x (by omega)
theorem Ord.count{l:List Int}{d:List Nat}(h:Ord l l.length d){p:Nat->Bool}{r:Nat}(n:r<=l.length)(g:∀x,x<r->p (d.getD x default)=true)(i:∀x,r<=x->x<l.length->p (d.getD x default)=false):(Yb l.length).countP p=r:=by
 rw[h.perm.countP_eq];refine c7f (by rw[h.1];exact n) (fun y c=> ?_) (fun y c=> ?_)
 ·obtain⟨x,a,rfl⟩:=b4d c
  rw[ZU]at a;have e:(d.take r).getD x default=d.getD x default:=by rw[Zc,Zc,YB,if_pos (by omega)]
  rw[e];exact g x (by omega)
 ·obtain⟨x,a,rfl⟩:=b4d c
  rw[List.length_drop,h.1]at a;have e:(d.drop r).getD x default=d.getD (r+x) default:=by rw[Zc,Zc,Yd]
  rw[e];exact i (r+x) (by omega) (by omega)
theorem Ord.at{l:List Int}{d:List Nat}(h:Ord l l.length d){r:Nat}(c:r<l.length):at' l (d.getD r default)=r:=by
 obtain⟨g1,g2,g3,g4,g5,g6⟩:=id h;refine h.count (Nat.le_of_lt c) (fun x i=>decide_eq_true (g5 x r i c)) (fun x n g=>decide_eq_false fun a=> ?_);by_cases e:x=r
 ·subst e;exact LTl.irr a
 ·exact LTl.irr (a.trans (g5 r x (by omega) g))
theorem Ord.ix{l:List Int}{d:List Nat}(h:Ord l l.length d){k:Nat}(c:k<l.length):at' l k<l.length/\d.getD (at' l k) default=k:=by
 obtain⟨x,a,rfl⟩:=h.2.2.2.2.2 k c;rw[h.at a];exact⟨a,U⟩
noncomputable def mxU(l:List Int)(i:Nat):Nat->Int
 |0=>0
 |k+1=>if at' l k<=at' l i then max (mxU l i k) (l.getD k default*((l.length:Int)-(at' l k:Int)))else mxU l i k
theorem d9h{l:List Int}{i:Nat}{V:Int}(o:0<=V):∀k,(mxU l i k<=V↔∀x,x<k->at' l x<=at' l i->l.getD x default*((l.length:Int)-(at' l x:Int))<=V)
 |0=>⟨fun _ x h=>by omega,fun _=>o⟩
 |k+1=>by
  unfold mxU;have n:=d9h (l:=l) (i:=i) o k;by_cases c:at' l k<=at' l i
  ·rw[if_pos c]
   constructor
   ·intro h x g a
    by_cases e:x=k
    ·subst e;omega
    ·exact n.1 (by omega) x (by omega) a
   ·intro h
    have p:=n.2 fun x g=>h x (by omega)
    have q:=h k (by omega) c;omega
  ·rw[if_neg c,n]
   constructor
   ·intro h x g a
    by_cases e:x=k
    ·subst e;exact absurd a c
    ·exact h x (by omega) a
   ·exact fun h x g=>h x (by omega)
noncomputable def sdv(l:List Int)(i:Nat):Int:=min (mxU l i l.length) 1000
noncomputable def sdU(l:List Int)(k:Nat):List Int:=(Yb k).map (sdv l)
noncomputable def sdR(l:List Int):List Int:=if vo l=true then sdU l l.length else[]
theorem e6i(l:List Int)(k:Nat):sdU l (k+1)=sdU l k++[sdv l k]:=by unfold sdU;rw[YQ,ZZ];rfl
@[simp] theorem d7p(l:List Int)(k:Nat):(sdU l k).length=k:=by simp[sdU]
theorem e5g{l:List Int}{k i:Nat}(h:i<k):(sdU l k).getD i default=sdv l i:=by
 unfold sdU;rw[Zc,ZE,Yq h];rfl
noncomputable def mR(l:List Int)(d:List Nat):Nat->Int
 |0=>0
 |r+1=>max (mR l d r) (min 1000 (l.getD (d.getD r default) default*((l.length:Int)-(r:Int))))
theorem f2u{l:List Int}{d:List Nat}{V:Int}(a:0<=V):∀r,(mR l d r<=V↔∀x,x<r->min 1000 (l.getD (d.getD x default) default*((l.length:Int)-(x:Int)))<=V)
 |0=>⟨fun _ x h=>by omega,fun _=>a⟩
 |r+1=>by
  unfold mR;have c:=f2u (l:=l) (d:=d) a r;constructor
  ·intro h x g
   by_cases e:x=r
   ·subst e;omega
   ·exact c.1 (by omega) x (by omega)
  ·intro h
   have i:=c.2 fun x g=>h x (by omega)
   have n:=h r (by omega);omega
theorem e9n{l:List Int}{d:List Nat}:∀r,0<=mR l d r
 |0=>Xg _
 |r+1=>by have:=e9n (l:=l) (d:=d) r;unfold mR;omega
theorem d0f{l:List Int}{i:Nat}:∀k,0<=mxU l i k
 |0=>Xg _
 |k+1=>by have:=d0f (l:=l) (i:=i) k;unfold mxU;split<;>omega
theorem Ord.mR{l:List Int}{d:List Nat}(h:Ord l l.length d){r:Nat}(e:r<l.length):Mv.mR l d (r+1)=sdv l (d.getD r default):=by
 have key:∀V:Int,0<=V->(Mv.mR l d (r+1)<=V↔sdv l (d.getD r default)<=V):=by
  intro V a;rw[f2u a];unfold sdv;constructor
  ·intro g
   by_cases p:1000<=V
   ·omega
   ·have:mxU l (d.getD r default) l.length<=V:=(d9h a _).2 fun k o n=>by
     obtain⟨t,a2⟩:=h.ix o;rw[h.at e]at n;have:=g (at' l k) (by omega);rw[a2]at this;omega
    omega
  ·intro hm x g
   by_cases p:1000<=V
   ·omega
   ·have c:mxU l (d.getD r default) l.length<=V:=by omega
    have:=(d9h a _).1 c (d.getD x default) (h.2.2.2.1 x (by omega)) (by rw[h.at e,h.at (by omega)];omega);rw[h.at (by omega)]at this;omega
 have q:=e9n (l:=l) (d:=d) (r+1);have s:0<=sdv l (d.getD r default):=by have:=d0f (l:=l) (i:=d.getD r default) l.length;unfold sdv;omega
 have u:=(key _ s).2 (Xg _);have v:=(key _ q).1 (Xg _);omega
end Go.Mv
namespace Go.Mv
open Go Classical
def c2z(x y:Int):Int:=if x<y then-1 else if y<x then 1 else 0
theorem c1w{x y:Int}:c2z x y<0↔x<y:=by unfold c2z;split<;>(try split)<;>omega
theorem f0e(x y:Int): -1<=c2z x y/\c2z x y<=1:=by unfold c2z;split<;>(try split)<;>omega
theorem a6p.lt{l:List Int}{i j:Nat}{d0 d:List Nat}(e:Ord l i d0)(h:a6p l i d0 j d)(g:i<l.length){x:Nat}(c:x<l.length):d.getD x default<l.length:=by
 rw[h.2.2.1 x c];have a:=e.2.2.2.1;split
 ·have:=a x (by have:=h.1;omega);omega
 ·split
  ·exact g
  ·split
   ·have:=a (x-1) (by omega);omega
   ·exact c
theorem f1j{l:List Int}{d:List Nat}(h:d.length=l.length)(a:∀x,x<l.length->d.getD x default=x)(c:1<=l.length):Ord l 1 d:=Ord.one h a c
noncomputable def plU(l:List Int)(k:Nat):List Nat:=(Yb k).map (at' l)
theorem e9f(l:List Int)(k:Nat):plU l (k+1)=plU l k++[at' l k]:=by unfold plU;rw[YQ,ZZ];rfl
@[simp] theorem d7c(l:List Int)(k:Nat):(plU l k).length=k:=by simp[plU]
theorem d2u{l:List Int}{k i:Nat}(h:i<k):(plU l k).getD i default=at' l i:=by
 unfold plU;rw[Zc,ZE,Yq h];rfl
def Fil(l:List Int)(d:List Nat)(r:Nat)(out:List Int):Prop:=r<=l.length/\out.length=l.length/\∀x,x<r->out.getD (d.getD x default) default=mR l d (x+1)
theorem Fil.set{l:List Int}{d:List Nat}(h:Ord l l.length d){r:Nat}{out:List Int}(n:Fil l d r out)(a:r<l.length):Fil l d (r+1) (out.set (d.getD r default) (mR l d (r+1))):=by
 obtain⟨o,c,g⟩:=n;have i:=h.2.2.2.1 r a;refine⟨by omega,by simp[c],fun x p=> ?_⟩;rw[a3f _ _ _ _ (by omega)];by_cases e:x=r
 ·subst e;rw[if_pos U]
 ·rw[if_neg,g x (by omega)]
  intro he;have:=h.2.2.2.2.1 x r (by omega) a;rw[he]at this;exact LTl.irr this
theorem Fil.fin{l:List Int}{d:List Nat}(h:Ord l l.length d){r:Nat}{out:List Int}(g:Fil l d r out)(p:l.length<=r):out=sdU l l.length:=by
 obtain⟨n,c,e⟩:=g;refine a1l (d:=default) (by simp[c]) fun i o=> ?_
 obtain⟨a,a2⟩:=h.ix (k:=i) (by omega);rw[e5g (by omega)];have:=e (at' l i) (by omega);rw[a2,h.mR a,a2]at this;exact this
end Go.Mv
namespace Go.Mv
theorem b4e(ys:List Nat)(es:List AV):nilFit es (ys.map nV)=true:=by
 have:=a5i (ys.map Int.ofNat) es;rwa[List.map_map]at this
end Go.Mv
namespace Go.Mv
theorem c9q(l:List Int):(sdR l).length<=l.length:=by unfold sdR;split<;>simp
abbrev qV(q:Rat):AV:= .agg [iV q.num,iV (q.den:Int)]
theorem d2o(a b:Int):YD b (a.tmod b)=YD a b:=by
 unfold YD;rw[Int.natAbs_tmod,Nat.gcd_comm b.natAbs,<-Nat.gcd_rec,Nat.gcd_comm]
theorem e0y(a b:Int):(a.tmod b).natAbs<=a.natAbs:=by rw[Int.natAbs_tmod];exact Nat.mod_le _ _
theorem e2d(a:Int){b:Int}(h:b≠0):(a.tmod b).natAbs<b.natAbs:=by rw[Int.natAbs_tmod];exact Nat.mod_lt _ (by omega)
theorem d9v(a:Int):max a (-a)=(YD a 0:Int):=by
 simp only[Int.gcd_zero_right];omega
theorem a6z{u g:Int}(h:g∣u):u.tdiv g=u/g:=Int.tdiv_eq_ediv_of_dvd h
theorem c1y{u d:Int}(a:0<d):(Rat.divInt u d).num=u.tdiv (YD u d:Int)/\((Rat.divInt u d).den:Int)=d.tdiv (YD u d:Int):=by
 rw[a6z (Xh ..),a6z (XI ..),Rat.num_divInt,Rat.den_divInt,if_neg (by omega),Int.gcd_comm d u,Int.sign_eq_one_of_pos a,Int.one_mul];refine⟨U,?_⟩;have e:((d.natAbs:Nat):Int)=d:=by omega
 rw[Int.natCast_ediv,e]
theorem f3k{u d:Int}(a:d<0):(Rat.divInt u d).num=u.tdiv (-(YD u d:Int))/\((Rat.divInt u d).den:Int)=d.tdiv (-(YD u d:Int)):=by
 rw[<-Rat.neg_divInt_neg];have:=c1y (u:= -u) (d:= -d) (by omega);rw[Int.neg_gcd,Int.gcd_neg]at this;rw[this.1,this.2,Int.neg_tdiv,Int.neg_tdiv,Int.tdiv_neg,Int.tdiv_neg];exact⟨U,U⟩
theorem a4w{u d:Int}(a:d≠0):0<(YD u d:Int):=by
 have:=Int.gcd_pos_of_ne_zero_right u a;omega
theorem e1i{u d:Int}(a:d≠0):(YD u d:Int)<=(d.natAbs:Int):=by
 have:=Nat.le_of_dvd (by omega) (Int.gcd_dvd_natAbs_right u d);omega
theorem Q7(q:Rat):0<(q.den:Int):=by have:=q.den_nz;omega
def Sm(b:Int)(q:Rat):Prop:= -b<=q.num/\q.num<=b/\(q.den:Int)<=b
theorem a9y(u:Int)(g:Nat):(u.tdiv (g:Int)).natAbs<=u.natAbs:=by
 rw[Int.natAbs_tdiv];exact Nat.div_le_self _ _
theorem e0s{u d:Int}(c:d≠0):(Rat.divInt u d).num.natAbs<=u.natAbs/\(Rat.divInt u d).den<=d.natAbs:=by
 have key:∀(u d:Int),0<d->(Rat.divInt u d).num.natAbs<=u.natAbs/\(Rat.divInt u d).den<=d.natAbs:=by
  intro u d c;have h:=c1y (u:=u) c;have a:=a9y u (YD u d);have e:=a9y d (YD u d);rw[<-h.1]at a;rw[<-h.2]at e;exact⟨a,by omega⟩
 by_cases h:0<d
 ·exact key u d h
 ·have:=key (-u) (-d) (by omega)
  rw[Rat.neg_divInt_neg]at this;omega
theorem Sm.fr{u d b:Int}(a:d≠0)(hu: -b<=u/\u<=b)(c: -b<=d/\d<=b):Sm b (Rat.divInt u d):=by
 have:=e0s (u:=u) a;unfold Sm;omega
theorem b8o{x y a b:Int}(g: -a<=x/\x<=a)(h: -b<=y/\y<=b): -(a*b)<=x*y/\x*y<=a*b:=by
 have c:(x*y).natAbs<=(a*b).natAbs:=by
  rw[Int.natAbs_mul,Int.natAbs_mul];exact Nat.mul_le_mul (by omega) (by omega)
 have e:0<=a*b:=Int.mul_nonneg (by omega) (by omega);omega
theorem f4i(p q:Rat):p+q=Rat.divInt (p.num*q.den+q.num*p.den) ((p.den:Int)*q.den):=by
 rw[Rat.add_def',<-Rat.divInt_ofNat];simp
theorem b0t(p q:Rat):((p.den:Int)*q.den)≠0:=by
 have a:=Q7 p;have c:=Q7 q;have:=Int.mul_pos a c;omega
theorem f2j(p q:Rat):p+q=Rat.divInt (p.num*((q.den:Int).tdiv (YD p.den q.den:Int))+q.num*((p.den:Int).tdiv (YD p.den q.den:Int))) (((p.den:Int).tdiv (YD p.den q.den:Int))*q.den):=by
 have o:=a4w (u:=(p.den:Int)) (d:=(q.den:Int)) (by have:=Q7 q;omega);obtain⟨a,c⟩:=Xh (p.den:Int) (q.den:Int);obtain⟨b,i⟩:=XI (p.den:Int) (q.den:Int);rw[a6z (Xh ..),a6z (XI ..)];have l:(p.den:Int)/(YD (p.den:Int) (q.den:Int):Int)=a:=by
  conv=>lhs;lhs;rw[c]
  exact Xm _ (by omega)
 have n:(q.den:Int)/(YD (p.den:Int) (q.den:Int):Int)=b:=by
  conv=>lhs;lhs;rw[i]
  exact Xm _ (by omega)
 rw[l,n,f4i];have s:=Q7 p;have hq:=Q7 q;have e:a≠0:=by intro h;rw[h]at c;omega
 rw[Rat.divInt_eq_divInt_iff (b0t p q) (Int.mul_ne_zero e (by omega))];generalize (YD (p.den:Int) (q.den:Int):Int)=g at*;rw[c,i]
 grind
theorem f3e(p q:Rat):(p-q).num<0↔p<q:=by
 have h:0<=(p-q).num↔0<=p-q:=Rat.num_nonneg;constructor
 ·intro e
  have a:¬0<=p-q:=fun c=>by have:=h.2 c;omega
  grind
 ·intro e
  have a:¬0<=p-q:=by grind
  have c:¬0<=(p-q).num:=fun g=>a (h.1 g)
  omega
theorem d9x(q:Rat):(-q).num= -q.num/\(-q).den=q.den:=⟨rfl,rfl⟩
end Go.Mv
namespace Go.Mv
theorem e2t(p q:Rat):((p.den:Int).tdiv (YD p.den q.den:Int))*q.den≠0:=by
 have i:=Q7 p;have hq:=Q7 q;have g:=a4w (u:=(p.den:Int)) (d:=(q.den:Int)) (by omega);obtain⟨a,c⟩:=Xh (p.den:Int) (q.den:Int);rw[a6z (Xh ..)];have e:(p.den:Int)/(YD (p.den:Int) (q.den:Int):Int)=a:=by
  conv=>lhs;lhs;rw[c]
  exact Xm _ (by omega)
 rw[e];refine Int.mul_ne_zero (fun h=> ?_) (by omega);rw[h]at c;omega
abbrev d5v(a:Int×Int):AV:= .agg [iV a.1,iV a.2]
theorem e4z{α:Type}[Inhabited α]{xs:List α}{i j:Nat}{y:α}(h:i<xs.length):(xs.set i y).getD j default=if j=i then y else xs.getD j default:=by
 rw[Zc,List.getElem?_set,Zc];by_cases e:i=j
 ·subst e;rw[if_pos U,if_pos h,if_pos U];rfl
 ·rw[if_neg e,if_neg (fun h=>e h.symm)]
section
variable{cx:Cx}{keep:List Nat}{ops0:Array Oper}{r:List Oper}{A:Asr}{Q:Asr->List Log->Prop}{d:Nat}{ty:Nat}{pos:String}{aft:Array Edge}
theorem f0m{x:Operand}{T f:Nat}{ls:List AV}{o:Nat×Nat}{v:AV}(n:opd A x=some (.agg ls))(a:(match(tyS cx.P T).k with| .struct fs=>fs[f]? |_=>none)=some o)
 (l:partF cx.P o.2 (ls.drop o.1)=some v) (g:slotOk keep (.t d) v=true)
 (h:XR cx keep ops0 r ((.t d,v)::A) fun e p=>Q e ((rds x,[.t d])::p)):XR cx keep ops0 (⟨some d,.field T x f,ty,pos,aft,none⟩::r) A Q:=by
 refine K2 (fun o i=>by simp only[aopV,i]) ?_ g h;simp only[opV,E3,E5 n,fieldA];split at a
 ·rename_i fs c
  simp only[c,a,a1d l,Zm,and_self]
 ·cases a
end
section
variable{cx:Cx}{keep:List Nat}{ops0:Array Oper}{r:List Oper}{A:Asr}{Q:Asr->List Log->Prop}{d:Nat}{ty:Nat}{pos:String}{aft:Array Edge}
theorem b2b{α:Type}[Inhabited α]{f:α->AV}{xs:List α}{y:α}{v:AV}{T id g m s i j:Nat}{a x:Operand}(p:opd A a=some (.ptr id g none i j))(t:look A (.h id)=some (.obj g m s (xs.map f)))(z:opd A x=some v)(l:i<xs.length)
 (q:b6n ((leaves (f (xs.getD i default))).drop j) v=true)
 (c:(leaves v).length=(tyS cx.P T).size/\0<(leaves v).length/\j+(leaves v).length<=(leaves (f (xs.getD i default))).length/\W7 (leaves v) ((leaves (f (xs.getD i default))).drop j)=true) (hm:m≠2)
 (u:putAt (f (xs.getD i default)) j v=f y)
 (e:slotOk keep (.h id) (.obj g m s ((xs.set i y).map f))=true)
 (h:XR cx keep ops0 r ((.h id,.obj g m s ((xs.set i y).map f))::A) fun o B=>Q o ((rds a++(rds x++[.h id,.h id,.h id]),[.h id])::B)):
 XR cx keep ops0 (⟨none,.store T a x,ty,pos,aft,none⟩::r) A Q:=by
 have he:(xs.map f)[i]? =some (f (xs.getD i default)):=by rw[ZE,Ze l,Zc,Ze l];rfl
 have n:(xs.map f).set i (putAt (f (xs.getD i default)) j v)=(xs.set i y).map f:=by rw[u,List.map_set]
 refine c7r p z t he q ⟨hm,c.1,c.2.1,c.2.2.1,c.2.2.2⟩ (by rw[n];exact e) ?_;rw[n];exact h
end
def mkI(k:Int)(n:Nat):List Int:=(Yb n).map fun i:Nat=>k+(i:Int)
@[simp] theorem mkI_length(k:Int)(n:Nat):(mkI k n).length=n:=by simp[mkI]
def mkF(k:Int)(n:Nat):List (Int×Int):=(Yb n).map fun i:Nat=>(k+2*(i:Int),k+2*(i:Int)+1)
@[simp] theorem mkF_length(k:Int)(n:Nat):(mkF k n).length=n:=by simp[mkF]
theorem e2w{α:Type}[Inhabited α]{xs ys:List α}(e:xs.length=ys.length)(h:∀j,j<xs.length->xs.getD j default=ys.getD j default):xs=ys:=by
 refine List.ext_getElem e fun i a c=> ?_
 have:=h i a;rw[Zc,Zc,Ze a,Ze c]at this;exact this
section
variable{cx:Cx}{keep:List Nat}{ops0:Array Oper}{r:List Oper}{A:Asr}{Q:Asr->List Log->Prop}{d:Nat}{ty:Nat}{pos:String}{aft:Array Edge}
theorem V6{x i:Operand}{T E id g a c:Nat}{n:Int}{k:IntKind}(I:opd A x=some (.ptr id g none a 0))(s:opd A i=some (.val (.int k n)))(p:(tyS cx.P T).k= .array c E)(q:P6 (tyS cx.P E).k=false)(B:(tyS cx.P E).size=1)(y:0<=n/\n<c)
 (u:slotOk keep (.t d) (.ptr id g none a n.toNat)=true)
 (h:XR cx keep ops0 r ((.t d,.ptr id g none a n.toNat)::A) fun l J=>Q l ((rds x++rds i,[.t d])::J)):XR cx keep ops0 (⟨some d,.indexAddr T x i,ty,pos,aft,none⟩::r) A Q:=by
 have e:0+n.toNat*(tyS cx.P E).size=n.toNat:=by rw[B];omega
 have hlt:n.toNat<c:=by omega
 refine K2 (v:= .ptr id g none a n.toNat) (fun o z=>by simp only[aopV,z]) ?_ u h;simp only[opV,E3,E5 I,E5 s,indexAddrA,W4 y.1,p,F8,F4,q,hlt,e,Zm,Zi,and_self,and_true,true_and]
end
section
variable{cx:Cx}{keep:List Nat}{ops0:Array Oper}{r:List Oper}{A:Asr}{Q:Asr->List Log->Prop}{d:Nat}{ty:Nat}{pos:String}{aft:Array Edge}
end
theorem f0r{cx:Cx}{keep:List Nat}{A B:Asr}{c:Code}{Q:AExit->Asr->Prop}(h:HasL A B)(e:XA cx keep c B Q):XA cx keep c A Q:=fun st a=>e st (h.sat a)
theorem P8{keep:List Nat}{id g m s:Nat}{es:List AV}(h:G3 es=true)(hm:¬(m=3\/m=4)):slotOk keep (.h id) (.obj g m s es)=true:=by
 simp[slotOk,refOkV,h,hm]
instance:Inhabited Rat:=⟨0⟩
def f5a(xs:List Rat):List Rat:=xs.mergeSort fun x y=>decide (x<=y)
@[simp] theorem sortQ_length(xs:List Rat):(f5a xs).length=xs.length:=List.length_mergeSort _
def vpS(xs ys:List Int):Bool:=decide (xs.length=ys.length)&&decide (xs.length<=7)&&a0u (-12) 12 xs&&a0u (-12) 12 ys
def wd(xs:List Int):Bool:=xs.any fun x=>x !=xs.getD 0 default
def vc(xs ys:List Int):Bool:=vpS xs ys&&wd xs
theorem Sm.mono{a b:Int}{q:Rat}(h:Sm a q)(c:a<=b):Sm b q:=by obtain⟨e,g,i⟩:=h;exact⟨by omega,by omega,by omega⟩
theorem e0b{xs:List Int}{e c:Int}(h:a0u e c xs=true)(g:e<=0/\0<=c)(i:Nat):e<=xs.getD i default/\xs.getD i default<=c:=by
 rcases Nat.lt_or_ge i xs.length with a|a
 ·exact T6.1 h i a
 ·rw[Zc,ZO a];exact g
def vd(xs:List Int):Bool:=decide (xs.length<=10)&&a0u (-200) 200 xs
theorem a4j{xs:List Int}(h:vd xs=true):xs.length<=10:=by
 simp only[vd,Zx,decide_eq_true_eq]at h;exact h.1
theorem e1c{c a:Int}{xs:List Int}(h:∀i,i<xs.length->c<=xs.getD i default/\xs.getD i default<=a):a0u c a xs=true:=T6.2 h
theorem d2w{e c:Int}{xs:List Int}{i:Nat}(a:i<xs.length)(h:¬(e<=xs.getD i default/\xs.getD i default<=c)):a0u e c xs=false:=by
 rw[Bool.eq_false_iff];exact fun g=>h (T6.1 g i a)
theorem e5z{xs:List Int}(h:vd xs=true):a0u (-200) 200 xs=true:=by
 simp only[vd,Zx]at h;exact h.2
section
variable{cx:Cx}{keep:List Nat}{A:Asr}{Q:AExit->Asr->Prop}
theorem Y9{β:Type}{a b:Code}(K:Asr)(_:HasL A K)(I:β->Asr)(P:β->Prop)(o:XA cx keep a A fun r c=>match r with
 | .normal=>∃b,P b/\HasL c (K++I b)
 |r=>Q r c)
 (p:∀x,P x->XA cx keep b (K++I x) Q):XA cx keep (.seq a b) A Q:=by
 refine A3 ?_;intro st t;obtain⟨n,r,g,h,c,l,e⟩:=o st t;refine⟨n,r,g,h,c,l,?_⟩;cases r with
 |normal=>
  obtain⟨x,s,q⟩:=e;exact f0r q (p x s)
 |ret=>exact e
 |exit i=>exact e
theorem V2{a b c:Code}(h:XA cx keep (.seq a (.seq b c)) A Q):XA cx keep (.seq (.seq a b) c) A Q:=by
 intro st t;obtain⟨n,r,p,e,q⟩:=h st t;refine⟨n+1,r,p,?_,q⟩;cases n with
 |zero=>simp[aexec]at e
 |succ n=>
  simp only[aexec]at e|-;cases g:aexec (CW cx) cx keep n a st with
  |none=>simp[g]at e
  |some x=>
   obtain⟨u,s1⟩:=x;have s:=a0f cx g (Nat.le_succ n);simp only[g]at e;cases u with
   |normal=>
    simp only at e|-;cases n with
    |zero=>simp[aexec]at g
    |succ n=>
     simp only[aexec]at e;cases l:aexec (CW cx) cx keep n b s1 with
     |none=>simp[l]at e
     |some y=>
      obtain⟨v,s2⟩:=y;have o:=a0f cx l (show n<=n+1 by omega);simp only[l]at e;simp only[g,o];cases v with
      |normal=>exact a0f cx e (show n<=n+1+1 by omega)
      |ret=>simpa using e
      |exit i=>simpa using e
   |ret=>simpa[g]using e
   |exit i=>simpa[g]using e
theorem H3{body:Code}(h:XA cx keep body A fun r c=>match r with
 | .normal=>XA cx keep (.loop body) c Q
 |r=>Q r c):XA cx keep (.loop body) A Q:=by
 intro st q;obtain⟨n,r,a,e,c,g,l⟩:=h st q;cases r with
 |normal=>
  obtain⟨m,v,o,s,p,t,u⟩:=l a g;refine⟨max n m+1,v,o,?_,p,t,u⟩;simp only[aexec,a0f cx e (Nat.le_max_left n m),a0f cx s (Nat.le_max_right n m)]
 |ret=>exact⟨n+1,_,a,by simp only[aexec,e],c,g,l⟩
 |exit i=>exact⟨n+1,_,a,by simp only[aexec,e],c,g,l⟩
end
section
variable{cx:Cx}{keep:List Nat}{ops0:Array Oper}{r:List Oper}{A:Asr}{Q:Asr->List Log->Prop}{d:Nat}{ty:Nat}{pos:String}{aft:Array Edge}
theorem d1j{T g:Nat}{u v:AV}(e:cx.gl g=some u)(n:partF cx.P T [u]=some v)(i:slotOk keep (.t d) v=true)
 (h:XR cx keep ops0 r ((.t d,v)::A) fun a p=>Q a (([],[.t d])::p)):XR cx keep ops0 (⟨some d,.load T (.global g),ty,pos,aft,none⟩::r) A Q:=
 K2 (fun o l=>by simp only[aopV,l]) (by
  have c:opd A (.global g)=some (.val (.pointer (some ⟨g,0,none⟩))):=rfl;simp only[opV,E3,E5 c,loadG,e,a1d n,Zm,and_self];exact⟨trivial,U⟩) i h
def e2e(P:Program)(T:Nat):Option Nat:=match P.underlying T with
 |some (.map key elem)=>if a5v (tyS P key).k=true then some elem else none
 |_=>none
theorem d0z{T n:Nat}{x k:Operand}{s:ByteArray}{g:List (ByteArray×Value)}{u v:AV}{b:Bool}{elem:Nat}(B:opd A x=some (.val (.map (some n))))(q:opd A k=some (.val (.string s)))(hm:cx.mp n=some g)(a:e2e cx.P T=some elem)
 (E:P6 (tyS cx.P elem).k=false/\O1 (tyS cx.P elem).zero=true) (c:(match a4e s g with|some w=>(ofConst w,true)|none=>((tyS cx.P elem).zero,false))=(v,b)) (e:slotOk keep (.t d) (.tup [v,.val (.bool b)])=true)
 (h:XR cx keep ops0 r ((.t d,.tup [v,.val (.bool b)])::A) fun p I=>Q p ((rds x++rds k,[.t d])::I)):XR cx keep ops0 (⟨some d,.lookup T x k true,ty,pos,aft,none⟩::r) A Q:=by
 refine K2 (l:=rds x++rds k) (fun o y=>by simp only[aopV,y]) ?_ e h;simp only[opV,E3,E5 B,E5 q,lookupA,hm];unfold e2e at a;split at a
 ·rename_i key el hu
  split at a
  ·rename_i z
   cases a;simp only[hu,E3,F8,z,true_and];cases i:a4e s g with
   |none=>
    rw[i]at c;simp only[Zj]at c;obtain⟨rfl,rfl⟩:=c;simp[E3,F8,F4,E]
   |some w=>
    rw[i]at c;simp only[Zj]at c;obtain⟨rfl,rfl⟩:=c;simp[F4]
  ·cases a
 ·cases a
end
section
variable{cx:Cx}{keep:List Nat}{ops0:Array Oper}{r:List Oper}{A:Asr}{Q:Asr->List Log->Prop}{d:Nat}{ty:Nat}{pos:String}{aft:Array Edge}
variable{C:Caller}{m f j:Nat}{cs fs:List AV}{G:Type}{vs:G->List AV}{ws:G->Ws}{ls:List Mv.Loc}
def b4t(C:Caller)(A:Asr)(m f j:Nat)(cs fs:List AV){G:Type}(vs:G->List AV)(ws:G->Ws)(ls:List Mv.Loc):Prop:=
 wpW C A (absorbLeaves m f j cs fs) fun a w l=>∃g,a=vs g/\w=ws g/\l=ls
theorem K1:b4t C A m f j cs [] (fun _:Unit=>[]) (fun _=>[]) []:=C3 ⟨(),rfl,rfl,rfl⟩
theorem G5{v:AV}(h:T2 (cs.headD .undef) v=true)(t:b4t C A m f (j+1) cs.tail fs vs ws ls)(hm:m≠2:=by decide):b4t C A m f j cs (v::fs) (fun g=>v::vs g) ws ls:=by
 refine A5 (a7b hm h (A5 (H7 t ?_)));rintro _ _ _ ⟨g,rfl,rfl,rfl⟩;exact C3 ⟨g,U,by simp,by simp⟩
theorem a0p{id g s n:Nat}{ys:List AV}(hid:100000<=id)(a:id≠fid f j)(e:look A (.h id)=some (.obj g 0 s ys))(c:n=ys.length)
 (t:∀g',b4t C (put (put A (.h id) (.dead g)) (.h (fid f j)) (.obj g' 0 s ys)) 3 f (j+1) cs.tail fs vs ws ls):
 b4t C A 3 f j cs (.sl id g none 0 n::fs) (fun x:Nat×G=> .sl (fid f j) x.1 none 0 n::vs x.2) (fun x=>(.h id,.dead g)::(.h (fid f j),.obj x.1 0 s ys)::ws x.2) (.h id:: .h (fid f j)::ls):=by
 subst c;refine A5 ?_;unfold K0;simp only[if_true];rw[if_pos (by simp[hid,a])];refine A5 (K3 e ?_);simp only[if_true];refine A5 (E7 (Zd _) (A5 (J5 (A5 (M8 fun o=>A5 (J5 (C3 ?_)))))));have:=t (I0 o+1);simp only[Yl];refine A5 (H7 this ?_);rintro _ _ _ ⟨x,rfl,rfl,rfl⟩;exact C3 ⟨(I0 o+1,x),U,by simp,by simp⟩
theorem G0{T id g s i:Nat}{a x:Operand}{es:List AV}{e:AV}(p:opd A a=some (.ptr id g none i 0))(E:opd A x=some (.agg fs))(y:look A (.h id)=some (.obj g m s es))(he:es[i]? =some e)
 (u:b4t (CW cx) A m id 0 (leaves e) fs vs ws ls) (n:∀z,look (puts A (ws z)) (.h id)=some (.obj g m s es))
 (l:m≠2/\fs.length=(tyS cx.P T).size/\0<fs.length/\fs.length<=(leaves e).length) (q:∀z,W7 (vs z) (leaves e)=true) (B:∀z,putAt e 0 (.agg (vs z))= .agg (vs z))
 (t:∀z,tRefsOk keep (keptWs keep (ws z++[(.h id,.obj g m s (es.set i (.agg (vs z))))]))=true)
 (h:∀z,XR cx keep ops0 r (J7 A (ws z++[(.h id,.obj g m s (es.set i (.agg (vs z))))])) fun o I=>Q o ((rds a++(rds x++(.h id::(ls++[.h id,.h id]))),V8 (ws z++[(.h id,.obj g m s (es.set i (.agg (vs z))))]))::I)):
 XR cx keep ops0 (⟨none,.store T a x,ty,pos,aft,none⟩::r) A Q:=by
 refine e1f (v:=fun _=> .undef) (ws:=fun z=>ws z++[(.h id,.obj g m s (es.set i (.agg (vs z))))]) (ls:=rds a++(rds x++(.h id::(ls++[.h id,.h id])))) U ?_ (fun z=> ?_) (fun z=> ?_) (fun z=> ?_) (A1:=fun z=>J7 A (ws z++[(.h id,.obj g m s (es.set i (.agg (vs z))))]))
 ·simp only[aopV]
  refine A5 (E7 (by simp) (A5 (J6 p (A5 (J6 E (A5 ?_))))));unfold b3d;rw[if_neg (by simp[b5a])];unfold a6t;refine A5 (K3 y ?_);simp only[he,if_true];refine A5 ?_;simp only[absorb,ZX];refine A5 (H7 u ?_);rintro _ _ _ ⟨z,rfl,rfl,rfl⟩;refine C3 ?_;have c:=n z;refine A5 (K3 (by simpa[puts]using c) ?_);simp only[he];refine A5 (E7 (by refine⟨trivial,l.1,l.2.1,l.2.2.1,?_,q z,.inl trivial⟩;simpa[leaves]using l.2.2.2) (A5 (I4 ?_)));simp only[wrNode];rw[M6 (v:= .obj g m s es) (by simpa[puts]using c)];simp only[F4];refine J5 (C3 ?_);exact⟨z,U,by simp[B z],by simp⟩
 ·simpa[setD]using t z
 ·simpa[setD]using b1l A (ws z++[(.h id,.obj g m s (es.set i (.agg (vs z))))])
 ·simpa[setD]using h z
theorem N8{T id g s k:Nat}{a x:Operand}{e v:AV}(n:opd A a=some (.ptr id g none 0 k))(q:opd A x=some v)(o:look A (.h id)=some (.obj g 3 s [e]))(p:b5a v=true)(l:(tyS cx.P T).size=1)(he:k+1<=(leaves e).length)
 (c:slotOk keep (.h id) (.obj g 3 s [putAt e k v])=true)
 (h:XR cx keep ops0 r ((.h id,.obj g 3 s [putAt e k v])::A) fun i t=>Q i ((rds a++(rds x++[.h id]),[.h id])::t)):
 XR cx keep ops0 (⟨none,.store T a x,ty,pos,aft,none⟩::r) A Q:=by
 refine d8a (v:= .undef) (ws:=[(.h id,.obj g 3 s [putAt e k v])]) (ls:=rds a++(rds x++[.h id])) U ?_ (I1 c) (b1z _ _ _) h;simp only[aopV];refine A5 (E7 (by simp) (A5 (J6 n (A5 (J6 q (A5 ?_))))));unfold b3d;rw[if_pos p];unfold b8m;refine A5 (K3 o ?_);dsimp only;rw[if_pos (show(3:Nat)=3 from U)];simp only[Zr];refine A5 (E7 ⟨l,he⟩ (J5 (C3 ?_)));exact⟨U,by simp,by simp⟩
def c2y(C:Caller)(A:Asr)(b:Bool)(fs vs:List AV)(ws:Ws)(ls:List Mv.Loc):Prop:=wpW C A (retLeaves b fs) fun a w l=>a=vs/\w=ws/\l=ls
variable{b:Bool}{us:List AV}{w1:Ws}
theorem G8:c2y C A b [] [] [] []:=C3 ⟨rfl,rfl,rfl⟩
theorem D9{v:AV}(h:(immLeaf v&& !K7 v)=true)(t:c2y C A b fs us w1 ls):c2y C A b (v::fs) (v::us) w1 ls:=by
 refine A5 (c5n h (A5 (H7 t ?_)));rintro _ _ _ ⟨rfl,rfl,rfl⟩;exact C3 ⟨U,by simp,by simp⟩
theorem F3{cids:List Cid}{outs:List (List AV)}{a T id g s:Nat}{rs:List ResultVar}{os:List AV}(q:look A (.t a)=some (.ptr id g none 0 0))(n:look A (.h id)=some (.obj g 3 s [.agg fs]))(i:(fs.all fun l=> !isOwn l)=true)
 (o:partF cx.P T fs=some (.agg fs)) (p:c2y (CW cx) A b fs us w1 ls) (h:c2w cx b cids outs rs (puts A w1) os):c2w cx b cids outs (.cell a T::rs) A (.agg us::os):=by
 refine a8t ?_;unfold retVar;refine A5 (I4 ?_);rw[b4m q];refine A5 (I4 ?_);simp only[loadG,loadA,rdNode,E3];rw[M6 (by exact n)];simp only[E3,F8,F4,true_and,Zr,ZX,leaves];rw[a4g _ _ i,a1d o];refine A5 (H7 p ?_);rintro y w1 z ⟨rfl,rfl,rfl⟩;refine C3 ?_;have c:wpW (CW cx) (puts A ([]++([]++(w1++[])))) (retAll cx.P b rs) fun us ws _=>us=os/\a3u (puts (puts A w1) ws) cids outs:=by
  simp only[Zi,Zm];exact h
 refine H7 c ?_;rintro v x u ⟨rfl,e⟩;refine⟨U,?_⟩;simp only[Zi,Zm,b5t];exact e
variable{k:Nat}
end
def prS(f:Nat->Int):Nat->Int
 |0=>0
 |k+1=>prS f k+f k
theorem e9q{f:Nat->Int}{c:Int}:∀{n:Nat},(∀i,i<n->0<=f i/\f i<=c)->0<=prS f n/\prS f n<=n*c
 |0,_=>⟨Xg _,by simp[prS]⟩
 |n+1,h=>by
  have a:=e9q (n:=n) fun i g=>h i (by omega)
  have e:=h n (by omega);rw[prS];have:((n+1:Nat):Int)*c=n*c+c:=by rw[Int.natCast_succ,Int.add_mul,Int.one_mul]
  omega
theorem d9w(f:Nat->Int):∀n,prS f n=((Yb n).map f).sum
 |0=>rfl
 |n+1=>by rw[prS,d9w f n,YQ,ZZ,Xy];simp
abbrev wList:ByteArray:=⟨#[108,105,115,116]⟩
abbrev wA:ByteArray:=⟨#[97]⟩
abbrev wB:ByteArray:=⟨#[98]⟩
abbrev wC:ByteArray:=⟨#[99]⟩
abbrev wD:ByteArray:=⟨#[100]⟩
abbrev e0z:ByteArray:=⟨#[115,111,114,116]⟩
abbrev f3u:ByteArray:=⟨#[114,101,118]⟩
abbrev f4q:ByteArray:=⟨#[110,101,103]⟩
abbrev f3i:ByteArray:=⟨#[97,98,115]⟩
abbrev e8y:ByteArray:=⟨#[100,105,102,102]⟩
abbrev e9j:ByteArray:=⟨#[115,117,109,115]⟩
abbrev c9n:ByteArray:=⟨#[114,97,110,107,115]⟩
abbrev d9r:ByteArray:=⟨#[116,111,116,97,108]⟩
abbrev f3z:ByteArray:=⟨#[97,100,100]⟩
abbrev e5m:ByteArray:=⟨#[106,111,105,110]⟩
def nd(w:ByteArray):Int:=
 if w.toList=wList.toList then 0 else if w.toList=wA.toList then 0 else if w.toList=wB.toList then 0 else if w.toList=wC.toList then 0 else if w.toList=wD.toList then 0
 else if w.toList=e0z.toList then 1 else if w.toList=f3u.toList then 1 else if w.toList=f4q.toList then 1 else if w.toList=f3i.toList then 1 else if w.toList=e8y.toList then 1
 else if w.toList=e9j.toList then 1 else if w.toList=c9n.toList then 1 else if w.toList=d9r.toList then 1 else if w.toList=f3z.toList then 2 else if w.toList=e5m.toList then 2 else-1
def rch(w:ByteArray):Int:=
 if w.toList=e0z.toList then 1 else if w.toList=f3u.toList then 1 else if w.toList=f4q.toList then 1 else if w.toList=f3i.toList then 1 else if w.toList=e8y.toList then 1
 else if w.toList=e9j.toList then 1 else if w.toList=c9n.toList then 1 else if w.toList=d9r.toList then 1 else if w.toList=f3z.toList then 2 else if w.toList=e5m.toList then 2
 else if w.toList=wA.toList then 0 else if w.toList=wB.toList then 0 else if w.toList=wC.toList then 0 else if w.toList=wD.toList then 0 else-1
theorem f3s{p:Prop}[Decidable p]{a b:Int}(c: -1<=a/\a<=2)(e: -1<=b/\b<=2): -1<=(if p then a else b)/\(if p then a else b)<=2:=by split<;>assumption
theorem e9g(w:ByteArray): -1<=rch w/\rch w<=2:=by
 unfold rch
 repeat (refine f3s (by decide) ?_)
 decide
def J2(x:List Int)(i:Nat):Int:=x.getD i default
def dfI(x:List Int):List Int:=(Yb x.length).map fun i=>if i=0 then J2 x 0 else J2 x i-J2 x (i-1)
def smI(x:List Int):List Int:=(Yb x.length).map fun i=>prS (J2 x) (i+1)
def rkT(x:List Int)(v:Int)(j:Nat):Int:=if J2 x j<v then 2 else if J2 x j=v then 1 else 0
def rkI(x:List Int):List Int:=(Yb x.length).map fun i=>1+prS (rkT x (J2 x i)) x.length
def adI(x y:List Int):List Int:=(Yb x.length).map fun i=>J2 x i+J2 y i
def X6(op:ByteArray)(x y:List Int):Option (List Int):=
 if op.toList=e0z.toList then some (S6 x)else if op.toList=f3u.toList then some x.reverse else if op.toList=f4q.toList then some (x.map fun v=> -v)
 else if op.toList=f3i.toList then some (x.map fun v=>max v (-v))else if op.toList=e8y.toList then some (dfI x)else if op.toList=e9j.toList then some (smI x)
 else if op.toList=c9n.toList then some (rkI x)else if op.toList=d9r.toList then some [x.sum]else if op.toList=f3z.toList then(if x.length=y.length then some (adI x y)else none)
 else if op.toList=e5m.toList then some (x++y)else some x
def vl(x:List Int):Bool:=decide (x.length<=40)&&a0u (-100000) 100000 x
theorem P7{x:List Int}:vl x=true↔x.length<=40/\a0u (-100000) 100000 x=true:=by simp[vl]
theorem b9d{x:List Int}(h:vd x=true):vl x=true:=by
 rw[P7];have c:=a4j h;refine⟨by omega,T6.2 fun i a=> ?_⟩;have:=T6.1 (e5z h) i a;omega
def mkR(op:ByteArray)(x y:List Int):Option (List Int):=(X6 op x y).bind fun r=>if vl r=true then some r else none
def raR(op:ByteArray)(x y:List Int):List Int:=(X6 op x y).getD []
theorem b2u{op:ByteArray}{x y r:List Int}(h:mkR op x y=some r):vl r=true:=by
 unfold mkR at h;cases a:X6 op x y with
 |none=>rw[a]at h;cases h
 |some q=>
  rw[a,Zk]at h;split at h
  ·cases h;assumption
  ·cases h
theorem b8d{op:ByteArray}{x y r:List Int}(h:mkR op x y=some r):raR op x y=r:=by
 unfold mkR at h;unfold raR;cases a:X6 op x y with
 |none=>rw[a]at h;cases h
 |some q=>
  rw[a,Zk]at h;split at h
  ·cases h;rfl
  ·cases h
theorem a2i{x:List Int}(h:vl x=true)(i:Nat): -100000<=J2 x i/\J2 x i<=100000:=by
 unfold J2;rcases Nat.lt_or_ge i x.length with c|c
 ·exact T6.1 (P7.1 h).2 i c
 ·rw[Zc,ZO c];decide
theorem d4u{x:List Int}(h:vl x=true):∀i:Nat,-(100000*(i:Int))<=prS (J2 x) i/\prS (J2 x) i<=100000*(i:Int)
 |0=>by simp[prS]
 |i+1=>by
  have a:=d4u h i;have c:=a2i h i;rw[prS];omega
theorem f5l(x:List Int)(v:Int)(k:Nat):0<=prS (rkT x v) k/\prS (rkT x v) k<=k*2:=e9q fun i _=>by unfold rkT;split<;>(try split)<;>omega
def X1(n:Nat)(f g:Nat->Int)(i:Nat)(l:List Int):Prop:=l.length=n/\∀j,j<n->l.getD j default=if j<i then f j else g j
theorem X1.step{n i:Nat}{f g:Nat->Int}{l:List Int}(h:X1 n f g i l)(a:i<n){v:Int}(p:v=f i):X1 n f g (i+1) (l.set i v):=by
 refine⟨by simp[h.1],fun j o=> ?_⟩;rw[a3f _ _ _ _ (by rw[h.1];exact a)];by_cases e:j=i
 ·subst e;rw[if_pos U,if_pos (by omega),p]
 ·rw[if_neg e,h.2 j o]
  by_cases c:j<i
  ·rw[if_pos c,if_pos (by omega)]
  ·rw[if_neg c,if_neg (by omega)]
theorem X1.at{n i:Nat}{f g:Nat->Int}{l:List Int}(h:X1 n f g i l)(a:i<n):l.getD i default=g i:=by rw[h.2 i a,if_neg (by omega)]
theorem X1.fin{n i:Nat}{f g:Nat->Int}{l:List Int}(h:X1 n f g i l)(c:n<=i):l=(Yb n).map f:=by
 refine a1l (d:=default) (by simp[h.1]) fun j a=> ?_
 rw[h.1]at a;rw[h.2 j a,if_pos (by omega),Zc,ZE,Yq a]
 rfl
theorem X1.start(x:List Int)(f:Nat->Int):X1 x.length f (J2 x) 0 x:=⟨rfl,fun j a=>by rw[if_neg (by omega)];rfl⟩
theorem b0x(x:List Int)(f:Int->Int):(Yb x.length).map (fun i=>f (J2 x i))=x.map f:=by
 apply List.ext_getElem
 ·simp
 ·intro i a c
  simp at a;simp[J2,Zc,Ze a]
theorem Y6{f:Nat->Int}(i:Nat):(Yb (i+1)).map f=(Yb i).map f++[f i]:=by rw[YQ,ZZ];rfl
def a6i(x:List Int)(i:Nat)(l:List Int):Prop:=l.length=x.length/\∀j,j<x.length->l.getD j default=if i<j then J2 x j-J2 x (j-1)else J2 x j
theorem a6i.step{x l:List Int}{i:Nat}(h:a6i x i l)(n:0<i)(g:i<x.length):a6i x (i-1) (l.set i (l.getD i default-l.getD (i-1) default)):=by
 refine⟨by simp[h.1],fun j a=> ?_⟩;rw[a3f _ _ _ _ (by rw[h.1];exact g)];by_cases e:j=i
 ·subst e
  rw[if_pos U,h.2 j a,h.2 (j-1) (by omega),if_neg (by omega),if_neg (by omega),if_pos (by omega)]
 ·rw[if_neg e,h.2 j a]
  by_cases c:i<j
  ·rw[if_pos c,if_pos (by omega)]
  ·rw[if_neg c,if_neg (by omega)]
theorem a6i.fin{x l:List Int}(h:a6i x 0 l):l=dfI x:=by
 refine a1l (d:=default) (by simp[h.1,dfI]) fun j a=> ?_
 rw[h.1]at a;rw[h.2 j a,dfI,Zc,ZE,Yq a];show _=if j=0 then _ else _
 by_cases e:j=0
 ·subst e;rw[if_neg (by omega),if_pos U]
 ·rw[if_pos (by omega),if_neg e]
theorem c4t(x:List Int):prS (J2 x) x.length=x.sum:=d9w (J2 x) x.length▸(by
 congr 1;apply List.ext_getElem
 ·simp
 ·intro i c a
  simp[J2,Zc,Ze a])
end Go.Mv
namespace Go.Mv
theorem e4q{x:List Int}{k:Nat}(h:k<x.length):x.drop k=x.getD k default::x.drop (k+1):=by
 rw[YF h,Zc,Ze h];rfl
def e4f(k:Nat):ByteArray:=⟨#[UInt8.ofNat (97+k)]⟩
def vcs(a:List (List Int)):Bool:=a.all vd&&decide (a.length<=4)
theorem a1k{a:List (List Int)}:vcs a=true↔(∀c∈a,vd c=true)/\a.length<=4:=by simp[vcs]
theorem e1s(a:List (List Int)):vcs a=(decide ((a.length:Int)<=4)&& !(a.any fun c=> !vd c)):=by
 have e:(!(a.any fun c=> !vd c))=a.all vd:=by
  induction a with
  |nil=>rfl
  |cons c r h=>simp[h]
 have g:decide ((a.length:Int)<=4)=decide (a.length<=4):=decide_eq_decide.2 (by omega);rw[vcs,e,g,Bool.and_comm]
theorem e6q{ls:List (List Int)}{q:List Int->Bool}{i:Nat}(a:i<ls.length)(h:q (ls.getD i default)=true):decide (0<=(i:Int))=ls.any q:=by
 rw[decide_eq_true (by omega),eq_comm,List.any_eq_true];exact⟨_,L8 a,h⟩
theorem e3y{ls:List (List Int)}{q:List Int->Bool}(h:∀j,j<ls.length->q (ls.getD j default)=false):decide (0<=(-1:Int))=ls.any q:=by
 rw[decide_eq_false (by omega),eq_comm,List.any_eq_false];intro c e;obtain⟨i,a,rfl⟩:=Xc e;have:=h i a;rw[Zc,Ze a]at this;simp[show q ls[i]=false from this]
def c9v(x:List Int)(i:Nat)(l:List Int):Prop:=l.length=x.length/\∀j,j<x.length->l.getD j default=if j<i\/x.length-1-i<j then J2 x (x.length-1-j)else J2 x j
theorem c9v.start(x:List Int):c9v x 0 x:=⟨rfl,fun j a=>by rw[if_neg (by omega)];rfl⟩
theorem c9v.step{x l:List Int}{i:Nat}(h:c9v x i l)(n:i<x.length-1-i):c9v x (i+1) ((l.set i (l.getD (x.length-1-i) default)).set (x.length-1-i) (l.getD i default)):=by
 refine⟨by simp[h.1],fun j g=> ?_⟩;rw[a3f _ _ _ _ (by simp[h.1];omega),a3f _ _ _ _ (by rw[h.1];omega)];by_cases e:j=x.length-1-i
 ·subst e
  rw[if_pos U,h.2 i (by omega),if_neg (by omega),if_pos (by omega),show x.length-1-(x.length-1-i)=i by omega]
 ·rw[if_neg e]
  by_cases a:j=i
  ·subst a
   rw[if_pos U,h.2 _ (by omega),if_neg (by omega),if_pos (by omega)]
  ·rw[if_neg a,h.2 j g]
   by_cases c:j<i\/x.length-1-i<j
   ·rw[if_pos c,if_pos (by omega)]
   ·rw[if_neg c,if_neg (by omega)]
theorem c9v.fin{x l:List Int}{i:Nat}(h:c9v x i l)(g:x.length-1-i<=i):l=x.reverse:=by
 refine a1l (d:=default) (by simp[h.1]) fun j a=> ?_
 rw[h.1]at a;have e:x.reverse.getD j default=J2 x (x.length-1-j):=by
  unfold J2;rw[Zc,Zc,List.getElem?_reverse a]
 rw[h.2 j a,e];split
 ·rfl
 ·rename_i c
  rw[show x.length-1-j=j by omega]
end Go.Mv
namespace Go.Mv
theorem e6l{w:ByteArray}(h:1<=nd w):w.toList=[115,111,114,116]\/w.toList=[114,101,118]\/w.toList=[110,101,103]\/w.toList=[97,98,115]\/w.toList=[100,105,102,102]\/w.toList=[115,117,109,115]\/
 w.toList=[114,97,110,107,115]\/w.toList=[116,111,116,97,108]\/w.toList=[97,100,100]\/w.toList=[106,111,105,110]:=by
 refine Yw fun c=> ?_
 simp only[not_or]at c;obtain⟨e,g,i,l,n,o,p,q,s,a⟩:=c;have key:nd w<=0:=by
  simp[nd,e,g,i,l,n,o,p,q,s,a]
  (repeat' split)<;>decide
 omega
theorem e8g{w:ByteArray}(h:w.toList=[97,100,100]\/w.toList=[106,111,105,110]):nd w=2:=by
 rcases h with h|h<;>simp[nd,h]
theorem X1.start1(x:List Int):X1 x.length (fun i=>prS (J2 x) (i+1)) (J2 x) 1 x:=⟨rfl,fun j a=>by
 by_cases c:j<1
 ·rw[if_pos c,show j=0 by omega];simp[prS,J2]
 ·rw[if_neg c];rfl⟩
theorem a6i.start(x:List Int):a6i x (x.length-1) x:=⟨rfl,fun j a=>by rw[if_neg (by omega)];rfl⟩
theorem a6i.val{x l:List Int}{i:Nat}(h:a6i x i l)(j:Nat):l.getD j default=if i<j/\j<x.length then J2 x j-J2 x (j-1)else J2 x j:=by
 rcases Nat.lt_or_ge j x.length with c|c
 ·rw[h.2 j c]
  by_cases c2:i<j
  ·rw[if_pos c2,if_pos ⟨c2,c⟩]
  ·rw[if_neg c2,if_neg (by omega)]
 ·rw[if_neg (by omega),Zc,ZO (by rw[h.1];exact c)]
  unfold J2;rw[Zc,ZO c]
theorem X1.before{n i j:Nat}{f g:Nat->Int}{l:List Int}(h:X1 n f g i l)(a:j<i)(c:j<n):l.getD j default=f j:=by rw[h.2 j c,if_pos a]
theorem adF{op:ByteArray}{x y l:List Int}(c:op.toList=[97,100,100])(a:x.length=y.length)(h:l=adI x y)(_:True=True):X6 op x y=some l:=by
 simp[X6,c,a,h]
theorem apF{op:ByteArray}{x y l a:List Int}(h:l=a)(c:X6 op x y=some a):X6 op x y=some l:=by rw[h];exact c
structure Stp where
 op:ByteArray
 a:Int
 b:Int
 ns:List Int
instance:Inhabited Stp:=⟨⟨⟨#[]⟩,0,0,[]⟩⟩
section
variable{cx:Cx}{keep:List Nat}{ops0:Array Oper}{r:List Oper}{A:Asr}{Q:Asr->List Log->Prop}{d:Nat}{ty:Nat}{pos:String}{aft:Array Edge}
def Stp.sOp(y:Stp)(s:ByteArray):Stp:=⟨s,y.a,y.b,y.ns⟩
def Stp.sA(y:Stp)(n:Int):Stp:=⟨y.op,n,y.b,y.ns⟩
def Stp.sB(y:Stp)(n:Int):Stp:=⟨y.op,y.a,n,y.ns⟩
def Stp.sN(y:Stp)(l:List Int):Stp:=⟨y.op,y.a,y.b,l⟩
@[simp] theorem Stp.sOp_ns(y:Stp)(s:ByteArray):(y.sOp s).ns=y.ns:=rfl
@[simp] theorem Stp.sA_ns(y:Stp)(s:Int):(y.sA s).ns=y.ns:=rfl
@[simp] theorem Stp.sB_ns(y:Stp)(s:Int):(y.sB s).ns=y.ns:=rfl
@[simp] theorem Stp.sN_ns(y:Stp)(s:List Int):(y.sN s).ns=s:=rfl
end
theorem f2s{w:ByteArray}(h:w.toList=wList.toList):nd w=0:=by rw[nd,if_pos h]
theorem d6r(w:ByteArray)(h:w.toList≠wList.toList):nd w=rch w:=by
 by_cases a:w.toList=wA.toList
 ·simp[nd,rch,a]
 by_cases c:w.toList=wB.toList
 ·simp[nd,rch,c]
 by_cases e:w.toList=wC.toList
 ·simp[nd,rch,e]
 by_cases g:w.toList=wD.toList
 ·simp[nd,rch,g]
 unfold nd rch;rw[if_neg h,if_neg a,if_neg c,if_neg e,if_neg g,if_neg a,if_neg c,if_neg e,if_neg g]
section
variable{cx:Cx}{keep:List Nat}{ops0:Array Oper}{r:List Oper}{A:Asr}{Q:Asr->List Log->Prop}{d:Nat}{ty:Nat}{pos:String}{aft:Array Edge}
end
def e9m(w:ByteArray):Nat:=(w.toList.headD 0).toNat-97
theorem f0s{a:List (List Int)}(h:vcs a=true)(k:Nat):vl (a.getD k default)=true:=by
 rcases Nat.lt_or_ge k a.length with c|c
 ·exact b9d ((a1k.1 h).1 _ (L8 c))
 ·rw[Zc,ZO c];decide
theorem f0a{w:ByteArray}(h:nd w=0):w.toList=wList.toList\/∃k,k<4/\w.toList=[UInt8.ofNat (97+k)]:=by
 refine Yw fun l=> ?_
 simp only[not_or,not_exists,not_and]at l;obtain⟨n,e⟩:=l;have a:=e 0 (by decide);have b:=e 1 (by decide);have c:=e 2 (by decide);have i:=e 3 (by decide);simp at a b c i;have g:¬w.toList=[108,105,115,116]:=by simpa using n
 simp[nd,g,a,b,c,i]at h
 (repeat' split at h)<;>simp at h
theorem f1h(b:ByteArray):∀n i r,b.size-i=n->Xs b i r=r.reverse++b.data.toList.drop i:=by
 intro n
 induction n with
 |zero=>
  intro i r h;rw[Xs];have a:¬i<b.size:=by omega
  rw[if_neg a,List.drop_eq_nil_of_le (by rw[Array.length_toList];show b.size<=i;omega),Zm]
 |succ n g=>
  intro i r h;rw[Xs];have a:i<b.size:=by omega
  have c:i<b.data.toList.length:=by rw[Array.length_toList];exact a
  rw[if_pos a,g (i+1) _ (by omega),YF c,List.reverse_cons,Ym];have e:b.get! i=b.data.toList[i]:=by
   show b.data[i]! =_;rw[getElem!_pos b.data i a];exact(Array.getElem_toList ..).symm
  rw[e];rfl
theorem a0t(b:ByteArray):b.toList=b.data.toList:=by
 rw[ByteArray.toList,f1h b b.size 0 [] (by omega)];rfl
theorem d6b{a b:ByteArray}(h:a.toList=b.toList):a=b:=by
 rw[a0t,a0t]at h;cases a;cases b;congr 1;exact Array.toList_inj.1 h
theorem f4m{w:ByteArray}(h:nd w=0):w=wList\/∃k,k<4/\w=e4f k:=by
 rcases f0a h with c|⟨k,a,c⟩
 ·exact .inl (d6b c)
 ·refine .inr ⟨k,a,d6b (c.trans ?_)⟩
  rw[a0t];rfl
theorem e2h{k:Nat}(a:k<4):e9m (e4f k)=k:=by
 unfold e9m;rw[a0t];show(UInt8.ofNat (97+k)).toNat-97=k
 match k,a with
 |0,_=>rfl
 |1,_=>rfl
 |2,_=>rfl
 |3,_=>rfl
end Go.Mv
namespace Go.Mv
theorem H9(xs:List Int)(b:Bool):hasList (.tup [.own 1 (xs.map iV),bV b])=false:=by simp[hasList,G1]
end Go.Mv
namespace Go.Mv
end Go.Mv
namespace Go.Mv
theorem c1q{w:ByteArray}(h:w.toList=wList.toList):rch w= -1:=by
 have e:w=wList:=d6b h;subst e;decide+kernel
theorem e1a{w:ByteArray}(h:rch w=0):(∃k,k<4/\w=e4f k)/\nd w=0:=by
 have g:w.toList≠wList.toList:=fun e=>by rw[c1q e]at h;cases h
 have a:nd w=0:=(d6r w g).trans h;rcases f4m a with c|c
 ·exact absurd (by rw[c]) g
 ·exact⟨c,a⟩
theorem d9p:vl []=true:=by decide
end Go.Mv
end
section
namespace Go.Mv
open Go Go.RowKit Go.ChangeShapes Go.WideShapes Go.ChangeAt
section
variable{H:Type}{enc:TypeId×Value->H}{P:Program}{W:World}
def c8g{α:Type}(enc:TypeId×Value->H)(P:Program)(W:World)(t c:Nat)(f:α->AV)(good:α->Prop):Prop:=
 P.cellsOf t=c/\∀fuel cs x,DataW.trod enc P W 0 (fun _=>true) true fuel t cs=some x->∃a,good a/\cs.length=c/\(leaves (f a)).length=c/\∀(j:Nat) l,(leaves (f a))[j]? =some l->RV W (fun b=>b<W.heap.size) l (cs.getD j undef)
theorem d6u{a:Addr}{v:Value}(h:W.cell? a=some v):a=⟨a.block,a.off,none⟩/\a.block<W.heap.size:=by
 unfold World.cell? at h;split at h
 ·rename_i g _ _ c
  split at h
  ·cases h
  ·rename_i e
   refine⟨?_,(ZB.1 c).1⟩;obtain⟨b,o,s⟩:=a;cases s
   ·rfl
   ·simp at e
 ·cases h
theorem e6y{t:Nat}(e:P.underlying t=some .string)(c:P.cellsOf t=1):c8g enc P W t 1 (fun s:ByteArray=>sV s) (fun s=>s.size<=maxLen):=by
 refine⟨c,fun fuel cs x h=> ?_⟩;obtain⟨s,rfl,rfl,hw⟩:=DataW.trod_string e h;refine⟨s,hw,U,U,fun j l a=> ?_⟩;cases j with
 |zero=>cases a;exact .val _
 |succ j=>simp[leaves]at a
theorem d7n{α:Type}{t e c:Nat}{f:α->AV}{good:α->Prop}(ht:P.underlying t=some (.slice e))(hc:P.cellsOf t=1)(hp:0<c)(S:c8g enc P W e c f good):
 c8g enc P W t 1 (fun xs:List α=> .list (xs.map f)) (fun xs=>xs.length<=maxLen/\∀x∈xs,good x):=by
 obtain⟨T,S⟩:=S;refine⟨hc,fun fuel cs x h=> ?_⟩;rcases DataW.trod_slice ht h with⟨rfl,rfl⟩|⟨a,len,cap,elems,rest,n,rfl,rfl,rfl,_,B,hm,hlen,V,_,_⟩
 ·refine⟨[],⟨Zt _,fun _ h=>by cases h⟩,U,U,fun j l B=> ?_⟩
  cases j with
  |zero=>cases B;exact .list [] none 0 0 0 1 (fun _ _=>undef) (Zd _) (fun h=>(h U).elim) (fun _ h=>by simp at h) (fun i j l h=>by simp[leafAt]at h) (fun i j l h=>by simp[leafAt]at h)
  |succ j=>simp[leaves]at B
 ·have each:∀i:Fin len,∃(y:α) (p:List Value),W.cells? 0 (a.add (i*c)) c=some p/\good y/\p.length=c/\(leaves (f y)).length=c/\∀(j:Nat) l,(leaves (f y))[j]? =some l->RV W (fun b=>b<W.heap.size) l (p.getD j undef):=by
   intro i;have L:=V i i.2;rw[T,Ze (by omega)]at L;obtain⟨p,z,M⟩:=Za.1 L;obtain⟨y,h4,h5,h6,h7⟩:=S _ _ _ M;exact⟨y,p,z,h4,h5,h6,h7⟩
  let g:Fin len->α:=fun i=>Classical.choose (each i)
  have Z:∀i:Fin len,∃p:List Value,W.cells? 0 (a.add (i*c)) c=some p/\good (g i)/\p.length=c/\(leaves (f (g i))).length=c/\∀(j:Nat) l,(leaves (f (g i)))[j]? =some l->RV W (fun b=>b<W.heap.size) l (p.getD j undef):=fun i=>YH (each i)
  let k:Fin len->List Value:=fun i=>Classical.choose (Z i)
  have E:∀i:Fin len,W.cells? 0 (a.add (i*c)) c=some (k i)/\good (g i)/\(k i).length=c/\(leaves (f (g i))).length=c/\∀(j:Nat) l,(leaves (f (g i)))[j]? =some l->RV W (fun b=>b<W.heap.size) l ((k i).getD j undef):=fun i=>YH (Z i)
  have u:∀(i:Fin len) (j:Nat),j<c->W.cell? ((a.add (i*c)).add j)=some ((k i).getD j undef):=by
   intro i j O;have:=(World.cells?_some (E i).1).2.2 j O;rw[this,Zc,Ze (by rw[(E i).2.2.1];exact O)];rfl
  have I:0<len->a=⟨a.block,a.off,none⟩/\a.block<W.heap.size:=by
   intro R;have:=u ⟨0,R⟩ 0 hp;have e:(a.add (0*c)).add 0=a:=by rw[Nat.zero_mul];obtain⟨b,o,s⟩:=a;cases s<;>rfl
   simp only at this;rw[e]at this;exact d6u this
  have J:∀i j l,leafAt ((List.ofFn g).map f) i j=some l->∃v:i<len,(leaves (f (g ⟨i,v⟩)))[j]? =some l:=by
   intro i j l h;unfold leafAt at h;rw[ZE]at h;rcases Nat.lt_or_ge i len with K|K
   ·rw[Ze (by simpa using K)]at h
    simp only[List.getElem_ofFn]at h;exact⟨K,h⟩
   ·rw[ZO (by simpa using K)]at h
    cases h
  have q:((List.ofFn g).map f).length=len:=by simp
  refine⟨List.ofFn g,⟨by simp;omega,fun y Y=> ?_⟩,U,U,fun j l B=> ?_⟩
  ·obtain⟨i,rfl⟩:=List.mem_ofFn.1 Y
   exact(E i).2.1
  ·cases j with
   |succ j=>simp[leaves]at B
   |zero=>
    cases B;have:=RV.list (w:=W) (D:=fun b=>b<W.heap.size) ((List.ofFn g).map f) (some a) cap a.block a.off c (fun i j=>if v:i<len then(k ⟨i,v⟩).getD j undef else undef) (by rw[q];exact B) (fun X=> ?_) (fun e he=> ?_) (fun i j l h=> ?_) (fun i j l h=> ?_)
    ·rw[q]at this;exact this
    ·have R:0<len:=by
      rcases Nat.eq_zero_or_pos len with h|h
      ·exact absurd (ZT.1 (by rw[q];exact h)) X
      ·exact h
     obtain⟨L,z⟩:=I R;exact⟨congrArg some L,z,z⟩
    ·obtain⟨y,Y,rfl⟩:=ZG.1 he
     obtain⟨i,rfl⟩:=List.mem_ofFn.1 Y;exact(E i).2.2.2.1
    ·obtain⟨v,z⟩:=J i j l h
     have O:j<c:=by rw[<-(E ⟨i,v⟩).2.2.2.1];exact(Zo.1 z).1
     have M:=u ⟨i,v⟩ j O;have ea:=(I (by omega)).1;rw[ea,a1c,a1c]at M;simpa[v]using M
    ·obtain⟨v,z⟩:=J i j l h
     simpa[v]using(E ⟨i,v⟩).2.2.2.2 j l z
theorem f1a{α:Type}{t:Nat}{f:α->AV}{good:α->Prop}(i:c8g enc P W t 1 f good)(l:∀a,leaves (f a)=[f a]){v:Value}{d:DataW H}{p:List MemPlace}(n:v.cells.toList=[v])(h:DataW.Trod enc P W 0 (fun _=>true) true t v d p):
 ∃a,RV W (fun b=>b<W.heap.size) (f a) v/\good a:=by
 obtain⟨fuel,c⟩:=h;obtain⟨a,e,_,_,g⟩:=i.2 _ _ _ c;refine⟨a,?_,e⟩;have:=g 0 (f a) (by rw[l];rfl);rwa[n]at this
end
abbrev bA(l:List UInt8):ByteArray:=⟨l.toArray⟩
abbrev tV(l:List UInt8):AV:=sV (bA l)
theorem f0h(l:List UInt8):(bA l).size=l.length:=rfl
theorem a4r(l:List UInt8):(bA l).toList=l:=by rw[a0t]
theorem c5p(a b:List UInt8):bA a++bA b=bA (a++b):=by
 apply ByteArray.ext;simp
theorem d8q(a:List UInt8)(i j:Nat):(bA a).extract i j=bA ((a.drop i).take (j-i)):=by
 apply ByteArray.ext;simp[ByteArray.data_extract]
theorem a0g(b:ByteArray):bA b.data.toList=b:=by cases b;rfl
section
variable{cx:Cx}{keep:List Nat}{ops0:Array Oper}{r:List Oper}{A:Asr}{Q:Asr->List Log->Prop}{d:Nat}{ty:Nat}{pos:String}{aft:Array Edge}
theorem a3l{x:Operand}{T:Nat}{l:List UInt8}(e:opd A x=some (tV l))(c:a5v (tyS cx.P T).k=true)
 (h:XR cx keep ops0 r ((.t d,iV l.length)::A) fun a g=>Q a ((rds x,[.t d])::g)):XR cx keep ops0 (⟨some d,.call ⟨.builtin .len,#[x],#[T]⟩,ty,pos,aft,none⟩::r) A Q:=e3o e c h
theorem M3{x i:Operand}{T n:Nat}{l:List UInt8}{k:IntKind}(c:a5v (tyS cx.P T).k=true)(o:opd A x=some (tV l))(e:opd A i=some (.val (.int k (n:Int))))(g:n<l.length)
 (h:XR cx keep ops0 r ((.t d,uV (l.getD n 0).toNat)::A) fun a p=>Q a ((rds x++rds i,[.t d])::p)):XR cx keep ops0 (⟨some d,.index T x i,ty,pos,aft,none⟩::r) A Q:=
 a6r c o e (by omega) (by rw[Int.toNat_natCast];show l[n]? =_;rw[Zc,Ze g];rfl) h
theorem N6{T z:Nat}{a b:Operand}{x y:List UInt8}(e:opd A a=some (tV x))(g:opd A b=some (tV y))(i:x.length+y.length<=H6)
 (h:XR cx keep ops0 r ((.t d,tV (x++y))::A) fun c l=>Q c ((rds a++rds b,[.t d])::l)):XR cx keep ops0 (⟨some d,.binOp .add T a b z,ty,pos,aft,none⟩::r) A Q:=
 f3t e g i (by rw[c5p];exact h)
theorem H0{T z:Nat}{a b:Operand}{x y:List UInt8}(e:opd A a=some (tV x))(g:opd A b=some (tV y))
 (h:XR cx keep ops0 r ((.t d,bV (decide (x=y)))::A) fun c i=>Q c ((rds a++rds b,[.t d])::i)):XR cx keep ops0 (⟨some d,.binOp .eql T a b z,ty,pos,aft,none⟩::r) A Q:=
 J3 e g (by rw[a4r,a4r,show(x==y)=decide (x=y)from Bool.eq_iff_iff.2 (by simp)];exact h)
theorem b5c{T z:Nat}{a b:Operand}{x y:List UInt8}(e:opd A a=some (tV x))(g:opd A b=some (tV y))
 (h:XR cx keep ops0 r ((.t d,bV (!decide (x=y)))::A) fun c i=>Q c ((rds a++rds b,[.t d])::i)):XR cx keep ops0 (⟨some d,.binOp .neq T a b z,ty,pos,aft,none⟩::r) A Q:=
 f5e e g (by rw[a4r,a4r,show(x==y)=decide (x=y)from Bool.eq_iff_iff.2 (by simp)];exact h)
theorem a1n{x:Operand}{T c a:Nat}{n i:Option Operand}{l:List UInt8}{e g:List Mv.Loc}(z:opd A x=some (tV l))(q:(tyS cx.P T).k= .string)
 (u:wpA (CW cx) A (optNat i l.length) fun k ls=>k=a/\ls=e) (v:wpA (CW cx) A (optNat n 0) fun k ls=>k=c/\ls=g) (s:c<=a/\a<=l.length)
 (h:XR cx keep ops0 r ((.t d,tV ((l.drop c).take (a-c)))::A) fun p B=>Q p ((rds x++(e++g),[.t d])::B)):XR cx keep ops0 (⟨some d,.slice T x n i none,ty,pos,aft,none⟩::r) A Q:=by
 refine K2 (fun o y=>by simp only[aopV,y]) ?_ (by simp[slotOk,refOkV,refsOk]) h;simp only[opV,E3,E5 z,sliceA,q,F8];refine⟨trivial,?_⟩;refine M2 ?_ u;rintro _ _ ⟨rfl,rfl⟩;refine M2 ?_ v;rintro _ _ ⟨rfl,rfl⟩;simp only[F8,F4,d8q,Zm];exact⟨s,by simp⟩
end
theorem d4x{x:Int}(h:0<=x/\x<=255):inI .u8 x:=by
 constructor<;>simp[IntKind.min,IntKind.max,IntKind.signed,IntKind.bits]<;>omega
def decN(n:Nat):List UInt8:=if n<10 then[UInt8.ofNat (48+n)]else decN (n/10)++[UInt8.ofNat (48+n%10)]
termination_by n
theorem e1z{n:Nat}(h:n<10):decN n=[UInt8.ofNat (48+n)]:=by rw[decN,if_pos h]
theorem f1t{n:Nat}(h:¬n<10):decN n=decN (n/10)++decN (n%10):=by
 rw[decN,if_neg h,e1z (show n%10<10 from Nat.mod_lt _ (by decide))]
def dec(n:Int):List UInt8:=if n<0 then 45::decN (-n).toNat else decN n.toNat
theorem b7l(n:Nat):dec (n:Int)=decN n:=by rw[dec,if_neg (by omega)];rfl
theorem u8n{k:Nat}(h:k<256):(UInt8.ofNat k).toNat=k:=by rw[UInt8.toNat_ofNat'];exact Nat.mod_eq_of_lt h
theorem b1w(n:Nat):∀b∈decN n,48<=b.toNat/\b.toNat<=57:=by
 induction n using Nat.strongRecOn with
 |_ n e=>
  rw[decN];split
  ·intro b a
   cases Yu.1 a;rw[u8n (by omega)];omega
  ·intro b a
   rcases ZL.1 a with c|c
   ·exact e _ (by omega) b c
   ·cases Yu.1 c
    rw[u8n (by omega)];omega
theorem b1k(n:Nat):decN n≠[]:=by
 rw[decN];split<;>simp
theorem e7g(n:Int):dec n≠[]:=by
 rw[dec];split
 ·simp
 ·exact b1k _
theorem d0r(n:Nat):∀{k:Nat},1<=k->n<10^k->(decN n).length<=k:=by
 induction n using Nat.strongRecOn with
 |_ n e=>
  intro k a c;rw[decN];split
  ·simpa using a
  ·rename_i h
   match k,a with
   |1,_=>omega
   |k+2,_=>
    have:=e (n/10) (by omega) (k:=k+1) (by omega) (by rw[Nat.pow_succ]at c;omega);simp;omega
theorem L4{m:Int}(h: -1000000<=m/\m<=1000000):(dec m).length<=8:=by
 rw[dec];split
 ·have:=d0r (-m).toNat (k:=7) (by decide) (by omega)
  simp;omega
 ·have:=d0r m.toNat (k:=7) (by decide) (by omega)
  omega
theorem f2c{n:Int}(h:n<0):dec n=[45]++dec (-n):=by
 rw[dec,if_pos h,dec,if_neg (by omega)];rfl
theorem f2r{n:Int}(h:0<=n/\n<10):dec n=(([48,49,50,51,52,53,54,55,56,57]:List UInt8).drop n.toNat).take ((n+1).toNat-n.toNat):=by
 obtain⟨k,rfl⟩:∃k:Nat,n=k:=⟨n.toNat,by omega⟩;have a:k<10:=by omega
 rw[b7l,e1z a]
 match k,a with
 |0,_=>rfl
 |1,_=>rfl
 |2,_=>rfl
 |3,_=>rfl
 |4,_=>rfl
 |5,_=>rfl
 |6,_=>rfl
 |7,_=>rfl
 |8,_=>rfl
 |9,_=>rfl
theorem f4f{n:Int}(h:¬n<10):dec n=dec (n.tdiv 10)++dec (n.tmod 10):=by
 obtain⟨k,rfl⟩:∃k:Nat,n=k:=⟨n.toNat,by omega⟩;have a:(k:Int).tdiv 10=((k/10:Nat):Int):=by rw[Int.tdiv_eq_ediv_of_nonneg (by omega)];omega
 have c:(k:Int).tmod 10=((k%10:Nat):Int):=by rw[Int.tmod_eq_emod_of_nonneg (by omega)];omega
 rw[a,c,b7l,b7l,b7l,f1t (by omega)]
def joinB(c:UInt8):List (List UInt8)->List UInt8
 |[]=>[]
 |[p]=>p
 |p::q::r=>p++c::joinB c (q::r)
def Z0(q:List UInt8):List (List UInt8)->List (List UInt8)
 |p::a=>(q++p)::a
 |[]=>[]
def splitB(c:UInt8):List UInt8->List (List UInt8)
 |[]=>[[]]
 |b::r=>if b=c then[]::splitB c r else Z0 [b] (splitB c r)
theorem d1y(a b:List UInt8)(l:List (List UInt8)):Z0 a (Z0 b l)=Z0 (a++b) l:=by cases l<;>simp[Z0]
theorem c4v(l:List (List UInt8)):Z0 [] l=l:=by cases l<;>simp[Z0]
theorem b2s(c:UInt8)(l:List UInt8):splitB c l≠[]:=by
 induction l with
 |nil=>simp[splitB]
 |cons b r a=>
  rw[splitB];split
  ·simp
  ·cases h:splitB c r with
   |nil=>exact absurd h a
   |cons p e=>simp[Z0]
theorem d4k{c:UInt8}{p:List UInt8}(h:c∉p)(r:List UInt8):splitB c (p++c::r)=p::splitB c r:=by
 induction p with
 |nil=>simp[splitB]
 |cons b p a=>
  simp only[ZP,not_or]at h;rw[Zp,splitB,if_neg (fun e=>h.1 e.symm),a h.2]
  rfl
theorem d0o{c:UInt8}{p:List UInt8}(h:c∉p):splitB c p=[p]:=by
 induction p with
 |nil=>rfl
 |cons b p a=>
  simp only[ZP,not_or]at h;rw[splitB,if_neg (fun e=>h.1 e.symm),a h.2]
  rfl
theorem a8r{c:UInt8}:∀{ps:List (List UInt8)},ps≠[]->(∀p∈ps,c∉p)->splitB c (joinB c ps)=ps
 |[],h,_=>absurd U h
 |[p],_,h=>d0o (h p (by simp))
 |p::q::r,_,h=>by
  rw[joinB,d4k (h p (by simp)),a8r (by simp) fun x a=>h x (Zn _ a)]
theorem R6{c:UInt8}{p:List UInt8}{r:List (List UInt8)}(h:r≠[]):joinB c (p::r)=p++c::joinB c r:=by
 cases r with
 |nil=>exact absurd U h
 |cons q r=>rfl
theorem b0b(c:UInt8)(l:List UInt8):joinB c (splitB c l)=l:=by
 induction l with
 |nil=>rfl
 |cons b r a=>
  rw[splitB];split
  ·rename_i e
   subst e;rw[R6 (b2s _ _),a];rfl
  ·cases h:splitB c r with
   |nil=>exact absurd h (b2s c r)
   |cons p g=>
    rw[h]at a;cases g with
    |nil=>simp only[Z0,joinB]at a|-;rw[a];rfl
    |cons q g=>simp only[Z0,joinB]at a|-;rw[<-a];rfl
theorem b9v{c:UInt8}{s:List UInt8}{out:List (List UInt8)}{fr i:Nat}(g:i<s.length)(n:fr<=i)(h:splitB c s=out++Z0 ((s.drop fr).take (i-fr)) (splitB c (s.drop i))):
 (s.getD i 0=c->splitB c s=(out++[(s.drop fr).take (i-fr)])++Z0 ((s.drop (i+1)).take (i+1-(i+1))) (splitB c (s.drop (i+1))))/\
 (s.getD i 0≠c->splitB c s=out++Z0 ((s.drop fr).take (i+1-fr)) (splitB c (s.drop (i+1)))):=by
 have e:s.drop i=s.getD i 0::s.drop (i+1):=by
  rw[YF g,Zc,Ze g];rfl
 refine⟨fun a=> ?_,fun a=> ?_⟩
 ·rw[h,e,splitB,if_pos a,Nat.sub_self,List.take_zero,c4v,Z0,Zm,Ym];rfl
 ·rw[h,e,splitB,if_neg a,d1y]
  congr 2;have l:(s.drop fr).take (i+1-fr)=(s.drop fr).take (i-fr)++[s.getD i 0]:=by
   rw[show i+1-fr=(i-fr)+1 by omega,Yj (by simp;omega)];congr 2;rw[List.getElem_drop,Zc,Ze g];simp[show fr+(i-fr)=i by omega]
  rw[l]
def a0b:Nat->List UInt8->Option Nat
 |a,[]=>some a
 |a,b::r=>if 48<=b.toNat/\b.toNat<=57/\a<=10000 then a0b (10*a+(b.toNat-48)) r else none
theorem a7f(x y:List UInt8):∀a,a0b a (x++y)=(a0b a x).bind fun b=>a0b b y:=by
 induction x with
 |nil=>intro a;rfl
 |cons c x e=>
  intro a;rw[Zp,a0b,a0b];split
  ·exact e _
  ·rfl
theorem d5m(n:Nat):n<=100009->a0b 0 (decN n)=some n:=by
 induction n using Nat.strongRecOn with
 |_ n a=>
  intro c;rw[decN];split
  ·rename_i h
   rw[a0b,u8n (by omega),if_pos (by omega),a0b];congr 1;omega
  ·rename_i h
   rw[a7f,a (n/10) (by omega) (by omega),Zk,a0b,u8n (by omega),if_pos (by omega),a0b];congr 1;omega
def neg?(t:List UInt8):Bool:=decide (t.head? =some 45)
def unS(t:List UInt8):List UInt8:=if neg? t=true then t.tail else t
def rdI(t:List UInt8):Option Int:=(a0b 0 (unS t)).bind fun n=>if unS t=[]\/dec (if neg? t=true then-(n:Int)else n)≠t then none else some (if neg? t=true then-(n:Int)else n)
theorem e7f{t:List UInt8}{m:Int}(h:rdI t=some m):t=dec m:=by
 unfold rdI at h;obtain⟨n,_,a⟩:=Za.1 h;by_cases c:unS t=[]\/dec (if neg? t=true then-(n:Int)else n)≠t
 ·rw[if_pos c]at a;cases a
 ·rw[if_neg c]at a
  simp only[not_or,Decidable.not_not]at c;rw[Zb]at a;rw[<-a];exact c.2.symm
theorem e7n(n:Nat):neg? (decN n)=false:=by
 cases h:decN n with
 |nil=>rfl
 |cons b r=>
  have:=b1w n b (by rw[h];simp);simp only[neg?,List.head?_cons,Zb,decide_eq_false_iff_not];intro e;subst e;exact absurd this.1 (by decide)
theorem f1q{m:Int}(h: -100000<=m/\m<=100000):rdI (dec m)=some m:=by
 by_cases hm:m<0
 ·have e:dec m=45::decN (-m).toNat:=by rw[dec,if_pos hm]
  have a:neg? (dec m)=true:=by rw[e];rfl
  have hu:unS (dec m)=decN (-m).toNat:=by rw[unS,if_pos a,e];rfl
  rw[rdI,hu,d5m _ (by omega),Zk,a];simp only[if_true];have c: -(((-m).toNat:Nat):Int)=m:=by omega
  rw[c,if_neg (by simp[b1k])]
 ·have e:dec m=decN m.toNat:=by rw[dec,if_neg hm]
  have a:neg? (dec m)=false:=by rw[e];exact e7n _
  have hu:unS (dec m)=decN m.toNat:=by rw[unS,a,if_neg (by decide),e]
  rw[rdI,hu,d5m _ (by omega),Zk,a];simp only[ZY,if_false];have c:((m.toNat:Nat):Int)=m:=by omega
  rw[c,if_neg (by simp[b1k])]
theorem d3l{c:UInt8}(g:c≠45)(a:¬(48<=c.toNat/\c.toNat<=57))(n:Int):c∉dec n:=by
 rw[dec];split
 ·intro h
  rcases ZP.1 h with e|e
  ·exact g e
  ·exact a (b1w _ c e)
 ·exact fun h=>a (b1w _ c h)
def O6(ns:List Int):List UInt8:=joinB 44 (ns.map dec)
theorem b0n{c:UInt8}(p:List UInt8):∀{r:List (List UInt8)},r≠[]->joinB c (r++[p])=joinB c r++c::p
 |[],h=>absurd U h
 |[q],_=>rfl
 |q::a::r,_=>by
  have e:=b0n (c:=c) p (r:=a::r) (by simp);show q++c::joinB c ((a::r)++[p])=(q++c::joinB c (a::r))++c::p;rw[e];simp
theorem d1h{ns:List Int}{i:Nat}(a:i<ns.length)(c:0<i):O6 (ns.take (i+1))=O6 (ns.take i)++[44]++dec (ns.getD i default):=by
 have e:ns.getD i default=ns[i]:=by rw[Zc,Ze a];rfl
 rw[O6,O6,Yj a,ZZ,List.map_singleton,b0n,e,Ym]
 ·rfl
 ·intro h
  have:=congrArg List.length h;rw[Zh,ZU,Zs]at this;omega
theorem d0x{ns:List Int}{i:Nat}(c:i<ns.length)(a:i=0):O6 (ns.take (i+1))=O6 (ns.take i)++dec (ns.getD i default):=by
 subst a;cases ns with
 |nil=>simp at c
 |cons n r=>rfl
theorem Z6{ns:List Int}(h:∀n∈ns,-1000000<=n/\n<=1000000):(O6 ns).length<=9*ns.length:=by
 have key:∀a:List (List UInt8),(∀p∈a,p.length<=8)->(joinB 44 a).length<=9*a.length:=by
  intro a
  induction a with
  |nil=>intro _;simp[joinB]
  |cons p r i=>
   intro c;have l:=c p (by simp);have e:=i fun q hq=>c q (Zn _ hq)
   cases r with
   |nil=>simp only[joinB,List.length_singleton];omega
   |cons q r=>rw[R6 (by simp)];simp only[Zl,Zg]at e|-;omega
 have:=key (ns.map dec) fun p c=>by
  obtain⟨n,g,rfl⟩:=ZG.1 c;exact L4 (h n g)
 simpa[O6]using this
def R9(ns:List Int):List UInt8:=91::(O6 ns++[93])
def a2w:List (List UInt8)->Option (List Int)
 |[]=>some []
 |p::r=>(rdI p).bind fun n=>(a2w r).map fun ns=>n::ns
def rdL(s:List UInt8):Option (List Int):=a2w (splitB 44 s)
theorem b3b:∀{ps:List (List UInt8)} {ns:List Int},a2w ps=some ns->ps=ns.map dec
 |[],ns,h=>by cases h;rfl
 |p::r,ns,h=>by
  simp only[a2w,Za,Zf]at h;obtain⟨n,a,ms,c,rfl⟩:=h;rw[Zy,<-e7f a,<-b3b c]
theorem d0w:∀{ns:List Int},(∀n∈ns,-100000<=n/\n<=100000)->a2w (ns.map dec)=some ns
 |[],_=>rfl
 |n::ns,h=>by rw[Zy,a2w,f1q (h n (by simp)),Zk,d0w fun x a=>h x (Zn _ a)];rfl
theorem b5s(x y:List (List UInt8)):a2w (x++y)=(a2w x).bind fun a=>(a2w y).map fun b=>a++b:=by
 induction x with
 |nil=>cases h:a2w y<;>simp[a2w,h]
 |cons p x c=>
  rw[Zp,a2w,a2w,c];cases rdI p with
  |none=>rfl
  |some n=>
   cases a2w x with
   |none=>rfl
   |some a=>
    cases a2w y with
    |none=>rfl
    |some b=>rfl
theorem b2t{ps:List (List UInt8)}{ns:List Int}{i:Nat}{n:Int}(a:i<ps.length)(h:a2w (ps.take i)=some ns)(c:rdI (ps.getD i default)=some n):a2w (ps.take (i+1))=some (ns++[n]):=by
 have e:ps.getD i default=ps[i]:=by rw[Zc,Ze a];rfl
 rw[e]at c;rw[Yj a,b5s,h,Zk,a2w,c]
 rfl
theorem N3{ps:List (List UInt8)}{i:Nat}(a:i<ps.length)(c:rdI (ps.getD i default)=none):a2w ps=none:=by
 have e:ps.getD i default=ps[i]:=by rw[Zc,Ze a];rfl
 rw[e]at c;rw[<-YG i ps,b5s,YF a,a2w,c];cases a2w (ps.take i)<;>rfl
theorem b4w:∀{ps:List (List UInt8)} {ns:List Int},a2w ps=some ns->ns.length=ps.length:=fun h=>by rw[b3b h,Zh]
theorem b8a:∀{u:List UInt8} {a n:Nat},a<=100009->a0b a u=some n->n<=100009
 |[],a,n,c,h=>by cases h;exact c
 |b::r,a,n,_,h=>by
  rw[a0b]at h;split at h
  ·exact b8a (by omega) h
  ·cases h
theorem b3t{u:List UInt8}{k a:Nat}(g:k<u.length)(h:a0b 0 (u.take k)=some a)(c:48<=(u.getD k 0).toNat/\(u.getD k 0).toNat<=57/\a<=10000):a0b 0 (u.take (k+1))=some (10*a+((u.getD k 0).toNat-48)):=by
 have e:u.getD k 0=u[k]:=by rw[Zc,Ze g];rfl
 rw[e]at c|-;rw[Yj g,a7f,h,Zk,a0b,if_pos c,a0b]
theorem W1{u:List UInt8}{k a:Nat}(g:k<u.length)(h:a0b 0 (u.take k)=some a)(c:¬(48<=(u.getD k 0).toNat/\(u.getD k 0).toNat<=57/\a<=10000)):a0b 0 u=none:=by
 have e:u.getD k 0=u[k]:=by rw[Zc,Ze g];rfl
 rw[e]at c;rw[<-YG k u,a7f,h,Zk,YF g,a0b,if_neg c]
theorem a0c{p:List UInt8}(h:a0b 0 (unS p)=none):rdI p=none:=by rw[rdI,h];rfl
theorem d7j{p:List UInt8}{a:Nat}{m:Int}(h:a0b 0 (unS p)=some a)(hm:m=if neg? p=true then-(a:Int)else a)(c:unS p≠[])(e:dec m=p):rdI p=some m:=by
 rw[rdI,h,Zk,<-hm,if_neg (by simp[c,e])]
theorem b3v{p:List UInt8}{a:Nat}{m:Int}(h:a0b 0 (unS p)=some a)(hm:m=if neg? p=true then-(a:Int)else a)(c:unS p=[]\/dec m≠p):rdI p=none:=by
 rw[rdI,h,Zk,<-hm,if_pos c]
theorem f5i{p:List UInt8}(h:p≠[])(c:(p.getD 0 0).toNat=45):neg? p=true/\unS p=(p.drop 1).take (p.length-1):=by
 have a:neg? p=true:=by
  cases p with
  |nil=>exact absurd U h
  |cons b r=>exact decide_eq_true (congrArg some (UInt8.toNat_inj.1 c))
 refine⟨a,?_⟩;rw[unS,if_pos a];cases p with
 |nil=>rfl
 |cons b r=>simp
theorem f3a{p:List UInt8}(h:p=[]\/(p.getD 0 0).toNat≠45):neg? p=false/\unS p=p:=by
 have a:neg? p=false:=by
  cases p with
  |nil=>rfl
  |cons b r=>
   refine decide_eq_false fun e=> ?_
   rcases h with h|h
   ·cases h
   ·cases e;exact h U
 exact⟨a,by rw[unS,a,if_neg (by decide)]⟩
theorem a3z{ns:List Int}(h:ns≠[]):splitB 44 (O6 ns)=ns.map dec:=
 a8r (by simpa using h) fun p a=>by
  obtain⟨n,_,rfl⟩:=ZG.1 a;exact d3l (by decide) (by decide) n
def numsOf(w:List UInt8):Option (List Int):=
 if 2<=w.length/\w.getD 0 0=91/\w.getD (w.length-1) 0=93 then
  (if w.length=2 then some []else(rdL ((w.drop 1).take (w.length-1-1))).bind fun ns=>if vd ns=true then some ns else none)else none
theorem e3w(ns:List Int):(R9 ns).length=(O6 ns).length+2:=by simp[R9]
theorem e5p{w:List UInt8}(h:2<=w.length/\w.getD 0 0=91/\w.getD (w.length-1) 0=93):w=91::((w.drop 1).take (w.length-1-1)++[93]):=by
 obtain⟨c,p,q⟩:=h
 match w,c with
 |a::r,c=>
  simp only[Zg]at c;have o:a=91:=p;subst o;have t:r≠[]:=fun e=>by subst e;simp at c
  simp only[Zg,Nat.add_sub_cancel,Yg,ZX];congr 1;have n:r.getD (r.length-1) 0=93:=by
   have:(91::r).getD (r.length) 0=93:=by simpa using q
   rw[show r.length=(r.length-1)+1 by omega,YS]at this;exact this
  have g:=Yj (l:=r) (i:=r.length-1) (by omega);rw[show r.length-1+1=r.length by omega,Yl]at g;rw[Zc,Ze (by omega)]at n;have s:r[r.length-1]=93:=n;rw[s]at g;exact g
theorem a8e{w:List UInt8}{ns:List Int}(h:numsOf w=some ns):w=R9 ns/\vd ns=true:=by
 unfold numsOf at h;split at h
 ·rename_i i
  have c:=e5p i;split at h
  ·rename_i e
   cases h;refine⟨?_,by decide⟩;rw[c,e]
   rfl
  ·obtain⟨ms,g,a⟩:=Za.1 h
   split at a
   ·rename_i l
    cases a;refine⟨?_,l⟩;rw[c,R9,O6,<-b3b g,b0b]
   ·cases a
 ·cases h
theorem e8i{ns:List Int}(h:vd ns=true):∀n∈ns,-200<=n/\n<=200:=by
 intro n c;obtain⟨i,a,rfl⟩:=Xc c;have:=T6.1 (e5z h) i a;rw[Zc,Ze a]at this;exact this
theorem b5i{ns:List Int}(h:vd ns=true):numsOf (R9 ns)=some ns:=by
 unfold numsOf;have c:=e3w ns;rw[if_pos ⟨by omega,U,by
  rw[c,R9,show(O6 ns).length+2-1=(O6 ns).length+1 by omega,YS,Zc,List.getElem?_append_right (Zd _)];simp⟩]
 by_cases a:ns=[]
 ·subst a
  rfl
 ·have g:O6 ns≠[]:=by
   intro e;have:=a3z a;rw[e]at this;cases ns with
   |nil=>exact a U
   |cons n r=>
    simp only[splitB,Zy,List.cons.injEq]at this;exact e7g n this.1.symm
  have i:0<(O6 ns).length:=List.length_pos_iff.2 g;rw[if_neg (by omega),c];have e:((R9 ns).drop 1).take ((O6 ns).length+2-1-1)=O6 ns:=by
   rw[R9,Yg,ZX,show(O6 ns).length+2-1-1=(O6 ns).length by omega,List.take_left]
  rw[e,rdL,a3z a,d0w fun n a=>by have:=e8i h n a;omega,Zk,if_pos h]
end Go.Mv
namespace Go.Mv
theorem Y0(c:UInt8)(l:List UInt8):(splitB c l).length<=l.length+1:=by
 induction l with
 |nil=>simp[splitB]
 |cons b r a=>
  rw[splitB];split
  ·simp;omega
  ·cases h:splitB c r with
   |nil=>simp[Z0]
   |cons p e=>rw[h]at a;simp[Z0]at a|-;omega
theorem Z8(c:UInt8)(l:List UInt8):∀p∈splitB c l,p.length<=l.length:=by
 induction l with
 |nil=>simp[splitB]
 |cons b r a=>
  rw[splitB];split
  ·intro p g
   rcases ZP.1 g with e|e
   ·subst e;simp
   ·have:=a p e;simp;omega
  ·cases h:splitB c r with
   |nil=>simp[Z0]
   |cons q i=>
    rw[h]at a;intro p g;rcases ZP.1 g with e|e
    ·subst e;have:=a q (by simp);simp;omega
    ·have:=a p (by simp[e]);simp;omega
end Go.Mv
namespace Go.Mv
theorem c7t(p:List UInt8):(unS p).length<=p.length:=by
 unfold unS;split
 ·cases p<;>simp
 ·exact Zd _
end Go.Mv
namespace Go.Mv
def d3e(w:List UInt8):List Int:=
 if 2<=w.length/\w.getD 0 0=91/\w.getD (w.length-1) 0=93 then(if w.length=2 then[]else(rdL ((w.drop 1).take (w.length-1-1))).getD [])else[]
theorem f2x{b c:UInt8}{k:Nat}(h:(b.toNat:Int)=k)(a:c.toNat=k):b=c:=UInt8.toNat_inj.1 (by omega)
theorem a8y{s:List UInt8}(h:s.length<2\/(s.getD 0 0).toNat≠91\/(s.getD (s.length-1) 0).toNat≠93):numsOf s=none/\d3e s=[]:=by
 have a:¬(2<=s.length/\s.getD 0 0=91/\s.getD (s.length-1) 0=93):=by
  rintro⟨g,c,e⟩;rcases h with h|h|h
  ·omega
  ·exact h (by rw[c];rfl)
  ·exact h (by rw[e];rfl)
 exact⟨if_neg a,if_neg a⟩
theorem e5e{s:List UInt8}(c:2<=s.length)(g:((s.getD 0 0).toNat:Int)=91)(h:((s.getD (s.length-1) 0).toNat:Int)=93):
 (s.length=2->numsOf s=some []/\d3e s=[])/\(s.length≠2->numsOf s=((rdL ((s.drop 1).take (s.length-1-1))).bind fun ns=>if vd ns=true then some ns else none)/\d3e s=(rdL ((s.drop 1).take (s.length-1-1))).getD []):=by
 have a:2<=s.length/\s.getD 0 0=91/\s.getD (s.length-1) 0=93:=⟨c,f2x g U,f2x h U⟩;refine⟨fun e=> ?_,fun e=> ?_⟩
 ·rw[numsOf,d3e,if_pos a,if_pos a,if_pos e,if_pos e];exact⟨U,U⟩
 ·rw[numsOf,d3e,if_pos a,if_pos a,if_neg e,if_neg e];exact⟨U,U⟩
theorem f1x{s:List UInt8}{ns:List Int}(h:numsOf s=some ns):d3e s=ns:=by
 unfold numsOf at h;unfold d3e;split at h
 ·rename_i g
  rw[if_pos g];split at h
  ·rename_i a
   rw[if_pos a];cases h;rfl
  ·rename_i a
   rw[if_neg a];obtain⟨ms,e,c⟩:=Za.1 h;split at c
   ·cases c;rw[e];rfl
   ·cases c
 ·cases h
theorem f1b(s:List UInt8):((rdL s).getD []).length<=s.length+1:=by
 cases h:rdL s with
 |none=>exact Zt _
 |some ns=>have:=b4w h;have a:=Y0 44 s;simp only[Option.getD_some];omega
theorem c1h{s:List UInt8}{o:Option (List Int)}(h:numsOf s=(o.bind fun ns=>if vd ns=true then some ns else none)):(numsOf s).isSome=(o.isSome&&vd (o.getD [])):=by
 rw[h];cases o with
 |none=>rfl
 |some ns=>
  simp only[Zk,Option.isSome_some,Bool.true_and,Option.getD_some];cases a:vd ns<;>rfl
inductive Pl where
 |lst (ns:List Int)
 |col (w:List UInt8)
 |un (w:List UInt8) (p:Pl)
 |bin (w:List UInt8) (p q:Pl)
 deriving Inhabited
abbrev lW:List UInt8:=[108,105,115,116]
def Pl.op:Pl->List UInt8
 | .lst _=>lW
 | .col w=>w
 | .un w _=>w
 | .bin w _ _=>w
def Pl.ns:Pl->List Int
 | .lst ns=>ns
 |_=>[]
def Pl.kids:Pl->List Pl
 | .lst _=>[]
 | .col _=>[]
 | .un _ p=>[p]
 | .bin _ p q=>[p,q]
def a7i:Pl->List AV
 | .lst _=>[]
 | .col _=>[]
 | .un _ p=>[.agg [tV p.op,.list (p.ns.map iV),.list (a7i p)]]
 | .bin _ p q=>[.agg [tV p.op,.list (p.ns.map iV),.list (a7i p)],.agg [tV q.op,.list (q.ns.map iV),.list (a7i q)]]
abbrev trV(t:Pl):AV:= .agg [tV t.op,.list (t.ns.map iV),.list (a7i t)]
abbrev trK(t:Pl):AV:= .agg [tV t.op,.list (t.ns.map iV),.list (t.kids.map trV)]
theorem a4n(t:Pl):a7i t=t.kids.map trV:=by cases t<;>rfl
theorem K4(t:Pl):trV t=trK t:=by show AV.agg _=AV.agg _;rw[a4n]
abbrev trZ:AV:= .agg [tV [],.list [],.list []]
abbrev W8:=List UInt8
def rdP:Nat->List W8->Option (Pl×List W8)
 |0,_=>none
 |_+1,[]=>none
 |n+1,w::ws=>match numsOf w with
  |some ns=>some (.lst ns,ws)
  |none=>
   if rch (bA w)=0 then some (.col w,ws)
   else if rch (bA w)=1 then(rdP n ws).map fun x=>(.un w x.1,x.2)
   else if rch (bA w)=2 then(rdP n ws).bind fun x=>(rdP n x.2).map fun y=>(.bin w x.1 y.1,y.2)
   else none
def rdT(ws:List W8):Option (Pl×List W8):=rdP ws.length ws
theorem a5e:∀{n:Nat} {ws r:List W8} {t:Pl},rdP n ws=some (t,r)->r.length<ws.length
 |0,_,_,_,h=>by cases h
 |_+1,[],_,_,h=>by cases h
 |n+1,w::ws,r,t,h=>by
  rw[rdP]at h;split at h
  ·cases h;exact ZK _
  ·split at h
   ·cases h;exact ZK _
   ·split at h
    ·obtain⟨⟨p,l⟩,c,e⟩:=Zf.1 h
     cases e;have:=a5e c;simp only[Zg];omega
    ·split at h
     ·obtain⟨⟨p,l⟩,c,e⟩:=Za.1 h
      obtain⟨⟨q,o⟩,g,i⟩:=Zf.1 e;cases i;have a:=a5e c;have b:=a5e g;simp only[Zg]at b|-;omega
     ·cases h
theorem c0b:∀{n m:Nat} {ws:List W8},ws.length<=n->ws.length<=m->rdP n ws=rdP m ws
 |0,0,_,_,_=>rfl
 |0,m+1,[],_,_=>rfl
 |n+1,0,[],_,_=>rfl
 |n+1,m+1,[],_,_=>rfl
 |0,_,w::ws,h,_=>by simp at h
 |n+1,0,w::ws,_,h=>by simp at h
 |n+1,m+1,w::ws,c,g=>by
  simp only[Zg]at c g;have e:rdP n ws=rdP m ws:=c0b (by omega) (by omega);rw[rdP,rdP,e];have a:((rdP m ws).bind fun x=>(rdP n x.2).map fun y=>(Pl.bin w x.1 y.1,y.2))=(rdP m ws).bind fun x=>(rdP m x.2).map fun y=>(Pl.bin w x.1 y.1,y.2):=by
   cases h:rdP m ws with
   |none=>rfl
   |some x=>
    obtain⟨p,r⟩:=x;have:=a5e h;simp only[Zk];rw[c0b (n:=n) (m:=m) (ws:=r) (by omega) (by omega)]
  rw[a]
theorem d3c{w:W8}{ws:List W8}{ns:List Int}(h:numsOf w=some ns):rdT (w::ws)=some (.lst ns,ws):=by
 rw[rdT,Zg,rdP,h]
theorem e1d{w:W8}{ws:List W8}(h:numsOf w=none)(a:rch (bA w)=0):rdT (w::ws)=some (.col w,ws):=by
 rw[rdT,Zg,rdP,h];exact if_pos a
theorem e0o{w:W8}{ws:List W8}(h:numsOf w=none)(a:rch (bA w)<0):rdT (w::ws)=none:=by
 rw[rdT,Zg,rdP,h];simp only;rw[if_neg (by omega),if_neg (by omega),if_neg (by omega)]
theorem c8s{w:W8}{ws:List W8}(h:numsOf w=none)(a:rch (bA w)=1):rdT (w::ws)=(rdT ws).map fun x=>(.un w x.1,x.2):=by
 rw[rdT,Zg,rdP,h];simp only;rw[if_neg (by omega),if_pos a];rfl
theorem a9k{w:W8}{ws:List W8}(h:numsOf w=none)(a:rch (bA w)=2):rdT (w::ws)=(rdT ws).bind fun x=>(rdT x.2).map fun y=>(.bin w x.1 y.1,y.2):=by
 rw[rdT,Zg,rdP,h];simp only;rw[if_neg (by omega),if_neg (by omega),if_pos a];show(rdT ws).bind _=_;cases h:rdT ws with
 |none=>rfl
 |some x=>
  obtain⟨p,r⟩:=x;have:=a5e h;simp only[Zk];rw[c0b (n:=ws.length) (m:=r.length) (ws:=r) (by omega) (by omega)];rfl
theorem a1q{ws r:List W8}{t:Pl}(h:rdT ws=some (t,r)):r.length<ws.length:=a5e h
def rtR:Option (Pl×List W8)->AV
 |some (t,r)=> .tup [trV t,.list (r.map tV),bV true]
 |none=> .tup [trZ,.own 1 [],bV false]
theorem c6c{w:ByteArray}(h:0<=rch w):rch w=0\/rch w=1\/rch w=2:=by have:=e9g w;omega
end Go.Mv
namespace Go.Mv
theorem b1i:∀{n:Nat} {ws r:List W8} {t:Pl},rdP n ws=some (t,r)->∀x∈r,x∈ws
 |0,_,_,_,h=>by cases h
 |_+1,[],_,_,h=>by cases h
 |n+1,w::ws,r,t,h=>by
  rw[rdP]at h;split at h
  ·cases h;exact fun x a=>Zn _ a
  ·split at h
   ·cases h;exact fun x a=>Zn _ a
   ·split at h
    ·obtain⟨⟨p,l⟩,c,e⟩:=Zf.1 h
     cases e;exact fun x a=>Zn _ (b1i c x a)
    ·split at h
     ·obtain⟨⟨p,l⟩,c,e⟩:=Za.1 h
      obtain⟨⟨q,o⟩,g,i⟩:=Zf.1 e;cases i;exact fun x a=>Zn _ (b1i c x (b1i g x a))
     ·cases h
theorem b7j{ws r:List W8}{t:Pl}(h:rdT ws=some (t,r)):∀x∈r,x∈ws:=b1i h
end Go.Mv
namespace Go.Mv
def rpT(s:List UInt8):Pl:=if s.length<=160/\(splitB 32 s).length<=16 then(match rdT (splitB 32 s)with|some (t,_)=>t|none=> .col [])else .col []
def rdPlan(s:List UInt8):Option Pl:=if s.length<=160/\(splitB 32 s).length<=16 then(rdT (splitB 32 s)).bind fun x=>if x.2.length=0 then some x.1 else none else none
theorem f4v{s:List UInt8}{t:Pl}(h:rdPlan s=some t):rpT s=t:=by
 unfold rdPlan at h;unfold rpT;split at h
 ·rename_i e
  rw[if_pos e];obtain⟨⟨t1,r⟩,c,a⟩:=Za.1 h;split at a
  ·cases a;rw[c]
  ·cases a
 ·cases h
theorem b9g{s:List UInt8}(h:160<s.length\/16<(splitB 32 s).length):rdPlan s=none/\rpT s= .col []:=by
 have a:¬(s.length<=160/\(splitB 32 s).length<=16):=by omega
 exact⟨if_neg a,if_neg a⟩
theorem e4k{s:List UInt8}{ws:List W8}(hw:ws=splitB 32 s)(h:s.length<=160/\ws.length<=16):(rdT ws=none->rdPlan s=none/\rpT s= .col [])/\∀t r,rdT ws=some (t,r)->(rdPlan s).isSome=decide ((r.length:Int)=0)/\rpT s=t:=by
 subst hw;refine⟨fun a=> ?_,fun t r a=> ?_⟩
 ·rw[rdPlan,rpT,if_pos h,if_pos h,a];exact⟨U,U⟩
 ·rw[rdPlan,rpT,if_pos h,if_pos h,a]
  refine⟨?_,U⟩;rw[Zk];by_cases c:r.length=0
  ·rw[if_pos c];simp[c]
  ·rw[if_neg c,decide_eq_false (by omega)];rfl
section
variable{cx:Cx}{keep:List Nat}{ops0:Array Oper}{r:List Oper}{A:Asr}{Q:Asr->List Log->Prop}{d:Nat}{ty:Nat}{pos:String}{aft:Array Edge}
variable{C:Caller}{m f j:Nat}{cs fs:List AV}{G:Type}{vs:G->List AV}{ws:G->Ws}{ls:List Mv.Loc}
theorem N2{id g n:Nat}(hid:id<100000)(t:b4t C A 3 f (j+1) cs.tail fs vs ws ls):b4t C A 3 f j cs (.sl id g none 0 n::fs) (fun x=> .sl id g none 0 n::vs x) ws ls:=by
 refine A5 ?_;unfold K0;simp only[if_true];rw[if_neg (by simp;omega)];refine C3 (A5 (H7 t ?_));rintro _ _ _ ⟨g,rfl,rfl,rfl⟩;exact C3 ⟨g,U,by simp,by simp⟩
theorem b1f{id g s n:Nat}{es:List AV}(i:look A (.h id)=some (.obj g 0 s es))(c:n=es.length)(a:G3 es=true){R:List AV->Ws->List Mv.Loc->Prop}(h:R (frzL es) [(.h id,.obj g 2 s (frzL es))] [.h id]):wpW C A (freeze (.sl id g none 0 n)) R:=by
 subst c;unfold freeze;refine A5 (K3 i (A5 (E7 (by simp[bxB]) ?_)));simp only[show¬((0:Nat)=2)from by decide,if_false];refine A5 (E7 (by simp[a]) (A5 (J5 (C3 ?_))));have e:(frzL es).take es.length=frzL es:=by rw[<-U8 es,Yl]
 simpa[e]using h
variable{b:Bool}{us:List AV}{w1:Ws}
theorem I5(a:b=true)(t:c2y C A b fs us w1 ls):c2y C A b (.nil::fs) (.list []::us) w1 ls:=by
 subst a;refine A5 ?_;unfold retLf;rw[if_pos U];refine C3 (A5 (H7 t ?_));rintro _ _ _ ⟨rfl,rfl,rfl⟩;exact C3 ⟨U,by simp,by simp⟩
theorem K8{α:Type}{φ:α->AV}{xs:List α}{id g s n:Nat}(i:b=true)(o:look A (.h id)=some (.obj g 0 s (xs.map φ)))(l:n=(xs.map φ).length)(e:∀a,L0 (φ a)=true)(t:c2y C (put A (.h id) (.obj g 2 s (xs.map φ))) b fs us w1 ls):
 c2y C A b (.sl id g none 0 n::fs) (.list (xs.map φ)::us) ((.h id,.obj g 2 s (xs.map φ))::w1) (.h id::ls):=by
 subst i;refine A5 ?_;unfold retLf;rw[if_pos U];have p:G3 (xs.map φ)=true:=A7 fun a=>by
  have:=e a;cases c:φ a<;>rw[c]at this<;>simp_all[L0,L3]
 refine A5 (b1f o l p (C3 (A5 ?_)));rw[O3 e];refine H7 t ?_;rintro _ _ _ ⟨rfl,rfl,rfl⟩;exact C3 ⟨U,by simp,by simp⟩
end
section
variable{cx:Cx}{keep:List Nat}{ops0:Array Oper}{r:List Oper}{A:Asr}{Q:Asr->List Log->Prop}{d:Nat}{ty:Nat}{pos:String}{aft:Array Edge}
theorem d3m{T z:Nat}{a b:Operand}(e:a4k cx.P T=true)(g:opd A a=some .ifc)(i:opd A b=some (.val .nilIface))
 (h:XR cx keep ops0 r ((.t d,bV true)::A) fun c n=>Q c ((rds a++rds b,[.t d])::n)):XR cx keep ops0 (⟨some d,.binOp .neq T a b z,ty,pos,aft,none⟩::r) A Q:=
 K2 (fun o l=>by simp only[aopV,l]) (by simp only[opV,E3,E5 g,E5 i,F8,F4,a3n,a1z,Zm,Zi,true_and,and_self,and_true];exact⟨e,by simp[F4]⟩) (by simp[slotOk,refOkV,refsOk]) h
theorem e6s{T z:Nat}{a b:Operand}(e:a4k cx.P T=true)(l:a8q b=true)(g:opd A a=some (.val .nilIface))(i:opd A b=some (.val .nilIface))
 (h:XR cx keep ops0 r ((.t d,bV false)::A) fun c p=>Q c ((rds a++rds b,[.t d])::p)):XR cx keep ops0 (⟨some d,.binOp .neq T a b z,ty,pos,aft,none⟩::r) A Q:=
 K2 (fun o n=>by simp only[aopV,n]) (by simp only[opV,E3,E5 g,E5 i,F8,F4,a3n,a1z,Zm,Zi,true_and,and_self,and_true,e,l,Bool.or_true,Bool.and_self]) (by simp[slotOk,refOkV,refsOk]) h
end
theorem c8c{A:Asr}{C:Caller}{fs us:List AV}{w1:Ws}{ls:List Mv.Loc}{b:Bool}{id g s n:Nat}(a:b=true)(e:look A (.h id)=some (.obj g 0 s []))(c:n=0)(t:c2y C (put A (.h id) (.obj g 2 s [])) b fs us w1 ls):
 c2y C A b (.sl id g none 0 n::fs) (.list []::us) ((.h id,.obj g 2 s [])::w1) (.h id::ls):=
 K8 (φ:=iV) (xs:=[]) a e c (fun _=>U) t
def unT:List AV->Option (List (List UInt8))
 |[]=>some []
 | .val (.string s)::r=>(unT r).map (s.data.toList:: ·)
 |_=>none
theorem e1k(ps:List (List UInt8)):unT (ps.map tV)=some ps:=by
 induction ps with
 |nil=>rfl
 |cons p ps a=>simp[unT,a]
def one?(s:ByteArray):Option UInt8:=match s.data.toList with
 |[b]=>some b
 |_=>none
theorem one?_some{s:ByteArray}{b:UInt8}(h:one? s=some b):s=bA [b]:=by
 unfold one? at h;split at h
 ·rename_i c a
  cases h;have:s=bA s.data.toList:=(a0g s).symm;rw[a]at this;exact this
 ·cases h
def b8r:List AV->Option (AV×List (List AV))
 |[.val (.string s),.val (.string c)]=>(one? c).bind fun b=>if s.size<4294967281 then some (.own 1 ((splitB b s.data.toList).map tV),[])else none
 |_=>none
def c6g:List AV->Option (AV×List (List AV))
 |[.list es,.val (.string c)]=>(one? c).bind fun b=>(unT es).bind fun a=>if a.length<=H6/\(joinB b a).length<=H6 then some (tV (joinB b a),[])else none
 |_=>none
def a6m(b:UInt8)(l:List UInt8):List UInt8:=if l.head? =some b then l.tail else l
def c2x(b:UInt8)(l:List UInt8):List UInt8:=if l.getLast? =some b then l.dropLast else l
def c8q:List AV->Option (AV×List (List AV))
 |[.val (.string s),.val (.string c)]=>(one? c).bind fun b=>some (.tup [tV (a6m b s.data.toList),bV (decide (s.data.toList.head? =some b))],[])
 |_=>none
def c6k:List AV->Option (AV×List (List AV))
 |[.val (.string s),.val (.string c)]=>(one? c).bind fun b=>if s.size<4294967281 then some (.tup [tV (c2x b s.data.toList),bV (decide (s.data.toList.getLast? =some b))],[])else none
 |_=>none
def b7f:List AV->Option (AV×List (List AV))
 |[.val (.int .i64 n)]=>if-9223372036854775808<=n/\n<=9223372036854775807 then some (tV (dec n),[])else none
 |_=>none
def atR(l:List UInt8):AV:=match Lib.atoiAll l with
 | .ok v=> .tup [iV v,.val .nilIface]
 | .range=> .tup [iV (Lib.atoiSat l),.ifc]
 |_=> .tup [iV 0,.ifc]
def c7q:List AV->Option (AV×List (List AV))
 |[.val (.string s)]=>if s.size<4294967281 then some (atR s.data.toList,[])else none
 |_=>none
theorem c1d{c:UInt8}(e:48<=c.toNat/\c.toNat<=57):∀(x:List UInt8) (a u:Nat),YR a x= .ok u->u<=100000000->YR a (x++[c])= .ok (u*10+(c.toNat-48))
 |[],a,u,h,hu=>by
  simp only[YR]at h;injection h with h
  subst h;simp only[Zi,YR];rw[if_pos e,if_neg (by omega),if_neg (by omega)]
 |b::r,a,u,h,hu=>by
  simp only[YR]at h;simp only[Zp,YR];split at h
  ·split at h
   ·cases h
   ·split at h
    ·cases h
    ·rename_i g i l
     rw[if_pos g,if_neg i,if_neg l];exact c1d e r _ u h hu
  ·cases h
theorem e3m(n:Nat):n<=1000000->YR 0 (decN n)= .ok n:=by
 induction n using Nat.strongRecOn with
 |_ n a=>
  intro c;rw[decN];split
  ·simp only[YR]
   rw[u8n (by omega),if_pos (by omega),if_neg (by omega),if_neg (by omega)];congr 1;omega
  ·rw[c1d (by rw[u8n (by omega)];omega) _ _ _ (a (n/10) (by omega) (by omega)) (by omega),u8n (by omega)]
   congr 1;omega
theorem e7y{n:Int}(h: -1000000<=n/\n<=1000000):Lib.atoiAll (dec n)= .ok n:=by
 have key:∀m:Nat,m<=1000000->Lib.parseMag (decN m)= .ok m:=fun m hm=>by rw[Lib.parseMag,if_neg (b1k m),e3m m hm]
 by_cases i:n<0
 ·rw[dec,if_pos i]
  simp only[Lib.atoiAll];rw[if_pos (.inr (by decide)),key _ (by omega)];simp only;rw[if_neg (by omega),if_neg (by omega)];have:(45:UInt8).toNat=45:=rfl;simp only[this,if_true];congr 1;omega
 ·have e:dec n=decN n.toNat:=by rw[dec,if_neg i]
  rw[e];have g:=key n.toNat (by omega);cases c:decN n.toNat with
  |nil=>exact absurd c (b1k _)
  |cons b r=>
   have l:=b1w n.toNat b (by rw[c];simp);rw[c]at g;simp only[Lib.atoiAll];rw[if_neg (by omega),g];have a:¬b.toNat=45:=by omega
   simp only[a,not_false_eq_true,true_and,false_and,if_false];rw[if_neg (by omega)];congr 1;omega
def rdA:List (List UInt8)->Option (List Int)
 |[]=>some []
 |p::r=>match Lib.atoiAll p with
  | .ok v=>(rdA r).map fun ns=>v::ns
  |_=>none
theorem e0m:∀{ns:List Int},(∀n∈ns,-1000000<=n/\n<=1000000)->rdA (ns.map dec)=some ns
 |[],_=>rfl
 |n::ns,h=>by rw[Zy,rdA,e7y (h n (by simp)),e0m fun x a=>h x (Zn _ a)];rfl
theorem e9w{ps:List (List UInt8)}{ns:List Int}{i:Nat}{v:Int}(c:i<ps.length)(h:rdA (ps.take i)=some ns)(e:Lib.atoiAll (ps.getD i default)= .ok v):rdA (ps.take (i+1))=some (ns++[v]):=by
 induction ps generalizing ns i with
 |nil=>simp at c
 |cons p r l=>
  cases i with
  |zero=>
   simp only[List.take_zero,rdA,Zb]at h;subst h;have a:Lib.atoiAll p= .ok v:=e;simp[rdA,a]
  |succ i=>
   simp only[List.take_succ_cons,rdA]at h|-;split at h
   ·rename_i u hu
    obtain⟨ms,g,rfl⟩:=Zf.1 h;rw[l (by simpa using c) g (by simpa using e)];rfl
   ·cases h
theorem d2k{ps:List (List UInt8)}{i:Nat}(c:i<ps.length)(e:∀v,Lib.atoiAll (ps.getD i default)≠.ok v):rdA ps=none:=by
 induction ps generalizing i with
 |nil=>simp at c
 |cons p r g=>
  cases i with
  |zero=>
   have a:∀v,Lib.atoiAll p≠.ok v:=e;rw[rdA];split
   ·rename_i u hu;exact absurd hu (a u)
   ·rfl
  |succ i=>
   rw[rdA];split
   ·rw[g (by simpa using c) (by simpa using e)];rfl
   ·rfl
def a7l(w:List UInt8):List UInt8:=c2x 93 (a6m 91 w)
def okB(w:List UInt8):Bool:=decide (w.head? =some 91)&&decide ((a6m 91 w).getLast? =some 93)
def a5f(w:List UInt8):Option (List Int):=if okB w=true then(if a7l w=[]then some []else rdA (splitB 44 (a7l w)))else none
def okI(w:List UInt8):Bool:=match a5f w with
 |some ns=>vd ns&&decide (R9 ns=w)
 |none=>false
theorem d3s{w:List UInt8}{ns:List Int}(h:numsOf w=some ns):a5f w=some ns:=by
 obtain⟨rfl,p⟩:=a8e h;have g:a6m 91 (R9 ns)=O6 ns++[93]:=by rw[a6m,if_pos (show(R9 ns).head? =some 91 from U)];rfl
 have i:(a6m 91 (R9 ns)).getLast? =some 93:=by rw[g];simp
 have l:a7l (R9 ns)=O6 ns:=by rw[a7l,c2x,if_pos i,g];simp
 have c:okB (R9 ns)=true:=by rw[okB,i];rfl
 rw[a5f,if_pos c,l];by_cases a:ns=[]
 ·subst a;rfl
 ·have o:O6 ns≠[]:=by
   intro e;have:=a3z a;rw[e]at this;cases ns with
   |nil=>exact a U
   |cons n r=>
    simp only[splitB,Zy,List.cons.injEq]at this;exact e7g n this.1.symm
  rw[if_neg o,a3z a];exact e0m fun n a=>by have:=e8i p n a;omega
theorem f4b(w:List UInt8):okI w=(numsOf w).isSome:=by
 cases h:numsOf w with
 |some ns=>
  obtain⟨e,a⟩:=a8e h;rw[okI,d3s h];simp[a,<-e]
 |none=>
  rw[okI];cases c:a5f w with
  |none=>rfl
  |some ns=>
   simp only;cases a:vd ns with
   |false=>rfl
   |true=>
    rw[Bool.true_and];refine decide_eq_false fun e=> ?_
    have:=b5i a;rw[e,h]at this;cases this
theorem e7h(w:List UInt8):(∃ns,numsOf w=some ns)\/(numsOf w=none/\rch (bA w)=0)\/(numsOf w=none/\rch (bA w)=1)\/(numsOf w=none/\rch (bA w)=2)\/(numsOf w=none/\rch (bA w)<0):=by
 cases h:numsOf w with
 |some ns=>exact .inl ⟨ns,U⟩
 |none=>
  have:=e9g (bA w);rcases Int.lt_or_le (rch (bA w)) 0 with c|c
  ·exact .inr (.inr (.inr (.inr ⟨U,c⟩)))
  ·rcases c6c c with c|c|c
   ·exact .inr (.inl ⟨U,c⟩)
   ·exact .inr (.inr (.inl ⟨U,c⟩))
   ·exact .inr (.inr (.inr (.inl ⟨U,c⟩)))
theorem f1g(w:List UInt8):(decide (w≠lW)&&decide (0<=nd (bA w)))=decide (0<=rch (bA w)):=by
 by_cases h:w=lW
 ·subst h
  rw[c1q (show(bA lW).toList=wList.toList from U)]
  rfl
 ·rw[decide_eq_true h,Bool.true_and,d6r _ (by rw[a4r,a0t];exact h)]
theorem S3{w:List UInt8}(h:0<=rch (bA w)):nd (bA w)=rch (bA w):=by
 refine d6r _ fun e=> ?_
 rw[c1q e]at h;omega
end Go.Mv
namespace Go.Mv
theorem c2s{ns:List Int}{i:Nat}(h:i<ns.length):(ns.take (i+1)).map dec=(ns.take i).map dec++[dec (ns.getD i default)]:=by
 rw[Yj h,ZZ,List.map_singleton,Zc,Ze h];rfl
theorem e8l(b:UInt8)(l:List UInt8):(a6m b l).length<=l.length:=by
 unfold a6m;split
 ·cases l<;>simp
 ·exact Zd _
theorem e6t(b:UInt8)(l:List UInt8):(c2x b l).length<=l.length:=by
 unfold c2x;split
 ·simp
 ·exact Zd _
theorem c1g:∀{ps:List (List UInt8)} {ns:List Int},rdA ps=some ns->ns.length=ps.length
 |[],ns,h=>by cases h;rfl
 |p::r,ns,h=>by
  rw[rdA]at h;split at h
  ·obtain⟨ms,a,rfl⟩:=Zf.1 h
   simp[c1g a]
  ·cases h
def rlX(w:List UInt8):List Int:=(a5f w).getD []
theorem f3x{w:List UInt8}{ns:List Int}(h:numsOf w=some ns):rlX w=ns:=by rw[rlX,d3s h];rfl
theorem c8k{w:List UInt8}(h:a5f w=none):okI w=false/\rlX w=[]:=by rw[okI,rlX,h];exact⟨rfl,rfl⟩
theorem b1c{w:List UInt8}{ns:List Int}(h:a5f w=some ns):okI w=(vd ns&&decide (R9 ns=w))/\rlX w=ns:=by rw[okI,rlX,h];exact⟨rfl,rfl⟩
theorem d2f{w:List UInt8}(h:okB w=false):a5f w=none:=by rw[a5f,h];rfl
theorem e2b{w:List UInt8}(h:okB w=true)(a:a7l w=[]):a5f w=some []:=by rw[a5f,if_pos h,if_pos a]
theorem b7b{w:List UInt8}(h:okB w=true)(a:a7l w≠[]):a5f w=rdA (splitB 44 (a7l w)):=by rw[a5f,if_pos h,if_neg a]
theorem e1e{ns:List Int}(h:vd ns=true):∀n∈ns,-1000000<=n/\n<=1000000:=fun n a=>by have:=e8i h n a;omega
theorem e8k{w:List UInt8}(h:okB w=true):(a7l w).length+2<=w.length:=by
 simp only[okB,Zx,decide_eq_true_eq]at h;obtain⟨c,a⟩:=h;have g:(a6m 91 w).length+1=w.length:=by
  rw[a6m,if_pos c];cases w with
  |nil=>cases c
  |cons b r=>rfl
 have i:(a7l w).length+1=(a6m 91 w).length:=by
  rw[a7l,c2x,if_pos a];cases e:a6m 91 w with
  |nil=>rw[e]at a;cases a
  |cons b r=>simp
 omega
end Go.Mv
namespace Go.Mv
def ipT(s:List UInt8):Pl:=match rdT (splitB 32 s)with
 |some (t,_)=>t
 |none=> .col []
def d4s(s:List UInt8):Bool:=match rdT (splitB 32 s)with
 |some (_,r)=>decide ((r.length:Int)=0)&&decide (((splitB 32 s).length:Int)<=16)
 |none=>false
theorem f0b{s:List UInt8}{ws:List W8}(hw:ws=splitB 32 s)(h:rdT ws=none):ipT s= .col []/\d4s s=false:=by
 subst hw;rw[ipT,d4s,h];exact⟨U,U⟩
theorem c7m{s:List UInt8}{ws:List W8}{t:Pl}{r:List W8}(hw:ws=splitB 32 s)(h:rdT ws=some (t,r)):ipT s=t/\d4s s=(decide ((r.length:Int)=0)&&decide ((ws.length:Int)<=16)):=by
 subst hw;rw[ipT,d4s,h];exact⟨U,U⟩
theorem f5b(s:List UInt8):(d4s s&&decide ((s.length:Int)<=160))=(rdPlan s).isSome:=by
 rw[d4s,rdPlan];by_cases h:s.length<=160/\(splitB 32 s).length<=16
 ·rw[if_pos h,decide_eq_true (show(s.length:Int)<=160 by omega),Bool.and_true]
  cases e:rdT (splitB 32 s)with
  |none=>rfl
  |some x=>
   obtain⟨t,r⟩:=x;simp only[Zk];rw[decide_eq_true (show((splitB 32 s).length:Int)<=16 by omega),Bool.and_true];by_cases c:r.length=0
   ·rw[if_pos c];simp[c]
   ·rw[if_neg c,decide_eq_false (by omega)];rfl
 ·rw[if_neg h]
  rcases Nat.lt_or_ge 160 s.length with c|c
  ·rw[decide_eq_false (show¬(s.length:Int)<=160 by omega),Bool.and_false];rfl
  ·have a:¬((splitB 32 s).length:Int)<=16:=by omega
   split
   ·rw[decide_eq_false a,Bool.and_false];rfl
   ·rfl
theorem e8w{s:List UInt8}{t:Pl}(h:rdPlan s=some t):ipT s=t:=by
 unfold rdPlan at h;split at h
 ·obtain⟨⟨t1,r⟩,c,a⟩:=Za.1 h
  split at a
  ·cases a;rw[ipT,c]
  ·cases a
 ·cases h
def pr(w:ByteArray):Int:=
 if w.toList=e0z.toList then 5 else if w.toList=c9n.toList then 5
 else if w.toList=wList.toList then 1 else if w.toList=wA.toList then 1 else if w.toList=wB.toList then 1 else if w.toList=wC.toList then 1 else if w.toList=wD.toList then 1 else 2
theorem e9o{p:Prop}[Decidable p]{a b:Int}(c:1<=a/\a<=5)(e:1<=b/\b<=5):1<=(if p then a else b)/\(if p then a else b)<=5:=by split<;>assumption
theorem c1x(w:ByteArray):1<=pr w/\pr w<=5:=by
 unfold pr
 repeat (refine e9o (by decide) ?_)
 decide
def Pl.sz:Pl->Nat
 | .lst _=>1
 | .col _=>1
 | .un _ p=>p.sz+1
 | .bin _ p q=>p.sz+q.sz+1
def Y1:Pl->Int
 | .lst _=>pr (bA lW)
 | .col w=>pr (bA w)
 | .un w p=>pr (bA w)+Y1 p
 | .bin w p q=>pr (bA w)+Y1 p+Y1 q
def R8(t:Pl):Nat->Int
 |0=>pr (bA t.op)
 |i+1=>R8 t i+Y1 (t.kids.getD i default)
theorem W5(t:Pl):R8 t t.kids.length=Y1 t:=by cases t<;>rfl
theorem S0:∀t:Pl,1<=Y1 t/\Y1 t<=5*t.sz
 | .lst _=>c1x _
 | .col w=>c1x _
 | .un w p=>by have:=S0 p;have:=c1x (bA w);simp only[Y1,Pl.sz];omega
 | .bin w p q=>by have:=S0 p;have:=S0 q;have:=c1x (bA w);simp only[Y1,Pl.sz];omega
theorem a0j{t:Pl}{i:Nat}(c:i<=t.kids.length):1<=R8 t i/\R8 t i<=Y1 t:=by
 have a:=c1x (bA t.op);cases t with
 |lst ns=>simp only[Pl.kids,Zs]at c;obtain rfl:i=0:=by omega
          exact⟨a.1,Xg _⟩
 |col w=>simp only[Pl.kids,Zs]at c;obtain rfl:i=0:=by omega
         exact⟨a.1,Xg _⟩
 |un w p=>
  have:=S0 p;rcases i with _|_|i
  ·simp only[R8,Y1,Pl.op]at a|-;omega
  ·simp only[R8,Y1,Pl.op,Pl.kids,YT]at a|-;omega
  ·simp[Pl.kids]at c
 |bin w p q=>
  have:=S0 p;have:=S0 q;rcases i with _|_|_|i
  ·simp only[R8,Y1,Pl.op]at a|-;omega
  ·simp only[R8,Y1,Pl.op,Pl.kids,YT]at a|-;omega
  ·simp only[R8,Y1,Pl.op,Pl.kids,YT,YS]at a|-;omega
  ·simp[Pl.kids]at c
theorem Y8{t:Pl}{i:Nat}(a:i<t.kids.length):(t.kids.getD i default).sz<t.sz:=by
 cases t with
 |lst ns=>simp[Pl.kids]at a
 |col w=>simp[Pl.kids]at a
 |un w p=>
  obtain rfl:i=0:=by simp[Pl.kids]at a;omega
  exact ZK _
 |bin w p q=>
  rcases i with _|_|i
  ·simp only[Pl.kids,YT,Pl.sz];omega
  ·simp only[Pl.kids,YT,YS,Pl.sz];omega
  ·simp[Pl.kids]at a;omega
theorem a5b(t:Pl):t.kids.length<=2:=by cases t<;>simp[Pl.kids]
theorem c8z:∀{n:Nat} {ws r:List W8} {t:Pl},rdP n ws=some (t,r)->t.sz+r.length<=ws.length
 |0,_,_,_,h=>by cases h
 |_+1,[],_,_,h=>by cases h
 |n+1,w::ws,r,t,h=>by
  rw[rdP]at h;split at h
  ·cases h;simp only[Pl.sz,Zg];omega
  ·split at h
   ·cases h;simp only[Pl.sz,Zg];omega
   ·split at h
    ·obtain⟨⟨p,l⟩,c,e⟩:=Zf.1 h
     cases e;have:=c8z c;simp only[Pl.sz,Zg];omega
    ·split at h
     ·obtain⟨⟨p,l⟩,c,e⟩:=Za.1 h
      obtain⟨⟨q,o⟩,g,i⟩:=Zf.1 e;cases i;have a:=c8z c;have b:=c8z g;simp only[Pl.sz,Zg]at b|-;omega
     ·cases h
theorem c4i{s:List UInt8}{t:Pl}(h:rdPlan s=some t):t.sz<=16:=by
 unfold rdPlan at h;split at h
 ·rename_i e
  obtain⟨⟨t1,r⟩,c,a⟩:=Za.1 h;have:=c8z c;split at a
  ·cases a;simp only;omega
  ·cases a
 ·cases h
theorem a5x{s:List UInt8}(h:(rdPlan s).isSome=true):∃t,rdPlan s=some t/\rpT s=t/\t.sz<=16:=by
 obtain⟨t,a⟩:=Option.isSome_iff_exists.1 h;exact⟨t,a,f4v a,c4i a⟩
def a9v(s:List UInt8):Int:=match rdPlan s with
 |some t=>Y1 t
 |none=> -1
theorem a5t{s:List UInt8}{t:Pl}(h:rdPlan s=some t):a9v s=Y1 t:=by rw[a9v,h]
theorem b8h{s:List UInt8}(h:(rdPlan s).isSome=false):a9v s= -1:=by
 rw[a9v];cases e:rdPlan s with
 |none=>rfl
 |some t=>rw[e]at h;cases h
def Pl.good:Pl->Prop
 | .lst ns=>vd ns=true
 | .col w=>w≠lW/\w.length<=1048576
 | .un w p=>w≠lW/\w.length<=1048576/\p.good
 | .bin w p q=>w≠lW/\w.length<=1048576/\p.good/\q.good
theorem Z3{t:Pl}(h:t.good)(e:t.op=lW):∃ns,t= .lst ns/\vd ns=true:=by
 cases t with
 |lst ns=>exact⟨ns,U,h⟩
 |col w=>exact absurd e h.1
 |un w p=>exact absurd e h.1
 |bin w p q=>exact absurd e h.1
theorem a8d{t:Pl}(h:t.good){i:Nat}(a:i<t.kids.length):(t.kids.getD i default).good:=by
 cases t with
 |lst ns=>simp[Pl.kids]at a
 |col w=>simp[Pl.kids]at a
 |un w p=>
  obtain rfl:i=0:=by simp[Pl.kids]at a;omega
  exact h.2.2
 |bin w p q=>
  rcases i with _|_|i
  ·exact h.2.2.1
  ·exact h.2.2.2
  ·simp[Pl.kids]at a;omega
theorem c0y{w:W8}{ws:List W8}(a:∀x∈w::ws,x.length<=1048576)(h:0<=rch (bA w)):w≠lW/\w.length<=1048576:=
 ⟨fun e=>absurd h (by subst e;decide+kernel),a w (Zq ..)⟩
theorem e2q{w:W8}{ns:List Int}(h:numsOf w=some ns):vd ns=true:=by
 unfold numsOf at h;split at h
 ·split at h
  ·cases h;rfl
  ·obtain⟨ms,c,a⟩:=Za.1 h
   split at a
   ·cases a;assumption
   ·cases a
 ·cases h
theorem b1r:∀{n:Nat} {ws r:List W8} {t:Pl},(∀x∈ws,x.length<=1048576)->rdP n ws=some (t,r)->t.good
 |0,_,_,_,_,h=>by cases h
 |_+1,[],_,_,_,h=>by cases h
 |n+1,w::ws,r,t,g,h=>by
  have a:∀x∈ws,x.length<=1048576:=fun x l=>g x (Zn _ l)
  rw[rdP]at h;split at h
  ·cases h;exact e2q (by assumption)
  ·split at h
   ·cases h;exact c0y g (by omega)
   ·split at h
    ·obtain⟨⟨p,u⟩,e,i⟩:=Zf.1 h
     cases i;have c:=c0y g (by omega);exact⟨c.1,c.2,b1r a e⟩
    ·split at h
     ·obtain⟨⟨p,u⟩,e,i⟩:=Za.1 h
      obtain⟨⟨q,v⟩,o,s⟩:=Zf.1 i;cases s;have c:=c0y g (by omega);exact⟨c.1,c.2,b1r a e,b1r (fun x l=>a x (b1i e x l)) o⟩
     ·cases h
theorem d0v{s:List UInt8}(g:s.length<=1048576){t:Pl}(h:rdPlan s=some t):t.good:=by
 unfold rdPlan at h;split at h
 ·obtain⟨⟨t1,r⟩,c,a⟩:=Za.1 h
  split at a
  ·cases a;exact b1r (fun x e=>by have:=Z8 32 s x e;omega) c
  ·cases a
 ·cases h
def mT(k:Int):W8:=109::(if k<=0 then[48]else decN k.toNat)
def mkT(k:Int)(n:Nat):List W8:=(Yb n).map fun(j:Nat)=>mT (k+j)
@[simp] theorem mkT_length(k:Int)(n:Nat):(mkT k n).length=n:=by simp[mkT]
abbrev c4a:W8:=[114,101,118]
abbrev d4z:W8:=[110,101,103]
abbrev d4j:W8:=[97,98,115]
abbrev c6e:W8:=[100,105,102,102]
abbrev c4l:W8:=[115,117,109,115]
abbrev lSort:W8:=[115,111,114,116]
abbrev e3h:W8:=[116,111,116,97,108]
def goneL:List (W8×Bool×Bool):=
 [(c4a++32::c4a,true,true),(d4z++32::d4z,true,true),(c6e++32::c4l,true,true),(c4l++32::c6e,true,true),(lSort++32::lSort,true,false),(d4j++32::d4j,true,false),
  (lSort++32::c4a,false,true),(d4j++32::d4z,false,true),(e3h++32::lSort,false,true),(e3h++32::c4a,false,true)]
def keyG(k:W8):Option (Bool×Bool):=(goneL.find? fun e=>decide (e.1=k)).map (·.2)
def d8t(a b:W8)(r:List W8):List (List W8):=match keyG (a++32::b)with
 |some (x,y)=>[(if x then[]else[a])++((if y then[]else[b])++r)]
 |none=>[]
def M4:List W8->List (List W8)
 |a::b::r=>d8t a b r++(M4 (b::r)).map (a:: ·)
 |_=>[]
def wordsP:Pl->List W8
 | .lst ns=>[R9 ns]
 | .col w=>[w]
 | .un w p=>w::wordsP p
 | .bin w p q=>w::(wordsP p++wordsP q)
def a2g(x y:Bool)(w v:W8)(p:Pl):Pl:=match x,y with
 |true,true=>p
 |true,false=> .un v p
 |false,true=> .un w p
 |false,false=> .un w (.un v p)
def X2:Pl->Option Pl
 | .un w (.un v p)=>(keyG (w++32::v)).map fun e=>a2g e.1 e.2 w v p
 |_=>none
def oneP:Pl->List Pl
 | .un w p=>(X2 (.un w p)).toList++(oneP p).map (.un w)
 | .bin w p q=>(oneP p).map (fun u=> .bin w u q)++(oneP q).map (.bin w p)
 |_=>[]
def Pl.wf:Pl->Prop
 | .lst _=>True
 | .col w=>rch (bA w)=0
 | .un w p=>rch (bA w)=1/\p.wf
 | .bin w p q=>rch (bA w)=2/\p.wf/\q.wf
theorem d0u(x y:Bool)(w v:W8)(p:Pl):wordsP (a2g x y w v p)=(if x then[]else[w])++((if y then[]else[v])++wordsP p):=by
 cases x<;>cases y<;>rfl
def opsL:List (W8×Int):=[(lSort,1),(c4a,1),(d4z,1),(d4j,1),(c6e,1),(c4l,1),([114,97,110,107,115],1),(e3h,1),([97,100,100],2),([106,111,105,110],2),([97],0),([98],0),([99],0),([100],0)]
theorem a9i{w:W8}(h:0<=rch (bA w)):(w,rch (bA w))∈opsL:=by
 by_cases e:w∈opsL.map (·.1)
 ·have key:∀x∈opsL.map (·.1),(x,rch (bA x))∈opsL:=by decide+kernel
  exact key w e
 ·exfalso
  simp[opsL]at e;unfold rch at h;simp only[a0t]at h;simp_all[bA]
theorem d9s:∀a∈opsL,∀b∈opsL,keyG (a.1++32::b.1)≠none->a.2=1/\b.2=1:=by decide+kernel
theorem f3y{a:W8×Int}(c:a∈opsL)(x:W8):keyG (a.1++32::91::x)=none:=by
 simp only[opsL,ZP,List.not_mem_nil,or_false]at c;rcases c with rfl|rfl|rfl|rfl|rfl|rfl|rfl|rfl|rfl|rfl|rfl|rfl|rfl|rfl<;>simp[keyG,goneL]
theorem f1p(x b:W8):keyG ((91::x)++32::b)=none:=by simp[keyG,goneL]
theorem e1x{w:W8}(h:rch (bA w)=0\/rch (bA w)=2)(b:W8):keyG (w++32::b)=none:=by
 have a:=a9i (w:=w) (by omega);generalize rch (bA w)=k at h a;simp only[opsL,ZP,List.not_mem_nil,or_false,Zj]at a;rcases a with⟨rfl,rfl⟩|⟨rfl,rfl⟩|⟨rfl,rfl⟩|⟨rfl,rfl⟩|⟨rfl,rfl⟩|⟨rfl,rfl⟩|⟨rfl,rfl⟩|⟨rfl,rfl⟩|⟨rfl,rfl⟩|⟨rfl,rfl⟩|⟨rfl,rfl⟩|⟨rfl,rfl⟩|⟨rfl,rfl⟩|⟨rfl,rfl⟩<;>first|(exfalso;omega)|simp[keyG,goneL]
theorem c0z{a b:W8}{r:List W8}(h:keyG (a++32::b)=none):d8t a b r=[]:=by rw[d8t,h]
theorem b0m{a:W8}(h:∀b,keyG (a++32::b)=none)(r:List W8):M4 (a::r)=(M4 r).map (a:: ·):=by
 cases r with
 |nil=>rfl
 |cons b r=>rw[M4,c0z (h b),Zi]
theorem a7t(t:Pl):wordsP t≠[]:=by cases t<;>simp[wordsP]
theorem a8z:∀(t:Pl) (rest:List W8),t.wf->M4 (wordsP t++rest)=(oneP t).map (fun u=>wordsP u++rest)++(M4 rest).map (wordsP t++ ·)
 | .lst ns,rest,_=>by
  show M4 (R9 ns::rest)=_;rw[b0m (a:=R9 ns) fun b=>f1p _ b];rfl
 | .col w,rest,h=>by
  show M4 (w::rest)=_;rw[b0m fun b=>e1x (.inl h) b];rfl
 | .bin w p q,rest,h=>by
  show M4 (w::((wordsP p++wordsP q)++rest))=_;rw[b0m fun b=>e1x (.inr h.1) b,Ym,a8z p _ h.2.1,a8z q _ h.2.2];simp[oneP,wordsP,ZZ,List.map_map,Xq,Ym]
 | .un w p,rest,h=>by
  have n:=a8z p rest h.2;have hw:=a9i (w:=w) (by have:=h.1;omega);have none_case:∀(b:W8) (r:List W8),keyG (w++32::b)=none->X2 (.un w p)=none->wordsP p++rest=b::r->M4 (w::(wordsP p++rest))=(oneP (.un w p)).map (fun u=>wordsP u++rest)++(M4 rest).map (wordsP (.un w p)++ ·):=by
   intro b r c o e;rw[e,M4,c0z c,<-e,n];simp[oneP,o,wordsP,List.map_map,Xq]
  show M4 (w::(wordsP p++rest))=_;cases p with
  |lst ns=>exact none_case (R9 ns) rest (f3y hw _) U U
  |col v=>
   have i:=a9i (w:=v) (by have:=h.2;simp only[Pl.wf]at this;omega);refine none_case v rest (Yw fun g=> ?_) U U;have:=(d9s _ hw _ i g).2;have:=h.2;simp only[Pl.wf]at this;simp_all
  |bin v p q=>
   have i:=a9i (w:=v) (by have:=h.2.1;omega);refine none_case v _ (Yw fun g=> ?_) U U;have:=(d9s _ hw _ i g).2;have:=h.2.1;simp_all
  |un v p=>
   show M4 (w::v::(wordsP p++rest))=_;rw[M4];have l:M4 (v::(wordsP p++rest))=(oneP (.un v p)).map (fun u=>wordsP u++rest)++(M4 rest).map (wordsP (.un v p)++ ·):=n;rw[l];cases c:keyG (w++32::v)with
   |none=>rw[c0z c];simp[oneP,X2,c,wordsP,List.map_map,Xq]
   |some e=>simp[oneP,X2,d8t,c,wordsP,d0u,List.map_map,Xq]
theorem d2z{t:Pl}(h:t.wf):M4 (wordsP t)=(oneP t).map wordsP:=by
 have:=a8z t [] h;simpa[M4]using this
theorem a8s:∀{n:Nat} {ws r:List W8} {t:Pl},rdP n ws=some (t,r)->ws=wordsP t++r/\t.wf
 |0,_,_,_,h=>by cases h
 |_+1,[],_,_,h=>by cases h
 |n+1,w::ws,r,t,h=>by
  rw[rdP]at h;split at h
  ·cases h
   rename_i ns u;exact⟨by rw[(a8e u).1];rfl,trivial⟩
  ·split at h
   ·cases h;exact⟨U,by assumption⟩
   ·split at h
    ·obtain⟨⟨p,v⟩,e,g⟩:=Zf.1 h
     cases g;obtain⟨a,c⟩:=a8s e;exact⟨by rw[a];rfl,by assumption,c⟩
    ·split at h
     ·obtain⟨⟨p,v⟩,e,g⟩:=Za.1 h
      obtain⟨⟨q,x⟩,o,s⟩:=Zf.1 g;cases s;obtain⟨a,c⟩:=a8s e;obtain⟨i,l⟩:=a8s o;simp only at i;exact⟨by rw[a,i];simp[wordsP],by assumption,c,l⟩
     ·cases h
def showP(t:Pl):W8:=joinB 32 (wordsP t)
def f5h(t:Pl):Prop:=∀w∈wordsP t,(32:UInt8)∉w
theorem a2y{t:Pl}(h:f5h t):splitB 32 (showP t)=wordsP t:=a8r (a7t t) h
theorem e2a{k:W8}:keyG k≠some (false,false):=by
 unfold keyG;intro h;obtain⟨e,c,g⟩:=Zf.1 h;have hm:=List.mem_of_find?_eq_some c;have a:∀e∈goneL,e.2≠(false,false):=by decide+kernel
 exact a e hm g
theorem U1:∀(t:Pl),t.wf->∀u∈oneP t,u.wf/\u.sz<t.sz/\∀w∈wordsP u,w∈wordsP t
 | .lst _,_,u,h=>by cases h
 | .col _,_,u,h=>by cases h
 | .bin w p q,hw,u,h=>by
  simp only[oneP,ZL,ZG]at h;rcases h with⟨v,g,rfl⟩|⟨v,g,rfl⟩
  ·obtain⟨a,b,c⟩:=U1 p hw.2.1 v g
   refine⟨⟨hw.1,a,hw.2.2⟩,by simp only[Pl.sz];omega,fun x e=> ?_⟩;simp only[wordsP,ZP,ZL]at e|-;rcases e with h|h|h
   ·exact .inl h
   ·exact .inr (.inl (c x h))
   ·exact .inr (.inr h)
  ·obtain⟨a,b,c⟩:=U1 q hw.2.2 v g
   refine⟨⟨hw.1,hw.2.1,a⟩,by simp only[Pl.sz];omega,fun x e=> ?_⟩;simp only[wordsP,ZP,ZL]at e|-;rcases e with h|h|h
   ·exact .inl h
   ·exact .inr (.inl h)
   ·exact .inr (.inr (c x h))
 | .un w p,hw,u,h=>by
  simp only[oneP,ZL,ZG,Xr]at h;rcases h with h|⟨v,g,rfl⟩
  ·cases p with
   |lst ns=>cases h
   |col v=>cases h
   |bin v p q=>cases h
   |un v p=>
    obtain⟨⟨x,y⟩,l,n⟩:=Zf.1 h;have i:=e2a (k:=w++32::v);subst n;cases x<;>cases y
    ·exact absurd l i
    ·exact⟨⟨hw.1,hw.2.2⟩,by simp[a2g,Pl.sz],fun x e=>by simp[a2g,wordsP]at e|-;rcases e with h|h<;>simp[h]⟩
    ·exact⟨⟨hw.2.1,hw.2.2⟩,by simp[a2g,Pl.sz],fun x e=>by simp[a2g,wordsP]at e|-;rcases e with h|h<;>simp[h]⟩
    ·exact⟨hw.2.2,by simp[a2g,Pl.sz];omega,fun x e=>by simp[a2g,wordsP]at e|-;simp[e]⟩
  ·obtain⟨a,b,c⟩:=U1 p hw.2 v g
   refine⟨⟨hw.1,a⟩,by simp only[Pl.sz];omega,fun x e=> ?_⟩;simp only[wordsP,ZP]at e|-;rcases e with h|h
   ·exact .inl h
   ·exact .inr (c x h)
def b8q:Nat->Pl->Pl
 |0,t=>t
 |n+1,t=>match oneP t with
  |[]=>t
  |u::_=>b8q n u
def normP(t:Pl):Pl:=b8q t.sz t
theorem c5y:∀{n m:Nat} {t:Pl},t.wf->t.sz<=n->t.sz<=m->b8q n t=b8q m t
 |0,0,_,_,_,_=>rfl
 |0,_+1,t,_,h,_=>by cases t<;>simp[Pl.sz]at h
 |_+1,0,t,_,_,h=>by cases t<;>simp[Pl.sz]at h
 |n+1,m+1,t,hw,c,g=>by
  simp only[b8q];cases e:oneP t with
  |nil=>rfl
  |cons u r=>
   obtain⟨a,b,_⟩:=U1 t hw u (by rw[e];simp);exact c5y a (by omega) (by omega)
theorem a1o{t:Pl}(h:oneP t=[]):normP t=t:=by
 unfold normP;cases e:t.sz with
 |zero=>rfl
 |succ n=>simp only[b8q,h]
theorem W6{t u:Pl}{r:List Pl}(hw:t.wf)(h:oneP t=u::r):normP t=normP u:=by
 obtain⟨a,b,_⟩:=U1 t hw u (by rw[h];simp);unfold normP;obtain⟨n,c⟩:∃n,t.sz=n+1:=⟨t.sz-1,by omega⟩;rw[c];simp only[b8q,h];exact c5y a (by omega) (Zd _)
theorem b0w{c:UInt8}:∀{a b:List W8},a≠[]->b≠[]->joinB c (a++b)=joinB c a++c::joinB c b
 |[],_,h,_=>absurd U h
 |[p],b,_,h=>R6 h
 |p::q::r,b,_,h=>by
  have e:=b0w (c:=c) (a:=q::r) (b:=b) (by simp) h;rw[Zp,R6 (p:=p) (r:=q::r++b) (by simp),e,R6 (p:=p) (r:=q::r) (by simp)];simp
theorem e7w(ns:List Int):showP (.lst ns)=R9 ns:=rfl
theorem b1a(w:W8)(p:Pl):showP (.un w p)=(w++[32])++showP p:=by
 rw[showP,wordsP,R6 (a7t p)];simp[showP]
theorem a7p(w:W8)(p q:Pl):showP (.bin w p q)=((((w++[32])++showP p)++[32])++showP q):=by
 rw[showP,wordsP,R6 (by simp[a7t]),b0w (a7t p) (a7t q)];simp[showP]
def a3p(t:Pl):Nat->W8
 |0=>t.op
 |i+1=>(a3p t i++[32])++showP (t.kids.getD i default)
theorem b4o{t:Pl}(h:t.op≠lW):a3p t t.kids.length=showP t:=by
 cases t with
 |lst ns=>exact absurd U h
 |col w=>rfl
 |un w p=>exact(b1a w p).symm
 |bin w p q=>exact(a7p w p q).symm
theorem e3g{t:Pl}(h:t.op≠lW){i:Nat}(c:i<=t.kids.length):(a3p t i).length<=(showP t).length:=by
 have key:∀k j:Nat,(a3p t j).length<=(a3p t (j+k)).length:=by
  intro k
  induction k with
  |zero=>intro j;exact Zd _
  |succ k a=>intro j;have:=a j;rw[<-YJ,a3p];simp only[Zl];omega
 have:=key (t.kids.length-i) i;rwa[show i+(t.kids.length-i)=t.kids.length by omega,b4o h]at this
theorem c7e{t:Pl}{i:Nat}(a:i<t.kids.length):(showP (t.kids.getD i default)).length<(showP t).length:=by
 cases t with
 |lst ns=>simp[Pl.kids]at a
 |col w=>simp[Pl.kids]at a
 |un w p=>
  obtain rfl:i=0:=by simp[Pl.kids]at a;omega
  rw[b1a];simp[Pl.kids];omega
 |bin w p q=>
  rw[a7p];rcases i with _|_|i
  ·simp[Pl.kids];omega
  ·simp[Pl.kids];omega
  ·simp[Pl.kids]at a;omega
theorem b8k{t:Pl}(h:t.op≠lW){i:Nat}(a:i<t.kids.length):(a3p t i).length+1+(showP (t.kids.getD i default)).length<=(showP t).length:=by
 have:=e3g h (i:=i+1) (by omega);rw[a3p]at this;simp only[Zl,Zg,Zs]at this;omega
theorem e0j{t:Pl}(h:t.good):t.op.length<=1048576:=by
 cases t with
 |lst ns=>show 4<=1048576;decide
 |col w=>exact h.2
 |un w p=>exact h.2.1
 |bin w p q=>exact h.2.1
theorem b7n{t:Pl}(h:t.kids.length=1):t= .un t.op (t.kids.getD 0 default):=by
 cases t with
 |un w p=>rfl
 |lst ns=>simp[Pl.kids]at h
 |col w=>simp[Pl.kids]at h
 |bin w p q=>simp[Pl.kids]at h
theorem c5l{t:Pl}(h:t.kids.length≠1\/(t.kids.getD 0 default).kids.length≠1):X2 t=none:=by
 cases t with
 |lst ns=>rfl
 |col w=>rfl
 |bin w p q=>rfl
 |un w p=>
  cases p with
  |lst ns=>rfl
  |col w=>rfl
  |bin w p q=>rfl
  |un v p=>simp[Pl.kids]at h
theorem d4d{t:Pl}(h:t.kids.length=1)(a:(t.kids.getD 0 default).kids.length=1):
 X2 t=(keyG ((t.op++[32])++(t.kids.getD 0 default).op)).map fun e=>a2g e.1 e.2 t.op (t.kids.getD 0 default).op ((t.kids.getD 0 default).kids.getD 0 default):=by
 obtain⟨w,p,rfl⟩:∃w p,t= .un w p:=⟨_,_,b7n h⟩;obtain⟨v,p,rfl⟩:∃v q,p= .un v q:=⟨_,_,b7n a⟩;simp[X2,Pl.kids,Pl.op]
theorem f4j{k:W8}{e:Bool×Bool}(h:(k,e)∈goneL):keyG k=some e:=by
 have a:∀x∈goneL,keyG x.1=some x.2:=by decide+kernel
 exact a _ h
theorem f1m{k:W8}(h:∀x∈goneL,k≠x.1):keyG k=none:=by
 unfold keyG;rw[List.find?_eq_none.2 fun x a=>by have:=h x a;simp[Ne.symm this]];rfl
theorem b4k{t:Pl}(h:t.kids.length=1)(a:(t.kids.getD 0 default).kids.length=1){k:W8}{e:Bool×Bool}(c:(t.op++[32])++(t.kids.getD 0 default).op=k)(hm:(k,e)∈goneL):
 X2 t=some (a2g e.1 e.2 t.op (t.kids.getD 0 default).op ((t.kids.getD 0 default).kids.getD 0 default)):=by
 rw[d4d h a,c,f4j hm];rfl
theorem c7v{t:Pl}(h:t.kids.length=1)(a:(t.kids.getD 0 default).kids.length=1){k:W8}(c:(t.op++[32])++(t.kids.getD 0 default).op=k)(hm:(k,true,true)∈goneL):X2 t=some ((t.kids.getD 0 default).kids.getD 0 default):=b4k h a c hm
theorem e6b{t:Pl}(h:t.kids.length=1)(a:(t.kids.getD 0 default).kids.length=1){k:W8}(c:(t.op++[32])++(t.kids.getD 0 default).op=k)(hm:(k,true,false)∈goneL):X2 t=some (t.kids.getD 0 default):=
 (b4k h a c hm).trans (congrArg some (b7n a).symm)
theorem c8x{t:Pl}(h:t.kids.length=1)(a:(t.kids.getD 0 default).kids.length=1){k:W8}(c:(t.op++[32])++(t.kids.getD 0 default).op=k)(hm:(k,false,true)∈goneL):X2 t=some (.un t.op ((t.kids.getD 0 default).kids.getD 0 default)):=b4k h a c hm
theorem b7m{w:W8}{t:Pl}(h:t.kids.length=1):a7i t=a7i (.un w (t.kids.getD 0 default)):=by
 rw[b7n h];rfl
section
variable{cx:Cx}{keep:List Nat}{ops0:Array Oper}{r:List Oper}{A:Asr}{Q:Asr->List Log->Prop}{d:Nat}{ty:Nat}{pos:String}{aft:Array Edge}
variable{C:Caller}{m f j:Nat}{cs fs:List AV}{G:Type}{vs:G->List AV}{ws:G->Ws}{ls:List Mv.Loc}
theorem a9e{α:Type}{φ:α->AV}{xs:List α}(e:∀a,L0 (φ a)=true):G3 (xs.map φ)=true:=A7 fun a=>by
 have:=e a;cases c:φ a<;>rw[c]at this<;>simp_all[L0,L3]
theorem e8e{α:Type}{φ:α->AV}{xs:List α}{id g s n:Nat}(i:look A (.h id)=some (.obj g 0 s (xs.map φ)))(e:n=(xs.map φ).length)(c:∀a,L0 (φ a)=true)
 (t:b4t C (put A (.h id) (.obj g 2 s (xs.map φ))) 2 f (j+1) cs.tail fs vs ws ls):
 b4t C A 2 f j cs (.sl id g none 0 n::fs) (fun y=> .list (xs.map φ)::vs y) (fun y=>(.h id,.obj g 2 s (xs.map φ))::ws y) (.h id::ls):=by
 refine A5 ?_;unfold K0;simp only[show¬((2:Nat)=3)from by decide,if_false];rw[if_neg (by simp)];refine A5 (b1f i e (a9e c) (C3 (A5 ?_)));rw[O3 c];refine H7 t ?_;rintro _ _ _ ⟨g,rfl,rfl,rfl⟩;exact C3 ⟨g,U,by simp,by simp⟩
theorem c7y{v:AV}(h:T2 .undef v=true)(t:b4t C A 2 f (j+1) cs.tail fs vs ws ls):b4t C A 2 f j cs (v::fs) (fun y=>v::vs y) ws ls:=by
 refine A5 ?_;have e:wpW C A (K0 2 (cs.headD .undef) (fid f j) v) fun a w l=>a=v/\w=[]/\l=[]:=by
  unfold K0;cases v with
  |val v=>exact A5 (E7 h (C3 ⟨U,U,U⟩))
  |clo k caps=>
   refine A5 (E7 h (C3 ?_));exact⟨U,U,U⟩
  |list es=>exact C3 ⟨U,U,U⟩
  |_=>simp[T2,K7]at h
 refine H7 e ?_;rintro _ _ _ ⟨rfl,rfl,rfl⟩;refine A5 (H7 t ?_);rintro _ _ _ ⟨g,rfl,rfl,rfl⟩;exact C3 ⟨g,U,by simp,by simp⟩
theorem b4y{T E s mk:Nat}{x:Operand}{z:AV}(K:opd A x=some (.agg fs))(u:Q2 cx.P T=some (E,s))(L:a0n cx.P E=some (z,s))(J:s<=16777216/\0<s)(c:fs.length=s)(g:(if cx.fzB T d=true then 2 else 0)=mk)
 (I:b4t (CW cx) A mk 0 0 (ZN s .nil) fs vs ws ls)
 (B:∀y g',tRefsOk keep (keptWs keep (ws y++[(.h (tid d 0),.obj g' 0 s [.agg (vs y)]),(.t d,.sl (tid d 0) g' none 0 1)]))=true)
 (h:∀y g',XR cx keep ops0 r (J7 A (ws y++[(.h (tid d 0),.obj g' 0 s [.agg (vs y)]),(.t d,.sl (tid d 0) g' none 0 1)])) fun i M=>Q i ((rds x++(ls++[.h (tid d 0)]),V8 (ws y++[(.h (tid d 0),.obj g' 0 s [.agg (vs y)]),(.t d,.sl (tid d 0) g' none 0 1)]))::M)):
 XR cx keep ops0 (⟨some d,.buildSlice T 1 #[(0,x)],ty,pos,aft,none⟩::r) A Q:=by
 obtain⟨l,a,n,q⟩:=V4 L;have e:∀(p:G×Nat),(ws p.1++[(Mv.Loc.h (tid d 0),AV.obj p.2 0 s [.agg (vs p.1)])])++[(Mv.Loc.t d,AV.sl (tid d 0) p.2 none 0 1)]=ws p.1++[(.h (tid d 0),.obj p.2 0 s [.agg (vs p.1)]),(.t d,.sl (tid d 0) p.2 none 0 1)]:=fun p=>by simp
 refine e1f (v:=fun p:G×Nat=> .sl (tid d 0) p.2 none 0 1) (ws:=fun p=>ws p.1++[(.h (tid d 0),.obj p.2 0 s [.agg (vs p.1)])]) (ls:=rds x++(ls++[.h (tid d 0)])) U ?_ (fun p=> ?_) (fun p=> ?_) (fun p=> ?_)
  (A1:=fun p=>J7 A (ws p.1++[(.h (tid d 0),.obj p.2 0 s [.agg (vs p.1)]),(.t d,.sl (tid d 0) p.2 none 0 1)]))
 ·simp only[aopV,dstOf]
  refine A5 (I4 (show wpA (CW cx) A (.ret d) _ from ?_));show wpW (CW cx) (puts A []) _ _;refine A5 (T4 u (A5 (E7 ⟨by rw[a];omega,n,q,by rw[a];exact J.2⟩ ?_)));simp only[l,a,g];refine A5 ?_;simp only[a0q];refine A5 (J6 K (A5 (E7 (by simp[leaves,c]) ?_)));refine A5 ?_;simp only[absorb];refine A5 (H7 I ?_);rintro _ _ _ ⟨y,rfl,rfl,rfl⟩;refine C3 (C3 ?_);refine A5 (M8 fun o=>A5 (J5 (C3 ?_)));exact⟨(y,I0 o+1),U,by simp,by simp⟩
 ·rw[show setD (⟨some d,.buildSlice T 1 #[(0,x)],ty,pos,aft,none⟩:Oper) (AV.sl (tid d 0) p.2 none 0 1)=[(.t d,.sl (tid d 0) p.2 none 0 1)]from U,e];exact B p.1 p.2
 ·rw[show setD (⟨some d,.buildSlice T 1 #[(0,x)],ty,pos,aft,none⟩:Oper) (AV.sl (tid d 0) p.2 none 0 1)=[(.t d,.sl (tid d 0) p.2 none 0 1)]from U,e];exact b1l A _
 ·rw[show setD (⟨some d,.buildSlice T 1 #[(0,x)],ty,pos,aft,none⟩:Oper) (AV.sl (tid d 0) p.2 none 0 1)=[(.t d,.sl (tid d 0) p.2 none 0 1)]from U,e];exact h p.1 p.2
theorem c6q{α:Type}{φ:α->AV}{xs:List α}{T E id g s n:Nat}{x:Operand}{z:AV}(L:opd A x=some (.sl id g none 0 n))(K:look A (.h id)=some (.obj g 0 s (xs.map φ)))(I:n=(xs.map φ).length)(i:∀a,L0 (φ a)=true)
 (y:Q2 cx.P T=some (E,1)) (M:a0n cx.P E=some (z,1)) (e:cx.fzB T d=true) (J:Loc.beq (.h (tid d 0)) (.h id)=false)
 (B:∀g',slotOk keep (.t d) (.sl (tid d 0) g' none 0 1)=true)
 (h:∀g',XR cx keep ops0 r ((.t d,.sl (tid d 0) g' none 0 1)::(.h (tid d 0),.obj g' 0 1 [.list (xs.map φ)])::(.h id,.obj g 2 s (xs.map φ))::A) fun l O=>Q l ((rds x++[.h id,.h (tid d 0)],[.h id,.h (tid d 0),.t d])::O)):
 XR cx keep ops0 (⟨some d,.buildSlice T 1 #[(0,x)],ty,pos,aft,none⟩::r) A Q:=by
 obtain⟨p,c,q,u⟩:=V4 M;refine a4l (v:=fun g'=> .sl (tid d 0) g' none 0 1) (ws:=fun g'=>[(.h id,.obj g 2 s (xs.map φ)),(.h (tid d 0),.obj g' 0 1 [.list (xs.map φ)])]) (ls:=rds x++[.h id,.h (tid d 0)]) U ?_
  (fun g=>C7 (P8 (a9e i) (by decide)) (C7 (B5 U) (I1 (B g)))) (fun g=>U) (fun g=>a9m _ _ _ _ _ _ _) h
 simp only[aopV,dstOf];refine A5 (I4 (show wpA (CW cx) A (.ret d) _ from ?_));show wpW (CW cx) (puts A []) _ _;refine A5 (T4 y (A5 (E7 ⟨by rw[c];decide,q,u,by rw[c];decide⟩ ?_)));simp only[p,c,e,if_true];refine A5 ?_;simp only[a0q];refine A5 (J6 L (A5 (E7 (by simp[leaves]) ?_)));refine A5 ?_;simp only[absorb,ZN,List.headD];unfold K0;simp only[show¬((2:Nat)=3)from by decide,if_false];rw[if_neg (by simp)];refine A5 (b1f K I (a9e i) (C3 (C3 ?_)));rw[O3 i];refine A5 (M8 fun o=>A5 (J5 (C3 ?_)));exact⟨I0 o+1,U,by simp,by simp⟩
def X5(C:Caller)(A:Asr)(fs fs':List AV)(lf:List Mv.Loc):Prop:=wpA C A (passLeaves fs) fun a l=>a=fs'/\l=lf
variable{fs':List AV}{lf:List Mv.Loc}
theorem c9m:X5 C A [] [] []:=⟨rfl,rfl⟩
theorem e6f{v:Value}(t:X5 C A fs fs' lf):X5 C A (.val v::fs) (.val v::fs') lf:=by
 unfold X5 at t|-;simp only[passLeaves,passLeaf,E3,F4];refine M2 ?_ t;rintro x l ⟨rfl,rfl⟩;exact⟨U,by simp⟩
theorem f5s{id g m s n:Nat}{es:List AV}(e:look A (.h id)=some (.obj g m s es))(a:bxB m none=false)(c:n=es.length)(i:G3 es=true)(t:X5 C A fs fs' lf):X5 C A (.sl id g none 0 n::fs) (.list (frzL es)::fs') (.h id::lf):=by
 subst c;unfold X5 at t|-;simp only[passLeaves,passLeaf,slc,E3,rdNode,M6 e,F8,F4,true_and,a,ZI,Zd,and_self,ZX,Yl,i,Zm,Zi];refine M2 ?_ t;rintro x l ⟨rfl,rfl⟩;exact⟨U,by simp⟩
theorem e8z{α:Type}{φ:α->AV}{xs:List α}{id g m s n:Nat}(l:look A (.h id)=some (.obj g m s (xs.map φ)))(e:bxB m none=false)(i:n=(xs.map φ).length)(c:∀a,L0 (φ a)=true)(t:X5 C A fs fs' lf):X5 C A (.sl id g none 0 n::fs) (.list (xs.map φ)::fs') (.h id::lf):=by
 have:=f5s l e i (a9e c) t;rwa[O3 c]at this
theorem b1o{cur v:AV}(h:T2 .undef v=true){R:AV->Ws->List Mv.Loc->Prop}(a:R v [] []):wpW C A (K0 m cur f v) R:=by
 unfold K0;cases v with
 |val v=>exact A5 (E7 h (C3 a))
 |clo k caps=>
  refine A5 (E7 h (C3 ?_));simpa using a
 |list es=>exact C3 a
 |_=>simp[T2,K7]at h
theorem b8s:∀(vs cs:List AV) (j:Nat) {A:Asr},(vs.all fun v=>T2 .undef v)=true->∀{R:List AV->Ws->List Mv.Loc->Prop},R vs [] []->wpW C A (absorbLeaves m f j cs vs) R:=by
 intro vs
 induction vs with
 |nil=>intro cs j A _ R a;exact C3 a
 |cons v vs c=>
  intro cs j A h R a;simp only[List.all_cons,Zx]at h;refine A5 (b1o h.1 (A5 (c cs.tail (j+1) h.2 (C3 ?_))));simpa using a
theorem e6j{v:AV}(h:((leaves v).all fun v=>T2 .undef v)=true){R:AV->Ws->List Mv.Loc->Prop}(c:R v [] []):wpW C A (absorb m f j cs v) R:=by
 by_cases he:∃fs,v= .agg fs
 ·obtain⟨fs,rfl⟩:=he
  refine A5 (b8s fs cs j h (C3 ?_));simpa using c
 ·have a:∀fs,v≠.agg fs:=fun fs e=>he ⟨fs,e⟩
  have g:absorb m f j cs v=K0 m (cs.headD .undef) (fid f j) v:=by
   unfold absorb;split
   ·exact(a _ U).elim
   ·rfl
  have i:leaves v=[v]:=by
   unfold leaves;split
   ·exact(a _ U).elim
   ·rfl
  rw[i]at h;simp only[List.all_cons,List.all_nil,Bool.and_true]at h;rw[g];exact b1o h c
def fillI(A:Asr)(s:Nat)(es:List AV):List (Nat×Operand)->Option (List AV)
 |[]=>some es
 |(i,x)::r=>match opd A x with
  |some v=>if(leaves v).length=s/\i<es.length/\((leaves v).all fun v=>T2 .undef v)=true then fillI A s (es.set i v) r else none
  |none=>none
theorem e3s{mk s:Nat}:∀(ps:List (Nat×Operand)) (es:List AV) {c:List AV},fillI A s es ps=some c->∀{R:List AV->Ws->List Mv.Loc->Prop},R c [] (a3d (ps.map (·.2)))->wpW C A (a0q mk s es ps) R:=by
 intro ps
 induction ps with
 |nil=>intro es c h R g;simp only[fillI,Zb]at h;subst h;exact C3 g
 |cons p ps o=>
  intro es c h R g;obtain⟨i,x⟩:=p;simp only[fillI]at h;split at h
  ·rename_i v n
   split at h
   ·rename_i e
    refine A5 (J6 n (A5 (E7 ⟨e.1,e.2.1⟩ (A5 (e6j e.2.2 ?_)))));refine H7 (o _ h (R:=fun a w l=>a=c/\w=[]/\l=a3d (ps.map (·.2))) ⟨U,U,U⟩) ?_;rintro _ _ _ ⟨rfl,rfl,rfl⟩;simpa[a3d]using g
   ·cases h
  ·cases h
theorem a4i{T n E s:Nat}{ps:Array (Nat×Operand)}{z:AV}{es:List AV}(u:Q2 cx.P T=some (E,s))(B:a0n cx.P E=some (z,s))(e:n*s<=16777216/\0<s)(x:fillI A s (ZN n z) ps.toList=some es)(J:es.length=n)
 (c:∀g,slotOk keep (.h (tid d 0)) (.obj g 0 s es)=true) (y:∀g,slotOk keep (.t d) (.sl (tid d 0) g none 0 n)=true)
 (h:∀g,XR cx keep ops0 r ((.t d,.sl (tid d 0) g none 0 n)::(.h (tid d 0),.obj g 0 s es)::A) fun i I=>Q i ((a3d (ps.toList.map (·.2))++[.h (tid d 0)],[.h (tid d 0),.t d])::I)):
 XR cx keep ops0 (⟨some d,.buildSlice T n ps,ty,pos,aft,none⟩::r) A Q:=by
 obtain⟨l,a,p,q⟩:=V4 B;refine a4l (v:=fun g=> .sl (tid d 0) g none 0 n) (ws:=fun g=>[(.h (tid d 0),.obj g 0 s es)]) (ls:=a3d (ps.toList.map (·.2))++[.h (tid d 0)]) U ?_ (fun g=>C7 (c g) (I1 (y g))) (fun g=>U) (fun g=>a2k _ _ _ _ _) h;simp only[aopV,dstOf];refine A5 (I4 (show wpA (CW cx) A (.ret d) _ from ?_));show wpW (CW cx) (puts A []) _ _;refine A5 (T4 u (A5 (E7 ⟨by rw[a];exact e.1,p,q,by rw[a];exact e.2⟩ ?_)));simp only[l,a];refine A5 (e3s ps.toList _ x (A5 (M8 fun o=>A5 (J5 (C3 ?_)))));exact⟨I0 o+1,U,by simp,by simp⟩
end
theorem Q1{α:Type}[Inhabited α]{l:List α}{j:Nat}(h:j<l.length):l.take (j+1)=l.take j++[l.getD j default]:=by
 rw[Yj h,Zc,Ze h];rfl
theorem c5g{α:Type}[Inhabited α](l:List α)(i n:Nat):(l.drop i).getD n default=l.getD (i+n) default:=by
 rw[Zc,Zc,Yd]
def e9e(t:Pl)(i:Nat)(u:Pl):Pl:=match t with
 | .un w _=> .un w u
 | .bin w p q=>if i=0 then .bin w u q else .bin w p u
 |t=>t
theorem f3j{t u:Pl}{i:Nat}(a:i<t.kids.length):AV.agg [tV t.op,.list (t.ns.map iV),.list ((t.kids.set i u).map trV)]=trV (e9e t i u):=by
 cases t with
 |lst ns=>simp[Pl.kids]at a
 |col w=>simp[Pl.kids]at a
 |un w p=>
  obtain rfl:i=0:=by simp[Pl.kids]at a;omega
  rfl
 |bin w p q=>
  rcases i with _|_|i
  ·rfl
  ·rfl
  ·simp[Pl.kids]at a;omega
theorem e7q{t u:Pl}{i:Nat}(a:i<t.kids.length):([.agg [tV t.op,.list (t.ns.map iV),.list ((t.kids.set i u).map trV)]]:List AV)=List.map trV [e9e t i u]:=by rw[f3j a];rfl
def b1g(t:Pl):Nat->List Pl
 |0=>(X2 t).toList
 |i+1=>b1g t i++(oneP (t.kids.getD i default)).map (e9e t i)
theorem c1s(t:Pl):b1g t t.kids.length=oneP t:=by
 cases t with
 |lst ns=>rfl
 |col w=>rfl
 |un w p=>rfl
 |bin w p q=>rfl
theorem a9g:∀t:Pl,(oneP t).length<=t.sz
 | .lst _=>Zt _
 | .col _=>Zt _
 | .un w p=>by
  have:=a9g p;have a:(X2 (.un w p)).toList.length<=1:=by cases X2 (.un w p)<;>simp
  simp only[oneP,Zl,Zh,Pl.sz];omega
 | .bin w p q=>by
  have:=a9g p;have:=a9g q;simp only[oneP,Zl,Zh,Pl.sz];omega
theorem d3p{t:Pl}{i:Nat}(c:i<=t.kids.length):(b1g t i).length<=t.sz:=by
 have key:∀k j:Nat,(b1g t j).length<=(b1g t (j+k)).length:=by
  intro k
  induction k with
  |zero=>intro j;exact Zd _
  |succ k a=>intro j;have:=a j;rw[<-YJ,b1g];simp only[Zl];omega
 have:=key (t.kids.length-i) i;rw[show i+(t.kids.length-i)=t.kids.length by omega,c1s]at this;exact Ye this (a9g t)
def b6t(t:Pl)(i j:Nat):List Pl:=b1g t i++((oneP (t.kids.getD i default)).take j).map (e9e t i)
theorem c5s(t:Pl)(i:Nat):b6t t i 0=b1g t i:=by simp[b6t]
theorem c5a{t:Pl}{i j:Nat}(a:j<(oneP (t.kids.getD i default)).length):b6t t i j++[e9e t i ((oneP (t.kids.getD i default)).getD j default)]=b6t t i (j+1):=by
 rw[b6t,b6t,Q1 a];simp
theorem d2e{t:Pl}{i j:Nat}(a:(oneP (t.kids.getD i default)).length<=j):b6t t i j=b1g t (i+1):=by
 rw[b6t,ZC a];rfl
theorem e8d{t:Pl}{i j:Nat}(a:i<t.kids.length):(b6t t i j).length<=t.sz:=by
 have:=d3p (t:=t) (i:=i+1) (by omega);rw[b1g]at this;rw[b6t];simp only[Zl,Zh,ZU]at this|-;omega
theorem e5a{t u:Pl}(h:t.good)(hu:X2 t=some u):u.good:=by
 cases t with
 |lst ns=>cases hu
 |col w=>cases hu
 |bin w p q=>cases hu
 |un w p=>
  cases p with
  |lst ns=>cases hu
  |col w=>cases hu
  |bin w p q=>cases hu
  |un v p=>
   obtain⟨⟨x,y⟩,a,rfl⟩:=Zf.1 hu;cases x<;>cases y
   ·exact h
   ·exact⟨h.1,h.2.1,h.2.2.2.2⟩
   ·exact h.2.2
   ·exact h.2.2.2.2
theorem a8o:∀(t:Pl),t.good->∀u∈oneP t,u.good
 | .lst _,_,u,h=>by cases h
 | .col _,_,u,h=>by cases h
 | .bin w p q,a,u,h=>by
  simp only[oneP,ZL,ZG]at h;rcases h with⟨v,c,rfl⟩|⟨v,c,rfl⟩
  ·exact⟨a.1,a.2.1,a8o p a.2.2.1 v c,a.2.2.2⟩
  ·exact⟨a.1,a.2.1,a.2.2.1,a8o q a.2.2.2 v c⟩
 | .un w p,a,u,h=>by
  simp only[oneP,ZL,ZG,Xr]at h;rcases h with h|⟨v,c,rfl⟩
  ·exact e5a a h
  ·exact⟨a.1,a.2.1,a8o p a.2.2 v c⟩
theorem b2h:∀(t:Pl),∀u∈oneP t,(showP u).length<=(showP t).length
 | .lst _,u,h=>by cases h
 | .col _,u,h=>by cases h
 | .bin w p q,u,h=>by
  simp only[oneP,ZL,ZG]at h;rcases h with⟨v,a,rfl⟩|⟨v,a,rfl⟩
  ·have:=b2h p v a;simp only[a7p,Zl];omega
  ·have:=b2h q v a;simp only[a7p,Zl];omega
 | .un w p,u,h=>by
  simp only[oneP,ZL,ZG,Xr]at h;rcases h with h|⟨v,a,rfl⟩
  ·cases p with
   |lst ns=>cases h
   |col v=>cases h
   |bin v p q=>cases h
   |un v p=>
    obtain⟨⟨x,y⟩,c,rfl⟩:=Zf.1 h;cases x<;>cases y<;>simp only[a2g,b1a,Zl]<;>omega
  ·have:=b2h p v a;simp only[b1a,Zl];omega
theorem d4b{t u:Pl}{r:List Pl}(h:oneP t=u::r):u∈oneP t:=by rw[h];exact Zq ..
def leftN(ws:List W8)(i:Nat)(x y:Bool):Nat->List W8
 |0=>[]
 |k+1=>leftN ws i x y k++(if(k=i/\x=true)\/(k=i+1/\y=true)then[]else[ws.getD k default])
def e6a(ws:List W8)(i:Nat)(x y:Bool):List W8:=leftN ws i x y ws.length
theorem d1b(ws:List W8)(i:Nat)(x y:Bool):∀k,k<=i->k<=ws.length->leftN ws i x y k=ws.take k
 |0,_,_=>rfl
 |k+1,h,a=>by
  rw[leftN,d1b ws i x y k (by omega) (by omega),if_neg (by omega),Yj (show k<ws.length by omega),Zc,Ze (show k<ws.length by omega)];rfl
theorem d0t(ws:List W8)(i:Nat)(x y:Bool)(a:i+1<ws.length):∀n,i+2+n<=ws.length->leftN ws i x y (i+2+n)=(ws.take i++((if x then[]else[ws.getD i default])++(if y then[]else[ws.getD (i+1) default])))++(ws.drop (i+2)).take n
 |0,_=>by
  rw[show i+2+0=(i+1)+1 from U,leftN,leftN,d1b ws i x y i (Zd _) (by omega)];cases x<;>cases y<;>simp
 |n+1,h=>by
  rw[show i+2+(n+1)=(i+2+n)+1 from U,leftN,d0t ws i x y a n (by omega),if_neg (c:=(i+2+n=i/\x=true)\/(i+2+n=i+1/\y=true)) (by omega),Q1 (show n<(ws.drop (i+2)).length by rw[List.length_drop];omega),c5g];simp
theorem c6z{ws:List W8}{i:Nat}(x y:Bool)(a:i+1<ws.length):e6a ws i x y=ws.take i++((if x then[]else[ws.getD i default])++((if y then[]else[ws.getD (i+1) default])++ws.drop (i+2))):=by
 have:=d0t ws i x y a (ws.length-(i+2)) (by omega);rw[show i+2+(ws.length-(i+2))=ws.length by omega]at this;rw[e6a,this,ZC (l:=ws.drop (i+2)) (by rw[List.length_drop];omega)];simp
def b8n(ws:List W8)(i:Nat):List (List W8):=match keyG ((ws.getD i default++[32])++ws.getD (i+1) default)with
 |some (x,y)=>[e6a ws i x y]
 |none=>[]
def hitsN(ws:List W8):Nat->List (List W8)
 |0=>[]
 |i+1=>hitsN ws i++b8n ws i
theorem e3e{a:W8}{ws:List W8}{i:Nat}(c:i+1<ws.length):b8n (a::ws) (i+1)=(b8n ws i).map (a:: ·):=by
 unfold b8n;simp only[YS];cases e:keyG ((ws.getD i default++[32])++ws.getD (i+1) default)with
 |none=>rfl
 |some z=>
  obtain⟨x,y⟩:=z;simp only[Zy,Yf];rw[c6z x y c,c6z x y (show i+1+1<(a::ws).length by simpa using c)];simp
theorem c2c{a:W8}{ws:List W8}:∀{n:Nat},n<ws.length->hitsN (a::ws) (n+1)=b8n (a::ws) 0++(hitsN ws n).map (a:: ·)
 |0,_=>by simp[hitsN]
 |n+1,h=>by
  rw[hitsN,c2c (by omega),e3e (by omega),hitsN,ZZ,Ym]
theorem c1l:∀ws:List W8,M4 ws=hitsN ws (ws.length-1)
 |[]=>rfl
 |[a]=>rfl
 |a::b::r=>by
  have c:b8n (a::b::r) 0=d8t a b r:=by
   have e:(a++[32])++b=a++32::b:=by simp
   unfold b8n d8t;simp only[YT,YS,e,ZI];cases keyG (a++32::b)with
   |none=>rfl
   |some z=>
    obtain⟨x,y⟩:=z;simp only;rw[c6z x y (by simp)];simp
  rw[M4,show(a::b::r).length-1=r.length+1 by simp,c2c (by simp),c,c1l (b::r)];simp
theorem c4f(ws:List W8):∀n,(hitsN ws n).length<=n
 |0=>Zd _
 |n+1=>by
  have:=c4f ws n;have a:(b8n ws n).length<=1:=by unfold b8n;split<;>simp
  rw[hitsN,Zl];omega
theorem c5t(ws:List W8)(i:Nat)(x y:Bool):∀k,(leftN ws i x y k).length<=k
 |0=>Zd _
 |k+1=>by
  have:=c5t ws i x y k;rw[leftN,Zl];split<;>simp<;>omega
theorem b7z(w:W8)(p q:Pl):oneP (.bin w p q)=(oneP p).map (fun u=> .bin w u q)++(oneP q).map (.bin w p):=rfl
theorem a8l(w:W8)(p:Pl):oneP (.un w p)=(X2 (.un w p)).toList++(oneP p).map (.un w):=rfl
theorem b1x{w:W8}(hw:rch (bA w)=2):∀(n:Nat) (p q:Pl),p.sz+q.sz<=n->p.wf->q.wf->normP (.bin w p q)= .bin w (normP p) (normP q):=by
 intro n
 induction n with
 |zero=>intro p q h _ _;cases p<;>simp[Pl.sz]at h
 |succ n i=>
  intro p q l g hq;cases c:oneP p with
  |cons u r=>
   obtain⟨a,b,_⟩:=U1 p g u (by rw[c];simp);rw[W6 (t:= .bin w p q) (u:= .bin w u q) (r:=r.map (fun u=> .bin w u q)++(oneP q).map (.bin w p)) ⟨hw,g,hq⟩ (by rw[b7z,c];rfl),i u q (by omega) a hq,W6 g c]
  |nil=>
   cases e:oneP q with
   |cons u r=>
    obtain⟨a,b,_⟩:=U1 q hq u (by rw[e];simp);rw[W6 (t:= .bin w p q) (u:= .bin w p u) (r:=r.map (.bin w p)) ⟨hw,g,hq⟩ (by rw[b7z,c,e];rfl),i p u (by omega) g a,W6 hq e]
   |nil=>rw[a1o (t:= .bin w p q) (by rw[b7z,c,e];rfl),a1o c,a1o e]
def a2b:List W8->Pl->Pl
 |[],r=>r
 |a::l,r=> .un a (a2b l r)
def dW(e:Bool×Bool)(a b:W8):List W8:=(if e.1 then[]else[a])++(if e.2 then[]else[b])
theorem b0r(x y:Bool)(w v:W8)(q:Pl):a2g x y w v q=a2b (dW (x,y) w v) q:=by cases x<;>cases y<;>rfl
theorem c5z(l k:List W8)(r:Pl):a2b (l++k) r=a2b l (a2b k r):=by
 induction l with
 |nil=>rfl
 |cons a l c=>simp only[Zp,a2b,c]
theorem a5a(r:Pl):∀(l k:List W8),k∈M4 l->a2b k r∈oneP (a2b l r)
 |[],k,h=>by cases h
 |[a],k,h=>by cases h
 |a::b::l,k,h=>by
  rw[M4,ZL]at h;show a2b k r∈oneP (.un a (.un b (a2b l r)));rw[a8l,ZL];rcases h with h|h
  ·left
   unfold d8t at h;cases e:keyG (a++32::b)with
   |none=>rw[e]at h;cases h
   |some z=>
    obtain⟨x,y⟩:=z;rw[e]at h;simp only[Yu]at h;subst h;rw[X2,e,<-Ym,c5z,show((if x=true then[]else[a])++if y=true then[]else[b])=dW (x,y) a b from U,<-b0r];simp
  ·right
   obtain⟨k,c,rfl⟩:=ZG.1 h;exact ZG.2 ⟨_,a5a r (b::l) k c,U⟩
def f2z(l k:List W8):Bool:=l==k||(M4 l).contains k||(M4 k).contains l||(M4 l).any fun m=>(M4 k).contains m
def uOps:List W8:=[lSort,c4a,d4z,d4j,c6e,c4l,[114,97,110,107,115],e3h]
theorem b9e{w:W8}(h:rch (bA w)=1):w∈uOps:=by
 have:=a9i (w:=w) (by omega);rw[h]at this;simp only[opsL,ZP,List.not_mem_nil,or_false,Zj]at this;simp only[uOps,ZP,List.not_mem_nil,or_false];rcases this with⟨rfl,h⟩|⟨rfl,h⟩|⟨rfl,h⟩|⟨rfl,h⟩|⟨rfl,h⟩|⟨rfl,h⟩|⟨rfl,h⟩|⟨rfl,h⟩|⟨rfl,h⟩|⟨rfl,h⟩|⟨rfl,h⟩|⟨rfl,h⟩|⟨rfl,h⟩|⟨rfl,h⟩<;>first|(exfalso;omega)|simp
theorem e6x:∀a∈uOps,∀b∈uOps,∀c∈uOps,(match keyG (a++32::b),keyG (b++32::c)with|some e,some f=>f2z (dW e a b++[c]) (a::dW f b c)|_,_=>true)=true:=by decide+kernel
theorem f5x:∀(n:Nat) (t:Pl),t.sz<=n->t.wf->∀u∈oneP t,normP u=normP t:=by
 intro n
 induction n with
 |zero=>intro t h;cases t<;>simp[Pl.sz]at h
 |succ n ih=>
  intro t hn hw u hu;cases t with
  |lst ns=>cases hu
  |col w=>cases hu
  |bin w p q=>
   simp only[Pl.sz]at hn;rw[b7z,ZL,ZG,ZG]at hu;rcases hu with⟨v,L,rfl⟩|⟨v,L,rfl⟩
   ·obtain⟨a,b,_⟩:=U1 p hw.2.1 v L
    rw[b1x hw.1 _ _ _ (Zd _) a hw.2.2,b1x hw.1 _ _ _ (Zd _) hw.2.1 hw.2.2,ih p (by omega) hw.2.1 v L]
   ·obtain⟨a,b,_⟩:=U1 q hw.2.2 v L
    rw[b1x hw.1 _ _ _ (Zd _) hw.2.1 a,b1x hw.1 _ _ _ (Zd _) hw.2.1 hw.2.2,ih q (by omega) hw.2.2 v L]
  |un w p=>
   have H:∀s:Pl,s.sz<(Pl.un w p).sz->s.wf->∀u∈oneP s,normP u=normP s:=fun s hs=>ih s (by omega)
   have a5:(Pl.un w p).sz=p.sz+1:=rfl;have l:∀(m:Nat) (k:Pl),k.sz<=m->k.sz<p.sz->k.wf->normP (.un w k)=normP (.un w (normP k)):=by
    intro m
    induction m with
    |zero=>intro k h;cases k<;>simp[Pl.sz]at h
    |succ m a0=>
     intro k R a4 B;cases e:oneP k with
     |nil=>rw[a1o e]
     |cons v r=>
      obtain⟨a,b,_⟩:=U1 k B v (by rw[e];simp);have o:=H (.un w k) (by simp only[Pl.sz];omega) ⟨hw.1,B⟩ (.un w v) (by rw[a8l,ZL];right;exact ZG.2 ⟨v,by rw[e];simp,U⟩);rw[<-o,a0 v (by omega) (by omega) a,W6 B e]
   have inner:∀i∈oneP p,∀M∈oneP p,normP (.un w i)=normP (.un w M):=by
    intro i o M K;obtain⟨a1,b1,_⟩:=U1 p hw.2 i o;obtain⟨a2,b2,_⟩:=U1 p hw.2 M K;rw[l _ i (Zd _) b1 a1,l _ M (Zd _) b2 a2,H p (by omega) hw.2 i o,H p (by omega) hw.2 M K]
   cases S:X2 (.un w p)with
   |none=>
    have E:oneP (.un w p)=(oneP p).map (.un w):=by rw[a8l,S];rfl
    rw[E]at hu;obtain⟨i,g,rfl⟩:=ZG.1 hu;cases e:oneP p with
    |nil=>rw[e]at g;cases g
    |cons v r=>rw[W6 (t:= .un w p) (u:= .un w v) (r:=r.map (.un w)) hw (by rw[E,e];rfl)];exact inner i g v (by rw[e];simp)
   |some J=>
    have E:oneP (.un w p)=J::(oneP p).map (.un w):=by rw[a8l,S];rfl
    rw[W6 hw E];obtain⟨w0,s0,_⟩:=U1 _ hw J (by rw[E];simp);rw[E,ZP]at hu;rcases hu with rfl|hu
    ·rfl
    ·obtain⟨i,g,rfl⟩:=ZG.1 hu
     obtain⟨w1,s1,_⟩:=U1 (.un w p) hw (.un w i) (by rw[E];simp[g])
     --a common a3
     have common:∀c,(c=J\/c∈oneP J)->(c= .un w i\/c∈oneP (.un w i))->normP (.un w i)=normP J:=by
      intro c o K;have T:normP c=normP J:=by
       rcases o with rfl|o
       ·rfl
       ·exact H J s0 w0 c o
      have V:normP c=normP (.un w i):=by
       rcases K with rfl|K
       ·rfl
       ·exact H _ s1 w1 c K
      rw[<-T,<-V]
     cases p with
     |lst ns=>cases g
     |col v=>cases g
     |bin v p q=>cases S
     |un v q=>
      obtain⟨⟨x,y⟩,R,rfl⟩:=Zf.1 S;rw[a8l,ZL,ZG]at g;rcases g with g|⟨O,I,rfl⟩
      ·rw[Xr]at g
       cases q with
       |lst ns=>cases g
       |col z=>cases g
       |bin z p q=>cases g
       |un z r=>
        obtain⟨⟨x2,y2⟩,X,rfl⟩:=Zf.1 g;have hm:=e6x w (b9e hw.1) v (b9e hw.2.1) z (b9e hw.2.2.1);rw[R,X]at hm;have T:a2g x y w v (.un z r)=a2b (dW (x,y) w v++[z]) r:=by rw[b0r,c5z];rfl
        have V:Pl.un w (a2g x2 y2 v z r)=a2b (w::dW (x2,y2) v z) r:=by rw[b0r];rfl
        rw[T]at common|-;rw[V]at common|-;simp only[f2z,Bool.or_eq_true,beq_iff_eq,List.contains_iff_mem,List.any_eq_true]at hm;rcases hm with((hm|hm)|hm)|⟨m,Y,Z⟩
        ·exact common _ (.inl U) (.inl (by rw[hm]))
        ·exact common _ (.inr (a5a r _ _ hm)) (.inl U)
        ·exact common _ (.inl U) (.inr (a5a r _ _ hm))
        ·exact common _ (.inr (a5a r _ _ Y)) (.inr (a5a r _ _ Z))
      ·refine common (a2g x y w v O) (.inr ?_) (.inr ?_)
       ·cases x<;>cases y
        ·exact absurd R e2a
        ·show Pl.un w O∈oneP (.un w q)
         rw[a8l,ZL];exact .inr (ZG.2 ⟨_,I,U⟩)
        ·show Pl.un v O∈oneP (.un v q)
         rw[a8l,ZL];exact .inr (ZG.2 ⟨_,I,U⟩)
        ·exact I
       ·rw[a8l,ZL];left
        rw[show X2 (.un w (.un v O))=some (a2g x y w v O) by rw[X2,R];rfl];simp
theorem d1w{t u:Pl}(hw:t.wf)(h:u∈oneP t):normP u=normP t:=f5x _ t (Zd _) hw u h
theorem c2f{R:Pl->Prop}(o:∀t u:Pl,t.wf->R t->u∈oneP t->R u):∀(n:Nat) (t:Pl),t.sz<=n->t.wf->R t->R (normP t)/\(normP t).wf/\(normP t).sz<=t.sz/\oneP (normP t)=[]:=by
 intro n
 induction n with
 |zero=>intro t h;cases t<;>simp[Pl.sz]at h
 |succ n p=>
  intro t s hw c;cases e:oneP t with
  |nil=>rw[a1o e];exact⟨c,hw,Zd _,e⟩
  |cons u r=>
   have hu:u∈oneP t:=d4b e;obtain⟨a,b,_⟩:=U1 t hw u hu;rw[W6 hw e];obtain⟨g,i,q,l⟩:=p u (by omega) a (o t u hw c hu);exact⟨g,i,by omega,l⟩
theorem c8n{t:Pl}(h:t.wf):(normP t).wf:=(c2f (R:=fun _=>True) (fun _ _ _ _ _=>trivial) _ t (Zd _) h trivial).2.1
theorem f1w{t:Pl}(h:t.wf):(normP t).sz<=t.sz:=(c2f (R:=fun _=>True) (fun _ _ _ _ _=>trivial) _ t (Zd _) h trivial).2.2.1
theorem b3f{t:Pl}(h:t.wf)(a:t.good):(normP t).good:=(c2f (R:=Pl.good) (fun t u _ a hu=>a8o t a u hu) _ t (Zd _) h a).1
theorem e9z{t u:Pl}{r:List Pl}(h:t.wf)(e:oneP t=u::r):(normP t).sz<t.sz:=by
 obtain⟨a,b,_⟩:=U1 t h u (d4b e);rw[W6 h e];have:=f1w a;omega
theorem b8w{c d:UInt8}(a:c≠d):∀{ps:List W8},(∀p∈ps,c∉p)->c∉joinB d ps
 |[],_=>by simp[joinB]
 |[p],h=>by simpa[joinB]using h p (by simp)
 |p::q::r,h=>by
  have g:=b8w a (ps:=q::r) fun x e=>h x (Zn _ e)
  rw[R6 (by simp)];simp only[ZL,ZP,not_or];exact⟨h p (by simp),a,g⟩
theorem d6m(ns:List Int):(32:UInt8)∉R9 ns:=by
 have h:(32:UInt8)∉O6 ns:=b8w (by decide) fun p a=>by
  obtain⟨n,_,rfl⟩:=ZG.1 a;exact d3l (by decide) (by decide) n
 simp only[R9,ZP,ZL,List.not_mem_nil,or_false,not_or];exact⟨by decide,h,by decide⟩
theorem f3w:∀x∈opsL,(32:UInt8)∉x.1/\(x.1.getD 0 0).toNat≠91/\x.1≠lW/\x.1.length<=5/\x.1≠[]:=by decide+kernel
theorem b2k{w:W8}(h:0<=rch (bA w)):(32:UInt8)∉w/\numsOf w=none/\w≠lW/\w.length<=5/\w≠[]:=by
 obtain⟨a,b,c,d,e⟩:=f3w _ (a9i h);exact⟨a,(a8y (.inr (.inl b))).1,c,d,e⟩
theorem a3v:∀{t:Pl},t.wf->f5h t
 | .lst ns,_=>by intro w hw;simp only[wordsP,Yu]at hw;subst hw;exact d6m ns
 | .col w,h=>by
  intro v a;simp only[wordsP,Yu]at a;subst a;simp only[Pl.wf]at h;exact(b2k (by omega)).1
 | .un w p,h=>by
  intro v a;simp only[wordsP,ZP]at a;rcases a with rfl|a
  ·exact(b2k (by have:=h.1;omega)).1
  ·exact a3v h.2 v a
 | .bin w p q,h=>by
  intro v a;simp only[wordsP,ZP,ZL]at a;rcases a with rfl|a|a
  ·exact(b2k (by have:=h.1;omega)).1
  ·exact a3v h.2.1 v a
  ·exact a3v h.2.2 v a
theorem a2u:∀t:Pl,(wordsP t).length=t.sz
 | .lst ns=>rfl
 | .col w=>rfl
 | .un w p=>by simp[wordsP,Pl.sz,a2u p]
 | .bin w p q=>by simp[wordsP,Pl.sz,a2u p,a2u q]
theorem a4t:∀(t:Pl) (n:Nat) (r:List W8),t.wf->t.good->t.sz<=n->rdP n (wordsP t++r)=some (t,r)
 |t,0,_,_,_,h=>by cases t<;>simp[Pl.sz]at h
 | .lst ns,n+1,r,_,c,_=>by
  show rdP (n+1) (R9 ns::r)=_;rw[rdP,b5i c]
 | .col w,n+1,r,hw,_,_=>by
  have a:rch (bA w)=0:=hw;show rdP (n+1) (w::r)=_;rw[rdP,(b2k (by omega)).2.1];simp only[if_pos a]
 | .un w p,n+1,r,hw,c,e=>by
  have a:=hw.1;simp only[Pl.sz]at e;show rdP (n+1) (w::(wordsP p++r))=_;rw[rdP,(b2k (by omega)).2.1];simp only;rw[if_neg (by omega),if_pos a,a4t p n r hw.2 c.2.2 (by omega)];rfl
 | .bin w p q,n+1,r,hw,c,e=>by
  have a:=hw.1;simp only[Pl.sz]at e;show rdP (n+1) (w::((wordsP p++wordsP q)++r))=_;rw[rdP,(b2k (by omega)).2.1];simp only;rw[if_neg (by omega),if_neg (by omega),if_pos a,Ym,a4t p n _ hw.2.1 c.2.2.1 (by omega),Zk,a4t q n r hw.2.2 c.2.2.2 (by omega)];rfl
theorem a1f{s:W8}{t:Pl}(h:rdPlan s=some t):s=showP t/\t.wf/\t.good/\s.length<=160/\t.sz<=16:=by
 have p:=c4i h;have n:s.length<=160:=by
  unfold rdPlan at h;split at h
  ·rename_i i;exact i.1
  ·cases h
 have l:=d0v (by omega) h;unfold rdPlan at h;split at h
 ·obtain⟨⟨t1,r⟩,g,a⟩:=Za.1 h
  split at a
  ·rename_i o
   cases a;obtain⟨c,e⟩:=a8s g;obtain rfl:r=[]:=ZT.1 o;rw[Zm]at c;exact⟨by rw[showP,<-c,b0b],e,l,n,p⟩
  ·cases a
 ·cases h
theorem d5n{t u:Pl}(c:t.wf)(gt:t.good)(hu:u.wf)(g:u.good)(h:showP t=showP u):t=u:=by
 have e:wordsP t=wordsP u:=by rw[<-a2y (a3v c),<-a2y (a3v hu),h]
 have a:=a4t t (t.sz+u.sz) [] c gt (by omega);have i:=a4t u (t.sz+u.sz) [] hu g (by omega);rw[e,i]at a;cases a;rfl
theorem b4f(t:Pl):0<t.sz:=by cases t<;>simp[Pl.sz]
deriving instance DecidableEq for Stp
def f6b(t:Pl)(a b:Int):Stp:=⟨bA t.op,a,b,t.ns⟩
def goneTb:List (ByteArray×Value):=goneL.map fun e=>(bA e.1,.agg #[.bool e.2.1,.bool e.2.2])
theorem d8j(a b:W8):(bA a==bA b)=decide (a=b):=by
 show ByteArray.beq _ _=_;unfold ByteArray.beq;show(a.toArray==b.toArray)=_;by_cases e:a=b
 ·subst e;simp
 ·rw[decide_eq_false e];simpa using e
theorem b5q(k:W8):∀l:List (W8×Bool×Bool),a4e (bA k) (l.map fun e=>(bA e.1,Value.agg #[.bool e.2.1,.bool e.2.2]))=((l.find? fun e=>decide (e.1=k)).map (·.2)).map fun e=> .agg #[.bool e.1,.bool e.2]
 |[]=>rfl
 |e::l=>by
  rw[Zy,a4e,d8j];by_cases h:k=e.1
  ·subst h;simp
  ·rw[decide_eq_false h,List.find?_cons,decide_eq_false (fun x=>h x.symm)]
   simp only[ZY,if_false];exact b5q k l
theorem b8t(k:W8):a4e (bA k) goneTb=(keyG k).map fun e=> .agg #[.bool e.1,.bool e.2]:=b5q k goneL
def jlW(ps:List W8):Nat:=(ps.map fun p=>p.length+1).sum
theorem e0q(a b:List W8):jlW (a++b)=jlW a+jlW b:=by simp[jlW]
theorem d4w{c:UInt8}:∀{ps:List W8},(joinB c ps).length=jlW ps-1
 |[]=>rfl
 |[p]=>by simp[joinB,jlW]
 |p::q::r=>by
  have a:=d4w (c:=c) (ps:=q::r);rw[R6 (by simp),Zl,Zg,a];simp only[jlW,Zy,List.sum_cons];omega
theorem d2h(ws:List W8)(i:Nat)(x y:Bool):∀k,k<=ws.length->jlW (leftN ws i x y k)<=jlW (ws.take k)
 |0,_=>Zt _
 |k+1,h=>by
  have a:=d2h ws i x y k (by omega);rw[leftN,e0q,Yj (show k<ws.length by omega),e0q];have:jlW (if(k=i/\x=true)\/(k=i+1/\y=true)then[]else[ws.getD k default])<=jlW [ws[k]]:=by
   split
   ·exact Zt _
   ·rw[Zc,Ze (show k<ws.length by omega)];exact Zd _
  omega
theorem e4d{ws:List W8}{i k:Nat}{x y:Bool}(h:(joinB 32 ws).length<=1048576)(a:k=ws.length):(joinB 32 (leftN ws i x y k)).length<=1048576:=by
 subst a;have:=d2h ws i x y ws.length (Zd _);rw[Yl]at this;rw[d4w]at h|-;omega
end Go.Mv
namespace Go.Mv
theorem c0j{ws ls:List W8}{i k:Nat}{x y:Bool}(a:ls=leftN ws i x y k)(h:¬((k=i/\x=true)\/(k=i+1/\y=true))):ls++[ws.getD k default]=leftN ws i x y (k+1):=by rw[leftN,if_neg h,a]
theorem c5v{ws ls:List W8}{i k:Nat}{x y:Bool}(a:ls=leftN ws i x y k)(h:(k=i/\x=true)\/(k=i+1/\y=true)):ls=leftN ws i x y (k+1):=by rw[leftN,if_pos h,a,Zm]
end Go.Mv
namespace Go.Mv
theorem d6j{t:Pl}(h:t.wf):(M4 (splitB 32 (showP t))).map (joinB 32)=(oneP t).map showP:=by
 rw[a2y (a3v h),d2z h,List.map_map];rfl
theorem c1e{t:Pl}(h:t.wf):(splitB 32 (showP t)).length=t.sz:=by rw[a2y (a3v h),a2u]
theorem f2m{t:Pl}(h:t.good):vd t.ns=true:=by
 cases t with
 |lst ns=>exact h
 |_=>rfl
def kAt(a:List Stp)(k:Int)(i:Nat):Int:=k+(((a.take i).map fun s=>3+s.ns.length).sum:Nat)
def f6a(q:Int)(n:Nat):Stp:=⟨bA (mT q),q+1,q+1+1,mkI (q+1+1+1) n⟩
def f5d(a:List Stp)(k:Int):List Stp:=(Yb a.length).map fun i=>f6a (kAt a k i) (a.getD i default).ns.length
@[simp] theorem mkSt_length(a:List Stp)(k:Int):(f5d a k).length=a.length:=by simp[f5d]
end Go.Mv
namespace Go.Mv
end Go.Mv
namespace Go.Mv
theorem b7w(ns:List Int):trK (.lst ns)= .agg [tV lW,.list (ns.map iV),.list (([]:List Pl).map trV)]:=rfl
theorem b7y(w:W8):trK (.col w)= .agg [tV w,.list (([]:List Int).map iV),.list (([]:List Pl).map trV)]:=rfl
theorem c9l(w:W8)(p:Pl):trK (.un w p)= .agg [tV w,.list (([]:List Int).map iV),.list ([p].map trV)]:=rfl
theorem b7o(w:W8)(p q:Pl):trK (.bin w p q)= .agg [tV w,.list (([]:List Int).map iV),.list ([p,q].map trV)]:=rfl
abbrev lF(l:List Int):AV:= .list (l.map iV)
end Go.Mv
namespace Go.Mv
deriving instance DecidableEq for Pl
structure ClQ(P:List Pl):Prop where
 nd:P.Nodup
 good:∀t∈P,t.good
 kids:∀A t B,P=A++t::B->∀k∈t.kids,k∈A
theorem ClQ.nil:ClQ []:=⟨List.nodup_nil,(fun _ h=>by cases h),(fun A t B h=>by cases A<;>cases h)⟩
def ixQ(t:Pl):List Pl->Nat
 |[]=>0
 |x::r=>if x=t then 0 else ixQ t r+1
def f5f(P:List Pl)(t:Pl)(k:Nat):Int:=if k<t.kids.length then(ixQ (t.kids.getD k default) P:Int)else-1
def f5u(P:List Pl)(t:Pl):Stp:=f6b t (f5f P t 0) (f5f P t 1)
def enc(P:List Pl):List Stp:=P.map (f5u P)
def runP(a:List (List Int)):Pl->Option (List Int)
 | .lst ns=>some ns
 | .col w=>some (a.getD (e9m (bA w)) default)
 | .un w p=>(runP a p).bind fun x=>mkR (bA w) x []
 | .bin w p q=>(runP a p).bind fun x=>(runP a q).bind fun y=>mkR (bA w) x y
theorem a7r{a:List (List Int)}(g:vcs a=true):∀{t:Pl} {r:List Int},t.good->runP a t=some r->vl r=true
 | .lst ns,r,i,h=>by cases h;exact b9d i
 | .col w,r,_,h=>by cases h;exact f0s g _
 | .un w p,r,_,h=>by
  obtain⟨x,_,c⟩:=Za.1 h;exact b2u c
 | .bin w p q,r,_,h=>by
  obtain⟨x,_,c⟩:=Za.1 h;obtain⟨y,_,e⟩:=Za.1 c;exact b2u e
def runT(a:List (List Int))(s:W8):Option (List Int):=if vcs a=true then(rdPlan s).bind (runP a)else none
theorem a9d{a:List (List Int)}{s:W8}{t:Pl}(c:vcs a=true)(h:rdPlan s=some t):runT a s=runP a t:=by rw[runT,if_pos c,h];rfl
theorem b8f{a:List (List Int)}{s:W8}(h:(rdPlan s).isSome=false\/vcs a=false):runT a s=none:=by
 rw[runT];rcases h with h|h
 ·cases e:rdPlan s with
  |none=>split<;>rfl
  |some t=>rw[e]at h;cases h
 ·rw[h];rfl
def foldP:Pl->Pl
 | .lst ns=> .lst ns
 | .col w=> .col w
 | .un w p=>match foldP p with
  | .lst ns=>match mkR (bA w) ns []with
   |some r=>if vd r=true then .lst r else .un w (.lst ns)
   |none=> .un w (.lst ns)
  |k=> .un w k
 | .bin w p q=>match foldP p,foldP q with
  | .lst ns,.lst ms=>match mkR (bA w) ns ms with
   |some r=>if vd r=true then .lst r else .bin w (.lst ns) (.lst ms)
   |none=> .bin w (.lst ns) (.lst ms)
  |k,l=> .bin w k l
theorem b8c(w:W8)(p:Pl):foldP (.un w p)= .un w (foldP p)\/∃ns r,foldP p= .lst ns/\mkR (bA w) ns []=some r/\vd r=true/\foldP (.un w p)= .lst r:=by
 simp only[foldP];split
 ·split
  ·split
   ·rename_i _ ns e _ r h a;exact .inr ⟨ns,r,e,h,a,U⟩
   ·rename_i _ ns e _ r h a;exact .inl (by rw[e])
  ·rename_i _ ns e _ h;exact .inl (by rw[e])
 ·exact .inl U
theorem b1p(w:W8)(p q:Pl):foldP (.bin w p q)= .bin w (foldP p) (foldP q)\/∃ns ms r,foldP p= .lst ns/\foldP q= .lst ms/\mkR (bA w) ns ms=some r/\vd r=true/\foldP (.bin w p q)= .lst r:=by
 simp only[foldP];split
 ·split
  ·split
   ·rename_i _ _ ns ms a c _ r h e;exact .inr ⟨ns,ms,r,a,c,h,e,U⟩
   ·rename_i _ _ ns ms a c _ r h e;exact .inl (by rw[a,c])
  ·rename_i _ _ ns ms a c _ h;exact .inl (by rw[a,c])
 ·exact .inl U
theorem b2e:∀t:Pl,t.wf->(foldP t).wf
 | .lst _,h=>h
 | .col _,h=>h
 | .un w p,h=>by
  rcases b8c w p with e|⟨ns,r,_,_,_,e⟩
  ·rw[e];exact⟨h.1,b2e p h.2⟩
  ·rw[e];exact trivial
 | .bin w p q,h=>by
  rcases b1p w p q with e|⟨ns,ms,r,_,_,_,_,e⟩
  ·rw[e];exact⟨h.1,b2e p h.2.1,b2e q h.2.2⟩
  ·rw[e];exact trivial
theorem S2:∀t:Pl,t.good->(foldP t).good
 | .lst _,h=>h
 | .col _,h=>h
 | .un w p,h=>by
  rcases b8c w p with e|⟨ns,r,_,_,a,e⟩
  ·rw[e];exact⟨h.1,h.2.1,S2 p h.2.2⟩
  ·rw[e];exact a
 | .bin w p q,h=>by
  rcases b1p w p q with e|⟨ns,ms,r,_,_,_,a,e⟩
  ·rw[e];exact⟨h.1,h.2.1,S2 p h.2.2.1,S2 q h.2.2.2⟩
  ·rw[e];exact a
theorem b1u:∀t:Pl,(foldP t).sz<t.sz\/foldP t=t
 | .lst _=> .inr U
 | .col _=> .inr U
 | .un w p=>by
  have c:=b1u p;have:=b4f p;rcases b8c w p with e|⟨ns,r,_,_,_,e⟩
  ·rw[e]
   rcases c with c|c
   ·left;simp only[Pl.sz];omega
   ·right;rw[c]
  ·rw[e];left;simp only[Pl.sz];omega
 | .bin w p q=>by
  have c:=b1u p;have a:=b1u q;have:=b4f p;have:=b4f q;rcases b1p w p q with e|⟨ns,ms,r,_,_,_,_,e⟩
  ·rw[e]
   rcases c with c|c
   ·left
    rcases a with a|a
    ·simp only[Pl.sz];omega
    ·rw[a];simp only[Pl.sz];omega
   ·rcases a with a|a
    ·left;rw[c];simp only[Pl.sz];omega
    ·right;rw[c,a]
  ·rw[e];left;simp only[Pl.sz];omega
theorem c0n{t:Pl}(hw:t.wf):(normP t).sz<t.sz\/normP t=t:=by
 cases e:oneP t with
 |nil=>exact .inr (a1o e)
 |cons u l=>exact .inl (e9z hw e)
def stepB(t:Pl):Pl:=foldP (normP t)
def b2g:Nat->Pl->Pl
 |0,t=>t
 |n+1,t=>if stepB t=t then t else b2g n (stepB t)
def a6x(t:Pl):Pl:=b2g t.sz t
theorem a6s{t:Pl}(h:t.wf):(stepB t).wf:=b2e _ (c8n h)
theorem b0s{t:Pl}(h:t.wf)(a:t.good):(stepB t).good:=S2 _ (b3f h a)
theorem a8j{t:Pl}(h:t.wf):(stepB t).sz<t.sz\/normP t=t/\foldP t=t:=by
 have a:=b1u (normP t);unfold stepB;rcases c0n h with c|c
 ·left
  rcases a with a|a
  ·omega
  ·rw[a];exact c
 ·rw[c]at a|-
  rcases a with a|a
  ·exact .inl a
  ·exact .inr ⟨U,a⟩
theorem a6q{t:Pl}(h:normP t=t/\foldP t=t):stepB t=t:=by unfold stepB;rw[h.1,h.2]
theorem b7t{R:Pl->Prop}(c:∀t,t.wf->R t->R (stepB t)):∀(n:Nat) (t:Pl),t.sz<=n->t.wf->R t->R (b2g n t)/\(b2g n t).wf/\(b2g n t).sz<=t.sz/\stepB (b2g n t)=b2g n t
 |0,t,h,_,_=>by have:=b4f t;omega
 |n+1,t,h,hw,g=>by
  rw[b2g];by_cases e:stepB t=t
  ·rw[if_pos e];exact⟨g,hw,Zd _,e⟩
  ·rw[if_neg e]
   have i:(stepB t).sz<t.sz:=by
    rcases a8j hw with a|a
    ·exact a
    ·exact absurd (a6q a) e
   have:=b7t c n (stepB t) (by omega) (a6s hw) (c t hw g);exact⟨this.1,this.2.1,by omega,this.2.2.2⟩
theorem d3g:∀{n m:Nat} {t:Pl},t.wf->t.sz<=n->t.sz<=m->b2g n t=b2g m t
 |0,_,t,_,h,_=>by have:=b4f t;omega
 |_,0,t,_,_,h=>by have:=b4f t;omega
 |n+1,m+1,t,hw,a,c=>by
  rw[b2g,b2g];by_cases e:stepB t=t
  ·rw[if_pos e,if_pos e]
  ·rw[if_neg e,if_neg e]
   have g:(stepB t).sz<t.sz:=by
    rcases a8j hw with a|a
    ·exact a
    ·exact absurd (a6q a) e
   exact d3g (a6s hw) (by omega) (by omega)
theorem e0l{t:Pl}(h:stepB t=t):a6x t=t:=by
 unfold a6x;cases t.sz with
 |zero=>rfl
 |succ n=>rw[b2g,if_pos h]
theorem d2s{t:Pl}(hw:t.wf)(h:stepB t≠t):a6x t=a6x (stepB t):=by
 have e:(stepB t).sz<t.sz:=by
  rcases a8j hw with a|a
  ·exact a
  ·exact absurd (a6q a) h
 unfold a6x;obtain⟨k,c⟩:∃k,t.sz=k+1:=⟨t.sz-1,by omega⟩;rw[c,b2g,if_neg h];exact d3g (a6s hw) (by omega) (Zd _)
theorem d7l{t:Pl}(hw:t.wf):(a6x t).wf:=(b7t (R:=fun _=>True) (fun _ _ _=>trivial) _ t (Zd _) hw trivial).2.1
theorem d9n{t:Pl}(hw:t.wf):(a6x t).sz<=t.sz:=(b7t (R:=fun _=>True) (fun _ _ _=>trivial) _ t (Zd _) hw trivial).2.2.1
theorem c0q{t:Pl}(hw:t.wf)(e:t.good):(a6x t).good:=(b7t (R:=Pl.good) (fun _ a c=>b0s a c) _ t (Zd _) hw e).1
def d1l(s:W8):W8:=match rdPlan s with
 |some t=>showP (a6x t)
 |none=>[]
theorem a9a{s:W8}{t:Pl}(h:rdPlan s=some t):d1l s=showP (a6x t):=by rw[d1l,h]
theorem c4n{s:W8}(h:(rdPlan s).isSome=false):d1l s=[]:=by
 cases e:rdPlan s with
 |none=>rw[d1l,e]
 |some t=>rw[e]at h;cases h
theorem c6b(t:Pl):(foldP t).sz<=t.sz:=by rcases b1u t with h|h;omega;rw[h];exact Zd _
section
variable{C:Caller}{A:Asr}{fs fs':List AV}{lf:List Mv.Loc}
theorem a1m{es:List AV}(t:X5 C A fs fs' lf):X5 C A (.list es::fs) (.list es::fs') lf:=by
 unfold X5 at t|-;simp only[passLeaves,passLeaf,E3,F4];refine M2 ?_ t;rintro x l ⟨rfl,rfl⟩;exact⟨U,by simp⟩
theorem e7k{md:Nat}(a:md≠3)(c:X5 C A fs fs' lf):N0 C A md (.agg fs) (.agg fs') (slIds false fs) [] lf:=by
 unfold X5 at c;unfold N0 a4o;simp only[a,if_false];refine A5 (I4 (M2 ?_ c));rintro x l ⟨rfl,rfl⟩;exact C3 ⟨U,U,by simp⟩
end
theorem d5w{ns:List Int}(h:vd ns=true):(R9 ns).length<=100:=by
 have a:=Z6 (e1e h);have c:=a4j h;simp only[R9,Zg,Zl,Zs];omega
theorem U9:∀{t:Pl},t.wf->t.good->(showP t).length<=100*t.sz
 | .lst ns,_,a=>by rw[e7w];simp only[Pl.sz];exact d5w a
 | .col w,hw,_=>by
  have h:=(b2k (w:=w) (by have c:rch (bA w)=0:=hw;omega)).2.2.2.1;show w.length<=_;simp only[Pl.sz];omega
 | .un w p,hw,a=>by
  have h:=(b2k (w:=w) (by have c:=hw.1;omega)).2.2.2.1;have e:=U9 hw.2 a.2.2;rw[b1a];simp only[Pl.sz,Zl,Zg,Zs];omega
 | .bin w p q,hw,a=>by
  have h:=(b2k (w:=w) (by have c:=hw.1;omega)).2.2.2.1;have e:=U9 hw.2.1 a.2.2.1;have g:=U9 hw.2.2 a.2.2.2;rw[a7p];simp only[Pl.sz,Zl,Zg,Zs];omega
theorem f0g{t:Pl}(hw:t.wf)(e:t.good)(l:t.sz<=16):ipT (showP t)=t/\d4s (showP t)=true:=by
 have i:=a2y (a3v hw);have h:=a4t t (wordsP t).length [] hw e (by rw[a2u];exact Zd _);rw[Zm]at h;have g:rdT (wordsP t)=some (t,[]):=h;obtain⟨a,c⟩:=c7m i.symm g;refine⟨a,c.trans ?_⟩;rw[a2u];simp;omega
theorem c5u{w:W8}{p:Pl}(h:∀ns,foldP p≠.lst ns):foldP (.un w p)= .un w (foldP p):=by
 rcases b8c w p with e|⟨ns,r,e,_⟩
 ·exact e
 ·exact absurd e (h ns)
theorem a6b{w:W8}{p q:Pl}(h:(∀ns,foldP p≠.lst ns)\/∀ns,foldP q≠.lst ns):foldP (.bin w p q)= .bin w (foldP p) (foldP q):=by
 rcases b1p w p q with e|⟨ns,ms,r,a,c,_⟩
 ·exact e
 ·rcases h with h|h
  ·exact absurd a (h ns)
  ·exact absurd c (h ms)
theorem c5o{w:W8}{p:Pl}{ns r:List Int}(h:foldP p= .lst ns)(a:mkR (bA w) ns []=some r)(c:vd r=true):foldP (.un w p)= .lst r:=by
 simp only[foldP,h,a,c,if_true]
theorem a9f{w:W8}{p:Pl}{ns:List Int}(h:foldP p= .lst ns)(a:mkR (bA w) ns []=none\/∃r,mkR (bA w) ns []=some r/\vd r=false):foldP (.un w p)= .un w (.lst ns):=by
 rcases a with a|⟨r,a,c⟩
 ·simp only[foldP,h,a]
 ·simp only[foldP,h,a,c,ZY,if_false]
theorem c0t{w:W8}{p q:Pl}{ns ms r:List Int}(h:foldP p= .lst ns)(a:foldP q= .lst ms)(c:mkR (bA w) ns ms=some r)(e:vd r=true):foldP (.bin w p q)= .lst r:=by
 simp only[foldP,h,a,c,e,if_true]
theorem a5o{w:W8}{p q:Pl}{ns ms:List Int}(h:foldP p= .lst ns)(c:foldP q= .lst ms)(a:mkR (bA w) ns ms=none\/∃r,mkR (bA w) ns ms=some r/\vd r=false):foldP (.bin w p q)= .bin w (.lst ns) (.lst ms):=by
 rcases a with a|⟨r,a,e⟩
 ·simp only[foldP,h,c,a]
 ·simp only[foldP,h,c,a,e,ZY,if_false]
def szW(ws:List W8):Nat:=(ws.map List.length).sum
theorem d3b(ws:List W8){i:Nat}(h:i<ws.length):szW (ws.take (i+1))=szW (ws.take i)+(ws.getD i default).length:=by
 rw[Q1 h,szW,szW,ZZ,Xy];simp
theorem f4g(ws:List W8){i:Nat}(h:i<ws.length):(ws.getD i default).length<=szW ws:=by
 have a:=d3b ws h;have c:szW (ws.take (i+1))<=szW ws:=by
  have e:ws=ws.take (i+1)++ws.drop (i+1):=(YG _ _).symm;have:szW ws=szW (ws.take (i+1))+szW (ws.drop (i+1)):=by
   rw[szW,szW,szW,<-Xy,<-ZZ,YG]
  omega
 omega
theorem e0w{ws:List W8}{n:Nat}(h:szW ws<=n):∀w∈ws,w.length<=n:=by
 intro w hw;obtain⟨i,a,rfl⟩:=Xc hw;have:=f4g ws a;rw[Zc,Ze a]at this;exact Ye this h
theorem f0u(xs:List ByteArray):xs.map sV=(xs.map fun s=>s.data.toList).map tV:=by
 rw[List.map_map];exact YE fun s _=>(congrArg sV (a0g s)).symm
end Go.Mv
end
section
namespace Go.Mv
namespace Gp
def cnt:Nat->(List Bool->Bool)->Nat
 |0,p=>if p []then 1 else 0
 |N+1,p=>cnt N (fun r=>p (false::r))+cnt N fun r=>p (true::r)
def rowS(N s:Nat):List Bool:=(Yb N).map fun i=>s.testBit i
theorem rowS_len(N s:Nat):(rowS N s).length=N:=by simp[rowS]
theorem c5m(N s:Nat):rowS (N+1) s=decide (s%2=1)::rowS N (s/2):=by
 unfold rowS;rw[List.range_succ_eq_map,Zy,List.map_map];congr 1
 ·exact Nat.testBit_zero ..
 ·refine YE fun i _=> ?_
  exact Nat.testBit_succ ..
def cntS(N S:Nat)(p:List Bool->Bool):Nat:=(Yb S).countP fun s=>p (rowS N s)
theorem e4g(N:Nat)(p:List Bool->Bool):cntS N 0 p=0:=rfl
theorem cntS_succ(N S:Nat)(p:List Bool->Bool):cntS N (S+1) p=cntS N S p+if p (rowS N S)=true then 1 else 0:=by
 unfold cntS;rw[YQ,XF,List.countP_cons,List.countP_nil,ZI]
theorem d3i(N:Nat)(p:List Bool->Bool):∀S,cntS (N+1) (2*S) p=cntS N S (fun r=>p (false::r))+cntS N S fun r=>p (true::r)
 |0=>rfl
 |S+1=>by
  have e:2*(S+1)=2*S+1+1:=by omega
  rw[e,cntS_succ,cntS_succ,d3i N p S,cntS_succ,cntS_succ,c5m,c5m];rw[show(2*S)%2=0 by omega,show(2*S+1)%2=1 by omega,show 2*S/2=S by omega,show(2*S+1)/2=S by omega];have d0:decide ((0:Nat)=1)=false:=rfl;have d1:decide ((1:Nat)=1)=true:=rfl;rw[d0,d1];omega
theorem cnt_S:∀(N:Nat) (p:List Bool->Bool),cntS N (2^N) p=cnt N p
 |0,p=>by
  rw[Nat.pow_zero,cntS_succ,e4g,cnt,ZI];rfl
 |N+1,p=>by
  rw[Nat.pow_succ,Nat.mul_comm,d3i,cnt_S N,cnt_S N,cnt]
def ap(m n:Nat)(i k:Nat):Nat:=((i:Int)*n-(k:Int)*m).natAbs
def f5c(m n:Nat):Nat->Nat->List Bool->Nat
 |_,_,[]=>0
 |i,k,true::r=>max (ap m n (i+1) k) (f5c m n (i+1) k r)
 |i,k,false::r=>max (ap m n i (k+1)) (f5c m n i (k+1) r)
def bin:Nat->Nat->Nat
 |0,0=>1
 |0,_+1=>0
 |N+1,0=>bin N 0
 |N+1,k+1=>bin N (k+1)+bin N k
end Gp
def mS(l:List Int)(i k:Nat):Int:=((l.drop i).take (k+1-i)).sum
def mq(l:List Int)(i k:Nat):Rat:=Rat.divInt (mS l i k) ((k+1-i:Nat):Int)
theorem e0n{l:List Int}{i x:Nat}(a:i<=x)(c:x<l.length):((l.drop i).take (x+1-i)).sum=((l.drop i).take (x-i)).sum+l.getD x default:=by
 rw[show x+1-i=x-i+1 by omega,Q1 (by rw[List.length_drop];omega),Xy,c5g,show i+(x-i)=x by omega];simp
theorem d9i{b:Int}:∀(l:List Int),(∀x∈l,-b<=x/\x<=b)->-(b*l.length)<=l.sum/\l.sum<=b*l.length
 |[],_=>by simp
 |x::l,h=>by
  have c:=h x (Zq ..);have e:=d9i l fun y a=>h y (Zn _ a)
  simp only[List.sum_cons,Zg,Int.natCast_add,Int.natCast_one,Int.mul_add,Int.mul_one];omega
theorem e5r{l:List Int}(e:l.length<=8)(a:∀x∈l,-30<=x/\x<=30)(i n:Nat): -240<=((l.drop i).take n).sum/\((l.drop i).take n).sum<=240:=by
 have h:=d9i (b:=30) ((l.drop i).take n) fun x c=>a x (Yr (List.mem_of_mem_take c))
 have:((l.drop i).take n).length<=8:=by simp only[ZU,List.length_drop];omega
 omega
theorem d5b{l:List Int}(c:l.length<=8)(a:∀x∈l,-30<=x/\x<=30){i k:Nat}(h:i<=k/\k<l.length):Sm 1000 (mq l i k):=by
 have:=e5r c a i (k+1-i);exact Sm.fr (by omega) (by unfold mS;omega) (by omega)
def pop(l:List Int)(k:Nat):List Nat->List Nat
 |a::b::r=>if mq l b (a-1)<mq l a k then a::b::r else pop l k (b::r)
 |s=>s
def poolN(l:List Int):Nat->List Nat
 |0=>[]
 |k+1=>pop l k (k::poolN l k)
def Stk(n:Nat)(st:List Nat):Prop:=st.Pairwise (· > ·)/\(∀x∈st,x<n)/\(st≠[]->st.getLast? =some 0)
theorem Stk.push{n:Nat}{st:List Nat}(h:Stk n st)(l:st=[]->n=0):Stk (n+1) (n::st):=by
 obtain⟨g,e,i⟩:=h;refine⟨YA.2 ⟨fun x c=>e x c,g⟩,fun x c=> ?_,fun _=> ?_⟩
 ·rcases ZP.1 c with rfl|c
  ·omega
  ·have:=e x c;omega
 ·cases st with
  |nil=>rw[l U];rfl
  |cons a r=>rw[XP];exact i (by simp)
theorem Stk.tail{n a b:Nat}{r:List Nat}(h:Stk n (a::b::r)):Stk n (b::r):=by
 obtain⟨c,e,g⟩:=h;refine⟨(YA.1 c).2,fun x i=>e x (Zn _ i),fun _=> ?_⟩;have:=g (by simp);rwa[XP]at this
theorem e1n{l:List Int}{k n:Nat}:∀(st:List Nat),Stk n st->Stk n (pop l k st)/\(st≠[]->pop l k st≠[])
 |[],h=>⟨h,fun h=>h⟩
 |[a],h=>⟨h,fun h=>h⟩
 |a::b::r,h=>by
  rw[pop];split
  ·exact⟨h,fun h=>h⟩
  ·have:=e1n (l:=l) (k:=k) (b::r) h.tail
   exact⟨this.1,fun _=>this.2 (by simp)⟩
theorem a4u(l:List Int):∀n,Stk n (poolN l n)/\(poolN l n=[]->n=0)
 |0=>⟨⟨.nil,fun x e=>(by cases e),fun h=>(h U).elim⟩,fun _=>U⟩
 |n+1=>by
  obtain⟨a,c⟩:=a4u l n;have:=e1n (l:=l) (k:=n) _ (a.push c);exact⟨this.1,fun h=>(this.2 (by simp) h).elim⟩
def e3a(l:List Int)(k:Nat)(st:List Nat):Prop:=2<=st.length/\¬mq l (st.getD 1 default) (st.getD 0 default-1)<mq l (st.getD 0 default) k
theorem e0t{l:List Int}{k:Nat}{st:List Nat}(h:e3a l k st):pop l k st=pop l k st.tail:=by
 match st,h with
 |a::b::r,h=>
  have c:¬mq l b (a-1)<mq l a k:=h.2;rw[pop,if_neg c];rfl
 |[a],h=>exact absurd h.1 (by simp)
 |[],h=>exact absurd h.1 (by simp)
theorem c8t{l:List Int}{k:Nat}{st:List Nat}(h:¬e3a l k st):pop l k st=st:=by
 match st with
 |a::b::r=>
  rw[pop,if_pos];exact Decidable.byContradiction fun c=>h ⟨by simp,c⟩
 |[a]=>rfl
 |[]=>rfl
def goO(st:List Nat):List Int:=st.reverse.map Int.ofNat
@[simp] theorem L6(st:List Nat):(goO st).length=st.length:=by simp[goO]
theorem d3a(k:Nat)(st:List Nat):goO st++[(k:Int)]=goO (k::st):=by simp[goO]
theorem f1l{a:Nat}{st:List Nat}:(goO (a::st)).take st.length=goO st:=by
 simp only[goO,List.reverse_cons,ZZ,Zy,Yf];rw[List.take_append_of_le_length (by simp),ZC (by simp)]
theorem d4m{st:List Nat}(h:st≠[]):(goO st).take (st.length-1)=goO st.tail:=by
 cases st with
 |nil=>exact(h U).elim
 |cons a r=>exact f1l
theorem a9b{st:List Nat}{j:Nat}(h:j<st.length):(goO st).getD (st.length-1-j) default=((st.getD j default:Nat):Int):=by
 unfold goO;rw[Zc,ZE,List.getElem?_reverse (by omega),show st.length-1-(st.length-1-j)=j by omega,Ze h,Zc,Ze h]
 rfl
def nxt(a:List Nat)(n j:Nat):Nat:=if j+1<a.length then a.getD (j+1) default else n
def blk(l:List Int)(a:List Nat)(j:Nat):List Rat:=ZN (nxt a l.length j-a.getD j default) (mq l (a.getD j default) (nxt a l.length j-1))
def spr(l:List Int)(a:List Nat)(j:Nat):List Rat:=(Yb j).flatMap (blk l a)
theorem a7h(l:List Int)(a:List Nat)(j:Nat):spr l a (j+1)=spr l a j++blk l a j:=by
 unfold spr;rw[YQ,List.flatMap_append];simp
def Ris(n:Nat)(a:List Nat):Prop:=0<a.length/\a.getD 0 default=0/\(∀j,j<a.length->a.getD j default<nxt a n j/\nxt a n j<=n)
theorem c9c{α:Type}[Inhabited α]{R:α->α->Prop}{l:List α}(h:l.Pairwise R){i j:Nat}(a:i<j)(c:j<l.length):R (l.getD i default) (l.getD j default):=by
 rw[Zc,Zc,Ze (by omega),Ze c];exact Xi.1 h i j (by omega) c a
theorem f4d{n:Nat}{st:List Nat}(h:Stk n st)(a:st≠[]):Ris n st.reverse:=by
 obtain⟨l,o,p⟩:=h;have s:st.reverse.Pairwise (· < ·):=by rw[List.pairwise_reverse];exact l
 have g:=p a;refine⟨by rw[List.length_reverse];exact List.length_pos_iff.2 a,?_,fun j q=> ?_⟩
 ·rw[Zc,<-List.head?_eq_getElem?,List.head?_reverse,g];rfl
 ·have c:∀i,i<st.reverse.length->st.reverse.getD i default<n:=fun i e=>o _ (List.mem_reverse.1 (by rw[Zc,Ze e];exact List.getElem_mem e))
  unfold nxt;split
  ·rename_i h
   exact⟨c9c s (ZK j) h,by have:=c _ h;omega⟩
  ·exact⟨c j q,Zd n⟩
theorem b0u{l:List Int}{a:List Nat}(h:Ris l.length a):∀j,j<a.length->(spr l a j).length=a.getD j default
 |0,_=>by rw[h.2.1];rfl
 |j+1,c=>by
  have:=h.2.2 j (by omega);rw[a7h,Zl,b0u h j (by omega),blk,YX];have e:nxt a l.length j=a.getD (j+1) default:=by unfold nxt;rw[if_pos c]
  omega
theorem c9w{l:List Int}{a:List Nat}(h:Ris l.length a):(spr l a a.length).length=l.length:=by
 obtain⟨m,hm⟩:∃m,a.length=m+1:=⟨a.length-1,by have:=h.1;omega⟩;have c:=h.2.2 m (by omega);rw[hm,a7h,Zl,b0u h m (by omega),blk,YX];have e:nxt a l.length m=l.length:=by unfold nxt;rw[if_neg (by omega)]
 omega
def vlo(l:List Int):Bool:=decide (1<=l.length)&&decide (l.length<=8)&&a0u (-30) 30 l
theorem a6e{l:List Int}:vlo l=true↔(1<=l.length/\l.length<=8)/\∀x∈l,-30<=x/\x<=30:=by simp[vlo,a0u]
def bsR(l:List Int):List Nat:=(poolN l l.length).reverse
def riseQ(l:List Int):List Rat:=if vlo l=true then spr l (bsR l) (bsR l).length else[]
theorem b7r{l:List Int}(h:vlo l=true):Ris l.length (bsR l):=by
 obtain⟨a,c⟩:=a4u l l.length;exact f4d a fun e=>by have:=c e;have:=(a6e.1 h).1;omega
theorem c5c{l:List Int}(h:vlo l=true):(riseQ l).length=l.length:=by
 rw[riseQ,if_pos h,c9w (b7r h)]
theorem b1t{l:List Int}(h:¬vlo l=true):riseQ l=[]:=if_neg h
theorem e6d{l:List Int}:∀q∈riseQ l,Sm 1000 q:=by
 intro q hq;rw[riseQ]at hq;split at hq
 ·rename_i h
  obtain⟨c,e⟩:=a6e.1 h;have g:=b7r h;unfold spr at hq;obtain⟨j,a,hq⟩:=List.mem_flatMap.1 hq;have a:=g.2.2 j (List.mem_range.1 a);rw[blk,List.mem_replicate]at hq;rw[hq.2];exact d5b c.2 e (by omega)
 ·cases hq
end Go.Mv
end
