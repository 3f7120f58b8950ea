/- The functions of Go's library keep the contracts that the abstract machine asks of them. Conditions: none. -/
import Derived.Test.YtjmoceabjajefaaGreatDoorSc
import Derived.Shelf.Strings.Split
import Derived.Shelf.Strings.OnBuilder
import Derived.Shelf.Small.Wraps
import Derived.Shelf.Strconv.Itoa3
import Derived.Shelf.Strconv.AtoiAll
import Derived.Lib.SplitLaws
import Derived.LaidMore
import Derived.LaidLaws
import Derived.Lay
import Derived.Handed
import Derived.HandedShaped
import Derived.SevenTiedAt
import Derived.Stop.Joined
import Derived.Shelf.Vars
import Derived.Lib.LaidTab
import Derived.WideKeyElems2
import Derived.WideKeyElems3
import Derived.Laws.IdiomMaps
import Derived.ChangeMaps5
import Derived.OpenShut
import Derived.StringKeys
import Derived.Shelf.SlicesE.Clone
import Derived.Shelf.SortM.Plain
import Derived.Shelf.SortM.SortNone
import Derived.Shelf.Strings.BuilderK
import Derived.Shelf.Strings.Cut
import Derived.Ground.NamesProg
import Derived.Shelf.SlLaysE0
import Derived.Ground.SlgnProg
import Derived.Shelf.SlLaysM
import Derived.Ground.SlgmProg
set_option linter.unusedVariables false
set_option linter.unusedSimpArgs false
open Array renaming getD_eq_getD_getElem?→ZN, getElem?_eq_some_iff→ZC
open Bool renaming false_eq_true→ZZ, and_eq_true→Zy
open Go.DataW renaming LaidVars→XJ
open Go.Shelf renaming Ren→Xe
open Go.Lib renaming hasSuffix→XP, cell_of_heap→Xy
open List renaming getElem?_map→ZE, mem_map→ZI, getElem?_eq_getElem→Zg, map_cons→Zz, length_map→Zi, isPrefixOf→Xq, mem_cons_self→Zr, mem_cons_of_mem→Zn, mem_cons→ZM, map_nil→Ya, mem_append_left→ZU, mem_append_right→Yc, length_cons→Ze, take_of_length_le→ZB
open Nat renaming le_refl→Zd
open Option renaming map_some→ZA, bind_some→Zl, bind_eq_some_iff→Za, map_eq_some_iff→Zh
open Option.some renaming injEq→Zb
open Prod.mk renaming injEq→Zk
open Go.World renaming settled→XQ
section
/- Functions of the library over texts: that they keep the contracts which the abstract machine asks of them. -/
open Go Go.Mv Go.Proofs Go.Shelf Go.RowKit
namespace Go.Mv
section
variable{P:Program}{Γ:Env}{w0:World}{A O0:Nat->Prop}{ν0:Nu}{N:Nat}{F:Fl}{D:Nat->Prop}{st:St}{ν:Nu}{tm:Array Value}{w:World}
theorem b0v{xs:List Value}{i j:Nat}{l:AV}(h:leafAt (xs.map AV.val) i j=some l):∃x,xs[i]? =some x/\j=0/\l= .val x:=by
 unfold leafAt at h;rw[ZE]at h;cases hx:xs[i]? with
 |none=>simp[hx]at h
 |some x=>
  simp only[hx,ZA]at h;cases j with
  |zero=>simp[leaves]at h;exact⟨x,rfl,rfl,h.symm⟩
  |succ j=>simp[leaves]at h
/-- plain values in a new block -/
theorem Rel.ownNewV(R:Rel Γ w0 A O0 ν0 N Fl.emp D st ν tm w){w':World}{g:Nat}(W:WStep Γ w w' g)(hg:w.heap.size<=g){c:Array Value}{ety:TypeId}
 (hc:w'.heap[g]? =some (.cells c ety (0,0))) {xs:List Value} (hsz:xs.length<=c.size) (hv:∀(i:Nat) (x:Value),xs[i]? =some x->c[i]? =some x) (κ:FK):
 Rel Γ w0 A O0 ν0 N (Fl.emp.set κ (some ⟨fun q=>match q with|none=>some (g,0)|some _=>none,1,xs.map AV.val⟩)) D st ν tm w':=by
 refine R.compose W (fun _=>False) κ (.inl rfl) ⟨fun q=>match q with|none=>some (g,0)|some _=>none,1,xs.map AV.val⟩ none (fun _ _=>(κ,none)) ⟨0,rfl⟩ (.inl ⟨rfl,hg⟩)
  ?_ ?_ ?_ (fun _ h=>by cases h) (Fl.set_eq _ _ _) (fun _ _ h=>h.elim) (fun k hk _=>Fl.set_ne _ _ hk)
 ·refine⟨c,ety,hc,by simpa using hsz,fun _ e he=> ?_,fun h=>h.elim,fun i j l hl=> ?_⟩
  ·obtain⟨x,_,rfl⟩:=ZI.1 he
   rfl
  ·obtain⟨x,hx,rfl,rfl⟩:=b0v hl
   exact⟨_,by simpa using hv i x hx,RS.data _ _ (.val _)⟩
 ·intro i j s' es' hl
  obtain⟨x,_,_,h⟩:=b0v hl;cases h
 ·intro i j i' j' s1 e1 s2 e2 hl
  obtain⟨x,_,_,h⟩:=b0v hl;cases h
theorem d0e(xs:List Value):G3 (xs.map AV.val)=false:=by
 induction xs with
 |nil=>rfl
 |cons x xs ih=>simp[G3,hasList,ih]
/-- scalars in, something immutable out -/
theorem S0(hmo:¬Γ.mo){f:Nat}{md:Nat->Nat}(vs:List Value)(res:AV)(hn:hasList res=false)
 (h:∀w,Γ.G w->Calls P f vs.toArray w fun e w'=>∃v,e= .returned v/\(∀D,AllRes Fl.emp D w' res v)/\Below w.heap.size w w'):Contract Γ P md f (vs.map AV.val) res []:=by
 intro w A O0 ν0 D vals hOA R hA;have hsz:vals.size=vs.length:=by simpa using R.size
 have hv:vals=vs.toArray:=by
  apply Array.ext (by simpa using hsz);intro i h1 h2;have h3:i<vs.length:=by rw[<-hsz];exact h1
  have h0:=R.slots i (by simpa using h3);have e:initLoc md (vs.map AV.val) (.t i)= .val vs[i]:=by
   unfold initLoc;have:(vs.map AV.val)[i]? =some (.val vs[i]):=by rw[ZE,Zg h3];rfl
   show(match(vs.map AV.val)[i]? with
    |some (AV.own s es)=>AV.sl i 1 none 0 es.length
    |some (AV.ownp es a b)=>AV.ptr i 1 none a b
    |some (AV.clo f caps)=>AV.clo f (initCaps i 0 caps)
    |some a=>a
    |none=>AV.undef)=_
   rw[this]
  rw[e]at h0;have:=h0.val_inv;rw[ZN,Array.getElem?_eq_getElem h1]at this;simpa using this
 subst hv;have R0:=R.noSlots;refine(h w R.G).mono ?_;rintro e w' ⟨v,rfl,hr,hB⟩;have hc:∀(i:Nat) (l:List Value),cidAll md i (l.map AV.val)=[]:=by
  intro i l
  induction l generalizing i with
  |nil=>rfl
  |cons x l ih=>simp only[Zz,cidAll];rw[ih];rfl
 refine⟨_,rfl,_,D,_,ν0,R0.stay (a0c (fun h=>(hmo h).elim) hB (bt:=w.heap.size)) (Zd _),?_,hr D,fun κ f hf=>by cases hf⟩;rw[hc];rfl
theorem b0q{v:Value}:AllRes Fl.emp D w (.val v) v:= .inr (.inr (.inr (.inr ⟨rfl,.val _⟩)))
theorem a3m{u v:Value}{a b:AV}(ha:Z4 a=true/\RV w D a u)(hb:Z4 b=true/\RV w D b v):AllRes Fl.emp D w (.tup [a,b]) (.tuple #[u,v]):=by
 refine .inl ⟨_,_,rfl,rfl,rfl,fun k l hl=> ?_⟩
 match k,hl with
 |0,hl=>cases hl;exact .inr (.inr (.inr ha))
 |1,hl=>cases hl;exact .inr (.inr (.inr hb))
/-- texts in a new block come back -/
theorem d0y(hmo:¬Γ.mo){f:Nat}{md:Nat->Nat}(vs ys:List Value)
 (h:∀w,Γ.G w->Calls P f vs.toArray w fun e w'=>∃n,e= .returned (.slice (some ⟨w.heap.size,0,none⟩) n n)/\n=ys.length/\∃T,w'=w.alloc (.cells ys.toArray T)):Contract Γ P md f (vs.map AV.val) (.own 1 (ys.map AV.val)) []:=by
 intro w A O0 ν0 D vals hOA R hA;have hsz:vals.size=vs.length:=by simpa using R.size
 have hv:vals=vs.toArray:=by
  apply Array.ext (by simpa using hsz);intro i h1 h2;have h3:i<vs.length:=by rw[<-hsz];exact h1
  have h0:=R.slots i (by simpa using h3);have e:initLoc md (vs.map AV.val) (.t i)= .val vs[i]:=by
   unfold initLoc;have:(vs.map AV.val)[i]? =some (.val vs[i]):=by rw[ZE,Zg h3];rfl
   show(match(vs.map AV.val)[i]? with
    |some (AV.own s es)=>AV.sl i 1 none 0 es.length
    |some (AV.ownp es a b)=>AV.ptr i 1 none a b
    |some (AV.clo f caps)=>AV.clo f (initCaps i 0 caps)
    |some a=>a
    |none=>AV.undef)=_
   rw[this]
  rw[e]at h0;have:=h0.val_inv;rw[ZN,Array.getElem?_eq_getElem h1]at this;simpa using this
 subst hv;have R0:=R.noSlots;refine(h w R.G).mono ?_;rintro e w' ⟨n,rfl,rfl,T,rfl⟩;have hc:∀(i:Nat) (l:List Value),cidAll md i (l.map AV.val)=[]:=by
  intro i l
  induction l generalizing i with
  |nil=>rfl
  |cons x l ih=>simp only[Zz,cidAll];rw[ih];rfl
 have hB:Below w.heap.size w (w.alloc (.cells ys.toArray T)):=(Below.refl _ _).alloc (Zd _) _;have hcell:(w.alloc (.cells ys.toArray T)).heap[w.heap.size]? =some (.cells ys.toArray T (0,0)):=heap_alloc_new w _;have hn1:G4 (ys.map AV.val)=true:=A6 fun _=>rfl
 refine⟨_,rfl,_,D,_,ν0,R0.ownNewV (a0c (fun h=>(hmo h).elim) hB (bt:=w.heap.size)) (Zd _) hcell (by simp) (fun i x hi=>by simpa using hi) (5,0,0),?_,.inr (.inr (.inr (.inl ⟨1,ys.map AV.val,_,rfl,Fl.set_eq _ _ _,hn1,?_⟩))),b3e hn1 (d0e ys)⟩
 ·rw[hc];rfl
 ·refine⟨_,ys.length,by rw[Zi],by rw[Zi];exact Zd _,.inr ⟨w.heap.size,0,rfl,by simp,?_⟩⟩
  have:csize (w.alloc (.cells ys.toArray T)) w.heap.size=ys.length:=by unfold csize;rw[hcell];simp
  rw[this];simp
end
/-! ### the cut -/
theorem index_one_nil(c:UInt8):Lib.index [] [c]= -1:=rfl
theorem b0d(c:UInt8)(l:List UInt8):Lib.index (c::l) [c]=0:=by simp[Lib.index,Xq]
theorem b2o{b c:UInt8}(l:List UInt8)(h:b≠c):Lib.index (b::l) [c]=if Lib.index l [c]== -1 then-1 else Lib.index l [c]+1:=by
 have:([c]:List UInt8).isPrefixOf (b::l)=false:=by simp[Xq,Ne.symm h]
 rw[Lib.index,this];rfl
theorem a8q{c:UInt8}:∀{l:List UInt8},Lib.index l [c]= -1->l.count c=0
 |[],_=>rfl
 |b::l,h=>by
  by_cases e:b=c
  ·subst e;rw[b0d]at h;cases h
  ·rw[b2o l e]at h
   split at h
   ·rename_i h2
    rw[List.count_cons_of_ne e,a8q (by simpa using h2)]
   ·have:=Lib.index_ge l [c];omega
theorem c0h(c:UInt8):∀(s:List UInt8),Lib.splitK [c] 0 (s.count c) s=splitB c s
 |[]=>rfl
 |b::l=>by
  have ih:=c0h c l;by_cases e:b=c
  ·subst e
   rw[List.count_cons_self,splitB,if_pos rfl,<-ih,Lib.splitK,b0d];simp
  ·rw[List.count_cons_of_ne e,splitB,if_neg e,<-ih]
   cases hk:l.count c with
   |zero=>rfl
   |succ k=>
    have hi:Lib.index l [c]≠-1:=fun h=>by have:=a8q h;omega
    have hge:=Lib.index_ge l [c];have e0:Lib.index (b::l) [c]=Lib.index l [c]+1:=by rw[b2o l e,if_neg (by simpa using hi)]
    rw[Lib.splitK,e0,if_neg (by simp;omega),Lib.splitK,if_neg (by simpa using hi)];have e1:(Lib.index l [c]+1).toNat=(Lib.index l [c]).toNat+1:=by omega
    rw[e1];simp[a0b,Nat.add_right_comm]
theorem f0x(c:UInt8):∀ps:List (List UInt8),Lib.join ps [c]=joinB c ps
 |[]=>rfl
 |[p]=>by simp[Lib.join,joinB]
 |p::q::r=>by
  have:=f0x c (q::r);simp only[Lib.join]at this|-;rw[joinB,<-this];simp[List.intercalate,List.intersperse]
theorem b1s(n:Nat):Lib.decDigits n=decN n:=by
 induction n using Nat.strongRecOn with
 |_ n ih=>
  rw[Lib.decDigits,decN];split
  ·rfl
  ·rw[ih _ (by omega)]
theorem f2w(n:Int):Lib.itoa n=dec n:=by
 rw[Lib.itoa,dec,b1s,b1s];split
 ·rw[show n.natAbs=(-n).toNat by omega]
 ·rfl
theorem e7l(b:UInt8)(l:List UInt8):Lib.trimPrefix l [b]=a6w b l/\Lib.hasPrefix l [b]=decide (l.head? =some b):=by
 cases l with
 |nil=>exact⟨rfl,rfl⟩
 |cons c r=>
  by_cases h:c=b
  ·subst h;simp[Lib.trimPrefix,Lib.hasPrefix,a6w,Xq]
  ·have h':(b==c)=false:=by simp[Ne.symm h]
   simp[Lib.trimPrefix,Lib.hasPrefix,a6w,Xq,h,h']
theorem e1m(b:UInt8)(l:List UInt8):XP l [b]=decide (l.getLast? =some b):=by
 have h1:XP l [b]=true↔l.getLast? =some b:=by
  rw[XP,List.isSuffixOf_iff_suffix];constructor
  ·rintro⟨t,rfl⟩;simp
  ·intro h
   obtain⟨t,rfl⟩:=List.getLast?_eq_some_iff.1 h;exact⟨t,rfl⟩
 cases hb:XP l [b]with
 |true=>exact(decide_eq_true (h1.1 hb)).symm
 |false=>exact(decide_eq_false fun h=>by rw[h1.2 h]at hb;cases hb).symm
theorem e8b(b:UInt8)(l:List UInt8):Lib.trimSuffix l [b]=c3q b l:=by
 rw[Lib.trimSuffix,e1m,c3q];by_cases h:l.getLast? =some b
 ·rw[if_pos (decide_eq_true h),if_pos h,List.dropLast_eq_take];rfl
 ·rw[if_neg (by simpa using h),if_neg h]
end Go.Mv
namespace Go.Mv
/-- what these functions ask of the world: four package variables -/
def txtEnv(P:Program)(gM gP gS gR:Nat)(hP:P.globalNamed "internal/strconv.uint64pow10"=some gP):Env where
 mo:=False
 gb b:=b=gM\/b=gP\/b=gS\/b=gR
 G w:=(∃m,w.cell? ⟨gM,0,none⟩=some (.int .i64 m))/\Lib.TabIs P w "internal/strconv.uint64pow10" .u64 Lib.pow10Tab/\
   (∃ev,w.cell? ⟨gS,0,none⟩=some ev/\(ev= .nilIface\/∃te pe,ev= .iface te pe))/\(∃ev,w.cell? ⟨gR,0,none⟩=some ev/\(ev= .nilIface\/∃te pe,ev= .iface te pe))
 stable w w' hb h:=by
  obtain⟨⟨m,h1⟩,h2,⟨e1,h3,h4⟩,⟨e2,h5,h6⟩⟩:=h;refine⟨⟨m,?_⟩,?_,⟨e1,?_,h4⟩,⟨e2,?_,h6⟩⟩
  ·rw[cell?_congr (w:=w) (hb gM (.inl rfl))];exact h1
  ·unfold Lib.TabIs World.var? at h2|-
   rw[hP,Zl]at h2|-;rw[hb gP (.inr (.inl rfl))];exact h2
  ·rw[cell?_congr (w:=w) (hb gS (.inr (.inr (.inl rfl))))];exact h3
  ·rw[cell?_congr (w:=w) (hb gR (.inr (.inr (.inr rfl))))];exact h5
theorem d9g(s:ByteArray)(b:UInt8):Lib.splitB (bA [b]) 0 (Lib.countB s (bA [b])) s=(splitB b s.data.toList).map bA/\(splitB b s.data.toList).length=Lib.countB s (bA [b])+1:=by
 have h1:=Lib.splitB_data (bA [b]) 0 (Lib.countB s (bA [b])) s;have hc:Lib.countB s (bA [b])=s.data.toList.count b:=Lib.count_one b _;have h2:(Lib.splitB (bA [b]) 0 (Lib.countB s (bA [b])) s).map (·.data.toList)=splitB b s.data.toList:=by
  rw[h1,hc];exact c0h b _
 refine⟨?_,?_⟩
 ·rw[<-h2,List.map_map]
  have:(bA∘fun x:ByteArray=>x.data.toList)=id:=by funext x;exact a1p x
  rw[this,List.map_id]
 ·rw[<-h2,Zi]
  exact Lib.splitB_all (bA [b]) (Zd 1) 0 _ s rfl
end Go.Mv
namespace Go.Proofs
variable{P:Program}{ρ:Ren}
theorem d0w{Γ:Env}(hmo:¬Γ.mo){f:Nat}{md:Nat->Nat}(L:Lays.n146 P ρ)(hi9:(P.info? (ρ.t 9)).map (fun i=>(i.zero,i.size,i.bytes))=some (some (.string ByteArray.empty),1,16))(hf:ρ.f 146=f)
 (hg:∀w,Γ.G w->∃m,w.cell? ⟨ρ.g 1,0,none⟩=some (.int .i64 m)) {args:List AV} {res:AV} {outs:List (List AV)} (h:b9e args=some (res,outs)):Contract Γ P md f args res outs:=by
 unfold b9e at h;split at h
 ·rename_i s c
  obtain⟨b,hb,h2⟩:=Za.1 h;split at h2
  ·rename_i hs
   cases h2;have hc:=one?_some hb;subst hc;subst hf;obtain⟨e1,e2⟩:=d9g s b;have:=d0y (P:=P) hmo (f:=ρ.f 146) (md:=md) [.string s,.string (bA [b])] ((splitB b s.data.toList).map fun p=>Value.string (bA p)) (fun w hw=>by
    obtain⟨m,hm⟩:=hg w hw;refine(Any.strings_Split L hi9 s (bA [b]) m w hs hm (Zd 1)).mono ?_;rintro e w' ⟨rfl,rfl⟩;refine⟨_,rfl,by rw[Zi,e2],ρ.t 9,?_⟩;rw[e1,List.map_map];rfl)
   rw[List.map_map]at this;exact this
  ·cases h2
 ·cases h
theorem d6b{Γ:Env}(hmo:¬Γ.mo){f:Nat}{md:Nat->Nat}(L:Lays.n103 P ρ)(hf:ρ.f 103=f){args:List AV}{res:AV}{outs:List (List AV)}(h:c9l args=some (res,outs)):Contract Γ P md f args res outs:=by
 unfold c9l at h;split at h
 ·rename_i s c
  obtain⟨b,hb,h2⟩:=Za.1 h;cases h2;have hc:=one?_some hb;subst hc;subst hf;obtain⟨e1,e2⟩:=e7l b s.data.toList;exact S0 hmo [.string s,.string (bA [b])] _ rfl fun w _=>(Any.strings_CutPrefix L s (bA [b]) w).mono fun e w' ⟨he,hw⟩=>by
   subst hw;refine⟨_,he,fun D=> ?_,Below.refl _ _⟩;rw[show(bA [b]).data.toList=[b]from rfl,e1,e2];exact a3m ⟨rfl,.val _⟩ ⟨rfl,.val _⟩
 ·cases h
theorem d1t{Γ:Env}(hmo:¬Γ.mo){f:Nat}{md:Nat->Nat}(L:Lays.n104 P ρ)(hf:ρ.f 104=f){args:List AV}{res:AV}{outs:List (List AV)}(h:c7d args=some (res,outs)):Contract Γ P md f args res outs:=by
 unfold c7d at h;split at h
 ·rename_i s c
  obtain⟨b,hb,h2⟩:=Za.1 h;split at h2
  ·rename_i hs
   cases h2;have hc:=one?_some hb;subst hc;subst hf;exact S0 hmo [.string s,.string (bA [b])] _ rfl fun w _=>(Any.strings_CutSuffix L s (bA [b]) w (by omega)).mono fun e w' ⟨he,hw⟩=>by
    subst hw;refine⟨_,he,fun D=> ?_,Below.refl _ _⟩;rw[show(bA [b]).data.toList=[b]from rfl,e8b,e1m];exact a3m ⟨rfl,.val _⟩ ⟨rfl,.val _⟩
  ·cases h2
 ·cases h
theorem d2v{Γ:Env}(hmo:¬Γ.mo){f:Nat}{md:Nat->Nat}(L:LaysM.n171 P ρ)(hf:ρ.f 171=f)(hg:∀w,Γ.G w->Lib.TabIs P w "internal/strconv.uint64pow10" .u64 Lib.pow10Tab){args:List AV}{res:AV}{outs:List (List AV)}(h:b7o args=some (res,outs)):Contract Γ P md f args res outs:=by
 unfold b7o at h;split at h
 ·rename_i n
  split at h
  ·rename_i hn
   cases h;subst hf;exact S0 hmo [.int .i64 n] _ rfl fun w hw=>(Any.strconv_Itoa L n hn.1 hn.2 w (hg w hw)).mono fun e w' ⟨he,k,os,hw'⟩=>by
    subst hw';refine⟨_,he,fun D=> ?_,⟨rfl,rfl,rfl,by simp[Sort.grow,World.drewN],fun j hj=> ?_⟩⟩
    ·rw[f2w];exact b0q
    ·simp only[Sort.grow,World.drewN]
     exact Array.getElem?_append_left hj
  ·cases h
 ·cases h
theorem d5w{Γ:Env}(hmo:¬Γ.mo){f:Nat}{md:Nat->Nat}(L:LaysC.n172 P ρ)(hf:ρ.f 172=f)(hs:∀w,Γ.G w->∃ev,w.cell? ⟨ρ.g 15,0,none⟩=some ev/\(ev= .nilIface\/∃te pe,ev= .iface te pe))
 (hr:∀w,Γ.G w->∃ev,w.cell? ⟨ρ.g 16,0,none⟩=some ev/\(ev= .nilIface\/∃te pe,ev= .iface te pe)) {args:List AV} {res:AV} {outs:List (List AV)} (h:c8l args=some (res,outs)):Contract Γ P md f args res outs:=by
 unfold c8l at h;split at h
 ·rename_i s
  split at h
  ·rename_i hsz
   cases h;subst hf;cases ha:Lib.atoiAll s.data.toList with
   |ok v=>
    have e:atR s.data.toList= .tup [iV v,.val .nilIface]:=by rw[atR,ha]
    rw[e];exact S0 hmo [.string s] _ rfl fun w _=>(Any.strconv_Atoi_ok L s (by omega) v ha w).mono fun e w' ⟨he,hw⟩=>by
     refine⟨_,he,fun D=>a3m ⟨rfl,.val _⟩ ⟨rfl,.val _⟩,?_⟩;rcases hw with rfl|⟨t,rfl⟩
     ·exact Below.refl _ _
     ·exact⟨rfl,rfl,rfl,by rw[Lib.bytesWorld_size];omega,fun j hj=>Lib.bytesWorld_at_old w (ρ.t 5) t j hj⟩
   |range=>
    have e:atR s.data.toList= .tup [iV (Lib.atoiSat s.data.toList),.ifc]:=by rw[atR,ha]
    rw[e];exact S0 hmo [.string s] _ rfl fun w hw=>by
     obtain⟨ev,hv,hev⟩:=hr w hw;exact(Any.strconv_Atoi_range L s (by omega) ha ev w hv hev).mono fun e w' ⟨N,he,_,_,hB⟩=>⟨_,he,fun D=>a3m ⟨rfl,.val _⟩ ⟨rfl,.ifc _ _⟩,hB⟩
   |_=>
    have e:atR s.data.toList= .tup [iV 0,.ifc]:=by rw[atR,ha]
    rw[e];exact S0 hmo [.string s] _ rfl fun w hw=>by
     obtain⟨ev,hv,hev⟩:=hs w hw;exact(Any.strconv_Atoi_syntax L s (by omega) ha ev w hv hev).mono fun e w' ⟨N,he,_,_,hB⟩=>⟨_,he,fun D=>a3m ⟨rfl,.val _⟩ ⟨rfl,.ifc _ _⟩,hB⟩
  ·cases h
 ·cases h
end Go.Proofs
namespace Go.Proofs
variable{P:Program}{ρ:Ren}
theorem d6y:∀{es:List AV} {ps:List (List UInt8)},unT es=some ps->es=ps.map tV
 |[],ps,h=>by cases h;rfl
 | .val (.string s)::r,ps,h=>by
   simp only[unT,Zh]at h;obtain⟨qs,h1,rfl⟩:=h;rw[d6y h1,Zz]
theorem d3t{Γ:Env}(hmo:¬Γ.mo){f:Nat}{md:Nat->Nat}(L:Lays.n156 P ρ)(X:Builder.Extra P ρ)(hf:ρ.f 156=f){args:List AV}{res:AV}{outs:List (List AV)}(h:c6z args=some (res,outs)):Contract Γ P md f args res outs:=by
 unfold c6z at h;split at h
 ·rename_i es c
  obtain⟨b,hb,h2⟩:=Za.1 h;obtain⟨ps,hp,h3⟩:=Za.1 h2;split at h3
  ·rename_i hl
   cases h3;have hc:=one?_some hb;subst hc;have:=d6y hp;subst this;subst hf;intro w A O0 ν0 D vals hOA R hA;have h0:=R.slots 0 (by simp);have h1:=R.slots 1 (by simp);have hsz:vals.size=2:=by simpa using R.size
   obtain⟨v,u,rfl⟩:∃v u,vals= #[v,u]:=by
    match vals,hsz with
    |⟨[v,u]⟩,_=>exact⟨v,u,rfl⟩
   have hv:RV w D (.list (ps.map tV)) v:=RS.list_inv h0;have hu:u= .string (bA [b]):=RS.val_inv (u:= .string (bA [b])) h1;subst hu;have R0:=R.noSlots;have hc:∀w':World,Below w.heap.size w w'->∃F' D' st' ν',Rel Γ w A O0 ν0 0 F' D' st' ν' #[] w'/\outsOf st' (cidAll md 0 [.list (ps.map tV),tV [b]])=some []/\AllRes F' D' w' (tV (joinB b ps)) (.string (bA (joinB b ps)))/\d1n F' (tV (joinB b ps)):=by
    intro w' hB;exact⟨_,_,_,ν0,R0.stay (a0c (fun h=>(hmo h).elim) hB (bt:=w.heap.size)) (Zd _),rfl,b0q,fun κ f hf=>by cases hf⟩
   generalize hes:ps.map tV=es at hv;cases hv with
   |list _ a cap bk o s cc hcap ha hs hcl hlf=>
    subst hes;rw[Zi]at hcap|-;cases ps with
    |nil=>
     refine(Any.strings_Join_none L X a cap (bA [b]) w).mono ?_;rintro e w' ⟨rfl,rfl⟩;exact⟨_,rfl,hc w' (Below.refl _ _)⟩
    |cons p r=>
     obtain⟨rfl,_,hbk⟩:=ha (by simp);have hs1:s=1:=(hs (tV p) (by simp)).symm;subst hs1;have e1:Lib.join (((p::r).map bA).map (·.data.toList)) (bA [b]).data.toList=joinB b (p::r):=by
      rw[List.map_map];have:((fun x:ByteArray=>x.data.toList)∘bA)=id:=by funext x;rfl
      rw[this,List.map_id];exact f0x b (p::r)
     have hj:=Any.strings_Join L X bk o cap ((p::r).map bA) (bA [b]) w (fun j x hj=>by
      rw[ZE]at hj;cases hq:(p::r)[j]? with
      |none=>rw[hq]at hj;cases hj
      |some q=>
       rw[hq]at hj;cases hj;have hl0:leafAt ((p::r).map tV) j 0=some (tV q):=by
        unfold leafAt;rw[ZE,hq]
        rfl
       have h4:=hcl j 0 _ hl0;have h5:=hlf j 0 _ hl0;have h6:cc j 0= .string (bA q):=by
        generalize cc j 0=z at h5;cases h5
        rfl
       rw[h6]at h4;simpa using h4) hbk (by have:=hl.1;simp only[H0,Zi]at*;omega) (by simpa using hcap) (by rw[e1];have:=hl.2;simp only[H0]at this;omega)
     rw[Zi]at hj;refine hj.mono ?_;rintro e w' ⟨rfl,hB⟩;refine⟨_,rfl,?_⟩;rw[e1];exact hc w' hB
  ·cases h3
 ·cases h
end Go.Proofs
end
section
/- Rows that list package variables: from their condition to what the text functions ask of the world. -/
namespace Go.Mv
open Go Go.RowKit Go.ChangeShapes Go.WideShapes Go.ChangeAt
section
variable{H:Type}{enc:TypeId×Value->H}
theorem d1x{a:Assume}{C:Checked}{os:Os}{f:FuncId}{fn:Func}{s:ChangeSpec}{conds:List PathCond}{apart fresh handsOn again:Bool}{X:World->Array Value->Prop}
 (hX:∀(w w':World) (args:Array Value),w.heap=w'.heap->X w args->X w' args)
 (own:ownKnob C.prog.godebug=none) (started:os.Started) (noInit:C.prog.inits.idxOf? f=none) (hfn:C.prog.funcs[f]? =some fn)
 (witness:∃(w:World) (tape:Tape) (i:Input),w.os=os/\(w.forCall tape i).Shaped C.prog/\i.vars=[]/\Input.okWide C.prog (w.forCall tape i) .any w.heap.size f i/\
   ((s.pre enc C.prog fn conds apart (w.forCall tape i).memory i.args/\X (w.forCall tape i).memory i.args)/\sizedMet enc C.prog fn (OpenSpec.ofChange s) apart (w.forCall tape i).memory i.args)/\a.holds C.prog (lone (Frame.enter C.prog f i.args .normal) [] (w.forCall tape i)))
 (contract:∀(W:World) (base:Nat) (args:Array Value) (ds gs:List (DataW H)) (before:List MemPlace),
   (∀(j:Nat) t v,fn.params[j]? =some t->args[j]? =some v->Value.okWide C.prog W .any base t v)->
   DataW.Whole enc C.prog fn.params.toList s.vars apart W args.toList ds gs before->W.ShapedOpen C.prog->X W args->
   Calls C.prog f args W fun e W'=>∃v,e= .returned v/\s.post enc C.prog fn apart fresh handsOn again W args v W'):
 ReturnsInHanded a C os f .any (fun w args=>(s.pre enc C.prog fn conds apart w args/\X w args)/\sizedMet enc C.prog fn (OpenSpec.ofChange s) apart w args) (s.post enc C.prog fn apart fresh handsOn again):=by
 refine returnsInHanded_of_calls own started noInit witness ?_;intro w tape i _ hsh _ hok hpre hholds;obtain⟨_,_,_,fn',hfn',_,_,_,_,hval⟩:=hok;have e:fn'=fn:=Option.some.inj (hfn'.symm.trans hfn);subst e;obtain⟨⟨⟨ds,gs,before,hw,hc⟩,hx⟩,hz⟩:=hpre;have hw':=DataW.Whole.of_heap (w':=w.forCall tape i) (by rfl) hw;refine(contract (w.forCall tape i) w.heap.size i.args ds gs before hval hw' hsh (hX _ _ _ (by rfl) hx)).mono fun e W' ⟨v,he,hp⟩=> ?_
 subst he;exact ChangeSpec.post_blind hp
end
section
variable{P:Program}{W:World}
theorem b7r:∀{laid:List (String×DataW Unit)} {ps:List MemPlace} {i:Nat} {n:String} {d:DataW Unit},XJ P W laid ps->laid[i]? =some (n,d)->
 ∃g t cs fuel p,P.globalNamed n=some g/\(P.globals[g]?).map (·.type)=some t/\W.var? P n=some cs/\DataW.trod (fun _=>()) P W 0 (fun _=>true) false fuel t cs.toList=some (d,p)
 |[],_,_,_,_,_,h=>by simp at h
 |(n0,d0)::r,_,0,n,d,⟨g,t,cs,fuel,p,q,h1,h2,h3,h4,_,_⟩,h=>by
  simp only[List.getElem?_cons_zero,Zb,Zk]at h;obtain⟨rfl,rfl⟩:=h;exact⟨g,t,cs,fuel,p,h1,h2,h3,h4⟩
 |(n0,d0)::r,_,i+1,n,d,⟨g,t,cs,fuel,p,q,_,_,_,_,h5,_⟩,h=>b7r h5 (by simpa using h)
theorem b8y{laid:List (String×DataW Unit)}{ps:List MemPlace}{i g t:Nat}{n nm:String}{d:DataW Unit}{ms:Array (String×TypeId)}(hl:XJ P W laid ps)(hi:laid[i]? =some (n,.iface nm d))
 (hg:P.globalNamed n=some g) (ht:(P.globals[g]?).map (·.type)=some t) (hu:P.underlying t=some (.interface ms)):∃ev,W.cell? ⟨g,0,none⟩=some ev/\(ev= .nilIface\/∃te pe,ev= .iface te pe):=by
 obtain⟨g',t',cs,fuel,p,h1,h2,h3,h4⟩:=b7r hl hi;obtain rfl:=Option.some.inj (hg.symm.trans h1);obtain rfl:=Option.some.inj (ht.symm.trans h2);obtain⟨_,u,v,h5,_,_⟩:=iface_of_trod hu h4;refine⟨.iface u v,?_,.inr ⟨u,v,rfl⟩⟩;rw[World.var?_cell hg h3 0];have:cs= #[.iface u v]:=by cases cs;simp at h5;subst h5;rfl
 subst this;rfl
theorem e7o{laid:List (String×DataW Unit)}{ps:List MemPlace}{i g t e m:Nat}{n:String}{k:IntKind}{zs:List Int}(hl:XJ P W laid ps)(hi:laid[i]? =some (n,Lib.tabData k zs))
 (hg:P.globalNamed n=some g) (ht:(P.globals[g]?).map (·.type)=some t) (hu:P.underlying t=some (.array m e)) (he:P.underlying e=some (.int k)) (hce:P.cellsOf e=1) (hct:P.cellsOf t=m):Lib.TabIs P W n k zs:=by
 obtain⟨g',t',cs,fuel,p,h1,h2,h3,h4⟩:=b7r hl hi;obtain rfl:=Option.some.inj (hg.symm.trans h1);obtain rfl:=Option.some.inj (ht.symm.trans h2);unfold Lib.TabIs;rw[h3,<-Lib.cells_of_tab hu he hce hct h4]
theorem e6e{n:String}{g:Nat}{cs:Array Value}(hg:P.globalNamed n=some g)(h:W.var? P n=some cs):g<W.heap.size:=by
 unfold World.var? at h;rw[hg,Zl]at h;split at h
 ·rename_i hh
  exact(ZC.1 hh).1
 ·cases h
theorem b8s{a:Addr}{v:Value}(h:W.cell? a=some v):a.block<W.heap.size:=by
 unfold World.cell? at h;split at h
 ·rename_i hh
  exact(ZC.1 hh).1
 ·cases h
theorem e3o{gM gP gS gR:Nat}{hP:P.globalNamed "internal/strconv.uint64pow10"=some gP}(h:(txtEnv P gM gP gS gR hP).G W):∀b,(txtEnv P gM gP gS gR hP).gb b->b<W.heap.size:=by
 obtain⟨⟨m,h1⟩,h2,⟨e1,h3,_⟩,⟨e2,h5,_⟩⟩:=h;intro b hb;rcases hb with rfl|rfl|rfl|rfl
 ·exact b8s h1
 ·exact e6e hP h2
 ·exact b8s h3
 ·exact b8s h5
end
end Go.Mv
end
section
/- A package variable that holds a map from texts: what the machine is b4c of it. -/
namespace Go.Mv
open Go Go.RowKit Go.ChangeShapes Go.WideShapes Go.ChangeAt
/-- what is asked of a world: the text functions' variables, and a map at a known place -/
def goneEnv(P:Program)(gM gP gS gR gG r:Nat)(hP:P.globalNamed "internal/strconv.uint64pow10"=some gP)(tb:List (ByteArray×Value)):Env where
 mo:=False
 gb b:=(txtEnv P gM gP gS gR hP).gb b\/b=gG\/b=r
 G w:=(txtEnv P gM gP gS gR hP).G w/\w.cell? ⟨gG,0,none⟩=some (.map (some r))/\∃es clock,w.heap[r]? =some (.map es clock)/\∀s,∃rr,Instr.findNow .string (.string s) es.toList 0=some rr/\rr.map (·.2)=a4m s tb
 stable w w' hb h:=by
  obtain⟨h1,h2,es,clock,h3,h4⟩:=h;refine⟨(txtEnv P gM gP gS gR hP).stable w w' (fun b h=>hb b (.inl h)) h1,?_,es,clock,?_,h4⟩
  ·rw[cell?_congr (w:=w) (hb gG (.inr (.inl rfl)))];exact h2
  ·rw[hb r (.inr (.inr rfl))];exact h3
theorem e0b{P:Program}{W:World}{gM gP gS gR gG r:Nat}{hP:P.globalNamed "internal/strconv.uint64pow10"=some gP}{tb:List (ByteArray×Value)}(h:(goneEnv P gM gP gS gR gG r hP tb).G W):∀b,(goneEnv P gM gP gS gR gG r hP tb).gb b->b<W.heap.size:=by
 obtain⟨h1,h2,es,clock,h3,_⟩:=h;intro b hb;rcases hb with hb|rfl|rfl
 ·exact e3o h1 b hb
 ·exact b8s h2
 ·exact(ZC.1 h3).1
theorem c1u{P:Program}{gM gP gS gR gG r:Nat}{hP:P.globalNamed "internal/strconv.uint64pow10"=some gP}{tb:List (ByteArray×Value)}{cx:Cx}
 (h1:cx.gl=fun g=>if g=gG then some (.val (.map (some r)))else none) (h2:cx.mp=fun k=>if k=r then some tb else none):GlOk (goneEnv P gM gP gS gR gG r hP tb) cx:=by
 refine⟨fun g a h w hG=> ?_,fun k t h w hG=> ?_⟩
 ·rw[h1]at h
  simp only at h;split at h
  ·rename_i e;subst e;cases h
   exact⟨_,hG.2.1,.val _⟩
  ·cases h
 ·rw[h2]at h
  simp only at h;split at h
  ·rename_i e;subst e;cases h
   exact hG.2.2
  ·cases h
/-- the table in the order in which it is listed -/
def goneS:List (W8×Bool×Bool):=[(d5c++32::d5c,true,false),(d5c++32::d5t,false,true),(c6x++32::c5f,true,true),(d5t++32::d5t,true,true),(c4u++32::c4u,true,true),
 (lSort++32::c4u,false,true),(lSort++32::lSort,true,false),(c5f++32::c6x,true,true),(e4g++32::c4u,false,true),(e4g++32::lSort,false,true)]
def goneE(e:W8×Bool×Bool):Lit×DataW Unit:=(.string e.1,.agg [.lit (.bool e.2.1),.lit (.bool e.2.2)])
def f0u:DataW Unit:= .map (goneS.map goneE)
theorem c5e{l:W8}{e:Bool×Bool}:(l,e)∈goneS↔keyG l=some e:=by
 constructor
 ·intro h
  have hall:∀x∈goneS,keyG x.1=some x.2:=by decide+kernel
  exact hall _ h
 ·intro h
  unfold keyG at h;obtain⟨x,h1,h2⟩:=Zh.1 h;have hm:=List.mem_of_find?_eq_some h1;have hk:=List.find?_some h1;have hall:∀x∈goneL,x∈goneS:=by decide+kernel
  have:=hall x hm;have e1:x.1=l:=by simpa using hk
  rw[<-e1,<-h2];exact this
theorem b0h(s:ByteArray):∀(es:List MapEntry) (i:Nat),(∀e∈es,∃k,e.key= .string k)->
 ∃rr,Instr.findNow .string (.string s) es i=some rr/\((rr=none/\∀e∈es,e.key≠.string s)\/∃e∈es,∃j,rr=some (j,e.val)/\e.key= .string s)
 |[],i,_=>⟨none,rfl,.inl ⟨rfl,fun _ h=>by cases h⟩⟩
 |e::es,i,hk=>by
  obtain⟨k,h1⟩:=hk e (Zr ..);unfold Instr.findNow;simp only[h1,Instr.sameNow];by_cases c:(s==k)=true
  ·have e1:s=k:=by
    rw[<-a1p s,<-a1p k,d9e]at c;rw[<-a1p s,<-a1p k,of_decide_eq_true c]
   simp only[c,if_true];exact⟨_,rfl,.inr ⟨e,Zr ..,i,rfl,by rw[h1,e1]⟩⟩
  ·have e1:s≠k:=fun e1=>c (by rw[e1,<-a1p k,d9e];simp)
   simp only[Bool.not_eq_true]at c;simp only[c,ZZ,if_false];obtain⟨rr,h2,h3⟩:=b0h s es (i+1) fun x hx=>hk x (Zn _ hx)
   refine⟨rr,h2,?_⟩;rcases h3 with⟨h3,h4⟩|⟨x,hx,j,h3,h4⟩
   ·refine .inl ⟨h3,fun x hx=> ?_⟩
    rcases ZM.1 hx with rfl|hx
    ·rw[h1];intro e2;cases e2;exact e1 rfl
    ·exact h4 x hx
   ·exact .inr ⟨x,Zn _ hx,j,h3,h4⟩
open Go.ChangeMaps Go.WideElems in
theorem e4a{P:Program}{W:World}{laid:List (String×DataW Unit)}{ps:List MemPlace}{i gG t k e b:Nat}{n:String}(hl:XJ P W laid ps)(hi:laid[i]? =some (n,f0u))(hg:P.globalNamed n=some gG)
 (ht:(P.globals[gG]?).map (·.type)=some t) (hu:P.underlying t=some (.map k e)) (hk:P.underlying k=some .string) (he:P.underlying e=some (.array 2 b)) (hb:P.underlying b=some .bool) (hcb:P.cellsOf b=1) (hce:P.cellsOf e=2):
 ∃r,W.cell? ⟨gG,0,none⟩=some (.map (some r))/\∃es clock,W.heap[r]? =some (.map es clock)/\∀s,∃rr,Instr.findNow .string (.string s) es.toList 0=some rr/\rr.map (·.2)=a4m s goneTb:=by
 obtain⟨g',t',cs,fuel,p,h1,h2,h3,h4⟩:=b7r hl hi;obtain rfl:=Option.some.inj (hg.symm.trans h1);obtain rfl:=Option.some.inj (ht.symm.trans h2);rcases open_map hu h4 with⟨_,hx⟩|⟨r,es,clock,m,rfl,hcs,hr,_,F,hx⟩
 ·simp[f0u]at hx
 simp only[Zk,f0u,DataW.map.injEq]at hx;have hperm:=(hx.1▸sorted_perm _:(goneS.map goneE).Perm (es.toList.map (rg P k (elemAt _ P W 0 _ false m e))));refine⟨r,?_,es,clock,hr,fun s=> ?_⟩
 ·rw[World.var?_cell hg h3 0]
  have:cs= #[.map (some r)]:=by cases cs;simpa using hcs
  subst this;rfl
 --an entry is one of the table
 have entry:∀x∈es.toList,∃l e1 e2,x.key= .string (bA l)/\(l,e1,e2)∈goneS/\x.val= .agg #[.bool e1,.bool e2]:=by
  intro x hx1;obtain⟨y,hy⟩:=F.reads x hx1;have hm:y∈goneS.map goneE:=hperm.mem_iff.2 (ZI.2 ⟨x,hx1,rg_of hy⟩);obtain⟨⟨l,e1,e2⟩,hl1,rfl⟩:=ZI.1 hm;have hky:=rd_key hy;obtain⟨z,hz,hz2⟩:=rd_val hy;rw[keyOf_string hk]at hky;unfold mapKey at hky;rw[hk]at hky;have hkey:x.key= .string (bA l):=by
   split at hky
   ·rename_i h _;cases h
   ·rename_i h _;cases h
   ·rename_i s0 _ h
    split at hky
    ·simp only[goneE,Zb,Lit.string.injEq]at hky
     rw[h,<-hky,a1p]
    ·cases hky
   ·cases hky
  refine⟨l,e1,e2,hkey,hl1,?_⟩;unfold elemAt at hz;split at hz
  ·rename_i hf
   obtain⟨xs,m2,rfl,hx3,hlen,hn,hel⟩:=DataW.trod_array he hz;have h0:=hel 0 (by decide);have h5:=hel 1 (by decide);rw[hx3]at hz2;simp only[goneE,DataW.agg.injEq]at hz2
   match xs,hn,hz2,h0,h5 with
   |[x0,x1],_,hz2,h0,h5=>
    simp only[Zz,Ya,List.cons.injEq,and_true]at hz2;obtain⟨b0,c0,d0⟩:=DataW.trod_bool hb (show DataW.trod _ P W 0 _ false m2 b _=some x0 from h0);obtain⟨b1,c1,d1⟩:=DataW.trod_bool hb (show DataW.trod _ P W 0 _ false m2 b _=some x1 from h5);rw[hcb]at c0 c1;rw[d0,d1]at hz2;simp only[DataW.lit.injEq,Lit.bool.injEq]at hz2;obtain⟨rfl,rfl⟩:=hz2;rw[hce]at hlen;unfold Value.formed at hf;split at hf
    ·rename_i cs2 hv
     rw[hv]at c0 c1 hlen|-;simp only[Value.cells]at c0 c1 hlen;obtain⟨l2⟩:=cs2
     match l2,hlen,c0,c1 with
     |[a0,a1],_,c0,c1=>
      simp at c0 c1;rw[c0,c1]
    ·cases hf
    ·rw[he]at hf;cases hf
  ·cases hz
 obtain⟨rr,h5,h6⟩:=b0h s es.toList 0 fun x hx=>by obtain⟨l,_,_,h,_⟩:=entry x hx;exact⟨_,h⟩
 refine⟨rr,h5,?_⟩;rw[<-a1p s,b9g];rcases h6 with⟨rfl,h6⟩|⟨x,hx1,j,rfl,h7⟩
 ·cases hkg:keyG s.data.toList with
  |none=>rfl
  |some z=>
   have hm:=c5e.2 hkg;have hm2:=hperm.mem_iff.1 (ZI.2 ⟨_,hm,rfl⟩);obtain⟨x,hx1,hx2⟩:=ZI.1 hm2;obtain⟨l,e1,e2,k1,k2,_⟩:=entry x hx1;obtain⟨y,hy⟩:=F.reads x hx1;have hky:=rd_key hy;rw[rg_of hy]at hx2;rw[hx2,keyOf_string hk,k1]at hky;unfold mapKey at hky;rw[hk]at hky;simp only at hky;split at hky
   ·simp only[goneE,Zb,Lit.string.injEq]at hky
    exact absurd (by rw[k1,hky,a1p]) (h6 x hx1)
   ·cases hky
 ·obtain⟨l,e1,e2,k1,k2,k3⟩:=entry x hx1
  have:bA l=s:=by rw[k1]at h7;cases h7;rfl
  subst this;rw[c5e.1 k2,k3];rfl
/-! ### rows that name package variables beside their arguments -/
def d6w(P:Program)(vars:List String):Bool:=vars.all fun n=>match P.globalNamed n with
 |some g=>match(P.globals[g]?).map (·.type)with
  |some t=>P.readableRec t&&decide (t<P.types.size)
  |none=>true
 |none=>true
section
variable{H:Type}{enc:TypeId×Value->H}{P:Program}{W W':World}
theorem a7u(hl:laidOutB P=true)(hB:Below W.heap.size W W'):∀{vars:List String} {gs:List (DataW H)} {ps:List MemPlace},d6w P vars=true->DataW.TrodVars enc P W (fun _=>true) vars gs ps->(∀x∈ps,x.block<W.heap.size)->
 DataW.TrodVars enc P W' (fun b=>decide (b<W.heap.size)) vars gs ps
 |[],[],_,_,h,_=>h
 |[],_::_,_,_,h,_=>h.elim
 |_::_,[],_,_,h,_=>h.elim
 |n::ns,d::ds,ps,hr,h,hlt=>by
  obtain⟨g,t,cs,fuel,p,q,h1,h2,h3,h4,h5,rfl⟩:=h;simp only[d6w,List.all_cons,Zy]at hr;have hr1:=hr.1;rw[h1]at hr1;simp only[h2,Zy,decide_eq_true_eq]at hr1;obtain⟨f2,h6⟩:=Below.trod (v:= .agg cs) hl hr1.1 hr1.2 ⟨fuel,h4⟩ hB fun x hx=>hlt x (ZU _ (Yc _ hx))
  refine⟨g,t,cs,f2,p,q,h1,h2,?_,h6,a7u hl hB hr.2 h5 fun x hx=>hlt x (Yc _ hx),rfl⟩;have hg:=e6e h1 h3;unfold World.var? at h3|-;rw[h1,Zl]at h3|-;rw[hB.block g hg];exact h3
theorem e5o{f:Func}{s:ChangeSpec}{apart fresh:Bool}{args:Array Value}{ds gs:List (DataW H)}{before:List MemPlace}{tb:TypeId}(hl:laidOutB P=true)
 (hr:∀t∈f.params.toList,P.readableRec t=true/\t<P.types.size) (hv:d6w P s.vars=true) (hW:DataW.Whole enc P f.params.toList s.vars apart W args.toList ds gs before) (hB:Below W.heap.size W W')
 (hres:f.resultTypes= #[tb]) (hb:P.underlying tb=some .bool) (h1:(s.fn H (ds++gs)).results=[.lit (.bool true)]) (h2:(s.fn H (ds++gs)).args=ds) (h3:(s.fn H (ds++gs)).vars=gs):
 s.post enc P f apart fresh false false W args (.bool true) W':=by
 have hW0:=hW;obtain⟨p,q,hA,hV,rfl,hz,hn⟩:=hW;refine⟨ds,gs,p++q,[],p,q,hW0,?_,?_,?_,hB.frame _,fun h=>by cases h⟩
 ·rw[h1,hres]
  exact trodAll_mk1 (shut_bool hb _)
 ·rw[h2]
  exact b0k hl hB hr hA fun x hx=>hW0.lt x (ZU _ hx)
 ·rw[h3]
  exact a7u hl hB hv hV fun x hx=>hW0.lt x (Yc _ hx)
theorem d9x{n:String}{gs:List (DataW H)}{ps:List MemPlace}(h:DataW.TrodVars enc P W (fun _=>true) [n] gs ps):∃d,gs=[d]:=by
 match gs,h with
 |[],h=>exact h.elim
 |[d],_=>exact⟨d,rfl⟩
 |d::e::r,h=>obtain⟨_,_,_,_,_,_,_,_,_,_,h,_⟩:=h;exact h.elim
end
/-! ### a world that holds what is listed, a map among it -/
def f4b:Obj:= .map ⟨goneS.zipIdx.map fun e=>⟨.string (bA e.1.1),.agg #[.bool e.1.2.1,.bool e.1.2.2],e.2⟩⟩ 10
noncomputable def d0t(P:Program)(os:Os)(gG:Nat):World:=
 {World.holding P os ⟨#[f4b],#[],[]⟩with heap:=⟨Lay.setRows (World.holding P os ⟨#[f4b],#[],[]⟩).heap.toList [(gG,[.map (some (XQ P os).heap.size)])]⟩}
noncomputable def b0c(P:Program)(os:Os)(gG:Nat)(l:List (String×DataW Unit)):World:=(d0t P os gG).layVars P l
theorem f1b(P:Program)(os:Os)(gG:Nat)(l:List (String×DataW Unit)):(b0c P os gG l).os=os:=World.layVars_os _ _ _
theorem c7w{P:Program}{os:Os}{gG:Nat}{laid:List (String×DataW Unit)}(args:Array Value)(great:List String)(fuel:Nat)
 (hf:(d0t P os gG).layFits P (laid.filter fun x=>great.contains x.1) [gG,(XQ P os).heap.size]=true)
 (hi:(d0t P os gG).layIfaces P (laid.filter fun x=>great.contains x.1) (b0c P os gG (laid.filter fun x=>great.contains x.1))=true)
 (h1:(DataW.laidRun P (b0c P os gG (laid.filter fun x=>great.contains x.1)) fuel ((laid.filter fun x=> !great.contains x.1).map (·.1))).map (·.1)=some (laid.filter fun x=> !great.contains x.1))
 (h2:(DataW.laidRun P (b0c P os gG (laid.filter fun x=>great.contains x.1)) fuel ((laid.filter fun x=> !great.contains x.1).map (·.1))).map (fun x=>Go.nodupB (x.2.map MemPlace.codeOf))=some true)
 (h3:(DataW.laidRun P (b0c P os gG (laid.filter fun x=>great.contains x.1)) fuel ((laid.filter fun x=> !great.contains x.1).map (·.1))).map (fun x=>laidRowsB P (b0c P os gG (laid.filter fun x=>great.contains x.1)) x.2)=some true)
 (h4:(DataW.laidRun P (b0c P os gG (laid.filter fun x=>great.contains x.1)) fuel ((laid.filter fun x=> !great.contains x.1).map (·.1))).map (fun x=>x.2.all fun p=>[gG,(XQ P os).heap.size].contains p.block)=some true):
 laidMet P laid ((b0c P os gG (laid.filter fun x=>great.contains x.1)).forCall (fun _ _=>0) ⟨#[],args,[]⟩).memory:=by
 have h:laidMet P laid (b0c P os gG (laid.filter fun x=>great.contains x.1)):=laidMet_layVars (w0:=d0t P os gG) great [gG,(XQ P os).heap.size] rfl hf hi (LaidIn.of_run _ fuel h1 h2 h3 h4);exact h.of_heap (by simp[World.memory,World.forCall,Input.heap])
end Go.Mv
end
section
/- Functions of the library: that they keep the contracts which the abstract machine asks of them. -/
open Go Go.Mv Go.Proofs Go.Shelf Go.RowKit Go.Lib
namespace Go.Mv
theorem b7h(xs:List Int):(xs.mergeSort fun x y=>decide (x<=y))=T3 xs:=by
 refine List.Perm.eq_of_pairwise (le:=(·<= ·)) (fun a b _ _ h1 h2=>by omega) ?_ (a0u xs) ((List.mergeSort_perm _ _).trans (T5 xs).symm);have:=List.pairwise_mergeSort (le:=fun x y:Int=>decide (x<=y)) (fun a b c h1 h2=>by simp at*;omega) (fun a b=>by simp;omega) xs;simpa using this
end Go.Mv
namespace Go.Proofs
variable{P:Program}{ρ:Ren}
set_option maxHeartbeats 2000000 in
set_option maxRecDepth 100000 in
theorem d5x(L:SlLaysE0.n41 P ρ)(z23:∀w,(Go.sizeOf (ρ.t 23)).run P w= .ok 1 w)(a:Addr)(c:Nat)(w:World):
 Calls P (ρ.f 41) #[.slice (some a) 0 c] w fun e w'=>e= .returned (.slice (some ⟨w.heap.size,0,none⟩) 0 0)/\w'=w.alloc (.cells #[] (ρ.t 23)):=by
 have mixed:=L.mixed;have t4:=L.t4;have a4:=L.a4;have z4:=L.z4;have v4:=L.v4;have t22:=L.t22;have a22:=L.a22;have z22:=L.z22;have v22:=L.v22;have q22:∀(w:World) (a:Option Addr) (n c n' c':Nat),(binOp .eql (ρ.t 22) (.slice a n c) (.slice none n' c')).run P w= .ok (.bool a.isNone) w:=fun w a n c n' c'=>Lib.run_eql_slice_nil w _ _ a n c n' c' L.t22
 have u22:∀w,Sem.run P (underlying (ρ.t 22)) w= .ok (TypeDesc.slice (ρ.t 23)) w:=run_underlying t22;obtain⟨_,_,FG⟩:=L.f41
 go_enter FG,SlBodyN.n41_ntmps ρ
 go_wp2
 go_ret
 exact⟨rfl,rfl⟩
theorem e3t(L:SlLaysE0.n41 P ρ)(i0:TypeInfo)(z:Value)(hi:P.info? (ρ.t 23)=some i0)(hz0:i0.zero=some z)(hz1:i0.size=1)(hz2:i0.bytes=8)(hzs:z.cells.size=1)
 (z23:∀w,(Go.sizeOf (ρ.t 23)).run P w= .ok 1 w) (w:World) (a:Option Addr) (n c:Nat) (news:List Value) (hl:news.length=n) (hn:n<=H0)
 (hc:n≠0->∃b o,a=some ⟨b,o,none⟩/\∀(j:Nat) u,news[j]? =some u->w.cell? ⟨b,o+j,none⟩=some u) (h1:∀u∈news,∃x,u=Value.int .i64 x):
 Calls P (ρ.f 41) #[.slice a n c] w fun e w'=>∃v',e= .returned v'/\w'.ownsRow w.heap.size (ρ.t 23) 1 v' n news/\Below w.heap.size w w':=by
 simp only[H0]at hn;cases a with
 |none=>
  have h0:n=0:=Classical.byContradiction fun h=>by obtain⟨_,_,h2,_⟩:=hc h;cases h2
  subst h0;refine(AnyE.slices_Clone_nil L 0 c w).mono ?_;rintro e w' ⟨rfl,rfl⟩;exact⟨_,rfl,⟨by simpa using hl,.inl ⟨rfl,rfl⟩⟩,.refl _ _⟩
 |some a=>
  by_cases h0:n=0
  ·subst h0
   refine(d5x L z23 a c w).mono ?_;rintro e w' ⟨rfl,rfl⟩;refine⟨_,rfl,⟨by simpa using hl,.inr ⟨w.heap.size,0,#[],rfl,Zd _,heap_alloc_new w _,Zd _,by simp[maxLen],rfl,?_⟩⟩,(Below.refl _ _).alloc (Zd _) _⟩;have:news=[]:=List.length_eq_zero_iff.1 hl;subst this
   rfl
  ·obtain⟨b,o,he,hcl⟩:=hc h0
   cases he;refine(AnyE.slices_Clone L i0 z 1 8 hi hz0 hz1 hz2 hzs (by decide) z23 b o n c news w (by omega) (by simp[maxLen];omega) (by omega) hcl (fun u hu=>by obtain⟨x,rfl⟩:=h1 u hu;rfl)).mono ?_;rintro e w' ⟨v',rfl,hown,_,hB⟩;exact⟨v',rfl,hown,hB⟩
theorem e0k:∀{es:List AV} {xs:List Int},unI es=some xs->es=xs.map iV
 |[],xs,h=>by cases h;rfl
 | .val (.int .i64 n)::r,xs,h=>by
   simp only[unI,Zh]at h;obtain⟨ys,h1,rfl⟩:=h;rw[e0k h1]
   rfl
theorem d1b{Γ:Env}(hmo:¬Γ.mo)(f:Nat)(md:Nat->Nat)(L:SlLaysE0.n41 P ρ)(i0:TypeInfo)(z:Value)(hi:P.info? (ρ.t 23)=some i0)(hz0:i0.zero=some z)(hz1:i0.size=1)(hz2:i0.bytes=8)(hzs:z.cells.size=1)
 (z23:∀w,(Go.sizeOf (ρ.t 23)).run P w= .ok 1 w) (hf:ρ.f 41=f) {args:List AV} {res:AV} {outs:List (List AV)} (h:b2w args=some (res,outs)):Contract Γ P md f args res outs:=by
 unfold b2w at h;split at h
 ·rename_i es
  split at h
  ·rename_i hl
   simp only[Zh,Zk]at h;obtain⟨xs,h1,rfl,rfl⟩:=h;have:=e0k h1;subst this;subst hf;exact c0k hmo xs (by simpa using hl) (fun w a n c news=>e3t L i0 z hi hz0 hz1 hz2 hzs z23 w a n c news)
  ·cases h
 ·cases h
theorem d2b{Γ:Env}(f:Nat)(md:Nat->Nat)(L:SlLaysM.n5 P ρ)(hf:ρ.f 5=f)(hmd:md 0=1){args:List AV}{res:AV}{outs:List (List AV)}(h:b7v args=some (res,outs)):Contract Γ P md f args res outs:=by
 unfold b7v at h;split at h
 ·rename_i es
  split at h
  ·rename_i hl
   simp only[Zh,Zk]at h;obtain⟨xs,h1,rfl,rfl⟩:=h;have:=e0k h1;subst this;subst hf;refine c4n xs (T3 xs) (by simpa using hl) (by simp) hmd (fun w a c=>AnyM.slices_Sort_int_none L a c w) (fun w b o c hH hb hx=> ?_);have:=AnyM.slices_Sort_int L b o c xs w hH hb (by simp only[H0]at hx;omega);rwa[b7h]at this
  ·cases h
 ·cases h
end Go.Proofs
namespace Go.Proofs
theorem e5h{tb:List (Nat×(List AV->Option (AV×List (List AV))))}{f:Nat}{F:List AV->Option (AV×List (List AV))}(h:e2w tb f=some F):(f,F)∈tb:=by
 unfold e2w at h;split at h
 ·rename_i x hx
  cases h;have h1:=List.mem_of_find?_eq_some hx;have h2:(x.1==f)=true:=by simpa using List.find?_some hx
  rw[<-eq_of_beq h2];exact h1
 ·cases h
def f4h(i:TypeInfo):Bool:=i.size==1&&i.bytes==8&&(match i.zero with|some (.int .i64 0)=>true|_=>false)
theorem e7z{P:Program}{T:Nat}(h:(match P.info? T with|some i=>f4h i|none=>false)=true):
 ∃i0 z,P.info? T=some i0/\i0.zero=some z/\i0.size=1/\i0.bytes=8/\z.cells.size=1:=by
 split at h
 ·rename_i i hi
  simp only[f4h,Zy,beq_iff_eq]at h;obtain⟨⟨h1,h2⟩,h3⟩:=h;split at h3
  ·rename_i hz
   exact⟨i,_,hi,hz,h1,h2,rfl⟩
  ·cases h3
 ·cases h
theorem R8{P:Program}{f:Nat}{fn:Func}(h:P.funcs[f]? =some fn)(h1:(fn.name== "runtime.NumGoroutine")=false)(h2:fn.body.isNone=false):Mv.Enters P f:=⟨fn,h,h1,h2⟩
end Go.Proofs
end
section
/- strings.Cut, and what a desk needs of strings.Builder and of a line's call: that they keep the contracts which the abstract machine asks of them. -/
open Go Go.Mv Go.Proofs Go.Shelf Go.RowKit
namespace Go.Mv
theorem f1k(c b:UInt8)(l:W8):kdC c (b::l)=if b=c then[]else b::kdC c l:=by
 unfold kdC;rw[List.takeWhile_cons];by_cases h:b=c<;>simp[h]
theorem d5z(c:UInt8):∀l:W8,Go.Lib.index l [c]=if(kdC c l).length<l.length then((kdC c l).length:Int)else-1
 |[]=>rfl
 |b::l=>by
  have ih:=d5z c l;rw[f1k];unfold Go.Lib.index;by_cases h:b=c
  ·subst h;simp
  ·have h2:([c].isPrefixOf (b::l))=false:=by simp[Xq,Ne.symm h]
   have h3:=d8p c l;rw[h2,ih,if_neg h];simp only[ZZ,if_false,Ze];by_cases h4:(kdC c l).length<l.length
   ·have h5:(((kdC c l).length:Int)== -1)=false:=by rw[beq_eq_false_iff_ne];omega
    rw[if_pos h4,h5,if_pos (Nat.succ_lt_succ h4)];rfl
   ·rw[if_neg h4,if_pos (show((-1:Int)== -1)=true from rfl),if_neg (by omega)]
theorem f1s(c:UInt8)(l:W8):kdC c l=l.take (kdC c l).length:=by
 have h:kdC c l<+:l:=List.takeWhile_prefix _;exact List.prefix_iff_eq_take.1 h
theorem f5v(c:UInt8)(l:W8):Go.Lib.cut l [c]=(kdC c l,rsC c l,decide ((kdC c l).length<l.length)):=by
 have h0:=f1s c l;have h1:=d8p c l;unfold Go.Lib.cut rsC;rw[d5z];by_cases h:(kdC c l).length<l.length
 ·rw[if_pos h,if_pos (Int.natCast_nonneg _),Int.toNat_natCast,<-h0,decide_eq_true h];rfl
 ·rw[if_neg h,if_neg (by decide),decide_eq_false h,List.drop_eq_nil_of_le (by omega)]
  rw[ZB (by omega)]at h0;rw[h0]
variable{P:Program}{ρ:Ren}
theorem e8s{D:Nat->Prop}{w:World}{a b c:AV}{x y z:Value}(h1:Z4 a=true/\RV w D a x)(h2:Z4 b=true/\RV w D b y)(h3:Z4 c=true/\RV w D c z):AllRes Fl.emp D w (.tup [a,b,c]) (.tuple #[x,y,z]):=by
 refine .inl ⟨_,_,rfl,rfl,rfl,fun k l hl=> .inr (.inr (.inr ?_))⟩
 match k,hl with
 |0,hl=>cases hl;exact h1
 |1,hl=>cases hl;exact h2
 |2,hl=>cases hl;exact h3
theorem e0a{Γ:Env}(hmo:¬Γ.mo){f:Nat}{md:Nat->Nat}(L:Lays.n145 P ρ)(hf:ρ.f 145=f)(hg:∀w,Γ.G w->∃m,w.cell? ⟨ρ.g 1,0,none⟩=some (.int .i64 m)){args:List AV}{res:AV}{outs:List (List AV)}(h:d7a args=some (res,outs)):Contract Γ P md f args res outs:=by
 unfold d7a at h;split at h
 ·rename_i s c
  obtain⟨b,hb,h2⟩:=Za.1 h;split at h2
  ·rename_i hs
   cases h2;have hc:=one?_some hb;subst hc;subst hf;exact S0 hmo [.string s,.string (bA [b])] _ rfl fun w hw=>by
    obtain⟨m,hm⟩:=hg w hw;refine(Any.strings_Cut L s (bA [b]) m w hs hm).mono ?_;rintro e w' ⟨he,n,rfl⟩;refine⟨_,he,fun D=> ?_,⟨rfl,rfl,rfl,Zd _,fun _ _=>rfl⟩⟩;rw[show(bA [b]).data.toList=[b]from rfl,f5v];exact e8s ⟨rfl,.val _⟩ ⟨rfl,.val _⟩ ⟨rfl,.val _⟩
  ·cases h2
 ·cases h
end Go.Mv
namespace Go.Mv
section
variable{P:Program}{Γ:Env}
def b0y(l:W8)(E:AV):St
 | .t i=>match i with
   |0=>tV l
   |1=> .ptr 1 1 none 0 0
   |_=> .undef
 | .h i=>if i=1 then .obj 1 4 0 [E]else .undef
theorem d0c(md:Nat->Nat)(l:W8)(E:AV):initLoc md [tV l,.ownp [E] 0 0]=b0y l E:=by
 funext k
 cases k with
 |t i=>
  match i with
  |0=>rfl
  |1=>rfl
  |i+2=>rfl
 |h i=>
  unfold b0y;simp only;by_cases h1:i=1
  ·subst h1;rfl
  ·rw[if_neg h1]
   unfold initLoc;simp only;split
   ·match i,h1 with
    |0,_=>rfl
    |i+2,_=>rfl
   ·generalize i%100000=j
    match j with
    |0=>rfl
    |1=>rfl
    |j+2=>rfl
/-- the books of a desk: four lists in a block of their own -/
def Books(D:Nat->Prop)(a:Nat)(cols:List (List Int))(w:World):Prop:=
 (∃(cs:Array Value) (T:TypeId),w.heap[a]? =some (.cells cs T (0,0))/\cs.size=4/\∀(j:Nat) (c:List Int),cols[j]? =some c->∃v,cs[j]? =some v/\RV w D (lF c) v)/\¬D a/\∀b,D b->b<w.heap.size/\∃c e,w.heap[b]? =some (.cells c e (0,0))
theorem Books.keep{D:Nat->Prop}{a:Nat}{cols:List (List Int)}{w w':World}(h:Books D a cols w)(hs:w.heap.size<=w'.heap.size)(ha:w'.heap[a]? =w.heap[a]?)(hD:∀b,D b->w'.heap[b]? =w.heap[b]?):Books D a cols w':=by
 obtain⟨⟨cs,T,h1,h2,h3⟩,h4,h5⟩:=h;refine⟨⟨cs,T,by rw[ha];exact h1,h2,fun j c hj=> ?_⟩,h4,fun b hb=> ?_⟩
 ·obtain⟨v,hv,hr⟩:=h3 j c hj
  exact⟨v,hv,hr.mono (fun b hb _=>⟨hD b hb,hb⟩) hs⟩
 ·obtain⟨h6,h7⟩:=h5 b hb
  exact⟨by omega,by rw[hD b hb];exact h7⟩
theorem d7i{f:Nat}{md:Nat->Nat}{l s:W8}{c0 c1 c2 c3 d0 d1 d2 d3:List Int}(hC:Contract Γ P md f [tV l,.ownp [.agg [lF c0,lF c1,lF c2,lF c3]] 0 0] (tV s) [[.agg [lF d0,lF d1,lF d2,lF d3]]])
 {w:World} {a:Nat} {D:Nat->Prop} (hB:Books D a [c0,c1,c2,c3] w) (hG:Γ.G w) (hgb:∀b,Γ.gb b->b≠a/\b<w.heap.size):
 Calls P f #[.string (bA l),.pointer (some ⟨a,0,none⟩)] w fun e w'=>e= .returned (.string (bA s))/\∃D',Books D' a [d0,d1,d2,d3] w'/\(∀b,D' b->D b\/w.heap.size<=b)/\w'.os=w.os/\w'.tape=w.tape/\w'.output=w.output/\w.heap.size<=w'.heap.size/\∀k,k<w.heap.size->k≠a->w'.heap[k]? =w.heap[k]? :=by
 obtain⟨⟨cs,T,hcell,hcs,hrv⟩,hDa,hDc⟩:=hB;have hal:a<w.heap.size:=(ZC.1 hcell).1;have hini:=d0c md l (.agg [lF c0,lF c1,lF c2,lF c3]);have hobj:∀id g m s es,b0y l (.agg [lF c0,lF c1,lF c2,lF c3]) (.h id)= .obj g m s es->id=1/\g=1/\m=4/\s=0/\es=[.agg [lF c0,lF c1,lF c2,lF c3]]:=by
  intro id g m s es h;unfold b0y at h;simp only at h;split at h
  ·cases h;exact⟨by assumption,rfl,rfl,rfl,rfl⟩
  ·cases h
 have hleaf:∀i j x,leafAt [.agg [lF c0,lF c1,lF c2,lF c3]] i j=some x->i=0/\∃c,[c0,c1,c2,c3][j]? =some c/\x=lF c:=by
  intro i j x h;unfold leafAt at h;rcases i with _|i
  ·match j,h with
   |0,h=>cases h;exact⟨rfl,c0,rfl,rfl⟩
   |1,h=>cases h;exact⟨rfl,c1,rfl,rfl⟩
   |2,h=>cases h;exact⟨rfl,c2,rfl,rfl⟩
   |3,h=>cases h;exact⟨rfl,c3,rfl,rfl⟩
  ·simp at h
 have hlive:∀k,live (b0y l (.agg [lF c0,lF c1,lF c2,lF c3])) Fl.emp k->k= .nd 1 none:=by
  intro k hl;cases k with
  |nd i p=>
   obtain⟨g,m,s,es,h1,h2,h3⟩:=hl;obtain⟨rfl,rfl,rfl,rfl,rfl⟩:=hobj _ _ _ _ _ h1;cases p with
   |none=>rfl
   |some q=>
    obtain⟨s',es',h4⟩:=h3 q rfl;obtain⟨_,c,_,e⟩:=hleaf _ _ _ h4;cases e
  |fl k p=>obtain⟨f,h1,_⟩:=hl;cases h1
 let ν:Nu:=fun id p=>if id=1/\p=none then some (a,0)else none
 have hν:ν 1 none=some (a,0):=rfl;have hTB:∀b,TB (b0y l (.agg [lF c0,lF c1,lF c2,lF c3])) ν Fl.emp b->b=a:=by
  rintro b ⟨k,o,h1,h2⟩;rw[hlive k h1]at h2;have h3:some (a,0)=some (b,o):=h2;cases h3;rfl
 have R:Rel Γ w (fun b=>D b\/b=a) (fun b=>b=a) ν 2 Fl.emp D (b0y l (.agg [lF c0,lF c1,lF c2,lF c3])) ν #[.string (bA l),.pointer (some ⟨a,0,none⟩)] w:=by
  refine⟨rfl,fun i hi=> ?_,fun i hi=> ?_,fun id g m s es h1=> ?_,fun id g s es h1=> ?_,fun k f h1=> ?_,fun k1 k2 b o1 o2 h1 h2 _ _=>by rw[hlive k1 h1,hlive k2 h2],fun b hb ht=>hDa (hTB b ht▸hb),fun b hb=> .inl (.inl hb),fun b hb=>⟨(hDc b hb).1,fun _=>(hDc b hb).2⟩,
   fun b hb=> .inl (hTB b hb),Zd _,rfl,rfl,rfl,fun _=>Zd _,fun b _ _=>rfl,fun b _=>rfl,fun id g m s es h1 _=>rfl,fun b hb=>hgb b hb,hG⟩
  ·match i,hi with
   |0,_=>exact .data _ _ (.val _)
   |1,_=>exact .ptr 1 1 none 0 0 _ ⟨_,_,rfl⟩ (Zd _) (fun _ _ _ _ _ _ h=>by cases h) fun m s es hn=>⟨a,0,hν,by simp⟩
  ·match i,hi with
   |i+2,_=>rfl
  ·obtain⟨rfl,rfl,rfl,rfl,rfl⟩:=hobj _ _ _ _ _ h1
   refine⟨⟨cs,T,hcell,by simp,fun h=>(h (.inr rfl)).elim,fun _=>Zd _,fun i j x hx=> ?_⟩,fun i j s' es' hx=> ?_⟩
   ·obtain⟨rfl,c,hc,rfl⟩:=hleaf _ _ _ hx
    obtain⟨v,hv,hr⟩:=hrv j c hc;exact⟨v,by simpa using hv,RS.data _ _ hr⟩
   ·obtain⟨_,c,_,e⟩:=hleaf _ _ _ hx
    cases e
  ·obtain⟨_,_,h,_⟩:=hobj _ _ _ _ _ h1
   cases h
  ·cases h1
 rw[<-hini]at R;refine(hC w _ _ ν D _ (fun b hb=> .inr hb) R (fun x hx=> ?_)).mono ?_
 ·rcases ZM.1 hx with rfl|hx
  ·exact⟨_,.val _⟩
  ·rw[List.mem_singleton.1 hx];exact rfl
 ·rintro e w' ⟨v,rfl,F',D',st',ν',R',ho,hres,hflo⟩
  have hv:v= .string (bA s):=by
   rcases hres with⟨vs,cs,h,_⟩|⟨fs,cs,h,_⟩|⟨es,j,φ,b,o,h,_⟩|⟨s',es,φ,h,_⟩|⟨_,h⟩
   ·cases h
   ·cases h
   ·cases h
   ·cases h
   ·cases h;rfl
  subst hv;have ho':outsOf st' [(1,4,0)]=some [[.agg [lF d0,lF d1,lF d2,lF d3]]]:=ho;have hst:st' (.h 1)= .obj 1 4 0 [.agg [lF d0,lF d1,lF d2,lF d3]]:=by
   simp only[outsOf]at ho';split at ho'
   ·rename_i g' m' s' es hs
    split at ho'
    ·rename_i h
     obtain⟨rfl,rfl,rfl,_⟩:=h;simp only[ZA,Zb,List.cons.injEq,and_true]at ho';rw[hs,ho']
    ·cases ho'
   ·cases ho'
  have hν':ν' 1 none=some (a,0):=by rw[R'.io 1 1 4 0 _ hst (.inr rfl)];exact hν
  have htop:=(R'.objs 1 1 4 0 _ hst).top;unfold RN at htop;rw[hν']at htop;obtain⟨c,ety,hc,_,_,_,hl⟩:=htop;have hsz:c.size=4:=by
   have:=R'.cs a hal;unfold csize at this;rw[hc,hcell]at this;exact this.trans hcs
  have hDa':¬D' a:=fun h=>R'.dT a h ⟨.nd 1 none,0,⟨1,4,0,_,hst,by decide,fun q h=>by cases h⟩,hν'⟩
  have hDs:∀b,D' b->D b\/w.heap.size<=b:=fun b hb=>by
   rcases R'.dA b hb with(h|h)|h
   ·exact .inl h
   ·exact absurd (h▸hb) hDa'
   ·exact .inr h
  refine⟨rfl,D',⟨⟨c,ety,hc,hsz,fun j x hj=> ?_⟩,hDa',fun b hb=>⟨(R'.dlt b hb).1,?_⟩⟩,hDs,R'.os,R'.tape,R'.output,R'.le,fun k hk hka=>R'.fr k hk hka⟩
  ·have hlf:leafAt [.agg [lF d0,lF d1,lF d2,lF d3]] 0 j=some (lF x):=by
    match j,hj with
    |0,hj=>cases hj;rfl
    |1,hj=>cases hj;rfl
    |2,hj=>cases hj;rfl
    |3,hj=>cases hj;rfl
   obtain⟨v,hv,hr⟩:=hl 0 j _ hlf;exact⟨v,by simpa using hv,RS.list_inv hr⟩
  ·rcases hDs b hb with h|h
   ·rw[R'.fr b (hDc b h).1 (fun e=>hDa (e▸h))];exact(hDc b h).2
   ·exact(R'.dlt b hb).2 (.inl h)
end
end Go.Mv
namespace Go.Mv
theorem c2z{P:Program}{Γ:Env}(hmo:¬Γ.mo){f:Nat}{md:Nat->Nat}(ls:List W8)(s:W8)(h:∀(w:World) (a:Option Addr) (cap:Nat),(ls≠[]->∃bk o,a=some ⟨bk,o,none⟩/\bk<w.heap.size/\∀(j:Nat) (l:W8),ls[j]? =some l->w.cell? ⟨bk,o+j,none⟩=some (.string (bA l)))->
 Γ.G w->(∀b,Γ.gb b->b<w.heap.size)->Calls P f #[.slice a ls.length cap] w fun e w'=>e= .returned (.string (bA s))/\Below w.heap.size w w'):Contract Γ P md f [.list (ls.map tV)] (tV s) []:=by
 intro w A O0 ν0 D vals hOA R hA;have h0:=R.slots 0 (by simp);have hsz:vals.size=1:=by simpa using R.size
 obtain⟨v,rfl⟩:∃v,vals= #[v]:=by
  match vals,hsz with
  |⟨[v]⟩,_=>exact⟨v,rfl⟩
 have hv:RV w D (.list (ls.map tV)) v:=RS.list_inv h0;have R0:=R.noSlots;have hgi:=R.gi;have hgO:=R.gO;generalize hes:ls.map tV=es at hv;cases hv with
 |list _ a cap bk o s' cc hcap ha hs hcl hlf=>
  subst hes;rw[Zi];refine(h w a cap (fun hne=> ?_) hgi fun b hb=>(hgO b hb).2).mono ?_
  ·obtain⟨p,r,rfl⟩:=List.exists_cons_of_ne_nil hne
   obtain⟨e,_,hbk⟩:=ha (by simp);have hs1:s'=1:=(hs (tV p) (by simp)).symm;subst hs1;refine⟨bk,o,e,hbk,fun j l hj=> ?_⟩;have hlf1:leafAt ((p::r).map tV) j 0=some (tV l):=by
    unfold leafAt;rw[ZE,hj];rfl
   have h1:=hcl j 0 _ hlf1;have h2:=hlf j 0 _ hlf1;generalize cc j 0=x at h1 h2;cases h2;rw[Nat.mul_one,Nat.add_zero]at h1;exact h1
  ·rintro e w' ⟨rfl,hB⟩
   exact⟨_,rfl,_,_,_,ν0,R0.stay (a0c (fun h=>(hmo h).elim) hB (bt:=w.heap.size)) (Zd _),rfl,b0q,fun κ f hf=>by cases hf⟩
theorem d5n{P:Program}{Γ:Env}{f:Nat}{md:Nat->Nat}(h:∀ls:List W8,ls.length<=1048576->(∀l∈ls,l.length<=1048576)->Contract Γ P md f [.list (ls.map tV)] (tV (deskT ls)) []){args:List AV}{res:AV}{outs:List (List AV)}(hx:c7x args=some (res,outs)):Contract Γ P md f args res outs:=by
 unfold c7x at hx;split at hx
 ·obtain⟨ls,hp,h3⟩:=Za.1 hx
  split at h3
  ·rename_i hl
   cases h3;have:=d6y hp;subst this;exact h ls hl.1 hl.2
  ·cases h3
 ·cases hx
end Go.Mv
namespace Go.Proofs
open Go.Lib
variable{P:Program}{ρ:Ren}
/-- a builder, with the slice that is its buffer named -/
def a2h(T e:TypeId)(B b:Nat)(v:Value)(bs:List Value)(w:World):Prop:=
 B<=b/\(∃p,w.heap[b]? =some (.cells #[p,v] T (0,0))/\(p= .pointer none\/p= .pointer (some ⟨b,0,none⟩)))/\w.ownsRowF B e 1 v bs.length bs/\v.ownBlock≠some b
theorem a2h.isF{T e:TypeId}{B b:Nat}{v:Value}{bs:List Value}{w:World}(h:a2h T e B b v bs w):Lib.IsBuilderF T e B b bs w:=by
 obtain⟨h1,⟨p,h2,rfl|rfl⟩,h3,h4⟩:=h
 ·exact .inl ⟨h1,v,h2,h3,h4⟩
 ·exact .inr ⟨h1,v,h2,h3,h4⟩
/-- the builder and its buffer are left alone -/
theorem a2h.keep{T e:TypeId}{B b:Nat}{v:Value}{bs:List Value}{w w':World}(h:a2h T e B b v bs w)(hb:w'.heap[b]? =w.heap[b]?)(hv:∀k,v.ownBlock=some k->w'.heap[k]? =w.heap[k]?):a2h T e B b v bs w':=by
 obtain⟨h1,h2,h3,h4⟩:=h;refine⟨h1,by rw[hb];exact h2,⟨h3.1,?_⟩,h4⟩;rcases h3.2 with hn|⟨g,cap,cur,fz,rfl,hbg,hg,rest⟩
 ·exact .inl hn
 ·exact .inr ⟨g,cap,cur,fz,rfl,hbg,by rw[hv g rfl];exact hg,rest⟩
/-- what lies in all blocks but these two is kept -/
def e9v(b:Nat)(v:Value)(w w':World):Prop:=∀k,k<w.heap.size->k≠b->v.ownBlock≠some k->w'.heap[k]? =w.heap[k]?
theorem c7r(w:World)(base:Nat)(t u ty e:TypeId)(i:TypeInfo)(ht:P.underlying t=some (.slice e))(hu:P.underlying u=some .string)(hi:P.info? e=some i)(hz:i.zero=some (.int .u8 0))(hsize:i.size=1)(hby:i.bytes=1)
 (v:Value) (n:Nat) (xs:List Value) (hown:w.ownsRowF base e 1 v n xs) (s:ByteArray) (h63:n+s.size<=maxLen) (hbytes:n+s.size<=140737488355328) (hbase:base<=w.heap.size) {v':Value} {w':World} (hr:(Builtin.append_ #[t,u] ty #[v,.string s]).run P w= .ok v' w'):
 v'.ownBlock=v.ownBlock\/∀k,v'.ownBlock=some k->w.heap.size<=k:=by
 rcases hown.2 with⟨rfl,rfl⟩|⟨g,cap,cur,fz,rfl,hbg,hg,hfz,hnc,hcm,hcs,htake⟩
 ·obtain⟨v2,w2,h1,h2,_⟩:=Lib.run_append_own_string (P:=P) w w.heap.size t u ty e i ht hu hi hz hsize hby (.slice none 0 0) 0 xs ⟨hown.1,.inl ⟨rfl,rfl⟩⟩ s h63 hbytes (Zd _)
  rw[hr]at h1;cases h1;exact .inr fun k hk=>(h2.lt k hk).1
 ·have hxl:xs.length=n:=by simpa using hown.1
  by_cases hroom:n+s.size<=cap
  ·have hcs':cur.size=cap:=by simpa using hcs
   have h1:=Lib.run_append_room_stringF (P:=P) w t u ty e i ht hu hi hsize g n cap cur fz hg (by simpa using hfz) s hroom (by omega);rw[hr]at h1;cases h1;exact .inl rfl
  ·have holds:∀j u,xs[j]? =some u->w.cell? ((⟨g,0,none⟩:Addr).add j)=some u:=hown.cells (g:=g) rfl
   have h1:=Lib.run_append_grow_string (P:=P) w t u ty e i (.int .u8 0) ht hu hi hz ⟨g,0,none⟩ n cap xs (by rw[hsize];simpa using hxl) holds s (by omega) (by simp only[maxLen]at h63;omega) (by rw[hby];exact growslice_fits (by omega) (by omega));rw[hr]at h1;cases h1;exact .inr fun k hk=>by simp only[Value.ownBlock,Zb]at hk;omega
/-- the operation, for a walk -/
theorem a9z(w:World){ops:Array Oper}{rest:List Oper}{o:Oper}{a:Act}{Q:Exit->Act->World->Prop}(hgd:o.guard=none)(sl x:Operand)(t u:TypeId)(ho:o.op= .call {callee:= .builtin .append,args:= #[sl,x],argTypes:= #[t,u]})
 (base:Nat) (e:TypeId) (i:TypeInfo) (ht:P.underlying t=some (.slice e)) (hu:P.underlying u=some .string) (hi:P.info? e=some i) (hz:i.zero=some (.int .u8 0)) (hsize:i.size=1) (hby:i.bytes=1)
 (v:Value) (n:Nat) (xs:List Value) (hs:a.eval sl=v) (hown:w.ownsRowF base e 1 v n xs) (s:ByteArray) (hx:a.eval x= .string s) (h63:n+s.size<=maxLen) (hbytes:n+s.size<=140737488355328) (hbase:base<=w.heap.size)
 (h:∀v' w',w'.ownsRowF base e 1 v' (n+s.size) (xs++strCells s)->w.grownBy w' v.ownBlock->(v'.ownBlock=v.ownBlock\/∀k,v'.ownBlock=some k->w.heap.size<=k)->wpList P ops Q rest (a.put o.dst v') w'):wpList P ops Q (o::rest) a w:=by
 refine wpList_plain hgd fun K hK=> ?_
 obtain⟨v',w',hr,h2,h3,_⟩:=Lib.run_append_own_stringF (P:=P) w base t u o.type e i ht hu hi hz hsize hby v n xs hown s h63 hbytes hbase;have h4:=c7r w base t u o.type e i ht hu hi hz hsize hby v n xs hown s h63 hbytes hbase hr;unfold Oper.wp execOp;simp only[ho,resolve,invoke,builtin,Sem.run_bind,Sem.run_pure,Result.andThen_ok,List.map_toArray,Zz,Ya,hs,hx,hr];exact hK _ _ (h v' w' h2 h3 h4)
theorem b6w(L:Lays.n240 P ρ)(X:Builder.X72 P ρ)(B b:Nat)(v:Value)(bs:List Value)(w:World)(h:a2h (ρ.t 72) (ρ.t 5) B b v bs w):
 Calls P (ρ.f 240) #[.pointer (some ⟨b,0,none⟩)] w fun e w'=>e= .returned (.tuple #[])/\w'.heap[b]? =some (.cells #[.pointer (some ⟨b,0,none⟩),v] (ρ.t 72) (0,0))/\a2h (ρ.t 72) (ρ.t 5) B b v bs w'/\Below B w w'/\w'.heap.size=w.heap.size/\∀k,k≠b->w'.heap[k]? =w.heap[k]? :=by
 obtain⟨h1,⟨p,h2,rfl|rfl⟩,h3,h4⟩:=h
 ·have hA:Lib.BuilderAtF (ρ.t 72) (ρ.t 5) B b (.pointer none) bs w:=⟨h1,v,h2,h3,h4⟩
  refine(Any.Builder_copyCheck_fresh L X b w hA.cell0 hA.shape hA.frozen0).mono ?_;rintro e w' ⟨rfl,rfl⟩;have hk:∀k,k≠b->(w.setCell ⟨b,0,none⟩ (.pointer (some ⟨b,0,none⟩))).heap[k]? =w.heap[k]? :=fun k hk=>Below.heap_setCell _ _ _ _ hk
  have hb:(w.setCell ⟨b,0,none⟩ (.pointer (some ⟨b,0,none⟩))).heap[b]? =some (.cells #[.pointer (some ⟨b,0,none⟩),v] (ρ.t 72) (0,0)):=by simp[World.setCell,Array.getElem?_modify,h2]
  refine⟨rfl,hb,⟨h1,⟨_,hb,.inr rfl⟩,?_,h4⟩,(Below.refl B w).setCell (p:=⟨b,0,none⟩) h1 _,by simp[World.setCell],hk⟩;exact h3.kept (row:=some b) ⟨rfl,rfl,rfl,by simp[World.setCell],fun k _ hk'=>hk k fun e=>hk' (by rw[e])⟩ (Or.inr h4)
 ·have hA:Lib.BuilderAtF (ρ.t 72) (ρ.t 5) B b (.pointer (some ⟨b,0,none⟩)) bs w:=⟨h1,v,h2,h3,h4⟩
  refine(Any.Builder_copyCheck_used L X b w hA.cell0).mono ?_;rintro e w' ⟨rfl,rfl⟩;exact⟨rfl,h2,⟨h1,⟨_,h2,.inr rfl⟩,h3,h4⟩,Below.refl B _,rfl,fun _ _=>rfl⟩
set_option maxHeartbeats 2000000 in
set_option maxRecDepth 100000 in
/-- WriteString: what is written, and where -/
theorem d3k(L:Lays.n166 P ρ)(X:Builder.Extra P ρ)(B b:Nat)(v:Value)(bs:List Value)(s:ByteArray)(w:World)(h:a2h (ρ.t 72) (ρ.t 5) B b v bs w)(hlen:bs.length+s.size<=140737488355328)(hBw:B<=w.heap.size):
 Calls P (ρ.f 166) #[.pointer (some ⟨b,0,none⟩),.string s] w fun e w'=>e= .returned (.tuple #[.int .i64 s.size,.nilIface])/\∃v',a2h (ρ.t 72) (ρ.t 5) B b v' (bs++Lib.strCells s) w'/\(v'.ownBlock=v.ownBlock\/∀k,v'.ownBlock=some k->w.heap.size<=k)/\Below B w w'/\e9v b v w w':=by
 obtain⟨i0,hi,hz0,hz1,hz2⟩:=info_parts X.infoByte;have mixed:=L.mixed;have t72:=L.t72;have a72:=L.a72;have z72:=L.z72;have v72:=L.v72;have u72:=run_underlying L.t72;have t70:=L.t70;have a70:=L.a70;have z70:=L.z70;have v70:=L.v70;have u70:=run_underlying L.t70;have t37:=L.t37;have a37:=L.a37;have z37:=L.z37;have v37:=L.v37;have u37:=run_underlying L.t37;have t3:=L.t3;have a3:=L.a3;have z3:=L.z3;have v3:=L.v3;have u3:=run_underlying L.t3;have t9:=L.t9;have a9:=L.a9;have z9:=L.z9;have v9:=L.v9;have u9:=run_underlying L.t9;have t4:=L.t4;have a4:=L.a4;have z4:=L.z4;have v4:=L.v4;have u4:=run_underlying L.t4;have t164:=L.t164;have a164:=L.a164;have z164:=L.z164;have v164:=L.v164;have u164:=run_underlying L.t164;have t5:=X.t5;have a5:=X.a5;have z5:=X.z5;have v5:=X.v5;have u5:=run_underlying X.t5;have e240:∀args w,(callFunc (ρ.f 240) args).run P w= .ok (.enter (ρ.f 240) args) w:=enters_of L.f240 (by kernel_rfl) rfl
 go_enter L.f166,Body.n166_ntmps ρ
 go_wp2_with (go_at_fn (ρ.f 240);refine(b6w {L with} X.toX72 B b v bs _ h).mono ?_)
 rintro e w1 ⟨rfl,hbk,h1,hb1,hs1,hk1⟩;obtain⟨hB,_,hown,hne⟩:=h1;have c0:w1.cell? ⟨b,0,none⟩=some (.pointer (some ⟨b,0,none⟩)):=by rw[Xy hbk];rfl
 have c1:w1.cell? ⟨b,1,none⟩=some v:=by rw[Xy hbk];rfl
 go_wp2_with (at_builtin;refine a9z _ rfl _ _ (ρ.t 37) (ρ.t 9) rfl B (ρ.t 5) i0 L.t37 L.t9 hi hz0 hz1 hz2 _ _ _ rfl hown s rfl ?c3 ?c4 ?c5 ?_)
 case c3=>unfold maxLen;omega
 case c4=>omega
 case c5=>have:=hb1.size;omega
 intro v' w2 hown' hgrow hwh;have hlt:b<w1.heap.size:=by
  rcases Nat.lt_or_ge b w1.heap.size with h'|h'
  ·exact h'
  ·simp[Array.getElem?_eq_none h']at hbk
 have hb2:w2.heap[b]? =some (.cells #[.pointer (some ⟨b,0,none⟩),v] (ρ.t 72) (0,0)):=by
  rw[hgrow.block b hlt (fun e=>hne e.symm)];exact hbk
 have d0:w2.cell? ⟨b,0,none⟩=some (.pointer (some ⟨b,0,none⟩)):=by rw[Xy hb2];rfl
 have d1:w2.cell? ⟨b,1,none⟩=some v:=by rw[Xy hb2];rfl
 have f1:w2.frozen? ⟨b,1,none⟩=false:=Lib.frozen_of_heap hb2 1;obtain⟨ao,n',cap,rfl⟩:∃ao n' cap,v'= .slice ao n' cap:=by
  rcases hown'.2 with⟨hv,_⟩|⟨g,cap,cur,fz,hv,_⟩
  ·exact⟨_,_,_,hv⟩
  ·exact⟨_,_,_,hv⟩
 go_wp2
 go_ret2
 have hne2:=Lib.ownBlock_neF hown' hb2 X.neB5;refine⟨rfl,_,⟨hB,⟨.pointer (some ⟨b,0,none⟩),by simp[World.setCell,Array.getElem?_modify,hb2],.inr rfl⟩,?_,hne2⟩,hwh,?_,?_⟩
 ·have:=hown'.kept (w':=w2.setCell ⟨b,1,none⟩ (.slice ao n' cap)) (row:=some b) ⟨rfl,rfl,rfl,by simp[World.setCell],fun k _ hk=>Below.heap_setCell _ _ _ _ (fun e=>hk (by simp[e]))⟩ (Or.inr hne2)
  simpa[Lib.strCells_length]using this
 ·exact(hb1.grown hgrow (by have:=hb1.size;omega) (fun k hk=>(hown.lt k hk).1)).setCell (p:=⟨b,1,none⟩) hB _
 ·intro k hk hkb hkv
  rw[Below.heap_setCell _ _ _ _ hkb,hgrow.block k (by omega) (fun e=>hkv e.symm),hk1 k hkb]
end Go.Proofs
end
section
/- The desk's books and its builder, round by round. -/
open Go Go.Mv Go.Proofs Go.Shelf Go.RowKit Go.Lib
namespace Go.Proofs
abbrev D4:List (List Int):=[[],[],[],[]]
/-- how far the desk has come -/
def d1i(T e:TypeId)(w:World)(ls:List W8)(k:Nat)(wr:World):Prop:=
 ∃D v c0 c1 c2 c3,Books D w.heap.size [c0,c1,c2,c3] wr/\[c0,c1,c2,c3]=a8t D4 (ls.take k)/\vcs [c0,c1,c2,c3]=true/\a2h T e (w.heap.size+1) (w.heap.size+1) v (byteCells (W9 D4 (ls.take k))) wr/\
  (∀b,D b->w.heap.size+1<b/\v.ownBlock≠some b)/\Below w.heap.size w wr/\w.heap.size+2<=wr.heap.size
theorem b7s(w:World)(D:Nat->Prop):RV w D (lF []) (.slice none 0 0):=by
 have h:=RV.list (w:=w) (D:=D) [] none 0 0 0 0 (fun _ _=> .bool true) (Zd _) (fun h=>absurd rfl h) (fun e he=>by cases he) (fun i j l h=>by have h:none=some l:=h;cases h) (fun i j l h=>by have h:none=some l:=h;cases h);exact h
theorem e0h(T0 T e:TypeId)(w:World)(ls:List W8):d1i T e w ls 0 ((w.alloc (.cells #[.slice none 0 0,.slice none 0 0,.slice none 0 0,.slice none 0 0] T0)).alloc (.cells #[.pointer none,.slice none 0 0] T)):=by
 have hs1:(w.alloc (.cells #[.slice none 0 0,.slice none 0 0,.slice none 0 0,.slice none 0 0] T0)).heap.size=w.heap.size+1:=Array.size_push ..;refine⟨fun _=>False,.slice none 0 0,[],[],[],[],⟨⟨#[.slice none 0 0,.slice none 0 0,.slice none 0 0,.slice none 0 0],T0,?_,rfl,fun j c hj=> ?_⟩,fun h=>h,fun b h=>h.elim⟩,rfl,rfl,⟨Zd _,⟨.pointer none,?_,.inl rfl⟩,World.ownsRowF_nil _ _ _ _,nofun⟩,fun b h=>h.elim,?_,Nat.le_of_eq (by show _=((w.heap.push _).push _).size;rw[Array.size_push,Array.size_push])⟩
 ·rw[Lib.alloc_old _ _ _ (by rw[hs1];exact Nat.lt_succ_self _)]
  exact heap_alloc_new w _
 ·match j,hj with
  |0,hj=>cases hj;exact⟨_,rfl,b7s _ _⟩
  |1,hj=>cases hj;exact⟨_,rfl,b7s _ _⟩
  |2,hj=>cases hj;exact⟨_,rfl,b7s _ _⟩
  |3,hj=>cases hj;exact⟨_,rfl,b7s _ _⟩
 ·have:=heap_alloc_new (w.alloc (.cells #[.slice none 0 0,.slice none 0 0,.slice none 0 0,.slice none 0 0] T0)) (.cells #[.pointer none,.slice none 0 0] T)
  rwa[hs1]at this
 ·exact((Below.refl _ w).alloc (Zd _) _).alloc (by rw[hs1];exact Nat.le_succ _) _
theorem d8k{T e:TypeId}{w:World}{ls:List W8}{k:Nat}{wr w1 w2:World}{l:W8}{D D':Nat->Prop}{v v':Value}{c0 c1 c2 c3 d0 d1 d2 d3:List Int}(hk:k<ls.length)(hlk:ls.getD k default=l)
 (hC:[c0,c1,c2,c3]=a8t D4 (ls.take k)) (hv:vcs [c0,c1,c2,c3]=true) (hd:(deskL [c0,c1,c2,c3] l).2=[d0,d1,d2,d3]) (hW:Below w.heap.size w wr) (hsz:w.heap.size+2<=wr.heap.size) (hDb:∀b,D b->w.heap.size+1<b/\v.ownBlock≠some b)
 (hB1:Books D' w.heap.size [d0,d1,d2,d3] w1) (hD':∀b,D' b->D b\/wr.heap.size<=b) (h1:Below w.heap.size wr w1) (hvl:∀g,v.ownBlock=some g->g<wr.heap.size/\w.heap.size+1<=g)
 (hbt:a2h T e (w.heap.size+1) (w.heap.size+1) v' (byteCells (W9 D4 (ls.take k))++strCells (bA ((deskL [c0,c1,c2,c3] l).1++[10]))) w2) (hv':v'.ownBlock=v.ownBlock\/∀g,v'.ownBlock=some g->w1.heap.size<=g) (h2:Below (w.heap.size+1) w1 w2) (ho:e9v (w.heap.size+1) v w1 w2):
 d1i T e w ls (k+1) w2:=by
 have hs1:=h1.size;have hs2:=h2.size;have hDn:∀b,D' b->w.heap.size+1<b/\v.ownBlock≠some b:=fun b hb=>by
  rcases hD' b hb with h|h
  ·exact hDb b h
  ·exact⟨by omega,fun e=>by have:=(hvl b e).1;omega⟩
 have hDl:∀b,D' b->b<w1.heap.size:=fun b hb=>(hB1.2.2 b hb).1
 refine⟨D',v',d0,d1,d2,d3,hB1.keep hs2 ?_ (fun b hb=> ?_),?_,?_,?_,fun b hb=>⟨(hDn b hb).1,?_⟩,(hW.trans h1).trans (h2.mono (Nat.le_succ _)),by omega⟩
 ·exact ho _ (by omega) (by omega) (fun e=>by have:=(hvl _ e).2;omega)
 ·exact ho b (hDl b hb) (by have:=(hDn b hb).1;omega) (hDn b hb).2
 ·rw[P9 hk,b0u,<-hC,hlk,hd]
 ·rw[<-hd];exact c6b hv l
 ·have e1:byteCells (W9 D4 (ls.take k))++strCells (bA ((deskL [c0,c1,c2,c3] l).1++[10]))=byteCells (W9 D4 (ls.take (k+1))):=by
   rw[P9 hk,b0s,<-hC,hlk,byteCells_append,strCells_eq]
  rwa[e1]at hbt
 ·rcases hv' with h|h
  ·rw[h];exact(hDn b hb).2
  ·intro e;have:=h b e;have:=hDl b hb;omega
end Go.Proofs
end
open Go Go.Mv Go.Proofs Go.Proofs.YtjmoceabjajefaaGreatDoor Go.Shelf Go.RowKit Go.Lib
namespace Go.Proofs
def Tryz.lSplit_ren:Xe:=⟨fun|146=>122|221=>148|268=>162|138=>163|143=>164|195=>181|197=>182|218=>183|219=>94|260=>194|217=>118|225=>119|224=>120|267=>121|266=>146|314=>147|n=>n,fun|9=>9|31=>22|3=>3|4=>4|0=>0|105=>178|21=>21|5=>5|46=>126|119=>192|139=>195|138=>194|146=>148|51=>147|n=>n,fun|1=>0|3=>5|4=>6|n=>n⟩
theorem Tryz.lSplit:Go.Proofs.Lays.n146 Tryz.prog Tryz.lSplit_ren:={
 mixed:=by kernel_rfl
 f138:=Tryz.func163.trans (congrArg some (by kernel_rfl))
 f143:=Tryz.func164.trans (congrArg some (by kernel_rfl))
 f146:=Tryz.func122.trans (congrArg some (by kernel_rfl))
 f195:=Tryz.func181.trans (congrArg some (by kernel_rfl))
 f197:=Tryz.func182.trans (congrArg some (by kernel_rfl))
 f217:=Tryz.func118.trans (congrArg some (by kernel_rfl))
 f218:=Tryz.func183.trans (congrArg some (by kernel_rfl))
 f219:=Tryz.func94.trans (congrArg some (by kernel_rfl))
 f221:=Tryz.func148.trans (congrArg some (by kernel_rfl))
 f224:=Tryz.func120.trans (congrArg some (by kernel_rfl))
 f225:=Tryz.func119.trans (congrArg some (by kernel_rfl))
 f260:=Tryz.func194.trans (congrArg some (by kernel_rfl))
 f266:=Tryz.func146.trans (congrArg some (by kernel_rfl))
 f267:=Tryz.func121.trans (congrArg some (by kernel_rfl))
 f268:=Tryz.func162.trans (congrArg some (by kernel_rfl))
 f314:=Tryz.func147.trans (congrArg some (by kernel_rfl))
 t0:=Tryz.underlying0
 a0:=Tryz.isAgg0
 z0:=Tryz.sizeOf0
 v0:=Tryz.zeroValue0
 t3:=Tryz.underlying3
 a3:=Tryz.isAgg3
 z3:=Tryz.sizeOf3
 v3:=Tryz.zeroValue3
 t4:=Tryz.underlying4
 a4:=Tryz.isAgg4
 z4:=Tryz.sizeOf4
 v4:=Tryz.zeroValue4
 t5:=Tryz.underlying5
 a5:=Tryz.isAgg5
 z5:=Tryz.sizeOf5
 v5:=Tryz.zeroValue5
 t9:=Tryz.underlying9
 a9:=Tryz.isAgg9
 z9:=Tryz.sizeOf9
 v9:=Tryz.zeroValue9
 t21:=Tryz.underlying21
 a21:=Tryz.isAgg21
 z21:=Tryz.sizeOf21
 v21:=Tryz.zeroValue21
 t31:=Tryz.underlying22
 a31:=Tryz.isAgg22
 z31:=Tryz.sizeOf22
 v31:=Tryz.zeroValue22
 t46:=Tryz.underlying126
 a46:=Tryz.isAgg126
 z46:=Tryz.sizeOf126
 v46:=Tryz.zeroValue126
 t51:=Tryz.underlying147
 a51:=Tryz.isAgg147
 z51:=Tryz.sizeOf147
 v51:=Tryz.zeroValue147
 t105:=Tryz.underlying178
 a105:=Tryz.isAgg178
 z105:=Tryz.sizeOf178
 v105:=Tryz.zeroValue178
 t119:=Tryz.underlying192
 a119:=Tryz.isAgg192
 z119:=Tryz.sizeOf192
 t138:=Tryz.underlying194
 a138:=Tryz.isAgg194
 z138:=Tryz.sizeOf194
 v138:=Tryz.zeroValue194
 t139:=Tryz.underlying195
 a139:=Tryz.isAgg195
 z139:=Tryz.sizeOf195
 v139:=Tryz.zeroValue195
 t146:=Tryz.underlying148
 a146:=Tryz.isAgg148
 z146:=Tryz.sizeOf148
 v146:=Tryz.zeroValue148
 g1:=by kernel_rfl
 g3:=by kernel_rfl
 g4:=by kernel_rfl}
def Tryz.lJoin_ren:Xe:=⟨fun|156=>83|165=>112|166=>13|169=>15|240=>41|241=>142|276=>66|277=>159|n=>n,fun|31=>22|9=>9|3=>3|4=>4|0=>0|20=>20|72=>39|76=>42|70=>37|37=>28|75=>41|127=>87|164=>99|5=>5|80=>46|n=>n,fun|n=>n⟩
theorem Tryz.lJoin:Go.Proofs.Lays.n156 Tryz.prog Tryz.lJoin_ren:={
 mixed:=by kernel_rfl
 f156:=Tryz.func83.trans (congrArg some (by kernel_rfl))
 f165:=Tryz.func112.trans (congrArg some (by kernel_rfl))
 f166:=Tryz.func13.trans (congrArg some (by kernel_rfl))
 f169:=Tryz.func15.trans (congrArg some (by kernel_rfl))
 f240:=Tryz.func41.trans (congrArg some (by kernel_rfl))
 f241:=Tryz.func142.trans (congrArg some (by kernel_rfl))
 f276:=Tryz.func66.trans (congrArg some (by kernel_rfl))
 f277:=Tryz.func159.trans (congrArg some (by kernel_rfl))
 t0:=Tryz.underlying0
 a0:=Tryz.isAgg0
 z0:=Tryz.sizeOf0
 v0:=Tryz.zeroValue0
 t3:=Tryz.underlying3
 a3:=Tryz.isAgg3
 z3:=Tryz.sizeOf3
 v3:=Tryz.zeroValue3
 t4:=Tryz.underlying4
 a4:=Tryz.isAgg4
 z4:=Tryz.sizeOf4
 v4:=Tryz.zeroValue4
 t9:=Tryz.underlying9
 a9:=Tryz.isAgg9
 z9:=Tryz.sizeOf9
 v9:=Tryz.zeroValue9
 t20:=Tryz.underlying20
 a20:=Tryz.isAgg20
 z20:=Tryz.sizeOf20
 v20:=Tryz.zeroValue20
 t31:=Tryz.underlying22
 a31:=Tryz.isAgg22
 z31:=Tryz.sizeOf22
 v31:=Tryz.zeroValue22
 t37:=Tryz.underlying28
 a37:=Tryz.isAgg28
 z37:=Tryz.sizeOf28
 v37:=Tryz.zeroValue28
 t70:=Tryz.underlying37
 a70:=Tryz.isAgg37
 z70:=Tryz.sizeOf37
 v70:=Tryz.zeroValue37
 t72:=Tryz.underlying39
 a72:=Tryz.isAgg39
 z72:=Tryz.sizeOf39
 v72:=Tryz.zeroValue39
 t75:=Tryz.underlying41
 a75:=Tryz.isAgg41
 z75:=Tryz.sizeOf41
 v75:=Tryz.zeroValue41
 t76:=Tryz.underlying42
 a76:=Tryz.isAgg42
 z76:=Tryz.sizeOf42
 v76:=Tryz.zeroValue42
 t127:=Tryz.underlying87
 a127:=Tryz.isAgg87
 z127:=Tryz.sizeOf87
 v127:=Tryz.zeroValue87
 t164:=Tryz.underlying99
 a164:=Tryz.isAgg99
 z164:=Tryz.sizeOf99
 v164:=Tryz.zeroValue99}
def Tryz.lCut_ren:Xe:=⟨fun|145=>42|220=>67|219=>94|217=>118|225=>119|224=>120|267=>121|266=>146|314=>147|n=>n,fun|9=>9|4=>4|59=>79|3=>3|5=>5|46=>126|146=>148|51=>147|n=>n,fun|1=>0|n=>n⟩
theorem Tryz.lCut:Go.Proofs.Lays.n145 Tryz.prog Tryz.lCut_ren:={
 mixed:=by kernel_rfl
 f145:=Tryz.func42.trans (congrArg some (by kernel_rfl))
 f217:=Tryz.func118.trans (congrArg some (by kernel_rfl))
 f219:=Tryz.func94.trans (congrArg some (by kernel_rfl))
 f220:=Tryz.func67.trans (congrArg some (by kernel_rfl))
 f224:=Tryz.func120.trans (congrArg some (by kernel_rfl))
 f225:=Tryz.func119.trans (congrArg some (by kernel_rfl))
 f266:=Tryz.func146.trans (congrArg some (by kernel_rfl))
 f267:=Tryz.func121.trans (congrArg some (by kernel_rfl))
 f314:=Tryz.func147.trans (congrArg some (by kernel_rfl))
 t3:=Tryz.underlying3
 a3:=Tryz.isAgg3
 z3:=Tryz.sizeOf3
 v3:=Tryz.zeroValue3
 t4:=Tryz.underlying4
 a4:=Tryz.isAgg4
 z4:=Tryz.sizeOf4
 v4:=Tryz.zeroValue4
 t5:=Tryz.underlying5
 a5:=Tryz.isAgg5
 z5:=Tryz.sizeOf5
 v5:=Tryz.zeroValue5
 t9:=Tryz.underlying9
 a9:=Tryz.isAgg9
 z9:=Tryz.sizeOf9
 v9:=Tryz.zeroValue9
 t46:=Tryz.underlying126
 a46:=Tryz.isAgg126
 z46:=Tryz.sizeOf126
 v46:=Tryz.zeroValue126
 t51:=Tryz.underlying147
 a51:=Tryz.isAgg147
 z51:=Tryz.sizeOf147
 v51:=Tryz.zeroValue147
 t59:=Tryz.underlying79
 a59:=Tryz.isAgg79
 z59:=Tryz.sizeOf79
 v59:=Tryz.zeroValue79
 t146:=Tryz.underlying148
 a146:=Tryz.isAgg148
 z146:=Tryz.sizeOf148
 v146:=Tryz.zeroValue148
 g1:=by kernel_rfl}
def Tryz.lCutP_ren:Xe:=⟨fun|103=>184|210=>195|206=>201|n=>n,fun|9=>9|4=>4|24=>85|3=>3|n=>n,fun|n=>n⟩
theorem Tryz.lCutP:Go.Proofs.Lays.n103 Tryz.prog Tryz.lCutP_ren:={
 mixed:=by kernel_rfl
 f103:=Tryz.func184.trans (congrArg some (by kernel_rfl))
 f206:=Tryz.func201.trans (congrArg some (by kernel_rfl))
 f210:=Tryz.func195.trans (congrArg some (by kernel_rfl))
 t3:=Tryz.underlying3
 a3:=Tryz.isAgg3
 z3:=Tryz.sizeOf3
 v3:=Tryz.zeroValue3
 t4:=Tryz.underlying4
 a4:=Tryz.isAgg4
 z4:=Tryz.sizeOf4
 v4:=Tryz.zeroValue4
 t9:=Tryz.underlying9
 a9:=Tryz.isAgg9
 z9:=Tryz.sizeOf9
 v9:=Tryz.zeroValue9
 t24:=Tryz.underlying85
 a24:=Tryz.isAgg85
 z24:=Tryz.sizeOf85
 v24:=Tryz.zeroValue85}
def Tryz.lCutS_ren:Xe:=⟨fun|104=>185|211=>196|207=>202|n=>n,fun|9=>9|4=>4|24=>85|3=>3|n=>n,fun|n=>n⟩
theorem Tryz.lCutS:Go.Proofs.Lays.n104 Tryz.prog Tryz.lCutS_ren:={
 mixed:=by kernel_rfl
 f104:=Tryz.func185.trans (congrArg some (by kernel_rfl))
 f207:=Tryz.func202.trans (congrArg some (by kernel_rfl))
 f211:=Tryz.func196.trans (congrArg some (by kernel_rfl))
 t3:=Tryz.underlying3
 a3:=Tryz.isAgg3
 z3:=Tryz.sizeOf3
 v3:=Tryz.zeroValue3
 t4:=Tryz.underlying4
 a4:=Tryz.isAgg4
 z4:=Tryz.sizeOf4
 v4:=Tryz.zeroValue4
 t9:=Tryz.underlying9
 a9:=Tryz.isAgg9
 z9:=Tryz.sizeOf9
 v9:=Tryz.zeroValue9
 t24:=Tryz.underlying85
 a24:=Tryz.isAgg85
 z24:=Tryz.sizeOf85
 v24:=Tryz.zeroValue85}
def Tryz.lItoa_ren:Xe:=⟨fun|171=>46|243=>72|246=>99|283=>126|284=>127|285=>128|286=>129|129=>152|317=>151|318=>153|319=>154|320=>155|337=>166|338=>167|n=>n,fun|3=>3|9=>9|2=>2|4=>4|171=>138|0=>0|53=>139|37=>28|5=>5|173=>142|212=>158|51=>147|20=>20|213=>159|46=>126|232=>181|233=>182|n=>n,fun|17=>2|18=>3|19=>4|n=>n⟩
theorem Tryz.lItoa:Go.Proofs.LaysM.n171 Tryz.prog Tryz.lItoa_ren:={
 mixed:=by kernel_rfl
 f129:=Tryz.func152.trans (congrArg some (by kernel_rfl))
 f171:=Tryz.func46.trans (congrArg some (by kernel_rfl))
 f243:=Tryz.func72.trans (congrArg some (by kernel_rfl))
 f246:=Tryz.func99.trans (congrArg some (by kernel_rfl))
 f283:=Tryz.func126.trans (congrArg some (by kernel_rfl))
 f284:=Tryz.func127.trans (congrArg some (by kernel_rfl))
 f285:=Tryz.func128.trans (congrArg some (by kernel_rfl))
 f286:=Tryz.func129.trans (congrArg some (by kernel_rfl))
 f317:=Tryz.func151.trans (congrArg some (by kernel_rfl))
 f318:=Tryz.func153.trans (congrArg some (by kernel_rfl))
 f319:=Tryz.func154.trans (congrArg some (by kernel_rfl))
 f320:=Tryz.func155.trans (congrArg some (by kernel_rfl))
 f337:=Tryz.func166.trans (congrArg some (by kernel_rfl))
 f338:=Tryz.func167.trans (congrArg some (by kernel_rfl))
 t0:=Tryz.underlying0
 a0:=Tryz.isAgg0
 z0:=Tryz.sizeOf0
 v0:=Tryz.zeroValue0
 t2:=Tryz.underlying2
 a2:=Tryz.isAgg2
 z2:=Tryz.sizeOf2
 v2:=Tryz.zeroValue2
 t3:=Tryz.underlying3
 a3:=Tryz.isAgg3
 z3:=Tryz.sizeOf3
 v3:=Tryz.zeroValue3
 t4:=Tryz.underlying4
 a4:=Tryz.isAgg4
 z4:=Tryz.sizeOf4
 v4:=Tryz.zeroValue4
 t5:=Tryz.underlying5
 a5:=Tryz.isAgg5
 z5:=Tryz.sizeOf5
 v5:=Tryz.zeroValue5
 t9:=Tryz.underlying9
 a9:=Tryz.isAgg9
 z9:=Tryz.sizeOf9
 v9:=Tryz.zeroValue9
 t20:=Tryz.underlying20
 a20:=Tryz.isAgg20
 z20:=Tryz.sizeOf20
 v20:=Tryz.zeroValue20
 t37:=Tryz.underlying28
 a37:=Tryz.isAgg28
 z37:=Tryz.sizeOf28
 v37:=Tryz.zeroValue28
 t46:=Tryz.underlying126
 a46:=Tryz.isAgg126
 z46:=Tryz.sizeOf126
 v46:=Tryz.zeroValue126
 t51:=Tryz.underlying147
 a51:=Tryz.isAgg147
 z51:=Tryz.sizeOf147
 v51:=Tryz.zeroValue147
 t53:=Tryz.underlying139
 a53:=Tryz.isAgg139
 z53:=Tryz.sizeOf139
 v53:=Tryz.zeroValue139
 t171:=Tryz.underlying138
 a171:=Tryz.isAgg138
 z171:=Tryz.sizeOf138
 v171:=Tryz.zeroValue138
 t173:=Tryz.underlying142
 a173:=Tryz.isAgg142
 z173:=Tryz.sizeOf142
 v173:=Tryz.zeroValue142
 t212:=Tryz.underlying158
 a212:=Tryz.isAgg158
 z212:=Tryz.sizeOf158
 v212:=Tryz.zeroValue158
 t213:=Tryz.underlying159
 a213:=Tryz.isAgg159
 z213:=Tryz.sizeOf159
 t232:=Tryz.underlying181
 a232:=Tryz.isAgg181
 z232:=Tryz.sizeOf181
 v232:=Tryz.zeroValue181
 t233:=Tryz.underlying182
 a233:=Tryz.isAgg182
 z233:=Tryz.sizeOf182
 v233:=Tryz.zeroValue182
 g17:=by kernel_rfl
 g18:=by kernel_rfl
 g19:=by kernel_rfl
 i0:=by kernel_rfl
 i2:=by kernel_rfl
 i3:=by kernel_rfl
 i4:=by kernel_rfl
 i5:=by kernel_rfl
 i9:=by kernel_rfl
 i20:=by kernel_rfl
 i37:=by kernel_rfl
 i46:=by kernel_rfl
 i51:=by kernel_rfl
 i53:=by kernel_rfl
 i171:=by kernel_rfl
 i173:=by kernel_rfl
 i212:=by kernel_rfl
 i232:=by kernel_rfl
 i233:=by kernel_rfl
 m17:=by kernel_rfl
 m18:=by kernel_rfl
 m19:=by kernel_rfl}
def Tryz.lAtoi_ren:Xe:=⟨fun|172=>186|244=>197|245=>198|247=>203|279=>204|280=>205|281=>206|282=>207|287=>208|316=>209|171=>46|205=>210|321=>211|322=>212|243=>72|246=>99|283=>126|284=>127|285=>128|286=>129|129=>152|317=>151|318=>153|319=>154|320=>155|337=>166|338=>167|n=>n,fun|9=>9|3=>3|75=>41|76=>42|4=>4|5=>5|167=>197|37=>28|0=>0|85=>198|2=>2|168=>200|53=>139|175=>203|46=>126|210=>206|127=>87|145=>211|143=>209|21=>21|171=>138|173=>142|212=>158|51=>147|20=>20|213=>159|232=>181|233=>182|80=>46|n=>n,fun|15=>7|16=>8|17=>2|18=>3|19=>4|n=>n⟩
theorem Tryz.lAtoi:Go.Proofs.LaysC.n172 Tryz.prog Tryz.lAtoi_ren:={
 mixed:=by kernel_rfl
 f129:=Tryz.func152.trans (congrArg some (by kernel_rfl))
 f171:=Tryz.func46.trans (congrArg some (by kernel_rfl))
 f172:=Tryz.func186.trans (congrArg some (by kernel_rfl))
 f205:=Tryz.func210.trans (congrArg some (by kernel_rfl))
 f243:=Tryz.func72.trans (congrArg some (by kernel_rfl))
 f244:=Tryz.func197.trans (congrArg some (by kernel_rfl))
 f245:=Tryz.func198.trans (congrArg some (by kernel_rfl))
 f246:=Tryz.func99.trans (congrArg some (by kernel_rfl))
 f247:=Tryz.func203.trans (congrArg some (by kernel_rfl))
 f279:=Tryz.func204.trans (congrArg some (by kernel_rfl))
 f280:=Tryz.func205.trans (congrArg some (by kernel_rfl))
 f281:=Tryz.func206.trans (congrArg some (by kernel_rfl))
 f282:=Tryz.func207.trans (congrArg some (by kernel_rfl))
 f283:=Tryz.func126.trans (congrArg some (by kernel_rfl))
 f284:=Tryz.func127.trans (congrArg some (by kernel_rfl))
 f285:=Tryz.func128.trans (congrArg some (by kernel_rfl))
 f286:=Tryz.func129.trans (congrArg some (by kernel_rfl))
 f287:=Tryz.func208.trans (congrArg some (by kernel_rfl))
 f316:=Tryz.func209.trans (congrArg some (by kernel_rfl))
 f317:=Tryz.func151.trans (congrArg some (by kernel_rfl))
 f318:=Tryz.func153.trans (congrArg some (by kernel_rfl))
 f319:=Tryz.func154.trans (congrArg some (by kernel_rfl))
 f320:=Tryz.func155.trans (congrArg some (by kernel_rfl))
 f321:=Tryz.func211.trans (congrArg some (by kernel_rfl))
 f322:=Tryz.func212.trans (congrArg some (by kernel_rfl))
 f337:=Tryz.func166.trans (congrArg some (by kernel_rfl))
 f338:=Tryz.func167.trans (congrArg some (by kernel_rfl))
 t0:=Tryz.underlying0
 a0:=Tryz.isAgg0
 z0:=Tryz.sizeOf0
 v0:=Tryz.zeroValue0
 t2:=Tryz.underlying2
 a2:=Tryz.isAgg2
 z2:=Tryz.sizeOf2
 v2:=Tryz.zeroValue2
 t3:=Tryz.underlying3
 a3:=Tryz.isAgg3
 z3:=Tryz.sizeOf3
 v3:=Tryz.zeroValue3
 t4:=Tryz.underlying4
 a4:=Tryz.isAgg4
 z4:=Tryz.sizeOf4
 v4:=Tryz.zeroValue4
 t5:=Tryz.underlying5
 a5:=Tryz.isAgg5
 z5:=Tryz.sizeOf5
 v5:=Tryz.zeroValue5
 t9:=Tryz.underlying9
 a9:=Tryz.isAgg9
 z9:=Tryz.sizeOf9
 v9:=Tryz.zeroValue9
 t20:=Tryz.underlying20
 a20:=Tryz.isAgg20
 z20:=Tryz.sizeOf20
 v20:=Tryz.zeroValue20
 t21:=Tryz.underlying21
 a21:=Tryz.isAgg21
 z21:=Tryz.sizeOf21
 v21:=Tryz.zeroValue21
 t37:=Tryz.underlying28
 a37:=Tryz.isAgg28
 z37:=Tryz.sizeOf28
 v37:=Tryz.zeroValue28
 t46:=Tryz.underlying126
 a46:=Tryz.isAgg126
 z46:=Tryz.sizeOf126
 v46:=Tryz.zeroValue126
 t51:=Tryz.underlying147
 a51:=Tryz.isAgg147
 z51:=Tryz.sizeOf147
 v51:=Tryz.zeroValue147
 t53:=Tryz.underlying139
 a53:=Tryz.isAgg139
 z53:=Tryz.sizeOf139
 v53:=Tryz.zeroValue139
 t75:=Tryz.underlying41
 a75:=Tryz.isAgg41
 z75:=Tryz.sizeOf41
 v75:=Tryz.zeroValue41
 t76:=Tryz.underlying42
 a76:=Tryz.isAgg42
 z76:=Tryz.sizeOf42
 v76:=Tryz.zeroValue42
 t85:=Tryz.underlying198
 a85:=Tryz.isAgg198
 z85:=Tryz.sizeOf198
 v85:=Tryz.zeroValue198
 t127:=Tryz.underlying87
 a127:=Tryz.isAgg87
 z127:=Tryz.sizeOf87
 v127:=Tryz.zeroValue87
 t143:=Tryz.underlying209
 a143:=Tryz.isAgg209
 z143:=Tryz.sizeOf209
 v143:=Tryz.zeroValue209
 t145:=Tryz.underlying211
 a145:=Tryz.isAgg211
 z145:=Tryz.sizeOf211
 v145:=Tryz.zeroValue211
 t167:=Tryz.underlying197
 a167:=Tryz.isAgg197
 z167:=Tryz.sizeOf197
 v167:=Tryz.zeroValue197
 t168:=Tryz.underlying200
 a168:=Tryz.isAgg200
 z168:=Tryz.sizeOf200
 v168:=Tryz.zeroValue200
 t171:=Tryz.underlying138
 a171:=Tryz.isAgg138
 z171:=Tryz.sizeOf138
 v171:=Tryz.zeroValue138
 t173:=Tryz.underlying142
 a173:=Tryz.isAgg142
 z173:=Tryz.sizeOf142
 v173:=Tryz.zeroValue142
 t175:=Tryz.underlying203
 a175:=Tryz.isAgg203
 z175:=Tryz.sizeOf203
 v175:=Tryz.zeroValue203
 t210:=Tryz.underlying206
 a210:=Tryz.isAgg206
 z210:=Tryz.sizeOf206
 v210:=Tryz.zeroValue206
 t212:=Tryz.underlying158
 a212:=Tryz.isAgg158
 z212:=Tryz.sizeOf158
 v212:=Tryz.zeroValue158
 t213:=Tryz.underlying159
 a213:=Tryz.isAgg159
 z213:=Tryz.sizeOf159
 t232:=Tryz.underlying181
 a232:=Tryz.isAgg181
 z232:=Tryz.sizeOf181
 v232:=Tryz.zeroValue181
 t233:=Tryz.underlying182
 a233:=Tryz.isAgg182
 z233:=Tryz.sizeOf182
 v233:=Tryz.zeroValue182
 g15:=by kernel_rfl
 g16:=by kernel_rfl
 g17:=by kernel_rfl
 g18:=by kernel_rfl
 g19:=by kernel_rfl
 t80:=Tryz.underlying46
 a80:=Tryz.isAgg46
 z80:=Tryz.sizeOf46
 v80:=Tryz.zeroValue46
 i0:=by kernel_rfl
 i2:=by kernel_rfl
 i3:=by kernel_rfl
 i4:=by kernel_rfl
 i5:=by kernel_rfl
 i9:=by kernel_rfl
 i20:=by kernel_rfl
 i21:=by kernel_rfl
 i37:=by kernel_rfl
 i46:=by kernel_rfl
 i51:=by kernel_rfl
 i53:=by kernel_rfl
 i75:=by kernel_rfl
 i76:=by kernel_rfl
 i80:=by kernel_rfl
 i85:=by kernel_rfl
 i127:=by kernel_rfl
 i143:=by kernel_rfl
 i145:=by kernel_rfl
 i167:=by kernel_rfl
 i168:=by kernel_rfl
 i171:=by kernel_rfl
 i173:=by kernel_rfl
 i175:=by kernel_rfl
 i210:=by kernel_rfl
 i212:=by kernel_rfl
 i232:=by kernel_rfl
 i233:=by kernel_rfl
 m15:=by kernel_rfl
 m16:=by kernel_rfl
 m17:=by kernel_rfl
 m18:=by kernel_rfl
 m19:=by kernel_rfl
 c0:=by kernel_rfl
 c2:=by kernel_rfl
 c3:=by kernel_rfl
 c4:=by kernel_rfl
 c5:=by kernel_rfl
 c9:=by kernel_rfl
 c20:=by kernel_rfl
 c21:=by kernel_rfl
 c37:=by kernel_rfl
 c46:=by kernel_rfl
 c51:=by kernel_rfl
 c53:=by kernel_rfl
 c75:=by kernel_rfl
 c76:=by kernel_rfl
 c80:=by kernel_rfl
 c85:=by kernel_rfl
 c127:=by kernel_rfl
 c143:=by kernel_rfl
 c145:=by kernel_rfl
 c167:=by kernel_rfl
 c168:=by kernel_rfl
 c171:=by kernel_rfl
 c173:=by kernel_rfl
 c175:=by kernel_rfl
 c210:=by kernel_rfl
 c212:=by kernel_rfl
 c213:=by kernel_rfl
 c232:=by kernel_rfl
 c233:=by kernel_rfl}
def Tryz.lClone_ren:Xe:=⟨fun|41=>132|n=>n,fun|22=>35|23=>3|4=>4|n=>n,fun|n=>n⟩
theorem Tryz.lClone:Go.Proofs.SlLaysE0.n41 Tryz.prog Tryz.lClone_ren:={
 mixed:=by kernel_rfl
 f41:=⟨Tryz.f132.name,by decide,Tryz.func132.trans (congrArg some (by kernel_rfl))⟩
 t4:=Tryz.underlying4
 a4:=Tryz.isAgg4
 z4:=Tryz.sizeOf4
 v4:=Tryz.zeroValue4
 t22:=Tryz.underlying35
 a22:=Tryz.isAgg35
 z22:=Tryz.sizeOf35
 v22:=Tryz.zeroValue35}
def Tryz.lSort_ren:Xe:=⟨fun|5=>133|8=>157|7=>156|19=>177|20=>152|10=>168|11=>169|12=>170|13=>171|14=>172|15=>173|16=>174|17=>175|18=>176|30=>187|31=>188|32=>189|33=>190|34=>191|35=>161|40=>199|n=>n,fun|23=>35|25=>3|3=>3|32=>126|22=>35|0=>0|44=>147|46=>139|4=>4|36=>169|35=>168|41=>173|5=>5|9=>9|53=>183|57=>187|63=>190|64=>76|n=>n,fun|n=>n⟩
theorem Tryz.lSort:Go.Proofs.SlLaysM.n5 Tryz.prog Tryz.lSort_ren:={
 mixed:=by kernel_rfl
 f5:=⟨Tryz.f133.name,by decide,Tryz.func133.trans (congrArg some (by kernel_rfl))⟩
 f7:=⟨Tryz.f156.name,by decide,Tryz.func156.trans (congrArg some (by kernel_rfl))⟩
 f8:=Tryz.func157.trans (congrArg some (by kernel_rfl))
 f10:=⟨Tryz.f168.name,by decide,Tryz.func168.trans (congrArg some (by kernel_rfl))⟩
 f11:=⟨Tryz.f169.name,by decide,Tryz.func169.trans (congrArg some (by kernel_rfl))⟩
 f12:=⟨Tryz.f170.name,by decide,Tryz.func170.trans (congrArg some (by kernel_rfl))⟩
 f13:=⟨Tryz.f171.name,by decide,Tryz.func171.trans (congrArg some (by kernel_rfl))⟩
 f14:=⟨Tryz.f172.name,by decide,Tryz.func172.trans (congrArg some (by kernel_rfl))⟩
 f15:=⟨Tryz.f173.name,by decide,Tryz.func173.trans (congrArg some (by kernel_rfl))⟩
 f16:=⟨Tryz.f174.name,by decide,Tryz.func174.trans (congrArg some (by kernel_rfl))⟩
 f17:=⟨Tryz.f175.name,by decide,Tryz.func175.trans (congrArg some (by kernel_rfl))⟩
 f18:=⟨Tryz.f176.name,by decide,Tryz.func176.trans (congrArg some (by kernel_rfl))⟩
 f19:=Tryz.func177.trans (congrArg some (by kernel_rfl))
 f20:=Tryz.func152.trans (congrArg some (by kernel_rfl))
 f30:=⟨Tryz.f187.name,by decide,Tryz.func187.trans (congrArg some (by kernel_rfl))⟩
 f31:=Tryz.func188.trans (congrArg some (by kernel_rfl))
 f32:=Tryz.func189.trans (congrArg some (by kernel_rfl))
 f33:=⟨Tryz.f190.name,by decide,Tryz.func190.trans (congrArg some (by kernel_rfl))⟩
 f34:=⟨Tryz.f191.name,by decide,Tryz.func191.trans (congrArg some (by kernel_rfl))⟩
 f35:=⟨Tryz.f161.name,by decide,Tryz.func161.trans (congrArg some (by kernel_rfl))⟩
 f40:=⟨Tryz.f199.name,by decide,Tryz.func199.trans (congrArg some (by kernel_rfl))⟩
 t0:=Tryz.underlying0
 a0:=Tryz.isAgg0
 z0:=Tryz.sizeOf0
 v0:=Tryz.zeroValue0
 t3:=Tryz.underlying3
 a3:=Tryz.isAgg3
 z3:=Tryz.sizeOf3
 v3:=Tryz.zeroValue3
 t4:=Tryz.underlying4
 a4:=Tryz.isAgg4
 z4:=Tryz.sizeOf4
 v4:=Tryz.zeroValue4
 t5:=Tryz.underlying5
 a5:=Tryz.isAgg5
 z5:=Tryz.sizeOf5
 v5:=Tryz.zeroValue5
 t9:=Tryz.underlying9
 a9:=Tryz.isAgg9
 z9:=Tryz.sizeOf9
 v9:=Tryz.zeroValue9
 t22:=Tryz.underlying35
 a22:=Tryz.isAgg35
 z22:=Tryz.sizeOf35
 v22:=Tryz.zeroValue35
 t23:=Tryz.underlying35
 a23:=Tryz.isAgg35
 z23:=Tryz.sizeOf35
 v23:=Tryz.zeroValue35
 t25:=Tryz.underlying3
 a25:=Tryz.isAgg3
 z25:=Tryz.sizeOf3
 v25:=Tryz.zeroValue3
 t32:=Tryz.underlying126
 a32:=Tryz.isAgg126
 z32:=Tryz.sizeOf126
 v32:=Tryz.zeroValue126
 t35:=Tryz.underlying168
 a35:=Tryz.isAgg168
 z35:=Tryz.sizeOf168
 v35:=Tryz.zeroValue168
 t36:=Tryz.underlying169
 a36:=Tryz.isAgg169
 z36:=Tryz.sizeOf169
 v36:=Tryz.zeroValue169
 t41:=Tryz.underlying173
 a41:=Tryz.isAgg173
 z41:=Tryz.sizeOf173
 v41:=Tryz.zeroValue173
 t44:=Tryz.underlying147
 a44:=Tryz.isAgg147
 z44:=Tryz.sizeOf147
 v44:=Tryz.zeroValue147
 t46:=Tryz.underlying139
 a46:=Tryz.isAgg139
 z46:=Tryz.sizeOf139
 v46:=Tryz.zeroValue139
 t53:=Tryz.underlying183
 a53:=Tryz.isAgg183
 z53:=Tryz.sizeOf183
 v53:=Tryz.zeroValue183
 t57:=Tryz.underlying187
 a57:=Tryz.isAgg187
 z57:=Tryz.sizeOf187
 v57:=Tryz.zeroValue187
 t63:=Tryz.underlying190
 a63:=Tryz.isAgg190
 z63:=Tryz.sizeOf190
 v63:=Tryz.zeroValue190
 t64:=Tryz.underlying76
 a64:=Tryz.isAgg76
 z64:=Tryz.sizeOf76
 v64:=Tryz.zeroValue76}
variable{rG:Nat}
abbrev Tryz.env(rG:Nat):Env:=goneEnv Tryz.prog 0 2 7 8 1 rG (by kernel_rfl) goneTb
theorem Tryz.extraJoin:Builder.Extra Tryz.prog Tryz.lJoin_ren:={sizeBuilder:=by kernel_rfl,liesBuilder:=by kernel_rfl,t5:=Tryz.underlying5,a5:=Tryz.isAgg5,z5:=Tryz.sizeOf5,v5:=Tryz.zeroValue5,infoByte:=by kernel_rfl,cellsByte:=by kernel_rfl,sizeByte:=by kernel_rfl,neB5:=by decide}
theorem Tryz.soundX:c8u ((Tryz.env rG)) (cxT (some rG)):=by
 intro f F args res outs hF h;have hm:=e5h (show e2w f5j f=some F from hF);simp only[f5j,ZM,Zk,List.not_mem_nil,or_false]at hm;rcases hm with⟨rfl,rfl⟩|⟨rfl,rfl⟩|⟨rfl,rfl⟩|⟨rfl,rfl⟩|⟨rfl,rfl⟩|⟨rfl,rfl⟩|⟨rfl,rfl⟩|⟨rfl,rfl⟩|⟨rfl,rfl⟩
 ·exact⟨e0a (Γ:=Tryz.env rG) (fun h=>h) Tryz.lCut rfl (fun w h=>h.1.1) h,R8 Tryz.func42 (by kernel_rfl) (by kernel_rfl)⟩
 ·exact⟨d2v (Γ:=Tryz.env rG) (fun h=>h) Tryz.lItoa rfl (fun w h=>h.1.2.1) h,R8 Tryz.func46 (by kernel_rfl) (by kernel_rfl)⟩
 ·exact⟨d3t (fun h=>h) Tryz.lJoin Tryz.extraJoin rfl h,R8 Tryz.func83 (by kernel_rfl) (by kernel_rfl)⟩
 ·exact⟨d0w (Γ:=Tryz.env rG) (fun h=>h) Tryz.lSplit (by kernel_rfl) rfl (fun w h=>h.1.1) h,R8 Tryz.func122 (by kernel_rfl) (by kernel_rfl)⟩
 ·obtain⟨i0,z,hi,hz0,hz1,hz2,hzs⟩:=e7z (P:=Tryz.prog) (T:=3) (by kernel_rfl)
  exact⟨d1b (fun h=>h) _ _ Tryz.lClone i0 z hi hz0 hz1 hz2 hzs Tryz.sizeOf3 rfl h,R8 Tryz.func132 (by kernel_rfl) (by kernel_rfl)⟩
 ·exact⟨d2b _ _ Tryz.lSort rfl rfl h,R8 Tryz.func133 (by kernel_rfl) (by kernel_rfl)⟩
 ·exact⟨d6b (fun h=>h) Tryz.lCutP rfl h,R8 Tryz.func184 (by kernel_rfl) (by kernel_rfl)⟩
 ·exact⟨d1t (fun h=>h) Tryz.lCutS rfl h,R8 Tryz.func185 (by kernel_rfl) (by kernel_rfl)⟩
 ·exact⟨d5w (Γ:=Tryz.env rG) (fun h=>h) Tryz.lAtoi rfl (fun w h=>h.1.2.2.1) (fun w h=>h.1.2.2.2) h,R8 Tryz.func186 (by kernel_rfl) (by kernel_rfl)⟩
theorem Tryz.soundI:a6i ((Tryz.env rG)) (cxT (some rG)):=a6i.none rfl
theorem Tryz.sound:SoundC ((Tryz.env rG)) (cxT (some rG)) (CW (cxT (some rG))):=d4k (cxT (some rG)) (c1u rfl rfl) Tryz.soundX Tryz.soundI (by kernel_rfl)
set_option maxHeartbeats 4000000 in
set_option maxRecDepth 100000 in
theorem Tryz.desk_calls{ρ:Ren}{Γ:Env}{md:Nat->Nat}(L:Lays.n166 Tryz.prog ρ)(L2:Lays.n169 Tryz.prog ρ)(X:Builder.Extra Tryz.prog ρ)(h166:ρ.f 166=13)(h169:ρ.f 169=15)(h72:ρ.t 72=39)
 (hline:∀(l:W8) (c0 c1 c2 c3:List Int),l.length<=1048576->vcs [c0,c1,c2,c3]=true->∃d0 d1 d2 d3,(deskL [c0,c1,c2,c3] l).2=[d0,d1,d2,d3]/\Contract Γ Tryz.prog md 14 [tV l,.ownp [.agg [lF c0,lF c1,lF c2,lF c3]] 0 0] (tV (deskL [c0,c1,c2,c3] l).1) [[.agg [lF d0,lF d1,lF d2,lF d3]]])
 (ls:List W8) (hl:∀l∈ls,l.length<=1048576) (hn:ls.length<=1048576) (w:World) (a:Option Addr) (cap:Nat)
 (ha:ls≠[]->∃bk o,a=some ⟨bk,o,none⟩/\bk<w.heap.size/\∀j l,ls[j]? =some l->w.cell? ⟨bk,o+j,none⟩=some (.string (bA l))) (hG:Γ.G w) (hgb:∀b,Γ.gb b->b<w.heap.size):
 Calls Tryz.prog 8 #[.slice a ls.length cap] w fun e w'=>e= .returned (.string (bA (deskT ls)))/\Below w.heap.size w w':=by
 have eL:∀args w,(callFunc 14 args).run Tryz.prog w= .ok (.enter 14 args) w:=enters_of Tryz.func14 (by kernel_rfl) rfl;have eW:∀args w,(callFunc 13 args).run Tryz.prog w= .ok (.enter 13 args) w:=enters_of Tryz.func13 (by kernel_rfl) rfl;have eS:∀args w,(callFunc 15 args).run Tryz.prog w= .ok (.enter 15 args) w:=enters_of Tryz.func15 (by kernel_rfl) rfl
 go_enter Tryz.func8,Tryz.ntmps8
 by_cases h20:ls.length<=20
 ·have h20i:¬((20:Int)<(ls.length:Int)):=by omega
  have Hln:=Any.hidJ hline;have Hls:=Any.hidJ hl;have Ha:=Any.hidJ ha;have Hgb:=Any.hidJ hgb;have HG:=Any.hidJ hG;clear hline hl ha hgb hG
  go_wp2_with fail
  go_loopw [12] (fun i wr=>∃k:Nat,k<=ls.length/\i= .int .i64 k/\Hid (d1i (ρ.t 72) (ρ.t 5) w ls k wr)) (fun i _=>ls.length-(RowKit.intOf i).toNat)
  case atStart=>exact⟨0,Nat.zero_le _,rfl,by rw[h72];exact e0h _ _ _ _ _⟩
  case round=>
   obtain⟨k,hk,rfl,HI⟩:=hrel;by_cases hkn:k<ls.length
   ·obtain⟨D,v,c0,c1,c2,c3,hB,hC,hv,hbt,hDb,hW,hsz⟩:=HI.out
    obtain⟨bk,o,rfl,hbk,hce⟩:=Ha.out (fun e=>by rw[e]at hkn;exact absurd hkn (Nat.not_lt_zero _));obtain⟨l,hlk⟩:∃l,ls[k]? =some l:=⟨ls[k],Zg hkn⟩;have hcl:wr.cell? ⟨bk,o+k,none⟩=some (.string (bA l)):=by rw[hW.cell (p:=⟨bk,o+k,none⟩) hbk];exact hce k l hlk
    have hll:=Hls.out l (List.mem_of_getElem? hlk);have hlg:ls.getD k default=l:=by rw[List.getD_eq_getElem?_getD,hlk];rfl
    obtain⟨d0,d1,d2,d3,hd,hcon⟩:=Hln.out l c0 c1 c2 c3 hll hv;have hG1:Γ.G wr:=Γ.stable w wr (fun b hb=>hW.block b (Hgb.out b hb)) HG.out;have Hd:=Any.hidJ hd;have HC:=Any.hidJ hC;have Hv:=Any.hidJ hv;have Hbt:=Any.hidJ hbt;have HDb:=Any.hidJ hDb;have HW:=Any.hidJ hW;have Hlg:=Any.hidJ hlg;have Hlk:=Any.hidJ hlk;have Hce:=Any.hidJ hce;clear hd hC hv hbt hDb hW hlg hlk hce;have HBk:=Any.hidJ hB;clear hB
    go_wp2_with fail
    refine(d7i hcon HBk.out hG1 (fun b hb=>⟨fun e=>by have:=Hgb.out b hb;omega,by have:=Hgb.out b hb;omega⟩)).mono ?_;rintro e w1 ⟨rfl,D',hB1,hD',o1,o2,o3,hs1,hk1⟩;have Hn:a2h (ρ.t 72) (ρ.t 5) (w.heap.size+1) (w.heap.size+1) v (byteCells (W9 D4 (ls.take k))) w1:=by
     have hbt:=Hbt.out;refine hbt.keep (hk1 _ (by omega) (by omega)) fun g hg=> ?_
     have:=hbt.2.2.1.lt g hg;exact hk1 g this.2 (by omega)
    have Hvl:∀g,v.ownBlock=some g->g<wr.heap.size/\w.heap.size+1<=g:=fun g hg=>⟨(Hbt.out.2.2.1.lt g hg).2,(Hbt.out.2.2.1.lt g hg).1⟩
    have HN:=Any.hidJ Hn;have HVl:=Any.hidJ Hvl;have HB1:=Any.hidJ hB1;have HD':=Any.hidJ hD';have Hb1:Hid (Below w.heap.size wr w1):=⟨o1,o2,o3,hs1,fun k hk=>hk1 k (by omega) (by omega)⟩;clear Hn Hvl hB1 hD' hk1 o1 o2 o3;have hal:=b3w Hv.out l;have hol:=a9s (ls.take k) (C:=D4) (by decide);rw[List.length_take]at hol
    go_wp2_with fail
    ·rw[show bA (deskL [c0,c1,c2,c3] l).1++({data:= #[10]}:ByteArray)=bA ((deskL [c0,c1,c2,c3] l).1++[10])from c6i _ [10]]
     have hwr:=d3k L X (w.heap.size+1) (w.heap.size+1) v _ (bA ((deskL [c0,c1,c2,c3] l).1++[10])) w1 HN.out (by rw[byteCells_length,f1m,List.length_append];simp only[Ze,List.length_nil];omega) (by omega);rw[h166]at hwr;refine hwr.mono ?_;rintro e w2 ⟨rfl,v',hbt2,hv',hb2,ho2⟩;have HR:=Any.hidJ (d8k hkn Hlg.out HC.out Hv.out Hd.out HW.out hsz HDb.out HB1.out HD'.out Hb1.out HVl.out hbt2 hv' hb2 ho2);clear hbt2 hv' hb2 ho2
     go_wp2
     exact⟨⟨k+1,by omega,by go_num,HR⟩,by simp[RowKit.intOf];omega⟩
   ·have hke:k=ls.length:=by omega
    subst hke;obtain⟨D,v,c0,c1,c2,c3,hB,hC,hv,hbt,hDb,hW,hsz⟩:=HI.out;have hstr:=Any.Builder_String_any_k L2 X (w.heap.size+1) (w.heap.size+1) _ wr hbt.isF (by omega);rw[h169]at hstr;rw[ZB (Zd _)]at hstr;have HS:=Any.hidJ hstr;have HW:=Any.hidJ hW;clear hB hC hv hbt hDb hW hstr
    go_wp2_with fail
    refine HS.out.mono ?_;rintro e w2 ⟨rfl,hF,hb2,-⟩;have HB:=Any.hidJ (HW.out.trans (hb2.mono (Nat.le_succ _)));clear hF hb2
    go_wp2
    go_ret
    exact⟨by rw[deskT,if_pos h20];rfl,HB.out⟩
 ·have h20i:((20:Int)<(ls.length:Int)):=by omega
  go_wp2
  go_ret
  exact⟨by rw[c5y h20];rfl,Below.refl _ _⟩
theorem Tryz.line(l:W8)(c0 c1 c2 c3:List Int)(hl:l.length<=1048576)(hv:vcs [c0,c1,c2,c3]=true):∃d0 d1 d2 d3,(deskL [c0,c1,c2,c3] l).2=[d0,d1,d2,d3]/\Contract (Tryz.env rG) Tryz.prog ((cxT (some rG)).md 14) 14 [tV l,.ownp [.agg [lF c0,lF c1,lF c2,lF c3]] 0 0] (tV (deskL [c0,c1,c2,c3] l).1) [[.agg [lF d0,lF d1,lF d2,lF d3]]]:=by
 obtain⟨_,_,⟨d0,d1,d2,d3,rfl,rfl,hd⟩,hC⟩:=d8m (rG:=rG) l hl c0 c1 c2 c3 hv;exact⟨d0,d1,d2,d3,hd,(Tryz.sound.2 _ _ _ _ hC).1⟩
theorem Tryz.soundXL:c8u (Tryz.env rG) (cxL (some rG)):=by
 intro f F args res outs hF h;have hF:e6w (some rG) f=some F:=hF;unfold e6w at hF;split at hF
 ·rename_i hf
  subst hf;cases hF;exact⟨d5n (fun ls h1 h2=>c2z (fun h=>h) ls (deskT ls) fun w a cap ha hG hgb=>Tryz.desk_calls {Tryz.lJoin with} {Tryz.lJoin with} Tryz.extraJoin rfl rfl rfl (md:=(cxT (some rG)).md 14) Tryz.line ls h2 h1 w a cap ha hG hgb) h,R8 Tryz.func8 (by kernel_rfl) (by kernel_rfl)⟩
 ·split at hF
  ·cases hF
  ·cases hF
   exact Tryz.sound.2 f args res outs h
theorem Tryz.soundL:SoundC (Tryz.env rG) (cxL (some rG)) (CW (cxL (some rG))):=d4k (cxL (some rG)) (c1u rfl rfl) Tryz.soundXL (a6i.none rfl) (by kernel_rfl)
end Go.Proofs
