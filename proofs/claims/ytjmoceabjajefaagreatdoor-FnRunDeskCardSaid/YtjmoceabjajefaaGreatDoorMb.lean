/- The abstract machine, part 2 of 5: it runs the model's code on abstract values and is proved sound over any program. Conditions: none. -/
import Derived.Test.YtjmoceabjajefaaGreatDoorMa
set_option linter.unusedVariables false
set_option linter.unusedSimpArgs false
open Go.Act renaming mk→Yu
open Array renaming getElem?_eq_some_iff→ZC, toList_map→YW, getElem?_append→Xg, getD_eq_getD_getElem?→ZN
open Bool renaming and_eq_true→Zy, false_eq_true→ZZ, or_eq_false_iff→YD
open Go.Builtin renaming firstCells→Ys, nextslicecap→Xz, lenOf→Xo, append_→YR, zeroCells→Xd, copy_→XN
open Classical renaming byContradiction→YB
open Go renaming undef→Yj
open Go.Instr renaming storeAt→Xn
open Go.IntKind renaming i64→Yt
open List renaming drop_succ_cons→Yh, drop_zero→ZY, getElem?_cons_zero→Zs, getElem?_cons_succ→ZR, length_cons→Ze, length_nil→Zo, nil_append→Zj, getElem?_append_left→ZX, getElem?_append_right→Yn, getElem?_take→YA, getElem?_drop→Yd, length_append→Zf, getElem?_eq_some_iff→Zq, getElem?_eq_getElem→Zg, mem_of_getElem?→Zx, replicate→ZP, map_cons→Zz, range→Yb, getElem?_map→ZE, getElem?_range→Yv, mem_of_mem_take→ZV, mem_of_mem_drop→Yw, take_length→Yo, mem_map→ZI, length_map→Zi, mem_append→ZF, all_eq_true→Zt, length_eq_zero_iff→ZW, length_take→ZH, map_nil→Ya, mem_filterMap→XG, mem_cons_self→Zr, mem_cons_of_mem→Zn, mem_append_right→Yc, mem_append_left→ZU, cons_append→Zp, zip_cons_cons→YN, mem_cons→ZM, of_mem_zip→YL, mem_iff_getElem?→ZG, getElem?_eq_none→ZQ, mem_singleton→Ye, getElem?_zip_eq_some→Xb
open Nat renaming le_refl→Zd, mul_le_mul_right→ZS, add_mul→Yk, zero_add→ZL, lt_succ_self→ZJ, le_add_right→XS, lt_of_lt_of_le→YF
open Option renaming bind_eq_some_iff→Za, bind_some→Zl, map_eq_some_iff→Zh, map_some→ZA
open Option.some renaming injEq→Zb
open Prod.mk renaming injEq→Zk
open Go.Result renaming andThen_ok→Zu
open Go.Sem renaming run_bind→ZD, run_pure→ZO
section
namespace Go.Mv
open Go
section
variable{P:Program}{C:Caller}{Γ:Env}{w0:World}{A O0:Nat->Prop}{ν0:Nu}{N:Nat}{D:Nat->Prop}{st:St}{ν:Nu}{tm:Array Value}{w:World}
def LOk(m:Nat)(c:AV)(F':Fl)(κ:FK)(st':St)(a:Nu)(w:World)(D':Nat->Prop)(l:AV)(x:Value):Prop:=
 x.oneCell'=true/\(L4 l=true->L4 c=true)/\(∀gs,l≠.agg gs)/\
 ((isOwn l=false/\F' κ=none/\RS st' a w D' l x)\/
  (∃s es φ,l= .own s es/\L4 c=true/\m=0/\F' κ=some ⟨φ,s,es⟩/\a2k es/\SlV w (φ none) s 0 es.length x))
theorem b0p(S:∀b,O0 b->A b){m f:Nat}{o:Nat->FK}(H:∀i j,o i=o j->i=j):
 ∀(vs:List AV) (j:Nat) (cs:List AV) (F:Fl) (D:Nat->Prop) (st:St) (ν:Nu) (d:List AV) (st':St) (xs:List Value),
  Rel Γ w0 A O0 ν0 N F D st ν tm w->(∀k,j<=k->F (o k)=none)->(absorbLeaves m f j cs vs).go C st=some (d,st')->RL st ν w D vs xs->
  ∃F' D' t,Rel Γ w0 A O0 ν0 N F' D' st' t tm w/\Ext st ν w st' t w/\(∀b,D b->D' b)/\d.length=vs.length/\
   (∀κ,(∀k,j<=k->k<j+vs.length->κ≠o k)->F' κ=F κ)/\
   ∀(i:Nat) (l:AV),d[i]? =some l->∃x:Value,xs[i]? =some x/\LOk m ((cs[i]?).getD .undef) F' (o (j+i)) st' t w D' l x:=by
 intro vs
 induction vs with
 |nil=>
  intro j cs F D st ν d st' xs R M h O;simp only[absorbLeaves,RW.go_pure,Zb,Zk]at h;obtain⟨rfl,rfl⟩:=h;exact⟨F,D,ν,R,Ext.refl _ _ _,fun _ h=>h,U,fun _ _=>U,fun i l u=>by simp at u⟩
 |cons v vs ih=>
  intro j cs F D st ν d st' xs R M h O;cases xs with
  |nil=>have:=O.1;simp at this
  |cons x xs=>
   simp only[absorbLeaves,RW.go_bind,RW.go_pure,Za]at h;obtain⟨⟨v1,K⟩,h1,⟨a3,a2⟩,h2,h3⟩:=h;cases h3;obtain⟨x',a1,Z⟩:=O.2 0 v U;cases a1;obtain⟨Q,D1,L,R1,E1,z,hc,hn,ha,u⟩:=a5c S (M j (Zd _)) R h1 Z;have E:∀κ,κ≠o j->Q κ=F κ:=by
    intro κ hk;rcases u with⟨_,rfl,_⟩|⟨s,es,φ,_,_,_,rfl,_⟩
    ·rfl
    ·exact Fl.set_ne _ _ hk
   have X:RL K L w D1 vs xs:=by
    have:=O.drop 1;simp only[Yh,ZY]at this;exact⟨this.1,fun i l u=>by obtain⟨v,a,b⟩:=this.2 i l u;exact⟨v,a,b.same E1 z⟩⟩
   obtain⟨F2,D2,a4,R2,E2,B,hlen,G,r⟩:=ih (j+1) cs.tail Q D1 K L a3 a2 xs R1
    (fun k hk=>by rw[E _ (fun e=>by have:=H _ _ e;omega)];exact M k (by omega)) h2 X
   refine⟨F2,D2,a4,R2,E1.trans E2,fun b hb=>B b (z b hb),by simp[hlen],fun κ J=> ?_,fun i l g=> ?_⟩
   ·rw[G κ (fun k a b=>J k (by omega) (by simp;omega)),E κ (J j (Zd _) (by simp))]
   ·cases i with
    |zero=>
     simp only[Zs,Zb]at g;subst g;refine⟨x,U,hc,?_,ha,?_⟩
     ·cases cs<;>exact hn
     ·have n:F2 (o (j+0))=Q (o j):=G _ (fun k a b e=>by have:=H _ _ e;omega)
      rcases u with⟨ho,p,Y⟩|⟨s,es,φ,rfl,V,hm,p,W,a0⟩
      ·refine .inl ⟨ho,?_,Y.same E2 B⟩
       rw[n,p];exact M j (Zd _)
      ·refine .inr ⟨s,es,φ,U,?_,hm,?_,W,a0⟩
       ·cases cs<;>exact V
       ·rw[n,p,Fl.set_eq]
    |succ i=>
     simp only[ZR]at g|-;obtain⟨y,hy,I⟩:=r i l g;refine⟨y,hy,?_⟩;rw[show j+(i+1)=j+1+i by omega];cases cs with
     |nil=>simpa using I
     |cons c cs=>simpa using I
theorem a6s(B:∀b,O0 b->A b){F:Fl}{m f j:Nat}{o:Nat->FK}(O:∀i j,o i=o j->i=j)(R:Rel Γ w0 A O0 ν0 N F D st ν tm w)
 (L:∀k,j<=k->F (o k)=none) {cs:List AV} {v n:AV} {st':St} {x:Value} (h:(absorb m f j cs v).go C st=some (n,st')) (hx:RS st ν w D v x):
 ∃F' D' c,Rel Γ w0 A O0 ν0 N F' D' st' c tm w/\Ext st ν w st' c w/\(∀b,D b->D' b)/\(leaves n).length=(leaves v).length/\x.cells.size=(leaves v).length/\
  (∀κ,(∀k,j<=k->κ≠o k)->F' κ=F κ)/\(∀κ,F' κ=F κ\/∃k,κ=o (j+k)/\k<(leaves v).length)/\
  ((∃gs,n= .agg gs)\/leaves n=[n])/\
  ∀(i:Nat) (l:AV),(leaves n)[i]? =some l->∃y:Value,x.cells.toList[i]? =some y/\LOk m ((cs[i]?).getD .undef) F' (o (j+i)) st' c w D' l y:=by
 unfold absorb at h;split at h
 ·rename_i Y
  obtain⟨J,rfl,hr⟩:=hx.agg_list;simp only[RW.go_bind,RW.go_pure,Za]at h;obtain⟨⟨u,X⟩,h1,h2⟩:=h;cases h2;obtain⟨F',D',c,I,E,K,hlen,z,H⟩:=b0p B O Y j cs F D st ν u X J.toList R L h1 hr;refine⟨F',D',c,I,E,K,hlen,by simpa[leaves,Value.cells]using hr.1,fun κ t=>z κ (fun k a _=>t k a),fun κ=> ?_,.inl ⟨u,U⟩,H⟩;by_cases hk:∃k,j<=k/\k<j+Y.length/\κ=o k
  ·obtain⟨k,a,b,rfl⟩:=hk
   exact .inr ⟨k-j,by congr 1;omega,by simp only[leaves];omega⟩
  ·exact .inl (z κ fun k a b e=>hk ⟨k,a,b,e⟩)
 ·rename_i Q
  have r:leaves v=[v]:=by cases v<;>first|rfl|exact(Q _ rfl).elim
  obtain⟨F',D',c,I,E,K,hc,hn,Z,H⟩:=a5c B (L j (Zd _)) R h hx;have d:leaves n=[n]:=by cases n<;>first|rfl|exact(Z _ rfl).elim
  have G:x.cells= #[x]:=by cases x<;>simp[Value.cells,Value.oneCell']at hc|-
  refine⟨F',D',c,I,E,K,by rw[r,d];rfl,by rw[G,r];rfl,fun κ t=> ?_,fun κ=> ?_,.inr d,fun i l g=> ?_⟩
  ·rcases H with⟨_,rfl,_⟩|⟨s,es,φ,_,_,_,rfl,_⟩
   ·rfl
   ·exact Fl.set_ne _ _ (t j (Zd _))
  ·rcases H with⟨_,rfl,_⟩|⟨s,es,φ,_,_,_,rfl,_⟩
   ·exact .inl U
   ·by_cases e:κ=o j
    ·exact .inr ⟨0,e,by rw[r];exact Nat.one_pos⟩
    ·exact .inl (Fl.set_ne _ _ e)
  ·rw[d]at g
   cases i with
   |succ i=>simp at g
   |zero=>
    simp only[Zs,Zb]at g;subst g;refine⟨x,by rw[G];rfl,hc,?_,Z,?_⟩
    ·cases cs<;>exact hn
    ·rcases H with⟨ho,p,V⟩|⟨s,es,φ,rfl,M,hm,p,S,W⟩
     ·exact .inl ⟨ho,by rw[p];exact L j (Zd _),V⟩
     ·refine .inr ⟨s,es,φ,U,?_,hm,by rw[p];exact Fl.set_eq _ _ _,S,W⟩
      cases cs<;>exact M
end
section
variable{P:Program}{C:Caller}{Γ:Env}{w0:World}{A O0:Nat->Prop}{ν0:Nu}{N:Nat}{D:Nat->Prop}{st:St}{ν:Nu}{tm:Array Value}{w:World}
theorem a2y(v:AV):(∃gs,v= .agg gs)\/((∀gs,v≠.agg gs)/\leaves v=[v]):=by
 cases v<;>first|exact .inl ⟨_,rfl⟩|exact .inr ⟨(fun gs h=>by cases h),rfl⟩
theorem b2r{e v:AV}{j:Nat}(h:0<(leaves v).length)(hle:j+(leaves v).length<=(leaves e).length):
 leaves (putAt e j v)=(leaves e).take j++leaves v++(leaves e).drop (j+(leaves v).length):=by
 rcases a2y e with⟨a,rfl⟩|⟨b,he⟩
 ·rcases a2y v with⟨gs,rfl⟩|⟨c,g⟩
  ·rfl
  ·have d:putAt (.agg a) j v= .agg (a.set j v):=by
    cases v<;>first|rfl|exact(c _ rfl).elim
   rw[g]at hle|-;rw[d]
   change a.set j v=a.take j++[v]++a.drop (j+1)
   change j+1<=a.length at hle
   rw[List.set_eq_take_append_cons_drop,if_pos (by omega)];simp
 ·rw[he]at hle|-
  simp only[Ze,Zo]at hle;have f:j=0:=by omega
  subst f;have:putAt e 0 v=v:=by
   cases e<;>first|(cases v<;>rfl)|exact(b _ rfl).elim
  rw[this];simp only[List.take_zero,Zj];rw[List.drop_eq_nil_of_le (by simp;omega),List.append_nil]
theorem b3l{e v:AV}{j:Nat}(c:0<(leaves v).length)(hle:j+(leaves v).length<=(leaves e).length)(k:Nat):
 (leaves (putAt e j v))[k]? =if j<=k/\k<j+(leaves v).length then(leaves v)[k-j]? else(leaves e)[k]? :=by
 rw[b2r c hle];have b:((leaves e).take j).length=j:=by simp;omega
 split
 ·rename_i d
  rw[ZX (by simp;omega),Yn (by omega),b]
 ·rename_i d
  by_cases a:k<j
  ·rw[ZX (by simp;omega),ZX (by omega),YA,if_pos a]
  ·rw[Yn (by simp;omega),Yd,Zf,b]
   congr 1;omega
theorem e3r{e v:AV}{j:Nat}(a:0<(leaves v).length)(hle:j+(leaves v).length<=(leaves e).length):
 (leaves (putAt e j v)).length=(leaves e).length:=by
 rw[b2r a hle];simp;omega
theorem a1m{es:List AV}{i:Nat}{a:AV}(b:i<es.length)(x y:Nat):leafAt (es.set i a) x y=if x=i then(leaves a)[y]? else leafAt es x y:=by
 unfold leafAt;split
 ·rename_i e;subst e;rw[List.getElem?_set_self b];rfl
 ·rename_i e;rw[List.getElem?_set_ne (Ne.symm e)]
theorem RN.put{L:AV->Value->Prop}{φ φ':Path->Base}{b o:Nat}{bx:Prop}{s:Nat}{es:List AV}(h:RN w L φ (some (b,o)) bx s es){i j:Nat}{e v:AV}{xs:List Value}
 {c:Array Value} {ety:TypeId} (hw:w.heap[b]? =some (.cells c ety (0,0))) (he:es[i]? =some e) (V:0<(leaves v).length)
 (hle:j+(leaves v).length<=(leaves e).length) (a7:xs.length=(leaves v).length)
 (O:∀x y s' g,leafAt es x y=some (.own s' g)->¬(x=i/\j<=y/\y<j+(leaves v).length)->φ' (some (x,y))=φ (some (x,y)))
 (a3:∀x y s' g G o',leafAt es x y=some (.own s' g)->φ (some (x,y))=some (G,o')->G<w.heap.size)
 (hl:∀(k:Nat) (l:AV),(leaves v)[k]? =some l->∃x:Value,xs[k]? =some x/\Y0 (a2l w b (Y4 c (o+i*s+j) xs) ety) L φ' i (j+k) l x):
 RN (a2l w b (Y4 c (o+i*s+j) xs) ety) L φ' (some (b,o)) bx s (es.set i (putAt e j v))/\o+i*s+j+xs.length<=c.size:=by
 obtain⟨c',S,W,h2,H,Y,X⟩:=h;rw[hw]at W;cases W;have hi:i<es.length:=(Zq.1 he).1;have hlt:b<w.heap.size:=(ZC.1 hw).1;have u:o+i*s+j+xs.length<=c.size:=by
  have hk:j+(leaves v).length-1<(leaves e).length:=by omega
  obtain⟨v0,r,_⟩:=X i (j+(leaves v).length-1) ((leaves e)[j+(leaves v).length-1]) (by simp only[leafAt,he,Zl,Zg hk]);have:=(ZC.1 r).1;omega
 have E:(Y4 c (o+i*s+j) xs).size=c.size:=X3 _ _ _;refine⟨⟨Y4 c (o+i*s+j) xs,ety,a3x hlt,by rw[E];simpa using h2,fun n e' J=> ?_,fun n=>by simpa using Y n,fun x y l d=> ?_⟩,u⟩
 ·rcases List.mem_or_eq_of_mem_set J with h|h
  ·exact H n e' h
  ·subst h
   rw[e3r V hle];exact H n e (Zx he)
 ·rw[a1m hi]at d
  rw[a5p _ _ _ _ u];have f:∀I,leafAt es x y=some I->¬(x=i/\j<=y/\y<j+(leaves v).length)->
   ∃v0,(if o+i*s+j<=o+x*s+y/\o+x*s+y<o+i*s+j+xs.length then xs[o+x*s+y-(o+i*s+j)]? else c[o+x*s+y]?)=some v0/\
    Y0 (a2l w b (Y4 c (o+i*s+j) xs) ety) L φ' x y I v0:=by
   intro I a z;obtain⟨v0,r,p⟩:=X x y I a;have B:¬(o+i*s+j<=o+x*s+y/\o+x*s+y<o+i*s+j+xs.length):=by
    rintro⟨a1,a2⟩;by_cases t:x=i
    ·subst t
     exact z ⟨U,by omega,by omega⟩
    ·by_cases n:bx
     ·have:=Y n
      have a6:x<es.length:=by
       unfold leafAt at a;cases m:es[x]? with
       |none=>simp[m]at a
       |some Q=>exact(Zq.1 m).1
      omega
     ·have a5:(leaves e).length=s:=H n e (Zx he)
      have M:y<s:=by
       unfold leafAt at a;cases m:es[x]? with
       |none=>simp[m]at a
       |some Q=>
        have:=H n Q (Zx m);simp only[m,Zl]at a;have:=(Zq.1 a).1;omega
      rcases Nat.lt_or_gt_of_ne t with Z|a4
      ·have:=ZS s (show x+1<=i by omega)
       rw[Yk]at this;omega
      ·have:=ZS s (show i+1<=x by omega)
       rw[Yk]at this;omega
   rw[if_neg B];refine⟨v0,r,p.mono (fun _ _ h=>h) (fun s' g e=>O x y s' g (e▸a) z) (fun s' g G o' e a0=> ?_)⟩;by_cases R:G=b
   ·subst R;simp[csize,a3x hlt,hw,E]
   ·exact O9 (b7p R)
  split at d
  ·rename_i t
   subst t;rw[b3l V hle]at d;split at d
   ·rename_i M
    obtain⟨x0,K,p⟩:=hl _ _ d;refine⟨x0,?_,?_⟩
    ·rw[if_pos (by omega),show o+x*s+y-(o+x*s+j)=y-j by omega]
     exact K
    ·rwa[show j+(y-j)=y by omega]at p
   ·rename_i M
    exact f l (by simpa[leafAt,he]using d) (fun h=>M h.2)
  ·rename_i t
   exact f l d (fun h=>t h.1)
theorem c4k:∀(ls cs:List AV),X9 ls cs=true->∀(k:Nat) (l:AV),ls[k]? =some l->isOwn l=true\/L4 l=true->∃c,cs[k]? =some c/\L4 c=true:=by
 intro ls
 induction ls with
 |nil=>intro cs _ k l b;simp at b
 |cons a ls f=>
  intro cs h k l b d;cases cs with
  |nil=>simp[X9]at h
  |cons c cs=>
   simp only[X9,Zy,Bool.or_eq_true,Bool.not_eq_true']at h;cases k with
   |zero=>
    simp only[Zs,Zb]at b;subst b;refine⟨c,U,?_⟩;rcases h.1 with⟨e,g⟩|e
    ·rcases d with d|d<;>simp_all
    ·exact e
   |succ k=>
    simp only[ZR]at b|-;exact f cs h.2 k l b d
theorem e7x{a:AV}(h:L4 a=true):a= .nil:=by cases a<;>simp[L4]at h;rfl
def kfS(k:Nat):FK:=(0,k,0)
theorem c9j:∀i j,kfS i=kfS j->i=j:=by
 intro i j h;simp only[kfS,Zk]at h;exact h.2.1
open Classical in
theorem a7t(b6:∀b,O0 b->A b)(R:Rel Γ w0 A O0 ν0 N Fl.emp D st ν tm w){T:Nat}{a v:AV}{st':St}{va J:Value}
 (h:(a7d P T a v).go C st=some ((),st')) (ha:RS st ν w D a va) (hv:RS st ν w D v J):
 ∃D' bh w',(Xn T va J).run P w= .ok () w'/\Rel Γ w0 A O0 ν0 N Fl.emp D' st' bh tm w':=by
 unfold a7d at h;split at h
 ·rename_i id g p i j
  simp only[RW.go_bind,RW.go_up,Za,Zh]at h;obtain⟨_,⟨⟨m,s,es⟩,h1,rfl⟩,h⟩:=h;rw[J4]at h1;simp only at h;split at h
  ·rename_i e he
   simp only[RW.go_bind,RW.go_up,Za,Zh]at h;obtain⟨⟨r,av⟩,h2,_,⟨⟨m',s',a1⟩,h3,rfl⟩,h⟩:=h;rw[J4]at h3;simp only at h h2;split at h
   ·rename_i e' O
    simp only[RW.go_bind,RW.go_up,RW.go_wr,F6,Za,Zh]at h;obtain⟨_,⟨_,h4,rfl⟩,_,⟨wl,h5,rfl⟩,h6⟩:=h;obtain⟨rfl,al,bf,h0,hle,ag,ah⟩:=F7 h4;cases h6;obtain⟨F1,D1,I,R1,E1,b3,hlen,a4,bn,b5,ax,d⟩:=a6s b6 c9j R (fun _ _=>U) h2 hv;have b7:=ha.same E1 b3;obtain⟨_,_,_,ap⟩:=b7.ptr_inv;obtain⟨b,o,M,rfl⟩:=ap _ _ _ h3;obtain⟨L,an⟩:=R1.node h3;have bi:=L;rw[M]at L;have ae:=L;obtain⟨c,ad,hw,bj,_,_,_⟩:=ae;have hi:i<a1.length:=(Zq.1 O).1;have ak:(leaves r).length=(leaves v).length:=hlen;have ao:∀y∈J.cells.toList,y.oneCell'=true:=by
     intro y n;obtain⟨k,Q,rfl⟩:=List.mem_iff_getElem.1 n;have S:k<(leaves r).length:=by rw[ak,<-a4];simpa using Q
     obtain⟨y',ab,be⟩:=d k _ (Zg S);rw[Zg Q]at ab;cases ab;exact be.1
    have aa:J.cells.toList.length=(leaves r).length:=by rw[ak,<-a4];simp
    have af:(tyS P T).size≠0:=by omega
    obtain⟨inf,ai,a7⟩:=a7w af
    --bl aw cells hold behind it
    have W:WStep Γ w (a2l w b (Y4 c (o+i*s'+j) J.cells.toList) ad) b:=a6q hw (X3 _ _ _);have run:∀(hb:o+i*s'+j+J.cells.toList.length<=c.size),
     (Xn T (.pointer (some ⟨b,o+i*s'+j,none⟩)) J).run P w= .ok () (a2l w b (Y4 c (o+i*s'+j) J.cells.toList) ad):=by
     intro hb;have bd:J.cells.toList≠[]:=by
      intro e0;have:=aa;rw[e0]at this;simp only[Zo]at this;omega
     have b9:¬J.cells.size≠inf.size:=by rw[a4,bf,a7];exact fun h=>h U
     simp only[Xn,Instr.sureAddr,storeVar,ZD,ZO,Zu,L7 ai,b9,if_false];rw[a0n P _ 0 c w hw ao (by simpa using hb)];simp[bd]
    cases p with
    |none=>
     simp only[if_true]at d h2;obtain⟨s0,K,u,hp⟩:=N9 h3
     change av (.h id)=_ at u
     rcases hp with⟨_,rfl,rfl⟩|⟨_,_,hq,_⟩
     ·simp only[wrNode,Rd.ev_read,u,Rd.ev_ret,Zb]at h5
      subst h5
      --aw ay of aw parts
      let φ:Path->Base:=fun q=>match q with
       |some (x,y)=>if x=i/\j<=y/\y<j+(leaves r).length then(match F1 (kfS y)with|some f=>f.φ none|none=>I id q)else I id q
       |none=>I id none
      have au:∀x y,¬(x=i/\j<=y/\y<j+(leaves r).length)->φ (some (x,y))=I id (some (x,y)):=fun x y hn=>by simp only[φ];rw[if_neg hn]
      have aq:=RN.put (φ':=φ) (v:=r) (j:=j) (xs:=J.cells.toList) L hw O (by omega) (by omega) aa
       (fun x y s2 B _ hn=>au x y hn)
       (fun x y s2 B b2 o2 a8 E=>R1.hlt u (p:=some (x,y)) (fun q hq=>by cases hq;exact⟨s2,B,a8⟩) E)
       (fun k l Q=>by
        obtain⟨y,n,az,b0,b1,X⟩:=d k l Q;refine⟨y,n,?_⟩;have bo:k<(leaves r).length:=(Zq.1 Q).1;rcases X with⟨V,_,a9⟩|⟨s2,B,φ2,rfl,_,_,G,bk,ar⟩
        ·cases l with
         |own=>simp[isOwn]at V
         |_=>exact a9
        ·have ba:φ (some (i,j+k))=φ2 none:=by
          simp only[φ];rw[if_pos (by first|exact⟨rfl,by omega,by omega⟩|exact⟨trivial,by omega,by omega⟩),G]
         have aj:∀b2 o2,φ2 none=some (b2,o2)->b2<w.heap.size:=fun b2 o2 E=>
          R1.live_lt (k:= .fl (kfS (j+k)) none) ⟨_,G,fun _ hq=>by cases hq⟩ (by simp only[baseOf,G];exact E)
         exact SlV.mono ar ba (fun b2 o2 E=>W.cs b2 (aj b2 o2 E)))
      obtain⟨z,a2⟩:=aq;have a0:∀x y l,leafAt (K.set i (putAt e' j r)) x y=some l->(x=i/\j<=y/\y<j+(leaves r).length/\(leaves r)[y-j]? =some l)\/
       (¬(x=i/\j<=y/\y<j+(leaves r).length)/\leafAt K x y=some l):=by
       intro x y l H;rw[a1m hi]at H;split at H
       ·rename_i hx
        subst hx;rw[b3l (by omega) (by omega)]at H;split at H
        ·rename_i n;exact .inl ⟨U,n.1,n.2,H⟩
        ·rename_i n;exact .inr ⟨fun h=>n h.2,by simpa[leafAt,O]using H⟩
       ·rename_i hx;exact .inr ⟨fun h=>hx h.1,H⟩
      have hold:∀y l,j<=y->(leaves r)[y-j]? =some l->isOwn l=true\/L4 l=true->leafAt K i y=some .nil:=by
       intro y l n H ho;obtain⟨c0,a3,b8⟩:=c4k _ _ ag (y-j) l H ho;rw[Yd,show j+(y-j)=y by omega]at a3;rw[e7x b8]at a3;simp[leafAt,O,a3]
      obtain⟨R2,E2⟩:=R1.storeTop (F':=Fl.emp) W u al ⟨o,M⟩ φ U (by
       show RN _ _ φ (I id none) _ _ _;rw[M];simp only[d9v,true_and]at z;exact z)
       (fun x y H=>by
        rcases a0 x y _ H with⟨rfl,n,_,t⟩|⟨_,t⟩
        ·exact hold y _ n t (.inr U)
        ·exact t)
       (fun x y=>x=i/\j<=y/\y<j+(leaves r).length) (fun x y=>kfS y) (fun κ=>F1 κ≠none)
       (fun x y s2 B H=>by
        rcases a0 x y _ H with⟨rfl,n,ac,t⟩|⟨hn,t⟩
        ·obtain⟨y',ab,_,_,_,X⟩:=d (y-j) _ t
         rcases X with⟨V,_⟩|⟨s3,bm,bq,heq,_,_,G,am,ar⟩
         ·simp[isOwn]at V
         ·cases heq
          rw[show j+(y-j)=y by omega]at G;refine .inr ⟨⟨U,n,ac⟩,hold y _ n t (.inl U),by rw[G];simp,_,G,?_,U,U,am⟩;simp only[φ];rw[if_pos (by first|exact⟨rfl,n,ac⟩|exact⟨trivial,n,ac⟩),G]
        ·exact .inl ⟨hn,t,au x y hn⟩)
       (fun x y x' y' s2 e2 s3 e3 _ _ bb bc bg=>⟨bb.1.trans bc.1.symm,c9j _ _ bg⟩)
       (fun hm=>by
        funext q
        simp only[φ];split
        ·rename_i x y
         split
         ·rename_i bp
          have S:y-j<(leaves r).length:=by omega
          obtain⟨y',_,_,_,_,X⟩:=d (y-j) _ (Zg S);rcases X with⟨_,G,_⟩|⟨_,_,_,_,_,Z,_⟩
          ·rw[show j+(y-j)=y by omega]at G
           rw[G]
          ·omega
         ·rfl
        ·rfl)
       (fun κ Q=>U) (fun κ Q=>by
        have:F1 κ=none:=YB fun h=>Q h
        rw[this];rfl)
      exact⟨D1,_,_,run a2,R2⟩
     ·cases hq
    |some q=>
     obtain⟨x0,y0⟩:=q;have a6:P1 (a1.set i (putAt e' j r))=true:=by rcases ah with h|h;cases h;exact h
     simp only[reduceCtorEq,if_false]at d h2;obtain⟨s0,K,u,hp⟩:=N9 h3
     change av (.h id)=_ at u
     rcases hp with⟨hq,_⟩|⟨x1,y1,hq,Y⟩
     ·cases hq
     ·cases hq
      have b4:F1=Fl.emp:=by
       funext κ
       rcases b5 κ with h|⟨k,rfl,Q⟩
       ·exact h
       ·have S:k<(leaves r).length:=by omega
        obtain⟨y',_,_,_,_,X⟩:=d k _ (Zg S);rcases X with⟨_,G,_⟩|⟨_,_,_,_,_,Z,_⟩
        ·exact G
        ·cases Z
      subst b4;cases a5:K[x0]? with
      |none=>simp[leafAt,a5]at Y
      |some ep=>
       simp only[wrNode,Rd.ev_read,u,a5,Y,Rd.ev_ret,Zb]at h5;subst h5;obtain⟨z,a2⟩:=RN.put (φ':=I id) (v:=r) (j:=j) (xs:=J.cells.toList) L hw O (by omega) (by omega) aa
        (fun x y s2 B _ hn=>U)
        (fun x y s2 B b2 o2 a8 E=>by have:=an (by simp) _ _ _ a8;simp[immLeaf]at this)
        (fun k l Q=>by
         obtain⟨y,n,az,b0,b1,X⟩:=d k l Q;refine⟨y,n,?_⟩;rcases X with⟨V,_,a9⟩|⟨_,_,_,_,_,Z,_⟩
         ·cases l with
          |own=>simp[isOwn]at V
          |_=>exact a9
         ·cases Z)
       obtain⟨R2,E2⟩:=R1.storeSub W u al Y ⟨o,M⟩ (Y9 (bx:=(m'=3\/m'=4)) (s:=s0) a5 Y (l:= .own s' (a1.set i (putAt e' j r))) (by intro gs hh;cases hh))
        (by simp) (by rw[M];exact z.unbx (by rintro⟨h,_⟩;cases h)) (a0m a6)
       exact⟨D1,_,_,run a2,R2⟩
   ·simp at h
  ·simp at h
 ·simp at h
theorem c8i(H:∀b,O0 b->A b)(R:Rel Γ w0 A O0 ν0 N Fl.emp D st ν tm w){T:Nat}{a v:AV}{st':St}{va vv:Value}(hs:b5h v=true)
 (h:(b8z P T a v).go C st=some ((),st')) (ha:RS st ν w D a va) (X:RS st ν w D v vv):
 ∃D' a6 w',(Xn T va vv).run P w= .ok () w'/\Rel Γ w0 A O0 ν0 N Fl.emp D' st' a6 tm w':=by
 unfold b8z at h;split at h
 ·rename_i id g i j
  simp only[RW.go_bind,RW.go_up,Za,Zh]at h;obtain⟨_,⟨⟨m,s,es⟩,V,rfl⟩,h⟩:=h;rw[J4]at V;simp only at h;split at h
  ·rename_i hm
   subst hm;split at h
   ·rename_i e he
    simp only[RW.go_bind,RW.go_up,RW.go_wr,F6,Za,Zh]at h;obtain⟨_,⟨_,h4,rfl⟩,h6⟩:=h;obtain⟨a5,hj⟩:=F7 h4;cases h6;obtain⟨d,g2,off,n,rfl⟩:∃d g2 off n,v= .sl d g2 none off n:=by
     cases v with
     |sl d g2 p off n=>cases p with
      |none=>exact⟨_,_,_,_,U⟩
      |some=>simp[b5h]at hs
     |_=>simp[b5h]at hs
    obtain⟨⟨S,cap,rfl,_⟩,_⟩:=X.sl_inv;obtain⟨_,_,_,O⟩:=ha.ptr_inv;obtain⟨b,o,z,rfl⟩:=O _ _ _ V;obtain⟨u,_⟩:=R.node V;rw[z]at u;have I:=u;obtain⟨c,Z,hw,a7,_,_,_⟩:=I;have hi:i<es.length:=(Zq.1 he).1;have W:WStep Γ w (a2l w b (Y4 c (o+i*s+j) [.slice S n cap]) Z) b:=a6q hw (X3 _ _ _);obtain⟨s0,G,E,hp⟩:=N9 V
    change st (.h id)=_ at E
    rcases hp with⟨_,rfl,rfl⟩|⟨_,_,hq,_⟩
    ·have Q:=RN.put (φ':=ν id) (v:= .sl d g2 none off n) (j:=j) (xs:=[.slice S n cap]) u hw he Nat.one_pos (by show j+1<=_;exact hj) U
      (fun x y s2 t _ hn=>U)
      (fun x y s2 t b2 o2 a4 a0=>R.hlt E (p:=some (x,y)) (fun q hq=>by cases hq;exact⟨s2,t,a4⟩) a0)
      (fun k l K=>by
       match k,K with
       |0,K=>
        cases K;exact⟨_,U,X⟩)
     obtain⟨L,a1⟩:=Q;have r:∀x y l,leafAt (G.set i (putAt e j (.sl d g2 none off n))) x y=some l->l= .sl d g2 none off n\/leafAt G x y=some l:=by
      intro x y l f;rw[a1m hi]at f;split at f
      ·rename_i hx
       subst hx;rw[b3l (e:=e) (v:= .sl d g2 none off n) (j:=j) Nat.one_pos (by show j+1<=_;exact hj)]at f;split at f
       ·rename_i Y
        have h0:y-j=0:=by have:y<j+1:=Y.2;omega
        rw[h0]at f;cases f;exact .inl U
       ·rename_i Y;exact .inr (by simpa[leafAt,he]using f)
      ·rename_i hx;exact .inr f
     obtain⟨inf,J,B⟩:=a7w (P:=P) (T:=T) (by omega);obtain⟨R2,E2⟩:=R.storeTop (F':=Fl.emp) W E (by decide) ⟨o,z⟩ (ν id) U (by
      rw[z];simpa only[d9v,true_and]using L)
      (fun x y f=>by
       rcases r x y _ f with h|h
       ·cases h
       ·exact h)
      (fun _ _=>False) (fun _ _=>(0,0,0)) (fun _=>False)
      (fun x y s2 t f=>by
       rcases r x y _ f with h|h
       ·cases h
       ·exact .inl ⟨fun h=>h,h,U⟩)
      (fun x y x' y' s2 e2 s3 e3 _ _ a3=>a3.elim) (fun _=>U) (fun κ K=>K.elim) (fun κ _=>U)
     refine⟨D,_,_,?_,R2⟩;have a2:¬(Value.slice S n cap).cells.size≠inf.size:=by rw[<-B,a5];exact fun h=>h U
     simp only[Xn,Instr.sureAddr,storeVar,ZD,ZO,Zu,L7 J,a2,if_false];have M:∀y∈(Value.slice S n cap).cells.toList,y.oneCell'=true:=by
      intro y Y;have:y= .slice S n cap:=by simpa[Value.cells]using Y
      subst this;rfl
     rw[a0n P _ 0 c w hw M (by simpa[Value.cells]using a1)];simp[Value.cells]
    ·cases hq
   ·simp at h
  ·exact a7t H R h ha X
 ·exact a7t H R h ha X
end
section
variable{P:Program}{C:Caller}{Γ:Env}{w0:World}{A O0:Nat->Prop}{ν0:Nu}{N:Nat}{D:Nat->Prop}{st:St}{ν:Nu}{tm:Array Value}{w:World}
def ELS(F:Fl)(σ:Nat->Nat->FK)(st:St)(ν:Nu)(w:World)(D:Nat->Prop)(s:Nat)(es:List AV)(c:Array Value):Prop:=
 (∀e∈es,(leaves e).length=s)/\es.length*s<=c.size/\
 (∀i j l,leafAt es i j=some l->∃v,c[i*s+j]? =some v/\((isOwn l=false/\RS st ν w D l v)\/
  ∃f a φ,l= .own f a/\F (σ i j)=some ⟨φ,f,a⟩/\a2k a/\SlV w (φ none) f 0 a.length v))/\
 (∀i j b d s1 g s2 h,leafAt es i j=some (.own s1 g)->leafAt es b d=some (.own s2 h)->σ i j=σ b d->i=b/\j=d)
open Classical in
theorem Rel.newObj{F:Fl}(R:Rel Γ w0 A O0 ν0 N F D st ν tm w){id g m0 s:Nat}{es:List AV}{c:Array Value}{σ:Nat->Nat->FK}(ety:TypeId)
 (hg:I6 (st (.h id))<g) (L:m0=0\/m0=3/\es.length<=1) (J:ELS F σ st ν w D s es c) {κ0:FK} (z:F κ0=none):
 ∃p,Rel Γ w0 A O0 ν0 N Fl.emp D (st.upd (.h id) (.obj g m0 s es)) p tm (w.alloc (.cells c ety (0,0)))/\
  Ext st ν w (st.upd (.h id) (.obj g m0 s es)) p (w.alloc (.cells c ety (0,0)))/\p id none=some (w.heap.size,0):=by
 obtain⟨hs,M,S,O⟩:=J;have W:=d2u (Γ:=Γ) w (.cells c ety (0,0))
 let φ:Path->Base:=fun q=>match q with
  |some (x,y)=>(match F (σ x y)with|some f=>f.φ none|none=>none)
  |none=>some (w.heap.size,0)
 have B:∀i j E e a,F (σ i j)=some ⟨a,E,e⟩->φ (some (i,j))=a none:=by
  intro i j E e a h;simp only[φ];rw[h]
 have r:∀G f b o,F G=some f->f.φ none=some (b,o)->b<w.heap.size:=fun G f b o m H=>
  R.live_lt (k:= .fl G none) ⟨_,m,fun _ hq=>by cases hq⟩ (by simp only[baseOf,m];exact H)
 have Z:=R.compose (F':=fun k=>if k=κ0 then some ⟨φ,s,es⟩else none) W (fun G=>F G≠none) κ0 (.inl z) ⟨φ,s,es⟩ none (fun i j=>(σ i j,none)) ⟨0,U⟩ (.inl ⟨U,Zd _⟩)
  (by
   refine⟨c,ety,heap_alloc_new w _,by simpa using M,fun _=>hs,fun h=>h.elim,fun i j l n=> ?_⟩;obtain⟨v,X,I⟩:=S i j l n;refine⟨v,by simpa using X,?_⟩;rcases I with⟨d,V⟩|⟨E,e,a,rfl,m,d,u⟩
   ·cases l with
    |own=>simp[isOwn]at d
    |_=>exact V
   ·exact SlV.mono u (B i j E e a m) (fun b o H=>W.cs b (r _ _ b o m H)))
  (fun i j E e n=>by
   obtain⟨v,X,I⟩:=S i j _ n;rcases I with⟨d,V⟩|⟨s1,a0,a,heq,m,d,u⟩
   ·simp[isOwn]at d
   ·cases heq
    refine⟨by rw[m];simp,⟨_,m,(fun _ hq=>by cases hq),(B i j _ _ a m).symm,?_⟩,d⟩;exact(R.flos _ _ m).top)
  (fun i j i' j' s1 e1 s2 e2 h1 h2 h=>O i j i' j' s1 e1 s2 e2 h1 h2 (congrArg Prod.fst h))
  (fun kt h=>by cases h) (by simp) (fun k K t=>by simp[K]) (fun k K t=>by
   have:F k=none:=YB fun h=>t h
   simp[K,this])
 obtain⟨Q,Y⟩:=Z.attach (κ:=κ0) (f:=⟨φ,s,es⟩) (by simp) id g hg m0 L;have hF:(Fl.set (fun k=>if k=κ0 then some ⟨φ,s,es⟩else none) κ0 none)=Fl.emp:=by
  funext k
  by_cases h:k=κ0<;>simp[Fl.set,Fl.emp,h]
 rw[hF]at Q;exact⟨_,Q,(R.extW W).trans Y,by rw[Nu.set_eq]⟩
theorem e1x(st:St)(a:Nu)(w:World)(D:Nat->Prop)(id g m s:Nat)(es:List AV)(b:Nat)(h:a id none=some (b,0)):
 RS (st.upd (.h id) (.obj g m s es)) a w D (.ptr id g none 0 0) (.pointer (some ⟨b,0,none⟩)):=by
 refine .ptr id g none 0 0 _ ⟨_,_,U⟩ (by rw[St.upd_eq];exact Zd _) (fun _ _ _ _ _ _ hq=>by cases hq) fun e f c d=> ?_
 exact⟨b,0,h,by simp⟩
theorem e9x(st:St)(a:Nu)(w:World)(D:Nat->Prop)(id g m s:Nat)(es:List AV)(b n cap:Nat)(h:a id none=some (b,0))(d:n<=cap)(f:cap*s<=csize w b):
 RS (st.upd (.h id) (.obj g m s es)) a w D (.sl id g none 0 n) (.slice (some ⟨b,0,none⟩) n cap):=by
 refine .sl id g none 0 n _ ⟨_,_,U,d⟩ (by rw[St.upd_eq];exact Zd _) (fun _ _ _ _ _ _ hq=>by cases hq) fun i j e c=> ?_
 unfold nodeAt at c;rw[St.upd_eq]at c;simp only[if_true,Zb,Zk]at c;obtain⟨_,rfl,_⟩:=c;exact⟨_,cap,U,d,.inr ⟨b,0,h,by simp,by simpa using f⟩⟩
theorem a7i(w:World)(c:Array Value)(ety:TypeId):csize (w.alloc (.cells c ety (0,0))) w.heap.size=c.size:=by
 unfold csize;rw[heap_alloc_new]
theorem e1h{T:Nat}(a:O7 (tyS P T).zero=true):∃(i:TypeInfo) (v:Value),P.info? T=some i/\i.zero=some v/\(tyS P T).zero=ofConst v/\
 (tyS P T).size=i.size/\(tyS P T).bytes=i.bytes/\RL st ν w D (leaves (tyS P T).zero) v.cells.toList:=by
 unfold tyS at a|-;cases c:P.info? T with
 |none=>simp[c,O7]at a
 |some i=>
  simp only[c]at a|-;cases b:i.zero with
  |none=>simp[b,O7]at a
  |some v=>
   simp only[b]at a|-;exact⟨i,v,U,b,U,U,U,d3d (.data _ _ (RV.ofConst v)) a⟩
theorem RS.notOwn{a:AV}{v:Value}(h:RS st ν w D a v):isOwn a=false:=by
 cases h with
 |data _ _ h=>cases h<;>rfl
 |_=>rfl
theorem e3a{a:AV}{v:Value}{F:Fl}{σ:Nat->Nat->FK}(h:RL st ν w D (leaves a) v.cells.toList):ELS F σ st ν w D (leaves a).length [a] v.cells:=by
 refine⟨fun e he=>by simp at he;rw[he],by have:=h.1;simp at this;simp;omega,fun i j l d=> ?_,fun i j m n s1 g s2 k c _ _=> ?_⟩
 ·cases i with
  |succ i=>simp[leafAt]at d
  |zero=>
   simp only[leafAt,Zs,Zl]at d;obtain⟨x,f,b⟩:=h.2 j l d;exact⟨x,by simpa using f,.inl ⟨b.notOwn,b⟩⟩
 ·cases i with
  |succ i=>simp[leafAt]at c
  |zero=>
   simp only[leafAt,Zs,Zl]at c;obtain⟨x,f,b⟩:=h.2 j _ c;have:=b.notOwn;simp[isOwn]at this
theorem d3x(R:Rel Γ w0 A O0 ν0 N Fl.emp D st ν tm w){T d g:Nat}(j:I6 (st (.h d))<g)(c:(leaves (tyS P T).zero).length=(tyS P T).size)(l:O7 (tyS P T).zero=true):
 ∃a w',(Instr.alloc T true (.tuple #[])).run P w= .ok (.pointer (some ⟨w.heap.size,0,none⟩)) w'/\
  Rel Γ w0 A O0 ν0 N Fl.emp D (st.upd (.h d) (.obj g 3 (tyS P T).size [(tyS P T).zero])) a tm w'/\
  RS (st.upd (.h d) (.obj g 3 (tyS P T).size [(tyS P T).zero])) a w' D (.ptr d g none 0 0) (.pointer (some ⟨w.heap.size,0,none⟩)):=by
 obtain⟨i,v,k,n,o,_,_,m⟩:=e1h (P:=P) (st:=st) (ν:=ν) (w:=w) (D:=D) l;have b:ELS Fl.emp (fun _ _=>(0,0,0)) st ν w D (tyS P T).size [(tyS P T).zero] v.cells:=by
  have:=e3a (F:=Fl.emp) (σ:=fun _ _=>(0,0,0)) m;rwa[c]at this
 obtain⟨a,f,E,e⟩:=R.newObj (m0:=3) T j (.inr ⟨U,by simp⟩) b (κ0:=(0,0,0)) U;refine⟨a,_,?_,f,e1x _ _ _ _ _ _ _ _ _ _ e⟩;simp only[Instr.alloc,ZD,a5o k n,Zu];simp[newVar,newRow]
theorem e3m(s:∀b,O0 b->A b)(R:Rel Γ w0 A O0 ν0 N Fl.emp D st ν tm w){d:Nat}{cs:List AV}{v j:AV}{a:St}{o:Value}(T:Nat)
 (h:(absorb 3 d 0 cs v).go C st=some (j,a)) (V:RS st ν w D v o) {g:Nat} (O:I6 (a (.h d))<g):
 ∃D' e w',(Instr.box T o).run P w= .ok (.pointer (some ⟨w.heap.size,0,none⟩)) w'/\
  Rel Γ w0 A O0 ν0 N Fl.emp D' (a.upd (.h d) (.obj g 3 (leaves v).length [j])) e tm w'/\
  RS (a.upd (.h d) (.obj g 3 (leaves v).length [j])) e w' D' (.ptr d g none 0 0) (.pointer (some ⟨w.heap.size,0,none⟩)):=by
 obtain⟨H,D1,m,J,Y,K,hlen,x,L,r,n,c⟩:=a6s s c9j R (fun _ _=>U) h V;have t:RL a m w D1 (leaves j) o.cells.toList:=by
  refine⟨by simp[x,hlen],fun i l Q=> ?_⟩;obtain⟨y,W,_,_,_,u⟩:=c i l Q;rcases u with⟨_,_,S⟩|⟨_,_,_,_,_,f,_⟩
  ·exact⟨y,W,S⟩
  ·cases f
 have p:H=Fl.emp:=by
  funext X
  rcases r X with h|⟨k,rfl,Z⟩
  ·exact h
  ·have B:k<(leaves j).length:=by omega
   obtain⟨y',_,_,_,_,u⟩:=c k _ (Zg B);rcases u with⟨_,M,_⟩|⟨_,_,_,_,_,f,_⟩
   ·exact M
   ·cases f
 subst p;have z:ELS Fl.emp (fun _ _=>(0,0,0)) a m w D1 (leaves v).length [j] o.cells:=by
  have:=e3a (F:=Fl.emp) (σ:=fun _ _=>(0,0,0)) t;rwa[hlen]at this
 obtain⟨e,I,E,G⟩:=J.newObj (m0:=3) T O (.inr ⟨U,by simp⟩) z (κ0:=(0,0,0)) U;exact⟨D1,e,_,by simp[Instr.box,newVar,newRow],I,e1x _ _ _ _ _ _ _ _ _ _ G⟩
theorem c6w{T n:Nat}{v:Value}{F:Fl}{σ:Nat->Nat->FK}(p:RL st ν w D (leaves (tyS P T).zero) v.cells.toList)(h:(leaves (tyS P T).zero).length=(tyS P T).size)
 (s:Array Value) (r:n*(tyS P T).size≠0->s=v.cells):
 ELS F σ st ν w D (tyS P T).size (ZP n (tyS P T).zero) ((Array.range (n*(tyS P T).size)).map (s[· %s.size]!)):=by
 have c:∀i j l,leafAt (ZP n (tyS P T).zero) i j=some l->i<n/\(leaves (tyS P T).zero)[j]? =some l:=by
  intro i j l d;unfold leafAt at d;rw[List.getElem?_replicate]at d;split at d
  ·rename_i o;exact⟨o,d⟩
  ·simp at d
 have m:v.cells.size=(tyS P T).size:=by have:=p.1;simp at this;omega
 refine⟨fun e he=>by rw[List.eq_of_mem_replicate he];exact h,by simp,fun i j l d=> ?_,fun i j H I s1 E s2 G u _ _=> ?_⟩
 ·obtain⟨o,a⟩:=c i j l d
  obtain⟨x,t,b⟩:=p.2 j l a;have z:j<(tyS P T).size:=by rw[<-h];exact(Zq.1 a).1
  have y:i*(tyS P T).size+j<n*(tyS P T).size:=by
   have:=ZS (tyS P T).size (show i+1<=n from o);rw[Yk]at this;omega
  refine⟨x,?_,.inl ⟨b.notOwn,b⟩⟩;have B:=r (by omega);subst B;have k:v.cells[j]? =some x:=by simpa using t
  have f:j<v.cells.size:=by omega
  rw[Array.getElem?_map,Array.getElem?_range,if_pos y];simp only[ZA,Zb];have g:(i*(tyS P T).size+j)%v.cells.size=j:=by
   rw[m,Nat.add_comm,Nat.add_mul_mod_self_right,Nat.mod_eq_of_lt z]
  rw[g,getElem!_pos v.cells j f];rw[Array.getElem?_eq_getElem f]at k;exact Option.some.inj k
 ·obtain⟨_,a⟩:=c i j _ u
  obtain⟨x,t,b⟩:=p.2 j _ a;have:=b.notOwn;simp[isOwn]at this
theorem b7a(R:Rel Γ w0 A O0 ν0 N Fl.emp D st ν tm w){T E id n:Nat}{k k':IntKind}(t:(tyS P T).k= .slice E)(r:n<=H0)(u:(tyS P E).bytes<=4096)
 (o:(leaves (tyS P E).zero).length=(tyS P E).size) (y:O7 (tyS P E).zero=true) {g:Nat} (x:I6 (st (.h id))<g):
 ∃a w',(Instr.makeSlice T (.int k n) (.int k' n)).run P w= .ok (.slice (some ⟨w.heap.size,0,none⟩) n n) w'/\
  Rel Γ w0 A O0 ν0 N Fl.emp D (st.upd (.h id) (.obj g 0 (tyS P E).size (ZP n (tyS P E).zero))) a tm w'/\
  RS (st.upd (.h id) (.obj g 0 (tyS P E).size (ZP n (tyS P E).zero))) a w' D (.sl id g none 0 n) (.slice (some ⟨w.heap.size,0,none⟩) n n):=by
 obtain⟨i,v,f,B,G,b,l,z⟩:=e1h (P:=P) (st:=st) (ν:=ν) (w:=w) (D:=D) y
 let j:Array Value:=if n*i.size=0 then #[]else v.cells
 have m:=c6w (P:=P) (F:=Fl.emp) (σ:=fun _ _=>(0,0,0)) (n:=n) z o j (fun h=>by simp only[j];rw[if_neg (by rw[<-b];exact h)]);obtain⟨a,s,H,p⟩:=R.newObj (m0:=0) E x (.inl U) m (κ0:=(0,0,0)) U;refine⟨a,_,?_,s,e9x _ _ _ _ _ _ _ _ _ _ _ _ p (Zd _) (by rw[a7i];simp)⟩;have hw:Yt.wrap (n:Int)=n:=a2s ⟨by have:Yt.min= -9223372036854775808:=rfl;omega,by have:Yt.max=9223372036854775807:=rfl;have K:n<=4294967296:=r;omega⟩;have c:¬((i.bytes:Int)*(n:Int)>2^48):=by
  have I:i.bytes*n<=4096*4294967296:=Nat.mul_le_mul (l▸u) r;have J:((i.bytes*n:Nat):Int)=(i.bytes:Int)*(n:Int):=Int.natCast_mul _ _;omega
 have d:¬((n:Int)<0):=by omega
 simp only[Instr.makeSlice,asInt,asIntOf,ZD,ZO,Zu,I8 (O4 t),b8e f,hw,c,d,L7 f];simp only[decide_false,Bool.or_false,ZZ,if_false,Int.lt_irrefl,gt_iff_lt,ZD,run_askRoom,Zu,L7 f,Int.toNat_natCast];by_cases e:n*i.size=0
 ·simp only[e,if_true,ZO,Zu,ZD,newRow,run_newObj]
  simp[j,e,b]
 ·simp only[e,if_false,ZD,a5o f B,ZO,Zu,newRow,run_newObj]
  simp[j,e,b]
end
section
variable{P:Program}{C:Caller}{Γ:Env}{w0:World}{A O0:Nat->Prop}{ν0:Nu}{N:Nat}{D:Nat->Prop}{st:St}{ν:Nu}{tm:Array Value}{w:World}
def kfQ(q:Nat)(k:Nat):FK:=(q,k,0)
theorem e1t(q:Nat):∀i j,kfQ q i=kfQ q j->i=j:=by
 intro i j h;simp only[kfQ,Zk]at h;exact h.2.1
theorem c4v(a6:∀b,O0 b->A b){mk s:Nat}{ds:List Deferred}:∀(parts:List (Nat×Operand)) (q:Nat) (es:List AV) (c:Array Value) (F:Fl) (D:Nat->Prop) (st:St) (ν:Nu) (σ:Nat->Nat->FK)
 (r:List AV) (st':St),Rel Γ w0 A O0 ν0 N F D st ν tm w->(∀κ:FK,q<=κ.1->F κ=none)->ELS F σ st ν w D s es c->
 (∀i j s1 X,leafAt es i j=some (.own s1 X)->(σ i j).1<q)->(a0x mk s es parts).go C st=some (r,st')->
 ∃F' D' J ac c',Instr.fill (fun i=>some (i*s,s)) c (parts.map fun x=>(x.1,(Yu tm ds).eval x.2))=some c'/\
  Rel Γ w0 A O0 ν0 N F' D' st' J tm w/\Ext st ν w st' J w/\ELS F' ac st' J w D' s r c'/\(∀κ:FK,q+parts.length<=κ.1->F' κ=none):=by
 intro parts
 induction parts with
 |nil=>
  intro q es c F D st ν σ r st' R Y E hq h;simp only[a0x,RW.go_pure,Zb,Zk]at h;obtain⟨rfl,rfl⟩:=h;exact⟨F,D,ν,σ,c,U,R,Ext.refl _ _ _,E,by simpa using Y⟩
 |cons p parts ih=>
  obtain⟨i,x⟩:=p;intro q es c F D st ν σ r st' R Y E hq h;simp only[a0x,RW.go_bind,RW.go_up,F6,Za,Zh]at h;obtain⟨_,⟨v,h1,rfl⟩,_,⟨_,h2,rfl⟩,⟨v',V⟩,h3,h4⟩:=h;obtain⟨S,hi⟩:=F7 h2;have aa:=G5 h1 R (ds:=ds);obtain⟨F1,D1,W,R1,E1,a3,hlen,a7,M,af,a0,G⟩:=a6s a6 (e1t q) R (fun k _=>Y _ (Zd _)) h3 aa;obtain⟨X,e2,e3,e4⟩:=E;have o:((Yu tm ds).eval x).cells.size=s:=by rw[a7,S]
  have ae:i*s+s<=c.size:=by
   have:=ZS s (show i+1<=es.length from hi);rw[Yk]at this;omega
  let d:Nat->Nat->FK:=fun x y=>if x=i then kfQ q y else σ x y
  have Q:ELS F1 d V W w D1 s (es.set i v') (Y4 c (i*s) ((Yu tm ds).eval x).cells.toList):=by
   refine⟨fun e he=> ?_,by rw[X3];simpa using e2,fun a b l g=> ?_,fun a b a' b' s1 I s2 x2 K L he=> ?_⟩
   ·rcases List.mem_or_eq_of_mem_set he with h|h
    ·exact X e h
    ·subst h;rw[hlen,S]
   ·rw[a1m hi]at g
    rw[a5p _ _ _ _ (by simp only[Array.length_toList];omega)];simp only[Array.length_toList,o];split at g
    ·rename_i f
     subst f;obtain⟨y,hy,a8⟩:=G b l g;have hb:b<s:=by have:=(Zq.1 g).1;omega
     refine⟨y,by rw[if_pos (by omega),show a*s+b-a*s=b by omega];exact hy,?_⟩;obtain⟨_,_,_,hc⟩:=a8;rcases hc with⟨n,_,hr⟩|⟨s1,z,φ,rfl,_,_,Z,n,H⟩
     ·exact .inl ⟨n,hr⟩
     ·refine .inr ⟨s1,z,φ,U,?_,n,H⟩
      simp only[d,if_true];rw[ZL]at Z;exact Z
    ·rename_i f
     obtain⟨y,hy,hc⟩:=e3 a b l g;have hb:b<s:=by
      unfold leafAt at g;cases B:es[a]? with
      |none=>simp[B]at g
      |some ea=>
       simp only[B,Zl]at g;have:=(Zq.1 g).1;rw[X ea (Zx B)]at this;exact this
     refine⟨y,?_,?_⟩
     ·rw[if_neg]
      ·exact hy
      ·rintro⟨a1,a2⟩
       rcases Nat.lt_or_gt_of_ne f with h'|h'
       ·have:=ZS s (show a+1<=i by omega)
        rw[Yk]at this;omega
       ·have:=ZS s (show i+1<=a by omega)
        rw[Yk]at this;omega
     ·rcases hc with⟨n,hr⟩|⟨s1,z,φ,rfl,Z,n,H⟩
      ·exact .inl ⟨n,hr.same E1 a3⟩
      ·refine .inr ⟨s1,z,φ,U,?_,n,H⟩
       simp only[d,f,if_false];rw[M (σ a b) (fun k _ e=> ?_)]
       ·exact Z
       ·have:=hq _ _ _ _ g
        rw[e]at this;simp only[kfQ]at this;omega
   ·have key:∀a b s1 I,leafAt (es.set i v') a b=some (.own s1 I)->(a≠i->leafAt es a b=some (.own s1 I)):=by
     intro a b s1 I g f;rw[a1m hi,if_neg f]at g;exact g
    by_cases f:a=i<;>by_cases m:a'=i
    ·simp only[d,f,m,if_true]at he
     exact⟨f.trans m.symm,e1t _ _ _ he⟩
    ·simp only[d,f,m,if_true,if_false]at he
     have:=hq _ _ _ _ (key _ _ _ _ L m);rw[<-he]at this;simp only[kfQ]at this;omega
    ·simp only[d,f,m,if_true,if_false]at he
     have:=hq _ _ _ _ (key _ _ _ _ K f);rw[he]at this;simp only[kfQ]at this;omega
    ·simp only[d,f,m,if_false]at he
     exact e4 _ _ _ _ _ _ _ _ (key _ _ _ _ K f) (key _ _ _ _ L m) he
  have a4:∀κ:FK,q+1<=κ.1->F1 κ=none:=by
   intro κ u;rw[M κ (fun k _ e=>by rw[e]at u;simp only[kfQ]at u;omega)];exact Y κ (by omega)
  have a9:∀a b s1 I,leafAt (es.set i v') a b=some (.own s1 I)->(d a b).1<q+1:=by
   intro a b s1 I g;simp only[d];split
   ·simp[kfQ]
   ·rename_i f
    rw[a1m hi,if_neg f]at g;have:=hq _ _ _ _ g;omega
  obtain⟨F2,D2,ab,ad,c2,f1,R2,E2,O,a5⟩:=ih (q+1) _ _ F1 D1 V W d r st' R1 a4 Q a9 h4;refine⟨F2,D2,ab,ad,c2,?_,R2,E1.trans E2,O,fun κ u=>a5 κ (by simp only[Ze]at u;omega)⟩;simp only[Zz,Instr.fill];have t:((((Yu tm ds).eval x).cells.size≠s||i*s+((Yu tm ds).eval x).cells.size>c.size):Bool)=false:=by
   simp[o];omega
  simp only[ne_eq,decide_not]at t|-;rw[t];simp only[ZZ,if_false];rw[b4r];exact f1
theorem b3x(z:∀b,O0 b->A b)(R:Rel Γ w0 A O0 ν0 N Fl.emp D st ν tm w){ds:List Deferred}{T E n mk:Nat}{parts:Array (Nat×Operand)}{es:List AV}{c:St}
 (O:(tyS P T).k= .slice E) (hn:n*(tyS P E).size<=16777216) (H:(leaves (tyS P E).zero).length=(tyS P E).size) (V:O7 (tyS P E).zero=true)
 (h:(a0x mk (tyS P E).size (ZP n (tyS P E).zero) parts.toList).go C st=some (es,c)) {id g:Nat} (S:I6 (c (.h id))<g) (X:0<(tyS P E).size):
 ∃D' d w',(Instr.buildSlice T n (parts.map fun x=>(x.1,(Yu tm ds).eval x.2))).run P w= .ok (.slice (some ⟨w.heap.size,0,none⟩) n n) w'/\
  Rel Γ w0 A O0 ν0 N Fl.emp D' (c.upd (.h id) (.obj g 0 (tyS P E).size es)) d tm w'/\
  RS (c.upd (.h id) (.obj g 0 (tyS P E).size es)) d w' D' (.sl id g none 0 n) (.slice (some ⟨w.heap.size,0,none⟩) n n):=by
 obtain⟨i,v,J,Y,Z,e,Q,W⟩:=e1h (P:=P) (st:=st) (ν:=ν) (w:=w) (D:=D) V
 let l:Array Value:=if n*i.size=0 then #[]else v.cells
 have G:=c6w (P:=P) (F:=Fl.emp) (σ:=fun _ _=>(0,0,0)) (n:=n) W H l (fun h=>by simp only[l];rw[if_neg (by rw[<-e];exact h)]);obtain⟨F1,D1,a0,a1,M,f1,L,E1,r,u⟩:=c4v z (ds:=ds) parts.toList 1 _ _ Fl.emp D st ν _ es c R (fun _ _=>U) G
  (fun i j s1 e1 hl=>by decide) h
 have B:n*(tyS P E).size<=M.size:=by
  have f:∀(t:List (Nat×Value)) (c0 s:Array Value),Instr.fill (fun i=>some (i*(tyS P E).size,(tyS P E).size)) c0 t=some s->s.size=c0.size:=by
   intro t
   induction t with
   |nil=>intro c0 s h;simp only[Instr.fill,Zb]at h;rw[h]
   |cons p t ih=>
    obtain⟨a,y⟩:=p;intro c0 s h;simp only[Instr.fill]at h;split at h
    ·cases h
    ·rw[b4r]at h
     rw[ih _ _ h,X3]
  rw[f _ _ _ f1];simp
 obtain⟨d,K,Ex,I⟩:=L.newObj (m0:=0) E S (.inl U) r (κ0:=(1+parts.toList.length,0,0)) (u _ (Zd _));refine⟨D1,d,_,?_,K,e9x _ _ _ _ _ _ _ _ _ _ _ _ I (Zd _) (by rw[a7i];exact B)⟩;have o:¬(n*i.size>2^24):=by rw[<-e];omega
 rw[e]at f1;simp only[Instr.buildSlice,ZD,I8 (O4 O),Zu,L7 J,o,if_false,ZO];by_cases m:n*i.size=0
 ·simp only[m,if_true,ZO,Zu,ZD,newRow,run_newObj]
  have:l= #[]:=by simp only[l,m,if_true]
  rw[this,m]at f1;simp only[YW,f1];simp
 ·simp only[m,if_false,ZD,a5o J Y,ZO,Zu,newRow,run_newObj]
  have:l=v.cells:=by simp only[l,m,if_false]
  rw[this]at f1;simp only[YW,f1];simp
theorem Rel.rename(R:Rel Γ w0 A O0 ν0 N Fl.emp D st ν tm w){id X g g' m s:Nat}{es:List AV}(h:st (.h id)= .obj g m s es)(hm:m=0\/m=3)(a0:id≠X)
 (I:I6 (st (.h X))<g'):
 Rel Γ w0 A O0 ν0 N Fl.emp D ((st.upd (.h id) (.dead g)).upd (.h X) (.obj g' m s es)) (ν.set X (ν id)) tm w/\
  Ext st ν w ((st.upd (.h id) (.dead g)).upd (.h X) (.obj g' m s es)) (ν.set X (ν id)) w:=by
 have V:Ext st ν w (st.upd (.h id) (.dead g)) ν w:=R.extUpd (by rw[h];exact Zd _) (by intro _ _ _ _ e;cases e) (fun _ _=>U) (fun _ _=>U);have n:∀i g1 m1 s1 c,((st.upd (.h id) (.dead g)).upd (.h X) (.obj g' m s es)) (.h i)= .obj g1 m1 s1 c->
  (i=X/\g1=g'/\m1=m/\s1=s/\c=es)\/(i≠X/\i≠id/\st (.h i)= .obj g1 m1 s1 c):=by
  intro i g1 m1 s1 c l;by_cases e:i=X
  ·subst e;rw[St.upd_eq]at l;cases l;exact .inl ⟨U,U,U,U,U⟩
  ·rw[N4 _ _ _ e]at l
   by_cases t:i=id
   ·subst t;rw[St.upd_eq]at l;cases l
   ·rw[N4 _ _ _ t]at l;exact .inr ⟨e,t,l⟩
 have E:Ext st ν w ((st.upd (.h id) (.dead g)).upd (.h X) (.obj g' m s es)) (ν.set X (ν id)) w:=by
  refine⟨fun i=> ?_,fun i g1 m1 s1 c hg l=> ?_⟩
  ·by_cases e:i=X
   ·subst e;rw[St.upd_eq];exact Nat.le_of_lt I
   ·rw[N4 _ _ _ e];exact V.stamps i
  ·rcases n _ _ _ _ _ l with⟨rfl,rfl,_⟩|⟨r,t,d⟩
   ·omega
   ·exact⟨m1,c,d,by rw[Nu.set_ne _ _ r],fun _ _ _=>U,fun x y=>⟨fun z=>z,fun s2 G z=> .inr ⟨G,z,by rw[Nu.set_ne _ _ r],fun _ _ _=>U⟩⟩⟩
 have M:∀a v,RS st ν w D a v->RS ((st.upd (.h id) (.dead g)).upd (.h X) (.obj g' m s es)) (ν.set X (ν id)) w D a v:=fun a v h=>h.same E (fun _ u=>u)
 refine⟨R.ghost (fun i=>by rw[U9,U9]) E (fun _ u=>u) ?_ ?_ (fun k f Z=>by cases Z) (fun k=>match k with| .nd i p=>if i=X then .nd id p else .nd i p| .fl k p=> .fl k p) ?_ ?_ (fun b u Y=>(Y u).elim) ?_,E⟩
 ·intro i g1 m1 s1 c l
  rcases n _ _ _ _ _ l with⟨rfl,rfl,rfl,rfl,rfl⟩|⟨r,t,d⟩
  ·rw[Nu.set_eq]
   exact(R.objs id g m1 s1 c h).mono U (fun _ _ _ _ _=>U) (fun _ _ _=>U) (fun _ _ _ _ _ _ _ _=>U) M
  ·rw[Nu.set_ne _ _ r]
   exact(R.objs i g1 m1 s1 c d).mono U (fun _ _ _ _ _=>U) (fun _ _ _=>U) (fun _ _ _ _ _ _ _ _=>U) M
 ·intro i g1 s1 c l
  rcases n _ _ _ _ _ l with⟨rfl,rfl,rfl,rfl,rfl⟩|⟨r,t,d⟩
  ·omega
  ·rw[Nu.set_ne _ _ r];exact R.frozen i g1 s1 c d
 ·intro k b o O u
  cases k with
  |fl k p=>obtain⟨f,B,_⟩:=O;cases B
  |nd i p=>
   obtain⟨g1,m1,s1,c,B,H,L⟩:=O;rcases n _ _ _ _ _ B with⟨rfl,rfl,rfl,rfl,rfl⟩|⟨r,t,d⟩
   ·simp only[baseOf,Nu.set_eq]at u
    simp only[if_true];exact⟨o,⟨g,m1,s1,c,h,H,L⟩,u⟩
   ·simp only[baseOf,Nu.set_ne _ _ r]at u
    simp only[r,if_false];exact⟨o,⟨g1,m1,s1,c,d,H,L⟩,u⟩
 ·intro k1 k2 Q S he
  cases k1 with
  |fl k p=>obtain⟨f,B,_⟩:=Q;cases B
  |nd i p=>
   cases k2 with
   |fl k p=>obtain⟨f,B,_⟩:=S;cases B
   |nd j q=>
    obtain⟨g1,m1,s1,c,B,_⟩:=Q;obtain⟨g2,m2,s2,G,H,_⟩:=S;rcases n _ _ _ _ _ B with⟨rfl,_⟩|⟨r,t,_⟩<;>rcases n _ _ _ _ _ H with⟨rfl,_⟩|⟨K,W,_⟩
    ·simp only[if_true]at he;cases he;rfl
    ·simp only[if_true,K,if_false]at he;cases he;exact(W U).elim
    ·simp only[if_true,r,if_false]at he;cases he;exact(t U).elim
    ·simp only[r,K,if_false]at he;exact he
 ·intro i g1 m1 s1 c l J
  rcases n _ _ _ _ _ l with⟨rfl,rfl,rfl,rfl,rfl⟩|⟨r,t,d⟩
  ·omega
  ·rw[Nu.set_ne _ _ r];exact R.io i g1 m1 s1 c d J
theorem Rel.newEmpty(R:Rel Γ w0 A O0 ν0 N Fl.emp D st ν tm w){X g' s:Nat}(m:I6 (st (.h X))<g'):
 Rel Γ w0 A O0 ν0 N Fl.emp D (st.upd (.h X) (.obj g' 0 s [])) (ν.set X fun _=>none) tm w/\Ext st ν w (st.upd (.h X) (.obj g' 0 s [])) (ν.set X fun _=>none) w:=by
 have E:Ext st ν w (st.upd (.h X) (.obj g' 0 s [])) (ν.set X fun _=>none) w:=
  R.extUpd (Nat.le_of_lt m) (by intro _ _ _ _ e;cases e;exact m) (fun i d=>Nu.set_ne _ _ d) (fun _ _=>U)
 have z:∀a v,RS st ν w D a v->RS (st.upd (.h X) (.obj g' 0 s [])) (ν.set X fun _=>none) w D a v:=fun a v h=>h.same E (fun _ g=>g)
 have l:∀i g1 m1 s1 c,i≠X->st.upd (.h X) (.obj g' 0 s []) (.h i)= .obj g1 m1 s1 c->st (.h i)= .obj g1 m1 s1 c:=by
  intro i g1 m1 s1 c e d;rw[N4 _ _ _ e]at d;exact d
 refine⟨R.ghost (fun i=>U9 _ _ _ _) E (fun _ g=>g) ?_ ?_ (fun k f G=>by cases G) id ?_ (fun _ _ _ _ h=>h) (fun b g B=>(B g).elim) ?_,E⟩
 ·intro i g1 m1 s1 c d
  by_cases e:i=X
  ·subst e
   rw[St.upd_eq]at d;cases d;rw[Nu.set_eq];exact⟨U,fun i j H u n=>by simp[leafAt]at n⟩
  ·rw[Nu.set_ne _ _ e]
   exact(R.objs i g1 m1 s1 c (l _ _ _ _ _ e d)).mono U (fun _ _ _ _ _=>U) (fun _ _ _=>U) (fun _ _ _ _ _ _ _ _=>U) z
 ·intro i g1 s1 c d
  by_cases e:i=X
  ·subst e;rw[St.upd_eq]at d;cases d
  ·rw[Nu.set_ne _ _ e];exact R.frozen i g1 s1 c (l _ _ _ _ _ e d)
 ·intro k b o n g
  cases k with
  |fl k p=>obtain⟨f,r,_⟩:=n;cases r
  |nd i p=>
   obtain⟨g1,m1,s1,c,r,x,y⟩:=n;by_cases e:i=X
   ·subst e;simp only[baseOf,Nu.set_eq]at g;cases g
   ·simp only[baseOf,Nu.set_ne _ _ e]at g
    exact⟨o,⟨g1,m1,s1,c,l _ _ _ _ _ e r,x,y⟩,g⟩
 ·intro i g1 m1 s1 c d t
  by_cases e:i=X
  ·subst e;rw[St.upd_eq]at d;cases d;omega
  ·rw[Nu.set_ne _ _ e];exact R.io i g1 m1 s1 c (l _ _ _ _ _ e d) t
theorem Rel.cutObj(R:Rel Γ w0 A O0 ν0 N Fl.emp D st ν tm w){id g s:Nat}{es:List AV}(h:st (.h id)= .obj g 0 s es)(n:Nat):
 Rel Γ w0 A O0 ν0 N Fl.emp D (st.upd (.h id) (.obj g 0 s (es.take n))) ν tm w/\Ext st ν w (st.upd (.h id) (.obj g 0 s (es.take n))) ν w:=by
 have E:Ext st ν w (st.upd (.h id) (.obj g 0 s (es.take n))) ν w:=
  R.extSame h (fun _ _=>U) (fun _ _=>U) U fun i j=>⟨fun I=>N0 I,fun s2 t J=> .inr ⟨t,N0 J,U⟩⟩
 have z:∀a v,RS st ν w D a v->RS (st.upd (.h id) (.obj g 0 s (es.take n))) ν w D a v:=fun a v h=>h.same E (fun _ m=>m)
 have l:∀i g1 m1 s1 c,i≠id->st.upd (.h id) (.obj g 0 s (es.take n)) (.h i)= .obj g1 m1 s1 c->st (.h i)= .obj g1 m1 s1 c:=by
  intro i g1 m1 s1 c e d;rw[N4 _ _ _ e]at d;exact d
 refine⟨R.ghost (fun i=>U9 _ _ _ _) E (fun _ m=>m) ?_ ?_ (fun k f H=>by cases H) (fun k=>k) ?_ (fun _ _ _ _ h=>h) (fun b m G=>(G m).elim) ?_,E⟩
 ·intro i g1 m1 s1 c d
  by_cases e:i=id
  ·subst e
   rw[St.upd_eq]at d;cases d;exact((R.objs i g 0 s es h).cut n).mono U (fun _ _ _ _ _=>U) (fun _ _ _=>U) (fun _ _ _ _ _ _ _ _=>U) z
  ·exact(R.objs i g1 m1 s1 c (l _ _ _ _ _ e d)).mono U (fun _ _ _ _ _=>U) (fun _ _ _=>U) (fun _ _ _ _ _ _ _ _=>U) z
 ·intro i g1 s1 c d
  by_cases e:i=id
  ·subst e;rw[St.upd_eq]at d;cases d
  ·exact R.frozen i g1 s1 c (l _ _ _ _ _ e d)
 ·intro k b o B m
  cases k with
  |fl k p=>obtain⟨f,r,_⟩:=B;cases r
  |nd i p=>
   obtain⟨g1,m1,s1,c,r,x,y⟩:=B;by_cases e:i=id
   ·subst e
    rw[St.upd_eq]at r;cases r;exact⟨o,⟨g,0,s,es,h,x,b0b y⟩,m⟩
   ·exact⟨o,⟨g1,m1,s1,c,l _ _ _ _ _ e r,x,y⟩,m⟩
 ·intro i g1 m1 s1 c d u
  by_cases e:i=id
  ·subst e;rw[St.upd_eq]at d;cases d;omega
  ·exact R.io i g1 m1 s1 c (l _ _ _ _ _ e d) u
theorem O5{id g m s:Nat}{es:List AV}(h:nodeAt st id g none=some (m,s,es)):st (.h id)= .obj g m s es:=by
 obtain⟨d,a,b,c⟩:=N9 h;rcases c with⟨_,rfl,rfl⟩|⟨i,j,hq,_⟩
 ·exact b
 ·cases hq
theorem a1k(st:St)(id g m s:Nat)(es:List AV):nodeAt (st.upd (.h id) (.obj g m s es)) id g none=some (m,s,es):=by
 unfold nodeAt;rw[St.upd_eq];simp
theorem c9m(R:Rel Γ w0 A O0 ν0 N Fl.emp D st ν tm w){T X:Nat}{v u:AV}{st':St}{val:Value}(h:(a2w P T X v).go C st=some (u,st'))(p:RS st ν w D v val):
 ∃b,Rel Γ w0 A O0 ν0 N Fl.emp D st' b tm w/\RS st' b w D u val:=by
 have same:st'=st->u=v->∃b,Rel Γ w0 A O0 ν0 N Fl.emp D st' b tm w/\RS st' b w D u val:=by
  rintro rfl rfl;exact⟨ν,R,p⟩
 unfold a2w at h;split at h
 ·simp only[RW.go_bind,RW.go_up,RW.go_wr,RW.go_pure,Y3,ZA,Zl,Za,Zh]at h
  obtain⟨_,⟨E,d,rfl⟩,t⟩:=h;cases t;obtain⟨f,x⟩:=R.newEmpty (X:=X) (s:=(tyS P E).size) (ZJ _);obtain⟨a,rfl⟩:=p.nil_inv;refine⟨_,f,.sl X _ none 0 0 _ ⟨a,0,U,Zd _⟩ (by simp only[St.upds];rw[St.upd_eq];exact Zd _) (fun _ _ _ _ _ _ hq=>by cases hq) fun O Q J e=> ?_⟩;exact⟨a,0,U,Zd _,.inl U⟩
 ·rename_i id g n
  simp only[RW.go_bind,RW.go_up,Za,Zh]at h;obtain⟨_,⟨⟨m,s,es⟩,d,rfl⟩,h⟩:=h;rw[J4]at d;have c:=O5 d;simp only at h;split at h
  ·rename_i hm
   subst hm;simp only[RW.go_bind,RW.go_up,F6,Za,Zh]at h;obtain⟨_,⟨_,t,rfl⟩,h⟩:=h;have t:=F7 t;obtain⟨⟨a,cap,rfl,l⟩,_,_,G⟩:=p.sl_inv;split at h
   ·rename_i k
    subst k;simp only[RW.go_bind,RW.go_wr,RW.go_pure,Zl,Zb,Zk]at h;obtain⟨rfl,rfl⟩:=h;obtain⟨f,x⟩:=R.cutObj c n;exact⟨ν,f,p.same x (fun _ K=>K)⟩
   ·rename_i k
    simp only[RW.go_bind,RW.go_up,RW.go_wr,RW.go_pure,Y3,ZA,Zl,Zb,Zk]at h;obtain⟨rfl,rfl⟩:=h;have r:Fl.emp (0,0,0)=none:=rfl;obtain⟨I,L⟩:=R.takeObj c r n;obtain⟨H,M⟩:=I.attach (κ:=(0,0,0)) (Fl.set_eq _ _ _) X (I6 ((st.upd (.h id) (.dead g)) (.h X))+1) (ZJ _) 0 (.inl U);rw[Fl.set_set,Fl.set_none _ r]at H;refine⟨_,H,.sl X _ none 0 n _ ⟨a,cap,U,l⟩ ?_ (fun _ _ _ _ _ _ hq=>by cases hq) fun m2 s2 y e=> ?_⟩
    ·simp only[St.upds]
     rw[St.upd_eq];exact Zd _
    ·simp only[St.upds]at e
     rw[a1k]at e;cases e;rw[Nu.set_eq];exact G _ _ _ d
  ·simp only[RW.go_pure,Zb,Zk]at h
   exact same h.2.symm h.1.symm
 ·rename_i id g i j
  simp only[RW.go_bind,RW.go_up,Za,Zh]at h;obtain⟨_,⟨⟨m,s,es⟩,d,rfl⟩,h⟩:=h;rw[J4]at d;have c:=O5 d;simp only at h;split at h
  ·rename_i hm
   obtain⟨rfl,k,_⟩:=hm;simp only[RW.go_bind,RW.go_up,RW.go_wr,RW.go_pure,Y3,ZA,Zl,Zb,Zk]at h;obtain⟨rfl,rfl⟩:=h;obtain⟨B,_,_,o⟩:=p.ptr_inv;have z:(st.upd (.h id) (.dead g)) (.h X)=st (.h X):=N4 _ _ _ (Ne.symm k);obtain⟨f,x⟩:=R.rename (X:=X) (g':=I6 (st (.h X))+1) c (.inr U) k (ZJ _);simp only[St.upds,z];refine⟨_,f,.ptr X _ none i j _ B ?_ (fun _ _ _ _ _ _ hq=>by cases hq) fun m2 s2 y e=> ?_⟩
   ·rw[St.upd_eq];exact Zd _
   ·rw[a1k]at e
    cases e;rw[Nu.set_eq];exact o _ _ _ d
  ·simp only[RW.go_pure,Zb,Zk]at h
   exact same h.2.symm h.1.symm
 ·simp only[RW.go_pure,Zb,Zk]at h
  exact same h.2.symm h.1.symm
end
section
variable{P:Program}{C:Caller}{Γ:Env}{w0:World}{A O0:Nat->Prop}{ν0:Nu}{N:Nat}{D:Nat->Prop}{st:St}{ν:Nu}{tm:Array Value}{w:World}
def SlS(w:World)(L:AV->Value->Prop)(φ:Path->Base)(s:Nat)(xs:List AV)(va:Value):Prop:=
 ∃a cap,va= .slice a xs.length cap/\xs.length<=cap/\(∀e∈xs,(leaves e).length=s)/\
  (xs≠[]->∃b o,a=some ⟨b,o,none⟩/\∀i j l,leafAt xs i j=some l->∃v,w.cell? ⟨b,o+i*s+j,none⟩=some v/\Y0 w L φ i j l v)
theorem d4e{φ:Path->Base}{i j:Nat}{l:AV}{v:Value}(h:RS st ν w D l v):Y0 w (RS st ν w D) φ i j l v:=by
 have:=h.notOwn;cases l<;>first|exact h|simp[isOwn]at this
theorem T1{s:Nat}{xs:List AV}(h:∀e∈xs,(leaves e).length=s){i j:Nat}{l:AV}(a:leafAt xs i j=some l):i<xs.length/\j<s:=by
 unfold leafAt at a;cases he:xs[i]? with
 |none=>simp[he]at a
 |some e=>
  simp only[he,Zl]at a;have b:=(Zq.1 a).1;rw[h e (Zx he)]at b;exact⟨(Zq.1 he).1,b⟩
theorem SlS.load{φ:Path->Base}{L:AV->Value->Prop}{s:Nat}{xs:List AV}{va:Value}(h:SlS w L φ s xs va):
 ∃vs:List Value,(Ys s xs.length va).run P w= .ok vs.toArray w/\vs.length=xs.length*s/\
  ∀i j l,leafAt xs i j=some l->∃v,vs[i*s+j]? =some v/\Y0 w L φ i j l v:=by
 obtain⟨a,cap,rfl,E,n,z⟩:=h;by_cases d:xs=[]
 ·subst d
  refine⟨[],?_,by simp,fun i j l g=>by simp[leafAt]at g⟩;cases a with
  |none=>simp[Ys]
  |some a=>simp[Ys,loadCells,loadCellsFrom]
 ·obtain⟨b,o,rfl,g⟩:=z d
  have c:∀k,k<xs.length*s->∃x,w.cell? ⟨b,o+k,none⟩=some x:=by
   intro k m;have f:=a5j xs n k;rw[Zg (by rw[a2c xs n];exact m)]at f;obtain⟨x,p,B⟩:=g _ _ _ f.symm;refine⟨x,?_⟩;rw[<-p];congr 2;have:=Nat.div_add_mod k s;rw[Nat.mul_comm]at this;omega
  refine⟨(Yb (xs.length*s)).map fun k=>(w.cell? ⟨b,o+k,none⟩).getD Yj,?_,by simp,fun i j l e=> ?_⟩
  ·exact b3g w b o (xs.length*s) _ fun j r=>by
    obtain⟨x,f⟩:=c j r;rw[f];rfl
  ·obtain⟨v,y,u⟩:=g i j l e
   obtain⟨t,r⟩:=T1 n e;have m:i*s+j<xs.length*s:=by
    have:=ZS s (show i+1<=xs.length from t);rw[Yk]at this;omega
   refine⟨v,?_,u⟩;rw[ZE,Yv m];simp only[ZA,<-Nat.add_assoc,y,Option.getD_some]
theorem d9d{φ:Path->Base}{s:Nat}{xs:List AV}{va:Value}(h:RV w D (.list xs) va)(k:∀e∈xs,(leaves e).length=s):SlS w (RS st ν w D) φ s xs va:=by
 cases h with
 |list _ a cap b o t c d n g p r=>
  refine⟨a,cap,U,d,k,fun f=> ?_⟩;obtain⟨rfl,_,_⟩:=n f;obtain⟨e,he⟩:=List.exists_mem_of_ne_nil xs f;obtain rfl:t=s:=by rw[<-g e he,k e he]
  exact⟨b,o,U,fun i j l m=>⟨c i j,p i j l m,d4e (.data _ _ (r i j l m))⟩⟩
theorem d3m{φ:Path->Base}{base:Base}{s n:Nat}{es:List AV}{v:Value}{L:AV->Value->Prop}(d:RN w L φ base False s es)(x:SlV w base s 0 n v)
 (hle:n<=es.length):SlS w L φ s (es.take n) v:=by
 obtain⟨a,cap,rfl,r,m⟩:=x;have hlen:(es.take n).length=n:=by simp;omega
 cases base with
 |none=>
  have he:es=[]:=d;subst he;simp only[Zo,Nat.le_zero]at hle;subst hle;exact⟨a,cap,U,r,by simp,fun h=>(h (by simp)).elim⟩
 |some q=>
  obtain⟨b,o⟩:=q;have f:∀e∈es,(leaves e).length=s:=by
   obtain⟨c,p,E,G,y,_,H⟩:=d;exact y (fun h=>h)
  refine⟨a,cap,by rw[hlen],by omega,fun e he=>f e (ZV he),fun k=> ?_⟩;have B:0<n:=by rw[<-hlen];exact List.length_pos_iff.2 k
  rcases m with m|⟨z,I,g,t,f⟩
  ·omega
  ·cases g
   refine⟨b,o,by simpa using t,fun i j l u=>d.cell (N0 u)⟩
theorem e5l{φ φ':Path->Base}{base:Base}{s off n:Nat}{es:List AV}{v:Value}(d:RN w (RS st ν w D) φ base False s es)(t:SlV w base s off n v)
 (hle:off+n<=es.length) (f:P1 ((es.drop off).take n)=true):SlS w (RS st ν w D) φ' s ((es.drop off).take n) v:=by
 obtain⟨a,cap,rfl,H,u⟩:=t;have hlen:((es.drop off).take n).length=n:=by simp;omega
 have r:∀e∈es,(leaves e).length=s:=by
  cases base with
  |none=>have he:es=[]:=d;subst he;simp
  |some q=>
   obtain⟨c,y,J,K,G,_,L⟩:=d;exact G (fun h=>h)
 refine⟨a,cap,by rw[hlen],by omega,fun e he=>r e (Yw (ZV he)),fun p=> ?_⟩;have I:0<n:=by rw[<-hlen];exact List.length_pos_iff.2 p
 rcases u with u|⟨b,o,m,z,x⟩
 ·omega
 ·subst m
  have g:∀i j l,leafAt ((es.drop off).take n) i j=some l->leafAt es (off+i) j=some l:=by
   intro i j l k;have:=N0 k;unfold leafAt at this|-;rwa[Yd]at this
  refine⟨b,o+off*s,z,fun i j l k=> ?_⟩;obtain⟨v,t,E⟩:=d.cell (g i j l k);refine⟨v,by rw[show o+off*s+i*s+j=o+(off+i)*s+j from by rw[Yk];omega];exact t,?_⟩;have B:=M2 f k;cases l with
  |own=>simp[immLeaf]at B
  |_=>exact E
theorem e5m{id g:Nat}{p:Path}{off n m s:Nat}{es ys:List AV}{st':St}(h:(freeze (.sl id g p off n)).go C st=some (ys,st'))(e:nodeAt st id g p=some (m,s,es)):
 (ys=(es.drop off).take n\/ys=((frzL es).drop off).take n)/\bxB m p=false:=by
 unfold freeze at h;simp only[RW.go_bind,RW.go_up,F6,Za,Zh]at h;obtain⟨_,⟨⟨k,l,c⟩,a,rfl⟩,_,⟨_,d,rfl⟩,h⟩:=h;rw[J4]at a;rw[e]at a;cases a;obtain⟨b,_⟩:=F7 d;refine⟨?_,b⟩;simp only at h;split at h
 ·simp only[RW.go_pure,Zb,Zk]at h
  exact .inl h.1.symm
 ·simp only[RW.go_bind,RW.go_up,F6,Za,Zh]at h
  obtain⟨_,⟨_,f,rfl⟩,h⟩:=h;cases p with
  |none=>
   simp only[RW.go_bind,RW.go_wr,RW.go_pure,Zl,Zb,Zk]at h;exact .inr h.1.symm
  |some q=>
   obtain⟨i,j⟩:=q;simp only[RW.go_bind,RW.go_up,Y3,ZA,Zl]at h;split at h
   ·split at h
    ·simp only[RW.go_bind,RW.go_wr,RW.go_pure,Zl,Zb,Zk]at h
     exact .inr h.1.symm
    ·simp at h
   ·simp at h
theorem RN.sized{L:AV->Value->Prop}{φ:Path->Base}{base:Base}{s:Nat}{es:List AV}(h:RN w L φ base False s es):∀e∈es,(leaves e).length=s:=by
 cases base with
 |none=>have he:es=[]:=h;subst he;simp
 |some q=>
  obtain⟨c,a,d,f,b,_,g⟩:=h;exact b (fun h=>h)
def b4k(ys:List AV):Prop:=∀i j s1 a,leafAt ys i j≠some (.own s1 a)
theorem d8i(Q:∀b,O0 b->A b){F:Fl}{κ:FK}(I:F κ=none)(R:Rel Γ w0 A O0 ν0 N F D st ν tm w){s:Nat}{v:AV}{ys:List AV}{l:St}{vb:Value}
 (h:(d7u s v).go C st=some (ys,l)) (K:RS st ν w D v vb):
 ∃M D1 φ,Rel Γ w0 A O0 ν0 N M D1 l ν tm w/\Ext st ν w l ν w/\(∀b,D b->D1 b)/\SlS w (RS l ν w D1) φ s ys vb/\
  ((M=F/\b4k ys)\/M=F.set κ (some ⟨φ,s,ys⟩)):=by
 unfold d7u at h;split at h
 ·rename_i id g p off n
  simp only[RW.go_bind,RW.go_up,F6,Za,Zh]at h;obtain⟨_,⟨⟨m,s',es⟩,d,rfl⟩,_,⟨_,r,rfl⟩,h⟩:=h;rw[J4]at d;have r:=F7 r;obtain⟨_,_,_,k⟩:=K.sl_inv;have k:=k _ _ _ d;simp only at h r;subst r;split at h
  ·rename_i V
   obtain⟨_,rfl,rfl,rfl,rfl⟩:=V;simp only[RW.go_bind,RW.go_wr,RW.go_pure,Zl,Zb,Zk]at h;obtain⟨rfl,rfl⟩:=h;have Y:=O5 d;obtain⟨z,L⟩:=R.takeObj Y I es.length;rw[Yo]at z;have S:=(z.flos κ _ (Fl.set_eq _ _ _)).top;refine⟨_,D,ν id,z,L,fun _ h=>h,?_,.inr U⟩;have:=d3m S k (Zd _);rwa[Yo]at this
  ·simp only[RW.go_bind,RW.go_up,Za,Zh]at h
   obtain⟨_,⟨a0,J,rfl⟩,h⟩:=h;simp only at h;split at h
   ·rename_i t
    simp only[RW.go_pure,Zb,Zk]at h;obtain⟨rfl,rfl⟩:=h;simp only[slc,Rd.ev_bind,F6,Rd.ev_ret,Za]at J;obtain⟨⟨m2,s2,a1⟩,h4,_,h5,h6⟩:=J;rw[J4,d]at h4;cases h4;obtain⟨u,hle⟩:=F7 h5;cases h6;exact⟨F,D,fun _=>none,R,Ext.refl _ _ _,fun _ h=>h,e5l ((R.node d).1.unbx (S9 u)) k hle t,
     .inl ⟨U,fun i j s1 O x=>by have:=M2 t x;simp[immLeaf]at this⟩⟩
   ·obtain⟨D1,hD,z,L,G⟩:=X2 Q I R h K
    obtain⟨Z,u⟩:=e5m h d;have f:=((R.node d).1.unbx (S9 u)).sized;have H:∀e∈ys,(leaves e).length=s':=by
     rcases Z with rfl|rfl
     ·exact fun e he=>f e (Yw (ZV he))
     ·intro e he
      have:=Yw (ZV he);rw[P5]at this;obtain⟨e0,W,rfl⟩:=ZI.1 this;rw[a1g,Zi];exact f e0 W
    refine⟨F,D1,fun _=>none,z,L,hD,d9d G H,.inl ⟨U,fun i j s1 O x=> ?_⟩⟩;cases G with
    |list _ a cap b o s2 c B ha X V y=>
     have:=y i j _ x;cases this
 ·rename_i E
  simp only[RW.go_bind,RW.go_up,RW.go_pure,F6,Za,Zh]at h;obtain⟨_,⟨a0,d,rfl⟩,_,⟨_,r,rfl⟩,J⟩:=h;have r:=F7 r;cases J;have f:=a7k r;unfold slc at d;split at d
  ·simp only[Rd.ev_ret,Zb]at d
   subst d;have G:=K.list_inv;refine⟨F,D,fun _=>none,R,Ext.refl _ _ _,fun _ h=>h,d9d G f,.inl ⟨U,fun i j s1 O x=> ?_⟩⟩;cases G with
   |list _ a cap b o s2 c B ha X V y=>
    have:=y i j _ x;cases this
  ·simp only[Rd.ev_ret,Zb]at d
   subst d;obtain⟨a,rfl⟩:=K.nil_inv;exact⟨F,D,fun _=>none,R,Ext.refl _ _ _,fun _ h=>h,d9d (RV.list_nil a) f,.inl ⟨U,fun i j s1 O x=>by simp[leafAt]at x⟩⟩
  ·exact(E _ _ _ _ _ U).elim
  ·simp at d
end
theorem e4b(m:Nat):∀(r c:Nat),c<=2*m+1024->Builtin.growBy m r c<=2*m+1024:=by
 intro r
 induction r with
 |zero=>intro c h;exact h
 |succ r a=>
  intro c h;unfold Builtin.growBy;split
  ·exact h
  ·exact a _ (by omega)
theorem b6j{m old:Nat}(h:old<m):Xz m old<=2*m+1024:=by
 unfold Xz;split
 ·omega
 ·split
  ·omega
  ·exact e4b m 4 old (by omega)
section
variable{P:Program}{w:World}
theorem a8m{T T' E j T0 n cap k:Nat}{a:Option Addr}{g:Value}{i:TypeInfo}{new:Array Value}(hu:P.underlying T=some (.slice E))(d:P.underlying T'=some (.slice j))
 (h:P.info? E=some i) (hlen:(Xo g).run P w= .ok k w) (c:(Ys i.size k g).run P w= .ok new w) (b:n+k<=cap) {w':World}
 (f:∀e,a=some e->(storeCells (e.add (n*i.size)) new.toList).run P w= .ok () w') (l:a=none->w'=w):
 (YR #[T,T'] T0 #[.slice a n cap,g]).run P w= .ok (.slice a (n+k) cap) w':=by
 cases a with
 |none=>simp[YR,I8 hu,I8 d,L7 h,hlen,c,b,l U]
 |some e=>simp[YR,I8 hu,I8 d,L7 h,hlen,c,b,f e U]
theorem b3h{T T' E h T0 n cap k:Nat}{a:Option Addr}{f:Value}{i:TypeInfo}{old new:Array Value}{z:Value}(hu:P.underlying T=some (.slice E))(d:P.underlying T'=some (.slice h))
 (g:P.info? E=some i) (e:i.zero=some z) (hlen:(Xo f).run P w= .ok k w)
 (hold:∀w':World,w'.heap=w.heap->(Ys i.size n (.slice a n cap)).run P w'= .ok old w')
 (c:∀w':World,w'.heap=w.heap->(Ys i.size k f).run P w'= .ok new w') (b:¬n+k<=cap)
 (hm:n+k<=H0) (s:i.bytes<=4096):
 ∃r,(YR #[T,T'] T0 #[.slice a n cap,f]).run P w=
  .ok (.slice (some ⟨w.heap.size,0,none⟩) (n+k) (n+k+r)) ({w with drawn:=w.drawn+1}.alloc (.cells (old++new++Xd z.cells r) E (0,0))):=by
 refine⟨w.tape w.drawn (.appendCap (n+k) cap E)%(2^63-(n+k)),?_⟩;have j:¬((9223372036854775807:Int)<(n:Int)+(k:Int)):=by
  have p:n+k<=4294967296:=hm;omega
 have l:¬(281474976710656<Xz (n+k) cap*i.bytes):=by
  have o:=b6j (m:=n+k) (old:=cap) (by omega);have v:=Nat.mul_le_mul o s;have p:n+k<=4294967296:=hm;have x:(2*(n+k)+1024)*4096<=(2*4294967296+1024)*4096:=ZS _ (by omega);omega
 have u:=hold w.drew U;have t:=c w.drew U;simp[YR,I8 hu,I8 d,L7 g,b8e g,zeroValue,e,hlen,b,j,l,Question.forced,Question.cut,u,t,newRow]
end
section
variable{P:Program}{C:Caller}{Γ:Env}{w0:World}{A O0:Nat->Prop}{ν0:Nu}{N:Nat}{D:Nat->Prop}{st:St}{ν:Nu}{tm:Array Value}{w:World}
def κs:FK:=(1,0,0)
def κd:FK:=(2,0,0)
def κ0:FK:=(3,0,0)
theorem b0g{xs ys:List AV}(i j:Nat):leafAt (xs++ys) i j=if i<xs.length then leafAt xs i j else leafAt ys (i-xs.length) j:=by
 unfold leafAt;rw[List.getElem?_append];split<;>rfl
theorem SlS.same{st':St}{c:Nu}{D':Nat->Prop}{φ:Path->Base}{s:Nat}{xs:List AV}{va:Value}(h:SlS w (RS st ν w D) φ s xs va)(E:Ext st ν w st' c w)(m:∀b,D b->D' b):
 SlS w (RS st' c w D') φ s xs va:=by
 obtain⟨a,cap,rfl,e,f,g⟩:=h;refine⟨a,cap,U,e,f,fun d=> ?_⟩;obtain⟨b,o,rfl,k⟩:=g d;exact⟨b,o,U,fun i j l n=>by
  obtain⟨v,r,p⟩:=k i j l n;exact⟨v,r,p.mono (fun a v h=>h.same E m) (fun _ _ _=>U) (fun _ _ _ _ _ _=>U)⟩⟩
def φ2(n:Nat)(base:Base)(φd φs:Path->Base):Path->Base
 |none=>base
 |some (i,j)=>if i<n then φd (some (i,j))else φs (some (i-n,j))
open Classical in
theorem Rel.joined{u:Fl}(R:Rel Γ w0 A O0 ν0 N u D st ν tm w){w':World}{bt:Nat}(W:WStep Γ w w' bt){s:Nat}{xs ys:List AV}{φd φs:Path->Base}{c:Array Value}{ety o:Nat}
 (X:w'.heap[bt]? =some (.cells c ety (0,0))) (V:o+(xs.length+ys.length)*s<=c.size) (Y:∀e∈xs,(leaves e).length=s) (Z:∀e∈ys,(leaves e).length=s)
 (O:∀i j l,leafAt xs i j=some l->∃v,c[o+i*s+j]? =some v/\Y0 w (RS st ν w D) φd i j l v)
 (Q:∀i j l,leafAt ys i j=some l->∃v,c[o+(xs.length+i)*s+j]? =some v/\Y0 w (RS st ν w D) φs i j l v)
 (hd:b4k xs\/u κd=some ⟨φd,s,xs⟩) (hs:b4k ys\/u κs=some ⟨φs,s,ys⟩) (h0:u κ0=none)
 (M:w.heap.size<=bt\/(u κd=some ⟨φd,s,xs⟩/\∃z,φd none=some (bt,z))) {id g:Nat} (hg:I6 (st (.h id))<g):
 ∃J,Rel Γ w0 A O0 ν0 N Fl.emp D (st.upd (.h id) (.obj g 0 s (xs++ys))) J tm w'/\J id none=some (bt,o):=by
 have r:∀i j m a,leafAt xs i j=some (.own m a)->u κd=some ⟨φd,s,xs⟩:=fun i j m a d=>hd.resolve_left fun h=>h _ _ _ _ d
 have t:∀i j m a,leafAt ys i j=some (.own m a)->u κs=some ⟨φs,s,ys⟩:=fun i j m a d=>hs.resolve_left fun h=>h _ _ _ _ d
 have H:∀i j m a b o,leafAt xs i j=some (.own m a)->φd (some (i,j))=some (b,o)->b<w.heap.size:=fun i j m a b o d p=>
  R.live_lt (k:= .fl κd (some (i,j))) ⟨_,r _ _ _ _ d,fun q hq=>by cases hq;exact⟨m,a,d⟩⟩ (by simp only[baseOf,r _ _ _ _ d];exact p)
 have I:∀i j m a b o,leafAt ys i j=some (.own m a)->φs (some (i,j))=some (b,o)->b<w.heap.size:=fun i j m a b o d p=>
  R.live_lt (k:= .fl κs (some (i,j))) ⟨_,t _ _ _ _ d,fun q hq=>by cases hq;exact⟨m,a,d⟩⟩ (by simp only[baseOf,t _ _ _ _ d];exact p)
 have R1:=R.compose (F':=fun k=>if k=κ0 then some ⟨φ2 xs.length (some (bt,o)) φd φs,s,xs++ys⟩else none) W (fun κ=>u κ≠none) κ0 (.inl h0)
  ⟨φ2 xs.length (some (bt,o)) φd φs,s,xs++ys⟩ (if w.heap.size<=bt then none else some κd)
  (fun i j=>if i<xs.length then(κd,some (i,j))else(κs,some (i-xs.length,j))) ⟨o,U⟩
  (by
   by_cases p:w.heap.size<=bt
   ·exact .inl (by simp[p])
   ·simp only[p,if_false]
    obtain⟨L,z,h2⟩:=M.resolve_left p;exact .inr ⟨κd,_,z,U,by rw[L];simp,L,h2⟩)
  (by
   refine⟨c,ety,X,by rw[Zf];exact V,fun _ e he=> ?_,fun h=>h.elim,fun i j l d=> ?_⟩
   ·rcases ZF.1 he with h|h
    ·exact Y e h
    ·exact Z e h
   ·rw[b0g]at d
    split at d
    ·rename_i n
     obtain⟨v,K,B⟩:=O i j l d;refine⟨v,K,B.mono (fun _ _ h=>h) (fun m a e=>by simp only[φ2,n,if_true]) (fun m a E z e p=>W.cs E (H i j m a E z (e▸d) p))⟩
    ·rename_i n
     obtain⟨v,K,B⟩:=Q (i-xs.length) j l d;rw[show xs.length+(i-xs.length)=i by omega]at K;refine⟨v,K,?_⟩;cases l with
     |own m a=>
      have B:SlV w (φs (some (i-xs.length,j))) m 0 a.length v:=B;exact SlV.mono B (by simp only[φ2,n,if_false]) (fun E z p=>W.cs E (I _ _ _ _ E z d p))
     |_=>exact B)
  (fun i j m a d=>by
   simp only at d;rw[b0g]at d;split at d
   ·rename_i n
    have x:=r _ _ _ _ d;obtain⟨q1,q2⟩:=(R.flos _ _ x).sub _ _ _ _ d;simp only[n,if_true];refine⟨by rw[x];simp,⟨_,x,fun q hq=>by cases hq;exact⟨m,a,d⟩,by simp only[φ2,n,if_true],q1⟩,q2⟩
   ·rename_i n
    have x:=t _ _ _ _ d;obtain⟨q1,q2⟩:=(R.flos _ _ x).sub _ _ _ _ d;simp only[n,if_false];refine⟨by rw[x];simp,⟨_,x,fun q hq=>by cases hq;exact⟨m,a,d⟩,by simp only[φ2,n,if_false],q1⟩,q2⟩)
  (fun i j i' j' s1 e1 s2 e2 L h2 h=>by
   by_cases n:i<xs.length<;>by_cases y:i'<xs.length
   ·simp only[n,y,if_true,Zk,Zb,true_and]at h;exact h
   ·simp only[n,y,if_true,if_false,Zk]at h;exact absurd h.1 (by decide)
   ·simp only[n,y,if_true,if_false,Zk]at h;exact absurd h.1 (by decide)
   ·simp only[n,y,if_false,Zk,Zb,true_and]at h;omega)
  (fun kt h i j m a d=>by
   intro e;by_cases n:i<xs.length
   ·simp only[n,if_true,Zk]at e;cases e.2
   ·simp only[n,if_false,Zk]at e;cases e.2)
  (by simp) (fun k S G=>by simp[S]) (fun k S G=>by
   have:u k=none:=YB fun h=>G h
   simp[S,this])
 obtain⟨R2,E2⟩:=R1.attach (κ:=κ0) (f:=⟨φ2 xs.length (some (bt,o)) φd φs,s,xs++ys⟩) (by simp) id g hg 0 (.inl U);have x:(Fl.set (fun k=>if k=κ0 then some ⟨φ2 xs.length (some (bt,o)) φd φs,s,xs++ys⟩else none) κ0 none)=Fl.emp:=by
  funext k
  by_cases h:k=κ0<;>simp[Fl.set,Fl.emp,h]
 rw[x]at R2;exact⟨_,R2,by rw[Nu.set_eq];rfl⟩
theorem Rel.dropAll{d:Fl}(R:Rel Γ w0 A O0 ν0 N d D st ν tm w):Rel Γ w0 A O0 ν0 N Fl.emp D st ν tm w:=by
 have E:=Ext.refl st ν w;refine R.ghost (fun _=>U) E (fun _ h=>h) R.objs R.frozen (fun k f j=>by cases j) (fun k=>k) (fun k b o c a=> ?_) (fun _ _ _ _ h=>h) (fun b a g=>(g a).elim) R.io;cases k with
 |nd i p=>exact⟨o,c,a⟩
 |fl k p=>obtain⟨f,e,_⟩:=c;cases e
theorem b6y{s n:Nat}{v:Value}{cs:Array Value}{w w':World}(h:(Ys s n v).run P w= .ok cs w)(f:w'.heap=w.heap)(g:∃a k cap,v= .slice a k cap)
 (b:∀a k cap,v= .slice (some a) k cap->∀j,j<n*s->∃x,w.cell? (a.add j)=some x):(Ys s n v).run P w'= .ok cs w':=by
 obtain⟨a,k,cap,rfl⟩:=g;cases a with
 |none=>simpa[Ys]using h
 |some a=>
  simp only[Ys]at h|-;have e:∀j,j<n*s->w.cell? (a.add j)=some ((w.cell? (a.add j)).getD Yj):=by
   intro j d;obtain⟨x,i⟩:=b a k cap U j d;rw[i];rfl
  rw[run_loadCells w a (n*s) _ e]at h;have c:∀j,j<n*s->w'.cell? (a.add j)=some ((w.cell? (a.add j)).getD Yj):=by
   intro j d;rw[<-e j d];unfold World.cell?;rw[f]
  rw[run_loadCells w' a (n*s) _ c];cases h
  rfl
theorem SlS.load'{φ:Path->Base}{L:AV->Value->Prop}{s:Nat}{xs:List AV}{va:Value}(h:SlS w L φ s xs va):
 ∃vs:List Value,(∀w':World,w'.heap=w.heap->(Ys s xs.length va).run P w'= .ok vs.toArray w')/\vs.length=xs.length*s/\
  ∀i j l,leafAt xs i j=some l->∃v,vs[i*s+j]? =some v/\Y0 w L φ i j l v:=by
 have g:=h;obtain⟨vs,r,t,u⟩:=h.load (P:=P);refine⟨vs,fun w' d=>b6y r d ?_ ?_,t,u⟩
 ·obtain⟨a,cap,rfl,_⟩:=g
  exact⟨a,_,cap,U⟩
 ·obtain⟨a,cap,rfl,E,p,z⟩:=g
  intro B k f he j n;cases he;by_cases c:xs=[]
  ·subst c;simp at n
  ·obtain⟨b,o,he,y⟩:=z c
   cases he;have m:=a5j xs p j;rw[Zg (by rw[a2c xs p];exact n)]at m;obtain⟨x,e,_⟩:=y _ _ _ m.symm;refine⟨x,?_⟩;rw[a2j,<-e];congr 2;have:=Nat.div_add_mod j s;rw[Nat.mul_comm]at this;omega
theorem d6v{es:List AV}(h:b6d es=true){i j:Nat}{l:AV}(a:leafAt es i j=some l):cellLeaf l=true:=by
 unfold leafAt at a;cases he:es[i]? with
 |none=>simp[he]at a
 |some e=>
  simp only[he,Zl]at a;exact Zt.1 (Zt.1 h e (Zx he)) l (Zx a)
theorem d5k{φ:Path->Base}{i j:Nat}{l:AV}{v:Value}(h:cellLeaf l=true)(d:Y0 w (RS st ν w D) φ i j l v):v.oneCell'=true:=by
 cases l with
 |own s es=>obtain⟨a,cap,rfl,_⟩:=(d:SlV w _ _ _ _ _);rfl
 |agg=>simp[cellLeaf]at h
 |undef=>simp[cellLeaf,O7]at h
 |tup=>simp[cellLeaf,O7]at h
 |val u=>obtain rfl:=RS.val_inv d;exact c5k (by simpa[cellLeaf,O7]using h)
 |nil=>obtain⟨a,rfl⟩:=RS.nil_inv d;rfl
 |list es=>cases RS.list_inv d with|list _ a cap b o s c=>rfl
 |ownp es i j=>cases(d:RS st ν w D _ _)with|data _ _ h=>cases h
 |sl id g p off n=>obtain⟨⟨a,cap,rfl,_⟩,_⟩:=RS.sl_inv d;rfl
 |ptr id g p i j=>obtain⟨⟨a,cap,rfl⟩,_⟩:=RS.ptr_inv d;rfl
 |ipt e j=>cases RS.ipt_inv d with|ipt _ _ b o c=>rfl
 |clo f cs=>obtain⟨vs,rfl,_⟩:=RS.clo_inv d;rfl
 |obj g m s es=>cases(d:RS st ν w D _ _)with|data _ _ h=>cases h
 |dead g=>cases(d:RS st ν w D _ _)with|data _ _ h=>cases h
 |ifc=>obtain⟨t,x,rfl⟩:=RS.ifc_inv d;rfl
 |asl id g i j n=>obtain⟨⟨a,cap,rfl⟩,_⟩:=RS.asl_inv d;rfl
theorem id'{p:Prop}(h:p):p:=h
theorem b5l{F2:Fl}(R:Rel Γ w0 A O0 ν0 N F2 D st ν tm w){T T' T0 E E' s id g:Nat}{xs ys:List AV}{φd φs:Path->Base}{va vb:Value}
 (hT:(tyS P T).k= .slice E) (ai:(tyS P T').k= .slice E') (hb:(tyS P E).bytes<=4096) (hz:(leaves (tyS P E).zero).length=(tyS P E).size) (b1:O7 (tyS P E).zero=true)
 (av:s=(tyS P E).size) (hx:SlS w (RS st ν w D) φd s xs va)
 (M:(xs=[]/\∃a,va= .slice a 0 0)\/(F2 κd=some ⟨φd,s,xs⟩/\SlV w (φd none) s 0 xs.length va))
 (hy:SlS w (RS st ν w D) φs s ys vb) (O:b4k ys\/F2 κs=some ⟨φs,s,ys⟩) (h0:F2 κ0=none) (an:b6d ys=true) (ac:xs.length+ys.length<=H0) (hg:I6 (st (.h id))<g):
 ∃v w' B,(YR #[T,T'] T0 #[va,vb]).run P w= .ok v w'/\Rel Γ w0 A O0 ν0 N Fl.emp D (st.upd (.h id) (.obj g 0 s (xs++ys))) B tm w'/\
  RS (st.upd (.h id) (.obj g 0 s (xs++ys))) B w' D (.sl id g none 0 (xs.length+ys.length)) v:=by
 obtain⟨inf,z,hi,ap,b6,au,ak,b2⟩:=e1h (P:=P) (st:=st) (ν:=ν) (w:=w) (D:=D) b1;have hu:=O4 hT;have a5:=O4 ai;have aw:s=inf.size:=av.trans au;obtain⟨vx,ab,H,ao⟩:=hx.load' (P:=P);obtain⟨t,G,I,a3⟩:=hy.load' (P:=P);obtain⟨b',a7,rfl,am,y,_⟩:=id' hy;obtain⟨a,cap,rfl,b5,J,_⟩:=id' hx;have hlen:(Xo (.slice b' ys.length a7)).run P w= .ok ys.length w:=by simp[Xo]
 have aa:b4k xs\/F2 κd=some ⟨φd,s,xs⟩:=by
  rcases M with⟨rfl,_⟩|⟨h,_⟩
  ·exact .inl fun i j s1 e1 x=>by simp[leafAt]at x
  ·exact .inr h
 subst aw;have m:∀(zs:List AV) (vs:List Value),vs.length=zs.length*inf.size->∀i j,i<zs.length->j<inf.size->i*inf.size+j<vs.length:=by
  intro zs vs h i j h1 h2;have:=ZS inf.size (show i+1<=zs.length from h1);rw[Yk]at this;omega
 by_cases d:xs.length+ys.length<=cap
 ·by_cases f:cap=0\/∃a0,Value.slice a xs.length cap= .slice a0 0 0
  ·--nothing at all
   have al:cap=0:=by
    rcases f with h|⟨a0,h⟩
    ·exact h
    ·simp only[Value.slice.injEq]at h;exact h.2.2
   subst al;have az:xs=[]:=ZW.1 (by omega);have b0:ys=[]:=ZW.1 (by omega);subst az;subst b0;obtain⟨R',E'⟩:=R.dropAll.newEmpty (X:=id) (s:=inf.size) hg;refine⟨.slice a 0 0,w,_,?_,R',?_⟩
   ·refine a8m (w':=w) hu a5 hi hlen (G w U) d (fun a' _=> ?_) (fun _=>U)
    have:t=[]:=ZW.1 (by simpa using I);subst this;simp[storeCells]
   ·refine .sl id _ none 0 0 _ ⟨a,0,U,Zd _⟩ (by rw[St.upd_eq];exact Zd _) (fun _ _ _ _ _ _ hq=>by cases hq) fun m' s' a8 hn=>⟨a,0,U,Zd _,.inl U⟩
  ·--room ah
   have Z:cap≠0:=fun h=>f (.inl h)
   rcases M with⟨_,a0,h⟩|⟨hF,ax⟩
   ·exact(f (.inr ⟨a0,h⟩)).elim
   ·obtain⟨a1,b4,he,_,V⟩:=ax
    cases he;rcases V with h|⟨b,o,Y,rfl,a2⟩
    ·exact(Z h).elim
    ·simp only[Nat.zero_mul,Nat.add_zero,ZL]at a2 Y|-
     have S:=(R.flos κd _ hF).top;simp only at S;rw[Y]at S;have a9:=S;obtain⟨c,Q,hw,a4,_,_,h4⟩:=a9;have L:csize w b=c.size:=by simp[csize,hw]
     rw[L]at a2;have p:o+xs.length*inf.size+t.length<=c.size:=by
      have:=ZS inf.size d;rw[Yk]at this;omega
     have ad:∀v∈t,v.oneCell'=true:=by
      intro v K;obtain⟨k,hk,rfl⟩:=List.mem_iff_getElem.1 K;have h1:=a5j ys y k;rw[Zg (by rw[a2c ys y];omega)]at h1;obtain⟨v2,ag,ar⟩:=a3 _ _ _ h1.symm;have aq:k/inf.size*inf.size+k%inf.size=k:=by rw[Nat.mul_comm];exact Nat.div_add_mod k inf.size
      rw[aq,Zg hk]at ag;cases ag;exact d5k (d6v an h1.symm) ar
     let w':World:=if t=[]then w else a2l w b (Y4 c (o+xs.length*inf.size) t) Q
     have W:WStep Γ w w' b:=by
      simp only[w'];split
      ·exact WStep.refl w b
      ·exact a6q hw (X3 _ _ _)
     have ae:(Y4 c (o+xs.length*inf.size) t).size=c.size:=X3 _ _ _;have ay:w'.heap[b]? =some (.cells (Y4 c (o+xs.length*inf.size) t) Q (0,0)):=by
      simp only[w'];split
      ·rename_i e;rw[e];exact hw
      ·exact a3x (ZC.1 hw).1
     obtain⟨B,R',a6⟩:=R.joined (w':=w') (bt:=b) (o:=o) (s:=inf.size) (xs:=xs) (ys:=ys) (φd:=φd) (φs:=φs) W ay (by
      rw[ae];have:=ZS inf.size d;omega) J y
      (fun i j l x=>by
       obtain⟨v,K,hr⟩:=h4 i j l x;obtain⟨n,u⟩:=T1 J x;refine⟨v,?_,hr⟩;have hlt:i*inf.size+j<xs.length*inf.size:=by
        have:=ZS inf.size (show i+1<=xs.length from n);rw[Yk]at this;omega
       rw[a5p _ _ _ _ p,if_neg (by omega)];exact K)
      (fun i j l x=>by
       obtain⟨v,K,hr⟩:=a3 i j l x;obtain⟨n,u⟩:=T1 y x;refine⟨v,?_,hr⟩;have:=m ys t I i j n u;rw[a5p _ _ _ _ p,if_pos (by rw[Yk];omega)];rw[show o+(xs.length+i)*inf.size+j-(o+xs.length*inf.size)=i*inf.size+j by rw[Yk];omega];exact K)
      aa O h0 (.inr ⟨hF,o,Y⟩) hg
     refine⟨.slice (some ⟨b,o,none⟩) (xs.length+ys.length) cap,w',B,?_,R',?_⟩
     ·refine a8m hu a5 hi hlen (G w U) d (fun a' aj=> ?_) (fun h=>by cases h)
      cases aj;rw[a2j];have:=a0n P (b:=b) (o:=o+xs.length*inf.size) (ety:=Q) t 0 c w hw ad (by simpa using p);simpa using this
     ·refine .sl id _ none 0 _ _ ⟨_,_,U,d⟩ (by rw[St.upd_eq];exact Zd _) (fun _ _ _ _ _ _ hq=>by cases hq) fun m' s' a8 hn=> ?_
      rw[a1k]at hn;cases hn;refine⟨_,cap,U,d,.inr ⟨b,o,a6,by simp,?_⟩⟩;rw[W.cs b (ZC.1 hw).1,L];simpa using a2
 ·--a new row
  obtain⟨r,af⟩:=b3h (T0:=T0) (a:=a) (old:=vx.toArray) (new:=t.toArray) hu a5 hi ap hlen ab G d ac (ak▸hb);have W:WStep Γ w ({w with drawn:=w.drawn+1}.alloc (.cells (vx.toArray++t.toArray++Xd z.cells r) E (0,0))) w.heap.size:=
   ⟨by simp,U,U,U,fun _=>Nat.le_succ _,fun b hb _=>heap_alloc_old {w with drawn:=w.drawn+1} _ hb,fun b hb=>O9 (heap_alloc_old {w with drawn:=w.drawn+1} _ hb)⟩
  have b3:z.cells.size=inf.size:=by have:=b2.1;rw[Array.length_toList]at this;omega
  have a4:(vx.toArray++t.toArray++Xd z.cells r).size=(xs.length+ys.length+r)*inf.size:=by
   simp[Xd,H,I,b3,Yk]
  obtain⟨B,R',a6⟩:=R.joined (bt:=w.heap.size) (o:=0) (s:=inf.size) (xs:=xs) (ys:=ys) (φd:=φd) (φs:=φs) W (heap_alloc_new {w with drawn:=w.drawn+1} _) (by
   rw[a4,ZL];exact ZS _ (XS _ _)) J y
   (fun i j l x=>by
    obtain⟨v,K,hr⟩:=ao i j l x;obtain⟨n,u⟩:=T1 J x;have:=m xs vx H i j n u;refine⟨v,?_,hr⟩;rw[ZL,Xg,if_pos (by simp;omega),Xg,if_pos (by simpa using this)];simpa using K)
   (fun i j l x=>by
    obtain⟨v,K,hr⟩:=a3 i j l x;obtain⟨n,u⟩:=T1 y x;have:=m ys t I i j n u;refine⟨v,?_,hr⟩;rw[ZL,Xg,if_pos (by simp[H,Yk];omega),Xg,if_neg (by simp[H,Yk];omega)];simp only[List.size_toArray,H];rw[show(xs.length+i)*inf.size+j-xs.length*inf.size=i*inf.size+j by rw[Yk];omega];simpa using K)
   aa O h0 (.inl (Zd _)) hg
  refine⟨_,_,B,af,R',?_⟩;refine .sl id _ none 0 _ _ ⟨_,_,U,XS _ _⟩ (by rw[St.upd_eq];exact Zd _) (fun _ _ _ _ _ _ hq=>by cases hq) fun m' s' a8 hn=> ?_
  rw[a1k]at hn;cases hn;refine⟨_,_,U,XS _ _,.inr ⟨w.heap.size,0,a6,by simp,?_⟩⟩;have:csize ({w with drawn:=w.drawn+1}.alloc (.cells (vx.toArray++t.toArray++Xd z.cells r) E (0,0))) w.heap.size=(vx.toArray++t.toArray++Xd z.cells r).size:=
   a7i {w with drawn:=w.drawn+1} _ _
  rw[this,a4];simp
theorem c9a(L:∀b,O0 b->A b)(R:Rel Γ w0 A O0 ν0 N Fl.emp D st ν tm w){T T' T0 d:Nat}{a b u:AV}{st':St}{va vb:Value}
 (h:(a6j P d T a b).go C st=some (u,st')) (ha:RS st ν w D a va) (hb:RS st ν w D b vb) (M:P2 (tyS P T').k=true):
 ∃v w' D' c,(YR #[T,T'] T0 #[va,vb]).run P w= .ok v w'/\Rel Γ w0 A O0 ν0 N Fl.emp D' st' c tm w'/\RS st' c w' D' u v:=by
 have f:∃X,(tyS P T').k= .slice X:=by
  cases hk:(tyS P T').k<;>simp[hk,P2]at M
  exact⟨_,U⟩
 obtain⟨X,f⟩:=f;unfold a6j at h;simp only[RW.go_bind,RW.go_up,F6,Za,Zh]at h;obtain⟨_,⟨E,h1,rfl⟩,_,⟨_,h2,rfl⟩,⟨ys,V⟩,h3,_,⟨_,h4,rfl⟩,h⟩:=h;obtain⟨Z,a1⟩:=a3d h1;obtain⟨t,hz,x⟩:=F7 h2;have p:=F7 h4;obtain⟨z,D1,φs,H,E1,J,hy,l⟩:=d8i L (κ:=κs) U R h3 hb;have r:=ha.same E1 J;have e:b4k ys\/z κs=some ⟨φs,(tyS P E).size,ys⟩:=by
  rcases l with⟨_,h⟩|rfl
  ·exact .inl h
  ·exact .inr (Fl.set_eq _ _ _)
 have o:∀W,W≠κs->z W=none:=by
  intro W S;rcases l with⟨rfl,_⟩|rfl
  ·rfl
  ·exact Fl.set_ne _ _ S
 simp only at h p;split at h
 ·simp only[RW.go_bind,RW.go_up,RW.go_wr,RW.go_pure,F6,Y3,ZA,Zl,Za,Zh]at h
  obtain⟨_,⟨_,j,rfl⟩,I⟩:=h;have j:=F7 j;cases I;obtain⟨a0,rfl⟩:=r.nil_inv;obtain⟨v,w',c,B,G,y⟩:=b5l (T0:=T0) (xs:=[]) (φd:=fun _=>none) (id:=tid d 0) H Z f t hz x U
   ⟨a0,0,U,Zd _,by simp,fun h=>(h U).elim⟩ (.inl ⟨U,a0,U⟩) hy e (o _ (by decide)) p (by simpa using j) (ZJ _)
  simp only[Zj,Zo,ZL]at B G y;exact⟨v,w',D1,c,B,G,y⟩
 ·rename_i id g n
  simp only[RW.go_bind,RW.go_up,RW.go_wr,RW.go_pure,F6,Y3,ZA,Zl,Za,Zh]at h;obtain⟨_,⟨⟨m,s,es⟩,j,rfl⟩,_,⟨_,I,rfl⟩,h7⟩:=h;rw[J4]at j;obtain⟨rfl,hn,hs,O⟩:=F7 I;simp only at hs hn;subst hs;cases h7;have Q:=O5 j;obtain⟨_,_,_,i⟩:=r.sl_inv;have i:=i _ _ _ j;obtain⟨R2,Y⟩:=H.takeObj Q (o κd (by decide)) n;have hlen:(es.take n).length=n:=by simp;omega
  have hx:=d3m ((H.node j).1.unbx (d9p (by decide))) i hn;have K:(z.set κd (some ⟨ν id,(tyS P E).size,es.take n⟩)) κs=z κs:=Fl.set_ne _ _ (by decide);obtain⟨v,w',c,B,G,y⟩:=b5l (T0:=T0) (id:=tid d 0) (g:=I6 ((V.upd (.h id) (.dead g)) (.h (tid d 0)))+1) R2 Z f t hz x U (hx.same Y (fun _ h=>h))
   (.inr ⟨Fl.set_eq _ _ _,by rw[hlen];exact i⟩) (hy.same Y (fun _ h=>h)) (by rw[K];exact e) (by rw[Fl.set_ne _ _ (by decide)];exact o _ (by decide)) p (by rw[hlen];exact O) (ZJ _)
  rw[hlen]at y;exact⟨v,w',D1,c,B,G,y⟩
 ·simp at h
end
section
variable{P:Program}{C:Caller}{Γ:Env}{w0:World}{A O0:Nat->Prop}{ν0:Nu}{N:Nat}{D:Nat->Prop}{st:St}{ν:Nu}{tm:Array Value}{w:World}
theorem e3l{w:World}{b:Nat}{c:Array Value}{ety:TypeId}(h:w.heap[b]? =some (.cells c ety (0,0))):a2l w b c ety=w:=by
 unfold a2l;have:w.heap.setIfInBounds b (.cells c ety (0,0))=w.heap:=by
  apply Array.ext_getElem?;intro k;by_cases e:k=b
  ·subst e
   rw[Array.getElem?_setIfInBounds_self_of_lt (ZC.1 h).1,h]
  ·rw[Array.getElem?_setIfInBounds_ne (Ne.symm e)]
 rw[this]
theorem e2r{q:AV->Bool}{es:List AV}(h:(es.all fun e=>(leaves e).all q)=true){i j:Nat}{l:AV}(a:leafAt es i j=some l):q l=true:=by
 unfold leafAt at a;cases he:es[i]? with
 |none=>simp[he]at a
 |some e=>
  simp only[he,Zl]at a;exact Zt.1 (Zt.1 h e (Zx he)) l (Zx a)
theorem a4p{es ys:List AV}{off k:Nat}(d:off+k<=es.length)(e:ys.length=k)(x y:Nat):
 leafAt (es.take off++ys++es.drop (off+k)) x y=if off<=x/\x<off+k then leafAt ys (x-off) y else leafAt es x y:=by
 unfold leafAt;have b:(es.take off).length=off:=by simp;omega
 split
 ·rename_i c
  rw[ZX (by simp;omega),Yn (by omega),b]
 ·rename_i c
  by_cases a:x<off
  ·rw[ZX (by simp;omega),ZX (by omega),YA,if_pos a]
  ·rw[Yn (by simp;omega),Yd,Zf,b]
   congr 2;omega
theorem RN.putMany{L:AV->Value->Prop}{φ φ':Path->Base}{b o s:Nat}{es ys:List AV}(h:RN w L φ (some (b,o)) False s es){off k:Nat}{xs:List Value}
 {c:Array Value} {ety:TypeId} (hw:w.heap[b]? =some (.cells c ety (0,0))) (G:off+k<=es.length) (Y:ys.length=k) (m:∀e∈ys,(leaves e).length=s) (X:xs.length=k*s)
 (u:∀x y s' d,leafAt es x y=some (.own s' d)->¬(off<=x/\x<off+k)->φ' (some (x,y))=φ (some (x,y)))
 (Q:∀x y s' d n I,leafAt es x y=some (.own s' d)->φ (some (x,y))=some (n,I)->n<w.heap.size)
 (V:∀i j l,leafAt ys i j=some l->∃x:Value,xs[i*s+j]? =some x/\Y0 (a2l w b (Y4 c (o+off*s) xs) ety) L φ' (off+i) j l x):
 RN (a2l w b (Y4 c (o+off*s) xs) ety) L φ' (some (b,o)) False s (es.take off++ys++es.drop (off+k))/\o+off*s+xs.length<=c.size:=by
 obtain⟨c',B,E,J,K,h5,M⟩:=h;rw[hw]at E;cases E;have r:=K (fun h=>h);have hlt:b<w.heap.size:=(ZC.1 hw).1;have f:o+off*s+xs.length<=c.size:=by
  have:=ZS s G;rw[Yk]at this;omega
 have g:(Y4 c (o+off*s) xs).size=c.size:=X3 _ _ _;have hlen:(es.take off++ys++es.drop (off+k)).length=es.length:=by simp;omega
 refine⟨⟨Y4 c (o+off*s) xs,ety,a3x hlt,by rw[g,hlen];exact J,fun _ e he=> ?_,fun h=>h.elim,fun x y l a=> ?_⟩,f⟩
 ·rcases ZF.1 he with h|h
  ·rcases ZF.1 h with h|h
   ·exact r e (ZV h)
   ·exact m e h
  ·exact r e (Yw h)
 ·rw[a4p G Y]at a
  rw[a5p _ _ _ _ f];split at a
  ·rename_i H
   obtain⟨v,t,p⟩:=V _ _ _ a;obtain⟨R,S⟩:=T1 m a;rw[show off+(x-off)=x by omega]at p;have e1:x*s=off*s+(x-off)*s:=by rw[<-Yk];congr 1;omega
   have e2:(x-off)*s+y<k*s:=by
    have:=ZS s (show x-off+1<=k by omega);rw[Yk]at this;omega
   refine⟨v,?_,p⟩;rw[if_pos (by omega),show o+x*s+y-(o+off*s)=(x-off)*s+y by omega];exact t
  ·rename_i H
   obtain⟨v,t,p⟩:=M _ _ _ a;obtain⟨R,S⟩:=T1 r a;refine⟨v,?_,p.mono (fun _ _ h=>h) (fun s' d e=>u x y s' d (e▸a) H) (fun s' d n I e O=> ?_)⟩
   ·rw[if_neg]
    ·exact t
    ·rintro⟨Z,a2⟩
     by_cases W:x<off
     ·have:=ZS s (show x+1<=off by omega)
      rw[Yk]at this;omega
     ·have:=ZS s (show off+k<=x by omega)
      rw[Yk]at this;omega
   ·by_cases z:n=b
    ·subst z;simp[csize,a3x hlt,hw,g]
    ·exact O9 (b7p z)
theorem Z2{l:AV}(h:a9j l=true):immLeaf l=true/\L4 l=false/\isOwn l=false/\cellLeaf l=true:=by
 cases l<;>simp[a9j]at h<;>simp[immLeaf,L4,isOwn,cellLeaf,O7,h]
theorem d8z(be:∀b,O0 b->A b)(R:Rel Γ w0 A O0 ν0 N Fl.emp D st ν tm w){T T' T0:Nat}{a b u:AV}{st':St}{va vb:Value}
 (h:(e1d P T a b).go C st=some (u,st')) (ha:RS st ν w D a va) (hb:RS st ν w D b vb):
 ∃v w' a1,(XN #[T,T'] T0 #[va,vb]).run P w= .ok v w'/\Rel Γ w0 A O0 ν0 N Fl.emp D st' a1 tm w'/\RS st' a1 w' D u v:=by
 unfold e1d at h;simp only[RW.go_bind,RW.go_up,F6,Za,Zh]at h;obtain⟨_,⟨E,h1,rfl⟩,_,⟨ys,h2,rfl⟩,_,⟨_,h3,rfl⟩,h⟩:=h;obtain⟨hT,ap⟩:=a3d h1;obtain⟨am,b4⟩:=F7 h3;have f:=a7k b4;obtain⟨inf,d0,hi,bh,X,_⟩:=P4 ap;simp only at h;split at h
 ·rename_i id g p off n
  simp only[RW.go_bind,RW.go_up,RW.go_wr,RW.go_pure,F6,Zl,Za,Zh]at h;obtain⟨_,⟨⟨m,s,es⟩,h4,rfl⟩,_,⟨_,h5,rfl⟩,_,⟨wl,S,rfl⟩,h7⟩:=h;rw[J4]at h4;obtain⟨a9,a7,hle,hs,az,bj⟩:=F7 h5;simp only at hs hle az S a9 a7;cases h7;obtain⟨⟨aa,cap,rfl,b9⟩,_,_,ac⟩:=ha.sl_inv;have ac:=ac _ _ _ h4;obtain⟨I,a4⟩:=R.node h4;have I:=I.unbx (S9 a7);have aq:=c6a R h2 hb;obtain⟨ab,a2,vs,rfl,H,ad,K⟩:=aq.load (P:=P) f (min ys.length n) (Nat.min_le_left _ _);rw[X]at hs H ad K;subst hs;have ag:(Ys inf.size (min ys.length n) (.slice ab ys.length a2)).run P w= .ok vs.toArray w:=by
   rcases K with⟨rfl,h0⟩|⟨a',rfl,r⟩
   ·have:vs=[]:=ZW.1 (by rw[H,h0];simp)
    subst this;simp[Ys]
   ·simpa[Ys]using r
  have a5:∀w',(∀a',aa=some a'->(storeCells a' vs).run P w= .ok () w')->(aa=none->w'=w)->
   (XN #[T,T'] T0 #[.slice aa n cap,.slice ab ys.length a2]).run P w= .ok (.int .i64 (min ys.length n:Nat)) w':=by
   intro w' h1 h2;have aj:Nat.min ys.length n=min ys.length n:=rfl;cases aa with
   |none=>simp[XN,I8 (O4 hT),L7 hi,Xo,aj,ag,goInt,h2 U]
   |some a'=>simp[XN,I8 (O4 hT),L7 hi,Xo,aj,ag,goInt,h1 a' U]
  have a0:(ys.take (min ys.length n)).length=min ys.length n:=by rw[ZH];omega
  have B:∀i j l,leafAt (ys.take (min ys.length n)) i j=some l->a9j l=true:=fun i j l r=>e2r am (N0 r)
  have ao:∀i j l,leafAt (ys.take (min ys.length n)) i j=some l->∃x,vs[i*inf.size+j]? =some x/\RS st ν w D l x:=by
   intro i j l r;have Y:=N0 r;rw[X]at f;obtain⟨ah,ai⟩:=T1 (s:=inf.size) (fun e he=>f e (ZV he)) r;rw[a0]at ah;have hk:i*inf.size+j<min ys.length n*inf.size:=by
    have:=ZS inf.size (show i+1<=min ys.length n from ah);rw[Yk]at this;omega
   have hf:=a5j ys f (i*inf.size+j);have b2:0<inf.size:=by omega
   rw[Nat.mul_comm i,Nat.mul_add_div b2,Nat.div_eq_of_lt ai,Nat.mul_add_mod,Nat.mod_eq_of_lt ai,Nat.add_zero,Y,Nat.mul_comm]at hf;obtain⟨x,hx,hr⟩:=ad _ _ hk hf;exact⟨x,hx,hr (Z2 (B _ _ _ r)).2.2.1⟩
  have O:∀(st':St) (a1:Nu) (w':World),RS st' a1 w' D (.val (.int .i64 (min ys.length n:Nat))) (.int .i64 (min ys.length n:Nat)):=fun _ _ _=> .data _ _ (.val _)
  have ak:∀v∈vs,v.oneCell'=true:=by
   intro v hv;obtain⟨k,hk,rfl⟩:=List.mem_iff_getElem.1 hv;have h1:=a5j ys f k;have h2:=a2c ys f;rw[X]at h1 h2;have bi:k<ys.length*inf.size:=YF (H▸hk) (ZS _ (Nat.min_le_left _ _));have h3:(ys.flatMap leaves)[k]? =some (ys.flatMap leaves)[k]:=Zg (by omega);rw[h3]at h1;have al:=Z2 (e2r am h1.symm);obtain⟨x,hx,hr⟩:=ad k _ (H▸hk) h3;rw[Zg hk]at hx;cases hx;exact d5k (φ:=fun _=>none) (i:=0) (j:=0) al.2.2.2 (d4e (hr al.2.2.1))
  have ba:es.take off++ys.take (min ys.length n)++es.drop (off+min ys.length n)=es.take off++(ys.take (min ys.length n))++es.drop (off+min ys.length n):=rfl;obtain⟨bb,b8,he,_,a6⟩:=ac;cases he;by_cases a8:cap=0
  ·--nothing is copied
   have ay:n=0:=by omega
   subst ay;have aw:es.take off++ys.take (min ys.length 0)++es.drop (off+min ys.length 0)=es:=by simp
   rw[aw]at S;have b5:vs=[]:=ZW.1 (by rw[H];simp);subst b5;have b3:st.upds wl=st:=by
    obtain⟨s0,G,M,hp⟩:=N9 h4;rcases hp with⟨rfl,rfl,rfl⟩|⟨x,y,rfl,d⟩
    ·simp only[wrNode,Rd.ev_read,M,Rd.ev_ret,Zb]at S
     subst S
     funext l
     simp only[St.upds];by_cases e:l= .h id
     ·subst e;rw[St.upd_eq,M]
     ·rw[St.upd_ne _ _ e]
    ·cases t:G[x]? with
     |none=>simp[leafAt,t]at d
     |some ep=>
      simp only[wrNode,Rd.ev_read,M,t,d,Rd.ev_ret,Zb]at S;subst S;have an:G.set x (putAt ep y (.own inf.size es))=G:=by
       have b1:putAt ep y (.own inf.size es)=ep:=by
        simp only[leafAt,t,Zl]at d;rcases a2y ep with⟨fs,rfl⟩|⟨bk,ax⟩
        ·simp only[leaves]at d
         obtain⟨bm,b7⟩:=Zq.1 d;simp only[putAt];rw[<-b7,List.set_getElem_self]
        ·rw[ax]at d
         cases y with
         |zero=>
          simp only[Zs,Zb]at d;rw[d];rfl
         |succ y=>simp at d
       obtain⟨bl,b6⟩:=Zq.1 t;rw[b1,<-b6,List.set_getElem_self]
      rw[an]
      funext l
      simp only[St.upds];by_cases e:l= .h id
      ·subst e;rw[St.upd_eq,M]
      ·rw[St.upd_ne _ _ e]
   refine⟨_,w,ν,a5 w (fun a' _=>by simp[storeCells]) (fun _=>U),?_,O _ _ _⟩
   change Rel Γ w0 A O0 ν0 N Fl.emp D (st.upds wl) ν tm w
   rw[b3];exact R
  ·rcases a6 with h|⟨b,o,J,rfl,bf⟩
   ·exact(a8 h).elim
   ·rw[J]at I
    have af:=I;obtain⟨c,V,hw,bg,_,_,bd⟩:=af;have W:WStep Γ w (a2l w b (Y4 c (o+off*inf.size) vs) V) b:=a6q hw (X3 _ _ _);rw[X]at f;obtain⟨a3,av⟩:=RN.putMany (φ':=ν id) (ys:=ys.take (min ys.length n)) I (off:=off) (k:=min ys.length n) (xs:=vs) hw (by omega) a0 (fun e he=>f e (ZV he)) H
     (fun x y s' ae _ _=>U)
     (fun x y s' ae b' o' Y au=>by
      obtain⟨s0,G,M,hp⟩:=N9 h4;rcases hp with⟨rfl,rfl,rfl⟩|⟨x1,y1,rfl,d⟩
      ·exact R.hlt M (p:=some (x,y)) (fun q hq=>by cases hq;exact⟨s',ae,Y⟩) au
      ·have:=a4 (by simp) _ _ _ Y;simp[immLeaf]at this)
     (fun i j l r=>by
      obtain⟨x,hx,hr⟩:=ao i j l r;refine⟨x,hx,?_⟩;have L:=(Z2 (B _ _ _ r)).2.2.1;cases l with
      |own=>simp[isOwn]at L
      |_=>exact hr)
    have Z:(storeCells ⟨b,o+off*inf.size,none⟩ vs).run P w= .ok () (a2l w b (Y4 c (o+off*inf.size) vs) V):=by
     have:=a0n P (b:=b) (o:=o+off*inf.size) (ety:=V) vs 0 c w hw ak (by simpa using av);rw[this];split
     ·rename_i e;subst e;rw[show Y4 c (o+off*inf.size) []=c from U,e3l hw]
     ·rfl
    have Q:=a5 (a2l w b (Y4 c (o+off*inf.size) vs) V) (fun a' ar=>by cases ar;exact Z) (fun h=>by cases h);have z:∀x y l,leafAt (es.take off++ys.take (min ys.length n)++es.drop (off+min ys.length n)) x y=some l->isOwn l=true\/L4 l=true->
     ¬(off<=x/\x<off+min ys.length n)/\leafAt es x y=some l:=by
     intro x y l r b0;rw[a4p (by omega) a0]at r;split at r
     ·have:=Z2 (B _ _ _ r)
      rcases b0 with h|h
      ·rw[this.2.2.1]at h;cases h
      ·rw[this.2.1]at h;cases h
     ·rename_i hx;exact⟨hx,r⟩
    obtain⟨s0,G,M,hp⟩:=N9 h4;rcases hp with⟨rfl,rfl,rfl⟩|⟨x1,y1,rfl,d⟩
    ·simp only[wrNode,Rd.ev_read,M,Rd.ev_ret,Zb]at S
     subst S;obtain⟨R2,E2⟩:=R.storeTop (F':=Fl.emp) W M a9 ⟨o,J⟩ (ν id) U (by
      rw[J];have hq:¬(m=3\/m=4):=fun h=>S9 a7 ⟨U,h⟩
      obtain⟨c2,e2,q1,q2,q3,q5,q4⟩:=a3;exact⟨c2,e2,q1,q2,fun _=>q3 (fun h=>h),fun h=>(hq h).elim,q4⟩)
      (fun x y r=>(z x y _ r (.inr U)).2) (fun _ _=>False) (fun _ _=>(0,0,0)) (fun _=>False)
      (fun x y s' bc r=> .inl ⟨fun h=>h,(z x y _ r (.inl U)).2,U⟩)
      (fun x y x' y' s1 e1 s2 e2 _ _ h _ _=>h.elim) (fun _=>U) (fun _ h=>h.elim) (fun _ _=>U)
     exact⟨_,_,_,Q,R2,O _ _ _⟩
    ·cases t:G[x1]? with
     |none=>simp[leafAt,t]at d
     |some ep=>
      simp only[wrNode,Rd.ev_read,M,t,d,Rd.ev_ret,Zb]at S;subst S;have L:=a4 (by simp);obtain⟨R2,E2⟩:=R.storeSub W M a9 d ⟨o,J⟩ (Y9 (bx:=(m=3\/m=4)) (s:=s0) t d
       (l:= .own inf.size (es.take off++ys.take (min ys.length n)++es.drop (off+min ys.length n))) (by intro gs hh;cases hh))
       (by simp;omega) (by rw[J];exact a3) (fun i j l r=>by
        rw[a4p (by omega) a0]at r;split at r
        ·exact(Z2 (B _ _ _ r)).1
        ·exact L _ _ _ r)
      exact⟨_,_,_,Q,R2,O _ _ _⟩
 ·simp at h
end
section
variable{P:Program}{C:Caller}{Γ:Env}{w0:World}{A O0:Nat->Prop}{ν0:Nu}{N:Nat}{D:Nat->Prop}{st:St}{ν:Nu}{tm:Array Value}{w:World}
theorem a6v{P:Program}{w w':World}{s:Sem Value}{v:Value}(h:s.run P w= .ok v w'):(do pure (Next.value (<-s)):Sem Next).run P w= .ok (.value v) w':=by
 simp[h]
theorem f6s{α:Type}{xs:Array α}{x:α}(h:xs.toList=[x]):xs= #[x]:=by
 obtain⟨l⟩:=xs;simp at h;subst h;rfl
theorem f2n{α:Type}{xs:Array α}{x y:α}(h:xs.toList=[x,y]):xs= #[x,y]:=by
 obtain⟨l⟩:=xs;simp at h;subst h;rfl
structure GlOk(Γ:Env)(cx:Cx):Prop where
 gl:∀g a,cx.gl g=some a->∀w,Γ.G w->∃v,w.cell? ⟨g,0,none⟩=some v/\RV w (fun _=>False) a v
 mp:∀r tb,cx.mp r=some tb->∀w,Γ.G w->∃es clock,w.heap[r]? =some (.map es clock)/\∀s,∃rr,Instr.findNow .string (.string s) es.toList 0=some rr/\rr.map (·.2)=a4m s tb
theorem Rel.G(R:Rel Γ w0 A O0 ν0 N Fl.emp D st ν tm w):Γ.G w:=Γ.stable w0 w (fun b a=>R.fr b (R.gO b a).2 (R.gO b a).1) R.gi
theorem d2k{c:Cx}(n:GlOk Γ c)(R:Rel Γ w0 A O0 ν0 N Fl.emp D st ν tm w){T:Nat}{a u:AV}{va:Value}(h:(loadG c T a).ev C st=some u)(f:RS st ν w D a va):
 ∃v,(Instr.loadAt T va).run c.P w= .ok v w/\RS st ν w D u v:=by
 unfold loadG at h;split at h
 ·rename_i g
  obtain rfl:=f.val_inv;split at h
  ·rename_i a d
   obtain⟨v,i,j⟩:=n.gl g a d w R.G;obtain⟨r,o,p⟩:=a4l (w:=w) (ν:=ν) (D:=D) (b:=g) (q:=0) h (fun k l e=>by
    cases k with
    |zero=>
     simp only[Zs,Zb]at e;subst e;exact⟨v,i,.data _ _ (j.mono (fun b m _=>m.elim) (Zd _))⟩
    |succ k=>simp at e)
   exact⟨r,by simp only[Instr.loadAt,Instr.sureAddr,ZD,ZO,Zu,o],p⟩
  ·simp at h
 ·exact c1l R h f
theorem d1e{j:Cx}(hg:GlOk Γ j)(R:Rel Γ w0 A O0 ν0 N Fl.emp D st ν tm w){T:Nat}{m k u:AV}{V S:Value}{ok:Bool}(h:(lookupA j T m k ok).ev C st=some u)(hm:RS st ν w D m V)(hk:RS st ν w D k S):
 ∃v,(Instr.lookup T V S ok).run j.P w= .ok v w/\RS st ν w D u v:=by
 unfold lookupA at h;split at h
 ·rename_i r s
  obtain rfl:=hm.val_inv;obtain rfl:=hk.val_inv;split at h
  ·rename_i tb key elem E M
   obtain⟨es,clock,W,X⟩:=hg.mp r tb E w R.G;simp only[Rd.ev_bind,F6,Za]at h;obtain⟨_,o,p⟩:=h;have o:=F7 o;have f:j.P.underlying key=some .string:=by
    unfold a6e at o;split at o
    ·rename_i e;exact W7 e
    ·cases o
   obtain⟨K,B,c⟩:=X s;have y:(getObj r).run j.P w= .ok (.map es clock) w:=by simp[getObj,Sem.run,W]
   have t:(Instr.checkKey es.isEmpty 10000 key (.string s)).run j.P w= .ok () w:=by
    unfold Instr.checkKey;simp only[ZD,I8 f,Zu]
    rfl
   have x:(Instr.findKey key (.string s) es.toList).run j.P w= .ok K w:=by
    unfold Instr.findKey;simp only[ZD,I8 f,Zu,B]
    rfl
   have g:∀(v:Value) (b:Bool) (a:AV),RS st ν w D a v->RS st ν w D (if ok then .tup [a,.val (.bool b)]else a) (if ok then .tuple #[v,.bool b]else v):=by
    intro v b a O;cases ok
    ·exact O
    ·refine .tup _ _ U fun i l n=> ?_
     match i,n with
     |0,n=>cases n;exact O
     |1,n=>cases n;exact .data _ _ (.val _)
     |i+2,n=>simp at n
   split at p
   ·rename_i v G
    rw[G]at c;simp only[Rd.ev_ret,Zb]at p;subst p;cases K with
    |none=>cases c
    |some q=>
     cases c;refine⟨_,?_,g q.2 true (ofConst q.2) (.data _ _ (RV.ofConst _))⟩;unfold Instr.lookup;simp only[ZD,I8 M,Zu,y,t,x,ZO]
   ·rename_i G
    rw[G]at c;simp only[Rd.ev_bind,F6,Za,Rd.ev_ret]at p;obtain⟨_,Y,L⟩:=p;obtain⟨Z,Q⟩:=F7 Y;simp only[Zb]at L;subst L;obtain⟨i,d,hi,hd,_,_,I,J⟩:=P4 Z;cases H:i.zero with
    |none=>rw[J H]at Q;cases Q
    |some z=>
     rw[I z H];cases K with
     |some q=>cases c
     |none=>
      refine⟨_,?_,g z false (ofConst z) (.data _ _ (RV.ofConst _))⟩;unfold Instr.lookup;simp only[ZD,I8 M,Zu,y,t,x,ZO,a5o hi H]
  ·simp at h
 ·simp at h
theorem e5i(G:Cx)(M:GlOk Γ G)(R:Rel Γ w0 A O0 ν0 N Fl.emp D st ν tm w){ds:List Deferred}{o:Oper}{a:AV}(h:(opV G o.op).ev C st=some a):
 ∃v,(execOp (Yu tm ds).eval o).run G.P w= .ok (.value v) w/\RS st ν w D a v:=by
 unfold opV at h;split at h
 ·rename_i x e
  exact⟨_,by simp only[execOp,e];rfl,G5 h R⟩
 ·rename_i c x y e
  simp only[Rd.ev_bind,Za]at h;obtain⟨vc,g,d⟩:=h;have I:=G5 g R (ds:=ds);split at d
  ·have I:=I.val_inv
   refine⟨(Yu tm ds).eval x,?_,G5 d R⟩;simp only[execOp,e,I];simp[asBool]
  ·have I:=I.val_inv
   refine⟨(Yu tm ds).eval y,?_,G5 d R⟩;simp only[execOp,e,I];simp[asBool]
  ·simp at d
 ·rename_i T parts e
  obtain⟨v,g,d⟩:=d4x R (ds:=ds) h;refine⟨v,?_,d⟩;simp only[execOp,e];exact a6v g
 ·rename_i T x e
  simp only[Rd.ev_bind,Za]at h;obtain⟨Y,g,d⟩:=h;obtain⟨v,B,L⟩:=d2k M R d (G5 g R (ds:=ds));refine⟨v,?_,L⟩;simp only[execOp,e];exact a6v B
 ·rename_i T x k ok e
  simp only[Rd.ev_bind,Za]at h;obtain⟨Y,g,vk,d,B⟩:=h;obtain⟨v,L,Z⟩:=d1e M R B (G5 g R (ds:=ds)) (G5 d R (ds:=ds));refine⟨v,?_,Z⟩;simp only[execOp,e];exact a6v L
 ·rename_i x e
  simp only[Rd.ev_bind,Za]at h;obtain⟨Y,g,d⟩:=h;have t:=G5 g R (ds:=ds);split at d
  ·simp only[Rd.ev_ret,Zb]at d
   subst d;obtain⟨⟨b,q,K⟩,_⟩:=t.ptr_inv;refine⟨_,?_,t⟩;simp only[execOp,e,K]
   rfl
  ·simp only[Rd.ev_ret,Zb]at d
   subst d;have O:=t.ipt_inv;generalize K:(Yu tm ds).eval x=vv at t O;cases O with
   |ipt _ _ b o c a1 I E=>
    refine⟨_,?_,t⟩;simp only[execOp,e,K]
    rfl
  ·simp at d
 ·rename_i op T x y z e
  simp only[Rd.ev_bind,F6,Za]at h;obtain⟨H,g,vb,d,_,B,L⟩:=h;obtain⟨v,j,m,k3⟩:=e5j L (F7 B) (G5 g R (ds:=ds)) (G5 d R (ds:=ds));refine⟨v,?_,k3⟩;simp only[execOp,e];refine a6v ?_;simp only[ZD,j,Zu,m]
 ·rename_i op T x e
  simp only[Rd.ev_bind,Za]at h;obtain⟨H,g,d⟩:=h;obtain⟨v,j,m⟩:=e6h (P:=G.P) d (G5 g R (ds:=ds));refine⟨v,?_,m⟩;simp only[execOp,e];exact a6v j
 ·rename_i S T x e
  simp only[Rd.ev_bind,Za]at h;obtain⟨H,g,d⟩:=h;have t:=G5 g R (ds:=ds);split at d
  ·have t:=t.val_inv
   obtain⟨v,j,m⟩:=d9i (st:=st) (ν:=ν) (w:=w) (D:=D) d;refine⟨v,?_,m⟩;simp only[execOp,e,t];exact a6v j
  ·obtain⟨v,j,m⟩:=d2s R d t
   refine⟨v,?_,m⟩;simp only[execOp,e];exact a6v j
 ·rename_i f first caps e
  simp only[Rd.ev_bind,F6,Rd.ev_ret,Za]at h;obtain⟨_,g,cs,d,B⟩:=h;have g:=F7 g;cases B;obtain rfl:first= #[]:=Array.eq_empty_of_size_eq_zero g
  have s:=a6g R (ds:=ds) _ d;refine⟨.func (.func f) #[] (caps.map (Yu tm ds).eval),?_,.clo f cs _ ?_ fun i l E=> ?_⟩
  ·simp only[execOp,e]
   exact a6v (by simp[Instr.makeFunc])
  ·have:=s.1;simp at this;simpa using this
  ·obtain⟨v,K,V⟩:=s.2 i l E
   have:(caps.map (Yu tm ds).eval)[i]? =some v:=by rw[<-Array.getElem?_toList,YW];exact K
   rw[ZN,this];exact V
 ·rename_i T x lo O mx e
  simp only[Rd.ev_bind,Za]at h;obtain⟨H,g,d⟩:=h;obtain⟨v,j,m⟩:=d3e R (ds:=ds) d (G5 g R (ds:=ds));refine⟨v,?_,m⟩;simp only[execOp,e];exact a6v j
 ·rename_i T x f e
  simp only[Rd.ev_bind,Za]at h;obtain⟨H,g,d⟩:=h;obtain⟨v,j,m⟩:=b7i (P:=G.P) d (G5 g R (ds:=ds));refine⟨v,?_,m⟩;simp only[execOp,e];exact a6v j
 ·rename_i T x f e
  simp only[Rd.ev_bind,Za]at h;obtain⟨H,g,d⟩:=h;obtain⟨v,j,m⟩:=d4r (P:=G.P) d (G5 g R (ds:=ds));refine⟨v,?_,m⟩;simp only[execOp,e];exact a6v j
 ·rename_i T x i e
  simp only[Rd.ev_bind,Za]at h;obtain⟨H,g,vi,d,B⟩:=h;obtain⟨v,j,m⟩:=b6k (P:=G.P) R B (G5 g R (ds:=ds)) (G5 d R (ds:=ds));refine⟨v,?_,m⟩;simp only[execOp,e];exact a6v j
 ·rename_i T x i e
  simp only[Rd.ev_bind,Za]at h;obtain⟨H,g,vi,d,B⟩:=h;obtain⟨v,j,m⟩:=d3o (P:=G.P) B (G5 g R (ds:=ds)) (G5 d R (ds:=ds));refine⟨v,?_,m⟩;simp only[execOp,e];exact a6v j
 ·rename_i x i e
  simp only[Rd.ev_bind,Za]at h;obtain⟨H,g,d⟩:=h;have t:=G5 g R (ds:=ds);split at d
  ·split at d
   ·rename_i vs _ u hu
    simp only[Rd.ev_ret,Zb]at d;subst d;obtain⟨cs,K,a2,E⟩:=t.tup_inv;have O:i<vs.length:=(Zq.1 hu).1;refine⟨cs.getD i Yj,?_,E i _ hu⟩;have Q:cs[i]? =some (cs.getD i Yj):=by simp[Array.getD,show i<cs.size by omega]
    simp only[execOp,e,K];refine a6v ?_;simp only[Instr.extract,Q]
    rfl
   ·simp at d
  ·simp at d
 ·rename_i c e
  split at h
  ·rename_i n
   split at h
   ·rename_i x T t hT
    simp only[Rd.ev_bind,F6,Za]at h;obtain⟨H,g,_,d,B⟩:=h;obtain⟨v,j,m⟩:=e4w (P:=G.P) B (F7 d) (G5 g R (ds:=ds)) c.argTypes (by rw[f6s hT];rfl) o.type;refine⟨v,?_,m⟩;simp only[execOp,e,resolve,n,f6s t];simp only[ZD,ZO,Zu,invoke,builtin,List.map_toArray,Zz,Ya];rw[j]
    rfl
   ·simp at h
  ·rename_i n
   simp only[Rd.ev_bind,Za]at h;obtain⟨vs,g,d⟩:=h;split at d
   ·rename_i a0 r
    have s:=a6g R (ds:=ds) _ g;have p:(c.args.map (Yu tm ds).eval).toList=c.args.toList.map (Yu tm ds).eval:=YW ..;cases E:c.args.toList.map (Yu tm ds).eval with
    |nil=>rw[E]at s;have:=s.1;simp at this
    |cons v0 X=>
     rw[E]at s;obtain⟨y,W,J⟩:=s.2 0 a0 U;cases W;obtain⟨v,j,m⟩:=e9l (P:=G.P) (w:=w) (a:= .undef) (va:=Yj) r X a0 v0 d J (by simpa using s.drop 1);refine⟨v,?_,m⟩;simp only[execOp,e,resolve,n];simp only[ZD,ZO,Zu,invoke,builtin,Builtin.max_,p,E];rw[j]
     rfl
   ·simp at d
  ·rename_i n
   simp only[Rd.ev_bind,Za]at h;obtain⟨vs,g,d⟩:=h;split at d
   ·rename_i a0 r
    have s:=a6g R (ds:=ds) _ g;have p:(c.args.map (Yu tm ds).eval).toList=c.args.toList.map (Yu tm ds).eval:=YW ..;cases E:c.args.toList.map (Yu tm ds).eval with
    |nil=>rw[E]at s;have:=s.1;simp at this
    |cons v0 X=>
     rw[E]at s;obtain⟨y,W,J⟩:=s.2 0 a0 U;cases W;obtain⟨v,j,m⟩:=e7f (P:=G.P) (w:=w) (a:= .undef) (va:=Yj) r X a0 v0 d J (by simpa using s.drop 1);refine⟨v,?_,m⟩;simp only[execOp,e,resolve,n];simp only[ZD,ZO,Zu,invoke,builtin,Builtin.min_,p,E];rw[j]
     rfl
   ·simp at d
  ·simp at h
 ·simp at h
def a6n:Op->Bool
 | .call c=>match c.callee with
  | .value _=>true
  |_=>false
 |_=>false
theorem d9l(i:Cx)(X:GlOk Γ i)(B:∀b,O0 b->A b)(R:Rel Γ w0 A O0 ν0 N Fl.emp D st ν tm w){ds:List Deferred}{o:Oper}{a:AV}{st':St}(hc:a6n o.op=false)
 (h:(aopV i o).go C st=some (a,st')):
 ∃D' e w',Rel Γ w0 A O0 ν0 N Fl.emp D' st' e tm w'/\((∃v,(execOp (Yu tm ds).eval o).run i.P w= .ok (.value v) w'/\RS st' e w' D' a v)\/
  ((execOp (Yu tm ds).eval o).run i.P w= .ok .skip w'/\o.dst=none)):=by
 have K:(up (opV i o.op)).go C st=some (a,st')->∃D' e w',Rel Γ w0 A O0 ν0 N Fl.emp D' st' e tm w'/\((∃v,(execOp (Yu tm ds).eval o).run i.P w= .ok (.value v) w'/\RS st' e w' D' a v)\/
  ((execOp (Yu tm ds).eval o).run i.P w= .ok .skip w'/\o.dst=none)):=by
  intro h;simp only[RW.go_up,Zh]at h;obtain⟨a',I,t⟩:=h;cases t;obtain⟨v,r,s⟩:=e5i i X R (ds:=ds) I;exact⟨D,ν,w,R,.inl ⟨v,r,s⟩⟩
 unfold aopV at h;split at h
 ·rename_i x m
  simp only[RW.go_bind,RW.go_up,Za,Zh]at h;obtain⟨_,⟨v,I,rfl⟩,h⟩:=h;have L:=G5 I R (ds:=ds);simp only at h;split at h
  ·obtain⟨e,R',hr⟩:=c9m R h L
   exact⟨D,e,w,R',.inl ⟨_,by simp only[execOp,m];rfl,hr⟩⟩
  ·simp only[RW.go_pure,Zb,Zk]at h
   obtain⟨rfl,rfl⟩:=h;exact⟨D,ν,w,R,.inl ⟨_,by simp only[execOp,m];rfl,L⟩⟩
 ·rename_i T m
  simp only[RW.go_bind,RW.go_up,RW.go_wr,RW.go_pure,F6,Y3,ZA,Zl,Za,Zh]at h;obtain⟨_,⟨d,I,rfl⟩,_,⟨_,t,rfl⟩,u⟩:=h;obtain⟨M,O⟩:=F7 t;cases u;obtain⟨e,w',r,s,G⟩:=d3x (P:=i.P) R (T:=T) (d:=d) (ZJ _) M O;exact⟨D,e,w',s,.inl ⟨_,by simp only[execOp,m];exact a6v r,G⟩⟩
 ·rename_i T x m
  simp only[RW.go_bind,RW.go_up,RW.go_wr,RW.go_pure,F6,Y3,ZA,Zl,Za,Zh]at h;obtain⟨_,⟨d,I,rfl⟩,_,⟨v,t,rfl⟩,⟨v',H⟩,u,z⟩:=h;cases z;obtain⟨D',e,w',r,s,G⟩:=e3m (P:=i.P) B R T u (G5 t R (ds:=ds)) (g:=I6 (H (.h d))+1) (ZJ _);exact⟨D',e,w',s,.inl ⟨_,by simp only[execOp,m];exact a6v r,G⟩⟩
 ·rename_i T n parts m
  simp only[RW.go_bind,RW.go_up,RW.go_wr,RW.go_pure,F6,Y3,ZA,Zl,Za,Zh]at h;obtain⟨_,⟨d,I,rfl⟩,_,⟨E,t,rfl⟩,_,⟨_,u,rfl⟩,⟨es,H⟩,z,J⟩:=h;obtain⟨Q,S⟩:=a3d t;obtain⟨M,O,Z,q4⟩:=F7 u;cases J;obtain⟨D',e,w',r,s,G⟩:=b3x (P:=i.P) B R (ds:=ds) Q M O Z z (id:=tid d 0) (g:=I6 (H (.h (tid d 0)))+1) (ZJ _) q4;exact⟨D',e,w',s,.inl ⟨_,by simp only[execOp,m];exact a6v r,G⟩⟩
 ·rename_i T l c m
  simp only[RW.go_bind,RW.go_up,RW.go_wr,RW.go_pure,F6,Y3,ZA,Zl,Za,Zh]at h;obtain⟨_,⟨d,I,rfl⟩,_,⟨vl,t,rfl⟩,_,⟨vc,u,rfl⟩,_,⟨n,z,rfl⟩,_,⟨n',J,rfl⟩,_,⟨E,h6,rfl⟩,_,⟨_,h7,rfl⟩,h8⟩:=h;obtain⟨Q,S⟩:=a3d h6;obtain⟨q0,M,O,Z,q4,q5⟩:=F7 h7;cases h8;obtain⟨kl,rfl⟩:=a8j z;obtain⟨kc,rfl⟩:=a8j J;have hl:=(G5 t R (ds:=ds)).val_inv;have W:=(G5 u R (ds:=ds)).val_inv;simp only at q0 M;subst q0;obtain⟨e,w',r,s,G⟩:=b7a (P:=i.P) R (k:=kl) (k':=kc) Q M O Z q4 (id:=tid d 0) (g:=I6 (st (.h (tid d 0)))+1) (ZJ _);exact⟨D,e,w',s,.inl ⟨_,by simp only[execOp,m,hl,W];exact a6v r,G⟩⟩
 ·rename_i c m
  split at h
  ·rename_i j
   split at h
   ·rename_i x y T T' L V
    simp only[RW.go_bind,RW.go_up,F6,Za,Zh]at h;obtain⟨_,⟨d,I,rfl⟩,_,⟨_,t,rfl⟩,_,⟨va,u,rfl⟩,_,⟨vb,z,rfl⟩,J⟩:=h;obtain⟨v,w',D',e,r,s,G⟩:=c9a B R (P:=i.P) (T0:=o.type) J (G5 u R (ds:=ds)) (G5 z R (ds:=ds)) (F7 t);refine⟨D',e,w',s,.inl ⟨v,?_,G⟩⟩;simp only[execOp,m,resolve,j,f2n L];simp only[ZD,ZO,Zu,invoke,builtin,List.map_toArray,Zz,Ya];rw[f2n V,r]
    rfl
   ·simp at h
  ·rename_i j
   split at h
   ·rename_i x y T T' L V
    simp only[RW.go_bind,RW.go_up,Za,Zh]at h;obtain⟨_,⟨va,u,rfl⟩,_,⟨vb,z,rfl⟩,J⟩:=h;obtain⟨v,w',e,r,s,G⟩:=d8z B R (P:=i.P) (T':=T') (T0:=o.type) J (G5 u R (ds:=ds)) (G5 z R (ds:=ds));refine⟨D,e,w',s,.inl ⟨v,?_,G⟩⟩;simp only[execOp,m,resolve,j,f2n L];simp only[ZD,ZO,Zu,invoke,builtin,List.map_toArray,Zz,Ya];rw[f2n V,r]
    rfl
   ·simp at h
  ·rename_i f j
   rw[m]at hc;simp[a6n,j]at hc
  ·exact K h
 ·rename_i T x y m
  simp only[RW.go_bind,RW.go_up,RW.go_pure,F6,Za,Zh]at h;obtain⟨_,⟨_,I,rfl⟩,_,⟨p,t,rfl⟩,_,⟨v,u,rfl⟩,⟨⟨⟩,H⟩,z,J⟩:=h;have hd:=F7 I;cases J;obtain⟨D',e,w',r,s⟩:∃D' e w',(Xn T (Act.eval ⟨tm,ds⟩ x) (Act.eval ⟨tm,ds⟩ y)).run i.P w= .ok () w'/\Rel Γ w0 A O0 ν0 N Fl.emp D' H e tm w':=by
   unfold b3k at z;split at z
   ·rename_i Y
    exact c8i B R Y (P:=i.P) z (G5 t R (ds:=ds)) (G5 u R (ds:=ds))
   ·exact a7t B R (P:=i.P) z (G5 t R (ds:=ds)) (G5 u R (ds:=ds))
  refine⟨D',e,w',s,.inr ⟨?_,hd⟩⟩;simp only[execOp,m,ZD,r]
  rfl
 ·exact K h
theorem f4w(i:Cx)(k:GlOk Γ i)(j:∀b,O0 b->A b)(R:Rel Γ w0 A O0 ν0 N Fl.emp D st ν tm w){ds:List Deferred}{o:Oper}{st':St}(s:a6n o.op=false)(t:∀d,o.dst=some d->d<N)
 (h:(aop i o).go C st=some ((),st')) {next:Act->World->Prop} {Q:Exit->Act->World->Prop}
 (l:∀D' g f w',Rel Γ w0 A O0 ν0 N Fl.emp D' st' g f w'->next ⟨f,ds⟩ w'):o.wp i.P ⟨tm,ds⟩ w next Q:=by
 unfold aop at h;simp only[RW.go_bind,RW.go_wr,Za,Zb]at h;obtain⟨⟨a,m⟩,p,r⟩:=h;cases r;obtain⟨D',g,w',n,u⟩:=d9l i k j R (ds:=ds) s p;rcases u with⟨v,c,x⟩|⟨c,e⟩
 ·exact d9c (ws:=[]) (st:=m) c n x t l
 ·rw[Oper.wp,c,Oper.upon_skip]
  have:setD o a=[]:=by unfold setD;rw[e]
  rw[this]at l;simp only[Act.put,e];exact l _ _ _ _ n
end
section
variable{P:Program}{C:Caller}{Γ:Env}{w0:World}{A O0:Nat->Prop}{ν0:Nu}{N:Nat}{F:Fl}{D:Nat->Prop}{st:St}{ν:Nu}{tm:Array Value}{w:World}
theorem c5c{φ:Path->Base}{base:Base}{s off n:Nat}{es:List AV}{v:Value}{D2:Nat->Prop}(t:RN w (RS st ν w D) φ base False s es)
 (z:∀i j s' g,leafAt es i j=some (.own s' g)->RN w (RS st ν w D) φ (φ (some (i,j))) False s' g/\a2k g)
 (hr:G4 ((es.drop off).take n)=true) (S:∀b,D b->D2 b) (G:∀b o,base=some (b,o)->D2 b)
 (H:∀i j s' g b o,leafAt es i j=some (.own s' g)->φ (some (i,j))=some (b,o)->D2 b) (hv:SlV w base s off n v) (hle:off+n<=es.length):
 RV w D2 (.list (frzL ((es.drop off).take n))) v:=by
 obtain⟨a,cap,rfl,Z,R⟩:=hv;have hlen:(frzL ((es.drop off).take n)).length=n:=by rw[V8];simp;omega
 have key:RV w D2 (.list (frzL ((es.drop off).take n))) (.slice a (frzL ((es.drop off).take n)).length cap):=by
  rcases R with R|⟨b,o,J,ha,a0⟩
  ·have hn:n=0:=by omega
   subst hn;simp only[List.take_zero,frzL,Zo];exact .list [] a cap 0 0 0 (fun _ _=>Yj) (by simp) (fun u=>(u U).elim) (fun e he=>by cases he) (fun i j l f=>by simp[leafAt]at f) (fun i j l f=>by simp[leafAt]at f)
  ·subst J
   have p:=t.sized;obtain⟨c,Y,Q,k2,k3,_,V⟩:=t;have k:∀i j l,leafAt (frzL ((es.drop off).take n)) i j=some l->∃m,l=frz m/\leafAt ((es.drop off).take n) i j=some m/\leafAt es (off+i) j=some m:=by
    intro i j l f;rw[P6]at f;cases d:leafAt ((es.drop off).take n) i j with
    |none=>simp[d]at f
    |some m=>
     simp only[d,ZA,Zb]at f;refine⟨m,f.symm,U,?_⟩;have:=N0 d;unfold leafAt at this|-;rwa[Yd]at this
   refine .list _ a cap b (o+off*s) s (fun i j=>(c[o+(off+i)*s+j]?).getD Yj) (by rw[hlen];exact Z)
    (fun u=>⟨ha,G b o U,?_⟩) (fun e he=> ?_) (fun i j l f=> ?_) (fun i j l f=> ?_)
   ·rcases Nat.lt_or_ge b w.heap.size with E|E
    ·exact E
    ·rw[Array.getElem?_eq_none E]at Q;cases Q
   ·rw[P5]at he
    obtain⟨X,K,rfl⟩:=ZI.1 he;rw[a1g,Zi];exact p X (Yw (ZV K))
   ·obtain⟨m,rfl,_,d⟩:=k i j l f
    obtain⟨x,B,_⟩:=V _ _ _ d;simp only[World.cell?,Q];rw[B,show o+off*s+i*s+j=o+(off+i)*s+j from by rw[Yk];omega,B]
    rfl
   ·obtain⟨m,rfl,O,d⟩:=k i j l f
    obtain⟨x,B,y⟩:=V _ _ _ d;simp only[B,Option.getD_some];rcases R4 hr O with ho|M
    ·cases m<;>simp[isOwn]at ho
     rename_i s2 r;obtain⟨q1,W⟩:=z _ _ _ _ d;have L:frzL r=r:=a0f (a5y W);simp only[frz,L];have:=W1 (st:=st) (ν:=ν) (D:=D2)
      (q1.mono U (fun _ _ _=>U) (fun a v h=>h.same (Ext.refl _ _ _) S) (fun _ _ _ _ _=>⟨U,fun _ _ _=>U⟩)) W (fun b o I=>H _ _ _ _ b o d I) (off:=0) (n:=r.length) y (by omega)
     simpa only[ZY,Yo]using this
    ·rw[a0q M]
     have:RS st ν w D m x:=by cases m<;>first|exact y|simp[immLeaf]at M
     exact(this.imm M).mono (fun b G _=>⟨U,S b G⟩) (Zd _)
 rwa[hlen]at key
def Blk(st:St)(F:Fl)(ν:Nu)(id b:Nat):Prop:=∃q o,live st F (.nd id q)/\ν id q=some (b,o)
def slId:AV->Nat->Prop
 | .sl id _ _ _ _,i=>i=id
 |_,_=>False
theorem b9v(R:Rel Γ w0 A O0 ν0 N F D st ν tm w){v O:AV}{val:Value}(h:(passLeaf v).ev C st=some O)(z:RS st ν w D v val):
 RV w (fun b=>D b\/∃id,slId v id/\Blk st F ν id b) O val:=by
 have f:∀{u:AV},RV w D u val->RV w (fun b=>D b\/∃id,slId v id/\Blk st F ν id b) u val:=fun h=>h.mono (fun b c _=>⟨U,.inl c⟩) (Zd _)
 unfold passLeaf at h;split at h
 ·rename_i id g p off n
  simp only[Rd.ev_bind,F6,Rd.ev_ret,Za]at h;obtain⟨es,M,_,E,S⟩:=h;have E:=F7 E;cases S;simp only[slc,Rd.ev_bind,F6,Rd.ev_ret,Za]at M;obtain⟨⟨m,s,Q⟩,G,_,V,W⟩:=M;rw[J4]at G;obtain⟨I,hle⟩:=F7 V;cases W;obtain⟨_,_,_,t⟩:=z.sl_inv;have t:=t _ _ _ G;obtain⟨l,r⟩:=R.node G;have l:=l.unbx (S9 I);obtain⟨s1,k,L,X⟩:=N9 G;have H:=R.objs id g m s1 k L;have e:∀q b o,livePath k q->ν id q=some (b,o)->D b\/∃id',slId (.sl id g p off n) id'/\Blk st F ν id' b:=by
   intro q b o hq c;by_cases hm:m=2
   ·subst hm
    obtain⟨J,K⟩:=R.frozen id g s1 k L;cases q with
    |none=>exact .inl (J b o c)
    |some q=>
     obtain⟨B,d,x⟩:=hq q U;have:=M2 K x;simp[immLeaf]at this
   ·exact .inr ⟨id,U,q,o,⟨g,m,s1,k,L,hm,hq⟩,c⟩
  rcases X with⟨rfl,rfl,rfl⟩|⟨i,j,rfl,x⟩
  ·exact c5c l (fun i j B d x=>H.sub i j B d x) E (fun b c=> .inl c) (fun b o c=>e none b o (fun _ hq=>by cases hq) c)
    (fun i j B d b o x c=>e (some (i,j)) b o (fun q hq=>by cases hq;exact⟨B,d,x⟩) c) t hle
  ·have r:=r (by simp)
   exact c5c (φ:=ν id) l (fun Y Z B d y=>by have:=r _ _ _ y;simp[immLeaf]at this) E (fun b c=> .inl c)
    (fun b o c=>e (some (i,j)) b o (fun q hq=>by cases hq;exact⟨_,_,x⟩) c)
    (fun Y Z B d b o y c=>by have:=r _ _ _ y;simp[immLeaf]at this) t hle
 ·simp only[Rd.ev_ret,Zb]at h
  subst h;obtain⟨a,rfl⟩:=z.nil_inv;exact RV.list_nil a
 ·simp only[Rd.ev_ret,Zb]at h
  subst h;obtain rfl:=z.val_inv;exact .val _
 ·simp only[Rd.ev_ret,Zb]at h
  subst h;exact f z.list_inv
 ·simp only[Rd.ev_ret,Zb]at h
  subst h;exact f (z.imm U)
 ·simp only[Rd.ev_ret,Zb]at h
  subst h;exact f (z.imm U)
 ·simp at h
end
section
variable{P:Program}{C:Caller}{Γ:Env}{w0:World}{A O0:Nat->Prop}{ν0:Nu}{N:Nat}{F:Fl}{D:Nat->Prop}{st:St}{ν:Nu}{tm:Array Value}{w:World}
def DL(D:Nat->Prop)(st:St)(F:Fl)(ν:Nu)(ids:List (Nat×Bool))(b:Nat):Prop:=D b\/∃id,(id,false)∈ids/\Blk st F ν id b
theorem DL.mono{ids a:List (Nat×Bool)}(h:∀x∈ids,x∈a){b:Nat}(c:DL D st F ν ids b):DL D st F ν a b:=by
 rcases c with c|⟨id,d,c⟩
 ·exact .inl c
 ·exact .inr ⟨id,h _ d,c⟩
theorem RV.wider{D2:Nat->Prop}{a:AV}{v:Value}(h:RV w D a v)(c:∀b,D b->D2 b):RV w D2 a v:=h.mono (fun b d _=>⟨rfl,c b d⟩) (Zd _)
theorem b4e{b:Bool}{fs:List AV}{id:Nat}:(id,b)∈slIds b fs↔∃l∈fs,slId l id:=by
 unfold slIds;rw[XG];constructor
 ·rintro⟨l,a,h⟩
  refine⟨l,a,?_⟩;cases l<;>simp at h
  exact h.symm
 ·rintro⟨l,a,h⟩
  refine⟨l,a,?_⟩;cases l<;>simp[slId]at h
  rw[h]
theorem a0j(R:Rel Γ w0 A O0 ν0 N F D st ν tm w){v d:AV}{val:Value}{ids:List (Nat×Bool)}(h:(passLeaf v).ev C st=some d)(g:RS st ν w D v val)
 (a:∀x∈slIds false [v],x∈ids):RV w (DL D st F ν ids) d val:=by
 refine(b9v R h g).wider fun b c=> ?_
 rcases c with c|⟨id,e,f⟩
 ·exact .inl c
 ·exact .inr ⟨id,a _ (b4e.2 ⟨v,Zr ..,e⟩),f⟩
theorem a1q(R:Rel Γ w0 A O0 ν0 N F D st ν tm w){ids:List (Nat×Bool)}:∀(fs d:List AV) (cs:List Value),(passLeaves fs).ev C st=some d->RL st ν w D fs cs->
 (∀x∈slIds false fs,x∈ids)->d.length=fs.length/\∀(i:Nat) (l:AV),d[i]? =some l->∃x:Value,cs[i]? =some x/\RV w (DL D st F ν ids) l x:=by
 intro fs
 induction fs with
 |nil=>
  intro d cs h k _;simp only[passLeaves,Rd.ev_ret,Zb]at h;subst h;exact⟨U,fun i l e=>by simp at e⟩
 |cons f fs u=>
  intro d cs h k g;simp only[passLeaves,Rd.ev_bind,Rd.ev_ret,Za]at h;obtain⟨E,o,z,p,r⟩:=h;cases r;cases cs with
  |nil=>have:=k.1;simp at this
  |cons c cs=>
   obtain⟨B,m,n⟩:=k.2 0 f U;cases m;have s:∀x∈slIds false [f],x∈ids:=fun x j=>g x (by
    obtain⟨a,b⟩:=x;unfold slIds at j|-;rw[XG]at j|-;obtain⟨l,e,he⟩:=j;exact⟨l,by simp at e;rw[e];exact Zr ..,he⟩)
   have t:∀x∈slIds false fs,x∈ids:=fun x j=>g x (by
    unfold slIds at j|-;rw[XG]at j|-;obtain⟨l,e,he⟩:=j;exact⟨l,Zn _ e,he⟩)
   obtain⟨v,y⟩:=u z cs p (by simpa using k.drop 1) t;refine⟨by simp[v],fun i l e=> ?_⟩;cases i with
   |zero=>
    simp only[Zs,Zb]at e;subst e;exact⟨c,U,a0j R o n s⟩
   |succ i=>
    simp only[ZR]at e|-;exact y i l e
theorem RV.agg'{fs:List AV}{cs:Array Value}(c:cs.size=fs.length)(h:∀(i:Nat) (l:AV),fs[i]? =some l->∃x:Value,cs[i]? =some x/\RV w D l x):RV w D (.agg fs) (.agg cs):=by
 refine .agg fs cs c fun i l a=> ?_
 obtain⟨x,d,b⟩:=h i l a;rw[ZN,d];exact b
theorem a2g{v a:AV}(h:(passLeaf v).ev C st=some a):isOwn v=false/\leaves a=[a]:=by
 unfold passLeaf at h;split at h<;>(try simp only[Rd.ev_bind,Rd.ev_ret,Rd.ev_fail,Za,Zb,reduceCtorEq]at h)
 ·obtain⟨_,_,_,_,rfl⟩:=h;exact⟨U,U⟩
 all_goals(subst h;exact⟨U,U⟩)
theorem a0y:∀(fs a:List AV),(passLeaves fs).ev C st=some a->∀l∈fs,isOwn l=false:=by
 intro fs
 induction fs with
 |nil=>intro _ _ l b;cases b
 |cons f fs e=>
  intro a h l b;simp only[passLeaves,Rd.ev_bind,Rd.ev_ret,Za]at h;obtain⟨i,c,g,d,_⟩:=h;cases b with
  |head=>exact(a2g c).1
  |tail _ b=>exact e g d l b
theorem e0x{L:AV->Value->Prop}{φ:Path->Base}{b o s:Nat}{bx:Prop}{es:List AV}(f:RN w (RS st ν w D) φ (some (b,o)) bx s es){i:Nat}{e:AV}(he:es[i]? =some e)
 (h:∀l∈leaves e,isOwn l=false):
 RL st ν w D (leaves e) ((Yb (leaves e).length).map fun k=>(w.cell? ⟨b,o+i*s+k,none⟩).getD Yj)/\
  ∀k,k<(leaves e).length->w.cell? ⟨b,o+i*s+k,none⟩=some ((w.cell? ⟨b,o+i*s+k,none⟩).getD Yj):=by
 have n:∀k d,(leaves e)[k]? =some d->∃x,w.cell? ⟨b,o+i*s+k,none⟩=some x/\RS st ν w D d x:=by
  intro k d a;obtain⟨x,c,m⟩:=f.cell (i:=i) (j:=k) (l:=d) (by simp[leafAt,he,a]);exact⟨x,c,m.notOwn (h d (Zx a))⟩
 refine⟨⟨by simp,fun k l a=> ?_⟩,fun k a=> ?_⟩
 ·obtain⟨x,c,m⟩:=n k l a
  have g:=(Zq.1 a).1;refine⟨x,?_,m⟩;rw[ZE,Yv g];simp[c]
 ·obtain⟨x,c,_⟩:=n k _ (Zg a)
  rw[c];rfl
theorem a4j(R:Rel Γ w0 A O0 ν0 N F D st ν tm w){v v':AV}{val:Value}{a ids:List (Nat×Bool)}(h:(passCap v).ev C st=some (v',a))(Z:RS st ν w D v val)
 (c:∀x∈a,x∈ids):RV w (DL D st F ν ids) v' val:=by
 unfold passCap at h;split at h
 ·simp only[Rd.ev_ret,Zb,Zk]at h
  obtain⟨rfl,rfl⟩:=h;exact Z.ipt_inv.wider fun b hb=> .inl hb
 ·rename_i id g i j
  simp only[Rd.ev_bind,Za]at h;obtain⟨⟨m,s,es⟩,K,n⟩:=h;rw[J4]at K;have Q:=O5 K;obtain⟨_,_,_,hp⟩:=Z.ptr_inv;obtain⟨b,o,E,rfl⟩:=hp _ _ _ K;obtain⟨p,_⟩:=R.node K;rw[E]at p;have hlt:b<w.heap.size:=p.lt U;have O:(id,false)∈ids->DL D st F ν ids b:=by
   intro W;by_cases hm:m=2
   ·subst hm
    exact .inl ((R.frozen id g s es Q).1 b o E)
   ·exact .inr ⟨id,W,none,o,⟨g,m,s,es,Q,hm,fun _ hq=>by cases hq⟩,E⟩
  have fin:∀(e y:AV),es[i]? =some e->(∀l∈leaves e,isOwn l=false)->(id,false)∈ids->(leaves y).length=(leaves e).length->
   (∀(cs:List Value),RL st ν w D (leaves e) cs->∀(k:Nat) (l:AV),(leaves y)[k]? =some l->∃x:Value,cs[k]? =some x/\RV w (DL D st F ν ids) l x)->
   RV w (DL D st F ν ids) (.ipt y j) (.pointer (some ⟨b,o+i*s+j,none⟩)):=by
   intro e y he J W hlen I;obtain⟨V,G⟩:=e0x (L:=fun _ _=>True) p he J;have I:=I _ V;refine .ipt y j b (o+i*s) (fun k=>(w.cell? ⟨b,o+i*s+k,none⟩).getD Yj) ⟨O W,hlt⟩ (fun k l t=> ?_) (fun k l t=> ?_)
   ·have H:k<(leaves e).length:=by have:=(Zq.1 t).1;omega
    exact G k H
   ·have H:k<(leaves e).length:=by have:=(Zq.1 t).1;omega
    obtain⟨x,f,Y⟩:=I k l t;rw[ZE,Yv H]at f;simp only[ZA,Zb]at f;rw[f];exact Y
  simp only at n;split at n
  ·rename_i z he
   simp only[Rd.ev_bind,Rd.ev_ret,Za]at n;obtain⟨d,B,S⟩:=n;cases S;refine fin (.agg z) (.agg d) he (a0y z d B) (c _ (Zr ..)) ?_ fun cs r=> ?_
   ·have M:=(e0x (L:=fun _ _=>True) p he (a0y z d B)).1
    exact(a1q R z d _ B M (fun x f=>c x (Zn _ f))).1
   ·exact(a1q R z d cs B r (fun x f=>c x (Zn _ f))).2
  ·rename_i e X he
   simp only[Rd.ev_bind,Rd.ev_ret,Za]at n;obtain⟨y,B,S⟩:=n;cases S;have hle:leaves e=[e]:=by
    rcases a2y e with⟨z,rfl⟩|⟨_,h⟩
    ·exact(X z U).elim
    ·exact h
   obtain⟨J,u⟩:=a2g B;refine fin e y he (fun l I=>by rw[hle]at I;simp at I;rw[I];exact J) (c _ (Zr ..)) (by rw[hle,u];rfl) fun cs r k l t=> ?_
   rw[u]at t;rw[hle]at r;cases k with
   |succ k=>simp at t
   |zero=>
    simp only[Zs,Zb]at t;subst t;obtain⟨x,f,Y⟩:=r.2 0 e U;exact⟨x,f,a0j R B Y (fun x f=>c x (Zn _ f))⟩
  ·simp at n
 ·simp only[Rd.ev_bind,Rd.ev_ret,Za]at h
  obtain⟨v1,K,n⟩:=h;cases n;exact a0j R K Z c
end
section
variable{P:Program}{C:Caller}{Γ:Env}{w0:World}{A O0:Nat->Prop}{ν0:Nu}{N:Nat}{F:Fl}{D:Nat->Prop}{st:St}{ν:Nu}{tm:Array Value}{w:World}
theorem d5b(R:Rel Γ w0 A O0 ν0 N F D st ν tm w){ids:List (Nat×Bool)}:∀(fs b:List AV) (a:List (Nat×Bool)) (cs:List Value),(passCaps fs).ev C st=some (b,a)->RL st ν w D fs cs->
 (∀x∈a,x∈ids)->b.length=fs.length/\∀(i:Nat) (l:AV),b[i]? =some l->∃x:Value,cs[i]? =some x/\RV w (DL D st F ν ids) l x:=by
 intro fs
 induction fs with
 |nil=>
  intro b a cs h g _;simp only[passCaps,Rd.ev_ret,Zb,Zk]at h;obtain⟨rfl,rfl⟩:=h;exact⟨U,fun i l e=>by simp at e⟩
 |cons f fs r=>
  intro b a cs h g d;simp only[passCaps,Rd.ev_bind,Rd.ev_ret,Za]at h;obtain⟨⟨z,v⟩,n,⟨u,a2⟩,o,p⟩:=h;cases p;cases cs with
  |nil=>have:=g.1;simp at this
  |cons c cs=>
   obtain⟨y,j,k⟩:=g.2 0 f U;cases j;obtain⟨s,t⟩:=r u a2 cs o (by simpa using g.drop 1) (fun x m=>d x (Yc _ m));refine⟨by simp[s],fun i l e=> ?_⟩;cases i with
   |zero=>
    simp only[Zs,Zb]at e;subst e;exact⟨c,U,a4j R n k (fun x m=>d x (ZU _ m))⟩
   |succ i=>
    simp only[ZR]at e|-;exact t i l e
theorem b3a{v:AV}{es:List AV}{st':St}(h:(freeze v).go C st=some (es,st')):∀k,¬slId v k->st' (.h k)=st (.h k):=by
 intro k c;unfold freeze at h;split at h
 ·simp only[RW.go_pure,Zb,Zk]at h;rw[h.2]
 ·simp only[RW.go_pure,Zb,Zk]at h;rw[h.2]
 ·rename_i id g p off n
  have a:k≠id:=fun e=>c e
  simp only[RW.go_bind,RW.go_up,F6,Za,Zh]at h;obtain⟨_,⟨⟨m,o,b⟩,d,rfl⟩,_,⟨_,f,rfl⟩,h⟩:=h;simp only at h;split at h
  ·simp only[RW.go_pure,Zb,Zk]at h;rw[<-h.2]
  ·simp only[RW.go_bind,RW.go_up,F6,Za,Zh]at h
   obtain⟨_,⟨_,l,rfl⟩,h⟩:=h;cases p with
   |none=>
    simp only[RW.go_bind,RW.go_wr,RW.go_pure,Zl,Zb,Zk]at h;rw[<-h.2];exact N4 _ _ _ a
   |some q=>
    obtain⟨i,j⟩:=q;simp only[RW.go_bind,RW.go_up,Y3,ZA,Zl]at h;split at h
    ·split at h
     ·simp only[RW.go_bind,RW.go_wr,RW.go_pure,Zl,Zb,Zk]at h
      rw[<-h.2];exact N4 _ _ _ a
     ·simp at h
    ·simp at h
 ·simp at h
theorem c6k{v:AV}(h:∀id g p off n,v≠.sl id g p off n)(b:Bool):slIds b [v]=[]:=by
 cases v<;>first|rfl|exact(h _ _ _ _ _ rfl).elim
theorem a8k(d:∀b,O0 b->A b){κ:FK}(j:F κ=none)(R:Rel Γ w0 A O0 ν0 N F D st ν tm w){v m:AV}{st':St}{val:Value}
 (h:(keepLeaf v).go C st=some (m,st')) (l:RS st ν w D v val):
 ∃D':Nat->Prop,(∀b,D b->D' b)/\Rel Γ w0 A O0 ν0 N F D' st' ν tm w/\Ext st ν w st' ν w/\RV w D' m val/\∀k,¬slId v k->st' (.h k)=st (.h k):=by
 unfold keepLeaf at h;split at h
 ·simp only[RW.go_bind,RW.go_pure,Za]at h
  obtain⟨⟨es,t⟩,a,c⟩:=h;cases c;obtain⟨D',r,o,E,s⟩:=X2 d j R a l;exact⟨D',r,o,E,s,b3a a⟩
 ·rename_i i
  simp only[RW.go_up,Zh]at h;obtain⟨u,a,c⟩:=h;cases c;have:=a0j (ids:=[]) R a l (by rw[c6k (fun id g p off n e=>i id g p off n e)];simp);exact⟨D,fun _ h=>h,R,Ext.refl _ _ _,this.wider (fun b f=>by rcases f with f|⟨id,h,_⟩;exact f;cases h),fun _ _=>U⟩
theorem b3q(o:∀b,O0 b->A b){κ:FK}(B:F κ=none):∀(fs d:List AV) (cs:List Value) (D:Nat->Prop) (st st':St),
 Rel Γ w0 A O0 ν0 N F D st ν tm w->(keepLeaves fs).go C st=some (d,st')->RL st ν w D fs cs->
 ∃D':Nat->Prop,(∀b,D b->D' b)/\Rel Γ w0 A O0 ν0 N F D' st' ν tm w/\Ext st ν w st' ν w/\(∀k,(∀l∈fs,¬slId l k)->st' (.h k)=st (.h k))/\
  d.length=fs.length/\∀(i:Nat) (l:AV),d[i]? =some l->∃x:Value,cs[i]? =some x/\RV w D' l x:=by
 intro fs
 induction fs with
 |nil=>
  intro d cs D st st' R h n;simp only[keepLeaves,RW.go_pure,Zb,Zk]at h;obtain⟨rfl,rfl⟩:=h;exact⟨D,fun _ h=>h,R,Ext.refl _ _ _,fun _ _=>U,U,fun i l e=>by simp at e⟩
 |cons f fs S=>
  intro d cs D st st' R h n;simp only[keepLeaves,RW.go_bind,RW.go_pure,Za]at h;obtain⟨⟨X,m⟩,L,⟨V,E⟩,M,O⟩:=h;cases O;cases cs with
  |nil=>have:=n.1;simp at this
  |cons c cs=>
   obtain⟨W,p,y⟩:=n.2 0 f U;cases p;obtain⟨D1,g,J,G,z,r⟩:=a8k o B R L y;have u:RL m ν w D1 fs cs:=by
    have:=n.drop 1;simp only[Yh,ZY]at this;exact⟨this.1,fun i l e=>by obtain⟨v,a,b⟩:=this.2 i l e;exact⟨v,a,b.same G g⟩⟩
   obtain⟨D2,j,K,I,s,hlen,t⟩:=S V cs D1 m E J M u;refine⟨D2,fun b Q=>j b (g b Q),K,G.trans I,fun k H=> ?_,by simp[hlen],fun i l e=> ?_⟩
   ·exact(s k (fun l e=>H l (Zn _ e))).trans (r k (H f (Zr ..)))
   ·cases i with
    |zero=>
     simp only[Zs,Zb]at e;subst e;exact⟨c,U,z.wider j⟩
    |succ i=>
     simp only[ZR]at e|-;exact t i l e
end
section
variable{P:Program}{C:Caller}{Γ:Env}{w0:World}{A O0:Nat->Prop}{ν0:Nu}{N:Nat}{F:Fl}{D:Nat->Prop}{st:St}{ν:Nu}{tm:Array Value}{w:World}
def κA(i:Nat):FK:=(10+i,0,0)
theorem U4{es:List AV}(h:P1 es=true):G4 es=true:=by
 unfold G4;rw[Zt];intro e he;have a:L5 e=true:=Zt.1 h e he;cases e<;>simp_all[L5,M1]
def Sep(a b:List (Nat×Bool)):Prop:=∀x∈a,∀y∈b,x.1=y.1->x.2=false/\y.2=false
theorem a6u{a b:List (Nat×Bool)}(h:apartIds (a++b)=true):apartIds a=true/\apartIds b=true/\Sep a b:=by
 induction a with
 |nil=>exact⟨U,h,fun x l=>by cases l⟩
 |cons x a m=>
  obtain⟨i,f⟩:=x;simp only[Zp,apartIds,Zy,List.all_append]at h;obtain⟨⟨g,j⟩,k⟩:=h;obtain⟨n,o,p⟩:=m k;refine⟨by simp[apartIds,g,n],o,fun y c z d e=> ?_⟩;cases c with
  |head=>
   have:=Zt.1 j z d;simp only at e;simp only[Bool.or_eq_true,bne_iff_ne,ne_eq,Zy,Bool.not_eq_true']at this;rcases this with h|h
   ·exact(h e.symm).elim
   ·exact h
  |tail _ c=>exact p y c z d e
def BoxR(st:St)(ν:Nu)(ids:List (Nat×Bool))(v a:AV)(val:Value):Prop:=
 ∃id g j m s es b o,v= .ptr id g none 0 j/\a= .ownp es 0 j/\st (.h id)= .obj g m s es/\(m=3\/m=4)/\P1 es=true/\(id,true)∈ids/\
  ν id none=some (b,o)/\val= .pointer (some ⟨b,o+j,none⟩)
inductive PArg(F:Fl)(D:Nat->Prop)(st:St)(ν:Nu)(w:World)(ids:List (Nat×Bool))(i md:Nat):AV->AV->Value->Prop
 |data (v a:AV) (val:Value) (hq:a2a md v=[]) (hr:RV w (DL D st F ν ids) a val):PArg F D st ν w ids i md v a val
 |moved (id g n s:Nat) (es:List AV) (φ:Path->Base) (val:Value) (hmd:md=2) (hF:F (κA i)=some ⟨φ,s,es⟩) (hv:SlV w (φ none) s 0 es.length val) (hr:G4 es=true) (hid:(id,true)∈ids):
  PArg F D st ν w ids i md (.sl id g none 0 n) (.own s es) val
 |lentS (id g:Nat) (p:Path) (m s:Nat) (es:List AV) (val:Value) (hmd:md=1\/md=4) (hn:nodeAt st id g p=some (m,s,es)) (hm:m≠2) (hbx:bxB m p=false) (hi:G4 es=true/\(P1 es=true\/p=none))
  (hid:(id,true)∈ids) (hv:SlV w (ν id p) s 0 es.length val):PArg F D st ν w ids i md (.sl id g p 0 es.length) (.own s es) val
 |lentP (v a:AV) (val:Value) (h:BoxR st ν ids v a val):PArg F D st ν w ids i md v a val
 |clo (f:Nat) (caps caps':List AV) (cs:Array Value) (M:Nat->List (Nat×Bool)) (hmd:md=1) (hl:caps'.length=caps.length) (hs:cs.size=caps.length)
  (hM:∀(k:Nat) x,x∈M k->x∈ids) (hsep:∀j j',j<j'->Sep (M j) (M j'))
  (h:∀(k:Nat) (c c':AV),caps[k]? =some c->caps'[k]? =some c'->(RV w (DL D st F ν ids) c' (cs.getD k Yj)/\(∀id g p i j,c≠.ptr id g p i j)/\(∀es i j,c'≠.ownp es i j))\/BoxR st ν (M k) c c' (cs.getD k Yj)):
  PArg F D st ν w ids i md (.clo f caps) (.clo f caps') (.func (.func f) #[] cs)
theorem c0x(R:Rel Γ w0 A O0 ν0 N F D st ν tm w){ids:List (Nat×Bool)}:∀(fs l:List AV) (a:List (Nat×Bool)) (cs:List Value),(passVars fs).ev C st=some (l,a)->RL st ν w D fs cs->
 (∀x∈a,x∈ids)->apartIds a=true->l.length=fs.length/\∃M:Nat->List (Nat×Bool),(∀(k:Nat) x,x∈M k->x∈a)/\(∀j u,j<u->Sep (M j) (M u))/\∀(k:Nat) (c v:AV),fs[k]? =some c->l[k]? =some v->
  ∃x:Value,cs[k]? =some x/\((RV w (DL D st F ν ids) v x/\(∀id g p i j,c≠.ptr id g p i j)/\(∀es i j,v≠.ownp es i j))\/BoxR st ν (M k) c v x):=by
 intro fs
 induction fs with
 |nil=>
  intro l a cs h G _ _;simp only[passVars,Rd.ev_ret,Zb,Zk]at h;obtain⟨rfl,rfl⟩:=h;exact⟨U,fun _=>[],fun _ _ d=>d,fun _ _ _ x d=>(by cases d),fun i c v hl=>by simp at hl⟩
 |cons f fs ih=>
  intro l a cs h G n I;simp only[passVars,Rd.ev_bind,Rd.ev_ret,Za]at h;obtain⟨⟨f',S⟩,z,⟨r',a2⟩,V,W⟩:=h;cases W;obtain⟨Q,B,E⟩:=a6u I;cases cs with
  |nil=>have:=G.1;simp at this
  |cons c cs=>
   obtain⟨v,K,t⟩:=G.2 0 f U;cases K;obtain⟨q1,M,O,Z,q2⟩:=ih r' a2 cs V (by simpa using G.drop 1) (fun x d=>n x (Yc _ d)) B;refine⟨by simp[q1],fun k=>match k with|0=>S|k+1=>M k,fun k x d=> ?_,fun j u hj=> ?_,fun k x x' d r=> ?_⟩
   ·cases k with
    |zero=>exact ZU _ d
    |succ k=>exact Yc _ (O k x d)
   ·cases u with
    |zero=>omega
    |succ u=>cases j with
     |zero=>exact fun x d y hy=>E x d y (O u y hy)
     |succ j=>exact Z j u (by omega)
   cases k with
   |zero=>
    simp only[Zs,Zb]at d r;subst d r;refine⟨c,U,?_⟩;split at z
    ·rename_i id g i j
     simp only[Rd.ev_bind,F6,Rd.ev_ret,Za]at z;obtain⟨⟨m,s,es⟩,H,_,X,Y⟩:=z;rw[J4]at H;obtain⟨hm,hi,rfl⟩:=F7 X;cases Y;obtain⟨_,_,_,hp⟩:=t.ptr_inv;obtain⟨b,o,J,rfl⟩:=hp _ _ _ H;exact .inr ⟨id,g,j,m,s,es,b,o,U,U,O5 H,hm,hi,Zr ..,J,by simp⟩
    ·rename_i L
     refine .inl ⟨a4j R z t (fun x d=>n x (ZU _ d)),?_,?_⟩
     ·intro id g p i j e
      subst e;cases p with
      |none=>exact L _ _ _ _ U
      |some q=>simp[passCap,passLeaf]at z
     ·intro es i j e
      subst e;have:=a4j R z t (fun x d=>n x (ZU _ d));cases this
   |succ k=>
    simp only[ZR]at d r|-;exact q2 k x x' d r
theorem RV.ofRS_clo{f:Nat}{caps a:List AV}{cs:Array Value}{D2:Nat->Prop}(e:a.length=caps.length)(g:cs.size=caps.length)
 (h:∀(i:Nat) (l:AV),a[i]? =some l->∃x:Value,cs.toList[i]? =some x/\RV w D2 l x):RV w D2 (.clo f a) (.func (.func f) #[] cs):=by
 refine .clo f a cs (by omega) fun i l b=> ?_
 obtain⟨x,c,d⟩:=h i l b;have c:cs[i]? =some x:=by simpa using c
 rw[ZN,c];exact d
theorem RS.clo_list{f:Nat}{caps:List AV}{v:Value}(h:RS st ν w D (.clo f caps) v):∃cs:Array Value,v= .func (.func f) #[] cs/\cs.size=caps.length/\RL st ν w D caps cs.toList:=by
 obtain⟨cs,rfl,a,c⟩:=h.clo_inv;refine⟨cs,U,a,by simpa using a,fun i l b=> ?_⟩;have d:i<caps.length:=(Zq.1 b).1;have:=c i l b;refine⟨cs[i]'(by omega),by simp[show i<cs.size by omega],?_⟩;simpa[Array.getD,show i<cs.size by omega]using this
theorem RV.toDL{D2:Nat->Prop}{ids:List (Nat×Bool)}{a:AV}{v:Value}(h:RV w D2 a v):RV w (DL D2 st F ν ids) a v:=h.wider fun b c=> .inl c
theorem c4w(a:∀b,O0 b->A b){κ:FK}(c:F κ=none)(R:Rel Γ w0 A O0 ν0 N F D st ν tm w){v e:AV}{st':St}{val:Value}
 (h:(keepCap v).go C st=some (e,st')) (d:RS st ν w D v val):
 ∃D':Nat->Prop,(∀b,D b->D' b)/\Rel Γ w0 A O0 ν0 N F D' st' ν tm w/\Ext st ν w st' ν w/\RV w D' e val/\∀k,¬slId v k->st' (.h k)=st (.h k):=by
 unfold keepCap at h;split at h
 ·simp only[RW.go_pure,Zb,Zk]at h
  obtain⟨rfl,rfl⟩:=h;exact⟨D,fun _ h=>h,R,Ext.refl _ _ _,d.ipt_inv,fun _ _=>U⟩
 ·exact a8k a c R h d
theorem c2f(o:∀b,O0 b->A b){κ:FK}(B:F κ=none):∀(fs d:List AV) (cs:List Value) (D:Nat->Prop) (st st':St),
 Rel Γ w0 A O0 ν0 N F D st ν tm w->(keepCaps fs).go C st=some (d,st')->RL st ν w D fs cs->
 ∃D':Nat->Prop,(∀b,D b->D' b)/\Rel Γ w0 A O0 ν0 N F D' st' ν tm w/\Ext st ν w st' ν w/\(∀k,(∀l∈fs,¬slId l k)->st' (.h k)=st (.h k))/\
  d.length=fs.length/\∀(i:Nat) (l:AV),d[i]? =some l->∃x:Value,cs[i]? =some x/\RV w D' l x:=by
 intro fs
 induction fs with
 |nil=>
  intro d cs D st st' R h n;simp only[keepCaps,RW.go_pure,Zb,Zk]at h;obtain⟨rfl,rfl⟩:=h;exact⟨D,fun _ h=>h,R,Ext.refl _ _ _,fun _ _=>U,U,fun i l e=>by simp at e⟩
 |cons f fs S=>
  intro d cs D st st' R h n;simp only[keepCaps,RW.go_bind,RW.go_pure,Za]at h;obtain⟨⟨X,m⟩,L,⟨V,E⟩,M,O⟩:=h;cases O;cases cs with
  |nil=>have:=n.1;simp at this
  |cons c cs=>
   obtain⟨W,p,y⟩:=n.2 0 f U;cases p;obtain⟨D1,g,J,G,z,r⟩:=c4w o B R L y;have u:RL m ν w D1 fs cs:=by
    have:=n.drop 1;simp only[Yh,ZY]at this;exact⟨this.1,fun i l e=>by obtain⟨v,a,b⟩:=this.2 i l e;exact⟨v,a,b.same G g⟩⟩
   obtain⟨D2,j,K,I,s,hlen,t⟩:=S V cs D1 m E J M u;refine⟨D2,fun b Q=>j b (g b Q),K,G.trans I,fun k H=> ?_,by simp[hlen],fun i l e=> ?_⟩
   ·exact(s k (fun l e=>H l (Zn _ e))).trans (r k (H f (Zr ..)))
   ·cases i with
    |zero=>
     simp only[Zs,Zb]at e;subst e;exact⟨c,U,z.wider j⟩
    |succ i=>
     simp only[ZR]at e|-;exact t i l e
theorem c0q:∀(fs a:List AV),(passLeaves fs).ev C st=some a->∀e∈a,leaves e=[e]:=by
 intro fs
 induction fs with
 |nil=>
  intro a h e he;simp only[passLeaves,Rd.ev_ret,Zb]at h;subst h;cases he
 |cons f fs g=>
  intro a h e he;simp only[passLeaves,Rd.ev_bind,Rd.ev_ret,Za]at h;obtain⟨j,b,i,c,d⟩:=h;cases d;cases he with
  |head=>exact(a2g b).2
  |tail _ he=>exact g i c e he
theorem f0o(R:Rel Γ w0 A O0 ν0 N F D st ν tm w){id g i j n m s:Nat}{es fs:List AV}{e:AV}{val:Value}{ids:List (Nat×Bool)}
 (M:nodeAt st id g none=some (m,s,es)) (he:es[i]? =some e) (hle:j+n<=(leaves e).length) (h:(passLeaves (((leaves e).drop j).take n)).ev C st=some fs)
 (X:RS st ν w D (.asl id g i j n) val) (hid:(id,false)∈ids) (I:∀x∈slIds false (((leaves e).drop j).take n),x∈ids):RV w (DL D st F ν ids) (.list fs) val:=by
 obtain⟨_,_,W⟩:=X.asl_inv;obtain⟨b,o,z,rfl⟩:=W _ _ _ M;have L:=O5 M;obtain⟨y,_⟩:=R.node M;rw[z]at y;have hlt:b<w.heap.size:=y.lt U;have H:DL D st F ν ids b:=by
  by_cases hm:m=2
  ·subst hm
   exact .inl ((R.frozen id g s es L).1 b o z)
  ·exact .inr ⟨id,hid,none,o,⟨g,m,s,es,L,hm,fun _ hq=>by cases hq⟩,z⟩
 have S:=a0y _ _ h;have p:∀k E,(((leaves e).drop j).take n)[k]? =some E->∃x,w.cell? ⟨b,o+i*s+j+k,none⟩=some x/\RS st ν w D E x:=by
  intro k E r;have Q:(leaves e)[j+k]? =some E:=by
   rw[YA]at r;split at r
   ·rwa[Yd]at r
   ·cases r
  obtain⟨x,t,K⟩:=y.cell (i:=i) (j:=j+k) (l:=E) (by simp[leafAt,he,Q]);exact⟨x,by rw[<-t];congr 2;omega,K.notOwn (S E (Zx r))⟩
 have f:(((leaves e).drop j).take n).length=n:=by rw[ZH,List.length_drop];omega
 have O:RL st ν w D (((leaves e).drop j).take n) ((Yb n).map fun k=>(w.cell? ⟨b,o+i*s+j+k,none⟩).getD Yj):=by
  refine⟨by simp[f],fun k l r=> ?_⟩;obtain⟨x,t,K⟩:=p k l r;have J:=(Zq.1 r).1;rw[f]at J;exact⟨x,by rw[ZE,Yv J];simp[t],K⟩
 obtain⟨hlen,u⟩:=a1q (ids:=ids) R _ fs _ h O I;have v:=c0q _ _ h;have G:∀a c l,leafAt fs a c=some l->c=0/\fs[a]? =some l:=by
  intro a c l u;unfold leafAt at u;cases d:fs[a]? with
  |none=>simp[d]at u
  |some V=>
   simp only[d,Zl,v V (Zx d)]at u;cases c with
   |zero=>simp at u;exact⟨U,by rw[u]⟩
   |succ c=>simp at u
 have key:RV w (DL D st F ν ids) (.list fs) (.slice (some ⟨b,o+i*s+j,none⟩) fs.length n):=by
  refine .list fs _ n b (o+i*s+j) 1 (fun a c=>(w.cell? ⟨b,o+i*s+j+a,none⟩).getD Yj) (by omega) (fun _=>⟨U,H,hlt⟩) (fun e he=>by rw[v e he];rfl) (fun a c l B=> ?_) (fun a c l B=> ?_)
  ·obtain⟨rfl,d⟩:=G a c l B
   have r:a<n:=by have:=(Zq.1 d).1;omega
   obtain⟨x,t,_⟩:=p a _ (Zg (by omega));rw[Nat.mul_one,Nat.add_zero,t];rfl
  ·obtain⟨rfl,d⟩:=G a c l B
   have r:a<n:=by have:=(Zq.1 d).1;omega
   obtain⟨x,t,K⟩:=u a l d;rw[ZE,Yv r]at t;simp only[ZA,Zb]at t;rw[t];exact K
 rwa[hlen,f]at key
theorem d5y(O:∀b,O0 b->A b){i md:Nat}(V:F (κA i)=none)(R:Rel Γ w0 A O0 ν0 N F D st ν tm w){v a:AV}{ids:List (Nat×Bool)}{st':St}{val:Value}(a4:apartIds ids=true)
 (h:(a3k md v).go C st=some ((a,ids),st')) (B:RS st ν w D v val):
 ∃F' D',(∀b,D b->D' b)/\Rel Γ w0 A O0 ν0 N F' D' st' ν tm w/\Ext st ν w st' ν w/\(∀κ,κ≠κA i->F' κ=F κ)/\(∀k,(k,true)∉ids->st' (.h k)=st (.h k))/\
  PArg F' D' st' ν w ids i md v a val:=by
 have same:st'=st->PArg F D st ν w ids i md v a val->∃F' D',(∀b,D b->D' b)/\Rel Γ w0 A O0 ν0 N F' D' st' ν tm w/\Ext st ν w st' ν w/\(∀κ,κ≠κA i->F' κ=F κ)/\
  (∀k,(k,true)∉ids->st' (.h k)=st (.h k))/\PArg F' D' st' ν w ids i md v a val:=by
  rintro rfl hp;exact⟨F,D,fun _ h=>h,R,Ext.refl _ _ _,fun _ _=>U,fun _ _=>U,hp⟩
 unfold a3k at h;split at h
 ·rename_i fs
  obtain⟨cs,rfl,K⟩:=B.agg_list;split at h
  ·rename_i r
   simp only[RW.go_bind,RW.go_pure,Za]at h;obtain⟨⟨t,W⟩,d,j⟩:=h;cases j;obtain⟨D',X,L,E,hf,hlen,u⟩:=b3q O V fs t cs.toList D st W R d K;refine⟨F,D',X,L,E,fun _ _=>U,fun k Q=>hf k fun l u hs=>Q (b4e.2 ⟨l,u,hs⟩),.data _ _ _ U (RV.toDL (RV.agg' (by have h0:=K.1;rw[Array.length_toList]at h0;exact h0.trans hlen.symm) fun i l Z=> ?_))⟩;obtain⟨x,S,J⟩:=u i l Z;exact⟨x,by simpa using S,J⟩
  ·simp only[RW.go_bind,RW.go_up,RW.go_pure,Za,Zh]at h
   obtain⟨_,⟨t,d,rfl⟩,j⟩:=h;cases j;obtain⟨hlen,u⟩:=a1q (ids:=slIds false fs) R fs t cs.toList d K (fun _ h=>h);refine same U (.data _ _ _ U (RV.agg' (by have h0:=K.1;rw[Array.length_toList]at h0;exact h0.trans hlen.symm) fun i l Z=> ?_));obtain⟨x,S,J⟩:=u i l Z;exact⟨x,by simpa using S,J⟩
 ·rename_i f caps
  obtain⟨cs,rfl,a0,K⟩:=B.clo_list;split at h
  ·rename_i r
   simp only[RW.go_bind,RW.go_pure,Za]at h;obtain⟨⟨t,W⟩,d,j⟩:=h;cases j;obtain⟨D',X,L,E,hf,hlen,u⟩:=c2f O V caps t cs.toList D st W R d K;exact⟨F,D',X,L,E,fun _ _=>U,fun k Q=>hf k fun l u hs=>Q (b4e.2 ⟨l,u,hs⟩),.data _ _ _ (by simp[a2a,r]) (RV.toDL (RV.ofRS_clo hlen a0 u))⟩
  ·split at h
   ·rename_i r
    simp only[RW.go_bind,RW.go_up,RW.go_pure,Za,Zh]at h;obtain⟨_,⟨⟨t,a1⟩,d,rfl⟩,j⟩:=h;cases j;obtain⟨hlen,M,hM,hS,u⟩:=c0x (ids:=a1) R caps t a1 cs.toList d K (fun _ h=>h) a4;refine same U (.clo f caps t cs M r hlen a0 hM hS fun k c c' hc a6=> ?_);obtain⟨x,S,J⟩:=u k c c' hc a6;have S:cs[k]? =some x:=by simpa using S
    rw[ZN,S];exact J
   ·rename_i H
    simp only[RW.go_bind,RW.go_up,RW.go_pure,Za,Zh]at h;obtain⟨_,⟨⟨t,a1⟩,d,rfl⟩,j⟩:=h;cases j;obtain⟨hlen,u⟩:=d5b (ids:=a1) R caps t a1 cs.toList d K (fun _ h=>h);exact same U (.data _ _ _ (by simp[a2a,H]) (RV.ofRS_clo hlen a0 u))
 ·simp only[RW.go_pure,Zb,Zk]at h
  obtain⟨⟨rfl,rfl⟩,rfl⟩:=h;exact same U (.data _ _ _ U B.ipt_inv.toDL)
 ·rename_i id g i0 j0 n
  simp only[RW.go_bind,RW.go_up,Za,Zh,F6]at h;obtain⟨_,⟨_,_,rfl⟩,_,⟨⟨m,s,es⟩,d,rfl⟩,h⟩:=h;rw[J4]at d;simp only at h;split at h
  ·rename_i e he
   simp only[RW.go_bind,RW.go_up,RW.go_pure,Za,Zh,F6]at h;obtain⟨_,⟨_,j,rfl⟩,_,⟨fs,G,rfl⟩,h4⟩:=h;cases h4;exact same U (.data _ _ _ U (f0o R d he (F7 j) G B (Zr ..) fun x S=>Zn _ S))
  ·simp at h
 ·rename_i id g i0 j0
  simp only[RW.go_bind,RW.go_up,RW.go_pure,Za,Zh,F6]at h;obtain⟨_,⟨⟨m,s,es⟩,d,rfl⟩,_,⟨_,j,rfl⟩,G⟩:=h;rw[J4]at d;obtain⟨hm,hi,rfl⟩:=F7 j;cases G;obtain⟨_,_,_,hp⟩:=B.ptr_inv;obtain⟨b,o,a5,rfl⟩:=hp _ _ _ d;exact same U (.lentP _ _ _ ⟨id,g,j0,m,s,es,b,o,U,U,O5 d,hm,hi,Zr ..,a5,by simp⟩)
 ·rename_i id g p off n
  split at h
  ·rename_i r
   simp only[RW.go_bind,RW.go_up,RW.go_pure,Za,Zh]at h;obtain⟨_,⟨v',d,rfl⟩,j⟩:=h;cases j;exact same U (.data _ _ _ (by simp[a2a,r]) (a0j R d B (by simp[slIds])))
  ·split at h
   ·rename_i r
    simp only[RW.go_bind,RW.go_up,Za,Zh]at h;obtain⟨_,⟨⟨m,s,es⟩,d,rfl⟩,h⟩:=h;rw[J4]at d;obtain⟨_,_,_,z⟩:=B.sl_inv;simp only at h;split at h
    ·rename_i hc
     obtain⟨rfl,rfl,_⟩:=hc;simp only[RW.go_bind,RW.go_up,RW.go_wr,RW.go_pure,Za,Zh,F6]at h;obtain⟨_,⟨_,j,rfl⟩,_,G,h4⟩:=h;obtain⟨rfl,rfl,y⟩:=F7 j;cases G;cases h4;obtain⟨D',X,L,E⟩:=R.freezeIn (O5 d) y (fun b hb=>(R.tO b hb).imp (O b) fun h=>h);refine⟨F,D',X,L,E,fun _ _=>U,fun k Q=>N4 _ _ _ (fun e=>Q (by rw[e];exact Zr ..)),?_⟩;have:=z _ _ _ d;have u:=V8 es;rw[<-u]at this|-;exact .lentS id g none 0 s (frzL es) _ (.inl r) (a1k _ _ _ _ _ _) (by decide) U ⟨U4 (a4t y),.inr U⟩ (Zr ..) this
    ·simp only[RW.go_bind,RW.go_up,RW.go_pure,Za,Zh,F6]at h
     obtain⟨_,⟨_,j,rfl⟩,G⟩:=h;obtain⟨hm,Y,rfl,rfl,hi⟩:=F7 j;cases G;exact same U (.lentS id g p m s es _ (.inl r) d hm Y ⟨U4 hi,.inl hi⟩ (Zr ..) (z _ _ _ d))
   ·split at h
    ·rename_i r
     simp only[RW.go_bind,RW.go_up,RW.go_wr,RW.go_pure,Za,Zh,F6]at h;obtain⟨_,⟨⟨m,s,es⟩,d,rfl⟩,_,⟨_,j,rfl⟩,_,G,h4⟩:=h;rw[J4]at d;obtain⟨rfl,rfl,hn,rfl,y⟩:=F7 j;cases G;cases h4;obtain⟨L,E⟩:=R.takeObj (O5 d) V n;obtain⟨_,_,_,z⟩:=B.sl_inv;refine⟨_,D,fun _ h=>h,L,E,fun κ a3=>Fl.set_ne _ _ a3,fun k Q=>N4 _ _ _ (fun e=>Q (by rw[e];exact Zr ..)),?_⟩;exact .moved id g n s _ (ν id) val r (Fl.set_eq _ _ _) (by rw[ZH,Nat.min_eq_left hn];exact z _ _ _ d) (W0 y n) (Zr ..)
    ·rename_i _ H _
     split at h
     ·rename_i I
      simp only[RW.go_bind,RW.go_up,RW.go_pure,Za,Zh,F6]at h;obtain⟨_,⟨⟨m,s,es⟩,d,rfl⟩,_,⟨_,j,rfl⟩,G⟩:=h;rw[J4]at d;obtain⟨rfl,hm,Y,rfl,rfl,y⟩:=F7 j;cases G;obtain⟨_,_,_,z⟩:=B.sl_inv;exact same U (.lentS id g none m s es _ (.inr I) d hm Y ⟨y,.inr U⟩ (Zr ..) (z _ _ _ d))
     ·rename_i I
      simp only[RW.go_bind,RW.go_pure,Za]at h;obtain⟨⟨es,W⟩,d,j⟩:=h;cases j;obtain⟨D',X,L,E,K⟩:=X2 O V R d B;exact⟨F,D',X,L,E,fun _ _=>U,fun k Q=>b3a d k (fun e=>Q (by cases e;exact Zr ..)),.data _ _ _ (by simp[a2a,H,I]) K.toDL⟩
 ·split at h
  ·simp only[RW.go_pure,Zb,Zk]at h
   obtain⟨⟨rfl,rfl⟩,rfl⟩:=h;obtain⟨a,rfl⟩:=B.nil_inv;exact same U (.data _ _ _ U (RV.list_nil a))
  ·simp only[RW.go_pure,Zb,Zk]at h
   obtain⟨⟨rfl,rfl⟩,rfl⟩:=h;obtain⟨a,rfl⟩:=B.nil_inv;exact same U (.data _ _ _ U (.nil a))
 ·rename_i a9 a7 aa ab a8 a2 _
  simp only[RW.go_bind,RW.go_up,RW.go_pure,Za,Zh]at h;obtain⟨_,⟨v',d,rfl⟩,j⟩:=h;cases j;exact same U (.data _ _ _ (by unfold a2a;split<;>first|rfl|(exact(a8 _ _ _ _ rfl).elim)|(exact(a2 _ _ _ _ _ rfl).elim)|(exact(a7 _ _ rfl).elim)) (a0j R d B (by rw[c6k (fun id g p off n e=>a2 id g p off n e)];simp)))
end
section
variable{P:Program}{C:Caller}{Γ:Env}{w0:World}{A O0:Nat->Prop}{ν0:Nu}{N:Nat}{F:Fl}{D:Nat->Prop}{st:St}{ν:Nu}{tm:Array Value}{w:World}
theorem Blk.congr{st':St}{F':Fl}{id b:Nat}(h:st' (.h id)=st (.h id))(f:Blk st F ν id b):Blk st' F' ν id b:=by
 obtain⟨q,o,⟨g,m,s,es,a,c,d⟩,e⟩:=f;exact⟨q,o,⟨g,m,s,es,by rw[h];exact a,c,d⟩,e⟩
theorem a2x{st':St}{id g:Nat}{p:Path}(h:st' (.h id)=st (.h id)):nodeAt st' id g p=nodeAt st id g p:=by
 unfold nodeAt;rw[h]
theorem BoxR.carry{st':St}{ids:List (Nat×Bool)}{v a:AV}{val:Value}(h:BoxR st ν ids v a val)(r:∀k b,(k,b)∈ids->st' (.h k)=st (.h k)):BoxR st' ν ids v a val:=by
 obtain⟨id,g,j,m,s,es,b,o,d,e,f,i,l,c,n,p⟩:=h;exact⟨id,g,j,m,s,es,b,o,d,e,by rw[r _ _ c];exact f,i,l,c,n,p⟩
theorem DL.carry{F':Fl}{D':Nat->Prop}{st':St}{ids:List (Nat×Bool)}(d:∀b,D b->D' b)(e:∀k b,(k,b)∈ids->st' (.h k)=st (.h k)){b:Nat}(h:DL D st F ν ids b):DL D' st' F' ν ids b:=by
 rcases h with h|⟨id,a,c⟩
 ·exact .inl (d b h)
 ·exact .inr ⟨id,a,c.congr (e _ _ a)⟩
theorem PArg.carry{F':Fl}{D':Nat->Prop}{st':St}{ids:List (Nat×Bool)}{i md:Nat}{v a:AV}{val:Value}(h:PArg F D st ν w ids i md v a val)
 (B:∀b,D b->D' b) (j:∀k b,(k,b)∈ids->st' (.h k)=st (.h k)) (J:F' (κA i)=F (κA i)):PArg F' D' st' ν w ids i md v a val:=by
 cases h with
 |data _ _ _ hq y=>exact .data _ _ _ hq (y.wider fun b t=>t.carry B j)
 |moved id g n s es φ val d r z y hid=>exact .moved id g n s es φ val d (J.trans r) z y hid
 |lentS id g p m s es val d R hm u L hid z=>exact .lentS id g p m s es val d (by rw[a2x (j _ _ hid)];exact R) hm u L hid z
 |lentP _ _ _ h=>exact .lentP _ _ _ (h.carry j)
 |clo f caps e cs M d Q S E l h=>
  refine .clo f caps e cs M d Q S E l fun k c G K x=> ?_
  rcases h k c G K x with⟨o,H,I⟩|o
  ·exact .inl ⟨o.wider fun b t=>t.carry B j,H,I⟩
  ·exact .inr (o.carry fun k b O=>j k b (E _ _ O))
theorem c4h(O:∀b,O0 b->A b)(md:Nat->Nat):∀(vs as:List AV) (ids:List (Nat×Bool)) (vals:List Value) (i:Nat) (F:Fl) (D:Nat->Prop) (st st':St),
 (∀j,i<=j->F (κA j)=none)->Rel Γ w0 A O0 ν0 N F D st ν tm w->(passAll md i vs).go C st=some ((as,ids),st')->apartIds ids=true->RL st ν w D vs vals->
 ∃(F':Fl) (D':Nat->Prop) (L:Nat->List (Nat×Bool)),(∀b,D b->D' b)/\Rel Γ w0 A O0 ν0 N F' D' st' ν tm w/\Ext st ν w st' ν w/\(∀κ,(∀j,i<=j->j<i+vs.length->κ≠κA j)->F' κ=F κ)/\
  (∀k,(k,true)∉ids->st' (.h k)=st (.h k))/\as.length=vs.length/\(∀(j:Nat) x,x∈L j->x∈ids)/\(∀(x:Nat×Bool),x∈ids->∃j,x∈L j)/\(∀j g,j<g->Sep (L j) (L g))/\
  ∀(j:Nat) (v a:AV) (val:Value),vs[j]? =some v->as[j]? =some a->vals[j]? =some val->PArg F' D' st' ν w (L j) (i+j) (md (i+j)) v a val:=by
 intro vs
 induction vs with
 |nil=>
  intro as ids vals i F D st st' _ R h _ _;simp only[passAll,RW.go_pure,Zb,Zk]at h;obtain⟨⟨rfl,rfl⟩,rfl⟩:=h;exact⟨F,D,fun _=>[],fun _ h=>h,R,Ext.refl _ _ _,fun _ _=>U,fun _ _=>U,U,fun _ _ c=>c,(fun _ c=>by cases c),(fun _ _ _ x c=>by cases c),(fun j v a val m=>by simp at m)⟩
 |cons v vs ih=>
  intro as ids vals i F D st st' hF R h Q Z;simp only[passAll,RW.go_bind,RW.go_pure,Za]at h;obtain⟨⟨⟨a,i1⟩,B⟩,J,⟨⟨I,i2⟩,a2⟩,K,h3⟩:=h;cases h3;cases vals with
  |nil=>have:=Z.1;simp at this
  |cons val vals=>
   obtain⟨c',S,a1⟩:=Z.2 0 v U;cases S;obtain⟨s,t,f⟩:=a6u Q;obtain⟨F1,D1,n,R1,E1,p,V,X⟩:=d5y O (hF i (Zd _)) R s J a1;have a0:RL B ν w D1 vs vals:=by
    have:=Z.drop 1;simp only[Yh,ZY]at this;exact⟨this.1,fun i l hl=>by obtain⟨v,a,b⟩:=this.2 i l hl;exact⟨v,a,b.same E1 n⟩⟩
   obtain⟨F2,D2,L,o,R2,E2,r,u,hlen,hL,M,hS,Y⟩:=ih I i2 vals (i+1) F1 D1 B _ (fun j W=>by rw[p _ (by intro e;simp[κA]at e;omega)];exact hF j (by omega)) R1 K t a0;refine⟨F2,D2,fun j=>match j with|0=>i1|j+1=>L j,fun b hb=>o b (n b hb),R2,E1.trans E2,fun κ z=> ?_,fun k H=> ?_,by simp[hlen],fun j x c=> ?_,fun x c=> ?_,fun j g W=> ?_,fun j v' a' E m G d=> ?_⟩
   ·rw[r κ fun j J K=>z j (by omega) (by simp only[Ze];omega),p κ (z i (by omega) (by simp only[Ze];omega))]
   ·exact(u k fun c=>H (Yc _ c)).trans (V k fun c=>H (ZU _ c))
   ·cases j with
    |zero=>exact ZU _ c
    |succ j=>exact Yc _ (hL j x c)
   ·rcases ZF.1 c with c|c
    ·exact⟨0,c⟩
    ·obtain⟨j,W⟩:=M x c
     exact⟨j+1,W⟩
   ·cases g with
    |zero=>omega
    |succ g=>cases j with
     |zero=>exact fun x c y hy=>f x c y (hL g y hy)
     |succ j=>exact hS j g (by omega)
   ·cases j with
    |zero=>
     simp only[Zs,Zb]at m G d;subst m G d;refine X.carry o (fun k b H=>u k fun c=> ?_) (r _ fun j J K e=>by simp[κA]at e;omega);have:=(f (k,b) H (k,true) c U).2;cases this
    |succ j=>
     simp only[ZR]at m G d;have:=Y j v' a' E m G d;rw[show i+(j+1)=i+1+j from by omega];exact this
end
inductive Zip{α β:Type}(R:α->β->Prop):List α->List β->Prop
 |nil:Zip R [] []
 |cons {a:α} {b:β} {r:List α} {s:List β} (h:R a b) (t:Zip R r s):Zip R (a::r) (b::s)
theorem Zip.append{α β:Type}{R:α->β->Prop}{a b:List α}{c d:List β}(h:Zip R a c)(e:Zip R b d):Zip R (a++b) (c++d):=by
 induction h with
 |nil=>exact e
 |cons h t f=>exact .cons h f
theorem Zip.mem_right{α β:Type}{R:α->β->Prop}{a:List α}{c:List β}(h:Zip R a c){y:β}(b:y∈c):∃x,x∈a/\R x y/\(x,y)∈a.zip c:=by
 induction h with
 |nil=>cases b
 |cons h t g=>
  cases b with
  |head=>exact⟨_,Zr ..,h,Zr ..⟩
  |tail _ b=>
   obtain⟨x,d,e,f⟩:=g b;exact⟨x,Zn _ d,e,Zn _ f⟩
theorem Zip.mem_zip{α β:Type}{R:α->β->Prop}{a:List α}{c:List β}(h:Zip R a c){x:α}{y:β}(b:(x,y)∈a.zip c):R x y:=by
 induction h with
 |nil=>cases b
 |cons h t d=>
  cases b with
  |head=>exact h
  |tail _ b=>exact d b
theorem Zip.length{α β:Type}{R:α->β->Prop}{a:List α}{c:List β}(h:Zip R a c):a.length=c.length:=by
 induction h with
 |nil=>rfl
 |cons h t b=>simp[b]
theorem d9t{α β:Type}{k:β->Nat}:∀(a:List α) (c:List β),nodupB (c.map k)=true->∀x y f d,(x,y)∈a.zip c->(f,d)∈a.zip c->k y=k d->x=f/\y=d:=by
 intro a
 induction a with
 |nil=>intro c _ x y f d h;simp at h
 |cons u a j=>
  intro c;cases c with
  |nil=>intro _ x y f d h;simp at h
  |cons v c=>
   intro h x y f d g b e;simp only[Zz,nodupB,Zy,Zt,ZI,bne_iff_ne,ne_eq,forall_exists_index,and_imp,forall_apply_eq_imp_iff₂]at h;obtain⟨i,l⟩:=h;simp only[YN,ZM,Zk]at g b;rcases g with⟨rfl,rfl⟩|g
   ·rcases b with⟨rfl,rfl⟩|b
    ·exact⟨U,U⟩
    ·exact(i _ (YL b).2 e.symm).elim
   ·rcases b with⟨rfl,rfl⟩|b
    ·exact(i _ (YL g).2 e).elim
    ·exact j c l x y f d g b e
theorem a6x{α β:Type}{k:α->Nat}:∀(a:List α) (c:List β),nodupB (a.map k)=true->∀x y d f,(x,y)∈a.zip c->(d,f)∈a.zip c->k x=k d->x=d/\y=f:=by
 intro a
 induction a with
 |nil=>intro c _ x y d f h;simp at h
 |cons u a j=>
  intro c;cases c with
  |nil=>intro _ x y d f h;simp at h
  |cons v c=>
   intro h x y d f g b e;simp only[Zz,nodupB,Zy,Zt,ZI,bne_iff_ne,ne_eq,forall_exists_index,and_imp,forall_apply_eq_imp_iff₂]at h;obtain⟨i,l⟩:=h;simp only[YN,ZM,Zk]at g b;rcases g with⟨rfl,rfl⟩|g
   ·rcases b with⟨rfl,rfl⟩|b
    ·exact⟨U,U⟩
    ·exact(i _ (YL b).1 e.symm).elim
   ·rcases b with⟨rfl,rfl⟩|b
    ·exact(i _ (YL g).1 e).elim
    ·exact j c l x y d f g b e
def LentR(st:St)(t:Tg)(c:Cid)(es:List AV):Prop:=
 (G4 es=true/\(P1 es=true\/(t.2.2=none/\c.2.1=1)))/\((c.2.1=1/\∃m,nodeAt st t.1 t.2.1 t.2.2=some (m,c.2.2,es)/\m≠2/\bxB m t.2.2=false)\/
  (c.2.1=4/\c.2.2=0/\t.2.2=none/\∃m s,st (.h t.1)= .obj t.2.1 m s es/\(m=3\/m=4)))
section
variable{P:Program}{C:Caller}{Γ:Env}{w0:World}{A O0:Nat->Prop}{ν0:Nu}{N:Nat}{F:Fl}{D:Nat->Prop}{st:St}{ν:Nu}{tm:Array Value}{w:World}
theorem RV.cidCaps_nil{i:Nat}:∀(caps:List AV) (k:Nat),(∀c∈caps,∃v,RV w D c v)->cidCaps i k caps=[]:=by
 intro caps
 induction caps with
 |nil=>intro k _;rfl
 |cons c caps d=>
  intro k h;obtain⟨v,b⟩:=h c (Zr ..);have:=d (k+1) fun c a=>h c (Zn _ a)
  cases b<;>simp only[cidCaps]<;>exact this
theorem RV.cid_nil{md i:Nat}{a:AV}{v:Value}(h:RV w D a v):R9 md i a=[]:=by
 cases h with
 |clo f caps vs g e=>
  refine RV.cidCaps_nil (w:=w) (D:=D) caps 0 fun c b=> ?_
  obtain⟨k,d⟩:=ZG.1 b;exact⟨_,e k c d⟩
 |_=>rfl
theorem a5s{i:Nat}:∀(caps:List AV) (k j:Nat),(initCaps i k caps)[j]? =(caps[j]?).map fun c=>match c with| .ownp _ a b=> .ptr (fid i (k+j)) 1 none a b|c=>c:=by
 intro caps
 induction caps with
 |nil=>intro k j;simp[initCaps]
 |cons c caps d=>
  intro k j;cases j with
  |zero=>
   simp only[initCaps,Zs,ZA,Nat.add_zero];cases c<;>rfl
  |succ j=>
   simp only[initCaps,ZR,d];rw[show k+1+j=k+(j+1)from by omega]
theorem c7f{i:Nat}:∀(caps:List AV) (k:Nat),(initCaps i k caps).length=caps.length:=by
 intro caps
 induction caps with
 |nil=>intro k;rfl
 |cons c caps a=>intro k;simp[initCaps,a]
theorem b0z{md:Nat->Nat}{c:Cid}:∀(as:List AV) (i j:Nat) (a:AV),as[j]? =some a->c∈R9 (md (i+j)) (i+j) a->c∈cidAll md i as:=by
 intro as
 induction as with
 |nil=>intro i j a h;simp at h
 |cons x as d=>
  intro i j a h b;cases j with
  |zero=>
   simp only[Zs,Zb]at h;subst h;exact ZU _ b
  |succ j=>
   simp only[ZR]at h;exact Yc _ (d (i+1) j a h (by rw[show i+1+j=i+(j+1)from by omega];exact b))
theorem c3t{md:Nat->Nat}{c:Cid}:∀(as:List AV) (i:Nat),c∈cidAll md i as->∃j a,as[j]? =some a/\c∈R9 (md (i+j)) (i+j) a:=by
 intro as
 induction as with
 |nil=>intro i h;cases h
 |cons x as e=>
  intro i h;rcases ZF.1 h with h|h
  ·exact⟨0,x,U,h⟩
  ·obtain⟨j,a,b,d⟩:=e (i+1) h
   exact⟨j+1,a,b,by rw[show i+(j+1)=i+1+j from by omega];exact d⟩
theorem d2j{i a b:Nat}{es:List AV}:∀(caps:List AV) (k j:Nat),caps[j]? =some (.ownp es a b)->(fid i (k+j),4,0)∈cidCaps i k caps:=by
 intro caps
 induction caps with
 |nil=>intro k j h;simp at h
 |cons c caps d=>
  intro k j h;cases j with
  |zero=>
   simp only[Zs,Zb]at h;subst h;exact Zr ..
  |succ j=>
   simp only[ZR]at h;have:=d (k+1) j h;rw[show k+1+j=k+(j+1)from by omega]at this;cases c<;>simp only[cidCaps]<;>first|exact this|exact Zn _ this
theorem b9u{i:Nat}{c:Cid}:∀(caps:List AV) (k:Nat),c∈cidCaps i k caps->∃j es a b,caps[j]? =some (.ownp es a b)/\c=(fid i (k+j),4,0):=by
 intro caps
 induction caps with
 |nil=>intro k h;cases h
 |cons x caps f=>
  intro k h;have tail:c∈cidCaps i (k+1) caps->∃j es a b,(x::caps)[j]? =some (.ownp es a b)/\c=(fid i (k+j),4,0):=by
   intro h;obtain⟨j,es,a,b,d,e⟩:=f (k+1) h;exact⟨j+1,es,a,b,d,by rw[e,show k+1+j=k+(j+1)from by omega]⟩
  cases x with
  |ownp es a b=>
   simp only[cidCaps]at h;cases h with
   |head=>exact⟨0,es,a,b,U,U⟩
   |tail _ h=>exact tail h
  |_=>simp only[cidCaps]at h;exact tail h
theorem c1d{md:Nat->Nat}{as:List AV}{i g m s:Nat}{es:List AV}(h:initLoc md as (.h i)= .obj g m s es):
 g=1/\((i<100000/\m=0/\md i=2/\as[i]? =some (.own s es))\/(i,m,s)∈cidAll md 0 as):=by
 unfold initLoc at h;simp only at h;split at h
 ·rename_i j
  split at h
  ·rename_i l e d
   cases h;refine⟨U,?_⟩;by_cases c:md i=2
   ·exact .inl ⟨j,by simp[c],c,d⟩
   ·refine .inr (b0z as 0 i _ d ?_)
    simp[R9,c]
  ·rename_i e a b d
   cases h;exact⟨U,.inr (b0z as 0 i _ d (by simp[R9]))⟩
  ·cases h
 ·rename_i j
  split at h
  ·rename_i f caps d
   split at h
   ·split at h
    ·rename_i e a b k
     cases h;refine⟨U,.inr (b0z as 0 (i%100000) _ d ?_)⟩;have:=d2j (i:=i%100000) caps 0 (i/100000-1) k;simp only[R9,ZL]at this|-;rw[show fid (i%100000) (i/100000-1)=i from by unfold fid;omega]at this;exact this
    ·cases h
   ·cases h
  ·cases h
theorem b2y{md:Nat->Nat}{as:List AV}{i s:Nat}{es:List AV}(h:as[i]? =some (.own s es))(a:i<100000):initLoc md as (.h i)= .obj 1 (if md i=2 then 0 else 1) s es:=by
 simp only[initLoc,a,if_true,h]
theorem b3s{md:Nat->Nat}{as:List AV}{i a b:Nat}{es:List AV}(h:as[i]? =some (.ownp es a b))(c:i<100000):initLoc md as (.h i)= .obj 1 4 0 es:=by
 simp only[initLoc,c,if_true,h]
theorem d6l{md:Nat->Nat}{as:List AV}{i f k a b:Nat}{caps es:List AV}(h:as[i]? =some (.clo f caps))(l:i<100000)(j:caps[k]? =some (.ownp es a b))(m:k<9):
 initLoc md as (.h (fid i k))= .obj 1 4 0 es:=by
 have c:¬fid i k<100000:=by unfold fid;omega
 have d:fid i k%100000=i:=by unfold fid;omega
 have e:fid i k<1000000:=by unfold fid;omega
 have g:fid i k/100000-1=k:=by unfold fid;omega
 simp only[initLoc,c,if_false,d,h,e,if_true,g,j]
theorem c1t{as:List AV}(h:a3j as=true){i f:Nat}{caps:List AV}(a:as[i]? =some (.clo f caps)):caps.length<=9:=by
 have:=Zt.1 h _ (Zx a);simpa using this
def e1e(st:St)(ids:List (Nat×Bool))(md:Nat->Nat)(as:List AV)(t:Tg)(c:Cid):Prop:=(t.1,true)∈ids/\∃es,LentR st t c es/\initLoc md as (.h c.1)= .obj 1 c.2.1 c.2.2 es
theorem d2m{f:Nat}{ids idt:List (Nat×Bool)}{M:Nat->List (Nat×Bool)}{md:Nat->Nat}{as:List AV}{i:Nat}{cs:Array Value}(O:i<100000)(J:∀k x,x∈M k->x∈idt){d:List AV}(K:as[i]? =some (.clo f d))(hle:d.length<=9):
 ∀(caps a:List AV) (k:Nat),a.length=caps.length->(∀j e,a[j]? =some e->d[k+j]? =some e)->
 (∀(j:Nat) (c e:AV),caps[j]? =some c->a[j]? =some e->(RV w (DL D st F ν ids) e (cs.getD (k+j) Yj)/\(∀id g p i j,c≠.ptr id g p i j)/\(∀es i j,e≠.ownp es i j))\/BoxR st ν (M (k+j)) c e (cs.getD (k+j) Yj))->
 Zip (e1e st idt md as) (a1e caps) (cidCaps i k a):=by
 intro caps
 induction caps with
 |nil=>
  intro a k r _ _;have:a=[]:=by simpa using r
  subst this;exact .nil
 |cons c caps S=>
  intro a k r y h;cases a with
  |nil=>simp at r
  |cons e a=>
   have l:=S a (k+1) (by simpa using r) (fun j x Q=>by have:=y (j+1) x (by simpa using Q);rwa[show k+1+j=k+(j+1)from by omega])
    (fun j x V R v=>by have:=h (j+1) x V (by simpa using R) (by simpa using v);rwa[show k+1+j=k+(j+1)from by omega])
   rcases h 0 c e U U with⟨Z,t,u⟩|L
   ·have B:a1e (c::caps)=a1e caps:=by
     cases c<;>simp only[a1e]
     exact(t _ _ _ _ _ U).elim
    have E:cidCaps i k (e::a)=cidCaps i (k+1) a:=by
     cases e<;>simp only[cidCaps]
     exact(u _ _ _ U).elim
    rw[B,E];exact l
   ·obtain⟨id,g,j,m,s,es,b,o,rfl,rfl,G,H,z,I,W,X⟩:=L
    simp only[a1e,cidCaps];have n:=y 0 _ U;have Y:k<d.length:=(Zq.1 n).1;refine .cons ⟨J _ _ I,es,⟨⟨U4 z,.inl z⟩,.inr ⟨U,U,U,m,s,G,H⟩⟩,d6l K O n (by omega)⟩ l
theorem e9i{md:Nat->Nat}{as0:List AV}{ids L:List (Nat×Bool)}(r:a3j as0=true){i:Nat}{v a:AV}{val:Value}(hlt:i<100000)(u:∀x∈L,x∈ids)
 (e:as0[i]? =some a) (h:PArg F D st ν w L i (md i) v a val):Zip (e1e st ids md as0) (a2a (md i) v) (R9 (md i) i a):=by
 cases h with
 |data _ _ _ hq H=>rw[hq,H.cid_nil];exact .nil
 |moved id g n s es φ _ d hF Y H hid=>
  simp only[a2a,R9,d];exact .nil
 |lentS id g p m s es _ d X hm y G hid Y=>
  have t:¬md i=2:=by omega
  simp only[a2a,R9,d,if_true,t,if_false];refine .cons ⟨u _ hid,es,⟨⟨G.1,G.2.imp (fun h=>h) fun h=>⟨h,U⟩⟩,.inl ⟨U,m,X,hm,y⟩⟩,?_⟩ .nil;rw[b2y e hlt,if_neg t]
 |lentP _ _ _ S=>
  obtain⟨id,g,j,m,s,es,b,o,rfl,rfl,K,O,E,Q,h7,h8⟩:=S;simp only[a2a,R9];exact .cons ⟨u _ Q,es,⟨⟨U4 E,.inl E⟩,.inr ⟨U,U,U,m,s,K,O⟩⟩,b3s e hlt⟩ .nil
 |clo f caps l cs M d z hs R I V=>
  simp only[a2a,R9,d,if_true];exact d2m hlt (fun k x Z=>u _ (R k x Z)) e (c1t r e) caps l 0 z (fun j B W=>by rw[ZL];exact W) (fun j c B J t=>by rw[ZL];exact V j c B J t)
theorem c4i{α β:Type}{a b:List α}{c d:List β}(h:a.length=c.length):(a++b).zip (c++d)=a.zip c++b.zip d:=by
 induction a generalizing c with
 |nil=>cases c with
  |nil=>rfl
  |cons=>simp at h
 |cons x a e=>cases c with
  |nil=>simp at h
  |cons y c=>simp only[Zp,YN,List.cons.injEq,true_and];exact e (by simpa using h)
theorem e5u{md:Nat->Nat}{as0:List AV}{ids:List (Nat×Bool)}(c:a3j as0=true):∀(vs as:List AV) (vals:List Value) (L:Nat->List (Nat×Bool)) (i:Nat),as.length=vs.length->vals.length=vs.length->i+vs.length<=100000->(∀(j:Nat) (x:Nat×Bool),x∈L j->x∈ids)->
 (∀j a,as[j]? =some a->as0[i+j]? =some a)->
 (∀(j:Nat) (v a:AV) (val:Value),vs[j]? =some v->as[j]? =some a->vals[j]? =some val->PArg F D st ν w (L j) (i+j) (md (i+j)) v a val)->
 Zip (e1e st ids md as0) (a2f md i vs) (cidAll md i as)/\∀(j:Nat) (v a:AV),vs[j]? =some v->as[j]? =some a->∀z∈(a2a (md (i+j)) v).zip (R9 (md (i+j)) (i+j) a),z∈(a2f md i vs).zip (cidAll md i as):=by
 intro vs
 induction vs with
 |nil=>
  intro as vals L i k _ _ _ _ _;have:as=[]:=by simpa using k
  subst this;exact⟨.nil,fun j v a h=>by simp at h⟩
 |cons v vs B=>
  intro as vals L i k e hle r p h;cases as with
  |nil=>simp at k
  |cons a as=>
   cases vals with
   |nil=>simp at e
   |cons val vals=>
    obtain⟨f,d⟩:=B as vals (fun j=>L (j+1)) (i+1) (by simpa using k) (by simpa using e) (by simp only[Ze]at hle;omega) (fun j x o=>r (j+1) x o) (fun j x t=>by have:=p (j+1) x (by simpa using t);rwa[show i+1+j=i+(j+1)from by omega])
     (fun j x y z o u m=>by have:=h (j+1) x y z (by simpa using o) (by simpa using u) (by simpa using m);rwa[show i+1+j=i+(j+1)from by omega])
    have hlt:i<100000:=by simp only[Ze]at hle;omega
    have n:=p 0 a U;have m:=e9i c hlt (r 0) n (h 0 v a val U U U);refine⟨Zip.append m f,fun j E s l g z b=> ?_⟩;simp only[a2f,cidAll];rw[c4i m.length];cases j with
    |zero=>
     simp only[Zs,Zb]at l g;subst l g;exact ZU _ b
    |succ j=>
     simp only[ZR]at l g;rw[show i+(j+1)=i+1+j from by omega]at b;exact Yc _ (d j E s l g z b)
theorem c8o{i id g a b x y:Nat}{es:List AV}{R:Tg->Cid->Prop}:∀(caps d:List AV) (k j:Nat),Zip R (a1e caps) (cidCaps i k d)->d.length=caps.length->
 (∀(n:Nat) (c e:AV),caps[n]? =some c->d[n]? =some e->((∃id g i j,c= .ptr id g none i j)↔∃es a b,e= .ownp es a b))->
 caps[j]? =some (.ptr id g none x y)->d[j]? =some (.ownp es a b)->((id,g,none),(fid i (k+j),4,0))∈(a1e caps).zip (cidCaps i k d):=by
 intro caps
 induction caps with
 |nil=>intro d k j _ _ _ h;simp at h
 |cons c caps z=>
  intro d k j m t r l s;cases d with
  |nil=>simp at t
  |cons e d=>
   by_cases o:∃id g i j,c= .ptr id g none i j
   ·obtain⟨G,a0,J,rfl⟩:=(r 0 c e U U).1 o
    obtain⟨I,g0,K,L,rfl⟩:=o;simp only[a1e,cidCaps,YN]at m|-;cases m with
    |cons _ m=>
     cases j with
     |zero=>
      simp only[Zs,Zb]at l s;cases l;exact Zr ..
     |succ j=>
      rw[show k+(j+1)=k+1+j from by omega];exact Zn _ (z d (k+1) j m (by simpa using t) (fun n x v u f=>r (n+1) x v (by simpa using u) (by simpa using f)) (by simpa using l) (by simpa using s))
   ·have H:¬∃es a b,e= .ownp es a b:=fun h=>o ((r 0 c e U U).2 h)
    have B:a1e (c::caps)=a1e caps:=by
     cases c with
     |ptr id g p i j=>cases p with
      |none=>exact(o ⟨_,_,_,_,U⟩).elim
      |some q=>rfl
     |_=>rfl
    have E:cidCaps i k (e::d)=cidCaps i (k+1) d:=by
     cases e with
     |ownp=>exact(H ⟨_,_,_,U⟩).elim
     |_=>rfl
    rw[B,E]at m|-;cases j with
    |zero=>
     simp only[Zs,Zb]at l;exact(o ⟨_,_,_,_,l⟩).elim
    |succ j=>
     rw[show k+(j+1)=k+1+j from by omega];exact z d (k+1) j m (by simpa using t) (fun n x v u f=>r (n+1) x v (by simpa using u) (by simpa using f)) (by simpa using l) (by simpa using s)
end
theorem c3b{ids:List (Nat×Bool)}(h:apartIds ids=true){k:Nat}(b:(k,true)∈ids)(a:(k,false)∈ids):False:=by
 induction ids with
 |nil=>cases b
 |cons x ids d=>
  obtain⟨i,f⟩:=x;simp only[apartIds,Zy,Zt]at h;obtain⟨c,e⟩:=h;cases b with
  |head=>
   cases a with
   |tail _ a=>
    have:=c _ a;simp at this
  |tail _ b=>
   cases a with
   |head=>
    have:=c _ b;simp at this
   |tail _ a=>exact d e b a
theorem Y0.monoL{w w':World}{L d:AV->Value->Prop}{φ φ':Path->Base}{i j:Nat}{l:AV}{v:Value}(h:Y0 w L φ i j l v)
 (e:isOwn l=false->L l v->d l v) (c:∀s' a,l= .own s' a->φ' (some (i,j))=φ (some (i,j)))
 (g:∀s' a b o,l= .own s' a->φ (some (i,j))=some (b,o)->csize w' b=csize w b):Y0 w' d φ' i j l v:=by
 cases l with
 |own s' a=>exact SlV.mono (h:SlV w _ _ _ _ _) (c _ _ U) (fun b o f=>g _ _ b o U f)
 |_=>exact e U h
theorem RN.monoL{w w':World}{L m:AV->Value->Prop}{φ φ':Path->Base}{base base':Base}{bx:Prop}{s:Nat}{es:List AV}(h:RN w L φ base bx s es)
 (d:base'=base) (y:∀b o,base=some (b,o)->w'.heap[b]? =w.heap[b]?) (x:∀i j l v,leafAt es i j=some l->isOwn l=false->L l v->m l v)
 (f:∀i j s' a,leafAt es i j=some (.own s' a)->φ' (some (i,j))=φ (some (i,j))/\∀b o,φ (some (i,j))=some (b,o)->csize w' b=csize w b):
 RN w' m φ' base' bx s es:=by
 subst d;cases base' with
 |none=>exact h
 |some q=>
  obtain⟨b,o⟩:=q;obtain⟨c,k,n,p,r,u,t⟩:=h;refine⟨c,k,by rw[y b o U];exact n,p,r,u,fun i j l g=> ?_⟩;obtain⟨v,B,z⟩:=t i j l g;exact⟨v,B,z.monoL (x i j l v g) (fun s' a e=>(f i j s' a (e▸g)).1) (fun s' a b o e=>(f i j s' a (e▸g)).2 b o)⟩
theorem RO.monoL{w w':World}{L n:AV->Value->Prop}{φ φ':Path->Base}{bx:Prop}{s:Nat}{es:List AV}(h:RO w L φ bx s es)
 (m:φ' none=φ none) (k:∀i j s' a,leafAt es i j=some (.own s' a)->φ' (some (i,j))=φ (some (i,j)))
 (z:∀b o,φ none=some (b,o)->w'.heap[b]? =w.heap[b]?)
 (g:∀i j s' a b o,leafAt es i j=some (.own s' a)->φ (some (i,j))=some (b,o)->w'.heap[b]? =w.heap[b]?)
 (y:∀i j l v,leafAt es i j=some l->isOwn l=false->L l v->n l v)
 (r:∀i j s' a e f l v,leafAt es i j=some (.own s' a)->leafAt a e f=some l->immLeaf l=true->L l v->n l v):RO w' n φ' bx s es:=by
 refine⟨h.top.monoL m z y fun i j s' a d=>⟨k i j s' a d,fun b o t=>O9 (g i j s' a b o d t)⟩,fun i j s' a d=> ?_⟩;obtain⟨x,p⟩:=h.sub i j s' a d;refine⟨x.monoL (k i j s' a d) (fun b o=>g i j s' a b o d) (fun e f l v c _=>r i j s' a e f l v d c (p e f l c)) fun e f s2 u c=> ?_,p⟩;have:=p e f _ c;simp[immLeaf]at this
theorem RN.anyS{w:World}{L:AV->Value->Prop}{φ:Path->Base}{base:Base}{bx:Prop}(a:bx){s s':Nat}{es:List AV}(h:RN w L φ base bx s es)
 (hle:∀b o,base=some (b,o)->o+es.length*s'<=csize w b):RN w L φ base bx s' es:=by
 cases base with
 |none=>exact h
 |some q=>
  obtain⟨b,o⟩:=q;obtain⟨c,e,f,r,t,g,k⟩:=h;refine⟨c,e,f,(by have:=hle b o U;simpa[csize,f]using this),fun m=>(m a).elim,g,fun i j l d=> ?_⟩;have u:i<es.length:=by
   unfold leafAt at d;rcases Nat.lt_or_ge i es.length with h|h
   ·exact h
   ·rw[ZQ h]at d;simp at d
  have:=g a;have:i=0:=by omega
  subst this;obtain⟨v,p,n⟩:=k 0 j l d;exact⟨v,by simpa using p,n⟩
theorem RN.room{w:World}{L:AV->Value->Prop}{φ:Path->Base}{base:Base}{bx:Prop}{s:Nat}{es:List AV}(h:RN w L φ base bx s es){b o:Nat}(f:base=some (b,o)):o+es.length*s<=csize w b:=by
 subst f;obtain⟨c,a,d,e,_⟩:=h;simpa[csize,d]using e
def NuC(F:Fl)(ν:Nu)(Z:List (Tg×Cid)):Nu:=fun a q=>
 match Z.find? (fun z=>z.2.1==a)with
 |some z=>if z.1.2.2=none then ν z.1.1 q else if q=none then ν z.1.1 z.1.2.2 else none
 |none=>match F (κA a)with
  |some f=>f.φ q
  |none=>none
theorem c5i{F:Fl}{ν:Nu}{T:List Tg}{a:List Cid}(g:nodupB (a.map (·.1))=true){t:Tg}{c:Cid}(h:(t,c)∈T.zip a){q:Path}(hq:q=none\/t.2.2=none):NuC F ν (T.zip a) c.1 q=ν t.1 (if t.2.2=none then q else t.2.2):=by
 unfold NuC;cases b:(T.zip a).find? (fun z=>z.2.1==c.1)with
 |none=>
  have:=List.find?_eq_none.1 b _ h;simp at this
 |some z=>
  obtain⟨i,j⟩:=z;have f:=List.mem_of_find?_eq_some b;have e:=List.find?_some b;simp only[beq_iff_eq]at e;obtain⟨rfl,rfl⟩:=d9t (k:=fun c:Cid=>c.1) T a g _ _ _ _ f h e;by_cases d:i.2.2=none
  ·simp[d]
  ·have hq:q=none:=hq.resolve_right d
   simp[d,hq]
theorem b2v{F:Fl}{ν:Nu}{T:List Tg}{a:List Cid}(d:nodupB (a.map (·.1))=true){t:Tg}{c:Cid}(h:(t,c)∈T.zip a):NuC F ν (T.zip a) c.1 none=ν t.1 t.2.2:=by
 rw[c5i d h (.inl U)];by_cases b:t.2.2=none
 ·rw[if_pos b,b]
 ·rw[if_neg b]
theorem b3y{F:Fl}{ν:Nu}{T:List Tg}{a:List Cid}(d:nodupB (a.map (·.1))=true){t:Tg}{c:Cid}(h:(t,c)∈T.zip a)(b:t.2.2=none)(q:Path):NuC F ν (T.zip a) c.1 q=ν t.1 q:=by
 rw[c5i d h (.inr b),if_pos b]
theorem d9b{md j:Nat}{a:AV}{c:Cid}(h:c∈R9 md j a)(d:j<100000):c.1%100000=j:=by
 unfold R9 at h;split at h
 ·split at h
  ·cases h
  ·simp only[Ye]at h;subst h;simpa using d
 ·simp only[Ye]at h;subst h;simpa using d
 ·obtain⟨k,es,a,b,_,rfl⟩:=b9u _ _ h
  simp only[fid];omega
 ·cases h
theorem b3z{F:Fl}{ν:Nu}{T:List Tg}{md:Nat->Nat}{as:List AV}(hlen:as.length<=1000){i s:Nat}{es:List AV}(e:md i=2)(g:as[i]? =some (.own s es)){f:Flo}(k:F (κA i)=some f)(q:Path):
 NuC F ν (T.zip (cidAll md 0 as)) i q=f.φ q:=by
 unfold NuC;have m:i<as.length:=(Zq.1 g).1;have:(T.zip (cidAll md 0 as)).find? (fun z=>z.2.1==i)=none:=by
  rw[List.find?_eq_none];rintro⟨t,c⟩ l h;simp only[beq_iff_eq]at h;obtain⟨j,a,b,d⟩:=c3t _ _ (YL l).2;simp only[ZL]at d;have n:j<as.length:=(Zq.1 b).1;have:=d9b d (by omega);rw[h,Nat.mod_eq_of_lt (by omega)]at this;subst this;rw[g]at b;cases b;simp[R9,e]at d
 rw[this,k]
section
variable{P:Program}{C:Caller}{Γ:Env}{w0:World}{A O0:Nat->Prop}{ν0:Nu}{N:Nat}{F:Fl}{D:Nat->Prop}{st:St}{ν:Nu}{tm:Array Value}{w:World}
structure Hand(Γ:Env)(w0:World)(A O0:Nat->Prop)(ν0:Nu)(N:Nat)(F:Fl)(D:Nat->Prop)(st:St)(ν:Nu)(tm:Array Value)(w:World)
 (md:Nat->Nat) (ids:List (Nat×Bool)) (T:List Tg) (as:List AV) (vals:List Value):Prop where
 R:Rel Γ w0 A O0 ν0 N F D st ν tm w
 apart:apartIds ids=true
 nT:nodupB (T.map (·.1))=true
 nC:nodupB ((cidAll md 0 as).map (·.1))=true
 len:as.length<=1000
 lenv:vals.length=as.length
 lents:Zip (e1e st ids md as) T (cidAll md 0 as)
 args:∀(j:Nat) (a:AV),as[j]? =some a->∃(L:List (Nat×Bool)) (v:AV) (val:Value),vals[j]? =some val/\(∀x∈L,x∈ids)/\(∀z∈(a2a (md j) v).zip (R9 (md j) j a),z∈T.zip (cidAll md 0 as))/\PArg F D st ν w L j (md j) v a val
 caps:a3j as=true
abbrev Hand.O(F:Fl)(ν:Nu)(md:Nat->Nat)(T:List Tg)(as:List AV)(b:Nat):Prop:=TB (initLoc md as) (NuC F ν (T.zip (cidAll md 0 as))) Fl.emp b
theorem Hand.key{md:Nat->Nat}{ids:List (Nat×Bool)}{T:List Tg}{as:List AV}{vals:List Value}(H:Hand Γ w0 A O0 ν0 N F D st ν tm w md ids T as vals){d:Nat}{q:Path}
 (h:live (initLoc md as) Fl.emp (.nd d q)):∃G,live st F G/\baseOf ν F G=NuC F ν (T.zip (cidAll md 0 as)) d q/\
  ((∃t c,(t,c)∈T.zip (cidAll md 0 as)/\c.1=d/\((q=none/\G= .nd t.1 t.2.2)\/(t.2.2=none/\G= .nd t.1 q)))\/G= .fl (κA d) q):=by
 obtain⟨g,m,s,es,V,h2,I⟩:=h;obtain⟨rfl,K⟩:=c1d V;rcases K with⟨hi,rfl,Q,W⟩|K
 ·obtain⟨L,v,val,Z,hL,hZ,x⟩:=H.args d _ W
  cases x with
  |data _ _ _ hq Y=>cases Y
  |moved id g n R B φ _ _ J hv Y hid=>
   refine⟨.fl (κA d) q,⟨_,J,I⟩,?_,.inr U⟩;rw[b3z H.len Q W J];simp[baseOf,J]
  |lentS id g p m R B _ X=>omega
  |lentP _ _ _ hb=>
   obtain⟨_,_,_,_,_,_,_,_,_,he,_⟩:=hb;cases he
 ·obtain⟨t,ht,⟨hid,B,⟨f,hl⟩,o⟩,y⟩:=H.lents.mem_right K
  rw[V]at o;cases o;have hex:∃l z a,st (.h t.1)= .obj t.2.1 l z a/\l≠2/\(t.2.2=none->a=es)/\livePath a t.2.2:=by
   rcases hl with⟨_,l,hn,k,_⟩|⟨_,_,x,l,R,u,hm⟩
   ·obtain⟨z,a,u,x⟩:=N9 hn
    refine⟨l,z,a,u,k,fun e=> ?_,fun p b=> ?_⟩
    ·rcases x with⟨_,_,h⟩|⟨i,j,S,E⟩
     ·exact h
     ·rw[e]at S;cases S
    ·rcases x with⟨e,_,_⟩|⟨i,j,e,E⟩
     ·rw[e]at b;cases b
     ·rw[e]at b;cases b;exact⟨_,_,E⟩
   ·exact⟨l,R,_,u,by rcases hm with h|h<;>omega,fun _=>U,fun p b=>by rw[x]at b;cases b⟩
  obtain⟨l,z,a,u,k,M,O⟩:=hex;by_cases hq:q=none
  ·subst hq
   exact⟨.nd t.1 t.2.2,⟨_,l,z,a,u,k,O⟩,(b2v H.nC y).symm,.inl ⟨t,_,y,U,.inl ⟨U,U⟩⟩⟩
  ·obtain⟨a1,f⟩:=f
   rcases f with f|⟨r,_⟩
   ·exfalso
    cases q with
    |none=>exact hq U
    |some q=>
     obtain⟨s2,a0,y⟩:=I q U;have:=M2 f y;simp[immLeaf]at this
   ·refine⟨.nd t.1 q,⟨_,l,z,a,u,k,?_⟩,(b3y H.nC y r q).symm,.inl ⟨t,_,y,U,.inr ⟨r,U⟩⟩⟩
    rw[M r];exact I
theorem Hand.O_TB{md:Nat->Nat}{ids:List (Nat×Bool)}{T:List Tg}{as:List AV}{vals:List Value}(H:Hand Γ w0 A O0 ν0 N F D st ν tm w md ids T as vals){b:Nat}(h:Hand.O F ν md T as b):
 ∃a o,live st F a/\baseOf ν F a=some (b,o)/\((∃t c p,(t,c)∈T.zip (cidAll md 0 as)/\a= .nd t.1 p/\(p=t.2.2\/t.2.2=none))\/∃i q,a= .fl (κA i) q):=by
 obtain⟨k,o,j,s⟩:=h;cases k with
 |fl k q=>obtain⟨f,u,_⟩:=j;cases u
 |nd e q=>
  obtain⟨a,l,m,n⟩:=H.key j;refine⟨a,o,l,m.trans s,?_⟩;rcases n with⟨t,c,g,_,⟨_,d⟩|⟨r,d⟩⟩|d
  ·exact .inl ⟨t,c,_,g,d,.inl U⟩
  ·exact .inl ⟨t,c,_,g,d,.inr r⟩
  ·exact .inr ⟨e,q,d⟩
theorem Hand.O_D{md:Nat->Nat}{ids:List (Nat×Bool)}{T:List Tg}{as:List AV}{vals:List Value}(H:Hand Γ w0 A O0 ν0 N F D st ν tm w md ids T as vals){b:Nat}(h:Hand.O F ν md T as b):¬DL D st F ν ids b:=by
 obtain⟨n,o,a,d,f⟩:=H.O_TB h;rintro(j|⟨id,k,q,r,l,g⟩)
 ·exact H.R.dT b j ⟨n,o,a,d⟩
 ·have:=H.R.inj _ _ b o r a l d g
  subst this;rcases f with⟨t,c,p,m,e,_⟩|⟨i,q,e⟩
  ·cases e
   obtain⟨hid,_⟩:=H.lents.mem_zip m;exact c3b H.apart hid k
  ·cases e
theorem d9u{md:Nat->Nat}{ids:List (Nat×Bool)}{T:List Tg}{as:List AV}{vals:List Value}(H:Hand Γ w0 A O0 ν0 N F D st ν tm w md ids T as vals){i:Nat}{a:AV}(u:as[i]? =some a):
 RS (initLoc md as) (NuC F ν (T.zip (cidAll md 0 as))) w (DL D st F ν ids) (initLoc md as (.t i)) (vals.toArray.getD i Yj):=by
 have hi:i<as.length:=(Zq.1 u).1;have hlen:=H.len;obtain⟨L,v,val,a0,hL,hZ,I⟩:=H.args i a u;have hv:vals.toArray.getD i Yj=val:=by rw[ZN];simp[a0]
 rw[hv];have S:∀b,DL D st F ν L b->DL D st F ν ids b:=fun b V=>V.mono hL
 have r:∀t c,(t,c)∈T.zip (cidAll md 0 as)->NuC F ν (T.zip (cidAll md 0 as)) c.1 none=ν t.1 t.2.2:=fun t c h=>b2v H.nC h
 cases I with
 |data _ _ _ hq hr=>
  have E:initLoc md as (.t i)=a:=by
   cases hr with
   |clo f caps vs hs K=>
    simp only[initLoc,u];congr 1;apply List.ext_getElem?;intro k;rw[a5s];cases W:caps[k]? with
    |none=>rfl
    |some c=>
     have:=K k c W;simp only[ZA];revert this;generalize vs.getD k Yj=x;intro this;cases this<;>rfl
   |_=>simp only[initLoc,u]
  rw[E];exact .data _ _ (hr.wider S)
 |moved id g n s es φ _ z hF hv hr hid=>
  have E:initLoc md as (.t i)= .sl i 1 none 0 es.length:=by simp only[initLoc,u]
  have G:initLoc md as (.h i)= .obj 1 0 s es:=by rw[b2y u (by omega),z];rfl
  rw[E];obtain⟨x,cap,rfl,B,R⟩:=hv;refine .sl i 1 none 0 es.length _ ⟨x,cap,U,B⟩ (by rw[G];exact Zd _) (by intro _ _ _ _ _ _ I;cases I) fun m s' Q O=> ?_
  simp only[nodeAt,G,if_true,Zb,Zk]at O;obtain⟨rfl,rfl,rfl⟩:=O;rw[b3z H.len z u hF];exact⟨x,cap,U,B,R⟩
 |lentS id g p m s es _ z O hm a4 a5 hid hv=>
  have E:initLoc md as (.t i)= .sl i 1 none 0 es.length:=by simp only[initLoc,u]
  have Z:¬md i=2:=by omega
  have G:initLoc md as (.h i)= .obj 1 1 s es:=by rw[b2y u (by omega),if_neg Z]
  have hz:((id,g,p),(i,1,s))∈T.zip (cidAll md 0 as):=hZ _ (by simp[a2a,R9,z,Z]);rw[E];obtain⟨x,cap,rfl,B,R⟩:=hv;refine .sl i 1 none 0 es.length _ ⟨x,cap,U,B⟩ (by rw[G];exact Zd _) (by intro _ _ _ _ _ _ I;cases I) fun m s' Q O=> ?_
  simp only[nodeAt,G,if_true,Zb,Zk]at O;obtain⟨rfl,rfl,rfl⟩:=O;rw[r _ _ hz];exact⟨x,cap,U,B,R⟩
 |lentP _ _ _ V=>
  obtain⟨id,g,j,m,s,es,b,o,rfl,rfl,h3,h4,h5,h6,h7,h8⟩:=V;have E:initLoc md as (.t i)= .ptr i 1 none 0 j:=by simp only[initLoc,u]
  have G:initLoc md as (.h i)= .obj 1 4 0 es:=b3s u (by omega);have hz:((id,g,none),(i,4,0))∈T.zip (cidAll md 0 as):=hZ _ (by simp[a2a,R9]);rw[E,h8];refine .ptr i 1 none 0 j _ ⟨b,o+j,U⟩ (by rw[G];exact Zd _) (by intro _ _ _ _ _ _ I;cases I) fun m s' Q O=> ?_
  have:=r _ _ hz;simp only at this;rw[this];exact⟨b,o,h7,by simp⟩
 |clo f caps d cs M z Y hs hM a3 W=>
  have E:initLoc md as (.t i)= .clo f (initCaps i 0 d):=by simp only[initLoc,u]
  rw[E];have hle:=c1t H.caps u;refine .clo f _ cs (by rw[c7f];omega) fun k l K=> ?_
  rw[a5s]at K;cases y:d[k]? with
  |none=>simp[y]at K
  |some J=>
   have hk:k<d.length:=(Zq.1 y).1;have X:caps[k]? =some (caps[k]'(by omega)):=Zg (by omega);simp only[y,ZA,Zb]at K;rcases W k _ J X y with⟨hr,a6,a2⟩|V
   ·have:l=J:=by
     rw[<-K];cases J<;>first|rfl|exact(a2 _ _ _ rfl).elim
    rw[this];exact .data _ _ (hr.wider S)
   ·obtain⟨id,g,j,m,s,es,b,o,e1,rfl,h3,h4,h5,h6,h7,h8⟩:=V
    simp only[ZL]at K;subst K;have G:initLoc md as (.h (fid i k))= .obj 1 4 0 es:=d6l u (by omega) y (by omega);have hz:((id,g,none),(fid i k,4,0))∈T.zip (cidAll md 0 as):=by
     refine hZ _ ?_;simp only[a2a,R9,z,if_true];have a1:=d2m (st:=st) (ν:=ν) (w:=w) (F:=F) (D:=D) (md:=md) (as:=as) (i:=i) (cs:=cs) (by omega) (idt:=L) (M:=M) (fun k x hx=>hM k x hx) u hle caps d 0 Y (fun j J hj=>by rw[ZL];exact hj) (fun j c J B R=>by rw[ZL];exact W j c J B R);have:=c8o caps d 0 k a1 Y (fun n c J B R=> ?_) (by rw[X,e1]) y
     ·simpa using this
     ·rcases W n c J B R with⟨_,q1,q2⟩|⟨id,g,j,m,s,es,b,o,rfl,rfl,_⟩
      ·exact⟨fun⟨id,g,i,j,e⟩=>(q1 _ _ _ _ _ e).elim,fun⟨es,a,b,e⟩=>(q2 _ _ _ e).elim⟩
      ·exact⟨fun _=>⟨_,_,_,U⟩,fun _=>⟨_,_,_,_,U⟩⟩
    rw[h8];refine .ptr (fid i k) 1 none 0 j _ ⟨b,o+j,U⟩ (by rw[G];exact Zd _) (by intro _ _ _ _ _ _ I;cases I) fun m s' Q O=> ?_
    have:=r _ _ hz;simp only at this;rw[this];exact⟨b,o,h7,by simp⟩
theorem RN.bxIff{w:World}{L:AV->Value->Prop}{φ:Path->Base}{base:Base}{bx bx':Prop}{s:Nat}{es:List AV}(h:RN w L φ base bx s es)(e:bx↔bx'):RN w L φ base bx' s es:=by
 have:bx=bx':=propext e;subst this;exact h
theorem Hand.init{md:Nat->Nat}{ids:List (Nat×Bool)}{T:List Tg}{as:List AV}{vals:List Value}(H:Hand Γ w0 A O0 ν0 N F D st ν tm w md ids T as vals):
 Rel Γ w (fun b=>DL D st F ν ids b\/Hand.O F ν md T as b) (Hand.O F ν md T as) (NuC F ν (T.zip (cidAll md 0 as))) as.length Fl.emp (DL D st F ν ids) (initLoc md as) (NuC F ν (T.zip (cidAll md 0 as))) vals.toArray w:=by
 have a0:∀b,D b->DL D st F ν ids b:=fun b c=> .inl c
 have d:∀l v,immLeaf l=true->RS st ν w D l v->RS (initLoc md as) (NuC F ν (T.zip (cidAll md 0 as))) w (DL D st F ν ids) l v:=
  fun l v G h=> .data _ _ ((h.imm G).wider a0)
 refine⟨by simp[H.lenv],fun i G=> ?_,fun i G=> ?_,?_,?_,(by intro k f S;cases S),?_,?_,fun b c=> .inl (.inl c),?_,fun b c=> .inl c,Zd _,U,U,U,fun _=>Zd _,fun _ _ _=>U,fun _ _=>U,fun _ _ _ _ _ _ _=>U,?_,?_⟩
 ·exact d9u H (Zg G)
 ·have:as[i]? =none:=ZQ G
  simp only[initLoc,this]
 ·intro I g m s es z
  obtain⟨rfl,K⟩:=c1d z;rcases K with⟨G,rfl,a3,ha⟩|K
  ·obtain⟨L,v,val,a6,hL,hZ,hp⟩:=H.args I _ ha
   cases hp with
   |data _ _ _ hq hr=>cases hr
   |moved id g n s' J φ _ _ hF hv hr hid=>
    have:=H.R.flos _ _ hF;simp only[show¬((0:Nat)=3\/(0:Nat)=4)from by decide];have u:∀q,NuC F ν (T.zip (cidAll md 0 as)) I q=φ q:=fun q=>b3z H.len a3 ha hF q
    exact this.monoL (u _) (fun _ _ _ _ _=>u _) (fun _ _ _=>U) (fun _ _ _ _ _ _ _ _=>U)
     (fun i j l v r z=>d l v (by rcases R4 hr r with h|h;rw[z]at h;cases h;exact h)) (fun _ _ _ _ _ _ l v _ _=>d l v)
   |lentS id g p m s' J _ a5=>omega
   |lentP _ _ _ c=>
    obtain⟨_,_,_,_,_,_,_,_,_,he,_⟩:=c;cases he
  ·obtain⟨t,V,⟨hid,J,⟨e,r⟩,y⟩,hz⟩:=H.lents.mem_right K
   rw[z]at y;cases y;have u:=b2v (F:=F) (ν:=ν) H.nC hz;obtain⟨a4,e⟩:=e;simp only at u r;rcases e with e|⟨W,a1⟩
   ·have M:∀i j s2 x,leafAt es i j=some (.own s2 x)->False:=fun i j s2 x h=>by
     have:=M2 e h;simp[immLeaf]at this
    refine⟨?_,fun i j s2 x h=>(M _ _ _ _ h).elim⟩;rcases r with⟨rfl,m',hn,a2,B⟩|⟨rfl,rfl,hp,m',s',E,hm⟩
    ·have:=((H.R.node hn).1.unbx (S9 B))
     simp only[show¬((1:Nat)=3\/(1:Nat)=4)from by decide];exact this.monoL u (fun _ _ _=>U) (fun i j l v r _ h=>d l v (M2 e r) h) (fun i j s2 x h=>(M _ _ _ _ h).elim)
    ·have:=(H.R.objs _ _ _ _ _ E).top
     rw[hp]at u;have:=(this.bxIff (bx':=((4:Nat)=3\/(4:Nat)=4)) ⟨fun _=> .inr U,fun _=>hm⟩).anyS (.inr U) (s':=0) (fun b o c=>by have:=(H.R.objs _ _ _ _ _ E).top.room c;omega);exact this.monoL u (fun _ _ _=>U) (fun i j l v r _ h=>d l v (M2 e r) h) (fun i j s2 x h=>(M _ _ _ _ h).elim)
   ·rcases r with⟨rfl,m',hn,a2,B⟩|⟨h4,_⟩
    ·have O:=fun q=>b3y (F:=F) (ν:=ν) H.nC hz W q
     simp only at O;rw[W]at hn B;have E:=O5 hn;have Q:=H.R.objs _ _ _ _ _ E;have c:=S9 B;simp only[show¬((1:Nat)=3\/(1:Nat)=4)from by decide];have:RO w (RS st ν w D) (ν t.1) False s es:=⟨Q.top.bxIff ⟨fun h=>(c ⟨U,h⟩).elim,fun h=>h.elim⟩,Q.sub⟩;exact this.monoL (O _) (fun _ _ _ _ _=>O _) (fun _ _ _=>U) (fun _ _ _ _ _ _ _ _=>U)
      (fun i j l v r z=>d l v (by rcases R4 a4 r with h|h;rw[z]at h;cases h;exact h)) (fun _ _ _ _ _ _ l v _ _=>d l v)
    ·simp only at a1;omega
 ·intro I g s es z
  obtain⟨rfl,K⟩:=c1d z;rcases K with⟨G,h0,_⟩|K
  ·cases h0
  ·obtain⟨t,V,⟨hid,J,⟨e,r⟩,y⟩,hz⟩:=H.lents.mem_right K
   rcases r with⟨h,_⟩|⟨h,_⟩<;>cases h
 ·intro X Y b o1 o2 l1 l2 b1 b2
  cases X with
  |fl k q=>obtain⟨f,S,_⟩:=l1;cases S
  |nd c1 q1=>cases Y with
   |fl k q=>obtain⟨f,S,_⟩:=l2;cases S
   |nd c2 q2=>
    obtain⟨X,m1,e1,h1⟩:=H.key l1;obtain⟨Y,m2,e2,Z⟩:=H.key l2;have:=H.R.inj X Y b o1 o2 m1 m2 (e1.trans b1) (e2.trans b2);subst this;rcases h1 with⟨t1,d1,z1,rfl,g1⟩|g1
    ·rcases Z with⟨t2,d2,z2,rfl,g2⟩|g2
     ·have V:t1.1=t2.1:=by
       rcases g1 with⟨_,g1⟩|⟨_,g1⟩<;>rcases g2 with⟨_,g2⟩|⟨_,g2⟩<;>(rw[g1]at g2;injection g2)
      obtain⟨rfl,rfl⟩:=a6x (k:=fun t:Tg=>t.1) T _ H.nT _ _ _ _ z1 z2 V;have hq:q1=q2:=by
       rcases g1 with⟨e1,g1⟩|⟨e1,g1⟩<;>rcases g2 with⟨e2,g2⟩|⟨e2,g2⟩<;>(rw[g1]at g2;injection g2 with _ g2)<;>simp_all
      rw[hq]
     ·rcases g1 with⟨_,g1⟩|⟨_,g1⟩<;>(rw[g1]at g2;cases g2)
    ·rcases Z with⟨t2,d2,z2,rfl,g2⟩|g2
     ·rcases g2 with⟨_,g2⟩|⟨_,g2⟩<;>(rw[g1]at g2;cases g2)
     ·rw[g1]at g2
      injection g2 with a b
      have:c1=c2:=by simp[κA]at a;omega
      rw[this,b]
 ·intro b c V
  exact H.O_D V c
 ·rintro b (c|⟨id,G,c⟩)
  ·exact⟨(H.R.dlt b c).1,fun h=>by
    rcases h with h|h
    ·have:=(H.R.dlt b c).1;omega
    ·exact(H.O_D h (.inl c)).elim⟩
  ·have a7:=c
   obtain⟨q,o,r,R⟩:=c;exact⟨H.R.live_lt r R,fun _=>H.R.live_cells r R⟩
 ·intro b c
  obtain⟨h1,Z⟩:=H.R.gO b c;refine⟨fun z=> ?_,YF Z H.R.le⟩;obtain⟨kc,o,X,Y,_⟩:=H.O_TB z;rcases H.R.tO b ⟨kc,o,X,Y⟩with h|h
  ·exact h1 h
  ·omega
 ·exact Γ.stable _ _ (fun b c=>H.R.fr b (H.R.gO b c).2 (H.R.gO b c).1) H.R.gi
end
def Repl(st st':St)(t:Tg)(o:List AV):Prop:=
 ∃m s es b,st (.h t.1)= .obj t.2.1 m s es/\st' (.h t.1)= .obj t.2.1 m s b/\
  ((t.2.2=none/\b=o/\o.length=es.length/\nilFit es o=true)\/
   (∃x y s1 a,t.2.2=some (x,y)/\leafAt es x y=some (.own s1 a)/\o.length=a.length/\LeafSet (m=3\/m=4) s es b x y (.own s1 o)/\nilFit a o=true))
theorem b9m{C:Caller}{st st':St}{id g:Nat}{p:Path}{o:List AV}{u:Unit}(h:(b2x id g p o).go C st=some (u,st')):
 Repl st st' (id,g,p) o/\(∀i,st' (.t i)=st (.t i))/\∀k,k≠id->st' (.h k)=st (.h k):=by
 unfold b2x at h;simp only[RW.go_bind,RW.go_up,RW.go_wr,Za,Zh,F6]at h;obtain⟨_,⟨⟨m,s,es⟩,l,rfl⟩,_,⟨_,z,rfl⟩,_,⟨ws,c,rfl⟩,d⟩:=h;obtain⟨n,r⟩:=F7 z;rw[J4]at l;obtain⟨v,b,j,E⟩:=N9 l;unfold wrNode at c;simp only[Rd.ev_read,j]at c;rcases E with⟨rfl,rfl,rfl⟩|⟨x,y,rfl,a⟩
 ·simp only[Rd.ev_ret,Zb]at c
  subst c;simp only[St.upds,Zb,Zk]at d;obtain⟨_,rfl⟩:=d;exact⟨⟨m,v,b,o,j,St.upd_eq _ _ _,.inl ⟨U,U,n,r⟩⟩,fun i=>U9 _ _ _ _,fun k f=>N4 _ _ _ f⟩
 ·cases he:b[x]? with
  |none=>simp[leafAt,he]at a
  |some e=>
   simp only[he,a,Rd.ev_ret,Zb]at c;subst c;simp only[St.upds,Zb,Zk]at d;obtain⟨_,rfl⟩:=d;exact⟨⟨m,v,b,_,j,St.upd_eq _ _ _,.inr ⟨x,y,s,es,U,a,n,Y9 he a (by intro gs B;cases B),r⟩⟩,fun i=>U9 _ _ _ _,fun k f=>N4 _ _ _ f⟩
theorem c4a{C:Caller}:∀(T:List Tg) (outs:List (List AV)) (st st':St) (u:Unit),(a2r T outs).go C st=some (u,st')->nodupB (T.map (·.1))=true->
 (∀i,st' (.t i)=st (.t i))/\(∀k,k∉T.map (·.1)->st' (.h k)=st (.h k))/\∀t o,(t,o)∈T.zip outs->Repl st st' t o:=by
 intro T
 induction T with
 |nil=>
  intro outs st st' u h _;cases outs with
  |nil=>
   simp only[a2r,RW.go_pure,Zb,Zk]at h;obtain⟨_,rfl⟩:=h;exact⟨fun _=>U,fun _ _=>U,fun t o h=>by simp at h⟩
  |cons=>simp[a2r]at h
 |cons t T y=>
  intro outs st st' u h l;obtain⟨id,g,p⟩:=t;cases outs with
  |nil=>simp[a2r]at h
  |cons o outs=>
   simp only[a2r,RW.go_bind,Za]at h;obtain⟨⟨K,j⟩,v,x⟩:=h;simp only[Zz,nodupB,Zy,Zt,bne_iff_ne,ne_eq]at l;obtain⟨z,B⟩:=l;obtain⟨G,H,n⟩:=b9m v;obtain⟨I,r,J⟩:=y outs j st' u x B;have hid:id∉T.map (·.1):=fun hm=>z id hm U
   refine⟨fun i=>(I i).trans (H i),fun k d=> ?_,fun t E b=> ?_⟩
   ·simp only[Zz,ZM,not_or]at d
    exact(r k d.2).trans (n k d.1)
   ·simp only[YN,ZM,Zk]at b
    rcases b with⟨rfl,rfl⟩|b
    ·obtain⟨m,s,es,a,c,a2,a3⟩:=G
     exact⟨m,s,es,a,c,by rw[r _ hid];exact a2,a3⟩
    ·obtain⟨m,s,es,a,c,a2,a3⟩:=J t E b
     have f:t.1≠id:=fun e=>hid (e▸List.mem_map_of_mem (YL b).1)
     exact⟨m,s,es,a,by rw[<-n _ f];exact c,a2,a3⟩
theorem f0w{st:St}:∀(a:List Cid) (outs:List (List AV)),outsOf st a=some outs->Zip (fun c o=>st (.h c.1)= .obj 1 c.2.1 c.2.2 o/\G4 o=true) a outs:=by
 intro a
 induction a with
 |nil=>
  intro outs h;simp only[outsOf,Zb]at h;subst h;exact .nil
 |cons c a i=>
  intro outs h;obtain⟨b,m,s⟩:=c;simp only[outsOf]at h;split at h
  ·rename_i j k l es g
   split at h
   ·rename_i e
    obtain⟨rfl,rfl,rfl,f⟩:=e;simp only[Zh]at h;obtain⟨os,d,rfl⟩:=h;exact .cons ⟨g,f⟩ (i os d)
   ·cases h
  ·cases h
theorem d4p{α β e:Type}{R:β->e->Prop}:∀(T:List α) (b:List β) (os:List e),Zip R b os->∀t c,(t,c)∈T.zip b->∃o,R c o/\(t,o)∈T.zip os/\o∈os:=by
 intro T
 induction T with
 |nil=>intro b os _ t c h;simp at h
 |cons a T g=>
  intro b os d t c h;cases d with
  |nil=>simp at h
  |cons f d=>
   simp only[YN,ZM,Zk]at h;rcases h with⟨rfl,rfl⟩|h
   ·exact⟨_,f,Zr ..,Zr ..⟩
   ·obtain⟨o,i,j,k⟩:=g _ _ d t c h
    exact⟨o,i,Zn _ j,Zn _ k⟩
theorem d6z{c:AV}{s:Nat}{es:List AV}(h:d1a c (.own s es)=true):∃a,c= .own s a:=by
 cases c<;>simp[d1a]at h
 exact⟨_,by rw[h]⟩
theorem b5q:∀(cs ls:List AV) (j:Nat),a3a cs ls=true->(ls[j]? =some .nil->cs[j]? =some .nil)/\∀s es,ls[j]? =some (.own s es)->∃b,cs[j]? =some (.own s b):=by
 intro cs
 induction cs with
 |nil=>
  intro ls
  induction ls with
  |nil=>intro j _;exact⟨fun h=>by simp at h,fun s es h=>by simp at h⟩
  |cons l ls d=>
   intro j h;simp only[a3a,Zy,Bool.not_eq_true']at h;cases j with
   |zero=>
    refine⟨fun a=> ?_,fun s es a=> ?_⟩
    ·simp only[Zs,Zb]at a
     subst a;simp[L4]at h
    ·simp only[Zs,Zb]at a
     subst a;simp[isOwn]at h
   |succ j=>
    have:=d j h.2.2;refine⟨fun a=> ?_,fun s es a=> ?_⟩
    ·have:=this.1 (by simpa using a);simp at this
    ·obtain⟨_,this⟩:=this.2 s es (by simpa using a);simp at this
 |cons c cs d=>
  intro ls j h;cases ls with
  |nil=>exact⟨fun h=>by simp at h,fun s es h=>by simp at h⟩
  |cons l ls=>
   simp only[a3a,Zy,Bool.or_eq_true,Bool.not_eq_true']at h;cases j with
   |zero=>
    refine⟨fun a=> ?_,fun s es a=> ?_⟩
    ·simp only[Zs,Zb]at a|-
     subst a;rcases h.1 with h|h
     ·simp[L4]at h
     ·cases c<;>simp[L4]at h
      rfl
    ·simp only[Zs,Zb]at a|-
     subst a;exact d6z h.2.1
   |succ j=>
    have:=d ls j h.2.2;exact⟨fun a=>by simpa using this.1 (by simpa using a),fun s es a=>by simpa using this.2 s es (by simpa using a)⟩
theorem b5s:∀(es os:List AV) (i j:Nat),nilFit es os=true->(leafAt os i j=some .nil->leafAt es i j=some .nil)/\∀s o,leafAt os i j=some (.own s o)->∃e,leafAt es i j=some (.own s e):=by
 intro es
 induction es with
 |nil=>
  intro os
  induction os with
  |nil=>intro i j _;exact⟨fun h=>by simp[leafAt]at h,fun s o h=>by simp[leafAt]at h⟩
  |cons o os b=>
   intro i j h;simp only[nilFit,Zy]at h;cases i with
   |zero=>
    have:=b5q [] _ j h.1;refine⟨fun a=> ?_,fun s o a=> ?_⟩
    ·simp only[leafAt,Zs,Zl]at a
     have:=this.1 a;simp at this
    ·simp only[leafAt,Zs,Zl]at a
     obtain⟨_,this⟩:=this.2 _ _ a;simp at this
   |succ i=>
    have:=b i j h.2;refine⟨fun a=> ?_,fun s o a=> ?_⟩
    ·have:=this.1 (by simpa[leafAt]using a);simp[leafAt]at this
    ·obtain⟨_,this⟩:=this.2 s o (by simpa[leafAt]using a);simp[leafAt]at this
 |cons e es b=>
  intro os i j h;cases os with
  |nil=>exact⟨fun h=>by simp[leafAt]at h,fun s o h=>by simp[leafAt]at h⟩
  |cons o os=>
   simp only[nilFit,Zy]at h;cases i with
   |zero=>
    have:=b5q _ _ j h.1;refine⟨fun a=> ?_,fun s o a=> ?_⟩
    ·simp only[leafAt,Zs,Zl]at a|-
     exact this.1 a
    ·simp only[leafAt,Zs,Zl]at a|-
     exact this.2 _ _ a
   |succ i=>
    have:=b os i j h.2;exact⟨fun a=>by simpa[leafAt]using this.1 (by simpa[leafAt]using a),fun s o a=>by simpa[leafAt]using this.2 s o (by simpa[leafAt]using a)⟩
theorem e3y(es os:List AV)(i j:Nat)(h:nilFit es os=true)(a:leafAt os i j=some .nil):leafAt es i j=some .nil:=(b5s es os i j h).1 a
theorem b4p{es os:List AV}{i j s:Nat}{o:List AV}(h:nilFit es os=true)(a:leafAt os i j=some (.own s o)):∃e,leafAt es i j=some (.own s e):=(b5s es os i j h).2 s o a
theorem c4q{es:List AV}{e l:AV}(he:e∈es)(c:l∈leaves e):∃i j,leafAt es i j=some l:=by
 obtain⟨i,a⟩:=ZG.1 he;obtain⟨j,b⟩:=ZG.1 c;exact⟨i,j,by simp[leafAt,a,b]⟩
theorem a7y{es os:List AV}(k:P1 es=true)(m:G4 os=true)(h:nilFit es os=true):P1 os=true:=by
 unfold P1;rw[Zt];intro e he;have c:M1 e=true:=Zt.1 m e he;have key:∀l∈leaves e,isOwn l=false:=fun l a=>by
  obtain⟨i,j,b⟩:=c4q he a;cases l with
  |own s o=>
   obtain⟨n,f⟩:=b4p h b;have:=M2 k f;simp[immLeaf]at this
  |_=>rfl
 cases e with
 |agg p=>
  simp only[M1,Zt]at c;simp only[L5,Zt];intro l a;have d:=c l a;have g:=key l (by simpa[leaves]using a);rw[g]at d;simpa using d
 |own s o=>have:=key (.own s o) (by simp[leaves]);simp[isOwn]at this
 |_=>simpa[M1,L5,isOwn]using c
mutual
theorem d4o:∀(a:AV),hasList a=false->∀l∈leaves a,hasList l=false
 | .agg c,h,l,b=>a0p c (by simpa[hasList]using h) l b
 | .undef,h,l,b=>by simp[leaves]at b;subst b;exact h
 | .val v,h,l,b=>by simp[leaves]at b;subst b;exact h
 | .nil,h,l,b=>by simp[leaves]at b;subst b;exact h
 | .list es,h,l,b=>by simp[leaves]at b;subst b;exact h
 | .own s es,h,l,b=>by simp[leaves]at b;subst b;exact h
 | .ownp es i j,h,l,b=>by simp[leaves]at b;subst b;exact h
 | .sl ..,h,l,b=>by simp[leaves]at b;subst b;exact h
 | .ptr ..,h,l,b=>by simp[leaves]at b;subst b;exact h
 | .ipt ..,h,l,b=>by simp[leaves]at b;subst b;exact h
 | .tup vs,h,l,b=>by simp[leaves]at b;subst b;exact h
 | .clo ..,h,l,b=>by simp[leaves]at b;subst b;exact h
 | .obj ..,h,l,b=>by simp[leaves]at b;subst b;exact h
 | .dead ..,h,l,b=>by simp[leaves]at b;subst b;exact h
 | .ifc,h,l,b=>by simp[leaves]at b;subst b;exact h
 | .asl ..,h,l,b=>by simp[leaves]at b;subst b;exact h
theorem a0p:∀(fs:List AV),G3 fs=false->∀l∈fs,hasList l=false
 |[],_,l,b=>by cases b
 |a::r,h,l,b=>by
  simp only[G3,YD]at h;cases b with
  |head=>exact h.1
  |tail _ b=>exact a0p r h.2 l b
end
theorem U3{es:List AV}(h:G3 es=false){i j:Nat}{l:AV}(a:leafAt es i j=some l):hasList l=false:=by
 unfold leafAt at a;cases he:es[i]? with
 |none=>simp[he]at a
 |some e=>
  simp only[he,Zl]at a;exact d4o e (a0p es h e (Zx he)) l (Zx a)
theorem RV.conv{w:World}{D D':Nat->Prop}{a:AV}{v:Value}(h:RV w D a v)(e:immLeaf a=true)(d:hasList a=false\/∀b,D b->D' b):RV w D' a v:=by
 rcases d with d|d
 ·cases h with
  |val v=>exact .val v
  |ifc t v=>exact .ifc t v
  |nil a=>exact .nil a
  |list=>simp[hasList]at d
  |clo f caps vs g j=>
   cases caps with
   |nil=>exact .clo f [] vs g fun i l h=>by simp at h
   |cons c cs=>
    simp only[immLeaf,List.all_cons,Zy]at e;simp only[hasList,G3,YD]at d;cases c<;>simp[a3y]at e
    simp[hasList]at d
  |agg=>simp[immLeaf]at e
  |tup=>simp[immLeaf]at e
  |ipt=>simp[immLeaf]at e
 ·exact h.wider d
def Z4:AV->Bool
 | .clo _ (c::cs)=>(c::cs).all a3y
 |a=>immLeaf a
theorem d9j{a:AV}(h:immLeaf a=true):Z4 a=true:=by
 cases a with
 |clo f cs=>
  cases cs with
  |nil=>rfl
  |cons c cs=>exact h
 |_=>exact h
theorem RV.convR{w:World}{D D':Nat->Prop}{a:AV}{v:Value}(h:RV w D a v)(g:Z4 a=true)(d:hasList a=false\/∀b,D b->D' b):RV w D' a v:=by
 by_cases e:immLeaf a=true
 ·exact h.conv e d
 ·rcases d with d|d
  ·cases a with
   |clo f cs=>
    cases cs with
    |nil=>exact(e U).elim
    |cons c cs=>
     simp only[Z4,List.all_cons,Zy]at g;simp only[hasList,G3,YD]at d;cases c<;>simp[a3y]at g
     simp[hasList]at d
   |_=>exact(e g).elim
  ·exact h.wider d
section
variable{P:Program}{C:Caller}{Γ:Env}{w0:World}{A O0:Nat->Prop}{ν0:Nu}{N:Nat}{F:Fl}{D:Nat->Prop}{st:St}{ν:Nu}{tm:Array Value}{w:World}
structure Merge(Γ:Env)(F:Fl)(D:Nat->Prop)(st:St)(ν:Nu)(w:World)(md:Nat->Nat)(ids:List (Nat×Bool))(T:List Tg)(as:List AV)
 (Fc:Fl) (Dc:Nat->Prop) (stc:St) (νc:Nu) (w':World) (st':St) (q:Prop):Prop where
 Rc:Rel Γ w (fun b=>DL D st F ν ids b\/Hand.O F ν md T as b) (Hand.O F ν md T as) (NuC F ν (T.zip (cidAll md 0 as))) 0 Fc Dc stc νc #[] w'
 t:∀i,st' (.t i)=st (.t i)
 h:∀k,k∉T.map (·.1)->st' (.h k)=st (.h k)
 lent:∀t c,(t,c)∈T.zip (cidAll md 0 as)->∃o,stc (.h c.1)= .obj 1 c.2.1 c.2.2 o/\G4 o=true/\Repl st st' t o/\(q\/G3 o=false)
 hq:q->∀x∈ids,x.2=true
 flo:∀k f,Fc k=some f->G4 f.es=true/\(q\/G3 f.es=false)
variable{md:Nat->Nat}{ids:List (Nat×Bool)}{T:List Tg}{as:List AV}{vals:List Value}{Fc:Fl}{Dc:Nat->Prop}{stc:St}{νc:Nu}{w':World}{st':St}{q:Prop}
def Dn(D Dc:Nat->Prop)(q:Prop)(b:Nat):Prop:=D b\/(q/\Dc b)
theorem Merge.cases(M:Merge Γ F D st ν w md ids T as Fc Dc stc νc w' st' q){b:Nat}(a:Dn D Dc q b):D b\/(Dc b/\(Hand.O F ν md T as b\/w.heap.size<=b)):=by
 rcases a with a|⟨hq,a⟩
 ·exact .inl a
 ·rcases M.Rc.dA b a with(h|h)|h
  ·rcases h with h|⟨id,c,_⟩
   ·exact .inl h
   ·have:=M.hq hq _ c
    cases this
  ·exact .inr ⟨a,.inl h⟩
  ·exact .inr ⟨a,.inr h⟩
theorem Merge.ext(H:Hand Γ w0 A O0 ν0 N F D st ν tm w md ids T as vals)(M:Merge Γ F D st ν w md ids T as Fc Dc stc νc w' st' q):Ext st ν w st' ν w':=by
 have d:∀b,b<w.heap.size->csize w' b=csize w b:=M.Rc.cs;have find:∀k,k∈T.map (·.1)->∃t c,(t,c)∈T.zip (cidAll md 0 as)/\t.1=k:=by
  intro k J;obtain⟨t,R,rfl⟩:=ZI.1 J;obtain⟨n,j⟩:=ZG.1 R;have G:=H.lents.length;have K:n<T.length:=(Zq.1 j).1;refine⟨t,(cidAll md 0 as)[n]'(by omega),ZG.2 ⟨n,?_⟩,U⟩;rw[Xb];exact⟨j,Zg _⟩
 refine⟨fun id=> ?_,fun id g S Y r X h=> ?_⟩
 ·by_cases hid:id∈T.map (·.1)
  ·obtain⟨t,c,B,rfl⟩:=find id hid
   obtain⟨o,_,_,⟨m,s,es,a,i,v,_⟩,_⟩:=M.lent t c B;rw[i,v];exact Zd _
  ·rw[M.h id hid];exact Zd _
 ·by_cases hid:id∈T.map (·.1)
  ·obtain⟨t,c,B,rfl⟩:=find id hid
   obtain⟨o,_,L,⟨m,s,es,a,i,v,Q⟩,_⟩:=M.lent t c B;rw[v]at h;cases h;refine⟨_,es,i,U,fun b o f=>d b (H.R.hlt i (fun _ hq=>by cases hq) f),fun x y=> ?_⟩;rcases Q with⟨O,rfl,G,j⟩|⟨V,W,s1,u,O,p,G,E,j⟩
   ·refine⟨fun e=>e3y _ _ _ _ j e,fun s2 a e=> ?_⟩
    obtain⟨I,l⟩:=b4p j e;exact .inr ⟨I,l,U,fun b o f=>d b (H.R.hlt i (fun q hq=>by cases hq;exact⟨_,_,l⟩) f)⟩
   ·by_cases e:(x,y)=(V,W)
    ·cases e
     rw[E.at_];refine⟨(fun e=>by cases e),fun s2 a e=> ?_⟩;cases e;exact .inr ⟨u,p,U,fun b o f=>d b (H.R.hlt i (fun q hq=>by cases hq;exact⟨_,_,p⟩) f)⟩
    ·rw[E.other _ _ e]
     exact⟨fun e=>e,fun s2 a e=> .inr ⟨a,e,U,fun b o f=>d b (H.R.hlt i (fun q hq=>by cases hq;exact⟨_,_,e⟩) f)⟩⟩
  ·rw[M.h id hid]at h
   exact⟨S,r,h,U,fun b o f=>d b (H.R.hlt h (fun _ hq=>by cases hq) f),fun x y=>⟨fun z=>z,fun s2 a z=> .inr ⟨a,z,U,fun b o f=>d b (H.R.hlt h (fun q hq=>by cases hq;exact⟨s2,a,z⟩) f)⟩⟩⟩
theorem Hand.find(H:Hand Γ w0 A O0 ν0 N F D st ν tm w md ids T as vals){k:Nat}(b:k∈T.map (·.1)):∃t c,(t,c)∈T.zip (cidAll md 0 as)/\t.1=k:=by
 obtain⟨t,e,rfl⟩:=ZI.1 b;obtain⟨n,a⟩:=ZG.1 e;have f:=H.lents.length;have d:n<T.length:=(Zq.1 a).1;refine⟨t,(cidAll md 0 as)[n]'(by omega),ZG.2 ⟨n,?_⟩,U⟩;rw[Xb];exact⟨a,Zg _⟩
theorem Hand.apartKey(H:Hand Γ w0 A O0 ν0 N F D st ν tm w md ids T as vals){id:Nat}{p:Path}{b o:Nat}(l:live st F (.nd id p))(k:ν id p=some (b,o))
 (m:∀t c,(t,c)∈T.zip (cidAll md 0 as)->t.1=id->t.2.2≠p/\t.2.2≠none):¬Hand.O F ν md T as b:=by
 intro j;obtain⟨v,u,f,g,h⟩:=H.O_TB j;have:=H.R.inj _ _ b u o f l g k;subst this;rcases h with⟨t,c,x,n,e,he⟩|⟨i,q,e⟩
 ·injection e with a d
  obtain⟨r,s⟩:=m t c n a.symm;rcases he with he|he
  ·exact r (he.symm.trans d.symm)
  ·exact s he
 ·cases e
theorem Merge.same(H:Hand Γ w0 A O0 ν0 N F D st ν tm w md ids T as vals)(M:Merge Γ F D st ν w md ids T as Fc Dc stc νc w' st' q){id g m s:Nat}{es:List AV}(h:st (.h id)= .obj g m s es)
 {p:Path} (d:livePath es p) {b o:Nat} (a:ν id p=some (b,o)) (j:∀t c,(t,c)∈T.zip (cidAll md 0 as)->t.1=id->t.2.2≠p/\t.2.2≠none):w'.heap[b]? =w.heap[b]? :=by
 refine M.Rc.fr b (H.R.hlt h d a) ?_;by_cases hm:m=2
 ·subst hm
  obtain⟨f1,f2⟩:=H.R.frozen id g s es h;cases p with
  |none=>exact fun f=>H.O_D f (.inl (f1 b o a))
  |some q=>
   obtain⟨s2,e,i⟩:=d q U;have:=M2 f2 i;simp[immLeaf]at this
 ·exact H.apartKey ⟨g,m,s,es,h,hm,d⟩ a j
theorem Merge.rs(H:Hand Γ w0 A O0 ν0 N F D st ν tm w md ids T as vals)(M:Merge Γ F D st ν w md ids T as Fc Dc stc νc w' st' q){a:AV}{v:Value}(h:RS st ν w D a v):RS st' ν w' (Dn D Dc q) a v:=
 h.mono (M.ext H) (fun b c hlt=>⟨M.Rc.fr b hlt fun d=>H.O_D d (.inl c),.inl c⟩) M.Rc.le
theorem Merge.leaf(M:Merge Γ F D st ν w md ids T as Fc Dc stc νc w' st' q){l:AV}{v:Value}(a:immLeaf l=true)(hq:q\/hasList l=false)(h:RS stc νc w' Dc l v):RS st' ν w' (Dn D Dc q) l v:=by
 refine .data _ _ ((h.imm a).conv a ?_);rcases hq with hq|hq
 ·exact .inr fun b c=> .inr ⟨hq,c⟩
 ·exact .inl hq
theorem Merge.root(H:Hand Γ w0 A O0 ν0 N F D st ν tm w md ids T as vals){t:Tg}{c:Cid}(z:(t,c)∈T.zip (cidAll md 0 as)){o:List AV}(k:G4 o=true)(n:Repl st st' t o):P1 o=true\/(t.2.2=none/\c.2.1=1):=by
 obtain⟨hid,v,⟨⟨_,a⟩,u⟩,r⟩:=H.lents.mem_zip z;obtain⟨m,s,es,y,h,E,n⟩:=n;rcases a with a|a
 ·left
  rcases n with⟨d,rfl,i,g⟩|⟨I,J,s1,x,d,j,i,G,g⟩
  ·rcases u with⟨_,p,b,_⟩|⟨_,_,d,p,B,l,hm⟩
   ·rw[d]at b
    have:=O5 b;rw[h]at this;injection this with _ _ _ e
    subst e;exact a7y a k g
   ·rw[h]at l
    injection l with _ _ _ e
    subst e;exact a7y a k g
  ·rcases u with⟨_,p,b,_⟩|⟨_,_,f,p,B,l,hm⟩
   ·rw[d]at b
    simp only[nodeAt,h,if_true,j,Zb,Zk]at b;obtain⟨_,_,rfl⟩:=b;exact a7y a k g
   ·rw[d]at f;cases f
 ·exact .inr a
theorem Merge.node(H:Hand Γ w0 A O0 ν0 N F D st ν tm w md ids T as vals)(M:Merge Γ F D st ν w md ids T as Fc Dc stc νc w' st' q){t:Tg}{c:Cid}(d:(t,c)∈T.zip (cidAll md 0 as)):
 ∃o,stc (.h c.1)= .obj 1 c.2.1 c.2.2 o/\G4 o=true/\Repl st st' t o/\live stc Fc (.nd c.1 none)/\νc c.1 none=ν t.1 t.2.2/\
  RN w' (RS st' ν w' (Dn D Dc q)) (ν t.1) (ν t.1 t.2.2) (c.2.1=3\/c.2.1=4) c.2.2 o/\(P1 o=true\/(t.2.2=none/\c.2.1=1))/\(t.2.2=none->∀r,νc c.1 r=ν t.1 r)/\(q\/G3 o=false):=by
 obtain⟨o,b,g,m,n⟩:=M.lent t c d;obtain⟨hid,s,⟨x,f⟩,p⟩:=H.lents.mem_zip d;have hm:c.2.1=1\/c.2.1=4:=by rcases f with⟨h,_⟩|⟨h,_⟩;exact .inl h;exact .inr h
 have e:νc c.1 none=ν t.1 t.2.2:=by
  rw[M.Rc.io _ _ _ _ _ b hm];exact b2v H.nC d
 have hνq:t.2.2=none->∀r,νc c.1 r=ν t.1 r:=fun z r=>by
  rw[M.Rc.io _ _ _ _ _ b hm];exact b3y H.nC d z r
 have a:=Merge.root H d g m;refine⟨o,b,g,m,⟨_,_,_,_,b,by omega,fun _ hq=>by cases hq⟩,e,?_,a,hνq,n⟩;have:=(M.Rc.objs _ _ _ _ _ b).top;rw[e]at this;refine this.monoL U (fun _ _ _=>U) (fun i j l v f y h=>M.leaf (by rcases R4 g f with h|h;rw[y]at h;cases h;exact h) (n.imp id fun h=>U3 h f) h) (fun i j s2 u h=> ?_);rcases a with k|k
 ·have:=M2 k h
  simp[immLeaf]at this
 ·exact⟨(hνq k.1 _).symm,fun _ _ _=>U⟩
theorem Merge.liveNd(H:Hand Γ w0 A O0 ν0 N F D st ν tm w md ids T as vals)(M:Merge Γ F D st ν w md ids T as Fc Dc stc νc w' st' q){id:Nat}{p:Path}(h:live st' Fc (.nd id p)):live st F (.nd id p):=by
 obtain⟨g,m,s,es,b,j,a⟩:=h;by_cases hid:id∈T.map (·.1)
 ·obtain⟨t,c,G,rfl⟩:=H.find hid
  obtain⟨o,_,z,⟨Q,R,n,u,I,J,E⟩,_⟩:=M.lent t c G;rw[J]at b;injection b with O a2 a3 a4
  subst a2 a3 a4;refine⟨_,_,_,_,I,j,fun q hq=> ?_⟩;obtain⟨S,v,a⟩:=a q hq;rcases E with⟨B,rfl,y,k⟩|⟨K,L,s1,r,B,f,y,x,k⟩
  ·obtain⟨i,d⟩:=b4p k a
   exact⟨_,_,d⟩
  ·by_cases e:(q.1,q.2)=(K,L)
   ·injection e with i l
    rw[i,l];exact⟨_,_,f⟩
   ·rw[x.other _ _ e]at a
    exact⟨_,_,a⟩
 ·rw[M.h id hid]at b
  exact⟨g,m,s,es,b,j,a⟩
theorem Merge.flO(M:Merge Γ F D st ν w md ids T as Fc Dc stc νc w' st' q){k:FK}{p:Path}{b o:Nat}(c:live st' Fc (.fl k p))(a:baseOf ν Fc (.fl k p)=some (b,o)):
 live stc Fc (.fl k p)/\baseOf νc Fc (.fl k p)=some (b,o)/\(Hand.O F ν md T as b\/w.heap.size<=b):=
 ⟨c,a,M.Rc.tO b ⟨.fl k p,o,c,a⟩⟩
theorem Merge.ndO(H:Hand Γ w0 A O0 ν0 N F D st ν tm w md ids T as vals)(M:Merge Γ F D st ν w md ids T as Fc Dc stc νc w' st' q){id:Nat}{p:Path}{b o:Nat}(v:live st' Fc (.nd id p))(j:ν id p=some (b,o)):
 b<w.heap.size/\(¬Hand.O F ν md T as b\/∃c r,live stc Fc (.nd c r)/\νc c r=some (b,o)):=by
 have e:=M.liveNd H v;refine⟨H.R.live_lt e j,?_⟩;by_cases h:∃t c,(t,c)∈T.zip (cidAll md 0 as)/\t.1=id/\t.2.2=p
 ·obtain⟨t,c,a,rfl,rfl⟩:=h
  obtain⟨O,k,G,Q,I,u,_⟩:=M.node H a;exact .inr ⟨c.1,none,I,u.trans j⟩
 ·by_cases n:∃t c,(t,c)∈T.zip (cidAll md 0 as)/\t.1=id/\t.2.2=none
  ·obtain⟨t,c,a,rfl,x⟩:=n
   obtain⟨O,k,G,⟨m,s,es,E,R,L,K⟩,⟨_,_,_,_,l,S,_⟩,u,_,_,J,_⟩:=M.node H a;obtain⟨g,V,W,B,d,i,y⟩:=v;rw[L]at d;injection d with _ _ _ z
   rcases K with⟨_,rfl,_,_⟩|⟨_,_,_,_,f,_⟩
   ·subst z
    refine .inr ⟨c.1,p,⟨1,c.2.1,c.2.2,_,k,?_,y⟩,(J x p).trans j⟩;rw[k]at l;injection l with _ l
    omega
   ·rw[x]at f;cases f
  ·exact .inl (H.apartKey e j fun t c a d=>⟨fun i=>h ⟨t,c,a,d,i⟩,fun i=>n ⟨t,c,a,d,i⟩⟩)
theorem Merge.rel(al:∀b,O0 b->A b)(H:Hand Γ w0 A O0 ν0 N F D st ν tm w md ids T as vals)(M:Merge Γ F D st ν w md ids T as Fc Dc stc νc w' st' q):
 Rel Γ w0 A O0 ν0 N Fc (Dn D Dc q) st' ν tm w':=by
 have R:=H.R;have hO:∀b,Hand.O F ν md T as b->O0 b\/w0.heap.size<=b:=fun b d=>by
  obtain⟨kc,o,Z,h2,_⟩:=H.O_TB d;exact R.tO b ⟨kc,o,Z,h2⟩
 have ay:∀b,Hand.O F ν md T as b->b<w.heap.size:=fun b d=>by
  obtain⟨kc,o,Z,h2,_⟩:=H.O_TB d;exact R.live_lt Z h2
 have hle:=M.Rc.le;have az:=R.le
 --a node of ax caller's and a float of ax callee's
 have O:∀id p k r b X o2,live st' Fc (.nd id p)->ν id p=some (b,X)->live st' Fc (.fl k r)->baseOf ν Fc (.fl k r)=some (b,o2)->False:=by
  intro id p k r b X o2 ao B ap am;obtain⟨Z,h2,I⟩:=M.flO ap am;obtain⟨hlt,z⟩:=M.ndO H ao B;rcases z with z|⟨c,r',G,a0⟩
  ·rcases I with I|I
   ·exact z I
   ·omega
  ·have:=M.Rc.inj _ _ b X o2 G Z a0 h2
   cases this
 refine⟨R.size,fun i hi=>by rw[M.t];exact M.rs H (R.slots i hi),fun i hi=>by rw[M.t];exact R.high i hi,?_,?_,?_,?_,?_,?_,?_,?_,by omega,
  M.Rc.os.trans R.os,M.Rc.tape.trans R.tape,M.Rc.output.trans R.output,fun h=>Nat.le_trans (R.dr h) (M.Rc.dr h),?_,?_,?_,R.gO,R.gi⟩
 ·intro id g m s es h
  by_cases hid:id∈T.map (·.1)
  ·obtain⟨t,c,S,rfl⟩:=H.find hid
   obtain⟨o,Z,h2,⟨m',s',a6,y,x,W,hr⟩,h4,h5,h6,h7,h8,h9⟩:=M.node H S;rw[W]at h;injection h with a1 a2 a3 a4
   subst a2 a3 a4;obtain⟨_,a7,⟨an,n⟩,af⟩:=H.lents.mem_zip S;rcases hr with⟨Q,rfl,hlen,z⟩|⟨x0,y0,s1,aj,Q,a5,hlen,hS,b5⟩
   ·refine⟨?_,fun i j s2 y h=> ?_⟩
    rotate_left
    ·obtain⟨r1,r2⟩:=(M.Rc.objs _ _ _ _ _ Z).sub i j s2 y h
     refine⟨r1.monoL (h8 Q _).symm (fun _ _ _=>U) (fun i' j' l v u _ h'=>M.leaf (r2 i' j' l u) (h9.imp id fun hh=> ?_) h') (fun i' j' s3 ac h'=> ?_),r2⟩
     ·have:=U3 hh h
      simp only[hasList]at this;exact U3 this u
     ·have:=r2 i' j' _ h';simp[immLeaf]at this
    rw[Q]at h6;rcases n with⟨G,m1,K,ag,ae⟩|⟨G,a0,_,m1,s1,ah,hm⟩
    ·rw[Q]at K ae
     have:=O5 K;rw[x]at this;injection this with _ L b3 b4
     rw[b3];refine h6.bxIff ?_;have d:=S9 ae;rw[L];constructor
     ·intro h;omega
     ·intro h;exact(d ⟨U,h⟩).elim
    ·rw[x]at ah
     injection ah with _ L b3 b4
     refine(h6.bxIff (bx':=(m'=3\/m'=4)) ⟨fun _=>by omega,fun _=> .inr G⟩).anyS (by omega) fun b o d=> ?_
     have:=(R.objs _ _ _ _ _ x).top.room d;rw[hlen,M.Rc.cs b (R.hlt x (fun _ hq=>by cases hq) d)];exact this
   ·have ad:=R.objs _ _ _ _ _ x
    rw[Q]at h6;have aq:∀i j,(i,j)≠(x0,y0)->∀V c',(V,c')∈T.zip (cidAll md 0 as)->V.1=t.1->V.2.2≠some (i,j)/\V.2.2≠none:=by
     intro i j ar V c' aa e1;obtain⟨rfl,rfl⟩:=a6x (k:=fun t:Tg=>t.1) T _ H.nT _ _ _ _ aa S e1;rw[Q];exact⟨fun Y=>(by injection Y with Y;exact ar Y.symm),fun Y=>(by cases Y)⟩
    have au:∀V c',(V,c')∈T.zip (cidAll md 0 as)->V.1=t.1->V.2.2≠none/\V.2.2≠none:=by
     intro V c' aa e1;obtain⟨rfl,rfl⟩:=a6x (k:=fun t:Tg=>t.1) T _ H.nT _ _ _ _ aa S e1;rw[Q];exact⟨fun Y=>(by cases Y),fun Y=>(by cases Y)⟩
    obtain⟨G,m1,K,_⟩:c.2.1=1/\∃m,nodeAt st t.1 t.2.1 t.2.2=some (m,c.2.2,a7)/\m≠2/\bxB m t.2.2=false:=by
     rcases n with n|⟨_,_,ai,_⟩
     ·exact n
     ·rw[Q]at ai;cases ai
    have aw:c.2.2=s1:=by
     rw[Q]at K;simp only[nodeAt,x,if_true,a5,Zb,Zk]at K;exact K.2.1.symm
    refine⟨?_,fun i j s2 y h=> ?_⟩
    ·have ht:=ad.top
     cases ab:ν t.1 none with
     |none=>
      rw[ab]at ht;have:a6=[]:=ht;subst this;simp[leafAt]at a5
     |some r=>
      obtain⟨b,X⟩:=r;rw[ab]at ht;have a9:=M.same H x (p:=none) (fun _ hq=>by cases hq) ab au;obtain⟨cc,a8,q1,q2,q3,q5,q4⟩:=ht;refine⟨cc,a8,a9.trans q1,by rw[hS.len];exact q2,fun d=>hS.sz d (q3 d),fun d=>by rw[hS.len];exact q5 d,fun i j l u=> ?_⟩;by_cases e:(i,j)=(x0,y0)
      ·cases e
       rw[hS.at_]at u;cases u;obtain⟨v,hv,hr⟩:=q4 _ _ _ a5;refine⟨v,hv,?_⟩;have av:SlV w (ν t.1 (some (x0,y0))) s1 0 aj.length v:=hr;show SlV w' (ν t.1 (some (x0,y0))) s1 0 o.length v;rw[hlen];exact av.mono U fun J X B=>M.Rc.cs J (R.hlt x (fun q hq=>by cases hq;exact⟨_,_,a5⟩) B)
      ·rw[hS.other _ _ e]at u
       obtain⟨v,hv,hr⟩:=q4 _ _ _ u;exact⟨v,hv,hr.mono (fun a v h=>M.rs H h) (fun _ _ _=>U) fun s3 ac J X he B=>M.Rc.cs J (R.hlt x (fun q hq=>by cases hq;exact⟨s3,ac,he▸u⟩) B)⟩
    ·by_cases e:(i,j)=(x0,y0)
     ·cases e
      rw[hS.at_]at h;injection h with h
      injection h with J L
      subst J L;have ak:P1 o=true:=by
       rcases h7 with h7|h7
       ·exact h7
       ·rw[Q]at h7;cases h7.1
      refine⟨?_,a0m ak⟩;rw[aw]at h6;exact h6.bxIff ⟨fun h=>by omega,fun h=>h.elim⟩
     ·rw[hS.other _ _ e]at h
      obtain⟨r1,r2⟩:=ad.sub i j s2 y h;refine⟨r1.mono U (fun J X B=>M.same H x (p:=some (i,j)) (fun q hq=>by cases hq;exact⟨_,_,h⟩) B (aq i j e)) (fun a v h=>M.rs H h) (fun i' j' s4 b0 h4=> ?_),r2⟩;have:=r2 i' j' _ h4;simp[immLeaf]at this
  ·rw[M.h id hid]at h
   have z:∀p,∀t c,(t,c)∈T.zip (cidAll md 0 as)->t.1=id->t.2.2≠p/\t.2.2≠none:=fun p t c S e=>(hid (e▸List.mem_map_of_mem (YL S).1)).elim
   exact(R.objs id g m s es h).mono U (fun _ _ _ _ _=>U) (fun b o d=>M.same H h (p:=none) (fun _ hq=>by cases hq) d (z _))
    (fun i j s2 y b o n d=>M.same H h (p:=some (i,j)) (fun q hq=>by cases hq;exact⟨_,_,n⟩) d (z _)) (fun a v h=>M.rs H h)
 ·intro id g s es h
  have hid:id∉T.map (·.1):=by
   intro hid;obtain⟨t,c,S,rfl⟩:=H.find hid;obtain⟨o,Z,h2,⟨m',s',a6,y,x,W,hr⟩,_⟩:=M.lent t c S;obtain⟨_,a7,⟨an,n⟩,af⟩:=H.lents.mem_zip S;rw[W]at h;injection h with a1 a2 a3 a4
   subst a2;rcases n with⟨_,m,z,ag,_⟩|⟨_,_,Q,m,s,ho,hm⟩
   ·obtain⟨s0,a7,ho,_⟩:=N9 z
    rw[x]at ho;injection ho with J L
    exact ag L.symm
   ·rw[x]at ho
    injection ho with J L
    omega
  rw[M.h id hid]at h;obtain⟨f1,f2⟩:=R.frozen id g s es h;exact⟨fun b o d=> .inl (f1 b o d),f2⟩
 ·intro k f hf
  obtain⟨n1,n2⟩:=M.flo k f hf;refine(M.Rc.flos k f hf).monoL U (fun _ _ _ _ _=>U) (fun _ _ _=>U) (fun _ _ _ _ _ _ _ _=>U)
   (fun i j l v n ho h=>M.leaf (by rcases R4 n1 n with h|h;rw[ho]at h;cases h;exact h) (n2.imp id fun h=>U3 h n) h)
   (fun i j s2 y i' j' l v n u hi h=>M.leaf hi (n2.imp id fun h=> ?_) h)
  have:=U3 h n;simp only[hasList]at this;exact U3 this u
 ·intro x W b X o2 l1 l2 J L
  cases x with
  |nd i1 p1=>cases W with
   |nd i2 p2=>exact R.inj _ _ b X o2 (M.liveNd H l1) (M.liveNd H l2) J L
   |fl W r=>exact(O _ _ _ _ _ _ _ l1 J l2 L).elim
  |fl x r=>cases W with
   |nd i2 p2=>exact(O _ _ _ _ _ _ _ l2 L l1 J).elim
   |fl W r2=>exact M.Rc.inj _ _ b X o2 l1 l2 J L
 ·rintro b d ⟨k,o,n,E⟩
  rcases M.cases d with d|⟨d,hx⟩
  ·cases k with
   |nd id p=>exact R.dT b d ⟨_,o,M.liveNd H n,E⟩
   |fl k r=>
    obtain⟨_,_,I⟩:=M.flO n E;rcases I with I|I
    ·exact H.O_D I (.inl d)
    ·have:=(R.dlt b d).1;omega
  ·cases k with
   |nd id p=>
    obtain⟨hlt,z⟩:=M.ndO H n E;rcases z with z|⟨c,r',G,a0⟩
    ·rcases hx with hx|hx
     ·exact z hx
     ·omega
    ·exact M.Rc.dT b d ⟨_,o,G,a0⟩
   |fl k r=>exact M.Rc.dT b d ⟨.fl k r,o,n,E⟩
 ·intro b d
  rcases M.cases d with d|⟨_,d|d⟩
  ·exact R.dA b d
  ·exact(hO b d).imp (al b) fun h=>h
  ·exact .inr (by omega)
 ·intro b d
  have key:D b->b<w'.heap.size/\((w0.heap.size<=b\/O0 b)->∃c a8,w'.heap[b]? =some (.cells c a8 (0,0))):=fun d=>by
   have hlt:=(R.dlt b d).1;refine⟨by omega,fun h=> ?_⟩;rw[M.Rc.fr b hlt (fun ho=>H.O_D ho (.inl d))];exact(R.dlt b d).2 h
  rcases M.cases d with d|⟨d,hx⟩
  ·exact key d
  ·exact⟨(M.Rc.dlt b d).1,fun _=>(M.Rc.dlt b d).2 (hx.symm)⟩
 ·rintro b ⟨k,o,n,E⟩
  cases k with
  |nd id p=>exact R.tO b ⟨_,o,M.liveNd H n,E⟩
  |fl k r=>
   obtain⟨_,_,I⟩:=M.flO n E;rcases I with I|I
   ·exact hO b I
   ·exact .inr (by omega)
 ·intro b hlt z
  rw[M.Rc.fr b (by omega) fun h=>(hO b h).elim z (by omega)];exact R.fr b hlt z
 ·intro b hlt
  rw[M.Rc.cs b (by omega)];exact R.cs b hlt
 ·intro id g m s es h hm
  by_cases hid:id∈T.map (·.1)
  ·obtain⟨t,c,S,rfl⟩:=H.find hid
   obtain⟨o,Z,h2,⟨m',s',a6,y,x,W,hr⟩,_⟩:=M.lent t c S;rw[W]at h;injection h with a1 a2 a3 a4
   subst a2;exact R.io _ _ _ _ _ x hm
  ·rw[M.h id hid]at h
   exact R.io _ _ _ _ _ h hm
end
end Go.Mv
end
