/- The abstract machine, part 5 of 5: it runs the model's code on abstract values and is proved sound over any program. Conditions: none. -/
import Derived.Lib.IndexMore
import Derived.Test.YtjmoceabjajefaaGreatDoorMd
set_option linter.unusedVariables false
set_option linter.unusedSimpArgs false
open BitVec renaming ofInt→Yv
open List renaming length_nil→Zs, length_cons→Zg, cons_append→Zp, map_append→ZZ, length_take→ZU, length_append→Zl, length_map→Zh, mem_cons_self→Zq, map_cons→Zy, map_nil→Yf, replicate→ZN, getD_eq_getElem?_getD→Zc, pairwise_cons→YA, getElem?_map→ZE, getElem?_eq_getElem→Ze, append_assoc→Ym, nil_append→Zi, take_append_of_le_length→Xd, take_of_length_le→ZC, append_nil→Zm, all_eq_true→Zu, mem_map→ZG, getElem?_eq_none→ZO
open Nat renaming le_trans→Ye, zero_le→Zt, le_refl→Zd, zero_add→ZI
section
namespace Go.Mv
open Go
def sg:List Int->List Bool->Int
 |v::l,b::r=>(if b=true then-v else v)+sg l r
 |_,_=>0
def flN:List Int->Int->Nat
 |[],s=>if s<=0 then 1 else 0
 |v::l,s=>flN l (s-v)+flN l (s+v)
theorem c9p:∀(l:List Int) (s:Int),flN l s=Gp.cnt l.length fun r=>decide (s<=sg l r)
 |[],s=>by
  rw[flN,Zs,Gp.cnt];by_cases h:s<=0
  ·rw[if_pos h,if_pos (show decide (s<=sg [] [])=true from decide_eq_true h)]
  ·rw[if_neg h,if_neg (fun e=>h (of_decide_eq_true (p:=s<=sg [] []) e))]
 |v::l,s=>by
  rw[flN,c9p l,c9p l,Zg,Gp.cnt];congr 1
  ·congr 1;funext r
   simp only[sg,Bool.false_eq_true,if_false];exact decide_eq_decide.2 (by omega)
  ·congr 1;funext r
   simp only[sg,if_true];exact decide_eq_decide.2 (by omega)
theorem c9h:∀(l:List Int) (s:Int),flN l s<=2^l.length
 |[],s=>by rw[flN];split<;>simp
 |v::l,s=>by
  have a:=c9h l (s-v);have b:=c9h l (s+v);rw[flN,Zg,Nat.pow_succ];omega
theorem e9h:∀(l:List Int) (r:List Bool) (v:Int) (b:Bool),l.length=r.length->sg (l++[v]) (r++[b])=sg l r+if b=true then-v else v
 |[],[],v,b,_=>by simp[sg]
 |x::l,c::r,v,b,h=>by
  have:=e9h l r v b (by simpa using h);simp only[Zp,sg,this];omega
 |[],_::_,_,_,h=>absurd h (by simp)
 |_::_,[],_,_,h=>absurd h (by simp)
def sgP(l:List Int)(S i:Nat):Int:=sg (l.take i) (Gp.rowS i S)
theorem e5k(l:List Int)(S:Nat):sgP l S 0=0:=rfl
theorem c1f{l:List Int}{S i:Nat}(h:i<l.length):sgP l S (i+1)=sgP l S i+if S.testBit i=true then-(l.getD i default)else l.getD i default:=by
 unfold sgP;rw[Q1 h,show Gp.rowS (i+1) S=Gp.rowS i S++[S.testBit i] by unfold Gp.rowS;rw[List.range_succ,ZZ];rfl,e9h _ _ _ _ (by rw[ZU,Gp.rowS_len];omega)]
theorem e7d{l:List Int}{S:Nat}(a:∀i,i<l.length->-200<=l.getD i default/\l.getD i default<=200):∀i,i<=l.length->-(200*(i:Int))<=sgP l S i/\sgP l S i<=200*(i:Int)
 |0,_=>by rw[e5k];simp
 |i+1,h=>by
  have b:=e7d (S:=S) a i (by omega);have c:=a i (by omega);rw[c1f (by omega)];split<;>omega
def Fst(l:List Int)(S m:Nat):Prop:=m=Gp.cntS l.length S fun r=>decide (l.sum<=sg l r)
theorem e5o{l:List Int}:Fst l 0 0:=rfl
theorem f4h{l:List Int}{S m:Nat}(h:Fst l S m):m<=S:=by
 rw[h];unfold Gp.cntS;exact Ye List.countP_le_length (by simp)
theorem e0c(l:List Int)(S:Nat):sgP l S l.length=sg l (Gp.rowS l.length S):=by unfold sgP;rw[List.take_length]
theorem f1o{l:List Int}{S m:Nat}(h:Fst l S m)(a:l.sum<=sgP l S l.length):Fst l (S+1) (m+1):=by
 unfold Fst at h|-;rw[Gp.cntS_succ,<-h,if_pos (by rw[<-e0c];exact decide_eq_true a)]
theorem f3v{l:List Int}{S m:Nat}(h:Fst l S m)(a:¬l.sum<=sgP l S l.length):Fst l (S+1) m:=by
 unfold Fst at h|-;rw[Gp.cntS_succ,<-h,if_neg (by rw[<-e0c];simp[a])];rfl
theorem f1v{l:List Int}{S m:Nat}(h:Fst l S m)(a:S=2^l.length):m=flN l l.sum:=by
 rw[h,a,Gp.cnt_S,c9p]
def flX(l:List Int):Int×Int:=if vd l=true then((flN l l.sum:Int),((2^l.length:Nat):Int))else(-1,-1)
theorem c8h{l:List Int}(h:vd l=true):flX l=((flN l l.sum:Int),((2^l.length:Nat):Int)):=if_pos h
theorem d7f{l:List Int}(h:¬vd l=true):flX l=(-1,-1):=if_neg h
theorem f2w(S i:Nat):decide (((S/2^i%2:Nat):Int)=1)=S.testBit i:=by
 rw[Nat.testBit_eq_decide_div_mod_eq];exact decide_eq_decide.2 (by omega)
theorem f5z{S i:Nat}(h:((S/2^i%2:Nat):Int)=1):S.testBit i=true:=by rw[<-f2w];exact decide_eq_true h
theorem f5t{S i:Nat}(h:¬((S/2^i%2:Nat):Int)=1):S.testBit i=false:=by rw[<-f2w];exact decide_eq_false h
def mdI(l:List Int):Int:=(S6 l).getD ((l.length-1)/2) default+(S6 l).getD (l.length/2) default
def frT(q:Rat):W8:=if(q.den:Int)=1 then dec q.num else dec q.num++[47]++dec q.den
def frsT(qs:List Rat):W8:=joinB 44 (qs.map frT)
def slT(p:Int×Int):W8:=dec p.1++[47]++dec p.2
abbrev c5b:W8:=[115,104,111,119]
abbrev a3r:W8:=[109,105,100,100,108,101]
abbrev b8y:W8:=[114,105,115,101]
abbrev c1t:W8:=[102,108,105,112]
abbrev c5k:W8:=[100,111,119,110]
abbrev wBetter:W8:=[98,101,116,116,101,114]
abbrev wCost:W8:=[99,111,115,116]
abbrev wWhat:W8:=[119,104,97,116]
abbrev wWrong:W8:=[119,114,111,110,103]
abbrev wDone:W8:=[100,111,110,101]
noncomputable def X0(w:W8)(ns:List Int):W8×Bool:=
 if w=c5b then(O6 ns,true)
 else if w=a3r then if ns.length=0 then([],false)else(frT (Rat.divInt (mdI ns) 2),true)
 else if w=b8y then(frsT (riseQ ns),decide (0<(riseQ ns).length))
 else if w=c1t then(slT (flX ns),decide (0<(flX ns).2))
 else if w=c5k then(O6 (sdR ns),decide (0<(sdR ns).length))
 else([],false)
theorem d5y{l:List Int}(f:1<=l.length)(a:∀x∈l,-100000<=x/\x<=100000): -200000<=mdI l/\mdI l<=200000:=by
 have e:=Q6 l;have b:=a _ ((S8 l).mem_iff.1 (M7 (xs:=S6 l) (i:=(l.length-1)/2) (by omega)));have c:=a _ ((S8 l).mem_iff.1 (M7 (xs:=S6 l) (i:=l.length/2) (by omega)));unfold mdI;omega
theorem b8e{q:Rat}(h:Sm 1000000 q):(frT q).length<=17:=by
 have a:=L4 (m:=q.num) ⟨h.1,h.2.1⟩;have b:=Q7 q;have c:=L4 (m:=(q.den:Int)) ⟨by omega,h.2.2⟩;unfold frT;split
 ·omega
 ·simp only[Zl,Zg,Zs];omega
theorem d7m{qs:List Rat}{i:Nat}(a:i<qs.length)(b:0<i):frsT (qs.take (i+1))=frsT (qs.take i)++[44]++frT (qs.getD i default):=by
 unfold frsT;rw[Q1 a,ZZ,List.map_singleton,b0n _ (by intro e;have:=congrArg List.length e;rw[Zh,ZU,Zs]at this;omega)];simp
theorem d6h{qs:List Rat}{i:Nat}(b:i<qs.length)(a:i=0):frsT (qs.take (i+1))=frsT (qs.take i)++frT (qs.getD i default):=by
 subst a;unfold frsT;rw[Q1 b]
 rfl
theorem b8p{qs:List Rat}:(∀q∈qs,Sm 1000000 q)->(frsT qs).length<=18*qs.length:=by
 induction qs with
 |nil=>intro _;exact Zt _
 |cons q r c=>
  intro h;have e:=b8e (h q (Zq ..));have a:=c fun x b=>h x (List.mem_cons_of_mem _ b)
  unfold frsT at a|-;rw[Zy];rcases r with _|⟨f,r⟩
  ·simp only[Yf,joinB,Zg,Zs];omega
  ·rw[R6 (by simp)]
   simp only[Zl,Zg]at a|-;omega
def kdC(c:UInt8)(l:W8):W8:=l.takeWhile fun b=>decide (b≠c)
def rsC(c:UInt8)(l:W8):W8:=l.drop ((kdC c l).length+1)
abbrev kdL(l:W8):W8:=kdC 32 l
abbrev rsL(l:W8):W8:=rsC 32 l
theorem d7t(c:UInt8)(l:W8):(kdC c l).length<=l.length:=by
 unfold kdC;exact(List.takeWhile_prefix _).length_le
theorem e8h(c:UInt8)(l:W8):(rsC c l).length<=l.length:=by unfold rsC;rw[List.length_drop];omega
theorem e8c{c:UInt8}:∀{l:W8} {k:Nat},k<=l.length->(∀j,j<k->l.getD j 0≠c)->(k=l.length\/l.getD k 0=c)->kdC c l=l.take k
 |[],k,h,_,_=>by rw[List.take_nil];rfl
 |b::l,0,_,_,h=>by
  have a:b=c:=h.resolve_left (by simp);rw[kdC,List.takeWhile_cons,if_neg (by simp[a])];rfl
 |b::l,k+1,g,e,i=>by
  have a:b≠c:=e 0 (Nat.zero_lt_succ _);have f:=e8c (l:=l) (k:=k) (by simpa using g) (fun j m=>e (j+1) (Nat.succ_lt_succ m)) (i.imp (fun h=>by simpa using h) fun h=>h);unfold kdC at f;rw[kdC,List.takeWhile_cons,if_pos (by simp[a]),f];rfl
def c6a:List W8:=[[97],[98],[99],[100],wBetter,wCost,c5b,a3r,b8y,c1t,c5k]
def inW(w:W8):Bool:=c6a.any fun v=>decide (w=v)
noncomputable def deskL(C:List (List Int))(l:W8):W8×List (List Int):=
 if(kdL l).length<l.length/\inW (kdL l)=true then
  if(rdPlan (rsL l)).isSome=true then
   if kdL l=wBetter then(d1l (rsL l),C)
   else if kdL l=wCost then(dec (a9v (rsL l)),C)
   else match runT C (rsL l)with
    |none=>(wWrong,C)
    |some ns=>if(kdL l).length=1 then if vd ns=true then(wDone,C.set (((kdL l).getD 0 0).toNat-97) ns)else(wWrong,C)
     else if(X0 (kdL l) ns).2=true then((X0 (kdL l) ns).1,C)else(wWrong,C)
  else(wWrong,C)
 else(wWhat,C)
noncomputable def a1x:List (List Int)->List W8->W8
 |_,[]=>[]
 |C,l::ls=>(deskL C l).1++[10]++a1x (deskL C l).2 ls
noncomputable def deskT(ls:List W8):W8:=if ls.length<=20 then a1x [[],[],[],[]] ls else[]
theorem d1r(n:Nat):(n:Int).tdiv 2=((n/2:Nat):Int):=by rw[show(2:Int)=((2:Nat):Int)from rfl,<-Int.ofNat_tdiv]
def U6(n:Nat):List Int:=ZN n 1
@[simp] theorem P1(n:Nat):(U6 n).length=n:=by simp[U6]
theorem a4p{n i:Nat}(h:i<n):(U6 n).getD i default=1:=by
 unfold U6;rw[Zc,List.getElem?_replicate,if_pos h];rfl
theorem e4t(n:Nat):U6 n++[1]=U6 (n+1):=by simp[U6,List.replicate_succ']
theorem e0e{n:Nat}{st:List Nat}(h:Stk n st)(c:2<=st.length):st.getD 1 default<st.getD 0 default/\st.getD 0 default<n:=by
 match st,h,c with
 |a::b::r,h,_=>exact⟨(YA.1 h.1).1 b (Zq ..),h.2.1 a (Zq ..)⟩
 |[_],_,c=>exact absurd c (by simp)
 |[],_,c=>exact absurd c (by simp)
theorem d3t{n:Nat}{st:List Nat}(h:Stk n st)(c:2<=st.length):Stk n st.tail/\st.tail≠[]:=by
 match st,h,c with
 |a::b::r,h,_=>exact⟨h.tail,by simp⟩
 |[_],_,c=>exact absurd c (by simp)
 |[],_,c=>exact absurd c (by simp)
theorem d2x{l:List Int}{k:Nat}{st:List Nat}(h:st=poolN l k):pop l k (k::st)=poolN l (k+1)/\Stk (k+1) (k::st)/\(k::st)≠[]:=by
 subst h;exact⟨U,(a4u l k).1.push (a4u l k).2,by simp⟩
theorem e1l{l:List Int}{k:Nat}:∀(st:List Nat),(pop l k st).length<=st.length
 |[]=>Zd _
 |[_]=>Zd _
 |a::b::r=>by
  have:=e1l (l:=l) (k:=k) (b::r);rw[pop];split
  ·exact Zd _
  ·simp only[Zg]at this|-;omega
theorem a7x(l:List Int):∀k,(poolN l k).length<=k
 |0=>Zd _
 |k+1=>by
  have b:=a7x l k;have a:=e1l (l:=l) (k:=k) (k::poolN l k);rw[poolN];simp only[Zg]at a;omega
def bsE(l:List Int):List Int:=goO (poolN l l.length)++[(l.length:Int)]
theorem d8u(l:List Int):bsE l=(bsR l).map Int.ofNat++[(l.length:Int)]:=rfl
theorem b8b{l:List Int}{j:Nat}(h:j<(bsR l).length):(bsE l).getD j default=(((bsR l).getD j default:Nat):Int):=by
 rw[d8u,Zc,List.getElem?_append_left (by simpa using h),ZE,Zc,Ze h];rfl
theorem e0v{l:List Int}{j:Nat}(h:j<(bsR l).length):(bsE l).getD (j+1) default=((nxt (bsR l) l.length j:Nat):Int):=by
 unfold nxt;split
 ·rename_i a;exact b8b a
 ·rename_i a
  rw[d8u,Zc,List.getElem?_append_right (by simp;omega),show j+1-((bsR l).map Int.ofNat).length=0 by simp;omega];rfl
theorem a3w{l:List Int}{j:Nat}(h:j<(bsR l).length):((bsR l).map Int.ofNat).getD j default=(((bsR l).getD j default:Nat):Int):=by
 rw[Zc,ZE,Zc,Ze h];rfl
def prq(q:Rat):Int×Int:=(q.num,(q.den:Int))
def Lay(n:Nat)(qs:List Rat)(ps:List (Int×Int)):Prop:=qs.length<=n/\ps=qs.map prq++ZN (n-qs.length) (0,0)
theorem e9i(n:Nat):Lay n [] (ZN n (0,0)):=⟨Zt _,by simp⟩
theorem f0p{n x:Nat}{qs:List Rat}{ps:List (Int×Int)}(h:Lay n qs ps)(b:x=qs.length)(e:x<n)(q:Rat):Lay n (qs++[q]) (ps.set x (prq q)):=by
 obtain⟨c,a⟩:=h;subst b;refine⟨by simp;omega,?_⟩;obtain⟨m,hm⟩:∃m,n-qs.length=m+1:=⟨n-qs.length-1,by omega⟩;rw[a,hm,List.replicate_succ,List.set_append_right _ _ (by simp)];simp only[Zh,Nat.sub_self,List.set_cons_zero,ZZ,Zy,Yf,Zl,List.length_singleton,Ym,Zp,Zi];rw[show n-(qs.length+1)=m by omega]
theorem e2i{n:Nat}{qs:List Rat}{ps:List (Int×Int)}(h:Lay n qs ps):ps.length=n:=by
 obtain⟨b,a⟩:=h;rw[a];simp;omega
theorem f0q{n:Nat}{qs:List Rat}{ps:List (Int×Int)}(h:Lay n qs ps)(a:qs.length=n):ps=qs.map prq:=by
 rw[h.2,a,Nat.sub_self];simp
theorem c8y(l:List Int)(a:List Nat)(b:Nat)(m:Rat)(x:Nat)(c:a.getD b default<=x):spr l a b++ZN (x+1-a.getD b default) m=(spr l a b++ZN (x-a.getD b default) m)++[m]:=by
 rw[show x+1-a.getD b default=x-a.getD b default+1 by omega,List.replicate_succ',Ym]
abbrev wV(n:Int):AV:= .val (.int .u64 n)
theorem e7x{n:Nat}(h:n<4294967296):IntKind.u64.wrap ((Yv IntKind.u64.bits (n:Int)&&&Yv IntKind.u64.bits 4294967295).toNat)=(n:Int):=by
 have a:(Yv 64 (n:Int)).toNat=n:=by rw[BitVec.toNat_ofInt];omega
 have b:(Yv 64 4294967295).toNat=2^32-1:=by decide
 show IntKind.u64.wrap (((Yv 64 (n:Int)&&&Yv 64 4294967295).toNat:Nat):Int)=(n:Int);rw[BitVec.toNat_and,a,b,Nat.and_two_pow_sub_one_eq_mod,Nat.mod_eq_of_lt (by omega)];show(n:Int)%18446744073709551616=n;omega
theorem d2q{n:Nat}(h:n<4294967296):(n:Int).fdiv (2^(32:Int).toNat)=0:=by
 show(n:Int).fdiv 4294967296=0;rw[Int.fdiv_eq_ediv_of_nonneg _ (by decide)];omega
theorem a7w{n:Int}(h:0<=n/\n<=1000000):inI .u64 n:=⟨by show(0:Int)<=n;omega,by show n<=18446744073709551615;omega⟩
def Cps(n m:Nat)(xs:List Int):Prop:=m<=n/\xs=U6 m++ZN (n-m) 0
theorem e5h(n:Nat):Cps n 0 (ZN n 0):=⟨Zt _,by simp[U6]⟩
theorem d9y{n m:Nat}{xs:List Int}(h:Cps n m xs):xs.length=n:=by
 rw[h.2];simp;have:=h.1;omega
theorem f0y{n:Nat}{xs:List Int}(h:Cps n n xs):xs=U6 n:=by rw[h.2];simp
theorem d1k{n m k:Nat}{xs:List Int}(h:Cps n m xs)(e:m+k<=n):Cps n (m+k) (xs.take m++U6 k++xs.drop (m+k)):=by
 obtain⟨f,a⟩:=h;refine⟨e,?_⟩;have b:xs.take m=U6 m:=by rw[a,Xd (by simp),ZC (by simp)]
 have c:xs.drop (m+k)=ZN (n-(m+k)) 0:=by
  rw[a,List.drop_append,List.drop_of_length_le (by simp),Zi,List.drop_replicate];congr 1;simp;omega
 rw[b,c];congr 1;simp[U6,List.replicate_append_replicate]
theorem e3p{m k:Nat}(h:k<=m):(U6 m).take k=U6 k:=by simp[U6,Nat.min_eq_left h]
theorem e3t(n:Nat):a0u 1 5 (U6 n)=true:=by
 rw[T6];intro i a;rw[a4p (by simpa using a)];decide
theorem e2f{l:List Int}(h:∀j,j<l.length->-30<=l.getD j default/\l.getD j default<=30):a0u (-30) 30 l=true:=T6.2 h
theorem f0l{l:List Int}{i:Nat}(a:i<l.length)(h:¬(-30<=l.getD i default/\l.getD i default<=30)):vlo l=false:=by
 cases b:vlo l with
 |false=>rfl
 |true=>exact absurd ((a6e.1 b).2 _ (M7 a)) h
theorem c9r:∀{st:List Nat} {n:Nat},st.Pairwise (· > ·)->(∀x∈st,x<n)->st.length<=n
 |[],_,_,_=>Zt _
 |a::r,n,b,c=>by
  have f:=c9r (YA.1 b).2 (fun x e=>(YA.1 b).1 x e);have g:=c a (Zq ..);simp only[Zg];omega
def d6e:List AV->Option (AV×List (List AV))
 |[.val (.string s),.val (.string c)]=>(one? c).bind fun b=>if s.size<4294967281 then some (.tup [tV (kdC b s.data.toList),tV (rsC b s.data.toList),bV (decide ((kdC b s.data.toList).length<s.data.toList.length))],[])else none
 |_=>none
noncomputable def c7d:List AV->Option (AV×List (List AV))
 |[.list es]=>(unT es).bind fun ls=>if ls.length<=1048576/\∀l∈ls,l.length<=1048576 then some (tV (deskT ls),[])else none
 |_=>none
section
variable{cx:Cx}{keep:List Nat}{ops0:Array Oper}{r:List Oper}{A:Asr}{Q:Asr->List Log->Prop}{d:Nat}{ty:Nat}{pos:String}{aft:Array Edge}
theorem d2d{x:Operand}{T E id g i j n:Nat}(m:opd A x=some (.ptr id g none i j))(b:(tyS cx.P T).k= .array n E)(f:(tyS cx.P E).size=1)(c:slotOk keep (.t d) (.asl id g i j n)=true)
 (h:XR cx keep ops0 r ((.t d,.asl id g i j n)::A) fun a p=>Q a ((rds x,[.t d])::p)):XR cx keep ops0 (⟨some d,.slice T x none none none,ty,pos,aft,none⟩::r) A Q:=by
 refine K2 (v:= .asl id g i j n) (fun o e=>by simp only[aopV,e]) ?_ c h;simp only[opV,E3,E5 m,sliceA,b,f,F8,F4,and_self,Zm]
theorem a1u{T id g m s i j b g2 s2 n:Nat}{a x:Operand}{es ys:List AV}{e:AV}(w:opd A a=some (.ptr id g none i j))(G:opd A x=some (.sl b g2 none 0 n))(k:look A (.h id)=some (.obj g m s es))(he:es[i]? =some e)(o:look A (.h b)=some (.obj g2 0 s2 ys))
 (f:Mv.Loc.beq (.h id) (.h b)=false) (F:n=ys.length) (B:G3 ys=true) (hm:m≠2/\m≠3) (y:m=0->K7 (((leaves e).drop j).headD .undef)=false) (u:(tyS cx.P T).size=1) (C:j+1<=(leaves e).length)
 (z:W7 [.list (frzL ys)] ((leaves e).drop j)=true) (E:tRefsOk keep (keptWs keep [(.h b,.obj g2 2 s2 (frzL ys)),(.h id,.obj g m s (es.set i (putAt e j (.list (frzL ys)))))])=true)
 (h:XR cx keep ops0 r ((.h id,.obj g m s (es.set i (putAt e j (.list (frzL ys)))))::(.h b,.obj g2 2 s2 (frzL ys))::A) fun q H=>Q q ((rds a++(rds x++[.h id,.h id,.h b,.h id,.h id]),[.h b,.h id])::H)):
 XR cx keep ops0 (⟨none,.store T a x,ty,pos,aft,none⟩::r) A Q:=by
 have c:look (puts A [(.h b,.obj g2 2 s2 (frzL ys))]) (.h id)=some (.obj g m s es):=by
  show look (put A (.h b) _) (.h id)=_;rw[P4,f];exact k
 refine d8a (v:= .undef) (ws:=[(.h b,.obj g2 2 s2 (frzL ys)),(.h id,.obj g m s (es.set i (putAt e j (.list (frzL ys)))))]) (ls:=rds a++(rds x++[.h id,.h id,.h b,.h id,.h id])) U ?_ E (a2k _ _ _ _ _) h;simp only[aopV];refine A5 (E7 (by simp) (A5 (J6 w (A5 (J6 G (A5 ?_))))));unfold b3d;rw[if_pos (show b5a (.sl b g2 none 0 n)=true from U)];unfold b8m;refine A5 (K3 k ?_);dsimp only;rw[if_neg hm.2];unfold a6t;refine A5 (K3 k ?_);simp only[he,if_true];refine A5 ?_;simp only[absorb];unfold K0;simp only[hm.2,if_false];rw[if_neg (by rintro⟨t,-,-,p⟩;rw[y t]at p;cases p)];refine A5 (b1f o F B (C3 ?_));refine A5 (K3 c ?_);simp only[he];refine A5 (E7 (by refine⟨trivial,hm.1,by simpa[leaves]using u.symm,by simp[leaves],by simpa[leaves]using C,z,.inl trivial⟩) (A5 (I4 ?_)));simp only[wrNode];rw[M6 (v:= .obj g m s es) (by simpa[puts]using c)];simp only[F4];refine J5 (C3 ?_);exact⟨U,by simp,by simp⟩
theorem c1r{xs ys:List Int}{x y:Operand}{T T' E id g off n k:Nat}{b:AV}{lb:List Mv.Loc}(z:opd A x=some (.sl id g none off n))(B:opd A y=some b)(w:wpA (CW cx) A (slc b) fun a l=>a=ys.map iV/\l=lb)(o:look A (.h id)=some (.obj g 0 1 (xs.map iV)))
 (s:off+n<=xs.length) (q:k=min ys.length n) (hm:k<=H6) (m:Q2 cx.P T=some (E,1)) (i:slotOk keep (.h id) (.obj g 0 1 ((xs.take off++ys.take k++xs.drop (off+k)).map iV))=true)
 (h:XR cx keep ops0 r ((.t d,iV (k:Int))::(.h id,.obj g 0 1 ((xs.take off++ys.take k++xs.drop (off+k)).map iV))::A) fun p F=>Q p ((rds x++(rds y++(lb++[.h id,.h id])),[.h id,.t d])::F)):
 XR cx keep ops0 (⟨some d,.call ⟨.builtin .copy,#[x,y],#[T,T']⟩,ty,pos,aft,none⟩::r) A Q:=by
 have f:=c1v m;refine d8a (v:=iV (k:Int)) (ws:=[(.h id,.obj g 0 1 ((xs.take off++ys.take k++xs.drop (off+k)).map iV))]) (ls:=rds x++(rds y++(lb++[.h id,.h id]))) U ?_ (C7 i (I1 (by simp[slotOk,refOkV,refsOk]))) (a2k _ _ _ _ _) h;simp only[aopV];refine A5 (J6 z (A5 (J6 B ?_)));unfold e0h;refine A5 (T4 m (A5 (I4 (M2 ?_ w))));rintro _ _ ⟨rfl,rfl⟩;have u:d6p (ys.map iV)=true:=by
  unfold d6p;rw[List.all_map,Zu];exact fun _ _=>U
 have C:a3a (tyS cx.P E).size (ys.map iV)=true:=by
  rw[f];unfold a3a;rw[List.all_map,Zu];exact fun _ _=>U
 refine A5 (E7 ⟨u,C⟩ ?_);refine A5 (K3 o ?_);have c:min (ys.map iV).length n=k:=by rw[Zh,q]
 simp only[c];have j:d7h (((xs.map iV).drop off).take k)=true:=by
  unfold d7h;rw[Zu];intro e he;have:=List.mem_of_mem_drop (List.mem_of_mem_take he);obtain⟨n,_,rfl⟩:=ZG.1 this
  rfl
 refine A5 (E7 ⟨by decide,U,by simpa using s,f.symm,j,hm⟩ (A5 (I4 ?_)));simp only[wrNode];rw[M6 (v:= .obj g 0 1 (xs.map iV)) (by exact o)];simp only[F4];refine A5 (J5 (C3 ?_));refine⟨U,?_,by simp⟩;simp only[Zi,Zm,ZZ,List.map_take,List.map_drop]
theorem e8n{es:List AV}:wpA (CW cx) A (slc (.list es)) fun a l=>a=es/\l=[]:=⟨rfl,rfl⟩
theorem f4s{id g n m s:Nat}{xs:List Int}(e:look A (.h id)=some (.obj g m s (xs.map iV)))(b:bxB m none=false)(c:n<=xs.length):wpA (CW cx) A (slc (.sl id g none 0 n)) fun a l=>a=(xs.take n).map iV/\l=[.h id]:=by
 simp only[slc,rdNode,E3,M6 e,F8,F4,b,Zh,ZI,c,List.drop_zero,List.map_take,Zm,and_self]
end
theorem b5n{A:Asr}{C:Caller}{md id g i j n m s:Nat}{es fs a:List AV}{e:AV}{k:List Mv.Loc}(b:md=0)(p:look A (.h id)=some (.obj g m s es))(he:es[i]? =some e)(o:j+n<=(leaves e).length)(c:((leaves e).drop j).take n=fs)(f:X5 C A fs a k):
 N0 C A md (.asl id g i j n) (.list a) ((id,false)::slIds false fs) [] (.h id::k):=by
 subst b;unfold X5 at f;unfold N0 a4o;refine A5 (E7 U (A5 (I4 ?_)));show wpA C A _ _;simp only[rdNode,E3,M6 p,F8,F4,true_and,he];refine A5 (E7 o (A5 (I4 (M2 ?_ (by rw[c];exact f)))));rintro x l ⟨rfl,rfl⟩;rw[c];exact C3 ⟨U,U,by simp⟩
theorem f1u(n:Nat):Cps n (min 1 n) ((ZN n 0).take 0++([1]:List Int).take (min 1 n)++(ZN n 0).drop (0+min 1 n)):=by
 have h:=d1k (e5h n) (k:=min 1 n) (by omega);rw[ZI]at h|-;have e:([1]:List Int).take (min 1 n)=U6 (min 1 n):=by
  rcases Nat.eq_zero_or_pos n with rfl|a
  ·rfl
  ·rw[Nat.min_eq_left a];rfl
 rwa[e]
theorem e8a{n m k:Nat}{xs:List Int}(h:Cps n m xs)(b:k=min (xs.take m).length (n-m)):Cps n (m+k) (xs.take m++(xs.take m).take k++xs.drop (m+k)):=by
 have g:=d9y h;have c:=h.1;rw[ZU]at b;have e:xs.take m=U6 m:=by rw[h.2,Xd (by simp),ZC (by simp)]
 have f:=d1k h (k:=k) (by omega);have a:(xs.take m).take k=U6 k:=by rw[e,e3p (by omega)]
 rwa[a]
def n4(C:List (List Int)):List (List Int):=(List.range 4).map fun i=>C.getD i default
theorem f3p(C:List (List Int)):(n4 C).length=4:=rfl
theorem f4o{C:List (List Int)}(a:C.length<=4)(k:Nat):(n4 C).getD k default=C.getD k default:=by
 unfold n4;rw[Zc,ZE];rcases Nat.lt_or_ge k 4 with h|h
 ·rw[List.getElem?_range h];rfl
 ·rw[ZO (by simpa using h),Zc,ZO (by omega)];rfl
theorem f5q{C:List (List Int)}(h:C.length=4):n4 C=C:=by
 match C,h with
 |[a,b,c,d],_=>rfl
theorem f1y{C:List (List Int)}{i:Nat}(h:i<4):(n4 C).take i++[C.getD i default]=(n4 C).take (i+1):=by
 unfold n4
 match i,h with
 |0,_=>rfl
 |1,_=>rfl
 |2,_=>rfl
 |3,_=>rfl
theorem d8k{C:List (List Int)}(h:vcs C=true):vcs (n4 C)=true:=by
 refine a1k.2 ⟨fun c a=> ?_,by rw[f3p];exact Zd _⟩;obtain⟨i,_,rfl⟩:=ZG.1 a;rcases Nat.lt_or_ge i C.length with e|e
 ·exact(a1k.1 h).1 _ (L8 e)
 ·rw[Zc,ZO e];rfl
theorem e1o{C:List (List Int)}{k:Nat}{ns:List Int}(h:vcs C=true)(b:vd ns=true):vcs (C.set k ns)=true:=by
 refine a1k.2 ⟨fun c a=> ?_,by rw[List.length_set];exact(a1k.1 h).2⟩;rcases List.mem_or_eq_of_mem_set a with e|rfl
 ·exact(a1k.1 h).1 c e
 ·exact b
theorem b7c{C:List (List Int)}(a:C.length<=4):∀t:Pl,runP (n4 C) t=runP C t
 | .lst ns=>rfl
 | .col w=>by rw[runP,runP,f4o a]
 | .un w p=>by rw[runP,runP,b7c a p]
 | .bin w p q=>by rw[runP,runP,b7c a p,b7c a q]
theorem e1j{C:List (List Int)}(h:vcs C=true)(s:W8):runT (n4 C) s=runT C s:=by
 rw[runT,runT,if_pos (d8k h),if_pos h];cases rdPlan s with
 |none=>rfl
 |some t=>exact b7c (a1k.1 h).2 t
section
variable{D:List (List Int)}{l:W8}
theorem Q0(h:¬((kdL l).length<l.length/\inW (kdL l)=true)):deskL D l=(wWhat,D):=by rw[deskL,if_neg h]
theorem a1p(a:(kdL l).length<l.length)(b:inW (kdL l)=true)(c:(rdPlan (rsL l)).isSome=false):deskL D l=(wWrong,D):=by
 rw[deskL,if_pos ⟨a,b⟩,if_neg (by simp[c])]
theorem Z7(b:(kdL l).length<l.length)(a:kdL l=wBetter)(c:(rdPlan (rsL l)).isSome=true):deskL D l=(d1l (rsL l),D):=by
 rw[deskL,if_pos ⟨b,by rw[a];rfl⟩,if_pos c,if_pos a]
theorem a2t(b:(kdL l).length<l.length)(a:kdL l=wCost)(c:(rdPlan (rsL l)).isSome=true):deskL D l=(dec (a9v (rsL l)),D):=by
 rw[deskL,if_pos ⟨b,by rw[a];rfl⟩,if_pos c,if_neg (by rw[a];decide),if_pos a]
theorem a2v(a:(kdL l).length<l.length)(b:inW (kdL l)=true)(e:kdL l≠wBetter)(f:kdL l≠wCost)(c:runT D (rsL l)=none):deskL D l=(wWrong,D):=by
 rw[deskL,if_pos ⟨a,b⟩,if_neg e,if_neg f,c];split<;>rfl
theorem a7q{s:W8}{ns:List Int}(h:runT D s=some ns):(rdPlan s).isSome=true:=by
 cases e:rdPlan s with
 |none=>rw[b8f (.inl (by rw[e];rfl))]at h;cases h
 |some t=>rfl
def one4(k:Nat):W8:=[UInt8.ofNat (97+k)]
theorem b7p{k:Nat}(a:k<4):inW (one4 k)=true/\one4 k≠wBetter/\one4 k≠wCost/\((one4 k).getD 0 0).toNat-97=k:=by
 match k,a with
 |0,_=>exact⟨U,by decide,by decide,U⟩
 |1,_=>exact⟨U,by decide,by decide,U⟩
 |2,_=>exact⟨U,by decide,by decide,U⟩
 |3,_=>exact⟨U,by decide,by decide,U⟩
theorem T9{k:Nat}{ns:List Int}(h:(kdL l).length<l.length)(i:k<4)(a:kdL l=one4 k)(b:runT D (rsL l)=some ns)(j:vd ns=true):deskL D l=(wDone,D.set k ns):=by
 obtain⟨c,e,f,g⟩:=b7p i;rw[deskL,if_pos ⟨h,by rw[a];exact c⟩,if_pos (a7q b),if_neg (by rw[a];exact e),if_neg (by rw[a];exact f),b,a];simp only;rw[if_pos (show(one4 k).length=1 from U),if_pos j,g]
theorem a9o{k:Nat}{ns:List Int}(g:(kdL l).length<l.length)(h:k<4)(a:kdL l=one4 k)(b:runT D (rsL l)=some ns)(i:¬vd ns=true):deskL D l=(wWrong,D):=by
 obtain⟨c,e,f,j⟩:=b7p h;rw[deskL,if_pos ⟨g,by rw[a];exact c⟩,if_pos (a7q b),if_neg (by rw[a];exact e),if_neg (by rw[a];exact f),b,a];simp only;rw[if_pos (show(one4 k).length=1 from U),if_neg i]
def b3u(w:W8):Prop:=w=c5b\/w=a3r\/w=b8y\/w=c1t\/w=c5k
theorem b7e{w:W8}(h:b3u w):inW w=true/\w≠wBetter/\w≠wCost/\w.length≠1:=by
 rcases h with rfl|rfl|rfl|rfl|rfl<;>exact⟨U,by decide,by decide,by decide⟩
theorem S1{ns:List Int}(g:(kdL l).length<l.length)(h:b3u (kdL l))(a:runT D (rsL l)=some ns):deskL D l=(if(X0 (kdL l) ns).2=true then((X0 (kdL l) ns).1,D)else(wWrong,D)):=by
 obtain⟨b,c,e,f⟩:=b7e h;rw[deskL,if_pos ⟨g,b⟩,if_pos (a7q a),if_neg c,if_neg e,a];simp only;rw[if_neg f]
theorem b3r{w:W8}(h:inW w=true):(∃k,k<4/\w=one4 k)\/w=wBetter\/w=wCost\/b3u w:=by
 unfold inW c6a at h;simp only[List.any_cons,List.any_nil,Bool.or_false,Bool.or_eq_true,decide_eq_true_eq]at h;unfold b3u;rcases h with h|h|h|h|h|h|h
 ·exact .inl ⟨0,by decide,h⟩
 ·exact .inl ⟨1,by decide,h⟩
 ·exact .inl ⟨2,by decide,h⟩
 ·exact .inl ⟨3,by decide,h⟩
 ·exact .inr (.inl h)
 ·exact .inr (.inr (.inl h))
 ·exact .inr (.inr (.inr h))
theorem d8e{w:W8}(a:∀k,k<4->w≠one4 k)(b:w≠wBetter)(c:w≠wCost)(f:¬b3u w):inW w=false:=by
 cases h:inW w with
 |false=>rfl
 |true=>
  rcases b3r h with⟨k,g,e⟩|e|e|e
  ·exact absurd e (a k g)
  ·exact absurd e b
  ·exact absurd e c
  ·exact absurd e f
end
theorem c5f{ls:List W8}(h:¬ls.length<=20):deskT ls=[]:=by rw[deskT,if_neg h]
noncomputable def a8k:List (List Int)->List W8->List (List Int)
 |C,[]=>C
 |C,l::ls=>a8k (deskL C l).2 ls
theorem b0h:∀(a:List W8) (l:W8) (C:List (List Int)),a1x C (a++[l])=a1x C a++((deskL (a8k C a) l).1++[10])
 |[],l,C=>by rw[Zi,a1x,a1x,a1x,a8k];simp
 |x::a,l,C=>by
  rw[Zp,a1x,a1x,b0h a l,a8k];simp
theorem b0k:∀(a:List W8) (l:W8) (C:List (List Int)),a8k C (a++[l])=(deskL (a8k C a) l).2
 |[],l,C=>rfl
 |x::a,l,C=>by rw[Zp,a8k,b0k a l,a8k]
theorem f3r{w:W8}(a:¬w=[97])(b:¬w=[98])(c:¬w=[99])(e:¬w=[100]):∀k,k<4->w≠one4 k
 |0,_=>a
 |1,_=>b
 |2,_=>c
 |3,_=>e
theorem e3i{k:Nat}(a:k<4):(((one4 k).getD 0 0).toNat:Int)=((97+k:Nat):Int):=by
 match k,a with
 |0,_=>rfl
 |1,_=>rfl
 |2,_=>rfl
 |3,_=>rfl
theorem f5w{i:Nat}(h:i<4):tV ((([97,98,99,100]:W8).drop i).take (i+1-i))=sV (e4f i):=by
 match i,h with
 |0,_=>rfl
 |1,_=>rfl
 |2,_=>rfl
 |3,_=>rfl
theorem e1h{C:List (List Int)}{k:Nat}(ns:List Int):(C.map lF).set k (putAt (lF (C.getD k default)) 0 (.list (frzL (ns.map iV))))=(C.set k ns).map lF:=by
 rw[O3 fun _=>U,List.map_set];rfl
theorem d5p{w:W8}(h:inW w=true)(a:w.length=1):∃k,k<4/\w=one4 k:=by
 rcases b3r h with h|h|h|h
 ·exact h
 ·rw[h]at a;cases a
 ·rw[h]at a;cases a
 ·exact absurd a (b7e h).2.2.2
theorem a8v{w:W8}(h:inW w=true)(b:w≠wBetter)(c:w≠wCost)(a:w.length≠1):b3u w:=by
 rcases b3r h with⟨k,_,e⟩|h|h|h
 ·rw[e]at a;exact absurd U a
 ·exact absurd h b
 ·exact absurd h c
 ·exact h
theorem d9z{w:W8}{ns:List Int}(a:w≠c5b)(b:w=a3r->ns.length=0)(c:w=b8y->¬vlo ns=true)(f:w=c1t->¬vd ns=true)(g:w=c5k->¬vo ns=true):(X0 w ns).2=false:=by
 unfold X0;rw[if_neg a];split
 ·rename_i e;rw[if_pos (b e)]
 split
 ·rename_i e;simp[b1t (c e)]
 split
 ·rename_i e;simp[d7f (f e)]
 split
 ·rename_i e;simp[sdR,g e]
 ·rfl
theorem c4u(ns:List Int):X0 c5b ns=(O6 ns,true):=rfl
theorem b5m{ns:List Int}(h:¬ns.length=0):X0 a3r ns=(frT (Rat.divInt (mdI ns) 2),true):=by
 rw[X0,if_neg (by decide),if_pos U,if_neg h]
theorem c5e(ns:List Int):X0 b8y ns=(frsT (riseQ ns),decide (0<(riseQ ns).length)):=rfl
theorem c5q(ns:List Int):X0 c1t ns=(slT (flX ns),decide (0<(flX ns).2)):=rfl
theorem c5w(ns:List Int):X0 c5k ns=(O6 (sdR ns),decide (0<(sdR ns).length)):=rfl
theorem b3x{ns:List Int}(h:vl ns=true):∀n∈ns,-100000<=n/\n<=100000:=fun n a=>c0m (P7.1 h).2 a
theorem e7s{ns:List Int}(h:vl ns=true):∀n∈ns,-1000000<=n/\n<=1000000:=fun n a=>by have:=b3x h n a;omega
theorem d6v{l:List Int}:∀n∈sdR l,-1000000<=n/\n<=1000000:=by
 intro n a;unfold sdR at a;split at a
 ·obtain⟨i,_,rfl⟩:=ZG.1 a
  have:=d0f (l:=l) (i:=i) l.length;unfold sdv;omega
 ·cases a
theorem d7g(l:List Int): -1000000<=(flX l).1/\(flX l).1<=1000000/\-1000000<=(flX l).2/\(flX l).2<=1000000:=by
 unfold flX;split
 ·rename_i h
  have a:=a4j h;have b:=c9h l l.sum;have c:2^l.length<=1024:=Ye (Nat.pow_le_pow_right (by decide) a) (by decide);simp only;omega
 ·decide
theorem d7w{ns:List Int}(a:vl ns=true)(h:¬ns.length=0):Sm 1000000 (Rat.divInt (mdI ns) 2):=by
 have:=d5y (l:=ns) (by omega) (b3x a);exact Sm.fr (by decide) (by omega) (by decide)
theorem b7q{l:List Int}:∀q∈riseQ l,Sm 1000000 q:=fun q hq=>(e6d q hq).mono (by decide)
theorem c6h(l:List Int):(riseQ l).length<=8:=by
 by_cases h:vlo l=true
 ·rw[c5c h];exact(a6e.1 h).1.2
 ·rw[b1t h];exact Zt _
theorem e7u{w:W8}{ns:List Int}(c:vl ns=true):(X0 w ns).1.length<=1000:=by
 have i:=(P7.1 c).1;unfold X0;split
 ·have:=Z6 (e7s c);simp only;omega
 split
 ·split
  ·exact Zt _
  ·have:=b8e (d7w c (by assumption));simp only;omega
 split
 ·have a:=b8p (qs:=riseQ ns) b7q
  have b:=c6h ns;simp only;omega
 split
 ·obtain⟨a,b,e,f⟩:=d7g ns
  have g:=L4 ⟨a,b⟩;have h:=L4 ⟨e,f⟩;simp only[slT,Zl,Zg,Zs];omega
 split
 ·have a:=Z6 (ns:=sdR ns) d6v
  have b:=c9q ns;simp only;omega
 ·exact Zt _
theorem e1t{D:List (List Int)}{s:W8}{ns:List Int}(a:vcs D=true)(h:runT D s=some ns):vl ns=true:=by
 cases e:rdPlan s with
 |none=>rw[b8f (.inl (by rw[e];rfl))]at h;cases h
 |some t=>rw[a9d a e]at h;exact a7r a (a1f e).2.2.1 h
theorem e1m(s:W8): -1000000<=a9v s/\a9v s<=1000000:=by
 cases e:rdPlan s with
 |none=>rw[b8h (by rw[e];rfl)];decide
 |some t=>
  have a:=S0 t;have b:=(a1f e).2.2.2.2;rw[a5t e];omega
theorem f1f(s:W8):(d1l s).length<=1600:=by
 cases e:rdPlan s with
 |none=>rw[c4n (by rw[e];rfl)];exact Zt _
 |some t=>
  obtain⟨b,hw,a,c,f⟩:=a1f e;have g:=U9 (d7l hw) (c0q hw a);have h:=d9n hw;rw[a9a e];omega
theorem b3n{D:List (List Int)}(b:vcs D=true)(l:W8):(deskL D l).1.length<=2000:=by
 unfold deskL;split
 ·split
  ·split
   ·exact Ye (f1f _) (by decide)
   split
   ·exact Ye (L4 (e1m _)) (by decide)
   split
   ·exact(by decide:(wWrong:W8).length<=2000)
   ·rename_i ns a
    split
    ·split
     ·exact(by decide:(wDone:W8).length<=2000)
     ·exact(by decide:(wWrong:W8).length<=2000)
    ·split
     ·exact Ye (e7u (e1t b a)) (by decide)
     ·exact(by decide:(wWrong:W8).length<=2000)
  ·exact(by decide:(wWrong:W8).length<=2000)
 ·exact(by decide:(wWhat:W8).length<=2000)
theorem c5i{D:List (List Int)}(a:vcs D=true)(l:W8):vcs (deskL D l).2=true:=by
 unfold deskL;split
 ·split
  ·split
   ·exact a
   split
   ·exact a
   split
   ·exact a
   ·split
    ·split
     ·rename_i h
      exact e1o a h
     ·exact a
    ·split<;>exact a
  ·exact a
 ·exact a
theorem b4n:∀(ls:List W8) {C:List (List Int)},vcs C=true->(a1x C ls).length<=2001*ls.length
 |[],_,_=>Zt _
 |l::ls,C,h=>by
  have a:=b3n h l;have b:=b4n ls (c5i h l);rw[a1x];simp only[Zl,Zg,Zs];omega
theorem e5v{ws:List W8}{q:W8->Bool}{i:Nat}(a:i<ws.length)(h:q (ws.getD i default)=true):decide (0<=(i:Int))=ws.any q:=by
 rw[decide_eq_true (Int.natCast_nonneg i),eq_comm,List.any_eq_true];exact⟨_,L8 a,h⟩
theorem e3v{ws:List W8}{q:W8->Bool}(h:∀j,j<ws.length->q (ws.getD j default)=false):decide (0<=(-1:Int))=ws.any q:=by
 rw[eq_comm,decide_eq_false (by decide),List.any_eq_false];intro x b;obtain⟨j,a,rfl⟩:=List.mem_iff_getElem.1 b;have:=h j a;rw[Zc,Ze a]at this;simpa using this
end Go.Mv
end
