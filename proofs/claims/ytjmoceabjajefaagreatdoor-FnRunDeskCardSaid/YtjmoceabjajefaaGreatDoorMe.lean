/- The abstract machine, part 5 of 5: it runs the model's code on abstract values and is proved sound over any program. Conditions: none. -/
import Derived.Test.YtjmoceabjajefaaGreatDoorMd
set_option linter.unusedVariables false
set_option linter.unusedSimpArgs false
open List renaming append_nil→Zm, all_eq_true→Zt, length_map→Zi, mem_map→ZI, nil_append→Zj, replicate→ZP, length_take→ZH, getD_eq_getElem?_getD→Zc, getElem?_eq_none→ZQ, mem_cons_self→Zr, mem_append→ZF, mem_cons→ZM, mem_singleton→Ye, cons_append→Zp, countP_append→YP, length_cons→Ze, length_append→Zf, length_nil→Zo
open Nat renaming zero_add→ZL, le_trans→Yg, zero_le→Zv
section
namespace Go.Mv
open Go
section
variable{cx:Cx}{keep:List Nat}{ops0:Array Oper}{r:List Oper}{A:Asr}{Q:Asr->List Log->Prop}{d:Nat}{ty:Nat}{pos:String}{aft:Array Edge}
theorem d2y{x:Operand}{T E id g i j n:Nat}(m:opd A x=some (.ptr id g none i j))(b:(tyS cx.P T).k= .array n E)(f:(tyS cx.P E).size=1)(c:slotOk keep (.t d) (.asl id g i j n)=true)
 (h:XR cx keep ops0 r ((.t d,.asl id g i j n)::A) fun a p=>Q a ((rds x,[.t d])::p)):XR cx keep ops0 (⟨some d,.slice T x none none none,ty,pos,aft,none⟩::r) A Q:=by
 refine K8 (v:= .asl id g i j n) (fun o e=>by simp only[aopV,e]) ?_ c h;simp only[opV,E4,E5 m,sliceA,b,f,F8,F3,and_self,Zm]
theorem a2d{T id g m s i j b g2 s2 n:Nat}{a x:Operand}{es ys:List AV}{e:AV}(w:opd A a=some (.ptr id g none i j))(G:opd A x=some (.sl b g2 none 0 n))(k:look A (.h id)=some (.obj g m s es))(he:es[i]? =some e)(o:look A (.h b)=some (.obj g2 0 s2 ys))
 (f:Mv.Loc.beq (.h id) (.h b)=false) (F:n=ys.length) (B:G4 ys=true) (hm:m≠2/\m≠3) (y:m=0->L4 (((leaves e).drop j).headD .undef)=false) (u:(tyS cx.P T).size=1) (C:j+1<=(leaves e).length)
 (z:X9 [.list (frzL ys)] ((leaves e).drop j)=true) (E:tRefsOk keep (keptWs keep [(.h b,.obj g2 2 s2 (frzL ys)),(.h id,.obj g m s (es.set i (putAt e j (.list (frzL ys)))))])=true)
 (h:XR cx keep ops0 r ((.h id,.obj g m s (es.set i (putAt e j (.list (frzL ys)))))::(.h b,.obj g2 2 s2 (frzL ys))::A) fun q H=>Q q ((rds a++(rds x++[.h id,.h id,.h b,.h id,.h id]),[.h b,.h id])::H)):
 XR cx keep ops0 (⟨none,.store T a x,ty,pos,aft,none⟩::r) A Q:=by
 have c:look (puts A [(.h b,.obj g2 2 s2 (frzL ys))]) (.h id)=some (.obj g m s es):=by
  show look (put A (.h b) _) (.h id)=_;rw[Q1,f];exact k
 refine d8w (v:= .undef) (ws:=[(.h b,.obj g2 2 s2 (frzL ys)),(.h id,.obj g m s (es.set i (putAt e j (.list (frzL ys)))))]) (ls:=rds a++(rds x++[.h id,.h id,.h b,.h id,.h id])) U ?_ E (a2v _ _ _ _ _) h;simp only[aopV];refine A5 (E9 (by simp) (A5 (K3 w (A5 (K3 G (A5 ?_))))));unfold b3k;rw[if_pos (show b5h (.sl b g2 none 0 n)=true from U)];unfold b8z;refine A5 (K1 k ?_);dsimp only;rw[if_neg hm.2];unfold a7d;refine A5 (K1 k ?_);simp only[he,if_true];refine A5 ?_;simp only[absorb];unfold K7;simp only[hm.2,if_false];rw[if_neg (by rintro⟨t,-,-,p⟩;rw[y t]at p;cases p)];refine A5 (b1q o F B (C3 ?_));refine A5 (K1 c ?_);simp only[he];refine A5 (E9 (by refine⟨trivial,hm.1,by simpa[leaves]using u.symm,by simp[leaves],by simpa[leaves]using C,z,.inl trivial⟩) (A5 (I7 ?_)));simp only[wrNode];rw[N1 (v:= .obj g m s es) (by simpa[puts]using c)];simp only[F3];refine J6 (C3 ?_);exact⟨U,by simp,by simp⟩
theorem c2j{xs ys:List Int}{x y:Operand}{T T' E id g off n k:Nat}{b:AV}{lb:List Mv.Loc}(z:opd A x=some (.sl id g none off n))(B:opd A y=some b)(w:wpA (CW cx) A (slc b) fun a l=>a=ys.map iV/\l=lb)(o:look A (.h id)=some (.obj g 0 1 (xs.map iV)))
 (s:off+n<=xs.length) (q:k=min ys.length n) (hm:k<=H0) (m:Q8 cx.P T=some (E,1)) (i:slotOk keep (.h id) (.obj g 0 1 ((xs.take off++ys.take k++xs.drop (off+k)).map iV))=true)
 (h:XR cx keep ops0 r ((.t d,iV (k:Int))::(.h id,.obj g 0 1 ((xs.take off++ys.take k++xs.drop (off+k)).map iV))::A) fun p F=>Q p ((rds x++(rds y++(lb++[.h id,.h id])),[.h id,.t d])::F)):
 XR cx keep ops0 (⟨some d,.call ⟨.builtin .copy,#[x,y],#[T,T']⟩,ty,pos,aft,none⟩::r) A Q:=by
 have f:=c2n m;refine d8w (v:=iV (k:Int)) (ws:=[(.h id,.obj g 0 1 ((xs.take off++ys.take k++xs.drop (off+k)).map iV))]) (ls:=rds x++(rds y++(lb++[.h id,.h id]))) U ?_ (C6 i (I4 (by simp[slotOk,refOkV,refsOk]))) (a2v _ _ _ _ _) h;simp only[aopV];refine A5 (K3 z (A5 (K3 B ?_)));unfold e1d;refine A5 (U0 m (A5 (I7 (N5 ?_ w))));rintro _ _ ⟨rfl,rfl⟩;have u:d7m (ys.map iV)=true:=by
  unfold d7m;rw[List.all_map,Zt];exact fun _ _=>U
 have C:a3n (tyS cx.P E).size (ys.map iV)=true:=by
  rw[f];unfold a3n;rw[List.all_map,Zt];exact fun _ _=>U
 refine A5 (E9 ⟨u,C⟩ ?_);refine A5 (K1 o ?_);have c:min (ys.map iV).length n=k:=by rw[Zi,q]
 simp only[c];have j:d8f (((xs.map iV).drop off).take k)=true:=by
  unfold d8f;rw[Zt];intro e he;have:=List.mem_of_mem_drop (List.mem_of_mem_take he);obtain⟨n,_,rfl⟩:=ZI.1 this
  rfl
 refine A5 (E9 ⟨by decide,U,by simpa using s,f.symm,j,hm⟩ (A5 (I7 ?_)));simp only[wrNode];rw[N1 (v:= .obj g 0 1 (xs.map iV)) (by exact o)];simp only[F3];refine A5 (J6 (C3 ?_));refine⟨U,?_,by simp⟩;simp only[Zj,Zm,List.map_append,List.map_take,List.map_drop]
theorem e9m{es:List AV}:wpA (CW cx) A (slc (.list es)) fun a l=>a=es/\l=[]:=⟨rfl,rfl⟩
theorem f6a{id g n m s:Nat}{xs:List Int}(e:look A (.h id)=some (.obj g m s (xs.map iV)))(b:bxB m none=false)(c:n<=xs.length):wpA (CW cx) A (slc (.sl id g none 0 n)) fun a l=>a=(xs.take n).map iV/\l=[.h id]:=by
 simp only[slc,rdNode,E4,N1 e,F8,F3,b,Zi,ZL,c,List.drop_zero,List.map_take,Zm,and_self]
end
theorem b5u{A:Asr}{C:Caller}{md id g i j n m s:Nat}{es fs a:List AV}{e:AV}{k:List Mv.Loc}(b:md=0)(p:look A (.h id)=some (.obj g m s es))(he:es[i]? =some e)(o:j+n<=(leaves e).length)(c:((leaves e).drop j).take n=fs)(f:Y5 C A fs a k):
 L9 C A md (.asl id g i j n) (.list a) ((id,false)::slIds false fs) [] (.h id::k):=by
 subst b;unfold Y5 at f;unfold L9 a3k;refine A5 (E9 U (A5 (I7 ?_)));show wpA C A _ _;simp only[rdNode,E4,N1 p,F8,F3,true_and,he];refine A5 (E9 o (A5 (I7 (N5 ?_ (by rw[c];exact f)))));rintro x l ⟨rfl,rfl⟩;rw[c];exact C3 ⟨U,U,by simp⟩
theorem f2y(n:Nat):Cps n (min 1 n) ((ZP n 0).take 0++([1]:List Int).take (min 1 n)++(ZP n 0).drop (0+min 1 n)):=by
 have h:=d2f (e6g n) (k:=min 1 n) (by omega);rw[ZL]at h|-;have e:([1]:List Int).take (min 1 n)=V6 (min 1 n):=by
  rcases Nat.eq_zero_or_pos n with rfl|a
  ·rfl
  ·rw[Nat.min_eq_left a];rfl
 rwa[e]
theorem e8z{n m k:Nat}{xs:List Int}(h:Cps n m xs)(b:k=min (xs.take m).length (n-m)):Cps n (m+k) (xs.take m++(xs.take m).take k++xs.drop (m+k)):=by
 have g:=e0u h;have c:=h.1;rw[ZH]at b;have e:xs.take m=V6 m:=by rw[h.2,List.take_append_of_le_length (by simp),List.take_of_length_le (by simp)]
 have f:=d2f h (k:=k) (by omega);have a:(xs.take m).take k=V6 k:=by rw[e,e4o (by omega)]
 rwa[a]
def n4(C:List (List Int)):List (List Int):=(List.range 4).map fun i=>C.getD i default
theorem f4v(C:List (List Int)):(n4 C).length=4:=rfl
theorem f5w{C:List (List Int)}(a:C.length<=4)(k:Nat):(n4 C).getD k default=C.getD k default:=by
 unfold n4;rw[Zc,List.getElem?_map];rcases Nat.lt_or_ge k 4 with h|h
 ·rw[List.getElem?_range h];rfl
 ·rw[ZQ (by simpa using h),Zc,ZQ (by omega)];rfl
theorem f6z{C:List (List Int)}(h:C.length=4):n4 C=C:=by
 match C,h with
 |[a,b,c,d],_=>rfl
theorem f3c{C:List (List Int)}{i:Nat}(h:i<4):(n4 C).take i++[C.getD i default]=(n4 C).take (i+1):=by
 unfold n4
 match i,h with
 |0,_=>rfl
 |1,_=>rfl
 |2,_=>rfl
 |3,_=>rfl
theorem d9f{C:List (List Int)}(h:vcs C=true):vcs (n4 C)=true:=by
 refine a1s.2 ⟨fun c a=> ?_,by rw[f4v];exact Nat.le_refl _⟩;obtain⟨i,_,rfl⟩:=ZI.1 a;rcases Nat.lt_or_ge i C.length with e|e
 ·exact(a1s.1 h).1 _ (N2 e)
 ·rw[Zc,ZQ e];rfl
theorem e2k{C:List (List Int)}{k:Nat}{ns:List Int}(h:vcs C=true)(b:vd ns=true):vcs (C.set k ns)=true:=by
 refine a1s.2 ⟨fun c a=> ?_,by rw[List.length_set];exact(a1s.1 h).2⟩;rcases List.mem_or_eq_of_mem_set a with e|rfl
 ·exact(a1s.1 h).1 c e
 ·exact b
theorem b7l{C:List (List Int)}(a:C.length<=4):∀t:Pl,runP (n4 C) t=runP C t
 | .lst ns=>rfl
 | .col w=>by rw[runP,runP,f5w a]
 | .un w p=>by rw[runP,runP,b7l a p]
 | .bin w p q=>by rw[runP,runP,b7l a p,b7l a q]
theorem e2f{C:List (List Int)}(h:vcs C=true)(s:W8):runT (n4 C) s=runT C s:=by
 rw[runT,runT,if_pos (d9f h),if_pos h];cases rdPlan s with
 |none=>rfl
 |some t=>exact b7l (a1s.1 h).2 t
section
variable{D:List (List Int)}{l:W8}
theorem Q6(h:¬((kdL l).length<l.length/\inW (kdL l)=true)):deskL D l=(wWhat,D):=by rw[deskL,if_neg h]
theorem a1w(a:(kdL l).length<l.length)(b:inW (kdL l)=true)(c:(rdPlan (rsL l)).isSome=false):deskL D l=(wWrong,D):=by
 rw[deskL,if_pos ⟨a,b⟩,if_neg (by simp[c])]
theorem a0g(b:(kdL l).length<l.length)(a:kdL l=wBetter)(c:(rdPlan (rsL l)).isSome=true):deskL D l=(c7m (rsL l),D):=by
 rw[deskL,if_pos ⟨b,by rw[a];rfl⟩,if_pos c,if_pos a]
theorem a3e(b:(kdL l).length<l.length)(a:kdL l=wCost)(c:(rdPlan (rsL l)).isSome=true):deskL D l=(dec (b0e (rsL l)),D):=by
 rw[deskL,if_pos ⟨b,by rw[a];rfl⟩,if_pos c,if_neg (by rw[a];decide),if_pos a]
theorem a3g(a:(kdL l).length<l.length)(b:inW (kdL l)=true)(e:kdL l≠wBetter)(f:kdL l≠wCost)(c:runT D (rsL l)=none):deskL D l=(wWrong,D):=by
 rw[deskL,if_pos ⟨a,b⟩,if_neg e,if_neg f,c];split<;>rfl
theorem a8a{s:W8}{ns:List Int}(h:runT D s=some ns):(rdPlan s).isSome=true:=by
 cases e:rdPlan s with
 |none=>rw[b8r (.inl (by rw[e];rfl))]at h;cases h
 |some t=>rfl
def one4(k:Nat):W8:=[UInt8.ofNat (97+k)]
theorem b8a{k:Nat}(a:k<4):inW (one4 k)=true/\one4 k≠wBetter/\one4 k≠wCost/\((one4 k).getD 0 0).toNat-97=k:=by
 match k,a with
 |0,_=>exact⟨U,by decide,by decide,U⟩
 |1,_=>exact⟨U,by decide,by decide,U⟩
 |2,_=>exact⟨U,by decide,by decide,U⟩
 |3,_=>exact⟨U,by decide,by decide,U⟩
theorem U6{k:Nat}{ns:List Int}(h:(kdL l).length<l.length)(i:k<4)(a:kdL l=one4 k)(b:runT D (rsL l)=some ns)(j:vd ns=true):deskL D l=(wDone,D.set k ns):=by
 obtain⟨c,e,f,g⟩:=b8a i;rw[deskL,if_pos ⟨h,by rw[a];exact c⟩,if_pos (a8a b),if_neg (by rw[a];exact e),if_neg (by rw[a];exact f),b,a];simp only;rw[if_pos (show(one4 k).length=1 from U),if_pos j,g]
theorem a9x{k:Nat}{ns:List Int}(g:(kdL l).length<l.length)(h:k<4)(a:kdL l=one4 k)(b:runT D (rsL l)=some ns)(i:¬vd ns=true):deskL D l=(wWrong,D):=by
 obtain⟨c,e,f,j⟩:=b8a h;rw[deskL,if_pos ⟨g,by rw[a];exact c⟩,if_pos (a8a b),if_neg (by rw[a];exact e),if_neg (by rw[a];exact f),b,a];simp only;rw[if_pos (show(one4 k).length=1 from U),if_neg i]
def b4c(w:W8):Prop:=w=c5u\/w=a4b\/w=b9l\/w=c2l\/w=c6d
theorem b7n{w:W8}(h:b4c w):inW w=true/\w≠wBetter/\w≠wCost/\w.length≠1:=by
 rcases h with rfl|rfl|rfl|rfl|rfl<;>exact⟨U,by decide,by decide,by decide⟩
theorem S6{ns:List Int}(g:(kdL l).length<l.length)(h:b4c (kdL l))(a:runT D (rsL l)=some ns):deskL D l=(if(V0 (kdL l) ns).2=true then((V0 (kdL l) ns).1,D)else(wWrong,D)):=by
 obtain⟨b,c,e,f⟩:=b7n h;rw[deskL,if_pos ⟨g,b⟩,if_pos (a8a a),if_neg c,if_neg e,a];simp only;rw[if_neg f]
theorem b4a{w:W8}(h:inW w=true):(∃k,k<4/\w=one4 k)\/w=wBetter\/w=wCost\/b4c w:=by
 unfold inW c6t at h;simp only[List.any_cons,List.any_nil,Bool.or_false,Bool.or_eq_true,decide_eq_true_eq]at h;unfold b4c;rcases h with h|h|h|h|h|h|h
 ·exact .inl ⟨0,by decide,h⟩
 ·exact .inl ⟨1,by decide,h⟩
 ·exact .inl ⟨2,by decide,h⟩
 ·exact .inl ⟨3,by decide,h⟩
 ·exact .inr (.inl h)
 ·exact .inr (.inr (.inl h))
 ·exact .inr (.inr (.inr h))
theorem d9a{w:W8}(a:∀k,k<4->w≠one4 k)(b:w≠wBetter)(c:w≠wCost)(f:¬b4c w):inW w=false:=by
 cases h:inW w with
 |false=>rfl
 |true=>
  rcases b4a h with⟨k,g,e⟩|e|e|e
  ·exact absurd e (a k g)
  ·exact absurd e b
  ·exact absurd e c
  ·exact absurd e f
end
theorem a9v{c:UInt8}(a:c≠10):∀{ps:List W8},(∀p∈ps,(10:UInt8)∉p)->(10:UInt8)∉joinB c ps
 |[],_=>by simp[joinB]
 |[p],h=>h p (Zr ..)
 |p::q::r,h=>by
  rw[Q2 (by simp)];have:=a9v a (ps:=q::r) fun x b=>h x (List.mem_cons_of_mem _ b)
  intro e;rcases ZF.1 e with e|e
  ·exact h p (Zr ..) e
  ·rcases ZM.1 e with e|e
   ·exact a e.symm
   ·exact this e
theorem a5u(n:Int):(10:UInt8)∉dec n:=c1b (by decide) (by decide) n
theorem b3n(ns:List Int):(10:UInt8)∉P0 ns:=a9v (by decide) fun p a=>by
 obtain⟨n,_,rfl⟩:=ZI.1 a;exact a5u n
theorem e0w(q:Rat):(10:UInt8)∉frT q:=by
 unfold frT;split
 ·exact a5u _
 ·simp only[ZF,Ye,not_or]
  exact⟨⟨a5u _,by decide⟩,a5u _⟩
theorem d8a{w:W8}(h:0<=rch (bA w)):(10:UInt8)∉w:=by
 have key:∀x∈opsL,(10:UInt8)∉x.1:=by decide+kernel
 exact key _ (a6m h)
theorem a9n:∀{t:Pl},t.wf->∀w∈wordsP t,(10:UInt8)∉w
 | .lst ns,_,w,hw=>by
  have e:w=S3 ns:=by simpa[wordsP]using hw
  rw[e];intro h;rcases ZM.1 h with h|h
  ·cases h
  ·rcases ZF.1 h with h|h
   ·exact b3n ns h
   ·simp at h
 | .col v,a,w,hw=>by
  have e:w=v:=by simpa[wordsP]using hw
  have b:rch (bA v)=0:=a;rw[e];exact d8a (by omega)
 | .un v p,a,w,hw=>by
  rcases ZM.1 hw with e|e
  ·rw[e];exact d8a (by have:=a.1;omega)
  ·exact a9n a.2 w e
 | .bin v p q,a,w,hw=>by
  rcases ZM.1 hw with e|e
  ·rw[e];exact d8a (by have:=a.1;omega)
  ·rcases ZF.1 e with e|e
   ·exact a9n a.2.1 w e
   ·exact a9n a.2.2 w e
theorem f0c{t:Pl}(h:t.wf):(10:UInt8)∉showP t:=a9v (by decide) (a9n h)
theorem f1h(s:W8):(10:UInt8)∉c7m s:=by
 cases e:rdPlan s with
 |none=>rw[b3r (by rw[e];rfl)];simp
 |some t=>rw[a4w e];exact f0c (c8q (Z9 e).2.1)
theorem e8c(w:W8)(ns:List Int):(10:UInt8)∉(V0 w ns).1:=by
 unfold V0;split
 ·exact b3n _
 split
 ·split
  ·simp
  ·exact e0w _
 split
 ·exact a9v (by decide) fun p a=>by
   obtain⟨q,_,rfl⟩:=ZI.1 a;exact e0w q
 split
 ·simp only[slT,ZF,Ye,not_or]
  exact⟨⟨a5u _,by decide⟩,a5u _⟩
 split
 ·exact b3n _
 ·simp
theorem a5k:(10:UInt8)∉wWrong/\(10:UInt8)∉wDone/\(10:UInt8)∉wWhat:=by decide
theorem f0v(D:List (List Int))(l:W8):(10:UInt8)∉(deskL D l).1:=by
 unfold deskL;split
 ·split
  ·split
   ·exact f1h _
   split
   ·exact a5u _
   split
   ·exact a5k.1
   ·split
    ·split
     ·exact a5k.2.1
     ·exact a5k.1
    ·split
     ·exact e8c _ _
     ·exact a5k.1
  ·exact a5k.1
 ·exact a5k.2.2
theorem c5a:∀(a b:List W8) (C:List (List Int)),W9 C a<+:W9 C (a++b)
 |[],b,C=>List.nil_prefix
 |l::a,b,C=>by
  rw[Zp,W9,W9];exact(List.prefix_append_right_inj _).2 (c5a a b _)
def nlc(l:W8):Nat:=l.countP fun b=>b==10
theorem e9z{l:W8}(h:(10:UInt8)∉l):nlc l=0:=by
 unfold nlc;rw[List.countP_eq_zero];intro b a e;exact h (by rw[<-(beq_iff_eq.1 e:b=10)];exact a)
theorem d5d:∀(ls:List W8) (C:List (List Int)),nlc (W9 C ls)=ls.length
 |[],C=>rfl
 |l::ls,C=>by
  have a:=e9z (f0v C l);have b:=d5d ls (deskL C l).2;unfold nlc at a b|-;rw[W9,YP,YP,a,b,Ze];show 0+1+_=_;omega
theorem e5g{ls:List W8}{k:Nat}(h:ls.length<=20):deskT (ls.take k)<+:deskT ls:=by
 rw[deskT,deskT,if_pos h,if_pos (by rw[ZH];omega)];have:=c5a (ls.take k) (ls.drop k) [[],[],[],[]];rwa[List.take_append_drop]at this
theorem e7y{ls:List W8}(h:ls.length<=20):nlc (deskT ls)=ls.length:=by rw[deskT,if_pos h,d5d]
theorem c5y{ls:List W8}(h:¬ls.length<=20):deskT ls=[]:=by rw[deskT,if_neg h]
noncomputable def a8t:List (List Int)->List W8->List (List Int)
 |C,[]=>C
 |C,l::ls=>a8t (deskL C l).2 ls
theorem b0s:∀(a:List W8) (l:W8) (C:List (List Int)),W9 C (a++[l])=W9 C a++((deskL (a8t C a) l).1++[10])
 |[],l,C=>by rw[Zj,W9,W9,W9,a8t];simp
 |x::a,l,C=>by
  rw[Zp,W9,W9,b0s a l,a8t];simp
theorem b0u:∀(a:List W8) (l:W8) (C:List (List Int)),a8t C (a++[l])=(deskL (a8t C a) l).2
 |[],l,C=>rfl
 |x::a,l,C=>by rw[Zp,a8t,b0u a l,a8t]
theorem f4x{w:W8}(a:¬w=[97])(b:¬w=[98])(c:¬w=[99])(e:¬w=[100]):∀k,k<4->w≠one4 k
 |0,_=>a
 |1,_=>b
 |2,_=>c
 |3,_=>e
theorem e4h{k:Nat}(a:k<4):(((one4 k).getD 0 0).toNat:Int)=((97+k:Nat):Int):=by
 match k,a with
 |0,_=>rfl
 |1,_=>rfl
 |2,_=>rfl
 |3,_=>rfl
theorem f7f{i:Nat}(h:i<4):tV ((([97,98,99,100]:W8).drop i).take (i+1-i))=sV (e5e i):=by
 match i,h with
 |0,_=>rfl
 |1,_=>rfl
 |2,_=>rfl
 |3,_=>rfl
theorem e2d{C:List (List Int)}{k:Nat}(ns:List Int):(C.map lF).set k (putAt (lF (C.getD k default)) 0 (.list (frzL (ns.map iV))))=(C.set k ns).map lF:=by
 rw[O1 fun _=>U,List.map_set];rfl
theorem d6j{w:W8}(h:inW w=true)(a:w.length=1):∃k,k<4/\w=one4 k:=by
 rcases b4a h with h|h|h|h
 ·exact h
 ·rw[h]at a;cases a
 ·rw[h]at a;cases a
 ·exact absurd a (b7n h).2.2.2
theorem a9d{w:W8}(h:inW w=true)(b:w≠wBetter)(c:w≠wCost)(a:w.length≠1):b4c w:=by
 rcases b4a h with⟨k,_,e⟩|h|h|h
 ·rw[e]at a;exact absurd U a
 ·exact absurd h b
 ·exact absurd h c
 ·exact h
theorem e0v{w:W8}{ns:List Int}(a:w≠c5u)(b:w=a4b->ns.length=0)(c:w=b9l->¬vlo ns=true)(f:w=c2l->¬vd ns=true)(g:w=c6d->¬vo ns=true):(V0 w ns).2=false:=by
 unfold V0;rw[if_neg a];split
 ·rename_i e;rw[if_pos (b e)]
 split
 ·rename_i e;simp[b2d (c e)]
 split
 ·rename_i e;simp[d8d (f e)]
 split
 ·rename_i e;simp[sdR,g e]
 ·rfl
theorem c5n(ns:List Int):V0 c5u ns=(P0 ns,true):=rfl
theorem b5t{ns:List Int}(h:¬ns.length=0):V0 a4b ns=(frT (Rat.divInt (mdI ns) 2),true):=by
 rw[V0,if_neg (by decide),if_pos U,if_neg h]
theorem c5x(ns:List Int):V0 b9l ns=(frsT (riseQ ns),decide (0<(riseQ ns).length)):=rfl
theorem c6j(ns:List Int):V0 c2l ns=(slT (flX ns),decide (0<(flX ns).2)):=rfl
theorem c6p(ns:List Int):V0 c6d ns=(P0 (sdR ns),decide (0<(sdR ns).length)):=rfl
theorem b4f{ns:List Int}(h:vl ns=true):∀n∈ns,-100000<=n/\n<=100000:=fun n a=>c0z (Q4.1 h).2 a
theorem e8r{ns:List Int}(h:vl ns=true):∀n∈ns,-1000000<=n/\n<=1000000:=fun n a=>by have:=b4f h n a;omega
theorem d7r{l:List Int}:∀n∈sdR l,-1000000<=n/\n<=1000000:=by
 intro n a;unfold sdR at a;split at a
 ·obtain⟨i,_,rfl⟩:=ZI.1 a
  have:=d0z (l:=l) (i:=i) l.length;unfold sdv;omega
 ·cases a
theorem d8e(l:List Int): -1000000<=(flX l).1/\(flX l).1<=1000000/\-1000000<=(flX l).2/\(flX l).2<=1000000:=by
 unfold flX;split
 ·rename_i h
  have a:=a4r h;have b:=d0b l l.sum;have c:2^l.length<=1024:=Yg (Nat.pow_le_pow_right (by decide) a) (by decide);simp only;omega
 ·decide
theorem d8s{ns:List Int}(a:vl ns=true)(h:¬ns.length=0):Sm 1000000 (Rat.divInt (mdI ns) 2):=by
 have:=d6u (l:=ns) (by omega) (b4f a);exact Sm.fr (by decide) (by omega) (by decide)
theorem b8b{l:List Int}:∀q∈riseQ l,Sm 1000000 q:=fun q hq=>(e7b q hq).mono (by decide)
theorem c7a(l:List Int):(riseQ l).length<=8:=by
 by_cases h:vlo l=true
 ·rw[c5v h];exact(a6p.1 h).1.2
 ·rw[b2d h];exact Zv _
theorem e8t{w:W8}{ns:List Int}(c:vl ns=true):(V0 w ns).1.length<=1000:=by
 have i:=(Q4.1 c).1;unfold V0;split
 ·have:=U5 (e8r c);simp only;omega
 split
 ·split
  ·exact Zv _
  ·have:=b8q (d8s c (by assumption));simp only;omega
 split
 ·have a:=b9c (qs:=riseQ ns) b8b
  have b:=c7a ns;simp only;omega
 split
 ·obtain⟨a,b,e,f⟩:=d8e ns
  have g:=M5 ⟨a,b⟩;have h:=M5 ⟨e,f⟩;simp only[slT,Zf,Ze,Zo];omega
 split
 ·have a:=U5 (ns:=sdR ns) d7r
  have b:=d0k ns;simp only;omega
 ·exact Zv _
theorem e2p{D:List (List Int)}{s:W8}{ns:List Int}(a:vcs D=true)(h:runT D s=some ns):vl ns=true:=by
 cases e:rdPlan s with
 |none=>rw[b8r (.inl (by rw[e];rfl))]at h;cases h
 |some t=>rw[a9k a e]at h;exact a8c a (Z9 e).2.2.1 h
theorem e2i(s:W8): -1000000<=b0e s/\b0e s<=1000000:=by
 cases e:rdPlan s with
 |none=>rw[b8u (by rw[e];rfl)];decide
 |some t=>
  have a:=S5 t;have b:=(Z9 e).2.2.2.2;rw[a6c e];omega
theorem f2i(s:W8):(c7m s).length<=1600:=by
 cases e:rdPlan s with
 |none=>rw[b3r (by rw[e];rfl)];exact Zv _
 |some t=>
  obtain⟨b,hw,a,c,f⟩:=Z9 e;have g:=V9 (c8q hw) (c1e hw a);have h:=e0j hw;rw[a4w e];omega
theorem b3w{D:List (List Int)}(b:vcs D=true)(l:W8):(deskL D l).1.length<=2000:=by
 unfold deskL;split
 ·split
  ·split
   ·exact Yg (f2i _) (by decide)
   split
   ·exact Yg (M5 (e2i _)) (by decide)
   split
   ·exact(by decide:(wWrong:W8).length<=2000)
   ·rename_i ns a
    split
    ·split
     ·exact(by decide:(wDone:W8).length<=2000)
     ·exact(by decide:(wWrong:W8).length<=2000)
    ·split
     ·exact Yg (e8t (e2p b a)) (by decide)
     ·exact(by decide:(wWrong:W8).length<=2000)
  ·exact(by decide:(wWrong:W8).length<=2000)
 ·exact(by decide:(wWhat:W8).length<=2000)
theorem c6b{D:List (List Int)}(a:vcs D=true)(l:W8):vcs (deskL D l).2=true:=by
 unfold deskL;split
 ·split
  ·split
   ·exact a
   split
   ·exact a
   split
   ·exact a
   ·split
    ·split
     ·rename_i h
      exact e2k a h
     ·exact a
    ·split<;>exact a
  ·exact a
 ·exact a
theorem a9s:∀(ls:List W8) {C:List (List Int)},vcs C=true->(W9 C ls).length<=2001*ls.length
 |[],_,_=>Zv _
 |l::ls,C,h=>by
  have a:=b3w h l;have b:=a9s ls (c6b h l);rw[W9];simp only[Zf,Ze,Zo];omega
theorem e3u(ls:List W8):(deskT ls).length<=40020:=by
 unfold deskT;split
 ·have:=a9s ls (C:=[[],[],[],[]]) (by decide)
  omega
 ·exact Zv _
theorem e6t{ws:List W8}{q:W8->Bool}{i:Nat}(a:i<ws.length)(h:q (ws.getD i default)=true):decide (0<=(i:Int))=ws.any q:=by
 rw[decide_eq_true (Int.natCast_nonneg i),eq_comm,List.any_eq_true];exact⟨_,N2 a,h⟩
theorem e4u{ws:List W8}{q:W8->Bool}(h:∀j,j<ws.length->q (ws.getD j default)=false):decide (0<=(-1:Int))=ws.any q:=by
 rw[eq_comm,decide_eq_false (by decide),List.any_eq_false];intro x b;obtain⟨j,a,rfl⟩:=List.mem_iff_getElem.1 b;have:=h j a;rw[Zc,List.getElem?_eq_getElem a]at this;simpa using this
theorem f5r(l:W8):nlc l<=l.length:=List.countP_le_length
theorem f2p{s:W8}{i:Nat}(h:i<s.length)(a:s.getD i 0=10):nlc (s.take (i+1))=nlc (s.take i)+1:=by
 have e:s.getD i default=10:=a;unfold nlc;rw[P9 h,YP,e];rfl
theorem f5n{s:W8}{i:Nat}(h:i<s.length)(a:s.getD i 0≠10):nlc (s.take (i+1))=nlc (s.take i):=by
 have e:s.getD i default≠10:=a;unfold nlc;rw[P9 h,YP,List.countP_singleton,if_neg (by simpa using e)];rfl
end Go.Mv
end
