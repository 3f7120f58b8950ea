/- What each function of the program gives on the abstract machine, part 3 of 3. Conditions: those in front of each theorem. -/
import Derived.Test.YtjmoceabjajefaaGreatDoorSb
import Derived.KernelRfl
set_option linter.unusedVariables false
set_option linter.unusedSimpArgs false
open Bool renaming noConfusion→ZH
open List renaming map→ZA, length_nil→Zs, length_cons→Zg, length_append→Zl, length_map→Zh, length_take→ZU, take_of_length_le→ZC
open Nat renaming zero_le→Zt, le_refl→Zd, le_of_ble_eq_true→YL
open Option renaming isSome_iff_exists→ZS, bind_some→Zk
namespace Go.Proofs.YtjmoceabjajefaaGreatDoor
open Go Go.Mv Go.Proofs
set_option maxRecDepth 100000
set_option maxHeartbeats 20000000
variable{oG:Option Nat}{rG:Nat}
theorem d1u:D8 Tryz.f23=[0,1,4,5,2,11,19,7,34,39,50,8,6]:=by kernel_rfl
theorem e7l(t:Pl)(d:t.good)(e:t.wf)(a:List (List Int))(m:vcs a=true)(F:a.length<=1048576)(G:∀c∈a,c.length<=1048576):∃res outs,(fun res outs=>∃r:List Int,res= .tup [.own 1 (r.map iV),bV (runP a t).isSome]/\outs=[]/\∀v,runP a t=some v->r=v) res outs/\CW (cxT oG) 23 [trK t,M a]=some (res,outs):=by
 obtain⟨B,j⟩:∃B:Nat,t.sz<B:=⟨_,Nat.lt_succ_self _⟩;revert t
 induction B with
 |zero=>intro t d e j;exact absurd j (Nat.not_lt_zero _)
 |succ B L=>
  intro t d e j;refine P9 U Tryz.func23 U ⟨by kernel_rfl,U,dT U,dT U,by decide⟩ d1u<|A3<|A0 ?_
  rcases t with ns|w|⟨w,p⟩|⟨w,p,q⟩
  ·rw[b7w]
   have T:=a4j (show vd ns=true from d);refine P3 U U U (fun _=>I8 U) (fun _=>U) ?_;intro g2
   (refine B1 U U (fun _=>U) ?_;intro g4)
   refine y_S U<|xN [1,2] [2] U<|A3<|A3<|A0<|y_F U<|y_L U<|H0 U U<|xN [1,2,11] [2] U ?_
   refine A4 U (fun b=> ?_) (fun b=>absurd b (by decide));refine A3<|A0<|C0 (es:=ZA iV []) U U (dT U) U U (fun _=>B5 (A7 fun _=>U)) (fun _=>U) ?_
   intro g12;refine y_F U<|y_L U<|P2 U U U (by(simp;done)) U U U (dT U) (fun _=>⟨U,U,U⟩) (by simp only[H6];(simp only[Zs,Zg,Zl,Nat.zero_add,Zh];omega)) (fun _=>U) ?_
   intro g15
   (refine xO U U (by simp) U (fun _=>U) (fun _=>U) ?_;intro g4)
   refine y_S U<|xN [4,5] [4] U<|A9 ?_
   refine⟨_,_,?_,B8 (F9 U U (by simp) (by exact A7 fun _=>U) (C9 U U (C4 B3))) U⟩;exact⟨ns,U,U,fun v h=>Option.some.inj h⟩
  ·rw[b7y]
   have K:rch (bA w)=0:=e;obtain⟨⟨k,P,N⟩,-⟩:=e1a K;have H:=e2h P;have s:w≠[108,105,115,116]:=d.1;refine P3 U U U (fun _=>I8 U) (fun _=>U) ?_;intro g2
   (refine B1 U U (fun _=>U) ?_;intro g4)
   refine y_S U<|xN [1,2] [2] U<|A3<|A3<|A0<|y_F U<|y_L U<|H0 U U<|xN [1,2,11] [2] U ?_
   refine A4 U (fun b=>absurd b (by simp_all)) (fun b=> ?_);refine A6<|A3<|A3<|A0<|y_F U<|y_L U<|B7 U U<|M9 U U<|xN [1,2,19] [2] U ?_
   refine A4 U (fun b=> ?_) (fun b=>absurd b (by decide));refine A3<|A0<|y_F U<|y_L U<|y_M U ?_
   apply xC U
   ·apply B0
    ·exact B2 U
    apply B0
    ·exact B2 U
    exact C8
   ·exact(by have O:=b9k (oG:=oG) k P a F G;rw[<-N]at O;exact O)
   refine⟨⟨U,U,U,dT U,U⟩,.inl U,B6,G6,fun _=>U,fun g23=> ?_⟩;simp only[Zh]
   (refine xO U U (by simp) U (fun _=>U) (fun _=>U) ?_;intro g4)
   refine y_S U<|xN [4,5] [4] U<|A9 ?_
   refine⟨_,_,?_,B8 (F9 U U (by simp) (by exact A7 fun _=>U) (C9 U U (C4 B3))) U⟩;refine⟨a.getD k default,U,U,fun v h=> ?_⟩;rw[runP,N,H]at h;exact Option.some.inj h
  ·rw[c9l]
   have u:(Pl.un w p).sz=p.sz+1:=rfl;have S:nd (bA w)=1:=(S3 (by have h:=e.1;omega)).trans e.1;have s:w≠[108,105,115,116]:=d.1;refine P3 U U U (fun _=>I8 U) (fun _=>U) ?_;intro g2
   (refine B1 U U (fun _=>U) ?_;intro g4)
   refine y_S U<|xN [1,2] [2] U<|A3<|A3<|A0<|y_F U<|y_L U<|H0 U U<|xN [1,2,11] [2] U ?_
   refine A4 U (fun b=>absurd b (by simp_all)) (fun b=> ?_);refine A6<|A3<|A3<|A0<|y_F U<|y_L U<|B7 U U<|M9 U U<|xN [1,2,19] [2] U ?_
   refine A4 U (fun b=>absurd b (by exact fun h=>ZH (show false=true from h))) (fun b=> ?_);refine A6<|A3<|A0<|y_F U<|y_L U<|J1 U U U (fun _=>U) (by show(0:Int)<=0/\(0:Int)<((1:Nat):Int);omega)<|y_I U<|y_M U ?_
   obtain⟨_,_,⟨z,rfl,rfl,l⟩,g⟩:=L p d.2.2 e.2 (by omega);rw[<-K4]at g;apply xC U
   ·apply B0
    ·exact B2 U
    apply B0
    ·exact B2 U
    exact C8
   ·exact g
   refine⟨⟨U,U,U,dT U,U⟩,.inr ⟨H9 _ _,U⟩,B6,G9 (K5 fun _=>J0 U K6),fun _=>U,fun C=> ?_⟩;simp only[Zh];refine y_M U<|y_E U<|y_E U ?_
   (refine xO U U (by simp) U (fun _=>U) (fun _=>U) ?_;intro g6)
   refine y_S U<|xN [1,2,6,7] [2,6] U<|A3<|A3<|A0<|y_M U<|H5 U<|xN [1,2,6,34] [2,6] U ?_
   refine A4 U ?_ ?_<;>intro b<;>try simp only[SL]at b
   ·refine A3<|A0 ?_
    (refine B1 U U (fun _=>U) ?_;intro g4)
    refine y_S U<|xN [4,5] [4] U<|A9 ?_
    refine⟨_,_,?_,B8 (F9 U U (by simp) (by rfl) (C9 U U (C4 B3))) U⟩;have f:runP a p=none:=by simpa using b
    refine⟨[],?_,U,?_⟩
    ·rw[runP,f];rfl
    rw[runP,f];intro v h;cases h
   obtain⟨x,i⟩:=ZS.1 (show(runP a p).isSome=true by assumption);obtain rfl:=l x i;have n:=a7r m d.2.2 i;refine A6<|A3<|A0<|C0 (es:=ZA iV []) U U (dT U) U U (fun _=>B5 (A7 fun _=>U)) (fun _=>U) ?_
   intro D
   (refine xO U U (by simp) U (fun _=>U) (fun _=>U) ?_;intro g8)
   refine xN [1,2,6,8] [2,6,8] U<|A3<|A3<|A0<|y_F U<|y_L U<|B7 U U<|M9 U U<|xN [1,2,6,8,39] [2,6,8] U ?_
   refine A4 U (fun b=>absurd b (by exact fun h=>ZH (show false=true from h))) (fun b=> ?_);refine A6<|A3<|A0<|y_F U<|y_L U<|y_M U<|y_M U ?_
   apply xC U
   ·apply B0
    ·exact B2 U
    apply B0
    ·exact E6 U U U (by(simp;done)) (fun _=>U)
    apply B0
    ·exact E6 U U U (by(simp;done)) (fun _=>U)
    exact C8
   ·exact b7u (bA w) (by omega) z [] n d9p
   refine⟨⟨U,U,U,dT U,U⟩,.inr ⟨H9 _ _,U⟩,B6,G9 (K5 fun _=>J0 U K6),fun _=>U,fun E=> ?_⟩;simp only[Zh];refine y_E U<|y_E U ?_
   (refine xO U U (by simp) U (fun _=>U) (fun _=>U) ?_;intro g4)
   refine y_S U<|xN [4,5] [4] U<|A9 ?_
   refine⟨_,_,?_,B8 (F9 U U (by simp) (by exact A7 fun _=>U) (C9 U U (C4 B3))) U⟩;refine⟨raR (bA w) z [],?_,U,?_⟩
   ·rw[runP,i,Zk];rfl
   rw[runP,i,Zk];exact fun v h=>b8d h
  rw[b7o];have u:(Pl.bin w p q).sz=p.sz+q.sz+1:=rfl;have S:nd (bA w)=2:=(S3 (by have h:=e.1;omega)).trans e.1;have s:w≠[108,105,115,116]:=d.1;refine P3 U U U (fun _=>I8 U) (fun _=>U) ?_;intro g2
  (refine B1 U U (fun _=>U) ?_;intro g4)
  refine y_S U<|xN [1,2] [2] U<|A3<|A3<|A0<|y_F U<|y_L U<|H0 U U<|xN [1,2,11] [2] U ?_
  refine A4 U (fun b=>absurd b (by simp_all)) (fun b=> ?_);refine A6<|A3<|A3<|A0<|y_F U<|y_L U<|B7 U U<|M9 U U<|xN [1,2,19] [2] U ?_
  refine A4 U (fun b=>absurd b (by exact fun h=>ZH (show false=true from h))) (fun b=> ?_);refine A6<|A3<|A0<|y_F U<|y_L U<|J1 U U U (fun _=>U) (by show(0:Int)<=0/\(0:Int)<((2:Nat):Int);omega)<|y_I U<|y_M U ?_
  obtain⟨_,_,⟨z,rfl,rfl,l⟩,g⟩:=L p d.2.2.1 e.2.1 (by omega);rw[<-K4]at g;apply xC U
  ·apply B0
   ·exact B2 U
   apply B0
   ·exact B2 U
   exact C8
  ·exact g
  refine⟨⟨U,U,U,dT U,U⟩,.inr ⟨H9 _ _,U⟩,B6,G9 (K5 fun _=>J0 U K6),fun _=>U,fun C=> ?_⟩;simp only[Zh];refine y_M U<|y_E U<|y_E U ?_
  (refine xO U U (by simp) U (fun _=>U) (fun _=>U) ?_;intro g6)
  refine y_S U<|xN [1,2,6,7] [2,6] U<|A3<|A3<|A0<|y_M U<|H5 U<|xN [1,2,6,34] [2,6] U ?_
  refine A4 U ?_ ?_<;>intro b<;>try simp only[SL]at b
  ·refine A3<|A0 ?_
   (refine B1 U U (fun _=>U) ?_;intro g4)
   refine y_S U<|xN [4,5] [4] U<|A9 ?_
   refine⟨_,_,?_,B8 (F9 U U (by simp) (by rfl) (C9 U U (C4 B3))) U⟩;have f:runP a p=none:=by simpa using b
   refine⟨[],?_,U,?_⟩
   ·rw[runP,f];rfl
   rw[runP,f];intro v h;cases h
  obtain⟨x,i⟩:=ZS.1 (show(runP a p).isSome=true by assumption);obtain rfl:=l x i;have n:=a7r m d.2.2.1 i;refine A6<|A3<|A0<|C0 (es:=ZA iV []) U U (dT U) U U (fun _=>B5 (A7 fun _=>U)) (fun _=>U) ?_
  intro D
  (refine xO U U (by simp) U (fun _=>U) (fun _=>U) ?_;intro g8)
  refine xN [1,2,6,8] [2,6,8] U<|A3<|A3<|A0<|y_F U<|y_L U<|B7 U U<|M9 U U<|xN [1,2,6,8,39] [2,6,8] U ?_
  refine A4 U (fun b=> ?_) (fun b=>absurd b (by exact fun h=>ZH (show true=false from h)));refine A3<|A0<|y_F U<|y_L U<|J1 U U U (fun _=>U) (by show(0:Int)<=1/\(1:Int)<((2:Nat):Int);omega)<|y_I U<|y_M U ?_
  obtain⟨_,_,⟨Q,rfl,rfl,I⟩,o⟩:=L q d.2.2.2 e.2.2 (by omega);rw[<-K4]at o;apply xC U
  ·apply B0
   ·exact B2 U
   apply B0
   ·exact B2 U
   exact C8
  ·exact o
  refine⟨⟨U,U,U,dT U,U⟩,.inr ⟨H9 _ _,U⟩,B6,G9 (K5 fun _=>J0 U K6),fun _=>U,fun R=> ?_⟩;simp only[Zh];refine y_M U<|y_E U<|y_E U ?_
  (refine xO U U (by simp) U (fun _=>U) (fun _=>U) ?_;intro g8)
  refine y_S U<|xN [2,6,7,8] [2,6,8] U<|A3<|A0<|y_M U<|H5 U<|xN [2,6,8,50] [2,6,8] U ?_
  refine A4 U ?_ ?_<;>intro b<;>try simp only[SL]at b
  ·refine A3<|A0 ?_
   (refine B1 U U (fun _=>U) ?_;intro g4)
   refine y_S U<|xN [4,5] [4] U<|A9 ?_
   refine⟨_,_,?_,B8 (F9 U U (by simp) (by rfl) (C9 U U (C4 B3))) U⟩;have f:runP a q=none:=by simpa using b
   refine⟨[],?_,U,?_⟩
   ·rw[runP,i,Zk,f];rfl
   rw[runP,i,Zk,f];intro v h;cases h
  obtain⟨y,A⟩:=ZS.1 (show(runP a q).isSome=true by assumption);obtain rfl:=I y A;have J:=a7r m d.2.2.2 A;refine A6<|A3<|A0<|y_F U<|y_L U<|y_M U<|y_M U ?_
  apply xC U
  ·apply B0
   ·exact B2 U
   apply B0
   ·exact E6 U U U (by(simp;done)) (fun _=>U)
   apply B0
   ·exact E6 U U U (by(simp;done)) (fun _=>U)
   exact C8
  ·exact b7u (bA w) (by omega) z Q n J
  refine⟨⟨U,U,U,dT U,U⟩,.inr ⟨H9 _ _,U⟩,B6,G9 (K5 fun _=>J0 U K6),fun _=>U,fun E=> ?_⟩;simp only[Zh];refine y_E U<|y_E U ?_
  (refine xO U U (by simp) U (fun _=>U) (fun _=>U) ?_;intro g4)
  refine y_S U<|xN [4,5] [4] U<|A9 ?_
  refine⟨_,_,?_,B8 (F9 U U (by simp) (by exact A7 fun _=>U) (C9 U U (C4 B3))) U⟩;refine⟨raR (bA w) z Q,?_,U,?_⟩
  ·rw[runP,i,Zk,A,Zk];rfl
  rw[runP,i,Zk,A,Zk];exact fun v h=>b8d h
theorem c3v:D8 Tryz.f12=[0,1,4,5,6,26,32,8,10,47,9,7,54,55,11,12,66,14,70,13,90,94,97,106,113,116,126,140,153,16,15,171,43,139,152,170]:=by kernel_rfl
theorem e5w(l:W8)(hl:l.length<=1048576)(C:List (List Int))(o:vcs C=true):∃res outs,(fun res outs=>∃C1:List (List Int),res= .tup [tV (deskL (n4 C) l).1,.own 1 (C1.map lF)]/\outs=[]/\n4 C1=(deskL (n4 C) l).2/\vcs C1=true) res outs/\CW (cxT oG) 12 [tV l,.own 1 (C.map lF)]=some (res,outs):=by
 have bl:=(a1k.1 o).2;have H:∀c∈C,c.length<=1048576:=fun c a=>by have:=a4j ((a1k.1 o).1 c a);omega
 have b9:(n4 C).length=4:=rfl;have bp:(rsL l).length<=l.length:=e8h 32 l;refine P9 U Tryz.func12 U ⟨by kernel_rfl,U,dT U,dT U,by decide⟩ c3v<|A3<|A0<|y_S U ?_
 (refine B1 U U (fun _=>U) ?_;intro g5)
 refine xN [0,1] [1] U<|A3<|A0<|y_S U<|xN [0,1,6] [1] U ?_
 refine Y9 (β:=Nat) [(.t 0,_),(.t 1,_),(.h 1,_)] ⟨U,U,U,trivial⟩ (fun(i:Nat)=>[(.t 6,nV i)]) (fun(i:Nat)=>i<=l.length/\(∀j,j<i->l.getD j 0≠32)/\(i=l.length\/l.getD i 0=32)) ?_ ?_
 ·skip
  refine A8<|D7 (β:=Nat) [(.t 0,_),(.t 1,_),(.h 1,_)] (fun(i:Nat)=>[(.t 6,nV i)]) (fun(i:Nat)=>i<=l.length/\∀j,j<i->l.getD j 0≠32) (fun(i:Nat)=>l.length-i) 0 ⟨U,U,U,U,trivial⟩ ⟨Zt _,fun j h=>by omega⟩ ?_
  intro i d;obtain⟨M,N⟩:=d;refine A3<|A3<|A0<|y_M U<|y_M U<|a3l U U<|F0 U U<|y_M U ?_
  refine D3 U U ?_ ?_<;>intro u<;>have S:=u<;>try simp only[SG]at S
  ·refine y_M U<|gT U U<|y_M U<|gT U U<|M3 U U U (by omega)<|gT U U<|a8f U U<|E9 U (by assumption) U U<|xN [0,1,6,26] [1] U ?_
   refine A4 U ?_ ?_<;>intro a<;>try simp only[SL]at a
   ·have H:l.getD i 0≠32:=fun e=>a (by rw[e];rfl)
    refine A6<|A8<|A0<|y_M U<|D6 U U (B9 (by omega))<|y_S U<|xN [0,1,6] [1] U ?_
    refine⟨i+1,⟨by omega,fun j hj=>by rcases Nat.lt_succ_iff_lt_or_eq.1 hj with h|h;(·exact N j h);(·subst h;exact H)⟩,(by omega),⟨U,U,U,U,trivial⟩⟩
   have H:l.getD i 0=32:=UInt8.toNat_inj.1 (by show(l.getD i 0).toNat=32;omega);refine D5 ?_;refine⟨i,?_,⟨U,U,U,U,trivial⟩⟩;exact⟨M,N,by exact .inr H⟩
  refine gF U U<|gF U U<|gF U U<|E8 U (by assumption) U U<|xN [0,1,6,26] [1] U ?_
  refine A4 U (fun a=>absurd a (by decide)) (fun a=> ?_);refine D5 ?_;refine⟨i,?_,⟨U,U,U,U,trivial⟩⟩;exact⟨M,N,by exact .inl (by omega)⟩
 intro i d;obtain⟨M,N,aj⟩:=d;have a6:kdL l=l.take i:=e8c M N aj;have ak:(kdL l).length=i:=by rw[a6,ZU];omega
 have an:rsL l=l.drop (i+1):=by show rsC 32 l=_;unfold rsC;rw[show(kdC 32 l).length=i from ak]
 refine A3<|A3<|A0<|y_M U<|y_M U<|a3l U U<|M9 U U<|xN [0,1,6,32] [1] U ?_
 refine A4 U ?_ ?_<;>intro a<;>try simp only[SL]at a
 ·refine A3<|A0<|y_M U<|y_S U ?_
  (refine xO U U (by simp) U (fun _=>U) (fun _=>U) ?_;intro g5)
  refine xN [4,5] [5] U<|A9 ?_
  refine⟨_,_,?_,B8 (C9 U U (F9 U U (by simp) (by exact A7 fun _=>U) (C4 B3))) U⟩;exact⟨C,by rw[Q0 (fun h=>by omega)];rfl,U,by rw[Q0 (fun h=>by omega)],o⟩
 have hlt:(kdL l).length<l.length:=by omega
 refine A6<|A3<|A0<|y_M U<|y_M U<|a1n U U (G2 U) J9 (by omega) ?_
 rw[show(l.drop 0).take (i-0)=kdL l from by rw[a6];rfl];refine y_S U<|xN [0,1,6,7] [1] U<|A3<|A0<|y_M U<|y_M U<|D6 U U (B9 (by omega)) ?_
 rw[show((i:Int)+1)=((i+1:Nat):Int) by omega];refine a1n U U J9 (G2 U) (by omega) ?_;rw[show(l.drop (i+1)).take (l.length-(i+1))=rsL l from by rw[an,ZC (by simp)]];refine y_S U<|xN [1,7,8] [1] U<|A3<|A0<|y_M U ?_
 rcases K:rdPlan (rsL l)with _|t
 ·have m:(rdPlan (rsL l)).isSome=false:=by rw[K];rfl
  apply xC U
  ·apply B0
   ·exact B2 U
   exact C8
  ·exact(by have p:=b9f (oG:=oG) (rsL l) (by omega);rw[K]at p;exact p)
  refine⟨⟨U,U,U,dT U,U⟩,.inl U,B6,I7 U,fun _=>U,fun ad=> ?_⟩;refine y_M U<|y_E U<|y_E U<|y_A U (fun _=>U) ?_
  intro g9;refine xB U U U U U U U U U<|y_S U<|xN [1,7,9,10] [1,9] U<|A3<|A0<|C0 (es:=ZA iV []) U U (dT U) U U (fun _=>B5 (A7 fun _=>U)) (fun _=>U) ?_
  intro ae
  (refine xO U U (by simp) U (fun _=>U) (fun _=>U) ?_;intro g11)
  refine y_S U<|xN [1,7,9,10,11,12] [1,9,11] U<|A3<|A3<|A0<|y_M U<|xN [1,7,9,10,11,12,47] [1,9,11] U ?_
  refine A4 U (fun a=>absurd a (by decide)) (fun a=> ?_);refine A6<|A3<|A3<|A0<|y_M U<|xN [1,7,9,10,11,12,54] [1,9,11] U<|A8<|V2<|A3<|A0<|H0 U U<|y_S U<|xN [1,7,9,10,11,12,54,55] [1,9,11] U ?_
  refine Y9 (β:=Bool) [(.t 1,_),(.t 7,_),(.t 9,_),(.t 10,_),(.t 11,_),(.t 12,_),(.t 54,_),(.h 1,_),(.h 9,_),(.h 11,_)] ⟨U,U,U,U,U,U,U,U,U,U,trivial⟩ (fun(b:Bool)=>[(.t 55,bV b)]) (fun(b:Bool)=>(b=true->∃k,k<4/\kdL l=one4 k)/\(b=false->∀k,k<4->kdL l≠one4 k)) ?_ ?_
  ·skip
   refine A4 U ?_ ?_<;>intro a<;>try simp only[SL]at a
   ·refine A6 ?_
    refine⟨_,?_,⟨U,U,U,U,U,U,U,U,U,U,U,trivial⟩⟩;exact⟨fun _=>⟨0,by decide,a⟩,fun h=>absurd a (of_decide_eq_false h)⟩
   refine A3<|A0<|H0 U U<|y_S U<|xN [1,7,9,10,11,12,54,55] [1,9,11] U ?_
   refine A4 U ?_ ?_<;>intro a<;>try simp only[SL]at a
   ·refine A6 ?_
    refine⟨_,?_,⟨U,U,U,U,U,U,U,U,U,U,U,trivial⟩⟩;exact⟨fun _=>⟨1,by decide,a⟩,fun h=>absurd a (of_decide_eq_false h)⟩
   refine A3<|A0<|H0 U U<|y_S U<|xN [1,7,9,10,11,12,54,55] [1,9,11] U ?_
   refine A4 U ?_ ?_<;>intro a<;>try simp only[SL]at a
   ·refine A6 ?_
    refine⟨_,?_,⟨U,U,U,U,U,U,U,U,U,U,U,trivial⟩⟩;exact⟨fun _=>⟨2,by decide,a⟩,fun h=>absurd a (of_decide_eq_false h)⟩
   refine A0<|H0 U U<|y_S U<|xN [1,7,9,10,11,12,54,55] [1,9,11] U ?_
   refine⟨_,?_,⟨U,U,U,U,U,U,U,U,U,U,U,trivial⟩⟩;exact⟨fun h=>⟨3,by decide,of_decide_eq_true h⟩,fun h=>f3r (by assumption) (by assumption) (by assumption) (of_decide_eq_false h)⟩
  intro b d;refine A4 U ?_ ?_<;>intro a<;>try simp only[SL]at a
  ·obtain⟨k,T,R⟩:=d.1 a
   refine A3<|A3<|A0<|y_M U<|H5 U<|y_M U<|H4 U U U<|H4 U U U<|H4 U U U<|E9 U U U U<|xN [1,7,11,66] [1,11] U ?_
   refine A4 U (fun a=> ?_) (fun a=>absurd a (by decide));refine A3<|A0<|y_M U<|y_S U ?_
   (refine xO U U (by simp) U (fun _=>U) (fun _=>U) ?_;intro g5)
   refine xN [4,5] [5] U<|A9 ?_
   refine⟨_,_,?_,B8 (C9 U U (F9 U U (by simp) (by exact A7 fun _=>U) (C4 B3))) U⟩;obtain⟨J,P,Q,-⟩:=b7p T;rw[<-R]at J P Q;exact⟨C,by rw[a1p hlt J m];rfl,U,by rw[a1p hlt J m],o⟩
  have B:=d.2 (by simpa using a);refine V2<|A3<|A0<|H0 U U<|y_S U<|xN [1,7,9,10,11,12,54,90] [1,9,11] U ?_
  refine Y9 (β:=Bool) [(.t 1,_),(.t 7,_),(.t 9,_),(.t 10,_),(.t 11,_),(.t 12,_),(.t 54,_),(.h 1,_),(.h 9,_),(.h 11,_)] ⟨U,U,U,U,U,U,U,U,U,U,trivial⟩ (fun(b:Bool)=>[(.t 90,bV b)]) (fun(b:Bool)=>(b=true->kdL l=wBetter\/kdL l=wCost)/\(b=false->kdL l≠wBetter/\kdL l≠wCost)) ?_ ?_
  ·skip
   refine A4 U ?_ ?_<;>intro a<;>try simp only[SL]at a
   ·refine A6 ?_
    refine⟨_,?_,⟨U,U,U,U,U,U,U,U,U,U,U,trivial⟩⟩;exact⟨fun _=> .inl a,fun h=>absurd a (of_decide_eq_false h)⟩
   refine A0<|H0 U U<|y_S U<|xN [1,7,9,10,11,12,54,90] [1,9,11] U ?_
   refine⟨_,?_,⟨U,U,U,U,U,U,U,U,U,U,U,trivial⟩⟩;exact⟨fun h=> .inr (of_decide_eq_true h),fun h=>⟨a,of_decide_eq_false h⟩⟩
  intro b d;refine A4 U ?_ ?_<;>intro a<;>try simp only[SL]at a
  ·have v:=d.1 a
   refine A3<|A3<|A0<|y_M U<|H5 U<|xN [1,7,9,94] [1,9] U ?_
   refine A4 U (fun a=> ?_) (fun a=>absurd a (by decide));refine A3<|A0<|y_M U<|y_S U ?_
   (refine xO U U (by simp) U (fun _=>U) (fun _=>U) ?_;intro g5)
   refine xN [4,5] [5] U<|A9 ?_
   refine⟨_,_,?_,B8 (C9 U U (F9 U U (by simp) (by exact A7 fun _=>U) (C4 B3))) U⟩;exact⟨C,by rw[a1p hlt (by rcases v with e|e<;>(rw[e];rfl)) m];rfl,U,by rw[a1p hlt (by rcases v with e|e<;>(rw[e];rfl)) m],o⟩
  obtain⟨y,A⟩:=d.2 (by simpa using a);refine V2<|A3<|A0<|H0 U U<|y_S U<|xN [1,7,11,12,54,106] [1,11] U ?_
  refine Y9 (β:=Bool) [(.t 1,_),(.t 7,_),(.t 11,_),(.t 12,_),(.h 1,_),(.h 11,_)] ⟨U,U,U,U,U,U,trivial⟩ (fun(b:Bool)=>[(.t 106,bV b)]) (fun(b:Bool)=>(b=true->b3u (kdL l))/\(b=false->¬b3u (kdL l))) ?_ ?_
  ·skip
   refine A4 U ?_ ?_<;>intro a<;>try simp only[SL]at a
   ·refine A6 ?_
    refine⟨_,?_,⟨U,U,U,U,U,U,U,trivial⟩⟩;exact⟨fun _=> .inl a,fun h=>absurd a (of_decide_eq_false h)⟩
   refine A3<|A0<|H0 U U<|y_S U<|xN [1,7,11,12,54,106] [1,11] U ?_
   refine A4 U ?_ ?_<;>intro a<;>try simp only[SL]at a
   ·refine A6 ?_
    refine⟨_,?_,⟨U,U,U,U,U,U,U,trivial⟩⟩;exact⟨fun _=> .inr (.inl a),fun h=>absurd a (of_decide_eq_false h)⟩
   refine A3<|A0<|H0 U U<|y_S U<|xN [1,7,11,12,54,106] [1,11] U ?_
   refine A4 U ?_ ?_<;>intro a<;>try simp only[SL]at a
   ·refine A6 ?_
    refine⟨_,?_,⟨U,U,U,U,U,U,U,trivial⟩⟩;exact⟨fun _=> .inr (.inr (.inl a)),fun h=>absurd a (of_decide_eq_false h)⟩
   refine A3<|A0<|H0 U U<|y_S U<|xN [1,7,11,12,54,106] [1,11] U ?_
   refine A4 U ?_ ?_<;>intro a<;>try simp only[SL]at a
   ·refine A6 ?_
    refine⟨_,?_,⟨U,U,U,U,U,U,U,trivial⟩⟩;exact⟨fun _=> .inr (.inr (.inr (.inl a))),fun h=>absurd a (of_decide_eq_false h)⟩
   refine A0<|H0 U U<|y_S U<|xN [1,7,11,12,106] [1,11] U ?_
   refine⟨_,?_,⟨U,U,U,U,U,U,U,trivial⟩⟩;exact⟨fun h=> .inr (.inr (.inr (.inr (of_decide_eq_true h)))),fun h e=>by rcases e with e|e|e|e|e<;>first|exact absurd e (of_decide_eq_false h)|exact absurd e (by assumption)⟩
  intro b d;refine A4 U ?_ ?_<;>intro a<;>try simp only[SL]at a
  ·have q:=d.1 a
   refine A3<|A3<|A0<|y_M U<|H5 U<|xN [1,7,11,113] [1,11] U ?_
   refine A4 U (fun a=> ?_) (fun a=>absurd a (by decide));refine A3<|A0<|y_M U<|y_S U ?_
   (refine xO U U (by simp) U (fun _=>U) (fun _=>U) ?_;intro g5)
   refine xN [4,5] [5] U<|A9 ?_
   refine⟨_,_,?_,B8 (C9 U U (F9 U U (by simp) (by exact A7 fun _=>U) (C4 B3))) U⟩;obtain⟨J,P,Q,-⟩:=b7e q;exact⟨C,by rw[a1p hlt J m];rfl,U,by rw[a1p hlt J m],o⟩
  have D:=d.2 (by simpa using a);refine A6<|A3<|A0<|y_M U<|y_S U ?_
  (refine xO U U (by simp) U (fun _=>U) (fun _=>U) ?_;intro g5)
  refine xN [4,5] [5] U<|A9 ?_
  refine⟨_,_,?_,B8 (C9 U U (F9 U U (by simp) (by exact A7 fun _=>U) (C4 B3))) U⟩;have E:=d8e B y A D;exact⟨C,by rw[Q0 (fun h=>by rw[E]at h;cases h.2)];rfl,U,by rw[Q0 (fun h=>by rw[E]at h;cases h.2)],o⟩
 obtain⟨t',ab,ao,bs⟩:=a5x (s:=rsL l) (by rw[K];rfl);obtain rfl:t=t':=by rw[K]at ab;exact Option.some.inj ab
 obtain⟨br,r,I,bq,aa⟩:=a1f K;have m:(rdPlan (rsL l)).isSome=true:=by rw[K];rfl
 apply xC U
 ·apply B0
  ·exact B2 U
  exact C8
 ·exact(by have p:=b9f (oG:=oG) (rsL l) (by omega);rw[K]at p;rw[ao]at p;exact p)
 refine⟨⟨U,U,U,dT U,U⟩,.inl U,B6,I7 U,fun _=>U,fun ad=> ?_⟩;refine y_M U<|y_E U<|y_E U<|y_A U (fun _=>U) ?_
 intro g9;refine xB U U U U U U U U U<|y_S U<|xN [1,7,9,10] [1,9] U<|A3<|A0<|C0 (es:=ZA iV []) U U (dT U) U U (fun _=>B5 (A7 fun _=>U)) (fun _=>U) ?_
 intro ae
 (refine xO U U (by simp) U (fun _=>U) (fun _=>U) ?_;intro g11)
 refine y_S U<|xN [1,7,9,10,11,12] [1,9,11] U<|A3<|A3<|A0<|y_M U<|xN [1,7,9,10,11,12,47] [1,9,11] U ?_
 refine A4 U (fun a=> ?_) (fun a=>absurd a (by exact fun h=>ZH (show true=false from h)));refine A0<|y_B U<|y_M U ?_
 rcases hr:runP C t with _|ms
 ·obtain⟨_,_,⟨ns,rfl,rfl,a8⟩,G⟩:=e7l (oG:=oG) t I r C o (by omega) H
  rw[<-K4]at G;rw[hr]at G;have F:Mv.runT (n4 C) (rsL l)=none:=by rw[e1j o,a9d o K,hr]
  apply xC U
  ·apply B0
   ·exact B2 U
   apply B0
   ·exact E6 U U U (by(simp;done)) (fun _=>U)
   exact C8
  ·exact G
  refine⟨⟨U,U,U,dT U,U⟩,.inr ⟨H9 _ _,U⟩,B6,G9 (K5 fun _=>J0 U K6),fun _=>U,fun af=> ?_⟩;simp only[Zh];refine y_M U<|y_E U<|y_E U ?_
  (refine xO U U (by simp) U (fun _=>U) (fun _=>U) ?_;intro g11)
  refine y_S U<|xN [1,7,9,10,11,12] [1,9,11] U<|A3<|A3<|A0<|y_M U<|xN [1,7,9,10,11,12,54] [1,9,11] U<|A8<|V2<|A3<|A0<|H0 U U<|y_S U<|xN [1,7,9,10,11,12,54,55] [1,9,11] U ?_
  refine Y9 (β:=Bool) [(.t 1,_),(.t 7,_),(.t 9,_),(.t 10,_),(.t 11,_),(.t 12,_),(.t 54,_),(.h 1,_),(.h 9,_),(.h 11,_)] ⟨U,U,U,U,U,U,U,U,U,U,trivial⟩ (fun(b:Bool)=>[(.t 55,bV b)]) (fun(b:Bool)=>(b=true->∃k,k<4/\kdL l=one4 k)/\(b=false->∀k,k<4->kdL l≠one4 k)) ?_ ?_
  ·skip
   refine A4 U ?_ ?_<;>intro a<;>try simp only[SL]at a
   ·refine A6 ?_
    refine⟨_,?_,⟨U,U,U,U,U,U,U,U,U,U,U,trivial⟩⟩;exact⟨fun _=>⟨0,by decide,a⟩,fun h=>absurd a (of_decide_eq_false h)⟩
   refine A3<|A0<|H0 U U<|y_S U<|xN [1,7,9,10,11,12,54,55] [1,9,11] U ?_
   refine A4 U ?_ ?_<;>intro a<;>try simp only[SL]at a
   ·refine A6 ?_
    refine⟨_,?_,⟨U,U,U,U,U,U,U,U,U,U,U,trivial⟩⟩;exact⟨fun _=>⟨1,by decide,a⟩,fun h=>absurd a (of_decide_eq_false h)⟩
   refine A3<|A0<|H0 U U<|y_S U<|xN [1,7,9,10,11,12,54,55] [1,9,11] U ?_
   refine A4 U ?_ ?_<;>intro a<;>try simp only[SL]at a
   ·refine A6 ?_
    refine⟨_,?_,⟨U,U,U,U,U,U,U,U,U,U,U,trivial⟩⟩;exact⟨fun _=>⟨2,by decide,a⟩,fun h=>absurd a (of_decide_eq_false h)⟩
   refine A0<|H0 U U<|y_S U<|xN [1,7,9,10,11,12,54,55] [1,9,11] U ?_
   refine⟨_,?_,⟨U,U,U,U,U,U,U,U,U,U,U,trivial⟩⟩;exact⟨fun h=>⟨3,by decide,of_decide_eq_true h⟩,fun h=>f3r (by assumption) (by assumption) (by assumption) (of_decide_eq_false h)⟩
  intro b d;refine A4 U ?_ ?_<;>intro a<;>try simp only[SL]at a
  ·obtain⟨k,T,R⟩:=d.1 a
   refine A3<|A3<|A0<|y_M U<|H5 U<|y_M U<|H4 U U U<|H4 U U U<|H4 U U U<|E9 U U U U<|xN [1,7,11,66] [1,11] U ?_
   refine A4 U (fun a=> ?_) (fun a=>absurd a (by decide));refine A3<|A0<|y_M U<|y_S U ?_
   (refine xO U U (by simp) U (fun _=>U) (fun _=>U) ?_;intro g5)
   refine xN [4,5] [5] U<|A9 ?_
   refine⟨_,_,?_,B8 (C9 U U (F9 U U (by simp) (by exact A7 fun _=>U) (C4 B3))) U⟩;obtain⟨J,P,Q,-⟩:=b7p T;rw[<-R]at J P Q;exact⟨C,by rw[a2v hlt J P Q F];rfl,U,by rw[a2v hlt J P Q F],o⟩
  have B:=d.2 (by simpa using a);refine V2<|A3<|A0<|H0 U U<|y_S U<|xN [1,7,9,10,11,12,54,90] [1,9,11] U ?_
  refine Y9 (β:=Bool) [(.t 1,_),(.t 7,_),(.t 9,_),(.t 10,_),(.t 11,_),(.t 12,_),(.t 54,_),(.h 1,_),(.h 9,_),(.h 11,_)] ⟨U,U,U,U,U,U,U,U,U,U,trivial⟩ (fun(b:Bool)=>[(.t 90,bV b)]) (fun(b:Bool)=>(b=true->kdL l=wBetter\/kdL l=wCost)/\(b=false->kdL l≠wBetter/\kdL l≠wCost)) ?_ ?_
  ·skip
   refine A4 U ?_ ?_<;>intro a<;>try simp only[SL]at a
   ·refine A6 ?_
    refine⟨_,?_,⟨U,U,U,U,U,U,U,U,U,U,U,trivial⟩⟩;exact⟨fun _=> .inl a,fun h=>absurd a (of_decide_eq_false h)⟩
   refine A0<|H0 U U<|y_S U<|xN [1,7,9,10,11,12,54,90] [1,9,11] U ?_
   refine⟨_,?_,⟨U,U,U,U,U,U,U,U,U,U,U,trivial⟩⟩;exact⟨fun h=> .inr (of_decide_eq_true h),fun h=>⟨a,of_decide_eq_false h⟩⟩
  intro b d;refine A4 U ?_ ?_<;>intro a<;>try simp only[SL]at a
  ·have v:=d.1 a
   refine A3<|A3<|A0<|y_M U<|H5 U<|xN [1,7,9,94] [1,9] U ?_
   refine A4 U (fun a=>absurd a (by exact fun h=>ZH (show false=true from h))) (fun a=> ?_);refine A6<|A3<|A3<|A0<|y_M U<|H0 U U<|xN [1,9,97] [1,9] U ?_
   refine A4 U ?_ ?_<;>intro a<;>try simp only[SL]at a
   ·refine A3<|A0<|y_B U ?_
    have L:=c0q r I;have X:=d7l r;have ah:=d9n r;have al:=U9 X L;refine xC1 U U ((by have p:=c4e (oG:=oG) t I r aa;rw[<-K4]at p;exact p)) ⟨U,U,U⟩ U U fun ag=> ?_
    refine xC1 U U ((by have p:=a6d (oG:=oG) (a6x t) (by omega) L;rw[<-K4]at p;exact p)) ⟨U,U,U⟩ U U fun a0=> ?_
    refine y_M U<|y_S U ?_
    (refine xO U U (by simp) U (fun _=>U) (fun _=>U) ?_;intro g5)
    refine xN [4,5] [5] U<|A9 ?_
    refine⟨_,_,?_,B8 (C9 U U (F9 U U (by simp) (by exact A7 fun _=>U) (C4 B3))) U⟩;exact⟨C,by rw[Z7 hlt a m,a9a K];rfl,U,by rw[Z7 hlt a m],o⟩
   refine A6<|A3<|A0<|y_B U ?_
   have ai:=S0 t;refine xC1 U U ((by have p:=e0r (oG:=oG) t (by omega);rw[<-K4]at p;exact p)) ⟨U,U,U⟩ U U fun a1=> ?_
   refine xC1 U U (T5 (Y1 t) (by omega)) ⟨U,U,U⟩ U U fun a2=> ?_
   refine y_M U<|y_S U ?_
   (refine xO U U (by simp) U (fun _=>U) (fun _=>U) ?_;intro g5)
   refine xN [4,5] [5] U<|A9 ?_
   refine⟨_,_,?_,B8 (C9 U U (F9 U U (by simp) (by exact A7 fun _=>U) (C4 B3))) U⟩;exact⟨C,by rw[a2t hlt (v.resolve_left a) m,a5t K];rfl,U,by rw[a2t hlt (v.resolve_left a) m],o⟩
  obtain⟨y,A⟩:=d.2 (by simpa using a);refine V2<|A3<|A0<|H0 U U<|y_S U<|xN [1,7,11,12,54,106] [1,11] U ?_
  refine Y9 (β:=Bool) [(.t 1,_),(.t 7,_),(.t 11,_),(.t 12,_),(.h 1,_),(.h 11,_)] ⟨U,U,U,U,U,U,trivial⟩ (fun(b:Bool)=>[(.t 106,bV b)]) (fun(b:Bool)=>(b=true->b3u (kdL l))/\(b=false->¬b3u (kdL l))) ?_ ?_
  ·skip
   refine A4 U ?_ ?_<;>intro a<;>try simp only[SL]at a
   ·refine A6 ?_
    refine⟨_,?_,⟨U,U,U,U,U,U,U,trivial⟩⟩;exact⟨fun _=> .inl a,fun h=>absurd a (of_decide_eq_false h)⟩
   refine A3<|A0<|H0 U U<|y_S U<|xN [1,7,11,12,54,106] [1,11] U ?_
   refine A4 U ?_ ?_<;>intro a<;>try simp only[SL]at a
   ·refine A6 ?_
    refine⟨_,?_,⟨U,U,U,U,U,U,U,trivial⟩⟩;exact⟨fun _=> .inr (.inl a),fun h=>absurd a (of_decide_eq_false h)⟩
   refine A3<|A0<|H0 U U<|y_S U<|xN [1,7,11,12,54,106] [1,11] U ?_
   refine A4 U ?_ ?_<;>intro a<;>try simp only[SL]at a
   ·refine A6 ?_
    refine⟨_,?_,⟨U,U,U,U,U,U,U,trivial⟩⟩;exact⟨fun _=> .inr (.inr (.inl a)),fun h=>absurd a (of_decide_eq_false h)⟩
   refine A3<|A0<|H0 U U<|y_S U<|xN [1,7,11,12,54,106] [1,11] U ?_
   refine A4 U ?_ ?_<;>intro a<;>try simp only[SL]at a
   ·refine A6 ?_
    refine⟨_,?_,⟨U,U,U,U,U,U,U,trivial⟩⟩;exact⟨fun _=> .inr (.inr (.inr (.inl a))),fun h=>absurd a (of_decide_eq_false h)⟩
   refine A0<|H0 U U<|y_S U<|xN [1,7,11,12,106] [1,11] U ?_
   refine⟨_,?_,⟨U,U,U,U,U,U,U,trivial⟩⟩;exact⟨fun h=> .inr (.inr (.inr (.inr (of_decide_eq_true h)))),fun h e=>by rcases e with e|e|e|e|e<;>first|exact absurd e (of_decide_eq_false h)|exact absurd e (by assumption)⟩
  intro b d;refine A4 U ?_ ?_<;>intro a<;>try simp only[SL]at a
  ·have q:=d.1 a
   refine A3<|A3<|A0<|y_M U<|H5 U<|xN [1,7,11,113] [1,11] U ?_
   refine A4 U (fun a=> ?_) (fun a=>absurd a (by decide));refine A3<|A0<|y_M U<|y_S U ?_
   (refine xO U U (by simp) U (fun _=>U) (fun _=>U) ?_;intro g5)
   refine xN [4,5] [5] U<|A9 ?_
   refine⟨_,_,?_,B8 (C9 U U (F9 U U (by simp) (by exact A7 fun _=>U) (C4 B3))) U⟩;obtain⟨J,P,Q,-⟩:=b7e q;exact⟨C,by rw[a2v hlt J P Q F];rfl,U,by rw[a2v hlt J P Q F],o⟩
  have D:=d.2 (by simpa using a);refine A6<|A3<|A0<|y_M U<|y_S U ?_
  (refine xO U U (by simp) U (fun _=>U) (fun _=>U) ?_;intro g5)
  refine xN [4,5] [5] U<|A9 ?_
  refine⟨_,_,?_,B8 (C9 U U (F9 U U (by simp) (by exact A7 fun _=>U) (C4 B3))) U⟩;have E:=d8e B y A D;exact⟨C,by rw[Q0 (fun h=>by rw[E]at h;cases h.2)];rfl,U,by rw[Q0 (fun h=>by rw[E]at h;cases h.2)],o⟩
 obtain⟨_,_,⟨ns,rfl,rfl,a8⟩,G⟩:=e7l (oG:=oG) t I r C o (by omega) H;rw[<-K4]at G;rw[hr]at G;obtain rfl:=a8 ms hr;have F:Mv.runT (n4 C) (rsL l)=some ns:=by rw[e1j o,a9d o K,hr]
 have O:=a7r o I hr;have bf:=(P7.1 O).1;have am:=e7s O;apply xC U
 ·apply B0
  ·exact B2 U
  apply B0
  ·exact E6 U U U (by(simp;done)) (fun _=>U)
  exact C8
 ·exact G
 refine⟨⟨U,U,U,dT U,U⟩,.inr ⟨H9 _ _,U⟩,B6,G9 (K5 fun _=>J0 U K6),fun _=>U,fun af=> ?_⟩;simp only[Zh];refine y_M U<|y_E U<|y_E U ?_
 (refine xO U U (by simp) U (fun _=>U) (fun _=>U) ?_;intro g11)
 refine y_S U<|xN [1,7,9,10,11,12] [1,9,11] U<|A3<|A3<|A0<|y_M U<|xN [1,7,9,10,11,12,54] [1,9,11] U<|A8<|V2<|A3<|A0<|H0 U U<|y_S U<|xN [1,7,9,10,11,12,54,55] [1,9,11] U ?_
 refine Y9 (β:=Bool) [(.t 1,_),(.t 7,_),(.t 9,_),(.t 10,_),(.t 11,_),(.t 12,_),(.t 54,_),(.h 1,_),(.h 9,_),(.h 11,_)] ⟨U,U,U,U,U,U,U,U,U,U,trivial⟩ (fun(b:Bool)=>[(.t 55,bV b)]) (fun(b:Bool)=>(b=true->∃k,k<4/\kdL l=one4 k)/\(b=false->∀k,k<4->kdL l≠one4 k)) ?_ ?_
 ·skip
  refine A4 U ?_ ?_<;>intro a<;>try simp only[SL]at a
  ·refine A6 ?_
   refine⟨_,?_,⟨U,U,U,U,U,U,U,U,U,U,U,trivial⟩⟩;exact⟨fun _=>⟨0,by decide,a⟩,fun h=>absurd a (of_decide_eq_false h)⟩
  refine A3<|A0<|H0 U U<|y_S U<|xN [1,7,9,10,11,12,54,55] [1,9,11] U ?_
  refine A4 U ?_ ?_<;>intro a<;>try simp only[SL]at a
  ·refine A6 ?_
   refine⟨_,?_,⟨U,U,U,U,U,U,U,U,U,U,U,trivial⟩⟩;exact⟨fun _=>⟨1,by decide,a⟩,fun h=>absurd a (of_decide_eq_false h)⟩
  refine A3<|A0<|H0 U U<|y_S U<|xN [1,7,9,10,11,12,54,55] [1,9,11] U ?_
  refine A4 U ?_ ?_<;>intro a<;>try simp only[SL]at a
  ·refine A6 ?_
   refine⟨_,?_,⟨U,U,U,U,U,U,U,U,U,U,U,trivial⟩⟩;exact⟨fun _=>⟨2,by decide,a⟩,fun h=>absurd a (of_decide_eq_false h)⟩
  refine A0<|H0 U U<|y_S U<|xN [1,7,9,10,11,12,54,55] [1,9,11] U ?_
  refine⟨_,?_,⟨U,U,U,U,U,U,U,U,U,U,U,trivial⟩⟩;exact⟨fun h=>⟨3,by decide,of_decide_eq_true h⟩,fun h=>f3r (by assumption) (by assumption) (by assumption) (of_decide_eq_false h)⟩
 intro b d;refine A4 U ?_ ?_<;>intro a<;>try simp only[SL]at a
 ·obtain⟨k,T,R⟩:=d.1 a
  refine A3<|A3<|A0<|y_M U<|H5 U<|y_M U<|H1 U U U<|y_M U<|H1 U U U ?_
  apply xC U
  ·apply B0
   ·exact E6 U U U (by(simp;done)) (fun _=>U)
   exact C8
  ·exact Z2 ns (by omega)
  refine⟨⟨U,U,U,dT U,U⟩,.inr ⟨U,U⟩,B6,F7 U,fun _=>U,fun bg=> ?_⟩;refine H1 U U U<|H5 U<|E8 U U U U<|xN [1,7,11,66] [1,11] U ?_
  refine A4 U ?_ ?_<;>intro a<;>try simp only[SL]at a
  ·refine A3<|A0<|y_M U<|y_S U ?_
   (refine xO U U (by simp) U (fun _=>U) (fun _=>U) ?_;intro g5)
   refine xN [4,5] [5] U<|A9 ?_
   refine⟨_,_,?_,B8 (C9 U U (F9 U U (by simp) (by exact A7 fun _=>U) (C4 B3))) U⟩;exact⟨C,by rw[a9o hlt T R F (by simp_all)];rfl,U,by rw[a9o hlt T R F (by simp_all)],o⟩
  have Z:vd ns=true:=by simpa using a
  refine A6<|A3<|A0<|C0 (es:=ZA oI []) U U (dT U) U U (fun _=>B5 (A7 fun _=>U)) (fun _=>U) ?_
  intro bh
  (refine xO U U (by simp) U (fun _=>U) (fun _=>U) ?_;intro g13)
  refine xN [1,7,11,13] [1,11,13] U<|A3<|A3<|A0<|y_S U<|xN [1,7,11,13,14] [1,11,13] U<|A8<|D7 (β:=Nat×List (List Int)×Nat) [(.t 1,_),(.t 7,_),(.t 11,_),(.h 1,_),(.h 11,_)] (fun(z:Nat×List (List Int)×Nat)=>match z with|(i,rows,g)=>[(.t 14,nV i),(.t 13,.sl 13 g none 0 rows.length),(.h 13,.obj g 0 1 (rows.map lF))]) (fun(z:Nat×List (List Int)×Nat)=>match z with|(i,rows,g)=>i<=4/\rows=(n4 C).take i) (fun(z:Nat×List (List Int)×Nat)=>match z with|(i,rows,g)=>4-i) (0,[],_) ⟨U,U,U,U,U,U,U,U,trivial⟩ ⟨by decide,U⟩ ?_
  intro z d;obtain⟨i,rows,g⟩:=z
  try dsimp only at d
  obtain⟨M,V⟩:=d;have bb:rows.length=i:=by rw[V,ZU];omega
  refine A3<|A3<|A0<|y_M U<|F0 U U<|xN [1,7,11,13,14,70] [1,11,13] U ?_
  refine A4 U ?_ ?_<;>intro a<;>try simp only[SL]at a
  ·refine A6<|A3<|A8<|A0<|y_M U<|y_M U<|y_M U<|D6 U U (B9 (by omega)) ?_
   rw[show((i:Int)+1)=((i+1:Nat):Int) by omega];refine a1n U U (G2 U) (G2 U) (by(simp;omega))<|y_M U ?_
   rw[f5w (by omega)];apply xC U
   ·apply B0
    ·exact B2 U
    apply B0
    ·exact E6 U U U (by(simp;done)) (fun _=>U)
    exact C8
   ·exact b9k i (by omega) C (by omega) H
   refine⟨⟨U,U,U,dT U,U⟩,.inr ⟨P0 fun _=>U,U⟩,B6,G6,fun _=>U,fun bi=> ?_⟩;simp only[Zh];refine c6q (φ:=iV) U U (by simp) (fun _=>U) U U U U (fun _=>U) ?_;intro bj;rw[show([.list (ZA iV (C.getD i default))]:List AV)=ZA lF [C.getD i default]from U];refine xA U U U U (by simp) (by simp) U U U U U (fun _=>U) (by simp only[LN];omega) (fun _=>U) ?_;intro bk
   (refine xO U U (by simp) U (fun _=>U) (fun _=>U) ?_;intro g13)
   refine xN [1,7,11,13,14] [1,11,13] U<|A0<|y_M U<|D6 U U (B9 (by omega))<|y_S U<|xN [1,7,11,13,14] [1,11,13] U ?_
   refine⟨(i+1,rows++[C.getD i default],_),?_,(by simp only;omega),⟨U,U,U,U,U,U,U,U,trivial⟩⟩;exact⟨by omega,by rw[V,f1y (by omega)]⟩
  have a9:rows=n4 C:=by rw[V,show i=4 by omega];rfl
  clear V;subst a9;refine D5<|A3<|A0<|y_M U<|y_M U ?_
  rw[R];refine M3 (n:=0) U U U (show 0<(one4 k).length from Nat.one_pos) ?_;rw[e3i T];refine J8 U U (d4x (by omega)) ?_;rw[show((97+k:Nat):Int)-97=(k:Int) by omega];refine a6f U U U (B9 (by omega))<|y_M U<|C6 U U U U (by omega) (by(simp;done)) U ?_
  refine a1u (e:=lF ((n4 C).getD k default)) U U U (getElem?_map_getD (by omega)) U U (by simp) (A7 fun _=>U) (by decide) (fun _=>U) U (Zd 1) U (C7 (by rw[O3 fun _=>U];exact P8 (A7 fun _=>U) (by decide)) (I1 (by rw[e1h];exact B5 (A7 fun _=>U)))) ?_;rw[e1h];refine xN [13] [13] U<|A3<|A0<|y_M U<|y_S U ?_
  (refine xO U U (by simp) U (fun _=>U) (fun _=>U) ?_;intro g5)
  refine xN [4,5] [5] U<|A9 ?_
  refine⟨_,_,?_,B8 (C9 U U (F9 U U (by simp) (by exact A7 fun _=>U) (C4 B3))) U⟩;exact⟨(n4 C).set k ns,by rw[T9 hlt T R F Z];rfl,U,by rw[T9 hlt T R F Z];exact f5q (by rw[List.length_set];rfl),e1o (d8k o) Z⟩
 have B:=d.2 (by simpa using a);refine V2<|A3<|A0<|H0 U U<|y_S U<|xN [1,7,9,10,11,12,54,90] [1,9,11] U ?_
 refine Y9 (β:=Bool) [(.t 1,_),(.t 7,_),(.t 9,_),(.t 10,_),(.t 11,_),(.t 12,_),(.t 54,_),(.h 1,_),(.h 9,_),(.h 11,_)] ⟨U,U,U,U,U,U,U,U,U,U,trivial⟩ (fun(b:Bool)=>[(.t 90,bV b)]) (fun(b:Bool)=>(b=true->kdL l=wBetter\/kdL l=wCost)/\(b=false->kdL l≠wBetter/\kdL l≠wCost)) ?_ ?_
 ·skip
  refine A4 U ?_ ?_<;>intro a<;>try simp only[SL]at a
  ·refine A6 ?_
   refine⟨_,?_,⟨U,U,U,U,U,U,U,U,U,U,U,trivial⟩⟩;exact⟨fun _=> .inl a,fun h=>absurd a (of_decide_eq_false h)⟩
  refine A0<|H0 U U<|y_S U<|xN [1,7,9,10,11,12,54,90] [1,9,11] U ?_
  refine⟨_,?_,⟨U,U,U,U,U,U,U,U,U,U,U,trivial⟩⟩;exact⟨fun h=> .inr (of_decide_eq_true h),fun h=>⟨a,of_decide_eq_false h⟩⟩
 intro b d;refine A4 U ?_ ?_<;>intro a<;>try simp only[SL]at a
 ·have v:=d.1 a
  refine A3<|A3<|A0<|y_M U<|H5 U<|xN [1,7,9,94] [1,9] U ?_
  refine A4 U (fun a=>absurd a (by exact fun h=>ZH (show false=true from h))) (fun a=> ?_);refine A6<|A3<|A3<|A0<|y_M U<|H0 U U<|xN [1,9,97] [1,9] U ?_
  refine A4 U ?_ ?_<;>intro a<;>try simp only[SL]at a
  ·refine A3<|A0<|y_B U ?_
   have L:=c0q r I;have X:=d7l r;have ah:=d9n r;have al:=U9 X L;refine xC1 U U ((by have p:=c4e (oG:=oG) t I r aa;rw[<-K4]at p;exact p)) ⟨U,U,U⟩ U U fun ag=> ?_
   refine xC1 U U ((by have p:=a6d (oG:=oG) (a6x t) (by omega) L;rw[<-K4]at p;exact p)) ⟨U,U,U⟩ U U fun a0=> ?_
   refine y_M U<|y_S U ?_
   (refine xO U U (by simp) U (fun _=>U) (fun _=>U) ?_;intro g5)
   refine xN [4,5] [5] U<|A9 ?_
   refine⟨_,_,?_,B8 (C9 U U (F9 U U (by simp) (by exact A7 fun _=>U) (C4 B3))) U⟩;exact⟨C,by rw[Z7 hlt a m,a9a K];rfl,U,by rw[Z7 hlt a m],o⟩
  refine A6<|A3<|A0<|y_B U ?_
  have ai:=S0 t;refine xC1 U U ((by have p:=e0r (oG:=oG) t (by omega);rw[<-K4]at p;exact p)) ⟨U,U,U⟩ U U fun a1=> ?_
  refine xC1 U U (T5 (Y1 t) (by omega)) ⟨U,U,U⟩ U U fun a2=> ?_
  refine y_M U<|y_S U ?_
  (refine xO U U (by simp) U (fun _=>U) (fun _=>U) ?_;intro g5)
  refine xN [4,5] [5] U<|A9 ?_
  refine⟨_,_,?_,B8 (C9 U U (F9 U U (by simp) (by exact A7 fun _=>U) (C4 B3))) U⟩;exact⟨C,by rw[a2t hlt (v.resolve_left a) m,a5t K];rfl,U,by rw[a2t hlt (v.resolve_left a) m],o⟩
 obtain⟨y,A⟩:=d.2 (by simpa using a);refine V2<|A3<|A0<|H0 U U<|y_S U<|xN [1,7,11,12,54,106] [1,11] U ?_
 refine Y9 (β:=Bool) [(.t 1,_),(.t 7,_),(.t 11,_),(.t 12,_),(.h 1,_),(.h 11,_)] ⟨U,U,U,U,U,U,trivial⟩ (fun(b:Bool)=>[(.t 106,bV b)]) (fun(b:Bool)=>(b=true->b3u (kdL l))/\(b=false->¬b3u (kdL l))) ?_ ?_
 ·skip
  refine A4 U ?_ ?_<;>intro a<;>try simp only[SL]at a
  ·refine A6 ?_
   refine⟨_,?_,⟨U,U,U,U,U,U,U,trivial⟩⟩;exact⟨fun _=> .inl a,fun h=>absurd a (of_decide_eq_false h)⟩
  refine A3<|A0<|H0 U U<|y_S U<|xN [1,7,11,12,54,106] [1,11] U ?_
  refine A4 U ?_ ?_<;>intro a<;>try simp only[SL]at a
  ·refine A6 ?_
   refine⟨_,?_,⟨U,U,U,U,U,U,U,trivial⟩⟩;exact⟨fun _=> .inr (.inl a),fun h=>absurd a (of_decide_eq_false h)⟩
  refine A3<|A0<|H0 U U<|y_S U<|xN [1,7,11,12,54,106] [1,11] U ?_
  refine A4 U ?_ ?_<;>intro a<;>try simp only[SL]at a
  ·refine A6 ?_
   refine⟨_,?_,⟨U,U,U,U,U,U,U,trivial⟩⟩;exact⟨fun _=> .inr (.inr (.inl a)),fun h=>absurd a (of_decide_eq_false h)⟩
  refine A3<|A0<|H0 U U<|y_S U<|xN [1,7,11,12,54,106] [1,11] U ?_
  refine A4 U ?_ ?_<;>intro a<;>try simp only[SL]at a
  ·refine A6 ?_
   refine⟨_,?_,⟨U,U,U,U,U,U,U,trivial⟩⟩;exact⟨fun _=> .inr (.inr (.inr (.inl a))),fun h=>absurd a (of_decide_eq_false h)⟩
  refine A0<|H0 U U<|y_S U<|xN [1,7,11,12,106] [1,11] U ?_
  refine⟨_,?_,⟨U,U,U,U,U,U,U,trivial⟩⟩;exact⟨fun h=> .inr (.inr (.inr (.inr (of_decide_eq_true h)))),fun h e=>by rcases e with e|e|e|e|e<;>first|exact absurd e (of_decide_eq_false h)|exact absurd e (by assumption)⟩
 intro b d;refine A4 U ?_ ?_<;>intro a<;>try simp only[SL]at a
 ·have q:=d.1 a
  refine A3<|A3<|A0<|y_M U<|H5 U<|xN [1,7,11,113] [1,11] U ?_
  refine A4 U (fun a=>absurd a (by exact fun h=>ZH (show false=true from h))) (fun a=> ?_);refine A6<|A3<|A3<|A0<|y_M U<|H0 U U<|xN [1,7,11,116] [1,11] U ?_
  refine A4 U ?_ ?_<;>intro a<;>try simp only[SL]at a
  ·refine A3<|A0<|y_M U ?_
   apply xC U
   ·apply B0
    ·exact E6 U U U (by(simp;done)) (fun _=>U)
    exact C8
   ·exact b0j ns (by omega) am
   refine⟨⟨U,U,U,dT U,U⟩,.inr ⟨U,U⟩,B6,F7 U,fun _=>U,fun ar=> ?_⟩;refine y_M U<|y_S U ?_
   (refine xO U U (by simp) U (fun _=>U) (fun _=>U) ?_;intro g5)
   refine xN [4,5] [5] U<|A9 ?_
   refine⟨_,_,?_,B8 (C9 U U (F9 U U (by simp) (by exact A7 fun _=>U) (C4 B3))) U⟩;have f:=S1 hlt q F;rw[show kdL l=c5b from by assumption,c4u]at f;rw[if_pos (by rfl)]at f;exact⟨C,by rw[f];rfl,U,by rw[f],o⟩
  refine A6 ?_;refine Y9 (β:=Unit) [(.t 1,_),(.t 7,_),(.t 11,_),(.h 1,_),(.h 11,_)] ⟨U,U,U,U,U,trivial⟩ (fun(_:Unit)=>[]) (fun(_:Unit)=>kdL l=a3r->ns.length=0) ?_ ?_
  ·skip
   refine A3<|A0<|y_M U<|H0 U U<|y_M U ?_
   refine D3 U U ?_ ?_<;>intro u<;>have S:=u<;>try simp only[SG]at S
   ·refine y_M U<|gT U U<|H2 U U<|gT U U<|M0 U U<|E9 U (by assumption) U U<|xN [1,7,11,126] [1,11] U ?_
    refine A4 U ?_ ?_<;>intro a<;>try simp only[SL]at a
    ·refine A3<|A0<|y_M U ?_
     have a7:1<=ns.length:=by omega
     have bn:=d5y a7 (b3x O);apply xC U
     ·apply B0
      ·exact E6 U U U (by(simp;done)) (fun _=>U)
      exact C8
     ·exact e3j ns ⟨a7,by omega⟩ (b3x O)
     refine⟨⟨U,U,U,dT U,U⟩,.inr ⟨U,U⟩,B6,F7 U,fun _=>U,fun au=> ?_⟩;refine xC2 U U U (e0u (mdI ns) 2 (by omega) (by omega) (by omega)) ⟨U,U,U⟩ U U fun av=> ?_
     refine xC1 U U (d7b (Rat.divInt (mdI ns) 2) (d7w O (by omega))) ⟨U,U,U⟩ U U fun aw=> ?_
     refine y_M U<|y_S U ?_
     (refine xO U U (by simp) U (fun _=>U) (fun _=>U) ?_;intro g5)
     refine xN [4,5] [5] U<|A9 ?_
     refine⟨_,_,?_,B8 (C9 U U (F9 U U (by simp) (by exact A7 fun _=>U) (C4 B3))) U⟩;have f:=S1 hlt q F;rw[show kdL l=a3r from by assumption,b5m (by omega)]at f;rw[if_pos (by rfl)]at f;exact⟨C,by rw[f];rfl,U,by rw[f],o⟩
    refine A6 ?_;refine⟨(),?_,⟨U,U,U,U,U,trivial⟩⟩;exact fun _=>by omega
   refine gF U U<|gF U U<|E8 U (by assumption) U U<|xN [1,7,11,126] [1,11] U ?_
   refine A4 U (fun a=>absurd a (by decide)) (fun a=> ?_);refine A6 ?_;refine⟨(),?_,⟨U,U,U,U,U,trivial⟩⟩;exact fun e=>absurd e (by assumption)
  intro _ d;have a3:=d;refine Y9 (β:=Unit) [(.t 1,_),(.t 7,_),(.t 11,_),(.h 1,_),(.h 11,_)] ⟨U,U,U,U,U,trivial⟩ (fun(_:Unit)=>[]) (fun(_:Unit)=>kdL l=b8y->¬vlo ns=true) ?_ ?_
  ·skip
   refine A3<|A0<|y_M U<|H0 U U<|y_M U ?_
   refine D3 U U ?_ ?_<;>intro u<;>have S:=u<;>try simp only[SG]at S
   ·refine y_M U<|gT U U<|y_M U<|gT U U<|H2 U U<|gT U U ?_
    apply xC U
    ·apply B0
     ·exact B2 U
     exact C8
    ·exact d1m ns.length (by omega)
    refine⟨⟨U,U,U,dT U,U⟩,.inl U,B6,G6,fun _=>U,fun ax=> ?_⟩;refine gT U U ?_;apply xC U
    ·apply B0
     ·exact E6 U U U (by(simp;done)) (fun _=>U)
     apply B0
     ·exact E6 U U U (by(simp;done)) (fun _=>U)
     exact C8
    ·exact e8f ns (by omega)
    refine⟨⟨U,U,U,dT U,U⟩,.inr ⟨U,U⟩,B6,F7 U,fun _=>U,fun ay=> ?_⟩;refine E9 U (by assumption) U U<|xN [1,7,11,140] [1,11] U ?_
    refine A4 U ?_ ?_<;>intro a<;>try simp only[SL]at a
    ·refine A3<|A0<|y_M U<|y_M U<|H2 U U ?_
     apply xC U
     ·apply B0
      ·exact B2 U
      exact C8
     ·exact d1m ns.length (by omega)
     refine⟨⟨U,U,U,dT U,U⟩,.inl U,B6,G6,fun _=>U,fun az=> ?_⟩;apply xC U
     ·apply B0
      ·exact E6 U U U (by(simp;done)) (fun _=>U)
      apply B0
      ·exact E6 U U U (by(simp;done)) (fun _=>U)
      exact C8
     ·exact f0o ns (by omega)
     refine⟨⟨U,U,U,dT U,U⟩,.inr ⟨P0 fun _=>U,U⟩,B6,G6,fun _=>U,fun b0=> ?_⟩;have bo:=c6h ns;apply xC U
     ·apply B0
      ·exact E6 U U U (by(simp;done)) (fun _=>U)
      exact C8
     ·exact f0c (riseQ ns) (by omega) b7q
     refine⟨⟨U,U,U,dT U,U⟩,.inr ⟨U,U⟩,B6,F7 U,fun _=>U,fun b1=> ?_⟩;refine y_M U<|y_S U ?_
     (refine xO U U (by simp) U (fun _=>U) (fun _=>U) ?_;intro g5)
     refine xN [4,5] [5] U<|A9 ?_
     refine⟨_,_,?_,B8 (C9 U U (F9 U U (by simp) (by exact A7 fun _=>U) (C4 B3))) U⟩;have ba:=c5c (l:=ns) (by assumption);have be:=(a6e.1 (show vlo ns=true by assumption)).1;have f:=S1 hlt q F;rw[show kdL l=b8y from by assumption,c5e]at f;rw[if_pos (by exact decide_eq_true (by omega))]at f;exact⟨C,by rw[f];rfl,U,by rw[f],o⟩
    refine A6 ?_;refine⟨(),?_,⟨U,U,U,U,U,trivial⟩⟩;exact fun _ h=>by rw[a]at h;cases h
   iterate 4 refine gF U U ?_
   refine E8 U (by assumption) U U<|xN [1,7,11,140] [1,11] U ?_
   refine A4 U (fun a=>absurd a (by decide)) (fun a=> ?_);refine A6 ?_;refine⟨(),?_,⟨U,U,U,U,U,trivial⟩⟩;exact fun e=>absurd e (by assumption)
  intro _ d;have a4:=d;refine Y9 (β:=Unit) [(.t 1,_),(.t 7,_),(.t 11,_),(.h 1,_),(.h 11,_)] ⟨U,U,U,U,U,trivial⟩ (fun(_:Unit)=>[]) (fun(_:Unit)=>kdL l=c1t->¬vd ns=true) ?_ ?_
  ·skip
   refine A3<|A0<|y_M U<|H0 U U<|y_M U ?_
   refine D3 U U ?_ ?_<;>intro u<;>have S:=u<;>try simp only[SG]at S
   ·refine y_M U<|gT U U ?_
    apply xC U
    ·apply B0
     ·exact E6 U U U (by(simp;done)) (fun _=>U)
     exact C8
    ·exact Z2 ns (by omega)
    refine⟨⟨U,U,U,dT U,U⟩,.inr ⟨U,U⟩,B6,F7 U,fun _=>U,fun b2=> ?_⟩;refine E9 U (by assumption) U U<|xN [1,7,11,153] [1,11] U ?_
    refine A4 U ?_ ?_<;>intro a<;>try simp only[SL]at a
    ·refine A3<|A0<|y_M U ?_
     obtain⟨f1,f2,f3,f4⟩:=d7g ns;have f5:=L4 ⟨f1,f2⟩;have f6:=L4 ⟨f3,f4⟩;apply xC U
     ·apply B0
      ·exact E6 U U U (by(simp;done)) (fun _=>U)
      exact C8
     ·exact f2f ns (by omega)
     refine⟨⟨U,U,U,dT U,U⟩,.inr ⟨U,U⟩,B6,I7 U,fun _=>U,fun b3=> ?_⟩;refine y_M U<|y_E U<|y_E U<|y_S U<|y_S U<|xN [1,15,16] [1] U<|A3<|A0<|y_M U ?_
     refine xC1 U U (T5 (flX ns).1 ⟨f1,f2⟩) ⟨U,U,U⟩ U U fun b4=> ?_
     refine N6 U U (by simp only[H6,Zl,Zg,Zs];omega)<|y_M U ?_
     refine xC1 U U (T5 (flX ns).2 ⟨f3,f4⟩) ⟨U,U,U⟩ U U fun b5=> ?_
     refine N6 U U (by simp only[H6,Zl,Zg,Zs];omega)<|y_M U<|y_S U ?_
     (refine xO U U (by simp) U (fun _=>U) (fun _=>U) ?_;intro g5)
     refine xN [4,5] [5] U<|A9 ?_
     refine⟨_,_,?_,B8 (C9 U U (F9 U U (by simp) (by exact A7 fun _=>U) (C4 B3))) U⟩;have bm:0<(flX ns).2:=by rw[c8h (by assumption)];exact Int.natCast_pos.2 (Nat.two_pow_pos _)
     have f:=S1 hlt q F;rw[show kdL l=c1t from by assumption,c5q]at f;rw[if_pos (by exact decide_eq_true (by omega))]at f;exact⟨C,by rw[f];rfl,U,by rw[f],o⟩
    refine A6 ?_;refine⟨(),?_,⟨U,U,U,U,U,trivial⟩⟩;exact fun _ h=>by rw[a]at h;cases h
   refine gF U U<|E8 U (by assumption) U U<|xN [1,7,11,153] [1,11] U ?_
   refine A4 U (fun a=>absurd a (by decide)) (fun a=> ?_);refine A6 ?_;refine⟨(),?_,⟨U,U,U,U,U,trivial⟩⟩;exact fun e=>absurd e (by assumption)
  intro _ d;have a5:=d;refine A3<|A3<|A0<|y_M U<|H0 U U<|y_M U ?_
  refine D3 U U ?_ ?_<;>intro u<;>have S:=u<;>try simp only[SG]at S
  ·refine y_M U<|gT U U ?_
   apply xC U
   ·apply B0
    ·exact E6 U U U (by(simp;done)) (fun _=>U)
    exact C8
   ·exact f5g ns (by omega)
   refine⟨⟨U,U,U,dT U,U⟩,.inr ⟨U,U⟩,B6,F7 U,fun _=>U,fun b6=> ?_⟩;refine E9 U (by assumption) U U<|xN [1,11,171] [1,11] U ?_
   refine A4 U ?_ ?_<;>intro a<;>try simp only[SL]at a
   ·refine A3<|A0<|y_M U ?_
    have ac:vo ns=true:=by assumption
    obtain⟨bt,ap,aq⟩:=d7y.1 ac;have W:sdR ns=sdU ns ns.length:=by rw[sdR,if_pos ac]
    have bc:=c9q ns;apply xC U
    ·apply B0
     ·exact E6 U U U (by(simp;done)) (fun _=>U)
     exact C8
    ·exact d2l ns ap (fun x hx=>c0m aq hx)
    refine⟨⟨U,U,U,dT U,U⟩,.inr ⟨P0 fun _=>U,U⟩,B6,G6,fun _=>U,fun b7=> ?_⟩;rw[<-W]
    try simp only[Zh]
    apply xC U
    ·apply B0
     ·exact E6 U U U (by(simp;done)) (fun _=>U)
     exact C8
    ·exact b0j (sdR ns) (by omega) d6v
    refine⟨⟨U,U,U,dT U,U⟩,.inr ⟨U,U⟩,B6,F7 U,fun _=>U,fun b8=> ?_⟩;refine y_M U<|y_S U ?_
    (refine xO U U (by simp) U (fun _=>U) (fun _=>U) ?_;intro g5)
    refine xN [4,5] [5] U<|A9 ?_
    refine⟨_,_,?_,B8 (C9 U U (F9 U U (by simp) (by exact A7 fun _=>U) (C4 B3))) U⟩;have bd:(sdR ns).length=ns.length:=by rw[W,d7p]
    have f:=S1 hlt q F;rw[show kdL l=c5k from by assumption,c5w]at f;rw[if_pos (by exact decide_eq_true (by omega))]at f;exact⟨C,by rw[f];rfl,U,by rw[f],o⟩
   refine A6<|A3<|A0<|y_M U<|y_S U ?_
   (refine xO U U (by simp) U (fun _=>U) (fun _=>U) ?_;intro g5)
   refine xN [4,5] [5] U<|A9 ?_
   refine⟨_,_,?_,B8 (C9 U U (F9 U U (by simp) (by exact A7 fun _=>U) (C4 B3))) U⟩;have Y:=d9z (w:=kdL l) (ns:=ns) (by assumption) a3 a4 a5 (by exact fun _ h=>by rw[a]at h;cases h);have f:=S1 hlt q F;rw[if_neg (by rw[Y];decide)]at f;exact⟨C,by rw[f];rfl,U,by rw[f],o⟩
  refine gF U U<|E8 U (by assumption) U U<|xN [1,11,171] [1,11] U ?_
  refine A4 U (fun a=>absurd a (by decide)) (fun a=> ?_);refine A6<|A3<|A0<|y_M U<|y_S U ?_
  (refine xO U U (by simp) U (fun _=>U) (fun _=>U) ?_;intro g5)
  refine xN [4,5] [5] U<|A9 ?_
  refine⟨_,_,?_,B8 (C9 U U (F9 U U (by simp) (by exact A7 fun _=>U) (C4 B3))) U⟩;have Y:=d9z (w:=kdL l) (ns:=ns) (by assumption) a3 a4 a5 (by exact fun e=>absurd e (by assumption));have f:=S1 hlt q F;rw[if_neg (by rw[Y];decide)]at f;exact⟨C,by rw[f];rfl,U,by rw[f],o⟩
 have D:=d.2 (by simpa using a);refine A6<|A3<|A0<|y_M U<|y_S U ?_
 (refine xO U U (by simp) U (fun _=>U) (fun _=>U) ?_;intro g5)
 refine xN [4,5] [5] U<|A9 ?_
 refine⟨_,_,?_,B8 (C9 U U (F9 U U (by simp) (by exact A7 fun _=>U) (C4 B3))) U⟩;have E:=d8e B y A D;exact⟨C,by rw[Q0 (fun h=>by rw[E]at h;cases h.2)];rfl,U,by rw[Q0 (fun h=>by rw[E]at h;cases h.2)],o⟩
theorem d5j:D8 Tryz.f50=[0,1,4,5,12,13,17,21,26,35,34,36,33,8,6,50,10,9,65,11]:=by kernel_rfl
theorem f4k(w:W8)(ns:List Int)(d:vl ns=true):CW (cxT oG) 50 [tV w,L ns]=some (.tup [tV (X0 w ns).1,bV (X0 w ns).2],[]):=by
 have p:=(P7.1 d).1;have l:=e7s d;refine C5 U Tryz.func50 U ⟨by kernel_rfl,U,dT U,dT U,by decide⟩ d5j<|A3<|A0<|y_S U<|y_S U<|xN [0,1] [] U<|A3<|A3<|A0<|y_M U<|xN [1,12] [] U<|A8<|A3<|A0<|H0 U U<|y_S U<|xN [1,12,13] [] U ?_
 refine A4 U ?_ ?_<;>intro a<;>try simp only[SL]at a
 ·subst a
  refine A3<|A0<|y_M U ?_
  refine xC1 U U (b4h ns (by omega) l) ⟨U,U,U⟩ U U fun g16=> ?_
  refine y_S U<|y_S U<|xN [4,5] [] U<|A9<|B8 (C9 U U (C9 U U (C4 B3))) ?_
  rw[c4u]
  rfl
 refine A3<|A0<|H0 U U<|y_S U<|xN [1,12,17] [] U ?_
 refine A4 U ?_ ?_<;>intro a<;>try simp only[SL]at a
 ·subst a
  refine A3<|A3<|A0<|y_M U<|B7 U U<|M9 U U<|xN [1,21] [] U ?_
  refine A4 U ?_ ?_<;>intro a<;>try simp only[SL]at a
  ·refine A3<|A0<|y_S U<|y_S U<|xN [4,5] [] U<|A9<|B8 (C9 U U (C9 U U (C4 B3))) ?_
   rw[show X0 a3r ns=([],false)from by rw[X0,if_neg (by decide),if_pos U,if_pos (by omega)]]
   rfl
  have j:1<=ns.length:=by omega
  refine A6<|A3<|A0<|y_M U ?_
  have I:=d5y j (b3x d);refine xC1 U U (e3z ns ⟨j,by omega⟩ (b3x d)) ⟨U,U,U⟩ U U fun g23=> ?_
  refine xC2 U U U (d0d (mdI ns) 2 (by omega) (by omega) (by omega)) ⟨U,U,U⟩ U U fun g24=> ?_
  refine xC1 U U (e9a (Rat.divInt (mdI ns) 2) (d7w d (by omega))) ⟨U,U,U⟩ U U fun q=> ?_
  refine y_S U<|y_S U<|xN [4,5] [] U<|A9<|B8 (C9 U U (C9 U U (C4 B3))) ?_
  rw[b5m (by omega)]
  rfl
 refine A3<|A0<|H0 U U<|y_S U<|xN [1,12,26] [] U ?_
 refine A4 U ?_ ?_<;>intro a<;>try simp only[SL]at a
 ·subst a
  refine A3<|A0 ?_
  (refine B1 U U (fun _=>U) ?_;intro g6)
  refine xN [1,6] [6] U<|A3<|A3<|A0<|y_M U<|C0 (es:=ZA iV [_]) U U (dT U) U U (fun _=>B5 (A7 fun _=>U)) (fun _=>U) ?_
  intro r;refine y_M U<|B7 U U ?_
  apply xC U
  ·apply B0
   ·exact E6 U U U (by(simp;done)) (fun _=>U)
   apply B0
   ·exact B2 U
   exact C8
  ·exact e5u ns.length (by omega)
  refine⟨⟨U,U,U,dT U,U⟩,.inr ⟨P0 fun _=>U,U⟩,B6,G6,fun _=>U,fun s=> ?_⟩;simp only[Zh,P1];have K:=c6h ns;apply a0z U
  ·apply B0
   ·exact B2 U
   apply B0
   ·exact E6 U U U (by(simp;done)) (fun _=>U)
   exact C8
  ·exact f2o ns (by omega)
  ·exact⟨U,U,U,dT U,U⟩
  ·exact .inr ⟨P0 fun _=>U,U⟩
  ·exact B6
  ·exact G6
  ·(intro _;exact C7 (B5 (A7 fun _=>U)) U)
  intro u;simp only[Zh];refine H2 U U<|y_M U<|xN [6,33,34,35] [6,1000033] U<|A8<|D7 (β:=Nat×List W8×Nat) [(.t 33,_),(.t 34,_),(.h 1000033,_)] (fun(z:Nat×List W8×Nat)=>match z with|(i,c,g)=>[(.t 35,nV i),(.t 6,.sl 6 g none 0 c.length),(.h 6,.obj g 0 1 (c.map tV))]) (fun(z:Nat×List W8×Nat)=>match z with|(i,c,g)=>i<=(riseQ ns).length/\c=((riseQ ns).take i).map frT) (fun(z:Nat×List W8×Nat)=>match z with|(i,c,g)=>(riseQ ns).length-i) (0,[],_) ⟨U,U,U,U,U,U,trivial⟩ ⟨Zt _,U⟩ ?_
  intro z n;obtain⟨i,c,g⟩:=z
  try dsimp only at n
  obtain⟨H,e⟩:=n;have J:c.length=i:=by rw[e];simp;omega
  refine A3<|A0<|F0 U U<|xN [6,33,34,35,36] [6,1000033] U<|A3 ?_
  refine A4 U ?_ ?_<;>intro a<;>try simp only[SL]at a
  ·refine A6<|A3<|A8<|A3<|A0<|C6 U U U U (by omega) (by(simp;done)) U<|E4 U U (by omega) (fun _=>U) (fun _=>U) U<|y_A U (fun _=>U) ?_
   intro g8;refine xB U U U U U U U U U<|xN [6,8,33,34,35] [6,8,1000033] U<|A0<|y_M U<|y_B U ?_
   have m:=b7q ((riseQ ns).getD i default) (L8 (by omega));refine xC1 U U (e9a ((riseQ ns).getD i default) m) ⟨U,U,U⟩ U U fun v=> ?_
   refine C0 (es:=ZA tV [_]) U U (dT U) U U (fun _=>B5 (A7 fun _=>U)) (fun _=>U) ?_;intro x;refine xA U U U U (by simp) (by simp) U U U U U (fun _=>U) (by simp only[LN];omega) (fun _=>U) ?_;intro y
   (refine xO U U (by simp) U (fun _=>U) (fun _=>U) ?_;intro g6)
   refine xN [6,33,34,35] [6,1000033] U<|A0<|D6 U U (B9 (by omega))<|y_M U<|xN [6,33,34,35] [6,1000033] U ?_
   refine⟨(i+1,c++[frT ((riseQ ns).getD i default)],_),?_,(by simp only;omega),⟨U,U,U,U,U,U,trivial⟩⟩;exact⟨by omega,by rw[e,Q1 (by omega),List.map_append];rfl⟩
  refine D5<|A3<|A0<|y_M U ?_
  have k:c=(riseQ ns).map frT:=by rw[e,ZC (by omega)]
  have f:joinB 44 c=frsT (riseQ ns):=by rw[k];rfl
  have G:=b8p (qs:=riseQ ns) b7q;apply xC U
  ·apply B0
   ·exact E6 U U U (by(simp;done)) (fun _=>U)
   apply B0
   ·exact B2 U
   exact C8
  ·exact d9g c 44 (by simp only[H6];omega) (by rw[f];simp only[H6];omega)
  refine⟨⟨U,U,U,dT U,U⟩,.inr ⟨U,U⟩,B6,F7 U,fun _=>U,fun A=> ?_⟩;refine y_M U<|H2 U U<|M0 U U<|y_S U<|y_S U<|xN [4,5] [] U<|A9<|B8 (C9 U U (C9 U U (C4 B3))) ?_
  rw[f,c5e,show c.length=(riseQ ns).length by rw[k,Zh]];exact congrArg (fun b=>AV.tup [tV (frsT (riseQ ns)),bV b]) (decide_eq_decide.2 (by omega))
 refine A3<|A0<|H0 U U<|y_S U<|xN [1,12,50] [] U ?_
 refine A4 U ?_ ?_<;>intro a<;>try simp only[SL]at a
 ·subst a
  refine A3<|A0<|y_M U ?_
  obtain⟨f1,f2,f3,f4⟩:=d7g ns;have f5:=L4 ⟨f1,f2⟩;have f6:=L4 ⟨f3,f4⟩;apply xC U
  ·apply B0
   ·exact B2 U
   exact C8
  ·exact f2p ns (by omega)
  refine⟨⟨U,U,U,dT U,U⟩,.inl U,B6,I7 U,fun _=>U,fun B=> ?_⟩;refine y_M U<|y_E U<|y_E U<|y_S U<|y_S U<|xN [9,10] [] U<|A3<|A0<|y_M U ?_
  refine xC1 U U (b0q (flX ns).1 (by omega)) ⟨U,U,U⟩ U U fun C=> ?_
  refine N6 U U (by simp only[H6,Zl,Zg,Zs];omega)<|y_M U ?_
  refine xC1 U U (b0q (flX ns).2 (by omega)) ⟨U,U,U⟩ U U fun D=> ?_
  refine N6 U U (by simp only[H6,Zl,Zg,Zs];omega)<|y_M U<|M0 U U<|y_S U<|y_S U<|xN [4,5] [] U<|A9<|B8 (C9 U U (C9 U U (C4 B3))) ?_
  rw[c5q]
  rfl
 refine A3<|A0<|H0 U U<|y_S U<|xN [1,65] [] U ?_
 refine A4 U ?_ ?_<;>intro a<;>try simp only[SL]at a
 ·subst a
  refine A3<|A0<|y_M U ?_
  have o:=c9q ns;apply xC U
  ·apply B0
   ·exact B2 U
   exact C8
  ·exact d5q ns (by omega)
  refine⟨⟨U,U,U,dT U,U⟩,.inl U,B6,G6,fun _=>U,fun E=> ?_⟩;simp only[Zh]
  (refine xO U U (by simp) U (fun _=>U) (fun _=>U) ?_;intro g11)
  refine xN [11] [11] U<|A3<|A0<|y_M U ?_
  apply xC U
  ·apply B0
   ·exact E6 U U U (by(simp;done)) (fun _=>U)
   exact C8
  ·exact b4h (sdR ns) (by omega) d6v
  refine⟨⟨U,U,U,dT U,U⟩,.inr ⟨U,U⟩,B6,F7 U,fun _=>U,fun F=> ?_⟩;refine y_M U<|H2 U U<|M0 U U<|y_S U<|y_S U<|xN [4,5] [] U<|A9<|B8 (C9 U U (C9 U U (C4 B3))) ?_
  rw[c5w];exact congrArg (fun b=>AV.tup [tV (O6 (sdR ns)),bV b]) (decide_eq_decide.2 (by omega))
 refine A6<|A3<|A0<|y_S U<|y_S U<|xN [4,5] [] U<|A9<|B8 (C9 U U (C9 U U (C4 B3))) ?_
 rw[show X0 w ns=([],false)from by rw[X0,if_neg (by assumption),if_neg (by assumption),if_neg (by assumption),if_neg (by assumption),if_neg (by assumption)]]
 rfl
theorem b7a:D8 Tryz.f14=[0,1,4,5,7,25,6,26,30,35,9,54,8,57,65,11,72,10]:=by kernel_rfl
theorem d7q(l:W8)(J:l.length<=1048576)(c0 b c2 c3:List Int)(y:vcs [c0,b,c2,c3]=true):∃res outs,(fun res outs=>∃d0 d1 d2 d3,res=tV (deskL [c0,b,c2,c3] l).1/\outs=[[.agg [lF d0,lF d1,lF d2,lF d3]]]/\(deskL [c0,b,c2,c3] l).2=[d0,d1,d2,d3]) res outs/\CW (cxT (some rG)) 14 [tV l,.ownp [.agg [lF c0,lF b,lF c2,lF c3]] 0 0]=some (res,outs):=by
 have p:∀c∈[c0,b,c2,c3],c.length<=1048576:=fun c a=>by have:=a4j ((a1k.1 y).1 c a);omega
 have I:(rsL l).length<=l.length:=e8h 32 l;have x:(kdL l).length<=l.length:=d7t 32 l;refine P9 U Tryz.func14 U ⟨by kernel_rfl,U,dT U,dT U,by decide⟩ b7a<|A3<|A0<|y_S U<|xN [0,1] [1] U<|A3<|A0<|y_M U ?_
 apply xC U
 ·apply B0
  ·exact B2 U
  apply B0
  ·exact B2 U
  exact C8
 ·exact f5p l 32 (by omega)
 refine⟨⟨U,U,U,dT U,U⟩,.inl U,B6,I7 U,fun _=>U,fun g14=> ?_⟩;rw[show kdC 32 l=kdL l from U,show rsC 32 l=rsL l from U];refine y_M U<|y_E U<|y_E U<|y_E U<|y_S U<|y_S U<|y_S U<|xN [1,5,6,7] [1] U<|A3<|A3<|A0<|y_M U<|H5 U<|y_M U ?_
 refine D3 U U ?_ ?_<;>intro u<;>have H:=u<;>try simp only[SG]at H
 ·refine C0 (es:=ZA tV c6a) U U (dT U) U U (fun _=>B5 (A7 fun _=>U)) (fun _=>U) ?_
  intro g21;refine gT U U<|y_M U<|gT U U ?_
  apply xC U
  ·apply B0
   ·exact E6 (f:=tV) (xs:=c6a) U U U U (fun _=>U)
   apply B0
   ·exact B2 U
   exact C8
  ·exact d3o c6a (by decide) (kdL l)
  refine⟨⟨U,U,U,dT U,U⟩,.inr ⟨U,U⟩,B6,F7 U,fun _=>U,fun g23=> ?_⟩;rw[show(c6a.any fun v=>decide (kdL l=v))=inW (kdL l)from U];refine gT U U<|H5 U<|E8 U (by assumption) U U<|xN [1,5,6,25] [1] U ?_
  refine A4 U ?_ ?_<;>intro a<;>try simp only[SL]at a
  ·refine A3<|A0<|y_S U<|xN [4] [1] U<|A9 ?_
   refine⟨_,_,?_,M1 U U (N9 U U)⟩;exact⟨c0,b,c2,c3,by rw[Q0 (fun h=>by have t:=h.1;have o:=h.2;(rw[a]at o;cases o))];try rfl,U,by rw[Q0 (fun h=>by have t:=h.1;have o:=h.2;(rw[a]at o;cases o))]⟩
  have d:inW (kdL l)=true:=by assumption
  have hlt:(kdL l).length<l.length:=by assumption
  refine A6<|A3<|A8<|A3<|A0<|y_M U ?_
  refine xC1 U U (b1b (rsL l) (by omega)) ⟨U,U,U⟩ U U fun A=> ?_
  refine H5 U<|y_S U<|xN [1,5,6,26] [1] U ?_
  refine A4 U ?_ ?_<;>intro a<;>try simp only[SL]at a
  ·refine A3<|A0<|y_S U<|xN [4] [1] U<|A9 ?_
   refine⟨_,_,?_,M1 U U (N9 U U)⟩;exact⟨c0,b,c2,c3,by rw[a1p hlt d (by simpa using a)];try rfl,U,by rw[a1p hlt d (by simpa using a)]⟩
  refine A3<|A0<|y_M U<|H0 U U<|y_S U<|xN [1,5,6,30] [1] U ?_
  refine A4 U ?_ ?_<;>intro a<;>try simp only[SL]at a
  ·refine A3<|A0<|y_M U ?_
   refine xC1 U U (c2n (rsL l) (by omega)) ⟨U,U,U⟩ U U fun B=> ?_
   refine y_S U<|xN [4] [1] U<|A9 ?_
   refine⟨_,_,?_,M1 U U (N9 U U)⟩;exact⟨c0,b,c2,c3,by rw[Z7 hlt a (by assumption)];try rfl,U,by rw[Z7 hlt a (by assumption)]⟩
  have e:kdL l≠wBetter:=a;refine A3<|A0<|y_M U<|H0 U U<|y_S U<|xN [1,5,6,35] [1] U ?_
  refine A4 U ?_ ?_<;>intro a<;>try simp only[SL]at a
  ·refine A3<|A0<|y_M U ?_
   have G:=e1m (rsL l);refine xC1 U U (e4e (rsL l) (by omega)) ⟨U,U,U⟩ U U fun C=> ?_
   refine xC1 U U (b0q (a9v (rsL l)) (by omega)) ⟨U,U,U⟩ U U fun D=> ?_
   refine y_S U<|xN [4] [1] U<|A9 ?_
   refine⟨_,_,?_,M1 U U (N9 U U)⟩;exact⟨c0,b,c2,c3,by rw[a2t hlt a (by assumption)];try rfl,U,by rw[a2t hlt a (by assumption)]⟩
  have g:kdL l≠wCost:=a;refine A6<|A3<|A0<|y_M U<|y_M U<|a3e U U U<|d2d U U U U ?_
  rcases i:Mv.runT [c0,b,c2,c3] (rsL l)with _|ns
  ·skip
   apply xC U
   ·apply B0
    ·exact B2 U
    apply B0
    ·exact b5n U U U (Zd 4) U (a1m (a1m (a1m (a1m c9m))))
    exact C8
   ·exact(by have q:=b9y (oG:=some rG) (rsL l) (by omega) [c0,b,c2,c3] (YL U) p;rw[i]at q;exact q)
   refine⟨⟨U,U,U,dT U,U⟩,.inr ⟨U,U⟩,B6,G9 (K5 fun _=>J0 U K6),fun _=>U,fun s=> ?_⟩
   try simp only[Zh,Option.getD_some]
   refine y_M U<|y_E U<|y_E U ?_
   (refine xO U U (by simp) U (fun _=>U) (fun _=>U) ?_;intro g8)
   refine y_S U<|xN [1,5,8,9] [1,8] U<|A3<|A3<|A0<|y_M U<|y_M U<|H4 U U U<|H4 U U U<|H4 U U U<|E8 U U U U<|xN [1,5,8,9,54] [1,8] U ?_
   refine A4 U (fun a=>absurd a (by decide)) (fun a=> ?_);refine A6<|A3<|A3<|A0<|y_M U<|xN [5,8,65] [1,8] U ?_
   refine A4 U (fun a=>absurd a (by decide)) (fun a=> ?_);refine A6<|A3<|A0<|y_S U<|xN [4] [1] U<|A9 ?_
   refine⟨_,_,?_,M1 U U (N9 U U)⟩;exact⟨c0,b,c2,c3,by rw[a2v hlt d e g i];try rfl,U,by rw[a2v hlt d e g i]⟩
  have r:=e1t y i;have z:=(P7.1 r).1;apply xC U
  ·apply B0
   ·exact B2 U
   apply B0
   ·exact b5n U U U (Zd 4) U (a1m (a1m (a1m (a1m c9m))))
   exact C8
  ·exact(by have q:=b9y (oG:=some rG) (rsL l) (by omega) [c0,b,c2,c3] (YL U) p;rw[i]at q;exact q)
  refine⟨⟨U,U,U,dT U,U⟩,.inr ⟨H9 _ _,U⟩,B6,G9 (K5 fun _=>J0 U K6),fun _=>U,fun s=> ?_⟩
  try simp only[Zh,Option.getD_some]
  refine y_M U<|y_E U<|y_E U ?_
  (refine xO U U (by simp) U (fun _=>U) (fun _=>U) ?_;intro g8)
  refine y_S U<|xN [1,5,8,9] [1,8] U<|A3<|A3<|A0<|y_M U<|y_M U<|H1 U U U<|y_M U<|H1 U U U<|a3l U U<|H1 U U U<|M9 U U<|E9 U U U U<|xN [1,5,8,9,54] [1,8] U ?_
  refine A4 U ?_ ?_<;>intro a<;>try simp only[SL]at a
  ·obtain⟨k,w,m⟩:=d5p d (by omega)
   refine A3<|A3<|A0<|y_M U ?_
   apply xC U
   ·apply B0
    ·exact E6 U U U (by(simp;done)) (fun _=>U)
    exact C8
   ·exact S9 ns (by omega)
   refine⟨⟨U,U,U,dT U,U⟩,.inr ⟨U,U⟩,B6,F7 U,fun _=>U,fun E=> ?_⟩;refine H5 U<|xN [1,5,8,57] [1,8] U ?_
   refine A4 U ?_ ?_<;>intro a<;>try simp only[SL]at a
   ·refine A3<|A0<|y_S U<|xN [4] [1] U<|A9 ?_
    refine⟨_,_,?_,M1 U U (N9 U U)⟩;obtain⟨k,w,m⟩:=d5p d (by omega);exact⟨c0,b,c2,c3,by rw[a9o hlt w m i (by simp[a])];try rfl,U,by rw[a9o hlt w m i (by simp[a])]⟩
   have j:vd ns=true:=by simpa using a
   refine A6<|A3<|A0 ?_
   obtain rfl|rfl|rfl|rfl:k=0\/k=1\/k=2\/k=3:=by omega
   ·skip
    refine y_M U<|y_M U ?_
    rw[m];refine M3 (n:=0) U U U (by decide) ?_;rw[show(((one4 0).getD 0 0).toNat:Int)=97 from U];refine J8 U U (d4x (by omega))<|y_M U<|a3e U U U ?_
    rw[show(97:Int)-97=0 from U];refine V6 U U U U U (by omega) U<|a1u U U U U U U (by simp) (A7 fun _=>U) (by decide) (fun h=>by cases h) U (YL U) U (C7 (by rw[O3 fun _=>U];exact P8 (A7 fun _=>U) (by decide)) (I1 (by rfl))) ?_
    rw[O3 fun _=>U];refine G7 ⟨fun _=>⟨by decide+kernel,by decide+kernel⟩,[(.h 1,_)],⟨U,U,trivial⟩,?_⟩;refine A3<|A0<|y_S U<|xN [4] [1] U<|A9 ?_
    refine⟨_,_,?_,M1 U U (N9 U U)⟩;exact⟨ns,b,c2,c3,(by rw[T9 hlt (by decide) m i j];try rfl),U,by rw[T9 hlt (by decide) m i j];rfl⟩
   ·skip
    refine y_M U<|y_M U ?_
    rw[m];refine M3 (n:=0) U U U (by decide) ?_;rw[show(((one4 1).getD 0 0).toNat:Int)=98 from U];refine J8 U U (d4x (by omega))<|y_M U<|a3e U U U ?_
    rw[show(98:Int)-97=1 from U];refine V6 U U U U U (by omega) U<|a1u U U U U U U (by simp) (A7 fun _=>U) (by decide) (fun h=>by cases h) U (YL U) U (C7 (by rw[O3 fun _=>U];exact P8 (A7 fun _=>U) (by decide)) (I1 (by rfl))) ?_
    rw[O3 fun _=>U];refine G7 ⟨fun _=>⟨by decide+kernel,by decide+kernel⟩,[(.h 1,_)],⟨U,U,trivial⟩,?_⟩;refine A3<|A0<|y_S U<|xN [4] [1] U<|A9 ?_
    refine⟨_,_,?_,M1 U U (N9 U U)⟩;exact⟨c0,ns,c2,c3,(by rw[T9 hlt (by decide) m i j];try rfl),U,by rw[T9 hlt (by decide) m i j];rfl⟩
   ·skip
    refine y_M U<|y_M U ?_
    rw[m];refine M3 (n:=0) U U U (by decide) ?_;rw[show(((one4 2).getD 0 0).toNat:Int)=99 from U];refine J8 U U (d4x (by omega))<|y_M U<|a3e U U U ?_
    rw[show(99:Int)-97=2 from U];refine V6 U U U U U (by omega) U<|a1u U U U U U U (by simp) (A7 fun _=>U) (by decide) (fun h=>by cases h) U (YL U) U (C7 (by rw[O3 fun _=>U];exact P8 (A7 fun _=>U) (by decide)) (I1 (by rfl))) ?_
    rw[O3 fun _=>U];refine G7 ⟨fun _=>⟨by decide+kernel,by decide+kernel⟩,[(.h 1,_)],⟨U,U,trivial⟩,?_⟩;refine A3<|A0<|y_S U<|xN [4] [1] U<|A9 ?_
    refine⟨_,_,?_,M1 U U (N9 U U)⟩;exact⟨c0,b,ns,c3,(by rw[T9 hlt (by decide) m i j];try rfl),U,by rw[T9 hlt (by decide) m i j];rfl⟩
   skip
   refine y_M U<|y_M U ?_
   rw[m];refine M3 (n:=0) U U U (by decide) ?_;rw[show(((one4 3).getD 0 0).toNat:Int)=100 from U];refine J8 U U (d4x (by omega))<|y_M U<|a3e U U U ?_
   rw[show(100:Int)-97=3 from U];refine V6 U U U U U (by omega) U<|a1u U U U U U U (by simp) (A7 fun _=>U) (by decide) (fun h=>by cases h) U (YL U) U (C7 (by rw[O3 fun _=>U];exact P8 (A7 fun _=>U) (by decide)) (I1 (by rfl))) ?_
   rw[O3 fun _=>U];refine G7 ⟨fun _=>⟨by decide+kernel,by decide+kernel⟩,[(.h 1,_)],⟨U,U,trivial⟩,?_⟩;refine A3<|A0<|y_S U<|xN [4] [1] U<|A9 ?_
   refine⟨_,_,?_,M1 U U (N9 U U)⟩;exact⟨c0,b,c2,ns,(by rw[T9 hlt (by decide) m i j];try rfl),U,by rw[T9 hlt (by decide) m i j];rfl⟩
  refine A6<|A3<|A3<|A0<|y_M U<|xN [5,8,65] [1,8] U ?_
  refine A4 U (fun a=> ?_) (fun a=>absurd a (by exact fun h=>ZH (show true=false from h)));refine A3<|A0<|y_M U<|y_M U ?_
  apply xC U
  ·apply B0
   ·exact B2 U
   apply B0
   ·exact E6 U U U (by(simp;done)) (fun _=>U)
   exact C8
  ·exact f4k (kdL l) ns r
  refine⟨⟨U,U,U,dT U,U⟩,.inr ⟨U,U⟩,B6,I7 U,fun _=>U,fun F=> ?_⟩;refine y_M U<|y_E U<|y_E U<|y_S U<|y_S U<|xN [10,11] [1] U<|A3<|A0<|y_M U<|xN [10,72] [1] U ?_
  refine A4 U ?_ ?_<;>intro a<;>try simp only[SL]at a
  ·refine A3<|A0<|y_M U<|y_S U<|xN [4] [1] U<|A9 ?_
   refine⟨_,_,?_,M1 U U (N9 U U)⟩;exact⟨c0,b,c2,c3,by rw[(show deskL [c0,b,c2,c3] l=((X0 (kdL l) ns).1,[c0,b,c2,c3])from by rw[S1 hlt (a8v d e g (by omega)) i,if_pos a])];try rfl,U,by rw[(show deskL [c0,b,c2,c3] l=((X0 (kdL l) ns).1,[c0,b,c2,c3])from by rw[S1 hlt (a8v d e g (by omega)) i,if_pos a])]⟩
  refine A6<|A3<|A0<|y_S U<|xN [4] [1] U<|A9 ?_
  refine⟨_,_,?_,M1 U U (N9 U U)⟩;exact⟨c0,b,c2,c3,by rw[(show deskL [c0,b,c2,c3] l=(wWrong,[c0,b,c2,c3])from by rw[S1 hlt (a8v d e g (by omega)) i,if_neg (by rw[a];decide)])];try rfl,U,by rw[(show deskL [c0,b,c2,c3] l=(wWrong,[c0,b,c2,c3])from by rw[S1 hlt (a8v d e g (by omega)) i,if_neg (by rw[a];decide)])]⟩
 refine gF U U<|gF U U<|gF U U<|E9 U (by assumption) U U<|xN [1,5,6,25] [1] U ?_
 refine A4 U (fun a=> ?_) (fun a=>absurd a (by decide));refine A3<|A0<|y_S U<|xN [4] [1] U<|A9 ?_
 refine⟨_,_,?_,M1 U U (N9 U U)⟩;exact⟨c0,b,c2,c3,by rw[Q0 (fun h=>by have t:=h.1;have o:=h.2;omega)];try rfl,U,by rw[Q0 (fun h=>by have t:=h.1;have o:=h.2;omega)]⟩
theorem b6u:D8 Tryz.f6=[0,2,10,5,15,4,7,6,3]:=by kernel_rfl
theorem d8g(ls:List W8)(s:ls.length<=1048576)(p:∀l∈ls,l.length<=1048576):CW (cxT oG) 6 [.list (ls.map tV)]=some (tV (deskT ls),[]):=by
 refine C5 U Tryz.func6 U ⟨by kernel_rfl,U,dT U,dT U,by decide⟩ b6u<|A3<|A0<|y_S U<|xN [0] [] U<|A3<|A3<|A0<|y_M U<|B7 U U<|M0 U U<|xN [0,10] [] U ?_
 refine A4 U ?_ ?_<;>intro b<;>try simp only[SL]at b
 ·refine A3<|A0<|y_S U<|xN [2] [] U<|A9<|C2 U U trivial ?_
  rw[c5f (by omega)]
  rfl
 refine A6<|A3<|A0<|y_S U<|xN [0,3] [] U<|A3<|A0<|C0 (es:=ZA oI []) U U (dT U) U U (fun _=>B5 (A7 fun _=>U)) (fun _=>U) ?_
 intro g11
 (refine xO U U (by simp) U (fun _=>U) (fun _=>U) ?_;intro g4)
 refine xN [0,3,4] [4] U<|A3<|A3<|A0<|y_S U<|xN [0,3,4,5] [4] U<|A8<|D7 (β:=Nat×W8×List (List Int)×Nat) [(.t 0,_)] (fun(z:Nat×W8×List (List Int)×Nat)=>match z with|(i,o,C,g)=>[(.t 5,nV i),(.t 3,tV o),(.t 4,.sl 4 g none 0 C.length),(.h 4,.obj g 0 1 (C.map lF))]) (fun(z:Nat×W8×List (List Int)×Nat)=>match z with|(i,o,C,g)=>i<=ls.length/\vcs C=true/\o=a1x [[],[],[],[]] (ls.take i)/\n4 C=a8k [[],[],[],[]] (ls.take i)) (fun(z:Nat×W8×List (List Int)×Nat)=>match z with|(i,o,C,g)=>ls.length-i) (0,[],[],_) ⟨U,U,U,U,U,trivial⟩ ⟨Zt _,U,U,U⟩ ?_
 intro z k;obtain⟨i,o,C,g⟩:=z
 try dsimp only at k
 obtain⟨r,m,d,j⟩:=k;have e:=b4n (ls.take i) (C:=[[],[],[],[]]) (by decide);rw[<-d,ZU]at e;have q:=b3n (d8k m) (ls.getD i default);refine A3<|A3<|A0<|y_M U<|y_M U<|B7 U U<|F0 U U<|xN [0,3,4,5,15] [4] U ?_
 refine A4 U ?_ ?_<;>intro b<;>try simp only[SL]at b
 ·refine A6<|A3<|A8<|A3<|A0<|y_M U<|y_M U<|B4 U U U (fun _=>U) (by omega)<|y_I U<|y_M U ?_
  obtain⟨_,_,⟨n,rfl,rfl,c,f⟩,a⟩:=e5w (oG:=oG) (ls.getD i default) (p _ (L8 (by omega))) C m;apply xC U
  ·apply B0
   ·exact B2 U
   apply B0
   ·exact b1s U U (by(simp;done)) (A7 fun _=>U)
   exact C8
  ·exact a
  refine⟨⟨U,U,U,dT U,U⟩,.inl U,B6,G9 (J0 U (K5 fun _=>K6)),fun _=>U,fun g24=> ?_⟩;simp only[Zh];refine y_M U<|y_E U<|y_E U<|y_S U ?_
  (refine xO U U (by simp) U (fun _=>U) (fun _=>U) ?_;intro g7)
  refine xN [0,3,5,6,7] [7] U<|A3<|A0<|y_M U ?_
  (refine xO U U (by simp) U (fun _=>U) (fun _=>U) ?_;intro g4)
  refine xN [0,3,4,5,6] [4] U<|A0<|y_M U<|y_M U ?_
  iterate 2 refine N6 U U (by simp only[H6,Zl,Zg,Zs];omega) ?_
  refine y_S U<|xN [0,3,4,5] [4] U<|A0<|y_M U<|D6 U U (B9 (by omega))<|y_S U<|xN [0,3,4,5] [4] U ?_
  refine⟨(i+1,_,n,_),?_,(by simp only;omega),⟨U,U,U,U,U,trivial⟩⟩;exact⟨by omega,f,by rw[Q1 (by omega),b0h,<-j,<-d];simp,by rw[Q1 (by omega),b0k,<-j,c]⟩
 refine D5<|A3<|A0<|y_M U<|y_S U<|xN [2] [] U<|A9<|C2 U U trivial ?_
 rw[deskT,if_pos (by omega),d,ZC (by omega)]
theorem b4v:D8 Tryz.f5=[0,1,4,11,5,15,26]:=by kernel_rfl
theorem d3w(ws:List W8)(l:ws.length<=9223372036854775807)(g:∀w∈ws,w.length<=9223372036854775807)(left:Int)(k:0<=left/\left<=1048576):∃res outs,(fun res outs=>∃r:Int,res=iV r/\outs=[]/\(0<=r->r=left-ws.length-szW ws)/\(r<0->r= -1)) res outs/\CW (cxT oG) 5 [.list (ws.map tV),iV left]=some (res,outs):=by
 refine P9 U Tryz.func5 U ⟨by kernel_rfl,U,dT U,dT U,by decide⟩ b4v<|A3<|A0<|y_S U<|xN [0,1] [] U<|A3<|A0<|y_M U<|y_M U<|B7 U U<|J8 U U (B9 (by omega))<|y_S U<|xN [0,1] [] U<|A3<|A3<|A0<|y_M U<|F0 U U<|xN [0,1,11] [] U ?_
 refine A4 U ?_ ?_<;>intro a<;>try simp only[SL]at a
 ·refine A3<|A0<|y_S U<|xN [4] [] U<|A9 ?_
  refine⟨_,_,?_,M1 U U B3⟩;exact⟨-1,U,U,by omega,by omega⟩
 refine A6<|A3<|A3<|A0<|y_S U<|xN [0,1,5] [] U<|A8<|D7 (β:=Nat×Int) [(.t 0,_)] (fun(z:Nat×Int)=>match z with|(i,q)=>[(.t 5,iV i),(.t 1,iV q)]) (fun(z:Nat×Int)=>match z with|(i,q)=>i<=ws.length/\0<=q/\q=left-ws.length-szW (ws.take i)) (fun(z:Nat×Int)=>match z with|(i,q)=>ws.length-i) (0,left-ws.length) ⟨U,U,U,trivial⟩ ⟨Zt _,by omega,by simp[szW]⟩ ?_
 intro z d;obtain⟨i,q⟩:=z
 try dsimp only at d
 obtain⟨e,f,hq⟩:=d;have b:=fun h:i<ws.length=>g _ (L8 h)
 have c:=fun h:i<ws.length=>d3b ws h
 refine A3<|A3<|A0<|y_M U<|y_M U<|B7 U U<|F0 U U<|xN [0,1,5,15] [] U ?_
 refine A4 U ?_ ?_<;>intro a<;>try simp only[SL]at a
 ·have j:=b (by omega)
  refine A6<|A3<|A8<|A3<|A0<|y_M U<|y_M U<|y_M U<|B4 U U U (fun _=>U) (by omega)<|y_I U<|a3l U U<|J8 U U (B9 (by omega))<|y_S U<|xN [0,1,5] [] U<|A3<|A0<|y_M U<|F0 U U<|xN [0,1,5,26] [] U ?_
  refine A4 U ?_ ?_<;>intro a<;>try simp only[SL]at a
  ·refine A3<|A0<|y_S U<|xN [4] [] U<|A9 ?_
   refine⟨_,_,?_,M1 U U B3⟩;exact⟨-1,U,U,by omega,by omega⟩
  refine A6<|A0<|y_M U<|D6 U U (B9 (by omega))<|y_S U<|xN [0,1,5] [] U ?_
  refine⟨(i+1,q-(ws.getD i default).length),⟨by omega,by omega,by rw[c (by omega)];omega⟩,(by simp only;omega),⟨U,U,U,trivial⟩⟩
 refine D5<|A3<|A0<|y_M U<|y_S U<|xN [4] [] U<|A9 ?_
 refine⟨_,_,?_,M1 U U B3⟩;exact⟨_,U,U,fun _=>by rw[hq,ZC (by omega)],by omega⟩
theorem b2y:D8 Tryz.f7=[0,2,4,11,3]:=by kernel_rfl
theorem a7y(cs:List W8)(l:cs.length<=1048576):CW (cxT oG) 7 [.list (cs.map tV)]=some (.own 1 (cs.map tV),[]):=by
 refine C5 U Tryz.func7 U ⟨by kernel_rfl,U,dT U,dT U,by decide⟩ b2y<|A3<|A0 ?_
 (refine B1 U U (fun _=>U) ?_;intro g2)
 refine xN [0] [] U<|A3<|A0<|y_M U<|B7 U U<|Z5 (f:=tV) (x0:=[]) U U U U U (by simp only[H6];omega) (dT U) (fun _=>B5 (by exact A7 fun _=>U)) (fun _=>U) ?_
 intro g7
 (refine xO U U (by simp) U (fun _=>U) (fun _=>U) ?_;intro g3)
 refine xN [0,3] [3] U<|A3<|A3<|A0<|y_S U<|xN [0,3,4] [3] U<|A8<|D7 (β:=Nat×List W8) [(.t 0,_),(.t 3,_)] (fun(z:Nat×List W8)=>match z with|(i,ys)=>[(.t 4,iV i),(.h 3,.obj g3 0 1 (ys.map tV))]) (fun(z:Nat×List W8)=>match z with|(i,ys)=>i<=cs.length/\ys.length=cs.length/\∀j,j<i->ys.getD j default=cs.getD j default) (fun(z:Nat×List W8)=>match z with|(i,ys)=>cs.length-i) (0,List.replicate cs.length []) ⟨U,U,U,U,trivial⟩ ⟨Zt _,by simp,fun j h=>by omega⟩ ?_
 intro z c;obtain⟨i,ys⟩:=z
 try dsimp only at c
 obtain⟨g,a,b⟩:=c;refine A3<|A3<|A0<|y_M U<|y_M U<|B7 U U<|F0 U U<|xN [0,3,4,11] [3] U ?_
 refine A4 U ?_ ?_<;>intro d<;>try simp only[SL]at d
 ·refine A6<|A3<|A8<|A0<|y_M U<|y_M U<|y_M U<|y_M U<|B4 U U U (fun _=>U) (by omega)<|y_I U<|C6 U U U U (by omega) (by(simp;omega)) U<|b2b (y:=(cs.getD i default)) U U U (by omega) U ⟨U,dT U,dT U,U⟩ (by decide) U (by exact B5 (A7 fun _=>U))<|xN [0,3,4] [3] U<|A0<|y_M U<|D6 U U (B9 (by omega))<|y_S U<|xN [0,3,4] [3] U ?_
  refine⟨(i+1,ys.set i (cs.getD i default)),⟨by omega,by simp[a],fun j k=>by rw[e4z (by omega)];by_cases e:j=i;(·rw[if_pos e,e]);(·rw[if_neg e];exact b j (by omega))⟩,(by simp only;omega),⟨U,U,U,U,trivial⟩⟩
 refine D5<|A3<|A0<|y_M U ?_
 (refine H8 U U (by(simp;omega)) U (fun _=>(B5 (by exact A7 fun _=>U))) (fun _=>U) ?_;intro g2)
 refine xN [2] [2] U<|A9<|I6 U U (by(simp[a];done)) (by exact A7 fun _=>U) trivial ?_
 rw[e2w a fun j k=>b j (by omega)]
theorem b3l:D8 Tryz.f9=[0,1,4,10,5,14,25]:=by kernel_rfl
theorem d1z(cs:List W8)(d:cs.length<=1048576):CW (cxT oG) 9 [.list (cs.map tV),.list (cs.map tV)]=some (bV true,[]):=by
 refine C5 U Tryz.func9 U ⟨by kernel_rfl,U,dT U,dT U,by decide⟩ b3l<|A3<|A0<|y_S U<|xN [0,1] [] U<|A3<|A3<|A0<|y_M U<|B7 U U<|y_M U<|B7 U U<|a8f U U<|xN [0,1,10] [] U ?_
 refine A4 U (fun a=> ?_) (fun a=> ?_)
 ·try simp only[SD]at a
  exact absurd trivial a
 try simp only[SL]at a
 refine A6<|A3<|A3<|A0<|y_S U<|xN [0,1,5] [] U<|A8<|D7 (β:=Nat) [(.t 0,_),(.t 1,_)] (fun(i:Nat)=>[(.t 5,iV i)]) (fun(i:Nat)=>i<=cs.length) (fun(i:Nat)=>cs.length-i) 0 ⟨U,U,U,trivial⟩ (Zt _) ?_
 intro i b;have c:=b;refine A3<|A3<|A0<|y_M U<|y_M U<|B7 U U<|F0 U U<|xN [0,1,5,14] [] U ?_
 refine A4 U ?_ ?_<;>intro a<;>try simp only[SL]at a
 ·refine A6<|A3<|A8<|A3<|A0<|y_M U<|y_M U<|B4 U U U (fun _=>U) (by omega)<|y_I U<|y_M U<|y_M U<|B4 U U U (fun _=>U) (by omega)<|y_I U<|b5c U U ?_
  refine G7 ⟨fun _=>⟨by decide+kernel,by decide+kernel⟩,[(.t 0,_),(.t 1,_),(.t 5,_),(.t 25,_)],⟨U,U,U,U,U,U,U,U,trivial⟩,?_⟩;refine A4 U (fun a=> ?_) (fun a=> ?_)
  ·try simp only[SD]at a
   exact absurd trivial a
  try simp only[SL]at a
  refine A6<|A0<|y_M U<|D6 U U (B9 (by omega))<|y_S U<|xN [0,1,5] [] U ?_
  refine⟨i+1,(by omega),(by omega),⟨U,U,U,trivial⟩⟩
 refine D5<|A3<|A0<|y_S U<|xN [4] [] U<|A9<|C2 U U trivial ?_
 rfl
noncomputable def e5y(oG:Option Nat)(f:Nat):Option (List AV->Option (AV×List (List AV))):=if f=8 then some c7d else if[3,4].contains f=true then none else some (CW (cxT oG) f)
noncomputable def cxL(oG:Option Nat):Cx:={cxT oG with ext:=e5y oG}
theorem c4j{f:Nat}{args:List AV}{r:AV×List (List AV)}(h:CW (cxT oG) f args=some r)(a:(f !=8&& !([3,4].contains f))=true:=by rfl):CW (cxL oG) f args=some r:=by
 simp only[Bool.and_eq_true,bne_iff_ne,Bool.not_eq_true']at a;refine a3g (cxL oG) (F:=CW (cxT oG) f) ?_ h;show e5y oG f=_;rw[e5y,if_neg a.1,a.2]
 rfl
theorem d8m(ls:List (List UInt8))(a:ls.length<=1048576)(b:∀l∈ls,l.length<=1048576):CW (cxL oG) 8 [.list (ls.map tV)]=some (tV (deskT ls),[]):=a3g (cxL oG) rfl (by show((unT (ls.map tV)).bind fun ls=>if ls.length<=1048576/\∀l∈ls,l.length<=1048576 then some ((tV (deskT ls),[]):AV×List (List AV))else none)=_;rw[e1k,Zk,if_pos ⟨a,b⟩])
theorem a6k:D8 Tryz.f3=[0,2,3,11,5,4,6,21,26]:=by kernel_rfl
theorem b2z(ws:List W8)(f:ws.length<=9223372036854775807)(i:∀w∈ws,w.length<=9223372036854775807):CW (cxL (some rG)) 3 [.list (ws.map tV)]=some (bV true,[]):=by
 refine C5 U Tryz.func3 U ⟨by kernel_rfl,U,dT U,dT U,by decide⟩ a6k<|A3<|A0<|y_S U<|xN [0] [] U<|A3<|A0<|y_S U<|xN [0,3] [] U<|A3<|A0<|y_M U<|y_M U ?_
 obtain⟨_,_,⟨j,rfl,rfl,g,d⟩,c⟩:=d3w (oG:=some rG) ws f i 1048576 (by omega);refine xC2 U U U (c4j c) ⟨U,U,U⟩ U U fun g9=> ?_
 refine y_S U<|xN [0,3] [] U<|A3<|A3<|A0<|y_M U<|F0 U U<|xN [0,11] [] U ?_
 refine A4 U ?_ ?_<;>intro a<;>try simp only[SL]at a
 ·refine A3<|A0<|y_S U<|xN [2] [] U<|A9<|C2 U U trivial ?_
  rfl
 have b:ws.length<=1048576/\szW ws<=1048576:=by omega
 refine A6<|A3<|A0<|y_M U ?_
 apply xC U
 ·apply B0
  ·exact B2 U
  exact C8
 ·exact c4j (a7y ws b.1)
 refine⟨⟨U,U,U,dT U,U⟩,.inl U,B6,G6,fun _=>U,fun g13=> ?_⟩;simp only[Zh];apply xC U
 ·apply B0
  ·exact E6 U U U (by(simp;done)) (fun _=>U)
  exact C8
 ·exact c4j (d8g ws b.1 (fun w h=>by have:=e0w (Zd _) w h;omega))
 refine⟨⟨U,U,U,dT U,U⟩,.inr ⟨U,U⟩,B6,F7 U,fun _=>U,fun g14=> ?_⟩;refine y_S U<|xN [0,4] [] U<|A3<|A0<|y_M U ?_
 apply xC U
 ·apply B0
  ·exact B2 U
  exact C8
 ·exact c4j (a7y ws b.1)
 refine⟨⟨U,U,U,dT U,U⟩,.inl U,B6,G6,fun _=>U,fun g16=> ?_⟩;simp only[Zh]
 (refine xO U U (by simp) U (fun _=>U) (fun _=>U) ?_;intro g5)
 refine xN [0,4,5] [5] U<|A3<|A0<|y_M U ?_
 apply xC U
 ·apply B0
  ·exact E6 U U U (by(simp;done)) (fun _=>U)
  exact C8
 ·exact d8m ws b.1 (fun w h=>by have:=e0w (Zd _) w h;omega)
 refine⟨⟨U,U,U,dT U,U⟩,.inr ⟨U,U⟩,B6,F7 U,fun _=>U,fun g18=> ?_⟩;refine y_S U<|xN [0,4,5,6] [5] U<|A3<|A3<|A0<|y_M U<|y_M U<|b5c U U<|xN [0,5,21] [5] U ?_
 refine A4 U ?_ ?_<;>intro a<;>try simp only[SL]at a
 ·refine A3<|A0<|y_S U<|xN [2] [] U<|A9<|C2 U U trivial ?_
  (simp_all;done)
 refine A6<|A3<|A3<|A0<|y_M U<|y_M U ?_
 apply xC U
 ·apply B0
  ·exact B2 U
  exact C8
 ·exact c4j (a7y ws b.1)
 refine⟨⟨U,U,U,dT U,U⟩,.inl U,B6,G6,fun _=>U,fun g24=> ?_⟩;simp only[Zh];apply xC U
 ·apply B0
  ·exact E6 U U U (by(simp;done)) (fun _=>U)
  apply B0
  ·exact E6 U U U (by(simp;done)) (fun _=>U)
  exact C8
 ·exact c4j (d1z ws b.1)
 refine⟨⟨U,U,U,dT U,U⟩,.inr ⟨U,U⟩,B6,F7 U,fun _=>U,fun e=> ?_⟩;refine H5 U<|xN [26] [] U ?_
 refine A4 U (fun a=>absurd a (by decide)) (fun a=> ?_);refine A6<|A3<|A0<|y_S U<|xN [2] [] U<|A9<|C2 U U trivial ?_
 rfl
end Go.Proofs.YtjmoceabjajefaaGreatDoor
