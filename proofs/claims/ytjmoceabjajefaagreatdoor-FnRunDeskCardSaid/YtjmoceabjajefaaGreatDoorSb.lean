/- What each function of the program gives on the abstract machine, part 2 of 3. Conditions: those in front of each theorem. -/
import Derived.Test.YtjmoceabjajefaaGreatDoorSa
import Derived.KernelRfl
set_option linter.unusedVariables false
set_option linter.unusedSimpArgs false
open Bool renaming noConfusion→ZK
open Int renaming gcd→YG
open List renaming length_append→Zf, length_cons→Ze, length_nil→Zo, map→Zw, length_map→Zi, take_of_length_le→ZB, replicate→ZP, getD_eq_getElem?_getD→Zc, range→Yb, getElem?_eq_none→ZQ, cons_append→Zp, nil_append→Zj, append_nil→Zm, map_cons→Zz, map_nil→Ya, drop_succ_cons→Yh, drop_zero→ZY, mem_cons_of_mem→Zn, length_tail→Xx, replicate_zero→XC, length_replicate→Xa
open Nat renaming lt_succ_self→ZJ, not_lt_zero→Yz, zero_le→Zv, lt_succ_iff_lt_or_eq→Yx, zero_add→ZL, le_refl→Zd, le_trans→Yg, pow_le_pow_right→YJ
open Option renaming bind_some→Zl, isSome_iff_exists→ZT
namespace Go.Proofs.YtjmoceabjajefaaGreatDoor
open Go Go.Mv Go.Proofs
set_option maxRecDepth 100000
set_option maxHeartbeats 20000000
variable{oG:Option Nat}{rG:Nat}
theorem d4u:D9 Tryz.f97=[0,2,1,10,17,16,18,15,5,3]:=by kernel_rfl
theorem f6b(t:Pl)(p:(showP t).length<=1048576)(d:t.good):CW (cxT oG) 97 [trK t]=some (tV (showP t),[]):=by
 obtain⟨u,j⟩:∃u:Nat,t.sz<u:=⟨_,ZJ _⟩;revert t
 induction u with
 |zero=>intro t p d j;exact absurd j (Yz _)
 |succ u w=>
  intro t p d j;have A:=a5i t;have o:=fun i=>Z8 (t:=t) (i:=i)
  have n:=fun i=>a8n d (i:=i)
  have r:=fun i h=>b8x (t:=t) h (i:=i)
  have f:=fun h=>b4w (t:=t) h
  have b:t.op=lW->t.kids.length=0/\S3 t.ns=showP t:=fun e=>by obtain⟨ns,rfl,_⟩:=a0e d e;exact⟨U,U⟩
  have s:=f3s d;have C:=a4r s;have q:=e2a s;have B:=U5 q;refine C7 U Tryz.func97 U ⟨by kernel_rfl,U,dT U,dT U,by decide⟩ d4u<|A3<|A0<|P3 U U U (fun _=>H7 U) (fun _=>U) ?_
  intro g1;refine y_S U<|xN [1] [1] U<|A3<|A0<|y_F U<|y_L U<|y_S U<|xN [1,3] [1] U<|A3<|A3<|A0<|y_F U<|y_L U<|H1 U U<|xN [1,3,10] [1] U ?_
  refine A4 U ?_ ?_<;>intro l<;>try simp only[SL]at l
  ·refine A0<|y_F U<|y_L U ?_
   refine xC1 U U (a8g t.ns (by omega) q) ⟨U,U,U⟩ U U fun g13=> ?_
   refine y_S U<|xN [1,3] [1] U<|A3<|A3<|A0<|y_F U<|y_L U<|B8 U U<|y_M U<|xN [3,15,16,17] [] U<|B0<|D8 (β:=Nat×W8) [(.t 15,_),(.t 16,_)] (fun(z:Nat×W8)=>match z with|(i,a)=>[(.t 17,iV i),(.t 3,tV a)]) (fun(z:Nat×W8)=>match z with|(i,a)=>i<=t.kids.length/\(t.op=lW->a=showP t)/\(t.op≠lW->a=a4a t i)) (fun(z:Nat×W8)=>match z with|(i,a)=>t.kids.length-i) (0,_) ⟨U,U,U,U,trivial⟩ ⟨Zv _,by exact fun e=>(b e).2,by exact fun h=>absurd (by assumption) h⟩ ?_
   intro z k;obtain⟨i,a⟩:=z
   try dsimp only at k
   obtain⟨v,g,c⟩:=k;refine A3<|A0<|F4 U U<|xN [3,15,16,17,18] [] U<|A3 ?_
   refine A4 U ?_ ?_<;>intro l<;>try simp only[SL]at l
   ·refine A7<|A3<|B0<|A3<|A0<|B7 U U U (fun _=>U) (by omega)<|y_I U<|y_A U (fun _=>U) ?_
    intro g5;refine xB U U U U U U U U U<|xN [3,5,15,16,17] [5] U<|A0<|y_M U<|y_B U ?_
    have x:=r i (fun e=>by have:=(b e).1;omega) (by omega);have y:=o i (by omega);rw[c (fun e=>by have:=(b e).1;omega)];refine xC1 U U ((by have m:=w (t.kids.getD i default) (by have:=c7y (t:=t) (i:=i) (by omega);omega) (n i (by omega)) (by omega);rw[<-L0]at m;exact m)) ⟨U,U,U⟩ U U fun g23=> ?_
    iterate 2 refine J9 U U (by simp only[H0,Zf,Ze,Zo];omega) ?_
    refine y_S U<|xN [3,15,16,17] [] U<|A0<|D7 U U (B9 (by omega))<|y_M U<|xN [3,15,16,17] [] U ?_
    refine⟨(i+1,_),⟨by omega,fun e=>by have:=(b e).1;omega,fun e=>by rw[a4a];simp⟩,(by simp only;omega),⟨U,U,U,U,trivial⟩⟩
   refine D6<|A3<|A0<|y_M U<|y_S U<|xN [2] [] U<|A9<|C4 U U trivial ?_
   by_cases e:t.op=lW
   ·rw[g e]
   rw[c e,show i=t.kids.length by omega,f e]
  refine A7<|A3<|A3<|A0<|y_F U<|y_L U<|B8 U U<|y_M U<|xN [3,15,16,17] [] U<|B0<|D8 (β:=Nat×W8) [(.t 15,_),(.t 16,_)] (fun(z:Nat×W8)=>match z with|(i,a)=>[(.t 17,iV i),(.t 3,tV a)]) (fun(z:Nat×W8)=>match z with|(i,a)=>i<=t.kids.length/\(t.op=lW->a=showP t)/\(t.op≠lW->a=a4a t i)) (fun(z:Nat×W8)=>match z with|(i,a)=>t.kids.length-i) (0,_) ⟨U,U,U,U,trivial⟩ ⟨Zv _,by exact fun e=>absurd e (by assumption),by exact fun _=>U⟩ ?_
  intro z k;obtain⟨i,a⟩:=z
  try dsimp only at k
  obtain⟨v,g,c⟩:=k;refine A3<|A0<|F4 U U<|xN [3,15,16,17,18] [] U<|A3 ?_
  refine A4 U ?_ ?_<;>intro l<;>try simp only[SL]at l
  ·refine A7<|A3<|B0<|A3<|A0<|B7 U U U (fun _=>U) (by omega)<|y_I U<|y_A U (fun _=>U) ?_
   intro g5;refine xB U U U U U U U U U<|xN [3,5,15,16,17] [5] U<|A0<|y_M U<|y_B U ?_
   have x:=r i (fun e=>by have:=(b e).1;omega) (by omega);have y:=o i (by omega);rw[c (fun e=>by have:=(b e).1;omega)];refine xC1 U U ((by have m:=w (t.kids.getD i default) (by have:=c7y (t:=t) (i:=i) (by omega);omega) (n i (by omega)) (by omega);rw[<-L0]at m;exact m)) ⟨U,U,U⟩ U U fun g23=> ?_
   iterate 2 refine J9 U U (by simp only[H0,Zf,Ze,Zo];omega) ?_
   refine y_S U<|xN [3,15,16,17] [] U<|A0<|D7 U U (B9 (by omega))<|y_M U<|xN [3,15,16,17] [] U ?_
   refine⟨(i+1,_),⟨by omega,fun e=>by have:=(b e).1;omega,fun e=>by rw[a4a];simp⟩,(by simp only;omega),⟨U,U,U,U,trivial⟩⟩
  refine D6<|A3<|A0<|y_M U<|y_S U<|xN [2] [] U<|A9<|C4 U U trivial ?_
  by_cases e:t.op=lW
  ·rw[g e]
  rw[c e,show i=t.kids.length by omega,f e]
theorem b9z:D9 Tryz.f59=[0,2,4,10,5,3,27]:=by kernel_rfl
theorem c5s(xs:List Int)(w:xs.length<=1000):CW (cxT oG) 59 [L xs]=some (.own 1 ((T3 xs).map iV),[]):=by
 refine C7 U Tryz.func59 U ⟨by kernel_rfl,U,dT U,dT U,by decide⟩ b9z<|A3<|A0 ?_
 (refine B4 U U (fun _=>U) ?_;intro g2)
 refine xN [0] [] U<|A3<|A0<|B6 (es:=Zw iV []) U U (dT U) U U (fun _=>B3 (A6 fun _=>U)) (fun _=>U) ?_
 intro g6
 (refine xO U U (by simp) U (fun _=>U) (fun _=>U) ?_;intro g3)
 refine xN [0,3] [3] U<|A3<|A3<|A0<|y_S U<|xN [0,3,4] [3] U<|B0<|D8 (β:=Nat×List Int×Nat) [(.t 0,_)] (fun(z:Nat×List Int×Nat)=>match z with|(i,out,g)=>[(.t 4,iV i),(.t 3,.sl 3 g none 0 out.length),(.h 3,.obj g 0 1 (out.map iV))]) (fun(z:Nat×List Int×Nat)=>match z with|(i,out,g)=>i<=xs.length/\out=T3 (xs.take i)) (fun(z:Nat×List Int×Nat)=>match z with|(i,out,g)=>xs.length-i) (0,[],_) ⟨U,U,U,U,trivial⟩ ⟨Zv _,U⟩ ?_
 intro z f;obtain⟨i,out,g⟩:=z
 try dsimp only at f
 obtain⟨u,b⟩:=f;have v:out.length=i:=by rw[b,R6,List.length_take];omega
 refine A3<|A3<|A0<|y_M U<|y_M U<|B8 U U<|F4 U U<|xN [0,3,4,10] [3] U ?_
 refine A4 U ?_ ?_<;>intro c<;>try simp only[SL]at c
 ·refine A7<|A3<|B0<|A3<|A0<|y_S U<|xN [0,3,4,5] [3] U<|A3<|B0<|D8 (β:=Nat) [(.t 0,_),(.t 3,_),(.t 4,_),(.h 3,_)] (fun(k:Nat)=>[(.t 5,iV k)]) (fun(k:Nat)=>k<=out.length/\∀j,j<k->out.getD j default<=xs.getD i default) (fun(k:Nat)=>out.length-k) 0 ⟨U,U,U,U,U,trivial⟩ ⟨Zv _,fun j h=>by omega⟩ ?_
  intro k f;obtain⟨e,d⟩:=f;refine A3<|A3<|A0<|y_M U<|y_M U<|G8 U U<|F4 U U<|y_M U ?_
  refine D5 U U ?_ ?_<;>intro q<;>have s:=q<;>try simp only[SG]at s
  ·refine y_M U<|gT U U<|y_M U<|gT U U<|C9 U U U U (by omega) (by(simp;done)) U<|gT U U<|E6 U U (by omega) (fun _=>U) (fun _=>U) U<|gT U U<|y_M U<|gT U U<|y_M U<|gT U U<|B7 U U U (fun _=>U) (by omega)<|gT U U<|y_I U<|gT U U<|a2q U U<|F0 U (by assumption) U U ?_
   refine G7 ⟨fun _=>⟨by decide+kernel,by decide+kernel⟩,[(.t 0,_),(.t 3,_),(.t 4,_),(.t 5,_),(.t 27,_),(.h 3,_)],⟨U,U,U,U,U,U,U,U,U,U,U,U,trivial⟩,?_⟩;refine A4 U ?_ ?_<;>intro c<;>try simp only[SL]at c
   ·refine A7<|B0<|A0<|y_M U<|D7 U U (B9 (by omega))<|y_S U<|xN [0,3,4,5] [3] U ?_
    refine⟨k+1,⟨by omega,fun a r=>by rcases Yx.1 r with h|h;exact d a h;subst h;exact c⟩,(by omega),⟨U,U,U,U,U,trivial⟩⟩
   refine D6<|A0<|B6 (es:=Zw iV []) U U (dT U) U U (fun _=>B3 (A6 fun _=>U)) (fun _=>U) ?_
   intro l;refine y_M U<|y_M U<|a1j U U U (G1 U) (by omega) U<|a2z U U U U (by decide) U (by(simp;done)) (by omega) U U U (dT U) (fun _=>⟨U,U,U⟩) (by simp only[H0];(simp only[Zo,Ze,Zf,ZL,Zi];omega)) (fun _=>U) ?_
   intro m;refine y_M U<|y_M U<|B7 U U U (fun _=>U) (by omega)<|y_I U<|B6 (es:=Zw iV [_]) U U (dT U) U U (fun _=>B3 (A6 fun _=>U)) (fun _=>U) ?_
   intro n;refine R5 U U U U (by(simp;done)) (by simp) (by decide) U U U U (dT U) (fun _=>⟨U,U⟩) (by simp only[H0];(simp;omega)) (fun _=>U) ?_;intro o;refine y_M U<|y_M U<|a8d U U U I2 (G1 U) (by omega) U<|a2z U U U U (by decide) U (by(simp;done)) (by omega) U U U (dT U) (fun _=>⟨U,U,U⟩) (by simp only[H0];(simp;omega)) (fun _=>U) ?_
   intro p
   (refine xO U U (by simp) U (fun _=>U) (fun _=>U) ?_;intro g3)
   refine G7 ⟨fun _=>⟨by decide+kernel,by decide+kernel⟩,[(.t 0,_),(.t 3,_),(.t 4,_),(.h 3,_)],⟨U,U,U,U,U,U,U,U,trivial⟩,?_⟩;refine A0<|y_M U<|D7 U U (B9 (by omega))<|y_S U<|xN [0,3,4] [3] U ?_
   refine⟨(i+1,_,_),?_,(by simp only;omega),⟨U,U,U,U,trivial⟩⟩;exact⟨by omega,by rw[c0s (by omega),<-b];exact b5n (b▸a0u _) e d fun h=>by omega⟩
  iterate 8 refine gF U U ?_
  refine E8 U (by assumption) U U ?_;refine G7 ⟨fun _=>⟨by decide+kernel,by decide+kernel⟩,[(.t 0,_),(.t 3,_),(.t 4,_),(.t 5,_),(.t 27,_),(.h 3,_)],⟨U,U,U,U,U,U,U,U,U,U,U,U,trivial⟩,?_⟩;refine A4 U (fun c=>absurd c (by decide)) (fun c=> ?_);refine D6<|A0<|B6 (es:=Zw iV []) U U (dT U) U U (fun _=>B3 (A6 fun _=>U)) (fun _=>U) ?_
  intro l;refine y_M U<|y_M U<|a1j U U U (G1 U) (by omega) U<|a2z U U U U (by decide) U (by(simp;done)) (by omega) U U U (dT U) (fun _=>⟨U,U,U⟩) (by simp only[H0];(simp only[Zo,Ze,Zf,ZL,Zi];omega)) (fun _=>U) ?_
  intro m;refine y_M U<|y_M U<|B7 U U U (fun _=>U) (by omega)<|y_I U<|B6 (es:=Zw iV [_]) U U (dT U) U U (fun _=>B3 (A6 fun _=>U)) (fun _=>U) ?_
  intro n;refine R5 U U U U (by(simp;done)) (by simp) (by decide) U U U U (dT U) (fun _=>⟨U,U⟩) (by simp only[H0];(simp;omega)) (fun _=>U) ?_;intro o;refine y_M U<|y_M U<|a8d U U U I2 (G1 U) (by omega) U<|a2z U U U U (by decide) U (by(simp;done)) (by omega) U U U (dT U) (fun _=>⟨U,U,U⟩) (by simp only[H0];(simp;omega)) (fun _=>U) ?_
  intro p
  (refine xO U U (by simp) U (fun _=>U) (fun _=>U) ?_;intro g3)
  refine G7 ⟨fun _=>⟨by decide+kernel,by decide+kernel⟩,[(.t 0,_),(.t 3,_),(.t 4,_),(.h 3,_)],⟨U,U,U,U,U,U,U,U,trivial⟩,?_⟩;refine A0<|y_M U<|D7 U U (B9 (by omega))<|y_S U<|xN [0,3,4] [3] U ?_
  refine⟨(i+1,_,_),?_,(by simp only;omega),⟨U,U,U,U,trivial⟩⟩;exact⟨by omega,by rw[c0s (by omega),<-b];exact b5n (b▸a0u _) e d fun h=>by omega⟩
 refine D6<|A3<|A0<|y_M U ?_
 (refine xO U U (by simp) U (fun _=>U) (fun _=>U) ?_;intro g2)
 refine xN [2] [2] U<|A9<|J3 U U (by simp) (by exact A6 fun _=>U) trivial ?_
 rw[b,ZB (by omega)]
theorem d5f:D9 Tryz.f113=[0,2,8,7,9,6,5,3]:=by kernel_rfl
theorem e8a(x:List Int)(e:vl x=true):CW (cxT oG) 113 [L x]=some (iV x.sum,[]):=by
 have g:=(Q4.1 e).1;have c:=a2t e;refine C7 U Tryz.func113 U ⟨by kernel_rfl,U,dT U,dT U,by decide⟩ d5f<|A3<|A0<|y_S U<|xN [0] [] U<|A3<|A0<|y_S U<|xN [0,3] [] U<|A3<|A3<|A0<|y_M U<|B8 U U<|y_M U<|xN [3,6,7,8] [] U<|B0<|D8 (β:=Nat×Int) [(.t 6,_),(.t 7,_)] (fun(z:Nat×Int)=>match z with|(i,a)=>[(.t 8,iV i),(.t 3,iV a)]) (fun(z:Nat×Int)=>match z with|(i,a)=>i<=x.length/\a=prS (J8 x) i) (fun(z:Nat×Int)=>match z with|(i,a)=>x.length-i) (0,0) ⟨U,U,U,U,trivial⟩ ⟨Zv _,U⟩ ?_
 intro z f;obtain⟨i,a⟩:=z
 try dsimp only at f
 obtain⟨k,b⟩:=f;have d:=d5o e i;have j: -100000<=x.getD i default/\x.getD i default<=100000:=c i;rw[<-b]at d;refine A3<|A0<|F4 U U<|xN [3,6,7,8,9] [] U<|A3 ?_
 refine A4 U ?_ ?_<;>intro h<;>try simp only[SL]at h
 ·refine A7<|A3<|B0<|A3<|A0<|B7 U U U (fun _=>U) (by omega)<|y_I U<|y_S U<|xN [3,5,6,7,8] [] U<|A0<|y_M U<|y_M U<|D7 U U (B9 (by omega))<|y_S U<|xN [3,6,7,8] [] U<|A0<|D7 U U (B9 (by omega))<|y_M U<|xN [3,6,7,8] [] U ?_
  refine⟨(i+1,a+x.getD i default),⟨by omega,by rw[prS,b];rfl⟩,(by simp only;omega),⟨U,U,U,U,trivial⟩⟩
 refine D6<|A3<|A0<|y_M U<|y_S U<|xN [2] [] U<|A9<|C4 U U trivial ?_
 rw[b,show i=x.length by omega,c5m]
theorem d2o:D9 Tryz.f63=[0,2,4,8,3]:=by kernel_rfl
theorem e9s(x:List Int)(e:vl x=true):CW (cxT oG) 63 [L x]=some (iV x.sum,[]):=by
 have g:=(Q4.1 e).1;have c:=a2t e;refine C7 U Tryz.func63 U ⟨by kernel_rfl,U,dT U,dT U,by decide⟩ d2o<|A3<|A0<|y_S U<|xN [0] [] U<|A3<|A0<|y_S U<|xN [0,3] [] U<|A3<|A3<|A0<|y_S U<|xN [0,3,4] [] U<|B0<|D8 (β:=Nat×Int) [(.t 0,_)] (fun(z:Nat×Int)=>match z with|(i,a)=>[(.t 4,iV i),(.t 3,iV a)]) (fun(z:Nat×Int)=>match z with|(i,a)=>i<=x.length/\a=prS (J8 x) i) (fun(z:Nat×Int)=>match z with|(i,a)=>x.length-i) (0,0) ⟨U,U,U,trivial⟩ ⟨Zv _,U⟩ ?_
 intro z f;obtain⟨i,a⟩:=z
 try dsimp only at f
 obtain⟨k,b⟩:=f;have d:=d5o e i;have j: -100000<=x.getD i default/\x.getD i default<=100000:=c i;rw[<-b]at d;refine A3<|A3<|A0<|y_M U<|y_M U<|B8 U U<|F4 U U<|xN [0,3,4,8] [] U ?_
 refine A4 U ?_ ?_<;>intro h<;>try simp only[SL]at h
 ·refine A7<|A3<|B0<|A0<|y_M U<|y_M U<|y_M U<|B7 U U U (fun _=>U) (by omega)<|y_I U<|D7 U U (B9 (by omega))<|y_S U<|xN [0,3,4] [] U<|A0<|y_M U<|D7 U U (B9 (by omega))<|y_S U<|xN [0,3,4] [] U ?_
  refine⟨(i+1,a+x.getD i default),⟨by omega,by rw[prS,b];rfl⟩,(by simp only;omega),⟨U,U,U,trivial⟩⟩
 refine D6<|A3<|A0<|y_M U<|y_S U<|xN [2] [] U<|A9<|C4 U U trivial ?_
 rw[b,show i=x.length by omega,c5m]
theorem c3w:D9 Tryz.f135=[0,2,13,12,14,11,4,3,23,22,24,21,5,7,27,37]:=by kernel_rfl
theorem e8m(x:List Int)(p:vl x=true):CW (cxT oG) 135 [L x]=some (.own 1 ((rkI x).map iV),[]):=by
 have q:=(Q4.1 p).1;have r:=a2t p;refine C7 U Tryz.func135 U ⟨by kernel_rfl,U,dT U,dT U,by decide⟩ c3w<|A3<|A0 ?_
 (refine B4 U U (fun _=>U) ?_;intro g2)
 refine xN [0] [] U<|A3<|A0<|y_M U<|B8 U U<|a2b (f:=iV) (x0:=0) U U U U U (by simp only[H0];omega) (dT U) (fun _=>B3 (by exact A6 fun _=>U)) (fun _=>U) ?_
 intro g10
 (refine xO U U (by simp) U (fun _=>U) (fun _=>U) ?_;intro g3)
 refine xN [0,3] [3] U<|A3<|A3<|A0<|y_M U<|B8 U U<|y_M U<|xN [0,3,11,12,13] [3] U<|B0 ?_
 refine D8 (β:=Nat×List Int) [(.t 0,_),(.t 3,_),(.t 11,_),(.t 12,_)] (fun(z:Nat×List Int)=>match z with|(i,l)=>[(.t 13,iV i),(.h 3,.obj g3 0 1 (l.map iV))]) (fun(z:Nat×List Int)=>match z with|(i,l)=>i<=x.length/\Y1 x.length (fun i=>1+prS (rkT x (J8 x i)) x.length) (fun _=>0) i l) (fun(z:Nat×List Int)=>match z with|(i,l)=>x.length-i) (0,ZP x.length 0) ⟨U,U,U,U,U,U,trivial⟩ ⟨Zv _,by simp,fun j u=>by rw[if_neg (by omega)];simp[Zc,u]⟩ ?_;intro z g;obtain⟨i,l⟩:=z
 try dsimp only at g
 obtain⟨s,n⟩:=g;have m:=n.1;refine A3<|A0<|F4 U U<|xN [0,3,11,12,13,14] [3] U<|A3 ?_
 refine A4 U ?_ ?_<;>intro e<;>try simp only[SL]at e
 ·refine A7<|A3<|B0<|A3<|A0<|y_M U<|B7 U U U (fun _=>U) (by omega)<|y_I U<|y_S U<|y_S U<|xN [0,3,4,5,11,12,13] [3] U<|A3<|A0<|y_M U<|y_M U<|C9 U U U U (by omega) (by(simp;omega)) U<|K4 U U U (by omega) (fun _ _=>⟨U,U,dT U,dT U,U,U⟩) (by decide) (by exact B3 (A6 fun _=>U))<|xN [0,3,4,5,11,12,13] [3] U<|A3<|A0<|y_M U<|B8 U U<|y_M U<|xN [0,3,4,5,11,12,13,21,22,23] [3] U<|B0<|D8 (β:=Nat×List Int) [(.t 0,_),(.t 3,_),(.t 4,_),(.t 5,_),(.t 11,_),(.t 12,_),(.t 13,_),(.t 21,_),(.t 22,_)] (fun(z:Nat×List Int)=>match z with|(k,b)=>[(.t 23,iV k),(.h 3,.obj g3 0 1 (b.map iV))]) (fun(z:Nat×List Int)=>match z with|(k,b)=>k<=x.length/\b=l.set i (1+prS (rkT x (J8 x i)) k)) (fun(z:Nat×List Int)=>match z with|(k,b)=>x.length-k) (0,l.set i 1) ⟨U,U,U,U,U,U,U,U,U,U,U,trivial⟩ ⟨Zv _,U⟩ ?_
  intro z g;obtain⟨k,b⟩:=z
  try dsimp only at g
  obtain⟨v,a⟩:=g;have o:b.length=x.length:=by rw[a];simp[m]
  have d:b.getD i default=1+prS (rkT x (J8 x i)) k:=by rw[a,a3r _ _ _ _ (by omega),if_pos U]
  have w:=f6u x (J8 x i) k;refine A3<|A0<|F4 U U<|xN [0,3,4,5,11,12,13,21,22,23,24] [3] U<|A3 ?_
  refine A4 U ?_ ?_<;>intro e<;>try simp only[SL]at e
  ·refine A7<|A3<|B0<|A3<|A0<|B7 U U U (fun _=>U) (by omega)<|y_I U<|y_S U<|xN [0,3,4,5,7,11,12,13,21,22,23] [3] U<|B0<|A3<|A0<|y_M U<|y_M U<|F4 U U<|y_S U<|xN [0,3,4,5,7,11,12,13,21,22,23,27] [3] U ?_
   refine A4 U ?_ ?_<;>intro e<;>try simp only[SL]at e
   ·refine A0<|y_M U<|y_M U<|C9 U U U U (by omega) (by(simp;omega)) U<|E6 U U (by omega) (fun _=>U) (fun _=>U) U<|D7 U U (B9 (by omega))<|C9 U U U U (by omega) (by(simp;omega)) U<|K4 U U U (by omega) (fun _ _=>⟨U,U,dT U,dT U,U,U⟩) (by decide) (by exact B3 (A6 fun _=>U))<|xN [0,3,4,5,11,12,13,21,22,23] [3] U<|A0<|D7 U U (B9 (by omega))<|y_M U<|xN [0,3,4,5,11,12,13,21,22,23] [3] U ?_
    refine⟨(k+1,b.set i (b.getD i default+2)),?_,(by simp only;omega),⟨U,U,U,U,U,U,U,U,U,U,U,trivial⟩⟩;have c:prS (rkT x (J8 x i)) (k+1)=prS (rkT x (J8 x i)) k+rkT x (J8 x i) k:=rfl;exact⟨by omega,by rw[d,a,List.set_set,c,rkT,if_pos (by assumption),Int.add_assoc]⟩
   refine A3<|A0<|y_M U<|y_M U<|K6 U U<|y_S U<|xN [0,3,4,5,11,12,13,21,22,23,37] [3] U ?_
   refine A4 U ?_ ?_<;>intro e<;>try simp only[SL]at e
   ·refine A0<|y_M U<|y_M U<|C9 U U U U (by omega) (by(simp;omega)) U<|E6 U U (by omega) (fun _=>U) (fun _=>U) U<|D7 U U (B9 (by omega))<|C9 U U U U (by omega) (by(simp;omega)) U<|K4 U U U (by omega) (fun _ _=>⟨U,U,dT U,dT U,U,U⟩) (by decide) (by exact B3 (A6 fun _=>U))<|xN [0,3,4,5,11,12,13,21,22,23] [3] U<|A0<|D7 U U (B9 (by omega))<|y_M U<|xN [0,3,4,5,11,12,13,21,22,23] [3] U ?_
    refine⟨(k+1,b.set i (b.getD i default+1)),?_,(by simp only;omega),⟨U,U,U,U,U,U,U,U,U,U,U,trivial⟩⟩;have c:prS (rkT x (J8 x i)) (k+1)=prS (rkT x (J8 x i)) k+rkT x (J8 x i) k:=rfl;exact⟨by omega,by rw[d,a,List.set_set,c,rkT,if_neg (by unfold J8;omega),if_pos (by assumption),Int.add_assoc]⟩
   refine A7<|A0<|D7 U U (B9 (by omega))<|y_M U<|xN [0,3,4,5,11,12,13,21,22,23] [3] U ?_
   refine⟨(k+1,b),?_,(by simp only;omega),⟨U,U,U,U,U,U,U,U,U,U,U,trivial⟩⟩;have c:prS (rkT x (J8 x i)) (k+1)=prS (rkT x (J8 x i)) k+rkT x (J8 x i) k:=rfl;exact⟨by omega,by rw[a,c,rkT,if_neg (by unfold J8;omega),if_neg (by unfold J8;omega),Int.add_zero]⟩
  refine D6<|A0<|D7 U U (B9 (by omega))<|y_M U<|xN [0,3,11,12,13] [3] U ?_
  refine⟨(i+1,b),?_,(by simp only;omega),⟨U,U,U,U,U,U,trivial⟩⟩;exact⟨by omega,by rw[a];exact n.step (by omega) (by rw[show k=x.length by omega])⟩
 refine D6<|A3<|A0<|y_M U ?_
 (refine I9 U U (by(simp;omega)) U (fun _=>(B3 (by exact A6 fun _=>U))) (fun _=>U) ?_;intro g2)
 refine xN [2] [2] U<|A9<|J3 U U (by(simp[m];done)) (by exact A6 fun _=>U) trivial ?_
 rw[n.fin (by omega)]
 rfl
theorem c4b:D9 Tryz.f89=[0,2,4,12,7,18,29,5,40,6,3]:=by kernel_rfl
theorem e9p(x:List Int)(m:vl x=true):CW (cxT oG) 89 [L x]=some (.own 1 ((rkI x).map iV),[]):=by
 have n:=(Q4.1 m).1;have v:=a2t m;refine C7 U Tryz.func89 U ⟨by kernel_rfl,U,dT U,dT U,by decide⟩ c4b<|A3<|A0 ?_
 (refine B4 U U (fun _=>U) ?_;intro g2)
 refine xN [0] [] U<|A3<|A0<|B6 (es:=Zw iV []) U U (dT U) U U (fun _=>B3 (A6 fun _=>U)) (fun _=>U) ?_
 intro g8
 (refine xO U U (by simp) U (fun _=>U) (fun _=>U) ?_;intro g3)
 refine xN [0,3] [3] U<|A3<|A3<|A0<|y_S U<|xN [0,3,4] [3] U<|B0<|D8 (β:=Nat×List Int×Nat) [(.t 0,_)] (fun(z:Nat×List Int×Nat)=>match z with|(i,l,g)=>[(.t 4,iV i),(.h 3,.obj g 0 1 (l.map iV)),(.t 3,.sl 3 g none 0 l.length)]) (fun(z:Nat×List Int×Nat)=>match z with|(i,l,g)=>i<=x.length/\l=(Yb i).map fun i=>1+prS (rkT x (J8 x i)) x.length) (fun(z:Nat×List Int×Nat)=>match z with|(i,l,g)=>x.length-i) (0,[],_) ⟨U,U,U,U,trivial⟩ ⟨Zv _,U⟩ ?_
 intro z f;obtain⟨i,l,g⟩:=z
 try dsimp only at f
 obtain⟨w,j⟩:=f;have A:l.length=i:=by rw[j];simp
 refine A3<|A3<|A0<|y_M U<|y_M U<|B8 U U<|F4 U U<|xN [0,3,4,12] [3] U ?_
 refine A4 U ?_ ?_<;>intro e<;>try simp only[SL]at e
 ·refine A7<|A3<|B0<|A3<|A0<|y_S U<|xN [0,3,4,5] [3] U<|A3<|A0<|y_S U<|xN [0,3,4,5,6] [3] U<|A3<|A3<|A0<|y_S U<|xN [0,3,4,5,6,7] [3] U<|B0<|D8 (β:=Nat×Int×Int) [(.t 0,_),(.t 3,_),(.t 4,_),(.h 3,_)] (fun(z:Nat×Int×Int)=>match z with|(k,a,b)=>[(.t 7,iV k),(.t 5,iV a),(.t 6,iV b)]) (fun(z:Nat×Int×Int)=>match z with|(k,a,b)=>k<=x.length/\2*a+b=prS (rkT x (J8 x i)) k/\0<=a/\a<=k/\0<=b/\b<=k) (fun(z:Nat×Int×Int)=>match z with|(k,a,b)=>x.length-k) (0,0,0) ⟨U,U,U,U,U,U,U,trivial⟩ ⟨Zv _,U,by decide,by decide,by decide,by decide⟩ ?_
  intro z f;obtain⟨k,a,b⟩:=z
  try dsimp only at f
  obtain⟨y,d,q,r,s,u⟩:=f;refine A3<|A3<|A0<|y_M U<|y_M U<|B8 U U<|F4 U U<|xN [0,3,4,5,6,7,18] [3] U ?_
  refine A4 U ?_ ?_<;>intro e<;>try simp only[SL]at e
  ·refine A7<|A3<|B0<|A3<|A3<|A0<|y_M U<|y_M U<|B7 U U U (fun _=>U) (by omega)<|y_I U<|y_M U<|y_M U<|B7 U U U (fun _=>U) (by omega)<|y_I U<|F4 U U ?_
   refine G7 ⟨fun _=>⟨by decide+kernel,by decide+kernel⟩,[(.t 0,_),(.t 3,_),(.t 4,_),(.t 5,_),(.t 6,_),(.t 7,_),(.t 29,_),(.h 3,_)],⟨U,U,U,U,U,U,U,U,U,U,U,U,U,U,U,U,trivial⟩,?_⟩;refine A4 U ?_ ?_<;>intro e<;>try simp only[SL]at e
   ·refine A0<|y_M U<|D7 U U (B9 (by omega))<|y_S U<|xN [0,3,4,5,6,7] [3] U<|A3<|A0<|y_M U<|y_M U<|B7 U U U (fun _=>U) (by omega)<|y_I U<|y_M U<|y_M U<|B7 U U U (fun _=>U) (by omega)<|y_I U<|K6 U U ?_
    refine G7 ⟨fun _=>⟨by decide+kernel,by decide+kernel⟩,[(.t 0,_),(.t 3,_),(.t 4,_),(.t 5,_),(.t 6,_),(.t 7,_),(.t 40,_),(.h 3,_)],⟨U,U,U,U,U,U,U,U,U,U,U,U,U,U,U,U,trivial⟩,?_⟩;refine A4 U ?_ ?_<;>intro e<;>try simp only[SL]at e
    ·refine A0<|y_M U<|D7 U U (B9 (by omega))<|y_S U<|xN [0,3,4,5,6,7] [3] U<|A0<|y_M U<|D7 U U (B9 (by omega))<|y_S U<|xN [0,3,4,5,6,7] [3] U ?_
     refine⟨(k+1,a+1,b+1),?_,(by simp only;omega),⟨U,U,U,U,U,U,U,trivial⟩⟩;have c:prS (rkT x (J8 x i)) (k+1)=prS (rkT x (J8 x i)) k+rkT x (J8 x i) k:=rfl;exact⟨by omega,by rw[c,<-d,rkT,if_pos (by assumption)];omega,by omega,by omega,by omega,by omega⟩
    refine A7<|A0<|y_M U<|D7 U U (B9 (by omega))<|y_S U<|xN [0,3,4,5,6,7] [3] U ?_
    refine⟨(k+1,a+1,b),?_,(by simp only;omega),⟨U,U,U,U,U,U,U,trivial⟩⟩;have c:prS (rkT x (J8 x i)) (k+1)=prS (rkT x (J8 x i)) k+rkT x (J8 x i) k:=rfl;exact⟨by omega,by rw[c,<-d,rkT,if_pos (by assumption)];omega,by omega,by omega,by omega,by omega⟩
   refine A7<|A3<|A0<|y_M U<|y_M U<|B7 U U U (fun _=>U) (by omega)<|y_I U<|y_M U<|y_M U<|B7 U U U (fun _=>U) (by omega)<|y_I U<|K6 U U ?_
   refine G7 ⟨fun _=>⟨by decide+kernel,by decide+kernel⟩,[(.t 0,_),(.t 3,_),(.t 4,_),(.t 5,_),(.t 6,_),(.t 7,_),(.t 40,_),(.h 3,_)],⟨U,U,U,U,U,U,U,U,U,U,U,U,U,U,U,U,trivial⟩,?_⟩;refine A4 U ?_ ?_<;>intro e<;>try simp only[SL]at e
   ·refine A0<|y_M U<|D7 U U (B9 (by omega))<|y_S U<|xN [0,3,4,5,6,7] [3] U<|A0<|y_M U<|D7 U U (B9 (by omega))<|y_S U<|xN [0,3,4,5,6,7] [3] U ?_
    refine⟨(k+1,a,b+1),?_,(by simp only;omega),⟨U,U,U,U,U,U,U,trivial⟩⟩;have c:prS (rkT x (J8 x i)) (k+1)=prS (rkT x (J8 x i)) k+rkT x (J8 x i) k:=rfl;exact⟨by omega,by rw[c,<-d,rkT,if_neg (by unfold J8;omega),if_pos (by assumption)];omega,by omega,by omega,by omega,by omega⟩
   refine A7<|A0<|y_M U<|D7 U U (B9 (by omega))<|y_S U<|xN [0,3,4,5,6,7] [3] U ?_
   refine⟨(k+1,a,b),?_,(by simp only;omega),⟨U,U,U,U,U,U,U,trivial⟩⟩;have c:prS (rkT x (J8 x i)) (k+1)=prS (rkT x (J8 x i)) k+rkT x (J8 x i) k:=rfl;exact⟨by omega,by rw[c,<-d,rkT,if_neg (by unfold J8;omega),if_neg (by unfold J8;omega)];omega,by omega,by omega,by omega,by omega⟩
  refine D6<|A0<|y_M U<|y_M U<|V3 U U (B9 (by omega))<|y_M U<|D7 U U (B9 (by omega))<|D7 U U (B9 (by omega))<|B6 (es:=Zw iV [_]) U U (dT U) U U (fun _=>B3 (A6 fun _=>U)) (fun _=>U) ?_
  intro o;refine xA U U U U (by simp) (by simp) U U U U U (fun _=>U) (by simp only[LN];omega) (fun _=>U) ?_;intro p
  (refine xO U U (by simp) U (fun _=>U) (fun _=>U) ?_;intro g3)
  refine xN [0,3,4] [3] U<|A0<|y_M U<|D7 U U (B9 (by omega))<|y_S U<|xN [0,3,4] [3] U ?_
  refine⟨(i+1,l++[2*a+b+1],_),?_,(by simp only;omega),⟨U,U,U,U,trivial⟩⟩;exact⟨by omega,by rw[j,Z6,d,show k=x.length by omega,Int.add_comm]⟩
 refine D6<|A3<|A0<|y_M U ?_
 (refine xO U U (by simp) U (fun _=>U) (fun _=>U) ?_;intro g2)
 refine xN [2] [2] U<|A9<|J3 U U (by simp) (by exact A6 fun _=>U) trivial ?_
 rw[j,show i=x.length by omega]
 rfl
theorem c0u:D9 Tryz.f88=[0,2,4,10,3]:=by kernel_rfl
theorem e4z(x:List Int)(i:x.length<=1000):CW (cxT oG) 88 [L x]=some (.own 1 (x.reverse.map iV),[]):=by
 refine C7 U Tryz.func88 U ⟨by kernel_rfl,U,dT U,dT U,by decide⟩ c0u<|A3<|A0 ?_
 (refine B4 U U (fun _=>U) ?_;intro g2)
 refine xN [0] [] U<|A3<|A0<|B6 (es:=Zw iV []) U U (dT U) U U (fun _=>B3 (A6 fun _=>U)) (fun _=>U) ?_
 intro g5
 (refine xO U U (by simp) U (fun _=>U) (fun _=>U) ?_;intro g3)
 refine xN [0,3] [3] U<|A3<|A3<|A0<|y_M U<|B8 U U<|J7 U U (B9 (by omega))<|y_S U<|xN [0,3,4] [3] U<|B0<|D8 (β:=Nat×List Int×Nat) [(.t 0,_)] (fun(z:Nat×List Int×Nat)=>match z with|(k,l,g)=>[(.t 4,iV ((k:Int)-1)),(.h 3,.obj g 0 1 (l.map iV)),(.t 3,.sl 3 g none 0 l.length)]) (fun(z:Nat×List Int×Nat)=>match z with|(k,l,g)=>k<=x.length/\l=(x.drop k).reverse) (fun(z:Nat×List Int×Nat)=>match z with|(k,l,g)=>k) (x.length,[],_) ⟨U,U,U,U,trivial⟩ ⟨Zd _,by simp⟩ ?_
 intro z c;obtain⟨k,l,g⟩:=z
 try dsimp only at c
 obtain⟨e,a⟩:=c;have f:l.length=x.length-k:=by rw[a];simp
 refine A3<|A3<|A0<|y_M U<|c0r U U<|xN [0,3,4,10] [3] U ?_
 refine A4 U ?_ ?_<;>intro d<;>try simp only[SL]at d
 ·obtain⟨b,rfl⟩:∃b,k=b+1:=⟨k-1,by omega⟩
  rw[show(((b+1:Nat):Int)-1)=(b:Int) by omega];refine A7<|A3<|B0<|A0<|y_M U<|y_M U<|y_M U<|B7 U U U (fun _=>U) (by omega)<|y_I U<|B6 (es:=Zw iV [_]) U U (dT U) U U (fun _=>B3 (A6 fun _=>U)) (fun _=>U) ?_
  intro g18;refine xA U U U U (by simp) (by simp) U U U U U (fun _=>U) (by simp only[LN];omega) (fun _=>U) ?_;intro g19
  (refine xO U U (by simp) U (fun _=>U) (fun _=>U) ?_;intro g3)
  refine xN [0,3,4] [3] U<|A0<|y_M U<|J7 U U (B9 (by omega))<|y_S U<|xN [0,3,4] [3] U ?_
  refine⟨(b,l++[x.getD b default],_),?_,(by simp only;omega),⟨U,U,U,U,trivial⟩⟩;exact⟨by omega,by rw[a,e5q (show b<x.length by omega),List.reverse_cons]⟩
 refine D6<|A3<|A0<|y_M U ?_
 (refine xO U U (by simp) U (fun _=>U) (fun _=>U) ?_;intro g2)
 refine xN [2] [2] U<|A9<|J3 U U (by simp) (by exact A6 fun _=>U) trivial ?_
 rw[a,show k=0 by omega]
 rfl
theorem b3j:D9 Tryz.f90=[0,2,3,7,15]:=by kernel_rfl
theorem d1l(x:List Int)(f:x.length<=1048576):CW (cxT oG) 90 [L x]=some (bV (vl x),[]):=by
 refine C7 U Tryz.func90 U ⟨by kernel_rfl,U,dT U,dT U,by decide⟩ b3j<|A3<|A0<|y_S U<|xN [0] [] U<|A3<|A3<|A0<|y_S U<|xN [0,3] [] U<|B0<|D8 (β:=Nat) [(.t 0,_)] (fun(i:Nat)=>[(.t 3,iV i)]) (fun(i:Nat)=>i<=x.length/\∀j,j<i->-100000<=x.getD j default/\x.getD j default<=100000) (fun(i:Nat)=>x.length-i) 0 ⟨U,U,trivial⟩ ⟨Zv _,fun j h=>by omega⟩ ?_
 intro i d;obtain⟨e,a⟩:=d;refine A3<|A3<|A0<|y_M U<|y_M U<|B8 U U<|F4 U U<|xN [0,3,7] [] U ?_
 refine A4 U ?_ ?_<;>intro b<;>try simp only[SL]at b
 ·refine A7<|A3<|B0<|A3<|A0<|y_M U<|y_M U<|B7 U U U (fun _=>U) (by omega)<|y_I U ?_
  refine xC3 U U U U (a1f _ _ _) ⟨U,U,U⟩ U U fun g14=> ?_
  refine H8 U<|xN [0,3,15] [] U ?_
  refine A4 U ?_ ?_<;>intro b<;>try simp only[SL]at b
  ·refine A3<|A0<|y_S U<|xN [2] [] U<|A9<|C4 U U trivial ?_
   rw[vl,d3r (show i<x.length by omega) (by(simp_all;omega)),Bool.and_false]
   rfl
  refine A7<|A0<|y_M U<|D7 U U (B9 (by omega))<|y_S U<|xN [0,3] [] U ?_
  refine⟨i+1,⟨by omega,fun j c=>by rcases Yx.1 c with h|h;(·exact a j h);(·subst h;assumption)⟩,(by omega),⟨U,U,trivial⟩⟩
 refine D6<|A3<|A0<|y_M U<|B8 U U<|a2q U U<|y_S U<|xN [2] [] U<|A9<|C4 U U trivial ?_
 rw[vl,e1y fun j c=>a j (by omega),Bool.and_true];exact congrArg bV (decide_eq_decide.2 (by omega))
theorem b4y:D9 Tryz.f101=[0,2]:=by kernel_rfl
theorem d5p(c:List Int)(a:c.length<=1048576):CW (cxT oG) 101 [L c]=some (bV (!vd c),[]):=by
 refine C7 U Tryz.func101 U ⟨by kernel_rfl,U,dT U,dT U,by decide⟩ b4y<|A3<|A0<|y_S U<|xN [0] [] U<|A3<|A0<|y_M U ?_
 refine xC1 U U (T6 c a) ⟨U,U,U⟩ U U fun g4=> ?_
 refine H8 U<|y_S U<|xN [2] [] U<|A9<|C4 U U trivial ?_
 rfl
theorem b2u:D9 Tryz.f130=[0,1,4,8,7,9,5,16]:=by kernel_rfl
theorem c7h(a:List (List Int))(l:a.length<=1048576)(e:∀c∈a,c.length<=1048576):∃res outs,(fun res outs=>∃r:Int,res=iV r/\outs=[]/\decide (0<=r)=a.any fun c=> !vd c) res outs/\CW (cxT oG) 130 [M a,.clo 101 []]=some (res,outs):=by
 refine M3 U Tryz.func130 U ⟨by kernel_rfl,U,dT U,dT U,by decide⟩ b2u<|A3<|A0<|y_S U<|xN [0,1] [] U<|A3<|A3<|A0<|y_M U<|B8 U U<|y_M U<|xN [0,1,7,8] [] U<|B0<|D8 (β:=Nat) [(.t 0,_),(.t 1,_),(.t 7,_)] (fun(i:Nat)=>[(.t 8,iV i)]) (fun(i:Nat)=>i<=a.length/\∀j,j<i->(!vd (a.getD j default))=false) (fun(i:Nat)=>a.length-i) 0 ⟨U,U,U,U,trivial⟩ ⟨Zv _,fun j h=>by omega⟩ ?_
 intro i k;obtain⟨m,d⟩:=k;have f:=fun h:i<a.length=>e _ (N2 h)
 refine A3<|A0<|F4 U U<|xN [0,1,7,8,9] [] U<|A3 ?_
 refine A4 U ?_ ?_<;>intro b<;>try simp only[SL]at b
 ·refine A7<|A3<|B0<|A3<|A0<|y_M U<|y_S U<|xN [0,1,5,7,8] [] U<|A3<|A0<|y_M U<|y_M U<|y_M U<|B7 U U U (fun _=>U) (by omega)<|y_I U ?_
  apply d1h U U
  ·apply A8
   ·exact B1 U
   exact C2
  ·exact d5p (a.getD i default) (f (by omega))
  ·exact⟨U,U,U,dT U,U⟩
  ·exact .inl U
  ·exact B2
  ·exact C8 U
  ·exact fun _=>U
  intro g16;refine xN [0,1,5,7,8,16] [] U ?_;refine A4 U ?_ ?_<;>intro b<;>try simp only[SL]at b
  ·refine A3<|A0<|y_M U<|y_S U<|xN [4] [] U<|A9 ?_
   refine⟨_,_,?_,J1 U U B5⟩;exact⟨_,U,U,e7p (q:=fun c=> !vd c) (by omega) (by simpa using b)⟩
  refine A7<|A0<|D7 U U (B9 (by omega))<|y_M U<|xN [0,1,7,8] [] U ?_
  refine⟨i+1,⟨by omega,fun j g=>by rcases Yx.1 g with h|h;(·exact d j h);(·subst h;simpa using b)⟩,(by omega),⟨U,U,U,U,trivial⟩⟩
 refine D6<|A3<|A0<|y_S U<|xN [4] [] U<|A9 ?_
 refine⟨_,_,?_,J1 U U B5⟩;exact⟨-1,U,U,e4x fun j g=>d j (by omega)⟩
theorem a8y:D9 Tryz.f100=[0,1,4]:=by kernel_rfl
theorem b7g(a:List (List Int))(b:a.length<=1048576)(d:∀c∈a,c.length<=1048576):CW (cxT oG) 100 [M a,.clo 101 []]=some (bV (a.any fun c=> !vd c),[]):=by
 obtain⟨_,_,⟨r,rfl,rfl,f⟩,e⟩:=c7h (oG:=oG) a b d;refine C7 U Tryz.func100 U ⟨by kernel_rfl,U,dT U,dT U,by decide⟩ a8y<|A3<|A0<|y_S U<|xN [0,1] [] U<|A3<|A0<|y_M U<|y_M U ?_
 refine xC2 U U U (e) ⟨U,U,U⟩ U U fun g7=> ?_
 refine c0r U U<|y_S U<|xN [4] [] U<|A9<|C4 U U trivial ?_
 rw[<-f]
theorem b0a:D9 Tryz.f74=[0,2]:=by kernel_rfl
theorem b9p(a:List (List Int))(b:a.length<=1048576)(d:∀c∈a,c.length<=1048576):CW (cxT oG) 74 [M a]=some (bV (vcs a),[]):=by
 refine C7 U Tryz.func74 U ⟨by kernel_rfl,U,dT U,dT U,by decide⟩ b0a<|A3<|A0<|y_S U<|xN [0] [] U<|A3<|A0<|y_M U<|B8 U U<|a2q U U<|y_M U ?_
 refine D5 U U ?_ ?_<;>intro e<;>have f:=e<;>try simp only[SG]at f
 ·refine y_M U<|gT U U ?_
  refine xC2 U U U (b7g a b d) ⟨U,U,U⟩ U U fun g8=> ?_
  refine gT U U<|H8 U<|F0 U (by assumption) U U<|y_S U<|xN [2] [] U<|A9<|C4 U U trivial ?_
  rw[e2o]
  (simp_all;done)
 refine gF U U<|gF U U<|E8 U (by assumption) U U<|y_S U<|xN [2] [] U<|A9<|C4 U U trivial ?_
 rw[e2o]
 (simp_all[ofConst];intros;omega)
theorem b8w:D9 Tryz.f134=[0,3,2,9]:=by kernel_rfl
theorem e5y(x:List Int)(f:x.length<=1000):∃res outs,(fun res outs=>res= .tup []/\outs=[x.reverse.map iV]) res outs/\CW (cxT oG) 134 [.own 1 (x.map iV)]=some (res,outs):=by
 refine M3 U Tryz.func134 U ⟨by kernel_rfl,U,dT U,dT U,by decide⟩ b8w<|A3<|A0<|y_M U<|G8 U U ?_
 simp only[Zi];refine J7 U U (B9 (by omega))<|y_S U<|y_S U<|xN [0,2,3] [0] U<|B0 ?_
 rw[show((x.length:Int)-1)=(x.length:Int)-1-((0:Nat):Int) by simp];refine D8 (β:=Nat×List Int) [(.t 0,_)] (fun(z:Nat×List Int)=>match z with|(i,l)=>[(.t 2,iV i),(.t 3,iV ((x.length:Int)-1-(i:Int))),(.h 0,.obj 1 1 1 (l.map iV))]) (fun(z:Nat×List Int)=>match z with|(i,l)=>i<=x.length/\d0p x i l) (fun(z:Nat×List Int)=>match z with|(i,l)=>x.length-i) (0,x) ⟨U,U,U,U,trivial⟩ ⟨Zv _,d0p.start x⟩ ?_;intro z b;obtain⟨i,l⟩:=z
 try dsimp only at b
 obtain⟨d,a⟩:=b;have e:=a.1;refine A3<|A3<|A0<|y_M U<|y_M U<|F4 U U<|xN [0,2,3,9] [0] U ?_
 refine A4 U ?_ ?_<;>intro c<;>try simp only[SL]at c
 ·refine A7<|A3<|B0<|A0 ?_
  iterate 6 refine y_M U ?_
  rw[show((x.length:Int)-1-(i:Int))=((x.length-1-i:Nat):Int) by omega];refine C9 U U U U (by(simp;omega)) (by(simp;omega)) U<|E6 U U (by omega) (fun _=>U) (fun _=>U) U<|y_M U<|y_M U<|C9 U U U U (by(simp;omega)) (by(simp;omega)) U<|E6 U U (by omega) (fun _=>U) (fun _=>U) U<|C9 U U U U (by(simp;omega)) (by(simp;omega)) U<|K4 U U U (by omega) (fun _ _=>⟨U,U,dT U,dT U,U,U⟩) (by decide) (by exact a3b (A6 fun _=>U))<|C9 U U U U (by(simp;omega)) (by(simp;omega)) U<|K4 U U U (by(simp;omega)) (fun _ _=>⟨U,U,dT U,dT U,U,U⟩) (by decide) (by exact a3b (A6 fun _=>U)) ?_
  refine G7 ⟨fun _=>⟨by decide+kernel,by decide+kernel⟩,[(.t 0,_),(.t 2,_),(.t 3,_),(.h 0,_)],⟨U,U,U,U,U,U,U,U,trivial⟩,?_⟩;refine A0<|y_M U<|D7 U U (B9 (by omega)) ?_
  rw[show((x.length-1-i:Nat):Int)=(x.length:Int)-1-(i:Int) by omega];refine y_M U<|J7 U U (B9 (by omega))<|y_S U<|y_S U<|xN [0,2,3] [0] U ?_
  rw[show((x.length:Int)-1-(i:Int)-1)=(x.length:Int)-1-((i+1:Nat):Int) by omega];refine⟨(i+1,_),?_,(by simp only;omega),⟨U,U,U,U,trivial⟩⟩;exact⟨by omega,a.step (by omega)⟩
 refine D6 ?_;refine⟨_,_,?_,b2m (I0 U (V1 fun _=>U))⟩;exact⟨U,by rw[a.fin (by omega)]⟩
theorem c3l:D9 Tryz.f102=[0,1,2,6,9,7,19]:=by kernel_rfl
theorem e8j(k:Nat)(h:k<4)(e:List Int)(a:List (List Int))(i:a.length<=1048576)(f:∀c∈a,c.length<=1048576):CW (cxT oG) 102 [sV (e5e k),L e,M a]=some (.own 1 ((a.getD k default).map iV),[]):=by
 have g:(a.getD k default).length<=1048576:=by rcases Nat.lt_or_ge k a.length with c|c;(·exact f _ (N2 c));(·rw[Zc,ZQ c];exact Zv _)
 refine C7 U Tryz.func102 U ⟨by kernel_rfl,U,dT U,dT U,by decide⟩ c3l<|A3<|A0 ?_
 (refine B4 U U (fun _=>U) ?_;intro g6)
 refine xN [0,1,2] [] U<|A3<|A3<|A0<|y_M U<|f0z (t:=false) U U (by match k,h with|0,_=>decide+kernel|1,_=>decide+kernel|2,_=>decide+kernel|3,_=>decide+kernel)<|xN [0,1,2,9] [] U ?_
 refine A4 U (fun d=> ?_) (fun d=> ?_)
 ·try simp only[SD]at d
  exact absurd d (by decide)
 try simp only[SL]at d
 refine A7<|A3<|A3<|A0<|y_M U<|a7b (b:=UInt8.ofNat (97+k)) U U U (by decide) U ?_
 rw[show(UInt8.ofNat (97+k)).toNat=97+k from by match k,h with|0,_=>rfl|1,_=>rfl|2,_=>rfl|3,_=>rfl];refine J7 U U (by constructor<;>simp[IntKind.min,IntKind.max,IntKind.signed,IntKind.bits]<;>omega) ?_;rw[show((97+k:Nat):Int)-97=(k:Int) by omega];refine a2m U U U (B9 (by omega))<|y_S U<|xN [2,7] [] U<|A3<|A0<|y_M U<|y_M U<|B8 U U<|F4 U U<|xN [2,7,19] [] U ?_
 refine A4 U ?_ ?_<;>intro d<;>try simp only[SL]at d
 ·refine A3<|A0<|y_M U<|y_M U<|B7 U U U (fun _=>U) (by omega)<|y_I U ?_
  apply xC U
  ·apply A8
   ·exact B1 U
   exact C2
  ·exact e1a (a.getD k default) g
  refine⟨⟨U,U,U,dT U,U⟩,.inl U,B2,H4,fun _=>U,fun g24=> ?_⟩;simp only[Zi]
  (refine xO U U (by simp) U (fun _=>U) (fun _=>U) ?_;intro g6)
  refine xN [6] [6] U<|A9<|J3 U U (by simp) (by exact A6 fun _=>U) trivial ?_
  rfl
 refine A7<|A3<|A0 ?_
 (refine B4 U U (fun _=>U) ?_;intro g6)
 refine xN [6] [6] U<|A9<|J3 U U (by simp) (by rfl) trivial ?_
 rw[Zc,ZQ (by omega)]
 rfl
theorem b6m:D9 Tryz.f25=[0,1,4,5,13]:=by kernel_rfl
theorem b9x(k:Nat)(h:k<4)(a:List (List Int))(f:a.length<=1048576)(d:∀c∈a,c.length<=1048576):CW (cxT oG) 25 [sV (e5e k),M a]=some (.own 1 ((a.getD k default).map iV),[]):=by
 have g:(a.getD k default).length<=1048576:=by rcases Nat.lt_or_ge k a.length with c|c;(·exact d _ (N2 c));(·rw[Zc,ZQ c];exact Zv _)
 refine C7 U Tryz.func25 U ⟨by kernel_rfl,U,dT U,dT U,by decide⟩ b6m<|A3<|A0 ?_
 (refine B4 U U (fun _=>U) ?_;intro g4)
 refine xN [0,1] [] U<|A3<|A0<|y_M U<|a7b (b:=UInt8.ofNat (97+k)) U U U (by decide) U ?_
 rw[show(UInt8.ofNat (97+k)).toNat=97+k from by match k,h with|0,_=>rfl|1,_=>rfl|2,_=>rfl|3,_=>rfl];refine J7 U U (by constructor<;>simp[IntKind.min,IntKind.max,IntKind.signed,IntKind.bits]<;>omega) ?_;rw[show((97+k:Nat):Int)-97=(k:Int) by omega];refine a2m U U U (B9 (by omega))<|y_S U<|xN [1,5] [] U<|A3<|A3<|A0<|y_M U<|y_M U<|B8 U U<|F4 U U<|xN [1,5,13] [] U ?_
 refine A4 U ?_ ?_<;>intro e<;>try simp only[SL]at e
 ·refine A3<|A0<|B6 (es:=Zw iV []) U U (dT U) U U (fun _=>B3 (A6 fun _=>U)) (fun _=>U) ?_
  intro g14;refine y_M U<|y_M U<|B7 U U U (fun _=>U) (by omega)<|y_I U<|Q0 U U U (by(simp;done)) U U U (dT U) (fun _=>⟨U,U,U⟩) (by simp only[H0];(simp only[Zo,Ze,Zf,ZL,Zi];omega)) (fun _=>U) ?_
  intro g19
  (refine xO U U (by simp) U (fun _=>U) (fun _=>U) ?_;intro g4)
  refine xN [4] [4] U<|A9<|J3 U U (by simp) (by exact A6 fun _=>U) trivial ?_
  rfl
 refine A7<|A3<|A0<|B6 (es:=Zw iV []) U U (dT U) U U (fun _=>B3 (A6 fun _=>U)) (fun _=>U) ?_
 intro g20
 (refine xO U U (by simp) U (fun _=>U) (fun _=>U) ?_;intro g4)
 refine xN [4] [4] U<|A9<|J3 U U (by simp) (by rfl) trivial ?_
 rw[Zc,ZQ (by omega)]
 rfl
theorem c3e:D9 Tryz.f103=[0,1,4,5,15,20,21,6,25,29,33,32,34,7,45,49,48,50,8,66,9,72,86,10,91,105,109,114,124,129,128,130,127,12,11,142,156,63]:=by kernel_rfl
theorem d4b(op:ByteArray)(h1:1<=nd op)(x y:List Int)(E:vl x=true)(Q:vl y=true)(ls:List (List Int))(a3:1<=ls.length)(C:nd op=2->2<=ls.length)(D:ls.getD 0 default=x)(A:2<=ls.length->ls.getD 1 default=y):CW (cxT oG) 103 [sV op,M ls]=some (.tup [.own 1 (((mkR op x y).getD []).map iV),bV (mkR op x y).isSome],[]):=by
 have P:=(Q4.1 E).1;have R:=(Q4.1 Q).1;have e:=a2t E;have u:=a2t Q;have a6:=R6 x;refine C7 U Tryz.func103 U ⟨by kernel_rfl,U,dT U,dT U,by decide⟩ c3e<|A3<|A0 ?_
 (refine B4 U U (fun _=>U) ?_;intro g4)
 refine y_S U<|xN [0,1] [] U<|A3<|A0 ?_
 (refine B4 U U (fun _=>U) ?_;intro g6)
 refine xN [0,1,6] [6] U<|A3<|A3<|A0<|y_M U<|B8 U U<|M0 U U<|xN [0,1,6,15] [6] U ?_
 refine A4 U (fun a=> ?_) (fun a=> ?_)
 ·try simp only[SL]at a
  refine A0<|y_M U<|B7 U U U (fun _=>U) (by(change 0<_;omega))<|y_I U ?_
  rw[D];apply xC U
  ·apply A8
   ·exact B1 U
   exact C2
  ·exact d1f x (by simp only[H0];omega)
  refine⟨⟨U,U,U,dT U,U⟩,.inl U,B2,H4,fun _=>U,fun g19=> ?_⟩;simp only[Zi]
  (refine xO U U (by simp) U (fun _=>U) (fun _=>U) ?_;intro g6)
  refine xN [0,1,6] [6] U<|W3<|A3<|A0<|y_M U<|xN [1,6,20] [6] U ?_
  refine a0a (β:=List Int×Nat×Nat) [] trivial (fun(z:List Int×Nat×Nat)=>match z with|(r,n,g)=>[(.h 6,.obj g 0 1 (r.map iV)),(.t 6,.sl 6 g none 0 n)]) (fun(z:List Int×Nat×Nat)=>match z with|(r,n,g)=>Y6 op x y=some r/\n=r.length/\r.length<=80) ?_ ?_
  ·skip
   refine B0<|A3<|A0<|K0 U U<|y_S U<|xN [1,6,20,21] [6] U ?_
   refine A4 U ?_ ?_<;>intro a<;>try simp only[SL]at a
   ·try simp at a
    refine A0<|y_M U ?_
    apply a1h U
    ·apply A8
     ·exact a4x U U (by decide) (by(simp;done)) (V1 fun _=>U)
     exact C2
    ·exact e7a x (by simp only[H0];omega)
    ·exact⟨U,U,U,dT U,U⟩
    ·exact .inl U
    ·exact G9 U (by simp) (a5r _ _) B2
    ·exact J2 U
    ·(intro _;exact C6 (B3 (A6 fun _=>U)) U)
    intro g24;refine xN [6] [6] U ?_;refine⟨(_,_,_),?_,⟨U,U,trivial⟩⟩;exact⟨(by(simp[Y6, *];done)),(by(simp;done)),(by omega)⟩
   try simp at a
   refine A3<|A0<|K0 U U<|y_S U<|xN [1,6,20,25] [6] U ?_
   refine A4 U ?_ ?_<;>intro a<;>try simp only[SL]at a
   ·try simp at a
    refine A0<|y_M U ?_
    obtain⟨_,_,⟨rfl,rfl⟩,F⟩:=e5y (oG:=oG) x (by omega);apply a1h U
    ·apply A8
     ·exact a4x U U (by decide) (by(simp;done)) (V1 fun _=>U)
     exact C2
    ·exact F
    ·exact⟨U,U,U,dT U,U⟩
    ·exact .inl U
    ·exact G9 U (by simp) (a5r _ _) B2
    ·exact J2 U
    ·(intro _;exact C6 (B3 (A6 fun _=>U)) U)
    intro S;refine xN [6] [6] U ?_;refine⟨(_,_,_),?_,⟨U,U,trivial⟩⟩;exact⟨(by(simp[Y6, *];done)),(by(simp;done)),(by(simp;omega))⟩
   try simp at a
   refine A3<|A0<|K0 U U<|y_S U<|xN [1,6,20,29] [6] U ?_
   refine A4 U ?_ ?_<;>intro a<;>try simp only[SL]at a
   ·try simp at a
    refine A3<|A0<|y_M U<|G8 U U<|y_M U<|xN [6,32,33] [6] U<|B0<|D8 (β:=Nat×List Int) [(.t 6,_),(.t 32,_)] (fun(z:Nat×List Int)=>match z with|(i,l)=>[(.t 33,iV i),(.h 6,.obj g6 0 1 (l.map iV))]) (fun(z:Nat×List Int)=>match z with|(i,l)=>i<=x.length/\Y1 x.length (fun i=> -(J8 x i)) (J8 x) i l) (fun(z:Nat×List Int)=>match z with|(i,l)=>x.length-i) (0,x) ⟨U,U,U,U,trivial⟩ ⟨Zv _,Y1.start x _⟩ ?_
    intro z c;obtain⟨i,l⟩:=z
    try dsimp only at c
    obtain⟨w,b⟩:=c;have q:=b.1;have d:=fun h:i<x.length=>b.at h
    have s:=e i;have p: -100000<=y.getD i default/\y.getD i default<=100000:=u i;refine A3<|A0<|F4 U U<|xN [6,32,33,34] [6] U<|A3 ?_
    refine A4 U ?_ ?_<;>intro a<;>try simp only[SL]at a
    ·refine A7<|A3<|B0<|A3<|A0<|y_M U<|y_S U<|xN [6,7,32,33] [6] U<|A0<|y_M U<|y_M U<|y_M U<|y_M U<|C9 U U U U (by omega) (by(simp;omega)) U<|E6 U U (by omega) (fun _=>U) (fun _=>U) U<|a4z U (B9 (by omega))<|C9 U U U U (by omega) (by(simp;omega)) U<|K4 U U U (by omega) (fun _ _=>⟨U,U,dT U,dT U,U,U⟩) (by decide) (by exact B3 (A6 fun _=>U))<|xN [6,32,33] [6] U<|A0<|D7 U U (B9 (by omega))<|y_M U<|xN [6,32,33] [6] U ?_
     refine⟨(i+1,l.set i (-(l.getD i default))),?_,(by simp only;omega),⟨U,U,U,U,trivial⟩⟩;exact⟨by omega,b.step (by omega) (by rw[d (by omega)];done)⟩
    refine D6 ?_;refine⟨(_,_,_),?_,⟨U,U,trivial⟩⟩;exact⟨by rw[(b.fin (by omega)).trans (b1i x fun v=> -v)];simp[Y6, *],by omega,by omega⟩
   try simp at a
   refine A3<|A0<|K0 U U<|y_S U<|xN [1,6,20,45] [6] U ?_
   refine A4 U ?_ ?_<;>intro a<;>try simp only[SL]at a
   ·try simp at a
    refine A3<|A0<|y_M U<|G8 U U<|y_M U<|xN [6,48,49] [6] U<|B0<|D8 (β:=Nat×List Int) [(.t 6,_),(.t 48,_)] (fun(z:Nat×List Int)=>match z with|(i,l)=>[(.t 49,iV i),(.h 6,.obj g6 0 1 (l.map iV))]) (fun(z:Nat×List Int)=>match z with|(i,l)=>i<=x.length/\Y1 x.length (fun i=>max (J8 x i) (-(J8 x i))) (J8 x) i l) (fun(z:Nat×List Int)=>match z with|(i,l)=>x.length-i) (0,x) ⟨U,U,U,U,trivial⟩ ⟨Zv _,Y1.start x _⟩ ?_
    intro z c;obtain⟨i,l⟩:=z
    try dsimp only at c
    obtain⟨w,b⟩:=c;have q:=b.1;have d:=fun h:i<x.length=>b.at h
    have s:=e i;have p: -100000<=y.getD i default/\y.getD i default<=100000:=u i;refine A3<|A0<|F4 U U<|xN [6,48,49,50] [6] U<|A3 ?_
    refine A4 U ?_ ?_<;>intro a<;>try simp only[SL]at a
    ·refine A7<|A3<|B0<|A3<|A0<|y_M U<|y_S U<|xN [6,8,48,49] [6] U<|A0<|y_M U<|y_M U<|y_M U<|y_M U<|C9 U U U U (by omega) (by(simp;omega)) U<|E6 U U (by omega) (fun _=>U) (fun _=>U) U<|y_M U<|y_M U<|C9 U U U U (by omega) (by(simp;omega)) U<|E6 U U (by omega) (fun _=>U) (fun _=>U) U<|a4z U (B9 (by omega))<|c5p U U<|C9 U U U U (by omega) (by(simp;omega)) U<|K4 U U U (by omega) (fun _ _=>⟨U,U,dT U,dT U,U,U⟩) (by decide) (by exact B3 (A6 fun _=>U)) ?_
     refine G7 ⟨fun _=>⟨by decide+kernel,by decide+kernel⟩,[(.t 6,_),(.t 48,_),(.t 49,_),(.h 6,_)],⟨U,U,U,U,U,U,U,U,trivial⟩,?_⟩;refine A0<|D7 U U (B9 (by omega))<|y_M U<|xN [6,48,49] [6] U ?_
     refine⟨(i+1,l.set i (max (l.getD i default) (-(l.getD i default)))),?_,(by simp only;omega),⟨U,U,U,U,trivial⟩⟩;exact⟨by omega,b.step (by omega) (by rw[d (by omega)];done)⟩
    refine D6 ?_;refine⟨(_,_,_),?_,⟨U,U,trivial⟩⟩;exact⟨by rw[(b.fin (by omega)).trans (b1i x fun v=>max v (-v))];simp[Y6, *],by omega,by omega⟩
   try simp at a
   refine A3<|A0<|K0 U U<|y_S U<|xN [1,6,20,66] [6] U ?_
   refine A4 U ?_ ?_<;>intro a<;>try simp only[SL]at a
   ·try simp at a
    refine A3<|A0<|y_M U<|G8 U U<|J7 U U (B9 (by omega))<|y_S U<|xN [6,9] [6] U<|B0<|D8 (β:=Nat×List Int) [(.t 6,_)] (fun(z:Nat×List Int)=>match z with|(k,l)=>[(.t 9,iV ((k:Int)-1)),(.h 6,.obj g6 0 1 (l.map iV))]) (fun(z:Nat×List Int)=>match z with|(k,l)=>k<=x.length/\a6t x (k-1) l) (fun(z:Nat×List Int)=>match z with|(k,l)=>k) (x.length,x) ⟨U,U,U,trivial⟩ ⟨Zd _,a6t.start x⟩ ?_
    intro z c;obtain⟨k,l⟩:=z
    try dsimp only at c
    obtain⟨a2,B⟩:=c;have W:=B.1;refine A3<|A3<|A0<|y_M U<|M0 U U<|xN [6,9,72] [6] U ?_
    refine A4 U ?_ ?_<;>intro a<;>try simp only[SL]at a
    ·refine A7<|A3<|B0<|A0<|y_M U<|y_M U ?_
     rw[show((k:Int)-1)=((k-1:Nat):Int) by omega];refine C9 U U U U (by omega) (by(simp;omega)) U<|E6 U U (by omega) (fun _=>U) (fun _=>U) U<|y_M U<|y_M U<|J7 U U (B9 (by omega)) ?_
     rw[show((k-1:Nat):Int)-1=((k-1-1:Nat):Int) by omega];refine C9 U U U U (by omega) (by(simp;omega)) U<|E6 U U (by omega) (fun _=>U) (fun _=>U) U ?_
     have T:=B.val (k-1);have V:=B.val (k-1-1);have Z:=e (k-1);have a0:=e (k-1-1);have a1:=e (k-1-1-1);refine J7 U U (B9 (by omega))<|C9 U U U U (by omega) (by(simp;omega)) U<|K4 U U U (by omega) (fun _ _=>⟨U,U,dT U,dT U,U,U⟩) (by decide) (by exact B3 (A6 fun _=>U)) ?_
     refine G7 ⟨fun _=>⟨by decide+kernel,by decide+kernel⟩,[(.t 6,_),(.t 9,_),(.h 6,_)],⟨U,U,U,U,U,U,trivial⟩,?_⟩;refine A0<|y_M U<|J7 U U (B9 (by omega))<|y_S U<|xN [6,9] [6] U ?_
     refine⟨(k-1,_),?_,(by simp only;omega),⟨U,U,U,trivial⟩⟩;exact⟨by omega,B.step (by omega) (by omega)⟩
    refine D6 ?_;refine⟨(_,_,_),?_,⟨U,U,trivial⟩⟩;exact⟨by rw[show l=dfI x from a6t.fin ((show k-1=0 by omega)▸B)];simp[Y6, *],by omega,by omega⟩
   try simp at a
   refine A3<|A0<|K0 U U<|y_S U<|xN [1,6,20,86] [6] U ?_
   refine A4 U ?_ ?_<;>intro a<;>try simp only[SL]at a
   ·try simp at a
    refine A3<|A0<|y_S U<|xN [6,10] [6] U<|B0<|D8 (β:=Nat×List Int) [(.t 6,_)] (fun(z:Nat×List Int)=>match z with|(i,l)=>[(.t 10,iV i),(.h 6,.obj g6 0 1 (l.map iV))]) (fun(z:Nat×List Int)=>match z with|(i,l)=>1<=i/\Y1 x.length (fun i=>prS (J8 x) (i+1)) (J8 x) i l) (fun(z:Nat×List Int)=>match z with|(i,l)=>x.length-i) (1,x) ⟨U,U,U,trivial⟩ ⟨Zd _,Y1.start1 x⟩ ?_
    intro z c;obtain⟨i,l⟩:=z
    try dsimp only at c
    obtain⟨w,b⟩:=c;have q:=b.1;have d:=fun h:i<x.length=>b.at h
    have s:=e i;refine A3<|A3<|A0<|y_M U<|y_M U<|G8 U U<|F4 U U<|xN [6,10,91] [6] U ?_
    refine A4 U ?_ ?_<;>intro a<;>try simp only[SL]at a
    ·refine A7<|A3<|B0<|A0<|y_M U<|y_M U<|C9 U U U U (by omega) (by(simp;omega)) U<|E6 U U (by omega) (fun _=>U) (fun _=>U) U<|y_M U<|y_M U<|J7 U U (B9 (by omega)) ?_
     rw[show((i:Int)-1)=((i-1:Nat):Int) by omega];refine C9 U U U U (by omega) (by(simp;omega)) U<|E6 U U (by omega) (fun _=>U) (fun _=>U) U ?_
     have X:=b.before (j:=i-1) (by omega) (by omega);have a5:=d5o E (i-1+1);refine D7 U U (B9 (by omega))<|C9 U U U U (by omega) (by(simp;omega)) U<|K4 U U U (by omega) (fun _ _=>⟨U,U,dT U,dT U,U,U⟩) (by decide) (by exact B3 (A6 fun _=>U)) ?_
     refine G7 ⟨fun _=>⟨by decide+kernel,by decide+kernel⟩,[(.t 6,_),(.t 10,_),(.h 6,_)],⟨U,U,U,U,U,U,trivial⟩,?_⟩;refine A0<|y_M U<|D7 U U (B9 (by omega))<|y_S U<|xN [6,10] [6] U ?_
     refine⟨(i+1,l.set i (l.getD i default+l.getD (i-1) default)),?_,(by simp only;omega),⟨U,U,U,trivial⟩⟩;have o:=b.before (j:=i-1) (by omega) (by omega);rw[show i-1+1=i by omega]at o;exact⟨by omega,b.step (by omega) (by rw[d (by omega),o,Int.add_comm];rfl)⟩
    refine D6 ?_;refine⟨(_,_,_),?_,⟨U,U,trivial⟩⟩;exact⟨by rw[show l=smI x from b.fin (by omega)];simp[Y6, *],by omega,by omega⟩
   try simp at a
   refine A3<|A0<|K0 U U<|y_S U<|xN [1,6,20,105] [6] U ?_
   refine A4 U ?_ ?_<;>intro a<;>try simp only[SL]at a
   ·try simp at a
    refine A0<|y_M U ?_
    apply xC U
    ·apply A8
     ·exact E7 U U U (by(simp;done)) (fun _=>U)
     exact C2
    ·exact e8m x E
    refine⟨⟨U,U,U,dT U,U⟩,.inr ⟨P7 fun _=>U,U⟩,B2,H4,fun _=>U,fun H=> ?_⟩;simp only[Zi]
    (refine xO U U (by simp) U (fun _=>U) (fun _=>U) ?_;intro g6)
    refine xN [6] [6] U ?_;refine⟨(_,_,_),?_,⟨U,U,trivial⟩⟩;exact⟨(by(simp[Y6,rkI, *];done)),(by(simp[dfI,smI,rkI,adI];done)),(by(simp;omega))⟩
   try simp at a
   refine A3<|A0<|K0 U U<|y_S U<|xN [1,6,20,109] [6] U ?_
   refine A4 U ?_ ?_<;>intro a<;>try simp only[SL]at a
   ·try simp at a
    refine A0<|y_M U ?_
    apply xC U
    ·apply A8
     ·exact E7 U U U (by(simp;done)) (fun _=>U)
     exact C2
    ·exact e8a x E
    refine⟨⟨U,U,U,dT U,U⟩,.inr ⟨U,U⟩,B2,C8 U,fun _=>U,fun I=> ?_⟩;refine B6 (es:=Zw iV [_]) U U (dT U) U U (fun _=>B3 (A6 fun _=>U)) (fun _=>U) ?_;intro J
    (refine xO U U (by simp) U (fun _=>U) (fun _=>U) ?_;intro g6)
    refine xN [6] [6] U ?_;refine⟨(_,_,_),?_,⟨U,U,trivial⟩⟩;exact⟨(by(simp[Y6, *];done)),(by(simp;done)),(by(simp;done))⟩
   try simp at a
   refine A3<|A0<|K0 U U<|y_S U<|xN [1,6,20,114] [6] U ?_
   refine A4 U ?_ ?_<;>intro a<;>try simp only[SL]at a
   ·try simp at a
    have m:=C (e9f (.inl a));refine A3<|A3<|A0<|y_M U<|B7 U U U (fun _=>U) (by(change 0<_;omega))<|y_I U ?_
    rw[D];refine B8 U U<|y_M U<|B7 U U U (fun _=>U) (by(simp;omega))<|y_I U ?_
    rw[A m];refine B8 U U<|b0i U U ?_
    refine G7 ⟨fun _=>⟨by decide+kernel,by decide+kernel⟩,[(.t 1,_),(.t 6,_),(.t 124,_),(.h 6,_)],⟨U,U,U,U,U,U,U,U,trivial⟩,?_⟩;refine A4 U ?_ ?_<;>intro a<;>try simp only[SL]at a
    ·refine A3<|A0 ?_
     (refine B4 U U (fun _=>U) ?_;intro g4)
     refine y_S U<|xN [4,5] [4] U<|A9<|C0 (F9 U U (by simp) (by rfl) (D3 U U (C5 B5))) ?_
     have a4:¬x.length=y.length:=by omega
     rw[show mkR op x y=none from by simp[mkR,Y6, *]]
     rfl
    refine A7<|A3<|A0<|y_M U<|B7 U U U (fun _=>U) (by(simp;omega))<|y_I U ?_
    rw[A m];refine B8 U U<|y_M U<|xN [6,127,128,129] [6] U<|B0<|D8 (β:=Nat×List Int) [(.t 6,_),(.t 127,_),(.t 128,_)] (fun(z:Nat×List Int)=>match z with|(i,l)=>[(.t 129,iV i),(.h 6,.obj g6 0 1 (l.map iV))]) (fun(z:Nat×List Int)=>match z with|(i,l)=>i<=x.length/\Y1 x.length (fun i=>J8 x i+J8 y i) (J8 x) i l) (fun(z:Nat×List Int)=>match z with|(i,l)=>x.length-i) (0,x) ⟨U,U,U,U,U,trivial⟩ ⟨Zv _,Y1.start x _⟩ ?_
    intro z c;obtain⟨i,l⟩:=z
    try dsimp only at c
    obtain⟨w,b⟩:=c;have q:=b.1;have d:=fun h:i<x.length=>b.at h
    have s:=e i;have p: -100000<=y.getD i default/\y.getD i default<=100000:=u i;refine A3<|A0<|F4 U U<|xN [6,127,128,129,130] [6] U<|A3 ?_
    refine A4 U ?_ ?_<;>intro a<;>try simp only[SL]at a
    ·refine A7<|A3<|B0<|A3<|A0<|y_M U<|B7 U U U (fun _=>U) (by omega)<|y_I U<|y_S U<|y_S U<|xN [6,11,12,127,128,129] [6] U<|A0<|y_M U<|y_M U<|C9 U U U U (by omega) (by(simp;omega)) U<|E6 U U (by omega) (fun _=>U) (fun _=>U) U<|y_M U<|D7 U U (B9 (by omega))<|C9 U U U U (by omega) (by(simp;omega)) U<|K4 U U U (by omega) (fun _ _=>⟨U,U,dT U,dT U,U,U⟩) (by decide) (by exact B3 (A6 fun _=>U))<|xN [6,127,128,129] [6] U<|A0<|D7 U U (B9 (by omega))<|y_M U<|xN [6,127,128,129] [6] U ?_
     refine⟨(i+1,l.set i (l.getD i default+y.getD i default)),?_,(by simp only;omega),⟨U,U,U,U,U,trivial⟩⟩;exact⟨by omega,b.step (by omega) (by rw[d (by omega)];rfl)⟩
    refine D6 ?_;refine⟨(_,_,_),?_,⟨U,U,trivial⟩⟩;exact⟨adF (by assumption) (by omega) (b.fin (by omega)) U,by omega,by omega⟩
   try simp at a
   refine A3<|A0<|K0 U U<|y_S U<|xN [1,6,142] [6] U ?_
   refine A4 U ?_ ?_<;>intro a<;>try simp only[SL]at a
   ·try simp at a
    have m:=C (e9f (.inr a));refine A0<|y_M U<|y_M U<|B7 U U U (fun _=>U) (by(simp;omega))<|y_I U ?_
    rw[A m];refine Q0 U U U (by(simp;done)) U U U (dT U) (fun _=>⟨U,U,U⟩) (by simp only[H0];omega) (fun _=>U) ?_;intro K
    (refine xO U U (by simp) U (fun _=>U) (fun _=>U) ?_;intro g6)
    refine xN [6] [6] U ?_;refine⟨(_,_,_),?_,⟨U,U,trivial⟩⟩;exact⟨(by(simp[Y6, *];done)),(by(simp;done)),(by(simp;omega))⟩
   try simp at a
   refine A7 ?_;refine⟨(_,_,_),?_,⟨U,U,trivial⟩⟩;exact⟨(by(simp[Y6, *];done)),(by(simp;done)),(by omega)⟩
  intro z c;obtain⟨r,n,g⟩:=z
  try dsimp only at c
  obtain⟨f,hn,O⟩:=c;subst hn;refine A3<|A3<|A0<|y_M U<|G8 U U<|M0 U U<|y_M U ?_
  refine D5 U U ?_ ?_<;>intro G<;>have Y:=G<;>try simp only[SG]at Y
  ·refine y_M U<|gT U U ?_
   apply xC U
   ·apply A8
    ·exact E7 U U U (by(simp;done)) (fun _=>U)
    apply A8
    ·exact B1 U
    apply A8
    ·exact B1 U
    exact C2
   ·exact b2z r (by omega) (-100000) 100000
   refine⟨⟨U,U,U,dT U,U⟩,.inr ⟨U,U⟩,B2,C8 U,fun _=>U,fun L=> ?_⟩;refine gT U U<|H8 U<|E8 U (by assumption) U U<|xN [6,156] [6] U ?_
   refine A4 U ?_ ?_<;>intro a<;>try simp only[SL]at a
   ·refine A3<|A0 ?_
    (refine B4 U U (fun _=>U) ?_;intro g4)
    refine y_S U<|xN [4,5] [4] U<|A9<|C0 (F9 U U (by simp) (by rfl) (D3 U U (C5 B5))) ?_
    rw[mkR,f,Zl,if_neg (by rw[Q4];simp_all;try omega)]
    rfl
   refine A7<|A3<|A0<|y_M U ?_
   apply xC U
   ·apply A8
    ·exact b2c U U (by(simp;done)) (A6 fun _=>U)
    exact C2
   ·exact c7p r (by simp only[H0];omega)
   refine⟨⟨U,U,U,dT U,U⟩,.inl U,B2,H4,fun _=>U,fun N=> ?_⟩;simp only[Zi]
   (refine xO U U (by simp) U (fun _=>U) (fun _=>U) ?_;intro g4)
   refine y_S U<|xN [4,5] [4] U<|A9<|C0 (F9 U U (by simp) (by exact A6 fun _=>U) (D3 U U (C5 B5))) ?_
   rw[mkR,f,Zl,if_pos (Q4.2 ⟨by omega,by simp_all⟩)]
   rfl
  refine gF U U<|gF U U<|F0 U (by assumption) U U<|xN [6,156] [6] U ?_
  refine A4 U (fun a=> ?_) (fun a=>absurd a (by decide));refine A3<|A0 ?_
  (refine B4 U U (fun _=>U) ?_;intro g4)
  refine y_S U<|xN [4,5] [4] U<|A9<|C0 (F9 U U (by simp) (by rfl) (D3 U U (C5 B5))) ?_
  rw[mkR,f,Zl,if_neg (by rw[Q4];simp_all;try omega)]
  rfl
 try simp only[SD]at a
 omega
theorem c8r:D9 Tryz.f53=[0,1,2,6,7,16,17,21,25,9,30,8,41,10,46,62,11,67,71,91,13,96,12,109,113,120,126,14,130,145]:=by kernel_rfl
theorem b8g(op:ByteArray)(Z:1<=nd op)(x y:List Int)(p:vl x=true)(O:vl y=true):CW (cxT oG) 53 [sV op,L x,L y]=some (.tup [.own 1 ((raR op x y).map iV),bV (mkR op x y).isSome],[]):=by
 have N:=(Q4.1 p).1;have P:=(Q4.1 O).1;have d:=a2t p;have j:=a2t O;have a1:=R6 x;refine C7 U Tryz.func53 U ⟨by kernel_rfl,U,dT U,dT U,by decide⟩ c8r<|A3<|A0 ?_
 (refine B4 U U (fun _=>U) ?_;intro g6)
 refine y_S U<|xN [0,1,2] [] U<|A3<|A0<|B6 (es:=Zw iV []) U U (dT U) U U (fun _=>B3 (A6 fun _=>U)) (fun _=>U) ?_
 intro g15
 (refine xO U U (by simp) U (fun _=>U) (fun _=>U) ?_;intro g8)
 refine xN [0,1,2,8] [8] U<|W3<|A3<|A0<|y_M U<|xN [1,2,8,16] [8] U ?_
 refine a0a (β:=List Int×Nat×Nat) [] trivial (fun(z:List Int×Nat×Nat)=>match z with|(r,n,g)=>[(.h 8,.obj g 0 1 (r.map iV)),(.t 8,.sl 8 g none 0 n)]) (fun(z:List Int×Nat×Nat)=>match z with|(r,n,g)=>Y6 op x y=some r/\n=r.length/\r.length<=80) ?_ ?_
 ·skip
  refine B0<|A3<|A0<|K0 U U<|y_S U<|xN [1,2,8,16,17] [8] U ?_
  refine A4 U ?_ ?_<;>intro a<;>try simp only[SL]at a
  ·try simp at a
   refine A0<|y_M U ?_
   apply xC U
   ·apply A8
    ·exact B1 U
    exact C2
   ·exact c5s x (by omega)
   refine⟨⟨U,U,U,dT U,U⟩,.inl U,B2,H4,fun _=>U,fun g20=> ?_⟩;simp only[Zi]
   (refine xO U U (by simp) U (fun _=>U) (fun _=>U) ?_;intro g8)
   refine xN [8] [8] U ?_;refine⟨(_,_,_),?_,⟨U,U,trivial⟩⟩;exact⟨(by(simp[Y6, *];done)),(by(simp;done)),(by(simp;omega))⟩
  try simp at a
  refine A3<|A0<|K0 U U<|y_S U<|xN [1,2,8,16,21] [8] U ?_
  refine A4 U ?_ ?_<;>intro a<;>try simp only[SL]at a
  ·try simp at a
   refine A0<|y_M U ?_
   apply xC U
   ·apply A8
    ·exact B1 U
    exact C2
   ·exact e4z x (by omega)
   refine⟨⟨U,U,U,dT U,U⟩,.inl U,B2,H4,fun _=>U,fun g24=> ?_⟩;simp only[Zi]
   (refine xO U U (by simp) U (fun _=>U) (fun _=>U) ?_;intro g8)
   refine xN [8] [8] U ?_;refine⟨(_,_,_),?_,⟨U,U,trivial⟩⟩;exact⟨(by(simp[Y6, *];done)),(by(simp;done)),(by(simp;omega))⟩
  try simp at a
  refine A3<|A0<|K0 U U<|y_S U<|xN [1,2,8,16,25] [8] U ?_
  refine A4 U ?_ ?_<;>intro a<;>try simp only[SL]at a
  ·try simp at a
   refine A3<|A0<|y_S U<|xN [1,8,9] [8] U<|B0<|D8 (β:=Nat×List Int×Nat) [(.t 1,_)] (fun(z:Nat×List Int×Nat)=>match z with|(i,l,g)=>[(.t 9,iV i),(.h 8,.obj g 0 1 (l.map iV)),(.t 8,.sl 8 g none 0 l.length)]) (fun(z:Nat×List Int×Nat)=>match z with|(i,l,g)=>i<=x.length/\l=(Yb i).map (fun i=> -(J8 x i))) (fun(z:Nat×List Int×Nat)=>match z with|(i,l,g)=>x.length-i) (0,[],_) ⟨U,U,U,U,trivial⟩ ⟨Zv _,U⟩ ?_
   intro z c;obtain⟨i,l,g⟩:=z
   try dsimp only at c
   obtain⟨k,b⟩:=c;have m:l.length=i:=by rw[b];simp
   have f: -100000<=x.getD i default/\x.getD i default<=100000:=d i;have e: -100000<=y.getD i default/\y.getD i default<=100000:=j i;refine A3<|A3<|A0<|y_M U<|y_M U<|B8 U U<|F4 U U<|xN [1,8,9,30] [8] U ?_
   refine A4 U ?_ ?_<;>intro a<;>try simp only[SL]at a
   ·refine A7<|A3<|B0<|A0<|y_M U<|y_M U<|y_M U<|B7 U U U (fun _=>U) (by omega)<|y_I U<|a4z U (B9 (by omega))<|B6 (es:=Zw iV [_]) U U (dT U) U U (fun _=>B3 (A6 fun _=>U)) (fun _=>U) ?_
    intro Q;refine xA U U U U (by simp) (by simp) U U U U U (fun _=>U) (by simp only[LN];omega) (fun _=>U) ?_;intro R
    (refine xO U U (by simp) U (fun _=>U) (fun _=>U) ?_;intro g8)
    refine xN [1,8,9] [8] U<|A0<|y_M U<|D7 U U (B9 (by omega))<|y_S U<|xN [1,8,9] [8] U ?_
    refine⟨(i+1,l++[-(x.getD i default)],_),?_,(by simp only;omega),⟨U,U,U,U,trivial⟩⟩;exact⟨by omega,by rw[b,Z6];rfl⟩
   refine D6 ?_;refine⟨(_,_,_),?_,⟨U,U,trivial⟩⟩;exact⟨apF (show l=x.map (fun v=> -v) by rw[b,show i=x.length by omega];exact b1i x fun v=> -v) (by simp[Y6, *]),by omega,by omega⟩
  try simp at a
  refine A3<|A0<|K0 U U<|y_S U<|xN [1,2,8,16,41] [8] U ?_
  refine A4 U ?_ ?_<;>intro a<;>try simp only[SL]at a
  ·try simp at a
   refine A3<|A0<|y_S U<|xN [1,8,10] [8] U<|B0<|D8 (β:=Nat×List Int×Nat) [(.t 1,_)] (fun(z:Nat×List Int×Nat)=>match z with|(i,l,g)=>[(.t 10,iV i),(.h 8,.obj g 0 1 (l.map iV)),(.t 8,.sl 8 g none 0 l.length)]) (fun(z:Nat×List Int×Nat)=>match z with|(i,l,g)=>i<=x.length/\l=(Yb i).map (fun i=>max (J8 x i) (-(J8 x i)))) (fun(z:Nat×List Int×Nat)=>match z with|(i,l,g)=>x.length-i) (0,[],_) ⟨U,U,U,U,trivial⟩ ⟨Zv _,U⟩ ?_
   intro z c;obtain⟨i,l,g⟩:=z
   try dsimp only at c
   obtain⟨k,b⟩:=c;have m:l.length=i:=by rw[b];simp
   have f: -100000<=x.getD i default/\x.getD i default<=100000:=d i;have e: -100000<=y.getD i default/\y.getD i default<=100000:=j i;refine A3<|A3<|A0<|y_M U<|y_M U<|B8 U U<|F4 U U<|xN [1,8,10,46] [8] U ?_
   refine A4 U ?_ ?_<;>intro a<;>try simp only[SL]at a
   ·refine A7<|A3<|B0<|A0<|y_M U<|y_M U<|y_M U<|B7 U U U (fun _=>U) (by omega)<|y_I U<|y_M U<|y_M U<|B7 U U U (fun _=>U) (by omega)<|y_I U<|a4z U (B9 (by omega))<|c5p U U<|B6 (es:=Zw iV [_]) U U (dT U) U U (fun _=>B3 (A6 fun _=>U)) (fun _=>U) ?_
    intro S;refine xA U U U U (by simp) (by simp) U U U U U (fun _=>U) (by simp only[LN];omega) (fun _=>U) ?_;intro T
    (refine xO U U (by simp) U (fun _=>U) (fun _=>U) ?_;intro g8)
    refine G7 ⟨fun _=>⟨by decide+kernel,by decide+kernel⟩,[(.t 1,_),(.t 8,_),(.t 10,_),(.h 8,_)],⟨U,U,U,U,U,U,U,U,trivial⟩,?_⟩;refine A0<|y_M U<|D7 U U (B9 (by omega))<|y_S U<|xN [1,8,10] [8] U ?_
    refine⟨(i+1,l++[max (x.getD i default) (-(x.getD i default))],_),?_,(by simp only;omega),⟨U,U,U,U,trivial⟩⟩;exact⟨by omega,by rw[b,Z6];rfl⟩
   refine D6 ?_;refine⟨(_,_,_),?_,⟨U,U,trivial⟩⟩;exact⟨apF (show l=x.map (fun v=>max v (-v)) by rw[b,show i=x.length by omega];exact b1i x fun v=>max v (-v)) (by simp[Y6, *]),by omega,by omega⟩
  try simp at a
  refine A3<|A0<|K0 U U<|y_S U<|xN [1,2,8,16,62] [8] U ?_
  refine A4 U ?_ ?_<;>intro a<;>try simp only[SL]at a
  ·try simp at a
   refine A3<|A0<|y_S U<|xN [1,8,11] [8] U<|B0<|D8 (β:=Nat×List Int×Nat) [(.t 1,_)] (fun(z:Nat×List Int×Nat)=>match z with|(i,l,g)=>[(.t 11,iV i),(.h 8,.obj g 0 1 (l.map iV)),(.t 8,.sl 8 g none 0 l.length)]) (fun(z:Nat×List Int×Nat)=>match z with|(i,l,g)=>i<=x.length/\l=(Yb i).map (fun i=>if i=0 then J8 x 0 else J8 x i-J8 x (i-1))) (fun(z:Nat×List Int×Nat)=>match z with|(i,l,g)=>x.length-i) (0,[],_) ⟨U,U,U,U,trivial⟩ ⟨Zv _,U⟩ ?_
   intro z c;obtain⟨i,l,g⟩:=z
   try dsimp only at c
   obtain⟨k,b⟩:=c;have m:l.length=i:=by rw[b];simp
   have f: -100000<=x.getD i default/\x.getD i default<=100000:=d i;have e: -100000<=y.getD i default/\y.getD i default<=100000:=j i;refine A3<|A3<|A0<|y_M U<|y_M U<|B8 U U<|F4 U U<|xN [1,8,11,67] [8] U ?_
   refine A4 U ?_ ?_<;>intro a<;>try simp only[SL]at a
   ·refine A7<|A3<|B0<|A3<|A0<|y_M U<|K6 U U<|xN [1,8,11,71] [8] U ?_
    refine A4 U ?_ ?_<;>intro a<;>try simp only[SL]at a
    ·refine A0<|y_M U<|y_M U<|B7 U U U (fun _=>U) (by(change 0<_;omega))<|y_I U<|B6 (es:=Zw iV [_]) U U (dT U) U U (fun _=>B3 (A6 fun _=>U)) (fun _=>U) ?_
     intro V;refine xA U U U U (by simp) (by simp) U U U U U (fun _=>U) (by simp only[LN];omega) (fun _=>U) ?_;intro W
     (refine xO U U (by simp) U (fun _=>U) (fun _=>U) ?_;intro g8)
     refine xN [1,8,11] [8] U<|A0<|y_M U<|D7 U U (B9 (by omega))<|y_S U<|xN [1,8,11] [8] U ?_
     refine⟨(i+1,l++[x.getD 0 default],_),?_,(by simp only;omega),⟨U,U,U,U,trivial⟩⟩;exact⟨by omega,by rw[b,Z6,if_pos (by omega)];rfl⟩
    refine A0<|y_M U<|y_M U<|y_M U<|B7 U U U (fun _=>U) (by omega)<|y_I U<|y_M U<|y_M U<|J7 U U (B9 (by omega)) ?_
    rw[show((i:Int)-1)=((i-1:Nat):Int) by omega];have K: -100000<=x.getD (i-1) default/\x.getD (i-1) default<=100000:=d (i-1);refine B7 U U U (fun _=>U) (by omega)<|y_I U<|J7 U U (B9 (by omega))<|B6 (es:=Zw iV [_]) U U (dT U) U U (fun _=>B3 (A6 fun _=>U)) (fun _=>U) ?_
    intro X;refine xA U U U U (by simp) (by simp) U U U U U (fun _=>U) (by simp only[LN];omega) (fun _=>U) ?_;intro Y
    (refine xO U U (by simp) U (fun _=>U) (fun _=>U) ?_;intro g8)
    refine G7 ⟨fun _=>⟨by decide+kernel,by decide+kernel⟩,[(.t 1,_),(.t 8,_),(.t 11,_),(.h 8,_)],⟨U,U,U,U,U,U,U,U,trivial⟩,?_⟩;refine A0<|y_M U<|D7 U U (B9 (by omega))<|y_S U<|xN [1,8,11] [8] U ?_
    refine⟨(i+1,l++[x.getD i default-x.getD (i-1) default],_),?_,(by simp only;omega),⟨U,U,U,U,trivial⟩⟩;exact⟨by omega,by rw[b,Z6,if_neg (by omega)];rfl⟩
   refine D6 ?_;refine⟨(_,_,_),?_,⟨U,U,trivial⟩⟩;exact⟨apF (show l=dfI x by rw[b,show i=x.length by omega];rfl) (by simp[Y6, *]),by omega,by omega⟩
  try simp at a
  refine A3<|A0<|K0 U U<|y_S U<|xN [1,2,8,16,91] [8] U ?_
  refine A4 U ?_ ?_<;>intro a<;>try simp only[SL]at a
  ·try simp at a
   refine A3<|A0<|y_S U<|xN [1,8,12] [8] U<|A3<|A0<|y_S U<|xN [1,8,12,13] [8] U<|B0<|D8 (β:=Nat×Int×List Int×Nat) [(.t 1,_)] (fun(z:Nat×Int×List Int×Nat)=>match z with|(i,s,l,g)=>[(.t 13,iV i),(.t 12,iV s),(.h 8,.obj g 0 1 (l.map iV)),(.t 8,.sl 8 g none 0 l.length)]) (fun(z:Nat×Int×List Int×Nat)=>match z with|(i,s,l,g)=>i<=x.length/\s=prS (J8 x) i/\l=(Yb i).map fun i=>prS (J8 x) (i+1)) (fun(z:Nat×Int×List Int×Nat)=>match z with|(i,s,l,g)=>x.length-i) (0,0,[],_) ⟨U,U,U,U,U,trivial⟩ ⟨Zv _,U,U⟩ ?_
   intro z c;obtain⟨i,s,l,g⟩:=z
   try dsimp only at c
   obtain⟨k,q,b⟩:=c;have m:l.length=i:=by rw[b];simp
   have f: -100000<=x.getD i default/\x.getD i default<=100000:=d i;have u:=d5o p i;rw[<-q]at u;refine A3<|A3<|A0<|y_M U<|y_M U<|B8 U U<|F4 U U<|xN [1,8,12,13,96] [8] U ?_
   refine A4 U ?_ ?_<;>intro a<;>try simp only[SL]at a
   ·refine A7<|A3<|B0<|A3<|A0<|y_M U<|y_M U<|y_M U<|B7 U U U (fun _=>U) (by omega)<|y_I U<|D7 U U (B9 (by omega))<|y_S U<|xN [1,8,12,13] [8] U<|A0<|y_M U<|y_M U<|B6 (es:=Zw iV [_]) U U (dT U) U U (fun _=>B3 (A6 fun _=>U)) (fun _=>U) ?_
    intro w;refine xA U U U U (by simp) (by simp) U U U U U (fun _=>U) (by simp only[LN];omega) (fun _=>U) ?_;intro A
    (refine xO U U (by simp) U (fun _=>U) (fun _=>U) ?_;intro g8)
    refine xN [1,8,12,13] [8] U<|A0<|y_M U<|D7 U U (B9 (by omega))<|y_S U<|xN [1,8,12,13] [8] U ?_
    refine⟨(i+1,s+x.getD i default,l++[s+x.getD i default],_),?_,(by simp only;omega),⟨U,U,U,U,U,trivial⟩⟩;exact⟨by omega,by rw[prS,q];rfl,by rw[b,Z6,prS,q];rfl⟩
   refine D6 ?_;refine⟨(_,_,_),?_,⟨U,U,trivial⟩⟩;exact⟨apF (show l=smI x by rw[b,show i=x.length by omega];rfl) (by simp[Y6, *]),by omega,by omega⟩
  try simp at a
  refine A3<|A0<|K0 U U<|y_S U<|xN [1,2,8,16,109] [8] U ?_
  refine A4 U ?_ ?_<;>intro a<;>try simp only[SL]at a
  ·try simp at a
   refine A0<|y_M U ?_
   apply xC U
   ·apply A8
    ·exact B1 U
    exact C2
   ·exact e9p x p
   refine⟨⟨U,U,U,dT U,U⟩,.inl U,B2,H4,fun _=>U,fun B=> ?_⟩;simp only[Zi]
   (refine xO U U (by simp) U (fun _=>U) (fun _=>U) ?_;intro g8)
   refine xN [8] [8] U ?_;refine⟨(_,_,_),?_,⟨U,U,trivial⟩⟩;exact⟨(by(simp[Y6,rkI, *];done)),(by(simp[dfI,smI,rkI,adI];done)),(by(simp;omega))⟩
  try simp at a
  refine A3<|A0<|K0 U U<|y_S U<|xN [1,2,8,16,113] [8] U ?_
  refine A4 U ?_ ?_<;>intro a<;>try simp only[SL]at a
  ·try simp at a
   refine A0<|y_M U<|y_M U ?_
   refine xC1 U U (e9s x p) ⟨U,U,U⟩ U U fun C=> ?_
   refine B6 (es:=Zw iV [_]) U U (dT U) U U (fun _=>B3 (A6 fun _=>U)) (fun _=>U) ?_;intro D;refine xA U U U U (by simp) (by simp) U U U U U (fun _=>U) (by simp only[LN];omega) (fun _=>U) ?_;intro E
   (refine xO U U (by simp) U (fun _=>U) (fun _=>U) ?_;intro g8)
   refine xN [8] [8] U ?_;refine⟨(_,_,_),?_,⟨U,U,trivial⟩⟩;exact⟨(by(simp[Y6, *];done)),(by(simp;done)),(by(simp;done))⟩
  try simp at a
  refine A3<|A0<|K0 U U<|y_S U<|xN [1,2,8,16,120] [8] U ?_
  refine A4 U ?_ ?_<;>intro a<;>try simp only[SL]at a
  ·try simp at a
   refine A3<|A3<|A0<|y_M U<|B8 U U<|y_M U<|B8 U U<|b0i U U<|xN [1,2,8,126] [8] U ?_
   refine A4 U ?_ ?_<;>intro a<;>try simp only[SL]at a
   ·refine A3<|A0 ?_
    (refine B4 U U (fun _=>U) ?_;intro g6)
    refine y_S U<|xN [6,7] [6] U<|A9<|C0 (F9 U U (by simp) (by rfl) (D3 U U (C5 B5))) ?_
    have a0:¬x.length=y.length:=by omega
    rw[show mkR op x y=none from by simp[mkR,Y6, *],show raR op x y=[]from by simp[raR,Y6, *]]
    rfl
   refine A7<|A3<|A0<|y_S U<|xN [1,2,8,14] [8] U<|B0<|D8 (β:=Nat×List Int×Nat) [(.t 1,_),(.t 2,_)] (fun(z:Nat×List Int×Nat)=>match z with|(i,l,g)=>[(.t 14,iV i),(.h 8,.obj g 0 1 (l.map iV)),(.t 8,.sl 8 g none 0 l.length)]) (fun(z:Nat×List Int×Nat)=>match z with|(i,l,g)=>i<=x.length/\l=(Yb i).map (fun i=>J8 x i+J8 y i)) (fun(z:Nat×List Int×Nat)=>match z with|(i,l,g)=>x.length-i) (0,[],_) ⟨U,U,U,U,U,trivial⟩ ⟨Zv _,U⟩ ?_
   intro z c;obtain⟨i,l,g⟩:=z
   try dsimp only at c
   obtain⟨k,b⟩:=c;have m:l.length=i:=by rw[b];simp
   have f: -100000<=x.getD i default/\x.getD i default<=100000:=d i;have e: -100000<=y.getD i default/\y.getD i default<=100000:=j i;refine A3<|A3<|A0<|y_M U<|y_M U<|B8 U U<|F4 U U<|xN [1,2,8,14,130] [8] U ?_
   refine A4 U ?_ ?_<;>intro a<;>try simp only[SL]at a
   ·refine A7<|A3<|B0<|A0<|y_M U<|y_M U<|y_M U<|B7 U U U (fun _=>U) (by omega)<|y_I U<|y_M U<|y_M U<|B7 U U U (fun _=>U) (by omega)<|y_I U<|D7 U U (B9 (by omega))<|B6 (es:=Zw iV [_]) U U (dT U) U U (fun _=>B3 (A6 fun _=>U)) (fun _=>U) ?_
    intro F;refine xA U U U U (by simp) (by simp) U U U U U (fun _=>U) (by simp only[LN];omega) (fun _=>U) ?_;intro G
    (refine xO U U (by simp) U (fun _=>U) (fun _=>U) ?_;intro g8)
    refine G7 ⟨fun _=>⟨by decide+kernel,by decide+kernel⟩,[(.t 1,_),(.t 2,_),(.t 8,_),(.t 14,_),(.h 8,_)],⟨U,U,U,U,U,U,U,U,U,U,trivial⟩,?_⟩;refine A0<|y_M U<|D7 U U (B9 (by omega))<|y_S U<|xN [1,2,8,14] [8] U ?_
    refine⟨(i+1,l++[x.getD i default+y.getD i default],_),?_,(by simp only;omega),⟨U,U,U,U,U,trivial⟩⟩;exact⟨by omega,by rw[b,Z6];rfl⟩
   refine D6 ?_;refine⟨(_,_,_),?_,⟨U,U,trivial⟩⟩;exact⟨adF (by assumption) (by omega) (by rw[b,show i=x.length by omega];rfl) U,by omega,by omega⟩
  try simp at a
  refine A3<|A0<|K0 U U<|y_S U<|xN [1,2,8,145] [8] U ?_
  refine A4 U ?_ ?_<;>intro a<;>try simp only[SL]at a
  ·try simp at a
   refine A0<|y_M U<|y_M U<|Q0 U U U (by(simp;done)) U U U (dT U) (fun _=>⟨U,U,U⟩) (by simp only[H0];(simp only[Zo,Ze,Zf,ZL,Zi];omega)) (fun _=>U) ?_
   intro H;refine y_M U<|Q0 U U U (by(simp;done)) U U U (dT U) (fun _=>⟨U,U,U⟩) (by simp only[H0];(simp only[Zo,Ze,Zf,ZL,Zi];omega)) (fun _=>U) ?_
   intro I
   (refine xO U U (by simp) U (fun _=>U) (fun _=>U) ?_;intro g8)
   refine xN [8] [8] U ?_;refine⟨(_,_,_),?_,⟨U,U,trivial⟩⟩;exact⟨(by(simp[Y6, *];done)),(by(simp;done)),(by(simp;omega))⟩
  try simp at a
  refine A7 ?_;refine⟨(_,_,_),?_,⟨U,U,trivial⟩⟩;exact absurd (e7j Z) (by simp[*])
 intro z c;obtain⟨r,n,g⟩:=z
 try dsimp only at c
 obtain⟨o,hn,M⟩:=c;subst hn;refine A3<|A0<|y_M U<|y_M U ?_
 apply xC U
 ·apply A8
  ·exact E7 U U U (by(simp;done)) (fun _=>U)
  exact C2
 ·exact d1l r (by omega)
 refine⟨⟨U,U,U,dT U,U⟩,.inr ⟨U,U⟩,B2,C8 U,fun _=>U,fun J=> ?_⟩
 (refine xO U U (by simp) U (fun _=>U) (fun _=>U) ?_;intro g6)
 refine y_S U<|xN [6,7] [6] U<|A9<|C0 (F9 U U (by simp) (by exact A6 fun _=>U) (D3 U U (C5 B5))) ?_
 rw[raR,mkR,o,Zl,Option.getD_some];cases a2:vl r<;>rfl
theorem c2w:D9 Tryz.f102=[0,1,2,6,9,7,19]:=by kernel_rfl
theorem e4c(a:List Int)(d:a.length<=1048576)(b:List (List Int)):CW (cxT oG) 102 [sV wList,L a,M b]=some (.own 1 (a.map iV),[]):=by
 refine C7 U Tryz.func102 U ⟨by kernel_rfl,U,dT U,dT U,by decide⟩ c2w<|A3<|A0 ?_
 (refine B4 U U (fun _=>U) ?_;intro g6)
 refine xN [0,1,2] [] U<|A3<|A3<|A0<|y_M U<|f0z (t:=true) U U (by decide+kernel)<|xN [0,1,2,9] [] U ?_
 refine A4 U (fun c=> ?_) (fun c=> ?_)
 ·try simp only[SL]at c
  refine A3<|A0<|y_M U ?_
  apply xC U
  ·apply A8
   ·exact B1 U
   exact C2
  ·exact e1a a d
  refine⟨⟨U,U,U,dT U,U⟩,.inl U,B2,H4,fun _=>U,fun g11=> ?_⟩;simp only[Zi]
  (refine xO U U (by simp) U (fun _=>U) (fun _=>U) ?_;intro g6)
  refine xN [6] [6] U<|A9<|J3 U U (by simp) (by exact A6 fun _=>U) trivial ?_
  rfl
 try simp only[SD]at c
 exact absurd c (by decide)
theorem d5s:D9 Tryz.f75=[0,1,4,5,2,14,24,23,25,22,8,10,35,9,6]:=by kernel_rfl
theorem d8y(t:Pl)(g:t.good)(e:t.wf)(b:List (List Int))(n:vcs b=true)(B:b.length<=1048576)(C:∀c∈b,c.length<=1048576):CW (cxT oG) 75 [trK t,M b]=some (.tup [.own 1 (((runP b t).getD []).map iV),bV (runP b t).isSome],[]):=by
 obtain⟨z,m⟩:∃z:Nat,t.sz<z:=⟨_,ZJ _⟩;revert t
 induction z with
 |zero=>intro t g e m;exact absurd m (Yz _)
 |succ z H=>
  intro t g e m;refine C7 U Tryz.func75 U ⟨by kernel_rfl,U,dT U,dT U,by decide⟩ d5s<|A3<|A0 ?_
  rcases t with ns|w|⟨w,p⟩|⟨w,p,q⟩
  ·rw[b8i]
   have L:=a4r (show vd ns=true from g);refine P3 U U U (fun _=>H7 U) (fun _=>U) ?_;intro g2
   (refine B4 U U (fun _=>U) ?_;intro g4)
   refine y_S U<|xN [1,2] [2] U<|A3<|A3<|A0<|y_F U<|y_L U<|B8 U U<|K6 U U<|xN [1,2,14] [2] U ?_
   refine A4 U (fun d=> ?_) (fun d=>absurd d (by decide));refine A3<|A0<|y_F U<|y_L U<|y_F U<|y_L U<|y_M U ?_
   apply xC U
   ·apply A8
    ·exact B1 U
    apply A8
    ·exact B1 U
    apply A8
    ·exact B1 U
    exact C2
   ·exact e4c ns (by omega) b
   refine⟨⟨U,U,U,dT U,U⟩,.inl U,B2,H4,fun _=>U,fun g20=> ?_⟩;simp only[Zi]
   (refine xO U U (by simp) U (fun _=>U) (fun _=>U) ?_;intro g4)
   refine y_S U<|xN [4,5] [4] U<|A9<|C0 (F9 U U (by simp) (by exact A6 fun _=>U) (D3 U U (C5 B5))) ?_
   rfl
  ·rw[b8k]
   have F:rch (bA w)=0:=e;obtain⟨⟨k,J,I⟩,-⟩:=e1w F;have D:=e3f J;refine P3 U U U (fun _=>H7 U) (fun _=>U) ?_;intro g2
   (refine B4 U U (fun _=>U) ?_;intro g4)
   refine y_S U<|xN [1,2] [2] U<|A3<|A3<|A0<|y_F U<|y_L U<|B8 U U<|K6 U U<|xN [1,2,14] [2] U ?_
   refine A4 U (fun d=> ?_) (fun d=>absurd d (by decide));refine A3<|A0<|y_F U<|y_L U<|y_F U<|y_L U<|y_M U ?_
   apply xC U
   ·apply A8
    ·exact B1 U
    apply A8
    ·exact B1 U
    apply A8
    ·exact B1 U
    exact C2
   ·exact(by have i:=e8j (oG:=oG) k J [] b B C;rw[<-I]at i;exact i)
   refine⟨⟨U,U,U,dT U,U⟩,.inl U,B2,H4,fun _=>U,fun g20=> ?_⟩;simp only[Zi]
   (refine xO U U (by simp) U (fun _=>U) (fun _=>U) ?_;intro g4)
   refine y_S U<|xN [4,5] [4] U<|A9<|C0 (F9 U U (by simp) (by exact A6 fun _=>U) (D3 U U (C5 B5))) ?_
   rw[runP,I,D]
   rfl
  ·rw[d0f]
   have v:(Pl.un w p).sz=p.sz+1:=rfl;have K:nd (bA w)=1:=(S8 (by have h:=e.1;omega)).trans e.1;refine P3 U U U (fun _=>H7 U) (fun _=>U) ?_;intro g2
   (refine B4 U U (fun _=>U) ?_;intro g4)
   refine y_S U<|xN [1,2] [2] U<|A3<|A3<|A0<|y_F U<|y_L U<|B8 U U<|K6 U U<|xN [1,2,14] [2] U ?_
   refine A4 U (fun d=>absurd d (by exact fun h=>ZK (show false=true from h))) (fun d=> ?_);refine A7<|A3<|A0 ?_
   (refine B4 U U (fun _=>U) ?_;intro g6)
   refine xN [1,2,6] [2,6] U<|A3<|A3<|A0<|y_F U<|y_L U<|B8 U U<|y_M U<|xN [1,2,6,22,23,24] [2,6] U<|B0<|H5<|A3<|A0<|F4 U U<|xN [1,2,6,22,23,24,25] [2,6] U<|A3 ?_
   refine A4 U (fun d=> ?_) (fun d=>absurd d (by exact fun h=>ZK (show true=false from h)));refine A7<|A3<|B0<|A3<|A0<|H9 U U U (fun _=>U) (by show(0:Int)<=0/\(0:Int)<((1:Nat):Int);omega)<|y_I U<|y_A U (fun _=>U) ?_
   intro g8;refine xB U U U U U U U U U<|xN [1,2,6,8,22,23,24] [2,6,8] U<|A3<|A0<|y_B U<|y_M U ?_
   apply xC U
   ·apply A8
    ·exact B1 U
    apply A8
    ·exact B1 U
    exact C2
   ·exact(by have i:=H p g.2.2 e.2 (by omega);rw[<-L0]at i;exact i)
   refine⟨⟨U,U,U,dT U,U⟩,.inr ⟨I5 _ _,U⟩,B2,H3 (L1 fun _=>J5 U L3),fun _=>U,fun r=> ?_⟩;simp only[Zi];refine y_M U<|y_E U<|y_E U ?_
   (refine xO U U (by simp) U (fun _=>U) (fun _=>U) ?_;intro g9)
   refine y_S U<|xN [1,2,6,9,10,22,23,24] [2,6,9] U<|A3<|A3<|A0<|y_M U<|H8 U<|xN [1,2,6,9,22,23,24,35] [2,6,9] U ?_
   refine A4 U ?_ ?_<;>intro d<;>try simp only[SL]at d
   ·refine A3<|A0 ?_
    (refine B4 U U (fun _=>U) ?_;intro g4)
    refine y_S U<|xN [4,5] [4] U<|A9<|C0 (F9 U U (by simp) (by rfl) (D3 U U (C5 B5))) ?_
    have j:runP b p=none:=by simpa using d
    show AV.tup [.own 1 [],bV false]=_;rw[runP,j]
    rfl
   obtain⟨x,l⟩:=ZT.1 (show(runP b p).isSome=true by assumption);rw[l];have o:=a8c n (g.2.2) l;simp only[Option.getD_some];refine A7<|A0<|y_M U<|y_M U<|a8w U U (by simp) U U U (fun _=>U) ?_
   intro s;refine R5 (f:=oI) (xs:=[]) (ys:=[x]) U U U U (by simp) (by simp) (by decide) U U U U (dT U) (fun a=>⟨U,b2i a⟩) (by simp only[H0];simp) (fun _=>U) ?_;intro u
   (refine xO U U (by simp) U (fun _=>U) (fun _=>U) ?_;intro g6)
   refine xN [1,2,6,22,23,24] [2,6] U<|A0<|D7 U U (B9 (by omega))<|y_M U<|xN [1,2,6,22,23,24] [2,6] U<|H5<|A3<|A0<|F4 U U<|xN [1,2,6,22,23,24,25] [2,6] U<|A3 ?_
   refine A4 U (fun d=>absurd d (by exact fun h=>ZK (show false=true from h))) (fun d=> ?_);refine D6<|A3<|A0<|y_F U<|y_L U<|y_M U ?_
   apply xC U
   ·apply A8
    ·exact B1 U
    apply A8
    ·exact b1u U U U (by(simp;done))
    exact C2
   ·exact d4b (bA w) (by omega) x [] o e0l [x] (by simp) (by(intro h;omega)) U (by(intro _;rfl))
   refine⟨⟨U,U,U,dT U,U⟩,.inr ⟨I5 _ _,U⟩,B2,H3 (L1 fun _=>J5 U L3),fun _=>U,fun A=> ?_⟩;simp only[Zi];refine y_E U<|y_E U ?_
   (refine xO U U (by simp) U (fun _=>U) (fun _=>U) ?_;intro g4)
   refine y_S U<|xN [4,5] [4] U<|A9<|C0 (F9 U U (by simp) (by exact A6 fun _=>U) (D3 U U (C5 B5))) ?_
   rw[runP,l,Zl]
   rfl
  rw[b7z];have v:(Pl.bin w p q).sz=p.sz+q.sz+1:=rfl;have K:nd (bA w)=2:=(S8 (by have h:=e.1;omega)).trans e.1;refine P3 U U U (fun _=>H7 U) (fun _=>U) ?_;intro g2
  (refine B4 U U (fun _=>U) ?_;intro g4)
  refine y_S U<|xN [1,2] [2] U<|A3<|A3<|A0<|y_F U<|y_L U<|B8 U U<|K6 U U<|xN [1,2,14] [2] U ?_
  refine A4 U (fun d=>absurd d (by exact fun h=>ZK (show false=true from h))) (fun d=> ?_);refine A7<|A3<|A0 ?_
  (refine B4 U U (fun _=>U) ?_;intro g6)
  refine xN [1,2,6] [2,6] U<|A3<|A3<|A0<|y_F U<|y_L U<|B8 U U<|y_M U<|xN [1,2,6,22,23,24] [2,6] U<|B0<|H5<|A3<|A0<|F4 U U<|xN [1,2,6,22,23,24,25] [2,6] U<|A3 ?_
  refine A4 U (fun d=> ?_) (fun d=>absurd d (by exact fun h=>ZK (show true=false from h)));refine A7<|A3<|B0<|A3<|A0<|H9 U U U (fun _=>U) (by show(0:Int)<=0/\(0:Int)<((2:Nat):Int);omega)<|y_I U<|y_A U (fun _=>U) ?_
  intro g8;refine xB U U U U U U U U U<|xN [1,2,6,8,22,23,24] [2,6,8] U<|A3<|A0<|y_B U<|y_M U ?_
  apply xC U
  ·apply A8
   ·exact B1 U
   apply A8
   ·exact B1 U
   exact C2
  ·exact(by have i:=H p g.2.2.1 e.2.1 (by omega);rw[<-L0]at i;exact i)
  refine⟨⟨U,U,U,dT U,U⟩,.inr ⟨I5 _ _,U⟩,B2,H3 (L1 fun _=>J5 U L3),fun _=>U,fun r=> ?_⟩;simp only[Zi];refine y_M U<|y_E U<|y_E U ?_
  (refine xO U U (by simp) U (fun _=>U) (fun _=>U) ?_;intro g9)
  refine y_S U<|xN [1,2,6,9,10,22,23,24] [2,6,9] U<|A3<|A3<|A0<|y_M U<|H8 U<|xN [1,2,6,9,22,23,24,35] [2,6,9] U ?_
  refine A4 U ?_ ?_<;>intro d<;>try simp only[SL]at d
  ·refine A3<|A0 ?_
   (refine B4 U U (fun _=>U) ?_;intro g4)
   refine y_S U<|xN [4,5] [4] U<|A9<|C0 (F9 U U (by simp) (by rfl) (D3 U U (C5 B5))) ?_
   have j:runP b p=none:=by simpa using d
   show AV.tup [.own 1 [],bV false]=_;rw[runP,j]
   rfl
  obtain⟨x,l⟩:=ZT.1 (show(runP b p).isSome=true by assumption);rw[l];have o:=a8c n (g.2.2.1) l;simp only[Option.getD_some];refine A7<|A0<|y_M U<|y_M U<|a8w U U (by simp) U U U (fun _=>U) ?_
  intro s;refine R5 (f:=oI) (xs:=[]) (ys:=[x]) U U U U (by simp) (by simp) (by decide) U U U U (dT U) (fun a=>⟨U,b2i a⟩) (by simp only[H0];simp) (fun _=>U) ?_;intro u
  (refine xO U U (by simp) U (fun _=>U) (fun _=>U) ?_;intro g6)
  refine xN [1,2,6,22,23,24] [2,6] U<|A0<|D7 U U (B9 (by omega))<|y_M U<|xN [1,2,6,22,23,24] [2,6] U<|H5<|A3<|A0<|F4 U U<|xN [1,2,6,22,23,24,25] [2,6] U<|A3 ?_
  refine A4 U (fun d=> ?_) (fun d=>absurd d (by exact fun h=>ZK (show true=false from h)));refine A7<|A3<|B0<|A3<|A0<|H9 U U U (fun _=>U) (by show(0:Int)<=1/\(1:Int)<((2:Nat):Int);omega)<|y_I U<|y_A U (fun _=>U) ?_
  intro g8;refine xB U U U U U U U U U<|xN [1,2,6,8,22,23,24] [2,6,8] U<|A3<|A0<|y_B U<|y_M U ?_
  apply xC U
  ·apply A8
   ·exact B1 U
   apply A8
   ·exact B1 U
   exact C2
  ·exact(by have i:=H q g.2.2.2 e.2.2 (by omega);rw[<-L0]at i;exact i)
  refine⟨⟨U,U,U,dT U,U⟩,.inr ⟨I5 _ _,U⟩,B2,H3 (L1 fun _=>J5 U L3),fun _=>U,fun r=> ?_⟩;simp only[Zi];refine y_M U<|y_E U<|y_E U ?_
  (refine xO U U (by simp) U (fun _=>U) (fun _=>U) ?_;intro g9)
  refine y_S U<|xN [1,2,6,9,10,22,23,24] [2,6,9] U<|A3<|A3<|A0<|y_M U<|H8 U<|xN [1,2,6,9,22,23,24,35] [2,6,9] U ?_
  refine A4 U ?_ ?_<;>intro d<;>try simp only[SL]at d
  ·refine A3<|A0 ?_
   (refine B4 U U (fun _=>U) ?_;intro g4)
   refine y_S U<|xN [4,5] [4] U<|A9<|C0 (F9 U U (by simp) (by rfl) (D3 U U (C5 B5))) ?_
   have j:runP b q=none:=by simpa using d
   show AV.tup [.own 1 [],bV false]=_;rw[runP,l,Zl,j]
   rfl
  obtain⟨y,G⟩:=ZT.1 (show(runP b q).isSome=true by assumption);rw[G];have E:=a8c n (g.2.2.2) G;simp only[Option.getD_some];refine A7<|A0<|y_M U<|y_M U<|a8w U U (by simp) U U U (fun _=>U) ?_
  intro s;refine R5 (f:=oI) (xs:=[x]) (ys:=[y]) U U U U (by simp) (by simp) (by decide) U U U U (dT U) (fun a=>⟨U,b2i a⟩) (by simp only[H0];simp) (fun _=>U) ?_;intro u
  (refine xO U U (by simp) U (fun _=>U) (fun _=>U) ?_;intro g6)
  refine xN [1,2,6,22,23,24] [2,6] U<|A0<|D7 U U (B9 (by omega))<|y_M U<|xN [1,2,6,22,23,24] [2,6] U<|H5<|A3<|A0<|F4 U U<|xN [1,2,6,22,23,24,25] [2,6] U<|A3 ?_
  refine A4 U (fun d=>absurd d (by exact fun h=>ZK (show false=true from h))) (fun d=> ?_);refine D6<|A3<|A0<|y_F U<|y_L U<|y_M U ?_
  apply xC U
  ·apply A8
   ·exact B1 U
   apply A8
   ·exact b1u U U U (by(simp;done))
   exact C2
  ·exact d4b (bA w) (by omega) x y o E [x,y] (by simp) (by(intro h;simp;done)) U (by(intro _;rfl))
  refine⟨⟨U,U,U,dT U,U⟩,.inr ⟨I5 _ _,U⟩,B2,H3 (L1 fun _=>J5 U L3),fun _=>U,fun A=> ?_⟩;simp only[Zi];refine y_E U<|y_E U ?_
  (refine xO U U (by simp) U (fun _=>U) (fun _=>U) ?_;intro g4)
  refine y_S U<|xN [4,5] [4] U<|A9<|C0 (F9 U U (by simp) (by exact A6 fun _=>U) (D3 U U (C5 B5))) ?_
  rw[runP,l,Zl,G,Zl]
  rfl
theorem c9f:D9 Tryz.f55=[0,2,1,5,20,6,4,3,46,7,51,8,9,10,73,28]:=by kernel_rfl
theorem f2r(t:Pl)(c:t.good)(b:t.wf)(x:t.sz<=1000):CW (cxT oG) 55 [trK t]=some (trV (foldP t),[]):=by
 obtain⟨A,n⟩:∃A:Nat,t.sz<A:=⟨_,ZJ _⟩;revert t
 induction A with
 |zero=>intro t c b x n;exact absurd n (Yz _)
 |succ A G=>
  intro t c b x n;refine C7 U Tryz.func55 U ⟨by kernel_rfl,U,dT U,dT U,by decide⟩ c9f<|A3<|A0<|P3 U U U (fun _=>H7 U) (fun _=>U) ?_
  intro g1;rcases t with ns|w|⟨w,p⟩|⟨w,p,q⟩
  ·rw[b8i]
   refine y_A U (fun _=>U) ?_;intro g2;refine xN [1,2] [1,2] U<|A3<|A0<|B6 (es:=Zw trV []) U U (dT U) U U (fun _=>B3 (A6 fun _=>U)) (fun _=>U) ?_
   intro g11
   (refine xO U U (by simp) U (fun _=>U) (fun _=>U) ?_;intro g3)
   refine xN [1,2,3] [1,2,3] U<|A3<|A0<|y_F U<|y_L U<|B8 U U<|M0 U U<|y_S U<|xN [1,2,3,4] [1,2,3] U<|A3<|A3<|A0<|y_S U<|xN [1,2,3,4,5] [1,2,3] U<|B0<|H5<|A3<|A3<|A0<|y_M U<|y_F U<|y_L U<|B8 U U<|F4 U U<|xN [1,2,3,4,5,20] [1,2,3] U ?_
   refine A4 U (fun a=>absurd a (by decide)) (fun a=> ?_);refine D6<|A3<|A0<|y_F U<|y_L U<|y_F U<|y_L U<|y_M U<|I3 (fs:=[_,_,_]) U U U U U<|y_A U (fun _=>U) ?_
   intro g7;refine G0 U U U U (G6 U (G6 U (O2 (by decide) K9))) (fun _=>U) ⟨by decide,U,dT U,Zd _⟩ (fun _=>U) (fun _=>U) (fun _=>(by rfl)) ?_;intro z;simp only[K5,Zp,Zj];refine xN [1,2,3,4,7] [1,2,3,7] U<|A3<|A3<|A0<|y_M U<|H8 U<|xN [1,2,3,7,46] [1,2,3,7] U ?_
   refine A4 U (fun a=> ?_) (fun a=>absurd a (by decide));refine A3<|A0<|y_B U<|G0 U U U U (G6 U (G6 U (O2 (by decide) K9))) (fun _=>U) ⟨by decide,U,dT U,Zd _⟩ (fun _=>U) (fun _=>U) (fun _=>(by rfl)) ?_
   intro z;simp only[K5,Zp,Zj];refine xN [2] [2,3] U<|A9<|C0 (F5 U U U U (E3 U (E3 U (L6 U U (by simp) (fun _=>U) H2))) (C5 B5)) ?_
   rfl
  ·rw[b8k]
   refine y_A U (fun _=>U) ?_;intro g2;refine xN [1,2] [1,2] U<|A3<|A0<|B6 (es:=Zw trV []) U U (dT U) U U (fun _=>B3 (A6 fun _=>U)) (fun _=>U) ?_
   intro g11
   (refine xO U U (by simp) U (fun _=>U) (fun _=>U) ?_;intro g3)
   refine xN [1,2,3] [1,2,3] U<|A3<|A0<|y_F U<|y_L U<|B8 U U<|M0 U U<|y_S U<|xN [1,2,3,4] [1,2,3] U<|A3<|A3<|A0<|y_S U<|xN [1,2,3,4,5] [1,2,3] U<|B0<|H5<|A3<|A3<|A0<|y_M U<|y_F U<|y_L U<|B8 U U<|F4 U U<|xN [1,2,3,4,5,20] [1,2,3] U ?_
   refine A4 U (fun a=>absurd a (by decide)) (fun a=> ?_);refine D6<|A3<|A0<|y_F U<|y_L U<|y_F U<|y_L U<|y_M U<|I3 (fs:=[_,_,_]) U U U U U<|y_A U (fun _=>U) ?_
   intro g7;refine G0 U U U U (G6 U (G6 U (O2 (by decide) K9))) (fun _=>U) ⟨by decide,U,dT U,Zd _⟩ (fun _=>U) (fun _=>U) (fun _=>(by rfl)) ?_;intro z;simp only[K5,Zp,Zj];refine xN [1,2,3,4,7] [1,2,3,7] U<|A3<|A3<|A0<|y_M U<|H8 U<|xN [1,2,3,7,46] [1,2,3,7] U ?_
   refine A4 U (fun a=> ?_) (fun a=>absurd a (by decide));refine A3<|A0<|y_B U<|G0 U U U U (G6 U (G6 U (O2 (by decide) K9))) (fun _=>U) ⟨by decide,U,dT U,Zd _⟩ (fun _=>U) (fun _=>U) (fun _=>(by rfl)) ?_
   intro z;simp only[K5,Zp,Zj];refine xN [2] [2,3] U<|A9<|C0 (F5 U U U U (E3 U (E3 U (L6 U U (by simp) (fun _=>U) H2))) (C5 B5)) ?_
   rfl
  ·rw[d0f]
   have y:(Pl.un w p).sz=p.sz+1:=rfl;have H:nd (bA w)=1:=(S8 (by have h:=b.1;omega)).trans b.1;refine y_A U (fun _=>U) ?_;intro g2;refine xN [1,2] [1,2] U<|A3<|A0<|B6 (es:=Zw trV []) U U (dT U) U U (fun _=>B3 (A6 fun _=>U)) (fun _=>U) ?_
   intro g11
   (refine xO U U (by simp) U (fun _=>U) (fun _=>U) ?_;intro g3)
   refine xN [1,2,3] [1,2,3] U<|A3<|A0<|y_F U<|y_L U<|B8 U U<|M0 U U<|y_S U<|xN [1,2,3,4] [1,2,3] U<|A3<|A3<|A0<|y_S U<|xN [1,2,3,4,5] [1,2,3] U<|B0<|H5<|A3<|A3<|A0<|y_M U<|y_F U<|y_L U<|B8 U U<|F4 U U<|xN [1,2,3,4,5,20] [1,2,3] U ?_
   refine A4 U (fun a=> ?_) (fun a=>absurd a (by exact fun h=>ZK (show true=false from h)));refine A7<|A3<|B0<|A3<|A0<|y_F U<|y_L U<|y_M U<|H9 U U U (fun _=>U) (by show(0:Int)<=0/\(0:Int)<((1:Nat):Int);omega)<|y_I U ?_
   refine xC1 U U ((by have k:=G p c.2.2 b.2 (by omega) (by omega);rw[<-L0]at k;exact k)) ⟨U,U,U⟩ U U fun v=> ?_
   refine y_A U (fun _=>U) ?_;intro g6;refine xB U U U U U U U U U<|xN [1,2,3,4,5,6] [1,2,3,6] U<|A3<|A0<|y_M U<|y_M U<|G2 U U U<|y_F U<|G2 U U U<|y_L U<|G2 U U U<|H1 U U<|F0 U U U U<|y_S U<|xN [1,2,3,4,5,6] [1,2,3,6] U<|A0<|y_M U<|y_B U<|B6 (es:=Zw trV [_]) U U (dT U) U U (fun _=>B3 (A6 fun _=>U)) (fun _=>U) ?_
   intro l;refine xA U U U U (by simp) (by simp) U U U U U (fun _=>U) (by simp only[LN];omega) (fun _=>U) ?_;intro m
   (refine xO U U (by simp) U (fun _=>U) (fun _=>U) ?_;intro g3)
   refine xN [1,2,3,4,5] [1,2,3] U<|A0<|y_M U<|D7 U U (B9 (by omega))<|y_S U<|xN [1,2,3,4,5] [1,2,3] U<|H5<|A3<|A3<|A0<|y_M U<|y_F U<|y_L U<|B8 U U<|F4 U U<|xN [1,2,3,4,5,20] [1,2,3] U ?_
   refine A4 U (fun a=>absurd a (by exact fun h=>ZK (show false=true from h))) (fun a=> ?_);refine D6<|A3<|A0<|y_F U<|y_L U<|y_F U<|y_L U<|y_M U<|I3 (fs:=[_,_,_]) U U U U U<|y_A U (fun _=>U) ?_
   intro g7;refine G0 U U U U (G6 U (G6 U (O2 (by decide) K9))) (fun _=>U) ⟨by decide,U,dT U,Zd _⟩ (fun _=>U) (fun _=>U) (fun _=>(by rfl)) ?_;intro z;simp only[K5,Zp,Zj];refine xN [1,2,3,4,7] [1,2,3,7] U<|A3<|A3<|A0<|y_M U<|H8 U<|xN [1,2,3,7,46] [1,2,3,7] U ?_
   refine A4 U ?_ ?_<;>intro a<;>try simp only[SL]at a
   ·have o:∀ns,foldP p≠.lst ns:=fun ns e=>a (by rw[e];rfl)
    refine A3<|A0<|y_B U<|G0 U U U U (G6 U (G6 U (O2 (by decide) K9))) (fun _=>U) ⟨by decide,U,dT U,Zd _⟩ (fun _=>U) (fun _=>U) (fun _=>(by rfl)) ?_
    intro z;simp only[K5,Zp,Zj];refine xN [2] [2,3] U<|A9<|C0 (F5 U U U U (E3 U (E3 U (L6 U U (by simp) (fun _=>U) H2))) (C5 B5)) ?_
    rw[c6n o];show _=AV.agg [tV w,.list [],.list [trV (foldP p)]]
    rfl
   obtain⟨ms,g,s⟩:=a0e (S7 _ c.2.2) (show(foldP p).op=lW by assumption);rw[g];refine A7<|A3<|A0<|B6 (es:=Zw iV []) U U (dT U) U U (fun _=>B3 (A6 fun _=>U)) (fun _=>U) ?_
   intro B
   (refine xO U U (by simp) U (fun _=>U) (fun _=>U) ?_;intro g8)
   refine xN [1,2,3,7,8] [1,2,3,7,8] U<|A3<|A3<|A0<|y_M U<|G8 U U<|K6 U U<|xN [1,2,3,7,8,51] [1,2,3,7,8] U ?_
   refine A4 U (fun a=>absurd a (by exact fun h=>ZK (show false=true from h))) (fun a=> ?_);refine A7<|A3<|A0<|y_F U<|y_L U<|y_M U<|C9 U U U U (by(simp;done)) (by(simp;done)) U<|y_F U<|a4c U U (by(simp;done)) (fun _=>U) U U<|y_M U ?_
   apply xC U
   ·apply A8
    ·exact B1 U
    apply A8
    ·exact B1 U
    apply A8
    ·exact E7 U U U (by(simp;done)) (fun _=>U)
    exact C2
   ·exact b8g (bA w) (by omega) ms [] (b9q s) e0l
   refine⟨⟨U,U,U,dT U,U⟩,.inr ⟨I5 _ _,U⟩,B2,H3 (L1 fun _=>J5 U L3),fun _=>U,fun C=> ?_⟩;simp only[Zi];refine y_M U<|y_E U<|y_E U ?_
   (refine xO U U (by simp) U (fun _=>U) (fun _=>U) ?_;intro g9)
   refine y_S U ?_;refine G7 ⟨fun _=>⟨by(simp only[V5,Zj,Zm,Zz,Ya,Zp];decide+kernel),by decide+kernel⟩,[(.t 2,_),(.t 7,_),(.t 9,_),(.t 10,_),(.h 2,_),(.h 7,_),(.h 3,_),(.h 9,_)],⟨U,U,U,U,U,U,U,U,U,U,U,U,U,U,U,U,trivial⟩,?_⟩;refine A3<|A3<|A0<|y_M U<|H8 U<|y_M U ?_
   refine D5 U U ?_ ?_<;>intro d<;>have j:=d<;>try simp only[SG]at j
   ·refine y_M U<|gT U U ?_
    obtain⟨r,i⟩:=ZT.1 (show(mkR (bA w) ms []).isSome=true by assumption);have f:=b8p i;have E:=(Q4.1 (b3d i)).1;rw[f];apply xC U
    ·apply A8
     ·exact E7 U U U (by(simp;done)) (fun _=>U)
     exact C2
    ·exact a0d r (by omega)
    refine⟨⟨U,U,U,dT U,U⟩,.inr ⟨U,U⟩,B2,C8 U,fun _=>U,fun D=> ?_⟩;refine gT U U<|H8 U<|E8 U (by assumption) U U<|xN [2,7,9,73] [2,7,3,9] U ?_
    refine A4 U ?_ ?_<;>intro a<;>try simp only[SL]at a
    ·refine A3<|A0<|y_B U<|G0 U U U U (G6 U (G6 U (O2 (by decide) K9))) (fun _=>U) ⟨by decide,U,dT U,Zd _⟩ (fun _=>U) (fun _=>U) (fun _=>(by rfl)) ?_
     intro z;simp only[K5,Zp,Zj];refine xN [2] [2,3] U<|A9<|C0 (F5 U U U U (E3 U (E3 U (L6 U U (by simp) (fun _=>U) H2))) (C5 B5)) ?_
     have u:mkR (bA w) ms []=none\/∃r,mkR (bA w) ms []=some r/\vd r=false:=by exact .inr ⟨r,i,by simpa using a⟩
     rw[a9m g u]
     rfl
    refine A7<|A3<|A0<|y_M U<|I3 (fs:=[_,_,_]) U U U U U<|G0 U U U U (G6 U (O2 (by decide) (G6 U K9))) (fun _=>U) ⟨by decide,U,dT U,Zd _⟩ (fun _=>U) (fun _=>U) (fun _=>(by rfl)) ?_
    intro z;simp only[K5,Zp,Zj];refine xN [2] [2,9] U<|A9<|C0 (F5 U U U U (E3 U (L6 U U (by simp) (fun _=>U) (J0 U H2))) (C5 B5)) ?_
    rw[c6h g i (by simpa using a)]
    rfl
   refine gF U U<|gF U U<|F0 U (by assumption) U U<|xN [2,7,9,73] [2,7,3,9] U ?_
   refine A4 U (fun a=> ?_) (fun a=>absurd a (by decide));refine A3<|A0<|y_B U<|G0 U U U U (G6 U (G6 U (O2 (by decide) K9))) (fun _=>U) ⟨by decide,U,dT U,Zd _⟩ (fun _=>U) (fun _=>U) (fun _=>(by rfl)) ?_
   intro z;simp only[K5,Zp,Zj];refine xN [2] [2,3] U<|A9<|C0 (F5 U U U U (E3 U (E3 U (L6 U U (by simp) (fun _=>U) H2))) (C5 B5)) ?_
   have u:mkR (bA w) ms []=none\/∃r,mkR (bA w) ms []=some r/\vd r=false:=by exact .inl (by simpa using j)
   rw[a9m g u]
   rfl
  rw[b7z];have y:(Pl.bin w p q).sz=p.sz+q.sz+1:=rfl;have H:nd (bA w)=2:=(S8 (by have h:=b.1;omega)).trans b.1;refine y_A U (fun _=>U) ?_;intro g2;refine xN [1,2] [1,2] U<|A3<|A0<|B6 (es:=Zw trV []) U U (dT U) U U (fun _=>B3 (A6 fun _=>U)) (fun _=>U) ?_
  intro g11
  (refine xO U U (by simp) U (fun _=>U) (fun _=>U) ?_;intro g3)
  refine xN [1,2,3] [1,2,3] U<|A3<|A0<|y_F U<|y_L U<|B8 U U<|M0 U U<|y_S U<|xN [1,2,3,4] [1,2,3] U<|A3<|A3<|A0<|y_S U<|xN [1,2,3,4,5] [1,2,3] U<|B0<|H5<|A3<|A3<|A0<|y_M U<|y_F U<|y_L U<|B8 U U<|F4 U U<|xN [1,2,3,4,5,20] [1,2,3] U ?_
  refine A4 U (fun a=> ?_) (fun a=>absurd a (by exact fun h=>ZK (show true=false from h)));refine A7<|A3<|B0<|A3<|A0<|y_F U<|y_L U<|y_M U<|H9 U U U (fun _=>U) (by show(0:Int)<=0/\(0:Int)<((2:Nat):Int);omega)<|y_I U ?_
  refine xC1 U U ((by have k:=G p c.2.2.1 b.2.1 (by omega) (by omega);rw[<-L0]at k;exact k)) ⟨U,U,U⟩ U U fun v=> ?_
  refine y_A U (fun _=>U) ?_;intro g6;refine xB U U U U U U U U U<|xN [1,2,3,4,5,6] [1,2,3,6] U<|A3<|A0<|y_M U<|y_M U<|G2 U U U<|y_F U<|G2 U U U<|y_L U<|G2 U U U<|H1 U U<|F0 U U U U<|y_S U<|xN [1,2,3,4,5,6] [1,2,3,6] U<|A0<|y_M U<|y_B U<|B6 (es:=Zw trV [_]) U U (dT U) U U (fun _=>B3 (A6 fun _=>U)) (fun _=>U) ?_
  intro l;refine xA U U U U (by simp) (by simp) U U U U U (fun _=>U) (by simp only[LN];omega) (fun _=>U) ?_;intro m
  (refine xO U U (by simp) U (fun _=>U) (fun _=>U) ?_;intro g3)
  refine xN [1,2,3,4,5] [1,2,3] U<|A0<|y_M U<|D7 U U (B9 (by omega))<|y_S U<|xN [1,2,3,4,5] [1,2,3] U<|H5<|A3<|A3<|A0<|y_M U<|y_F U<|y_L U<|B8 U U<|F4 U U<|xN [1,2,3,4,5,20] [1,2,3] U ?_
  refine A4 U (fun a=> ?_) (fun a=>absurd a (by exact fun h=>ZK (show true=false from h)));refine A7<|A3<|B0<|A3<|A0<|y_F U<|y_L U<|y_M U<|H9 U U U (fun _=>U) (by show(0:Int)<=1/\(1:Int)<((2:Nat):Int);omega)<|y_I U ?_
  refine xC1 U U ((by have k:=G q c.2.2.2 b.2.2 (by omega) (by omega);rw[<-L0]at k;exact k)) ⟨U,U,U⟩ U U fun v=> ?_
  refine y_A U (fun _=>U) ?_;intro g6;refine xB U U U U U U U U U<|xN [1,2,3,4,5,6] [1,2,3,6] U<|A3<|A0<|y_M U<|y_M U ?_
  refine D5 U U ?_ ?_<;>intro d<;>have j:=d<;>try simp only[SG]at j
  ·refine y_F U<|gT U U<|y_L U<|gT U U<|H1 U U<|F0 U (by assumption) U U<|y_S U<|xN [1,2,3,4,5,6] [1,2,3,6] U<|A0<|y_M U<|y_B U<|B6 (es:=Zw trV [_]) U U (dT U) U U (fun _=>B3 (A6 fun _=>U)) (fun _=>U) ?_
   intro l;refine xA U U U U (by simp) (by simp) U U U U U (fun _=>U) (by simp only[LN];omega) (fun _=>U) ?_;intro m
   (refine xO U U (by simp) U (fun _=>U) (fun _=>U) ?_;intro g3)
   refine xN [1,2,3,4,5] [1,2,3] U<|A0<|y_M U<|D7 U U (B9 (by omega))<|y_S U<|xN [1,2,3,4,5] [1,2,3] U<|H5<|A3<|A3<|A0<|y_M U<|y_F U<|y_L U<|B8 U U<|F4 U U<|xN [1,2,3,4,5,20] [1,2,3] U ?_
   refine A4 U (fun a=>absurd a (by exact fun h=>ZK (show false=true from h))) (fun a=> ?_);refine D6<|A3<|A0<|y_F U<|y_L U<|y_F U<|y_L U<|y_M U<|I3 (fs:=[_,_,_]) U U U U U<|y_A U (fun _=>U) ?_
   intro g7;refine G0 U U U U (G6 U (G6 U (O2 (by decide) K9))) (fun _=>U) ⟨by decide,U,dT U,Zd _⟩ (fun _=>U) (fun _=>U) (fun _=>(by rfl)) ?_;intro z;simp only[K5,Zp,Zj];refine xN [1,2,3,4,7] [1,2,3,7] U<|A3<|A3<|A0<|y_M U<|H8 U<|xN [1,2,3,7,46] [1,2,3,7] U ?_
   refine A4 U ?_ ?_<;>intro a<;>try simp only[SL]at a
   ·have o:(∀ns,foldP p≠.lst ns)\/∀ns,foldP q≠.lst ns:= .inr fun ns e=>a (by rw[e];rfl)
    refine A3<|A0<|y_B U<|G0 U U U U (G6 U (G6 U (O2 (by decide) K9))) (fun _=>U) ⟨by decide,U,dT U,Zd _⟩ (fun _=>U) (fun _=>U) (fun _=>(by rfl)) ?_
    intro z;simp only[K5,Zp,Zj];refine xN [2] [2,3] U<|A9<|C0 (F5 U U U U (E3 U (E3 U (L6 U U (by simp) (fun _=>U) H2))) (C5 B5)) ?_
    rw[a6l o];show _=AV.agg [tV w,.list [],.list [trV (foldP p),trV (foldP q)]]
    rfl
   obtain⟨ms,g,s⟩:=a0e (S7 _ c.2.2.1) (show(foldP p).op=lW by assumption);rw[g];obtain⟨ls,hq,F⟩:=a0e (S7 _ c.2.2.2) (show(foldP q).op=lW by assumption);rw[hq];refine A7<|A3<|A0<|B6 (es:=Zw iV []) U U (dT U) U U (fun _=>B3 (A6 fun _=>U)) (fun _=>U) ?_
   intro B
   (refine xO U U (by simp) U (fun _=>U) (fun _=>U) ?_;intro g8)
   refine xN [1,2,3,7,8] [1,2,3,7,8] U<|A3<|A3<|A0<|y_M U<|G8 U U<|K6 U U<|xN [1,2,3,7,8,51] [1,2,3,7,8] U ?_
   refine A4 U (fun a=> ?_) (fun a=>absurd a (by exact fun h=>ZK (show true=false from h)));refine A0<|y_M U<|C9 U U U U (by(simp;done)) (by(simp;done)) U<|y_F U<|a4c U U (by(simp;done)) (fun _=>U) U U<|y_S U<|xN [1,2,3,7,8] [1,2,3,7,8] U<|A3<|A0<|y_F U<|y_L U<|y_M U<|C9 U U U U (by(simp;done)) (by(simp;done)) U<|y_F U<|a4c U U (by(simp;done)) (fun _=>U) U U<|y_M U ?_
   apply xC U
   ·apply A8
    ·exact B1 U
    apply A8
    ·exact B1 U
    apply A8
    ·exact B1 U
    exact C2
   ·exact b8g (bA w) (by omega) ms ls (b9q s) (b9q F)
   refine⟨⟨U,U,U,dT U,U⟩,.inr ⟨I5 _ _,U⟩,B2,H3 (L1 fun _=>J5 U L3),fun _=>U,fun C=> ?_⟩;simp only[Zi];refine y_M U<|y_E U<|y_E U ?_
   (refine xO U U (by simp) U (fun _=>U) (fun _=>U) ?_;intro g9)
   refine y_S U ?_;refine G7 ⟨fun _=>⟨by(simp only[V5,Zj,Zm,Zz,Ya,Zp];decide+kernel),by decide+kernel⟩,[(.t 2,_),(.t 7,_),(.t 9,_),(.t 10,_),(.h 2,_),(.h 7,_),(.h 3,_),(.h 9,_)],⟨U,U,U,U,U,U,U,U,U,U,U,U,U,U,U,U,trivial⟩,?_⟩;refine A3<|A3<|A0<|y_M U<|H8 U<|y_M U ?_
   refine D5 U U ?_ ?_<;>intro d<;>have j:=d<;>try simp only[SG]at j
   ·refine y_M U<|gT U U ?_
    obtain⟨r,i⟩:=ZT.1 (show(mkR (bA w) ms ls).isSome=true by assumption);have f:=b8p i;have E:=(Q4.1 (b3d i)).1;rw[f];apply xC U
    ·apply A8
     ·exact E7 U U U (by(simp;done)) (fun _=>U)
     exact C2
    ·exact a0d r (by omega)
    refine⟨⟨U,U,U,dT U,U⟩,.inr ⟨U,U⟩,B2,C8 U,fun _=>U,fun D=> ?_⟩;refine gT U U<|H8 U<|E8 U (by assumption) U U<|xN [2,7,9,73] [2,7,3,9] U ?_
    refine A4 U ?_ ?_<;>intro a<;>try simp only[SL]at a
    ·refine A3<|A0<|y_B U<|G0 U U U U (G6 U (G6 U (O2 (by decide) K9))) (fun _=>U) ⟨by decide,U,dT U,Zd _⟩ (fun _=>U) (fun _=>U) (fun _=>(by rfl)) ?_
     intro z;simp only[K5,Zp,Zj];refine xN [2] [2,3] U<|A9<|C0 (F5 U U U U (E3 U (E3 U (L6 U U (by simp) (fun _=>U) H2))) (C5 B5)) ?_
     have u:mkR (bA w) ms ls=none\/∃r,mkR (bA w) ms ls=some r/\vd r=false:=by exact .inr ⟨r,i,by simpa using a⟩
     rw[a5x g hq u]
     rfl
    refine A7<|A3<|A0<|y_M U<|I3 (fs:=[_,_,_]) U U U U U<|G0 U U U U (G6 U (O2 (by decide) (G6 U K9))) (fun _=>U) ⟨by decide,U,dT U,Zd _⟩ (fun _=>U) (fun _=>U) (fun _=>(by rfl)) ?_
    intro z;simp only[K5,Zp,Zj];refine xN [2] [2,9] U<|A9<|C0 (F5 U U U U (E3 U (L6 U U (by simp) (fun _=>U) (J0 U H2))) (C5 B5)) ?_
    rw[c1h g hq i (by simpa using a)]
    rfl
   refine gF U U<|gF U U<|F0 U (by assumption) U U<|xN [2,7,9,73] [2,7,3,9] U ?_
   refine A4 U (fun a=> ?_) (fun a=>absurd a (by decide));refine A3<|A0<|y_B U<|G0 U U U U (G6 U (G6 U (O2 (by decide) K9))) (fun _=>U) ⟨by decide,U,dT U,Zd _⟩ (fun _=>U) (fun _=>U) (fun _=>(by rfl)) ?_
   intro z;simp only[K5,Zp,Zj];refine xN [2] [2,3] U<|A9<|C0 (F5 U U U U (E3 U (E3 U (L6 U U (by simp) (fun _=>U) H2))) (C5 B5)) ?_
   have u:mkR (bA w) ms ls=none\/∃r,mkR (bA w) ms ls=some r/\vd r=false:=by exact .inl (by simpa using j)
   rw[a5x g hq u]
   rfl
  refine gF U U<|gF U U<|E8 U (by assumption) U U<|y_S U<|xN [1,2,3,4,5,6] [1,2,3,6] U<|A0<|y_M U<|y_B U<|B6 (es:=Zw trV [_]) U U (dT U) U U (fun _=>B3 (A6 fun _=>U)) (fun _=>U) ?_
  intro l;refine xA U U U U (by simp) (by simp) U U U U U (fun _=>U) (by simp only[LN];omega) (fun _=>U) ?_;intro m
  (refine xO U U (by simp) U (fun _=>U) (fun _=>U) ?_;intro g3)
  refine xN [1,2,3,4,5] [1,2,3] U<|A0<|y_M U<|D7 U U (B9 (by omega))<|y_S U<|xN [1,2,3,4,5] [1,2,3] U<|H5<|A3<|A3<|A0<|y_M U<|y_F U<|y_L U<|B8 U U<|F4 U U<|xN [1,2,3,4,5,20] [1,2,3] U ?_
  refine A4 U (fun a=>absurd a (by exact fun h=>ZK (show false=true from h))) (fun a=> ?_);refine D6<|A3<|A0<|y_F U<|y_L U<|y_F U<|y_L U<|y_M U<|I3 (fs:=[_,_,_]) U U U U U<|y_A U (fun _=>U) ?_
  intro g7;refine G0 U U U U (G6 U (G6 U (O2 (by decide) K9))) (fun _=>U) ⟨by decide,U,dT U,Zd _⟩ (fun _=>U) (fun _=>U) (fun _=>(by rfl)) ?_;intro z;simp only[K5,Zp,Zj];refine xN [1,2,3,4,7] [1,2,3,7] U<|A3<|A3<|A0<|y_M U<|H8 U<|xN [1,2,3,7,46] [1,2,3,7] U ?_
  refine A4 U (fun a=> ?_) (fun a=>absurd a (by decide));refine A3<|A0<|y_B U<|G0 U U U U (G6 U (G6 U (O2 (by decide) K9))) (fun _=>U) ⟨by decide,U,dT U,Zd _⟩ (fun _=>U) (fun _=>U) (fun _=>(by rfl)) ?_
  intro z;simp only[K5,Zp,Zj];refine xN [2] [2,3] U<|A9<|C0 (F5 U U U U (E3 U (E3 U (L6 U U (by simp) (fun _=>U) H2))) (C5 B5)) ?_
  rw[a6l (.inl fun ns e=>j (by rw[e];rfl))];show _=AV.agg [tV w,.list [],.list [trV (foldP p),trV (foldP q)]]
  rfl
theorem d0u:D9 Tryz.f96=[0,2,1,22,21,23,20,6,7,4,3,41,8,9,51,27,38,50]:=by kernel_rfl
theorem f2a(t:Pl)(b:t.good)(c:t.wf)(v:t.sz<=1000):CW (cxT oG) 96 [trK t]=some (trV (foldP t),[]):=by
 obtain⟨y,m⟩:∃y:Nat,t.sz<y:=⟨_,ZJ _⟩;revert t
 induction y with
 |zero=>intro t b c v m;exact absurd m (Yz _)
 |succ y E=>
  intro t b c v m;refine C7 U Tryz.func96 U ⟨by kernel_rfl,U,dT U,dT U,by decide⟩ d0u<|A3<|A0<|P3 U U U (fun _=>H7 U) (fun _=>U) ?_
  intro g1;rcases t with ns|w|⟨w,p⟩|⟨w,p,q⟩
  ·rw[b8i]
   refine y_A U (fun _=>U) ?_;intro g2;refine xN [1,2] [1,2] U<|A3<|A0<|y_F U<|y_L U<|y_F U<|y_L U<|I3 (fs:=[_,_,_]) U U U U U<|y_A U (fun _=>U) ?_
   intro g3;refine xB U U U U U U U U U<|xN [1,2,3] [1,2,3] U<|A3<|A0<|y_F U<|y_L U<|B8 U U<|M0 U U<|y_S U<|xN [1,2,3,4] [1,2,3] U<|A3<|A3<|A0<|y_F U<|y_L U<|B8 U U<|y_M U<|xN [2,3,4,20,21,22] [2,3] U<|B0<|H5<|A3<|A0<|F4 U U<|xN [2,3,4,20,21,22,23] [2,3] U<|A3 ?_
   refine A4 U (fun a=>absurd a (by decide)) (fun a=> ?_);refine D6<|A3<|A3<|A0<|y_M U<|xN [2,3,41] [2,3] U ?_
   refine A4 U (fun a=>absurd a (by decide)) (fun a=> ?_);refine A7<|A3<|A0<|y_B U<|xB U U U U U U U U U<|xN [2] [2] U<|A9<|C0 (F5 U U U U (E3 U (E3 U (J0 U H2))) (C5 B5)) ?_
   rfl
  ·rw[b8k]
   refine y_A U (fun _=>U) ?_;intro g2;refine xN [1,2] [1,2] U<|A3<|A0<|y_F U<|y_L U<|y_F U<|y_L U<|I3 (fs:=[_,_,_]) U U U U U<|y_A U (fun _=>U) ?_
   intro g3;refine xB U U U U U U U U U<|xN [1,2,3] [1,2,3] U<|A3<|A0<|y_F U<|y_L U<|B8 U U<|M0 U U<|y_S U<|xN [1,2,3,4] [1,2,3] U<|A3<|A3<|A0<|y_F U<|y_L U<|B8 U U<|y_M U<|xN [2,3,4,20,21,22] [2,3] U<|B0<|H5<|A3<|A0<|F4 U U<|xN [2,3,4,20,21,22,23] [2,3] U<|A3 ?_
   refine A4 U (fun a=>absurd a (by decide)) (fun a=> ?_);refine D6<|A3<|A3<|A0<|y_M U<|xN [2,3,41] [2,3] U ?_
   refine A4 U (fun a=>absurd a (by decide)) (fun a=> ?_);refine A7<|A3<|A0<|y_B U<|xB U U U U U U U U U<|xN [2] [2] U<|A9<|C0 (F5 U U U U (E3 U (E3 U (J0 U H2))) (C5 B5)) ?_
   rfl
  ·rw[d0f]
   have x:(Pl.un w p).sz=p.sz+1:=rfl;have F:nd (bA w)=1:=(S8 (by have h:=c.1;omega)).trans c.1;refine y_A U (fun _=>U) ?_;intro g2;refine xN [1,2] [1,2] U<|A3<|A0<|y_F U<|y_L U<|y_F U<|y_L U<|I3 (fs:=[_,_,_]) U U U U U<|y_A U (fun _=>U) ?_
   intro g3;refine xB U U U U U U U U U<|xN [1,2,3] [1,2,3] U<|A3<|A0<|y_F U<|y_L U<|B8 U U<|M0 U U<|y_S U<|xN [1,2,3,4] [1,2,3] U<|A3<|A3<|A0<|y_F U<|y_L U<|B8 U U<|y_M U<|xN [2,3,4,20,21,22] [2,3] U<|B0<|H5<|A3<|A0<|F4 U U<|xN [2,3,4,20,21,22,23] [2,3] U<|A3 ?_
   refine A4 U (fun a=> ?_) (fun a=>absurd a (by exact fun h=>ZK (show true=false from h)));refine A7<|A3<|B0<|A3<|A0<|H9 U U U (fun _=>U) (by show(0:Int)<=0/\(0:Int)<((1:Nat):Int);omega)<|y_I U<|y_A U (fun _=>U) ?_
   intro g6;refine xB U U U U U U U U U<|xN [2,3,4,6,20,21,22] [2,3,6] U<|A3<|A0<|y_B U ?_
   refine xC1 U U ((by have d:=E p b.2.2 c.2 (by omega) (by omega);rw[<-L0]at d;exact d)) ⟨U,U,U⟩ U U fun u=> ?_
   refine y_A U (fun _=>U) ?_;intro g7;refine xB U U U U U U U U U<|xN [2,3,4,7,20,21,22] [2,3,7] U<|A3<|A0<|y_M U<|y_M U<|G2 U U U<|y_F U<|G2 U U U<|y_L U<|G2 U U U<|H1 U U<|F0 U U U U<|y_S U<|xN [2,3,4,7,20,21,22] [2,3,7] U<|A0<|y_F U<|y_L U<|y_B U<|B6 (es:=Zw trV [_]) U U (dT U) U U (fun _=>B3 (A6 fun _=>U)) (fun _=>U) ?_
   intro k;refine U7 U U U (by simp) (by decide) U U U (dT U) (fun _=>⟨U,U⟩) (by simp only[H0];(simp only[Zo,Ze,Zf,ZL,Zi];omega)) (fun _=>U) ?_;intro l;refine y_F U<|O6 U U U U U (Zd _) U<|xN [2,3,4,20,21,22] [2,3,1000038] U<|A0<|D7 U U (B9 (by omega))<|y_M U<|xN [2,3,4,20,21,22] [2,3,1000038] U<|H5<|A3<|A0<|F4 U U<|xN [2,3,4,20,21,22,23] [2,3,1000038] U<|A3 ?_
   refine A4 U (fun a=>absurd a (by exact fun h=>ZK (show false=true from h))) (fun a=> ?_);refine D6<|A3<|A3<|A0<|y_M U<|xN [2,3,41] [2,3,1000038] U ?_
   refine A4 U ?_ ?_<;>intro a<;>try simp only[SL]at a
   ·obtain⟨ms,g,o⟩:=a0e (S7 _ b.2.2) (show(foldP p).op=lW by assumption)
    rw[g];refine A3<|A0<|y_B U ?_
    apply xC U
    ·apply A8
     ·exact e8k (dT U) (e7d (a1u (f0a U U (by simp) (fun _=>U) d0g)))
     apply A8
     ·exact e2q (dT U)
     exact C2
    ·exact(by have d:=d8y (oG:=oG) (.un w (.lst ms)) ⟨b.1,b.2.1,o⟩ ⟨c.1,trivial⟩ [] U (by simp) (by simp);exact d)
    refine⟨⟨U,U,U,dT U,U⟩,.inr ⟨I5 _ _,U⟩,B2,H3 (L1 fun _=>J5 U L3),fun _=>U,fun A=> ?_⟩;simp only[Zi];rw[show runP [] (.un w (.lst ms))=mkR (bA w) ms []from U];refine y_M U<|y_E U<|y_E U ?_
    (refine xO U U (by simp) U (fun _=>U) (fun _=>U) ?_;intro g8)
    refine y_S U<|xN [2,3,8,9] [2,3,1000038,8] U<|A3<|A0<|y_M U<|y_M U ?_
    refine D5 U U ?_ ?_<;>intro f<;>have j:=f<;>try simp only[SG]at j
    ·refine y_M U<|gT U U ?_
     obtain⟨r,i⟩:=ZT.1 (show(mkR (bA w) ms []).isSome=true by assumption);have C:=(Q4.1 (b3d i)).1;rw[i,Option.getD_some];apply xC U
     ·apply A8
      ·exact E7 U U U (by(simp;done)) (fun _=>U)
      exact C2
     ·exact T6 r (by omega)
     refine⟨⟨U,U,U,dT U,U⟩,.inr ⟨U,U⟩,B2,C8 U,fun _=>U,fun B=> ?_⟩;refine F0 U U U U<|xN [2,3,8,51] [2,3,1000038,8] U ?_
     refine A4 U ?_ ?_<;>intro a<;>try simp only[SL]at a
     ·refine A3<|A0<|y_M U<|I3 (fs:=[_,_,_]) U U U U U<|G0 U U U U (G6 U (O2 (by decide) (G6 U K9))) (fun _=>U) ⟨by decide,U,dT U,Zd _⟩ (fun _=>U) (fun _=>U) (fun _=>(by rfl)) ?_
      intro z;simp only[K5,Zp,Zj];refine xN [2] [2,8] U<|A9<|C0 (F5 U U U U (E3 U (L6 U U (by simp) (fun _=>U) (J0 U H2))) (C5 B5)) ?_
      rw[c6h g i (by simpa using a)]
      rfl
     refine A7<|A3<|A0<|y_B U<|G0 U U U U (G6 U (G6 U (a0w (by decide) (by decide) U (by simp) fun _=>K9))) (fun _=>U) ⟨by decide,U,dT U,Zd _⟩ (fun _=>U) (fun _=>U) (fun _=>C6 (by rfl) (C6 (B3 (A6 fun _=>U)) (by rfl))) ?_
     intro z;simp only[K5,Zp,Zj];refine xN [2] [2,300002] U<|A9<|C0 (F5 U U U U (E3 U (E3 U (L6 U U (by simp) (fun _=>U) H2))) (C5 B5)) ?_
     (have s:mkR (bA w) ms []=none\/∃r,mkR (bA w) ms []=some r/\vd r=false:=(by exact .inr ⟨r,i,by simpa using a⟩);rw[a9m g s];rfl)
    refine gF U U<|E8 U (by assumption) U U<|xN [2,3,8,51] [2,3,1000038,8] U ?_
    refine A4 U (fun a=>absurd a (by decide)) (fun a=> ?_);refine A7<|A3<|A0<|y_B U<|G0 U U U U (G6 U (G6 U (a0w (by decide) (by decide) U (by simp) fun _=>K9))) (fun _=>U) ⟨by decide,U,dT U,Zd _⟩ (fun _=>U) (fun _=>U) (fun _=>C6 (by rfl) (C6 (B3 (A6 fun _=>U)) (by rfl))) ?_
    intro z;simp only[K5,Zp,Zj];refine xN [2] [2,300002] U<|A9<|C0 (F5 U U U U (E3 U (E3 U (L6 U U (by simp) (fun _=>U) H2))) (C5 B5)) ?_
    (have s:mkR (bA w) ms []=none\/∃r,mkR (bA w) ms []=some r/\vd r=false:=(by exact .inl (by simpa using j));rw[a9m g s];rfl)
   have n:∀ns,foldP p≠.lst ns:=fun ns e=>a (by rw[e];rfl)
   refine A7<|A3<|A0<|y_B U<|G0 U U U U (G6 U (G6 U (a0w (by decide) (by decide) U (by simp) fun _=>K9))) (fun _=>U) ⟨by decide,U,dT U,Zd _⟩ (fun _=>U) (fun _=>U) (fun _=>C6 (by rfl) (C6 (B3 (A6 fun _=>U)) (by rfl))) ?_
   intro z;simp only[K5,Zp,Zj];refine xN [2] [2,300002] U<|A9<|C0 (F5 U U U U (E3 U (E3 U (L6 U U (by simp) (fun _=>U) H2))) (C5 B5)) ?_
   (rw[c6n n];show _=AV.agg [tV w,.list [],.list [trV (foldP p)]];rfl)
  rw[b7z];have x:(Pl.bin w p q).sz=p.sz+q.sz+1:=rfl;have F:nd (bA w)=2:=(S8 (by have h:=c.1;omega)).trans c.1;refine y_A U (fun _=>U) ?_;intro g2;refine xN [1,2] [1,2] U<|A3<|A0<|y_F U<|y_L U<|y_F U<|y_L U<|I3 (fs:=[_,_,_]) U U U U U<|y_A U (fun _=>U) ?_
  intro g3;refine xB U U U U U U U U U<|xN [1,2,3] [1,2,3] U<|A3<|A0<|y_F U<|y_L U<|B8 U U<|M0 U U<|y_S U<|xN [1,2,3,4] [1,2,3] U<|A3<|A3<|A0<|y_F U<|y_L U<|B8 U U<|y_M U<|xN [2,3,4,20,21,22] [2,3] U<|B0<|H5<|A3<|A0<|F4 U U<|xN [2,3,4,20,21,22,23] [2,3] U<|A3 ?_
  refine A4 U (fun a=> ?_) (fun a=>absurd a (by exact fun h=>ZK (show true=false from h)));refine A7<|A3<|B0<|A3<|A0<|H9 U U U (fun _=>U) (by show(0:Int)<=0/\(0:Int)<((2:Nat):Int);omega)<|y_I U<|y_A U (fun _=>U) ?_
  intro g6;refine xB U U U U U U U U U<|xN [2,3,4,6,20,21,22] [2,3,6] U<|A3<|A0<|y_B U ?_
  refine xC1 U U ((by have d:=E p b.2.2.1 c.2.1 (by omega) (by omega);rw[<-L0]at d;exact d)) ⟨U,U,U⟩ U U fun u=> ?_
  refine y_A U (fun _=>U) ?_;intro g7;refine xB U U U U U U U U U<|xN [2,3,4,7,20,21,22] [2,3,7] U<|A3<|A0<|y_M U<|y_M U<|G2 U U U<|y_F U<|G2 U U U<|y_L U<|G2 U U U<|H1 U U<|F0 U U U U<|y_S U<|xN [2,3,4,7,20,21,22] [2,3,7] U<|A0<|y_F U<|y_L U<|y_B U<|B6 (es:=Zw trV [_]) U U (dT U) U U (fun _=>B3 (A6 fun _=>U)) (fun _=>U) ?_
  intro k;refine U7 U U U (by simp) (by decide) U U U (dT U) (fun _=>⟨U,U⟩) (by simp only[H0];(simp only[Zo,Ze,Zf,ZL,Zi];omega)) (fun _=>U) ?_;intro l;refine y_F U<|O6 U U U U U (Zd _) U<|xN [2,3,4,20,21,22] [2,3,1000038] U<|A0<|D7 U U (B9 (by omega))<|y_M U<|xN [2,3,4,20,21,22] [2,3,1000038] U<|H5<|A3<|A0<|F4 U U<|xN [2,3,4,20,21,22,23] [2,3,1000038] U<|A3 ?_
  refine A4 U (fun a=> ?_) (fun a=>absurd a (by exact fun h=>ZK (show true=false from h)));refine A7<|A3<|B0<|A3<|A0<|H9 U U U (fun _=>U) (by show(0:Int)<=1/\(1:Int)<((2:Nat):Int);omega)<|y_I U<|y_A U (fun _=>U) ?_
  intro g6;refine xB U U U U U U U U U<|xN [2,3,4,6,20,21,22] [2,3,1000038,6] U<|A3<|A0<|y_B U ?_
  refine xC1 U U ((by have d:=E q b.2.2.2 c.2.2 (by omega) (by omega);rw[<-L0]at d;exact d)) ⟨U,U,U⟩ U U fun u=> ?_
  refine y_A U (fun _=>U) ?_;intro g7;refine xB U U U U U U U U U<|xN [2,3,4,7,20,21,22] [2,3,1000038,7] U<|A3<|A0<|y_M U<|y_M U ?_
  refine D5 U U ?_ ?_<;>intro f<;>have j:=f<;>try simp only[SG]at j
  ·refine y_F U<|gT U U<|y_L U<|gT U U<|H1 U U<|F0 U (by assumption) U U<|y_S U<|xN [2,3,4,7,20,21,22] [2,3,1000038,7] U<|A0<|y_F U<|y_L U<|y_B U<|B6 (es:=Zw trV [_]) U U (dT U) U U (fun _=>B3 (A6 fun _=>U)) (fun _=>U) ?_
   intro k;refine xA U U U U (by simp) (by simp) U U U U U (fun _=>U) (by simp only[LN];omega) (fun _=>U) ?_;intro l;refine y_F U<|O6 U U U U U (Zd _) U<|xN [2,3,4,20,21,22] [2,3,1000038] U<|A0<|D7 U U (B9 (by omega))<|y_M U<|xN [2,3,4,20,21,22] [2,3,1000038] U<|H5<|A3<|A0<|F4 U U<|xN [2,3,4,20,21,22,23] [2,3,1000038] U<|A3 ?_
   refine A4 U (fun a=>absurd a (by exact fun h=>ZK (show false=true from h))) (fun a=> ?_);refine D6<|A3<|A3<|A0<|y_M U<|xN [2,3,41] [2,3,1000038] U ?_
   refine A4 U ?_ ?_<;>intro a<;>try simp only[SL]at a
   ·obtain⟨ms,g,o⟩:=a0e (S7 _ b.2.2.1) (show(foldP p).op=lW by assumption)
    rw[g];obtain⟨ls,hq,D⟩:=a0e (S7 _ b.2.2.2) (show(foldP q).op=lW by assumption);rw[hq];refine A3<|A0<|y_B U ?_
    apply xC U
    ·apply A8
     ·exact e8k (dT U) (e7d (a1u (f0a U U (by simp) (fun _=>U) d0g)))
     apply A8
     ·exact e2q (dT U)
     exact C2
    ·exact(by have d:=d8y (oG:=oG) (.bin w (.lst ms) (.lst ls)) ⟨b.1,b.2.1,o,D⟩ ⟨c.1,trivial,trivial⟩ [] U (by simp) (by simp);exact d)
    refine⟨⟨U,U,U,dT U,U⟩,.inr ⟨I5 _ _,U⟩,B2,H3 (L1 fun _=>J5 U L3),fun _=>U,fun A=> ?_⟩;simp only[Zi];rw[show runP [] (.bin w (.lst ms) (.lst ls))=mkR (bA w) ms ls from U];refine y_M U<|y_E U<|y_E U ?_
    (refine xO U U (by simp) U (fun _=>U) (fun _=>U) ?_;intro g8)
    refine y_S U<|xN [2,3,8,9] [2,3,1000038,8] U<|A3<|A0<|y_M U<|y_M U ?_
    refine D5 U U ?_ ?_<;>intro f<;>have j:=f<;>try simp only[SG]at j
    ·refine y_M U<|gT U U ?_
     obtain⟨r,i⟩:=ZT.1 (show(mkR (bA w) ms ls).isSome=true by assumption);have C:=(Q4.1 (b3d i)).1;rw[i,Option.getD_some];apply xC U
     ·apply A8
      ·exact E7 U U U (by(simp;done)) (fun _=>U)
      exact C2
     ·exact T6 r (by omega)
     refine⟨⟨U,U,U,dT U,U⟩,.inr ⟨U,U⟩,B2,C8 U,fun _=>U,fun B=> ?_⟩;refine F0 U U U U<|xN [2,3,8,51] [2,3,1000038,8] U ?_
     refine A4 U ?_ ?_<;>intro a<;>try simp only[SL]at a
     ·refine A3<|A0<|y_M U<|I3 (fs:=[_,_,_]) U U U U U<|G0 U U U U (G6 U (O2 (by decide) (G6 U K9))) (fun _=>U) ⟨by decide,U,dT U,Zd _⟩ (fun _=>U) (fun _=>U) (fun _=>(by rfl)) ?_
      intro z;simp only[K5,Zp,Zj];refine xN [2] [2,8] U<|A9<|C0 (F5 U U U U (E3 U (L6 U U (by simp) (fun _=>U) (J0 U H2))) (C5 B5)) ?_
      rw[c1h g hq i (by simpa using a)]
      rfl
     refine A7<|A3<|A0<|y_B U<|G0 U U U U (G6 U (G6 U (a0w (by decide) (by decide) U (by simp) fun _=>K9))) (fun _=>U) ⟨by decide,U,dT U,Zd _⟩ (fun _=>U) (fun _=>U) (fun _=>C6 (by rfl) (C6 (B3 (A6 fun _=>U)) (by rfl))) ?_
     intro z;simp only[K5,Zp,Zj];refine xN [2] [2,300002] U<|A9<|C0 (F5 U U U U (E3 U (E3 U (L6 U U (by simp) (fun _=>U) H2))) (C5 B5)) ?_
     (have s:mkR (bA w) ms ls=none\/∃r,mkR (bA w) ms ls=some r/\vd r=false:=(by exact .inr ⟨r,i,by simpa using a⟩);rw[a5x g hq s];rfl)
    refine gF U U<|E8 U (by assumption) U U<|xN [2,3,8,51] [2,3,1000038,8] U ?_
    refine A4 U (fun a=>absurd a (by decide)) (fun a=> ?_);refine A7<|A3<|A0<|y_B U<|G0 U U U U (G6 U (G6 U (a0w (by decide) (by decide) U (by simp) fun _=>K9))) (fun _=>U) ⟨by decide,U,dT U,Zd _⟩ (fun _=>U) (fun _=>U) (fun _=>C6 (by rfl) (C6 (B3 (A6 fun _=>U)) (by rfl))) ?_
    intro z;simp only[K5,Zp,Zj];refine xN [2] [2,300002] U<|A9<|C0 (F5 U U U U (E3 U (E3 U (L6 U U (by simp) (fun _=>U) H2))) (C5 B5)) ?_
    (have s:mkR (bA w) ms ls=none\/∃r,mkR (bA w) ms ls=some r/\vd r=false:=(by exact .inl (by simpa using j));rw[a5x g hq s];rfl)
   have n:(∀ns,foldP p≠.lst ns)\/∀ns,foldP q≠.lst ns:= .inr fun ns e=>a (by rw[e];rfl)
   refine A7<|A3<|A0<|y_B U<|G0 U U U U (G6 U (G6 U (a0w (by decide) (by decide) U (by simp) fun _=>K9))) (fun _=>U) ⟨by decide,U,dT U,Zd _⟩ (fun _=>U) (fun _=>U) (fun _=>C6 (by rfl) (C6 (B3 (A6 fun _=>U)) (by rfl))) ?_
   intro z;simp only[K5,Zp,Zj];refine xN [2] [2,300002] U<|A9<|C0 (F5 U U U U (E3 U (E3 U (L6 U U (by simp) (fun _=>U) H2))) (C5 B5)) ?_
   ((rw[a6l n]);show _=AV.agg [tV w,.list [],.list [trV (foldP p),trV (foldP q)]];rfl)
  refine gF U U<|gF U U<|E8 U (by assumption) U U<|y_S U<|xN [2,3,4,7,20,21,22] [2,3,1000038,7] U<|A0<|y_F U<|y_L U<|y_B U<|B6 (es:=Zw trV [_]) U U (dT U) U U (fun _=>B3 (A6 fun _=>U)) (fun _=>U) ?_
  intro k;refine xA U U U U (by simp) (by simp) U U U U U (fun _=>U) (by simp only[LN];omega) (fun _=>U) ?_;intro l;refine y_F U<|O6 U U U U U (Zd _) U<|xN [2,3,4,20,21,22] [2,3,1000038] U<|A0<|D7 U U (B9 (by omega))<|y_M U<|xN [2,3,4,20,21,22] [2,3,1000038] U<|H5<|A3<|A0<|F4 U U<|xN [2,3,4,20,21,22,23] [2,3,1000038] U<|A3 ?_
  refine A4 U (fun a=>absurd a (by exact fun h=>ZK (show false=true from h))) (fun a=> ?_);refine D6<|A3<|A3<|A0<|y_M U<|xN [2,3,41] [2,3,1000038] U ?_
  refine A4 U (fun a=>absurd a (by decide)) (fun a=> ?_);refine A7<|A3<|A0<|y_B U<|G0 U U U U (G6 U (G6 U (a0w (by decide) (by decide) U (by simp) fun _=>K9))) (fun _=>U) ⟨by decide,U,dT U,Zd _⟩ (fun _=>U) (fun _=>U) (fun _=>C6 (by rfl) (C6 (B3 (A6 fun _=>U)) (by rfl))) ?_
  intro z;simp only[K5,Zp,Zj];refine xN [2] [2,300002] U<|A9<|C0 (F5 U U U U (E3 U (E3 U (L6 U U (by simp) (fun _=>U) H2))) (C5 B5)) ?_
  ((rw[a6l (.inl fun ns e=>j (by rw[e];rfl))]);show _=AV.agg [tV w,.list [],.list [trV (foldP p),trV (foldP q)]];rfl)
theorem b6r:D9 Tryz.f70=[0,2,4,11,3,7]:=by kernel_rfl
theorem d7n(t:Pl)(a:t.good)(b:t.wf)(h:t.sz<=16):CW (cxT oG) 70 [tV (showP t)]=some (tV (showP (foldP t)),[]):=by
 have d:=S7 t a;have e:=b2n t b;have j:=c6u t;have l:=V9 b a;have k:=V9 e d;obtain⟨f,g⟩:=f1l b a h;refine C7 U Tryz.func70 U ⟨by kernel_rfl,U,dT U,dT U,by decide⟩ b6r<|A3<|A0<|y_S U<|xN [0] [] U<|A3<|A0<|y_M U ?_
 apply xC U
 ·apply A8
  ·exact B1 U
  exact C2
 ·exact(by have c:=b5r (oG:=oG) (showP t) (by omega);rw[f,g]at c;exact c)
 refine⟨⟨U,U,U,dT U,U⟩,.inl U,B2,J2 U,fun _=>U,fun g7=> ?_⟩;refine y_M U<|y_E U<|y_E U<|y_A U (fun _=>U) ?_
 intro g3;refine xB U U U U U U U U U<|y_S U<|xN [0,3,4] [3] U<|A3<|A3<|A0<|y_M U<|H8 U<|xN [0,3,11] [3] U ?_
 refine A4 U (fun i=>absurd i (by decide)) (fun i=> ?_);refine A7<|A3<|A0<|y_B U ?_
 refine xC1 U U ((by have c:=f2a (oG:=oG) t a b (by omega);rw[<-L0]at c;exact c)) ⟨U,U,U⟩ U U fun g14=> ?_
 refine xC1 U U ((by have c:=f6b (oG:=oG) (foldP t) (by omega) d;rw[<-L0]at c;exact c)) ⟨U,U,U⟩ U U fun g15=> ?_
 refine y_S U<|xN [2] [] U<|A9<|C4 U U trivial ?_
 rfl
theorem c1k:D9 Tryz.f27=[0,2,1,3,11,6]:=by kernel_rfl
theorem c4y(t:Pl)(m:t.good)(p:t.wf)(w:t.sz<=16):CW (cxT oG) 27 [trK t]=some (trV (a7h t),[]):=by
 refine C7 U Tryz.func27 U ⟨by kernel_rfl,U,dT U,dT U,by decide⟩ c1k<|A3<|A0<|P3 U U U (fun _=>H7 U) (fun _=>U) ?_
 intro g1;refine y_A U (fun _=>U) ?_;intro g2;refine xN [1,2] [1,2] U<|B0 ?_
 rw[<-L0];refine D8 (β:=Pl) [(.t 1,_),(.t 2,_),(.h 2,_)] (fun(u:Pl)=>[(.h 1,.obj g1 3 3 [trV u])]) (fun(u:Pl)=>u.sz<=t.sz/\u.good/\u.wf/\a7h u=a7h t) (fun(u:Pl)=>u.sz) t ⟨U,U,U,U,trivial⟩ ⟨Zd _,m,p,U⟩ ?_;intro u q;obtain⟨x,b,a,j⟩:=q;refine B0<|A3<|A0<|y_B U ?_
 have o:=c9h a;have n:=b3m a b;have v:(normP u).sz<=u.sz:=by rcases c1a a with h|h;(·omega);(·rw[h];exact Zd _)
 have f:=a7c a;have d:=b1d a b;have l:=c6u (normP u);have r:=V9 a b;have s:=V9 f d;have g:stepB u=foldP (normP u):=rfl;refine xC1 U U ((by have c:=e5s (oG:=oG) u (by omega) b a;rw[<-L0]at c;exact c)) ⟨U,U,U⟩ U U fun g5=> ?_
 refine xC1 U U ((by have c:=f2r (oG:=oG) (normP u) n o (by omega);rw[<-L0]at c;exact c)) ⟨U,U,U⟩ U U fun g6=> ?_
 refine y_A U (fun _=>U) ?_;intro g3;refine xB U U U U U U U U U<|xN [1,2,3] [1,2,3] U<|A3<|A3<|A0<|y_B U ?_
 refine xC1 U U ((by have c:=a6o (oG:=oG) (foldP (normP u)) (by rw[<-g];rw[<-g]at l;omega) d;rw[<-L0]at c;exact c)) ⟨U,U,U⟩ U U fun g8=> ?_
 refine y_B U ?_;refine xC1 U U ((by have c:=a6o (oG:=oG) u (by omega) b;rw[<-L0]at c;exact c)) ⟨U,U,U⟩ U U fun g10=> ?_
 refine H1 U U ?_;refine G7 ⟨fun _=>⟨by(simp only[V5,Zj,Zm,Zz,Ya,Zp];decide+kernel),by decide+kernel⟩,[(.t 1,_),(.t 2,_),(.t 3,_),(.t 11,_),(.h 1,_),(.h 2,_),(.h 3,_)],⟨U,U,U,U,U,U,U,U,U,U,U,U,U,U,trivial⟩,?_⟩;refine A4 U ?_ ?_<;>intro k<;>try simp only[SL]at k
 ·refine A3<|A0<|y_B U<|xB U U U U U U U U U<|xN [2] [2] U<|A9<|C0 (F5 U U U U (E3 U (E3 U (E3 U H2))) (C5 B5)) ?_
  rw[<-j,e1i (d6h f d a b k)]
  rfl
 have i:stepB u≠u:=fun e=>k (by rw[<-g,e])
 have hlt:(stepB u).sz<u.sz:=(a8s a).resolve_right fun e=>i (a7a e)
 refine A7<|A0<|y_B U<|xB U U U U U U U U U<|xN [1,2] [1,2] U ?_
 refine⟨(stepB u),⟨by omega,d,f,by rw[<-j];exact(d3n a i).symm⟩,(by omega),⟨U,U,U,U,trivial⟩⟩
theorem b0r:D9 Tryz.f45=[0,2,6,3,12]:=by kernel_rfl
theorem c3f(s:List UInt8)(w:s.length<=1048576):CW (cxT (some rG)) 45 [tV s]=some (tV (c7m s),[]):=by
 refine C7 U Tryz.func45 U ⟨by kernel_rfl,U,dT U,dT U,by decide⟩ b0r<|A3<|A0<|y_S U<|xN [0] [] U<|A3<|A3<|A0<|y_M U ?_
 refine xC1 U U (b1m s w) ⟨U,U,U⟩ U U fun g5=> ?_
 refine H8 U<|xN [0,6] [] U ?_
 refine A4 U ?_ ?_<;>intro c<;>try simp only[SL]at c
 ·refine A3<|A0<|y_S U<|xN [2] [] U<|A9<|C4 U U trivial ?_
  rw[b3r c]
  rfl
 obtain⟨t,i,z,A⟩:=a6h c;obtain⟨o,p,k,x,y⟩:=Z9 i;rw[a4w i];refine A7<|B0 ?_
 subst o;refine a5t (β:=Pl) (fun(u:Pl)=>[(.t 0,tV (showP u))]) (fun(u:Pl)=>u.sz<=t.sz/\u.good/\u.wf/\a7h u=a7h t) (fun(u:Pl)=>u.sz) t ⟨U,trivial⟩ ⟨Zd _,k,p,U⟩ ?_;intro u q;obtain⟨B,b,a,j⟩:=q;refine B0<|A3<|A0<|y_M U ?_
 have m:=c9h a;have l:=b3m a b;have v:(normP u).sz<=u.sz:=by rcases c1a a with h|h;(·omega);(·rw[h];exact Zd _)
 have f:=a7c a;have d:=b1d a b;have r:=V9 a b;have n:stepB u=foldP (normP u):=rfl;refine xC1 U U (e5x u a (by omega) (by omega)) ⟨U,U,U⟩ U U fun g8=> ?_
 refine xC1 U U (d7n (normP u) l m (by omega)) ⟨U,U,U⟩ U U fun g9=> ?_
 refine y_S U<|xN [0,3] [] U<|A3<|A3<|A0<|y_M U<|y_M U<|H1 U U<|xN [0,3,12] [] U ?_
 refine A4 U ?_ ?_<;>intro c<;>try simp only[SL]at c
 ·refine A3<|A0<|y_M U<|y_S U<|xN [2] [] U<|A9<|C4 U U trivial ?_
  rw[<-j,e1i (d6h f d a b c)]
 have g:stepB u≠u:=fun e=>c (by rw[<-n,e])
 have hlt:(stepB u).sz<u.sz:=(a8s a).resolve_right fun e=>g (a7a e)
 refine A7<|A0<|y_M U<|y_S U<|xN [0] [] U ?_
 refine⟨(stepB u),⟨by omega,d,f,by rw[<-j];exact(d3n a g).symm⟩,(by omega),⟨U,trivial⟩⟩
theorem c4s:D9 Tryz.f108=[0,2,3]:=by kernel_rfl
theorem e7n(xs:List Int)(a:xs.length<=H0):CW (cxT oG) 108 [L xs]=some (.own 1 ((T3 xs).map iV),[]):=by
 refine C7 U Tryz.func108 U ⟨by kernel_rfl,U,dT U,dT U,by decide⟩ c4s<|A3<|A0 ?_
 (refine B4 U U (fun _=>U) ?_;intro g2)
 refine xN [0] [] U<|A3<|A0<|y_M U ?_
 apply xC U
 ·apply A8
  ·exact B1 U
  exact C2
 ·exact d1f xs a
 refine⟨⟨U,U,U,dT U,U⟩,.inl U,B2,H4,fun _=>U,fun g5=> ?_⟩
 (refine xO U U (by simp) U (fun _=>U) (fun _=>U) ?_;intro g3)
 refine xN [3] [3] U<|A3<|A0<|y_M U ?_
 apply a1h U
 ·apply A8
  ·exact a4x U U (by decide) (by(simp;done)) (V1 fun _=>U)
  exact C2
 ·exact e7a _ a
 ·exact⟨U,U,U,dT U,U⟩
 ·exact .inl U
 ·exact G9 U (by simp) (a5r _ _) B2
 ·exact J2 U
 ·(intro _;exact C6 (B3 (A6 fun _=>U)) U)
 intro g7;refine xN [3] [3] U<|A3<|A0<|y_M U ?_
 (refine xO U U (by simp) U (fun _=>U) (fun _=>U) ?_;intro g2)
 refine xN [2] [2] U<|A9<|J3 U U (by(simp;done)) (by exact A6 fun _=>U) trivial ?_
 rfl
theorem c1g:D9 Tryz.f79=[0,2,3,4]:=by kernel_rfl
theorem e4y(l:List Int)(e:1<=l.length/\l.length<=1000)(a:∀x∈l,-100000<=x/\x<=100000):CW (cxT oG) 79 [L l]=some (iV (mdI l),[]):=by
 have d:=R6 l;have b:=a _ ((T5 l).mem_iff.1 (N3 (xs:=T3 l) (i:=(l.length-1)/2) (by omega)));have c:=a _ ((T5 l).mem_iff.1 (N3 (xs:=T3 l) (i:=l.length/2) (by omega)));refine C7 U Tryz.func79 U ⟨by kernel_rfl,U,dT U,dT U,by decide⟩ c1g<|A3<|A0<|y_S U<|xN [0] [] U<|A3<|A0<|y_M U ?_
 apply xC U
 ·apply A8
  ·exact B1 U
  exact C2
 ·exact e7n l (by simp only[H0];omega)
 refine⟨⟨U,U,U,dT U,U⟩,.inl U,B2,H4,fun _=>U,fun g6=> ?_⟩;simp only[Zi,R6]
 (refine xO U U (by simp) U (fun _=>U) (fun _=>U) ?_;intro g3)
 refine xN [3] [3] U<|A3<|A0<|y_M U<|G8 U U<|y_S U<|xN [3,4] [3] U<|A3<|A0<|y_M U<|y_M U<|J7 U U (B9 (by omega)) ?_
 rw[show((l.length:Int)-1)=((l.length-1:Nat):Int) by omega];refine a1a U U ⟨by omega,B9 (by rw[d2l];omega)⟩ ?_;rw[d2l];refine C9 U U U U (by omega) (by(simp;done)) U<|E6 U U (by omega) (fun _=>U) (fun _=>U) U<|y_M U<|y_M U<|a1a U U ⟨by omega,B9 (by rw[d2l];omega)⟩ ?_
 rw[d2l];refine C9 U U U U (by omega) (by(simp;done)) U<|E6 U U (by omega) (fun _=>U) (fun _=>U) U<|D7 U U (B9 (by omega))<|y_S U ?_
 refine G7 ⟨fun _=>⟨by decide+kernel,by decide+kernel⟩,[(.t 2,_)],⟨U,U,trivial⟩,?_⟩;refine A9<|C4 U U trivial ?_
 rfl
theorem b9o:D9 Tryz.f33=[0,2,3,4]:=by kernel_rfl
theorem e4i(l:List Int)(e:1<=l.length/\l.length<=1000)(a:∀x∈l,-100000<=x/\x<=100000):CW (cxT oG) 33 [L l]=some (iV (mdI l),[]):=by
 have d:=R6 l;have b:=a _ ((T5 l).mem_iff.1 (N3 (xs:=T3 l) (i:=(l.length-1)/2) (by omega)));have c:=a _ ((T5 l).mem_iff.1 (N3 (xs:=T3 l) (i:=l.length/2) (by omega)));refine C7 U Tryz.func33 U ⟨by kernel_rfl,U,dT U,dT U,by decide⟩ b9o<|A3<|A0<|y_S U<|xN [0] [] U<|A3<|A0<|y_M U ?_
 apply xC U
 ·apply A8
  ·exact B1 U
  exact C2
 ·exact c5s l (by omega)
 refine⟨⟨U,U,U,dT U,U⟩,.inl U,B2,H4,fun _=>U,fun g6=> ?_⟩;simp only[Zi,R6]
 (refine xO U U (by simp) U (fun _=>U) (fun _=>U) ?_;intro g3)
 refine xN [3] [3] U<|A3<|A0<|y_M U<|G8 U U<|y_S U<|xN [3,4] [3] U<|A3<|A0<|y_M U<|y_M U<|J7 U U (B9 (by omega)) ?_
 rw[show((l.length:Int)-1)=((l.length-1:Nat):Int) by omega];refine a1a U U ⟨by omega,B9 (by rw[d2l];omega)⟩ ?_;rw[d2l];refine C9 U U U U (by omega) (by(simp;done)) U<|E6 U U (by omega) (fun _=>U) (fun _=>U) U<|y_M U<|y_M U<|a1a U U ⟨by omega,B9 (by rw[d2l];omega)⟩ ?_
 rw[d2l];refine C9 U U U U (by omega) (by(simp;done)) U<|E6 U U (by omega) (fun _=>U) (fun _=>U) U<|D7 U U (B9 (by omega))<|y_S U ?_
 refine G7 ⟨fun _=>⟨by decide+kernel,by decide+kernel⟩,[(.t 2,_)],⟨U,U,trivial⟩,?_⟩;refine A9<|C4 U U trivial ?_
 rfl
theorem c9g:D9 Tryz.f84=[0,2,3,11,15,14,16,20,19,21,18,7,5,29,8,6,39,4]:=by kernel_rfl
theorem f3v(l:List Int)(A:l.length<=1000):CW (cxT oG) 84 [L l]=some (.tup [iV (flX l).1,iV (flX l).2],[]):=by
 refine C7 U Tryz.func84 U ⟨by kernel_rfl,U,dT U,dT U,by decide⟩ c9g<|A3<|A0<|y_S U<|y_S U<|xN [0] [] U<|A3<|A3<|A0<|y_M U ?_
 refine xC1 U U (T6 l (by omega)) ⟨U,U,U⟩ U U fun g10=> ?_
 refine H8 U<|xN [0,11] [] U ?_
 refine A4 U ?_ ?_<;>intro a<;>try simp only[SL]at a
 ·refine A3<|A0<|y_S U<|y_S U<|xN [2,3] [] U<|A9<|C0 (D3 U U (D3 U U (C5 B5))) ?_
  (rw[d8d (by simp_all)];rfl)
 have d:vd l=true:=by simp_all
 obtain⟨j,f⟩:l.length<=10/\a1c (-200) 200 l=true:=by simpa[vd]using d
 have h:=fun i=>e0y f (by decide) i
 have q:2^l.length<=1024:=Yg (YJ (by decide) j) (by decide);obtain⟨Z,e⟩:∃Z,Z=2^l.length:=⟨_,U⟩;rw[<-e]at q;have r:=b9q d;refine A7<|A3<|A0<|y_S U<|xN [0,4] [] U<|A3<|A3<|A0<|y_M U<|B8 U U<|e9n (x:=1) (y:=l.length) U U ⟨by omega,by rw[<-e];omega⟩ ?_
 rw[<-e,Nat.one_mul];refine y_M U<|xN [0,4,14,15] [] U<|B0<|D8 (β:=Nat×Nat) [(.t 0,_),(.t 14,_)] (fun(z:Nat×Nat)=>match z with|(S,m)=>[(.t 15,nV S),(.t 4,nV m)]) (fun(z:Nat×Nat)=>match z with|(S,m)=>S<=Z/\Fst l S m) (fun(z:Nat×Nat)=>match z with|(S,m)=>Z-S) (0,0) ⟨U,U,U,U,trivial⟩ ⟨Zv _,e6m⟩ ?_
 intro z g;obtain⟨S,m⟩:=z
 try dsimp only at g
 obtain⟨u,b⟩:=g;have w:=f5o b;refine A3<|A0<|F4 U U<|xN [0,4,14,15,16] [] U<|A3 ?_
 refine A4 U ?_ ?_<;>intro a<;>try simp only[SL]at a
 ·refine A7<|A3<|B0<|A3<|A0<|y_M U<|y_S U<|xN [0,4,5,14,15] [] U<|A3<|A0<|y_S U<|xN [0,4,5,6,14,15] [] U<|A3<|A3<|A0<|y_M U<|B8 U U<|y_M U<|xN [0,4,5,6,14,15,18,19,20] [] U<|B0<|D8 (β:=Nat×Int) [(.t 0,_),(.t 4,_),(.t 5,_),(.t 14,_),(.t 15,_),(.t 18,_),(.t 19,_)] (fun(z:Nat×Int)=>match z with|(i,n)=>[(.t 20,nV i),(.t 6,iV n)]) (fun(z:Nat×Int)=>match z with|(i,n)=>i<=l.length/\n=sgP l S i) (fun(z:Nat×Int)=>match z with|(i,n)=>l.length-i) (0,0) ⟨U,U,U,U,U,U,U,U,U,trivial⟩ ⟨Zv _,U⟩ ?_
  intro z g;obtain⟨i,n⟩:=z
  try dsimp only at g
  obtain⟨o,k⟩:=g;have v:=h i;have p:=e8d (S:=S) (fun i _=>h i) i o;rw[<-k]at p;refine A3<|A0<|F4 U U<|xN [0,4,5,6,14,15,18,19,20,21] [] U<|A3 ?_
  refine A4 U ?_ ?_<;>intro a<;>try simp only[SL]at a
  ·refine A7<|A3<|B0<|A3<|A0<|y_M U<|B7 U U U (fun _=>U) (by omega)<|y_I U<|y_S U<|y_S U<|xN [0,4,5,6,7,8,14,15,18,19,20] [] U<|A3<|A3<|A0<|y_M U<|y_M U<|f4n (x:=S) (y:=i) U U (by omega)<|f5x U U (Nat.lt_of_le_of_lt (Nat.div_le_self S _) (by omega))<|K6 U U<|xN [0,4,5,6,8,14,15,18,19,20,29] [] U ?_
   refine A4 U ?_ ?_<;>intro a<;>try simp only[SL]at a
   ·have c:=f7i a
    refine A0<|y_M U<|a4z U (B9 (by omega))<|y_S U<|xN [0,4,5,6,8,14,15,18,19,20] [] U<|A0<|y_M U<|y_M U<|D7 U U (B9 (by omega))<|y_S U<|xN [0,4,5,6,14,15,18,19,20] [] U<|A0<|D7 U U (B9 (by omega))<|y_M U<|xN [0,4,5,6,14,15,18,19,20] [] U ?_
    refine⟨(i+1,n+ -(l.getD i default)),?_,(by simp only;omega),⟨U,U,U,U,U,U,U,U,U,trivial⟩⟩;exact⟨by omega,by rw[c1x (by omega),if_pos c,<-k]⟩
   have c:=f7c a;refine A7<|A0<|y_M U<|y_M U<|D7 U U (B9 (by omega))<|y_S U<|xN [0,4,5,6,14,15,18,19,20] [] U<|A0<|D7 U U (B9 (by omega))<|y_M U<|xN [0,4,5,6,14,15,18,19,20] [] U ?_
   refine⟨(i+1,n+l.getD i default),?_,(by simp only;omega),⟨U,U,U,U,U,U,U,U,U,trivial⟩⟩;exact⟨by omega,by rw[c1x (by omega),if_neg (by simp[c]),<-k]⟩
  refine D6<|A3<|A0<|y_M U<|y_M U ?_
  refine xC1 U U (e8a l r) ⟨U,U,U⟩ U U fun s=> ?_
  refine c0r U U<|xN [0,4,14,15,39] [] U ?_
  refine A4 U ?_ ?_<;>intro a<;>try simp only[SL]at a
  ·refine A0<|y_M U<|D7 U U (B9 (by omega))<|y_S U<|xN [0,4,14,15] [] U<|A0<|D7 U U (B9 (by omega))<|y_M U<|xN [0,4,14,15] [] U ?_
   refine⟨(S+1,m+1),?_,(by simp only;omega),⟨U,U,U,U,trivial⟩⟩;exact⟨by omega,f2s b (by rw[<-show i=l.length by omega,<-k];omega)⟩
  refine A7<|A0<|D7 U U (B9 (by omega))<|y_M U<|xN [0,4,14,15] [] U ?_
  refine⟨(S+1,m),?_,(by simp only;omega),⟨U,U,U,U,trivial⟩⟩;exact⟨by omega,f5c b (by rw[<-show i=l.length by omega,<-k];omega)⟩
 refine D6<|A3<|A0<|y_M U<|y_M U<|B8 U U<|e9n (x:=1) (y:=l.length) U U ⟨by omega,by rw[<-e];omega⟩ ?_
 rw[<-e,Nat.one_mul];refine y_S U<|y_S U ?_
 refine G7 ⟨fun _=>⟨by decide+kernel,by decide+kernel⟩,[(.t 2,_),(.t 3,_)],⟨U,U,U,U,trivial⟩,?_⟩;refine A9<|C0 (D3 U U (D3 U U (C5 B5))) ?_
 (rw[c9b d,<-f2z b (by omega),<-e];rfl)
theorem d0v:D9 Tryz.f62=[0,1,4,7,9]:=by kernel_rfl
theorem f3i(l:List Int)(s:Int)(e:l.length<=10)(c:∀x∈l,-200<=x/\x<=200)(f:s+200*l.length<=100000/\-100000<=s-200*l.length):CW (cxT oG) 62 [L l,iV s]=some (nV (flN l s),[]):=by
 obtain⟨g,a⟩:∃g:Nat,l.length<g:=⟨_,ZJ _⟩;revert l s
 induction g with
 |zero=>intro l s e c f a;exact absurd a (Yz _)
 |succ g j=>
  intro l s e c f a;refine C7 U Tryz.func62 U ⟨by kernel_rfl,U,dT U,dT U,by decide⟩ d0v<|A3<|A0<|y_S U<|xN [0,1] [] U<|A3<|A3<|A0 ?_
  rcases l with _|⟨v,l⟩
  ·skip
   refine y_M U<|B8 U U<|K6 U U<|xN [0,1,7] [] U ?_
   refine A4 U (fun b=> ?_) (fun b=>absurd b (by decide));refine A3<|A3<|A0<|y_M U<|a2q U U<|xN [9] [] U ?_
   refine A4 U ?_ ?_<;>intro b<;>try simp only[SL]at b
   ·refine A3<|A0<|y_S U<|xN [4] [] U<|A9<|C4 U U trivial ?_
    (rw[flN,if_pos (by assumption)];rfl)
   refine A7<|A3<|A0<|y_S U<|xN [4] [] U<|A9<|C4 U U trivial ?_
   (rw[flN,if_neg (by omega)];rfl)
  have p:=c v (List.mem_cons_self ..);have d:=fun s=>d0b l s
  have o:2^l.length<=1024:=Yg (YJ (by decide) (show l.length<=10 by simp only[Ze]at e;omega)) (by decide);have m:=d (s-v);have n:=d (s+v);refine y_M U<|B8 U U<|K6 U U<|xN [0,1,7] [] U ?_
  refine A4 U (fun b=>absurd b (by exact fun h=>ZK (show false=true from h))) (fun b=> ?_);refine A7<|A3<|A0<|y_M U<|N7 U U U (Mv.sized_map fun _=>U) I2 (G1 U) (by(simp;done))<|y_M U<|y_M U<|B7 U U U (fun _=>U) (by(simp;done))<|y_I U ?_
  rw[show(v::l).getD 0 default=v from U];refine J7 U U (B9 (by omega)) ?_;rw[show((Zw iV (v::l)).drop 1).take ((Zw iV (v::l)).length-1)=l.map iV from by rw[Zz,Yh,ZY,ZB (by simp)]];refine xC2 U U U (j l (s-v) (by simp only[Ze]at e;omega) (fun x i=>c x (Zn _ i)) (by simp only[Ze,Int.natCast_add,Int.natCast_one]at f;omega) (by simp only[Ze]at a;omega)) ⟨U,U,U⟩ U U fun g17=> ?_
  refine y_M U<|N7 U U U (Mv.sized_map fun _=>U) I2 (G1 U) (by(simp;done))<|y_M U<|y_M U<|B7 U U U (fun _=>U) (by(simp;done))<|y_I U ?_
  rw[show(v::l).getD 0 default=v from U];refine D7 U U (B9 (by omega)) ?_;rw[show((Zw iV (v::l)).drop 1).take ((Zw iV (v::l)).length-1)=l.map iV from by rw[Zz,Yh,ZY,ZB (by simp)]];refine xC2 U U U (j l (s+v) (by simp only[Ze]at e;omega) (fun x i=>c x (Zn _ i)) (by simp only[Ze,Int.natCast_add,Int.natCast_one]at f;omega) (by simp only[Ze]at a;omega)) ⟨U,U,U⟩ U U fun k=> ?_
  refine D7 U U (B9 (by omega))<|y_S U ?_
  refine G7 ⟨fun _=>⟨by(simp only[V5,Zj,Zm,Zz,Ya,Zp];decide+kernel),by decide+kernel⟩,[(.t 4,_)],⟨U,U,trivial⟩,?_⟩;refine A9<|C4 U U trivial ?_
  rfl
theorem c8v:D9 Tryz.f64=[0,2,5,3]:=by kernel_rfl
theorem f3d(n:Nat)(c:n<=40):CW (cxT oG) 64 [iV n]=some (iV ((2^n:Nat):Int),[]):=by
 refine C7 U Tryz.func64 U ⟨by kernel_rfl,U,dT U,dT U,by decide⟩ c8v<|A3<|A0<|y_S U<|xN [0] [] U<|A3<|A0<|y_S U<|xN [0,3] [] U<|A3<|B0<|a5t (β:=Nat) (fun(k:Nat)=>[(.t 0,iV ((n-k:Nat):Int)),(.t 3,iV ((2^k:Nat):Int))]) (fun(k:Nat)=>k<=n) (fun(k:Nat)=>n-k) 0 ⟨U,U,trivial⟩ (Zv _) ?_
 intro k a;have d:=Nat.two_pow_pos k;have e:=YJ (n:=2) (by decide) a;have f:=YJ (n:=2) (by decide) c;refine A3<|A3<|A0<|y_M U<|M0 U U<|xN [0,3,5] [] U ?_
 refine A4 U ?_ ?_<;>intro b<;>try simp only[SL]at b
 ·refine A7<|A3<|B0<|A0<|y_M U<|V3 U U (B9 (by omega))<|y_S U<|xN [0,3] [] U<|A0<|y_M U<|J7 U U (B9 (by omega))<|y_S U<|xN [0,3] [] U ?_
  refine⟨k+1,by omega,by omega,?_⟩;rw[show((n-(k+1):Nat):Int)=((n-k:Nat):Int)-1 from by omega,show((2^(k+1):Nat):Int)=2*((2^k:Nat):Int)from by rw[Nat.pow_succ];omega];exact⟨U,U,trivial⟩
 refine D6<|A3<|A0<|y_M U<|y_S U<|xN [2] [] U<|A9<|C4 U U trivial ?_
 rw[show k=n from by omega]
theorem d1d:D9 Tryz.f38=[0,2,3,6]:=by kernel_rfl
theorem f3k(l:List Int)(o:l.length<=1000):CW (cxT oG) 38 [L l]=some (.tup [iV (flX l).1,iV (flX l).2],[]):=by
 refine C7 U Tryz.func38 U ⟨by kernel_rfl,U,dT U,dT U,by decide⟩ d1d<|A3<|A0<|y_S U<|y_S U<|xN [0] [] U<|A3<|A3<|A0<|y_M U ?_
 refine xC1 U U (a0d l (by omega)) ⟨U,U,U⟩ U U fun g5=> ?_
 refine H8 U<|xN [0,6] [] U ?_
 refine A4 U ?_ ?_<;>intro k<;>try simp only[SL]at k
 ·refine A3<|A0<|y_S U<|y_S U<|xN [2,3] [] U<|A9<|C0 (D3 U U (D3 U U (C5 B5))) ?_
  (rw[d8d (by simp_all)];rfl)
 have c:vd l=true:=by simp_all
 obtain⟨a,d⟩:l.length<=10/\a1c (-200) 200 l=true:=by simpa[vd]using c
 have e:=fun i=>e0y d (by decide) i
 have f:2^l.length<=1024:=Yg (YJ (by decide) a) (by decide);obtain⟨Z,j⟩:∃Z,Z=2^l.length:=⟨_,U⟩;rw[<-j]at f;have g:=b9q c;have n:=e0e (b:=200) l (fun x h=>by obtain⟨i,m,rfl⟩:=a2e h;exact e i);refine A7<|A3<|A0<|y_M U<|y_M U ?_
 refine xC1 U U (e9s l g) ⟨U,U,U⟩ U U fun g9=> ?_
 refine xC2 U U U (f3i l l.sum a (fun x h=>by obtain⟨i,m,rfl⟩:=a2e h;exact e i) (by omega)) ⟨U,U,U⟩ U U fun g10=> ?_
 refine y_M U<|B8 U U ?_
 refine xC1 U U (f3d l.length (by omega)) ⟨U,U,U⟩ U U fun g13=> ?_
 refine y_S U<|y_S U<|xN [2,3] [] U<|A9<|C0 (D3 U U (D3 U U (C5 B5))) ?_
 (rw[c9b c];rfl)
theorem d2h:D9 Tryz.f107=[0,1,4,6]:=by kernel_rfl
theorem e6l(a b:Int)(f: -4611686018427387904<=a/\a<=4611686018427387904)(c: -4611686018427387904<=b/\b<=4611686018427387904):CW (cxT oG) 107 [iV a,iV b]=some (iV (YG a b:Int),[]):=by
 refine C7 U Tryz.func107 U ⟨by kernel_rfl,U,dT U,dT U,by decide⟩ d2h<|A3<|A0<|y_S U<|xN [0,1] [] U<|A3<|B0<|a5t (β:=Int×Int) (fun(z:Int×Int)=>match z with|(x,y)=>[(.t 0,iV x),(.t 1,iV y)]) (fun(z:Int×Int)=>match z with|(x,y)=>YG x y=YG a b/\(-4611686018427387904<=x/\x<=4611686018427387904)/\(-4611686018427387904<=y/\y<=4611686018427387904)) (fun(z:Int×Int)=>match z with|(x,y)=>y.natAbs) (a,b) ⟨U,U,trivial⟩ ⟨U,f,c⟩ ?_
 intro z c;obtain⟨x,y⟩:=z
 try dsimp only at c
 obtain⟨e,h,g⟩:=c;refine A3<|A3<|A0<|y_M U<|b0i U U<|xN [0,1,6] [] U ?_
 refine A4 U ?_ ?_<;>intro d<;>try simp only[SL]at d
 ·refine A7<|B0<|A0<|y_M U<|y_M U<|y_M U<|b8t U U (by omega)<|y_S U<|y_S U ?_
  refine G7 ⟨fun _=>⟨by decide+kernel,by decide+kernel⟩,[(.t 0,_),(.t 1,_)],⟨U,U,U,U,trivial⟩,?_⟩;refine⟨(y,x.tmod y),⟨by rw[d3j];exact e,g,by have:=e1u x y;omega⟩,(by have:=e3b x d;simp only;omega),⟨U,U,trivial⟩⟩
 refine D6<|A3<|A0<|y_M U<|y_M U<|a4z U (B9 (by omega))<|c5p U U<|y_S U<|xN [4] [] U<|A9<|C4 U U trivial ?_
 subst d;rw[e0r,e]
theorem c8d:D9 Tryz.f78=[0,1,4,10,5]:=by kernel_rfl
theorem d0x(u d:Int)(hu: -4611686018427387904<=u/\u<=4611686018427387904)(f: -4611686018427387904<=d/\d<=4611686018427387904)(b:d≠0):CW (cxT oG) 78 [iV u,iV d]=some (qV (Rat.divInt u d),[]):=by
 have c:=e1p (u:=u) b;have i:=a5d (u:=u) b;have g:=e2e (u:=u) b;refine C7 U Tryz.func78 U ⟨by kernel_rfl,U,dT U,dT U,by decide⟩ c8d<|A3<|A0<|y_A U (fun _=>U) ?_
 intro g4;refine xN [0,1,4] [4] U<|A3<|A0<|y_M U<|y_M U ?_
 refine xC2 U U U (e6l u d hu f) ⟨U,U,U⟩ U U fun g8=> ?_
 refine y_S U<|xN [0,1,4,5] [4] U<|A3<|A3<|A0<|y_M U<|F4 U U<|xN [0,1,4,5,10] [4] U ?_
 refine A4 U ?_ ?_<;>intro e<;>try simp only[SL]at e
 ·refine A0<|y_M U<|a4z U (B9 (by omega))<|y_S U<|xN [0,1,4,5] [4] U<|A3<|A0<|y_M U<|y_M U ?_
  (have a:=f4q (u:=u) (d:=d) (by omega))
  refine a1a U U ⟨by omega,B9 (by rw[<-a.1];omega)⟩<|y_M U<|y_M U<|a1a U U ⟨by omega,B9 (by rw[<-a.2];omega)⟩<|I3 (fs:=[_,_]) U U U U U<|xB U U U U U U U U U ?_
  refine G7 ⟨fun _=>⟨by decide+kernel,by decide+kernel⟩,[(.t 4,_),(.h 4,_)],⟨U,U,U,U,trivial⟩,?_⟩;refine A9<|C0 (a4i U U U U U (C5 B5)) ?_
  rw[<-a.1,<-a.2]
  rfl
 refine A7<|A3<|A0<|y_M U<|y_M U ?_
 (have a:=c2q (u:=u) (d:=d) (by omega))
 refine a1a U U ⟨by omega,B9 (by rw[<-a.1];omega)⟩<|y_M U<|y_M U<|a1a U U ⟨by omega,B9 (by rw[<-a.2];omega)⟩<|I3 (fs:=[_,_]) U U U U U<|xB U U U U U U U U U ?_
 refine G7 ⟨fun _=>⟨by decide+kernel,by decide+kernel⟩,[(.t 4,_),(.h 4,_)],⟨U,U,U,U,trivial⟩,?_⟩;refine A9<|C0 (a4i U U U U U (C5 B5)) ?_
 rw[<-a.1,<-a.2]
 rfl
theorem d6f:D9 Tryz.f58=[0,1,4,7,5]:=by kernel_rfl
theorem e8o(a b:Int)(f: -4611686018427387904<=a/\a<=4611686018427387904)(c: -4611686018427387904<=b/\b<=4611686018427387904):CW (cxT oG) 58 [iV a,iV b]=some (iV (YG a b:Int),[]):=by
 refine C7 U Tryz.func58 U ⟨by kernel_rfl,U,dT U,dT U,by decide⟩ d6f<|A3<|A0<|y_S U<|xN [0,1] [] U<|A3<|B0<|a5t (β:=Int×Int) (fun(z:Int×Int)=>match z with|(x,y)=>[(.t 0,iV x),(.t 1,iV y)]) (fun(z:Int×Int)=>match z with|(x,y)=>YG x y=YG a b/\(-4611686018427387904<=x/\x<=4611686018427387904)/\(-4611686018427387904<=y/\y<=4611686018427387904)) (fun(z:Int×Int)=>match z with|(x,y)=>y.natAbs) (a,b) ⟨U,U,trivial⟩ ⟨U,f,c⟩ ?_
 intro z c;obtain⟨x,y⟩:=z
 try dsimp only at c
 obtain⟨e,h,g⟩:=c;refine A3<|A3<|A0<|y_M U<|b0i U U<|xN [0,1,7] [] U ?_
 refine A4 U ?_ ?_<;>intro d<;>try simp only[SL]at d
 ·refine A7<|B0<|A3<|A0<|y_M U<|y_M U<|b8t U U (by omega)<|y_S U<|xN [1,5] [] U<|A3<|A0<|y_M U<|y_S U<|xN [0,5] [] U<|A0<|y_M U<|y_S U<|xN [0,1] [] U ?_
  refine⟨(y,x.tmod y),⟨by rw[d3j];exact e,g,by have:=e1u x y;omega⟩,(by have:=e3b x d;simp only;omega),⟨U,U,trivial⟩⟩
 refine D6<|A3<|A0<|y_M U<|y_M U<|a4z U (B9 (by omega))<|c5p U U<|y_S U<|xN [4] [] U<|A9<|C4 U U trivial ?_
 subst d;rw[e0r,e]
theorem c7b:D9 Tryz.f32=[0,1,4,7,5]:=by kernel_rfl
theorem e1r(u d:Int)(hu: -4611686018427387904<=u/\u<=4611686018427387904)(f: -4611686018427387904<=d/\d<=4611686018427387904)(g:d≠0):CW (cxT oG) 32 [iV u,iV d]=some (qV (Rat.divInt u d),[]):=by
 refine C7 U Tryz.func32 U ⟨by kernel_rfl,U,dT U,dT U,by decide⟩ c7b<|A3<|A0<|y_A U (fun _=>U) ?_
 intro g4;refine xN [0,1,4] [4] U<|A3<|A3<|A0<|y_M U<|F4 U U<|xN [0,1,4,7] [4] U ?_
 refine A4 U ?_ ?_<;>intro e<;>try simp only[SL]at e
 ·refine A3<|A0<|y_M U<|a4z U (B9 (by omega))<|y_S U<|xN [0,1,4] [4] U<|A0<|y_M U<|a4z U (B9 (by omega))<|y_S U<|xN [0,1,4] [4] U<|A3<|A0<|y_M U<|y_M U ?_
  refine xC2 U U U ((by exact e8o (-u) (-d) (by omega) (by omega))) ⟨U,U,U⟩ U U fun g14=> ?_
  refine y_S U<|xN [0,1,4,5] [4] U<|A3<|A0<|y_M U<|y_M U ?_
  (have a:=c2q (u:= -u) (d:= -d) (by omega);have b:=e1p (u:= -u) (d:= -d) (by omega);have c:=a5d (u:= -u) (d:= -d) (by omega))
  refine a1a U U ⟨by omega,B9 (by rw[<-a.1];omega)⟩<|y_M U<|y_M U<|a1a U U ⟨by omega,B9 (by rw[<-a.2];omega)⟩<|I3 (fs:=[_,_]) U U U U U<|xB U U U U U U U U U ?_
  refine G7 ⟨fun _=>⟨by decide+kernel,by decide+kernel⟩,[(.t 4,_),(.h 4,_)],⟨U,U,U,U,trivial⟩,?_⟩;refine A9<|C0 (a4i U U U U U (C5 B5)) ?_
  rw[<-a.1,<-a.2]
  (rw[Rat.neg_divInt_neg];rfl)
 refine A7<|A3<|A0<|y_M U<|y_M U ?_
 refine xC2 U U U (by exact e8o u d hu f) ⟨U,U,U⟩ U U fun g14=> ?_
 refine y_S U<|xN [0,1,4,5] [4] U<|A3<|A0<|y_M U<|y_M U ?_
 (have a:=c2q (u:=u) (d:=d) (by omega);have b:=e1p (u:=u) (d:=d) (by omega);have c:=a5d (u:=u) (d:=d) (by omega))
 refine a1a U U ⟨by omega,B9 (by rw[<-a.1];omega)⟩<|y_M U<|y_M U<|a1a U U ⟨by omega,B9 (by rw[<-a.2];omega)⟩<|I3 (fs:=[_,_]) U U U U U<|xB U U U U U U U U U ?_
 refine G7 ⟨fun _=>⟨by decide+kernel,by decide+kernel⟩,[(.t 4,_),(.h 4,_)],⟨U,U,U,U,trivial⟩,?_⟩;refine A9<|C0 (a4i U U U U U (C5 B5)) ?_
 rw[<-a.1,<-a.2]
 rfl
theorem d0n:D9 Tryz.f139=[0,1,2,3,8,11,15,9,10,37]:=by kernel_rfl
theorem c9r(l:List Int)(o:l.length<=8)(a:∀x∈l,-30<=x/\x<=30)(i k:Nat)(n:i<=k/\k<l.length):CW (cxT oG) 139 [L l,L (V6 l.length),nV i,nV k]=some (qV (mq l i k),[]):=by
 have b:∀x,x<l.length->-30<=l.getD x default/\l.getD x default<=30:=fun x h=>a _ (N3 h)
 have p:=P8 l.length;refine C7 U Tryz.func139 U ⟨by kernel_rfl,U,dT U,dT U,by decide⟩ d0n<|A3<|A0<|y_A U (fun _=>U) ?_
 intro g8;refine xN [0,1,2,3,8] [8] U<|A3<|A0<|y_S U<|y_S U<|xN [0,1,2,3,8,9,10] [8] U<|A3<|A3<|A0<|y_M U<|y_S U<|xN [0,1,3,8,9,10,11] [8] U<|B0<|D8 (β:=Nat×Int×Nat) [(.t 0,_),(.t 1,_),(.t 3,_),(.t 8,_),(.h 8,_)] (fun(z:Nat×Int×Nat)=>match z with|(x,u,d)=>[(.t 11,nV x),(.t 9,iV u),(.t 10,nV d)]) (fun(z:Nat×Int×Nat)=>match z with|(x,u,d)=>i<=x/\x<=k+1/\u=((l.drop i).take (x-i)).sum/\d=x-i) (fun(z:Nat×Int×Nat)=>match z with|(x,u,d)=>k+1-x) (i,0,0) ⟨U,U,U,U,U,U,U,U,trivial⟩ ⟨Zd _,by omega,by rw[Nat.sub_self];rfl,by omega⟩ ?_
 intro z a;obtain⟨x,u,d⟩:=z
 try dsimp only at a
 obtain⟨e,q,hu,j⟩:=a;have c:=e6p o a i (x-i);rw[<-hu]at c;refine A3<|A3<|A0<|y_M U<|y_M U<|a2q U U<|xN [0,1,3,8,9,10,11,15] [8] U ?_
 refine A4 U ?_ ?_<;>intro g<;>try simp only[SL]at g
 ·refine A7<|A3<|B0<|A3<|A0<|y_M U<|y_M U<|y_M U<|B7 U U U (fun _=>U) (by omega)<|y_I U<|y_M U<|y_M U<|B7 U U U (fun _=>U) (by omega)<|y_I U ?_
  have m:=b x (by omega);rw[a4v (by omega)];refine V3 U U (B9 (by omega)) ?_;rw[Int.mul_one];refine D7 U U (B9 (by omega))<|y_S U ?_
  refine G7 ⟨fun _=>⟨by decide+kernel,by decide+kernel⟩,[(.t 0,_),(.t 1,_),(.t 3,_),(.t 8,_),(.t 9,_),(.t 10,_),(.t 11,_),(.h 8,_)],⟨U,U,U,U,U,U,U,U,U,U,U,U,U,U,U,U,trivial⟩,?_⟩;refine A0<|y_M U<|y_M U<|y_M U<|B7 U U U (fun _=>U) (by omega)<|y_I U ?_
  rw[a4v (by omega)];refine D7 U U (B9 (by omega))<|y_S U<|xN [0,1,3,8,9,10,11] [8] U<|A0<|y_M U<|D7 U U (B9 (by omega))<|y_S U<|xN [0,1,3,8,9,10,11] [8] U ?_
  refine⟨(x+1,u+l.getD x default,d+1),?_,(by simp only;omega),⟨U,U,U,U,U,U,U,U,trivial⟩⟩;exact⟨by omega,by omega,by rw[e1k e (by omega),<-hu],by omega⟩
 refine D6<|A3<|A0<|y_M U<|y_M U ?_
 refine xC2 U U U (d0x u (d:Int) (by omega) (by omega) (by omega)) ⟨U,U,U⟩ U U fun f=> ?_
 refine xB U U U U U U U U U<|xN [8] [8] U<|A9<|C0 (a4i U U U U U (C5 B5)) ?_
 rw[hu,j,show x=k+1 by omega]
 rfl
theorem c7g:D9 Tryz.f92=[0,1,2,3,8,11,15,9,10,37]:=by kernel_rfl
theorem b8h(l:List Int)(o:l.length<=8)(a:∀x∈l,-30<=x/\x<=30)(i k:Nat)(n:i<=k/\k<l.length):CW (cxT oG) 92 [L l,L (V6 l.length),nV i,nV k]=some (qV (mq l i k),[]):=by
 have b:∀x,x<l.length->-30<=l.getD x default/\l.getD x default<=30:=fun x h=>a _ (N3 h)
 have p:=P8 l.length;refine C7 U Tryz.func92 U ⟨by kernel_rfl,U,dT U,dT U,by decide⟩ c7g<|A3<|A0<|y_A U (fun _=>U) ?_
 intro g8;refine xN [0,1,2,3,8] [8] U<|A3<|A0<|y_S U<|xN [0,1,2,3,8,9] [8] U<|A3<|A0<|y_S U<|xN [0,1,2,3,8,9,10] [8] U<|A3<|A3<|A0<|y_M U<|y_S U<|xN [0,1,3,8,9,10,11] [8] U<|B0<|D8 (β:=Nat×Int×Nat) [(.t 0,_),(.t 1,_),(.t 3,_),(.t 8,_),(.h 8,_)] (fun(z:Nat×Int×Nat)=>match z with|(x,u,d)=>[(.t 11,nV x),(.t 9,iV u),(.t 10,nV d)]) (fun(z:Nat×Int×Nat)=>match z with|(x,u,d)=>i<=x/\x<=k+1/\u=((l.drop i).take (x-i)).sum/\d=x-i) (fun(z:Nat×Int×Nat)=>match z with|(x,u,d)=>k+1-x) (i,0,0) ⟨U,U,U,U,U,U,U,U,trivial⟩ ⟨Zd _,by omega,by rw[Nat.sub_self];rfl,by omega⟩ ?_
 intro z a;obtain⟨x,u,d⟩:=z
 try dsimp only at a
 obtain⟨e,q,hu,j⟩:=a;have c:=e6p o a i (x-i);rw[<-hu]at c;refine A3<|A3<|A0<|y_M U<|y_M U<|a2q U U<|xN [0,1,3,8,9,10,11,15] [8] U ?_
 refine A4 U ?_ ?_<;>intro g<;>try simp only[SL]at g
 ·refine A7<|A3<|B0<|A3<|A0<|y_M U<|y_M U<|y_M U<|B7 U U U (fun _=>U) (by omega)<|y_I U<|y_M U<|y_M U<|B7 U U U (fun _=>U) (by omega)<|y_I U ?_
  have m:=b x (by omega);rw[a4v (by omega)];refine V3 U U (B9 (by omega)) ?_;rw[Int.mul_one];refine D7 U U (B9 (by omega))<|y_S U ?_
  refine G7 ⟨fun _=>⟨by decide+kernel,by decide+kernel⟩,[(.t 0,_),(.t 1,_),(.t 3,_),(.t 8,_),(.t 9,_),(.t 10,_),(.t 11,_),(.h 8,_)],⟨U,U,U,U,U,U,U,U,U,U,U,U,U,U,U,U,trivial⟩,?_⟩;refine A0<|y_M U<|y_M U<|y_M U<|B7 U U U (fun _=>U) (by omega)<|y_I U ?_
  rw[a4v (by omega)];refine D7 U U (B9 (by omega))<|y_S U<|xN [0,1,3,8,9,10,11] [8] U<|A0<|y_M U<|D7 U U (B9 (by omega))<|y_S U<|xN [0,1,3,8,9,10,11] [8] U ?_
  refine⟨(x+1,u+l.getD x default,d+1),?_,(by simp only;omega),⟨U,U,U,U,U,U,U,U,trivial⟩⟩;exact⟨by omega,by omega,by rw[e1k e (by omega),<-hu],by omega⟩
 refine D6<|A3<|A0<|y_M U<|y_M U ?_
 refine xC2 U U U (e1r u (d:Int) (by omega) (by omega) (by omega)) ⟨U,U,U⟩ U U fun f=> ?_
 refine xB U U U U U U U U U<|xN [8] [8] U<|A9<|C0 (a4i U U U U U (C5 B5)) ?_
 rw[hu,j,show x=k+1 by omega]
 rfl
theorem c7i:D9 Tryz.f192=[0,1,4,3,2,5,33]:=by kernel_rfl
theorem f2g(p q:Rat)(o:Sm 1000000000 p)(hq:Sm 1000000000 q):CW (cxT oG) 192 [qV p,qV q]=some (qV (p+q),[]):=by
 obtain⟨e,f,k⟩:=o;obtain⟨g,i,j⟩:=hq;have s:=R7 p;have v:=R7 q;have m1:=b9b (x:=p.num) (y:=(q.den:Int)) ⟨e,f⟩ ⟨by omega,j⟩;have m2:=b9b (x:=q.num) (y:=(p.den:Int)) ⟨g,i⟩ ⟨by omega,k⟩;have m3:=b9b (x:=(p.den:Int)) (y:=(q.den:Int)) ⟨by omega,k⟩ ⟨by omega,j⟩;have m4:=b9b (x:=p.num) (y:=q.num) ⟨e,f⟩ ⟨g,i⟩;have r:=b1e p q;have n:=a5d (u:=(p.den:Int)) (d:=(q.den:Int)) (by omega);have m:=e2e (u:=(p.den:Int)) (d:=(q.den:Int)) (by omega);have t1:=b7q (a:=(q.den:Int)) (b:=(YG p.den q.den:Int)) (by omega) (by omega);have t2:=b7q (a:=(p.den:Int)) (b:=(YG p.den q.den:Int)) (by omega) (by omega);have w:=b9b (x:=p.num) (y:=(q.den:Int).tdiv (YG p.den q.den:Int)) (a:=1000000000) (b:=1000000000) ⟨e,f⟩ ⟨by omega,by omega⟩;have z:=b9b (x:=q.num) (y:=(p.den:Int).tdiv (YG p.den q.den:Int)) (a:=1000000000) (b:=1000000000) ⟨g,i⟩ ⟨by omega,by omega⟩;have A:=b9b (x:=(p.den:Int).tdiv (YG p.den q.den:Int)) (y:=(q.den:Int)) (a:=1000000000) (b:=1000000000) ⟨by omega,by omega⟩ ⟨by omega,j⟩;have c:=e3s p q;refine C7 U Tryz.func192 U ⟨by kernel_rfl,U,dT U,dT U,by decide⟩ c7i<|A3<|A0<|P3 U U U (fun _=>H7 U) (fun _=>U) ?_
 intro g2;refine P3 U U U (fun _=>H7 U) (fun _=>U) ?_;intro g3;refine y_A U (fun _=>U) ?_;intro g4;refine xN [2,3,4] [2,3,4] U<|A3<|A0<|y_F U<|y_L U<|y_F U<|y_L U ?_
 refine xC2 U U U (e6l (p.den:Int) (q.den:Int) (by omega) (by omega)) ⟨U,U,U⟩ U U fun g10=> ?_
 refine y_S U<|xN [2,3,4,5] [2,3,4] U<|A3<|A0<|y_F U<|y_L U<|y_F U<|y_L U<|y_M U<|a1a U U ⟨by omega,B9 (by omega)⟩<|V3 U U (B9 (by omega))<|y_F U<|y_L U<|y_F U<|y_L U<|y_M U<|a1a U U ⟨by omega,B9 (by omega)⟩<|V3 U U (B9 (by omega))<|D7 U U (B9 (by omega))<|y_F U<|y_L U<|y_M U<|a1a U U ⟨by omega,B9 (by omega)⟩<|y_F U<|y_L U<|V3 U U (B9 (by omega)) ?_
 refine xC2 U U U (d0x _ _ (by omega) (by omega) c) ⟨U,U,U⟩ U U fun l=> ?_
 refine xB U U U U U U U U U ?_;refine G7 ⟨fun _=>⟨by(simp only[V5,Zj,Zm,Zz,Ya,Zp];decide+kernel),by decide+kernel⟩,[(.t 4,_),(.h 4,_)],⟨U,U,U,U,trivial⟩,?_⟩;refine A9<|C0 (a4i U U U U U (C5 B5)) ?_
 rw[<-f3o]
 rfl
theorem c3z:D9 Tryz.f178=[0,1,4,3,2,12]:=by kernel_rfl
theorem e8u(p q:Rat)(a:Sm 1000000000 p)(hq:Sm 1000000000 q):CW (cxT oG) 178 [qV p,qV q]=some (qV (p-q),[]):=by
 obtain⟨c,d,b⟩:=id hq;refine C7 U Tryz.func178 U ⟨by kernel_rfl,U,dT U,dT U,by decide⟩ c3z<|A3<|A0<|P3 U U U (fun _=>H7 U) (fun _=>U) ?_
 intro g2;refine P3 U U U (fun _=>H7 U) (fun _=>U) ?_;intro g3;refine y_A U (fun _=>U) ?_;intro g4;refine xN [2,3,4] [2,3,4] U<|A3<|A0<|y_B U<|y_F U<|y_L U<|a4z U (B9 (by omega))<|y_F U<|y_L U<|I3 (fs:=[_,_]) U U U U U ?_
 refine xC2 U U U (f2g p (-q) a (show Sm 1000000000 (-q)from⟨by rw[(e0t q).1];omega,by rw[(e0t q).1];omega,b⟩)) ⟨U,U,U⟩ U U fun g12=> ?_
 refine xB U U U U U U U U U<|xN [4] [4] U<|A9<|C0 (a4i U U U U U (C5 B5)) ?_
 rw[Rat.sub_eq_add_neg]
 rfl
theorem c7e:D9 Tryz.f158=[0,1,4,3,2]:=by kernel_rfl
theorem f1o(p q:Rat)(a:Sm 1000000000 p)(hq:Sm 1000000000 q):CW (cxT oG) 158 [qV p,qV q]=some (bV (decide (p<q)),[]):=by
 refine C7 U Tryz.func158 U ⟨by kernel_rfl,U,dT U,dT U,by decide⟩ c7e<|A3<|A0<|P3 U U U (fun _=>H7 U) (fun _=>U) ?_
 intro g2;refine P3 U U U (fun _=>H7 U) (fun _=>U) ?_;intro g3;refine y_S U<|xN [2,3] [2,3] U<|A3<|A0<|y_B U<|y_B U ?_
 refine xC2 U U U (e8u p q a hq) ⟨U,U,U⟩ U U fun g7=> ?_
 refine f1r U U U U<|F4 U U<|y_S U<|xN [4] [] U<|A9<|C4 U U trivial ?_
 exact congrArg bV (decide_eq_decide.2 (f4k p q))
theorem c9k:D9 Tryz.f93=[0,1,4,2,3]:=by kernel_rfl
theorem f2h(p q:Rat)(g:Sm 1000000000 p)(hq:Sm 1000000000 q):CW (cxT oG) 93 [qV p,qV q]=some (bV (decide (p<q)),[]):=by
 obtain⟨a,b,c⟩:=g;obtain⟨d,e,f⟩:=hq;have i:=R7 p;have j:=R7 q;have m1:=b9b (x:=p.num) (y:=(q.den:Int)) ⟨a,b⟩ ⟨by omega,f⟩;have m2:=b9b (x:=q.num) (y:=(p.den:Int)) ⟨d,e⟩ ⟨by omega,c⟩;have m3:=b9b (x:=(p.den:Int)) (y:=(q.den:Int)) ⟨by omega,c⟩ ⟨by omega,f⟩;have m4:=b9b (x:=p.num) (y:=q.num) ⟨a,b⟩ ⟨d,e⟩;have h:=b1e p q;refine C7 U Tryz.func93 U ⟨by kernel_rfl,U,dT U,dT U,by decide⟩ c9k<|A3<|A0<|P3 U U U (fun _=>H7 U) (fun _=>U) ?_
 intro g2;refine P3 U U U (fun _=>H7 U) (fun _=>U) ?_;intro g3;refine y_S U<|xN [2,3] [2,3] U<|A3<|A0<|y_F U<|y_L U<|y_F U<|y_L U<|V3 U U (B9 (by omega))<|y_F U<|y_L U<|y_F U<|y_L U<|V3 U U (B9 (by omega))<|F4 U U<|y_S U<|xN [4] [] U<|A9<|C4 U U trivial ?_
 exact congrArg bV (decide_eq_decide.2 (Rat.lt_iff p q).symm)
theorem c4g:D9 Tryz.f138=[0,1,4,10,9,11,6,5,7,47]:=by kernel_rfl
theorem e6j(l:List Int)(m:l.length<=8)(b:∀x∈l,-30<=x/\x<=30):CW (cxT oG) 138 [L l,L (V6 l.length)]=some (.own 1 ((goO (poolN l l.length)).map iV),[]):=by
 have B:∀x,x<l.length->-30<=l.getD x default/\l.getD x default<=30:=fun x h=>b _ (N3 h)
 have F:=P8 l.length;refine C7 U Tryz.func138 U ⟨by kernel_rfl,U,dT U,dT U,by decide⟩ c4g<|A3<|A0 ?_
 (refine B4 U U (fun _=>U) ?_;intro g4)
 refine xN [0,1] [] U<|A3<|A0 ?_
 (refine B4 U U (fun _=>U) ?_;intro g5)
 refine xN [0,1,5] [5] U<|A3<|A3<|A0<|y_M U<|B8 U U<|y_M U<|xN [0,1,5,9,10] [5] U<|B0<|D8 (β:=Nat×List Nat×Nat) [(.t 0,_),(.t 1,_),(.t 9,_)] (fun(z:Nat×List Nat×Nat)=>match z with|(k,st,g)=>[(.t 10,nV k),(.t 5,.sl 5 g none 0 (goO st).length),(.h 5,.obj g 0 1 ((goO st).map iV))]) (fun(z:Nat×List Nat×Nat)=>match z with|(k,st,g)=>k<=l.length/\st=poolN l k) (fun(z:Nat×List Nat×Nat)=>match z with|(k,st,g)=>l.length-k) (0,[],_) ⟨U,U,U,U,U,U,trivial⟩ ⟨Zv _,U⟩ ?_
 intro z b;obtain⟨k,st,g⟩:=z
 try dsimp only at b
 obtain⟨D,c⟩:=b;have G:=(a5b l k).1;have q:=M8 st;have s:st.length<=k:=by subst c;exact a8i l k
 refine A3<|A0<|F4 U U<|xN [0,1,5,9,10,11] [5] U<|A3 ?_
 refine A4 U ?_ ?_<;>intro e<;>try simp only[SL]at e
 ·refine A7<|A3<|B0<|A3<|A0<|y_M U<|y_S U<|xN [0,1,5,6,9,10] [5] U<|A3<|A0<|y_M U<|y_M U<|B6 (es:=Zw iV [(k:Int)]) U U (dT U) U U (fun _=>B3 (A6 fun _=>U)) (fun _=>U) ?_
  intro g15;refine xA U U U U (by simp) (by simp) U U U U U (fun _=>U) (by simp only[LN];omega) (fun _=>U) ?_;intro g16
  (refine xO U U (by simp) U (fun _=>U) (fun _=>U) ?_;intro g5)
  refine xN [0,1,5,6,9,10] [5] U<|A3<|A0 ?_
  rw[d3v];refine y_M U<|G8 U U<|y_S U<|xN [0,1,5,6,7,9,10] [5] U<|B0<|D8 (β:=List Nat×Nat) [(.t 0,_),(.t 1,_),(.t 6,_),(.t 9,_),(.t 10,_)] (fun(z:List Nat×Nat)=>match z with|(a,g1)=>[(.t 5,.sl 5 g1 none 0 (goO a).length),(.h 5,.obj g1 0 1 ((goO a).map iV)),(.t 7,nV (goO a).length)]) (fun(z:List Nat×Nat)=>match z with|(a,g1)=>pop l k a=poolN l (k+1)/\Stk (k+1) a/\a≠[]) (fun(z:List Nat×Nat)=>match z with|(a,g1)=>a.length) (k::st,_) ⟨U,U,U,U,U,U,U,U,trivial⟩ (d3s c) ?_
  intro z b;obtain⟨a,g1⟩:=z
  try dsimp only at b
  obtain⟨f,d,i⟩:=b;have r:=d0l d.1 d.2.1;have C:=M8 a;have E:=List.length_pos_iff.2 i;refine A3<|A3<|A0<|y_M U<|M0 U U<|y_M U ?_
  refine D5 U U ?_ ?_<;>intro n<;>have A:=n<;>try simp only[SG]at A
  ·refine y_M U<|gT U U<|y_M U<|gT U U<|y_M U<|gT U U<|y_M U<|gT U U<|J7 U U (B9 (by omega))<|gT U U ?_
   rw[show(((goO a).length:Nat):Int)-2=((a.length-1-1:Nat):Int) by rw[M8];omega];refine C9 U U U U (by omega) (by(simp;done)) U<|gT U U<|E6 U U (by omega) (fun _=>U) (fun _=>U) U<|gT U U ?_
   rw[a9i (j:=1) (by omega)];refine y_M U<|gT U U<|y_M U<|gT U U<|J7 U U (B9 (by omega))<|gT U U ?_
   rw[show(((goO a).length:Nat):Int)-1=((a.length-1-0:Nat):Int) by rw[M8];omega];refine C9 U U U U (by omega) (by(simp;done)) U<|gT U U<|E6 U U (by omega) (fun _=>U) (fun _=>U) U<|gT U U ?_
   rw[a9i (j:=0) (by omega)];have H:=e1b d (by omega);refine J7 U U (B9 (by omega))<|gT U U ?_
   rw[show((a.getD 0 default:Nat):Int)-1=((a.getD 0 default-1:Nat):Int) by omega];apply xC U
   ·apply A8
    ·exact B1 U
    apply A8
    ·exact B1 U
    apply A8
    ·exact B1 U
    apply A8
    ·exact B1 U
    exact C2
   ·exact c9r l m b (a.getD 1 default) (a.getD 0 default-1) (by omega)
   refine⟨⟨U,U,U,dT U,U⟩,.inl U,B2,C8 U,fun _=>U,fun u=> ?_⟩;refine gT U U<|y_M U<|gT U U<|y_M U<|gT U U<|y_M U<|gT U U<|y_M U<|gT U U<|J7 U U (B9 (by omega))<|gT U U ?_
   rw[show(((goO a).length:Nat):Int)-1=((a.length-1-0:Nat):Int) by rw[M8];omega];refine C9 U U U U (by omega) (by(simp;done)) U<|gT U U<|E6 U U (by omega) (fun _=>U) (fun _=>U) U<|gT U U ?_
   rw[a9i (j:=0) (by omega)];refine y_M U<|gT U U ?_
   apply xC U
   ·apply A8
    ·exact B1 U
    apply A8
    ·exact B1 U
    apply A8
    ·exact B1 U
    apply A8
    ·exact B1 U
    exact C2
   ·exact c9r l m b (a.getD 0 default) k (by omega)
   refine⟨⟨U,U,U,dT U,U⟩,.inl U,B2,C8 U,fun _=>U,fun v=> ?_⟩;refine gT U U ?_;refine xC2 U U U (f1o (mq l (a.getD 1 default) (a.getD 0 default-1)) (mq l (a.getD 0 default) k) ((d5v m b (by omega)).mono (by decide)) ((d5v m b (by omega)).mono (by decide))) ⟨U,U,U⟩ U U fun w=> ?_
   refine gT U U<|H8 U<|F0 U (by assumption) U U ?_
   refine G7 ⟨fun _=>⟨by(simp only[V5,Zj,Zm,Zz,Ya,Zp];decide+kernel),by decide+kernel⟩,[(.t 0,_),(.t 1,_),(.t 5,_),(.t 6,_),(.t 7,_),(.t 9,_),(.t 10,_),(.t 47,_),(.h 5,_)],⟨U,U,U,U,U,U,U,U,U,U,U,U,U,U,U,U,U,U,trivial⟩,?_⟩;refine A4 U ?_ ?_<;>intro e<;>try simp only[SL]at e
   ·have p:e3z l k a:=⟨by omega,by exact e⟩
    refine A7<|A3<|B0<|A0<|y_M U<|y_M U<|J7 U U (B9 (by omega)) ?_
    try rw[<-List.map_take]
    rw[show(((goO a).length:Nat):Int)-1=((a.length-1:Nat):Int) by rw[M8];omega];refine a1j U U U (G1 U) (by omega) U<|a6y U U (by simp) (by rw[<-List.map_take];exact B3 (A6 fun _=>U)) U ?_
    rw[<-List.map_take,d5g i,show a.length-1=(goO a.tail).length by rw[M8,Xx]];refine xN [0,1,5,6,9,10] [5] U<|A0<|y_M U<|G8 U U<|y_S U<|xN [0,1,5,6,7,9,10] [5] U ?_
    refine⟨(a.tail,_),?_,(by simp only;rw[Xx];omega),⟨U,U,U,U,U,U,U,U,trivial⟩⟩;exact⟨by rw[<-e1q p];exact f,d4n d (by omega)⟩
   have o:¬e3z l k a:=fun h=>h.2 (by simpa using e)
   refine D6<|A0<|D7 U U (B9 (by omega))<|y_M U<|xN [0,1,5,9,10] [5] U ?_
   refine⟨(k+1,a,g1),?_,(by simp only;omega),⟨U,U,U,U,U,U,trivial⟩⟩;exact⟨by omega,by rw[<-f,c9o o]⟩
  iterate 24 refine gF U U ?_
  refine E8 U (by assumption) U U ?_;refine G7 ⟨fun _=>⟨by decide+kernel,by decide+kernel⟩,[(.t 0,_),(.t 1,_),(.t 5,_),(.t 6,_),(.t 7,_),(.t 9,_),(.t 10,_),(.t 47,_),(.h 5,_)],⟨U,U,U,U,U,U,U,U,U,U,U,U,U,U,U,U,U,U,trivial⟩,?_⟩;refine A4 U (fun e=>absurd e (by decide)) (fun e=> ?_);refine D6<|A0<|D7 U U (B9 (by omega))<|y_M U<|xN [0,1,5,9,10] [5] U ?_
  refine⟨(k+1,a,g1),?_,(by simp only;omega),⟨U,U,U,U,U,U,trivial⟩⟩;exact⟨by omega,by rw[<-f,c9o fun h=>by have:=h.1;omega]⟩
 refine D6<|A3<|A0<|y_M U ?_
 apply xC U
 ·apply A8
  ·exact b2c U U (by(simp;done)) (A6 fun _=>U)
  exact C2
 ·exact c7p (goO st) (by simp only[H0,M8];omega)
 refine⟨⟨U,U,U,dT U,U⟩,.inl U,B2,H4,fun _=>U,fun y=> ?_⟩;simp only[Zi]
 (refine xO U U (by simp) U (fun _=>U) (fun _=>U) ?_;intro g4)
 refine xN [4] [4] U<|A9<|J3 U U (by simp) (by exact A6 fun _=>U) trivial ?_
 rw[c,show k=l.length by omega]
theorem d4y:D9 Tryz.f61=[0,1,4,6,14,5,23,7,9,8,51,39,48]:=by kernel_rfl
theorem f5l(l:List Int)(m:l.length<=8)(b:∀x∈l,-30<=x/\x<=30):CW (cxT oG) 61 [L l,L (V6 l.length)]=some (.own 1 ((goO (poolN l l.length)).map iV),[]):=by
 have w:∀x,x<l.length->-30<=l.getD x default/\l.getD x default<=30:=fun x h=>b _ (N3 h)
 have C:=P8 l.length;refine C7 U Tryz.func61 U ⟨by kernel_rfl,U,dT U,dT U,by decide⟩ d4y<|A3<|A0 ?_
 (refine B4 U U (fun _=>U) ?_;intro g4)
 refine xN [0,1] [] U<|A3<|A0<|B6 (es:=Zw iV []) U U (dT U) U U (fun _=>B3 (A6 fun _=>U)) (fun _=>U) ?_
 intro g10
 (refine xO U U (by simp) U (fun _=>U) (fun _=>U) ?_;intro g5)
 refine xN [0,1,5] [5] U<|A3<|A3<|A0<|y_S U<|xN [0,1,5,6] [5] U<|B0<|D8 (β:=Nat×List Nat×Nat) [(.t 0,_),(.t 1,_)] (fun(z:Nat×List Nat×Nat)=>match z with|(k,st,g)=>[(.t 6,nV k),(.t 5,.sl 5 g none 0 (goO st).length),(.h 5,.obj g 0 1 ((goO st).map iV))]) (fun(z:Nat×List Nat×Nat)=>match z with|(k,st,g)=>k<=l.length/\st=poolN l k) (fun(z:Nat×List Nat×Nat)=>match z with|(k,st,g)=>l.length-k) (0,[],_) ⟨U,U,U,U,U,trivial⟩ ⟨Zv _,U⟩ ?_
 intro z b;obtain⟨k,st,g⟩:=z
 try dsimp only at b
 obtain⟨A,c⟩:=b;have D:=(a5b l k).1;have p:=M8 st;have r:st.length<=k:=by subst c;exact a8i l k
 refine A3<|A3<|A0<|y_M U<|y_M U<|B8 U U<|F4 U U<|xN [0,1,5,6,14] [5] U ?_
 refine A4 U ?_ ?_<;>intro e<;>try simp only[SL]at e
 ·refine A7<|A3<|B0<|A3<|A0<|y_M U<|y_M U<|B6 (es:=Zw iV [(k:Int)]) U U (dT U) U U (fun _=>B3 (A6 fun _=>U)) (fun _=>U) ?_
  intro g19;refine xA U U U U (by simp) (by simp) U U U U U (fun _=>U) (by simp only[LN];omega) (fun _=>U) ?_;intro g20
  (refine xO U U (by simp) U (fun _=>U) (fun _=>U) ?_;intro g5)
  refine xN [0,1,5,6] [5] U<|B0 ?_
  rw[d3v];refine D8 (β:=List Nat×Nat) [(.t 0,_),(.t 1,_),(.t 6,_)] (fun(z:List Nat×Nat)=>match z with|(a,g1)=>[(.t 5,.sl 5 g1 none 0 (goO a).length),(.h 5,.obj g1 0 1 ((goO a).map iV))]) (fun(z:List Nat×Nat)=>match z with|(a,g1)=>pop l k a=poolN l (k+1)/\Stk (k+1) a/\a≠[]) (fun(z:List Nat×Nat)=>match z with|(a,g1)=>a.length) (k::st,_) ⟨U,U,U,U,U,trivial⟩ (d3s c) ?_;intro z b;obtain⟨a,g1⟩:=z
  try dsimp only at b
  obtain⟨f,d,i⟩:=b;have q:=d0l d.1 d.2.1;have y:=M8 a;have B:=List.length_pos_iff.2 i;refine A3<|A3<|A0<|y_M U<|G8 U U<|M0 U U<|xN [0,1,5,6,23] [5] U ?_
  refine A4 U ?_ ?_<;>intro e<;>try simp only[SL]at e
  ·refine A7<|B0<|A3<|A0<|y_M U<|G8 U U<|y_S U<|xN [0,1,5,6,7] [5] U<|A3<|A0<|y_M U<|y_M U<|y_M U<|y_M U<|J7 U U (B9 (by omega)) ?_
   rw[show(((goO a).length:Nat):Int)-2=((a.length-1-1:Nat):Int) by rw[M8];omega];refine C9 U U U U (by omega) (by(simp;done)) U<|E6 U U (by omega) (fun _=>U) (fun _=>U) U ?_
   rw[a9i (j:=1) (by omega)];refine y_M U<|y_M U<|J7 U U (B9 (by omega)) ?_
   rw[show(((goO a).length:Nat):Int)-1=((a.length-1-0:Nat):Int) by rw[M8];omega];refine C9 U U U U (by omega) (by(simp;done)) U<|E6 U U (by omega) (fun _=>U) (fun _=>U) U ?_
   rw[a9i (j:=0) (by omega)];have E:=e1b d (by omega);refine J7 U U (B9 (by omega)) ?_;rw[show((a.getD 0 default:Nat):Int)-1=((a.getD 0 default-1:Nat):Int) by omega];apply xC U
   ·apply A8
    ·exact B1 U
    apply A8
    ·exact B1 U
    apply A8
    ·exact B1 U
    apply A8
    ·exact B1 U
    exact C2
   ·exact b8h l m b (a.getD 1 default) (a.getD 0 default-1) (by omega)
   refine⟨⟨U,U,U,dT U,U⟩,.inl U,B2,C8 U,fun _=>U,fun s=> ?_⟩;refine y_A U (fun _=>U) ?_;intro g8;refine xB U U U U U U U U U ?_;refine G7 ⟨fun _=>⟨by(simp only[V5,Zj,Zm,Zz,Ya,Zp];decide+kernel),by decide+kernel⟩,[(.t 0,_),(.t 1,_),(.t 5,_),(.t 6,_),(.t 7,_),(.t 8,_),(.h 5,_),(.h 8,_)],⟨U,U,U,U,U,U,U,U,U,U,U,U,U,U,U,U,trivial⟩,?_⟩;refine A3<|A0<|y_M U<|y_M U<|y_M U<|y_M U<|J7 U U (B9 (by omega)) ?_
   rw[show(((goO a).length:Nat):Int)-1=((a.length-1-0:Nat):Int) by rw[M8];omega];refine C9 U U U U (by omega) (by(simp;done)) U<|E6 U U (by omega) (fun _=>U) (fun _=>U) U ?_
   rw[a9i (j:=0) (by omega)];refine y_M U ?_;apply xC U
   ·apply A8
    ·exact B1 U
    apply A8
    ·exact B1 U
    apply A8
    ·exact B1 U
    apply A8
    ·exact B1 U
    exact C2
   ·exact b8h l m b (a.getD 0 default) k (by omega)
   refine⟨⟨U,U,U,dT U,U⟩,.inl U,B2,C8 U,fun _=>U,fun u=> ?_⟩;refine y_A U (fun _=>U) ?_;intro g9;refine xB U U U U U U U U U<|xN [0,1,5,6,7,8,9] [5,8,9] U<|A3<|A3<|A0<|y_B U<|y_B U ?_
   refine xC2 U U U (f2h (mq l (a.getD 1 default) (a.getD 0 default-1)) (mq l (a.getD 0 default) k) ((d5v m b (by omega)).mono (by decide)) ((d5v m b (by omega)).mono (by decide))) ⟨U,U,U⟩ U U fun v=> ?_
   refine xN [0,1,5,6,7,51] [5] U ?_;refine A4 U ?_ ?_<;>intro e<;>try simp only[SL]at e
   ·have n:¬e3z l k a:=fun h=>h.2 (by exact e)
    refine D6<|A0<|y_M U<|D7 U U (B9 (by omega))<|y_S U<|xN [0,1,5,6] [5] U ?_
    refine⟨(k+1,a,g1),?_,(by simp only;omega),⟨U,U,U,U,U,trivial⟩⟩;exact⟨by omega,by rw[<-f,c9o n]⟩
   have o:e3z l k a:=⟨by omega,by exact e⟩;refine A7<|A0<|y_M U<|y_M U<|J7 U U (B9 (by omega)) ?_
   try rw[<-List.map_take]
   rw[show(((goO a).length:Nat):Int)-1=((a.length-1:Nat):Int) by rw[M8];omega];refine a1j U U U (G1 U) (by omega) U<|a6y U U (by simp) (by rw[<-List.map_take];exact B3 (A6 fun _=>U)) U ?_
   rw[<-List.map_take,d5g i,show a.length-1=(goO a.tail).length by rw[M8,Xx]];refine xN [0,1,5,6] [5] U ?_;refine⟨(a.tail,_),?_,(by simp only;rw[Xx];omega),⟨U,U,U,U,U,trivial⟩⟩;exact⟨by rw[<-e1q o];exact f,d4n d (by omega)⟩
  refine D6<|A0<|y_M U<|D7 U U (B9 (by omega))<|y_S U<|xN [0,1,5,6] [5] U ?_
  refine⟨(k+1,a,g1),?_,(by simp only;omega),⟨U,U,U,U,U,trivial⟩⟩;exact⟨by omega,by rw[<-f,c9o fun h=>by have:=h.1;omega]⟩
 refine D6<|A3<|A0<|y_M U ?_
 (refine xO U U (by simp) U (fun _=>U) (fun _=>U) ?_;intro g4)
 refine xN [4] [4] U<|A9<|J3 U U (by simp) (by exact A6 fun _=>U) trivial ?_
 rw[c,show k=l.length by omega]
theorem d6i:D9 Tryz.f109=[0,1,4]:=by kernel_rfl
theorem f6e(l:List Int)(c:l.length<=1000):CW (cxT oG) 109 [L l,L (V6 l.length)]=some (bV (vlo l),[]):=by
 refine C7 U Tryz.func109 U ⟨by kernel_rfl,U,dT U,dT U,by decide⟩ d6i<|A3<|A0<|y_S U<|xN [0,1] [] U<|A3<|A0<|y_M U<|B8 U U ?_
 refine xC3 U U U U (f4t _ _ _) ⟨U,U,U⟩ U U fun g7=> ?_
 refine y_M U ?_;refine D5 U U ?_ ?_<;>intro a<;>have b:=a<;>try simp only[SG]at b
 ·refine y_M U<|gT U U<|B8 U U<|gT U U<|y_M U<|gT U U<|B8 U U<|gT U U<|K6 U U<|F0 U (by assumption) U U<|y_M U ?_
  refine D5 U U ?_ ?_<;>intro a<;>have b:=a<;>try simp only[SG]at b
  ·refine y_M U<|gT U U ?_
   refine xC3 U U U U (b2z l c (-30) 30) ⟨U,U,U⟩ U U fun g17=> ?_
   refine F0 U (by assumption) U U<|y_M U ?_
   refine D5 U U ?_ ?_<;>intro a<;>have b:=a<;>try simp only[SG]at b
   ·refine y_M U<|gT U U ?_
    refine xC3 U U U U (b2z (V6 l.length) (by rw[P8];exact c) 1 5) ⟨U,U,U⟩ U U fun g21=> ?_
    rw[e4s];refine F0 U (by assumption) U U<|y_S U<|xN [4] [] U<|A9<|C4 U U trivial ?_
    (simp_all[vlo,ofConst];omega)
   refine gF U U<|E8 U (by assumption) U U<|y_S U<|xN [4] [] U<|A9<|C4 U U trivial ?_
   (simp_all[vlo,ofConst];done)
  refine gF U U<|E8 U (by assumption) U U<|y_M U<|H6 U U U<|H6 U U U<|E8 U U U U<|y_S U<|xN [4] [] U<|A9<|C4 U U trivial ?_
  (simp_all[vlo,ofConst];done)
 iterate 4 refine gF U U ?_
 refine E8 U (by assumption) U U<|y_M U<|H6 U U U<|H6 U U U<|E8 U U U U<|y_M U<|H6 U U U<|H6 U U U<|E8 U U U U<|y_S U<|xN [4] [] U<|A9<|C4 U U trivial ?_
 (simp_all[vlo,ofConst];omega)
theorem d6e:D9 Tryz.f34=[0,1,4,5,10,18,6,22,30]:=by kernel_rfl
theorem e9e(l:List Int)(u:l.length<=1000):CW (cxT oG) 34 [L l,L (V6 l.length)]=some (bV (vlo l),[]):=by
 refine C7 U Tryz.func34 U ⟨by kernel_rfl,U,dT U,dT U,by decide⟩ d6e<|A3<|A0<|y_S U<|xN [0,1] [] U<|A3<|A3<|A0<|y_S U<|xN [0,1,5] [] U<|B0<|D8 (β:=Nat) [(.t 0,_),(.t 1,_)] (fun(i:Nat)=>[(.t 5,iV i)]) (fun(i:Nat)=>i<=l.length) (fun(i:Nat)=>l.length-i) 0 ⟨U,U,U,trivial⟩ (Zv _) ?_
 intro i e;have p:=e;have s:=P8 l.length;refine A3<|A3<|A0<|y_M U<|y_M U<|B8 U U<|F4 U U<|xN [0,1,5,10] [] U ?_
 refine A4 U ?_ ?_<;>intro b<;>try simp only[SL]at b
 ·refine A7<|A3<|B0<|A3<|A0<|y_M U<|y_M U<|B7 U U U (fun _=>U) (by omega)<|y_I U ?_
  rw[a4v (by simpa using b)];refine xC3 U U U U (a1f _ _ _) ⟨U,U,U⟩ U U fun g17=> ?_
  refine H8 U<|xN [0,1,5,18] [] U ?_
  refine A4 U (fun b=> ?_) (fun b=> ?_)
  ·try simp only[SD]at b
   simp at b
  try simp only[SL]at b
  refine A7<|A0<|y_M U<|D7 U U (B9 (by omega))<|y_S U<|xN [0,1,5] [] U ?_
  refine⟨i+1,(by omega),(by omega),⟨U,U,U,trivial⟩⟩
 refine D6<|A3<|A3<|A0<|y_S U<|xN [0,1,6] [] U<|B0<|D8 (β:=Nat) [(.t 0,_),(.t 1,_)] (fun(k:Nat)=>[(.t 6,iV k)]) (fun(k:Nat)=>k<=l.length/\∀j,j<k->-30<=l.getD j default/\l.getD j default<=30) (fun(k:Nat)=>l.length-k) 0 ⟨U,U,U,trivial⟩ ⟨Zv _,fun j h=>by omega⟩ ?_
 intro k e;obtain⟨r,c⟩:=e;refine A3<|A3<|A0<|y_M U<|y_M U<|B8 U U<|F4 U U<|xN [0,1,6,22] [] U ?_
 refine A4 U ?_ ?_<;>intro b<;>try simp only[SL]at b
 ·refine A7<|A3<|B0<|A3<|A0<|y_M U<|y_M U<|B7 U U U (fun _=>U) (by omega)<|y_I U ?_
  refine xC3 U U U U (a1f _ _ _) ⟨U,U,U⟩ U U fun g=> ?_
  refine H8 U<|xN [0,1,6,30] [] U ?_
  refine A4 U ?_ ?_<;>intro b<;>try simp only[SL]at b
  ·refine A3<|A0<|y_S U<|xN [4] [] U<|A9<|C4 U U trivial ?_
   exact congrArg bV (f1q (show k<l.length by omega) (by omega)).symm
  refine A7<|A0<|y_M U<|D7 U U (B9 (by omega))<|y_S U<|xN [0,1,6] [] U ?_
  refine⟨k+1,⟨by omega,fun a n=>by rcases Yx.1 n with h|h;exact c a h;subst h;exact(by simpa using b)⟩,(by omega),⟨U,U,U,trivial⟩⟩
 refine D6<|A3<|A0<|y_M U<|B8 U U<|y_M U<|B8 U U<|K6 U U<|y_M U ?_
 refine D5 U U ?_ ?_<;>intro f<;>have o:=f<;>try simp only[SG]at o
 ·refine y_M U<|gT U U<|B8 U U<|gT U U ?_
  refine xC3 U U U U (a1f _ _ _) ⟨U,U,U⟩ U U fun m=> ?_
  refine F0 U (by assumption) U U<|y_S U<|xN [4] [] U<|A9<|C4 U U trivial ?_
  have d:a1c (-30) 30 l=true:=e3d fun j q=>c j (by omega)
  (refine congrArg bV ?_;rw[vlo,d,Bool.and_true];congr 1<;>exact decide_eq_decide.2 (by omega))
 refine gF U U<|gF U U<|E8 U (by assumption) U U<|y_S U<|xN [4] [] U<|A9<|C4 U U trivial ?_
 have d:a1c (-30) 30 l=true:=e3d fun j q=>c j (by omega)
 (exfalso;omega)
theorem c3m:D9 Tryz.f35=[0,2,6,3]:=by kernel_rfl
theorem d2g(n:Nat)(e:n<=1000):CW (cxT oG) 35 [nV n]=some (.own 1 ((V6 n).map iV),[]):=by
 refine C7 U Tryz.func35 U ⟨by kernel_rfl,U,dT U,dT U,by decide⟩ c3m<|A3<|A0 ?_
 (refine B4 U U (fun _=>U) ?_;intro g2)
 refine xN [0] [] U<|A3<|A0<|B6 (es:=Zw iV []) U U (dT U) U U (fun _=>B3 (A6 fun _=>U)) (fun _=>U) ?_
 intro g4
 (refine xO U U (by simp) U (fun _=>U) (fun _=>U) ?_;intro g3)
 refine xN [0,3] [3] U<|A3<|B0<|a5t (β:=Nat×Nat×Nat) (fun(z:Nat×Nat×Nat)=>match z with|(i,j,g)=>[(.t 0,nV j),(.t 3,.sl 3 g none 0 (V6 i).length),(.h 3,.obj g 0 1 ((V6 i).map iV))]) (fun(z:Nat×Nat×Nat)=>match z with|(i,j,g)=>i+j=n) (fun(z:Nat×Nat×Nat)=>match z with|(i,j,g)=>j) (0,n,_) ⟨U,U,U,trivial⟩ (ZL _) ?_
 intro z a;obtain⟨i,j,g⟩:=z
 try dsimp only at a
 have c:=a;have d:=P8 i;refine A3<|A3<|A0<|y_M U<|M0 U U<|xN [0,3,6] [3] U ?_
 refine A4 U ?_ ?_<;>intro b<;>try simp only[SL]at b
 ·refine A7<|A3<|B0<|A0<|y_M U<|B6 (es:=Zw iV [1]) U U (dT U) U U (fun _=>B3 (A6 fun _=>U)) (fun _=>U) ?_
  intro g10;refine xA U U U U (by simp) (by simp) U U U U U (fun _=>U) (by simp only[LN];omega) (fun _=>U) ?_;intro g11
  (refine xO U U (by simp) U (fun _=>U) (fun _=>U) ?_;intro g3)
  refine xN [0,3] [3] U<|A0<|y_M U<|J7 U U (B9 (by omega))<|y_S U<|xN [0,3] [3] U ?_
  rw[e5t,show((j:Int)-1)=((j-1:Nat):Int) by omega];refine⟨(i+1,j-1,_),?_,(by simp only;omega),⟨U,U,U,trivial⟩⟩;omega
 refine D6<|A3<|A0<|y_M U ?_
 (refine xO U U (by simp) U (fun _=>U) (fun _=>U) ?_;intro g2)
 refine xN [2] [2] U<|A9<|J3 U U (by simp) (by exact A6 fun _=>U) trivial ?_
 rw[show i=n by omega]
theorem c3j:D9 Tryz.f60=[0,1,2,6,8,15,24,9,10,36,7]:=by kernel_rfl
theorem e7e(l:List Int)(v:l.length<=8)(e:∀x∈l,-30<=x/\x<=30)(w:vlo l=true):CW (cxT oG) 60 [L l,L (V6 l.length),L ((bsR l).map Int.ofNat)]=some (.own 2 ((riseQ l).map qV),[]):=by
 have D:∀x,x<l.length->-30<=l.getD x default/\l.getD x default<=30:=fun x h=>e _ (N3 h)
 have E:=P8 l.length;have d:=b8d w;have B:(bsR l).length=(poolN l l.length).length:=by simp[bsR]
 have F:=a8i l l.length;have y:=d0q d;have C:((bsR l).map Int.ofNat).length=(bsR l).length:=Zi ..;refine C7 U Tryz.func60 U ⟨by kernel_rfl,U,dT U,dT U,by decide⟩ c3j<|A3<|A0 ?_
 (refine B4 U U (fun _=>U) ?_;intro g6)
 refine xN [0,1,2] [] U<|A3<|A0<|B6 (es:=Zw qV []) U U (dT U) U U (fun _=>B3 (A6 fun _=>U)) (fun _=>U) ?_
 intro g11
 (refine xO U U (by simp) U (fun _=>U) (fun _=>U) ?_;intro g7)
 refine xN [0,1,2,7] [7] U<|A3<|A3<|A0<|y_S U<|xN [0,1,2,7,8] [7] U<|B0<|D8 (β:=Nat×List Rat×Nat) [(.t 0,_),(.t 1,_),(.t 2,_)] (fun(z:Nat×List Rat×Nat)=>match z with|(b,f,g)=>[(.t 8,nV b),(.t 7,.sl 7 g none 0 f.length),(.h 7,.obj g 0 2 (f.map qV))]) (fun(z:Nat×List Rat×Nat)=>match z with|(b,f,g)=>b<=(bsR l).length/\f=spr l (bsR l) b) (fun(z:Nat×List Rat×Nat)=>match z with|(b,f,g)=>(bsR l).length-b) (0,[],_) ⟨U,U,U,U,U,U,trivial⟩ ⟨Zv _,U⟩ ?_
 intro z e;obtain⟨b,f,g⟩:=z
 try dsimp only at e
 obtain⟨A,m⟩:=e;refine A3<|A3<|A0<|y_M U<|y_M U<|B8 U U<|F4 U U<|xN [0,1,2,7,8,15] [7] U ?_
 refine A4 U ?_ ?_<;>intro i<;>try simp only[SL]at i
 ·refine A7<|A3<|B0<|A3<|A0<|y_M U<|B8 U U ?_
  try rw[a4f (j:=b+1) (by omega)]
  refine y_S U<|xN [0,1,2,7,8,9] [7] U<|A3<|A3<|A0<|y_M U<|D7 U U (B9 (by omega))<|y_M U<|B8 U U<|F4 U U<|xN [0,1,2,7,8,9,24] [7] U ?_
  refine A4 U ?_ ?_<;>intro i<;>try simp only[SL]at i
  ·have k:nxt (bsR l) l.length b=(bsR l).getD (b+1) default:=by unfold nxt;rw[if_pos (by omega)]
   refine A0<|y_M U<|y_M U<|D7 U U (B9 (by omega))<|B7 U U U (fun _=>U) (by(simp;omega))<|y_I U ?_
   try rw[a4f (j:=b+1) (by omega)]
   refine y_S U<|xN [0,1,2,7,8,9] [7] U<|A3<|A0<|y_M U<|y_M U<|B7 U U U (fun _=>U) (by omega)<|y_I U ?_
   try rw[a4f (j:=b) (by omega)]
   refine y_S U<|xN [0,1,2,7,8,9,10] [7] U<|B0 ?_
   have G:=d.2.2 b (by omega);have s:=b1f d b (by omega);refine D8 (β:=Nat×List Rat×Nat) [(.t 0,_),(.t 1,_),(.t 2,_),(.t 8,_),(.t 9,_)] (fun(z:Nat×List Rat×Nat)=>match z with|(x,a,g1)=>[(.t 10,nV x),(.t 7,.sl 7 g1 none 0 a.length),(.h 7,.obj g1 0 2 (a.map qV))]) (fun(z:Nat×List Rat×Nat)=>match z with|(x,a,g1)=>(bsR l).getD b default<=x/\x<=((bsR l).getD (b+1) default)/\a=spr l (bsR l) b++ZP (x-(bsR l).getD b default) (mq l ((bsR l).getD b default) (((bsR l).getD (b+1) default)-1))) (fun(z:Nat×List Rat×Nat)=>match z with|(x,a,g1)=>l.length-x) ((bsR l).getD b default,f,_) ⟨U,U,U,U,U,U,U,U,trivial⟩ ⟨Zd _,by omega,by rw[Nat.sub_self,XC,Zm];exact m⟩ ?_;intro z e;obtain⟨x,a,g1⟩:=z
   try dsimp only at e
   obtain⟨n,u,c⟩:=e;have r:a.length=x:=by rw[c,Zf,Xa];omega
   refine A3<|A3<|A0<|y_M U<|y_M U<|F4 U U<|xN [0,1,2,7,8,9,10,36] [7] U ?_
   refine A4 U ?_ ?_<;>intro i<;>try simp only[SL]at i
   ·refine A7<|A3<|B0<|A0 ?_
    iterate 5 refine y_M U ?_
    refine B7 U U U (fun _=>U) (by omega)<|y_I U ?_
    rw[a4f (j:=b) (by omega)];refine y_M U<|J7 U U (B9 (by omega)) ?_
    rw[show((((bsR l).getD (b+1) default):Nat):Int)-1=((((bsR l).getD (b+1) default)-1:Nat):Int) by omega];apply xC U
    ·apply A8
     ·exact B1 U
     apply A8
     ·exact B1 U
     apply A8
     ·exact B1 U
     apply A8
     ·exact B1 U
     exact C2
    ·exact b8h l v e ((bsR l).getD b default) (((bsR l).getD (b+1) default)-1) (by omega)
    refine⟨⟨U,U,U,dT U,U⟩,.inl U,B2,C8 U,fun _=>U,fun o=> ?_⟩;refine B6 (es:=Zw qV [(mq l ((bsR l).getD b default) (((bsR l).getD (b+1) default)-1))]) U U (dT U) U U (fun _=>B3 (A6 fun _=>U)) (fun _=>U) ?_;intro p;refine xA U U U U (by simp) (by simp) U U U U U (fun _=>U) (by simp only[LN];omega) (fun _=>U) ?_;intro q
    (refine xO U U (by simp) U (fun _=>U) (fun _=>U) ?_;intro g7)
    refine xN [0,1,2,7,8,9,10] [7] U<|A0<|y_M U<|D7 U U (B9 (by omega)) ?_
    try rw[a4f (j:=b) (by omega)]
    refine y_S U<|xN [0,1,2,7,8,9,10] [7] U ?_
    refine⟨(x+1,a++[(mq l ((bsR l).getD b default) (((bsR l).getD (b+1) default)-1))],_),?_,(by simp only;omega),⟨U,U,U,U,U,U,U,U,trivial⟩⟩;exact⟨by omega,by omega,by rw[c9t _ _ _ _ _ n,<-c]⟩
   refine D6<|A0<|y_M U<|D7 U U (B9 (by omega))<|y_S U<|xN [0,1,2,7,8] [7] U ?_
   refine⟨(b+1,a,_),?_,(by simp only;omega),⟨U,U,U,U,U,U,trivial⟩⟩;exact⟨by omega,by rw[a7r,blk,k];(rw[show x=(bsR l).getD (b+1) default by omega]at c;exact c)⟩
  have k:nxt (bsR l) l.length b=l.length:=by unfold nxt;rw[if_neg (by omega)]
  refine A7<|A3<|A0<|y_M U<|y_M U<|B7 U U U (fun _=>U) (by omega)<|y_I U ?_
  try rw[a4f (j:=b) (by omega)]
  refine y_S U<|xN [0,1,2,7,8,9,10] [7] U<|B0 ?_
  have G:=d.2.2 b (by omega);have s:=b1f d b (by omega);refine D8 (β:=Nat×List Rat×Nat) [(.t 0,_),(.t 1,_),(.t 2,_),(.t 8,_),(.t 9,_)] (fun(z:Nat×List Rat×Nat)=>match z with|(x,a,g1)=>[(.t 10,nV x),(.t 7,.sl 7 g1 none 0 a.length),(.h 7,.obj g1 0 2 (a.map qV))]) (fun(z:Nat×List Rat×Nat)=>match z with|(x,a,g1)=>(bsR l).getD b default<=x/\x<=l.length/\a=spr l (bsR l) b++ZP (x-(bsR l).getD b default) (mq l ((bsR l).getD b default) (l.length-1))) (fun(z:Nat×List Rat×Nat)=>match z with|(x,a,g1)=>l.length-x) ((bsR l).getD b default,f,_) ⟨U,U,U,U,U,U,U,U,trivial⟩ ⟨Zd _,by omega,by rw[Nat.sub_self,XC,Zm];exact m⟩ ?_;intro z e;obtain⟨x,a,g1⟩:=z
  try dsimp only at e
  obtain⟨n,u,c⟩:=e;have r:a.length=x:=by rw[c,Zf,Xa];omega
  refine A3<|A3<|A0<|y_M U<|y_M U<|F4 U U<|xN [0,1,2,7,8,9,10,36] [7] U ?_
  refine A4 U ?_ ?_<;>intro i<;>try simp only[SL]at i
  ·refine A7<|A3<|B0<|A0 ?_
   iterate 5 refine y_M U ?_
   refine B7 U U U (fun _=>U) (by omega)<|y_I U ?_
   rw[a4f (j:=b) (by omega)];refine y_M U<|J7 U U (B9 (by omega)) ?_
   rw[show((l.length:Nat):Int)-1=((l.length-1:Nat):Int) by omega];apply xC U
   ·apply A8
    ·exact B1 U
    apply A8
    ·exact B1 U
    apply A8
    ·exact B1 U
    apply A8
    ·exact B1 U
    exact C2
   ·exact b8h l v e ((bsR l).getD b default) (l.length-1) (by omega)
   refine⟨⟨U,U,U,dT U,U⟩,.inl U,B2,C8 U,fun _=>U,fun o=> ?_⟩;refine B6 (es:=Zw qV [(mq l ((bsR l).getD b default) (l.length-1))]) U U (dT U) U U (fun _=>B3 (A6 fun _=>U)) (fun _=>U) ?_;intro p;refine xA U U U U (by simp) (by simp) U U U U U (fun _=>U) (by simp only[LN];omega) (fun _=>U) ?_;intro q
   (refine xO U U (by simp) U (fun _=>U) (fun _=>U) ?_;intro g7)
   refine xN [0,1,2,7,8,9,10] [7] U<|A0<|y_M U<|D7 U U (B9 (by omega)) ?_
   try rw[a4f (j:=b) (by omega)]
   refine y_S U<|xN [0,1,2,7,8,9,10] [7] U ?_
   refine⟨(x+1,a++[(mq l ((bsR l).getD b default) (l.length-1))],_),?_,(by simp only;omega),⟨U,U,U,U,U,U,U,U,trivial⟩⟩;exact⟨by omega,by omega,by rw[c9t _ _ _ _ _ n,<-c]⟩
  refine D6<|A0<|y_M U<|D7 U U (B9 (by omega))<|y_S U<|xN [0,1,2,7,8] [7] U ?_
  refine⟨(b+1,a,_),?_,(by simp only;omega),⟨U,U,U,U,U,U,trivial⟩⟩;exact⟨by omega,by rw[a7r,blk,k];(rw[show x=l.length by omega]at c;exact c)⟩
 refine D6<|A3<|A0<|y_M U ?_
 (refine xO U U (by simp) U (fun _=>U) (fun _=>U) ?_;intro g6)
 refine xN [6] [6] U<|A9<|J3 U U (by simp) (by exact A6 fun _=>U) trivial ?_
 rw[m,riseQ,if_pos w,show b=(bsR l).length by omega]
theorem d4s:D9 Tryz.f110=[0,1,4,6,23,22,24,7,9,49,8,5,38]:=by kernel_rfl
theorem f4m(l:List Int)(o:l.length<=8)(e:∀x∈l,-30<=x/\x<=30)(q:vlo l=true):CW (cxT oG) 110 [L l,L (V6 l.length)]=some (.own 2 ((riseQ l).map qV),[]):=by
 have w:∀x,x<l.length->-30<=l.getD x default/\l.getD x default<=30:=fun x h=>e _ (N3 h)
 have A:=P8 l.length;have d:=b8d q;have v:(bsR l).length=(poolN l l.length).length:=by simp[bsR]
 have B:=a8i l l.length;have j:=d0q d;refine C7 U Tryz.func110 U ⟨by kernel_rfl,U,dT U,dT U,by decide⟩ d4s<|A3<|A0 ?_
 (refine B4 U U (fun _=>U) ?_;intro g4)
 refine xN [0,1] [] U<|A3<|A0<|y_M U<|B8 U U<|a2b (f:=d6q) (x0:=(0,0)) U U U U U (by simp only[H0];omega) (dT U) (fun _=>B3 (by exact A6 fun _=>U)) (fun _=>U) ?_
 intro g12
 (refine xO U U (by simp) U (fun _=>U) (fun _=>U) ?_;intro g5)
 refine xN [0,1,5] [5] U<|A3<|A0<|y_M U<|y_M U ?_
 apply xC U
 ·apply A8
  ·exact B1 U
  apply A8
  ·exact B1 U
  exact C2
 ·exact e6j l o e
 refine⟨⟨U,U,U,dT U,U⟩,.inl U,B2,H4,fun _=>U,fun g15=> ?_⟩;simp only[Zi];refine y_M U<|B8 U U<|B6 (es:=Zw iV [(l.length:Int)]) U U (dT U) U U (fun _=>B3 (A6 fun _=>U)) (fun _=>U) ?_
 intro g18;refine R5 U U U U (by(simp;done)) (by simp) (by decide) U U U U (dT U) (fun _=>⟨U,U⟩) (by simp only[H0];(simp;omega)) (fun _=>U) ?_;intro g19
 (refine xO U U (by simp) U (fun _=>U) (fun _=>U) ?_;intro g6)
 refine xN [0,1,5,6] [5,6] U<|A3<|A3<|A0 ?_
 rw[show goO (poolN l l.length)++[(l.length:Int)]=bsE l from U];have u:(bsE l).length=(bsR l).length+1:=by rw[d9o];simp
 refine y_M U<|G8 U U<|J7 U U (B9 (by omega))<|y_M U<|xN [0,1,5,6,22,23] [5,6] U<|B0<|D8 (β:=Nat×List (Int×Int)) [(.t 0,_),(.t 1,_),(.t 5,_),(.t 6,_),(.t 22,_),(.h 6,_)] (fun(z:Nat×List (Int×Int))=>match z with|(b,i)=>[(.t 23,nV b),(.h 5,.obj g5 0 2 (i.map d6q))]) (fun(z:Nat×List (Int×Int))=>match z with|(b,i)=>b<=(bsR l).length/\Lay l.length (spr l (bsR l) b) i) (fun(z:Nat×List (Int×Int))=>match z with|(b,i)=>(bsR l).length-b) (0,ZP l.length (0,0)) ⟨U,U,U,U,U,U,U,U,trivial⟩ ⟨Zv _,f0k _⟩ ?_
 intro z e;obtain⟨b,i⟩:=z
 try dsimp only at e
 obtain⟨s,g⟩:=e;have m:=e3g g;refine A3<|A0<|F4 U U<|xN [0,1,5,6,22,23,24] [5,6] U<|A3 ?_
 refine A4 U ?_ ?_<;>intro k<;>try simp only[SL]at k
 ·refine A7<|A3<|B0<|A3<|A0<|y_M U<|y_S U<|xN [0,1,5,6,7,22,23] [5,6] U<|A3<|A0<|y_M U<|y_M U<|y_M U<|y_M U ?_
  have E:=d.2.2 b (by omega);have C:=b1f d b (by omega);refine C9 U U U U (by omega) (by(simp;done)) U<|E6 U U (by omega) (fun _=>U) (fun _=>U) U ?_
  rw[b8n (by omega)];refine y_M U<|y_M U<|D7 U U (B9 (by omega))<|C9 U U U U (by(simp;omega)) (by(simp;done)) U<|E6 U U (by(simp;omega)) (fun _=>U) (fun _=>U) U ?_
  rw[e1s (by omega)];refine J7 U U (B9 (by omega)) ?_;rw[show((nxt (bsR l) l.length b:Nat):Int)-1=((nxt (bsR l) l.length b-1:Nat):Int) by omega];apply xC U
  ·apply A8
   ·exact B1 U
   apply A8
   ·exact B1 U
   apply A8
   ·exact B1 U
   apply A8
   ·exact B1 U
   exact C2
  ·exact c9r l o e ((bsR l).getD b default) (nxt (bsR l) l.length b-1) (by omega)
  refine⟨⟨U,U,U,dT U,U⟩,.inl U,B2,C8 U,fun _=>U,fun r=> ?_⟩;refine y_A U (fun _=>U) ?_;intro g8;refine xB U U U U U U U U U ?_;refine G7 ⟨fun _=>⟨by(simp only[V5,Zj,Zm,Zz,Ya,Zp];decide+kernel),by decide+kernel⟩,[(.t 0,_),(.t 1,_),(.t 5,_),(.t 6,_),(.t 7,_),(.t 8,_),(.t 22,_),(.t 23,_),(.h 5,_),(.h 6,_),(.h 8,_)],⟨U,U,U,U,U,U,U,U,U,U,U,U,U,U,U,U,U,U,U,U,U,U,trivial⟩,?_⟩;refine A3<|A0<|y_M U<|y_M U<|C9 U U U U (by omega) (by(simp;done)) U<|E6 U U (by omega) (fun _=>U) (fun _=>U) U ?_
  try rw[b8n (by omega)]
  refine y_S U<|xN [0,1,5,6,7,8,9,22,23] [5,6,8] U<|B0<|D8 (β:=Nat×List (Int×Int)) [(.t 0,_),(.t 1,_),(.t 5,_),(.t 6,_),(.t 7,_),(.t 8,_),(.t 22,_),(.t 23,_),(.h 6,_),(.h 8,_)] (fun(z:Nat×List (Int×Int))=>match z with|(x,a)=>[(.t 9,nV x),(.h 5,.obj g5 0 2 (a.map d6q))]) (fun(z:Nat×List (Int×Int))=>match z with|(x,a)=>(bsR l).getD b default<=x/\x<=nxt (bsR l) l.length b/\Lay l.length (spr l (bsR l) b++ZP (x-(bsR l).getD b default) (mq l ((bsR l).getD b default) (nxt (bsR l) l.length b-1))) a) (fun(z:Nat×List (Int×Int))=>match z with|(x,a)=>l.length-x) ((bsR l).getD b default,i) ⟨U,U,U,U,U,U,U,U,U,U,U,U,trivial⟩ ⟨Zd _,by omega,by rw[Nat.sub_self,XC,Zm];exact g⟩ ?_
  intro z e;obtain⟨x,a⟩:=z
  try dsimp only at e
  obtain⟨n,D,c⟩:=e;have p:=e3g c;refine A3<|A3<|A0<|y_M U<|y_M U<|y_M U<|D7 U U (B9 (by omega))<|C9 U U U U (by(simp;omega)) (by(simp;done)) U<|E6 U U (by(simp;omega)) (fun _=>U) (fun _=>U) U ?_
  rw[e1s (by omega)];refine F4 U U<|xN [0,1,5,6,7,8,9,22,23,49] [5,6,8] U ?_
  refine A4 U ?_ ?_<;>intro k<;>try simp only[SL]at k
  ·refine A7<|A3<|B0<|A0<|y_M U<|y_M U<|y_B U<|C9 U U U U (by omega) (by(simp;omega)) U<|c9i (y:=(prq (mq l ((bsR l).getD b default) (nxt (bsR l) l.length b-1)))) U U U (by omega) U ⟨U,dT U,dT U,U⟩ (by decide) U (by exact B3 (A6 fun _=>U))<|xN [0,1,5,6,7,8,9,22,23] [5,6,8] U<|A0<|y_M U<|D7 U U (B9 (by omega)) ?_
   try rw[b8n (by omega)]
   refine y_S U<|xN [0,1,5,6,7,8,9,22,23] [5,6,8] U ?_
   refine⟨(x+1,a.set x (prq (mq l ((bsR l).getD b default) (nxt (bsR l) l.length b-1)))),?_,(by simp only;omega),⟨U,U,U,U,U,U,U,U,U,U,U,U,trivial⟩⟩;exact⟨by omega,by omega,by rw[c9t _ _ _ _ _ n];exact f1u c (by rw[Zf,Xa];omega) (by omega) _⟩
  refine D6<|A0<|D7 U U (B9 (by omega))<|y_M U<|xN [0,1,5,6,22,23] [5,6] U ?_
  refine⟨(b+1,a),?_,(by simp only;omega),⟨U,U,U,U,U,U,U,U,trivial⟩⟩;exact⟨by omega,by rw[a7r,blk];rw[show x=nxt (bsR l) l.length b by omega]at c;exact c⟩
 refine D6<|A3<|A0<|y_M U ?_
 (refine I9 U U (by(simp;omega)) U (fun _=>(B3 (by exact A6 fun _=>U))) (fun _=>U) ?_;intro g4)
 refine xN [4] [4] U<|A9<|J3 U U (by simp[m]) (by exact A6 fun _=>U) trivial ?_
 rw[f1v g (by rw[show b=(bsR l).length by omega];exact j),riseQ,if_pos q,show b=(bsR l).length by omega,List.map_map]
 rfl
theorem c7s:D9 Tryz.f81=[0,1,4,8]:=by kernel_rfl
theorem f3u(l:List Int)(e:l.length<=1000):CW (cxT oG) 81 [L l,L (V6 l.length)]=some (.own 2 ((riseQ l).map qV),[]):=by
 refine C7 U Tryz.func81 U ⟨by kernel_rfl,U,dT U,dT U,by decide⟩ c7s<|A3<|A0 ?_
 (refine B4 U U (fun _=>U) ?_;intro g4)
 refine xN [0,1] [] U<|A3<|A3<|A0<|y_M U<|y_M U ?_
 refine xC2 U U U (f6e l e) ⟨U,U,U⟩ U U fun g7=> ?_
 refine H8 U<|xN [0,1,8] [] U ?_
 refine A4 U ?_ ?_<;>intro d<;>try simp only[SL]at d
 ·refine A3<|A0 ?_
  (refine B4 U U (fun _=>U) ?_;intro g4)
  refine xN [4] [4] U<|A9<|J3 U U (by simp) (by rfl) trivial ?_
  (rw[b2d (by simp_all)];rfl)
 have a:vlo l=true:=by simp_all
 obtain⟨⟨f,b⟩,c⟩:=a6p.1 a;refine A7<|A3<|A0<|y_M U<|y_M U ?_
 apply xC U
 ·apply A8
  ·exact B1 U
  apply A8
  ·exact B1 U
  exact C2
 ·exact f4m l b c a
 refine⟨⟨U,U,U,dT U,U⟩,.inl U,B2,H4,fun _=>U,fun g11=> ?_⟩
 (refine xO U U (by simp) U (fun _=>U) (fun _=>U) ?_;intro g4)
 refine xN [4] [4] U<|A9<|J3 U U (by simp) (by exact A6 fun _=>U) trivial ?_
 rfl
theorem c8c:D9 Tryz.f37=[0,1,4,8]:=by kernel_rfl
theorem f1t(l:List Int)(e:l.length<=1000):CW (cxT oG) 37 [L l,L (V6 l.length)]=some (.own 2 ((riseQ l).map qV),[]):=by
 refine C7 U Tryz.func37 U ⟨by kernel_rfl,U,dT U,dT U,by decide⟩ c8c<|A3<|A0 ?_
 (refine B4 U U (fun _=>U) ?_;intro g4)
 refine xN [0,1] [] U<|A3<|A3<|A0<|y_M U<|y_M U ?_
 refine xC2 U U U (e9e l e) ⟨U,U,U⟩ U U fun g7=> ?_
 refine H8 U<|xN [0,1,8] [] U ?_
 refine A4 U ?_ ?_<;>intro d<;>try simp only[SL]at d
 ·refine A3<|A0 ?_
  (refine B4 U U (fun _=>U) ?_;intro g4)
  refine xN [4] [4] U<|A9<|J3 U U (by simp) (by rfl) trivial ?_
  (rw[b2d (by simp_all)];rfl)
 have c:vlo l=true:=by simp_all
 obtain⟨⟨f,a⟩,b⟩:=a6p.1 c;refine A7<|A3<|A0<|y_M U<|y_M U<|y_M U<|y_M U ?_
 apply xC U
 ·apply A8
  ·exact B1 U
  apply A8
  ·exact B1 U
  exact C2
 ·exact f5l l a b
 refine⟨⟨U,U,U,dT U,U⟩,.inl U,B2,H4,fun _=>U,fun g13=> ?_⟩;rw[show goO (poolN l l.length)=(bsR l).map Int.ofNat from U];apply xC U
 ·apply A8
  ·exact B1 U
  apply A8
  ·exact B1 U
  apply A8
  ·exact E7 U U U (by(simp;done)) (fun _=>U)
  exact C2
 ·exact e7e l a b c
 refine⟨⟨U,U,U,dT U,U⟩,.inr ⟨P7 fun _=>U,U⟩,B2,H4,fun _=>U,fun g14=> ?_⟩
 (refine xO U U (by simp) U (fun _=>U) (fun _=>U) ?_;intro g4)
 refine xN [4] [4] U<|A9<|J3 U U (by simp) (by exact A6 fun _=>U) trivial ?_
 rfl
theorem c7l:D9 Tryz.f161=[0,2]:=by kernel_rfl
theorem e2u(x:Int):CW (cxT oG) 161 [iV x]=some (bV false,[]):=by
 refine C7 U Tryz.func161 U ⟨by kernel_rfl,U,dT U,dT U,by decide⟩ c7l<|A3<|A0<|y_S U<|xN [0] [] U<|A3<|A0<|y_M U<|y_M U<|b0i U U<|y_S U<|xN [2] [] U<|A9<|C4 U U trivial ?_
 simp
theorem c1m:D9 Tryz.f145=[0,1,4,5,11,6,12,13,16,19]:=by kernel_rfl
theorem e4m(x y:Int):CW (cxT oG) 145 [iV x,iV y]=some (iV (c3s x y),[]):=by
 refine C7 U Tryz.func145 U ⟨by kernel_rfl,U,dT U,dT U,by decide⟩ c1m<|A3<|A0<|y_S U<|xN [0,1] [] U<|A3<|A0<|y_M U ?_
 refine xC1 U U (e2u x) ⟨U,U,U⟩ U U fun g8=> ?_
 refine y_S U<|xN [0,1,5] [] U<|A3<|A0<|y_M U ?_
 refine xC1 U U (e2u y) ⟨U,U,U⟩ U U fun g10=> ?_
 refine y_S U<|xN [0,1,5,6] [] U<|A3<|A3<|A0<|y_M U<|xN [0,1,6,11] [] U ?_
 refine A4 U (fun a=>absurd a (by decide)) (fun a=> ?_);refine A7<|A3<|A3<|A0<|y_M U<|xN [0,1,13] [] U ?_
 refine A4 U (fun a=>absurd a (by decide)) (fun a=> ?_);refine A7<|A3<|A3<|A0<|y_M U<|y_M U<|F4 U U<|xN [0,1,16] [] U ?_
 refine A4 U ?_ ?_<;>intro a<;>try simp only[SL]at a
 ·refine A3<|A0<|y_S U<|xN [4] [] U<|A9<|C4 U U trivial ?_
  unfold c3s;rw[if_pos a];rfl
 refine A7<|A3<|A3<|A0<|y_M U<|y_M U<|M0 U U<|xN [19] [] U ?_
 refine A4 U ?_ ?_<;>intro a<;>try simp only[SL]at a
 ·refine A3<|A0<|y_S U<|xN [4] [] U<|A9<|C4 U U trivial ?_
  unfold c3s;rw[if_neg (by omega),if_pos a];rfl
 refine A7<|A3<|A0<|y_S U<|xN [4] [] U<|A9<|C4 U U trivial ?_
 unfold c3s;rw[if_neg (by omega),if_neg (by omega)];rfl
theorem c2e:D9 Tryz.f144=[0,1,2,5]:=by kernel_rfl
theorem e6c(l:List Int)(e:l.length<=1000)(a b:Nat)(c:a<l.length)(d:b<l.length):CW (cxT oG) 144 [nV a,nV b,.ipt (L l) 0]=some (iV (c3s (l.getD a default) (l.getD b default)),[]):=by
 refine C7 U Tryz.func144 U ⟨by kernel_rfl,U,dT U,dT U,by decide⟩ c2e<|A3<|A0<|y_S U<|xN [0,1,2] [] U<|A3<|A0<|y_I U<|y_M U<|B7 U U U (fun _=>U) (by omega)<|y_I U<|y_I U<|y_M U<|B7 U U U (fun _=>U) (by omega)<|y_I U ?_
 refine xC2 U U U (e4m _ _) ⟨U,U,U⟩ U U fun g14=> ?_
 refine y_S U ?_;refine G7 ⟨fun _=>⟨by(simp only[V5,Zj,Zm,Zz,Ya,Zp];decide+kernel),by decide+kernel⟩,[(.t 5,_)],⟨U,U,trivial⟩,?_⟩;refine A9<|C4 U U trivial ?_
 rfl
theorem c0b:D9 Tryz.f179=[0,1,2,3,8,14,9,34]:=by kernel_rfl
theorem e3v(l:List Int)(A:l.length<=6)(B:1<=l.length)(d1:List Nat)(n:Ord l 1 d1):∃res outs,(fun res outs=>∃d:List Nat,res= .tup []/\outs=[d.map nV]/\Ord l l.length d) res outs/\CW (cxT oG) 179 [.own 1 (d1.map nV),iV 0,iV l.length,.clo 144 [.ipt (L l) 0]]=some (res,outs):=by
 have o:=n.1;refine M3 U Tryz.func179 U ⟨by kernel_rfl,U,dT U,dT U,by decide⟩ c0b<|A3<|A0<|y_M U<|D7 U U (B9 (by omega))<|y_S U<|xN [0,1,2,3,8] [0] U<|B0<|D8 (β:=Nat×List Nat) [(.t 0,_),(.t 1,_),(.t 2,_),(.t 3,_)] (fun(z:Nat×List Nat)=>match z with|(i,d0)=>[(.t 8,iV i),(.h 0,.obj 1 1 1 (d0.map nV))]) (fun(z:Nat×List Nat)=>match z with|(i,d0)=>1<=i/\Ord l i d0) (fun(z:Nat×List Nat)=>match z with|(i,d0)=>l.length-i) (1,d1) ⟨U,U,U,U,U,U,trivial⟩ ⟨Zd _,n⟩ ?_
 intro z e;obtain⟨i,d0⟩:=z
 try dsimp only at e
 obtain⟨u,b⟩:=e;have y:=b.1;have v:=b.2.1;refine A3<|A3<|A0<|y_M U<|y_M U<|F4 U U<|xN [0,1,2,3,8,14] [0] U ?_
 refine A4 U ?_ ?_<;>intro c<;>try simp only[SL]at c
 ·refine A7<|A3<|B0<|A3<|A0<|y_M U ?_
  try rw[show((j:Int)-1)=((j-1:Nat):Int)from by omega]
  refine y_S U<|xN [0,1,2,3,8,9] [0] U<|B0<|D8 (β:=Nat×List Nat) [(.t 0,_),(.t 1,_),(.t 2,_),(.t 3,_),(.t 8,_)] (fun(z:Nat×List Nat)=>match z with|(j,d)=>[(.t 9,iV j),(.h 0,.obj 1 1 1 (d.map nV))]) (fun(z:Nat×List Nat)=>match z with|(j,d)=>a6z l i d0 j d) (fun(z:Nat×List Nat)=>match z with|(j,d)=>j) (i,d0) ⟨U,U,U,U,U,U,U,trivial⟩ (a6z.start b (by omega)) ?_
  intro z e;obtain⟨j,d⟩:=z
  try dsimp only at e
  have a:=e;have w:=a.1;have r:=a.2.1;refine A3<|A3<|A0<|y_M U<|y_M U<|M0 U U<|y_M U ?_
  refine D5 U U ?_ ?_<;>intro f<;>have s:=f<;>try simp only[SG]at s
  ·refine y_M U<|gT U U<|y_M U<|gT U U<|y_M U<|gT U U<|C9 U U U U (by(simp;omega)) (by(simp;omega)) U<|gT U U<|E6 U U (by omega) (fun _=>U) (fun _=>U) U<|gT U U<|y_M U<|gT U U<|y_M U<|gT U U<|J7 U U (B9 (by omega))<|gT U U ?_
   have g:0<j:=by omega
   rw[show((j:Int)-1)=((j-1:Nat):Int)from by omega];refine C9 U U U U (by(simp;omega)) (by(simp;omega)) U<|gT U U<|E6 U U (by omega) (fun _=>U) (fun _=>U) U<|gT U U ?_
   have k:=a.lt b (by omega) (x:=j) (by omega);have m:=a.lt b (by omega) (x:=j-1) (by omega);apply d1h U U
   ·apply A8
    ·exact B1 U
    apply A8
    ·exact B1 U
    apply A8
    ·exact B1 U
    exact C2
   ·exact e6c l (by omega) (d.getD j default) (d.getD (j-1) default) k m
   ·exact⟨U,U,U,dT U,U⟩
   ·exact .inl U
   ·exact B2
   ·exact C8 U
   ·exact fun _=>U
   intro p;refine gT U U ?_;have q:=f1j (l.getD (d.getD j default) default) (l.getD (d.getD (j-1) default) default);refine F4 U U<|F0 U (by assumption) U U ?_
   refine G7 ⟨fun _=>⟨by(simp only[V5,Zj,Zm,Zz,Ya,Zp];decide+kernel),by decide+kernel⟩,[(.t 0,_),(.t 1,_),(.t 2,_),(.t 3,_),(.t 8,_),(.t 9,_),(.t 34,_),(.h 0,_)],⟨U,U,U,U,U,U,U,U,U,U,U,U,U,U,U,U,trivial⟩,?_⟩;refine A4 U ?_ ?_<;>intro c<;>try simp only[SL]at c
   ·refine A7<|A3<|B0<|A0<|y_M U<|y_M U<|y_M U<|y_M U<|J7 U U (B9 (by omega))<|y_M U<|y_M U<|J7 U U (B9 (by omega)) ?_
    rw[show((j:Int)-1)=((j-1:Nat):Int)from by omega];refine C9 U U U U (by(simp;omega)) (by(simp;omega)) U<|E6 U U (by omega) (fun _=>U) (fun _=>U) U<|y_M U<|y_M U<|C9 U U U U (by(simp;omega)) (by(simp;omega)) U<|E6 U U (by omega) (fun _=>U) (fun _=>U) U<|C9 U U U U (by(simp;omega)) (by(simp;omega)) U<|K4 U U U (by omega) (fun _ _=>⟨U,U,dT U,dT U,U,U⟩) (by decide) (by exact a3b (A6 fun _=>U))<|C9 U U U U (by(simp;omega)) (by(simp;omega)) U<|K4 U U U (by(simp;omega)) (fun _ _=>⟨U,U,dT U,dT U,U,U⟩) (by decide) (by exact a3b (A6 fun _=>U)) ?_
    refine G7 ⟨fun _=>⟨by decide+kernel,by decide+kernel⟩,[(.t 0,_),(.t 1,_),(.t 2,_),(.t 3,_),(.t 8,_),(.t 9,_),(.h 0,_)],⟨U,U,U,U,U,U,U,U,U,U,U,U,U,U,trivial⟩,?_⟩;refine A0<|y_M U<|J7 U U (B9 (by omega)) ?_
    try rw[show((j:Int)-1)=((j-1:Nat):Int)from by omega]
    refine y_S U<|xN [0,1,2,3,8,9] [0] U ?_
    refine⟨(j-1,_),?_,(by simp only;omega),⟨U,U,U,U,U,U,U,trivial⟩⟩;exact a.step (by omega) g (c2o.1 (by omega))
   refine D6<|A0<|y_M U<|D7 U U (B9 (by omega))<|y_S U<|xN [0,1,2,3,8] [0] U ?_
   first
    |(refine⟨(i+1,d),⟨by omega,a.fin b (by omega) (.inr fun h=>by rw[<-c2o]at h;omega)⟩,by simp only;omega,⟨rfl,rfl,rfl,rfl,rfl,rfl,trivial⟩⟩)
    |(refine⟨(i+1,d),⟨by omega,a.fin b (by omega) (.inl (by omega))⟩,by simp only;omega,⟨rfl,rfl,rfl,rfl,rfl,rfl,trivial⟩⟩)
  iterate 11 refine gF U U ?_
  refine E8 U (by assumption) U U ?_;refine G7 ⟨fun _=>⟨by decide+kernel,by decide+kernel⟩,[(.t 0,_),(.t 1,_),(.t 2,_),(.t 3,_),(.t 8,_),(.t 9,_),(.t 34,_),(.h 0,_)],⟨U,U,U,U,U,U,U,U,U,U,U,U,U,U,U,U,trivial⟩,?_⟩;refine A4 U (fun c=>absurd c (by decide)) (fun c=> ?_);refine D6<|A0<|y_M U<|D7 U U (B9 (by omega))<|y_S U<|xN [0,1,2,3,8] [0] U ?_
  first
   |(refine⟨(i+1,d),⟨by omega,a.fin b (by omega) (.inr fun h=>by rw[<-c2o]at h;omega)⟩,by simp only;omega,⟨rfl,rfl,rfl,rfl,rfl,rfl,trivial⟩⟩)
   |(refine⟨(i+1,d),⟨by omega,a.fin b (by omega) (.inl (by omega))⟩,by simp only;omega,⟨rfl,rfl,rfl,rfl,rfl,rfl,trivial⟩⟩)
 refine D6 ?_;refine⟨_,_,?_,b2m (I0 U (V1 fun _=>U))⟩;exact⟨d0,U,U,(show i=l.length by omega)▸b⟩
theorem c4t:D9 Tryz.f160=[0,1,2,6,8,13,7,30,35,9,54]:=by kernel_rfl
theorem f0d(l:List Int)(k:l.length<=6)(m:1<=l.length)(d1:List Nat)(e:Ord l 1 d1):∃res outs,(fun res outs=>∃d:List Nat,res= .tup []/\outs=[d.map nV]/\Ord l l.length d) res outs/\CW (cxT oG) 160 [.own 1 (d1.map nV),iV l.length,.clo 144 [.ipt (L l) 0]]=some (res,outs):=by
 obtain⟨_,_,⟨d,rfl,rfl,f⟩,i⟩:=e3v (oG:=oG) l k m d1 e;have c:=f.1;have b:=e.1;refine M3 U Tryz.func160 U ⟨by kernel_rfl,U,dT U,dT U,by decide⟩ c4t<|A3<|A0<|y_S U<|xN [0,1,2,6] [0] U<|A3<|A0<|y_M U<|y_S U<|y_S U<|xN [0,1,2,6,7,8] [0] U<|A3<|B0<|D8 (β:=Unit) [(.t 0,_),(.t 1,_),(.t 2,_),(.t 6,_),(.t 7,_),(.t 8,_),(.h 0,_)] (fun(u:Unit)=>[]) (fun(u:Unit)=>True) (fun(u:Unit)=>0) () ⟨U,U,U,U,U,U,U,trivial⟩ trivial ?_
 intro u j;refine A3<|A3<|A0<|y_M U<|y_M U<|a2q U U<|xN [0,1,2,6,7,8,13] [0] U ?_
 refine A4 U (fun a=> ?_) (fun a=> ?_)
 ·try simp only[SD]at a
  exact absurd a (by omega)
 try simp only[SL]at a
 refine D6<|A3<|A0<|y_M U<|y_M U<|y_M U<|y_M U ?_
 apply a1h U
 ·apply A8
  ·exact a4x U U (dT U) (by(simp;done)) (V1 fun _=>U)
  apply A8
  ·exact B1 U
  apply A8
  ·exact B1 U
  apply A8
  ·exact c2s U (c9z c0a)
  exact C2
 ·exact i
 ·exact⟨U,U,U,dT U,U⟩
 ·exact .inl U
 ·exact G9 U (by simp[c,b]) (b4n _ _) B2
 ·exact J2 U
 ·(intro _;exact C6 (a3b (A6 fun _=>U)) U)
 intro g;refine xN [0,1,2,6] [0] U<|B0<|D8 (β:=Unit) [(.t 0,_),(.t 1,_),(.t 2,_),(.t 6,_),(.h 0,_)] (fun(u:Unit)=>[]) (fun(u:Unit)=>True) (fun(u:Unit)=>0) () ⟨U,U,U,U,U,trivial⟩ trivial ?_
 intro u j;refine A3<|A3<|A0<|y_M U<|y_M U<|F4 U U<|xN [0,1,2,6,30] [0] U ?_
 refine A4 U (fun a=> ?_) (fun a=> ?_)
 ·try simp only[SD]at a
  exact absurd a (by omega)
 try simp only[SL]at a
 refine D6 ?_;refine⟨_,_,?_,b2m (I0 U (V1 fun _=>U))⟩;exact⟨d,U,U,f⟩
theorem b1p:D9 Tryz.f143=[0,1]:=by kernel_rfl
theorem c8f(l:List Int)(g:l.length<=6)(h:1<=l.length)(d1:List Nat)(c:Ord l 1 d1):∃res outs,(fun res outs=>∃d:List Nat,res= .tup []/\outs=[d.map nV]/\Ord l l.length d) res outs/\CW (cxT oG) 143 [.own 1 (d1.map nV),.clo 144 [.ipt (L l) 0]]=some (res,outs):=by
 obtain⟨_,_,⟨d,rfl,rfl,e⟩,f⟩:=f0d (oG:=oG) l g h d1 c;have b:=e.1;have a:=c.1;refine M3 U Tryz.func143 U ⟨by kernel_rfl,U,dT U,dT U,by decide⟩ b1p<|A0<|y_M U<|y_M U<|G8 U U ?_
 rw[show(((d1.map nV).length:Nat):Int)=(l.length:Int)from by simp[a]];refine y_M U ?_;apply a1h U
 ·apply A8
  ·exact a4x U U (dT U) (by(simp;done)) (V1 fun _=>U)
  apply A8
  ·exact B1 U
  apply A8
  ·exact c2s U (c9z c0a)
  exact C2
 ·exact f
 ·exact⟨U,U,U,dT U,U⟩
 ·exact .inl U
 ·exact G9 U (by simp[b,a]) (b4n _ _) B2
 ·exact J2 U
 ·(intro _;exact C6 (a3b (A6 fun _=>U)) U)
 intro g8;refine xN [] [0] U ?_;refine⟨_,_,?_,b2m (I0 U (V1 fun _=>U))⟩;exact⟨d,U,U,e⟩
theorem c3d:D9 Tryz.f115=[0,2,1,3,10,9,11,4]:=by kernel_rfl
theorem e7v(l:List Int)(q:l.length<=6)(m:1<=l.length):∃res outs,(fun res outs=>∃d:List Nat,res= .own 1 (d.map nV)/\outs=[]/\Ord l l.length d) res outs/\CW (cxT oG) 115 [L l]=some (res,outs):=by
 refine M3 U Tryz.func115 U ⟨by kernel_rfl,U,dT U,dT U,by decide⟩ c3d<|A3<|A0<|P3 U U U (fun _=>H7 U) (fun _=>U) ?_
 intro g1
 (refine B4 U U (fun _=>U) ?_;intro g2)
 refine xN [1] [1] U<|A3<|A0<|y_B U<|B8 U U<|a2b (f:=nV) (x0:=0) U U U U U (by simp only[H0];omega) (dT U) (fun _=>B3 (by exact A6 fun _=>U)) (fun _=>U) ?_
 intro g7
 (refine xO U U (by simp) U (fun _=>U) (fun _=>U) ?_;intro g3)
 refine xN [1,3] [1,3] U<|A3<|A3<|A0<|y_M U<|G8 U U<|y_M U<|xN [1,3,9,10] [1,3] U<|B0<|D8 (β:=Nat×List Nat) [(.t 1,_),(.t 3,_),(.t 9,_),(.h 1,_)] (fun(z:Nat×List Nat)=>match z with|(b,d1)=>[(.t 10,iV b),(.h 3,.obj g3 0 1 (d1.map nV))]) (fun(z:Nat×List Nat)=>match z with|(b,d1)=>b<=l.length/\d1.length=l.length/\∀x,x<b->d1.getD x default=x) (fun(z:Nat×List Nat)=>match z with|(b,d1)=>l.length-b) (0,ZP l.length 0) ⟨U,U,U,U,U,U,trivial⟩ ⟨Zv _,by simp,fun x h=>by omega⟩ ?_
 intro z j;obtain⟨b,d1⟩:=z
 try dsimp only at j
 obtain⟨o,a,g⟩:=j;refine A3<|A0<|F4 U U<|xN [1,3,9,10,11] [1,3] U<|A3 ?_
 refine A4 U ?_ ?_<;>intro p<;>try simp only[SL]at p
 ·refine A7<|A3<|B0<|A3<|A0<|y_M U<|y_S U<|xN [1,3,4,9,10] [1,3] U<|A0<|y_M U<|y_M U<|y_M U<|C9 U U U U (by omega) (by(simp;omega)) U<|K4 U U U (by omega) (fun _ _=>⟨U,U,dT U,dT U,U,U⟩) (by decide) (by exact B3 (A6 fun _=>U))<|xN [1,3,9,10] [1,3] U<|A0<|D7 U U (B9 (by omega))<|y_M U<|xN [1,3,9,10] [1,3] U ?_
  refine⟨(b+1,d1.set b b),⟨by omega,by simp[a],fun x r=>by rw[b5a (by omega)];by_cases e:x=b;(·rw[if_pos e,e]);(·rw[if_neg e];exact g x (by omega))⟩,(by simp only;omega),⟨U,U,U,U,U,U,trivial⟩⟩
 refine D6<|A3<|A0<|y_M U<|b8v U U ?_
 have i:=f2m a (fun x r=>g x (by omega)) m;obtain⟨_,_,⟨d,rfl,rfl,k⟩,n⟩:=c8f (oG:=oG) l q m d1 i;have c:=k.1;apply a1h U
 ·apply A8
  ·exact a4x U U (dT U) (by(simp;omega)) (V1 fun _=>U)
  apply A8
  ·exact c2s U (d8r U U c0a)
  exact C2
 ·exact n
 ·exact⟨U,U,U,dT U,U⟩
 ·exact .inr ⟨by simp[hasList,G3],f6v fun _=>U⟩
 ·exact G9 U (by simp[c,a]) (b4n _ _) B2
 ·exact J2 U
 ·(intro _;exact C6 (B3 (A6 fun _=>U)) U)
 intro g20;refine xN [3] [3] U<|A3<|A0<|y_M U ?_
 (refine I9 U U (by simp[c]) U (fun _=>(B3 (by exact A6 fun _=>U))) (fun _=>U) ?_;intro g2)
 refine xN [2] [2] U<|A9 ?_
 refine⟨_,_,?_,c7z U U (by simp[c]) (by exact A6 fun _=>U) B5⟩;exact⟨d,U,U,k⟩
theorem d7b:D9 Tryz.f114=[0,2]:=by kernel_rfl
theorem f6w(xs:List Int)(c:xs.length<=1000):CW (cxT oG) 114 [L xs]=some (bV (vo xs),[]):=by
 refine C7 U Tryz.func114 U ⟨by kernel_rfl,U,dT U,dT U,by decide⟩ d7b<|A3<|A0<|y_S U<|xN [0] [] U<|A3<|A0<|y_M U<|B8 U U ?_
 refine xC3 U U U U (f4t _ _ _) ⟨U,U,U⟩ U U fun g5=> ?_
 refine y_M U ?_;refine D5 U U ?_ ?_<;>intro a<;>have b:=a<;>try simp only[SG]at b
 ·refine y_M U<|gT U U ?_
  refine xC3 U U U U (b2z xs c 0 1000) ⟨U,U,U⟩ U U fun g8=> ?_
  refine F0 U (by assumption) U U<|y_S U<|xN [2] [] U<|A9<|C4 U U trivial ?_
  simp_all[vo,ofConst];try omega
 refine gF U U<|E8 U (by assumption) U U<|y_S U<|xN [2] [] U<|A9<|C4 U U trivial ?_
 simp_all[vo,ofConst];try omega
theorem e0i:D9 Tryz.f39=[0,2,3,7,15]:=by kernel_rfl
theorem f6p(xs:List Int)(k:xs.length<=1000):CW (cxT oG) 39 [L xs]=some (bV (vo xs),[]):=by
 refine C7 U Tryz.func39 U ⟨by kernel_rfl,U,dT U,dT U,by decide⟩ e0i<|A3<|A0<|y_S U<|xN [0] [] U<|A3<|A3<|A0<|y_S U<|xN [0,3] [] U<|B0<|D8 (β:=Nat) [(.t 0,_)] (fun(i:Nat)=>[(.t 3,iV i)]) (fun(i:Nat)=>i<=xs.length/\∀j,j<i->0<=xs.getD j default/\xs.getD j default<=1000) (fun(i:Nat)=>xs.length-i) 0 ⟨U,U,trivial⟩ ⟨Zv _,fun j h=>by omega⟩ ?_
 intro i e;obtain⟨f,b⟩:=e;refine A3<|A3<|A0<|y_M U<|y_M U<|B8 U U<|F4 U U<|xN [0,3,7] [] U ?_
 refine A4 U ?_ ?_<;>intro c<;>try simp only[SL]at c
 ·refine A7<|A3<|B0<|A3<|A0<|y_M U<|y_M U<|B7 U U U (fun _=>U) (by omega)<|y_I U ?_
  refine xC3 U U U U (a1f _ _ _) ⟨U,U,U⟩ U U fun g14=> ?_
  refine H8 U<|xN [0,3,15] [] U ?_
  refine A4 U ?_ ?_<;>intro c<;>try simp only[SL]at c
  ·refine A3<|A0<|y_S U<|xN [2] [] U<|A9<|C4 U U trivial ?_
   exact congrArg bV (f4l (show i<xs.length by omega) (by omega)).symm
  refine A7<|A0<|y_M U<|D7 U U (B9 (by omega))<|y_S U<|xN [0,3] [] U ?_
  refine⟨i+1,⟨by omega,fun a d=>by rcases Yx.1 d with h|h;exact b a h;subst h;exact(by simpa using c)⟩,(by omega),⟨U,U,trivial⟩⟩
 refine D6<|A3<|A0<|y_M U<|B8 U U ?_
 refine xC3 U U U U (a1f _ _ _) ⟨U,U,U⟩ U U fun g18=> ?_
 refine y_S U<|xN [2] [] U<|A9<|C4 U U trivial ?_
 exact congrArg bV (f3m fun j g=>b j (by omega)).symm
theorem b3v:D9 Tryz.f85=[0,2,9,16,15,17,14,5,6,4,3]:=by kernel_rfl
theorem d6k(l:List Int)(s:l.length<=1000):CW (cxT oG) 85 [L l]=some (.own 1 ((sdR l).map iV),[]):=by
 refine C7 U Tryz.func85 U ⟨by kernel_rfl,U,dT U,dT U,by decide⟩ b3v<|A3<|A0 ?_
 (refine B4 U U (fun _=>U) ?_;intro g2)
 refine xN [0] [] U<|A3<|A3<|A0<|y_M U ?_
 refine xC1 U U (f6w l s) ⟨U,U,U⟩ U U fun g8=> ?_
 refine H8 U<|xN [0,9] [] U ?_
 refine A4 U ?_ ?_<;>intro c<;>try simp only[SL]at c
 ·refine A3<|A0 ?_
  (refine B4 U U (fun _=>U) ?_;intro g2)
  refine xN [2] [2] U<|A9<|J3 U U (by(simp;done)) (by rfl) trivial ?_
  rw[sdR,if_neg (by simpa using c)]
  rfl
 have i:vo l=true:=by exact c
 have p:=d8u.1 i;have e:=p.2.1;have n:=p.1;have a:=fun x (y:x∈l)=>c0z p.2.2 y
 have v:=f7e e;obtain⟨_,_,⟨d,rfl,rfl,j⟩,q⟩:=e7v (oG:=oG) l e n;have u:=j.1;refine A7<|A3<|A0<|y_M U<|B8 U U<|a2b (f:=iV) (x0:=0) U U U U U (by simp only[H0];omega) (dT U) (fun _=>B3 (by exact A6 fun _=>U)) (fun _=>U) ?_
 intro g12
 (refine xO U U (by simp) U (fun _=>U) (fun _=>U) ?_;intro g3)
 refine xN [0,3] [3] U<|A3<|A0<|y_S U<|xN [0,3,4] [3] U<|A3<|A3<|A0<|y_M U ?_
 apply a1h U
 ·apply A8
  ·exact B1 U
  exact C2
 ·exact q
 ·exact⟨U,U,U,dT U,U⟩
 ·exact .inl U
 ·exact B2
 ·exact H4
 ·(intro _;exact C6 (B3 (A6 fun _=>U)) U)
 intro g14;simp only[Zi];refine G8 U U<|y_M U<|xN [0,3,4,14,15,16] [3,1000014] U<|B0<|D8 (β:=Nat×List Int) [(.t 0,_),(.t 3,_),(.t 14,_),(.t 15,_),(.h 1000014,_)] (fun(z:Nat×List Int)=>match z with|(r,out)=>[(.t 16,iV r),(.t 4,iV (mR l d r)),(.h 3,.obj g3 0 1 (out.map iV))]) (fun(z:Nat×List Int)=>match z with|(r,out)=>Fil l d r out) (fun(z:Nat×List Int)=>match z with|(r,out)=>l.length-r) (0,ZP l.length 0) ⟨U,U,U,U,U,U,U,U,trivial⟩ ⟨Zv _,by simp,fun x h=>by omega⟩ ?_
 intro z b;obtain⟨r,out⟩:=z
 try dsimp only at b
 have w:=b.1;have g:=b.2.1;have o:=fun h=>j.2.2.2.1 r h
 refine A3<|A0<|F4 U U<|xN [0,3,4,14,15,16,17] [3,1000014] U<|A3 ?_
 refine A4 U ?_ ?_<;>intro c<;>try simp only[SL]at c
 ·refine A7<|A3<|B0<|A3<|A0<|y_M U<|C9 U U U U (by omega) (by(simp;done)) U<|E6 U U (by omega) (fun _=>U) (fun _=>U) U<|y_S U<|y_S U<|xN [0,3,4,5,6,14,15,16] [3,1000014] U<|A3<|A0<|y_M U<|y_M U<|y_M U ?_
  have m:=o (by omega);refine B7 U U U (fun _=>U) (by omega)<|y_I U<|y_M U<|B8 U U<|y_M U<|J7 U U (B9 (by omega)) ?_
  have k:=a _ (N3 m);have hm:=c5g k (show(l.length:Int)-(r:Int)<=6 by omega) (by omega);refine V3 U U (B9 (by omega))<|f4i U U<|c5p U U<|y_S U<|xN [0,3,4,6,14,15,16] [3,1000014] U<|A0<|y_M U<|y_M U<|y_M U<|C9 U U U U (by omega) (by(simp;omega)) U<|K4 U U U (by omega) (fun _ _=>⟨U,U,dT U,dT U,U,U⟩) (by decide) (by exact B3 (A6 fun _=>U))<|xN [0,3,4,14,15,16] [3,1000014] U<|A0<|D7 U U (B9 (by omega))<|y_M U<|xN [0,3,4,14,15,16] [3,1000014] U ?_
  refine⟨(r+1,out.set (d.getD r default) (mR l d (r+1))),(b.set j (by omega)),(by simp only;omega),⟨U,U,U,U,U,U,U,U,trivial⟩⟩
 refine D6<|A3<|A0<|y_M U ?_
 (refine I9 U U (by(simp[g];done)) U (fun _=>(B3 (by exact A6 fun _=>U))) (fun _=>U) ?_;intro g2)
 refine xN [2] [2] U<|A9<|J3 U U (by(simp[g];done)) (by exact A6 fun _=>U) trivial ?_
 rw[sdR,if_pos i,b.fin j (by omega)]
end Go.Proofs.YtjmoceabjajefaaGreatDoor
