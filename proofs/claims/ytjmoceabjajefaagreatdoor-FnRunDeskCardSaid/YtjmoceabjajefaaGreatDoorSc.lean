/- What each function of the program gives on the abstract machine, part 3 of 3. Conditions: those in front of each theorem. -/
import Derived.Test.YtjmoceabjajefaaGreatDoorSb
import Derived.KernelRfl
set_option linter.unusedVariables false
set_option linter.unusedSimpArgs false
open Bool renaming noConfusion→ZK
open List renaming map→Zw, length_map→Zi, length_append→Zf, length_cons→Ze, length_nil→Zo, nil_append→Zj, append_nil→Zm, map_cons→Zz, map_nil→Ya, cons_append→Zp, mem_of_mem_take→ZV, length_take→ZH, take_of_length_le→ZB, length_singleton→Ym, mem_append→ZF, mem_singleton→Ye
open Nat renaming zero_le→Zv, lt_succ_iff_lt_or_eq→Yx, zero_add→ZL, le_refl→Zd, le_of_ble_eq_true→YM
open Option renaming isSome_iff_exists→ZT, bind_some→Zl
namespace Go.Proofs.YtjmoceabjajefaaGreatDoor
open Go Go.Mv Go.Proofs
set_option maxRecDepth 100000
set_option maxHeartbeats 20000000
variable{oG:Option Nat}{rG:Nat}
theorem c4r:D9 Tryz.f65=[0,2,4,11,6,17,44,5,3]:=by kernel_rfl
theorem e7c(l:List Int)(p:l.length<=1000):CW (cxT oG) 65 [L l]=some (.own 1 ((plU l l.length).map nV),[]):=by
 refine C7 U Tryz.func65 U ⟨by kernel_rfl,U,dT U,dT U,by decide⟩ c4r<|A3<|A0 ?_
 (refine B4 U U (fun _=>U) ?_;intro g2)
 refine xN [0] [] U<|A3<|A0<|B6 (es:=Zw nV []) U U (dT U) U U (fun _=>B3 (A6 fun _=>U)) (fun _=>U) ?_
 intro g7
 (refine xO U U (by simp) U (fun _=>U) (fun _=>U) ?_;intro g3)
 refine xN [0,3] [3] U<|A3<|A3<|A0<|y_S U<|xN [0,3,4] [3] U<|B0<|D8 (β:=Nat×List Nat×Nat) [(.t 0,_)] (fun(z:Nat×List Nat×Nat)=>match z with|(i,xs,g)=>[(.t 4,iV i),(.t 3,.sl 3 g none 0 xs.length),(.h 3,.obj g 0 1 (xs.map nV))]) (fun(z:Nat×List Nat×Nat)=>match z with|(i,xs,g)=>i<=l.length/\xs=plU l i) (fun(z:Nat×List Nat×Nat)=>match z with|(i,xs,g)=>l.length-i) (0,[],_) ⟨U,U,U,U,trivial⟩ ⟨Zv _,U⟩ ?_
 intro z d;obtain⟨i,xs,g⟩:=z
 try dsimp only at d
 obtain⟨m,c⟩:=d;have o:xs.length=i:=by rw[c];simp
 refine A3<|A3<|A0<|y_M U<|y_M U<|B8 U U<|F4 U U<|xN [0,3,4,11] [3] U ?_
 refine A4 U ?_ ?_<;>intro a<;>try simp only[SL]at a
 ·refine A7<|A3<|B0<|A3<|A0<|y_S U<|xN [0,3,4,5] [3] U<|A3<|A3<|A0<|y_S U<|xN [0,3,4,5,6] [3] U<|B0<|D8 (β:=Nat) [(.t 0,_),(.t 3,_),(.t 4,_),(.h 3,_)] (fun(k:Nat)=>[(.t 6,iV k),(.t 5,iV (pl l i k))]) (fun(k:Nat)=>k<=l.length) (fun(k:Nat)=>l.length-k) 0 ⟨U,U,U,U,U,U,trivial⟩ (Zv _) ?_
  intro k d;have n:=f4e l i k;refine A3<|A3<|A0<|y_M U<|y_M U<|B8 U U<|F4 U U<|xN [0,3,4,5,6,17] [3] U ?_
  refine A4 U ?_ ?_<;>intro a<;>try simp only[SL]at a
  ·refine A7<|A3<|B0<|A3<|A0<|y_M U<|y_M U<|B7 U U U (fun _=>U) (by omega)<|y_I U<|y_M U<|y_M U<|B7 U U U (fun _=>U) (by omega)<|y_I U<|F4 U U<|y_M U ?_
   refine D5 U U ?_ ?_<;>intro b<;>have e:=b<;>try simp only[SG]at e
   ·refine y_M U<|gT U U<|y_M U<|gT U U<|B7 U U U (fun _=>U) (by omega)<|gT U U<|y_I U<|gT U U<|y_M U<|gT U U<|y_M U<|gT U U<|B7 U U U (fun _=>U) (by omega)<|gT U U<|y_I U<|gT U U<|K6 U U<|gT U U<|y_M U ?_
    refine D5 U U ?_ ?_<;>intro b<;>have e:=b<;>try simp only[SG]at e
    ·refine y_M U<|gT U U<|y_M U<|gT U U<|F4 U U<|gT U U<|F0 U (by assumption) U U<|E8 U (by assumption) U U ?_
     refine G7 ⟨fun _=>⟨by decide+kernel,by decide+kernel⟩,[(.t 0,_),(.t 3,_),(.t 4,_),(.t 5,_),(.t 6,_),(.t 44,_),(.h 3,_)],⟨U,U,U,U,U,U,U,U,U,U,U,U,U,U,trivial⟩,?_⟩;refine A4 U ?_ ?_<;>intro a<;>try simp only[SL]at a
     ·refine A0<|y_M U<|D7 U U (B9 (by omega))<|y_S U<|xN [0,3,4,5,6] [3] U<|A0<|y_M U<|D7 U U (B9 (by omega))<|y_S U<|xN [0,3,4,5,6] [3] U ?_
      first
       |(have hlt:LTl l k i:=(by unfold LTl;omega)
         refine⟨k+1,by omega,by omega,?_⟩;rw[a4d,if_pos hlt];exact⟨U,U,U,U,U,U,trivial⟩)
       |(have hlt:¬LTl l k i:=(by unfold LTl;omega)
         refine⟨k+1,by omega,by omega,?_⟩;rw[a4d,if_neg hlt];exact⟨U,U,U,U,U,U,trivial⟩)
     refine A7<|A0<|y_M U<|D7 U U (B9 (by omega))<|y_S U<|xN [0,3,4,5,6] [3] U ?_
     first
      |(have hlt:LTl l k i:=(by unfold LTl;omega)
        refine⟨k+1,by omega,by omega,?_⟩;rw[a4d,if_pos hlt];exact⟨U,U,U,U,U,U,trivial⟩)
      |(have hlt:¬LTl l k i:=(by unfold LTl;omega)
        refine⟨k+1,by omega,by omega,?_⟩;rw[a4d,if_neg hlt];exact⟨U,U,U,U,U,U,trivial⟩)
    refine gF U U<|gF U U<|gT U U<|E8 U (by assumption) U U<|E8 U (by assumption) U U ?_
    refine G7 ⟨fun _=>⟨by decide+kernel,by decide+kernel⟩,[(.t 0,_),(.t 3,_),(.t 4,_),(.t 5,_),(.t 6,_),(.t 44,_),(.h 3,_)],⟨U,U,U,U,U,U,U,U,U,U,U,U,U,U,trivial⟩,?_⟩;refine A4 U (fun a=>absurd a (by decide)) (fun a=> ?_);refine A7<|A0<|y_M U<|D7 U U (B9 (by omega))<|y_S U<|xN [0,3,4,5,6] [3] U ?_
    first
     |(have hlt:LTl l k i:=(by unfold LTl;omega)
       refine⟨k+1,by omega,by omega,?_⟩;rw[a4d,if_pos hlt];exact⟨U,U,U,U,U,U,trivial⟩)
     |(have hlt:¬LTl l k i:=(by unfold LTl;omega)
       refine⟨k+1,by omega,by omega,?_⟩;rw[a4d,if_neg hlt];exact⟨U,U,U,U,U,U,trivial⟩)
   iterate 9 refine gF U U ?_
   refine a5g U U<|a5g U U<|a5g U U<|gF U U<|F0 U (by assumption) U U ?_
   refine G7 ⟨fun _=>⟨by decide+kernel,by decide+kernel⟩,[(.t 0,_),(.t 3,_),(.t 4,_),(.t 5,_),(.t 6,_),(.t 44,_),(.h 3,_)],⟨U,U,U,U,U,U,U,U,U,U,U,U,U,U,trivial⟩,?_⟩;refine A4 U (fun a=> ?_) (fun a=>absurd a (by decide));refine A0<|y_M U<|D7 U U (B9 (by omega))<|y_S U<|xN [0,3,4,5,6] [3] U<|A0<|y_M U<|D7 U U (B9 (by omega))<|y_S U<|xN [0,3,4,5,6] [3] U ?_
   first
    |(have hlt:LTl l k i:=(by unfold LTl;omega)
      refine⟨k+1,by omega,by omega,?_⟩;rw[a4d,if_pos hlt];exact⟨U,U,U,U,U,U,trivial⟩)
    |(have hlt:¬LTl l k i:=(by unfold LTl;omega)
      refine⟨k+1,by omega,by omega,?_⟩;rw[a4d,if_neg hlt];exact⟨U,U,U,U,U,U,trivial⟩)
  refine D6<|A0<|y_M U<|y_M U<|B6 (es:=Zw nV [pl l i k]) U U (dT U) U U (fun _=>B3 (A6 fun _=>U)) (fun _=>U) ?_
  intro f;refine xA U U U U (by simp) (by simp) U U U U U (fun _=>U) (by simp only[LN];omega) (fun _=>U) ?_;intro j
  (refine xO U U (by simp) U (fun _=>U) (fun _=>U) ?_;intro g3)
  refine xN [0,3,4] [3] U<|A0<|y_M U<|D7 U U (B9 (by omega))<|y_S U<|xN [0,3,4] [3] U ?_
  refine⟨(i+1,xs++[pl l i k],_),⟨by omega,?_⟩,by simp only;omega,⟨U,U,U,U,trivial⟩⟩;rw[f0h,c,at',show k=l.length by omega]
 refine D6<|A3<|A0<|y_M U ?_
 (refine xO U U (by simp) U (fun _=>U) (fun _=>U) ?_;intro g2)
 refine xN [2] [2] U<|A9<|J3 U U (by simp) (by exact A6 fun _=>U) trivial ?_
 rw[c,show i=l.length by omega]
theorem b4i:D9 Tryz.f40=[0,2,5,14,7,20,3,31,6,4]:=by kernel_rfl
theorem d3g(l:List Int)(r:l.length<=6)(c:∀x∈l,0<=x/\x<=1000):CW (cxT oG) 40 [L l]=some (.own 1 ((sdU l l.length).map iV),[]):=by
 refine C7 U Tryz.func40 U ⟨by kernel_rfl,U,dT U,dT U,by decide⟩ b4i<|A3<|A0 ?_
 (refine B4 U U (fun _=>U) ?_;intro g2)
 refine xN [0] [] U<|A3<|A0<|y_M U ?_
 apply xC U
 ·apply A8
  ·exact B1 U
  exact C2
 ·exact e7c l (by omega)
 refine⟨⟨U,U,U,dT U,U⟩,.inl U,B2,H4,fun _=>U,fun g9=> ?_⟩;simp only[Zi,d7y]
 (refine xO U U (by simp) U (fun _=>U) (fun _=>U) ?_;intro g3)
 refine xN [0,3] [3] U<|A3<|A0<|B6 (es:=Zw iV []) U U (dT U) U U (fun _=>B3 (A6 fun _=>U)) (fun _=>U) ?_
 intro g10
 (refine xO U U (by simp) U (fun _=>U) (fun _=>U) ?_;intro g4)
 refine xN [0,3,4] [3,4] U<|A3<|A3<|A0<|y_S U<|xN [0,3,4,5] [3,4] U<|B0<|D8 (β:=Nat×List Int×Nat) [(.t 0,_),(.t 3,_),(.h 3,_)] (fun(z:Nat×List Int×Nat)=>match z with|(i,xs,g)=>[(.t 5,iV i),(.t 4,.sl 4 g none 0 xs.length),(.h 4,.obj g 0 1 (xs.map iV))]) (fun(z:Nat×List Int×Nat)=>match z with|(i,xs,g)=>i<=l.length/\xs=sdU l i) (fun(z:Nat×List Int×Nat)=>match z with|(i,xs,g)=>l.length-i) (0,[],_) ⟨U,U,U,U,U,U,trivial⟩ ⟨Zv _,U⟩ ?_
 intro z f;obtain⟨i,xs,g⟩:=z
 try dsimp only at f
 obtain⟨p,a⟩:=f;have q:xs.length=i:=by rw[a];simp
 refine A3<|A3<|A0<|y_M U<|y_M U<|B8 U U<|F4 U U<|xN [0,3,4,5,14] [3,4] U ?_
 refine A4 U ?_ ?_<;>intro d<;>try simp only[SL]at d
 ·refine A7<|A3<|B0<|A3<|A0<|y_S U<|xN [0,3,4,5,6] [3,4] U<|A3<|A3<|A0<|y_S U<|xN [0,3,4,5,6,7] [3,4] U<|B0<|D8 (β:=Nat) [(.t 0,_),(.t 3,_),(.t 4,_),(.t 5,_),(.h 3,_),(.h 4,_)] (fun(k:Nat)=>[(.t 7,iV k),(.t 6,iV (mxU l i k))]) (fun(k:Nat)=>k<=l.length) (fun(k:Nat)=>l.length-k) 0 ⟨U,U,U,U,U,U,U,U,trivial⟩ (Zv _) ?_
  intro k f;refine A3<|A3<|A0<|y_M U<|y_M U<|B8 U U<|F4 U U<|xN [0,3,4,5,6,7,20] [3,4] U ?_
  refine A4 U ?_ ?_<;>intro d<;>try simp only[SL]at d
  ·refine A7<|A3<|B0<|A3<|A0<|y_M U<|y_M U<|C9 U U U U (by omega) (by(simp;done)) U<|E6 U U (by(simp;omega)) (fun _=>U) (fun _=>U) U<|y_M U<|y_M U<|C9 U U U U (by omega) (by(simp;done)) U<|E6 U U (by(simp;omega)) (fun _=>U) (fun _=>U) U ?_
   have b:=d3p (l:=l) (show k<l.length by omega);have e:=d3p (l:=l) (show i<l.length by omega);rw[b,e];refine a2q U U ?_;refine G7 ⟨fun _=>⟨by decide+kernel,by decide+kernel⟩,[(.t 0,_),(.t 3,_),(.t 4,_),(.t 5,_),(.t 6,_),(.t 7,_),(.t 31,_),(.h 3,_),(.h 4,_)],⟨U,U,U,U,U,U,U,U,U,U,U,U,U,U,U,U,U,U,trivial⟩,?_⟩;refine A4 U ?_ ?_<;>intro d<;>try simp only[SL]at d
   ·refine A0<|y_M U<|y_M U<|y_M U<|B7 U U U (fun _=>U) (by omega)<|y_I U<|y_M U<|B8 U U<|y_M U<|y_M U<|C9 U U U U (by omega) (by(simp;done)) U<|E6 U U (by(simp;omega)) (fun _=>U) (fun _=>U) U ?_
    rw[b];have o:at' l k<=l.length:=f4e l k l.length;refine J7 U U (B9 (by omega)) ?_;have j:=c _ (N3 (show k<l.length by omega));have hm:=c5g j (show(l.length:Int)-(at' l k:Int)<=6 by omega) (by omega);refine V3 U U (B9 (by omega))<|c5p U U<|y_S U ?_
    refine G7 ⟨fun _=>⟨by decide+kernel,by decide+kernel⟩,[(.t 0,_),(.t 3,_),(.t 4,_),(.t 5,_),(.t 6,_),(.t 7,_),(.h 3,_),(.h 4,_)],⟨U,U,U,U,U,U,U,U,U,U,U,U,U,U,U,U,trivial⟩,?_⟩;refine A0<|y_M U<|D7 U U (B9 (by omega))<|y_S U<|xN [0,3,4,5,6,7] [3,4] U ?_
    first
     |(have hlt:at' l k<=at' l i:=(by omega)
       refine⟨k+1,by omega,by omega,?_⟩;rw[mxU,if_pos hlt];exact⟨U,U,U,U,U,U,U,U,trivial⟩)
     |(have hlt:¬at' l k<=at' l i:=(by omega)
       refine⟨k+1,by omega,by omega,?_⟩;rw[mxU,if_neg hlt];exact⟨U,U,U,U,U,U,U,U,trivial⟩)
   refine A7<|A0<|y_M U<|D7 U U (B9 (by omega))<|y_S U<|xN [0,3,4,5,6,7] [3,4] U ?_
   first
    |(have hlt:at' l k<=at' l i:=(by omega)
      refine⟨k+1,by omega,by omega,?_⟩;rw[mxU,if_pos hlt];exact⟨U,U,U,U,U,U,U,U,trivial⟩)
    |(have hlt:¬at' l k<=at' l i:=(by omega)
      refine⟨k+1,by omega,by omega,?_⟩;rw[mxU,if_neg hlt];exact⟨U,U,U,U,U,U,U,U,trivial⟩)
  refine D6<|A0<|y_M U<|y_M U<|f4i U U<|B6 (es:=Zw iV [_]) U U (dT U) U U (fun _=>B3 (A6 fun _=>U)) (fun _=>U) ?_
  intro m;refine xA U U U U (by simp) (by simp) U U U U U (fun _=>U) (by simp only[LN];omega) (fun _=>U) ?_;intro n
  (refine xO U U (by simp) U (fun _=>U) (fun _=>U) ?_;intro g4)
  refine xN [0,3,4,5] [3,4] U<|A0<|y_M U<|D7 U U (B9 (by omega))<|y_S U<|xN [0,3,4,5] [3,4] U ?_
  refine⟨(i+1,xs++[min (mxU l i k) 1000],_),⟨by omega,?_⟩,by simp only;omega,⟨U,U,U,U,U,U,trivial⟩⟩;rw[e7g,a,sdv,show k=l.length by omega]
 refine D6<|A3<|A0<|y_M U ?_
 (refine xO U U (by simp) U (fun _=>U) (fun _=>U) ?_;intro g2)
 refine xN [2] [2] U<|A9<|J3 U U (by simp) (by exact A6 fun _=>U) trivial ?_
 rw[a,show i=l.length by omega]
theorem b6u:D9 Tryz.f48=[0,1,4,5,7,19,6,10]:=by kernel_rfl
theorem c0l(s:List UInt8)(m:s.length<=1048576)(a:List (List Int))(e:a.length<=1048576)(f:∀c∈a,c.length<=1048576):CW (cxT oG) 48 [tV s,M a]=some (.tup [.own 1 (((Mv.runT a s).getD []).map iV),bV (Mv.runT a s).isSome],[]):=by
 refine C7 U Tryz.func48 U ⟨by kernel_rfl,U,dT U,dT U,by decide⟩ b6u<|A3<|A0 ?_
 (refine B4 U U (fun _=>U) ?_;intro g4)
 refine y_S U<|xN [0,1] [] U<|A3<|A0<|y_M U ?_
 apply xC U
 ·apply A8
  ·exact B1 U
  exact C2
 ·exact a7g s m
 refine⟨⟨U,U,U,dT U,U⟩,.inl U,B2,J2 U,fun _=>U,fun g10=> ?_⟩;refine y_M U<|y_E U<|y_E U<|y_A U (fun _=>U) ?_
 intro g6;refine xB U U U U U U U U U<|y_S U<|xN [1,6,7] [6] U<|A3<|A3<|A0<|y_M U<|H8 U<|y_M U ?_
 refine D5 U U ?_ ?_<;>intro h<;>have l:=h<;>try simp only[SG]at l
 ·refine y_M U<|gT U U ?_
  refine xC1 U U (b9p a e f) ⟨U,U,U⟩ U U fun g17=> ?_
  refine gT U U<|H8 U<|E8 U (by assumption) U U<|xN [1,6,19] [6] U ?_
  refine A4 U ?_ ?_<;>intro d<;>try simp only[SL]at d
  ·refine A3<|A0 ?_
   (refine B4 U U (fun _=>U) ?_;intro g4)
   refine y_S U<|xN [4,5] [4] U<|A9<|C0 (F9 U U (by simp) (by rfl) (D3 U U (C5 B5))) ?_
   rw[b8r (by exact .inr (by simpa using d))]
   rfl
  refine A7<|A3<|A0<|y_B U<|y_M U ?_
  obtain⟨t,b,q,r⟩:=a6h (show(rdPlan s).isSome=true by assumption);obtain⟨o,j,i,n,p⟩:=Z9 b;have g:vcs a=true:=by assumption
  rw[e9w b,a9k g b];apply xC U
  ·apply A8
   ·exact B1 U
   apply A8
   ·exact B1 U
   exact C2
  ·exact(by have k:=d8y (oG:=oG) t i j a g e f;rw[<-L0]at k;exact k)
  refine⟨⟨U,U,U,dT U,U⟩,.inr ⟨I5 _ _,U⟩,B2,H3 (L1 fun _=>J5 U L3),fun _=>U,fun g22=> ?_⟩;simp only[Zi];refine y_E U<|y_E U ?_
  (refine xO U U (by simp) U (fun _=>U) (fun _=>U) ?_;intro g4)
  refine y_S U<|xN [4,5] [4] U<|A9<|C0 (F9 U U (by simp) (by exact A6 fun _=>U) (D3 U U (C5 B5))) ?_
  rfl
 refine gF U U<|gF U U<|F0 U (by assumption) U U<|xN [1,6,19] [6] U ?_
 refine A4 U (fun d=> ?_) (fun d=>absurd d (by decide));refine A3<|A0 ?_
 (refine B4 U U (fun _=>U) ?_;intro g4)
 refine y_S U<|xN [4,5] [4] U<|A9<|C0 (F9 U U (by simp) (by rfl) (D3 U U (C5 B5))) ?_
 rw[b8r (by exact .inl (by assumption))]
 rfl
theorem d6a:D9 Tryz.f80=[0,2,1,5]:=by kernel_rfl
theorem f0b(q:Rat)(hq:Sm 1000000 q):CW (cxT oG) 80 [qV q]=some (tV (frT q),[]):=by
 have b:=hq.1;have c:=hq.2.1;have d:=hq.2.2;have g:=R7 q;have e:=M5 (m:=q.num) ⟨b,c⟩;have f:=M5 (m:=(q.den:Int)) ⟨by omega,d⟩;refine C7 U Tryz.func80 U ⟨by kernel_rfl,U,dT U,dT U,by decide⟩ d6a<|A3<|A0<|P3 U U U (fun _=>H7 U) (fun _=>U) ?_
 intro g1;refine y_S U<|xN [1] [1] U<|A3<|A3<|A0<|y_F U<|y_L U<|K6 U U<|xN [1,5] [1] U ?_
 refine A4 U ?_ ?_<;>intro a<;>try simp only[SL]at a
 ·refine A3<|A0<|y_F U<|y_L U ?_
  refine xC1 U U (b1a q.num (by omega)) ⟨U,U,U⟩ U U fun g8=> ?_
  refine y_S U<|xN [2] [] U<|A9<|C4 U U trivial ?_
  rw[frT,if_pos a]
 refine A7<|A3<|A0<|y_F U<|y_L U ?_
 refine xC1 U U (b1a q.num (by omega)) ⟨U,U,U⟩ U U fun g11=> ?_
 refine J9 U U (by simp only[H0,Zf,Ze,Zo];omega)<|y_F U<|y_L U ?_
 refine xC1 U U (b1a (q.den:Int) (by omega)) ⟨U,U,U⟩ U U fun g15=> ?_
 refine J9 U U (by simp only[H0,Zf,Ze,Zo];omega)<|y_S U ?_
 refine G7 ⟨fun _=>⟨by(simp only[V5,Zj,Zm,Zz,Ya,Zp];decide+kernel),by decide+kernel⟩,[(.t 2,_)],⟨U,U,trivial⟩,?_⟩;refine A9<|C4 U U trivial ?_
 rw[frT,if_neg a]
theorem d4z:D9 Tryz.f31=[0,2,1,5]:=by kernel_rfl
theorem d7x(q:Rat)(hq:Sm 1000000 q):CW (cxT oG) 31 [qV q]=some (tV (frT q),[]):=by
 have b:=hq.1;have c:=hq.2.1;have d:=hq.2.2;have g:=R7 q;have e:=M5 (m:=q.num) ⟨b,c⟩;have f:=M5 (m:=(q.den:Int)) ⟨by omega,d⟩;refine C7 U Tryz.func31 U ⟨by kernel_rfl,U,dT U,dT U,by decide⟩ d4z<|A3<|A0<|P3 U U U (fun _=>H7 U) (fun _=>U) ?_
 intro g1;refine y_S U<|xN [1] [1] U<|A3<|A3<|A0<|y_F U<|y_L U<|K6 U U<|xN [1,5] [1] U ?_
 refine A4 U ?_ ?_<;>intro a<;>try simp only[SL]at a
 ·refine A3<|A0<|y_F U<|y_L U ?_
  refine xC1 U U (U1 q.num (by omega)) ⟨U,U,U⟩ U U fun g8=> ?_
  refine y_S U<|xN [2] [] U<|A9<|C4 U U trivial ?_
  rw[frT,if_pos a]
 refine A7<|A3<|A0<|y_F U<|y_L U ?_
 refine xC1 U U (U1 q.num (by omega)) ⟨U,U,U⟩ U U fun g11=> ?_
 refine J9 U U (by simp only[H0,Zf,Ze,Zo];omega)<|y_F U<|y_L U ?_
 refine xC1 U U (U1 (q.den:Int) (by omega)) ⟨U,U,U⟩ U U fun g15=> ?_
 refine J9 U U (by simp only[H0,Zf,Ze,Zo];omega)<|y_S U ?_
 refine G7 ⟨fun _=>⟨by(simp only[V5,Zj,Zm,Zz,Ya,Zp];decide+kernel),by decide+kernel⟩,[(.t 2,_)],⟨U,U,trivial⟩,?_⟩;refine A9<|C4 U U trivial ?_
 rw[frT,if_neg a]
theorem c8m:D9 Tryz.f36=[0,2,4,8,12,3]:=by kernel_rfl
theorem f1g(qs:List Rat)(k:qs.length<=1000)(hq:∀q∈qs,Sm 1000000 q):CW (cxT oG) 36 [.list (qs.map qV)]=some (tV (frsT qs),[]):=by
 have f:=fun(i:Nat) (h:i<qs.length)=>hq _ (N2 h)
 refine C7 U Tryz.func36 U ⟨by kernel_rfl,U,dT U,dT U,by decide⟩ c8m<|A3<|A0<|y_S U<|xN [0] [] U<|A3<|A0<|y_S U<|xN [0,3] [] U<|A3<|A3<|A0<|y_S U<|xN [0,3,4] [] U<|B0<|D8 (β:=Nat) [(.t 0,_)] (fun(i:Nat)=>[(.t 4,iV i),(.t 3,tV (frsT (qs.take i)))]) (fun(i:Nat)=>i<=qs.length) (fun(i:Nat)=>qs.length-i) 0 ⟨U,U,U,trivial⟩ (Zv _) ?_
 intro i g;have j:=g;have e:=b9c (qs:=qs.take i) (fun q h=>hq q (ZV h));rw[ZH]at e;refine A3<|A3<|A0<|y_M U<|y_M U<|B8 U U<|F4 U U<|xN [0,3,4,8] [] U ?_
 refine A4 U ?_ ?_<;>intro c<;>try simp only[SL]at c
 ·refine A7<|A3<|B0<|A3<|A3<|A0<|y_M U<|M0 U U<|xN [0,3,4,12] [] U ?_
  refine A4 U ?_ ?_<;>intro c<;>try simp only[SL]at c
  ·have b:0<i:=by omega
   refine A0<|y_M U<|J9 U U (by simp only[H0,Zf,Ze,Zo];omega)<|y_S U<|xN [0,3,4] [] U<|A0<|y_M U<|y_M U<|y_M U<|B7 U U U (fun _=>U) (by omega)<|y_I U ?_
   have a:=f i (by omega);have d:=b8q a;refine xC1 U U (d7x (qs.getD i default) a) ⟨U,U,U⟩ U U fun g20=> ?_
   refine J9 U U (by simp only[H0,Zf,Ze,Zo];omega)<|y_S U<|xN [0,3,4] [] U<|A0<|y_M U<|D7 U U (B9 (by omega))<|y_S U<|xN [0,3,4] [] U ?_
   rw[<-d8j (by omega) b];refine⟨i+1,?_,(by omega),⟨U,U,U,trivial⟩⟩;omega
  have b:i=0:=by omega
  refine A7<|A0<|y_M U<|y_M U<|y_M U<|B7 U U U (fun _=>U) (by omega)<|y_I U ?_
  have a:=f i (by omega);have d:=b8q a;refine xC1 U U (d7x (qs.getD i default) a) ⟨U,U,U⟩ U U fun g20=> ?_
  refine J9 U U (by simp only[H0,Zf,Ze,Zo];omega)<|y_S U<|xN [0,3,4] [] U<|A0<|y_M U<|D7 U U (B9 (by omega))<|y_S U<|xN [0,3,4] [] U ?_
  rw[<-d7d (by omega) b];refine⟨i+1,?_,(by omega),⟨U,U,U,trivial⟩⟩;omega
 refine D6<|A3<|A0<|y_M U<|y_S U<|xN [2] [] U<|A9<|C4 U U trivial ?_
 rw[ZB (by omega)]
theorem c3c:D9 Tryz.f68=[0,1,4,8,7,9,5,16]:=by kernel_rfl
theorem e8y(ws:List W8)(f:ws.length<=1000)(w:W8):∃res outs,(fun res outs=>∃r:Int,res=iV r/\outs=[]/\decide (0<=r)=ws.any fun v=>decide (w=v)) res outs/\CW (cxT oG) 68 [.list (ws.map tV),tV w]=some (res,outs):=by
 refine M3 U Tryz.func68 U ⟨by kernel_rfl,U,dT U,dT U,by decide⟩ c3c<|A3<|A0<|y_S U<|xN [0,1] [] U<|A3<|A3<|A0<|y_M U<|B8 U U<|y_M U<|xN [0,1,7,8] [] U<|B0<|D8 (β:=Nat) [(.t 0,_),(.t 1,_),(.t 7,_)] (fun(i:Nat)=>[(.t 8,iV i)]) (fun(i:Nat)=>i<=ws.length/\∀j,j<i->decide (w=ws.getD j default)=false) (fun(i:Nat)=>ws.length-i) 0 ⟨U,U,U,U,trivial⟩ ⟨Zv _,fun j h=>by omega⟩ ?_
 intro i d;obtain⟨e,b⟩:=d;refine A3<|A0<|F4 U U<|xN [0,1,7,8,9] [] U<|A3 ?_
 refine A4 U ?_ ?_<;>intro a<;>try simp only[SL]at a
 ·refine A7<|A3<|B0<|A3<|A0<|y_M U<|y_S U<|xN [0,1,5,7,8] [] U<|A3<|A0<|y_M U<|y_M U<|y_M U<|B7 U U U (fun _=>U) (by omega)<|y_I U<|H1 U U<|xN [0,1,5,7,8,16] [] U ?_
  refine A4 U ?_ ?_<;>intro a<;>try simp only[SL]at a
  ·refine A3<|A0<|y_M U<|y_S U<|xN [4] [] U<|A9 ?_
   refine⟨_,_,?_,J1 U U B5⟩;exact⟨_,U,U,e6t (q:=fun v=>decide (w=v)) (by omega) (by simpa using a)⟩
  refine A7<|A0<|D7 U U (B9 (by omega))<|y_M U<|xN [0,1,7,8] [] U ?_
  refine⟨i+1,⟨by omega,fun j c=>by rcases Yx.1 c with h|h;(·exact b j h);(·subst h;simpa using a)⟩,(by omega),⟨U,U,U,U,trivial⟩⟩
 refine D6<|A3<|A0<|y_S U<|xN [4] [] U<|A9 ?_
 refine⟨_,_,?_,J1 U U B5⟩;exact⟨-1,U,U,e4u (q:=fun v=>decide (w=v)) fun j c=>b j (by omega)⟩
theorem b3u:D9 Tryz.f43=[0,1,4]:=by kernel_rfl
theorem d4h(ws:List W8)(b:ws.length<=1000)(w:W8):CW (cxT oG) 43 [.list (ws.map tV),tV w]=some (bV (ws.any fun v=>decide (w=v)),[]):=by
 obtain⟨_,_,⟨r,rfl,rfl,c⟩,a⟩:=e8y (oG:=oG) ws b w;refine C7 U Tryz.func43 U ⟨by kernel_rfl,U,dT U,dT U,by decide⟩ b3u<|A3<|A0<|y_S U<|xN [0,1] [] U<|A3<|A0<|y_M U<|y_M U ?_
 refine xC2 U U U (a) ⟨U,U,U⟩ U U fun g7=> ?_
 refine c0r U U<|y_S U<|xN [4] [] U<|A9<|C4 U U trivial ?_
 rw[<-c]
theorem c8s:D9 Tryz.f141=[0,1,4,5,8,6,10,7,11,9,12,13]:=by kernel_rfl
theorem f2b(a b:Nat)(c:a*b<=1000)(d:a<=1000)(e:b<=1000):CW (cxT oG) 141 [wV a,wV b]=some (.tup [wV 0,wV ((a*b:Nat):Int)],[]):=by
 refine C7 U Tryz.func141 U ⟨by kernel_rfl,U,dT U,dT U,by decide⟩ c8s<|A3<|A0<|y_S U<|y_S U<|xN [0,1] [] U<|A3<|A0<|y_M U<|e2n U U ?_
 rw[e8w (n:=a) (by omega)];refine y_S U<|xN [0,1,6] [] U<|A3<|A0<|y_M U<|c5j U U (by decide) ?_
 rw[d3l (n:=a) (by omega)];refine y_S U<|xN [0,1,6,7] [] U<|A3<|A0<|y_M U<|e2n U U ?_
 rw[e8w (n:=b) (by omega)];refine y_S U<|xN [0,1,6,7,8] [] U<|A3<|A0<|y_M U<|c5j U U (by decide) ?_
 rw[d3l (n:=b) (by omega)];refine y_S U<|xN [0,1,6,7,8,9] [] U<|A3<|A0<|y_M U<|y_M U ?_
 have hm:(a:Int)*b=((a*b:Nat):Int):=by simp
 refine V3 U U (a8h (by rw[hm];omega)) ?_;rw[hm];refine y_S U<|xN [0,1,6,7,8,9,10] [] U<|A3<|A0<|y_M U<|y_M U<|V3 U U (a8h (by rw[Int.zero_mul];omega)) ?_
 rw[Int.zero_mul];refine y_M U<|c5j U U (by decide) ?_
 rw[d3l (n:=(a*b)) (by omega)];refine D7 U U (a8h (by omega)) ?_;rw[show(0:Int)+0=((0:Nat):Int)from U];refine y_S U<|xN [0,1,6,7,9,11] [] U<|A3<|A0<|y_M U<|e2n U U ?_
 rw[e8w (n:=0) (by omega)];refine y_S U<|xN [0,1,6,7,9,11,12] [] U<|A3<|A0<|y_M U<|c5j U U (by decide) ?_
 rw[d3l (n:=0) (by omega)];refine y_S U<|xN [0,1,6,7,9,12,13] [] U<|A3<|A0<|y_M U<|y_M U<|y_M U<|V3 U U (a8h (by rw[Int.mul_zero];omega)) ?_
 rw[Int.mul_zero];refine D7 U U (a8h (by omega)) ?_;rw[show(((0:Nat):Int))+0=((0:Nat):Int)from U];refine y_S U<|xN [0,1,7,9,12,13] [] U<|A3<|A0<|y_M U<|y_M U<|V3 U U (a8h (by omega)) ?_
 rw[show(0:Int)*0=0 from U];refine y_M U<|D7 U U (a8h (by omega)) ?_
 rw[show(0:Int)+0=0 from U];refine y_M U<|c5j U U (by decide) ?_
 rw[d3l (n:=0) (by omega)];refine D7 U U (a8h (by omega)) ?_;rw[show(0:Int)+0=0 from U];refine y_S U<|xN [0,1,4] [] U<|A3<|A0<|y_M U<|y_M U<|V3 U U (a8h (by rw[hm];omega)) ?_
 rw[hm];refine y_S U<|xN [4,5] [] U<|A9<|C0 (D3 U U (D3 U U (C5 B5))) ?_
 rfl
theorem d8n:D9 Tryz.f111=[0,1,4,5,7,6,9,8]:=by kernel_rfl
theorem f6x(a b:Nat)(d:a*b<=1000)(f:a<=1000)(g:b<=1000):CW (cxT oG) 111 [wV a,wV b]=some (.tup [wV 0,wV ((a*b:Nat):Int)],[]):=by
 refine C7 U Tryz.func111 U ⟨by kernel_rfl,U,dT U,dT U,by decide⟩ d8n<|A3<|A0<|y_S U<|y_S U<|xN [0,1] [] U<|A3 ?_
 refine A4 U (fun c=> ?_) (fun c=> ?_)
 ·try simp only[SD]at c
  cases c
 try simp only[SL]at c
 refine A7<|A3<|A0<|y_M U<|y_M U ?_
 apply xC U
 ·apply A8
  ·exact B1 U
  apply A8
  ·exact B1 U
  exact C2
 ·exact f2b a b d f g
 refine⟨⟨U,U,U,dT U,U⟩,.inl U,B2,J2 U,fun _=>U,fun e=> ?_⟩;refine y_M U<|y_E U<|y_E U<|y_S U<|y_S U<|xN [8,9] [] U<|A3<|A0<|y_M U<|y_M U<|y_S U<|y_S U<|xN [4,5] [] U<|A9<|C0 (D3 U U (D3 U U (C5 B5))) ?_
 rfl
theorem c4f:D9 Tryz.f82=[0,1,4,10,6,5,26,7,8,37]:=by kernel_rfl
theorem e6s(n:Nat)(k:n<=1000):CW (cxT oG) 82 [L [1],nV n]=some (.own 1 ((V6 n).map iV),[]):=by
 refine C7 U Tryz.func82 U ⟨by kernel_rfl,U,dT U,dT U,by decide⟩ c4f<|A3<|A0 ?_
 (refine B4 U U (fun _=>U) ?_;intro g4)
 refine xN [0,1] [] U<|A3<|A3<|A0<|y_M U<|F4 U U<|xN [0,1,10] [] U ?_
 refine A4 U (fun a=> ?_) (fun a=> ?_)
 ·try simp only[SD]at a
  omega
 try simp only[SL]at a
 refine A7<|A3<|A0<|y_M U<|B8 U U<|a2m U U U (a8h (by decide))<|y_M U<|a2m U U U (a8h (by omega)) ?_
 apply xC U
 ·apply A8
  ·exact B1 U
  apply A8
  ·exact B1 U
  exact C2
 ·exact f6x 1 n (by omega) (by omega) k
 refine⟨⟨U,U,U,dT U,U⟩,.inl U,B2,J2 U,fun _=>U,fun g18=> ?_⟩;rw[Nat.one_mul];refine y_M U<|y_E U<|y_E U<|y_S U<|y_S U<|xN [0,5,6] [] U<|A3<|A3<|A0<|y_M U<|M0 U U<|y_M U<|G2 U U U<|y_M U<|G2 U U U<|M0 U U<|E8 U U U U<|xN [0,6,26] [] U ?_
 refine A4 U (fun a=> ?_) (fun a=> ?_)
 ·try simp only[SD]at a
  omega
 try simp only[SL]at a
 refine A7<|A3<|A0<|y_M U<|a2m U U U (B9 (by omega))<|a2b (f:=iV) (x0:=0) U U U U U (by simp only[H0];omega) (dT U) (fun _=>B3 (by exact A6 fun _=>U)) (fun _=>U) ?_
 intro g
 (refine xO U U (by simp) U (fun _=>U) (fun _=>U) ?_;intro g7)
 refine xN [0,7] [7] U<|A3<|A0<|y_M U<|y_M U ?_
 try simp only[Int.toNat_natCast]
 refine c2j (ys:=[1]) U U e9m U (by simp) U (by simp only[H0];simp;omega) U (B3 (A6 fun _=>U))<|y_S U<|xN [7,8] [7] U<|A3<|B0<|D8 (β:=Nat×List Int) [(.t 7,_)] (fun(z:Nat×List Int)=>match z with|(m,xs)=>[(.t 8,nV m),(.h 7,.obj g7 0 1 (xs.map iV))]) (fun(z:Nat×List Int)=>match z with|(m,xs)=>Cps n m xs/\(m=0->n=0)) (fun(z:Nat×List Int)=>match z with|(m,xs)=>n-m) (min 1 n,_) ⟨U,U,U,trivial⟩ ⟨f2y n,by omega⟩ ?_
 intro z e;obtain⟨m,xs⟩:=z
 try dsimp only at e
 obtain⟨b,j⟩:=e;have c:=e0u b;have i:=b.1;refine A3<|A3<|A0<|y_M U<|y_M U<|G8 U U<|F4 U U<|xN [7,8,37] [7] U ?_
 refine A4 U ?_ ?_<;>intro a<;>try simp only[SL]at a
 ·refine A7<|B0<|A0<|y_M U<|y_M U<|y_M U<|a8d U U U I2 (G1 U) (by omega) U<|y_M U<|y_M U<|a1j U U U (G1 U) (by omega) U<|c2j U U (f6a U U (by omega)) U (by omega) U (by simp only[H0];omega) U (B3 (A6 fun _=>U))<|D7 U U (B9 (by omega))<|y_S U ?_
  refine G7 ⟨fun _=>⟨by decide+kernel,by decide+kernel⟩,[(.t 7,_),(.t 8,_),(.h 7,_)],⟨U,U,U,U,U,U,trivial⟩,?_⟩;rw[<-Int.natCast_add];refine⟨(m+min (xs.take m).length (n-m),_),?_,(by simp only;rw[ZH];omega),⟨U,U,U,trivial⟩⟩;exact⟨by have h:=e8z b U;simpa only[ZL]using h,by omega⟩
 refine D6<|A3<|A0<|y_M U ?_
 (refine I9 U U (by(simp;omega)) U (fun _=>(B3 (by exact A6 fun _=>U))) (fun _=>U) ?_;intro g4)
 refine xN [4] [4] U<|A9<|J3 U U (by simp[c]) (by exact A6 fun _=>U) trivial ?_
 have d:m=n:=by omega
 subst d;rw[f2c b]
theorem d2p:D9 Tryz.f23=[0,1,4,5,2,11,19,7,34,39,50,8,6]:=by kernel_rfl
theorem e8l(t:Pl)(d:t.good)(e:t.wf)(a:List (List Int))(m:vcs a=true)(F:a.length<=1048576)(G:∀c∈a,c.length<=1048576):∃res outs,(fun res outs=>∃r:List Int,res= .tup [.own 1 (r.map iV),bV (runP a t).isSome]/\outs=[]/\∀v,runP a t=some v->r=v) res outs/\CW (cxT oG) 23 [trK t,M a]=some (res,outs):=by
 obtain⟨B,j⟩:∃B:Nat,t.sz<B:=⟨_,Nat.lt_succ_self _⟩;revert t
 induction B with
 |zero=>intro t d e j;exact absurd j (Nat.not_lt_zero _)
 |succ B L=>
  intro t d e j;refine M3 U Tryz.func23 U ⟨by kernel_rfl,U,dT U,dT U,by decide⟩ d2p<|A3<|A0 ?_
  rcases t with ns|w|⟨w,p⟩|⟨w,p,q⟩
  ·rw[b8i]
   have T:=a4r (show vd ns=true from d);refine P3 U U U (fun _=>H7 U) (fun _=>U) ?_;intro g2
   (refine B4 U U (fun _=>U) ?_;intro g4)
   refine y_S U<|xN [1,2] [2] U<|A3<|A3<|A0<|y_F U<|y_L U<|H1 U U<|xN [1,2,11] [2] U ?_
   refine A4 U (fun b=> ?_) (fun b=>absurd b (by decide));refine A3<|A0<|B6 (es:=Zw iV []) U U (dT U) U U (fun _=>B3 (A6 fun _=>U)) (fun _=>U) ?_
   intro g12;refine y_F U<|y_L U<|Q0 U U U (by(simp;done)) U U U (dT U) (fun _=>⟨U,U,U⟩) (by simp only[H0];(simp only[Zo,Ze,Zf,ZL,Zi];omega)) (fun _=>U) ?_
   intro g15
   (refine xO U U (by simp) U (fun _=>U) (fun _=>U) ?_;intro g4)
   refine y_S U<|xN [4,5] [4] U<|A9 ?_
   refine⟨_,_,?_,C0 (F9 U U (by simp) (by exact A6 fun _=>U) (D3 U U (C5 B5))) U⟩;exact⟨ns,U,U,fun v h=>Option.some.inj h⟩
  ·rw[b8k]
   have K:rch (bA w)=0:=e;obtain⟨⟨k,P,N⟩,-⟩:=e1w K;have H:=e3f P;have s:w≠[108,105,115,116]:=d.1;refine P3 U U U (fun _=>H7 U) (fun _=>U) ?_;intro g2
   (refine B4 U U (fun _=>U) ?_;intro g4)
   refine y_S U<|xN [1,2] [2] U<|A3<|A3<|A0<|y_F U<|y_L U<|H1 U U<|xN [1,2,11] [2] U ?_
   refine A4 U (fun b=>absurd b (by simp_all)) (fun b=> ?_);refine A7<|A3<|A3<|A0<|y_F U<|y_L U<|B8 U U<|K6 U U<|xN [1,2,19] [2] U ?_
   refine A4 U (fun b=> ?_) (fun b=>absurd b (by decide));refine A3<|A0<|y_F U<|y_L U<|y_M U ?_
   apply xC U
   ·apply A8
    ·exact B1 U
    apply A8
    ·exact B1 U
    exact C2
   ·exact(by have O:=b9x (oG:=oG) k P a F G;rw[<-N]at O;exact O)
   refine⟨⟨U,U,U,dT U,U⟩,.inl U,B2,H4,fun _=>U,fun g23=> ?_⟩;simp only[Zi]
   (refine xO U U (by simp) U (fun _=>U) (fun _=>U) ?_;intro g4)
   refine y_S U<|xN [4,5] [4] U<|A9 ?_
   refine⟨_,_,?_,C0 (F9 U U (by simp) (by exact A6 fun _=>U) (D3 U U (C5 B5))) U⟩;refine⟨a.getD k default,U,U,fun v h=> ?_⟩;rw[runP,N,H]at h;exact Option.some.inj h
  ·rw[d0f]
   have u:(Pl.un w p).sz=p.sz+1:=rfl;have S:nd (bA w)=1:=(S8 (by have h:=e.1;omega)).trans e.1;have s:w≠[108,105,115,116]:=d.1;refine P3 U U U (fun _=>H7 U) (fun _=>U) ?_;intro g2
   (refine B4 U U (fun _=>U) ?_;intro g4)
   refine y_S U<|xN [1,2] [2] U<|A3<|A3<|A0<|y_F U<|y_L U<|H1 U U<|xN [1,2,11] [2] U ?_
   refine A4 U (fun b=>absurd b (by simp_all)) (fun b=> ?_);refine A7<|A3<|A3<|A0<|y_F U<|y_L U<|B8 U U<|K6 U U<|xN [1,2,19] [2] U ?_
   refine A4 U (fun b=>absurd b (by exact fun h=>ZK (show false=true from h))) (fun b=> ?_);refine A7<|A3<|A0<|y_F U<|y_L U<|H9 U U U (fun _=>U) (by show(0:Int)<=0/\(0:Int)<((1:Nat):Int);omega)<|y_I U<|y_M U ?_
   obtain⟨_,_,⟨z,rfl,rfl,l⟩,g⟩:=L p d.2.2 e.2 (by omega);rw[<-L0]at g;apply xC U
   ·apply A8
    ·exact B1 U
    apply A8
    ·exact B1 U
    exact C2
   ·exact g
   refine⟨⟨U,U,U,dT U,U⟩,.inr ⟨I5 _ _,U⟩,B2,H3 (L1 fun _=>J5 U L3),fun _=>U,fun C=> ?_⟩;simp only[Zi];refine y_M U<|y_E U<|y_E U ?_
   (refine xO U U (by simp) U (fun _=>U) (fun _=>U) ?_;intro g6)
   refine y_S U<|xN [1,2,6,7] [2,6] U<|A3<|A3<|A0<|y_M U<|H8 U<|xN [1,2,6,34] [2,6] U ?_
   refine A4 U ?_ ?_<;>intro b<;>try simp only[SL]at b
   ·refine A3<|A0 ?_
    (refine B4 U U (fun _=>U) ?_;intro g4)
    refine y_S U<|xN [4,5] [4] U<|A9 ?_
    refine⟨_,_,?_,C0 (F9 U U (by simp) (by rfl) (D3 U U (C5 B5))) U⟩;have f:runP a p=none:=by simpa using b
    refine⟨[],?_,U,?_⟩
    ·rw[runP,f];rfl
    rw[runP,f];intro v h;cases h
   obtain⟨x,i⟩:=ZT.1 (show(runP a p).isSome=true by assumption);obtain rfl:=l x i;have n:=a8c m d.2.2 i;refine A7<|A3<|A0<|B6 (es:=Zw iV []) U U (dT U) U U (fun _=>B3 (A6 fun _=>U)) (fun _=>U) ?_
   intro D
   (refine xO U U (by simp) U (fun _=>U) (fun _=>U) ?_;intro g8)
   refine xN [1,2,6,8] [2,6,8] U<|A3<|A3<|A0<|y_F U<|y_L U<|B8 U U<|K6 U U<|xN [1,2,6,8,39] [2,6,8] U ?_
   refine A4 U (fun b=>absurd b (by exact fun h=>ZK (show false=true from h))) (fun b=> ?_);refine A7<|A3<|A0<|y_F U<|y_L U<|y_M U<|y_M U ?_
   apply xC U
   ·apply A8
    ·exact B1 U
    apply A8
    ·exact E7 U U U (by(simp;done)) (fun _=>U)
    apply A8
    ·exact E7 U U U (by(simp;done)) (fun _=>U)
    exact C2
   ·exact b8g (bA w) (by omega) z [] n e0l
   refine⟨⟨U,U,U,dT U,U⟩,.inr ⟨I5 _ _,U⟩,B2,H3 (L1 fun _=>J5 U L3),fun _=>U,fun E=> ?_⟩;simp only[Zi];refine y_E U<|y_E U ?_
   (refine xO U U (by simp) U (fun _=>U) (fun _=>U) ?_;intro g4)
   refine y_S U<|xN [4,5] [4] U<|A9 ?_
   refine⟨_,_,?_,C0 (F9 U U (by simp) (by exact A6 fun _=>U) (D3 U U (C5 B5))) U⟩;refine⟨raR (bA w) z [],?_,U,?_⟩
   ·rw[runP,i,Zl];rfl
   rw[runP,i,Zl];exact fun v h=>b8p h
  rw[b7z];have u:(Pl.bin w p q).sz=p.sz+q.sz+1:=rfl;have S:nd (bA w)=2:=(S8 (by have h:=e.1;omega)).trans e.1;have s:w≠[108,105,115,116]:=d.1;refine P3 U U U (fun _=>H7 U) (fun _=>U) ?_;intro g2
  (refine B4 U U (fun _=>U) ?_;intro g4)
  refine y_S U<|xN [1,2] [2] U<|A3<|A3<|A0<|y_F U<|y_L U<|H1 U U<|xN [1,2,11] [2] U ?_
  refine A4 U (fun b=>absurd b (by simp_all)) (fun b=> ?_);refine A7<|A3<|A3<|A0<|y_F U<|y_L U<|B8 U U<|K6 U U<|xN [1,2,19] [2] U ?_
  refine A4 U (fun b=>absurd b (by exact fun h=>ZK (show false=true from h))) (fun b=> ?_);refine A7<|A3<|A0<|y_F U<|y_L U<|H9 U U U (fun _=>U) (by show(0:Int)<=0/\(0:Int)<((2:Nat):Int);omega)<|y_I U<|y_M U ?_
  obtain⟨_,_,⟨z,rfl,rfl,l⟩,g⟩:=L p d.2.2.1 e.2.1 (by omega);rw[<-L0]at g;apply xC U
  ·apply A8
   ·exact B1 U
   apply A8
   ·exact B1 U
   exact C2
  ·exact g
  refine⟨⟨U,U,U,dT U,U⟩,.inr ⟨I5 _ _,U⟩,B2,H3 (L1 fun _=>J5 U L3),fun _=>U,fun C=> ?_⟩;simp only[Zi];refine y_M U<|y_E U<|y_E U ?_
  (refine xO U U (by simp) U (fun _=>U) (fun _=>U) ?_;intro g6)
  refine y_S U<|xN [1,2,6,7] [2,6] U<|A3<|A3<|A0<|y_M U<|H8 U<|xN [1,2,6,34] [2,6] U ?_
  refine A4 U ?_ ?_<;>intro b<;>try simp only[SL]at b
  ·refine A3<|A0 ?_
   (refine B4 U U (fun _=>U) ?_;intro g4)
   refine y_S U<|xN [4,5] [4] U<|A9 ?_
   refine⟨_,_,?_,C0 (F9 U U (by simp) (by rfl) (D3 U U (C5 B5))) U⟩;have f:runP a p=none:=by simpa using b
   refine⟨[],?_,U,?_⟩
   ·rw[runP,f];rfl
   rw[runP,f];intro v h;cases h
  obtain⟨x,i⟩:=ZT.1 (show(runP a p).isSome=true by assumption);obtain rfl:=l x i;have n:=a8c m d.2.2.1 i;refine A7<|A3<|A0<|B6 (es:=Zw iV []) U U (dT U) U U (fun _=>B3 (A6 fun _=>U)) (fun _=>U) ?_
  intro D
  (refine xO U U (by simp) U (fun _=>U) (fun _=>U) ?_;intro g8)
  refine xN [1,2,6,8] [2,6,8] U<|A3<|A3<|A0<|y_F U<|y_L U<|B8 U U<|K6 U U<|xN [1,2,6,8,39] [2,6,8] U ?_
  refine A4 U (fun b=> ?_) (fun b=>absurd b (by exact fun h=>ZK (show true=false from h)));refine A3<|A0<|y_F U<|y_L U<|H9 U U U (fun _=>U) (by show(0:Int)<=1/\(1:Int)<((2:Nat):Int);omega)<|y_I U<|y_M U ?_
  obtain⟨_,_,⟨Q,rfl,rfl,I⟩,o⟩:=L q d.2.2.2 e.2.2 (by omega);rw[<-L0]at o;apply xC U
  ·apply A8
   ·exact B1 U
   apply A8
   ·exact B1 U
   exact C2
  ·exact o
  refine⟨⟨U,U,U,dT U,U⟩,.inr ⟨I5 _ _,U⟩,B2,H3 (L1 fun _=>J5 U L3),fun _=>U,fun R=> ?_⟩;simp only[Zi];refine y_M U<|y_E U<|y_E U ?_
  (refine xO U U (by simp) U (fun _=>U) (fun _=>U) ?_;intro g8)
  refine y_S U<|xN [2,6,7,8] [2,6,8] U<|A3<|A0<|y_M U<|H8 U<|xN [2,6,8,50] [2,6,8] U ?_
  refine A4 U ?_ ?_<;>intro b<;>try simp only[SL]at b
  ·refine A3<|A0 ?_
   (refine B4 U U (fun _=>U) ?_;intro g4)
   refine y_S U<|xN [4,5] [4] U<|A9 ?_
   refine⟨_,_,?_,C0 (F9 U U (by simp) (by rfl) (D3 U U (C5 B5))) U⟩;have f:runP a q=none:=by simpa using b
   refine⟨[],?_,U,?_⟩
   ·rw[runP,i,Zl,f];rfl
   rw[runP,i,Zl,f];intro v h;cases h
  obtain⟨y,A⟩:=ZT.1 (show(runP a q).isSome=true by assumption);obtain rfl:=I y A;have J:=a8c m d.2.2.2 A;refine A7<|A3<|A0<|y_F U<|y_L U<|y_M U<|y_M U ?_
  apply xC U
  ·apply A8
   ·exact B1 U
   apply A8
   ·exact E7 U U U (by(simp;done)) (fun _=>U)
   apply A8
   ·exact E7 U U U (by(simp;done)) (fun _=>U)
   exact C2
  ·exact b8g (bA w) (by omega) z Q n J
  refine⟨⟨U,U,U,dT U,U⟩,.inr ⟨I5 _ _,U⟩,B2,H3 (L1 fun _=>J5 U L3),fun _=>U,fun E=> ?_⟩;simp only[Zi];refine y_E U<|y_E U ?_
  (refine xO U U (by simp) U (fun _=>U) (fun _=>U) ?_;intro g4)
  refine y_S U<|xN [4,5] [4] U<|A9 ?_
  refine⟨_,_,?_,C0 (F9 U U (by simp) (by exact A6 fun _=>U) (D3 U U (C5 B5))) U⟩;refine⟨raR (bA w) z Q,?_,U,?_⟩
  ·rw[runP,i,Zl,A,Zl];rfl
  rw[runP,i,Zl,A,Zl];exact fun v h=>b8p h
theorem c4p:D9 Tryz.f12=[0,1,4,5,6,26,32,8,10,47,9,7,54,55,11,12,66,14,70,13,90,94,97,106,113,116,126,140,153,16,15,171,43,139,152,170]:=by kernel_rfl
theorem e6u(l:W8)(hl:l.length<=1048576)(C:List (List Int))(o:vcs C=true):∃res outs,(fun res outs=>∃C1:List (List Int),res= .tup [tV (deskL (n4 C) l).1,.own 1 (C1.map lF)]/\outs=[]/\n4 C1=(deskL (n4 C) l).2/\vcs C1=true) res outs/\CW (cxT oG) 12 [tV l,.own 1 (C.map lF)]=some (res,outs):=by
 have bl:=(a1s.1 o).2;have H:∀c∈C,c.length<=1048576:=fun c a=>by have:=a4r ((a1s.1 o).1 c a);omega
 have b9:(n4 C).length=4:=rfl;have bp:(rsL l).length<=l.length:=e9g 32 l;refine M3 U Tryz.func12 U ⟨by kernel_rfl,U,dT U,dT U,by decide⟩ c4p<|A3<|A0<|y_S U ?_
 (refine B4 U U (fun _=>U) ?_;intro g5)
 refine xN [0,1] [1] U<|A3<|A0<|y_S U<|xN [0,1,6] [1] U ?_
 refine a0a (β:=Nat) [(.t 0,_),(.t 1,_),(.h 1,_)] ⟨U,U,U,trivial⟩ (fun(i:Nat)=>[(.t 6,nV i)]) (fun(i:Nat)=>i<=l.length/\(∀j,j<i->l.getD j 0≠32)/\(i=l.length\/l.getD i 0=32)) ?_ ?_
 ·skip
  refine B0<|D8 (β:=Nat) [(.t 0,_),(.t 1,_),(.h 1,_)] (fun(i:Nat)=>[(.t 6,nV i)]) (fun(i:Nat)=>i<=l.length/\∀j,j<i->l.getD j 0≠32) (fun(i:Nat)=>l.length-i) 0 ⟨U,U,U,U,trivial⟩ ⟨Zv _,fun j h=>by omega⟩ ?_
  intro i d;obtain⟨M,N⟩:=d;refine A3<|A3<|A0<|y_M U<|y_M U<|W5 U U<|F4 U U<|y_M U ?_
  refine D5 U U ?_ ?_<;>intro u<;>have S:=u<;>try simp only[SG]at S
  ·refine y_M U<|gT U U<|y_M U<|gT U U<|M9 U U U (by omega)<|gT U U<|b0i U U<|F0 U (by assumption) U U<|xN [0,1,6,26] [1] U ?_
   refine A4 U ?_ ?_<;>intro a<;>try simp only[SL]at a
   ·have H:l.getD i 0≠32:=fun e=>a (by rw[e];rfl)
    refine A7<|B0<|A0<|y_M U<|D7 U U (B9 (by omega))<|y_S U<|xN [0,1,6] [1] U ?_
    refine⟨i+1,⟨by omega,fun j hj=>by rcases Yx.1 hj with h|h;(·exact N j h);(·subst h;exact H)⟩,(by omega),⟨U,U,U,U,trivial⟩⟩
   have H:l.getD i 0=32:=UInt8.toNat_inj.1 (by show(l.getD i 0).toNat=32;omega);refine D6 ?_;refine⟨i,?_,⟨U,U,U,U,trivial⟩⟩;exact⟨M,N,by exact .inr H⟩
  refine gF U U<|gF U U<|gF U U<|E8 U (by assumption) U U<|xN [0,1,6,26] [1] U ?_
  refine A4 U (fun a=>absurd a (by decide)) (fun a=> ?_);refine D6 ?_;refine⟨i,?_,⟨U,U,U,U,trivial⟩⟩;exact⟨M,N,by exact .inl (by omega)⟩
 intro i d;obtain⟨M,N,aj⟩:=d;have a6:kdL l=l.take i:=e9b M N aj;have ak:(kdL l).length=i:=by rw[a6,ZH];omega
 have an:rsL l=l.drop (i+1):=by show rsC 32 l=_;unfold rsC;rw[show(kdC 32 l).length=i from ak]
 refine A3<|A3<|A0<|y_M U<|y_M U<|W5 U U<|K6 U U<|xN [0,1,6,32] [1] U ?_
 refine A4 U ?_ ?_<;>intro a<;>try simp only[SL]at a
 ·refine A3<|A0<|y_M U<|y_S U ?_
  (refine xO U U (by simp) U (fun _=>U) (fun _=>U) ?_;intro g5)
  refine xN [4,5] [5] U<|A9 ?_
  refine⟨_,_,?_,C0 (D3 U U (F9 U U (by simp) (by exact A6 fun _=>U) (C5 B5))) U⟩;exact⟨C,by rw[Q6 (fun h=>by omega)];rfl,U,by rw[Q6 (fun h=>by omega)],o⟩
 have hlt:(kdL l).length<l.length:=by omega
 refine A7<|A3<|A0<|y_M U<|y_M U<|Q7 U U (G1 U) I2 (by omega) ?_
 rw[show(l.drop 0).take (i-0)=kdL l from by rw[a6];rfl];refine y_S U<|xN [0,1,6,7] [1] U<|A3<|A0<|y_M U<|y_M U<|D7 U U (B9 (by omega)) ?_
 rw[show((i:Int)+1)=((i+1:Nat):Int) by omega];refine Q7 U U I2 (G1 U) (by omega) ?_;rw[show(l.drop (i+1)).take (l.length-(i+1))=rsL l from by rw[an,ZB (by simp)]];refine y_S U<|xN [1,7,8] [1] U<|A3<|A0<|y_M U ?_
 rcases K:rdPlan (rsL l)with _|t
 ·have m:(rdPlan (rsL l)).isSome=false:=by rw[K];rfl
  apply xC U
  ·apply A8
   ·exact B1 U
   exact C2
  ·exact(by have p:=b9s (oG:=oG) (rsL l) (by omega);rw[K]at p;exact p)
  refine⟨⟨U,U,U,dT U,U⟩,.inl U,B2,J2 U,fun _=>U,fun ad=> ?_⟩;refine y_M U<|y_E U<|y_E U<|y_A U (fun _=>U) ?_
  intro g9;refine xB U U U U U U U U U<|y_S U<|xN [1,7,9,10] [1,9] U<|A3<|A0<|B6 (es:=Zw iV []) U U (dT U) U U (fun _=>B3 (A6 fun _=>U)) (fun _=>U) ?_
  intro ae
  (refine xO U U (by simp) U (fun _=>U) (fun _=>U) ?_;intro g11)
  refine y_S U<|xN [1,7,9,10,11,12] [1,9,11] U<|A3<|A3<|A0<|y_M U<|xN [1,7,9,10,11,12,47] [1,9,11] U ?_
  refine A4 U (fun a=>absurd a (by decide)) (fun a=> ?_);refine A7<|A3<|A3<|A0<|y_M U<|xN [1,7,9,10,11,12,54] [1,9,11] U<|B0<|W3<|A3<|A0<|H1 U U<|y_S U<|xN [1,7,9,10,11,12,54,55] [1,9,11] U ?_
  refine a0a (β:=Bool) [(.t 1,_),(.t 7,_),(.t 9,_),(.t 10,_),(.t 11,_),(.t 12,_),(.t 54,_),(.h 1,_),(.h 9,_),(.h 11,_)] ⟨U,U,U,U,U,U,U,U,U,U,trivial⟩ (fun(b:Bool)=>[(.t 55,bV b)]) (fun(b:Bool)=>(b=true->∃k,k<4/\kdL l=one4 k)/\(b=false->∀k,k<4->kdL l≠one4 k)) ?_ ?_
  ·skip
   refine A4 U ?_ ?_<;>intro a<;>try simp only[SL]at a
   ·refine A7 ?_
    refine⟨_,?_,⟨U,U,U,U,U,U,U,U,U,U,U,trivial⟩⟩;exact⟨fun _=>⟨0,by decide,a⟩,fun h=>absurd a (of_decide_eq_false h)⟩
   refine A3<|A0<|H1 U U<|y_S U<|xN [1,7,9,10,11,12,54,55] [1,9,11] U ?_
   refine A4 U ?_ ?_<;>intro a<;>try simp only[SL]at a
   ·refine A7 ?_
    refine⟨_,?_,⟨U,U,U,U,U,U,U,U,U,U,U,trivial⟩⟩;exact⟨fun _=>⟨1,by decide,a⟩,fun h=>absurd a (of_decide_eq_false h)⟩
   refine A3<|A0<|H1 U U<|y_S U<|xN [1,7,9,10,11,12,54,55] [1,9,11] U ?_
   refine A4 U ?_ ?_<;>intro a<;>try simp only[SL]at a
   ·refine A7 ?_
    refine⟨_,?_,⟨U,U,U,U,U,U,U,U,U,U,U,trivial⟩⟩;exact⟨fun _=>⟨2,by decide,a⟩,fun h=>absurd a (of_decide_eq_false h)⟩
   refine A0<|H1 U U<|y_S U<|xN [1,7,9,10,11,12,54,55] [1,9,11] U ?_
   refine⟨_,?_,⟨U,U,U,U,U,U,U,U,U,U,U,trivial⟩⟩;exact⟨fun h=>⟨3,by decide,of_decide_eq_true h⟩,fun h=>f4x (by assumption) (by assumption) (by assumption) (of_decide_eq_false h)⟩
  intro b d;refine A4 U ?_ ?_<;>intro a<;>try simp only[SL]at a
  ·obtain⟨k,T,R⟩:=d.1 a
   refine A3<|A3<|A0<|y_M U<|H8 U<|y_M U<|H6 U U U<|H6 U U U<|H6 U U U<|F0 U U U U<|xN [1,7,11,66] [1,11] U ?_
   refine A4 U (fun a=> ?_) (fun a=>absurd a (by decide));refine A3<|A0<|y_M U<|y_S U ?_
   (refine xO U U (by simp) U (fun _=>U) (fun _=>U) ?_;intro g5)
   refine xN [4,5] [5] U<|A9 ?_
   refine⟨_,_,?_,C0 (D3 U U (F9 U U (by simp) (by exact A6 fun _=>U) (C5 B5))) U⟩;obtain⟨J,P,Q,-⟩:=b8a T;rw[<-R]at J P Q;exact⟨C,by rw[a1w hlt J m];rfl,U,by rw[a1w hlt J m],o⟩
  have B:=d.2 (by simpa using a);refine W3<|A3<|A0<|H1 U U<|y_S U<|xN [1,7,9,10,11,12,54,90] [1,9,11] U ?_
  refine a0a (β:=Bool) [(.t 1,_),(.t 7,_),(.t 9,_),(.t 10,_),(.t 11,_),(.t 12,_),(.t 54,_),(.h 1,_),(.h 9,_),(.h 11,_)] ⟨U,U,U,U,U,U,U,U,U,U,trivial⟩ (fun(b:Bool)=>[(.t 90,bV b)]) (fun(b:Bool)=>(b=true->kdL l=wBetter\/kdL l=wCost)/\(b=false->kdL l≠wBetter/\kdL l≠wCost)) ?_ ?_
  ·skip
   refine A4 U ?_ ?_<;>intro a<;>try simp only[SL]at a
   ·refine A7 ?_
    refine⟨_,?_,⟨U,U,U,U,U,U,U,U,U,U,U,trivial⟩⟩;exact⟨fun _=> .inl a,fun h=>absurd a (of_decide_eq_false h)⟩
   refine A0<|H1 U U<|y_S U<|xN [1,7,9,10,11,12,54,90] [1,9,11] U ?_
   refine⟨_,?_,⟨U,U,U,U,U,U,U,U,U,U,U,trivial⟩⟩;exact⟨fun h=> .inr (of_decide_eq_true h),fun h=>⟨a,of_decide_eq_false h⟩⟩
  intro b d;refine A4 U ?_ ?_<;>intro a<;>try simp only[SL]at a
  ·have v:=d.1 a
   refine A3<|A3<|A0<|y_M U<|H8 U<|xN [1,7,9,94] [1,9] U ?_
   refine A4 U (fun a=> ?_) (fun a=>absurd a (by decide));refine A3<|A0<|y_M U<|y_S U ?_
   (refine xO U U (by simp) U (fun _=>U) (fun _=>U) ?_;intro g5)
   refine xN [4,5] [5] U<|A9 ?_
   refine⟨_,_,?_,C0 (D3 U U (F9 U U (by simp) (by exact A6 fun _=>U) (C5 B5))) U⟩;exact⟨C,by rw[a1w hlt (by rcases v with e|e<;>(rw[e];rfl)) m];rfl,U,by rw[a1w hlt (by rcases v with e|e<;>(rw[e];rfl)) m],o⟩
  obtain⟨y,A⟩:=d.2 (by simpa using a);refine W3<|A3<|A0<|H1 U U<|y_S U<|xN [1,7,11,12,54,106] [1,11] U ?_
  refine a0a (β:=Bool) [(.t 1,_),(.t 7,_),(.t 11,_),(.t 12,_),(.h 1,_),(.h 11,_)] ⟨U,U,U,U,U,U,trivial⟩ (fun(b:Bool)=>[(.t 106,bV b)]) (fun(b:Bool)=>(b=true->b4c (kdL l))/\(b=false->¬b4c (kdL l))) ?_ ?_
  ·skip
   refine A4 U ?_ ?_<;>intro a<;>try simp only[SL]at a
   ·refine A7 ?_
    refine⟨_,?_,⟨U,U,U,U,U,U,U,trivial⟩⟩;exact⟨fun _=> .inl a,fun h=>absurd a (of_decide_eq_false h)⟩
   refine A3<|A0<|H1 U U<|y_S U<|xN [1,7,11,12,54,106] [1,11] U ?_
   refine A4 U ?_ ?_<;>intro a<;>try simp only[SL]at a
   ·refine A7 ?_
    refine⟨_,?_,⟨U,U,U,U,U,U,U,trivial⟩⟩;exact⟨fun _=> .inr (.inl a),fun h=>absurd a (of_decide_eq_false h)⟩
   refine A3<|A0<|H1 U U<|y_S U<|xN [1,7,11,12,54,106] [1,11] U ?_
   refine A4 U ?_ ?_<;>intro a<;>try simp only[SL]at a
   ·refine A7 ?_
    refine⟨_,?_,⟨U,U,U,U,U,U,U,trivial⟩⟩;exact⟨fun _=> .inr (.inr (.inl a)),fun h=>absurd a (of_decide_eq_false h)⟩
   refine A3<|A0<|H1 U U<|y_S U<|xN [1,7,11,12,54,106] [1,11] U ?_
   refine A4 U ?_ ?_<;>intro a<;>try simp only[SL]at a
   ·refine A7 ?_
    refine⟨_,?_,⟨U,U,U,U,U,U,U,trivial⟩⟩;exact⟨fun _=> .inr (.inr (.inr (.inl a))),fun h=>absurd a (of_decide_eq_false h)⟩
   refine A0<|H1 U U<|y_S U<|xN [1,7,11,12,106] [1,11] U ?_
   refine⟨_,?_,⟨U,U,U,U,U,U,U,trivial⟩⟩;exact⟨fun h=> .inr (.inr (.inr (.inr (of_decide_eq_true h)))),fun h e=>by rcases e with e|e|e|e|e<;>first|exact absurd e (of_decide_eq_false h)|exact absurd e (by assumption)⟩
  intro b d;refine A4 U ?_ ?_<;>intro a<;>try simp only[SL]at a
  ·have q:=d.1 a
   refine A3<|A3<|A0<|y_M U<|H8 U<|xN [1,7,11,113] [1,11] U ?_
   refine A4 U (fun a=> ?_) (fun a=>absurd a (by decide));refine A3<|A0<|y_M U<|y_S U ?_
   (refine xO U U (by simp) U (fun _=>U) (fun _=>U) ?_;intro g5)
   refine xN [4,5] [5] U<|A9 ?_
   refine⟨_,_,?_,C0 (D3 U U (F9 U U (by simp) (by exact A6 fun _=>U) (C5 B5))) U⟩;obtain⟨J,P,Q,-⟩:=b7n q;exact⟨C,by rw[a1w hlt J m];rfl,U,by rw[a1w hlt J m],o⟩
  have D:=d.2 (by simpa using a);refine A7<|A3<|A0<|y_M U<|y_S U ?_
  (refine xO U U (by simp) U (fun _=>U) (fun _=>U) ?_;intro g5)
  refine xN [4,5] [5] U<|A9 ?_
  refine⟨_,_,?_,C0 (D3 U U (F9 U U (by simp) (by exact A6 fun _=>U) (C5 B5))) U⟩;have E:=d9a B y A D;exact⟨C,by rw[Q6 (fun h=>by rw[E]at h;cases h.2)];rfl,U,by rw[Q6 (fun h=>by rw[E]at h;cases h.2)],o⟩
 obtain⟨t',ab,ao,bs⟩:=a6h (s:=rsL l) (by rw[K];rfl);obtain rfl:t=t':=by rw[K]at ab;exact Option.some.inj ab
 obtain⟨br,r,I,bq,aa⟩:=Z9 K;have m:(rdPlan (rsL l)).isSome=true:=by rw[K];rfl
 apply xC U
 ·apply A8
  ·exact B1 U
  exact C2
 ·exact(by have p:=b9s (oG:=oG) (rsL l) (by omega);rw[K]at p;rw[ao]at p;exact p)
 refine⟨⟨U,U,U,dT U,U⟩,.inl U,B2,J2 U,fun _=>U,fun ad=> ?_⟩;refine y_M U<|y_E U<|y_E U<|y_A U (fun _=>U) ?_
 intro g9;refine xB U U U U U U U U U<|y_S U<|xN [1,7,9,10] [1,9] U<|A3<|A0<|B6 (es:=Zw iV []) U U (dT U) U U (fun _=>B3 (A6 fun _=>U)) (fun _=>U) ?_
 intro ae
 (refine xO U U (by simp) U (fun _=>U) (fun _=>U) ?_;intro g11)
 refine y_S U<|xN [1,7,9,10,11,12] [1,9,11] U<|A3<|A3<|A0<|y_M U<|xN [1,7,9,10,11,12,47] [1,9,11] U ?_
 refine A4 U (fun a=> ?_) (fun a=>absurd a (by exact fun h=>ZK (show true=false from h)));refine A0<|y_B U<|y_M U ?_
 rcases hr:runP C t with _|ms
 ·obtain⟨_,_,⟨ns,rfl,rfl,a8⟩,G⟩:=e8l (oG:=oG) t I r C o (by omega) H
  rw[<-L0]at G;rw[hr]at G;have F:Mv.runT (n4 C) (rsL l)=none:=by rw[e2f o,a9k o K,hr]
  apply xC U
  ·apply A8
   ·exact B1 U
   apply A8
   ·exact E7 U U U (by(simp;done)) (fun _=>U)
   exact C2
  ·exact G
  refine⟨⟨U,U,U,dT U,U⟩,.inr ⟨I5 _ _,U⟩,B2,H3 (L1 fun _=>J5 U L3),fun _=>U,fun af=> ?_⟩;simp only[Zi];refine y_M U<|y_E U<|y_E U ?_
  (refine xO U U (by simp) U (fun _=>U) (fun _=>U) ?_;intro g11)
  refine y_S U<|xN [1,7,9,10,11,12] [1,9,11] U<|A3<|A3<|A0<|y_M U<|xN [1,7,9,10,11,12,54] [1,9,11] U<|B0<|W3<|A3<|A0<|H1 U U<|y_S U<|xN [1,7,9,10,11,12,54,55] [1,9,11] U ?_
  refine a0a (β:=Bool) [(.t 1,_),(.t 7,_),(.t 9,_),(.t 10,_),(.t 11,_),(.t 12,_),(.t 54,_),(.h 1,_),(.h 9,_),(.h 11,_)] ⟨U,U,U,U,U,U,U,U,U,U,trivial⟩ (fun(b:Bool)=>[(.t 55,bV b)]) (fun(b:Bool)=>(b=true->∃k,k<4/\kdL l=one4 k)/\(b=false->∀k,k<4->kdL l≠one4 k)) ?_ ?_
  ·skip
   refine A4 U ?_ ?_<;>intro a<;>try simp only[SL]at a
   ·refine A7 ?_
    refine⟨_,?_,⟨U,U,U,U,U,U,U,U,U,U,U,trivial⟩⟩;exact⟨fun _=>⟨0,by decide,a⟩,fun h=>absurd a (of_decide_eq_false h)⟩
   refine A3<|A0<|H1 U U<|y_S U<|xN [1,7,9,10,11,12,54,55] [1,9,11] U ?_
   refine A4 U ?_ ?_<;>intro a<;>try simp only[SL]at a
   ·refine A7 ?_
    refine⟨_,?_,⟨U,U,U,U,U,U,U,U,U,U,U,trivial⟩⟩;exact⟨fun _=>⟨1,by decide,a⟩,fun h=>absurd a (of_decide_eq_false h)⟩
   refine A3<|A0<|H1 U U<|y_S U<|xN [1,7,9,10,11,12,54,55] [1,9,11] U ?_
   refine A4 U ?_ ?_<;>intro a<;>try simp only[SL]at a
   ·refine A7 ?_
    refine⟨_,?_,⟨U,U,U,U,U,U,U,U,U,U,U,trivial⟩⟩;exact⟨fun _=>⟨2,by decide,a⟩,fun h=>absurd a (of_decide_eq_false h)⟩
   refine A0<|H1 U U<|y_S U<|xN [1,7,9,10,11,12,54,55] [1,9,11] U ?_
   refine⟨_,?_,⟨U,U,U,U,U,U,U,U,U,U,U,trivial⟩⟩;exact⟨fun h=>⟨3,by decide,of_decide_eq_true h⟩,fun h=>f4x (by assumption) (by assumption) (by assumption) (of_decide_eq_false h)⟩
  intro b d;refine A4 U ?_ ?_<;>intro a<;>try simp only[SL]at a
  ·obtain⟨k,T,R⟩:=d.1 a
   refine A3<|A3<|A0<|y_M U<|H8 U<|y_M U<|H6 U U U<|H6 U U U<|H6 U U U<|F0 U U U U<|xN [1,7,11,66] [1,11] U ?_
   refine A4 U (fun a=> ?_) (fun a=>absurd a (by decide));refine A3<|A0<|y_M U<|y_S U ?_
   (refine xO U U (by simp) U (fun _=>U) (fun _=>U) ?_;intro g5)
   refine xN [4,5] [5] U<|A9 ?_
   refine⟨_,_,?_,C0 (D3 U U (F9 U U (by simp) (by exact A6 fun _=>U) (C5 B5))) U⟩;obtain⟨J,P,Q,-⟩:=b8a T;rw[<-R]at J P Q;exact⟨C,by rw[a3g hlt J P Q F];rfl,U,by rw[a3g hlt J P Q F],o⟩
  have B:=d.2 (by simpa using a);refine W3<|A3<|A0<|H1 U U<|y_S U<|xN [1,7,9,10,11,12,54,90] [1,9,11] U ?_
  refine a0a (β:=Bool) [(.t 1,_),(.t 7,_),(.t 9,_),(.t 10,_),(.t 11,_),(.t 12,_),(.t 54,_),(.h 1,_),(.h 9,_),(.h 11,_)] ⟨U,U,U,U,U,U,U,U,U,U,trivial⟩ (fun(b:Bool)=>[(.t 90,bV b)]) (fun(b:Bool)=>(b=true->kdL l=wBetter\/kdL l=wCost)/\(b=false->kdL l≠wBetter/\kdL l≠wCost)) ?_ ?_
  ·skip
   refine A4 U ?_ ?_<;>intro a<;>try simp only[SL]at a
   ·refine A7 ?_
    refine⟨_,?_,⟨U,U,U,U,U,U,U,U,U,U,U,trivial⟩⟩;exact⟨fun _=> .inl a,fun h=>absurd a (of_decide_eq_false h)⟩
   refine A0<|H1 U U<|y_S U<|xN [1,7,9,10,11,12,54,90] [1,9,11] U ?_
   refine⟨_,?_,⟨U,U,U,U,U,U,U,U,U,U,U,trivial⟩⟩;exact⟨fun h=> .inr (of_decide_eq_true h),fun h=>⟨a,of_decide_eq_false h⟩⟩
  intro b d;refine A4 U ?_ ?_<;>intro a<;>try simp only[SL]at a
  ·have v:=d.1 a
   refine A3<|A3<|A0<|y_M U<|H8 U<|xN [1,7,9,94] [1,9] U ?_
   refine A4 U (fun a=>absurd a (by exact fun h=>ZK (show false=true from h))) (fun a=> ?_);refine A7<|A3<|A3<|A0<|y_M U<|H1 U U<|xN [1,9,97] [1,9] U ?_
   refine A4 U ?_ ?_<;>intro a<;>try simp only[SL]at a
   ·refine A3<|A0<|y_B U ?_
    have L:=c1e r I;have X:=c8q r;have ah:=e0j r;have al:=V9 X L;refine xC1 U U ((by have p:=c4y (oG:=oG) t I r aa;rw[<-L0]at p;exact p)) ⟨U,U,U⟩ U U fun ag=> ?_
    refine xC1 U U ((by have p:=a6o (oG:=oG) (a7h t) (by omega) L;rw[<-L0]at p;exact p)) ⟨U,U,U⟩ U U fun a0=> ?_
    refine y_M U<|y_S U ?_
    (refine xO U U (by simp) U (fun _=>U) (fun _=>U) ?_;intro g5)
    refine xN [4,5] [5] U<|A9 ?_
    refine⟨_,_,?_,C0 (D3 U U (F9 U U (by simp) (by exact A6 fun _=>U) (C5 B5))) U⟩;exact⟨C,by rw[a0g hlt a m,a4w K];rfl,U,by rw[a0g hlt a m],o⟩
   refine A7<|A3<|A0<|y_B U ?_
   have ai:=S5 t;refine xC1 U U ((by have p:=e1o (oG:=oG) t (by omega);rw[<-L0]at p;exact p)) ⟨U,U,U⟩ U U fun a1=> ?_
   refine xC1 U U (U1 (Z1 t) (by omega)) ⟨U,U,U⟩ U U fun a2=> ?_
   refine y_M U<|y_S U ?_
   (refine xO U U (by simp) U (fun _=>U) (fun _=>U) ?_;intro g5)
   refine xN [4,5] [5] U<|A9 ?_
   refine⟨_,_,?_,C0 (D3 U U (F9 U U (by simp) (by exact A6 fun _=>U) (C5 B5))) U⟩;exact⟨C,by rw[a3e hlt (v.resolve_left a) m,a6c K];rfl,U,by rw[a3e hlt (v.resolve_left a) m],o⟩
  obtain⟨y,A⟩:=d.2 (by simpa using a);refine W3<|A3<|A0<|H1 U U<|y_S U<|xN [1,7,11,12,54,106] [1,11] U ?_
  refine a0a (β:=Bool) [(.t 1,_),(.t 7,_),(.t 11,_),(.t 12,_),(.h 1,_),(.h 11,_)] ⟨U,U,U,U,U,U,trivial⟩ (fun(b:Bool)=>[(.t 106,bV b)]) (fun(b:Bool)=>(b=true->b4c (kdL l))/\(b=false->¬b4c (kdL l))) ?_ ?_
  ·skip
   refine A4 U ?_ ?_<;>intro a<;>try simp only[SL]at a
   ·refine A7 ?_
    refine⟨_,?_,⟨U,U,U,U,U,U,U,trivial⟩⟩;exact⟨fun _=> .inl a,fun h=>absurd a (of_decide_eq_false h)⟩
   refine A3<|A0<|H1 U U<|y_S U<|xN [1,7,11,12,54,106] [1,11] U ?_
   refine A4 U ?_ ?_<;>intro a<;>try simp only[SL]at a
   ·refine A7 ?_
    refine⟨_,?_,⟨U,U,U,U,U,U,U,trivial⟩⟩;exact⟨fun _=> .inr (.inl a),fun h=>absurd a (of_decide_eq_false h)⟩
   refine A3<|A0<|H1 U U<|y_S U<|xN [1,7,11,12,54,106] [1,11] U ?_
   refine A4 U ?_ ?_<;>intro a<;>try simp only[SL]at a
   ·refine A7 ?_
    refine⟨_,?_,⟨U,U,U,U,U,U,U,trivial⟩⟩;exact⟨fun _=> .inr (.inr (.inl a)),fun h=>absurd a (of_decide_eq_false h)⟩
   refine A3<|A0<|H1 U U<|y_S U<|xN [1,7,11,12,54,106] [1,11] U ?_
   refine A4 U ?_ ?_<;>intro a<;>try simp only[SL]at a
   ·refine A7 ?_
    refine⟨_,?_,⟨U,U,U,U,U,U,U,trivial⟩⟩;exact⟨fun _=> .inr (.inr (.inr (.inl a))),fun h=>absurd a (of_decide_eq_false h)⟩
   refine A0<|H1 U U<|y_S U<|xN [1,7,11,12,106] [1,11] U ?_
   refine⟨_,?_,⟨U,U,U,U,U,U,U,trivial⟩⟩;exact⟨fun h=> .inr (.inr (.inr (.inr (of_decide_eq_true h)))),fun h e=>by rcases e with e|e|e|e|e<;>first|exact absurd e (of_decide_eq_false h)|exact absurd e (by assumption)⟩
  intro b d;refine A4 U ?_ ?_<;>intro a<;>try simp only[SL]at a
  ·have q:=d.1 a
   refine A3<|A3<|A0<|y_M U<|H8 U<|xN [1,7,11,113] [1,11] U ?_
   refine A4 U (fun a=> ?_) (fun a=>absurd a (by decide));refine A3<|A0<|y_M U<|y_S U ?_
   (refine xO U U (by simp) U (fun _=>U) (fun _=>U) ?_;intro g5)
   refine xN [4,5] [5] U<|A9 ?_
   refine⟨_,_,?_,C0 (D3 U U (F9 U U (by simp) (by exact A6 fun _=>U) (C5 B5))) U⟩;obtain⟨J,P,Q,-⟩:=b7n q;exact⟨C,by rw[a3g hlt J P Q F];rfl,U,by rw[a3g hlt J P Q F],o⟩
  have D:=d.2 (by simpa using a);refine A7<|A3<|A0<|y_M U<|y_S U ?_
  (refine xO U U (by simp) U (fun _=>U) (fun _=>U) ?_;intro g5)
  refine xN [4,5] [5] U<|A9 ?_
  refine⟨_,_,?_,C0 (D3 U U (F9 U U (by simp) (by exact A6 fun _=>U) (C5 B5))) U⟩;have E:=d9a B y A D;exact⟨C,by rw[Q6 (fun h=>by rw[E]at h;cases h.2)];rfl,U,by rw[Q6 (fun h=>by rw[E]at h;cases h.2)],o⟩
 obtain⟨_,_,⟨ns,rfl,rfl,a8⟩,G⟩:=e8l (oG:=oG) t I r C o (by omega) H;rw[<-L0]at G;rw[hr]at G;obtain rfl:=a8 ms hr;have F:Mv.runT (n4 C) (rsL l)=some ns:=by rw[e2f o,a9k o K,hr]
 have O:=a8c o I hr;have bf:=(Q4.1 O).1;have am:=e8r O;apply xC U
 ·apply A8
  ·exact B1 U
  apply A8
  ·exact E7 U U U (by(simp;done)) (fun _=>U)
  exact C2
 ·exact G
 refine⟨⟨U,U,U,dT U,U⟩,.inr ⟨I5 _ _,U⟩,B2,H3 (L1 fun _=>J5 U L3),fun _=>U,fun af=> ?_⟩;simp only[Zi];refine y_M U<|y_E U<|y_E U ?_
 (refine xO U U (by simp) U (fun _=>U) (fun _=>U) ?_;intro g11)
 refine y_S U<|xN [1,7,9,10,11,12] [1,9,11] U<|A3<|A3<|A0<|y_M U<|xN [1,7,9,10,11,12,54] [1,9,11] U<|B0<|W3<|A3<|A0<|H1 U U<|y_S U<|xN [1,7,9,10,11,12,54,55] [1,9,11] U ?_
 refine a0a (β:=Bool) [(.t 1,_),(.t 7,_),(.t 9,_),(.t 10,_),(.t 11,_),(.t 12,_),(.t 54,_),(.h 1,_),(.h 9,_),(.h 11,_)] ⟨U,U,U,U,U,U,U,U,U,U,trivial⟩ (fun(b:Bool)=>[(.t 55,bV b)]) (fun(b:Bool)=>(b=true->∃k,k<4/\kdL l=one4 k)/\(b=false->∀k,k<4->kdL l≠one4 k)) ?_ ?_
 ·skip
  refine A4 U ?_ ?_<;>intro a<;>try simp only[SL]at a
  ·refine A7 ?_
   refine⟨_,?_,⟨U,U,U,U,U,U,U,U,U,U,U,trivial⟩⟩;exact⟨fun _=>⟨0,by decide,a⟩,fun h=>absurd a (of_decide_eq_false h)⟩
  refine A3<|A0<|H1 U U<|y_S U<|xN [1,7,9,10,11,12,54,55] [1,9,11] U ?_
  refine A4 U ?_ ?_<;>intro a<;>try simp only[SL]at a
  ·refine A7 ?_
   refine⟨_,?_,⟨U,U,U,U,U,U,U,U,U,U,U,trivial⟩⟩;exact⟨fun _=>⟨1,by decide,a⟩,fun h=>absurd a (of_decide_eq_false h)⟩
  refine A3<|A0<|H1 U U<|y_S U<|xN [1,7,9,10,11,12,54,55] [1,9,11] U ?_
  refine A4 U ?_ ?_<;>intro a<;>try simp only[SL]at a
  ·refine A7 ?_
   refine⟨_,?_,⟨U,U,U,U,U,U,U,U,U,U,U,trivial⟩⟩;exact⟨fun _=>⟨2,by decide,a⟩,fun h=>absurd a (of_decide_eq_false h)⟩
  refine A0<|H1 U U<|y_S U<|xN [1,7,9,10,11,12,54,55] [1,9,11] U ?_
  refine⟨_,?_,⟨U,U,U,U,U,U,U,U,U,U,U,trivial⟩⟩;exact⟨fun h=>⟨3,by decide,of_decide_eq_true h⟩,fun h=>f4x (by assumption) (by assumption) (by assumption) (of_decide_eq_false h)⟩
 intro b d;refine A4 U ?_ ?_<;>intro a<;>try simp only[SL]at a
 ·obtain⟨k,T,R⟩:=d.1 a
  refine A3<|A3<|A0<|y_M U<|H8 U<|y_M U<|G2 U U U<|y_M U<|G2 U U U ?_
  apply xC U
  ·apply A8
   ·exact E7 U U U (by(simp;done)) (fun _=>U)
   exact C2
  ·exact a0d ns (by omega)
  refine⟨⟨U,U,U,dT U,U⟩,.inr ⟨U,U⟩,B2,C8 U,fun _=>U,fun bg=> ?_⟩;refine G2 U U U<|H8 U<|E8 U U U U<|xN [1,7,11,66] [1,11] U ?_
  refine A4 U ?_ ?_<;>intro a<;>try simp only[SL]at a
  ·refine A3<|A0<|y_M U<|y_S U ?_
   (refine xO U U (by simp) U (fun _=>U) (fun _=>U) ?_;intro g5)
   refine xN [4,5] [5] U<|A9 ?_
   refine⟨_,_,?_,C0 (D3 U U (F9 U U (by simp) (by exact A6 fun _=>U) (C5 B5))) U⟩;exact⟨C,by rw[a9x hlt T R F (by simp_all)];rfl,U,by rw[a9x hlt T R F (by simp_all)],o⟩
  have Z:vd ns=true:=by simpa using a
  refine A7<|A3<|A0<|B6 (es:=Zw oI []) U U (dT U) U U (fun _=>B3 (A6 fun _=>U)) (fun _=>U) ?_
  intro bh
  (refine xO U U (by simp) U (fun _=>U) (fun _=>U) ?_;intro g13)
  refine xN [1,7,11,13] [1,11,13] U<|A3<|A3<|A0<|y_S U<|xN [1,7,11,13,14] [1,11,13] U<|B0<|D8 (β:=Nat×List (List Int)×Nat) [(.t 1,_),(.t 7,_),(.t 11,_),(.h 1,_),(.h 11,_)] (fun(z:Nat×List (List Int)×Nat)=>match z with|(i,rows,g)=>[(.t 14,nV i),(.t 13,.sl 13 g none 0 rows.length),(.h 13,.obj g 0 1 (rows.map lF))]) (fun(z:Nat×List (List Int)×Nat)=>match z with|(i,rows,g)=>i<=4/\rows=(n4 C).take i) (fun(z:Nat×List (List Int)×Nat)=>match z with|(i,rows,g)=>4-i) (0,[],_) ⟨U,U,U,U,U,U,U,U,trivial⟩ ⟨by decide,U⟩ ?_
  intro z d;obtain⟨i,rows,g⟩:=z
  try dsimp only at d
  obtain⟨M,V⟩:=d;have bb:rows.length=i:=by rw[V,ZH];omega
  refine A3<|A3<|A0<|y_M U<|F4 U U<|xN [1,7,11,13,14,70] [1,11,13] U ?_
  refine A4 U ?_ ?_<;>intro a<;>try simp only[SL]at a
  ·refine A7<|A3<|B0<|A0<|y_M U<|y_M U<|y_M U<|D7 U U (B9 (by omega)) ?_
   rw[show((i:Int)+1)=((i+1:Nat):Int) by omega];refine Q7 U U (G1 U) (G1 U) (by(simp;omega))<|y_M U ?_
   rw[f7f (by omega)];apply xC U
   ·apply A8
    ·exact B1 U
    apply A8
    ·exact E7 U U U (by(simp;done)) (fun _=>U)
    exact C2
   ·exact b9x i (by omega) C (by omega) H
   refine⟨⟨U,U,U,dT U,U⟩,.inr ⟨P7 fun _=>U,U⟩,B2,H4,fun _=>U,fun bi=> ?_⟩;simp only[Zi];refine c7j (φ:=iV) U U (by simp) (fun _=>U) U U U U (fun _=>U) ?_;intro bj;rw[show([.list (Zw iV (C.getD i default))]:List AV)=Zw lF [C.getD i default]from U];refine xA U U U U (by simp) (by simp) U U U U U (fun _=>U) (by simp only[LN];omega) (fun _=>U) ?_;intro bk
   (refine xO U U (by simp) U (fun _=>U) (fun _=>U) ?_;intro g13)
   refine xN [1,7,11,13,14] [1,11,13] U<|A0<|y_M U<|D7 U U (B9 (by omega))<|y_S U<|xN [1,7,11,13,14] [1,11,13] U ?_
   refine⟨(i+1,rows++[C.getD i default],_),?_,(by simp only;omega),⟨U,U,U,U,U,U,U,U,trivial⟩⟩;exact⟨by omega,by rw[V,f3c (by omega)]⟩
  have a9:rows=n4 C:=by rw[V,show i=4 by omega];rfl
  clear V;subst a9;refine D6<|A3<|A0<|y_M U<|y_M U ?_
  rw[R];refine M9 (n:=0) U U U (show 0<(one4 k).length from Nat.one_pos) ?_;rw[e4h T];refine J7 U U (d5r (by omega)) ?_;rw[show((97+k:Nat):Int)-97=(k:Int) by omega];refine a2m U U U (B9 (by omega))<|y_M U<|C9 U U U U (by omega) (by(simp;done)) U ?_
  refine a2d (e:=lF ((n4 C).getD k default)) U U U (getElem?_map_getD (by omega)) U U (by simp) (A6 fun _=>U) (by decide) (fun _=>U) U (Zd 1) U (C6 (by rw[O1 fun _=>U];exact Q5 (A6 fun _=>U) (by decide)) (I4 (by rw[e2d];exact B3 (A6 fun _=>U)))) ?_;rw[e2d];refine xN [13] [13] U<|A3<|A0<|y_M U<|y_S U ?_
  (refine xO U U (by simp) U (fun _=>U) (fun _=>U) ?_;intro g5)
  refine xN [4,5] [5] U<|A9 ?_
  refine⟨_,_,?_,C0 (D3 U U (F9 U U (by simp) (by exact A6 fun _=>U) (C5 B5))) U⟩;exact⟨(n4 C).set k ns,by rw[U6 hlt T R F Z];rfl,U,by rw[U6 hlt T R F Z];exact f6z (by rw[List.length_set];rfl),e2k (d9f o) Z⟩
 have B:=d.2 (by simpa using a);refine W3<|A3<|A0<|H1 U U<|y_S U<|xN [1,7,9,10,11,12,54,90] [1,9,11] U ?_
 refine a0a (β:=Bool) [(.t 1,_),(.t 7,_),(.t 9,_),(.t 10,_),(.t 11,_),(.t 12,_),(.t 54,_),(.h 1,_),(.h 9,_),(.h 11,_)] ⟨U,U,U,U,U,U,U,U,U,U,trivial⟩ (fun(b:Bool)=>[(.t 90,bV b)]) (fun(b:Bool)=>(b=true->kdL l=wBetter\/kdL l=wCost)/\(b=false->kdL l≠wBetter/\kdL l≠wCost)) ?_ ?_
 ·skip
  refine A4 U ?_ ?_<;>intro a<;>try simp only[SL]at a
  ·refine A7 ?_
   refine⟨_,?_,⟨U,U,U,U,U,U,U,U,U,U,U,trivial⟩⟩;exact⟨fun _=> .inl a,fun h=>absurd a (of_decide_eq_false h)⟩
  refine A0<|H1 U U<|y_S U<|xN [1,7,9,10,11,12,54,90] [1,9,11] U ?_
  refine⟨_,?_,⟨U,U,U,U,U,U,U,U,U,U,U,trivial⟩⟩;exact⟨fun h=> .inr (of_decide_eq_true h),fun h=>⟨a,of_decide_eq_false h⟩⟩
 intro b d;refine A4 U ?_ ?_<;>intro a<;>try simp only[SL]at a
 ·have v:=d.1 a
  refine A3<|A3<|A0<|y_M U<|H8 U<|xN [1,7,9,94] [1,9] U ?_
  refine A4 U (fun a=>absurd a (by exact fun h=>ZK (show false=true from h))) (fun a=> ?_);refine A7<|A3<|A3<|A0<|y_M U<|H1 U U<|xN [1,9,97] [1,9] U ?_
  refine A4 U ?_ ?_<;>intro a<;>try simp only[SL]at a
  ·refine A3<|A0<|y_B U ?_
   have L:=c1e r I;have X:=c8q r;have ah:=e0j r;have al:=V9 X L;refine xC1 U U ((by have p:=c4y (oG:=oG) t I r aa;rw[<-L0]at p;exact p)) ⟨U,U,U⟩ U U fun ag=> ?_
   refine xC1 U U ((by have p:=a6o (oG:=oG) (a7h t) (by omega) L;rw[<-L0]at p;exact p)) ⟨U,U,U⟩ U U fun a0=> ?_
   refine y_M U<|y_S U ?_
   (refine xO U U (by simp) U (fun _=>U) (fun _=>U) ?_;intro g5)
   refine xN [4,5] [5] U<|A9 ?_
   refine⟨_,_,?_,C0 (D3 U U (F9 U U (by simp) (by exact A6 fun _=>U) (C5 B5))) U⟩;exact⟨C,by rw[a0g hlt a m,a4w K];rfl,U,by rw[a0g hlt a m],o⟩
  refine A7<|A3<|A0<|y_B U ?_
  have ai:=S5 t;refine xC1 U U ((by have p:=e1o (oG:=oG) t (by omega);rw[<-L0]at p;exact p)) ⟨U,U,U⟩ U U fun a1=> ?_
  refine xC1 U U (U1 (Z1 t) (by omega)) ⟨U,U,U⟩ U U fun a2=> ?_
  refine y_M U<|y_S U ?_
  (refine xO U U (by simp) U (fun _=>U) (fun _=>U) ?_;intro g5)
  refine xN [4,5] [5] U<|A9 ?_
  refine⟨_,_,?_,C0 (D3 U U (F9 U U (by simp) (by exact A6 fun _=>U) (C5 B5))) U⟩;exact⟨C,by rw[a3e hlt (v.resolve_left a) m,a6c K];rfl,U,by rw[a3e hlt (v.resolve_left a) m],o⟩
 obtain⟨y,A⟩:=d.2 (by simpa using a);refine W3<|A3<|A0<|H1 U U<|y_S U<|xN [1,7,11,12,54,106] [1,11] U ?_
 refine a0a (β:=Bool) [(.t 1,_),(.t 7,_),(.t 11,_),(.t 12,_),(.h 1,_),(.h 11,_)] ⟨U,U,U,U,U,U,trivial⟩ (fun(b:Bool)=>[(.t 106,bV b)]) (fun(b:Bool)=>(b=true->b4c (kdL l))/\(b=false->¬b4c (kdL l))) ?_ ?_
 ·skip
  refine A4 U ?_ ?_<;>intro a<;>try simp only[SL]at a
  ·refine A7 ?_
   refine⟨_,?_,⟨U,U,U,U,U,U,U,trivial⟩⟩;exact⟨fun _=> .inl a,fun h=>absurd a (of_decide_eq_false h)⟩
  refine A3<|A0<|H1 U U<|y_S U<|xN [1,7,11,12,54,106] [1,11] U ?_
  refine A4 U ?_ ?_<;>intro a<;>try simp only[SL]at a
  ·refine A7 ?_
   refine⟨_,?_,⟨U,U,U,U,U,U,U,trivial⟩⟩;exact⟨fun _=> .inr (.inl a),fun h=>absurd a (of_decide_eq_false h)⟩
  refine A3<|A0<|H1 U U<|y_S U<|xN [1,7,11,12,54,106] [1,11] U ?_
  refine A4 U ?_ ?_<;>intro a<;>try simp only[SL]at a
  ·refine A7 ?_
   refine⟨_,?_,⟨U,U,U,U,U,U,U,trivial⟩⟩;exact⟨fun _=> .inr (.inr (.inl a)),fun h=>absurd a (of_decide_eq_false h)⟩
  refine A3<|A0<|H1 U U<|y_S U<|xN [1,7,11,12,54,106] [1,11] U ?_
  refine A4 U ?_ ?_<;>intro a<;>try simp only[SL]at a
  ·refine A7 ?_
   refine⟨_,?_,⟨U,U,U,U,U,U,U,trivial⟩⟩;exact⟨fun _=> .inr (.inr (.inr (.inl a))),fun h=>absurd a (of_decide_eq_false h)⟩
  refine A0<|H1 U U<|y_S U<|xN [1,7,11,12,106] [1,11] U ?_
  refine⟨_,?_,⟨U,U,U,U,U,U,U,trivial⟩⟩;exact⟨fun h=> .inr (.inr (.inr (.inr (of_decide_eq_true h)))),fun h e=>by rcases e with e|e|e|e|e<;>first|exact absurd e (of_decide_eq_false h)|exact absurd e (by assumption)⟩
 intro b d;refine A4 U ?_ ?_<;>intro a<;>try simp only[SL]at a
 ·have q:=d.1 a
  refine A3<|A3<|A0<|y_M U<|H8 U<|xN [1,7,11,113] [1,11] U ?_
  refine A4 U (fun a=>absurd a (by exact fun h=>ZK (show false=true from h))) (fun a=> ?_);refine A7<|A3<|A3<|A0<|y_M U<|H1 U U<|xN [1,7,11,116] [1,11] U ?_
  refine A4 U ?_ ?_<;>intro a<;>try simp only[SL]at a
  ·refine A3<|A0<|y_M U ?_
   apply xC U
   ·apply A8
    ·exact E7 U U U (by(simp;done)) (fun _=>U)
    exact C2
   ·exact a3v ns (by omega) am
   refine⟨⟨U,U,U,dT U,U⟩,.inr ⟨U,U⟩,B2,C8 U,fun _=>U,fun ar=> ?_⟩;refine y_M U<|y_S U ?_
   (refine xO U U (by simp) U (fun _=>U) (fun _=>U) ?_;intro g5)
   refine xN [4,5] [5] U<|A9 ?_
   refine⟨_,_,?_,C0 (D3 U U (F9 U U (by simp) (by exact A6 fun _=>U) (C5 B5))) U⟩;have f:=S6 hlt q F;rw[show kdL l=c5u from by assumption,c5n]at f;rw[if_pos (by rfl)]at f;exact⟨C,by rw[f];rfl,U,by rw[f],o⟩
  refine A7 ?_;refine a0a (β:=Unit) [(.t 1,_),(.t 7,_),(.t 11,_),(.h 1,_),(.h 11,_)] ⟨U,U,U,U,U,trivial⟩ (fun(_:Unit)=>[]) (fun(_:Unit)=>kdL l=a4b->ns.length=0) ?_ ?_
  ·skip
   refine A3<|A0<|y_M U<|H1 U U<|y_M U ?_
   refine D5 U U ?_ ?_<;>intro u<;>have S:=u<;>try simp only[SG]at S
   ·refine y_M U<|gT U U<|G8 U U<|gT U U<|M0 U U<|F0 U (by assumption) U U<|xN [1,7,11,126] [1,11] U ?_
    refine A4 U ?_ ?_<;>intro a<;>try simp only[SL]at a
    ·refine A3<|A0<|y_M U ?_
     have a7:1<=ns.length:=by omega
     have bn:=d6u a7 (b4f O);apply xC U
     ·apply A8
      ·exact E7 U U U (by(simp;done)) (fun _=>U)
      exact C2
     ·exact e4i ns ⟨a7,by omega⟩ (b4f O)
     refine⟨⟨U,U,U,dT U,U⟩,.inr ⟨U,U⟩,B2,C8 U,fun _=>U,fun au=> ?_⟩;refine xC2 U U U (e1r (mdI ns) 2 (by omega) (by omega) (by omega)) ⟨U,U,U⟩ U U fun av=> ?_
     refine xC1 U U (d7x (Rat.divInt (mdI ns) 2) (d8s O (by omega))) ⟨U,U,U⟩ U U fun aw=> ?_
     refine y_M U<|y_S U ?_
     (refine xO U U (by simp) U (fun _=>U) (fun _=>U) ?_;intro g5)
     refine xN [4,5] [5] U<|A9 ?_
     refine⟨_,_,?_,C0 (D3 U U (F9 U U (by simp) (by exact A6 fun _=>U) (C5 B5))) U⟩;have f:=S6 hlt q F;rw[show kdL l=a4b from by assumption,b5t (by omega)]at f;rw[if_pos (by rfl)]at f;exact⟨C,by rw[f];rfl,U,by rw[f],o⟩
    refine A7 ?_;refine⟨(),?_,⟨U,U,U,U,U,trivial⟩⟩;exact fun _=>by omega
   refine gF U U<|gF U U<|E8 U (by assumption) U U<|xN [1,7,11,126] [1,11] U ?_
   refine A4 U (fun a=>absurd a (by decide)) (fun a=> ?_);refine A7 ?_;refine⟨(),?_,⟨U,U,U,U,U,trivial⟩⟩;exact fun e=>absurd e (by assumption)
  intro _ d;have a3:=d;refine a0a (β:=Unit) [(.t 1,_),(.t 7,_),(.t 11,_),(.h 1,_),(.h 11,_)] ⟨U,U,U,U,U,trivial⟩ (fun(_:Unit)=>[]) (fun(_:Unit)=>kdL l=b9l->¬vlo ns=true) ?_ ?_
  ·skip
   refine A3<|A0<|y_M U<|H1 U U<|y_M U ?_
   refine D5 U U ?_ ?_<;>intro u<;>have S:=u<;>try simp only[SG]at S
   ·refine y_M U<|gT U U<|y_M U<|gT U U<|G8 U U<|gT U U ?_
    apply xC U
    ·apply A8
     ·exact B1 U
     exact C2
    ·exact d2g ns.length (by omega)
    refine⟨⟨U,U,U,dT U,U⟩,.inl U,B2,H4,fun _=>U,fun ax=> ?_⟩;refine gT U U ?_;apply xC U
    ·apply A8
     ·exact E7 U U U (by(simp;done)) (fun _=>U)
     apply A8
     ·exact E7 U U U (by(simp;done)) (fun _=>U)
     exact C2
    ·exact e9e ns (by omega)
    refine⟨⟨U,U,U,dT U,U⟩,.inr ⟨U,U⟩,B2,C8 U,fun _=>U,fun ay=> ?_⟩;refine F0 U (by assumption) U U<|xN [1,7,11,140] [1,11] U ?_
    refine A4 U ?_ ?_<;>intro a<;>try simp only[SL]at a
    ·refine A3<|A0<|y_M U<|y_M U<|G8 U U ?_
     apply xC U
     ·apply A8
      ·exact B1 U
      exact C2
     ·exact d2g ns.length (by omega)
     refine⟨⟨U,U,U,dT U,U⟩,.inl U,B2,H4,fun _=>U,fun az=> ?_⟩;apply xC U
     ·apply A8
      ·exact E7 U U U (by(simp;done)) (fun _=>U)
      apply A8
      ·exact E7 U U U (by(simp;done)) (fun _=>U)
      exact C2
     ·exact f1t ns (by omega)
     refine⟨⟨U,U,U,dT U,U⟩,.inr ⟨P7 fun _=>U,U⟩,B2,H4,fun _=>U,fun b0=> ?_⟩;have bo:=c7a ns;apply xC U
     ·apply A8
      ·exact E7 U U U (by(simp;done)) (fun _=>U)
      exact C2
     ·exact f1g (riseQ ns) (by omega) b8b
     refine⟨⟨U,U,U,dT U,U⟩,.inr ⟨U,U⟩,B2,C8 U,fun _=>U,fun b1=> ?_⟩;refine y_M U<|y_S U ?_
     (refine xO U U (by simp) U (fun _=>U) (fun _=>U) ?_;intro g5)
     refine xN [4,5] [5] U<|A9 ?_
     refine⟨_,_,?_,C0 (D3 U U (F9 U U (by simp) (by exact A6 fun _=>U) (C5 B5))) U⟩;have ba:=c5v (l:=ns) (by assumption);have be:=(a6p.1 (show vlo ns=true by assumption)).1;have f:=S6 hlt q F;rw[show kdL l=b9l from by assumption,c5x]at f;rw[if_pos (by exact decide_eq_true (by omega))]at f;exact⟨C,by rw[f];rfl,U,by rw[f],o⟩
    refine A7 ?_;refine⟨(),?_,⟨U,U,U,U,U,trivial⟩⟩;exact fun _ h=>by rw[a]at h;cases h
   iterate 4 refine gF U U ?_
   refine E8 U (by assumption) U U<|xN [1,7,11,140] [1,11] U ?_
   refine A4 U (fun a=>absurd a (by decide)) (fun a=> ?_);refine A7 ?_;refine⟨(),?_,⟨U,U,U,U,U,trivial⟩⟩;exact fun e=>absurd e (by assumption)
  intro _ d;have a4:=d;refine a0a (β:=Unit) [(.t 1,_),(.t 7,_),(.t 11,_),(.h 1,_),(.h 11,_)] ⟨U,U,U,U,U,trivial⟩ (fun(_:Unit)=>[]) (fun(_:Unit)=>kdL l=c2l->¬vd ns=true) ?_ ?_
  ·skip
   refine A3<|A0<|y_M U<|H1 U U<|y_M U ?_
   refine D5 U U ?_ ?_<;>intro u<;>have S:=u<;>try simp only[SG]at S
   ·refine y_M U<|gT U U ?_
    apply xC U
    ·apply A8
     ·exact E7 U U U (by(simp;done)) (fun _=>U)
     exact C2
    ·exact a0d ns (by omega)
    refine⟨⟨U,U,U,dT U,U⟩,.inr ⟨U,U⟩,B2,C8 U,fun _=>U,fun b2=> ?_⟩;refine F0 U (by assumption) U U<|xN [1,7,11,153] [1,11] U ?_
    refine A4 U ?_ ?_<;>intro a<;>try simp only[SL]at a
    ·refine A3<|A0<|y_M U ?_
     obtain⟨f1,f2,f3,f4⟩:=d8e ns;have f5:=M5 ⟨f1,f2⟩;have f6:=M5 ⟨f3,f4⟩;apply xC U
     ·apply A8
      ·exact E7 U U U (by(simp;done)) (fun _=>U)
      exact C2
     ·exact f3k ns (by omega)
     refine⟨⟨U,U,U,dT U,U⟩,.inr ⟨U,U⟩,B2,J2 U,fun _=>U,fun b3=> ?_⟩;refine y_M U<|y_E U<|y_E U<|y_S U<|y_S U<|xN [1,15,16] [1] U<|A3<|A0<|y_M U ?_
     refine xC1 U U (U1 (flX ns).1 ⟨f1,f2⟩) ⟨U,U,U⟩ U U fun b4=> ?_
     refine J9 U U (by simp only[H0,Zf,Ze,Zo];omega)<|y_M U ?_
     refine xC1 U U (U1 (flX ns).2 ⟨f3,f4⟩) ⟨U,U,U⟩ U U fun b5=> ?_
     refine J9 U U (by simp only[H0,Zf,Ze,Zo];omega)<|y_M U<|y_S U ?_
     (refine xO U U (by simp) U (fun _=>U) (fun _=>U) ?_;intro g5)
     refine xN [4,5] [5] U<|A9 ?_
     refine⟨_,_,?_,C0 (D3 U U (F9 U U (by simp) (by exact A6 fun _=>U) (C5 B5))) U⟩;have bm:0<(flX ns).2:=by rw[c9b (by assumption)];exact Int.natCast_pos.2 (Nat.two_pow_pos _)
     have f:=S6 hlt q F;rw[show kdL l=c2l from by assumption,c6j]at f;rw[if_pos (by exact decide_eq_true (by omega))]at f;exact⟨C,by rw[f];rfl,U,by rw[f],o⟩
    refine A7 ?_;refine⟨(),?_,⟨U,U,U,U,U,trivial⟩⟩;exact fun _ h=>by rw[a]at h;cases h
   refine gF U U<|E8 U (by assumption) U U<|xN [1,7,11,153] [1,11] U ?_
   refine A4 U (fun a=>absurd a (by decide)) (fun a=> ?_);refine A7 ?_;refine⟨(),?_,⟨U,U,U,U,U,trivial⟩⟩;exact fun e=>absurd e (by assumption)
  intro _ d;have a5:=d;refine A3<|A3<|A0<|y_M U<|H1 U U<|y_M U ?_
  refine D5 U U ?_ ?_<;>intro u<;>have S:=u<;>try simp only[SG]at S
  ·refine y_M U<|gT U U ?_
   apply xC U
   ·apply A8
    ·exact E7 U U U (by(simp;done)) (fun _=>U)
    exact C2
   ·exact f6p ns (by omega)
   refine⟨⟨U,U,U,dT U,U⟩,.inr ⟨U,U⟩,B2,C8 U,fun _=>U,fun b6=> ?_⟩;refine F0 U (by assumption) U U<|xN [1,11,171] [1,11] U ?_
   refine A4 U ?_ ?_<;>intro a<;>try simp only[SL]at a
   ·refine A3<|A0<|y_M U ?_
    have ac:vo ns=true:=by assumption
    obtain⟨bt,ap,aq⟩:=d8u.1 ac;have W:sdR ns=sdU ns ns.length:=by rw[sdR,if_pos ac]
    have bc:=d0k ns;apply xC U
    ·apply A8
     ·exact E7 U U U (by(simp;done)) (fun _=>U)
     exact C2
    ·exact d3g ns ap (fun x hx=>c0z aq hx)
    refine⟨⟨U,U,U,dT U,U⟩,.inr ⟨P7 fun _=>U,U⟩,B2,H4,fun _=>U,fun b7=> ?_⟩;rw[<-W]
    try simp only[Zi]
    apply xC U
    ·apply A8
     ·exact E7 U U U (by(simp;done)) (fun _=>U)
     exact C2
    ·exact a3v (sdR ns) (by omega) d7r
    refine⟨⟨U,U,U,dT U,U⟩,.inr ⟨U,U⟩,B2,C8 U,fun _=>U,fun b8=> ?_⟩;refine y_M U<|y_S U ?_
    (refine xO U U (by simp) U (fun _=>U) (fun _=>U) ?_;intro g5)
    refine xN [4,5] [5] U<|A9 ?_
    refine⟨_,_,?_,C0 (D3 U U (F9 U U (by simp) (by exact A6 fun _=>U) (C5 B5))) U⟩;have bd:(sdR ns).length=ns.length:=by rw[W,d8l]
    have f:=S6 hlt q F;rw[show kdL l=c6d from by assumption,c6p]at f;rw[if_pos (by exact decide_eq_true (by omega))]at f;exact⟨C,by rw[f];rfl,U,by rw[f],o⟩
   refine A7<|A3<|A0<|y_M U<|y_S U ?_
   (refine xO U U (by simp) U (fun _=>U) (fun _=>U) ?_;intro g5)
   refine xN [4,5] [5] U<|A9 ?_
   refine⟨_,_,?_,C0 (D3 U U (F9 U U (by simp) (by exact A6 fun _=>U) (C5 B5))) U⟩;have Y:=e0v (w:=kdL l) (ns:=ns) (by assumption) a3 a4 a5 (by exact fun _ h=>by rw[a]at h;cases h);have f:=S6 hlt q F;rw[if_neg (by rw[Y];decide)]at f;exact⟨C,by rw[f];rfl,U,by rw[f],o⟩
  refine gF U U<|E8 U (by assumption) U U<|xN [1,11,171] [1,11] U ?_
  refine A4 U (fun a=>absurd a (by decide)) (fun a=> ?_);refine A7<|A3<|A0<|y_M U<|y_S U ?_
  (refine xO U U (by simp) U (fun _=>U) (fun _=>U) ?_;intro g5)
  refine xN [4,5] [5] U<|A9 ?_
  refine⟨_,_,?_,C0 (D3 U U (F9 U U (by simp) (by exact A6 fun _=>U) (C5 B5))) U⟩;have Y:=e0v (w:=kdL l) (ns:=ns) (by assumption) a3 a4 a5 (by exact fun e=>absurd e (by assumption));have f:=S6 hlt q F;rw[if_neg (by rw[Y];decide)]at f;exact⟨C,by rw[f];rfl,U,by rw[f],o⟩
 have D:=d.2 (by simpa using a);refine A7<|A3<|A0<|y_M U<|y_S U ?_
 (refine xO U U (by simp) U (fun _=>U) (fun _=>U) ?_;intro g5)
 refine xN [4,5] [5] U<|A9 ?_
 refine⟨_,_,?_,C0 (D3 U U (F9 U U (by simp) (by exact A6 fun _=>U) (C5 B5))) U⟩;have E:=d9a B y A D;exact⟨C,by rw[Q6 (fun h=>by rw[E]at h;cases h.2)];rfl,U,by rw[Q6 (fun h=>by rw[E]at h;cases h.2)],o⟩
theorem d6d:D9 Tryz.f50=[0,1,4,5,12,13,17,21,26,35,34,36,33,8,6,50,10,9,65,11]:=by kernel_rfl
theorem f5s(w:W8)(ns:List Int)(d:vl ns=true):CW (cxT oG) 50 [tV w,L ns]=some (.tup [tV (V0 w ns).1,bV (V0 w ns).2],[]):=by
 have p:=(Q4.1 d).1;have l:=e8r d;refine C7 U Tryz.func50 U ⟨by kernel_rfl,U,dT U,dT U,by decide⟩ d6d<|A3<|A0<|y_S U<|y_S U<|xN [0,1] [] U<|A3<|A3<|A0<|y_M U<|xN [1,12] [] U<|B0<|A3<|A0<|H1 U U<|y_S U<|xN [1,12,13] [] U ?_
 refine A4 U ?_ ?_<;>intro a<;>try simp only[SL]at a
 ·subst a
  refine A3<|A0<|y_M U ?_
  refine xC1 U U (b4q ns (by omega) l) ⟨U,U,U⟩ U U fun g16=> ?_
  refine y_S U<|y_S U<|xN [4,5] [] U<|A9<|C0 (D3 U U (D3 U U (C5 B5))) ?_
  rw[c5n]
  rfl
 refine A3<|A0<|H1 U U<|y_S U<|xN [1,12,17] [] U ?_
 refine A4 U ?_ ?_<;>intro a<;>try simp only[SL]at a
 ·subst a
  refine A3<|A3<|A0<|y_M U<|B8 U U<|K6 U U<|xN [1,21] [] U ?_
  refine A4 U ?_ ?_<;>intro a<;>try simp only[SL]at a
  ·refine A3<|A0<|y_S U<|y_S U<|xN [4,5] [] U<|A9<|C0 (D3 U U (D3 U U (C5 B5))) ?_
   rw[show V0 a4b ns=([],false)from by rw[V0,if_neg (by decide),if_pos U,if_pos (by omega)]]
   rfl
  have j:1<=ns.length:=by omega
  refine A7<|A3<|A0<|y_M U ?_
  have I:=d6u j (b4f d);refine xC1 U U (e4y ns ⟨j,by omega⟩ (b4f d)) ⟨U,U,U⟩ U U fun g23=> ?_
  refine xC2 U U U (d0x (mdI ns) 2 (by omega) (by omega) (by omega)) ⟨U,U,U⟩ U U fun g24=> ?_
  refine xC1 U U (f0b (Rat.divInt (mdI ns) 2) (d8s d (by omega))) ⟨U,U,U⟩ U U fun q=> ?_
  refine y_S U<|y_S U<|xN [4,5] [] U<|A9<|C0 (D3 U U (D3 U U (C5 B5))) ?_
  rw[b5t (by omega)]
  rfl
 refine A3<|A0<|H1 U U<|y_S U<|xN [1,12,26] [] U ?_
 refine A4 U ?_ ?_<;>intro a<;>try simp only[SL]at a
 ·subst a
  refine A3<|A0 ?_
  (refine B4 U U (fun _=>U) ?_;intro g6)
  refine xN [1,6] [6] U<|A3<|A3<|A0<|y_M U<|B6 (es:=Zw iV [_]) U U (dT U) U U (fun _=>B3 (A6 fun _=>U)) (fun _=>U) ?_
  intro r;refine y_M U<|B8 U U ?_
  apply xC U
  ·apply A8
   ·exact E7 U U U (by(simp;done)) (fun _=>U)
   apply A8
   ·exact B1 U
   exact C2
  ·exact e6s ns.length (by omega)
  refine⟨⟨U,U,U,dT U,U⟩,.inr ⟨P7 fun _=>U,U⟩,B2,H4,fun _=>U,fun s=> ?_⟩;simp only[Zi,P8];have K:=c7a ns;apply a1h U
  ·apply A8
   ·exact B1 U
   apply A8
   ·exact E7 U U U (by(simp;done)) (fun _=>U)
   exact C2
  ·exact f3u ns (by omega)
  ·exact⟨U,U,U,dT U,U⟩
  ·exact .inr ⟨P7 fun _=>U,U⟩
  ·exact B2
  ·exact H4
  ·(intro _;exact C6 (B3 (A6 fun _=>U)) U)
  intro u;simp only[Zi];refine G8 U U<|y_M U<|xN [6,33,34,35] [6,1000033] U<|B0<|D8 (β:=Nat×List W8×Nat) [(.t 33,_),(.t 34,_),(.h 1000033,_)] (fun(z:Nat×List W8×Nat)=>match z with|(i,c,g)=>[(.t 35,nV i),(.t 6,.sl 6 g none 0 c.length),(.h 6,.obj g 0 1 (c.map tV))]) (fun(z:Nat×List W8×Nat)=>match z with|(i,c,g)=>i<=(riseQ ns).length/\c=((riseQ ns).take i).map frT) (fun(z:Nat×List W8×Nat)=>match z with|(i,c,g)=>(riseQ ns).length-i) (0,[],_) ⟨U,U,U,U,U,U,trivial⟩ ⟨Zv _,U⟩ ?_
  intro z n;obtain⟨i,c,g⟩:=z
  try dsimp only at n
  obtain⟨H,e⟩:=n;have J:c.length=i:=by rw[e];simp;omega
  refine A3<|A0<|F4 U U<|xN [6,33,34,35,36] [6,1000033] U<|A3 ?_
  refine A4 U ?_ ?_<;>intro a<;>try simp only[SL]at a
  ·refine A7<|A3<|B0<|A3<|A0<|C9 U U U U (by omega) (by(simp;done)) U<|E6 U U (by omega) (fun _=>U) (fun _=>U) U<|y_A U (fun _=>U) ?_
   intro g8;refine xB U U U U U U U U U<|xN [6,8,33,34,35] [6,8,1000033] U<|A0<|y_M U<|y_B U ?_
   have m:=b8b ((riseQ ns).getD i default) (N2 (by omega));refine xC1 U U (f0b ((riseQ ns).getD i default) m) ⟨U,U,U⟩ U U fun v=> ?_
   refine B6 (es:=Zw tV [_]) U U (dT U) U U (fun _=>B3 (A6 fun _=>U)) (fun _=>U) ?_;intro x;refine xA U U U U (by simp) (by simp) U U U U U (fun _=>U) (by simp only[LN];omega) (fun _=>U) ?_;intro y
   (refine xO U U (by simp) U (fun _=>U) (fun _=>U) ?_;intro g6)
   refine xN [6,33,34,35] [6,1000033] U<|A0<|D7 U U (B9 (by omega))<|y_M U<|xN [6,33,34,35] [6,1000033] U ?_
   refine⟨(i+1,c++[frT ((riseQ ns).getD i default)],_),?_,(by simp only;omega),⟨U,U,U,U,U,U,trivial⟩⟩;exact⟨by omega,by rw[e,P9 (by omega),List.map_append];rfl⟩
  refine D6<|A3<|A0<|y_M U ?_
  have k:c=(riseQ ns).map frT:=by rw[e,ZB (by omega)]
  have f:joinB 44 c=frsT (riseQ ns):=by rw[k];rfl
  have G:=b9c (qs:=riseQ ns) b8b;apply xC U
  ·apply A8
   ·exact E7 U U U (by(simp;done)) (fun _=>U)
   apply A8
   ·exact B1 U
   exact C2
  ·exact e0c c 44 (by simp only[H0];omega) (by rw[f];simp only[H0];omega)
  refine⟨⟨U,U,U,dT U,U⟩,.inr ⟨U,U⟩,B2,C8 U,fun _=>U,fun A=> ?_⟩;refine y_M U<|G8 U U<|M0 U U<|y_S U<|y_S U<|xN [4,5] [] U<|A9<|C0 (D3 U U (D3 U U (C5 B5))) ?_
  rw[f,c5x,show c.length=(riseQ ns).length by rw[k,Zi]];exact congrArg (fun b=>AV.tup [tV (frsT (riseQ ns)),bV b]) (decide_eq_decide.2 (by omega))
 refine A3<|A0<|H1 U U<|y_S U<|xN [1,12,50] [] U ?_
 refine A4 U ?_ ?_<;>intro a<;>try simp only[SL]at a
 ·subst a
  refine A3<|A0<|y_M U ?_
  obtain⟨f1,f2,f3,f4⟩:=d8e ns;have f5:=M5 ⟨f1,f2⟩;have f6:=M5 ⟨f3,f4⟩;apply xC U
  ·apply A8
   ·exact B1 U
   exact C2
  ·exact f3v ns (by omega)
  refine⟨⟨U,U,U,dT U,U⟩,.inl U,B2,J2 U,fun _=>U,fun B=> ?_⟩;refine y_M U<|y_E U<|y_E U<|y_S U<|y_S U<|xN [9,10] [] U<|A3<|A0<|y_M U ?_
  refine xC1 U U (b1a (flX ns).1 (by omega)) ⟨U,U,U⟩ U U fun C=> ?_
  refine J9 U U (by simp only[H0,Zf,Ze,Zo];omega)<|y_M U ?_
  refine xC1 U U (b1a (flX ns).2 (by omega)) ⟨U,U,U⟩ U U fun D=> ?_
  refine J9 U U (by simp only[H0,Zf,Ze,Zo];omega)<|y_M U<|M0 U U<|y_S U<|y_S U<|xN [4,5] [] U<|A9<|C0 (D3 U U (D3 U U (C5 B5))) ?_
  rw[c6j]
  rfl
 refine A3<|A0<|H1 U U<|y_S U<|xN [1,65] [] U ?_
 refine A4 U ?_ ?_<;>intro a<;>try simp only[SL]at a
 ·subst a
  refine A3<|A0<|y_M U ?_
  have o:=d0k ns;apply xC U
  ·apply A8
   ·exact B1 U
   exact C2
  ·exact d6k ns (by omega)
  refine⟨⟨U,U,U,dT U,U⟩,.inl U,B2,H4,fun _=>U,fun E=> ?_⟩;simp only[Zi]
  (refine xO U U (by simp) U (fun _=>U) (fun _=>U) ?_;intro g11)
  refine xN [11] [11] U<|A3<|A0<|y_M U ?_
  apply xC U
  ·apply A8
   ·exact E7 U U U (by(simp;done)) (fun _=>U)
   exact C2
  ·exact b4q (sdR ns) (by omega) d7r
  refine⟨⟨U,U,U,dT U,U⟩,.inr ⟨U,U⟩,B2,C8 U,fun _=>U,fun F=> ?_⟩;refine y_M U<|G8 U U<|M0 U U<|y_S U<|y_S U<|xN [4,5] [] U<|A9<|C0 (D3 U U (D3 U U (C5 B5))) ?_
  rw[c6p];exact congrArg (fun b=>AV.tup [tV (P0 (sdR ns)),bV b]) (decide_eq_decide.2 (by omega))
 refine A7<|A3<|A0<|y_S U<|y_S U<|xN [4,5] [] U<|A9<|C0 (D3 U U (D3 U U (C5 B5))) ?_
 rw[show V0 w ns=([],false)from by rw[V0,if_neg (by assumption),if_neg (by assumption),if_neg (by assumption),if_neg (by assumption),if_neg (by assumption)]]
 rfl
theorem b7j:D9 Tryz.f14=[0,1,4,5,7,25,6,26,30,35,9,54,8,57,65,11,72,10]:=by kernel_rfl
theorem d8m(l:W8)(J:l.length<=1048576)(c0 b c2 c3:List Int)(y:vcs [c0,b,c2,c3]=true):∃res outs,(fun res outs=>∃d0 d1 d2 d3,res=tV (deskL [c0,b,c2,c3] l).1/\outs=[[.agg [lF d0,lF d1,lF d2,lF d3]]]/\(deskL [c0,b,c2,c3] l).2=[d0,d1,d2,d3]) res outs/\CW (cxT (some rG)) 14 [tV l,.ownp [.agg [lF c0,lF b,lF c2,lF c3]] 0 0]=some (res,outs):=by
 have p:∀c∈[c0,b,c2,c3],c.length<=1048576:=fun c a=>by have:=a4r ((a1s.1 y).1 c a);omega
 have I:(rsL l).length<=l.length:=e9g 32 l;have x:(kdL l).length<=l.length:=d8p 32 l;refine M3 U Tryz.func14 U ⟨by kernel_rfl,U,dT U,dT U,by decide⟩ b7j<|A3<|A0<|y_S U<|xN [0,1] [1] U<|A3<|A0<|y_M U ?_
 apply xC U
 ·apply A8
  ·exact B1 U
  apply A8
  ·exact B1 U
  exact C2
 ·exact f6y l 32 (by omega)
 refine⟨⟨U,U,U,dT U,U⟩,.inl U,B2,J2 U,fun _=>U,fun g14=> ?_⟩;rw[show kdC 32 l=kdL l from U,show rsC 32 l=rsL l from U];refine y_M U<|y_E U<|y_E U<|y_E U<|y_S U<|y_S U<|y_S U<|xN [1,5,6,7] [1] U<|A3<|A3<|A0<|y_M U<|H8 U<|y_M U ?_
 refine D5 U U ?_ ?_<;>intro u<;>have H:=u<;>try simp only[SG]at H
 ·refine B6 (es:=Zw tV c6t) U U (dT U) U U (fun _=>B3 (A6 fun _=>U)) (fun _=>U) ?_
  intro g21;refine gT U U<|y_M U<|gT U U ?_
  apply xC U
  ·apply A8
   ·exact E7 (f:=tV) (xs:=c6t) U U U U (fun _=>U)
   apply A8
   ·exact B1 U
   exact C2
  ·exact d4h c6t (by decide) (kdL l)
  refine⟨⟨U,U,U,dT U,U⟩,.inr ⟨U,U⟩,B2,C8 U,fun _=>U,fun g23=> ?_⟩;rw[show(c6t.any fun v=>decide (kdL l=v))=inW (kdL l)from U];refine gT U U<|H8 U<|E8 U (by assumption) U U<|xN [1,5,6,25] [1] U ?_
  refine A4 U ?_ ?_<;>intro a<;>try simp only[SL]at a
  ·refine A3<|A0<|y_S U<|xN [4] [1] U<|A9 ?_
   refine⟨_,_,?_,J1 U U (I0 U U)⟩;exact⟨c0,b,c2,c3,by rw[Q6 (fun h=>by have t:=h.1;have o:=h.2;(rw[a]at o;cases o))];try rfl,U,by rw[Q6 (fun h=>by have t:=h.1;have o:=h.2;(rw[a]at o;cases o))]⟩
  have d:inW (kdL l)=true:=by assumption
  have hlt:(kdL l).length<l.length:=by assumption
  refine A7<|A3<|B0<|A3<|A0<|y_M U ?_
  refine xC1 U U (b1m (rsL l) (by omega)) ⟨U,U,U⟩ U U fun A=> ?_
  refine H8 U<|y_S U<|xN [1,5,6,26] [1] U ?_
  refine A4 U ?_ ?_<;>intro a<;>try simp only[SL]at a
  ·refine A3<|A0<|y_S U<|xN [4] [1] U<|A9 ?_
   refine⟨_,_,?_,J1 U U (I0 U U)⟩;exact⟨c0,b,c2,c3,by rw[a1w hlt d (by simpa using a)];try rfl,U,by rw[a1w hlt d (by simpa using a)]⟩
  refine A3<|A0<|y_M U<|H1 U U<|y_S U<|xN [1,5,6,30] [1] U ?_
  refine A4 U ?_ ?_<;>intro a<;>try simp only[SL]at a
  ·refine A3<|A0<|y_M U ?_
   refine xC1 U U (c3f (rsL l) (by omega)) ⟨U,U,U⟩ U U fun B=> ?_
   refine y_S U<|xN [4] [1] U<|A9 ?_
   refine⟨_,_,?_,J1 U U (I0 U U)⟩;exact⟨c0,b,c2,c3,by rw[a0g hlt a (by assumption)];try rfl,U,by rw[a0g hlt a (by assumption)]⟩
  have e:kdL l≠wBetter:=a;refine A3<|A0<|y_M U<|H1 U U<|y_S U<|xN [1,5,6,35] [1] U ?_
  refine A4 U ?_ ?_<;>intro a<;>try simp only[SL]at a
  ·refine A3<|A0<|y_M U ?_
   have G:=e2i (rsL l);refine xC1 U U (e5d (rsL l) (by omega)) ⟨U,U,U⟩ U U fun C=> ?_
   refine xC1 U U (b1a (b0e (rsL l)) (by omega)) ⟨U,U,U⟩ U U fun D=> ?_
   refine y_S U<|xN [4] [1] U<|A9 ?_
   refine⟨_,_,?_,J1 U U (I0 U U)⟩;exact⟨c0,b,c2,c3,by rw[a3e hlt a (by assumption)];try rfl,U,by rw[a3e hlt a (by assumption)]⟩
  have g:kdL l≠wCost:=a;refine A7<|A3<|A0<|y_M U<|y_M U<|L8 U U U<|d2y U U U U ?_
  rcases i:Mv.runT [c0,b,c2,c3] (rsL l)with _|ns
  ·skip
   apply xC U
   ·apply A8
    ·exact B1 U
    apply A8
    ·exact b5u U U U (Zd 4) U (a1u (a1u (a1u (a1u d0g))))
    exact C2
   ·exact(by have q:=c0l (oG:=some rG) (rsL l) (by omega) [c0,b,c2,c3] (YM U) p;rw[i]at q;exact q)
   refine⟨⟨U,U,U,dT U,U⟩,.inr ⟨U,U⟩,B2,H3 (L1 fun _=>J5 U L3),fun _=>U,fun s=> ?_⟩
   try simp only[Zi,Option.getD_some]
   refine y_M U<|y_E U<|y_E U ?_
   (refine xO U U (by simp) U (fun _=>U) (fun _=>U) ?_;intro g8)
   refine y_S U<|xN [1,5,8,9] [1,8] U<|A3<|A3<|A0<|y_M U<|y_M U<|H6 U U U<|H6 U U U<|H6 U U U<|E8 U U U U<|xN [1,5,8,9,54] [1,8] U ?_
   refine A4 U (fun a=>absurd a (by decide)) (fun a=> ?_);refine A7<|A3<|A3<|A0<|y_M U<|xN [5,8,65] [1,8] U ?_
   refine A4 U (fun a=>absurd a (by decide)) (fun a=> ?_);refine A7<|A3<|A0<|y_S U<|xN [4] [1] U<|A9 ?_
   refine⟨_,_,?_,J1 U U (I0 U U)⟩;exact⟨c0,b,c2,c3,by rw[a3g hlt d e g i];try rfl,U,by rw[a3g hlt d e g i]⟩
  have r:=e2p y i;have z:=(Q4.1 r).1;apply xC U
  ·apply A8
   ·exact B1 U
   apply A8
   ·exact b5u U U U (Zd 4) U (a1u (a1u (a1u (a1u d0g))))
   exact C2
  ·exact(by have q:=c0l (oG:=some rG) (rsL l) (by omega) [c0,b,c2,c3] (YM U) p;rw[i]at q;exact q)
  refine⟨⟨U,U,U,dT U,U⟩,.inr ⟨I5 _ _,U⟩,B2,H3 (L1 fun _=>J5 U L3),fun _=>U,fun s=> ?_⟩
  try simp only[Zi,Option.getD_some]
  refine y_M U<|y_E U<|y_E U ?_
  (refine xO U U (by simp) U (fun _=>U) (fun _=>U) ?_;intro g8)
  refine y_S U<|xN [1,5,8,9] [1,8] U<|A3<|A3<|A0<|y_M U<|y_M U<|G2 U U U<|y_M U<|G2 U U U<|W5 U U<|G2 U U U<|K6 U U<|F0 U U U U<|xN [1,5,8,9,54] [1,8] U ?_
  refine A4 U ?_ ?_<;>intro a<;>try simp only[SL]at a
  ·obtain⟨k,w,m⟩:=d6j d (by omega)
   refine A3<|A3<|A0<|y_M U ?_
   apply xC U
   ·apply A8
    ·exact E7 U U U (by(simp;done)) (fun _=>U)
    exact C2
   ·exact T6 ns (by omega)
   refine⟨⟨U,U,U,dT U,U⟩,.inr ⟨U,U⟩,B2,C8 U,fun _=>U,fun E=> ?_⟩;refine H8 U<|xN [1,5,8,57] [1,8] U ?_
   refine A4 U ?_ ?_<;>intro a<;>try simp only[SL]at a
   ·refine A3<|A0<|y_S U<|xN [4] [1] U<|A9 ?_
    refine⟨_,_,?_,J1 U U (I0 U U)⟩;obtain⟨k,w,m⟩:=d6j d (by omega);exact⟨c0,b,c2,c3,by rw[a9x hlt w m i (by simp[a])];try rfl,U,by rw[a9x hlt w m i (by simp[a])]⟩
   have j:vd ns=true:=by simpa using a
   refine A7<|A3<|A0 ?_
   obtain rfl|rfl|rfl|rfl:k=0\/k=1\/k=2\/k=3:=by omega
   ·skip
    refine y_M U<|y_M U ?_
    rw[m];refine M9 (n:=0) U U U (by decide) ?_;rw[show(((one4 0).getD 0 0).toNat:Int)=97 from U];refine J7 U U (d5r (by omega))<|y_M U<|L8 U U U ?_
    rw[show(97:Int)-97=0 from U];refine X0 U U U U U (by omega) U<|a2d U U U U U U (by simp) (A6 fun _=>U) (by decide) (fun h=>by cases h) U (YM U) U (C6 (by rw[O1 fun _=>U];exact Q5 (A6 fun _=>U) (by decide)) (I4 (by rfl))) ?_
    rw[O1 fun _=>U];refine G7 ⟨fun _=>⟨by decide+kernel,by decide+kernel⟩,[(.h 1,_)],⟨U,U,trivial⟩,?_⟩;refine A3<|A0<|y_S U<|xN [4] [1] U<|A9 ?_
    refine⟨_,_,?_,J1 U U (I0 U U)⟩;exact⟨ns,b,c2,c3,(by rw[U6 hlt (by decide) m i j];try rfl),U,by rw[U6 hlt (by decide) m i j];rfl⟩
   ·skip
    refine y_M U<|y_M U ?_
    rw[m];refine M9 (n:=0) U U U (by decide) ?_;rw[show(((one4 1).getD 0 0).toNat:Int)=98 from U];refine J7 U U (d5r (by omega))<|y_M U<|L8 U U U ?_
    rw[show(98:Int)-97=1 from U];refine X0 U U U U U (by omega) U<|a2d U U U U U U (by simp) (A6 fun _=>U) (by decide) (fun h=>by cases h) U (YM U) U (C6 (by rw[O1 fun _=>U];exact Q5 (A6 fun _=>U) (by decide)) (I4 (by rfl))) ?_
    rw[O1 fun _=>U];refine G7 ⟨fun _=>⟨by decide+kernel,by decide+kernel⟩,[(.h 1,_)],⟨U,U,trivial⟩,?_⟩;refine A3<|A0<|y_S U<|xN [4] [1] U<|A9 ?_
    refine⟨_,_,?_,J1 U U (I0 U U)⟩;exact⟨c0,ns,c2,c3,(by rw[U6 hlt (by decide) m i j];try rfl),U,by rw[U6 hlt (by decide) m i j];rfl⟩
   ·skip
    refine y_M U<|y_M U ?_
    rw[m];refine M9 (n:=0) U U U (by decide) ?_;rw[show(((one4 2).getD 0 0).toNat:Int)=99 from U];refine J7 U U (d5r (by omega))<|y_M U<|L8 U U U ?_
    rw[show(99:Int)-97=2 from U];refine X0 U U U U U (by omega) U<|a2d U U U U U U (by simp) (A6 fun _=>U) (by decide) (fun h=>by cases h) U (YM U) U (C6 (by rw[O1 fun _=>U];exact Q5 (A6 fun _=>U) (by decide)) (I4 (by rfl))) ?_
    rw[O1 fun _=>U];refine G7 ⟨fun _=>⟨by decide+kernel,by decide+kernel⟩,[(.h 1,_)],⟨U,U,trivial⟩,?_⟩;refine A3<|A0<|y_S U<|xN [4] [1] U<|A9 ?_
    refine⟨_,_,?_,J1 U U (I0 U U)⟩;exact⟨c0,b,ns,c3,(by rw[U6 hlt (by decide) m i j];try rfl),U,by rw[U6 hlt (by decide) m i j];rfl⟩
   skip
   refine y_M U<|y_M U ?_
   rw[m];refine M9 (n:=0) U U U (by decide) ?_;rw[show(((one4 3).getD 0 0).toNat:Int)=100 from U];refine J7 U U (d5r (by omega))<|y_M U<|L8 U U U ?_
   rw[show(100:Int)-97=3 from U];refine X0 U U U U U (by omega) U<|a2d U U U U U U (by simp) (A6 fun _=>U) (by decide) (fun h=>by cases h) U (YM U) U (C6 (by rw[O1 fun _=>U];exact Q5 (A6 fun _=>U) (by decide)) (I4 (by rfl))) ?_
   rw[O1 fun _=>U];refine G7 ⟨fun _=>⟨by decide+kernel,by decide+kernel⟩,[(.h 1,_)],⟨U,U,trivial⟩,?_⟩;refine A3<|A0<|y_S U<|xN [4] [1] U<|A9 ?_
   refine⟨_,_,?_,J1 U U (I0 U U)⟩;exact⟨c0,b,c2,ns,(by rw[U6 hlt (by decide) m i j];try rfl),U,by rw[U6 hlt (by decide) m i j];rfl⟩
  refine A7<|A3<|A3<|A0<|y_M U<|xN [5,8,65] [1,8] U ?_
  refine A4 U (fun a=> ?_) (fun a=>absurd a (by exact fun h=>ZK (show true=false from h)));refine A3<|A0<|y_M U<|y_M U ?_
  apply xC U
  ·apply A8
   ·exact B1 U
   apply A8
   ·exact E7 U U U (by(simp;done)) (fun _=>U)
   exact C2
  ·exact f5s (kdL l) ns r
  refine⟨⟨U,U,U,dT U,U⟩,.inr ⟨U,U⟩,B2,J2 U,fun _=>U,fun F=> ?_⟩;refine y_M U<|y_E U<|y_E U<|y_S U<|y_S U<|xN [10,11] [1] U<|A3<|A0<|y_M U<|xN [10,72] [1] U ?_
  refine A4 U ?_ ?_<;>intro a<;>try simp only[SL]at a
  ·refine A3<|A0<|y_M U<|y_S U<|xN [4] [1] U<|A9 ?_
   refine⟨_,_,?_,J1 U U (I0 U U)⟩;exact⟨c0,b,c2,c3,by rw[(show deskL [c0,b,c2,c3] l=((V0 (kdL l) ns).1,[c0,b,c2,c3])from by rw[S6 hlt (a9d d e g (by omega)) i,if_pos a])];try rfl,U,by rw[(show deskL [c0,b,c2,c3] l=((V0 (kdL l) ns).1,[c0,b,c2,c3])from by rw[S6 hlt (a9d d e g (by omega)) i,if_pos a])]⟩
  refine A7<|A3<|A0<|y_S U<|xN [4] [1] U<|A9 ?_
  refine⟨_,_,?_,J1 U U (I0 U U)⟩;exact⟨c0,b,c2,c3,by rw[(show deskL [c0,b,c2,c3] l=(wWrong,[c0,b,c2,c3])from by rw[S6 hlt (a9d d e g (by omega)) i,if_neg (by rw[a];decide)])];try rfl,U,by rw[(show deskL [c0,b,c2,c3] l=(wWrong,[c0,b,c2,c3])from by rw[S6 hlt (a9d d e g (by omega)) i,if_neg (by rw[a];decide)])]⟩
 refine gF U U<|gF U U<|gF U U<|F0 U (by assumption) U U<|xN [1,5,6,25] [1] U ?_
 refine A4 U (fun a=> ?_) (fun a=>absurd a (by decide));refine A3<|A0<|y_S U<|xN [4] [1] U<|A9 ?_
 refine⟨_,_,?_,J1 U U (I0 U U)⟩;exact⟨c0,b,c2,c3,by rw[Q6 (fun h=>by have t:=h.1;have o:=h.2;omega)];try rfl,U,by rw[Q6 (fun h=>by have t:=h.1;have o:=h.2;omega)]⟩
theorem b7d:D9 Tryz.f6=[0,2,10,5,15,4,7,6,3]:=by kernel_rfl
theorem c1i(ls:List W8)(s:ls.length<=1048576)(p:∀l∈ls,l.length<=1048576):CW (cxT oG) 6 [.list (ls.map tV)]=some (tV (deskT ls),[]):=by
 refine C7 U Tryz.func6 U ⟨by kernel_rfl,U,dT U,dT U,by decide⟩ b7d<|A3<|A0<|y_S U<|xN [0] [] U<|A3<|A3<|A0<|y_M U<|B8 U U<|M0 U U<|xN [0,10] [] U ?_
 refine A4 U ?_ ?_<;>intro b<;>try simp only[SL]at b
 ·refine A3<|A0<|y_S U<|xN [2] [] U<|A9<|C4 U U trivial ?_
  rw[c5y (by omega)]
  rfl
 refine A7<|A3<|A0<|y_S U<|xN [0,3] [] U<|A3<|A0<|B6 (es:=Zw oI []) U U (dT U) U U (fun _=>B3 (A6 fun _=>U)) (fun _=>U) ?_
 intro g11
 (refine xO U U (by simp) U (fun _=>U) (fun _=>U) ?_;intro g4)
 refine xN [0,3,4] [4] U<|A3<|A3<|A0<|y_S U<|xN [0,3,4,5] [4] U<|B0<|D8 (β:=Nat×W8×List (List Int)×Nat) [(.t 0,_)] (fun(z:Nat×W8×List (List Int)×Nat)=>match z with|(i,o,C,g)=>[(.t 5,nV i),(.t 3,tV o),(.t 4,.sl 4 g none 0 C.length),(.h 4,.obj g 0 1 (C.map lF))]) (fun(z:Nat×W8×List (List Int)×Nat)=>match z with|(i,o,C,g)=>i<=ls.length/\vcs C=true/\o=W9 [[],[],[],[]] (ls.take i)/\n4 C=a8t [[],[],[],[]] (ls.take i)) (fun(z:Nat×W8×List (List Int)×Nat)=>match z with|(i,o,C,g)=>ls.length-i) (0,[],[],_) ⟨U,U,U,U,U,trivial⟩ ⟨Zv _,U,U,U⟩ ?_
 intro z k;obtain⟨i,o,C,g⟩:=z
 try dsimp only at k
 obtain⟨r,m,d,j⟩:=k;have e:=a9s (ls.take i) (C:=[[],[],[],[]]) (by decide);rw[<-d,ZH]at e;have q:=b3w (d9f m) (ls.getD i default);refine A3<|A3<|A0<|y_M U<|y_M U<|B8 U U<|F4 U U<|xN [0,3,4,5,15] [4] U ?_
 refine A4 U ?_ ?_<;>intro b<;>try simp only[SL]at b
 ·refine A7<|A3<|B0<|A3<|A0<|y_M U<|y_M U<|B7 U U U (fun _=>U) (by omega)<|y_I U<|y_M U ?_
  obtain⟨_,_,⟨n,rfl,rfl,c,f⟩,a⟩:=e6u (oG:=oG) (ls.getD i default) (p _ (N2 (by omega))) C m;apply xC U
  ·apply A8
   ·exact B1 U
   apply A8
   ·exact b2c U U (by(simp;done)) (A6 fun _=>U)
   exact C2
  ·exact a
  refine⟨⟨U,U,U,dT U,U⟩,.inl U,B2,H3 (J5 U (L1 fun _=>L3)),fun _=>U,fun g24=> ?_⟩;simp only[Zi];refine y_M U<|y_E U<|y_E U<|y_S U ?_
  (refine xO U U (by simp) U (fun _=>U) (fun _=>U) ?_;intro g7)
  refine xN [0,3,5,6,7] [7] U<|A3<|A0<|y_M U ?_
  (refine xO U U (by simp) U (fun _=>U) (fun _=>U) ?_;intro g4)
  refine xN [0,3,4,5,6] [4] U<|A0<|y_M U<|y_M U ?_
  iterate 2 refine J9 U U (by simp only[H0,Zf,Ze,Zo];omega) ?_
  refine y_S U<|xN [0,3,4,5] [4] U<|A0<|y_M U<|D7 U U (B9 (by omega))<|y_S U<|xN [0,3,4,5] [4] U ?_
  refine⟨(i+1,_,n,_),?_,(by simp only;omega),⟨U,U,U,U,U,trivial⟩⟩;exact⟨by omega,f,by rw[P9 (by omega),b0s,<-j,<-d];simp,by rw[P9 (by omega),b0u,<-j,c]⟩
 refine D6<|A3<|A0<|y_M U<|y_S U<|xN [2] [] U<|A9<|C4 U U trivial ?_
 rw[deskT,if_pos (by omega),d,ZB (by omega)]
theorem b7c:D9 Tryz.f11=[0,2,4,8,14,3]:=by kernel_rfl
theorem d7h(s:W8)(h:s.length<=1048576):CW (cxT oG) 11 [tV s]=some (nV (nlc s),[]):=by
 refine C7 U Tryz.func11 U ⟨by kernel_rfl,U,dT U,dT U,by decide⟩ b7c<|A3<|A0<|y_S U<|xN [0] [] U<|A3<|A0<|y_S U<|xN [0,3] [] U<|A3<|A3<|A0<|y_S U<|xN [0,3,4] [] U<|B0<|D8 (β:=Nat×Nat) [(.t 0,_)] (fun(z:Nat×Nat)=>match z with|(i,n)=>[(.t 4,nV i),(.t 3,nV n)]) (fun(z:Nat×Nat)=>match z with|(i,n)=>i<=s.length/\n=nlc (s.take i)) (fun(z:Nat×Nat)=>match z with|(i,n)=>s.length-i) (0,0) ⟨U,U,U,trivial⟩ ⟨Zv _,U⟩ ?_
 intro z f;obtain⟨i,n⟩:=z
 try dsimp only at f
 obtain⟨g,c⟩:=f;have d:=f5r (s.take i);rw[ZH]at d;refine A3<|A3<|A0<|y_M U<|y_M U<|W5 U U<|F4 U U<|xN [0,3,4,8] [] U ?_
 refine A4 U ?_ ?_<;>intro b<;>try simp only[SL]at b
 ·refine A7<|A3<|B0<|A3<|A0<|y_M U<|y_M U<|M9 U U U (by omega)<|K6 U U<|xN [0,3,4,14] [] U ?_
  refine A4 U ?_ ?_<;>intro b<;>try simp only[SL]at b
  ·have a:s.getD i 0=10:=UInt8.toNat_inj.1 (by show(s.getD i 0).toNat=10;omega)
   refine A0<|y_M U<|D7 U U (B9 (by omega))<|y_S U<|xN [0,3,4] [] U<|A0<|y_M U<|D7 U U (B9 (by omega))<|y_S U<|xN [0,3,4] [] U ?_
   refine⟨(i+1,n+1),?_,(by simp only;omega),⟨U,U,U,trivial⟩⟩;exact⟨by omega,by rw[f2p (by omega) a,<-c]⟩
  have a:s.getD i 0≠10:=fun e=>b (by rw[e];rfl)
  refine A7<|A0<|y_M U<|D7 U U (B9 (by omega))<|y_S U<|xN [0,3,4] [] U ?_
  refine⟨(i+1,n),?_,(by simp only;omega),⟨U,U,U,trivial⟩⟩;exact⟨by omega,by rw[f5n (by omega) a,<-c]⟩
 refine D6<|A3<|A0<|y_M U<|y_S U<|xN [2] [] U<|A9<|C4 U U trivial ?_
 rw[c,ZB (by omega)]
theorem b1c:D9 Tryz.f10=[0,2,3,5,14,28,29,34,6,4]:=by kernel_rfl
theorem c3v(i:List Int)(F:a8b i)(hl:i.length<=1048576):∃res outs,(fun res outs=>∃ls:List W8,res= .own 1 (ls.map tV)/\outs=[]/\ls.length<=6/\∀l∈ls,l.length<=20000) res outs/\CW (cxT oG) 10 [.list (i.map uV)]=some (res,outs):=by
 refine M3 U Tryz.func10 U ⟨by kernel_rfl,U,dT U,dT U,by decide⟩ b1c<|A3<|A0 ?_
 (refine B4 U U (fun _=>U) ?_;intro g2)
 refine xN [0] [] U<|A3<|A0<|y_M U ?_
 obtain⟨_,_,⟨rfl,rfl⟩,u⟩:=d2x (oG:=oG) i hl;have a:a8b (i.take 2000):=fun b s=>F b (ZV s)
 have f:(i.take 2000).length<=1048576:=by simp;omega
 apply xC U
 ·apply A8
  ·exact B1 U
  exact C2
 ·exact u
 refine⟨⟨U,U,U,dT U,U⟩,.inl U,B2,e9q,fun _=>U,fun g8=> ?_⟩
 (refine a6f U U U U (fun _=>H7 U) (fun _=>U) ?_;intro g3)
 refine xN [3] [3] U<|A3<|A0<|B6 (es:=Zw tV []) U U (dT U) U U (fun _=>B3 (A6 fun _=>U)) (fun _=>U) ?_
 intro g9
 (refine xO U U (by simp) U (fun _=>U) (fun _=>U) ?_;intro g4)
 refine xN [3,4] [3,4] U<|A3<|A3<|A0<|y_M U<|B6 (es:=Zw iV [4,5,6,2,0]) U U (dT U) U U (fun _=>B3 (A6 fun _=>U)) (fun _=>U) ?_
 intro g11;obtain⟨_,_,⟨L,rfl,rfl,H⟩,v⟩:=e2t (oG:=oG) (i.take 2000) (0) a f (by omega) [4,5,6,2,0] (by decide);have O:0<=L/\L<=6:=by simp at H;omega
 apply xC U
 ·apply A8
  ·exact M7 U (by decide) U
  apply A8
  ·exact K2 U U (by(simp;done)) (fun _=>U)
  exact C2
 ·exact v
 refine⟨⟨U,U,U,dT U,U⟩,.inl U,G9 U U U B2,C8 U,fun _=>U,fun g12=> ?_⟩;refine y_S U<|xN [3,4,5] [3,4] U<|B0<|D8 (β:=Int×List W8×Nat×Int) [(.t 3,_)] (fun(z:Int×List W8×Nat×Int)=>match z with|(m,xs,g,q)=>[(.h 3,.obj g3 3 2 [rdr (i.take 2000) q]),(.t 5,iV m),(.t 4,.sl 4 g none 0 xs.length),(.h 4,.obj g 0 1 (xs.map tV))]) (fun(z:Int×List W8×Nat×Int)=>match z with|(m,xs,g,q)=>0<=m/\m+xs.length<=6/\0<=q/\q<=1+100000*xs.length/\∀l∈xs,l.length<=20000) (fun(z:Int×List W8×Nat×Int)=>match z with|(m,xs,g,q)=>m.toNat) (L,[],_,_) ⟨U,U,U,U,U,trivial⟩ ⟨by omega,by simp;omega,by omega,by simp,by simp⟩ ?_
 intro z s;obtain⟨m,xs,g,q⟩:=z
 try dsimp only at s
 obtain⟨a1,a2,a3,a4,k⟩:=s;refine A3<|A3<|A0<|y_M U<|M0 U U<|xN [3,4,5,14] [3,4] U ?_
 refine A4 U ?_ ?_<;>intro e<;>try simp only[SL]at e
 ·refine A7<|A3<|B0<|A3<|A0<|y_M U<|B6 (es:=Zw tV [[97],[98],[97],[115,104,111,119],[115,104,111,119],[109,105,100,100,108,101],[114,105,115,101],[102,108,105,112],[100,111,119,110],[98,101,116,116,101,114],[99,111,115,116]]) U U (dT U) U U (fun _=>B3 (A6 fun _=>U)) (fun _=>U) ?_
  intro g18;obtain⟨_,_,⟨M,rfl,rfl,I⟩,w⟩:=b0f (oG:=oG) (i.take 2000) (q) a f (by omega) [[97],[98],[97],[115,104,111,119],[115,104,111,119],[109,105,100,100,108,101],[114,105,115,101],[102,108,105,112],[100,111,119,110],[98,101,116,116,101,114],[99,111,115,116]] (by decide);have P:M.length<=6:=by have j:∀x∈([[97],[98],[97],[115,104,111,119],[115,104,111,119],[109,105,100,100,108,101],[114,105,115,101],[102,108,105,112],[100,111,119,110],[98,101,116,116,101,114],[99,111,115,116]]:List W8),x.length<=6:=(by decide);exact j _ I
  apply xC U
  ·apply A8
   ·exact M7 U (by decide) U
   apply A8
   ·exact K2 U U (by(simp;done)) (fun _=>U)
   exact C2
  ·exact w
  refine⟨⟨U,U,U,dT U,U⟩,.inl U,G9 U U U B2,C8 U,fun _=>U,fun g19=> ?_⟩;refine J9 U U (by simp only[H0,Zf,Ze,Zo];omega)<|y_M U<|y_M U<|B6 (es:=Zw iV [2,1,3,0]) U U (dT U) U U (fun _=>B3 (A6 fun _=>U)) (fun _=>U) ?_
  intro g23;obtain⟨_,_,⟨d0,rfl,rfl,G⟩,A⟩:=e2t (oG:=oG) (i.take 2000) (q+1) a f (by omega) [2,1,3,0] (by decide);have N:0<=d0/\d0<=3:=by simp at G;omega
  obtain⟨d,rfl⟩:∃d:Nat,d0=d:=⟨d0.toNat,by omega⟩;have Y:=f3g (d:=d) (by omega);have a0:=e1g (d:=d) (by omega);have Z:=d1g d;apply xC U
  ·apply A8
   ·exact M7 U (by decide) U
   apply A8
   ·exact K2 U U (by(simp;done)) (fun _=>U)
   exact C2
  ·exact A
  refine⟨⟨U,U,U,dT U,U⟩,.inl U,G9 U U U B2,C8 U,fun _=>U,fun g24=> ?_⟩;obtain⟨_,_,⟨x,r,rfl,rfl,a5,a6,a7⟩,B⟩:=d7z (oG:=oG) (i.take 2000) (q+1+1) d a f (by omega) (by omega);apply xC U
  ·apply A8
   ·exact M7 U (by decide) U
   apply A8
   ·exact B1 U
   exact C2
  ·exact B
  refine⟨⟨U,U,U,dT U,U⟩,.inl U,G9 U U U B2,C8 U,fun _=>U,fun S=> ?_⟩;refine J9 U U (by simp only[H0,Zf,Ze,Zo];omega)<|y_S U<|xN [3,4,5,6] [3,4] U<|A3<|A3<|A0<|y_M U ?_
  obtain⟨_,_,⟨k1,rfl,rfl,p,-⟩,C⟩:=a2n (oG:=oG) (i.take 2000) (r) a f (by omega) (10) (by omega);have p:=p (by omega);apply xC U
  ·apply A8
   ·exact M7 U (by decide) U
   apply A8
   ·exact B1 U
   exact C2
  ·exact C
  refine⟨⟨U,U,U,dT U,U⟩,.inl U,G9 U U U B2,C8 U,fun _=>U,fun T=> ?_⟩;refine xN [3,4,5,6,28] [3,4] U<|B0<|A3<|A0<|K6 U U<|y_S U<|xN [3,4,5,6,28,29] [3,4] U ?_
  refine A4 U ?_ ?_<;>intro e<;>try simp only[SL]at e
  ·refine A0<|y_M U<|B6 (es:=Zw tV [[],[104,101,108,112],[115,104,111,119],[115,104,111,119,32],[97,32,120],[109,105,100,100,108,101,32,91,93],[100,111,119,110,32,91,45,49,93],[114,105,115,101,32,91,51,49,93],[119,97,108,107,32,97],[97,32,115,117,109,115,32,106,111,105,110,32,97,32,97],[99,111,115,116,32,97,100,100,32,97]]) U U (dT U) U U (fun _=>B3 (A6 fun _=>U)) (fun _=>U) ?_
   intro V;obtain⟨_,_,⟨R,rfl,rfl,J⟩,D⟩:=b0f (oG:=oG) (i.take 2000) (r+1) a f (by omega) [[],[104,101,108,112],[115,104,111,119],[115,104,111,119,32],[97,32,120],[109,105,100,100,108,101,32,91,93],[100,111,119,110,32,91,45,49,93],[114,105,115,101,32,91,51,49,93],[119,97,108,107,32,97],[97,32,115,117,109,115,32,106,111,105,110,32,97,32,97],[99,111,115,116,32,97,100,100,32,97]] (by decide);have Q:R.length<=15:=by have j:∀x∈([[],[104,101,108,112],[115,104,111,119],[115,104,111,119,32],[97,32,120],[109,105,100,100,108,101,32,91,93],[100,111,119,110,32,91,45,49,93],[114,105,115,101,32,91,51,49,93],[119,97,108,107,32,97],[97,32,115,117,109,115,32,106,111,105,110,32,97,32,97],[99,111,115,116,32,97,100,100,32,97]]:List W8),x.length<=15:=(by decide);exact j _ J
   apply xC U
   ·apply A8
    ·exact M7 U (by decide) U
    apply A8
    ·exact K2 U U (by(simp;done)) (fun _=>U)
    exact C2
   ·exact D
   refine⟨⟨U,U,U,dT U,U⟩,.inl U,G9 U U U B2,C8 U,fun _=>U,fun W=> ?_⟩;refine y_S U<|xN [3,4,5,6] [3,4] U<|A0<|y_M U<|y_M U<|B6 (es:=Zw tV [_]) U U (dT U) U U (fun _=>B3 (A6 fun _=>U)) (fun _=>U) ?_
   intro n;refine xA U U U U (by simp) (by simp) U U U U U (fun _=>U) (by simp only[LN];omega) (fun _=>U) ?_;intro o
   (refine xO U U (by simp) U (fun _=>U) (fun _=>U) ?_;intro g4)
   refine xN [3,4,5] [3,4] U<|A0<|y_M U<|J7 U U (B9 (by omega))<|y_S U<|xN [3,4,5] [3,4] U ?_
   refine⟨(m-1,xs++[R],_,r+1+1),?_,(by simp only;omega),⟨U,U,U,U,U,trivial⟩⟩;refine⟨by omega,by simp only[Zf,Ym];omega,by omega,by simp only[Zf,Ym];omega,fun c e=> ?_⟩;rcases ZF.1 e with e|e
   ·exact k c e
   rw[Ye.1 e];omega
  refine A3<|A0<|K6 U U<|y_S U<|xN [3,4,5,6,34] [3,4] U ?_
  refine A4 U ?_ ?_<;>intro e<;>try simp only[SL]at e
  ·refine A0<|y_M U<|y_M U ?_
   obtain⟨_,_,⟨y,q2,rfl,rfl,a8,a9,K⟩,E⟩:=f0n (oG:=oG) (i.take 2000) (r+1) a f (by omega) ((M++[32])++x) (by simp only[Zf,Ze,Zo];omega);simp only[Zf,Ze,Zo]at K;apply xC U
   ·apply A8
    ·exact M7 U (by decide) U
    apply A8
    ·exact B1 U
    exact C2
   ·exact E
   refine⟨⟨U,U,U,dT U,U⟩,.inl U,G9 U U U B2,C8 U,fun _=>U,fun X=> ?_⟩;refine y_S U<|xN [3,4,5,6] [3,4] U<|A0<|y_M U<|y_M U<|B6 (es:=Zw tV [_]) U U (dT U) U U (fun _=>B3 (A6 fun _=>U)) (fun _=>U) ?_
   intro n;refine xA U U U U (by simp) (by simp) U U U U U (fun _=>U) (by simp only[LN];omega) (fun _=>U) ?_;intro o
   (refine xO U U (by simp) U (fun _=>U) (fun _=>U) ?_;intro g4)
   refine xN [3,4,5] [3,4] U<|A0<|y_M U<|J7 U U (B9 (by omega))<|y_S U<|xN [3,4,5] [3,4] U ?_
   refine⟨(m-1,xs++[y],_,q2),?_,(by simp only;omega),⟨U,U,U,U,U,trivial⟩⟩;refine⟨by omega,by simp only[Zf,Ym];omega,by omega,by simp only[Zf,Ym];omega,fun c e=> ?_⟩;rcases ZF.1 e with e|e
   ·exact k c e
   rw[Ye.1 e];omega
  refine A7<|A0<|y_M U<|y_M U<|B6 (es:=Zw tV [_]) U U (dT U) U U (fun _=>B3 (A6 fun _=>U)) (fun _=>U) ?_
  intro n;refine xA U U U U (by simp) (by simp) U U U U U (fun _=>U) (by simp only[LN];omega) (fun _=>U) ?_;intro o
  (refine xO U U (by simp) U (fun _=>U) (fun _=>U) ?_;intro g4)
  refine xN [3,4,5] [3,4] U<|A0<|y_M U<|J7 U U (B9 (by omega))<|y_S U<|xN [3,4,5] [3,4] U ?_
  refine⟨(m-1,xs++[(M++[32])++x],_,r+1),?_,(by simp only;omega),⟨U,U,U,U,U,trivial⟩⟩;refine⟨by omega,by simp only[Zf,Ym];omega,by omega,by simp only[Zf,Ym];omega,fun c e=> ?_⟩;rcases ZF.1 e with e|e
  ·exact k c e
  rw[Ye.1 e];(simp only[Zf,Ze,Zo];omega)
 refine D6<|A3<|A0<|y_M U ?_
 (refine xO U U (by simp) U (fun _=>U) (fun _=>U) ?_;intro g2)
 refine xN [2] [2] U<|A9 ?_
 refine⟨_,_,?_,c7z U U (by simp) (by exact A6 fun _=>U) B5⟩;exact⟨_,U,U,by omega,k⟩
noncomputable def e6w(oG:Option Nat)(f:Nat):Option (List AV->Option (AV×List (List AV))):=if f=8 then some c7x else if[3,4].contains f=true then none else some (CW (cxT oG) f)
noncomputable def cxL(oG:Option Nat):Cx:={cxT oG with ext:=e6w oG}
theorem e0q{f:Nat}{args:List AV}{r:AV×List (List AV)}(h:CW (cxT oG) f args=some r)(a:(f !=8&& !([3,4].contains f))=true:=by rfl):CW (cxL oG) f args=some r:=by
 simp only[Bool.and_eq_true,bne_iff_ne,Bool.not_eq_true']at a;refine a3u (cxL oG) (F:=CW (cxT oG) f) ?_ h;show e6w oG f=_;rw[e6w,if_neg a.1,a.2]
 rfl
theorem c1p(ls:List (List UInt8))(a:ls.length<=1048576)(b:∀l∈ls,l.length<=1048576):CW (cxL oG) 8 [.list (ls.map tV)]=some (tV (deskT ls),[]):=a3u (cxL oG) rfl (by show((unT (ls.map tV)).bind fun ls=>if ls.length<=1048576/\∀l∈ls,l.length<=1048576 then some ((tV (deskT ls),[]):AV×List (List AV))else none)=_;rw[e2g,Zl,if_pos ⟨a,b⟩])
theorem b4l:D9 Tryz.f4=[0,2,9,3,4,21,5,29,6,48]:=by kernel_rfl
theorem d4w(d:List Int)(f:a8b d):CW (cxL (some rG)) 4 [.list (d.map uV)]=some (bV true,[]):=by
 refine C7 U Tryz.func4 U ⟨by kernel_rfl,U,dT U,dT U,by decide⟩ b4l<|A3<|A0<|y_S U<|xN [0] [] U<|A3<|A3<|A0<|y_M U<|B8 U U<|M0 U U<|xN [0,9] [] U ?_
 refine A4 U ?_ ?_<;>intro b<;>try simp only[SL]at b
 ·refine A3<|A0<|y_S U<|xN [2] [] U<|A9<|C4 U U trivial ?_
  rfl
 refine A7<|A3<|A0<|y_M U ?_
 have g:d.length<=1048576:=by omega
 obtain⟨_,_,⟨ls,rfl,rfl,r,a⟩,e⟩:=c3v (oG:=some rG) d f g;have o:=e3u ls;apply xC U
 ·apply A8
  ·exact B1 U
  exact C2
 ·exact e0q e
 refine⟨⟨U,U,U,dT U,U⟩,.inl U,B2,H4,fun _=>U,fun g11=> ?_⟩;simp only[Zi]
 (refine xO U U (by simp) U (fun _=>U) (fun _=>U) ?_;intro g3)
 refine xN [3] [3] U<|A3<|A0<|y_M U ?_
 apply xC U
 ·apply A8
  ·exact E7 U U U (by(simp;done)) (fun _=>U)
  exact C2
 ·exact c1p ls (by omega) (fun l h=>by have:=a l h;omega)
 refine⟨⟨U,U,U,dT U,U⟩,.inr ⟨U,U⟩,B2,C8 U,fun _=>U,fun g13=> ?_⟩;refine y_S U<|xN [3,4] [3] U<|A3<|A3<|A0<|y_M U<|y_M U ?_
 apply xC U
 ·apply A8
  ·exact E7 U U U (by(simp;done)) (fun _=>U)
  exact C2
 ·exact e0q (c1i ls (by omega) (fun l h=>by have:=a l h;omega))
 refine⟨⟨U,U,U,dT U,U⟩,.inr ⟨U,U⟩,B2,C8 U,fun _=>U,fun g16=> ?_⟩;refine b5j U U ?_;rw[show(!decide (deskT ls=deskT ls))=false from by simp];refine y_M U<|G2 U U U<|y_M U<|G2 U U U<|H1 U U<|E8 U U U U<|xN [3,4,21] [3] U ?_
 refine A4 U ?_ ?_<;>intro b<;>try simp only[SL]at b
 ·refine A3<|A0<|y_M U<|y_M U ?_
  apply xC U
  ·apply A8
   ·exact E7 U U U (by(simp;done)) (fun _=>U)
   exact C2
  ·exact e0q (c1i ls (by omega) (fun l h=>by have:=a l h;omega))
  refine⟨⟨U,U,U,dT U,U⟩,.inr ⟨U,U⟩,B2,C8 U,fun _=>U,fun g24=> ?_⟩;refine H1 U U<|y_S U<|xN [2] [] U<|A9<|C4 U U trivial ?_
  exact congrArg bV (by simp)
 refine A7<|A3<|A3<|A0<|y_S U<|xN [3,4,5] [3] U<|B0<|D8 (β:=Nat) [(.t 3,_),(.t 4,_),(.h 3,_)] (fun(k:Nat)=>[(.t 5,nV k)]) (fun(k:Nat)=>k<=ls.length+1) (fun(k:Nat)=>ls.length+1-k) 0 ⟨U,U,U,U,trivial⟩ (Zv _) ?_
 intro k n;have q:=n;refine A3<|A3<|A0<|y_M U<|y_M U<|G8 U U<|a2q U U<|xN [3,4,5,29] [3] U ?_
 refine A4 U ?_ ?_<;>intro b<;>try simp only[SL]at b
 ·refine A7<|A3<|B0<|A3<|A0<|y_M U<|y_M U<|a1j U U U (G1 U) (by omega) U ?_
  have c:=e5g (ls:=ls) (k:=k) (by omega);have i:=c.length_le;apply xC U
  ·apply A8
   ·exact d2n U U U (by omega) (fun _=>U)
   exact C2
  ·exact(by have p:=c1p (oG:=some rG) (ls.take k) (by rw[ZH];omega) (fun l h=>by have:=a l (ZV h);omega);exact p)
  refine⟨⟨U,U,U,dT U,U⟩,.inr ⟨U,U⟩,B2,C8 U,fun _=>U,fun j=> ?_⟩;refine y_S U<|xN [3,4,5,6] [3] U<|A3<|A0<|y_M U<|W5 U U<|y_M U<|W5 U U<|M0 U U ?_
  rw[show decide (((deskT ls).length:Int)<((deskT (ls.take k)).length:Int))=false from decide_eq_false (by omega)];refine y_M U<|G2 U U U<|y_M U<|G2 U U U<|y_M U<|G2 U U U<|W5 U U<|G2 U U U<|Q7 U U (G1 U) I2 (by omega)<|G2 U U U<|y_M U<|G2 U U U ?_
  rw[show((deskT ls).drop 0).take ((deskT (ls.take k)).length-0)=deskT (ls.take k)from(List.prefix_iff_eq_take.1 c).symm];refine b5j U U ?_;rw[show(!decide (deskT (ls.take k)=deskT (ls.take k)))=false from by simp];refine E8 U U U U<|xN [3,4,5,48] [3] U ?_
  refine A4 U (fun b=>absurd b (by decide)) (fun b=> ?_);refine A7<|A0<|y_M U<|D7 U U (B9 (by omega))<|y_S U<|xN [3,4,5] [3] U ?_
  refine⟨k+1,(by omega),(by omega),⟨U,U,U,U,trivial⟩⟩
 refine D6<|A3<|A0<|y_M U ?_
 refine xC1 U U (e0q (d7h (deskT ls) (by omega))) ⟨U,U,U⟩ U U fun m=> ?_
 rw[e7y (by omega)];refine y_M U<|G8 U U<|K6 U U<|y_S U<|xN [2] [] U<|A9<|C4 U U trivial ?_
 exact congrArg bV (by simp)
end Go.Proofs.YtjmoceabjajefaaGreatDoor
