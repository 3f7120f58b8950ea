/- What each function of the program gives on the abstract machine, part 2 of 3. Conditions: those in front of each theorem. -/
import Derived.Test.YtjmoceabjajefaaGreatDoorSa
import Derived.KernelRfl
set_option linter.unusedVariables false
set_option linter.unusedSimpArgs false
open Bool renaming noConfusion→ZH
open Int renaming gcd→YD
open List renaming length_map→Zh, getD_eq_getElem?_getD→Zc, getElem?_eq_none→ZO, map→ZA, length_nil→Zs, length_cons→Zg, length_append→Zl, range→Yb, cons_append→Zp, nil_append→Zi, append_nil→Zm, map_cons→Zy, map_nil→Yf, drop_succ_cons→Yg, drop_zero→ZX, take_of_length_le→ZC, mem_cons_of_mem→Zn, length_tail→Xu, replicate→ZN, replicate_zero→Xz, length_replicate→YX, length_take→ZU
open Nat renaming zero_le→Zt, zero_add→ZI, le_refl→Zd, lt_succ_self→ZK, not_lt_zero→Yy, le_trans→Ye, pow_le_pow_right→YI, lt_succ_iff_lt_or_eq→Ys
open Option renaming bind_some→Zk, isSome_iff_exists→ZS
namespace Go.Proofs.YtjmoceabjajefaaGreatDoor
open Go Go.Mv Go.Proofs
set_option maxRecDepth 100000
set_option maxHeartbeats 20000000
variable{oG:Option Nat}{rG:Nat}
theorem b8j:D8 Tryz.f134=[0,3,2,9]:=by kernel_rfl
theorem e4y(x:List Int)(f:x.length<=1000):∃res outs,(fun res outs=>res= .tup []/\outs=[x.reverse.map iV]) res outs/\CW (cxT oG) 134 [.own 1 (x.map iV)]=some (res,outs):=by
 refine P9 U Tryz.func134 U ⟨by kernel_rfl,U,dT U,dT U,by decide⟩ b8j<|A3<|A0<|y_M U<|H2 U U ?_
 simp only[Zh];refine J8 U U (B9 (by omega))<|y_S U<|y_S U<|xN [0,2,3] [0] U<|A8 ?_
 rw[show((x.length:Int)-1)=(x.length:Int)-1-((0:Nat):Int) by simp];refine D7 (β:=Nat×List Int) [(.t 0,_)] (fun(z:Nat×List Int)=>match z with|(i,l)=>[(.t 2,iV i),(.t 3,iV ((x.length:Int)-1-(i:Int))),(.h 0,.obj 1 1 1 (l.map iV))]) (fun(z:Nat×List Int)=>match z with|(i,l)=>i<=x.length/\c9v x i l) (fun(z:Nat×List Int)=>match z with|(i,l)=>x.length-i) (0,x) ⟨U,U,U,U,trivial⟩ ⟨Zt _,c9v.start x⟩ ?_;intro z b;obtain⟨i,l⟩:=z
 try dsimp only at b
 obtain⟨d,a⟩:=b;have e:=a.1;refine A3<|A3<|A0<|y_M U<|y_M U<|F0 U U<|xN [0,2,3,9] [0] U ?_
 refine A4 U ?_ ?_<;>intro c<;>try simp only[SL]at c
 ·refine A6<|A3<|A8<|A0 ?_
  iterate 6 refine y_M U ?_
  rw[show((x.length:Int)-1-(i:Int))=((x.length-1-i:Nat):Int) by omega];refine C6 U U U U (by(simp;omega)) (by(simp;omega)) U<|E4 U U (by omega) (fun _=>U) (fun _=>U) U<|y_M U<|y_M U<|C6 U U U U (by(simp;omega)) (by(simp;omega)) U<|E4 U U (by omega) (fun _=>U) (fun _=>U) U<|C6 U U U U (by(simp;omega)) (by(simp;omega)) U<|J4 U U U (by omega) (fun _ _=>⟨U,U,dT U,dT U,U,U⟩) (by decide) (by exact a2p (A7 fun _=>U))<|C6 U U U U (by(simp;omega)) (by(simp;omega)) U<|J4 U U U (by(simp;omega)) (fun _ _=>⟨U,U,dT U,dT U,U,U⟩) (by decide) (by exact a2p (A7 fun _=>U)) ?_
  refine G7 ⟨fun _=>⟨by decide+kernel,by decide+kernel⟩,[(.t 0,_),(.t 2,_),(.t 3,_),(.h 0,_)],⟨U,U,U,U,U,U,U,U,trivial⟩,?_⟩;refine A0<|y_M U<|D6 U U (B9 (by omega)) ?_
  rw[show((x.length-1-i:Nat):Int)=(x.length:Int)-1-(i:Int) by omega];refine y_M U<|J8 U U (B9 (by omega))<|y_S U<|y_S U<|xN [0,2,3] [0] U ?_
  rw[show((x.length:Int)-1-(i:Int)-1)=(x.length:Int)-1-((i+1:Nat):Int) by omega];refine⟨(i+1,_),?_,(by simp only;omega),⟨U,U,U,U,trivial⟩⟩;exact⟨by omega,a.step (by omega)⟩
 refine D5 ?_;refine⟨_,_,?_,b2d (N9 U (U3 fun _=>U))⟩;exact⟨U,by rw[a.fin (by omega)]⟩
theorem c2t:D8 Tryz.f102=[0,1,2,6,9,7,19]:=by kernel_rfl
theorem e7j(k:Nat)(h:k<4)(e:List Int)(a:List (List Int))(i:a.length<=1048576)(f:∀c∈a,c.length<=1048576):CW (cxT oG) 102 [sV (e4f k),L e,M a]=some (.own 1 ((a.getD k default).map iV),[]):=by
 have g:(a.getD k default).length<=1048576:=by rcases Nat.lt_or_ge k a.length with c|c;(·exact f _ (L8 c));(·rw[Zc,ZO c];exact Zt _)
 refine C5 U Tryz.func102 U ⟨by kernel_rfl,U,dT U,dT U,by decide⟩ c2t<|A3<|A0 ?_
 (refine B1 U U (fun _=>U) ?_;intro g6)
 refine xN [0,1,2] [] U<|A3<|A3<|A0<|y_M U<|e9v (t:=false) U U (by match k,h with|0,_=>decide+kernel|1,_=>decide+kernel|2,_=>decide+kernel|3,_=>decide+kernel)<|xN [0,1,2,9] [] U ?_
 refine A4 U (fun d=> ?_) (fun d=> ?_)
 ·try simp only[SD]at d
  exact absurd d (by decide)
 try simp only[SL]at d
 refine A6<|A3<|A3<|A0<|y_M U<|a6r (b:=UInt8.ofNat (97+k)) U U U (by decide) U ?_
 rw[show(UInt8.ofNat (97+k)).toNat=97+k from by match k,h with|0,_=>rfl|1,_=>rfl|2,_=>rfl|3,_=>rfl];refine J8 U U (by constructor<;>simp[IntKind.min,IntKind.max,IntKind.signed,IntKind.bits]<;>omega) ?_;rw[show((97+k:Nat):Int)-97=(k:Int) by omega];refine a6f U U U (B9 (by omega))<|y_S U<|xN [2,7] [] U<|A3<|A0<|y_M U<|y_M U<|B7 U U<|F0 U U<|xN [2,7,19] [] U ?_
 refine A4 U ?_ ?_<;>intro d<;>try simp only[SL]at d
 ·refine A3<|A0<|y_M U<|y_M U<|B4 U U U (fun _=>U) (by omega)<|y_I U ?_
  apply xC U
  ·apply B0
   ·exact B2 U
   exact C8
  ·exact e0d (a.getD k default) g
  refine⟨⟨U,U,U,dT U,U⟩,.inl U,B6,G6,fun _=>U,fun g24=> ?_⟩;simp only[Zh]
  (refine xO U U (by simp) U (fun _=>U) (fun _=>U) ?_;intro g6)
  refine xN [6] [6] U<|A9<|I6 U U (by simp) (by exact A7 fun _=>U) trivial ?_
  rfl
 refine A6<|A3<|A0 ?_
 (refine B1 U U (fun _=>U) ?_;intro g6)
 refine xN [6] [6] U<|A9<|I6 U U (by simp) (by rfl) trivial ?_
 rw[Zc,ZO (by omega)]
 rfl
theorem b6f:D8 Tryz.f25=[0,1,4,5,13]:=by kernel_rfl
theorem b9k(k:Nat)(h:k<4)(a:List (List Int))(f:a.length<=1048576)(d:∀c∈a,c.length<=1048576):CW (cxT oG) 25 [sV (e4f k),M a]=some (.own 1 ((a.getD k default).map iV),[]):=by
 have g:(a.getD k default).length<=1048576:=by rcases Nat.lt_or_ge k a.length with c|c;(·exact d _ (L8 c));(·rw[Zc,ZO c];exact Zt _)
 refine C5 U Tryz.func25 U ⟨by kernel_rfl,U,dT U,dT U,by decide⟩ b6f<|A3<|A0 ?_
 (refine B1 U U (fun _=>U) ?_;intro g4)
 refine xN [0,1] [] U<|A3<|A0<|y_M U<|a6r (b:=UInt8.ofNat (97+k)) U U U (by decide) U ?_
 rw[show(UInt8.ofNat (97+k)).toNat=97+k from by match k,h with|0,_=>rfl|1,_=>rfl|2,_=>rfl|3,_=>rfl];refine J8 U U (by constructor<;>simp[IntKind.min,IntKind.max,IntKind.signed,IntKind.bits]<;>omega) ?_;rw[show((97+k:Nat):Int)-97=(k:Int) by omega];refine a6f U U U (B9 (by omega))<|y_S U<|xN [1,5] [] U<|A3<|A3<|A0<|y_M U<|y_M U<|B7 U U<|F0 U U<|xN [1,5,13] [] U ?_
 refine A4 U ?_ ?_<;>intro e<;>try simp only[SL]at e
 ·refine A3<|A0<|C0 (es:=ZA iV []) U U (dT U) U U (fun _=>B5 (A7 fun _=>U)) (fun _=>U) ?_
  intro g14;refine y_M U<|y_M U<|B4 U U U (fun _=>U) (by omega)<|y_I U<|P2 U U U (by(simp;done)) U U U (dT U) (fun _=>⟨U,U,U⟩) (by simp only[H6];(simp only[Zs,Zg,Zl,ZI,Zh];omega)) (fun _=>U) ?_
  intro g19
  (refine xO U U (by simp) U (fun _=>U) (fun _=>U) ?_;intro g4)
  refine xN [4] [4] U<|A9<|I6 U U (by simp) (by exact A7 fun _=>U) trivial ?_
  rfl
 refine A6<|A3<|A0<|C0 (es:=ZA iV []) U U (dT U) U U (fun _=>B5 (A7 fun _=>U)) (fun _=>U) ?_
 intro g20
 (refine xO U U (by simp) U (fun _=>U) (fun _=>U) ?_;intro g4)
 refine xN [4] [4] U<|A9<|I6 U U (by simp) (by rfl) trivial ?_
 rw[Zc,ZO (by omega)]
 rfl
theorem c2m:D8 Tryz.f103=[0,1,4,5,15,20,21,6,25,29,33,32,34,7,45,49,48,50,8,66,9,72,86,10,91,105,109,114,124,129,128,130,127,12,11,142,156,63]:=by kernel_rfl
theorem d3h(op:ByteArray)(h1:1<=nd op)(x y:List Int)(E:vl x=true)(Q:vl y=true)(ls:List (List Int))(a3:1<=ls.length)(C:nd op=2->2<=ls.length)(D:ls.getD 0 default=x)(A:2<=ls.length->ls.getD 1 default=y):CW (cxT oG) 103 [sV op,M ls]=some (.tup [.own 1 (((mkR op x y).getD []).map iV),bV (mkR op x y).isSome],[]):=by
 have P:=(P7.1 E).1;have R:=(P7.1 Q).1;have e:=a2i E;have u:=a2i Q;have a6:=Q6 x;refine C5 U Tryz.func103 U ⟨by kernel_rfl,U,dT U,dT U,by decide⟩ c2m<|A3<|A0 ?_
 (refine B1 U U (fun _=>U) ?_;intro g4)
 refine y_S U<|xN [0,1] [] U<|A3<|A0 ?_
 (refine B1 U U (fun _=>U) ?_;intro g6)
 refine xN [0,1,6] [6] U<|A3<|A3<|A0<|y_M U<|B7 U U<|M0 U U<|xN [0,1,6,15] [6] U ?_
 refine A4 U (fun a=> ?_) (fun a=> ?_)
 ·try simp only[SL]at a
  refine A0<|y_M U<|B4 U U U (fun _=>U) (by(change 0<_;omega))<|y_I U ?_
  rw[D];apply xC U
  ·apply B0
   ·exact B2 U
   exact C8
  ·exact d0l x (by simp only[H6];omega)
  refine⟨⟨U,U,U,dT U,U⟩,.inl U,B6,G6,fun _=>U,fun g19=> ?_⟩;simp only[Zh]
  (refine xO U U (by simp) U (fun _=>U) (fun _=>U) ?_;intro g6)
  refine xN [0,1,6] [6] U<|V2<|A3<|A0<|y_M U<|xN [1,6,20] [6] U ?_
  refine Y9 (β:=List Int×Nat×Nat) [] trivial (fun(z:List Int×Nat×Nat)=>match z with|(r,n,g)=>[(.h 6,.obj g 0 1 (r.map iV)),(.t 6,.sl 6 g none 0 n)]) (fun(z:List Int×Nat×Nat)=>match z with|(r,n,g)=>X6 op x y=some r/\n=r.length/\r.length<=80) ?_ ?_
  ·skip
   refine A8<|A3<|A0<|J3 U U<|y_S U<|xN [1,6,20,21] [6] U ?_
   refine A4 U ?_ ?_<;>intro a<;>try simp only[SL]at a
   ·try simp at a
    refine A0<|y_M U ?_
    apply a0z U
    ·apply B0
     ·exact a4q U U (by decide) (by(simp;done)) (U3 fun _=>U)
     exact C8
    ·exact e6c x (by simp only[H6];omega)
    ·exact⟨U,U,U,dT U,U⟩
    ·exact .inl U
    ·exact a2s U (by simp) (a5i _ _) B6
    ·exact I7 U
    ·(intro _;exact C7 (B5 (A7 fun _=>U)) U)
    intro g24;refine xN [6] [6] U ?_;refine⟨(_,_,_),?_,⟨U,U,trivial⟩⟩;exact⟨(by(simp[X6, *];done)),(by(simp;done)),(by omega)⟩
   try simp at a
   refine A3<|A0<|J3 U U<|y_S U<|xN [1,6,20,25] [6] U ?_
   refine A4 U ?_ ?_<;>intro a<;>try simp only[SL]at a
   ·try simp at a
    refine A0<|y_M U ?_
    obtain⟨_,_,⟨rfl,rfl⟩,F⟩:=e4y (oG:=oG) x (by omega);apply a0z U
    ·apply B0
     ·exact a4q U U (by decide) (by(simp;done)) (U3 fun _=>U)
     exact C8
    ·exact F
    ·exact⟨U,U,U,dT U,U⟩
    ·exact .inl U
    ·exact a2s U (by simp) (a5i _ _) B6
    ·exact I7 U
    ·(intro _;exact C7 (B5 (A7 fun _=>U)) U)
    intro S;refine xN [6] [6] U ?_;refine⟨(_,_,_),?_,⟨U,U,trivial⟩⟩;exact⟨(by(simp[X6, *];done)),(by(simp;done)),(by(simp;omega))⟩
   try simp at a
   refine A3<|A0<|J3 U U<|y_S U<|xN [1,6,20,29] [6] U ?_
   refine A4 U ?_ ?_<;>intro a<;>try simp only[SL]at a
   ·try simp at a
    refine A3<|A0<|y_M U<|H2 U U<|y_M U<|xN [6,32,33] [6] U<|A8<|D7 (β:=Nat×List Int) [(.t 6,_),(.t 32,_)] (fun(z:Nat×List Int)=>match z with|(i,l)=>[(.t 33,iV i),(.h 6,.obj g6 0 1 (l.map iV))]) (fun(z:Nat×List Int)=>match z with|(i,l)=>i<=x.length/\X1 x.length (fun i=> -(J2 x i)) (J2 x) i l) (fun(z:Nat×List Int)=>match z with|(i,l)=>x.length-i) (0,x) ⟨U,U,U,U,trivial⟩ ⟨Zt _,X1.start x _⟩ ?_
    intro z c;obtain⟨i,l⟩:=z
    try dsimp only at c
    obtain⟨w,b⟩:=c;have q:=b.1;have d:=fun h:i<x.length=>b.at h
    have s:=e i;have p: -100000<=y.getD i default/\y.getD i default<=100000:=u i;refine A3<|A0<|F0 U U<|xN [6,32,33,34] [6] U<|A3 ?_
    refine A4 U ?_ ?_<;>intro a<;>try simp only[SL]at a
    ·refine A6<|A3<|A8<|A3<|A0<|y_M U<|y_S U<|xN [6,7,32,33] [6] U<|A0<|y_M U<|y_M U<|y_M U<|y_M U<|C6 U U U U (by omega) (by(simp;omega)) U<|E4 U U (by omega) (fun _=>U) (fun _=>U) U<|a4s U (B9 (by omega))<|C6 U U U U (by omega) (by(simp;omega)) U<|J4 U U U (by omega) (fun _ _=>⟨U,U,dT U,dT U,U,U⟩) (by decide) (by exact B5 (A7 fun _=>U))<|xN [6,32,33] [6] U<|A0<|D6 U U (B9 (by omega))<|y_M U<|xN [6,32,33] [6] U ?_
     refine⟨(i+1,l.set i (-(l.getD i default))),?_,(by simp only;omega),⟨U,U,U,U,trivial⟩⟩;exact⟨by omega,b.step (by omega) (by rw[d (by omega)];done)⟩
    refine D5 ?_;refine⟨(_,_,_),?_,⟨U,U,trivial⟩⟩;exact⟨by rw[(b.fin (by omega)).trans (b0x x fun v=> -v)];simp[X6, *],by omega,by omega⟩
   try simp at a
   refine A3<|A0<|J3 U U<|y_S U<|xN [1,6,20,45] [6] U ?_
   refine A4 U ?_ ?_<;>intro a<;>try simp only[SL]at a
   ·try simp at a
    refine A3<|A0<|y_M U<|H2 U U<|y_M U<|xN [6,48,49] [6] U<|A8<|D7 (β:=Nat×List Int) [(.t 6,_),(.t 48,_)] (fun(z:Nat×List Int)=>match z with|(i,l)=>[(.t 49,iV i),(.h 6,.obj g6 0 1 (l.map iV))]) (fun(z:Nat×List Int)=>match z with|(i,l)=>i<=x.length/\X1 x.length (fun i=>max (J2 x i) (-(J2 x i))) (J2 x) i l) (fun(z:Nat×List Int)=>match z with|(i,l)=>x.length-i) (0,x) ⟨U,U,U,U,trivial⟩ ⟨Zt _,X1.start x _⟩ ?_
    intro z c;obtain⟨i,l⟩:=z
    try dsimp only at c
    obtain⟨w,b⟩:=c;have q:=b.1;have d:=fun h:i<x.length=>b.at h
    have s:=e i;have p: -100000<=y.getD i default/\y.getD i default<=100000:=u i;refine A3<|A0<|F0 U U<|xN [6,48,49,50] [6] U<|A3 ?_
    refine A4 U ?_ ?_<;>intro a<;>try simp only[SL]at a
    ·refine A6<|A3<|A8<|A3<|A0<|y_M U<|y_S U<|xN [6,8,48,49] [6] U<|A0<|y_M U<|y_M U<|y_M U<|y_M U<|C6 U U U U (by omega) (by(simp;omega)) U<|E4 U U (by omega) (fun _=>U) (fun _=>U) U<|y_M U<|y_M U<|C6 U U U U (by omega) (by(simp;omega)) U<|E4 U U (by omega) (fun _=>U) (fun _=>U) U<|a4s U (B9 (by omega))<|c4w U U<|C6 U U U U (by omega) (by(simp;omega)) U<|J4 U U U (by omega) (fun _ _=>⟨U,U,dT U,dT U,U,U⟩) (by decide) (by exact B5 (A7 fun _=>U)) ?_
     refine G7 ⟨fun _=>⟨by decide+kernel,by decide+kernel⟩,[(.t 6,_),(.t 48,_),(.t 49,_),(.h 6,_)],⟨U,U,U,U,U,U,U,U,trivial⟩,?_⟩;refine A0<|D6 U U (B9 (by omega))<|y_M U<|xN [6,48,49] [6] U ?_
     refine⟨(i+1,l.set i (max (l.getD i default) (-(l.getD i default)))),?_,(by simp only;omega),⟨U,U,U,U,trivial⟩⟩;exact⟨by omega,b.step (by omega) (by rw[d (by omega)];done)⟩
    refine D5 ?_;refine⟨(_,_,_),?_,⟨U,U,trivial⟩⟩;exact⟨by rw[(b.fin (by omega)).trans (b0x x fun v=>max v (-v))];simp[X6, *],by omega,by omega⟩
   try simp at a
   refine A3<|A0<|J3 U U<|y_S U<|xN [1,6,20,66] [6] U ?_
   refine A4 U ?_ ?_<;>intro a<;>try simp only[SL]at a
   ·try simp at a
    refine A3<|A0<|y_M U<|H2 U U<|J8 U U (B9 (by omega))<|y_S U<|xN [6,9] [6] U<|A8<|D7 (β:=Nat×List Int) [(.t 6,_)] (fun(z:Nat×List Int)=>match z with|(k,l)=>[(.t 9,iV ((k:Int)-1)),(.h 6,.obj g6 0 1 (l.map iV))]) (fun(z:Nat×List Int)=>match z with|(k,l)=>k<=x.length/\a6i x (k-1) l) (fun(z:Nat×List Int)=>match z with|(k,l)=>k) (x.length,x) ⟨U,U,U,trivial⟩ ⟨Zd _,a6i.start x⟩ ?_
    intro z c;obtain⟨k,l⟩:=z
    try dsimp only at c
    obtain⟨a2,B⟩:=c;have W:=B.1;refine A3<|A3<|A0<|y_M U<|M0 U U<|xN [6,9,72] [6] U ?_
    refine A4 U ?_ ?_<;>intro a<;>try simp only[SL]at a
    ·refine A6<|A3<|A8<|A0<|y_M U<|y_M U ?_
     rw[show((k:Int)-1)=((k-1:Nat):Int) by omega];refine C6 U U U U (by omega) (by(simp;omega)) U<|E4 U U (by omega) (fun _=>U) (fun _=>U) U<|y_M U<|y_M U<|J8 U U (B9 (by omega)) ?_
     rw[show((k-1:Nat):Int)-1=((k-1-1:Nat):Int) by omega];refine C6 U U U U (by omega) (by(simp;omega)) U<|E4 U U (by omega) (fun _=>U) (fun _=>U) U ?_
     have T:=B.val (k-1);have V:=B.val (k-1-1);have Z:=e (k-1);have a0:=e (k-1-1);have a1:=e (k-1-1-1);refine J8 U U (B9 (by omega))<|C6 U U U U (by omega) (by(simp;omega)) U<|J4 U U U (by omega) (fun _ _=>⟨U,U,dT U,dT U,U,U⟩) (by decide) (by exact B5 (A7 fun _=>U)) ?_
     refine G7 ⟨fun _=>⟨by decide+kernel,by decide+kernel⟩,[(.t 6,_),(.t 9,_),(.h 6,_)],⟨U,U,U,U,U,U,trivial⟩,?_⟩;refine A0<|y_M U<|J8 U U (B9 (by omega))<|y_S U<|xN [6,9] [6] U ?_
     refine⟨(k-1,_),?_,(by simp only;omega),⟨U,U,U,trivial⟩⟩;exact⟨by omega,B.step (by omega) (by omega)⟩
    refine D5 ?_;refine⟨(_,_,_),?_,⟨U,U,trivial⟩⟩;exact⟨by rw[show l=dfI x from a6i.fin ((show k-1=0 by omega)▸B)];simp[X6, *],by omega,by omega⟩
   try simp at a
   refine A3<|A0<|J3 U U<|y_S U<|xN [1,6,20,86] [6] U ?_
   refine A4 U ?_ ?_<;>intro a<;>try simp only[SL]at a
   ·try simp at a
    refine A3<|A0<|y_S U<|xN [6,10] [6] U<|A8<|D7 (β:=Nat×List Int) [(.t 6,_)] (fun(z:Nat×List Int)=>match z with|(i,l)=>[(.t 10,iV i),(.h 6,.obj g6 0 1 (l.map iV))]) (fun(z:Nat×List Int)=>match z with|(i,l)=>1<=i/\X1 x.length (fun i=>prS (J2 x) (i+1)) (J2 x) i l) (fun(z:Nat×List Int)=>match z with|(i,l)=>x.length-i) (1,x) ⟨U,U,U,trivial⟩ ⟨Zd _,X1.start1 x⟩ ?_
    intro z c;obtain⟨i,l⟩:=z
    try dsimp only at c
    obtain⟨w,b⟩:=c;have q:=b.1;have d:=fun h:i<x.length=>b.at h
    have s:=e i;refine A3<|A3<|A0<|y_M U<|y_M U<|H2 U U<|F0 U U<|xN [6,10,91] [6] U ?_
    refine A4 U ?_ ?_<;>intro a<;>try simp only[SL]at a
    ·refine A6<|A3<|A8<|A0<|y_M U<|y_M U<|C6 U U U U (by omega) (by(simp;omega)) U<|E4 U U (by omega) (fun _=>U) (fun _=>U) U<|y_M U<|y_M U<|J8 U U (B9 (by omega)) ?_
     rw[show((i:Int)-1)=((i-1:Nat):Int) by omega];refine C6 U U U U (by omega) (by(simp;omega)) U<|E4 U U (by omega) (fun _=>U) (fun _=>U) U ?_
     have X:=b.before (j:=i-1) (by omega) (by omega);have a5:=d4u E (i-1+1);refine D6 U U (B9 (by omega))<|C6 U U U U (by omega) (by(simp;omega)) U<|J4 U U U (by omega) (fun _ _=>⟨U,U,dT U,dT U,U,U⟩) (by decide) (by exact B5 (A7 fun _=>U)) ?_
     refine G7 ⟨fun _=>⟨by decide+kernel,by decide+kernel⟩,[(.t 6,_),(.t 10,_),(.h 6,_)],⟨U,U,U,U,U,U,trivial⟩,?_⟩;refine A0<|y_M U<|D6 U U (B9 (by omega))<|y_S U<|xN [6,10] [6] U ?_
     refine⟨(i+1,l.set i (l.getD i default+l.getD (i-1) default)),?_,(by simp only;omega),⟨U,U,U,trivial⟩⟩;have o:=b.before (j:=i-1) (by omega) (by omega);rw[show i-1+1=i by omega]at o;exact⟨by omega,b.step (by omega) (by rw[d (by omega),o,Int.add_comm];rfl)⟩
    refine D5 ?_;refine⟨(_,_,_),?_,⟨U,U,trivial⟩⟩;exact⟨by rw[show l=smI x from b.fin (by omega)];simp[X6, *],by omega,by omega⟩
   try simp at a
   refine A3<|A0<|J3 U U<|y_S U<|xN [1,6,20,105] [6] U ?_
   refine A4 U ?_ ?_<;>intro a<;>try simp only[SL]at a
   ·try simp at a
    refine A0<|y_M U ?_
    apply xC U
    ·apply B0
     ·exact E6 U U U (by(simp;done)) (fun _=>U)
     exact C8
    ·exact e7m x E
    refine⟨⟨U,U,U,dT U,U⟩,.inr ⟨P0 fun _=>U,U⟩,B6,G6,fun _=>U,fun H=> ?_⟩;simp only[Zh]
    (refine xO U U (by simp) U (fun _=>U) (fun _=>U) ?_;intro g6)
    refine xN [6] [6] U ?_;refine⟨(_,_,_),?_,⟨U,U,trivial⟩⟩;exact⟨(by(simp[X6,rkI, *];done)),(by(simp[dfI,smI,rkI,adI];done)),(by(simp;omega))⟩
   try simp at a
   refine A3<|A0<|J3 U U<|y_S U<|xN [1,6,20,109] [6] U ?_
   refine A4 U ?_ ?_<;>intro a<;>try simp only[SL]at a
   ·try simp at a
    refine A0<|y_M U ?_
    apply xC U
    ·apply B0
     ·exact E6 U U U (by(simp;done)) (fun _=>U)
     exact C8
    ·exact e7b x E
    refine⟨⟨U,U,U,dT U,U⟩,.inr ⟨U,U⟩,B6,F7 U,fun _=>U,fun I=> ?_⟩;refine C0 (es:=ZA iV [_]) U U (dT U) U U (fun _=>B5 (A7 fun _=>U)) (fun _=>U) ?_;intro J
    (refine xO U U (by simp) U (fun _=>U) (fun _=>U) ?_;intro g6)
    refine xN [6] [6] U ?_;refine⟨(_,_,_),?_,⟨U,U,trivial⟩⟩;exact⟨(by(simp[X6, *];done)),(by(simp;done)),(by(simp;done))⟩
   try simp at a
   refine A3<|A0<|J3 U U<|y_S U<|xN [1,6,20,114] [6] U ?_
   refine A4 U ?_ ?_<;>intro a<;>try simp only[SL]at a
   ·try simp at a
    have m:=C (e8g (.inl a));refine A3<|A3<|A0<|y_M U<|B4 U U U (fun _=>U) (by(change 0<_;omega))<|y_I U ?_
    rw[D];refine B7 U U<|y_M U<|B4 U U U (fun _=>U) (by(simp;omega))<|y_I U ?_
    rw[A m];refine B7 U U<|a8f U U ?_
    refine G7 ⟨fun _=>⟨by decide+kernel,by decide+kernel⟩,[(.t 1,_),(.t 6,_),(.t 124,_),(.h 6,_)],⟨U,U,U,U,U,U,U,U,trivial⟩,?_⟩;refine A4 U ?_ ?_<;>intro a<;>try simp only[SL]at a
    ·refine A3<|A0 ?_
     (refine B1 U U (fun _=>U) ?_;intro g4)
     refine y_S U<|xN [4,5] [4] U<|A9<|B8 (F9 U U (by simp) (by rfl) (C9 U U (C4 B3))) ?_
     have a4:¬x.length=y.length:=by omega
     rw[show mkR op x y=none from by simp[mkR,X6, *]]
     rfl
    refine A6<|A3<|A0<|y_M U<|B4 U U U (fun _=>U) (by(simp;omega))<|y_I U ?_
    rw[A m];refine B7 U U<|y_M U<|xN [6,127,128,129] [6] U<|A8<|D7 (β:=Nat×List Int) [(.t 6,_),(.t 127,_),(.t 128,_)] (fun(z:Nat×List Int)=>match z with|(i,l)=>[(.t 129,iV i),(.h 6,.obj g6 0 1 (l.map iV))]) (fun(z:Nat×List Int)=>match z with|(i,l)=>i<=x.length/\X1 x.length (fun i=>J2 x i+J2 y i) (J2 x) i l) (fun(z:Nat×List Int)=>match z with|(i,l)=>x.length-i) (0,x) ⟨U,U,U,U,U,trivial⟩ ⟨Zt _,X1.start x _⟩ ?_
    intro z c;obtain⟨i,l⟩:=z
    try dsimp only at c
    obtain⟨w,b⟩:=c;have q:=b.1;have d:=fun h:i<x.length=>b.at h
    have s:=e i;have p: -100000<=y.getD i default/\y.getD i default<=100000:=u i;refine A3<|A0<|F0 U U<|xN [6,127,128,129,130] [6] U<|A3 ?_
    refine A4 U ?_ ?_<;>intro a<;>try simp only[SL]at a
    ·refine A6<|A3<|A8<|A3<|A0<|y_M U<|B4 U U U (fun _=>U) (by omega)<|y_I U<|y_S U<|y_S U<|xN [6,11,12,127,128,129] [6] U<|A0<|y_M U<|y_M U<|C6 U U U U (by omega) (by(simp;omega)) U<|E4 U U (by omega) (fun _=>U) (fun _=>U) U<|y_M U<|D6 U U (B9 (by omega))<|C6 U U U U (by omega) (by(simp;omega)) U<|J4 U U U (by omega) (fun _ _=>⟨U,U,dT U,dT U,U,U⟩) (by decide) (by exact B5 (A7 fun _=>U))<|xN [6,127,128,129] [6] U<|A0<|D6 U U (B9 (by omega))<|y_M U<|xN [6,127,128,129] [6] U ?_
     refine⟨(i+1,l.set i (l.getD i default+y.getD i default)),?_,(by simp only;omega),⟨U,U,U,U,U,trivial⟩⟩;exact⟨by omega,b.step (by omega) (by rw[d (by omega)];rfl)⟩
    refine D5 ?_;refine⟨(_,_,_),?_,⟨U,U,trivial⟩⟩;exact⟨adF (by assumption) (by omega) (b.fin (by omega)) U,by omega,by omega⟩
   try simp at a
   refine A3<|A0<|J3 U U<|y_S U<|xN [1,6,142] [6] U ?_
   refine A4 U ?_ ?_<;>intro a<;>try simp only[SL]at a
   ·try simp at a
    have m:=C (e8g (.inr a));refine A0<|y_M U<|y_M U<|B4 U U U (fun _=>U) (by(simp;omega))<|y_I U ?_
    rw[A m];refine P2 U U U (by(simp;done)) U U U (dT U) (fun _=>⟨U,U,U⟩) (by simp only[H6];omega) (fun _=>U) ?_;intro K
    (refine xO U U (by simp) U (fun _=>U) (fun _=>U) ?_;intro g6)
    refine xN [6] [6] U ?_;refine⟨(_,_,_),?_,⟨U,U,trivial⟩⟩;exact⟨(by(simp[X6, *];done)),(by(simp;done)),(by(simp;omega))⟩
   try simp at a
   refine A6 ?_;refine⟨(_,_,_),?_,⟨U,U,trivial⟩⟩;exact⟨(by(simp[X6, *];done)),(by(simp;done)),(by omega)⟩
  intro z c;obtain⟨r,n,g⟩:=z
  try dsimp only at c
  obtain⟨f,hn,O⟩:=c;subst hn;refine A3<|A3<|A0<|y_M U<|H2 U U<|M0 U U<|y_M U ?_
  refine D3 U U ?_ ?_<;>intro G<;>have Y:=G<;>try simp only[SG]at Y
  ·refine y_M U<|gT U U ?_
   apply xC U
   ·apply B0
    ·exact E6 U U U (by(simp;done)) (fun _=>U)
    apply B0
    ·exact B2 U
    apply B0
    ·exact B2 U
    exact C8
   ·exact b2q r (by omega) (-100000) 100000
   refine⟨⟨U,U,U,dT U,U⟩,.inr ⟨U,U⟩,B6,F7 U,fun _=>U,fun L=> ?_⟩;refine gT U U<|H5 U<|E8 U (by assumption) U U<|xN [6,156] [6] U ?_
   refine A4 U ?_ ?_<;>intro a<;>try simp only[SL]at a
   ·refine A3<|A0 ?_
    (refine B1 U U (fun _=>U) ?_;intro g4)
    refine y_S U<|xN [4,5] [4] U<|A9<|B8 (F9 U U (by simp) (by rfl) (C9 U U (C4 B3))) ?_
    rw[mkR,f,Zk,if_neg (by rw[P7];simp_all;try omega)]
    rfl
   refine A6<|A3<|A0<|y_M U ?_
   apply xC U
   ·apply B0
    ·exact b1s U U (by(simp;done)) (A7 fun _=>U)
    exact C8
   ·exact c6v r (by simp only[H6];omega)
   refine⟨⟨U,U,U,dT U,U⟩,.inl U,B6,G6,fun _=>U,fun N=> ?_⟩;simp only[Zh]
   (refine xO U U (by simp) U (fun _=>U) (fun _=>U) ?_;intro g4)
   refine y_S U<|xN [4,5] [4] U<|A9<|B8 (F9 U U (by simp) (by exact A7 fun _=>U) (C9 U U (C4 B3))) ?_
   rw[mkR,f,Zk,if_pos (P7.2 ⟨by omega,by simp_all⟩)]
   rfl
  refine gF U U<|gF U U<|E9 U (by assumption) U U<|xN [6,156] [6] U ?_
  refine A4 U (fun a=> ?_) (fun a=>absurd a (by decide));refine A3<|A0 ?_
  (refine B1 U U (fun _=>U) ?_;intro g4)
  refine y_S U<|xN [4,5] [4] U<|A9<|B8 (F9 U U (by simp) (by rfl) (C9 U U (C4 B3))) ?_
  rw[mkR,f,Zk,if_neg (by rw[P7];simp_all;try omega)]
  rfl
 try simp only[SD]at a
 omega
theorem c7w:D8 Tryz.f53=[0,1,2,6,7,16,17,21,25,9,30,8,41,10,46,62,11,67,71,91,13,96,12,109,113,120,126,14,130,145]:=by kernel_rfl
theorem b7u(op:ByteArray)(Z:1<=nd op)(x y:List Int)(p:vl x=true)(O:vl y=true):CW (cxT oG) 53 [sV op,L x,L y]=some (.tup [.own 1 ((raR op x y).map iV),bV (mkR op x y).isSome],[]):=by
 have N:=(P7.1 p).1;have P:=(P7.1 O).1;have d:=a2i p;have j:=a2i O;have a1:=Q6 x;refine C5 U Tryz.func53 U ⟨by kernel_rfl,U,dT U,dT U,by decide⟩ c7w<|A3<|A0 ?_
 (refine B1 U U (fun _=>U) ?_;intro g6)
 refine y_S U<|xN [0,1,2] [] U<|A3<|A0<|C0 (es:=ZA iV []) U U (dT U) U U (fun _=>B5 (A7 fun _=>U)) (fun _=>U) ?_
 intro g15
 (refine xO U U (by simp) U (fun _=>U) (fun _=>U) ?_;intro g8)
 refine xN [0,1,2,8] [8] U<|V2<|A3<|A0<|y_M U<|xN [1,2,8,16] [8] U ?_
 refine Y9 (β:=List Int×Nat×Nat) [] trivial (fun(z:List Int×Nat×Nat)=>match z with|(r,n,g)=>[(.h 8,.obj g 0 1 (r.map iV)),(.t 8,.sl 8 g none 0 n)]) (fun(z:List Int×Nat×Nat)=>match z with|(r,n,g)=>X6 op x y=some r/\n=r.length/\r.length<=80) ?_ ?_
 ·skip
  refine A8<|A3<|A0<|J3 U U<|y_S U<|xN [1,2,8,16,17] [8] U ?_
  refine A4 U ?_ ?_<;>intro a<;>try simp only[SL]at a
  ·try simp at a
   refine A0<|y_M U ?_
   apply xC U
   ·apply B0
    ·exact B2 U
    exact C8
   ·exact c4z x (by omega)
   refine⟨⟨U,U,U,dT U,U⟩,.inl U,B6,G6,fun _=>U,fun g20=> ?_⟩;simp only[Zh]
   (refine xO U U (by simp) U (fun _=>U) (fun _=>U) ?_;intro g8)
   refine xN [8] [8] U ?_;refine⟨(_,_,_),?_,⟨U,U,trivial⟩⟩;exact⟨(by(simp[X6, *];done)),(by(simp;done)),(by(simp;omega))⟩
  try simp at a
  refine A3<|A0<|J3 U U<|y_S U<|xN [1,2,8,16,21] [8] U ?_
  refine A4 U ?_ ?_<;>intro a<;>try simp only[SL]at a
  ·try simp at a
   refine A0<|y_M U ?_
   apply xC U
   ·apply B0
    ·exact B2 U
    exact C8
   ·exact e4a x (by omega)
   refine⟨⟨U,U,U,dT U,U⟩,.inl U,B6,G6,fun _=>U,fun g24=> ?_⟩;simp only[Zh]
   (refine xO U U (by simp) U (fun _=>U) (fun _=>U) ?_;intro g8)
   refine xN [8] [8] U ?_;refine⟨(_,_,_),?_,⟨U,U,trivial⟩⟩;exact⟨(by(simp[X6, *];done)),(by(simp;done)),(by(simp;omega))⟩
  try simp at a
  refine A3<|A0<|J3 U U<|y_S U<|xN [1,2,8,16,25] [8] U ?_
  refine A4 U ?_ ?_<;>intro a<;>try simp only[SL]at a
  ·try simp at a
   refine A3<|A0<|y_S U<|xN [1,8,9] [8] U<|A8<|D7 (β:=Nat×List Int×Nat) [(.t 1,_)] (fun(z:Nat×List Int×Nat)=>match z with|(i,l,g)=>[(.t 9,iV i),(.h 8,.obj g 0 1 (l.map iV)),(.t 8,.sl 8 g none 0 l.length)]) (fun(z:Nat×List Int×Nat)=>match z with|(i,l,g)=>i<=x.length/\l=(Yb i).map (fun i=> -(J2 x i))) (fun(z:Nat×List Int×Nat)=>match z with|(i,l,g)=>x.length-i) (0,[],_) ⟨U,U,U,U,trivial⟩ ⟨Zt _,U⟩ ?_
   intro z c;obtain⟨i,l,g⟩:=z
   try dsimp only at c
   obtain⟨k,b⟩:=c;have m:l.length=i:=by rw[b];simp
   have f: -100000<=x.getD i default/\x.getD i default<=100000:=d i;have e: -100000<=y.getD i default/\y.getD i default<=100000:=j i;refine A3<|A3<|A0<|y_M U<|y_M U<|B7 U U<|F0 U U<|xN [1,8,9,30] [8] U ?_
   refine A4 U ?_ ?_<;>intro a<;>try simp only[SL]at a
   ·refine A6<|A3<|A8<|A0<|y_M U<|y_M U<|y_M U<|B4 U U U (fun _=>U) (by omega)<|y_I U<|a4s U (B9 (by omega))<|C0 (es:=ZA iV [_]) U U (dT U) U U (fun _=>B5 (A7 fun _=>U)) (fun _=>U) ?_
    intro Q;refine xA U U U U (by simp) (by simp) U U U U U (fun _=>U) (by simp only[LN];omega) (fun _=>U) ?_;intro R
    (refine xO U U (by simp) U (fun _=>U) (fun _=>U) ?_;intro g8)
    refine xN [1,8,9] [8] U<|A0<|y_M U<|D6 U U (B9 (by omega))<|y_S U<|xN [1,8,9] [8] U ?_
    refine⟨(i+1,l++[-(x.getD i default)],_),?_,(by simp only;omega),⟨U,U,U,U,trivial⟩⟩;exact⟨by omega,by rw[b,Y6];rfl⟩
   refine D5 ?_;refine⟨(_,_,_),?_,⟨U,U,trivial⟩⟩;exact⟨apF (show l=x.map (fun v=> -v) by rw[b,show i=x.length by omega];exact b0x x fun v=> -v) (by simp[X6, *]),by omega,by omega⟩
  try simp at a
  refine A3<|A0<|J3 U U<|y_S U<|xN [1,2,8,16,41] [8] U ?_
  refine A4 U ?_ ?_<;>intro a<;>try simp only[SL]at a
  ·try simp at a
   refine A3<|A0<|y_S U<|xN [1,8,10] [8] U<|A8<|D7 (β:=Nat×List Int×Nat) [(.t 1,_)] (fun(z:Nat×List Int×Nat)=>match z with|(i,l,g)=>[(.t 10,iV i),(.h 8,.obj g 0 1 (l.map iV)),(.t 8,.sl 8 g none 0 l.length)]) (fun(z:Nat×List Int×Nat)=>match z with|(i,l,g)=>i<=x.length/\l=(Yb i).map (fun i=>max (J2 x i) (-(J2 x i)))) (fun(z:Nat×List Int×Nat)=>match z with|(i,l,g)=>x.length-i) (0,[],_) ⟨U,U,U,U,trivial⟩ ⟨Zt _,U⟩ ?_
   intro z c;obtain⟨i,l,g⟩:=z
   try dsimp only at c
   obtain⟨k,b⟩:=c;have m:l.length=i:=by rw[b];simp
   have f: -100000<=x.getD i default/\x.getD i default<=100000:=d i;have e: -100000<=y.getD i default/\y.getD i default<=100000:=j i;refine A3<|A3<|A0<|y_M U<|y_M U<|B7 U U<|F0 U U<|xN [1,8,10,46] [8] U ?_
   refine A4 U ?_ ?_<;>intro a<;>try simp only[SL]at a
   ·refine A6<|A3<|A8<|A0<|y_M U<|y_M U<|y_M U<|B4 U U U (fun _=>U) (by omega)<|y_I U<|y_M U<|y_M U<|B4 U U U (fun _=>U) (by omega)<|y_I U<|a4s U (B9 (by omega))<|c4w U U<|C0 (es:=ZA iV [_]) U U (dT U) U U (fun _=>B5 (A7 fun _=>U)) (fun _=>U) ?_
    intro S;refine xA U U U U (by simp) (by simp) U U U U U (fun _=>U) (by simp only[LN];omega) (fun _=>U) ?_;intro T
    (refine xO U U (by simp) U (fun _=>U) (fun _=>U) ?_;intro g8)
    refine G7 ⟨fun _=>⟨by decide+kernel,by decide+kernel⟩,[(.t 1,_),(.t 8,_),(.t 10,_),(.h 8,_)],⟨U,U,U,U,U,U,U,U,trivial⟩,?_⟩;refine A0<|y_M U<|D6 U U (B9 (by omega))<|y_S U<|xN [1,8,10] [8] U ?_
    refine⟨(i+1,l++[max (x.getD i default) (-(x.getD i default))],_),?_,(by simp only;omega),⟨U,U,U,U,trivial⟩⟩;exact⟨by omega,by rw[b,Y6];rfl⟩
   refine D5 ?_;refine⟨(_,_,_),?_,⟨U,U,trivial⟩⟩;exact⟨apF (show l=x.map (fun v=>max v (-v)) by rw[b,show i=x.length by omega];exact b0x x fun v=>max v (-v)) (by simp[X6, *]),by omega,by omega⟩
  try simp at a
  refine A3<|A0<|J3 U U<|y_S U<|xN [1,2,8,16,62] [8] U ?_
  refine A4 U ?_ ?_<;>intro a<;>try simp only[SL]at a
  ·try simp at a
   refine A3<|A0<|y_S U<|xN [1,8,11] [8] U<|A8<|D7 (β:=Nat×List Int×Nat) [(.t 1,_)] (fun(z:Nat×List Int×Nat)=>match z with|(i,l,g)=>[(.t 11,iV i),(.h 8,.obj g 0 1 (l.map iV)),(.t 8,.sl 8 g none 0 l.length)]) (fun(z:Nat×List Int×Nat)=>match z with|(i,l,g)=>i<=x.length/\l=(Yb i).map (fun i=>if i=0 then J2 x 0 else J2 x i-J2 x (i-1))) (fun(z:Nat×List Int×Nat)=>match z with|(i,l,g)=>x.length-i) (0,[],_) ⟨U,U,U,U,trivial⟩ ⟨Zt _,U⟩ ?_
   intro z c;obtain⟨i,l,g⟩:=z
   try dsimp only at c
   obtain⟨k,b⟩:=c;have m:l.length=i:=by rw[b];simp
   have f: -100000<=x.getD i default/\x.getD i default<=100000:=d i;have e: -100000<=y.getD i default/\y.getD i default<=100000:=j i;refine A3<|A3<|A0<|y_M U<|y_M U<|B7 U U<|F0 U U<|xN [1,8,11,67] [8] U ?_
   refine A4 U ?_ ?_<;>intro a<;>try simp only[SL]at a
   ·refine A6<|A3<|A8<|A3<|A0<|y_M U<|M9 U U<|xN [1,8,11,71] [8] U ?_
    refine A4 U ?_ ?_<;>intro a<;>try simp only[SL]at a
    ·refine A0<|y_M U<|y_M U<|B4 U U U (fun _=>U) (by(change 0<_;omega))<|y_I U<|C0 (es:=ZA iV [_]) U U (dT U) U U (fun _=>B5 (A7 fun _=>U)) (fun _=>U) ?_
     intro V;refine xA U U U U (by simp) (by simp) U U U U U (fun _=>U) (by simp only[LN];omega) (fun _=>U) ?_;intro W
     (refine xO U U (by simp) U (fun _=>U) (fun _=>U) ?_;intro g8)
     refine xN [1,8,11] [8] U<|A0<|y_M U<|D6 U U (B9 (by omega))<|y_S U<|xN [1,8,11] [8] U ?_
     refine⟨(i+1,l++[x.getD 0 default],_),?_,(by simp only;omega),⟨U,U,U,U,trivial⟩⟩;exact⟨by omega,by rw[b,Y6,if_pos (by omega)];rfl⟩
    refine A0<|y_M U<|y_M U<|y_M U<|B4 U U U (fun _=>U) (by omega)<|y_I U<|y_M U<|y_M U<|J8 U U (B9 (by omega)) ?_
    rw[show((i:Int)-1)=((i-1:Nat):Int) by omega];have K: -100000<=x.getD (i-1) default/\x.getD (i-1) default<=100000:=d (i-1);refine B4 U U U (fun _=>U) (by omega)<|y_I U<|J8 U U (B9 (by omega))<|C0 (es:=ZA iV [_]) U U (dT U) U U (fun _=>B5 (A7 fun _=>U)) (fun _=>U) ?_
    intro X;refine xA U U U U (by simp) (by simp) U U U U U (fun _=>U) (by simp only[LN];omega) (fun _=>U) ?_;intro Y
    (refine xO U U (by simp) U (fun _=>U) (fun _=>U) ?_;intro g8)
    refine G7 ⟨fun _=>⟨by decide+kernel,by decide+kernel⟩,[(.t 1,_),(.t 8,_),(.t 11,_),(.h 8,_)],⟨U,U,U,U,U,U,U,U,trivial⟩,?_⟩;refine A0<|y_M U<|D6 U U (B9 (by omega))<|y_S U<|xN [1,8,11] [8] U ?_
    refine⟨(i+1,l++[x.getD i default-x.getD (i-1) default],_),?_,(by simp only;omega),⟨U,U,U,U,trivial⟩⟩;exact⟨by omega,by rw[b,Y6,if_neg (by omega)];rfl⟩
   refine D5 ?_;refine⟨(_,_,_),?_,⟨U,U,trivial⟩⟩;exact⟨apF (show l=dfI x by rw[b,show i=x.length by omega];rfl) (by simp[X6, *]),by omega,by omega⟩
  try simp at a
  refine A3<|A0<|J3 U U<|y_S U<|xN [1,2,8,16,91] [8] U ?_
  refine A4 U ?_ ?_<;>intro a<;>try simp only[SL]at a
  ·try simp at a
   refine A3<|A0<|y_S U<|xN [1,8,12] [8] U<|A3<|A0<|y_S U<|xN [1,8,12,13] [8] U<|A8<|D7 (β:=Nat×Int×List Int×Nat) [(.t 1,_)] (fun(z:Nat×Int×List Int×Nat)=>match z with|(i,s,l,g)=>[(.t 13,iV i),(.t 12,iV s),(.h 8,.obj g 0 1 (l.map iV)),(.t 8,.sl 8 g none 0 l.length)]) (fun(z:Nat×Int×List Int×Nat)=>match z with|(i,s,l,g)=>i<=x.length/\s=prS (J2 x) i/\l=(Yb i).map fun i=>prS (J2 x) (i+1)) (fun(z:Nat×Int×List Int×Nat)=>match z with|(i,s,l,g)=>x.length-i) (0,0,[],_) ⟨U,U,U,U,U,trivial⟩ ⟨Zt _,U,U⟩ ?_
   intro z c;obtain⟨i,s,l,g⟩:=z
   try dsimp only at c
   obtain⟨k,q,b⟩:=c;have m:l.length=i:=by rw[b];simp
   have f: -100000<=x.getD i default/\x.getD i default<=100000:=d i;have u:=d4u p i;rw[<-q]at u;refine A3<|A3<|A0<|y_M U<|y_M U<|B7 U U<|F0 U U<|xN [1,8,12,13,96] [8] U ?_
   refine A4 U ?_ ?_<;>intro a<;>try simp only[SL]at a
   ·refine A6<|A3<|A8<|A3<|A0<|y_M U<|y_M U<|y_M U<|B4 U U U (fun _=>U) (by omega)<|y_I U<|D6 U U (B9 (by omega))<|y_S U<|xN [1,8,12,13] [8] U<|A0<|y_M U<|y_M U<|C0 (es:=ZA iV [_]) U U (dT U) U U (fun _=>B5 (A7 fun _=>U)) (fun _=>U) ?_
    intro w;refine xA U U U U (by simp) (by simp) U U U U U (fun _=>U) (by simp only[LN];omega) (fun _=>U) ?_;intro A
    (refine xO U U (by simp) U (fun _=>U) (fun _=>U) ?_;intro g8)
    refine xN [1,8,12,13] [8] U<|A0<|y_M U<|D6 U U (B9 (by omega))<|y_S U<|xN [1,8,12,13] [8] U ?_
    refine⟨(i+1,s+x.getD i default,l++[s+x.getD i default],_),?_,(by simp only;omega),⟨U,U,U,U,U,trivial⟩⟩;exact⟨by omega,by rw[prS,q];rfl,by rw[b,Y6,prS,q];rfl⟩
   refine D5 ?_;refine⟨(_,_,_),?_,⟨U,U,trivial⟩⟩;exact⟨apF (show l=smI x by rw[b,show i=x.length by omega];rfl) (by simp[X6, *]),by omega,by omega⟩
  try simp at a
  refine A3<|A0<|J3 U U<|y_S U<|xN [1,2,8,16,109] [8] U ?_
  refine A4 U ?_ ?_<;>intro a<;>try simp only[SL]at a
  ·try simp at a
   refine A0<|y_M U ?_
   apply xC U
   ·apply B0
    ·exact B2 U
    exact C8
   ·exact e8q x p
   refine⟨⟨U,U,U,dT U,U⟩,.inl U,B6,G6,fun _=>U,fun B=> ?_⟩;simp only[Zh]
   (refine xO U U (by simp) U (fun _=>U) (fun _=>U) ?_;intro g8)
   refine xN [8] [8] U ?_;refine⟨(_,_,_),?_,⟨U,U,trivial⟩⟩;exact⟨(by(simp[X6,rkI, *];done)),(by(simp[dfI,smI,rkI,adI];done)),(by(simp;omega))⟩
  try simp at a
  refine A3<|A0<|J3 U U<|y_S U<|xN [1,2,8,16,113] [8] U ?_
  refine A4 U ?_ ?_<;>intro a<;>try simp only[SL]at a
  ·try simp at a
   refine A0<|y_M U<|y_M U ?_
   refine xC1 U U (e8s x p) ⟨U,U,U⟩ U U fun C=> ?_
   refine C0 (es:=ZA iV [_]) U U (dT U) U U (fun _=>B5 (A7 fun _=>U)) (fun _=>U) ?_;intro D;refine xA U U U U (by simp) (by simp) U U U U U (fun _=>U) (by simp only[LN];omega) (fun _=>U) ?_;intro E
   (refine xO U U (by simp) U (fun _=>U) (fun _=>U) ?_;intro g8)
   refine xN [8] [8] U ?_;refine⟨(_,_,_),?_,⟨U,U,trivial⟩⟩;exact⟨(by(simp[X6, *];done)),(by(simp;done)),(by(simp;done))⟩
  try simp at a
  refine A3<|A0<|J3 U U<|y_S U<|xN [1,2,8,16,120] [8] U ?_
  refine A4 U ?_ ?_<;>intro a<;>try simp only[SL]at a
  ·try simp at a
   refine A3<|A3<|A0<|y_M U<|B7 U U<|y_M U<|B7 U U<|a8f U U<|xN [1,2,8,126] [8] U ?_
   refine A4 U ?_ ?_<;>intro a<;>try simp only[SL]at a
   ·refine A3<|A0 ?_
    (refine B1 U U (fun _=>U) ?_;intro g6)
    refine y_S U<|xN [6,7] [6] U<|A9<|B8 (F9 U U (by simp) (by rfl) (C9 U U (C4 B3))) ?_
    have a0:¬x.length=y.length:=by omega
    rw[show mkR op x y=none from by simp[mkR,X6, *],show raR op x y=[]from by simp[raR,X6, *]]
    rfl
   refine A6<|A3<|A0<|y_S U<|xN [1,2,8,14] [8] U<|A8<|D7 (β:=Nat×List Int×Nat) [(.t 1,_),(.t 2,_)] (fun(z:Nat×List Int×Nat)=>match z with|(i,l,g)=>[(.t 14,iV i),(.h 8,.obj g 0 1 (l.map iV)),(.t 8,.sl 8 g none 0 l.length)]) (fun(z:Nat×List Int×Nat)=>match z with|(i,l,g)=>i<=x.length/\l=(Yb i).map (fun i=>J2 x i+J2 y i)) (fun(z:Nat×List Int×Nat)=>match z with|(i,l,g)=>x.length-i) (0,[],_) ⟨U,U,U,U,U,trivial⟩ ⟨Zt _,U⟩ ?_
   intro z c;obtain⟨i,l,g⟩:=z
   try dsimp only at c
   obtain⟨k,b⟩:=c;have m:l.length=i:=by rw[b];simp
   have f: -100000<=x.getD i default/\x.getD i default<=100000:=d i;have e: -100000<=y.getD i default/\y.getD i default<=100000:=j i;refine A3<|A3<|A0<|y_M U<|y_M U<|B7 U U<|F0 U U<|xN [1,2,8,14,130] [8] U ?_
   refine A4 U ?_ ?_<;>intro a<;>try simp only[SL]at a
   ·refine A6<|A3<|A8<|A0<|y_M U<|y_M U<|y_M U<|B4 U U U (fun _=>U) (by omega)<|y_I U<|y_M U<|y_M U<|B4 U U U (fun _=>U) (by omega)<|y_I U<|D6 U U (B9 (by omega))<|C0 (es:=ZA iV [_]) U U (dT U) U U (fun _=>B5 (A7 fun _=>U)) (fun _=>U) ?_
    intro F;refine xA U U U U (by simp) (by simp) U U U U U (fun _=>U) (by simp only[LN];omega) (fun _=>U) ?_;intro G
    (refine xO U U (by simp) U (fun _=>U) (fun _=>U) ?_;intro g8)
    refine G7 ⟨fun _=>⟨by decide+kernel,by decide+kernel⟩,[(.t 1,_),(.t 2,_),(.t 8,_),(.t 14,_),(.h 8,_)],⟨U,U,U,U,U,U,U,U,U,U,trivial⟩,?_⟩;refine A0<|y_M U<|D6 U U (B9 (by omega))<|y_S U<|xN [1,2,8,14] [8] U ?_
    refine⟨(i+1,l++[x.getD i default+y.getD i default],_),?_,(by simp only;omega),⟨U,U,U,U,U,trivial⟩⟩;exact⟨by omega,by rw[b,Y6];rfl⟩
   refine D5 ?_;refine⟨(_,_,_),?_,⟨U,U,trivial⟩⟩;exact⟨adF (by assumption) (by omega) (by rw[b,show i=x.length by omega];rfl) U,by omega,by omega⟩
  try simp at a
  refine A3<|A0<|J3 U U<|y_S U<|xN [1,2,8,145] [8] U ?_
  refine A4 U ?_ ?_<;>intro a<;>try simp only[SL]at a
  ·try simp at a
   refine A0<|y_M U<|y_M U<|P2 U U U (by(simp;done)) U U U (dT U) (fun _=>⟨U,U,U⟩) (by simp only[H6];(simp only[Zs,Zg,Zl,ZI,Zh];omega)) (fun _=>U) ?_
   intro H;refine y_M U<|P2 U U U (by(simp;done)) U U U (dT U) (fun _=>⟨U,U,U⟩) (by simp only[H6];(simp only[Zs,Zg,Zl,ZI,Zh];omega)) (fun _=>U) ?_
   intro I
   (refine xO U U (by simp) U (fun _=>U) (fun _=>U) ?_;intro g8)
   refine xN [8] [8] U ?_;refine⟨(_,_,_),?_,⟨U,U,trivial⟩⟩;exact⟨(by(simp[X6, *];done)),(by(simp;done)),(by(simp;omega))⟩
  try simp at a
  refine A6 ?_;refine⟨(_,_,_),?_,⟨U,U,trivial⟩⟩;exact absurd (e6l Z) (by simp[*])
 intro z c;obtain⟨r,n,g⟩:=z
 try dsimp only at c
 obtain⟨o,hn,M⟩:=c;subst hn;refine A3<|A0<|y_M U<|y_M U ?_
 apply xC U
 ·apply B0
  ·exact E6 U U U (by(simp;done)) (fun _=>U)
  exact C8
 ·exact d0q r (by omega)
 refine⟨⟨U,U,U,dT U,U⟩,.inr ⟨U,U⟩,B6,F7 U,fun _=>U,fun J=> ?_⟩
 (refine xO U U (by simp) U (fun _=>U) (fun _=>U) ?_;intro g6)
 refine y_S U<|xN [6,7] [6] U<|A9<|B8 (F9 U U (by simp) (by exact A7 fun _=>U) (C9 U U (C4 B3))) ?_
 rw[raR,mkR,o,Zk,Option.getD_some];cases a2:vl r<;>rfl
theorem c2e:D8 Tryz.f102=[0,1,2,6,9,7,19]:=by kernel_rfl
theorem e3d(a:List Int)(d:a.length<=1048576)(b:List (List Int)):CW (cxT oG) 102 [sV wList,L a,M b]=some (.own 1 (a.map iV),[]):=by
 refine C5 U Tryz.func102 U ⟨by kernel_rfl,U,dT U,dT U,by decide⟩ c2e<|A3<|A0 ?_
 (refine B1 U U (fun _=>U) ?_;intro g6)
 refine xN [0,1,2] [] U<|A3<|A3<|A0<|y_M U<|e9v (t:=true) U U (by decide+kernel)<|xN [0,1,2,9] [] U ?_
 refine A4 U (fun c=> ?_) (fun c=> ?_)
 ·try simp only[SL]at c
  refine A3<|A0<|y_M U ?_
  apply xC U
  ·apply B0
   ·exact B2 U
   exact C8
  ·exact e0d a d
  refine⟨⟨U,U,U,dT U,U⟩,.inl U,B6,G6,fun _=>U,fun g11=> ?_⟩;simp only[Zh]
  (refine xO U U (by simp) U (fun _=>U) (fun _=>U) ?_;intro g6)
  refine xN [6] [6] U<|A9<|I6 U U (by simp) (by exact A7 fun _=>U) trivial ?_
  rfl
 try simp only[SD]at c
 exact absurd c (by decide)
theorem d4y:D8 Tryz.f75=[0,1,4,5,2,14,24,23,25,22,8,10,35,9,6]:=by kernel_rfl
theorem d8c(t:Pl)(g:t.good)(e:t.wf)(b:List (List Int))(n:vcs b=true)(B:b.length<=1048576)(C:∀c∈b,c.length<=1048576):CW (cxT oG) 75 [trK t,M b]=some (.tup [.own 1 (((runP b t).getD []).map iV),bV (runP b t).isSome],[]):=by
 obtain⟨z,m⟩:∃z:Nat,t.sz<z:=⟨_,ZK _⟩;revert t
 induction z with
 |zero=>intro t g e m;exact absurd m (Yy _)
 |succ z H=>
  intro t g e m;refine C5 U Tryz.func75 U ⟨by kernel_rfl,U,dT U,dT U,by decide⟩ d4y<|A3<|A0 ?_
  rcases t with ns|w|⟨w,p⟩|⟨w,p,q⟩
  ·rw[b7w]
   have L:=a4j (show vd ns=true from g);refine P3 U U U (fun _=>I8 U) (fun _=>U) ?_;intro g2
   (refine B1 U U (fun _=>U) ?_;intro g4)
   refine y_S U<|xN [1,2] [2] U<|A3<|A3<|A0<|y_F U<|y_L U<|B7 U U<|M9 U U<|xN [1,2,14] [2] U ?_
   refine A4 U (fun d=> ?_) (fun d=>absurd d (by decide));refine A3<|A0<|y_F U<|y_L U<|y_F U<|y_L U<|y_M U ?_
   apply xC U
   ·apply B0
    ·exact B2 U
    apply B0
    ·exact B2 U
    apply B0
    ·exact B2 U
    exact C8
   ·exact e3d ns (by omega) b
   refine⟨⟨U,U,U,dT U,U⟩,.inl U,B6,G6,fun _=>U,fun g20=> ?_⟩;simp only[Zh]
   (refine xO U U (by simp) U (fun _=>U) (fun _=>U) ?_;intro g4)
   refine y_S U<|xN [4,5] [4] U<|A9<|B8 (F9 U U (by simp) (by exact A7 fun _=>U) (C9 U U (C4 B3))) ?_
   rfl
  ·rw[b7y]
   have F:rch (bA w)=0:=e;obtain⟨⟨k,J,I⟩,-⟩:=e1a F;have D:=e2h J;refine P3 U U U (fun _=>I8 U) (fun _=>U) ?_;intro g2
   (refine B1 U U (fun _=>U) ?_;intro g4)
   refine y_S U<|xN [1,2] [2] U<|A3<|A3<|A0<|y_F U<|y_L U<|B7 U U<|M9 U U<|xN [1,2,14] [2] U ?_
   refine A4 U (fun d=> ?_) (fun d=>absurd d (by decide));refine A3<|A0<|y_F U<|y_L U<|y_F U<|y_L U<|y_M U ?_
   apply xC U
   ·apply B0
    ·exact B2 U
    apply B0
    ·exact B2 U
    apply B0
    ·exact B2 U
    exact C8
   ·exact(by have i:=e7j (oG:=oG) k J [] b B C;rw[<-I]at i;exact i)
   refine⟨⟨U,U,U,dT U,U⟩,.inl U,B6,G6,fun _=>U,fun g20=> ?_⟩;simp only[Zh]
   (refine xO U U (by simp) U (fun _=>U) (fun _=>U) ?_;intro g4)
   refine y_S U<|xN [4,5] [4] U<|A9<|B8 (F9 U U (by simp) (by exact A7 fun _=>U) (C9 U U (C4 B3))) ?_
   rw[runP,I,D]
   rfl
  ·rw[c9l]
   have v:(Pl.un w p).sz=p.sz+1:=rfl;have K:nd (bA w)=1:=(S3 (by have h:=e.1;omega)).trans e.1;refine P3 U U U (fun _=>I8 U) (fun _=>U) ?_;intro g2
   (refine B1 U U (fun _=>U) ?_;intro g4)
   refine y_S U<|xN [1,2] [2] U<|A3<|A3<|A0<|y_F U<|y_L U<|B7 U U<|M9 U U<|xN [1,2,14] [2] U ?_
   refine A4 U (fun d=>absurd d (by exact fun h=>ZH (show false=true from h))) (fun d=> ?_);refine A6<|A3<|A0 ?_
   (refine B1 U U (fun _=>U) ?_;intro g6)
   refine xN [1,2,6] [2,6] U<|A3<|A3<|A0<|y_F U<|y_L U<|B7 U U<|y_M U<|xN [1,2,6,22,23,24] [2,6] U<|A8<|H3<|A3<|A0<|F0 U U<|xN [1,2,6,22,23,24,25] [2,6] U<|A3 ?_
   refine A4 U (fun d=> ?_) (fun d=>absurd d (by exact fun h=>ZH (show true=false from h)));refine A6<|A3<|A8<|A3<|A0<|J1 U U U (fun _=>U) (by show(0:Int)<=0/\(0:Int)<((1:Nat):Int);omega)<|y_I U<|y_A U (fun _=>U) ?_
   intro g8;refine xB U U U U U U U U U<|xN [1,2,6,8,22,23,24] [2,6,8] U<|A3<|A0<|y_B U<|y_M U ?_
   apply xC U
   ·apply B0
    ·exact B2 U
    apply B0
    ·exact B2 U
    exact C8
   ·exact(by have i:=H p g.2.2 e.2 (by omega);rw[<-K4]at i;exact i)
   refine⟨⟨U,U,U,dT U,U⟩,.inr ⟨H9 _ _,U⟩,B6,G9 (K5 fun _=>J0 U K6),fun _=>U,fun r=> ?_⟩;simp only[Zh];refine y_M U<|y_E U<|y_E U ?_
   (refine xO U U (by simp) U (fun _=>U) (fun _=>U) ?_;intro g9)
   refine y_S U<|xN [1,2,6,9,10,22,23,24] [2,6,9] U<|A3<|A3<|A0<|y_M U<|H5 U<|xN [1,2,6,9,22,23,24,35] [2,6,9] U ?_
   refine A4 U ?_ ?_<;>intro d<;>try simp only[SL]at d
   ·refine A3<|A0 ?_
    (refine B1 U U (fun _=>U) ?_;intro g4)
    refine y_S U<|xN [4,5] [4] U<|A9<|B8 (F9 U U (by simp) (by rfl) (C9 U U (C4 B3))) ?_
    have j:runP b p=none:=by simpa using d
    show AV.tup [.own 1 [],bV false]=_;rw[runP,j]
    rfl
   obtain⟨x,l⟩:=ZS.1 (show(runP b p).isSome=true by assumption);rw[l];have o:=a7r n (g.2.2) l;simp only[Option.getD_some];refine A6<|A0<|y_M U<|y_M U<|a8n U U (by simp) U U U (fun _=>U) ?_
   intro s;refine Q5 (f:=oI) (xs:=[]) (ys:=[x]) U U U U (by simp) (by simp) (by decide) U U U U (dT U) (fun a=>⟨U,b1y a⟩) (by simp only[H6];simp) (fun _=>U) ?_;intro u
   (refine xO U U (by simp) U (fun _=>U) (fun _=>U) ?_;intro g6)
   refine xN [1,2,6,22,23,24] [2,6] U<|A0<|D6 U U (B9 (by omega))<|y_M U<|xN [1,2,6,22,23,24] [2,6] U<|H3<|A3<|A0<|F0 U U<|xN [1,2,6,22,23,24,25] [2,6] U<|A3 ?_
   refine A4 U (fun d=>absurd d (by exact fun h=>ZH (show false=true from h))) (fun d=> ?_);refine D5<|A3<|A0<|y_F U<|y_L U<|y_M U ?_
   apply xC U
   ·apply B0
    ·exact B2 U
    apply B0
    ·exact b1j U U U (by(simp;done))
    exact C8
   ·exact d3h (bA w) (by omega) x [] o d9p [x] (by simp) (by(intro h;omega)) U (by(intro _;rfl))
   refine⟨⟨U,U,U,dT U,U⟩,.inr ⟨H9 _ _,U⟩,B6,G9 (K5 fun _=>J0 U K6),fun _=>U,fun A=> ?_⟩;simp only[Zh];refine y_E U<|y_E U ?_
   (refine xO U U (by simp) U (fun _=>U) (fun _=>U) ?_;intro g4)
   refine y_S U<|xN [4,5] [4] U<|A9<|B8 (F9 U U (by simp) (by exact A7 fun _=>U) (C9 U U (C4 B3))) ?_
   rw[runP,l,Zk]
   rfl
  rw[b7o];have v:(Pl.bin w p q).sz=p.sz+q.sz+1:=rfl;have K:nd (bA w)=2:=(S3 (by have h:=e.1;omega)).trans e.1;refine P3 U U U (fun _=>I8 U) (fun _=>U) ?_;intro g2
  (refine B1 U U (fun _=>U) ?_;intro g4)
  refine y_S U<|xN [1,2] [2] U<|A3<|A3<|A0<|y_F U<|y_L U<|B7 U U<|M9 U U<|xN [1,2,14] [2] U ?_
  refine A4 U (fun d=>absurd d (by exact fun h=>ZH (show false=true from h))) (fun d=> ?_);refine A6<|A3<|A0 ?_
  (refine B1 U U (fun _=>U) ?_;intro g6)
  refine xN [1,2,6] [2,6] U<|A3<|A3<|A0<|y_F U<|y_L U<|B7 U U<|y_M U<|xN [1,2,6,22,23,24] [2,6] U<|A8<|H3<|A3<|A0<|F0 U U<|xN [1,2,6,22,23,24,25] [2,6] U<|A3 ?_
  refine A4 U (fun d=> ?_) (fun d=>absurd d (by exact fun h=>ZH (show true=false from h)));refine A6<|A3<|A8<|A3<|A0<|J1 U U U (fun _=>U) (by show(0:Int)<=0/\(0:Int)<((2:Nat):Int);omega)<|y_I U<|y_A U (fun _=>U) ?_
  intro g8;refine xB U U U U U U U U U<|xN [1,2,6,8,22,23,24] [2,6,8] U<|A3<|A0<|y_B U<|y_M U ?_
  apply xC U
  ·apply B0
   ·exact B2 U
   apply B0
   ·exact B2 U
   exact C8
  ·exact(by have i:=H p g.2.2.1 e.2.1 (by omega);rw[<-K4]at i;exact i)
  refine⟨⟨U,U,U,dT U,U⟩,.inr ⟨H9 _ _,U⟩,B6,G9 (K5 fun _=>J0 U K6),fun _=>U,fun r=> ?_⟩;simp only[Zh];refine y_M U<|y_E U<|y_E U ?_
  (refine xO U U (by simp) U (fun _=>U) (fun _=>U) ?_;intro g9)
  refine y_S U<|xN [1,2,6,9,10,22,23,24] [2,6,9] U<|A3<|A3<|A0<|y_M U<|H5 U<|xN [1,2,6,9,22,23,24,35] [2,6,9] U ?_
  refine A4 U ?_ ?_<;>intro d<;>try simp only[SL]at d
  ·refine A3<|A0 ?_
   (refine B1 U U (fun _=>U) ?_;intro g4)
   refine y_S U<|xN [4,5] [4] U<|A9<|B8 (F9 U U (by simp) (by rfl) (C9 U U (C4 B3))) ?_
   have j:runP b p=none:=by simpa using d
   show AV.tup [.own 1 [],bV false]=_;rw[runP,j]
   rfl
  obtain⟨x,l⟩:=ZS.1 (show(runP b p).isSome=true by assumption);rw[l];have o:=a7r n (g.2.2.1) l;simp only[Option.getD_some];refine A6<|A0<|y_M U<|y_M U<|a8n U U (by simp) U U U (fun _=>U) ?_
  intro s;refine Q5 (f:=oI) (xs:=[]) (ys:=[x]) U U U U (by simp) (by simp) (by decide) U U U U (dT U) (fun a=>⟨U,b1y a⟩) (by simp only[H6];simp) (fun _=>U) ?_;intro u
  (refine xO U U (by simp) U (fun _=>U) (fun _=>U) ?_;intro g6)
  refine xN [1,2,6,22,23,24] [2,6] U<|A0<|D6 U U (B9 (by omega))<|y_M U<|xN [1,2,6,22,23,24] [2,6] U<|H3<|A3<|A0<|F0 U U<|xN [1,2,6,22,23,24,25] [2,6] U<|A3 ?_
  refine A4 U (fun d=> ?_) (fun d=>absurd d (by exact fun h=>ZH (show true=false from h)));refine A6<|A3<|A8<|A3<|A0<|J1 U U U (fun _=>U) (by show(0:Int)<=1/\(1:Int)<((2:Nat):Int);omega)<|y_I U<|y_A U (fun _=>U) ?_
  intro g8;refine xB U U U U U U U U U<|xN [1,2,6,8,22,23,24] [2,6,8] U<|A3<|A0<|y_B U<|y_M U ?_
  apply xC U
  ·apply B0
   ·exact B2 U
   apply B0
   ·exact B2 U
   exact C8
  ·exact(by have i:=H q g.2.2.2 e.2.2 (by omega);rw[<-K4]at i;exact i)
  refine⟨⟨U,U,U,dT U,U⟩,.inr ⟨H9 _ _,U⟩,B6,G9 (K5 fun _=>J0 U K6),fun _=>U,fun r=> ?_⟩;simp only[Zh];refine y_M U<|y_E U<|y_E U ?_
  (refine xO U U (by simp) U (fun _=>U) (fun _=>U) ?_;intro g9)
  refine y_S U<|xN [1,2,6,9,10,22,23,24] [2,6,9] U<|A3<|A3<|A0<|y_M U<|H5 U<|xN [1,2,6,9,22,23,24,35] [2,6,9] U ?_
  refine A4 U ?_ ?_<;>intro d<;>try simp only[SL]at d
  ·refine A3<|A0 ?_
   (refine B1 U U (fun _=>U) ?_;intro g4)
   refine y_S U<|xN [4,5] [4] U<|A9<|B8 (F9 U U (by simp) (by rfl) (C9 U U (C4 B3))) ?_
   have j:runP b q=none:=by simpa using d
   show AV.tup [.own 1 [],bV false]=_;rw[runP,l,Zk,j]
   rfl
  obtain⟨y,G⟩:=ZS.1 (show(runP b q).isSome=true by assumption);rw[G];have E:=a7r n (g.2.2.2) G;simp only[Option.getD_some];refine A6<|A0<|y_M U<|y_M U<|a8n U U (by simp) U U U (fun _=>U) ?_
  intro s;refine Q5 (f:=oI) (xs:=[x]) (ys:=[y]) U U U U (by simp) (by simp) (by decide) U U U U (dT U) (fun a=>⟨U,b1y a⟩) (by simp only[H6];simp) (fun _=>U) ?_;intro u
  (refine xO U U (by simp) U (fun _=>U) (fun _=>U) ?_;intro g6)
  refine xN [1,2,6,22,23,24] [2,6] U<|A0<|D6 U U (B9 (by omega))<|y_M U<|xN [1,2,6,22,23,24] [2,6] U<|H3<|A3<|A0<|F0 U U<|xN [1,2,6,22,23,24,25] [2,6] U<|A3 ?_
  refine A4 U (fun d=>absurd d (by exact fun h=>ZH (show false=true from h))) (fun d=> ?_);refine D5<|A3<|A0<|y_F U<|y_L U<|y_M U ?_
  apply xC U
  ·apply B0
   ·exact B2 U
   apply B0
   ·exact b1j U U U (by(simp;done))
   exact C8
  ·exact d3h (bA w) (by omega) x y o E [x,y] (by simp) (by(intro h;simp;done)) U (by(intro _;rfl))
  refine⟨⟨U,U,U,dT U,U⟩,.inr ⟨H9 _ _,U⟩,B6,G9 (K5 fun _=>J0 U K6),fun _=>U,fun A=> ?_⟩;simp only[Zh];refine y_E U<|y_E U ?_
  (refine xO U U (by simp) U (fun _=>U) (fun _=>U) ?_;intro g4)
  refine y_S U<|xN [4,5] [4] U<|A9<|B8 (F9 U U (by simp) (by exact A7 fun _=>U) (C9 U U (C4 B3))) ?_
  rw[runP,l,Zk,G,Zk]
  rfl
theorem c8l:D8 Tryz.f55=[0,2,1,5,20,6,4,3,46,7,51,8,9,10,73,28]:=by kernel_rfl
theorem f1n(t:Pl)(c:t.good)(b:t.wf)(x:t.sz<=1000):CW (cxT oG) 55 [trK t]=some (trV (foldP t),[]):=by
 obtain⟨A,n⟩:∃A:Nat,t.sz<A:=⟨_,ZK _⟩;revert t
 induction A with
 |zero=>intro t c b x n;exact absurd n (Yy _)
 |succ A G=>
  intro t c b x n;refine C5 U Tryz.func55 U ⟨by kernel_rfl,U,dT U,dT U,by decide⟩ c8l<|A3<|A0<|P3 U U U (fun _=>I8 U) (fun _=>U) ?_
  intro g1;rcases t with ns|w|⟨w,p⟩|⟨w,p,q⟩
  ·rw[b7w]
   refine y_A U (fun _=>U) ?_;intro g2;refine xN [1,2] [1,2] U<|A3<|A0<|C0 (es:=ZA trV []) U U (dT U) U U (fun _=>B5 (A7 fun _=>U)) (fun _=>U) ?_
   intro g11
   (refine xO U U (by simp) U (fun _=>U) (fun _=>U) ?_;intro g3)
   refine xN [1,2,3] [1,2,3] U<|A3<|A0<|y_F U<|y_L U<|B7 U U<|M0 U U<|y_S U<|xN [1,2,3,4] [1,2,3] U<|A3<|A3<|A0<|y_S U<|xN [1,2,3,4,5] [1,2,3] U<|A8<|H3<|A3<|A3<|A0<|y_M U<|y_F U<|y_L U<|B7 U U<|F0 U U<|xN [1,2,3,4,5,20] [1,2,3] U ?_
   refine A4 U (fun a=>absurd a (by decide)) (fun a=> ?_);refine D5<|A3<|A0<|y_F U<|y_L U<|y_F U<|y_L U<|y_M U<|I3 (fs:=[_,_,_]) U U U U U<|y_A U (fun _=>U) ?_
   intro g7;refine G0 U U U U (G5 U (G5 U (N2 (by decide) K1))) (fun _=>U) ⟨by decide,U,dT U,Zd _⟩ (fun _=>U) (fun _=>U) (fun _=>(by rfl)) ?_;intro z;simp only[J7,Zp,Zi];refine xN [1,2,3,4,7] [1,2,3,7] U<|A3<|A3<|A0<|y_M U<|H5 U<|xN [1,2,3,7,46] [1,2,3,7] U ?_
   refine A4 U (fun a=> ?_) (fun a=>absurd a (by decide));refine A3<|A0<|y_B U<|G0 U U U U (G5 U (G5 U (N2 (by decide) K1))) (fun _=>U) ⟨by decide,U,dT U,Zd _⟩ (fun _=>U) (fun _=>U) (fun _=>(by rfl)) ?_
   intro z;simp only[J7,Zp,Zi];refine xN [2] [2,3] U<|A9<|B8 (F3 U U U U (D9 U (D9 U (K8 U U (by simp) (fun _=>U) G8))) (C4 B3)) ?_
   rfl
  ·rw[b7y]
   refine y_A U (fun _=>U) ?_;intro g2;refine xN [1,2] [1,2] U<|A3<|A0<|C0 (es:=ZA trV []) U U (dT U) U U (fun _=>B5 (A7 fun _=>U)) (fun _=>U) ?_
   intro g11
   (refine xO U U (by simp) U (fun _=>U) (fun _=>U) ?_;intro g3)
   refine xN [1,2,3] [1,2,3] U<|A3<|A0<|y_F U<|y_L U<|B7 U U<|M0 U U<|y_S U<|xN [1,2,3,4] [1,2,3] U<|A3<|A3<|A0<|y_S U<|xN [1,2,3,4,5] [1,2,3] U<|A8<|H3<|A3<|A3<|A0<|y_M U<|y_F U<|y_L U<|B7 U U<|F0 U U<|xN [1,2,3,4,5,20] [1,2,3] U ?_
   refine A4 U (fun a=>absurd a (by decide)) (fun a=> ?_);refine D5<|A3<|A0<|y_F U<|y_L U<|y_F U<|y_L U<|y_M U<|I3 (fs:=[_,_,_]) U U U U U<|y_A U (fun _=>U) ?_
   intro g7;refine G0 U U U U (G5 U (G5 U (N2 (by decide) K1))) (fun _=>U) ⟨by decide,U,dT U,Zd _⟩ (fun _=>U) (fun _=>U) (fun _=>(by rfl)) ?_;intro z;simp only[J7,Zp,Zi];refine xN [1,2,3,4,7] [1,2,3,7] U<|A3<|A3<|A0<|y_M U<|H5 U<|xN [1,2,3,7,46] [1,2,3,7] U ?_
   refine A4 U (fun a=> ?_) (fun a=>absurd a (by decide));refine A3<|A0<|y_B U<|G0 U U U U (G5 U (G5 U (N2 (by decide) K1))) (fun _=>U) ⟨by decide,U,dT U,Zd _⟩ (fun _=>U) (fun _=>U) (fun _=>(by rfl)) ?_
   intro z;simp only[J7,Zp,Zi];refine xN [2] [2,3] U<|A9<|B8 (F3 U U U U (D9 U (D9 U (K8 U U (by simp) (fun _=>U) G8))) (C4 B3)) ?_
   rfl
  ·rw[c9l]
   have y:(Pl.un w p).sz=p.sz+1:=rfl;have H:nd (bA w)=1:=(S3 (by have h:=b.1;omega)).trans b.1;refine y_A U (fun _=>U) ?_;intro g2;refine xN [1,2] [1,2] U<|A3<|A0<|C0 (es:=ZA trV []) U U (dT U) U U (fun _=>B5 (A7 fun _=>U)) (fun _=>U) ?_
   intro g11
   (refine xO U U (by simp) U (fun _=>U) (fun _=>U) ?_;intro g3)
   refine xN [1,2,3] [1,2,3] U<|A3<|A0<|y_F U<|y_L U<|B7 U U<|M0 U U<|y_S U<|xN [1,2,3,4] [1,2,3] U<|A3<|A3<|A0<|y_S U<|xN [1,2,3,4,5] [1,2,3] U<|A8<|H3<|A3<|A3<|A0<|y_M U<|y_F U<|y_L U<|B7 U U<|F0 U U<|xN [1,2,3,4,5,20] [1,2,3] U ?_
   refine A4 U (fun a=> ?_) (fun a=>absurd a (by exact fun h=>ZH (show true=false from h)));refine A6<|A3<|A8<|A3<|A0<|y_F U<|y_L U<|y_M U<|J1 U U U (fun _=>U) (by show(0:Int)<=0/\(0:Int)<((1:Nat):Int);omega)<|y_I U ?_
   refine xC1 U U ((by have k:=G p c.2.2 b.2 (by omega) (by omega);rw[<-K4]at k;exact k)) ⟨U,U,U⟩ U U fun v=> ?_
   refine y_A U (fun _=>U) ?_;intro g6;refine xB U U U U U U U U U<|xN [1,2,3,4,5,6] [1,2,3,6] U<|A3<|A0<|y_M U<|y_M U<|H1 U U U<|y_F U<|H1 U U U<|y_L U<|H1 U U U<|H0 U U<|E9 U U U U<|y_S U<|xN [1,2,3,4,5,6] [1,2,3,6] U<|A0<|y_M U<|y_B U<|C0 (es:=ZA trV [_]) U U (dT U) U U (fun _=>B5 (A7 fun _=>U)) (fun _=>U) ?_
   intro l;refine xA U U U U (by simp) (by simp) U U U U U (fun _=>U) (by simp only[LN];omega) (fun _=>U) ?_;intro m
   (refine xO U U (by simp) U (fun _=>U) (fun _=>U) ?_;intro g3)
   refine xN [1,2,3,4,5] [1,2,3] U<|A0<|y_M U<|D6 U U (B9 (by omega))<|y_S U<|xN [1,2,3,4,5] [1,2,3] U<|H3<|A3<|A3<|A0<|y_M U<|y_F U<|y_L U<|B7 U U<|F0 U U<|xN [1,2,3,4,5,20] [1,2,3] U ?_
   refine A4 U (fun a=>absurd a (by exact fun h=>ZH (show false=true from h))) (fun a=> ?_);refine D5<|A3<|A0<|y_F U<|y_L U<|y_F U<|y_L U<|y_M U<|I3 (fs:=[_,_,_]) U U U U U<|y_A U (fun _=>U) ?_
   intro g7;refine G0 U U U U (G5 U (G5 U (N2 (by decide) K1))) (fun _=>U) ⟨by decide,U,dT U,Zd _⟩ (fun _=>U) (fun _=>U) (fun _=>(by rfl)) ?_;intro z;simp only[J7,Zp,Zi];refine xN [1,2,3,4,7] [1,2,3,7] U<|A3<|A3<|A0<|y_M U<|H5 U<|xN [1,2,3,7,46] [1,2,3,7] U ?_
   refine A4 U ?_ ?_<;>intro a<;>try simp only[SL]at a
   ·have o:∀ns,foldP p≠.lst ns:=fun ns e=>a (by rw[e];rfl)
    refine A3<|A0<|y_B U<|G0 U U U U (G5 U (G5 U (N2 (by decide) K1))) (fun _=>U) ⟨by decide,U,dT U,Zd _⟩ (fun _=>U) (fun _=>U) (fun _=>(by rfl)) ?_
    intro z;simp only[J7,Zp,Zi];refine xN [2] [2,3] U<|A9<|B8 (F3 U U U U (D9 U (D9 U (K8 U U (by simp) (fun _=>U) G8))) (C4 B3)) ?_
    rw[c5u o];show _=AV.agg [tV w,.list [],.list [trV (foldP p)]]
    rfl
   obtain⟨ms,g,s⟩:=Z3 (S2 _ c.2.2) (show(foldP p).op=lW by assumption);rw[g];refine A6<|A3<|A0<|C0 (es:=ZA iV []) U U (dT U) U U (fun _=>B5 (A7 fun _=>U)) (fun _=>U) ?_
   intro B
   (refine xO U U (by simp) U (fun _=>U) (fun _=>U) ?_;intro g8)
   refine xN [1,2,3,7,8] [1,2,3,7,8] U<|A3<|A3<|A0<|y_M U<|H2 U U<|M9 U U<|xN [1,2,3,7,8,51] [1,2,3,7,8] U ?_
   refine A4 U (fun a=>absurd a (by exact fun h=>ZH (show false=true from h))) (fun a=> ?_);refine A6<|A3<|A0<|y_F U<|y_L U<|y_M U<|C6 U U U U (by(simp;done)) (by(simp;done)) U<|y_F U<|a3s U U (by(simp;done)) (fun _=>U) U U<|y_M U ?_
   apply xC U
   ·apply B0
    ·exact B2 U
    apply B0
    ·exact B2 U
    apply B0
    ·exact E6 U U U (by(simp;done)) (fun _=>U)
    exact C8
   ·exact b7u (bA w) (by omega) ms [] (b9d s) d9p
   refine⟨⟨U,U,U,dT U,U⟩,.inr ⟨H9 _ _,U⟩,B6,G9 (K5 fun _=>J0 U K6),fun _=>U,fun C=> ?_⟩;simp only[Zh];refine y_M U<|y_E U<|y_E U ?_
   (refine xO U U (by simp) U (fun _=>U) (fun _=>U) ?_;intro g9)
   refine y_S U ?_;refine G7 ⟨fun _=>⟨by(simp only[V8,Zi,Zm,Zy,Yf,Zp];decide+kernel),by decide+kernel⟩,[(.t 2,_),(.t 7,_),(.t 9,_),(.t 10,_),(.h 2,_),(.h 7,_),(.h 3,_),(.h 9,_)],⟨U,U,U,U,U,U,U,U,U,U,U,U,U,U,U,U,trivial⟩,?_⟩;refine A3<|A3<|A0<|y_M U<|H5 U<|y_M U ?_
   refine D3 U U ?_ ?_<;>intro d<;>have j:=d<;>try simp only[SG]at j
   ·refine y_M U<|gT U U ?_
    obtain⟨r,i⟩:=ZS.1 (show(mkR (bA w) ms []).isSome=true by assumption);have f:=b8d i;have E:=(P7.1 (b2u i)).1;rw[f];apply xC U
    ·apply B0
     ·exact E6 U U U (by(simp;done)) (fun _=>U)
     exact C8
    ·exact Z2 r (by omega)
    refine⟨⟨U,U,U,dT U,U⟩,.inr ⟨U,U⟩,B6,F7 U,fun _=>U,fun D=> ?_⟩;refine gT U U<|H5 U<|E8 U (by assumption) U U<|xN [2,7,9,73] [2,7,3,9] U ?_
    refine A4 U ?_ ?_<;>intro a<;>try simp only[SL]at a
    ·refine A3<|A0<|y_B U<|G0 U U U U (G5 U (G5 U (N2 (by decide) K1))) (fun _=>U) ⟨by decide,U,dT U,Zd _⟩ (fun _=>U) (fun _=>U) (fun _=>(by rfl)) ?_
     intro z;simp only[J7,Zp,Zi];refine xN [2] [2,3] U<|A9<|B8 (F3 U U U U (D9 U (D9 U (K8 U U (by simp) (fun _=>U) G8))) (C4 B3)) ?_
     have u:mkR (bA w) ms []=none\/∃r,mkR (bA w) ms []=some r/\vd r=false:=by exact .inr ⟨r,i,by simpa using a⟩
     rw[a9f g u]
     rfl
    refine A6<|A3<|A0<|y_M U<|I3 (fs:=[_,_,_]) U U U U U<|G0 U U U U (G5 U (N2 (by decide) (G5 U K1))) (fun _=>U) ⟨by decide,U,dT U,Zd _⟩ (fun _=>U) (fun _=>U) (fun _=>(by rfl)) ?_
    intro z;simp only[J7,Zp,Zi];refine xN [2] [2,9] U<|A9<|B8 (F3 U U U U (D9 U (K8 U U (by simp) (fun _=>U) (I5 U G8))) (C4 B3)) ?_
    rw[c5o g i (by simpa using a)]
    rfl
   refine gF U U<|gF U U<|E9 U (by assumption) U U<|xN [2,7,9,73] [2,7,3,9] U ?_
   refine A4 U (fun a=> ?_) (fun a=>absurd a (by decide));refine A3<|A0<|y_B U<|G0 U U U U (G5 U (G5 U (N2 (by decide) K1))) (fun _=>U) ⟨by decide,U,dT U,Zd _⟩ (fun _=>U) (fun _=>U) (fun _=>(by rfl)) ?_
   intro z;simp only[J7,Zp,Zi];refine xN [2] [2,3] U<|A9<|B8 (F3 U U U U (D9 U (D9 U (K8 U U (by simp) (fun _=>U) G8))) (C4 B3)) ?_
   have u:mkR (bA w) ms []=none\/∃r,mkR (bA w) ms []=some r/\vd r=false:=by exact .inl (by simpa using j)
   rw[a9f g u]
   rfl
  rw[b7o];have y:(Pl.bin w p q).sz=p.sz+q.sz+1:=rfl;have H:nd (bA w)=2:=(S3 (by have h:=b.1;omega)).trans b.1;refine y_A U (fun _=>U) ?_;intro g2;refine xN [1,2] [1,2] U<|A3<|A0<|C0 (es:=ZA trV []) U U (dT U) U U (fun _=>B5 (A7 fun _=>U)) (fun _=>U) ?_
  intro g11
  (refine xO U U (by simp) U (fun _=>U) (fun _=>U) ?_;intro g3)
  refine xN [1,2,3] [1,2,3] U<|A3<|A0<|y_F U<|y_L U<|B7 U U<|M0 U U<|y_S U<|xN [1,2,3,4] [1,2,3] U<|A3<|A3<|A0<|y_S U<|xN [1,2,3,4,5] [1,2,3] U<|A8<|H3<|A3<|A3<|A0<|y_M U<|y_F U<|y_L U<|B7 U U<|F0 U U<|xN [1,2,3,4,5,20] [1,2,3] U ?_
  refine A4 U (fun a=> ?_) (fun a=>absurd a (by exact fun h=>ZH (show true=false from h)));refine A6<|A3<|A8<|A3<|A0<|y_F U<|y_L U<|y_M U<|J1 U U U (fun _=>U) (by show(0:Int)<=0/\(0:Int)<((2:Nat):Int);omega)<|y_I U ?_
  refine xC1 U U ((by have k:=G p c.2.2.1 b.2.1 (by omega) (by omega);rw[<-K4]at k;exact k)) ⟨U,U,U⟩ U U fun v=> ?_
  refine y_A U (fun _=>U) ?_;intro g6;refine xB U U U U U U U U U<|xN [1,2,3,4,5,6] [1,2,3,6] U<|A3<|A0<|y_M U<|y_M U<|H1 U U U<|y_F U<|H1 U U U<|y_L U<|H1 U U U<|H0 U U<|E9 U U U U<|y_S U<|xN [1,2,3,4,5,6] [1,2,3,6] U<|A0<|y_M U<|y_B U<|C0 (es:=ZA trV [_]) U U (dT U) U U (fun _=>B5 (A7 fun _=>U)) (fun _=>U) ?_
  intro l;refine xA U U U U (by simp) (by simp) U U U U U (fun _=>U) (by simp only[LN];omega) (fun _=>U) ?_;intro m
  (refine xO U U (by simp) U (fun _=>U) (fun _=>U) ?_;intro g3)
  refine xN [1,2,3,4,5] [1,2,3] U<|A0<|y_M U<|D6 U U (B9 (by omega))<|y_S U<|xN [1,2,3,4,5] [1,2,3] U<|H3<|A3<|A3<|A0<|y_M U<|y_F U<|y_L U<|B7 U U<|F0 U U<|xN [1,2,3,4,5,20] [1,2,3] U ?_
  refine A4 U (fun a=> ?_) (fun a=>absurd a (by exact fun h=>ZH (show true=false from h)));refine A6<|A3<|A8<|A3<|A0<|y_F U<|y_L U<|y_M U<|J1 U U U (fun _=>U) (by show(0:Int)<=1/\(1:Int)<((2:Nat):Int);omega)<|y_I U ?_
  refine xC1 U U ((by have k:=G q c.2.2.2 b.2.2 (by omega) (by omega);rw[<-K4]at k;exact k)) ⟨U,U,U⟩ U U fun v=> ?_
  refine y_A U (fun _=>U) ?_;intro g6;refine xB U U U U U U U U U<|xN [1,2,3,4,5,6] [1,2,3,6] U<|A3<|A0<|y_M U<|y_M U ?_
  refine D3 U U ?_ ?_<;>intro d<;>have j:=d<;>try simp only[SG]at j
  ·refine y_F U<|gT U U<|y_L U<|gT U U<|H0 U U<|E9 U (by assumption) U U<|y_S U<|xN [1,2,3,4,5,6] [1,2,3,6] U<|A0<|y_M U<|y_B U<|C0 (es:=ZA trV [_]) U U (dT U) U U (fun _=>B5 (A7 fun _=>U)) (fun _=>U) ?_
   intro l;refine xA U U U U (by simp) (by simp) U U U U U (fun _=>U) (by simp only[LN];omega) (fun _=>U) ?_;intro m
   (refine xO U U (by simp) U (fun _=>U) (fun _=>U) ?_;intro g3)
   refine xN [1,2,3,4,5] [1,2,3] U<|A0<|y_M U<|D6 U U (B9 (by omega))<|y_S U<|xN [1,2,3,4,5] [1,2,3] U<|H3<|A3<|A3<|A0<|y_M U<|y_F U<|y_L U<|B7 U U<|F0 U U<|xN [1,2,3,4,5,20] [1,2,3] U ?_
   refine A4 U (fun a=>absurd a (by exact fun h=>ZH (show false=true from h))) (fun a=> ?_);refine D5<|A3<|A0<|y_F U<|y_L U<|y_F U<|y_L U<|y_M U<|I3 (fs:=[_,_,_]) U U U U U<|y_A U (fun _=>U) ?_
   intro g7;refine G0 U U U U (G5 U (G5 U (N2 (by decide) K1))) (fun _=>U) ⟨by decide,U,dT U,Zd _⟩ (fun _=>U) (fun _=>U) (fun _=>(by rfl)) ?_;intro z;simp only[J7,Zp,Zi];refine xN [1,2,3,4,7] [1,2,3,7] U<|A3<|A3<|A0<|y_M U<|H5 U<|xN [1,2,3,7,46] [1,2,3,7] U ?_
   refine A4 U ?_ ?_<;>intro a<;>try simp only[SL]at a
   ·have o:(∀ns,foldP p≠.lst ns)\/∀ns,foldP q≠.lst ns:= .inr fun ns e=>a (by rw[e];rfl)
    refine A3<|A0<|y_B U<|G0 U U U U (G5 U (G5 U (N2 (by decide) K1))) (fun _=>U) ⟨by decide,U,dT U,Zd _⟩ (fun _=>U) (fun _=>U) (fun _=>(by rfl)) ?_
    intro z;simp only[J7,Zp,Zi];refine xN [2] [2,3] U<|A9<|B8 (F3 U U U U (D9 U (D9 U (K8 U U (by simp) (fun _=>U) G8))) (C4 B3)) ?_
    rw[a6b o];show _=AV.agg [tV w,.list [],.list [trV (foldP p),trV (foldP q)]]
    rfl
   obtain⟨ms,g,s⟩:=Z3 (S2 _ c.2.2.1) (show(foldP p).op=lW by assumption);rw[g];obtain⟨ls,hq,F⟩:=Z3 (S2 _ c.2.2.2) (show(foldP q).op=lW by assumption);rw[hq];refine A6<|A3<|A0<|C0 (es:=ZA iV []) U U (dT U) U U (fun _=>B5 (A7 fun _=>U)) (fun _=>U) ?_
   intro B
   (refine xO U U (by simp) U (fun _=>U) (fun _=>U) ?_;intro g8)
   refine xN [1,2,3,7,8] [1,2,3,7,8] U<|A3<|A3<|A0<|y_M U<|H2 U U<|M9 U U<|xN [1,2,3,7,8,51] [1,2,3,7,8] U ?_
   refine A4 U (fun a=> ?_) (fun a=>absurd a (by exact fun h=>ZH (show true=false from h)));refine A0<|y_M U<|C6 U U U U (by(simp;done)) (by(simp;done)) U<|y_F U<|a3s U U (by(simp;done)) (fun _=>U) U U<|y_S U<|xN [1,2,3,7,8] [1,2,3,7,8] U<|A3<|A0<|y_F U<|y_L U<|y_M U<|C6 U U U U (by(simp;done)) (by(simp;done)) U<|y_F U<|a3s U U (by(simp;done)) (fun _=>U) U U<|y_M U ?_
   apply xC U
   ·apply B0
    ·exact B2 U
    apply B0
    ·exact B2 U
    apply B0
    ·exact B2 U
    exact C8
   ·exact b7u (bA w) (by omega) ms ls (b9d s) (b9d F)
   refine⟨⟨U,U,U,dT U,U⟩,.inr ⟨H9 _ _,U⟩,B6,G9 (K5 fun _=>J0 U K6),fun _=>U,fun C=> ?_⟩;simp only[Zh];refine y_M U<|y_E U<|y_E U ?_
   (refine xO U U (by simp) U (fun _=>U) (fun _=>U) ?_;intro g9)
   refine y_S U ?_;refine G7 ⟨fun _=>⟨by(simp only[V8,Zi,Zm,Zy,Yf,Zp];decide+kernel),by decide+kernel⟩,[(.t 2,_),(.t 7,_),(.t 9,_),(.t 10,_),(.h 2,_),(.h 7,_),(.h 3,_),(.h 9,_)],⟨U,U,U,U,U,U,U,U,U,U,U,U,U,U,U,U,trivial⟩,?_⟩;refine A3<|A3<|A0<|y_M U<|H5 U<|y_M U ?_
   refine D3 U U ?_ ?_<;>intro d<;>have j:=d<;>try simp only[SG]at j
   ·refine y_M U<|gT U U ?_
    obtain⟨r,i⟩:=ZS.1 (show(mkR (bA w) ms ls).isSome=true by assumption);have f:=b8d i;have E:=(P7.1 (b2u i)).1;rw[f];apply xC U
    ·apply B0
     ·exact E6 U U U (by(simp;done)) (fun _=>U)
     exact C8
    ·exact Z2 r (by omega)
    refine⟨⟨U,U,U,dT U,U⟩,.inr ⟨U,U⟩,B6,F7 U,fun _=>U,fun D=> ?_⟩;refine gT U U<|H5 U<|E8 U (by assumption) U U<|xN [2,7,9,73] [2,7,3,9] U ?_
    refine A4 U ?_ ?_<;>intro a<;>try simp only[SL]at a
    ·refine A3<|A0<|y_B U<|G0 U U U U (G5 U (G5 U (N2 (by decide) K1))) (fun _=>U) ⟨by decide,U,dT U,Zd _⟩ (fun _=>U) (fun _=>U) (fun _=>(by rfl)) ?_
     intro z;simp only[J7,Zp,Zi];refine xN [2] [2,3] U<|A9<|B8 (F3 U U U U (D9 U (D9 U (K8 U U (by simp) (fun _=>U) G8))) (C4 B3)) ?_
     have u:mkR (bA w) ms ls=none\/∃r,mkR (bA w) ms ls=some r/\vd r=false:=by exact .inr ⟨r,i,by simpa using a⟩
     rw[a5o g hq u]
     rfl
    refine A6<|A3<|A0<|y_M U<|I3 (fs:=[_,_,_]) U U U U U<|G0 U U U U (G5 U (N2 (by decide) (G5 U K1))) (fun _=>U) ⟨by decide,U,dT U,Zd _⟩ (fun _=>U) (fun _=>U) (fun _=>(by rfl)) ?_
    intro z;simp only[J7,Zp,Zi];refine xN [2] [2,9] U<|A9<|B8 (F3 U U U U (D9 U (K8 U U (by simp) (fun _=>U) (I5 U G8))) (C4 B3)) ?_
    rw[c0t g hq i (by simpa using a)]
    rfl
   refine gF U U<|gF U U<|E9 U (by assumption) U U<|xN [2,7,9,73] [2,7,3,9] U ?_
   refine A4 U (fun a=> ?_) (fun a=>absurd a (by decide));refine A3<|A0<|y_B U<|G0 U U U U (G5 U (G5 U (N2 (by decide) K1))) (fun _=>U) ⟨by decide,U,dT U,Zd _⟩ (fun _=>U) (fun _=>U) (fun _=>(by rfl)) ?_
   intro z;simp only[J7,Zp,Zi];refine xN [2] [2,3] U<|A9<|B8 (F3 U U U U (D9 U (D9 U (K8 U U (by simp) (fun _=>U) G8))) (C4 B3)) ?_
   have u:mkR (bA w) ms ls=none\/∃r,mkR (bA w) ms ls=some r/\vd r=false:=by exact .inl (by simpa using j)
   rw[a5o g hq u]
   rfl
  refine gF U U<|gF U U<|E8 U (by assumption) U U<|y_S U<|xN [1,2,3,4,5,6] [1,2,3,6] U<|A0<|y_M U<|y_B U<|C0 (es:=ZA trV [_]) U U (dT U) U U (fun _=>B5 (A7 fun _=>U)) (fun _=>U) ?_
  intro l;refine xA U U U U (by simp) (by simp) U U U U U (fun _=>U) (by simp only[LN];omega) (fun _=>U) ?_;intro m
  (refine xO U U (by simp) U (fun _=>U) (fun _=>U) ?_;intro g3)
  refine xN [1,2,3,4,5] [1,2,3] U<|A0<|y_M U<|D6 U U (B9 (by omega))<|y_S U<|xN [1,2,3,4,5] [1,2,3] U<|H3<|A3<|A3<|A0<|y_M U<|y_F U<|y_L U<|B7 U U<|F0 U U<|xN [1,2,3,4,5,20] [1,2,3] U ?_
  refine A4 U (fun a=>absurd a (by exact fun h=>ZH (show false=true from h))) (fun a=> ?_);refine D5<|A3<|A0<|y_F U<|y_L U<|y_F U<|y_L U<|y_M U<|I3 (fs:=[_,_,_]) U U U U U<|y_A U (fun _=>U) ?_
  intro g7;refine G0 U U U U (G5 U (G5 U (N2 (by decide) K1))) (fun _=>U) ⟨by decide,U,dT U,Zd _⟩ (fun _=>U) (fun _=>U) (fun _=>(by rfl)) ?_;intro z;simp only[J7,Zp,Zi];refine xN [1,2,3,4,7] [1,2,3,7] U<|A3<|A3<|A0<|y_M U<|H5 U<|xN [1,2,3,7,46] [1,2,3,7] U ?_
  refine A4 U (fun a=> ?_) (fun a=>absurd a (by decide));refine A3<|A0<|y_B U<|G0 U U U U (G5 U (G5 U (N2 (by decide) K1))) (fun _=>U) ⟨by decide,U,dT U,Zd _⟩ (fun _=>U) (fun _=>U) (fun _=>(by rfl)) ?_
  intro z;simp only[J7,Zp,Zi];refine xN [2] [2,3] U<|A9<|B8 (F3 U U U U (D9 U (D9 U (K8 U U (by simp) (fun _=>U) G8))) (C4 B3)) ?_
  rw[a6b (.inl fun ns e=>j (by rw[e];rfl))];show _=AV.agg [tV w,.list [],.list [trV (foldP p),trV (foldP q)]]
  rfl
theorem d0a:D8 Tryz.f96=[0,2,1,22,21,23,20,6,7,4,3,41,8,9,51,27,38,50]:=by kernel_rfl
theorem f0w(t:Pl)(b:t.good)(c:t.wf)(v:t.sz<=1000):CW (cxT oG) 96 [trK t]=some (trV (foldP t),[]):=by
 obtain⟨y,m⟩:∃y:Nat,t.sz<y:=⟨_,ZK _⟩;revert t
 induction y with
 |zero=>intro t b c v m;exact absurd m (Yy _)
 |succ y E=>
  intro t b c v m;refine C5 U Tryz.func96 U ⟨by kernel_rfl,U,dT U,dT U,by decide⟩ d0a<|A3<|A0<|P3 U U U (fun _=>I8 U) (fun _=>U) ?_
  intro g1;rcases t with ns|w|⟨w,p⟩|⟨w,p,q⟩
  ·rw[b7w]
   refine y_A U (fun _=>U) ?_;intro g2;refine xN [1,2] [1,2] U<|A3<|A0<|y_F U<|y_L U<|y_F U<|y_L U<|I3 (fs:=[_,_,_]) U U U U U<|y_A U (fun _=>U) ?_
   intro g3;refine xB U U U U U U U U U<|xN [1,2,3] [1,2,3] U<|A3<|A0<|y_F U<|y_L U<|B7 U U<|M0 U U<|y_S U<|xN [1,2,3,4] [1,2,3] U<|A3<|A3<|A0<|y_F U<|y_L U<|B7 U U<|y_M U<|xN [2,3,4,20,21,22] [2,3] U<|A8<|H3<|A3<|A0<|F0 U U<|xN [2,3,4,20,21,22,23] [2,3] U<|A3 ?_
   refine A4 U (fun a=>absurd a (by decide)) (fun a=> ?_);refine D5<|A3<|A3<|A0<|y_M U<|xN [2,3,41] [2,3] U ?_
   refine A4 U (fun a=>absurd a (by decide)) (fun a=> ?_);refine A6<|A3<|A0<|y_B U<|xB U U U U U U U U U<|xN [2] [2] U<|A9<|B8 (F3 U U U U (D9 U (D9 U (I5 U G8))) (C4 B3)) ?_
   rfl
  ·rw[b7y]
   refine y_A U (fun _=>U) ?_;intro g2;refine xN [1,2] [1,2] U<|A3<|A0<|y_F U<|y_L U<|y_F U<|y_L U<|I3 (fs:=[_,_,_]) U U U U U<|y_A U (fun _=>U) ?_
   intro g3;refine xB U U U U U U U U U<|xN [1,2,3] [1,2,3] U<|A3<|A0<|y_F U<|y_L U<|B7 U U<|M0 U U<|y_S U<|xN [1,2,3,4] [1,2,3] U<|A3<|A3<|A0<|y_F U<|y_L U<|B7 U U<|y_M U<|xN [2,3,4,20,21,22] [2,3] U<|A8<|H3<|A3<|A0<|F0 U U<|xN [2,3,4,20,21,22,23] [2,3] U<|A3 ?_
   refine A4 U (fun a=>absurd a (by decide)) (fun a=> ?_);refine D5<|A3<|A3<|A0<|y_M U<|xN [2,3,41] [2,3] U ?_
   refine A4 U (fun a=>absurd a (by decide)) (fun a=> ?_);refine A6<|A3<|A0<|y_B U<|xB U U U U U U U U U<|xN [2] [2] U<|A9<|B8 (F3 U U U U (D9 U (D9 U (I5 U G8))) (C4 B3)) ?_
   rfl
  ·rw[c9l]
   have x:(Pl.un w p).sz=p.sz+1:=rfl;have F:nd (bA w)=1:=(S3 (by have h:=c.1;omega)).trans c.1;refine y_A U (fun _=>U) ?_;intro g2;refine xN [1,2] [1,2] U<|A3<|A0<|y_F U<|y_L U<|y_F U<|y_L U<|I3 (fs:=[_,_,_]) U U U U U<|y_A U (fun _=>U) ?_
   intro g3;refine xB U U U U U U U U U<|xN [1,2,3] [1,2,3] U<|A3<|A0<|y_F U<|y_L U<|B7 U U<|M0 U U<|y_S U<|xN [1,2,3,4] [1,2,3] U<|A3<|A3<|A0<|y_F U<|y_L U<|B7 U U<|y_M U<|xN [2,3,4,20,21,22] [2,3] U<|A8<|H3<|A3<|A0<|F0 U U<|xN [2,3,4,20,21,22,23] [2,3] U<|A3 ?_
   refine A4 U (fun a=> ?_) (fun a=>absurd a (by exact fun h=>ZH (show true=false from h)));refine A6<|A3<|A8<|A3<|A0<|J1 U U U (fun _=>U) (by show(0:Int)<=0/\(0:Int)<((1:Nat):Int);omega)<|y_I U<|y_A U (fun _=>U) ?_
   intro g6;refine xB U U U U U U U U U<|xN [2,3,4,6,20,21,22] [2,3,6] U<|A3<|A0<|y_B U ?_
   refine xC1 U U ((by have d:=E p b.2.2 c.2 (by omega) (by omega);rw[<-K4]at d;exact d)) ⟨U,U,U⟩ U U fun u=> ?_
   refine y_A U (fun _=>U) ?_;intro g7;refine xB U U U U U U U U U<|xN [2,3,4,7,20,21,22] [2,3,7] U<|A3<|A0<|y_M U<|y_M U<|H1 U U U<|y_F U<|H1 U U U<|y_L U<|H1 U U U<|H0 U U<|E9 U U U U<|y_S U<|xN [2,3,4,7,20,21,22] [2,3,7] U<|A0<|y_F U<|y_L U<|y_B U<|C0 (es:=ZA trV [_]) U U (dT U) U U (fun _=>B5 (A7 fun _=>U)) (fun _=>U) ?_
   intro k;refine U0 U U U (by simp) (by decide) U U U (dT U) (fun _=>⟨U,U⟩) (by simp only[H6];(simp only[Zs,Zg,Zl,ZI,Zh];omega)) (fun _=>U) ?_;intro l;refine y_F U<|N8 U U U U U (Zd _) U<|xN [2,3,4,20,21,22] [2,3,1000038] U<|A0<|D6 U U (B9 (by omega))<|y_M U<|xN [2,3,4,20,21,22] [2,3,1000038] U<|H3<|A3<|A0<|F0 U U<|xN [2,3,4,20,21,22,23] [2,3,1000038] U<|A3 ?_
   refine A4 U (fun a=>absurd a (by exact fun h=>ZH (show false=true from h))) (fun a=> ?_);refine D5<|A3<|A3<|A0<|y_M U<|xN [2,3,41] [2,3,1000038] U ?_
   refine A4 U ?_ ?_<;>intro a<;>try simp only[SL]at a
   ·obtain⟨ms,g,o⟩:=Z3 (S2 _ b.2.2) (show(foldP p).op=lW by assumption)
    rw[g];refine A3<|A0<|y_B U ?_
    apply xC U
    ·apply B0
     ·exact e7k (dT U) (e6f (a1m (e8z U U (by simp) (fun _=>U) c9m)))
     apply B0
     ·exact e1u (dT U)
     exact C8
    ·exact(by have d:=d8c (oG:=oG) (.un w (.lst ms)) ⟨b.1,b.2.1,o⟩ ⟨c.1,trivial⟩ [] U (by simp) (by simp);exact d)
    refine⟨⟨U,U,U,dT U,U⟩,.inr ⟨H9 _ _,U⟩,B6,G9 (K5 fun _=>J0 U K6),fun _=>U,fun A=> ?_⟩;simp only[Zh];rw[show runP [] (.un w (.lst ms))=mkR (bA w) ms []from U];refine y_M U<|y_E U<|y_E U ?_
    (refine xO U U (by simp) U (fun _=>U) (fun _=>U) ?_;intro g8)
    refine y_S U<|xN [2,3,8,9] [2,3,1000038,8] U<|A3<|A0<|y_M U<|y_M U ?_
    refine D3 U U ?_ ?_<;>intro f<;>have j:=f<;>try simp only[SG]at j
    ·refine y_M U<|gT U U ?_
     obtain⟨r,i⟩:=ZS.1 (show(mkR (bA w) ms []).isSome=true by assumption);have C:=(P7.1 (b2u i)).1;rw[i,Option.getD_some];apply xC U
     ·apply B0
      ·exact E6 U U U (by(simp;done)) (fun _=>U)
      exact C8
     ·exact S9 r (by omega)
     refine⟨⟨U,U,U,dT U,U⟩,.inr ⟨U,U⟩,B6,F7 U,fun _=>U,fun B=> ?_⟩;refine E9 U U U U<|xN [2,3,8,51] [2,3,1000038,8] U ?_
     refine A4 U ?_ ?_<;>intro a<;>try simp only[SL]at a
     ·refine A3<|A0<|y_M U<|I3 (fs:=[_,_,_]) U U U U U<|G0 U U U U (G5 U (N2 (by decide) (G5 U K1))) (fun _=>U) ⟨by decide,U,dT U,Zd _⟩ (fun _=>U) (fun _=>U) (fun _=>(by rfl)) ?_
      intro z;simp only[J7,Zp,Zi];refine xN [2] [2,8] U<|A9<|B8 (F3 U U U U (D9 U (K8 U U (by simp) (fun _=>U) (I5 U G8))) (C4 B3)) ?_
      rw[c5o g i (by simpa using a)]
      rfl
     refine A6<|A3<|A0<|y_B U<|G0 U U U U (G5 U (G5 U (a0p (by decide) (by decide) U (by simp) fun _=>K1))) (fun _=>U) ⟨by decide,U,dT U,Zd _⟩ (fun _=>U) (fun _=>U) (fun _=>C7 (by rfl) (C7 (B5 (A7 fun _=>U)) (by rfl))) ?_
     intro z;simp only[J7,Zp,Zi];refine xN [2] [2,300002] U<|A9<|B8 (F3 U U U U (D9 U (D9 U (K8 U U (by simp) (fun _=>U) G8))) (C4 B3)) ?_
     (have s:mkR (bA w) ms []=none\/∃r,mkR (bA w) ms []=some r/\vd r=false:=(by exact .inr ⟨r,i,by simpa using a⟩);rw[a9f g s];rfl)
    refine gF U U<|E8 U (by assumption) U U<|xN [2,3,8,51] [2,3,1000038,8] U ?_
    refine A4 U (fun a=>absurd a (by decide)) (fun a=> ?_);refine A6<|A3<|A0<|y_B U<|G0 U U U U (G5 U (G5 U (a0p (by decide) (by decide) U (by simp) fun _=>K1))) (fun _=>U) ⟨by decide,U,dT U,Zd _⟩ (fun _=>U) (fun _=>U) (fun _=>C7 (by rfl) (C7 (B5 (A7 fun _=>U)) (by rfl))) ?_
    intro z;simp only[J7,Zp,Zi];refine xN [2] [2,300002] U<|A9<|B8 (F3 U U U U (D9 U (D9 U (K8 U U (by simp) (fun _=>U) G8))) (C4 B3)) ?_
    (have s:mkR (bA w) ms []=none\/∃r,mkR (bA w) ms []=some r/\vd r=false:=(by exact .inl (by simpa using j));rw[a9f g s];rfl)
   have n:∀ns,foldP p≠.lst ns:=fun ns e=>a (by rw[e];rfl)
   refine A6<|A3<|A0<|y_B U<|G0 U U U U (G5 U (G5 U (a0p (by decide) (by decide) U (by simp) fun _=>K1))) (fun _=>U) ⟨by decide,U,dT U,Zd _⟩ (fun _=>U) (fun _=>U) (fun _=>C7 (by rfl) (C7 (B5 (A7 fun _=>U)) (by rfl))) ?_
   intro z;simp only[J7,Zp,Zi];refine xN [2] [2,300002] U<|A9<|B8 (F3 U U U U (D9 U (D9 U (K8 U U (by simp) (fun _=>U) G8))) (C4 B3)) ?_
   (rw[c5u n];show _=AV.agg [tV w,.list [],.list [trV (foldP p)]];rfl)
  rw[b7o];have x:(Pl.bin w p q).sz=p.sz+q.sz+1:=rfl;have F:nd (bA w)=2:=(S3 (by have h:=c.1;omega)).trans c.1;refine y_A U (fun _=>U) ?_;intro g2;refine xN [1,2] [1,2] U<|A3<|A0<|y_F U<|y_L U<|y_F U<|y_L U<|I3 (fs:=[_,_,_]) U U U U U<|y_A U (fun _=>U) ?_
  intro g3;refine xB U U U U U U U U U<|xN [1,2,3] [1,2,3] U<|A3<|A0<|y_F U<|y_L U<|B7 U U<|M0 U U<|y_S U<|xN [1,2,3,4] [1,2,3] U<|A3<|A3<|A0<|y_F U<|y_L U<|B7 U U<|y_M U<|xN [2,3,4,20,21,22] [2,3] U<|A8<|H3<|A3<|A0<|F0 U U<|xN [2,3,4,20,21,22,23] [2,3] U<|A3 ?_
  refine A4 U (fun a=> ?_) (fun a=>absurd a (by exact fun h=>ZH (show true=false from h)));refine A6<|A3<|A8<|A3<|A0<|J1 U U U (fun _=>U) (by show(0:Int)<=0/\(0:Int)<((2:Nat):Int);omega)<|y_I U<|y_A U (fun _=>U) ?_
  intro g6;refine xB U U U U U U U U U<|xN [2,3,4,6,20,21,22] [2,3,6] U<|A3<|A0<|y_B U ?_
  refine xC1 U U ((by have d:=E p b.2.2.1 c.2.1 (by omega) (by omega);rw[<-K4]at d;exact d)) ⟨U,U,U⟩ U U fun u=> ?_
  refine y_A U (fun _=>U) ?_;intro g7;refine xB U U U U U U U U U<|xN [2,3,4,7,20,21,22] [2,3,7] U<|A3<|A0<|y_M U<|y_M U<|H1 U U U<|y_F U<|H1 U U U<|y_L U<|H1 U U U<|H0 U U<|E9 U U U U<|y_S U<|xN [2,3,4,7,20,21,22] [2,3,7] U<|A0<|y_F U<|y_L U<|y_B U<|C0 (es:=ZA trV [_]) U U (dT U) U U (fun _=>B5 (A7 fun _=>U)) (fun _=>U) ?_
  intro k;refine U0 U U U (by simp) (by decide) U U U (dT U) (fun _=>⟨U,U⟩) (by simp only[H6];(simp only[Zs,Zg,Zl,ZI,Zh];omega)) (fun _=>U) ?_;intro l;refine y_F U<|N8 U U U U U (Zd _) U<|xN [2,3,4,20,21,22] [2,3,1000038] U<|A0<|D6 U U (B9 (by omega))<|y_M U<|xN [2,3,4,20,21,22] [2,3,1000038] U<|H3<|A3<|A0<|F0 U U<|xN [2,3,4,20,21,22,23] [2,3,1000038] U<|A3 ?_
  refine A4 U (fun a=> ?_) (fun a=>absurd a (by exact fun h=>ZH (show true=false from h)));refine A6<|A3<|A8<|A3<|A0<|J1 U U U (fun _=>U) (by show(0:Int)<=1/\(1:Int)<((2:Nat):Int);omega)<|y_I U<|y_A U (fun _=>U) ?_
  intro g6;refine xB U U U U U U U U U<|xN [2,3,4,6,20,21,22] [2,3,1000038,6] U<|A3<|A0<|y_B U ?_
  refine xC1 U U ((by have d:=E q b.2.2.2 c.2.2 (by omega) (by omega);rw[<-K4]at d;exact d)) ⟨U,U,U⟩ U U fun u=> ?_
  refine y_A U (fun _=>U) ?_;intro g7;refine xB U U U U U U U U U<|xN [2,3,4,7,20,21,22] [2,3,1000038,7] U<|A3<|A0<|y_M U<|y_M U ?_
  refine D3 U U ?_ ?_<;>intro f<;>have j:=f<;>try simp only[SG]at j
  ·refine y_F U<|gT U U<|y_L U<|gT U U<|H0 U U<|E9 U (by assumption) U U<|y_S U<|xN [2,3,4,7,20,21,22] [2,3,1000038,7] U<|A0<|y_F U<|y_L U<|y_B U<|C0 (es:=ZA trV [_]) U U (dT U) U U (fun _=>B5 (A7 fun _=>U)) (fun _=>U) ?_
   intro k;refine xA U U U U (by simp) (by simp) U U U U U (fun _=>U) (by simp only[LN];omega) (fun _=>U) ?_;intro l;refine y_F U<|N8 U U U U U (Zd _) U<|xN [2,3,4,20,21,22] [2,3,1000038] U<|A0<|D6 U U (B9 (by omega))<|y_M U<|xN [2,3,4,20,21,22] [2,3,1000038] U<|H3<|A3<|A0<|F0 U U<|xN [2,3,4,20,21,22,23] [2,3,1000038] U<|A3 ?_
   refine A4 U (fun a=>absurd a (by exact fun h=>ZH (show false=true from h))) (fun a=> ?_);refine D5<|A3<|A3<|A0<|y_M U<|xN [2,3,41] [2,3,1000038] U ?_
   refine A4 U ?_ ?_<;>intro a<;>try simp only[SL]at a
   ·obtain⟨ms,g,o⟩:=Z3 (S2 _ b.2.2.1) (show(foldP p).op=lW by assumption)
    rw[g];obtain⟨ls,hq,D⟩:=Z3 (S2 _ b.2.2.2) (show(foldP q).op=lW by assumption);rw[hq];refine A3<|A0<|y_B U ?_
    apply xC U
    ·apply B0
     ·exact e7k (dT U) (e6f (a1m (e8z U U (by simp) (fun _=>U) c9m)))
     apply B0
     ·exact e1u (dT U)
     exact C8
    ·exact(by have d:=d8c (oG:=oG) (.bin w (.lst ms) (.lst ls)) ⟨b.1,b.2.1,o,D⟩ ⟨c.1,trivial,trivial⟩ [] U (by simp) (by simp);exact d)
    refine⟨⟨U,U,U,dT U,U⟩,.inr ⟨H9 _ _,U⟩,B6,G9 (K5 fun _=>J0 U K6),fun _=>U,fun A=> ?_⟩;simp only[Zh];rw[show runP [] (.bin w (.lst ms) (.lst ls))=mkR (bA w) ms ls from U];refine y_M U<|y_E U<|y_E U ?_
    (refine xO U U (by simp) U (fun _=>U) (fun _=>U) ?_;intro g8)
    refine y_S U<|xN [2,3,8,9] [2,3,1000038,8] U<|A3<|A0<|y_M U<|y_M U ?_
    refine D3 U U ?_ ?_<;>intro f<;>have j:=f<;>try simp only[SG]at j
    ·refine y_M U<|gT U U ?_
     obtain⟨r,i⟩:=ZS.1 (show(mkR (bA w) ms ls).isSome=true by assumption);have C:=(P7.1 (b2u i)).1;rw[i,Option.getD_some];apply xC U
     ·apply B0
      ·exact E6 U U U (by(simp;done)) (fun _=>U)
      exact C8
     ·exact S9 r (by omega)
     refine⟨⟨U,U,U,dT U,U⟩,.inr ⟨U,U⟩,B6,F7 U,fun _=>U,fun B=> ?_⟩;refine E9 U U U U<|xN [2,3,8,51] [2,3,1000038,8] U ?_
     refine A4 U ?_ ?_<;>intro a<;>try simp only[SL]at a
     ·refine A3<|A0<|y_M U<|I3 (fs:=[_,_,_]) U U U U U<|G0 U U U U (G5 U (N2 (by decide) (G5 U K1))) (fun _=>U) ⟨by decide,U,dT U,Zd _⟩ (fun _=>U) (fun _=>U) (fun _=>(by rfl)) ?_
      intro z;simp only[J7,Zp,Zi];refine xN [2] [2,8] U<|A9<|B8 (F3 U U U U (D9 U (K8 U U (by simp) (fun _=>U) (I5 U G8))) (C4 B3)) ?_
      rw[c0t g hq i (by simpa using a)]
      rfl
     refine A6<|A3<|A0<|y_B U<|G0 U U U U (G5 U (G5 U (a0p (by decide) (by decide) U (by simp) fun _=>K1))) (fun _=>U) ⟨by decide,U,dT U,Zd _⟩ (fun _=>U) (fun _=>U) (fun _=>C7 (by rfl) (C7 (B5 (A7 fun _=>U)) (by rfl))) ?_
     intro z;simp only[J7,Zp,Zi];refine xN [2] [2,300002] U<|A9<|B8 (F3 U U U U (D9 U (D9 U (K8 U U (by simp) (fun _=>U) G8))) (C4 B3)) ?_
     (have s:mkR (bA w) ms ls=none\/∃r,mkR (bA w) ms ls=some r/\vd r=false:=(by exact .inr ⟨r,i,by simpa using a⟩);rw[a5o g hq s];rfl)
    refine gF U U<|E8 U (by assumption) U U<|xN [2,3,8,51] [2,3,1000038,8] U ?_
    refine A4 U (fun a=>absurd a (by decide)) (fun a=> ?_);refine A6<|A3<|A0<|y_B U<|G0 U U U U (G5 U (G5 U (a0p (by decide) (by decide) U (by simp) fun _=>K1))) (fun _=>U) ⟨by decide,U,dT U,Zd _⟩ (fun _=>U) (fun _=>U) (fun _=>C7 (by rfl) (C7 (B5 (A7 fun _=>U)) (by rfl))) ?_
    intro z;simp only[J7,Zp,Zi];refine xN [2] [2,300002] U<|A9<|B8 (F3 U U U U (D9 U (D9 U (K8 U U (by simp) (fun _=>U) G8))) (C4 B3)) ?_
    (have s:mkR (bA w) ms ls=none\/∃r,mkR (bA w) ms ls=some r/\vd r=false:=(by exact .inl (by simpa using j));rw[a5o g hq s];rfl)
   have n:(∀ns,foldP p≠.lst ns)\/∀ns,foldP q≠.lst ns:= .inr fun ns e=>a (by rw[e];rfl)
   refine A6<|A3<|A0<|y_B U<|G0 U U U U (G5 U (G5 U (a0p (by decide) (by decide) U (by simp) fun _=>K1))) (fun _=>U) ⟨by decide,U,dT U,Zd _⟩ (fun _=>U) (fun _=>U) (fun _=>C7 (by rfl) (C7 (B5 (A7 fun _=>U)) (by rfl))) ?_
   intro z;simp only[J7,Zp,Zi];refine xN [2] [2,300002] U<|A9<|B8 (F3 U U U U (D9 U (D9 U (K8 U U (by simp) (fun _=>U) G8))) (C4 B3)) ?_
   ((rw[a6b n]);show _=AV.agg [tV w,.list [],.list [trV (foldP p),trV (foldP q)]];rfl)
  refine gF U U<|gF U U<|E8 U (by assumption) U U<|y_S U<|xN [2,3,4,7,20,21,22] [2,3,1000038,7] U<|A0<|y_F U<|y_L U<|y_B U<|C0 (es:=ZA trV [_]) U U (dT U) U U (fun _=>B5 (A7 fun _=>U)) (fun _=>U) ?_
  intro k;refine xA U U U U (by simp) (by simp) U U U U U (fun _=>U) (by simp only[LN];omega) (fun _=>U) ?_;intro l;refine y_F U<|N8 U U U U U (Zd _) U<|xN [2,3,4,20,21,22] [2,3,1000038] U<|A0<|D6 U U (B9 (by omega))<|y_M U<|xN [2,3,4,20,21,22] [2,3,1000038] U<|H3<|A3<|A0<|F0 U U<|xN [2,3,4,20,21,22,23] [2,3,1000038] U<|A3 ?_
  refine A4 U (fun a=>absurd a (by exact fun h=>ZH (show false=true from h))) (fun a=> ?_);refine D5<|A3<|A3<|A0<|y_M U<|xN [2,3,41] [2,3,1000038] U ?_
  refine A4 U (fun a=>absurd a (by decide)) (fun a=> ?_);refine A6<|A3<|A0<|y_B U<|G0 U U U U (G5 U (G5 U (a0p (by decide) (by decide) U (by simp) fun _=>K1))) (fun _=>U) ⟨by decide,U,dT U,Zd _⟩ (fun _=>U) (fun _=>U) (fun _=>C7 (by rfl) (C7 (B5 (A7 fun _=>U)) (by rfl))) ?_
  intro z;simp only[J7,Zp,Zi];refine xN [2] [2,300002] U<|A9<|B8 (F3 U U U U (D9 U (D9 U (K8 U U (by simp) (fun _=>U) G8))) (C4 B3)) ?_
  ((rw[a6b (.inl fun ns e=>j (by rw[e];rfl))]);show _=AV.agg [tV w,.list [],.list [trV (foldP p),trV (foldP q)]];rfl)
theorem b6j:D8 Tryz.f70=[0,2,4,11,3,7]:=by kernel_rfl
theorem d6q(t:Pl)(a:t.good)(b:t.wf)(h:t.sz<=16):CW (cxT oG) 70 [tV (showP t)]=some (tV (showP (foldP t)),[]):=by
 have d:=S2 t a;have e:=b2e t b;have j:=c6b t;have l:=U9 b a;have k:=U9 e d;obtain⟨f,g⟩:=f0g b a h;refine C5 U Tryz.func70 U ⟨by kernel_rfl,U,dT U,dT U,by decide⟩ b6j<|A3<|A0<|y_S U<|xN [0] [] U<|A3<|A0<|y_M U ?_
 apply xC U
 ·apply B0
  ·exact B2 U
  exact C8
 ·exact(by have c:=b5k (oG:=oG) (showP t) (by omega);rw[f,g]at c;exact c)
 refine⟨⟨U,U,U,dT U,U⟩,.inl U,B6,I7 U,fun _=>U,fun g7=> ?_⟩;refine y_M U<|y_E U<|y_E U<|y_A U (fun _=>U) ?_
 intro g3;refine xB U U U U U U U U U<|y_S U<|xN [0,3,4] [3] U<|A3<|A3<|A0<|y_M U<|H5 U<|xN [0,3,11] [3] U ?_
 refine A4 U (fun i=>absurd i (by decide)) (fun i=> ?_);refine A6<|A3<|A0<|y_B U ?_
 refine xC1 U U ((by have c:=f0w (oG:=oG) t a b (by omega);rw[<-K4]at c;exact c)) ⟨U,U,U⟩ U U fun g14=> ?_
 refine xC1 U U ((by have c:=f4t (oG:=oG) (foldP t) (by omega) d;rw[<-K4]at c;exact c)) ⟨U,U,U⟩ U U fun g15=> ?_
 refine y_S U<|xN [2] [] U<|A9<|C2 U U trivial ?_
 rfl
theorem c0v:D8 Tryz.f27=[0,2,1,3,11,6]:=by kernel_rfl
theorem c4e(t:Pl)(m:t.good)(p:t.wf)(w:t.sz<=16):CW (cxT oG) 27 [trK t]=some (trV (a6x t),[]):=by
 refine C5 U Tryz.func27 U ⟨by kernel_rfl,U,dT U,dT U,by decide⟩ c0v<|A3<|A0<|P3 U U U (fun _=>I8 U) (fun _=>U) ?_
 intro g1;refine y_A U (fun _=>U) ?_;intro g2;refine xN [1,2] [1,2] U<|A8 ?_
 rw[<-K4];refine D7 (β:=Pl) [(.t 1,_),(.t 2,_),(.h 2,_)] (fun(u:Pl)=>[(.h 1,.obj g1 3 3 [trV u])]) (fun(u:Pl)=>u.sz<=t.sz/\u.good/\u.wf/\a6x u=a6x t) (fun(u:Pl)=>u.sz) t ⟨U,U,U,U,trivial⟩ ⟨Zd _,m,p,U⟩ ?_;intro u q;obtain⟨x,b,a,j⟩:=q;refine A8<|A3<|A0<|y_B U ?_
 have o:=c8n a;have n:=b3f a b;have v:(normP u).sz<=u.sz:=by rcases c0n a with h|h;(·omega);(·rw[h];exact Zd _)
 have f:=a6s a;have d:=b0s a b;have l:=c6b (normP u);have r:=U9 a b;have s:=U9 f d;have g:stepB u=foldP (normP u):=rfl;refine xC1 U U ((by have c:=e4s (oG:=oG) u (by omega) b a;rw[<-K4]at c;exact c)) ⟨U,U,U⟩ U U fun g5=> ?_
 refine xC1 U U ((by have c:=f1n (oG:=oG) (normP u) n o (by omega);rw[<-K4]at c;exact c)) ⟨U,U,U⟩ U U fun g6=> ?_
 refine y_A U (fun _=>U) ?_;intro g3;refine xB U U U U U U U U U<|xN [1,2,3] [1,2,3] U<|A3<|A3<|A0<|y_B U ?_
 refine xC1 U U ((by have c:=a6d (oG:=oG) (foldP (normP u)) (by rw[<-g];rw[<-g]at l;omega) d;rw[<-K4]at c;exact c)) ⟨U,U,U⟩ U U fun g8=> ?_
 refine y_B U ?_;refine xC1 U U ((by have c:=a6d (oG:=oG) u (by omega) b;rw[<-K4]at c;exact c)) ⟨U,U,U⟩ U U fun g10=> ?_
 refine H0 U U ?_;refine G7 ⟨fun _=>⟨by(simp only[V8,Zi,Zm,Zy,Yf,Zp];decide+kernel),by decide+kernel⟩,[(.t 1,_),(.t 2,_),(.t 3,_),(.t 11,_),(.h 1,_),(.h 2,_),(.h 3,_)],⟨U,U,U,U,U,U,U,U,U,U,U,U,U,U,trivial⟩,?_⟩;refine A4 U ?_ ?_<;>intro k<;>try simp only[SL]at k
 ·refine A3<|A0<|y_B U<|xB U U U U U U U U U<|xN [2] [2] U<|A9<|B8 (F3 U U U U (D9 U (D9 U (D9 U G8))) (C4 B3)) ?_
  rw[<-j,e0l (d5n f d a b k)]
  rfl
 have i:stepB u≠u:=fun e=>k (by rw[<-g,e])
 have hlt:(stepB u).sz<u.sz:=(a8j a).resolve_right fun e=>i (a6q e)
 refine A6<|A0<|y_B U<|xB U U U U U U U U U<|xN [1,2] [1,2] U ?_
 refine⟨(stepB u),⟨by omega,d,f,by rw[<-j];exact(d2s a i).symm⟩,(by omega),⟨U,U,U,U,trivial⟩⟩
theorem b0g:D8 Tryz.f45=[0,2,6,3,12]:=by kernel_rfl
theorem c2n(s:List UInt8)(w:s.length<=1048576):CW (cxT (some rG)) 45 [tV s]=some (tV (d1l s),[]):=by
 refine C5 U Tryz.func45 U ⟨by kernel_rfl,U,dT U,dT U,by decide⟩ b0g<|A3<|A0<|y_S U<|xN [0] [] U<|A3<|A3<|A0<|y_M U ?_
 refine xC1 U U (b1b s w) ⟨U,U,U⟩ U U fun g5=> ?_
 refine H5 U<|xN [0,6] [] U ?_
 refine A4 U ?_ ?_<;>intro c<;>try simp only[SL]at c
 ·refine A3<|A0<|y_S U<|xN [2] [] U<|A9<|C2 U U trivial ?_
  rw[c4n c]
  rfl
 obtain⟨t,i,z,A⟩:=a5x c;obtain⟨o,p,k,x,y⟩:=a1f i;rw[a9a i];refine A6<|A8 ?_
 subst o;refine a5l (β:=Pl) (fun(u:Pl)=>[(.t 0,tV (showP u))]) (fun(u:Pl)=>u.sz<=t.sz/\u.good/\u.wf/\a6x u=a6x t) (fun(u:Pl)=>u.sz) t ⟨U,trivial⟩ ⟨Zd _,k,p,U⟩ ?_;intro u q;obtain⟨B,b,a,j⟩:=q;refine A8<|A3<|A0<|y_M U ?_
 have m:=c8n a;have l:=b3f a b;have v:(normP u).sz<=u.sz:=by rcases c0n a with h|h;(·omega);(·rw[h];exact Zd _)
 have f:=a6s a;have d:=b0s a b;have r:=U9 a b;have n:stepB u=foldP (normP u):=rfl;refine xC1 U U (e4x u a (by omega) (by omega)) ⟨U,U,U⟩ U U fun g8=> ?_
 refine xC1 U U (d6q (normP u) l m (by omega)) ⟨U,U,U⟩ U U fun g9=> ?_
 refine y_S U<|xN [0,3] [] U<|A3<|A3<|A0<|y_M U<|y_M U<|H0 U U<|xN [0,3,12] [] U ?_
 refine A4 U ?_ ?_<;>intro c<;>try simp only[SL]at c
 ·refine A3<|A0<|y_M U<|y_S U<|xN [2] [] U<|A9<|C2 U U trivial ?_
  rw[<-j,e0l (d5n f d a b c)]
 have g:stepB u≠u:=fun e=>c (by rw[<-n,e])
 have hlt:(stepB u).sz<u.sz:=(a8j a).resolve_right fun e=>g (a6q e)
 refine A6<|A0<|y_M U<|y_S U<|xN [0] [] U ?_
 refine⟨(stepB u),⟨by omega,d,f,by rw[<-j];exact(d2s a g).symm⟩,(by omega),⟨U,trivial⟩⟩
theorem c3y:D8 Tryz.f108=[0,2,3]:=by kernel_rfl
theorem e6o(xs:List Int)(a:xs.length<=H6):CW (cxT oG) 108 [L xs]=some (.own 1 ((S6 xs).map iV),[]):=by
 refine C5 U Tryz.func108 U ⟨by kernel_rfl,U,dT U,dT U,by decide⟩ c3y<|A3<|A0 ?_
 (refine B1 U U (fun _=>U) ?_;intro g2)
 refine xN [0] [] U<|A3<|A0<|y_M U ?_
 apply xC U
 ·apply B0
  ·exact B2 U
  exact C8
 ·exact d0l xs a
 refine⟨⟨U,U,U,dT U,U⟩,.inl U,B6,G6,fun _=>U,fun g5=> ?_⟩
 (refine xO U U (by simp) U (fun _=>U) (fun _=>U) ?_;intro g3)
 refine xN [3] [3] U<|A3<|A0<|y_M U ?_
 apply a0z U
 ·apply B0
  ·exact a4q U U (by decide) (by(simp;done)) (U3 fun _=>U)
  exact C8
 ·exact e6c _ a
 ·exact⟨U,U,U,dT U,U⟩
 ·exact .inl U
 ·exact a2s U (by simp) (a5i _ _) B6
 ·exact I7 U
 ·(intro _;exact C7 (B5 (A7 fun _=>U)) U)
 intro g7;refine xN [3] [3] U<|A3<|A0<|y_M U ?_
 (refine xO U U (by simp) U (fun _=>U) (fun _=>U) ?_;intro g2)
 refine xN [2] [2] U<|A9<|I6 U U (by(simp;done)) (by exact A7 fun _=>U) trivial ?_
 rfl
theorem c0s:D8 Tryz.f79=[0,2,3,4]:=by kernel_rfl
theorem e3z(l:List Int)(e:1<=l.length/\l.length<=1000)(a:∀x∈l,-100000<=x/\x<=100000):CW (cxT oG) 79 [L l]=some (iV (mdI l),[]):=by
 have d:=Q6 l;have b:=a _ ((S8 l).mem_iff.1 (M7 (xs:=S6 l) (i:=(l.length-1)/2) (by omega)));have c:=a _ ((S8 l).mem_iff.1 (M7 (xs:=S6 l) (i:=l.length/2) (by omega)));refine C5 U Tryz.func79 U ⟨by kernel_rfl,U,dT U,dT U,by decide⟩ c0s<|A3<|A0<|y_S U<|xN [0] [] U<|A3<|A0<|y_M U ?_
 apply xC U
 ·apply B0
  ·exact B2 U
  exact C8
 ·exact e6o l (by simp only[H6];omega)
 refine⟨⟨U,U,U,dT U,U⟩,.inl U,B6,G6,fun _=>U,fun g6=> ?_⟩;simp only[Zh,Q6]
 (refine xO U U (by simp) U (fun _=>U) (fun _=>U) ?_;intro g3)
 refine xN [3] [3] U<|A3<|A0<|y_M U<|H2 U U<|y_S U<|xN [3,4] [3] U<|A3<|A0<|y_M U<|y_M U<|J8 U U (B9 (by omega)) ?_
 rw[show((l.length:Int)-1)=((l.length-1:Nat):Int) by omega];refine a2f U U ⟨by omega,B9 (by rw[d1r];omega)⟩ ?_;rw[d1r];refine C6 U U U U (by omega) (by(simp;done)) U<|E4 U U (by omega) (fun _=>U) (fun _=>U) U<|y_M U<|y_M U<|a2f U U ⟨by omega,B9 (by rw[d1r];omega)⟩ ?_
 rw[d1r];refine C6 U U U U (by omega) (by(simp;done)) U<|E4 U U (by omega) (fun _=>U) (fun _=>U) U<|D6 U U (B9 (by omega))<|y_S U ?_
 refine G7 ⟨fun _=>⟨by decide+kernel,by decide+kernel⟩,[(.t 2,_)],⟨U,U,trivial⟩,?_⟩;refine A9<|C2 U U trivial ?_
 rfl
theorem b9b:D8 Tryz.f33=[0,2,3,4]:=by kernel_rfl
theorem e3j(l:List Int)(e:1<=l.length/\l.length<=1000)(a:∀x∈l,-100000<=x/\x<=100000):CW (cxT oG) 33 [L l]=some (iV (mdI l),[]):=by
 have d:=Q6 l;have b:=a _ ((S8 l).mem_iff.1 (M7 (xs:=S6 l) (i:=(l.length-1)/2) (by omega)));have c:=a _ ((S8 l).mem_iff.1 (M7 (xs:=S6 l) (i:=l.length/2) (by omega)));refine C5 U Tryz.func33 U ⟨by kernel_rfl,U,dT U,dT U,by decide⟩ b9b<|A3<|A0<|y_S U<|xN [0] [] U<|A3<|A0<|y_M U ?_
 apply xC U
 ·apply B0
  ·exact B2 U
  exact C8
 ·exact c4z l (by omega)
 refine⟨⟨U,U,U,dT U,U⟩,.inl U,B6,G6,fun _=>U,fun g6=> ?_⟩;simp only[Zh,Q6]
 (refine xO U U (by simp) U (fun _=>U) (fun _=>U) ?_;intro g3)
 refine xN [3] [3] U<|A3<|A0<|y_M U<|H2 U U<|y_S U<|xN [3,4] [3] U<|A3<|A0<|y_M U<|y_M U<|J8 U U (B9 (by omega)) ?_
 rw[show((l.length:Int)-1)=((l.length-1:Nat):Int) by omega];refine a2f U U ⟨by omega,B9 (by rw[d1r];omega)⟩ ?_;rw[d1r];refine C6 U U U U (by omega) (by(simp;done)) U<|E4 U U (by omega) (fun _=>U) (fun _=>U) U<|y_M U<|y_M U<|a2f U U ⟨by omega,B9 (by rw[d1r];omega)⟩ ?_
 rw[d1r];refine C6 U U U U (by omega) (by(simp;done)) U<|E4 U U (by omega) (fun _=>U) (fun _=>U) U<|D6 U U (B9 (by omega))<|y_S U ?_
 refine G7 ⟨fun _=>⟨by decide+kernel,by decide+kernel⟩,[(.t 2,_)],⟨U,U,trivial⟩,?_⟩;refine A9<|C2 U U trivial ?_
 rfl
theorem c8m:D8 Tryz.f84=[0,2,3,11,15,14,16,20,19,21,18,7,5,29,8,6,39,4]:=by kernel_rfl
theorem f2p(l:List Int)(A:l.length<=1000):CW (cxT oG) 84 [L l]=some (.tup [iV (flX l).1,iV (flX l).2],[]):=by
 refine C5 U Tryz.func84 U ⟨by kernel_rfl,U,dT U,dT U,by decide⟩ c8m<|A3<|A0<|y_S U<|y_S U<|xN [0] [] U<|A3<|A3<|A0<|y_M U ?_
 refine xC1 U U (S9 l (by omega)) ⟨U,U,U⟩ U U fun g10=> ?_
 refine H5 U<|xN [0,11] [] U ?_
 refine A4 U ?_ ?_<;>intro a<;>try simp only[SL]at a
 ·refine A3<|A0<|y_S U<|y_S U<|xN [2,3] [] U<|A9<|B8 (C9 U U (C9 U U (C4 B3))) ?_
  (rw[d7f (by simp_all)];rfl)
 have d:vd l=true:=by simp_all
 obtain⟨j,f⟩:l.length<=10/\a0u (-200) 200 l=true:=by simpa[vd]using d
 have h:=fun i=>e0b f (by decide) i
 have q:2^l.length<=1024:=Ye (YI (by decide) j) (by decide);obtain⟨Z,e⟩:∃Z,Z=2^l.length:=⟨_,U⟩;rw[<-e]at q;have r:=b9d d;refine A6<|A3<|A0<|y_S U<|xN [0,4] [] U<|A3<|A3<|A0<|y_M U<|B7 U U<|e8o (x:=1) (y:=l.length) U U ⟨by omega,by rw[<-e];omega⟩ ?_
 rw[<-e,Nat.one_mul];refine y_M U<|xN [0,4,14,15] [] U<|A8<|D7 (β:=Nat×Nat) [(.t 0,_),(.t 14,_)] (fun(z:Nat×Nat)=>match z with|(S,m)=>[(.t 15,nV S),(.t 4,nV m)]) (fun(z:Nat×Nat)=>match z with|(S,m)=>S<=Z/\Fst l S m) (fun(z:Nat×Nat)=>match z with|(S,m)=>Z-S) (0,0) ⟨U,U,U,U,trivial⟩ ⟨Zt _,e5o⟩ ?_
 intro z g;obtain⟨S,m⟩:=z
 try dsimp only at g
 obtain⟨u,b⟩:=g;have w:=f4h b;refine A3<|A0<|F0 U U<|xN [0,4,14,15,16] [] U<|A3 ?_
 refine A4 U ?_ ?_<;>intro a<;>try simp only[SL]at a
 ·refine A6<|A3<|A8<|A3<|A0<|y_M U<|y_S U<|xN [0,4,5,14,15] [] U<|A3<|A0<|y_S U<|xN [0,4,5,6,14,15] [] U<|A3<|A3<|A0<|y_M U<|B7 U U<|y_M U<|xN [0,4,5,6,14,15,18,19,20] [] U<|A8<|D7 (β:=Nat×Int) [(.t 0,_),(.t 4,_),(.t 5,_),(.t 14,_),(.t 15,_),(.t 18,_),(.t 19,_)] (fun(z:Nat×Int)=>match z with|(i,n)=>[(.t 20,nV i),(.t 6,iV n)]) (fun(z:Nat×Int)=>match z with|(i,n)=>i<=l.length/\n=sgP l S i) (fun(z:Nat×Int)=>match z with|(i,n)=>l.length-i) (0,0) ⟨U,U,U,U,U,U,U,U,U,trivial⟩ ⟨Zt _,U⟩ ?_
  intro z g;obtain⟨i,n⟩:=z
  try dsimp only at g
  obtain⟨o,k⟩:=g;have v:=h i;have p:=e7d (S:=S) (fun i _=>h i) i o;rw[<-k]at p;refine A3<|A0<|F0 U U<|xN [0,4,5,6,14,15,18,19,20,21] [] U<|A3 ?_
  refine A4 U ?_ ?_<;>intro a<;>try simp only[SL]at a
  ·refine A6<|A3<|A8<|A3<|A0<|y_M U<|B4 U U U (fun _=>U) (by omega)<|y_I U<|y_S U<|y_S U<|xN [0,4,5,6,7,8,14,15,18,19,20] [] U<|A3<|A3<|A0<|y_M U<|y_M U<|f3h (x:=S) (y:=i) U U (by omega)<|f4p U U (Nat.lt_of_le_of_lt (Nat.div_le_self S _) (by omega))<|M9 U U<|xN [0,4,5,6,8,14,15,18,19,20,29] [] U ?_
   refine A4 U ?_ ?_<;>intro a<;>try simp only[SL]at a
   ·have c:=f5z a
    refine A0<|y_M U<|a4s U (B9 (by omega))<|y_S U<|xN [0,4,5,6,8,14,15,18,19,20] [] U<|A0<|y_M U<|y_M U<|D6 U U (B9 (by omega))<|y_S U<|xN [0,4,5,6,14,15,18,19,20] [] U<|A0<|D6 U U (B9 (by omega))<|y_M U<|xN [0,4,5,6,14,15,18,19,20] [] U ?_
    refine⟨(i+1,n+ -(l.getD i default)),?_,(by simp only;omega),⟨U,U,U,U,U,U,U,U,U,trivial⟩⟩;exact⟨by omega,by rw[c1f (by omega),if_pos c,<-k]⟩
   have c:=f5t a;refine A6<|A0<|y_M U<|y_M U<|D6 U U (B9 (by omega))<|y_S U<|xN [0,4,5,6,14,15,18,19,20] [] U<|A0<|D6 U U (B9 (by omega))<|y_M U<|xN [0,4,5,6,14,15,18,19,20] [] U ?_
   refine⟨(i+1,n+l.getD i default),?_,(by simp only;omega),⟨U,U,U,U,U,U,U,U,U,trivial⟩⟩;exact⟨by omega,by rw[c1f (by omega),if_neg (by simp[c]),<-k]⟩
  refine D5<|A3<|A0<|y_M U<|y_M U ?_
  refine xC1 U U (e7b l r) ⟨U,U,U⟩ U U fun s=> ?_
  refine c0e U U<|xN [0,4,14,15,39] [] U ?_
  refine A4 U ?_ ?_<;>intro a<;>try simp only[SL]at a
  ·refine A0<|y_M U<|D6 U U (B9 (by omega))<|y_S U<|xN [0,4,14,15] [] U<|A0<|D6 U U (B9 (by omega))<|y_M U<|xN [0,4,14,15] [] U ?_
   refine⟨(S+1,m+1),?_,(by simp only;omega),⟨U,U,U,U,trivial⟩⟩;exact⟨by omega,f1o b (by rw[<-show i=l.length by omega,<-k];omega)⟩
  refine A6<|A0<|D6 U U (B9 (by omega))<|y_M U<|xN [0,4,14,15] [] U ?_
  refine⟨(S+1,m),?_,(by simp only;omega),⟨U,U,U,U,trivial⟩⟩;exact⟨by omega,f3v b (by rw[<-show i=l.length by omega,<-k];omega)⟩
 refine D5<|A3<|A0<|y_M U<|y_M U<|B7 U U<|e8o (x:=1) (y:=l.length) U U ⟨by omega,by rw[<-e];omega⟩ ?_
 rw[<-e,Nat.one_mul];refine y_S U<|y_S U ?_
 refine G7 ⟨fun _=>⟨by decide+kernel,by decide+kernel⟩,[(.t 2,_),(.t 3,_)],⟨U,U,U,U,trivial⟩,?_⟩;refine A9<|B8 (C9 U U (C9 U U (C4 B3))) ?_
 (rw[c8h d,<-f1v b (by omega),<-e];rfl)
theorem d0b:D8 Tryz.f62=[0,1,4,7,9]:=by kernel_rfl
theorem f2d(l:List Int)(s:Int)(e:l.length<=10)(c:∀x∈l,-200<=x/\x<=200)(f:s+200*l.length<=100000/\-100000<=s-200*l.length):CW (cxT oG) 62 [L l,iV s]=some (nV (flN l s),[]):=by
 obtain⟨g,a⟩:∃g:Nat,l.length<g:=⟨_,ZK _⟩;revert l s
 induction g with
 |zero=>intro l s e c f a;exact absurd a (Yy _)
 |succ g j=>
  intro l s e c f a;refine C5 U Tryz.func62 U ⟨by kernel_rfl,U,dT U,dT U,by decide⟩ d0b<|A3<|A0<|y_S U<|xN [0,1] [] U<|A3<|A3<|A0 ?_
  rcases l with _|⟨v,l⟩
  ·skip
   refine y_M U<|B7 U U<|M9 U U<|xN [0,1,7] [] U ?_
   refine A4 U (fun b=> ?_) (fun b=>absurd b (by decide));refine A3<|A3<|A0<|y_M U<|a3j U U<|xN [9] [] U ?_
   refine A4 U ?_ ?_<;>intro b<;>try simp only[SL]at b
   ·refine A3<|A0<|y_S U<|xN [4] [] U<|A9<|C2 U U trivial ?_
    (rw[flN,if_pos (by assumption)];rfl)
   refine A6<|A3<|A0<|y_S U<|xN [4] [] U<|A9<|C2 U U trivial ?_
   (rw[flN,if_neg (by omega)];rfl)
  have p:=c v (List.mem_cons_self ..);have d:=fun s=>c9h l s
  have o:2^l.length<=1024:=Ye (YI (by decide) (show l.length<=10 by simp only[Zg]at e;omega)) (by decide);have m:=d (s-v);have n:=d (s+v);refine y_M U<|B7 U U<|M9 U U<|xN [0,1,7] [] U ?_
  refine A4 U (fun b=>absurd b (by exact fun h=>ZH (show false=true from h))) (fun b=> ?_);refine A6<|A3<|A0<|y_M U<|N7 U U U (Mv.sized_map fun _=>U) J9 (G2 U) (by(simp;done))<|y_M U<|y_M U<|B4 U U U (fun _=>U) (by(simp;done))<|y_I U ?_
  rw[show(v::l).getD 0 default=v from U];refine J8 U U (B9 (by omega)) ?_;rw[show((ZA iV (v::l)).drop 1).take ((ZA iV (v::l)).length-1)=l.map iV from by rw[Zy,Yg,ZX,ZC (by simp)]];refine xC2 U U U (j l (s-v) (by simp only[Zg]at e;omega) (fun x i=>c x (Zn _ i)) (by simp only[Zg,Int.natCast_add,Int.natCast_one]at f;omega) (by simp only[Zg]at a;omega)) ⟨U,U,U⟩ U U fun g17=> ?_
  refine y_M U<|N7 U U U (Mv.sized_map fun _=>U) J9 (G2 U) (by(simp;done))<|y_M U<|y_M U<|B4 U U U (fun _=>U) (by(simp;done))<|y_I U ?_
  rw[show(v::l).getD 0 default=v from U];refine D6 U U (B9 (by omega)) ?_;rw[show((ZA iV (v::l)).drop 1).take ((ZA iV (v::l)).length-1)=l.map iV from by rw[Zy,Yg,ZX,ZC (by simp)]];refine xC2 U U U (j l (s+v) (by simp only[Zg]at e;omega) (fun x i=>c x (Zn _ i)) (by simp only[Zg,Int.natCast_add,Int.natCast_one]at f;omega) (by simp only[Zg]at a;omega)) ⟨U,U,U⟩ U U fun k=> ?_
  refine D6 U U (B9 (by omega))<|y_S U ?_
  refine G7 ⟨fun _=>⟨by(simp only[V8,Zi,Zm,Zy,Yf,Zp];decide+kernel),by decide+kernel⟩,[(.t 4,_)],⟨U,U,trivial⟩,?_⟩;refine A9<|C2 U U trivial ?_
  rfl
theorem c8a:D8 Tryz.f64=[0,2,5,3]:=by kernel_rfl
theorem f1z(n:Nat)(c:n<=40):CW (cxT oG) 64 [iV n]=some (iV ((2^n:Nat):Int),[]):=by
 refine C5 U Tryz.func64 U ⟨by kernel_rfl,U,dT U,dT U,by decide⟩ c8a<|A3<|A0<|y_S U<|xN [0] [] U<|A3<|A0<|y_S U<|xN [0,3] [] U<|A3<|A8<|a5l (β:=Nat) (fun(k:Nat)=>[(.t 0,iV ((n-k:Nat):Int)),(.t 3,iV ((2^k:Nat):Int))]) (fun(k:Nat)=>k<=n) (fun(k:Nat)=>n-k) 0 ⟨U,U,trivial⟩ (Zt _) ?_
 intro k a;have d:=Nat.two_pow_pos k;have e:=YI (n:=2) (by decide) a;have f:=YI (n:=2) (by decide) c;refine A3<|A3<|A0<|y_M U<|M0 U U<|xN [0,3,5] [] U ?_
 refine A4 U ?_ ?_<;>intro b<;>try simp only[SL]at b
 ·refine A6<|A3<|A8<|A0<|y_M U<|a0o U U (B9 (by omega))<|y_S U<|xN [0,3] [] U<|A0<|y_M U<|J8 U U (B9 (by omega))<|y_S U<|xN [0,3] [] U ?_
  refine⟨k+1,by omega,by omega,?_⟩;rw[show((n-(k+1):Nat):Int)=((n-k:Nat):Int)-1 from by omega,show((2^(k+1):Nat):Int)=2*((2^k:Nat):Int)from by rw[Nat.pow_succ];omega];exact⟨U,U,trivial⟩
 refine D5<|A3<|A0<|y_M U<|y_S U<|xN [2] [] U<|A9<|C2 U U trivial ?_
 rw[show k=n from by omega]
theorem d0j:D8 Tryz.f38=[0,2,3,6]:=by kernel_rfl
theorem f2f(l:List Int)(o:l.length<=1000):CW (cxT oG) 38 [L l]=some (.tup [iV (flX l).1,iV (flX l).2],[]):=by
 refine C5 U Tryz.func38 U ⟨by kernel_rfl,U,dT U,dT U,by decide⟩ d0j<|A3<|A0<|y_S U<|y_S U<|xN [0] [] U<|A3<|A3<|A0<|y_M U ?_
 refine xC1 U U (Z2 l (by omega)) ⟨U,U,U⟩ U U fun g5=> ?_
 refine H5 U<|xN [0,6] [] U ?_
 refine A4 U ?_ ?_<;>intro k<;>try simp only[SL]at k
 ·refine A3<|A0<|y_S U<|y_S U<|xN [2,3] [] U<|A9<|B8 (C9 U U (C9 U U (C4 B3))) ?_
  (rw[d7f (by simp_all)];rfl)
 have c:vd l=true:=by simp_all
 obtain⟨a,d⟩:l.length<=10/\a0u (-200) 200 l=true:=by simpa[vd]using c
 have e:=fun i=>e0b d (by decide) i
 have f:2^l.length<=1024:=Ye (YI (by decide) a) (by decide);obtain⟨Z,j⟩:∃Z,Z=2^l.length:=⟨_,U⟩;rw[<-j]at f;have g:=b9d c;have n:=d9i (b:=200) l (fun x h=>by obtain⟨i,m,rfl⟩:=a1v h;exact e i);refine A6<|A3<|A0<|y_M U<|y_M U ?_
 refine xC1 U U (e8s l g) ⟨U,U,U⟩ U U fun g9=> ?_
 refine xC2 U U U (f2d l l.sum a (fun x h=>by obtain⟨i,m,rfl⟩:=a1v h;exact e i) (by omega)) ⟨U,U,U⟩ U U fun g10=> ?_
 refine y_M U<|B7 U U ?_
 refine xC1 U U (f1z l.length (by omega)) ⟨U,U,U⟩ U U fun g13=> ?_
 refine y_S U<|y_S U<|xN [2,3] [] U<|A9<|B8 (C9 U U (C9 U U (C4 B3))) ?_
 (rw[c8h c];rfl)
theorem d1n:D8 Tryz.f107=[0,1,4,6]:=by kernel_rfl
theorem e5n(a b:Int)(f: -4611686018427387904<=a/\a<=4611686018427387904)(c: -4611686018427387904<=b/\b<=4611686018427387904):CW (cxT oG) 107 [iV a,iV b]=some (iV (YD a b:Int),[]):=by
 refine C5 U Tryz.func107 U ⟨by kernel_rfl,U,dT U,dT U,by decide⟩ d1n<|A3<|A0<|y_S U<|xN [0,1] [] U<|A3<|A8<|a5l (β:=Int×Int) (fun(z:Int×Int)=>match z with|(x,y)=>[(.t 0,iV x),(.t 1,iV y)]) (fun(z:Int×Int)=>match z with|(x,y)=>YD x y=YD a b/\(-4611686018427387904<=x/\x<=4611686018427387904)/\(-4611686018427387904<=y/\y<=4611686018427387904)) (fun(z:Int×Int)=>match z with|(x,y)=>y.natAbs) (a,b) ⟨U,U,trivial⟩ ⟨U,f,c⟩ ?_
 intro z c;obtain⟨x,y⟩:=z
 try dsimp only at c
 obtain⟨e,h,g⟩:=c;refine A3<|A3<|A0<|y_M U<|a8f U U<|xN [0,1,6] [] U ?_
 refine A4 U ?_ ?_<;>intro d<;>try simp only[SL]at d
 ·refine A6<|A8<|A0<|y_M U<|y_M U<|y_M U<|e5i U U (by omega)<|y_S U<|y_S U ?_
  refine G7 ⟨fun _=>⟨by decide+kernel,by decide+kernel⟩,[(.t 0,_),(.t 1,_)],⟨U,U,U,U,trivial⟩,?_⟩;refine⟨(y,x.tmod y),⟨by rw[d2o];exact e,g,by have:=e0y x y;omega⟩,(by have:=e2d x d;simp only;omega),⟨U,U,trivial⟩⟩
 refine D5<|A3<|A0<|y_M U<|y_M U<|a4s U (B9 (by omega))<|c4w U U<|y_S U<|xN [4] [] U<|A9<|C2 U U trivial ?_
 subst d;rw[d9v,e]
theorem c7i:D8 Tryz.f78=[0,1,4,10,5]:=by kernel_rfl
theorem d0d(u d:Int)(hu: -4611686018427387904<=u/\u<=4611686018427387904)(f: -4611686018427387904<=d/\d<=4611686018427387904)(b:d≠0):CW (cxT oG) 78 [iV u,iV d]=some (qV (Rat.divInt u d),[]):=by
 have c:=e0s (u:=u) b;have i:=a4w (u:=u) b;have g:=e1i (u:=u) b;refine C5 U Tryz.func78 U ⟨by kernel_rfl,U,dT U,dT U,by decide⟩ c7i<|A3<|A0<|y_A U (fun _=>U) ?_
 intro g4;refine xN [0,1,4] [4] U<|A3<|A0<|y_M U<|y_M U ?_
 refine xC2 U U U (e5n u d hu f) ⟨U,U,U⟩ U U fun g8=> ?_
 refine y_S U<|xN [0,1,4,5] [4] U<|A3<|A3<|A0<|y_M U<|F0 U U<|xN [0,1,4,5,10] [4] U ?_
 refine A4 U ?_ ?_<;>intro e<;>try simp only[SL]at e
 ·refine A0<|y_M U<|a4s U (B9 (by omega))<|y_S U<|xN [0,1,4,5] [4] U<|A3<|A0<|y_M U<|y_M U ?_
  (have a:=f3k (u:=u) (d:=d) (by omega))
  refine a2f U U ⟨by omega,B9 (by rw[<-a.1];omega)⟩<|y_M U<|y_M U<|a2f U U ⟨by omega,B9 (by rw[<-a.2];omega)⟩<|I3 (fs:=[_,_]) U U U U U<|xB U U U U U U U U U ?_
  refine G7 ⟨fun _=>⟨by decide+kernel,by decide+kernel⟩,[(.t 4,_),(.h 4,_)],⟨U,U,U,U,trivial⟩,?_⟩;refine A9<|B8 (a4a U U U U U (C4 B3)) ?_
  rw[<-a.1,<-a.2]
  rfl
 refine A6<|A3<|A0<|y_M U<|y_M U ?_
 (have a:=c1y (u:=u) (d:=d) (by omega))
 refine a2f U U ⟨by omega,B9 (by rw[<-a.1];omega)⟩<|y_M U<|y_M U<|a2f U U ⟨by omega,B9 (by rw[<-a.2];omega)⟩<|I3 (fs:=[_,_]) U U U U U<|xB U U U U U U U U U ?_
 refine G7 ⟨fun _=>⟨by decide+kernel,by decide+kernel⟩,[(.t 4,_),(.h 4,_)],⟨U,U,U,U,trivial⟩,?_⟩;refine A9<|B8 (a4a U U U U U (C4 B3)) ?_
 rw[<-a.1,<-a.2]
 rfl
theorem d5l:D8 Tryz.f58=[0,1,4,7,5]:=by kernel_rfl
theorem e7o(a b:Int)(f: -4611686018427387904<=a/\a<=4611686018427387904)(c: -4611686018427387904<=b/\b<=4611686018427387904):CW (cxT oG) 58 [iV a,iV b]=some (iV (YD a b:Int),[]):=by
 refine C5 U Tryz.func58 U ⟨by kernel_rfl,U,dT U,dT U,by decide⟩ d5l<|A3<|A0<|y_S U<|xN [0,1] [] U<|A3<|A8<|a5l (β:=Int×Int) (fun(z:Int×Int)=>match z with|(x,y)=>[(.t 0,iV x),(.t 1,iV y)]) (fun(z:Int×Int)=>match z with|(x,y)=>YD x y=YD a b/\(-4611686018427387904<=x/\x<=4611686018427387904)/\(-4611686018427387904<=y/\y<=4611686018427387904)) (fun(z:Int×Int)=>match z with|(x,y)=>y.natAbs) (a,b) ⟨U,U,trivial⟩ ⟨U,f,c⟩ ?_
 intro z c;obtain⟨x,y⟩:=z
 try dsimp only at c
 obtain⟨e,h,g⟩:=c;refine A3<|A3<|A0<|y_M U<|a8f U U<|xN [0,1,7] [] U ?_
 refine A4 U ?_ ?_<;>intro d<;>try simp only[SL]at d
 ·refine A6<|A8<|A3<|A0<|y_M U<|y_M U<|e5i U U (by omega)<|y_S U<|xN [1,5] [] U<|A3<|A0<|y_M U<|y_S U<|xN [0,5] [] U<|A0<|y_M U<|y_S U<|xN [0,1] [] U ?_
  refine⟨(y,x.tmod y),⟨by rw[d2o];exact e,g,by have:=e0y x y;omega⟩,(by have:=e2d x d;simp only;omega),⟨U,U,trivial⟩⟩
 refine D5<|A3<|A0<|y_M U<|y_M U<|a4s U (B9 (by omega))<|c4w U U<|y_S U<|xN [4] [] U<|A9<|C2 U U trivial ?_
 subst d;rw[d9v,e]
theorem c6i:D8 Tryz.f32=[0,1,4,7,5]:=by kernel_rfl
theorem e0u(u d:Int)(hu: -4611686018427387904<=u/\u<=4611686018427387904)(f: -4611686018427387904<=d/\d<=4611686018427387904)(g:d≠0):CW (cxT oG) 32 [iV u,iV d]=some (qV (Rat.divInt u d),[]):=by
 refine C5 U Tryz.func32 U ⟨by kernel_rfl,U,dT U,dT U,by decide⟩ c6i<|A3<|A0<|y_A U (fun _=>U) ?_
 intro g4;refine xN [0,1,4] [4] U<|A3<|A3<|A0<|y_M U<|F0 U U<|xN [0,1,4,7] [4] U ?_
 refine A4 U ?_ ?_<;>intro e<;>try simp only[SL]at e
 ·refine A3<|A0<|y_M U<|a4s U (B9 (by omega))<|y_S U<|xN [0,1,4] [4] U<|A0<|y_M U<|a4s U (B9 (by omega))<|y_S U<|xN [0,1,4] [4] U<|A3<|A0<|y_M U<|y_M U ?_
  refine xC2 U U U ((by exact e7o (-u) (-d) (by omega) (by omega))) ⟨U,U,U⟩ U U fun g14=> ?_
  refine y_S U<|xN [0,1,4,5] [4] U<|A3<|A0<|y_M U<|y_M U ?_
  (have a:=c1y (u:= -u) (d:= -d) (by omega);have b:=e0s (u:= -u) (d:= -d) (by omega);have c:=a4w (u:= -u) (d:= -d) (by omega))
  refine a2f U U ⟨by omega,B9 (by rw[<-a.1];omega)⟩<|y_M U<|y_M U<|a2f U U ⟨by omega,B9 (by rw[<-a.2];omega)⟩<|I3 (fs:=[_,_]) U U U U U<|xB U U U U U U U U U ?_
  refine G7 ⟨fun _=>⟨by decide+kernel,by decide+kernel⟩,[(.t 4,_),(.h 4,_)],⟨U,U,U,U,trivial⟩,?_⟩;refine A9<|B8 (a4a U U U U U (C4 B3)) ?_
  rw[<-a.1,<-a.2]
  (rw[Rat.neg_divInt_neg];rfl)
 refine A6<|A3<|A0<|y_M U<|y_M U ?_
 refine xC2 U U U (by exact e7o u d hu f) ⟨U,U,U⟩ U U fun g14=> ?_
 refine y_S U<|xN [0,1,4,5] [4] U<|A3<|A0<|y_M U<|y_M U ?_
 (have a:=c1y (u:=u) (d:=d) (by omega);have b:=e0s (u:=u) (d:=d) (by omega);have c:=a4w (u:=u) (d:=d) (by omega))
 refine a2f U U ⟨by omega,B9 (by rw[<-a.1];omega)⟩<|y_M U<|y_M U<|a2f U U ⟨by omega,B9 (by rw[<-a.2];omega)⟩<|I3 (fs:=[_,_]) U U U U U<|xB U U U U U U U U U ?_
 refine G7 ⟨fun _=>⟨by decide+kernel,by decide+kernel⟩,[(.t 4,_),(.h 4,_)],⟨U,U,U,U,trivial⟩,?_⟩;refine A9<|B8 (a4a U U U U U (C4 B3)) ?_
 rw[<-a.1,<-a.2]
 rfl
theorem c9t:D8 Tryz.f139=[0,1,2,3,8,11,15,9,10,37]:=by kernel_rfl
theorem c8w(l:List Int)(o:l.length<=8)(a:∀x∈l,-30<=x/\x<=30)(i k:Nat)(n:i<=k/\k<l.length):CW (cxT oG) 139 [L l,L (U6 l.length),nV i,nV k]=some (qV (mq l i k),[]):=by
 have b:∀x,x<l.length->-30<=l.getD x default/\l.getD x default<=30:=fun x h=>a _ (M7 h)
 have p:=P1 l.length;refine C5 U Tryz.func139 U ⟨by kernel_rfl,U,dT U,dT U,by decide⟩ c9t<|A3<|A0<|y_A U (fun _=>U) ?_
 intro g8;refine xN [0,1,2,3,8] [8] U<|A3<|A0<|y_S U<|y_S U<|xN [0,1,2,3,8,9,10] [8] U<|A3<|A3<|A0<|y_M U<|y_S U<|xN [0,1,3,8,9,10,11] [8] U<|A8<|D7 (β:=Nat×Int×Nat) [(.t 0,_),(.t 1,_),(.t 3,_),(.t 8,_),(.h 8,_)] (fun(z:Nat×Int×Nat)=>match z with|(x,u,d)=>[(.t 11,nV x),(.t 9,iV u),(.t 10,nV d)]) (fun(z:Nat×Int×Nat)=>match z with|(x,u,d)=>i<=x/\x<=k+1/\u=((l.drop i).take (x-i)).sum/\d=x-i) (fun(z:Nat×Int×Nat)=>match z with|(x,u,d)=>k+1-x) (i,0,0) ⟨U,U,U,U,U,U,U,U,trivial⟩ ⟨Zd _,by omega,by rw[Nat.sub_self];rfl,by omega⟩ ?_
 intro z a;obtain⟨x,u,d⟩:=z
 try dsimp only at a
 obtain⟨e,q,hu,j⟩:=a;have c:=e5r o a i (x-i);rw[<-hu]at c;refine A3<|A3<|A0<|y_M U<|y_M U<|a3j U U<|xN [0,1,3,8,9,10,11,15] [8] U ?_
 refine A4 U ?_ ?_<;>intro g<;>try simp only[SL]at g
 ·refine A6<|A3<|A8<|A3<|A0<|y_M U<|y_M U<|y_M U<|B4 U U U (fun _=>U) (by omega)<|y_I U<|y_M U<|y_M U<|B4 U U U (fun _=>U) (by omega)<|y_I U ?_
  have m:=b x (by omega);rw[a4p (by omega)];refine a0o U U (B9 (by omega)) ?_;rw[Int.mul_one];refine D6 U U (B9 (by omega))<|y_S U ?_
  refine G7 ⟨fun _=>⟨by decide+kernel,by decide+kernel⟩,[(.t 0,_),(.t 1,_),(.t 3,_),(.t 8,_),(.t 9,_),(.t 10,_),(.t 11,_),(.h 8,_)],⟨U,U,U,U,U,U,U,U,U,U,U,U,U,U,U,U,trivial⟩,?_⟩;refine A0<|y_M U<|y_M U<|y_M U<|B4 U U U (fun _=>U) (by omega)<|y_I U ?_
  rw[a4p (by omega)];refine D6 U U (B9 (by omega))<|y_S U<|xN [0,1,3,8,9,10,11] [8] U<|A0<|y_M U<|D6 U U (B9 (by omega))<|y_S U<|xN [0,1,3,8,9,10,11] [8] U ?_
  refine⟨(x+1,u+l.getD x default,d+1),?_,(by simp only;omega),⟨U,U,U,U,U,U,U,U,trivial⟩⟩;exact⟨by omega,by omega,by rw[e0n e (by omega),<-hu],by omega⟩
 refine D5<|A3<|A0<|y_M U<|y_M U ?_
 refine xC2 U U U (d0d u (d:Int) (by omega) (by omega) (by omega)) ⟨U,U,U⟩ U U fun f=> ?_
 refine xB U U U U U U U U U<|xN [8] [8] U<|A9<|B8 (a4a U U U U U (C4 B3)) ?_
 rw[hu,j,show x=k+1 by omega]
 rfl
theorem c6n:D8 Tryz.f92=[0,1,2,3,8,11,15,9,10,37]:=by kernel_rfl
theorem b7v(l:List Int)(o:l.length<=8)(a:∀x∈l,-30<=x/\x<=30)(i k:Nat)(n:i<=k/\k<l.length):CW (cxT oG) 92 [L l,L (U6 l.length),nV i,nV k]=some (qV (mq l i k),[]):=by
 have b:∀x,x<l.length->-30<=l.getD x default/\l.getD x default<=30:=fun x h=>a _ (M7 h)
 have p:=P1 l.length;refine C5 U Tryz.func92 U ⟨by kernel_rfl,U,dT U,dT U,by decide⟩ c6n<|A3<|A0<|y_A U (fun _=>U) ?_
 intro g8;refine xN [0,1,2,3,8] [8] U<|A3<|A0<|y_S U<|xN [0,1,2,3,8,9] [8] U<|A3<|A0<|y_S U<|xN [0,1,2,3,8,9,10] [8] U<|A3<|A3<|A0<|y_M U<|y_S U<|xN [0,1,3,8,9,10,11] [8] U<|A8<|D7 (β:=Nat×Int×Nat) [(.t 0,_),(.t 1,_),(.t 3,_),(.t 8,_),(.h 8,_)] (fun(z:Nat×Int×Nat)=>match z with|(x,u,d)=>[(.t 11,nV x),(.t 9,iV u),(.t 10,nV d)]) (fun(z:Nat×Int×Nat)=>match z with|(x,u,d)=>i<=x/\x<=k+1/\u=((l.drop i).take (x-i)).sum/\d=x-i) (fun(z:Nat×Int×Nat)=>match z with|(x,u,d)=>k+1-x) (i,0,0) ⟨U,U,U,U,U,U,U,U,trivial⟩ ⟨Zd _,by omega,by rw[Nat.sub_self];rfl,by omega⟩ ?_
 intro z a;obtain⟨x,u,d⟩:=z
 try dsimp only at a
 obtain⟨e,q,hu,j⟩:=a;have c:=e5r o a i (x-i);rw[<-hu]at c;refine A3<|A3<|A0<|y_M U<|y_M U<|a3j U U<|xN [0,1,3,8,9,10,11,15] [8] U ?_
 refine A4 U ?_ ?_<;>intro g<;>try simp only[SL]at g
 ·refine A6<|A3<|A8<|A3<|A0<|y_M U<|y_M U<|y_M U<|B4 U U U (fun _=>U) (by omega)<|y_I U<|y_M U<|y_M U<|B4 U U U (fun _=>U) (by omega)<|y_I U ?_
  have m:=b x (by omega);rw[a4p (by omega)];refine a0o U U (B9 (by omega)) ?_;rw[Int.mul_one];refine D6 U U (B9 (by omega))<|y_S U ?_
  refine G7 ⟨fun _=>⟨by decide+kernel,by decide+kernel⟩,[(.t 0,_),(.t 1,_),(.t 3,_),(.t 8,_),(.t 9,_),(.t 10,_),(.t 11,_),(.h 8,_)],⟨U,U,U,U,U,U,U,U,U,U,U,U,U,U,U,U,trivial⟩,?_⟩;refine A0<|y_M U<|y_M U<|y_M U<|B4 U U U (fun _=>U) (by omega)<|y_I U ?_
  rw[a4p (by omega)];refine D6 U U (B9 (by omega))<|y_S U<|xN [0,1,3,8,9,10,11] [8] U<|A0<|y_M U<|D6 U U (B9 (by omega))<|y_S U<|xN [0,1,3,8,9,10,11] [8] U ?_
  refine⟨(x+1,u+l.getD x default,d+1),?_,(by simp only;omega),⟨U,U,U,U,U,U,U,U,trivial⟩⟩;exact⟨by omega,by omega,by rw[e0n e (by omega),<-hu],by omega⟩
 refine D5<|A3<|A0<|y_M U<|y_M U ?_
 refine xC2 U U U (e0u u (d:Int) (by omega) (by omega) (by omega)) ⟨U,U,U⟩ U U fun f=> ?_
 refine xB U U U U U U U U U<|xN [8] [8] U<|A9<|B8 (a4a U U U U U (C4 B3)) ?_
 rw[hu,j,show x=k+1 by omega]
 rfl
theorem c6p:D8 Tryz.f192=[0,1,4,3,2,5,33]:=by kernel_rfl
theorem f1d(p q:Rat)(o:Sm 1000000000 p)(hq:Sm 1000000000 q):CW (cxT oG) 192 [qV p,qV q]=some (qV (p+q),[]):=by
 obtain⟨e,f,k⟩:=o;obtain⟨g,i,j⟩:=hq;have s:=Q7 p;have v:=Q7 q;have m1:=b8o (x:=p.num) (y:=(q.den:Int)) ⟨e,f⟩ ⟨by omega,j⟩;have m2:=b8o (x:=q.num) (y:=(p.den:Int)) ⟨g,i⟩ ⟨by omega,k⟩;have m3:=b8o (x:=(p.den:Int)) (y:=(q.den:Int)) ⟨by omega,k⟩ ⟨by omega,j⟩;have m4:=b8o (x:=p.num) (y:=q.num) ⟨e,f⟩ ⟨g,i⟩;have r:=b0t p q;have n:=a4w (u:=(p.den:Int)) (d:=(q.den:Int)) (by omega);have m:=e1i (u:=(p.den:Int)) (d:=(q.den:Int)) (by omega);have t1:=d9u (a:=(q.den:Int)) (b:=(YD p.den q.den:Int)) (by omega) (by omega);have t2:=d9u (a:=(p.den:Int)) (b:=(YD p.den q.den:Int)) (by omega) (by omega);have w:=b8o (x:=p.num) (y:=(q.den:Int).tdiv (YD p.den q.den:Int)) (a:=1000000000) (b:=1000000000) ⟨e,f⟩ ⟨by omega,by omega⟩;have z:=b8o (x:=q.num) (y:=(p.den:Int).tdiv (YD p.den q.den:Int)) (a:=1000000000) (b:=1000000000) ⟨g,i⟩ ⟨by omega,by omega⟩;have A:=b8o (x:=(p.den:Int).tdiv (YD p.den q.den:Int)) (y:=(q.den:Int)) (a:=1000000000) (b:=1000000000) ⟨by omega,by omega⟩ ⟨by omega,j⟩;have c:=e2t p q;refine C5 U Tryz.func192 U ⟨by kernel_rfl,U,dT U,dT U,by decide⟩ c6p<|A3<|A0<|P3 U U U (fun _=>I8 U) (fun _=>U) ?_
 intro g2;refine P3 U U U (fun _=>I8 U) (fun _=>U) ?_;intro g3;refine y_A U (fun _=>U) ?_;intro g4;refine xN [2,3,4] [2,3,4] U<|A3<|A0<|y_F U<|y_L U<|y_F U<|y_L U ?_
 refine xC2 U U U (e5n (p.den:Int) (q.den:Int) (by omega) (by omega)) ⟨U,U,U⟩ U U fun g10=> ?_
 refine y_S U<|xN [2,3,4,5] [2,3,4] U<|A3<|A0<|y_F U<|y_L U<|y_F U<|y_L U<|y_M U<|a2f U U ⟨by omega,B9 (by omega)⟩<|a0o U U (B9 (by omega))<|y_F U<|y_L U<|y_F U<|y_L U<|y_M U<|a2f U U ⟨by omega,B9 (by omega)⟩<|a0o U U (B9 (by omega))<|D6 U U (B9 (by omega))<|y_F U<|y_L U<|y_M U<|a2f U U ⟨by omega,B9 (by omega)⟩<|y_F U<|y_L U<|a0o U U (B9 (by omega)) ?_
 refine xC2 U U U (d0d _ _ (by omega) (by omega) c) ⟨U,U,U⟩ U U fun l=> ?_
 refine xB U U U U U U U U U ?_;refine G7 ⟨fun _=>⟨by(simp only[V8,Zi,Zm,Zy,Yf,Zp];decide+kernel),by decide+kernel⟩,[(.t 4,_),(.h 4,_)],⟨U,U,U,U,trivial⟩,?_⟩;refine A9<|B8 (a4a U U U U U (C4 B3)) ?_
 rw[<-f2j]
 rfl
theorem c3f:D8 Tryz.f178=[0,1,4,3,2,12]:=by kernel_rfl
theorem e7v(p q:Rat)(a:Sm 1000000000 p)(hq:Sm 1000000000 q):CW (cxT oG) 178 [qV p,qV q]=some (qV (p-q),[]):=by
 obtain⟨c,d,b⟩:=id hq;refine C5 U Tryz.func178 U ⟨by kernel_rfl,U,dT U,dT U,by decide⟩ c3f<|A3<|A0<|P3 U U U (fun _=>I8 U) (fun _=>U) ?_
 intro g2;refine P3 U U U (fun _=>I8 U) (fun _=>U) ?_;intro g3;refine y_A U (fun _=>U) ?_;intro g4;refine xN [2,3,4] [2,3,4] U<|A3<|A0<|y_B U<|y_F U<|y_L U<|a4s U (B9 (by omega))<|y_F U<|y_L U<|I3 (fs:=[_,_]) U U U U U ?_
 refine xC2 U U U (f1d p (-q) a (show Sm 1000000000 (-q)from⟨by rw[(d9x q).1];omega,by rw[(d9x q).1];omega,b⟩)) ⟨U,U,U⟩ U U fun g12=> ?_
 refine xB U U U U U U U U U<|xN [4] [4] U<|A9<|B8 (a4a U U U U U (C4 B3)) ?_
 rw[Rat.sub_eq_add_neg]
 rfl
theorem c6l:D8 Tryz.f158=[0,1,4,3,2]:=by kernel_rfl
theorem f0j(p q:Rat)(a:Sm 1000000000 p)(hq:Sm 1000000000 q):CW (cxT oG) 158 [qV p,qV q]=some (bV (decide (p<q)),[]):=by
 refine C5 U Tryz.func158 U ⟨by kernel_rfl,U,dT U,dT U,by decide⟩ c6l<|A3<|A0<|P3 U U U (fun _=>I8 U) (fun _=>U) ?_
 intro g2;refine P3 U U U (fun _=>I8 U) (fun _=>U) ?_;intro g3;refine y_S U<|xN [2,3] [2,3] U<|A3<|A0<|y_B U<|y_B U ?_
 refine xC2 U U U (e7v p q a hq) ⟨U,U,U⟩ U U fun g7=> ?_
 refine f0m U U U U<|F0 U U<|y_S U<|xN [4] [] U<|A9<|C2 U U trivial ?_
 exact congrArg bV (decide_eq_decide.2 (f3e p q))
theorem c8p:D8 Tryz.f93=[0,1,4,2,3]:=by kernel_rfl
theorem f1e(p q:Rat)(g:Sm 1000000000 p)(hq:Sm 1000000000 q):CW (cxT oG) 93 [qV p,qV q]=some (bV (decide (p<q)),[]):=by
 obtain⟨a,b,c⟩:=g;obtain⟨d,e,f⟩:=hq;have i:=Q7 p;have j:=Q7 q;have m1:=b8o (x:=p.num) (y:=(q.den:Int)) ⟨a,b⟩ ⟨by omega,f⟩;have m2:=b8o (x:=q.num) (y:=(p.den:Int)) ⟨d,e⟩ ⟨by omega,c⟩;have m3:=b8o (x:=(p.den:Int)) (y:=(q.den:Int)) ⟨by omega,c⟩ ⟨by omega,f⟩;have m4:=b8o (x:=p.num) (y:=q.num) ⟨a,b⟩ ⟨d,e⟩;have h:=b0t p q;refine C5 U Tryz.func93 U ⟨by kernel_rfl,U,dT U,dT U,by decide⟩ c8p<|A3<|A0<|P3 U U U (fun _=>I8 U) (fun _=>U) ?_
 intro g2;refine P3 U U U (fun _=>I8 U) (fun _=>U) ?_;intro g3;refine y_S U<|xN [2,3] [2,3] U<|A3<|A0<|y_F U<|y_L U<|y_F U<|y_L U<|a0o U U (B9 (by omega))<|y_F U<|y_L U<|y_F U<|y_L U<|a0o U U (B9 (by omega))<|F0 U U<|y_S U<|xN [4] [] U<|A9<|C2 U U trivial ?_
 exact congrArg bV (decide_eq_decide.2 (Rat.lt_iff p q).symm)
theorem c3m:D8 Tryz.f138=[0,1,4,10,9,11,6,5,7,47]:=by kernel_rfl
theorem e5l(l:List Int)(m:l.length<=8)(b:∀x∈l,-30<=x/\x<=30):CW (cxT oG) 138 [L l,L (U6 l.length)]=some (.own 1 ((goO (poolN l l.length)).map iV),[]):=by
 have B:∀x,x<l.length->-30<=l.getD x default/\l.getD x default<=30:=fun x h=>b _ (M7 h)
 have F:=P1 l.length;refine C5 U Tryz.func138 U ⟨by kernel_rfl,U,dT U,dT U,by decide⟩ c3m<|A3<|A0 ?_
 (refine B1 U U (fun _=>U) ?_;intro g4)
 refine xN [0,1] [] U<|A3<|A0 ?_
 (refine B1 U U (fun _=>U) ?_;intro g5)
 refine xN [0,1,5] [5] U<|A3<|A3<|A0<|y_M U<|B7 U U<|y_M U<|xN [0,1,5,9,10] [5] U<|A8<|D7 (β:=Nat×List Nat×Nat) [(.t 0,_),(.t 1,_),(.t 9,_)] (fun(z:Nat×List Nat×Nat)=>match z with|(k,st,g)=>[(.t 10,nV k),(.t 5,.sl 5 g none 0 (goO st).length),(.h 5,.obj g 0 1 ((goO st).map iV))]) (fun(z:Nat×List Nat×Nat)=>match z with|(k,st,g)=>k<=l.length/\st=poolN l k) (fun(z:Nat×List Nat×Nat)=>match z with|(k,st,g)=>l.length-k) (0,[],_) ⟨U,U,U,U,U,U,trivial⟩ ⟨Zt _,U⟩ ?_
 intro z b;obtain⟨k,st,g⟩:=z
 try dsimp only at b
 obtain⟨D,c⟩:=b;have G:=(a4u l k).1;have q:=L6 st;have s:st.length<=k:=by subst c;exact a7x l k
 refine A3<|A0<|F0 U U<|xN [0,1,5,9,10,11] [5] U<|A3 ?_
 refine A4 U ?_ ?_<;>intro e<;>try simp only[SL]at e
 ·refine A6<|A3<|A8<|A3<|A0<|y_M U<|y_S U<|xN [0,1,5,6,9,10] [5] U<|A3<|A0<|y_M U<|y_M U<|C0 (es:=ZA iV [(k:Int)]) U U (dT U) U U (fun _=>B5 (A7 fun _=>U)) (fun _=>U) ?_
  intro g15;refine xA U U U U (by simp) (by simp) U U U U U (fun _=>U) (by simp only[LN];omega) (fun _=>U) ?_;intro g16
  (refine xO U U (by simp) U (fun _=>U) (fun _=>U) ?_;intro g5)
  refine xN [0,1,5,6,9,10] [5] U<|A3<|A0 ?_
  rw[d3a];refine y_M U<|H2 U U<|y_S U<|xN [0,1,5,6,7,9,10] [5] U<|A8<|D7 (β:=List Nat×Nat) [(.t 0,_),(.t 1,_),(.t 6,_),(.t 9,_),(.t 10,_)] (fun(z:List Nat×Nat)=>match z with|(a,g1)=>[(.t 5,.sl 5 g1 none 0 (goO a).length),(.h 5,.obj g1 0 1 ((goO a).map iV)),(.t 7,nV (goO a).length)]) (fun(z:List Nat×Nat)=>match z with|(a,g1)=>pop l k a=poolN l (k+1)/\Stk (k+1) a/\a≠[]) (fun(z:List Nat×Nat)=>match z with|(a,g1)=>a.length) (k::st,_) ⟨U,U,U,U,U,U,U,U,trivial⟩ (d2x c) ?_
  intro z b;obtain⟨a,g1⟩:=z
  try dsimp only at b
  obtain⟨f,d,i⟩:=b;have r:=c9r d.1 d.2.1;have C:=L6 a;have E:=List.length_pos_iff.2 i;refine A3<|A3<|A0<|y_M U<|M0 U U<|y_M U ?_
  refine D3 U U ?_ ?_<;>intro n<;>have A:=n<;>try simp only[SG]at A
  ·refine y_M U<|gT U U<|y_M U<|gT U U<|y_M U<|gT U U<|y_M U<|gT U U<|J8 U U (B9 (by omega))<|gT U U ?_
   rw[show(((goO a).length:Nat):Int)-2=((a.length-1-1:Nat):Int) by rw[L6];omega];refine C6 U U U U (by omega) (by(simp;done)) U<|gT U U<|E4 U U (by omega) (fun _=>U) (fun _=>U) U<|gT U U ?_
   rw[a9b (j:=1) (by omega)];refine y_M U<|gT U U<|y_M U<|gT U U<|J8 U U (B9 (by omega))<|gT U U ?_
   rw[show(((goO a).length:Nat):Int)-1=((a.length-1-0:Nat):Int) by rw[L6];omega];refine C6 U U U U (by omega) (by(simp;done)) U<|gT U U<|E4 U U (by omega) (fun _=>U) (fun _=>U) U<|gT U U ?_
   rw[a9b (j:=0) (by omega)];have H:=e0e d (by omega);refine J8 U U (B9 (by omega))<|gT U U ?_
   rw[show((a.getD 0 default:Nat):Int)-1=((a.getD 0 default-1:Nat):Int) by omega];apply xC U
   ·apply B0
    ·exact B2 U
    apply B0
    ·exact B2 U
    apply B0
    ·exact B2 U
    apply B0
    ·exact B2 U
    exact C8
   ·exact c8w l m b (a.getD 1 default) (a.getD 0 default-1) (by omega)
   refine⟨⟨U,U,U,dT U,U⟩,.inl U,B6,F7 U,fun _=>U,fun u=> ?_⟩;refine gT U U<|y_M U<|gT U U<|y_M U<|gT U U<|y_M U<|gT U U<|y_M U<|gT U U<|J8 U U (B9 (by omega))<|gT U U ?_
   rw[show(((goO a).length:Nat):Int)-1=((a.length-1-0:Nat):Int) by rw[L6];omega];refine C6 U U U U (by omega) (by(simp;done)) U<|gT U U<|E4 U U (by omega) (fun _=>U) (fun _=>U) U<|gT U U ?_
   rw[a9b (j:=0) (by omega)];refine y_M U<|gT U U ?_
   apply xC U
   ·apply B0
    ·exact B2 U
    apply B0
    ·exact B2 U
    apply B0
    ·exact B2 U
    apply B0
    ·exact B2 U
    exact C8
   ·exact c8w l m b (a.getD 0 default) k (by omega)
   refine⟨⟨U,U,U,dT U,U⟩,.inl U,B6,F7 U,fun _=>U,fun v=> ?_⟩;refine gT U U ?_;refine xC2 U U U (f0j (mq l (a.getD 1 default) (a.getD 0 default-1)) (mq l (a.getD 0 default) k) ((d5b m b (by omega)).mono (by decide)) ((d5b m b (by omega)).mono (by decide))) ⟨U,U,U⟩ U U fun w=> ?_
   refine gT U U<|H5 U<|E9 U (by assumption) U U ?_
   refine G7 ⟨fun _=>⟨by(simp only[V8,Zi,Zm,Zy,Yf,Zp];decide+kernel),by decide+kernel⟩,[(.t 0,_),(.t 1,_),(.t 5,_),(.t 6,_),(.t 7,_),(.t 9,_),(.t 10,_),(.t 47,_),(.h 5,_)],⟨U,U,U,U,U,U,U,U,U,U,U,U,U,U,U,U,U,U,trivial⟩,?_⟩;refine A4 U ?_ ?_<;>intro e<;>try simp only[SL]at e
   ·have p:e3a l k a:=⟨by omega,by exact e⟩
    refine A6<|A3<|A8<|A0<|y_M U<|y_M U<|J8 U U (B9 (by omega)) ?_
    try rw[<-List.map_take]
    rw[show(((goO a).length:Nat):Int)-1=((a.length-1:Nat):Int) by rw[L6];omega];refine a3i U U U (G2 U) (by omega) U<|a6o U U (by simp) (by rw[<-List.map_take];exact B5 (A7 fun _=>U)) U ?_
    rw[<-List.map_take,d4m i,show a.length-1=(goO a.tail).length by rw[L6,Xu]];refine xN [0,1,5,6,9,10] [5] U<|A0<|y_M U<|H2 U U<|y_S U<|xN [0,1,5,6,7,9,10] [5] U ?_
    refine⟨(a.tail,_),?_,(by simp only;rw[Xu];omega),⟨U,U,U,U,U,U,U,U,trivial⟩⟩;exact⟨by rw[<-e0t p];exact f,d3t d (by omega)⟩
   have o:¬e3a l k a:=fun h=>h.2 (by simpa using e)
   refine D5<|A0<|D6 U U (B9 (by omega))<|y_M U<|xN [0,1,5,9,10] [5] U ?_
   refine⟨(k+1,a,g1),?_,(by simp only;omega),⟨U,U,U,U,U,U,trivial⟩⟩;exact⟨by omega,by rw[<-f,c8t o]⟩
  iterate 24 refine gF U U ?_
  refine E8 U (by assumption) U U ?_;refine G7 ⟨fun _=>⟨by decide+kernel,by decide+kernel⟩,[(.t 0,_),(.t 1,_),(.t 5,_),(.t 6,_),(.t 7,_),(.t 9,_),(.t 10,_),(.t 47,_),(.h 5,_)],⟨U,U,U,U,U,U,U,U,U,U,U,U,U,U,U,U,U,U,trivial⟩,?_⟩;refine A4 U (fun e=>absurd e (by decide)) (fun e=> ?_);refine D5<|A0<|D6 U U (B9 (by omega))<|y_M U<|xN [0,1,5,9,10] [5] U ?_
  refine⟨(k+1,a,g1),?_,(by simp only;omega),⟨U,U,U,U,U,U,trivial⟩⟩;exact⟨by omega,by rw[<-f,c8t fun h=>by have:=h.1;omega]⟩
 refine D5<|A3<|A0<|y_M U ?_
 apply xC U
 ·apply B0
  ·exact b1s U U (by(simp;done)) (A7 fun _=>U)
  exact C8
 ·exact c6v (goO st) (by simp only[H6,L6];omega)
 refine⟨⟨U,U,U,dT U,U⟩,.inl U,B6,G6,fun _=>U,fun y=> ?_⟩;simp only[Zh]
 (refine xO U U (by simp) U (fun _=>U) (fun _=>U) ?_;intro g4)
 refine xN [4] [4] U<|A9<|I6 U U (by simp) (by exact A7 fun _=>U) trivial ?_
 rw[c,show k=l.length by omega]
theorem d4f:D8 Tryz.f61=[0,1,4,6,14,5,23,7,9,8,51,39,48]:=by kernel_rfl
theorem f4e(l:List Int)(m:l.length<=8)(b:∀x∈l,-30<=x/\x<=30):CW (cxT oG) 61 [L l,L (U6 l.length)]=some (.own 1 ((goO (poolN l l.length)).map iV),[]):=by
 have w:∀x,x<l.length->-30<=l.getD x default/\l.getD x default<=30:=fun x h=>b _ (M7 h)
 have C:=P1 l.length;refine C5 U Tryz.func61 U ⟨by kernel_rfl,U,dT U,dT U,by decide⟩ d4f<|A3<|A0 ?_
 (refine B1 U U (fun _=>U) ?_;intro g4)
 refine xN [0,1] [] U<|A3<|A0<|C0 (es:=ZA iV []) U U (dT U) U U (fun _=>B5 (A7 fun _=>U)) (fun _=>U) ?_
 intro g10
 (refine xO U U (by simp) U (fun _=>U) (fun _=>U) ?_;intro g5)
 refine xN [0,1,5] [5] U<|A3<|A3<|A0<|y_S U<|xN [0,1,5,6] [5] U<|A8<|D7 (β:=Nat×List Nat×Nat) [(.t 0,_),(.t 1,_)] (fun(z:Nat×List Nat×Nat)=>match z with|(k,st,g)=>[(.t 6,nV k),(.t 5,.sl 5 g none 0 (goO st).length),(.h 5,.obj g 0 1 ((goO st).map iV))]) (fun(z:Nat×List Nat×Nat)=>match z with|(k,st,g)=>k<=l.length/\st=poolN l k) (fun(z:Nat×List Nat×Nat)=>match z with|(k,st,g)=>l.length-k) (0,[],_) ⟨U,U,U,U,U,trivial⟩ ⟨Zt _,U⟩ ?_
 intro z b;obtain⟨k,st,g⟩:=z
 try dsimp only at b
 obtain⟨A,c⟩:=b;have D:=(a4u l k).1;have p:=L6 st;have r:st.length<=k:=by subst c;exact a7x l k
 refine A3<|A3<|A0<|y_M U<|y_M U<|B7 U U<|F0 U U<|xN [0,1,5,6,14] [5] U ?_
 refine A4 U ?_ ?_<;>intro e<;>try simp only[SL]at e
 ·refine A6<|A3<|A8<|A3<|A0<|y_M U<|y_M U<|C0 (es:=ZA iV [(k:Int)]) U U (dT U) U U (fun _=>B5 (A7 fun _=>U)) (fun _=>U) ?_
  intro g19;refine xA U U U U (by simp) (by simp) U U U U U (fun _=>U) (by simp only[LN];omega) (fun _=>U) ?_;intro g20
  (refine xO U U (by simp) U (fun _=>U) (fun _=>U) ?_;intro g5)
  refine xN [0,1,5,6] [5] U<|A8 ?_
  rw[d3a];refine D7 (β:=List Nat×Nat) [(.t 0,_),(.t 1,_),(.t 6,_)] (fun(z:List Nat×Nat)=>match z with|(a,g1)=>[(.t 5,.sl 5 g1 none 0 (goO a).length),(.h 5,.obj g1 0 1 ((goO a).map iV))]) (fun(z:List Nat×Nat)=>match z with|(a,g1)=>pop l k a=poolN l (k+1)/\Stk (k+1) a/\a≠[]) (fun(z:List Nat×Nat)=>match z with|(a,g1)=>a.length) (k::st,_) ⟨U,U,U,U,U,trivial⟩ (d2x c) ?_;intro z b;obtain⟨a,g1⟩:=z
  try dsimp only at b
  obtain⟨f,d,i⟩:=b;have q:=c9r d.1 d.2.1;have y:=L6 a;have B:=List.length_pos_iff.2 i;refine A3<|A3<|A0<|y_M U<|H2 U U<|M0 U U<|xN [0,1,5,6,23] [5] U ?_
  refine A4 U ?_ ?_<;>intro e<;>try simp only[SL]at e
  ·refine A6<|A8<|A3<|A0<|y_M U<|H2 U U<|y_S U<|xN [0,1,5,6,7] [5] U<|A3<|A0<|y_M U<|y_M U<|y_M U<|y_M U<|J8 U U (B9 (by omega)) ?_
   rw[show(((goO a).length:Nat):Int)-2=((a.length-1-1:Nat):Int) by rw[L6];omega];refine C6 U U U U (by omega) (by(simp;done)) U<|E4 U U (by omega) (fun _=>U) (fun _=>U) U ?_
   rw[a9b (j:=1) (by omega)];refine y_M U<|y_M U<|J8 U U (B9 (by omega)) ?_
   rw[show(((goO a).length:Nat):Int)-1=((a.length-1-0:Nat):Int) by rw[L6];omega];refine C6 U U U U (by omega) (by(simp;done)) U<|E4 U U (by omega) (fun _=>U) (fun _=>U) U ?_
   rw[a9b (j:=0) (by omega)];have E:=e0e d (by omega);refine J8 U U (B9 (by omega)) ?_;rw[show((a.getD 0 default:Nat):Int)-1=((a.getD 0 default-1:Nat):Int) by omega];apply xC U
   ·apply B0
    ·exact B2 U
    apply B0
    ·exact B2 U
    apply B0
    ·exact B2 U
    apply B0
    ·exact B2 U
    exact C8
   ·exact b7v l m b (a.getD 1 default) (a.getD 0 default-1) (by omega)
   refine⟨⟨U,U,U,dT U,U⟩,.inl U,B6,F7 U,fun _=>U,fun s=> ?_⟩;refine y_A U (fun _=>U) ?_;intro g8;refine xB U U U U U U U U U ?_;refine G7 ⟨fun _=>⟨by(simp only[V8,Zi,Zm,Zy,Yf,Zp];decide+kernel),by decide+kernel⟩,[(.t 0,_),(.t 1,_),(.t 5,_),(.t 6,_),(.t 7,_),(.t 8,_),(.h 5,_),(.h 8,_)],⟨U,U,U,U,U,U,U,U,U,U,U,U,U,U,U,U,trivial⟩,?_⟩;refine A3<|A0<|y_M U<|y_M U<|y_M U<|y_M U<|J8 U U (B9 (by omega)) ?_
   rw[show(((goO a).length:Nat):Int)-1=((a.length-1-0:Nat):Int) by rw[L6];omega];refine C6 U U U U (by omega) (by(simp;done)) U<|E4 U U (by omega) (fun _=>U) (fun _=>U) U ?_
   rw[a9b (j:=0) (by omega)];refine y_M U ?_;apply xC U
   ·apply B0
    ·exact B2 U
    apply B0
    ·exact B2 U
    apply B0
    ·exact B2 U
    apply B0
    ·exact B2 U
    exact C8
   ·exact b7v l m b (a.getD 0 default) k (by omega)
   refine⟨⟨U,U,U,dT U,U⟩,.inl U,B6,F7 U,fun _=>U,fun u=> ?_⟩;refine y_A U (fun _=>U) ?_;intro g9;refine xB U U U U U U U U U<|xN [0,1,5,6,7,8,9] [5,8,9] U<|A3<|A3<|A0<|y_B U<|y_B U ?_
   refine xC2 U U U (f1e (mq l (a.getD 1 default) (a.getD 0 default-1)) (mq l (a.getD 0 default) k) ((d5b m b (by omega)).mono (by decide)) ((d5b m b (by omega)).mono (by decide))) ⟨U,U,U⟩ U U fun v=> ?_
   refine xN [0,1,5,6,7,51] [5] U ?_;refine A4 U ?_ ?_<;>intro e<;>try simp only[SL]at e
   ·have n:¬e3a l k a:=fun h=>h.2 (by exact e)
    refine D5<|A0<|y_M U<|D6 U U (B9 (by omega))<|y_S U<|xN [0,1,5,6] [5] U ?_
    refine⟨(k+1,a,g1),?_,(by simp only;omega),⟨U,U,U,U,U,trivial⟩⟩;exact⟨by omega,by rw[<-f,c8t n]⟩
   have o:e3a l k a:=⟨by omega,by exact e⟩;refine A6<|A0<|y_M U<|y_M U<|J8 U U (B9 (by omega)) ?_
   try rw[<-List.map_take]
   rw[show(((goO a).length:Nat):Int)-1=((a.length-1:Nat):Int) by rw[L6];omega];refine a3i U U U (G2 U) (by omega) U<|a6o U U (by simp) (by rw[<-List.map_take];exact B5 (A7 fun _=>U)) U ?_
   rw[<-List.map_take,d4m i,show a.length-1=(goO a.tail).length by rw[L6,Xu]];refine xN [0,1,5,6] [5] U ?_;refine⟨(a.tail,_),?_,(by simp only;rw[Xu];omega),⟨U,U,U,U,U,trivial⟩⟩;exact⟨by rw[<-e0t o];exact f,d3t d (by omega)⟩
  refine D5<|A0<|y_M U<|D6 U U (B9 (by omega))<|y_S U<|xN [0,1,5,6] [5] U ?_
  refine⟨(k+1,a,g1),?_,(by simp only;omega),⟨U,U,U,U,U,trivial⟩⟩;exact⟨by omega,by rw[<-f,c8t fun h=>by have:=h.1;omega]⟩
 refine D5<|A3<|A0<|y_M U ?_
 (refine xO U U (by simp) U (fun _=>U) (fun _=>U) ?_;intro g4)
 refine xN [4] [4] U<|A9<|I6 U U (by simp) (by exact A7 fun _=>U) trivial ?_
 rw[c,show k=l.length by omega]
theorem d5o:D8 Tryz.f109=[0,1,4]:=by kernel_rfl
theorem f4w(l:List Int)(c:l.length<=1000):CW (cxT oG) 109 [L l,L (U6 l.length)]=some (bV (vlo l),[]):=by
 refine C5 U Tryz.func109 U ⟨by kernel_rfl,U,dT U,dT U,by decide⟩ d5o<|A3<|A0<|y_S U<|xN [0,1] [] U<|A3<|A0<|y_M U<|B7 U U ?_
 refine xC3 U U U U (f3n _ _ _) ⟨U,U,U⟩ U U fun g7=> ?_
 refine y_M U ?_;refine D3 U U ?_ ?_<;>intro a<;>have b:=a<;>try simp only[SG]at b
 ·refine y_M U<|gT U U<|B7 U U<|gT U U<|y_M U<|gT U U<|B7 U U<|gT U U<|M9 U U<|E9 U (by assumption) U U<|y_M U ?_
  refine D3 U U ?_ ?_<;>intro a<;>have b:=a<;>try simp only[SG]at b
  ·refine y_M U<|gT U U ?_
   refine xC3 U U U U (b2q l c (-30) 30) ⟨U,U,U⟩ U U fun g17=> ?_
   refine E9 U (by assumption) U U<|y_M U ?_
   refine D3 U U ?_ ?_<;>intro a<;>have b:=a<;>try simp only[SG]at b
   ·refine y_M U<|gT U U ?_
    refine xC3 U U U U (b2q (U6 l.length) (by rw[P1];exact c) 1 5) ⟨U,U,U⟩ U U fun g21=> ?_
    rw[e3t];refine E9 U (by assumption) U U<|y_S U<|xN [4] [] U<|A9<|C2 U U trivial ?_
    (simp_all[vlo,ofConst];omega)
   refine gF U U<|E8 U (by assumption) U U<|y_S U<|xN [4] [] U<|A9<|C2 U U trivial ?_
   (simp_all[vlo,ofConst];done)
  refine gF U U<|E8 U (by assumption) U U<|y_M U<|H4 U U U<|H4 U U U<|E8 U U U U<|y_S U<|xN [4] [] U<|A9<|C2 U U trivial ?_
  (simp_all[vlo,ofConst];done)
 iterate 4 refine gF U U ?_
 refine E8 U (by assumption) U U<|y_M U<|H4 U U U<|H4 U U U<|E8 U U U U<|y_M U<|H4 U U U<|H4 U U U<|E8 U U U U<|y_S U<|xN [4] [] U<|A9<|C2 U U trivial ?_
 (simp_all[vlo,ofConst];omega)
theorem d5k:D8 Tryz.f34=[0,1,4,5,10,18,6,22,30]:=by kernel_rfl
theorem e8f(l:List Int)(u:l.length<=1000):CW (cxT oG) 34 [L l,L (U6 l.length)]=some (bV (vlo l),[]):=by
 refine C5 U Tryz.func34 U ⟨by kernel_rfl,U,dT U,dT U,by decide⟩ d5k<|A3<|A0<|y_S U<|xN [0,1] [] U<|A3<|A3<|A0<|y_S U<|xN [0,1,5] [] U<|A8<|D7 (β:=Nat) [(.t 0,_),(.t 1,_)] (fun(i:Nat)=>[(.t 5,iV i)]) (fun(i:Nat)=>i<=l.length) (fun(i:Nat)=>l.length-i) 0 ⟨U,U,U,trivial⟩ (Zt _) ?_
 intro i e;have p:=e;have s:=P1 l.length;refine A3<|A3<|A0<|y_M U<|y_M U<|B7 U U<|F0 U U<|xN [0,1,5,10] [] U ?_
 refine A4 U ?_ ?_<;>intro b<;>try simp only[SL]at b
 ·refine A6<|A3<|A8<|A3<|A0<|y_M U<|y_M U<|B4 U U U (fun _=>U) (by omega)<|y_I U ?_
  rw[a4p (by simpa using b)];refine xC3 U U U U (a0x _ _ _) ⟨U,U,U⟩ U U fun g17=> ?_
  refine H5 U<|xN [0,1,5,18] [] U ?_
  refine A4 U (fun b=> ?_) (fun b=> ?_)
  ·try simp only[SD]at b
   simp at b
  try simp only[SL]at b
  refine A6<|A0<|y_M U<|D6 U U (B9 (by omega))<|y_S U<|xN [0,1,5] [] U ?_
  refine⟨i+1,(by omega),(by omega),⟨U,U,U,trivial⟩⟩
 refine D5<|A3<|A3<|A0<|y_S U<|xN [0,1,6] [] U<|A8<|D7 (β:=Nat) [(.t 0,_),(.t 1,_)] (fun(k:Nat)=>[(.t 6,iV k)]) (fun(k:Nat)=>k<=l.length/\∀j,j<k->-30<=l.getD j default/\l.getD j default<=30) (fun(k:Nat)=>l.length-k) 0 ⟨U,U,U,trivial⟩ ⟨Zt _,fun j h=>by omega⟩ ?_
 intro k e;obtain⟨r,c⟩:=e;refine A3<|A3<|A0<|y_M U<|y_M U<|B7 U U<|F0 U U<|xN [0,1,6,22] [] U ?_
 refine A4 U ?_ ?_<;>intro b<;>try simp only[SL]at b
 ·refine A6<|A3<|A8<|A3<|A0<|y_M U<|y_M U<|B4 U U U (fun _=>U) (by omega)<|y_I U ?_
  refine xC3 U U U U (a0x _ _ _) ⟨U,U,U⟩ U U fun g=> ?_
  refine H5 U<|xN [0,1,6,30] [] U ?_
  refine A4 U ?_ ?_<;>intro b<;>try simp only[SL]at b
  ·refine A3<|A0<|y_S U<|xN [4] [] U<|A9<|C2 U U trivial ?_
   exact congrArg bV (f0l (show k<l.length by omega) (by omega)).symm
  refine A6<|A0<|y_M U<|D6 U U (B9 (by omega))<|y_S U<|xN [0,1,6] [] U ?_
  refine⟨k+1,⟨by omega,fun a n=>by rcases Ys.1 n with h|h;exact c a h;subst h;exact(by simpa using b)⟩,(by omega),⟨U,U,U,trivial⟩⟩
 refine D5<|A3<|A0<|y_M U<|B7 U U<|y_M U<|B7 U U<|M9 U U<|y_M U ?_
 refine D3 U U ?_ ?_<;>intro f<;>have o:=f<;>try simp only[SG]at o
 ·refine y_M U<|gT U U<|B7 U U<|gT U U ?_
  refine xC3 U U U U (a0x _ _ _) ⟨U,U,U⟩ U U fun m=> ?_
  refine E9 U (by assumption) U U<|y_S U<|xN [4] [] U<|A9<|C2 U U trivial ?_
  have d:a0u (-30) 30 l=true:=e2f fun j q=>c j (by omega)
  (refine congrArg bV ?_;rw[vlo,d,Bool.and_true];congr 1<;>exact decide_eq_decide.2 (by omega))
 refine gF U U<|gF U U<|E8 U (by assumption) U U<|y_S U<|xN [4] [] U<|A9<|C2 U U trivial ?_
 have d:a0u (-30) 30 l=true:=e2f fun j q=>c j (by omega)
 (exfalso;omega)
theorem c2u:D8 Tryz.f35=[0,2,6,3]:=by kernel_rfl
theorem d1m(n:Nat)(e:n<=1000):CW (cxT oG) 35 [nV n]=some (.own 1 ((U6 n).map iV),[]):=by
 refine C5 U Tryz.func35 U ⟨by kernel_rfl,U,dT U,dT U,by decide⟩ c2u<|A3<|A0 ?_
 (refine B1 U U (fun _=>U) ?_;intro g2)
 refine xN [0] [] U<|A3<|A0<|C0 (es:=ZA iV []) U U (dT U) U U (fun _=>B5 (A7 fun _=>U)) (fun _=>U) ?_
 intro g4
 (refine xO U U (by simp) U (fun _=>U) (fun _=>U) ?_;intro g3)
 refine xN [0,3] [3] U<|A3<|A8<|a5l (β:=Nat×Nat×Nat) (fun(z:Nat×Nat×Nat)=>match z with|(i,j,g)=>[(.t 0,nV j),(.t 3,.sl 3 g none 0 (U6 i).length),(.h 3,.obj g 0 1 ((U6 i).map iV))]) (fun(z:Nat×Nat×Nat)=>match z with|(i,j,g)=>i+j=n) (fun(z:Nat×Nat×Nat)=>match z with|(i,j,g)=>j) (0,n,_) ⟨U,U,U,trivial⟩ (ZI _) ?_
 intro z a;obtain⟨i,j,g⟩:=z
 try dsimp only at a
 have c:=a;have d:=P1 i;refine A3<|A3<|A0<|y_M U<|M0 U U<|xN [0,3,6] [3] U ?_
 refine A4 U ?_ ?_<;>intro b<;>try simp only[SL]at b
 ·refine A6<|A3<|A8<|A0<|y_M U<|C0 (es:=ZA iV [1]) U U (dT U) U U (fun _=>B5 (A7 fun _=>U)) (fun _=>U) ?_
  intro g10;refine xA U U U U (by simp) (by simp) U U U U U (fun _=>U) (by simp only[LN];omega) (fun _=>U) ?_;intro g11
  (refine xO U U (by simp) U (fun _=>U) (fun _=>U) ?_;intro g3)
  refine xN [0,3] [3] U<|A0<|y_M U<|J8 U U (B9 (by omega))<|y_S U<|xN [0,3] [3] U ?_
  rw[e4t,show((j:Int)-1)=((j-1:Nat):Int) by omega];refine⟨(i+1,j-1,_),?_,(by simp only;omega),⟨U,U,U,trivial⟩⟩;omega
 refine D5<|A3<|A0<|y_M U ?_
 (refine xO U U (by simp) U (fun _=>U) (fun _=>U) ?_;intro g2)
 refine xN [2] [2] U<|A9<|I6 U U (by simp) (by exact A7 fun _=>U) trivial ?_
 rw[show i=n by omega]
theorem c2r:D8 Tryz.f60=[0,1,2,6,8,15,24,9,10,36,7]:=by kernel_rfl
theorem e6g(l:List Int)(v:l.length<=8)(e:∀x∈l,-30<=x/\x<=30)(w:vlo l=true):CW (cxT oG) 60 [L l,L (U6 l.length),L ((bsR l).map Int.ofNat)]=some (.own 2 ((riseQ l).map qV),[]):=by
 have D:∀x,x<l.length->-30<=l.getD x default/\l.getD x default<=30:=fun x h=>e _ (M7 h)
 have E:=P1 l.length;have d:=b7r w;have B:(bsR l).length=(poolN l l.length).length:=by simp[bsR]
 have F:=a7x l l.length;have y:=c9w d;have C:((bsR l).map Int.ofNat).length=(bsR l).length:=Zh ..;refine C5 U Tryz.func60 U ⟨by kernel_rfl,U,dT U,dT U,by decide⟩ c2r<|A3<|A0 ?_
 (refine B1 U U (fun _=>U) ?_;intro g6)
 refine xN [0,1,2] [] U<|A3<|A0<|C0 (es:=ZA qV []) U U (dT U) U U (fun _=>B5 (A7 fun _=>U)) (fun _=>U) ?_
 intro g11
 (refine xO U U (by simp) U (fun _=>U) (fun _=>U) ?_;intro g7)
 refine xN [0,1,2,7] [7] U<|A3<|A3<|A0<|y_S U<|xN [0,1,2,7,8] [7] U<|A8<|D7 (β:=Nat×List Rat×Nat) [(.t 0,_),(.t 1,_),(.t 2,_)] (fun(z:Nat×List Rat×Nat)=>match z with|(b,f,g)=>[(.t 8,nV b),(.t 7,.sl 7 g none 0 f.length),(.h 7,.obj g 0 2 (f.map qV))]) (fun(z:Nat×List Rat×Nat)=>match z with|(b,f,g)=>b<=(bsR l).length/\f=spr l (bsR l) b) (fun(z:Nat×List Rat×Nat)=>match z with|(b,f,g)=>(bsR l).length-b) (0,[],_) ⟨U,U,U,U,U,U,trivial⟩ ⟨Zt _,U⟩ ?_
 intro z e;obtain⟨b,f,g⟩:=z
 try dsimp only at e
 obtain⟨A,m⟩:=e;refine A3<|A3<|A0<|y_M U<|y_M U<|B7 U U<|F0 U U<|xN [0,1,2,7,8,15] [7] U ?_
 refine A4 U ?_ ?_<;>intro i<;>try simp only[SL]at i
 ·refine A6<|A3<|A8<|A3<|A0<|y_M U<|B7 U U ?_
  try rw[a3w (j:=b+1) (by omega)]
  refine y_S U<|xN [0,1,2,7,8,9] [7] U<|A3<|A3<|A0<|y_M U<|D6 U U (B9 (by omega))<|y_M U<|B7 U U<|F0 U U<|xN [0,1,2,7,8,9,24] [7] U ?_
  refine A4 U ?_ ?_<;>intro i<;>try simp only[SL]at i
  ·have k:nxt (bsR l) l.length b=(bsR l).getD (b+1) default:=by unfold nxt;rw[if_pos (by omega)]
   refine A0<|y_M U<|y_M U<|D6 U U (B9 (by omega))<|B4 U U U (fun _=>U) (by(simp;omega))<|y_I U ?_
   try rw[a3w (j:=b+1) (by omega)]
   refine y_S U<|xN [0,1,2,7,8,9] [7] U<|A3<|A0<|y_M U<|y_M U<|B4 U U U (fun _=>U) (by omega)<|y_I U ?_
   try rw[a3w (j:=b) (by omega)]
   refine y_S U<|xN [0,1,2,7,8,9,10] [7] U<|A8 ?_
   have G:=d.2.2 b (by omega);have s:=b0u d b (by omega);refine D7 (β:=Nat×List Rat×Nat) [(.t 0,_),(.t 1,_),(.t 2,_),(.t 8,_),(.t 9,_)] (fun(z:Nat×List Rat×Nat)=>match z with|(x,a,g1)=>[(.t 10,nV x),(.t 7,.sl 7 g1 none 0 a.length),(.h 7,.obj g1 0 2 (a.map qV))]) (fun(z:Nat×List Rat×Nat)=>match z with|(x,a,g1)=>(bsR l).getD b default<=x/\x<=((bsR l).getD (b+1) default)/\a=spr l (bsR l) b++ZN (x-(bsR l).getD b default) (mq l ((bsR l).getD b default) (((bsR l).getD (b+1) default)-1))) (fun(z:Nat×List Rat×Nat)=>match z with|(x,a,g1)=>l.length-x) ((bsR l).getD b default,f,_) ⟨U,U,U,U,U,U,U,U,trivial⟩ ⟨Zd _,by omega,by rw[Nat.sub_self,Xz,Zm];exact m⟩ ?_;intro z e;obtain⟨x,a,g1⟩:=z
   try dsimp only at e
   obtain⟨n,u,c⟩:=e;have r:a.length=x:=by rw[c,Zl,YX];omega
   refine A3<|A3<|A0<|y_M U<|y_M U<|F0 U U<|xN [0,1,2,7,8,9,10,36] [7] U ?_
   refine A4 U ?_ ?_<;>intro i<;>try simp only[SL]at i
   ·refine A6<|A3<|A8<|A0 ?_
    iterate 5 refine y_M U ?_
    refine B4 U U U (fun _=>U) (by omega)<|y_I U ?_
    rw[a3w (j:=b) (by omega)];refine y_M U<|J8 U U (B9 (by omega)) ?_
    rw[show((((bsR l).getD (b+1) default):Nat):Int)-1=((((bsR l).getD (b+1) default)-1:Nat):Int) by omega];apply xC U
    ·apply B0
     ·exact B2 U
     apply B0
     ·exact B2 U
     apply B0
     ·exact B2 U
     apply B0
     ·exact B2 U
     exact C8
    ·exact b7v l v e ((bsR l).getD b default) (((bsR l).getD (b+1) default)-1) (by omega)
    refine⟨⟨U,U,U,dT U,U⟩,.inl U,B6,F7 U,fun _=>U,fun o=> ?_⟩;refine C0 (es:=ZA qV [(mq l ((bsR l).getD b default) (((bsR l).getD (b+1) default)-1))]) U U (dT U) U U (fun _=>B5 (A7 fun _=>U)) (fun _=>U) ?_;intro p;refine xA U U U U (by simp) (by simp) U U U U U (fun _=>U) (by simp only[LN];omega) (fun _=>U) ?_;intro q
    (refine xO U U (by simp) U (fun _=>U) (fun _=>U) ?_;intro g7)
    refine xN [0,1,2,7,8,9,10] [7] U<|A0<|y_M U<|D6 U U (B9 (by omega)) ?_
    try rw[a3w (j:=b) (by omega)]
    refine y_S U<|xN [0,1,2,7,8,9,10] [7] U ?_
    refine⟨(x+1,a++[(mq l ((bsR l).getD b default) (((bsR l).getD (b+1) default)-1))],_),?_,(by simp only;omega),⟨U,U,U,U,U,U,U,U,trivial⟩⟩;exact⟨by omega,by omega,by rw[c8y _ _ _ _ _ n,<-c]⟩
   refine D5<|A0<|y_M U<|D6 U U (B9 (by omega))<|y_S U<|xN [0,1,2,7,8] [7] U ?_
   refine⟨(b+1,a,_),?_,(by simp only;omega),⟨U,U,U,U,U,U,trivial⟩⟩;exact⟨by omega,by rw[a7h,blk,k];(rw[show x=(bsR l).getD (b+1) default by omega]at c;exact c)⟩
  have k:nxt (bsR l) l.length b=l.length:=by unfold nxt;rw[if_neg (by omega)]
  refine A6<|A3<|A0<|y_M U<|y_M U<|B4 U U U (fun _=>U) (by omega)<|y_I U ?_
  try rw[a3w (j:=b) (by omega)]
  refine y_S U<|xN [0,1,2,7,8,9,10] [7] U<|A8 ?_
  have G:=d.2.2 b (by omega);have s:=b0u d b (by omega);refine D7 (β:=Nat×List Rat×Nat) [(.t 0,_),(.t 1,_),(.t 2,_),(.t 8,_),(.t 9,_)] (fun(z:Nat×List Rat×Nat)=>match z with|(x,a,g1)=>[(.t 10,nV x),(.t 7,.sl 7 g1 none 0 a.length),(.h 7,.obj g1 0 2 (a.map qV))]) (fun(z:Nat×List Rat×Nat)=>match z with|(x,a,g1)=>(bsR l).getD b default<=x/\x<=l.length/\a=spr l (bsR l) b++ZN (x-(bsR l).getD b default) (mq l ((bsR l).getD b default) (l.length-1))) (fun(z:Nat×List Rat×Nat)=>match z with|(x,a,g1)=>l.length-x) ((bsR l).getD b default,f,_) ⟨U,U,U,U,U,U,U,U,trivial⟩ ⟨Zd _,by omega,by rw[Nat.sub_self,Xz,Zm];exact m⟩ ?_;intro z e;obtain⟨x,a,g1⟩:=z
  try dsimp only at e
  obtain⟨n,u,c⟩:=e;have r:a.length=x:=by rw[c,Zl,YX];omega
  refine A3<|A3<|A0<|y_M U<|y_M U<|F0 U U<|xN [0,1,2,7,8,9,10,36] [7] U ?_
  refine A4 U ?_ ?_<;>intro i<;>try simp only[SL]at i
  ·refine A6<|A3<|A8<|A0 ?_
   iterate 5 refine y_M U ?_
   refine B4 U U U (fun _=>U) (by omega)<|y_I U ?_
   rw[a3w (j:=b) (by omega)];refine y_M U<|J8 U U (B9 (by omega)) ?_
   rw[show((l.length:Nat):Int)-1=((l.length-1:Nat):Int) by omega];apply xC U
   ·apply B0
    ·exact B2 U
    apply B0
    ·exact B2 U
    apply B0
    ·exact B2 U
    apply B0
    ·exact B2 U
    exact C8
   ·exact b7v l v e ((bsR l).getD b default) (l.length-1) (by omega)
   refine⟨⟨U,U,U,dT U,U⟩,.inl U,B6,F7 U,fun _=>U,fun o=> ?_⟩;refine C0 (es:=ZA qV [(mq l ((bsR l).getD b default) (l.length-1))]) U U (dT U) U U (fun _=>B5 (A7 fun _=>U)) (fun _=>U) ?_;intro p;refine xA U U U U (by simp) (by simp) U U U U U (fun _=>U) (by simp only[LN];omega) (fun _=>U) ?_;intro q
   (refine xO U U (by simp) U (fun _=>U) (fun _=>U) ?_;intro g7)
   refine xN [0,1,2,7,8,9,10] [7] U<|A0<|y_M U<|D6 U U (B9 (by omega)) ?_
   try rw[a3w (j:=b) (by omega)]
   refine y_S U<|xN [0,1,2,7,8,9,10] [7] U ?_
   refine⟨(x+1,a++[(mq l ((bsR l).getD b default) (l.length-1))],_),?_,(by simp only;omega),⟨U,U,U,U,U,U,U,U,trivial⟩⟩;exact⟨by omega,by omega,by rw[c8y _ _ _ _ _ n,<-c]⟩
  refine D5<|A0<|y_M U<|D6 U U (B9 (by omega))<|y_S U<|xN [0,1,2,7,8] [7] U ?_
  refine⟨(b+1,a,_),?_,(by simp only;omega),⟨U,U,U,U,U,U,trivial⟩⟩;exact⟨by omega,by rw[a7h,blk,k];(rw[show x=l.length by omega]at c;exact c)⟩
 refine D5<|A3<|A0<|y_M U ?_
 (refine xO U U (by simp) U (fun _=>U) (fun _=>U) ?_;intro g6)
 refine xN [6] [6] U<|A9<|I6 U U (by simp) (by exact A7 fun _=>U) trivial ?_
 rw[m,riseQ,if_pos w,show b=(bsR l).length by omega]
theorem d3z:D8 Tryz.f110=[0,1,4,6,23,22,24,7,9,49,8,5,38]:=by kernel_rfl
theorem f3g(l:List Int)(o:l.length<=8)(e:∀x∈l,-30<=x/\x<=30)(q:vlo l=true):CW (cxT oG) 110 [L l,L (U6 l.length)]=some (.own 2 ((riseQ l).map qV),[]):=by
 have w:∀x,x<l.length->-30<=l.getD x default/\l.getD x default<=30:=fun x h=>e _ (M7 h)
 have A:=P1 l.length;have d:=b7r q;have v:(bsR l).length=(poolN l l.length).length:=by simp[bsR]
 have B:=a7x l l.length;have j:=c9w d;refine C5 U Tryz.func110 U ⟨by kernel_rfl,U,dT U,dT U,by decide⟩ d3z<|A3<|A0 ?_
 (refine B1 U U (fun _=>U) ?_;intro g4)
 refine xN [0,1] [] U<|A3<|A0<|y_M U<|B7 U U<|Z5 (f:=d5v) (x0:=(0,0)) U U U U U (by simp only[H6];omega) (dT U) (fun _=>B5 (by exact A7 fun _=>U)) (fun _=>U) ?_
 intro g12
 (refine xO U U (by simp) U (fun _=>U) (fun _=>U) ?_;intro g5)
 refine xN [0,1,5] [5] U<|A3<|A0<|y_M U<|y_M U ?_
 apply xC U
 ·apply B0
  ·exact B2 U
  apply B0
  ·exact B2 U
  exact C8
 ·exact e5l l o e
 refine⟨⟨U,U,U,dT U,U⟩,.inl U,B6,G6,fun _=>U,fun g15=> ?_⟩;simp only[Zh];refine y_M U<|B7 U U<|C0 (es:=ZA iV [(l.length:Int)]) U U (dT U) U U (fun _=>B5 (A7 fun _=>U)) (fun _=>U) ?_
 intro g18;refine Q5 U U U U (by(simp;done)) (by simp) (by decide) U U U U (dT U) (fun _=>⟨U,U⟩) (by simp only[H6];(simp;omega)) (fun _=>U) ?_;intro g19
 (refine xO U U (by simp) U (fun _=>U) (fun _=>U) ?_;intro g6)
 refine xN [0,1,5,6] [5,6] U<|A3<|A3<|A0 ?_
 rw[show goO (poolN l l.length)++[(l.length:Int)]=bsE l from U];have u:(bsE l).length=(bsR l).length+1:=by rw[d8u];simp
 refine y_M U<|H2 U U<|J8 U U (B9 (by omega))<|y_M U<|xN [0,1,5,6,22,23] [5,6] U<|A8<|D7 (β:=Nat×List (Int×Int)) [(.t 0,_),(.t 1,_),(.t 5,_),(.t 6,_),(.t 22,_),(.h 6,_)] (fun(z:Nat×List (Int×Int))=>match z with|(b,i)=>[(.t 23,nV b),(.h 5,.obj g5 0 2 (i.map d5v))]) (fun(z:Nat×List (Int×Int))=>match z with|(b,i)=>b<=(bsR l).length/\Lay l.length (spr l (bsR l) b) i) (fun(z:Nat×List (Int×Int))=>match z with|(b,i)=>(bsR l).length-b) (0,ZN l.length (0,0)) ⟨U,U,U,U,U,U,U,U,trivial⟩ ⟨Zt _,e9i _⟩ ?_
 intro z e;obtain⟨b,i⟩:=z
 try dsimp only at e
 obtain⟨s,g⟩:=e;have m:=e2i g;refine A3<|A0<|F0 U U<|xN [0,1,5,6,22,23,24] [5,6] U<|A3 ?_
 refine A4 U ?_ ?_<;>intro k<;>try simp only[SL]at k
 ·refine A6<|A3<|A8<|A3<|A0<|y_M U<|y_S U<|xN [0,1,5,6,7,22,23] [5,6] U<|A3<|A0<|y_M U<|y_M U<|y_M U<|y_M U ?_
  have E:=d.2.2 b (by omega);have C:=b0u d b (by omega);refine C6 U U U U (by omega) (by(simp;done)) U<|E4 U U (by omega) (fun _=>U) (fun _=>U) U ?_
  rw[b8b (by omega)];refine y_M U<|y_M U<|D6 U U (B9 (by omega))<|C6 U U U U (by(simp;omega)) (by(simp;done)) U<|E4 U U (by(simp;omega)) (fun _=>U) (fun _=>U) U ?_
  rw[e0v (by omega)];refine J8 U U (B9 (by omega)) ?_;rw[show((nxt (bsR l) l.length b:Nat):Int)-1=((nxt (bsR l) l.length b-1:Nat):Int) by omega];apply xC U
  ·apply B0
   ·exact B2 U
   apply B0
   ·exact B2 U
   apply B0
   ·exact B2 U
   apply B0
   ·exact B2 U
   exact C8
  ·exact c8w l o e ((bsR l).getD b default) (nxt (bsR l) l.length b-1) (by omega)
  refine⟨⟨U,U,U,dT U,U⟩,.inl U,B6,F7 U,fun _=>U,fun r=> ?_⟩;refine y_A U (fun _=>U) ?_;intro g8;refine xB U U U U U U U U U ?_;refine G7 ⟨fun _=>⟨by(simp only[V8,Zi,Zm,Zy,Yf,Zp];decide+kernel),by decide+kernel⟩,[(.t 0,_),(.t 1,_),(.t 5,_),(.t 6,_),(.t 7,_),(.t 8,_),(.t 22,_),(.t 23,_),(.h 5,_),(.h 6,_),(.h 8,_)],⟨U,U,U,U,U,U,U,U,U,U,U,U,U,U,U,U,U,U,U,U,U,U,trivial⟩,?_⟩;refine A3<|A0<|y_M U<|y_M U<|C6 U U U U (by omega) (by(simp;done)) U<|E4 U U (by omega) (fun _=>U) (fun _=>U) U ?_
  try rw[b8b (by omega)]
  refine y_S U<|xN [0,1,5,6,7,8,9,22,23] [5,6,8] U<|A8<|D7 (β:=Nat×List (Int×Int)) [(.t 0,_),(.t 1,_),(.t 5,_),(.t 6,_),(.t 7,_),(.t 8,_),(.t 22,_),(.t 23,_),(.h 6,_),(.h 8,_)] (fun(z:Nat×List (Int×Int))=>match z with|(x,a)=>[(.t 9,nV x),(.h 5,.obj g5 0 2 (a.map d5v))]) (fun(z:Nat×List (Int×Int))=>match z with|(x,a)=>(bsR l).getD b default<=x/\x<=nxt (bsR l) l.length b/\Lay l.length (spr l (bsR l) b++ZN (x-(bsR l).getD b default) (mq l ((bsR l).getD b default) (nxt (bsR l) l.length b-1))) a) (fun(z:Nat×List (Int×Int))=>match z with|(x,a)=>l.length-x) ((bsR l).getD b default,i) ⟨U,U,U,U,U,U,U,U,U,U,U,U,trivial⟩ ⟨Zd _,by omega,by rw[Nat.sub_self,Xz,Zm];exact g⟩ ?_
  intro z e;obtain⟨x,a⟩:=z
  try dsimp only at e
  obtain⟨n,D,c⟩:=e;have p:=e2i c;refine A3<|A3<|A0<|y_M U<|y_M U<|y_M U<|D6 U U (B9 (by omega))<|C6 U U U U (by(simp;omega)) (by(simp;done)) U<|E4 U U (by(simp;omega)) (fun _=>U) (fun _=>U) U ?_
  rw[e0v (by omega)];refine F0 U U<|xN [0,1,5,6,7,8,9,22,23,49] [5,6,8] U ?_
  refine A4 U ?_ ?_<;>intro k<;>try simp only[SL]at k
  ·refine A6<|A3<|A8<|A0<|y_M U<|y_M U<|y_B U<|C6 U U U U (by omega) (by(simp;omega)) U<|b2b (y:=(prq (mq l ((bsR l).getD b default) (nxt (bsR l) l.length b-1)))) U U U (by omega) U ⟨U,dT U,dT U,U⟩ (by decide) U (by exact B5 (A7 fun _=>U))<|xN [0,1,5,6,7,8,9,22,23] [5,6,8] U<|A0<|y_M U<|D6 U U (B9 (by omega)) ?_
   try rw[b8b (by omega)]
   refine y_S U<|xN [0,1,5,6,7,8,9,22,23] [5,6,8] U ?_
   refine⟨(x+1,a.set x (prq (mq l ((bsR l).getD b default) (nxt (bsR l) l.length b-1)))),?_,(by simp only;omega),⟨U,U,U,U,U,U,U,U,U,U,U,U,trivial⟩⟩;exact⟨by omega,by omega,by rw[c8y _ _ _ _ _ n];exact f0p c (by rw[Zl,YX];omega) (by omega) _⟩
  refine D5<|A0<|D6 U U (B9 (by omega))<|y_M U<|xN [0,1,5,6,22,23] [5,6] U ?_
  refine⟨(b+1,a),?_,(by simp only;omega),⟨U,U,U,U,U,U,U,U,trivial⟩⟩;exact⟨by omega,by rw[a7h,blk];rw[show x=nxt (bsR l) l.length b by omega]at c;exact c⟩
 refine D5<|A3<|A0<|y_M U ?_
 (refine H8 U U (by(simp;omega)) U (fun _=>(B5 (by exact A7 fun _=>U))) (fun _=>U) ?_;intro g4)
 refine xN [4] [4] U<|A9<|I6 U U (by simp[m]) (by exact A7 fun _=>U) trivial ?_
 rw[f0q g (by rw[show b=(bsR l).length by omega];exact j),riseQ,if_pos q,show b=(bsR l).length by omega,List.map_map]
 rfl
theorem c6y:D8 Tryz.f81=[0,1,4,8]:=by kernel_rfl
theorem f2o(l:List Int)(e:l.length<=1000):CW (cxT oG) 81 [L l,L (U6 l.length)]=some (.own 2 ((riseQ l).map qV),[]):=by
 refine C5 U Tryz.func81 U ⟨by kernel_rfl,U,dT U,dT U,by decide⟩ c6y<|A3<|A0 ?_
 (refine B1 U U (fun _=>U) ?_;intro g4)
 refine xN [0,1] [] U<|A3<|A3<|A0<|y_M U<|y_M U ?_
 refine xC2 U U U (f4w l e) ⟨U,U,U⟩ U U fun g7=> ?_
 refine H5 U<|xN [0,1,8] [] U ?_
 refine A4 U ?_ ?_<;>intro d<;>try simp only[SL]at d
 ·refine A3<|A0 ?_
  (refine B1 U U (fun _=>U) ?_;intro g4)
  refine xN [4] [4] U<|A9<|I6 U U (by simp) (by rfl) trivial ?_
  (rw[b1t (by simp_all)];rfl)
 have a:vlo l=true:=by simp_all
 obtain⟨⟨f,b⟩,c⟩:=a6e.1 a;refine A6<|A3<|A0<|y_M U<|y_M U ?_
 apply xC U
 ·apply B0
  ·exact B2 U
  apply B0
  ·exact B2 U
  exact C8
 ·exact f3g l b c a
 refine⟨⟨U,U,U,dT U,U⟩,.inl U,B6,G6,fun _=>U,fun g11=> ?_⟩
 (refine xO U U (by simp) U (fun _=>U) (fun _=>U) ?_;intro g4)
 refine xN [4] [4] U<|A9<|I6 U U (by simp) (by exact A7 fun _=>U) trivial ?_
 rfl
theorem c7h:D8 Tryz.f37=[0,1,4,8]:=by kernel_rfl
theorem f0o(l:List Int)(e:l.length<=1000):CW (cxT oG) 37 [L l,L (U6 l.length)]=some (.own 2 ((riseQ l).map qV),[]):=by
 refine C5 U Tryz.func37 U ⟨by kernel_rfl,U,dT U,dT U,by decide⟩ c7h<|A3<|A0 ?_
 (refine B1 U U (fun _=>U) ?_;intro g4)
 refine xN [0,1] [] U<|A3<|A3<|A0<|y_M U<|y_M U ?_
 refine xC2 U U U (e8f l e) ⟨U,U,U⟩ U U fun g7=> ?_
 refine H5 U<|xN [0,1,8] [] U ?_
 refine A4 U ?_ ?_<;>intro d<;>try simp only[SL]at d
 ·refine A3<|A0 ?_
  (refine B1 U U (fun _=>U) ?_;intro g4)
  refine xN [4] [4] U<|A9<|I6 U U (by simp) (by rfl) trivial ?_
  (rw[b1t (by simp_all)];rfl)
 have c:vlo l=true:=by simp_all
 obtain⟨⟨f,a⟩,b⟩:=a6e.1 c;refine A6<|A3<|A0<|y_M U<|y_M U<|y_M U<|y_M U ?_
 apply xC U
 ·apply B0
  ·exact B2 U
  apply B0
  ·exact B2 U
  exact C8
 ·exact f4e l a b
 refine⟨⟨U,U,U,dT U,U⟩,.inl U,B6,G6,fun _=>U,fun g13=> ?_⟩;rw[show goO (poolN l l.length)=(bsR l).map Int.ofNat from U];apply xC U
 ·apply B0
  ·exact B2 U
  apply B0
  ·exact B2 U
  apply B0
  ·exact E6 U U U (by(simp;done)) (fun _=>U)
  exact C8
 ·exact e6g l a b c
 refine⟨⟨U,U,U,dT U,U⟩,.inr ⟨P0 fun _=>U,U⟩,B6,G6,fun _=>U,fun g14=> ?_⟩
 (refine xO U U (by simp) U (fun _=>U) (fun _=>U) ?_;intro g4)
 refine xN [4] [4] U<|A9<|I6 U U (by simp) (by exact A7 fun _=>U) trivial ?_
 rfl
theorem c6s:D8 Tryz.f161=[0,2]:=by kernel_rfl
theorem e1w(x:Int):CW (cxT oG) 161 [iV x]=some (bV false,[]):=by
 refine C5 U Tryz.func161 U ⟨by kernel_rfl,U,dT U,dT U,by decide⟩ c6s<|A3<|A0<|y_S U<|xN [0] [] U<|A3<|A0<|y_M U<|y_M U<|a8f U U<|y_S U<|xN [2] [] U<|A9<|C2 U U trivial ?_
 simp
theorem c0x:D8 Tryz.f145=[0,1,4,5,11,6,12,13,16,19]:=by kernel_rfl
theorem e3n(x y:Int):CW (cxT oG) 145 [iV x,iV y]=some (iV (c2z x y),[]):=by
 refine C5 U Tryz.func145 U ⟨by kernel_rfl,U,dT U,dT U,by decide⟩ c0x<|A3<|A0<|y_S U<|xN [0,1] [] U<|A3<|A0<|y_M U ?_
 refine xC1 U U (e1w x) ⟨U,U,U⟩ U U fun g8=> ?_
 refine y_S U<|xN [0,1,5] [] U<|A3<|A0<|y_M U ?_
 refine xC1 U U (e1w y) ⟨U,U,U⟩ U U fun g10=> ?_
 refine y_S U<|xN [0,1,5,6] [] U<|A3<|A3<|A0<|y_M U<|xN [0,1,6,11] [] U ?_
 refine A4 U (fun a=>absurd a (by decide)) (fun a=> ?_);refine A6<|A3<|A3<|A0<|y_M U<|xN [0,1,13] [] U ?_
 refine A4 U (fun a=>absurd a (by decide)) (fun a=> ?_);refine A6<|A3<|A3<|A0<|y_M U<|y_M U<|F0 U U<|xN [0,1,16] [] U ?_
 refine A4 U ?_ ?_<;>intro a<;>try simp only[SL]at a
 ·refine A3<|A0<|y_S U<|xN [4] [] U<|A9<|C2 U U trivial ?_
  unfold c2z;rw[if_pos a];rfl
 refine A6<|A3<|A3<|A0<|y_M U<|y_M U<|M0 U U<|xN [19] [] U ?_
 refine A4 U ?_ ?_<;>intro a<;>try simp only[SL]at a
 ·refine A3<|A0<|y_S U<|xN [4] [] U<|A9<|C2 U U trivial ?_
  unfold c2z;rw[if_neg (by omega),if_pos a];rfl
 refine A6<|A3<|A0<|y_S U<|xN [4] [] U<|A9<|C2 U U trivial ?_
 unfold c2z;rw[if_neg (by omega),if_neg (by omega)];rfl
theorem c1m:D8 Tryz.f144=[0,1,2,5]:=by kernel_rfl
theorem e5d(l:List Int)(e:l.length<=1000)(a b:Nat)(c:a<l.length)(d:b<l.length):CW (cxT oG) 144 [nV a,nV b,.ipt (L l) 0]=some (iV (c2z (l.getD a default) (l.getD b default)),[]):=by
 refine C5 U Tryz.func144 U ⟨by kernel_rfl,U,dT U,dT U,by decide⟩ c1m<|A3<|A0<|y_S U<|xN [0,1,2] [] U<|A3<|A0<|y_I U<|y_M U<|B4 U U U (fun _=>U) (by omega)<|y_I U<|y_I U<|y_M U<|B4 U U U (fun _=>U) (by omega)<|y_I U ?_
 refine xC2 U U U (e3n _ _) ⟨U,U,U⟩ U U fun g14=> ?_
 refine y_S U ?_;refine G7 ⟨fun _=>⟨by(simp only[V8,Zi,Zm,Zy,Yf,Zp];decide+kernel),by decide+kernel⟩,[(.t 5,_)],⟨U,U,trivial⟩,?_⟩;refine A9<|C2 U U trivial ?_
 rfl
theorem b9o:D8 Tryz.f179=[0,1,2,3,8,14,9,34]:=by kernel_rfl
theorem e2v(l:List Int)(A:l.length<=6)(B:1<=l.length)(d1:List Nat)(n:Ord l 1 d1):∃res outs,(fun res outs=>∃d:List Nat,res= .tup []/\outs=[d.map nV]/\Ord l l.length d) res outs/\CW (cxT oG) 179 [.own 1 (d1.map nV),iV 0,iV l.length,.clo 144 [.ipt (L l) 0]]=some (res,outs):=by
 have o:=n.1;refine P9 U Tryz.func179 U ⟨by kernel_rfl,U,dT U,dT U,by decide⟩ b9o<|A3<|A0<|y_M U<|D6 U U (B9 (by omega))<|y_S U<|xN [0,1,2,3,8] [0] U<|A8<|D7 (β:=Nat×List Nat) [(.t 0,_),(.t 1,_),(.t 2,_),(.t 3,_)] (fun(z:Nat×List Nat)=>match z with|(i,d0)=>[(.t 8,iV i),(.h 0,.obj 1 1 1 (d0.map nV))]) (fun(z:Nat×List Nat)=>match z with|(i,d0)=>1<=i/\Ord l i d0) (fun(z:Nat×List Nat)=>match z with|(i,d0)=>l.length-i) (1,d1) ⟨U,U,U,U,U,U,trivial⟩ ⟨Zd _,n⟩ ?_
 intro z e;obtain⟨i,d0⟩:=z
 try dsimp only at e
 obtain⟨u,b⟩:=e;have y:=b.1;have v:=b.2.1;refine A3<|A3<|A0<|y_M U<|y_M U<|F0 U U<|xN [0,1,2,3,8,14] [0] U ?_
 refine A4 U ?_ ?_<;>intro c<;>try simp only[SL]at c
 ·refine A6<|A3<|A8<|A3<|A0<|y_M U ?_
  try rw[show((j:Int)-1)=((j-1:Nat):Int)from by omega]
  refine y_S U<|xN [0,1,2,3,8,9] [0] U<|A8<|D7 (β:=Nat×List Nat) [(.t 0,_),(.t 1,_),(.t 2,_),(.t 3,_),(.t 8,_)] (fun(z:Nat×List Nat)=>match z with|(j,d)=>[(.t 9,iV j),(.h 0,.obj 1 1 1 (d.map nV))]) (fun(z:Nat×List Nat)=>match z with|(j,d)=>a6p l i d0 j d) (fun(z:Nat×List Nat)=>match z with|(j,d)=>j) (i,d0) ⟨U,U,U,U,U,U,U,trivial⟩ (a6p.start b (by omega)) ?_
  intro z e;obtain⟨j,d⟩:=z
  try dsimp only at e
  have a:=e;have w:=a.1;have r:=a.2.1;refine A3<|A3<|A0<|y_M U<|y_M U<|M0 U U<|y_M U ?_
  refine D3 U U ?_ ?_<;>intro f<;>have s:=f<;>try simp only[SG]at s
  ·refine y_M U<|gT U U<|y_M U<|gT U U<|y_M U<|gT U U<|C6 U U U U (by(simp;omega)) (by(simp;omega)) U<|gT U U<|E4 U U (by omega) (fun _=>U) (fun _=>U) U<|gT U U<|y_M U<|gT U U<|y_M U<|gT U U<|J8 U U (B9 (by omega))<|gT U U ?_
   have g:0<j:=by omega
   rw[show((j:Int)-1)=((j-1:Nat):Int)from by omega];refine C6 U U U U (by(simp;omega)) (by(simp;omega)) U<|gT U U<|E4 U U (by omega) (fun _=>U) (fun _=>U) U<|gT U U ?_
   have k:=a.lt b (by omega) (x:=j) (by omega);have m:=a.lt b (by omega) (x:=j-1) (by omega);apply d0m U U
   ·apply B0
    ·exact B2 U
    apply B0
    ·exact B2 U
    apply B0
    ·exact B2 U
    exact C8
   ·exact e5d l (by omega) (d.getD j default) (d.getD (j-1) default) k m
   ·exact⟨U,U,U,dT U,U⟩
   ·exact .inl U
   ·exact B6
   ·exact F7 U
   ·exact fun _=>U
   intro p;refine gT U U ?_;have q:=f0e (l.getD (d.getD j default) default) (l.getD (d.getD (j-1) default) default);refine F0 U U<|E9 U (by assumption) U U ?_
   refine G7 ⟨fun _=>⟨by(simp only[V8,Zi,Zm,Zy,Yf,Zp];decide+kernel),by decide+kernel⟩,[(.t 0,_),(.t 1,_),(.t 2,_),(.t 3,_),(.t 8,_),(.t 9,_),(.t 34,_),(.h 0,_)],⟨U,U,U,U,U,U,U,U,U,U,U,U,U,U,U,U,trivial⟩,?_⟩;refine A4 U ?_ ?_<;>intro c<;>try simp only[SL]at c
   ·refine A6<|A3<|A8<|A0<|y_M U<|y_M U<|y_M U<|y_M U<|J8 U U (B9 (by omega))<|y_M U<|y_M U<|J8 U U (B9 (by omega)) ?_
    rw[show((j:Int)-1)=((j-1:Nat):Int)from by omega];refine C6 U U U U (by(simp;omega)) (by(simp;omega)) U<|E4 U U (by omega) (fun _=>U) (fun _=>U) U<|y_M U<|y_M U<|C6 U U U U (by(simp;omega)) (by(simp;omega)) U<|E4 U U (by omega) (fun _=>U) (fun _=>U) U<|C6 U U U U (by(simp;omega)) (by(simp;omega)) U<|J4 U U U (by omega) (fun _ _=>⟨U,U,dT U,dT U,U,U⟩) (by decide) (by exact a2p (A7 fun _=>U))<|C6 U U U U (by(simp;omega)) (by(simp;omega)) U<|J4 U U U (by(simp;omega)) (fun _ _=>⟨U,U,dT U,dT U,U,U⟩) (by decide) (by exact a2p (A7 fun _=>U)) ?_
    refine G7 ⟨fun _=>⟨by decide+kernel,by decide+kernel⟩,[(.t 0,_),(.t 1,_),(.t 2,_),(.t 3,_),(.t 8,_),(.t 9,_),(.h 0,_)],⟨U,U,U,U,U,U,U,U,U,U,U,U,U,U,trivial⟩,?_⟩;refine A0<|y_M U<|J8 U U (B9 (by omega)) ?_
    try rw[show((j:Int)-1)=((j-1:Nat):Int)from by omega]
    refine y_S U<|xN [0,1,2,3,8,9] [0] U ?_
    refine⟨(j-1,_),?_,(by simp only;omega),⟨U,U,U,U,U,U,U,trivial⟩⟩;exact a.step (by omega) g (c1w.1 (by omega))
   refine D5<|A0<|y_M U<|D6 U U (B9 (by omega))<|y_S U<|xN [0,1,2,3,8] [0] U ?_
   first
    |(refine⟨(i+1,d),⟨by omega,a.fin b (by omega) (.inr fun h=>by rw[<-c1w]at h;omega)⟩,by simp only;omega,⟨rfl,rfl,rfl,rfl,rfl,rfl,trivial⟩⟩)
    |(refine⟨(i+1,d),⟨by omega,a.fin b (by omega) (.inl (by omega))⟩,by simp only;omega,⟨rfl,rfl,rfl,rfl,rfl,rfl,trivial⟩⟩)
  iterate 11 refine gF U U ?_
  refine E8 U (by assumption) U U ?_;refine G7 ⟨fun _=>⟨by decide+kernel,by decide+kernel⟩,[(.t 0,_),(.t 1,_),(.t 2,_),(.t 3,_),(.t 8,_),(.t 9,_),(.t 34,_),(.h 0,_)],⟨U,U,U,U,U,U,U,U,U,U,U,U,U,U,U,U,trivial⟩,?_⟩;refine A4 U (fun c=>absurd c (by decide)) (fun c=> ?_);refine D5<|A0<|y_M U<|D6 U U (B9 (by omega))<|y_S U<|xN [0,1,2,3,8] [0] U ?_
  first
   |(refine⟨(i+1,d),⟨by omega,a.fin b (by omega) (.inr fun h=>by rw[<-c1w]at h;omega)⟩,by simp only;omega,⟨rfl,rfl,rfl,rfl,rfl,rfl,trivial⟩⟩)
   |(refine⟨(i+1,d),⟨by omega,a.fin b (by omega) (.inl (by omega))⟩,by simp only;omega,⟨rfl,rfl,rfl,rfl,rfl,rfl,trivial⟩⟩)
 refine D5 ?_;refine⟨_,_,?_,b2d (N9 U (U3 fun _=>U))⟩;exact⟨d0,U,U,(show i=l.length by omega)▸b⟩
theorem c3z:D8 Tryz.f160=[0,1,2,6,8,13,7,30,35,9,54]:=by kernel_rfl
theorem e9b(l:List Int)(k:l.length<=6)(m:1<=l.length)(d1:List Nat)(e:Ord l 1 d1):∃res outs,(fun res outs=>∃d:List Nat,res= .tup []/\outs=[d.map nV]/\Ord l l.length d) res outs/\CW (cxT oG) 160 [.own 1 (d1.map nV),iV l.length,.clo 144 [.ipt (L l) 0]]=some (res,outs):=by
 obtain⟨_,_,⟨d,rfl,rfl,f⟩,i⟩:=e2v (oG:=oG) l k m d1 e;have c:=f.1;have b:=e.1;refine P9 U Tryz.func160 U ⟨by kernel_rfl,U,dT U,dT U,by decide⟩ c3z<|A3<|A0<|y_S U<|xN [0,1,2,6] [0] U<|A3<|A0<|y_M U<|y_S U<|y_S U<|xN [0,1,2,6,7,8] [0] U<|A3<|A8<|D7 (β:=Unit) [(.t 0,_),(.t 1,_),(.t 2,_),(.t 6,_),(.t 7,_),(.t 8,_),(.h 0,_)] (fun(u:Unit)=>[]) (fun(u:Unit)=>True) (fun(u:Unit)=>0) () ⟨U,U,U,U,U,U,U,trivial⟩ trivial ?_
 intro u j;refine A3<|A3<|A0<|y_M U<|y_M U<|a3j U U<|xN [0,1,2,6,7,8,13] [0] U ?_
 refine A4 U (fun a=> ?_) (fun a=> ?_)
 ·try simp only[SD]at a
  exact absurd a (by omega)
 try simp only[SL]at a
 refine D5<|A3<|A0<|y_M U<|y_M U<|y_M U<|y_M U ?_
 apply a0z U
 ·apply B0
  ·exact a4q U U (dT U) (by(simp;done)) (U3 fun _=>U)
  apply B0
  ·exact B2 U
  apply B0
  ·exact B2 U
  apply B0
  ·exact c2a U (c9f b9n)
  exact C8
 ·exact i
 ·exact⟨U,U,U,dT U,U⟩
 ·exact .inl U
 ·exact a2s U (by simp[c,b]) (b4e _ _) B6
 ·exact I7 U
 ·(intro _;exact C7 (a2p (A7 fun _=>U)) U)
 intro g;refine xN [0,1,2,6] [0] U<|A8<|D7 (β:=Unit) [(.t 0,_),(.t 1,_),(.t 2,_),(.t 6,_),(.h 0,_)] (fun(u:Unit)=>[]) (fun(u:Unit)=>True) (fun(u:Unit)=>0) () ⟨U,U,U,U,U,trivial⟩ trivial ?_
 intro u j;refine A3<|A3<|A0<|y_M U<|y_M U<|F0 U U<|xN [0,1,2,6,30] [0] U ?_
 refine A4 U (fun a=> ?_) (fun a=> ?_)
 ·try simp only[SD]at a
  exact absurd a (by omega)
 try simp only[SL]at a
 refine D5 ?_;refine⟨_,_,?_,b2d (N9 U (U3 fun _=>U))⟩;exact⟨d,U,U,f⟩
theorem b1e:D8 Tryz.f143=[0,1]:=by kernel_rfl
theorem c7k(l:List Int)(g:l.length<=6)(h:1<=l.length)(d1:List Nat)(c:Ord l 1 d1):∃res outs,(fun res outs=>∃d:List Nat,res= .tup []/\outs=[d.map nV]/\Ord l l.length d) res outs/\CW (cxT oG) 143 [.own 1 (d1.map nV),.clo 144 [.ipt (L l) 0]]=some (res,outs):=by
 obtain⟨_,_,⟨d,rfl,rfl,e⟩,f⟩:=e9b (oG:=oG) l g h d1 c;have b:=e.1;have a:=c.1;refine P9 U Tryz.func143 U ⟨by kernel_rfl,U,dT U,dT U,by decide⟩ b1e<|A0<|y_M U<|y_M U<|H2 U U ?_
 rw[show(((d1.map nV).length:Nat):Int)=(l.length:Int)from by simp[a]];refine y_M U ?_;apply a0z U
 ·apply B0
  ·exact a4q U U (dT U) (by(simp;done)) (U3 fun _=>U)
  apply B0
  ·exact B2 U
  apply B0
  ·exact c2a U (c9f b9n)
  exact C8
 ·exact f
 ·exact⟨U,U,U,dT U,U⟩
 ·exact .inl U
 ·exact a2s U (by simp[b,a]) (b4e _ _) B6
 ·exact I7 U
 ·(intro _;exact C7 (a2p (A7 fun _=>U)) U)
 intro g8;refine xN [] [0] U ?_;refine⟨_,_,?_,b2d (N9 U (U3 fun _=>U))⟩;exact⟨d,U,U,e⟩
theorem c2l:D8 Tryz.f115=[0,2,1,3,10,9,11,4]:=by kernel_rfl
theorem e6w(l:List Int)(q:l.length<=6)(m:1<=l.length):∃res outs,(fun res outs=>∃d:List Nat,res= .own 1 (d.map nV)/\outs=[]/\Ord l l.length d) res outs/\CW (cxT oG) 115 [L l]=some (res,outs):=by
 refine P9 U Tryz.func115 U ⟨by kernel_rfl,U,dT U,dT U,by decide⟩ c2l<|A3<|A0<|P3 U U U (fun _=>I8 U) (fun _=>U) ?_
 intro g1
 (refine B1 U U (fun _=>U) ?_;intro g2)
 refine xN [1] [1] U<|A3<|A0<|y_B U<|B7 U U<|Z5 (f:=nV) (x0:=0) U U U U U (by simp only[H6];omega) (dT U) (fun _=>B5 (by exact A7 fun _=>U)) (fun _=>U) ?_
 intro g7
 (refine xO U U (by simp) U (fun _=>U) (fun _=>U) ?_;intro g3)
 refine xN [1,3] [1,3] U<|A3<|A3<|A0<|y_M U<|H2 U U<|y_M U<|xN [1,3,9,10] [1,3] U<|A8<|D7 (β:=Nat×List Nat) [(.t 1,_),(.t 3,_),(.t 9,_),(.h 1,_)] (fun(z:Nat×List Nat)=>match z with|(b,d1)=>[(.t 10,iV b),(.h 3,.obj g3 0 1 (d1.map nV))]) (fun(z:Nat×List Nat)=>match z with|(b,d1)=>b<=l.length/\d1.length=l.length/\∀x,x<b->d1.getD x default=x) (fun(z:Nat×List Nat)=>match z with|(b,d1)=>l.length-b) (0,ZN l.length 0) ⟨U,U,U,U,U,U,trivial⟩ ⟨Zt _,by simp,fun x h=>by omega⟩ ?_
 intro z j;obtain⟨b,d1⟩:=z
 try dsimp only at j
 obtain⟨o,a,g⟩:=j;refine A3<|A0<|F0 U U<|xN [1,3,9,10,11] [1,3] U<|A3 ?_
 refine A4 U ?_ ?_<;>intro p<;>try simp only[SL]at p
 ·refine A6<|A3<|A8<|A3<|A0<|y_M U<|y_S U<|xN [1,3,4,9,10] [1,3] U<|A0<|y_M U<|y_M U<|y_M U<|C6 U U U U (by omega) (by(simp;omega)) U<|J4 U U U (by omega) (fun _ _=>⟨U,U,dT U,dT U,U,U⟩) (by decide) (by exact B5 (A7 fun _=>U))<|xN [1,3,9,10] [1,3] U<|A0<|D6 U U (B9 (by omega))<|y_M U<|xN [1,3,9,10] [1,3] U ?_
  refine⟨(b+1,d1.set b b),⟨by omega,by simp[a],fun x r=>by rw[b4s (by omega)];by_cases e:x=b;(·rw[if_pos e,e]);(·rw[if_neg e];exact g x (by omega))⟩,(by simp only;omega),⟨U,U,U,U,U,U,trivial⟩⟩
 refine D5<|A3<|A0<|y_M U<|b8i U U ?_
 have i:=f1j a (fun x r=>g x (by omega)) m;obtain⟨_,_,⟨d,rfl,rfl,k⟩,n⟩:=c7k (oG:=oG) l q m d1 i;have c:=k.1;apply a0z U
 ·apply B0
  ·exact a4q U U (dT U) (by(simp;omega)) (U3 fun _=>U)
  apply B0
  ·exact c2a U (d7v U U b9n)
  exact C8
 ·exact n
 ·exact⟨U,U,U,dT U,U⟩
 ·exact .inr ⟨by simp[hasList,G1],f5m fun _=>U⟩
 ·exact a2s U (by simp[c,a]) (b4e _ _) B6
 ·exact I7 U
 ·(intro _;exact C7 (B5 (A7 fun _=>U)) U)
 intro g20;refine xN [3] [3] U<|A3<|A0<|y_M U ?_
 (refine H8 U U (by simp[c]) U (fun _=>(B5 (by exact A7 fun _=>U))) (fun _=>U) ?_;intro g2)
 refine xN [2] [2] U<|A9 ?_
 refine⟨_,_,?_,e0g U U (by simp[c]) (by exact A7 fun _=>U) B3⟩;exact⟨d,U,U,k⟩
theorem d6f:D8 Tryz.f114=[0,2]:=by kernel_rfl
theorem f5n(xs:List Int)(c:xs.length<=1000):CW (cxT oG) 114 [L xs]=some (bV (vo xs),[]):=by
 refine C5 U Tryz.func114 U ⟨by kernel_rfl,U,dT U,dT U,by decide⟩ d6f<|A3<|A0<|y_S U<|xN [0] [] U<|A3<|A0<|y_M U<|B7 U U ?_
 refine xC3 U U U U (f3n _ _ _) ⟨U,U,U⟩ U U fun g5=> ?_
 refine y_M U ?_;refine D3 U U ?_ ?_<;>intro a<;>have b:=a<;>try simp only[SG]at b
 ·refine y_M U<|gT U U ?_
  refine xC3 U U U U (b2q xs c 0 1000) ⟨U,U,U⟩ U U fun g8=> ?_
  refine E9 U (by assumption) U U<|y_S U<|xN [2] [] U<|A9<|C2 U U trivial ?_
  simp_all[vo,ofConst];try omega
 refine gF U U<|E8 U (by assumption) U U<|y_S U<|xN [2] [] U<|A9<|C2 U U trivial ?_
 simp_all[vo,ofConst];try omega
theorem d9m:D8 Tryz.f39=[0,2,3,7,15]:=by kernel_rfl
theorem f5g(xs:List Int)(k:xs.length<=1000):CW (cxT oG) 39 [L xs]=some (bV (vo xs),[]):=by
 refine C5 U Tryz.func39 U ⟨by kernel_rfl,U,dT U,dT U,by decide⟩ d9m<|A3<|A0<|y_S U<|xN [0] [] U<|A3<|A3<|A0<|y_S U<|xN [0,3] [] U<|A8<|D7 (β:=Nat) [(.t 0,_)] (fun(i:Nat)=>[(.t 3,iV i)]) (fun(i:Nat)=>i<=xs.length/\∀j,j<i->0<=xs.getD j default/\xs.getD j default<=1000) (fun(i:Nat)=>xs.length-i) 0 ⟨U,U,trivial⟩ ⟨Zt _,fun j h=>by omega⟩ ?_
 intro i e;obtain⟨f,b⟩:=e;refine A3<|A3<|A0<|y_M U<|y_M U<|B7 U U<|F0 U U<|xN [0,3,7] [] U ?_
 refine A4 U ?_ ?_<;>intro c<;>try simp only[SL]at c
 ·refine A6<|A3<|A8<|A3<|A0<|y_M U<|y_M U<|B4 U U U (fun _=>U) (by omega)<|y_I U ?_
  refine xC3 U U U U (a0x _ _ _) ⟨U,U,U⟩ U U fun g14=> ?_
  refine H5 U<|xN [0,3,15] [] U ?_
  refine A4 U ?_ ?_<;>intro c<;>try simp only[SL]at c
  ·refine A3<|A0<|y_S U<|xN [2] [] U<|A9<|C2 U U trivial ?_
   exact congrArg bV (f3f (show i<xs.length by omega) (by omega)).symm
  refine A6<|A0<|y_M U<|D6 U U (B9 (by omega))<|y_S U<|xN [0,3] [] U ?_
  refine⟨i+1,⟨by omega,fun a d=>by rcases Ys.1 d with h|h;exact b a h;subst h;exact(by simpa using c)⟩,(by omega),⟨U,U,trivial⟩⟩
 refine D5<|A3<|A0<|y_M U<|B7 U U ?_
 refine xC3 U U U U (a0x _ _ _) ⟨U,U,U⟩ U U fun g18=> ?_
 refine y_S U<|xN [2] [] U<|A9<|C2 U U trivial ?_
 exact congrArg bV (f2h fun j g=>b j (by omega)).symm
theorem b3m:D8 Tryz.f85=[0,2,9,16,15,17,14,5,6,4,3]:=by kernel_rfl
theorem d5q(l:List Int)(s:l.length<=1000):CW (cxT oG) 85 [L l]=some (.own 1 ((sdR l).map iV),[]):=by
 refine C5 U Tryz.func85 U ⟨by kernel_rfl,U,dT U,dT U,by decide⟩ b3m<|A3<|A0 ?_
 (refine B1 U U (fun _=>U) ?_;intro g2)
 refine xN [0] [] U<|A3<|A3<|A0<|y_M U ?_
 refine xC1 U U (f5n l s) ⟨U,U,U⟩ U U fun g8=> ?_
 refine H5 U<|xN [0,9] [] U ?_
 refine A4 U ?_ ?_<;>intro c<;>try simp only[SL]at c
 ·refine A3<|A0 ?_
  (refine B1 U U (fun _=>U) ?_;intro g2)
  refine xN [2] [2] U<|A9<|I6 U U (by(simp;done)) (by rfl) trivial ?_
  rw[sdR,if_neg (by simpa using c)]
  rfl
 have i:vo l=true:=by exact c
 have p:=d7y.1 i;have e:=p.2.1;have n:=p.1;have a:=fun x (y:x∈l)=>c0m p.2.2 y
 have v:=f5v e;obtain⟨_,_,⟨d,rfl,rfl,j⟩,q⟩:=e6w (oG:=oG) l e n;have u:=j.1;refine A6<|A3<|A0<|y_M U<|B7 U U<|Z5 (f:=iV) (x0:=0) U U U U U (by simp only[H6];omega) (dT U) (fun _=>B5 (by exact A7 fun _=>U)) (fun _=>U) ?_
 intro g12
 (refine xO U U (by simp) U (fun _=>U) (fun _=>U) ?_;intro g3)
 refine xN [0,3] [3] U<|A3<|A0<|y_S U<|xN [0,3,4] [3] U<|A3<|A3<|A0<|y_M U ?_
 apply a0z U
 ·apply B0
  ·exact B2 U
  exact C8
 ·exact q
 ·exact⟨U,U,U,dT U,U⟩
 ·exact .inl U
 ·exact B6
 ·exact G6
 ·(intro _;exact C7 (B5 (A7 fun _=>U)) U)
 intro g14;simp only[Zh];refine H2 U U<|y_M U<|xN [0,3,4,14,15,16] [3,1000014] U<|A8<|D7 (β:=Nat×List Int) [(.t 0,_),(.t 3,_),(.t 14,_),(.t 15,_),(.h 1000014,_)] (fun(z:Nat×List Int)=>match z with|(r,out)=>[(.t 16,iV r),(.t 4,iV (mR l d r)),(.h 3,.obj g3 0 1 (out.map iV))]) (fun(z:Nat×List Int)=>match z with|(r,out)=>Fil l d r out) (fun(z:Nat×List Int)=>match z with|(r,out)=>l.length-r) (0,ZN l.length 0) ⟨U,U,U,U,U,U,U,U,trivial⟩ ⟨Zt _,by simp,fun x h=>by omega⟩ ?_
 intro z b;obtain⟨r,out⟩:=z
 try dsimp only at b
 have w:=b.1;have g:=b.2.1;have o:=fun h=>j.2.2.2.1 r h
 refine A3<|A0<|F0 U U<|xN [0,3,4,14,15,16,17] [3,1000014] U<|A3 ?_
 refine A4 U ?_ ?_<;>intro c<;>try simp only[SL]at c
 ·refine A6<|A3<|A8<|A3<|A0<|y_M U<|C6 U U U U (by omega) (by(simp;done)) U<|E4 U U (by omega) (fun _=>U) (fun _=>U) U<|y_S U<|y_S U<|xN [0,3,4,5,6,14,15,16] [3,1000014] U<|A3<|A0<|y_M U<|y_M U<|y_M U ?_
  have m:=o (by omega);refine B4 U U U (fun _=>U) (by omega)<|y_I U<|y_M U<|B7 U U<|y_M U<|J8 U U (B9 (by omega)) ?_
  have k:=a _ (M7 m);have hm:=c4m k (show(l.length:Int)-(r:Int)<=6 by omega) (by omega);refine a0o U U (B9 (by omega))<|f3c U U<|c4w U U<|y_S U<|xN [0,3,4,6,14,15,16] [3,1000014] U<|A0<|y_M U<|y_M U<|y_M U<|C6 U U U U (by omega) (by(simp;omega)) U<|J4 U U U (by omega) (fun _ _=>⟨U,U,dT U,dT U,U,U⟩) (by decide) (by exact B5 (A7 fun _=>U))<|xN [0,3,4,14,15,16] [3,1000014] U<|A0<|D6 U U (B9 (by omega))<|y_M U<|xN [0,3,4,14,15,16] [3,1000014] U ?_
  refine⟨(r+1,out.set (d.getD r default) (mR l d (r+1))),(b.set j (by omega)),(by simp only;omega),⟨U,U,U,U,U,U,U,U,trivial⟩⟩
 refine D5<|A3<|A0<|y_M U ?_
 (refine H8 U U (by(simp[g];done)) U (fun _=>(B5 (by exact A7 fun _=>U))) (fun _=>U) ?_;intro g2)
 refine xN [2] [2] U<|A9<|I6 U U (by(simp[g];done)) (by exact A7 fun _=>U) trivial ?_
 rw[sdR,if_pos i,b.fin j (by omega)]
theorem c3x:D8 Tryz.f65=[0,2,4,11,6,17,44,5,3]:=by kernel_rfl
theorem e6e(l:List Int)(p:l.length<=1000):CW (cxT oG) 65 [L l]=some (.own 1 ((plU l l.length).map nV),[]):=by
 refine C5 U Tryz.func65 U ⟨by kernel_rfl,U,dT U,dT U,by decide⟩ c3x<|A3<|A0 ?_
 (refine B1 U U (fun _=>U) ?_;intro g2)
 refine xN [0] [] U<|A3<|A0<|C0 (es:=ZA nV []) U U (dT U) U U (fun _=>B5 (A7 fun _=>U)) (fun _=>U) ?_
 intro g7
 (refine xO U U (by simp) U (fun _=>U) (fun _=>U) ?_;intro g3)
 refine xN [0,3] [3] U<|A3<|A3<|A0<|y_S U<|xN [0,3,4] [3] U<|A8<|D7 (β:=Nat×List Nat×Nat) [(.t 0,_)] (fun(z:Nat×List Nat×Nat)=>match z with|(i,xs,g)=>[(.t 4,iV i),(.t 3,.sl 3 g none 0 xs.length),(.h 3,.obj g 0 1 (xs.map nV))]) (fun(z:Nat×List Nat×Nat)=>match z with|(i,xs,g)=>i<=l.length/\xs=plU l i) (fun(z:Nat×List Nat×Nat)=>match z with|(i,xs,g)=>l.length-i) (0,[],_) ⟨U,U,U,U,trivial⟩ ⟨Zt _,U⟩ ?_
 intro z d;obtain⟨i,xs,g⟩:=z
 try dsimp only at d
 obtain⟨m,c⟩:=d;have o:xs.length=i:=by rw[c];simp
 refine A3<|A3<|A0<|y_M U<|y_M U<|B7 U U<|F0 U U<|xN [0,3,4,11] [3] U ?_
 refine A4 U ?_ ?_<;>intro a<;>try simp only[SL]at a
 ·refine A6<|A3<|A8<|A3<|A0<|y_S U<|xN [0,3,4,5] [3] U<|A3<|A3<|A0<|y_S U<|xN [0,3,4,5,6] [3] U<|A8<|D7 (β:=Nat) [(.t 0,_),(.t 3,_),(.t 4,_),(.h 3,_)] (fun(k:Nat)=>[(.t 6,iV k),(.t 5,iV (pl l i k))]) (fun(k:Nat)=>k<=l.length) (fun(k:Nat)=>l.length-k) 0 ⟨U,U,U,U,U,U,trivial⟩ (Zt _) ?_
  intro k d;have n:=f2y l i k;refine A3<|A3<|A0<|y_M U<|y_M U<|B7 U U<|F0 U U<|xN [0,3,4,5,6,17] [3] U ?_
  refine A4 U ?_ ?_<;>intro a<;>try simp only[SL]at a
  ·refine A6<|A3<|A8<|A3<|A0<|y_M U<|y_M U<|B4 U U U (fun _=>U) (by omega)<|y_I U<|y_M U<|y_M U<|B4 U U U (fun _=>U) (by omega)<|y_I U<|F0 U U<|y_M U ?_
   refine D3 U U ?_ ?_<;>intro b<;>have e:=b<;>try simp only[SG]at e
   ·refine y_M U<|gT U U<|y_M U<|gT U U<|B4 U U U (fun _=>U) (by omega)<|gT U U<|y_I U<|gT U U<|y_M U<|gT U U<|y_M U<|gT U U<|B4 U U U (fun _=>U) (by omega)<|gT U U<|y_I U<|gT U U<|M9 U U<|gT U U<|y_M U ?_
    refine D3 U U ?_ ?_<;>intro b<;>have e:=b<;>try simp only[SG]at e
    ·refine y_M U<|gT U U<|y_M U<|gT U U<|F0 U U<|gT U U<|E9 U (by assumption) U U<|E8 U (by assumption) U U ?_
     refine G7 ⟨fun _=>⟨by decide+kernel,by decide+kernel⟩,[(.t 0,_),(.t 3,_),(.t 4,_),(.t 5,_),(.t 6,_),(.t 44,_),(.h 3,_)],⟨U,U,U,U,U,U,U,U,U,U,U,U,U,U,trivial⟩,?_⟩;refine A4 U ?_ ?_<;>intro a<;>try simp only[SL]at a
     ·refine A0<|y_M U<|D6 U U (B9 (by omega))<|y_S U<|xN [0,3,4,5,6] [3] U<|A0<|y_M U<|D6 U U (B9 (by omega))<|y_S U<|xN [0,3,4,5,6] [3] U ?_
      first
       |(have hlt:LTl l k i:=(by unfold LTl;omega)
         refine⟨k+1,by omega,by omega,?_⟩;rw[a3t,if_pos hlt];exact⟨U,U,U,U,U,U,trivial⟩)
       |(have hlt:¬LTl l k i:=(by unfold LTl;omega)
         refine⟨k+1,by omega,by omega,?_⟩;rw[a3t,if_neg hlt];exact⟨U,U,U,U,U,U,trivial⟩)
     refine A6<|A0<|y_M U<|D6 U U (B9 (by omega))<|y_S U<|xN [0,3,4,5,6] [3] U ?_
     first
      |(have hlt:LTl l k i:=(by unfold LTl;omega)
        refine⟨k+1,by omega,by omega,?_⟩;rw[a3t,if_pos hlt];exact⟨U,U,U,U,U,U,trivial⟩)
      |(have hlt:¬LTl l k i:=(by unfold LTl;omega)
        refine⟨k+1,by omega,by omega,?_⟩;rw[a3t,if_neg hlt];exact⟨U,U,U,U,U,U,trivial⟩)
    refine gF U U<|gF U U<|gT U U<|E8 U (by assumption) U U<|E8 U (by assumption) U U ?_
    refine G7 ⟨fun _=>⟨by decide+kernel,by decide+kernel⟩,[(.t 0,_),(.t 3,_),(.t 4,_),(.t 5,_),(.t 6,_),(.t 44,_),(.h 3,_)],⟨U,U,U,U,U,U,U,U,U,U,U,U,U,U,trivial⟩,?_⟩;refine A4 U (fun a=>absurd a (by decide)) (fun a=> ?_);refine A6<|A0<|y_M U<|D6 U U (B9 (by omega))<|y_S U<|xN [0,3,4,5,6] [3] U ?_
    first
     |(have hlt:LTl l k i:=(by unfold LTl;omega)
       refine⟨k+1,by omega,by omega,?_⟩;rw[a3t,if_pos hlt];exact⟨U,U,U,U,U,U,trivial⟩)
     |(have hlt:¬LTl l k i:=(by unfold LTl;omega)
       refine⟨k+1,by omega,by omega,?_⟩;rw[a3t,if_neg hlt];exact⟨U,U,U,U,U,U,trivial⟩)
   iterate 9 refine gF U U ?_
   refine a4z U U<|a4z U U<|a4z U U<|gF U U<|E9 U (by assumption) U U ?_
   refine G7 ⟨fun _=>⟨by decide+kernel,by decide+kernel⟩,[(.t 0,_),(.t 3,_),(.t 4,_),(.t 5,_),(.t 6,_),(.t 44,_),(.h 3,_)],⟨U,U,U,U,U,U,U,U,U,U,U,U,U,U,trivial⟩,?_⟩;refine A4 U (fun a=> ?_) (fun a=>absurd a (by decide));refine A0<|y_M U<|D6 U U (B9 (by omega))<|y_S U<|xN [0,3,4,5,6] [3] U<|A0<|y_M U<|D6 U U (B9 (by omega))<|y_S U<|xN [0,3,4,5,6] [3] U ?_
   first
    |(have hlt:LTl l k i:=(by unfold LTl;omega)
      refine⟨k+1,by omega,by omega,?_⟩;rw[a3t,if_pos hlt];exact⟨U,U,U,U,U,U,trivial⟩)
    |(have hlt:¬LTl l k i:=(by unfold LTl;omega)
      refine⟨k+1,by omega,by omega,?_⟩;rw[a3t,if_neg hlt];exact⟨U,U,U,U,U,U,trivial⟩)
  refine D5<|A0<|y_M U<|y_M U<|C0 (es:=ZA nV [pl l i k]) U U (dT U) U U (fun _=>B5 (A7 fun _=>U)) (fun _=>U) ?_
  intro f;refine xA U U U U (by simp) (by simp) U U U U U (fun _=>U) (by simp only[LN];omega) (fun _=>U) ?_;intro j
  (refine xO U U (by simp) U (fun _=>U) (fun _=>U) ?_;intro g3)
  refine xN [0,3,4] [3] U<|A0<|y_M U<|D6 U U (B9 (by omega))<|y_S U<|xN [0,3,4] [3] U ?_
  refine⟨(i+1,xs++[pl l i k],_),⟨by omega,?_⟩,by simp only;omega,⟨U,U,U,U,trivial⟩⟩;rw[e9f,c,at',show k=l.length by omega]
 refine D5<|A3<|A0<|y_M U ?_
 (refine xO U U (by simp) U (fun _=>U) (fun _=>U) ?_;intro g2)
 refine xN [2] [2] U<|A9<|I6 U U (by simp) (by exact A7 fun _=>U) trivial ?_
 rw[c,show i=l.length by omega]
theorem b4a:D8 Tryz.f40=[0,2,5,14,7,20,3,31,6,4]:=by kernel_rfl
theorem d2l(l:List Int)(r:l.length<=6)(c:∀x∈l,0<=x/\x<=1000):CW (cxT oG) 40 [L l]=some (.own 1 ((sdU l l.length).map iV),[]):=by
 refine C5 U Tryz.func40 U ⟨by kernel_rfl,U,dT U,dT U,by decide⟩ b4a<|A3<|A0 ?_
 (refine B1 U U (fun _=>U) ?_;intro g2)
 refine xN [0] [] U<|A3<|A0<|y_M U ?_
 apply xC U
 ·apply B0
  ·exact B2 U
  exact C8
 ·exact e6e l (by omega)
 refine⟨⟨U,U,U,dT U,U⟩,.inl U,B6,G6,fun _=>U,fun g9=> ?_⟩;simp only[Zh,d7c]
 (refine xO U U (by simp) U (fun _=>U) (fun _=>U) ?_;intro g3)
 refine xN [0,3] [3] U<|A3<|A0<|C0 (es:=ZA iV []) U U (dT U) U U (fun _=>B5 (A7 fun _=>U)) (fun _=>U) ?_
 intro g10
 (refine xO U U (by simp) U (fun _=>U) (fun _=>U) ?_;intro g4)
 refine xN [0,3,4] [3,4] U<|A3<|A3<|A0<|y_S U<|xN [0,3,4,5] [3,4] U<|A8<|D7 (β:=Nat×List Int×Nat) [(.t 0,_),(.t 3,_),(.h 3,_)] (fun(z:Nat×List Int×Nat)=>match z with|(i,xs,g)=>[(.t 5,iV i),(.t 4,.sl 4 g none 0 xs.length),(.h 4,.obj g 0 1 (xs.map iV))]) (fun(z:Nat×List Int×Nat)=>match z with|(i,xs,g)=>i<=l.length/\xs=sdU l i) (fun(z:Nat×List Int×Nat)=>match z with|(i,xs,g)=>l.length-i) (0,[],_) ⟨U,U,U,U,U,U,trivial⟩ ⟨Zt _,U⟩ ?_
 intro z f;obtain⟨i,xs,g⟩:=z
 try dsimp only at f
 obtain⟨p,a⟩:=f;have q:xs.length=i:=by rw[a];simp
 refine A3<|A3<|A0<|y_M U<|y_M U<|B7 U U<|F0 U U<|xN [0,3,4,5,14] [3,4] U ?_
 refine A4 U ?_ ?_<;>intro d<;>try simp only[SL]at d
 ·refine A6<|A3<|A8<|A3<|A0<|y_S U<|xN [0,3,4,5,6] [3,4] U<|A3<|A3<|A0<|y_S U<|xN [0,3,4,5,6,7] [3,4] U<|A8<|D7 (β:=Nat) [(.t 0,_),(.t 3,_),(.t 4,_),(.t 5,_),(.h 3,_),(.h 4,_)] (fun(k:Nat)=>[(.t 7,iV k),(.t 6,iV (mxU l i k))]) (fun(k:Nat)=>k<=l.length) (fun(k:Nat)=>l.length-k) 0 ⟨U,U,U,U,U,U,U,U,trivial⟩ (Zt _) ?_
  intro k f;refine A3<|A3<|A0<|y_M U<|y_M U<|B7 U U<|F0 U U<|xN [0,3,4,5,6,7,20] [3,4] U ?_
  refine A4 U ?_ ?_<;>intro d<;>try simp only[SL]at d
  ·refine A6<|A3<|A8<|A3<|A0<|y_M U<|y_M U<|C6 U U U U (by omega) (by(simp;done)) U<|E4 U U (by(simp;omega)) (fun _=>U) (fun _=>U) U<|y_M U<|y_M U<|C6 U U U U (by omega) (by(simp;done)) U<|E4 U U (by(simp;omega)) (fun _=>U) (fun _=>U) U ?_
   have b:=d2u (l:=l) (show k<l.length by omega);have e:=d2u (l:=l) (show i<l.length by omega);rw[b,e];refine a3j U U ?_;refine G7 ⟨fun _=>⟨by decide+kernel,by decide+kernel⟩,[(.t 0,_),(.t 3,_),(.t 4,_),(.t 5,_),(.t 6,_),(.t 7,_),(.t 31,_),(.h 3,_),(.h 4,_)],⟨U,U,U,U,U,U,U,U,U,U,U,U,U,U,U,U,U,U,trivial⟩,?_⟩;refine A4 U ?_ ?_<;>intro d<;>try simp only[SL]at d
   ·refine A0<|y_M U<|y_M U<|y_M U<|B4 U U U (fun _=>U) (by omega)<|y_I U<|y_M U<|B7 U U<|y_M U<|y_M U<|C6 U U U U (by omega) (by(simp;done)) U<|E4 U U (by(simp;omega)) (fun _=>U) (fun _=>U) U ?_
    rw[b];have o:at' l k<=l.length:=f2y l k l.length;refine J8 U U (B9 (by omega)) ?_;have j:=c _ (M7 (show k<l.length by omega));have hm:=c4m j (show(l.length:Int)-(at' l k:Int)<=6 by omega) (by omega);refine a0o U U (B9 (by omega))<|c4w U U<|y_S U ?_
    refine G7 ⟨fun _=>⟨by decide+kernel,by decide+kernel⟩,[(.t 0,_),(.t 3,_),(.t 4,_),(.t 5,_),(.t 6,_),(.t 7,_),(.h 3,_),(.h 4,_)],⟨U,U,U,U,U,U,U,U,U,U,U,U,U,U,U,U,trivial⟩,?_⟩;refine A0<|y_M U<|D6 U U (B9 (by omega))<|y_S U<|xN [0,3,4,5,6,7] [3,4] U ?_
    first
     |(have hlt:at' l k<=at' l i:=(by omega)
       refine⟨k+1,by omega,by omega,?_⟩;rw[mxU,if_pos hlt];exact⟨U,U,U,U,U,U,U,U,trivial⟩)
     |(have hlt:¬at' l k<=at' l i:=(by omega)
       refine⟨k+1,by omega,by omega,?_⟩;rw[mxU,if_neg hlt];exact⟨U,U,U,U,U,U,U,U,trivial⟩)
   refine A6<|A0<|y_M U<|D6 U U (B9 (by omega))<|y_S U<|xN [0,3,4,5,6,7] [3,4] U ?_
   first
    |(have hlt:at' l k<=at' l i:=(by omega)
      refine⟨k+1,by omega,by omega,?_⟩;rw[mxU,if_pos hlt];exact⟨U,U,U,U,U,U,U,U,trivial⟩)
    |(have hlt:¬at' l k<=at' l i:=(by omega)
      refine⟨k+1,by omega,by omega,?_⟩;rw[mxU,if_neg hlt];exact⟨U,U,U,U,U,U,U,U,trivial⟩)
  refine D5<|A0<|y_M U<|y_M U<|f3c U U<|C0 (es:=ZA iV [_]) U U (dT U) U U (fun _=>B5 (A7 fun _=>U)) (fun _=>U) ?_
  intro m;refine xA U U U U (by simp) (by simp) U U U U U (fun _=>U) (by simp only[LN];omega) (fun _=>U) ?_;intro n
  (refine xO U U (by simp) U (fun _=>U) (fun _=>U) ?_;intro g4)
  refine xN [0,3,4,5] [3,4] U<|A0<|y_M U<|D6 U U (B9 (by omega))<|y_S U<|xN [0,3,4,5] [3,4] U ?_
  refine⟨(i+1,xs++[min (mxU l i k) 1000],_),⟨by omega,?_⟩,by simp only;omega,⟨U,U,U,U,U,U,trivial⟩⟩;rw[e6i,a,sdv,show k=l.length by omega]
 refine D5<|A3<|A0<|y_M U ?_
 (refine xO U U (by simp) U (fun _=>U) (fun _=>U) ?_;intro g2)
 refine xN [2] [2] U<|A9<|I6 U U (by simp) (by exact A7 fun _=>U) trivial ?_
 rw[a,show i=l.length by omega]
theorem b6m:D8 Tryz.f48=[0,1,4,5,7,19,6,10]:=by kernel_rfl
theorem b9y(s:List UInt8)(m:s.length<=1048576)(a:List (List Int))(e:a.length<=1048576)(f:∀c∈a,c.length<=1048576):CW (cxT oG) 48 [tV s,M a]=some (.tup [.own 1 (((Mv.runT a s).getD []).map iV),bV (Mv.runT a s).isSome],[]):=by
 refine C5 U Tryz.func48 U ⟨by kernel_rfl,U,dT U,dT U,by decide⟩ b6m<|A3<|A0 ?_
 (refine B1 U U (fun _=>U) ?_;intro g4)
 refine y_S U<|xN [0,1] [] U<|A3<|A0<|y_M U ?_
 apply xC U
 ·apply B0
  ·exact B2 U
  exact C8
 ·exact a6w s m
 refine⟨⟨U,U,U,dT U,U⟩,.inl U,B6,I7 U,fun _=>U,fun g10=> ?_⟩;refine y_M U<|y_E U<|y_E U<|y_A U (fun _=>U) ?_
 intro g6;refine xB U U U U U U U U U<|y_S U<|xN [1,6,7] [6] U<|A3<|A3<|A0<|y_M U<|H5 U<|y_M U ?_
 refine D3 U U ?_ ?_<;>intro h<;>have l:=h<;>try simp only[SG]at l
 ·refine y_M U<|gT U U ?_
  refine xC1 U U (b9c a e f) ⟨U,U,U⟩ U U fun g17=> ?_
  refine gT U U<|H5 U<|E8 U (by assumption) U U<|xN [1,6,19] [6] U ?_
  refine A4 U ?_ ?_<;>intro d<;>try simp only[SL]at d
  ·refine A3<|A0 ?_
   (refine B1 U U (fun _=>U) ?_;intro g4)
   refine y_S U<|xN [4,5] [4] U<|A9<|B8 (F9 U U (by simp) (by rfl) (C9 U U (C4 B3))) ?_
   rw[b8f (by exact .inr (by simpa using d))]
   rfl
  refine A6<|A3<|A0<|y_B U<|y_M U ?_
  obtain⟨t,b,q,r⟩:=a5x (show(rdPlan s).isSome=true by assumption);obtain⟨o,j,i,n,p⟩:=a1f b;have g:vcs a=true:=by assumption
  rw[e8w b,a9d g b];apply xC U
  ·apply B0
   ·exact B2 U
   apply B0
   ·exact B2 U
   exact C8
  ·exact(by have k:=d8c (oG:=oG) t i j a g e f;rw[<-K4]at k;exact k)
  refine⟨⟨U,U,U,dT U,U⟩,.inr ⟨H9 _ _,U⟩,B6,G9 (K5 fun _=>J0 U K6),fun _=>U,fun g22=> ?_⟩;simp only[Zh];refine y_E U<|y_E U ?_
  (refine xO U U (by simp) U (fun _=>U) (fun _=>U) ?_;intro g4)
  refine y_S U<|xN [4,5] [4] U<|A9<|B8 (F9 U U (by simp) (by exact A7 fun _=>U) (C9 U U (C4 B3))) ?_
  rfl
 refine gF U U<|gF U U<|E9 U (by assumption) U U<|xN [1,6,19] [6] U ?_
 refine A4 U (fun d=> ?_) (fun d=>absurd d (by decide));refine A3<|A0 ?_
 (refine B1 U U (fun _=>U) ?_;intro g4)
 refine y_S U<|xN [4,5] [4] U<|A9<|B8 (F9 U U (by simp) (by rfl) (C9 U U (C4 B3))) ?_
 rw[b8f (by exact .inl (by assumption))]
 rfl
theorem d5g:D8 Tryz.f80=[0,2,1,5]:=by kernel_rfl
theorem e9a(q:Rat)(hq:Sm 1000000 q):CW (cxT oG) 80 [qV q]=some (tV (frT q),[]):=by
 have b:=hq.1;have c:=hq.2.1;have d:=hq.2.2;have g:=Q7 q;have e:=L4 (m:=q.num) ⟨b,c⟩;have f:=L4 (m:=(q.den:Int)) ⟨by omega,d⟩;refine C5 U Tryz.func80 U ⟨by kernel_rfl,U,dT U,dT U,by decide⟩ d5g<|A3<|A0<|P3 U U U (fun _=>I8 U) (fun _=>U) ?_
 intro g1;refine y_S U<|xN [1] [1] U<|A3<|A3<|A0<|y_F U<|y_L U<|M9 U U<|xN [1,5] [1] U ?_
 refine A4 U ?_ ?_<;>intro a<;>try simp only[SL]at a
 ·refine A3<|A0<|y_F U<|y_L U ?_
  refine xC1 U U (b0q q.num (by omega)) ⟨U,U,U⟩ U U fun g8=> ?_
  refine y_S U<|xN [2] [] U<|A9<|C2 U U trivial ?_
  rw[frT,if_pos a]
 refine A6<|A3<|A0<|y_F U<|y_L U ?_
 refine xC1 U U (b0q q.num (by omega)) ⟨U,U,U⟩ U U fun g11=> ?_
 refine N6 U U (by simp only[H6,Zl,Zg,Zs];omega)<|y_F U<|y_L U ?_
 refine xC1 U U (b0q (q.den:Int) (by omega)) ⟨U,U,U⟩ U U fun g15=> ?_
 refine N6 U U (by simp only[H6,Zl,Zg,Zs];omega)<|y_S U ?_
 refine G7 ⟨fun _=>⟨by(simp only[V8,Zi,Zm,Zy,Yf,Zp];decide+kernel),by decide+kernel⟩,[(.t 2,_)],⟨U,U,trivial⟩,?_⟩;refine A9<|C2 U U trivial ?_
 rw[frT,if_neg a]
theorem d4g:D8 Tryz.f31=[0,2,1,5]:=by kernel_rfl
theorem d7b(q:Rat)(hq:Sm 1000000 q):CW (cxT oG) 31 [qV q]=some (tV (frT q),[]):=by
 have b:=hq.1;have c:=hq.2.1;have d:=hq.2.2;have g:=Q7 q;have e:=L4 (m:=q.num) ⟨b,c⟩;have f:=L4 (m:=(q.den:Int)) ⟨by omega,d⟩;refine C5 U Tryz.func31 U ⟨by kernel_rfl,U,dT U,dT U,by decide⟩ d4g<|A3<|A0<|P3 U U U (fun _=>I8 U) (fun _=>U) ?_
 intro g1;refine y_S U<|xN [1] [1] U<|A3<|A3<|A0<|y_F U<|y_L U<|M9 U U<|xN [1,5] [1] U ?_
 refine A4 U ?_ ?_<;>intro a<;>try simp only[SL]at a
 ·refine A3<|A0<|y_F U<|y_L U ?_
  refine xC1 U U (T5 q.num (by omega)) ⟨U,U,U⟩ U U fun g8=> ?_
  refine y_S U<|xN [2] [] U<|A9<|C2 U U trivial ?_
  rw[frT,if_pos a]
 refine A6<|A3<|A0<|y_F U<|y_L U ?_
 refine xC1 U U (T5 q.num (by omega)) ⟨U,U,U⟩ U U fun g11=> ?_
 refine N6 U U (by simp only[H6,Zl,Zg,Zs];omega)<|y_F U<|y_L U ?_
 refine xC1 U U (T5 (q.den:Int) (by omega)) ⟨U,U,U⟩ U U fun g15=> ?_
 refine N6 U U (by simp only[H6,Zl,Zg,Zs];omega)<|y_S U ?_
 refine G7 ⟨fun _=>⟨by(simp only[V8,Zi,Zm,Zy,Yf,Zp];decide+kernel),by decide+kernel⟩,[(.t 2,_)],⟨U,U,trivial⟩,?_⟩;refine A9<|C2 U U trivial ?_
 rw[frT,if_neg a]
theorem c7s:D8 Tryz.f36=[0,2,4,8,12,3]:=by kernel_rfl
theorem f0c(qs:List Rat)(k:qs.length<=1000)(hq:∀q∈qs,Sm 1000000 q):CW (cxT oG) 36 [.list (qs.map qV)]=some (tV (frsT qs),[]):=by
 have f:=fun(i:Nat) (h:i<qs.length)=>hq _ (L8 h)
 refine C5 U Tryz.func36 U ⟨by kernel_rfl,U,dT U,dT U,by decide⟩ c7s<|A3<|A0<|y_S U<|xN [0] [] U<|A3<|A0<|y_S U<|xN [0,3] [] U<|A3<|A3<|A0<|y_S U<|xN [0,3,4] [] U<|A8<|D7 (β:=Nat) [(.t 0,_)] (fun(i:Nat)=>[(.t 4,iV i),(.t 3,tV (frsT (qs.take i)))]) (fun(i:Nat)=>i<=qs.length) (fun(i:Nat)=>qs.length-i) 0 ⟨U,U,U,trivial⟩ (Zt _) ?_
 intro i g;have j:=g;have e:=b8p (qs:=qs.take i) (fun q h=>hq q (List.mem_of_mem_take h));rw[ZU]at e;refine A3<|A3<|A0<|y_M U<|y_M U<|B7 U U<|F0 U U<|xN [0,3,4,8] [] U ?_
 refine A4 U ?_ ?_<;>intro c<;>try simp only[SL]at c
 ·refine A6<|A3<|A8<|A3<|A3<|A0<|y_M U<|M0 U U<|xN [0,3,4,12] [] U ?_
  refine A4 U ?_ ?_<;>intro c<;>try simp only[SL]at c
  ·have b:0<i:=by omega
   refine A0<|y_M U<|N6 U U (by simp only[H6,Zl,Zg,Zs];omega)<|y_S U<|xN [0,3,4] [] U<|A0<|y_M U<|y_M U<|y_M U<|B4 U U U (fun _=>U) (by omega)<|y_I U ?_
   have a:=f i (by omega);have d:=b8e a;refine xC1 U U (d7b (qs.getD i default) a) ⟨U,U,U⟩ U U fun g20=> ?_
   refine N6 U U (by simp only[H6,Zl,Zg,Zs];omega)<|y_S U<|xN [0,3,4] [] U<|A0<|y_M U<|D6 U U (B9 (by omega))<|y_S U<|xN [0,3,4] [] U ?_
   rw[<-d7m (by omega) b];refine⟨i+1,?_,(by omega),⟨U,U,U,trivial⟩⟩;omega
  have b:i=0:=by omega
  refine A6<|A0<|y_M U<|y_M U<|y_M U<|B4 U U U (fun _=>U) (by omega)<|y_I U ?_
  have a:=f i (by omega);have d:=b8e a;refine xC1 U U (d7b (qs.getD i default) a) ⟨U,U,U⟩ U U fun g20=> ?_
  refine N6 U U (by simp only[H6,Zl,Zg,Zs];omega)<|y_S U<|xN [0,3,4] [] U<|A0<|y_M U<|D6 U U (B9 (by omega))<|y_S U<|xN [0,3,4] [] U ?_
  rw[<-d6h (by omega) b];refine⟨i+1,?_,(by omega),⟨U,U,U,trivial⟩⟩;omega
 refine D5<|A3<|A0<|y_M U<|y_S U<|xN [2] [] U<|A9<|C2 U U trivial ?_
 rw[ZC (by omega)]
theorem c2k:D8 Tryz.f68=[0,1,4,8,7,9,5,16]:=by kernel_rfl
theorem e7z(ws:List W8)(f:ws.length<=1000)(w:W8):∃res outs,(fun res outs=>∃r:Int,res=iV r/\outs=[]/\decide (0<=r)=ws.any fun v=>decide (w=v)) res outs/\CW (cxT oG) 68 [.list (ws.map tV),tV w]=some (res,outs):=by
 refine P9 U Tryz.func68 U ⟨by kernel_rfl,U,dT U,dT U,by decide⟩ c2k<|A3<|A0<|y_S U<|xN [0,1] [] U<|A3<|A3<|A0<|y_M U<|B7 U U<|y_M U<|xN [0,1,7,8] [] U<|A8<|D7 (β:=Nat) [(.t 0,_),(.t 1,_),(.t 7,_)] (fun(i:Nat)=>[(.t 8,iV i)]) (fun(i:Nat)=>i<=ws.length/\∀j,j<i->decide (w=ws.getD j default)=false) (fun(i:Nat)=>ws.length-i) 0 ⟨U,U,U,U,trivial⟩ ⟨Zt _,fun j h=>by omega⟩ ?_
 intro i d;obtain⟨e,b⟩:=d;refine A3<|A0<|F0 U U<|xN [0,1,7,8,9] [] U<|A3 ?_
 refine A4 U ?_ ?_<;>intro a<;>try simp only[SL]at a
 ·refine A6<|A3<|A8<|A3<|A0<|y_M U<|y_S U<|xN [0,1,5,7,8] [] U<|A3<|A0<|y_M U<|y_M U<|y_M U<|B4 U U U (fun _=>U) (by omega)<|y_I U<|H0 U U<|xN [0,1,5,7,8,16] [] U ?_
  refine A4 U ?_ ?_<;>intro a<;>try simp only[SL]at a
  ·refine A3<|A0<|y_M U<|y_S U<|xN [4] [] U<|A9 ?_
   refine⟨_,_,?_,M1 U U B3⟩;exact⟨_,U,U,e5v (q:=fun v=>decide (w=v)) (by omega) (by simpa using a)⟩
  refine A6<|A0<|D6 U U (B9 (by omega))<|y_M U<|xN [0,1,7,8] [] U ?_
  refine⟨i+1,⟨by omega,fun j c=>by rcases Ys.1 c with h|h;(·exact b j h);(·subst h;simpa using a)⟩,(by omega),⟨U,U,U,U,trivial⟩⟩
 refine D5<|A3<|A0<|y_S U<|xN [4] [] U<|A9 ?_
 refine⟨_,_,?_,M1 U U B3⟩;exact⟨-1,U,U,e3v (q:=fun v=>decide (w=v)) fun j c=>b j (by omega)⟩
theorem b3k:D8 Tryz.f43=[0,1,4]:=by kernel_rfl
theorem d3o(ws:List W8)(b:ws.length<=1000)(w:W8):CW (cxT oG) 43 [.list (ws.map tV),tV w]=some (bV (ws.any fun v=>decide (w=v)),[]):=by
 obtain⟨_,_,⟨r,rfl,rfl,c⟩,a⟩:=e7z (oG:=oG) ws b w;refine C5 U Tryz.func43 U ⟨by kernel_rfl,U,dT U,dT U,by decide⟩ b3k<|A3<|A0<|y_S U<|xN [0,1] [] U<|A3<|A0<|y_M U<|y_M U ?_
 refine xC2 U U U (a) ⟨U,U,U⟩ U U fun g7=> ?_
 refine c0e U U<|y_S U<|xN [4] [] U<|A9<|C2 U U trivial ?_
 rw[<-c]
theorem c7x:D8 Tryz.f141=[0,1,4,5,8,6,10,7,11,9,12,13]:=by kernel_rfl
theorem f0x(a b:Nat)(c:a*b<=1000)(d:a<=1000)(e:b<=1000):CW (cxT oG) 141 [wV a,wV b]=some (.tup [wV 0,wV ((a*b:Nat):Int)],[]):=by
 refine C5 U Tryz.func141 U ⟨by kernel_rfl,U,dT U,dT U,by decide⟩ c7x<|A3<|A0<|y_S U<|y_S U<|xN [0,1] [] U<|A3<|A0<|y_M U<|e1r U U ?_
 rw[e7x (n:=a) (by omega)];refine y_S U<|xN [0,1,6] [] U<|A3<|A0<|y_M U<|c4q U U (by decide) ?_
 rw[d2q (n:=a) (by omega)];refine y_S U<|xN [0,1,6,7] [] U<|A3<|A0<|y_M U<|e1r U U ?_
 rw[e7x (n:=b) (by omega)];refine y_S U<|xN [0,1,6,7,8] [] U<|A3<|A0<|y_M U<|c4q U U (by decide) ?_
 rw[d2q (n:=b) (by omega)];refine y_S U<|xN [0,1,6,7,8,9] [] U<|A3<|A0<|y_M U<|y_M U ?_
 have hm:(a:Int)*b=((a*b:Nat):Int):=by simp
 refine a0o U U (a7w (by rw[hm];omega)) ?_;rw[hm];refine y_S U<|xN [0,1,6,7,8,9,10] [] U<|A3<|A0<|y_M U<|y_M U<|a0o U U (a7w (by rw[Int.zero_mul];omega)) ?_
 rw[Int.zero_mul];refine y_M U<|c4q U U (by decide) ?_
 rw[d2q (n:=(a*b)) (by omega)];refine D6 U U (a7w (by omega)) ?_;rw[show(0:Int)+0=((0:Nat):Int)from U];refine y_S U<|xN [0,1,6,7,9,11] [] U<|A3<|A0<|y_M U<|e1r U U ?_
 rw[e7x (n:=0) (by omega)];refine y_S U<|xN [0,1,6,7,9,11,12] [] U<|A3<|A0<|y_M U<|c4q U U (by decide) ?_
 rw[d2q (n:=0) (by omega)];refine y_S U<|xN [0,1,6,7,9,12,13] [] U<|A3<|A0<|y_M U<|y_M U<|y_M U<|a0o U U (a7w (by rw[Int.mul_zero];omega)) ?_
 rw[Int.mul_zero];refine D6 U U (a7w (by omega)) ?_;rw[show(((0:Nat):Int))+0=((0:Nat):Int)from U];refine y_S U<|xN [0,1,7,9,12,13] [] U<|A3<|A0<|y_M U<|y_M U<|a0o U U (a7w (by omega)) ?_
 rw[show(0:Int)*0=0 from U];refine y_M U<|D6 U U (a7w (by omega)) ?_
 rw[show(0:Int)+0=0 from U];refine y_M U<|c4q U U (by decide) ?_
 rw[d2q (n:=0) (by omega)];refine D6 U U (a7w (by omega)) ?_;rw[show(0:Int)+0=0 from U];refine y_S U<|xN [0,1,4] [] U<|A3<|A0<|y_M U<|y_M U<|a0o U U (a7w (by rw[hm];omega)) ?_
 rw[hm];refine y_S U<|xN [4,5] [] U<|A9<|B8 (C9 U U (C9 U U (C4 B3))) ?_
 rfl
theorem d7r:D8 Tryz.f111=[0,1,4,5,7,6,9,8]:=by kernel_rfl
theorem f5o(a b:Nat)(d:a*b<=1000)(f:a<=1000)(g:b<=1000):CW (cxT oG) 111 [wV a,wV b]=some (.tup [wV 0,wV ((a*b:Nat):Int)],[]):=by
 refine C5 U Tryz.func111 U ⟨by kernel_rfl,U,dT U,dT U,by decide⟩ d7r<|A3<|A0<|y_S U<|y_S U<|xN [0,1] [] U<|A3 ?_
 refine A4 U (fun c=> ?_) (fun c=> ?_)
 ·try simp only[SD]at c
  cases c
 try simp only[SL]at c
 refine A6<|A3<|A0<|y_M U<|y_M U ?_
 apply xC U
 ·apply B0
  ·exact B2 U
  apply B0
  ·exact B2 U
  exact C8
 ·exact f0x a b d f g
 refine⟨⟨U,U,U,dT U,U⟩,.inl U,B6,I7 U,fun _=>U,fun e=> ?_⟩;refine y_M U<|y_E U<|y_E U<|y_S U<|y_S U<|xN [8,9] [] U<|A3<|A0<|y_M U<|y_M U<|y_S U<|y_S U<|xN [4,5] [] U<|A9<|B8 (C9 U U (C9 U U (C4 B3))) ?_
 rfl
theorem c3l:D8 Tryz.f82=[0,1,4,10,6,5,26,7,8,37]:=by kernel_rfl
theorem e5u(n:Nat)(k:n<=1000):CW (cxT oG) 82 [L [1],nV n]=some (.own 1 ((U6 n).map iV),[]):=by
 refine C5 U Tryz.func82 U ⟨by kernel_rfl,U,dT U,dT U,by decide⟩ c3l<|A3<|A0 ?_
 (refine B1 U U (fun _=>U) ?_;intro g4)
 refine xN [0,1] [] U<|A3<|A3<|A0<|y_M U<|F0 U U<|xN [0,1,10] [] U ?_
 refine A4 U (fun a=> ?_) (fun a=> ?_)
 ·try simp only[SD]at a
  omega
 try simp only[SL]at a
 refine A6<|A3<|A0<|y_M U<|B7 U U<|a6f U U U (a7w (by decide))<|y_M U<|a6f U U U (a7w (by omega)) ?_
 apply xC U
 ·apply B0
  ·exact B2 U
  apply B0
  ·exact B2 U
  exact C8
 ·exact f5o 1 n (by omega) (by omega) k
 refine⟨⟨U,U,U,dT U,U⟩,.inl U,B6,I7 U,fun _=>U,fun g18=> ?_⟩;rw[Nat.one_mul];refine y_M U<|y_E U<|y_E U<|y_S U<|y_S U<|xN [0,5,6] [] U<|A3<|A3<|A0<|y_M U<|M0 U U<|y_M U<|H1 U U U<|y_M U<|H1 U U U<|M0 U U<|E8 U U U U<|xN [0,6,26] [] U ?_
 refine A4 U (fun a=> ?_) (fun a=> ?_)
 ·try simp only[SD]at a
  omega
 try simp only[SL]at a
 refine A6<|A3<|A0<|y_M U<|a6f U U U (B9 (by omega))<|Z5 (f:=iV) (x0:=0) U U U U U (by simp only[H6];omega) (dT U) (fun _=>B5 (by exact A7 fun _=>U)) (fun _=>U) ?_
 intro g
 (refine xO U U (by simp) U (fun _=>U) (fun _=>U) ?_;intro g7)
 refine xN [0,7] [7] U<|A3<|A0<|y_M U<|y_M U ?_
 try simp only[Int.toNat_natCast]
 refine c1r (ys:=[1]) U U e8n U (by simp) U (by simp only[H6];simp;omega) U (B5 (A7 fun _=>U))<|y_S U<|xN [7,8] [7] U<|A3<|A8<|D7 (β:=Nat×List Int) [(.t 7,_)] (fun(z:Nat×List Int)=>match z with|(m,xs)=>[(.t 8,nV m),(.h 7,.obj g7 0 1 (xs.map iV))]) (fun(z:Nat×List Int)=>match z with|(m,xs)=>Cps n m xs/\(m=0->n=0)) (fun(z:Nat×List Int)=>match z with|(m,xs)=>n-m) (min 1 n,_) ⟨U,U,U,trivial⟩ ⟨f1u n,by omega⟩ ?_
 intro z e;obtain⟨m,xs⟩:=z
 try dsimp only at e
 obtain⟨b,j⟩:=e;have c:=d9y b;have i:=b.1;refine A3<|A3<|A0<|y_M U<|y_M U<|H2 U U<|F0 U U<|xN [7,8,37] [7] U ?_
 refine A4 U ?_ ?_<;>intro a<;>try simp only[SL]at a
 ·refine A6<|A8<|A0<|y_M U<|y_M U<|y_M U<|a7s U U U J9 (G2 U) (by omega) U<|y_M U<|y_M U<|a3i U U U (G2 U) (by omega) U<|c1r U U (f4s U U (by omega)) U (by omega) U (by simp only[H6];omega) U (B5 (A7 fun _=>U))<|D6 U U (B9 (by omega))<|y_S U ?_
  refine G7 ⟨fun _=>⟨by decide+kernel,by decide+kernel⟩,[(.t 7,_),(.t 8,_),(.h 7,_)],⟨U,U,U,U,U,U,trivial⟩,?_⟩;rw[<-Int.natCast_add];refine⟨(m+min (xs.take m).length (n-m),_),?_,(by simp only;rw[ZU];omega),⟨U,U,U,trivial⟩⟩;exact⟨by have h:=e8a b U;simpa only[ZI]using h,by omega⟩
 refine D5<|A3<|A0<|y_M U ?_
 (refine H8 U U (by(simp;omega)) U (fun _=>(B5 (by exact A7 fun _=>U))) (fun _=>U) ?_;intro g4)
 refine xN [4] [4] U<|A9<|I6 U U (by simp[c]) (by exact A7 fun _=>U) trivial ?_
 have d:m=n:=by omega
 subst d;rw[f0y b]
end Go.Proofs.YtjmoceabjajefaaGreatDoor
