/- The law FnRunDesk returns true for every input and leaves it as it was. Conditions: none. -/
import Derived.Test.YtjmoceabjajefaaGreatDoorX
import Derived.ChangeMaps5
import Derived.Test.YtjmoceabjajefaaGreatDoorRows
import Derived.Test.YtjmoceabjajefaaGreatDoorCards
import Derived.Test.YtjmoceabjajefaaGreatDoorTie
import Derived.Test.YtjmoceabjajefaaGreatDoorKa
import Derived.Test.YtjmoceabjajefaaGreatDoorKb
set_option linter.unusedVariables false
set_option linter.unusedSimpArgs false
namespace Go.Proofs.YtjmoceabjajefaaGreatDoor
open Go Go.Mv Go.ChangeShapes Go.WideShapes Go.ChangeAt Go.RowKit Go.ChangeMaps
theorem Tryz.own:ownKnob Tryz.prog.godebug=none:=by kernel_rfl
theorem Tryz.laidOut:laidOutB Tryz.prog=true:=by kernel_rfl
theorem e7k{xs:List Int}(h:∀x∈xs,(Lit.int .u8 x).wf=true):a8b xs:=by
 intro x hx;have:=h x hx;simp[Lit.wf,IntKind.min,IntKind.max,IntKind.signed,IntKind.bits]at this;omega
noncomputable abbrev fnRunDesk_laid:List (String×DataW Unit):=Rows.fnRunDeskRow.laid
abbrev fnRunDesk_great:List String:=["math/bits.deBruijn32tab","math/bits.deBruijn64tab","internal/strconv.uint64pow10","unicode/utf8.acceptRanges","strconv.ErrRange","strconv.ErrSyntax","unicode/utf8.first"]
theorem fnRunDesk_env{W:World}(h:laidMetH Tryz.prog fnRunDesk_laid W)(hs:W.ShapedOpen Tryz.prog):∃rG,(Tryz.env rG).G W:=by
 rw[MakeChecks.laidMetH_plain _ _ _ (by kernel_rfl)]at h;obtain⟨ps,hl,_,_⟩:=h;obtain⟨rG,hG1,hG2⟩:=e4a (i:=6) (n:= "loop.example/countedchances/impl.gone") hl (by kernel_rfl) (by kernel_rfl) (by kernel_rfl) Tryz.underlying137 Tryz.underlying9 Tryz.underlying135 Tryz.underlying4 (by kernel_rfl) (by kernel_rfl);exact⟨rG,⟨cell_of_shapedOpen_int hs (of_decide_eq_true (by kernel_rfl)) (zero:= #[.int .i64 0]) (by kernel_rfl) rfl (by kernel_rfl) (by kernel_rfl) Tryz.underlying3,
  e7o (i:=2) (g:=2) hl (by kernel_rfl) (by kernel_rfl) (by kernel_rfl) Tryz.underlying158 Tryz.underlying139 (by kernel_rfl) (by kernel_rfl),
  b8y (i:=5) hl rfl (by kernel_rfl) (by kernel_rfl) Tryz.underlying41,b8y (i:=4) hl rfl (by kernel_rfl) (by kernel_rfl) Tryz.underlying41⟩,hG1,hG2⟩
set_option maxRecDepth 100000 in
theorem fnRunDesk_lifted(os:Os)(started:os.Started)(H:Type)(enc:TypeId×Value->H):
 ReturnsInHanded {} Tryz.checked os 4 .any (fun w args=>(Rows.fnRunDeskSpec.pre enc Tryz.prog Tryz.f4 Rows.fnRunDeskRow.domain false w args/\laidMetH Tryz.prog fnRunDesk_laid w)/\sizedMet enc Tryz.prog Tryz.f4 (OpenSpec.ofChange Rows.fnRunDeskSpec) false w args)
  (Rows.fnRunDeskSpec.post enc Tryz.prog Tryz.f4 false true false false):=by
 refine d1x (C:=Tryz.checked) (X:=fun w _=>laidMetH Tryz.prog fnRunDesk_laid w) (fun _ _ _ hh h=>h.of_heap hh) Tryz.own started (by kernel_rfl) Tryz.func4
  (ChangeSpec.witness_shaped (enc:=enc) (C:=Tryz.checked) (os:=os) (X:=fun w _=>laidMetH Tryz.prog fnRunDesk_laid w) false (b0c Tryz.prog os 1 (fnRunDesk_laid.filter fun x=>fnRunDesk_great.contains x.1)) #[.slice none 0 0] 8 (f1b _ _ _ _)
    (World.shaped_of_ZipB (by kernel_rfl) (by kernel_rfl)) (by kernel_rfl) (by kernel_rfl) (by kernel_rfl)
    (by rw[MakeChecks.laidMetH_plain _ _ _ (by kernel_rfl)];exact c7w _ fnRunDesk_great 8 (by kernel_rfl) (by kernel_rfl) (by kernel_rfl) (by kernel_rfl) (by kernel_rfl) (by kernel_rfl))) ?_
 intro W base args ds gs before hval0 hW hsh hL;obtain⟨rG,hG⟩:=fnRunDesk_env hL hsh;have hval:∀(j:Nat) t v,Tryz.f4.params[j]? =some t->args[j]? =some v->Value.okWide Tryz.prog W .any base t v:=hval0;have hW':=hW;obtain⟨p,q,hA0,hV,rfl,hfz,hnd⟩:=hW;have hA:DataW.TrodAll enc Tryz.prog W 0 (fun _=>true) true Tryz.f4.params.toList args.toList ds p:=hA0;rw[Tryz.params4]at hA hval;obtain⟨v0,vs0,d0,ds0,p0,q0,hargs,rfl,rfl,h0,r0⟩:=trodAll_cons hA;obtain⟨rfl,rfl,rfl⟩:=trodAll_nil r0;obtain rfl:args= #[v0]:=by cases args;simp_all
 obtain⟨gd,rfl⟩:=d9x hV;have hs0:∃a n c,v0= .slice a n c:=okWide_slice Tryz.underlying28 (hval 0 28 v0 rfl rfl);obtain⟨xs0,hrv0,hwf0⟩:=f3r Tryz.underlying28 Tryz.underlying5 (by kernel_rfl) hs0 h0;refine(e5n (cxL (some rG)) Tryz.soundL (av:=[.list (xs0.map uV)]) rfl (fun i a hi=> ?_) (fun a ha=> ?_) (d4w xs0 (e7k hwf0)) (e0b hG) hG).mono fun e W' ⟨he,hB⟩=>⟨_,he,?_⟩
 ·match i,hi with
  |0,hi=>cases hi;exact hrv0
 ·simp at ha;subst ha;rfl
 ·exact e5o Tryz.laidOut (of_decide_eq_true (by kernel_rfl)) (by kernel_rfl) hW' hB rfl Tryz.underlying4 rfl rfl rfl
theorem fnRunDesk_k5:joinedFacts Tryz.pinned.checked.prog 4 Tryz.f4 Rows.fnRunDeskSpec Rows.fnRunDeskRow=true:=by
 unfold joinedFacts;rw[fnRunDesk_k1,fnRunDesk_k2,fnRunDesk_k3,fnRunDesk_k4]
 kernel_rfl
theorem fnRunDesk_row:Rows.FnRunDeskSaid:=
 OpenClaim.holds_of_wide 4 Tryz.f4 rfl rfl rfl rfl rfl rfl rfl ⟨rfl,rfl,rfl,rfl,rfl⟩ rfl rfl rfl rfl rfl (by kernel_rfl) Tryz.func4 fnRunDesk_k5
  (of_decide_eq_true (by kernel_rfl)) (by unfold Func.isWrapper;first|(rw[if_pos (by decide+kernel)];kernel_rfl)|(rw[if_neg (by decide+kernel)];exact⟨rfl,rfl⟩))
  (fun os started H enc _=>fnRunDesk_lifted os started H enc)
theorem fnRunDesk_holds:Rows.FnRunDeskCardSaid:=
 Claim7.holds_tied_plain_at .later [] [.data,.data,.data,.data,.sentinel,.sentinel,.mapped,.pinned] true (true,"70fc07a2d998071d90c3f19b37096ead4e566c71e97b76cffbc8e00429ead7f7") true fnRunDesk_row (fun _ h=>by cases h) (by kernel_rfl) (fun _ h=>by cases h) fnRunDesk_row_tie rfl ⟨rfl,rfl⟩ (by kernel_rfl) rfl
  (fun f fn hf hfn=>by
    obtain rfl:f=4:=Option.some.inj ((show Tryz.prog.funcNamed "loop.example/countedchances/laws.FnRunDesk"=some 4 by kernel_rfl).symm.trans hf)|>.symm
    obtain rfl:fn=Tryz.f4:=(Option.some.inj (Tryz.func4.symm.trans hfn)).symm;exact⟨fnRunDesk_k6,fun j t ht=>by
     rw[Tryz.params4]at ht;have hm:t∈[28]:=by have:=Array.mem_of_getElem? ht;simpa using this
     have hall:([28].all fun u=> !Tryz.prog.wantsStandIn u)=true:=by kernel_rfl
     exact(show Tryz.prog.wantsStandIn t=false by simpa using List.all_eq_true.1 hall t hm)⟩)
  fnRunDesk_k7
#print axioms fnRunDesk_holds
end Go.Proofs.YtjmoceabjajefaaGreatDoor
