/-
  The statement PrintAsksCardSaid is proved, for every input, with no condition.
-/
import Derived.Test.YtmhjkbdicaelbaaGreatDoorZS7
import Derived.Test.YtmhjkbdicaelbaaGreatDoorZL6
import Derived.Test.YtmhjkbdicaelbaaGreatDoorRows
import Derived.Lay
import Derived.Test.YtmhjkbdicaelbaaGreatDoorCards
import Derived.Test.YtmhjkbdicaelbaaGreatDoorTie
import Derived.SevenTiedAt
import Derived.ProofKit
import Derived.OpenShut
import Derived.Below
import Derived.Stop.Joined
set_option linter.unusedVariables false
set_option linter.unusedSimpArgs false
namespace Go.Proofs.YtmhjkbdicaelbaaGreatDoor
open Go Go.ChangeShapes Go.WideShapes Go.ChangeAt Go.RowKit
namespace PrintAsks
theorem own:ownKnob Tryz.prog.godebug=none:=by kernel_rfl
theorem laidOut:laidOutB Tryz.prog=true:=by kernel_rfl
theorem told:Go.Vc.FOK Tryz.prog Nu.GL 3 ⟨Nu.xO,.one .bool,fun _=>True,fun _=>true⟩:=Nu.bMR (Nu.aMP none) (fun x f hb=>Nu.aWZ x.1 x.2.1 (Nu.ScD.of (s:=x.2.1) f.2 hb.2))
theorem bKP(os:Os)(args:Array Value):laidMetH Tryz.prog Rows.printAsksRow.laid ((World.laidAll Tryz.prog os Rows.printAsksRow.laid).forCall (fun _ _=>0) ⟨#[],args,[]⟩).memory:=by
 rw[MakeChecks.laidMetH_plain _ _ _ (by kernel_rfl)];exact laidMet_laidAll _ (by kernel_rfl) (by kernel_rfl)
def nm1:String:=(Rows.printAsksRow.laid.map (fun x=>x.1)).getD 2 ""
theorem bPv:(nm1,Go.Vc.bJj .u64 [1,10,100,1000,10000,100000,1000000,10000000,100000000,1000000000,10000000000,100000000000,1000000000000,10000000000000,100000000000000,1000000000000000,10000000000000000,100000000000000000,1000000000000000000,10000000000000000000])∈Rows.printAsksRow.laid:=List.mem_of_getElem? (i:=2) (by kernel_rfl)
theorem gn1:Tryz.prog.globalNamed nm1=some 1:=by kernel_rfl
def nm5:String:=(Rows.printAsksRow.laid.map (fun x=>x.1)).getD 1 ""
theorem bPw:(nm5,Go.Vc.bJj .u8 [0,1,56,2,57,49,28,3,61,58,42,50,38,29,17,4,62,47,59,36,45,43,51,22,53,39,33,30,24,18,12,5,63,55,48,27,60,41,37,16,46,35,44,21,52,32,23,11,54,26,40,15,34,20,31,10,25,14,19,9,13,8,7,6])∈Rows.printAsksRow.laid:=List.mem_of_getElem? (i:=1) (by kernel_rfl)
theorem gn5:Tryz.prog.globalNamed nm5=some 5:=by kernel_rfl
theorem bOS{W:World}(h:laidMetH Tryz.prog Rows.printAsksRow.laid W):Go.Vc.sY Nu.GL (Go.Vc.aCF W) W:=by
 rw[MakeChecks.laidMetH_plain _ _ _ (by kernel_rfl)] at h;intro g
 match g with
 | 0=>trivial
 | 1 =>
  show Go.Vc.aZ _ _ (.roa (.arr 20 (.u .u64)) Nu.p10) _;rw[Nu.bJl];obtain⟨t,ht,f⟩:∃t,(Tryz.prog.globals[1]?).map (·.type)=some t∧Nu.TM t=some (.arr 20 (.u .u64)):=⟨_,rfl,rfl⟩;exact Go.Vc.bCe Nu.bCf h nm1 1 t 20 .u64 [1,10,100,1000,10000,100000,1000000,10000000,100000000,1000000000,10000000000,100000000000,1000000000000,10000000000000,100000000000000,1000000000000000,10000000000000000,100000000000000000,1000000000000000000,10000000000000000000] bPv gn1 ht f (by decide)
 | 2=>trivial
 | 3=>trivial
 | 4=>trivial
 | 5 =>
  show Go.Vc.aZ _ _ (.roa (.arr 64 (.u .u8)) Nu.bEk) _;rw[Nu.bLJ];obtain⟨t,ht,f⟩:∃t,(Tryz.prog.globals[5]?).map (·.type)=some t∧Nu.TM t=some (.arr 64 (.u .u8)):=⟨_,rfl,rfl⟩;exact Go.Vc.bCe Nu.bCf h nm5 5 t 64 .u8 [0,1,56,2,57,49,28,3,61,58,42,50,38,29,17,4,62,47,59,36,45,43,51,22,53,39,33,30,24,18,12,5,63,55,48,27,60,41,37,16,46,35,44,21,52,32,23,11,54,26,40,15,34,20,31,10,25,14,19,9,13,8,7,6] bPw gn5 ht f (by decide)
 | _+6=>trivial
set_option maxRecDepth 100000 in
theorem lifted(os:Os)(started:os.Started)(H:Type)(enc:TypeId×Value→H) :
  ReturnsInHanded {} Tryz.checked os 3 .any (fun w args=>(Rows.printAsksSpec.pre enc Tryz.prog Tryz.f3 [] false w args∧laidMetH Tryz.prog Rows.printAsksRow.laid w)∧sizedMet enc Tryz.prog Tryz.f3 (OpenSpec.ofChange Rows.printAsksSpec) false w args) (Rows.printAsksSpec.post enc Tryz.prog Tryz.f3 false true false false):=by
 refine returnsInHanded_of_change_and (C:=Tryz.checked) (X:=fun w _=>laidMetH Tryz.prog Rows.printAsksRow.laid w) (fun _ _ _ hh h=>h.of_heap hh) own started (by kernel_rfl) Tryz.func3
  (ChangeSpec.witness_shaped (enc:=enc) (C:=Tryz.checked) (os:=os) (X:=fun w _=>laidMetH Tryz.prog Rows.printAsksRow.laid w) false (World.laidAll Tryz.prog os Rows.printAsksRow.laid) #[.agg #[.int .i64 0,.string ⟨#[]⟩,.slice none 0 0],.agg #[.int .i64 0,.int .i64 0,.int .i64 0,.int .i64 0,.string ⟨#[]⟩,.string ⟨#[]⟩,.string ⟨#[]⟩,.string ⟨#[]⟩,.slice none 0 0,.slice none 0 0]] 8 rfl (World.shaped_of_ZipB (by kernel_rfl) (by kernel_rfl)) (by kernel_rfl) (by kernel_rfl) (by kernel_rfl) (bKP os _)) ?_
 intro W base args ds gs before z Z _ _ hL _;have f:∀(j:Nat) t v,Tryz.f3.params[j]? = some t→args[j]? = some v→Value.okWide Tryz.prog W .any base t v:=z;have O:=Z;obtain⟨p,q,Y,hV,rfl,hfz,hnd⟩:=Z;have N:DataW.TrodAll enc Tryz.prog W 0 (fun _=>true) true Tryz.f3.params.toList args.toList ds p:=Y;rw[Tryz.params3] at N f;obtain⟨x,hx⟩:=Go.Vc.bFW (T:=Nu.TM) Nu.bCf Nu.xO [24,28] args.toList ds p (by decide) N (fun j t v I h2=>f j t v (by simpa using I) (by simpa using h2));obtain⟨v0,vs0,d0,ds0,p0,q0,hargs,rfl,rfl,h0,r0⟩:=trodAll_cons N;obtain⟨v1,vs1,d1,ds1,p1,q1,rfl,rfl,rfl,I,r1⟩:=trodAll_cons r0;obtain⟨rfl,rfl,rfl⟩:=trodAll_nil r1;obtain rfl:args= #[v0,v1]:=by cases args; simp_all
 obtain⟨rfl,rfl⟩:=trodVars_none hV;have U:∀x∈p0,x.block<W.heap.size:=by obtain⟨m,hm⟩:=h0; exact DataW.trod_lt m _ _ _ hm
 have L:∀x∈p1,x.block<W.heap.size:=by obtain⟨m,hm⟩:=I; exact DataW.trod_lt m _ _ _ hm
 refine(told W (Go.Vc.aCF W) _ x (fun b hb=>hb) (bOS hL) hx trivial).mono fun e W' ⟨v,he,hk,J⟩=>?_;have g:=hk.below;have hv:v= .bool true:=by
  have J:Go.Vc.cZ W' _ .bool true v:=J;simp only[Go.Vc.cZ,Go.Vc.Ty.isAgg,Go.Vc.bC,Bool.false_eq_true,if_false,List.cons.injEq,and_true] at J;exact J
 subst hv;subst he;exact⟨_,rfl,_,_,_,[],_,[],O,trodAll_mk1 (shut_bool Tryz.underlying4 _),(trodAll_cons_mk (Below.trod laidOut (by kernel_rfl) (of_decide_eq_true (by kernel_rfl)) h0 g U) (trodAll_cons_mk (Below.trod laidOut (by kernel_rfl) (of_decide_eq_true (by kernel_rfl)) I g L) trodAll_mk0)),rfl,g.frame _,fun h=>by cases h⟩
theorem bOT:(Rows.printAsksRow.inPlace == Tryz.pinned.checked.prog.inPlace 3)=true:=by kernel_rfl
theorem bOU:(Rows.printAsksRow.unfollowed == Tryz.pinned.checked.prog.unfollowed 3)=true:=by kernel_rfl
theorem bOV:(Rows.printAsksRow.recurses == Tryz.pinned.checked.prog.recurses 3)=true:=by kernel_rfl
theorem bOW:(Rows.printAsksRow.named == Tryz.pinned.checked.prog.varsNamed 3)=true:=by kernel_rfl
theorem closed:joinedFacts Tryz.pinned.checked.prog 3 Tryz.f3 Rows.printAsksSpec Rows.printAsksRow=true:=by
 unfold joinedFacts;rw[bOT,bOU,bOV,bOW]
 kernel_rfl
theorem over:Rows.PrintAsksSaid :=
 OpenClaim.holds_of_wide 3 Tryz.f3 rfl rfl rfl rfl rfl rfl rfl ⟨rfl,rfl,rfl,rfl,rfl⟩ rfl rfl rfl rfl rfl (by kernel_rfl) Tryz.func3 closed
  (of_decide_eq_true (by kernel_rfl)) (by unfold Func.isWrapper; first|(rw[if_pos (by decide +kernel)]; kernel_rfl)|(rw[if_neg (by decide +kernel)]; exact⟨rfl,rfl⟩))
  (fun os started H enc _=>lifted os started H enc)
end PrintAsks
theorem printAsks_card:Rows.PrintAsksCardSaid :=
 Claim7.holds_tied_plain_at .later [] [.data,.data,.data,.data,.sentinel,.sentinel,.pinned] true (true, "6143ffb279d105101a391e5d96bd92d0da2724ac58b3357925477367a1777aff") true
  PrintAsks.over (fun _ h=>by cases h) (by kernel_rfl) (fun _ h=>by cases h) printAsks_row_tie rfl ⟨rfl,rfl⟩ (by kernel_rfl) rfl
  (fun f fn z q=>by
   obtain rfl:f=3:=Option.some.inj ((show Tryz.prog.funcNamed Rows.printAsksRow.func=some 3 by kernel_rfl).symm.trans z) |>.symm;obtain rfl:fn=Tryz.f3:=(Option.some.inj (Tryz.func3.symm.trans q)).symm;exact⟨by kernel_rfl,fun j t ht=>by
    rw[Tryz.params3] at ht;have hm:t∈ [24,28]:=(by simpa using Array.mem_of_getElem? ht);have g:([24,28].all fun u=> !Tryz.prog.wantsStandIn u)=true:=(by kernel_rfl);exact(show Tryz.prog.wantsStandIn t=false by simpa using List.all_eq_true.1 g t hm)⟩)
  (by kernel_rfl)
end Go.Proofs.YtmhjkbdicaelbaaGreatDoor

