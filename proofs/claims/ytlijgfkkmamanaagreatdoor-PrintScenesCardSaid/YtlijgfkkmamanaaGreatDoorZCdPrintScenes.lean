/-
  The statement PrintScenesCardSaid is proved, for every input, with no condition.
-/
import Derived.Test.YtlijgfkkmamanaaGreatDoorZS7
import Derived.Test.YtlijgfkkmamanaaGreatDoorZL6
import Derived.Test.YtlijgfkkmamanaaGreatDoorRows
import Derived.Lay
import Derived.Test.YtlijgfkkmamanaaGreatDoorCards
import Derived.Test.YtlijgfkkmamanaaGreatDoorTie
import Derived.SevenTiedAt
import Derived.ProofKit
import Derived.OpenShut
import Derived.Below
import Derived.Stop.Joined
set_option linter.unusedVariables false
set_option linter.unusedSimpArgs false
namespace Go.Proofs.YtlijgfkkmamanaaGreatDoor
open Go Go.ChangeShapes Go.WideShapes Go.ChangeAt Go.RowKit
namespace PrintScenes
theorem own:ownKnob Tryz.prog.godebug=none:=by kernel_rfl
theorem laidOut:laidOutB Tryz.prog=true:=by kernel_rfl
theorem told[Nu.Mx]:Go.Vc.FOK Tryz.prog Nu.GL 4 ⟨Nu.vV,.one .bool,fun _=>True,fun _=>true⟩:=Nu.bKT (Nu.aMd none) (fun x f hb=>Nu.aR8 x.1 (Nu.ScD.of (s:=x.1) f hb))
theorem bIW(os:Os)(args:Array Value):laidMetH Tryz.prog Rows.printScenesRow.laid ((World.laidAll Tryz.prog os Rows.printScenesRow.laid).forCall (fun _ _=>0) ⟨#[],args,[]⟩).memory:=by
 rw[MakeChecks.laidMetH_plain _ _ _ (by kernel_rfl)];exact laidMet_laidAll _ (by kernel_rfl) (by kernel_rfl)
def nm1:String:=(Rows.printScenesRow.laid.map (fun x=>x.1)).getD 2 ""
theorem bNL:(nm1,Go.Vc.bHp .u64 [1,10,100,1000,10000,100000,1000000,10000000,100000000,1000000000,10000000000,100000000000,1000000000000,10000000000000,100000000000000,1000000000000000,10000000000000000,100000000000000000,1000000000000000000,10000000000000000000])∈Rows.printScenesRow.laid:=List.mem_of_getElem? (i:=2) (by kernel_rfl)
theorem gn1:Tryz.prog.globalNamed nm1=some 1:=by kernel_rfl
def nm8:String:=(Rows.printScenesRow.laid.map (fun x=>x.1)).getD 1 ""
theorem bNM:(nm8,Go.Vc.bHp .u8 [0,1,56,2,57,49,28,3,61,58,42,50,38,29,17,4,62,47,59,36,45,43,51,22,53,39,33,30,24,18,12,5,63,55,48,27,60,41,37,16,46,35,44,21,52,32,23,11,54,26,40,15,34,20,31,10,25,14,19,9,13,8,7,6])∈Rows.printScenesRow.laid:=List.mem_of_getElem? (i:=1) (by kernel_rfl)
theorem gn8:Tryz.prog.globalNamed nm8=some 8:=by kernel_rfl
theorem bM2{W:World}(m:Int)(hm:Go.Vc.aX ⟨Go.Vc.aBK W,fun _=>Go.undef,0,fun _ _=>False⟩ W (.roa (.i .i64) m) (.pointer (some ⟨0,0,none⟩)))(h:laidMetH Tryz.prog Rows.printScenesRow.laid W):letI:Nu.Mx:=⟨m⟩; Go.Vc.uD Nu.GL (Go.Vc.aBK W) W:=by
 rw[MakeChecks.laidMetH_plain _ _ _ (by kernel_rfl)] at h;intro g
 match g with
 | 0=>exact hm
 | 1 =>
  show Go.Vc.aX _ _ (.roa (.arr 20 (.u .u64)) Nu.p10) _;rw[Nu.bHr];obtain⟨t,ht,f⟩:∃t,(Tryz.prog.globals[1]?).map (·.type)=some t∧Nu.TM t=some (.arr 20 (.u .u64)):=⟨_,rfl,rfl⟩;exact Go.Vc.bA7 Nu.aX6 h nm1 1 t 20 .u64 [1,10,100,1000,10000,100000,1000000,10000000,100000000,1000000000,10000000000,100000000000,1000000000000,10000000000000,100000000000000,1000000000000000,10000000000000000,100000000000000000,1000000000000000000,10000000000000000000] bNL gn1 ht f (by decide)
 | 2=>trivial
 | 3=>trivial
 | 4=>trivial
 | 5=>trivial
 | 6=>trivial
 | 7=>trivial
 | 8 =>
  show Go.Vc.aX _ _ (.roa (.arr 64 (.u .u8)) Nu.bCO) _;rw[Nu.bJX];obtain⟨t,ht,f⟩:∃t,(Tryz.prog.globals[8]?).map (·.type)=some t∧Nu.TM t=some (.arr 64 (.u .u8)):=⟨_,rfl,rfl⟩;exact Go.Vc.bA7 Nu.aX6 h nm8 8 t 64 .u8 [0,1,56,2,57,49,28,3,61,58,42,50,38,29,17,4,62,47,59,36,45,43,51,22,53,39,33,30,24,18,12,5,63,55,48,27,60,41,37,16,46,35,44,21,52,32,23,11,54,26,40,15,34,20,31,10,25,14,19,9,13,8,7,6] bNM gn8 ht f (by decide)
 | _+9=>trivial
set_option maxRecDepth 100000 in
theorem lifted(os:Os)(started:os.Started)(H:Type)(enc:TypeId×Value→H) :
  ReturnsInHanded {} Tryz.checked os 4 .any (fun w args=>(Rows.printScenesSpec.pre enc Tryz.prog Tryz.f4 [] false w args∧laidMetH Tryz.prog Rows.printScenesRow.laid w)∧sizedMet enc Tryz.prog Tryz.f4 (OpenSpec.ofChange Rows.printScenesSpec) false w args) (Rows.printScenesSpec.post enc Tryz.prog Tryz.f4 false true false false):=by
 refine Go.Vc.aWN (C:=Tryz.checked) (X:=fun w _=>laidMetH Tryz.prog Rows.printScenesRow.laid w) (fun _ _ _ hh h=>h.of_heap hh) own started (by kernel_rfl) Tryz.func4
  (ChangeSpec.witness_shaped (enc:=enc) (C:=Tryz.checked) (os:=os) (X:=fun w _=>laidMetH Tryz.prog Rows.printScenesRow.laid w) false (World.laidAll Tryz.prog os Rows.printScenesRow.laid) #[.agg #[.int .i64 0,.int .i64 0,.int .i64 0,.int .i64 0,.string ⟨#[]⟩,.string ⟨#[]⟩,.string ⟨#[]⟩,.string ⟨#[]⟩,.slice none 0 0,.slice none 0 0]] 8 rfl (World.shaped_of_ZipB (by kernel_rfl) (by kernel_rfl)) (by kernel_rfl) (by kernel_rfl) (by kernel_rfl) (bIW os _)) ?_
 intro W base args ds gs before z hW hL L;obtain⟨mv,O⟩:=Go.Vc.bCN (t:=3) (zero:= #[.int .i64 0]) (k:=.i64) (g:=0) L (of_decide_eq_true (by kernel_rfl)) (by kernel_rfl) rfl (by kernel_rfl) (by kernel_rfl) rfl rfl
 letI:Nu.Mx:=⟨mv⟩
 have f:∀(j:Nat) t v,Tryz.f4.params[j]? = some t→args[j]? = some v→Value.okWide Tryz.prog W .any base t v:=z;have N:=hW;obtain⟨p,q,Y,hV,rfl,hfz,hnd⟩:=hW;have Z:DataW.TrodAll enc Tryz.prog W 0 (fun _=>true) true Tryz.f4.params.toList args.toList ds p:=Y;rw[Tryz.params4] at Z f;obtain⟨x,hx⟩:=Go.Vc.bEc (T:=Nu.TM) Nu.aX6 Nu.vV [27] args.toList ds p (by decide) Z (fun j t v h1 h2=>f j t v (by simpa using h1) (by simpa using h2));obtain⟨v0,vs0,d0,ds0,p0,q0,hargs,rfl,rfl,h0,r0⟩:=trodAll_cons Z;obtain⟨rfl,rfl,rfl⟩:=trodAll_nil r0;obtain rfl:args= #[v0]:=by cases args; simp_all
 obtain⟨rfl,rfl⟩:=trodVars_none hV;have U:∀x∈p0,x.block<W.heap.size:=by obtain⟨m,hm⟩:=h0; exact DataW.trod_lt m _ _ _ hm
 refine(told W (Go.Vc.aBK W) _ x (fun b hb=>hb) (bM2 mv O hL) hx trivial).mono fun e W' ⟨v,he,hk,J⟩=>?_;have I:=hk.below;have hv:v= .bool true:=by
  have J:Go.Vc.dU W' _ .bool true v:=J;simp only[Go.Vc.dU,Go.Vc.Ty.isAgg,Go.Vc.bB,Bool.false_eq_true,if_false,List.cons.injEq,and_true] at J;exact J
 subst hv;subst he;exact⟨_,rfl,_,_,_,[],_,[],N,trodAll_mk1 (shut_bool Tryz.underlying4 _),(trodAll_cons_mk (Below.trod laidOut (by kernel_rfl) (of_decide_eq_true (by kernel_rfl)) h0 I U) trodAll_mk0),rfl,I.frame _,fun h=>by cases h⟩
theorem bM3:(Rows.printScenesRow.inPlace == Tryz.pinned.checked.prog.inPlace 4)=true:=by kernel_rfl
theorem bM4:(Rows.printScenesRow.unfollowed == Tryz.pinned.checked.prog.unfollowed 4)=true:=by kernel_rfl
theorem bM5:(Rows.printScenesRow.recurses == Tryz.pinned.checked.prog.recurses 4)=true:=by kernel_rfl
theorem bM6:(Rows.printScenesRow.named == Tryz.pinned.checked.prog.varsNamed 4)=true:=by kernel_rfl
theorem closed:joinedFacts Tryz.pinned.checked.prog 4 Tryz.f4 Rows.printScenesSpec Rows.printScenesRow=true:=by
 unfold joinedFacts;rw[bM3,bM4,bM5,bM6]
 kernel_rfl
theorem over:Rows.PrintScenesSaid :=
 OpenClaim.holds_of_wide 4 Tryz.f4 rfl rfl rfl rfl rfl rfl rfl ⟨rfl,rfl,rfl,rfl,rfl⟩ rfl rfl rfl rfl rfl (by kernel_rfl) Tryz.func4 closed
  (of_decide_eq_true (by kernel_rfl)) (by unfold Func.isWrapper; first|(rw[if_pos (by decide +kernel)]; kernel_rfl)|(rw[if_neg (by decide +kernel)]; exact⟨rfl,rfl⟩))
  (fun os started H enc _=>lifted os started H enc)
end PrintScenes
theorem printScenes_card:Rows.PrintScenesCardSaid :=
 Claim7.holds_tied_plain_at .later [] [.data,.data,.data,.data,.sentinel,.sentinel,.pinned] true (true, "7a534282096b7c1443d67a0eed97056f1744e764cbe747039aa6672f69ac6970") true
  PrintScenes.over (fun _ h=>by cases h) (by kernel_rfl) (fun _ h=>by cases h) printScenes_row_tie rfl ⟨rfl,rfl⟩ (by kernel_rfl) rfl
  (fun f fn z q=>by
   obtain rfl:f=4:=Option.some.inj ((show Tryz.prog.funcNamed Rows.printScenesRow.func=some 4 by kernel_rfl).symm.trans z) |>.symm;obtain rfl:fn=Tryz.f4:=(Option.some.inj (Tryz.func4.symm.trans q)).symm;exact⟨by kernel_rfl,fun j t ht=>by
    rw[Tryz.params4] at ht;have hm:t∈ [27]:=(by simpa using Array.mem_of_getElem? ht);have g:([27].all fun u=> !Tryz.prog.wantsStandIn u)=true:=(by kernel_rfl);exact(show Tryz.prog.wantsStandIn t=false by simpa using List.all_eq_true.1 g t hm)⟩)
  (by kernel_rfl)
end Go.Proofs.YtlijgfkkmamanaaGreatDoor

