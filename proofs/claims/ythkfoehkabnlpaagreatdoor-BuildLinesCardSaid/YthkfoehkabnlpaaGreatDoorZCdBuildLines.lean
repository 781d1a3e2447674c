/-
  The statement BuildLinesCardSaid is proved, for every input, with no condition.
-/
import Derived.Test.YthkfoehkabnlpaaGreatDoorZS3
import Derived.Test.YthkfoehkabnlpaaGreatDoorZL9
import Derived.Test.YthkfoehkabnlpaaGreatDoorRows
import Derived.Lay
import Derived.Test.YthkfoehkabnlpaaGreatDoorCards
import Derived.Test.YthkfoehkabnlpaaGreatDoorTie
import Derived.SevenTiedAt
import Derived.ProofKit
import Derived.OpenShut
import Derived.Below
import Derived.Stop.Joined
set_option linter.unusedVariables false
set_option linter.unusedSimpArgs false
namespace Go.Proofs.YthkfoehkabnlpaaGreatDoor
open Go Go.ChangeShapes Go.WideShapes Go.ChangeAt Go.RowKit
namespace BuildLines
theorem own:ownKnob Tryz.prog.godebug=none:=by kernel_rfl
theorem laidOut:laidOutB Tryz.prog=true:=by kernel_rfl
theorem told:Go.Vc.FOK Tryz.prog Nu.GL 4 ⟨Nu.lJ,.one .bool,fun _=>True,fun _=>true⟩:=Go.Vc.dN (Nu.aCz none) (fun x I _=>Nu.aHB x.1 x.2.1 x.2.2.1)
theorem aW7(os:Os)(args:Array Value):laidMetH Tryz.prog Rows.buildLinesRow.laid ((World.laidAll Tryz.prog os Rows.buildLinesRow.laid).forCall (fun _ _=>0) ⟨#[],args,[]⟩).memory:=by
 rw[MakeChecks.laidMetH_plain _ _ _ (by kernel_rfl)];exact laidMet_laidAll _ (by kernel_rfl) (by kernel_rfl)
def nm2:String:=(Rows.buildLinesRow.laid.map (fun x=>x.1)).getD 1 ""
theorem bCK:(nm2,Go.Vc.aTI .u8 [0,1,56,2,57,49,28,3,61,58,42,50,38,29,17,4,62,47,59,36,45,43,51,22,53,39,33,30,24,18,12,5,63,55,48,27,60,41,37,16,46,35,44,21,52,32,23,11,54,26,40,15,34,20,31,10,25,14,19,9,13,8,7,6])∈Rows.buildLinesRow.laid:=List.mem_of_getElem? (i:=1) (by kernel_rfl)
theorem gn2:Tryz.prog.globalNamed nm2=some 2:=by kernel_rfl
def nm8:String:=(Rows.buildLinesRow.laid.map (fun x=>x.1)).getD 2 ""
theorem bCL:(nm8,Go.Vc.aTI .u64 [1,10,100,1000,10000,100000,1000000,10000000,100000000,1000000000,10000000000,100000000000,1000000000000,10000000000000,100000000000000,1000000000000000,10000000000000000,100000000000000000,1000000000000000000,10000000000000000000])∈Rows.buildLinesRow.laid:=List.mem_of_getElem? (i:=2) (by kernel_rfl)
theorem gn8:Tryz.prog.globalNamed nm8=some 8:=by kernel_rfl
theorem bBR{W:World}(h:laidMetH Tryz.prog Rows.buildLinesRow.laid W):Go.Vc.jM Nu.GL (Go.Vc.sF W) W:=by
 rw[MakeChecks.laidMetH_plain _ _ _ (by kernel_rfl)] at h;intro g
 match g with
 | 0=>trivial
 | 1=>trivial
 | 2 =>
  show Go.Vc.aG _ _ (.roa (.arr 64 (.u .u8)) Nu.aQC) _;rw[Nu.aSt];obtain⟨t,ht,I⟩:∃t,(Tryz.prog.globals[2]?).map (·.type)=some t∧Nu.TM t=some (.arr 64 (.u .u8)):=⟨_,rfl,rfl⟩;exact Go.Vc.aOV Nu.aOW h nm2 2 t 64 .u8 [0,1,56,2,57,49,28,3,61,58,42,50,38,29,17,4,62,47,59,36,45,43,51,22,53,39,33,30,24,18,12,5,63,55,48,27,60,41,37,16,46,35,44,21,52,32,23,11,54,26,40,15,34,20,31,10,25,14,19,9,13,8,7,6] bCK gn2 ht I (by decide)
 | 3=>trivial
 | 4=>trivial
 | 5=>trivial
 | 6=>trivial
 | 7=>trivial
 | 8 =>
  show Go.Vc.aG _ _ (.roa (.arr 20 (.u .u64)) Nu.p10) _;rw[Nu.aWi];obtain⟨t,ht,I⟩:∃t,(Tryz.prog.globals[8]?).map (·.type)=some t∧Nu.TM t=some (.arr 20 (.u .u64)):=⟨_,rfl,rfl⟩;exact Go.Vc.aOV Nu.aOW h nm8 8 t 20 .u64 [1,10,100,1000,10000,100000,1000000,10000000,100000000,1000000000,10000000000,100000000000,1000000000000,10000000000000,100000000000000,1000000000000000,10000000000000000,100000000000000000,1000000000000000000,10000000000000000000] bCL gn8 ht I (by decide)
 | _+9=>trivial
set_option maxRecDepth 100000 in
theorem lifted(os:Os)(started:os.Started)(H:Type)(enc:TypeId×Value→H) :
  ReturnsInHanded {} Tryz.checked os 4 .any (fun w args=>(Rows.buildLinesSpec.pre enc Tryz.prog Tryz.f4 [] false w args∧laidMetH Tryz.prog Rows.buildLinesRow.laid w)∧sizedMet enc Tryz.prog Tryz.f4 (OpenSpec.ofChange Rows.buildLinesSpec) false w args) (Rows.buildLinesSpec.post enc Tryz.prog Tryz.f4 false true false false):=by
 refine returnsInHanded_of_change_and (C:=Tryz.checked) (X:=fun w _=>laidMetH Tryz.prog Rows.buildLinesRow.laid w) (fun _ _ _ hh h=>h.of_heap hh) own started (by kernel_rfl) Tryz.func4
  (ChangeSpec.witness_shaped (enc:=enc) (C:=Tryz.checked) (os:=os) (X:=fun w _=>laidMetH Tryz.prog Rows.buildLinesRow.laid w) false (World.laidAll Tryz.prog os Rows.buildLinesRow.laid) #[.agg #[.int .i64 0,.string ⟨#[]⟩,.slice none 0 0],.slice none 0 0,.int .i64 0] 8 rfl (World.shaped_of_ZipB (by kernel_rfl) (by kernel_rfl)) (by kernel_rfl) (by kernel_rfl) (by kernel_rfl) (aW7 os _)) ?_
 intro W base args ds gs before N hW _ _ hL _;have J:∀(j:Nat) t v,Tryz.f4.params[j]? = some t→args[j]? = some v→Value.okWide Tryz.prog W .any base t v:=N;have hW':=hW;obtain⟨p,q,hA0,hV,rfl,hfz,hnd⟩:=hW;have hA:DataW.TrodAll enc Tryz.prog W 0 (fun _=>true) true Tryz.f4.params.toList args.toList ds p:=hA0;rw[Tryz.params4] at hA J;obtain⟨x,hx⟩:=Go.Vc.aRJ (T:=Nu.TM) Nu.aOW Nu.lJ [24,25,3] args.toList ds p (by decide) hA (fun j t v h1 Y=>J j t v (by simpa using h1) (by simpa using Y));obtain⟨v0,vs0,d0,ds0,p0,q0,hargs,rfl,rfl,h0,r0⟩:=trodAll_cons hA;obtain⟨v1,vs1,d1,ds1,p1,q1,rfl,rfl,rfl,h1,r1⟩:=trodAll_cons r0;obtain⟨v2,vs2,d2,ds2,p2,q2,rfl,rfl,rfl,Y,r2⟩:=trodAll_cons r1;obtain⟨rfl,rfl,rfl⟩:=trodAll_nil r2;obtain rfl:args= #[v0,v1,v2]:=by cases args; simp_all
 obtain⟨rfl,rfl⟩:=trodVars_none hV;have lt0:∀x∈p0,x.block<W.heap.size:=by obtain⟨m,U⟩:=h0; exact DataW.trod_lt m _ _ _ U
 have lt1:∀x∈p1,x.block<W.heap.size:=by obtain⟨m,U⟩:=h1; exact DataW.trod_lt m _ _ _ U
 have lt2:∀x∈p2,x.block<W.heap.size:=by obtain⟨m,U⟩:=Y; exact DataW.trod_lt m _ _ _ U
 refine(told W (Go.Vc.sF W) _ x (fun b hb=>hb) (bBR hL) hx trivial).mono fun e W' ⟨v,he,hk,hr⟩=>?_;have I:=hk.below;have hv:v= .bool true:=by
  have hr:Go.Vc.bR W' _ .bool true v:=hr;simp only[Go.Vc.bR,Go.Vc.Ty.isAgg,Go.Vc.aJ,Bool.false_eq_true,if_false,List.cons.injEq,and_true] at hr;exact hr
 subst hv;subst he;exact⟨_,rfl,_,_,_,[],_,[],hW',trodAll_mk1 (shut_bool Tryz.underlying4 _),(trodAll_cons_mk (Below.trod laidOut (by kernel_rfl) (of_decide_eq_true (by kernel_rfl)) h0 I lt0) (trodAll_cons_mk (Below.trod laidOut (by kernel_rfl) (of_decide_eq_true (by kernel_rfl)) h1 I lt1) (trodAll_cons_mk (Below.trod laidOut (by kernel_rfl) (of_decide_eq_true (by kernel_rfl)) Y I lt2) trodAll_mk0))),rfl,I.frame _,fun h=>by cases h⟩
theorem bBS:(Rows.buildLinesRow.inPlace == Tryz.pinned.checked.prog.inPlace 4)=true:=by kernel_rfl
theorem bBT:(Rows.buildLinesRow.unfollowed == Tryz.pinned.checked.prog.unfollowed 4)=true:=by kernel_rfl
theorem bBU:(Rows.buildLinesRow.recurses == Tryz.pinned.checked.prog.recurses 4)=true:=by kernel_rfl
theorem bBV:(Rows.buildLinesRow.named == Tryz.pinned.checked.prog.varsNamed 4)=true:=by kernel_rfl
theorem closed:joinedFacts Tryz.pinned.checked.prog 4 Tryz.f4 Rows.buildLinesSpec Rows.buildLinesRow=true:=by
 unfold joinedFacts;rw[bBS,bBT,bBU,bBV]
 kernel_rfl
theorem over:Rows.BuildLinesSaid :=
 OpenClaim.holds_of_wide 4 Tryz.f4 rfl rfl rfl rfl rfl rfl rfl ⟨rfl,rfl,rfl,rfl,rfl⟩ rfl rfl rfl rfl rfl (by kernel_rfl) Tryz.func4 closed
  (of_decide_eq_true (by kernel_rfl)) (by unfold Func.isWrapper; first|(rw[if_pos (by decide +kernel)]; kernel_rfl)|(rw[if_neg (by decide +kernel)]; exact⟨rfl,rfl⟩))
  (fun os started H enc _=>lifted os started H enc)
end BuildLines
theorem buildLines_card:Rows.BuildLinesCardSaid :=
 Claim7.holds_tied_plain_at .later [] [.data,.data,.data,.data,.sentinel,.sentinel,.pinned] true (true, "4d9c58da52630c6eb619ee051442524299de4a171884c8e9a1a3967ac2c8ba50") true
  BuildLines.over (fun _ h=>by cases h) (by kernel_rfl) (fun _ h=>by cases h) buildLines_row_tie rfl ⟨rfl,rfl⟩ (by kernel_rfl) rfl
  (fun f fn U J=>by
   obtain rfl:f=4:=Option.some.inj ((show Tryz.prog.funcNamed Rows.buildLinesRow.func=some 4 by kernel_rfl).symm.trans U) |>.symm;obtain rfl:fn=Tryz.f4:=(Option.some.inj (Tryz.func4.symm.trans J)).symm;exact⟨by kernel_rfl,fun j t ht=>by
    rw[Tryz.params4] at ht;have N:t∈ [24,25,3]:=(by simpa using Array.mem_of_getElem? ht);have I:([24,25,3].all fun u=> !Tryz.prog.wantsStandIn u)=true:=(by kernel_rfl);exact(show Tryz.prog.wantsStandIn t=false by simpa using List.all_eq_true.1 I t N)⟩)
  (by kernel_rfl)
end Go.Proofs.YthkfoehkabnlpaaGreatDoor

