import Derived.Test.YthkfoehkabnlpaaGreatDoorZL5
import Derived.Test.YthkfoehkabnlpaaGreatDoorZS1
import Derived.Lib.AppendZeros
import Derived.Lib.SliceRun
import Derived.WalkKit
import Derived.Lib.Walk
import Derived.Shelf.RegionOpenPlain
set_option linter.unusedVariables false
set_option linter.unusedSimpArgs false
namespace Go.Proofs
open Go.Vc
set_option maxRecDepth 20000
namespace Nu
noncomputable section
set_option maxHeartbeats 4000000
def aCP:PlR:=⟨[(0,.A [0,1]),(1,.B [4])],[],[]⟩
@[go_sem]def aAE:Ty:=.pair qr qn
@[go_sem]def sX:aF:=⟨aAE,.own 119 qh,fun x=>vD x.1 x.2.1,fun x=>cG x.1 x.2.1⟩
def aKu(F:Md):aF:=mSpec aAE (.own 119 qh) (fun x=>rC F x.1 x.2.1)
abbrev aEt(F:Md):List (FuncId×aF):=[(97,bL)]
theorem aM5(F:Md):bU Tryz.prog GL (aEt F):=.cons iE xC (.nil)
attribute [go_sem] aCP
theorem aKv(F:Md):FOK Tryz.prog GL 100 (aKu F):=by
 refine cF (bQ (aM5 F)) mix Tryz.func100 rfl xC xAa aCP (fun w0 S x Θ N h hV=>?_);obtain⟨(I:qd),(J:Int),u⟩:=x;simp only[cC,go_sem];replace h:sat (rC F I J) _:=h;unfold rC at h;refine aZ h fun g0 h=>?_;refine aZ h fun g0 h=>?_;refine aD h fun g0 h=>?_;refine aD h fun U h=>(yaB ?_);exact zaB
theorem aKw:FOK Tryz.prog GL 100 sX:=dN (aKv none) (fun⟨I,x1,u⟩ ⟨w0,w1,J⟩ hp=>aJi I w0 x1 w1 hp)
def aAF(F:Md):iJ where
 D:=Nat×Nat×qd×qd×wg
 av:=fun d=>[.sub 0 1 d.1 d.2.1,.val qr d.2.2.1]
 hp:=fun d=>[.row 119 qh d.2.2.2.1]
 m:=1
 pre:=fun d=>pO F d.1 d.2.1 d.2.2.1 d.2.2.2.1=some d.2.2.2.2
 out:=fun d=>(fun r:wg=>.ret (.val qh r.1) [.row 119 qh r.2]) d.2.2.2.2
def aEu:PlR:=⟨[(0,.A [0,1]),(1,.A [0,1,5]),(2,.A [0,1,5,6,8]),(3,.A [0,1,5,6,8,31]),(4,.A [0,1,5,6,7,8]),(5,.A [0,1,5,6,7,8]),(6,.A [0,1,5,6,7,65]),(7,.A [0,1,5,6,7,9,10]),(8,.A [0,1,5,6,7,92]),(9,.A [0,1,5,6,7]),(10,.A [0,1,5,6,7,8]),(11,.A [0,1,5,6,11,12]),(12,.A [0,1,5,6,11,12,105,106,107]),(13,.A [0,1,5,6,11,12,105,106,107,108]),(14,.A [0,1,5,6,11,12,13,14,105,106,107]),(15,.A [0,1,5,6,11,12,13,15,16,105,106,107]),(16,.A [0,1,5,6,11,12,13,15,16,105,106,107]),(17,.A [0,1,5,6,12,13,15,16,17,105,106,107]),(18,.A [0,1,5,6,11,12,13,16,105,106,107]),(19,.B [0,1,5,6,11,12,105,106,107]),(20,.A [0,1,5,6,11,12,105,106,107]),(21,.B [0,1,5,6,12]),(22,.A [0,1,5,6,155]),(23,.A [4]),(24,.A [0,1,5,6,11]),(25,.A [0,5,6,11,157,158,159]),(26,.A [0,5,6,11,157,158,159,160]),(27,.A [0,5,6,11,18,19,157,158,159]),(28,.B [0,5,6,11,157,158,159]),(29,.A [0,5,6,11,157,158,159]),(30,.B [6]),(31,.A [4])],[(6,9),(9,14),(15,24),(28,33)],[]⟩
abbrev tZ(F:Md):List (FuncId×aF):=[(104,lR),(105,iK),(142,lS),(144,sT)]
theorem aPu(F:Md):bU Tryz.prog GL (tZ F):=.cons aCM xC (.nat xY (.cons aCO xC (.nat aKc (.nil))))
attribute [go_sem] aEu aAF
theorem aM6(F:Md):GOK Tryz.prog GL 101 (aAF F):=by
 refine aAm (bQ (aPu F)) mix Tryz.func101 rfl xC (fun _=>Nat.le_of_ble_eq_true rfl) aEu (fun c0 w0 d hw hw2 h hV=>?_);obtain⟨(I:Nat),(J:Nat),(N:qd),(U:qd),r⟩:=d;have hF:=hV.fr;replace h:=aAn (show pO F I J N U=some r from h);simp only[aBx,List.map_cons,List.map_nil,go_sem];unfold pO at h;refine cD hV (D:=Nat×Nat×Nat) (fun d=>sat (iT F N J I U d.1 d.2.1 d.2.2) (fun z=>z=r)) [1,5] (fun d=>[(0,.sub 0 1 I J),(6,.val qh d.1),(7,.val qh d.2.1),(8,.val qh d.2.2)]) (fun d=>[.inr (.row 119 qh U)]) ?_ ?_
 ·simp only[go_sem,bA F,bB F,bC F];refine aD h fun g0 h=>?_;refine aD h fun g1 h=>?_;refine aD h fun g2 h=>?_;refine aD h fun g3 h=>(yaB ?_);refine cY h (fun hc h=>?_) fun hc h=>?_
  ·refine aD h fun g0 h=>?_;refine aD h fun g1 h=>?_;refine aD h fun g2 h=>?_;refine aD h fun g3 h=>?_;refine aD h fun g4 h=>?_;refine aD h fun g5 h=>?_;refine aD h fun g6 h=>?_;refine aD h fun g7 h=>(yaB ?_);exact aR ((iF (U.getD (I+(N.length)) (0:Nat)) (U.getD (I+((N.length:Int)-(1:Int)).toNat) (0:Nat)) (N.getD ((N.length:Int)-(1:Int)).toNat (0:Nat))).1,(iF (U.getD (I+(N.length)) (0:Nat)) (U.getD (I+((N.length:Int)-(1:Int)).toNat) (0:Nat)) (N.getD ((N.length:Int)-(1:Int)).toNat (0:Nat))).2.1,(0:Nat)) h rfl xAc
  ·refine aD h fun g0 h=>?_;refine aD h fun g1 h=>?_;refine aD h fun g2 h=>?_;refine aD h fun g3 h=>?_;refine aD h fun g4 h=>?_;refine aD h fun g5 h=>(yaB ?_);exact aR ((18446744073709551615:Nat),(jH (U.getD (I+((N.length:Int)-(1:Int)).toNat) (0:Nat)) (N.getD ((N.length:Int)-(1:Int)).toNat (0:Nat)) (0:Nat)).1,(jH (U.getD (I+((N.length:Int)-(1:Int)).toNat) (0:Nat)) (N.getD ((N.length:Int)-(1:Int)).toNat (0:Nat)) (0:Nat)).2.1) h rfl xAc
 ·rintro⟨x_4,rest_5,over_6⟩ h;simp only[go_sem,bA F,bB F,bC F];replace h:sat (iT F N J I U x_4 rest_5 over_6) _:=h;unfold iT at h;refine cD hV (D:=Nat) (fun d=>sat (kN F N J I U d) (fun z=>z=r)) [1,5] (fun d=>[(0,.sub 0 1 I J),(6,.val qh d)]) (fun d=>[.inr (.row 119 qh U)]) ?_ ?_
  ·simp only[go_sem,bA F,bB F,bC F];refine bZ hV (D:=Nat×Nat×Nat) [1,5] (fun d=>[(0,.sub 0 1 I J),(6,.val qh d.1),(7,.val qh d.2.1),(8,.val qh d.2.2)]) (fun d=>[.inr (.row 119 qh U)]) h rfl xAc ?_;rintro⟨x_52,rest_53,over_54⟩ A6 T6 hA6 hE6 h;simp only[go_sem,bA F,bB F,bC F];replace h:sat (gI F N J I U x_52 rest_53 over_54) _:=h;unfold gI at h;refine cY h (fun hc h=>?_) fun hc h=>?_
   ·refine aD h fun g0 h=>?_;refine aD h fun g1 h=>(yaB ?_);refine aD h fun g0 h=>?_;refine aD h fun g1 h=>(yaB ?_);refine⟨fun hc=>?_,fun hc=>?_⟩
    ·replace h:=kJ hc h;replace h:=yaF (hE6 _ (aC h));exact aR (x_52) h rfl xAc
    ·replace h:=kK hc h;refine aD h fun g0 h=>?_;refine aD h fun g1 h=>?_;refine aD h fun g2 h=>(yaB ?_);replace h:=hA6 _ (aC h);exact zaP
   ·replace h:=yaF (hE6 _ (aC h));exact aR (x_52) h rfl xAc
  ·rintro Y h;simp only[go_sem,bA F,bB F,bC F];replace h:sat (kN F N J I U Y) _:=h;unfold kN at h;refine cD hV (D:=Nat×Nat×qd) (fun d=>sat (mT F N J I Y d.1 d.2.1 d.2.2) (fun z=>z=r)) [1,5,6] (fun d=>[(0,.sub 0 1 I J),(11,.val qh d.1),(12,.val qh d.2.1)]) (fun d=>[.inr (.row 119 qh d.2.2)]) ?_ ?_
   ·simp only[go_sem,bA F,bB F,bC F];refine bZ hV (D:=Nat×Nat×Int×qd) [1,5,6,105,106] (fun d=>[(0,.sub 0 1 I J),(11,.val qh d.1),(12,.val qh d.2.1),(107,.val qf d.2.2.1)]) (fun d=>[.inr (.row 119 qh d.2.2.2)]) h rfl xAc ?_;rintro⟨carry_41,borrow_42,x107_43,u_44⟩ A13 T13 hA13 hE13 h;simp only[go_sem,bA F,bB F,bC F];replace h:sat (fO F N Y J I carry_41 borrow_42 x107_43 u_44) _:=h;unfold fO at h;refine gF h (fun hc h=>?_) fun hc h=>?_
    ·refine aD h fun g0 h=>(yaB ?_);refine aD h fun g0 h=>(yaB ?_);refine aD h fun g0 h=>?_;refine aD h fun g1 h=>(yaB ?_);refine aD h fun g0 h=>(yaB ?_);refine aD h fun g0 h=>?_;refine aD h fun g1 h=>(yaB ?_);refine aD h fun g0 h=>(yaB ?_);replace h:=hA13 _ (aC h);exact zaP
    ·replace h:=yaF (hE13 _ (aC h));exact aR (carry_41,borrow_42,u_44) h rfl xAc
   ·rintro⟨carry_22,borrow_23,u_24⟩ h;simp only[go_sem,bA F,bB F,bC F];replace h:sat (mT F N J I Y carry_22 borrow_23 u_24) _:=h;unfold mT at h;refine aD h fun g0 h=>?_;refine aD h fun g1 h=>(yaB ?_);refine aD h fun g0 h=>(yaB ?_);refine aD h fun g0 h=>?_;refine aD h fun g1 h=>(yaB ?_);refine cY h (fun hc h=>?_) fun hc h=>?_
    ·obtain rfl:=eG h;refine oM hF [.tmp 4] rfl rfl rfl rfl rfl rfl ?_
     (try simp only[bD,yO,xW,jD,lB,AV.isAgg,go_sem,bA F,bB F,bC F])<;>first|trivial|rfl|(simp; done)
    ·refine cD hV (D:=Nat×qd) (fun d=>sat (mS F N J I Y d.1 d.2) (fun z=>z=r)) [5,6] (fun d=>[(0,.sub 0 1 I J),(11,.val qh d.1)]) (fun d=>[.inr (.row 119 qh d.2)]) ?_ ?_
     ·simp only[go_sem,bA F,bB F,bC F];refine bZ hV (D:=Nat×Int×qd) [5,6,157,158] (fun d=>[(0,.sub 0 1 I J),(11,.val qh d.1),(159,.val qf d.2.1)]) (fun d=>[.inr (.row 119 qh d.2.2)]) h rfl xAc ?_;rintro⟨carry_33,x159_34,u_35⟩ A26 T26 hA26 hE26 h;simp only[go_sem,bA F,bB F,bC F];replace h:sat (fN F N J I carry_33 x159_34 u_35) _:=h;unfold fN at h;refine gF h (fun hc h=>?_) fun hc h=>?_
      ·refine aD h fun g0 h=>(yaB ?_);refine aD h fun g0 h=>?_;refine aD h fun g1 h=>(yaB ?_);refine aD h fun g0 h=>(yaB ?_);refine aD h fun g0 h=>?_;refine aD h fun g1 h=>(yaB ?_);refine aD h fun g0 h=>(yaB ?_);replace h:=hA26 _ (aC h);exact zaP
      ·replace h:=yaF (hE26 _ (aC h));exact aR (carry_33,u_35) h rfl xAc
     ·rintro⟨carry_31,u_32⟩ h;simp only[go_sem,bA F,bB F,bC F];replace h:sat (mS F N J I Y carry_31 u_32) _:=h;unfold mS at h;refine aD h fun g0 h=>?_;refine aD h fun g1 h=>(yaB ?_);refine aD h fun g0 h=>?_;refine aD h fun g1 h=>(yaB ?_);obtain rfl:=eG h;refine oM hF [.tmp 4] rfl rfl rfl rfl rfl rfl ?_
      (try simp only[bD,yO,xW,jD,lB,AV.isAgg,go_sem,bA F,bB F,bC F])<;>first|trivial|rfl|(simp; done)
@[go_sem]def rG:Ty:=.pair qr we
@[go_sem]def sY:aF:=⟨rG,.tup (.pair qr we),fun x=>aAs x.1 x.2.1,fun x=>fI x.1 x.2.1⟩
def aKx(F:Md):aF:=mSpec rG (.tup (.pair qr we)) (fun x=>rD F x.1 x.2.1)
abbrev gB(F:Md):List (FuncId×aF):=[(100,sX),(102,dE),(103,jQ),(75,pS),(96,vE),(97,bL),(98,vF),(99,cH)]
theorem aEv(F:Md):bU Tryz.prog GL (gB F):=.cons aKw xC (.cons mU xC (.cons aAC xC (.cons aGB xC (.cons aMU xC (.cons iE xC (.cons aM4 xC (.cons lE xC (.nil))))))))
theorem aKy(F:Md):FOK Tryz.prog GL 48 (aKx F):=by
 refine yP (bQ (aEv F)) Tryz.func48 rfl xC xAa fun w0 S x r hw h=>?_;have hF:oY (fr Tryz.prog (EM (gB F)) S w0 Tryz.f48.ntmps):=⟨bQ (aEv F),mix⟩;obtain⟨(a_0:qd),(J:qd),u⟩:=x;simp only[rG,Ty.wf,aDd] at hw;simp only[cC,rG];try dsimp only at h
 replace h:rD F a_0 J=some r:=h;unfold rD at h;refine aK (aP hF [0,1] (yaA ?_));refine aL (aK (aK (aP hF [0,1,15] (yaA ?_))));obtain⟨g0,h⟩:=bV h;repeat (refine⟨zAA,?_⟩)
 refine aL (cW rfl (fun hc=>?_) (fun hc=>?_))
 ·try simp only[go_sem] at hc
  have h:=pK zAC h;refine aK (bT hF [4,5] (yaA ?_));obtain⟨g0,h⟩:=bV h;repeat (refine⟨zAA,?_⟩)
  obtain rfl:=Option.some.inj h;refine aL (jO (kX (mE hF [.tmp 4,.tmp 5] rfl rfl rfl ?_)));exact zaI
 ·try simp only[go_sem] at hc
  have h:=pL zAC h;refine dZ (aL (aK (aK (aP hF [0,1,20] (yaA ?_)))));refine aL (cW rfl (fun hc=>?_) (fun hc=>?_))
  ·(try simp only[go_sem] at hc);have h:=pK zAC h;refine aK (aP hF [4,5] (yaA ?_));obtain⟨g0,h⟩:=bV h;obtain⟨g1,h⟩:=bV h;(repeat (refine⟨zAA,?_⟩));obtain rfl:=Option.some.inj h;refine aL (jO (kX (mE hF [.tmp 4,.tmp 5] rfl rfl rfl ?_)));exact zaI
  ·(try simp only[go_sem] at hc);have h:=pL zAC h;refine dZ (aL (aK (aP hF [0,1,6,7] (yaA ?_))));obtain⟨g0,h⟩:=bV h;obtain⟨g1,h⟩:=bV h;(try simp only[I64,I32] at g0);(repeat (refine⟨zAA,?_⟩));refine aL (aK (bT hF [0,6,7,8,9] (yaA ?_)));obtain⟨g0,h⟩:=bV h;(repeat (refine⟨zAA,?_⟩));obtain⟨g0,h⟩:=bV h;(repeat (refine⟨zAA,?_⟩));obtain⟨g0,h⟩:=bV h;(repeat (refine⟨zAA,?_⟩));obtain⟨g0,h⟩:=bV h;(try simp only[I64,I32] at g0);(repeat (refine⟨zAA,?_⟩));obtain⟨g0,h⟩:=bV h;(repeat (refine⟨zAA,?_⟩));refine aL (aK (bT hF [0,6,7,8,9,10] (yaA ?_)));obtain⟨g0,h⟩:=bV h;(try simp only[I64,I32] at g0);(repeat (refine⟨zAA,?_⟩));obtain⟨g0,h⟩:=bV h;(try simp only[I64,I32] at g0);(repeat (refine⟨zAA,?_⟩));obtain⟨g0,h⟩:=bV h;obtain⟨g1,h⟩:=bV h;(repeat (refine⟨zAA,?_⟩));refine aL (vW (D:=qd×qd) (fun d=>oO F J d.1 d.2=some r) [6,7] (fun d=>[(9,.own 0),(10,.own 1)]) (fun d=>[.inr (.row 119 qh d.1),.inr (.row 119 qh d.2)]) ?_ ?_)
   ·refine aK (aP hF [6,7,8,9,10,11] (yaA ?_));obtain⟨g0,h⟩:=bV h;(try simp only[I64,I32] at g0);(repeat (refine⟨zAA,?_⟩));refine aL (iM (aDi 0 (yaA ?_)));refine aHI [1,2] rfl rfl (yaC ?_);refine aFj (D:=Int×qd×qd) [6,7,8] (fun d=>[(9,.own 0),(10,.own 1),(11,.val qf d.1)]) (fun d=>[.inr (.row 119 qh d.2.1),.inr (.row 119 qh d.2.2)]) h ?_ ?_ ?_
    ·first|rfl|(simp only[go_sem]; done)
    ·exact zAE
    rintro⟨I,Y,q_16⟩ s9 h U;simp only[go_sem];(try dsimp only at h);unfold jI at h;refine aK (aK (aP hF [6,7,8,9,10,11,60] (yaA ?_)));refine aL (cW rfl (fun hc=>?_) (fun hc=>?_))
    ·(try simp only[go_sem] at hc);have h:=pK zAC h;obtain⟨g0,h⟩:=bV h;(try simp only[I64,I32] at g0);obtain⟨g1,h⟩:=bV h;(try simp only[I64,I32] at g1);obtain⟨g2,h⟩:=bV h;obtain⟨N,he1,h⟩:=bind_some h;(try dsimp only at h);obtain⟨g3,h⟩:=bV h;refine dZ (aL (aK (iM (mK hF (aAk (l:=[(101,⟨aAF F,[0],((I.toNat),(((I+(J.length:Int))+(1:Int))-I).toNat,(cG (dR J (aA (J.getD ((J.length:Int)-(1:Int)).toNat (0:Nat)))) (J.length:Int)),Y,N)⟩)]) (.cons (aM6 F) xC (.nil))) [6,7,8,9,10,11] [71] (yaD ?_)))));refine nY (aL (aP hF [6,7,8,9,10,11] (yaA ?_)));obtain⟨g0,h⟩:=bV h;(try simp only[I64,I32] at g0);(repeat (refine⟨zAA,?_⟩));obtain rfl:=Option.some.inj h;dsimp only[aD7] at U;refine bY (aR ((I-(1:Int)),N.2,(q_16.set (I.toNat) N.1)) U rfl ?_)
     ·exact zAE
    ·(try simp only[go_sem] at hc);have h:=pL zAC h;obtain rfl:=Option.some.inj h;dsimp only[aD7] at U;have h:=yaF (U);refine lM (bO (bO (dA (bY (aR (Y,q_16) h rfl ?_)))))
     ·exact zAE
   ·rintro⟨u_11,q_12⟩ h;(try dsimp only at h);simp only[go_sem];unfold oO at h;refine aK (aDi 1 (yaA ?_));refine aDi 0 (yaA ?_);refine aP hF [4,5] (yaA ?_);obtain⟨g0,h⟩:=bV h;obtain⟨g1,h⟩:=bV h;(repeat (refine⟨zAA,?_⟩));obtain rfl:=Option.some.inj h;refine aL (jO (mE hF [.tmp 4,.tmp 5] rfl rfl rfl ?_));exact zaI
theorem aKz:FOK Tryz.prog GL 48 sY:=dN (aKy none) (fun⟨I,x1,u⟩ ⟨w0,w1,J⟩ hp=>aJk I w0 x1 w1 hp)
theorem xR:bU Tryz.prog GL []:=.nil
def gJ(F:Md)(I:Bool)(J:Int):Option (Unit⊕qq) :=
 if ¬(I=true) then some (.inr (J,())) else some (.inl ())
def aAG(F:Md):iJ where
 D:=Bool×Int×(Unit⊕qq)
 av:=fun d=>[.val .bool d.1,.val qf d.2.1]
 hp:=fun d=>[]
 m:=0
 pre:=fun d=>gJ F d.1 d.2.1=some d.2.2
 out:=fun d=>match d.2.2 with| .inl r=>.ret (.tup []) []| .inr p=>.pan ⟨191,qn,p⟩ []
@[go_sem]def aEw(F:Md)(vs:List AV)(h:List Vc.Obj):Hit:=mkH (gJ F (kL h vs 0 .bool) (kL h vs 1 qf)) (.inr ((0:Int),())) fun r=>⟨(aAG F),[],((kL h vs 0 .bool),(kL h vs 1 qf),r)⟩
def aEx:PlR:=⟨[(0,.A [1,5]),(1,.P [] [])],[],[]⟩
abbrev aPv(F:Md):List (FuncId×aF):=[]
theorem aPw(F:Md):bU Tryz.prog GL (aPv F):=.nil
attribute [go_sem] aEx aAG
theorem aM7(F:Md):GOK Tryz.prog GL 119 (aAG F):=by
 refine aAm (bQ (aPw F)) mix Tryz.func119 rfl xC (fun _=>Nat.le_of_ble_eq_true rfl) aEx (fun Y w0 d U N h hV=>?_);obtain⟨(I:Bool),(J:Int),r⟩:=d;have hF:=hV.fr;replace h:=aAn (show gJ F I J=some r from h);simp only[aBx,List.map_cons,List.map_nil,go_sem];unfold gJ at h;exact zaS
def lT(F:Md)(J:Int)(I:qd)(N:Bool):Option (qi⊕qq) :=
 ck (I64 (J+(cQ I))) ((gJ F (decide ((J+(cQ I))≤(1048576:Int))) (3:Int)).bind (fun e=>match e with| .inl Y=>ck (I64 (J+(cQ I))) (some (.inl (N,(gH I (cQ I)),(J+(cQ I)),())))| .inr U=>some (.inr U)))
def pE(F:Md)(N:Bool)(I:qd)(J:Int):Option (qi⊕qq) :=
 if (I.length:Int)=(0:Int) then some (.inl (false,([]:List Nat),(0:Int),())) else ck (pSz I) (ck (aJg I (cQ I)) ((gJ F (decide ((((gH I (cQ I)).length:Nat):Int)≤(64:Int))) (2:Int)).bind (fun e=>match e with| .inl r_8=>if J≤(1048576:Int) then ck (I64 ((-1048576:Int)-(cQ I))) ((gJ F ((decide (J≤(1048576:Int)))&&(decide (((-1048576:Int)-(cQ I))≤J))) (3:Int)).bind (fun e=>match e with| .inl r_24=>lT F J I N| .inr U=>some (.inr U))) else (gJ F false (3:Int)).bind (fun e=>match e with| .inl r_26=>lT F J I N| .inr Y=>some (.inr Y))| .inr p_9=>some (.inr p_9))))
def aBQ(F:Md):iJ where
 D:=Bool×qd×Int×(qi⊕qq)
 av:=fun d=>[.val .bool d.1,.val qr d.2.1,.val qf d.2.2.1]
 hp:=fun d=>[]
 m:=0
 pre:=fun d=>pE F d.1 d.2.1 d.2.2.1=some d.2.2.2
 out:=fun d=>match d.2.2.2 with| .inl r=>.ret (.val qa r) []| .inr p=>.pan ⟨191,qn,p⟩ []
@[go_sem]def aGD(F:Md)(vs:List AV)(h:List Vc.Obj):Hit:=mkH (pE F (kL h vs 0 .bool) (kL h vs 1 qr) (kL h vs 2 qf)) (.inr ((0:Int),())) fun r=>⟨(aBQ F),[],((kL h vs 0 .bool),(kL h vs 1 qr),(kL h vs 2 qf),r)⟩
def aGE(F:Md):PlR:=⟨[(0,.B [0,1,2,6]),(1,.A [0,1,2,6,10]),(2,.B [6]),(3,.A [0,1,2,6,7]),(4,.A [0,1,2,6,7]),(5,.P [0,1,2,6,7] []),(6,.P [0,1,2,6,7] []),(7,.P [0,1,2,6,7] []),(8,.B [6])],[(9,10)],[(119,aEw F)]⟩
abbrev aDA(F:Md):List (FuncId×aF):=[(103,jQ),(118,nI)]
theorem aQT(F:Md):bU Tryz.prog GL (aDA F):=.cons aAC xC (.cons aEo xC (.nil))
attribute [go_sem] aGE aBQ
theorem aPx(F:Md):GOK Tryz.prog GL 69 (aBQ F):=by
 refine aAm (bQ (aQT F)) mix Tryz.func69 rfl xC (fun _=>Nat.le_of_ble_eq_true rfl) (aGE F) (fun c0 w0 d hw hw2 h hV=>?_) (.cons (fun _ _=>(aM7 F)) xC (.nil));obtain⟨(I:Bool),(J:qd),(N:Int),r⟩:=d;have hF:=hV.fr;replace h:=aAn (show pE F I J N=some r from h);simp only[aBx,List.map_cons,List.map_nil,go_sem];unfold pE at h;refine cY h (fun hc h=>?_) fun hc h=>?_
 ·obtain rfl:=eG h;refine aBz hF [.cell 6 40] [] rfl rfl rfl rfl rfl rfl rfl rfl rfl ?_;exact zaC
 ·refine aD h fun g0 h=>(yaB ?_);refine aD h fun g0 h=>(yaB ?_);refine aW h fun e hv h=>?_;rcases e with r_8|p_9
  ·(try dsimp only at h);simp only[hv,go_sem];refine cD hV (D:=Unit) (fun d=>sat (lT F N J I) (fun z=>z=r)) [0,1,2,7] (fun d=>[(6,.ptr 0 [])]) (fun d=>[.inr (.box 3 (.val qa (false,([]:List Nat),(0:Int),())))]) ?_ ?_
   ·simp only[go_sem];refine⟨fun hc=>?_,fun hc=>?_⟩
    ·replace h:=kJ zAC h;refine⟨fun _=>?_,fun U=>by first|(exfalso; omega)|(exfalso; simp_all; done)⟩;refine⟨fun _=>?_,fun U=>by first|(exfalso; omega)|(exfalso; simp_all; done)⟩;refine aD h fun g0 h=>(yaB ?_);refine⟨fun _=>?_,fun U=>by first|(exfalso; omega)|(exfalso; simp_all; done)⟩;refine aW h fun e hv h=>?_;rcases e with r_24|p_25
     ·(try dsimp only at h);simp only[hv,go_sem];exact aR () h rfl xAb
     ·(try dsimp only at h);exact zaT
    ·replace h:=kK zAC h;(first|(refine⟨fun U=>by first|(exfalso; omega)|(exfalso; simp_all; done),fun _=>?_⟩)|(with_reducible intro _)|skip);(first|(refine⟨fun U=>by first|(exfalso; omega)|(exfalso; simp_all; done),fun _=>?_⟩)|(with_reducible intro _)|skip);(first|(refine⟨fun U=>by first|(exfalso; omega)|(exfalso; simp_all; done),fun _=>?_⟩)|(with_reducible intro _)|skip);refine aW h fun e hv h=>?_;rcases e with r_26|p_27
     ·(try dsimp only at h);exact zaO
     ·(try dsimp only at h);simp only[hv,go_sem];(repeat (refine⟨zAB,?_⟩));exact zaF
   ·rintro u h;simp only[go_sem];replace h:sat (lT F N J I) _:=h;unfold lT at h;refine aD h fun g0 h=>(yaB ?_);refine aW h fun e hv h=>?_;rcases e with r_22|Y
    ·(try dsimp only at h);simp only[hv,go_sem];refine aD h fun g0 h=>(yaB ?_);obtain rfl:=eG h;refine aBz hF [.cell 6 40] [] rfl rfl rfl rfl rfl rfl rfl rfl rfl ?_;exact zaC
    ·(try dsimp only at h);exact zaT
  ·(try dsimp only at h);exact zaT
def nJ(F:Md)(N:Bool)(I:qd)(J:Int):Option (qi⊕qq) :=
 (pE F N I J).bind (fun e=>match e with| .inl Y=>some (.inl Y)| .inr U=>some (.inr U))
def sZ(F:Md):iJ where
 D:=Bool×qd×Int×(qi⊕qq)
 av:=fun d=>[.val (.rp .bool) d.1,.val (.rp qr) d.2.1,.val (.rp qf) d.2.2.1]
 hp:=fun d=>[]
 m:=0
 pre:=fun d=>nJ F d.1 d.2.1 d.2.2.1=some d.2.2.2
 out:=fun d=>match d.2.2.2 with| .inl r=>.ret (.val qa r) []| .inr p=>.pan ⟨191,qn,p⟩ []
def aCQ(F:Md):PlR:=⟨[(0,.B [0,1,2,3]),(1,.P [3] [])],[],[(69,aGD F)]⟩
abbrev aM8(F:Md):List (FuncId×aF):=[]
theorem aM9(F:Md):bU Tryz.prog GL (aM8 F):=.nil
attribute [go_sem] aCQ sZ
theorem aCR(F:Md):GOK Tryz.prog GL 68 (sZ F):=by
 refine aAm (bQ (aM9 F)) mix Tryz.func68 rfl xC (fun _=>Nat.le_of_ble_eq_true rfl) (aCQ F) (fun c0 w0 d hw hw2 h hV=>?_) (.cons (fun _ _=>(aPx F)) xC (.nil));obtain⟨(N:Bool),(I:qd),(J:Int),r⟩:=d;have hF:=hV.fr;replace h:=aAn (show nJ F N I J=some r from h);simp only[aBx,List.map_cons,List.map_nil,go_sem];unfold nJ at h;refine aW h fun e hv h=>?_;rcases e with Y|U
 ·try dsimp only at h
  simp only[hv,go_sem];obtain rfl:=eG h;refine aBz hF [.cell 3 40] [] rfl rfl rfl rfl rfl rfl rfl rfl rfl ?_;exact zaC
 ·try dsimp only at h
  exact zaT
def oD:iJ where
 D:=qi×Int
 av:=fun _=>[.ptr 0 [],.ptr 1 []]
 hp:=fun d=>[.box 3 (.val qa d.1),.box 1 (.val qf d.2)]
 m:=2
 pre:=fun _=>True
 out:=fun d=>.ret (.tup []) [.box 3 (.val qa d.1),.box 1 (.val qf d.2)]
def oE(x:qq):iJ where
 D:=qi×Int
 av:=fun _=>[.ptr 0 [],.ptr 1 []]
 hp:=fun d=>[.box 3 (.val qa d.1),.box 1 (.val qf d.2)]
 m:=2
 pre:=fun _=>True
 out:=fun d=>.ret (.tup []) [.box 3 (.val qa (false,([]:List Nat),(0:Int),())),.box 1 (.val qf x.1)]
theorem aJu:DOK Tryz.prog GL 117 none oD:=by
 refine aLY (bQ xR) Tryz.func117 rfl xC (fun _=>Nat.le_of_ble_eq_true rfl) rfl fun c w d J I hp N=>?_;have hF:oY ⟨Tryz.prog,EM [],GM oD c d,w,Tryz.f117.ntmps,[]⟩:=⟨bQ xR,mix⟩;exact zaL
theorem aJv(x:qq):DOK Tryz.prog GL 117 (some ⟨191,qn,x⟩) (oE x):=by
 refine aLY (bQ xR) Tryz.func117 rfl xC (fun _=>Nat.le_of_ble_eq_true rfl) rfl fun c w d I J hp N=>?_;have hF:oY ⟨Tryz.prog,EM [],GM (oE x) c d,w,Tryz.f117.ntmps,[]⟩:=⟨bQ xR,mix⟩;obtain⟨d,e⟩:=d;show mF _ _ _ [(5,.val (.ifc 191 qn) x),(0,.ptr 0 []),(1,.ptr 1 [])] [.box 3 (.val qa d),.box 1 (.val qf e)] _;exact zaK
def dO(F:Md)(I:Bool)(c1:qd)(c2:Int):Option (qi×Int×Unit) :=
 (nJ F I c1 c2).bind fun q=>some (match q with| .inl r=>(r,0,())| .inr p=>((false,([]:List Nat),(0:Int),()),p.1,()))
def pT:Ty:=.pair (.clo 68 (.pair (.rp .bool) (.pair (.rp qr) (.pair (.rp qf) .unit)))) .unit
def gC(F:Md):aF:=mSpec pT (.tup (.pair qa qn)) (fun x=>dO F x.1.1 x.1.2.1 x.1.2.2.1)
theorem yB(F:Md):FOK Tryz.prog GL 67 (gC F):=by
 refine aID (bQ xR) Tryz.func67 rfl xC xAa fun w0 S x r U h=>?_;have hF:oY (fr Tryz.prog (EM []) S w0 Tryz.f67.ntmps):=⟨bQ xR,mix⟩;obtain⟨⟨(J:Bool),(c1:qd),(c2:Int),N⟩,u⟩:=x;replace h:dO F J c1 c2=some r:=h;show Tri _ _ _ [(0,.val (.clo 68 (.pair (.rp .bool) (.pair (.rp qr) (.pair (.rp qf) .unit)))) (J,c1,c2,N))] [];unfold dO at h;obtain⟨q,hq,h⟩:=bind_some h;obtain rfl:=Option.some.inj h;refine aK (bT hF [0,2,3] (yaA ?_));refine aL (aCF 2 [0,1] rfl rfl (Nat.zero_le _) xAa fun roots hroots=>?_);have I:oY { fr Tryz.prog (EM []) S w0 Tryz.f67.ntmps with M:=⟨nothing,S,2,roots⟩,ds:=[⟨.fn (.func 117) ([0,1].map roots).toArray,#[]⟩] }:=⟨bQ xR,mix⟩;rcases q with q|q
 ·refine aK (mK I (aAk (l:=[(68,⟨sZ F,[],(J,c1,c2,.inl q)⟩)]) (.cons (aCR F) xC .nil)) [2,3] [] (yaA ?_));refine⟨hq,?_⟩;refine aL (jO ?_);refine aRL (fn:=Tryz.f67) (k:=2) (l2:=[0,1]) I rfl rfl xAa rfl (aCn xC) ⟨oD,[0,1],(q,0)⟩ aJu rfl [.cell 2 40,.cell 3 3] rfl ?_ ?_
  ·(simp only[oD,go_sem])<;>first|decide|trivial
  ·(simp only[oD,bD,mC,go_sem])<;>first|decide|trivial
 ·refine aK (mK I (aAk (l:=[(68,⟨sZ F,[],(J,c1,c2,.inr q)⟩)]) (.cons (aCR F) xC .nil)) [2,3] [] (yaA ?_));refine⟨hq,?_⟩;refine aOe ?_;refine aRM (fn:=Tryz.f67) (k:=2) (l2:=[0,1]) I rfl rfl xAa rfl (aCn xC) ⟨oE q,[0,1],((false,([]:List Nat),(0:Int),()),0)⟩ (aJv q) rfl [.cell 2 40,.cell 3 3] rfl ?_ ?_
  ·(simp only[oE,go_sem])<;>first|decide|trivial
  ·(simp only[oE,bD,mC,go_sem])<;>first|decide|trivial
attribute [go_sem] gC pT
def gY(F:Md)(I:Bool)(U:qd)(N:Int):Option (qi×qq) :=
 (dO F I U N).bind (fun J=>some (J.1,J.2.1,()))
def aGF:PlR:=⟨[(0,.B [3,4,5,6]),(1,.stop)],[],[]⟩
def aJw:Ty:=.pair .bool (.pair qr qn)
def pU(F:Md):aF:=mSpec aJw (.tup (.pair qa qn)) (fun x=>gY F x.1 x.2.1 x.2.2.1)
abbrev aJx(F:Md):List (FuncId×aF):=[(67,(gC F))]
theorem aQU(F:Md):bU Tryz.prog GL (aJx F):=.cons (yB F) xC (.nil)
attribute [go_sem] aJw aGF
theorem aGG(F:Md):FOK Tryz.prog GL 32 (pU F):=by
 refine cF (bQ (aQU F)) mix Tryz.func32 rfl xC xAa aGF (fun w0 S x Θ Y h hV=>?_);obtain⟨(I:Bool),(J:qd),(N:Int),u⟩:=x;simp only[cC,go_sem];replace h:sat (gY F I J N) _:=h;unfold gY at h;refine tT 0 rfl (yaA ?_);refine tT 1 rfl (yaA ?_);refine tT 2 rfl (yaA ?_);refine aIG hV [6,7] (yaA ?_);refine aW h fun U hv h=>?_;try simp only[hv,go_sem]
 exact aQ hV [.cell 6 40,.tmp 7] rfl rfl rfl (aC h) xAd
attribute [go_sem] pU
def pF(F:Md)(I:qi):Option Bool :=
 if (I.2.1.length:Int)=(0:Int) then some ((!I.1)&&(decide (I.2.2.1=(0:Int)))) else ck (((yZ I.2.1)=true)→((0:Int)<(I.2.1.length:Int))) (some ((((yZ I.2.1)&&(decide (((I.2.1.getD (0:Nat) (0:Nat))&&&(1:Nat))=(1:Nat))))&&(decide ((-1048576:Int)≤I.2.2.1)))&&(decide (I.2.2.1≤(1048576:Int)))))
def aGH:PlR:=⟨[(0,.B [1]),(1,.A [1,6]),(2,.A [2]),(3,.A [2])],[],[]⟩
def aJy:Ty:=.pair qa .unit
def xS(F:Md):aF:=mSpec aJy (.one .bool) (fun x=>pF F x.1)
abbrev aJz(F:Md):List (FuncId×aF):=[(161,aAz)]
theorem aQV(F:Md):bU Tryz.prog GL (aJz F):=.cons aQM xC (.nil)
attribute [go_sem] aJy aGH
theorem aPy(F:Md):FOK Tryz.prog GL 121 (xS F):=by
 refine cF (bQ (aQV F)) mix Tryz.func121 rfl xC xAa aGH (fun w0 S x Θ J h hV=>?_);obtain⟨(I:qi),u⟩:=x;simp only[cC,go_sem];replace h:sat (pF F I) _:=h;unfold pF at h;refine cY h (fun hc h=>?_) fun hc h=>?_
 ·exact aQ hV [.tmp 2] rfl rfl rfl (aC h) xAd
 ·refine aZ h fun g0 h=>?_;exact zaD
attribute [go_sem] xS
def cJ(F:Md)(J:qk)(N:qd)(I:Int):Option ((Int)⊕((Unit)⊕Int)) :=
 if I<(J.length:Int) then ck (0≤I∧I<(J.length:Int)) (if N=(J.getD (I.toNat) ([]:List Nat)) then some (.inr (.inr I)) else ck (I64 (I+(1:Int))) (some (.inl (I+(1:Int))))) else some (.inr (.inl ()))
def dH(F:Md)(J:qk)(I:qd):Option Int :=
 (dC F (fun d:Int=>cJ F J I d) (0:Int)).bind (fun e=>match e with|(.inl e)=>some (-1:Int)|(.inr e)=>some e)
def rH:PlR:=⟨[(0,.A [0,1]),(1,.A [0,1,7,8]),(2,.A [0,1,7,8,9]),(3,.A [0,1,5,7,8]),(4,.A [0,1,5,7,8,16]),(5,.A [4]),(6,.A [0,1,7,8]),(7,.A [4])],[],[]⟩
def sA:Ty:=.pair qo (.pair .str .unit)
def dY(F:Md):aF:=mSpec sA (.one qf) (fun x=>dH F x.1 x.2.1)
abbrev aA9(F:Md):List (FuncId×aF):=[]
theorem aBa(F:Md):bU Tryz.prog GL (aA9 F):=.nil
attribute [go_sem] sA rH
theorem rI(F:Md):FOK Tryz.prog GL 34 (dY F):=by
 refine cF (bQ (aBa F)) mix Tryz.func34 rfl xC xAa rH (fun w0 S x Θ hw h hV=>?_);obtain⟨(U:qk),(I:qd),u⟩:=x;simp only[cC,go_sem];replace h:sat (dH F U I) _:=h;unfold dH at h;refine bZ hV (D:=Int) [0,1,7] (fun d=>[(8,.val qf d)]) (fun d=>[]) h rfl xAb ?_;rintro N A2 T2 Y J h;simp only[go_sem];replace h:sat (cJ F U I N) _:=h;unfold cJ at h;refine gF h (fun hc h=>?_) fun hc h=>?_
 ·refine aZ h fun g0 h=>?_;refine cY h (fun hc h=>?_) fun hc h=>?_
  ·replace h:=yaF (J _ (aC h));exact zaB
  ·refine aZ h fun g0 h=>?_;replace h:=Y _ (aC h);exact zaG
 ·replace h:=yaF (J _ (aC h));exact zaB
attribute [go_sem] dY
def cK(F:Md)(N:qk)(J:qd):Option Bool :=
 (dH F N J).bind (fun I=>some (decide ((0:Int)≤I)))
def nS:PlR:=⟨[(0,.A [0,1]),(1,.A [4])],[],[]⟩
def oF:Ty:=.pair qo (.pair .str .unit)
def fS(F:Md):aF:=mSpec oF (.one .bool) (fun x=>cK F x.1 x.2.1)
abbrev oG(F:Md):List (FuncId×aF):=[(34,(dY F))]
theorem yC(F:Md):bU Tryz.prog GL (oG F):=.cons (rI F) xC (.nil)
attribute [go_sem] oF nS
theorem xD(F:Md):FOK Tryz.prog GL 64 (fS F):=by
 refine cF (bQ (yC F)) mix Tryz.func64 rfl xC xAa nS (fun w0 S x Θ U h hV=>?_);obtain⟨(J:qk),(I:qd),u⟩:=x;simp only[cC,go_sem];replace h:sat (cK F J I) _:=h;unfold cK at h;refine aW h fun N hv h=>?_;try simp only[hv,go_sem]
 exact zaB
attribute [go_sem] fS
def lG(F:Md):Option wd :=
 none
def iU(F:Md)(J:qd)(I:Int):Option wd :=
 ck ((0:Int)<(J.length:Int)) (if (J.getD (0:Nat) (0:Nat))=(45:Nat) then ck (I64 (0-I)) (some ((0-I),(),())) else some (I,(),()))
def eD(F:Md)(N:qd)(J:Int)(I:Int):Option (qv⊕((Int)⊕wd)) :=
 if I<(N.length:Int) then ck (0≤I∧I<(N.length:Int)) (if (9:Nat)<(kV F .u8 (N.getD (I.toNat) (0:Nat)) (48:Nat)) then none else ck (I64 (J*(10:Int))) (ck (I64 ((J*(10:Int))+(((kV F .u8 (N.getD (I.toNat) (0:Nat)) (48:Nat)):Nat):Int))) (ck (I64 (I+(1:Int))) (some (.inl (((J*(10:Int))+(((kV F .u8 (N.getD (I.toNat) (0:Nat)) (48:Nat)):Nat):Int)),(I+(1:Int)))))))) else some (.inr (.inl J))
def eR(F:Md)(J:qd)(I:qd):Option wd :=
 (dC F (fun d:Int×Int=>eD F I d.1 d.2) ((0:Int),(0:Int))).bind (fun e=>match e with|(.inl e)=>iU F J e|(.inr e)=>some e)
def jJ(F:Md)(I:qd):Option wd :=
 if ((False)∧(((0:Int)<(I.length:Int))∧((I.length:Int)<(10:Int))))∨((True)∧(((0:Int)<(I.length:Int))∧((I.length:Int)<(19:Int)))) then ck ((0:Int)<(I.length:Int)) (ck (¬((I.getD (0:Nat) (0:Nat))=(45:Nat))→((0:Int)<(I.length:Int))) (if ((I.getD (0:Nat) (0:Nat))=(45:Nat))∨((I.getD (0:Nat) (0:Nat))=(43:Nat)) then ck ((1:Int)≤(I.length:Int)) (if (((List.drop (1:Nat) I).length:Nat):Int)<(1:Int) then none else eR F I (List.drop (1:Nat) I)) else eR F I I)) else lG F
def zE:PlR:=⟨[(0,.A [0]),(1,.A [0,4]),(2,.A [0,30]),(3,.A [0,5]),(4,.A [0,5,39]),(5,.A [0,5]),(6,.A [0,5,44]),(7,.A [2,3]),(8,.A [0,5,6]),(9,.A [5,6,47,48,49]),(10,.A [5,6,47,48,49,50]),(11,.A [5,6,8,47,48,49]),(12,.A [5,6,8,47,48,49]),(13,.A [5,6,8,47,48,49,56]),(14,.A [2,3]),(15,.A [5,6,47,48,49]),(16,.A [5,6,47,48,49]),(17,.A [6,66]),(18,.A [6]),(19,.A [2,3]),(20,.stop)],[(5,23),(7,11),(12,20)],[]⟩
def aAU:Ty:=.pair .str .unit
def nK(F:Md):aF:=mSpec aAU (.tup (.pair qf (.pair .nili .unit))) (fun x=>jJ F x.1)
abbrev aHg(F:Md):List (FuncId×aF):=[]
theorem aHh(F:Md):bU Tryz.prog GL (aHg F):=.nil
attribute [go_sem] aAU zE
theorem aFS(F:Md):FOK Tryz.prog GL 139 (nK F):=by
 refine cF (bQ (aHh F)) mix Tryz.func139 rfl xC xAa zE (fun w0 S x Θ hw h hV=>?_);obtain⟨(I:qd),u⟩:=x;simp only[cC,go_sem];replace h:sat (jJ F I) _:=h;unfold jJ at h;refine cD hV (D:=Unit) (fun d=>sat (lG F) Θ) [0] (fun d=>[]) (fun d=>[]) ?_ ?_
 ·simp only[go_sem,bA F,bB F,bC F];refine⟨fun hc=>?_,fun hc=>?_⟩
  ·replace h:=kJ zAC h;refine cD hV (D:=qd) (fun d=>sat (eR F I d) Θ) [5] (fun d=>[(0,.val .str d)]) (fun d=>[]) ?_ ?_
   ·simp only[go_sem,bA F,bB F,bC F];refine aZ h fun g0 h=>aZ h fun g1 h=>?_;refine⟨fun hc=>?_,fun hc=>?_⟩
    ·replace h:=kJ hc h;refine aZ h fun g0 h=>?_;refine gF h (fun hc h=>?_) fun hc h=>?_
     ·exact yQ h
     ·exact aR (List.drop (1:Nat) I) h rfl xAc
    ·replace h:=kK hc h;exact aR (I) h rfl xAc
   ·rintro s_9 h;simp only[go_sem,bA F,bB F,bC F];replace h:sat (eR F I s_9) _:=h;unfold eR at h;refine cD hV (D:=Int) (fun d=>sat (iU F I d) Θ) [5] (fun d=>[(6,.val qf d)]) (fun d=>[]) ?_ ?_
    ·simp only[go_sem,bA F,bB F,bC F];refine bZ hV (D:=Int×Int) [5,47,48] (fun d=>[(6,.val qf d.1),(49,.val qf d.2)]) (fun d=>[]) h rfl xAc ?_;rintro⟨N,J⟩ A10 T10 U hE10 h;simp only[go_sem,bA F,bB F,bC F];replace h:sat (eD F s_9 N J) _:=h;unfold eD at h;refine gF h (fun hc h=>?_) fun hc h=>?_
     ·refine aZ h fun g0 h=>?_;refine cY h (fun hc h=>?_) fun hc h=>?_
      ·exact yQ h
      ·refine aZ h fun g0 h=>aZ h fun g1 h=>?_;refine aZ h fun g0 h=>?_;replace h:=U _ (aC h);exact zaP
     ·replace h:=yaF (hE10 _ (aC h));exact aR (N) h rfl xAc
    ·rintro Y h;simp only[go_sem,bA F,bB F,bC F];replace h:sat (iU F I Y) _:=h;unfold iU at h;refine aZ h fun g0 h=>?_;refine cY h (fun hc h=>?_) fun hc h=>?_
     ·refine aZ h fun g0 h=>?_;exact aQ hV [.tmp 2,.tmp 3] rfl rfl rfl (aC h) xAe
     ·exact aQ hV [.tmp 2,.tmp 3] rfl rfl rfl (aC h) xAe
  ·replace h:=kK zAC h;exact aR () h rfl xAc
 ·rintro u h;simp only[go_sem,bA F,bB F,bC F];replace h:sat (lG F) _:=h;unfold lG at h;exact yQ h
attribute [go_sem] nK
def kO(F:Md)(J:qd):Option wd :=
 (jJ F J).bind (fun I=>some (I.1,(),()))
def aAV:PlR:=⟨[(0,.A [0]),(1,.A [0,4,5]),(2,.A [0,4,5,12]),(4,.A [2,3])],[],[]⟩
def aBR:Ty:=.pair .str .unit
def oQ(F:Md):aF:=mSpec aBR (.tup (.pair qf (.pair .nili .unit))) (fun x=>kO F x.1)
abbrev aBS(F:Md):List (FuncId×aF):=[(139,(nK F))]
theorem aJB(F:Md):bU Tryz.prog GL (aBS F):=.cons (aFS F) xC (.nil)
attribute [go_sem] aBR aAV
theorem aHi(F:Md):FOK Tryz.prog GL 95 (oQ F):=by
 refine cF (bQ (aJB F)) mix Tryz.func95 rfl xC xAa aAV (fun w0 S x Θ N h hV=>?_);obtain⟨(I:qd),u⟩:=x;simp only[cC,go_sem];replace h:sat (kO F I) _:=h;unfold kO at h;refine aW h fun J hv h=>?_;try simp only[hv,go_sem]
 exact aQ hV [.tmp 2,.tmp 3] rfl rfl rfl (aC h) xAd
attribute [go_sem] oQ
def gZ(F:Md)(I:Int)(N:qd)(J:Int):Option ((Int)⊕(Int)) :=
 ck (I64 (I+J)) (ck (((I+J)<(N.length:Int))→(I64 (I+J))) (ck (((I+J)<(N.length:Int))→(0≤(I+J)∧(I+J)<(N.length:Int))) (ck ((((I+J)<(N.length:Int))∧((48:Nat)≤(N.getD (I+J).toNat (0:Nat))))→(I64 (I+J))) (ck ((((I+J)<(N.length:Int))∧((48:Nat)≤(N.getD (I+J).toNat (0:Nat))))→(0≤(I+J)∧(I+J)<(N.length:Int))) (if (((I+J)<(N.length:Int))∧((48:Nat)≤(N.getD (I+J).toNat (0:Nat))))∧((N.getD (I+J).toNat (0:Nat))≤(57:Nat)) then ck (I64 (J+(1:Int))) (some (.inl (J+(1:Int)))) else some (.inr J))))))
def jR(F:Md)(J:qd)(I:Int):Option Int :=
 (dC F (fun d:Int=>gZ F I J d) (0:Int)).bind (fun e=>some e)
def aCS:PlR:=⟨[(0,.A [0,1]),(1,.A [0,1,5]),(2,.A [0,1,5,27]),(3,.A [0,1,5]),(4,.A [4])],[],[]⟩
def aEy:Ty:=.pair .str qn
def tA(F:Md):aF:=mSpec aEy (.one qf) (fun x=>jR F x.1 x.2.1)
abbrev aNa(F:Md):List (FuncId×aF):=[]
theorem aNb(F:Md):bU Tryz.prog GL (aNa F):=.nil
attribute [go_sem] aEy aCS
theorem aKB(F:Md):FOK Tryz.prog GL 94 (tA F):=by
 refine cF (bQ (aNb F)) mix Tryz.func94 rfl xC xAa aCS (fun w0 S x Θ hw h hV=>?_);obtain⟨(J:qd),(I:Int),u⟩:=x;simp only[cC,go_sem];replace h:sat (jR F J I) _:=h;unfold jR at h;refine bZ hV (D:=Int) [0,1] (fun d=>[(5,.val qf d)]) (fun d=>[]) h rfl xAb ?_;rintro Y A2 T2 U N h;simp only[go_sem];replace h:sat (gZ F I J Y) _:=h;unfold gZ at h;refine aZ h fun g0 h=>aZ h fun g1 h=>aZ h fun g2 h=>aZ h fun g3 h=>aZ h fun g4 h=>?_;refine⟨fun hc=>?_,fun hc=>?_⟩
 ·replace h:=kJ hc h;refine aZ h fun g0 h=>?_;replace h:=U _ (aC h);exact zaG
 ·replace h:=kK hc h;replace h:=yaF (N _ (aC h));exact zaB
attribute [go_sem] tA
def fW(F:Md)(N:qd)(U:qd)(J:Int)(I:Int):Option q8 :=
 some (N,I,(decide (J=(U.length:Int))),())
def fX(F:Md)(I:Int)(J:Int)(N:Int)(Y:qd)(s_0:qd)(U:Int):Option q8 :=
 ck (I64 (I+U)) (ck (I64 (J+N)) (fW F Y s_0 (J+N) (I+U)))
def fY(F:Md)(N:qd)(at_8:Int)(U:Int)(all_9:qd)(I:Int):Option q8 :=
 (jR F N I).bind (fun J=>if (J<(1:Int))∨((3:Int)<J) then some ((eI ⟨#[]⟩),(0:Int),false,()) else ck (I64 (I+J)) (ck (0≤I∧I≤(I+J)∧(I+J)≤(N.length:Int)) ((kO F (List.drop (I.toNat) (List.take (I+J).toNat N))).bind (fun Y=>if (100:Int)<Y.1 then some ((eI ⟨#[]⟩),(0:Int),false,()) else if ((at_8+(1:Int))<(N.length:Int))∧((N.getD (at_8+(1:Int)).toNat (0:Nat))=(45:Nat)) then ck (I64 (0-Y.1)) (fX F U I J all_9 N (0-Y.1)) else fX F U I J all_9 N Y.1))))
def fZ(F:Md)(J:qd)(I:Int)(U:qd)(N:Int):Option q8 :=
 ck ((I<(J.length:Int))→(0≤I∧I<(J.length:Int))) (if (I<(J.length:Int))∧((J.getD (I.toNat) (0:Nat))=(101:Nat)) then ck (I64 (I+(1:Int))) (ck (((I+(1:Int))<(J.length:Int))→(0≤(I+(1:Int))∧(I+(1:Int))<(J.length:Int))) (ck (¬(((I+(1:Int))<(J.length:Int))∧((J.getD (I+(1:Int)).toNat (0:Nat))=(45:Nat)))→((I+(1:Int))<(J.length:Int))→(0≤(I+(1:Int))∧(I+(1:Int))<(J.length:Int))) (if (((I+(1:Int))<(J.length:Int))∧((J.getD (I+(1:Int)).toNat (0:Nat))=(45:Nat)))∨(((I+(1:Int))<(J.length:Int))∧((J.getD (I+(1:Int)).toNat (0:Nat))=(43:Nat))) then ck (I64 ((I+(1:Int))+(1:Int))) (fY F J I N U ((I+(1:Int))+(1:Int))) else fY F J I N U (I+(1:Int))))) else fW F U J I N)
def jZ(F:Md)(J:qd):Option q8 :=
 (jR F J (0:Int)).bind (fun I=>ck (0≤I∧I≤(J.length:Int)) (if ((60:Int)<(J.length:Int))∨(I=(0:Int)) then some ((eI ⟨#[]⟩),(0:Int),false,()) else ck ((I<(J.length:Int))→(0≤I∧I<(J.length:Int))) (if (I<(J.length:Int))∧((J.getD (I.toNat) (0:Nat))=(46:Nat)) then ck (I64 (I+(1:Int))) ((jR F J (I+(1:Int))).bind (fun N=>if N=(0:Int) then some ((eI ⟨#[]⟩),(0:Int),false,()) else ck (I64 (I+(1:Int))) (ck (I64 (I+(1:Int))) (ck (I64 ((I+(1:Int))+N)) (ck (0≤(I+(1:Int))∧(I+(1:Int))≤((I+(1:Int))+N)∧((I+(1:Int))+N)≤(J.length:Int)) (ck ((List.take (I.toNat) J).length+(List.drop (I+(1:Int)).toNat (List.take ((I+(1:Int))+N).toNat J)).length≤9223372036854775807) (ck (I64 (0-N)) (ck (I64 (I+(1:Int))) (ck (I64 ((I+(1:Int))+N)) (fZ F J ((I+(1:Int))+N) ((List.take (I.toNat) J)++(List.drop (I+(1:Int)).toNat (List.take ((I+(1:Int))+N).toNat J))) (0-N))))))))))) else fZ F J I (List.take (I.toNat) J) (0:Int))))
def aBT:PlR:=⟨[(0,.A [0]),(1,.A [0,5]),(2,.A [0,5,6,7]),(3,.A [0,5,6,7,24]),(4,.A [2,3,4]),(5,.A [0,5,6,7,34]),(6,.A [0,5,6,8]),(7,.A [0,5,6,8,40]),(8,.A [2,3,4]),(9,.A [0,5,6,7]),(10,.A [0,5,6,7,66]),(11,.A [0,5,6,7]),(12,.A [0,5,6,7,9]),(13,.A [0,5,6,7,9,91]),(14,.A [0,5,6,7,9]),(15,.A [0,5,6,7,9,10]),(16,.A [0,5,6,7,9,10,102]),(17,.A [2,3,4]),(18,.A [0,5,6,7,9,10,11]),(19,.A [0,5,6,7,9,10,11,114]),(20,.A [2,3,4]),(21,.A [0,5,6,7,10,11,115]),(22,.A [0,5,6,7,10,11]),(23,.A [0,5,6,7]),(24,.A [2,3,4])],[(8,13),(13,27),(16,18),(24,26)],[]⟩
def aCT:Ty:=.pair .str .unit
def kP(F:Md):aF:=mSpec aCT (.tup (.pair .str (.pair qf (.pair .bool .unit)))) (fun x=>jZ F x.1)
abbrev yD(F:Md):List (FuncId×aF):=[(94,(tA F)),(95,(oQ F))]
theorem aKC(F:Md):bU Tryz.prog GL (yD F):=.cons (aKB F) xC (.cons (aHi F) xC (.nil))
attribute [go_sem] aCT aBT
theorem aBU(F:Md):FOK Tryz.prog GL 47 (kP F):=by
 refine cF (bQ (aKC F)) mix Tryz.func47 rfl xC xAa aBT (fun w0 S x Θ hw h hV=>?_);obtain⟨(N:qd),u⟩:=x;simp only[cC,go_sem];replace h:sat (jZ F N) _:=h;unfold jZ at h;refine aW h fun v_5 hv h=>?_;try simp only[hv,go_sem]
 refine aD h fun g0 h=>(yaB ?_);refine⟨fun hc=>?_,fun hc=>?_⟩
 ·replace h:=kJ hc h;exact zaR
 ·replace h:=kK hc h;refine cD hV (D:=Int×qd×Int) (fun d=>sat (fZ F N d.1 d.2.1 d.2.2) Θ) [0] (fun d=>[(5,.val qf d.1),(6,.val .str d.2.1),(7,.val qf d.2.2)]) (fun d=>[]) ?_ ?_
  ·simp only[go_sem];refine aD h fun g0 h=>(yaB ?_);refine⟨fun hc=>?_,fun hc=>?_⟩
   ·replace h:=kJ hc h;refine aD h fun g0 h=>(yaB ?_);refine aW h fun v_32 hv h=>?_;(try simp only[hv,go_sem]);refine cY h (fun hc h=>?_) fun hc h=>?_
    ·exact aQ hV [.tmp 2,.tmp 3,.tmp 4] rfl rfl rfl (aC h) xAd
    ·refine aD h fun g0 h=>?_;refine aD h fun g1 h=>?_;refine aD h fun g2 h=>?_;refine aD h fun g3 h=>?_;refine aD h fun g4 h=>?_;refine aD h fun g5 h=>?_;refine aD h fun g6 h=>?_;refine aD h fun g7 h=>(yaB ?_);exact aR (((v_5+(1:Int))+v_32),((List.take (v_5.toNat) N)++(List.drop (v_5+(1:Int)).toNat (List.take ((v_5+(1:Int))+v_32).toNat N))),(0-v_32)) h rfl xAb
   ·replace h:=kK hc h;exact aR (v_5,(List.take (v_5.toNat) N),(0:Int)) h rfl xAb
  ·rintro⟨U,J,I⟩ h;simp only[go_sem];replace h:sat (fZ F N U J I) _:=h;unfold fZ at h;refine cD hV (D:=Int×Int) (fun d=>sat (fW F J N d.1 d.2) Θ) [0,6] (fun d=>[(5,.val qf d.1),(7,.val qf d.2)]) (fun d=>[]) ?_ ?_
   ·simp only[go_sem];refine aD h fun g0 h=>(yaB ?_);refine⟨fun hc=>?_,fun hc=>?_⟩
    ·replace h:=kJ hc h;refine aD h fun g0 h=>(yaB ?_);refine aD h fun g0 h=>(yaB ?_);refine cD hV (D:=Int) (fun d=>sat (fY F N U I J d) Θ) [0,6,7,9] (fun d=>[(5,.val qf d)]) (fun d=>[]) ?_ ?_
     ·simp only[go_sem];refine aD h fun g0 h=>(yaB ?_);refine⟨fun hc=>?_,fun hc=>?_⟩
      ·replace h:=kJ hc h;refine aD h fun g0 h=>(yaB ?_);exact aR ((U+(1:Int))+(1:Int)) h rfl xAb
      ·replace h:=kK hc h;exact aR (U+(1:Int)) h rfl xAb
     ·rintro Y h;simp only[go_sem];replace h:sat (fY F N U I J Y) _:=h;unfold fY at h;refine aW h fun v_23 hv h=>?_;(try simp only[hv,go_sem]);refine⟨fun hc=>?_,fun hc=>?_⟩
      ·replace h:=kJ hc h;exact zaR
      ·replace h:=kK hc h;refine aD h fun g0 h=>?_;refine aD h fun g1 h=>(yaB ?_);refine aW h fun v_27 hv h=>?_;(try simp only[hv,go_sem]);refine gF h (fun hc h=>?_) fun hc h=>?_
       ·exact aQ hV [.tmp 2,.tmp 3,.tmp 4] rfl rfl rfl (aC h) xAd
       ·refine cD hV (D:=Int) (fun d=>sat (fX F I Y v_23 J N d) Θ) [0,5,6,7,10] (fun d=>[(11,.val qf d)]) (fun d=>[]) ?_ ?_
        ·simp only[go_sem];refine⟨fun hc=>?_,fun hc=>?_⟩
         ·replace h:=kJ hc h;refine aD h fun g0 h=>(yaB ?_);exact aR (0-v_27.1) h rfl xAb
         ·replace h:=kK hc h;exact aR v_27.1 h rfl xAb
        ·rintro x_28 h;simp only[go_sem];replace h:sat (fX F I Y v_23 J N x_28) _:=h;unfold fX at h;refine aD h fun g0 h=>?_;refine aD h fun g1 h=>(yaB ?_);exact aR ((Y+v_23),(I+x_28)) h rfl xAb
    ·replace h:=kK hc h;exact aR (U,I) h rfl xAb
   ·rintro⟨at_17,pow_18⟩ h;simp only[go_sem];replace h:sat (fW F J N at_17 pow_18) _:=h;unfold fW at h;exact zaR
attribute [go_sem] kP
def iV(F:Md)(U:Int)(N:Nat)(J:qd)(I:Int):Option ((qd×Int)⊕qd) :=
 if I<U then ck (aME J ([N]:List Nat)) (ck (I64 (I+(1:Int))) (some (.inl ((dD J ([N]:List Nat)),(I+(1:Int)))))) else some (.inr J)
def mV(F:Md)(J:Nat)(I:Int):Option qd :=
 (dC F (fun d:qd×Int=>iV F I J d.1 d.2) (([1]:List Nat),(0:Int))).bind (fun e=>some e)
def aEz:PlR:=⟨[(0,.stop),(1,.stop),(2,.stop),(3,.stop),(4,.stop),(5,.stop),(6,.stop)],[],[]⟩
def aGI:Ty:=.pair qh qn
def vH(F:Md):aF:=mSpec aGI (.one qr) (fun x=>mV F x.1 x.2.1)
abbrev aGJ(F:Md):List (FuncId×aF):=[(49,jP)]
theorem aPz(F:Md):bU Tryz.prog GL (aGJ F):=.cons aAB xC (.nil)
attribute [go_sem] aGI aEz
theorem aNc(F:Md):FOK Tryz.prog GL 51 (vH F):=by
 refine cF (bQ (aPz F)) mix Tryz.func51 rfl xC xAa aEz (fun w0 S x Θ hw h hV=>?_);obtain⟨(I:Nat),(J:Int),u⟩:=x;simp only[cC,go_sem];replace h:sat (mV F I J) _:=h;unfold mV at h;refine jT hV [0,1] (yaA ?_);refine jT hV [0,1,5] (yaA ?_);refine jT hV [0,5,7,8] (yaA ?_);refine bZ hV (D:=qd×Int) [0,7] (fun d=>[(5,.val qr d.1),(8,.val qf d.2)]) (fun d=>[]) h rfl xAb ?_;rintro⟨Y,N⟩ A3 T3 hA3 U h;simp only[go_sem];replace h:sat (iV F J I Y N) _:=h;unfold iV at h;refine jT hV [0,5,7,8,9] (yaA ?_);refine gF h (fun hc h=>?_) fun hc h=>?_
 ·refine jT hV [0,5,7,8] (yaA ?_);refine aZ h fun g0 h=>?_;refine jT hV [0,5,7,8] (yaA ?_);refine aZ h fun g0 h=>?_;replace h:=hA3 _ (aC h);exact zaG
 ·replace h:=yaF (U _ (aC h));refine jT hV [4] (yaA ?_);exact zaB
attribute [go_sem] vH
def hH(F:Md)(J:qd)(N:qd)(I:Int):Option ((qd×Int)⊕qd) :=
 if I<(J.length:Int) then ck (0≤I∧I<(J.length:Int)) (ck (aME N ([10]:List Nat)) (ck (pSz ([(kV F .u8 (J.getD (I.toNat) (0:Nat)) (48:Nat))]:List Nat)) (ck (aME (dD N ([10]:List Nat)) (sL ([(kV F .u8 (J.getD (I.toNat) (0:Nat)) (48:Nat))]:List Nat))) (ck (I64 (I+(1:Int))) (some (.inl ((jX (dD N ([10]:List Nat)) (sL ([(kV F .u8 (J.getD (I.toNat) (0:Nat)) (48:Nat))]:List Nat))),(I+(1:Int))))))))) else some (.inr N)
def nL(F:Md)(I:qd):Option qd :=
 (dC F (fun d:qd×Int=>hH F I d.1 d.2) (([]:List Nat),(0:Int))).bind (fun e=>some e)
def aCU:PlR:=⟨[(0,.stop),(1,.stop),(2,.stop),(3,.stop),(4,.stop),(5,.stop),(6,.stop),(7,.stop)],[],[]⟩
def aEA:Ty:=.pair .str .unit
def tB(F:Md):aF:=mSpec aEA (.one qr) (fun x=>nL F x.1)
abbrev vI(F:Md):List (FuncId×aF):=[(106,pR),(107,xP),(49,jP)]
theorem aNd(F:Md):bU Tryz.prog GL (vI F):=.cons aGy xC (.cons aPo xC (.cons aAB xC (.nil)))
attribute [go_sem] aEA aCU
theorem aKD(F:Md):FOK Tryz.prog GL 50 (tB F):=by
 refine cF (bQ (aNd F)) mix Tryz.func50 rfl xC xAa aCU (fun w0 S x Θ hw h hV=>?_);obtain⟨(J:qd),u⟩:=x;simp only[cC,go_sem];replace h:sat (nL F J) _:=h;unfold nL at h;refine jT hV [0] ?_;simp only[go_sem,bA F,bB F,bC F];refine jT hV [0,3] ?_;simp only[go_sem,bA F,bB F,bC F];refine jT hV [3,7,8,9] ?_;simp only[go_sem,bA F,bB F,bC F];refine bZ hV (D:=qd×Int) [7,8] (fun d=>[(3,.val qr d.1),(9,.val qf d.2)]) (fun d=>[]) h rfl xAc ?_;rintro⟨U,I⟩ A3 T3 Y N h;simp only[go_sem,bA F,bB F,bC F];replace h:sat (hH F J U I) _:=h;unfold hH at h;refine jT hV [3,7,8,9,10] ?_;simp only[go_sem,bA F,bB F,bC F];refine gF h (fun hc h=>?_) fun hc h=>?_
 ·refine jT hV [3,5,7,8,9] ?_;simp only[go_sem,bA F,bB F,bC F];refine aD h fun g0 h=>(yaE ?_);refine jT hV [3,7,8,9] ?_;simp only[go_sem,bA F,bB F,bC F];refine aD h fun g0 h=>?_;refine aD h fun g1 h=>?_;refine aD h fun g2 h=>(yaE ?_);refine jT hV [3,7,8,9] ?_;simp only[go_sem,bA F,bB F,bC F];refine aD h fun g0 h=>?_;try simp only[I64,I32] at g0
  repeat (refine⟨zAB,?_⟩)
  replace h:=Y _ (aC h);exact zaP
 ·replace h:=yaF (N _ (aC h));refine jT hV [2] ?_;simp only[go_sem,bA F,bB F,bC F];exact aQ hV [.tmp 2] rfl rfl rfl (aC h) xAe
attribute [go_sem] tB
def sM(F:Md)(J:qd):Option Bool :=
 (jZ F J).bind (fun I=>some I.2.2.1)
def aGK:PlR:=⟨[(0,.A [0]),(1,.A [5]),(2,.A [2])],[],[]⟩
def aJD:Ty:=.pair .str .unit
def xT(F:Md):aF:=mSpec aJD (.one .bool) (fun x=>sM F x.1)
abbrev aJE(F:Md):List (FuncId×aF):=[(47,(kP F))]
theorem aQW(F:Md):bU Tryz.prog GL (aJE F):=.cons (aBU F) xC (.nil)
attribute [go_sem] aJD aGK
theorem aPA(F:Md):FOK Tryz.prog GL 63 (xT F):=by
 refine cF (bQ (aQW F)) mix Tryz.func63 rfl xC xAa aGK (fun w0 S x Θ N h hV=>?_);obtain⟨(I:qd),u⟩:=x;simp only[cC,go_sem];replace h:sat (sM F I) _:=h;unfold sM at h;refine aW h fun J hv h=>?_;try simp only[hv,go_sem]
 exact zaD
attribute [go_sem] xT
def pV(F:Md)(Y:qd):Option (qd×(qd×(Bool×Unit))) :=
 (jZ F Y).bind (fun I=>if ¬(I.2.2.1=true) then some (([]:List Nat),([]:List Nat),false,()) else (nL F I.1).bind (fun J=>(mV F (10:Nat) (max I.2.1 (0:Int))).bind (fun N=>ck (aME J N) (ck (I64 (0-I.2.1)) ((mV F (10:Nat) (max (0-I.2.1) (0:Int))).bind (fun U=>some ((dD J N),U,true,())))))))
def aEB:PlR:=⟨[(0,.A [0]),(1,.A [5,6,7]),(2,.A [5,6,15]),(3,.A [2,3,4]),(4,.A [2,3,4])],[],[]⟩
def aGL:Ty:=.pair .str .unit
def vJ(F:Md):aF:=mSpec aGL (.tup (.pair qr (.pair qr (.pair .bool .unit)))) (fun x=>pV F x.1)
abbrev uA(F:Md):List (FuncId×aF):=[(47,(kP F)),(49,jP),(50,(tB F)),(51,(vH F))]
theorem aPB(F:Md):bU Tryz.prog GL (uA F):=.cons (aBU F) xC (.cons aAB xC (.cons (aKD F) xC (.cons (aNc F) xC (.nil))))
attribute [go_sem] aGL aEB
theorem aNe(F:Md):FOK Tryz.prog GL 31 (vJ F):=by
 refine cF (bQ (aPB F)) mix Tryz.func31 rfl xC xAa aEB (fun w0 S x Θ hw h hV=>?_);obtain⟨(I:qd),u⟩:=x;simp only[cC,go_sem];replace h:sat (pV F I) _:=h;unfold pV at h;refine aW h fun Y hv h=>?_;try simp only[hv,go_sem]
 refine aL1 h (fun hc h=>?_) fun hc h=>?_
 ·exact aQ hV [.tmp 2,.tmp 3,.tmp 4] rfl rfl rfl (aC h) xAd
 ·refine aW h fun N hv h=>?_;try simp only[hv,go_sem]
  refine aW h fun J hv h=>?_;try simp only[hv,go_sem]
  refine aZ h fun g0 h=>aZ h fun g1 h=>?_;refine aW h fun U hv h=>?_;try simp only[hv,go_sem]
  exact zaR
attribute [go_sem] vJ
def uB(c:Nat):Bool:=decide (48≤c∧c≤57)
def dS(s:List Nat)(i:Nat):Nat:=((s.drop i).takeWhile uB).length
theorem aZq{p:Nat→Bool}:∀(l:List Nat) (n:Nat),n≤(l.takeWhile p).length→(n<(l.takeWhile p).length↔n<l.length∧p (l.getD n 0)=true)
 | [],n,h=>by simp
 | x::r,n,h=>by
  by_cases hp:p x=true
  ·rw[List.takeWhile_cons_of_pos hp] at h ⊢;cases n with
   | zero=>simp[hp]
   | succ n =>
    have:=aZq (p:=p) r n (by simp_all);simp_all
  simp_all
theorem aAH(s:List Nat)(i:Nat):dS s i≤s.length-i:=by
 have:=(List.takeWhile_prefix (p:=uB) (l:=s.drop i)).length_le;rw[List.length_drop] at this;exact this
theorem aFX(s:List Nat)(i:Nat)(hs:s.length≤9223372036854775807)(hi:i≤9223372036854775807):jR none s (i:Int)=some (dS s i:Int):=by
 have hd:=aAH s i;unfold jR;refine bF (oA (step:=fun d:Int=>gZ none (i:Int) s d) (I:=fun n=>0≤n∧n≤dS s i) (fun n=>((dS s i:Int)-n).toNat) (fun _=>(dS s i:Int)) ?_ 0 ⟨by omega,by omega⟩) rfl;rintro n ⟨Y,n1⟩;obtain⟨k,rfl⟩:=Int.eq_ofNat_of_zero_le Y;show (∃d',gZ none (i:Int) s k=_∧_)∨gZ none (i:Int) s k=_;have e:((i:Int)+(k:Int)).toNat=i+k:=by omega
 have hx:s.getD (i+k) 0=(s.drop i).getD k 0:=by simp_all
 have ht:=aZq (p:=uB) (s.drop i) k (by grind[dS]);have ht:k<dS s i↔i+k<s.length∧48≤s.getD (i+k) 0∧s.getD (i+k) 0≤57:=by
  rw[hx];refine ht.trans ?_;rw[List.length_drop,uB,decide_eq_true_iff];omega
 unfold gZ;rw[e];by_cases J:k<dS s i
 ·left
  obtain⟨h1,N,U⟩:=ht.1 J;refine⟨(k:Int)+1,?_,⟨by omega,by omega⟩,by omega,rfl⟩;refine aB (by omega) (aB (fun _=>by omega) (aB (fun _=>by omega) (aB (fun _=>by omega) (aB (fun _=>by omega) ?_))));rw[if_pos ⟨⟨by omega,N⟩,U⟩];exact aB (by omega) rfl
 ·right
  refine aB (by omega) (aB (fun _=>by omega) (aB (fun _=>by omega) (aB (fun _=>by omega) (aB (fun _=>by omega) ?_))));grind
theorem bBG{a b:Nat}(J:a<256)(hb:b≤a):kV none .u8 a b=a-b:=by
 have I:eM .u8=256:=by rfl
 grind[aRP,aB7,Nat.add_mod_right,Nat.mod_eq_of_lt]
def pG(s:List Nat):Nat:=s.foldl (fun m c=>m*10+(c-48)) 0
theorem aLp(s:List Nat)(c:Nat):pG (s++ [c])=pG s*10+(c-48):=by simp[pG]
theorem aLq:∀(s:List Nat) (m:Nat),(∀c∈s,uB c=true)→s.foldl (fun m c=>m*10+(c-48)) m<(m+1)*10^s.length
 | [],m,_=>by simp
 | x::r,m,h=>by
  have J:=h x (by simp);simp only[uB,decide_eq_true_iff] at J;have I:=aLq r (m*10+(x-48)) (fun c hc=>h c (by simp[hc]));rw[List.foldl_cons,List.length_cons,Nat.pow_succ,Nat.mul_comm (10^r.length) 10,← Nat.mul_assoc];exact Nat.lt_of_lt_of_le I (Nat.mul_le_mul_right _ (by omega))
theorem aHR{s:List Nat}(h:∀c∈s,uB c=true):pG s<10^s.length:=by
 have:=aLq s 0 h;rw[Nat.zero_add,Nat.one_mul] at this;exact this
theorem aWL{k:Nat}(h:k≤18):10^k≤1000000000000000000:=Nat.pow_le_pow_right (n:=10) xAa h
theorem aYM(s:List Nat)(hd:∀c∈s,uB c=true)(h0:0<s.length)(h1:s.length≤18):kO none s=some ((pG s:Int),(),()):=by
 have J:∀k,k<s.length→48≤s.getD k 0∧s.getD k 0≤57:=fun k U=>by
  have hg:s.getD k 0∈s:=by simp_all
  simp_all[uB,decide_eq_true_iff]
 have Y:∀k,pG (s.take k)<1000000000000000000∨k>s.length:=fun k=>by
  rcases Nat.lt_or_ge s.length k with h|h
  all_goals grind[aHR,List.mem_of_mem_take,aWL,List.length_take]
 have key:eR none s s=some ((pG s:Int),(),()):=by
  unfold eR;refine bF (oA (step:=fun d:Int×Int=>eD none s d.1 d.2) (I:=fun d=>0≤d.2∧d.2≤s.length∧d.1=(pG (s.take d.2.toNat):Int)) (fun d=>((s.length:Int)-d.2).toNat) (fun _=>.inl (pG s:Int)) ?_ (0,0) ⟨by simp,by simp,by rfl⟩) ?_
  ·rintro⟨n,i⟩ ⟨i0,i1,i2⟩;have i0:0≤i:=i0;have i1:i≤s.length:=i1;have i2:n=(pG (s.take i.toNat):Int):=i2;show (∃d',eD none s n i=_∧_)∨eD none s n i=_;unfold eD;by_cases hi:i<s.length
   ·left
    have U:i.toNat<s.length:=(by omega);obtain⟨c1,c2⟩:=J _ U;have N:kV none .u8 (s.getD i.toNat 0) 48=s.getD i.toNat 0-48:=bBG (by omega) c1;have hb:pG (s.take (i.toNat+1))=pG (s.take i.toNat)*10+(s.getD i.toNat 0-48):=(by rw[take_succ U,aLp]);have hl:=Y (i.toNat+1);refine⟨((pG (s.take (i+1).toNat):Int),i+1),?_,⟨by omega,by omega,rfl⟩,by omega,rfl⟩;rw[if_pos hi,N,show (i+1).toNat=i.toNat+1 from by omega,hb];refine aB (by omega) ?_;rw[if_neg (by omega),i2];refine aB (by omega) (aB (by omega) (aB (by omega) ?_))
    congr 3
   simp_all[if_neg,List.take_of_length_le]
  ·unfold iU;obtain⟨c1,c2⟩:=J 0 h0;refine aB (by omega) ?_;grind
 have h2:jJ none s=some ((pG s:Int),(),()):=by
  unfold jJ;obtain⟨c1,c2⟩:=J 0 h0;rw[if_pos (.inr ⟨trivial,by omega,by omega⟩)];refine aB (by omega) (aB (fun _=>by omega) ?_);grind
 unfold kO;simp_all
theorem aJJ(s:List Nat)(i:Nat):∀c∈(s.drop i).take (dS s i),uB c=true:=by
 intro c hc;have h:(s.drop i).take (dS s i)=(s.drop i).takeWhile uB:=by
  have:=List.prefix_iff_eq_take.1 (List.takeWhile_prefix (p:=uB) (l:=s.drop i));exact this.symm
 grind[List.all_eq_true,List.all_takeWhile]
abbrev aWM:Type:=List Nat×Int×Bool×Unit
def litNo:aWM:=([],0,false,())
def oR(s:List Nat)(i:Nat)(c:Nat):Prop:=i<s.length∧s.getD i 0=c
instance (s:List Nat) (i c:Nat):Decidable (oR s i c):=inferInstanceAs (Decidable (_∧_))
def aJK(s:List Nat)(i:Nat)(all:List Nat)(I:Int)(neg:Bool):aWM :=
 if dS s i<1∨3<dS s i then litNo
 else if 100<pG ((s.drop i).take (dS s i)) then litNo
 else (all,I+(if neg then -(pG ((s.drop i).take (dS s i)):Int) else pG ((s.drop i).take (dS s i))),decide (i+dS s i=s.length),())
def aTV(s:List Nat)(i:Nat)(all:List Nat)(I:Int):aWM :=
 if oR s i 101 then aJK s (if oR s (i+1) 45∨oR s (i+1) 43 then i+2 else i+1) all I (decide (oR s (i+1) 45))
 else (all,I,decide (i=s.length),())
def rV(s:List Nat):aWM :=
 if 60<s.length∨dS s 0=0 then litNo
 else if oR s (dS s 0) 46 then
  if dS s (dS s 0+1)=0 then litNo
  else aTV s (dS s 0+1+dS s (dS s 0+1)) (s.take (dS s 0)++(s.drop (dS s 0+1)).take (dS s (dS s 0+1))) (-(dS s (dS s 0+1):Int))
 else aTV s (dS s 0) (s.take (dS s 0)) 0
theorem aWN(s:List Nat)(i:Nat):s.getD (i:Int).toNat 0=s.getD i 0:=by rfl
theorem aWO(s:List Nat)(k:Nat)(all:List Nat)(I x:Int)(J:s.length≤60)(N:k≤100)(hp: -100≤I∧I≤100)(U: -100≤x∧x≤100):fX none I (k:Int) (dS s k:Int) all s x=some (all,I+x,decide (k+dS s k=s.length),()):=by
 have hd:=aAH s k;unfold fX;refine aB (by omega) (aB (by omega) ?_);unfold fW;have:decide ((k:Int)+(dS s k:Int)=(s.length:Int))=decide (k+dS s k=s.length):=decide_eq_decide.2 (by omega);rw[this]
theorem aWP(s:List Nat)(i k:Nat)(all:List Nat)(I:Int)(hs:s.length≤60)(hi:i≤60)(hk:k≤100)(hp: -100≤I∧I≤100):fY none s (i:Int) I all (k:Int)=some (aJK s k all I (decide (oR s (i+1) 45))):=by
 have hd:=aAH s k;unfold fY aJK;refine bF (aFX s k (by omega) (by omega)) ?_;by_cases Y:dS s k<1∨3<dS s k
 ·rw[if_pos (by omega),if_pos Y]; rfl
 ·rw[if_neg (by omega),if_neg Y];have ht:List.drop (k:Int).toNat (List.take ((k:Int)+(dS s k:Int)).toNat s)=(s.drop k).take (dS s k):=by
   grind[List.drop_take,Int.toNat_natCast]
  have hl:((s.drop k).take (dS s k)).length=dS s k:=by simp_all
  have ha:=aYM _ (aJJ s k) (by omega) (by omega);simp only[ht];refine aB (by omega) (aB (by omega) (bF ha ?_));by_cases U:100<pG ((s.drop k).take (dS s k))
  ·rw[if_pos (by omega),if_pos U]; rfl
  ·rw[if_neg (by omega),if_neg U];have e:((i:Int)+1).toNat=i+1:=(by omega);rw[e];by_cases N:oR s (i+1) 45
   ·have J:i+1<s.length∧s.getD (i+1) 0=45:=N;rw[if_pos ⟨by omega,J.2⟩,decide_eq_true N];refine aB (by omega) ?_;grind[pG,dS,aWO]
   ·have J:¬(i+1<s.length∧s.getD (i+1) 0=45):=N;rw[if_neg (fun h=>J ⟨by omega,h.2⟩),decide_eq_false N];grind[aWO]
theorem aWQ(s:List Nat)(i:Nat)(all:List Nat)(I:Int)(U:s.length≤60)(hi:i≤60)(hp: -100≤I∧I≤100):fZ none s (i:Int) all I=some (aTV s i all I):=by
 unfold fZ aTV;have e:((i:Int)+1).toNat=i+1:=by omega
 rw[aWN,e];refine aB (fun _=>by omega) ?_;by_cases h:oR s i 101
 ·have h':i<s.length∧s.getD i 0=101:=h;rw[if_pos ⟨by omega,h'.2⟩,if_pos h];refine aB (by omega) (aB (fun _=>by omega) (aB (fun _ _=>by omega) ?_));by_cases N:oR s (i+1) 45∨oR s (i+1) 43
  ·have J:(i+1<s.length∧s.getD (i+1) 0=45)∨(i+1<s.length∧s.getD (i+1) 0=43):=N;rw[if_pos (by omega),if_pos N];refine aB (by omega) ?_;have:=aWP s i (i+2) all I U hi (by omega) hp;grind
  ·have J:¬((i+1<s.length∧s.getD (i+1) 0=45)∨(i+1<s.length∧s.getD (i+1) 0=43)):=N;rw[if_neg (fun h=>J (by omega)),if_neg N];grind[aWP]
 ·have h':¬(i<s.length∧s.getD i 0=101):=h;rw[if_neg (fun h=>h' ⟨by omega,h.2⟩),if_neg h];unfold fW;have:decide ((i:Int)=(s.length:Int))=decide (i=s.length):=decide_eq_decide.2 (by omega);rw[this]
theorem aWR(s:List Nat)(hs:s.length≤9223372036854775807):jZ none s=some (rV s):=by
 have hd0:=aAH s 0;have hd1:=aAH s (dS s 0+1);unfold jZ rV;have e0:=aFX s 0 hs (by omega);rw[show ((0:Nat):Int)=0 from rfl] at e0;refine bF e0 (aB (by omega) ?_);by_cases U:60<s.length∨dS s 0=0
 ·rw[if_pos (by omega),if_pos U]; rfl
 ·rw[if_neg (by omega),if_neg U];rw[aWN];refine aB (fun _=>by omega) ?_;by_cases J:oR s (dS s 0) 46
  ·have I:dS s 0<s.length∧s.getD (dS s 0) 0=46:=J;rw[if_pos ⟨by omega,I.2⟩,if_pos J];have N:=aFX s (dS s 0+1) hs (by omega);rw[show ((dS s 0+1:Nat):Int)=(dS s 0:Int)+1 from by omega] at N;refine aB (by omega) (bF N ?_);by_cases Y:dS s (dS s 0+1)=0
   ·rw[if_pos (by omega),if_pos Y]; rfl
   ·rw[if_neg (by omega),if_neg Y];have ht:List.drop ((dS s 0:Int)+1).toNat (List.take ((dS s 0:Int)+1+(dS s (dS s 0+1):Int)).toNat s)=(s.drop (dS s 0+1)).take (dS s (dS s 0+1)):=by
     grind[List.drop_take,dS]
    simp only[ht,Int.toNat_natCast];have hl1:(s.take (dS s 0)).length≤60:=(by grind);have hl2:((s.drop (dS s 0+1)).take (dS s (dS s 0+1))).length≤60:=(by grind);refine aB (by omega) (aB (by omega) (aB (by omega) (aB (by omega) (aB (by omega) (aB (by omega) (aB (by omega) (aB (by omega) ?_)))))));grind[aWQ,dS]
  ·have I:¬(dS s 0<s.length∧s.getD (dS s 0) 0=46):=J;rw[if_neg (fun h=>I ⟨by omega,h.2⟩),if_neg J];grind[Int.toNat_natCast,aWQ,dS]
theorem p2m(n m:Nat)(h:n≤m):2^n≤2^m:=Nat.pow_le_pow_right xAa h
theorem aWS(m:Nat){x n:Nat}(h:x<2^n)(I:n≤m):x<2^m:=Nat.lt_of_lt_of_le h (p2m n m I)
theorem aPC(m:Nat){x n:Nat}(h:x≤2^n)(I:n<m):x<2^m:=Nat.lt_of_le_of_lt h (Nat.pow_lt_pow_right xAa I)
theorem aSF(k:Nat){x n:Nat}(h:x<2^n)(I:n≤64*k):x<18446744073709551616^k:=by grind[uH,aWS]
abbrev Dy:Type:=Bool×List Nat×Int×Unit
def d0:Dy:=(false,[],0,())
def aCy(d:Dy):Bool :=
 if d.2.1.length=0 then !d.1&&decide (d.2.2.1=0)
 else decide (d.2.1.length≤64∧Nrm d.2.1)&&decide (d.2.1.getD 0 0%2=1)&&decide (-1048576≤d.2.2.1)&&decide (d.2.2.1≤1048576)
theorem aYN(x:Nat):x&&&1=x%2:=Nat.and_two_pow_sub_one_eq_mod x 1
theorem aNf(d:Dy):pF none d=some (aCy d):=by
 unfold pF aCy;by_cases h:d.2.1.length=0
 ·simp_all
 ·rw[if_neg (by omega),if_neg h];refine aB (fun _=>by omega) ?_;rw[aYN];rfl
theorem aQX(e:Int):gJ none false e=some (.inr (e,())):=rfl
theorem aNg{b:Bool}{e:Int}(h:b=true):gJ none b e=some (.inl ()):=by rw[h]; rfl
theorem aJL{b:Bool}{e:Int}(h:b=false):gJ none b e=some (.inr (e,())):=by rw[h]; rfl
def aQY(neg:Bool)(m:Nat)(e:Int):Dy⊕qq :=
 if m=0 then .inl d0
 else if 64<(lb (m/2^tzn m)).length then .inr (2,())
 else if ¬(e≤1048576∧ -1048576-(tzn m:Int)≤e) then .inr (3,())
 else if 1048576<e+(tzn m:Int) then .inr (3,())
 else .inl (neg,lb (m/2^tzn m),e+(tzn m:Int),())
theorem bAL{m k:Nat}(I:m≠0)(h:m<18446744073709551616^k):tzn m<64*k:=by
 obtain⟨q,hq⟩:=wX I;rw[uH] at h;refine(Nat.pow_lt_pow_iff_right (show 1<2 by decide)).1 (Nat.lt_of_le_of_lt ?_ h);grind
theorem bAM(neg:Bool)(m:List Nat)(e:Int)(lm:Lm m)(nm:Nrm m)(sm:m.length≤1099511627776):pE none neg m e=some (aQY neg (nv m) e):=by
 unfold pE aQY;by_cases Y:m.length=0
 ·have I:m= []:=List.eq_nil_of_length_eq_zero Y;subst I;rfl
 ·have I:nv m≠0:=by have:=aCt nm (fun e=>Y (by grind)); omega
  have hz:cQ m=(tzn (nv m):Int):=by grind[cQ]
  have hzl:=bAL I (jG lm);have N:gH m (tzn (nv m):Int)=lb (nv m/2^tzn (nv m)):=by rfl
  rw[if_neg (by omega),if_neg I,hz,N];refine aB sm (aB ⟨sm,by omega⟩ ?_);by_cases U:64<(lb (nv m/2^tzn (nv m))).length
  ·rw[aJL (by grind),if_pos U]; rfl
  ·rw[aNg (by grind),if_neg U];simp only[Option.bind_some];by_cases J:e≤1048576
   ·rw[if_pos J];refine aB (by omega) ?_;by_cases h3: -1048576-(tzn (nv m):Int)≤e
    ·rw[aNg (by grind),if_neg (by omega)];simp only[Option.bind_some];unfold lT;rw[hz,N];refine aB (by omega) ?_;by_cases h4:e+(tzn (nv m):Int)≤1048576
     ·rw[aNg (by grind),if_neg (by omega)];simp only[Option.bind_some];exact aB (by omega) rfl
     simp_all[aJL,if_pos]
    simp_all[aJL,if_pos]
   ·rw[if_neg J,aQX,if_pos (by omega)]; rfl
def told{α:Type}(z:α):α⊕qq→α×Int×Unit
 | .inl r=>(r,0,())
 | .inr p=>(z,p.1,())
def aKF(neg:Bool)(m:Nat)(e:Int):Dy×Int×Unit:=told d0 (aQY neg m e)
theorem aWT(neg:Bool)(m:List Nat)(e:Int)(lm:Lm m)(N:Nrm m)(J:m.length≤1099511627776):gY none neg m e=some (aKF neg (nv m) e):=by
 have I:nJ none neg m e=some (aQY neg (nv m) e):=by
  unfold nJ;rw[bAM neg m e lm N J];simp only[Option.bind_some];cases aQY neg (nv m) e<;>rfl
 have U:dO none neg m e=some (aKF neg (nv m) e):=by
  unfold dO aKF;rw[I];simp only[Option.bind_some];cases aQY neg (nv m) e<;>rfl
 grind[gY]
theorem aZr{x k:Nat}(a:List Nat)(la:Lm a)(h:x≤nv a)(I:a.length≤k):(lb x).length≤k :=
 Nat.le_trans (nV.2 (Nat.lt_of_le_of_lt h (jG la))) I
theorem aWU{b i:Nat}(h:b<18446744073709551616):(lb (b^i)).length≤i+1 :=
 nV.2 (Nat.lt_of_le_of_lt (Nat.pow_le_pow_left (Nat.le_of_lt h) i) (Nat.pow_lt_pow_right xAa (by omega)))
theorem aPD(b n:Nat)(hb:b<18446744073709551616)(U:n≤100000):mV none b (n:Int)=some (lb (b^n)):=by
 unfold mV;refine bF (oA (step:=fun d:qd×Int=>iV none (n:Int) b d.1 d.2) (I:=fun d=>0≤d.2∧d.2≤n∧d.1=lb (b^d.2.toNat)) (fun d=>((n:Int)-d.2).toNat) (fun _=>lb (b^n)) ?_ ([1],0) ⟨by simp,by simp,?_⟩) rfl
 ·rintro⟨m,i⟩ ⟨i0,i1,J⟩;have J:m=lb (b^i.toNat):=J;have i0:0≤i:=i0;have i1:i≤n:=i1;show (∃d',iV none (n:Int) b m i=_∧_)∨iV none (n:Int) b m i=_;unfold iV;have N:=aWU (i:=i.toNat) hb;by_cases hi:i<n
  ·left
   have ht:dD m [b]=lb (b^(i+1).toNat):=by
    unfold dD;rw[J,nR,show (i+1).toNat=i.toNat+1 from by omega,Nat.pow_succ];rfl
   refine⟨(lb (b^(i+1).toNat),i+1),?_,⟨by (try simp only); omega,by (try simp only); omega,rfl⟩,by (try simp only); omega,rfl⟩;rw[if_pos hi];refine aB ⟨by show m.length≤_; rw[J]; omega,by show (1:Nat)≤_; decide⟩ (aB (by constructor<;>omega) ?_);rw[ht]
  ·right
   rw[if_neg hi,J,show i.toNat=n from by omega]
 ·show [1]=lb (b^0);rw[Nat.pow_zero,aFH xAa];rw[show 1/18446744073709551616=0 from by decide,sU]
theorem aTW(s:List Nat)(hd:∀c∈s,uB c=true)(hs:s.length≤100000):nL none s=some (lb (pG s)):=by
 unfold nL;refine bF (oA (step:=fun d:qd×Int=>hH none s d.1 d.2) (I:=fun d=>0≤d.2∧d.2≤s.length∧d.1=lb (pG (s.take d.2.toNat))) (fun d=>((s.length:Int)-d.2).toNat) (fun _=>lb (pG s)) ?_ ([],0) ⟨by simp,by simp,?_⟩) rfl
 ·rintro⟨m,i⟩ ⟨i0,i1,J⟩;have J:m=lb (pG (s.take i.toNat)):=J;have i0:0≤i:=i0;have i1:i≤s.length:=i1;show (∃d',hH none s m i=_∧_)∨hH none s m i=_;unfold hH;have hml:m.length≤100001:=by
   rw[J];have Y:=aHR (s:=s.take i.toNat) (fun c hc=>hd c (List.mem_of_mem_take hc));have h2:(s.take i.toNat).length≤100000:=(by rw[List.length_take]; omega);have h3:=aWU (b:=10) (i:=(s.take i.toNat).length) xAa;have h4:=aZr (x:=pG (s.take i.toNat)) (lb (10^(s.take i.toNat).length)) (aCI _) (by rw[nR]; omega) h3;omega
  by_cases hi:i<s.length
  ·left
   have U:i.toNat<s.length:=(by omega);have hg:s.getD i.toNat 0∈s:=(by rw[List.getD_eq_getElem?_getD,List.getElem?_eq_getElem U]; exact List.getElem_mem U);have hc:=hd _ hg;simp only[uB,decide_eq_true_iff] at hc;have N:kV none .u8 (s.getD i.toNat 0) 48=s.getD i.toNat 0-48:=bBG (by omega) hc.1;have hN:sL [s.getD i.toNat 0-48]=lb (s.getD i.toNat 0-48):=by
    show lb (nv [s.getD i.toNat 0-48])=_;simp[nv]
   have ht:jX (dD m [10]) (lb (s.getD i.toNat 0-48))=lb (pG (s.take (i+1).toNat)):=by
    unfold jX dD;rw[J,nR,nR,nR,show (i+1).toNat=i.toNat+1 from by omega,take_succ U,aLp];rfl
   have hT:(dD m [10]).length≤100002:=by
    unfold dD;refine Nat.le_trans (nV (k:=m.length+1).2 ?_) (by omega);rw[J,nR,Nat.pow_succ,← J];have Y:=jG (a:=m) (by rw[J]; exact aCI _);rw[J,nR,← J] at Y;exact Nat.mul_lt_mul'' Y xAa
   refine⟨(lb (pG (s.take (i+1).toNat)),i+1),?_,⟨by (try simp only); omega,by (try simp only); omega,rfl⟩,by (try simp only); omega,by first|rfl|trivial⟩;rw[if_pos hi];simp only[N,hN,ht];refine aB (by constructor<;>omega) (aB ⟨by show m.length≤_; omega,by show (1:Nat)≤_; decide⟩ (aB (by show (1:Nat)≤_; decide) (aB ⟨by show (dD m [10]).length≤_; omega,?_⟩ (aB (by constructor<;>omega) rfl))));show (lb (s.getD i.toNat 0-48)).length≤_;have:=nV (n:=s.getD i.toNat 0-48) (k:=1).2 (by omega);omega
  ·right
   rw[if_neg hi,J,List.take_of_length_le (by omega)]
 ·show []=lb (pG []);rw[show pG []=0 from rfl,sU]
def kA(M:Nat)(e:Int):Dy:=if M=0 then d0 else (false,lb (M/2^tzn M),e+(tzn M:Int),())
theorem aNh{M K:Nat}(I:M≠0)(h:M<2^K):tzn M<K:=by
 obtain⟨q,hq⟩:=wX I;refine(Nat.pow_lt_pow_iff_right (show 1<2 by decide)).1 (Nat.lt_of_le_of_lt ?_ h);grind
theorem aSG{M K:Nat}{e:Int}(J:M<2^K)(Y:K≤4096)(N: -1000000≤e∧e≤1000000):aKF false M e=(kA M e,0,()):=by
 unfold aKF aQY kA;by_cases I:M=0
 ·rw[if_pos I,if_pos I]; rfl
 ·have hz:=aNh I J;have U:(lb (M/2^tzn M)).length≤64:=by
   exact nV.2 (aSF 64 (Nat.lt_of_le_of_lt (Nat.div_le_self _ _) J) (by omega))
  rw[if_neg I,if_neg I,if_neg (by omega),if_neg (by omega),if_neg (by omega)];rfl
theorem aDC{M:Nat}(I:M≠0):M/2^tzn M*2^tzn M=M∧M/2^tzn M%2=1:=by
 obtain⟨q,hq⟩:=wX I;grind[tzn,Nat.mul_div_cancel_left,Nat.two_pow_pos,Nat.mul_comm]
theorem aPE{M K:Nat}{e:Int}(U:M<2^K)(hK:K≤4096)(he: -1000000≤e∧e≤1000000):aCy (kA M e)=true:=by
 unfold kA;by_cases I:M=0
 ·rw[if_pos I]; rfl
 ·have hz:=aNh I U;obtain⟨Y,p2⟩:=aDC I;have J:M/2^tzn M≠0:=by omega
  have hl:(lb (M/2^tzn M)).length≤64:=by
   exact nV.2 (aSF 64 (Nat.lt_of_le_of_lt (Nat.div_le_self _ _) U) (by omega))
  have N:(lb (M/2^tzn M)).length≠0:=fun h=>J (aFI.1 (List.eq_nil_of_length_eq_zero h));have hg:(lb (M/2^tzn M)).getD 0 0%2=1:=by
   rw[nH (aCI _),nR,Nat.pow_zero,Nat.div_one];omega
  rw[if_neg I];unfold aCy;simp only;rw[if_neg N];simp only[Bool.and_eq_true,decide_eq_true_iff];grind[aFJ]
def aYO(r:aWM):Prop:=(∀c∈r.1,uB c=true)∧r.1.length≤60∧ -160≤r.2.1∧r.2.1≤160
theorem aBV:aYO litNo:=⟨(fun c hc=>by cases hc),by decide,by decide,by decide⟩
theorem aNi{s:List Nat}{i:Nat}{all:List Nat}{I:Int}{neg:Bool}(J:∀c∈all,uB c=true)(N:all.length≤60)(U: -60≤I∧I≤0):aYO (aJK s i all I neg):=by
 unfold aJK;split
 ·exact aBV
 ·split
  ·exact aBV
  ·refine⟨J,N,?_,?_⟩
   all_goals grind
theorem aQZ{s:List Nat}{i:Nat}{all:List Nat}{I:Int}(J:∀c∈all,uB c=true)(N:all.length≤60)(U: -60≤I∧I≤0):aYO (aTV s i all I):=by
 unfold aTV;split
 ·grind[aNi]
 ·exact⟨J,N,by grind,by grind⟩
theorem aDD(s:List Nat):aYO (rV s):=by
 have I:=aAH s 0;have J:=aAH s (dS s 0+1);have a0:=aJJ s 0;rw[List.drop_zero] at a0;have a1:=aJJ s (dS s 0+1);grind[rV,aBV,aQZ,List.length_take]
def aPF(s:List Nat):Nat:=pG (rV s).1*10^(max (rV s).2.1 0).toNat
def aNj(s:List Nat):Nat:=10^(max (-(rV s).2.1) 0).toNat
theorem aBW(n:Nat):10^n≤2^(4*n):=by
 simp_all[Nat.pow_mul,Nat.pow_le_pow_left]
theorem aSH(s:List Nat):aPF s<2^900:=by
 obtain⟨I,J,U,N⟩:=aDD s;have a:=aHR I;have b:=aBW (rV s).1.length;have c:=aBW (max (rV s).2.1 0).toNat;unfold aPF;have d:=Nat.mul_lt_mul_of_lt_of_le (Nat.lt_of_lt_of_le a b) c (Nat.pow_pos xAa);rw[← Nat.pow_add] at d;exact aWS 900 d (by omega)
theorem aSI(s:List Nat):aNj s<2^900:=by
 obtain⟨I,J,U,N⟩:=aDD s;have c:=aBW (max (-(rV s).2.1) 0).toNat;unfold aNj;exact aPC 900 c (by omega)
theorem aPG(s:List Nat):aNj s≠0:=by
 grind[aNj,Nat.pow_pos,Max.max,rV]
def bAN(s:List Nat):List Nat×List Nat×Bool×Unit:=if (rV s).2.2.1=true then (lb (aPF s),lb (aNj s),true,()) else ([],[],false,())
theorem aWV{x:Nat}(h:x<2^900):(lb x).length≤15:=by
 exact nV.2 (aSF 15 h xAa)
theorem aWW(s:List Nat)(Y:s.length≤9223372036854775807):pV none s=some (bAN s):=by
 obtain⟨J,h2,h3,h4⟩:=aDD s;unfold pV bAN;refine bF (aWR s Y) ?_;by_cases h:(rV s).2.2.1=true
 ·rw[if_neg (fun hn=>hn h),if_pos h];have U:=aTW (rV s).1 J (by omega);have N:=aPD 10 (max (rV s).2.1 0).toNat xAa (by omega);have I:=aPD 10 (max (-(rV s).2.1) 0).toNat xAa (by omega);rw[show (((max (rV s).2.1 0).toNat:Nat):Int)=max (rV s).2.1 0 from by omega] at N;rw[show (((max (-(rV s).2.1) 0).toNat:Nat):Int)=max (0-(rV s).2.1) 0 from by omega] at I;have l1:(lb (pG (rV s).1)).length≤15:=aWV (by
   have a:=aHR J;have b:=aBW (rV s).1.length;exact aWS 900 (Nat.lt_of_lt_of_le a b) (by omega))
  have l2:(lb (10^(max (rV s).2.1 0).toNat)).length≤15:=aWV (aPC 900 (aBW _) (by omega));refine bF U (bF N (aB ⟨?_,?_⟩ (aB (by omega) (bF I ?_))))
  ·omega
  ·omega
  ·have ht:dD (lb (pG (rV s).1)) (lb (10^(max (rV s).2.1 0).toNat))=lb (aPF s):=by
    grind[dD,aPF,nR]
   rw[ht]; rfl
 simp_all
def Tot{α:Type}(o:Option α)(P:α→Prop):Prop:=∃r,o=some r∧P r
namespace Tot
variable {α β:Type} {P:α→Prop} {o:Option α} {R:β→Prop}
theorem ret{r:α}(h:P r):Tot (some r) P:=⟨r,rfl,h⟩
theorem of{r:α}(e:o=some r)(h:P r):Tot o P:=⟨r,e,h⟩
theorem ck{p:Prop}[Decidable p](hp:p)(h:Tot o P):Tot (Go.Vc.ck p o) P:=by grind[aUT]
theorem bind{f:α→Option β}(h:Tot o P)(I:∀r,P r→Tot (f r) R):Tot (o.bind f) R:=by
 obtain⟨r,rfl,J⟩:=h;simp_all
theorem ite{p:Prop}{i:Decidable p}{x y:Option α}(I:p→Tot x P)(J:¬p→Tot y P):Tot (@_root_.ite _ p i x y) P:=by
 grind
theorem mono{Q:α→Prop}(h:Tot o P)(hq:∀r,P r→Q r):Tot o Q:=by
 obtain⟨r,e,I⟩:=h;exact⟨r,e,hq r I⟩
theorem get(h:Tot o P)(z:α):P (o.getD z):=by
 obtain⟨r,rfl,I⟩:=h;exact I
end Tot
theorem aFY{d:Dy}(h:aCy d=true):d.2.1.length≤64∧Nrm d.2.1∧ -1048576≤d.2.2.1∧d.2.2.1≤1048576:=by
 grind[aCy,List.eq_nil_of_length_eq_zero,aMC]
end
end Nu
end Go.Proofs
namespace Go.Proofs
open Go.Vc
set_option maxRecDepth 20000
namespace Nu
noncomputable section
set_option maxHeartbeats 4000000
attribute [-go_sem] Ex.kind Ex.text Ex.l
@[go_sem] theorem bCM(k:Int)(t:List Nat)(l:List Ex):Ex.l (.mk k t l)=l:=rfl
@[go_sem] theorem bCN(k:Int)(t:List Nat)(l:List Ex):Ex.kind (.mk k t l)=k:=rfl
@[go_sem] theorem bCO(k:Int)(t:List Nat)(l:List Ex):Ex.text (.mk k t l)=t:=rfl
def eE(F:Md)(g:Ex→Int→Int→Int→Option qv)(e_0:Ex)(U:Int)(I:Int)(N:Int)(J:Int):Option ((Int×Int×Int)⊕qv) :=
 if I<(((e_0.l).length:Nat):Int) then ck (0≤I∧I<(((e_0.l).length:Nat):Int)) (ck (I64 (U+(1:Int))) ((g ((e_0.l).getD (I.toNat) (Ex.mk 0 [] [])) (U+(1:Int)) N J).bind (fun Y=>ck (I64 (I+(1:Int))) (some (.inl ((I+(1:Int)),Y.1,Y.2)))))) else some (.inr (N,J))
def iN(F:Md)(g:Ex→Int→Int→Int→Option qv)(U:Ex)(J:Int)(I:Int)(N:Int):Option qv :=
 ck (I64 (I+(1:Int))) (if ((60:Int)<(I+(1:Int)))∨((30:Int)<J) then some ((I+(1:Int)),(max N J)) else (dC F (fun d:Int×Int×Int=>eE F g U J d.1 d.2.1 d.2.2) ((0:Int),(I+(1:Int)),(max N J))).bind (fun e=>some (e.1,e.2)))
@[go_sem]def nM(g:Ex→Int→Int→Int→Option qv):iJ where
 D:=Ex×Int×Int×Int×qv
 av:=fun d=>[.val .expr d.1,.val qf d.2.1,.ptr 0 [],.ptr 1 [],.ptr 2 []]
 hp:=fun d=>[.box 1 (.val qf d.2.2.1),.box 1 (.val qf d.2.2.2.1),.box 1 (.fn 115 [] [0,1,2])]
 m:=3
 pre:=fun d=>g d.1 d.2.1 d.2.2.1 d.2.2.2.1=some d.2.2.2.2
 out:=fun d=>(fun r:qv=>.ret (.tup []) [.box 1 (.val qf r.1),.box 1 (.val qf r.2),.box 1 (.fn 115 [] [0,1,2])]) d.2.2.2.2
@[go_sem]def zF(g:Ex→Int→Int→Int→Option qv)(vs:List AV)(h:List Vc.Obj):Hit:=mkH (g (kL h vs 0 .expr) (kL h vs 1 qf) (sG h (aDn vs 2) qf) (sG h (aDn vs 3) qf)) ((0:Int),(0:Int)) fun r=>⟨(nM g),[(aDn vs 2),(aDn vs 3),(aDn vs 4)],((kL h vs 0 .expr),(kL h vs 1 qf),(sG h (aDn vs 2) qf),(sG h (aDn vs 3) qf),r)⟩
def zG(F:Md)(g:Ex→Int→Int→Int→Option qv):iJ where
 D:=Ex×Int×Int×Int×qv
 av:=fun d=>[.val .expr d.1,.val qf d.2.1,.ptr 0 [],.ptr 1 [],.ptr 2 []]
 hp:=fun d=>[.box 1 (.val qf d.2.2.1),.box 1 (.val qf d.2.2.2.1),.box 1 (.fn 115 [] [0,1,2])]
 m:=3
 pre:=fun d=>iN F g d.1 d.2.1 d.2.2.1 d.2.2.2.1=some d.2.2.2.2
 out:=fun d=>(fun r:qv=>.ret (.tup []) [.box 1 (.val qf r.1),.box 1 (.val qf r.2),.box 1 (.fn 115 [] [0,1,2])]) d.2.2.2.2
def aAW(F:Md)(g:Ex→Int→Int→Int→Option qv):PlR:=⟨[(0,.B [1,2,3,4,5]),(1,.B [1,2,3,4,5]),(2,.B [1,2,4,5]),(3,.A [1,4,5,19]),(4,.A [1,4,21,22,23]),(5,.A [1,4,21,22,23,24]),(6,.B [1,4,8,21,22,23]),(7,.P [1,4,21,22,23] []),(8,.A [1,4,21,22,23])],[],[(115,(zF g))]⟩
abbrev aJM(F:Md)(g:Ex→Int→Int→Int→Option qv):List (FuncId×aF):=[]
theorem aJN(F:Md)(g:Ex→Int→Int→Int→Option qv)(I:GOK Tryz.prog GL 115 (nM g)):bU Tryz.prog GL (aJM F g):=.nil
attribute [go_sem] aAW zG
theorem aFZ(F:Md)(g:Ex→Int→Int→Int→Option qv)(hg:GOK Tryz.prog GL 115 (nM g)):GOK Tryz.prog GL 115 (zG F g):=by
 refine aAm (bQ (aJN F g hg)) mix Tryz.func115 rfl xC (fun _=>Nat.le_of_ble_eq_true rfl) (aAW F g) (fun c0 w0 d hw hw2 h hV=>?_) (.cons (fun _ _=>hg) xC (.nil));obtain⟨(e_0:Ex),(J:Int),(o0_5:Int),(U:Int),r⟩:=d;have hF:=hV.fr;replace h:=aAn (show iN F g e_0 J o0_5 U=some r from h);simp only[aBx,List.map_cons,List.map_nil,go_sem];unfold iN at h;refine aD h fun g0 h=>?_;try simp only[I64,I32] at g0
 repeat (refine⟨zAB,?_⟩)
 refine⟨fun hc=>?_,fun hc=>?_⟩
 ·replace h:=kJ hc h;obtain rfl:=eG h;refine nU [0,1,2] rfl rfl (yaC ?_);refine oM hF [] rfl rfl rfl rfl rfl rfl ?_;exact zaC
 ·replace h:=kK hc h;refine aHI [0,1,2] rfl rfl (yaA ?_);refine bZ hV (D:=Int×Int×Int) [1,21,22] (fun d=>[(4,.ptr 2 []),(23,.val qf d.1)]) (fun d=>[.inr (.box 1 (.val qf d.2.1)),.inr (.box 1 (.val qf d.2.2)),.inr (.box 1 (.fn 115 [] [0,1,2]))]) h rfl xAb ?_;rintro⟨I,Y,N⟩ A5 T5 hA5 hE5 h;simp only[go_sem];replace h:sat (eE F g e_0 J I Y N) _:=h;unfold eE at h;refine gF h (fun hc h=>?_) fun hc h=>?_
  ·refine aD h fun g0 h=>(yaE ?_);refine aD h fun g0 h=>?_;(try simp only[I64,I32] at g0);(repeat (refine⟨zAB,?_⟩));refine aW h fun r_20 hv h=>?_;simp only[hv,go_sem];(repeat (refine⟨zAB,?_⟩));refine aD h fun g0 h=>?_;(try simp only[I64,I32] at g0);(repeat (refine⟨zAB,?_⟩));replace h:=hA5 _ (aC h);refine nU [0,1,2] rfl rfl (yaA ?_);exact zaG
  ·replace h:=yaF (hE5 _ (aC h));obtain rfl:=eG h;refine xL (oM hF [] rfl rfl rfl rfl rfl rfl ?_);exact zaC
def fJ(F:Md):Nat→Ex→Int→Int→Int→Option qv
 | 0=>fun _ _ _ _=>none
 | n+1=>iN F (fJ F n)
def uI(F:Md)(n:Nat):iJ where
 D:=Ex×Int×Int×Int×qv
 av:=fun d=>[.val .expr d.1,.val qf d.2.1,.ptr 0 [],.ptr 1 [],.ptr 2 []]
 hp:=fun d=>[.box 1 (.val qf d.2.2.1),.box 1 (.val qf d.2.2.2.1),.box 1 (.fn 115 [] [0,1,2])]
 m:=3
 pre:=fun d=>fJ F n d.1 d.2.1 d.2.2.1 d.2.2.2.1=some d.2.2.2.2
 out:=fun d=>(fun r:qv=>.ret (.tup []) [.box 1 (.val qf r.1),.box 1 (.val qf r.2),.box 1 (.fn 115 [] [0,1,2])]) d.2.2.2.2
@[go_sem]def aAX(F:Md)(n:Nat)(vs:List AV)(h:List Vc.Obj):Hit:=mkH (fJ F n (kL h vs 0 .expr) (kL h vs 1 qf) (sG h (aDn vs 2) qf) (sG h (aDn vs 3) qf)) ((0:Int),(0:Int)) fun r=>⟨(uI F n),[(aDn vs 2),(aDn vs 3),(aDn vs 4)],((kL h vs 0 .expr),(kL h vs 1 qf),(sG h (aDn vs 2) qf),(sG h (aDn vs 3) qf),r)⟩
theorem aAY(F:Md):∀n,GOK Tryz.prog GL 115 (uI F n)
 | 0=>fun _ _ _ _ hp _=>absurd (show none=some _ from hp) (by simp)
 | n+1=>aFZ F _ (aAY F n)
attribute [go_sem] uI
def rJ(F:Md)(J:Ex):Option (Int×qq) :=
 (fJ F 64 J (1:Int) (0:Int) (0:Int)).bind (fun I=>some (I.1,I.2,()))
def aCV(F:Md):PlR:=⟨[(0,.B [1,2,3]),(1,.B [1,2,3,4]),(2,.B [1,2,3,4]),(3,.P [2,3] []),(4,.stop)],[],[(115,(aAX F 64))]⟩
def aEC:Ty:=.pair .expr .unit
def tC(F:Md):aF:=mSpec aEC (.tup (.pair qf qn)) (fun x=>rJ F x.1)
abbrev aNk(F:Md):List (FuncId×aF):=[]
theorem aNl(F:Md):bU Tryz.prog GL (aNk F):=.nil
attribute [go_sem] aEC aCV
theorem aKG(F:Md):FOK Tryz.prog GL 61 (tC F):=by
 refine cF (bQ (aNl F)) mix Tryz.func61 rfl xC xAa (aCV F) (fun w0 S x Θ N h hV=>?_) (.cons (fun _ _=>(aAY F 64)) xC (.nil));have hF:=hV.fr;obtain⟨(J:Ex),u⟩:=x;simp only[cC,go_sem];replace h:sat (rJ F J) _:=h;unfold rJ at h;refine aW h fun I hv h=>?_;simp only[hv,go_sem];repeat (refine⟨zAB,?_⟩)
 obtain⟨q0,h,hq⟩:=h;refine aBy hF [2,3] [(2,.ptr 1 []),(3,.ptr 2 [])] [.box 3 (.val .expr J),.box 1 (.val qf I.1),.box 1 (.val qf I.2),.box 1 (.fn 115 [] [1,2,3])] xAa ?_ ?_
 ·simp only[go_sem];unfold anyS;intro i hi;have hi:i=0∨i=1:=by revert hi; revert i; decide
  rcases hi with rfl|rfl
  ·simp only[go_sem];(repeat (refine⟨zAA,?_⟩));unfold anyS;intro i hi;have hi:i=1∨i=2:=(by revert hi; revert i; decide);rcases hi with rfl|rfl
   ·simp only[go_sem];(repeat (refine⟨zAA,?_⟩));unfold anyS;intro i hi;have hi:i=2:=(by revert hi; revert i; decide);exact zaH
   ·simp only[go_sem];(repeat (refine⟨zAA,?_⟩));unfold anyS;intro i hi;have hi:i=1:=(by revert hi; revert i; decide);exact zaH
  ·simp only[go_sem];(repeat (refine⟨zAA,?_⟩));unfold anyS;intro i hi;have hi:i=0:=(by revert hi; revert i; decide);subst hi;simp only[go_sem];(repeat (refine⟨zAA,?_⟩));unfold anyS;intro i hi;have hi:i=2:=(by revert hi; revert i; decide);exact zaH
 first|replace h:=aVg h hq|replace h:=aVg (Θ:=(· = r)) h hq
 refine aZT hV (yaA ?_);exact aQ hV [.cell 2 3,.cell 3 3] rfl rfl rfl (aC h) xAd
attribute [go_sem] tC
def pW(F:Md)(J:Ex):Option Bool :=
 (rJ F J).bind (fun I=>some ((decide (I.1≤(60:Int)))&&(decide (I.2.1≤(30:Int)))))
def aED:PlR:=⟨[(0,.B [1]),(1,.A [3,4]),(2,.A [2])],[],[]⟩
def aGM:Ty:=.pair .expr .unit
def vK(F:Md):aF:=mSpec aGM (.one .bool) (fun x=>pW F x.1)
abbrev aGN(F:Md):List (FuncId×aF):=[(61,(tC F))]
theorem aPH(F:Md):bU Tryz.prog GL (aGN F):=.cons (aKG F) xC (.nil)
attribute [go_sem] aGM aED
theorem aNm(F:Md):FOK Tryz.prog GL 28 (vK F):=by
 refine cF (bQ (aPH F)) mix Tryz.func28 rfl xC xAa aED (fun w0 S x Θ N h hV=>?_);obtain⟨(I:Ex),u⟩:=x;simp only[cC,go_sem];replace h:sat (pW F I) _:=h;unfold pW at h;refine aW h fun J hv h=>?_;try simp only[hv,go_sem]
 exact zaD
attribute [go_sem] vK
def hZ(F:Md)(I:Bool):Option (Int) :=
 if I=true then some (1:Int) else some (-1:Int)
def iA(F:Md)(I:Int)(J:Bool):Option (Int) :=
 if J=true then some (2:Int) else if I=(10:Int) then hZ F (decide (I=(10:Int))) else if I=(11:Int) then hZ F (decide (I=(11:Int))) else if I=(12:Int) then hZ F (decide (I=(12:Int))) else hZ F (decide (I=(13:Int)))
def lP(F:Md)(I:Int)(J:Bool):Option (Int) :=
 if J=true then some (0:Int) else if I=(6:Int) then iA F I (decide (I=(6:Int))) else if I=(7:Int) then iA F I (decide (I=(7:Int))) else if I=(8:Int) then iA F I (decide (I=(8:Int))) else iA F I (decide (I=(9:Int)))
def nN(F:Md)(I:Int):Option Int :=
 if I=(1:Int) then lP F I (decide (I=(1:Int))) else lP F I (decide (I=(2:Int)))
@[go_sem]def vL:Ty:=.pair qf .unit
def tD(F:Md):aF:=mSpec vL (.one qf) (fun x=>nN F x.1)
abbrev aEE(F:Md):List (FuncId×aF):=[]
theorem aEF(F:Md):bU Tryz.prog GL (aEE F):=.nil
theorem aKH(F:Md):FOK Tryz.prog GL 62 (tD F):=by
 refine yP (bQ (aEF F)) Tryz.func62 rfl xC xAa fun w0 S x r Y h=>?_;have hF:oY (fr Tryz.prog (EM (aEE F)) S w0 Tryz.f62.ntmps):=⟨bQ (aEF F),mix⟩;obtain⟨(I:Int),u⟩:=x;simp only[vL,Ty.wf,aDd] at Y;simp only[cC,vL];try dsimp only at h
 replace h:nN F I=some r:=h;unfold nN at h;refine aK (aP hF [0] (yaA ?_));refine aL (aK (aK (aP hF [3] (yaA ?_))));refine aL (iM (vW (D:=Bool) (fun d=>lP F I d=some r) [3] (fun d=>[(4,.val .bool d)]) (fun d=>[]) ?_ ?_))
 ·refine aK (aP hF [3,4] (yaA ?_));refine aL (cW rfl (fun hc=>?_) (fun hc=>?_))
  ·(try simp only[go_sem] at hc);have h:=pK zAC h;refine dZ (bY (aR (decide (I=(1:Int))) h rfl ?_))
   ·exact zAE
  ·(try simp only[go_sem] at hc);have h:=pL zAC h;refine aP hF [3,4] (yaA ?_);refine bY (aR (decide (I=(2:Int))) h rfl ?_)
   ·exact zAE
 ·rintro U h;try dsimp only at h
  simp only[go_sem];unfold lP at h;refine cW rfl (fun hc=>?_) (fun hc=>?_)
  ·(try simp only[go_sem] at hc);exact zaN
  ·(try simp only[go_sem] at hc);have h:=pL zAC h;refine vW (D:=Bool) (fun d=>iA F I d=some r) [3] (fun d=>[(7,.val .bool d)]) (fun d=>[]) ?_ ?_
   ·refine aK (aP hF [3,7] (yaA ?_));refine aL (cW rfl (fun hc=>?_) (fun hc=>?_))
    ·(try simp only[go_sem] at hc);have h:=pK zAC h;refine dZ (bY (aR (decide (I=(6:Int))) h rfl ?_))
     ·exact zAE
    ·(try simp only[go_sem] at hc);have h:=pL zAC h;refine aK (aP hF [3,7] (yaA ?_));refine aL (cW rfl (fun hc=>?_) (fun hc=>?_))
     ·(try simp only[go_sem] at hc);have h:=pK zAC h;refine dZ (bY (aR (decide (I=(7:Int))) h rfl ?_))
      ·exact zAE
     ·(try simp only[go_sem] at hc);have h:=pL zAC h;refine aK (aP hF [3,7] (yaA ?_));refine aL (cW rfl (fun hc=>?_) (fun hc=>?_))
      ·(try simp only[go_sem] at hc);have h:=pK zAC h;refine dZ (bY (aR (decide (I=(8:Int))) h rfl ?_))
       ·exact zAE
      ·(try simp only[go_sem] at hc);have h:=pL zAC h;refine aP hF [3,7] (yaA ?_);refine bY (aR (decide (I=(9:Int))) h rfl ?_)
       ·exact zAE
   ·rintro N h;(try dsimp only at h);simp only[go_sem];unfold iA at h;refine cW rfl (fun hc=>?_) (fun hc=>?_)
    ·(try simp only[go_sem] at hc);exact zaN
    ·(try simp only[go_sem] at hc);have h:=pL zAC h;refine vW (D:=Bool) (fun d=>hZ F d=some r) [] (fun d=>[(12,.val .bool d)]) (fun d=>[]) ?_ ?_
     ·refine aK (aP hF [3,12] (yaA ?_));refine aL (cW rfl (fun hc=>?_) (fun hc=>?_))
      ·(try simp only[go_sem] at hc);have h:=pK zAC h;refine dZ (bY (aR (decide (I=(10:Int))) h rfl ?_))
       ·exact zAE
      ·(try simp only[go_sem] at hc);have h:=pL zAC h;refine aK (aP hF [3,12] (yaA ?_));refine aL (cW rfl (fun hc=>?_) (fun hc=>?_))
       ·(try simp only[go_sem] at hc);have h:=pK zAC h;refine dZ (bY (aR (decide (I=(11:Int))) h rfl ?_))
        ·exact zAE
       ·(try simp only[go_sem] at hc);have h:=pL zAC h;refine aK (aP hF [3,12] (yaA ?_));refine aL (cW rfl (fun hc=>?_) (fun hc=>?_))
        ·(try simp only[go_sem] at hc);have h:=pK zAC h;refine dZ (bY (aR (decide (I=(12:Int))) h rfl ?_))
         ·exact zAE
        ·(try simp only[go_sem] at hc);have h:=pL zAC h;refine aP hF [12] (yaA ?_);refine bY (aR (decide (I=(13:Int))) h rfl ?_)
         ·exact zAE
     ·rintro J h;(try dsimp only at h);simp only[go_sem];unfold hZ at h;refine cW rfl (fun hc=>?_) (fun hc=>?_)
      ·(try simp only[go_sem] at hc);exact zaN
      ·(try simp only[go_sem] at hc);have h:=pL zAC h;refine dZ (nY (aL (aK (aP hF [2] (yaA ?_)))));obtain rfl:=Option.some.inj h;refine aL (jO (mE hF [.tmp 2] rfl rfl rfl ?_));exact zaI
attribute [go_sem] tD
@[go_sem]def vM:Ty:=.pair .expr (.pair qo .unit)
@[go_sem]def eK(g:Ex→qk→Option (Bool)):aF:=mSpec vM (.one .bool) (fun x=>g x.1 x.2.1)
def mW(F:Md)(g:Ex→qk→Option (Bool))(N:Ex)(I:qk):Option Bool :=
 (g N I).bind (fun J=>some (!J))
def aAZ:PlR:=⟨[(0,.B [1,2]),(1,.A [3])],[],[]⟩
def aBX:Ty:=.pair .expr (.pair (.rp qo) .unit)
def oT(F:Md)(g:Ex→qk→Option (Bool)):aF:=mSpec aBX (.one .bool) (fun x=>mW F g x.1 x.2.1)
abbrev aBY(F:Md)(g:Ex→qk→Option (Bool)):List (FuncId×aF):=[(29,(eK g))]
theorem aJP(F:Md)(g:Ex→qk→Option (Bool))(I:FOK Tryz.prog GL 29 (eK g)):bU Tryz.prog GL (aBY F g):=.cons I xC (.nil)
attribute [go_sem] aBX aAZ
theorem aHk(F:Md)(g:Ex→qk→Option (Bool))(U:FOK Tryz.prog GL 29 (eK g)):FOK Tryz.prog GL 66 (oT F g):=by
 refine cF (bQ (aJP F g U)) mix Tryz.func66 rfl xC xAa aAZ (fun w0 S x Θ Y h hV=>?_);obtain⟨(J:Ex),(I:qk),u⟩:=x;simp only[cC,go_sem];replace h:sat (mW F g J I) _:=h;unfold mW at h;refine aW h fun N hv h=>?_;try simp only[hv,go_sem]
 exact aQ hV [.tmp 3] rfl rfl rfl (aC h) xAd
attribute [go_sem] oT
def aN(F:Md)(g:Ex→qk→Option (Bool))(J:(List Ex))(U:(qk×Unit))(I:Int):Option ((Int)⊕((Unit)⊕Int)) :=
 if I<(J.length:Int) then ck (0≤I∧I<(J.length:Int)) ((mW F g (J.getD (I.toNat) (Ex.mk 0 [] [])) U.1).bind (fun N=>if N=true then some (.inr (.inr I)) else ck (I64 (I+(1:Int))) (some (.inl (I+(1:Int)))))) else some (.inr (.inl ()))
def bE(F:Md)(g:Ex→qk→Option (Bool))(J:(List Ex))(I:(qk×Unit)):Option Int :=
 (dC F (fun d:Int=>aN F g J I d) (0:Int)).bind (fun e=>match e with|(.inl e)=>some (-1:Int)|(.inr e)=>some e)
def dT:PlR:=⟨[(0,.A [0,1]),(1,.A [0,1,7,8]),(2,.A [0,1,7,8,9]),(3,.A [0,1,5,7,8]),(4,.A [0,1,5,7,8,16]),(5,.A [4]),(6,.A [0,1,7,8]),(7,.A [4])],[],[]⟩
def dV:Ty:=.pair (.sl .expr) (.pair (.clo 66 (.pair (.rp qo) .unit)) .unit)
def bM(F:Md)(g:Ex→qk→Option (Bool)):aF:=mSpec dV (.one qf) (fun x=>bE F g x.1 x.2.1)
abbrev dW(F:Md)(g:Ex→qk→Option (Bool)):List (FuncId×aF):=[(66,(oT F g))]
theorem jF(F:Md)(g:Ex→qk→Option (Bool))(I:FOK Tryz.prog GL 29 (eK g)):bU Tryz.prog GL (dW F g):=.cons (aHk F g I) xC (.nil)
attribute [go_sem] dV dT
theorem iW(F:Md)(g:Ex→qk→Option (Bool))(hg:FOK Tryz.prog GL 29 (eK g)):FOK Tryz.prog GL 116 (bM F g):=by
 refine cF (bQ (jF F g hg)) mix Tryz.func116 rfl xC xAa dT (fun w0 S x Θ hw h hV=>?_);obtain⟨(U:(List Ex)),(N:(qk×Unit)),u⟩:=x;simp only[cC,go_sem];replace h:sat (bE F g U N) _:=h;unfold bE at h;refine bZ hV (D:=Int) [0,1,7] (fun d=>[(8,.val qf d)]) (fun d=>[]) h rfl xAb ?_;rintro I A2 T2 Y J h;simp only[go_sem];replace h:sat (aN F g U N I) _:=h;unfold aN at h;refine gF h (fun hc h=>?_) fun hc h=>?_
 ·refine aZ h fun g0 h=>?_;refine aW h fun v_27 hv h=>?_;try simp only[hv,go_sem]
  refine aZa h (fun hc h=>?_) fun hc h=>?_
  ·replace h:=yaF (J _ (aC h));exact zaB
  ·refine aZ h fun g0 h=>?_;replace h:=Y _ (aC h);exact zaG
 ·replace h:=yaF (J _ (aC h));exact zaB
attribute [go_sem] bM
def aO(F:Md)(g:Ex→qk→Option (Bool))(J:(List Ex))(I:(qk×Unit)):Option Bool :=
 (bE F g J I).bind (fun N=>some (decide ((0:Int)≤N)))
def dF:PlR:=⟨[(0,.A [0,1]),(1,.A [4])],[],[]⟩
def dJ:Ty:=.pair (.sl .expr) (.pair (.clo 66 (.pair (.rp qo) .unit)) .unit)
def bJ(F:Md)(g:Ex→qk→Option (Bool)):aF:=mSpec dJ (.one .bool) (fun x=>aO F g x.1 x.2.1)
abbrev dK(F:Md)(g:Ex→qk→Option (Bool)):List (FuncId×aF):=[(116,(bM F g))]
theorem iH(F:Md)(g:Ex→qk→Option (Bool))(I:FOK Tryz.prog GL 29 (eK g)):bU Tryz.prog GL (dK F g):=.cons (iW F g I) xC (.nil)
attribute [go_sem] dJ dF
theorem iC(F:Md)(g:Ex→qk→Option (Bool))(U:FOK Tryz.prog GL 29 (eK g)):FOK Tryz.prog GL 65 (bJ F g):=by
 refine cF (bQ (iH F g U)) mix Tryz.func65 rfl xC xAa dF (fun w0 S x Θ Y h hV=>?_);obtain⟨(J:(List Ex)),(I:(qk×Unit)),u⟩:=x;simp only[cC,go_sem];replace h:sat (aO F g J I) _:=h;unfold aO at h;refine aW h fun N hv h=>?_;try simp only[hv,go_sem]
 exact zaB
attribute [go_sem] bJ
def kQ(F:Md)(g:Ex→qk→Option (Bool))(I:Ex)(names_1:qk):Option Bool :=
 (nN F (I.kind)).bind (fun J=>if ¬(J=(((I.l).length:Nat):Int)) then some false else if (I.kind)=(1:Int) then (sM F (I.text)).bind (fun N=>some N) else if (I.kind)=(2:Int) then ck (¬((I.text)=(eI ⟨#[116]⟩))→((cK F names_1 (I.text)).isSome=true)) (some ((decide ((I.text)=(eI ⟨#[116]⟩)))||((cK F names_1 (I.text)).getD false))) else ck (((I.text)=(eI ⟨#[]⟩))→((aO F g (I.l) (names_1,())).isSome=true)) (some ((decide ((I.text)=(eI ⟨#[]⟩)))&&(!((aO F g (I.l) (names_1,())).getD false)))))
def aCW:PlR:=⟨[(0,.B [2,3]),(1,.A [2,3,11]),(2,.A [4]),(3,.A [2,3,13]),(4,.A [2,3,13,14]),(5,.A [4]),(6,.A [2,3,19]),(7,.A [4]),(8,.stop)],[],[]⟩
abbrev rK(F:Md)(g:Ex→qk→Option (Bool)):List (FuncId×aF):=[(65,(bJ F g)),(62,(tD F)),(63,(xT F)),(64,(fS F))]
theorem aNn(F:Md)(g:Ex→qk→Option (Bool))(I:FOK Tryz.prog GL 29 (eK g)):bU Tryz.prog GL (rK F g):=.cons (iC F g I) xC (.cons (aKH F) xC (.cons (aPA F) xC (.cons (xD F) xC (.nil))))
attribute [go_sem] aCW
theorem aJQ(F:Md)(g:Ex→qk→Option (Bool))(U:FOK Tryz.prog GL 29 (eK g)):FOK Tryz.prog GL 29 (mSpec vM (.one .bool) (fun x=>kQ F g x.1 x.2.1)):=by
 refine cF (bQ (aNn F g U)) mix Tryz.func29 rfl xC xAa aCW (fun w0 S x Θ Y h hV=>?_);obtain⟨(I:Ex),(names_1:qk),u⟩:=x;simp only[cC,go_sem];replace h:sat (kQ F g I names_1) _:=h;unfold kQ at h;refine aW h fun J hv h=>?_;try simp only[hv,go_sem]
 refine cY h (fun hc h=>?_) fun hc h=>?_
 ·exact aQ hV [.tmp 4] rfl rfl rfl (aC h) xAd
 ·refine cY h (fun hc h=>?_) fun hc h=>?_
  ·refine aW h fun N hv h=>?_;(try simp only[hv,go_sem]);exact zaB
  ·refine cY h (fun hc h=>?_) fun hc h=>?_
   ·refine aD h fun g0 h=>?_;exact zaM
   ·refine tT 1 rfl (yaA ?_);refine jT hV [4] (yaA ?_);refine aD h fun g0 h=>?_;exact zaM
def lH(F:Md):Nat→Ex→qk→Option (Bool)
 | 0=>fun _ _=>none
 | n+1=>kQ F (lH F n)
def tE(F:Md)(n:Nat):aF:=mSpec vM (.one .bool) (fun x=>lH F n x.1 x.2.1)
theorem aCX(F:Md):∀n,FOK Tryz.prog GL 29 (tE F n)
 | 0=>fun _ _ _ _ _ _ _ hp=>Bool.noConfusion (show false=true from hp)
 | n+1=>aJQ F _ (aCX F n)
attribute [go_sem] tE
def mx(l:List Nat):Nat:=l.foldr max 0
theorem aYP(l:List Nat)(b:Nat):mx (l++ [b])=max (mx l) b:=by
 induction l with
 | nil=>simp[mx]
 | cons a r I =>
  simp only[mx,List.cons_append,List.foldr_cons] at I ⊢;rw[I,Nat.max_assoc]
theorem aHS{l:List Ex}{k:Nat}(h:k<l.length):l.take (k+1)=l.take k++ [l.getD k (Ex.mk 0 [] [])]:=by
 simp_all
theorem aPI{l:List Ex}{k:Nat}(h:k<l.length):l.getD k (Ex.mk 0 [] [])∈l:=by
 simp_all
def uC(f:Ex→Nat)(l:List Ex):Nat:=(l.map f).sum
def mxN(f:Ex→Nat)(l:List Ex):Nat:=mx (l.map f)
theorem aCu(f:Ex→Nat){l:List Ex}{k:Nat}(h:k<l.length):uC f (l.take (k+1))=uC f (l.take k)+f (l.getD k (Ex.mk 0 [] [])):=by
 grind[aHS,uC]
theorem aWX(f:Ex→Nat){l:List Ex}{k:Nat}(h:k<l.length):mxN f (l.take (k+1))=max (mxN f (l.take k)) (f (l.getD k (Ex.mk 0 [] []))):=by
 rw[aHS h,mxN,List.map_append]; exact aYP _ _
theorem aYQ(f:Ex→Nat)(l:List Ex)(k:Nat):uC f (l.take k)≤uC f l:=by
 have:uC f l=uC f (l.take k++l.drop k):=by simp_all
 rw[this,uC,uC,List.map_append,List.sum_append];omega
theorem aPJ(f:Ex→Nat){l:List Ex}{k:Nat}(h:k<l.length):uC f (l.take k)+f (l.getD k (Ex.mk 0 [] []))≤uC f l:=by
 rw[← aCu f h]; exact aYQ f l _
theorem aQ0(f:Ex→Nat)(l:List Ex):uC f (l.take 0)=0:=by rfl
theorem bBH(f:Ex→Nat)(l:List Ex):mxN f (l.take 0)=0:=by rfl
theorem aLr{l:List Ex}{k:Nat}(h:l.length≤k):l.take k=l:=List.take_of_length_le h
def fits:Nat→Ex→Prop
 | 0,_=>False
 | n+1,e=>e.text.length≤100∧e.l.length≤1000∧ ∀x∈e.l,fits n x
def nd:Nat→Ex→Nat
 | 0,_=>0
 | n+1,e=>1+uC (nd n) e.l
def ht:Nat→Ex→Nat
 | 0,_=>0
 | n+1,e=>1+mxN (ht n) e.l
theorem aQ1{f:Ex→Nat}{b:Nat}(h:∀x,f x≤b):∀l:List Ex,mxN f l≤b
 | []=>by simp[mxN,mx]
 | x::r=>by
  have I:=h x;have J:=aQ1 h r;have:mxN f (x::r)=max (f x) (mxN f r):=rfl;omega
theorem aZs:∀(n:Nat) (e:Ex),ht n e≤n
 | 0,e=>Nat.le_refl 0
 | n+1,e=>by
  have:=aQ1 (aZs n) e.l;have h:ht (n+1) e=1+mxN (ht n) e.l:=rfl;omega
theorem bAO{n:Nat}{e:Ex}(h:fits n e):1≤ht n e:=by
 cases n with
 | zero=>exact h.elim
 | succ n=>have:ht (n+1) e=1+mxN (ht n) e.l:=rfl; omega
theorem aNo{n:Nat}{e:Ex}(h:fits n e):1≤nd n e:=by
 cases n with
 | zero=>exact h.elim
 | succ n=>have:nd (n+1) e=1+uC (nd n) e.l:=rfl; omega
def prt(k:Int):Int:=if k=1∨k=2 then 0 else if 6≤k∧k≤9 then 2 else if 10≤k∧k≤13 then 1 else -1
theorem aYR(k:Int):nN none k=some (prt k):=by
 by_cases h:1≤k∧k≤13
 ·have:k=1∨k=2∨k=3∨k=4∨k=5∨k=6∨k=7∨k=8∨k=9∨k=10∨k=11∨k=12∨k=13:=by omega
  rcases this with h|h|h|h|h|h|h|h|h|h|h|h|h<;>subst h<;>rfl
 ·unfold nN lP iA hZ prt;have e:∀j:Int,1≤j→j≤13→ ¬k=j:=fun j I J N=>h (by omega);rw[if_neg (e 1 xAa xAa),decide_eq_false (e 2 xAa xAa),if_neg xAa,if_neg (e 6 xAa xAa),if_neg (e 7 xAa xAa),if_neg (e 8 xAa xAa),
   decide_eq_false (e 9 xAa xAa),if_neg xAa,if_neg (e 10 xAa xAa),if_neg (e 11 xAa xAa),if_neg (e 12 xAa xAa),decide_eq_false (e 13 xAa xAa),if_neg xAa,
   if_neg (by omega),if_neg (by omega),if_neg (by omega)]
theorem aSJ:∀(n k:Nat) (e:Ex) (a J d0:Nat),n≤k→fits n e→a+n≤1000→J+nd n e≤100000→d0≤100000 →
  ∃N d':Nat,fJ none k e (a:Int) (J:Int) (d0:Int)=some ((N:Int),(d':Int))∧J<N∧N≤J+nd n e∧d0≤d'∧a≤d'∧d'≤max d0 (a+ht n e-1)∧(N≤60→d'≤30→N=J+nd n e∧d'=max d0 (a+ht n e-1))
 | 0,k,e,a,J,d0,hk,Y,ha,hn,hd=>Y.elim
 | n+1,0,e,a,J,d0,hk,Y,ha,hn,hd=>absurd hk (by omega)
 | n+1,k+1,e,a,J,d0,hk,Y,ha,hn,hd=>by
  obtain⟨hf1,hf2,hf3⟩:=Y;have hnd:nd (n+1) e=1+uC (nd n) e.l:=rfl;have hht:ht (n+1) e=1+mxN (ht n) e.l:=rfl;show ∃N d':Nat,iN none (fJ none k) e (a:Int) (J:Int) (d0:Int)=_∧_;unfold iN;by_cases hc:(60:Int)<(J:Int)+1∨(30:Int)<(a:Int)
  ·refine⟨J+1,max d0 a,?_,by omega,by omega,by omega,by omega,by omega,fun _ _=>by omega⟩;refine aB (by omega) ?_;grind
  ·obtain⟨r,hr,x,y,rfl,q1,q2,q3,q4,q5⟩:=eQ (step:=fun d:Int×Int×Int=>eE none (fJ none k) e (a:Int) d.1 d.2.1 d.2.2)
    (I:=fun d=>∃i x y:Nat,d=((i:Int),(x:Int),(y:Int))∧i≤e.l.length∧J+1≤x∧x≤J+1+uC (nd n) (e.l.take i)∧max d0 a≤y∧y≤max (max d0 a) (a+mxN (ht n) (e.l.take i))∧(x≤60→y≤30→x=J+1+uC (nd n) (e.l.take i)∧y=max (max d0 a) (a+mxN (ht n) (e.l.take i))))
    (fun d=>((e.l.length:Int)-d.1).toNat)
    (fun r=>∃x y:Nat,r=((x:Int),(y:Int))∧J+1≤x∧x≤J+1+uC (nd n) e.l∧max d0 a≤y∧y≤max (max d0 a) (a+mxN (ht n) e.l)∧(x≤60→y≤30→x=J+1+uC (nd n) e.l∧y=max (max d0 a) (a+mxN (ht n) e.l)))
    (by
     rintro d ⟨i,x,y,rfl,h1,h2,h3,h4,h5,h6⟩;show (∃d',eE none (fJ none k) e (a:Int) (i:Int) (x:Int) (y:Int)=_∧_)∨ ∃r,eE none (fJ none k) e (a:Int) (i:Int) (x:Int) (y:Int)=_∧_;unfold eE;by_cases hi:i<e.l.length
     ·left
      have s1:=aPJ (nd n) hi;have s2:=aCu (nd n) hi;have s3:=aWX (ht n) hi;have U:=hf3 _ (aPI hi);have hm:=aQ1 (aZs n) (e.l.take i);have hy:y≤100000:=by omega
      ·obtain⟨x',y',p1,p2,p3,p4,p5,p6,p7⟩:=aSJ n k (e.l.getD i (Ex.mk 0 [] [])) (a+1) x y (by omega) U (by omega) (by omega) hy;rw[show ((a+1:Nat):Int)=(a:Int)+1 from by omega] at p1;refine⟨(((i+1:Nat):Int),(x':Int),(y':Int)),?_,⟨i+1,x',y',rfl,by omega,by omega,by omega,by omega,by omega,fun c1 c2=>?_⟩,by omega⟩
       ·rw[if_pos (by omega),Int.toNat_natCast];refine aB (by omega) (aB (by omega) (bF p1 (aB (by omega) ?_)))
        congr 3
       omega
     ·right
      have e1:e.l.take i=e.l:=aLr (by omega);rw[e1] at h3 h5 h6;refine⟨((x:Int),(y:Int)),?_,x,y,rfl,h2,h3,h4,h5,h6⟩;grind)
    ((0:Int),(J:Int)+1,max (d0:Int) (a:Int)) ⟨0,J+1,max d0 a,by grind,by omega,by omega,by omega,by omega,by omega,fun _ _=>by rw[aQ0,bBH]; omega⟩
   refine⟨x,y,?_,by omega,by omega,by omega,by omega,by omega,fun c1 c2=>by omega⟩;refine aB (by omega) ?_;grind
theorem bAP{n:Nat}{e:Ex}(I:fits n e)(J:n≤64)(hd:nd n e≤1000):pW none e=some (decide (nd n e≤60∧ht n e≤30)):=by
 obtain⟨x,y,h1,U,h3,Y,h5,N,h7⟩:=aSJ n 64 e 1 0 0 J I (by omega) (by omega) (by omega);grind[bAO,pW,rJ]
def gk:Nat→Ex→Bool
 | 0,_=>true
 | n+1,e=>decide (prt e.kind=(e.l.length:Int))&&e.l.all (gk n)
theorem aWY{f:Ex→Bool}{l:List Ex}{k:Nat}(h:k<l.length):(l.take (k+1)).all f=((l.take k).all f&&f (l.getD k (Ex.mk 0 [] []))):=by
 rw[aHS h,List.all_append]; simp
theorem aYS{α:Type}(z:α){l:List α}{k:Nat}(h:k<l.length):l.take (k+1)=l.take k++ [l.getD k z]:=by
 simp_all
theorem aPK(l:List qd)(v:List Nat)(hl:l.length≤1000):∃r:Int,dH none l v=some r∧((0:Int)≤r↔v∈l):=by
 obtain⟨e,Y,U⟩:=eQ (step:=fun d:Int=>cJ none l v d) (I:=fun d=>∃j:Nat,d=(j:Int)∧j≤l.length∧v∉l.take j) (fun d=>((l.length:Int)-d).toNat)
  (fun e=>(e= .inl ()∧v∉l)∨ ∃j:Nat,e= .inr (j:Int)∧v∈l)
  (by
   rintro d ⟨j,rfl,h1,J⟩;show (∃d',cJ none l v (j:Int)=_∧_)∨ ∃e,cJ none l v (j:Int)=_∧_;unfold cJ;by_cases N:j<l.length
   ·rw[if_pos (by omega),Int.toNat_natCast];by_cases hv:v=l.getD j []
    ·right
     exact⟨_,aB (by omega) (if_pos hv),.inr ⟨j,rfl,by simp_all⟩⟩
    ·left
     refine⟨((j+1:Nat):Int),aB (by omega) ((if_neg hv).trans (aB (by omega) rfl)),⟨j+1,rfl,by omega,?_⟩,by omega⟩;rw[aYS [] N,List.mem_append];rintro (h|h)
     ·exact J h
     ·exact hv (List.mem_singleton.1 h)
   grind) (0:Int) ⟨0,rfl,by omega,by simp⟩
 unfold dH;rcases U with⟨rfl,h⟩|⟨j,rfl,h⟩
 all_goals simp_all
theorem contains_eq(l:List qd)(v:List Nat)(I:l.length≤1000):cK none l v=some (decide (v∈l)):=by
 obtain⟨r,J,N⟩:=aPK l v I;simp_all[cK,bF,congrArg,decide_eq_decide]
def fm(s:List Nat):Bool:=(rV s).2.2.1
theorem aYT(s:List Nat)(I:s.length≤9223372036854775807):sM none s=some (fm s):=by
 unfold sM;exact bF (aWR s (by omega)) rfl
def lvs(names:List qd):Nat→Ex→Bool
 | 0,_=>true
 | n+1,e=>if e.kind=1 then fm e.text else if e.kind=2 then (decide (e.text=eI ⟨#[116]⟩)||decide (e.text∈names)) else (decide (e.text=eI ⟨#[]⟩)&&e.l.all (lvs names n))
theorem aYU(p q:Ex→Bool):∀l:List Ex,l.all (fun x=>p x&&q x)=(l.all p&&l.all q)
 | []=>rfl
 | x::r=>by
  grind
theorem aNp{b:Ex→Bool}{l:List Ex}{j:Nat}(I:j<l.length)(h:b (l.getD j (Ex.mk 0 [] []))=false):l.all b=false:=by
 grind
theorem aWZ(g:Ex→List qd→Option Bool)(names:List qd)(b:Ex→Bool)(l:List Ex)(hl:l.length≤1000)(U:∀x∈l,g x names=some (b x)) :
  aO none g l (names,())=some (!(l.all b)):=by
 obtain⟨e,he,Y⟩:=eQ (step:=fun d:Int=>aN none g l (names,()) d) (I:=fun d=>∃j:Nat,d=(j:Int)∧j≤l.length∧(l.take j).all b=true) (fun d=>((l.length:Int)-d).toNat)
  (fun e=>(e= .inl ()∧l.all b=true)∨ ∃j:Nat,e= .inr (j:Int)∧l.all b=false)
  (by
   rintro d ⟨j,rfl,h1,h2⟩;show (∃d',aN none g l (names,()) (j:Int)=_∧_)∨ ∃e,aN none g l (names,()) (j:Int)=_∧_;unfold aN mW;by_cases N:j<l.length
   ·rw[if_pos (by omega),Int.toNat_natCast];have J:=U _ (aPI N);cases hb:b (l.getD j (Ex.mk 0 [] [])) with
    | false =>
     right
     rw[hb] at J;exact⟨_,aB (by omega) (bF (bF J rfl) (if_pos rfl)),.inr ⟨j,rfl,aNp N hb⟩⟩
    | true =>
     left
     rw[hb] at J;refine⟨((j+1:Nat):Int),aB (by omega) (bF (bF J rfl) ((if_neg xAa).trans (aB (by omega) rfl))),⟨j+1,rfl,by omega,?_⟩,by omega⟩;grind[aWY]
   grind) (0:Int) ⟨0,rfl,by omega,by simp⟩
 unfold aO bE;rcases Y with⟨rfl,h⟩|⟨j,rfl,h⟩
 all_goals simp_all
theorem aSK(names:List qd)(I:names.length≤1000):∀(n k:Nat) (e:Ex),n≤k→fits n e→lH none k e names=some (gk n e&&lvs names n e)
 | 0,k,e,hk,hf=>hf.elim
 | n+1,0,e,hk,hf=>absurd hk (by omega)
 | n+1,k+1,e,hk,hf=>by
  obtain⟨hf1,hf2,hf3⟩:=hf;have Y:gk (n+1) e=(decide (prt e.kind=(e.l.length:Int))&&e.l.all (gk n)):=rfl;have U:lvs names (n+1) e=if e.kind=1 then fm e.text else if e.kind=2 then (decide (e.text=eI ⟨#[116]⟩)||decide (e.text∈names)) else (decide (e.text=eI ⟨#[]⟩)&&e.l.all (lvs names n)):=rfl
  have J:=aWZ (lH none k) names (fun x=>gk n x&&lvs names n x) e.l hf2 fun x hx=>aSK names I n k x (by omega) (hf3 x hx);show kQ none (lH none k) e names=_;unfold kQ;rw[aYR,J,aYT _ (by omega),contains_eq _ _ I,aYU];simp only[Option.isSome_some,Option.getD_some,Option.bind_some];by_cases hp:prt e.kind=(e.l.length:Int)
  ·rw[if_neg (fun h=>h hp)];by_cases h1:e.kind=1
   ·have h0:e.l= []:=List.eq_nil_of_length_eq_zero (by rw[h1] at hp; have:prt 1=0:=rfl; omega);simp_all
   ·rw[if_neg h1];by_cases N:e.kind=2
    ·have h0:e.l= []:=List.eq_nil_of_length_eq_zero (by rw[N] at hp; have:prt 2=0:=rfl; omega);rw[if_pos N,Y,U,if_neg h1,if_pos N,decide_eq_true hp,h0];exact aB (by simp) rfl
    ·rw[if_neg N,Y,U,if_neg h1,if_neg N,decide_eq_true hp];refine aB (by simp) ?_;grind
  simp_all
def fK(F:Md)(I:Bool)(J:Int):Option (Unit⊕qq) :=
 if ¬(I=true) then some (.inr (J,())) else some (.inl ())
def yE(F:Md):iJ where
 D:=Bool×Int×(Unit⊕qq)
 av:=fun d=>[.val .bool d.1,.val qf d.2.1]
 hp:=fun d=>[]
 m:=0
 pre:=fun d=>fK F d.1 d.2.1=some d.2.2
 out:=fun d=>match d.2.2 with| .inl r=>.ret (.tup []) []| .inr p=>.pan ⟨194,qn,p⟩ []
@[go_sem]def tF(F:Md)(vs:List AV)(h:List Vc.Obj):Hit:=mkH (fK F (kL h vs 0 .bool) (kL h vs 1 qf)) (.inr ((0:Int),())) fun r=>⟨(yE F),[],((kL h vs 0 .bool),(kL h vs 1 qf),r)⟩
def aCY:PlR:=⟨[(0,.A [1,5]),(1,.P [] [])],[],[]⟩
abbrev aNq(F:Md):List (FuncId×aF):=[]
theorem aNr(F:Md):bU Tryz.prog GL (aNq F):=.nil
attribute [go_sem] aCY yE
theorem yF(F:Md):GOK Tryz.prog GL 73 (yE F):=by
 refine aAm (bQ (aNr F)) mix Tryz.func73 rfl xC (fun _=>Nat.le_of_ble_eq_true rfl) aCY (fun Y w0 d U N h hV=>?_);obtain⟨(I:Bool),(J:Int),r⟩:=d;have hF:=hV.fr;replace h:=aAn (show fK F I J=some r from h);simp only[aBx,List.map_cons,List.map_nil,go_sem];unfold fK at h;exact zaS
def gL(F:Md)(J:(List qi))(I:Int):Option ((Int)⊕((Unit)⊕qq)) :=
 if I<(J.length:Int) then ck (0≤I∧I<(J.length:Int)) (ck ((pF F (J.getD (I.toNat) (false,[],0,()))).isSome=true) ((fK F ((pF F (J.getD (I.toNat) (false,[],0,()))).getD false) (1:Int)).bind (fun e=>match e with| .inl U=>ck (I64 (I+(1:Int))) (some (.inl (I+(1:Int))))| .inr N=>some (.inr (.inr N))))) else some (.inr (.inl ()))
def kS(F:Md)(I:(List qi)):Option (Unit⊕qq) :=
 (dC F (fun d:Int=>gL F I d) (0:Int)).bind (fun e=>match e with|(.inl e)=>some (.inl ())|(.inr e)=>some (.inr e))
def mX(F:Md)(I:Int)(U:(List qi)):Option (Unit⊕qq) :=
 if (1:Int)≤I then (fK F ((decide ((1:Int)≤I))&&(decide (I≤(2000:Int)))) (1:Int)).bind (fun e=>match e with| .inl Y=>kS F U| .inr J=>some (.inr J)) else (fK F false (1:Int)).bind (fun e=>match e with| .inl r_24=>kS F U| .inr N=>some (.inr N))
def aAI(F:Md):iJ where
 D:=Int×(List qi)×(Unit⊕qq)
 av:=fun d=>[.val qf d.1,.val (.sl qa) d.2.1]
 hp:=fun d=>[]
 m:=0
 pre:=fun d=>mX F d.1 d.2.1=some d.2.2
 out:=fun d=>match d.2.2 with| .inl r=>.ret (.tup []) []| .inr p=>.pan ⟨194,qn,p⟩ []
@[go_sem]def aEH(F:Md)(vs:List AV)(h:List Vc.Obj):Hit:=mkH (mX F (kL h vs 0 qf) (kL h vs 1 (.sl qa))) (.inr ((0:Int),())) fun r=>⟨(aAI F),[],((kL h vs 0 qf),(kL h vs 1 (.sl qa)),r)⟩
def aEI(F:Md):PlR:=⟨[(0,.P [1] []),(1,.A [13,14,15]),(2,.A [13,14,15,16]),(3,.B [5,13,14,15]),(4,.P [13,14,15] []),(5,.A [13,14,15])],[(3,4)],[(73,tF F)]⟩
abbrev aGO(F:Md):List (FuncId×aF):=[(121,(xS F))]
theorem aPL(F:Md):bU Tryz.prog GL (aGO F):=.cons (aPy F) xC (.nil)
attribute [go_sem] aEI aAI
theorem aNs(F:Md):GOK Tryz.prog GL 72 (aAI F):=by
 refine aAm (bQ (aPL F)) mix Tryz.func72 rfl xC (fun _=>Nat.le_of_ble_eq_true rfl) (aEI F) (fun c0 w0 d hw hw2 h hV=>?_) (.cons (fun _ _=>(yF F)) xC (.nil));obtain⟨(U:Int),(I:(List qi)),r⟩:=d;have hF:=hV.fr;replace h:=aAn (show mX F U I=some r from h);simp only[aBx,List.map_cons,List.map_nil,go_sem];unfold mX at h;refine cD hV (D:=Unit) (fun d=>sat (kS F I) (fun z=>z=r)) [1] (fun d=>[]) (fun d=>[]) ?_ ?_
 ·simp only[go_sem];refine⟨fun hc=>?_,fun hc=>?_⟩
  ·replace h:=kJ zAC h;refine⟨fun _=>?_,fun hx=>by first|(exfalso; omega)|(exfalso; simp_all; done)⟩;refine aW h fun e hv h=>?_;rcases e with r_22|p_23
   ·(try dsimp only at h);simp only[hv,go_sem];exact aR () h rfl xAb
   ·(try dsimp only at h);simp only[hv,go_sem];obtain rfl:=eG h;refine mD rfl rfl rfl rfl
  ·replace h:=kK zAC h;(first|(refine⟨fun hx=>by first|(exfalso; omega)|(exfalso; simp_all; done),fun _=>?_⟩)|(with_reducible intro _)|skip);refine aW h fun e hv h=>?_;rcases e with r_24|p_25
   ·(try dsimp only at h);exact zaO
   ·(try dsimp only at h);simp only[hv,go_sem];(repeat (refine⟨zAB,?_⟩));obtain rfl:=eG h;refine mD rfl rfl rfl rfl
 ·rintro u h;simp only[go_sem];replace h:sat (kS F I) _:=h;unfold kS at h;refine bZ hV (D:=Int) [13,14] (fun d=>[(15,.val qf d)]) (fun d=>[]) h rfl xAb ?_;rintro J A2 T2 Y N h;simp only[go_sem];replace h:sat (gL F I J) _:=h;unfold gL at h;refine gF h (fun hc h=>?_) fun hc h=>?_
  ·refine aZ h fun g0 h=>?_;refine aZ h fun g0 h=>?_;refine aW h fun e hv h=>?_;rcases e with r_19|p_20
   ·(try dsimp only at h);simp only[hv,go_sem];refine aZ h fun g0 h=>?_;replace h:=Y _ (aC h);refine nU [] rfl rfl (yaA ?_);exact zaG
   ·(try dsimp only at h);simp only[hv,go_sem];replace h:=yaF (N _ (aC h));exact zaF
  ·replace h:=yaF (N _ (aC h));obtain rfl:=eG h;refine xL (oM hF [] rfl rfl rfl rfl rfl rfl ?_);exact zaC
def iX(F:Md)(I:Bool)(N:Int)(J:qd):Option (qi⊕qq) :=
 ck ((gY F I J N).isSome=true) ((fK F (decide (((gY F I J N).getD ((false,([]:List Nat),(0:Int),()),(0:Int),())).2.1=(0:Int))) ((gY F I J N).getD ((false,([]:List Nat),(0:Int),()),(0:Int),())).2.1).bind (fun e=>match e with| .inl Y=>some (.inl ((gY F I J N).getD ((false,([]:List Nat),(0:Int),()),(0:Int),())).1)| .inr U=>some (.inr U)))
def iY(F:Md)(U:Bool)(I:Bool)(N:qd)(Y:Int)(J:Bool):Option (qi⊕qq) :=
 if (J=true)∧((U != I)=true) then ck (aME N ([1]:List Nat)) (iX F I Y (jX N ([1]:List Nat))) else iX F I Y N
def mY(F:Md)(U:Bool)(I:qd)(e_2:Int)(J:Bool)(N:Int)(Y:Bool):Option (qi⊕qq) :=
 ck (aO2 I) (ck (I64 ((bI I)-N)) (if (0:Int)<((bI I)-N) then ck (¬(J=true)→(pSz I)) (ck (aJg I ((bI I)-N)) (ck (I64 (e_2+((bI I)-N))) (iY F Y U (gH I ((bI I)-N)) (e_2+((bI I)-N)) (J||(decide ((cQ I)<((bI I)-N))))))) else iY F Y U I e_2 J))
def aAJ(F:Md):iJ where
 D:=Bool×qd×Int×Bool×Int×Bool×(qi⊕qq)
 av:=fun d=>[.val .bool d.1,.val qr d.2.1,.val qf d.2.2.1,.val .bool d.2.2.2.1,.val qf d.2.2.2.2.1,.val .bool d.2.2.2.2.2.1]
 hp:=fun d=>[]
 m:=0
 pre:=fun d=>mY F d.1 d.2.1 d.2.2.1 d.2.2.2.1 d.2.2.2.2.1 d.2.2.2.2.2.1=some d.2.2.2.2.2.2
 out:=fun d=>match d.2.2.2.2.2.2 with| .inl r=>.ret (.val qa r) []| .inr p=>.pan ⟨194,qn,p⟩ []
@[go_sem]def aEJ(F:Md)(vs:List AV)(h:List Vc.Obj):Hit:=mkH (mY F (kL h vs 0 .bool) (kL h vs 1 qr) (kL h vs 2 qf) (kL h vs 3 .bool) (kL h vs 4 qf) (kL h vs 5 .bool)) (.inr ((0:Int),())) fun r=>⟨(aAJ F),[],((kL h vs 0 .bool),(kL h vs 1 qr),(kL h vs 2 qf),(kL h vs 3 .bool),(kL h vs 4 qf),(kL h vs 5 .bool),r)⟩
def aEK(F:Md):PlR:=⟨[(0,.B [0,1,2,3,4,5,12]),(1,.A [0,1,2,3,5,12,13]),(2,.A [0,1,2,3,5,12,13,21]),(3,.A [0,1,2,3,5,12,13]),(4,.A [0,1,2,3,5,12]),(5,.A [0,1,2,12,40]),(6,.A [0,1,2,12]),(7,.B [12,14,15]),(8,.P [12,14] []),(9,.B [12])],[(4,8),(8,10)],[(73,tF F)]⟩
abbrev pX(F:Md):List (FuncId×aF):=[(103,jQ),(106,pR),(118,nI),(32,(pU F)),(74,pQ)]
theorem aPM(F:Md):bU Tryz.prog GL (pX F):=.cons aAC xC (.cons aGy xC (.cons aEo xC (.cons (aGG F) xC (.cons aGv xC (.nil)))))
attribute [go_sem] aEK aAJ
theorem aNt(F:Md):GOK Tryz.prog GL 76 (aAJ F):=by
 refine aAm (bQ (aPM F)) mix Tryz.func76 rfl xC (fun _=>Nat.le_of_ble_eq_true rfl) (aEK F) (fun c0 w0 d hw hw2 h hV=>?_) (.cons (fun _ _=>(yF F)) xC (.nil));obtain⟨(I:Bool),(N:qd),(e_2:Int),(J:Bool),(Y:Int),(U:Bool),r⟩:=d;have hF:=hV.fr;replace h:=aAn (show mY F I N e_2 J Y U=some r from h);simp only[aBx,List.map_cons,List.map_nil,go_sem];unfold mY at h;refine cD hV (D:=qd×Int×Bool) (fun d=>sat (iY F U I d.1 d.2.1 d.2.2) (fun z=>z=r)) [0,5] (fun d=>[(1,.val qr d.1),(2,.val qf d.2.1),(3,.val .bool d.2.2),(12,.ptr 0 [])]) (fun d=>[.inr (.box 3 (.val qa (false,([]:List Nat),(0:Int),())))]) ?_ ?_
 ·simp only[go_sem];refine aD h fun g0 h=>?_;refine aD h fun g1 h=>(yaB ?_);refine gF h (fun hc h=>?_) fun hc h=>?_
  ·refine aD h fun g0 h=>(yaB ?_);refine aD h fun g0 h=>?_;refine aD h fun g1 h=>(yaB ?_);exact aR ((gH N ((bI N)-Y)),(e_2+((bI N)-Y)),(J||(decide ((cQ N)<((bI N)-Y))))) h rfl xAb
  ·exact aR (N,e_2,J) h rfl xAb
 ·rintro⟨m_7,e_8,rest_9⟩ h;simp only[go_sem];replace h:sat (iY F U I m_7 e_8 rest_9) _:=h;unfold iY at h;refine cD hV (D:=qd) (fun d=>sat (iX F I e_8 d) (fun z=>z=r)) [0,2] (fun d=>[(1,.val qr d),(12,.ptr 0 [])]) (fun d=>[.inr (.box 3 (.val qa (false,([]:List Nat),(0:Int),())))]) ?_ ?_
  ·simp only[go_sem];refine⟨fun hc=>?_,fun hc=>?_⟩
   ·replace h:=kJ hc h;refine aD h fun g0 h=>(yaB ?_);exact aR (jX m_7 ([1]:List Nat)) h rfl xAb
   ·replace h:=kK hc h;exact aR (m_7) h rfl xAb
  ·rintro m_10 h;simp only[go_sem];replace h:sat (iX F I e_8 m_10) _:=h;unfold iX at h;refine aD h fun g0 h=>(yaB ?_);refine aW h fun e hv h=>?_;rcases e with r_15|p_16
   ·(try dsimp only at h);simp only[hv,go_sem];obtain rfl:=eG h;refine aBz hF [.cell 12 40] [] rfl rfl rfl rfl rfl rfl rfl rfl rfl ?_;exact zaC
   ·(try dsimp only at h);exact zaT
def kT(F:Md)(N:Int)(J:qi)(I:qi)(a3_3:Bool):Option (qi⊕qq) :=
 (mX F N ([J,I]:List qi)).bind (fun e=>match e with| .inl r_9=>(fK F (decide ((0:Int)<(I.2.1.length:Int))) (4:Int)).bind (fun e=>match e with| .inl r_15=>ck (I64 (N+(1:Int))) (ck (aO2 I.2.1) (ck (I64 ((N+(1:Int))+(bI I.2.1))) (ck (aO2 J.2.1) (ck (I64 (((N+(1:Int))+(bI I.2.1))-(bI J.2.1))) (ck (aO6 J.2.1 (max (0:Int) (((N+(1:Int))+(bI I.2.1))-(bI J.2.1)))) (ck (aAs (dR J.2.1 (max (0:Int) (((N+(1:Int))+(bI I.2.1))-(bI J.2.1)))) I.2.1) (ck (I64 (J.2.2.1-I.2.2.1)) (ck (I64 ((J.2.2.1-I.2.2.1)-(max (0:Int) (((N+(1:Int))+(bI I.2.1))-(bI J.2.1))))) ((mY F (J.1 != I.1) (fI (dR J.2.1 (max (0:Int) (((N+(1:Int))+(bI I.2.1))-(bI J.2.1)))) I.2.1).1 ((J.2.2.1-I.2.2.1)-(max (0:Int) (((N+(1:Int))+(bI I.2.1))-(bI J.2.1)))) (decide ((0:Int)<(((fI (dR J.2.1 (max (0:Int) (((N+(1:Int))+(bI I.2.1))-(bI J.2.1)))) I.2.1).2.1.length:Nat):Int))) N a3_3).bind (fun e=>match e with| .inl U=>some (.inl U)| .inr p_22=>some (.inr p_22)))))))))))| .inr Y=>some (.inr Y))| .inr p_10=>some (.inr p_10))
def oU(F:Md):iJ where
 D:=Int×qi×qi×Bool×(qi⊕qq)
 av:=fun d=>[.val (.rp qf) d.1,.val (.rp qa) d.2.1,.val (.rp qa) d.2.2.1,.val (.rp .bool) d.2.2.2.1]
 hp:=fun d=>[]
 m:=0
 pre:=fun d=>kT F d.1 d.2.1 d.2.2.1 d.2.2.2.1=some d.2.2.2.2
 out:=fun d=>match d.2.2.2.2 with| .inl r=>.ret (.val qa r) []| .inr p=>.pan ⟨194,qn,p⟩ []
def aA0(F:Md):PlR:=⟨[(0,.B [0,1,2,3,4]),(1,.P [0,1,2,3,4] []),(2,.P [0,1,2,3,4] []),(3,.A [0,1,2,3,4,5]),(4,.A [0,1,2,3,4,5,6,7]),(5,.P [4] [])],[],[(72,aEH F),(73,tF F),(76,aEJ F)]⟩
abbrev rL(F:Md):List (FuncId×aF):=[(48,sY),(74,pQ),(75,pS)]
theorem aJT(F:Md):bU Tryz.prog GL (rL F):=.cons aKz xC (.cons aGv xC (.cons aGB xC (.nil)))
attribute [go_sem] aA0 oU
theorem aA1(F:Md):GOK Tryz.prog GL 71 (oU F):=by
 refine aAm (bQ (aJT F)) mix Tryz.func71 rfl xC (fun _=>Nat.le_of_ble_eq_true rfl) (aA0 F) (fun c0 w0 d hw hw2 h hV=>?_) (.cons (fun _ _=>(aNs F)) xC (.cons (fun _ _=>(yF F)) xC (.cons (fun _ _=>(aNt F)) xC (.nil))));obtain⟨(U:Int),(I:qi),(N:qi),(J:Bool),r⟩:=d;have hF:=hV.fr;replace h:=aAn (show kT F U I N J=some r from h);simp only[aBx,List.map_cons,List.map_nil,go_sem];unfold kT at h;refine aW h fun e hv h=>?_;rcases e with r_9|p_10
 ·try dsimp only at h
  simp only[List.replicate,List.set,hv,go_sem];refine aW h fun e hv h=>?_;rcases e with r_15|p_16
  ·(try dsimp only at h);simp only[hv,go_sem];refine aZ h fun g0 h=>aZ h fun g1 h=>aZ h fun g2 h=>aZ h fun g3 h=>aZ h fun g4 h=>?_;refine aZ h fun g0 h=>aZ h fun g1 h=>?_;refine aZ h fun g0 h=>?_;refine aZ h fun g0 h=>?_;refine aW h fun e hv h=>?_;rcases e with Y|p_22
   ·(try dsimp only at h);simp only[hv,go_sem];obtain rfl:=eG h;refine aBz hF [.cell 4 40] [] rfl rfl rfl rfl rfl rfl rfl rfl rfl ?_;exact zaC
   ·(try dsimp only at h);exact zaT
  ·(try dsimp only at h);exact zaT
 ·try dsimp only at h
  simp only[List.replicate,List.set,hv,go_sem];exact zaF
def mZ:iJ where
 D:=qi×Int
 av:=fun _=>[.ptr 0 [],.ptr 1 []]
 hp:=fun d=>[.box 3 (.val qa d.1),.box 1 (.val qf d.2)]
 m:=2
 pre:=fun _=>True
 out:=fun d=>.ret (.tup []) [.box 3 (.val qa d.1),.box 1 (.val qf d.2)]
def nA(x:qq):iJ where
 D:=qi×Int
 av:=fun _=>[.ptr 0 [],.ptr 1 []]
 hp:=fun d=>[.box 3 (.val qa d.1),.box 1 (.val qf d.2)]
 m:=2
 pre:=fun _=>True
 out:=fun d=>.ret (.tup []) [.box 3 (.val qa (false,([]:List Nat),(0:Int),())),.box 1 (.val qf x.1)]
theorem aHt:DOK Tryz.prog GL 120 none mZ:=by
 refine aLY (bQ xR) Tryz.func120 rfl xC (fun _=>Nat.le_of_ble_eq_true rfl) rfl fun c w d J I hp N=>?_;have hF:oY ⟨Tryz.prog,EM [],GM mZ c d,w,Tryz.f120.ntmps,[]⟩:=⟨bQ xR,mix⟩;exact zaL
theorem aHu(x:qq):DOK Tryz.prog GL 120 (some ⟨194,qn,x⟩) (nA x):=by
 refine aLY (bQ xR) Tryz.func120 rfl xC (fun _=>Nat.le_of_ble_eq_true rfl) rfl fun c w d I J hp N=>?_;have hF:oY ⟨Tryz.prog,EM [],GM (nA x) c d,w,Tryz.f120.ntmps,[]⟩:=⟨bQ xR,mix⟩;obtain⟨d,e⟩:=d;show mF _ _ _ [(5,.val (.ifc 194 qn) x),(0,.ptr 0 []),(1,.ptr 1 [])] [.box 3 (.val qa d),.box 1 (.val qf e)] _;exact zaK
def cT(F:Md)(I:Int)(c1:qi)(c2:qi)(J:Bool):Option (qi×Int×Unit) :=
 (kT F I c1 c2 J).bind fun q=>some (match q with| .inl r=>(r,0,())| .inr p=>((false,([]:List Nat),(0:Int),()),p.1,()))
def nB:Ty:=.pair (.clo 71 (.pair (.rp qf) (.pair (.rp qa) (.pair (.rp qa) (.pair (.rp .bool) .unit))))) .unit
def eY(F:Md):aF:=mSpec nB (.tup (.pair qa qn)) (fun x=>cT F x.1.1 x.1.2.1 x.1.2.2.1 x.1.2.2.2.1)
theorem vN(F:Md):FOK Tryz.prog GL 70 (eY F):=by
 refine aID (bQ xR) Tryz.func70 rfl xC xAa fun w0 S x r Y h=>?_;have hF:oY (fr Tryz.prog (EM []) S w0 Tryz.f70.ntmps):=⟨bQ xR,mix⟩;obtain⟨⟨(N:Int),(c1:qi),(c2:qi),(J:Bool),U⟩,u⟩:=x;replace h:cT F N c1 c2 J=some r:=h;show Tri _ _ _ [(0,.val (.clo 71 (.pair (.rp qf) (.pair (.rp qa) (.pair (.rp qa) (.pair (.rp .bool) .unit))))) (N,c1,c2,J,U))] [];unfold cT at h;obtain⟨q,hq,h⟩:=bind_some h;obtain rfl:=Option.some.inj h;refine aK (bT hF [0,2,3] (yaA ?_));refine aL (aCF 2 [0,1] rfl rfl (Nat.zero_le _) xAa fun roots hroots=>?_);have I:oY { fr Tryz.prog (EM []) S w0 Tryz.f70.ntmps with M:=⟨nothing,S,2,roots⟩,ds:=[⟨.fn (.func 120) ([0,1].map roots).toArray,#[]⟩] }:=⟨bQ xR,mix⟩;rcases q with q|q
 ·refine aK (mK I (aAk (l:=[(71,⟨oU F,[],(N,c1,c2,J,.inl q)⟩)]) (.cons (aA1 F) xC .nil)) [2,3] [] (yaA ?_));refine⟨hq,?_⟩;refine aL (jO ?_);refine aRL (fn:=Tryz.f70) (k:=2) (l2:=[0,1]) I rfl rfl xAa rfl (aCn xC) ⟨mZ,[0,1],(q,0)⟩ aHt rfl [.cell 2 40,.cell 3 3] rfl ?_ ?_
  ·(simp only[mZ,go_sem])<;>first|decide|trivial
  ·(simp only[mZ,bD,mC,go_sem])<;>first|decide|trivial
 ·refine aK (mK I (aAk (l:=[(71,⟨oU F,[],(N,c1,c2,J,.inr q)⟩)]) (.cons (aA1 F) xC .nil)) [2,3] [] (yaA ?_));refine⟨hq,?_⟩;refine aOe ?_;refine aRM (fn:=Tryz.f70) (k:=2) (l2:=[0,1]) I rfl rfl xAa rfl (aCn xC) ⟨nA q,[0,1],((false,([]:List Nat),(0:Int),()),0)⟩ (aHu q) rfl [.cell 2 40,.cell 3 3] rfl ?_ ?_
  ·(simp only[nA,go_sem])<;>first|decide|trivial
  ·(simp only[nA,bD,mC,go_sem])<;>first|decide|trivial
attribute [go_sem] eY nB
def jS(F:Md)(U:qi)(N:qi)(Y:Int)(I:Bool):Option (qi×qq) :=
 (cT F Y U N I).bind (fun J=>some (J.1,J.2.1,()))
def aCZ:PlR:=⟨[(0,.B [4,5,6,7,8]),(1,.stop)],[],[]⟩
def aEO:Ty:=.pair qa (.pair qa (.pair qf (.pair .bool .unit)))
def tG(F:Md):aF:=mSpec aEO (.tup (.pair qa qn)) (fun x=>jS F x.1 x.2.1 x.2.2.1 x.2.2.2.1)
abbrev aEP(F:Md):List (FuncId×aF):=[(70,(eY F))]
theorem aNu(F:Md):bU Tryz.prog GL (aEP F):=.cons (vN F) xC (.nil)
attribute [go_sem] aEO aCZ
theorem aKI(F:Md):FOK Tryz.prog GL 33 (tG F):=by
 refine cF (bQ (aNu F)) mix Tryz.func33 rfl xC xAa aCZ (fun w0 S x Θ hw h hV=>?_);obtain⟨(N:qi),(J:qi),(U:Int),(I:Bool),u⟩:=x;simp only[cC,go_sem];replace h:sat (jS F N J U I) _:=h;unfold jS at h;refine tT 2 rfl (yaA ?_);refine tT 0 rfl (yaA ?_);refine tT 1 rfl (yaA ?_);refine tT 3 rfl (yaA ?_);refine aIG hV [8,9] (yaA ?_);refine aW h fun Y hv h=>?_;try simp only[hv,go_sem]
 exact aQ hV [.cell 8 40,.tmp 9] rfl rfl rfl (aC h) xAd
attribute [go_sem] tG
def lU(F:Md)(s_0:qd)(N:Int):Option ((qi×(qi×Unit))×qq) :=
 (pV F s_0).bind (fun Y=>if ¬(Y.2.2.1=true) then some (((false,([]:List Nat),(0:Int),()),(false,([]:List Nat),(0:Int),()),()),(6:Int),()) else if (N<(1:Int))∨((2000:Int)<N) then some (((false,([]:List Nat),(0:Int),()),(false,([]:List Nat),(0:Int),()),()),(1:Int),()) else (gY F false Y.1 (0:Int)).bind (fun v_8=>(gY F false Y.2.1 (0:Int)).bind (fun U=>(jS F v_8.1 U.1 N false).bind (fun I=>(jS F v_8.1 U.1 N true).bind (fun J=>if (¬(I.2.1=(0:Int)))∨(¬(J.2.1=(0:Int))) then some (((false,([]:List Nat),(0:Int),()),(false,([]:List Nat),(0:Int),()),()),(max I.2.1 J.2.1),()) else some ((I.1,J.1,()),(0:Int),()))))))
def aJU:PlR:=⟨[(0,.B [0,1,4]),(1,.A [1,4,6,7,8]),(2,.A [1,4,6,7,23]),(3,.B [4,5]),(4,.A [1,4,6,7,27]),(5,.B [4,5]),(6,.B [1,4,7,9]),(7,.B [1,4,9,11]),(8,.B [1,4,9,11,13,14]),(9,.B [4,13,14,15,16]),(10,.A [4,13,14,15,16,64]),(11,.B [4,5]),(12,.B [4,5])],[],[]⟩
def aLs:Ty:=.pair .str qn
def aAK(F:Md):aF:=mSpec aLs (.tup (.pair qx qn)) (fun x=>lU F x.1 x.2.1)
abbrev aCv(F:Md):List (FuncId×aF):=[(31,(vJ F)),(32,(pU F)),(33,(tG F))]
theorem aTX(F:Md):bU Tryz.prog GL (aCv F):=.cons (aNe F) xC (.cons (aGG F) xC (.cons (aKI F) xC (.nil)))
attribute [go_sem] aLs aJU
theorem aQ2(F:Md):FOK Tryz.prog GL 17 (aAK F):=by
 refine cF (bQ (aTX F)) mix Tryz.func17 rfl xC xAa aJU (fun w0 S x Θ hw h hV=>?_);obtain⟨(J:qd),(I:Int),u⟩:=x;simp only[cC,go_sem];replace h:sat (lU F J I) _:=h;unfold lU at h;refine aW h fun v_6 hv h=>?_;try simp only[hv,go_sem]
 refine aL1 h (fun hc h=>?_) fun hc h=>?_
 ·exact aQ hV [.cell 4 42,.tmp 5] rfl rfl rfl (aC h) xAd
 ·refine⟨fun hc=>?_,fun hc=>?_⟩
  ·replace h:=kJ hc h;exact aQ hV [.cell 4 42,.tmp 5] rfl rfl rfl (aC h) xAd
  ·replace h:=kK hc h;refine aW h fun v_8 hv h=>?_;(try simp only[hv,go_sem]);refine aW h fun N hv h=>?_;(try simp only[hv,go_sem]);refine aW h fun U hv h=>?_;(try simp only[hv,go_sem]);refine aW h fun Y hv h=>?_;(try simp only[hv,go_sem]);refine⟨fun hc=>?_,fun hc=>?_⟩
   ·replace h:=kJ hc h;exact aQ hV [.cell 4 42,.tmp 5] rfl rfl rfl (aC h) xAd
   ·replace h:=kK hc h;exact aQ hV [.cell 4 42,.tmp 5] rfl rfl rfl (aC h) xAd
attribute [go_sem] aAK
section
open Go.Shelf Go.RowKit Go.Lib
theorem aW0(n:Nat)(w:World)(hn:n≤1073741824) :
  Calls Tryz.prog 30 #[.slice none 0 0,.int .i64 n] w fun e w'=>(n=0∧e= .returned (.slice none 0 0)∧w'=w) ∨
   (0<n∧e= .returned (.slice (some ⟨w.heap.size,0,none⟩) 0 (grownCap w n 0 9))∧w'=w.drew.alloc (.cells (Builtin.zeroCells #[Value.string ⟨#[]⟩] n++Builtin.zeroCells #[Value.string ⟨#[]⟩] (grownCap w n 0 9-n)) 9)):=by
 have Y:¬((n:Int)<0):=by omega
 have h3:wrap64 ((n:Int)-wrap64 (0-0))=(n:Int):=by unfold wrap64; omega
 have h5:wrap64 (n:Int)=(n:Int):=by unfold wrap64; omega
 obtain⟨i,hi,N,hs,hb⟩:∃i,Tryz.prog.info? 9=some i∧i.zero=some (.string ⟨#[]⟩)∧i.size=1∧i.bytes=16:=⟨_,rfl,rfl,rfl,rfl⟩
 go_enter Tryz.func30,Tryz.ntmps30
 rcases Nat.eq_zero_or_pos n with rfl|hp
 ·go_wp2
  go_ret
  exact⟨rfl,rfl⟩
 ·have U:(n:Int)>0:=by omega
  have J:∀ty,(Builtin.append_ #[25,3] ty #[.slice none 0 0,.int .i64 (n:Int)]).run Tryz.prog w= .ok (.slice (some ⟨w.heap.size,0,none⟩) n (grownCap w n 0 9)) (w.drew.alloc (.cells (Builtin.zeroCells #[Value.string ⟨#[]⟩] n++Builtin.zeroCells #[Value.string ⟨#[]⟩] (grownCap w n 0 9-n)) 9)) :=
   fun ty=>Lib.run_append_nil_zeros w 25 3 ty 9 i (.string ⟨#[]⟩) .i64 .i64 rfl rfl hi N n hp (by omega) (by omega) (by rw[hb]; omega)
  have hG:=grownCap_ge w n 0 9;have I:=grownCap_le_maxLen w n 0 9 (by unfold maxLen; omega);unfold maxLen at I;generalize grownCap w n 0 9=G at *
  go_wp2_with (at_builtin; refine Lib.wpList_append_run _ rfl _ _ _ _ rfl _ _ rfl rfl _ _ (J _) ?_)
  go_ret
  exact .inr ⟨rfl,rfl⟩
end
def eV(F:Md)(n:Int):Option qk:=ck (0≤n∧n≤1073741824) (some [])
@[go_sem]def eJ(F:Md):iJ where
 D:=Int×qk
 av:=fun d=>[.nilS,.val qf d.1]
 hp:=fun d=>[]
 m:=0
 pre:=fun d=>eV F d.1=some d.2
 out:=fun d=>(fun r:qk=>.ret (.own 0) [.row 9 .str (r)]) d.2
@[go_sem]def sB(F:Md)(vs:List AV)(h:List Vc.Obj):Hit:=mkH (eV F (kL h vs 1 qf)) ([]:List qd) fun r=>⟨(eJ F),[],((kL h vs 1 qf),r)⟩
theorem aPN{F:Md}{c:Ctx}{w w':World}{d:(eJ F).D}(hd:d.2= [])(good:Go.Vc.Good (GM (eJ F) c d) w c [] w)(J:bG nothing w w')(v:Value)(hv:∃a n m,v= .slice a n m)(U:w'.ownsRow 0 9 1 v 0 [])(hb:∀b,aH v=some b→w.heap.size≤b∧b<w'.heap.size) :
  aD4 (eJ F) c w d (.returned v) w':=by
 have I:(c.push v).hd c.n=v:=by simp[Ctx.push]
 have N:c.n=0:=good.n;have:=good.push J (o:=.row 9 .str []) (hv:=v) (by
  show uD _ _ _ _ _ _;rw[I];exact⟨[],U,⟨rfl,[],rfl,rfl,fun i h=>by simp at h⟩⟩) (fun b h=>hb b (by simpa [cM,I] using h))
 refine⟨c.push v,?_⟩;show ∃u,_∧Go.Vc.Good _ _ _ [.row 9 .str d.2] _∧aG _ _ (.own 0) u;rw[hd];refine⟨v,rfl,this.1,?_⟩;have:=wI (c:=c) (v':=v) hv (w':=w') (S':=c.S);rw[N] at this;exact this
theorem aBb(F:Md):GOK Tryz.prog GL 30 (eJ F):=by
 rintro c w ⟨n,r⟩ Y I ⟨good,glob,len,val⟩;have I:eV F n=some r:=I;unfold eV at I;obtain⟨⟨h1,h2⟩,I⟩:=bV I;have hr:[]=r:=Option.some.inj I;have hv0:=val 0 (by show 0<2; decide) (by rw[len]; show 0<2; decide);have hv1:=val 1 (by show 1<2; decide) (by rw[len]; show 1<2; decide);have e0:Y.toList[0]'(by rw[len]; show 0<2; decide)= .slice none 0 0:=by
  obtain⟨J,_,N⟩:=hv0;have N:=N rfl;revert J N;generalize Y.toList[0]'(by rw[len]; show 0<2; decide)=sv;intro J N;have J:sv.cells.toList= [.slice none 0 0]:=J;cases sv<;>simp[Value.cells] at J N<;>simp[J]
 obtain⟨e1,_,_⟩:=yG (k:=.i64) (n:=n) hv1;have hvs:Y= #[.slice none 0 0,.int .i64 (n.toNat:Int)]:=by
  have U:Y.toList.length=2:=len;rw[← Array.toList_inj];apply List.ext_getElem
  ·exact U
  ·intro i a1 a2
   match i,a2 with
   | 0,_=>exact e0
   | 1,_=>show _=Value.int .i64 (n.toNat:Int); rw[Int.toNat_of_nonneg h1]; exact e1
 rw[hvs];refine Calls.mono (f:=30) (aW0 n.toNat w (by omega)) ?_;rintro e w' (⟨_,rfl,rfl⟩|⟨hp,rfl,rfl⟩)
 ·exact aPN (d:=(n,r)) hr.symm good (.refl nothing _) _ ⟨_,_,_,rfl⟩ ⟨rfl,.inl ⟨rfl,rfl⟩⟩ (fun b h=>by simp[aH] at h)
 ·have hG:=grownCap_ge w n.toNat 0 9;have hG2:=grownCap_le_maxLen w n.toNat 0 9 (by unfold maxLen; omega);have hk:∀o,bG nothing w (w.drew.alloc o):=fun o=>have k:=bG.alloc nothing w.drew o; ⟨rfl,rfl,rfl,k.size,k.block⟩;refine aPN (d:=(n,r)) hr.symm good (hk _) _ ⟨_,_,_,rfl⟩ ⟨rfl,.inr ⟨w.heap.size,_,Builtin.zeroCells #[Value.string ⟨#[]⟩] n.toNat++Builtin.zeroCells #[Value.string ⟨#[]⟩] (grownCap w n.toNat 0 9-n.toNat),rfl,Nat.zero_le _,?_,Nat.zero_le _,hG2,?_,rfl⟩⟩ ?_
  ·show (w.heap.push _)[w.heap.size]? = _;simp
  ·simp[Builtin.zeroCells];omega
  ·intro b h;simp only[aH,Option.some.injEq] at h;subst h;refine⟨Nat.le_refl _,?_⟩;show w.heap.size<(w.heap.push _).size;simp
end
end Nu
end Go.Proofs

