import Derived.Test.YtlijgfkkmamanaaGreatDoorZL5
import Derived.Test.YtlijgfkkmamanaaGreatDoorZS1
import Derived.Lib.AppendZeros
import Derived.Lib.SliceRun
import Derived.WalkKit
import Derived.Lib.Walk
import Derived.Shelf.RegionOpenPlain
set_option linter.unusedVariables false
set_option linter.unusedSimpArgs false
namespace Go.Proofs
open Go.Vc
set_option maxRecDepth 20000
namespace Nu
noncomputable section
set_option maxHeartbeats 4000000
def aMY:PlR:=⟨[(0,.A [0,1]),(1,.B [4])],[],[]⟩
@[go_sem]def aJg:Ty:=.pair wi qm
@[go_sem]def aDQ:aF:=⟨aJg,.own 165 qw,fun x=>aFk x.1 x.2.1,fun x=>gL x.1 x.2.1⟩
def aWV(F:Md):aF:=mSpec aJg (.own 165 qw) (fun x=>aCC F x.1 x.2.1)
abbrev aPa(F:Md):List (FuncId×aF):=[(142,dY)]
theorem aZn[Mx](F:Md):bF Tryz.prog GL (aPa F):=.cons rN xN (.nil)
attribute [go_sem] aMY
theorem aWW[Mx](F:Md):FOK Tryz.prog GL 145 (aWV F):=by
 refine bP (bA (aZn F)) mix Tryz.func145 rfl xN xAa aMY (fun w0 S x Θ q h hV=>?_);obtain⟨(f:qc),(g:Int),u⟩:=x;simp only[cA,go_sem];replace h:sat (aCC F f g) _:=h;unfold aCC at h;refine aK h fun g0 h=>?_;refine aK h fun g0 h=>?_;refine aD h fun g0 h=>?_;refine aD h fun g1 h=>(yaC ?_);exact zaD
theorem aWX[Mx]:FOK Tryz.prog GL 145 aDQ:=jY (aWW none) (fun⟨g,x1,u⟩ ⟨w0,f,q⟩ hp=>aVf g w0 x1 f hp)
def aJh(F:Md):fQ where
 D:=Nat×Nat×qc×qc×vn
 av:=fun d=>[.sub 0 1 d.1 d.2.1,.val wi d.2.2.1]
 hp:=fun d=>[.row 165 qw d.2.2.2.1]
 m:=1
 pre:=fun d=>aBW F d.1 d.2.1 d.2.2.1 d.2.2.2.1=some d.2.2.2.2
 out:=fun d=>(fun r:vn=>.ret (.val qw r.1) [.row 165 qw r.2]) d.2.2.2.2
def aPb:PlR:=⟨[(0,.A [0,1]),(1,.A [0,1,5]),(2,.A [0,1,5,6,8]),(3,.A [0,1,5,6,8,31]),(4,.A [0,1,5,6,7,8]),(5,.A [0,1,5,6,7,8]),(6,.A [0,1,5,6,7,65]),(7,.A [0,1,5,6,7,9,10]),(8,.A [0,1,5,6,7,92]),(9,.A [0,1,5,6,7]),(10,.A [0,1,5,6,7,8]),(11,.A [0,1,5,6,11,12]),(12,.A [0,1,5,6,11,12,105,106,107]),(13,.A [0,1,5,6,11,12,105,106,107,108]),(14,.A [0,1,5,6,11,12,13,14,105,106,107]),(15,.A [0,1,5,6,11,12,13,15,16,105,106,107]),(16,.A [0,1,5,6,11,12,13,15,16,105,106,107]),(17,.A [0,1,5,6,12,13,15,16,17,105,106,107]),(18,.A [0,1,5,6,11,12,13,16,105,106,107]),(19,.B [0,1,5,6,11,12,105,106,107]),(20,.A [0,1,5,6,11,12,105,106,107]),(21,.B [0,1,5,6,12]),(22,.A [0,1,5,6,155]),(23,.A [4]),(24,.A [0,1,5,6,11]),(25,.A [0,5,6,11,157,158,159]),(26,.A [0,5,6,11,157,158,159,160]),(27,.A [0,5,6,11,18,19,157,158,159]),(28,.B [0,5,6,11,157,158,159]),(29,.A [0,5,6,11,157,158,159]),(30,.B [6]),(31,.A [4])],[(6,9),(9,14),(15,24),(28,33)],[]⟩
abbrev aEl(F:Md):List (FuncId×aF):=[(150,yJ),(151,sF),(186,yK),(188,aDN)]
theorem bBx[Mx](F:Md):bF Tryz.prog GL (aEl F):=.cons aMV xN (.nat aHr (.cons aMX xN (.nat aWH (.nil))))
attribute [go_sem] aPb aJh
theorem aZo[Mx](F:Md):GOK Tryz.prog GL 147 (aJh F):=by
 refine kG (bA (bBx F)) mix Tryz.func147 rfl xN (fun _=>Nat.le_of_ble_eq_true rfl) aPb (fun c0 w0 d hw hw2 h hV=>?_);obtain⟨(f:Nat),(g:Nat),(q:qc),(I:qc),r⟩:=d;have hF:=hV.fr;replace h:=kH (show aBW F f g q I=some r from h);simp only[vH,List.map_cons,List.map_nil,go_sem];unfold aBW at h;refine dD hV (D:=Nat×Nat×Nat) (fun d=>sat (tC F q g f I d.1 d.2.1 d.2.2) (fun z=>z=r)) [1,5] (fun d=>[(0,.sub 0 1 f g),(6,.val qw d.1),(7,.val qw d.2.1),(8,.val qw d.2.2)]) (fun d=>[.inr (.row 165 qw I)]) ?_ ?_
 ·simp only[go_sem,bJ F,bK F,bL F];refine aD h fun g0 h=>?_;refine aD h fun g1 h=>?_;refine aD h fun g2 h=>?_;refine aD h fun g3 h=>(yaC ?_);refine cH h (fun hc h=>?_) fun hc h=>?_
  ·refine aD h fun g0 h=>?_;refine aD h fun g1 h=>?_;refine aD h fun g2 h=>?_;refine aD h fun g3 h=>?_;refine aD h fun g4 h=>?_;refine aD h fun g5 h=>?_;refine aD h fun g6 h=>?_;refine aD h fun g7 h=>(yaC ?_);exact aT ((rP (I.getD (f+(q.length)) (0:Nat)) (I.getD (f+((q.length:Int)-(1:Int)).toNat) (0:Nat)) (q.getD ((q.length:Int)-(1:Int)).toNat (0:Nat))).1,(rP (I.getD (f+(q.length)) (0:Nat)) (I.getD (f+((q.length:Int)-(1:Int)).toNat) (0:Nat)) (q.getD ((q.length:Int)-(1:Int)).toNat (0:Nat))).2.1,(0:Nat)) h rfl xAd
  ·refine aD h fun g0 h=>?_;refine aD h fun g1 h=>?_;refine aD h fun g2 h=>?_;refine aD h fun g3 h=>?_;refine aD h fun g4 h=>?_;refine aD h fun g5 h=>(yaC ?_);exact aT ((18446744073709551615:Nat),(uD (I.getD (f+((q.length:Int)-(1:Int)).toNat) (0:Nat)) (q.getD ((q.length:Int)-(1:Int)).toNat (0:Nat)) (0:Nat)).1,(uD (I.getD (f+((q.length:Int)-(1:Int)).toNat) (0:Nat)) (q.getD ((q.length:Int)-(1:Int)).toNat (0:Nat)) (0:Nat)).2.1) h rfl xAd
 ·rintro⟨x_4,Z,over_6⟩ h;simp only[go_sem,bJ F,bK F,bL F];replace h:sat (tC F q g f I x_4 Z over_6) _:=h;unfold tC at h;refine dD hV (D:=Nat) (fun d=>sat (vZ F q g f I d) (fun z=>z=r)) [1,5] (fun d=>[(0,.sub 0 1 f g),(6,.val qw d)]) (fun d=>[.inr (.row 165 qw I)]) ?_ ?_
  ·simp only[go_sem,bJ F,bK F,bL F];refine bQ hV (D:=Nat×Nat×Nat) [1,5] (fun d=>[(0,.sub 0 1 f g),(6,.val qw d.1),(7,.val qw d.2.1),(8,.val qw d.2.2)]) (fun d=>[.inr (.row 165 qw I)]) h rfl xAd ?_;rintro⟨L,O,N⟩ A6 T6 hA6 hE6 h;simp only[go_sem,bJ F,bK F,bL F];replace h:sat (pU F q g f I L O N) _:=h;unfold pU at h;refine cH h (fun hc h=>?_) fun hc h=>?_
   ·refine aD h fun g0 h=>?_;refine aD h fun g1 h=>(yaC ?_);refine aD h fun g0 h=>?_;refine aD h fun g1 h=>(yaC ?_);refine⟨fun hc=>?_,fun hc=>?_⟩
    ·replace h:=gZ hc h;replace h:=yaG (hE6 _ (aA h));exact aT (L) h rfl xAd
    ·replace h:=hO hc h;refine aD h fun g0 h=>?_;refine aD h fun g1 h=>?_;refine aD h fun g2 h=>(yaC ?_);replace h:=hA6 _ (aA h);exact zal
   ·replace h:=yaG (hE6 _ (aA h));exact aT (L) h rfl xAd
  ·rintro J h;simp only[go_sem,bJ F,bK F,bL F];replace h:sat (vZ F q g f I J) _:=h;unfold vZ at h;refine dD hV (D:=Nat×Nat×qc) (fun d=>sat (zW F q g f J d.1 d.2.1 d.2.2) (fun z=>z=r)) [1,5,6] (fun d=>[(0,.sub 0 1 f g),(11,.val qw d.1),(12,.val qw d.2.1)]) (fun d=>[.inr (.row 165 qw d.2.2)]) ?_ ?_
   ·simp only[go_sem,bJ F,bK F,bL F];refine bQ hV (D:=Nat×Nat×Int×qc) [1,5,6,105,106] (fun d=>[(0,.sub 0 1 f g),(11,.val qw d.1),(12,.val qw d.2.1),(107,.val qg d.2.2.1)]) (fun d=>[.inr (.row 165 qw d.2.2.2)]) h rfl xAd ?_;rintro⟨carry_41,borrow_42,Y,u_44⟩ A13 T13 hA13 hE13 h;simp only[go_sem,bJ F,bK F,bL F];replace h:sat (oH F q J g f carry_41 borrow_42 Y u_44) _:=h;unfold oH at h;refine dU h (fun hc h=>?_) fun hc h=>?_
    ·refine aD h fun g0 h=>(yaC ?_);refine aD h fun g0 h=>(yaC ?_);refine aD h fun g0 h=>?_;refine aD h fun g1 h=>(yaC ?_);refine aD h fun g0 h=>(yaC ?_);refine aD h fun g0 h=>?_;refine aD h fun g1 h=>(yaC ?_);refine aD h fun g0 h=>(yaC ?_);replace h:=hA13 _ (aA h);exact zal
    ·replace h:=yaG (hE13 _ (aA h));exact aT (carry_41,borrow_42,u_44) h rfl xAd
   ·rintro⟨carry_22,borrow_23,u_24⟩ h;simp only[go_sem,bJ F,bK F,bL F];replace h:sat (zW F q g f J carry_22 borrow_23 u_24) _:=h;unfold zW at h;refine aD h fun g0 h=>?_;refine aD h fun g1 h=>(yaC ?_);refine aD h fun g0 h=>(yaC ?_);refine aD h fun g0 h=>?_;refine aD h fun g1 h=>(yaC ?_);refine cH h (fun hc h=>?_) fun hc h=>?_
    ·obtain rfl:=aO h;refine dX hF [.tmp 4] rfl rfl rfl rfl rfl rfl ?_
     (try simp only[aS,kF,kC,fB,dG,AV.isAgg,go_sem,bJ F,bK F,bL F])<;>first|trivial|rfl|(simp; done)
    ·refine dD hV (D:=Nat×qc) (fun d=>sat (zV F q g f J d.1 d.2) (fun z=>z=r)) [5,6] (fun d=>[(0,.sub 0 1 f g),(11,.val qw d.1)]) (fun d=>[.inr (.row 165 qw d.2)]) ?_ ?_
     ·simp only[go_sem,bJ F,bK F,bL F];refine bQ hV (D:=Nat×Int×qc) [5,6,157,158] (fun d=>[(0,.sub 0 1 f g),(11,.val qw d.1),(159,.val qg d.2.1)]) (fun d=>[.inr (.row 165 qw d.2.2)]) h rfl xAd ?_;rintro⟨carry_33,U,u_35⟩ A26 T26 hA26 hE26 h;simp only[go_sem,bJ F,bK F,bL F];replace h:sat (oG F q g f carry_33 U u_35) _:=h;unfold oG at h;refine dU h (fun hc h=>?_) fun hc h=>?_
      ·refine aD h fun g0 h=>(yaC ?_);refine aD h fun g0 h=>?_;refine aD h fun g1 h=>(yaC ?_);refine aD h fun g0 h=>(yaC ?_);refine aD h fun g0 h=>?_;refine aD h fun g1 h=>(yaC ?_);refine aD h fun g0 h=>(yaC ?_);replace h:=hA26 _ (aA h);exact zal
      ·replace h:=yaG (hE26 _ (aA h));exact aT (carry_33,u_35) h rfl xAd
     ·rintro⟨carry_31,u_32⟩ h;simp only[go_sem,bJ F,bK F,bL F];replace h:sat (zV F q g f J carry_31 u_32) _:=h;unfold zV at h;refine aD h fun g0 h=>?_;refine aD h fun g1 h=>(yaC ?_);refine aD h fun g0 h=>?_;refine aD h fun g1 h=>(yaC ?_);obtain rfl:=aO h;refine dX hF [.tmp 4] rfl rfl rfl rfl rfl rfl ?_
      (try simp only[aS,kF,kC,fB,dG,AV.isAgg,go_sem,bJ F,bK F,bL F])<;>first|trivial|rfl|(simp; done)
@[go_sem]def aCF:Ty:=.pair wi vl
@[go_sem]def aDR:aF:=⟨aCF,.tup (.pair wi vl),fun x=>aI5 x.1 x.2.1,fun x=>rQ x.1 x.2.1⟩
def aWY(F:Md):aF:=mSpec aCF (.tup (.pair wi vl)) (fun x=>aCD F x.1 x.2.1)
abbrev pN(F:Md):List (FuncId×aF):=[(115,uN),(142,dY),(143,aFm),(144,gM),(145,aDQ),(146,aBZ),(148,jD),(149,aAq)]
theorem aPc[Mx](F:Md):bF Tryz.prog GL (pN F):=.cons aJd xN (.cons rN xN (.cons aZm xN (.cons xC xN (.cons aWX xN (.cons aSr xN (.cons zX xN (.cons aO7 xN (.nil))))))))
theorem aWZ[Mx](F:Md):FOK Tryz.prog GL 104 (aWY F):=by
 refine aFK (bA (aPc F)) Tryz.func104 rfl xN xAa fun w0 S x r Y h=>?_;have hF:vG (fr Tryz.prog (EM (pN F)) S w0 Tryz.f104.ntmps):=⟨bA (aPc F),mix⟩;obtain⟨(L:qc),(g:qc),u⟩:=x;simp only[aCF,Ty.wf,aHo] at Y;simp only[cA,aCF];try dsimp only at h
 replace h:aCD F L g=some r:=h;unfold aCD at h;refine aN (aR hF [0,1] (yaA ?_));refine aP (aN (aN (aR hF [0,1,15] (yaA ?_))));obtain⟨g0,h⟩:=bG h;repeat (refine⟨zAA,?_⟩)
 refine aP (dF rfl (fun hc=>?_) (fun hc=>?_))
 ·try simp only[go_sem] at hc
  have h:=pI zAC h;refine aN (dQ hF [4,5] (yaA ?_));obtain⟨g0,h⟩:=bG h;repeat (refine⟨zAA,?_⟩)
  obtain rfl:=Option.some.inj h;refine aP (iW (eL (pM hF [.tmp 4,.tmp 5] rfl rfl rfl ?_)));exact zaQ
 ·try simp only[go_sem] at hc
  have h:=oF zAC h;refine eO (aP (aN (aN (aR hF [0,1,20] (yaA ?_)))));refine aP (dF rfl (fun hc=>?_) (fun hc=>?_))
  ·(try simp only[go_sem] at hc);have h:=pI zAC h;refine aN (aR hF [4,5] (yaA ?_));obtain⟨g0,h⟩:=bG h;obtain⟨g1,h⟩:=bG h;(repeat (refine⟨zAA,?_⟩));obtain rfl:=Option.some.inj h;refine aP (iW (eL (pM hF [.tmp 4,.tmp 5] rfl rfl rfl ?_)));exact zaQ
  ·(try simp only[go_sem] at hc);have h:=oF zAC h;refine eO (aP (aN (aR hF [0,1,6,7] (yaA ?_))));obtain⟨g0,h⟩:=bG h;obtain⟨g1,h⟩:=bG h;(try simp only[I64,I32] at g0);(repeat (refine⟨zAA,?_⟩));refine aP (aN (dQ hF [0,6,7,8,9] (yaA ?_)));obtain⟨g0,h⟩:=bG h;(repeat (refine⟨zAA,?_⟩));obtain⟨g0,h⟩:=bG h;(repeat (refine⟨zAA,?_⟩));obtain⟨g0,h⟩:=bG h;(repeat (refine⟨zAA,?_⟩));obtain⟨g0,h⟩:=bG h;(try simp only[I64,I32] at g0);(repeat (refine⟨zAA,?_⟩));obtain⟨g0,h⟩:=bG h;(repeat (refine⟨zAA,?_⟩));refine aP (aN (dQ hF [0,6,7,8,9,10] (yaA ?_)));obtain⟨g0,h⟩:=bG h;(try simp only[I64,I32] at g0);(repeat (refine⟨zAA,?_⟩));obtain⟨g0,h⟩:=bG h;(try simp only[I64,I32] at g0);(repeat (refine⟨zAA,?_⟩));obtain⟨g0,h⟩:=bG h;obtain⟨g1,h⟩:=bG h;(repeat (refine⟨zAA,?_⟩));refine aP (aBU (D:=qc×qc) (fun d=>aBs F g d.1 d.2=some r) [6,7] (fun d=>[(9,.own 0),(10,.own 1)]) (fun d=>[.inr (.row 165 qw d.1),.inr (.row 165 qw d.2)]) ?_ ?_)
   ·refine aN (aR hF [6,7,8,9,10,11] (yaA ?_));obtain⟨g0,h⟩:=bG h;(try simp only[I64,I32] at g0);(repeat (refine⟨zAA,?_⟩));refine aP (sP (aNG 0 (yaA ?_)));refine aDL [1,2] rfl rfl (yaB ?_);refine aH1 (D:=Int×qc×qc) [6,7,8] (fun d=>[(9,.own 0),(10,.own 1),(11,.val qg d.1)]) (fun d=>[.inr (.row 165 qw d.2.1),.inr (.row 165 qw d.2.2)]) h ?_ ?_ ?_
    ·first|rfl|(simp only[go_sem]; done)
    ·exact zAI
    rintro⟨f,I,J⟩ s9 h z;simp only[go_sem];(try dsimp only at h);unfold uG at h;refine aN (aN (aR hF [6,7,8,9,10,11,60] (yaA ?_)));refine aP (dF rfl (fun hc=>?_) (fun hc=>?_))
    ·(try simp only[go_sem] at hc);have h:=pI zAC h;obtain⟨g0,h⟩:=bG h;(try simp only[I64,I32] at g0);obtain⟨g1,h⟩:=bG h;(try simp only[I64,I32] at g1);obtain⟨g2,h⟩:=bG h;obtain⟨q,U,h⟩:=bind_some h;(try dsimp only at h);obtain⟨Z,h⟩:=bG h;refine eO (aP (aN (sP (cP hF (eX (l:=[(147,⟨aJh F,[0],((f.toNat),(((f+(g.length:Int))+(1:Int))-f).toNat,(gL (kI g (aC (g.getD ((g.length:Int)-(1:Int)).toNat (0:Nat)))) (g.length:Int)),I,q)⟩)]) (.cons (aZo F) xN (.nil))) [6,7,8,9,10,11] [71] (yaE ?_)))));refine sD (aP (aR hF [6,7,8,9,10,11] (yaA ?_)));obtain⟨g0,h⟩:=bG h;(try simp only[I64,I32] at g0);(repeat (refine⟨zAA,?_⟩));obtain rfl:=Option.some.inj h;dsimp only[aCt] at z;refine dW (aT ((f-(1:Int)),q.2,(J.set (f.toNat) q.1)) z rfl ?_)
     ·exact zAI
    ·(try simp only[go_sem] at hc);have h:=oF zAC h;obtain rfl:=Option.some.inj h;dsimp only[aCt] at z;have h:=yaG (z);refine aFX (nJ (nJ (sE (dW (aT (I,J) h rfl ?_)))))
     ·exact zAI
   ·rintro⟨O,N⟩ h;(try dsimp only at h);simp only[go_sem];unfold aBs at h;refine aN (aNG 1 (yaA ?_));refine aNG 0 (yaA ?_);refine aR hF [4,5] (yaA ?_);obtain⟨g0,h⟩:=bG h;obtain⟨g1,h⟩:=bG h;(repeat (refine⟨zAA,?_⟩));obtain rfl:=Option.some.inj h;refine aP (iW (pM hF [.tmp 4,.tmp 5] rfl rfl rfl ?_));exact zaQ
theorem aW0[Mx]:FOK Tryz.prog GL 104 aDR:=jY (aWZ none) (fun⟨g,x1,u⟩ ⟨w0,f,q⟩ hp=>aVh g w0 x1 f hp)
theorem aDa[Mx]:bF Tryz.prog GL []:=.nil
def mM(F:Md)(f:Bool)(g:Int):Option (Unit⊕qp) :=
 if ¬(f=true) then some (.inr (g,())) else some (.inl ())
def aJi(F:Md):fQ where
 D:=Bool×Int×(Unit⊕qp)
 av:=fun d=>[.val .bool d.1,.val qg d.2.1]
 hp:=fun d=>[]
 m:=0
 pre:=fun d=>mM F d.1 d.2.1=some d.2.2
 out:=fun d=>match d.2.2 with| .inl r=>.ret (.tup []) []| .inr p=>.pan ⟨231,qm,p⟩ []
@[go_sem]def aJj(F:Md)(vs:List AV)(h:List Vc.Obj):Hit:=mkH (mM F (qV h vs 0 .bool) (qV h vs 1 qg)) (.inr ((0:Int),())) fun r=>⟨(aJi F),[],((qV h vs 0 .bool),(qV h vs 1 qg),r)⟩
def aPd:PlR:=⟨[(0,.A [1,5]),(1,.P [] [])],[],[]⟩
abbrev bBy(F:Md):List (FuncId×aF):=[]
theorem bBz[Mx](F:Md):bF Tryz.prog GL (bBy F):=.nil
attribute [go_sem] aPd aJi
theorem aPe[Mx](F:Md):GOK Tryz.prog GL 191 (aJi F):=by
 refine kG (bA (bBz F)) mix Tryz.func191 rfl xN (fun _=>Nat.le_of_ble_eq_true rfl) aPd (fun z w0 d I q h hV=>?_);obtain⟨(f:Bool),(g:Int),r⟩:=d;have hF:=hV.fr;replace h:=kH (show mM F f g=some r from h);simp only[vH,List.map_cons,List.map_nil,go_sem];unfold mM at h;refine aA1 h (fun hc h=>?_) fun hc h=>?_
 ·obtain rfl:=aO h;refine bC rfl rfl rfl rfl
 ·obtain rfl:=aO h;exact zas
def yL(F:Md)(g:Int)(f:qc)(q:Bool):Option (qx⊕qp) :=
 ck (I64 (g+(lK f))) ((mM F (decide ((g+(lK f))≤(1048576:Int))) (3:Int)).bind (fun e=>match e with| .inl I=>ck (I64 (g+(lK f))) (some (.inl (q,(wV f (lK f)),(g+(lK f)),())))| .inr z=>some (.inr z)))
def zY(F:Md)(q:Bool)(f:qc)(g:Int):Option (qx⊕qp) :=
 if (f.length:Int)=(0:Int) then some (.inl (false,([]:List Nat),(0:Int),())) else ck (pSz f) (ck (aY4 f (lK f)) ((mM F (decide ((((wV f (lK f)).length:Nat):Int)≤(64:Int))) (2:Int)).bind (fun e=>match e with| .inl O=>if g≤(1048576:Int) then ck (I64 ((-1048576:Int)-(lK f))) ((mM F ((decide (g≤(1048576:Int)))&&(decide (((-1048576:Int)-(lK f))≤g))) (3:Int)).bind (fun e=>match e with| .inl N=>yL F g f q| .inr I=>some (.inr I))) else (mM F false (3:Int)).bind (fun e=>match e with| .inl L=>yL F g f q| .inr z=>some (.inr z))| .inr J=>some (.inr J))))
def aLf(F:Md):fQ where
 D:=Bool×qc×Int×(qx⊕qp)
 av:=fun d=>[.val .bool d.1,.val wi d.2.1,.val qg d.2.2.1]
 hp:=fun d=>[]
 m:=0
 pre:=fun d=>zY F d.1 d.2.1 d.2.2.1=some d.2.2.2
 out:=fun d=>match d.2.2.2 with| .inl r=>.ret (.val qq r) []| .inr p=>.pan ⟨231,qm,p⟩ []
@[go_sem]def aLg(F:Md)(vs:List AV)(h:List Vc.Obj):Hit:=mkH (zY F (qV h vs 0 .bool) (qV h vs 1 wi) (qV h vs 2 qg)) (.inr ((0:Int),())) fun r=>⟨(aLf F),[],((qV h vs 0 .bool),(qV h vs 1 wi),(qV h vs 2 qg),r)⟩
def aSt(F:Md):PlR:=⟨[(0,.B [0,1,2,6]),(1,.A [0,1,2,6,10]),(2,.B [6]),(3,.A [0,1,2,6,7]),(4,.A [0,1,2,6,7]),(5,.P [0,1,2,6,7] []),(6,.P [0,1,2,6,7] []),(7,.P [0,1,2,6,7] []),(8,.B [6])],[(9,10)],[(191,aJj F)]⟩
abbrev aNW(F:Md):List (FuncId×aF):=[(149,aAq),(190,aFl)]
theorem bC7[Mx](F:Md):bF Tryz.prog GL (aNW F):=.cons aO7 xN (.cons aZe xN (.nil))
attribute [go_sem] aSt aLf
theorem aSu[Mx](F:Md):GOK Tryz.prog GL 156 (aLf F):=by
 refine kG (bA (bC7 F)) mix Tryz.func156 rfl xN (fun _=>Nat.le_of_ble_eq_true rfl) (aSt F) (fun c0 w0 d hw Z h hV=>?_) (.cons (fun _ _=>(aPe F)) xN (.nil));obtain⟨(f:Bool),(g:qc),(q:Int),r⟩:=d;have hF:=hV.fr;replace h:=kH (show zY F f g q=some r from h);simp only[vH,List.map_cons,List.map_nil,go_sem];unfold zY at h;refine cH h (fun hc h=>?_) fun hc h=>?_
 ·obtain rfl:=aO h;refine lS hF [.cell 6 119] [] rfl rfl rfl rfl rfl rfl rfl rfl rfl ?_;exact zaC
 ·refine aD h fun g0 h=>(yaC ?_);refine aD h fun g0 h=>(yaC ?_);refine aB h fun e hv h=>?_;rcases e with r_8|p_9
  ·(try dsimp only at h);simp only[hv,go_sem];refine dD hV (D:=Unit) (fun d=>sat (yL F q g f) (fun z=>z=r)) [0,1,2,7] (fun d=>[(6,.ptr 0 [])]) (fun d=>[.inr (.box 3 (.val qq (false,([]:List Nat),(0:Int),())))]) ?_ ?_
   ·simp only[go_sem];refine⟨fun hc=>?_,fun hc=>?_⟩
    ·replace h:=gZ zAC h;refine⟨fun _=>?_,fun I=>by first|(exfalso; omega)|(exfalso; simp_all; done)⟩;refine⟨fun _=>?_,fun I=>by first|(exfalso; omega)|(exfalso; simp_all; done)⟩;refine aD h fun g0 h=>(yaC ?_);refine⟨fun _=>?_,fun I=>by first|(exfalso; omega)|(exfalso; simp_all; done)⟩;refine aB h fun e hv h=>?_;rcases e with Y|N
     ·(try dsimp only at h);simp only[hv,go_sem];exact aT () h rfl xAb
     ·(try dsimp only at h);exact zaz
    ·replace h:=hO zAC h;(first|(refine⟨fun I=>by first|(exfalso; omega)|(exfalso; simp_all; done),fun _=>?_⟩)|(with_reducible intro _)|skip);(first|(refine⟨fun I=>by first|(exfalso; omega)|(exfalso; simp_all; done),fun _=>?_⟩)|(with_reducible intro _)|skip);(first|(refine⟨fun I=>by first|(exfalso; omega)|(exfalso; simp_all; done),fun _=>?_⟩)|(with_reducible intro _)|skip);refine aB h fun e hv h=>?_;rcases e with J|L
     ·(try dsimp only at h);simp only[hv,go_sem];(repeat (refine⟨zAB,?_⟩));exact aT () h rfl (by (try simp only[xU,fB,true_or,and_self,go_sem])<;>(repeat' apply And.intro)<;>first|rfl|(left; rfl)|(right; rfl)|(left; simp only[go_sem]; done)|(right; simp only[go_sem]; done)|(simp; done)|(simp only[*]; done)|omega)
     ·(try dsimp only at h);simp only[hv,go_sem];(repeat (refine⟨zAB,?_⟩));exact zaP
   ·rintro u h;simp only[go_sem];replace h:sat (yL F q g f) _:=h;unfold yL at h;refine aD h fun g0 h=>(yaC ?_);refine aB h fun e hv h=>?_;rcases e with O|U
    ·(try dsimp only at h);simp only[hv,go_sem];refine aD h fun g0 h=>(yaC ?_);obtain rfl:=aO h;refine lS hF [.cell 6 119] [] rfl rfl rfl rfl rfl rfl rfl rfl rfl ?_;exact zaC
    ·(try dsimp only at h);exact zaz
  ·(try dsimp only at h);exact zaz
def aAr(F:Md)(q:Bool)(f:qc)(g:Int):Option (qx⊕qp) :=
 (zY F q f g).bind (fun e=>match e with| .inl I=>some (.inl I)| .inr z=>some (.inr z))
def aDS(F:Md):fQ where
 D:=Bool×qc×Int×(qx⊕qp)
 av:=fun d=>[.val (.rp .bool) d.1,.val (.rp wi) d.2.1,.val (.rp qg) d.2.2.1]
 hp:=fun d=>[]
 m:=0
 pre:=fun d=>aAr F d.1 d.2.1 d.2.2.1=some d.2.2.2
 out:=fun d=>match d.2.2.2 with| .inl r=>.ret (.val qq r) []| .inr p=>.pan ⟨231,qm,p⟩ []
def aMZ(F:Md):PlR:=⟨[(0,.B [0,1,2,3]),(1,.P [3] [])],[],[(156,aLg F)]⟩
abbrev aZp(F:Md):List (FuncId×aF):=[]
theorem aZq[Mx](F:Md):bF Tryz.prog GL (aZp F):=.nil
attribute [go_sem] aMZ aDS
theorem aM0[Mx](F:Md):GOK Tryz.prog GL 155 (aDS F):=by
 refine kG (bA (aZq F)) mix Tryz.func155 rfl xN (fun _=>Nat.le_of_ble_eq_true rfl) (aMZ F) (fun L w0 d N z h hV=>?_) (.cons (fun _ _=>(aSu F)) xN (.nil));obtain⟨(q:Bool),(f:qc),(g:Int),r⟩:=d;have hF:=hV.fr;replace h:=kH (show aAr F q f g=some r from h);simp only[vH,List.map_cons,List.map_nil,go_sem];unfold aAr at h;refine aB h fun e hv h=>?_;rcases e with J|I
 ·try dsimp only at h
  simp only[hv,go_sem];exact zax
 ·try dsimp only at h
  exact zaz
def sH:fQ where
 D:=qx×Int
 av:=fun _=>[.ptr 0 [],.ptr 1 []]
 hp:=fun d=>[.box 3 (.val qq d.1),.box 1 (.val qg d.2)]
 m:=2
 pre:=fun _=>True
 out:=fun d=>.ret (.tup []) [.box 3 (.val qq d.1),.box 1 (.val qg d.2)]
def sJ(x:qp):fQ where
 D:=qx×Int
 av:=fun _=>[.ptr 0 [],.ptr 1 []]
 hp:=fun d=>[.box 3 (.val qq d.1),.box 1 (.val qg d.2)]
 m:=2
 pre:=fun _=>True
 out:=fun d=>.ret (.tup []) [.box 3 (.val qq (false,([]:List Nat),(0:Int),())),.box 1 (.val qg x.1)]
theorem aLh[Mx]:DOK Tryz.prog GL 189 none sH:=by
 refine aQP (bA aDa) Tryz.func189 rfl xN (fun _=>Nat.le_of_ble_eq_true rfl) rfl fun c w d g f hp q=>?_;have hF:vG ⟨Tryz.prog,EM [],GM sH c d,w,Tryz.f189.ntmps,[]⟩:=⟨bA aDa,mix⟩;obtain⟨d,e⟩:=d;show xV _ _ _ [(5,.val .nili ()),(0,.ptr 0 []),(1,.ptr 1 [])] [.box 3 (.val qq d),.box 1 (.val qg e)] _;simp only[go_sem];refine aN (aR hF [0,1,2,9] (yaA ?_));refine aP (dF rfl (fun hc=>absurd hc xAa) (fun hc=>?_));refine eO ?_;refine gK [0,1] rfl rfl (yaB ?_);exact zaZ
theorem aLi[Mx](x:qp):DOK Tryz.prog GL 189 (some ⟨231,qm,x⟩) (sJ x):=by
 refine aQP (bA aDa) Tryz.func189 rfl xN (fun _=>Nat.le_of_ble_eq_true rfl) rfl fun c w d g f hp q=>?_;have hF:vG ⟨Tryz.prog,EM [],GM (sJ x) c d,w,Tryz.f189.ntmps,[]⟩:=⟨bA aDa,mix⟩;obtain⟨d,e⟩:=d;show xV _ _ _ [(5,.val (.ifc 231 qm) x),(0,.ptr 0 []),(1,.ptr 1 [])] [.box 3 (.val qq d),.box 1 (.val qg e)] _;simp only[go_sem];refine aN (aR hF [0,1,2,9] (yaA ?_));refine aP (dF rfl (fun hc=>?_) (fun hc=>absurd hc xAa));refine aGY hF [] [] [.box 3 (.val qq (false,([]:List Nat),(0:Int),())),.box 1 (.val qg x.1),.box 1 (.val qm x)] xAa ?_ ?_
 ·simp only[go_sem];unfold anyS;intro i hi;have hi:i=0∨i=1:=by revert hi; revert i; decide
  rcases hi with rfl|rfl
  ·simp only[go_sem];skip;unfold anyS;intro i hi;have hi:i=1∨i=3:=(by revert hi; revert i; decide);rcases hi with rfl|rfl
   ·simp only[go_sem];exact zac
   ·simp only[go_sem];skip;unfold anyS;intro i hi;have hi:i=1:=(by revert hi; revert i; decide);subst hi;simp only[go_sem];skip;unfold anyS;intro i hi;have hi:i=2:=(by revert hi; revert i; decide);exact zaK
  ·simp only[go_sem];skip;unfold anyS;intro i hi;have hi:i=0∨i=2:=(by revert hi; revert i; decide);rcases hi with rfl|rfl
   ·simp only[go_sem];exact zac
   ·simp only[go_sem];skip;unfold anyS;intro i hi;have hi:i=0:=(by revert hi; revert i; decide);subst hi;simp only[go_sem];skip;unfold anyS;intro i hi;have hi:i=3:=(by revert hi; revert i; decide);exact zaK
 refine gK [0,1] rfl rfl (yaB ?_);exact zaZ
def jZ(F:Md)(f:Bool)(c1:qc)(g:Int):Option (qx×Int×Unit) :=
 (aAr F f c1 g).bind fun q=>some (match q with| .inl r=>(r,0,())| .inr p=>((false,([]:List Nat),(0:Int),()),p.1,()))
def aB0:Ty:=.pair (.clo 155 (.pair (.rp .bool) (.pair (.rp wi) (.pair (.rp qg) .unit)))) .unit
def pO(F:Md):aF:=mSpec aB0 (.tup (.pair qq qm)) (fun x=>jZ F x.1.1 x.1.2.1 x.1.2.2.1)
theorem aHv[Mx](F:Md):FOK Tryz.prog GL 154 (pO F):=by
 refine aI1 (bA aDa) Tryz.func154 rfl xN xAa fun w0 S x r I h=>?_;have hF:vG (fr Tryz.prog (EM []) S w0 Tryz.f154.ntmps):=⟨bA aDa,mix⟩;obtain⟨⟨(f:Bool),(c1:qc),(g:Int),z⟩,u⟩:=x;replace h:jZ F f c1 g=some r:=h;show Tri _ _ _ [(0,.val (.clo 155 (.pair (.rp .bool) (.pair (.rp wi) (.pair (.rp qg) .unit)))) (f,c1,g,z))] [];unfold jZ at h;obtain⟨q,hq,h⟩:=bind_some h;obtain rfl:=Option.some.inj h;refine aN (dQ hF [0,2,3] (yaA ?_));refine aP (aDM 2 [0,1] rfl rfl (Nat.zero_le _) xAa fun roots hroots=>?_);have hF':vG { fr Tryz.prog (EM []) S w0 Tryz.f154.ntmps with M:=⟨nothing,S,2,roots⟩,ds:=[⟨.fn (.func 189) ([0,1].map roots).toArray,#[]⟩] }:=⟨bA aDa,mix⟩;rcases q with q|q
 ·refine aN (cP hF' (eX (l:=[(155,⟨aDS F,[],(f,c1,g,.inl q)⟩)]) (.cons (aM0 F) xN .nil)) [2,3] [] (yaA ?_));exact zak
 ·refine aN (cP hF' (eX (l:=[(155,⟨aDS F,[],(f,c1,g,.inr q)⟩)]) (.cons (aM0 F) xN .nil)) [2,3] [] (yaA ?_));exact zah
attribute [go_sem] pO aB0
def zZ(F:Md)(f:Bool)(z:qc)(q:Int):Option (qx×qp) :=
 (jZ F f z q).bind (fun g=>some (g.1,g.2.1,()))
def aSv:PlR:=⟨[(0,.B [3,4,5,6]),(1,.stop)],[],[]⟩
def aVu:Ty:=.pair .bool (.pair wi qm)
def aB1(F:Md):aF:=mSpec aVu (.tup (.pair qq qm)) (fun x=>zZ F x.1 x.2.1 x.2.2.1)
abbrev aVv(F:Md):List (FuncId×aF):=[(154,(pO F))]
theorem bC8[Mx](F:Md):bF Tryz.prog GL (aVv F):=.cons (aHv F) xN (.nil)
attribute [go_sem] aVu aSv
theorem aSw[Mx](F:Md):FOK Tryz.prog GL 108 (aB1 F):=by
 refine bP (bA (bC8 F)) mix Tryz.func108 rfl xN xAa aSv (fun w0 S x Θ I h hV=>?_);obtain⟨(f:Bool),(q:qc),(g:Int),u⟩:=x;simp only[cA,go_sem];replace h:sat (zZ F f q g) _:=h;unfold zZ at h;refine aEe 0 rfl (yaA ?_);refine aEe 1 rfl (yaA ?_);refine aEe 2 rfl (yaA ?_);refine aU3 hV [6,7] (yaA ?_);refine aB h fun z hv h=>?_;try simp only[hv,go_sem]
 exact aG hV [.cell 6 119,.tmp 7] rfl rfl rfl (aA h) xAc
attribute [go_sem] aB1
def nM(F:Md)(f:qx):Option Bool :=
 if (f.2.1.length:Int)=(0:Int) then some ((!f.1)&&(decide (f.2.2.1=(0:Int)))) else ck (((aH6 f.2.1)=true)→((0:Int)<(f.2.1.length:Int))) (some ((((aH6 f.2.1)&&(decide (((f.2.1.getD (0:Nat) (0:Nat))&&&(1:Nat))=(1:Nat))))&&(decide ((-1048576:Int)≤f.2.2.1)))&&(decide (f.2.2.1≤(1048576:Int)))))
def aSx:PlR:=⟨[(0,.B [1]),(1,.A [1,6]),(2,.A [2]),(3,.A [2])],[],[]⟩
def aVx:Ty:=.pair qq .unit
def wW(F:Md):aF:=mSpec aVx (.one .bool) (fun x=>nM F x.1)
abbrev aVy(F:Md):List (FuncId×aF):=[(157,aJc)]
theorem bC9[Mx](F:Md):bF Tryz.prog GL (aVy F):=.cons bC0 xN (.nil)
attribute [go_sem] aVx aSx
theorem aLj[Mx](F:Md):FOK Tryz.prog GL 109 (wW F):=by
 refine bP (bA (bC9 F)) mix Tryz.func109 rfl xN xAa aSx (fun w0 S x Θ g h hV=>?_);obtain⟨(f:qx),u⟩:=x;simp only[cA,go_sem];replace h:sat (nM F f) _:=h;unfold nM at h;refine cH h (fun hc h=>?_) fun hc h=>?_
 ·exact aG hV [.tmp 2] rfl rfl rfl (aA h) xAc
 ·refine aK h fun g0 h=>?_;exact zaF
attribute [go_sem] wW
def uP(F:Md)(f:qx):Option Int :=
 (nM F f).bind (fun g=>if (¬(g=true))∨((f.2.1.length:Int)=(0:Int)) then some (0:Int) else if f.1=true then some (-1:Int) else some (1:Int))
def aPf:PlR:=⟨[(0,.B [1]),(1,.A [1,3]),(2,.A [2]),(3,.A [13]),(4,.A [2]),(5,.A [2])],[],[]⟩
def aSy:Ty:=.pair qq .unit
def aAs(F:Md):aF:=mSpec aSy (.one qg) (fun x=>uP F x.1)
abbrev aSz(F:Md):List (FuncId×aF):=[(109,(wW F))]
theorem bBA[Mx](F:Md):bF Tryz.prog GL (aSz F):=.cons (aLj F) xN (.nil)
attribute [go_sem] aSy aPf
theorem aPg[Mx](F:Md):FOK Tryz.prog GL 60 (aAs F):=by
 refine bP (bA (bBA F)) mix Tryz.func60 rfl xN xAa aPf (fun w0 S x Θ q h hV=>?_);obtain⟨(f:qx),u⟩:=x;simp only[cA,go_sem];replace h:sat (uP F f) _:=h;unfold uP at h;refine aB h fun g hv h=>?_;try simp only[hv,go_sem]
 refine⟨fun hc=>?_,fun hc=>?_⟩
 ·replace h:=gZ zAC h;exact zaF
 ·replace h:=hO zAC h;exact zag
attribute [go_sem] aAs
def aB2(F:Md)(f:qx)(g:qx):Option Int :=
 ck (bEr f.2.1) (ck (I64 ((sX f.2.1)+f.2.2.1)) (ck (bEr g.2.1) (ck (I64 ((sX g.2.1)+g.2.2.1)) (if ((sX f.2.1)+f.2.2.1)<((sX g.2.1)+g.2.2.1) then some (-1:Int) else if ((sX g.2.1)+g.2.2.1)<((sX f.2.1)+f.2.2.1) then some (1:Int) else ck (I64 (f.2.2.1-(min f.2.2.1 g.2.2.1))) (ck (aX4 f.2.1 (f.2.2.1-(min f.2.2.1 g.2.2.1))) (ck (I64 (g.2.2.1-(min f.2.2.1 g.2.2.1))) (ck (aX4 g.2.1 (g.2.2.1-(min f.2.2.1 g.2.2.1))) (ck (bA5 (kI f.2.1 (f.2.2.1-(min f.2.2.1 g.2.2.1))) (kI g.2.1 (g.2.2.1-(min f.2.2.1 g.2.2.1)))) (some (sG (kI f.2.1 (f.2.2.1-(min f.2.2.1 g.2.2.1))) (kI g.2.1 (g.2.2.1-(min f.2.2.1 g.2.2.1)))))))))))))
def aPh:PlR:=⟨[(0,.B [2,3]),(1,.A [2,3,5,6]),(2,.A [2,3,5,6,20]),(3,.A [4]),(4,.A [2,3,24]),(5,.A [4]),(6,.A [2,3,7]),(7,.A [4])],[],[]⟩
def aSA:Ty:=.pair qq (.pair qq .unit)
def aFn(F:Md):aF:=mSpec aSA (.one qg) (fun x=>aB2 F x.1 x.2.1)
abbrev aG5(F:Md):List (FuncId×aF):=[(115,uN),(146,aBZ),(158,aG2)]
theorem bBB[Mx](F:Md):bF Tryz.prog GL (aG5 F):=.cons aJd xN (.cons aSr xN (.cons bBl xN (.nil)))
attribute [go_sem] aSA aPh
theorem aZr[Mx](F:Md):FOK Tryz.prog GL 110 (aFn F):=by
 refine bP (bA (bBB F)) mix Tryz.func110 rfl xN xAa aPh (fun w0 S x Θ J h hV=>?_);obtain⟨(f:qx),(g:qx),u⟩:=x;simp only[cA,go_sem];replace h:sat (aB2 F f g) _:=h;unfold aB2 at h;refine aK h fun g0 h=>aK h fun g1 h=>aK h fun z h=>aK h fun q h=>?_;refine dU h (fun hc h=>?_) fun hc h=>?_
 ·exact aG hV [.tmp 4] rfl rfl rfl (aA h) xAc
 ·refine dU h (fun hc h=>?_) fun hc h=>?_
  ·exact aG hV [.tmp 4] rfl rfl rfl (aA h) xAc
  ·refine aK h fun g0 h=>aK h fun g1 h=>aK h fun z h=>aK h fun q h=>aK h fun I h=>?_;exact zaD
attribute [go_sem] aFn
def aAa(F:Md)(I:qx)(g:qx):Option Int :=
 (uP F I).bind (fun v_13=>(uP F g).bind (fun f=>(nM F I).bind (fun z=>ck (¬(¬(z=true))→((nM F g).isSome=true)) (if (¬(z=true))∨(¬(((nM F g).getD false)=true)) then some (0:Int) else if (¬(v_13=f))∧(v_13<f) then some (-1:Int) else if ¬(v_13=f) then some (1:Int) else if v_13=(0:Int) then some (0:Int) else (aB2 F I g).bind (fun q=>ck (I64 (v_13*q)) (some (v_13*q)))))))
def aSB:PlR:=⟨[(0,.B [2,3]),(1,.A [2,3,5,6]),(2,.A [2,3,5,6,11]),(3,.A [4]),(4,.A [2,3,5,6,20]),(5,.A [4]),(6,.A [2,3,5,29]),(7,.A [4]),(8,.A [2,3,5,33]),(9,.A [4]),(10,.A [4])],[],[]⟩
def aVA:Ty:=.pair qq (.pair qq .unit)
def aB3(F:Md):aF:=mSpec aVA (.one qg) (fun x=>aAa F x.1 x.2.1)
abbrev aJk(F:Md):List (FuncId×aF):=[(109,(wW F)),(110,(aFn F)),(60,(aAs F))]
theorem bDa[Mx](F:Md):bF Tryz.prog GL (aJk F):=.cons (aLj F) xN (.cons (aZr F) xN (.cons (aPg F) xN (.nil)))
attribute [go_sem] aVA aSB
theorem aSC[Mx](F:Md):FOK Tryz.prog GL 61 (aB3 F):=by
 refine bP (bA (bDa F)) mix Tryz.func61 rfl xN xAa aSB (fun w0 S x Θ J h hV=>?_);obtain⟨(f:qx),(g:qx),u⟩:=x;simp only[cA,go_sem];replace h:sat (aAa F f g) _:=h;unfold aAa at h;refine aB h fun v_13 hv h=>?_;try simp only[hv,go_sem]
 refine aB h fun z hv h=>?_;try simp only[hv,go_sem]
 refine aB h fun I hv h=>?_;try simp only[hv,go_sem]
 refine aD h fun g0 h=>?_;repeat (refine⟨zAH,?_⟩)
 refine⟨fun hc=>?_,fun hc=>?_⟩
 ·replace h:=gZ zAC h;exact zaD
 ·replace h:=hO zAC h;refine⟨fun hc=>?_,fun hc=>?_⟩
  ·replace h:=gZ hc h;exact zaD
  ·replace h:=hO hc h;refine cH h (fun hc h=>?_) fun hc h=>?_
   ·exact aG hV [.tmp 4] rfl rfl rfl (aA h) xAc
   ·refine cH h (fun hc h=>?_) fun hc h=>?_
    ·exact aG hV [.tmp 4] rfl rfl rfl (aA h) xAc
    ·refine aB h fun q hv h=>?_;(try simp only[hv,go_sem]);refine aD h fun g0 h=>?_;(try simp only[I64,I32] at g0);(repeat (refine⟨zAB,?_⟩));exact zaD
attribute [go_sem] aB3
def aAt(F:Md)(g:Int)(q:Int)(f:Nat):Option (qx×qp) :=
 ck (pSz ([f]:List Nat)) ((zZ F (decide (g<(0:Int))) (qZ ([f]:List Nat)) q).bind (fun v_5=>some (v_5.1,v_5.2.1,())))
def aFM(F:Md)(f:Int)(g:Int):Option (qx×qp) :=
 if f<(0:Int) then aAt F f g (aMx F .u64 (f%(18446744073709551616:Int)).toNat) else aAt F f g (f%(18446744073709551616:Int)).toNat
def aVD:PlR:=⟨[(0,.B [0,1,4]),(1,.A [0,1,4,6]),(2,.A [0,1,4,6,10]),(3,.A [0,1,4,6]),(4,.B [4,5])],[(5,7)],[]⟩
def aX7:Ty:=.pair qg qm
def aJl(F:Md):aF:=mSpec aX7 (.tup (.pair qq qm)) (fun x=>aFM F x.1 x.2.1)
abbrev aRb(F:Md):List (FuncId×aF):=[(108,(aB1 F)),(153,aBY)]
theorem bFM[Mx](F:Md):bF Tryz.prog GL (aRb F):=.cons (aSw F) xN (.cons aSp xN (.nil))
attribute [go_sem] aX7 aVD
theorem bDb[Mx](F:Md):FOK Tryz.prog GL 111 (aJl F):=by
 refine bP (bA (bFM F)) mix Tryz.func111 rfl xN xAa aVD (fun w0 S x Θ z h hV=>?_);obtain⟨(f:Int),(g:Int),u⟩:=x;simp only[cA,go_sem];replace h:sat (aFM F f g) _:=h;unfold aFM at h;refine dD hV (D:=Nat) (fun d=>sat (aAt F f g d) Θ) [0,1] (fun d=>[(4,.ptr 0 []),(6,.val qw d)]) (fun d=>[.inr (.box 3 (.val qq (false,([]:List Nat),(0:Int),())))]) ?_ ?_
 ·simp only[go_sem,bJ F,bK F,bL F];refine dU h (fun hc h=>?_) fun hc h=>?_
  ·exact aT (aMx F .u64 (f%(18446744073709551616:Int)).toNat) h rfl xAd
  ·exact aT (f%(18446744073709551616:Int)).toNat h rfl xAd
 ·rintro q h;simp only[go_sem,bJ F,bK F,bL F];replace h:sat (aAt F f g q) _:=h;unfold aAt at h;refine aD h fun g0 h=>(yaC ?_);refine aB h fun v_5 hv h=>?_;try simp only[hv,go_sem,bJ F,bK F,bL F]
  exact aG hV [.cell 4 119,.tmp 5] rfl rfl rfl (aA h) xAe
attribute [go_sem] aJl
def uQ(F:Md)(f:qx)(g:qx):Option (qx⊕qp) :=
 ck (aSW f.2.1 g.2.1) (ck (I64 (f.2.2.1+g.2.2.1)) ((zY F (f.1 != g.1) (dE f.2.1 g.2.1) (f.2.2.1+g.2.2.1)).bind (fun e=>match e with| .inl r_7=>some (.inl r_7)| .inr p_8=>some (.inr p_8))))
def aHw(F:Md):fQ where
 D:=qx×qx×(qx⊕qp)
 av:=fun d=>[.val qq d.1,.val qq d.2.1]
 hp:=fun d=>[]
 m:=0
 pre:=fun d=>uQ F d.1 d.2.1=some d.2.2
 out:=fun d=>match d.2.2 with| .inl r=>.ret (.val qq r) []| .inr p=>.pan ⟨231,qm,p⟩ []
@[go_sem]def aM1(F:Md)(vs:List AV)(h:List Vc.Obj):Hit:=mkH (uQ F (qV h vs 0 qq) (qV h vs 1 qq)) (.inr ((0:Int),())) fun r=>⟨(aHw F),[],((qV h vs 0 qq),(qV h vs 1 qq),r)⟩
def aM2(F:Md):PlR:=⟨[(0,.B [2,3,4]),(1,.Q 15 [4] [])],[],[(156,aLg F)]⟩
abbrev aPi(F:Md):List (FuncId×aF):=[(105,jN)]
theorem aZs[Mx](F:Md):bF Tryz.prog GL (aPi F):=.cons aAp xN (.nil)
attribute [go_sem] aM2 aHw
theorem aW4[Mx](F:Md):GOK Tryz.prog GL 160 (aHw F):=by
 refine kG (bA (aZs F)) mix Tryz.func160 rfl xN (fun _=>Nat.le_of_ble_eq_true rfl) (aM2 F) (fun z w0 d I q h hV=>?_) (.cons (fun _ _=>(aSu F)) xN (.nil));obtain⟨(f:qx),(g:qx),r⟩:=d;have hF:=hV.fr;replace h:=kH (show uQ F f g=some r from h);simp only[vH,List.map_cons,List.map_nil,go_sem];unfold uQ at h;refine⟨by kernel_rfl,?_⟩;refine aD h fun g0 h=>?_;refine aD h fun g1 h=>?_;try simp only[I64,I32] at g1
 repeat (refine⟨zAB,?_⟩)
 refine aB h fun e hv h=>?_;rcases e with r_7|p_8
 ·try dsimp only at h
  simp only[hv,go_sem];obtain rfl:=aO h;refine lS hF [.cell 4 119] [] rfl rfl rfl rfl rfl rfl rfl rfl rfl ?_;exact zaC
 ·try dsimp only at h
  exact zaz
def iB(F:Md)(f:qx)(g:qx)(U:Unit):Option (qx⊕qp) :=
 ck ((nM F f).isSome=true) (if ((nM F f).getD false)=true then ck ((nM F g).isSome=true) ((mM F (((nM F f).getD false)&&((nM F g).getD false)) (1:Int)).bind (fun e=>match e with| .inl O=>(uQ F f g).bind (fun e=>match e with| .inl L=>some (.inl L)| .inr q=>some (.inr q))| .inr z=>some (.inr z))) else (mM F false (1:Int)).bind (fun e=>match e with| .inl Y=>(uQ F f g).bind (fun e=>match e with| .inl I=>some (.inl I)| .inr J=>some (.inr J))| .inr N=>some (.inr N)))
def pP(F:Md):fQ where
 D:=qx×qx×Unit×(qx⊕qp)
 av:=fun d=>[.val (.rp qq) d.1,.val (.rp qq) d.2.1,.val (.rp (.clo 160 .unit)) d.2.2.1]
 hp:=fun d=>[]
 m:=0
 pre:=fun d=>iB F d.1 d.2.1 d.2.2.1=some d.2.2.2
 out:=fun d=>match d.2.2.2 with| .inl r=>.ret (.val qq r) []| .inr p=>.pan ⟨231,qm,p⟩ []
def aA6(F:Md):PlR:=⟨[(0,.B [0,1,2,3]),(1,.P [0,1,2,3] []),(2,.P [3] [])],[],[(160,aM1 F),(191,aJj F)]⟩
abbrev aB4(F:Md):List (FuncId×aF):=[(109,(wW F))]
theorem aIa[Mx](F:Md):bF Tryz.prog GL (aB4 F):=.cons (aLj F) xN (.nil)
attribute [go_sem] aA6 pP
theorem aA7[Mx](F:Md):GOK Tryz.prog GL 192 (pP F):=by
 refine kG (bA (aIa F)) mix Tryz.func192 rfl xN (fun _=>Nat.le_of_ble_eq_true rfl) (aA6 F) (fun c0 w0 d hw Z h hV=>?_) (.cons (fun _ _=>(aW4 F)) xN (.cons (fun _ _=>(aPe F)) xN (.nil)));obtain⟨(q:qx),(g:qx),(f:Unit),r⟩:=d;have hF:=hV.fr;replace h:=kH (show iB F q g f=some r from h);simp only[vH,List.map_cons,List.map_nil,go_sem];unfold iB at h;refine aK h fun g0 h=>?_;refine⟨fun hc=>?_,fun hc=>?_⟩
 ·replace h:=gZ zAC h;refine⟨fun _=>?_,fun hx=>by first|(exfalso; omega)|(exfalso; simp_all; done)⟩;refine aK h fun g0 h=>?_;refine aB h fun e hv h=>?_;rcases e with I|J
  ·(try dsimp only at h);simp only[hv,go_sem];refine aB h fun e hv h=>?_;rcases e with O|z
   ·(try dsimp only at h);simp only[hv,go_sem];exact zax
   ·(try dsimp only at h);exact zaz
  ·(try dsimp only at h);exact zaz
 ·replace h:=hO zAC h;first|(refine⟨fun hx=>by first|(exfalso; omega)|(exfalso; simp_all; done),fun _=>?_⟩)|(with_reducible intro _)|skip
  refine aB h fun e hv h=>?_;rcases e with Y|U
  ·(try dsimp only at h);simp only[hv,go_sem];refine aB h fun e hv h=>?_;rcases e with L|N
   ·(try dsimp only at h);simp only[hv,go_sem];(repeat (refine⟨zAB,?_⟩));exact zax
   ·(try dsimp only at h);simp only[hv,go_sem];(repeat (refine⟨zAB,?_⟩));exact zaP
  ·(try dsimp only at h);simp only[hv,go_sem];(repeat (refine⟨zAB,?_⟩));exact zaP
def dL(F:Md)(f:qx)(c1:qx)(g:Unit):Option (qx×Int×Unit) :=
 (iB F f c1 g).bind fun q=>some (match q with| .inl r=>(r,0,())| .inr p=>((false,([]:List Nat),(0:Int),()),p.1,()))
def tD:Ty:=.pair (.clo 192 (.pair (.rp qq) (.pair (.rp qq) (.pair (.rp (.clo 160 .unit)) .unit)))) .unit
def iH(F:Md):aF:=mSpec tD (.tup (.pair qq qm)) (fun x=>dL F x.1.1 x.1.2.1 x.1.2.2.1)
theorem aA8[Mx](F:Md):FOK Tryz.prog GL 154 (iH F):=by
 refine aI1 (bA aDa) Tryz.func154 rfl xN xAa fun w0 S x r I h=>?_;have hF:vG (fr Tryz.prog (EM []) S w0 Tryz.f154.ntmps):=⟨bA aDa,mix⟩;obtain⟨⟨(f:qx),(c1:qx),(g:Unit),z⟩,u⟩:=x;replace h:dL F f c1 g=some r:=h;show Tri _ _ _ [(0,.val (.clo 192 (.pair (.rp qq) (.pair (.rp qq) (.pair (.rp (.clo 160 .unit)) .unit)))) (f,c1,g,z))] [];unfold dL at h;obtain⟨q,hq,h⟩:=bind_some h;obtain rfl:=Option.some.inj h;refine aN (dQ hF [0,2,3] (yaA ?_));refine aP (aDM 2 [0,1] rfl rfl (Nat.zero_le _) xAa fun roots hroots=>?_);have hF':vG { fr Tryz.prog (EM []) S w0 Tryz.f154.ntmps with M:=⟨nothing,S,2,roots⟩,ds:=[⟨.fn (.func 189) ([0,1].map roots).toArray,#[]⟩] }:=⟨bA aDa,mix⟩;rcases q with q|q
 ·refine aN (cP hF' (eX (l:=[(192,⟨pP F,[],(f,c1,g,.inl q)⟩)]) (.cons (aA7 F) xN .nil)) [2,3] [] (yaA ?_));exact zak
 ·refine aN (cP hF' (eX (l:=[(192,⟨pP F,[],(f,c1,g,.inr q)⟩)]) (.cons (aA7 F) xN .nil)) [2,3] [] (yaA ?_));exact zah
attribute [go_sem] iH tD
def oP(F:Md)(g:qx)(q:qx)(f:Unit):Option (qx×qp) :=
 ck ((dL F g q f).isSome=true) (some (((dL F g q f).getD ((false,([]:List Nat),(0:Int),()),(0:Int),())).1,((dL F g q f).getD ((false,([]:List Nat),(0:Int),()),(0:Int),())).2.1,()))
def aCG:PlR:=⟨[(0,.B [3,4,5,6]),(1,.stop)],[],[]⟩
def aDb:Ty:=.pair qq (.pair qq (.pair (.clo 160 .unit) .unit))
def rR(F:Md):aF:=mSpec aDb (.tup (.pair qq qm)) (fun x=>oP F x.1 x.2.1 x.2.2.1)
abbrev aDc(F:Md):List (FuncId×aF):=[(154,(iH F))]
theorem aKk[Mx](F:Md):bF Tryz.prog GL (aDc F):=.cons (aA8 F) xN (.nil)
attribute [go_sem] aDb aCG
theorem aJm[Mx](F:Md):FOK Tryz.prog GL 159 (rR F):=by
 refine bP (bA (aKk F)) mix Tryz.func159 rfl xN xAa aCG (fun w0 S x Θ z h hV=>?_);obtain⟨(g:qx),(q:qx),(f:Unit),u⟩:=x;simp only[cA,go_sem];replace h:sat (oP F g q f) _:=h;unfold oP at h;refine aEe 0 rfl (yaA ?_);refine aEe 1 rfl (yaA ?_);refine aEe 2 rfl (yaA ?_);refine aU3 hV [6,7] (yaA ?_);refine aK h fun g0 h=>?_;exact aG hV [.cell 6 119,.tmp 7] rfl rfl rfl (aA h) xAc
attribute [go_sem] rR
def aDB(F:Md)(g:qx)(q:qx):Option (qx×qp) :=
 (oP F g q ()).bind (fun f=>some (f.1,f.2.1,()))
def aSD:PlR:=⟨[(0,.B [2,3,4]),(1,.B [4,5])],[],[]⟩
def aVE:Ty:=.pair qq (.pair qq .unit)
def aG6(F:Md):aF:=mSpec aVE (.tup (.pair qq qm)) (fun x=>aDB F x.1 x.2.1)
abbrev aVF(F:Md):List (FuncId×aF):=[(159,(rR F))]
theorem bDc[Mx](F:Md):bF Tryz.prog GL (aVF F):=.cons (aJm F) xN (.nil)
attribute [go_sem] aVE aSD
theorem bBC[Mx](F:Md):FOK Tryz.prog GL 112 (aG6 F):=by
 refine bP (bA (bDc F)) mix Tryz.func112 rfl xN xAa aSD (fun w0 S x Θ z h hV=>?_);obtain⟨(f:qx),(g:qx),u⟩:=x;simp only[cA,go_sem];replace h:sat (aDB F f g) _:=h;unfold aDB at h;refine aB h fun q hv h=>?_;try simp only[hv,go_sem]
 exact aG hV [.cell 4 119,.tmp 5] rfl rfl rfl (aA h) xAc
attribute [go_sem] aG6
def tE:ByteArray:=⟨⟨97::98::99::100::101::102::103::104::105::106::107::108::109::110::111::112::113::114::115::116::117::118::119::120::121::122::48::49::50::51::52::53::54::55::56::57::95:: []⟩⟩
@[go_sem]theorem aW5:(⟨⟨97::98::99::100::101::102::103::104::105::106::107::108::109::110::111::112::113::114::115::116::117::118::119::120::121::122::48::49::50::51::52::53::54::55::56::57::95:: []⟩⟩:ByteArray)=tE:=rfl
def fS(F:Md)(g:Nat)(f:qc):Option (qc⊕qc) :=
 ck (((0:Int)<(f.length:Int))→(I64 ((f.length:Int)-(1:Int)))) (ck (((0:Int)<(f.length:Int))→(0≤((f.length:Int)-(1:Int))∧((f.length:Int)-(1:Int))<(f.length:Int))) (if ((0:Int)<(f.length:Int))∧((f.getD ((f.length:Int)-(1:Int)).toNat (0:Nat))=g) then ck (I64 ((f.length:Int)-(1:Int))) (ck (0≤((f.length:Int)-(1:Int))∧((f.length:Int)-(1:Int))≤(f.length:Int)) (some (.inl (List.take ((f.length:Int)-(1:Int)).toNat f)))) else some (.inr f)))
def eY(F:Md)(g:qc)(f:Nat):Option qc :=
 (dK F (fun d:qc=>fS F f d) g).bind (fun e=>some e)
def aA9:PlR:=⟨[(0,.A [0,1]),(1,.A [0,1,16]),(2,.A [0,1]),(3,.A [4])],[],[]⟩
def aB5:Ty:=.pair .str ve
def iY(F:Md):aF:=mSpec aB5 (.one .str) (fun x=>eY F x.1 x.2.1)
abbrev aIb(F:Md):List (FuncId×aF):=[]
theorem aIc[Mx](F:Md):bF Tryz.prog GL (aIb F):=.nil
attribute [go_sem] aB5 aA9
theorem aBa[Mx](F:Md):FOK Tryz.prog GL 44 (iY F):=by
 refine bP (bA (aIc F)) mix Tryz.func44 rfl xN xAa aA9 (fun w0 S x Θ N h hV=>?_);obtain⟨(z:qc),(f:Nat),u⟩:=x;simp only[cA,go_sem];replace h:sat (eY F z f) _:=h;unfold eY at h;refine bQ hV (D:=qc) [1] (fun d=>[(0,.val .str d)]) (fun d=>[]) h rfl xAb ?_;rintro q L J g I h;simp only[go_sem];replace h:sat (fS F f q) _:=h;unfold fS at h;refine aK h fun g0 h=>aK h fun g1 h=>?_;refine⟨fun hc=>?_,fun hc=>?_⟩
 ·replace h:=gZ hc h;refine aK h fun g0 h=>aK h fun g1 h=>?_;replace h:=g _ (aA h);exact zaI
 ·replace h:=hO hc h;replace h:=yaG (I _ (aA h));exact zaD
attribute [go_sem] iY
def gG(F:Md)(g:Nat)(f:qc):Option (qc⊕qc) :=
 ck (((0:Int)<(f.length:Int))→((0:Int)<(f.length:Int))) (if ((0:Int)<(f.length:Int))∧((f.getD (0:Nat) (0:Nat))=g) then ck ((1:Int)≤(f.length:Int)) (some (.inl (List.drop (1:Nat) f))) else some (.inr f))
def fJ(F:Md)(g:qc)(f:Nat):Option qc :=
 (dK F (fun d:qc=>gG F f d) g).bind (fun e=>some e)
def aB6:PlR:=⟨[(0,.A [0,1]),(1,.A [0,1,13]),(2,.A [0,1]),(3,.A [4])],[],[]⟩
def aCH:Ty:=.pair .str ve
def kA(F:Md):aF:=mSpec aCH (.one .str) (fun x=>fJ F x.1 x.2.1)
abbrev aJn(F:Md):List (FuncId×aF):=[]
theorem aJo[Mx](F:Md):bF Tryz.prog GL (aJn F):=.nil
attribute [go_sem] aCH aB6
theorem aB7[Mx](F:Md):FOK Tryz.prog GL 95 (kA F):=by
 refine bP (bA (aJo F)) mix Tryz.func95 rfl xN xAa aB6 (fun w0 S x Θ N h hV=>?_);obtain⟨(z:qc),(f:Nat),u⟩:=x;simp only[cA,go_sem];replace h:sat (fJ F z f) _:=h;unfold fJ at h;refine bQ hV (D:=qc) [1] (fun d=>[(0,.val .str d)]) (fun d=>[]) h rfl xAb ?_;rintro q L J g I h;simp only[go_sem];replace h:sat (gG F f q) _:=h;unfold gG at h;refine aK h fun g0 h=>?_;refine⟨fun hc=>?_,fun hc=>?_⟩
 ·replace h:=gZ hc h;refine aK h fun g0 h=>?_;replace h:=g _ (aA h);exact zaI
 ·replace h:=hO hc h;replace h:=yaG (I _ (aA h));exact zaD
attribute [go_sem] kA
def dH(F:Md)(g:w9)(f:Nat):Option Bool :=
 ck (0≤((f:Nat):Int)∧((f:Nat):Int)<(256:Int)) (some (g.getD f false))
def xY:PlR:=⟨[(0,.A [0,1]),(1,.A [4])],[],[]⟩
def yX:Ty:=.pair (.rp (.arr 256 .bool)) ve
def gH(F:Md):aF:=mSpec yX (.one .bool) (fun x=>dH F x.1 x.2.1)
abbrev aFp(F:Md):List (FuncId×aF):=[]
theorem aFq[Mx](F:Md):bF Tryz.prog GL (aFp F):=.nil
attribute [go_sem] yX xY
theorem xZ[Mx](F:Md):FOK Tryz.prog GL 92 (gH F):=by
 refine bP (bA (aFq F)) mix Tryz.func92 rfl xN xAa xY (fun w0 S x Θ q h hV=>?_);obtain⟨(f:w9),(g:Nat),u⟩:=x;simp only[cA,go_sem];replace h:sat (dH F f g) _:=h;unfold dH at h;refine aK h fun g0 h=>?_;exact zaD
attribute [go_sem] gH
def eJ(F:Md)(chars_0:qc)(f:Int)(g:w9):Option ((Int×w9)⊕(w9⊕(w9×w6))) :=
 if f<(chars_0.length:Int) then ck (0≤f∧f<(chars_0.length:Int)) (if (128:Nat)≤(chars_0.getD (f.toNat) (0:Nat)) then some (.inr (.inr (g,false,()))) else ck (0≤(((chars_0.getD (f.toNat) (0:Nat)):Nat):Int)∧(((chars_0.getD (f.toNat) (0:Nat)):Nat):Int)<(256:Int)) (ck (I64 (f+(1:Int))) (some (.inl ((f+(1:Int)),(g.set (chars_0.getD (f.toNat) (0:Nat)) true)))))) else some (.inr (.inl g))
def cT(F:Md)(chars_0:qc):Option (w9×w6) :=
 (dK F (fun d:Int×w9=>eJ F chars_0 d.1 d.2) ((0:Int),(List.replicate 256 false))).bind (fun e=>match e with|(.inl e)=>some (e,true,())|(.inr e)=>some e)
def aB8:PlR:=⟨[(0,.B [0,2]),(1,.A [0,2,4]),(2,.A [0,2,4,9]),(3,.A [0,2,4]),(4,.A [0,2,4,5]),(5,.A [0,2,4,5,16]),(6,.B [2,3]),(7,.B [0,2,4]),(8,.B [2,3])],[],[]⟩
def aCI:Ty:=.pair .str .unit
def gA(F:Md):aF:=mSpec aCI (.tup (.pair (.arr 256 .bool) vf)) (fun x=>cT F x.1)
abbrev aJp(F:Md):List (FuncId×aF):=[]
theorem aJq[Mx](F:Md):bF Tryz.prog GL (aJp F):=.nil
attribute [go_sem] aCI aB8
theorem wA[Mx](F:Md):FOK Tryz.prog GL 45 (gA F):=by
 refine bP (bA (aJq F)) mix Tryz.func45 rfl xN xAa aB8 (fun w0 S x Θ q h hV=>?_);obtain⟨(chars_0:qc),u⟩:=x;simp only[cA,go_sem];replace h:sat (cT F chars_0) _:=h;unfold cT at h;refine bQ hV (D:=Int×w9) [0] (fun d=>[(2,.ptr 0 []),(4,.val qg d.1)]) (fun d=>[.inr (.box 256 (.val (.arr 256 .bool) d.2))]) h rfl xAb ?_;rintro⟨g,f⟩ z T2 hA2 hE2 h;simp only[go_sem];replace h:sat (eJ F chars_0 g f) _:=h;unfold eJ at h;refine dU h (fun hc h=>?_) fun hc h=>?_
 ·refine aD h fun g0 h=>(yaC ?_);refine cH h (fun hc h=>?_) fun hc h=>?_
  ·replace h:=yaG (hE2 _ (aA h));exact aG hV [.cell 2 102,.tmp 3] rfl rfl rfl (aA h) xAc
  ·refine aD h fun g0 h=>(yaC ?_);refine aD h fun g0 h=>(yaC ?_);exact zav
 ·replace h:=yaG (hE2 _ (aA h));exact aG hV [.cell 2 102,.tmp 3] rfl rfl rfl (aA h) xAc
attribute [go_sem] gA
def cF(F:Md)(g:w9)(f:qc):Option (qc⊕qc) :=
 if (0:Int)<(f.length:Int) then ck (I64 ((f.length:Int)-(1:Int))) (ck (0≤((f.length:Int)-(1:Int))∧((f.length:Int)-(1:Int))<(f.length:Int)) ((dH F g (f.getD ((f.length:Int)-(1:Int)).toNat (0:Nat))).bind (fun q=>if ¬(q=true) then some (.inr f) else ck (I64 ((f.length:Int)-(1:Int))) (ck (0≤((f.length:Int)-(1:Int))∧((f.length:Int)-(1:Int))≤(f.length:Int)) (some (.inl (List.take ((f.length:Int)-(1:Int)).toNat f))))))) else some (.inr f)
def cS(F:Md)(g:qc)(f:w9):Option qc :=
 (dK F (fun d:qc=>cF F f d) g).bind (fun e=>some e)
def aAP:PlR:=⟨[(0,.A [0,1]),(1,.A [0,1,7]),(2,.A [0,1,15]),(3,.A [0,1]),(4,.A [4])],[],[]⟩
def aBb:Ty:=.pair .str (.pair (.rp (.arr 256 .bool)) .unit)
def iM(F:Md):aF:=mSpec aBb (.one .str) (fun x=>cS F x.1 x.2.1)
abbrev aBc(F:Md):List (FuncId×aF):=[(92,(gH F))]
theorem aHx[Mx](F:Md):bF Tryz.prog GL (aBc F):=.cons (xZ F) xN (.nil)
attribute [go_sem] aBb aAP
theorem aAQ[Mx](F:Md):FOK Tryz.prog GL 46 (iM F):=by
 refine bP (bA (aHx F)) mix Tryz.func46 rfl xN xAa aAP (fun w0 S x Θ O h hV=>?_);obtain⟨(I:qc),(f:w9),u⟩:=x;simp only[cA,go_sem];replace h:sat (cS F I f) _:=h;unfold cS at h;refine bQ hV (D:=qc) [1] (fun d=>[(0,.val .str d)]) (fun d=>[]) h rfl xAb ?_;rintro g N L z q h;simp only[go_sem];replace h:sat (cF F f g) _:=h;unfold cF at h;refine dU h (fun hc h=>?_) fun hc h=>?_
 ·refine aK h fun g0 h=>aK h fun g1 h=>?_;refine aB h fun J hv h=>?_;try simp only[hv,go_sem]
  refine aA1 h (fun hc h=>?_) fun hc h=>?_
  ·replace h:=yaG (q _ (aA h));exact zaD
  ·refine aK h fun g0 h=>aK h fun g1 h=>?_;replace h:=z _ (aA h);exact zaI
 ·replace h:=yaG (q _ (aA h));exact zaD
attribute [go_sem] iM
def cJ(F:Md)(g:w9)(f:qc):Option (qc⊕qc) :=
 if (0:Int)<(f.length:Int) then ck ((0:Int)<(f.length:Int)) ((dH F g (f.getD (0:Nat) (0:Nat))).bind (fun q=>if ¬(q=true) then some (.inr f) else ck ((1:Int)≤(f.length:Int)) (some (.inl (List.drop (1:Nat) f))))) else some (.inr f)
def cV(F:Md)(g:qc)(f:w9):Option qc :=
 (dK F (fun d:qc=>cJ F f d) g).bind (fun e=>some e)
def aBd:PlR:=⟨[(0,.A [0,1]),(1,.A [0,1,7]),(2,.A [0,1,12]),(3,.A [0,1]),(4,.A [4])],[],[]⟩
def aB9:Ty:=.pair .str (.pair (.rp (.arr 256 .bool)) .unit)
def iZ(F:Md):aF:=mSpec aB9 (.one .str) (fun x=>cV F x.1 x.2.1)
abbrev aCa(F:Md):List (FuncId×aF):=[(92,(gH F))]
theorem aId[Mx](F:Md):bF Tryz.prog GL (aCa F):=.cons (xZ F) xN (.nil)
attribute [go_sem] aB9 aBd
theorem aBe[Mx](F:Md):FOK Tryz.prog GL 96 (iZ F):=by
 refine bP (bA (aId F)) mix Tryz.func96 rfl xN xAa aBd (fun w0 S x Θ O h hV=>?_);obtain⟨(I:qc),(f:w9),u⟩:=x;simp only[cA,go_sem];replace h:sat (cV F I f) _:=h;unfold cV at h;refine bQ hV (D:=qc) [1] (fun d=>[(0,.val .str d)]) (fun d=>[]) h rfl xAb ?_;rintro g N L z q h;simp only[go_sem];replace h:sat (cJ F f g) _:=h;unfold cJ at h;refine dU h (fun hc h=>?_) fun hc h=>?_
 ·refine aK h fun g0 h=>?_;refine aB h fun J hv h=>?_;try simp only[hv,go_sem]
  refine aA1 h (fun hc h=>?_) fun hc h=>?_
  ·replace h:=yaG (q _ (aA h));exact zaD
  ·refine aK h fun g0 h=>?_;replace h:=z _ (aA h);exact zaI
 ·replace h:=yaG (q _ (aA h));exact zaD
attribute [go_sem] iZ
def gN(F:Md)(f:qc)(cutset_1:qc):Option qc :=
 if (f=(aQ ⟨#[]⟩))∨(cutset_1=(aQ ⟨#[]⟩)) then some f else ck (((cutset_1.length:Int)=(1:Int))→((0:Int)<(cutset_1.length:Int))) (if ((cutset_1.length:Int)=(1:Int))∧((cutset_1.getD (0:Nat) (0:Nat))<(128:Nat)) then ck ((0:Int)<(cutset_1.length:Int)) ((eY F f (cutset_1.getD (0:Nat) (0:Nat))).bind (fun z=>ck ((0:Int)<(cutset_1.length:Int)) ((fJ F z (cutset_1.getD (0:Nat) (0:Nat))).bind (fun q=>some q)))) else (cT F cutset_1).bind (fun v_27=>if v_27.2.1=true then (cS F f v_27.1).bind (fun I=>(cV F I v_27.1).bind (fun g=>some g)) else none))
def aJQ:PlR:=⟨[(0,.A [0,1]),(1,.A [0,1,12]),(2,.A [4]),(3,.A [0,1,21]),(4,.A [4]),(5,.B [0,1,5,6]),(6,.A [0,1,5,34]),(7,.A [4]),(8,.stop)],[],[]⟩
def aLk:Ty:=.pair .str wq
def uH(F:Md):aF:=mSpec aLk (.one .str) (fun x=>gN F x.1 x.2.1)
abbrev wB(F:Md):List (FuncId×aF):=[(44,(iY F)),(45,(gA F)),(46,(iM F)),(95,(kA F)),(96,(iZ F))]
theorem aVH[Mx](F:Md):bF Tryz.prog GL (wB F):=.cons (aBa F) xN (.cons (wA F) xN (.cons (aAQ F) xN (.cons (aB7 F) xN (.cons (aBe F) xN (.nil)))))
attribute [go_sem] aLk aJQ
theorem aJR[Mx](F:Md):FOK Tryz.prog GL 98 (uH F):=by
 refine bP (bA (aVH F)) mix Tryz.func98 rfl xN xAa aJQ (fun w0 S x Θ J h hV=>?_);obtain⟨(f:qc),(cutset_1:qc),u⟩:=x;simp only[cA,go_sem];replace h:sat (gN F f cutset_1) _:=h;unfold gN at h;refine⟨fun hc=>?_,fun hc=>?_⟩
 ·replace h:=gZ hc h;exact zaD
 ·replace h:=hO hc h;refine aK h fun g0 h=>?_;refine⟨fun hc=>?_,fun hc=>?_⟩
  ·replace h:=gZ hc h;refine aK h fun g0 h=>?_;refine aB h fun q hv h=>?_;(try simp only[hv,go_sem]);refine aK h fun g0 h=>?_;refine aB h fun g hv h=>?_;exact zao
  ·replace h:=hO hc h;refine aB h fun v_27 hv h=>?_;(try simp only[hv,go_sem]);refine aH2 h (fun hc h=>?_) fun hc h=>?_
   ·refine aB h fun I hv h=>?_;(try simp only[hv,go_sem]);refine aB h fun z hv h=>?_;exact zao
   ·exact aCv h
attribute [go_sem] uH
def mO(F:Md):Option q8 :=
 some ([(aQ ⟨#[116]⟩),(aQ ⟨#[115,113,114]⟩),(aQ ⟨#[115,113,114,116]⟩),(aQ ⟨#[101,120,112]⟩),(aQ ⟨#[112,114,101,99]⟩),(aQ ⟨#[101,110,100]⟩),(aQ ⟨#[115,116,101,112]⟩),(aQ ⟨#[116,111,108]⟩),(aQ ⟨#[116,114,105,101,115]⟩),(aQ ⟨#[111,114,100,101,114]⟩),(aQ ⟨#[106,97,99,111,98,105]⟩),(aQ ⟨#[115,101,105,100,101,108]⟩),(aQ ⟨#[115,117,98]⟩),(aQ ⟨#[115,116,97,116,101]⟩),(aQ ⟨#[112,97,114]⟩),(aQ ⟨#[105,110]⟩),(aQ ⟨#[111,117,116]⟩),(aQ ⟨#[100,101,114]⟩),(aQ ⟨#[108,105,110,107]⟩)]:List qc)
def aG7:PlR:=⟨[(0,.A []),(1,.A [0])],[],[]⟩
def aIe:Ty:=.unit
def yY(F:Md):aF:=mSpec aIe (.one wo) (fun x=>mO F )
abbrev aRd(F:Md):List (FuncId×aF):=[]
theorem aRe[Mx](F:Md):bF Tryz.prog GL (aRd F):=.nil
attribute [go_sem] aIe aG7
theorem aPo[Mx](F:Md):FOK Tryz.prog GL 119 (yY F):=by
 refine bP (bA (aRe F)) mix Tryz.func119 rfl xN xAa aG7 (fun w0 S x Θ f h hV=>?_);simp only[cA,go_sem];replace h:sat (mO F) _:=h;unfold mO at h;exact aG hV [.tmp 0] rfl rfl rfl (aA h) (by (simp only[aS,go_sem])<;>first|rfl|(simp; done))
attribute [go_sem] yY
def gR(F:Md)(g:q8)(q:qc)(f:Int):Option ((Int)⊕((Unit)⊕Int)) :=
 if f<(g.length:Int) then ck (0≤f∧f<(g.length:Int)) (if q=(g.getD (f.toNat) ([]:List Nat)) then some (.inr (.inr f)) else ck (I64 (f+(1:Int))) (some (.inl (f+(1:Int))))) else some (.inr (.inl ()))
def lO(F:Md)(g:q8)(f:qc):Option Int :=
 (dK F (fun d:Int=>gR F g f d) (0:Int)).bind (fun e=>match e with|(.inl e)=>some (-1:Int)|(.inr e)=>some e)
def aCJ:PlR:=⟨[(0,.A [0,1]),(1,.A [0,1,7,8]),(2,.A [0,1,7,8,9]),(3,.A [0,1,5,7,8]),(4,.A [0,1,5,7,8,16]),(5,.A [4]),(6,.A [0,1,7,8]),(7,.A [4])],[],[]⟩
def aDd:Ty:=.pair wo wq
def rS(F:Md):aF:=mSpec aDd (.one qg) (fun x=>lO F x.1 x.2.1)
abbrev aKl(F:Md):List (FuncId×aF):=[]
theorem aKm[Mx](F:Md):bF Tryz.prog GL (aKl F):=.nil
attribute [go_sem] aDd aCJ
theorem aJr[Mx](F:Md):FOK Tryz.prog GL 167 (rS F):=by
 refine bP (bA (aKm F)) mix Tryz.func167 rfl xN xAa aCJ (fun w0 S x Θ I h hV=>?_);obtain⟨(q:q8),(f:qc),u⟩:=x;simp only[cA,go_sem];replace h:sat (lO F q f) _:=h;unfold lO at h;refine bQ hV (D:=Int) [0,1,7] (fun d=>[(8,.val qg d)]) (fun d=>[]) h rfl xAb ?_;rintro g z T2 hA2 hE2 h;simp only[go_sem];replace h:sat (gR F q f g) _:=h;unfold gR at h;refine dU h (fun hc h=>?_) fun hc h=>?_
 ·refine aK h fun g0 h=>?_;refine cH h (fun hc h=>?_) fun hc h=>?_
  ·replace h:=yaG (hE2 _ (aA h));exact zaD
  ·refine aK h fun g0 h=>?_;exact zav
 ·replace h:=yaG (hE2 _ (aA h));exact zaD
attribute [go_sem] rS
def eR(F:Md)(q:q8)(g:qc):Option Bool :=
 (lO F q g).bind (fun f=>some (decide ((0:Int)≤f)))
def aAR:PlR:=⟨[(0,.A [0,1]),(1,.A [4])],[],[]⟩
def aBf:Ty:=.pair wo wq
def iN(F:Md):aF:=mSpec aBf (.one .bool) (fun x=>eR F x.1 x.2.1)
abbrev aBg(F:Md):List (FuncId×aF):=[(167,(rS F))]
theorem aHy[Mx](F:Md):bF Tryz.prog GL (aBg F):=.cons (aJr F) xN (.nil)
attribute [go_sem] aBf aAR
theorem aAS[Mx](F:Md):FOK Tryz.prog GL 118 (iN F):=by
 refine bP (bA (aHy F)) mix Tryz.func118 rfl xN xAa aAR (fun w0 S x Θ z h hV=>?_);obtain⟨(g:q8),(f:qc),u⟩:=x;simp only[cA,go_sem];replace h:sat (eR F g f) _:=h;unfold eR at h;refine aB h fun q hv h=>?_;exact zao
attribute [go_sem] iN
def cW(F:Md)(f:qc):Option Bool :=
 ck (¬(((f.length:Int)<(1:Int))∨((20:Int)<(f.length:Int)))→((0:Int)<(f.length:Int))) (ck (¬((((f.length:Int)<(1:Int))∨((20:Int)<(f.length:Int)))∨((f.getD (0:Nat) (0:Nat))<(97:Nat)))→((0:Int)<(f.length:Int))) (if ((((f.length:Int)<(1:Int))∨((20:Int)<(f.length:Int)))∨((f.getD (0:Nat) (0:Nat))<(97:Nat)))∨((122:Nat)<(f.getD (0:Nat) (0:Nat))) then some false else (gN F f (aQ tE)).bind (fun v_5=>ck ((v_5=(aQ ⟨#[]⟩))→((mO F).isSome=true)) (ck ((v_5=(aQ ⟨#[]⟩))→((eR F ((mO F).getD ([]:List qc)) f).isSome=true)) (some ((decide (v_5=(aQ ⟨#[]⟩)))&&(!((eR F ((mO F).getD ([]:List qc)) f).getD false))))))))
def aM3:PlR:=⟨[(0,.A [0]),(1,.A [0,20]),(2,.A [2]),(3,.A [2])],[],[]⟩
def aPp:Ty:=.pair .str .unit
def sK(F:Md):aF:=mSpec aPp (.one .bool) (fun x=>cW F x.1)
abbrev aFs(F:Md):List (FuncId×aF):=[(118,(iN F)),(119,(yY F)),(98,(uH F))]
theorem aZt[Mx](F:Md):bF Tryz.prog GL (aFs F):=.cons (aAS F) xN (.cons (aPo F) xN (.cons (aJR F) xN (.nil)))
attribute [go_sem] aPp aM3
theorem aHz[Mx](F:Md):FOK Tryz.prog GL 70 (sK F):=by
 refine bP (bA (aZt F)) mix Tryz.func70 rfl xN xAa aM3 (fun w0 S x Θ g h hV=>?_);obtain⟨(f:qc),u⟩:=x;simp only[cA,go_sem];replace h:sat (cW F f) _:=h;unfold cW at h;refine aD h fun g0 h=>?_;refine aD h fun g1 h=>?_;repeat (refine⟨zAG,?_⟩)
 refine⟨fun hc=>?_,fun hc=>?_⟩
 ·replace h:=gZ hc h;exact zaF
 ·replace h:=hO hc h;refine aB h fun v_5 hv h=>?_;try simp only[hv,go_sem]
  refine aD h fun g0 h=>?_;refine aD h fun g1 h=>?_;repeat (refine⟨zAG,?_⟩)
  exact zaF
attribute [go_sem] sK
def xE(F:Md):Option w5 :=
 none
def tF(F:Md)(g:qc)(f:Int):Option w5 :=
 ck ((0:Int)<(g.length:Int)) (if (g.getD (0:Nat) (0:Nat))=(45:Nat) then ck (I64 (0-f)) (some ((0-f),(),())) else some (f,(),()))
def lH(F:Md)(q:qc)(g:Int)(f:Int):Option (ww⊕((Int)⊕w5)) :=
 if f<(q.length:Int) then ck (0≤f∧f<(q.length:Int)) (if (9:Nat)<(wQ F .u8 (q.getD (f.toNat) (0:Nat)) (48:Nat)) then none else ck (I64 (g*(10:Int))) (ck (I64 ((g*(10:Int))+(((wQ F .u8 (q.getD (f.toNat) (0:Nat)) (48:Nat)):Nat):Int))) (ck (I64 (f+(1:Int))) (some (.inl (((g*(10:Int))+(((wQ F .u8 (q.getD (f.toNat) (0:Nat)) (48:Nat)):Nat):Int)),(f+(1:Int)))))))) else some (.inr (.inl g))
def mG(F:Md)(g:qc)(f:qc):Option w5 :=
 (dK F (fun d:Int×Int=>lH F f d.1 d.2) ((0:Int),(0:Int))).bind (fun e=>match e with|(.inl e)=>tF F g e|(.inr e)=>some e)
def uI(F:Md)(f:qc):Option w5 :=
 if ((False)∧(((0:Int)<(f.length:Int))∧((f.length:Int)<(10:Int))))∨((True)∧(((0:Int)<(f.length:Int))∧((f.length:Int)<(19:Int)))) then ck ((0:Int)<(f.length:Int)) (ck (¬((f.getD (0:Nat) (0:Nat))=(45:Nat))→((0:Int)<(f.length:Int))) (if ((f.getD (0:Nat) (0:Nat))=(45:Nat))∨((f.getD (0:Nat) (0:Nat))=(43:Nat)) then ck ((1:Int)≤(f.length:Int)) (if (((List.drop (1:Nat) f).length:Nat):Int)<(1:Int) then none else mG F f (List.drop (1:Nat) f)) else mG F f f)) else xE F
def aIf:PlR:=⟨[(0,.A [0]),(1,.A [0,4]),(2,.A [0,30]),(3,.A [0,5]),(4,.A [0,5,39]),(5,.A [0,5]),(6,.A [0,5,44]),(7,.A [2,3]),(8,.A [0,5,6]),(9,.A [5,6,47,48,49]),(10,.A [5,6,47,48,49,50]),(11,.A [5,6,8,47,48,49]),(12,.A [5,6,8,47,48,49]),(13,.A [5,6,8,47,48,49,56]),(14,.A [2,3]),(15,.A [5,6,47,48,49]),(16,.A [5,6,47,48,49]),(17,.A [6,66]),(18,.A [6]),(19,.A [2,3]),(20,.stop)],[(5,23),(7,11),(12,20)],[]⟩
def aJS:Ty:=.pair .str .unit
def aAu(F:Md):aF:=mSpec aJS (.tup (.pair qg (.pair .nili .unit))) (fun x=>uI F x.1)
abbrev aTe(F:Md):List (FuncId×aF):=[]
theorem aTf[Mx](F:Md):bF Tryz.prog GL (aTe F):=.nil
attribute [go_sem] aJS aIf
theorem aRh[Mx](F:Md):FOK Tryz.prog GL 138 (aAu F):=by
 refine bP (bA (aTf F)) mix Tryz.func138 rfl xN xAa aIf (fun w0 S x Θ U h hV=>?_);obtain⟨(f:qc),u⟩:=x;simp only[cA,go_sem];replace h:sat (uI F f) _:=h;unfold uI at h;refine dD hV (D:=Unit) (fun d=>sat (xE F) Θ) [0] (fun d=>[]) (fun d=>[]) ?_ ?_
 ·simp only[go_sem,bJ F,bK F,bL F];refine⟨fun hc=>?_,fun hc=>?_⟩
  ·replace h:=gZ zAC h;refine dD hV (D:=qc) (fun d=>sat (mG F f d) Θ) [5] (fun d=>[(0,.val .str d)]) (fun d=>[]) ?_ ?_
   ·simp only[go_sem,bJ F,bK F,bL F];refine aK h fun g0 h=>aK h fun g1 h=>?_;refine⟨fun hc=>?_,fun hc=>?_⟩
    ·replace h:=gZ hc h;refine aK h fun g0 h=>?_;refine dU h (fun hc h=>?_) fun hc h=>?_
     ·exact aCv h
     ·exact aT (List.drop (1:Nat) f) h rfl xAd
    ·replace h:=hO hc h;exact aT (f) h rfl xAd
   ·rintro J h;simp only[go_sem,bJ F,bK F,bL F];replace h:sat (mG F f J) _:=h;unfold mG at h;refine dD hV (D:=Int) (fun d=>sat (tF F f d) Θ) [5] (fun d=>[(6,.val qg d)]) (fun d=>[]) ?_ ?_
    ·simp only[go_sem,bJ F,bK F,bL F];refine bQ hV (D:=Int×Int) [5,47,48] (fun d=>[(6,.val qg d.1),(49,.val qg d.2)]) (fun d=>[]) h rfl xAd ?_;rintro⟨q,g⟩ N O z L h;simp only[go_sem,bJ F,bK F,bL F];replace h:sat (lH F J q g) _:=h;unfold lH at h;refine dU h (fun hc h=>?_) fun hc h=>?_
     ·refine aK h fun g0 h=>?_;refine cH h (fun hc h=>?_) fun hc h=>?_
      ·exact aCv h
      ·refine aK h fun g0 h=>aK h fun g1 h=>?_;refine aK h fun g0 h=>?_;replace h:=z _ (aA h);exact zal
     ·replace h:=yaG (L _ (aA h));exact aT (q) h rfl xAd
    ·rintro I h;simp only[go_sem,bJ F,bK F,bL F];replace h:sat (tF F f I) _:=h;unfold tF at h;refine aK h fun g0 h=>?_;refine cH h (fun hc h=>?_) fun hc h=>?_
     ·refine aK h fun g0 h=>?_;exact aG hV [.tmp 2,.tmp 3] rfl rfl rfl (aA h) xAe
     ·exact aG hV [.tmp 2,.tmp 3] rfl rfl rfl (aA h) xAe
  ·replace h:=hO zAC h;exact aT () h rfl xAd
 ·rintro u h;simp only[go_sem,bJ F,bK F,bL F];replace h:sat (xE F) _:=h;unfold xE at h;exact aCv h
attribute [go_sem] aAu
def lT(F:Md)(f:qc):Option w5 :=
 (uI F f).bind (fun v_5=>some (v_5.1,(),()))
def aJT:PlR:=⟨[(0,.A [0]),(1,.A [0,4,5]),(2,.A [0,4,5,12]),(4,.A [2,3])],[],[]⟩
def aLl:Ty:=.pair .str .unit
def oI(F:Md):aF:=mSpec aLl (.tup (.pair qg (.pair .nili .unit))) (fun x=>lT F x.1)
abbrev aLm(F:Md):List (FuncId×aF):=[(138,(aAu F))]
theorem aVI[Mx](F:Md):bF Tryz.prog GL (aLm F):=.cons (aRh F) xN (.nil)
attribute [go_sem] aLl aJT
theorem aER[Mx](F:Md):FOK Tryz.prog GL 99 (oI F):=by
 refine bP (bA (aVI F)) mix Tryz.func99 rfl xN xAa aJT (fun w0 S x Θ g h hV=>?_);obtain⟨(f:qc),u⟩:=x;simp only[cA,go_sem];replace h:sat (lT F f) _:=h;unfold lT at h;refine aB h fun v_5 hv h=>?_;try simp only[hv,go_sem]
 exact aG hV [.tmp 2,.tmp 3] rfl rfl rfl (aA h) xAc
attribute [go_sem] oI
def rA(F:Md)(f:Int)(q:qc)(g:Int):Option ((Int)⊕(Int)) :=
 ck (I64 (f+g)) (ck (((f+g)<(q.length:Int))→(I64 (f+g))) (ck (((f+g)<(q.length:Int))→(0≤(f+g)∧(f+g)<(q.length:Int))) (ck ((((f+g)<(q.length:Int))∧((48:Nat)≤(q.getD (f+g).toNat (0:Nat))))→(I64 (f+g))) (ck ((((f+g)<(q.length:Int))∧((48:Nat)≤(q.getD (f+g).toNat (0:Nat))))→(0≤(f+g)∧(f+g)<(q.length:Int))) (if (((f+g)<(q.length:Int))∧((48:Nat)≤(q.getD (f+g).toNat (0:Nat))))∧((q.getD (f+g).toNat (0:Nat))≤(57:Nat)) then ck (I64 (g+(1:Int))) (some (.inl (g+(1:Int)))) else some (.inr g))))))
def nN(F:Md)(g:qc)(f:Int):Option Int :=
 (dK F (fun d:Int=>rA F f g d) (0:Int)).bind (fun e=>some e)
def aM4:PlR:=⟨[(0,.A [0,1]),(1,.A [0,1,5]),(2,.A [0,1,5,27]),(3,.A [0,1,5]),(4,.A [4])],[],[]⟩
def aPq:Ty:=.pair .str qm
def yM(F:Md):aF:=mSpec aPq (.one qg) (fun x=>nN F x.1 x.2.1)
abbrev aZu(F:Md):List (FuncId×aF):=[]
theorem aZv[Mx](F:Md):bF Tryz.prog GL (aZu F):=.nil
attribute [go_sem] aPq aM4
theorem aM5[Mx](F:Md):FOK Tryz.prog GL 141 (yM F):=by
 refine bP (bA (aZv F)) mix Tryz.func141 rfl xN xAa aM4 (fun w0 S x Θ N h hV=>?_);obtain⟨(g:qc),(f:Int),u⟩:=x;simp only[cA,go_sem];replace h:sat (nN F g f) _:=h;unfold nN at h;refine bQ hV (D:=Int) [0,1] (fun d=>[(5,.val qg d)]) (fun d=>[]) h rfl xAb ?_;rintro q J T2 hA2 hE2 h;simp only[go_sem];replace h:sat (rA F f g q) _:=h;unfold rA at h;refine aK h fun g0 h=>aK h fun g1 h=>aK h fun L h=>aK h fun I h=>aK h fun z h=>?_;refine⟨fun hc=>?_,fun hc=>?_⟩
 ·replace h:=gZ hc h;refine aK h fun g0 h=>?_;exact zav
 ·replace h:=hO hc h;replace h:=yaG (hE2 _ (aA h));exact zaD
attribute [go_sem] yM
def oW(F:Md)(g:qc)(z:qc)(q:Int)(f:Int):Option (qc×(Int×w6)) :=
 some (g,f,(decide (q=(z.length:Int))),())
def oX(F:Md)(f:Int)(g:Int)(q:Int)(I:qc)(J:qc)(z:Int):Option (qc×(Int×w6)) :=
 ck (I64 (f+z)) (ck (I64 (g+q)) (oW F I J (g+q) (f+z)))
def oY(F:Md)(q:qc)(J:Int)(z:Int)(I:qc)(f:Int):Option (qc×(Int×w6)) :=
 (nN F q f).bind (fun g=>if (g<(1:Int))∨((3:Int)<g) then some ((aQ ⟨#[]⟩),(0:Int),false,()) else ck (I64 (f+g)) (ck (0≤f∧f≤(f+g)∧(f+g)≤(q.length:Int)) ((lT F (List.drop (f.toNat) (List.take (f+g).toNat q))).bind (fun v_27=>if (100:Int)<v_27.1 then some ((aQ ⟨#[]⟩),(0:Int),false,()) else if ((J+(1:Int))<(q.length:Int))∧((q.getD (J+(1:Int)).toNat (0:Nat))=(45:Nat)) then ck (I64 (0-v_27.1)) (oX F z f g I q (0-v_27.1)) else oX F z f g I q v_27.1))))
def oZ(F:Md)(g:qc)(f:Int)(z:qc)(q:Int):Option (qc×(Int×w6)) :=
 ck ((f<(g.length:Int))→(0≤f∧f<(g.length:Int))) (if (f<(g.length:Int))∧((g.getD (f.toNat) (0:Nat))=(101:Nat)) then ck (I64 (f+(1:Int))) (ck (((f+(1:Int))<(g.length:Int))→(0≤(f+(1:Int))∧(f+(1:Int))<(g.length:Int))) (ck (¬(((f+(1:Int))<(g.length:Int))∧((g.getD (f+(1:Int)).toNat (0:Nat))=(45:Nat)))→((f+(1:Int))<(g.length:Int))→(0≤(f+(1:Int))∧(f+(1:Int))<(g.length:Int))) (if (((f+(1:Int))<(g.length:Int))∧((g.getD (f+(1:Int)).toNat (0:Nat))=(45:Nat)))∨(((f+(1:Int))<(g.length:Int))∧((g.getD (f+(1:Int)).toNat (0:Nat))=(43:Nat))) then ck (I64 ((f+(1:Int))+(1:Int))) (oY F g f q z ((f+(1:Int))+(1:Int))) else oY F g f q z (f+(1:Int))))) else oW F z g f q)
def sL(F:Md)(f:qc):Option (qc×(Int×w6)) :=
 (nN F f (0:Int)).bind (fun v_5=>ck (0≤v_5∧v_5≤(f.length:Int)) (if ((60:Int)<(f.length:Int))∨(v_5=(0:Int)) then some ((aQ ⟨#[]⟩),(0:Int),false,()) else ck ((v_5<(f.length:Int))→(0≤v_5∧v_5<(f.length:Int))) (if (v_5<(f.length:Int))∧((f.getD (v_5.toNat) (0:Nat))=(46:Nat)) then ck (I64 (v_5+(1:Int))) ((nN F f (v_5+(1:Int))).bind (fun g=>if g=(0:Int) then some ((aQ ⟨#[]⟩),(0:Int),false,()) else ck (I64 (v_5+(1:Int))) (ck (I64 (v_5+(1:Int))) (ck (I64 ((v_5+(1:Int))+g)) (ck (0≤(v_5+(1:Int))∧(v_5+(1:Int))≤((v_5+(1:Int))+g)∧((v_5+(1:Int))+g)≤(f.length:Int)) (ck ((List.take (v_5.toNat) f).length+(List.drop (v_5+(1:Int)).toNat (List.take ((v_5+(1:Int))+g).toNat f)).length≤9223372036854775807) (ck (I64 (0-g)) (ck (I64 (v_5+(1:Int))) (ck (I64 ((v_5+(1:Int))+g)) (oZ F f ((v_5+(1:Int))+g) ((List.take (v_5.toNat) f)++(List.drop (v_5+(1:Int)).toNat (List.take ((v_5+(1:Int))+g).toNat f))) (0-g))))))))))) else oZ F f v_5 (List.take (v_5.toNat) f) (0:Int))))
def aLn:PlR:=⟨[(0,.A [0]),(1,.A [0,5]),(2,.A [0,5,6,7]),(3,.A [0,5,6,7,24]),(4,.A [2,3,4]),(5,.A [0,5,6,7,34]),(6,.A [0,5,6,8]),(7,.A [0,5,6,8,40]),(8,.A [2,3,4]),(9,.A [0,5,6,7]),(10,.A [0,5,6,7,66]),(11,.A [0,5,6,7]),(12,.A [0,5,6,7,9]),(13,.A [0,5,6,7,9,91]),(14,.A [0,5,6,7,9]),(15,.A [0,5,6,7,9,10]),(16,.A [0,5,6,7,9,10,102]),(17,.A [2,3,4]),(18,.A [0,5,6,7,9,10,11]),(19,.A [0,5,6,7,9,10,11,114]),(20,.A [2,3,4]),(21,.A [0,5,6,7,10,11,115]),(22,.A [0,5,6,7,10,11]),(23,.A [0,5,6,7]),(24,.A [2,3,4])],[(8,13),(13,27),(16,18),(24,26)],[]⟩
def aM6:Ty:=.pair .str .unit
def pV(F:Md):aF:=mSpec aM6 (.tup (.pair .str (.pair qg vf))) (fun x=>sL F x.1)
abbrev aHA(F:Md):List (FuncId×aF):=[(141,(yM F)),(99,(oI F))]
theorem aW6[Mx](F:Md):bF Tryz.prog GL (aHA F):=.cons (aM5 F) xN (.cons (aER F) xN (.nil))
attribute [go_sem] aM6 aLn
theorem aGf[Mx](F:Md):FOK Tryz.prog GL 103 (pV F):=by
 refine bP (bA (aW6 F)) mix Tryz.func103 rfl xN xAa aLn (fun w0 S x Θ hw h hV=>?_);obtain⟨(q:qc),u⟩:=x;simp only[cA,go_sem];replace h:sat (sL F q) _:=h;unfold sL at h;refine aB h fun v_5 hv h=>?_;try simp only[hv,go_sem]
 refine aD h fun g0 h=>(yaC ?_);refine⟨fun hc=>?_,fun hc=>?_⟩
 ·replace h:=gZ hc h;exact zan
 ·replace h:=hO hc h;refine dD hV (D:=Int×qc×Int) (fun d=>sat (oZ F q d.1 d.2.1 d.2.2) Θ) [0] (fun d=>[(5,.val qg d.1),(6,.val .str d.2.1),(7,.val qg d.2.2)]) (fun d=>[]) ?_ ?_
  ·simp only[go_sem];refine aD h fun g0 h=>(yaC ?_);refine⟨fun hc=>?_,fun hc=>?_⟩
   ·replace h:=gZ hc h;refine aD h fun g0 h=>(yaC ?_);refine aB h fun J hv h=>?_;(try simp only[hv,go_sem]);refine cH h (fun hc h=>?_) fun hc h=>?_
    ·exact aG hV [.tmp 2,.tmp 3,.tmp 4] rfl rfl rfl (aA h) xAc
    ·refine aD h fun g0 h=>?_;refine aD h fun g1 h=>?_;refine aD h fun g2 h=>?_;refine aD h fun g3 h=>?_;refine aD h fun Z h=>?_;refine aD h fun g5 h=>?_;refine aD h fun g6 h=>?_;refine aD h fun Y h=>(yaC ?_);exact aT (((v_5+(1:Int))+J),((List.take (v_5.toNat) q)++(List.drop (v_5+(1:Int)).toNat (List.take ((v_5+(1:Int))+J).toNat q))),(0-J)) h rfl xAb
   ·replace h:=hO hc h;exact aT (v_5,(List.take (v_5.toNat) q),(0:Int)) h rfl xAb
  ·rintro⟨z,g,f⟩ h;simp only[go_sem];replace h:sat (oZ F q z g f) _:=h;unfold oZ at h;refine dD hV (D:=Int×Int) (fun d=>sat (oW F g q d.1 d.2) Θ) [0,6] (fun d=>[(5,.val qg d.1),(7,.val qg d.2)]) (fun d=>[]) ?_ ?_
   ·simp only[go_sem];refine aD h fun g0 h=>(yaC ?_);refine⟨fun hc=>?_,fun hc=>?_⟩
    ·replace h:=gZ hc h;refine aD h fun g0 h=>(yaC ?_);refine aD h fun g0 h=>(yaC ?_);refine dD hV (D:=Int) (fun d=>sat (oY F q z f g d) Θ) [0,6,7,9] (fun d=>[(5,.val qg d)]) (fun d=>[]) ?_ ?_
     ·simp only[go_sem];refine aD h fun g0 h=>(yaC ?_);refine⟨fun hc=>?_,fun hc=>?_⟩
      ·replace h:=gZ hc h;refine aD h fun g0 h=>(yaC ?_);exact aT ((z+(1:Int))+(1:Int)) h rfl xAb
      ·replace h:=hO hc h;exact aT (z+(1:Int)) h rfl xAb
     ·rintro I h;simp only[go_sem];replace h:sat (oY F q z f g I) _:=h;unfold oY at h;refine aB h fun L hv h=>?_;(try simp only[hv,go_sem]);refine⟨fun hc=>?_,fun hc=>?_⟩
      ·replace h:=gZ hc h;exact zan
      ·replace h:=hO hc h;refine aD h fun g0 h=>?_;refine aD h fun g1 h=>(yaC ?_);refine aB h fun v_27 hv h=>?_;(try simp only[hv,go_sem]);refine dU h (fun hc h=>?_) fun hc h=>?_
       ·exact aG hV [.tmp 2,.tmp 3,.tmp 4] rfl rfl rfl (aA h) xAc
       ·refine dD hV (D:=Int) (fun d=>sat (oX F f I L g q d) Θ) [0,5,6,7,10] (fun d=>[(11,.val qg d)]) (fun d=>[]) ?_ ?_
        ·simp only[go_sem];refine⟨fun hc=>?_,fun hc=>?_⟩
         ·replace h:=gZ hc h;refine aD h fun g0 h=>(yaC ?_);exact aT (0-v_27.1) h rfl xAb
         ·replace h:=hO hc h;exact aT v_27.1 h rfl xAb
        ·rintro O h;simp only[go_sem];replace h:sat (oX F f I L g q O) _:=h;unfold oX at h;refine aD h fun g0 h=>?_;refine aD h fun g1 h=>(yaC ?_);exact aT ((I+L),(f+O)) h rfl xAb
    ·replace h:=hO hc h;exact aT (z,f) h rfl xAb
   ·rintro⟨U,N⟩ h;simp only[go_sem];replace h:sat (oW F g q U N) _:=h;unfold oW at h;exact zan
attribute [go_sem] pV
def tG(F:Md)(z:Int)(q:Nat)(g:qc)(f:Int):Option (vm⊕qc) :=
 if f<z then ck (aSW g ([q]:List Nat)) (ck (I64 (f+(1:Int))) (some (.inl ((dE g ([q]:List Nat)),(f+(1:Int)))))) else some (.inr g)
def uR(F:Md)(g:Nat)(f:Int):Option qc :=
 (dK F (fun d:qc×Int=>tG F f g d.1 d.2) (([1]:List Nat),(0:Int))).bind (fun e=>some e)
def aPs:PlR:=⟨[(0,.stop),(1,.stop),(2,.stop),(3,.stop),(4,.stop),(5,.stop),(6,.stop)],[],[]⟩
def aSE:Ty:=.pair qw qm
def aAv(F:Md):aF:=mSpec aSE (.one wi) (fun x=>uR F x.1 x.2.1)
abbrev aSF(F:Md):List (FuncId×aF):=[(105,jN)]
theorem bBD[Mx](F:Md):bF Tryz.prog GL (aSF F):=.cons aAp xN (.nil)
attribute [go_sem] aSE aPs
theorem aPt[Mx](F:Md):FOK Tryz.prog GL 107 (aAv F):=by
 refine bP (bA (bBD F)) mix Tryz.func107 rfl xN xAa aPs (fun w0 S x Θ N h hV=>?_);obtain⟨(f:Nat),(g:Int),u⟩:=x;simp only[cA,go_sem];replace h:sat (uR F f g) _:=h;unfold uR at h;refine vI hV [0,1] (yaA ?_);refine vI hV [0,1,5] (yaA ?_);refine vI hV [0,5,7,8] (yaA ?_);refine bQ hV (D:=qc×Int) [0,7] (fun d=>[(5,.val wi d.1),(8,.val qg d.2)]) (fun d=>[]) h rfl xAb ?_;rintro⟨I,q⟩ L T3 J z h;simp only[go_sem];replace h:sat (tG F g f I q) _:=h;unfold tG at h;refine vI hV [0,5,7,8,9] (yaA ?_);refine dU h (fun hc h=>?_) fun hc h=>?_
 ·refine vI hV [0,5,7,8] (yaA ?_);refine aK h fun g0 h=>?_;refine vI hV [0,5,7,8] (yaA ?_);refine aK h fun g0 h=>?_;replace h:=J _ (aA h);exact zaI
 ·replace h:=yaG (z _ (aA h));refine vI hV [4] (yaA ?_);exact zaD
attribute [go_sem] aAv
def rB(F:Md)(g:qc)(q:qc)(f:Int):Option (vm⊕qc) :=
 if f<(g.length:Int) then ck (0≤f∧f<(g.length:Int)) (ck (aSW q ([10]:List Nat)) (ck (pSz ([(wQ F .u8 (g.getD (f.toNat) (0:Nat)) (48:Nat))]:List Nat)) (ck (aSW (dE q ([10]:List Nat)) (qZ ([(wQ F .u8 (g.getD (f.toNat) (0:Nat)) (48:Nat))]:List Nat))) (ck (I64 (f+(1:Int))) (some (.inl ((aDA (dE q ([10]:List Nat)) (qZ ([(wQ F .u8 (g.getD (f.toNat) (0:Nat)) (48:Nat))]:List Nat))),(f+(1:Int))))))))) else some (.inr q)
def xF(F:Md)(f:qc):Option qc :=
 (dK F (fun d:qc×Int=>rB F f d.1 d.2) (([]:List Nat),(0:Int))).bind (fun e=>some e)
def aM7:PlR:=⟨[(0,.stop),(1,.stop),(2,.stop),(3,.stop),(4,.stop),(5,.stop),(6,.stop),(7,.stop)],[],[]⟩
def aPu:Ty:=.pair .str .unit
def yN(F:Md):aF:=mSpec aPu (.one wi) (fun x=>xF F x.1)
abbrev aFt(F:Md):List (FuncId×aF):=[(105,jN),(152,aG3),(153,aBY)]
theorem aZw[Mx](F:Md):bF Tryz.prog GL (aFt F):=.cons aAp xN (.cons bBp xN (.cons aSp xN (.nil)))
attribute [go_sem] aPu aM7
theorem aM8[Mx](F:Md):FOK Tryz.prog GL 106 (yN F):=by
 refine bP (bA (aZw F)) mix Tryz.func106 rfl xN xAa aM7 (fun w0 S x Θ N h hV=>?_);obtain⟨(f:qc),u⟩:=x;simp only[cA,go_sem];replace h:sat (xF F f) _:=h;unfold xF at h;refine vI hV [0] ?_;simp only[go_sem,bJ F,bK F,bL F];refine vI hV [0,3] ?_;simp only[go_sem,bJ F,bK F,bL F];refine vI hV [3,7,8,9] ?_;simp only[go_sem,bJ F,bK F,bL F];refine bQ hV (D:=qc×Int) [7,8] (fun d=>[(3,.val wi d.1),(9,.val qg d.2)]) (fun d=>[]) h rfl xAd ?_;rintro⟨I,g⟩ J T3 z q h;simp only[go_sem,bJ F,bK F,bL F];replace h:sat (rB F f I g) _:=h;unfold rB at h;refine vI hV [3,7,8,9,10] ?_;simp only[go_sem,bJ F,bK F,bL F];refine dU h (fun hc h=>?_) fun hc h=>?_
 ·refine vI hV [3,5,7,8,9] ?_;simp only[go_sem,bJ F,bK F,bL F];refine aD h fun g0 h=>(yaD ?_);refine vI hV [3,7,8,9] ?_;simp only[go_sem,bJ F,bK F,bL F];refine aD h fun g0 h=>?_;refine aD h fun g1 h=>?_;refine aD h fun L h=>(yaD ?_);refine vI hV [3,7,8,9] ?_;simp only[go_sem,bJ F,bK F,bL F];refine aD h fun g0 h=>?_;try simp only[I64,I32] at g0
  repeat (refine⟨zAB,?_⟩)
  replace h:=z _ (aA h);exact zal
 ·replace h:=yaG (q _ (aA h));refine vI hV [2] ?_;simp only[go_sem,bJ F,bK F,bL F];exact aG hV [.tmp 2] rfl rfl rfl (aA h) xAe
attribute [go_sem] yN
def rC(F:Md)(f:qc):Option Bool :=
 (sL F f).bind (fun v_5=>some v_5.2.2.1)
def aSG:PlR:=⟨[(0,.A [0]),(1,.A [5]),(2,.A [2])],[],[]⟩
def aVJ:Ty:=.pair .str .unit
def wX(F:Md):aF:=mSpec aVJ (.one .bool) (fun x=>rC F x.1)
abbrev aVK(F:Md):List (FuncId×aF):=[(103,(pV F))]
theorem bDd[Mx](F:Md):bF Tryz.prog GL (aVK F):=.cons (aGf F) xN (.nil)
attribute [go_sem] aVJ aSG
theorem aLo[Mx](F:Md):FOK Tryz.prog GL 100 (wX F):=by
 refine bP (bA (bDd F)) mix Tryz.func100 rfl xN xAa aSG (fun w0 S x Θ g h hV=>?_);obtain⟨(f:qc),u⟩:=x;simp only[cA,go_sem];replace h:sat (rC F f) _:=h;unfold rC at h;exact zat
attribute [go_sem] wX
def aCb(F:Md)(q:qc):Option (qc×(qc×w6)) :=
 (sL F q).bind (fun v_5=>if ¬(v_5.2.2.1=true) then some (([]:List Nat),([]:List Nat),false,()) else (xF F v_5.1).bind (fun f=>(uR F (10:Nat) (max v_5.2.1 (0:Int))).bind (fun g=>ck (aSW f g) (ck (I64 (0-v_5.2.1)) ((uR F (10:Nat) (max (0-v_5.2.1) (0:Int))).bind (fun v_17=>some ((dE f g),v_17,true,())))))))
def aPv:PlR:=⟨[(0,.A [0]),(1,.A [5,6,7]),(2,.A [5,6,15]),(3,.A [2,3,4]),(4,.A [2,3,4])],[],[]⟩
def aSH:Ty:=.pair .str .unit
def aFu(F:Md):aF:=mSpec aSH (.tup (.pair wi (.pair wi vf))) (fun x=>aCb F x.1)
abbrev aEm(F:Md):List (FuncId×aF):=[(103,(pV F)),(105,jN),(106,(yN F)),(107,(aAv F))]
theorem bBE[Mx](F:Md):bF Tryz.prog GL (aEm F):=.cons (aGf F) xN (.cons aAp xN (.cons (aM8 F) xN (.cons (aPt F) xN (.nil))))
attribute [go_sem] aSH aPv
theorem aZx[Mx](F:Md):FOK Tryz.prog GL 162 (aFu F):=by
 refine bP (bA (bBE F)) mix Tryz.func162 rfl xN xAa aPv (fun w0 S x Θ z h hV=>?_);obtain⟨(f:qc),u⟩:=x;simp only[cA,go_sem];replace h:sat (aCb F f) _:=h;unfold aCb at h;refine aB h fun v_5 hv h=>?_;try simp only[hv,go_sem]
 refine aA1 h (fun hc h=>?_) fun hc h=>?_
 ·exact aG hV [.tmp 2,.tmp 3,.tmp 4] rfl rfl rfl (aA h) xAc
 ·refine aB h fun q hv h=>?_;try simp only[hv,go_sem]
  refine aB h fun g hv h=>?_;try simp only[hv,go_sem]
  refine aK h fun g0 h=>aK h fun g1 h=>?_;refine aB h fun v_17 hv h=>?_;try simp only[hv,go_sem]
  exact zan
attribute [go_sem] aFu
def aAb(F:Md)(z:qc):Option (qx×qp) :=
 (sL F z).bind (fun v_5=>if ¬(v_5.2.2.1=true) then some ((false,([]:List Nat),(0:Int),()),(6:Int),()) else (xF F v_5.1).bind (fun f=>(uR F (5:Nat) (max v_5.2.1 (0:Int))).bind (fun g=>ck (aSW f g) (ck (I64 (0-v_5.2.1)) ((uR F (5:Nat) (max (0-v_5.2.1) (0:Int))).bind (fun v_17=>ck (aI5 (dE f g) v_17) ((zZ F false (rQ (dE f g) v_17).1 v_5.2.1).bind (fun q=>if ((0:Int)<(((rQ (dE f g) v_17).2.1.length:Nat):Int))∨(¬(q.2.1=(0:Int))) then some ((false,([]:List Nat),(0:Int),()),(6:Int),()) else some (q.1,(0:Int),())))))))))
def aPw:PlR:=⟨[(0,.B [0,2]),(1,.A [2,4,5,6]),(2,.A [2,4,5,18]),(3,.B [2,3]),(4,.A [2,5,7,8]),(5,.B [2,8,9,10]),(6,.A [2,9,46]),(7,.B [2,3]),(8,.B [2,3])],[],[]⟩
def aSI:Ty:=.pair .str .unit
def aFv(F:Md):aF:=mSpec aSI (.tup (.pair qq qm)) (fun x=>aAb F x.1)
abbrev aAc(F:Md):List (FuncId×aF):=[(103,(pV F)),(104,aDR),(105,jN),(106,(yN F)),(107,(aAv F)),(108,(aB1 F))]
theorem bBF[Mx](F:Md):bF Tryz.prog GL (aAc F):=.cons (aGf F) xN (.cons aW0 xN (.cons aAp xN (.cons (aM8 F) xN (.cons (aPt F) xN (.cons (aSw F) xN (.nil))))))
attribute [go_sem] aSI aPw
theorem aZy[Mx](F:Md):FOK Tryz.prog GL 59 (aFv F):=by
 refine bP (bA (bBF F)) mix Tryz.func59 rfl xN xAa aPw (fun w0 S x Θ I h hV=>?_);obtain⟨(f:qc),u⟩:=x;simp only[cA,go_sem];replace h:sat (aAb F f) _:=h;unfold aAb at h;refine aB h fun v_5 hv h=>?_;try simp only[hv,go_sem]
 refine aA1 h (fun hc h=>?_) fun hc h=>?_
 ·exact aG hV [.cell 2 119,.tmp 3] rfl rfl rfl (aA h) xAc
 ·refine aB h fun g hv h=>?_;try simp only[hv,go_sem]
  refine aB h fun q hv h=>?_;try simp only[hv,go_sem]
  refine aK h fun g0 h=>aK h fun g1 h=>?_;refine aB h fun v_17 hv h=>?_;try simp only[hv,go_sem]
  refine aK h fun g0 h=>?_;refine aB h fun z hv h=>?_;try simp only[hv,go_sem]
  refine⟨fun hc=>?_,fun hc=>?_⟩
  ·replace h:=gZ hc h;exact aG hV [.cell 2 119,.tmp 3] rfl rfl rfl (aA h) xAc
  ·replace h:=hO hc h;exact aG hV [.cell 2 119,.tmp 3] rfl rfl rfl (aA h) xAc
attribute [go_sem] aFv
def mA(F:Md)(g:qx)(q:qx)(z:Int):Option Bool :=
 (aFM F z (0:Int)).bind (fun v_5=>(aDB F q v_5.1).bind (fun f=>ck ((f.2.1=(0:Int))→((aAa F g f.1).isSome=true)) (some ((decide (f.2.1=(0:Int)))&&(decide (((aAa F g f.1).getD (0:Int))≤(0:Int)))))))
def aM9:PlR:=⟨[(0,.B [2,3,4]),(1,.B [3,4,7]),(2,.B [3,9,10]),(3,.A [6])],[],[]⟩
def aPx:Ty:=.pair qq (.pair qq qm)
def aDT(F:Md):aF:=mSpec aPx (.one .bool) (fun x=>mA F x.1 x.2.1 x.2.2.1)
abbrev aFw(F:Md):List (FuncId×aF):=[(111,(aJl F)),(112,(aG6 F)),(61,(aB3 F))]
theorem aZz[Mx](F:Md):bF Tryz.prog GL (aFw F):=.cons (bDb F) xN (.cons (bBC F) xN (.cons (aSC F) xN (.nil)))
attribute [go_sem] aPx aM9
theorem aW7[Mx](F:Md):FOK Tryz.prog GL 62 (aDT F):=by
 refine bP (bA (aZz F)) mix Tryz.func62 rfl xN xAa aM9 (fun w0 S x Θ I h hV=>?_);obtain⟨(f:qx),(q:qx),(g:Int),u⟩:=x;simp only[cA,go_sem];replace h:sat (mA F f q g) _:=h;unfold mA at h;refine aB h fun v_5 hv h=>?_;try simp only[hv,go_sem]
 refine aB h fun z hv h=>?_;try simp only[hv,go_sem]
 refine aK h fun g0 h=>?_;exact aG hV [.tmp 6] rfl rfl rfl (aA h) xAc
attribute [go_sem] aDT
section
open Go.Shelf Go.RowKit Go.Lib
theorem bHW(n:Nat)(w:World)(N:n≤1073741824) :
  Calls Tryz.prog 113 #[.slice none 0 0,.int .i64 n] w fun e w'=>(n=0∧e= .returned (.slice none 0 0)∧w'=w) ∨
   (0<n∧e= .returned (.slice (some ⟨w.heap.size,0,none⟩) 0 (grownCap w n 0 9))∧w'=w.drew.alloc (.cells (Builtin.zeroCells #[Value.string ⟨#[]⟩] n++Builtin.zeroCells #[Value.string ⟨#[]⟩] (grownCap w n 0 9-n)) 9)):=by
 have O:¬((n:Int)<0):=by omega
 have z:wrap64 ((n:Int)-wrap64 (0-0))=(n:Int):=by unfold wrap64; omega
 have I:wrap64 (n:Int)=(n:Int):=by unfold wrap64; omega
 obtain⟨i,hi,q,hs,hb⟩:∃i,Tryz.prog.info? 9=some i∧i.zero=some (.string ⟨#[]⟩)∧i.size=1∧i.bytes=16:=⟨_,rfl,rfl,rfl,rfl⟩
 go_enter Tryz.func113,Tryz.ntmps113
 rcases Nat.eq_zero_or_pos n with rfl|hp
 ·go_wp2
  go_ret
  exact⟨rfl,rfl⟩
 ·have L:(n:Int)>0:=by omega
  have f:∀ty,(Builtin.append_ #[22,3] ty #[.slice none 0 0,.int .i64 (n:Int)]).run Tryz.prog w= .ok (.slice (some ⟨w.heap.size,0,none⟩) n (grownCap w n 0 9)) (w.drew.alloc (.cells (Builtin.zeroCells #[Value.string ⟨#[]⟩] n++Builtin.zeroCells #[Value.string ⟨#[]⟩] (grownCap w n 0 9-n)) 9)) :=
   fun ty=>Lib.run_append_nil_zeros w 22 3 ty 9 i (.string ⟨#[]⟩) .i64 .i64 rfl rfl hi q n hp (by omega) (by omega) (by rw[hb]; omega)
  have J:=grownCap_ge w n 0 9;have g:=grownCap_le_maxLen w n 0 9 (by unfold maxLen; omega);unfold maxLen at g;generalize grownCap w n 0 9=G at *
  go_wp2_with (at_builtin; refine Lib.wpList_append_run _ rfl _ _ _ _ rfl _ _ rfl rfl _ _ (f _) ?_)
  go_ret
  exact .inr ⟨rfl,rfl⟩
end
def mP(F:Md)(n:Int):Option q8:=ck (0≤n∧n≤1073741824) (some [])
@[go_sem]def lP(F:Md):fQ where
 D:=Int×q8
 av:=fun d=>[.nilS,.val qg d.1]
 hp:=fun d=>[]
 m:=0
 pre:=fun d=>mP F d.1=some d.2
 out:=fun d=>(fun r:q8=>.ret (.own 0) [.row 9 .str (r)]) d.2
@[go_sem]def aDe(F:Md)(vs:List AV)(h:List Vc.Obj):Hit:=mkH (mP F (qV h vs 1 qg)) ([]:List qc) fun r=>⟨(lP F),[],((qV h vs 1 qg),r)⟩
theorem bBG{F:Md}{c:Ctx}{w w':World}{d:(lP F).D}(hd:d.2= [])(good:Go.Vc.Good (GM (lP F) c d) w c [] w)(f:jB nothing w w')(v:Value)(hv:∃a n m,v= .slice a n m)(g:w'.ownsRow 0 9 1 v 0 [])(hb:∀b,aU v=some b→w.heap.size≤b∧b<w'.heap.size) :
  aNI (lP F) c w d (.returned v) w':=by
 have e1:(c.push v).hd c.n=v:=by simp[Ctx.push]
 have h0:c.n=0:=good.n;have:=good.push f (o:=.row 9 .str []) (hv:=v) (by
  show aCl _ _ _ _ _ _;rw[e1];exact⟨[],g,⟨rfl,[],rfl,rfl,fun i h=>by simp at h⟩⟩) (fun b h=>hb b (by simpa [fI,e1] using h))
 refine⟨c.push v,?_⟩;show ∃u,_∧Go.Vc.Good _ _ _ [.row 9 .str d.2] _∧aY _ _ (.own 0) u;rw[hd];refine⟨v,rfl,this.1,?_⟩;have:=aFW (c:=c) (v':=v) hv (w':=w') (S':=c.S);rw[h0] at this;exact this
theorem aKn[Mx](F:Md):GOK Tryz.prog GL 113 (lP F):=by
 rintro c w ⟨n,r⟩ J g ⟨good,glob,len,val⟩;have g:mP F n=some r:=g;unfold mP at g;obtain⟨⟨h1,h2⟩,g⟩:=bG g;have Y:[]=r:=Option.some.inj g;have U:=val 0 (by show 0<2; decide) (by rw[len]; show 0<2; decide);have L:=val 1 (by show 1<2; decide) (by rw[len]; show 1<2; decide);have e0:J.toList[0]'(by rw[len]; show 0<2; decide)= .slice none 0 0:=by
  obtain⟨q,_,z⟩:=U;have z:=z rfl;revert q z;generalize J.toList[0]'(by rw[len]; show 0<2; decide)=Z;intro q z;have q:Z.cells.toList= [.slice none 0 0]:=q;cases Z<;>simp[Value.cells] at q z<;>simp[q]
 obtain⟨e1,_,_⟩:=aKI (k:=.i64) (n:=n) L;have N:J= #[.slice none 0 0,.int .i64 (n.toNat:Int)]:=by
  have I:J.toList.length=2:=len;rw[← Array.toList_inj];apply List.ext_getElem
  ·exact I
  ·intro i a1 a2
   match i,a2 with
   | 0,_=>exact e0
   | 1,_=>show _=Value.int .i64 (n.toNat:Int); rw[Int.toNat_of_nonneg h1]; exact e1
 rw[N];refine Calls.mono (f:=113) (bHW n.toNat w (by omega)) ?_;rintro e w' (⟨_,rfl,rfl⟩|⟨hp,rfl,rfl⟩)
 ·exact bBG (d:=(n,r)) Y.symm good (.refl nothing _) _ ⟨_,_,_,rfl⟩ ⟨rfl,.inl ⟨rfl,rfl⟩⟩ (fun b h=>by simp[aU] at h)
 ·have hG:=grownCap_ge w n.toNat 0 9;have O:=grownCap_le_maxLen w n.toNat 0 9 (by unfold maxLen; omega);have hk:∀o,jB nothing w (w.drew.alloc o):=fun o=>have k:=jB.alloc nothing w.drew o; ⟨rfl,rfl,rfl,k.size,k.block⟩;refine bBG (d:=(n,r)) Y.symm good (hk _) _ ⟨_,_,_,rfl⟩ ⟨rfl,.inr ⟨w.heap.size,_,Builtin.zeroCells #[Value.string ⟨#[]⟩] n.toNat++Builtin.zeroCells #[Value.string ⟨#[]⟩] (grownCap w n.toNat 0 9-n.toNat),rfl,Nat.zero_le _,?_,Nat.zero_le _,O,?_,rfl⟩⟩ ?_
  ·show (w.heap.push _)[w.heap.size]? = _;simp
  ·simp[Builtin.zeroCells];omega
  ·intro b h;simp only[aU,Option.some.injEq] at h;subst h;refine⟨Nat.le_refl _,?_⟩;show w.heap.size<(w.heap.push _).size;simp
def pA(F:Md)(f:(List qx)):Option (Bool) :=
 ck ((2:Int)<(f.length:Int)) (ck ((1:Int)<(f.length:Int)) ((aAa F (f.getD (2:Nat) (false,[],0,())) (f.getD (1:Nat) (false,[],0,()))).bind (fun g=>ck ((g≤(0:Int))→((0:Int)<(f.length:Int))) (ck ((g≤(0:Int))→((1:Int)<(f.length:Int))) (ck ((g≤(0:Int))→((mA F (f.getD (0:Nat) (false,[],0,())) (f.getD (1:Nat) (false,[],0,())) (256:Int)).isSome=true)) (ck (((g≤(0:Int))∧(((mA F (f.getD (0:Nat) (false,[],0,())) (f.getD (1:Nat) (false,[],0,())) (256:Int)).getD false)=true))→((1:Int)<(f.length:Int))) (ck (((g≤(0:Int))∧(((mA F (f.getD (0:Nat) (false,[],0,())) (f.getD (1:Nat) (false,[],0,())) (256:Int)).getD false)=true))→((2:Int)<(f.length:Int))) (ck (((g≤(0:Int))∧(((mA F (f.getD (0:Nat) (false,[],0,())) (f.getD (1:Nat) (false,[],0,())) (256:Int)).getD false)=true))→((mA F (f.getD (1:Nat) (false,[],0,())) (f.getD (2:Nat) (false,[],0,())) (4096:Int)).isSome=true)) (some (((decide (g≤(0:Int)))&&((mA F (f.getD (0:Nat) (false,[],0,())) (f.getD (1:Nat) (false,[],0,())) (256:Int)).getD false))&&((mA F (f.getD (1:Nat) (false,[],0,())) (f.getD (2:Nat) (false,[],0,())) (4096:Int)).getD false)))))))))))
def tH(F:Md)(z:qf)(f:Int)(q:(List qx)):Option ((Int×(List qx))⊕((List qx)⊕Bool)) :=
 if f<(4:Int) then ck (0≤f∧f<(4:Int)) ((aAb F (([z.2.2.2.2.1,z.2.2.2.2.2.1,z.2.2.2.2.2.2.1,z.2.2.2.2.2.2.2.1]:List qc).getD (f.toNat) ([]:List Nat))).bind (fun g=>ck (¬(¬(g.2.1=(0:Int)))→((uP F g.1).isSome=true)) (if (¬(g.2.1=(0:Int)))∨(((uP F g.1).getD (0:Int))≤(0:Int)) then some (.inr (.inr false)) else ck (((q.length)+(1:Nat))*73≤140737488355328) (ck (I64 (f+(1:Int))) (some (.inl ((f+(1:Int)),(q++([g.1]:List qx))))))))) else some (.inr (.inl q))
def uJ(F:Md)(f:qf):Option Bool :=
 if ((((((f.1<(8:Int))∨((200:Int)<f.1))∨(f.2.1<(1:Int)))∨((20:Int)<f.2.1))∨(f.2.2.1<(0:Int)))∨((3:Int)<f.2.2.1))∨((¬(f.2.2.2.1=(1:Int)))∧(¬(f.2.2.2.1=(2:Int)))) then some false else (dK F (fun d:Int×(List qx)=>tH F f d.1 d.2) ((0:Int),([]:List qx))).bind (fun e=>match e with|(.inl e)=>pA F e|(.inr e)=>some e)
def aIg:PlR:=⟨[(0,.B [1]),(1,.A [1,45]),(2,.A [2]),(3,.A [1,3]),(4,.A [3,54,55,56]),(5,.A [3,54,55,56,57]),(6,.A [3,5,54,55,56]),(7,.B [3,6,7,54,55,56]),(8,.A [3,6,54,55,56,71]),(9,.A [2]),(10,.B [3,54,55,56]),(11,.A [3,54,55,56]),(12,.A [2])],[(7,15)],[]⟩
def aJU:Ty:=.pair qe .unit
def aAw(F:Md):aF:=mSpec aJU (.one .bool) (fun x=>uJ F x.1)
abbrev yA(F:Md):List (FuncId×aF):=[(59,(aFv F)),(60,(aAs F)),(61,(aB3 F)),(62,(aDT F))]
theorem aTs[Mx](F:Md):bF Tryz.prog GL (yA F):=.cons (aZy F) xN (.cons (aPg F) xN (.cons (aSC F) xN (.cons (aW7 F) xN (.nil))))
attribute [go_sem] aJU aIg
theorem aRo[Mx](F:Md):FOK Tryz.prog GL 23 (aAw F):=by
 refine bP (bA (aTs F)) mix Tryz.func23 rfl xN xAa aIg (fun w0 S x Θ hw h hV=>?_);obtain⟨(f:qf),u⟩:=x;simp only[cA,go_sem];replace h:sat (uJ F f) _:=h;unfold uJ at h;refine⟨fun hc=>?_,fun hc=>?_⟩
 ·replace h:=gZ hc h;exact zaF
 ·replace h:=hO hc h;refine dD hV (D:=(List qx)) (fun d=>sat (pA F d) Θ) [] (fun d=>[(3,.own 0)]) (fun d=>[.inr (.row 119 qq d)]) ?_ ?_
  ·simp only[go_sem];refine aFZ 3 119 qq rfl (yaA ?_);refine aDL [1] rfl rfl (yaA ?_);refine bQ hV (D:=Int×(List qx)) [55] (fun d=>[(3,.own 0),(54,.val wo ([f.2.2.2.2.1,f.2.2.2.2.2.1,f.2.2.2.2.2.2.1,f.2.2.2.2.2.2.2.1]:List qc)),(56,.val qg d.1)]) (fun d=>[.inr (.row 119 qq d.2)]) h rfl (by (try simp only[xU,fB,true_or,and_self,go_sem])<;>(repeat' apply And.intro)<;>first|rfl|(left; rfl)|(right; rfl)|(left; simp only[go_sem]; done)|(right; simp only[go_sem]; done)|(simp; done)|(simp only[*]; done)|omega) ?_;rintro⟨g,q⟩ A5 T5 J z h;simp only[go_sem];replace h:sat (tH F f g q) _:=h;unfold tH at h;refine dU h (fun hc h=>?_) fun hc h=>?_
   ·refine aD h fun g0 h=>(yaD ?_);refine aB h fun L hv h=>?_;(try simp only[hv,go_sem]);refine aD h fun g0 h=>?_;(repeat (refine⟨zAH,?_⟩));refine⟨fun hc=>?_,fun hc=>?_⟩
    ·replace h:=gZ zAC h;replace h:=yaG (z _ (aA h));exact zaF
    ·replace h:=hO zAC h;refine aD h fun g0 h=>(yaD ?_);refine aD h fun g0 h=>?_;(try simp only[I64,I32] at g0);(repeat (refine⟨zAB,?_⟩));replace h:=J _ (aA h);refine gK [2] rfl rfl (yaA ?_);exact zaI
   ·replace h:=yaG (z _ (aA h));exact aT (q) h rfl xAb
  ·rintro I h;simp only[go_sem];replace h:sat (pA F I) _:=h;unfold pA at h;refine aD h fun g0 h=>?_;refine aD h fun g1 h=>(yaD ?_);refine aB h fun N hv h=>?_;(try simp only[hv,go_sem]);refine aD h fun g0 h=>?_;refine aD h fun g1 h=>?_;refine aD h fun Z h=>?_;refine aD h fun U h=>?_;refine aD h fun O h=>?_;refine aD h fun Y h=>?_;(repeat (refine⟨by first|with_reducible assumption|omega|(intros; first|with_reducible assumption|omega)|(intro _; exact⟨rfl,by decide⟩)|(intro _; refine(?_:_=aI _); rfl)|(refine(?_:_=aI _); rfl)|exact⟨rfl,rfl⟩|(intro q0; (try have e0:=g0 (by first|exact q0|omega|(simpa using q0))); (try have e1:=g1 (by first|exact q0|omega|(simpa using q0))); (try have e2:=Z (by first|exact q0|omega|(simpa using q0))); (try have e3:=U (by first|exact q0|omega|(simpa using q0))); (try have e4:=O (by first|exact q0|omega|(simpa using q0))); (try have e5:=Y (by first|exact q0|omega|(simpa using q0))); first|assumption|omega)|decide,?_⟩));exact zaF
attribute [go_sem] aAw
def aAx(F:Md)(g:q8)(q:qd)(f:q8):Option (q8×(q8×vd)) :=
 some (g,f,q.2.2.2.1,())
def pB(F:Md)(q:qd)(f:Int)(g:q8):Option ((Int×q8)⊕q8) :=
 if f<(q.2.2.1.length:Int) then ck (0≤f∧f<(q.2.2.1.length:Int)) (ck (((g.length)+(1:Nat))*16≤140737488355328) (ck (I64 (f+(1:Int))) (some (.inl ((f+(1:Int)),(g++([(q.2.2.1.getD (f.toNat) ([],([],[],()),())).1]:List qc))))))) else some (.inr g)
def wC(F:Md)(f:qd)(g:q8):Option (q8×(q8×vd)) :=
 (dK F (fun d:Int×q8=>pB F f d.1 d.2) ((0:Int),([]:List qc))).bind (fun e=>aAx F g f e)
def pC(F:Md)(q:qd)(f:Int)(g:q8):Option ((Int×q8)⊕q8) :=
 if f<(q.2.1.length:Int) then ck (0≤f∧f<(q.2.1.length:Int)) (ck (((g.length)+(1:Nat))*16≤140737488355328) (ck (I64 (f+(1:Int))) (some (.inl ((f+(1:Int)),(g++([(q.2.1.getD (f.toNat) ([],([],[],()),(Ex.mk 0 [] []),())).1]:List qc))))))) else some (.inr g)
def bH(F:Md)(f:qd):Option (q8×(q8×vd)) :=
 (dK F (fun d:Int×q8=>pC F f d.1 d.2) ((0:Int),([]:List qc))).bind (fun e=>wC F f e)
def aLp:PlR:=⟨[(0,.B [1,2,3]),(1,.A [1,2,3,10,11,12]),(2,.A [1,2,3,10,11,12,13]),(3,.B [1,2,3,6,10,11,12]),(4,.B [1,2,3,10,11,12]),(5,.A [1,2,3,10,11,12]),(6,.A [1,2,3,23,24,25]),(7,.A [1,2,3,23,24,25,26]),(8,.B [1,2,3,8,23,24,25]),(9,.B [1,2,3,23,24,25]),(10,.A [1,2,3,23,24,25]),(11,.A [2,3,4])],[(4,9),(9,14)],[]⟩
def aNa:Ty:=.pair qa .unit
def aCK(F:Md):aF:=mSpec aNa (.tup (.pair wo (.pair wo (.pair wo .unit)))) (fun x=>bH F x.1)
abbrev aW8(F:Md):List (FuncId×aF):=[]
theorem aW9[Mx](F:Md):bF Tryz.prog GL (aW8 F):=.nil
attribute [go_sem] aNa aLp
theorem aVM[Mx](F:Md):FOK Tryz.prog GL 63 (aCK F):=by
 refine bP (bA (aW9 F)) mix Tryz.func63 rfl xN xAa aLp (fun w0 S x Θ Z h hV=>?_);obtain⟨(f:qd),u⟩:=x;simp only[cA,go_sem];replace h:sat (bH F f) _:=h;unfold bH at h;refine dD hV (D:=q8) (fun d=>sat (wC F f d) Θ) [3] (fun d=>[(1,.ptr 0 []),(2,.own 1)]) (fun d=>[.inr (.box 5 (.val qa f)),.inr (.row 9 .str d)]) ?_ ?_
 ·simp only[go_sem];refine aFZ 2 9 .str rfl (yaA ?_);refine bQ hV (D:=Int×q8) [3,10,11] (fun d=>[(1,.ptr 0 []),(2,.own 1),(12,.val qg d.1)]) (fun d=>[.inr (.box 5 (.val qa f)),.inr (.row 9 .str d.2)]) h rfl xAb ?_;rintro⟨z,J⟩ U T2 hA2 hE2 h;simp only[go_sem];replace h:sat (pC F f z J) _:=h;unfold pC at h;refine dU h (fun hc h=>?_) fun hc h=>?_
  ·refine aD h fun g0 h=>(yaC ?_);refine aD h fun g0 h=>(yaC ?_);refine aK h fun g0 h=>?_;replace h:=hA2 _ (aA h);refine gK [0,3] rfl rfl (yaA ?_);exact zaI
  ·replace h:=yaG (hE2 _ (aA h));exact aT (J) h rfl xAb
 ·rintro g h;simp only[go_sem];replace h:sat (wC F f g) _:=h;unfold wC at h;refine dD hV (D:=q8) (fun d=>sat (aAx F g f d) Θ) [] (fun d=>[(1,.ptr 0 []),(2,.own 1),(3,.own 2)]) (fun d=>[.inr (.box 5 (.val qa f)),.inr (.row 9 .str g),.inr (.row 9 .str d)]) ?_ ?_
  ·simp only[go_sem];refine aFZ 3 9 .str rfl (yaA ?_);refine bQ hV (D:=Int×q8) [23,24] (fun d=>[(1,.ptr 0 []),(2,.own 1),(3,.own 2),(25,.val qg d.1)]) (fun d=>[.inr (.box 5 (.val qa f)),.inr (.row 9 .str g),.inr (.row 9 .str d.2)]) h rfl xAb ?_;rintro⟨q,I⟩ A7 Y O N h;simp only[go_sem];replace h:sat (pB F f q I) _:=h;unfold pB at h;refine dU h (fun hc h=>?_) fun hc h=>?_
   ·refine aD h fun g0 h=>(yaC ?_);refine aD h fun g0 h=>(yaC ?_);refine aK h fun g0 h=>?_;replace h:=O _ (aA h);refine gK [0,1,4] rfl rfl (yaA ?_);exact zaI
   ·replace h:=yaG (N _ (aA h));exact aT (I) h rfl xAb
  ·rintro L h;simp only[go_sem];replace h:sat (aAx F g f L) _:=h;unfold aAx at h;exact zan
attribute [go_sem] aCK
def iC(F:Md)(slices_0:(List q8))(f:Int)(newslice_14:q8):Option ((Int×q8)⊕q8) :=
 if f<(slices_0.length:Int) then ck (0≤f∧f<(slices_0.length:Int)) (ck (((newslice_14.length)+(slices_0.getD (f.toNat) ([]:List qc)).length)*16≤140737488355328) (ck (I64 (f+(1:Int))) (some (.inl ((f+(1:Int)),(newslice_14++(slices_0.getD (f.toNat) ([]:List qc)))))))) else some (.inr newslice_14)
def lE(F:Md)(slices_0:(List q8))(f:Int):Option q8 :=
 (mP F f).bind (fun g=>(dK F (fun d:Int×q8=>iC F slices_0 d.1 d.2) ((0:Int),g)).bind (fun e=>some e))
def lF(F:Md)(slices_0:(List q8))(g:Int)(f:Int):Option (ww⊕(Int)) :=
 if f<(slices_0.length:Int) then ck (0≤f∧f<(slices_0.length:Int)) (ck (I64 (g+(((slices_0.getD (f.toNat) ([]:List qc)).length:Nat):Int))) (if (g+(((slices_0.getD (f.toNat) ([]:List qc)).length:Nat):Int))<(0:Int) then none else ck (I64 (f+(1:Int))) (some (.inl ((g+(((slices_0.getD (f.toNat) ([]:List qc)).length:Nat):Int)),(f+(1:Int))))))) else some (.inr g)
def cC(F:Md)(slices_0:(List q8)):Option q8 :=
 (dK F (fun d:Int×Int=>lF F slices_0 d.1 d.2) ((0:Int),(0:Int))).bind (fun e=>lE F slices_0 e)
def aCc(F:Md):PlR:=⟨[(0,.A [0]),(1,.A [0,3]),(2,.A [0,3,9,10,11]),(3,.A [0,3,9,10,11,12]),(4,.A [0,3,5,9,10,11]),(5,.A [0,3,9,10,11]),(6,.A [0,3,9,10,11,20]),(7,.P [0,3,9,10,11] []),(8,.A [0,3,9,10,11]),(9,.P [0,6] []),(10,.A [6,25,26,27]),(11,.A [6,25,26,27,28]),(12,.A [6,8,25,26,27]),(13,.B [6,25,26,27]),(14,.A [6,25,26,27]),(15,.A [2])],[(5,12)],[(113,aDe F)]⟩
def aCL:Ty:=.pair (.sl wo) .unit
def qN(F:Md):aF:=mSpec aCL (.one wo) (fun x=>cC F x.1)
abbrev aJs(F:Md):List (FuncId×aF):=[]
theorem aJt[Mx](F:Md):bF Tryz.prog GL (aJs F):=.nil
attribute [go_sem] aCL aCc
theorem aIh[Mx](F:Md):FOK Tryz.prog GL 64 (qN F):=by
 refine bP (bA (aJt F)) mix Tryz.func64 rfl xN xAa (aCc F) (fun w0 S x Θ hw h hV=>?_) (.cons (fun _ _=>(aKn F)) xN (.nil));obtain⟨(slices_0:(List q8)),u⟩:=x;simp only[cA,go_sem];replace h:sat (cC F slices_0) _:=h;unfold cC at h;refine dD hV (D:=Int) (fun d=>sat (lE F slices_0 d) Θ) [0] (fun d=>[(3,.val qg d)]) (fun d=>[]) ?_ ?_
 ·simp only[go_sem];refine bQ hV (D:=Int×Int) [0,9,10] (fun d=>[(3,.val qg d.1),(11,.val qg d.2)]) (fun d=>[]) h rfl xAb ?_;rintro⟨f,q⟩ Z T3 N L h;simp only[go_sem];replace h:sat (lF F slices_0 f q) _:=h;unfold lF at h;refine dU h (fun hc h=>?_) fun hc h=>?_
  ·refine aK h fun g0 h=>?_;refine aK h fun g0 h=>?_;refine dU h (fun hc h=>?_) fun hc h=>?_
   ·exact aCv h
   ·refine aK h fun g0 h=>?_;replace h:=N _ (aA h);exact zaI
  ·replace h:=yaG (L _ (aA h));exact aT (f) h rfl xAb
 ·rintro z h;simp only[go_sem];replace h:sat (lE F slices_0 z) _:=h;unfold lE at h;refine aB h fun U hv h=>?_;simp only[hv,go_sem];refine bQ hV (D:=Int×q8) [25,26] (fun d=>[(6,.own 0),(27,.val qg d.1)]) (fun d=>[.inr (.row 9 .str d.2)]) h rfl xAb ?_;rintro⟨g,newslice_14⟩ Y O I J h;simp only[go_sem];replace h:sat (iC F slices_0 g newslice_14) _:=h;unfold iC at h;refine dU h (fun hc h=>?_) fun hc h=>?_
  ·refine aD h fun g0 h=>(yaC ?_);refine aD h fun g0 h=>(yaC ?_);refine aK h fun g0 h=>?_;replace h:=I _ (aA h);refine gK [1] rfl rfl (yaA ?_);exact zaI
  ·replace h:=yaG (J _ (aA h));exact zaF
attribute [go_sem] qN
def wD(F:Md)(q:q8)(f:Int)(g:(List (qc×Bool))):Option ((Int×(List (qc×Bool)))⊕((Unit)⊕Bool)) :=
 if f<(q.length:Int) then ck (0≤f∧f<(q.length:Int)) ((cW F (q.getD (f.toNat) ([]:List Nat))).bind (fun z=>if (¬(z=true))∨(((aAm .str g (q.getD (f.toNat) ([]:List Nat))).getD false)=true) then some (.inr (.inr false)) else ck (I64 (f+(1:Int))) (some (.inl ((f+(1:Int)),(aCq .str g (q.getD (f.toNat) ([]:List Nat)) true)))))) else some (.inr (.inl ()))
def sM(F:Md)(f:q8):Option Bool :=
 (dK F (fun d:Int×(List (qc×Bool))=>wD F f d.1 d.2) ((0:Int),([]:List (qc×Bool)))).bind (fun e=>match e with|(.inl e)=>some true|(.inr e)=>some e)
def aLq:PlR:=⟨[(0,.A [0]),(1,.B [0,3]),(2,.A [3,7,8,9]),(3,.A [3,7,8,9,10]),(4,.A [3,5,7,8,9]),(5,.A [3,5,7,8,9,20]),(6,.A [2]),(7,.B [3,7,8,9]),(8,.A [3,7,8,9]),(9,.A [2])],[],[]⟩
def aNb:Ty:=.pair wo .unit
def wF(F:Md):aF:=mSpec aNb (.one .bool) (fun x=>sM F x.1)
abbrev aNc(F:Md):List (FuncId×aF):=[(70,(sK F))]
theorem aXa[Mx](F:Md):bF Tryz.prog GL (aNc F):=.cons (aHz F) xN (.nil)
attribute [go_sem] aNb aLq
theorem aLr[Mx](F:Md):FOK Tryz.prog GL 25 (wF F):=by
 refine bP (bA (aXa F)) mix Tryz.func25 rfl xN xAa aLq (fun w0 S x Θ N h hV=>?_);obtain⟨(z:q8),u⟩:=x;simp only[cA,go_sem];replace h:sat (sM F z) _:=h;unfold sM at h;refine bQ hV (D:=Int×(List (qc×Bool))) [7,8] (fun d=>[(3,.mp 0),(9,.val qg d.1)]) (fun d=>[.inr (.map .str .bool d.2)]) h rfl xAb ?_;rintro⟨g,f⟩ L T3 I q h;simp only[go_sem];replace h:sat (wD F z g f) _:=h;unfold wD at h;refine dU h (fun hc h=>?_) fun hc h=>?_
 ·refine aK h fun g0 h=>?_;refine aB h fun J hv h=>?_;try simp only[hv,go_sem]
  refine⟨fun hc=>?_,fun hc=>?_⟩
  ·replace h:=gZ zAC h;replace h:=yaG (q _ (aA h));exact zaF
  ·replace h:=hO zAC h;refine aK h fun g0 h=>?_;replace h:=I _ (aA h);exact zaI
 ·replace h:=yaG (q _ (aA h));exact zaF
attribute [go_sem] wF
def fM(F:Md)(f:qc)(prefix_1:qc):Option Bool :=
 ck (((prefix_1.length:Int)≤(f.length:Int))→(0≤(prefix_1.length:Int)∧(prefix_1.length:Int)≤(f.length:Int))) (some ((decide ((prefix_1.length:Int)≤(f.length:Int)))&&(decide ((List.take (prefix_1.length) f)=prefix_1))))
def aAT:PlR:=⟨[(0,.A [0,1]),(1,.A [4])],[],[]⟩
def aBh:Ty:=.pair .str wq
def iO(F:Md):aF:=mSpec aBh (.one .bool) (fun x=>fM F x.1 x.2.1)
abbrev aHB(F:Md):List (FuncId×aF):=[]
theorem aHC[Mx](F:Md):bF Tryz.prog GL (aHB F):=.nil
attribute [go_sem] aBh aAT
theorem aAU[Mx](F:Md):FOK Tryz.prog GL 206 (iO F):=by
 refine bP (bA (aHC F)) mix Tryz.func206 rfl xN xAa aAT (fun w0 S x Θ g h hV=>?_);obtain⟨(f:qc),(prefix_1:qc),u⟩:=x;simp only[cA,go_sem];replace h:sat (fM F f prefix_1) _:=h;unfold fM at h;refine aK h fun g0 h=>?_;exact zaD
attribute [go_sem] iO
def lU(F:Md)(f:qc)(prefix_1:qc):Option (qc×w6) :=
 (fM F f prefix_1).bind (fun v_8=>if ¬(v_8=true) then some (f,false,()) else ck (0≤(prefix_1.length:Int)∧(prefix_1.length:Int)≤(f.length:Int)) (some ((List.drop (prefix_1.length) f),true,())))
def aAV:PlR:=⟨[(0,.A [0,1]),(1,.A [0,1,9]),(2,.A [4,5]),(3,.A [4,5])],[],[]⟩
def aBi:Ty:=.pair .str wq
def oL(F:Md):aF:=mSpec aBi (.tup (.pair .str vf)) (fun x=>lU F x.1 x.2.1)
abbrev aBj(F:Md):List (FuncId×aF):=[(206,(iO F))]
theorem aHD[Mx](F:Md):bF Tryz.prog GL (aBj F):=.cons (aAU F) xN (.nil)
attribute [go_sem] aBi aAV
theorem aGJ[Mx](F:Md):FOK Tryz.prog GL 193 (oL F):=by
 refine bP (bA (aHD F)) mix Tryz.func193 rfl xN xAa aAV (fun w0 S x Θ g h hV=>?_);obtain⟨(f:qc),(prefix_1:qc),u⟩:=x;simp only[cA,go_sem];replace h:sat (lU F f prefix_1) _:=h;unfold lU at h;refine aB h fun v_8 hv h=>?_;try simp only[hv,go_sem]
 refine aA1 h (fun hc h=>?_) fun hc h=>?_
 ·exact aG hV [.tmp 4,.tmp 5] rfl rfl rfl (aA h) xAc
 ·refine aK h fun g0 h=>?_;exact aG hV [.tmp 4,.tmp 5] rfl rfl rfl (aA h) xAc
attribute [go_sem] oL
def oC(F:Md)(g:qc)(prefix_1:qc):Option (qc×w6) :=
 (lU F g prefix_1).bind (fun f=>some (f.1,f.2.1,()))
def aEn:PlR:=⟨[(0,.A [0,1]),(1,.A [4,5])],[],[]⟩
def aE3:Ty:=.pair .str wq
def uS(F:Md):aF:=mSpec aE3 (.tup (.pair .str vf)) (fun x=>oC F x.1 x.2.1)
abbrev aE4(F:Md):List (FuncId×aF):=[(193,(oL F))]
theorem aMy[Mx](F:Md):bF Tryz.prog GL (aE4 F):=.cons (aGJ F) xN (.nil)
attribute [go_sem] aE3 aEn
theorem aLs[Mx](F:Md):FOK Tryz.prog GL 161 (uS F):=by
 refine bP (bA (aMy F)) mix Tryz.func161 rfl xN xAa aEn (fun w0 S x Θ q h hV=>?_);obtain⟨(f:qc),(prefix_1:qc),u⟩:=x;simp only[cA,go_sem];replace h:sat (oC F f prefix_1) _:=h;unfold oC at h;refine aB h fun g hv h=>?_;try simp only[hv,go_sem]
 exact aG hV [.tmp 4,.tmp 5] rfl rfl rfl (aA h) xAc
attribute [go_sem] uS
def vN(F:Md)(g:qc):Option (Bool×(qc×(qc×w6))) :=
 (oC F g (aQ ⟨#[45]⟩)).bind (fun v_5=>(aCb F v_5.1).bind (fun f=>some ((v_5.2.1&&(decide ((0:Int)<(f.1.length:Int)))),f.1,f.2.1,f.2.2.1,())))
def aLt:PlR:=⟨[(0,.A [0]),(1,.A [6,7]),(2,.A [7,8,9,10]),(3,.A [2,3,4,5])],[],[]⟩
def aNd:Ty:=.pair .str .unit
def aCM(F:Md):aF:=mSpec aNd (.tup (.pair .bool (.pair wi (.pair wi vf)))) (fun x=>vN F x.1)
abbrev aHE(F:Md):List (FuncId×aF):=[(161,(uS F)),(162,(aFu F))]
theorem aXb[Mx](F:Md):bF Tryz.prog GL (aHE F):=.cons (aLs F) xN (.cons (aZx F) xN (.nil))
attribute [go_sem] aNd aLt
theorem aVN[Mx](F:Md):FOK Tryz.prog GL 114 (aCM F):=by
 refine bP (bA (aXb F)) mix Tryz.func114 rfl xN xAa aLt (fun w0 S x Θ q h hV=>?_);obtain⟨(f:qc),u⟩:=x;simp only[cA,go_sem];replace h:sat (vN F f) _:=h;unfold vN at h;refine aB h fun v_5 hv h=>?_;try simp only[hv,go_sem]
 refine aB h fun g hv h=>?_;try simp only[hv,go_sem]
 exact aG hV [.tmp 2,.tmp 3,.tmp 4,.tmp 5] rfl rfl rfl (aA h) xAc
attribute [go_sem] aCM
def nO(F:Md)(z:qn)(q:qc):Option (Bool) :=
 (vN F z.1).bind (fun g=>(vN F q).bind (fun f=>ck (aSW g.2.1 f.2.2.1) (ck (aSW f.2.1 g.2.2.1) (ck (bA5 (dE g.2.1 f.2.2.1) (dE f.2.1 g.2.2.1)) (if (¬(g.2.2.2.1=true))∨(¬(f.2.2.2.1=true)) then some false else if (g.1 != f.1)=true then some g.1 else if g.1=true then some (decide ((0:Int)≤(sG (dE g.2.1 f.2.2.1) (dE f.2.1 g.2.2.1)))) else some (decide ((sG (dE g.2.1 f.2.2.1) (dE f.2.1 g.2.2.1))≤(0:Int))))))))
def lV(F:Md)(f:qn):Option Bool :=
 if f.2.1=(aQ ⟨#[]⟩) then nO F f f.1 else nO F f f.2.1
def aJV:PlR:=⟨[(0,.B [1]),(1,.A [1,3]),(2,.A [1,3,16]),(3,.A [1,3]),(4,.A [3,4,5,6,7]),(5,.A [4,5,6,7,8,9,10,11]),(6,.A [4,7,8,11,12]),(7,.A [2]),(8,.A [4,8,12,43]),(9,.A [2]),(10,.A [4,12,50]),(11,.A [2]),(12,.A [12,55]),(13,.A [2])],[(5,7)],[]⟩
def aLu:Ty:=.pair qj .unit
def aBt(F:Md):aF:=mSpec aLu (.one .bool) (fun x=>lV F x.1)
abbrev aCN(F:Md):List (FuncId×aF):=[(105,jN),(114,(aCM F)),(115,uN)]
theorem aVO[Mx](F:Md):bF Tryz.prog GL (aCN F):=.cons aAp xN (.cons (aVN F) xN (.cons aJd xN (.nil)))
attribute [go_sem] aLu aJV
theorem aTt[Mx](F:Md):FOK Tryz.prog GL 66 (aBt F):=by
 refine bP (bA (aVO F)) mix Tryz.func66 rfl xN xAa aJV (fun w0 S x Θ J h hV=>?_);obtain⟨(f:qn),u⟩:=x;simp only[cA,go_sem];replace h:sat (lV F f) _:=h;unfold lV at h;refine dD hV (D:=qc) (fun d=>sat (nO F f d) Θ) [] (fun d=>[(1,.ptr 0 []),(3,.val .str d)]) (fun d=>[.inr (.box 2 (.val qj f))]) ?_ ?_
 ·simp only[go_sem];refine cH h (fun hc h=>?_) fun hc h=>?_
  ·exact aT f.1 h rfl xAb
  ·exact aT f.2.1 h rfl xAb
 ·rintro g h;simp only[go_sem];replace h:sat (nO F f g) _:=h;unfold nO at h;refine aB h fun z hv h=>?_;try simp only[hv,go_sem]
  refine aB h fun q hv h=>?_;try simp only[hv,go_sem]
  refine aK h fun g0 h=>aK h fun g1 h=>aK h fun I h=>?_;refine⟨fun hc=>?_,fun hc=>?_⟩
  ·replace h:=gZ zAC h;exact zaF
  ·replace h:=hO zAC h;refine aH2 h (fun hc h=>?_) fun hc h=>?_
   ·exact aG hV [.tmp 2] rfl rfl rfl (aA h) xAc
   ·refine aH2 h (fun hc h=>?_) fun hc h=>?_
    ·exact aG hV [.tmp 2] rfl rfl rfl (aA h) xAc
    ·exact aG hV [.tmp 2] rfl rfl rfl (aA h) xAc
attribute [go_sem] aBt
attribute [-go_sem] Ex.kind Ex.text Ex.l
@[go_sem] theorem bNT(k:Int)(t:List Nat)(l:List Ex):Ex.l (.mk k t l)=l:=rfl
@[go_sem] theorem bNU(k:Int)(t:List Nat)(l:List Ex):Ex.kind (.mk k t l)=k:=rfl
@[go_sem] theorem bNV(k:Int)(t:List Nat)(l:List Ex):Ex.text (.mk k t l)=t:=rfl
def fC(F:Md)(g:Ex→Int→Int→Int→Option ww)(L:Ex)(z:Int)(f:Int)(I:Int)(J:Int):Option ((Int×Int×Int)⊕ww) :=
 if f<(((L.l).length:Nat):Int) then ck (0≤f∧f<(((L.l).length:Nat):Int)) (ck (I64 (z+(1:Int))) ((g ((L.l).getD (f.toNat) (Ex.mk 0 [] [])) (z+(1:Int)) I J).bind (fun q=>ck (I64 (f+(1:Int))) (some (.inl ((f+(1:Int)),q.1,q.2)))))) else some (.inr (I,J))
def mQ(F:Md)(g:Ex→Int→Int→Int→Option ww)(I:Ex)(f:Int)(q:Int)(z:Int):Option ww :=
 ck (I64 (q+(1:Int))) (if ((60:Int)<(q+(1:Int)))∨((30:Int)<f) then some ((q+(1:Int)),(max z f)) else (dK F (fun d:Int×Int×Int=>fC F g I f d.1 d.2.1 d.2.2) ((0:Int),(q+(1:Int)),(max z f))).bind (fun e=>some (e.1,e.2)))
@[go_sem]def aAy(g:Ex→Int→Int→Int→Option ww):fQ where
 D:=Ex×Int×Int×Int×ww
 av:=fun d=>[.val .expr d.1,.val qg d.2.1,.ptr 0 [],.ptr 1 [],.ptr 2 []]
 hp:=fun d=>[.box 1 (.val qg d.2.2.1),.box 1 (.val qg d.2.2.2.1),.box 1 (.fn 128 [] [0,1,2])]
 m:=3
 pre:=fun d=>g d.1 d.2.1 d.2.2.1 d.2.2.2.1=some d.2.2.2.2
 out:=fun d=>(fun r:ww=>.ret (.tup []) [.box 1 (.val qg r.1),.box 1 (.val qg r.2),.box 1 (.fn 128 [] [0,1,2])]) d.2.2.2.2
@[go_sem]def aIj(g:Ex→Int→Int→Int→Option ww)(vs:List AV)(h:List Vc.Obj):Hit:=mkH (g (qV h vs 0 .expr) (qV h vs 1 qg) (eM h (fY vs 2) qg) (eM h (fY vs 3) qg)) ((0:Int),(0:Int)) fun r=>⟨(aAy g),[(fY vs 2),(fY vs 3),(fY vs 4)],((qV h vs 0 .expr),(qV h vs 1 qg),(eM h (fY vs 2) qg),(eM h (fY vs 3) qg),r)⟩
def aIk(F:Md)(g:Ex→Int→Int→Int→Option ww):fQ where
 D:=Ex×Int×Int×Int×ww
 av:=fun d=>[.val .expr d.1,.val qg d.2.1,.ptr 0 [],.ptr 1 [],.ptr 2 []]
 hp:=fun d=>[.box 1 (.val qg d.2.2.1),.box 1 (.val qg d.2.2.2.1),.box 1 (.fn 128 [] [0,1,2])]
 m:=3
 pre:=fun d=>mQ F g d.1 d.2.1 d.2.2.1 d.2.2.2.1=some d.2.2.2.2
 out:=fun d=>(fun r:ww=>.ret (.tup []) [.box 1 (.val qg r.1),.box 1 (.val qg r.2),.box 1 (.fn 128 [] [0,1,2])]) d.2.2.2.2
def aJW(F:Md)(g:Ex→Int→Int→Int→Option ww):PlR:=⟨[(0,.B [1,2,3,4,5]),(1,.B [1,2,3,4,5]),(2,.B [1,2,4,5]),(3,.A [1,4,5,19]),(4,.A [1,4,21,22,23]),(5,.A [1,4,21,22,23,24]),(6,.B [1,4,8,21,22,23]),(7,.P [1,4,21,22,23] []),(8,.A [1,4,21,22,23])],[],[(128,(aIj g))]⟩
abbrev aVP(F:Md)(g:Ex→Int→Int→Int→Option ww):List (FuncId×aF):=[]
theorem aVQ[Mx](F:Md)(g:Ex→Int→Int→Int→Option ww)(f:GOK Tryz.prog GL 128 (aAy g)):bF Tryz.prog GL (aVP F g):=.nil
attribute [go_sem] aJW aIk
theorem aRq[Mx](F:Md)(g:Ex→Int→Int→Int→Option ww)(Z:GOK Tryz.prog GL 128 (aAy g)):GOK Tryz.prog GL 128 (aIk F g):=by
 refine kG (bA (aVQ F g Z)) mix Tryz.func128 rfl xN (fun _=>Nat.le_of_ble_eq_true rfl) (aJW F g) (fun c0 w0 d hw hw2 h hV=>?_) (.cons (fun _ _=>Z) xN (.nil));obtain⟨(I:Ex),(q:Int),(z:Int),(J:Int),r⟩:=d;have hF:=hV.fr;replace h:=kH (show mQ F g I q z J=some r from h);simp only[vH,List.map_cons,List.map_nil,go_sem];unfold mQ at h;refine aD h fun g0 h=>?_;try simp only[I64,I32] at g0
 repeat (refine⟨zAB,?_⟩)
 refine⟨fun hc=>?_,fun hc=>?_⟩
 ·replace h:=gZ hc h;obtain rfl:=aO h;refine gK [0,1,2] rfl rfl (yaB ?_);exact zaa
 ·replace h:=hO hc h;refine aDL [0,1,2] rfl rfl (yaA ?_);refine bQ hV (D:=Int×Int×Int) [1,21,22] (fun d=>[(4,.ptr 2 []),(23,.val qg d.1)]) (fun d=>[.inr (.box 1 (.val qg d.2.1)),.inr (.box 1 (.val qg d.2.2)),.inr (.box 1 (.fn 128 [] [0,1,2]))]) h rfl xAb ?_;rintro⟨f,L,N⟩ A5 T5 U O h;simp only[go_sem];replace h:sat (fC F g I q f L N) _:=h;unfold fC at h;refine dU h (fun hc h=>?_) fun hc h=>?_
  ·refine aD h fun g0 h=>(yaD ?_);refine aD h fun g0 h=>?_;(try simp only[I64,I32] at g0);(repeat (refine⟨zAB,?_⟩));refine aB h fun Y hv h=>?_;simp only[hv,go_sem];(repeat (refine⟨zAB,?_⟩));refine aD h fun g0 h=>?_;(try simp only[I64,I32] at g0);(repeat (refine⟨zAB,?_⟩));replace h:=U _ (aA h);refine gK [0,1,2] rfl rfl (yaA ?_);exact zaI
  ·replace h:=yaG (O _ (aA h));obtain rfl:=aO h;exact zas
def gO(F:Md):Nat→Ex→Int→Int→Int→Option ww
 | 0=>fun _ _ _ _=>none
 | n+1=>mQ F (gO F n)
def aET(F:Md)(n:Nat):fQ where
 D:=Ex×Int×Int×Int×ww
 av:=fun d=>[.val .expr d.1,.val qg d.2.1,.ptr 0 [],.ptr 1 [],.ptr 2 []]
 hp:=fun d=>[.box 1 (.val qg d.2.2.1),.box 1 (.val qg d.2.2.2.1),.box 1 (.fn 128 [] [0,1,2])]
 m:=3
 pre:=fun d=>gO F n d.1 d.2.1 d.2.2.1 d.2.2.2.1=some d.2.2.2.2
 out:=fun d=>(fun r:ww=>.ret (.tup []) [.box 1 (.val qg r.1),.box 1 (.val qg r.2),.box 1 (.fn 128 [] [0,1,2])]) d.2.2.2.2
@[go_sem]def aJX(F:Md)(n:Nat)(vs:List AV)(h:List Vc.Obj):Hit:=mkH (gO F n (qV h vs 0 .expr) (qV h vs 1 qg) (eM h (fY vs 2) qg) (eM h (fY vs 3) qg)) ((0:Int),(0:Int)) fun r=>⟨(aET F n),[(fY vs 2),(fY vs 3),(fY vs 4)],((qV h vs 0 .expr),(qV h vs 1 qg),(eM h (fY vs 2) qg),(eM h (fY vs 3) qg),r)⟩
theorem aJY[Mx](F:Md):∀n,GOK Tryz.prog GL 128 (aET F n)
 | 0=>fun _ _ _ _ hp _=>absurd (show none=some _ from hp) xAf
 | n+1=>aRq F _ (aJY F n)
attribute [go_sem] aET
def aAz(F:Md)(g:Ex):Option (Int×qp) :=
 (gO F 64 g (1:Int) (0:Int) (0:Int)).bind (fun f=>some (f.1,f.2,()))
def aNe(F:Md):PlR:=⟨[(0,.B [1,2,3]),(1,.B [1,2,3,4]),(2,.B [1,2,3,4]),(3,.P [2,3] []),(4,.stop)],[],[(128,(aJX F 64))]⟩
def aPA:Ty:=.pair .expr .unit
def aDU(F:Md):aF:=mSpec aPA (.tup w8) (fun x=>aAz F x.1)
abbrev aZA(F:Md):List (FuncId×aF):=[]
theorem aZB[Mx](F:Md):bF Tryz.prog GL (aZA F):=.nil
attribute [go_sem] aPA aNe
theorem aXc[Mx](F:Md):FOK Tryz.prog GL 87 (aDU F):=by
 refine bP (bA (aZB F)) mix Tryz.func87 rfl xN xAa (aNe F) (fun w0 S x Θ q h hV=>?_) (.cons (fun _ _=>(aJY F 64)) xN (.nil));have hF:=hV.fr;obtain⟨(g:Ex),u⟩:=x;simp only[cA,go_sem];replace h:sat (aAz F g) _:=h;unfold aAz at h;refine aB h fun f hv h=>?_;simp only[hv,go_sem];repeat (refine⟨zAB,?_⟩)
 obtain⟨q0,h,hq⟩:=h;refine aGY hF [2,3] [(2,.ptr 1 []),(3,.ptr 2 [])] [.box 3 (.val .expr g),.box 1 (.val qg f.1),.box 1 (.val qg f.2),.box 1 (.fn 128 [] [1,2,3])] xAa ?_ ?_
 ·simp only[go_sem];unfold anyS;intro i hi;have hi:i=0∨i=1:=by revert hi; revert i; decide
  rcases hi with rfl|rfl
  ·simp only[go_sem];(repeat (refine⟨zAA,?_⟩));unfold anyS;intro i hi;have hi:i=1∨i=2:=(by revert hi; revert i; decide);rcases hi with rfl|rfl
   ·simp only[go_sem];(repeat (refine⟨zAA,?_⟩));unfold anyS;intro i hi;have hi:i=2:=(by revert hi; revert i; decide);exact zaS
   ·simp only[go_sem];(repeat (refine⟨zAA,?_⟩));unfold anyS;intro i hi;have hi:i=1:=(by revert hi; revert i; decide);exact zaS
  ·simp only[go_sem];(repeat (refine⟨zAA,?_⟩));unfold anyS;intro i hi;have hi:i=0:=(by revert hi; revert i; decide);subst hi;simp only[go_sem];(repeat (refine⟨zAA,?_⟩));unfold anyS;intro i hi;have hi:i=2:=(by revert hi; revert i; decide);exact zaS
 replace h:=oV h hq;refine aF4 hV (yaA ?_);exact aG hV [.cell 2 3,.cell 3 3] rfl rfl rfl (aA h) xAc
attribute [go_sem] aDU
def oJ(F:Md)(f:Ex):Option Bool :=
 (aAz F f).bind (fun v_5=>some ((decide (v_5.1≤(60:Int)))&&(decide (v_5.2.1≤(30:Int)))))
def aPB:PlR:=⟨[(0,.B [1]),(1,.A [3,4]),(2,.A [2])],[],[]⟩
def aSJ:Ty:=.pair .expr .unit
def aAA(F:Md):aF:=mSpec aSJ (.one .bool) (fun x=>oJ F x.1)
abbrev aSK(F:Md):List (FuncId×aF):=[(87,(aDU F))]
theorem bBH[Mx](F:Md):bF Tryz.prog GL (aSK F):=.cons (aXc F) xN (.nil)
attribute [go_sem] aSJ aPB
theorem aPC[Mx](F:Md):FOK Tryz.prog GL 41 (aAA F):=by
 refine bP (bA (bBH F)) mix Tryz.func41 rfl xN xAa aPB (fun w0 S x Θ g h hV=>?_);obtain⟨(f:Ex),u⟩:=x;simp only[cA,go_sem];replace h:sat (oJ F f) _:=h;unfold oJ at h;exact zat
attribute [go_sem] aAA
def rD(F:Md)(f:Bool):Option (Int) :=
 if f=true then some (1:Int) else some (-1:Int)
def rE(F:Md)(f:Int)(g:Bool):Option (Int) :=
 if g=true then some (2:Int) else if f=(10:Int) then rD F (decide (f=(10:Int))) else if f=(11:Int) then rD F (decide (f=(11:Int))) else if f=(12:Int) then rD F (decide (f=(12:Int))) else rD F (decide (f=(13:Int)))
def yB(F:Md)(f:Int)(g:Bool):Option (Int) :=
 if g=true then some (0:Int) else if f=(6:Int) then rE F f (decide (f=(6:Int))) else if f=(7:Int) then rE F f (decide (f=(7:Int))) else if f=(8:Int) then rE F f (decide (f=(8:Int))) else rE F f (decide (f=(9:Int)))
def aAB(F:Md)(f:Int):Option Int :=
 if f=(1:Int) then yB F f (decide (f=(1:Int))) else yB F f (decide (f=(2:Int)))
@[go_sem]def aFx:Ty:=.pair qg .unit
def aDV(F:Md):aF:=mSpec aFx (.one qg) (fun x=>aAB F x.1)
abbrev aPD(F:Md):List (FuncId×aF):=[]
theorem aPE[Mx](F:Md):bF Tryz.prog GL (aPD F):=.nil
theorem aXd[Mx](F:Md):FOK Tryz.prog GL 164 (aDV F):=by
 refine aFK (bA (aPE F)) Tryz.func164 rfl xN xAa fun w0 S x r I h=>?_;have hF:vG (fr Tryz.prog (EM (aPD F)) S w0 Tryz.f164.ntmps):=⟨bA (aPE F),mix⟩;obtain⟨(f:Int),u⟩:=x;simp only[aFx,Ty.wf,aHo] at I;simp only[cA,aFx];try dsimp only at h
 replace h:aAB F f=some r:=h;unfold aAB at h;refine aN (aR hF [0] (yaA ?_));refine aP (aN (aN (aR hF [3] (yaA ?_))));refine aP (sP (aBU (D:=Bool) (fun d=>yB F f d=some r) [3] (fun d=>[(4,.val .bool d)]) (fun d=>[]) ?_ ?_))
 ·refine aN (aR hF [3,4] (yaA ?_));refine aP (dF rfl (fun hc=>?_) (fun hc=>?_))
  ·(try simp only[go_sem] at hc);have h:=pI zAC h;refine eO (dW (aT (decide (f=(1:Int))) h rfl ?_))
   ·exact zAI
  ·(try simp only[go_sem] at hc);have h:=oF zAC h;refine aR hF [3,4] (yaA ?_);refine dW (aT (decide (f=(2:Int))) h rfl ?_)
   ·exact zAI
 ·rintro z h;try dsimp only at h
  simp only[go_sem];unfold yB at h;refine dF rfl (fun hc=>?_) (fun hc=>?_)
  ·(try simp only[go_sem] at hc);exact zaj
  ·(try simp only[go_sem] at hc);have h:=oF zAC h;refine aBU (D:=Bool) (fun d=>rE F f d=some r) [3] (fun d=>[(7,.val .bool d)]) (fun d=>[]) ?_ ?_
   ·refine aN (aR hF [3,7] (yaA ?_));refine aP (dF rfl (fun hc=>?_) (fun hc=>?_))
    ·(try simp only[go_sem] at hc);have h:=pI zAC h;refine eO (dW (aT (decide (f=(6:Int))) h rfl ?_))
     ·exact zAI
    ·(try simp only[go_sem] at hc);have h:=oF zAC h;refine aN (aR hF [3,7] (yaA ?_));refine aP (dF rfl (fun hc=>?_) (fun hc=>?_))
     ·(try simp only[go_sem] at hc);have h:=pI zAC h;refine eO (dW (aT (decide (f=(7:Int))) h rfl ?_))
      ·exact zAI
     ·(try simp only[go_sem] at hc);have h:=oF zAC h;refine aN (aR hF [3,7] (yaA ?_));refine aP (dF rfl (fun hc=>?_) (fun hc=>?_))
      ·(try simp only[go_sem] at hc);have h:=pI zAC h;refine eO (dW (aT (decide (f=(8:Int))) h rfl ?_))
       ·exact zAI
      ·(try simp only[go_sem] at hc);have h:=oF zAC h;refine aR hF [3,7] (yaA ?_);refine dW (aT (decide (f=(9:Int))) h rfl ?_)
       ·exact zAI
   ·rintro q h;(try dsimp only at h);simp only[go_sem];unfold rE at h;refine dF rfl (fun hc=>?_) (fun hc=>?_)
    ·(try simp only[go_sem] at hc);exact zaj
    ·(try simp only[go_sem] at hc);have h:=oF zAC h;refine aBU (D:=Bool) (fun d=>rD F d=some r) [] (fun d=>[(12,.val .bool d)]) (fun d=>[]) ?_ ?_
     ·refine aN (aR hF [3,12] (yaA ?_));refine aP (dF rfl (fun hc=>?_) (fun hc=>?_))
      ·(try simp only[go_sem] at hc);have h:=pI zAC h;refine eO (dW (aT (decide (f=(10:Int))) h rfl ?_))
       ·exact zAI
      ·(try simp only[go_sem] at hc);have h:=oF zAC h;refine aN (aR hF [3,12] (yaA ?_));refine aP (dF rfl (fun hc=>?_) (fun hc=>?_))
       ·(try simp only[go_sem] at hc);have h:=pI zAC h;refine eO (dW (aT (decide (f=(11:Int))) h rfl ?_))
        ·exact zAI
       ·(try simp only[go_sem] at hc);have h:=oF zAC h;refine aN (aR hF [3,12] (yaA ?_));refine aP (dF rfl (fun hc=>?_) (fun hc=>?_))
        ·(try simp only[go_sem] at hc);have h:=pI zAC h;refine eO (dW (aT (decide (f=(12:Int))) h rfl ?_))
         ·exact zAI
        ·(try simp only[go_sem] at hc);have h:=oF zAC h;refine aR hF [12] (yaA ?_);refine dW (aT (decide (f=(13:Int))) h rfl ?_)
         ·exact zAI
     ·rintro g h;(try dsimp only at h);simp only[go_sem];unfold rD at h;refine dF rfl (fun hc=>?_) (fun hc=>?_)
      ·(try simp only[go_sem] at hc);exact zaj
      ·(try simp only[go_sem] at hc);have h:=oF zAC h;refine eO (sD (aP (aN (aR hF [2] (yaA ?_)))));obtain rfl:=Option.some.inj h;refine aP (iW (pM hF [.tmp 2] rfl rfl rfl ?_));exact zaQ
attribute [go_sem] aDV
@[go_sem]def aFy:Ty:=.pair .expr (.pair wo .unit)
@[go_sem]def lW(g:Ex→q8→Option (Bool)):aF:=mSpec aFy (.one .bool) (fun x=>g x.1 x.2.1)
def aAd(F:Md)(g:Ex→q8→Option (Bool))(z:Ex)(f:q8):Option Bool :=
 (g z f).bind (fun q=>some (!q))
def aJZ:PlR:=⟨[(0,.B [1,2]),(1,.A [3])],[],[]⟩
def aLv:Ty:=.pair .expr vj
def aBu(F:Md)(g:Ex→q8→Option (Bool)):aF:=mSpec aLv (.one .bool) (fun x=>aAd F g x.1 x.2.1)
abbrev aLw(F:Md)(g:Ex→q8→Option (Bool)):List (FuncId×aF):=[(116,(lW g))]
theorem aVS[Mx](F:Md)(g:Ex→q8→Option (Bool))(f:FOK Tryz.prog GL 116 (lW g)):bF Tryz.prog GL (aLw F g):=.cons f xN (.nil)
attribute [go_sem] aLv aJZ
theorem aTu[Mx](F:Md)(g:Ex→q8→Option (Bool))(z:FOK Tryz.prog GL 116 (lW g)):FOK Tryz.prog GL 166 (aBu F g):=by
 refine bP (bA (aVS F g z)) mix Tryz.func166 rfl xN xAa aJZ (fun w0 S x Θ J h hV=>?_);obtain⟨(q:Ex),(f:q8),u⟩:=x;simp only[cA,go_sem];replace h:sat (aAd F g q f) _:=h;unfold aAd at h;refine aB h fun I hv h=>?_;try simp only[hv,go_sem]
 exact aG hV [.tmp 3] rfl rfl rfl (aA h) xAc
attribute [go_sem] aBu
def bU(F:Md)(g:Ex→q8→Option (Bool))(q:vi)(z:vd)(f:Int):Option ((Int)⊕((Unit)⊕Int)) :=
 if f<(q.length:Int) then ck (0≤f∧f<(q.length:Int)) ((aAd F g (q.getD (f.toNat) (Ex.mk 0 [] [])) z.1).bind (fun v_27=>if v_27=true then some (.inr (.inr f)) else ck (I64 (f+(1:Int))) (some (.inl (f+(1:Int)))))) else some (.inr (.inl ()))
def dA(F:Md)(g:Ex→q8→Option (Bool))(q:vi)(f:vd):Option Int :=
 (dK F (fun d:Int=>bU F g q f d) (0:Int)).bind (fun e=>match e with|(.inl e)=>some (-1:Int)|(.inr e)=>some e)
def kJ:PlR:=⟨[(0,.A [0,1]),(1,.A [0,1,7,8]),(2,.A [0,1,7,8,9]),(3,.A [0,1,5,7,8]),(4,.A [0,1,5,7,8,16]),(5,.A [4]),(6,.A [0,1,7,8]),(7,.A [4])],[],[]⟩
def kT:Ty:=.pair (.sl .expr) (.pair (.clo 166 vj) .unit)
def dZ(F:Md)(g:Ex→q8→Option (Bool)):aF:=mSpec kT (.one qg) (fun x=>dA F g x.1 x.2.1)
abbrev kU(F:Md)(g:Ex→q8→Option (Bool)):List (FuncId×aF):=[(166,(aBu F g))]
theorem tY[Mx](F:Md)(g:Ex→q8→Option (Bool))(f:FOK Tryz.prog GL 116 (lW g)):bF Tryz.prog GL (kU F g):=.cons (aTu F g f) xN (.nil)
attribute [go_sem] kT kJ
theorem tI[Mx](F:Md)(g:Ex→q8→Option (Bool))(I:FOK Tryz.prog GL 116 (lW g)):FOK Tryz.prog GL 194 (dZ F g):=by
 refine bP (bA (tY F g I)) mix Tryz.func194 rfl xN xAa kJ (fun w0 S x Θ L h hV=>?_);obtain⟨(q:vi),(z:vd),u⟩:=x;simp only[cA,go_sem];replace h:sat (dA F g q z) _:=h;unfold dA at h;refine bQ hV (D:=Int) [0,1,7] (fun d=>[(8,.val qg d)]) (fun d=>[]) h rfl xAb ?_;rintro f J T2 hA2 hE2 h;simp only[go_sem];replace h:sat (bU F g q z f) _:=h;unfold bU at h;exact zaO
attribute [go_sem] dZ
def bV(F:Md)(g:Ex→q8→Option (Bool))(q:vi)(f:vd):Option Bool :=
 (dA F g q f).bind (fun v_8=>some (decide ((0:Int)≤v_8)))
def jE:PlR:=⟨[(0,.A [0,1]),(1,.A [4])],[],[]⟩
def jO:Ty:=.pair (.sl .expr) (.pair (.clo 166 vj) .unit)
def dM(F:Md)(g:Ex→q8→Option (Bool)):aF:=mSpec jO (.one .bool) (fun x=>bV F g x.1 x.2.1)
abbrev jP(F:Md)(g:Ex→q8→Option (Bool)):List (FuncId×aF):=[(194,(dZ F g))]
theorem rT[Mx](F:Md)(g:Ex→q8→Option (Bool))(f:FOK Tryz.prog GL 116 (lW g)):bF Tryz.prog GL (jP F g):=.cons (tI F g f) xN (.nil)
attribute [go_sem] jO jE
theorem rI[Mx](F:Md)(g:Ex→q8→Option (Bool))(z:FOK Tryz.prog GL 116 (lW g)):FOK Tryz.prog GL 165 (dM F g):=by
 refine bP (bA (rT F g z)) mix Tryz.func165 rfl xN xAa jE (fun w0 S x Θ I h hV=>?_);obtain⟨(q:vi),(f:vd),u⟩:=x;simp only[cA,go_sem];replace h:sat (bV F g q f) _:=h;unfold bV at h;refine aB h fun v_8 hv h=>?_;exact zao
attribute [go_sem] dM
def wG(F:Md)(g:Ex→q8→Option (Bool))(f:Ex)(names_1:q8):Option Bool :=
 (aAB F (f.kind)).bind (fun q=>if ¬(q=(((f.l).length:Nat):Int)) then some false else if (f.kind)=(1:Int) then (rC F (f.text)).bind (fun v_17=>some v_17) else if (f.kind)=(2:Int) then ck (¬((f.text)=(aQ ⟨#[116]⟩))→((eR F names_1 (f.text)).isSome=true)) (some ((decide ((f.text)=(aQ ⟨#[116]⟩)))||((eR F names_1 (f.text)).getD false))) else ck (((f.text)=(aQ ⟨#[]⟩))→((bV F g (f.l) (names_1,())).isSome=true)) (some ((decide ((f.text)=(aQ ⟨#[]⟩)))&&(!((bV F g (f.l) (names_1,())).getD false)))))
def aNf:PlR:=⟨[(0,.B [2,3]),(1,.A [2,3,11]),(2,.A [4]),(3,.A [2,3,13]),(4,.A [2,3,13,14]),(5,.A [4]),(6,.A [2,3,19]),(7,.A [4]),(8,.stop)],[],[]⟩
abbrev aCO(F:Md)(g:Ex→q8→Option (Bool)):List (FuncId×aF):=[(165,(dM F g)),(100,(wX F)),(118,(iN F)),(164,(aDV F))]
theorem aZC[Mx](F:Md)(g:Ex→q8→Option (Bool))(f:FOK Tryz.prog GL 116 (lW g)):bF Tryz.prog GL (aCO F g):=.cons (rI F g f) xN (.cons (aLo F) xN (.cons (aAS F) xN (.cons (aXd F) xN (.nil))))
attribute [go_sem] aNf
theorem aVT[Mx](F:Md)(g:Ex→q8→Option (Bool))(z:FOK Tryz.prog GL 116 (lW g)):FOK Tryz.prog GL 116 (mSpec aFy (.one .bool) (fun x=>wG F g x.1 x.2.1)):=by
 refine bP (bA (aZC F g z)) mix Tryz.func116 rfl xN xAa aNf (fun w0 S x Θ I h hV=>?_);obtain⟨(f:Ex),(names_1:q8),u⟩:=x;simp only[cA,go_sem];replace h:sat (wG F g f names_1) _:=h;unfold wG at h;refine aB h fun q hv h=>?_;try simp only[hv,go_sem]
 refine cH h (fun hc h=>?_) fun hc h=>?_
 ·exact aG hV [.tmp 4] rfl rfl rfl (aA h) xAc
 ·refine cH h (fun hc h=>?_) fun hc h=>?_
  ·refine aB h fun v_17 hv h=>?_;exact zao
  ·refine cH h (fun hc h=>?_) fun hc h=>?_
   ·refine aD h fun g0 h=>?_;(repeat (refine⟨zAH,?_⟩));exact zaD
   ·refine aEe 1 rfl (yaA ?_);refine vI hV [4] (yaA ?_);refine aD h fun g0 h=>?_;(repeat (refine⟨zAH,?_⟩));exact zaD
def xG(F:Md):Nat→Ex→q8→Option (Bool)
 | 0=>fun _ _=>none
 | n+1=>wG F (xG F n)
def aDW(F:Md)(n:Nat):aF:=mSpec aFy (.one .bool) (fun x=>xG F n x.1 x.2.1)
theorem aNg[Mx](F:Md):∀n,FOK Tryz.prog GL 116 (aDW F n)
 | 0=>fun _ _ _ _ _ _ _ hp=>Bool.noConfusion (show false=true from hp)
 | n+1=>aVT F _ (aNg F n)
attribute [go_sem] aDW
end
end Nu
end Go.Proofs

