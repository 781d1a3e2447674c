import Derived.Test.YtlijgfkkmamanaaGreatDoorZL5
import Derived.Test.YtlijgfkkmamanaaGreatDoorZS1
import Derived.Lib.AppendZeros
import Derived.Lib.SliceRun
import Derived.WalkKit
import Derived.Lib.Walk
import Derived.Shelf.RegionOpenPlain
set_option linter.unusedVariables false
set_option linter.unusedSimpArgs false
namespace Go.Proofs
open Go.Vc
set_option maxRecDepth 20000
namespace Nu
noncomputable section
set_option maxHeartbeats 4000000
def aM6:PlR:=⟨[(0,.A [0,1]),(1,.B [4])],[],[]⟩
@[go_sem]def aJl:Ty:=.pair wi qm
@[go_sem]def aDV:aF:=⟨aJl,.own 165 qw,fun x=>aFu x.1 x.2.1,fun x=>fY x.1 x.2.1⟩
def aW2(F:Md):aF:=mSpec aJl (.own 165 qw) (fun x=>aCH F x.1 x.2.1)
abbrev aPj(F:Md):List (FuncId×aF):=[(142,dW)]
theorem aZw[Mx](F:Md):bF Tryz.prog GL (aPj F):=.cons rM xP (.nil)
attribute [go_sem] aM6
theorem aW3[Mx](F:Md):FOK Tryz.prog GL 145 (aW2 F):=by
 refine bQ (aZ (aZw F)) mix Tryz.func145 rfl xP xAa aM6 (fun w0 S x Θ q h hV=>?_);obtain⟨(f:qd),(g:Int),u⟩:=x;simp only[cA,go_sem];replace h:sat (aCH F f g) _:=h;unfold aCH at h;refine aK h fun g0 h=>?_;refine aK h fun g0 h=>?_;refine aD h fun g0 h=>?_;refine aD h fun g1 h=>(yaC ?_);exact zaD
theorem aW4[Mx]:FOK Tryz.prog GL 145 aDV:=jJ (aW3 none) (fun⟨f,x1,u⟩ ⟨w0,g,q⟩ hp=>aVn f w0 x1 g hp)
def aJm(F:Md):fH where
 D:=Nat×Nat×qd×qd×vr
 av:=fun d=>[.sub 0 1 d.1 d.2.1,.val wi d.2.2.1]
 hp:=fun d=>[.row 165 qw d.2.2.2.1]
 m:=1
 pre:=fun d=>aB1 F d.1 d.2.1 d.2.2.1 d.2.2.2.1=some d.2.2.2.2
 out:=fun d=>(fun r:vr=>.ret (.val qw r.1) [.row 165 qw r.2]) d.2.2.2.2
def aPk:PlR:=⟨[(0,.A [0,1]),(1,.A [0,1,5]),(2,.A [0,1,5,6,8]),(3,.A [0,1,5,6,8,31]),(4,.A [0,1,5,6,7,8]),(5,.A [0,1,5,6,7,8]),(6,.A [0,1,5,6,7,65]),(7,.A [0,1,5,6,7,9,10]),(8,.A [0,1,5,6,7,92]),(9,.A [0,1,5,6,7]),(10,.A [0,1,5,6,7,8]),(11,.A [0,1,5,6,11,12]),(12,.A [0,1,5,6,11,12,105,106,107]),(13,.A [0,1,5,6,11,12,105,106,107,108]),(14,.A [0,1,5,6,11,12,13,14,105,106,107]),(15,.A [0,1,5,6,11,12,13,15,16,105,106,107]),(16,.A [0,1,5,6,11,12,13,15,16,105,106,107]),(17,.A [0,1,5,6,12,13,15,16,17,105,106,107]),(18,.A [0,1,5,6,11,12,13,16,105,106,107]),(19,.B [0,1,5,6,11,12,105,106,107]),(20,.A [0,1,5,6,11,12,105,106,107]),(21,.B [0,1,5,6,12]),(22,.A [0,1,5,6,155]),(23,.A [4]),(24,.A [0,1,5,6,11]),(25,.A [0,5,6,11,157,158,159]),(26,.A [0,5,6,11,157,158,159,160]),(27,.A [0,5,6,11,18,19,157,158,159]),(28,.B [0,5,6,11,157,158,159]),(29,.A [0,5,6,11,157,158,159]),(30,.B [6]),(31,.A [4])],[(6,9),(9,14),(15,24),(28,33)],[]⟩
abbrev aEr(F:Md):List (FuncId×aF):=[(150,yM),(151,sE),(186,yN),(188,aDS)]
theorem bBG[Mx](F:Md):bF Tryz.prog GL (aEr F):=.cons aM3 xP (.nat aHx (.cons aM5 xP (.nat aWO (.nil))))
attribute [go_sem] aPk aJm
theorem aZx[Mx](F:Md):GOK Tryz.prog GL 147 (aJm F):=by
 refine jR (aZ (bBG F)) mix Tryz.func147 rfl xP (fun _=>Nat.le_of_ble_eq_true rfl) aPk (fun c0 w0 d hw hw2 h hV=>?_);obtain⟨(f:Nat),(g:Nat),(q:qd),(I:qd),r⟩:=d;have hF:=hV.fr;replace h:=jS (show aB1 F f g q I=some r from h);simp only[vH,List.map_cons,List.map_nil,go_sem];unfold aB1 at h;refine dB hV (D:=Nat×Nat×Nat) (fun d=>sat (tC F q g f I d.1 d.2.1 d.2.2) (fun z=>z=r)) [1,5] (fun d=>[(0,.sub 0 1 f g),(6,.val qw d.1),(7,.val qw d.2.1),(8,.val qw d.2.2)]) (fun d=>[.inr (.row 165 qw I)]) ?_ ?_
 ·simp only[go_sem,bJ F,bK F,bL F];refine aD h fun g0 h=>?_;refine aD h fun g1 h=>?_;refine aD h fun g2 h=>?_;refine aD h fun g3 h=>(yaC ?_);refine cE h (fun hc h=>?_) fun hc h=>?_
  ·refine aD h fun g0 h=>?_;refine aD h fun g1 h=>?_;refine aD h fun g2 h=>?_;refine aD h fun g3 h=>?_;refine aD h fun g4 h=>?_;refine aD h fun g5 h=>?_;refine aD h fun g6 h=>?_;refine aD h fun g7 h=>(yaC ?_);exact aT ((rO (I.getD (f+(q.length)) (0:Nat)) (I.getD (f+((q.length:Int)-(1:Int)).toNat) (0:Nat)) (q.getD ((q.length:Int)-(1:Int)).toNat (0:Nat))).1,(rO (I.getD (f+(q.length)) (0:Nat)) (I.getD (f+((q.length:Int)-(1:Int)).toNat) (0:Nat)) (q.getD ((q.length:Int)-(1:Int)).toNat (0:Nat))).2.1,(0:Nat)) h rfl xAd
  ·refine aD h fun g0 h=>?_;refine aD h fun g1 h=>?_;refine aD h fun g2 h=>?_;refine aD h fun g3 h=>?_;refine aD h fun g4 h=>?_;refine aD h fun g5 h=>(yaC ?_);exact aT ((18446744073709551615:Nat),(uG (I.getD (f+((q.length:Int)-(1:Int)).toNat) (0:Nat)) (q.getD ((q.length:Int)-(1:Int)).toNat (0:Nat)) (0:Nat)).1,(uG (I.getD (f+((q.length:Int)-(1:Int)).toNat) (0:Nat)) (q.getD ((q.length:Int)-(1:Int)).toNat (0:Nat)) (0:Nat)).2.1) h rfl xAd
 ·rintro⟨x_4,rest_5,Z⟩ h;simp only[go_sem,bJ F,bK F,bL F];replace h:sat (tC F q g f I x_4 rest_5 Z) _:=h;unfold tC at h;refine dB hV (D:=Nat) (fun d=>sat (wB F q g f I d) (fun z=>z=r)) [1,5] (fun d=>[(0,.sub 0 1 f g),(6,.val qw d)]) (fun d=>[.inr (.row 165 qw I)]) ?_ ?_
  ·simp only[go_sem,bJ F,bK F,bL F];refine bP hV (D:=Nat×Nat×Nat) [1,5] (fun d=>[(0,.sub 0 1 f g),(6,.val qw d.1),(7,.val qw d.2.1),(8,.val qw d.2.2)]) (fun d=>[.inr (.row 165 qw I)]) h rfl xAd ?_;rintro⟨O,L,Y⟩ A6 T6 hA6 hE6 h;simp only[go_sem,bJ F,bK F,bL F];replace h:sat (pS F q g f I O L Y) _:=h;unfold pS at h;refine cE h (fun hc h=>?_) fun hc h=>?_
   ·refine aD h fun g0 h=>?_;refine aD h fun g1 h=>(yaC ?_);refine aD h fun g0 h=>?_;refine aD h fun g1 h=>(yaC ?_);refine⟨fun hc=>?_,fun hc=>?_⟩
    ·replace h:=fQ hc h;replace h:=yaG (hE6 _ (aA h));exact aT (O) h rfl xAd
    ·replace h:=fR hc h;refine aD h fun g0 h=>?_;refine aD h fun g1 h=>?_;refine aD h fun g2 h=>(yaC ?_);replace h:=hA6 _ (aA h);exact zak
   ·replace h:=yaG (hE6 _ (aA h));exact aT (O) h rfl xAd
  ·rintro J h;simp only[go_sem,bJ F,bK F,bL F];replace h:sat (wB F q g f I J) _:=h;unfold wB at h;refine dB hV (D:=Nat×Nat×qd) (fun d=>sat (zZ F q g f J d.1 d.2.1 d.2.2) (fun z=>z=r)) [1,5,6] (fun d=>[(0,.sub 0 1 f g),(11,.val qw d.1),(12,.val qw d.2.1)]) (fun d=>[.inr (.row 165 qw d.2.2)]) ?_ ?_
   ·simp only[go_sem,bJ F,bK F,bL F];refine bP hV (D:=Nat×Nat×Int×qd) [1,5,6,105,106] (fun d=>[(0,.sub 0 1 f g),(11,.val qw d.1),(12,.val qw d.2.1),(107,.val qg d.2.2.1)]) (fun d=>[.inr (.row 165 qw d.2.2.2)]) h rfl xAd ?_;rintro⟨carry_41,borrow_42,N,u_44⟩ A13 T13 hA13 hE13 h;simp only[go_sem,bJ F,bK F,bL F];replace h:sat (oF F q J g f carry_41 borrow_42 N u_44) _:=h;unfold oF at h;refine dS h (fun hc h=>?_) fun hc h=>?_
    ·refine aD h fun g0 h=>(yaC ?_);refine aD h fun g0 h=>(yaC ?_);refine aD h fun g0 h=>?_;refine aD h fun g1 h=>(yaC ?_);refine aD h fun g0 h=>(yaC ?_);refine aD h fun g0 h=>?_;refine aD h fun g1 h=>(yaC ?_);refine aD h fun g0 h=>(yaC ?_);replace h:=hA13 _ (aA h);exact zak
    ·replace h:=yaG (hE13 _ (aA h));exact aT (carry_41,borrow_42,u_44) h rfl xAd
   ·rintro⟨carry_22,borrow_23,u_24⟩ h;simp only[go_sem,bJ F,bK F,bL F];replace h:sat (zZ F q g f J carry_22 borrow_23 u_24) _:=h;unfold zZ at h;refine aD h fun g0 h=>?_;refine aD h fun g1 h=>(yaC ?_);refine aD h fun g0 h=>(yaC ?_);refine aD h fun g0 h=>?_;refine aD h fun g1 h=>(yaC ?_);refine cE h (fun hc h=>?_) fun hc h=>?_
    ·obtain rfl:=aP h;refine dV hF [.tmp 4] rfl rfl rfl rfl rfl rfl ?_
     (try simp only[aS,jQ,jN,eU,dD,AV.isAgg,go_sem,bJ F,bK F,bL F])<;>first|trivial|rfl|(simp; done)
    ·refine dB hV (D:=Nat×qd) (fun d=>sat (zY F q g f J d.1 d.2) (fun z=>z=r)) [5,6] (fun d=>[(0,.sub 0 1 f g),(11,.val qw d.1)]) (fun d=>[.inr (.row 165 qw d.2)]) ?_ ?_
     ·simp only[go_sem,bJ F,bK F,bL F];refine bP hV (D:=Nat×Int×qd) [5,6,157,158] (fun d=>[(0,.sub 0 1 f g),(11,.val qw d.1),(159,.val qg d.2.1)]) (fun d=>[.inr (.row 165 qw d.2.2)]) h rfl xAd ?_;rintro⟨carry_33,U,u_35⟩ A26 T26 hA26 hE26 h;simp only[go_sem,bJ F,bK F,bL F];replace h:sat (oE F q g f carry_33 U u_35) _:=h;unfold oE at h;refine dS h (fun hc h=>?_) fun hc h=>?_
      ·refine aD h fun g0 h=>(yaC ?_);refine aD h fun g0 h=>?_;refine aD h fun g1 h=>(yaC ?_);refine aD h fun g0 h=>(yaC ?_);refine aD h fun g0 h=>?_;refine aD h fun g1 h=>(yaC ?_);refine aD h fun g0 h=>(yaC ?_);replace h:=hA26 _ (aA h);exact zak
      ·replace h:=yaG (hE26 _ (aA h));exact aT (carry_33,u_35) h rfl xAd
     ·rintro⟨carry_31,u_32⟩ h;simp only[go_sem,bJ F,bK F,bL F];replace h:sat (zY F q g f J carry_31 u_32) _:=h;unfold zY at h;refine aD h fun g0 h=>?_;refine aD h fun g1 h=>(yaC ?_);refine aD h fun g0 h=>?_;refine aD h fun g1 h=>(yaC ?_);obtain rfl:=aP h;refine dV hF [.tmp 4] rfl rfl rfl rfl rfl rfl ?_
      (try simp only[aS,jQ,jN,eU,dD,AV.isAgg,go_sem,bJ F,bK F,bL F])<;>first|trivial|rfl|(simp; done)
@[go_sem]def aCK:Ty:=.pair wi vq
@[go_sem]def aDW:aF:=⟨aCK,.tup (.pair wi vq),fun x=>aJa x.1 x.2.1,fun x=>rP x.1 x.2.1⟩
def aW5(F:Md):aF:=mSpec aCK (.tup (.pair wi vq)) (fun x=>aCI F x.1 x.2.1)
abbrev pL(F:Md):List (FuncId×aF):=[(115,uR),(142,dW),(143,aFw),(144,fZ),(145,aDV),(146,aB4),(148,iM),(149,aAt)]
theorem aPl[Mx](F:Md):bF Tryz.prog GL (pL F):=.cons aJi xP (.cons rM xP (.cons aZv xP (.cons xE xP (.cons aW4 xP (.cons aSz xP (.cons aAa xP (.cons aPg xP (.nil))))))))
theorem aW6[Mx](F:Md):FOK Tryz.prog GL 104 (aW5 F):=by
 refine aDD (aZ (aPl F)) Tryz.func104 rfl xP xAa fun w0 S x r U h=>?_;have hF:uP (fr Tryz.prog (EM (pL F)) S w0 Tryz.f104.ntmps):=⟨aZ (aPl F),mix⟩;obtain⟨(L:qd),(g:qd),u⟩:=x;simp only[aCK,Ty.wf,aF8] at U;simp only[cA,aCK];try dsimp only at h
 replace h:aCI F L g=some r:=h;unfold aCI at h;refine aL (aQ hF [0,1] (yaA ?_));refine aN (aL (aL (aQ hF [0,1,15] (yaA ?_))));obtain⟨g0,h⟩:=bD h;repeat (refine⟨zAA,?_⟩)
 refine aN (cS rfl (fun hc=>?_) (fun hc=>?_))
 ·try simp only[go_sem] at hc
  have h:=oD zAC h;refine aL (dH hF [4,5] (yaA ?_));obtain⟨g0,h⟩:=bD h;repeat (refine⟨zAA,?_⟩)
  obtain rfl:=Option.some.inj h;refine aN (gU (eD (nG hF [.tmp 4,.tmp 5] rfl rfl rfl ?_)));exact zAJ
 ·try simp only[go_sem] at hc
  have h:=nB zAC h;refine eC (aN (aL (aL (aQ hF [0,1,20] (yaA ?_)))));refine aN (cS rfl (fun hc=>?_) (fun hc=>?_))
  ·(try simp only[go_sem] at hc);have h:=oD zAC h;refine aL (aQ hF [4,5] (yaA ?_));obtain⟨g0,h⟩:=bD h;obtain⟨g1,h⟩:=bD h;(repeat (refine⟨zAA,?_⟩));obtain rfl:=Option.some.inj h;refine aN (gU (eD (nG hF [.tmp 4,.tmp 5] rfl rfl rfl ?_)));exact zAJ
  ·(try simp only[go_sem] at hc);have h:=nB zAC h;refine eC (aN (aL (aQ hF [0,1,6,7] (yaA ?_))));obtain⟨g0,h⟩:=bD h;obtain⟨g1,h⟩:=bD h;(try simp only[I64,I32] at g0);(repeat (refine⟨zAA,?_⟩));refine aN (aL (dH hF [0,6,7,8,9] (yaA ?_)));obtain⟨g0,h⟩:=bD h;(repeat (refine⟨zAA,?_⟩));obtain⟨g0,h⟩:=bD h;(repeat (refine⟨zAA,?_⟩));obtain⟨g0,h⟩:=bD h;(repeat (refine⟨zAA,?_⟩));obtain⟨g0,h⟩:=bD h;(try simp only[I64,I32] at g0);(repeat (refine⟨zAA,?_⟩));obtain⟨g0,h⟩:=bD h;(repeat (refine⟨zAA,?_⟩));refine aN (aL (dH hF [0,6,7,8,9,10] (yaA ?_)));obtain⟨g0,h⟩:=bD h;(try simp only[I64,I32] at g0);(repeat (refine⟨zAA,?_⟩));obtain⟨g0,h⟩:=bD h;(try simp only[I64,I32] at g0);(repeat (refine⟨zAA,?_⟩));obtain⟨g0,h⟩:=bD h;obtain⟨g1,h⟩:=bD h;(repeat (refine⟨zAA,?_⟩));refine aN (aBZ (D:=qd×qd) (fun d=>aBx F g d.1 d.2=some r) [6,7] (fun d=>[(9,.own 0),(10,.own 1)]) (fun d=>[.inr (.row 165 qw d.1),.inr (.row 165 qw d.2)]) ?_ ?_)
   ·refine aL (aQ hF [6,7,8,9,10,11] (yaA ?_));obtain⟨g0,h⟩:=bD h;(try simp only[I64,I32] at g0);(repeat (refine⟨zAA,?_⟩));refine aN (oV (aNR 0 (yaA ?_)));refine aDQ [1,2] rfl rfl (yaB ?_);refine aFW (D:=Int×qd×qd) [6,7,8] (fun d=>[(9,.own 0),(10,.own 1),(11,.val qg d.1)]) (fun d=>[.inr (.row 165 qw d.2.1),.inr (.row 165 qw d.2.2)]) h ?_ ?_ ?_
    ·first|rfl|(simp only[go_sem]; done)
    ·exact zAI
    rintro⟨f,I,J⟩ Z h z;simp only[go_sem];(try dsimp only at h);unfold uI at h;refine aL (aL (aQ hF [6,7,8,9,10,11,60] (yaA ?_)));refine aN (cS rfl (fun hc=>?_) (fun hc=>?_))
    ·(try simp only[go_sem] at hc);have h:=oD zAC h;obtain⟨g0,h⟩:=bD h;(try simp only[I64,I32] at g0);obtain⟨g1,h⟩:=bD h;(try simp only[I64,I32] at g1);obtain⟨g2,h⟩:=bD h;obtain⟨q,Y,h⟩:=bind_some h;(try dsimp only at h);obtain⟨g3,h⟩:=bD h;refine eC (aN (aL (oV (cJ hF (eT (l:=[(147,⟨aJm F,[0],((f.toNat),(((f+(g.length:Int))+(1:Int))-f).toNat,(fY (jT g (aC (g.getD ((g.length:Int)-(1:Int)).toNat (0:Nat)))) (g.length:Int)),I,q)⟩)]) (.cons (aZx F) xP (.nil))) [6,7,8,9,10,11] [71] (yaE ?_)))));refine pJ (aN (aQ hF [6,7,8,9,10,11] (yaA ?_)));obtain⟨g0,h⟩:=bD h;(try simp only[I64,I32] at g0);(repeat (refine⟨zAA,?_⟩));obtain rfl:=Option.some.inj h;dsimp only[aA9] at z;refine dQ (aT ((f-(1:Int)),q.2,(J.set (f.toNat) q.1)) z rfl ?_)
     ·exact zAI
    ·(try simp only[go_sem] at hc);have h:=nB zAC h;obtain rfl:=Option.some.inj h;dsimp only[aA9] at z;have h:=yaG (z);refine aEh (kJ (kJ (pK (dQ (aT (I,J) h rfl ?_)))))
     ·exact zAI
   ·rintro⟨O,N⟩ h;(try dsimp only at h);simp only[go_sem];unfold aBx at h;refine aL (aNR 1 (yaA ?_));refine aNR 0 (yaA ?_);refine aQ hF [4,5] (yaA ?_);obtain⟨g0,h⟩:=bD h;obtain⟨g1,h⟩:=bD h;(repeat (refine⟨zAA,?_⟩));obtain rfl:=Option.some.inj h;refine aN (gU (nG hF [.tmp 4,.tmp 5] rfl rfl rfl ?_));exact zAJ
theorem aW7[Mx]:FOK Tryz.prog GL 104 aDW:=jJ (aW6 none) (fun⟨f,x1,u⟩ ⟨w0,g,q⟩ hp=>aVp f w0 x1 g hp)
theorem aDi[Mx]:bF Tryz.prog GL []:=.nil
def mM(F:Md)(f:Bool)(g:Int):Option (Unit⊕qp) :=
 if ¬(f=true) then some (.inr (g,())) else some (.inl ())
def aJn(F:Md):fH where
 D:=Bool×Int×(Unit⊕qp)
 av:=fun d=>[.val .bool d.1,.val qg d.2.1]
 hp:=fun d=>[]
 m:=0
 pre:=fun d=>mM F d.1 d.2.1=some d.2.2
 out:=fun d=>match d.2.2 with| .inl r=>.ret (.tup []) []| .inr p=>.pan ⟨231,qm,p⟩ []
@[go_sem]def aJo(F:Md)(vs:List AV)(h:List Vc.Obj):Hit:=mkH (mM F (qT h vs 0 .bool) (qT h vs 1 qg)) (.inr ((0:Int),())) fun r=>⟨(aJn F),[],((qT h vs 0 .bool),(qT h vs 1 qg),r)⟩
def aPm:PlR:=⟨[(0,.A [1,5]),(1,.P [] [])],[],[]⟩
abbrev bBH(F:Md):List (FuncId×aF):=[]
theorem bBI[Mx](F:Md):bF Tryz.prog GL (bBH F):=.nil
attribute [go_sem] aPm aJn
theorem aPn[Mx](F:Md):GOK Tryz.prog GL 191 (aJn F):=by
 refine jR (aZ (bBI F)) mix Tryz.func191 rfl xP (fun _=>Nat.le_of_ble_eq_true rfl) aPm (fun I w0 d z q h hV=>?_);obtain⟨(f:Bool),(g:Int),r⟩:=d;have hF:=hV.fr;replace h:=jS (show mM F f g=some r from h);simp only[vH,List.map_cons,List.map_nil,go_sem];unfold mM at h;refine zT h (fun hc h=>?_) fun hc h=>?_
 ·obtain rfl:=aP h;refine bC rfl rfl rfl rfl
 ·obtain rfl:=aP h;exact zas
def yO(F:Md)(g:Int)(f:qd)(q:Bool):Option (qx⊕qp) :=
 ck (I64 (g+(lD f))) ((mM F (decide ((g+(lD f))≤(1048576:Int))) (3:Int)).bind (fun e=>match e with| .inl I=>ck (I64 (g+(lD f))) (some (.inl (q,(wX f (lD f)),(g+(lD f)),())))| .inr z=>some (.inr z)))
def aAb(F:Md)(q:Bool)(f:qd)(g:Int):Option (qx⊕qp) :=
 if (f.length:Int)=(0:Int) then some (.inl (false,([]:List Nat),(0:Int),())) else ck (pSz f) (ck (aZd f (lD f)) ((mM F (decide ((((wX f (lD f)).length:Nat):Int)≤(64:Int))) (2:Int)).bind (fun e=>match e with| .inl O=>if g≤(1048576:Int) then ck (I64 ((-1048576:Int)-(lD f))) ((mM F ((decide (g≤(1048576:Int)))&&(decide (((-1048576:Int)-(lD f))≤g))) (3:Int)).bind (fun e=>match e with| .inl L=>yO F g f q| .inr z=>some (.inr z))) else (mM F false (3:Int)).bind (fun e=>match e with| .inl N=>yO F g f q| .inr I=>some (.inr I))| .inr J=>some (.inr J))))
def aLo(F:Md):fH where
 D:=Bool×qd×Int×(qx⊕qp)
 av:=fun d=>[.val .bool d.1,.val wi d.2.1,.val qg d.2.2.1]
 hp:=fun d=>[]
 m:=0
 pre:=fun d=>aAb F d.1 d.2.1 d.2.2.1=some d.2.2.2
 out:=fun d=>match d.2.2.2 with| .inl r=>.ret (.val qq r) []| .inr p=>.pan ⟨231,qm,p⟩ []
@[go_sem]def aLp(F:Md)(vs:List AV)(h:List Vc.Obj):Hit:=mkH (aAb F (qT h vs 0 .bool) (qT h vs 1 wi) (qT h vs 2 qg)) (.inr ((0:Int),())) fun r=>⟨(aLo F),[],((qT h vs 0 .bool),(qT h vs 1 wi),(qT h vs 2 qg),r)⟩
def aSB(F:Md):PlR:=⟨[(0,.B [0,1,2,6]),(1,.A [0,1,2,6,10]),(2,.B [6]),(3,.A [0,1,2,6,7]),(4,.A [0,1,2,6,7]),(5,.P [0,1,2,6,7] []),(6,.P [0,1,2,6,7] []),(7,.P [0,1,2,6,7] []),(8,.B [6])],[(9,10)],[(191,aJo F)]⟩
abbrev aN7(F:Md):List (FuncId×aF):=[(149,aAt),(190,aFv)]
theorem bC8[Mx](F:Md):bF Tryz.prog GL (aN7 F):=.cons aPg xP (.cons aZn xP (.nil))
attribute [go_sem] aSB aLo
theorem aSC[Mx](F:Md):GOK Tryz.prog GL 156 (aLo F):=by
 refine jR (aZ (bC8 F)) mix Tryz.func156 rfl xP (fun _=>Nat.le_of_ble_eq_true rfl) (aSB F) (fun c0 w0 d hw hw2 h hV=>?_) (.cons (fun _ _=>(aPn F)) xP (.nil));obtain⟨(f:Bool),(g:qd),(q:Int),r⟩:=d;have hF:=hV.fr;replace h:=jS (show aAb F f g q=some r from h);simp only[vH,List.map_cons,List.map_nil,go_sem];unfold aAb at h;refine cE h (fun hc h=>?_) fun hc h=>?_
 ·obtain rfl:=aP h;refine lN hF [.cell 6 119] [] rfl rfl rfl rfl rfl rfl rfl rfl rfl ?_;exact zaC
 ·refine aD h fun g0 h=>(yaC ?_);refine aD h fun g0 h=>(yaC ?_);refine aB h fun e hv h=>?_;rcases e with Z|p_9
  ·(try dsimp only at h);simp only[hv,go_sem];refine dB hV (D:=Unit) (fun d=>sat (yO F q g f) (fun z=>z=r)) [0,1,2,7] (fun d=>[(6,.ptr 0 [])]) (fun d=>[.inr (.box 3 (.val qq (false,([]:List Nat),(0:Int),())))]) ?_ ?_
   ·simp only[go_sem];refine⟨fun hc=>?_,fun hc=>?_⟩
    ·replace h:=fQ zAC h;refine⟨fun _=>?_,fun I=>by first|(exfalso; omega)|(exfalso; simp_all; done)⟩;refine⟨fun _=>?_,fun I=>by first|(exfalso; omega)|(exfalso; simp_all; done)⟩;refine aD h fun g0 h=>(yaC ?_);refine⟨fun _=>?_,fun I=>by first|(exfalso; omega)|(exfalso; simp_all; done)⟩;refine aB h fun e hv h=>?_;rcases e with N|L
     ·(try dsimp only at h);simp only[hv,go_sem];exact aT () h rfl xAb
     ·(try dsimp only at h);exact zay
    ·replace h:=fR zAC h;(first|(refine⟨fun I=>by first|(exfalso; omega)|(exfalso; simp_all; done),fun _=>?_⟩)|(with_reducible intro _)|skip);(first|(refine⟨fun I=>by first|(exfalso; omega)|(exfalso; simp_all; done),fun _=>?_⟩)|(with_reducible intro _)|skip);(first|(refine⟨fun I=>by first|(exfalso; omega)|(exfalso; simp_all; done),fun _=>?_⟩)|(with_reducible intro _)|skip);refine aB h fun e hv h=>?_;rcases e with U|O
     ·(try dsimp only at h);simp only[hv,go_sem];(repeat (refine⟨zAB,?_⟩));exact aT () h rfl (by (try simp only[wT,eU,true_or,and_self,go_sem])<;>(repeat' apply And.intro)<;>first|rfl|(left; rfl)|(right; rfl)|(left; simp only[go_sem]; done)|(right; simp only[go_sem]; done)|(simp; done)|(simp only[*]; done)|omega)
     ·(try dsimp only at h);simp only[hv,go_sem];(repeat (refine⟨zAB,?_⟩));exact zaP
   ·rintro u h;simp only[go_sem];replace h:sat (yO F q g f) _:=h;unfold yO at h;refine aD h fun g0 h=>(yaC ?_);refine aB h fun e hv h=>?_;rcases e with Y|J
    ·(try dsimp only at h);simp only[hv,go_sem];refine aD h fun g0 h=>(yaC ?_);obtain rfl:=aP h;refine lN hF [.cell 6 119] [] rfl rfl rfl rfl rfl rfl rfl rfl rfl ?_;exact zaC
    ·(try dsimp only at h);exact zay
  ·(try dsimp only at h);exact zay
def aAu(F:Md)(g:Bool)(f:qd)(q:Int):Option (qx⊕qp) :=
 (aAb F g f q).bind (fun e=>match e with| .inl z=>some (.inl z)| .inr I=>some (.inr I))
def aDX(F:Md):fH where
 D:=Bool×qd×Int×(qx⊕qp)
 av:=fun d=>[.val (.rp .bool) d.1,.val (.rp wi) d.2.1,.val (.rp qg) d.2.2.1]
 hp:=fun d=>[]
 m:=0
 pre:=fun d=>aAu F d.1 d.2.1 d.2.2.1=some d.2.2.2
 out:=fun d=>match d.2.2.2 with| .inl r=>.ret (.val qq r) []| .inr p=>.pan ⟨231,qm,p⟩ []
def aM7(F:Md):PlR:=⟨[(0,.B [0,1,2,3]),(1,.P [3] [])],[],[(156,aLp F)]⟩
abbrev aZy(F:Md):List (FuncId×aF):=[]
theorem aZz[Mx](F:Md):bF Tryz.prog GL (aZy F):=.nil
attribute [go_sem] aM7 aDX
theorem aM8[Mx](F:Md):GOK Tryz.prog GL 155 (aDX F):=by
 refine jR (aZ (aZz F)) mix Tryz.func155 rfl xP (fun _=>Nat.le_of_ble_eq_true rfl) (aM7 F) (fun N w0 d L I h hV=>?_) (.cons (fun _ _=>(aSC F)) xP (.nil));obtain⟨(g:Bool),(f:qd),(q:Int),r⟩:=d;have hF:=hV.fr;replace h:=jS (show aAu F g f q=some r from h);simp only[vH,List.map_cons,List.map_nil,go_sem];unfold aAu at h;refine aB h fun e hv h=>?_;rcases e with z|J
 ·try dsimp only at h
  simp only[hv,go_sem];exact zaw
 ·try dsimp only at h
  exact zay
def sG:fH where
 D:=qx×Int
 av:=fun _=>[.ptr 0 [],.ptr 1 []]
 hp:=fun d=>[.box 3 (.val qq d.1),.box 1 (.val qg d.2)]
 m:=2
 pre:=fun _=>True
 out:=fun d=>.ret (.tup []) [.box 3 (.val qq d.1),.box 1 (.val qg d.2)]
def sH(x:qp):fH where
 D:=qx×Int
 av:=fun _=>[.ptr 0 [],.ptr 1 []]
 hp:=fun d=>[.box 3 (.val qq d.1),.box 1 (.val qg d.2)]
 m:=2
 pre:=fun _=>True
 out:=fun d=>.ret (.tup []) [.box 3 (.val qq (false,([]:List Nat),(0:Int),())),.box 1 (.val qg x.1)]
theorem aLq[Mx]:DOK Tryz.prog GL 189 none sG:=by
 refine aQW (aZ aDi) Tryz.func189 rfl xP (fun _=>Nat.le_of_ble_eq_true rfl) rfl fun c w d g f hp q=>?_;have hF:uP ⟨Tryz.prog,EM [],GM sG c d,w,Tryz.f189.ntmps,[]⟩:=⟨aZ aDi,mix⟩;obtain⟨d,e⟩:=d;show xX _ _ _ [(5,.val .nili ()),(0,.ptr 0 []),(1,.ptr 1 [])] [.box 3 (.val qq d),.box 1 (.val qg e)] _;simp only[go_sem];refine aL (aQ hF [0,1,2,9] (yaA ?_));refine aN (cS rfl (fun hc=>absurd hc xAa) (fun hc=>?_));refine eC ?_;refine fU [0,1] rfl rfl (yaB ?_);exact zaY
theorem aLr[Mx](x:qp):DOK Tryz.prog GL 189 (some ⟨231,qm,x⟩) (sH x):=by
 refine aQW (aZ aDi) Tryz.func189 rfl xP (fun _=>Nat.le_of_ble_eq_true rfl) rfl fun c w d g f hp q=>?_;have hF:uP ⟨Tryz.prog,EM [],GM (sH x) c d,w,Tryz.f189.ntmps,[]⟩:=⟨aZ aDi,mix⟩;obtain⟨d,e⟩:=d;show xX _ _ _ [(5,.val (.ifc 231 qm) x),(0,.ptr 0 []),(1,.ptr 1 [])] [.box 3 (.val qq d),.box 1 (.val qg e)] _;simp only[go_sem];refine aL (aQ hF [0,1,2,9] (yaA ?_));refine aN (cS rfl (fun hc=>?_) (fun hc=>absurd hc xAa));refine aG5 hF [] [] [.box 3 (.val qq (false,([]:List Nat),(0:Int),())),.box 1 (.val qg x.1),.box 1 (.val qm x)] xAa ?_ ?_
 ·simp only[go_sem];unfold anyS;intro i hi;have hi:i=0∨i=1:=by revert hi; revert i; decide
  rcases hi with rfl|rfl
  ·simp only[go_sem];skip;unfold anyS;intro i hi;have hi:i=1∨i=3:=(by revert hi; revert i; decide);rcases hi with rfl|rfl
   ·simp only[go_sem];exact zac
   ·simp only[go_sem];skip;unfold anyS;intro i hi;have hi:i=1:=(by revert hi; revert i; decide);subst hi;simp only[go_sem];skip;unfold anyS;intro i hi;have hi:i=2:=(by revert hi; revert i; decide);exact zaK
  ·simp only[go_sem];skip;unfold anyS;intro i hi;have hi:i=0∨i=2:=(by revert hi; revert i; decide);rcases hi with rfl|rfl
   ·simp only[go_sem];exact zac
   ·simp only[go_sem];skip;unfold anyS;intro i hi;have hi:i=0:=(by revert hi; revert i; decide);subst hi;simp only[go_sem];skip;unfold anyS;intro i hi;have hi:i=3:=(by revert hi; revert i; decide);exact zaK
 refine fU [0,1] rfl rfl (yaB ?_);exact zaY
def jK(F:Md)(g:Bool)(c1:qd)(f:Int):Option (qx×Int×Unit) :=
 (aAu F g c1 f).bind fun q=>some (match q with| .inl r=>(r,0,())| .inr p=>((false,([]:List Nat),(0:Int),()),p.1,()))
def aB5:Ty:=.pair (.clo 155 (.pair (.rp .bool) (.pair (.rp wi) (.pair (.rp qg) .unit)))) .unit
def pM(F:Md):aF:=mSpec aB5 (.tup (.pair qq qm)) (fun x=>jK F x.1.1 x.1.2.1 x.1.2.2.1)
theorem aHB[Mx](F:Md):FOK Tryz.prog GL 154 (pM F):=by
 refine aI6 (aZ aDi) Tryz.func154 rfl xP xAa fun w0 S x r I h=>?_;have hF:uP (fr Tryz.prog (EM []) S w0 Tryz.f154.ntmps):=⟨aZ aDi,mix⟩;obtain⟨⟨(g:Bool),(c1:qd),(f:Int),z⟩,u⟩:=x;replace h:jK F g c1 f=some r:=h;show Tri _ _ _ [(0,.val (.clo 155 (.pair (.rp .bool) (.pair (.rp wi) (.pair (.rp qg) .unit)))) (g,c1,f,z))] [];unfold jK at h;obtain⟨q,hq,h⟩:=bind_some h;obtain rfl:=Option.some.inj h;refine aL (dH hF [0,2,3] (yaA ?_));refine aN (aDR 2 [0,1] rfl rfl (Nat.zero_le _) xAa fun roots hroots=>?_);have hF':uP { fr Tryz.prog (EM []) S w0 Tryz.f154.ntmps with M:=⟨nothing,S,2,roots⟩,ds:=[⟨.fn (.func 189) ([0,1].map roots).toArray,#[]⟩] }:=⟨aZ aDi,mix⟩;rcases q with q|q
 ·refine aL (cJ hF' (eT (l:=[(155,⟨aDX F,[],(g,c1,f,.inl q)⟩)]) (.cons (aM8 F) xP .nil)) [2,3] [] (yaA ?_));exact zaj
 ·refine aL (cJ hF' (eT (l:=[(155,⟨aDX F,[],(g,c1,f,.inr q)⟩)]) (.cons (aM8 F) xP .nil)) [2,3] [] (yaA ?_));exact zag
attribute [go_sem] pM aB5
def aAc(F:Md)(f:Bool)(q:qd)(z:Int):Option (qx×qp) :=
 (jK F f q z).bind (fun g=>some (g.1,g.2.1,()))
def aSD:PlR:=⟨[(0,.B [3,4,5,6]),(1,.stop)],[],[]⟩
def aVC:Ty:=.pair .bool (.pair wi qm)
def aB6(F:Md):aF:=mSpec aVC (.tup (.pair qq qm)) (fun x=>aAc F x.1 x.2.1 x.2.2.1)
abbrev aVD(F:Md):List (FuncId×aF):=[(154,(pM F))]
theorem bC9[Mx](F:Md):bF Tryz.prog GL (aVD F):=.cons (aHB F) xP (.nil)
attribute [go_sem] aVC aSD
theorem aSE[Mx](F:Md):FOK Tryz.prog GL 108 (aB6 F):=by
 refine bQ (aZ (bC9 F)) mix Tryz.func108 rfl xP xAa aSD (fun w0 S x Θ I h hV=>?_);obtain⟨(f:Bool),(g:qd),(q:Int),u⟩:=x;simp only[cA,go_sem];replace h:sat (aAc F f g q) _:=h;unfold aAc at h;refine aEk 0 rfl (yaA ?_);refine aEk 1 rfl (yaA ?_);refine aEk 2 rfl (yaA ?_);refine aVb hV [6,7] (yaA ?_);refine aB h fun z hv h=>?_;try simp only[hv,go_sem]
 exact aG hV [.cell 6 119,.tmp 7] rfl rfl rfl (aA h) xAc
attribute [go_sem] aB6
def nJ(F:Md)(f:qx):Option Bool :=
 if (f.2.1.length:Int)=(0:Int) then some ((!f.1)&&(decide (f.2.2.1=(0:Int)))) else ck (((aIa f.2.1)=true)→((0:Int)<(f.2.1.length:Int))) (some ((((aIa f.2.1)&&(decide (((f.2.1.getD (0:Nat) (0:Nat))&&&(1:Nat))=(1:Nat))))&&(decide ((-1048576:Int)≤f.2.2.1)))&&(decide (f.2.2.1≤(1048576:Int)))))
def aSF:PlR:=⟨[(0,.B [1]),(1,.A [1,6]),(2,.A [2]),(3,.A [2])],[],[]⟩
def aVF:Ty:=.pair qq .unit
def wY(F:Md):aF:=mSpec aVF (.one .bool) (fun x=>nJ F x.1)
abbrev aVG(F:Md):List (FuncId×aF):=[(157,aJh)]
theorem bDa[Mx](F:Md):bF Tryz.prog GL (aVG F):=.cons bC1 xP (.nil)
attribute [go_sem] aVF aSF
theorem aLs[Mx](F:Md):FOK Tryz.prog GL 109 (wY F):=by
 refine bQ (aZ (bDa F)) mix Tryz.func109 rfl xP xAa aSF (fun w0 S x Θ g h hV=>?_);obtain⟨(f:qx),u⟩:=x;simp only[cA,go_sem];replace h:sat (nJ F f) _:=h;unfold nJ at h;refine cE h (fun hc h=>?_) fun hc h=>?_
 ·exact aG hV [.tmp 2] rfl rfl rfl (aA h) xAc
 ·refine aK h fun g0 h=>?_;exact zaE
attribute [go_sem] wY
def uS(F:Md)(f:qx):Option Int :=
 (nJ F f).bind (fun g=>if (¬(g=true))∨((f.2.1.length:Int)=(0:Int)) then some (0:Int) else if f.1=true then some (-1:Int) else some (1:Int))
def aPo:PlR:=⟨[(0,.B [1]),(1,.A [1,3]),(2,.A [2]),(3,.A [13]),(4,.A [2]),(5,.A [2])],[],[]⟩
def aSG:Ty:=.pair qq .unit
def aAv(F:Md):aF:=mSpec aSG (.one qg) (fun x=>uS F x.1)
abbrev aSH(F:Md):List (FuncId×aF):=[(109,(wY F))]
theorem bBJ[Mx](F:Md):bF Tryz.prog GL (aSH F):=.cons (aLs F) xP (.nil)
attribute [go_sem] aSG aPo
theorem aPp[Mx](F:Md):FOK Tryz.prog GL 60 (aAv F):=by
 refine bQ (aZ (bBJ F)) mix Tryz.func60 rfl xP xAa aPo (fun w0 S x Θ q h hV=>?_);obtain⟨(f:qx),u⟩:=x;simp only[cA,go_sem];replace h:sat (uS F f) _:=h;unfold uS at h;refine aB h fun g hv h=>?_;try simp only[hv,go_sem]
 refine⟨fun hc=>?_,fun hc=>?_⟩
 ·replace h:=fQ zAC h;exact zaE
 ·replace h:=fR zAC h;exact zaf
attribute [go_sem] aAv
def aB7(F:Md)(f:qx)(g:qx):Option Int :=
 ck (bEq f.2.1) (ck (I64 ((sX f.2.1)+f.2.2.1)) (ck (bEq g.2.1) (ck (I64 ((sX g.2.1)+g.2.2.1)) (if ((sX f.2.1)+f.2.2.1)<((sX g.2.1)+g.2.2.1) then some (-1:Int) else if ((sX g.2.1)+g.2.2.1)<((sX f.2.1)+f.2.2.1) then some (1:Int) else ck (I64 (f.2.2.1-(min f.2.2.1 g.2.2.1))) (ck (aYc f.2.1 (f.2.2.1-(min f.2.2.1 g.2.2.1))) (ck (I64 (g.2.2.1-(min f.2.2.1 g.2.2.1))) (ck (aYc g.2.1 (g.2.2.1-(min f.2.2.1 g.2.2.1))) (ck (bBe (jT f.2.1 (f.2.2.1-(min f.2.2.1 g.2.2.1))) (jT g.2.1 (g.2.2.1-(min f.2.2.1 g.2.2.1)))) (some (sF (jT f.2.1 (f.2.2.1-(min f.2.2.1 g.2.2.1))) (jT g.2.1 (g.2.2.1-(min f.2.2.1 g.2.2.1)))))))))))))
def aPq:PlR:=⟨[(0,.B [2,3]),(1,.A [2,3,5,6]),(2,.A [2,3,5,6,20]),(3,.A [4]),(4,.A [2,3,24]),(5,.A [4]),(6,.A [2,3,7]),(7,.A [4])],[],[]⟩
def aSI:Ty:=.pair qq (.pair qq .unit)
def aFx(F:Md):aF:=mSpec aSI (.one qg) (fun x=>aB7 F x.1 x.2.1)
abbrev aHc(F:Md):List (FuncId×aF):=[(115,uR),(146,aB4),(158,aG9)]
theorem bBK[Mx](F:Md):bF Tryz.prog GL (aHc F):=.cons aJi xP (.cons aSz xP (.cons bBu xP (.nil)))
attribute [go_sem] aSI aPq
theorem aZA[Mx](F:Md):FOK Tryz.prog GL 110 (aFx F):=by
 refine bQ (aZ (bBK F)) mix Tryz.func110 rfl xP xAa aPq (fun w0 S x Θ I h hV=>?_);obtain⟨(f:qx),(g:qx),u⟩:=x;simp only[cA,go_sem];replace h:sat (aB7 F f g) _:=h;unfold aB7 at h;refine aK h fun g0 h=>aK h fun g1 h=>aK h fun z h=>aK h fun q h=>?_;refine dS h (fun hc h=>?_) fun hc h=>?_
 ·exact aG hV [.tmp 4] rfl rfl rfl (aA h) xAc
 ·refine dS h (fun hc h=>?_) fun hc h=>?_
  ·exact aG hV [.tmp 4] rfl rfl rfl (aA h) xAc
  ·refine aK h fun g0 h=>aK h fun g1 h=>aK h fun z h=>aK h fun q h=>aK h fun J h=>?_;exact zaD
attribute [go_sem] aFx
def aAd(F:Md)(I:qx)(g:qx):Option Int :=
 (uS F I).bind (fun v_13=>(uS F g).bind (fun f=>(nJ F I).bind (fun q=>ck (¬(¬(q=true))→((nJ F g).isSome=true)) (if (¬(q=true))∨(¬(((nJ F g).getD false)=true)) then some (0:Int) else if (¬(v_13=f))∧(v_13<f) then some (-1:Int) else if ¬(v_13=f) then some (1:Int) else if v_13=(0:Int) then some (0:Int) else (aB7 F I g).bind (fun z=>ck (I64 (v_13*z)) (some (v_13*z)))))))
def aSJ:PlR:=⟨[(0,.B [2,3]),(1,.A [2,3,5,6]),(2,.A [2,3,5,6,11]),(3,.A [4]),(4,.A [2,3,5,6,20]),(5,.A [4]),(6,.A [2,3,5,29]),(7,.A [4]),(8,.A [2,3,5,33]),(9,.A [4]),(10,.A [4])],[],[]⟩
def aVI:Ty:=.pair qq (.pair qq .unit)
def aB8(F:Md):aF:=mSpec aVI (.one qg) (fun x=>aAd F x.1 x.2.1)
abbrev aJp(F:Md):List (FuncId×aF):=[(109,(wY F)),(110,(aFx F)),(60,(aAv F))]
theorem bDb[Mx](F:Md):bF Tryz.prog GL (aJp F):=.cons (aLs F) xP (.cons (aZA F) xP (.cons (aPp F) xP (.nil)))
attribute [go_sem] aVI aSJ
theorem aSK[Mx](F:Md):FOK Tryz.prog GL 61 (aB8 F):=by
 refine bQ (aZ (bDb F)) mix Tryz.func61 rfl xP xAa aSJ (fun w0 S x Θ J h hV=>?_);obtain⟨(f:qx),(g:qx),u⟩:=x;simp only[cA,go_sem];replace h:sat (aAd F f g) _:=h;unfold aAd at h;refine aB h fun v_13 hv h=>?_;try simp only[hv,go_sem]
 refine aB h fun z hv h=>?_;try simp only[hv,go_sem]
 refine aB h fun q hv h=>?_;try simp only[hv,go_sem]
 refine aD h fun g0 h=>?_;repeat (refine⟨zAF,?_⟩)
 refine⟨fun hc=>?_,fun hc=>?_⟩
 ·replace h:=fQ zAC h;exact zaD
 ·replace h:=fR zAC h;refine⟨fun hc=>?_,fun hc=>?_⟩
  ·replace h:=fQ hc h;exact zaD
  ·replace h:=fR hc h;refine cE h (fun hc h=>?_) fun hc h=>?_
   ·exact aG hV [.tmp 4] rfl rfl rfl (aA h) xAc
   ·refine cE h (fun hc h=>?_) fun hc h=>?_
    ·exact aG hV [.tmp 4] rfl rfl rfl (aA h) xAc
    ·refine aB h fun I hv h=>?_;(try simp only[hv,go_sem]);refine aD h fun g0 h=>?_;(try simp only[I64,I32] at g0);(repeat (refine⟨zAB,?_⟩));exact zaD
attribute [go_sem] aB8
def aAw(F:Md)(q:Int)(g:Int)(f:Nat):Option (qx×qp) :=
 ck (pSz ([f]:List Nat)) ((aAc F (decide (q<(0:Int))) (qX ([f]:List Nat)) g).bind (fun v_5=>some (v_5.1,v_5.2.1,())))
def aFY(F:Md)(f:Int)(g:Int):Option (qx×qp) :=
 if f<(0:Int) then aAw F f g (aMG F .u64 (f%(18446744073709551616:Int)).toNat) else aAw F f g (f%(18446744073709551616:Int)).toNat
def aVL:PlR:=⟨[(0,.B [0,1,4]),(1,.A [0,1,4,6]),(2,.A [0,1,4,6,10]),(3,.A [0,1,4,6]),(4,.B [4,5])],[(5,7)],[]⟩
def aYf:Ty:=.pair qg qm
def aJq(F:Md):aF:=mSpec aYf (.tup (.pair qq qm)) (fun x=>aFY F x.1 x.2.1)
abbrev aRi(F:Md):List (FuncId×aF):=[(108,(aB6 F)),(153,aB3)]
theorem bFI[Mx](F:Md):bF Tryz.prog GL (aRi F):=.cons (aSE F) xP (.cons aSx xP (.nil))
attribute [go_sem] aYf aVL
theorem bDc[Mx](F:Md):FOK Tryz.prog GL 111 (aJq F):=by
 refine bQ (aZ (bFI F)) mix Tryz.func111 rfl xP xAa aVL (fun w0 S x Θ z h hV=>?_);obtain⟨(f:Int),(g:Int),u⟩:=x;simp only[cA,go_sem];replace h:sat (aFY F f g) _:=h;unfold aFY at h;refine dB hV (D:=Nat) (fun d=>sat (aAw F f g d) Θ) [0,1] (fun d=>[(4,.ptr 0 []),(6,.val qw d)]) (fun d=>[.inr (.box 3 (.val qq (false,([]:List Nat),(0:Int),())))]) ?_ ?_
 ·simp only[go_sem,bJ F,bK F,bL F];refine dS h (fun hc h=>?_) fun hc h=>?_
  ·exact aT (aMG F .u64 (f%(18446744073709551616:Int)).toNat) h rfl xAd
  ·exact aT (f%(18446744073709551616:Int)).toNat h rfl xAd
 ·rintro q h;simp only[go_sem,bJ F,bK F,bL F];replace h:sat (aAw F f g q) _:=h;unfold aAw at h;refine aD h fun g0 h=>(yaC ?_);refine aB h fun v_5 hv h=>?_;try simp only[hv,go_sem,bJ F,bK F,bL F]
  exact aG hV [.cell 4 119,.tmp 5] rfl rfl rfl (aA h) xAe
attribute [go_sem] aJq
def uT(F:Md)(f:qx)(g:qx):Option (qx⊕qp) :=
 ck (aS5 f.2.1 g.2.1) (ck (I64 (f.2.2.1+g.2.2.1)) ((aAb F (f.1 != g.1) (dC f.2.1 g.2.1) (f.2.2.1+g.2.2.1)).bind (fun e=>match e with| .inl r_7=>some (.inl r_7)| .inr p_8=>some (.inr p_8))))
def aHC(F:Md):fH where
 D:=qx×qx×(qx⊕qp)
 av:=fun d=>[.val qq d.1,.val qq d.2.1]
 hp:=fun d=>[]
 m:=0
 pre:=fun d=>uT F d.1 d.2.1=some d.2.2
 out:=fun d=>match d.2.2 with| .inl r=>.ret (.val qq r) []| .inr p=>.pan ⟨231,qm,p⟩ []
@[go_sem]def aM9(F:Md)(vs:List AV)(h:List Vc.Obj):Hit:=mkH (uT F (qT h vs 0 qq) (qT h vs 1 qq)) (.inr ((0:Int),())) fun r=>⟨(aHC F),[],((qT h vs 0 qq),(qT h vs 1 qq),r)⟩
def aNa(F:Md):PlR:=⟨[(0,.B [2,3,4]),(1,.Q 15 [4] [])],[],[(156,aLp F)]⟩
abbrev aPr(F:Md):List (FuncId×aF):=[(105,iY)]
theorem aZB[Mx](F:Md):bF Tryz.prog GL (aPr F):=.cons aAs xP (.nil)
attribute [go_sem] aNa aHC
theorem aXb[Mx](F:Md):GOK Tryz.prog GL 160 (aHC F):=by
 refine jR (aZ (aZB F)) mix Tryz.func160 rfl xP (fun _=>Nat.le_of_ble_eq_true rfl) (aNa F) (fun I w0 d z q h hV=>?_) (.cons (fun _ _=>(aSC F)) xP (.nil));obtain⟨(f:qx),(g:qx),r⟩:=d;have hF:=hV.fr;replace h:=jS (show uT F f g=some r from h);simp only[vH,List.map_cons,List.map_nil,go_sem];unfold uT at h;refine⟨by kernel_rfl,?_⟩;refine aD h fun g0 h=>?_;refine aD h fun g1 h=>?_;try simp only[I64,I32] at g1
 repeat (refine⟨zAB,?_⟩)
 refine aB h fun e hv h=>?_;rcases e with r_7|p_8
 ·try dsimp only at h
  simp only[hv,go_sem];obtain rfl:=aP h;refine lN hF [.cell 4 119] [] rfl rfl rfl rfl rfl rfl rfl rfl rfl ?_;exact zaC
 ·try dsimp only at h
  exact zay
def gO(F:Md)(f:qx)(g:qx)(Y:Unit):Option (qx⊕qp) :=
 ck ((nJ F f).isSome=true) (if ((nJ F f).getD false)=true then ck ((nJ F g).isSome=true) ((mM F (((nJ F f).getD false)&&((nJ F g).getD false)) (1:Int)).bind (fun e=>match e with| .inl U=>(uT F f g).bind (fun e=>match e with| .inl L=>some (.inl L)| .inr N=>some (.inr N))| .inr z=>some (.inr z))) else (mM F false (1:Int)).bind (fun e=>match e with| .inl O=>(uT F f g).bind (fun e=>match e with| .inl J=>some (.inl J)| .inr I=>some (.inr I))| .inr q=>some (.inr q)))
def pN(F:Md):fH where
 D:=qx×qx×Unit×(qx⊕qp)
 av:=fun d=>[.val (.rp qq) d.1,.val (.rp qq) d.2.1,.val (.rp (.clo 160 .unit)) d.2.2.1]
 hp:=fun d=>[]
 m:=0
 pre:=fun d=>gO F d.1 d.2.1 d.2.2.1=some d.2.2.2
 out:=fun d=>match d.2.2.2 with| .inl r=>.ret (.val qq r) []| .inr p=>.pan ⟨231,qm,p⟩ []
def aBa(F:Md):PlR:=⟨[(0,.B [0,1,2,3]),(1,.P [0,1,2,3] []),(2,.P [3] [])],[],[(160,aM9 F),(191,aJo F)]⟩
abbrev aB9(F:Md):List (FuncId×aF):=[(109,(wY F))]
theorem aIe[Mx](F:Md):bF Tryz.prog GL (aB9 F):=.cons (aLs F) xP (.nil)
attribute [go_sem] aBa pN
theorem aBb[Mx](F:Md):GOK Tryz.prog GL 192 (pN F):=by
 refine jR (aZ (aIe F)) mix Tryz.func192 rfl xP (fun _=>Nat.le_of_ble_eq_true rfl) (aBa F) (fun c0 w0 d hw Z h hV=>?_) (.cons (fun _ _=>(aXb F)) xP (.cons (fun _ _=>(aPn F)) xP (.nil)));obtain⟨(f:qx),(g:qx),(q:Unit),r⟩:=d;have hF:=hV.fr;replace h:=jS (show gO F f g q=some r from h);simp only[vH,List.map_cons,List.map_nil,go_sem];unfold gO at h;refine aK h fun g0 h=>?_;refine⟨fun hc=>?_,fun hc=>?_⟩
 ·replace h:=fQ zAC h;refine⟨fun _=>?_,fun hx=>by first|(exfalso; omega)|(exfalso; simp_all; done)⟩;refine aK h fun g0 h=>?_;refine aB h fun e hv h=>?_;rcases e with N|z
  ·(try dsimp only at h);simp only[hv,go_sem];refine aB h fun e hv h=>?_;rcases e with U|Y
   ·(try dsimp only at h);simp only[hv,go_sem];exact zaw
   ·(try dsimp only at h);exact zay
  ·(try dsimp only at h);exact zay
 ·replace h:=fR zAC h;first|(refine⟨fun hx=>by first|(exfalso; omega)|(exfalso; simp_all; done),fun _=>?_⟩)|(with_reducible intro _)|skip
  refine aB h fun e hv h=>?_;rcases e with J|I
  ·(try dsimp only at h);simp only[hv,go_sem];refine aB h fun e hv h=>?_;rcases e with O|L
   ·(try dsimp only at h);simp only[hv,go_sem];(repeat (refine⟨zAB,?_⟩));exact zaw
   ·(try dsimp only at h);simp only[hv,go_sem];(repeat (refine⟨zAB,?_⟩));exact zaP
  ·(try dsimp only at h);simp only[hv,go_sem];(repeat (refine⟨zAB,?_⟩));exact zaP
def dK(F:Md)(g:qx)(c1:qx)(f:Unit):Option (qx×Int×Unit) :=
 (gO F g c1 f).bind fun q=>some (match q with| .inl r=>(r,0,())| .inr p=>((false,([]:List Nat),(0:Int),()),p.1,()))
def tD:Ty:=.pair (.clo 192 (.pair (.rp qq) (.pair (.rp qq) (.pair (.rp (.clo 160 .unit)) .unit)))) .unit
def gW(F:Md):aF:=mSpec tD (.tup (.pair qq qm)) (fun x=>dK F x.1.1 x.1.2.1 x.1.2.2.1)
theorem aBc[Mx](F:Md):FOK Tryz.prog GL 154 (gW F):=by
 refine aI6 (aZ aDi) Tryz.func154 rfl xP xAa fun w0 S x r I h=>?_;have hF:uP (fr Tryz.prog (EM []) S w0 Tryz.f154.ntmps):=⟨aZ aDi,mix⟩;obtain⟨⟨(g:qx),(c1:qx),(f:Unit),z⟩,u⟩:=x;replace h:dK F g c1 f=some r:=h;show Tri _ _ _ [(0,.val (.clo 192 (.pair (.rp qq) (.pair (.rp qq) (.pair (.rp (.clo 160 .unit)) .unit)))) (g,c1,f,z))] [];unfold dK at h;obtain⟨q,hq,h⟩:=bind_some h;obtain rfl:=Option.some.inj h;refine aL (dH hF [0,2,3] (yaA ?_));refine aN (aDR 2 [0,1] rfl rfl (Nat.zero_le _) xAa fun roots hroots=>?_);have hF':uP { fr Tryz.prog (EM []) S w0 Tryz.f154.ntmps with M:=⟨nothing,S,2,roots⟩,ds:=[⟨.fn (.func 189) ([0,1].map roots).toArray,#[]⟩] }:=⟨aZ aDi,mix⟩;rcases q with q|q
 ·refine aL (cJ hF' (eT (l:=[(192,⟨pN F,[],(g,c1,f,.inl q)⟩)]) (.cons (aBb F) xP .nil)) [2,3] [] (yaA ?_));exact zaj
 ·refine aL (cJ hF' (eT (l:=[(192,⟨pN F,[],(g,c1,f,.inr q)⟩)]) (.cons (aBb F) xP .nil)) [2,3] [] (yaA ?_));exact zag
attribute [go_sem] gW tD
def oO(F:Md)(g:qx)(q:qx)(f:Unit):Option (qx×qp) :=
 ck ((dK F g q f).isSome=true) (some (((dK F g q f).getD ((false,([]:List Nat),(0:Int),()),(0:Int),())).1,((dK F g q f).getD ((false,([]:List Nat),(0:Int),()),(0:Int),())).2.1,()))
def aCL:PlR:=⟨[(0,.B [3,4,5,6]),(1,.stop)],[],[]⟩
def aDj:Ty:=.pair qq (.pair qq (.pair (.clo 160 .unit) .unit))
def rQ(F:Md):aF:=mSpec aDj (.tup (.pair qq qm)) (fun x=>oO F x.1 x.2.1 x.2.2.1)
abbrev aDk(F:Md):List (FuncId×aF):=[(154,(gW F))]
theorem aKs[Mx](F:Md):bF Tryz.prog GL (aDk F):=.cons (aBc F) xP (.nil)
attribute [go_sem] aDj aCL
theorem aJr[Mx](F:Md):FOK Tryz.prog GL 159 (rQ F):=by
 refine bQ (aZ (aKs F)) mix Tryz.func159 rfl xP xAa aCL (fun w0 S x Θ z h hV=>?_);obtain⟨(g:qx),(q:qx),(f:Unit),u⟩:=x;simp only[cA,go_sem];replace h:sat (oO F g q f) _:=h;unfold oO at h;refine aEk 0 rfl (yaA ?_);refine aEk 1 rfl (yaA ?_);refine aEk 2 rfl (yaA ?_);refine aVb hV [6,7] (yaA ?_);refine aK h fun g0 h=>?_;exact aG hV [.cell 6 119,.tmp 7] rfl rfl rfl (aA h) xAc
attribute [go_sem] rQ
def aDH(F:Md)(g:qx)(q:qx):Option (qx×qp) :=
 (oO F g q ()).bind (fun f=>some (f.1,f.2.1,()))
def aSL:PlR:=⟨[(0,.B [2,3,4]),(1,.B [4,5])],[],[]⟩
def aVM:Ty:=.pair qq (.pair qq .unit)
def aHd(F:Md):aF:=mSpec aVM (.tup (.pair qq qm)) (fun x=>aDH F x.1 x.2.1)
abbrev aVN(F:Md):List (FuncId×aF):=[(159,(rQ F))]
theorem bDd[Mx](F:Md):bF Tryz.prog GL (aVN F):=.cons (aJr F) xP (.nil)
attribute [go_sem] aVM aSL
theorem bBL[Mx](F:Md):FOK Tryz.prog GL 112 (aHd F):=by
 refine bQ (aZ (bDd F)) mix Tryz.func112 rfl xP xAa aSL (fun w0 S x Θ z h hV=>?_);obtain⟨(f:qx),(g:qx),u⟩:=x;simp only[cA,go_sem];replace h:sat (aDH F f g) _:=h;unfold aDH at h;refine aB h fun q hv h=>?_;try simp only[hv,go_sem]
 exact aG hV [.cell 4 119,.tmp 5] rfl rfl rfl (aA h) xAc
attribute [go_sem] aHd
def tE:ByteArray:=⟨⟨97::98::99::100::101::102::103::104::105::106::107::108::109::110::111::112::113::114::115::116::117::118::119::120::121::122::48::49::50::51::52::53::54::55::56::57::95:: []⟩⟩
@[go_sem]theorem aXc:(⟨⟨97::98::99::100::101::102::103::104::105::106::107::108::109::110::111::112::113::114::115::116::117::118::119::120::121::122::48::49::50::51::52::53::54::55::56::57::95:: []⟩⟩:ByteArray)=tE:=rfl
def jU(F:Md)(g:Nat)(f:qd):Option (qd⊕qd) :=
 ck (((0:Int)<(f.length:Int))→(I64 ((f.length:Int)-(1:Int)))) (ck (((0:Int)<(f.length:Int))→(0≤((f.length:Int)-(1:Int))∧((f.length:Int)-(1:Int))<(f.length:Int))) (if ((0:Int)<(f.length:Int))∧((f.getD ((f.length:Int)-(1:Int)).toNat (0:Nat))=g) then ck (I64 ((f.length:Int)-(1:Int))) (ck (0≤((f.length:Int)-(1:Int))∧((f.length:Int)-(1:Int))≤(f.length:Int)) (some (.inl (List.take ((f.length:Int)-(1:Int)).toNat f)))) else some (.inr f)))
def gP(F:Md)(f:qd)(g:Nat):Option qd :=
 (dE F (fun d:qd=>jU F g d) f).bind (fun e=>some e)
def aBd:PlR:=⟨[(0,.A [0,1]),(1,.A [0,1,16]),(2,.A [0,1]),(3,.A [4])],[],[]⟩
def aCa:Ty:=.pair .str vj
def iJ(F:Md):aF:=mSpec aCa (.one .str) (fun x=>gP F x.1 x.2.1)
abbrev aIf(F:Md):List (FuncId×aF):=[]
theorem aIg[Mx](F:Md):bF Tryz.prog GL (aIf F):=.nil
attribute [go_sem] aCa aBd
theorem aBe[Mx](F:Md):FOK Tryz.prog GL 44 (iJ F):=by
 refine bQ (aZ (aIg F)) mix Tryz.func44 rfl xP xAa aBd (fun w0 S x Θ J h hV=>?_);obtain⟨(q:qd),(f:Nat),u⟩:=x;simp only[cA,go_sem];replace h:sat (gP F q f) _:=h;unfold gP at h;refine bP hV (D:=qd) [1] (fun d=>[(0,.val .str d)]) (fun d=>[]) h rfl xAb ?_;rintro g N L z I h;simp only[go_sem];replace h:sat (jU F f g) _:=h;unfold jU at h;refine aK h fun g0 h=>aK h fun g1 h=>?_;refine⟨fun hc=>?_,fun hc=>?_⟩
 ·replace h:=fQ hc h;refine aK h fun g0 h=>aK h fun g1 h=>?_;replace h:=z _ (aA h);exact zaI
 ·replace h:=fR hc h;replace h:=yaG (I _ (aA h));exact zaD
attribute [go_sem] iJ
def kQ(F:Md)(g:Nat)(f:qd):Option (qd⊕qd) :=
 ck (((0:Int)<(f.length:Int))→((0:Int)<(f.length:Int))) (if ((0:Int)<(f.length:Int))∧((f.getD (0:Nat) (0:Nat))=g) then ck ((1:Int)≤(f.length:Int)) (some (.inl (List.drop (1:Nat) f))) else some (.inr f))
def hZ(F:Md)(f:qd)(g:Nat):Option qd :=
 (dE F (fun d:qd=>kQ F g d) f).bind (fun e=>some e)
def aCb:PlR:=⟨[(0,.A [0,1]),(1,.A [0,1,13]),(2,.A [0,1]),(3,.A [4])],[],[]⟩
def aCM:Ty:=.pair .str vj
def jL(F:Md):aF:=mSpec aCM (.one .str) (fun x=>hZ F x.1 x.2.1)
abbrev aJs(F:Md):List (FuncId×aF):=[]
theorem aJt[Mx](F:Md):bF Tryz.prog GL (aJs F):=.nil
attribute [go_sem] aCM aCb
theorem aCc[Mx](F:Md):FOK Tryz.prog GL 95 (jL F):=by
 refine bQ (aZ (aJt F)) mix Tryz.func95 rfl xP xAa aCb (fun w0 S x Θ J h hV=>?_);obtain⟨(q:qd),(f:Nat),u⟩:=x;simp only[cA,go_sem];replace h:sat (hZ F q f) _:=h;unfold hZ at h;refine bP hV (D:=qd) [1] (fun d=>[(0,.val .str d)]) (fun d=>[]) h rfl xAb ?_;rintro g N L z I h;simp only[go_sem];replace h:sat (kQ F f g) _:=h;unfold kQ at h;refine aK h fun g0 h=>?_;refine⟨fun hc=>?_,fun hc=>?_⟩
 ·replace h:=fQ hc h;refine aK h fun g0 h=>?_;replace h:=z _ (aA h);exact zaI
 ·replace h:=fR hc h;replace h:=yaG (I _ (aA h));exact zaD
attribute [go_sem] jL
def dF(F:Md)(g:vh)(f:Nat):Option Bool :=
 ck (0≤((f:Nat):Int)∧((f:Nat):Int)<(256:Int)) (some (g.getD f false))
def yA:PlR:=⟨[(0,.A [0,1]),(1,.A [4])],[],[]⟩
def zB:Ty:=.pair (.rp (.arr 256 .bool)) vj
def fV(F:Md):aF:=mSpec zB (.one .bool) (fun x=>dF F x.1 x.2.1)
abbrev aFz(F:Md):List (FuncId×aF):=[]
theorem aFA[Mx](F:Md):bF Tryz.prog GL (aFz F):=.nil
attribute [go_sem] zB yA
theorem yB[Mx](F:Md):FOK Tryz.prog GL 92 (fV F):=by
 refine bQ (aZ (aFA F)) mix Tryz.func92 rfl xP xAa yA (fun w0 S x Θ q h hV=>?_);obtain⟨(f:vh),(g:Nat),u⟩:=x;simp only[cA,go_sem];replace h:sat (dF F f g) _:=h;unfold dF at h;refine aK h fun g0 h=>?_;exact zaD
attribute [go_sem] fV
def kR(F:Md)(chars_0:qd)(f:Int)(g:vh):Option ((Int×vh)⊕(vh⊕(vh×ve))) :=
 if f<(chars_0.length:Int) then ck (0≤f∧f<(chars_0.length:Int)) (if (128:Nat)≤(chars_0.getD (f.toNat) (0:Nat)) then some (.inr (.inr (g,false,()))) else ck (0≤(((chars_0.getD (f.toNat) (0:Nat)):Nat):Int)∧(((chars_0.getD (f.toNat) (0:Nat)):Nat):Int)<(256:Int)) (ck (I64 (f+(1:Int))) (some (.inl ((f+(1:Int)),(g.set (chars_0.getD (f.toNat) (0:Nat)) true)))))) else some (.inr (.inl g))
def dJ(F:Md)(chars_0:qd):Option (vh×ve) :=
 (dE F (fun d:Int×vh=>kR F chars_0 d.1 d.2) ((0:Int),(List.replicate 256 false))).bind (fun e=>match e with|(.inl e)=>some (e,true,())|(.inr e)=>some e)
def aCd:PlR:=⟨[(0,.B [0,2]),(1,.A [0,2,4]),(2,.A [0,2,4,9]),(3,.A [0,2,4]),(4,.A [0,2,4,5]),(5,.A [0,2,4,5,16]),(6,.B [2,3]),(7,.B [0,2,4]),(8,.B [2,3])],[],[]⟩
def aCN:Ty:=.pair .str .unit
def fN(F:Md):aF:=mSpec aCN (.tup (.pair (.arr 256 .bool) vl)) (fun x=>dJ F x.1)
abbrev aJu(F:Md):List (FuncId×aF):=[]
theorem aJv[Mx](F:Md):bF Tryz.prog GL (aJu F):=.nil
attribute [go_sem] aCN aCd
theorem wC[Mx](F:Md):FOK Tryz.prog GL 45 (fN F):=by
 refine bQ (aZ (aJv F)) mix Tryz.func45 rfl xP xAa aCd (fun w0 S x Θ q h hV=>?_);obtain⟨(chars_0:qd),u⟩:=x;simp only[cA,go_sem];replace h:sat (dJ F chars_0) _:=h;unfold dJ at h;refine bP hV (D:=Int×vh) [0] (fun d=>[(2,.ptr 0 []),(4,.val qg d.1)]) (fun d=>[.inr (.box 256 (.val (.arr 256 .bool) d.2))]) h rfl xAb ?_;rintro⟨g,f⟩ z T2 hA2 hE2 h;simp only[go_sem];replace h:sat (kR F chars_0 g f) _:=h;unfold kR at h;refine dS h (fun hc h=>?_) fun hc h=>?_
 ·refine aD h fun g0 h=>(yaC ?_);refine cE h (fun hc h=>?_) fun hc h=>?_
  ·replace h:=yaG (hE2 _ (aA h));exact aG hV [.cell 2 102,.tmp 3] rfl rfl rfl (aA h) xAc
  ·refine aD h fun g0 h=>(yaC ?_);refine aD h fun g0 h=>(yaC ?_);exact zau
 ·replace h:=yaG (hE2 _ (aA h));exact aG hV [.cell 2 102,.tmp 3] rfl rfl rfl (aA h) xAc
attribute [go_sem] fN
def cM(F:Md)(q:vh)(f:qd):Option (qd⊕qd) :=
 if (0:Int)<(f.length:Int) then ck (I64 ((f.length:Int)-(1:Int))) (ck (0≤((f.length:Int)-(1:Int))∧((f.length:Int)-(1:Int))<(f.length:Int)) ((dF F q (f.getD ((f.length:Int)-(1:Int)).toNat (0:Nat))).bind (fun g=>if ¬(g=true) then some (.inr f) else ck (I64 ((f.length:Int)-(1:Int))) (ck (0≤((f.length:Int)-(1:Int))∧((f.length:Int)-(1:Int))≤(f.length:Int)) (some (.inl (List.take ((f.length:Int)-(1:Int)).toNat f))))))) else some (.inr f)
def dG(F:Md)(g:qd)(f:vh):Option qd :=
 (dE F (fun d:qd=>cM F f d) g).bind (fun e=>some e)
def aAS:PlR:=⟨[(0,.A [0,1]),(1,.A [0,1,7]),(2,.A [0,1,15]),(3,.A [0,1]),(4,.A [4])],[],[]⟩
def aBf:Ty:=.pair .str (.pair (.rp (.arr 256 .bool)) .unit)
def gY(F:Md):aF:=mSpec aBf (.one .str) (fun x=>dG F x.1 x.2.1)
abbrev aBg(F:Md):List (FuncId×aF):=[(92,(fV F))]
theorem aHD[Mx](F:Md):bF Tryz.prog GL (aBg F):=.cons (yB F) xP (.nil)
attribute [go_sem] aBf aAS
theorem aAT[Mx](F:Md):FOK Tryz.prog GL 46 (gY F):=by
 refine bQ (aZ (aHD F)) mix Tryz.func46 rfl xP xAa aAS (fun w0 S x Θ L h hV=>?_);obtain⟨(z:qd),(f:vh),u⟩:=x;simp only[cA,go_sem];replace h:sat (dG F z f) _:=h;unfold dG at h;refine bP hV (D:=qd) [1] (fun d=>[(0,.val .str d)]) (fun d=>[]) h rfl xAb ?_;rintro g O N I q h;simp only[go_sem];replace h:sat (cM F f g) _:=h;unfold cM at h;refine dS h (fun hc h=>?_) fun hc h=>?_
 ·refine aK h fun g0 h=>aK h fun g1 h=>?_;refine aB h fun J hv h=>?_;try simp only[hv,go_sem]
  refine zT h (fun hc h=>?_) fun hc h=>?_
  ·replace h:=yaG (q _ (aA h));exact zaD
  ·refine aK h fun g0 h=>aK h fun g1 h=>?_;replace h:=I _ (aA h);exact zaI
 ·replace h:=yaG (q _ (aA h));exact zaD
attribute [go_sem] gY
def cT(F:Md)(q:vh)(f:qd):Option (qd⊕qd) :=
 if (0:Int)<(f.length:Int) then ck ((0:Int)<(f.length:Int)) ((dF F q (f.getD (0:Nat) (0:Nat))).bind (fun g=>if ¬(g=true) then some (.inr f) else ck ((1:Int)≤(f.length:Int)) (some (.inl (List.drop (1:Nat) f))))) else some (.inr f)
def dO(F:Md)(g:qd)(f:vh):Option qd :=
 (dE F (fun d:qd=>cT F f d) g).bind (fun e=>some e)
def aBh:PlR:=⟨[(0,.A [0,1]),(1,.A [0,1,7]),(2,.A [0,1,12]),(3,.A [0,1]),(4,.A [4])],[],[]⟩
def aCe:Ty:=.pair .str (.pair (.rp (.arr 256 .bool)) .unit)
def iK(F:Md):aF:=mSpec aCe (.one .str) (fun x=>dO F x.1 x.2.1)
abbrev aCf(F:Md):List (FuncId×aF):=[(92,(fV F))]
theorem aIh[Mx](F:Md):bF Tryz.prog GL (aCf F):=.cons (yB F) xP (.nil)
attribute [go_sem] aCe aBh
theorem aBi[Mx](F:Md):FOK Tryz.prog GL 96 (iK F):=by
 refine bQ (aZ (aIh F)) mix Tryz.func96 rfl xP xAa aBh (fun w0 S x Θ L h hV=>?_);obtain⟨(z:qd),(f:vh),u⟩:=x;simp only[cA,go_sem];replace h:sat (dO F z f) _:=h;unfold dO at h;refine bP hV (D:=qd) [1] (fun d=>[(0,.val .str d)]) (fun d=>[]) h rfl xAb ?_;rintro g O N I q h;simp only[go_sem];replace h:sat (cT F f g) _:=h;unfold cT at h;refine dS h (fun hc h=>?_) fun hc h=>?_
 ·refine aK h fun g0 h=>?_;refine aB h fun J hv h=>?_;try simp only[hv,go_sem]
  refine zT h (fun hc h=>?_) fun hc h=>?_
  ·replace h:=yaG (q _ (aA h));exact zaD
  ·refine aK h fun g0 h=>?_;replace h:=I _ (aA h);exact zaI
 ·replace h:=yaG (q _ (aA h));exact zaD
attribute [go_sem] iK
def iH(F:Md)(f:qd)(cutset_1:qd):Option qd :=
 if (f=(aR ⟨#[]⟩))∨(cutset_1=(aR ⟨#[]⟩)) then some f else ck (((cutset_1.length:Int)=(1:Int))→((0:Int)<(cutset_1.length:Int))) (if ((cutset_1.length:Int)=(1:Int))∧((cutset_1.getD (0:Nat) (0:Nat))<(128:Nat)) then ck ((0:Int)<(cutset_1.length:Int)) ((gP F f (cutset_1.getD (0:Nat) (0:Nat))).bind (fun I=>ck ((0:Int)<(cutset_1.length:Int)) ((hZ F I (cutset_1.getD (0:Nat) (0:Nat))).bind (fun q=>some q)))) else (dJ F cutset_1).bind (fun v_27=>if v_27.2.1=true then (dG F f v_27.1).bind (fun z=>(dO F z v_27.1).bind (fun g=>some g)) else none))
def aJ0:PlR:=⟨[(0,.A [0,1]),(1,.A [0,1,12]),(2,.A [4]),(3,.A [0,1,21]),(4,.A [4]),(5,.B [0,1,5,6]),(6,.A [0,1,5,34]),(7,.A [4]),(8,.stop)],[],[]⟩
def aLt:Ty:=.pair .str wq
def uJ(F:Md):aF:=mSpec aLt (.one .str) (fun x=>iH F x.1 x.2.1)
abbrev wD(F:Md):List (FuncId×aF):=[(44,(iJ F)),(45,(fN F)),(46,(gY F)),(95,(jL F)),(96,(iK F))]
theorem aVP[Mx](F:Md):bF Tryz.prog GL (wD F):=.cons (aBe F) xP (.cons (wC F) xP (.cons (aAT F) xP (.cons (aCc F) xP (.cons (aBi F) xP (.nil)))))
attribute [go_sem] aLt aJ0
theorem aJ1[Mx](F:Md):FOK Tryz.prog GL 98 (uJ F):=by
 refine bQ (aZ (aVP F)) mix Tryz.func98 rfl xP xAa aJ0 (fun w0 S x Θ J h hV=>?_);obtain⟨(f:qd),(cutset_1:qd),u⟩:=x;simp only[cA,go_sem];replace h:sat (iH F f cutset_1) _:=h;unfold iH at h;refine⟨fun hc=>?_,fun hc=>?_⟩
 ·replace h:=fQ hc h;exact zaD
 ·replace h:=fR hc h;refine aK h fun g0 h=>?_;refine⟨fun hc=>?_,fun hc=>?_⟩
  ·replace h:=fQ hc h;refine aK h fun g0 h=>?_;refine aB h fun I hv h=>?_;(try simp only[hv,go_sem]);refine aK h fun g0 h=>?_;refine aB h fun q hv h=>?_;exact zao
  ·replace h:=fR hc h;refine aB h fun v_27 hv h=>?_;(try simp only[hv,go_sem]);refine aH6 h (fun hc h=>?_) fun hc h=>?_
   ·refine aB h fun z hv h=>?_;(try simp only[hv,go_sem]);refine aB h fun g hv h=>?_;exact zao
   ·exact aCA h
attribute [go_sem] uJ
def mO(F:Md):Option q8 :=
 some ([(aR ⟨#[116]⟩),(aR ⟨#[115,113,114]⟩),(aR ⟨#[115,113,114,116]⟩),(aR ⟨#[101,120,112]⟩),(aR ⟨#[112,114,101,99]⟩),(aR ⟨#[101,110,100]⟩),(aR ⟨#[115,116,101,112]⟩),(aR ⟨#[116,111,108]⟩),(aR ⟨#[116,114,105,101,115]⟩),(aR ⟨#[111,114,100,101,114]⟩),(aR ⟨#[106,97,99,111,98,105]⟩),(aR ⟨#[115,101,105,100,101,108]⟩),(aR ⟨#[115,117,98]⟩),(aR ⟨#[115,116,97,116,101]⟩),(aR ⟨#[112,97,114]⟩),(aR ⟨#[105,110]⟩),(aR ⟨#[111,117,116]⟩),(aR ⟨#[100,101,114]⟩),(aR ⟨#[108,105,110,107]⟩)]:List qd)
def aHe:PlR:=⟨[(0,.A []),(1,.A [0])],[],[]⟩
def aIi:Ty:=.unit
def zC(F:Md):aF:=mSpec aIi (.one wo) (fun x=>mO F )
abbrev aRk(F:Md):List (FuncId×aF):=[]
theorem aRl[Mx](F:Md):bF Tryz.prog GL (aRk F):=.nil
attribute [go_sem] aIi aHe
theorem aPx[Mx](F:Md):FOK Tryz.prog GL 119 (zC F):=by
 refine bQ (aZ (aRl F)) mix Tryz.func119 rfl xP xAa aHe (fun w0 S x Θ f h hV=>?_);simp only[cA,go_sem];replace h:sat (mO F) _:=h;unfold mO at h;exact aG hV [.tmp 0] rfl rfl rfl (aA h) (by (simp only[aS,go_sem])<;>first|rfl|(simp; done))
attribute [go_sem] zC
def gE(F:Md)(g:q8)(q:qd)(f:Int):Option ((Int)⊕((Unit)⊕Int)) :=
 if f<(g.length:Int) then ck (0≤f∧f<(g.length:Int)) (if q=(g.getD (f.toNat) ([]:List Nat)) then some (.inr (.inr f)) else ck (I64 (f+(1:Int))) (some (.inl (f+(1:Int))))) else some (.inr (.inl ()))
def lJ(F:Md)(f:q8)(g:qd):Option Int :=
 (dE F (fun d:Int=>gE F f g d) (0:Int)).bind (fun e=>match e with|(.inl e)=>some (-1:Int)|(.inr e)=>some e)
def aCO:PlR:=⟨[(0,.A [0,1]),(1,.A [0,1,7,8]),(2,.A [0,1,7,8,9]),(3,.A [0,1,5,7,8]),(4,.A [0,1,5,7,8,16]),(5,.A [4]),(6,.A [0,1,7,8]),(7,.A [4])],[],[]⟩
def aDl:Ty:=.pair wo wq
def rR(F:Md):aF:=mSpec aDl (.one qg) (fun x=>lJ F x.1 x.2.1)
abbrev aKt(F:Md):List (FuncId×aF):=[]
theorem aKu[Mx](F:Md):bF Tryz.prog GL (aKt F):=.nil
attribute [go_sem] aDl aCO
theorem aJw[Mx](F:Md):FOK Tryz.prog GL 167 (rR F):=by
 refine bQ (aZ (aKu F)) mix Tryz.func167 rfl xP xAa aCO (fun w0 S x Θ z h hV=>?_);obtain⟨(q:q8),(f:qd),u⟩:=x;simp only[cA,go_sem];replace h:sat (lJ F q f) _:=h;unfold lJ at h;refine bP hV (D:=Int) [0,1,7] (fun d=>[(8,.val qg d)]) (fun d=>[]) h rfl xAb ?_;rintro g I T2 hA2 hE2 h;simp only[go_sem];replace h:sat (gE F q f g) _:=h;unfold gE at h;refine dS h (fun hc h=>?_) fun hc h=>?_
 ·refine aK h fun g0 h=>?_;refine cE h (fun hc h=>?_) fun hc h=>?_
  ·replace h:=yaG (hE2 _ (aA h));exact zaD
  ·refine aK h fun g0 h=>?_;exact zau
 ·replace h:=yaG (hE2 _ (aA h));exact zaD
attribute [go_sem] rR
def eO(F:Md)(f:q8)(g:qd):Option Bool :=
 (lJ F f g).bind (fun q=>some (decide ((0:Int)≤q)))
def aAU:PlR:=⟨[(0,.A [0,1]),(1,.A [4])],[],[]⟩
def aBj:Ty:=.pair wo wq
def gZ(F:Md):aF:=mSpec aBj (.one .bool) (fun x=>eO F x.1 x.2.1)
abbrev aBk(F:Md):List (FuncId×aF):=[(167,(rR F))]
theorem aHE[Mx](F:Md):bF Tryz.prog GL (aBk F):=.cons (aJw F) xP (.nil)
attribute [go_sem] aBj aAU
theorem aAV[Mx](F:Md):FOK Tryz.prog GL 118 (gZ F):=by
 refine bQ (aZ (aHE F)) mix Tryz.func118 rfl xP xAa aAU (fun w0 S x Θ z h hV=>?_);obtain⟨(f:q8),(g:qd),u⟩:=x;simp only[cA,go_sem];replace h:sat (eO F f g) _:=h;unfold eO at h;refine aB h fun q hv h=>?_;exact zao
attribute [go_sem] gZ
def cR(F:Md)(f:qd):Option Bool :=
 ck (¬(((f.length:Int)<(1:Int))∨((20:Int)<(f.length:Int)))→((0:Int)<(f.length:Int))) (ck (¬((((f.length:Int)<(1:Int))∨((20:Int)<(f.length:Int)))∨((f.getD (0:Nat) (0:Nat))<(97:Nat)))→((0:Int)<(f.length:Int))) (if ((((f.length:Int)<(1:Int))∨((20:Int)<(f.length:Int)))∨((f.getD (0:Nat) (0:Nat))<(97:Nat)))∨((122:Nat)<(f.getD (0:Nat) (0:Nat))) then some false else (iH F f (aR tE)).bind (fun v_5=>ck ((v_5=(aR ⟨#[]⟩))→((mO F).isSome=true)) (ck ((v_5=(aR ⟨#[]⟩))→((eO F ((mO F).getD ([]:List qd)) f).isSome=true)) (some ((decide (v_5=(aR ⟨#[]⟩)))&&(!((eO F ((mO F).getD ([]:List qd)) f).getD false))))))))
def aNb:PlR:=⟨[(0,.A [0]),(1,.A [0,20]),(2,.A [2]),(3,.A [2])],[],[]⟩
def aPy:Ty:=.pair .str .unit
def sJ(F:Md):aF:=mSpec aPy (.one .bool) (fun x=>cR F x.1)
abbrev aFC(F:Md):List (FuncId×aF):=[(118,(gZ F)),(119,(zC F)),(98,(uJ F))]
theorem aZC[Mx](F:Md):bF Tryz.prog GL (aFC F):=.cons (aAV F) xP (.cons (aPx F) xP (.cons (aJ1 F) xP (.nil)))
attribute [go_sem] aPy aNb
theorem aHF[Mx](F:Md):FOK Tryz.prog GL 70 (sJ F):=by
 refine bQ (aZ (aZC F)) mix Tryz.func70 rfl xP xAa aNb (fun w0 S x Θ g h hV=>?_);obtain⟨(f:qd),u⟩:=x;simp only[cA,go_sem];replace h:sat (cR F f) _:=h;unfold cR at h;refine aD h fun g0 h=>?_;refine aD h fun g1 h=>?_;repeat (refine⟨zAG,?_⟩)
 refine⟨fun hc=>?_,fun hc=>?_⟩
 ·replace h:=fQ hc h;exact zaE
 ·replace h:=fR hc h;refine aB h fun v_5 hv h=>?_;try simp only[hv,go_sem]
  refine aD h fun g0 h=>?_;refine aD h fun g1 h=>?_;repeat (refine⟨zAG,?_⟩)
  exact zaE
attribute [go_sem] sJ
def xG(F:Md):Option vd :=
 none
def tF(F:Md)(g:qd)(f:Int):Option vd :=
 ck ((0:Int)<(g.length:Int)) (if (g.getD (0:Nat) (0:Nat))=(45:Nat) then ck (I64 (0-f)) (some ((0-f),(),())) else some (f,(),()))
def kX(F:Md)(q:qd)(g:Int)(f:Int):Option (ww⊕((Int)⊕vd)) :=
 if f<(q.length:Int) then ck (0≤f∧f<(q.length:Int)) (if (9:Nat)<(wU F .u8 (q.getD (f.toNat) (0:Nat)) (48:Nat)) then none else ck (I64 (g*(10:Int))) (ck (I64 ((g*(10:Int))+(((wU F .u8 (q.getD (f.toNat) (0:Nat)) (48:Nat)):Nat):Int))) (ck (I64 (f+(1:Int))) (some (.inl (((g*(10:Int))+(((wU F .u8 (q.getD (f.toNat) (0:Nat)) (48:Nat)):Nat):Int)),(f+(1:Int)))))))) else some (.inr (.inl g))
def mD(F:Md)(f:qd)(g:qd):Option vd :=
 (dE F (fun d:Int×Int=>kX F g d.1 d.2) ((0:Int),(0:Int))).bind (fun e=>match e with|(.inl e)=>tF F f e|(.inr e)=>some e)
def uK(F:Md)(f:qd):Option vd :=
 if ((False)∧(((0:Int)<(f.length:Int))∧((f.length:Int)<(10:Int))))∨((True)∧(((0:Int)<(f.length:Int))∧((f.length:Int)<(19:Int)))) then ck ((0:Int)<(f.length:Int)) (ck (¬((f.getD (0:Nat) (0:Nat))=(45:Nat))→((0:Int)<(f.length:Int))) (if ((f.getD (0:Nat) (0:Nat))=(45:Nat))∨((f.getD (0:Nat) (0:Nat))=(43:Nat)) then ck ((1:Int)≤(f.length:Int)) (if (((List.drop (1:Nat) f).length:Nat):Int)<(1:Int) then none else mD F f (List.drop (1:Nat) f)) else mD F f f)) else xG F
def aIj:PlR:=⟨[(0,.A [0]),(1,.A [0,4]),(2,.A [0,30]),(3,.A [0,5]),(4,.A [0,5,39]),(5,.A [0,5]),(6,.A [0,5,44]),(7,.A [2,3]),(8,.A [0,5,6]),(9,.A [5,6,47,48,49]),(10,.A [5,6,47,48,49,50]),(11,.A [5,6,8,47,48,49]),(12,.A [5,6,8,47,48,49]),(13,.A [5,6,8,47,48,49,56]),(14,.A [2,3]),(15,.A [5,6,47,48,49]),(16,.A [5,6,47,48,49]),(17,.A [6,66]),(18,.A [6]),(19,.A [2,3]),(20,.stop)],[(5,23),(7,11),(12,20)],[]⟩
def aJ2:Ty:=.pair .str .unit
def aAx(F:Md):aF:=mSpec aJ2 (.tup (.pair qg (.pair .nili .unit))) (fun x=>uK F x.1)
abbrev aTn(F:Md):List (FuncId×aF):=[]
theorem aTo[Mx](F:Md):bF Tryz.prog GL (aTn F):=.nil
attribute [go_sem] aJ2 aIj
theorem aRo[Mx](F:Md):FOK Tryz.prog GL 138 (aAx F):=by
 refine bQ (aZ (aTo F)) mix Tryz.func138 rfl xP xAa aIj (fun w0 S x Θ U h hV=>?_);obtain⟨(f:qd),u⟩:=x;simp only[cA,go_sem];replace h:sat (uK F f) _:=h;unfold uK at h;refine dB hV (D:=Unit) (fun d=>sat (xG F) Θ) [0] (fun d=>[]) (fun d=>[]) ?_ ?_
 ·simp only[go_sem,bJ F,bK F,bL F];refine⟨fun hc=>?_,fun hc=>?_⟩
  ·replace h:=fQ zAC h;refine dB hV (D:=qd) (fun d=>sat (mD F f d) Θ) [5] (fun d=>[(0,.val .str d)]) (fun d=>[]) ?_ ?_
   ·simp only[go_sem,bJ F,bK F,bL F];refine aK h fun g0 h=>aK h fun g1 h=>?_;refine⟨fun hc=>?_,fun hc=>?_⟩
    ·replace h:=fQ hc h;refine aK h fun g0 h=>?_;refine dS h (fun hc h=>?_) fun hc h=>?_
     ·exact aCA h
     ·exact aT (List.drop (1:Nat) f) h rfl xAd
    ·replace h:=fR hc h;exact aT (f) h rfl xAd
   ·rintro J h;simp only[go_sem,bJ F,bK F,bL F];replace h:sat (mD F f J) _:=h;unfold mD at h;refine dB hV (D:=Int) (fun d=>sat (tF F f d) Θ) [5] (fun d=>[(6,.val qg d)]) (fun d=>[]) ?_ ?_
    ·simp only[go_sem,bJ F,bK F,bL F];refine bP hV (D:=Int×Int) [5,47,48] (fun d=>[(6,.val qg d.1),(49,.val qg d.2)]) (fun d=>[]) h rfl xAd ?_;rintro⟨q,g⟩ O N I L h;simp only[go_sem,bJ F,bK F,bL F];replace h:sat (kX F J q g) _:=h;unfold kX at h;refine dS h (fun hc h=>?_) fun hc h=>?_
     ·refine aK h fun g0 h=>?_;refine cE h (fun hc h=>?_) fun hc h=>?_
      ·exact aCA h
      ·refine aK h fun g0 h=>aK h fun g1 h=>?_;refine aK h fun g0 h=>?_;replace h:=I _ (aA h);exact zak
     ·replace h:=yaG (L _ (aA h));exact aT (q) h rfl xAd
    ·rintro z h;simp only[go_sem,bJ F,bK F,bL F];replace h:sat (tF F f z) _:=h;unfold tF at h;refine aK h fun g0 h=>?_;refine cE h (fun hc h=>?_) fun hc h=>?_
     ·refine aK h fun g0 h=>?_;exact aG hV [.tmp 2,.tmp 3] rfl rfl rfl (aA h) xAe
     ·exact aG hV [.tmp 2,.tmp 3] rfl rfl rfl (aA h) xAe
  ·replace h:=fR zAC h;exact aT () h rfl xAd
 ·rintro u h;simp only[go_sem,bJ F,bK F,bL F];replace h:sat (xG F) _:=h;unfold xG at h;exact aCA h
attribute [go_sem] aAx
def nK(F:Md)(f:qd):Option vd :=
 (uK F f).bind (fun v_5=>some (v_5.1,(),()))
def aJ3:PlR:=⟨[(0,.A [0]),(1,.A [0,4,5]),(2,.A [0,4,5,12]),(4,.A [2,3])],[],[]⟩
def aLu:Ty:=.pair .str .unit
def oG(F:Md):aF:=mSpec aLu (.tup (.pair qg (.pair .nili .unit))) (fun x=>nK F x.1)
abbrev aLv(F:Md):List (FuncId×aF):=[(138,(aAx F))]
theorem aVQ[Mx](F:Md):bF Tryz.prog GL (aLv F):=.cons (aRo F) xP (.nil)
attribute [go_sem] aLu aJ3
theorem aE1[Mx](F:Md):FOK Tryz.prog GL 99 (oG F):=by
 refine bQ (aZ (aVQ F)) mix Tryz.func99 rfl xP xAa aJ3 (fun w0 S x Θ g h hV=>?_);obtain⟨(f:qd),u⟩:=x;simp only[cA,go_sem];replace h:sat (nK F f) _:=h;unfold nK at h;refine aB h fun v_5 hv h=>?_;try simp only[hv,go_sem]
 exact aG hV [.tmp 2,.tmp 3] rfl rfl rfl (aA h) xAc
attribute [go_sem] oG
def qY(F:Md)(f:Int)(q:qd)(g:Int):Option ((Int)⊕(Int)) :=
 ck (I64 (f+g)) (ck (((f+g)<(q.length:Int))→(I64 (f+g))) (ck (((f+g)<(q.length:Int))→(0≤(f+g)∧(f+g)<(q.length:Int))) (ck ((((f+g)<(q.length:Int))∧((48:Nat)≤(q.getD (f+g).toNat (0:Nat))))→(I64 (f+g))) (ck ((((f+g)<(q.length:Int))∧((48:Nat)≤(q.getD (f+g).toNat (0:Nat))))→(0≤(f+g)∧(f+g)<(q.length:Int))) (if (((f+g)<(q.length:Int))∧((48:Nat)≤(q.getD (f+g).toNat (0:Nat))))∧((q.getD (f+g).toNat (0:Nat))≤(57:Nat)) then ck (I64 (g+(1:Int))) (some (.inl (g+(1:Int)))) else some (.inr g))))))
def nL(F:Md)(g:qd)(f:Int):Option Int :=
 (dE F (fun d:Int=>qY F f g d) (0:Int)).bind (fun e=>some e)
def aNc:PlR:=⟨[(0,.A [0,1]),(1,.A [0,1,5]),(2,.A [0,1,5,27]),(3,.A [0,1,5]),(4,.A [4])],[],[]⟩
def aPz:Ty:=.pair .str qm
def yP(F:Md):aF:=mSpec aPz (.one qg) (fun x=>nL F x.1 x.2.1)
abbrev aZD(F:Md):List (FuncId×aF):=[]
theorem aZE[Mx](F:Md):bF Tryz.prog GL (aZD F):=.nil
attribute [go_sem] aPz aNc
theorem aNd[Mx](F:Md):FOK Tryz.prog GL 141 (yP F):=by
 refine bQ (aZ (aZE F)) mix Tryz.func141 rfl xP xAa aNc (fun w0 S x Θ z h hV=>?_);obtain⟨(g:qd),(f:Int),u⟩:=x;simp only[cA,go_sem];replace h:sat (nL F g f) _:=h;unfold nL at h;refine bP hV (D:=Int) [0,1] (fun d=>[(5,.val qg d)]) (fun d=>[]) h rfl xAb ?_;rintro q J T2 hA2 hE2 h;simp only[go_sem];replace h:sat (qY F f g q) _:=h;unfold qY at h;refine aK h fun g0 h=>aK h fun g1 h=>aK h fun L h=>aK h fun I h=>aK h fun N h=>?_;refine⟨fun hc=>?_,fun hc=>?_⟩
 ·replace h:=fQ hc h;refine aK h fun g0 h=>?_;exact zau
 ·replace h:=fR hc h;replace h:=yaG (hE2 _ (aA h));exact zaD
attribute [go_sem] yP
def oW(F:Md)(q:qd)(z:qd)(g:Int)(f:Int):Option (qd×(Int×ve)) :=
 some (q,f,(decide (g=(z.length:Int))),())
def oX(F:Md)(f:Int)(g:Int)(q:Int)(I:qd)(J:qd)(z:Int):Option (qd×(Int×ve)) :=
 ck (I64 (f+z)) (ck (I64 (g+q)) (oW F I J (g+q) (f+z)))
def oY(F:Md)(q:qd)(J:Int)(z:Int)(I:qd)(f:Int):Option (qd×(Int×ve)) :=
 (nL F q f).bind (fun g=>if (g<(1:Int))∨((3:Int)<g) then some ((aR ⟨#[]⟩),(0:Int),false,()) else ck (I64 (f+g)) (ck (0≤f∧f≤(f+g)∧(f+g)≤(q.length:Int)) ((nK F (List.drop (f.toNat) (List.take (f+g).toNat q))).bind (fun v_27=>if (100:Int)<v_27.1 then some ((aR ⟨#[]⟩),(0:Int),false,()) else if ((J+(1:Int))<(q.length:Int))∧((q.getD (J+(1:Int)).toNat (0:Nat))=(45:Nat)) then ck (I64 (0-v_27.1)) (oX F z f g I q (0-v_27.1)) else oX F z f g I q v_27.1))))
def oZ(F:Md)(g:qd)(f:Int)(z:qd)(q:Int):Option (qd×(Int×ve)) :=
 ck ((f<(g.length:Int))→(0≤f∧f<(g.length:Int))) (if (f<(g.length:Int))∧((g.getD (f.toNat) (0:Nat))=(101:Nat)) then ck (I64 (f+(1:Int))) (ck (((f+(1:Int))<(g.length:Int))→(0≤(f+(1:Int))∧(f+(1:Int))<(g.length:Int))) (ck (¬(((f+(1:Int))<(g.length:Int))∧((g.getD (f+(1:Int)).toNat (0:Nat))=(45:Nat)))→((f+(1:Int))<(g.length:Int))→(0≤(f+(1:Int))∧(f+(1:Int))<(g.length:Int))) (if (((f+(1:Int))<(g.length:Int))∧((g.getD (f+(1:Int)).toNat (0:Nat))=(45:Nat)))∨(((f+(1:Int))<(g.length:Int))∧((g.getD (f+(1:Int)).toNat (0:Nat))=(43:Nat))) then ck (I64 ((f+(1:Int))+(1:Int))) (oY F g f q z ((f+(1:Int))+(1:Int))) else oY F g f q z (f+(1:Int))))) else oW F z g f q)
def sK(F:Md)(f:qd):Option (qd×(Int×ve)) :=
 (nL F f (0:Int)).bind (fun v_5=>ck (0≤v_5∧v_5≤(f.length:Int)) (if ((60:Int)<(f.length:Int))∨(v_5=(0:Int)) then some ((aR ⟨#[]⟩),(0:Int),false,()) else ck ((v_5<(f.length:Int))→(0≤v_5∧v_5<(f.length:Int))) (if (v_5<(f.length:Int))∧((f.getD (v_5.toNat) (0:Nat))=(46:Nat)) then ck (I64 (v_5+(1:Int))) ((nL F f (v_5+(1:Int))).bind (fun g=>if g=(0:Int) then some ((aR ⟨#[]⟩),(0:Int),false,()) else ck (I64 (v_5+(1:Int))) (ck (I64 (v_5+(1:Int))) (ck (I64 ((v_5+(1:Int))+g)) (ck (0≤(v_5+(1:Int))∧(v_5+(1:Int))≤((v_5+(1:Int))+g)∧((v_5+(1:Int))+g)≤(f.length:Int)) (ck ((List.take (v_5.toNat) f).length+(List.drop (v_5+(1:Int)).toNat (List.take ((v_5+(1:Int))+g).toNat f)).length≤9223372036854775807) (ck (I64 (0-g)) (ck (I64 (v_5+(1:Int))) (ck (I64 ((v_5+(1:Int))+g)) (oZ F f ((v_5+(1:Int))+g) ((List.take (v_5.toNat) f)++(List.drop (v_5+(1:Int)).toNat (List.take ((v_5+(1:Int))+g).toNat f))) (0-g))))))))))) else oZ F f v_5 (List.take (v_5.toNat) f) (0:Int))))
def aLw:PlR:=⟨[(0,.A [0]),(1,.A [0,5]),(2,.A [0,5,6,7]),(3,.A [0,5,6,7,24]),(4,.A [2,3,4]),(5,.A [0,5,6,7,34]),(6,.A [0,5,6,8]),(7,.A [0,5,6,8,40]),(8,.A [2,3,4]),(9,.A [0,5,6,7]),(10,.A [0,5,6,7,66]),(11,.A [0,5,6,7]),(12,.A [0,5,6,7,9]),(13,.A [0,5,6,7,9,91]),(14,.A [0,5,6,7,9]),(15,.A [0,5,6,7,9,10]),(16,.A [0,5,6,7,9,10,102]),(17,.A [2,3,4]),(18,.A [0,5,6,7,9,10,11]),(19,.A [0,5,6,7,9,10,11,114]),(20,.A [2,3,4]),(21,.A [0,5,6,7,10,11,115]),(22,.A [0,5,6,7,10,11]),(23,.A [0,5,6,7]),(24,.A [2,3,4])],[(8,13),(13,27),(16,18),(24,26)],[]⟩
def aNe:Ty:=.pair .str .unit
def pT(F:Md):aF:=mSpec aNe (.tup (.pair .str (.pair qg vl))) (fun x=>sK F x.1)
abbrev aHG(F:Md):List (FuncId×aF):=[(141,(yP F)),(99,(oG F))]
theorem aXd[Mx](F:Md):bF Tryz.prog GL (aHG F):=.cons (aNd F) xP (.cons (aE1 F) xP (.nil))
attribute [go_sem] aNe aLw
theorem aGq[Mx](F:Md):FOK Tryz.prog GL 103 (pT F):=by
 refine bQ (aZ (aXd F)) mix Tryz.func103 rfl xP xAa aLw (fun w0 S x Θ Y h hV=>?_);obtain⟨(q:qd),u⟩:=x;simp only[cA,go_sem];replace h:sat (sK F q) _:=h;unfold sK at h;refine aB h fun v_5 hv h=>?_;try simp only[hv,go_sem]
 refine aD h fun g0 h=>(yaC ?_);refine⟨fun hc=>?_,fun hc=>?_⟩
 ·replace h:=fQ hc h;exact zam
 ·replace h:=fR hc h;refine dB hV (D:=Int×qd×Int) (fun d=>sat (oZ F q d.1 d.2.1 d.2.2) Θ) [0] (fun d=>[(5,.val qg d.1),(6,.val .str d.2.1),(7,.val qg d.2.2)]) (fun d=>[]) ?_ ?_
  ·simp only[go_sem];refine aD h fun g0 h=>(yaC ?_);refine⟨fun hc=>?_,fun hc=>?_⟩
   ·replace h:=fQ hc h;refine aD h fun g0 h=>(yaC ?_);refine aB h fun L hv h=>?_;(try simp only[hv,go_sem]);refine cE h (fun hc h=>?_) fun hc h=>?_
    ·exact aG hV [.tmp 2,.tmp 3,.tmp 4] rfl rfl rfl (aA h) xAc
    ·refine aD h fun g0 h=>?_;refine aD h fun g1 h=>?_;refine aD h fun g2 h=>?_;refine aD h fun Z h=>?_;refine aD h fun g4 h=>?_;refine aD h fun g5 h=>?_;refine aD h fun g6 h=>?_;refine aD h fun g7 h=>(yaC ?_);exact aT (((v_5+(1:Int))+L),((List.take (v_5.toNat) q)++(List.drop (v_5+(1:Int)).toNat (List.take ((v_5+(1:Int))+L).toNat q))),(0-L)) h rfl xAb
   ·replace h:=fR hc h;exact aT (v_5,(List.take (v_5.toNat) q),(0:Int)) h rfl xAb
  ·rintro⟨z,g,f⟩ h;simp only[go_sem];replace h:sat (oZ F q z g f) _:=h;unfold oZ at h;refine dB hV (D:=Int×Int) (fun d=>sat (oW F g q d.1 d.2) Θ) [0,6] (fun d=>[(5,.val qg d.1),(7,.val qg d.2)]) (fun d=>[]) ?_ ?_
   ·simp only[go_sem];refine aD h fun g0 h=>(yaC ?_);refine⟨fun hc=>?_,fun hc=>?_⟩
    ·replace h:=fQ hc h;refine aD h fun g0 h=>(yaC ?_);refine aD h fun g0 h=>(yaC ?_);refine dB hV (D:=Int) (fun d=>sat (oY F q z f g d) Θ) [0,6,7,9] (fun d=>[(5,.val qg d)]) (fun d=>[]) ?_ ?_
     ·simp only[go_sem];refine aD h fun g0 h=>(yaC ?_);refine⟨fun hc=>?_,fun hc=>?_⟩
      ·replace h:=fQ hc h;refine aD h fun g0 h=>(yaC ?_);exact aT ((z+(1:Int))+(1:Int)) h rfl xAb
      ·replace h:=fR hc h;exact aT (z+(1:Int)) h rfl xAb
     ·rintro I h;simp only[go_sem];replace h:sat (oY F q z f g I) _:=h;unfold oY at h;refine aB h fun J hv h=>?_;(try simp only[hv,go_sem]);refine⟨fun hc=>?_,fun hc=>?_⟩
      ·replace h:=fQ hc h;exact zam
      ·replace h:=fR hc h;refine aD h fun g0 h=>?_;refine aD h fun g1 h=>(yaC ?_);refine aB h fun v_27 hv h=>?_;(try simp only[hv,go_sem]);refine dS h (fun hc h=>?_) fun hc h=>?_
       ·exact aG hV [.tmp 2,.tmp 3,.tmp 4] rfl rfl rfl (aA h) xAc
       ·refine dB hV (D:=Int) (fun d=>sat (oX F f I J g q d) Θ) [0,5,6,7,10] (fun d=>[(11,.val qg d)]) (fun d=>[]) ?_ ?_
        ·simp only[go_sem];refine⟨fun hc=>?_,fun hc=>?_⟩
         ·replace h:=fQ hc h;refine aD h fun g0 h=>(yaC ?_);exact aT (0-v_27.1) h rfl xAb
         ·replace h:=fR hc h;exact aT v_27.1 h rfl xAb
        ·rintro O h;simp only[go_sem];replace h:sat (oX F f I J g q O) _:=h;unfold oX at h;refine aD h fun g0 h=>?_;refine aD h fun g1 h=>(yaC ?_);exact aT ((I+J),(f+O)) h rfl xAb
    ·replace h:=fR hc h;exact aT (z,f) h rfl xAb
   ·rintro⟨U,N⟩ h;simp only[go_sem];replace h:sat (oW F g q U N) _:=h;unfold oW at h;exact zam
attribute [go_sem] pT
def tG(F:Md)(z:Int)(q:Nat)(g:qd)(f:Int):Option ((qd×Int)⊕qd) :=
 if f<z then ck (aS5 g ([q]:List Nat)) (ck (I64 (f+(1:Int))) (some (.inl ((dC g ([q]:List Nat)),(f+(1:Int)))))) else some (.inr g)
def uU(F:Md)(g:Nat)(f:Int):Option qd :=
 (dE F (fun d:qd×Int=>tG F f g d.1 d.2) (([1]:List Nat),(0:Int))).bind (fun e=>some e)
def aPB:PlR:=⟨[(0,.stop),(1,.stop),(2,.stop),(3,.stop),(4,.stop),(5,.stop),(6,.stop)],[],[]⟩
def aSM:Ty:=.pair qw qm
def aAy(F:Md):aF:=mSpec aSM (.one wi) (fun x=>uU F x.1 x.2.1)
abbrev aSN(F:Md):List (FuncId×aF):=[(105,iY)]
theorem bBM[Mx](F:Md):bF Tryz.prog GL (aSN F):=.cons aAs xP (.nil)
attribute [go_sem] aSM aPB
theorem aPC[Mx](F:Md):FOK Tryz.prog GL 107 (aAy F):=by
 refine bQ (aZ (bBM F)) mix Tryz.func107 rfl xP xAa aPB (fun w0 S x Θ N h hV=>?_);obtain⟨(q:Nat),(f:Int),u⟩:=x;simp only[cA,go_sem];replace h:sat (uU F q f) _:=h;unfold uU at h;refine vI hV [0,1] (yaA ?_);refine vI hV [0,1,5] (yaA ?_);refine vI hV [0,5,7,8] (yaA ?_);refine bP hV (D:=qd×Int) [0,7] (fun d=>[(5,.val wi d.1),(8,.val qg d.2)]) (fun d=>[]) h rfl xAb ?_;rintro⟨J,g⟩ L T3 z I h;simp only[go_sem];replace h:sat (tG F f q J g) _:=h;unfold tG at h;refine vI hV [0,5,7,8,9] (yaA ?_);refine dS h (fun hc h=>?_) fun hc h=>?_
 ·refine vI hV [0,5,7,8] (yaA ?_);refine aK h fun g0 h=>?_;refine vI hV [0,5,7,8] (yaA ?_);refine aK h fun g0 h=>?_;replace h:=z _ (aA h);exact zaI
 ·replace h:=yaG (I _ (aA h));refine vI hV [4] (yaA ?_);exact zaD
attribute [go_sem] aAy
def qZ(F:Md)(g:qd)(q:qd)(f:Int):Option ((qd×Int)⊕qd) :=
 if f<(g.length:Int) then ck (0≤f∧f<(g.length:Int)) (ck (aS5 q ([10]:List Nat)) (ck (pSz ([(wU F .u8 (g.getD (f.toNat) (0:Nat)) (48:Nat))]:List Nat)) (ck (aS5 (dC q ([10]:List Nat)) (qX ([(wU F .u8 (g.getD (f.toNat) (0:Nat)) (48:Nat))]:List Nat))) (ck (I64 (f+(1:Int))) (some (.inl ((aDG (dC q ([10]:List Nat)) (qX ([(wU F .u8 (g.getD (f.toNat) (0:Nat)) (48:Nat))]:List Nat))),(f+(1:Int))))))))) else some (.inr q)
def xH(F:Md)(f:qd):Option qd :=
 (dE F (fun d:qd×Int=>qZ F f d.1 d.2) (([]:List Nat),(0:Int))).bind (fun e=>some e)
def aNf:PlR:=⟨[(0,.stop),(1,.stop),(2,.stop),(3,.stop),(4,.stop),(5,.stop),(6,.stop),(7,.stop)],[],[]⟩
def aPD:Ty:=.pair .str .unit
def yQ(F:Md):aF:=mSpec aPD (.one wi) (fun x=>xH F x.1)
abbrev aFD(F:Md):List (FuncId×aF):=[(105,iY),(152,aHa),(153,aB3)]
theorem aZF[Mx](F:Md):bF Tryz.prog GL (aFD F):=.cons aAs xP (.cons bBy xP (.cons aSx xP (.nil)))
attribute [go_sem] aPD aNf
theorem aNg[Mx](F:Md):FOK Tryz.prog GL 106 (yQ F):=by
 refine bQ (aZ (aZF F)) mix Tryz.func106 rfl xP xAa aNf (fun w0 S x Θ L h hV=>?_);obtain⟨(g:qd),u⟩:=x;simp only[cA,go_sem];replace h:sat (xH F g) _:=h;unfold xH at h;refine vI hV [0] ?_;simp only[go_sem,bJ F,bK F,bL F];refine vI hV [0,3] ?_;simp only[go_sem,bJ F,bK F,bL F];refine vI hV [3,7,8,9] ?_;simp only[go_sem,bJ F,bK F,bL F];refine bP hV (D:=qd×Int) [7,8] (fun d=>[(3,.val wi d.1),(9,.val qg d.2)]) (fun d=>[]) h rfl xAd ?_;rintro⟨I,f⟩ J T3 q z h;simp only[go_sem,bJ F,bK F,bL F];replace h:sat (qZ F g I f) _:=h;unfold qZ at h;refine vI hV [3,7,8,9,10] ?_;simp only[go_sem,bJ F,bK F,bL F];refine dS h (fun hc h=>?_) fun hc h=>?_
 ·refine vI hV [3,5,7,8,9] ?_;simp only[go_sem,bJ F,bK F,bL F];refine aD h fun g0 h=>(yaD ?_);refine vI hV [3,7,8,9] ?_;simp only[go_sem,bJ F,bK F,bL F];refine aD h fun g0 h=>?_;refine aD h fun g1 h=>?_;refine aD h fun N h=>(yaD ?_);refine vI hV [3,7,8,9] ?_;simp only[go_sem,bJ F,bK F,bL F];refine aD h fun g0 h=>?_;try simp only[I64,I32] at g0
  repeat (refine⟨zAB,?_⟩)
  replace h:=q _ (aA h);exact zak
 ·replace h:=yaG (z _ (aA h));refine vI hV [2] ?_;simp only[go_sem,bJ F,bK F,bL F];exact aG hV [.tmp 2] rfl rfl rfl (aA h) xAe
attribute [go_sem] yQ
def tH(F:Md)(f:qd):Option Bool :=
 (sK F f).bind (fun v_5=>some v_5.2.2.1)
def aSO:PlR:=⟨[(0,.A [0]),(1,.A [5]),(2,.A [2])],[],[]⟩
def aVR:Ty:=.pair .str .unit
def wZ(F:Md):aF:=mSpec aVR (.one .bool) (fun x=>tH F x.1)
abbrev aVS(F:Md):List (FuncId×aF):=[(103,(pT F))]
theorem bDe[Mx](F:Md):bF Tryz.prog GL (aVS F):=.cons (aGq F) xP (.nil)
attribute [go_sem] aVR aSO
theorem aLx[Mx](F:Md):FOK Tryz.prog GL 100 (wZ F):=by
 refine bQ (aZ (bDe F)) mix Tryz.func100 rfl xP xAa aSO (fun w0 S x Θ g h hV=>?_);obtain⟨(f:qd),u⟩:=x;simp only[cA,go_sem];replace h:sat (tH F f) _:=h;unfold tH at h;exact zan
attribute [go_sem] wZ
def aCg(F:Md)(q:qd):Option (qd×(qd×ve)) :=
 (sK F q).bind (fun v_5=>if ¬(v_5.2.2.1=true) then some (([]:List Nat),([]:List Nat),false,()) else (xH F v_5.1).bind (fun f=>(uU F (10:Nat) (max v_5.2.1 (0:Int))).bind (fun g=>ck (aS5 f g) (ck (I64 (0-v_5.2.1)) ((uU F (10:Nat) (max (0-v_5.2.1) (0:Int))).bind (fun v_17=>some ((dC f g),v_17,true,())))))))
def aPE:PlR:=⟨[(0,.A [0]),(1,.A [5,6,7]),(2,.A [5,6,15]),(3,.A [2,3,4]),(4,.A [2,3,4])],[],[]⟩
def aSP:Ty:=.pair .str .unit
def aFE(F:Md):aF:=mSpec aSP (.tup (.pair wi (.pair wi vl))) (fun x=>aCg F x.1)
abbrev aEs(F:Md):List (FuncId×aF):=[(103,(pT F)),(105,iY),(106,(yQ F)),(107,(aAy F))]
theorem bBN[Mx](F:Md):bF Tryz.prog GL (aEs F):=.cons (aGq F) xP (.cons aAs xP (.cons (aNg F) xP (.cons (aPC F) xP (.nil))))
attribute [go_sem] aSP aPE
theorem aZG[Mx](F:Md):FOK Tryz.prog GL 162 (aFE F):=by
 refine bQ (aZ (bBN F)) mix Tryz.func162 rfl xP xAa aPE (fun w0 S x Θ z h hV=>?_);obtain⟨(f:qd),u⟩:=x;simp only[cA,go_sem];replace h:sat (aCg F f) _:=h;unfold aCg at h;refine aB h fun v_5 hv h=>?_;try simp only[hv,go_sem]
 refine zT h (fun hc h=>?_) fun hc h=>?_
 ·exact aG hV [.tmp 2,.tmp 3,.tmp 4] rfl rfl rfl (aA h) xAc
 ·refine aB h fun g hv h=>?_;try simp only[hv,go_sem]
  refine aB h fun q hv h=>?_;try simp only[hv,go_sem]
  refine aK h fun g0 h=>aK h fun g1 h=>?_;refine aB h fun v_17 hv h=>?_;try simp only[hv,go_sem]
  exact zam
attribute [go_sem] aFE
def aAe(F:Md)(z:qd):Option (qx×qp) :=
 (sK F z).bind (fun v_5=>if ¬(v_5.2.2.1=true) then some ((false,([]:List Nat),(0:Int),()),(6:Int),()) else (xH F v_5.1).bind (fun f=>(uU F (5:Nat) (max v_5.2.1 (0:Int))).bind (fun g=>ck (aS5 f g) (ck (I64 (0-v_5.2.1)) ((uU F (5:Nat) (max (0-v_5.2.1) (0:Int))).bind (fun v_17=>ck (aJa (dC f g) v_17) ((aAc F false (rP (dC f g) v_17).1 v_5.2.1).bind (fun q=>if ((0:Int)<(((rP (dC f g) v_17).2.1.length:Nat):Int))∨(¬(q.2.1=(0:Int))) then some ((false,([]:List Nat),(0:Int),()),(6:Int),()) else some (q.1,(0:Int),())))))))))
def aPF:PlR:=⟨[(0,.B [0,2]),(1,.A [2,4,5,6]),(2,.A [2,4,5,18]),(3,.B [2,3]),(4,.A [2,5,7,8]),(5,.B [2,8,9,10]),(6,.A [2,9,46]),(7,.B [2,3]),(8,.B [2,3])],[],[]⟩
def aSQ:Ty:=.pair .str .unit
def aFF(F:Md):aF:=mSpec aSQ (.tup (.pair qq qm)) (fun x=>aAe F x.1)
abbrev aAf(F:Md):List (FuncId×aF):=[(103,(pT F)),(104,aDW),(105,iY),(106,(yQ F)),(107,(aAy F)),(108,(aB6 F))]
theorem bBO[Mx](F:Md):bF Tryz.prog GL (aAf F):=.cons (aGq F) xP (.cons aW7 xP (.cons aAs xP (.cons (aNg F) xP (.cons (aPC F) xP (.cons (aSE F) xP (.nil))))))
attribute [go_sem] aSQ aPF
theorem aZH[Mx](F:Md):FOK Tryz.prog GL 59 (aFF F):=by
 refine bQ (aZ (bBO F)) mix Tryz.func59 rfl xP xAa aPF (fun w0 S x Θ I h hV=>?_);obtain⟨(f:qd),u⟩:=x;simp only[cA,go_sem];replace h:sat (aAe F f) _:=h;unfold aAe at h;refine aB h fun v_5 hv h=>?_;try simp only[hv,go_sem]
 refine zT h (fun hc h=>?_) fun hc h=>?_
 ·exact aG hV [.cell 2 119,.tmp 3] rfl rfl rfl (aA h) xAc
 ·refine aB h fun g hv h=>?_;try simp only[hv,go_sem]
  refine aB h fun q hv h=>?_;try simp only[hv,go_sem]
  refine aK h fun g0 h=>aK h fun g1 h=>?_;refine aB h fun v_17 hv h=>?_;try simp only[hv,go_sem]
  refine aK h fun g0 h=>?_;refine aB h fun z hv h=>?_;try simp only[hv,go_sem]
  refine⟨fun hc=>?_,fun hc=>?_⟩
  ·replace h:=fQ hc h;exact aG hV [.cell 2 119,.tmp 3] rfl rfl rfl (aA h) xAc
  ·replace h:=fR hc h;exact aG hV [.cell 2 119,.tmp 3] rfl rfl rfl (aA h) xAc
attribute [go_sem] aFF
def lW(F:Md)(g:qx)(z:qx)(q:Int):Option Bool :=
 (aFY F q (0:Int)).bind (fun v_5=>(aDH F z v_5.1).bind (fun f=>ck ((f.2.1=(0:Int))→((aAd F g f.1).isSome=true)) (some ((decide (f.2.1=(0:Int)))&&(decide (((aAd F g f.1).getD (0:Int))≤(0:Int)))))))
def aNh:PlR:=⟨[(0,.B [2,3,4]),(1,.B [3,4,7]),(2,.B [3,9,10]),(3,.A [6])],[],[]⟩
def aPG:Ty:=.pair qq (.pair qq qm)
def aDY(F:Md):aF:=mSpec aPG (.one .bool) (fun x=>lW F x.1 x.2.1 x.2.2.1)
abbrev aFG(F:Md):List (FuncId×aF):=[(111,(aJq F)),(112,(aHd F)),(61,(aB8 F))]
theorem aZI[Mx](F:Md):bF Tryz.prog GL (aFG F):=.cons (bDc F) xP (.cons (bBL F) xP (.cons (aSK F) xP (.nil)))
attribute [go_sem] aPG aNh
theorem aXe[Mx](F:Md):FOK Tryz.prog GL 62 (aDY F):=by
 refine bQ (aZ (aZI F)) mix Tryz.func62 rfl xP xAa aNh (fun w0 S x Θ I h hV=>?_);obtain⟨(f:qx),(q:qx),(g:Int),u⟩:=x;simp only[cA,go_sem];replace h:sat (lW F f q g) _:=h;unfold lW at h;refine aB h fun v_5 hv h=>?_;try simp only[hv,go_sem]
 refine aB h fun z hv h=>?_;try simp only[hv,go_sem]
 refine aK h fun g0 h=>?_;exact aG hV [.tmp 6] rfl rfl rfl (aA h) xAc
attribute [go_sem] aDY
section
open Go.Shelf Go.RowKit Go.Lib
theorem bHT(n:Nat)(w:World)(J:n≤1073741824) :
  Calls Tryz.prog 113 #[.slice none 0 0,.int .i64 n] w fun e w'=>(n=0∧e= .returned (.slice none 0 0)∧w'=w) ∨
   (0<n∧e= .returned (.slice (some ⟨w.heap.size,0,none⟩) 0 (grownCap w n 0 9))∧w'=w.drew.alloc (.cells (Builtin.zeroCells #[Value.string ⟨#[]⟩] n++Builtin.zeroCells #[Value.string ⟨#[]⟩] (grownCap w n 0 9-n)) 9)):=by
 have O:¬((n:Int)<0):=by omega
 have L:wrap64 ((n:Int)-wrap64 (0-0))=(n:Int):=by unfold wrap64; omega
 have I:wrap64 (n:Int)=(n:Int):=by unfold wrap64; omega
 obtain⟨i,hi,q,hs,hb⟩:∃i,Tryz.prog.info? 9=some i∧i.zero=some (.string ⟨#[]⟩)∧i.size=1∧i.bytes=16:=⟨_,rfl,rfl,rfl,rfl⟩
 go_enter Tryz.func113,Tryz.ntmps113
 rcases Nat.eq_zero_or_pos n with rfl|hp
 ·go_wp2
  go_ret
  exact⟨rfl,rfl⟩
 ·have N:(n:Int)>0:=by omega
  have g:∀ty,(Builtin.append_ #[22,3] ty #[.slice none 0 0,.int .i64 (n:Int)]).run Tryz.prog w= .ok (.slice (some ⟨w.heap.size,0,none⟩) n (grownCap w n 0 9)) (w.drew.alloc (.cells (Builtin.zeroCells #[Value.string ⟨#[]⟩] n++Builtin.zeroCells #[Value.string ⟨#[]⟩] (grownCap w n 0 9-n)) 9)) :=
   fun ty=>Lib.run_append_nil_zeros w 22 3 ty 9 i (.string ⟨#[]⟩) .i64 .i64 rfl rfl hi q n hp (by omega) (by omega) (by rw[hb]; omega)
  have z:=grownCap_ge w n 0 9;have f:=grownCap_le_maxLen w n 0 9 (by unfold maxLen; omega);unfold maxLen at f;generalize grownCap w n 0 9=G at *
  go_wp2_with (at_builtin; refine Lib.wpList_append_run _ rfl _ _ _ _ rfl _ _ rfl rfl _ _ (g _) ?_)
  go_ret
  exact .inr ⟨rfl,rfl⟩
end
def mP(F:Md)(n:Int):Option q8:=ck (0≤n∧n≤1073741824) (some [])
@[go_sem]def lK(F:Md):fH where
 D:=Int×q8
 av:=fun d=>[.nilS,.val qg d.1]
 hp:=fun d=>[]
 m:=0
 pre:=fun d=>mP F d.1=some d.2
 out:=fun d=>(fun r:q8=>.ret (.own 0) [.row 9 .str (r)]) d.2
@[go_sem]def aDm(F:Md)(vs:List AV)(h:List Vc.Obj):Hit:=mkH (mP F (qT h vs 1 qg)) ([]:List qd) fun r=>⟨(lK F),[],((qT h vs 1 qg),r)⟩
theorem bBP{F:Md}{c:Ctx}{w w':World}{d:(lK F).D}(hd:d.2= [])(good:Go.Vc.Good (GM (lK F) c d) w c [] w)(g:iL nothing w w')(v:Value)(hv:∃a n m,v= .slice a n m)(f:w'.ownsRow 0 9 1 v 0 [])(hb:∀b,aU v=some b→w.heap.size≤b∧b<w'.heap.size) :
  aNT (lK F) c w d (.returned v) w':=by
 have e1:(c.push v).hd c.n=v:=by simp[Ctx.push]
 have h0:c.n=0:=good.n;have:=good.push g (o:=.row 9 .str []) (hv:=v) (by
  show aCr _ _ _ _ _ _;rw[e1];exact⟨[],f,⟨rfl,[],rfl,rfl,fun i h=>by simp at h⟩⟩) (fun b h=>hb b (by simpa [fA,e1] using h))
 refine⟨c.push v,?_⟩;show ∃u,_∧Go.Vc.Good _ _ _ [.row 9 .str d.2] _∧aX _ _ (.own 0) u;rw[hd];refine⟨v,rfl,this.1,?_⟩;have:=aF7 (c:=c) (v':=v) hv (w':=w') (S':=c.S);rw[h0] at this;exact this
theorem aKv[Mx](F:Md):GOK Tryz.prog GL 113 (lK F):=by
 rintro c w ⟨n,r⟩ J g ⟨good,glob,len,val⟩;have g:mP F n=some r:=g;unfold mP at g;obtain⟨⟨h1,h2⟩,g⟩:=bD g;have Z:[]=r:=Option.some.inj g;have L:=val 0 (by show 0<2; decide) (by rw[len]; show 0<2; decide);have N:=val 1 (by show 1<2; decide) (by rw[len]; show 1<2; decide);have e0:J.toList[0]'(by rw[len]; show 0<2; decide)= .slice none 0 0:=by
  obtain⟨q,_,I⟩:=L;have I:=I rfl;revert q I;generalize J.toList[0]'(by rw[len]; show 0<2; decide)=Y;intro q I;have q:Y.cells.toList= [.slice none 0 0]:=q;cases Y<;>simp[Value.cells] at q I<;>simp[q]
 obtain⟨e1,_,_⟩:=aHX (k:=.i64) (n:=n) N;have U:J= #[.slice none 0 0,.int .i64 (n.toNat:Int)]:=by
  have z:J.toList.length=2:=len;rw[← Array.toList_inj];apply List.ext_getElem
  ·exact z
  ·intro i a1 a2
   match i,a2 with
   | 0,_=>exact e0
   | 1,_=>show _=Value.int .i64 (n.toNat:Int); rw[Int.toNat_of_nonneg h1]; exact e1
 rw[U];refine Calls.mono (f:=113) (bHT n.toNat w (by omega)) ?_;rintro e w' (⟨_,rfl,rfl⟩|⟨hp,rfl,rfl⟩)
 ·exact bBP (d:=(n,r)) Z.symm good (.refl nothing _) _ ⟨_,_,_,rfl⟩ ⟨rfl,.inl ⟨rfl,rfl⟩⟩ (fun b h=>by simp[aU] at h)
 ·have hG:=grownCap_ge w n.toNat 0 9;have O:=grownCap_le_maxLen w n.toNat 0 9 (by unfold maxLen; omega);have hk:∀o,iL nothing w (w.drew.alloc o):=fun o=>have k:=iL.alloc nothing w.drew o; ⟨rfl,rfl,rfl,k.size,k.block⟩;refine bBP (d:=(n,r)) Z.symm good (hk _) _ ⟨_,_,_,rfl⟩ ⟨rfl,.inr ⟨w.heap.size,_,Builtin.zeroCells #[Value.string ⟨#[]⟩] n.toNat++Builtin.zeroCells #[Value.string ⟨#[]⟩] (grownCap w n.toNat 0 9-n.toNat),rfl,Nat.zero_le _,?_,Nat.zero_le _,O,?_,rfl⟩⟩ ?_
  ·show (w.heap.push _)[w.heap.size]? = _;simp
  ·simp[Builtin.zeroCells];omega
  ·intro b h;simp only[aU,Option.some.injEq] at h;subst h;refine⟨Nat.le_refl _,?_⟩;show w.heap.size<(w.heap.push _).size;simp
def pA(F:Md)(f:(List qx)):Option (Bool) :=
 ck ((2:Int)<(f.length:Int)) (ck ((1:Int)<(f.length:Int)) ((aAd F (f.getD (2:Nat) (false,[],0,())) (f.getD (1:Nat) (false,[],0,()))).bind (fun g=>ck ((g≤(0:Int))→((0:Int)<(f.length:Int))) (ck ((g≤(0:Int))→((1:Int)<(f.length:Int))) (ck ((g≤(0:Int))→((lW F (f.getD (0:Nat) (false,[],0,())) (f.getD (1:Nat) (false,[],0,())) (256:Int)).isSome=true)) (ck (((g≤(0:Int))∧(((lW F (f.getD (0:Nat) (false,[],0,())) (f.getD (1:Nat) (false,[],0,())) (256:Int)).getD false)=true))→((1:Int)<(f.length:Int))) (ck (((g≤(0:Int))∧(((lW F (f.getD (0:Nat) (false,[],0,())) (f.getD (1:Nat) (false,[],0,())) (256:Int)).getD false)=true))→((2:Int)<(f.length:Int))) (ck (((g≤(0:Int))∧(((lW F (f.getD (0:Nat) (false,[],0,())) (f.getD (1:Nat) (false,[],0,())) (256:Int)).getD false)=true))→((lW F (f.getD (1:Nat) (false,[],0,())) (f.getD (2:Nat) (false,[],0,())) (4096:Int)).isSome=true)) (some (((decide (g≤(0:Int)))&&((lW F (f.getD (0:Nat) (false,[],0,())) (f.getD (1:Nat) (false,[],0,())) (256:Int)).getD false))&&((lW F (f.getD (1:Nat) (false,[],0,())) (f.getD (2:Nat) (false,[],0,())) (4096:Int)).getD false)))))))))))
def tI(F:Md)(z:qf)(f:Int)(q:(List qx)):Option ((Int×(List qx))⊕((List qx)⊕Bool)) :=
 if f<(4:Int) then ck (0≤f∧f<(4:Int)) ((aAe F (([z.2.2.2.2.1,z.2.2.2.2.2.1,z.2.2.2.2.2.2.1,z.2.2.2.2.2.2.2.1]:List qd).getD (f.toNat) ([]:List Nat))).bind (fun g=>ck (¬(¬(g.2.1=(0:Int)))→((uS F g.1).isSome=true)) (if (¬(g.2.1=(0:Int)))∨(((uS F g.1).getD (0:Int))≤(0:Int)) then some (.inr (.inr false)) else ck (((q.length)+(1:Nat))*73≤140737488355328) (ck (I64 (f+(1:Int))) (some (.inl ((f+(1:Int)),(q++([g.1]:List qx))))))))) else some (.inr (.inl q))
def uL(F:Md)(f:qf):Option Bool :=
 if ((((((f.1<(8:Int))∨((200:Int)<f.1))∨(f.2.1<(1:Int)))∨((20:Int)<f.2.1))∨(f.2.2.1<(0:Int)))∨((3:Int)<f.2.2.1))∨((¬(f.2.2.2.1=(1:Int)))∧(¬(f.2.2.2.1=(2:Int)))) then some false else (dE F (fun d:Int×(List qx)=>tI F f d.1 d.2) ((0:Int),([]:List qx))).bind (fun e=>match e with|(.inl e)=>pA F e|(.inr e)=>some e)
def aIk:PlR:=⟨[(0,.B [1]),(1,.A [1,45]),(2,.A [2]),(3,.A [1,3]),(4,.A [3,54,55,56]),(5,.A [3,54,55,56,57]),(6,.A [3,5,54,55,56]),(7,.B [3,6,7,54,55,56]),(8,.A [3,6,54,55,56,71]),(9,.A [2]),(10,.B [3,54,55,56]),(11,.A [3,54,55,56]),(12,.A [2])],[(7,15)],[]⟩
def aJ4:Ty:=.pair qe .unit
def aAz(F:Md):aF:=mSpec aJ4 (.one .bool) (fun x=>uL F x.1)
abbrev yC(F:Md):List (FuncId×aF):=[(59,(aFF F)),(60,(aAv F)),(61,(aB8 F)),(62,(aDY F))]
theorem aTB[Mx](F:Md):bF Tryz.prog GL (yC F):=.cons (aZH F) xP (.cons (aPp F) xP (.cons (aSK F) xP (.cons (aXe F) xP (.nil))))
attribute [go_sem] aJ4 aIk
theorem aRv[Mx](F:Md):FOK Tryz.prog GL 23 (aAz F):=by
 refine bQ (aZ (aTB F)) mix Tryz.func23 rfl xP xAa aIk (fun w0 S x Θ hw h hV=>?_);obtain⟨(f:qf),u⟩:=x;simp only[cA,go_sem];replace h:sat (uL F f) _:=h;unfold uL at h;refine⟨fun hc=>?_,fun hc=>?_⟩
 ·replace h:=fQ hc h;exact zaE
 ·replace h:=fR hc h;refine dB hV (D:=(List qx)) (fun d=>sat (pA F d) Θ) [] (fun d=>[(3,.own 0)]) (fun d=>[.inr (.row 119 qq d)]) ?_ ?_
  ·simp only[go_sem];refine aGa 3 119 qq rfl (yaA ?_);refine aDQ [1] rfl rfl (yaA ?_);refine bP hV (D:=Int×(List qx)) [55] (fun d=>[(3,.own 0),(54,.val wo ([f.2.2.2.2.1,f.2.2.2.2.2.1,f.2.2.2.2.2.2.1,f.2.2.2.2.2.2.2.1]:List qd)),(56,.val qg d.1)]) (fun d=>[.inr (.row 119 qq d.2)]) h rfl (by (try simp only[wT,eU,true_or,and_self,go_sem])<;>(repeat' apply And.intro)<;>first|rfl|(left; rfl)|(right; rfl)|(left; simp only[go_sem]; done)|(right; simp only[go_sem]; done)|(simp; done)|(simp only[*]; done)|omega) ?_;rintro⟨g,q⟩ A5 T5 J z h;simp only[go_sem];replace h:sat (tI F f g q) _:=h;unfold tI at h;refine dS h (fun hc h=>?_) fun hc h=>?_
   ·refine aD h fun g0 h=>(yaD ?_);refine aB h fun N hv h=>?_;(try simp only[hv,go_sem]);refine aD h fun g0 h=>?_;(repeat (refine⟨zAF,?_⟩));refine⟨fun hc=>?_,fun hc=>?_⟩
    ·replace h:=fQ zAC h;replace h:=yaG (z _ (aA h));exact zaE
    ·replace h:=fR zAC h;refine aD h fun g0 h=>(yaD ?_);refine aD h fun g0 h=>?_;(try simp only[I64,I32] at g0);(repeat (refine⟨zAB,?_⟩));replace h:=J _ (aA h);refine fU [2] rfl rfl (yaA ?_);exact zaI
   ·replace h:=yaG (z _ (aA h));exact aT (q) h rfl xAb
  ·rintro I h;simp only[go_sem];replace h:sat (pA F I) _:=h;unfold pA at h;refine aD h fun g0 h=>?_;refine aD h fun g1 h=>(yaD ?_);refine aB h fun L hv h=>?_;(try simp only[hv,go_sem]);refine aD h fun g0 h=>?_;refine aD h fun g1 h=>?_;refine aD h fun Z h=>?_;refine aD h fun O h=>?_;refine aD h fun U h=>?_;refine aD h fun Y h=>?_;(repeat (refine⟨by first|with_reducible assumption|omega|(intros; first|with_reducible assumption|omega)|(intro _; exact⟨rfl,by decide⟩)|(intro _; refine(?_:_=aI _); rfl)|(refine(?_:_=aI _); rfl)|exact⟨rfl,rfl⟩|(intro q0; (try have e0:=g0 (by first|exact q0|omega|(simpa using q0))); (try have e1:=g1 (by first|exact q0|omega|(simpa using q0))); (try have e2:=Z (by first|exact q0|omega|(simpa using q0))); (try have e3:=O (by first|exact q0|omega|(simpa using q0))); (try have e4:=U (by first|exact q0|omega|(simpa using q0))); (try have e5:=Y (by first|exact q0|omega|(simpa using q0))); first|assumption|omega)|decide,?_⟩));exact zaE
attribute [go_sem] aAz
def aAA(F:Md)(g:q8)(q:qc)(f:q8):Option (q8×(q8×vi)) :=
 some (g,f,q.2.2.2.1,())
def pB(F:Md)(q:qc)(f:Int)(g:q8):Option ((Int×q8)⊕q8) :=
 if f<(q.2.2.1.length:Int) then ck (0≤f∧f<(q.2.2.1.length:Int)) (ck (((g.length)+(1:Nat))*16≤140737488355328) (ck (I64 (f+(1:Int))) (some (.inl ((f+(1:Int)),(g++([(q.2.2.1.getD (f.toNat) ([],([],[],()),())).1]:List qd))))))) else some (.inr g)
def wF(F:Md)(f:qc)(g:q8):Option (q8×(q8×vi)) :=
 (dE F (fun d:Int×q8=>pB F f d.1 d.2) ((0:Int),([]:List qd))).bind (fun e=>aAA F g f e)
def pC(F:Md)(q:qc)(f:Int)(g:q8):Option ((Int×q8)⊕q8) :=
 if f<(q.2.1.length:Int) then ck (0≤f∧f<(q.2.1.length:Int)) (ck (((g.length)+(1:Nat))*16≤140737488355328) (ck (I64 (f+(1:Int))) (some (.inl ((f+(1:Int)),(g++([(q.2.1.getD (f.toNat) ([],([],[],()),(Ex.mk 0 [] []),())).1]:List qd))))))) else some (.inr g)
def bH(F:Md)(f:qc):Option (q8×(q8×vi)) :=
 (dE F (fun d:Int×q8=>pC F f d.1 d.2) ((0:Int),([]:List qd))).bind (fun e=>wF F f e)
def aLy:PlR:=⟨[(0,.B [1,2,3]),(1,.A [1,2,3,10,11,12]),(2,.A [1,2,3,10,11,12,13]),(3,.B [1,2,3,6,10,11,12]),(4,.B [1,2,3,10,11,12]),(5,.A [1,2,3,10,11,12]),(6,.A [1,2,3,23,24,25]),(7,.A [1,2,3,23,24,25,26]),(8,.B [1,2,3,8,23,24,25]),(9,.B [1,2,3,23,24,25]),(10,.A [1,2,3,23,24,25]),(11,.A [2,3,4])],[(4,9),(9,14)],[]⟩
def aNi:Ty:=.pair qa .unit
def aCP(F:Md):aF:=mSpec aNi (.tup (.pair wo (.pair wo (.pair wo .unit)))) (fun x=>bH F x.1)
abbrev aXf(F:Md):List (FuncId×aF):=[]
theorem aXg[Mx](F:Md):bF Tryz.prog GL (aXf F):=.nil
attribute [go_sem] aNi aLy
theorem aVU[Mx](F:Md):FOK Tryz.prog GL 63 (aCP F):=by
 refine bQ (aZ (aXg F)) mix Tryz.func63 rfl xP xAa aLy (fun w0 S x Θ Y h hV=>?_);obtain⟨(f:qc),u⟩:=x;simp only[cA,go_sem];replace h:sat (bH F f) _:=h;unfold bH at h;refine dB hV (D:=q8) (fun d=>sat (wF F f d) Θ) [3] (fun d=>[(1,.ptr 0 []),(2,.own 1)]) (fun d=>[.inr (.box 5 (.val qa f)),.inr (.row 9 .str d)]) ?_ ?_
 ·simp only[go_sem];refine aGa 2 9 .str rfl (yaA ?_);refine bP hV (D:=Int×q8) [3,10,11] (fun d=>[(1,.ptr 0 []),(2,.own 1),(12,.val qg d.1)]) (fun d=>[.inr (.box 5 (.val qa f)),.inr (.row 9 .str d.2)]) h rfl xAb ?_;rintro⟨q,J⟩ A2 T2 hA2 hE2 h;simp only[go_sem];replace h:sat (pC F f q J) _:=h;unfold pC at h;refine dS h (fun hc h=>?_) fun hc h=>?_
  ·refine aD h fun g0 h=>(yaC ?_);refine aD h fun g0 h=>(yaC ?_);refine aK h fun g0 h=>?_;replace h:=hA2 _ (aA h);refine fU [0,3] rfl rfl (yaA ?_);exact zaI
  ·replace h:=yaG (hE2 _ (aA h));exact aT (J) h rfl xAb
 ·rintro g h;simp only[go_sem];replace h:sat (wF F f g) _:=h;unfold wF at h;refine dB hV (D:=q8) (fun d=>sat (aAA F g f d) Θ) [] (fun d=>[(1,.ptr 0 []),(2,.own 1),(3,.own 2)]) (fun d=>[.inr (.box 5 (.val qa f)),.inr (.row 9 .str g),.inr (.row 9 .str d)]) ?_ ?_
  ·simp only[go_sem];refine aGa 3 9 .str rfl (yaA ?_);refine bP hV (D:=Int×q8) [23,24] (fun d=>[(1,.ptr 0 []),(2,.own 1),(3,.own 2),(25,.val qg d.1)]) (fun d=>[.inr (.box 5 (.val qa f)),.inr (.row 9 .str g),.inr (.row 9 .str d.2)]) h rfl xAb ?_;rintro⟨z,I⟩ U Z O N h;simp only[go_sem];replace h:sat (pB F f z I) _:=h;unfold pB at h;refine dS h (fun hc h=>?_) fun hc h=>?_
   ·refine aD h fun g0 h=>(yaC ?_);refine aD h fun g0 h=>(yaC ?_);refine aK h fun g0 h=>?_;replace h:=O _ (aA h);refine fU [0,1,4] rfl rfl (yaA ?_);exact zaI
   ·replace h:=yaG (N _ (aA h));exact aT (I) h rfl xAb
  ·rintro L h;simp only[go_sem];replace h:sat (aAA F g f L) _:=h;unfold aAA at h;exact zam
attribute [go_sem] aCP
def gQ(F:Md)(slices_0:(List q8))(f:Int)(newslice_14:q8):Option ((Int×q8)⊕q8) :=
 if f<(slices_0.length:Int) then ck (0≤f∧f<(slices_0.length:Int)) (ck (((newslice_14.length)+(slices_0.getD (f.toNat) ([]:List qd)).length)*16≤140737488355328) (ck (I64 (f+(1:Int))) (some (.inl ((f+(1:Int)),(newslice_14++(slices_0.getD (f.toNat) ([]:List qd)))))))) else some (.inr newslice_14)
def kT(F:Md)(slices_0:(List q8))(f:Int):Option q8 :=
 (mP F f).bind (fun g=>(dE F (fun d:Int×q8=>gQ F slices_0 d.1 d.2) ((0:Int),g)).bind (fun e=>some e))
def kU(F:Md)(slices_0:(List q8))(g:Int)(f:Int):Option (ww⊕(Int)) :=
 if f<(slices_0.length:Int) then ck (0≤f∧f<(slices_0.length:Int)) (ck (I64 (g+(((slices_0.getD (f.toNat) ([]:List qd)).length:Nat):Int))) (if (g+(((slices_0.getD (f.toNat) ([]:List qd)).length:Nat):Int))<(0:Int) then none else ck (I64 (f+(1:Int))) (some (.inl ((g+(((slices_0.getD (f.toNat) ([]:List qd)).length:Nat):Int)),(f+(1:Int))))))) else some (.inr g)
def cC(F:Md)(slices_0:(List q8)):Option q8 :=
 (dE F (fun d:Int×Int=>kU F slices_0 d.1 d.2) ((0:Int),(0:Int))).bind (fun e=>kT F slices_0 e)
def aCh(F:Md):PlR:=⟨[(0,.A [0]),(1,.A [0,3]),(2,.A [0,3,9,10,11]),(3,.A [0,3,9,10,11,12]),(4,.A [0,3,5,9,10,11]),(5,.A [0,3,9,10,11]),(6,.A [0,3,9,10,11,20]),(7,.P [0,3,9,10,11] []),(8,.A [0,3,9,10,11]),(9,.P [0,6] []),(10,.A [6,25,26,27]),(11,.A [6,25,26,27,28]),(12,.A [6,8,25,26,27]),(13,.B [6,25,26,27]),(14,.A [6,25,26,27]),(15,.A [2])],[(5,12)],[(113,aDm F)]⟩
def aCQ:Ty:=.pair (.sl wo) .unit
def qM(F:Md):aF:=mSpec aCQ (.one wo) (fun x=>cC F x.1)
abbrev aJx(F:Md):List (FuncId×aF):=[]
theorem aJy[Mx](F:Md):bF Tryz.prog GL (aJx F):=.nil
attribute [go_sem] aCQ aCh
theorem aIl[Mx](F:Md):FOK Tryz.prog GL 64 (qM F):=by
 refine bQ (aZ (aJy F)) mix Tryz.func64 rfl xP xAa (aCh F) (fun w0 S x Θ hw h hV=>?_) (.cons (fun _ _=>(aKv F)) xP (.nil));obtain⟨(slices_0:(List q8)),u⟩:=x;simp only[cA,go_sem];replace h:sat (cC F slices_0) _:=h;unfold cC at h;refine dB hV (D:=Int) (fun d=>sat (kT F slices_0 d) Θ) [0] (fun d=>[(3,.val qg d)]) (fun d=>[]) ?_ ?_
 ·simp only[go_sem];refine bP hV (D:=Int×Int) [0,9,10] (fun d=>[(3,.val qg d.1),(11,.val qg d.2)]) (fun d=>[]) h rfl xAb ?_;rintro⟨f,z⟩ Z T3 L N h;simp only[go_sem];replace h:sat (kU F slices_0 f z) _:=h;unfold kU at h;refine dS h (fun hc h=>?_) fun hc h=>?_
  ·refine aK h fun g0 h=>?_;refine aK h fun g0 h=>?_;refine dS h (fun hc h=>?_) fun hc h=>?_
   ·exact aCA h
   ·refine aK h fun g0 h=>?_;replace h:=L _ (aA h);exact zaI
  ·replace h:=yaG (N _ (aA h));exact aT (f) h rfl xAb
 ·rintro g h;simp only[go_sem];replace h:sat (kT F slices_0 g) _:=h;unfold kT at h;refine aB h fun O hv h=>?_;simp only[hv,go_sem];refine bP hV (D:=Int×q8) [25,26] (fun d=>[(6,.own 0),(27,.val qg d.1)]) (fun d=>[.inr (.row 9 .str d.2)]) h rfl xAb ?_;rintro⟨q,newslice_14⟩ U Y J I h;simp only[go_sem];replace h:sat (gQ F slices_0 q newslice_14) _:=h;unfold gQ at h;refine dS h (fun hc h=>?_) fun hc h=>?_
  ·refine aD h fun g0 h=>(yaC ?_);refine aD h fun g0 h=>(yaC ?_);refine aK h fun g0 h=>?_;replace h:=J _ (aA h);refine fU [1] rfl rfl (yaA ?_);exact zaI
  ·replace h:=yaG (I _ (aA h));exact zaE
attribute [go_sem] qM
def wG(F:Md)(q:q8)(f:Int)(g:(List (qd×Bool))):Option ((Int×(List (qd×Bool)))⊕((Unit)⊕Bool)) :=
 if f<(q.length:Int) then ck (0≤f∧f<(q.length:Int)) ((cR F (q.getD (f.toNat) ([]:List Nat))).bind (fun z=>if (¬(z=true))∨(((aAp .str g (q.getD (f.toNat) ([]:List Nat))).getD false)=true) then some (.inr (.inr false)) else ck (I64 (f+(1:Int))) (some (.inl ((f+(1:Int)),(aCw .str g (q.getD (f.toNat) ([]:List Nat)) true)))))) else some (.inr (.inl ()))
def sL(F:Md)(f:q8):Option Bool :=
 (dE F (fun d:Int×(List (qd×Bool))=>wG F f d.1 d.2) ((0:Int),([]:List (qd×Bool)))).bind (fun e=>match e with|(.inl e)=>some true|(.inr e)=>some e)
def aLz:PlR:=⟨[(0,.A [0]),(1,.B [0,3]),(2,.A [3,7,8,9]),(3,.A [3,7,8,9,10]),(4,.A [3,5,7,8,9]),(5,.A [3,5,7,8,9,20]),(6,.A [2]),(7,.B [3,7,8,9]),(8,.A [3,7,8,9]),(9,.A [2])],[],[]⟩
def aNj:Ty:=.pair wo .unit
def wH(F:Md):aF:=mSpec aNj (.one .bool) (fun x=>sL F x.1)
abbrev aNk(F:Md):List (FuncId×aF):=[(70,(sJ F))]
theorem aXh[Mx](F:Md):bF Tryz.prog GL (aNk F):=.cons (aHF F) xP (.nil)
attribute [go_sem] aNj aLz
theorem aLA[Mx](F:Md):FOK Tryz.prog GL 25 (wH F):=by
 refine bQ (aZ (aXh F)) mix Tryz.func25 rfl xP xAa aLz (fun w0 S x Θ N h hV=>?_);obtain⟨(z:q8),u⟩:=x;simp only[cA,go_sem];replace h:sat (sL F z) _:=h;unfold sL at h;refine bP hV (D:=Int×(List (qd×Bool))) [7,8] (fun d=>[(3,.mp 0),(9,.val qg d.1)]) (fun d=>[.inr (.map .str .bool d.2)]) h rfl xAb ?_;rintro⟨g,f⟩ L T3 I q h;simp only[go_sem];replace h:sat (wG F z g f) _:=h;unfold wG at h;refine dS h (fun hc h=>?_) fun hc h=>?_
 ·refine aK h fun g0 h=>?_;refine aB h fun J hv h=>?_;try simp only[hv,go_sem]
  refine⟨fun hc=>?_,fun hc=>?_⟩
  ·replace h:=fQ zAC h;replace h:=yaG (q _ (aA h));exact zaE
  ·replace h:=fR zAC h;refine aK h fun g0 h=>?_;replace h:=I _ (aA h);exact zaI
 ·replace h:=yaG (q _ (aA h));exact zaE
attribute [go_sem] wH
def gF(F:Md)(f:qd)(prefix_1:qd):Option Bool :=
 ck (((prefix_1.length:Int)≤(f.length:Int))→(0≤(prefix_1.length:Int)∧(prefix_1.length:Int)≤(f.length:Int))) (some ((decide ((prefix_1.length:Int)≤(f.length:Int)))&&(decide ((List.take (prefix_1.length) f)=prefix_1))))
def aAW:PlR:=⟨[(0,.A [0,1]),(1,.A [4])],[],[]⟩
def aBl:Ty:=.pair .str wq
def hO(F:Md):aF:=mSpec aBl (.one .bool) (fun x=>gF F x.1 x.2.1)
abbrev aHH(F:Md):List (FuncId×aF):=[]
theorem aHI[Mx](F:Md):bF Tryz.prog GL (aHH F):=.nil
attribute [go_sem] aBl aAW
theorem aAX[Mx](F:Md):FOK Tryz.prog GL 206 (hO F):=by
 refine bQ (aZ (aHI F)) mix Tryz.func206 rfl xP xAa aAW (fun w0 S x Θ g h hV=>?_);obtain⟨(f:qd),(prefix_1:qd),u⟩:=x;simp only[cA,go_sem];replace h:sat (gF F f prefix_1) _:=h;unfold gF at h;refine aK h fun g0 h=>?_;exact zaD
attribute [go_sem] hO
def lP(F:Md)(f:qd)(prefix_1:qd):Option (qd×ve) :=
 (gF F f prefix_1).bind (fun v_8=>if ¬(v_8=true) then some (f,false,()) else ck (0≤(prefix_1.length:Int)∧(prefix_1.length:Int)≤(f.length:Int)) (some ((List.drop (prefix_1.length) f),true,())))
def aAY:PlR:=⟨[(0,.A [0,1]),(1,.A [0,1,9]),(2,.A [4,5]),(3,.A [4,5])],[],[]⟩
def aBm:Ty:=.pair .str wq
def oK(F:Md):aF:=mSpec aBm (.tup (.pair .str vl)) (fun x=>lP F x.1 x.2.1)
abbrev aBn(F:Md):List (FuncId×aF):=[(206,(hO F))]
theorem aHJ[Mx](F:Md):bF Tryz.prog GL (aBn F):=.cons (aAX F) xP (.nil)
attribute [go_sem] aBm aAY
theorem aGQ[Mx](F:Md):FOK Tryz.prog GL 193 (oK F):=by
 refine bQ (aZ (aHJ F)) mix Tryz.func193 rfl xP xAa aAY (fun w0 S x Θ g h hV=>?_);obtain⟨(f:qd),(prefix_1:qd),u⟩:=x;simp only[cA,go_sem];replace h:sat (lP F f prefix_1) _:=h;unfold lP at h;refine aB h fun v_8 hv h=>?_;try simp only[hv,go_sem]
 refine zT h (fun hc h=>?_) fun hc h=>?_
 ·exact aG hV [.tmp 4,.tmp 5] rfl rfl rfl (aA h) xAc
 ·refine aK h fun g0 h=>?_;exact aG hV [.tmp 4,.tmp 5] rfl rfl rfl (aA h) xAc
attribute [go_sem] oK
def oA(F:Md)(g:qd)(prefix_1:qd):Option (qd×ve) :=
 (lP F g prefix_1).bind (fun f=>some (f.1,f.2.1,()))
def aEt:PlR:=⟨[(0,.A [0,1]),(1,.A [4,5])],[],[]⟩
def aFd:Ty:=.pair .str wq
def uW(F:Md):aF:=mSpec aFd (.tup (.pair .str vl)) (fun x=>oA F x.1 x.2.1)
abbrev aFe(F:Md):List (FuncId×aF):=[(193,(oK F))]
theorem aMH[Mx](F:Md):bF Tryz.prog GL (aFe F):=.cons (aGQ F) xP (.nil)
attribute [go_sem] aFd aEt
theorem aLB[Mx](F:Md):FOK Tryz.prog GL 161 (uW F):=by
 refine bQ (aZ (aMH F)) mix Tryz.func161 rfl xP xAa aEt (fun w0 S x Θ q h hV=>?_);obtain⟨(f:qd),(prefix_1:qd),u⟩:=x;simp only[cA,go_sem];replace h:sat (oA F f prefix_1) _:=h;unfold oA at h;refine aB h fun g hv h=>?_;try simp only[hv,go_sem]
 exact aG hV [.tmp 4,.tmp 5] rfl rfl rfl (aA h) xAc
attribute [go_sem] uW
def vN(F:Md)(g:qd):Option (Bool×(qd×(qd×ve))) :=
 (oA F g (aR ⟨#[45]⟩)).bind (fun v_5=>(aCg F v_5.1).bind (fun f=>some ((v_5.2.1&&(decide ((0:Int)<(f.1.length:Int)))),f.1,f.2.1,f.2.2.1,())))
def aLC:PlR:=⟨[(0,.A [0]),(1,.A [6,7]),(2,.A [7,8,9,10]),(3,.A [2,3,4,5])],[],[]⟩
def aNl:Ty:=.pair .str .unit
def aCR(F:Md):aF:=mSpec aNl (.tup (.pair .bool (.pair wi (.pair wi vl)))) (fun x=>vN F x.1)
abbrev aHK(F:Md):List (FuncId×aF):=[(161,(uW F)),(162,(aFE F))]
theorem aXi[Mx](F:Md):bF Tryz.prog GL (aHK F):=.cons (aLB F) xP (.cons (aZG F) xP (.nil))
attribute [go_sem] aNl aLC
theorem aVV[Mx](F:Md):FOK Tryz.prog GL 114 (aCR F):=by
 refine bQ (aZ (aXi F)) mix Tryz.func114 rfl xP xAa aLC (fun w0 S x Θ q h hV=>?_);obtain⟨(f:qd),u⟩:=x;simp only[cA,go_sem];replace h:sat (vN F f) _:=h;unfold vN at h;refine aB h fun v_5 hv h=>?_;try simp only[hv,go_sem]
 refine aB h fun g hv h=>?_;try simp only[hv,go_sem]
 exact aG hV [.tmp 2,.tmp 3,.tmp 4,.tmp 5] rfl rfl rfl (aA h) xAc
attribute [go_sem] aCR
def nM(F:Md)(z:qn)(q:qd):Option (Bool) :=
 (vN F z.1).bind (fun g=>(vN F q).bind (fun f=>ck (aS5 g.2.1 f.2.2.1) (ck (aS5 f.2.1 g.2.2.1) (ck (bBe (dC g.2.1 f.2.2.1) (dC f.2.1 g.2.2.1)) (if (¬(g.2.2.2.1=true))∨(¬(f.2.2.2.1=true)) then some false else if (g.1 != f.1)=true then some g.1 else if g.1=true then some (decide ((0:Int)≤(sF (dC g.2.1 f.2.2.1) (dC f.2.1 g.2.2.1)))) else some (decide ((sF (dC g.2.1 f.2.2.1) (dC f.2.1 g.2.2.1))≤(0:Int))))))))
def lQ(F:Md)(f:qn):Option Bool :=
 if f.2.1=(aR ⟨#[]⟩) then nM F f f.1 else nM F f f.2.1
def aJ5:PlR:=⟨[(0,.B [1]),(1,.A [1,3]),(2,.A [1,3,16]),(3,.A [1,3]),(4,.A [3,4,5,6,7]),(5,.A [4,5,6,7,8,9,10,11]),(6,.A [4,7,8,11,12]),(7,.A [2]),(8,.A [4,8,12,43]),(9,.A [2]),(10,.A [4,12,50]),(11,.A [2]),(12,.A [12,55]),(13,.A [2])],[(5,7)],[]⟩
def aLD:Ty:=.pair qj .unit
def aBy(F:Md):aF:=mSpec aLD (.one .bool) (fun x=>lQ F x.1)
abbrev aCS(F:Md):List (FuncId×aF):=[(105,iY),(114,(aCR F)),(115,uR)]
theorem aVW[Mx](F:Md):bF Tryz.prog GL (aCS F):=.cons aAs xP (.cons (aVV F) xP (.cons aJi xP (.nil)))
attribute [go_sem] aLD aJ5
theorem aTC[Mx](F:Md):FOK Tryz.prog GL 66 (aBy F):=by
 refine bQ (aZ (aVW F)) mix Tryz.func66 rfl xP xAa aJ5 (fun w0 S x Θ I h hV=>?_);obtain⟨(f:qn),u⟩:=x;simp only[cA,go_sem];replace h:sat (lQ F f) _:=h;unfold lQ at h;refine dB hV (D:=qd) (fun d=>sat (nM F f d) Θ) [] (fun d=>[(1,.ptr 0 []),(3,.val .str d)]) (fun d=>[.inr (.box 2 (.val qj f))]) ?_ ?_
 ·simp only[go_sem];refine cE h (fun hc h=>?_) fun hc h=>?_
  ·exact aT f.1 h rfl xAb
  ·exact aT f.2.1 h rfl xAb
 ·rintro g h;simp only[go_sem];replace h:sat (nM F f g) _:=h;unfold nM at h;refine aB h fun z hv h=>?_;try simp only[hv,go_sem]
  refine aB h fun q hv h=>?_;try simp only[hv,go_sem]
  refine aK h fun g0 h=>aK h fun g1 h=>aK h fun J h=>?_;refine⟨fun hc=>?_,fun hc=>?_⟩
  ·replace h:=fQ zAC h;exact zaE
  ·replace h:=fR zAC h;refine aH6 h (fun hc h=>?_) fun hc h=>?_
   ·exact aG hV [.tmp 2] rfl rfl rfl (aA h) xAc
   ·refine aH6 h (fun hc h=>?_) fun hc h=>?_
    ·exact aG hV [.tmp 2] rfl rfl rfl (aA h) xAc
    ·exact aG hV [.tmp 2] rfl rfl rfl (aA h) xAc
attribute [go_sem] aBy
attribute [-go_sem] Ex.kind Ex.text Ex.l
@[go_sem] theorem bNN(k:Int)(t:List Nat)(l:List Ex):Ex.l (.mk k t l)=l:=rfl
@[go_sem] theorem bNO(k:Int)(t:List Nat)(l:List Ex):Ex.kind (.mk k t l)=k:=rfl
@[go_sem] theorem bNP(k:Int)(t:List Nat)(l:List Ex):Ex.text (.mk k t l)=t:=rfl
def kY(F:Md)(g:Ex→Int→Int→Int→Option ww)(L:Ex)(q:Int)(f:Int)(I:Int)(z:Int):Option ((Int×Int×Int)⊕ww) :=
 if f<(((L.l).length:Nat):Int) then ck (0≤f∧f<(((L.l).length:Nat):Int)) (ck (I64 (q+(1:Int))) ((g ((L.l).getD (f.toNat) (Ex.mk 0 [] [])) (q+(1:Int)) I z).bind (fun J=>ck (I64 (f+(1:Int))) (some (.inl ((f+(1:Int)),J.1,J.2)))))) else some (.inr (I,z))
def sP(F:Md)(g:Ex→Int→Int→Int→Option ww)(I:Ex)(q:Int)(f:Int)(z:Int):Option ww :=
 ck (I64 (f+(1:Int))) (if ((60:Int)<(f+(1:Int)))∨((30:Int)<q) then some ((f+(1:Int)),(max z q)) else (dE F (fun d:Int×Int×Int=>kY F g I q d.1 d.2.1 d.2.2) ((0:Int),(f+(1:Int)),(max z q))).bind (fun e=>some (e.1,e.2)))
@[go_sem]def aAB(g:Ex→Int→Int→Int→Option ww):fH where
 D:=Ex×Int×Int×Int×ww
 av:=fun d=>[.val .expr d.1,.val qg d.2.1,.ptr 0 [],.ptr 1 [],.ptr 2 []]
 hp:=fun d=>[.box 1 (.val qg d.2.2.1),.box 1 (.val qg d.2.2.2.1),.box 1 (.fn 128 [] [0,1,2])]
 m:=3
 pre:=fun d=>g d.1 d.2.1 d.2.2.1 d.2.2.2.1=some d.2.2.2.2
 out:=fun d=>(fun r:ww=>.ret (.tup []) [.box 1 (.val qg r.1),.box 1 (.val qg r.2),.box 1 (.fn 128 [] [0,1,2])]) d.2.2.2.2
@[go_sem]def aIn(g:Ex→Int→Int→Int→Option ww)(vs:List AV)(h:List Vc.Obj):Hit:=mkH (g (qT h vs 0 .expr) (qT h vs 1 qg) (eK h (fL vs 2) qg) (eK h (fL vs 3) qg)) ((0:Int),(0:Int)) fun r=>⟨(aAB g),[(fL vs 2),(fL vs 3),(fL vs 4)],((qT h vs 0 .expr),(qT h vs 1 qg),(eK h (fL vs 2) qg),(eK h (fL vs 3) qg),r)⟩
def aIo(F:Md)(g:Ex→Int→Int→Int→Option ww):fH where
 D:=Ex×Int×Int×Int×ww
 av:=fun d=>[.val .expr d.1,.val qg d.2.1,.ptr 0 [],.ptr 1 [],.ptr 2 []]
 hp:=fun d=>[.box 1 (.val qg d.2.2.1),.box 1 (.val qg d.2.2.2.1),.box 1 (.fn 128 [] [0,1,2])]
 m:=3
 pre:=fun d=>sP F g d.1 d.2.1 d.2.2.1 d.2.2.2.1=some d.2.2.2.2
 out:=fun d=>(fun r:ww=>.ret (.tup []) [.box 1 (.val qg r.1),.box 1 (.val qg r.2),.box 1 (.fn 128 [] [0,1,2])]) d.2.2.2.2
def aJ6(F:Md)(g:Ex→Int→Int→Int→Option ww):PlR:=⟨[(0,.B [1,2,3,4,5]),(1,.B [1,2,3,4,5]),(2,.B [1,2,4,5]),(3,.A [1,4,5,19]),(4,.A [1,4,21,22,23]),(5,.A [1,4,21,22,23,24]),(6,.B [1,4,8,21,22,23]),(7,.P [1,4,21,22,23] []),(8,.A [1,4,21,22,23])],[],[(128,(aIn g))]⟩
abbrev aVX(F:Md)(g:Ex→Int→Int→Int→Option ww):List (FuncId×aF):=[]
theorem aVY[Mx](F:Md)(g:Ex→Int→Int→Int→Option ww)(f:GOK Tryz.prog GL 128 (aAB g)):bF Tryz.prog GL (aVX F g):=.nil
attribute [go_sem] aJ6 aIo
theorem aRx[Mx](F:Md)(g:Ex→Int→Int→Int→Option ww)(Y:GOK Tryz.prog GL 128 (aAB g)):GOK Tryz.prog GL 128 (aIo F g):=by
 refine jR (aZ (aVY F g Y)) mix Tryz.func128 rfl xP (fun _=>Nat.le_of_ble_eq_true rfl) (aJ6 F g) (fun c0 w0 d hw hw2 h hV=>?_) (.cons (fun _ _=>Y) xP (.nil));obtain⟨(L:Ex),(q:Int),(z:Int),(I:Int),r⟩:=d;have hF:=hV.fr;replace h:=jS (show sP F g L q z I=some r from h);simp only[vH,List.map_cons,List.map_nil,go_sem];unfold sP at h;refine aD h fun g0 h=>?_;try simp only[I64,I32] at g0
 repeat (refine⟨zAB,?_⟩)
 refine⟨fun hc=>?_,fun hc=>?_⟩
 ·replace h:=fQ hc h;obtain rfl:=aP h;refine fU [0,1,2] rfl rfl (yaB ?_);exact zaZ
 ·replace h:=fR hc h;refine aDQ [0,1,2] rfl rfl (yaA ?_);refine bP hV (D:=Int×Int×Int) [1,21,22] (fun d=>[(4,.ptr 2 []),(23,.val qg d.1)]) (fun d=>[.inr (.box 1 (.val qg d.2.1)),.inr (.box 1 (.val qg d.2.2)),.inr (.box 1 (.fn 128 [] [0,1,2]))]) h rfl xAb ?_;rintro⟨f,N,J⟩ A5 T5 U O h;simp only[go_sem];replace h:sat (kY F g L q f N J) _:=h;unfold kY at h;refine dS h (fun hc h=>?_) fun hc h=>?_
  ·refine aD h fun g0 h=>(yaD ?_);refine aD h fun g0 h=>?_;(try simp only[I64,I32] at g0);(repeat (refine⟨zAB,?_⟩));refine aB h fun Z hv h=>?_;simp only[hv,go_sem];(repeat (refine⟨zAB,?_⟩));refine aD h fun g0 h=>?_;(try simp only[I64,I32] at g0);(repeat (refine⟨zAB,?_⟩));replace h:=U _ (aA h);refine fU [0,1,2] rfl rfl (yaA ?_);exact zaI
  ·replace h:=yaG (O _ (aA h));obtain rfl:=aP h;exact zas
def nN(F:Md):Nat→Ex→Int→Int→Int→Option ww
 | 0=>fun _ _ _ _=>none
 | n+1=>sP F (nN F n)
def aE3(F:Md)(n:Nat):fH where
 D:=Ex×Int×Int×Int×ww
 av:=fun d=>[.val .expr d.1,.val qg d.2.1,.ptr 0 [],.ptr 1 [],.ptr 2 []]
 hp:=fun d=>[.box 1 (.val qg d.2.2.1),.box 1 (.val qg d.2.2.2.1),.box 1 (.fn 128 [] [0,1,2])]
 m:=3
 pre:=fun d=>nN F n d.1 d.2.1 d.2.2.1 d.2.2.2.1=some d.2.2.2.2
 out:=fun d=>(fun r:ww=>.ret (.tup []) [.box 1 (.val qg r.1),.box 1 (.val qg r.2),.box 1 (.fn 128 [] [0,1,2])]) d.2.2.2.2
@[go_sem]def aJ7(F:Md)(n:Nat)(vs:List AV)(h:List Vc.Obj):Hit:=mkH (nN F n (qT h vs 0 .expr) (qT h vs 1 qg) (eK h (fL vs 2) qg) (eK h (fL vs 3) qg)) ((0:Int),(0:Int)) fun r=>⟨(aE3 F n),[(fL vs 2),(fL vs 3),(fL vs 4)],((qT h vs 0 .expr),(qT h vs 1 qg),(eK h (fL vs 2) qg),(eK h (fL vs 3) qg),r)⟩
theorem aJ8[Mx](F:Md):∀n,GOK Tryz.prog GL 128 (aE3 F n)
 | 0=>fun _ _ _ _ hp _=>absurd (show none=some _ from hp) xAf
 | n+1=>aRx F _ (aJ8 F n)
attribute [go_sem] aE3
def aCT(F:Md)(g:Ex):Option (Int×qp) :=
 (nN F 64 g (1:Int) (0:Int) (0:Int)).bind (fun f=>some (f.1,f.2,()))
def aNm(F:Md):PlR:=⟨[(0,.B [1,2,3]),(1,.B [1,2,3,4]),(2,.B [1,2,3,4]),(3,.P [2,3] []),(4,.stop)],[],[(128,(aJ7 F 64))]⟩
def aPJ:Ty:=.pair .expr .unit
def aDZ(F:Md):aF:=mSpec aPJ (.tup vf) (fun x=>aCT F x.1)
abbrev aZJ(F:Md):List (FuncId×aF):=[]
theorem aZK[Mx](F:Md):bF Tryz.prog GL (aZJ F):=.nil
attribute [go_sem] aPJ aNm
theorem aXj[Mx](F:Md):FOK Tryz.prog GL 87 (aDZ F):=by
 refine bQ (aZ (aZK F)) mix Tryz.func87 rfl xP xAa (aNm F) (fun w0 S x Θ q h hV=>?_) (.cons (fun _ _=>(aJ8 F 64)) xP (.nil));have hF:=hV.fr;obtain⟨(g:Ex),u⟩:=x;simp only[cA,go_sem];replace h:sat (aCT F g) _:=h;unfold aCT at h;refine aB h fun f hv h=>?_;simp only[hv,go_sem];repeat (refine⟨zAB,?_⟩)
 obtain⟨q0,h,hq⟩:=h;refine aG5 hF [2,3] [(2,.ptr 1 []),(3,.ptr 2 [])] [.box 3 (.val .expr g),.box 1 (.val qg f.1),.box 1 (.val qg f.2),.box 1 (.fn 128 [] [1,2,3])] xAa ?_ ?_
 ·simp only[go_sem];unfold anyS;intro i hi;have hi:i=0∨i=1:=by revert hi; revert i; decide
  rcases hi with rfl|rfl
  ·simp only[go_sem];(repeat (refine⟨zAA,?_⟩));unfold anyS;intro i hi;have hi:i=1∨i=2:=(by revert hi; revert i; decide);rcases hi with rfl|rfl
   ·simp only[go_sem];(repeat (refine⟨zAA,?_⟩));unfold anyS;intro i hi;have hi:i=2:=(by revert hi; revert i; decide);exact zaR
   ·simp only[go_sem];(repeat (refine⟨zAA,?_⟩));unfold anyS;intro i hi;have hi:i=1:=(by revert hi; revert i; decide);exact zaR
  ·simp only[go_sem];(repeat (refine⟨zAA,?_⟩));unfold anyS;intro i hi;have hi:i=0:=(by revert hi; revert i; decide);subst hi;simp only[go_sem];(repeat (refine⟨zAA,?_⟩));unfold anyS;intro i hi;have hi:i=2:=(by revert hi; revert i; decide);exact zaR
 first|replace h:=lO h hq|replace h:=lO (Θ:=(· = r)) h hq
 refine aGf hV (yaA ?_);exact aG hV [.cell 2 3,.cell 3 3] rfl rfl rfl (aA h) xAc
attribute [go_sem] aDZ
def uX(F:Md)(f:Ex):Option Bool :=
 (aCT F f).bind (fun v_5=>some ((decide (v_5.1≤(60:Int)))&&(decide (v_5.2.1≤(30:Int)))))
def aPK:PlR:=⟨[(0,.B [1]),(1,.A [3,4]),(2,.A [2])],[],[]⟩
def aSR:Ty:=.pair .expr .unit
def aAC(F:Md):aF:=mSpec aSR (.one .bool) (fun x=>uX F x.1)
abbrev aSS(F:Md):List (FuncId×aF):=[(87,(aDZ F))]
theorem bBQ[Mx](F:Md):bF Tryz.prog GL (aSS F):=.cons (aXj F) xP (.nil)
attribute [go_sem] aSR aPK
theorem aPL[Mx](F:Md):FOK Tryz.prog GL 41 (aAC F):=by
 refine bQ (aZ (bBQ F)) mix Tryz.func41 rfl xP xAa aPK (fun w0 S x Θ g h hV=>?_);obtain⟨(f:Ex),u⟩:=x;simp only[cA,go_sem];replace h:sat (uX F f) _:=h;unfold uX at h;exact zan
attribute [go_sem] aAC
def rA(F:Md)(f:Bool):Option (Int) :=
 if f=true then some (1:Int) else some (-1:Int)
def rB(F:Md)(f:Int)(g:Bool):Option (Int) :=
 if g=true then some (2:Int) else if f=(10:Int) then rA F (decide (f=(10:Int))) else if f=(11:Int) then rA F (decide (f=(11:Int))) else if f=(12:Int) then rA F (decide (f=(12:Int))) else rA F (decide (f=(13:Int)))
def yD(F:Md)(f:Int)(g:Bool):Option (Int) :=
 if g=true then some (0:Int) else if f=(6:Int) then rB F f (decide (f=(6:Int))) else if f=(7:Int) then rB F f (decide (f=(7:Int))) else if f=(8:Int) then rB F f (decide (f=(8:Int))) else rB F f (decide (f=(9:Int)))
def aAD(F:Md)(f:Int):Option Int :=
 if f=(1:Int) then yD F f (decide (f=(1:Int))) else yD F f (decide (f=(2:Int)))
@[go_sem]def aFH:Ty:=.pair qg .unit
def aD0(F:Md):aF:=mSpec aFH (.one qg) (fun x=>aAD F x.1)
abbrev aPM(F:Md):List (FuncId×aF):=[]
theorem aPN[Mx](F:Md):bF Tryz.prog GL (aPM F):=.nil
theorem aXk[Mx](F:Md):FOK Tryz.prog GL 164 (aD0 F):=by
 refine aDD (aZ (aPN F)) Tryz.func164 rfl xP xAa fun w0 S x r I h=>?_;have hF:uP (fr Tryz.prog (EM (aPM F)) S w0 Tryz.f164.ntmps):=⟨aZ (aPN F),mix⟩;obtain⟨(f:Int),u⟩:=x;simp only[aFH,Ty.wf,aF8] at I;simp only[cA,aFH];try dsimp only at h
 replace h:aAD F f=some r:=h;unfold aAD at h;refine aL (aQ hF [0] (yaA ?_));refine aN (aL (aL (aQ hF [3] (yaA ?_))));refine aN (oV (aBZ (D:=Bool) (fun d=>yD F f d=some r) [3] (fun d=>[(4,.val .bool d)]) (fun d=>[]) ?_ ?_))
 ·refine aL (aQ hF [3,4] (yaA ?_));refine aN (cS rfl (fun hc=>?_) (fun hc=>?_))
  ·(try simp only[go_sem] at hc);have h:=oD zAC h;refine eC (dQ (aT (decide (f=(1:Int))) h rfl ?_))
   ·exact zAI
  ·(try simp only[go_sem] at hc);have h:=nB zAC h;refine aQ hF [3,4] (yaA ?_);refine dQ (aT (decide (f=(2:Int))) h rfl ?_)
   ·exact zAI
 ·rintro q h;try dsimp only at h
  simp only[go_sem];unfold yD at h;refine cS rfl (fun hc=>?_) (fun hc=>?_)
  ·(try simp only[go_sem] at hc);exact zai
  ·(try simp only[go_sem] at hc);have h:=nB zAC h;refine aBZ (D:=Bool) (fun d=>rB F f d=some r) [3] (fun d=>[(7,.val .bool d)]) (fun d=>[]) ?_ ?_
   ·refine aL (aQ hF [3,7] (yaA ?_));refine aN (cS rfl (fun hc=>?_) (fun hc=>?_))
    ·(try simp only[go_sem] at hc);have h:=oD zAC h;refine eC (dQ (aT (decide (f=(6:Int))) h rfl ?_))
     ·exact zAI
    ·(try simp only[go_sem] at hc);have h:=nB zAC h;refine aL (aQ hF [3,7] (yaA ?_));refine aN (cS rfl (fun hc=>?_) (fun hc=>?_))
     ·(try simp only[go_sem] at hc);have h:=oD zAC h;refine eC (dQ (aT (decide (f=(7:Int))) h rfl ?_))
      ·exact zAI
     ·(try simp only[go_sem] at hc);have h:=nB zAC h;refine aL (aQ hF [3,7] (yaA ?_));refine aN (cS rfl (fun hc=>?_) (fun hc=>?_))
      ·(try simp only[go_sem] at hc);have h:=oD zAC h;refine eC (dQ (aT (decide (f=(8:Int))) h rfl ?_))
       ·exact zAI
      ·(try simp only[go_sem] at hc);have h:=nB zAC h;refine aQ hF [3,7] (yaA ?_);refine dQ (aT (decide (f=(9:Int))) h rfl ?_)
       ·exact zAI
   ·rintro z h;(try dsimp only at h);simp only[go_sem];unfold rB at h;refine cS rfl (fun hc=>?_) (fun hc=>?_)
    ·(try simp only[go_sem] at hc);exact zai
    ·(try simp only[go_sem] at hc);have h:=nB zAC h;refine aBZ (D:=Bool) (fun d=>rA F d=some r) [] (fun d=>[(12,.val .bool d)]) (fun d=>[]) ?_ ?_
     ·refine aL (aQ hF [3,12] (yaA ?_));refine aN (cS rfl (fun hc=>?_) (fun hc=>?_))
      ·(try simp only[go_sem] at hc);have h:=oD zAC h;refine eC (dQ (aT (decide (f=(10:Int))) h rfl ?_))
       ·exact zAI
      ·(try simp only[go_sem] at hc);have h:=nB zAC h;refine aL (aQ hF [3,12] (yaA ?_));refine aN (cS rfl (fun hc=>?_) (fun hc=>?_))
       ·(try simp only[go_sem] at hc);have h:=oD zAC h;refine eC (dQ (aT (decide (f=(11:Int))) h rfl ?_))
        ·exact zAI
       ·(try simp only[go_sem] at hc);have h:=nB zAC h;refine aL (aQ hF [3,12] (yaA ?_));refine aN (cS rfl (fun hc=>?_) (fun hc=>?_))
        ·(try simp only[go_sem] at hc);have h:=oD zAC h;refine eC (dQ (aT (decide (f=(12:Int))) h rfl ?_))
         ·exact zAI
        ·(try simp only[go_sem] at hc);have h:=nB zAC h;refine aQ hF [12] (yaA ?_);refine dQ (aT (decide (f=(13:Int))) h rfl ?_)
         ·exact zAI
     ·rintro g h;(try dsimp only at h);simp only[go_sem];unfold rA at h;refine cS rfl (fun hc=>?_) (fun hc=>?_)
      ·(try simp only[go_sem] at hc);exact zai
      ·(try simp only[go_sem] at hc);have h:=nB zAC h;refine eC (pJ (aN (aL (aQ hF [2] (yaA ?_)))));obtain rfl:=Option.some.inj h;refine aN (gU (nG hF [.tmp 2] rfl rfl rfl ?_));exact zAJ
attribute [go_sem] aD0
@[go_sem]def aFI:Ty:=.pair .expr (.pair wo .unit)
@[go_sem]def lR(g:Ex→q8→Option (Bool)):aF:=mSpec aFI (.one .bool) (fun x=>g x.1 x.2.1)
def aAg(F:Md)(g:Ex→q8→Option (Bool))(q:Ex)(f:q8):Option Bool :=
 (g q f).bind (fun z=>some (!z))
def aJ9:PlR:=⟨[(0,.B [1,2]),(1,.A [3])],[],[]⟩
def aLE:Ty:=.pair .expr vp
def aBz(F:Md)(g:Ex→q8→Option (Bool)):aF:=mSpec aLE (.one .bool) (fun x=>aAg F g x.1 x.2.1)
abbrev aLF(F:Md)(g:Ex→q8→Option (Bool)):List (FuncId×aF):=[(116,(lR g))]
theorem aV0[Mx](F:Md)(g:Ex→q8→Option (Bool))(f:FOK Tryz.prog GL 116 (lR g)):bF Tryz.prog GL (aLF F g):=.cons f xP (.nil)
attribute [go_sem] aLE aJ9
theorem aTD[Mx](F:Md)(g:Ex→q8→Option (Bool))(z:FOK Tryz.prog GL 116 (lR g)):FOK Tryz.prog GL 166 (aBz F g):=by
 refine bQ (aZ (aV0 F g z)) mix Tryz.func166 rfl xP xAa aJ9 (fun w0 S x Θ J h hV=>?_);obtain⟨(q:Ex),(f:q8),u⟩:=x;simp only[cA,go_sem];replace h:sat (aAg F g q f) _:=h;unfold aAg at h;refine aB h fun I hv h=>?_;try simp only[hv,go_sem]
 exact aG hV [.tmp 3] rfl rfl rfl (aA h) xAc
attribute [go_sem] aBz
def bU(F:Md)(g:Ex→q8→Option (Bool))(q:vo)(z:vi)(f:Int):Option ((Int)⊕((Unit)⊕Int)) :=
 if f<(q.length:Int) then ck (0≤f∧f<(q.length:Int)) ((aAg F g (q.getD (f.toNat) (Ex.mk 0 [] [])) z.1).bind (fun v_27=>if v_27=true then some (.inr (.inr f)) else ck (I64 (f+(1:Int))) (some (.inl (f+(1:Int)))))) else some (.inr (.inl ()))
def cY(F:Md)(g:Ex→q8→Option (Bool))(q:vo)(f:vi):Option Int :=
 (dE F (fun d:Int=>bU F g q f d) (0:Int)).bind (fun e=>match e with|(.inl e)=>some (-1:Int)|(.inr e)=>some e)
def jV:PlR:=⟨[(0,.A [0,1]),(1,.A [0,1,7,8]),(2,.A [0,1,7,8,9]),(3,.A [0,1,5,7,8]),(4,.A [0,1,5,7,8,16]),(5,.A [4]),(6,.A [0,1,7,8]),(7,.A [4])],[],[]⟩
def kD:Ty:=.pair (.sl .expr) (.pair (.clo 166 vp) .unit)
def dX(F:Md)(g:Ex→q8→Option (Bool)):aF:=mSpec kD (.one qg) (fun x=>cY F g x.1 x.2.1)
abbrev kE(F:Md)(g:Ex→q8→Option (Bool)):List (FuncId×aF):=[(166,(aBz F g))]
theorem uA[Mx](F:Md)(g:Ex→q8→Option (Bool))(f:FOK Tryz.prog GL 116 (lR g)):bF Tryz.prog GL (kE F g):=.cons (aTD F g f) xP (.nil)
attribute [go_sem] kD jV
theorem tJ[Mx](F:Md)(g:Ex→q8→Option (Bool))(I:FOK Tryz.prog GL 116 (lR g)):FOK Tryz.prog GL 194 (dX F g):=by
 refine bQ (aZ (uA F g I)) mix Tryz.func194 rfl xP xAa jV (fun w0 S x Θ J h hV=>?_);obtain⟨(z:vo),(q:vi),u⟩:=x;simp only[cA,go_sem];replace h:sat (cY F g z q) _:=h;unfold cY at h;refine bP hV (D:=Int) [0,1,7] (fun d=>[(8,.val qg d)]) (fun d=>[]) h rfl xAb ?_;rintro f L T2 hA2 hE2 h;simp only[go_sem];replace h:sat (bU F g z q f) _:=h;unfold bU at h;exact zaO
attribute [go_sem] dX
def bV(F:Md)(g:Ex→q8→Option (Bool))(q:vo)(f:vi):Option Bool :=
 (cY F g q f).bind (fun v_8=>some (decide ((0:Int)≤v_8)))
def iN:PlR:=⟨[(0,.A [0,1]),(1,.A [4])],[],[]⟩
def iZ:Ty:=.pair (.sl .expr) (.pair (.clo 166 vp) .unit)
def dL(F:Md)(g:Ex→q8→Option (Bool)):aF:=mSpec iZ (.one .bool) (fun x=>bV F g x.1 x.2.1)
abbrev jA(F:Md)(g:Ex→q8→Option (Bool)):List (FuncId×aF):=[(194,(dX F g))]
theorem rS[Mx](F:Md)(g:Ex→q8→Option (Bool))(f:FOK Tryz.prog GL 116 (lR g)):bF Tryz.prog GL (jA F g):=.cons (tJ F g f) xP (.nil)
attribute [go_sem] iZ iN
theorem rF[Mx](F:Md)(g:Ex→q8→Option (Bool))(z:FOK Tryz.prog GL 116 (lR g)):FOK Tryz.prog GL 165 (dL F g):=by
 refine bQ (aZ (rS F g z)) mix Tryz.func165 rfl xP xAa iN (fun w0 S x Θ I h hV=>?_);obtain⟨(q:vo),(f:vi),u⟩:=x;simp only[cA,go_sem];replace h:sat (bV F g q f) _:=h;unfold bV at h;refine aB h fun v_8 hv h=>?_;exact zao
attribute [go_sem] dL
def wI(F:Md)(g:Ex→q8→Option (Bool))(f:Ex)(names_1:q8):Option Bool :=
 (aAD F (f.kind)).bind (fun q=>if ¬(q=(((f.l).length:Nat):Int)) then some false else if (f.kind)=(1:Int) then (tH F (f.text)).bind (fun v_17=>some v_17) else if (f.kind)=(2:Int) then ck (¬((f.text)=(aR ⟨#[116]⟩))→((eO F names_1 (f.text)).isSome=true)) (some ((decide ((f.text)=(aR ⟨#[116]⟩)))||((eO F names_1 (f.text)).getD false))) else ck (((f.text)=(aR ⟨#[]⟩))→((bV F g (f.l) (names_1,())).isSome=true)) (some ((decide ((f.text)=(aR ⟨#[]⟩)))&&(!((bV F g (f.l) (names_1,())).getD false)))))
def aNn:PlR:=⟨[(0,.B [2,3]),(1,.A [2,3,11]),(2,.A [4]),(3,.A [2,3,13]),(4,.A [2,3,13,14]),(5,.A [4]),(6,.A [2,3,19]),(7,.A [4]),(8,.stop)],[],[]⟩
abbrev aCU(F:Md)(g:Ex→q8→Option (Bool)):List (FuncId×aF):=[(165,(dL F g)),(100,(wZ F)),(118,(gZ F)),(164,(aD0 F))]
theorem aZL[Mx](F:Md)(g:Ex→q8→Option (Bool))(f:FOK Tryz.prog GL 116 (lR g)):bF Tryz.prog GL (aCU F g):=.cons (rF F g f) xP (.cons (aLx F) xP (.cons (aAV F) xP (.cons (aXk F) xP (.nil))))
attribute [go_sem] aNn
theorem aV1[Mx](F:Md)(g:Ex→q8→Option (Bool))(z:FOK Tryz.prog GL 116 (lR g)):FOK Tryz.prog GL 116 (mSpec aFI (.one .bool) (fun x=>wI F g x.1 x.2.1)):=by
 refine bQ (aZ (aZL F g z)) mix Tryz.func116 rfl xP xAa aNn (fun w0 S x Θ I h hV=>?_);obtain⟨(f:Ex),(names_1:q8),u⟩:=x;simp only[cA,go_sem];replace h:sat (wI F g f names_1) _:=h;unfold wI at h;refine aB h fun q hv h=>?_;try simp only[hv,go_sem]
 refine cE h (fun hc h=>?_) fun hc h=>?_
 ·exact aG hV [.tmp 4] rfl rfl rfl (aA h) xAc
 ·refine cE h (fun hc h=>?_) fun hc h=>?_
  ·refine aB h fun v_17 hv h=>?_;exact zao
  ·refine cE h (fun hc h=>?_) fun hc h=>?_
   ·refine aD h fun g0 h=>?_;(repeat (refine⟨zAF,?_⟩));exact zaD
   ·refine aEk 1 rfl (yaA ?_);refine vI hV [4] (yaA ?_);refine aD h fun g0 h=>?_;(repeat (refine⟨zAF,?_⟩));exact zaD
def xI(F:Md):Nat→Ex→q8→Option (Bool)
 | 0=>fun _ _=>none
 | n+1=>wI F (xI F n)
def aD1(F:Md)(n:Nat):aF:=mSpec aFI (.one .bool) (fun x=>xI F n x.1 x.2.1)
theorem aNo[Mx](F:Md):∀n,FOK Tryz.prog GL 116 (aD1 F n)
 | 0=>fun _ _ _ _ _ _ _ hp=>Bool.noConfusion (show false=true from hp)
 | n+1=>aV1 F _ (aNo F n)
attribute [go_sem] aD1
end
end Nu
end Go.Proofs

