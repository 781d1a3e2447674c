import Derived.Test.YtmhjkbdicaelbaaGreatDoorZL5
import Derived.Test.YtmhjkbdicaelbaaGreatDoorZS1
set_option linter.unusedVariables false
set_option linter.unusedSimpArgs false
namespace Go.Proofs
open Go.Vc
set_option maxRecDepth 20000
namespace Nu
noncomputable section
set_option maxHeartbeats 4000000
def aLc:PlR:=⟨[(0,.A [0,1]),(1,.B [4])],[],[]⟩
@[go_sem]def aHT:Ty:=.pair qu qo
@[go_sem]def aC1:aH:=⟨aHT,.own 119 qk,fun x=>aEp x.1 x.2.1,fun x=>dS x.1 x.2.1⟩
def aXl(F:Md):aH:=mSpec aHT (.own 119 qk) (fun x=>aBX F x.1 x.2.1)
abbrev aNu(F:Md):List (FuncId×aH):=[(121,cP)]
theorem aZ6(F:Md):bA Tryz.prog GL (aNu F):=.cons oB xAa (.nil)
attribute [go_sem] aLc
theorem aXm(F:Md):FOK Tryz.prog GL 124 (aXl F):=by
 refine aX (aY (aZ6 F)) mix Tryz.func124 rfl xAa xAb aLc (fun w0 S x Θ q h hV=>?_);obtain⟨(g:qd),(f:Int),u⟩:=x;simp only[bD,go_sem];replace h:sat (aBX F g f) _:=h;unfold aBX at h;refine aG h fun g0 h=>?_;refine aG h fun g0 h=>?_;refine aB h fun g0 h=>?_;refine aB h fun g1 h=>(yaB ?_);exact zaE
theorem aXn:FOK Tryz.prog GL 124 aC1:=fN (aXm none) (fun⟨g,x1,u⟩ ⟨w0,f,q⟩ hp=>aUM g w0 x1 f hp)
def aHU(F:Md):qW where
 D:=Nat×Nat×qd×qd×vg
 av:=fun d=>[.sub 0 1 d.1 d.2.1,.val qu d.2.2.1]
 hp:=fun d=>[.row 119 qk d.2.2.2.1]
 m:=1
 pre:=fun d=>aBg F d.1 d.2.1 d.2.2.1 d.2.2.2.1=some d.2.2.2.2
 out:=fun d=>(fun r:vg=>.ret (.val qk r.1) [.row 119 qk r.2]) d.2.2.2.2
def aNv:PlR:=⟨[(0,.A [0,1]),(1,.A [0,1,5]),(2,.A [0,1,5,6,8]),(3,.A [0,1,5,6,8,31]),(4,.A [0,1,5,6,7,8]),(5,.A [0,1,5,6,7,8]),(6,.A [0,1,5,6,7,65]),(7,.A [0,1,5,6,7,9,10]),(8,.A [0,1,5,6,7,92]),(9,.A [0,1,5,6,7]),(10,.A [0,1,5,6,7,8]),(11,.A [0,1,5,6,11,12]),(12,.A [0,1,5,6,11,12,105,106,107]),(13,.A [0,1,5,6,11,12,105,106,107,108]),(14,.A [0,1,5,6,11,12,13,14,105,106,107]),(15,.A [0,1,5,6,11,12,13,15,16,105,106,107]),(16,.A [0,1,5,6,11,12,13,15,16,105,106,107]),(17,.A [0,1,5,6,12,13,15,16,17,105,106,107]),(18,.A [0,1,5,6,11,12,13,16,105,106,107]),(19,.B [0,1,5,6,11,12,105,106,107]),(20,.A [0,1,5,6,11,12,105,106,107]),(21,.B [0,1,5,6,12]),(22,.A [0,1,5,6,155]),(23,.A [4]),(24,.A [0,1,5,6,11]),(25,.A [0,5,6,11,157,158,159]),(26,.A [0,5,6,11,157,158,159,160]),(27,.A [0,5,6,11,18,19,157,158,159]),(28,.B [0,5,6,11,157,158,159]),(29,.A [0,5,6,11,157,158,159]),(30,.B [6]),(31,.A [4])],[(6,9),(9,14),(15,24),(28,33)],[]⟩
abbrev aDM(F:Md):List (FuncId×aH):=[(129,wJ),(130,oQ),(166,wK),(167,aCZ)]
theorem bCO(F:Md):bA Tryz.prog GL (aDM F):=.cons aK9 xAa (.nat aGd (.cons aLb xAa (.nat aW7 (.nil))))
attribute [go_sem] aNv aHU
theorem aZ7(F:Md):GOK Tryz.prog GL 126 (aHU F):=by
 refine aHD (aY (bCO F)) mix Tryz.func126 rfl xAa (fun _=>Nat.le_of_ble_eq_true rfl) aNv (fun c0 w0 d hw hw2 h hV=>?_);obtain⟨(f:Nat),(g:Nat),(q:qd),(I:qd),r⟩:=d;have hF:=hV.fr;replace h:=aHE (show aBg F f g q I=some r from h);simp only[aJj,List.map_cons,List.map_nil,go_sem];unfold aBg at h;refine bH hV (D:=Nat×Nat×Nat) (fun d=>sat (pT F q g f I d.1 d.2.1 d.2.2) (fun z=>z=r)) [1,5] (fun d=>[(0,.sub 0 1 f g),(6,.val qk d.1),(7,.val qk d.2.1),(8,.val qk d.2.2)]) (fun d=>[.inr (.row 119 qk I)]) ?_ ?_
 ·simp only[go_sem,aR F,aS F,aT F];refine aB h fun g0 h=>?_;refine aB h fun g1 h=>?_;refine aB h fun g2 h=>?_;refine aB h fun g3 h=>(yaB ?_);refine bS h (fun hc h=>?_) fun hc h=>?_
  ·refine aB h fun g0 h=>?_;refine aB h fun g1 h=>?_;refine aB h fun g2 h=>?_;refine aB h fun g3 h=>?_;refine aB h fun g4 h=>?_;refine aB h fun g5 h=>?_;refine aB h fun g6 h=>?_;refine aB h fun g7 h=>(yaB ?_);exact aK ((oD (I.getD (f+(q.length)) (0:Nat)) (I.getD (f+((q.length:Int)-(1:Int)).toNat) (0:Nat)) (q.getD ((q.length:Int)-(1:Int)).toNat (0:Nat))).1,(oD (I.getD (f+(q.length)) (0:Nat)) (I.getD (f+((q.length:Int)-(1:Int)).toNat) (0:Nat)) (q.getD ((q.length:Int)-(1:Int)).toNat (0:Nat))).2.1,(0:Nat)) h rfl xAe
  ·refine aB h fun g0 h=>?_;refine aB h fun g1 h=>?_;refine aB h fun g2 h=>?_;refine aB h fun g3 h=>?_;refine aB h fun g4 h=>?_;refine aB h fun g5 h=>(yaB ?_);exact aK ((18446744073709551615:Nat),(qY (I.getD (f+((q.length:Int)-(1:Int)).toNat) (0:Nat)) (q.getD ((q.length:Int)-(1:Int)).toNat (0:Nat)) (0:Nat)).1,(qY (I.getD (f+((q.length:Int)-(1:Int)).toNat) (0:Nat)) (q.getD ((q.length:Int)-(1:Int)).toNat (0:Nat)) (0:Nat)).2.1) h rfl xAe
 ·rintro⟨x_4,Z,Y⟩ h;simp only[go_sem,aR F,aS F,aT F];replace h:sat (pT F q g f I x_4 Z Y) _:=h;unfold pT at h;refine bH hV (D:=Nat) (fun d=>sat (tE F q g f I d) (fun z=>z=r)) [1,5] (fun d=>[(0,.sub 0 1 f g),(6,.val qk d)]) (fun d=>[.inr (.row 119 qk I)]) ?_ ?_
  ·simp only[go_sem,aR F,aS F,aT F];refine aU hV (D:=Nat×Nat×Nat) [1,5] (fun d=>[(0,.sub 0 1 f g),(6,.val qk d.1),(7,.val qk d.2.1),(8,.val qk d.2.2)]) (fun d=>[.inr (.row 119 qk I)]) h rfl xAe ?_;rintro⟨U,W,N⟩ A6 T6 hA6 hE6 h;simp only[go_sem,aR F,aS F,aT F];replace h:sat (mI F q g f I U W N) _:=h;unfold mI at h;refine bS h (fun hc h=>?_) fun hc h=>?_
   ·refine aB h fun g0 h=>?_;refine aB h fun g1 h=>(yaB ?_);refine aB h fun g0 h=>?_;refine aB h fun g1 h=>(yaB ?_);refine⟨fun hc=>?_,fun hc=>?_⟩
    ·replace h:=cW hc h;replace h:=yaH (hE6 _ (aA h));exact aK (U) h rfl xAe
    ·replace h:=cX hc h;refine aB h fun g0 h=>?_;refine aB h fun g1 h=>?_;refine aB h fun g2 h=>(yaB ?_);replace h:=hA6 _ (aA h);exact zaK
   ·replace h:=yaH (hE6 _ (aA h));exact aK (U) h rfl xAe
  ·rintro J h;simp only[go_sem,aR F,aS F,aT F];replace h:sat (tE F q g f I J) _:=h;unfold tE at h;refine bH hV (D:=Nat×Nat×qd) (fun d=>sat (yD F q g f J d.1 d.2.1 d.2.2) (fun z=>z=r)) [1,5,6] (fun d=>[(0,.sub 0 1 f g),(11,.val qk d.1),(12,.val qk d.2.1)]) (fun d=>[.inr (.row 119 qk d.2.2)]) ?_ ?_
   ·simp only[go_sem,aR F,aS F,aT F];refine aU hV (D:=Nat×Nat×Int×qd) [1,5,6,105,106] (fun d=>[(0,.sub 0 1 f g),(11,.val qk d.1),(12,.val qk d.2.1),(107,.val qi d.2.2.1)]) (fun d=>[.inr (.row 119 qk d.2.2.2)]) h rfl xAe ?_;rintro⟨carry_41,borrow_42,O,u_44⟩ A13 T13 hA13 hE13 h;simp only[go_sem,aR F,aS F,aT F];replace h:sat (kB F q J g f carry_41 borrow_42 O u_44) _:=h;unfold kB at h;refine bP h (fun hc h=>?_) fun hc h=>?_
    ·refine aB h fun g0 h=>(yaB ?_);refine aB h fun g0 h=>(yaB ?_);refine aB h fun g0 h=>?_;refine aB h fun g1 h=>(yaB ?_);refine aB h fun g0 h=>(yaB ?_);refine aB h fun g0 h=>?_;refine aB h fun g1 h=>(yaB ?_);refine aB h fun g0 h=>(yaB ?_);replace h:=hA13 _ (aA h);exact zaK
    ·replace h:=yaH (hE13 _ (aA h));exact aK (carry_41,borrow_42,u_44) h rfl xAe
   ·rintro⟨carry_22,borrow_23,u_24⟩ h;simp only[go_sem,aR F,aS F,aT F];replace h:sat (yD F q g f J carry_22 borrow_23 u_24) _:=h;unfold yD at h;refine aB h fun g0 h=>?_;refine aB h fun g1 h=>(yaB ?_);refine aB h fun g0 h=>(yaB ?_);refine aB h fun g0 h=>?_;refine aB h fun g1 h=>(yaB ?_);refine bS h (fun hc h=>?_) fun hc h=>?_
    ·obtain rfl:=iT h;refine aEm hF [.tmp 4] rfl rfl rfl rfl rfl rfl ?_
     (try simp only[aQ,aIP,aHz,kN,uS,AV.isAgg,go_sem,aR F,aS F,aT F])<;>first|trivial|rfl|(simp; done)
    ·refine bH hV (D:=Nat×qd) (fun d=>sat (yC F q g f J d.1 d.2) (fun z=>z=r)) [5,6] (fun d=>[(0,.sub 0 1 f g),(11,.val qk d.1)]) (fun d=>[.inr (.row 119 qk d.2)]) ?_ ?_
     ·simp only[go_sem,aR F,aS F,aT F];refine aU hV (D:=Nat×Int×qd) [5,6,157,158] (fun d=>[(0,.sub 0 1 f g),(11,.val qk d.1),(159,.val qi d.2.1)]) (fun d=>[.inr (.row 119 qk d.2.2)]) h rfl xAe ?_;rintro⟨carry_33,L,u_35⟩ A26 T26 hA26 hE26 h;simp only[go_sem,aR F,aS F,aT F];replace h:sat (kA F q g f carry_33 L u_35) _:=h;unfold kA at h;refine bP h (fun hc h=>?_) fun hc h=>?_
      ·refine aB h fun g0 h=>(yaB ?_);refine aB h fun g0 h=>?_;refine aB h fun g1 h=>(yaB ?_);refine aB h fun g0 h=>(yaB ?_);refine aB h fun g0 h=>?_;refine aB h fun g1 h=>(yaB ?_);refine aB h fun g0 h=>(yaB ?_);replace h:=hA26 _ (aA h);exact zaK
      ·replace h:=yaH (hE26 _ (aA h));exact aK (carry_33,u_35) h rfl xAe
     ·rintro⟨carry_31,u_32⟩ h;simp only[go_sem,aR F,aS F,aT F];replace h:sat (yC F q g f J carry_31 u_32) _:=h;unfold yC at h;refine aB h fun g0 h=>?_;refine aB h fun g1 h=>(yaB ?_);refine aB h fun g0 h=>?_;refine aB h fun g1 h=>(yaB ?_);obtain rfl:=iT h;refine aEm hF [.tmp 4] rfl rfl rfl rfl rfl rfl ?_
      (try simp only[aQ,aIP,aHz,kN,uS,AV.isAgg,go_sem,aR F,aS F,aT F])<;>first|trivial|rfl|(simp; done)
@[go_sem]def aB0:Ty:=.pair qu vj
@[go_sem]def aC2:aH:=⟨aB0,.tup (.pair qu vj),fun x=>aHI x.1 x.2.1,fun x=>oE x.1 x.2.1⟩
def aXo(F:Md):aH:=mSpec aB0 (.tup (.pair qu vj)) (fun x=>aBY F x.1 x.2.1)
abbrev lX(F:Md):List (FuncId×aH):=[(121,cP),(122,aEr),(123,dT),(124,aC1),(125,aBj),(127,eU),(128,zG),(93,rH)]
theorem aNw(F:Md):bA Tryz.prog GL (lX F):=.cons oB xAa (.cons aZ5 xAa (.cons uW xAa (.cons aXn xAa (.cons aRf xAa (.cons yE xAa (.cons aNr xAa (.cons aHQ xAa (.nil))))))))
theorem aXp(F:Md):FOK Tryz.prog GL 82 (aXo F):=by
 refine wH (aY (aNw F)) Tryz.func82 rfl xAa xAb fun w0 S x r U h=>?_;have hF:xT (fr Tryz.prog (EM (lX F)) S w0 Tryz.f82.ntmps):=⟨aY (aNw F),mix⟩;obtain⟨(L:qd),(g:qd),u⟩:=x;simp only[aB0,Ty.wf,aE8] at U;simp only[bD,aB0];try dsimp only at h
 replace h:aBY F L g=some r:=h;unfold aBY at h;refine aO (aM hF [0,1] (yaA ?_));refine aP (aO (aO (aM hF [0,1,15] (yaA ?_))));obtain⟨g0,h⟩:=bE h;repeat (refine⟨zAA,?_⟩)
 refine aP (cE rfl (fun hc=>?_) (fun hc=>?_))
 ·try simp only[go_sem] at hc
  have h:=jZ zAD h;refine aO (dI hF [4,5] (yaA ?_));obtain⟨g0,h⟩:=bE h;repeat (refine⟨zAA,?_⟩)
  obtain rfl:=Option.some.inj h;refine aP (dL (bU (dR hF [.tmp 4,.tmp 5] rfl rfl rfl ?_)));exact zAK
 ·try simp only[go_sem] at hc
  have h:=iW zAD h;refine dA (aP (aO (aO (aM hF [0,1,20] (yaA ?_)))));refine aP (cE rfl (fun hc=>?_) (fun hc=>?_))
  ·(try simp only[go_sem] at hc);have h:=jZ zAD h;refine aO (aM hF [4,5] (yaA ?_));obtain⟨g0,h⟩:=bE h;obtain⟨g1,h⟩:=bE h;(repeat (refine⟨zAA,?_⟩));obtain rfl:=Option.some.inj h;refine aP (dL (bU (dR hF [.tmp 4,.tmp 5] rfl rfl rfl ?_)));exact zAK
  ·(try simp only[go_sem] at hc);have h:=iW zAD h;refine dA (aP (aO (aM hF [0,1,6,7] (yaA ?_))));obtain⟨g0,h⟩:=bE h;obtain⟨g1,h⟩:=bE h;(try simp only[I64,I32] at g0);(repeat (refine⟨zAA,?_⟩));refine aP (aO (dI hF [0,6,7,8,9] (yaA ?_)));obtain⟨g0,h⟩:=bE h;(repeat (refine⟨zAA,?_⟩));obtain⟨g0,h⟩:=bE h;(repeat (refine⟨zAA,?_⟩));obtain⟨g0,h⟩:=bE h;(repeat (refine⟨zAA,?_⟩));obtain⟨g0,h⟩:=bE h;(try simp only[I64,I32] at g0);(repeat (refine⟨zAA,?_⟩));obtain⟨g0,h⟩:=bE h;(repeat (refine⟨zAA,?_⟩));refine aP (aO (dI hF [0,6,7,8,9,10] (yaA ?_)));obtain⟨g0,h⟩:=bE h;(try simp only[I64,I32] at g0);(repeat (refine⟨zAA,?_⟩));obtain⟨g0,h⟩:=bE h;(try simp only[I64,I32] at g0);(repeat (refine⟨zAA,?_⟩));obtain⟨g0,h⟩:=bE h;obtain⟨g1,h⟩:=bE h;(repeat (refine⟨zAA,?_⟩));refine aP (zD (D:=qd×qd) (fun d=>aAK F g d.1 d.2=some r) [6,7] (fun d=>[(9,.own 0),(10,.own 1)]) (fun d=>[.inr (.row 119 qk d.1),.inr (.row 119 qk d.2)]) ?_ ?_)
   ·refine aO (aM hF [6,7,8,9,10,11] (yaA ?_));obtain⟨g0,h⟩:=bE h;(try simp only[I64,I32] at g0);(repeat (refine⟨zAA,?_⟩));refine aP (gU (aMb 0 (yaA ?_)));refine zB [1,2] rfl rfl (yaE ?_);refine aCG (D:=Int×qd×qd) [6,7,8] (fun d=>[(9,.own 0),(10,.own 1),(11,.val qi d.1)]) (fun d=>[.inr (.row 119 qk d.2.1),.inr (.row 119 qk d.2.2)]) h ?_ ?_ ?_
    ·first|rfl|(simp only[go_sem]; done)
    ·exact zAJ
    rintro⟨f,J,I⟩ Z h z;simp only[go_sem];(try dsimp only at h);unfold rA at h;refine aO (aO (aM hF [6,7,8,9,10,11,60] (yaA ?_)));refine aP (cE rfl (fun hc=>?_) (fun hc=>?_))
    ·(try simp only[go_sem] at hc);have h:=jZ zAD h;obtain⟨g0,h⟩:=bE h;(try simp only[I64,I32] at g0);obtain⟨g1,h⟩:=bE h;(try simp only[I64,I32] at g1);obtain⟨Y,h⟩:=bE h;obtain⟨q,W,h⟩:=bind_some h;(try dsimp only at h);obtain⟨g3,h⟩:=bE h;refine dA (aP (aO (gU (uH hF (aFN (l:=[(126,⟨aHU F,[0],((f.toNat),(((f+(g.length:Int))+(1:Int))-f).toNat,(dS (fR g (aF (g.getD ((g.length:Int)-(1:Int)).toNat (0:Nat)))) (g.length:Int)),J,q)⟩)]) (.cons (aZ7 F) xAa (.nil))) [6,7,8,9,10,11] [71] ?_))));simp only[go_sem];(repeat (refine⟨zAA,?_⟩));refine iY (aP (aM hF [6,7,8,9,10,11] (yaA ?_)));obtain⟨g0,h⟩:=bE h;(try simp only[I64,I32] at g0);(repeat (refine⟨zAA,?_⟩));obtain rfl:=Option.some.inj h;dsimp only[aAq] at z;refine cD (aK ((f-(1:Int)),q.2,(I.set (f.toNat) q.1)) z rfl ?_)
     ·exact zAJ
    ·(try simp only[go_sem] at hc);have h:=iW zAD h;obtain rfl:=Option.some.inj h;dsimp only[aAq] at z;have h:=yaH (z);refine aDC (fC (fC (lV (cD (aK (J,I) h rfl ?_)))))
     ·exact zAJ
   ·rintro⟨O,N⟩ h;(try dsimp only at h);simp only[go_sem];unfold aAK at h;refine aO (aMb 1 (yaA ?_));refine aMb 0 (yaA ?_);refine aM hF [4,5] (yaA ?_);obtain⟨g0,h⟩:=bE h;obtain⟨g1,h⟩:=bE h;(repeat (refine⟨zAA,?_⟩));obtain rfl:=Option.some.inj h;refine aP (dL (dR hF [.tmp 4,.tmp 5] rfl rfl rfl ?_));exact zAK
theorem aXq:FOK Tryz.prog GL 82 aC2:=fN (aXp none) (fun⟨g,x1,u⟩ ⟨w0,f,q⟩ hp=>aUO g w0 x1 f hp)
theorem aLd:bA Tryz.prog GL []:=.nil
def iK(F:Md)(f:Bool)(g:Int):Option (Unit⊕qt) :=
 if ¬(f=true) then some (.inr (g,())) else some (.inl ())
def aHV(F:Md):qW where
 D:=Bool×Int×(Unit⊕qt)
 av:=fun d=>[.val .bool d.1,.val qi d.2.1]
 hp:=fun d=>[]
 m:=0
 pre:=fun d=>iK F d.1 d.2.1=some d.2.2
 out:=fun d=>match d.2.2 with| .inl r=>.ret (.tup []) []| .inr p=>.pan ⟨195,qo,p⟩ []
@[go_sem]def aHW(F:Md)(vs:List AV)(h:List Vc.Obj):Hit:=mkH (iK F (aBQ h vs 0 .bool) (aBQ h vs 1 qi)) (.inr ((0:Int),())) fun r=>⟨(aHV F),[],((aBQ h vs 0 .bool),(aBQ h vs 1 qi),r)⟩
def aNx:PlR:=⟨[(0,.A [1,5]),(1,.P [] [])],[],[]⟩
abbrev bCP(F:Md):List (FuncId×aH):=[]
theorem bCQ(F:Md):bA Tryz.prog GL (bCP F):=.nil
attribute [go_sem] aNx aHV
theorem aNy(F:Md):GOK Tryz.prog GL 170 (aHV F):=by
 refine aHD (aY (bCQ F)) mix Tryz.func170 rfl xAa (fun _=>Nat.le_of_ble_eq_true rfl) aNx (fun c0 w0 d z q h hV=>?_);obtain⟨(f:Bool),(g:Int),r⟩:=d;have hF:=hV.fr;replace h:=aHE (show iK F f g=some r from h);simp only[aJj,List.map_cons,List.map_nil,go_sem];unfold iK at h;refine aAn h (fun hc h=>?_) fun hc h=>?_
 ·obtain rfl:=iT h;refine aBP rfl rfl rfl rfl
 ·obtain rfl:=iT h;refine aNi (aEm hF [] rfl rfl rfl rfl rfl rfl ?_);exact zaL
def wL(F:Md)(g:Int)(f:qd)(q:Bool):Option (qh⊕qt) :=
 ck (I64 (g+(gR f))) ((iK F (decide ((g+(gR f))≤(1048576:Int))) (3:Int)).bind (fun e=>match e with| .inl I=>ck (I64 (g+(gR f))) (some (.inl (q,(uJ f (gR f)),(g+(gR f)),())))| .inr z=>some (.inr z)))
def yF(F:Md)(q:Bool)(f:qd)(g:Int):Option (qh⊕qt) :=
 if (f.length:Int)=(0:Int) then some (.inl (false,([]:List Nat),(0:Int),())) else ck (pSz f) (ck (aZN f (gR f)) ((iK F (decide ((((uJ f (gR f)).length:Nat):Int)≤(64:Int))) (2:Int)).bind (fun e=>match e with| .inl O=>if g≤(1048576:Int) then ck (I64 ((-1048576:Int)-(gR f))) ((iK F ((decide (g≤(1048576:Int)))&&(decide (((-1048576:Int)-(gR f))≤g))) (3:Int)).bind (fun e=>match e with| .inl N=>wL F g f q| .inr I=>some (.inr I))) else (iK F false (3:Int)).bind (fun e=>match e with| .inl L=>wL F g f q| .inr z=>some (.inr z))| .inr J=>some (.inr J))))
def aJu(F:Md):qW where
 D:=Bool×qd×Int×(qh⊕qt)
 av:=fun d=>[.val .bool d.1,.val qu d.2.1,.val qi d.2.2.1]
 hp:=fun d=>[]
 m:=0
 pre:=fun d=>yF F d.1 d.2.1 d.2.2.1=some d.2.2.2
 out:=fun d=>match d.2.2.2 with| .inl r=>.ret (.val qg r) []| .inr p=>.pan ⟨195,qo,p⟩ []
@[go_sem]def aJv(F:Md)(vs:List AV)(h:List Vc.Obj):Hit:=mkH (yF F (aBQ h vs 0 .bool) (aBQ h vs 1 qu) (aBQ h vs 2 qi)) (.inr ((0:Int),())) fun r=>⟨(aJu F),[],((aBQ h vs 0 .bool),(aBQ h vs 1 qu),(aBQ h vs 2 qi),r)⟩
def aRh(F:Md):PlR:=⟨[(0,.B [0,1,2,6]),(1,.A [0,1,2,6,10]),(2,.B [6]),(3,.A [0,1,2,6,7]),(4,.A [0,1,2,6,7]),(5,.P [0,1,2,6,7] []),(6,.P [0,1,2,6,7] []),(7,.P [0,1,2,6,7] []),(8,.B [6])],[(9,10)],[(170,aHW F)]⟩
abbrev aMr(F:Md):List (FuncId×aH):=[(128,zG),(169,aEq)]
theorem bEB(F:Md):bA Tryz.prog GL (aMr F):=.cons aNr xAa (.cons aZX xAa (.nil))
attribute [go_sem] aRh aJu
theorem aRi(F:Md):GOK Tryz.prog GL 135 (aJu F):=by
 refine aHD (aY (bEB F)) mix Tryz.func135 rfl xAa (fun _=>Nat.le_of_ble_eq_true rfl) (aRh F) (fun c0 w0 d hw W h hV=>?_) (.cons (fun _ _=>(aNy F)) xAa (.nil));obtain⟨(f:Bool),(q:qd),(g:Int),r⟩:=d;have hF:=hV.fr;replace h:=aHE (show yF F f q g=some r from h);simp only[aJj,List.map_cons,List.map_nil,go_sem];unfold yF at h;refine bS h (fun hc h=>?_) fun hc h=>?_
 ·obtain rfl:=iT h;refine aGH hF [.cell 6 74] [] rfl rfl rfl rfl rfl rfl rfl rfl rfl ?_;exact zaL
 ·refine aB h fun g0 h=>(yaB ?_);refine aB h fun g0 h=>(yaB ?_);refine aD h fun e hv h=>?_;rcases e with Y|Z
  ·(try dsimp only at h);simp only[hv,go_sem];refine bH hV (D:=Unit) (fun d=>sat (wL F g q f) (fun z=>z=r)) [0,1,2,7] (fun d=>[(6,.ptr 0 [])]) (fun d=>[.inr (.box 3 (.val qg (false,([]:List Nat),(0:Int),())))]) ?_ ?_
   ·simp only[go_sem];refine⟨fun hc=>?_,fun hc=>?_⟩
    ·replace h:=cW zAD h;refine⟨fun _=>?_,fun hx=>by first|(exfalso; omega)|(exfalso; simp_all; done)⟩;refine⟨fun _=>?_,fun hx=>by first|(exfalso; omega)|(exfalso; simp_all; done)⟩;refine aB h fun g0 h=>(yaB ?_);refine⟨fun _=>?_,fun hx=>by first|(exfalso; omega)|(exfalso; simp_all; done)⟩;refine aD h fun e hv h=>?_;rcases e with O|J
     ·(try dsimp only at h);simp only[hv,go_sem];exact aK () h rfl xAc
     ·(try dsimp only at h);exact zay
    ·replace h:=cX zAD h;(first|(refine⟨fun hx=>by first|(exfalso; omega)|(exfalso; simp_all; done),fun _=>?_⟩)|(with_reducible intro _)|skip);(first|(refine⟨fun hx=>by first|(exfalso; omega)|(exfalso; simp_all; done),fun _=>?_⟩)|(with_reducible intro _)|skip);(first|(refine⟨fun hx=>by first|(exfalso; omega)|(exfalso; simp_all; done),fun _=>?_⟩)|(with_reducible intro _)|skip);refine aD h fun e hv h=>?_;rcases e with N|I
     ·(try dsimp only at h);simp only[hv,go_sem];(repeat (refine⟨zAB,?_⟩));exact aK () h rfl (by (try simp only[rY,kN,true_or,and_self,go_sem])<;>(repeat' apply And.intro)<;>first|rfl|(left; rfl)|(right; rfl)|(left; simp only[go_sem]; done)|(right; simp only[go_sem]; done)|(simp; done)|(simp only[*]; done)|omega)
     ·(try dsimp only at h);simp only[hv,go_sem];(repeat (refine⟨zAB,?_⟩));exact zaP
   ·rintro u h;simp only[go_sem];replace h:sat (wL F g q f) _:=h;unfold wL at h;refine aB h fun g0 h=>(yaB ?_);refine aD h fun e hv h=>?_;rcases e with L|U
    ·(try dsimp only at h);simp only[hv,go_sem];refine aB h fun g0 h=>(yaB ?_);obtain rfl:=iT h;refine aGH hF [.cell 6 74] [] rfl rfl rfl rfl rfl rfl rfl rfl rfl ?_;exact zaL
    ·(try dsimp only at h);exact zay
  ·(try dsimp only at h);exact zay
def zH(F:Md)(q:Bool)(f:qd)(g:Int):Option (qh⊕qt) :=
 (yF F q f g).bind (fun e=>match e with| .inl I=>some (.inl I)| .inr z=>some (.inr z))
def aC3(F:Md):qW where
 D:=Bool×qd×Int×(qh⊕qt)
 av:=fun d=>[.val (.rp .bool) d.1,.val (.rp qu) d.2.1,.val (.rp qi) d.2.2.1]
 hp:=fun d=>[]
 m:=0
 pre:=fun d=>zH F d.1 d.2.1 d.2.2.1=some d.2.2.2
 out:=fun d=>match d.2.2.2 with| .inl r=>.ret (.val qg r) []| .inr p=>.pan ⟨195,qo,p⟩ []
def aLe(F:Md):PlR:=⟨[(0,.B [0,1,2,3]),(1,.P [3] [])],[],[(135,aJv F)]⟩
abbrev aZ8(F:Md):List (FuncId×aH):=[]
theorem aZ9(F:Md):bA Tryz.prog GL (aZ8 F):=.nil
attribute [go_sem] aLe aC3
theorem aLf(F:Md):GOK Tryz.prog GL 134 (aC3 F):=by
 refine aHD (aY (aZ9 F)) mix Tryz.func134 rfl xAa (fun _=>Nat.le_of_ble_eq_true rfl) (aLe F) (fun c0 w0 d L z h hV=>?_) (.cons (fun _ _=>(aRi F)) xAa (.nil));obtain⟨(f:Bool),(g:qd),(q:Int),r⟩:=d;have hF:=hV.fr;replace h:=aHE (show zH F f g q=some r from h);simp only[aJj,List.map_cons,List.map_nil,go_sem];unfold zH at h;refine aD h fun e hv h=>?_;rcases e with I|J
 ·try dsimp only at h
  simp only[hv,go_sem];exact zaw
 ·try dsimp only at h
  exact zay
def oR:qW where
 D:=qh×Int
 av:=fun _=>[.ptr 0 [],.ptr 1 []]
 hp:=fun d=>[.box 3 (.val qg d.1),.box 1 (.val qi d.2)]
 m:=2
 pre:=fun _=>True
 out:=fun d=>.ret (.tup []) [.box 3 (.val qg d.1),.box 1 (.val qi d.2)]
def oS(x:qt):qW where
 D:=qh×Int
 av:=fun _=>[.ptr 0 [],.ptr 1 []]
 hp:=fun d=>[.box 3 (.val qg d.1),.box 1 (.val qi d.2)]
 m:=2
 pre:=fun _=>True
 out:=fun d=>.ret (.tup []) [.box 3 (.val qg (false,([]:List Nat),(0:Int),())),.box 1 (.val qi x.1)]
theorem aJw:DOK Tryz.prog GL 168 none oR:=by
 refine bIL (aY aLd) Tryz.func168 rfl xAa (fun _=>Nat.le_of_ble_eq_true rfl) rfl fun c w d f g hp q=>?_;have hF:xT ⟨Tryz.prog,EM [],GM oR c d,w,Tryz.f168.ntmps,[]⟩:=⟨aY aLd,mix⟩;obtain⟨d,e⟩:=d;show yZ _ _ _ [(5,.val .nili ()),(0,.ptr 0 []),(1,.ptr 1 [])] [.box 3 (.val qg d),.box 1 (.val qi e)] _;simp only[go_sem];refine aO (aM hF [0,1,2,9] (yaA ?_));refine aP (cE rfl (fun hc=>absurd hc xAb) (fun hc=>?_));refine dA ?_;refine fA [0,1] rfl rfl (yaE ?_);refine aNi (aEm hF [] rfl rfl rfl rfl rfl rfl ?_);simp only[aQ,aIP,aHz,go_sem];try decide
theorem aJx(x:qt):DOK Tryz.prog GL 168 (some ⟨195,qo,x⟩) (oS x):=by
 refine bIL (aY aLd) Tryz.func168 rfl xAa (fun _=>Nat.le_of_ble_eq_true rfl) rfl fun c w d f g hp q=>?_;have hF:xT ⟨Tryz.prog,EM [],GM (oS x) c d,w,Tryz.f168.ntmps,[]⟩:=⟨aY aLd,mix⟩;obtain⟨d,e⟩:=d;show yZ _ _ _ [(5,.val (.ifc 195 qo) x),(0,.ptr 0 []),(1,.ptr 1 [])] [.box 3 (.val qg d),.box 1 (.val qi e)] _;simp only[go_sem];refine aO (aM hF [0,1,2,9] (yaA ?_));refine aP (cE rfl (fun hc=>?_) (fun hc=>absurd hc xAb));refine aQ0 hF [] [] [.box 3 (.val qg (false,([]:List Nat),(0:Int),())),.box 1 (.val qi x.1),.box 1 (.val qo x)] xAb ?_ ?_
 ·simp only[go_sem];unfold anyS;intro i hi;have hi:i=0∨i=1:=by revert hi; revert i; decide
  rcases hi with rfl|rfl
  ·simp only[go_sem];skip;unfold anyS;intro i hi;have hi:i=1∨i=3:=(by revert hi; revert i; decide);rcases hi with rfl|rfl
   ·simp only[go_sem];exact zaY
   ·simp only[go_sem];skip;unfold anyS;intro i hi;have hi:i=1:=(by revert hi; revert i; decide);subst hi;simp only[go_sem];skip;unfold anyS;intro i hi;have hi:i=2:=(by revert hi; revert i; decide);exact zaH
  ·simp only[go_sem];skip;unfold anyS;intro i hi;have hi:i=0∨i=2:=(by revert hi; revert i; decide);rcases hi with rfl|rfl
   ·simp only[go_sem];exact zaY
   ·simp only[go_sem];skip;unfold anyS;intro i hi;have hi:i=0:=(by revert hi; revert i; decide);subst hi;simp only[go_sem];skip;unfold anyS;intro i hi;have hi:i=3:=(by revert hi; revert i; decide);exact zaH
 refine fA [0,1] rfl rfl (yaE ?_);refine aNi (aEm hF [] rfl rfl rfl rfl rfl rfl ?_);simp only[aQ,aIP,aHz,go_sem];try decide
def fO(F:Md)(c0:Bool)(c1:qd)(f:Int):Option (qh×Int×Unit) :=
 (zH F c0 c1 f).bind fun q=>some (match q with| .inl r=>(r,0,())| .inr p=>((false,([]:List Nat),(0:Int),()),p.1,()))
def aBk:Ty:=.pair (.clo 134 (.pair (.rp .bool) (.pair (.rp qu) (.pair (.rp qi) .unit)))) .unit
def lY(F:Md):aH:=mSpec aBk (.tup ve) (fun x=>fO F x.1.1 x.1.2.1 x.1.2.2.1)
theorem aGg(F:Md):FOK Tryz.prog GL 133 (lY F):=by
 refine aUB (aY aLd) Tryz.func133 rfl xAa xAb fun w0 S x r z h=>?_;have hF:xT (fr Tryz.prog (EM []) S w0 Tryz.f133.ntmps):=⟨aY aLd,mix⟩;obtain⟨⟨(c0:Bool),(c1:qd),(f:Int),g⟩,u⟩:=x;replace h:fO F c0 c1 f=some r:=h;show Tri _ _ _ [(0,.val (.clo 134 (.pair (.rp .bool) (.pair (.rp qu) (.pair (.rp qi) .unit)))) (c0,c1,f,g))] [];unfold fO at h;obtain⟨q,hq,h⟩:=bind_some h;obtain rfl:=Option.some.inj h;refine aO (dI hF [0,2,3] (yaA ?_));refine aP (aK3 2 [0,1] rfl rfl (Nat.zero_le _) xAb fun roots hroots=>?_);have hF':xT { fr Tryz.prog (EM []) S w0 Tryz.f133.ntmps with M:=⟨nothing,S,2,roots⟩,ds:=[⟨.fn (.func 168) ([0,1].map roots).toArray,#[]⟩] }:=⟨aY aLd,mix⟩;rcases q with q|q
 ·refine aO (uH hF' (aFN (l:=[(134,⟨aC3 F,[],(c0,c1,f,.inl q)⟩)]) (.cons (aLf F) xAa .nil)) [2,3] [] (yaA ?_));exact zag
 ·refine aO (uH hF' (aFN (l:=[(134,⟨aC3 F,[],(c0,c1,f,.inr q)⟩)]) (.cons (aLf F) xAa .nil)) [2,3] [] (yaA ?_));exact zaa
attribute [go_sem] lY aBk
def yG(F:Md)(f:Bool)(q:qd)(g:Int):Option vm :=
 (fO F f q g).bind (fun v_7=>some (v_7.1,v_7.2.1,()))
def aRj:PlR:=⟨[(0,.B [3,4,5,6]),(1,.stop)],[],[]⟩
def aU1:Ty:=.pair .bool (.pair qu qo)
def aBl(F:Md):aH:=mSpec aU1 (.tup ve) (fun x=>yG F x.1 x.2.1 x.2.2.1)
abbrev aU2(F:Md):List (FuncId×aH):=[(133,(lY F))]
theorem bEC(F:Md):bA Tryz.prog GL (aU2 F):=.cons (aGg F) xAa (.nil)
attribute [go_sem] aU1 aRj
theorem aRk(F:Md):FOK Tryz.prog GL 86 (aBl F):=by
 refine aX (aY (bEC F)) mix Tryz.func86 rfl xAa xAb aRj (fun w0 S x Θ z h hV=>?_);obtain⟨(f:Bool),(q:qd),(g:Int),u⟩:=x;simp only[bD,go_sem];replace h:sat (yG F f q g) _:=h;unfold yG at h;refine aDF 0 rfl (yaA ?_);refine aDF 1 rfl (yaA ?_);refine aDF 2 rfl (yaA ?_);refine xX hV [6,7] (yaA ?_);refine aD h fun v_7 hv h=>?_;try simp only[hv,go_sem]
 exact aE hV [.cell 6 74,.tmp 7] rfl rfl rfl (aA h) xAd
attribute [go_sem] aBl
def jG(F:Md)(f:qh):Option Bool :=
 if (f.2.1.length:Int)=(0:Int) then some ((!f.1)&&(decide (f.2.2.1=(0:Int)))) else ck (((aGM f.2.1)=true)→((0:Int)<(f.2.1.length:Int))) (some ((((aGM f.2.1)&&(decide (((f.2.1.getD (0:Nat) (0:Nat))&&&(1:Nat))=(1:Nat))))&&(decide ((-1048576:Int)≤f.2.2.1)))&&(decide (f.2.2.1≤(1048576:Int)))))
def aRl:PlR:=⟨[(0,.B [1]),(1,.A [1,6]),(2,.A [2]),(3,.A [2])],[],[]⟩
def aU4:Ty:=.pair qg .unit
def uK(F:Md):aH:=mSpec aU4 (.one .bool) (fun x=>jG F x.1)
abbrev aU5(F:Md):List (FuncId×aH):=[(136,aHP)]
theorem bED(F:Md):bA Tryz.prog GL (aU5 F):=.cons bEu xAa (.nil)
attribute [go_sem] aU4 aRl
theorem aJy(F:Md):FOK Tryz.prog GL 87 (uK F):=by
 refine aX (aY (bED F)) mix Tryz.func87 rfl xAa xAb aRl (fun w0 S x Θ g h hV=>?_);obtain⟨(f:qh),u⟩:=x;simp only[bD,go_sem];replace h:sat (jG F f) _:=h;unfold jG at h;refine bS h (fun hc h=>?_) fun hc h=>?_
 ·exact aE hV [.tmp 2] rfl rfl rfl (aA h) xAd
 ·refine aG h fun g0 h=>?_;exact zaB
attribute [go_sem] uK
def gS(F:Md)(f:qh):Option Int :=
 (jG F f).bind (fun v_7=>if (¬(v_7=true))∨((f.2.1.length:Int)=(0:Int)) then some (0:Int) else if f.1=true then some (-1:Int) else some (1:Int))
def aNz:PlR:=⟨[(0,.B [1]),(1,.A [1,3]),(2,.A [2]),(3,.A [13]),(4,.A [2]),(5,.A [2])],[],[]⟩
def aRm:Ty:=.pair qg .unit
def zI(F:Md):aH:=mSpec aRm (.one qi) (fun x=>gS F x.1)
abbrev aRn(F:Md):List (FuncId×aH):=[(87,(uK F))]
theorem bCR(F:Md):bA Tryz.prog GL (aRn F):=.cons (aJy F) xAa (.nil)
attribute [go_sem] aRm aNz
theorem aNA(F:Md):FOK Tryz.prog GL 50 (zI F):=by
 refine aX (aY (bCR F)) mix Tryz.func50 rfl xAa xAb aNz (fun w0 S x Θ g h hV=>?_);obtain⟨(f:qh),u⟩:=x;simp only[bD,go_sem];replace h:sat (gS F f) _:=h;unfold gS at h;exact zaz
attribute [go_sem] zI
def aBm(F:Md)(g:qh)(f:qh):Option Int :=
 ck (bGa g.2.1) (ck (I64 ((pO g.2.1)+g.2.2.1)) (ck (bGa f.2.1) (ck (I64 ((pO f.2.1)+f.2.2.1)) (if ((pO g.2.1)+g.2.2.1)<((pO f.2.1)+f.2.2.1) then some (-1:Int) else if ((pO f.2.1)+f.2.2.1)<((pO g.2.1)+g.2.2.1) then some (1:Int) else ck (I64 (g.2.2.1-(min g.2.2.1 f.2.2.1))) (ck (aYH g.2.1 (g.2.2.1-(min g.2.2.1 f.2.2.1))) (ck (I64 (f.2.2.1-(min g.2.2.1 f.2.2.1))) (ck (aYH f.2.1 (f.2.2.1-(min g.2.2.1 f.2.2.1))) (ck (bCm (fR g.2.1 (g.2.2.1-(min g.2.2.1 f.2.2.1))) (fR f.2.1 (f.2.2.1-(min g.2.2.1 f.2.2.1)))) (some (gQ (fR g.2.1 (g.2.2.1-(min g.2.2.1 f.2.2.1))) (fR f.2.1 (f.2.2.1-(min g.2.2.1 f.2.2.1)))))))))))))
def aNB:PlR:=⟨[(0,.B [2,3]),(1,.A [2,3,5,6]),(2,.A [2,3,5,6,20]),(3,.A [4]),(4,.A [2,3,24]),(5,.A [4]),(6,.A [2,3,7]),(7,.A [4])],[],[]⟩
def aRo:Ty:=.pair qg (.pair qg .unit)
def aEs(F:Md):aH:=mSpec aRo (.one qi) (fun x=>aBm F x.1 x.2.1)
abbrev aFS(F:Md):List (FuncId×aH):=[(125,aBj),(137,aFP),(93,rH)]
theorem bCS(F:Md):bA Tryz.prog GL (aFS F):=.cons aRf xAa (.cons bCC xAa (.cons aHQ xAa (.nil)))
attribute [go_sem] aRo aNB
theorem bAa(F:Md):FOK Tryz.prog GL 88 (aEs F):=by
 refine aX (aY (bCS F)) mix Tryz.func88 rfl xAa xAb aNB (fun w0 S x Θ I h hV=>?_);obtain⟨(f:qh),(g:qh),u⟩:=x;simp only[bD,go_sem];replace h:sat (aBm F f g) _:=h;unfold aBm at h;refine aG h fun g0 h=>aG h fun g1 h=>aG h fun q h=>aG h fun z h=>?_;refine bP h (fun hc h=>?_) fun hc h=>?_
 ·exact aE hV [.tmp 4] rfl rfl rfl (aA h) xAd
 ·refine bP h (fun hc h=>?_) fun hc h=>?_
  ·exact aE hV [.tmp 4] rfl rfl rfl (aA h) xAd
  ·refine aG h fun g0 h=>aG h fun g1 h=>aG h fun q h=>aG h fun z h=>aG h fun J h=>?_;exact zaE
attribute [go_sem] aEs
def uY(F:Md)(J:qh)(q:qh):Option Int :=
 (gS F J).bind (fun f=>(gS F q).bind (fun g=>(jG F J).bind (fun I=>ck (¬(¬(I=true))→((jG F q).isSome=true)) (if (¬(I=true))∨(¬(((jG F q).getD false)=true)) then some (0:Int) else if (¬(f=g))∧(f<g) then some (-1:Int) else if ¬(f=g) then some (1:Int) else if f=(0:Int) then some (0:Int) else (aBm F J q).bind (fun z=>ck (I64 (f*z)) (some (f*z)))))))
def aRp:PlR:=⟨[(0,.B [2,3]),(1,.A [2,3,5,6]),(2,.A [2,3,5,6,11]),(3,.A [4]),(4,.A [2,3,5,6,20]),(5,.A [4]),(6,.A [2,3,5,29]),(7,.A [4]),(8,.A [2,3,5,33]),(9,.A [4]),(10,.A [4])],[],[]⟩
def aU9:Ty:=.pair qg (.pair qg .unit)
def aBn(F:Md):aH:=mSpec aU9 (.one qi) (fun x=>uY F x.1 x.2.1)
abbrev aHX(F:Md):List (FuncId×aH):=[(50,(zI F)),(87,(uK F)),(88,(aEs F))]
theorem bEE(F:Md):bA Tryz.prog GL (aHX F):=.cons (aNA F) xAa (.cons (aJy F) xAa (.cons (bAa F) xAa (.nil)))
attribute [go_sem] aU9 aRp
theorem aRq(F:Md):FOK Tryz.prog GL 51 (aBn F):=by
 refine aX (aY (bEE F)) mix Tryz.func51 rfl xAa xAb aRp (fun w0 S x Θ L h hV=>?_);obtain⟨(f:qh),(g:qh),u⟩:=x;simp only[bD,go_sem];replace h:sat (uY F f g) _:=h;unfold uY at h;refine aD h fun I hv h=>?_;try simp only[hv,go_sem]
 refine aD h fun J hv h=>?_;try simp only[hv,go_sem]
 refine aD h fun z hv h=>?_;try simp only[hv,go_sem]
 refine aB h fun g0 h=>(yaG ?_);refine⟨fun hc=>?_,fun hc=>?_⟩
 ·replace h:=cW zAD h;exact zaE
 ·replace h:=cX zAD h;refine⟨fun hc=>?_,fun hc=>?_⟩
  ·replace h:=cW hc h;exact zaE
  ·replace h:=cX hc h;refine bS h (fun hc h=>?_) fun hc h=>?_
   ·exact aE hV [.tmp 4] rfl rfl rfl (aA h) xAd
   ·refine bS h (fun hc h=>?_) fun hc h=>?_
    ·exact aE hV [.tmp 4] rfl rfl rfl (aA h) xAd
    ·refine aD h fun q hv h=>?_;(try simp only[hv,go_sem]);refine aB h fun g0 h=>?_;(try simp only[I64,I32] at g0);(repeat (refine⟨zAB,?_⟩));exact zaE
attribute [go_sem] aBn
def zJ(F:Md)(q:Int)(g:Int)(f:Nat):Option vm :=
 ck (pSz ([f]:List Nat)) ((yG F (decide (q<(0:Int))) (sC ([f]:List Nat)) g).bind (fun v_5=>some (v_5.1,v_5.2.1,())))
def aEY(F:Md)(f:Int)(g:Int):Option vm :=
 if f<(0:Int) then zJ F f g (aKN F .u64 (f%(18446744073709551616:Int)).toNat) else zJ F f g (f%(18446744073709551616:Int)).toNat
def aVa:PlR:=⟨[(0,.B [0,1,4]),(1,.A [0,1,4,6]),(2,.A [0,1,4,6,10]),(3,.A [0,1,4,6]),(4,.B [4,5])],[(5,7)],[]⟩
def aYK:Ty:=.pair qi qo
def aHY(F:Md):aH:=mSpec aYK (.tup ve) (fun x=>aEY F x.1 x.2.1)
abbrev aP0(F:Md):List (FuncId×aH):=[(132,aBi),(86,(aBl F))]
theorem bHC(F:Md):bA Tryz.prog GL (aP0 F):=.cons aRd xAa (.cons (aRk F) xAa (.nil))
attribute [go_sem] aYK aVa
theorem bEF(F:Md):FOK Tryz.prog GL 89 (aHY F):=by
 refine aX (aY (bHC F)) mix Tryz.func89 rfl xAa xAb aVa (fun w0 S x Θ z h hV=>?_);obtain⟨(f:Int),(g:Int),u⟩:=x;simp only[bD,go_sem];replace h:sat (aEY F f g) _:=h;unfold aEY at h;refine bH hV (D:=Nat) (fun d=>sat (zJ F f g d) Θ) [0,1] (fun d=>[(4,.ptr 0 []),(6,.val qk d)]) (fun d=>[.inr (.box 3 (.val qg (false,([]:List Nat),(0:Int),())))]) ?_ ?_
 ·simp only[go_sem,aR F,aS F,aT F];refine bP h (fun hc h=>?_) fun hc h=>?_
  ·exact aK (aKN F .u64 (f%(18446744073709551616:Int)).toNat) h rfl xAe
  ·exact aK (f%(18446744073709551616:Int)).toNat h rfl xAe
 ·rintro q h;simp only[go_sem,aR F,aS F,aT F];replace h:sat (zJ F f g q) _:=h;unfold zJ at h;refine aB h fun g0 h=>(yaB ?_);refine aD h fun v_5 hv h=>?_;try simp only[hv,go_sem,aR F,aS F,aT F]
  exact aE hV [.cell 4 74,.tmp 5] rfl rfl rfl (aA h) xAf
attribute [go_sem] aHY
def rI(F:Md)(g:qh)(f:qh):Option (qh⊕qt) :=
 ck (aSg g.2.1 f.2.1) (ck (I64 (g.2.2.1+f.2.2.1)) ((yF F (g.1 != f.1) (bY g.2.1 f.2.1) (g.2.2.1+f.2.2.1)).bind (fun e=>match e with| .inl z=>some (.inl z)| .inr q=>some (.inr q))))
def aGh(F:Md):qW where
 D:=qh×qh×(qh⊕qt)
 av:=fun d=>[.val qg d.1,.val qg d.2.1]
 hp:=fun d=>[]
 m:=0
 pre:=fun d=>rI F d.1 d.2.1=some d.2.2
 out:=fun d=>match d.2.2 with| .inl r=>.ret (.val qg r) []| .inr p=>.pan ⟨195,qo,p⟩ []
@[go_sem]def aLg(F:Md)(vs:List AV)(h:List Vc.Obj):Hit:=mkH (rI F (aBQ h vs 0 qg) (aBQ h vs 1 qg)) (.inr ((0:Int),())) fun r=>⟨(aGh F),[],((aBQ h vs 0 qg),(aBQ h vs 1 qg),r)⟩
def aLh(F:Md):PlR:=⟨[(0,.B [2,3,4]),(1,.Q 15 [4] [])],[],[(135,aJv F)]⟩
abbrev aNC(F:Md):List (FuncId×aH):=[(83,fD)]
theorem bAc(F:Md):bA Tryz.prog GL (aNC F):=.cons zF xAa (.nil)
attribute [go_sem] aLh aGh
theorem aXv(F:Md):GOK Tryz.prog GL 139 (aGh F):=by
 refine aHD (aY (bAc F)) mix Tryz.func139 rfl xAa (fun _=>Nat.le_of_ble_eq_true rfl) (aLh F) (fun c0 w0 d J I h hV=>?_) (.cons (fun _ _=>(aRi F)) xAa (.nil));obtain⟨(f:qh),(g:qh),r⟩:=d;have hF:=hV.fr;replace h:=aHE (show rI F f g=some r from h);simp only[aJj,List.map_cons,List.map_nil,go_sem];unfold rI at h;refine⟨by kernel_rfl,?_⟩;refine aB h fun g0 h=>?_;refine aB h fun g1 h=>?_;try simp only[I64,I32] at g1
 repeat (refine⟨zAB,?_⟩)
 refine aD h fun e hv h=>?_;rcases e with z|q
 ·try dsimp only at h
  simp only[hv,go_sem];obtain rfl:=iT h;refine aGH hF [.cell 4 74] [] rfl rfl rfl rfl rfl rfl rfl rfl rfl ?_;exact zaL
 ·try dsimp only at h
  exact zay
def fP(F:Md)(f:qh)(g:qh)(W:Unit):Option (qh⊕qt) :=
 ck ((jG F f).isSome=true) (if ((jG F f).getD false)=true then ck ((jG F g).isSome=true) ((iK F (((jG F f).getD false)&&((jG F g).getD false)) (1:Int)).bind (fun e=>match e with| .inl U=>(rI F f g).bind (fun e=>match e with| .inl L=>some (.inl L)| .inr z=>some (.inr z))| .inr J=>some (.inr J))) else (iK F false (1:Int)).bind (fun e=>match e with| .inl O=>(rI F f g).bind (fun e=>match e with| .inl N=>some (.inl N)| .inr q=>some (.inr q))| .inr I=>some (.inr I)))
def lZ(F:Md):qW where
 D:=qh×qh×Unit×(qh⊕qt)
 av:=fun d=>[.val (.rp qg) d.1,.val (.rp qg) d.2.1,.val (.rp (.clo 139 .unit)) d.2.2.1]
 hp:=fun d=>[]
 m:=0
 pre:=fun d=>fP F d.1 d.2.1 d.2.2.1=some d.2.2.2
 out:=fun d=>match d.2.2.2 with| .inl r=>.ret (.val qg r) []| .inr p=>.pan ⟨195,qo,p⟩ []
def aAr(F:Md):PlR:=⟨[(0,.B [0,1,2,3]),(1,.P [0,1,2,3] []),(2,.P [3] [])],[],[(139,aLg F),(170,aHW F)]⟩
abbrev aBo(F:Md):List (FuncId×aH):=[(87,(uK F))]
theorem aGQ(F:Md):bA Tryz.prog GL (aBo F):=.cons (aJy F) xAa (.nil)
attribute [go_sem] aAr lZ
theorem aAs(F:Md):GOK Tryz.prog GL 171 (lZ F):=by
 refine aHD (aY (aGQ F)) mix Tryz.func171 rfl xAa (fun _=>Nat.le_of_ble_eq_true rfl) (aAr F) (fun c0 w0 d Z Y h hV=>?_) (.cons (fun _ _=>(aXv F)) xAa (.cons (fun _ _=>(aNy F)) xAa (.nil)));obtain⟨(q:qh),(f:qh),(g:Unit),r⟩:=d;have hF:=hV.fr;replace h:=aHE (show fP F q f g=some r from h);simp only[aJj,List.map_cons,List.map_nil,go_sem];unfold fP at h;refine aG h fun g0 h=>?_;refine⟨fun hc=>?_,fun hc=>?_⟩
 ·replace h:=cW zAD h;refine⟨fun _=>?_,fun hx=>by first|(exfalso; omega)|(exfalso; simp_all; done)⟩;refine aG h fun g0 h=>?_;refine aD h fun e hv h=>?_;rcases e with O|N
  ·(try dsimp only at h);simp only[hv,go_sem];refine aD h fun e hv h=>?_;rcases e with W|J
   ·(try dsimp only at h);simp only[hv,go_sem];exact zaw
   ·(try dsimp only at h);exact zay
  ·(try dsimp only at h);exact zay
 ·replace h:=cX zAD h;first|(refine⟨fun hx=>by first|(exfalso; omega)|(exfalso; simp_all; done),fun _=>?_⟩)|(with_reducible intro _)|skip
  refine aD h fun e hv h=>?_;rcases e with z|L
  ·(try dsimp only at h);simp only[hv,go_sem];refine aD h fun e hv h=>?_;rcases e with U|I
   ·(try dsimp only at h);simp only[hv,go_sem];(repeat (refine⟨zAB,?_⟩));exact zaw
   ·(try dsimp only at h);simp only[hv,go_sem];(repeat (refine⟨zAB,?_⟩));exact zaP
  ·(try dsimp only at h);simp only[hv,go_sem];(repeat (refine⟨zAB,?_⟩));exact zaP
def cG(F:Md)(c0:qh)(c1:qh)(f:Unit):Option (qh×Int×Unit) :=
 (fP F c0 c1 f).bind fun q=>some (match q with| .inl r=>(r,0,())| .inr p=>((false,([]:List Nat),(0:Int),()),p.1,()))
def pU:Ty:=.pair (.clo 171 (.pair (.rp qg) (.pair (.rp qg) (.pair (.rp (.clo 139 .unit)) .unit)))) .unit
def eK(F:Md):aH:=mSpec pU (.tup ve) (fun x=>cG F x.1.1 x.1.2.1 x.1.2.2.1)
theorem aAt(F:Md):FOK Tryz.prog GL 133 (eK F):=by
 refine aUB (aY aLd) Tryz.func133 rfl xAa xAb fun w0 S x r z h=>?_;have hF:xT (fr Tryz.prog (EM []) S w0 Tryz.f133.ntmps):=⟨aY aLd,mix⟩;obtain⟨⟨(c0:qh),(c1:qh),(f:Unit),g⟩,u⟩:=x;replace h:cG F c0 c1 f=some r:=h;show Tri _ _ _ [(0,.val (.clo 171 (.pair (.rp qg) (.pair (.rp qg) (.pair (.rp (.clo 139 .unit)) .unit)))) (c0,c1,f,g))] [];unfold cG at h;obtain⟨q,hq,h⟩:=bind_some h;obtain rfl:=Option.some.inj h;refine aO (dI hF [0,2,3] (yaA ?_));refine aP (aK3 2 [0,1] rfl rfl (Nat.zero_le _) xAb fun roots hroots=>?_);have hF':xT { fr Tryz.prog (EM []) S w0 Tryz.f133.ntmps with M:=⟨nothing,S,2,roots⟩,ds:=[⟨.fn (.func 168) ([0,1].map roots).toArray,#[]⟩] }:=⟨aY aLd,mix⟩;rcases q with q|q
 ·refine aO (uH hF' (aFN (l:=[(171,⟨lZ F,[],(c0,c1,f,.inl q)⟩)]) (.cons (aAs F) xAa .nil)) [2,3] [] (yaA ?_));exact zag
 ·refine aO (uH hF' (aFN (l:=[(171,⟨lZ F,[],(c0,c1,f,.inr q)⟩)]) (.cons (aAs F) xAa .nil)) [2,3] [] (yaA ?_));exact zaa
attribute [go_sem] eK pU
def kW(F:Md)(q:qh)(g:qh)(f:Unit):Option vm :=
 ck ((cG F q g f).isSome=true) (some (((cG F q g f).getD ((false,([]:List Nat),(0:Int),()),(0:Int),())).1,((cG F q g f).getD ((false,([]:List Nat),(0:Int),()),(0:Int),())).2.1,()))
def aB1:PlR:=⟨[(0,.B [3,4,5,6]),(1,.stop)],[],[]⟩
def aCs:Ty:=.pair qg (.pair qg (.pair (.clo 139 .unit) .unit))
def oF(F:Md):aH:=mSpec aCs (.tup ve) (fun x=>kW F x.1 x.2.1 x.2.2.1)
abbrev aCt(F:Md):List (FuncId×aH):=[(133,(eK F))]
theorem aIR(F:Md):bA Tryz.prog GL (aCt F):=.cons (aAt F) xAa (.nil)
attribute [go_sem] aCs aB1
theorem aHZ(F:Md):FOK Tryz.prog GL 138 (oF F):=by
 refine aX (aY (aIR F)) mix Tryz.func138 rfl xAa xAb aB1 (fun w0 S x Θ z h hV=>?_);obtain⟨(q:qh),(g:qh),(f:Unit),u⟩:=x;simp only[bD,go_sem];replace h:sat (kW F q g f) _:=h;unfold kW at h;refine aDF 0 rfl (yaA ?_);refine aDF 1 rfl (yaA ?_);refine aDF 2 rfl (yaA ?_);refine xX hV [6,7] (yaA ?_);refine aG h fun g0 h=>?_;exact aE hV [.cell 6 74,.tmp 7] rfl rfl rfl (aA h) xAd
attribute [go_sem] oF
def aCM(F:Md)(q:qh)(g:qh):Option vm :=
 (kW F q g ()).bind (fun f=>some (f.1,f.2.1,()))
def aRr:PlR:=⟨[(0,.B [2,3,4]),(1,.B [4,5])],[],[]⟩
def aVb:Ty:=.pair qg (.pair qg .unit)
def aFT(F:Md):aH:=mSpec aVb (.tup ve) (fun x=>aCM F x.1 x.2.1)
abbrev aVc(F:Md):List (FuncId×aH):=[(138,(oF F))]
theorem bEG(F:Md):bA Tryz.prog GL (aVc F):=.cons (aHZ F) xAa (.nil)
attribute [go_sem] aVb aRr
theorem bCT(F:Md):FOK Tryz.prog GL 90 (aFT F):=by
 refine aX (aY (bEG F)) mix Tryz.func90 rfl xAa xAb aRr (fun w0 S x Θ z h hV=>?_);obtain⟨(g:qh),(f:qh),u⟩:=x;simp only[bD,go_sem];replace h:sat (aCM F g f) _:=h;unfold aCM at h;refine aD h fun q hv h=>?_;try simp only[hv,go_sem]
 exact aE hV [.cell 4 74,.tmp 5] rfl rfl rfl (aA h) xAd
attribute [go_sem] aFT
def aA8:ByteArray:=⟨⟨97::98::99::100::101::102::103::104::105::106::107::108::109::110::111::112::113::114::115::116::117::118::119::120::121::122::48::49::50::51::52::53::54::55::56::57::95:: []⟩⟩
@[go_sem]theorem aXw:(⟨⟨97::98::99::100::101::102::103::104::105::106::107::108::109::110::111::112::113::114::115::116::117::118::119::120::121::122::48::49::50::51::52::53::54::55::56::57::95:: []⟩⟩:ByteArray)=aA8:=rfl
def pV(F:Md)(g:Nat)(f:qd):Option (qd⊕qd) :=
 ck (((0:Int)<(f.length:Int))→(I64 ((f.length:Int)-(1:Int)))) (ck (((0:Int)<(f.length:Int))→(0≤((f.length:Int)-(1:Int))∧((f.length:Int)-(1:Int))<(f.length:Int))) (if ((0:Int)<(f.length:Int))∧((f.getD ((f.length:Int)-(1:Int)).toNat (0:Nat))=g) then ck (I64 ((f.length:Int)-(1:Int))) (ck (0≤((f.length:Int)-(1:Int))∧((f.length:Int)-(1:Int))≤(f.length:Int)) (some (.inl (List.take ((f.length:Int)-(1:Int)).toNat f)))) else some (.inr f)))
def nB(F:Md)(f:qd)(g:Nat):Option qd :=
 (bO F (fun d:qd=>pV F g d) f).bind (fun e=>some e)
def aAu:PlR:=⟨[(0,.A [0,1]),(1,.A [0,1,16]),(2,.A [0,1]),(3,.A [4])],[],[]⟩
def aBp:Ty:=.pair .str (.pair qw .unit)
def mC(F:Md):aH:=mSpec aBp (.one .str) (fun x=>nB F x.1 x.2.1)
abbrev aGR(F:Md):List (FuncId×aH):=[]
theorem aGS(F:Md):bA Tryz.prog GL (aGR F):=.nil
attribute [go_sem] aBp aAu
theorem aGi(F:Md):FOK Tryz.prog GL 149 (mC F):=by
 refine aX (aY (aGS F)) mix Tryz.func149 rfl xAa xAb aAu (fun w0 S x Θ L h hV=>?_);obtain⟨(z:qd),(f:Nat),u⟩:=x;simp only[bD,go_sem];replace h:sat (nB F z f) _:=h;unfold nB at h;refine aU hV (D:=qd) [1] (fun d=>[(0,.val .str d)]) (fun d=>[]) h rfl xAc ?_;rintro I J N q g h;simp only[go_sem];replace h:sat (pV F f I) _:=h;unfold pV at h;refine aG h fun g0 h=>aG h fun g1 h=>?_;refine⟨fun hc=>?_,fun hc=>?_⟩
 ·replace h:=cW hc h;refine aG h fun g0 h=>aG h fun g1 h=>?_;replace h:=q _ (aA h);exact zaF
 ·replace h:=cX hc h;replace h:=yaH (g _ (aA h));exact zaE
attribute [go_sem] mC
def qZ(F:Md)(g:Nat)(f:qd):Option (qd⊕qd) :=
 ck (((0:Int)<(f.length:Int))→((0:Int)<(f.length:Int))) (if ((0:Int)<(f.length:Int))∧((f.getD (0:Nat) (0:Nat))=g) then ck ((1:Int)≤(f.length:Int)) (some (.inl (List.drop (1:Nat) f))) else some (.inr f))
def oG(F:Md)(f:qd)(g:Nat):Option qd :=
 (bO F (fun d:qd=>qZ F g d) f).bind (fun e=>some e)
def aBq:PlR:=⟨[(0,.A [0,1]),(1,.A [0,1,13]),(2,.A [0,1]),(3,.A [4])],[],[]⟩
def aB2:Ty:=.pair .str (.pair qw .unit)
def nC(F:Md):aH:=mSpec aB2 (.one .str) (fun x=>oG F x.1 x.2.1)
abbrev aH0(F:Md):List (FuncId×aH):=[]
theorem aH1(F:Md):bA Tryz.prog GL (aH0 F):=.nil
attribute [go_sem] aB2 aBq
theorem aGT(F:Md):FOK Tryz.prog GL 148 (nC F):=by
 refine aX (aY (aH1 F)) mix Tryz.func148 rfl xAa xAb aBq (fun w0 S x Θ L h hV=>?_);obtain⟨(z:qd),(f:Nat),u⟩:=x;simp only[bD,go_sem];replace h:sat (oG F z f) _:=h;unfold oG at h;refine aU hV (D:=qd) [1] (fun d=>[(0,.val .str d)]) (fun d=>[]) h rfl xAc ?_;rintro I J N q g h;simp only[go_sem];replace h:sat (qZ F f I) _:=h;unfold qZ at h;refine aG h fun g0 h=>?_;refine⟨fun hc=>?_,fun hc=>?_⟩
 ·replace h:=cW hc h;refine aG h fun g0 h=>?_;replace h:=q _ (aA h);exact zaF
 ·replace h:=cX hc h;replace h:=yaH (g _ (aA h));exact zaE
attribute [go_sem] nC
def bV(F:Md)(g:wt)(f:Nat):Option Bool :=
 ck (0≤((f:Nat):Int)∧((f:Nat):Int)<(256:Int)) (some (g.getD f false))
def vR:PlR:=⟨[(0,.A [0,1]),(1,.A [4])],[],[]⟩
def xB:Ty:=.pair (.rp (.arr 256 .bool)) (.pair qw .unit)
def dO(F:Md):aH:=mSpec xB (.one .bool) (fun x=>bV F x.1 x.2.1)
abbrev aEt(F:Md):List (FuncId×aH):=[]
theorem aEu(F:Md):bA Tryz.prog GL (aEt F):=.nil
attribute [go_sem] xB vR
theorem vS(F:Md):FOK Tryz.prog GL 175 (dO F):=by
 refine aX (aY (aEu F)) mix Tryz.func175 rfl xAa xAb vR (fun w0 S x Θ q h hV=>?_);obtain⟨(f:wt),(g:Nat),u⟩:=x;simp only[bD,go_sem];replace h:sat (bV F f g) _:=h;unfold bV at h;refine aG h fun g0 h=>?_;exact zaE
attribute [go_sem] dO
def gL(F:Md)(chars_0:qd)(f:Int)(g:wt):Option ((Int×wt)⊕(wt⊕(wt×vl))) :=
 if f<(chars_0.length:Int) then ck (0≤f∧f<(chars_0.length:Int)) (if (128:Nat)≤(chars_0.getD (f.toNat) (0:Nat)) then some (.inr (.inr (g,false,()))) else ck (0≤(((chars_0.getD (f.toNat) (0:Nat)):Nat):Int)∧(((chars_0.getD (f.toNat) (0:Nat)):Nat):Int)<(256:Int)) (ck (I64 (f+(1:Int))) (some (.inl ((f+(1:Int)),(g.set (chars_0.getD (f.toNat) (0:Nat)) true)))))) else some (.inr (.inl g))
def dD(F:Md)(chars_0:qd):Option (wt×vl) :=
 (bO F (fun d:Int×wt=>gL F chars_0 d.1 d.2) ((0:Int),(List.replicate 256 false))).bind (fun e=>match e with|(.inl e)=>some (e,true,())|(.inr e)=>some e)
def aBr:PlR:=⟨[(0,.B [0,2]),(1,.A [0,2,4]),(2,.A [0,2,4,9]),(3,.A [0,2,4]),(4,.A [0,2,4,5]),(5,.A [0,2,4,5,16]),(6,.B [2,3]),(7,.B [0,2,4]),(8,.B [2,3])],[],[]⟩
def aB3:Ty:=.pair .str .unit
def nD(F:Md):aH:=mSpec aB3 (.tup (.pair (.arr 256 .bool) wo)) (fun x=>dD F x.1)
abbrev aH2(F:Md):List (FuncId×aH):=[]
theorem aH3(F:Md):bA Tryz.prog GL (aH2 F):=.nil
attribute [go_sem] aB3 aBr
theorem aGU(F:Md):FOK Tryz.prog GL 150 (nD F):=by
 refine aX (aY (aH3 F)) mix Tryz.func150 rfl xAa xAb aBr (fun w0 S x Θ q h hV=>?_);obtain⟨(chars_0:qd),u⟩:=x;simp only[bD,go_sem];replace h:sat (dD F chars_0) _:=h;unfold dD at h;refine aU hV (D:=Int×wt) [0] (fun d=>[(2,.ptr 0 []),(4,.val qi d.1)]) (fun d=>[.inr (.box 256 (.val (.arr 256 .bool) d.2))]) h rfl xAc ?_;rintro⟨g,f⟩ z T2 hA2 hE2 h;simp only[go_sem];replace h:sat (gL F chars_0 g f) _:=h;unfold gL at h;refine bP h (fun hc h=>?_) fun hc h=>?_
 ·refine aB h fun g0 h=>(yaB ?_);refine bS h (fun hc h=>?_) fun hc h=>?_
  ·replace h:=yaH (hE2 _ (aA h));exact aE hV [.cell 2 182,.tmp 3] rfl rfl rfl (aA h) xAd
  ·refine aB h fun g0 h=>(yaB ?_);refine aB h fun g0 h=>(yaB ?_);exact zar
 ·replace h:=yaH (hE2 _ (aA h));exact aE hV [.cell 2 182,.tmp 3] rfl rfl rfl (aA h) xAd
attribute [go_sem] nD
def bW(F:Md)(g:wt)(f:qd):Option (qd⊕qd) :=
 if (0:Int)<(f.length:Int) then ck (I64 ((f.length:Int)-(1:Int))) (ck (0≤((f.length:Int)-(1:Int))∧((f.length:Int)-(1:Int))<(f.length:Int)) ((bV F g (f.getD ((f.length:Int)-(1:Int)).toNat (0:Nat))).bind (fun q=>if ¬(q=true) then some (.inr f) else ck (I64 ((f.length:Int)-(1:Int))) (ck (0≤((f.length:Int)-(1:Int))∧((f.length:Int)-(1:Int))≤(f.length:Int)) (some (.inl (List.take ((f.length:Int)-(1:Int)).toNat f))))))) else some (.inr f)
def cM(F:Md)(g:qd)(f:wt):Option qd :=
 (bO F (fun d:qd=>bW F f d) g).bind (fun e=>some e)
def aAg:PlR:=⟨[(0,.A [0,1]),(1,.A [0,1,7]),(2,.A [0,1,15]),(3,.A [0,1]),(4,.A [4])],[],[]⟩
def aAv:Ty:=.pair .str (.pair (.rp (.arr 256 .bool)) .unit)
def kO(F:Md):aH:=mSpec aAv (.one .str) (fun x=>cM F x.1 x.2.1)
abbrev aAw(F:Md):List (FuncId×aH):=[(175,(dO F))]
theorem aGj(F:Md):bA Tryz.prog GL (aAw F):=.cons (vS F) xAa (.nil)
attribute [go_sem] aAv aAg
theorem aFB(F:Md):FOK Tryz.prog GL 152 (kO F):=by
 refine aX (aY (aGj F)) mix Tryz.func152 rfl xAa xAb aAg (fun w0 S x Θ N h hV=>?_);obtain⟨(I:qd),(f:wt),u⟩:=x;simp only[bD,go_sem];replace h:sat (cM F I f) _:=h;unfold cM at h;refine aU hV (D:=qd) [1] (fun d=>[(0,.val .str d)]) (fun d=>[]) h rfl xAc ?_;rintro q L O z g h;simp only[go_sem];replace h:sat (bW F f q) _:=h;unfold bW at h;refine bP h (fun hc h=>?_) fun hc h=>?_
 ·refine aG h fun g0 h=>aG h fun g1 h=>?_;refine aD h fun J hv h=>?_;try simp only[hv,go_sem]
  refine aAn h (fun hc h=>?_) fun hc h=>?_
  ·replace h:=yaH (g _ (aA h));exact zaE
  ·refine aG h fun g0 h=>aG h fun g1 h=>?_;replace h:=z _ (aA h);exact zaF
 ·replace h:=yaH (g _ (aA h));exact zaE
attribute [go_sem] kO
def cQ(F:Md)(g:wt)(f:qd):Option (qd⊕qd) :=
 if (0:Int)<(f.length:Int) then ck ((0:Int)<(f.length:Int)) ((bV F g (f.getD (0:Nat) (0:Nat))).bind (fun q=>if ¬(q=true) then some (.inr f) else ck ((1:Int)≤(f.length:Int)) (some (.inl (List.drop (1:Nat) f))))) else some (.inr f)
def dH(F:Md)(g:qd)(f:wt):Option qd :=
 (bO F (fun d:qd=>cQ F f d) g).bind (fun e=>some e)
def aAx:PlR:=⟨[(0,.A [0,1]),(1,.A [0,1,7]),(2,.A [0,1,12]),(3,.A [0,1]),(4,.A [4])],[],[]⟩
def aBs:Ty:=.pair .str (.pair (.rp (.arr 256 .bool)) .unit)
def mD(F:Md):aH:=mSpec aBs (.one .str) (fun x=>dH F x.1 x.2.1)
abbrev aBt(F:Md):List (FuncId×aH):=[(175,(dO F))]
theorem aGV(F:Md):bA Tryz.prog GL (aBt F):=.cons (vS F) xAa (.nil)
attribute [go_sem] aBs aAx
theorem aGk(F:Md):FOK Tryz.prog GL 151 (mD F):=by
 refine aX (aY (aGV F)) mix Tryz.func151 rfl xAa xAb aAx (fun w0 S x Θ N h hV=>?_);obtain⟨(I:qd),(f:wt),u⟩:=x;simp only[bD,go_sem];replace h:sat (dH F I f) _:=h;unfold dH at h;refine aU hV (D:=qd) [1] (fun d=>[(0,.val .str d)]) (fun d=>[]) h rfl xAc ?_;rintro q L O z g h;simp only[go_sem];replace h:sat (cQ F f q) _:=h;unfold cQ at h;refine bP h (fun hc h=>?_) fun hc h=>?_
 ·refine aG h fun g0 h=>?_;refine aD h fun J hv h=>?_;try simp only[hv,go_sem]
  refine aAn h (fun hc h=>?_) fun hc h=>?_
  ·replace h:=yaH (g _ (aA h));exact zaE
  ·refine aG h fun g0 h=>?_;replace h:=z _ (aA h);exact zaF
 ·replace h:=yaH (g _ (aA h));exact zaE
attribute [go_sem] mD
def gY(F:Md)(f:qd)(cutset_1:qd):Option qd :=
 if (f=(aI ⟨#[]⟩))∨(cutset_1=(aI ⟨#[]⟩)) then some f else ck (((cutset_1.length:Int)=(1:Int))→((0:Int)<(cutset_1.length:Int))) (if ((cutset_1.length:Int)=(1:Int))∧((cutset_1.getD (0:Nat) (0:Nat))<(128:Nat)) then ck ((0:Int)<(cutset_1.length:Int)) ((nB F f (cutset_1.getD (0:Nat) (0:Nat))).bind (fun g=>ck ((0:Int)<(cutset_1.length:Int)) ((oG F g (cutset_1.getD (0:Nat) (0:Nat))).bind (fun q=>some q)))) else (dD F cutset_1).bind (fun v_27=>if v_27.2.1=true then (cM F f v_27.1).bind (fun z=>(dH F z v_27.1).bind (fun I=>some I)) else none))
def aIn:PlR:=⟨[(0,.A [0,1]),(1,.A [0,1,12]),(2,.A [4]),(3,.A [0,1,21]),(4,.A [4]),(5,.B [0,1,5,6]),(6,.A [0,1,5,34]),(7,.A [4]),(8,.stop)],[],[]⟩
def aJz:Ty:=.pair .str wi
def aAL(F:Md):aH:=mSpec aJz (.one .str) (fun x=>gY F x.1 x.2.1)
abbrev tF(F:Md):List (FuncId×aH):=[(148,(nC F)),(149,(mC F)),(150,(nD F)),(151,(mD F)),(152,(kO F))]
theorem aVe(F:Md):bA Tryz.prog GL (tF F):=.cons (aGT F) xAa (.cons (aGi F) xAa (.cons (aGU F) xAa (.cons (aGk F) xAa (.cons (aFB F) xAa (.nil)))))
attribute [go_sem] aJz aIn
theorem aSx(F:Md):FOK Tryz.prog GL 97 (aAL F):=by
 refine aX (aY (aVe F)) mix Tryz.func97 rfl xAa xAb aIn (fun w0 S x Θ J h hV=>?_);obtain⟨(f:qd),(cutset_1:qd),u⟩:=x;simp only[bD,go_sem];replace h:sat (gY F f cutset_1) _:=h;unfold gY at h;refine⟨fun hc=>?_,fun hc=>?_⟩
 ·replace h:=cW hc h;exact zaE
 ·replace h:=cX hc h;refine aG h fun g0 h=>?_;refine⟨fun hc=>?_,fun hc=>?_⟩
  ·replace h:=cW hc h;refine aG h fun g0 h=>?_;refine aD h fun g hv h=>?_;(try simp only[hv,go_sem]);refine aG h fun g0 h=>?_;refine aD h fun q hv h=>?_;exact zaW
  ·replace h:=cX hc h;refine aD h fun v_27 hv h=>?_;(try simp only[hv,go_sem]);refine aFb h (fun hc h=>?_) fun hc h=>?_
   ·refine aD h fun z hv h=>?_;(try simp only[hv,go_sem]);refine aD h fun I hv h=>?_;exact zaW
   ·exact aFc h
attribute [go_sem] aAL
def gI(F:Md):Option qj :=
 some ([(aI ⟨#[116]⟩),(aI ⟨#[115,113,114]⟩),(aI ⟨#[115,113,114,116]⟩),(aI ⟨#[101,120,112]⟩),(aI ⟨#[112,114,101,99]⟩),(aI ⟨#[101,110,100]⟩),(aI ⟨#[115,116,101,112]⟩),(aI ⟨#[116,111,108]⟩),(aI ⟨#[116,114,105,101,115]⟩),(aI ⟨#[111,114,100,101,114]⟩),(aI ⟨#[106,97,99,111,98,105]⟩),(aI ⟨#[115,101,105,100,101,108]⟩),(aI ⟨#[115,117,98]⟩),(aI ⟨#[115,116,97,116,101]⟩),(aI ⟨#[112,97,114]⟩),(aI ⟨#[105,110]⟩),(aI ⟨#[111,117,116]⟩),(aI ⟨#[100,101,114]⟩),(aI ⟨#[108,105,110,107]⟩)]:List qd)
def aFU:PlR:=⟨[(0,.A []),(1,.A [0])],[],[]⟩
def aGW:Ty:=.unit
def xC(F:Md):aH:=mSpec aGW (.one qx) (fun x=>gI F )
abbrev aP1(F:Md):List (FuncId×aH):=[]
theorem aP2(F:Md):bA Tryz.prog GL (aP1 F):=.nil
attribute [go_sem] aGW aFU
theorem aND(F:Md):FOK Tryz.prog GL 99 (xC F):=by
 refine aX (aY (aP2 F)) mix Tryz.func99 rfl xAa xAb aFU (fun w0 S x Θ f h hV=>?_);simp only[bD,go_sem];replace h:sat (gI F) _:=h;unfold gI at h;exact aE hV [.tmp 0] rfl rfl rfl (aA h) (by (simp only[aQ,go_sem])<;>first|rfl|(simp; done))
attribute [go_sem] xC
def dX(F:Md)(g:qj)(q:qd)(f:Int):Option ((Int)⊕((Unit)⊕Int)) :=
 if f<(g.length:Int) then ck (0≤f∧f<(g.length:Int)) (if q=(g.getD (f.toNat) ([]:List Nat)) then some (.inr (.inr f)) else ck (I64 (f+(1:Int))) (some (.inl (f+(1:Int))))) else some (.inr (.inl ()))
def gV(F:Md)(f:qj)(g:qd):Option Int :=
 (bO F (fun d:Int=>dX F f g d) (0:Int)).bind (fun e=>match e with|(.inl e)=>some (-1:Int)|(.inr e)=>some e)
def aB4:PlR:=⟨[(0,.A [0,1]),(1,.A [0,1,7,8]),(2,.A [0,1,7,8,9]),(3,.A [0,1,5,7,8]),(4,.A [0,1,5,7,8,16]),(5,.A [4]),(6,.A [0,1,7,8]),(7,.A [4])],[],[]⟩
def aCu:Ty:=.pair qx wi
def oH(F:Md):aH:=mSpec aCu (.one qi) (fun x=>gV F x.1 x.2.1)
abbrev aIS(F:Md):List (FuncId×aH):=[]
theorem aIT(F:Md):bA Tryz.prog GL (aIS F):=.nil
attribute [go_sem] aCu aB4
theorem aH4(F:Md):FOK Tryz.prog GL 155 (oH F):=by
 refine aX (aY (aIT F)) mix Tryz.func155 rfl xAa xAb aB4 (fun w0 S x Θ z h hV=>?_);obtain⟨(f:qj),(g:qd),u⟩:=x;simp only[bD,go_sem];replace h:sat (gV F f g) _:=h;unfold gV at h;refine aU hV (D:=Int) [0,1,7] (fun d=>[(8,.val qi d)]) (fun d=>[]) h rfl xAc ?_;rintro q I T2 hA2 hE2 h;simp only[go_sem];replace h:sat (dX F f g q) _:=h;unfold dX at h;exact zaJ
attribute [go_sem] oH
def dE(F:Md)(g:qj)(q:qd):Option Bool :=
 (gV F g q).bind (fun f=>some (decide ((0:Int)≤f)))
def aAh:PlR:=⟨[(0,.A [0,1]),(1,.A [4])],[],[]⟩
def aAy:Ty:=.pair qx wi
def eM(F:Md):aH:=mSpec aAy (.one .bool) (fun x=>dE F x.1 x.2.1)
abbrev aAz(F:Md):List (FuncId×aH):=[(155,(oH F))]
theorem aGl(F:Md):bA Tryz.prog GL (aAz F):=.cons (aH4 F) xAa (.nil)
attribute [go_sem] aAy aAh
theorem aAi(F:Md):FOK Tryz.prog GL 98 (eM F):=by
 refine aX (aY (aGl F)) mix Tryz.func98 rfl xAa xAb aAh (fun w0 S x Θ z h hV=>?_);obtain⟨(f:qj),(g:qd),u⟩:=x;simp only[bD,go_sem];replace h:sat (dE F f g) _:=h;unfold dE at h;refine aD h fun q hv h=>?_;exact zaW
attribute [go_sem] eM
def cR(F:Md)(f:qd):Option Bool :=
 ck (¬(((f.length:Int)<(1:Int))∨((20:Int)<(f.length:Int)))→((0:Int)<(f.length:Int))) (ck (¬((((f.length:Int)<(1:Int))∨((20:Int)<(f.length:Int)))∨((f.getD (0:Nat) (0:Nat))<(97:Nat)))→((0:Int)<(f.length:Int))) (if ((((f.length:Int)<(1:Int))∨((20:Int)<(f.length:Int)))∨((f.getD (0:Nat) (0:Nat))<(97:Nat)))∨((122:Nat)<(f.getD (0:Nat) (0:Nat))) then some false else (gY F f (aI aA8)).bind (fun v_5=>ck ((v_5=(aI ⟨#[]⟩))→((gI F).isSome=true)) (ck ((v_5=(aI ⟨#[]⟩))→((dE F ((gI F).getD ([]:List qd)) f).isSome=true)) (some ((decide (v_5=(aI ⟨#[]⟩)))&&(!((dE F ((gI F).getD ([]:List qd)) f).getD false))))))))
def aLi:PlR:=⟨[(0,.A [0]),(1,.A [0,20]),(2,.A [2]),(3,.A [2])],[],[]⟩
def aNE:Ty:=.pair .str .unit
def aC4(F:Md):aH:=mSpec aNE (.one .bool) (fun x=>cR F x.1)
abbrev aEw(F:Md):List (FuncId×aH):=[(97,(aAL F)),(98,(eM F)),(99,(xC F))]
theorem bAd(F:Md):bA Tryz.prog GL (aEw F):=.cons (aSx F) xAa (.cons (aAi F) xAa (.cons (aND F) xAa (.nil)))
attribute [go_sem] aNE aLi
theorem aXx(F:Md):FOK Tryz.prog GL 60 (aC4 F):=by
 refine aX (aY (bAd F)) mix Tryz.func60 rfl xAa xAb aLi (fun w0 S x Θ g h hV=>?_);obtain⟨(f:qd),u⟩:=x;simp only[bD,go_sem];replace h:sat (cR F f) _:=h;unfold cR at h;refine aB h fun g0 h=>?_;refine aB h fun g1 h=>(yaF ?_);refine⟨fun hc=>?_,fun hc=>?_⟩
 ·replace h:=cW hc h;exact zaB
 ·replace h:=cX hc h;refine aD h fun v_5 hv h=>?_;try simp only[hv,go_sem]
  refine aB h fun g0 h=>?_;refine aB h fun g1 h=>(yaF ?_);exact zaB
attribute [go_sem] aC4
def uZ(F:Md):Option wk :=
 none
def pW(F:Md)(g:qd)(f:Int):Option wk :=
 ck ((0:Int)<(g.length:Int)) (if (g.getD (0:Nat) (0:Nat))=(45:Nat) then ck (I64 (0-f)) (some ((0-f),(),())) else some (f,(),()))
def gO(F:Md)(q:qd)(g:Int)(f:Int):Option (q9⊕((Int)⊕wk)) :=
 if f<(q.length:Int) then ck (0≤f∧f<(q.length:Int)) (if (9:Nat)<(pN F .u8 (q.getD (f.toNat) (0:Nat)) (48:Nat)) then none else ck (I64 (g*(10:Int))) (ck (I64 ((g*(10:Int))+(((pN F .u8 (q.getD (f.toNat) (0:Nat)) (48:Nat)):Nat):Int))) (ck (I64 (f+(1:Int))) (some (.inl (((g*(10:Int))+(((pN F .u8 (q.getD (f.toNat) (0:Nat)) (48:Nat)):Nat):Int)),(f+(1:Int)))))))) else some (.inr (.inl g))
def iG(F:Md)(f:qd)(g:qd):Option wk :=
 (bO F (fun d:Int×Int=>gO F g d.1 d.2) ((0:Int),(0:Int))).bind (fun e=>match e with|(.inl e)=>pW F f e|(.inr e)=>some e)
def rB(F:Md)(f:qd):Option wk :=
 if ((False)∧(((0:Int)<(f.length:Int))∧((f.length:Int)<(10:Int))))∨((True)∧(((0:Int)<(f.length:Int))∧((f.length:Int)<(19:Int)))) then ck ((0:Int)<(f.length:Int)) (ck (¬((f.getD (0:Nat) (0:Nat))=(45:Nat))→((0:Int)<(f.length:Int))) (if ((f.getD (0:Nat) (0:Nat))=(45:Nat))∨((f.getD (0:Nat) (0:Nat))=(43:Nat)) then ck ((1:Int)≤(f.length:Int)) (if (((List.drop (1:Nat) f).length:Nat):Int)<(1:Int) then none else iG F f (List.drop (1:Nat) f)) else iG F f f)) else uZ F
def aGX:PlR:=⟨[(0,.A [0]),(1,.A [0,4]),(2,.A [0,30]),(3,.A [0,5]),(4,.A [0,5,39]),(5,.A [0,5]),(6,.A [0,5,44]),(7,.A [2,3]),(8,.A [0,5,6]),(9,.A [5,6,47,48,49]),(10,.A [5,6,47,48,49,50]),(11,.A [5,6,8,47,48,49]),(12,.A [5,6,8,47,48,49]),(13,.A [5,6,8,47,48,49,56]),(14,.A [2,3]),(15,.A [5,6,47,48,49]),(16,.A [5,6,47,48,49]),(17,.A [6,66]),(18,.A [6]),(19,.A [2,3]),(20,.stop)],[(5,23),(7,11),(12,20)],[]⟩
def aIo:Ty:=.pair .str .unit
def zM(F:Md):aH:=mSpec aIo (.tup (.pair qi (.pair .nili .unit))) (fun x=>rB F x.1)
abbrev aSB(F:Md):List (FuncId×aH):=[]
theorem aSC(F:Md):bA Tryz.prog GL (aSB F):=.nil
attribute [go_sem] aIo aGX
theorem aP3(F:Md):FOK Tryz.prog GL 164 (zM F):=by
 refine aX (aY (aSC F)) mix Tryz.func164 rfl xAa xAb aGX (fun w0 S x Θ U h hV=>?_);obtain⟨(f:qd),u⟩:=x;simp only[bD,go_sem];replace h:sat (rB F f) _:=h;unfold rB at h;refine bH hV (D:=Unit) (fun d=>sat (uZ F) Θ) [0] (fun d=>[]) (fun d=>[]) ?_ ?_
 ·simp only[go_sem,aR F,aS F,aT F];refine⟨fun hc=>?_,fun hc=>?_⟩
  ·replace h:=cW zAD h;refine bH hV (D:=qd) (fun d=>sat (iG F f d) Θ) [5] (fun d=>[(0,.val .str d)]) (fun d=>[]) ?_ ?_
   ·simp only[go_sem,aR F,aS F,aT F];refine aG h fun g0 h=>aG h fun g1 h=>?_;refine⟨fun hc=>?_,fun hc=>?_⟩
    ·replace h:=cW hc h;refine aG h fun g0 h=>?_;refine bP h (fun hc h=>?_) fun hc h=>?_
     ·exact aFc h
     ·exact aK (List.drop (1:Nat) f) h rfl xAe
    ·replace h:=cX hc h;exact aK (f) h rfl xAe
   ·rintro L h;simp only[go_sem,aR F,aS F,aT F];replace h:sat (iG F f L) _:=h;unfold iG at h;refine bH hV (D:=Int) (fun d=>sat (pW F f d) Θ) [5] (fun d=>[(6,.val qi d)]) (fun d=>[]) ?_ ?_
    ·simp only[go_sem,aR F,aS F,aT F];refine aU hV (D:=Int×Int) [5,47,48] (fun d=>[(6,.val qi d.1),(49,.val qi d.2)]) (fun d=>[]) h rfl xAe ?_;rintro⟨q,g⟩ O N z J h;simp only[go_sem,aR F,aS F,aT F];replace h:sat (gO F L q g) _:=h;unfold gO at h;refine bP h (fun hc h=>?_) fun hc h=>?_
     ·refine aG h fun g0 h=>?_;refine bS h (fun hc h=>?_) fun hc h=>?_
      ·exact aFc h
      ·refine aG h fun g0 h=>aG h fun g1 h=>?_;refine aG h fun g0 h=>?_;replace h:=z _ (aA h);exact zaK
     ·replace h:=yaH (J _ (aA h));exact aK (q) h rfl xAe
    ·rintro I h;simp only[go_sem,aR F,aS F,aT F];replace h:sat (pW F f I) _:=h;unfold pW at h;refine aG h fun g0 h=>?_;refine bS h (fun hc h=>?_) fun hc h=>?_
     ·refine aG h fun g0 h=>?_;exact aE hV [.tmp 2,.tmp 3] rfl rfl rfl (aA h) xAf
     ·exact aE hV [.tmp 2,.tmp 3] rfl rfl rfl (aA h) xAf
  ·replace h:=cX zAD h;exact aK () h rfl xAe
 ·rintro u h;simp only[go_sem,aR F,aS F,aT F];replace h:sat (uZ F) _:=h;unfold uZ at h;exact aFc h
attribute [go_sem] zM
def tG(F:Md)(f:qd):Option wk :=
 (rB F f).bind (fun v_5=>some (v_5.1,(),()))
def aIp:PlR:=⟨[(0,.A [0]),(1,.A [0,4,5]),(2,.A [0,4,5,12]),(4,.A [2,3])],[],[]⟩
def aJA:Ty:=.pair .str .unit
def aAM(F:Md):aH:=mSpec aJA (.tup (.pair qi (.pair .nili .unit))) (fun x=>tG F x.1)
abbrev aJB(F:Md):List (FuncId×aH):=[(164,(zM F))]
theorem aVf(F:Md):bA Tryz.prog GL (aJB F):=.cons (aP3 F) xAa (.nil)
attribute [go_sem] aJA aIp
theorem aSD(F:Md):FOK Tryz.prog GL 120 (aAM F):=by
 refine aX (aY (aVf F)) mix Tryz.func120 rfl xAa xAb aIp (fun w0 S x Θ g h hV=>?_);obtain⟨(f:qd),u⟩:=x;simp only[bD,go_sem];replace h:sat (tG F f) _:=h;unfold tG at h;refine aD h fun v_5 hv h=>?_;try simp only[hv,go_sem]
 exact aE hV [.tmp 2,.tmp 3] rfl rfl rfl (aA h) xAd
attribute [go_sem] aAM
def nP(F:Md)(f:Int)(q:qd)(g:Int):Option ((Int)⊕(Int)) :=
 ck (I64 (f+g)) (ck (((f+g)<(q.length:Int))→(I64 (f+g))) (ck (((f+g)<(q.length:Int))→(0≤(f+g)∧(f+g)<(q.length:Int))) (ck ((((f+g)<(q.length:Int))∧((48:Nat)≤(q.getD (f+g).toNat (0:Nat))))→(I64 (f+g))) (ck ((((f+g)<(q.length:Int))∧((48:Nat)≤(q.getD (f+g).toNat (0:Nat))))→(0≤(f+g)∧(f+g)<(q.length:Int))) (if (((f+g)<(q.length:Int))∧((48:Nat)≤(q.getD (f+g).toNat (0:Nat))))∧((q.getD (f+g).toNat (0:Nat))≤(57:Nat)) then ck (I64 (g+(1:Int))) (some (.inl (g+(1:Int)))) else some (.inr g))))))
def rJ(F:Md)(g:qd)(f:Int):Option Int :=
 (bO F (fun d:Int=>nP F f g d) (0:Int)).bind (fun e=>some e)
def aLj:PlR:=⟨[(0,.A [0,1]),(1,.A [0,1,5]),(2,.A [0,1,5,27]),(3,.A [0,1,5]),(4,.A [4])],[],[]⟩
def aNF:Ty:=.pair .str qo
def aC5(F:Md):aH:=mSpec aNF (.one qi) (fun x=>rJ F x.1 x.2.1)
abbrev bAe(F:Md):List (FuncId×aH):=[]
theorem bAf(F:Md):bA Tryz.prog GL (bAe F):=.nil
attribute [go_sem] aNF aLj
theorem aXy(F:Md):FOK Tryz.prog GL 119 (aC5 F):=by
 refine aX (aY (bAf F)) mix Tryz.func119 rfl xAa xAb aLj (fun w0 S x Θ I h hV=>?_);obtain⟨(g:qd),(f:Int),u⟩:=x;simp only[bD,go_sem];replace h:sat (rJ F g f) _:=h;unfold rJ at h;refine aU hV (D:=Int) [0,1] (fun d=>[(5,.val qi d)]) (fun d=>[]) h rfl xAc ?_;rintro q L T2 hA2 hE2 h;simp only[go_sem];replace h:sat (nP F f g q) _:=h;unfold nP at h;refine aG h fun g0 h=>aG h fun g1 h=>aG h fun z h=>aG h fun N h=>aG h fun J h=>?_;refine⟨fun hc=>?_,fun hc=>?_⟩
 ·replace h:=cW hc h;refine aG h fun g0 h=>?_;exact zar
 ·replace h:=cX hc h;replace h:=yaH (hE2 _ (aA h));exact zaE
attribute [go_sem] aC5
def lE(F:Md)(g:qd)(z:qd)(q:Int)(f:Int):Option (qd×qy) :=
 some (g,f,(decide (q=(z.length:Int))),())
def lF(F:Md)(f:Int)(g:Int)(z:Int)(I:qd)(J:qd)(q:Int):Option (qd×qy) :=
 ck (I64 (f+q)) (ck (I64 (g+z)) (lE F I J (g+z) (f+q)))
def lG(F:Md)(q:qd)(J:Int)(z:Int)(I:qd)(f:Int):Option (qd×qy) :=
 (rJ F q f).bind (fun g=>if (g<(1:Int))∨((3:Int)<g) then some ((aI ⟨#[]⟩),(0:Int),false,()) else ck (I64 (f+g)) (ck (0≤f∧f≤(f+g)∧(f+g)≤(q.length:Int)) ((tG F (List.drop (f.toNat) (List.take (f+g).toNat q))).bind (fun v_27=>if (100:Int)<v_27.1 then some ((aI ⟨#[]⟩),(0:Int),false,()) else if ((J+(1:Int))<(q.length:Int))∧((q.getD (J+(1:Int)).toNat (0:Nat))=(45:Nat)) then ck (I64 (0-v_27.1)) (lF F z f g I q (0-v_27.1)) else lF F z f g I q v_27.1))))
def lH(F:Md)(g:qd)(f:Int)(z:qd)(q:Int):Option (qd×qy) :=
 ck ((f<(g.length:Int))→(0≤f∧f<(g.length:Int))) (if (f<(g.length:Int))∧((g.getD (f.toNat) (0:Nat))=(101:Nat)) then ck (I64 (f+(1:Int))) (ck (((f+(1:Int))<(g.length:Int))→(0≤(f+(1:Int))∧(f+(1:Int))<(g.length:Int))) (ck (¬(((f+(1:Int))<(g.length:Int))∧((g.getD (f+(1:Int)).toNat (0:Nat))=(45:Nat)))→((f+(1:Int))<(g.length:Int))→(0≤(f+(1:Int))∧(f+(1:Int))<(g.length:Int))) (if (((f+(1:Int))<(g.length:Int))∧((g.getD (f+(1:Int)).toNat (0:Nat))=(45:Nat)))∨(((f+(1:Int))<(g.length:Int))∧((g.getD (f+(1:Int)).toNat (0:Nat))=(43:Nat))) then ck (I64 ((f+(1:Int))+(1:Int))) (lG F g f q z ((f+(1:Int))+(1:Int))) else lG F g f q z (f+(1:Int))))) else lE F z g f q)
def oT(F:Md)(f:qd):Option (qd×qy) :=
 (rJ F f (0:Int)).bind (fun v_5=>ck (0≤v_5∧v_5≤(f.length:Int)) (if ((60:Int)<(f.length:Int))∨(v_5=(0:Int)) then some ((aI ⟨#[]⟩),(0:Int),false,()) else ck ((v_5<(f.length:Int))→(0≤v_5∧v_5<(f.length:Int))) (if (v_5<(f.length:Int))∧((f.getD (v_5.toNat) (0:Nat))=(46:Nat)) then ck (I64 (v_5+(1:Int))) ((rJ F f (v_5+(1:Int))).bind (fun g=>if g=(0:Int) then some ((aI ⟨#[]⟩),(0:Int),false,()) else ck (I64 (v_5+(1:Int))) (ck (I64 (v_5+(1:Int))) (ck (I64 ((v_5+(1:Int))+g)) (ck (0≤(v_5+(1:Int))∧(v_5+(1:Int))≤((v_5+(1:Int))+g)∧((v_5+(1:Int))+g)≤(f.length:Int)) (ck ((List.take (v_5.toNat) f).length+(List.drop (v_5+(1:Int)).toNat (List.take ((v_5+(1:Int))+g).toNat f)).length≤9223372036854775807) (ck (I64 (0-g)) (ck (I64 (v_5+(1:Int))) (ck (I64 ((v_5+(1:Int))+g)) (lH F f ((v_5+(1:Int))+g) ((List.take (v_5.toNat) f)++(List.drop (v_5+(1:Int)).toNat (List.take ((v_5+(1:Int))+g).toNat f))) (0-g))))))))))) else lH F f v_5 (List.take (v_5.toNat) f) (0:Int))))
def aJC:PlR:=⟨[(0,.A [0]),(1,.A [0,5]),(2,.A [0,5,6,7]),(3,.A [0,5,6,7,24]),(4,.A [2,3,4]),(5,.A [0,5,6,7,34]),(6,.A [0,5,6,8]),(7,.A [0,5,6,8,40]),(8,.A [2,3,4]),(9,.A [0,5,6,7]),(10,.A [0,5,6,7,66]),(11,.A [0,5,6,7]),(12,.A [0,5,6,7,9]),(13,.A [0,5,6,7,9,91]),(14,.A [0,5,6,7,9]),(15,.A [0,5,6,7,9,10]),(16,.A [0,5,6,7,9,10,102]),(17,.A [2,3,4]),(18,.A [0,5,6,7,9,10,11]),(19,.A [0,5,6,7,9,10,11,114]),(20,.A [2,3,4]),(21,.A [0,5,6,7,10,11,115]),(22,.A [0,5,6,7,10,11]),(23,.A [0,5,6,7]),(24,.A [2,3,4])],[(8,13),(13,27),(16,18),(24,26)],[]⟩
def aLk:Ty:=.pair .str .unit
def mJ(F:Md):aH:=mSpec aLk (.tup (.pair .str (.pair qi wo))) (fun x=>oT F x.1)
abbrev aGm(F:Md):List (FuncId×aH):=[(119,(aC5 F)),(120,(aAM F))]
theorem aXz(F:Md):bA Tryz.prog GL (aGm F):=.cons (aXy F) xAa (.cons (aSD F) xAa (.nil))
attribute [go_sem] aLk aJC
theorem aFo(F:Md):FOK Tryz.prog GL 81 (mJ F):=by
 refine aX (aY (aXz F)) mix Tryz.func81 rfl xAa xAb aJC (fun w0 S x Θ Y h hV=>?_);obtain⟨(q:qd),u⟩:=x;simp only[bD,go_sem];replace h:sat (oT F q) _:=h;unfold oT at h;refine aD h fun v_5 hv h=>?_;try simp only[hv,go_sem]
 refine aB h fun g0 h=>(yaB ?_);refine⟨fun hc=>?_,fun hc=>?_⟩
 ·replace h:=cW hc h;exact zaZ
 ·replace h:=cX hc h;refine bH hV (D:=Int×qd×Int) (fun d=>sat (lH F q d.1 d.2.1 d.2.2) Θ) [0] (fun d=>[(5,.val qi d.1),(6,.val .str d.2.1),(7,.val qi d.2.2)]) (fun d=>[]) ?_ ?_
  ·simp only[go_sem];refine aB h fun g0 h=>(yaB ?_);refine⟨fun hc=>?_,fun hc=>?_⟩
   ·replace h:=cW hc h;refine aB h fun g0 h=>(yaB ?_);refine aD h fun L hv h=>?_;(try simp only[hv,go_sem]);refine bS h (fun hc h=>?_) fun hc h=>?_
    ·exact aE hV [.tmp 2,.tmp 3,.tmp 4] rfl rfl rfl (aA h) xAd
    ·refine aB h fun g0 h=>?_;refine aB h fun g1 h=>?_;refine aB h fun W h=>?_;refine aB h fun g3 h=>?_;refine aB h fun g4 h=>?_;refine aB h fun g5 h=>?_;refine aB h fun Z h=>?_;refine aB h fun g7 h=>(yaB ?_);exact aK (((v_5+(1:Int))+L),((List.take (v_5.toNat) q)++(List.drop (v_5+(1:Int)).toNat (List.take ((v_5+(1:Int))+L).toNat q))),(0-L)) h rfl xAc
   ·replace h:=cX hc h;exact aK (v_5,(List.take (v_5.toNat) q),(0:Int)) h rfl xAc
  ·rintro⟨z,g,f⟩ h;simp only[go_sem];replace h:sat (lH F q z g f) _:=h;unfold lH at h;refine bH hV (D:=Int×Int) (fun d=>sat (lE F g q d.1 d.2) Θ) [0,6] (fun d=>[(5,.val qi d.1),(7,.val qi d.2)]) (fun d=>[]) ?_ ?_
   ·simp only[go_sem];refine aB h fun g0 h=>(yaB ?_);refine⟨fun hc=>?_,fun hc=>?_⟩
    ·replace h:=cW hc h;refine aB h fun g0 h=>(yaB ?_);refine aB h fun g0 h=>(yaB ?_);refine bH hV (D:=Int) (fun d=>sat (lG F q z f g d) Θ) [0,6,7,9] (fun d=>[(5,.val qi d)]) (fun d=>[]) ?_ ?_
     ·simp only[go_sem];refine aB h fun g0 h=>(yaB ?_);refine⟨fun hc=>?_,fun hc=>?_⟩
      ·replace h:=cW hc h;refine aB h fun g0 h=>(yaB ?_);exact aK ((z+(1:Int))+(1:Int)) h rfl xAc
      ·replace h:=cX hc h;exact aK (z+(1:Int)) h rfl xAc
     ·rintro I h;simp only[go_sem];replace h:sat (lG F q z f g I) _:=h;unfold lG at h;refine aD h fun J hv h=>?_;(try simp only[hv,go_sem]);refine⟨fun hc=>?_,fun hc=>?_⟩
      ·replace h:=cW hc h;exact zaZ
      ·replace h:=cX hc h;refine aB h fun g0 h=>?_;refine aB h fun g1 h=>(yaB ?_);refine aD h fun v_27 hv h=>?_;(try simp only[hv,go_sem]);refine bP h (fun hc h=>?_) fun hc h=>?_
       ·exact aE hV [.tmp 2,.tmp 3,.tmp 4] rfl rfl rfl (aA h) xAd
       ·refine bH hV (D:=Int) (fun d=>sat (lF F f I J g q d) Θ) [0,5,6,7,10] (fun d=>[(11,.val qi d)]) (fun d=>[]) ?_ ?_
        ·simp only[go_sem];refine⟨fun hc=>?_,fun hc=>?_⟩
         ·replace h:=cW hc h;refine aB h fun g0 h=>(yaB ?_);exact aK (0-v_27.1) h rfl xAc
         ·replace h:=cX hc h;exact aK v_27.1 h rfl xAc
        ·rintro O h;simp only[go_sem];replace h:sat (lF F f I J g q O) _:=h;unfold lF at h;refine aB h fun g0 h=>?_;refine aB h fun g1 h=>(yaB ?_);exact aK ((I+J),(f+O)) h rfl xAc
    ·replace h:=cX hc h;exact aK (z,f) h rfl xAc
   ·rintro⟨U,N⟩ h;simp only[go_sem];replace h:sat (lE F g q U N) _:=h;unfold lE at h;exact zaZ
attribute [go_sem] mJ
def pX(F:Md)(z:Int)(q:Nat)(g:qd)(f:Int):Option (vf⊕qd) :=
 if f<z then ck (aSg g ([q]:List Nat)) (ck (I64 (f+(1:Int))) (some (.inl ((bY g ([q]:List Nat)),(f+(1:Int)))))) else some (.inr g)
def rK(F:Md)(f:Nat)(g:Int):Option qd :=
 (bO F (fun d:qd×Int=>pX F g f d.1 d.2) (([1]:List Nat),(0:Int))).bind (fun e=>some e)
def aNI:PlR:=⟨[(0,.stop),(1,.stop),(2,.stop),(3,.stop),(4,.stop),(5,.stop),(6,.stop)],[],[]⟩
def aRs:Ty:=.pair qk qo
def zN(F:Md):aH:=mSpec aRs (.one qu) (fun x=>rK F x.1 x.2.1)
abbrev aRt(F:Md):List (FuncId×aH):=[(83,fD)]
theorem bCU(F:Md):bA Tryz.prog GL (aRt F):=.cons zF xAa (.nil)
attribute [go_sem] aRs aNI
theorem aNJ(F:Md):FOK Tryz.prog GL 85 (zN F):=by
 refine aX (aY (bCU F)) mix Tryz.func85 rfl xAa xAb aNI (fun w0 S x Θ J h hV=>?_);obtain⟨(g:Nat),(q:Int),u⟩:=x;simp only[bD,go_sem];replace h:sat (rK F g q) _:=h;unfold rK at h;refine bZ hV [0,1] (yaA ?_);refine bZ hV [0,1,5] (yaA ?_);refine bZ hV [0,5,7,8] (yaA ?_);refine aU hV (D:=qd×Int) [0,7] (fun d=>[(5,.val qu d.1),(8,.val qi d.2)]) (fun d=>[]) h rfl xAc ?_;rintro⟨I,f⟩ L T3 hA3 z h;simp only[go_sem];replace h:sat (pX F q g I f) _:=h;unfold pX at h;refine bZ hV [0,5,7,8,9] (yaA ?_);refine bP h (fun hc h=>?_) fun hc h=>?_
 ·refine bZ hV [0,5,7,8] (yaA ?_);refine aG h fun g0 h=>?_;refine bZ hV [0,5,7,8] (yaA ?_);refine aG h fun g0 h=>?_;exact zas
 ·replace h:=yaH (z _ (aA h));refine bZ hV [4] (yaA ?_);exact zaE
attribute [go_sem] zN
def nQ(F:Md)(g:qd)(q:qd)(f:Int):Option (vf⊕qd) :=
 if f<(g.length:Int) then ck (0≤f∧f<(g.length:Int)) (ck (aSg q ([10]:List Nat)) (ck (pSz ([(pN F .u8 (g.getD (f.toNat) (0:Nat)) (48:Nat))]:List Nat)) (ck (aSg (bY q ([10]:List Nat)) (sC ([(pN F .u8 (g.getD (f.toNat) (0:Nat)) (48:Nat))]:List Nat))) (ck (I64 (f+(1:Int))) (some (.inl ((aCL (bY q ([10]:List Nat)) (sC ([(pN F .u8 (g.getD (f.toNat) (0:Nat)) (48:Nat))]:List Nat))),(f+(1:Int))))))))) else some (.inr q)
def vA(F:Md)(f:qd):Option qd :=
 (bO F (fun d:qd×Int=>nQ F f d.1 d.2) (([]:List Nat),(0:Int))).bind (fun e=>some e)
def aLl:PlR:=⟨[(0,.stop),(1,.stop),(2,.stop),(3,.stop),(4,.stop),(5,.stop),(6,.stop),(7,.stop)],[],[]⟩
def aNK:Ty:=.pair .str .unit
def wM(F:Md):aH:=mSpec aNK (.one qu) (fun x=>vA F x.1)
abbrev aEx(F:Md):List (FuncId×aH):=[(131,aFQ),(132,aBi),(83,fD)]
theorem bAg(F:Md):bA Tryz.prog GL (aEx F):=.cons bCG xAa (.cons aRd xAa (.cons zF xAa (.nil)))
attribute [go_sem] aNK aLl
theorem aLm(F:Md):FOK Tryz.prog GL 84 (wM F):=by
 refine aX (aY (bAg F)) mix Tryz.func84 rfl xAa xAb aLl (fun w0 S x Θ J h hV=>?_);obtain⟨(g:qd),u⟩:=x;simp only[bD,go_sem];replace h:sat (vA F g) _:=h;unfold vA at h;refine bZ hV [0] ?_;simp only[go_sem,aR F,aS F,aT F];refine bZ hV [0,3] ?_;simp only[go_sem,aR F,aS F,aT F];refine bZ hV [3,7,8,9] ?_;simp only[go_sem,aR F,aS F,aT F];refine aU hV (D:=qd×Int) [7,8] (fun d=>[(3,.val qu d.1),(9,.val qi d.2)]) (fun d=>[]) h rfl xAe ?_;rintro⟨q,f⟩ L T3 hA3 z h;simp only[go_sem,aR F,aS F,aT F];replace h:sat (nQ F g q f) _:=h;unfold nQ at h;refine bZ hV [3,7,8,9,10] ?_;simp only[go_sem,aR F,aS F,aT F];refine bP h (fun hc h=>?_) fun hc h=>?_
 ·refine bZ hV [3,5,7,8,9] ?_;simp only[go_sem,aR F,aS F,aT F];refine aB h fun g0 h=>(yaC ?_);refine bZ hV [3,7,8,9] ?_;simp only[go_sem,aR F,aS F,aT F];refine aB h fun g0 h=>?_;refine aB h fun g1 h=>?_;refine aB h fun I h=>(yaC ?_);refine bZ hV [3,7,8,9] ?_;simp only[go_sem,aR F,aS F,aT F];refine aB h fun g0 h=>?_;try simp only[I64,I32] at g0
  repeat (refine⟨zAB,?_⟩)
  replace h:=hA3 _ (aA h);exact zaK
 ·replace h:=yaH (z _ (aA h));refine bZ hV [2] ?_;simp only[go_sem,aR F,aS F,aT F];exact aE hV [.tmp 2] rfl rfl rfl (aA h) xAf
attribute [go_sem] wM
def aCN(F:Md)(f:qd):Option Bool :=
 (oT F f).bind (fun v_5=>some v_5.2.2.1)
def aRu:PlR:=⟨[(0,.A [0]),(1,.A [5]),(2,.A [2])],[],[]⟩
def aVh:Ty:=.pair .str .unit
def aFV(F:Md):aH:=mSpec aVh (.one .bool) (fun x=>aCN F x.1)
abbrev aVi(F:Md):List (FuncId×aH):=[(81,(mJ F))]
theorem bEH(F:Md):bA Tryz.prog GL (aVi F):=.cons (aFo F) xAa (.nil)
attribute [go_sem] aVh aRu
theorem bCV(F:Md):FOK Tryz.prog GL 145 (aFV F):=by
 refine aX (aY (bEH F)) mix Tryz.func145 rfl xAa xAb aRu (fun w0 S x Θ g h hV=>?_);obtain⟨(f:qd),u⟩:=x;simp only[bD,go_sem];replace h:sat (aCN F f) _:=h;unfold aCN at h;exact zaU
attribute [go_sem] aFV
def aBu(F:Md)(z:qd):Option (qd×(qd×vl)) :=
 (oT F z).bind (fun v_5=>if ¬(v_5.2.2.1=true) then some (([]:List Nat),([]:List Nat),false,()) else (vA F v_5.1).bind (fun f=>(rK F (10:Nat) (max v_5.2.1 (0:Int))).bind (fun g=>ck (aSg f g) (ck (I64 (0-v_5.2.1)) ((rK F (10:Nat) (max (0-v_5.2.1) (0:Int))).bind (fun q=>some ((bY f g),q,true,())))))))
def aNL:PlR:=⟨[(0,.A [0]),(1,.A [5,6,7]),(2,.A [5,6,15]),(3,.A [2,3,4]),(4,.A [2,3,4])],[],[]⟩
def aRv:Ty:=.pair .str .unit
def aEy(F:Md):aH:=mSpec aRv (.tup (.pair qu (.pair qu wo))) (fun x=>aBu F x.1)
abbrev aDN(F:Md):List (FuncId×aH):=[(81,(mJ F)),(83,fD),(84,(wM F)),(85,(zN F))]
theorem bCW(F:Md):bA Tryz.prog GL (aDN F):=.cons (aFo F) xAa (.cons zF xAa (.cons (aLm F) xAa (.cons (aNJ F) xAa (.nil))))
attribute [go_sem] aRv aNL
theorem bAh(F:Md):FOK Tryz.prog GL 141 (aEy F):=by
 refine aX (aY (bCW F)) mix Tryz.func141 rfl xAa xAb aNL (fun w0 S x Θ I h hV=>?_);obtain⟨(f:qd),u⟩:=x;simp only[bD,go_sem];replace h:sat (aBu F f) _:=h;unfold aBu at h;refine aD h fun v_5 hv h=>?_;try simp only[hv,go_sem]
 refine aAn h (fun hc h=>?_) fun hc h=>?_
 ·exact aE hV [.tmp 2,.tmp 3,.tmp 4] rfl rfl rfl (aA h) xAd
 ·refine aD h fun g hv h=>?_;try simp only[hv,go_sem]
  refine aD h fun q hv h=>?_;try simp only[hv,go_sem]
  refine aG h fun g0 h=>aG h fun g1 h=>?_;refine aD h fun z hv h=>?_;try simp only[hv,go_sem]
  exact zaZ
attribute [go_sem] aEy
def aBv(F:Md)(I:qd):Option vm :=
 (oT F I).bind (fun v_5=>if ¬(v_5.2.2.1=true) then some ((false,([]:List Nat),(0:Int),()),(6:Int),()) else (vA F v_5.1).bind (fun f=>(rK F (5:Nat) (max v_5.2.1 (0:Int))).bind (fun g=>ck (aSg f g) (ck (I64 (0-v_5.2.1)) ((rK F (5:Nat) (max (0-v_5.2.1) (0:Int))).bind (fun q=>ck (aHI (bY f g) q) ((yG F false (oE (bY f g) q).1 v_5.2.1).bind (fun z=>if ((0:Int)<(((oE (bY f g) q).2.1.length:Nat):Int))∨(¬(z.2.1=(0:Int))) then some ((false,([]:List Nat),(0:Int),()),(6:Int),()) else some (z.1,(0:Int),())))))))))
def aNM:PlR:=⟨[(0,.B [0,2]),(1,.A [2,4,5,6]),(2,.A [2,4,5,18]),(3,.B [2,3]),(4,.A [2,5,7,8]),(5,.B [2,8,9,10]),(6,.A [2,9,46]),(7,.B [2,3]),(8,.B [2,3])],[],[]⟩
def aRw:Ty:=.pair .str .unit
def aEz(F:Md):aH:=mSpec aRw (.tup ve) (fun x=>aBv F x.1)
abbrev yH(F:Md):List (FuncId×aH):=[(81,(mJ F)),(82,aC2),(83,fD),(84,(wM F)),(85,(zN F)),(86,(aBl F))]
theorem bCX(F:Md):bA Tryz.prog GL (yH F):=.cons (aFo F) xAa (.cons aXq xAa (.cons zF xAa (.cons (aLm F) xAa (.cons (aNJ F) xAa (.cons (aRk F) xAa (.nil))))))
attribute [go_sem] aRw aNM
theorem bAi(F:Md):FOK Tryz.prog GL 49 (aEz F):=by
 refine aX (aY (bCX F)) mix Tryz.func49 rfl xAa xAb aNM (fun w0 S x Θ J h hV=>?_);obtain⟨(f:qd),u⟩:=x;simp only[bD,go_sem];replace h:sat (aBv F f) _:=h;unfold aBv at h;refine aD h fun v_5 hv h=>?_;try simp only[hv,go_sem]
 refine aAn h (fun hc h=>?_) fun hc h=>?_
 ·exact aE hV [.cell 2 74,.tmp 3] rfl rfl rfl (aA h) xAd
 ·refine aD h fun q hv h=>?_;try simp only[hv,go_sem]
  refine aD h fun z hv h=>?_;try simp only[hv,go_sem]
  refine aG h fun g0 h=>aG h fun g1 h=>?_;refine aD h fun I hv h=>?_;try simp only[hv,go_sem]
  refine aG h fun g0 h=>?_;refine aD h fun g hv h=>?_;try simp only[hv,go_sem]
  refine⟨fun hc=>?_,fun hc=>?_⟩
  ·replace h:=cW hc h;exact zaS
  ·replace h:=cX hc h;exact zaS
attribute [go_sem] aEz
def eE(F:Md)(f:qh)(g:qh)(q:Int):Option Bool :=
 (aEY F q (0:Int)).bind (fun v_5=>(aCM F g v_5.1).bind (fun v_7=>ck ((v_7.2.1=(0:Int))→((uY F f v_7.1).isSome=true)) (some ((decide (v_7.2.1=(0:Int)))&&(decide (((uY F f v_7.1).getD (0:Int))≤(0:Int)))))))
def aLn:PlR:=⟨[(0,.B [2,3,4]),(1,.B [3,4,7]),(2,.B [3,9,10]),(3,.A [6])],[],[]⟩
def aNN:Ty:=.pair qg ve
def aC6(F:Md):aH:=mSpec aNN (.one .bool) (fun x=>eE F x.1 x.2.1 x.2.2.1)
abbrev aEA(F:Md):List (FuncId×aH):=[(51,(aBn F)),(89,(aHY F)),(90,(aFT F))]
theorem bAj(F:Md):bA Tryz.prog GL (aEA F):=.cons (aRq F) xAa (.cons (bEF F) xAa (.cons (bCT F) xAa (.nil)))
attribute [go_sem] aNN aLn
theorem aXB(F:Md):FOK Tryz.prog GL 52 (aC6 F):=by
 refine aX (aY (bAj F)) mix Tryz.func52 rfl xAa xAb aLn (fun w0 S x Θ z h hV=>?_);obtain⟨(q:qh),(g:qh),(f:Int),u⟩:=x;simp only[bD,go_sem];replace h:sat (eE F q g f) _:=h;unfold eE at h;refine aD h fun v_5 hv h=>?_;try simp only[hv,go_sem]
 refine aD h fun v_7 hv h=>?_;try simp only[hv,go_sem]
 refine aG h fun g0 h=>?_;exact aE hV [.tmp 6] rfl rfl rfl (aA h) xAd
attribute [go_sem] aC6
attribute [-go_sem] Ex.kind Ex.text Ex.l
@[go_sem] theorem bPx(k:Int)(t:List Nat)(l:List Ex):Ex.l (.mk k t l)=l:=rfl
@[go_sem] theorem bPy(k:Int)(t:List Nat)(l:List Ex):Ex.kind (.mk k t l)=k:=rfl
@[go_sem] theorem bPz(k:Int)(t:List Nat)(l:List Ex):Ex.text (.mk k t l)=t:=rfl
def gP(F:Md)(g:Ex→Int→Int→Int→Option q9)(L:Ex)(q:Int)(f:Int)(J:Int)(z:Int):Option ((Int×Int×Int)⊕q9) :=
 if f<(((L.l).length:Nat):Int) then ck (0≤f∧f<(((L.l).length:Nat):Int)) (ck (I64 (q+(1:Int))) ((g ((L.l).getD (f.toNat) (Ex.mk 0 [] [])) (q+(1:Int)) J z).bind (fun I=>ck (I64 (f+(1:Int))) (some (.inl ((f+(1:Int)),I.1,I.2)))))) else some (.inr (J,z))
def pB(F:Md)(g:Ex→Int→Int→Int→Option q9)(I:Ex)(f:Int)(q:Int)(z:Int):Option q9 :=
 ck (I64 (q+(1:Int))) (if ((60:Int)<(q+(1:Int)))∨((30:Int)<f) then some ((q+(1:Int)),(max z f)) else (bO F (fun d:Int×Int×Int=>gP F g I f d.1 d.2.1 d.2.2) ((0:Int),(q+(1:Int)),(max z f))).bind (fun e=>some (e.1,e.2)))
@[go_sem]def zO(g:Ex→Int→Int→Int→Option q9):qW where
 D:=Ex×Int×Int×Int×q9
 av:=fun d=>[.val .expr d.1,.val qi d.2.1,.ptr 0 [],.ptr 1 [],.ptr 2 []]
 hp:=fun d=>[.box 1 (.val qi d.2.2.1),.box 1 (.val qi d.2.2.2.1),.box 1 (.fn 173 [] [0,1,2])]
 m:=3
 pre:=fun d=>g d.1 d.2.1 d.2.2.1 d.2.2.2.1=some d.2.2.2.2
 out:=fun d=>(fun r:q9=>.ret (.tup []) [.box 1 (.val qi r.1),.box 1 (.val qi r.2),.box 1 (.fn 173 [] [0,1,2])]) d.2.2.2.2
@[go_sem]def aGY(g:Ex→Int→Int→Int→Option q9)(vs:List AV)(h:List Vc.Obj):Hit:=mkH (g (aBQ h vs 0 .expr) (aBQ h vs 1 qi) (aCH h (aA6 vs 2) qi) (aCH h (aA6 vs 3) qi)) ((0:Int),(0:Int)) fun r=>⟨(zO g),[(aA6 vs 2),(aA6 vs 3),(aA6 vs 4)],((aBQ h vs 0 .expr),(aBQ h vs 1 qi),(aCH h (aA6 vs 2) qi),(aCH h (aA6 vs 3) qi),r)⟩
def aGZ(F:Md)(g:Ex→Int→Int→Int→Option q9):qW where
 D:=Ex×Int×Int×Int×q9
 av:=fun d=>[.val .expr d.1,.val qi d.2.1,.ptr 0 [],.ptr 1 [],.ptr 2 []]
 hp:=fun d=>[.box 1 (.val qi d.2.2.1),.box 1 (.val qi d.2.2.2.1),.box 1 (.fn 173 [] [0,1,2])]
 m:=3
 pre:=fun d=>pB F g d.1 d.2.1 d.2.2.1 d.2.2.2.1=some d.2.2.2.2
 out:=fun d=>(fun r:q9=>.ret (.tup []) [.box 1 (.val qi r.1),.box 1 (.val qi r.2),.box 1 (.fn 173 [] [0,1,2])]) d.2.2.2.2
def aIq(F:Md)(g:Ex→Int→Int→Int→Option q9):PlR:=⟨[(0,.B [1,2,3,4,5]),(1,.B [1,2,3,4,5]),(2,.B [1,2,4,5]),(3,.A [1,4,5,19]),(4,.A [1,4,21,22,23]),(5,.A [1,4,21,22,23,24]),(6,.B [1,4,8,21,22,23]),(7,.P [1,4,21,22,23] []),(8,.A [1,4,21,22,23])],[],[(173,(aGY g))]⟩
abbrev aVt(F:Md)(g:Ex→Int→Int→Int→Option q9):List (FuncId×aH):=[]
theorem aVu(F:Md)(g:Ex→Int→Int→Int→Option q9)(f:GOK Tryz.prog GL 173 (zO g)):bA Tryz.prog GL (aVt F g):=.nil
attribute [go_sem] aIq aGZ
theorem aP6(F:Md)(g:Ex→Int→Int→Int→Option q9)(W:GOK Tryz.prog GL 173 (zO g)):GOK Tryz.prog GL 173 (aGZ F g):=by
 refine aHD (aY (aVu F g W)) mix Tryz.func173 rfl xAa (fun _=>Nat.le_of_ble_eq_true rfl) (aIq F g) (fun c0 w0 d Z Y h hV=>?_) (.cons (fun _ _=>W) xAa (.nil));obtain⟨(z:Ex),(q:Int),(J:Int),(I:Int),r⟩:=d;have hF:=hV.fr;replace h:=aHE (show pB F g z q J I=some r from h);simp only[aJj,List.map_cons,List.map_nil,go_sem];unfold pB at h;refine aB h fun g0 h=>?_;try simp only[I64,I32] at g0
 repeat (refine⟨zAB,?_⟩)
 refine⟨fun hc=>?_,fun hc=>?_⟩
 ·replace h:=cW hc h;obtain rfl:=iT h;refine fA [0,1,2] rfl rfl (yaE ?_);refine aEm hF [] rfl rfl rfl rfl rfl rfl ?_;exact zaL
 ·replace h:=cX hc h;refine zB [0,1,2] rfl rfl (yaA ?_);refine aU hV (D:=Int×Int×Int) [1,21,22] (fun d=>[(4,.ptr 2 []),(23,.val qi d.1)]) (fun d=>[.inr (.box 1 (.val qi d.2.1)),.inr (.box 1 (.val qi d.2.2)),.inr (.box 1 (.fn 173 [] [0,1,2]))]) h rfl xAc ?_;rintro⟨f,N,L⟩ A5 T5 hA5 O h;simp only[go_sem];replace h:sat (gP F g z q f N L) _:=h;unfold gP at h;refine bP h (fun hc h=>?_) fun hc h=>?_
  ·refine aB h fun g0 h=>(yaC ?_);refine aB h fun g0 h=>?_;(try simp only[I64,I32] at g0);(repeat (refine⟨zAB,?_⟩));refine aD h fun U hv h=>?_;simp only[hv,go_sem];(repeat (refine⟨zAB,?_⟩));refine aB h fun g0 h=>?_;(try simp only[I64,I32] at g0);(repeat (refine⟨zAB,?_⟩));replace h:=hA5 _ (aA h);refine fA [0,1,2] rfl rfl (yaA ?_);exact zaF
  ·replace h:=yaH (O _ (aA h));obtain rfl:=iT h;refine aNi (aEm hF [] rfl rfl rfl rfl rfl rfl ?_);exact zaL
def jH(F:Md):Nat→Ex→Int→Int→Int→Option q9
 | 0=>fun _ _ _ _=>none
 | n+1=>pB F (jH F n)
def aD4(F:Md)(n:Nat):qW where
 D:=Ex×Int×Int×Int×q9
 av:=fun d=>[.val .expr d.1,.val qi d.2.1,.ptr 0 [],.ptr 1 [],.ptr 2 []]
 hp:=fun d=>[.box 1 (.val qi d.2.2.1),.box 1 (.val qi d.2.2.2.1),.box 1 (.fn 173 [] [0,1,2])]
 m:=3
 pre:=fun d=>jH F n d.1 d.2.1 d.2.2.1 d.2.2.2.1=some d.2.2.2.2
 out:=fun d=>(fun r:q9=>.ret (.tup []) [.box 1 (.val qi r.1),.box 1 (.val qi r.2),.box 1 (.fn 173 [] [0,1,2])]) d.2.2.2.2
@[go_sem]def aIr(F:Md)(n:Nat)(vs:List AV)(h:List Vc.Obj):Hit:=mkH (jH F n (aBQ h vs 0 .expr) (aBQ h vs 1 qi) (aCH h (aA6 vs 2) qi) (aCH h (aA6 vs 3) qi)) ((0:Int),(0:Int)) fun r=>⟨(aD4 F n),[(aA6 vs 2),(aA6 vs 3),(aA6 vs 4)],((aBQ h vs 0 .expr),(aBQ h vs 1 qi),(aCH h (aA6 vs 2) qi),(aCH h (aA6 vs 3) qi),r)⟩
theorem aIs(F:Md):∀n,GOK Tryz.prog GL 173 (aD4 F n)
 | 0=>fun _ _ _ _ hp _=>absurd (show none=some _ from hp) xAg
 | n+1=>aP6 F _ (aIs F n)
attribute [go_sem] aD4
def aB5(F:Md)(g:Ex):Option (Int×qt) :=
 (jH F 64 g (1:Int) (0:Int) (0:Int)).bind (fun f=>some (f.1,f.2,()))
def aLo(F:Md):PlR:=⟨[(0,.B [1,2,3]),(1,.B [1,2,3,4]),(2,.B [1,2,3,4]),(3,.P [2,3] []),(4,.stop)],[],[(173,(aIr F 64))]⟩
def aNO:Ty:=.pair .expr .unit
def aC7(F:Md):aH:=mSpec aNO (.tup (.pair qi qo)) (fun x=>aB5 F x.1)
abbrev bAk(F:Md):List (FuncId×aH):=[]
theorem bAl(F:Md):bA Tryz.prog GL (bAk F):=.nil
attribute [go_sem] aNO aLo
theorem aXC(F:Md):FOK Tryz.prog GL 143 (aC7 F):=by
 refine aX (aY (bAl F)) mix Tryz.func143 rfl xAa xAb (aLo F) (fun w0 S x Θ q h hV=>?_) (.cons (fun _ _=>(aIs F 64)) xAa (.nil));have hF:=hV.fr;obtain⟨(g:Ex),u⟩:=x;simp only[bD,go_sem];replace h:sat (aB5 F g) _:=h;unfold aB5 at h;refine aD h fun f hv h=>?_;simp only[hv,go_sem];repeat (refine⟨zAB,?_⟩)
 obtain⟨q0,h,hq⟩:=h;refine aQ0 hF [2,3] [(2,.ptr 1 []),(3,.ptr 2 [])] [.box 3 (.val .expr g),.box 1 (.val qi f.1),.box 1 (.val qi f.2),.box 1 (.fn 173 [] [1,2,3])] xAb ?_ ?_
 ·simp only[go_sem];unfold anyS;intro i hi;have hi:i=0∨i=1:=by revert hi; revert i; decide
  rcases hi with rfl|rfl
  ·simp only[go_sem];(repeat (refine⟨zAA,?_⟩));unfold anyS;intro i hi;have hi:i=1∨i=2:=(by revert hi; revert i; decide);rcases hi with rfl|rfl
   ·simp only[go_sem];(repeat (refine⟨zAA,?_⟩));unfold anyS;intro i hi;have hi:i=2:=(by revert hi; revert i; decide);exact zaR
   ·simp only[go_sem];(repeat (refine⟨zAA,?_⟩));unfold anyS;intro i hi;have hi:i=1:=(by revert hi; revert i; decide);exact zaR
  ·simp only[go_sem];(repeat (refine⟨zAA,?_⟩));unfold anyS;intro i hi;have hi:i=0:=(by revert hi; revert i; decide);subst hi;simp only[go_sem];(repeat (refine⟨zAA,?_⟩));unfold anyS;intro i hi;have hi:i=2:=(by revert hi; revert i; decide);exact zaR
 first|replace h:=aZx h hq|replace h:=aZx (Θ:=(· = r)) h hq
 refine bIR hV (yaA ?_);exact aE hV [.cell 2 3,.cell 3 3] rfl rfl rfl (aA h) xAd
attribute [go_sem] aC7
def aBw(F:Md)(f:Ex):Option Bool :=
 (aB5 F f).bind (fun v_5=>some ((decide (v_5.1≤(60:Int)))&&(decide (v_5.2.1≤(30:Int)))))
def aNP:PlR:=⟨[(0,.B [1]),(1,.A [3,4]),(2,.A [2])],[],[]⟩
def aRx:Ty:=.pair .expr .unit
def aEB(F:Md):aH:=mSpec aRx (.one .bool) (fun x=>aBw F x.1)
abbrev aRy(F:Md):List (FuncId×aH):=[(143,(aC7 F))]
theorem bCY(F:Md):bA Tryz.prog GL (aRy F):=.cons (aXC F) xAa (.nil)
attribute [go_sem] aRx aNP
theorem bAm(F:Md):FOK Tryz.prog GL 94 (aEB F):=by
 refine aX (aY (bCY F)) mix Tryz.func94 rfl xAa xAb aNP (fun w0 S x Θ g h hV=>?_);obtain⟨(f:Ex),u⟩:=x;simp only[bD,go_sem];replace h:sat (aBw F f) _:=h;unfold aBw at h;exact zaU
attribute [go_sem] aEB
def nR(F:Md)(f:Bool):Option (Int) :=
 if f=true then some (1:Int) else some (-1:Int)
def nS(F:Md)(f:Int)(g:Bool):Option (Int) :=
 if g=true then some (2:Int) else if f=(10:Int) then nR F (decide (f=(10:Int))) else if f=(11:Int) then nR F (decide (f=(11:Int))) else if f=(12:Int) then nR F (decide (f=(12:Int))) else nR F (decide (f=(13:Int)))
def vT(F:Md)(f:Int)(g:Bool):Option (Int) :=
 if g=true then some (0:Int) else if f=(6:Int) then nS F f (decide (f=(6:Int))) else if f=(7:Int) then nS F f (decide (f=(7:Int))) else if f=(8:Int) then nS F f (decide (f=(8:Int))) else nS F f (decide (f=(9:Int)))
def zP(F:Md)(f:Int):Option Int :=
 if f=(1:Int) then vT F f (decide (f=(1:Int))) else vT F f (decide (f=(2:Int)))
@[go_sem]def aEC:Ty:=.pair qi .unit
def aC8(F:Md):aH:=mSpec aEC (.one qi) (fun x=>zP F x.1)
abbrev aNQ(F:Md):List (FuncId×aH):=[]
theorem aNR(F:Md):bA Tryz.prog GL (aNQ F):=.nil
theorem aXD(F:Md):FOK Tryz.prog GL 144 (aC8 F):=by
 refine wH (aY (aNR F)) Tryz.func144 rfl xAa xAb fun w0 S x r I h=>?_;have hF:xT (fr Tryz.prog (EM (aNQ F)) S w0 Tryz.f144.ntmps):=⟨aY (aNR F),mix⟩;obtain⟨(f:Int),u⟩:=x;simp only[aEC,Ty.wf,aE8] at I;simp only[bD,aEC];try dsimp only at h
 replace h:zP F f=some r:=h;unfold zP at h;refine aO (aM hF [0] (yaA ?_));refine aP (aO (aO (aM hF [3] (yaA ?_))));refine aP (gU (zD (D:=Bool) (fun d=>vT F f d=some r) [3] (fun d=>[(4,.val .bool d)]) (fun d=>[]) ?_ ?_))
 ·refine aO (aM hF [3,4] (yaA ?_));refine aP (cE rfl (fun hc=>?_) (fun hc=>?_))
  ·(try simp only[go_sem] at hc);have h:=jZ zAD h;refine dA (cD (aK (decide (f=(1:Int))) h rfl ?_))
   ·exact zAJ
  ·(try simp only[go_sem] at hc);have h:=iW zAD h;refine aM hF [3,4] (yaA ?_);refine cD (aK (decide (f=(2:Int))) h rfl ?_)
   ·exact zAJ
 ·rintro z h;try dsimp only at h
  simp only[go_sem];unfold vT at h;refine cE rfl (fun hc=>?_) (fun hc=>?_)
  ·(try simp only[go_sem] at hc);exact zaQ
  ·(try simp only[go_sem] at hc);have h:=iW zAD h;refine zD (D:=Bool) (fun d=>nS F f d=some r) [3] (fun d=>[(7,.val .bool d)]) (fun d=>[]) ?_ ?_
   ·refine aO (aM hF [3,7] (yaA ?_));refine aP (cE rfl (fun hc=>?_) (fun hc=>?_))
    ·(try simp only[go_sem] at hc);have h:=jZ zAD h;refine dA (cD (aK (decide (f=(6:Int))) h rfl ?_))
     ·exact zAJ
    ·(try simp only[go_sem] at hc);have h:=iW zAD h;refine aO (aM hF [3,7] (yaA ?_));refine aP (cE rfl (fun hc=>?_) (fun hc=>?_))
     ·(try simp only[go_sem] at hc);have h:=jZ zAD h;refine dA (cD (aK (decide (f=(7:Int))) h rfl ?_))
      ·exact zAJ
     ·(try simp only[go_sem] at hc);have h:=iW zAD h;refine aO (aM hF [3,7] (yaA ?_));refine aP (cE rfl (fun hc=>?_) (fun hc=>?_))
      ·(try simp only[go_sem] at hc);have h:=jZ zAD h;refine dA (cD (aK (decide (f=(8:Int))) h rfl ?_))
       ·exact zAJ
      ·(try simp only[go_sem] at hc);have h:=iW zAD h;refine aM hF [3,7] (yaA ?_);refine cD (aK (decide (f=(9:Int))) h rfl ?_)
       ·exact zAJ
   ·rintro q h;(try dsimp only at h);simp only[go_sem];unfold nS at h;refine cE rfl (fun hc=>?_) (fun hc=>?_)
    ·(try simp only[go_sem] at hc);exact zaQ
    ·(try simp only[go_sem] at hc);have h:=iW zAD h;refine zD (D:=Bool) (fun d=>nR F d=some r) [] (fun d=>[(12,.val .bool d)]) (fun d=>[]) ?_ ?_
     ·refine aO (aM hF [3,12] (yaA ?_));refine aP (cE rfl (fun hc=>?_) (fun hc=>?_))
      ·(try simp only[go_sem] at hc);have h:=jZ zAD h;refine dA (cD (aK (decide (f=(10:Int))) h rfl ?_))
       ·exact zAJ
      ·(try simp only[go_sem] at hc);have h:=iW zAD h;refine aO (aM hF [3,12] (yaA ?_));refine aP (cE rfl (fun hc=>?_) (fun hc=>?_))
       ·(try simp only[go_sem] at hc);have h:=jZ zAD h;refine dA (cD (aK (decide (f=(11:Int))) h rfl ?_))
        ·exact zAJ
       ·(try simp only[go_sem] at hc);have h:=iW zAD h;refine aO (aM hF [3,12] (yaA ?_));refine aP (cE rfl (fun hc=>?_) (fun hc=>?_))
        ·(try simp only[go_sem] at hc);have h:=jZ zAD h;refine dA (cD (aK (decide (f=(12:Int))) h rfl ?_))
         ·exact zAJ
        ·(try simp only[go_sem] at hc);have h:=iW zAD h;refine aM hF [12] (yaA ?_);refine cD (aK (decide (f=(13:Int))) h rfl ?_)
         ·exact zAJ
     ·rintro g h;(try dsimp only at h);simp only[go_sem];unfold nR at h;exact zai
attribute [go_sem] aC8
@[go_sem]def aED:Ty:=.pair .expr (.pair qx .unit)
@[go_sem]def gZ(g:Ex→qj→Option (Bool)):aH:=mSpec aED (.one .bool) (fun x=>g x.1 x.2.1)
def yI(F:Md)(g:Ex→qj→Option (Bool))(z:Ex)(f:qj):Option Bool :=
 (g z f).bind (fun q=>some (!q))
def aIt:PlR:=⟨[(0,.B [1,2]),(1,.A [3])],[],[]⟩
def aJD:Ty:=.pair .expr vi
def aAN(F:Md)(g:Ex→qj→Option (Bool)):aH:=mSpec aJD (.one .bool) (fun x=>yI F g x.1 x.2.1)
abbrev aJE(F:Md)(g:Ex→qj→Option (Bool)):List (FuncId×aH):=[(95,(gZ g))]
theorem aVv(F:Md)(g:Ex→qj→Option (Bool))(f:FOK Tryz.prog GL 95 (gZ g)):bA Tryz.prog GL (aJE F g):=.cons f xAa (.nil)
attribute [go_sem] aJD aIt
theorem aSJ(F:Md)(g:Ex→qj→Option (Bool))(I:FOK Tryz.prog GL 95 (gZ g)):FOK Tryz.prog GL 147 (aAN F g):=by
 refine aX (aY (aVv F g I)) mix Tryz.func147 rfl xAa xAb aIt (fun w0 S x Θ J h hV=>?_);obtain⟨(q:Ex),(f:qj),u⟩:=x;simp only[bD,go_sem];replace h:sat (yI F g q f) _:=h;unfold yI at h;refine aD h fun z hv h=>?_;try simp only[hv,go_sem]
 exact aE hV [.tmp 3] rfl rfl rfl (aA h) xAd
attribute [go_sem] aAN
def bI(F:Md)(g:Ex→qj→Option (Bool))(q:(List Ex))(z:vh)(f:Int):Option ((Int)⊕((Unit)⊕Int)) :=
 if f<(q.length:Int) then ck (0≤f∧f<(q.length:Int)) ((yI F g (q.getD (f.toNat) (Ex.mk 0 [] [])) z.1).bind (fun v_27=>if v_27=true then some (.inr (.inr f)) else ck (I64 (f+(1:Int))) (some (.inl (f+(1:Int)))))) else some (.inr (.inl ()))
def cB(F:Md)(g:Ex→qj→Option (Bool))(f:(List Ex))(q:vh):Option Int :=
 (bO F (fun d:Int=>bI F g f q d) (0:Int)).bind (fun e=>match e with|(.inl e)=>some (-1:Int)|(.inr e)=>some e)
def fS:PlR:=⟨[(0,.A [0,1]),(1,.A [0,1,7,8]),(2,.A [0,1,7,8,9]),(3,.A [0,1,5,7,8]),(4,.A [0,1,5,7,8,16]),(5,.A [4]),(6,.A [0,1,7,8]),(7,.A [4])],[],[]⟩
def gA:Ty:=.pair (.sl .expr) (.pair (.clo 147 vi) .unit)
def cS(F:Md)(g:Ex→qj→Option (Bool)):aH:=mSpec gA (.one qi) (fun x=>cB F g x.1 x.2.1)
abbrev gB(F:Md)(g:Ex→qj→Option (Bool)):List (FuncId×aH):=[(147,(aAN F g))]
theorem qS(F:Md)(g:Ex→qj→Option (Bool))(f:FOK Tryz.prog GL 95 (gZ g)):bA Tryz.prog GL (gB F g):=.cons (aSJ F g f) xAa (.nil)
attribute [go_sem] gA fS
theorem pY(F:Md)(g:Ex→qj→Option (Bool))(I:FOK Tryz.prog GL 95 (gZ g)):FOK Tryz.prog GL 174 (cS F g):=by
 refine aX (aY (qS F g I)) mix Tryz.func174 rfl xAa xAb fS (fun w0 S x Θ J h hV=>?_);obtain⟨(q:(List Ex)),(z:vh),u⟩:=x;simp only[bD,go_sem];replace h:sat (cB F g q z) _:=h;unfold cB at h;refine aU hV (D:=Int) [0,1,7] (fun d=>[(8,.val qi d)]) (fun d=>[]) h rfl xAc ?_;rintro f L T2 hA2 hE2 h;simp only[go_sem];replace h:sat (bI F g q z f) _:=h;unfold bI at h;exact zaN
attribute [go_sem] cS
def bJ(F:Md)(g:Ex→qj→Option (Bool))(z:(List Ex))(f:vh):Option Bool :=
 (cB F g z f).bind (fun q=>some (decide ((0:Int)≤q)))
def eV:PlR:=⟨[(0,.A [0,1]),(1,.A [4])],[],[]⟩
def fE:Ty:=.pair (.sl .expr) (.pair (.clo 147 vi) .unit)
def cH(F:Md)(g:Ex→qj→Option (Bool)):aH:=mSpec fE (.one .bool) (fun x=>bJ F g x.1 x.2.1)
abbrev fF(F:Md)(g:Ex→qj→Option (Bool)):List (FuncId×aH):=[(174,(cS F g))]
theorem oI(F:Md)(g:Ex→qj→Option (Bool))(f:FOK Tryz.prog GL 95 (gZ g)):bA Tryz.prog GL (fF F g):=.cons (pY F g f) xAa (.nil)
attribute [go_sem] fE eV
theorem nX(F:Md)(g:Ex→qj→Option (Bool))(I:FOK Tryz.prog GL 95 (gZ g)):FOK Tryz.prog GL 146 (cH F g):=by
 refine aX (aY (oI F g I)) mix Tryz.func146 rfl xAa xAb eV (fun w0 S x Θ J h hV=>?_);obtain⟨(f:(List Ex)),(q:vh),u⟩:=x;simp only[bD,go_sem];replace h:sat (bJ F g f q) _:=h;unfold bJ at h;refine aD h fun z hv h=>?_;exact zaW
attribute [go_sem] cH
def tH(F:Md)(g:Ex→qj→Option (Bool))(f:Ex)(names_1:qj):Option Bool :=
 (zP F (f.kind)).bind (fun q=>if ¬(q=(((f.l).length:Nat):Int)) then some false else if (f.kind)=(1:Int) then (aCN F (f.text)).bind (fun z=>some z) else if (f.kind)=(2:Int) then ck (¬((f.text)=(aI ⟨#[116]⟩))→((dE F names_1 (f.text)).isSome=true)) (some ((decide ((f.text)=(aI ⟨#[116]⟩)))||((dE F names_1 (f.text)).getD false))) else ck (((f.text)=(aI ⟨#[]⟩))→((bJ F g (f.l) (names_1,())).isSome=true)) (some ((decide ((f.text)=(aI ⟨#[]⟩)))&&(!((bJ F g (f.l) (names_1,())).getD false)))))
def aLp:PlR:=⟨[(0,.B [2,3]),(1,.A [2,3,11]),(2,.A [4]),(3,.A [2,3,13]),(4,.A [2,3,13,14]),(5,.A [4]),(6,.A [2,3,19]),(7,.A [4]),(8,.stop)],[],[]⟩
abbrev aB6(F:Md)(g:Ex→qj→Option (Bool)):List (FuncId×aH):=[(146,(cH F g)),(144,(aC8 F)),(145,(aFV F)),(98,(eM F))]
theorem bAn(F:Md)(g:Ex→qj→Option (Bool))(f:FOK Tryz.prog GL 95 (gZ g)):bA Tryz.prog GL (aB6 F g):=.cons (nX F g f) xAa (.cons (aXD F) xAa (.cons (bCV F) xAa (.cons (aAi F) xAa (.nil))))
attribute [go_sem] aLp
theorem aVw(F:Md)(g:Ex→qj→Option (Bool))(I:FOK Tryz.prog GL 95 (gZ g)):FOK Tryz.prog GL 95 (mSpec aED (.one .bool) (fun x=>tH F g x.1 x.2.1)):=by
 refine aX (aY (bAn F g I)) mix Tryz.func95 rfl xAa xAb aLp (fun w0 S x Θ J h hV=>?_);obtain⟨(f:Ex),(names_1:qj),u⟩:=x;simp only[bD,go_sem];replace h:sat (tH F g f names_1) _:=h;unfold tH at h;refine aD h fun q hv h=>?_;try simp only[hv,go_sem]
 refine bS h (fun hc h=>?_) fun hc h=>?_
 ·exact aE hV [.tmp 4] rfl rfl rfl (aA h) xAd
 ·refine bS h (fun hc h=>?_) fun hc h=>?_
  ·refine aD h fun z hv h=>?_;exact zaW
  ·refine bS h (fun hc h=>?_) fun hc h=>?_
   ·refine aB h fun g0 h=>(yaG ?_);exact zaE
   ·refine aDF 1 rfl (yaA ?_);refine bZ hV [4] (yaA ?_);refine aB h fun g0 h=>(yaG ?_);exact zaE
def vB(F:Md):Nat→Ex→qj→Option (Bool)
 | 0=>fun _ _=>none
 | n+1=>tH F (vB F n)
def aC9(F:Md)(n:Nat):aH:=mSpec aED (.one .bool) (fun x=>vB F n x.1 x.2.1)
theorem aLq(F:Md):∀n,FOK Tryz.prog GL 95 (aC9 F n)
 | 0=>fun _ _ _ _ _ _ _ hp=>Bool.noConfusion (show false=true from hp)
 | n+1=>aVw F _ (aLq F n)
attribute [go_sem] aC9
def eO(F:Md)(f:Nat):Option Bool :=
 some ((decide ((48:Nat)≤f))&&(decide (f≤(57:Nat))))
def aLr:PlR:=⟨[(0,.A [0]),(1,.A [2])],[],[]⟩
def aNT:Ty:=.pair qw .unit
def aDa(F:Md):aH:=mSpec aNT (.one .bool) (fun x=>eO F x.1)
abbrev bAo(F:Md):List (FuncId×aH):=[]
theorem bAp(F:Md):bA Tryz.prog GL (bAo F):=.nil
attribute [go_sem] aNT aLr
theorem aXE(F:Md):FOK Tryz.prog GL 161 (aDa F):=by
 refine aX (aY (bAp F)) mix Tryz.func161 rfl xAa xAb aLr (fun w0 S x Θ g h hV=>?_);obtain⟨(f:Nat),u⟩:=x;simp only[bD,go_sem];replace h:sat (eO F f) _:=h;unfold eO at h;exact zaB
attribute [go_sem] aDa
def rL(F:Md)(q:Int)(g:Int)(I:Int)(f:Int)(z:Int):Option (Int) :=
 ck ((q<f)→(I64 (q+(3:Int)))) (if ((q<f)∧(f≤(q+(3:Int))))∧(z≤(100:Int)) then ck (I64 (f-g)) (some (f-g)) else ck (I64 (I-g)) (some (I-g)))
def fT(F:Md)(g:qd)(q:Int)(f:Int)(z:Int):Option (q9⊕q9) :=
 ck ((f<(g.length:Int))→(I64 (q+(4:Int)))) (ck (((f<(g.length:Int))∧(f<(q+(4:Int))))→(0≤f∧f<(g.length:Int))) (ck (((f<(g.length:Int))∧(f<(q+(4:Int))))→((eO F (g.getD (f.toNat) (0:Nat))).isSome=true)) (if ((f<(g.length:Int))∧(f<(q+(4:Int))))∧(((eO F (g.getD (f.toNat) (0:Nat))).getD false)=true) then ck (I64 (z*(10:Int))) (ck (0≤f∧f<(g.length:Int)) (ck (I64 ((z*(10:Int))+(((pN F .u8 (g.getD (f.toNat) (0:Nat)) (48:Nat)):Nat):Int))) (ck (I64 (f+(1:Int))) (some (.inl ((f+(1:Int)),((z*(10:Int))+(((pN F .u8 (g.getD (f.toNat) (0:Nat)) (48:Nat)):Nat):Int)))))))) else some (.inr (f,z)))))
def jI(F:Md)(q:qd)(g:Int)(z:Int)(f:Int):Option (Int) :=
 (bO F (fun d:Int×Int=>fT F q f d.1 d.2) (f,(0:Int))).bind (fun e=>rL F f g z e.1 e.2)
def jJ(F:Md)(g:qd)(q:Int)(f:Int):Option (Int) :=
 ck ((f<(g.length:Int))→(0≤f∧f<(g.length:Int))) (if (f<(g.length:Int))∧((g.getD (f.toNat) (0:Nat))=(101:Nat)) then ck (I64 (f+(1:Int))) (ck (((f+(1:Int))<(g.length:Int))→(0≤(f+(1:Int))∧(f+(1:Int))<(g.length:Int))) (ck (((f+(1:Int))<(g.length:Int))→ ¬((g.getD (f+(1:Int)).toNat (0:Nat))=(43:Nat))→(0≤(f+(1:Int))∧(f+(1:Int))<(g.length:Int))) (if ((f+(1:Int))<(g.length:Int))∧(((g.getD (f+(1:Int)).toNat (0:Nat))=(43:Nat))∨((g.getD (f+(1:Int)).toNat (0:Nat))=(45:Nat))) then ck (I64 ((f+(1:Int))+(1:Int))) (jI F g q f ((f+(1:Int))+(1:Int))) else jI F g q f (f+(1:Int))))) else ck (I64 (f-q)) (some (f-q)))
def xD(F:Md)(g:qd)(f:Int):Option ((Int)⊕(Int)) :=
 ck ((f<(g.length:Int))→(0≤f∧f<(g.length:Int))) (ck ((f<(g.length:Int))→((eO F (g.getD (f.toNat) (0:Nat))).isSome=true)) (if (f<(g.length:Int))∧(((eO F (g.getD (f.toNat) (0:Nat))).getD false)=true) then ck (I64 (f+(1:Int))) (some (.inl (f+(1:Int)))) else some (.inr f)))
def rM(F:Md)(q:Int)(g:qd)(f:Int):Option (Int) :=
 if f=q then some (0:Int) else ck (I64 (f+(1:Int))) (ck (((f+(1:Int))<(g.length:Int))→(0≤f∧f<(g.length:Int))) (ck ((((f+(1:Int))<(g.length:Int))∧((g.getD (f.toNat) (0:Nat))=(46:Nat)))→(I64 (f+(1:Int)))) (ck ((((f+(1:Int))<(g.length:Int))∧((g.getD (f.toNat) (0:Nat))=(46:Nat)))→(0≤(f+(1:Int))∧(f+(1:Int))<(g.length:Int))) (ck ((((f+(1:Int))<(g.length:Int))∧((g.getD (f.toNat) (0:Nat))=(46:Nat)))→((eO F (g.getD (f+(1:Int)).toNat (0:Nat))).isSome=true)) (if (((f+(1:Int))<(g.length:Int))∧((g.getD (f.toNat) (0:Nat))=(46:Nat)))∧(((eO F (g.getD (f+(1:Int)).toNat (0:Nat))).getD false)=true) then ck (I64 (f+(1:Int))) ((bO F (fun d:Int=>xD F g d) (f+(1:Int))).bind (fun e=>jJ F g q e)) else jJ F g q f)))))
def xE(F:Md)(g:qd)(f:Int):Option ((Int)⊕(Int)) :=
 ck ((f<(g.length:Int))→(0≤f∧f<(g.length:Int))) (ck ((f<(g.length:Int))→((eO F (g.getD (f.toNat) (0:Nat))).isSome=true)) (if (f<(g.length:Int))∧(((eO F (g.getD (f.toNat) (0:Nat))).getD false)=true) then ck (I64 (f+(1:Int))) (some (.inl (f+(1:Int)))) else some (.inr f)))
def pZ(F:Md)(g:qd)(f:Int):Option Int :=
 (bO F (fun d:Int=>xE F g d) f).bind (fun e=>rM F f g e)
def aIu:PlR:=⟨[(0,.A [0,1]),(1,.A [0,1,5]),(2,.A [0,1,5,19]),(3,.A [0,1,5]),(4,.A [0,1,5,24]),(5,.A [4]),(6,.A [0,1,5,42]),(7,.A [0,1,5]),(8,.A [0,1,5,54]),(9,.A [0,1,5]),(10,.A [0,1,5,6]),(11,.A [0,1,5,6,67]),(12,.A [0,1,5,6]),(13,.A [0,1,5,6,85]),(14,.A [0,1,5,6]),(15,.A [0,1,5,6,7]),(16,.A [0,1,5,6,7,8]),(17,.A [0,1,5,6,7,8,104]),(18,.A [0,1,5,6,7,8]),(19,.A [0,1,5,6,7,8]),(20,.A [1,5,6,127]),(21,.A [1,5]),(22,.A [4])],[(5,7),(9,13),(16,18),(20,23)],[]⟩
def aJF:Ty:=.pair .str qo
def aAO(F:Md):aH:=mSpec aJF (.one qi) (fun x=>pZ F x.1 x.2.1)
abbrev aJG(F:Md):List (FuncId×aH):=[(161,(aDa F))]
theorem aVx(F:Md):bA Tryz.prog GL (aJG F):=.cons (aXE F) xAa (.nil)
attribute [go_sem] aJF aIu
theorem aSL(F:Md):FOK Tryz.prog GL 105 (aAO F):=by
 refine aX (aY (aVx F)) mix Tryz.func105 rfl xAa xAb aIu (fun w0 S x Θ hw h hV=>?_);obtain⟨(g:qd),(f:Int),u⟩:=x;simp only[bD,go_sem];replace h:sat (pZ F g f) _:=h;unfold pZ at h;refine bH hV (D:=Int) (fun d=>sat (rM F f g d) Θ) [0,1] (fun d=>[(5,.val qi d)]) (fun d=>[]) ?_ ?_
 ·simp only[go_sem,aR F,aS F,aT F];refine aU hV (D:=Int) [0,1] (fun d=>[(5,.val qi d)]) (fun d=>[]) h rfl xAe ?_;rintro N A2 T2 hA2 hE2 h;simp only[go_sem,aR F,aS F,aT F];replace h:sat (xE F g N) _:=h;unfold xE at h;refine aB h fun g0 h=>?_;refine aB h fun g1 h=>(yaB ?_);refine⟨fun hc=>?_,fun hc=>?_⟩
  ·replace h:=cW hc h;refine aB h fun g0 h=>(yaB ?_);replace h:=hA2 _ (aA h);exact zaK
  ·replace h:=cX hc h;replace h:=yaH (hE2 _ (aA h));exact aK (N) h rfl xAe
 ·rintro U h;simp only[go_sem,aR F,aS F,aT F];replace h:sat (rM F f g U) _:=h;unfold rM at h;refine bS h (fun hc h=>?_) fun hc h=>?_
  ·exact aE hV [.tmp 4] rfl rfl rfl (aA h) xAf
  ·refine bH hV (D:=Int) (fun d=>sat (jJ F g f d) Θ) [0,1] (fun d=>[(5,.val qi d)]) (fun d=>[]) ?_ ?_
   ·simp only[go_sem,aR F,aS F,aT F];refine aB h fun g0 h=>?_;refine aB h fun g1 h=>?_;refine aB h fun g2 h=>?_;refine aB h fun g3 h=>?_;refine aB h fun g4 h=>(yaB ?_);refine⟨fun hc=>?_,fun hc=>?_⟩
    ·replace h:=cW hc h;refine aB h fun g0 h=>(yaB ?_);refine aU hV (D:=Int) [0,1] (fun d=>[(5,.val qi d)]) (fun d=>[]) h rfl xAe ?_;rintro L A8 T8 hA8 hE8 h;simp only[go_sem,aR F,aS F,aT F];replace h:sat (xD F g L) _:=h;unfold xD at h;refine aB h fun g0 h=>?_;refine aB h fun g1 h=>(yaB ?_);refine⟨fun hc=>?_,fun hc=>?_⟩
     ·replace h:=cW hc h;refine aB h fun g0 h=>(yaB ?_);replace h:=hA8 _ (aA h);exact zaK
     ·replace h:=cX hc h;replace h:=yaH (hE8 _ (aA h));exact aK (L) h rfl xAe
    ·replace h:=cX hc h;exact aK (U) h rfl xAe
   ·rintro q h;simp only[go_sem,aR F,aS F,aT F];replace h:sat (jJ F g f q) _:=h;unfold jJ at h;refine aB h fun g0 h=>(yaB ?_);refine⟨fun hc=>?_,fun hc=>?_⟩
    ·replace h:=cW hc h;refine aB h fun g0 h=>(yaB ?_);refine bH hV (D:=Int) (fun d=>sat (jI F g f q d) Θ) [0,1,5] (fun d=>[(6,.val qi d)]) (fun d=>[]) ?_ ?_
     ·simp only[go_sem,aR F,aS F,aT F];refine aB h fun g0 h=>?_;refine aB h fun g1 h=>(yaB ?_);refine⟨fun hc=>?_,fun hc=>?_⟩
      ·replace h:=cW hc h;refine aB h fun g0 h=>(yaB ?_);exact aK ((q+(1:Int))+(1:Int)) h rfl xAe
      ·replace h:=cX hc h;exact aK (q+(1:Int)) h rfl xAe
     ·rintro z h;simp only[go_sem,aR F,aS F,aT F];replace h:sat (jI F g f q z) _:=h;unfold jI at h;refine bH hV (D:=Int×Int) (fun d=>sat (rL F z f q d.1 d.2) Θ) [1,5,7] (fun d=>[(6,.val qi d.1),(8,.val qi d.2)]) (fun d=>[]) ?_ ?_
      ·simp only[go_sem,aR F,aS F,aT F];refine aU hV (D:=Int×Int) [0,1,5,7] (fun d=>[(6,.val qi d.1),(8,.val qi d.2)]) (fun d=>[]) h rfl xAe ?_;rintro⟨I,J⟩ A17 T17 Z O h;simp only[go_sem,aR F,aS F,aT F];replace h:sat (fT F g z I J) _:=h;unfold fT at h;refine aB h fun g0 h=>?_;refine aB h fun g1 h=>?_;refine aB h fun g2 h=>(yaB ?_);refine⟨fun hc=>?_,fun hc=>?_⟩
       ·replace h:=cW hc h;refine aB h fun g0 h=>?_;refine aB h fun g1 h=>?_;refine aB h fun g2 h=>(yaB ?_);refine aB h fun g0 h=>(yaB ?_);replace h:=Z _ (aA h);exact zaK
       ·replace h:=cX hc h;replace h:=yaH (O _ (aA h));exact aK (I,J) h rfl xAe
      ·rintro⟨Y,W⟩ h;simp only[go_sem,aR F,aS F,aT F];replace h:sat (rL F z f q Y W) _:=h;unfold rL at h;refine aB h fun g0 h=>(yaB ?_);refine⟨fun hc=>?_,fun hc=>?_⟩
       ·replace h:=cW hc h;exact zap
       ·replace h:=cX hc h;exact zap
    ·replace h:=cX hc h;exact zap
attribute [go_sem] aAO
def iL(F:Md)(f:qd):Option Bool :=
 ck (((¬(f=(aI ⟨#[]⟩)))∧((f.length:Int)≤(60:Int)))→((pZ F f (0:Int)).isSome=true)) (some (((!(decide (f=(aI ⟨#[]⟩))))&&(decide ((f.length:Int)≤(60:Int))))&&(decide (((pZ F f (0:Int)).getD (0:Int))=(f.length:Int)))))
def aNU:PlR:=⟨[(0,.A [0]),(1,.A [2])],[],[]⟩
def aRz:Ty:=.pair .str .unit
def rN(F:Md):aH:=mSpec aRz (.one .bool) (fun x=>iL F x.1)
abbrev aRA(F:Md):List (FuncId×aH):=[(105,(aAO F))]
theorem bCZ(F:Md):bA Tryz.prog GL (aRA F):=.cons (aSL F) xAa (.nil)
attribute [go_sem] aRz aNU
theorem aH5(F:Md):FOK Tryz.prog GL 66 (rN F):=by
 refine aX (aY (bCZ F)) mix Tryz.func66 rfl xAa xAb aNU (fun w0 S x Θ g h hV=>?_);obtain⟨(f:qd),u⟩:=x;simp only[bD,go_sem];replace h:sat (iL F f) _:=h;unfold iL at h;exact zab
attribute [go_sem] rN
def qA(F:Md)(g:qd)(f:Int):Option ((Int)⊕(Int)) :=
 ck (((0:Int)<f)→(I64 (f-(1:Int)))) (ck (((0:Int)<f)→(0≤(f-(1:Int))∧(f-(1:Int))<(g.length:Int))) (if ((0:Int)<f)∧((g.getD (f-(1:Int)).toNat (0:Nat))=(0:Nat)) then ck (I64 (f-(1:Int))) (some (.inl (f-(1:Int)))) else some (.inr f)))
def kC(F:Md)(f:qd):Option qd :=
 (bO F (fun d:Int=>qA F f d) (f.length:Int)).bind (fun e=>ck (0≤e∧e≤(f.length:Int)) (some (List.take (e.toNat) f)))
def aNV:PlR:=⟨[(0,.A [0]),(1,.A [0,3]),(2,.A [0,3,15]),(3,.A [0,3]),(4,.A [2])],[],[]⟩
def aRB:Ty:=.pair qp .unit
def eF(F:Md):aH:=mSpec aRB (.one qp) (fun x=>kC F x.1)
abbrev bC0(F:Md):List (FuncId×aH):=[]
theorem bC1(F:Md):bA Tryz.prog GL (bC0 F):=.nil
attribute [go_sem] aRB aNV
theorem vC(F:Md):FOK Tryz.prog GL 111 (eF F):=by
 refine aX (aY (bC1 F)) mix Tryz.func111 rfl xAa xAb aNV (fun w0 S x Θ q h hV=>?_);obtain⟨(f:qd),u⟩:=x;simp only[bD,go_sem];replace h:sat (kC F f) _:=h;unfold kC at h;refine aU hV (D:=Int) [0] (fun d=>[(3,.val qi d)]) (fun d=>[]) h rfl xAc ?_;rintro g z T2 hA2 hE2 h;simp only[go_sem];replace h:sat (qA F f g) _:=h;unfold qA at h;refine aG h fun g0 h=>aG h fun g1 h=>?_;refine⟨fun hc=>?_,fun hc=>?_⟩
 ·replace h:=cW hc h;refine aG h fun g0 h=>?_;exact zar
 ·replace h:=cX hc h;replace h:=yaH (hE2 _ (aA h));exact zab
attribute [go_sem] eF
def hO(F:Md)(q:Nat)(g:Int)(f:qd):Option (wm⊕qd) :=
 if (0:Nat)<q then ck (0≤g∧g<(f.length:Int)) (ck (0≤g∧g<(f.length:Int)) (ck (I64 (g+(1:Int))) (some (.inl ((((q+(f.getD (g.toNat) (0:Nat)))%4294967296)/(65536:Nat)),(g+(1:Int)),(f.set (g.toNat) (((q+(f.getD (g.toNat) (0:Nat)))%4294967296)&&&(65535:Nat)))))))) else some (.inr f)
def aAA(F:Md)(f:Int)(z:qd)(q:Nat)(g:qd):Option (ww⊕qd) :=
 ck (I64 (f+(z.length:Int))) ((bO F (fun d:Nat×Int×qd=>hO F d.1 d.2.1 d.2.2) (q,(f+(z.length:Int)),g)).bind (fun e=>ck (I64 (f+(1:Int))) (some (.inl ((f+(1:Int)),e)))))
def wN(F:Md)(q:Int)(f:Int)(g:qd)(J:qd)(L:qd)(I:Nat)(z:Nat):Option (wm⊕vg) :=
 ck (I64 (q+f)) (ck (0≤(q+f)∧(q+f)<(g.length:Int)) (ck (I64 (f+(1:Int))) (some (.inl (((((((((mulM F .u32 (J.getD (q.toNat) (0:Nat)) (L.getD (f.toNat) (0:Nat)))+(g.getD (q+f).toNat (0:Nat)))%4294967296)+I)%4294967296)/(65536:Nat))+z)%4294967296),(f+(1:Int)),(g.set (q+f).toNat ((((((mulM F .u32 (J.getD (q.toNat) (0:Nat)) (L.getD (f.toNat) (0:Nat)))+(g.getD (q+f).toNat (0:Nat)))%4294967296)+I)%4294967296)&&&(65535:Nat))))))))
def oU(F:Md)(I:qd)(q:Int)(J:qd)(z:Nat)(f:Int)(g:qd):Option (wm⊕vg) :=
 if f<(I.length:Int) then ck (0≤q∧q<(J.length:Int)) (ck (0≤f∧f<(I.length:Int)) (ck (I64 (q+f)) (ck (0≤(q+f)∧(q+f)<(g.length:Int)) (if (((((mulM F .u32 (J.getD (q.toNat) (0:Nat)) (I.getD (f.toNat) (0:Nat)))+(g.getD (q+f).toNat (0:Nat)))%4294967296)+z)%4294967296)<(((mulM F .u32 (J.getD (q.toNat) (0:Nat)) (I.getD (f.toNat) (0:Nat)))+(g.getD (q+f).toNat (0:Nat)))%4294967296) then wN F q f g J I z (65536:Nat) else wN F q f g J I z (0:Nat))))) else some (.inr (z,g))
def sE(F:Md)(z:qd)(q:qd)(g:Int)(f:qd):Option (ww⊕qd) :=
 if g<(z.length:Int) then (bO F (fun d:Nat×Int×qd=>oU F q g z d.1 d.2.1 d.2.2) ((0:Nat),(0:Int),f)).bind (fun e=>aAA F g q e.1 e.2) else some (.inr f)
def lI(F:Md)(g:qd)(f:qd):Option qd :=
 ck (I64 ((g.length:Int)+(f.length:Int))) (ck (0≤((g.length:Int)+(f.length:Int))) (ck ((4:Int)*((g.length:Int)+(f.length:Int))≤281474976710656) ((bO F (fun d:Int×qd=>sE F g f d.1 d.2) ((0:Int),(List.replicate ((g.length:Int)+(f.length:Int)).toNat (0:Nat)))).bind (fun e=>(kC F e).bind (fun q=>some q)))))
def aRC:PlR:=⟨[(0,.A [0,1]),(1,.B [0,1,5]),(2,.A [0,1,5,6]),(3,.A [0,1,5,6,22]),(4,.A [0,1,5,6]),(5,.A [0,1,5,6,7]),(6,.A [0,1,5,6,7,8]),(7,.A [0,1,5,6,7,8,28]),(8,.A [0,1,5,6,7,8]),(9,.A [0,1,5,6,7,8,9]),(10,.A [0,1,5,6,8,9,10]),(11,.A [0,1,5,6,8,9,10,11]),(12,.A [0,1,5,6,8,10,11,52]),(13,.A [0,1,5,6,8,10,11]),(14,.B [0,1,5,6,8,10,11]),(15,.A [0,1,5,6,7,8]),(16,.A [0,1,5,6,7,12]),(17,.A [0,1,5,6,7,12,69]),(18,.A [0,1,5,6,7,12]),(19,.A [0,1,5,6,7,12]),(20,.B [0,1,5,6,7,12]),(21,.A [0,1,5,6,7,12]),(22,.B [4])],[(9,19),(15,17)],[]⟩
def aVy:Ty:=.pair qp (.pair qp .unit)
def oV(F:Md):aH:=mSpec aVy (.one qp) (fun x=>lI F x.1 x.2.1)
abbrev aVz(F:Md):List (FuncId×aH):=[(111,(eF F))]
theorem bEI(F:Md):bA Tryz.prog GL (aVz F):=.cons (vC F) xAa (.nil)
attribute [go_sem] aVy aRC
theorem aFW(F:Md):FOK Tryz.prog GL 69 (oV F):=by
 refine aX (aY (bEI F)) mix Tryz.func69 rfl xAa xAb aRC (fun w0 S x Θ hw h hV=>?_);obtain⟨(L:qd),(I:qd),u⟩:=x;simp only[bD,go_sem];replace h:sat (lI F L I) _:=h;unfold lI at h;refine aB h fun g0 h=>(yaB ?_);refine aB h fun g0 h=>?_;refine aB h fun g1 h=>(yaB ?_);refine aU hV (D:=Int×qd) [0,1] (fun d=>[(5,.own 0),(6,.val qi d.1)]) (fun d=>[.inr (.row 115 wg d.2)]) h rfl xAe ?_;rintro⟨g,U⟩ A3 T3 hA3 hE3 h;simp only[go_sem,aR F,aS F,aT F];replace h:sat (sE F L I g U) _:=h;unfold sE at h;refine bP h (fun hc h=>?_) fun hc h=>?_
 ·refine bH hV (D:=Nat×qd) (fun d=>sat (aAA F g I d.1 d.2) T3) [0,1,6] (fun d=>[(5,.own 0),(7,.val wg d.1)]) (fun d=>[.inr (.row 115 wg d.2)]) ?_ ?_
  ·simp only[go_sem,aR F,aS F,aT F];refine aU hV (D:=Nat×Int×qd) [0,1,6] (fun d=>[(5,.own 0),(7,.val wg d.1),(8,.val qi d.2.1)]) (fun d=>[.inr (.row 115 wg d.2.2)]) h rfl xAe ?_;rintro⟨q,z,f⟩ A7 T7 hA7 hE7 h;simp only[go_sem,aR F,aS F,aT F];replace h:sat (oU F I g L q z f) _:=h;unfold oU at h;refine bP h (fun hc h=>?_) fun hc h=>?_
   ·refine aB h fun g0 h=>?_;refine aB h fun g1 h=>?_;refine aB h fun g2 h=>?_;refine aB h fun g3 h=>(yaB ?_);refine bH hV (D:=Nat) (fun d=>sat (wN F g z f L I q d) T7) [0,1,6,8,10] (fun d=>[(5,.own 0),(11,.val wg d)]) (fun d=>[.inr (.row 115 wg f)]) ?_ ?_
    ·simp only[go_sem,aR F,aS F,aT F];refine bS h (fun hc h=>?_) fun hc h=>?_
     ·exact aK (65536:Nat) h rfl xAe
     ·exact aK (0:Nat) h rfl xAe
    ·rintro J h;simp only[go_sem,aR F,aS F,aT F];replace h:sat (wN F g z f L I q J) _:=h;unfold wN at h;refine aB h fun g0 h=>(yaB ?_);refine aB h fun g0 h=>(yaB ?_);refine aB h fun g0 h=>(yaB ?_);replace h:=hA7 _ (aA h);exact zaK
   ·replace h:=yaH (hE7 _ (aA h));exact aK (q,f) h rfl xAe
  ·rintro⟨Y,O⟩ h;simp only[go_sem,aR F,aS F,aT F];replace h:sat (aAA F g I Y O) _:=h;unfold aAA at h;refine aB h fun g0 h=>(yaB ?_);refine aU hV (D:=Nat×Int×qd) [0,1,6] (fun d=>[(5,.own 0),(7,.val wg d.1),(12,.val qi d.2.1)]) (fun d=>[.inr (.row 115 wg d.2.2)]) h rfl xAe ?_;rintro⟨Z,W,N⟩ A17 T17 hA17 hE17 h;simp only[go_sem,aR F,aS F,aT F];replace h:sat (hO F Z W N) _:=h;unfold hO at h;refine bS h (fun hc h=>?_) fun hc h=>?_
   ·refine aB h fun g0 h=>(yaB ?_);refine aB h fun g0 h=>(yaB ?_);refine aB h fun g0 h=>(yaB ?_);replace h:=hA17 _ (aA h);exact zaK
   ·replace h:=yaH (hE17 _ (aA h));refine aB h fun g0 h=>(yaB ?_);replace h:=hA3 _ (aA h);exact zaK
 ·replace h:=yaH (hE3 _ (aA h));refine aD h fun v_126 hv h=>?_;try simp only[hv,go_sem,aR F,aS F,aT F]
  exact aE hV [.tmp 4] rfl rfl rfl (aA h) xAf
attribute [go_sem] oV
def mL(F:Md)(q:Int)(z:qd)(g:Int)(f:qd):Option (ww⊕qd) :=
 if g<(4:Int) then ck (0≤q∧q<(z.length:Int)) (ck (I64 ((16:Int)*g)) (ck (((f.length)+(1:Nat))*4≤140737488355328) (ck (I64 (g+(1:Int))) (some (.inl ((g+(1:Int)),(f++([((((z.getD (q.toNat) (0:Nat))/(2^(((16:Int)*g)%(18446744073709551616:Int)).toNat))%4294967296)&&&(65535:Nat))]:List Nat)))))))) else some (.inr f)
def qB(F:Md)(q:qd)(g:Int)(f:qd):Option (ww⊕qd) :=
 if g<(q.length:Int) then (bO F (fun d:Int×qd=>mL F g q d.1 d.2) ((0:Int),f)).bind (fun e=>ck (I64 (g+(1:Int))) (some (.inl ((g+(1:Int)),e)))) else some (.inr f)
def yJ(F:Md)(g:qd):Option qd :=
 (bO F (fun d:Int×qd=>qB F g d.1 d.2) ((0:Int),([]:List Nat))).bind (fun e=>(kC F e).bind (fun f=>some f))
def aNW:PlR:=⟨[(0,.A [0]),(1,.A [0,3]),(2,.A [0,3,4]),(3,.A [0,3,4,9]),(4,.A [0,3,4]),(5,.A [0,3,4,5]),(6,.A [0,3,4,5,13]),(7,.A [0,3,4,5]),(8,.B [0,3,4,5]),(9,.B [2])],[],[]⟩
def aRD:Ty:=.pair qu .unit
def zQ(F:Md):aH:=mSpec aRD (.one qp) (fun x=>yJ F x.1)
abbrev aRE(F:Md):List (FuncId×aH):=[(111,(eF F))]
theorem bC2(F:Md):bA Tryz.prog GL (aRE F):=.cons (vC F) xAa (.nil)
attribute [go_sem] aRD aNW
theorem aNX(F:Md):FOK Tryz.prog GL 117 (zQ F):=by
 refine aX (aY (bC2 F)) mix Tryz.func117 rfl xAa xAb aNW (fun w0 S x Θ U h hV=>?_);obtain⟨(z:qd),u⟩:=x;simp only[bD,go_sem];replace h:sat (yJ F z) _:=h;unfold yJ at h;refine pM 3 115 wg rfl (yaA ?_);refine aU hV (D:=Int×qd) [0] (fun d=>[(3,.own 0),(4,.val qi d.1)]) (fun d=>[.inr (.row 115 wg d.2)]) h rfl xAc ?_;rintro⟨q,g⟩ W T3 hA3 J h;simp only[go_sem];replace h:sat (qB F z q g) _:=h;unfold qB at h;refine bP h (fun hc h=>?_) fun hc h=>?_
 ·refine aU hV (D:=Int×qd) [0,4] (fun d=>[(3,.own 0),(5,.val qi d.1)]) (fun d=>[.inr (.row 115 wg d.2)]) h rfl xAc ?_;rintro⟨I,f⟩ Z Y N L h;simp only[go_sem];replace h:sat (mL F q z I f) _:=h;unfold mL at h;refine bP h (fun hc h=>?_) fun hc h=>?_
  ·refine aB h fun g0 h=>(yaB ?_);refine aB h fun g0 h=>(yaB ?_);refine aB h fun g0 h=>(yaB ?_);refine aB h fun g0 h=>(yaB ?_);replace h:=N _ (aA h);refine fA [1] rfl rfl (yaA ?_);exact zaF
  ·replace h:=yaH (L _ (aA h));refine aB h fun g0 h=>(yaB ?_);exact zas
 ·replace h:=yaH (J _ (aA h));refine aD h fun O hv h=>?_;try simp only[hv,go_sem]
  exact zaB
attribute [go_sem] zQ
def zR(F:Md)(f:Nat):Option qd :=
 (yJ F ([f]:List Nat)).bind (fun v_5=>some v_5)
def aLs:PlR:=⟨[(0,.A [0]),(1,.A [2])],[],[]⟩
def aNY:Ty:=.pair qk .unit
def aDb(F:Md):aH:=mSpec aNY (.one qp) (fun x=>zR F x.1)
abbrev aNZ(F:Md):List (FuncId×aH):=[(117,(zQ F))]
theorem bAq(F:Md):bA Tryz.prog GL (aNZ F):=.cons (aNX F) xAa (.nil)
attribute [go_sem] aNY aLs
theorem aXF(F:Md):FOK Tryz.prog GL 107 (aDb F):=by
 refine aX (aY (bAq F)) mix Tryz.func107 rfl xAa xAb aLs (fun w0 S x Θ g h hV=>?_);obtain⟨(f:Nat),u⟩:=x;simp only[bD,go_sem];replace h:sat (zR F f) _:=h;unfold zR at h;exact zaU
attribute [go_sem] aDb
def sF(F:Md)(f:Int)(z:qd)(g:qd)(q:Nat):Option (wm⊕qd) :=
 if f<(z.length:Int) then ck (0≤f∧f<(z.length:Int)) (ck (((g.length)+(1:Nat))*4≤140737488355328) (ck (I64 (f+(1:Int))) (some (.inl ((((q+(z.getD (f.toNat) (0:Nat)))%4294967296)/(65536:Nat)),(f+(1:Int)),(g++([(((q+(z.getD (f.toNat) (0:Nat)))%4294967296)&&&(65535:Nat))]:List Nat))))))) else ck (((g.length)+(1:Nat))*4≤140737488355328) (ck (I64 (f+(1:Int))) (some (.inl ((q/(65536:Nat)),(f+(1:Int)),(g++([(q&&&(65535:Nat))]:List Nat))))))
def sG(F:Md)(z:qd)(I:qd)(q:Nat)(f:Int)(g:qd):Option (wm⊕qd) :=
 if ((f<(z.length:Int))∨(f<(I.length:Int)))∨((0:Nat)<q) then if f<(z.length:Int) then ck (0≤f∧f<(z.length:Int)) (sF F f I g ((q+(z.getD (f.toNat) (0:Nat)))%4294967296)) else sF F f I g q else some (.inr g)
def yK(F:Md)(q:qd)(g:qd):Option qd :=
 (bO F (fun d:Nat×Int×qd=>sG F q g d.1 d.2.1 d.2.2) ((0:Nat),(0:Int),([]:List Nat))).bind (fun e=>(kC F e).bind (fun f=>some f))
def aRF:PlR:=⟨[(0,.A [0,1]),(1,.A [0,1,5]),(2,.A [0,1,5,6]),(3,.A [0,1,5,6,7]),(4,.A [0,1,5,6,7,21]),(5,.A [0,1,5,6,7]),(6,.A [0,1,5,6,7,27]),(7,.A [0,1,5,6,7]),(8,.A [0,1,5,6,7,37]),(9,.A [0,1,5,6,7]),(10,.B [0,1,5,6,7]),(11,.A [0,1,5,6,7]),(12,.B [4])],[(9,11)],[]⟩
def aVB:Ty:=.pair qp (.pair qp .unit)
def aBx(F:Md):aH:=mSpec aVB (.one qp) (fun x=>yK F x.1 x.2.1)
abbrev aVC(F:Md):List (FuncId×aH):=[(111,(eF F))]
theorem bEJ(F:Md):bA Tryz.prog GL (aVC F):=.cons (vC F) xAa (.nil)
attribute [go_sem] aVB aRF
theorem aRG(F:Md):FOK Tryz.prog GL 106 (aBx F):=by
 refine aX (aY (bEJ F)) mix Tryz.func106 rfl xAa xAb aRF (fun w0 S x Θ O h hV=>?_);obtain⟨(I:qd),(z:qd),u⟩:=x;simp only[bD,go_sem];replace h:sat (yK F I z) _:=h;unfold yK at h;refine pM 5 115 wg rfl (yaA ?_);refine aU hV (D:=Nat×Int×qd) [0,1] (fun d=>[(5,.own 0),(6,.val wg d.1),(7,.val qi d.2.1)]) (fun d=>[.inr (.row 115 wg d.2.2)]) h rfl xAc ?_;rintro⟨q,g,f⟩ U T4 hA4 L h;simp only[go_sem];replace h:sat (sG F I z q g f) _:=h;unfold sG at h;refine⟨fun hc=>?_,fun hc=>?_⟩
 ·replace h:=cW hc h;refine bH hV (D:=Nat) (fun d=>sat (sF F g z f d) T4) [0,1,7] (fun d=>[(5,.own 0),(6,.val wg d)]) (fun d=>[.inr (.row 115 wg f)]) ?_ ?_
  ·simp only[go_sem];refine bP h (fun hc h=>?_) fun hc h=>?_
   ·refine aB h fun g0 h=>(yaB ?_);exact aK ((q+(I.getD (g.toNat) (0:Nat)))%4294967296) h rfl xAc
   ·exact aK (q) h rfl xAc
  ·rintro J h;simp only[go_sem];replace h:sat (sF F g z f J) _:=h;unfold sF at h;refine bP h (fun hc h=>?_) fun hc h=>?_
   ·refine aB h fun g0 h=>(yaB ?_);refine aB h fun g0 h=>(yaB ?_);exact zah
   ·refine aB h fun g0 h=>(yaB ?_);exact zah
 ·replace h:=cX hc h;replace h:=yaH (L _ (aA h));refine aD h fun N hv h=>?_;exact zaW
attribute [go_sem] aBx
def vU(F:Md)(z:qd)(g:Int)(f:Int)(q:Bool):Option (qd×qt) :=
 if q=true then ck (I64 (0-f)) (ck (I64 (g+(0-f))) (some (z,(g+(0-f)),()))) else ck (I64 (g+f)) (some (z,(g+f),()))
def fX(F:Md)(J:qd)(I:qd)(z:Int)(q:Int)(g:Bool)(point_105:Bool)(power_106:Bool)(f:Int):Option ((qd×Int×Int×Bool×Bool×Bool×Int)⊕(qd×Int×Int×Bool)) :=
 if f<(J.length:Int) then ck (0≤f∧f<(J.length:Int)) (if (J.getD (f.toNat) (0:Nat))=(46:Nat) then ck (I64 (f+(1:Int))) (some (.inl (I,z,q,g,true,power_106,(f+(1:Int))))) else ck (0≤f∧f<(J.length:Int)) (if (J.getD (f.toNat) (0:Nat))=(101:Nat) then ck (I64 (f+(1:Int))) (some (.inl (I,z,q,g,point_105,true,(f+(1:Int))))) else ck (0≤f∧f<(J.length:Int)) (if (J.getD (f.toNat) (0:Nat))=(45:Nat) then ck (I64 (f+(1:Int))) (some (.inl (I,z,q,true,point_105,power_106,(f+(1:Int))))) else ck (0≤f∧f<(J.length:Int)) (if (J.getD (f.toNat) (0:Nat))=(43:Nat) then ck (I64 (f+(1:Int))) (some (.inl (I,z,q,g,point_105,power_106,(f+(1:Int))))) else if power_106=true then ck (I64 (q*(10:Int))) (ck (0≤f∧f<(J.length:Int)) (ck (I64 ((q*(10:Int))+(((pN F .u8 (J.getD (f.toNat) (0:Nat)) (48:Nat)):Nat):Int))) (ck (I64 (f+(1:Int))) (some (.inl (I,z,((q*(10:Int))+(((pN F .u8 (J.getD (f.toNat) (0:Nat)) (48:Nat)):Nat):Int)),g,point_105,power_106,(f+(1:Int)))))))) else (lI F I ([10]:List Nat)).bind (fun N=>ck (0≤f∧f<(J.length:Int)) ((zR F (pN F .u8 (J.getD (f.toNat) (0:Nat)) (48:Nat))).bind (fun O=>(yK F N O).bind (fun L=>if point_105=true then ck (I64 (z-(1:Int))) (ck (I64 (f+(1:Int))) (some (.inl (L,(z-(1:Int)),q,g,point_105,power_106,(f+(1:Int)))))) else ck (I64 (f+(1:Int))) (some (.inl (L,z,q,g,point_105,power_106,(f+(1:Int))))))))))))) else some (.inr (I,z,q,g))
def oJ(F:Md)(f:qd):Option (qd×qt) :=
 (bO F (fun d:qd×Int×Int×Bool×Bool×Bool×Int=>fX F f d.1 d.2.1 d.2.2.1 d.2.2.2.1 d.2.2.2.2.1 d.2.2.2.2.2.1 d.2.2.2.2.2.2) (([]:List Nat),(0:Int),(0:Int),false,false,false,(0:Int))).bind (fun e=>vU F e.1 e.2.1 e.2.2.1 e.2.2.2)
def aLt:PlR:=⟨[(0,.A [0]),(1,.A [0,4]),(2,.A [0,4,5,6,7]),(3,.A [0,4,5,6,7,8,9]),(4,.A [0,4,5,6,7,8,9,10]),(5,.A [0,4,5,6,7,8,9,10,14]),(6,.A [0,4,5,6,7,8,9,10]),(7,.A [0,4,5,6,7,8,9,10]),(8,.A [0,4,5,6,7,8,9,10,27]),(9,.A [0,4,5,6,7,8,9,10]),(10,.A [0,4,5,6,7,8,9,10,30]),(11,.A [0,4,5,6,7,8,9,10]),(12,.A [0,4,5,6,7,8,9,10,35]),(13,.A [0,4,5,6,7,8,9,10]),(14,.A [0,4,5,6,7,8,9,10,40]),(15,.A [0,4,5,6,7,8,9,10]),(16,.A [0,4,5,6,7,8,9,10,45]),(17,.A [0,4,5,6,7,8,9,10,50]),(18,.A [0,4,5,6,7,8,9,10]),(19,.A [4,5,6,60]),(20,.A [4,5,6]),(21,.A [2,3])],[(7,22)],[]⟩
def aN0:Ty:=.pair .str .unit
def wO(F:Md):aH:=mSpec aN0 (.tup (.pair qp qo)) (fun x=>oJ F x.1)
abbrev aEE(F:Md):List (FuncId×aH):=[(106,(aBx F)),(107,(aDb F)),(69,(oV F))]
theorem bAr(F:Md):bA Tryz.prog GL (aEE F):=.cons (aRG F) xAa (.cons (aXF F) xAa (.cons (aFW F) xAa (.nil)))
attribute [go_sem] aN0 aLt
theorem aLu(F:Md):FOK Tryz.prog GL 67 (wO F):=by
 refine aX (aY (bAr F)) mix Tryz.func67 rfl xAa xAb aLt (fun w0 S x Θ hw h hV=>?_);obtain⟨(N:qd),u⟩:=x;simp only[bD,go_sem];replace h:sat (oJ F N) _:=h;unfold oJ at h;refine bH hV (D:=qd×Int×Int×Bool) (fun d=>sat (vU F d.1 d.2.1 d.2.2.1 d.2.2.2) Θ) [] (fun d=>[(4,.val qp d.1),(5,.val qi d.2.1),(6,.val qi d.2.2.1),(7,.val .bool d.2.2.2)]) (fun d=>[]) ?_ ?_
 ·simp only[go_sem,aR F,aS F,aT F];refine aU hV (D:=qd×Int×Int×Bool×Bool×Bool×Int) [0] (fun d=>[(4,.val qp d.1),(5,.val qi d.2.1),(6,.val qi d.2.2.1),(7,.val .bool d.2.2.2.1),(8,.val .bool d.2.2.2.2.1),(9,.val .bool d.2.2.2.2.2.1),(10,.val qi d.2.2.2.2.2.2)]) (fun d=>[]) h rfl xAe ?_;rintro⟨z,q,g,f,point_105,power_106,J⟩ A5 T5 hA5 hE5 h;simp only[go_sem,aR F,aS F,aT F];replace h:sat (fX F N z q g f point_105 power_106 J) _:=h;unfold fX at h;refine bP h (fun hc h=>?_) fun hc h=>?_
  ·refine aG h fun g0 h=>?_;refine bS h (fun hc h=>?_) fun hc h=>?_
   ·refine aG h fun g0 h=>?_;exact zat
   ·refine aG h fun g0 h=>?_;refine bS h (fun hc h=>?_) fun hc h=>?_
    ·refine aG h fun g0 h=>?_;exact zat
    ·refine aG h fun g0 h=>?_;refine bS h (fun hc h=>?_) fun hc h=>?_
     ·refine aG h fun g0 h=>?_;exact zat
     ·refine aG h fun g0 h=>?_;refine bS h (fun hc h=>?_) fun hc h=>?_
      ·refine aG h fun g0 h=>?_;exact zat
      ·refine aFb h (fun hc h=>?_) fun hc h=>?_
       ·refine aG h fun g0 h=>aG h fun g1 h=>aG h fun g2 h=>?_;refine aG h fun g0 h=>?_;exact zat
       ·refine aD h fun Y hv h=>?_;(try simp only[hv,go_sem,aR F,aS F,aT F]);refine aG h fun g0 h=>?_;refine aD h fun Z hv h=>?_;(try simp only[hv,go_sem,aR F,aS F,aT F]);refine aD h fun W hv h=>?_;(try simp only[hv,go_sem,aR F,aS F,aT F]);refine aFb h (fun hc h=>?_) fun hc h=>?_
        ·refine aG h fun g0 h=>?_;refine aG h fun g0 h=>?_;exact zat
        ·refine aG h fun g0 h=>?_;exact zat
  ·replace h:=yaH (hE5 _ (aA h));exact aK (z,q,g,f) h rfl xAe
 ·rintro⟨L,U,O,I⟩ h;simp only[go_sem,aR F,aS F,aT F];replace h:sat (vU F L U O I) _:=h;unfold vU at h;refine aFb h (fun hc h=>?_) fun hc h=>?_
  ·refine aG h fun g0 h=>?_;refine aG h fun g0 h=>?_;exact aE hV [.tmp 2,.tmp 3] rfl rfl rfl (aA h) xAf
  ·refine aG h fun g0 h=>?_;exact aE hV [.tmp 2,.tmp 3] rfl rfl rfl (aA h) xAf
attribute [go_sem] wO
def sH(F:Md)(z:Int)(f:qd)(g:Int):Option (vf⊕qd) :=
 if g<z then (lI F f ([10]:List Nat)).bind (fun q=>ck (I64 (g+(1:Int))) (some (.inl (q,(g+(1:Int)))))) else some (.inr f)
def yL(F:Md)(f:Int):Option qd :=
 (bO F (fun d:qd×Int=>sH F f d.1 d.2) (([1]:List Nat),(0:Int))).bind (fun e=>some e)
def aRH:PlR:=⟨[(0,.stop),(1,.stop),(2,.stop),(3,.stop),(4,.stop),(5,.stop),(6,.stop)],[],[]⟩
def aVE:Ty:=.pair qi .unit
def aBy(F:Md):aH:=mSpec aVE (.one qp) (fun x=>yL F x.1)
abbrev aVF(F:Md):List (FuncId×aH):=[(69,(oV F))]
theorem bEK(F:Md):bA Tryz.prog GL (aVF F):=.cons (aFW F) xAa (.nil)
attribute [go_sem] aVE aRH
theorem aRI(F:Md):FOK Tryz.prog GL 70 (aBy F):=by
 refine aX (aY (bEK F)) mix Tryz.func70 rfl xAa xAb aRH (fun w0 S x Θ J h hV=>?_);obtain⟨(q:Int),u⟩:=x;simp only[bD,go_sem];replace h:sat (yL F q) _:=h;unfold yL at h;refine bZ hV [0] (yaA ?_);refine bZ hV [0,3] (yaA ?_);refine bZ hV [0,3,4] (yaA ?_);refine aU hV (D:=qd×Int) [0] (fun d=>[(3,.val qp d.1),(4,.val qi d.2)]) (fun d=>[]) h rfl xAc ?_;rintro⟨f,g⟩ L T3 hA3 z h;simp only[go_sem];replace h:sat (sH F q f g) _:=h;unfold sH at h;refine bZ hV [0,3,4,8] (yaA ?_);refine bP h (fun hc h=>?_) fun hc h=>?_
 ·refine bZ hV [0,3,4] (yaA ?_);refine aD h fun I hv h=>?_;try simp only[hv,go_sem]
  refine bZ hV [0,3,4] (yaA ?_);refine aG h fun g0 h=>?_;exact zas
 ·replace h:=yaH (z _ (aA h));refine bZ hV [2] (yaA ?_);exact zaB
attribute [go_sem] aBy
def sJ(F:Md)(q:qd)(g:qd)(f:Int):Option ((Int)⊕((Unit)⊕Int)) :=
 if (0:Int)≤f then ck (0≤f∧f<(q.length:Int)) (ck (0≤f∧f<(g.length:Int)) (if (q.getD (f.toNat) (0:Nat))<(g.getD (f.toNat) (0:Nat)) then some (.inr (.inr (-1:Int))) else ck (0≤f∧f<(q.length:Int)) (ck (0≤f∧f<(g.length:Int)) (if (g.getD (f.toNat) (0:Nat))<(q.getD (f.toNat) (0:Nat)) then some (.inr (.inr (1:Int))) else ck (I64 (f-(1:Int))) (some (.inl (f-(1:Int)))))))) else some (.inr (.inl ()))
def sK(F:Md)(f:qd)(g:qd):Option Int :=
 if ¬((f.length:Int)=(g.length:Int)) then if (f.length:Int)<(g.length:Int) then some (-1:Int) else some (1:Int) else ck (I64 ((f.length:Int)-(1:Int))) ((bO F (fun d:Int=>sJ F f g d) ((f.length:Int)-(1:Int))).bind (fun e=>match e with|(.inl e)=>some (0:Int)|(.inr e)=>some e))
def aRJ:PlR:=⟨[(0,.A [0,1]),(1,.A [0,1,10]),(2,.A [15]),(3,.A [4]),(4,.A [4]),(5,.A [0,1,5]),(6,.A [0,1,5,20]),(7,.A [0,1,5]),(8,.A [0,1,5,31]),(9,.A [4]),(10,.A [0,1,5,40]),(11,.A [4]),(12,.A [4])],[],[]⟩
def aVG:Ty:=.pair qp (.pair qp .unit)
def uL(F:Md):aH:=mSpec aVG (.one qi) (fun x=>sK F x.1 x.2.1)
abbrev bEL(F:Md):List (FuncId×aH):=[]
theorem bEM(F:Md):bA Tryz.prog GL (bEL F):=.nil
attribute [go_sem] aVG aRJ
theorem aJH(F:Md):FOK Tryz.prog GL 115 (uL F):=by
 refine aX (aY (bEM F)) mix Tryz.func115 rfl xAa xAb aRJ (fun w0 S x Θ J h hV=>?_);obtain⟨(g:qd),(q:qd),u⟩:=x;simp only[bD,go_sem];replace h:sat (sK F g q) _:=h;unfold sK at h;refine bS h (fun hc h=>?_) fun hc h=>?_
 ·refine bP h (fun hc h=>?_) fun hc h=>?_
  ·exact aE hV [.tmp 4] rfl rfl rfl (aA h) xAd
  ·exact aE hV [.tmp 4] rfl rfl rfl (aA h) xAd
 ·refine aG h fun g0 h=>?_;refine aU hV (D:=Int) [0,1] (fun d=>[(5,.val qi d)]) (fun d=>[]) h rfl xAc ?_;rintro I N L z f h;simp only[go_sem];replace h:sat (sJ F g q I) _:=h;unfold sJ at h;refine aGc h (fun hc h=>?_) fun hc h=>?_
  ·refine aG h fun g0 h=>aG h fun g1 h=>?_;refine bS h (fun hc h=>?_) fun hc h=>?_
   ·replace h:=yaH (f _ (aA h));exact zaE
   ·refine aG h fun g0 h=>aG h fun g1 h=>?_;refine bS h (fun hc h=>?_) fun hc h=>?_
    ·replace h:=yaH (f _ (aA h));exact zaE
    ·refine aG h fun g0 h=>?_;replace h:=z _ (aA h);exact zaF
  ·replace h:=yaH (f _ (aA h));exact zaE
attribute [go_sem] uL
end
end Nu
end Go.Proofs

