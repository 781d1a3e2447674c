import Derived.Test.YtlijgfkkmamanaaGreatDoorZS2
import Derived.Test.YtlijgfkkmamanaaGreatDoorZS3
import Derived.Test.YtlijgfkkmamanaaGreatDoorZL6
import Derived.Test.YtlijgfkkmamanaaGreatDoorZS1
import Derived.Test.YtlijgfkkmamanaaGreatDoorZL5
import Derived.Shelf.Strings.Search3
import Derived.Shelf.Strings.Cut
import Derived.Shelf.Strings.Split
import Derived.Lib.Builder
set_option linter.unusedVariables false
set_option linter.unusedSimpArgs false
namespace Go.Proofs
open Go.Vc
set_option maxRecDepth 20000
namespace Nu
noncomputable section
set_option maxHeartbeats 4000000
attribute [-go_sem] Ex.kind Ex.text Ex.l
def pR(F:Md)(g:qc)(f:Nat):Option Int :=
 some (aKu g f)
def aAX:PlR:=⟨[(0,.A [0,1]),(1,.A [4])],[],[]⟩
def aBm:Ty:=.pair .str ve
def oN(F:Md):aF:=mSpec aBm (.one qg) (fun x=>pR F x.1 x.2.1)
abbrev aBn(F:Md):List (FuncId×aF):=[(177,nA)]
theorem aHN[Mx](F:Md):bF Tryz.prog GL (aBn F):=.nat aFC (.nil)
attribute [go_sem] aBm aAX
theorem aGL[Mx](F:Md):FOK Tryz.prog GL 132 (oN F):=by
 refine bP (bA (aHN F)) mix Tryz.func132 rfl xN xAa aAX (fun w0 S x Θ q h hV=>?_);obtain⟨(g:qc),(f:Nat),u⟩:=x;simp only[cA,go_sem];replace h:sat (pR F g f) _:=h;unfold pR at h;exact zaD
attribute [go_sem] oN
def aV(F:Md)(q:qc)(f:Nat):Option Int :=
 (pR F q f).bind (fun g=>some g)
def aEv:PlR:=⟨[(0,.A [0,1]),(1,.A [4])],[],[]⟩
def aE5:Ty:=.pair .str ve
def eE(F:Md):aF:=mSpec aE5 (.one qg) (fun x=>aV F x.1 x.2.1)
abbrev aE6(F:Md):List (FuncId×aF):=[(132,(oN F))]
theorem aMC[Mx](F:Md):bF Tryz.prog GL (aE6 F):=.cons (aGL F) xN (.nil)
attribute [go_sem] aE5 aEv
theorem qD[Mx](F:Md):FOK Tryz.prog GL 125 (eE F):=by
 refine bP (bA (aMC F)) mix Tryz.func125 rfl xN xAa aEv (fun w0 S x Θ z h hV=>?_);obtain⟨(g:qc),(f:Nat),u⟩:=x;simp only[cA,go_sem];replace h:sat (aV F g f) _:=h;unfold aV at h;refine aB h fun q hv h=>?_;exact zao
attribute [go_sem] eE
def eS(F:Md)(f:qh):Option (qh⊕qh) :=
 ck ((f.2.1<(f.1.length:Int))→(0≤f.2.1∧f.2.1<(f.1.length:Int))) (if (f.2.1<(f.1.length:Int))∧((f.1.getD (f.2.1.toNat) (0:Nat))=(32:Nat)) then ck (I64 (f.2.1+(1:Int))) (some (.inl (f.1,(f.2.1+(1:Int)),f.2.2.1,()))) else some (.inr f))
def jH(F:Md)(f:qh):Option qh :=
 (dK F (fun d:qh=>eS F d) f).bind (fun e=>some e)
def vA(F:Md):fQ where
 D:=qh×qh
 av:=fun d=>[.ptr 0 []]
 hp:=fun d=>[.box 3 (.val qt d.1)]
 m:=1
 pre:=fun d=>jH F d.1=some d.2
 out:=fun d=>(fun r:qh=>.ret (.tup []) [.box 3 (.val qt (r))]) d.2
@[go_sem]def aEw(F:Md)(vs:List AV)(h:List Vc.Obj):Hit:=mkH (jH F (eM h (fY vs 0) qt)) (([]:List Nat),(0:Int),(0:Int),()) fun r=>⟨(vA F),[(fY vs 0)],((eM h (fY vs 0) qt),r)⟩
def aEx:PlR:=⟨[(0,.A [0,23]),(1,.B [0])],[],[]⟩
abbrev aMD(F:Md):List (FuncId×aF):=[]
theorem aME[Mx](F:Md):bF Tryz.prog GL (aMD F):=.nil
attribute [go_sem] aEx vA
theorem aEy[Mx](F:Md):GOK Tryz.prog GL 40 (vA F):=by
 refine kG (bA (aME F)) mix Tryz.func40 rfl xN (fun _=>Nat.le_of_ble_eq_true rfl) aEx (fun L w0 d N I h hV=>?_);obtain⟨(f:qh),r⟩:=d;have hF:=hV.fr;replace h:=kH (show jH F f=some r from h);simp only[vH,List.map_cons,List.map_nil,go_sem];unfold jH at h;refine bQ hV (D:=qh) [] (fun d=>[(0,.ptr 0 [])]) (fun d=>[.inr (.box 3 (.val qt d))]) h rfl xAb ?_;rintro g O J q z h;simp only[go_sem];replace h:sat (eS F g) _:=h;unfold eS at h;refine aK h fun g0 h=>?_;refine⟨fun hc=>?_,fun hc=>?_⟩
 ·replace h:=gZ hc h;refine aK h fun g0 h=>?_;replace h:=q _ (aA h);exact zaI
 ·replace h:=hO hc h;replace h:=yaG (z _ (aA h));obtain rfl:=aO h;exact zas
def fO(F:Md)(signs_1:qc)(g:qh):Option ((Nat×w6)×qh) :=
 (jH F g).bind (fun f=>ck (¬(f.2.1=(f.1.length:Int))→(0≤f.2.1∧f.2.1<(f.1.length:Int))) (ck (¬(f.2.1=(f.1.length:Int))→((aV F signs_1 (f.1.getD (f.2.1.toNat) (0:Nat))).isSome=true)) (if (f.2.1=(f.1.length:Int))∨(((aV F signs_1 (f.1.getD (f.2.1.toNat) (0:Nat))).getD (0:Int))<(0:Int)) then some (((0:Nat),false,()),f) else ck (I64 (f.2.1+(1:Int))) (ck (I64 ((f.2.1+(1:Int))-(1:Int))) (ck (0≤((f.2.1+(1:Int))-(1:Int))∧((f.2.1+(1:Int))-(1:Int))<(f.1.length:Int)) (some (((f.1.getD ((f.2.1+(1:Int))-(1:Int)).toNat (0:Nat)),true,()),f.1,(f.2.1+(1:Int)),f.2.2.1,())))))))
def xK(F:Md):fQ where
 D:=qc×qh×((Nat×w6)×qh)
 av:=fun d=>[.ptr 0 [],.val .str d.1]
 hp:=fun d=>[.box 3 (.val qt d.2.1)]
 m:=1
 pre:=fun d=>fO F d.1 d.2.1=some d.2.2
 out:=fun d=>(fun r:((Nat×w6)×qh)=>.ret (.tup [.val wm r.1.1,.val .bool r.1.2.1]) [.box 3 (.val qt r.2)]) d.2.2
@[go_sem]def xL(F:Md)(vs:List AV)(h:List Vc.Obj):Hit:=mkH (fO F (qV h vs 1 .str) (eM h (fY vs 0) qt)) (((0:Nat),false,()),([]:List Nat),(0:Int),(0:Int),()) fun r=>⟨(xK F),[(fY vs 0)],((qV h vs 1 .str),(eM h (fY vs 0) qt),r)⟩
def aGj(F:Md):PlR:=⟨[(0,.A [0,1]),(1,.P [0,1] []),(2,.A [0,31]),(3,.A [4,5]),(4,.B [0]),(5,.A [4,5])],[],[(40,aEw F)]⟩
abbrev aHg(F:Md):List (FuncId×aF):=[(125,(eE F))]
theorem aPZ[Mx](F:Md):bF Tryz.prog GL (aHg F):=.cons (qD F) xN (.nil)
attribute [go_sem] aGj xK
theorem xM[Mx](F:Md):GOK Tryz.prog GL 124 (xK F):=by
 refine kG (bA (aPZ F)) mix Tryz.func124 rfl xN (fun _=>Nat.le_of_ble_eq_true rfl) (aGj F) (fun z w0 d I g h hV=>?_) (.cons (fun _ _=>(aEy F)) xN (.nil));obtain⟨(signs_1:qc),(f:qh),r⟩:=d;have hF:=hV.fr;replace h:=kH (show fO F signs_1 f=some r from h);simp only[vH,List.map_cons,List.map_nil,go_sem];unfold fO at h;refine aB h fun q hv h=>?_;simp only[hv,go_sem];refine aK h fun g0 h=>aK h fun g1 h=>?_;refine⟨fun hc=>?_,fun hc=>?_⟩
 ·replace h:=gZ hc h;obtain rfl:=aO h;refine dX hF [.tmp 4,.tmp 5] rfl rfl rfl rfl rfl rfl ?_;exact zaC
 ·replace h:=hO hc h;refine aK h fun g0 h=>?_;refine aK h fun g0 h=>aK h fun g1 h=>?_;obtain rfl:=aO h;refine dX hF [.tmp 4,.tmp 5] rfl rfl rfl rfl rfl rfl ?_;exact zaC
def fE(F:Md)(f:qc)(q:qh):Option (qh⊕qp) :=
 (fO F f q).bind (fun g=>if ¬(g.1.2.1=true) then some (.inr (g.2.2.1,())) else some (.inl g.2))
def aAf(F:Md):fQ where
 D:=qc×qh×(qh⊕qp)
 av:=fun d=>[.ptr 0 [],.val .str d.1]
 hp:=fun d=>[.box 3 (.val qt d.2.1)]
 m:=1
 pre:=fun d=>fE F d.1 d.2.1=some d.2.2
 out:=fun d=>match d.2.2 with| .inl r=>.ret (.tup []) [.box 3 (.val qt (r))]| .inr p=>.pan ⟨93,qm,p⟩ [.box 3 (.junk)]
@[go_sem]def aEz(F:Md)(vs:List AV)(h:List Vc.Obj):Hit:=mkH (fE F (qV h vs 1 .str) (eM h (fY vs 0) qt)) (.inr ((0:Int),())) fun r=>⟨(aAf F),[(fY vs 0)],((qV h vs 1 .str),(eM h (fY vs 0) qt),r)⟩
def aEA(F:Md):PlR:=⟨[(0,.P [0,5] []),(1,.A [0,13]),(2,.P [] [])],[],[(124,xL F)]⟩
abbrev aMF(F:Md):List (FuncId×aF):=[]
theorem aMG[Mx](F:Md):bF Tryz.prog GL (aMF F):=.nil
attribute [go_sem] aEA aAf
theorem aLN[Mx](F:Md):GOK Tryz.prog GL 199 (aAf F):=by
 refine kG (bA (aMG F)) mix Tryz.func199 rfl xN (fun _=>Nat.le_of_ble_eq_true rfl) (aEA F) (fun I w0 d J q h hV=>?_) (.cons (fun _ _=>(xM F)) xN (.nil));obtain⟨(f:qc),(g:qh),r⟩:=d;have hF:=hV.fr;replace h:=kH (show fE F f g=some r from h);simp only[vH,List.map_cons,List.map_nil,go_sem];unfold fE at h;refine aB h fun z hv h=>?_;simp only[hv,go_sem];refine aA1 h (fun hc h=>?_) fun hc h=>?_
 ·obtain rfl:=aO h;exact zaH
 ·obtain rfl:=aO h;exact zas
def eD(F:Md)(g:Int)(q:qc)(z:vi)(f:qh):Option wd :=
 ck (I64 (f.2.2.1+(1:Int))) (some ((Ex.mk g q z),f.1,f.2.1,(f.2.2.1+(1:Int)),()))
def iL(F:Md):fQ where
 D:=Int×qc×vi×qh×wd
 av:=fun d=>[.ptr 0 [],.val qg d.1,.val .str d.2.1,.val (.sl .expr) d.2.2.1]
 hp:=fun d=>[.box 3 (.val qt d.2.2.2.1)]
 m:=1
 pre:=fun d=>eD F d.1 d.2.1 d.2.2.1 d.2.2.2.1=some d.2.2.2.2
 out:=fun d=>(fun r:wd=>.ret (.val .expr r.1) [.box 3 (.val qt r.2)]) d.2.2.2.2
@[go_sem]def aEB(F:Md)(vs:List AV)(h:List Vc.Obj):Hit:=mkH (eD F (qV h vs 1 qg) (qV h vs 2 .str) (qV h vs 3 (.sl .expr)) (eM h (fY vs 0) qt)) ((Ex.mk 0 [] []),([]:List Nat),(0:Int),(0:Int),()) fun r=>⟨(iL F),[(fY vs 0)],((qV h vs 1 qg),(qV h vs 2 .str),(qV h vs 3 (.sl .expr)),(eM h (fY vs 0) qt),r)⟩
def aEC:PlR:=⟨[(0,.B [0,1,2,3,8]),(1,.B [1,2,3,8]),(2,.B [8])],[],[]⟩
abbrev aMH(F:Md):List (FuncId×aF):=[]
theorem aMI[Mx](F:Md):bF Tryz.prog GL (aMH F):=.nil
attribute [go_sem] aEC iL
theorem mU[Mx](F:Md):GOK Tryz.prog GL 126 (iL F):=by
 refine kG (bA (aMI F)) mix Tryz.func126 rfl xN (fun _=>Nat.le_of_ble_eq_true rfl) aEC (fun J w0 d L I h hV=>?_);obtain⟨(f:Int),(g:qc),(z:vi),(q:qh),r⟩:=d;have hF:=hV.fr;replace h:=kH (show eD F f g z q=some r from h);simp only[vH,List.map_cons,List.map_nil,go_sem];unfold eD at h;refine aK h fun g0 h=>?_;exact zay
def vR(F:Md)(z:qc)(q:Int)(I:Int)(f:Int):Option (Int) :=
 (nN F z f).bind (fun g=>ck (I64 (f+(min g (4:Int)))) (ck (0≤f∧f≤(f+(min g (4:Int)))∧(f+(min g (4:Int)))≤(z.length:Int)) (ck ((aQ ⟨#[48]⟩).length+(List.drop (f.toNat) (List.take (f+(min g (4:Int))).toNat z)).length≤9223372036854775807) ((lT F ((aQ ⟨#[48]⟩)++(List.drop (f.toNat) (List.take (f+(min g (4:Int))).toNat z)))).bind (fun J=>if (((1:Int)≤g)∧(g≤(3:Int)))∧(J.1≤(100:Int)) then ck (I64 (f+g)) (ck (I64 ((f+g)-q)) (some ((f+g)-q))) else ck (I64 (I-q)) (some (I-q)))))))
def pS(F:Md)(g:qc)(q:Int)(f:Int):Option (Int) :=
 ck ((f<(g.length:Int))→(0≤f∧f<(g.length:Int))) (if (f<(g.length:Int))∧((g.getD (f.toNat) (0:Nat))=(101:Nat)) then ck (I64 (f+(1:Int))) (ck (((f+(1:Int))<(g.length:Int))→(0≤(f+(1:Int))∧(f+(1:Int))<(g.length:Int))) (ck (((f+(1:Int))<(g.length:Int))→ ¬((g.getD (f+(1:Int)).toNat (0:Nat))=(43:Nat))→(0≤(f+(1:Int))∧(f+(1:Int))<(g.length:Int))) (if ((f+(1:Int))<(g.length:Int))∧(((g.getD (f+(1:Int)).toNat (0:Nat))=(43:Nat))∨((g.getD (f+(1:Int)).toNat (0:Nat))=(45:Nat))) then ck (I64 ((f+(1:Int))+(1:Int))) (vR F g q f ((f+(1:Int))+(1:Int))) else vR F g q f (f+(1:Int))))) else ck (I64 (f-q)) (some (f-q)))
def gS(F:Md)(q:qc)(f:Int):Option Int :=
 (nN F q f).bind (fun g=>ck (I64 (f+g)) (if (f+g)=f then some (0:Int) else ck (((f+g)<(q.length:Int))→(0≤(f+g)∧(f+g)<(q.length:Int))) (if ((f+g)<(q.length:Int))∧((q.getD (f+g).toNat (0:Nat))=(46:Nat)) then ck (I64 ((f+g)+(1:Int))) ((nN F q ((f+g)+(1:Int))).bind (fun v_27=>if (0:Int)<v_27 then ck (I64 ((f+g)+(1:Int))) (ck (I64 (((f+g)+(1:Int))+v_27)) (pS F q f (((f+g)+(1:Int))+v_27))) else pS F q f (f+g))) else pS F q f (f+g))))
def aSO:PlR:=⟨[(0,.A [0,1]),(1,.A [0,1,5]),(2,.A [0,1,5,18]),(3,.A [4]),(4,.A [0,1,5,28]),(5,.A [0,1,5,6]),(6,.A [0,1,5,6,34]),(7,.A [0,1,5]),(8,.A [0,1,5,48]),(9,.A [0,1,5,7]),(10,.A [0,1,5,7,66]),(11,.A [0,1,5,7]),(12,.A [0,1,5,7,8]),(13,.A [1,5,7,8,9]),(14,.A [1,5,7,8,93]),(15,.A [1,5]),(16,.A [4])],[(7,11),(13,15)],[]⟩
def aV5:Ty:=.pair .str qm
def aHh(F:Md):aF:=mSpec aV5 (.one qg) (fun x=>gS F x.1 x.2.1)
abbrev aOh(F:Md):List (FuncId×aF):=[(141,(yM F)),(99,(oI F))]
theorem bDf[Mx](F:Md):bF Tryz.prog GL (aOh F):=.cons (aM5 F) xN (.cons (aER F) xN (.nil))
attribute [go_sem] aV5 aSO
theorem bBM[Mx](F:Md):FOK Tryz.prog GL 200 (aHh F):=by
 refine bP (bA (bDf F)) mix Tryz.func200 rfl xN xAa aSO (fun w0 S x Θ O h hV=>?_);obtain⟨(q:qc),(f:Int),u⟩:=x;simp only[cA,go_sem];replace h:sat (gS F q f) _:=h;unfold gS at h;refine aB h fun z hv h=>?_;try simp only[hv,go_sem]
 refine aD h fun g0 h=>(yaC ?_);refine cH h (fun hc h=>?_) fun hc h=>?_
 ·exact aG hV [.tmp 4] rfl rfl rfl (aA h) xAc
 ·refine dD hV (D:=Int) (fun d=>sat (pS F q f d) Θ) [0,1] (fun d=>[(5,.val qg d)]) (fun d=>[]) ?_ ?_
  ·simp only[go_sem];refine aD h fun g0 h=>(yaC ?_);refine⟨fun hc=>?_,fun hc=>?_⟩
   ·replace h:=gZ hc h;refine aD h fun g0 h=>(yaC ?_);refine aB h fun v_27 hv h=>?_;(try simp only[hv,go_sem]);refine dU h (fun hc h=>?_) fun hc h=>?_
    ·refine aD h fun g0 h=>?_;refine aD h fun g1 h=>(yaC ?_);exact aT (((f+z)+(1:Int))+v_27) h rfl xAb
    ·exact aT (f+z) h rfl xAb
   ·replace h:=hO hc h;exact aT (f+z) h rfl xAb
  ·rintro g h;simp only[go_sem];replace h:sat (pS F q f g) _:=h;unfold pS at h;refine aD h fun g0 h=>(yaC ?_);refine⟨fun hc=>?_,fun hc=>?_⟩
   ·replace h:=gZ hc h;refine aD h fun g0 h=>(yaC ?_);refine dD hV (D:=Int) (fun d=>sat (vR F q f g d) Θ) [0,1,5] (fun d=>[(7,.val qg d)]) (fun d=>[]) ?_ ?_
    ·simp only[go_sem];refine aD h fun g0 h=>?_;refine aD h fun g1 h=>(yaC ?_);refine⟨fun hc=>?_,fun hc=>?_⟩
     ·replace h:=gZ hc h;refine aD h fun g0 h=>(yaC ?_);exact aT ((g+(1:Int))+(1:Int)) h rfl xAb
     ·replace h:=hO hc h;exact aT (g+(1:Int)) h rfl xAb
    ·rintro I h;simp only[go_sem];replace h:sat (vR F q f g I) _:=h;unfold vR at h;refine aB h fun J hv h=>?_;(try simp only[hv,go_sem]);refine aD h fun g0 h=>?_;refine aD h fun g1 h=>?_;refine aD h fun N h=>(yaC ?_);refine aB h fun L hv h=>?_;(try simp only[hv,go_sem]);refine⟨fun hc=>?_,fun hc=>?_⟩
     ·replace h:=gZ hc h;refine aD h fun g0 h=>(yaC ?_);refine aD h fun g0 h=>(yaC ?_);exact zaD
     ·replace h:=hO hc h;refine aD h fun g0 h=>(yaC ?_);exact zaD
   ·replace h:=hO hc h;refine aD h fun g0 h=>(yaC ?_);exact zaD
attribute [go_sem] aHh
def lQ(F:Md)(f:qh):Option (wd⊕qp) :=
 ck ((gS F f.1 f.2.1).isSome=true) (if (((gS F f.1 f.2.1).getD (0:Int))=(0:Int))∨((60:Int)<((gS F f.1 f.2.1).getD (0:Int))) then some (.inr (f.2.1,())) else ck (I64 (f.2.1+((gS F f.1 f.2.1).getD (0:Int)))) (ck (I64 ((f.2.1+((gS F f.1 f.2.1).getD (0:Int)))-((gS F f.1 f.2.1).getD (0:Int)))) (ck (0≤((f.2.1+((gS F f.1 f.2.1).getD (0:Int)))-((gS F f.1 f.2.1).getD (0:Int)))∧((f.2.1+((gS F f.1 f.2.1).getD (0:Int)))-((gS F f.1 f.2.1).getD (0:Int)))≤(f.2.1+((gS F f.1 f.2.1).getD (0:Int)))∧(f.2.1+((gS F f.1 f.2.1).getD (0:Int)))≤(f.1.length:Int)) ((eD F (1:Int) (List.drop ((f.2.1+((gS F f.1 f.2.1).getD (0:Int)))-((gS F f.1 f.2.1).getD (0:Int))).toNat (List.take (f.2.1+((gS F f.1 f.2.1).getD (0:Int))).toNat f.1)) ([]:List Ex) (f.1,(f.2.1+((gS F f.1 f.2.1).getD (0:Int))),f.2.2.1,())).bind (fun g=>some (.inl (g.1,g.2)))))))
def sA(F:Md):fQ where
 D:=qh×(wd⊕qp)
 av:=fun d=>[.ptr 0 []]
 hp:=fun d=>[.box 3 (.val qt d.1)]
 m:=1
 pre:=fun d=>lQ F d.1=some d.2
 out:=fun d=>match d.2 with| .inl r=>.ret (.val .expr r.1) [.box 3 (.val qt r.2)]| .inr p=>.pan ⟨93,qm,p⟩ [.box 3 (.junk)]
def aCV(F:Md):PlR:=⟨[(0,.B [0,2]),(1,.A [0,2,3]),(2,.A [0,2,3,18]),(3,.P [0,2,3] []),(4,.B [0,2,3]),(5,.Q 16 [2] [])],[],[(126,aEB F)]⟩
abbrev aDl(F:Md):List (FuncId×aF):=[(200,(aHh F))]
theorem aKw[Mx](F:Md):bF Tryz.prog GL (aDl F):=.cons (bBM F) xN (.nil)
attribute [go_sem] aCV sA
theorem aCW[Mx](F:Md):GOK Tryz.prog GL 174 (sA F):=by
 refine kG (bA (aKw F)) mix Tryz.func174 rfl xN (fun _=>Nat.le_of_ble_eq_true rfl) (aCV F) (fun z w0 d I g h hV=>?_) (.cons (fun _ _=>(mU F)) xN (.nil));obtain⟨(f:qh),r⟩:=d;have hF:=hV.fr;replace h:=kH (show lQ F f=some r from h);simp only[vH,List.map_cons,List.map_nil,go_sem];unfold lQ at h;refine aK h fun g0 h=>?_;refine⟨fun hc=>?_,fun hc=>?_⟩
 ·replace h:=gZ hc h;obtain rfl:=aO h;refine bS [0] rfl rfl (yaB ?_);exact zaH
 ·replace h:=hO hc h;refine aK h fun g0 h=>?_;refine⟨by kernel_rfl,?_⟩;refine aK h fun g0 h=>aK h fun g1 h=>?_;refine aB h fun q hv h=>?_;exact zae
def nZ(F:Md)(g:qh)(f:qh):Option (qc×qh) :=
 ck (0≤g.2.1∧g.2.1≤f.2.1∧f.2.1≤(f.1.length:Int)) (some ((List.drop (g.2.1.toNat) (List.take (f.2.1.toNat) f.1)),f))
def fK(F:Md)(f:qh):Option (qh⊕qh) :=
 ck ((f.2.1<(f.1.length:Int))→(0≤f.2.1∧f.2.1<(f.1.length:Int))) (ck ((f.2.1<(f.1.length:Int))→((aV F (aQ tE) (f.1.getD (f.2.1.toNat) (0:Nat))).isSome=true)) (if (f.2.1<(f.1.length:Int))∧((0:Int)≤((aV F (aQ tE) (f.1.getD (f.2.1.toNat) (0:Nat))).getD (0:Int))) then ck (I64 (f.2.1+(1:Int))) (some (.inl (f.1,(f.2.1+(1:Int)),f.2.2.1,()))) else some (.inr f)))
def oD(F:Md)(f:qh):Option (qc×qh) :=
 (dK F (fun d:qh=>fK F d) f).bind (fun e=>nZ F f e)
def aAg(F:Md):fQ where
 D:=qh×(qc×qh)
 av:=fun d=>[.ptr 0 []]
 hp:=fun d=>[.box 3 (.val qt d.1)]
 m:=1
 pre:=fun d=>oD F d.1=some d.2
 out:=fun d=>(fun r:(qc×qh)=>.ret (.val .str r.1) [.box 3 (.val qt r.2)]) d.2
def aED:PlR:=⟨[(0,.A [0]),(1,.A [0,3]),(2,.A [0,3,30]),(3,.B [0,3]),(4,.A [2])],[(5,7)],[]⟩
abbrev aE7(F:Md):List (FuncId×aF):=[(125,(eE F))]
theorem aMJ[Mx](F:Md):bF Tryz.prog GL (aE7 F):=.cons (qD F) xN (.nil)
attribute [go_sem] aED aAg
theorem aLO[Mx](F:Md):GOK Tryz.prog GL 175 (aAg F):=by
 refine kG (bA (aMJ F)) mix Tryz.func175 rfl xN (fun _=>Nat.le_of_ble_eq_true rfl) aED (fun L w0 d N I h hV=>?_);obtain⟨(f:qh),r⟩:=d;have hF:=hV.fr;replace h:=kH (show oD F f=some r from h);simp only[vH,List.map_cons,List.map_nil,go_sem];unfold oD at h;refine dD hV (D:=qh) (fun d=>sat (nZ F f d) (fun z=>z=r)) [3] (fun d=>[(0,.ptr 0 [])]) (fun d=>[.inr (.box 3 (.val qt d))]) ?_ ?_
 ·simp only[go_sem];refine bQ hV (D:=qh) [3] (fun d=>[(0,.ptr 0 [])]) (fun d=>[.inr (.box 3 (.val qt d))]) h rfl xAb ?_;rintro g J T2 hA2 hE2 h;simp only[go_sem];replace h:sat (fK F g) _:=h;unfold fK at h;refine aK h fun g0 h=>aK h fun g1 h=>?_;refine⟨fun hc=>?_,fun hc=>?_⟩
  ·replace h:=gZ hc h;refine aK h fun g0 h=>?_;exact zav
  ·replace h:=hO hc h;replace h:=yaG (hE2 _ (aA h));exact aT (g) h rfl xAb
 ·rintro q h;simp only[go_sem];replace h:sat (nZ F f q) _:=h;unfold nZ at h;refine aK h fun g0 h=>?_;exact zar
def aBJ:ByteArray:=⟨⟨97::98::99::100::101::102::103::104::105::106::107::108::109::110::111::112::113::114::115::116::117::118::119::120::121::122:: []⟩⟩
@[go_sem]theorem aXq:(⟨⟨97::98::99::100::101::102::103::104::105::106::107::108::109::110::111::112::113::114::115::116::117::118::119::120::121::122:: []⟩⟩:ByteArray)=aBJ:=rfl
@[go_sem]def bX(g:qh→Option (wd⊕qp)):fQ where
 D:=qh×(wd⊕qp)
 av:=fun d=>[.ptr 0 []]
 hp:=fun d=>[.box 3 (.val qt d.1)]
 m:=1
 pre:=fun d=>g d.1=some d.2
 out:=fun d=>match d.2 with| .inl r=>.ret (.val .expr r.1) [.box 3 (.val qt r.2)]| .inr p=>.pan ⟨93,qm,p⟩ [.box 3 (.junk)]
@[go_sem]def aCf(g:qh→Option (wd⊕qp))(vs:List AV)(h:List Vc.Obj):Hit:=mkH (g (eM h (fY vs 0) qt)) (.inr ((0:Int),())) fun r=>⟨(bX g),[(fY vs 0)],((eM h (fY vs 0) qt),r)⟩
def cE(F:Md)(g:qh→Option (wd⊕qp))(signs_2:qc)(kinds_3:(List Int))(J:qh)(q:Ex):Option ((qh×Ex)⊕(wd⊕qp)) :=
 (fO F signs_2 J).bind (fun f=>if ¬(f.1.2.1=true) then some (.inr (.inl (q,f.2))) else ck ((aV F signs_2 f.1.1).isSome=true) (ck (0≤((aV F signs_2 f.1.1).getD (0:Int))∧((aV F signs_2 f.1.1).getD (0:Int))<(2:Int)) ((g f.2).bind (fun e=>match e with| .inl z=>(eD F (kinds_3.getD ((aV F signs_2 f.1.1).getD (0:Int)).toNat (0:Int)) (aQ ⟨#[]⟩) ([q,z.1]:List Ex) z.2).bind (fun I=>some (.inl (I.2,I.1)))| .inr L=>some (.inr (.inr L))))))
def cM(F:Md)(g:qh→Option (wd⊕qp))(signs_2:qc)(kinds_3:(List Int))(z:qh):Option (wd⊕qp) :=
 (g z).bind (fun e=>match e with| .inl f=>(dK F (fun d:qh×Ex=>cE F g signs_2 kinds_3 d.1 d.2) (f.2,f.1)).bind (fun e=>match e with|(.inl e)=>some (.inl e)|(.inr e)=>some (.inr e))| .inr q=>some (.inr q))
def jW(F:Md)(g:qh→Option (wd⊕qp)):fQ where
 D:=qc×(List Int)×qh×(wd⊕qp)
 av:=fun d=>[.ptr 0 [],.fn 127 [0] [],.val .str d.1,.val wz d.2.1]
 hp:=fun d=>[.box 3 (.val qt d.2.2.1)]
 m:=1
 pre:=fun d=>cM F g d.1 d.2.1 d.2.2.1=some d.2.2.2
 out:=fun d=>match d.2.2.2 with| .inl r=>.ret (.val .expr r.1) [.box 3 (.val qt r.2)]| .inr p=>.pan ⟨93,qm,p⟩ [.box 3 (.junk)]
@[go_sem]def pJ(F:Md)(g:qh→Option (wd⊕qp))(vs:List AV)(h:List Vc.Obj):Hit:=mkH (cM F g (qV h vs 2 .str) (qV h vs 3 wz) (eM h (fY vs 0) qt)) (.inr ((0:Int),())) fun r=>⟨(jW F g),[(fY vs 0)],((qV h vs 2 .str),(qV h vs 3 wz),(eM h (fY vs 0) qt),r)⟩
def pK(F:Md)(g:qh→Option (wd⊕qp)):PlR:=⟨[(0,.B [0,1,2,7,8]),(1,.P [0,1,2,7,8,9] []),(2,.P [0,1,2,7,8,9,10,11] []),(3,.A [0,1,2,7,8,9,10,22]),(4,.B [8]),(5,.A [0,1,2,7,8,9,12]),(6,.stop)],[],[(124,xL F),(127,(aCf g))]⟩
abbrev qE(F:Md)(g:qh→Option (wd⊕qp)):List (FuncId×aF):=[(125,(eE F))]
theorem aAh[Mx](F:Md)(g:qh→Option (wd⊕qp))(f:GOK Tryz.prog GL 127 (bX g)):bF Tryz.prog GL (qE F g):=.cons (qD F) xN (.nil)
attribute [go_sem] pK jW
theorem zI[Mx](F:Md)(g:qh→Option (wd⊕qp))(O:GOK Tryz.prog GL 127 (bX g)):GOK Tryz.prog GL 85 (jW F g):=by
 refine kG (bA (aAh F g O)) mix Tryz.func85 rfl xN (fun _=>Nat.le_of_ble_eq_true rfl) (pK F g) (fun c0 w0 d hw Z h hV=>?_) (.cons (fun _ _=>(xM F)) xN (.cons (fun _ _=>O) xN (.nil)));obtain⟨(signs_2:qc),(kinds_3:(List Int)),(N:qh),r⟩:=d;have hF:=hV.fr;replace h:=kH (show cM F g signs_2 kinds_3 N=some r from h);simp only[vH,List.map_cons,List.map_nil,go_sem];unfold cM at h;refine aB h fun e hv h=>?_;rcases e with U|Y
 ·try dsimp only at h
  simp only[hv,go_sem];refine bQ hV (D:=qh×Ex) [2] (fun d=>[(0,.ptr 0 []),(1,.fn 127 [0] []),(7,.ptr 1 []),(8,.ptr 2 []),(9,.ptr 3 [])]) (fun d=>[.inr (.box 3 (.val qt d.1)),.inr (.box 2 (.val wz kinds_3)),.inr (.box 3 (.val .expr (Ex.mk 0 [] []))),.inr (.box 3 (.val .expr d.2))]) h rfl xAb ?_;rintro⟨J,f⟩ A2 T2 hA2 hE2 h;simp only[go_sem];replace h:sat (cE F g signs_2 kinds_3 J f) _:=h;unfold cE at h;refine aB h fun q hv h=>?_;simp only[hv,go_sem];refine aA1 h (fun hc h=>?_) fun hc h=>?_
  ·replace h:=yaG (hE2 _ (aA h));exact zay
  ·refine aD h fun g0 h=>?_;refine aD h fun g1 h=>(yaD ?_);obtain⟨q0,h,hq⟩:=h;obtain⟨e,he1,h⟩:=bind_some h;rcases e with z|L
   ·(try dsimp only at h);obtain⟨I,he2,h⟩:=bind_some h;(try dsimp only at h);refine uM hF (eX (l:=[(127,⟨(bX g),[0],(q.2,.inl z)⟩),(126,⟨iL F,[0],((kinds_3.getD ((aV F signs_2 q.1.1).getD (0:Int)).toNat (0:Int)),(aQ ⟨#[]⟩),([f,z.1]:List Ex),z.2,I)⟩)]) (.cons O xN (.cons (mU F) xN (.nil)))) [] [0,1,2,7,8,9] [4,6,7] [[0],[12],[9],[1],[32],[31,33],[29,30,34],[9,35]] [(0,0),(0,1),(1,0),(1,1),(2,0),(2,1),(2,2),(3,0),(4,0),(5,1),(6,1),(7,2)] [.ptr 0 [],.val qg (kinds_3.getD ((aV F signs_2 q.1.1).getD (0:Int)).toNat (0:Int)),.val .expr f,.fn 127 [0] [],.val .expr z.1,.full .expr ([f,z.1]:List Ex),.val .expr I.1,.junk] [[.box 3 (.val qt q.2),.box 2 (.val wz kinds_3),.box 3 (.val .expr (Ex.mk 0 [] [])),.box 3 (.val .expr f)],[.box 3 (.val qt z.2),.box 2 (.val wz kinds_3),.box 3 (.val .expr (Ex.mk 0 [] [])),.box 3 (.val .expr f)],[.box 3 (.val qt I.2),.box 2 (.val wz kinds_3),.box 3 (.val .expr (Ex.mk 0 [] [])),.box 3 (.val .expr f)],[.box 3 (.val qt I.2),.box 2 (.val wz kinds_3),.box 3 (.val .expr (Ex.mk 0 [] [])),.box 3 (.val .expr I.1)]] [[(0,.ptr 0 [])],[(12,.val qg (kinds_3.getD ((aV F signs_2 q.1.1).getD (0:Int)).toNat (0:Int)))],[(9,.ptr 3 [])],[(1,.fn 127 [0] [])],[(32,.fn 127 [0] [])],[(31,.val .expr f),(33,.val .expr z.1)],[(29,.ptr 0 []),(30,.val qg (kinds_3.getD ((aV F signs_2 q.1.1).getD (0:Int)).toNat (0:Int))),(34,.full .expr ([f,z.1]:List Ex))],[(9,.ptr 3 []),(35,.val .expr I.1)]] false xAa rfl rfl ?_ ?_
    ·simp only[go_sem];exact zaM
    intro _;show At _ _ [(0,.ptr 0 []),(1,.fn 127 [0] []),(2,.val .str signs_2),(7,.ptr 1 []),(8,.ptr 2 []),(9,.ptr 3 [])] [.box 3 (.val qt I.2),.box 2 (.val wz kinds_3),.box 3 (.val .expr (Ex.mk 0 [] [])),.box 3 (.val .expr I.1)];replace h:=oV h hq;refine aF4 hV (yaA ?_);exact zav
   ·(try dsimp only at h);refine uM hF (eX (l:=[(127,⟨(bX g),[0],(q.2,.inr L)⟩)]) (.cons O xN (.nil))) [] [0,1,2,7,8,9] [4] [[0],[12],[9],[1],[32],[31,33],[29,30,34],[9,35]] [(0,0),(1,0),(2,0),(3,0),(4,0)] [.ptr 0 [],.val qg (kinds_3.getD ((aV F signs_2 q.1.1).getD (0:Int)).toNat (0:Int)),.val .expr f,.fn 127 [0] [],.junk,.junk,.junk,.junk] [[.box 3 (.val qt q.2),.box 2 (.val wz kinds_3),.box 3 (.val .expr (Ex.mk 0 [] [])),.box 3 (.val .expr f)]] [[(0,.ptr 0 [])],[(12,.val qg (kinds_3.getD ((aV F signs_2 q.1.1).getD (0:Int)).toNat (0:Int)))],[(9,.ptr 3 [])],[(1,.fn 127 [0] [])],[(32,.fn 127 [0] [])],[(31,.val .expr f),(33,.junk)],[(29,.ptr 0 []),(30,.val qg (kinds_3.getD ((aV F signs_2 q.1.1).getD (0:Int)).toNat (0:Int))),(34,.junk)],[(9,.ptr 3 []),(35,.junk)]] true xAa rfl rfl ?_ ?_;rotate_left;exact fun h=>absurd h xAa;exact zad
 ·try dsimp only at h
  exact zaN
def gQ(F:Md)(g:qh→Option (wd⊕qp))(f:qh):Option (wd⊕qp) :=
 (cM F g (aQ ⟨#[42,47]⟩) ([8,9]:List Int) f).bind (fun e=>match e with| .inl r_7=>some (.inl (r_7.1,r_7.2))| .inr p_8=>some (.inr p_8))
def mV(F:Md)(g:qh→Option (wd⊕qp)):fQ where
 D:=qh×(wd⊕qp)
 av:=fun d=>[.ptr 0 []]
 hp:=fun d=>[.box 3 (.val qt d.1)]
 m:=1
 pre:=fun d=>gQ F g d.1=some d.2
 out:=fun d=>match d.2 with| .inl r=>.ret (.val .expr r.1) [.box 3 (.val qt r.2)]| .inr p=>.pan ⟨93,qm,p⟩ [.box 3 (.junk)]
@[go_sem]def aCg(F:Md)(g:qh→Option (wd⊕qp))(vs:List AV)(h:List Vc.Obj):Hit:=mkH (gQ F g (eM h (fY vs 0) qt)) (.inr ((0:Int),())) fun r=>⟨(mV F g),[(fY vs 0)],((eM h (fY vs 0) qt),r)⟩
def aCh(F:Md)(g:qh→Option (wd⊕qp)):PlR:=⟨[(0,.B [0,2]),(1,.P [2] [])],[],[(85,(pJ F g))]⟩
abbrev aJC(F:Md)(g:qh→Option (wd⊕qp)):List (FuncId×aF):=[]
theorem aJD[Mx](F:Md)(g:qh→Option (wd⊕qp))(f:GOK Tryz.prog GL 127 (bX g)):bF Tryz.prog GL (aJC F g):=.nil
attribute [go_sem] aCh mV
theorem wO[Mx](F:Md)(g:qh→Option (wd⊕qp))(q:GOK Tryz.prog GL 127 (bX g)):GOK Tryz.prog GL 86 (mV F g):=by
 refine kG (bA (aJD F g q)) mix Tryz.func86 rfl xN (fun _=>Nat.le_of_ble_eq_true rfl) (aCh F g) (fun I w0 d J z h hV=>?_) (.cons (fun _ _=>(zI F g q)) xN (.nil));obtain⟨(f:qh),r⟩:=d;have hF:=hV.fr;replace h:=kH (show gQ F g f=some r from h);simp only[vH,List.map_cons,List.map_nil,go_sem];unfold gQ at h;refine aB h fun e hv h=>?_;rcases e with r_7|p_8
 ·try dsimp only at h
  exact zae
 ·try dsimp only at h
  exact zaN
def iQ(F:Md)(g:qh→Option (wd⊕qp))(signs_2:qc)(kinds_3:(List Int))(J:qh)(q:Ex):Option ((qh×Ex)⊕(wd⊕qp)) :=
 (fO F signs_2 J).bind (fun f=>if ¬(f.1.2.1=true) then some (.inr (.inl (q,f.2))) else ck ((aV F signs_2 f.1.1).isSome=true) (ck (0≤((aV F signs_2 f.1.1).getD (0:Int))∧((aV F signs_2 f.1.1).getD (0:Int))<(2:Int)) ((gQ F g f.2).bind (fun e=>match e with| .inl z=>(eD F (kinds_3.getD ((aV F signs_2 f.1.1).getD (0:Int)).toNat (0:Int)) (aQ ⟨#[]⟩) ([q,z.1]:List Ex) z.2).bind (fun I=>some (.inl (I.2,I.1)))| .inr L=>some (.inr (.inr L))))))
def eP(F:Md)(g:qh→Option (wd⊕qp))(signs_2:qc)(kinds_3:(List Int))(z:qh):Option (wd⊕qp) :=
 (gQ F g z).bind (fun e=>match e with| .inl f=>(dK F (fun d:qh×Ex=>iQ F g signs_2 kinds_3 d.1 d.2) (f.2,f.1)).bind (fun e=>match e with|(.inl e)=>some (.inl e)|(.inr e)=>some (.inr e))| .inr q=>some (.inr q))
def jK(F:Md)(g:qh→Option (wd⊕qp)):fQ where
 D:=qc×(List Int)×qh×(wd⊕qp)
 av:=fun d=>[.ptr 0 [],.fn 86 [0] [],.val .str d.1,.val wz d.2.1]
 hp:=fun d=>[.box 3 (.val qt d.2.2.1)]
 m:=1
 pre:=fun d=>eP F g d.1 d.2.1 d.2.2.1=some d.2.2.2
 out:=fun d=>match d.2.2.2 with| .inl r=>.ret (.val .expr r.1) [.box 3 (.val qt r.2)]| .inr p=>.pan ⟨93,qm,p⟩ [.box 3 (.junk)]
@[go_sem]def oQ(F:Md)(g:qh→Option (wd⊕qp))(vs:List AV)(h:List Vc.Obj):Hit:=mkH (eP F g (qV h vs 2 .str) (qV h vs 3 wz) (eM h (fY vs 0) qt)) (.inr ((0:Int),())) fun r=>⟨(jK F g),[(fY vs 0)],((qV h vs 2 .str),(qV h vs 3 wz),(eM h (fY vs 0) qt),r)⟩
def oR(F:Md)(g:qh→Option (wd⊕qp)):PlR:=⟨[(0,.B [0,1,2,7,8]),(1,.P [0,1,2,7,8,9] []),(2,.P [0,1,2,7,8,9,10,11] []),(3,.A [0,1,2,7,8,9,10,22]),(4,.B [8]),(5,.A [0,1,2,7,8,9,12]),(6,.stop)],[],[(86,(aCg F g)),(124,xL F)]⟩
abbrev pL(F:Md)(g:qh→Option (wd⊕qp)):List (FuncId×aF):=[(125,(eE F))]
theorem zJ[Mx](F:Md)(g:qh→Option (wd⊕qp))(f:GOK Tryz.prog GL 127 (bX g)):bF Tryz.prog GL (pL F g):=.cons (qD F) xN (.nil)
attribute [go_sem] oR jK
theorem yT[Mx](F:Md)(g:qh→Option (wd⊕qp))(O:GOK Tryz.prog GL 127 (bX g)):GOK Tryz.prog GL 85 (jK F g):=by
 refine kG (bA (zJ F g O)) mix Tryz.func85 rfl xN (fun _=>Nat.le_of_ble_eq_true rfl) (oR F g) (fun c0 w0 d hw Z h hV=>?_) (.cons (fun _ _=>(wO F g O)) xN (.cons (fun _ _=>(xM F)) xN (.nil)));obtain⟨(signs_2:qc),(kinds_3:(List Int)),(N:qh),r⟩:=d;have hF:=hV.fr;replace h:=kH (show eP F g signs_2 kinds_3 N=some r from h);simp only[vH,List.map_cons,List.map_nil,go_sem];unfold eP at h;refine aB h fun e hv h=>?_;rcases e with U|Y
 ·try dsimp only at h
  simp only[hv,go_sem];refine bQ hV (D:=qh×Ex) [2] (fun d=>[(0,.ptr 0 []),(1,.fn 86 [0] []),(7,.ptr 1 []),(8,.ptr 2 []),(9,.ptr 3 [])]) (fun d=>[.inr (.box 3 (.val qt d.1)),.inr (.box 2 (.val wz kinds_3)),.inr (.box 3 (.val .expr (Ex.mk 0 [] []))),.inr (.box 3 (.val .expr d.2))]) h rfl xAb ?_;rintro⟨J,f⟩ A2 T2 hA2 hE2 h;simp only[go_sem];replace h:sat (iQ F g signs_2 kinds_3 J f) _:=h;unfold iQ at h;refine aB h fun q hv h=>?_;simp only[hv,go_sem];refine aA1 h (fun hc h=>?_) fun hc h=>?_
  ·replace h:=yaG (hE2 _ (aA h));exact zay
  ·refine aD h fun g0 h=>?_;refine aD h fun g1 h=>(yaD ?_);obtain⟨q0,h,hq⟩:=h;obtain⟨e,he1,h⟩:=bind_some h;rcases e with z|L
   ·(try dsimp only at h);obtain⟨I,he2,h⟩:=bind_some h;(try dsimp only at h);refine uM hF (eX (l:=[(86,⟨(mV F g),[0],(q.2,.inl z)⟩),(126,⟨iL F,[0],((kinds_3.getD ((aV F signs_2 q.1.1).getD (0:Int)).toNat (0:Int)),(aQ ⟨#[]⟩),([f,z.1]:List Ex),z.2,I)⟩)]) (.cons (wO F g O) xN (.cons (mU F) xN (.nil)))) [] [0,1,2,7,8,9] [4,6,7] [[0],[12],[9],[1],[32],[31,33],[29,30,34],[9,35]] [(0,0),(0,1),(1,0),(1,1),(2,0),(2,1),(2,2),(3,0),(4,0),(5,1),(6,1),(7,2)] [.ptr 0 [],.val qg (kinds_3.getD ((aV F signs_2 q.1.1).getD (0:Int)).toNat (0:Int)),.val .expr f,.fn 86 [0] [],.val .expr z.1,.full .expr ([f,z.1]:List Ex),.val .expr I.1,.junk] [[.box 3 (.val qt q.2),.box 2 (.val wz kinds_3),.box 3 (.val .expr (Ex.mk 0 [] [])),.box 3 (.val .expr f)],[.box 3 (.val qt z.2),.box 2 (.val wz kinds_3),.box 3 (.val .expr (Ex.mk 0 [] [])),.box 3 (.val .expr f)],[.box 3 (.val qt I.2),.box 2 (.val wz kinds_3),.box 3 (.val .expr (Ex.mk 0 [] [])),.box 3 (.val .expr f)],[.box 3 (.val qt I.2),.box 2 (.val wz kinds_3),.box 3 (.val .expr (Ex.mk 0 [] [])),.box 3 (.val .expr I.1)]] [[(0,.ptr 0 [])],[(12,.val qg (kinds_3.getD ((aV F signs_2 q.1.1).getD (0:Int)).toNat (0:Int)))],[(9,.ptr 3 [])],[(1,.fn 86 [0] [])],[(32,.fn 86 [0] [])],[(31,.val .expr f),(33,.val .expr z.1)],[(29,.ptr 0 []),(30,.val qg (kinds_3.getD ((aV F signs_2 q.1.1).getD (0:Int)).toNat (0:Int))),(34,.full .expr ([f,z.1]:List Ex))],[(9,.ptr 3 []),(35,.val .expr I.1)]] false xAa rfl rfl ?_ ?_
    ·simp only[go_sem];exact zaM
    intro _;show At _ _ [(0,.ptr 0 []),(1,.fn 86 [0] []),(2,.val .str signs_2),(7,.ptr 1 []),(8,.ptr 2 []),(9,.ptr 3 [])] [.box 3 (.val qt I.2),.box 2 (.val wz kinds_3),.box 3 (.val .expr (Ex.mk 0 [] [])),.box 3 (.val .expr I.1)];replace h:=oV h hq;refine aF4 hV (yaA ?_);exact zav
   ·(try dsimp only at h);refine uM hF (eX (l:=[(86,⟨(mV F g),[0],(q.2,.inr L)⟩)]) (.cons (wO F g O) xN (.nil))) [] [0,1,2,7,8,9] [4] [[0],[12],[9],[1],[32],[31,33],[29,30,34],[9,35]] [(0,0),(1,0),(2,0),(3,0),(4,0)] [.ptr 0 [],.val qg (kinds_3.getD ((aV F signs_2 q.1.1).getD (0:Int)).toNat (0:Int)),.val .expr f,.fn 86 [0] [],.junk,.junk,.junk,.junk] [[.box 3 (.val qt q.2),.box 2 (.val wz kinds_3),.box 3 (.val .expr (Ex.mk 0 [] [])),.box 3 (.val .expr f)]] [[(0,.ptr 0 [])],[(12,.val qg (kinds_3.getD ((aV F signs_2 q.1.1).getD (0:Int)).toNat (0:Int)))],[(9,.ptr 3 [])],[(1,.fn 86 [0] [])],[(32,.fn 86 [0] [])],[(31,.val .expr f),(33,.junk)],[(29,.ptr 0 []),(30,.val qg (kinds_3.getD ((aV F signs_2 q.1.1).getD (0:Int)).toNat (0:Int))),(34,.junk)],[(9,.ptr 3 []),(35,.junk)]] true xAa rfl rfl ?_ ?_;rotate_left;exact fun h=>absurd h xAa;exact zad
 ·try dsimp only at h
  exact zaN
def kP(F:Md)(g:qh→Option (wd⊕qp))(f:qh):Option (wd⊕qp) :=
 (eP F g (aQ ⟨#[43,45]⟩) ([6,7]:List Int) f).bind (fun e=>match e with| .inl r_7=>some (.inl (r_7.1,r_7.2))| .inr p_8=>some (.inr p_8))
def rL(F:Md)(g:qh→Option (wd⊕qp)):fQ where
 D:=qh×(wd⊕qp)
 av:=fun d=>[.ptr 0 []]
 hp:=fun d=>[.box 3 (.val qt d.1)]
 m:=1
 pre:=fun d=>kP F g d.1=some d.2
 out:=fun d=>match d.2 with| .inl r=>.ret (.val .expr r.1) [.box 3 (.val qt r.2)]| .inr p=>.pan ⟨93,qm,p⟩ [.box 3 (.junk)]
@[go_sem]def aE8(F:Md)(g:qh→Option (wd⊕qp))(vs:List AV)(h:List Vc.Obj):Hit:=mkH (kP F g (eM h (fY vs 0) qt)) (.inr ((0:Int),())) fun r=>⟨(rL F g),[(fY vs 0)],((eM h (fY vs 0) qt),r)⟩
def aE9(F:Md)(g:qh→Option (wd⊕qp)):PlR:=⟨[(0,.B [0,2]),(1,.P [2] [])],[],[(85,(oQ F g))]⟩
abbrev aOi(F:Md)(g:qh→Option (wd⊕qp)):List (FuncId×aF):=[]
theorem aOj[Mx](F:Md)(g:qh→Option (wd⊕qp))(f:GOK Tryz.prog GL 127 (bX g)):bF Tryz.prog GL (aOi F g):=.nil
attribute [go_sem] aE9 rL
theorem aA2[Mx](F:Md)(g:qh→Option (wd⊕qp))(q:GOK Tryz.prog GL 127 (bX g)):GOK Tryz.prog GL 39 (rL F g):=by
 refine kG (bA (aOj F g q)) mix Tryz.func39 rfl xN (fun _=>Nat.le_of_ble_eq_true rfl) (aE9 F g) (fun I w0 d J z h hV=>?_) (.cons (fun _ _=>(yT F g q)) xN (.nil));obtain⟨(f:qh),r⟩:=d;have hF:=hV.fr;replace h:=kH (show kP F g f=some r from h);simp only[vH,List.map_cons,List.map_nil,go_sem];unfold kP at h;refine aB h fun e hv h=>?_;rcases e with r_7|p_8
 ·try dsimp only at h
  exact zae
 ·try dsimp only at h
  exact zaN
def jL(F:Md)(g:qh→Option (wd⊕qp))(f:qh):Option (wd⊕qp) :=
 (fE F (aQ ⟨#[40]⟩) f).bind (fun e=>match e with| .inl r_7=>(kP F g r_7).bind (fun e=>match e with| .inl r_13=>(fE F (aQ ⟨#[41]⟩) r_13.2).bind (fun e=>match e with| .inl z=>some (.inl (r_13.1,z))| .inr q=>some (.inr q))| .inr p_14=>some (.inr p_14))| .inr p_8=>some (.inr p_8))
def lD(F:Md)(g:qh→Option (wd⊕qp)):fQ where
 D:=qh×(wd⊕qp)
 av:=fun d=>[.ptr 0 []]
 hp:=fun d=>[.box 3 (.val qt d.1)]
 m:=1
 pre:=fun d=>jL F g d.1=some d.2
 out:=fun d=>match d.2 with| .inl r=>.ret (.val .expr r.1) [.box 3 (.val qt r.2)]| .inr p=>.pan ⟨93,qm,p⟩ [.box 3 (.junk)]
def aCX(F:Md)(g:qh→Option (wd⊕qp)):PlR:=⟨[(0,.B [0,2]),(1,.P [0,2] []),(2,.P [0,2,3] []),(3,.P [2,3] []),(4,.B [2])],[],[(39,(aE8 F g)),(199,aEz F)]⟩
abbrev aKx(F:Md)(g:qh→Option (wd⊕qp)):List (FuncId×aF):=[]
theorem aKy[Mx](F:Md)(g:qh→Option (wd⊕qp))(f:GOK Tryz.prog GL 127 (bX g)):bF Tryz.prog GL (aKx F g):=.nil
attribute [go_sem] aCX lD
theorem sB[Mx](F:Md)(g:qh→Option (wd⊕qp))(z:GOK Tryz.prog GL 127 (bX g)):GOK Tryz.prog GL 173 (lD F g):=by
 refine kG (bA (aKy F g z)) mix Tryz.func173 rfl xN (fun _=>Nat.le_of_ble_eq_true rfl) (aCX F g) (fun L w0 d N J h hV=>?_) (.cons (fun _ _=>(aA2 F g z)) xN (.cons (fun _ _=>(aLN F)) xN (.nil)));obtain⟨(f:qh),r⟩:=d;have hF:=hV.fr;replace h:=kH (show jL F g f=some r from h);simp only[vH,List.map_cons,List.map_nil,go_sem];unfold jL at h;refine aB h fun e hv h=>?_;rcases e with r_7|p_8
 ·try dsimp only at h
  simp only[hv,go_sem];refine aB h fun e hv h=>?_;rcases e with r_13|p_14
  ·(try dsimp only at h);simp only[hv,go_sem];refine aB h fun e hv h=>?_;rcases e with I|q
   ·(try dsimp only at h);exact zae
   ·(try dsimp only at h);exact zaN
  ·(try dsimp only at h);exact zaN
 ·try dsimp only at h
  exact zaN
def kB(F:Md)(g:qh→Option (wd⊕qp))(Y:qh):Option (wd⊕qp) :=
 (fO F (aQ ⟨#[45]⟩) Y).bind (fun f=>if f.1.2.1=true then (g f.2).bind (fun e=>match e with| .inl L=>(eD F (10:Int) (aQ ⟨#[]⟩) ([L.1]:List Ex) L.2).bind (fun z=>some (.inl (z.1,z.2)))| .inr Z=>some (.inr Z)) else if f.2.2.1=(f.2.1.length:Int) then some (.inr (f.2.2.1,())) else ck (0≤f.2.2.1∧f.2.2.1<(f.2.1.length:Int)) (if (f.2.1.getD (f.2.2.1.toNat) (0:Nat))=(40:Nat) then (jL F g f.2).bind (fun e=>match e with| .inl N=>some (.inl (N.1,N.2))| .inr p_27=>some (.inr p_27)) else ck (0≤f.2.2.1∧f.2.2.1<(f.2.1.length:Int)) (ck ((aV F (aQ aBJ) (f.2.1.getD (f.2.2.1.toNat) (0:Nat))).isSome=true) (if ((aV F (aQ aBJ) (f.2.1.getD (f.2.2.1.toNat) (0:Nat))).getD (0:Int))<(0:Int) then (lQ F f.2).bind (fun e=>match e with| .inl I=>some (.inl (I.1,I.2))| .inr p_33=>some (.inr p_33)) else (oD F f.2).bind (fun q=>if (aAm .str (aCq .str (aCq .str (aCq .str ([]:List vm) (aQ ⟨#[115,113,114]⟩) (11:Int)) (aQ ⟨#[115,113,114,116]⟩) (12:Int)) (aQ ⟨#[101,120,112]⟩) (13:Int)) q.1).isSome=true then (jL F g q.2).bind (fun e=>match e with| .inl J=>(eD F ((aAm .str (aCq .str (aCq .str (aCq .str ([]:List vm) (aQ ⟨#[115,113,114]⟩) (11:Int)) (aQ ⟨#[115,113,114,116]⟩) (12:Int)) (aQ ⟨#[101,120,112]⟩) (13:Int)) q.1).getD (0:Int)) (aQ ⟨#[]⟩) ([J.1]:List Ex) J.2).bind (fun O=>some (.inl (O.1,O.2)))| .inr p_47=>some (.inr p_47)) else (eD F (2:Int) q.1 ([]:List Ex) q.2).bind (fun U=>some (.inl (U.1,U.2))))))))
def aCi(F:Md)(g:qh→Option (wd⊕qp)):fQ where
 D:=qh×(wd⊕qp)
 av:=fun d=>[.ptr 0 []]
 hp:=fun d=>[.box 3 (.val qt d.1)]
 m:=1
 pre:=fun d=>kB F g d.1=some d.2
 out:=fun d=>match d.2 with| .inl r=>.ret (.val .expr r.1) [.box 3 (.val qt r.2)]| .inr p=>.pan ⟨93,qm,p⟩ [.box 3 (.junk)]
abbrev yU(F:Md)(g:qh→Option (wd⊕qp)):List (FuncId×aF):=[(125,(eE F))]
theorem aDm[Mx](F:Md)(g:qh→Option (wd⊕qp))(f:GOK Tryz.prog GL 127 (bX g)):bF Tryz.prog GL (yU F g):=.cons (qD F) xN (.nil)
theorem aIB[Mx](F:Md)(g:qh→Option (wd⊕qp))(L:GOK Tryz.prog GL 127 (bX g)):GOK Tryz.prog GL 127 (aCi F g):=by
 refine bAN (bA (aDm F g L)) Tryz.func127 rfl xN (fun _=>Nat.le_of_ble_eq_true rfl) fun c0 w0 d N hw2 h hn=>?_;have hF:vG ⟨Tryz.prog,EM (yU F g),GM (aCi F g) c0 d,w0,Tryz.f127.ntmps,[]⟩:=⟨bA (aDm F g L),mix⟩;obtain⟨(I:qh),r⟩:=d;replace h:kB F g I=some r:=h;have N:AV.wfL [.ptr 0 []]:=N;simp only[AV.wfL,AV.wfV,Ty.wf,aHo] at N;show Tri _ _ _ [(0,.ptr 0 [])] [.box 3 (.val qt I)];unfold kB at h;refine aN (dQ hF [0,2] (yaA ?_));obtain⟨q,he1,h⟩:=bind_some h;try dsimp only at h
 refine aP (aN (aN (cP hF (eX (l:=[(124,⟨xK F,[0],((aQ ⟨#[45]⟩),I,q)⟩)]) (.cons (xM F) xN (.nil))) [0,2,4] [] (yaE ?_))));refine aP (aN (aR hF [0,2,13] (yaA ?_)));refine aP (dF rfl (fun hc=>?_) (fun hc=>?_))
 ·try simp only[go_sem] at hc
  have h:=pI zAC h;obtain⟨e,he2,h⟩:=bind_some h;rcases e with J|p_17
  ·(try dsimp only at h);obtain⟨O,he3,h⟩:=bind_some h;(try dsimp only at h);refine aN (cP hF (eX (l:=[(127,⟨(bX g),[0],(q.2,.inl J)⟩),(126,⟨iL F,[0],((10:Int),(aQ ⟨#[]⟩),([J.1]:List Ex),J.2,O)⟩)]) (.cons L xN (.cons (mU F) xN (.nil)))) [2] [] (yaE ?_));obtain rfl:=Option.some.inj h;refine aP (iW (eL (lS hF [.cell 2 40] [0] rfl rfl rfl rfl rfl rfl rfl rfl rfl ?_)));exact zaC
  ·(try dsimp only at h);refine aN (cP hF (eX (l:=[(127,⟨(bX g),[0],(q.2,.inr p_17)⟩)]) (.cons L xN (.nil))) [2] [] (yaE ?_));obtain rfl:=Option.some.inj h;refine jM (jM (bS [0] rfl rfl (yaB ?_)));exact zaH
 ·try simp only[go_sem] at hc
  have h:=oF zAC h;refine eO (aP (aN (sP (aN (aR hF [0,2,19] (yaA ?_))))));refine aP (dF rfl (fun hc=>?_) (fun hc=>?_))
  ·(try simp only[go_sem] at hc);have h:=pI zAC h;refine cP hF (eX (l:=[]) (.nil)) [0,2] [] (yaE ?_);obtain rfl:=Option.some.inj h;refine aDw (jM (bS [0] rfl rfl (yaB ?_)));exact zaH
  ·(try simp only[go_sem] at hc);have h:=oF zAC h;refine aN (aR hF [0,2,36] (yaA ?_));obtain⟨g0,h⟩:=bG h;(repeat (refine⟨zAA,?_⟩));refine aP (dF rfl (fun hc=>?_) (fun hc=>?_))
   ·(try simp only[go_sem] at hc);have h:=pI zAC h;obtain⟨e,he4,h⟩:=bind_some h;rcases e with r_26|Y
    ·(try dsimp only at h);refine aN (cP hF (eX (l:=[(173,⟨(lD F g),[0],(q.2,.inl r_26)⟩)]) (.cons (sB F g L) xN (.nil))) [2] [] (yaE ?_));obtain rfl:=Option.some.inj h;refine aP (iW (rM (eL (lS hF [.cell 2 40] [0] rfl rfl rfl rfl rfl rfl rfl rfl rfl ?_))));exact zaC
    ·(try dsimp only at h);refine aN (cP hF (eX (l:=[(173,⟨(lD F g),[0],(q.2,.inr Y)⟩)]) (.cons (sB F g L) xN (.nil))) [2] [] (yaE ?_));obtain rfl:=Option.some.inj h;refine jM (aDw (jM (bS [0] rfl rfl (yaB ?_))));exact zaH
   ·(try simp only[go_sem] at hc);have h:=oF zAC h;refine aN (aR hF [0,2,49] (yaA ?_));obtain⟨g0,h⟩:=bG h;obtain⟨g1,h⟩:=bG h;(repeat (refine⟨zAA,?_⟩));refine aP (dF rfl (fun hc=>?_) (fun hc=>?_))
    ·(try simp only[go_sem] at hc);have h:=pI zAC h;obtain⟨e,he5,h⟩:=bind_some h;rcases e with U|p_33
     ·(try dsimp only at h);refine aN (cP hF (eX (l:=[(174,⟨sA F,[0],(q.2,.inl U)⟩)]) (.cons (aCW F) xN (.nil))) [2] [] (yaE ?_));obtain rfl:=Option.some.inj h;refine aP (iW (rM (eL (lS hF [.cell 2 40] [0] rfl rfl rfl rfl rfl rfl rfl rfl rfl ?_))));exact zaC
     ·(try dsimp only at h);refine aN (cP hF (eX (l:=[(174,⟨sA F,[0],(q.2,.inr p_33)⟩)]) (.cons (aCW F) xN (.nil))) [2] [] (yaE ?_));obtain rfl:=Option.some.inj h;refine jM (aDw (jM (bS [0] rfl rfl (yaB ?_))));exact zaH
    ·(try simp only[go_sem] at hc);have h:=oF zAC h;obtain⟨f,he6,h⟩:=bind_some h;(try dsimp only at h);refine eO (sD (aP (aN (cP hF (eX (l:=[(175,⟨aAg F,[0],(q.2,f)⟩)]) (.cons (aLO F) xN (.nil))) [0,2,5] [] (yaE ?_)))));refine aP (aN (aN (dQ hF [0,2,5,6,7] (yaA ?_))));refine aP (aN (aR hF [0,2,5,6,72] (yaA ?_)));refine aP (dF rfl (fun hc=>?_) (fun hc=>?_))
     ·(try simp only[go_sem] at hc);have h:=pI zAC h;obtain⟨e,he7,h⟩:=bind_some h;rcases e with z|p_47
      ·(try dsimp only at h);obtain⟨r_46,he8,h⟩:=bind_some h;(try dsimp only at h);refine aN (cP hF (eX (l:=[(173,⟨(lD F g),[0],(f.2,.inl z)⟩),(126,⟨iL F,[0],(((aAm .str (aCq .str (aCq .str (aCq .str ([]:List vm) (aQ ⟨#[115,113,114]⟩) (11:Int)) (aQ ⟨#[115,113,114,116]⟩) (12:Int)) (aQ ⟨#[101,120,112]⟩) (13:Int)) f.1).getD (0:Int)),(aQ ⟨#[]⟩),([z.1]:List Ex),z.2,r_46)⟩)]) (.cons (sB F g L) xN (.cons (mU F) xN (.nil)))) [2] [] (yaE ?_));obtain rfl:=Option.some.inj h;refine aP (iW (eL (lS hF [.cell 2 40] [0] rfl rfl rfl rfl rfl rfl rfl rfl rfl ?_)));exact zaC
      ·(try dsimp only at h);refine aN (cP hF (eX (l:=[(173,⟨(lD F g),[0],(f.2,.inr p_47)⟩)]) (.cons (sB F g L) xN (.nil))) [2] [] (yaE ?_));obtain rfl:=Option.some.inj h;refine jM (jM (bS [0] rfl rfl (yaB ?_)));exact zaH
     ·(try simp only[go_sem] at hc);have h:=oF zAC h;obtain⟨Z,he9,h⟩:=bind_some h;(try dsimp only at h);refine eO (aP (aN (cP hF (eX (l:=[(126,⟨iL F,[0],((2:Int),f.1,([]:List Ex),f.2,Z)⟩)]) (.cons (mU F) xN (.nil))) [2] [] (yaE ?_))));obtain rfl:=Option.some.inj h;refine aP (iW (lS hF [.cell 2 40] [0] rfl rfl rfl rfl rfl rfl rfl rfl rfl ?_));exact zaC
def hZ(F:Md):Nat→qh→Option (wd⊕qp)
 | 0=>fun _=>none
 | n+1=>kB F (hZ F n)
def aCY(F:Md)(n:Nat):fQ where
 D:=qh×(wd⊕qp)
 av:=fun d=>[.ptr 0 []]
 hp:=fun d=>[.box 3 (.val qt d.1)]
 m:=1
 pre:=fun d=>hZ F n d.1=some d.2
 out:=fun d=>match d.2 with| .inl r=>.ret (.val .expr r.1) [.box 3 (.val qt r.2)]| .inr p=>.pan ⟨93,qm,p⟩ [.box 3 (.junk)]
theorem xO[Mx](F:Md):∀n,GOK Tryz.prog GL 127 (aCY F n)
 | 0=>fun _ _ _ _ hp _=>absurd (show none=some _ from hp) xAf
 | n+1=>aIB F _ (xO F n)
attribute [go_sem] aCY
def aAi:fQ where
 D:=Ex×Int×Int×Unit
 av:=fun _=>[.ptr 0 [],.ptr 1 [],.ptr 2 []]
 hp:=fun d=>[.box 3 (.val .expr d.1),.box 1 (.val qg d.2.1),.box 1 (.val qg d.2.2.1)]
 m:=3
 pre:=fun _=>True
 out:=fun d=>.ret (.tup []) [.box 3 (.val .expr d.1),.box 1 (.val qg d.2.1),.box 1 (.val qg d.2.2.1)]
def kQ(x:qp):fQ where
 D:=Unit
 av:=fun _=>[.ptr 0 [],.ptr 1 [],.ptr 2 []]
 hp:=fun _=>[.box 3 .junk,.box 1 .junk,.box 1 .junk]
 m:=3
 pre:=fun _=>True
 out:=fun _=>.ret (.tup []) [.box 3 (.val .expr (Ex.mk 0 [] [])),.box 1 (.val qg (x).1),.box 1 (.val qg (6:Int))]
theorem aTK[Mx]:DOK Tryz.prog GL 38 none aAi:=by
 refine aQP (bA aDa) Tryz.func38 rfl xN (fun _=>Nat.le_of_ble_eq_true rfl) rfl fun c w d f g hp I=>?_;have hF:vG ⟨Tryz.prog,EM [],GM aAi c d,w,Tryz.f38.ntmps,[]⟩:=⟨bA aDa,mix⟩;obtain⟨d0,z,q,J⟩:=d;show xV _ _ _ [(6,.val .nili ()),(0,.ptr 0 []),(1,.ptr 1 []),(2,.ptr 2 [])] [.box 3 (.val .expr d0),.box 1 (.val qg z),.box 1 (.val qg q)] _;exact zau
theorem aEX[Mx](x:qp):DOK Tryz.prog GL 38 (some ⟨93,qm,x⟩) (kQ x):=by
 refine aQP (bA aDa) Tryz.func38 rfl xN (fun _=>Nat.le_of_ble_eq_true rfl) rfl fun c w d g f hp q=>?_;have hF:vG ⟨Tryz.prog,EM [],GM (kQ x) c d,w,Tryz.f38.ntmps,[]⟩:=⟨bA aDa,mix⟩;show xV _ _ _ [(6,.val (.ifc 93 qm) x),(0,.ptr 0 []),(1,.ptr 1 []),(2,.ptr 2 [])] [.box 3 .junk,.box 1 .junk,.box 1 .junk] _;simp only[go_sem];refine aN (aR hF [0,1,2,3,10] (yaA ?_));refine aP (dF rfl (fun hc=>?_) (fun hc=>absurd hc xAa));refine aGY hF [] [] [.box 3 (.val .expr (Ex.mk 0 [] [])),.box 1 (.val qg (x).1),.box 1 (.val qg (6:Int)),.box 1 (.val qm x)] xAa ?_ ?_
 ·simp only[go_sem];exact zaV
 refine gK [0,1,2] rfl rfl (yaB ?_);exact zaZ
def iR(F:Md)(q:qc):Option (Ex×(Int×qp)) :=
 (kP F (hZ F 1100) (q,(0:Int),(0:Int),())).bind (fun e=>match e with| .inl f=>(jH F f.2).bind (fun g=>if g.2.1<(q.length:Int) then some ((Ex.mk 0 [] []),(g.2.1,()).1,(6:Int),()) else ck ((oJ F f.1).isSome=true) (if ¬(((oJ F f.1).getD false)=true) then some ((Ex.mk 0 [] []),((0:Int),()).1,(6:Int),()) else some (f.1,(0:Int),(0:Int),())))| .inr z=>some ((Ex.mk 0 [] []),(z).1,(6:Int),()))
@[go_sem]def aFD:Ty:=.pair .str .unit
def aD1(F:Md):aF:=mSpec aFD (.tup (.pair .expr w8)) (fun x=>iR F x.1)
abbrev aFE(F:Md):List (FuncId×aF):=[(41,(aAA F))]
theorem aP0[Mx](F:Md):bF Tryz.prog GL (aFE F):=.cons (aPC F) xN (.nil)
theorem aXr[Mx](F:Md):FOK Tryz.prog GL 13 (aD1 F):=by
 refine aI1 (bA (aP0 F)) Tryz.func13 rfl xN xAa fun w0 S x r J h=>?_;have hF:vG (fr Tryz.prog (EM (aFE F)) S w0 Tryz.f13.ntmps):=⟨bA (aP0 F),mix⟩;obtain⟨(g:qc),u⟩:=x;simp only[aFD,Ty.wf,aHo] at J;simp only[cA,aFD];try dsimp only at h
 replace h:iR F g=some r:=h;unfold iR at h;refine aN (dQ hF [0,2,3,4] (yaA ?_));refine aP (aDM 3 [0,1,2] rfl rfl (Nat.zero_le _) xAa fun roots hroots=>(yaA ?_));have hF:vG { fr Tryz.prog (EM (aFE F)) S w0 Tryz.f13.ntmps with M:=⟨nothing,S,3,roots⟩,ds:=[⟨.fn (.func 38) ([0,1,2].map roots).toArray,#[]⟩] }:=⟨hF.env,mix⟩;refine aN (dQ hF [0,2,3,4,5] (yaA ?_));obtain⟨e,L,h⟩:=bind_some h;rcases e with z|q
 ·try dsimp only at h
  refine aP (aN (cP hF (eX (l:=[(39,⟨(rL F (hZ F 1100)),[3],((g,(0:Int),(0:Int),()),.inl z)⟩)]) (.cons (aA2 F _ (xO F 1100)) xN (.nil))) [0,2,3,4,5] [] (yaE ?_)));obtain⟨f,I,h⟩:=bind_some h;try dsimp only at h
  refine aP (aN (aN (cP hF (eX (l:=[(40,⟨vA F,[3],(z.2,f)⟩)]) (.cons (aEy F) xN (.nil))) [0,2,3,4,5] [] (yaE ?_))));refine aP (aN (aR hF [2,3,4,5,20] (yaA ?_)));refine aP (dF rfl (fun hc=>?_) (fun hc=>?_))
  ·(try simp only[go_sem] at hc);have h:=pI zAC h;refine cP hF (eX (l:=[]) (.nil)) [2,3,4] [] (yaE ?_);obtain rfl:=Option.some.inj h;refine jM (aL (aJ 0 rfl aH) ?_);refine aL (aJ 1 rfl aH) ?_;refine aL (aJ 2 rfl aH) (yaA ?_);refine aFi (fn:=Tryz.f13) (k:=3) (l2:=[0,1,2]) hF rfl rfl xAa rfl (xA xN) ⟨kQ (f.2.1,()),[0,1,2],()⟩ (aEX (f.2.1,())) rfl [.cell 2 40,.cell 3 3,.cell 4 3] rfl ?_ ?_
   ·(simp only[kQ,go_sem])<;>first|decide|trivial
   ·(simp only[kQ,aS,nD,go_sem])<;>first|decide|trivial|rfl|(simp; done)
  ·(try simp only[go_sem] at hc);have h:=oF zAC h;refine eO (aP (aN (aN (aR hF [2,3,4,29] (yaA ?_)))));obtain⟨g0,h⟩:=bG h;(repeat (refine⟨zAA,?_⟩));refine aP (dF rfl (fun hc=>?_) (fun hc=>?_))
   ·(try simp only[go_sem] at hc);have h:=pI zAC h;refine cP hF (eX (l:=[]) (.nil)) [2,3,4] [] (yaE ?_);obtain rfl:=Option.some.inj h;refine jM (aL (aJ 0 rfl aH) ?_);refine aL (aJ 1 rfl aH) ?_;refine aL (aJ 2 rfl aH) (yaA ?_);refine aFi (fn:=Tryz.f13) (k:=3) (l2:=[0,1,2]) hF rfl rfl xAa rfl (xA xN) ⟨kQ ((0:Int),()),[0,1,2],()⟩ (aEX ((0:Int),())) rfl [.cell 2 40,.cell 3 3,.cell 4 3] rfl ?_ ?_
    ·(simp only[kQ,go_sem])<;>first|decide|trivial
    ·(simp only[kQ,aS,nD,go_sem])<;>first|decide|trivial|rfl|(simp; done)
   ·(try simp only[go_sem] at hc);have h:=oF zAC h;refine eO (aP (aN (dQ hF [2,3,4] (yaA ?_))));obtain rfl:=Option.some.inj h;refine aP (iW (aT1 (fn:=Tryz.f13) (k:=3) (l2:=[0,1,2]) hF rfl rfl xAa rfl (xA xN) ⟨aAi,[0,1,2],(z.1,(0:Int),(0:Int),())⟩ aTK rfl [.cell 2 40,.cell 3 3,.cell 4 3] rfl ?_ ?_))
    ·(simp only[aAi,go_sem])<;>first|decide|trivial
    ·(simp only[aAi,aS,nD,go_sem])<;>first|decide|trivial|rfl|(simp; done)
 ·try dsimp only at h
  refine aP (aN (cP hF (eX (l:=[(39,⟨(rL F (hZ F 1100)),[3],((g,(0:Int),(0:Int),()),.inr q)⟩)]) (.cons (aA2 F _ (xO F 1100)) xN (.nil))) [0,2,3,4,5] [] (yaE ?_)));obtain rfl:=Option.some.inj h;refine jM (aL (aJ 0 rfl aH) ?_);refine aL (aJ 1 rfl aH) ?_;refine aL (aJ 2 rfl aH) (yaA ?_);refine aFi (fn:=Tryz.f13) (k:=3) (l2:=[0,1,2]) hF rfl rfl xAa rfl (xA xN) ⟨kQ (q),[0,1,2],()⟩ (aEX (q)) rfl [.cell 2 40,.cell 3 3,.cell 4 3] rfl ?_ ?_
  ·(simp only[kQ,go_sem])<;>first|decide|trivial
  ·(simp only[kQ,aS,nD,go_sem])<;>first|decide|trivial|rfl|(simp; done)
attribute [go_sem] aD1
end
end Nu
end Go.Proofs
namespace Go.Proofs
open Go.Shelf
def Tryz.lays143_ren:Go.Shelf.Ren:=⟨fun|143=>90|219=>91|217=>132|225=>133|224=>134|267=>135|266=>177|314=>178|n=>n,fun|9=>9|3=>3|4=>4|5=>5|46=>179|146=>221|51=>220|n=>n,fun|1=>0|n=>n⟩
theorem Tryz.lays143:Go.Proofs.Lays.n143 Tryz.prog Tryz.lays143_ren:={
 mixed:=by kernel_rfl
 f143:=Tryz.func90.trans (congrArg some (by kernel_rfl))
 f217:=Tryz.func132.trans (congrArg some (by kernel_rfl))
 f219:=Tryz.func91.trans (congrArg some (by kernel_rfl))
 f224:=Tryz.func134.trans (congrArg some (by kernel_rfl))
 f225:=Tryz.func133.trans (congrArg some (by kernel_rfl))
 f266:=Tryz.func177.trans (congrArg some (by kernel_rfl))
 f267:=Tryz.func135.trans (congrArg some (by kernel_rfl))
 f314:=Tryz.func178.trans (congrArg some (by kernel_rfl))
 t3:=Tryz.underlying3
 a3:=Tryz.isAgg3
 z3:=Tryz.sizeOf3
 v3:=Tryz.zeroValue3
 t4:=Tryz.underlying4
 a4:=Tryz.isAgg4
 z4:=Tryz.sizeOf4
 v4:=Tryz.zeroValue4
 t5:=Tryz.underlying5
 a5:=Tryz.isAgg5
 z5:=Tryz.sizeOf5
 v5:=Tryz.zeroValue5
 t9:=Tryz.underlying9
 a9:=Tryz.isAgg9
 z9:=Tryz.sizeOf9
 v9:=Tryz.zeroValue9
 t46:=Tryz.underlying179
 a46:=Tryz.isAgg179
 z46:=Tryz.sizeOf179
 v46:=Tryz.zeroValue179
 t51:=Tryz.underlying220
 a51:=Tryz.isAgg220
 z51:=Tryz.sizeOf220
 v51:=Tryz.zeroValue220
 t146:=Tryz.underlying221
 a146:=Tryz.isAgg221
 z146:=Tryz.sizeOf221
 v146:=Tryz.zeroValue221
 g1:=by kernel_rfl }
def Tryz.lays145_ren:Go.Shelf.Ren:=⟨fun|145=>17|220=>43|219=>91|217=>132|225=>133|224=>134|267=>135|266=>177|314=>178|n=>n,fun|9=>9|4=>4|59=>48|3=>3|5=>5|46=>179|146=>221|51=>220|n=>n,fun|1=>0|n=>n⟩
theorem Tryz.lays145:Go.Proofs.Lays.n145 Tryz.prog Tryz.lays145_ren:={
 mixed:=by kernel_rfl
 f145:=Tryz.func17.trans (congrArg some (by kernel_rfl))
 f217:=Tryz.func132.trans (congrArg some (by kernel_rfl))
 f219:=Tryz.func91.trans (congrArg some (by kernel_rfl))
 f220:=Tryz.func43.trans (congrArg some (by kernel_rfl))
 f224:=Tryz.func134.trans (congrArg some (by kernel_rfl))
 f225:=Tryz.func133.trans (congrArg some (by kernel_rfl))
 f266:=Tryz.func177.trans (congrArg some (by kernel_rfl))
 f267:=Tryz.func135.trans (congrArg some (by kernel_rfl))
 f314:=Tryz.func178.trans (congrArg some (by kernel_rfl))
 t3:=Tryz.underlying3
 a3:=Tryz.isAgg3
 z3:=Tryz.sizeOf3
 v3:=Tryz.zeroValue3
 t4:=Tryz.underlying4
 a4:=Tryz.isAgg4
 z4:=Tryz.sizeOf4
 v4:=Tryz.zeroValue4
 t5:=Tryz.underlying5
 a5:=Tryz.isAgg5
 z5:=Tryz.sizeOf5
 v5:=Tryz.zeroValue5
 t9:=Tryz.underlying9
 a9:=Tryz.isAgg9
 z9:=Tryz.sizeOf9
 v9:=Tryz.zeroValue9
 t46:=Tryz.underlying179
 a46:=Tryz.isAgg179
 z46:=Tryz.sizeOf179
 v46:=Tryz.zeroValue179
 t51:=Tryz.underlying220
 a51:=Tryz.isAgg220
 z51:=Tryz.sizeOf220
 v51:=Tryz.zeroValue220
 t59:=Tryz.underlying48
 a59:=Tryz.isAgg48
 z59:=Tryz.sizeOf48
 v59:=Tryz.zeroValue48
 t146:=Tryz.underlying221
 a146:=Tryz.isAgg221
 z146:=Tryz.sizeOf221
 v146:=Tryz.zeroValue221
 g1:=by kernel_rfl }
def Tryz.lays146_ren:Go.Shelf.Ren:=⟨fun|146=>16|221=>42|268=>88|138=>89|143=>90|195=>129|197=>130|218=>131|219=>91|260=>176|217=>132|225=>133|224=>134|267=>135|266=>177|314=>178|n=>n,fun|9=>9|31=>22|3=>3|4=>4|0=>0|105=>154|21=>21|5=>5|46=>179|119=>239|139=>242|138=>241|146=>221|51=>220|n=>n,fun|1=>0|3=>2|4=>3|n=>n⟩
theorem Tryz.lays146:Go.Proofs.Lays.n146 Tryz.prog Tryz.lays146_ren:={
 mixed:=by kernel_rfl
 f138:=Tryz.func89.trans (congrArg some (by kernel_rfl))
 f143:=Tryz.func90.trans (congrArg some (by kernel_rfl))
 f146:=Tryz.func16.trans (congrArg some (by kernel_rfl))
 f195:=Tryz.func129.trans (congrArg some (by kernel_rfl))
 f197:=Tryz.func130.trans (congrArg some (by kernel_rfl))
 f217:=Tryz.func132.trans (congrArg some (by kernel_rfl))
 f218:=Tryz.func131.trans (congrArg some (by kernel_rfl))
 f219:=Tryz.func91.trans (congrArg some (by kernel_rfl))
 f221:=Tryz.func42.trans (congrArg some (by kernel_rfl))
 f224:=Tryz.func134.trans (congrArg some (by kernel_rfl))
 f225:=Tryz.func133.trans (congrArg some (by kernel_rfl))
 f260:=Tryz.func176.trans (congrArg some (by kernel_rfl))
 f266:=Tryz.func177.trans (congrArg some (by kernel_rfl))
 f267:=Tryz.func135.trans (congrArg some (by kernel_rfl))
 f268:=Tryz.func88.trans (congrArg some (by kernel_rfl))
 f314:=Tryz.func178.trans (congrArg some (by kernel_rfl))
 t0:=Tryz.underlying0
 a0:=Tryz.isAgg0
 z0:=Tryz.sizeOf0
 v0:=Tryz.zeroValue0
 t3:=Tryz.underlying3
 a3:=Tryz.isAgg3
 z3:=Tryz.sizeOf3
 v3:=Tryz.zeroValue3
 t4:=Tryz.underlying4
 a4:=Tryz.isAgg4
 z4:=Tryz.sizeOf4
 v4:=Tryz.zeroValue4
 t5:=Tryz.underlying5
 a5:=Tryz.isAgg5
 z5:=Tryz.sizeOf5
 v5:=Tryz.zeroValue5
 t9:=Tryz.underlying9
 a9:=Tryz.isAgg9
 z9:=Tryz.sizeOf9
 v9:=Tryz.zeroValue9
 t21:=Tryz.underlying21
 a21:=Tryz.isAgg21
 z21:=Tryz.sizeOf21
 v21:=Tryz.zeroValue21
 t31:=Tryz.underlying22
 a31:=Tryz.isAgg22
 z31:=Tryz.sizeOf22
 v31:=Tryz.zeroValue22
 t46:=Tryz.underlying179
 a46:=Tryz.isAgg179
 z46:=Tryz.sizeOf179
 v46:=Tryz.zeroValue179
 t51:=Tryz.underlying220
 a51:=Tryz.isAgg220
 z51:=Tryz.sizeOf220
 v51:=Tryz.zeroValue220
 t105:=Tryz.underlying154
 a105:=Tryz.isAgg154
 z105:=Tryz.sizeOf154
 v105:=Tryz.zeroValue154
 t119:=Tryz.underlying239
 a119:=Tryz.isAgg239
 z119:=Tryz.sizeOf239
 t138:=Tryz.underlying241
 a138:=Tryz.isAgg241
 z138:=Tryz.sizeOf241
 v138:=Tryz.zeroValue241
 t139:=Tryz.underlying242
 a139:=Tryz.isAgg242
 z139:=Tryz.sizeOf242
 v139:=Tryz.zeroValue242
 t146:=Tryz.underlying221
 a146:=Tryz.isAgg221
 z146:=Tryz.sizeOf221
 v146:=Tryz.zeroValue221
 g1:=by kernel_rfl
 g3:=by kernel_rfl
 g4:=by kernel_rfl }
open Go.Vc
set_option maxRecDepth 20000
namespace Nu
noncomputable section
def aGk(sub:List Nat):List Nat→Option Nat
 | []=>if sub.isEmpty then some 0 else none
 | b::l=>if sub.isPrefixOf (b::l) then some 0 else match aGk sub l with
  | none=>none
  | some i=>some (i+1)
def aZL(sep:List Nat):Nat→List Nat→List qc
 | 0,s=>[s]
 | k+1,s=>match aGk sep s with
  | none=>[s]
  | some i=>s.take i::aZL sep k (s.drop (i+sep.length))
def aHO(s sub:List Nat):Int:=match aGk sub s with
 | none=> -1
 | some i=>(i:Int)
def wS(s sep:List Nat):List Nat×List Nat×Bool×Unit:=match aGk sep s with
 | none=>(s,[],false,())
 | some i=>(s.take i,s.drop (i+sep.length),true,())
def tN(s sep:List Nat):List qc:=aZL sep s.length s
abbrev nts(l:List UInt8):List Nat:=l.map (·.toNat)
theorem aV7:∀(t s:List UInt8),(nts t).isPrefixOf (nts s)=t.isPrefixOf s
 | [],s=>by cases s<;>rfl
 | a::t,[]=>rfl
 | a::t,b::s=>by
  have f:=aV7 t s;simp only[nts,List.map_cons,List.isPrefixOf] at f ⊢;rw[f]
  congr 1
  by_cases h:a=b
  ·subst h; simp
  ·have:a.toNat≠b.toNat:=fun e=>h (UInt8.toNat_inj.1 e);rw[beq_false_of_ne h,beq_false_of_ne this]
theorem aMq(t:List UInt8):∀s:List UInt8,Lib.index s t=match aGk (nts t) (nts s) with
  | none=> -1
  | some i=>(i:Int)
 | []=>by
  cases t<;>rfl
 | b::s=>by
  have f:=aMq t s;have e:=aV7 t (b::s);simp only[nts,List.map_cons] at e f ⊢;rw[Lib.index,aGk,e];by_cases hp:t.isPrefixOf (b::s)=true
  ·simp[hp]
  ·rw[if_neg hp,if_neg hp,f];cases aGk (t.map (·.toNat)) (s.map (·.toNat)) with
   | none=>rfl
   | some i =>
    have:((i:Int) == -1)=false:=by
     rw[beq_eq_false_iff_ne]; omega
    simp only[this];simp
theorem aV8(t:List UInt8)(ht:t≠ []):∀(k:Nat) (s:List UInt8),Lib.count s t≤k→(Lib.splitK t 0 (Lib.count s t) s).map nts=aZL (nts t) k (nts s)
 | k,s,q=>by
  have hi:=aMq t s;cases f:aGk (nts t) (nts s) with
  | none =>
   rw[f] at hi;rw[Lib.count_miss hi];cases k with
   | zero=>rfl
   | succ k=>rw[aZL,f]; rfl
  | some i =>
   rw[f] at hi;have hc:=Lib.count_hit ht hi;cases k with
   | zero=>omega
   | succ k =>
    have g:=aV8 t ht k (s.drop (i+t.length)) (by omega);rw[aZL,f,hc,Nat.add_comm 1,Lib.splitK];have hi:Lib.index s t=(i:Int):=hi;have:(Lib.index s t == -1)=false:=(by rw[hi,beq_eq_false_iff_ne]; omega);rw[this,hi];simp only[Bool.false_eq_true,if_false,List.map_cons,Int.toNat_natCast,Nat.add_zero];rw[g];simp[nts,List.map_take,List.map_drop]
def aXs(s sep:List Nat):Prop:=s.length<4294967281∧1≤sep.length
instance (s sep:List Nat):Decidable (aXs s sep):=by unfold aXs; infer_instance
theorem aRH[Mx]{S:Nat→Prop}{w:World}[Mx](q:uB GL S w):w.cell? ⟨0,0,none⟩=some (.int .i64 Mx.v):=by
 have h:=(q 0).1;rw[GLm] at h;simp only[aM] at h;obtain⟨b,off,ds,g,I,f,z⟩:=h;simp only[Value.cells,List.cons.injEq,and_true] at g;cases g;simp only[bB] at f;exact z 0 (.int .i64 Mx.v) (by rw[f.1]; rfl)
theorem aRI{w:World}{S:Nat→Prop}{vs:Array Value}{a b:List Nat}(h:sC w S qj (a,b,()) vs.toList):∃s t:ByteArray,vs= #[.string s,.string t]∧aQ s=a∧aQ t=b:=by
 obtain⟨v1,r1,e1,q,I,J,z,g,f⟩:=h;have f:J= []:=f;have q:bB w S .str a [v1]:=q;have g:bB w S .str b [I]:=g;obtain⟨s,N,hs,_⟩:=q;obtain⟨t,L,ht,_⟩:=g;refine⟨s,t,?_,hs,ht⟩;rw[← Array.toList_inj,e1,z,f,(List.cons.inj N).1,(List.cons.inj L).1]
theorem bEz{w:World}{S:Nat→Prop}{l:List UInt8}(f:l.length≤maxLen):dV w S .str (l.map (·.toNat)) (.string ⟨l.toArray⟩):=by
 unfold dV;rw[if_neg (by simp[Ty.isAgg])];exact⟨_,rfl,by simp[aQ],f⟩
@[go_sem]def aJ7:Ty:=.pair .str wq
@[go_sem]def aAH:aF:=⟨aJ7,.one qg,fun x=>aXs x.1 x.2.1,fun x=>aHO x.1 x.2.1⟩
theorem aRJ[Mx]:FOK Tryz.prog GL 90 aAH:=by
 rintro w S O ⟨(a:List Nat),(b:List Nat),u⟩ N I J ⟨q,U⟩;have q:a.length<4294967281:=q;obtain⟨s,t,rfl,hs,ht⟩:=aRI J;have g:s.size<4294967281:=by
  have:s.size=a.length:=by rw[← hs]; simp[aQ]
  omega
 refine Calls.mono (f:=90) (Any.strings_Index Tryz.lays143 s t Mx.v w g (aRH I)) ?_;rintro e w' ⟨rfl,rfl⟩;refine⟨_,rfl,.refl _ _,?_⟩;show dV w' _ qg (aHO a b) _;unfold dV;rw[if_neg (by simp[Ty.isAgg])];have L:aHO a b=Lib.index s.data.toList t.data.toList:=by
  subst hs ht;exact(aMq t.data.toList s.data.toList).symm
 rw[L];refine⟨rfl,rfl,?_,?_⟩
 ·have hm:IntKind.i64.min= -9223372036854775808:=by decide
  have:=Lib.index_ge s.data.toList t.data.toList;show (IntKind.i64.min:Int)≤Lib.index s.data.toList t.data.toList;rw[hm]; omega
 ·have hm:IntKind.i64.max=9223372036854775807:=by decide
  have z:∀(l m:List UInt8),Lib.index l m≤l.length:=fun l m=>by
   induction l with
   | nil=>unfold Lib.index; split<;>decide
   | cons b l Y =>
    unfold Lib.index;split
    ·simp; omega
    ·split
     ·simp; omega
     ·simp; omega
  have:=z s.data.toList t.data.toList;have e:s.data.toList.length=s.size:=rfl;show (Lib.index s.data.toList t.data.toList:Int)≤IntKind.i64.max;rw[hm]; omega
@[go_sem]def aNp:Ty:=.pair .str wq
@[go_sem]def qF:aF:=⟨aNp,.tup (.pair .str (.pair .str vf)),fun x=>aXs x.1 x.2.1,fun x=>wS x.1 x.2.1⟩
theorem aGl[Mx]:FOK Tryz.prog GL 17 qF:=by
 rintro w S O ⟨(a:List Nat),(b:List Nat),u⟩ N J L ⟨I,U⟩;have I:a.length<4294967281:=I;obtain⟨s,t,rfl,hs,ht⟩:=aRI L;have z:s.size<4294967281:=by
  have:s.size=a.length:=by rw[← hs]; simp[aQ]
  omega
 refine Calls.mono (f:=17) (Any.strings_Cut Tryz.lays145 s t Mx.v w z (aRH J)) ?_;rintro e w' ⟨rfl,n,rfl⟩;have g:(Lib.cut s.data.toList t.data.toList).1.length≤s.size∧(Lib.cut s.data.toList t.data.toList).2.1.length≤s.size:=by
  have e:s.data.toList.length=s.size:=rfl;unfold Lib.cut;split
  ·simp only[List.length_take,List.length_drop,e]; omega
  ·simp only[List.length_nil,e]; omega
 have hm:s.size≤maxLen:=by unfold maxLen; omega
 refine⟨_,rfl,⟨rfl,rfl,rfl,Nat.le_refl _,fun _ _ _=>rfl⟩,[_,_,_],rfl,?_⟩;show sC _ _ (.pair .str (.pair .str vf)) (wS a b) _;have q:wS a b=(nts (Lib.cut s.data.toList t.data.toList).1,nts (Lib.cut s.data.toList t.data.toList).2.1,(Lib.cut s.data.toList t.data.toList).2.2,()):=by
  subst hs ht;have hi:=aMq t.data.toList s.data.toList;show wS (nts s.data.toList) (nts t.data.toList)=_;unfold wS Lib.cut;cases q:aGk (nts t.data.toList) (nts s.data.toList) with
  | none=>rw[q] at hi; replace hi:Lib.index s.data.toList t.data.toList= -1:=hi; rw[if_neg (by omega)]; rfl
  | some i=>rw[q] at hi; replace hi:Lib.index s.data.toList t.data.toList=(i:Int):=hi; rw[if_pos (by omega)]; simp[hi,nts,List.map_take,List.map_drop]
 rw[q];exact⟨_,_,rfl,bEz (Nat.le_trans g.1 hm),_,_,rfl,bEz (Nat.le_trans g.2 hm),_,_,rfl,by unfold dV; rw[if_neg (by simp[Ty.isAgg])]; rfl,rfl⟩
theorem aSP(sep:ByteArray):∀(k:Nat) (s x:ByteArray),x∈Lib.splitB sep 0 k s→x.size≤s.size
 | 0,s,x,h=>by
  rw[Lib.splitB] at h;rw[List.mem_singleton.1 h];exact Nat.le_refl _
 | k+1,s,x,h=>by
  rw[Lib.splitB] at h;split at h
  ·rw[List.mem_singleton.1 h]; exact Nat.le_refl _
  ·rcases List.mem_cons.1 h with rfl|h
   ·rw[ByteArray.size_extract]; omega
   ·refine Nat.le_trans (aSP sep k _ x h) ?_;rw[ByteArray.size_extract]; omega
@[go_sem]def aJ8:Ty:=.pair .str wq
@[go_sem]def aAI:aF:=⟨aJ8,.one wo,fun x=>aXs x.1 x.2.1,fun x=>tN x.1 x.2.1⟩
theorem aRK[Mx]:FOK Tryz.prog GL 16 aAI:=by
 rintro w S vs ⟨(a:List Nat),(b:List Nat),u⟩ hS hG ha ⟨Y,U⟩;have Y:a.length<4294967281:=Y;have U:1≤b.length:=U;obtain⟨s,t,rfl,hs,ht⟩:=aRI ha;have hsz:s.size=a.length:=by rw[← hs]; simp[aQ]
 have htz:t.size=b.length:=by rw[← ht]; simp[aQ]
 have q:=Lib.splitB_all t (by omega) 0 _ s rfl;have O:Lib.countB s t≤s.size:=Lib.countB_le t (by omega) s.size s (Nat.le_refl _);refine Calls.mono (f:=16) (Any.strings_Split Tryz.lays146 (by rfl) s t Mx.v w (by omega) (aRH hG) (by omega)) ?_;rintro e w' ⟨rfl,rfl⟩;refine⟨_,rfl,jB.alloc nothing w _,?_⟩;show dV _ _ wo (tN a b) _;unfold dV;rw[if_neg (by simp[Ty.isAgg])];have hx:tN a b=(Lib.splitB t 0 (Lib.countB s t) s).map aQ:=by
  have Z:1≤t.size:=by omega
  have N:t.data.toList≠ []:=fun e=>by
   have e2:t.data.toList.length=t.size:=rfl;rw[e,List.length_nil] at e2;omega
  have h1:=Lib.splitB_data t 0 (Lib.countB s t) s;have h2:=aV8 t.data.toList N s.size s.data.toList O;subst hs ht;have e:(aQ s).length=s.size:=by simp[aQ]
  unfold tN;rw[e];show aZL (nts t.data.toList) s.size (nts s.data.toList)=_;rw[← h2];show (Lib.splitK t.data.toList 0 (Lib.countB s t) s.data.toList).map nts=_;rw[← h1,List.map_map];rfl
 rw[hx];have g:∀o:Go.Obj,w.heap.size<(w.alloc o).heap.size:=fun o=>by show w.heap.size<(w.heap.push o).size; rw[Array.size_push]; omega
 have z:∀o:Go.Obj,(w.alloc o).heap[w.heap.size]? = some o:=fun o=>by show (w.heap.push o)[w.heap.size]? = some o; rw[Array.getElem?_push,if_pos rfl]
 refine⟨_,_,_,rfl,by rw[List.length_map,q],Nat.le_refl _,by unfold maxLen; omega,.inr ⟨w.heap.size,0,rfl,.inr ⟨Nat.le_refl _,g _⟩,fun i hi=>?_⟩⟩;have I:i<(Lib.splitB t 0 (Lib.countB s t) s).length:=by simpa using hi
 refine⟨[.string (Lib.splitB t 0 (Lib.countB s t) s)[i]],⟨_,rfl,by simp,?_⟩,fun j v L=>?_⟩
 ·have:=aSP t _ s _ (List.getElem_mem I);unfold maxLen; omega
 ·have J:j=0:=by
   rcases Nat.lt_or_ge j 1 with h|h
   ·omega
   ·rw[List.getElem?_eq_none (by simpa using h)] at L; cases L
  subst J;have hv:v= .string (Lib.splitB t 0 (Lib.countB s t) s)[i]:=by simpa using L.symm
  subst hv;have hc:((Lib.splitB t 0 (Lib.countB s t) s).map Value.string).toArray[i]? = some (.string (Lib.splitB t 0 (Lib.countB s t) s)[i]):=by
   simp[I]
  rw[Lib.cell_of_heap (z _),show 0+i*Ty.str.cells+0=i from by simp[Ty.cells]];exact hc
set_option maxHeartbeats 4000000
attribute [-go_sem] Ex.kind Ex.text Ex.l
def cD(F:Md)(f:qc)(cutset_1:qc):Option qc :=
 if (f=(aQ ⟨#[]⟩))∨(cutset_1=(aQ ⟨#[]⟩)) then some f else ck (((cutset_1.length:Int)=(1:Int))→((0:Int)<(cutset_1.length:Int))) (if ((cutset_1.length:Int)=(1:Int))∧((cutset_1.getD (0:Nat) (0:Nat))<(128:Nat)) then ck ((0:Int)<(cutset_1.length:Int)) ((fJ F f (cutset_1.getD (0:Nat) (0:Nat))).bind (fun v_8=>some v_8)) else (cT F cutset_1).bind (fun v_13=>if v_13.2.1=true then (cV F f v_13.1).bind (fun v_17=>some v_17) else none))
def aFa:PlR:=⟨[(0,.A [0,1]),(1,.A [0,1,12]),(2,.A [4]),(3,.A [0,1,21]),(4,.A [4]),(5,.B [0,1,5,6]),(6,.A [0,1,5,31]),(7,.A [4]),(8,.stop)],[],[]⟩
def aGm:Ty:=.pair .str wq
def oE(F:Md):aF:=mSpec aGm (.one .str) (fun x=>cD F x.1 x.2.1)
abbrev xP(F:Md):List (FuncId×aF):=[(45,(gA F)),(95,(kA F)),(96,(iZ F))]
theorem aOk[Mx](F:Md):bF Tryz.prog GL (xP F):=.cons (wA F) xN (.cons (aB7 F) xN (.cons (aBe F) xN (.nil)))
attribute [go_sem] aGm aFa
theorem aFb[Mx](F:Md):FOK Tryz.prog GL 48 (oE F):=by
 refine bP (bA (aOk F)) mix Tryz.func48 rfl xN xAa aFa (fun w0 S x Θ g h hV=>?_);obtain⟨(f:qc),(cutset_1:qc),u⟩:=x;simp only[cA,go_sem];replace h:sat (cD F f cutset_1) _:=h;unfold cD at h;exact zaR
attribute [go_sem] oE
def gD(F:Md)(f:qc)(cutset_1:qc):Option qc :=
 if (f=(aQ ⟨#[]⟩))∨(cutset_1=(aQ ⟨#[]⟩)) then some f else ck (((cutset_1.length:Int)=(1:Int))→((0:Int)<(cutset_1.length:Int))) (if ((cutset_1.length:Int)=(1:Int))∧((cutset_1.getD (0:Nat) (0:Nat))<(128:Nat)) then ck ((0:Int)<(cutset_1.length:Int)) ((eY F f (cutset_1.getD (0:Nat) (0:Nat))).bind (fun v_8=>some v_8)) else (cT F cutset_1).bind (fun v_13=>if v_13.2.1=true then (cS F f v_13.1).bind (fun v_17=>some v_17) else none))
def aEE:PlR:=⟨[(0,.A [0,1]),(1,.A [0,1,12]),(2,.A [4]),(3,.A [0,1,21]),(4,.A [4]),(5,.B [0,1,5,6]),(6,.A [0,1,5,31]),(7,.A [4]),(8,.stop)],[],[]⟩
def aFc:Ty:=.pair .str wq
def vB(F:Md):aF:=mSpec aFc (.one .str) (fun x=>gD F x.1 x.2.1)
abbrev vT(F:Md):List (FuncId×aF):=[(44,(iY F)),(45,(gA F)),(46,(iM F))]
theorem aMK[Mx](F:Md):bF Tryz.prog GL (vT F):=.cons (aBa F) xN (.cons (wA F) xN (.cons (aAQ F) xN (.nil)))
attribute [go_sem] aFc aEE
theorem aLP[Mx](F:Md):FOK Tryz.prog GL 18 (vB F):=by
 refine bP (bA (aMK F)) mix Tryz.func18 rfl xN xAa aEE (fun w0 S x Θ g h hV=>?_);obtain⟨(f:qc),(cutset_1:qc),u⟩:=x;simp only[cA,go_sem];replace h:sat (gD F f cutset_1) _:=h;unfold gD at h;exact zaR
attribute [go_sem] vB
def iP(F:Md)(f:qc)(prefix_1:qc):Option qc :=
 (fM F f prefix_1).bind (fun v_8=>if v_8=true then ck (0≤(prefix_1.length:Int)∧(prefix_1.length:Int)≤(f.length:Int)) (some (List.drop (prefix_1.length) f)) else some f)
def aAj:PlR:=⟨[(0,.A [0,1]),(1,.A [0,1,7]),(2,.A [4]),(3,.A [4])],[],[]⟩
def aAY:Ty:=.pair .str wq
def oA(F:Md):aF:=mSpec aAY (.one .str) (fun x=>iP F x.1 x.2.1)
abbrev aAZ(F:Md):List (FuncId×aF):=[(206,(iO F))]
theorem aGO[Mx](F:Md):bF Tryz.prog GL (aAZ F):=.cons (aAU F) xN (.nil)
attribute [go_sem] aAY aAj
theorem aGn[Mx](F:Md):FOK Tryz.prog GL 204 (oA F):=by
 refine bP (bA (aGO F)) mix Tryz.func204 rfl xN xAa aAj (fun w0 S x Θ g h hV=>?_);obtain⟨(f:qc),(prefix_1:qc),u⟩:=x;simp only[cA,go_sem];replace h:sat (iP F f prefix_1) _:=h;unfold iP at h;refine aB h fun v_8 hv h=>?_;try simp only[hv,go_sem]
 refine aH2 h (fun hc h=>?_) fun hc h=>?_
 ·refine aK h fun g0 h=>?_;exact zaD
 ·exact aG hV [.tmp 4] rfl rfl rfl (aA h) xAc
attribute [go_sem] oA
def mW(F:Md)(g:qc)(prefix_1:qc):Option qc :=
 (iP F g prefix_1).bind (fun f=>some f)
def aDn:PlR:=⟨[(0,.A [0,1]),(1,.A [4])],[],[]⟩
def aEG:Ty:=.pair .str wq
def tW(F:Md):aF:=mSpec aEG (.one .str) (fun x=>mW F x.1 x.2.1)
abbrev aEH(F:Md):List (FuncId×aF):=[(204,(oA F))]
theorem aLQ[Mx](F:Md):bF Tryz.prog GL (aEH F):=.cons (aGn F) xN (.nil)
attribute [go_sem] aEG aDn
theorem aKC[Mx](F:Md):FOK Tryz.prog GL 185 (tW F):=by
 refine bP (bA (aLQ F)) mix Tryz.func185 rfl xN xAa aDn (fun w0 S x Θ q h hV=>?_);obtain⟨(f:qc),(prefix_1:qc),u⟩:=x;simp only[cA,go_sem];replace h:sat (mW F f prefix_1) _:=h;unfold mW at h;refine aB h fun g hv h=>?_;exact zao
attribute [go_sem] tW
def iV(F:Md)(g:qc):Option Bool :=
 (mW F g (aQ ⟨#[45]⟩)).bind (fun v_8=>(rC F v_8).bind (fun f=>some f))
def aJ9:PlR:=⟨[(0,.A [0]),(1,.A [2])],[],[]⟩
def aLR:Ty:=.pair .str .unit
def aBz(F:Md):aF:=mSpec aLR (.one .bool) (fun x=>iV F x.1)
abbrev aGo(F:Md):List (FuncId×aF):=[(100,(wX F)),(185,(tW F))]
theorem aV9[Mx](F:Md):bF Tryz.prog GL (aGo F):=.cons (aLo F) xN (.cons (aKC F) xN (.nil))
attribute [go_sem] aLR aJ9
theorem aTM[Mx](F:Md):FOK Tryz.prog GL 140 (aBz F):=by
 refine bP (bA (aV9 F)) mix Tryz.func140 rfl xN xAa aJ9 (fun w0 S x Θ q h hV=>?_);obtain⟨(f:qc),u⟩:=x;simp only[cA,go_sem];replace h:sat (iV F f) _:=h;unfold iV at h;refine aB h fun v_8 hv h=>?_;try simp only[hv,go_sem]
 refine aB h fun g hv h=>?_;try simp only[hv,go_sem]
 exact zaF
attribute [go_sem] aBz
def iI(F:Md)(f:qo):Option (qo⊕wc) :=
 some (.inr ((f.1,(1:Int),()),()))
def aBK(F:Md):fQ where
 D:=qo×(qo⊕wc)
 av:=fun d=>[.ptr 0 []]
 hp:=fun d=>[.box 3 (.val qk d.1)]
 m:=1
 pre:=fun d=>iI F d.1=some d.2
 out:=fun d=>match d.2 with| .inl r=>.ret (.tup []) [.box 3 (.val qk (r))]| .inr p=>.pan ⟨45,wg,p⟩ [.box 3 (.junk)]
@[go_sem]def xQ(F:Md)(vs:List AV)(h:List Vc.Obj):Hit:=mkH (iI F (eM h (fY vs 0) qk)) (.inr (((0:Int),(0:Int),()),())) fun r=>⟨(aBK F),[(fY vs 0)],((eM h (fY vs 0) qk),r)⟩
def aGp:PlR:=⟨[(0,.P [] [])],[],[]⟩
abbrev aP1(F:Md):List (FuncId×aF):=[]
theorem aP2[Mx](F:Md):bF Tryz.prog GL (aP1 F):=.nil
attribute [go_sem] aGp aBK
theorem aBL[Mx](F:Md):GOK Tryz.prog GL 56 (aBK F):=by
 refine kG (bA (aP2 F)) mix Tryz.func56 rfl xN (fun _=>Nat.le_of_ble_eq_true rfl) aGp (fun q w0 d z g h hV=>?_);obtain⟨(f:qo),r⟩:=d;have hF:=hV.fr;replace h:=kH (show iI F f=some r from h);simp only[vH,List.map_cons,List.map_nil,go_sem];unfold iI at h;obtain rfl:=aO h;exact zaH
def cG(F:Md)(g:Bool)(f:qo):Option (qo⊕wc) :=
 if ¬(g=true) then (iI F f).bind (fun e=>match e with| .inl z=>some (.inl z)| .inr q=>some (.inr q)) else some (.inl f)
def aBM(F:Md):fQ where
 D:=Bool×qo×(qo⊕wc)
 av:=fun d=>[.ptr 0 [],.val .bool d.1]
 hp:=fun d=>[.box 3 (.val qk d.2.1)]
 m:=1
 pre:=fun d=>cG F d.1 d.2.1=some d.2.2
 out:=fun d=>match d.2.2 with| .inl r=>.ret (.tup []) [.box 3 (.val qk (r))]| .inr p=>.pan ⟨45,wg,p⟩ [.box 3 (.junk)]
@[go_sem]def gT(F:Md)(vs:List AV)(h:List Vc.Obj):Hit:=mkH (cG F (qV h vs 1 .bool) (eM h (fY vs 0) qk)) (.inr (((0:Int),(0:Int),()),())) fun r=>⟨(aBM F),[(fY vs 0)],((qV h vs 1 .bool),(eM h (fY vs 0) qk),r)⟩
def aGq(F:Md):PlR:=⟨[(0,.A [0,5]),(1,.P [] [])],[],[(56,xQ F)]⟩
abbrev aP3(F:Md):List (FuncId×aF):=[]
theorem aP4[Mx](F:Md):bF Tryz.prog GL (aP3 F):=.nil
attribute [go_sem] aGq aBM
theorem iS[Mx](F:Md):GOK Tryz.prog GL 53 (aBM F):=by
 refine kG (bA (aP4 F)) mix Tryz.func53 rfl xN (fun _=>Nat.le_of_ble_eq_true rfl) (aGq F) (fun J w0 d L z h hV=>?_) (.cons (fun _ _=>(aBL F)) xN (.nil));obtain⟨(f:Bool),(g:qo),r⟩:=d;have hF:=hV.fr;replace h:=kH (show cG F f g=some r from h);simp only[vH,List.map_cons,List.map_nil,go_sem];unfold cG at h;refine aA1 h (fun hc h=>?_) fun hc h=>?_
 ·refine aB h fun e hv h=>?_;rcases e with I|q
  ·(try dsimp only at h);exact zaL
  ·(try dsimp only at h);exact zap
 ·obtain rfl:=aO h;exact zas
def dP(F:Md)(f:qo):Option (qc×qo) :=
 ck (0≤f.2.1∧f.2.1≤(f.2.2.1.length:Int)) (ck ((cD F (List.drop (f.2.1.toNat) f.2.2.1) (aQ ⟨#[32]⟩)).isSome=true) (ck (aXs ((cD F (List.drop (f.2.1.toNat) f.2.2.1) (aQ ⟨#[32]⟩)).getD ([]:List Nat)) (aQ ⟨#[32]⟩)) (some ((wS ((cD F (List.drop (f.2.1.toNat) f.2.2.1) (aQ ⟨#[32]⟩)).getD ([]:List Nat)) (aQ ⟨#[32]⟩)).1,f))))
def xR(F:Md):fQ where
 D:=qo×(qc×qo)
 av:=fun d=>[.ptr 0 []]
 hp:=fun d=>[.box 3 (.val qk d.1)]
 m:=1
 pre:=fun d=>dP F d.1=some d.2
 out:=fun d=>(fun r:(qc×qo)=>.ret (.val .str r.1) [.box 3 (.val qk r.2)]) d.2
@[go_sem]def tO(F:Md)(vs:List AV)(h:List Vc.Obj):Hit:=mkH (dP F (eM h (fY vs 0) qk)) (([]:List Nat),(0:Int),(0:Int),([]:List Nat),()) fun r=>⟨(xR F),[(fY vs 0)],((eM h (fY vs 0) qk),r)⟩
def aGr:PlR:=⟨[(0,.A [0]),(1,.A [3]),(2,.A [4]),(3,.A [2])],[],[]⟩
abbrev aCZ(F:Md):List (FuncId×aF):=[(17,qF),(48,(oE F))]
theorem aP5[Mx](F:Md):bF Tryz.prog GL (aCZ F):=.cons aGl xN (.cons (aFb F) xN (.nil))
attribute [go_sem] aGr xR
theorem tP[Mx](F:Md):GOK Tryz.prog GL 19 (xR F):=by
 refine kG (bA (aP5 F)) mix Tryz.func19 rfl xN (fun _=>Nat.le_of_ble_eq_true rfl) aGr (fun q w0 d z g h hV=>?_);obtain⟨(f:qo),r⟩:=d;have hF:=hV.fr;replace h:=kH (show dP F f=some r from h);simp only[vH,List.map_cons,List.map_nil,go_sem];unfold dP at h;refine aK h fun g0 h=>aK h fun g1 h=>?_;refine aK h fun g0 h=>?_;exact zar
def cK(F:Md)(q:qo):Option ((qc×qo)⊕wc) :=
 (dP F q).bind (fun g=>(cG F (!(decide (g.1=(aQ ⟨#[]⟩)))) g.2).bind (fun e=>match e with| .inl f=>ck (0≤f.2.1∧f.2.1≤(f.2.2.1.length:Int)) (ck (aXs (List.drop (f.2.1.toNat) f.2.2.1) g.1) (ck (I64 (f.2.1+(aHO (List.drop (f.2.1.toNat) f.2.2.1) g.1))) (ck (I64 ((f.2.1+(aHO (List.drop (f.2.1.toNat) f.2.2.1) g.1))+(g.1.length:Int))) (some (.inl (g.1,f.1,((f.2.1+(aHO (List.drop (f.2.1.toNat) f.2.2.1) g.1))+(g.1.length:Int)),f.2.2.1,()))))))| .inr z=>some (.inr z)))
def aBN(F:Md):fQ where
 D:=qo×((qc×qo)⊕wc)
 av:=fun d=>[.ptr 0 []]
 hp:=fun d=>[.box 3 (.val qk d.1)]
 m:=1
 pre:=fun d=>cK F d.1=some d.2
 out:=fun d=>match d.2 with| .inl r=>.ret (.val .str r.1) [.box 3 (.val qk r.2)]| .inr p=>.pan ⟨45,wg,p⟩ [.box 3 (.junk)]
@[go_sem]def gU(F:Md)(vs:List AV)(h:List Vc.Obj):Hit:=mkH (cK F (eM h (fY vs 0) qk)) (.inr (((0:Int),(0:Int),()),())) fun r=>⟨(aBN F),[(fY vs 0)],((eM h (fY vs 0) qk),r)⟩
def aGs(F:Md):PlR:=⟨[(0,.A [0]),(1,.P [0,3] []),(2,.P [0,3] []),(3,.C 22 [3]),(4,.A [2])],[],[(19,tO F),(53,gT F)]⟩
abbrev aHi(F:Md):List (FuncId×aF):=[(90,aAH)]
theorem aP6[Mx](F:Md):bF Tryz.prog GL (aHi F):=.cons aRJ xN (.nil)
attribute [go_sem] aGs aBN
theorem iT[Mx](F:Md):GOK Tryz.prog GL 52 (aBN F):=by
 refine kG (bA (aP6 F)) mix Tryz.func52 rfl xN (fun _=>Nat.le_of_ble_eq_true rfl) (aGs F) (fun L w0 d O q h hV=>?_) (.cons (fun _ _=>(tP F)) xN (.cons (fun _ _=>(iS F)) xN (.nil)));obtain⟨(f:qo),r⟩:=d;have hF:=hV.fr;replace h:=kH (show cK F f=some r from h);simp only[vH,List.map_cons,List.map_nil,go_sem];unfold cK at h;refine aB h fun I hv h=>?_;simp only[hv,go_sem];refine aB h fun e hv h=>?_;rcases e with z|g
 ·try dsimp only at h
  simp only[hv,go_sem];refine⟨by kernel_rfl,?_⟩;refine aK h fun g0 h=>aK h fun g1 h=>aK h fun N h=>aK h fun J h=>?_;exact zar
 ·try dsimp only at h
  exact zap
def dJ(F:Md)(q:qc)(g:qo):Option (qo⊕wc) :=
 (cK F g).bind (fun e=>match e with| .inl f=>(cG F (decide (f.1=q)) f.2).bind (fun e=>match e with| .inl J=>some (.inl J)| .inr I=>some (.inr I))| .inr z=>some (.inr z))
def aDE(F:Md):fQ where
 D:=qc×qo×(qo⊕wc)
 av:=fun d=>[.ptr 0 [],.val .str d.1]
 hp:=fun d=>[.box 3 (.val qk d.2.1)]
 m:=1
 pre:=fun d=>dJ F d.1 d.2.1=some d.2.2
 out:=fun d=>match d.2.2 with| .inl r=>.ret (.tup []) [.box 3 (.val qk (r))]| .inr p=>.pan ⟨45,wg,p⟩ [.box 3 (.junk)]
@[go_sem]def aAJ(F:Md)(vs:List AV)(h:List Vc.Obj):Hit:=mkH (dJ F (qV h vs 1 .str) (eM h (fY vs 0) qk)) (.inr (((0:Int),(0:Int),()),())) fun r=>⟨(aDE F),[(fY vs 0)],((qV h vs 1 .str),(eM h (fY vs 0) qk),r)⟩
def aIC(F:Md):PlR:=⟨[(0,.P [] [])],[],[(52,gU F),(53,gT F)]⟩
abbrev aTN(F:Md):List (FuncId×aF):=[]
theorem aTO[Mx](F:Md):bF Tryz.prog GL (aTN F):=.nil
attribute [go_sem] aIC aDE
theorem aDF[Mx](F:Md):GOK Tryz.prog GL 49 (aDE F):=by
 refine kG (bA (aTO F)) mix Tryz.func49 rfl xN (fun _=>Nat.le_of_ble_eq_true rfl) (aIC F) (fun N w0 d O q h hV=>?_) (.cons (fun _ _=>(iT F)) xN (.cons (fun _ _=>(iS F)) xN (.nil)));obtain⟨(g:qc),(f:qo),r⟩:=d;have hF:=hV.fr;replace h:=kH (show dJ F g f=some r from h);simp only[vH,List.map_cons,List.map_nil,go_sem];unfold dJ at h;refine aB h fun e hv h=>?_;rcases e with J|z
 ·try dsimp only at h
  simp only[hv,go_sem];refine aB h fun e hv h=>?_;rcases e with I|L
  ·(try dsimp only at h);exact zaL
  ·(try dsimp only at h);exact zap
 ·try dsimp only at h
  exact zap
def cO(F:Md)(f:qo):Option (qo⊕wc) :=
 (dP F f).bind (fun g=>(cG F (decide (g.1=(aQ ⟨#[]⟩))) g.2).bind (fun e=>match e with| .inl z=>some (.inl z)| .inr q=>some (.inr q)))
def aC0(F:Md):fQ where
 D:=qo×(qo⊕wc)
 av:=fun d=>[.ptr 0 []]
 hp:=fun d=>[.box 3 (.val qk d.1)]
 m:=1
 pre:=fun d=>cO F d.1=some d.2
 out:=fun d=>match d.2 with| .inl r=>.ret (.tup []) [.box 3 (.val qk (r))]| .inr p=>.pan ⟨45,wg,p⟩ [.box 3 (.junk)]
@[go_sem]def zE(F:Md)(vs:List AV)(h:List Vc.Obj):Hit:=mkH (cO F (eM h (fY vs 0) qk)) (.inr (((0:Int),(0:Int),()),())) fun r=>⟨(aC0 F),[(fY vs 0)],((eM h (fY vs 0) qk),r)⟩
def aHj(F:Md):PlR:=⟨[(0,.P [] [])],[],[(19,tO F),(53,gT F)]⟩
abbrev aRL(F:Md):List (FuncId×aF):=[]
theorem aRM[Mx](F:Md):bF Tryz.prog GL (aRL F):=.nil
attribute [go_sem] aHj aC0
theorem aC1[Mx](F:Md):GOK Tryz.prog GL 54 (aC0 F):=by
 refine kG (bA (aRM F)) mix Tryz.func54 rfl xN (fun _=>Nat.le_of_ble_eq_true rfl) (aHj F) (fun J w0 d L z h hV=>?_) (.cons (fun _ _=>(tP F)) xN (.cons (fun _ _=>(iS F)) xN (.nil)));obtain⟨(f:qo),r⟩:=d;have hF:=hV.fr;replace h:=kH (show cO F f=some r from h);simp only[vH,List.map_cons,List.map_nil,go_sem];unfold cO at h;refine aB h fun q hv h=>?_;simp only[hv,go_sem];refine aB h fun e hv h=>?_;rcases e with I|g
 ·try dsimp only at h
  exact zaL
 ·try dsimp only at h
  exact zap
def fL(F:Md)(r_7:(qc×qo))(f:qo):Option ((Int×qo)⊕wc) :=
 ck ((lT F r_7.1).isSome=true) (some (.inl (((lT F r_7.1).getD ((0:Int),(),())).1,f)))
def fF(F:Md)(f:qo):Option ((Int×qo)⊕wc) :=
 (cK F f).bind (fun e=>match e with| .inl r_7=>if (r_7.1.length:Int)≤(4:Int) then ck ((gN F r_7.1 (aQ ⟨#[48,49,50,51,52,53,54,55,56,57]⟩)).isSome=true) ((cG F ((decide ((r_7.1.length:Int)≤(4:Int)))&&(decide (((gN F r_7.1 (aQ ⟨#[48,49,50,51,52,53,54,55,56,57]⟩)).getD ([]:List Nat))=(aQ ⟨#[]⟩)))) r_7.2).bind (fun e=>match e with| .inl I=>fL F r_7 I| .inr q=>some (.inr q))) else (cG F false r_7.2).bind (fun e=>match e with| .inl z=>fL F r_7 z| .inr g=>some (.inr g))| .inr p_8=>some (.inr p_8))
def aAk(F:Md):fQ where
 D:=qo×((Int×qo)⊕wc)
 av:=fun d=>[.ptr 0 []]
 hp:=fun d=>[.box 3 (.val qk d.1)]
 m:=1
 pre:=fun d=>fF F d.1=some d.2
 out:=fun d=>match d.2 with| .inl r=>.ret (.val qg r.1) [.box 3 (.val qk r.2)]| .inr p=>.pan ⟨45,wg,p⟩ [.box 3 (.junk)]
@[go_sem]def aEI(F:Md)(vs:List AV)(h:List Vc.Obj):Hit:=mkH (fF F (eM h (fY vs 0) qk)) (.inr (((0:Int),(0:Int),()),())) fun r=>⟨(aAk F),[(fY vs 0)],((eM h (fY vs 0) qk),r)⟩
def aEJ(F:Md):PlR:=⟨[(0,.A [0]),(1,.P [0,3] []),(2,.P [3] []),(3,.A [4]),(4,.A [2])],[(5,6)],[(52,gU F),(53,gT F)]⟩
abbrev aA3(F:Md):List (FuncId×aF):=[(98,(uH F)),(99,(oI F))]
theorem aML[Mx](F:Md):bF Tryz.prog GL (aA3 F):=.cons (aJR F) xN (.cons (aER F) xN (.nil))
attribute [go_sem] aEJ aAk
theorem aLV[Mx](F:Md):GOK Tryz.prog GL 50 (aAk F):=by
 refine kG (bA (aML F)) mix Tryz.func50 rfl xN (fun _=>Nat.le_of_ble_eq_true rfl) (aEJ F) (fun U w0 d Y O h hV=>?_) (.cons (fun _ _=>(iT F)) xN (.cons (fun _ _=>(iS F)) xN (.nil)));obtain⟨(f:qo),r⟩:=d;have hF:=hV.fr;replace h:=kH (show fF F f=some r from h);simp only[vH,List.map_cons,List.map_nil,go_sem];unfold fF at h;refine aB h fun e hv h=>?_;rcases e with r_7|p_8
 ·try dsimp only at h
  simp only[hv,go_sem];refine dD hV (D:=qo) (fun d=>sat (fL F r_7 d) (fun z=>z=r)) [3] (fun d=>[]) (fun d=>[.inr (.box 3 (.val qk d))]) ?_ ?_
  ·simp only[go_sem];refine⟨fun hc=>?_,fun hc=>?_⟩
   ·replace h:=gZ zAC h;refine⟨fun _=>?_,fun J=>by first|(exfalso; omega)|(exfalso; simp_all; done)⟩;refine aK h fun g0 h=>?_;refine⟨fun _=>?_,fun J=>by first|(exfalso; omega)|(exfalso; simp_all; done)⟩;refine aB h fun e hv h=>?_;rcases e with I|N
    ·(try dsimp only at h);simp only[hv,go_sem];(repeat (refine⟨zAB,?_⟩));exact aT (I) h rfl xAb
    ·(try dsimp only at h);exact zab
   ·replace h:=hO zAC h;(first|(refine⟨fun J=>by first|(exfalso; omega)|(exfalso; simp_all; done),fun _=>?_⟩)|(with_reducible intro _)|skip);(first|(refine⟨fun J=>by first|(exfalso; omega)|(exfalso; simp_all; done),fun _=>?_⟩)|(with_reducible intro _)|skip);refine aB h fun e hv h=>?_;rcases e with q|L
    ·(try dsimp only at h);simp only[hv,go_sem];(repeat (refine⟨zAB,?_⟩));exact aT (q) h rfl xAb
    ·(try dsimp only at h);exact zab
  ·rintro g h;simp only[go_sem];replace h:sat (fL F r_7 g) _:=h;unfold fL at h;refine aK h fun g0 h=>?_;exact zar
 ·try dsimp only at h
  exact zap
def eF(F:Md)(f:qo):Option ((qc×qo)⊕wc) :=
 (cK F f).bind (fun e=>match e with| .inl r_7=>ck ((rC F r_7.1).isSome=true) ((cG F ((rC F r_7.1).getD false) r_7.2).bind (fun e=>match e with| .inl r_13=>some (.inl (r_7.1,r_13))| .inr p_14=>some (.inr p_14)))| .inr p_8=>some (.inr p_8))
def yV(F:Md):fQ where
 D:=qo×((qc×qo)⊕wc)
 av:=fun d=>[.ptr 0 []]
 hp:=fun d=>[.box 3 (.val qk d.1)]
 m:=1
 pre:=fun d=>eF F d.1=some d.2
 out:=fun d=>match d.2 with| .inl r=>.ret (.val .str r.1) [.box 3 (.val qk r.2)]| .inr p=>.pan ⟨45,wg,p⟩ [.box 3 (.junk)]
@[go_sem]def aDo(F:Md)(vs:List AV)(h:List Vc.Obj):Hit:=mkH (eF F (eM h (fY vs 0) qk)) (.inr (((0:Int),(0:Int),()),())) fun r=>⟨(yV F),[(fY vs 0)],((eM h (fY vs 0) qk),r)⟩
def aDp(F:Md):PlR:=⟨[(0,.A [0]),(1,.P [0,3] []),(2,.P [3] []),(3,.A [2])],[],[(52,gU F),(53,gT F)]⟩
abbrev aEK(F:Md):List (FuncId×aF):=[(100,(wX F))]
theorem aLW[Mx](F:Md):bF Tryz.prog GL (aEK F):=.cons (aLo F) xN (.nil)
attribute [go_sem] aDp yV
theorem aKD[Mx](F:Md):GOK Tryz.prog GL 51 (yV F):=by
 refine kG (bA (aLW F)) mix Tryz.func51 rfl xN (fun _=>Nat.le_of_ble_eq_true rfl) (aDp F) (fun q w0 d z g h hV=>?_) (.cons (fun _ _=>(iT F)) xN (.cons (fun _ _=>(iS F)) xN (.nil)));obtain⟨(f:qo),r⟩:=d;have hF:=hV.fr;replace h:=kH (show eF F f=some r from h);simp only[vH,List.map_cons,List.map_nil,go_sem];unfold eF at h;exact zaT
def eZ(F:Md)(f:qo):Option ((qc×qo)⊕wc) :=
 (cK F f).bind (fun e=>match e with| .inl r_7=>ck ((cW F r_7.1).isSome=true) ((cG F ((cW F r_7.1).getD false) r_7.2).bind (fun e=>match e with| .inl r_13=>some (.inl (r_7.1,r_13))| .inr p_14=>some (.inr p_14)))| .inr p_8=>some (.inr p_8))
def mI(F:Md):fQ where
 D:=qo×((qc×qo)⊕wc)
 av:=fun d=>[.ptr 0 []]
 hp:=fun d=>[.box 3 (.val qk d.1)]
 m:=1
 pre:=fun d=>eZ F d.1=some d.2
 out:=fun d=>match d.2 with| .inl r=>.ret (.val .str r.1) [.box 3 (.val qk r.2)]| .inr p=>.pan ⟨45,wg,p⟩ [.box 3 (.junk)]
@[go_sem]def aGt(F:Md)(vs:List AV)(h:List Vc.Obj):Hit:=mkH (eZ F (eM h (fY vs 0) qk)) (.inr (((0:Int),(0:Int),()),())) fun r=>⟨(mI F),[(fY vs 0)],((eM h (fY vs 0) qk),r)⟩
def aGu(F:Md):PlR:=⟨[(0,.A [0]),(1,.P [0,3] []),(2,.P [3] []),(3,.A [2])],[],[(52,gU F),(53,gT F)]⟩
abbrev aHk(F:Md):List (FuncId×aF):=[(70,(sK F))]
theorem aP7[Mx](F:Md):bF Tryz.prog GL (aHk F):=.cons (aHz F) xN (.nil)
attribute [go_sem] aGu mI
theorem tQ[Mx](F:Md):GOK Tryz.prog GL 57 (mI F):=by
 refine kG (bA (aP7 F)) mix Tryz.func57 rfl xN (fun _=>Nat.le_of_ble_eq_true rfl) (aGu F) (fun q w0 d z g h hV=>?_) (.cons (fun _ _=>(iT F)) xN (.cons (fun _ _=>(iS F)) xN (.nil)));obtain⟨(f:qo),r⟩:=d;have hF:=hV.fr;replace h:=kH (show eZ F f=some r from h);simp only[vH,List.map_cons,List.map_nil,go_sem];unfold eZ at h;exact zaT
def fA(F:Md)(q:qo):Option ((qn×qo)⊕wc) :=
 (cK F q).bind (fun e=>match e with| .inl r_7=>ck ((iV F r_7.1).isSome=true) ((cG F ((iV F r_7.1).getD false) r_7.2).bind (fun e=>match e with| .inl r_13=>(dP F r_13).bind (fun f=>ck ((iV F f.1).isSome=true) (if ((iV F f.1).getD false)=true then (cK F f.2).bind (fun e=>match e with| .inl g=>some (.inl ((r_7.1,g.1,()),g.2))| .inr z=>some (.inr z)) else some (.inl ((r_7.1,([]:List Nat),()),f.2))))| .inr p_14=>some (.inr p_14)))| .inr p_8=>some (.inr p_8))
def aBO(F:Md):fQ where
 D:=qo×((qn×qo)⊕wc)
 av:=fun d=>[.ptr 0 []]
 hp:=fun d=>[.box 3 (.val qk d.1)]
 m:=1
 pre:=fun d=>fA F d.1=some d.2
 out:=fun d=>match d.2 with| .inl r=>.ret (.val qj r.1) [.box 3 (.val qk r.2)]| .inr p=>.pan ⟨45,wg,p⟩ [.box 3 (.junk)]
@[go_sem]def aGv(F:Md)(vs:List AV)(h:List Vc.Obj):Hit:=mkH (fA F (eM h (fY vs 0) qk)) (.inr (((0:Int),(0:Int),()),())) fun r=>⟨(aBO F),[(fY vs 0)],((eM h (fY vs 0) qk),r)⟩
def aGw(F:Md):PlR:=⟨[(0,.B [0,2]),(1,.B [0,2,3]),(2,.P [0,2,3] []),(3,.P [0,2,3] []),(4,.P [0,2,3,4] []),(5,.A [0,2,3,16]),(6,.P [2,3] []),(7,.B [2])],[],[(19,tO F),(52,gU F),(53,gT F)]⟩
abbrev aHl(F:Md):List (FuncId×aF):=[(140,(aBz F))]
theorem aP8[Mx](F:Md):bF Tryz.prog GL (aHl F):=.cons (aTM F) xN (.nil)
attribute [go_sem] aGw aBO
theorem aOn[Mx](F:Md):GOK Tryz.prog GL 101 (aBO F):=by
 refine kG (bA (aP8 F)) mix Tryz.func101 rfl xN (fun _=>Nat.le_of_ble_eq_true rfl) (aGw F) (fun J w0 d L I h hV=>?_) (.cons (fun _ _=>(tP F)) xN (.cons (fun _ _=>(iT F)) xN (.cons (fun _ _=>(iS F)) xN (.nil))));obtain⟨(f:qo),r⟩:=d;have hF:=hV.fr;replace h:=kH (show fA F f=some r from h);simp only[vH,List.map_cons,List.map_nil,go_sem];unfold fA at h;refine aB h fun e hv h=>?_;rcases e with r_7|p_8
 ·try dsimp only at h
  simp only[hv,go_sem];refine aK h fun g0 h=>?_;refine aB h fun e hv h=>?_;rcases e with r_13|p_14
  ·(try dsimp only at h);simp only[hv,go_sem];refine aB h fun z hv h=>?_;simp only[hv,go_sem];refine aK h fun g0 h=>?_;refine aH2 h (fun hc h=>?_) fun hc h=>?_
   ·refine aB h fun e hv h=>?_;rcases e with q|g
    ·(try dsimp only at h);simp only[hv,go_sem];obtain rfl:=aO h;refine lS hF [.cell 2 72] [0] rfl rfl rfl rfl rfl rfl rfl rfl rfl ?_;exact zaC
    ·(try dsimp only at h);exact zaN
   ·obtain rfl:=aO h;refine lS hF [.cell 2 72] [0] rfl rfl rfl rfl rfl rfl rfl rfl rfl ?_;exact zaC
  ·(try dsimp only at h);exact zaN
 ·try dsimp only at h
  exact zaN
def iJ(F:Md)(f:qo):Option ((Ex×qo)⊕wc) :=
 ck (0≤f.2.1∧f.2.1≤(f.2.2.1.length:Int)) (ck ((cD F (List.drop (f.2.1.toNat) f.2.2.1) (aQ ⟨#[32]⟩)).isSome=true) (ck (I64 ((f.2.2.1.length:Int)-((((cD F (List.drop (f.2.1.toNat) f.2.2.1) (aQ ⟨#[32]⟩)).getD ([]:List Nat)).length:Nat):Int))) (ck ((iR F ((cD F (List.drop (f.2.1.toNat) f.2.2.1) (aQ ⟨#[32]⟩)).getD ([]:List Nat))).isSome=true) (if ¬(((iR F ((cD F (List.drop (f.2.1.toNat) f.2.2.1) (aQ ⟨#[32]⟩)).getD ([]:List Nat))).getD ((Ex.mk 0 [] []),(0:Int),(0:Int),())).2.2.1=(0:Int)) then ck (I64 (((f.2.2.1.length:Int)-((((cD F (List.drop (f.2.1.toNat) f.2.2.1) (aQ ⟨#[32]⟩)).getD ([]:List Nat)).length:Nat):Int))+((iR F ((cD F (List.drop (f.2.1.toNat) f.2.2.1) (aQ ⟨#[32]⟩)).getD ([]:List Nat))).getD ((Ex.mk 0 [] []),(0:Int),(0:Int),())).2.1)) (ck (I64 ((((f.2.2.1.length:Int)-((((cD F (List.drop (f.2.1.toNat) f.2.2.1) (aQ ⟨#[32]⟩)).getD ([]:List Nat)).length:Nat):Int))+((iR F ((cD F (List.drop (f.2.1.toNat) f.2.2.1) (aQ ⟨#[32]⟩)).getD ([]:List Nat))).getD ((Ex.mk 0 [] []),(0:Int),(0:Int),())).2.1)+(1:Int))) (some (.inr ((f.1,((((f.2.2.1.length:Int)-((((cD F (List.drop (f.2.1.toNat) f.2.2.1) (aQ ⟨#[32]⟩)).getD ([]:List Nat)).length:Nat):Int))+((iR F ((cD F (List.drop (f.2.1.toNat) f.2.2.1) (aQ ⟨#[32]⟩)).getD ([]:List Nat))).getD ((Ex.mk 0 [] []),(0:Int),(0:Int),())).2.1)+(1:Int)),()),())))) else some (.inl (((iR F ((cD F (List.drop (f.2.1.toNat) f.2.2.1) (aQ ⟨#[32]⟩)).getD ([]:List Nat))).getD ((Ex.mk 0 [] []),(0:Int),(0:Int),())).1,f.1,(f.2.2.1.length:Int),f.2.2.1,()))))))
def aBP(F:Md):fQ where
 D:=qo×((Ex×qo)⊕wc)
 av:=fun d=>[.ptr 0 []]
 hp:=fun d=>[.box 3 (.val qk d.1)]
 m:=1
 pre:=fun d=>iJ F d.1=some d.2
 out:=fun d=>match d.2 with| .inl r=>.ret (.val .expr r.1) [.box 3 (.val qk r.2)]| .inr p=>.pan ⟨45,wg,p⟩ [.box 3 (.junk)]
@[go_sem]def aGx(F:Md)(vs:List AV)(h:List Vc.Obj):Hit:=mkH (iJ F (eM h (fY vs 0) qk)) (.inr (((0:Int),(0:Int),()),())) fun r=>⟨(aBP F),[(fY vs 0)],((eM h (fY vs 0) qk),r)⟩
def aGy:PlR:=⟨[(0,.B [0,2]),(1,.A [0,2,3]),(2,.A [0,2,3,4]),(3,.B [0,2,4,5,6,7]),(4,.A [0,2,4,5,6,33]),(5,.P [0,2,5] []),(6,.B [2,5]),(7,.B [2])],[],[]⟩
abbrev aC2(F:Md):List (FuncId×aF):=[(13,(aD1 F)),(48,(oE F))]
theorem aP9[Mx](F:Md):bF Tryz.prog GL (aC2 F):=.cons (aXr F) xN (.cons (aFb F) xN (.nil))
attribute [go_sem] aGy aBP
theorem aOo[Mx](F:Md):GOK Tryz.prog GL 102 (aBP F):=by
 refine kG (bA (aP9 F)) mix Tryz.func102 rfl xN (fun _=>Nat.le_of_ble_eq_true rfl) aGy (fun q w0 d z g h hV=>?_);obtain⟨(f:qo),r⟩:=d;have hF:=hV.fr;replace h:=kH (show iJ F f=some r from h);simp only[vH,List.map_cons,List.map_nil,go_sem];unfold iJ at h;refine aK h fun g0 h=>aK h fun g1 h=>?_;refine aK h fun g0 h=>?_;refine aK h fun g0 h=>?_;refine cH h (fun hc h=>?_) fun hc h=>?_
 ·refine aK h fun g0 h=>?_;refine aK h fun g0 h=>?_;obtain rfl:=aO h;refine bS [0] rfl rfl (yaB ?_);exact zaH
 ·obtain rfl:=aO h;refine lS hF [.cell 2 40] [0] rfl rfl rfl rfl rfl rfl rfl rfl rfl ?_;exact zaC
def iK(F:Md)(f:qo):Option ((qn×qo)⊕wc) :=
 (cK F f).bind (fun e=>match e with| .inl r_7=>ck (aXs r_7.1 (aQ ⟨#[46]⟩)) (if (wS r_7.1 (aQ ⟨#[46]⟩)).2.2.1=true then ck ((cW F (wS r_7.1 (aQ ⟨#[46]⟩)).1).isSome=true) (if ((wS r_7.1 (aQ ⟨#[46]⟩)).2.2.1=true)∧(((cW F (wS r_7.1 (aQ ⟨#[46]⟩)).1).getD false)=true) then ck ((cW F (wS r_7.1 (aQ ⟨#[46]⟩)).2.1).isSome=true) ((cG F (((wS r_7.1 (aQ ⟨#[46]⟩)).2.2.1&&((cW F (wS r_7.1 (aQ ⟨#[46]⟩)).1).getD false))&&((cW F (wS r_7.1 (aQ ⟨#[46]⟩)).2.1).getD false)) r_7.2).bind (fun e=>match e with| .inl I=>some (.inl (((wS r_7.1 (aQ ⟨#[46]⟩)).1,(wS r_7.1 (aQ ⟨#[46]⟩)).2.1,()),I))| .inr J=>some (.inr J))) else (cG F false r_7.2).bind (fun e=>match e with| .inl L=>some (.inl (((wS r_7.1 (aQ ⟨#[46]⟩)).1,(wS r_7.1 (aQ ⟨#[46]⟩)).2.1,()),L))| .inr z=>some (.inr z))) else (cG F false r_7.2).bind (fun e=>match e with| .inl q=>some (.inl (((wS r_7.1 (aQ ⟨#[46]⟩)).1,(wS r_7.1 (aQ ⟨#[46]⟩)).2.1,()),q))| .inr g=>some (.inr g)))| .inr p_8=>some (.inr p_8))
def aBQ(F:Md):fQ where
 D:=qo×((qn×qo)⊕wc)
 av:=fun d=>[.ptr 0 []]
 hp:=fun d=>[.box 3 (.val qk d.1)]
 m:=1
 pre:=fun d=>iK F d.1=some d.2
 out:=fun d=>match d.2 with| .inl r=>.ret (.tup [.val .str r.1.1,.val .str r.1.2.1]) [.box 3 (.val qk r.2)]| .inr p=>.pan ⟨45,wg,p⟩ [.box 3 (.junk)]
@[go_sem]def aGz(F:Md)(vs:List AV)(h:List Vc.Obj):Hit:=mkH (iK F (eM h (fY vs 0) qk)) (.inr (((0:Int),(0:Int),()),())) fun r=>⟨(aBQ F),[(fY vs 0)],((eM h (fY vs 0) qk),r)⟩
def aGA(F:Md):PlR:=⟨[(0,.A [0]),(1,.P [0,4,5,6] []),(2,.P [4,5] []),(3,.A [2,3])],[],[(52,gU F),(53,gT F)]⟩
abbrev aC3(F:Md):List (FuncId×aF):=[(17,qF),(70,(sK F))]
theorem aQa[Mx](F:Md):bF Tryz.prog GL (aC3 F):=.cons aGl xN (.cons (aHz F) xN (.nil))
attribute [go_sem] aGA aBQ
theorem aOp[Mx](F:Md):GOK Tryz.prog GL 55 (aBQ F):=by
 refine kG (bA (aQa F)) mix Tryz.func55 rfl xN (fun _=>Nat.le_of_ble_eq_true rfl) (aGA F) (fun U w0 d Y O h hV=>?_) (.cons (fun _ _=>(iT F)) xN (.cons (fun _ _=>(iS F)) xN (.nil)));obtain⟨(f:qo),r⟩:=d;have hF:=hV.fr;replace h:=kH (show iK F f=some r from h);simp only[vH,List.map_cons,List.map_nil,go_sem];unfold iK at h;refine aB h fun e hv h=>?_;rcases e with r_7|p_8
 ·try dsimp only at h
  simp only[hv,go_sem];repeat (refine⟨zAB,?_⟩)
  refine aK h fun g0 h=>?_;refine⟨fun hc=>?_,fun hc=>?_⟩
  ·replace h:=gZ zAC h;refine⟨fun _=>?_,fun g=>by first|(exfalso; omega)|(exfalso; simp_all; done)⟩;refine aK h fun g0 h=>?_;refine⟨fun hc=>?_,fun hc=>?_⟩
   ·replace h:=gZ zAC h;refine⟨fun _=>?_,fun g=>by first|(exfalso; omega)|(exfalso; simp_all; done)⟩;refine aK h fun g0 h=>?_;refine aB h fun e hv h=>?_;rcases e with J|L
    ·(try dsimp only at h);exact zam
    ·(try dsimp only at h);exact zab
   ·replace h:=hO zAC h;(first|(refine⟨fun g=>by first|(exfalso; omega)|(exfalso; simp_all; done),fun _=>?_⟩)|(with_reducible intro _)|skip);refine aB h fun e hv h=>?_;rcases e with N|I
    ·(try dsimp only at h);exact zam
    ·(try dsimp only at h);exact zab
  ·replace h:=hO zAC h;(first|(refine⟨fun g=>by first|(exfalso; omega)|(exfalso; simp_all; done),fun _=>?_⟩)|(with_reducible intro _)|skip);(first|(refine⟨fun g=>by first|(exfalso; omega)|(exfalso; simp_all; done),fun _=>?_⟩)|(with_reducible intro _)|skip);(first|(refine⟨fun g=>by first|(exfalso; omega)|(exfalso; simp_all; done),fun _=>?_⟩)|(with_reducible intro _)|skip);refine aB h fun e hv h=>?_;rcases e with z|q
   ·(try dsimp only at h);exact zam
   ·(try dsimp only at h);exact zab
 ·try dsimp only at h
  exact zab
end
end Nu
end Go.Proofs

