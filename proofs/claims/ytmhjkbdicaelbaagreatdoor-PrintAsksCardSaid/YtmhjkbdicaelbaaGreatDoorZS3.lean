import Derived.Test.YtmhjkbdicaelbaaGreatDoorZS2
import Derived.Test.YtmhjkbdicaelbaaGreatDoorZS1
import Derived.Test.YtmhjkbdicaelbaaGreatDoorZL5
import Derived.Lib.AppendZeros
import Derived.Lib.SliceRun
import Derived.WalkKit
import Derived.Lib.Walk
import Derived.Shelf.RegionOpenPlain
set_option linter.unusedVariables false
set_option linter.unusedSimpArgs false
namespace Go.Proofs
open Go.Vc
set_option maxRecDepth 20000
namespace Nu
noncomputable section
set_option maxHeartbeats 4000000
attribute [-go_sem] Ex.kind Ex.text Ex.l
def uM(F:Md)(f:Nat):Option Bool :=
 some ((decide ((97:Nat)≤f))&&(decide (f≤(122:Nat))))
def aN1:PlR:=⟨[(0,.A [0]),(1,.A [2])],[],[]⟩
def aRK:Ty:=.pair qw .unit
def zT(F:Md):aH:=mSpec aRK (.one .bool) (fun x=>uM F x.1)
abbrev bC3(F:Md):List (FuncId×aH):=[]
theorem bC4(F:Md):bA Tryz.prog GL (bC3 F):=.nil
attribute [go_sem] aRK aN1
theorem aN2(F:Md):FOK Tryz.prog GL 75 (zT F):=by
 refine aX (aY (bC4 F)) mix Tryz.func75 rfl xAa xAb aN1 (fun w0 S x Θ g h hV=>?_);obtain⟨(f:Nat),u⟩:=x;simp only[bD,go_sem];replace h:sat (uM F f) _:=h;unfold uM at h;exact zaB
attribute [go_sem] zT
def zU(F:Md)(f:Nat):Option Bool :=
 (uM F f).bind (fun v_5=>some ((v_5||((decide ((48:Nat)≤f))&&(decide (f≤(57:Nat)))))||(decide (f=(95:Nat)))))
def aLv:PlR:=⟨[(0,.A [0]),(1,.A [2])],[],[]⟩
def aN3:Ty:=.pair qw .unit
def aDc(F:Md):aH:=mSpec aN3 (.one .bool) (fun x=>zU F x.1)
abbrev aN4(F:Md):List (FuncId×aH):=[(75,(zT F))]
theorem bAs(F:Md):bA Tryz.prog GL (aN4 F):=.cons (aN2 F) xAa (.nil)
attribute [go_sem] aN3 aLv
theorem aXH(F:Md):FOK Tryz.prog GL 76 (aDc F):=by
 refine aX (aY (bAs F)) mix Tryz.func76 rfl xAa xAb aLv (fun w0 S x Θ g h hV=>?_);obtain⟨(f:Nat),u⟩:=x;simp only[bD,go_sem];replace h:sat (zU F f) _:=h;unfold zU at h;exact zaU
attribute [go_sem] aDc
def lJ(F:Md)(g:qj)(q:qd)(f:Int):Option ((Int)⊕((Unit)⊕Int)) :=
 if f<(g.length:Int) then ck (0≤f∧f<(g.length:Int)) (if (g.getD (f.toNat) ([]:List Nat))=q then some (.inr (.inr f)) else ck (I64 (f+(1:Int))) (some (.inl (f+(1:Int))))) else some (.inr (.inl ()))
def hZ(F:Md)(f:qj)(g:qd):Option Int :=
 (bO F (fun d:Int=>lJ F f g d) (0:Int)).bind (fun e=>match e with|(.inl e)=>some (-1:Int)|(.inr e)=>some e)
def aJI:PlR:=⟨[(0,.A [0,1]),(1,.A [0,1,5]),(2,.A [0,1,5,9]),(3,.A [0,1,5]),(4,.A [0,1,5,17]),(5,.A [4]),(6,.A [4])],[],[]⟩
def aLw:Ty:=.pair qx wi
def mM(F:Md):aH:=mSpec aLw (.one qi) (fun x=>hZ F x.1 x.2.1)
abbrev aXI(F:Md):List (FuncId×aH):=[]
theorem aXJ(F:Md):bA Tryz.prog GL (aXI F):=.nil
attribute [go_sem] aLw aJI
theorem aFp(F:Md):FOK Tryz.prog GL 77 (mM F):=by
 refine aX (aY (aXJ F)) mix Tryz.func77 rfl xAa xAb aJI (fun w0 S x Θ z h hV=>?_);obtain⟨(f:qj),(g:qd),u⟩:=x;simp only[bD,go_sem];replace h:sat (hZ F f g) _:=h;unfold hZ at h;refine aU hV (D:=Int) [0,1] (fun d=>[(5,.val qi d)]) (fun d=>[]) h rfl xAc ?_;rintro q I T2 hA2 hE2 h;simp only[go_sem];replace h:sat (lJ F f g q) _:=h;unfold lJ at h;exact zaJ
attribute [go_sem] mM
def vV(F:Md)(g:qd)(f:Int):Option ((Int)⊕((Unit)⊕Bool)) :=
 if f<(g.length:Int) then ck (0≤f∧f<(g.length:Int)) ((zU F (g.getD (f.toNat) (0:Nat))).bind (fun q=>if ¬(q=true) then some (.inr (.inr false)) else ck (I64 (f+(1:Int))) (some (.inl (f+(1:Int)))))) else some (.inr (.inl ()))
def vD(F:Md)(f:qd):Option Bool :=
 ck (¬(((f.length:Int)<(1:Int))∨((20:Int)<(f.length:Int)))→((0:Int)<(f.length:Int))) (ck (¬(((f.length:Int)<(1:Int))∨((20:Int)<(f.length:Int)))→((uM F (f.getD (0:Nat) (0:Nat))).isSome=true)) (if (((f.length:Int)<(1:Int))∨((20:Int)<(f.length:Int)))∨(¬(((uM F (f.getD (0:Nat) (0:Nat))).getD false)=true)) then some false else (bO F (fun d:Int=>vV F f d) (0:Int)).bind (fun e=>match e with|(.inl e)=>(hZ F ([(aI ⟨#[116]⟩),(aI ⟨#[115,113,114]⟩),(aI ⟨#[115,113,114,116]⟩),(aI ⟨#[101,120,112]⟩),(aI ⟨#[112,114,101,99]⟩),(aI ⟨#[101,110,100]⟩),(aI ⟨#[115,116,101,112]⟩),(aI ⟨#[116,111,108]⟩),(aI ⟨#[116,114,105,101,115]⟩),(aI ⟨#[111,114,100,101,114]⟩),(aI ⟨#[106,97,99,111,98,105]⟩),(aI ⟨#[115,101,105,100,101,108]⟩),(aI ⟨#[115,117,98]⟩),(aI ⟨#[115,116,97,116,101]⟩),(aI ⟨#[112,97,114]⟩),(aI ⟨#[105,110]⟩),(aI ⟨#[111,117,116]⟩),(aI ⟨#[100,101,114]⟩),(aI ⟨#[108,105,110,107]⟩)]:List qd) f).bind (fun v_27=>some (decide (v_27<(0:Int))))|(.inr e)=>some e)))
def aLx:PlR:=⟨[(0,.A [0]),(1,.A [0,18]),(2,.A [2]),(3,.A [0,3]),(4,.A [0,3,22]),(5,.A [0,3]),(6,.A [0,3,29]),(7,.A [2]),(8,.A [0,4]),(9,.A [2])],[],[]⟩
def aN5:Ty:=.pair .str .unit
def wP(F:Md):aH:=mSpec aN5 (.one .bool) (fun x=>vD F x.1)
abbrev aEF(F:Md):List (FuncId×aH):=[(75,(zT F)),(76,(aDc F)),(77,(mM F))]
theorem bAt(F:Md):bA Tryz.prog GL (aEF F):=.cons (aN2 F) xAa (.cons (aXH F) xAa (.cons (aFp F) xAa (.nil)))
attribute [go_sem] aN5 aLx
theorem aLy(F:Md):FOK Tryz.prog GL 44 (wP F):=by
 refine aX (aY (bAt F)) mix Tryz.func44 rfl xAa xAb aLx (fun w0 S x Θ J h hV=>?_);obtain⟨(g:qd),u⟩:=x;simp only[bD,go_sem];replace h:sat (vD F g) _:=h;unfold vD at h;refine aB h fun g0 h=>?_;refine aB h fun g1 h=>(yaF ?_);refine⟨fun hc=>?_,fun hc=>?_⟩
 ·replace h:=cW zAD h;exact zaB
 ·replace h:=cX zAD h;refine aU hV (D:=Int) [0] (fun d=>[(3,.val qi d)]) (fun d=>[]) h rfl xAc ?_;rintro q L T4 hA4 f h;simp only[go_sem];replace h:sat (vV F g q) _:=h;unfold vV at h;refine bP h (fun hc h=>?_) fun hc h=>?_
  ·refine aB h fun g0 h=>(yaC ?_);refine aD h fun z hv h=>?_;(try simp only[hv,go_sem]);(try simp only[List.replicate,List.set,hv,go_sem]);refine aAn h (fun hc h=>?_) fun hc h=>?_
   ·replace h:=yaH (f _ (aA h));exact zaB
   ·refine aB h fun g0 h=>?_;(try simp only[I64,I32] at g0);(repeat (refine⟨zAB,?_⟩));replace h:=hA4 _ (aA h);exact zaF
  ·replace h:=yaH (f _ (aA h));refine aD h fun I hv h=>?_;(try simp only[hv,go_sem]);(try simp only[List.replicate,List.set,hv,go_sem]);exact zaB
attribute [go_sem] wP
def dN(F:Md)(f:Int):Option Int :=
 if (f=(1:Int))∨(f=(2:Int)) then some (0:Int) else if ((6:Int)≤f)∧(f≤(9:Int)) then some (2:Int) else if ((10:Int)≤f)∧(f≤(13:Int)) then some (1:Int) else some (-1:Int)
def aJJ:PlR:=⟨[(0,.A [0]),(1,.A [0,3]),(2,.A [2]),(3,.A [0,10]),(4,.A [2]),(5,.A [17]),(6,.A [2]),(7,.A [2])],[],[]⟩
def aLz:Ty:=.pair qi .unit
def tI(F:Md):aH:=mSpec aLz (.one qi) (fun x=>dN F x.1)
abbrev aXK(F:Md):List (FuncId×aH):=[]
theorem aXL(F:Md):bA Tryz.prog GL (aXK F):=.nil
attribute [go_sem] aLz aJJ
theorem aJK(F:Md):FOK Tryz.prog GL 15 (tI F):=by
 refine aX (aY (aXL F)) mix Tryz.func15 rfl xAa xAb aJJ (fun w0 S x Θ g h hV=>?_);obtain⟨(f:Int),u⟩:=x;simp only[bD,go_sem];replace h:sat (dN F f) _:=h;unfold dN at h;refine⟨fun hc=>?_,fun hc=>?_⟩
 ·replace h:=cW hc h;exact zaB
 ·replace h:=cX hc h;refine⟨fun hc=>?_,fun hc=>?_⟩
  ·replace h:=cW hc h;exact zaB
  ·replace h:=cX hc h;refine⟨fun hc=>?_,fun hc=>?_⟩
   ·replace h:=cW hc h;exact zaB
   ·replace h:=cX hc h;exact zaB
attribute [go_sem] tI
@[go_sem]def wQ:Ty:=.pair .expr qo
@[go_sem]def yM(g:Ex→Int→Option (Int×qy)):aH:=mSpec wQ (.tup (.pair qi (.pair qi wo))) (fun x=>g x.1 x.2.1)
def lK(F:Md)(g:Ex→Int→Option (Int×qy))(z:Ex)(f:Int)(J:Int)(I:Int)(q:Int):Option ((Int×Int×Int)⊕(q9⊕(Int×qy))) :=
 if q<(((z.l).length:Nat):Int) then ck (0≤q∧q<(((z.l).length:Nat):Int)) (ck (I64 (f+(1:Int))) (ck ((g ((z.l).getD (q.toNat) (Ex.mk 0 [] [])) (f+(1:Int))).isSome=true) (if ¬(((g ((z.l).getD (q.toNat) (Ex.mk 0 [] [])) (f+(1:Int))).getD ((0:Int),(0:Int),false,())).2.2.1=true) then some (.inr (.inr ((61:Int),(31:Int),false,()))) else ck (I64 (J+((g ((z.l).getD (q.toNat) (Ex.mk 0 [] [])) (f+(1:Int))).getD ((0:Int),(0:Int),false,())).1)) (ck (I64 (((g ((z.l).getD (q.toNat) (Ex.mk 0 [] [])) (f+(1:Int))).getD ((0:Int),(0:Int),false,())).2.1+(1:Int))) (ck (I64 (q+(1:Int))) (some (.inl ((min (J+((g ((z.l).getD (q.toNat) (Ex.mk 0 [] [])) (f+(1:Int))).getD ((0:Int),(0:Int),false,())).1) (61:Int)),(max I (((g ((z.l).getD (q.toNat) (Ex.mk 0 [] [])) (f+(1:Int))).getD ((0:Int),(0:Int),false,())).2.1+(1:Int))),(q+(1:Int)))))))))) else some (.inr (.inl (J,I)))
def rC(F:Md)(g:Ex→Int→Option (Int×qy))(f:Ex)(q:Int):Option (Int×qy) :=
 ck (¬((30:Int)<q)→((dN F (f.kind)).isSome=true)) (ck (¬(((30:Int)<q)∨(((dN F (f.kind)).getD (0:Int))<(0:Int)))→((dN F (f.kind)).isSome=true)) (if (((30:Int)<q)∨(((dN F (f.kind)).getD (0:Int))<(0:Int)))∨(¬(((dN F (f.kind)).getD (0:Int))=(((f.l).length:Nat):Int))) then ck ((dN F (f.kind)).isSome=true) (ck (((0:Int)≤((dN F (f.kind)).getD (0:Int)))→((dN F (f.kind)).isSome=true)) (some ((61:Int),(31:Int),((decide ((0:Int)≤((dN F (f.kind)).getD (0:Int))))&&(decide (((dN F (f.kind)).getD (0:Int))=(((f.l).length:Nat):Int)))),()))) else (bO F (fun d:Int×Int×Int=>lK F g f q d.1 d.2.1 d.2.2) ((1:Int),(1:Int),(0:Int))).bind (fun e=>match e with|(.inl e)=>some (e.1,e.2,true,())|(.inr e)=>some e)))
abbrev aDd(F:Md)(g:Ex→Int→Option (Int×qy)):List (FuncId×aH):=[(15,(tI F)),(7,(yM g))]
theorem aLA(F:Md)(g:Ex→Int→Option (Int×qy))(f:FOK Tryz.prog GL 7 (yM g)):bA Tryz.prog GL (aDd F g):=.cons (aJK F) xAa (.cons f xAa (.nil))
theorem aSU(F:Md)(g:Ex→Int→Option (Int×qy))(N:FOK Tryz.prog GL 7 (yM g)):FOK Tryz.prog GL 7 (mSpec wQ (.tup (.pair qi (.pair qi wo))) (fun x=>rC F g x.1 x.2.1)):=by
 refine wH (aY (aLA F g N)) Tryz.func7 rfl xAa xAb fun w0 S x r O h=>?_;have hF:xT (fr Tryz.prog (EM (aDd F g)) S w0 Tryz.f7.ntmps):=⟨aY (aLA F g N),mix⟩;obtain⟨(I:Ex),(f:Int),u⟩:=x;simp only[wQ,Ty.wf,aE8] at O;simp only[bD,wQ];try dsimp only at h
 replace h:rC F g I f=some r:=h;unfold rC at h;refine aO (dI hF [1,2] (yaA ?_));refine aP (aO (aO (aM hF [1,2,29] (yaA ?_))));obtain⟨g0,h⟩:=bE h;obtain⟨g1,h⟩:=bE h;repeat (refine⟨by first|with_reducible assumption|omega|(intros; first|with_reducible assumption|omega)|(simp only[go_sem] at *; first|with_reducible assumption|omega)|(intro _; exact⟨rfl,by decide⟩)|(intro _; refine(?_:_=aL _); rfl)|(refine(?_:_=aL _); rfl)|exact⟨rfl,rfl⟩|(intro q0; (try have e0:=g0 zAI); (try have e1:=g1 zAI); first|assumption|omega)|decide,?_⟩)
 refine aP (cE rfl (fun hc=>?_) (fun hc=>?_))
 ·try simp only[go_sem] at hc
  have h:=jZ zAD h;refine aO (aM hF [4,5,6] (yaA ?_));obtain⟨g0,h⟩:=bE h;obtain⟨g1,h⟩:=bE h;repeat (refine⟨by first|with_reducible assumption|omega|(intros; first|with_reducible assumption|omega)|(simp only[go_sem] at *; first|with_reducible assumption|omega)|(intro _; exact⟨rfl,by decide⟩)|(intro _; refine(?_:_=aL _); rfl)|(refine(?_:_=aL _); rfl)|exact⟨rfl,rfl⟩|(intro q0; (try have e1:=g1 zAI); first|assumption|omega)|decide,?_⟩)
  obtain rfl:=Option.some.inj h;refine aP (dL (bU (dR hF [.tmp 4,.tmp 5,.tmp 6] rfl rfl rfl ?_)));exact zAK
 ·try simp only[go_sem] at hc
  have h:=iW zAD h;refine dA (aP (aO (aM hF [1,2,7,8] (yaA ?_))));refine aP (aO (aO (aM hF [1,2,7,8,9] (yaA ?_))));refine aP (gU (aCG (D:=Int×Int×Int) [1] (fun d=>[(2,.ptr 0 []),(7,.val qi d.1),(8,.val qi d.2.1),(9,.val qi d.2.2)]) (fun d=>[.inr (.box 3 (.val .expr I))]) h ?_ ?_ ?_))
  ·first|rfl|(simp only[go_sem]; done)
  ·exact zAJ
  rintro⟨L,J,z⟩ W h q;simp only[go_sem];try dsimp only at h
  unfold lK at h;refine aO (aO (aM hF [1,2,7,8,9,47] (yaA ?_)));refine aP (cE rfl (fun hc=>?_) (fun hc=>?_))
  ·(try simp only[go_sem] at hc);have h:=jZ zAD h;refine dA (aP (aO (gU (aO (aM hF [1,2,7,8,9,10,11,12] (yaA ?_))))));obtain⟨g0,h⟩:=bE h;obtain⟨g1,h⟩:=bE h;obtain⟨U,h⟩:=bE h;(try simp only[I64,I32] at g1);(repeat (refine⟨zAA,?_⟩));refine aP (aO (aO (aM hF [1,2,7,8,9,10,11,63] (yaA ?_))));refine aP (cE rfl (fun hc=>?_) (fun hc=>?_))
   ·(try simp only[go_sem] at hc);have h:=jZ zAD h;refine aO (aM hF [4,5,6] (yaA ?_));obtain rfl:=Option.some.inj h;dsimp only[aAq] at q;have h:=yaH (q);obtain rfl:=Option.some.inj h;refine aP (dL (bU (eC (bU (bU (eC (bU (dR hF [.tmp 4,.tmp 5,.tmp 6] rfl rfl rfl ?_))))))));exact zAK
   ·(try simp only[go_sem] at hc);have h:=iW zAD h;refine dA (aP (aM hF [1,2,7,8,9] (yaA ?_)));obtain⟨g0,h⟩:=bE h;obtain⟨g1,h⟩:=bE h;(try simp only[I64,I32] at g0);(try simp only[I64,I32] at g1);(repeat (refine⟨zAA,?_⟩));refine iY (aP (aM hF [1,2,7,8,9] (yaA ?_)));obtain⟨g0,h⟩:=bE h;(try simp only[I64,I32] at g0);(repeat (refine⟨zAA,?_⟩));obtain rfl:=Option.some.inj h;dsimp only[aAq] at q;refine cD (aK ((min (L+((g ((I.l).getD (z.toNat) (Ex.mk 0 [] [])) (f+(1:Int))).getD ((0:Int),(0:Int),false,())).1) (61:Int)),(max J (((g ((I.l).getD (z.toNat) (Ex.mk 0 [] [])) (f+(1:Int))).getD ((0:Int),(0:Int),false,())).2.1+(1:Int))),(z+(1:Int))) q rfl ?_)
    ·exact zAJ
  ·(try simp only[go_sem] at hc);have h:=iW zAD h;obtain rfl:=Option.some.inj h;dsimp only[aAq] at q;have h:=yaH (q);refine aDC (fC (fC (lV (aP (aO (aM hF [4,5,6] (yaA ?_)))))));obtain rfl:=Option.some.inj h;refine aP (dL (dR hF [.tmp 4,.tmp 5,.tmp 6] rfl rfl rfl ?_));exact zAK
def iZ(F:Md):Nat→Ex→Int→Option (Int×qy)
 | 0=>fun _ _=>none
 | n+1=>rC F (iZ F n)
def tJ(F:Md)(n:Nat):aH:=mSpec wQ (.tup (.pair qi (.pair qi wo))) (fun x=>iZ F n x.1 x.2.1)
theorem aFq(F:Md):∀n,FOK Tryz.prog GL 7 (tJ F n)
 | 0=>fun _ _ _ _ _ _ _ hp=>Bool.noConfusion (show false=true from hp)
 | n+1=>aSU F _ (aFq F n)
attribute [go_sem] tJ
@[go_sem]def tK:Ty:=.pair .expr (.pair qx .unit)
@[go_sem]def vW(g:Ex→qj→Option (Bool)):aH:=mSpec tK (.one .bool) (fun x=>g x.1 x.2.1)
def jW(F:Md)(g:Ex→qj→Option (Bool))(q:Ex)(names_1:qj)(f:Int):Option ((Int)⊕((Unit)⊕Bool)) :=
 if f<(((q.l).length:Nat):Int) then ck (0≤f∧f<(((q.l).length:Nat):Int)) (ck ((g ((q.l).getD (f.toNat) (Ex.mk 0 [] [])) names_1).isSome=true) (if ¬(((g ((q.l).getD (f.toNat) (Ex.mk 0 [] [])) names_1).getD false)=true) then some (.inr (.inr false)) else ck (I64 (f+(1:Int))) (some (.inl (f+(1:Int)))))) else some (.inr (.inl ()))
def pC(F:Md)(g:Ex→qj→Option (Bool))(f:Ex)(names_1:qj):Option Bool :=
 if (f.kind)=(1:Int) then ck ((iL F (f.text)).isSome=true) (some ((iL F (f.text)).getD false)) else if (f.kind)=(2:Int) then ck (¬((f.text)=(aI ⟨#[116]⟩))→((hZ F names_1 (f.text)).isSome=true)) (some ((decide ((f.text)=(aI ⟨#[116]⟩)))||(decide ((0:Int)≤((hZ F names_1 (f.text)).getD (0:Int)))))) else if ¬((f.text)=(aI ⟨#[]⟩)) then some false else (bO F (fun d:Int=>jW F g f names_1 d) (0:Int)).bind (fun e=>match e with|(.inl e)=>some true|(.inr e)=>some e)
abbrev yN(F:Md)(g:Ex→qj→Option (Bool)):List (FuncId×aH):=[(66,(rN F)),(77,(mM F)),(80,(vW g))]
theorem aJL(F:Md)(g:Ex→qj→Option (Bool))(f:FOK Tryz.prog GL 80 (vW g)):bA Tryz.prog GL (yN F g):=.cons (aH5 F) xAa (.cons (aFp F) xAa (.cons f xAa (.nil)))
theorem aQe(F:Md)(g:Ex→qj→Option (Bool))(I:FOK Tryz.prog GL 80 (vW g)):FOK Tryz.prog GL 80 (mSpec tK (.one .bool) (fun x=>pC F g x.1 x.2.1)):=by
 refine wH (aY (aJL F g I)) Tryz.func80 rfl xAa xAb fun w0 S x r J h=>?_;have hF:xT (fr Tryz.prog (EM (yN F g)) S w0 Tryz.f80.ntmps):=⟨aY (aJL F g I),mix⟩;obtain⟨(q:Ex),(names_1:qj),u⟩:=x;simp only[tK,Ty.wf,aE8] at J;simp only[bD,tK];try dsimp only at h
 replace h:pC F g q names_1=some r:=h;unfold pC at h;refine aO (dI hF [1,2] (yaA ?_));refine aP (aO (gU (aO (aM hF [1,2,6] (yaA ?_)))));refine aP (cE rfl (fun hc=>?_) (fun hc=>?_))
 ·try simp only[go_sem] at hc
  have h:=jZ zAD h;refine aO (aM hF [4] (yaA ?_));obtain⟨g0,h⟩:=bE h;repeat (refine⟨zAA,?_⟩)
  exact zau
 ·try simp only[go_sem] at hc
  have h:=iW zAD h;refine aO (aM hF [1,2,13] (yaA ?_));refine aP (cE rfl (fun hc=>?_) (fun hc=>?_))
  ·(try simp only[go_sem] at hc);have h:=jZ zAD h;refine aO (aM hF [4] (yaA ?_));obtain⟨g0,h⟩:=bE h;(repeat (refine⟨by first|with_reducible assumption|omega|(intros; first|with_reducible assumption|omega)|(simp only[go_sem] at *; first|with_reducible assumption|omega)|(intro _; exact⟨rfl,by decide⟩)|(intro _; refine(?_:_=aL _); rfl)|(refine(?_:_=aL _); rfl)|exact⟨rfl,rfl⟩|(intro q0; (try have e0:=g0 zAI); first|assumption|omega)|decide,?_⟩));exact zau
  ·(try simp only[go_sem] at hc);have h:=iW zAD h;refine aO (aM hF [1,2,27] (yaA ?_));refine aP (cE rfl (fun hc=>?_) (fun hc=>?_))
   ·(try simp only[go_sem] at hc);have h:=jZ zAD h;refine aO (aM hF [4] (yaA ?_));exact zau
   ·(try simp only[go_sem] at hc);have h:=iW zAD h;refine dA (iY (aP (aO (aO (aM hF [1,2,5] (yaA ?_))))));refine aP (gU (aCG (D:=Int) [1] (fun d=>[(2,.ptr 0 []),(5,.val qi d)]) (fun d=>[.inr (.box 3 (.val .expr q))]) h ?_ ?_ ?_))
    ·first|rfl|(simp only[go_sem]; done)
    ·exact zAJ
    rintro z L h f;simp only[go_sem];(try dsimp only at h);unfold jW at h;refine aO (aO (aM hF [1,2,5,35] (yaA ?_)));refine aP (cE rfl (fun hc=>?_) (fun hc=>?_))
    ·(try simp only[go_sem] at hc);have h:=jZ zAD h;refine dA (aP (aO (gU (aO (aM hF [1,2,5,45] (yaA ?_))))));obtain⟨g0,h⟩:=bE h;obtain⟨g1,h⟩:=bE h;(repeat (refine⟨zAA,?_⟩));refine aP (cE rfl (fun hc=>?_) (fun hc=>?_))
     ·(try simp only[go_sem] at hc);have h:=jZ zAD h;refine aO (aM hF [4] (yaA ?_));obtain rfl:=Option.some.inj h;dsimp only[aAq] at f;have h:=yaH (f);obtain rfl:=Option.some.inj h;refine aP (dL (eC (bU (bU (eC (bU (dR hF [.tmp 4] rfl rfl rfl ?_)))))));exact zAK
     ·(try simp only[go_sem] at hc);have h:=iW zAD h;refine dA (iY (aP (aM hF [1,2,5] (yaA ?_))));obtain⟨g0,h⟩:=bE h;(try simp only[I64,I32] at g0);(repeat (refine⟨zAA,?_⟩));obtain rfl:=Option.some.inj h;dsimp only[aAq] at f;refine cD (aK (z+(1:Int)) f rfl ?_)
      ·exact zAJ
    ·(try simp only[go_sem] at hc);have h:=iW zAD h;obtain rfl:=Option.some.inj h;dsimp only[aAq] at f;have h:=yaH (f);refine aDC (fC (fC (lV (aP (aO (aM hF [4] (yaA ?_)))))));obtain rfl:=Option.some.inj h;refine aP (dL (dR hF [.tmp 4] rfl rfl rfl ?_));exact zAK
def jK(F:Md):Nat→Ex→qj→Option (Bool)
 | 0=>fun _ _=>none
 | n+1=>pC F (jK F n)
def aAP(F:Md)(n:Nat):aH:=mSpec tK (.one .bool) (fun x=>jK F n x.1 x.2.1)
theorem aIv(F:Md):∀n,FOK Tryz.prog GL 80 (aAP F n)
 | 0=>fun _ _ _ _ _ _ _ hp=>Bool.noConfusion (show false=true from hp)
 | n+1=>aQe F _ (aIv F n)
attribute [go_sem] aAP
def kD(F:Md)(g:Ex)(names_1:qj):Option Bool :=
 (iZ F 64 g (1:Int)).bind (fun f=>ck ((((f.2.2.1=true)∧(f.1≤(60:Int)))∧(f.2.1≤(30:Int)))→((jK F 64 g names_1).isSome=true)) (some (((f.2.2.1&&(decide (f.1≤(60:Int))))&&(decide (f.2.1≤(30:Int))))&&((jK F 64 g names_1).getD false))))
def aG0:PlR:=⟨[(0,.B [1,2]),(1,.A [1,2,5,6,7]),(2,.A [4])],[],[]⟩
def aIw:Ty:=.pair .expr (.pair qx .unit)
def zV(F:Md):aH:=mSpec aIw (.one .bool) (fun x=>kD F x.1 x.2.1)
abbrev aD5(F:Md):List (FuncId×aH):=[(7,(tJ F 64)),(80,(aAP F 64))]
theorem aSV(F:Md):bA Tryz.prog GL (aD5 F):=.cons (aFq F 64) xAa (.cons (aIv F 64) xAa (.nil))
attribute [go_sem] aIw aG0
theorem aQf(F:Md):FOK Tryz.prog GL 48 (zV F):=by
 refine aX (aY (aSV F)) mix Tryz.func48 rfl xAa xAb aG0 (fun w0 S x Θ q h hV=>?_);obtain⟨(f:Ex),(names_1:qj),u⟩:=x;simp only[bD,go_sem];replace h:sat (kD F f names_1) _:=h;unfold kD at h;refine aD h fun g hv h=>?_;try simp only[hv,go_sem]
 refine aG h fun g0 h=>?_;exact zaE
attribute [go_sem] zV
def jL(F:Md)(f:qd):Option Bool :=
 ck (((0:Int)<(f.length:Int))→((0:Int)<(f.length:Int))) (if ((0:Int)<(f.length:Int))∧((f.getD (0:Nat) (0:Nat))=(45:Nat)) then ck ((1:Int)≤(f.length:Int)) ((iL F (List.drop (1:Nat) f)).bind (fun v_5=>some v_5)) else (iL F f).bind (fun g=>some g))
def aIx:PlR:=⟨[(0,.A [0]),(1,.A [0,10]),(2,.A [0]),(3,.A [2])],[],[]⟩
def aJM:Ty:=.pair .str .unit
def aAQ(F:Md):aH:=mSpec aJM (.one .bool) (fun x=>jL F x.1)
abbrev aJN(F:Md):List (FuncId×aH):=[(66,(rN F))]
theorem aVH(F:Md):bA Tryz.prog GL (aJN F):=.cons (aH5 F) xAa (.nil)
attribute [go_sem] aJM aIx
theorem aSW(F:Md):FOK Tryz.prog GL 78 (aAQ F):=by
 refine aX (aY (aVH F)) mix Tryz.func78 rfl xAa xAb aIx (fun w0 S x Θ q h hV=>?_);obtain⟨(f:qd),u⟩:=x;simp only[bD,go_sem];replace h:sat (jL F f) _:=h;unfold jL at h;refine aG h fun g0 h=>?_;refine⟨fun hc=>?_,fun hc=>?_⟩
 ·replace h:=cW hc h;refine aG h fun g0 h=>?_;exact zaU
 ·replace h:=cX hc h;refine aD h fun g hv h=>?_;try simp only[hv,go_sem]
  exact zaB
attribute [go_sem] aAQ
def lL(F:Md)(f:qd):Option (qd×vl) :=
 ck (((0:Int)<(f.length:Int))→((0:Int)<(f.length:Int))) (if ((0:Int)<(f.length:Int))∧((f.getD (0:Nat) (0:Nat))=(45:Nat)) then ck ((1:Int)≤(f.length:Int)) (some ((List.drop (1:Nat) f),true,())) else some (f,false,()))
def aFX:PlR:=⟨[(0,.A [0]),(1,.A [0,11]),(2,.A [2,3]),(3,.A [2,3])],[],[]⟩
def aG1:Ty:=.pair .str .unit
def xF(F:Md):aH:=mSpec aG1 (.tup (.pair .str wo)) (fun x=>lL F x.1)
abbrev aQg(F:Md):List (FuncId×aH):=[]
theorem aQh(F:Md):bA Tryz.prog GL (aQg F):=.nil
attribute [go_sem] aG1 aFX
theorem aOb(F:Md):FOK Tryz.prog GL 118 (xF F):=by
 refine aX (aY (aQh F)) mix Tryz.func118 rfl xAa xAb aFX (fun w0 S x Θ g h hV=>?_);obtain⟨(f:qd),u⟩:=x;simp only[bD,go_sem];replace h:sat (lL F f) _:=h;unfold lL at h;refine aG h fun g0 h=>?_;refine⟨fun hc=>?_,fun hc=>?_⟩
 ·replace h:=cW hc h;refine aG h fun g0 h=>?_;exact aE hV [.tmp 2,.tmp 3] rfl rfl rfl (aA h) xAd
 ·replace h:=cX hc h;exact aE hV [.tmp 2,.tmp 3] rfl rfl rfl (aA h) xAd
attribute [go_sem] xF
def sL(F:Md)(W:qd)(Y:qd):Option Bool :=
 (lL F W).bind (fun J=>(lL F Y).bind (fun I=>(oJ F J.1).bind (fun g=>(oJ F I.1).bind (fun f=>ck (I64 (g.2.1-(min g.2.1 f.2.1))) ((yL F (g.2.1-(min g.2.1 f.2.1))).bind (fun O=>(lI F g.1 O).bind (fun z=>ck (I64 (f.2.1-(min g.2.1 f.2.1))) ((yL F (f.2.1-(min g.2.1 f.2.1))).bind (fun L=>(lI F f.1 L).bind (fun q=>if ((J.2.1&&(decide ((0:Int)<(z.length:Int)))) != (I.2.1&&(decide ((0:Int)<(q.length:Int)))))=true then some (I.2.1&&(decide ((0:Int)<(q.length:Int)))) else if (J.2.1=true)∧((0:Int)<(z.length:Int)) then (sK F z q).bind (fun N=>some (decide (N<(0:Int)))) else (sK F z q).bind (fun U=>some (decide ((0:Int)<U)))))))))))))
def aJO:PlR:=⟨[(0,.stop),(1,.stop),(2,.stop),(3,.stop),(4,.stop),(5,.stop),(6,.stop),(7,.stop),(8,.stop),(9,.stop),(10,.stop),(11,.stop),(12,.stop)],[],[]⟩
def aLB:Ty:=.pair .str wi
def aB7(F:Md):aH:=mSpec aLB (.one .bool) (fun x=>sL F x.1 x.2.1)
abbrev wR(F:Md):List (FuncId×aH):=[(115,(uL F)),(118,(xF F)),(67,(wO F)),(69,(oV F)),(70,(aBy F))]
theorem aXM(F:Md):bA Tryz.prog GL (wR F):=.cons (aJH F) xAa (.cons (aOb F) xAa (.cons (aLu F) xAa (.cons (aFW F) xAa (.cons (aRI F) xAa (.nil)))))
attribute [go_sem] aLB aJO
theorem aVI(F:Md):FOK Tryz.prog GL 79 (aB7 F):=by
 refine aX (aY (aXM F)) mix Tryz.func79 rfl xAa xAb aJO (fun w0 S x Θ Z h hV=>?_);obtain⟨(f:qd),(g:qd),u⟩:=x;simp only[bD,go_sem];replace h:sat (sL F f g) _:=h;unfold sL at h;refine bZ hV [0,1] (yaA ?_);refine bZ hV [1,5,6] (yaA ?_);refine aD h fun Y hv h=>?_;try simp only[hv,go_sem]
 refine bZ hV [5,6,7,8] (yaA ?_);refine aD h fun I hv h=>?_;try simp only[hv,go_sem]
 refine bZ hV [6,7,8,9,10] (yaA ?_);refine aD h fun W hv h=>?_;try simp only[hv,go_sem]
 refine bZ hV [6,8,9,10,11,12] (yaA ?_);refine aD h fun z hv h=>?_;try simp only[hv,go_sem]
 refine bZ hV [6,8,9,10,11,12,13] (yaA ?_);refine bZ hV [6,8,9,11] (yaA ?_);refine aG h fun g0 h=>?_;refine aD h fun N hv h=>?_;try simp only[hv,go_sem]
 refine aD h fun U hv h=>?_;try simp only[hv,go_sem]
 refine aG h fun g0 h=>?_;refine aD h fun q hv h=>?_;try simp only[hv,go_sem]
 refine aD h fun J hv h=>?_;try simp only[hv,go_sem]
 refine bZ hV [6,8,9,11] (yaA ?_);refine bZ hV [6,8,9,11,61] (yaA ?_);refine aFb h (fun hc h=>?_) fun hc h=>?_
 ·refine bZ hV [4] (yaA ?_);exact zaE
 ·refine bZ hV [9,11,66] (yaA ?_);refine⟨fun hc=>?_,fun hc=>?_⟩
  ·replace h:=cW hc h;refine bZ hV [4] (yaA ?_);refine aD h fun L hv h=>?_;exact zaW
  ·replace h:=cX hc h;refine bZ hV [4] (yaA ?_);refine aD h fun O hv h=>?_;exact zaW
attribute [go_sem] aB7
def lM(F:Md)(f:qm):Option Bool :=
 (jL F f.1).bind (fun v_5=>ck ((v_5=true)→ ¬(f.2.1=(aI ⟨#[]⟩))→((jL F f.2.1).isSome=true)) (ck ((v_5=true)→ ¬(f.2.1=(aI ⟨#[]⟩))→(((jL F f.2.1).getD false)=true)→((sL F f.1 f.2.1).isSome=true)) (some (v_5&&((decide (f.2.1=(aI ⟨#[]⟩)))||(((jL F f.2.1).getD false)&&(!((sL F f.1 f.2.1).getD false))))))))
def aFY:PlR:=⟨[(0,.B [1]),(1,.A [2])],[],[]⟩
def aG2:Ty:=.pair qn .unit
def xG(F:Md):aH:=mSpec aG2 (.one .bool) (fun x=>lM F x.1)
abbrev aCO(F:Md):List (FuncId×aH):=[(78,(aAQ F)),(79,(aB7 F))]
theorem aQl(F:Md):bA Tryz.prog GL (aCO F):=.cons (aSW F) xAa (.cons (aVI F) xAa (.nil))
attribute [go_sem] aG2 aFY
theorem aOe(F:Md):FOK Tryz.prog GL 47 (xG F):=by
 refine aX (aY (aQl F)) mix Tryz.func47 rfl xAa xAb aFY (fun w0 S x Θ q h hV=>?_);obtain⟨(g:qm),u⟩:=x;simp only[bD,go_sem];replace h:sat (lM F g) _:=h;unfold lM at h;refine aD h fun v_5 hv h=>?_;try simp only[hv,go_sem]
 refine aB h fun g0 h=>?_;refine aB h fun g1 h=>?_;repeat (refine⟨by first|with_reducible assumption|omega|(intros; first|with_reducible assumption|omega)|(intro _; exact⟨rfl,by decide⟩)|(intro _; refine(?_:_=aL _); rfl)|(refine(?_:_=aL _); rfl)|exact⟨rfl,rfl⟩|(intro q0 q1; (try have e0:=g0 zAI (by first|exact q1|omega|(simpa using q1))); first|assumption|omega)|(rintro⟨q0,q1⟩; (try have e0:=g0 zAI (by first|exact q1|omega|(simpa using q1))); first|assumption|omega)|(intro q0 q1 f; (try have e1:=g1 zAI (by first|exact q1|omega|(simpa using q1)) (by first|exact f|omega|(simpa using f))); first|assumption|omega)|(rintro⟨q0,q1,f⟩; (try have e1:=g1 zAI (by first|exact q1|omega|(simpa using q1)) (by first|exact f|omega|(simpa using f))); first|assumption|omega)|(rintro⟨⟨q0,q1⟩,f⟩; (try have e1:=g1 zAI (by first|exact q1|omega|(simpa using q1)) (by first|exact f|omega|(simpa using f))); first|assumption|omega)|decide,?_⟩)
 exact zaB
attribute [go_sem] xG
section
open Go.Shelf Go.RowKit Go.Lib
theorem bJM(n:Nat)(w:World)(L:n≤1073741824) :
  Calls Tryz.prog 91 #[.slice none 0 0,.int .i64 n] w fun e w'=>(n=0∧e= .returned (.slice none 0 0)∧w'=w) ∨
   (0<n∧e= .returned (.slice (some ⟨w.heap.size,0,none⟩) 0 (grownCap w n 0 9))∧w'=w.drew.alloc (.cells (Builtin.zeroCells #[Value.string ⟨#[]⟩] n++Builtin.zeroCells #[Value.string ⟨#[]⟩] (grownCap w n 0 9-n)) 9)):=by
 have I:¬((n:Int)<0):=by omega
 have h3:wrap64 ((n:Int)-wrap64 (0-0))=(n:Int):=by unfold wrap64; omega
 have N:wrap64 (n:Int)=(n:Int):=by unfold wrap64; omega
 obtain⟨i,hi,q,hs,hb⟩:∃i,Tryz.prog.info? 9=some i∧i.zero=some (.string ⟨#[]⟩)∧i.size=1∧i.bytes=16:=⟨_,rfl,rfl,rfl,rfl⟩
 go_enter Tryz.func91,Tryz.ntmps91
 rcases Nat.eq_zero_or_pos n with rfl|hp
 ·go_wp2
  go_ret
  exact⟨rfl,rfl⟩
 ·have J:(n:Int)>0:=by omega
  have f:∀ty,(Builtin.append_ #[42,3] ty #[.slice none 0 0,.int .i64 (n:Int)]).run Tryz.prog w= .ok (.slice (some ⟨w.heap.size,0,none⟩) n (grownCap w n 0 9)) (w.drew.alloc (.cells (Builtin.zeroCells #[Value.string ⟨#[]⟩] n++Builtin.zeroCells #[Value.string ⟨#[]⟩] (grownCap w n 0 9-n)) 9)) :=
   fun ty=>Lib.run_append_nil_zeros w 42 3 ty 9 i (.string ⟨#[]⟩) .i64 .i64 rfl rfl hi q n hp (by omega) (by omega) (by rw[hb]; omega)
  have z:=grownCap_ge w n 0 9;have g:=grownCap_le_maxLen w n 0 9 (by unfold maxLen; omega);unfold maxLen at g;generalize grownCap w n 0 9=G at *
  go_wp2_with (at_builtin; refine Lib.wpList_append_run _ rfl _ _ _ _ rfl _ _ rfl rfl _ _ (f _) ?_)
  go_ret
  exact .inr ⟨rfl,rfl⟩
end
def iM(F:Md)(n:Int):Option qj:=ck (0≤n∧n≤1073741824) (some [])
@[go_sem]def gW(F:Md):qW where
 D:=Int×qj
 av:=fun d=>[.nilS,.val qi d.1]
 hp:=fun d=>[]
 m:=0
 pre:=fun d=>iM F d.1=some d.2
 out:=fun d=>(fun r:qj=>.ret (.own 0) [.row 9 .str (r)]) d.2
@[go_sem]def aCv(F:Md)(vs:List AV)(h:List Vc.Obj):Hit:=mkH (iM F (aBQ h vs 1 qi)) ([]:List qd) fun r=>⟨(gW F),[],((aBQ h vs 1 qi),r)⟩
theorem bC5{F:Md}{c:Ctx}{w w':World}{d:(gW F).D}(hd:d.2= [])(good:Go.Vc.Good (GM (gW F) c d) w c [] w)(hk:fB nothing w w')(v:Value)(hv:∃a n m,v= .slice a n m)(f:w'.ownsRow 0 9 1 v 0 [])(hb:∀b,aW v=some b→w.heap.size≤b∧b<w'.heap.size) :
  aMd (gW F) c w d (.returned v) w':=by
 have e1:(c.push v).hd c.n=v:=by simp[Ctx.push]
 have h0:c.n=0:=good.n;have:=good.push hk (o:=.row 9 .str []) (hv:=v) (by
  show aBI _ _ _ _ _ _;rw[e1];exact⟨[],f,⟨rfl,[],rfl,rfl,fun i h=>by simp at h⟩⟩) (fun b h=>hb b (by simpa [dP,e1] using h))
 refine⟨c.push v,?_⟩;show ∃u,_∧Go.Vc.Good _ _ _ [.row 9 .str d.2] _∧aZ _ _ (.own 0) u;rw[hd];refine⟨v,rfl,this.1,?_⟩;have:=aE7 (c:=c) (v':=v) hv (w':=w') (S':=c.S);rw[h0] at this;exact this
theorem aIU(F:Md):GOK Tryz.prog GL 91 (gW F):=by
 rintro c w ⟨n,r⟩ I g ⟨good,glob,len,val⟩;have g:iM F n=some r:=g;unfold iM at g;obtain⟨⟨Z,h2⟩,g⟩:=bE g;have U:[]=r:=Option.some.inj g;have O:=val 0 (by show 0<2; decide) (by rw[len]; show 0<2; decide);have N:=val 1 (by show 1<2; decide) (by rw[len]; show 1<2; decide);have e0:I.toList[0]'(by rw[len]; show 0<2; decide)= .slice none 0 0:=by
  obtain⟨q1,_,q⟩:=O;have q:=q rfl;revert q1 q;generalize I.toList[0]'(by rw[len]; show 0<2; decide)=W;intro q1 q;have q1:W.cells.toList= [.slice none 0 0]:=q1;cases W<;>simp[Value.cells] at q1 q<;>simp[q1]
 obtain⟨e1,_,_⟩:=aGy (k:=.i64) (n:=n) N;have L:I= #[.slice none 0 0,.int .i64 (n.toNat:Int)]:=by
  have z:I.toList.length=2:=len;rw[← Array.toList_inj];apply List.ext_getElem
  ·exact z
  ·intro i a1 Y
   match i,Y with
   | 0,_=>exact e0
   | 1,_=>show _=Value.int .i64 (n.toNat:Int); rw[Int.toNat_of_nonneg Z]; exact e1
 rw[L];refine Calls.mono (f:=91) (bJM n.toNat w (by omega)) ?_;rintro e w' (⟨_,rfl,rfl⟩|⟨hp,rfl,rfl⟩)
 ·exact bC5 (d:=(n,r)) U.symm good (.refl nothing _) _ ⟨_,_,_,rfl⟩ ⟨rfl,.inl ⟨rfl,rfl⟩⟩ (fun b h=>by simp[aW] at h)
 ·have hG:=grownCap_ge w n.toNat 0 9;have J:=grownCap_le_maxLen w n.toNat 0 9 (by unfold maxLen; omega);have hk:∀o,fB nothing w (w.drew.alloc o):=fun o=>have k:=fB.alloc nothing w.drew o; ⟨rfl,rfl,rfl,k.size,k.block⟩;refine bC5 (d:=(n,r)) U.symm good (hk _) _ ⟨_,_,_,rfl⟩ ⟨rfl,.inr ⟨w.heap.size,_,Builtin.zeroCells #[Value.string ⟨#[]⟩] n.toNat++Builtin.zeroCells #[Value.string ⟨#[]⟩] (grownCap w n.toNat 0 9-n.toNat),rfl,Nat.zero_le _,?_,Nat.zero_le _,J,?_,rfl⟩⟩ ?_
  ·show (w.heap.push _)[w.heap.size]? = _;simp
  ·simp[Builtin.zeroCells];omega
  ·intro b h;simp only[aW,Option.some.injEq] at h;subst h;refine⟨Nat.le_refl _,?_⟩;show w.heap.size<(w.heap.push _).size;simp
def lN(F:Md)(f:(List qh)):Option (Bool) :=
 ck ((2:Int)<(f.length:Int)) (ck ((1:Int)<(f.length:Int)) ((uY F (f.getD (2:Nat) (false,[],0,())) (f.getD (1:Nat) (false,[],0,()))).bind (fun g=>ck ((g≤(0:Int))→((0:Int)<(f.length:Int))) (ck ((g≤(0:Int))→((1:Int)<(f.length:Int))) (ck ((g≤(0:Int))→((eE F (f.getD (0:Nat) (false,[],0,())) (f.getD (1:Nat) (false,[],0,())) (256:Int)).isSome=true)) (ck (((g≤(0:Int))∧(((eE F (f.getD (0:Nat) (false,[],0,())) (f.getD (1:Nat) (false,[],0,())) (256:Int)).getD false)=true))→((1:Int)<(f.length:Int))) (ck (((g≤(0:Int))∧(((eE F (f.getD (0:Nat) (false,[],0,())) (f.getD (1:Nat) (false,[],0,())) (256:Int)).getD false)=true))→((2:Int)<(f.length:Int))) (ck (((g≤(0:Int))∧(((eE F (f.getD (0:Nat) (false,[],0,())) (f.getD (1:Nat) (false,[],0,())) (256:Int)).getD false)=true))→((eE F (f.getD (1:Nat) (false,[],0,())) (f.getD (2:Nat) (false,[],0,())) (4096:Int)).isSome=true)) (some (((decide (g≤(0:Int)))&&((eE F (f.getD (0:Nat) (false,[],0,())) (f.getD (1:Nat) (false,[],0,())) (256:Int)).getD false))&&((eE F (f.getD (1:Nat) (false,[],0,())) (f.getD (2:Nat) (false,[],0,())) (4096:Int)).getD false)))))))))))
def qC(F:Md)(z:qa)(f:Int)(q:(List qh)):Option ((Int×(List qh))⊕((List qh)⊕Bool)) :=
 if f<(4:Int) then ck (0≤f∧f<(4:Int)) ((aBv F (([z.2.2.2.2.1,z.2.2.2.2.2.1,z.2.2.2.2.2.2.1,z.2.2.2.2.2.2.2.1]:List qd).getD (f.toNat) ([]:List Nat))).bind (fun g=>ck (¬(¬(g.2.1=(0:Int)))→((gS F g.1).isSome=true)) (if (¬(g.2.1=(0:Int)))∨(((gS F g.1).getD (0:Int))≤(0:Int)) then some (.inr (.inr false)) else ck (((q.length)+(1:Nat))*73≤140737488355328) (ck (I64 (f+(1:Int))) (some (.inl ((f+(1:Int)),(q++([g.1]:List qh))))))))) else some (.inr (.inl q))
def rD(F:Md)(f:qa):Option Bool :=
 if ((((((f.1<(8:Int))∨((200:Int)<f.1))∨(f.2.1<(1:Int)))∨((20:Int)<f.2.1))∨(f.2.2.1<(0:Int)))∨((3:Int)<f.2.2.1))∨((¬(f.2.2.2.1=(1:Int)))∧(¬(f.2.2.2.1=(2:Int)))) then some false else (bO F (fun d:Int×(List qh)=>qC F f d.1 d.2) ((0:Int),([]:List qh))).bind (fun e=>match e with|(.inl e)=>lN F e|(.inr e)=>some e)
def aG3:PlR:=⟨[(0,.B [1]),(1,.A [1,45]),(2,.A [2]),(3,.A [1,3]),(4,.A [3,54,55,56]),(5,.A [3,54,55,56,57]),(6,.A [3,5,54,55,56]),(7,.B [3,6,7,54,55,56]),(8,.A [3,6,54,55,56,71]),(9,.A [2]),(10,.B [3,54,55,56]),(11,.A [3,54,55,56]),(12,.A [2])],[(7,15)],[]⟩
def aIy:Ty:=.pair qe .unit
def zW(F:Md):aH:=mSpec aIy (.one .bool) (fun x=>rD F x.1)
abbrev vX(F:Md):List (FuncId×aH):=[(49,(aEz F)),(50,(zI F)),(51,(aBn F)),(52,(aC6 F))]
theorem aSX(F:Md):bA Tryz.prog GL (vX F):=.cons (bAi F) xAa (.cons (aNA F) xAa (.cons (aRq F) xAa (.cons (aXB F) xAa (.nil))))
attribute [go_sem] aIy aG3
theorem aQm(F:Md):FOK Tryz.prog GL 33 (zW F):=by
 refine aX (aY (aSX F)) mix Tryz.func33 rfl xAa xAb aG3 (fun w0 S x Θ hw h hV=>?_);obtain⟨(f:qa),u⟩:=x;simp only[bD,go_sem];replace h:sat (rD F f) _:=h;unfold rD at h;refine⟨fun hc=>?_,fun hc=>?_⟩
 ·replace h:=cW hc h;exact zaB
 ·replace h:=cX hc h;refine bH hV (D:=(List qh)) (fun d=>sat (lN F d) Θ) [] (fun d=>[(3,.own 0)]) (fun d=>[.inr (.row 74 qg d)]) ?_ ?_
  ·simp only[go_sem];refine pM 3 74 qg rfl (yaA ?_);refine zB [1] rfl rfl (yaA ?_);refine aU hV (D:=Int×(List qh)) [55] (fun d=>[(3,.own 0),(54,.val qx ([f.2.2.2.2.1,f.2.2.2.2.2.1,f.2.2.2.2.2.2.1,f.2.2.2.2.2.2.2.1]:List qd)),(56,.val qi d.1)]) (fun d=>[.inr (.row 74 qg d.2)]) h rfl (by (try simp only[rY,kN,true_or,and_self,go_sem])<;>(repeat' apply And.intro)<;>first|rfl|(left; rfl)|(right; rfl)|(left; simp only[go_sem]; done)|(right; simp only[go_sem]; done)|(simp; done)|(simp only[*]; done)|omega) ?_;rintro⟨g,q⟩ A5 T5 hA5 z h;simp only[go_sem];replace h:sat (qC F f g q) _:=h;unfold qC at h;refine bP h (fun hc h=>?_) fun hc h=>?_
   ·refine aB h fun g0 h=>(yaC ?_);refine aD h fun J hv h=>?_;(try simp only[hv,go_sem]);refine aB h fun g0 h=>(yaG ?_);refine⟨fun hc=>?_,fun hc=>?_⟩
    ·replace h:=cW zAD h;replace h:=yaH (z _ (aA h));exact zaB
    ·replace h:=cX zAD h;refine aB h fun g0 h=>(yaC ?_);refine aB h fun g0 h=>?_;(try simp only[I64,I32] at g0);(repeat (refine⟨zAB,?_⟩));replace h:=hA5 _ (aA h);refine fA [2] rfl rfl (yaA ?_);exact zaF
   ·replace h:=yaH (z _ (aA h));exact aK (q) h rfl xAc
  ·rintro I h;simp only[go_sem];replace h:sat (lN F I) _:=h;unfold lN at h;refine aB h fun g0 h=>?_;refine aB h fun g1 h=>(yaC ?_);refine aD h fun L hv h=>?_;(try simp only[hv,go_sem]);refine aB h fun g0 h=>?_;refine aB h fun g1 h=>?_;refine aB h fun N h=>?_;refine aB h fun W h=>?_;refine aB h fun U h=>?_;refine aB h fun O h=>?_;(repeat (refine⟨by first|with_reducible assumption|omega|(intros; first|with_reducible assumption|omega)|(intro _; exact⟨rfl,by decide⟩)|(intro _; refine(?_:_=aL _); rfl)|(refine(?_:_=aL _); rfl)|exact⟨rfl,rfl⟩|(intro q0; (try have e0:=g0 zAI); (try have e1:=g1 zAI); (try have Y:=N zAI); (try have e3:=W zAI); (try have Z:=U zAI); (try have e5:=O zAI); first|assumption|omega)|decide,?_⟩));exact zaB
attribute [go_sem] zW
def zX(F:Md)(q:qj)(g:qf)(f:qj):Option qz :=
 some (q,f,g.2.2.2.1,())
def lO(F:Md)(q:qf)(f:Int)(g:qj):Option ((Int×qj)⊕qj) :=
 if f<(q.2.2.1.length:Int) then ck (0≤f∧f<(q.2.2.1.length:Int)) (ck (((g.length)+(1:Nat))*16≤140737488355328) (ck (I64 (f+(1:Int))) (some (.inl ((f+(1:Int)),(g++([(q.2.2.1.getD (f.toNat) ([],([],[],()),())).1]:List qd))))))) else some (.inr g)
def tL(F:Md)(f:qf)(g:qj):Option qz :=
 (bO F (fun d:Int×qj=>lO F f d.1 d.2) ((0:Int),([]:List qd))).bind (fun e=>zX F g f e)
def lP(F:Md)(q:qf)(f:Int)(g:qj):Option ((Int×qj)⊕qj) :=
 if f<(q.2.1.length:Int) then ck (0≤f∧f<(q.2.1.length:Int)) (ck (((g.length)+(1:Nat))*16≤140737488355328) (ck (I64 (f+(1:Int))) (some (.inl ((f+(1:Int)),(g++([(q.2.1.getD (f.toNat) ([],([],[],()),(Ex.mk 0 [] []),())).1]:List qd))))))) else some (.inr g)
def bF(F:Md)(f:qf):Option qz :=
 (bO F (fun d:Int×qj=>lP F f d.1 d.2) ((0:Int),([]:List qd))).bind (fun e=>tL F f e)
def aJP:PlR:=⟨[(0,.B [1,2,3]),(1,.A [1,2,3,10,11,12]),(2,.A [1,2,3,10,11,12,13]),(3,.B [1,2,3,6,10,11,12]),(4,.B [1,2,3,10,11,12]),(5,.A [1,2,3,10,11,12]),(6,.A [1,2,3,23,24,25]),(7,.A [1,2,3,23,24,25,26]),(8,.B [1,2,3,8,23,24,25]),(9,.B [1,2,3,23,24,25]),(10,.A [1,2,3,23,24,25]),(11,.A [2,3,4])],[(4,9),(9,14)],[]⟩
def aLC:Ty:=.pair qc .unit
def aB8(F:Md):aH:=mSpec aLC (.tup (.pair qx (.pair qx (.pair qx .unit)))) (fun x=>bF F x.1)
abbrev aXN(F:Md):List (FuncId×aH):=[]
theorem aXO(F:Md):bA Tryz.prog GL (aXN F):=.nil
attribute [go_sem] aLC aJP
theorem aVJ(F:Md):FOK Tryz.prog GL 53 (aB8 F):=by
 refine aX (aY (aXO F)) mix Tryz.func53 rfl xAa xAb aJP (fun w0 S x Θ U h hV=>?_);obtain⟨(f:qf),u⟩:=x;simp only[bD,go_sem];replace h:sat (bF F f) _:=h;unfold bF at h;refine bH hV (D:=qj) (fun d=>sat (tL F f d) Θ) [3] (fun d=>[(1,.ptr 0 []),(2,.own 1)]) (fun d=>[.inr (.box 5 (.val qc f)),.inr (.row 9 .str d)]) ?_ ?_
 ·simp only[go_sem];refine pM 2 9 .str rfl (yaA ?_);refine aU hV (D:=Int×qj) [3,10,11] (fun d=>[(1,.ptr 0 []),(2,.own 1),(12,.val qi d.1)]) (fun d=>[.inr (.box 5 (.val qc f)),.inr (.row 9 .str d.2)]) h rfl xAc ?_;rintro⟨q,J⟩ Y T2 hA2 hE2 h;simp only[go_sem];replace h:sat (lP F f q J) _:=h;unfold lP at h;refine bP h (fun hc h=>?_) fun hc h=>?_
  ·refine aB h fun g0 h=>(yaB ?_);refine aB h fun g0 h=>(yaB ?_);refine aG h fun g0 h=>?_;replace h:=hA2 _ (aA h);refine fA [0,3] rfl rfl (yaA ?_);exact zaF
  ·replace h:=yaH (hE2 _ (aA h));exact aK (J) h rfl xAc
 ·rintro g h;simp only[go_sem];replace h:sat (tL F f g) _:=h;unfold tL at h;refine bH hV (D:=qj) (fun d=>sat (zX F g f d) Θ) [] (fun d=>[(1,.ptr 0 []),(2,.own 1),(3,.own 2)]) (fun d=>[.inr (.box 5 (.val qc f)),.inr (.row 9 .str g),.inr (.row 9 .str d)]) ?_ ?_
  ·simp only[go_sem];refine pM 3 9 .str rfl (yaA ?_);refine aU hV (D:=Int×qj) [23,24] (fun d=>[(1,.ptr 0 []),(2,.own 1),(3,.own 2),(25,.val qi d.1)]) (fun d=>[.inr (.box 5 (.val qc f)),.inr (.row 9 .str g),.inr (.row 9 .str d.2)]) h rfl xAc ?_;rintro⟨z,I⟩ Z W N O h;simp only[go_sem];replace h:sat (lO F f z I) _:=h;unfold lO at h;refine bP h (fun hc h=>?_) fun hc h=>?_
   ·refine aB h fun g0 h=>(yaB ?_);refine aB h fun g0 h=>(yaB ?_);refine aG h fun g0 h=>?_;replace h:=N _ (aA h);refine fA [0,1,4] rfl rfl (yaA ?_);exact zaF
   ·replace h:=yaH (O _ (aA h));exact aK (I) h rfl xAc
  ·rintro L h;simp only[go_sem];replace h:sat (zX F g f L) _:=h;unfold zX at h;exact zaZ
attribute [go_sem] aB8
def eH(F:Md)(slices_0:(List qj))(f:Int)(newslice_14:qj):Option ((Int×qj)⊕qj) :=
 if f<(slices_0.length:Int) then ck (0≤f∧f<(slices_0.length:Int)) (ck (((newslice_14.length)+(slices_0.getD (f.toNat) ([]:List qd)).length)*16≤140737488355328) (ck (I64 (f+(1:Int))) (some (.inl ((f+(1:Int)),(newslice_14++(slices_0.getD (f.toNat) ([]:List qd)))))))) else some (.inr newslice_14)
def gM(F:Md)(slices_0:(List qj))(f:Int):Option qj :=
 (iM F f).bind (fun g=>(bO F (fun d:Int×qj=>eH F slices_0 d.1 d.2) ((0:Int),g)).bind (fun e=>some e))
def gN(F:Md)(slices_0:(List qj))(g:Int)(f:Int):Option (q9⊕(Int)) :=
 if f<(slices_0.length:Int) then ck (0≤f∧f<(slices_0.length:Int)) (ck (I64 (g+(((slices_0.getD (f.toNat) ([]:List qd)).length:Nat):Int))) (if (g+(((slices_0.getD (f.toNat) ([]:List qd)).length:Nat):Int))<(0:Int) then none else ck (I64 (f+(1:Int))) (some (.inl ((g+(((slices_0.getD (f.toNat) ([]:List qd)).length:Nat):Int)),(f+(1:Int))))))) else some (.inr g)
def bR(F:Md)(slices_0:(List qj)):Option qj :=
 (bO F (fun d:Int×Int=>gN F slices_0 d.1 d.2) ((0:Int),(0:Int))).bind (fun e=>gM F slices_0 e)
def aBz(F:Md):PlR:=⟨[(0,.A [0]),(1,.A [0,3]),(2,.A [0,3,9,10,11]),(3,.A [0,3,9,10,11,12]),(4,.A [0,3,5,9,10,11]),(5,.A [0,3,9,10,11]),(6,.A [0,3,9,10,11,20]),(7,.P [0,3,9,10,11] []),(8,.A [0,3,9,10,11]),(9,.P [0,6] []),(10,.A [6,25,26,27]),(11,.A [6,25,26,27,28]),(12,.A [6,8,25,26,27]),(13,.B [6,25,26,27]),(14,.A [6,25,26,27]),(15,.A [2])],[(5,12)],[(91,aCv F)]⟩
def aB9:Ty:=.pair (.sl qx) .unit
def nE(F:Md):aH:=mSpec aB9 (.one qx) (fun x=>bR F x.1)
abbrev aH6(F:Md):List (FuncId×aH):=[]
theorem aH7(F:Md):bA Tryz.prog GL (aH6 F):=.nil
attribute [go_sem] aB9 aBz
theorem aG4(F:Md):FOK Tryz.prog GL 54 (nE F):=by
 refine aX (aY (aH7 F)) mix Tryz.func54 rfl xAa xAb (aBz F) (fun w0 S x Θ W h hV=>?_) (.cons (fun _ _=>(aIU F)) xAa (.nil));obtain⟨(slices_0:(List qj)),u⟩:=x;simp only[bD,go_sem];replace h:sat (bR F slices_0) _:=h;unfold bR at h;refine bH hV (D:=Int) (fun d=>sat (gM F slices_0 d) Θ) [0] (fun d=>[(3,.val qi d)]) (fun d=>[]) ?_ ?_
 ·simp only[go_sem];refine aU hV (D:=Int×Int) [0,9,10] (fun d=>[(3,.val qi d.1),(11,.val qi d.2)]) (fun d=>[]) h rfl xAc ?_;rintro⟨f,q⟩ Y T3 hA3 L h;simp only[go_sem];replace h:sat (gN F slices_0 f q) _:=h;unfold gN at h;refine bP h (fun hc h=>?_) fun hc h=>?_
  ·refine aG h fun g0 h=>?_;refine aG h fun g0 h=>?_;refine bP h (fun hc h=>?_) fun hc h=>?_
   ·exact aFc h
   ·refine aG h fun g0 h=>?_;exact zas
  ·replace h:=yaH (L _ (aA h));exact aK (f) h rfl xAc
 ·rintro z h;simp only[go_sem];replace h:sat (gM F slices_0 z) _:=h;unfold gM at h;refine aD h fun U hv h=>?_;simp only[hv,go_sem];refine aU hV (D:=Int×qj) [25,26] (fun d=>[(6,.own 0),(27,.val qi d.1)]) (fun d=>[.inr (.row 9 .str d.2)]) h rfl xAc ?_;rintro⟨g,newslice_14⟩ O N I J h;simp only[go_sem];replace h:sat (eH F slices_0 g newslice_14) _:=h;unfold eH at h;refine bP h (fun hc h=>?_) fun hc h=>?_
  ·refine aB h fun g0 h=>(yaB ?_);refine aB h fun g0 h=>(yaB ?_);refine aG h fun g0 h=>?_;replace h:=I _ (aA h);refine fA [1] rfl rfl (yaA ?_);exact zaF
  ·replace h:=yaH (J _ (aA h));exact zaB
attribute [go_sem] nE
def tM(F:Md)(q:qj)(f:Int)(g:(List (qd×Bool))):Option ((Int×(List (qd×Bool)))⊕((Unit)⊕Bool)) :=
 if f<(q.length:Int) then ck (0≤f∧f<(q.length:Int)) ((cR F (q.getD (f.toNat) ([]:List Nat))).bind (fun z=>if (¬(z=true))∨(((uF .str g (q.getD (f.toNat) ([]:List Nat))).getD false)=true) then some (.inr (.inr false)) else ck (I64 (f+(1:Int))) (some (.inl ((f+(1:Int)),(aM2 .str g (q.getD (f.toNat) ([]:List Nat)) true)))))) else some (.inr (.inl ()))
def oW(F:Md)(f:qj):Option Bool :=
 (bO F (fun d:Int×(List (qd×Bool))=>tM F f d.1 d.2) ((0:Int),([]:List (qd×Bool)))).bind (fun e=>match e with|(.inl e)=>some true|(.inr e)=>some e)
def aJQ:PlR:=⟨[(0,.A [0]),(1,.B [0,3]),(2,.A [3,7,8,9]),(3,.A [3,7,8,9,10]),(4,.A [3,5,7,8,9]),(5,.A [3,5,7,8,9,20]),(6,.A [2]),(7,.B [3,7,8,9]),(8,.A [3,7,8,9]),(9,.A [2])],[],[]⟩
def aLD:Ty:=.pair qx .unit
def tN(F:Md):aH:=mSpec aLD (.one .bool) (fun x=>oW F x.1)
abbrev aLE(F:Md):List (FuncId×aH):=[(60,(aC4 F))]
theorem aXP(F:Md):bA Tryz.prog GL (aLE F):=.cons (aXx F) xAa (.nil)
attribute [go_sem] aLD aJQ
theorem aJR(F:Md):FOK Tryz.prog GL 35 (tN F):=by
 refine aX (aY (aXP F)) mix Tryz.func35 rfl xAa xAb aJQ (fun w0 S x Θ J h hV=>?_);obtain⟨(q:qj),u⟩:=x;simp only[bD,go_sem];replace h:sat (oW F q) _:=h;unfold oW at h;refine aU hV (D:=Int×(List (qd×Bool))) [7,8] (fun d=>[(3,.mp 0),(9,.val qi d.1)]) (fun d=>[.inr (.map .str .bool d.2)]) h rfl xAc ?_;rintro⟨g,f⟩ L T3 hA3 z h;simp only[go_sem];replace h:sat (tM F q g f) _:=h;unfold tM at h;refine bP h (fun hc h=>?_) fun hc h=>?_
 ·refine aG h fun g0 h=>?_;refine aD h fun I hv h=>?_;try simp only[hv,go_sem]
  refine⟨fun hc=>?_,fun hc=>?_⟩
  ·replace h:=cW zAD h;replace h:=yaH (z _ (aA h));exact zaB
  ·replace h:=cX zAD h;refine aG h fun g0 h=>?_;exact zas
 ·replace h:=yaH (z _ (aA h));exact zaB
attribute [go_sem] tN
def eT(F:Md)(f:qd)(prefix_1:qd):Option Bool :=
 ck (((prefix_1.length:Int)≤(f.length:Int))→(0≤(prefix_1.length:Int)∧(prefix_1.length:Int)≤(f.length:Int))) (some ((decide ((prefix_1.length:Int)≤(f.length:Int)))&&(decide ((List.take (prefix_1.length) f)=prefix_1))))
def aAj:PlR:=⟨[(0,.A [0,1]),(1,.A [4])],[],[]⟩
def aAB:Ty:=.pair .str wi
def kP(F:Md):aH:=mSpec aAB (.one .bool) (fun x=>eT F x.1 x.2.1)
abbrev aGn(F:Md):List (FuncId×aH):=[]
theorem aGo(F:Md):bA Tryz.prog GL (aGn F):=.nil
attribute [go_sem] aAB aAj
theorem aFC(F:Md):FOK Tryz.prog GL 186 (kP F):=by
 refine aX (aY (aGo F)) mix Tryz.func186 rfl xAa xAb aAj (fun w0 S x Θ g h hV=>?_);obtain⟨(f:qd),(prefix_1:qd),u⟩:=x;simp only[bD,go_sem];replace h:sat (eT F f prefix_1) _:=h;unfold eT at h;refine aG h fun g0 h=>?_;exact zaE
attribute [go_sem] kP
def iA(F:Md)(f:qd)(prefix_1:qd):Option (qd×vl) :=
 (eT F f prefix_1).bind (fun g=>if ¬(g=true) then some (f,false,()) else ck (0≤(prefix_1.length:Int)∧(prefix_1.length:Int)≤(f.length:Int)) (some ((List.drop (prefix_1.length) f),true,())))
def aAk:PlR:=⟨[(0,.A [0,1]),(1,.A [0,1,9]),(2,.A [4,5]),(3,.A [4,5])],[],[]⟩
def aAC:Ty:=.pair .str wi
def kQ(F:Md):aH:=mSpec aAC (.tup (.pair .str wo)) (fun x=>iA F x.1 x.2.1)
abbrev aAD(F:Md):List (FuncId×aH):=[(186,(kP F))]
theorem aGp(F:Md):bA Tryz.prog GL (aAD F):=.cons (aFC F) xAa (.nil)
attribute [go_sem] aAC aAk
theorem aFD(F:Md):FOK Tryz.prog GL 172 (kQ F):=by
 refine aX (aY (aGp F)) mix Tryz.func172 rfl xAa xAb aAk (fun w0 S x Θ q h hV=>?_);obtain⟨(f:qd),(prefix_1:qd),u⟩:=x;simp only[bD,go_sem];replace h:sat (iA F f prefix_1) _:=h;unfold iA at h;refine aD h fun g hv h=>?_;try simp only[hv,go_sem]
 refine aAn h (fun hc h=>?_) fun hc h=>?_
 ·exact aE hV [.tmp 4,.tmp 5] rfl rfl rfl (aA h) xAd
 ·refine aG h fun g0 h=>?_;exact zax
attribute [go_sem] kQ
def jX(F:Md)(g:qd)(prefix_1:qd):Option (qd×vl) :=
 (iA F g prefix_1).bind (fun f=>some (f.1,f.2.1,()))
def aDO:PlR:=⟨[(0,.A [0,1]),(1,.A [4,5])],[],[]⟩
def aEe:Ty:=.pair .str wi
def rO(F:Md):aH:=mSpec aEe (.tup (.pair .str wo)) (fun x=>jX F x.1 x.2.1)
abbrev aEf(F:Md):List (FuncId×aH):=[(172,(kQ F))]
theorem aKQ(F:Md):bA Tryz.prog GL (aEf F):=.cons (aFD F) xAa (.nil)
attribute [go_sem] aEe aDO
theorem aJS(F:Md):FOK Tryz.prog GL 140 (rO F):=by
 refine aX (aY (aKQ F)) mix Tryz.func140 rfl xAa xAb aDO (fun w0 S x Θ q h hV=>?_);obtain⟨(f:qd),(prefix_1:qd),u⟩:=x;simp only[bD,go_sem];replace h:sat (jX F f prefix_1) _:=h;unfold jX at h;refine aD h fun g hv h=>?_;try simp only[hv,go_sem]
 exact zax
attribute [go_sem] rO
def sM(F:Md)(g:qd):Option (Bool×(qd×(qd×vl))) :=
 (jX F g (aI ⟨#[45]⟩)).bind (fun v_5=>(aBu F v_5.1).bind (fun f=>some ((v_5.2.1&&(decide ((0:Int)<(f.1.length:Int)))),f.1,f.2.1,f.2.2.1,())))
def aJT:PlR:=⟨[(0,.A [0]),(1,.A [6,7]),(2,.A [7,8,9,10]),(3,.A [2,3,4,5])],[],[]⟩
def aLF:Ty:=.pair .str .unit
def aCa(F:Md):aH:=mSpec aLF (.tup (.pair .bool (.pair qu (.pair qu wo)))) (fun x=>sM F x.1)
abbrev aGq(F:Md):List (FuncId×aH):=[(140,(rO F)),(141,(aEy F))]
theorem aXQ(F:Md):bA Tryz.prog GL (aGq F):=.cons (aJS F) xAa (.cons (bAh F) xAa (.nil))
attribute [go_sem] aLF aJT
theorem aVK(F:Md):FOK Tryz.prog GL 92 (aCa F):=by
 refine aX (aY (aXQ F)) mix Tryz.func92 rfl xAa xAb aJT (fun w0 S x Θ q h hV=>?_);obtain⟨(f:qd),u⟩:=x;simp only[bD,go_sem];replace h:sat (sM F f) _:=h;unfold sM at h;refine aD h fun v_5 hv h=>?_;try simp only[hv,go_sem]
 refine aD h fun g hv h=>?_;try simp only[hv,go_sem]
 exact aE hV [.tmp 2,.tmp 3,.tmp 4,.tmp 5] rfl rfl rfl (aA h) xAd
attribute [go_sem] aCa
def jM(F:Md)(z:qm)(q:qd):Option (Bool) :=
 (sM F z.1).bind (fun g=>(sM F q).bind (fun f=>ck (aSg g.2.1 f.2.2.1) (ck (aSg f.2.1 g.2.2.1) (ck (bCm (bY g.2.1 f.2.2.1) (bY f.2.1 g.2.2.1)) (if (¬(g.2.2.2.1=true))∨(¬(f.2.2.2.1=true)) then some false else if (g.1 != f.1)=true then some g.1 else if g.1=true then some (decide ((0:Int)≤(gQ (bY g.2.1 f.2.2.1) (bY f.2.1 g.2.2.1)))) else some (decide ((gQ (bY g.2.1 f.2.2.1) (bY f.2.1 g.2.2.1))≤(0:Int))))))))
def iB(F:Md)(f:qm):Option Bool :=
 if f.2.1=(aI ⟨#[]⟩) then jM F f f.1 else jM F f f.2.1
def aIz:PlR:=⟨[(0,.B [1]),(1,.A [1,3]),(2,.A [1,3,16]),(3,.A [1,3]),(4,.A [3,4,5,6,7]),(5,.A [4,5,6,7,8,9,10,11]),(6,.A [4,7,8,11,12]),(7,.A [2]),(8,.A [4,8,12,43]),(9,.A [2]),(10,.A [4,12,50]),(11,.A [2]),(12,.A [12,55]),(13,.A [2])],[(5,7)],[]⟩
def aJU:Ty:=.pair qn .unit
def aAR(F:Md):aH:=mSpec aJU (.one .bool) (fun x=>iB F x.1)
abbrev aCb(F:Md):List (FuncId×aH):=[(83,fD),(92,(aCa F)),(93,rH)]
theorem aVL(F:Md):bA Tryz.prog GL (aCb F):=.cons zF xAa (.cons (aVK F) xAa (.cons aHQ xAa (.nil)))
attribute [go_sem] aJU aIz
theorem aSY(F:Md):FOK Tryz.prog GL 56 (aAR F):=by
 refine aX (aY (aVL F)) mix Tryz.func56 rfl xAa xAb aIz (fun w0 S x Θ J h hV=>?_);obtain⟨(f:qm),u⟩:=x;simp only[bD,go_sem];replace h:sat (iB F f) _:=h;unfold iB at h;refine bH hV (D:=qd) (fun d=>sat (jM F f d) Θ) [] (fun d=>[(1,.ptr 0 []),(3,.val .str d)]) (fun d=>[.inr (.box 2 (.val qn f))]) ?_ ?_
 ·simp only[go_sem];refine bS h (fun hc h=>?_) fun hc h=>?_
  ·exact aK f.1 h rfl xAc
  ·exact aK f.2.1 h rfl xAc
 ·rintro g h;simp only[go_sem];replace h:sat (jM F f g) _:=h;unfold jM at h;refine aD h fun z hv h=>?_;try simp only[hv,go_sem]
  refine aD h fun q hv h=>?_;try simp only[hv,go_sem]
  refine aG h fun g0 h=>aG h fun g1 h=>aG h fun I h=>?_;refine⟨fun hc=>?_,fun hc=>?_⟩
  ·replace h:=cW zAD h;exact zaB
  ·replace h:=cX zAD h;refine aFb h (fun hc h=>?_) fun hc h=>?_
   ·exact aE hV [.tmp 2] rfl rfl rfl (aA h) xAd
   ·refine aFb h (fun hc h=>?_) fun hc h=>?_
    ·exact aE hV [.tmp 2] rfl rfl rfl (aA h) xAd
    ·exact aE hV [.tmp 2] rfl rfl rfl (aA h) xAd
attribute [go_sem] aAR
@[reducible] def bJN(xs:List qd):Prop:=xs.length*16≤140737488355328
@[go_sem]def wX:Ty:=.pair qx .unit
@[go_sem]def jN:aH:=⟨wX,.own 9 .str,fun x=>bJN x.1,fun x=>id x.1⟩
abbrev aCw(F:Md):List (FuncId×aH):=[]
theorem aCx(F:Md):bA Tryz.prog GL (aCw F):=.nil
theorem aH8:FOK Tryz.prog GL 55 jN:=by
 refine bD9 (aY (aCx none)) Tryz.func55 rfl xAa xAb fun w0 S x f hp=>?_;have hF:xT (fr Tryz.prog (EM (aCw none)) S w0 Tryz.f55.ntmps):=⟨aY (aCx none),mix⟩;obtain⟨(s:qj),u⟩:=x;have hp:s.length*16≤140737488355328:=hp;simp only[bD,wX,jN];exact zaV
def bQ(F:Md)(f:Ex)(names_1:qj):Option Bool :=
 (aBw F f).bind (fun g=>ck ((g=true)→((vB F 64 f names_1).isSome=true)) (some (g&&((vB F 64 f names_1).getD false))))
def aG6:PlR:=⟨[(0,.B [1,2]),(1,.A [4])],[],[]⟩
def aIA:Ty:=.pair .expr (.pair qx .unit)
def pD(F:Md):aH:=mSpec aIA (.one .bool) (fun x=>bQ F x.1 x.2.1)
abbrev aD7(F:Md):List (FuncId×aH):=[(94,(aEB F)),(95,(aC9 F 64))]
theorem aSZ(F:Md):bA Tryz.prog GL (aD7 F):=.cons (bAm F) xAa (.cons (aLq F 64) xAa (.nil))
attribute [go_sem] aIA aG6
theorem aG7(F:Md):FOK Tryz.prog GL 57 (pD F):=by
 refine aX (aY (aSZ F)) mix Tryz.func57 rfl xAa xAb aG6 (fun w0 S x Θ q h hV=>?_);obtain⟨(f:Ex),(names_1:qj),u⟩:=x;simp only[bD,go_sem];replace h:sat (bQ F f names_1) _:=h;unfold bQ at h;refine aD h fun g hv h=>?_;try simp only[hv,go_sem]
 refine aG h fun g0 h=>?_;exact zaE
attribute [go_sem] pD
def tO(F:Md)(q:qq)(f:qj):Option Bool :=
 (bQ F q.2.1 f).bind (fun g=>some (!g))
def aFZ:PlR:=⟨[(0,.B [1,2]),(1,.A [3])],[],[]⟩
def aG8:Ty:=.pair q8 vi
def xH(F:Md):aH:=mSpec aG8 (.one .bool) (fun x=>tO F x.1 x.2.1)
abbrev aG9(F:Md):List (FuncId×aH):=[(57,(pD F))]
theorem aQo(F:Md):bA Tryz.prog GL (aG9 F):=.cons (aG7 F) xAa (.nil)
attribute [go_sem] aG8 aFZ
theorem aOk(F:Md):FOK Tryz.prog GL 59 (xH F):=by
 refine aX (aY (aQo F)) mix Tryz.func59 rfl xAa xAb aFZ (fun w0 S x Θ z h hV=>?_);obtain⟨(g:qq),(f:qj),u⟩:=x;simp only[bD,go_sem];replace h:sat (tO F g f) _:=h;unfold tO at h;refine aD h fun q hv h=>?_;try simp only[hv,go_sem]
 exact aE hV [.tmp 3] rfl rfl rfl (aA h) xAd
attribute [go_sem] xH
def bX(F:Md)(g:(List qq))(q:vh)(f:Int):Option ((Int)⊕((Unit)⊕Int)) :=
 if f<(g.length:Int) then ck (0≤f∧f<(g.length:Int)) ((tO F (g.getD (f.toNat) ([],(Ex.mk 0 [] []),())) q.1).bind (fun v_27=>if v_27=true then some (.inr (.inr f)) else ck (I64 (f+(1:Int))) (some (.inl (f+(1:Int)))))) else some (.inr (.inl ()))
def cC(F:Md)(f:(List qq))(g:vh):Option Int :=
 (bO F (fun d:Int=>bX F f g d) (0:Int)).bind (fun e=>match e with|(.inl e)=>some (-1:Int)|(.inr e)=>some e)
def fU:PlR:=⟨[(0,.A [0,1]),(1,.A [0,1,7,8]),(2,.A [0,1,7,8,9]),(3,.A [0,1,5,7,8]),(4,.A [0,1,5,7,8,16]),(5,.A [4]),(6,.A [0,1,7,8]),(7,.A [4])],[],[]⟩
def gC:Ty:=.pair (.sl q8) (.pair (.clo 59 vi) .unit)
def cT(F:Md):aH:=mSpec gC (.one qi) (fun x=>cC F x.1 x.2.1)
abbrev gD(F:Md):List (FuncId×aH):=[(59,(xH F))]
theorem qT(F:Md):bA Tryz.prog GL (gD F):=.cons (aOk F) xAa (.nil)
attribute [go_sem] gC fU
theorem qD(F:Md):FOK Tryz.prog GL 96 (cT F):=by
 refine aX (aY (qT F)) mix Tryz.func96 rfl xAa xAb fU (fun w0 S x Θ z h hV=>?_);obtain⟨(g:(List qq)),(q:vh),u⟩:=x;simp only[bD,go_sem];replace h:sat (cC F g q) _:=h;unfold cC at h;refine aU hV (D:=Int) [0,1,7] (fun d=>[(8,.val qi d)]) (fun d=>[]) h rfl xAc ?_;rintro f I T2 hA2 hE2 h;simp only[go_sem];replace h:sat (bX F g q f) _:=h;unfold bX at h;exact zaN
attribute [go_sem] cT
def bK(F:Md)(f:(List qq))(g:vh):Option Bool :=
 (cC F f g).bind (fun q=>some (decide ((0:Int)≤q)))
def eX:PlR:=⟨[(0,.A [0,1]),(1,.A [4])],[],[]⟩
def fG:Ty:=.pair (.sl q8) (.pair (.clo 59 vi) .unit)
def cI(F:Md):aH:=mSpec fG (.one .bool) (fun x=>bK F x.1 x.2.1)
abbrev fH(F:Md):List (FuncId×aH):=[(96,(cT F))]
theorem oL(F:Md):bA Tryz.prog GL (fH F):=.cons (qD F) xAa (.nil)
attribute [go_sem] fG eX
theorem nY(F:Md):FOK Tryz.prog GL 58 (cI F):=by
 refine aX (aY (oL F)) mix Tryz.func58 rfl xAa xAb eX (fun w0 S x Θ z h hV=>?_);obtain⟨(g:(List qq)),(f:vh),u⟩:=x;simp only[bD,go_sem];replace h:sat (bK F g f) _:=h;unfold bK at h;refine aD h fun q hv h=>?_;exact zaW
attribute [go_sem] cI
def vE(F:Md)(g:qf)(f:Int):Option ((Int)⊕((Unit)⊕Bool)) :=
 if f<(g.2.2.1.length:Int) then ck (0≤f∧f<(g.2.2.1.length:Int)) (ck ((iB F (g.2.2.1.getD (f.toNat) ([],([],[],()),())).2.1).isSome=true) (if ¬(((iB F (g.2.2.1.getD (f.toNat) ([],([],[],()),())).2.1).getD false)=true) then some (.inr (.inr false)) else ck (I64 (f+(1:Int))) (some (.inl (f+(1:Int)))))) else some (.inr (.inl ()))
def rP(F:Md)(f:qf):Option (Bool) :=
 (bO F (fun d:Int=>vE F f d) (0:Int)).bind (fun e=>match e with|(.inl e)=>ck ((bK F f.2.2.2.2.1 (((bR F ([((bF F f).getD (([]:List qd),([]:List qd),([]:List qd),())).1,((bF F f).getD (([]:List qd),([]:List qd),([]:List qd),())).2.1,((bF F f).getD (([]:List qd),([]:List qd),([]:List qd),())).2.2.1]:List qj)).getD ([]:List qd)),())).isSome=true) (some (!((bK F f.2.2.2.2.1 (((bR F ([((bF F f).getD (([]:List qd),([]:List qd),([]:List qd),())).1,((bF F f).getD (([]:List qd),([]:List qd),([]:List qd),())).2.1,((bF F f).getD (([]:List qd),([]:List qd),([]:List qd),())).2.2.1]:List qj)).getD ([]:List qd)),())).getD false)))|(.inr e)=>some e)
def vF(F:Md)(g:qf)(f:Int):Option ((Int)⊕((Unit)⊕Bool)) :=
 if f<(g.2.1.length:Int) then ck (0≤f∧f<(g.2.1.length:Int)) (ck ((iB F (g.2.1.getD (f.toNat) ([],([],[],()),(Ex.mk 0 [] []),())).2.1).isSome=true) (ck (¬(¬(((iB F (g.2.1.getD (f.toNat) ([],([],[],()),(Ex.mk 0 [] []),())).2.1).getD false)=true))→((bQ F (g.2.1.getD (f.toNat) ([],([],[],()),(Ex.mk 0 [] []),())).2.2.1 ((bR F ([((bF F g).getD (([]:List qd),([]:List qd),([]:List qd),())).1,((bF F g).getD (([]:List qd),([]:List qd),([]:List qd),())).2.1,((bF F g).getD (([]:List qd),([]:List qd),([]:List qd),())).2.2.1]:List qj)).getD ([]:List qd))).isSome=true)) (if (¬(((iB F (g.2.1.getD (f.toNat) ([],([],[],()),(Ex.mk 0 [] []),())).2.1).getD false)=true))∨(¬(((bQ F (g.2.1.getD (f.toNat) ([],([],[],()),(Ex.mk 0 [] []),())).2.2.1 ((bR F ([((bF F g).getD (([]:List qd),([]:List qd),([]:List qd),())).1,((bF F g).getD (([]:List qd),([]:List qd),([]:List qd),())).2.1,((bF F g).getD (([]:List qd),([]:List qd),([]:List qd),())).2.2.1]:List qj)).getD ([]:List qd))).getD false)=true)) then some (.inr (.inr false)) else ck (I64 (f+(1:Int))) (some (.inl (f+(1:Int))))))) else some (.inr (.inl ()))
def xI(F:Md)(g:qf)(f:qj):Option (Bool) :=
 ck ((oW F f).isSome=true) (if ¬(((oW F f).getD false)=true) then some false else (bO F (fun d:Int=>vF F g d) (0:Int)).bind (fun e=>match e with|(.inl e)=>rP F g|(.inr e)=>some e))
def nF(F:Md)(q:qf)(f:Int)(g:qj):Option ((Int×qj)⊕qj) :=
 if f<(q.2.2.2.2.1.length:Int) then ck (0≤f∧f<(q.2.2.2.2.1.length:Int)) (ck (((g.length)+(1:Nat))*16≤140737488355328) (ck (I64 (f+(1:Int))) (some (.inl ((f+(1:Int)),(g++([(q.2.2.2.2.1.getD (f.toNat) ([],(Ex.mk 0 [] []),())).1]:List qd))))))) else some (.inr g)
def tP(F:Md)(f:qf):Option Bool :=
 if (((((f.2.1.length:Int)<(1:Int))∨((6:Int)<(f.2.1.length:Int)))∨((6:Int)<(f.2.2.1.length:Int)))∨((4:Int)<(f.2.2.2.1.length:Int)))∨((4:Int)<(f.2.2.2.2.1.length:Int)) then some false else ck ((bF F f).isSome=true) (ck ((bR F ([((bF F f).getD (([]:List qd),([]:List qd),([]:List qd),())).1,((bF F f).getD (([]:List qd),([]:List qd),([]:List qd),())).2.1,((bF F f).getD (([]:List qd),([]:List qd),([]:List qd),())).2.2.1]:List qj)).isSome=true) (ck (bJN ((bR F ([((bF F f).getD (([]:List qd),([]:List qd),([]:List qd),())).1,((bF F f).getD (([]:List qd),([]:List qd),([]:List qd),())).2.1,((bF F f).getD (([]:List qd),([]:List qd),([]:List qd),())).2.2.1]:List qj)).getD ([]:List qd))) ((bO F (fun d:Int×qj=>nF F f d.1 d.2) ((0:Int),(id ((bR F ([((bF F f).getD (([]:List qd),([]:List qd),([]:List qd),())).1,((bF F f).getD (([]:List qd),([]:List qd),([]:List qd),())).2.1,((bF F f).getD (([]:List qd),([]:List qd),([]:List qd),())).2.2.1]:List qj)).getD ([]:List qd))))).bind (fun e=>xI F f e))))
@[go_sem]def aCc:Ty:=.pair qc .unit
def aAS(F:Md):aH:=mSpec aCc (.one .bool) (fun x=>tP F x.1)
abbrev jO(F:Md):List (FuncId×aH):=[(58,(cI F)),(35,(tN F)),(53,(aB8 F)),(54,(nE F)),(55,jN),(56,(aAR F)),(57,(pD F))]
theorem aJV(F:Md):bA Tryz.prog GL (jO F):=.cons (nY F) xAa (.cons (aJR F) xAa (.cons (aVJ F) xAa (.cons (aG4 F) xAa (.cons aH8 xAa (.cons (aSY F) xAa (.cons (aG7 F) xAa (.nil)))))))
theorem aS0(F:Md):FOK Tryz.prog GL 34 (aAS F):=by
 refine wH (aY (aJV F)) Tryz.func34 rfl xAa xAb fun w0 S x r U h=>?_;have hF:xT (fr Tryz.prog (EM (jO F)) S w0 Tryz.f34.ntmps):=⟨aY (aJV F),mix⟩;obtain⟨(f:qf),u⟩:=x;simp only[aCc,Ty.wf,aE8] at U;simp only[bD,aCc];try dsimp only at h
 replace h:tP F f=some r:=h;unfold tP at h;refine aO (dI hF [1] (yaA ?_));refine aP (aO (aO (aM hF [1,41] (yaA ?_))));refine aP (cE rfl (fun hc=>?_) (fun hc=>?_))
 ·try simp only[go_sem] at hc
  have h:=jZ zAD h;refine aO (aM hF [2] (yaA ?_));obtain rfl:=Option.some.inj h;refine aP (dL (bU (dR hF [.tmp 2] rfl rfl rfl ?_)));exact zAK
 ·try simp only[go_sem] at hc
  have h:=iW zAD h;refine dA (aP (aO (aM hF [1,3,4,5] (yaA ?_))));obtain⟨g0,h⟩:=bE h;repeat (refine⟨zAA,?_⟩)
  refine aP (aO (dI hF [1,6] (yaA ?_)));obtain⟨g0,h⟩:=bE h;repeat (refine⟨zAA,?_⟩)
  refine aP (aO (dI hF [1,6,7] (yaA ?_)));obtain⟨g0,h⟩:=bE h;repeat (refine⟨zAA,?_⟩)
  refine aP (zD (D:=qj) (fun d=>xI F f d=some r) [] (fun d=>[(1,.ptr 0 []),(6,.ptr 1 []),(7,.own 2)]) (fun d=>[.inr (.box 5 (.val qc f)),.inr (.box 1 (.val qx ((bR F ([((bF F f).getD (([]:List qd),([]:List qd),([]:List qd),())).1,((bF F f).getD (([]:List qd),([]:List qd),([]:List qd),())).2.1,((bF F f).getD (([]:List qd),([]:List qd),([]:List qd),())).2.2.1]:List qj)).getD ([]:List qd)))),.inr (.row 9 .str d)]) ?_ ?_)
  ·refine aO (aM hF [1,6,7,56,57,58] (yaA ?_));refine aP (gU (aCG (D:=Int×qj) [56,57] (fun d=>[(1,.ptr 0 []),(6,.ptr 1 []),(7,.own 2),(58,.val qi d.1)]) (fun d=>[.inr (.box 5 (.val qc f)),.inr (.box 1 (.val qx ((bR F ([((bF F f).getD (([]:List qd),([]:List qd),([]:List qd),())).1,((bF F f).getD (([]:List qd),([]:List qd),([]:List qd),())).2.1,((bF F f).getD (([]:List qd),([]:List qd),([]:List qd),())).2.2.1]:List qj)).getD ([]:List qd)))),.inr (.row 9 .str d.2)]) h ?_ ?_ ?_))
   ·first|rfl|(simp only[go_sem]; done)
   ·exact zAJ
   rintro⟨I,z⟩ Z h J;simp only[go_sem];(try dsimp only at h);unfold nF at h;refine aO (aM hF [1,6,7,56,57,58,59] (yaA ?_));refine aP (aO (cE rfl (fun hc=>?_) (fun hc=>?_)))
   ·(try simp only[go_sem] at hc);have h:=jZ zAD h;refine dA (aP (aO (gU (aO (dI hF [1,6,7,9,56,57,58] (yaA ?_))))));obtain⟨g0,h⟩:=bE h;(repeat (refine⟨zAA,?_⟩));refine aP (dI hF [1,6,7,56,57,58] (yaA ?_));obtain⟨g0,h⟩:=bE h;(repeat (refine⟨zAA,?_⟩));refine iY (aP (aM hF [1,6,7,56,57,58] (yaA ?_)));obtain⟨g0,h⟩:=bE h;(try simp only[I64,I32] at g0);(repeat (refine⟨zAA,?_⟩));obtain rfl:=Option.some.inj h;dsimp only[aAq] at J;refine cD (fA [0,1,4] rfl rfl (yaE ?_));refine aK ((I+(1:Int)),(z++([(f.2.2.2.2.1.getD (I.toNat) ([],(Ex.mk 0 [] []),())).1]:List qd))) J rfl ?_
    ·exact zAJ
   ·(try simp only[go_sem] at hc);have h:=iW zAD h;obtain rfl:=Option.some.inj h;dsimp only[aAq] at J;have h:=yaH (J);refine aDC (fC (fC (lV (cD (aK (z) h rfl ?_)))))
    ·exact zAJ
  ·rintro O h;(try dsimp only at h);simp only[go_sem];unfold xI at h;refine aO (aO (aM hF [1,6,70] (yaA ?_)));obtain⟨g0,h⟩:=bE h;(repeat (refine⟨zAA,?_⟩));refine aP (cE rfl (fun hc=>?_) (fun hc=>?_))
   ·(try simp only[go_sem] at hc);have h:=jZ zAD h;refine aO (aM hF [2] (yaA ?_));obtain rfl:=Option.some.inj h;refine aP (dL (bU (dR hF [.tmp 2] rfl rfl rfl ?_)));exact zAK
   ·(try simp only[go_sem] at hc);have h:=iW zAD h;refine dA (aP (zD (D:=Unit) (fun d=>rP F f=some r) [] (fun d=>[(1,.ptr 0 []),(6,.ptr 1 [])]) (fun d=>[.inr (.box 5 (.val qc f)),.inr (.box 1 (.val qx ((bR F ([((bF F f).getD (([]:List qd),([]:List qd),([]:List qd),())).1,((bF F f).getD (([]:List qd),([]:List qd),([]:List qd),())).2.1,((bF F f).getD (([]:List qd),([]:List qd),([]:List qd),())).2.2.1]:List qj)).getD ([]:List qd))))]) ?_ ?_))
    ·refine aO (aM hF [1,6,72,73,74] (yaA ?_));refine aP (gU (zB [0,1] rfl rfl (yaE ?_)));refine aCG (D:=Int) [72,73] (fun d=>[(1,.ptr 0 []),(6,.ptr 1 []),(74,.val qi d)]) (fun d=>[.inr (.box 5 (.val qc f)),.inr (.box 1 (.val qx ((bR F ([((bF F f).getD (([]:List qd),([]:List qd),([]:List qd),())).1,((bF F f).getD (([]:List qd),([]:List qd),([]:List qd),())).2.1,((bF F f).getD (([]:List qd),([]:List qd),([]:List qd),())).2.2.1]:List qj)).getD ([]:List qd))))]) h ?_ ?_ ?_
     ·first|rfl|(simp only[go_sem]; done)
     ·exact zAJ
     rintro N Y h q;simp only[go_sem];(try dsimp only at h);unfold vF at h;refine aO (aM hF [1,6,72,73,74,75] (yaA ?_));refine aP (aO (cE rfl (fun hc=>?_) (fun hc=>?_)))
     ·(try simp only[go_sem] at hc);have h:=jZ zAD h;refine dA (aP (aO (gU (aO (dI hF [1,6,11,72,73,74] (yaA ?_))))));obtain⟨g0,h⟩:=bE h;(repeat (refine⟨zAA,?_⟩));refine aP (aO (aM hF [1,6,72,73,74,88] (yaA ?_)));obtain⟨g0,h⟩:=bE h;obtain⟨g1,h⟩:=bE h;(repeat (refine⟨by first|with_reducible assumption|omega|(intros; first|with_reducible assumption|omega)|(simp only[go_sem] at *; first|with_reducible assumption|omega)|(intro _; exact⟨rfl,by decide⟩)|(intro _; refine(?_:_=aL _); rfl)|(refine(?_:_=aL _); rfl)|exact⟨rfl,rfl⟩|(intro q0; (try have e1:=g1 zAI); first|assumption|omega)|decide,?_⟩));refine aP (cE rfl (fun hc=>?_) (fun hc=>?_))
      ·(try simp only[go_sem] at hc);have h:=jZ zAD h;refine aO (aM hF [2] (yaA ?_));obtain rfl:=Option.some.inj h;dsimp only[aAq] at q;have h:=yaH (q);obtain rfl:=Option.some.inj h;refine aP (dL (eC (bU (bU (eC (bU (dR hF [.tmp 2] rfl rfl rfl ?_)))))));exact zAK
      ·(try simp only[go_sem] at hc);have h:=iW zAD h;refine dA (iY (aP (aM hF [1,6,72,73,74] (yaA ?_))));obtain⟨g0,h⟩:=bE h;(try simp only[I64,I32] at g0);(repeat (refine⟨zAA,?_⟩));obtain rfl:=Option.some.inj h;dsimp only[aAq] at q;refine cD (fA [0,1] rfl rfl (yaE ?_));refine aK (N+(1:Int)) q rfl ?_
       ·exact zAJ
     ·(try simp only[go_sem] at hc);have h:=iW zAD h;obtain rfl:=Option.some.inj h;dsimp only[aAq] at q;have h:=yaH (q);refine aDC (fC (fC (lV (cD (aK () h rfl ?_)))))
      ·exact zAJ
    ·rintro u h;(try dsimp only at h);simp only[go_sem];unfold rP at h;refine aO (aO (aM hF [1,6,91,92,93] (yaA ?_)));refine aP (gU (aCG (D:=Int) [91,92] (fun d=>[(1,.ptr 0 []),(6,.ptr 1 []),(93,.val qi d)]) (fun d=>[.inr (.box 5 (.val qc f)),.inr (.box 1 (.val qx ((bR F ([((bF F f).getD (([]:List qd),([]:List qd),([]:List qd),())).1,((bF F f).getD (([]:List qd),([]:List qd),([]:List qd),())).2.1,((bF F f).getD (([]:List qd),([]:List qd),([]:List qd),())).2.2.1]:List qj)).getD ([]:List qd))))]) h ?_ ?_ ?_))
     ·first|rfl|(simp only[go_sem]; done)
     ·exact zAJ
     rintro L W h g;simp only[go_sem];(try dsimp only at h);unfold vE at h;refine aO (aM hF [1,6,91,92,93,94] (yaA ?_));refine aP (aO (cE rfl (fun hc=>?_) (fun hc=>?_)))
     ·(try simp only[go_sem] at hc);have h:=jZ zAD h;refine dA (aP (aO (gU (aO (dI hF [1,6,13,91,92,93] (yaA ?_))))));obtain⟨g0,h⟩:=bE h;(repeat (refine⟨zAA,?_⟩));refine aP (aO (aM hF [1,6,91,92,93,100] (yaA ?_)));obtain⟨g0,h⟩:=bE h;(repeat (refine⟨zAA,?_⟩));refine aP (cE rfl (fun hc=>?_) (fun hc=>?_))
      ·(try simp only[go_sem] at hc);have h:=jZ zAD h;refine aO (aM hF [2] (yaA ?_));obtain rfl:=Option.some.inj h;dsimp only[aAq] at g;have h:=yaH (g);obtain rfl:=Option.some.inj h;refine aP (dL (eC (bU (bU (eC (bU (dR hF [.tmp 2] rfl rfl rfl ?_)))))));exact zAK
      ·(try simp only[go_sem] at hc);have h:=iW zAD h;refine dA (iY (aP (aM hF [1,6,91,92,93] (yaA ?_))));obtain⟨g0,h⟩:=bE h;(try simp only[I64,I32] at g0);(repeat (refine⟨zAA,?_⟩));obtain rfl:=Option.some.inj h;dsimp only[aAq] at g;refine cD (fA [0,1] rfl rfl (yaE ?_));refine aK (L+(1:Int)) g rfl ?_
       ·exact zAJ
     ·(try simp only[go_sem] at hc);have h:=iW zAD h;obtain rfl:=Option.some.inj h;dsimp only[aAq] at g;have h:=yaH (g);refine aDC (fC (fC (lV (aP (aO (aDF 1 rfl (yaA ?_)))))));refine aM hF [2] (yaA ?_);obtain⟨g0,h⟩:=bE h;(repeat (refine⟨zAA,?_⟩));obtain rfl:=Option.some.inj h;refine aP (dL (dR hF [.tmp 2] rfl rfl rfl ?_));exact zAK
attribute [go_sem] aAS
def rE(F:Md)(g:qa)(q:qd)(f:Int):Option ((Int)⊕((Unit)⊕Int)) :=
 if f<(g.2.2.2.2.2.2.2.2.1.length:Int) then ck (0≤f∧f<(g.2.2.2.2.2.2.2.2.1.length:Int)) (if (g.2.2.2.2.2.2.2.2.1.getD (f.toNat) ([],[],[],[],[],())).1=q then some (.inr (.inr f)) else ck (I64 (f+(1:Int))) (some (.inl (f+(1:Int))))) else some (.inr (.inl ()))
def rQ(F:Md)(g:qa)(f:qd):Option Int :=
 (bO F (fun d:Int=>rE F g f d) (0:Int)).bind (fun e=>match e with|(.inl e)=>some (-1:Int)|(.inr e)=>some e)
def aLG:PlR:=⟨[(0,.B [1,2]),(1,.A [1,8,9,10]),(2,.A [1,8,9,10,11]),(3,.B [1,5,6,8,9,10]),(4,.A [1,5,8,9,10,18]),(5,.A [4]),(6,.A [1,8,9,10]),(7,.A [4])],[],[]⟩
def aOs:Ty:=.pair qe wi
def aDe(F:Md):aH:=mSpec aOs (.one qi) (fun x=>rQ F x.1 x.2.1)
abbrev bAu(F:Md):List (FuncId×aH):=[]
theorem bAv(F:Md):bA Tryz.prog GL (bAu F):=.nil
attribute [go_sem] aOs aLG
theorem aXR(F:Md):FOK Tryz.prog GL 61 (aDe F):=by
 refine aX (aY (bAv F)) mix Tryz.func61 rfl xAa xAb aLG (fun w0 S x Θ z h hV=>?_);obtain⟨(q:qa),(f:qd),u⟩:=x;simp only[bD,go_sem];replace h:sat (rQ F q f) _:=h;unfold rQ at h;refine zB [] rfl rfl (yaA ?_);refine aU hV (D:=Int) [1,8,9] (fun d=>[(10,.val qi d)]) (fun d=>[]) h rfl xAc ?_;rintro g I T2 hA2 hE2 h;simp only[go_sem];replace h:sat (rE F q f g) _:=h;unfold rE at h;refine bP h (fun hc h=>?_) fun hc h=>?_
 ·refine aG h fun g0 h=>?_;refine bS h (fun hc h=>?_) fun hc h=>?_
  ·replace h:=yaH (hE2 _ (aA h));exact zaE
  ·refine aG h fun g0 h=>?_;replace h:=hA2 _ (aA h);refine fA [] rfl rfl (yaA ?_);exact zaF
 ·replace h:=yaH (hE2 _ (aA h));exact zaE
attribute [go_sem] aDe
def pE(F:Md)(g:qq)(f:qr):Option Bool :=
 ck ((0:Int)<(f.length:Int)) (some (decide (g.1=(f.getD (0:Nat) ([],[],[],[],())).2.2.2.1)))
def aF0:PlR:=⟨[(0,.B [1,2]),(1,.A [3])],[],[]⟩
def aHa:Ty:=.pair q8 (.pair (.rp (.sl wj)) .unit)
def xJ(F:Md):aH:=mSpec aHa (.one .bool) (fun x=>pE F x.1 x.2.1)
abbrev aQp(F:Md):List (FuncId×aH):=[]
theorem aQq(F:Md):bA Tryz.prog GL (aQp F):=.nil
attribute [go_sem] aHa aF0
theorem aOt(F:Md):FOK Tryz.prog GL 62 (xJ F):=by
 refine aX (aY (aQq F)) mix Tryz.func62 rfl xAa xAb aF0 (fun w0 S x Θ q h hV=>?_);obtain⟨(g:qq),(f:qr),u⟩:=x;simp only[bD,go_sem];replace h:sat (pE F g f) _:=h;unfold pE at h;refine aG h fun g0 h=>?_;exact aE hV [.tmp 3] rfl rfl rfl (aA h) xAd
attribute [go_sem] xJ
def bL(F:Md)(g:(List qq))(q:(qr×Unit))(f:Int):Option ((Int)⊕((Unit)⊕Int)) :=
 if f<(g.length:Int) then ck (0≤f∧f<(g.length:Int)) ((pE F (g.getD (f.toNat) ([],(Ex.mk 0 [] []),())) q.1).bind (fun v_27=>if v_27=true then some (.inr (.inr f)) else ck (I64 (f+(1:Int))) (some (.inl (f+(1:Int)))))) else some (.inr (.inl ()))
def bT(F:Md)(f:(List qq))(g:(qr×Unit)):Option Int :=
 (bO F (fun d:Int=>bL F f g d) (0:Int)).bind (fun e=>match e with|(.inl e)=>some (-1:Int)|(.inr e)=>some e)
def fV:PlR:=⟨[(0,.A [0,1]),(1,.A [0,1,7,8]),(2,.A [0,1,7,8,9]),(3,.A [0,1,5,7,8]),(4,.A [0,1,5,7,8,16]),(5,.A [4]),(6,.A [0,1,7,8]),(7,.A [4])],[],[]⟩
def gE:Ty:=.pair (.sl q8) (.pair (.clo 62 (.pair (.rp (.sl wj)) .unit)) .unit)
def cU(F:Md):aH:=mSpec gE (.one qi) (fun x=>bT F x.1 x.2.1)
abbrev gF(F:Md):List (FuncId×aH):=[(62,(xJ F))]
theorem qU(F:Md):bA Tryz.prog GL (gF F):=.cons (aOt F) xAa (.nil)
attribute [go_sem] gE fV
theorem qE(F:Md):FOK Tryz.prog GL 96 (cU F):=by
 refine aX (aY (qU F)) mix Tryz.func96 rfl xAa xAb fV (fun w0 S x Θ z h hV=>?_);obtain⟨(g:(List qq)),(q:(qr×Unit)),u⟩:=x;simp only[bD,go_sem];replace h:sat (bT F g q) _:=h;unfold bT at h;refine aU hV (D:=Int) [0,1,7] (fun d=>[(8,.val qi d)]) (fun d=>[]) h rfl xAc ?_;rintro f I T2 hA2 hE2 h;simp only[go_sem];replace h:sat (bL F g q f) _:=h;unfold bL at h;exact zaN
attribute [go_sem] cU
def aV(F:Md)(f:(List qq))(g:(qr×Unit)):Option Bool :=
 (bT F f g).bind (fun q=>some (decide ((0:Int)≤q)))
def eY:PlR:=⟨[(0,.A [0,1]),(1,.A [4])],[],[]⟩
def fI:Ty:=.pair (.sl q8) (.pair (.clo 62 (.pair (.rp (.sl wj)) .unit)) .unit)
def cJ(F:Md):aH:=mSpec fI (.one .bool) (fun x=>aV F x.1 x.2.1)
abbrev fJ(F:Md):List (FuncId×aH):=[(96,(cU F))]
theorem oN(F:Md):bA Tryz.prog GL (fJ F):=.cons (qE F) xAa (.nil)
attribute [go_sem] fI eY
theorem nZ(F:Md):FOK Tryz.prog GL 58 (cJ F):=by
 refine aX (aY (oN F)) mix Tryz.func58 rfl xAa xAb eY (fun w0 S x Θ z h hV=>?_);obtain⟨(g:(List qq)),(f:(qr×Unit)),u⟩:=x;simp only[bD,go_sem];replace h:sat (aV F g f) _:=h;unfold aV at h;refine aD h fun q hv h=>?_;exact zaW
attribute [go_sem] cJ
def dU(F:Md)(I:qa)(q:Int)(g:Int)(f:qr):Option ((Int×qr)⊕(qr⊕Bool)) :=
 if g<(((I.2.2.2.2.2.2.2.2.1.getD (q.toNat) ([],[],[],[],[],())).2.2.2.1.length:Nat):Int) then ck (0≤g∧g<(((I.2.2.2.2.2.2.2.2.1.getD (q.toNat) ([],[],[],[],[],())).2.2.2.1.length:Nat):Int)) (ck (¬((f.length:Int)=(0:Int))→((0:Int)<(f.length:Int))) (ck (¬(((f.length:Int)=(0:Int))∨(¬((f.getD (0:Nat) ([],[],[],[],())).1=(I.2.2.2.2.2.2.2.2.1.getD (q.toNat) ([],[],[],[],[],())).1)))→((0:Int)<(f.length:Int))) (if (((f.length:Int)=(0:Int))∨(¬((f.getD (0:Nat) ([],[],[],[],())).1=(I.2.2.2.2.2.2.2.2.1.getD (q.toNat) ([],[],[],[],[],())).1)))∨(¬((f.getD (0:Nat) ([],[],[],[],())).2.1=((I.2.2.2.2.2.2.2.2.1.getD (q.toNat) ([],[],[],[],[],())).2.2.2.1.getD (g.toNat) ([]:List Nat)))) then some (.inr (.inr false)) else ck ((0:Int)<(f.length:Int)) ((rQ F I (f.getD (0:Nat) ([],[],[],[],())).2.2.1).bind (fun z=>ck (¬(z<(0:Int))→(0≤z∧z<(I.2.2.2.2.2.2.2.2.1.length:Int))) (ck (¬(z<(0:Int))→((aV F (I.2.2.2.2.2.2.2.2.1.getD (z.toNat) ([],[],[],[],[],())).2.2.2.2.1 (f,())).isSome=true)) (if (z<(0:Int))∨(¬(((aV F (I.2.2.2.2.2.2.2.2.1.getD (z.toNat) ([],[],[],[],[],())).2.2.2.2.1 (f,())).getD false)=true)) then some (.inr (.inr false)) else ck ((1:Int)≤(f.length:Int)) (ck (I64 (g+(1:Int))) (some (.inl ((g+(1:Int)),(List.drop (1:Nat) f)))))))))))) else some (.inr (.inl f))
def dV(F:Md)(q:qa)(f:Int)(g:qr):Option ((Int×qr)⊕(qr⊕Bool)) :=
 if f<(q.2.2.2.2.2.2.2.2.1.length:Int) then ck (0≤f∧f<(q.2.2.2.2.2.2.2.2.1.length:Int)) ((bO F (fun d:Int×qr=>dU F q f d.1 d.2) ((0:Int),g)).bind (fun e=>match e with|(.inl e)=>ck (I64 (f+(1:Int))) (some (.inl ((f+(1:Int)),e)))|(.inr e)=>some (.inr (.inr e)))) else some (.inr (.inl g))
def iC(F:Md)(f:qa):Option Bool :=
 (bO F (fun d:Int×qr=>dV F f d.1 d.2) ((0:Int),f.2.2.2.2.2.2.2.2.2.1)).bind (fun e=>match e with|(.inl e)=>some (decide ((e.length:Int)=(0:Int)))|(.inr e)=>some e)
def aIB:PlR:=⟨[(0,.B [1]),(1,.B [1,3]),(2,.A [1,3,12,13,14]),(3,.A [1,3,12,13,14,15]),(4,.B [1,3,5,12,13,14]),(5,.A [1,3,5,12,13,14,19,20,21]),(6,.A [1,3,5,12,13,14,19,20,21,22]),(7,.A [1,3,5,7,12,13,14,19,20,21]),(8,.A [1,3,5,12,13,14,19,20,21,44]),(9,.A [2]),(10,.A [1,3,5,8,12,13,14,19,20,21]),(11,.A [1,3,5,12,13,14,19,20,21,63]),(12,.A [2]),(13,.B [1,3,5,12,13,14,19,20,21]),(14,.A [1,3,5,12,13,14,19,20,21]),(15,.A [1,3,12,13,14]),(16,.A [2])],[],[]⟩
def aJW:Ty:=.pair qe .unit
def aAT(F:Md):aH:=mSpec aJW (.one .bool) (fun x=>iC F x.1)
abbrev aFr(F:Md):List (FuncId×aH):=[(58,(cJ F)),(61,(aDe F))]
theorem aVM(F:Md):bA Tryz.prog GL (aFr F):=.cons (nZ F) xAa (.cons (aXR F) xAa (.nil))
attribute [go_sem] aJW aIB
theorem aS1(F:Md):FOK Tryz.prog GL 36 (aAT F):=by
 refine aX (aY (aVM F)) mix Tryz.func36 rfl xAa xAb aIB (fun w0 S x Θ U h hV=>?_);obtain⟨(g:qa),u⟩:=x;simp only[bD,go_sem];replace h:sat (iC F g) _:=h;unfold iC at h;refine aU hV (D:=Int×qr) [12,13] (fun d=>[(1,.ptr 0 []),(3,.ptr 1 []),(14,.val qi d.1)]) (fun d=>[.inr (.box 10 (.val qe g)),.inr (.box 1 (.val (.sl wj) d.2))]) h rfl xAc ?_;rintro⟨f,L⟩ W T3 hA3 I h;simp only[go_sem];replace h:sat (dV F g f L) _:=h;unfold dV at h;refine bP h (fun hc h=>?_) fun hc h=>?_
 ·refine aB h fun g0 h=>(yaC ?_);refine aU hV (D:=Int×qr) [12,13,14,19,20] (fun d=>[(1,.ptr 0 []),(3,.ptr 1 []),(5,.ptr 2 []),(21,.val qi d.1)]) (fun d=>[.inr (.box 10 (.val qe g)),.inr (.box 1 (.val (.sl wj) d.2)),.inr (.box 5 (.val qc (g.2.2.2.2.2.2.2.2.1.getD (f.toNat) ([],[],[],[],[],()))))]) h rfl xAc ?_;rintro⟨q,J⟩ Z Y N z h;simp only[go_sem];replace h:sat (dU F g f q J) _:=h;unfold dU at h;refine bP h (fun hc h=>?_) fun hc h=>?_
  ·refine aB h fun g0 h=>(yaC ?_);refine aB h fun g0 h=>?_;refine aB h fun g1 h=>(yaF ?_);refine⟨fun hc=>?_,fun hc=>?_⟩
   ·replace h:=cW hc h;replace h:=yaH (z _ (aA h));replace h:=yaH (I _ (aA h));exact zaB
   ·replace h:=cX hc h;refine aB h fun g0 h=>(yaC ?_);refine aD h fun O hv h=>?_;(try simp only[hv,go_sem]);refine aB h fun g0 h=>?_;refine aB h fun g1 h=>(yaF ?_);refine⟨fun hc=>?_,fun hc=>?_⟩
    ·replace h:=cW zAD h;replace h:=yaH (z _ (aA h));replace h:=yaH (I _ (aA h));exact zaB
    ·replace h:=cX zAD h;refine aB h fun g0 h=>(yaC ?_);refine aB h fun g0 h=>?_;(try simp only[I64,I32] at g0);(repeat (refine⟨zAB,?_⟩));replace h:=N _ (aA h);exact zaF
  ·replace h:=yaH (z _ (aA h));refine aB h fun g0 h=>?_;(try simp only[I64,I32] at g0);(repeat (refine⟨zAB,?_⟩));replace h:=hA3 _ (aA h);refine fA [0,1] rfl rfl (yaA ?_);exact zaF
 ·replace h:=yaH (I _ (aA h));exact zaB
attribute [go_sem] aAT
def tQ(F:Md)(g:qa)(names_16:qj):Option (Bool) :=
 (oW F names_16).bind (fun f=>ck ((f=true)→((iC F g).isSome=true)) (some (f&&((iC F g).getD false))))
def qF(F:Md)(g:qa)(f:Int)(names_24:qj):Option ((Int×qj)⊕(qj⊕Bool)) :=
 if f<(g.2.2.2.2.2.2.2.2.1.length:Int) then ck (0≤f∧f<(g.2.2.2.2.2.2.2.2.1.length:Int)) ((tP F (g.2.2.2.2.2.2.2.2.1.getD (f.toNat) ([],[],[],[],[],()))).bind (fun q=>if ¬(q=true) then some (.inr (.inr false)) else ck (((names_24.length)+(1:Nat))*16≤140737488355328) (ck (I64 (f+(1:Int))) (some (.inl ((f+(1:Int)),(names_24++([(g.2.2.2.2.2.2.2.2.1.getD (f.toNat) ([],[],[],[],[],())).1]:List qd)))))))) else some (.inr (.inl names_24))
def yO(F:Md)(f:qa):Option Bool :=
 (rD F f).bind (fun v_7=>if ((¬(v_7=true))∨((f.2.2.2.2.2.2.2.2.1.length:Int)<(1:Int)))∨((4:Int)<(f.2.2.2.2.2.2.2.2.1.length:Int)) then some false else (bO F (fun d:Int×qj=>qF F f d.1 d.2) ((0:Int),([]:List qd))).bind (fun e=>match e with|(.inl e)=>tQ F f e|(.inr e)=>some e))
def aOw:PlR:=⟨[(0,.B [1]),(1,.A [1,20]),(2,.A [2]),(3,.A [1,3]),(4,.A [1,3,22,23,24]),(5,.A [1,3,22,23,24,25]),(6,.B [1,3,5,22,23,24]),(7,.A [1,3,5,22,23,24,30]),(8,.A [2]),(9,.B [1,3,22,23,24]),(10,.A [1,3,22,23,24]),(11,.A [2])],[(7,14)],[]⟩
def aRL:Ty:=.pair qe .unit
def aEG(F:Md):aH:=mSpec aRL (.one .bool) (fun x=>yO F x.1)
abbrev aDP(F:Md):List (FuncId×aH):=[(33,(zW F)),(34,(aAS F)),(35,(tN F)),(36,(aAT F))]
theorem bC6(F:Md):bA Tryz.prog GL (aDP F):=.cons (aQm F) xAa (.cons (aS0 F) xAa (.cons (aJR F) xAa (.cons (aS1 F) xAa (.nil))))
attribute [go_sem] aRL aOw
theorem bAw(F:Md):FOK Tryz.prog GL 18 (aEG F):=by
 refine aX (aY (bC6 F)) mix Tryz.func18 rfl xAa xAb aOw (fun w0 S x Θ J h hV=>?_);obtain⟨(f:qa),u⟩:=x;simp only[bD,go_sem];replace h:sat (yO F f) _:=h;unfold yO at h;refine aD h fun v_7 hv h=>?_;try simp only[hv,go_sem]
 refine⟨fun hc=>?_,fun hc=>?_⟩
 ·replace h:=cW zAD h;exact zaB
 ·replace h:=cX zAD h;refine bH hV (D:=qj) (fun d=>sat (tQ F f d) Θ) [] (fun d=>[(1,.ptr 0 []),(3,.own 1)]) (fun d=>[.inr (.box 10 (.val qe f)),.inr (.row 9 .str d)]) ?_ ?_
  ·simp only[go_sem];refine pM 3 9 .str rfl (yaA ?_);refine aU hV (D:=Int×qj) [22,23] (fun d=>[(1,.ptr 0 []),(3,.own 1),(24,.val qi d.1)]) (fun d=>[.inr (.box 10 (.val qe f)),.inr (.row 9 .str d.2)]) h rfl xAc ?_;rintro⟨g,names_24⟩ L T5 hA5 q h;simp only[go_sem];replace h:sat (qF F f g names_24) _:=h;unfold qF at h;refine bP h (fun hc h=>?_) fun hc h=>?_
   ·refine aB h fun g0 h=>(yaB ?_);refine aD h fun I hv h=>?_;(try simp only[hv,go_sem]);refine aAn h (fun hc h=>?_) fun hc h=>?_
    ·replace h:=yaH (q _ (aA h));exact zaB
    ·refine aB h fun g0 h=>(yaB ?_);refine aB h fun g0 h=>(yaB ?_);replace h:=hA5 _ (aA h);refine fA [0,3] rfl rfl (yaA ?_);exact zaF
   ·replace h:=yaH (q _ (aA h));exact aK (names_24) h rfl xAc
  ·rintro names_16 h;simp only[go_sem];replace h:sat (tQ F f names_16) _:=h;unfold tQ at h;refine aD h fun z hv h=>?_;(try simp only[hv,go_sem]);refine aB h fun g0 h=>(yaB ?_);exact zaB
attribute [go_sem] aEG
def tR(F:Md)(f:Bool):Option (Int) :=
 if f=true then some (2:Int) else some (0:Int)
def tS(F:Md)(f:Int)(g:Bool):Option (Int) :=
 if g=true then some (1:Int) else if f=(8:Int) then tR F (decide (f=(8:Int))) else tR F (decide (f=(9:Int)))
def mE(F:Md)(f:Int):Option Int :=
 if f=(6:Int) then tS F f (decide (f=(6:Int))) else tS F f (decide (f=(7:Int)))
@[go_sem]def aDf:Ty:=.pair qi .unit
def aCd(F:Md):aH:=mSpec aDf (.one qi) (fun x=>mE F x.1)
abbrev aLH(F:Md):List (FuncId×aH):=[]
theorem aLI(F:Md):bA Tryz.prog GL (aLH F):=.nil
theorem aVR(F:Md):FOK Tryz.prog GL 17 (aCd F):=by
 refine wH (aY (aLI F)) Tryz.func17 rfl xAa xAb fun w0 S x r z h=>?_;have hF:xT (fr Tryz.prog (EM (aLH F)) S w0 Tryz.f17.ntmps):=⟨aY (aLI F),mix⟩;obtain⟨(f:Int),u⟩:=x;simp only[aDf,Ty.wf,aE8] at z;simp only[bD,aDf];try dsimp only at h
 replace h:mE F f=some r:=h;unfold mE at h;refine aO (aM hF [0] (yaA ?_));refine aP (aO (aO (aM hF [3] (yaA ?_))));refine aP (gU (zD (D:=Bool) (fun d=>tS F f d=some r) [3] (fun d=>[(4,.val .bool d)]) (fun d=>[]) ?_ ?_))
 ·refine aO (aM hF [3,4] (yaA ?_));refine aP (cE rfl (fun hc=>?_) (fun hc=>?_))
  ·(try simp only[go_sem] at hc);have h:=jZ zAD h;refine dA (cD (aK (decide (f=(6:Int))) h rfl ?_))
   ·exact zAJ
  ·(try simp only[go_sem] at hc);have h:=iW zAD h;refine aM hF [3,4] (yaA ?_);refine cD (aK (decide (f=(7:Int))) h rfl ?_)
   ·exact zAJ
 ·rintro g h;try dsimp only at h
  simp only[go_sem];unfold tS at h;refine cE rfl (fun hc=>?_) (fun hc=>?_)
  ·(try simp only[go_sem] at hc);exact zaQ
  ·(try simp only[go_sem] at hc);have h:=iW zAD h;refine zD (D:=Bool) (fun d=>tR F d=some r) [] (fun d=>[(7,.val .bool d)]) (fun d=>[]) ?_ ?_
   ·refine aO (aM hF [3,7] (yaA ?_));refine aP (cE rfl (fun hc=>?_) (fun hc=>?_))
    ·(try simp only[go_sem] at hc);have h:=jZ zAD h;refine dA (cD (aK (decide (f=(8:Int))) h rfl ?_))
     ·exact zAJ
    ·(try simp only[go_sem] at hc);have h:=iW zAD h;refine aM hF [7] (yaA ?_);refine cD (aK (decide (f=(9:Int))) h rfl ?_)
     ·exact zAJ
   ·rintro q h;(try dsimp only at h);simp only[go_sem];unfold tR at h;exact zai
attribute [go_sem] aCd
@[go_sem]def aDg:Ty:=.pair .expr .unit
@[go_sem]def yP(g:Ex→Option qd):aH:=mSpec aDg (.one .str) (fun x=>g x.1)
def iH(F:Md)(g:Ex→Option qd)(f:Ex)(q:qd)(z:qd):Option qd :=
 ck (I64 ((f.kind)-(6:Int))) (ck (0≤((f.kind)-(6:Int))∧((f.kind)-(6:Int))<(4:Int)) (ck ((q.length)+(([(aI ⟨#[32,43,32]⟩),(aI ⟨#[32,45,32]⟩),(aI ⟨#[32,42,32]⟩),(aI ⟨#[32,47,32]⟩)]:List qd).getD ((f.kind)-(6:Int)).toNat ([]:List Nat)).length≤9223372036854775807) (ck ((q++(([(aI ⟨#[32,43,32]⟩),(aI ⟨#[32,45,32]⟩),(aI ⟨#[32,42,32]⟩),(aI ⟨#[32,47,32]⟩)]:List qd).getD ((f.kind)-(6:Int)).toNat ([]:List Nat))).length+(z.length)≤9223372036854775807) (some ((q++(([(aI ⟨#[32,43,32]⟩),(aI ⟨#[32,45,32]⟩),(aI ⟨#[32,42,32]⟩),(aI ⟨#[32,47,32]⟩)]:List qd).getD ((f.kind)-(6:Int)).toNat ([]:List Nat)))++z)))))
def fW(F:Md)(g:Ex→Option qd)(z:Int)(v_5:Int)(f:qd)(I:Ex)(q:qd):Option qd :=
 if (z=(1:Int))∨((v_5=(2:Int))∧(z=(2:Int))) then ck ((aI ⟨#[40]⟩).length+(f.length)≤9223372036854775807) (ck (((aI ⟨#[40]⟩)++f).length+(aI ⟨#[41]⟩).length≤9223372036854775807) (iH F g I q (((aI ⟨#[40]⟩)++f)++(aI ⟨#[41]⟩)))) else iH F g I q f
def fY(F:Md)(g:Ex→Option qd)(f:Ex):Option qd :=
 (mE F (f.kind)).bind (fun v_5=>(dN F (f.kind)).bind (fun N=>if N=(0:Int) then some (f.text) else if (0:Int)<v_5 then ck ((0:Int)<(((f.l).length:Nat):Int)) ((g ((f.l).getD (0:Nat) (Ex.mk 0 [] []))).bind (fun z=>ck ((1:Int)<(((f.l).length:Nat):Int)) ((g ((f.l).getD (1:Nat) (Ex.mk 0 [] []))).bind (fun J=>ck ((0:Int)<(((f.l).length:Nat):Int)) ((mE F ((f.l).getD (0:Nat) (Ex.mk 0 [] [])).kind).bind (fun U=>ck ((1:Int)<(((f.l).length:Nat):Int)) ((mE F ((f.l).getD (1:Nat) (Ex.mk 0 [] [])).kind).bind (fun L=>if (v_5=(2:Int))∧(U=(1:Int)) then ck ((aI ⟨#[40]⟩).length+(z.length)≤9223372036854775807) (ck (((aI ⟨#[40]⟩)++z).length+(aI ⟨#[41]⟩).length≤9223372036854775807) (fW F g L v_5 J f (((aI ⟨#[40]⟩)++z)++(aI ⟨#[41]⟩)))) else fW F g L v_5 J f z)))))))) else if (f.kind)=(10:Int) then ck ((0:Int)<(((f.l).length:Nat):Int)) ((g ((f.l).getD (0:Nat) (Ex.mk 0 [] []))).bind (fun q=>ck ((0:Int)<(((f.l).length:Nat):Int)) ((mE F ((f.l).getD (0:Nat) (Ex.mk 0 [] [])).kind).bind (fun O=>if (0:Int)<O then ck ((aI ⟨#[40]⟩).length+(q.length)≤9223372036854775807) (ck (((aI ⟨#[40]⟩)++q).length+(aI ⟨#[41]⟩).length≤9223372036854775807) (ck ((aI ⟨#[45]⟩).length+(((aI ⟨#[40]⟩)++q)++(aI ⟨#[41]⟩)).length≤9223372036854775807) (some ((aI ⟨#[45]⟩)++(((aI ⟨#[40]⟩)++q)++(aI ⟨#[41]⟩)))))) else ck ((aI ⟨#[45]⟩).length+(q.length)≤9223372036854775807) (some ((aI ⟨#[45]⟩)++q)))))) else ck (I64 ((f.kind)-(11:Int))) (ck (0≤((f.kind)-(11:Int))∧((f.kind)-(11:Int))<(3:Int)) (ck ((0:Int)<(((f.l).length:Nat):Int)) ((g ((f.l).getD (0:Nat) (Ex.mk 0 [] []))).bind (fun I=>ck ((([(aI ⟨#[115,113,114,40]⟩),(aI ⟨#[115,113,114,116,40]⟩),(aI ⟨#[101,120,112,40]⟩)]:List qd).getD ((f.kind)-(11:Int)).toNat ([]:List Nat)).length+(I.length)≤9223372036854775807) (ck (((([(aI ⟨#[115,113,114,40]⟩),(aI ⟨#[115,113,114,116,40]⟩),(aI ⟨#[101,120,112,40]⟩)]:List qd).getD ((f.kind)-(11:Int)).toNat ([]:List Nat))++I).length+(aI ⟨#[41]⟩).length≤9223372036854775807) (some (((([(aI ⟨#[115,113,114,40]⟩),(aI ⟨#[115,113,114,116,40]⟩),(aI ⟨#[101,120,112,40]⟩)]:List qd).getD ((f.kind)-(11:Int)).toNat ([]:List Nat))++I)++(aI ⟨#[41]⟩))))))))))
def aJX:PlR:=⟨[(0,.B [1]),(1,.A [1,3]),(2,.A [1,3,12]),(3,.A [2]),(4,.A [1,3,19]),(5,.A [1,3,4,5]),(6,.A [1,3,4,5,6,7]),(7,.A [1,3,4,5,7,49]),(8,.A [1,3,4,5,7]),(9,.A [1,4,5,62]),(10,.A [1,4,5]),(11,.A [2]),(12,.A [1,76]),(13,.A [1,8]),(14,.A [8,91]),(15,.A [8]),(16,.A [2]),(17,.A [2])],[(10,12),(12,14)],[]⟩
abbrev aDh(F:Md)(g:Ex→Option qd):List (FuncId×aH):=[(15,(tI F)),(17,(aCd F)),(9,(yP g))]
theorem aXS(F:Md)(g:Ex→Option qd)(f:FOK Tryz.prog GL 9 (yP g)):bA Tryz.prog GL (aDh F g):=.cons (aJK F) xAa (.cons (aVR F) xAa (.cons f xAa (.nil)))
attribute [go_sem] aJX
theorem aS3(F:Md)(g:Ex→Option qd)(hg:FOK Tryz.prog GL 9 (yP g)):FOK Tryz.prog GL 9 (mSpec aDg (.one .str) (fun x=>fY F g x.1)):=by
 refine aX (aY (aXS F g hg)) mix Tryz.func9 rfl xAa xAb aJX (fun w0 S x Θ hw h hV=>?_);obtain⟨(f:Ex),u⟩:=x;simp only[bD,go_sem];replace h:sat (fY F g f) _:=h;unfold fY at h;refine aD h fun v_5 hv h=>?_;try simp only[hv,go_sem]
 try simp only[List.replicate,List.set,hv,go_sem]
 refine aD h fun N hv h=>?_;try simp only[hv,go_sem]
 try simp only[List.replicate,List.set,hv,go_sem]
 refine bS h (fun hc h=>?_) fun hc h=>?_
 ·exact aE hV [.tmp 2] rfl rfl rfl (aA h) xAd
 ·refine bP h (fun hc h=>?_) fun hc h=>?_
  ·refine aB h fun g0 h=>?_;(try simp only[List.replicate,List.set,go_sem]);(repeat (refine⟨zAA,?_⟩));refine aD h fun J hv h=>?_;(try simp only[hv,go_sem]);(try simp only[List.replicate,List.set,hv,go_sem]);refine aB h fun g0 h=>?_;(try simp only[List.replicate,List.set,go_sem]);(repeat (refine⟨zAA,?_⟩));refine aD h fun q hv h=>?_;(try simp only[hv,go_sem]);(try simp only[List.replicate,List.set,hv,go_sem]);refine aB h fun g0 h=>?_;(try simp only[List.replicate,List.set,go_sem]);(repeat (refine⟨zAA,?_⟩));refine aD h fun U hv h=>?_;(try simp only[hv,go_sem]);(try simp only[List.replicate,List.set,hv,go_sem]);refine aB h fun g0 h=>?_;(try simp only[List.replicate,List.set,go_sem]);(repeat (refine⟨zAA,?_⟩));refine aD h fun I hv h=>?_;(try simp only[hv,go_sem]);(try simp only[List.replicate,List.set,hv,go_sem]);refine bH hV (D:=qd) (fun d=>sat (fW F g I v_5 q f d) Θ) [3,5,7] (fun d=>[(1,.ptr 0 []),(4,.val .str d)]) (fun d=>[.inr (.box 3 (.val .expr f))]) ?_ ?_
   ·simp only[go_sem];refine⟨fun hc=>?_,fun hc=>?_⟩
    ·replace h:=cW hc h;refine aB h fun g0 h=>?_;refine aB h fun g1 h=>?_;(try simp only[List.replicate,List.set,go_sem]);(repeat (refine⟨zAA,?_⟩));exact aK (((aI ⟨#[40]⟩)++J)++(aI ⟨#[41]⟩)) h rfl xAc
    ·replace h:=cX hc h;exact aK (J) h rfl xAc
   ·rintro z h;simp only[go_sem];replace h:sat (fW F g I v_5 q f z) _:=h;unfold fW at h;refine bH hV (D:=qd) (fun d=>sat (iH F g f z d) Θ) [4] (fun d=>[(1,.ptr 0 []),(5,.val .str d)]) (fun d=>[.inr (.box 3 (.val .expr f))]) ?_ ?_
    ·simp only[go_sem];refine⟨fun hc=>?_,fun hc=>?_⟩
     ·replace h:=cW hc h;refine aB h fun g0 h=>?_;refine aB h fun g1 h=>?_;(try simp only[List.replicate,List.set,go_sem]);(repeat (refine⟨zAA,?_⟩));exact aK (((aI ⟨#[40]⟩)++q)++(aI ⟨#[41]⟩)) h rfl xAc
     ·replace h:=cX hc h;exact aK (q) h rfl xAc
    ·rintro L h;simp only[go_sem];replace h:sat (iH F g f z L) _:=h;unfold iH at h;refine aB h fun g0 h=>?_;refine aB h fun g1 h=>?_;refine aB h fun Z h=>?_;refine aB h fun g3 h=>?_;(try simp only[I64,I32] at g0);exact zan
  ·refine bS h (fun hc h=>?_) fun hc h=>?_
   ·refine aB h fun g0 h=>?_;(try simp only[List.replicate,List.set,go_sem]);(repeat (refine⟨zAA,?_⟩));refine aD h fun Y hv h=>?_;(try simp only[hv,go_sem]);(try simp only[List.replicate,List.set,hv,go_sem]);refine aB h fun g0 h=>?_;(try simp only[List.replicate,List.set,go_sem]);(repeat (refine⟨zAA,?_⟩));refine aD h fun O hv h=>?_;(try simp only[hv,go_sem]);(try simp only[List.replicate,List.set,hv,go_sem]);refine bP h (fun hc h=>?_) fun hc h=>?_
    ·refine aB h fun g0 h=>?_;refine aB h fun g1 h=>?_;(try simp only[List.replicate,List.set,go_sem]);(repeat (refine⟨zAA,?_⟩));refine aB h fun g0 h=>?_;exact zan
    ·refine aB h fun g0 h=>?_;exact zan
   ·refine aB h fun g0 h=>?_;refine aB h fun g1 h=>?_;refine aB h fun Z h=>?_;(try simp only[I64,I32] at g0);(try simp only[List.replicate,List.set,go_sem]);(repeat (refine⟨zAA,?_⟩));refine aD h fun W hv h=>?_;(try simp only[hv,go_sem]);(try simp only[List.replicate,List.set,hv,go_sem]);refine aB h fun g0 h=>?_;refine aB h fun g1 h=>?_;exact zan
def fZ(F:Md):Nat→Ex→Option qd
 | 0=>fun _=>none
 | n+1=>fY F (fZ F n)
def tT(F:Md)(n:Nat):aH:=mSpec aDg (.one .str) (fun x=>fZ F n x.1)
theorem aFs(F:Md):∀n,FOK Tryz.prog GL 9 (tT F n)
 | 0=>fun _ _ _ _ _ _ _ hp=>Bool.noConfusion (show false=true from hp)
 | n+1=>aS3 F _ (aFs F n)
attribute [go_sem] tT
def nG(F:Md)(f:Int)(g:qd):Option qd :=
 ck (I64 (f+(1:Int))) (ck (0≤f∧f≤(f+(1:Int))∧(f+(1:Int))≤(((aI ⟨#[48,49,50,51,52,53,54,55,56,57]⟩).length:Nat):Int)) (ck ((List.drop (f.toNat) (List.take (f+(1:Int)).toNat (aI ⟨#[48,49,50,51,52,53,54,55,56,57]⟩))).length+(g.length)≤9223372036854775807) (some ((List.drop (f.toNat) (List.take (f+(1:Int)).toNat (aI ⟨#[48,49,50,51,52,53,54,55,56,57]⟩)))++g))))
def jP(F:Md)(f:Int)(g:qd):Option (ww⊕ww) :=
 if (9:Int)<f then ck (I64 ((Int.tmod f (10:Int))+(1:Int))) (ck (0≤(Int.tmod f (10:Int))∧(Int.tmod f (10:Int))≤((Int.tmod f (10:Int))+(1:Int))∧((Int.tmod f (10:Int))+(1:Int))≤(((aI ⟨#[48,49,50,51,52,53,54,55,56,57]⟩).length:Nat):Int)) (ck ((List.drop (Int.tmod f (10:Int)).toNat (List.take ((Int.tmod f (10:Int))+(1:Int)).toNat (aI ⟨#[48,49,50,51,52,53,54,55,56,57]⟩))).length+(g.length)≤9223372036854775807) (ck (I64 (Int.tdiv f (10:Int))) (some (.inl ((Int.tdiv f (10:Int)),((List.drop (Int.tmod f (10:Int)).toNat (List.take ((Int.tmod f (10:Int))+(1:Int)).toNat (aI ⟨#[48,49,50,51,52,53,54,55,56,57]⟩)))++g))))))) else some (.inr (f,g))
def mO(F:Md)(f:Int):Option qd :=
 (bO F (fun d:Int×qd=>jP F d.1 d.2) (f,(aI ⟨#[]⟩))).bind (fun e=>nG F e.1 e.2)
def aIC:PlR:=⟨[(0,.A [0]),(1,.A [0,3]),(2,.A [0,3,5]),(3,.A [0,3]),(4,.A [0,3]),(5,.A [2])],[(5,8)],[]⟩
def aJY:Ty:=.pair qi .unit
def aAU(F:Md):aH:=mSpec aJY (.one .str) (fun x=>mO F x.1)
abbrev aVS(F:Md):List (FuncId×aH):=[]
theorem aVT(F:Md):bA Tryz.prog GL (aVS F):=.nil
attribute [go_sem] aJY aIC
theorem aS4(F:Md):FOK Tryz.prog GL 31 (aAU F):=by
 refine aX (aY (aVT F)) mix Tryz.func31 rfl xAa xAb aIC (fun w0 S x Θ L h hV=>?_);obtain⟨(z:Int),u⟩:=x;simp only[bD,go_sem];replace h:sat (mO F z) _:=h;unfold mO at h;refine bH hV (D:=Int×qd) (fun d=>sat (nG F d.1 d.2) Θ) [] (fun d=>[(0,.val qi d.1),(3,.val .str d.2)]) (fun d=>[]) ?_ ?_
 ·simp only[go_sem];refine aU hV (D:=Int×qd) [] (fun d=>[(0,.val qi d.1),(3,.val .str d.2)]) (fun d=>[]) h rfl xAc ?_;rintro⟨f,g⟩ N T2 hA2 hE2 h;simp only[go_sem];replace h:sat (jP F f g) _:=h;unfold jP at h;refine bP h (fun hc h=>?_) fun hc h=>?_
  ·refine aG h fun g0 h=>aG h fun g1 h=>aG h fun J h=>?_;refine aG h fun g0 h=>?_;exact zar
  ·replace h:=yaH (hE2 _ (aA h));exact aK (f,g) h rfl xAc
 ·rintro⟨I,q⟩ h;simp only[go_sem];replace h:sat (nG F I q) _:=h;unfold nG at h;refine aG h fun g0 h=>aG h fun g1 h=>aG h fun J h=>?_;exact zaB
attribute [go_sem] aAU
def vG(F:Md)(f:qm):Option qd :=
 if f.2.1=(aI ⟨#[]⟩) then some f.1 else ck ((f.1.length)+(aI ⟨#[32]⟩).length≤9223372036854775807) (ck ((f.1++(aI ⟨#[32]⟩)).length+(f.2.1.length)≤9223372036854775807) (some ((f.1++(aI ⟨#[32]⟩))++f.2.1)))
def aLJ:PlR:=⟨[(0,.B [1]),(1,.A [1,5]),(2,.A [2]),(3,.A [2])],[],[]⟩
def aOx:Ty:=.pair qn .unit
def aDi(F:Md):aH:=mSpec aOx (.one .str) (fun x=>vG F x.1)
abbrev bAx(F:Md):List (FuncId×aH):=[]
theorem bAy(F:Md):bA Tryz.prog GL (bAx F):=.nil
attribute [go_sem] aOx aLJ
theorem aXT(F:Md):FOK Tryz.prog GL 32 (aDi F):=by
 refine aX (aY (bAy F)) mix Tryz.func32 rfl xAa xAb aLJ (fun w0 S x Θ g h hV=>?_);obtain⟨(f:qm),u⟩:=x;simp only[bD,go_sem];replace h:sat (vG F f) _:=h;unfold vG at h;exact za2
attribute [go_sem] aDi
def iN(F:Md)(g:qa)(q:qd)(f:Int):Option (vf⊕qd) :=
 if f<(g.2.2.2.2.2.2.2.2.2.1.length:Int) then ck (0≤f∧f<(g.2.2.2.2.2.2.2.2.2.1.length:Int)) (ck ((q.length)+(aI ⟨#[108,105,110,107,32]⟩).length≤9223372036854775807) (ck ((q++(aI ⟨#[108,105,110,107,32]⟩)).length+(g.2.2.2.2.2.2.2.2.2.1.getD (f.toNat) ([],[],[],[],())).1.length≤9223372036854775807) (ck (((q++(aI ⟨#[108,105,110,107,32]⟩))++(g.2.2.2.2.2.2.2.2.2.1.getD (f.toNat) ([],[],[],[],())).1).length+(aI ⟨#[46]⟩).length≤9223372036854775807) (ck ((((q++(aI ⟨#[108,105,110,107,32]⟩))++(g.2.2.2.2.2.2.2.2.2.1.getD (f.toNat) ([],[],[],[],())).1)++(aI ⟨#[46]⟩)).length+(g.2.2.2.2.2.2.2.2.2.1.getD (f.toNat) ([],[],[],[],())).2.1.length≤9223372036854775807) (ck (((((q++(aI ⟨#[108,105,110,107,32]⟩))++(g.2.2.2.2.2.2.2.2.2.1.getD (f.toNat) ([],[],[],[],())).1)++(aI ⟨#[46]⟩))++(g.2.2.2.2.2.2.2.2.2.1.getD (f.toNat) ([],[],[],[],())).2.1).length+(aI ⟨#[32,61,32]⟩).length≤9223372036854775807) (ck ((((((q++(aI ⟨#[108,105,110,107,32]⟩))++(g.2.2.2.2.2.2.2.2.2.1.getD (f.toNat) ([],[],[],[],())).1)++(aI ⟨#[46]⟩))++(g.2.2.2.2.2.2.2.2.2.1.getD (f.toNat) ([],[],[],[],())).2.1)++(aI ⟨#[32,61,32]⟩)).length+(g.2.2.2.2.2.2.2.2.2.1.getD (f.toNat) ([],[],[],[],())).2.2.1.length≤9223372036854775807) (ck (((((((q++(aI ⟨#[108,105,110,107,32]⟩))++(g.2.2.2.2.2.2.2.2.2.1.getD (f.toNat) ([],[],[],[],())).1)++(aI ⟨#[46]⟩))++(g.2.2.2.2.2.2.2.2.2.1.getD (f.toNat) ([],[],[],[],())).2.1)++(aI ⟨#[32,61,32]⟩))++(g.2.2.2.2.2.2.2.2.2.1.getD (f.toNat) ([],[],[],[],())).2.2.1).length+(aI ⟨#[46]⟩).length≤9223372036854775807) (ck ((((((((q++(aI ⟨#[108,105,110,107,32]⟩))++(g.2.2.2.2.2.2.2.2.2.1.getD (f.toNat) ([],[],[],[],())).1)++(aI ⟨#[46]⟩))++(g.2.2.2.2.2.2.2.2.2.1.getD (f.toNat) ([],[],[],[],())).2.1)++(aI ⟨#[32,61,32]⟩))++(g.2.2.2.2.2.2.2.2.2.1.getD (f.toNat) ([],[],[],[],())).2.2.1)++(aI ⟨#[46]⟩)).length+(g.2.2.2.2.2.2.2.2.2.1.getD (f.toNat) ([],[],[],[],())).2.2.2.1.length≤9223372036854775807) (ck (((((((((q++(aI ⟨#[108,105,110,107,32]⟩))++(g.2.2.2.2.2.2.2.2.2.1.getD (f.toNat) ([],[],[],[],())).1)++(aI ⟨#[46]⟩))++(g.2.2.2.2.2.2.2.2.2.1.getD (f.toNat) ([],[],[],[],())).2.1)++(aI ⟨#[32,61,32]⟩))++(g.2.2.2.2.2.2.2.2.2.1.getD (f.toNat) ([],[],[],[],())).2.2.1)++(aI ⟨#[46]⟩))++(g.2.2.2.2.2.2.2.2.2.1.getD (f.toNat) ([],[],[],[],())).2.2.2.1).length+(aI ⟨#[10]⟩).length≤9223372036854775807) (ck (I64 (f+(1:Int))) (some (.inl ((((((((((q++(aI ⟨#[108,105,110,107,32]⟩))++(g.2.2.2.2.2.2.2.2.2.1.getD (f.toNat) ([],[],[],[],())).1)++(aI ⟨#[46]⟩))++(g.2.2.2.2.2.2.2.2.2.1.getD (f.toNat) ([],[],[],[],())).2.1)++(aI ⟨#[32,61,32]⟩))++(g.2.2.2.2.2.2.2.2.2.1.getD (f.toNat) ([],[],[],[],())).2.2.1)++(aI ⟨#[46]⟩))++(g.2.2.2.2.2.2.2.2.2.1.getD (f.toNat) ([],[],[],[],())).2.2.2.1)++(aI ⟨#[10]⟩)),(f+(1:Int))))))))))))))) else some (.inr q)
def vY(F:Md)(g:qa)(f:qd):Option qd :=
 (bO F (fun d:qd×Int=>iN F g d.1 d.2) (f,(0:Int))).bind (fun e=>some e)
def iO(F:Md)(z:qa)(g:Int)(q:qd)(f:Int):Option (vf⊕qd) :=
 if f<(((z.2.2.2.2.2.2.2.2.1.getD (g.toNat) ([],[],[],[],[],())).2.2.2.2.1.length:Nat):Int) then ck ((q.length)+(aI ⟨#[111,117,116,32]⟩).length≤9223372036854775807) (ck (0≤f∧f<(((z.2.2.2.2.2.2.2.2.1.getD (g.toNat) ([],[],[],[],[],())).2.2.2.2.1.length:Nat):Int)) (ck ((q++(aI ⟨#[111,117,116,32]⟩)).length+((z.2.2.2.2.2.2.2.2.1.getD (g.toNat) ([],[],[],[],[],())).2.2.2.2.1.getD (f.toNat) ([],(Ex.mk 0 [] []),())).1.length≤9223372036854775807) (ck (((q++(aI ⟨#[111,117,116,32]⟩))++((z.2.2.2.2.2.2.2.2.1.getD (g.toNat) ([],[],[],[],[],())).2.2.2.2.1.getD (f.toNat) ([],(Ex.mk 0 [] []),())).1).length+(aI ⟨#[32,61,32]⟩).length≤9223372036854775807) (ck (0≤f∧f<(((z.2.2.2.2.2.2.2.2.1.getD (g.toNat) ([],[],[],[],[],())).2.2.2.2.1.length:Nat):Int)) ((fZ F 64 ((z.2.2.2.2.2.2.2.2.1.getD (g.toNat) ([],[],[],[],[],())).2.2.2.2.1.getD (f.toNat) ([],(Ex.mk 0 [] []),())).2.1).bind (fun I=>ck ((((q++(aI ⟨#[111,117,116,32]⟩))++((z.2.2.2.2.2.2.2.2.1.getD (g.toNat) ([],[],[],[],[],())).2.2.2.2.1.getD (f.toNat) ([],(Ex.mk 0 [] []),())).1)++(aI ⟨#[32,61,32]⟩)).length+(I.length)≤9223372036854775807) (ck (((((q++(aI ⟨#[111,117,116,32]⟩))++((z.2.2.2.2.2.2.2.2.1.getD (g.toNat) ([],[],[],[],[],())).2.2.2.2.1.getD (f.toNat) ([],(Ex.mk 0 [] []),())).1)++(aI ⟨#[32,61,32]⟩))++I).length+(aI ⟨#[10]⟩).length≤9223372036854775807) (ck (I64 (f+(1:Int))) (some (.inl ((((((q++(aI ⟨#[111,117,116,32]⟩))++((z.2.2.2.2.2.2.2.2.1.getD (g.toNat) ([],[],[],[],[],())).2.2.2.2.1.getD (f.toNat) ([],(Ex.mk 0 [] []),())).1)++(aI ⟨#[32,61,32]⟩))++I)++(aI ⟨#[10]⟩)),(f+(1:Int))))))))))))) else some (.inr q)
def vZ(F:Md)(q:qa)(f:Int)(g:qd):Option (vf⊕qd) :=
 (bO F (fun d:qd×Int=>iO F q f d.1 d.2) (g,(0:Int))).bind (fun e=>ck (I64 (f+(1:Int))) (some (.inl (e,(f+(1:Int))))))
def iP(F:Md)(z:qa)(q:Int)(g:qd)(f:Int):Option (vf⊕qd) :=
 if f<(((z.2.2.2.2.2.2.2.2.1.getD (q.toNat) ([],[],[],[],[],())).2.2.2.1.length:Nat):Int) then ck ((g.length)+(aI ⟨#[105,110,32]⟩).length≤9223372036854775807) (ck (0≤f∧f<(((z.2.2.2.2.2.2.2.2.1.getD (q.toNat) ([],[],[],[],[],())).2.2.2.1.length:Nat):Int)) (ck ((g++(aI ⟨#[105,110,32]⟩)).length+((z.2.2.2.2.2.2.2.2.1.getD (q.toNat) ([],[],[],[],[],())).2.2.2.1.getD (f.toNat) ([]:List Nat)).length≤9223372036854775807) (ck (((g++(aI ⟨#[105,110,32]⟩))++((z.2.2.2.2.2.2.2.2.1.getD (q.toNat) ([],[],[],[],[],())).2.2.2.1.getD (f.toNat) ([]:List Nat))).length+(aI ⟨#[10]⟩).length≤9223372036854775807) (ck (I64 (f+(1:Int))) (some (.inl ((((g++(aI ⟨#[105,110,32]⟩))++((z.2.2.2.2.2.2.2.2.1.getD (q.toNat) ([],[],[],[],[],())).2.2.2.1.getD (f.toNat) ([]:List Nat)))++(aI ⟨#[10]⟩)),(f+(1:Int))))))))) else some (.inr g)
def wA(F:Md)(q:qa)(f:Int)(g:qd):Option (vf⊕qd) :=
 (bO F (fun d:qd×Int=>iP F q f d.1 d.2) (g,(0:Int))).bind (fun e=>vZ F q f e)
def iQ(F:Md)(z:qa)(g:Int)(q:qd)(f:Int):Option (vf⊕qd) :=
 if f<(((z.2.2.2.2.2.2.2.2.1.getD (g.toNat) ([],[],[],[],[],())).2.2.1.length:Nat):Int) then ck ((q.length)+(aI ⟨#[112,97,114,32]⟩).length≤9223372036854775807) (ck (0≤f∧f<(((z.2.2.2.2.2.2.2.2.1.getD (g.toNat) ([],[],[],[],[],())).2.2.1.length:Nat):Int)) (ck ((q++(aI ⟨#[112,97,114,32]⟩)).length+((z.2.2.2.2.2.2.2.2.1.getD (g.toNat) ([],[],[],[],[],())).2.2.1.getD (f.toNat) ([],([],[],()),())).1.length≤9223372036854775807) (ck (((q++(aI ⟨#[112,97,114,32]⟩))++((z.2.2.2.2.2.2.2.2.1.getD (g.toNat) ([],[],[],[],[],())).2.2.1.getD (f.toNat) ([],([],[],()),())).1).length+(aI ⟨#[32,61,32]⟩).length≤9223372036854775807) (ck (0≤f∧f<(((z.2.2.2.2.2.2.2.2.1.getD (g.toNat) ([],[],[],[],[],())).2.2.1.length:Nat):Int)) ((vG F ((z.2.2.2.2.2.2.2.2.1.getD (g.toNat) ([],[],[],[],[],())).2.2.1.getD (f.toNat) ([],([],[],()),())).2.1).bind (fun I=>ck ((((q++(aI ⟨#[112,97,114,32]⟩))++((z.2.2.2.2.2.2.2.2.1.getD (g.toNat) ([],[],[],[],[],())).2.2.1.getD (f.toNat) ([],([],[],()),())).1)++(aI ⟨#[32,61,32]⟩)).length+(I.length)≤9223372036854775807) (ck (((((q++(aI ⟨#[112,97,114,32]⟩))++((z.2.2.2.2.2.2.2.2.1.getD (g.toNat) ([],[],[],[],[],())).2.2.1.getD (f.toNat) ([],([],[],()),())).1)++(aI ⟨#[32,61,32]⟩))++I).length+(aI ⟨#[10]⟩).length≤9223372036854775807) (ck (I64 (f+(1:Int))) (some (.inl ((((((q++(aI ⟨#[112,97,114,32]⟩))++((z.2.2.2.2.2.2.2.2.1.getD (g.toNat) ([],[],[],[],[],())).2.2.1.getD (f.toNat) ([],([],[],()),())).1)++(aI ⟨#[32,61,32]⟩))++I)++(aI ⟨#[10]⟩)),(f+(1:Int))))))))))))) else some (.inr q)
def wB(F:Md)(q:qa)(f:Int)(g:qd):Option (vf⊕qd) :=
 (bO F (fun d:qd×Int=>iQ F q f d.1 d.2) (g,(0:Int))).bind (fun e=>wA F q f e)
def kE(F:Md)(I:qa)(g:Int)(q:qd)(f:Int):Option (vf⊕qd) :=
 if f<(((I.2.2.2.2.2.2.2.2.1.getD (g.toNat) ([],[],[],[],[],())).2.1.length:Nat):Int) then ck (0≤f∧f<(((I.2.2.2.2.2.2.2.2.1.getD (g.toNat) ([],[],[],[],[],())).2.1.length:Nat):Int)) (ck ((q.length)+(aI ⟨#[115,116,97,116,101,32]⟩).length≤9223372036854775807) (ck ((q++(aI ⟨#[115,116,97,116,101,32]⟩)).length+((I.2.2.2.2.2.2.2.2.1.getD (g.toNat) ([],[],[],[],[],())).2.1.getD (f.toNat) ([],([],[],()),(Ex.mk 0 [] []),())).1.length≤9223372036854775807) (ck (((q++(aI ⟨#[115,116,97,116,101,32]⟩))++((I.2.2.2.2.2.2.2.2.1.getD (g.toNat) ([],[],[],[],[],())).2.1.getD (f.toNat) ([],([],[],()),(Ex.mk 0 [] []),())).1).length+(aI ⟨#[32,61,32]⟩).length≤9223372036854775807) ((vG F ((I.2.2.2.2.2.2.2.2.1.getD (g.toNat) ([],[],[],[],[],())).2.1.getD (f.toNat) ([],([],[],()),(Ex.mk 0 [] []),())).2.1).bind (fun z=>ck ((((q++(aI ⟨#[115,116,97,116,101,32]⟩))++((I.2.2.2.2.2.2.2.2.1.getD (g.toNat) ([],[],[],[],[],())).2.1.getD (f.toNat) ([],([],[],()),(Ex.mk 0 [] []),())).1)++(aI ⟨#[32,61,32]⟩)).length+(z.length)≤9223372036854775807) (ck (((((q++(aI ⟨#[115,116,97,116,101,32]⟩))++((I.2.2.2.2.2.2.2.2.1.getD (g.toNat) ([],[],[],[],[],())).2.1.getD (f.toNat) ([],([],[],()),(Ex.mk 0 [] []),())).1)++(aI ⟨#[32,61,32]⟩))++z).length+(aI ⟨#[32,100,101,114,32]⟩).length≤9223372036854775807) ((fZ F 64 ((I.2.2.2.2.2.2.2.2.1.getD (g.toNat) ([],[],[],[],[],())).2.1.getD (f.toNat) ([],([],[],()),(Ex.mk 0 [] []),())).2.2.1).bind (fun J=>ck ((((((q++(aI ⟨#[115,116,97,116,101,32]⟩))++((I.2.2.2.2.2.2.2.2.1.getD (g.toNat) ([],[],[],[],[],())).2.1.getD (f.toNat) ([],([],[],()),(Ex.mk 0 [] []),())).1)++(aI ⟨#[32,61,32]⟩))++z)++(aI ⟨#[32,100,101,114,32]⟩)).length+(J.length)≤9223372036854775807) (ck (((((((q++(aI ⟨#[115,116,97,116,101,32]⟩))++((I.2.2.2.2.2.2.2.2.1.getD (g.toNat) ([],[],[],[],[],())).2.1.getD (f.toNat) ([],([],[],()),(Ex.mk 0 [] []),())).1)++(aI ⟨#[32,61,32]⟩))++z)++(aI ⟨#[32,100,101,114,32]⟩))++J).length+(aI ⟨#[10]⟩).length≤9223372036854775807) (ck (I64 (f+(1:Int))) (some (.inl ((((((((q++(aI ⟨#[115,116,97,116,101,32]⟩))++((I.2.2.2.2.2.2.2.2.1.getD (g.toNat) ([],[],[],[],[],())).2.1.getD (f.toNat) ([],([],[],()),(Ex.mk 0 [] []),())).1)++(aI ⟨#[32,61,32]⟩))++z)++(aI ⟨#[32,100,101,114,32]⟩))++J)++(aI ⟨#[10]⟩)),(f+(1:Int))))))))))))))) else some (.inr q)
def kF(F:Md)(q:qa)(g:qd)(f:Int):Option (vf⊕qd) :=
 if f<(q.2.2.2.2.2.2.2.2.1.length:Int) then ck (0≤f∧f<(q.2.2.2.2.2.2.2.2.1.length:Int)) (ck ((g.length)+(aI ⟨#[115,117,98,32]⟩).length≤9223372036854775807) (ck ((g++(aI ⟨#[115,117,98,32]⟩)).length+(q.2.2.2.2.2.2.2.2.1.getD (f.toNat) ([],[],[],[],[],())).1.length≤9223372036854775807) (ck (((g++(aI ⟨#[115,117,98,32]⟩))++(q.2.2.2.2.2.2.2.2.1.getD (f.toNat) ([],[],[],[],[],())).1).length+(aI ⟨#[10]⟩).length≤9223372036854775807) ((bO F (fun d:qd×Int=>kE F q f d.1 d.2) ((((g++(aI ⟨#[115,117,98,32]⟩))++(q.2.2.2.2.2.2.2.2.1.getD (f.toNat) ([],[],[],[],[],())).1)++(aI ⟨#[10]⟩)),(0:Int))).bind (fun e=>wB F q f e))))) else some (.inr g)
def vH(F:Md)(f:qa):Option qd :=
 (mO F f.1).bind (fun g=>ck ((aI ⟨#[112,114,101,99,32]⟩).length+(g.length)≤9223372036854775807) (ck (((aI ⟨#[112,114,101,99,32]⟩)++g).length+(aI ⟨#[10,101,110,100,32]⟩).length≤9223372036854775807) (ck ((((aI ⟨#[112,114,101,99,32]⟩)++g)++(aI ⟨#[10,101,110,100,32]⟩)).length+(f.2.2.2.2.1.length)≤9223372036854775807) (ck (((((aI ⟨#[112,114,101,99,32]⟩)++g)++(aI ⟨#[10,101,110,100,32]⟩))++f.2.2.2.2.1).length+(aI ⟨#[10,115,116,101,112,32]⟩).length≤9223372036854775807) (ck ((((((aI ⟨#[112,114,101,99,32]⟩)++g)++(aI ⟨#[10,101,110,100,32]⟩))++f.2.2.2.2.1)++(aI ⟨#[10,115,116,101,112,32]⟩)).length+(f.2.2.2.2.2.1.length)≤9223372036854775807) (ck (((((((aI ⟨#[112,114,101,99,32]⟩)++g)++(aI ⟨#[10,101,110,100,32]⟩))++f.2.2.2.2.1)++(aI ⟨#[10,115,116,101,112,32]⟩))++f.2.2.2.2.2.1).length+(aI ⟨#[32]⟩).length≤9223372036854775807) (ck ((((((((aI ⟨#[112,114,101,99,32]⟩)++g)++(aI ⟨#[10,101,110,100,32]⟩))++f.2.2.2.2.1)++(aI ⟨#[10,115,116,101,112,32]⟩))++f.2.2.2.2.2.1)++(aI ⟨#[32]⟩)).length+(f.2.2.2.2.2.2.1.length)≤9223372036854775807) (ck (((((((((aI ⟨#[112,114,101,99,32]⟩)++g)++(aI ⟨#[10,101,110,100,32]⟩))++f.2.2.2.2.1)++(aI ⟨#[10,115,116,101,112,32]⟩))++f.2.2.2.2.2.1)++(aI ⟨#[32]⟩))++f.2.2.2.2.2.2.1).length+(aI ⟨#[10,116,111,108,32]⟩).length≤9223372036854775807) (ck ((((((((((aI ⟨#[112,114,101,99,32]⟩)++g)++(aI ⟨#[10,101,110,100,32]⟩))++f.2.2.2.2.1)++(aI ⟨#[10,115,116,101,112,32]⟩))++f.2.2.2.2.2.1)++(aI ⟨#[32]⟩))++f.2.2.2.2.2.2.1)++(aI ⟨#[10,116,111,108,32]⟩)).length+(f.2.2.2.2.2.2.2.1.length)≤9223372036854775807) (ck (((((((((((aI ⟨#[112,114,101,99,32]⟩)++g)++(aI ⟨#[10,101,110,100,32]⟩))++f.2.2.2.2.1)++(aI ⟨#[10,115,116,101,112,32]⟩))++f.2.2.2.2.2.1)++(aI ⟨#[32]⟩))++f.2.2.2.2.2.2.1)++(aI ⟨#[10,116,111,108,32]⟩))++f.2.2.2.2.2.2.2.1).length+(aI ⟨#[10,116,114,105,101,115,32]⟩).length≤9223372036854775807) ((mO F f.2.1).bind (fun q=>ck ((((((((((((aI ⟨#[112,114,101,99,32]⟩)++g)++(aI ⟨#[10,101,110,100,32]⟩))++f.2.2.2.2.1)++(aI ⟨#[10,115,116,101,112,32]⟩))++f.2.2.2.2.2.1)++(aI ⟨#[32]⟩))++f.2.2.2.2.2.2.1)++(aI ⟨#[10,116,111,108,32]⟩))++f.2.2.2.2.2.2.2.1)++(aI ⟨#[10,116,114,105,101,115,32]⟩)).length+(q.length)≤9223372036854775807) (ck (((((((((((((aI ⟨#[112,114,101,99,32]⟩)++g)++(aI ⟨#[10,101,110,100,32]⟩))++f.2.2.2.2.1)++(aI ⟨#[10,115,116,101,112,32]⟩))++f.2.2.2.2.2.1)++(aI ⟨#[32]⟩))++f.2.2.2.2.2.2.1)++(aI ⟨#[10,116,111,108,32]⟩))++f.2.2.2.2.2.2.2.1)++(aI ⟨#[10,116,114,105,101,115,32]⟩))++q).length+(aI ⟨#[10,111,114,100,101,114,32]⟩).length≤9223372036854775807) ((mO F f.2.2.1).bind (fun z=>ck ((((((((((((((aI ⟨#[112,114,101,99,32]⟩)++g)++(aI ⟨#[10,101,110,100,32]⟩))++f.2.2.2.2.1)++(aI ⟨#[10,115,116,101,112,32]⟩))++f.2.2.2.2.2.1)++(aI ⟨#[32]⟩))++f.2.2.2.2.2.2.1)++(aI ⟨#[10,116,111,108,32]⟩))++f.2.2.2.2.2.2.2.1)++(aI ⟨#[10,116,114,105,101,115,32]⟩))++q)++(aI ⟨#[10,111,114,100,101,114,32]⟩)).length+(z.length)≤9223372036854775807) (ck (((((((((((((((aI ⟨#[112,114,101,99,32]⟩)++g)++(aI ⟨#[10,101,110,100,32]⟩))++f.2.2.2.2.1)++(aI ⟨#[10,115,116,101,112,32]⟩))++f.2.2.2.2.2.1)++(aI ⟨#[32]⟩))++f.2.2.2.2.2.2.1)++(aI ⟨#[10,116,111,108,32]⟩))++f.2.2.2.2.2.2.2.1)++(aI ⟨#[10,116,114,105,101,115,32]⟩))++q)++(aI ⟨#[10,111,114,100,101,114,32]⟩))++z).length+(aI ⟨#[10]⟩).length≤9223372036854775807) (ck (0≤f.2.2.2.1∧f.2.2.2.1<(3:Int)) (ck ((((((((((((((((aI ⟨#[112,114,101,99,32]⟩)++g)++(aI ⟨#[10,101,110,100,32]⟩))++f.2.2.2.2.1)++(aI ⟨#[10,115,116,101,112,32]⟩))++f.2.2.2.2.2.1)++(aI ⟨#[32]⟩))++f.2.2.2.2.2.2.1)++(aI ⟨#[10,116,111,108,32]⟩))++f.2.2.2.2.2.2.2.1)++(aI ⟨#[10,116,114,105,101,115,32]⟩))++q)++(aI ⟨#[10,111,114,100,101,114,32]⟩))++z)++(aI ⟨#[10]⟩)).length+(([(aI ⟨#[]⟩),(aI ⟨#[106,97,99,111,98,105,10]⟩),(aI ⟨#[115,101,105,100,101,108,10]⟩)]:List qd).getD (f.2.2.2.1.toNat) ([]:List Nat)).length≤9223372036854775807) ((bO F (fun d:qd×Int=>kF F f d.1 d.2) (((((((((((((((((aI ⟨#[112,114,101,99,32]⟩)++g)++(aI ⟨#[10,101,110,100,32]⟩))++f.2.2.2.2.1)++(aI ⟨#[10,115,116,101,112,32]⟩))++f.2.2.2.2.2.1)++(aI ⟨#[32]⟩))++f.2.2.2.2.2.2.1)++(aI ⟨#[10,116,111,108,32]⟩))++f.2.2.2.2.2.2.2.1)++(aI ⟨#[10,116,114,105,101,115,32]⟩))++q)++(aI ⟨#[10,111,114,100,101,114,32]⟩))++z)++(aI ⟨#[10]⟩))++(([(aI ⟨#[]⟩),(aI ⟨#[106,97,99,111,98,105,10]⟩),(aI ⟨#[115,101,105,100,101,108,10]⟩)]:List qd).getD (f.2.2.2.1.toNat) ([]:List Nat))),(0:Int))).bind (fun e=>vY F f e))))))))))))))))))))
def aLK:PlR:=⟨[(0,.B [1]),(1,.A [1,3]),(2,.A [1,3,4]),(3,.A [1,3,4,54]),(4,.A [1,3,4]),(5,.B [1,3,4,5]),(6,.A [1,3,4,5]),(7,.A [1,3,4,5,6]),(8,.A [1,3,4,5,6,72]),(9,.A [1,3,4,5,6]),(10,.B [1,3,4,5,6,7]),(11,.A [1,3,4,5,6]),(12,.A [1,3,4,5,8]),(13,.A [1,3,4,5,8,100]),(14,.A [1,3,4,5,8]),(15,.A [1,3,4,5,8]),(16,.A [1,3,4,5,9]),(17,.A [1,3,4,5,9,126]),(18,.A [1,3,4,5,9]),(19,.A [1,3,4,5,9]),(20,.A [1,3,4,5,10]),(21,.A [1,3,4,5,10,142]),(22,.A [1,3,4,5,10]),(23,.A [1,3,4,5,10]),(24,.A [1,3,11]),(25,.A [1,3,11,168]),(26,.A [1,3,11]),(27,.B [1,3,11,12]),(28,.A [1,3,11]),(29,.A [2])],[(5,27),(10,15),(15,19),(19,23)],[]⟩
def aOy:Ty:=.pair qe .unit
def aDj(F:Md):aH:=mSpec aOy (.one .str) (fun x=>vH F x.1)
abbrev aEH(F:Md):List (FuncId×aH):=[(31,(aAU F)),(32,(aDi F)),(9,(tT F 64))]
theorem bAz(F:Md):bA Tryz.prog GL (aEH F):=.cons (aS4 F) xAa (.cons (aXT F) xAa (.cons (aFs F 64) xAa (.nil)))
attribute [go_sem] aOy aLK
theorem aXU(F:Md):FOK Tryz.prog GL 12 (aDj F):=by
 refine aX (aY (bAz F)) mix Tryz.func12 rfl xAa xAb aLK (fun w0 S x Θ hw h hV=>?_);obtain⟨(g:qa),u⟩:=x;simp only[bD,go_sem];replace h:sat (vH F g) _:=h;unfold vH at h;refine aD h fun v_17 hv h=>?_;try simp only[hv,go_sem]
 refine aG h fun g0 h=>aG h fun g1 h=>aG h fun W h=>aG h fun g3 h=>aG h fun g4 h=>aG h fun g5 h=>aG h fun g6 h=>aG h fun g7 h=>aG h fun g8 h=>aG h fun g9 h=>?_;refine aD h fun v_18 hv h=>?_;try simp only[hv,go_sem]
 refine aG h fun g0 h=>aG h fun g1 h=>?_;refine aD h fun v_19 hv h=>?_;try simp only[hv,go_sem]
 refine aG h fun g0 h=>aG h fun g1 h=>aG h fun W h=>aG h fun g3 h=>?_;refine bH hV (D:=qd) (fun d=>sat (vY F g d) Θ) [] (fun d=>[(1,.ptr 0 []),(3,.val .str d)]) (fun d=>[.inr (.box 10 (.val qe g))]) ?_ ?_
 ·simp only[go_sem];refine aU hV (D:=qd×Int) [] (fun d=>[(1,.ptr 0 []),(3,.val .str d.1),(4,.val qi d.2)]) (fun d=>[.inr (.box 10 (.val qe g))]) h rfl xAc ?_;rintro⟨q,f⟩ A3 T3 hA3 hE3 h;simp only[go_sem];replace h:sat (kF F g q f) _:=h;unfold kF at h;refine bP h (fun hc h=>?_) fun hc h=>?_
  ·refine aG h fun g0 h=>?_;refine aG h fun g0 h=>aG h fun g1 h=>aG h fun W h=>?_;refine bH hV (D:=qd) (fun d=>sat (wB F g f d) T3) [4] (fun d=>[(1,.ptr 0 []),(3,.val .str d),(5,.ptr 1 [])]) (fun d=>[.inr (.box 10 (.val qe g)),.inr (.box 5 (.val qc (g.2.2.2.2.2.2.2.2.1.getD (f.toNat) ([],[],[],[],[],()))))]) ?_ ?_
   ·simp only[go_sem];refine aU hV (D:=qd×Int) [4] (fun d=>[(1,.ptr 0 []),(3,.val .str d.1),(5,.ptr 1 []),(6,.val qi d.2)]) (fun d=>[.inr (.box 10 (.val qe g)),.inr (.box 5 (.val qc (g.2.2.2.2.2.2.2.2.1.getD (f.toNat) ([],[],[],[],[],()))))]) h rfl xAc ?_;rintro⟨I,Z⟩ A8 T8 hA8 hE8 h;simp only[go_sem];replace h:sat (kE F g f I Z) _:=h;unfold kE at h;refine bP h (fun hc h=>?_) fun hc h=>?_
    ·refine aG h fun g0 h=>?_;refine aG h fun g0 h=>aG h fun g1 h=>aG h fun W h=>?_;refine aD h fun v_357 hv h=>?_;(try simp only[hv,go_sem]);refine aG h fun g0 h=>aG h fun g1 h=>?_;refine aD h fun v_358 hv h=>?_;(try simp only[hv,go_sem]);refine aG h fun g0 h=>aG h fun g1 h=>?_;refine aG h fun g0 h=>?_;replace h:=hA8 _ (aA h);refine fA [0,1] rfl rfl (yaA ?_);exact zaF
    ·replace h:=yaH (hE8 _ (aA h));exact aK (I) h rfl xAc
   ·rintro o_274 h;simp only[go_sem];replace h:sat (wB F g f o_274) _:=h;unfold wB at h;refine bH hV (D:=qd) (fun d=>sat (wA F g f d) T3) [4] (fun d=>[(1,.ptr 0 []),(3,.val .str d),(5,.ptr 1 [])]) (fun d=>[.inr (.box 10 (.val qe g)),.inr (.box 5 (.val qc (g.2.2.2.2.2.2.2.2.1.getD (f.toNat) ([],[],[],[],[],()))))]) ?_ ?_
    ·simp only[go_sem];refine aU hV (D:=qd×Int) [4] (fun d=>[(1,.ptr 0 []),(3,.val .str d.1),(5,.ptr 1 []),(8,.val qi d.2)]) (fun d=>[.inr (.box 10 (.val qe g)),.inr (.box 5 (.val qc (g.2.2.2.2.2.2.2.2.1.getD (f.toNat) ([],[],[],[],[],()))))]) h rfl xAc ?_;rintro⟨J,k_317⟩ A13 T13 hA13 hE13 h;simp only[go_sem];replace h:sat (iQ F g f J k_317) _:=h;unfold iQ at h;refine bP h (fun hc h=>?_) fun hc h=>?_
     ·refine aG h fun g0 h=>aG h fun g1 h=>aG h fun W h=>aG h fun g3 h=>aG h fun g4 h=>?_;refine aD h fun v_329 hv h=>?_;(try simp only[hv,go_sem]);refine aG h fun g0 h=>aG h fun g1 h=>?_;refine aG h fun g0 h=>?_;replace h:=hA13 _ (aA h);exact zaF
     ·replace h:=yaH (hE13 _ (aA h));exact aK (J) h rfl xAc
    ·rintro Y h;simp only[go_sem];replace h:sat (wA F g f Y) _:=h;unfold wA at h;refine bH hV (D:=qd) (fun d=>sat (vZ F g f d) T3) [4] (fun d=>[(1,.ptr 0 []),(3,.val .str d),(5,.ptr 1 [])]) (fun d=>[.inr (.box 10 (.val qe g)),.inr (.box 5 (.val qc (g.2.2.2.2.2.2.2.2.1.getD (f.toNat) ([],[],[],[],[],()))))]) ?_ ?_
     ·simp only[go_sem];refine aU hV (D:=qd×Int) [4] (fun d=>[(1,.ptr 0 []),(3,.val .str d.1),(5,.ptr 1 []),(9,.val qi d.2)]) (fun d=>[.inr (.box 10 (.val qe g)),.inr (.box 5 (.val qc (g.2.2.2.2.2.2.2.2.1.getD (f.toNat) ([],[],[],[],[],()))))]) h rfl xAc ?_;rintro⟨z,k_309⟩ A17 T17 hA17 hE17 h;simp only[go_sem];replace h:sat (iP F g f z k_309) _:=h;unfold iP at h;refine bP h (fun hc h=>?_) fun hc h=>?_
      ·refine aG h fun g0 h=>aG h fun g1 h=>aG h fun W h=>aG h fun g3 h=>?_;refine aG h fun g0 h=>?_;replace h:=hA17 _ (aA h);exact zaF
      ·replace h:=yaH (hE17 _ (aA h));exact aK (z) h rfl xAc
     ·rintro o_290 h;simp only[go_sem];replace h:sat (vZ F g f o_290) _:=h;unfold vZ at h;refine aU hV (D:=qd×Int) [4] (fun d=>[(1,.ptr 0 []),(3,.val .str d.1),(5,.ptr 1 []),(10,.val qi d.2)]) (fun d=>[.inr (.box 10 (.val qe g)),.inr (.box 5 (.val qc (g.2.2.2.2.2.2.2.2.1.getD (f.toNat) ([],[],[],[],[],()))))]) h rfl xAc ?_;rintro⟨L,k_295⟩ A21 T21 hA21 hE21 h;simp only[go_sem];replace h:sat (iO F g f L k_295) _:=h;unfold iO at h;refine bP h (fun hc h=>?_) fun hc h=>?_
      ·refine aG h fun g0 h=>aG h fun g1 h=>aG h fun W h=>aG h fun g3 h=>aG h fun g4 h=>?_;refine aD h fun v_307 hv h=>?_;(try simp only[hv,go_sem]);refine aG h fun g0 h=>aG h fun g1 h=>?_;refine aG h fun g0 h=>?_;replace h:=hA21 _ (aA h);exact zaF
      ·replace h:=yaH (hE21 _ (aA h));refine aG h fun g0 h=>?_;replace h:=hA3 _ (aA h);refine fA [0] rfl rfl (yaA ?_);exact zaF
  ·replace h:=yaH (hE3 _ (aA h));exact aK (q) h rfl xAc
 ·rintro O h;simp only[go_sem];replace h:sat (vY F g O) _:=h;unfold vY at h;refine aU hV (D:=qd×Int) [] (fun d=>[(1,.ptr 0 []),(3,.val .str d.1),(11,.val qi d.2)]) (fun d=>[.inr (.box 10 (.val qe g))]) h rfl xAc ?_;rintro⟨N,U⟩ A25 T25 hA25 hE25 h;simp only[go_sem];replace h:sat (iN F g N U) _:=h;unfold iN at h;refine bP h (fun hc h=>?_) fun hc h=>?_
  ·refine aG h fun g0 h=>?_;refine aG h fun g0 h=>aG h fun g1 h=>aG h fun W h=>aG h fun g3 h=>aG h fun g4 h=>aG h fun g5 h=>aG h fun g6 h=>aG h fun g7 h=>aG h fun g8 h=>?_;refine aG h fun g0 h=>?_;replace h:=hA25 _ (aA h);refine fA [0] rfl rfl (yaA ?_);exact zaF
  ·replace h:=yaH (hE25 _ (aA h));exact zaB
attribute [go_sem] aDj
def oX(c:Nat):Bool:=decide (48≤c∧c≤57)
def bN(s:List Nat)(i:Nat):Nat:=((s.drop i).takeWhile oX).length
theorem bJO{p:Nat→Bool}:∀(l:List Nat) (n:Nat),n≤(l.takeWhile p).length→(n<(l.takeWhile p).length↔n<l.length∧p (l.getD n 0)=true)
 | [],n,h=>by simp
 | x::r,n,h=>by
  by_cases hp:p x=true
  ·rw[List.takeWhile_cons_of_pos hp] at h ⊢;cases n with
   | zero=>simp[hp]
   | succ n =>
    have:=bJO (p:=p) r n (by simp_all);simp_all
  simp_all
theorem xK(s:List Nat)(i:Nat):bN s i≤s.length-i:=by
 have:=(List.takeWhile_prefix (p:=oX) (l:=s.drop i)).length_le;rw[List.length_drop] at this;exact this
theorem aQt(s:List Nat)(i:Nat)(hs:s.length≤9223372036854775807)(hi:i≤9223372036854775807):rJ none s (i:Int)=some (bN s i:Int):=by
 have hd:=xK s i;unfold rJ;refine aJ (kU (step:=fun d:Int=>nP none (i:Int) s d) (I:=fun n=>0≤n∧n≤bN s i) (fun n=>((bN s i:Int)-n).toNat) (fun _=>(bN s i:Int)) ?_ 0 ⟨by omega,by omega⟩) rfl;rintro n ⟨g,z⟩;obtain⟨k,rfl⟩:=Int.eq_ofNat_of_zero_le g;show (∃J,nP none (i:Int) s k=_∧_)∨nP none (i:Int) s k=_;have e:((i:Int)+(k:Int)).toNat=i+k:=by omega
 have hx:s.getD (i+k) 0=(s.drop i).getD k 0:=by simp_all
 have ht:=bJO (p:=oX) (s.drop i) k (by grind[bN]);have ht:k<bN s i↔i+k<s.length∧48≤s.getD (i+k) 0∧s.getD (i+k) 0≤57:=by
  rw[hx];refine ht.trans ?_;rw[List.length_drop,oX,decide_eq_true_iff];omega
 unfold nP;rw[e];by_cases hk:k<bN s i
 ·left
  obtain⟨q,f,h3⟩:=ht.1 hk;refine⟨(k:Int)+1,?_,⟨by omega,by omega⟩,by omega,rfl⟩;refine aC (by omega) (aC (fun _=>by omega) (aC (fun _=>by omega) (aC (fun _=>by omega) (aC (fun _=>by omega) ?_))));rw[if_pos ⟨⟨by omega,f⟩,h3⟩];exact aC (by omega) rfl
 ·right
  refine aC (by omega) (aC (fun _=>by omega) (aC (fun _=>by omega) (aC (fun _=>by omega) (aC (fun _=>by omega) ?_))));grind
theorem bL0{a b:Nat}(ha:a<256)(hb:b≤a):pN none .u8 a b=a-b:=by
 have hm:gT .u8=256:=by rfl
 grind[bF2,aKq,Nat.add_mod_right,Nat.mod_eq_of_lt]
def dW(s:List Nat):Nat:=s.foldl (fun m c=>m*10+(c-48)) 0
theorem aQu(s:List Nat)(c:Nat):dW (s++ [c])=dW s*10+(c-48):=by simp[dW]
theorem aYL:∀(s:List Nat) (m:Nat),(∀c∈s,oX c=true)→s.foldl (fun m c=>m*10+(c-48)) m<(m+1)*10^s.length
 | [],m,_=>by simp
 | x::r,m,h=>by
  have hx:=h x xAg;simp only[oX,decide_eq_true_iff] at hx;have f:=aYL r (m*10+(x-48)) (fun c hc=>h c (by simp[hc]));rw[List.foldl_cons,List.length_cons,Nat.pow_succ,Nat.mul_comm (10^r.length) 10,← Nat.mul_assoc];exact Nat.lt_of_lt_of_le f (Nat.mul_le_mul_right _ (by omega))
theorem aDk{s:List Nat}(h:∀c∈s,oX c=true):dW s<10^s.length:=by
 have:=aYL s 0 h;rw[Nat.zero_add,Nat.one_mul] at this;exact this
theorem bJP{k:Nat}(h:k≤18):10^k≤1000000000000000000:=Nat.pow_le_pow_right (n:=10) xAb h
theorem bL1(s:List Nat)(hd:∀c∈s,oX c=true)(h0:0<s.length)(N:s.length≤18):tG none s=some ((dW s:Int),(),()):=by
 have f:∀k,k<s.length→48≤s.getD k 0∧s.getD k 0≤57:=fun k hk=>by
  have U:s.getD k 0∈s:=by simp_all
  simp_all[oX,decide_eq_true_iff]
 have q:∀k,dW (s.take k)<1000000000000000000∨k>s.length:=fun k=>by
  rcases Nat.lt_or_ge s.length k with h|h
  all_goals grind[aDk,List.mem_of_mem_take,bJP,List.length_take]
 have L:iG none s s=some ((dW s:Int),(),()):=by
  unfold iG;refine aJ (kU (step:=fun d:Int×Int=>gO none s d.1 d.2) (I:=fun d=>0≤d.2∧d.2≤s.length∧d.1=(dW (s.take d.2.toNat):Int)) (fun d=>((s.length:Int)-d.2).toNat) (fun _=>.inl (dW s:Int)) ?_ (0,0) ⟨by simp,by simp,by rfl⟩) ?_
  ·rintro⟨n,i⟩ ⟨i0,i1,z⟩;have i0:0≤i:=i0;have i1:i≤s.length:=i1;have z:n=(dW (s.take i.toNat):Int):=z;show (∃W,gO none s n i=_∧_)∨gO none s n i=_;unfold gO;by_cases hi:i<s.length
   ·left
    have hk:i.toNat<s.length:=(by omega);obtain⟨c1,J⟩:=f _ hk;have g:pN none .u8 (s.getD i.toNat 0) 48=s.getD i.toNat 0-48:=bL0 (by omega) c1;have hb:dW (s.take (i.toNat+1))=dW (s.take i.toNat)*10+(s.getD i.toNat 0-48):=(by rw[take_succ hk,aQu]);have hl:=q (i.toNat+1);refine⟨((dW (s.take (i+1).toNat):Int),i+1),?_,⟨by omega,by omega,rfl⟩,by omega,rfl⟩;rw[if_pos hi,g,show (i+1).toNat=i.toNat+1 from by omega,hb];refine aC (by omega) ?_;rw[if_neg (by omega),z];refine aC (by omega) (aC (by omega) (aC (by omega) ?_))
    congr 3
   simp_all[if_neg,List.take_of_length_le]
  ·unfold pW;obtain⟨c1,J⟩:=f 0 h0;refine aC (by omega) ?_;grind
 have O:rB none s=some ((dW s:Int),(),()):=by
  unfold rB;obtain⟨c1,J⟩:=f 0 h0;rw[if_pos (.inr ⟨trivial,by omega,by omega⟩)];refine aC (by omega) (aC (fun _=>by omega) ?_);grind
 unfold tG;simp_all
theorem aDQ(s:List Nat)(i:Nat):∀c∈(s.drop i).take (bN s i),oX c=true:=by
 intro c hc;have h:(s.drop i).take (bN s i)=(s.drop i).takeWhile oX:=by
  have:=List.prefix_iff_eq_take.1 (List.takeWhile_prefix (p:=oX) (l:=s.drop i));exact this.symm
 grind[List.all_eq_true,List.all_takeWhile]
abbrev bJQ:Type:=List Nat×Int×Bool×Unit
def litNo:bJQ:=([],0,false,())
def cV(s:List Nat)(i:Nat)(c:Nat):Prop:=i<s.length∧s.getD i 0=c
instance (s:List Nat) (i c:Nat):Decidable (cV s i c):=inferInstanceAs (Decidable (_∧_))
def aH9(s:List Nat)(i:Nat)(all:List Nat)(f:Int)(neg:Bool):bJQ :=
 if bN s i<1∨3<bN s i then litNo
 else if 100<dW ((s.drop i).take (bN s i)) then litNo
 else (all,f+(if neg then -(dW ((s.drop i).take (bN s i)):Int) else dW ((s.drop i).take (bN s i))),decide (i+bN s i=s.length),())
def aVV(s:List Nat)(i:Nat)(all:List Nat)(f:Int):bJQ :=
 if cV s i 101 then aH9 s (if cV s (i+1) 45∨cV s (i+1) 43 then i+2 else i+1) all f (decide (cV s (i+1) 45))
 else (all,f,decide (i=s.length),())
def cK(s:List Nat):bJQ :=
 if 60<s.length∨bN s 0=0 then litNo
 else if cV s (bN s 0) 46 then
  if bN s (bN s 0+1)=0 then litNo
  else aVV s (bN s 0+1+bN s (bN s 0+1)) (s.take (bN s 0)++(s.drop (bN s 0+1)).take (bN s (bN s 0+1))) (-(bN s (bN s 0+1):Int))
 else aVV s (bN s 0) (s.take (bN s 0)) 0
theorem bJR(s:List Nat)(i:Nat):s.getD (i:Int).toNat 0=s.getD i 0:=by rfl
theorem bJS(s:List Nat)(k:Nat)(all:List Nat)(f x:Int)(hs:s.length≤60)(hk:k≤100)(hp: -100≤f∧f≤100)(hx: -100≤x∧x≤100):lF none f (k:Int) (bN s k:Int) all s x=some (all,f+x,decide (k+bN s k=s.length),()):=by
 have hd:=xK s k;unfold lF;refine aC (by omega) (aC (by omega) ?_);unfold lE;have:decide ((k:Int)+(bN s k:Int)=(s.length:Int))=decide (k+bN s k=s.length):=decide_eq_decide.2 (by omega);rw[this]
theorem bJT(s:List Nat)(i k:Nat)(all:List Nat)(f:Int)(hs:s.length≤60)(hi:i≤60)(hk:k≤100)(hp: -100≤f∧f≤100):lG none s (i:Int) f all (k:Int)=some (aH9 s k all f (decide (cV s (i+1) 45))):=by
 have hd:=xK s k;unfold lG aH9;refine aJ (aQt s k (by omega) (by omega)) ?_;by_cases q:bN s k<1∨3<bN s k
 ·rw[if_pos (by omega),if_pos q]; rfl
 ·rw[if_neg (by omega),if_neg q];have ht:List.drop (k:Int).toNat (List.take ((k:Int)+(bN s k:Int)).toNat s)=(s.drop k).take (bN s k):=by
   grind[List.drop_take,Int.toNat_natCast]
  have hl:((s.drop k).take (bN s k)).length=bN s k:=by simp_all
  have ha:=bL1 _ (aDQ s k) (by omega) (by omega);simp only[ht];refine aC (by omega) (aC (by omega) (aJ ha ?_));by_cases z:100<dW ((s.drop k).take (bN s k))
  ·rw[if_pos (by omega),if_pos z]; rfl
  ·rw[if_neg (by omega),if_neg z];have e:((i:Int)+1).toNat=i+1:=(by omega);rw[e];by_cases h3:cV s (i+1) 45
   ·have g:i+1<s.length∧s.getD (i+1) 0=45:=h3;rw[if_pos ⟨by omega,g.2⟩,decide_eq_true h3];refine aC (by omega) ?_;grind[dW,bN,bJS]
   ·have g:¬(i+1<s.length∧s.getD (i+1) 0=45):=h3;rw[if_neg (fun h=>g ⟨by omega,h.2⟩),decide_eq_false h3];grind[bJS]
theorem bJU(s:List Nat)(i:Nat)(all:List Nat)(f:Int)(hs:s.length≤60)(hi:i≤60)(hp: -100≤f∧f≤100):lH none s (i:Int) all f=some (aVV s i all f):=by
 unfold lH aVV;have e:((i:Int)+1).toNat=i+1:=by omega
 rw[bJR,e];refine aC (fun _=>by omega) ?_;by_cases h:cV s i 101
 ·have h':i<s.length∧s.getD i 0=101:=h;rw[if_pos ⟨by omega,h'.2⟩,if_pos h];refine aC (by omega) (aC (fun _=>by omega) (aC (fun _ _=>by omega) ?_));by_cases q:cV s (i+1) 45∨cV s (i+1) 43
  ·have g:(i+1<s.length∧s.getD (i+1) 0=45)∨(i+1<s.length∧s.getD (i+1) 0=43):=q;rw[if_pos (by omega),if_pos q];refine aC (by omega) ?_;have:=bJT s i (i+2) all f hs hi (by omega) hp;grind
  ·have g:¬((i+1<s.length∧s.getD (i+1) 0=45)∨(i+1<s.length∧s.getD (i+1) 0=43)):=q;rw[if_neg (fun h=>g (by omega)),if_neg q];grind[bJT]
 ·have h':¬(i<s.length∧s.getD i 0=101):=h;rw[if_neg (fun h=>h' ⟨by omega,h.2⟩),if_neg h];unfold lE;have:decide ((i:Int)=(s.length:Int))=decide (i=s.length):=decide_eq_decide.2 (by omega);rw[this]
theorem bEN(s:List Nat)(hs:s.length≤9223372036854775807):oT none s=some (cK s):=by
 have z:=xK s 0;have I:=xK s (bN s 0+1);unfold oT cK;have e0:=aQt s 0 hs (by omega);rw[show ((0:Nat):Int)=0 from rfl] at e0;refine aJ e0 (aC (by omega) ?_);by_cases q:60<s.length∨bN s 0=0
 ·rw[if_pos (by omega),if_pos q]; rfl
 ·rw[if_neg (by omega),if_neg q];rw[bJR];refine aC (fun _=>by omega) ?_;by_cases g:cV s (bN s 0) 46
  ·have f:bN s 0<s.length∧s.getD (bN s 0) 0=46:=g;rw[if_pos ⟨by omega,f.2⟩,if_pos g];have e1:=aQt s (bN s 0+1) hs (by omega);rw[show ((bN s 0+1:Nat):Int)=(bN s 0:Int)+1 from by omega] at e1;refine aC (by omega) (aJ e1 ?_);by_cases h3:bN s (bN s 0+1)=0
   ·rw[if_pos (by omega),if_pos h3]; rfl
   ·rw[if_neg (by omega),if_neg h3];have ht:List.drop ((bN s 0:Int)+1).toNat (List.take ((bN s 0:Int)+1+(bN s (bN s 0+1):Int)).toNat s)=(s.drop (bN s 0+1)).take (bN s (bN s 0+1)):=by
     grind[List.drop_take,bN]
    simp only[ht,Int.toNat_natCast];have L:(s.take (bN s 0)).length≤60:=(by grind);have J:((s.drop (bN s 0+1)).take (bN s (bN s 0+1))).length≤60:=(by grind);refine aC (by omega) (aC (by omega) (aC (by omega) (aC (by omega) (aC (by omega) (aC (by omega) (aC (by omega) (aC (by omega) ?_)))))));grind[bJU,bN]
  ·have f:¬(bN s 0<s.length∧s.getD (bN s 0) 0=46):=g;rw[if_neg (fun h=>f ⟨by omega,h.2⟩),if_neg g];grind[Int.toNat_natCast,bJU,bN]
theorem p2m(n m:Nat)(h:n≤m):2^n≤2^m:=Nat.pow_le_pow_right xAb h
theorem aHb(m:Nat){x n:Nat}(h:x<2^n)(f:n≤m):x<2^m:=Nat.lt_of_lt_of_le h (p2m n m f)
theorem aDR(m:Nat){x n:Nat}(h:x≤2^n)(f:n<m):x<2^m:=Nat.lt_of_le_of_lt h (Nat.pow_lt_pow_right xAb f)
theorem bC7(k:Nat){x n:Nat}(h:x<2^n)(f:n≤64*k):x<18446744073709551616^k:=by grind[aGf,aHb]
abbrev Dy:Type:=Bool×List Nat×Int×Unit
def d0:Dy:=(false,[],0,())
def aIa(d:Dy):Bool :=
 if d.2.1.length=0 then !d.1&&decide (d.2.2.1=0)
 else decide (d.2.1.length≤64∧Nrm d.2.1)&&decide (d.2.1.getD 0 0%2=1)&&decide (-1048576≤d.2.2.1)&&decide (d.2.2.1≤1048576)
theorem bAA(x:Nat):x&&&1=x%2:=Nat.and_two_pow_sub_one_eq_mod x 1
theorem aMG(d:Dy):jG none d=some (aIa d):=by
 unfold jG aIa;by_cases h:d.2.1.length=0
 ·simp_all
 ·rw[if_neg (by omega),if_neg h];refine aC (fun _=>by omega) ?_;rw[bAA];rfl
theorem bEO(e:Int):iK none false e=some (.inr (e,())):=rfl
theorem aTJ{b:Bool}{e:Int}(h:b=true):iK none b e=some (.inl ()):=by rw[h]; rfl
theorem aVW{b:Bool}{e:Int}(h:b=false):iK none b e=some (.inr (e,())):=by rw[h]; rfl
def bAB(neg:Bool)(m:Nat)(e:Int):Dy⊕qt :=
 if m=0 then .inl d0
 else if 64<(lb (m/2^tzn m)).length then .inr (2,())
 else if ¬(e≤1048576∧ -1048576-(tzn m:Int)≤e) then .inr (3,())
 else if 1048576<e+(tzn m:Int) then .inr (3,())
 else .inl (neg,lb (m/2^tzn m),e+(tzn m:Int),())
theorem bNO{m k:Nat}(h0:m≠0)(h:m<18446744073709551616^k):tzn m<64*k:=by
 obtain⟨q,hq⟩:=aDH h0;rw[aGf] at h;refine(Nat.pow_lt_pow_iff_right (show 1<2 by decide)).1 (Nat.lt_of_le_of_lt ?_ h);grind
theorem bJV(neg:Bool)(m:List Nat)(e:Int)(lm:Lm m)(J:Nrm m)(z:m.length≤1099511627776):yF none neg m e=some (bAB neg (nv m) e):=by
 unfold yF bAB;by_cases h0:m.length=0
 ·have hm:m= []:=List.eq_nil_of_length_eq_zero h0;subst hm;rfl
 ·have hm:nv m≠0:=by have:=aBe J (fun e=>h0 (by grind)); omega
  have f:gR m=(tzn (nv m):Int):=by grind[gR]
  have L:=bNO hm (qX lm);have g:uJ m (tzn (nv m):Int)=lb (nv m/2^tzn (nv m)):=by rfl
  rw[if_neg (by omega),if_neg hm,f,g];refine aC z (aC ⟨z,by omega⟩ ?_);by_cases q:64<(lb (nv m/2^tzn (nv m))).length
  ·rw[aVW (by grind),if_pos q]; rfl
  ·rw[aTJ (by grind),if_neg q];simp only[Option.bind_some];by_cases I:e≤1048576
   ·rw[if_pos I];refine aC (by omega) ?_;by_cases h3: -1048576-(tzn (nv m):Int)≤e
    ·rw[aTJ (by grind),if_neg (by omega)];simp only[Option.bind_some];unfold wL;rw[f,g];refine aC (by omega) ?_;by_cases N:e+(tzn (nv m):Int)≤1048576
     ·rw[aTJ (by grind),if_neg (by omega)];simp only[Option.bind_some];exact aC (by omega) rfl
     simp_all[aVW,if_pos]
    simp_all[aVW,if_pos]
   ·rw[if_neg I,bEO,if_pos (by omega)]; rfl
def told{α:Type}(z:α):α⊕qt→α×Int×Unit
 | .inl r=>(r,0,())
 | .inr p=>(z,p.1,())
def bJW(neg:Bool)(m:Nat)(e:Int):Dy×Int×Unit:=told d0 (bAB neg m e)
theorem bJX(neg:Bool)(m:List Nat)(e:Int)(lm:Lm m)(g:Nrm m)(q:m.length≤1099511627776):yG none neg m e=some (bJW neg (nv m) e):=by
 have f:zH none neg m e=some (bAB neg (nv m) e):=by
  unfold zH;rw[bJV neg m e lm g q];simp only[Option.bind_some];cases bAB neg (nv m) e<;>rfl
 have z:fO none neg m e=some (bJW neg (nv m) e):=by
  unfold fO bJW;rw[f];simp only[Option.bind_some];cases bAB neg (nv m) e<;>rfl
 grind[yG]
theorem bOx{x k:Nat}(a:List Nat)(f:Lm a)(h:x≤nv a)(hk:a.length≤k):(lb x).length≤k :=
 Nat.le_trans (aBS.2 (Nat.lt_of_le_of_lt h (qX f))) hk
theorem bJY{b i:Nat}(h:b<18446744073709551616):(lb (b^i)).length≤i+1 :=
 aBS.2 (Nat.lt_of_le_of_lt (Nat.pow_le_pow_left (Nat.le_of_lt h) i) (Nat.pow_lt_pow_right xAb (by omega)))
theorem aOz(b n:Nat)(hb:b<18446744073709551616)(g:n≤100000):rK none b (n:Int)=some (lb (b^n)):=by
 unfold rK;refine aJ (kU (step:=fun d:qd×Int=>pX none (n:Int) b d.1 d.2) (I:=fun d=>0≤d.2∧d.2≤n∧d.1=lb (b^d.2.toNat)) (fun d=>((n:Int)-d.2).toNat) (fun _=>lb (b^n)) ?_ ([1],0) ⟨by simp,by simp,?_⟩) rfl
 ·rintro⟨m,i⟩ ⟨i0,i1,f⟩;have f:m=lb (b^i.toNat):=f;have i0:0≤i:=i0;have i1:i≤n:=i1;show (∃q,pX none (n:Int) b m i=_∧_)∨pX none (n:Int) b m i=_;unfold pX;have hl:=bJY (i:=i.toNat) hb;by_cases hi:i<n
  ·left
   have ht:bY m [b]=lb (b^(i+1).toNat):=by
    unfold bY;rw[f,uI,show (i+1).toNat=i.toNat+1 from by omega,Nat.pow_succ];rfl
   refine⟨(lb (b^(i+1).toNat),i+1),?_,⟨by (try simp only); omega,by (try simp only); omega,rfl⟩,by (try simp only); omega,rfl⟩;rw[if_pos hi];refine aC ⟨by show m.length≤_; rw[f]; omega,by show (1:Nat)≤_; decide⟩ (aC (by constructor<;>omega) ?_);rw[ht]
  ·right
   rw[if_neg hi,f,show i.toNat=n from by omega]
 ·show [1]=lb (b^0);rw[Nat.pow_zero,aPL xAb];rw[show 1/18446744073709551616=0 from by decide,zE]
theorem aYM(s:List Nat)(hd:∀c∈s,oX c=true)(hs:s.length≤100000):vA none s=some (lb (dW s)):=by
 unfold vA;refine aJ (kU (step:=fun d:qd×Int=>nQ none s d.1 d.2) (I:=fun d=>0≤d.2∧d.2≤s.length∧d.1=lb (dW (s.take d.2.toNat))) (fun d=>((s.length:Int)-d.2).toNat) (fun _=>lb (dW s)) ?_ ([],0) ⟨by simp,by simp,?_⟩) rfl
 ·rintro⟨m,i⟩ ⟨i0,i1,f⟩;have f:m=lb (dW (s.take i.toNat)):=f;have i0:0≤i:=i0;have i1:i≤s.length:=i1;show (∃W,nQ none s m i=_∧_)∨nQ none s m i=_;unfold nQ;have z:m.length≤100001:=by
   rw[f];have q:=aDk (s:=s.take i.toNat) (fun c hc=>hd c (List.mem_of_mem_take hc));have U:(s.take i.toNat).length≤100000:=(by rw[List.length_take]; omega);have h3:=bJY (b:=10) (i:=(s.take i.toNat).length) xAb;have O:=bOx (x:=dW (s.take i.toNat)) (lb (10^(s.take i.toNat).length)) (aK4 _) (by rw[uI]; omega) h3;omega
  by_cases hi:i<s.length
  ·left
   have hk:i.toNat<s.length:=(by omega);have L:s.getD i.toNat 0∈s:=(by rw[List.getD_eq_getElem?_getD,List.getElem?_eq_getElem hk]; exact List.getElem_mem hk);have hc:=hd _ L;simp only[oX,decide_eq_true_iff] at hc;have g:pN none .u8 (s.getD i.toNat 0) 48=s.getD i.toNat 0-48:=bL0 (by omega) hc.1;have J:sC [s.getD i.toNat 0-48]=lb (s.getD i.toNat 0-48):=by
    show lb (nv [s.getD i.toNat 0-48])=_;simp[nv]
   have ht:aCL (bY m [10]) (lb (s.getD i.toNat 0-48))=lb (dW (s.take (i+1).toNat)):=by
    unfold aCL bY;rw[f,uI,uI,uI,show (i+1).toNat=i.toNat+1 from by omega,take_succ hk,aQu];rfl
   have N:(bY m [10]).length≤100002:=by
    unfold bY;refine Nat.le_trans (aBS (k:=m.length+1).2 ?_) (by omega);rw[f,uI,Nat.pow_succ,← f];have q:=qX (a:=m) (by rw[f]; exact aK4 _);rw[f,uI,← f] at q;exact Nat.mul_lt_mul'' q xAb
   refine⟨(lb (dW (s.take (i+1).toNat)),i+1),?_,⟨by (try simp only); omega,by (try simp only); omega,rfl⟩,by (try simp only); omega,by first|rfl|trivial⟩;rw[if_pos hi];simp only[g,J,ht];refine aC (by constructor<;>omega) (aC ⟨by show m.length≤_; omega,by show (1:Nat)≤_; decide⟩ (aC (by show (1:Nat)≤_; decide) (aC ⟨by show (bY m [10]).length≤_; omega,?_⟩ (aC (by constructor<;>omega) rfl))));show (lb (s.getD i.toNat 0-48)).length≤_;have:=aBS (n:=s.getD i.toNat 0-48) (k:=1).2 (by omega);omega
  ·right
   rw[if_neg hi,f,List.take_of_length_le (by omega)]
 ·show []=lb (dW []);rw[show dW []=0 from rfl,zE]
end
end Nu
end Go.Proofs

