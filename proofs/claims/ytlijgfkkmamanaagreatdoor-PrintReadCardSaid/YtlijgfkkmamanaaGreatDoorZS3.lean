import Derived.Test.YtlijgfkkmamanaaGreatDoorZS2
import Derived.Test.YtlijgfkkmamanaaGreatDoorZS1
import Derived.Test.YtlijgfkkmamanaaGreatDoorZL5
import Derived.Shelf.Strconv.Itoa2
import Derived.Test.YtlijgfkkmamanaaGreatDoorZL6
import Derived.Shelf.Strings.OnBuilder
import Derived.Laws.Externs
import Derived.Lib.Bytealg
set_option linter.unusedVariables false
set_option linter.unusedSimpArgs false
namespace Go.Proofs
open Go.Vc
set_option maxRecDepth 20000
namespace Nu
noncomputable section
set_option maxHeartbeats 4000000
attribute [-go_sem] Ex.kind Ex.text Ex.l
@[reducible] def bHX(xs:List qc):Prop:=xs.length*16≤140737488355328
@[go_sem]def yS:Ty:=.pair wo .unit
@[go_sem]def nP:aF:=⟨yS,.own 9 .str,fun x=>bHX x.1,fun x=>id x.1⟩
abbrev aDf(F:Md):List (FuncId×aF):=[]
theorem aDg[Mx](F:Md):bF Tryz.prog GL (aDf F):=.nil
theorem aJu[Mx]:FOK Tryz.prog GL 65 nP:=by
 refine bCA (bA (aDg none)) Tryz.func65 rfl xN xAa fun w0 S x f hp=>?_;have hF:vG (fr Tryz.prog (EM (aDf none)) S w0 Tryz.f65.ntmps):=⟨bA (aDg none),mix⟩;obtain⟨(s:q8),u⟩:=x;have hp:s.length*16≤140737488355328:=hp;simp only[cA,yS,nP];exact zaX
def cX(F:Md)(f:Ex)(names_1:q8):Option Bool :=
 (oJ F f).bind (fun g=>ck ((g=true)→((xG F 64 f names_1).isSome=true)) (some (g&&((xG F 64 f names_1).getD false))))
def aIl:PlR:=⟨[(0,.B [1,2]),(1,.A [4])],[],[]⟩
def aJ0:Ty:=.pair .expr (.pair wo .unit)
def sQ(F:Md):aF:=mSpec aJ0 (.one .bool) (fun x=>cX F x.1 x.2.1)
abbrev aEU(F:Md):List (FuncId×aF):=[(116,(aDW F 64)),(41,(aAA F))]
theorem aTv[Mx](F:Md):bF Tryz.prog GL (aEU F):=.cons (aNg F 64) xN (.cons (aPC F) xN (.nil))
attribute [go_sem] aJ0 aIl
theorem aIm[Mx](F:Md):FOK Tryz.prog GL 67 (sQ F):=by
 refine bP (bA (aTv F)) mix Tryz.func67 rfl xN xAa aIl (fun w0 S x Θ q h hV=>?_);obtain⟨(f:Ex),(names_1:q8),u⟩:=x;simp only[cA,go_sem];replace h:sat (cX F f names_1) _:=h;unfold cX at h;refine aB h fun g hv h=>?_;try simp only[hv,go_sem]
 refine aK h fun g0 h=>?_;exact zaD
attribute [go_sem] sQ
def wH(F:Md)(q:q9)(f:q8):Option Bool :=
 (cX F q.2.1 f).bind (fun g=>some (!g))
def aG8:PlR:=⟨[(0,.B [1,2]),(1,.A [3])],[],[]⟩
def aIn:Ty:=.pair qu vj
def yZ(F:Md):aF:=mSpec aIn (.one .bool) (fun x=>wH F x.1 x.2.1)
abbrev aIo(F:Md):List (FuncId×aF):=[(67,(sQ F))]
theorem aRv[Mx](F:Md):bF Tryz.prog GL (aIo F):=.cons (aIm F) xN (.nil)
attribute [go_sem] aIn aG8
theorem aPF[Mx](F:Md):FOK Tryz.prog GL 69 (yZ F):=by
 refine bP (bA (aRv F)) mix Tryz.func69 rfl xN xAa aG8 (fun w0 S x Θ z h hV=>?_);obtain⟨(g:q9),(f:q8),u⟩:=x;simp only[cA,go_sem];replace h:sat (wH F g f) _:=h;unfold wH at h;refine aB h fun q hv h=>?_;try simp only[hv,go_sem]
 exact aG hV [.tmp 3] rfl rfl rfl (aA h) xAc
attribute [go_sem] yZ
def dS(F:Md)(g:vh)(q:vd)(f:Int):Option ((Int)⊕((Unit)⊕Int)) :=
 if f<(g.length:Int) then ck (0≤f∧f<(g.length:Int)) ((wH F (g.getD (f.toNat) ([],(Ex.mk 0 [] []),())) q.1).bind (fun v_27=>if v_27=true then some (.inr (.inr f)) else ck (I64 (f+(1:Int))) (some (.inl (f+(1:Int)))))) else some (.inr (.inl ()))
def dB(F:Md)(g:vh)(f:vd):Option Int :=
 (dK F (fun d:Int=>dS F g f d) (0:Int)).bind (fun e=>match e with|(.inl e)=>some (-1:Int)|(.inr e)=>some e)
def kK:PlR:=⟨[(0,.A [0,1]),(1,.A [0,1,7,8]),(2,.A [0,1,7,8,9]),(3,.A [0,1,5,7,8]),(4,.A [0,1,5,7,8,16]),(5,.A [4]),(6,.A [0,1,7,8]),(7,.A [4])],[],[]⟩
def kV:Ty:=.pair (.sl qu) (.pair (.clo 69 vj) .unit)
def eB(F:Md):aF:=mSpec kV (.one qg) (fun x=>dB F x.1 x.2.1)
abbrev kW(F:Md):List (FuncId×aF):=[(69,(yZ F))]
theorem tZ[Mx](F:Md):bF Tryz.prog GL (kW F):=.cons (aPF F) xN (.nil)
attribute [go_sem] kV kK
theorem tJ[Mx](F:Md):FOK Tryz.prog GL 117 (eB F):=by
 refine bP (bA (tZ F)) mix Tryz.func117 rfl xN xAa kK (fun w0 S x Θ I h hV=>?_);obtain⟨(g:vh),(q:vd),u⟩:=x;simp only[cA,go_sem];replace h:sat (dB F g q) _:=h;unfold dB at h;refine bQ hV (D:=Int) [0,1,7] (fun d=>[(8,.val qg d)]) (fun d=>[]) h rfl xAb ?_;rintro f z T2 hA2 hE2 h;simp only[go_sem];replace h:sat (dS F g q f) _:=h;unfold dS at h;exact zaO
attribute [go_sem] eB
def bW(F:Md)(g:vh)(f:vd):Option Bool :=
 (dB F g f).bind (fun v_8=>some (decide ((0:Int)≤v_8)))
def jF:PlR:=⟨[(0,.A [0,1]),(1,.A [4])],[],[]⟩
def jQ:Ty:=.pair (.sl qu) (.pair (.clo 69 vj) .unit)
def dN(F:Md):aF:=mSpec jQ (.one .bool) (fun x=>bW F x.1 x.2.1)
abbrev jR(F:Md):List (FuncId×aF):=[(117,(eB F))]
theorem rV[Mx](F:Md):bF Tryz.prog GL (jR F):=.cons (tJ F) xN (.nil)
attribute [go_sem] jQ jF
theorem rJ[Mx](F:Md):FOK Tryz.prog GL 68 (dN F):=by
 refine bP (bA (rV F)) mix Tryz.func68 rfl xN xAa jF (fun w0 S x Θ q h hV=>?_);obtain⟨(g:vh),(f:vd),u⟩:=x;simp only[cA,go_sem];replace h:sat (bW F g f) _:=h;unfold bW at h;refine aB h fun v_8 hv h=>?_;exact zao
attribute [go_sem] dN
def aBH(F:Md)(g:qd)(f:Int):Option ((Int)⊕((Unit)⊕Bool)) :=
 if f<(g.2.2.1.length:Int) then ck (0≤f∧f<(g.2.2.1.length:Int)) (ck ((lV F (g.2.2.1.getD (f.toNat) ([],([],[],()),())).2.1).isSome=true) (if ¬(((lV F (g.2.2.1.getD (f.toNat) ([],([],[],()),())).2.1).getD false)=true) then some (.inr (.inr false)) else ck (I64 (f+(1:Int))) (some (.inl (f+(1:Int)))))) else some (.inr (.inl ()))
def uT(F:Md)(f:qd):Option (Bool) :=
 (dK F (fun d:Int=>aBH F f d) (0:Int)).bind (fun e=>match e with|(.inl e)=>ck ((bW F f.2.2.2.2.1 (((cC F ([((bH F f).getD (([]:List qc),([]:List qc),([]:List qc),())).1,((bH F f).getD (([]:List qc),([]:List qc),([]:List qc),())).2.1,((bH F f).getD (([]:List qc),([]:List qc),([]:List qc),())).2.2.1]:List q8)).getD ([]:List qc)),())).isSome=true) (some (!((bW F f.2.2.2.2.1 (((cC F ([((bH F f).getD (([]:List qc),([]:List qc),([]:List qc),())).1,((bH F f).getD (([]:List qc),([]:List qc),([]:List qc),())).2.1,((bH F f).getD (([]:List qc),([]:List qc),([]:List qc),())).2.2.1]:List q8)).getD ([]:List qc)),())).getD false)))|(.inr e)=>some e)
def aBI(F:Md)(g:qd)(f:Int):Option ((Int)⊕((Unit)⊕Bool)) :=
 if f<(g.2.1.length:Int) then ck (0≤f∧f<(g.2.1.length:Int)) (ck ((lV F (g.2.1.getD (f.toNat) ([],([],[],()),(Ex.mk 0 [] []),())).2.1).isSome=true) (ck (¬(¬(((lV F (g.2.1.getD (f.toNat) ([],([],[],()),(Ex.mk 0 [] []),())).2.1).getD false)=true))→((cX F (g.2.1.getD (f.toNat) ([],([],[],()),(Ex.mk 0 [] []),())).2.2.1 ((cC F ([((bH F g).getD (([]:List qc),([]:List qc),([]:List qc),())).1,((bH F g).getD (([]:List qc),([]:List qc),([]:List qc),())).2.1,((bH F g).getD (([]:List qc),([]:List qc),([]:List qc),())).2.2.1]:List q8)).getD ([]:List qc))).isSome=true)) (if (¬(((lV F (g.2.1.getD (f.toNat) ([],([],[],()),(Ex.mk 0 [] []),())).2.1).getD false)=true))∨(¬(((cX F (g.2.1.getD (f.toNat) ([],([],[],()),(Ex.mk 0 [] []),())).2.2.1 ((cC F ([((bH F g).getD (([]:List qc),([]:List qc),([]:List qc),())).1,((bH F g).getD (([]:List qc),([]:List qc),([]:List qc),())).2.1,((bH F g).getD (([]:List qc),([]:List qc),([]:List qc),())).2.2.1]:List q8)).getD ([]:List qc))).getD false)=true)) then some (.inr (.inr false)) else ck (I64 (f+(1:Int))) (some (.inl (f+(1:Int))))))) else some (.inr (.inl ()))
def zA(F:Md)(g:qd)(f:q8):Option (Bool) :=
 ck ((sM F f).isSome=true) (if ¬(((sM F f).getD false)=true) then some false else (dK F (fun d:Int=>aBI F g d) (0:Int)).bind (fun e=>match e with|(.inl e)=>uT F g|(.inr e)=>some e))
def qO(F:Md)(q:qd)(f:Int)(g:q8):Option ((Int×q8)⊕q8) :=
 if f<(q.2.2.2.2.1.length:Int) then ck (0≤f∧f<(q.2.2.2.2.1.length:Int)) (ck (((g.length)+(1:Nat))*16≤140737488355328) (ck (I64 (f+(1:Int))) (some (.inl ((f+(1:Int)),(g++([(q.2.2.2.2.1.getD (f.toNat) ([],(Ex.mk 0 [] []),())).1]:List qc))))))) else some (.inr g)
def wI(F:Md)(f:qd):Option Bool :=
 if (((((f.2.1.length:Int)<(1:Int))∨((6:Int)<(f.2.1.length:Int)))∨((6:Int)<(f.2.2.1.length:Int)))∨((4:Int)<(f.2.2.2.1.length:Int)))∨((4:Int)<(f.2.2.2.2.1.length:Int)) then some false else ck ((bH F f).isSome=true) (ck ((cC F ([((bH F f).getD (([]:List qc),([]:List qc),([]:List qc),())).1,((bH F f).getD (([]:List qc),([]:List qc),([]:List qc),())).2.1,((bH F f).getD (([]:List qc),([]:List qc),([]:List qc),())).2.2.1]:List q8)).isSome=true) (ck (bHX ((cC F ([((bH F f).getD (([]:List qc),([]:List qc),([]:List qc),())).1,((bH F f).getD (([]:List qc),([]:List qc),([]:List qc),())).2.1,((bH F f).getD (([]:List qc),([]:List qc),([]:List qc),())).2.2.1]:List q8)).getD ([]:List qc))) ((dK F (fun d:Int×q8=>qO F f d.1 d.2) ((0:Int),(id ((cC F ([((bH F f).getD (([]:List qc),([]:List qc),([]:List qc),())).1,((bH F f).getD (([]:List qc),([]:List qc),([]:List qc),())).2.1,((bH F f).getD (([]:List qc),([]:List qc),([]:List qc),())).2.2.1]:List q8)).getD ([]:List qc))))).bind (fun e=>zA F f e))))
@[go_sem]def aCP:Ty:=.pair qa .unit
def aBv(F:Md):aF:=mSpec aCP (.one .bool) (fun x=>wI F x.1)
abbrev nQ(F:Md):List (FuncId×aF):=[(68,(dN F)),(25,(wF F)),(63,(aCK F)),(64,(qN F)),(65,nP),(66,(aBt F)),(67,(sQ F))]
theorem aLx[Mx](F:Md):bF Tryz.prog GL (nQ F):=.cons (rJ F) xN (.cons (aLr F) xN (.cons (aVM F) xN (.cons (aIh F) xN (.cons aJu xN (.cons (aTt F) xN (.cons (aIm F) xN (.nil)))))))
theorem aTw[Mx](F:Md):FOK Tryz.prog GL 24 (aBv F):=by
 refine aFK (bA (aLx F)) Tryz.func24 rfl xN xAa fun w0 S x r Y h=>?_;have hF:vG (fr Tryz.prog (EM (nQ F)) S w0 Tryz.f24.ntmps):=⟨bA (aLx F),mix⟩;obtain⟨(f:qd),u⟩:=x;simp only[aCP,Ty.wf,aHo] at Y;simp only[cA,aCP];try dsimp only at h
 replace h:wI F f=some r:=h;unfold wI at h;refine aN (dQ hF [1] (yaA ?_));refine aP (aN (aN (aR hF [1,41] (yaA ?_))));refine aP (dF rfl (fun hc=>?_) (fun hc=>?_))
 ·try simp only[go_sem] at hc
  have h:=pI zAC h;refine aN (aR hF [2] (yaA ?_));obtain rfl:=Option.some.inj h;refine aP (iW (eL (pM hF [.tmp 2] rfl rfl rfl ?_)));exact zaQ
 ·try simp only[go_sem] at hc
  have h:=oF zAC h;refine eO (aP (aN (aR hF [1,3,4,5] (yaA ?_))));obtain⟨g0,h⟩:=bG h;repeat (refine⟨zAA,?_⟩)
  refine aP (aN (dQ hF [1,6] (yaA ?_)));obtain⟨g0,h⟩:=bG h;repeat (refine⟨zAA,?_⟩)
  refine aP (aN (dQ hF [1,6,7] (yaA ?_)));obtain⟨g0,h⟩:=bG h;repeat (refine⟨zAA,?_⟩)
  refine aP (aBU (D:=q8) (fun d=>zA F f d=some r) [] (fun d=>[(1,.ptr 0 []),(6,.ptr 1 []),(7,.own 2)]) (fun d=>[.inr (.box 5 (.val qa f)),.inr (.box 1 (.val wo ((cC F ([((bH F f).getD (([]:List qc),([]:List qc),([]:List qc),())).1,((bH F f).getD (([]:List qc),([]:List qc),([]:List qc),())).2.1,((bH F f).getD (([]:List qc),([]:List qc),([]:List qc),())).2.2.1]:List q8)).getD ([]:List qc)))),.inr (.row 9 .str d)]) ?_ ?_)
  ·refine aN (aR hF [1,6,7,56,57,58] (yaA ?_));refine aP (sP (aH1 (D:=Int×q8) [56,57] (fun d=>[(1,.ptr 0 []),(6,.ptr 1 []),(7,.own 2),(58,.val qg d.1)]) (fun d=>[.inr (.box 5 (.val qa f)),.inr (.box 1 (.val wo ((cC F ([((bH F f).getD (([]:List qc),([]:List qc),([]:List qc),())).1,((bH F f).getD (([]:List qc),([]:List qc),([]:List qc),())).2.1,((bH F f).getD (([]:List qc),([]:List qc),([]:List qc),())).2.2.1]:List q8)).getD ([]:List qc)))),.inr (.row 9 .str d.2)]) h ?_ ?_ ?_))
   ·first|rfl|(simp only[go_sem]; done)
   ·exact zAI
   rintro⟨I,z⟩ s7 h J;simp only[go_sem];(try dsimp only at h);unfold qO at h;refine aN (aR hF [1,6,7,56,57,58,59] (yaA ?_));refine aP (aN (dF rfl (fun hc=>?_) (fun hc=>?_)))
   ·(try simp only[go_sem] at hc);have h:=pI zAC h;refine eO (aP (aN (sP (aN (dQ hF [1,6,7,9,56,57,58] (yaA ?_))))));obtain⟨g0,h⟩:=bG h;(repeat (refine⟨zAA,?_⟩));refine aP (dQ hF [1,6,7,56,57,58] (yaA ?_));obtain⟨g0,h⟩:=bG h;(repeat (refine⟨zAA,?_⟩));refine sD (aP (aR hF [1,6,7,56,57,58] (yaA ?_)));obtain⟨g0,h⟩:=bG h;(try simp only[I64,I32] at g0);(repeat (refine⟨zAA,?_⟩));obtain rfl:=Option.some.inj h;dsimp only[aCt] at J;refine dW (gK [0,1,4] rfl rfl (yaB ?_));refine aT ((I+(1:Int)),(z++([(f.2.2.2.2.1.getD (I.toNat) ([],(Ex.mk 0 [] []),())).1]:List qc))) J rfl ?_
    ·exact zAI
   ·(try simp only[go_sem] at hc);have h:=oF zAC h;obtain rfl:=Option.some.inj h;dsimp only[aCt] at J;have h:=yaG (J);refine aFX (nJ (nJ (sE (dW (aT (z) h rfl ?_)))))
    ·exact zAI
  ·rintro O h;(try dsimp only at h);simp only[go_sem];unfold zA at h;refine aN (aN (aR hF [1,6,70] (yaA ?_)));obtain⟨g0,h⟩:=bG h;(repeat (refine⟨zAA,?_⟩));refine aP (dF rfl (fun hc=>?_) (fun hc=>?_))
   ·(try simp only[go_sem] at hc);have h:=pI zAC h;refine aN (aR hF [2] (yaA ?_));obtain rfl:=Option.some.inj h;refine aP (iW (eL (pM hF [.tmp 2] rfl rfl rfl ?_)));exact zaQ
   ·(try simp only[go_sem] at hc);have h:=oF zAC h;refine eO (aP (aBU (D:=Unit) (fun d=>uT F f=some r) [] (fun d=>[(1,.ptr 0 []),(6,.ptr 1 [])]) (fun d=>[.inr (.box 5 (.val qa f)),.inr (.box 1 (.val wo ((cC F ([((bH F f).getD (([]:List qc),([]:List qc),([]:List qc),())).1,((bH F f).getD (([]:List qc),([]:List qc),([]:List qc),())).2.1,((bH F f).getD (([]:List qc),([]:List qc),([]:List qc),())).2.2.1]:List q8)).getD ([]:List qc))))]) ?_ ?_))
    ·refine aN (aR hF [1,6,72,73,74] (yaA ?_));refine aP (sP (aDL [0,1] rfl rfl (yaB ?_)));refine aH1 (D:=Int) [72,73] (fun d=>[(1,.ptr 0 []),(6,.ptr 1 []),(74,.val qg d)]) (fun d=>[.inr (.box 5 (.val qa f)),.inr (.box 1 (.val wo ((cC F ([((bH F f).getD (([]:List qc),([]:List qc),([]:List qc),())).1,((bH F f).getD (([]:List qc),([]:List qc),([]:List qc),())).2.1,((bH F f).getD (([]:List qc),([]:List qc),([]:List qc),())).2.2.1]:List q8)).getD ([]:List qc))))]) h ?_ ?_ ?_
     ·first|rfl|(simp only[go_sem]; done)
     ·exact zAI
     rintro N Z h g;simp only[go_sem];(try dsimp only at h);unfold aBI at h;refine aN (aR hF [1,6,72,73,74,75] (yaA ?_));refine aP (aN (dF rfl (fun hc=>?_) (fun hc=>?_)))
     ·(try simp only[go_sem] at hc);have h:=pI zAC h;refine eO (aP (aN (sP (aN (dQ hF [1,6,11,72,73,74] (yaA ?_))))));obtain⟨g0,h⟩:=bG h;(repeat (refine⟨zAA,?_⟩));refine aP (aN (aR hF [1,6,72,73,74,88] (yaA ?_)));obtain⟨g0,h⟩:=bG h;obtain⟨g1,h⟩:=bG h;(repeat (refine⟨by first|with_reducible assumption|omega|(intros; first|with_reducible assumption|omega)|(simp only[go_sem] at *; first|with_reducible assumption|omega)|(intro _; exact⟨rfl,by decide⟩)|(intro _; refine(?_:_=aI _); rfl)|(refine(?_:_=aI _); rfl)|exact⟨rfl,rfl⟩|(intro q0; (try have e1:=g1 (by first|exact q0|omega|(simpa using q0))); first|assumption|omega)|decide,?_⟩));refine aP (dF rfl (fun hc=>?_) (fun hc=>?_))
      ·(try simp only[go_sem] at hc);have h:=pI zAC h;refine aN (aR hF [2] (yaA ?_));obtain rfl:=Option.some.inj h;dsimp only[aCt] at g;have h:=yaG (g);obtain rfl:=Option.some.inj h;refine aP (iW (rM (eL (eL (rM (eL (pM hF [.tmp 2] rfl rfl rfl ?_)))))));exact zaQ
      ·(try simp only[go_sem] at hc);have h:=oF zAC h;refine eO (sD (aP (aR hF [1,6,72,73,74] (yaA ?_))));obtain⟨g0,h⟩:=bG h;(try simp only[I64,I32] at g0);(repeat (refine⟨zAA,?_⟩));obtain rfl:=Option.some.inj h;dsimp only[aCt] at g;refine dW (gK [0,1] rfl rfl (yaB ?_));refine aT (N+(1:Int)) g rfl ?_
       ·exact zAI
     ·(try simp only[go_sem] at hc);have h:=oF zAC h;obtain rfl:=Option.some.inj h;dsimp only[aCt] at g;have h:=yaG (g);refine aFX (nJ (nJ (sE (dW (aT () h rfl ?_)))))
      ·exact zAI
    ·rintro u h;(try dsimp only at h);simp only[go_sem];unfold uT at h;refine aN (aN (aR hF [1,6,91,92,93] (yaA ?_)));refine aP (sP (aH1 (D:=Int) [91,92] (fun d=>[(1,.ptr 0 []),(6,.ptr 1 []),(93,.val qg d)]) (fun d=>[.inr (.box 5 (.val qa f)),.inr (.box 1 (.val wo ((cC F ([((bH F f).getD (([]:List qc),([]:List qc),([]:List qc),())).1,((bH F f).getD (([]:List qc),([]:List qc),([]:List qc),())).2.1,((bH F f).getD (([]:List qc),([]:List qc),([]:List qc),())).2.2.1]:List q8)).getD ([]:List qc))))]) h ?_ ?_ ?_))
     ·first|rfl|(simp only[go_sem]; done)
     ·exact zAI
     rintro L U h q;simp only[go_sem];(try dsimp only at h);unfold aBH at h;refine aN (aR hF [1,6,91,92,93,94] (yaA ?_));refine aP (aN (dF rfl (fun hc=>?_) (fun hc=>?_)))
     ·(try simp only[go_sem] at hc);have h:=pI zAC h;refine eO (aP (aN (sP (aN (dQ hF [1,6,13,91,92,93] (yaA ?_))))));obtain⟨g0,h⟩:=bG h;(repeat (refine⟨zAA,?_⟩));refine aP (aN (aR hF [1,6,91,92,93,100] (yaA ?_)));obtain⟨g0,h⟩:=bG h;(repeat (refine⟨zAA,?_⟩));refine aP (dF rfl (fun hc=>?_) (fun hc=>?_))
      ·(try simp only[go_sem] at hc);have h:=pI zAC h;refine aN (aR hF [2] (yaA ?_));obtain rfl:=Option.some.inj h;dsimp only[aCt] at q;have h:=yaG (q);obtain rfl:=Option.some.inj h;refine aP (iW (rM (eL (eL (rM (eL (pM hF [.tmp 2] rfl rfl rfl ?_)))))));exact zaQ
      ·(try simp only[go_sem] at hc);have h:=oF zAC h;refine eO (sD (aP (aR hF [1,6,91,92,93] (yaA ?_))));obtain⟨g0,h⟩:=bG h;(try simp only[I64,I32] at g0);(repeat (refine⟨zAA,?_⟩));obtain rfl:=Option.some.inj h;dsimp only[aCt] at q;refine dW (gK [0,1] rfl rfl (yaB ?_));refine aT (L+(1:Int)) q rfl ?_
       ·exact zAI
     ·(try simp only[go_sem] at hc);have h:=oF zAC h;obtain rfl:=Option.some.inj h;dsimp only[aCt] at q;have h:=yaG (q);refine aFX (nJ (nJ (sE (aP (aN (aEe 1 rfl (yaA ?_)))))));refine aR hF [2] (yaA ?_);obtain⟨g0,h⟩:=bG h;(repeat (refine⟨zAA,?_⟩));obtain rfl:=Option.some.inj h;refine aP (iW (pM hF [.tmp 2] rfl rfl rfl ?_));exact zaQ
attribute [go_sem] aBv
def yC(F:Md)(g:qf)(q:qc)(f:Int):Option ((Int)⊕((Unit)⊕Int)) :=
 if f<(g.2.2.2.2.2.2.2.2.1.length:Int) then ck (0≤f∧f<(g.2.2.2.2.2.2.2.2.1.length:Int)) (if (g.2.2.2.2.2.2.2.2.1.getD (f.toNat) ([],[],[],[],[],())).1=q then some (.inr (.inr f)) else ck (I64 (f+(1:Int))) (some (.inl (f+(1:Int))))) else some (.inr (.inl ()))
def aAC(F:Md)(g:qf)(f:qc):Option Int :=
 (dK F (fun d:Int=>yC F g f d) (0:Int)).bind (fun e=>match e with|(.inl e)=>some (-1:Int)|(.inr e)=>some e)
def aNh:PlR:=⟨[(0,.B [1,2]),(1,.A [1,8,9,10]),(2,.A [1,8,9,10,11]),(3,.B [1,5,6,8,9,10]),(4,.A [1,5,8,9,10,18]),(5,.A [4]),(6,.A [1,8,9,10]),(7,.A [4])],[],[]⟩
def aPN:Ty:=.pair qe wq
def aDX(F:Md):aF:=mSpec aPN (.one qg) (fun x=>aAC F x.1 x.2.1)
abbrev aZD(F:Md):List (FuncId×aF):=[]
theorem aZE[Mx](F:Md):bF Tryz.prog GL (aZD F):=.nil
attribute [go_sem] aPN aNh
theorem aXe[Mx](F:Md):FOK Tryz.prog GL 71 (aDX F):=by
 refine bP (bA (aZE F)) mix Tryz.func71 rfl xN xAa aNh (fun w0 S x Θ I h hV=>?_);obtain⟨(q:qf),(f:qc),u⟩:=x;simp only[cA,go_sem];replace h:sat (aAC F q f) _:=h;unfold aAC at h;refine aDL [] rfl rfl (yaA ?_);refine bQ hV (D:=Int) [1,8,9] (fun d=>[(10,.val qg d)]) (fun d=>[]) h rfl xAb ?_;rintro g z T2 hA2 hE2 h;simp only[go_sem];replace h:sat (yC F q f g) _:=h;unfold yC at h;refine dU h (fun hc h=>?_) fun hc h=>?_
 ·refine aK h fun g0 h=>?_;refine cH h (fun hc h=>?_) fun hc h=>?_
  ·replace h:=yaG (hE2 _ (aA h));exact zaD
  ·refine aK h fun g0 h=>?_;replace h:=hA2 _ (aA h);refine gK [] rfl rfl (yaA ?_);exact zaI
 ·replace h:=yaG (hE2 _ (aA h));exact zaD
attribute [go_sem] aDX
def wJ(F:Md)(g:q9)(f:wj):Option Bool :=
 ck ((0:Int)<(f.length:Int)) (some (decide (g.1=(f.getD (0:Nat) ([],[],[],[],())).2.2.2.1)))
def aG9:PlR:=⟨[(0,.B [1,2]),(1,.A [3])],[],[]⟩
def aIp:Ty:=.pair qu (.pair (.rp (.sl qv)) .unit)
def zB(F:Md):aF:=mSpec aIp (.one .bool) (fun x=>wJ F x.1 x.2.1)
abbrev aRw(F:Md):List (FuncId×aF):=[]
theorem aRx[Mx](F:Md):bF Tryz.prog GL (aRw F):=.nil
attribute [go_sem] aIp aG9
theorem aPO[Mx](F:Md):FOK Tryz.prog GL 72 (zB F):=by
 refine bP (bA (aRx F)) mix Tryz.func72 rfl xN xAa aG9 (fun w0 S x Θ q h hV=>?_);obtain⟨(g:q9),(f:wj),u⟩:=x;simp only[cA,go_sem];replace h:sat (wJ F g f) _:=h;unfold wJ at h;refine aK h fun g0 h=>?_;exact aG hV [.tmp 3] rfl rfl rfl (aA h) xAc
attribute [go_sem] zB
def cU(F:Md)(g:vh)(q:(wj×Unit))(f:Int):Option ((Int)⊕((Unit)⊕Int)) :=
 if f<(g.length:Int) then ck (0≤f∧f<(g.length:Int)) ((wJ F (g.getD (f.toNat) ([],(Ex.mk 0 [] []),())) q.1).bind (fun v_27=>if v_27=true then some (.inr (.inr f)) else ck (I64 (f+(1:Int))) (some (.inl (f+(1:Int)))))) else some (.inr (.inl ()))
def dC(F:Md)(g:vh)(f:(wj×Unit)):Option Int :=
 (dK F (fun d:Int=>cU F g f d) (0:Int)).bind (fun e=>match e with|(.inl e)=>some (-1:Int)|(.inr e)=>some e)
def kM:PlR:=⟨[(0,.A [0,1]),(1,.A [0,1,7,8]),(2,.A [0,1,7,8,9]),(3,.A [0,1,5,7,8]),(4,.A [0,1,5,7,8,16]),(5,.A [4]),(6,.A [0,1,7,8]),(7,.A [4])],[],[]⟩
def kX:Ty:=.pair (.sl qu) (.pair (.clo 72 (.pair (.rp (.sl qv)) .unit)) .unit)
def eC(F:Md):aF:=mSpec kX (.one qg) (fun x=>dC F x.1 x.2.1)
abbrev kY(F:Md):List (FuncId×aF):=[(72,(zB F))]
theorem uA[Mx](F:Md):bF Tryz.prog GL (kY F):=.cons (aPO F) xN (.nil)
attribute [go_sem] kX kM
theorem tK[Mx](F:Md):FOK Tryz.prog GL 117 (eC F):=by
 refine bP (bA (uA F)) mix Tryz.func117 rfl xN xAa kM (fun w0 S x Θ I h hV=>?_);obtain⟨(g:vh),(q:(wj×Unit)),u⟩:=x;simp only[cA,go_sem];replace h:sat (dC F g q) _:=h;unfold dC at h;refine bQ hV (D:=Int) [0,1,7] (fun d=>[(8,.val qg d)]) (fun d=>[]) h rfl xAb ?_;rintro f z T2 hA2 hE2 h;simp only[go_sem];replace h:sat (cU F g q f) _:=h;unfold cU at h;exact zaO
attribute [go_sem] eC
def bM(F:Md)(g:vh)(f:(wj×Unit)):Option Bool :=
 (dC F g f).bind (fun v_8=>some (decide ((0:Int)≤v_8)))
def jG:PlR:=⟨[(0,.A [0,1]),(1,.A [4])],[],[]⟩
def jS:Ty:=.pair (.sl qu) (.pair (.clo 72 (.pair (.rp (.sl qv)) .unit)) .unit)
def dO(F:Md):aF:=mSpec jS (.one .bool) (fun x=>bM F x.1 x.2.1)
abbrev jT(F:Md):List (FuncId×aF):=[(117,(eC F))]
theorem rX[Mx](F:Md):bF Tryz.prog GL (jT F):=.cons (tK F) xN (.nil)
attribute [go_sem] jS jG
theorem rK[Mx](F:Md):FOK Tryz.prog GL 68 (dO F):=by
 refine bP (bA (rX F)) mix Tryz.func68 rfl xN xAa jG (fun w0 S x Θ q h hV=>?_);obtain⟨(g:vh),(f:(wj×Unit)),u⟩:=x;simp only[cA,go_sem];replace h:sat (bM F g f) _:=h;unfold bM at h;refine aB h fun v_8 hv h=>?_;exact zao
attribute [go_sem] dO
def nR(F:Md)(I:qf)(q:Int)(g:Int)(f:wj):Option ((Int×wj)⊕(wj⊕Bool)) :=
 if g<(((I.2.2.2.2.2.2.2.2.1.getD (q.toNat) ([],[],[],[],[],())).2.2.2.1.length:Nat):Int) then ck (0≤g∧g<(((I.2.2.2.2.2.2.2.2.1.getD (q.toNat) ([],[],[],[],[],())).2.2.2.1.length:Nat):Int)) (ck (¬((f.length:Int)=(0:Int))→((0:Int)<(f.length:Int))) (ck (¬(((f.length:Int)=(0:Int))∨(¬((f.getD (0:Nat) ([],[],[],[],())).1=(I.2.2.2.2.2.2.2.2.1.getD (q.toNat) ([],[],[],[],[],())).1)))→((0:Int)<(f.length:Int))) (if (((f.length:Int)=(0:Int))∨(¬((f.getD (0:Nat) ([],[],[],[],())).1=(I.2.2.2.2.2.2.2.2.1.getD (q.toNat) ([],[],[],[],[],())).1)))∨(¬((f.getD (0:Nat) ([],[],[],[],())).2.1=((I.2.2.2.2.2.2.2.2.1.getD (q.toNat) ([],[],[],[],[],())).2.2.2.1.getD (g.toNat) ([]:List Nat)))) then some (.inr (.inr false)) else ck ((0:Int)<(f.length:Int)) ((aAC F I (f.getD (0:Nat) ([],[],[],[],())).2.2.1).bind (fun z=>ck (¬(z<(0:Int))→(0≤z∧z<(I.2.2.2.2.2.2.2.2.1.length:Int))) (ck (¬(z<(0:Int))→((bM F (I.2.2.2.2.2.2.2.2.1.getD (z.toNat) ([],[],[],[],[],())).2.2.2.2.1 (f,())).isSome=true)) (if (z<(0:Int))∨(¬(((bM F (I.2.2.2.2.2.2.2.2.1.getD (z.toNat) ([],[],[],[],[],())).2.2.2.2.1 (f,())).getD false)=true)) then some (.inr (.inr false)) else ck ((1:Int)≤(f.length:Int)) (ck (I64 (g+(1:Int))) (some (.inl ((g+(1:Int)),(List.drop (1:Nat) f)))))))))))) else some (.inr (.inl f))
def nS(F:Md)(q:qf)(f:Int)(g:wj):Option ((Int×wj)⊕(wj⊕Bool)) :=
 if f<(q.2.2.2.2.2.2.2.2.1.length:Int) then ck (0≤f∧f<(q.2.2.2.2.2.2.2.2.1.length:Int)) ((dK F (fun d:Int×wj=>nR F q f d.1 d.2) ((0:Int),g)).bind (fun e=>match e with|(.inl e)=>ck (I64 (f+(1:Int))) (some (.inl ((f+(1:Int)),e)))|(.inr e)=>some (.inr (.inr e)))) else some (.inr (.inl g))
def tL(F:Md)(f:qf):Option Bool :=
 (dK F (fun d:Int×wj=>nS F f d.1 d.2) ((0:Int),f.2.2.2.2.2.2.2.2.2.1)).bind (fun e=>match e with|(.inl e)=>some (decide ((e.length:Int)=(0:Int)))|(.inr e)=>some e)
def aJ1:PlR:=⟨[(0,.B [1]),(1,.B [1,3]),(2,.A [1,3,12,13,14]),(3,.A [1,3,12,13,14,15]),(4,.B [1,3,5,12,13,14]),(5,.A [1,3,5,12,13,14,19,20,21]),(6,.A [1,3,5,12,13,14,19,20,21,22]),(7,.A [1,3,5,7,12,13,14,19,20,21]),(8,.A [1,3,5,12,13,14,19,20,21,44]),(9,.A [2]),(10,.A [1,3,5,8,12,13,14,19,20,21]),(11,.A [1,3,5,12,13,14,19,20,21,63]),(12,.A [2]),(13,.B [1,3,5,12,13,14,19,20,21]),(14,.A [1,3,5,12,13,14,19,20,21]),(15,.A [1,3,12,13,14]),(16,.A [2])],[],[]⟩
def aLy:Ty:=.pair qe .unit
def aBw(F:Md):aF:=mSpec aLy (.one .bool) (fun x=>tL F x.1)
abbrev aGg(F:Md):List (FuncId×aF):=[(68,(dO F)),(71,(aDX F))]
theorem aVU[Mx](F:Md):bF Tryz.prog GL (aGg F):=.cons (rK F) xN (.cons (aXe F) xN (.nil))
attribute [go_sem] aLy aJ1
theorem aTx[Mx](F:Md):FOK Tryz.prog GL 26 (aBw F):=by
 refine bP (bA (aVU F)) mix Tryz.func26 rfl xN xAa aJ1 (fun w0 S x Θ hw h hV=>?_);obtain⟨(g:qf),u⟩:=x;simp only[cA,go_sem];replace h:sat (tL F g) _:=h;unfold tL at h;refine bQ hV (D:=Int×wj) [12,13] (fun d=>[(1,.ptr 0 []),(3,.ptr 1 []),(14,.val qg d.1)]) (fun d=>[.inr (.box 10 (.val qe g)),.inr (.box 1 (.val (.sl qv) d.2))]) h rfl xAb ?_;rintro⟨f,L⟩ Y T3 O I h;simp only[go_sem];replace h:sat (nS F g f L) _:=h;unfold nS at h;refine dU h (fun hc h=>?_) fun hc h=>?_
 ·refine aD h fun g0 h=>(yaD ?_);refine bQ hV (D:=Int×wj) [12,13,14,19,20] (fun d=>[(1,.ptr 0 []),(3,.ptr 1 []),(5,.ptr 2 []),(21,.val qg d.1)]) (fun d=>[.inr (.box 10 (.val qe g)),.inr (.box 1 (.val (.sl qv) d.2)),.inr (.box 5 (.val qa (g.2.2.2.2.2.2.2.2.1.getD (f.toNat) ([],[],[],[],[],()))))]) h rfl xAb ?_;rintro⟨q,J⟩ Z T6 N z h;simp only[go_sem];replace h:sat (nR F g f q J) _:=h;unfold nR at h;refine dU h (fun hc h=>?_) fun hc h=>?_
  ·refine aD h fun g0 h=>(yaD ?_);refine aD h fun g0 h=>?_;refine aD h fun g1 h=>?_;(repeat (refine⟨zAG,?_⟩));refine⟨fun hc=>?_,fun hc=>?_⟩
   ·replace h:=gZ hc h;replace h:=yaG (z _ (aA h));replace h:=yaG (I _ (aA h));exact zaF
   ·replace h:=hO hc h;refine aD h fun g0 h=>(yaD ?_);refine aB h fun U hv h=>?_;(try simp only[hv,go_sem]);refine aD h fun g0 h=>?_;refine aD h fun g1 h=>?_;(repeat (refine⟨zAG,?_⟩));refine⟨fun hc=>?_,fun hc=>?_⟩
    ·replace h:=gZ zAC h;replace h:=yaG (z _ (aA h));replace h:=yaG (I _ (aA h));exact zaF
    ·replace h:=hO zAC h;refine aD h fun g0 h=>(yaD ?_);refine aD h fun g0 h=>?_;(try simp only[I64,I32] at g0);(repeat (refine⟨zAB,?_⟩));replace h:=N _ (aA h);exact zaI
  ·replace h:=yaG (z _ (aA h));refine aD h fun g0 h=>?_;(try simp only[I64,I32] at g0);(repeat (refine⟨zAB,?_⟩));replace h:=O _ (aA h);refine gK [0,1] rfl rfl (yaA ?_);exact zaI
 ·replace h:=yaG (I _ (aA h));exact zaF
attribute [go_sem] aBw
def wK(F:Md)(g:qf)(names_16:q8):Option (Bool) :=
 (sM F names_16).bind (fun f=>ck ((f=true)→((tL F g).isSome=true)) (some (f&&((tL F g).getD false))))
def tM(F:Md)(g:qf)(f:Int)(names_24:q8):Option ((Int×q8)⊕(q8⊕Bool)) :=
 if f<(g.2.2.2.2.2.2.2.2.1.length:Int) then ck (0≤f∧f<(g.2.2.2.2.2.2.2.2.1.length:Int)) ((wI F (g.2.2.2.2.2.2.2.2.1.getD (f.toNat) ([],[],[],[],[],()))).bind (fun q=>if ¬(q=true) then some (.inr (.inr false)) else ck (((names_24.length)+(1:Nat))*16≤140737488355328) (ck (I64 (f+(1:Int))) (some (.inl ((f+(1:Int)),(names_24++([(g.2.2.2.2.2.2.2.2.1.getD (f.toNat) ([],[],[],[],[],())).1]:List qc)))))))) else some (.inr (.inl names_24))
def lL(F:Md)(f:qf):Option Bool :=
 (uJ F f).bind (fun g=>if ((¬(g=true))∨((f.2.2.2.2.2.2.2.2.1.length:Int)<(1:Int)))∨((4:Int)<(f.2.2.2.2.2.2.2.2.1.length:Int)) then some false else (dK F (fun d:Int×q8=>tM F f d.1 d.2) ((0:Int),([]:List qc))).bind (fun e=>match e with|(.inl e)=>wK F f e|(.inr e)=>some e))
def aPR:PlR:=⟨[(0,.B [1]),(1,.A [1,20]),(2,.A [2]),(3,.A [1,3]),(4,.A [1,3,22,23,24]),(5,.A [1,3,22,23,24,25]),(6,.B [1,3,5,22,23,24]),(7,.A [1,3,5,22,23,24,30]),(8,.A [2]),(9,.B [1,3,22,23,24]),(10,.A [1,3,22,23,24]),(11,.A [2])],[(7,14)],[]⟩
def aSL:Ty:=.pair qe .unit
def aAD(F:Md):aF:=mSpec aSL (.one .bool) (fun x=>lL F x.1)
abbrev aEo(F:Md):List (FuncId×aF):=[(23,(aAw F)),(24,(aBv F)),(25,(wF F)),(26,(aBw F))]
theorem bBI[Mx](F:Md):bF Tryz.prog GL (aEo F):=.cons (aRo F) xN (.cons (aTw F) xN (.cons (aLr F) xN (.cons (aTx F) xN (.nil))))
attribute [go_sem] aSL aPR
theorem aPS[Mx](F:Md):FOK Tryz.prog GL 8 (aAD F):=by
 refine bP (bA (bBI F)) mix Tryz.func8 rfl xN xAa aPR (fun w0 S x Θ O h hV=>?_);obtain⟨(f:qf),u⟩:=x;simp only[cA,go_sem];replace h:sat (lL F f) _:=h;unfold lL at h;refine aB h fun L hv h=>?_;try simp only[hv,go_sem]
 refine⟨fun hc=>?_,fun hc=>?_⟩
 ·replace h:=gZ zAC h;exact zaF
 ·replace h:=hO zAC h;refine dD hV (D:=q8) (fun d=>sat (wK F f d) Θ) [] (fun d=>[(1,.ptr 0 []),(3,.own 1)]) (fun d=>[.inr (.box 10 (.val qe f)),.inr (.row 9 .str d)]) ?_ ?_
  ·simp only[go_sem];refine aFZ 3 9 .str rfl (yaA ?_);refine bQ hV (D:=Int×q8) [22,23] (fun d=>[(1,.ptr 0 []),(3,.own 1),(24,.val qg d.1)]) (fun d=>[.inr (.box 10 (.val qe f)),.inr (.row 9 .str d.2)]) h rfl xAb ?_;rintro⟨g,names_24⟩ N T5 z q h;simp only[go_sem];replace h:sat (tM F f g names_24) _:=h;unfold tM at h;refine dU h (fun hc h=>?_) fun hc h=>?_
   ·refine aD h fun g0 h=>(yaC ?_);refine aB h fun J hv h=>?_;(try simp only[hv,go_sem]);refine aA1 h (fun hc h=>?_) fun hc h=>?_
    ·replace h:=yaG (q _ (aA h));exact zaF
    ·refine aD h fun g0 h=>(yaC ?_);refine aD h fun g0 h=>(yaC ?_);replace h:=z _ (aA h);refine gK [0,3] rfl rfl (yaA ?_);exact zaI
   ·replace h:=yaG (q _ (aA h));exact aT (names_24) h rfl xAb
  ·rintro names_16 h;simp only[go_sem];replace h:sat (wK F f names_16) _:=h;unfold wK at h;refine aB h fun I hv h=>?_;(try simp only[hv,go_sem]);refine aD h fun g0 h=>(yaC ?_);exact zaF
attribute [go_sem] aAD
def lG(F:Md)(g:(List we))(q:(List we))(f:Int):Option ((Int)⊕((Unit)⊕Bool)) :=
 if f<(g.length:Int) then ck (0≤f∧f<(g.length:Int)) (ck (0≤f∧f<(q.length:Int)) (if ¬((Ty.eqb qz (g.getD (f.toNat) ([],([],[],()),())) (q.getD (f.toNat) ([],([],[],()),())))=true) then some (.inr (.inr false)) else ck (I64 (f+(1:Int))) (some (.inl (f+(1:Int)))))) else some (.inr (.inl ()))
def gP(F:Md)(f:(List we))(g:(List we)):Option Bool :=
 if ¬((f.length:Int)=(g.length:Int)) then some false else (dK F (fun d:Int=>lG F f g d) (0:Int)).bind (fun e=>match e with|(.inl e)=>some true|(.inr e)=>some e)
def aCd:PlR:=⟨[(0,.A [0,1]),(1,.A [0,1,10]),(2,.A [4]),(3,.A [0,1,12,13]),(4,.A [0,1,12,13,14]),(5,.A [0,1,5,12,13]),(6,.A [0,1,12,13,24]),(7,.A [4]),(8,.A [0,1,12,13]),(9,.A [4])],[],[]⟩
def aCQ:Ty:=.pair (.sl qz) (.pair (.sl qz) .unit)
def qP(F:Md):aF:=mSpec aCQ (.one .bool) (fun x=>gP F x.1 x.2.1)
abbrev aJv(F:Md):List (FuncId×aF):=[]
theorem aJw[Mx](F:Md):bF Tryz.prog GL (aJv F):=.nil
attribute [go_sem] aCQ aCd
theorem aIq[Mx](F:Md):FOK Tryz.prog GL 78 (qP F):=by
 refine bP (bA (aJw F)) mix Tryz.func78 rfl xN xAa aCd (fun w0 S x Θ I h hV=>?_);obtain⟨(g:(List we)),(f:(List we)),u⟩:=x;simp only[cA,go_sem];replace h:sat (gP F g f) _:=h;unfold gP at h;refine cH h (fun hc h=>?_) fun hc h=>?_
 ·exact aG hV [.tmp 4] rfl rfl rfl (aA h) xAc
 ·refine bQ hV (D:=Int) [0,1,12] (fun d=>[(13,.val qg d)]) (fun d=>[]) h rfl xAb ?_;rintro q z T4 hA4 hE4 h;simp only[go_sem];replace h:sat (lG F g f q) _:=h;unfold lG at h;exact zaY
attribute [go_sem] qP
def lX(F:Md)(g:q8)(q:q8)(f:Int):Option ((Int)⊕((Unit)⊕Bool)) :=
 if f<(g.length:Int) then ck (0≤f∧f<(g.length:Int)) (ck (0≤f∧f<(q.length:Int)) (if ¬((g.getD (f.toNat) ([]:List Nat))=(q.getD (f.toNat) ([]:List Nat))) then some (.inr (.inr false)) else ck (I64 (f+(1:Int))) (some (.inl (f+(1:Int)))))) else some (.inr (.inl ()))
def jJ(F:Md)(f:q8)(g:q8):Option Bool :=
 if ¬((f.length:Int)=(g.length:Int)) then some false else (dK F (fun d:Int=>lX F f g d) (0:Int)).bind (fun e=>match e with|(.inl e)=>some true|(.inr e)=>some e)
def aCR:PlR:=⟨[(0,.A [0,1]),(1,.A [0,1,10]),(2,.A [4]),(3,.A [0,1,12,13]),(4,.A [0,1,12,13,14]),(5,.A [0,1,5,12,13]),(6,.A [0,1,12,13,24]),(7,.A [4]),(8,.A [0,1,12,13]),(9,.A [4])],[],[]⟩
def aDh:Ty:=.pair wo (.pair wo .unit)
def rY(F:Md):aF:=mSpec aDh (.one .bool) (fun x=>jJ F x.1 x.2.1)
abbrev aKo(F:Md):List (FuncId×aF):=[]
theorem aKp[Mx](F:Md):bF Tryz.prog GL (aKo F):=.nil
attribute [go_sem] aDh aCR
theorem aJx[Mx](F:Md):FOK Tryz.prog GL 79 (rY F):=by
 refine bP (bA (aKp F)) mix Tryz.func79 rfl xN xAa aCR (fun w0 S x Θ I h hV=>?_);obtain⟨(g:q8),(f:q8),u⟩:=x;simp only[cA,go_sem];replace h:sat (jJ F g f) _:=h;unfold jJ at h;refine cH h (fun hc h=>?_) fun hc h=>?_
 ·exact aG hV [.tmp 4] rfl rfl rfl (aA h) xAc
 ·refine bQ hV (D:=Int) [0,1,12] (fun d=>[(13,.val qg d)]) (fun d=>[]) h rfl xAb ?_;rintro q z T4 hA4 hE4 h;simp only[go_sem];replace h:sat (lX F g f q) _:=h;unfold lX at h;refine dU h (fun hc h=>?_) fun hc h=>?_
  ·refine aK h fun g0 h=>aK h fun g1 h=>?_;refine cH h (fun hc h=>?_) fun hc h=>?_
   ·replace h:=yaG (hE4 _ (aA h));exact zaD
   ·refine aK h fun g0 h=>?_;replace h:=hA4 _ (aA h);exact zaI
  ·replace h:=yaG (hE4 _ (aA h));exact zaD
attribute [go_sem] rY
def kN(F:Md)(g:wj)(q:wj)(f:Int):Option ((Int)⊕((Unit)⊕Bool)) :=
 if f<(g.length:Int) then ck (0≤f∧f<(g.length:Int)) (ck (0≤f∧f<(q.length:Int)) (if ¬((Ty.eqb qv (g.getD (f.toNat) ([],[],[],[],())) (q.getD (f.toNat) ([],[],[],[],())))=true) then some (.inr (.inr false)) else ck (I64 (f+(1:Int))) (some (.inl (f+(1:Int)))))) else some (.inr (.inl ()))
def iD(F:Md)(f:wj)(g:wj):Option Bool :=
 if ¬((f.length:Int)=(g.length:Int)) then some false else (dK F (fun d:Int=>kN F f g d) (0:Int)).bind (fun e=>match e with|(.inl e)=>some true|(.inr e)=>some e)
def aBk:PlR:=⟨[(0,.A [0,1]),(1,.A [0,1,10]),(2,.A [4]),(3,.A [0,1,12,13]),(4,.A [0,1,12,13,14]),(5,.A [0,1,5,12,13]),(6,.A [0,1,12,13,24]),(7,.A [4]),(8,.A [0,1,12,13]),(9,.A [4])],[],[]⟩
def aCe:Ty:=.pair (.sl qv) (.pair (.sl qv) .unit)
def pQ(F:Md):aF:=mSpec aCe (.one .bool) (fun x=>iD F x.1 x.2.1)
abbrev aIr(F:Md):List (FuncId×aF):=[]
theorem aIs[Mx](F:Md):bF Tryz.prog GL (aIr F):=.nil
attribute [go_sem] aCe aBk
theorem aHF[Mx](F:Md):FOK Tryz.prog GL 29 (pQ F):=by
 refine bP (bA (aIs F)) mix Tryz.func29 rfl xN xAa aBk (fun w0 S x Θ I h hV=>?_);obtain⟨(g:wj),(f:wj),u⟩:=x;simp only[cA,go_sem];replace h:sat (iD F g f) _:=h;unfold iD at h;refine cH h (fun hc h=>?_) fun hc h=>?_
 ·exact aG hV [.tmp 4] rfl rfl rfl (aA h) xAc
 ·refine bQ hV (D:=Int) [0,1,12] (fun d=>[(13,.val qg d)]) (fun d=>[]) h rfl xAb ?_;rintro q z T4 hA4 hE4 h;simp only[go_sem];replace h:sat (kN F g f q) _:=h;unfold kN at h;exact zaY
attribute [go_sem] pQ
@[go_sem]def aAE:Ty:=.pair .expr (.pair .expr .unit)
@[go_sem]def nT(g:Ex→Ex→Option (Bool)):aF:=mSpec aAE (.one .bool) (fun x=>g x.1 x.2.1)
def bR(F:Md)(g:Ex→Ex→Option (Bool))(q:vi)(z:vi)(f:Int):Option ((Int)⊕((Unit)⊕Bool)) :=
 if f<(q.length:Int) then ck (0≤f∧f<(q.length:Int)) (ck (0≤f∧f<(z.length:Int)) ((g (q.getD (f.toNat) (Ex.mk 0 [] [])) (z.getD (f.toNat) (Ex.mk 0 [] []))).bind (fun v_28=>if ¬(v_28=true) then some (.inr (.inr false)) else ck (I64 (f+(1:Int))) (some (.inl (f+(1:Int))))))) else some (.inr (.inl ()))
def aX(F:Md)(g:Ex→Ex→Option (Bool))(f:vi)(q:vi)(z:Unit):Option Bool :=
 if ¬((f.length:Int)=(q.length:Int)) then some false else (dK F (fun d:Int=>bR F g f q d) (0:Int)).bind (fun e=>match e with|(.inl e)=>some true|(.inr e)=>some e)
def fD:PlR:=⟨[(0,.A [0,1,2]),(1,.A [0,1,2,14]),(2,.A [6]),(3,.A [1,2,15,16,17]),(4,.A [1,2,15,16,17,18]),(5,.B [1,2,7,8,15,16,17]),(6,.B [1,2,8,9,15,16,17]),(7,.A [1,2,15,16,17,30]),(8,.A [6]),(9,.A [1,2,15,16,17]),(10,.A [6])],[],[]⟩
def fG:Ty:=.pair (.sl .expr) (.pair (.sl .expr) (.pair (.clo 75 .unit) .unit))
def cI(F:Md)(g:Ex→Ex→Option (Bool)):aF:=mSpec fG (.one .bool) (fun x=>aX F g x.1 x.2.1 x.2.2.1)
abbrev fH(F:Md)(g:Ex→Ex→Option (Bool)):List (FuncId×aF):=[(75,(nT g))]
theorem lM[Mx](F:Md)(g:Ex→Ex→Option (Bool))(f:FOK Tryz.prog GL 75 (nT g)):bF Tryz.prog GL (fH F g):=.cons f xN (.nil)
attribute [go_sem] fG fD
theorem lI[Mx](F:Md)(g:Ex→Ex→Option (Bool))(J:FOK Tryz.prog GL 75 (nT g)):FOK Tryz.prog GL 120 (cI F g):=by
 refine bP (bA (lM F g J)) mix Tryz.func120 rfl xN xAa fD (fun w0 S x Θ N h hV=>?_);obtain⟨(z:vi),(q:vi),(I:Unit),u⟩:=x;simp only[cA,go_sem];replace h:sat (aX F g z q I) _:=h;unfold aX at h;refine cH h (fun hc h=>?_) fun hc h=>?_
 ·exact aG hV [.tmp 6] rfl rfl rfl (aA h) xAc
 ·refine bQ hV (D:=Int) [1,2,15,16] (fun d=>[(17,.val qg d)]) (fun d=>[]) h rfl xAb ?_;rintro f L T4 hA4 hE4 h;simp only[go_sem];replace h:sat (bR F g z q f) _:=h;unfold bR at h;exact zaG
attribute [go_sem] cI
def pD(F:Md)(g:Ex→Ex→Option (Bool))(f:Ex)(q:Ex):Option Bool :=
 ck ((((f.kind)=(q.kind))∧((f.text)=(q.text)))→((aX F g (f.l) (q.l) ()).isSome=true)) (some (((decide ((f.kind)=(q.kind)))&&(decide ((f.text)=(q.text))))&&((aX F g (f.l) (q.l) ()).getD false)))
def aHa:PlR:=⟨[(0,.B [2,3]),(1,.A [4])],[],[]⟩
abbrev aIt(F:Md)(g:Ex→Ex→Option (Bool)):List (FuncId×aF):=[(120,(cI F g))]
theorem aRy[Mx](F:Md)(g:Ex→Ex→Option (Bool))(f:FOK Tryz.prog GL 75 (nT g)):bF Tryz.prog GL (aIt F g):=.cons (lI F g f) xN (.nil)
attribute [go_sem] aHa
theorem aN7[Mx](F:Md)(g:Ex→Ex→Option (Bool))(z:FOK Tryz.prog GL 75 (nT g)):FOK Tryz.prog GL 75 (mSpec aAE (.one .bool) (fun x=>pD F g x.1 x.2.1)):=by
 refine bP (bA (aRy F g z)) mix Tryz.func75 rfl xN xAa aHa (fun w0 S x Θ I h hV=>?_);obtain⟨(f:Ex),(q:Ex),u⟩:=x;simp only[cA,go_sem];replace h:sat (pD F g f q) _:=h;unfold pD at h;refine aK h fun g0 h=>?_;exact zaD
def lC(F:Md):Nat→Ex→Ex→Option (Bool)
 | 0=>fun _ _=>none
 | n+1=>pD F (lC F n)
def qQ(F:Md)(n:Nat):aF:=mSpec aAE (.one .bool) (fun x=>lC F n x.1 x.2.1)
theorem aCS[Mx](F:Md):∀n,FOK Tryz.prog GL 75 (qQ F n)
 | 0=>fun _ _ _ _ _ _ _ hp=>Bool.noConfusion (show false=true from hp)
 | n+1=>aN7 F _ (aCS F n)
attribute [go_sem] qQ
def uU(F:Md)(g:wR)(f:wR):Option Bool :=
 ck (((g.1=f.1)∧((Ty.eqb qj g.2.1 f.2.1)=true))→((lC F 64 g.2.2.1 f.2.2.1).isSome=true)) (some (((decide (g.1=f.1))&&(Ty.eqb qj g.2.1 f.2.1))&&((lC F 64 g.2.2.1 f.2.2.1).getD false)))
@[go_sem]def zC:Ty:=.pair qr (.pair qr .unit)
def xH(F:Md):aF:=mSpec zC (.one .bool) (fun x=>uU F x.1 x.2.1)
abbrev aCT(F:Md):List (FuncId×aF):=[(75,(qQ F 64))]
theorem aHb[Mx](F:Md):bF Tryz.prog GL (aCT F):=.cons (aCS F 64) xN (.nil)
theorem aN8[Mx](F:Md):FOK Tryz.prog GL 74 (xH F):=by
 refine aFK (bA (aHb F)) Tryz.func74 rfl xN xAa fun w0 S x r q h=>?_;have hF:vG (fr Tryz.prog (EM (aCT F)) S w0 Tryz.f74.ntmps):=⟨bA (aHb F),mix⟩;obtain⟨(g:wR),(f:wR),u⟩:=x;simp only[zC,Ty.wf,aHo] at q;simp only[cA,zC];try dsimp only at h
 replace h:uU F g f=some r:=h;unfold uU at h;refine aN (dQ hF [2,3] (yaA ?_));refine aP (aN (aR hF [4] (yaA ?_)));obtain⟨g0,h⟩:=bG h;repeat (refine⟨by first|with_reducible assumption|omega|(intros; first|with_reducible assumption|omega)|(simp only[go_sem] at *; first|with_reducible assumption|omega)|(intro _; exact⟨rfl,by decide⟩)|(intro _; refine(?_:_=aI _); rfl)|(refine(?_:_=aI _); rfl)|exact⟨rfl,rfl⟩|(intro q0; (try have e0:=g0 (by first|exact q0|omega|(simpa using q0))); first|assumption|omega)|decide,?_⟩)
 obtain rfl:=Option.some.inj h;refine aP (iW (pM hF [.tmp 4] rfl rfl rfl ?_));exact zaQ
attribute [go_sem] xH
def bN(F:Md)(g:(List wR))(q:(List wR))(f:Int):Option ((Int)⊕((Unit)⊕Bool)) :=
 if f<(g.length:Int) then ck (0≤f∧f<(g.length:Int)) (ck (0≤f∧f<(q.length:Int)) ((uU F (g.getD (f.toNat) ([],([],[],()),(Ex.mk 0 [] []),())) (q.getD (f.toNat) ([],([],[],()),(Ex.mk 0 [] []),()))).bind (fun v_28=>if ¬(v_28=true) then some (.inr (.inr false)) else ck (I64 (f+(1:Int))) (some (.inl (f+(1:Int))))))) else some (.inr (.inl ()))
def bD(F:Md)(f:(List wR))(g:(List wR))(q:Unit):Option Bool :=
 if ¬((f.length:Int)=(g.length:Int)) then some false else (dK F (fun d:Int=>bN F f g d) (0:Int)).bind (fun e=>match e with|(.inl e)=>some true|(.inr e)=>some e)
def eT:PlR:=⟨[(0,.A [0,1,2]),(1,.A [0,1,2,14]),(2,.A [6]),(3,.A [1,2,15,16,17]),(4,.A [1,2,15,16,17,18]),(5,.B [1,2,7,8,15,16,17]),(6,.B [1,2,8,9,15,16,17]),(7,.A [1,2,15,16,17,30]),(8,.A [6]),(9,.A [1,2,15,16,17]),(10,.A [6])],[],[]⟩
def eU:Ty:=.pair (.sl qr) (.pair (.sl qr) (.pair (.clo 74 .unit) .unit))
def cB(F:Md):aF:=mSpec eU (.one .bool) (fun x=>bD F x.1 x.2.1 x.2.2.1)
abbrev eV(F:Md):List (FuncId×aF):=[(74,(xH F))]
theorem kO[Mx](F:Md):bF Tryz.prog GL (eV F):=.cons (aN8 F) xN (.nil)
attribute [go_sem] eU eT
theorem kD[Mx](F:Md):FOK Tryz.prog GL 73 (cB F):=by
 refine bP (bA (kO F)) mix Tryz.func73 rfl xN xAa eT (fun w0 S x Θ J h hV=>?_);obtain⟨(q:(List wR)),(g:(List wR)),(z:Unit),u⟩:=x;simp only[cA,go_sem];replace h:sat (bD F q g z) _:=h;unfold bD at h;refine cH h (fun hc h=>?_) fun hc h=>?_
 ·exact aG hV [.tmp 6] rfl rfl rfl (aA h) xAc
 ·refine bQ hV (D:=Int) [1,2,15,16] (fun d=>[(17,.val qg d)]) (fun d=>[]) h rfl xAb ?_;rintro f I T4 hA4 hE4 h;simp only[go_sem];replace h:sat (bN F q g f) _:=h;unfold bN at h;exact zaG
attribute [go_sem] cB
def uW(F:Md)(g:q9)(f:q9):Option Bool :=
 ck ((g.1=f.1)→((lC F 64 g.2.1 f.2.1).isSome=true)) (some ((decide (g.1=f.1))&&((lC F 64 g.2.1 f.2.1).getD false)))
def aGh:PlR:=⟨[(0,.B [2,3]),(1,.A [4])],[],[]⟩
def aHc:Ty:=.pair qu (.pair qu .unit)
def xI(F:Md):aF:=mSpec aHc (.one .bool) (fun x=>uW F x.1 x.2.1)
abbrev aHd(F:Md):List (FuncId×aF):=[(75,(qQ F 64))]
theorem aPT[Mx](F:Md):bF Tryz.prog GL (aHd F):=.cons (aCS F 64) xN (.nil)
attribute [go_sem] aHc aGh
theorem aN9[Mx](F:Md):FOK Tryz.prog GL 77 (xI F):=by
 refine bP (bA (aPT F)) mix Tryz.func77 rfl xN xAa aGh (fun w0 S x Θ q h hV=>?_);obtain⟨(g:q9),(f:q9),u⟩:=x;simp only[cA,go_sem];replace h:sat (uW F g f) _:=h;unfold uW at h;refine aK h fun g0 h=>?_;exact zaD
attribute [go_sem] xI
def bT(F:Md)(g:vh)(q:vh)(f:Int):Option ((Int)⊕((Unit)⊕Bool)) :=
 if f<(g.length:Int) then ck (0≤f∧f<(g.length:Int)) (ck (0≤f∧f<(q.length:Int)) ((uW F (g.getD (f.toNat) ([],(Ex.mk 0 [] []),())) (q.getD (f.toNat) ([],(Ex.mk 0 [] []),()))).bind (fun v_28=>if ¬(v_28=true) then some (.inr (.inr false)) else ck (I64 (f+(1:Int))) (some (.inl (f+(1:Int))))))) else some (.inr (.inl ()))
def bO(F:Md)(f:vh)(g:vh)(q:Unit):Option Bool :=
 if ¬((f.length:Int)=(g.length:Int)) then some false else (dK F (fun d:Int=>bT F f g d) (0:Int)).bind (fun e=>match e with|(.inl e)=>some true|(.inr e)=>some e)
def fN:PlR:=⟨[(0,.A [0,1,2]),(1,.A [0,1,2,14]),(2,.A [6]),(3,.A [1,2,15,16,17]),(4,.A [1,2,15,16,17,18]),(5,.B [1,2,7,8,15,16,17]),(6,.B [1,2,8,9,15,16,17]),(7,.A [1,2,15,16,17,30]),(8,.A [6]),(9,.A [1,2,15,16,17]),(10,.A [6])],[],[]⟩
def fT:Ty:=.pair (.sl qu) (.pair (.sl qu) (.pair (.clo 77 .unit) .unit))
def cL(F:Md):aF:=mSpec fT (.one .bool) (fun x=>bO F x.1 x.2.1 x.2.2.1)
abbrev fU(F:Md):List (FuncId×aF):=[(77,(xI F))]
theorem mH[Mx](F:Md):bF Tryz.prog GL (fU F):=.cons (aN9 F) xN (.nil)
attribute [go_sem] fT fN
theorem mB[Mx](F:Md):FOK Tryz.prog GL 76 (cL F):=by
 refine bP (bA (mH F)) mix Tryz.func76 rfl xN xAa fN (fun w0 S x Θ J h hV=>?_);obtain⟨(q:vh),(g:vh),(z:Unit),u⟩:=x;simp only[cA,go_sem];replace h:sat (bO F q g z) _:=h;unfold bO at h;refine cH h (fun hc h=>?_) fun hc h=>?_
 ·exact aG hV [.tmp 6] rfl rfl rfl (aA h) xAc
 ·refine bQ hV (D:=Int) [1,2,15,16] (fun d=>[(17,.val qg d)]) (fun d=>[]) h rfl xAb ?_;rintro f I T4 hA4 hE4 h;simp only[go_sem];replace h:sat (bT F q g f) _:=h;unfold bT at h;exact zaG
attribute [go_sem] cL
def uK(F:Md)(g:qd)(f:qd):Option Bool :=
 (bD F g.2.1 f.2.1 ()).bind (fun v_8=>(bO F g.2.2.2.2.1 f.2.2.2.2.1 ()).bind (fun q=>ck ((((v_8=true)∧(q=true))∧(g.1=f.1))→((gP F g.2.2.1 f.2.2.1).isSome=true)) (ck (((((v_8=true)∧(q=true))∧(g.1=f.1))∧(((gP F g.2.2.1 f.2.2.1).getD false)=true))→((jJ F g.2.2.2.1 f.2.2.2.1).isSome=true)) (some ((((v_8&&q)&&(decide (g.1=f.1)))&&((gP F g.2.2.1 f.2.2.1).getD false))&&((jJ F g.2.2.2.1 f.2.2.2.1).getD false))))))
def aIu:PlR:=⟨[(0,.B [2,3]),(1,.A [2,3,5]),(2,.A [2,3,5,6]),(3,.A [4])],[],[]⟩
def aJ2:Ty:=.pair qa (.pair qa .unit)
def aAF(F:Md):aF:=mSpec aJ2 (.one .bool) (fun x=>uK F x.1 x.2.1)
abbrev yD(F:Md):List (FuncId×aF):=[(73,(cB F)),(76,(cL F)),(78,(qP F)),(79,(rY F))]
theorem aTy[Mx](F:Md):bF Tryz.prog GL (yD F):=.cons (kD F) xN (.cons (mB F) xN (.cons (aIq F) xN (.cons (aJx F) xN (.nil))))
attribute [go_sem] aJ2 aIu
theorem aRz[Mx](F:Md):FOK Tryz.prog GL 28 (aAF F):=by
 refine bP (bA (aTy F)) mix Tryz.func28 rfl xN xAa aIu (fun w0 S x Θ z h hV=>?_);obtain⟨(f:qd),(g:qd),u⟩:=x;simp only[cA,go_sem];replace h:sat (uK F f g) _:=h;unfold uK at h;refine aB h fun v_8 hv h=>?_;try simp only[hv,go_sem]
 refine aB h fun q hv h=>?_;try simp only[hv,go_sem]
 refine aK h fun g0 h=>aK h fun g1 h=>?_;exact zaD
attribute [go_sem] aAF
def bZ(F:Md)(g:vg)(q:vg)(f:Int):Option ((Int)⊕((Unit)⊕Bool)) :=
 if f<(g.length:Int) then ck (0≤f∧f<(g.length:Int)) (ck (0≤f∧f<(q.length:Int)) ((uK F (g.getD (f.toNat) ([],[],[],[],[],())) (q.getD (f.toNat) ([],[],[],[],[],()))).bind (fun v_28=>if ¬(v_28=true) then some (.inr (.inr false)) else ck (I64 (f+(1:Int))) (some (.inl (f+(1:Int))))))) else some (.inr (.inl ()))
def aW(F:Md)(f:vg)(g:vg)(q:Unit):Option Bool :=
 if ¬((f.length:Int)=(g.length:Int)) then some false else (dK F (fun d:Int=>bZ F f g d) (0:Int)).bind (fun e=>match e with|(.inl e)=>some true|(.inr e)=>some e)
def gB:PlR:=⟨[(0,.A [0,1,2]),(1,.A [0,1,2,14]),(2,.A [6]),(3,.A [1,2,15,16,17]),(4,.A [1,2,15,16,17,18]),(5,.B [1,2,7,8,15,16,17]),(6,.B [1,2,8,9,15,16,17]),(7,.A [1,2,15,16,17,30]),(8,.A [6]),(9,.A [1,2,15,16,17]),(10,.A [6])],[],[]⟩
def gE:Ty:=.pair (.sl qa) (.pair (.sl qa) (.pair (.clo 28 .unit) .unit))
def cQ(F:Md):aF:=mSpec gE (.one .bool) (fun x=>aW F x.1 x.2.1 x.2.2.1)
abbrev gF(F:Md):List (FuncId×aF):=[(28,(aAF F))]
theorem nC[Mx](F:Md):bF Tryz.prog GL (gF F):=.cons (aRz F) xN (.nil)
attribute [go_sem] gE gB
theorem mR[Mx](F:Md):FOK Tryz.prog GL 27 (cQ F):=by
 refine bP (bA (nC F)) mix Tryz.func27 rfl xN xAa gB (fun w0 S x Θ J h hV=>?_);obtain⟨(q:vg),(g:vg),(z:Unit),u⟩:=x;simp only[cA,go_sem];replace h:sat (aW F q g z) _:=h;unfold aW at h;refine cH h (fun hc h=>?_) fun hc h=>?_
 ·exact aG hV [.tmp 6] rfl rfl rfl (aA h) xAc
 ·refine bQ hV (D:=Int) [1,2,15,16] (fun d=>[(17,.val qg d)]) (fun d=>[]) h rfl xAb ?_;rintro f I T4 hA4 hE4 h;simp only[go_sem];replace h:sat (bZ F q g f) _:=h;unfold bZ at h;exact zaG
attribute [go_sem] cQ
def rZ(F:Md)(f:qf)(g:qf):Option Bool :=
 ck (((((((((f.1=g.1)∧(f.2.1=g.2.1))∧(f.2.2.1=g.2.2.1))∧(f.2.2.2.1=g.2.2.2.1))∧(f.2.2.2.2.1=g.2.2.2.2.1))∧(f.2.2.2.2.2.1=g.2.2.2.2.2.1))∧(f.2.2.2.2.2.2.1=g.2.2.2.2.2.2.1))∧(f.2.2.2.2.2.2.2.1=g.2.2.2.2.2.2.2.1))→((aW F f.2.2.2.2.2.2.2.2.1 g.2.2.2.2.2.2.2.2.1 ()).isSome=true)) (ck ((((((((((f.1=g.1)∧(f.2.1=g.2.1))∧(f.2.2.1=g.2.2.1))∧(f.2.2.2.1=g.2.2.2.1))∧(f.2.2.2.2.1=g.2.2.2.2.1))∧(f.2.2.2.2.2.1=g.2.2.2.2.2.1))∧(f.2.2.2.2.2.2.1=g.2.2.2.2.2.2.1))∧(f.2.2.2.2.2.2.2.1=g.2.2.2.2.2.2.2.1))∧(((aW F f.2.2.2.2.2.2.2.2.1 g.2.2.2.2.2.2.2.2.1 ()).getD false)=true))→((iD F f.2.2.2.2.2.2.2.2.2.1 g.2.2.2.2.2.2.2.2.2.1).isSome=true)) (some ((((((((((decide (f.1=g.1))&&(decide (f.2.1=g.2.1)))&&(decide (f.2.2.1=g.2.2.1)))&&(decide (f.2.2.2.1=g.2.2.2.1)))&&(decide (f.2.2.2.2.1=g.2.2.2.2.1)))&&(decide (f.2.2.2.2.2.1=g.2.2.2.2.2.1)))&&(decide (f.2.2.2.2.2.2.1=g.2.2.2.2.2.2.1)))&&(decide (f.2.2.2.2.2.2.2.1=g.2.2.2.2.2.2.2.1)))&&((aW F f.2.2.2.2.2.2.2.2.1 g.2.2.2.2.2.2.2.2.1 ()).getD false))&&((iD F f.2.2.2.2.2.2.2.2.2.1 g.2.2.2.2.2.2.2.2.2.1).getD false))))
def aNi:PlR:=⟨[(0,.B [2,3]),(1,.A [2,3,5]),(2,.A [4])],[],[]⟩
def aPU:Ty:=.pair qe (.pair qe .unit)
def aDY(F:Md):aF:=mSpec aPU (.one .bool) (fun x=>rZ F x.1 x.2.1)
abbrev aJy(F:Md):List (FuncId×aF):=[(27,(cQ F)),(29,(pQ F))]
theorem aZF[Mx](F:Md):bF Tryz.prog GL (aJy F):=.cons (mR F) xN (.cons (aHF F) xN (.nil))
attribute [go_sem] aPU aNi
theorem aXf[Mx](F:Md):FOK Tryz.prog GL 9 (aDY F):=by
 refine bP (bA (aZF F)) mix Tryz.func9 rfl xN xAa aNi (fun w0 S x Θ q h hV=>?_);obtain⟨(f:qf),(g:qf),u⟩:=x;simp only[cA,go_sem];replace h:sat (rZ F f g) _:=h;unfold rZ at h;refine aK h fun g0 h=>aK h fun g1 h=>?_;exact zaD
attribute [go_sem] aDY
def aDZ(F:Md):Option qf :=
 some ((40:Int),(4:Int),(0:Int),(1:Int),(aQ ⟨#[49]⟩),(aQ ⟨#[48,46,53]⟩),(aQ ⟨#[48,46,49,50,53]⟩),(aQ ⟨#[49]⟩),([((aQ ⟨#[97]⟩),([((aQ ⟨#[120]⟩),((aQ ⟨#[49]⟩),([]:List Nat),()),(Ex.mk (2:Int) (aQ ⟨#[120]⟩) ([]:List Ex)),())]:List wR),([]:List we),([]:List qc),([((aQ ⟨#[121]⟩),(Ex.mk (2:Int) (aQ ⟨#[120]⟩) ([]:List Ex)),())]:List q9),())]:List qd),([]:List qy),())
def aLC:PlR:=⟨[(0,.B [0]),(1,.B [0,1]),(2,.B [0])],[],[]⟩
def aNj:Ty:=.unit
def aCU(F:Md):aF:=mSpec aNj (.one qe) (fun x=>aDZ F )
abbrev aXg(F:Md):List (FuncId×aF):=[]
theorem aXh[Mx](F:Md):bF Tryz.prog GL (aXg F):=.nil
attribute [go_sem] aNj aLC
theorem aVZ[Mx](F:Md):FOK Tryz.prog GL 14 (aCU F):=by
 refine bP (bA (aXh F)) mix Tryz.func14 rfl xN xAa aLC (fun w0 S x Θ f h hV=>?_);simp only[cA,go_sem];replace h:sat (aDZ F) _:=h;unfold aDZ at h;exact aG hV [.cell 0 27] rfl rfl rfl (aA h) xAc
attribute [go_sem] aCU
end
end Nu
end Go.Proofs
namespace Go.Proofs
open Go.Shelf
def Tryz.lays285_ren:Go.Shelf.Ren:=⟨fun|285=>171|n=>n,fun|37=>79|53=>165|3=>3|4=>4|51=>220|9=>9|5=>5|0=>0|n=>n,fun|n=>n⟩
theorem Tryz.lays285:Go.Proofs.Lays.n285 Tryz.prog Tryz.lays285_ren:={
 mixed:=by kernel_rfl
 f285:=Tryz.func171.trans (congrArg some (by kernel_rfl))
 t0:=Tryz.underlying0
 a0:=Tryz.isAgg0
 z0:=Tryz.sizeOf0
 v0:=Tryz.zeroValue0
 t3:=Tryz.underlying3
 a3:=Tryz.isAgg3
 z3:=Tryz.sizeOf3
 v3:=Tryz.zeroValue3
 t4:=Tryz.underlying4
 a4:=Tryz.isAgg4
 z4:=Tryz.sizeOf4
 v4:=Tryz.zeroValue4
 t5:=Tryz.underlying5
 a5:=Tryz.isAgg5
 z5:=Tryz.sizeOf5
 v5:=Tryz.zeroValue5
 t9:=Tryz.underlying9
 a9:=Tryz.isAgg9
 z9:=Tryz.sizeOf9
 v9:=Tryz.zeroValue9
 t37:=Tryz.underlying79
 a37:=Tryz.isAgg79
 z37:=Tryz.sizeOf79
 v37:=Tryz.zeroValue79
 t51:=Tryz.underlying220
 a51:=Tryz.isAgg220
 z51:=Tryz.sizeOf220
 v51:=Tryz.zeroValue220
 t53:=Tryz.underlying165
 a53:=Tryz.isAgg165
 z53:=Tryz.sizeOf165
 v53:=Tryz.zeroValue165 }
open Go.Vc
set_option maxRecDepth 20000
namespace Nu
noncomputable section
def dgs(n u:Nat):List Nat:=(List.range n).map fun t=>48+u/10^(n-1-t)%10
theorem aJz(n u:Nat):(dgs n u).length=n:=by simp[dgs]
def mS(F:Md)(uo un u:Nat)(xs:List Nat):Option qc :=
 ck (uo+un≤24) (ck (u<10^un) (some (xs.take uo++dgs un u++xs.drop (uo+un))))
@[go_sem]def vO(F:Md):fQ where
 D:=Nat×Nat×Nat×qc×qc
 av:=fun d=>[.sub 0 1 d.1 d.2.1,.val qw d.2.2.1]
 hp:=fun d=>[.box 24 (.val (.arr 24 wm) d.2.2.2.1)]
 m:=1
 pre:=fun d=>mS F d.1 d.2.1 d.2.2.1 d.2.2.2.1=some d.2.2.2.2
 out:=fun d=>(fun r:qc=>.ret (.tup []) [.box 24 (.val (.arr 24 wm) (r))]) d.2.2.2.2
theorem aSM(xs:List Nat):(xs.map (fun (x:Nat)=>[Value.int .u8 (x:Int)])).flatten=xs.map (fun (x:Nat)=>Value.int .u8 (x:Int)):=by
 induction xs with
 | nil=>rfl
 | cons x r f=>simp[f]
theorem bKq{w:World}{S:Nat→Prop}{m:Nat}{xs:List Nat}{cs:List Value}(h:bB w S (.arr m wm) xs cs):xs.length=m∧cs=xs.map (fun (x:Nat)=>Value.int .u8 (x:Int))∧ ∀x∈xs,x<256:=by
 obtain⟨z,f,rfl,q,L⟩:=h;have z:xs.length=m:=z;have g:∀i (h:i<xs.length) (h':i<f.length),f[i]= [Value.int .u8 (xs[i]:Int)]∧xs[i]<256:=fun i h h'=>by
  obtain⟨I,_,J⟩:=L i h h';refine⟨I,?_⟩;simp only[IntKind.max,IntKind.signed,IntKind.bits] at J;simp at J;omega
 refine⟨z,?_,fun x O=>?_⟩
 ·have e:f=xs.map (fun (x:Nat)=>[Value.int .u8 (x:Int)]):=by
   apply List.ext_getElem
   ·simp; exact q
   ·intro i I N;have:=(g i (by simpa using N) I).1
    simpa using this
  rw[e,aSM]
 ·obtain⟨i,hi,rfl⟩:=List.getElem_of_mem O;exact(g i hi (by have:f.length=xs.length:=q; omega)).2
theorem bM4{w:World}{S:Nat→Prop}{m:Nat}{xs:List Nat}(f:xs.length=m)(g:∀x∈xs,x<256):bB w S (.arr m wm) xs (xs.map (fun (x:Nat)=>Value.int .u8 (x:Int))):=by
 refine⟨f,xs.map (fun (x:Nat)=>[Value.int .u8 (x:Int)]),(aSM xs).symm,by simp,fun i h h'=>?_⟩
 ·have:=g xs[i] (List.getElem_mem h);refine⟨by simp,rfl,?_⟩;simp only[IntKind.max,IntKind.signed,IntKind.bits];simp;omega
open Go.Sort in
theorem bFN{cells:Array Value}{xs:List Nat}{uo un u v':Nat}{dk:Array UInt8}(hc:cells.toList=xs.map (fun (x:Nat)=>Value.int .u8 (x:Int)))(z:uo+un≤xs.length)(hF:Lib.FmtInv un u 0 v' dk) :
  (putCells (fun (b:UInt8)=>Value.int .u8 (b.toNat:Int)) uo dk cells).toList=(xs.take uo++dgs un u++xs.drop (uo+un)).map (fun (x:Nat)=>Value.int .u8 (x:Int)):=by
 have f:cells.size=xs.length:=by rw[← Array.length_toList,hc,List.length_map]
 have L:=hF.size;apply List.ext_getElem
 ·simp[putCells,aJz,f]; omega
 ·intro i J I;have hi:i<xs.length:=by simpa [putCells,f] using J
  have g:cells[i]'(by omega)=Value.int .u8 (xs[i]:Int):=by
   have:cells.toList[i]'(by rw[Array.length_toList]; omega)=Value.int .u8 (xs[i]:Int):=by simp[hc]
   simpa using this
  simp only[putCells,Array.toList_mapIdx,List.getElem_mapIdx,Array.getElem_toList,List.getElem_map];by_cases q:uo≤i∧i<uo+dk.size
  ·rw[if_pos q,hF.done (i-uo) (Nat.zero_le _) (by omega)];have:(xs.take uo++dgs un u++xs.drop (uo+un))[i]'(by simpa using I)=48+u/10^(un-1-(i-uo))%10:=by
    rw[List.getElem_append_left (by simp[aJz]; omega),List.getElem_append_right (by simp; omega)];simp[dgs,Nat.min_eq_left (show uo≤xs.length by omega)]
   rw[this];have hm:=Nat.mod_lt (u/10^(un-1-(i-uo))) (show 0<10 by decide);simp only[Lib.dg,UInt8.toNat_ofNat'];rw[Nat.mod_eq_of_lt (by omega)]
  ·rw[if_neg q,g];rcases Nat.lt_or_ge i uo with h|h
   ·rw[List.getElem_append_left (by simp[aJz]; omega),List.getElem_append_left (by simp; omega)];simp
   ·rw[List.getElem_append_right (by simp[aJz]; omega)];simp only[List.length_append,List.length_take,aJz,List.getElem_drop]
    congr 3
    omega
open Go.Sort in
theorem aHG[Mx](F:Md):GOK Tryz.prog GL 171 (vO F):=by
 rintro c w ⟨I,L,u,J,r⟩ vs g ⟨good,glob,len,val⟩;have g:mS F I L u J=some r:=g;unfold mS at g;obtain⟨h1,g⟩:=bG g;obtain⟨h2,g⟩:=bG g;have hr:J.take I++dgs L u++J.drop (I+L)=r:=Option.some.inj g;obtain⟨b,cells,e,O,hheap,Z,hcl⟩:=good.objs 0 _ rfl;obtain⟨hl,N,hx⟩:=bKq hcl;have hl:J.length=24:=hl;have N:cells.toList=J.map (fun (x:Nat)=>Value.int .u8 (x:Int)):=N;have hx:∀x∈J,x<256:=hx;have Z:cells.size=24:=by
  rcases Z with h|⟨_,h⟩
  ·exact h
  ·exact absurd h (by omega)
 have hv0:=val 0 (by show 0<2; decide) (by rw[len]; show 0<2; decide);have hv1:=val 1 (by show 1<2; decide) (by rw[len]; show 1<2; decide);obtain⟨_,hn,b',cap,hb',e0⟩:=aTU (i:=0) (s:=1) (off:=I) (n:=L) hv0;obtain⟨e1,_,hu⟩:=aKH (k:=.u64) (n:=u) hv1;rw[O] at hb';simp only[aU,Option.some.injEq] at hb';subst hb';have hvs:vs= #[.slice (some ⟨b,I*1,none⟩) L cap,.int .u64 (u:Int)]:=by
  have hlen:vs.toList.length=2:=len;rw[← Array.toList_inj];apply List.ext_getElem
  ·exact hlen
  ·intro i a1 a2
   match i,a2 with
   | 0,_=>exact e0
   | 1,_=>exact e1
 have hd:(((J.drop I).take L).map UInt8.ofNat).toArray.size=L:=by simp; omega
 have hcell:∀j (Y:j<J.length),w.cell? ⟨b,j,none⟩=some (.int .u8 (J[j]:Int)):=fun j Y=>by
  have U:j<cells.size:=by omega
  have:cells[j]=Value.int .u8 (J[j]:Int):=by
   have:cells.toList[j]'(by rw[Array.length_toList]; omega)=Value.int .u8 (J[j]:Int):=by simp[N]
   simpa using this
  simp[World.cell?,hheap,U,this]
 have hH:Holds (fun (b:UInt8)=>Value.int .u8 (b.toNat:Int)) w b I (((J.drop I).take L).map UInt8.ofNat).toArray:=fun j Y=>by
  rw[hd] at Y;have U:I+j<J.length:=by omega
  refine⟨?_,?_⟩
  ·rw[hcell _ U];have hlt:=hx J[I+j] (List.getElem_mem U);have:(((J.drop I).take L).map UInt8.ofNat).toArray[j]! = UInt8.ofNat J[I+j]:=by
    rw[getElem!_pos _ j (by rw[hd]; exact Y)];simp
   rw[this];simp only[UInt8.toNat_ofNat'];rw[Nat.mod_eq_of_lt (by omega)]
  ·simp[World.frozen?,hheap]
 have hB:lR .u64=18446744073709551616:=by decide +kernel
 have key:=Any.internal_strconv_formatBase10 Tryz.lays285 b I cap u _ w hH (by rw[hd]; exact h2) (by omega) (by rw[hd]; omega);rw[hd] at key;rw[hvs,Nat.mul_one];refine Calls.mono (f:=171) key ?_;rintro e w' ⟨rfl,n,v',dk,rfl,hF⟩;refine⟨c,.tuple #[],rfl,?_,?_⟩
 ·have hbl:b<w.heap.size:=(Array.getElem?_eq_some_iff.1 hheap).1;have hpc:=bFN (uo:=I) (xs:=J) (u:=u) (dk:=dk) (un:=L) N (by omega) hF;have hheap':((putRow (fun (b:UInt8)=>Value.int .u8 (b.toNat:Int)) w b I dk).drewN n).heap[b]? = some (.cells (putCells (fun (b:UInt8)=>Value.int .u8 (b.toNat:Int)) I dk cells) e (0,0)):=by
   show (w.heap.modify b (onCells _))[b]? = _;rw[Array.getElem?_modify,if_pos rfl,hheap];rfl
  have hoth:∀k,k≠b→((putRow (fun (b:UInt8)=>Value.int .u8 (b.toNat:Int)) w b I dk).drewN n).heap[k]? = w.heap[k]? := fun k hk=>by
   show (w.heap.modify b (onCells _))[k]? = _;rw[Array.getElem?_modify,if_neg (fun h=>hk h.symm)]
  have hsize:((putRow (fun (b:UInt8)=>Value.int .u8 (b.toNat:Int)) w b I dk).drewN n).heap.size=w.heap.size:=by
   show (w.heap.modify b (onCells _)).size=_;simp
  have hnS:¬c.S b:=(good.own 0 _ b rfl (by show aU (c.hd 0)=some b; rw[O]; rfl)).2.2;refine⟨good.n,⟨rfl,rfl,rfl,Nat.le_of_eq hsize.symm,fun k hk hM=>hoth k (fun hkb=>hM ?_)⟩,fun k hk=>by rw[hsize]; exact good.sfin k hk,good.src,fun i o q=>?_,fun i o k q hk=>?_,fun i j oi oj k hi Y hbi hbj=>?_,good.root⟩
  ·subst hkb;exact⟨0,_,rfl,by show aU (c.hd 0)=some k; rw[O]; rfl⟩
  ·match i,q with
   | 0,q =>
    cases q;refine⟨b,_,e,O,hheap',?_,?_⟩
    ·exact .inl (by (simp[putCells,Z])<;>rfl)
    ·show bB _ c.S (.arr 24 wm) r _;rw[hpc,hr];have hrl:r.length=24:=(by rw[← hr]; simp[aJz]; omega);refine bM4 hrl (fun x z=>?_);rw[← hr] at z;rcases List.mem_append.1 z with z|z
     ·rcases List.mem_append.1 z with z|z
      ·exact hx x (List.mem_of_mem_take z)
      ·obtain⟨t,_,rfl⟩:=List.mem_map.1 z;have:=Nat.mod_lt (u/10^(L-1-t)) (show 0<10 by decide);omega
     ·exact hx x (List.mem_of_mem_drop z)
   | i+1,q=>cases q
  ·match i,q with
   | 0,q =>
    cases q;have:=good.own 0 _ k rfl hk;rw[hsize]; exact this
   | i+1,q=>cases q
  ·match i,j,hi,Y with
   | 0,0,_,_=>rfl
   | 0,j+1,_,Y=>cases Y
   | i+1,_,hi,_=>cases hi
 ·exact⟨[],rfl,rfl,fun i h1 _=>by cases h1⟩
set_option maxHeartbeats 4000000
def aOe:ByteArray:=⟨⟨48::48::48::49::48::50::48::51::48::52::48::53::48::54::48::55::48::56::48::57::49::48::49::49::49::50::49::51::49::52::49::53::49::54::49::55::49::56::49::57::50::48::50::49::50::50::50::51::50::52::50::53::50::54::50::55::50::56::50::57::51::48::51::49::51::50::51::51::51::52::51::53::51::54::51::55::51::56::51::57::52::48::52::49::52::50::52::51::52::52::52::53::52::54::52::55::52::56::52::57::53::48::53::49::53::50::53::51::53::52::53::53::53::54::53::55::53::56::53::57::54::48::54::49::54::50::54::51::54::52::54::53::54::54::54::55::54::56::54::57::55::48::55::49::55::50::55::51::55::52::55::53::55::54::55::55::55::56::55::57::56::48::56::49::56::50::56::51::56::52::56::53::56::54::56::55::56::56::56::57::57::48::57::49::57::50::57::51::57::52::57::53::57::54::57::55::57::56::57::57:: []⟩⟩
@[go_sem]theorem aXi:(⟨⟨48::48::48::49::48::50::48::51::48::52::48::53::48::54::48::55::48::56::48::57::49::48::49::49::49::50::49::51::49::52::49::53::49::54::49::55::49::56::49::57::50::48::50::49::50::50::50::51::50::52::50::53::50::54::50::55::50::56::50::57::51::48::51::49::51::50::51::51::51::52::51::53::51::54::51::55::51::56::51::57::52::48::52::49::52::50::52::51::52::52::52::53::52::54::52::55::52::56::52::57::53::48::53::49::53::50::53::51::53::52::53::53::53::54::53::55::53::56::53::57::54::48::54::49::54::50::54::51::54::52::54::53::54::54::54::55::54::56::54::57::55::48::55::49::55::50::55::51::55::52::55::53::55::54::55::55::55::56::55::57::56::48::56::49::56::50::56::51::56::52::56::53::56::54::56::55::56::56::56::57::57::48::57::49::57::50::57::51::57::52::57::53::57::54::57::55::57::56::57::57:: []⟩⟩:ByteArray)=aOe:=rfl
def aOf:ByteArray:=⟨⟨48::49::50::51::52::53::54::55::56::57::97::98::99::100::101::102::103::104::105::106::107::108::109::110::111::112::113::114::115::116::117::118::119::120::121::122:: []⟩⟩
@[go_sem]theorem aXj:(⟨⟨48::49::50::51::52::53::54::55::56::57::97::98::99::100::101::102::103::104::105::106::107::108::109::110::111::112::113::114::115::116::117::118::119::120::121::122:: []⟩⟩:ByteArray)=aOf:=rfl
def pZ(F:Md)(f:Bool):Option Int :=
 if f=true then some (1:Int) else some (0:Int)
def aDi:PlR:=⟨[(0,.A [0]),(1,.A [3]),(2,.A [2]),(3,.A [2])],[],[]⟩
def aEp:Ty:=.pair .bool .unit
def tS(F:Md):aF:=mSpec aEp (.one qg) (fun x=>pZ F x.1)
abbrev aLD(F:Md):List (FuncId×aF):=[]
theorem aLE[Mx](F:Md):bF Tryz.prog GL (aLD F):=.nil
attribute [go_sem] aEp aDi
theorem aKq[Mx](F:Md):FOK Tryz.prog GL 196 (tS F):=by
 refine bP (bA (aLE F)) mix Tryz.func196 rfl xN xAa aDi (fun w0 S x Θ g h hV=>?_);obtain⟨(f:Bool),u⟩:=x;simp only[cA,go_sem];replace h:sat (pZ F f) _:=h;unfold pZ at h;exact zag
attribute [go_sem] tS
def qA(F:Md)(f:Int):Option Int :=
 ck (I64 (f*(78913:Int))) (some (Int.fdiv (f*(78913:Int)) (2^(18:Nat))))
def aDj:PlR:=⟨[(0,.A [0]),(1,.A [2])],[],[]⟩
def aEq:Ty:=.pair qg .unit
def tT(F:Md):aF:=mSpec aEq (.one qg) (fun x=>qA F x.1)
abbrev aLF(F:Md):List (FuncId×aF):=[]
theorem aLG[Mx](F:Md):bF Tryz.prog GL (aLF F):=.nil
attribute [go_sem] aEq aDj
theorem aKr[Mx](F:Md):FOK Tryz.prog GL 195 (tT F):=by
 refine bP (bA (aLG F)) mix Tryz.func195 rfl xN xAa aDj (fun w0 S x Θ g h hV=>?_);obtain⟨(f:Int),u⟩:=x;simp only[cA,go_sem];replace h:sat (qA F f) _:=h;unfold qA at h;refine aK h fun g0 h=>?_;exact zaF
attribute [go_sem] tT
def bY(F:Md)(g:Nat):Option Int :=
 (qA F (rO g)).bind (fun v_5=>ck (0≤v_5∧v_5<(20:Int)) ((pZ F (decide ((p10.getD (v_5.toNat) (0:Nat))≤g))).bind (fun f=>ck (I64 (v_5+f)) (some (v_5+f)))))
def aDk:PlR:=⟨[(0,.A [0]),(1,.A [0,3]),(2,.A [2])],[],[]⟩
def aEr:Ty:=.pair qw .unit
def tU(F:Md):aF:=mSpec aEr (.one qg) (fun x=>bY F x.1)
abbrev uX(F:Md):List (FuncId×aF):=[(187,yI),(195,(tT F)),(196,(tS F))]
theorem aLH[Mx](F:Md):bF Tryz.prog GL (uX F):=.cons aMT xN (.cons (aKr F) xN (.cons (aKq F) xN (.nil)))
attribute [go_sem] aEr aDk
theorem aKs[Mx](F:Md):FOK Tryz.prog GL 170 (tU F):=by
 refine bP (bA (aLH F)) mix Tryz.func170 rfl xN xAa aDk (fun w0 S x Θ q h hV=>?_);obtain⟨(f:Nat),u⟩:=x;simp only[cA,go_sem];replace h:sat (bY F f) _:=h;unfold bY at h;refine aB h fun v_5 hv h=>?_;try simp only[hv,go_sem]
 refine aK h fun g0 h=>?_;refine aB h fun g hv h=>?_;exact zai
attribute [go_sem] tU
def sR(F:Md)(f:Int):Option qc :=
 if f<(10:Int) then ck (I64 (f+(1:Int))) (ck (0≤f∧f≤(f+(1:Int))∧(f+(1:Int))≤(((aQ aOf).length:Nat):Int)) (some (List.drop (f.toNat) (List.take (f+(1:Int)).toNat (aQ aOf))))) else ck (I64 (f*(2:Int))) (ck (I64 (f*(2:Int))) (ck (I64 ((f*(2:Int))+(2:Int))) (ck (0≤(f*(2:Int))∧(f*(2:Int))≤((f*(2:Int))+(2:Int))∧((f*(2:Int))+(2:Int))≤(((aQ aOe).length:Nat):Int)) (some (List.drop (f*(2:Int)).toNat (List.take ((f*(2:Int))+(2:Int)).toNat (aQ aOe)))))))
def aHe:PlR:=⟨[(0,.A [0]),(1,.A [0,4]),(2,.A [2]),(3,.A [2])],[],[]⟩
def aIv:Ty:=.pair qg .unit
def zD(F:Md):aF:=mSpec aIv (.one .str) (fun x=>sR F x.1)
abbrev aRA(F:Md):List (FuncId×aF):=[]
theorem aRB[Mx](F:Md):bF Tryz.prog GL (aRA F):=.nil
attribute [go_sem] aIv aHe
theorem aPV[Mx](F:Md):FOK Tryz.prog GL 169 (zD F):=by
 refine bP (bA (aRB F)) mix Tryz.func169 rfl xN xAa aHe (fun w0 S x Θ z h hV=>?_);obtain⟨(f:Int),u⟩:=x;simp only[cA,go_sem];replace h:sat (sR F f) _:=h;unfold sR at h;refine dU h (fun hc h=>?_) fun hc h=>?_
 ·refine aK h fun g0 h=>aK h fun g1 h=>?_;exact zaF
 ·refine aK h fun g0 h=>aK h fun g1 h=>aK h fun g h=>aK h fun q h=>?_;exact zaF
attribute [go_sem] zD
def mT(F:Md)(g:Int)(f:Nat):Option qc :=
 ck ((bY F f).isSome=true) (ck (I64 ((1:Int)+((bY F f).getD (0:Int)))) (ck ((1:Int)<((1:Int)+((bY F f).getD (0:Int)))∧((1:Int)+((bY F f).getD (0:Int)))≤24) ((mS F (1:Nat) (((1:Int)+((bY F f).getD (0:Int)))-(1:Int)).toNat f (List.replicate 24 (0:Nat))).bind (fun r_7=>if g<(0:Int) then ck (I64 ((1:Int)+((bY F f).getD (0:Int)))) (ck ((0:Int)<((1:Int)+((bY F f).getD (0:Int)))∧((1:Int)+((bY F f).getD (0:Int)))≤24) (ck ((0:Nat)+(((1:Int)+((bY F f).getD (0:Int)))-(0:Int)).toNat≤24) (some (List.take (((1:Int)+((bY F f).getD (0:Int)))-(0:Int)).toNat (List.drop (0:Nat) (r_7.set (0:Nat) (45:Nat))))))) else ck (I64 ((1:Int)+((bY F f).getD (0:Int)))) (ck ((1:Int)<((1:Int)+((bY F f).getD (0:Int)))∧((1:Int)+((bY F f).getD (0:Int)))≤24) (ck ((1:Nat)+(((1:Int)+((bY F f).getD (0:Int)))-(1:Int)).toNat≤24) (some (List.take (((1:Int)+((bY F f).getD (0:Int)))-(1:Int)).toNat (List.drop (1:Nat) r_7)))))))))
def qB(F:Md)(f:Int)(g:Int):Option qc :=
 if g=(10:Int) then if ((0:Int)≤f)∧(f<(100:Int)) then ck ((sR F f).isSome=true) (some ((sR F f).getD ([]:List Nat))) else if f<(0:Int) then mT F f (aMx F .u64 (f%(18446744073709551616:Int)).toNat) else mT F f (f%(18446744073709551616:Int)).toNat else none
@[go_sem]def uY:Ty:=.pair qg qm
def tV(F:Md):aF:=mSpec uY (.one .str) (fun x=>qB F x.1 x.2.1)
abbrev uZ(F:Md):List (FuncId×aF):=[(169,(zD F)),(170,(tU F))]
theorem aEs[Mx](F:Md):bF Tryz.prog GL (uZ F):=.cons (aPV F) xN (.cons (aKs F) xN (.nil))
theorem aKt[Mx](F:Md):FOK Tryz.prog GL 123 (tV F):=by
 refine aFK (bA (aEs F)) Tryz.func123 rfl xN xAa fun w0 S x r I h=>?_;have hF:vG (fr Tryz.prog (EM (uZ F)) S w0 Tryz.f123.ntmps):=⟨bA (aEs F),mix⟩;obtain⟨(g:Int),(f:Int),u⟩:=x;simp only[uY,Ty.wf,aHo] at I;simp only[cA,uY];try dsimp only at h
 replace h:qB F g f=some r:=h;unfold qB at h;refine aN (aR hF [0,1] ?_);simp only[go_sem,bJ F,bK F,bL F];refine aP (aN (aN (aR hF [0,1,11] ?_)));simp only[go_sem,bJ F,bK F,bL F];refine aP (dF rfl (fun hc=>?_) (fun hc=>?_))
 ·try simp only[go_sem,bJ F,bK F,bL F] at hc
  have h:=pI zAC h;refine aN (aN (aR hF [0,17] ?_));simp only[go_sem,bJ F,bK F,bL F];refine aP (dF rfl (fun hc=>?_) (fun hc=>?_))
  ·(try simp only[go_sem,bJ F,bK F,bL F] at hc);have h:=pI zAC h;refine aN (aR hF [4] ?_);simp only[go_sem,bJ F,bK F,bL F];obtain⟨g0,h⟩:=bG h;exact zaw
  ·(try simp only[go_sem,bJ F,bK F,bL F] at hc);have h:=oF zAC h;refine eO (aP (aN (dQ hF [0,5] ?_)));simp only[go_sem,bJ F,bK F,bL F];refine aP (aN (aR hF [0,5,6] ?_));simp only[go_sem,bJ F,bK F,bL F];refine aP (aBU (D:=Nat) (fun d=>mT F g d=some r) [0] (fun d=>[(5,.ptr 0 []),(6,.val qw d)]) (fun d=>[.inr (.box 24 (.val (.arr 24 wm) (List.replicate 24 (0:Nat))))]) ?_ ?_)
   ·refine aN (aR hF [0,5,6,23] ?_);simp only[go_sem,bJ F,bK F,bL F];refine aP (dF rfl (fun hc=>?_) (fun hc=>?_))
    ·(try simp only[go_sem,bJ F,bK F,bL F] at hc);have h:=pI zAC h;refine aR hF [0,5,6] ?_;simp only[go_sem,bJ F,bK F,bL F];refine dW (aT (aMx F .u64 (g%(18446744073709551616:Int)).toNat) h rfl ?_)
     ·(try simp only[xU,fB,true_or,and_self,go_sem,bJ F,bK F,bL F])<;>(repeat' apply And.intro)<;>first|rfl|(left; rfl)|(right; rfl)|(left; simp only[go_sem,bJ F,bK F,bL F]; done)|(right; simp only[go_sem,bJ F,bK F,bL F]; done)|(simp; done)|(simp only[*]; done)|omega
    ·(try simp only[go_sem,bJ F,bK F,bL F] at hc);have h:=oF zAC h;refine eO (dW (aT (g%(18446744073709551616:Int)).toNat h rfl ?_))
     ·(try simp only[xU,fB,true_or,and_self,go_sem,bJ F,bK F,bL F])<;>(repeat' apply And.intro)<;>first|rfl|(left; rfl)|(right; rfl)|(left; simp only[go_sem,bJ F,bK F,bL F]; done)|(right; simp only[go_sem,bJ F,bK F,bL F]; done)|(simp; done)|(simp only[*]; done)|omega
   ·rintro q h;(try dsimp only at h);simp only[go_sem,bJ F,bK F,bL F];unfold mT at h;refine aN (aR hF [0,5,6,7] ?_);simp only[go_sem,bJ F,bK F,bL F];obtain⟨g0,h⟩:=bG h;(repeat (refine⟨zAF,?_⟩));obtain⟨g0,h⟩:=bG h;(try simp only[I64,I32] at g0);obtain⟨g1,h⟩:=bG h;obtain⟨r_7,J,h⟩:=bind_some h;(try dsimp only at h);refine aP (aN (cP hF (eX (l:=[(171,⟨vO F,[0],((1:Nat),(((1:Int)+((bY F q).getD (0:Int)))-(1:Int)).toNat,q,(List.replicate 24 (0:Nat)),r_7)⟩)]) (.cons (aHG F) xN (.nil))) [0,5,7] [30] ?_));simp only[go_sem,bJ F,bK F,bL F];(repeat (refine⟨zAF,?_⟩));refine aP (aN (aN (aR hF [5,7,34] ?_)));simp only[go_sem,bJ F,bK F,bL F];refine aP (dF rfl (fun hc=>?_) (fun hc=>?_))
    ·(try simp only[go_sem,bJ F,bK F,bL F] at hc);have h:=pI zAC h;refine aN (dQ hF [5,7] ?_);simp only[go_sem,bJ F,bK F,bL F];obtain⟨g0,h⟩:=bG h;(try simp only[I64,I32] at g0);obtain⟨g1,h⟩:=bG h;obtain⟨z,h⟩:=bG h;refine aP (aN (cP hF (eX (l:=[]) (.nil)) [4] [38] ?_));simp only[go_sem,bJ F,bK F,bL F];exact zaw
    ·(try simp only[go_sem,bJ F,bK F,bL F] at hc);have h:=oF zAC h;obtain⟨g0,h⟩:=bG h;(try simp only[I64,I32] at g0);obtain⟨g1,h⟩:=bG h;obtain⟨z,h⟩:=bG h;refine eO (aP (aN (cP hF (eX (l:=[]) (.nil)) [4] [42] ?_)));simp only[go_sem,bJ F,bK F,bL F];(repeat (refine⟨zAF,?_⟩));obtain rfl:=Option.some.inj h;refine aP (iW (eL (pM hF [.tmp 4] rfl rfl rfl ?_)))
     (try simp only[nD,aS,go_sem,bJ F,bK F,bL F])<;>first|rfl|(simp; done)
 ·try simp only[go_sem,bJ F,bK F,bL F] at hc
  have h:=oF zAC h;cases h
attribute [go_sem] tV
def yE(F:Md)(f:Int):Option qc :=
 (qB F f (10:Int)).bind (fun v_5=>some v_5)
def aIw:PlR:=⟨[(0,.A [0]),(1,.A [2])],[],[]⟩
def aJ3:Ty:=.pair qg .unit
def aAG(F:Md):aF:=mSpec aJ3 (.one .str) (fun x=>yE F x.1)
abbrev aJ4(F:Md):List (FuncId×aF):=[(123,(tV F))]
theorem aTB[Mx](F:Md):bF Tryz.prog GL (aJ4 F):=.cons (aKt F) xN (.nil)
attribute [go_sem] aJ3 aIw
theorem aRC[Mx](F:Md):FOK Tryz.prog GL 84 (aAG F):=by
 refine bP (bA (aTB F)) mix Tryz.func84 rfl xN xAa aIw (fun w0 S x Θ g h hV=>?_);obtain⟨(f:Int),u⟩:=x;simp only[cA,go_sem];replace h:sat (yE F f) _:=h;unfold yE at h;exact zat
attribute [go_sem] aAG
def qC(F:Md)(f:Int):Option qc :=
 (yE F f).bind (fun v_5=>some v_5)
def aJ5:PlR:=⟨[(0,.A [0]),(1,.A [2])],[],[]⟩
def aLI:Ty:=.pair qg .unit
def aBx(F:Md):aF:=mSpec aLI (.one .str) (fun x=>qC F x.1)
abbrev aLJ(F:Md):List (FuncId×aF):=[(84,(aAG F))]
theorem aV0[Mx](F:Md):bF Tryz.prog GL (aLJ F):=.cons (aRC F) xN (.nil)
attribute [go_sem] aLI aJ5
theorem aTC[Mx](F:Md):FOK Tryz.prog GL 35 (aBx F):=by
 refine bP (bA (aV0 F)) mix Tryz.func35 rfl xN xAa aJ5 (fun w0 S x Θ g h hV=>?_);obtain⟨(f:Int),u⟩:=x;simp only[cA,go_sem];replace h:sat (qC F f) _:=h;unfold qC at h;exact zat
attribute [go_sem] aBx
attribute [-go_sem] Ex.kind Ex.text Ex.l
@[go_sem]def aFz:Ty:=.pair .expr .unit
@[go_sem]def vP(g:Ex→Option qc):aF:=mSpec aFz (.one .str) (fun x=>g x.1)
def iE(F:Md)(g:Ex→Option qc)(q:Ex)(f:Int)(z:Int):Option qc :=
 if (((q.l).length:Nat):Int)≤f then some (aQ ⟨#[]⟩) else ck (0≤f∧f<(((q.l).length:Nat):Int)) (if (((0:Int)≤((q.l).getD (f.toNat) (Ex.mk 0 [] [])).kind)∧(((q.l).getD (f.toNat) (Ex.mk 0 [] [])).kind<(60:Int)))∧((IntKind.i64.wrap ((BitVec.ofInt 64 (Int.fdiv z (2^(((q.l).getD (f.toNat) (Ex.mk 0 [] [])).kind%(18446744073709551616:Int)).toNat))&&&BitVec.ofInt 64 (1:Int)).toNat:Int))=(1:Int)) then (g ((q.l).getD (f.toNat) (Ex.mk 0 [] []))).bind (fun I=>ck ((aQ ⟨#[40]⟩).length+(I.length)≤9223372036854775807) (ck (((aQ ⟨#[40]⟩)++I).length+(aQ ⟨#[41]⟩).length≤9223372036854775807) (some (((aQ ⟨#[40]⟩)++I)++(aQ ⟨#[41]⟩))))) else (g ((q.l).getD (f.toNat) (Ex.mk 0 [] []))).bind (fun v_13=>some v_13))
def aSN:PlR:=⟨[(0,.B [1,2,3]),(1,.A [1,2,3,12]),(2,.A [6]),(3,.B [2,7]),(4,.A [7,34]),(5,.A [6]),(6,.A [6])],[],[]⟩
def aV1:Ty:=.pair .expr w8
def aHf(F:Md)(g:Ex→Option qc):aF:=mSpec aV1 (.one .str) (fun x=>iE F g x.1 x.2.1 x.2.2.1)
abbrev aV2(F:Md)(g:Ex→Option qc):List (FuncId×aF):=[(31,(vP g))]
theorem bDe[Mx](F:Md)(g:Ex→Option qc)(f:FOK Tryz.prog GL 31 (vP g)):bF Tryz.prog GL (aV2 F g):=.cons f xN (.nil)
attribute [go_sem] aV1 aSN
theorem bBJ[Mx](F:Md)(g:Ex→Option qc)(J:FOK Tryz.prog GL 31 (vP g)):FOK Tryz.prog GL 81 (aHf F g):=by
 refine bP (bA (bDe F g J)) mix Tryz.func81 rfl xN xAa aSN (fun w0 S x Θ L h hV=>?_);obtain⟨(z:Ex),(q:Int),(f:Int),u⟩:=x;simp only[cA,go_sem];replace h:sat (iE F g z q f) _:=h;unfold iE at h;refine aYP h (fun hc h=>?_) fun hc h=>?_
 ·exact aG hV [.tmp 6] rfl rfl rfl (aA h) xAc
 ·refine aK h fun g0 h=>?_;refine⟨fun hc=>?_,fun hc=>?_⟩
  ·replace h:=gZ hc h;refine aB h fun I hv h=>?_;(try simp only[hv,go_sem]);refine aK h fun g0 h=>aK h fun g1 h=>?_;exact aG hV [.tmp 6] rfl rfl rfl (aA h) xAc
  ·replace h:=hO hc h;refine aB h fun v_13 hv h=>?_;(try simp only[hv,go_sem]);exact aG hV [.tmp 6] rfl rfl rfl (aA h) xAc
attribute [go_sem] aHf
def dR(F:Md)(g:Ex→Option qc)(f:Ex):Option qc :=
 if (f.kind)=(6:Int) then (iE F g f (0:Int) (0:Int)).bind (fun I=>ck ((I.length)+(aQ ⟨#[32,43,32]⟩).length≤9223372036854775807) ((iE F g f (1:Int) (192:Int)).bind (fun U=>ck ((I++(aQ ⟨#[32,43,32]⟩)).length+(U.length)≤9223372036854775807) (some ((I++(aQ ⟨#[32,43,32]⟩))++U))))) else if (f.kind)=(7:Int) then (iE F g f (0:Int) (0:Int)).bind (fun N=>ck ((N.length)+(aQ ⟨#[32,45,32]⟩).length≤9223372036854775807) ((iE F g f (1:Int) (192:Int)).bind (fun v_57=>ck ((N++(aQ ⟨#[32,45,32]⟩)).length+(v_57.length)≤9223372036854775807) (some ((N++(aQ ⟨#[32,45,32]⟩))++v_57))))) else if (f.kind)=(8:Int) then (iE F g f (0:Int) (192:Int)).bind (fun q=>ck ((q.length)+(aQ ⟨#[32,42,32]⟩).length≤9223372036854775807) ((iE F g f (1:Int) (960:Int)).bind (fun Y=>ck ((q++(aQ ⟨#[32,42,32]⟩)).length+(Y.length)≤9223372036854775807) (some ((q++(aQ ⟨#[32,42,32]⟩))++Y))))) else if (f.kind)=(9:Int) then (iE F g f (0:Int) (192:Int)).bind (fun J=>ck ((J.length)+(aQ ⟨#[32,47,32]⟩).length≤9223372036854775807) ((iE F g f (1:Int) (960:Int)).bind (fun Z=>ck ((J++(aQ ⟨#[32,47,32]⟩)).length+(Z.length)≤9223372036854775807) (some ((J++(aQ ⟨#[32,47,32]⟩))++Z))))) else if (f.kind)=(10:Int) then (iE F g f (0:Int) (960:Int)).bind (fun v_85=>ck ((aQ ⟨#[45]⟩).length+(v_85.length)≤9223372036854775807) (some ((aQ ⟨#[45]⟩)++v_85))) else if (f.kind)=(11:Int) then (iE F g f (0:Int) (0:Int)).bind (fun z=>ck ((aQ ⟨#[115,113,114,40]⟩).length+(z.length)≤9223372036854775807) (ck (((aQ ⟨#[115,113,114,40]⟩)++z).length+(aQ ⟨#[41]⟩).length≤9223372036854775807) (some (((aQ ⟨#[115,113,114,40]⟩)++z)++(aQ ⟨#[41]⟩))))) else if (f.kind)=(12:Int) then (iE F g f (0:Int) (0:Int)).bind (fun O=>ck ((aQ ⟨#[115,113,114,116,40]⟩).length+(O.length)≤9223372036854775807) (ck (((aQ ⟨#[115,113,114,116,40]⟩)++O).length+(aQ ⟨#[41]⟩).length≤9223372036854775807) (some (((aQ ⟨#[115,113,114,116,40]⟩)++O)++(aQ ⟨#[41]⟩))))) else if (f.kind)=(13:Int) then (iE F g f (0:Int) (0:Int)).bind (fun L=>ck ((aQ ⟨#[101,120,112,40]⟩).length+(L.length)≤9223372036854775807) (ck (((aQ ⟨#[101,120,112,40]⟩)++L).length+(aQ ⟨#[41]⟩).length≤9223372036854775807) (some (((aQ ⟨#[101,120,112,40]⟩)++L)++(aQ ⟨#[41]⟩))))) else some (f.text)
def aNk:PlR:=⟨[(0,.B [1]),(1,.A [1,4]),(2,.A [1,4,5]),(3,.A [2]),(4,.A [1,4,13]),(5,.A [2]),(6,.A [1,4,21]),(7,.A [2]),(8,.A [1,4,29]),(9,.A [2]),(10,.A [1,4,37]),(11,.A [2]),(12,.A [1,4,42]),(13,.A [2]),(14,.A [1,4,48]),(15,.A [2]),(16,.A [1,54]),(17,.A [2]),(18,.A [2])],[],[]⟩
abbrev aPX(F:Md)(g:Ex→Option qc):List (FuncId×aF):=[(81,(aHf F g))]
theorem aZG[Mx](F:Md)(g:Ex→Option qc)(f:FOK Tryz.prog GL 31 (vP g)):bF Tryz.prog GL (aPX F g):=.cons (bBJ F g f) xN (.nil)
attribute [go_sem] aNk
theorem aV3[Mx](F:Md)(g:Ex→Option qc)(hg:FOK Tryz.prog GL 31 (vP g)):FOK Tryz.prog GL 31 (mSpec aFz (.one .str) (fun x=>dR F g x.1)):=by
 refine bP (bA (aZG F g hg)) mix Tryz.func31 rfl xN xAa aNk (fun w0 S x Θ hw h hV=>?_);obtain⟨(f:Ex),u⟩:=x;simp only[cA,go_sem];replace h:sat (dR F g f) _:=h;unfold dR at h;refine cH h (fun hc h=>?_) fun hc h=>?_
 ·refine aB h fun J hv h=>?_;try simp only[hv,go_sem]
  refine aK h fun g0 h=>?_;refine aB h fun L hv h=>?_;exact zai
 ·refine cH h (fun hc h=>?_) fun hc h=>?_
  ·refine aB h fun U hv h=>?_;(try simp only[hv,go_sem]);refine aK h fun g0 h=>?_;refine aB h fun Z hv h=>?_;exact zai
  ·refine cH h (fun hc h=>?_) fun hc h=>?_
   ·refine aB h fun q hv h=>?_;(try simp only[hv,go_sem]);refine aK h fun g0 h=>?_;refine aB h fun O hv h=>?_;exact zai
   ·refine cH h (fun hc h=>?_) fun hc h=>?_
    ·refine aB h fun I hv h=>?_;(try simp only[hv,go_sem]);refine aK h fun g0 h=>?_;refine aB h fun Y hv h=>?_;exact zai
    ·refine cH h (fun hc h=>?_) fun hc h=>?_
     ·refine aB h fun v_85 hv h=>?_;exact zai
     ·refine cH h (fun hc h=>?_) fun hc h=>?_
      ·refine aB h fun z hv h=>?_;(try simp only[hv,go_sem]);refine aK h fun g0 h=>aK h fun g1 h=>?_;exact zaF
      ·refine cH h (fun hc h=>?_) fun hc h=>?_
       ·refine aB h fun v_93 hv h=>?_;(try simp only[hv,go_sem]);refine aK h fun g0 h=>aK h fun g1 h=>?_;exact zaF
       ·refine cH h (fun hc h=>?_) fun hc h=>?_
        ·refine aB h fun N hv h=>?_;(try simp only[hv,go_sem]);refine aK h fun g0 h=>aK h fun g1 h=>?_;exact zaF
        ·exact aG hV [.tmp 2] rfl rfl rfl (aA h) xAc
def fZ(F:Md):Nat→Ex→Option qc
 | 0=>fun _=>none
 | n+1=>dR F (fZ F n)
def yO(F:Md)(n:Nat):aF:=mSpec aFz (.one .str) (fun x=>fZ F n x.1)
theorem aHM[Mx](F:Md):∀n,FOK Tryz.prog GL 31 (yO F n)
 | 0=>fun _ _ _ _ _ _ _ hp=>Bool.noConfusion (show false=true from hp)
 | n+1=>aV3 F _ (aHM F n)
attribute [go_sem] yO
def xJ(F:Md)(f:qn):Option qc :=
 if f.2.1=(aQ ⟨#[]⟩) then some f.1 else ck ((f.1.length)+(aQ ⟨#[32]⟩).length≤9223372036854775807) (ck ((f.1++(aQ ⟨#[32]⟩)).length+(f.2.1.length)≤9223372036854775807) (some ((f.1++(aQ ⟨#[32]⟩))++f.2.1)))
def aNl:PlR:=⟨[(0,.B [1]),(1,.A [1,5]),(2,.A [2]),(3,.A [2])],[],[]⟩
def aPY:Ty:=.pair qj .unit
def aD0(F:Md):aF:=mSpec aPY (.one .str) (fun x=>xJ F x.1)
abbrev aZH(F:Md):List (FuncId×aF):=[]
theorem aZI[Mx](F:Md):bF Tryz.prog GL (aZH F):=.nil
attribute [go_sem] aPY aNl
theorem aXl[Mx](F:Md):FOK Tryz.prog GL 36 (aD0 F):=by
 refine bP (bA (aZI F)) mix Tryz.func36 rfl xN xAa aNl (fun w0 S x Θ g h hV=>?_);obtain⟨(f:qn),u⟩:=x;simp only[cA,go_sem];replace h:sat (xJ F f) _:=h;unfold xJ at h;refine cH h (fun hc h=>?_) fun hc h=>?_
 ·exact aG hV [.tmp 2] rfl rfl rfl (aA h) xAc
 ·refine aK h fun g0 h=>aK h fun g1 h=>?_;exact zaF
attribute [go_sem] aD0
end
end Nu
end Go.Proofs
namespace Go.Proofs
open Go.Shelf
def Tryz.lays156_ren:Go.Shelf.Ren:=⟨fun|156=>34|165=>83|166=>33|169=>37|240=>82|241=>122|276=>121|277=>168|n=>n,fun|31=>22|9=>9|3=>3|4=>4|0=>0|20=>20|72=>81|76=>84|70=>78|37=>79|75=>83|127=>146|164=>180|5=>5|80=>54|n=>n,fun|n=>n⟩
theorem Tryz.lays156:Go.Proofs.Lays.n156 Tryz.prog Tryz.lays156_ren:={
 mixed:=by kernel_rfl
 f156:=Tryz.func34.trans (congrArg some (by kernel_rfl))
 f165:=Tryz.func83.trans (congrArg some (by kernel_rfl))
 f166:=Tryz.func33.trans (congrArg some (by kernel_rfl))
 f169:=Tryz.func37.trans (congrArg some (by kernel_rfl))
 f240:=Tryz.func82.trans (congrArg some (by kernel_rfl))
 f241:=Tryz.func122.trans (congrArg some (by kernel_rfl))
 f276:=Tryz.func121.trans (congrArg some (by kernel_rfl))
 f277:=Tryz.func168.trans (congrArg some (by kernel_rfl))
 t0:=Tryz.underlying0
 a0:=Tryz.isAgg0
 z0:=Tryz.sizeOf0
 v0:=Tryz.zeroValue0
 t3:=Tryz.underlying3
 a3:=Tryz.isAgg3
 z3:=Tryz.sizeOf3
 v3:=Tryz.zeroValue3
 t4:=Tryz.underlying4
 a4:=Tryz.isAgg4
 z4:=Tryz.sizeOf4
 v4:=Tryz.zeroValue4
 t9:=Tryz.underlying9
 a9:=Tryz.isAgg9
 z9:=Tryz.sizeOf9
 v9:=Tryz.zeroValue9
 t20:=Tryz.underlying20
 a20:=Tryz.isAgg20
 z20:=Tryz.sizeOf20
 v20:=Tryz.zeroValue20
 t31:=Tryz.underlying22
 a31:=Tryz.isAgg22
 z31:=Tryz.sizeOf22
 v31:=Tryz.zeroValue22
 t37:=Tryz.underlying79
 a37:=Tryz.isAgg79
 z37:=Tryz.sizeOf79
 v37:=Tryz.zeroValue79
 t70:=Tryz.underlying78
 a70:=Tryz.isAgg78
 z70:=Tryz.sizeOf78
 v70:=Tryz.zeroValue78
 t72:=Tryz.underlying81
 a72:=Tryz.isAgg81
 z72:=Tryz.sizeOf81
 v72:=Tryz.zeroValue81
 t75:=Tryz.underlying83
 a75:=Tryz.isAgg83
 z75:=Tryz.sizeOf83
 v75:=Tryz.zeroValue83
 t76:=Tryz.underlying84
 a76:=Tryz.isAgg84
 z76:=Tryz.sizeOf84
 v76:=Tryz.zeroValue84
 t127:=Tryz.underlying146
 a127:=Tryz.isAgg146
 z127:=Tryz.sizeOf146
 v127:=Tryz.zeroValue146
 t164:=Tryz.underlying180
 a164:=Tryz.isAgg180
 z164:=Tryz.sizeOf180
 v164:=Tryz.zeroValue180 }
theorem Tryz.bx156:Builder.Extra Tryz.prog Tryz.lays156_ren where
 sizeBuilder:=by kernel_rfl
 liesBuilder:=by kernel_rfl
 t5:=Tryz.underlying5
 a5:=Tryz.isAgg5
 z5:=Tryz.sizeOf5
 v5:=Tryz.zeroValue5
 infoByte:=by kernel_rfl
 cellsByte:=by kernel_rfl
 sizeByte:=by kernel_rfl
 neB5:=by decide
open Go.Vc
set_option maxRecDepth 20000
namespace Nu
noncomputable section
def mZ(F:Md)(o:Bool×List Nat):Option (Bool×List Nat):=some (false,o.2)
@[go_sem]def rF(F:Md):fQ where
 D:=wt×wt
 av:=fun d=>[.ptr 0 []]
 hp:=fun d=>[.box 4294967377 (.agg [pk d.1.1 0,.own 1]),.row 5 wm d.1.2]
 m:=1
 pre:=fun d=>mZ F d.1=some d.2
 out:=fun d=>(fun r:wt=>.ret (.tup []) [.box 4294967377 (.agg [pk (r).1 0,.own 1]),.row 5 wm (r).2]) d.2
@[go_sem]def yF(F:Md)(vs:List AV)(h:List Vc.Obj):Hit:=mkH (mZ F (aOW h (fY vs 0))) (false,([]:List Nat)) fun r=>⟨(rF F),[(fY vs 0),(bFx h (fY vs 0) 1)],((aOW h (fY vs 0)),r)⟩
def vQ(F:Md)(o:Bool×List Nat):Option qc:=some o.2
@[go_sem]def oM(F:Md):fQ where
 D:=wt×qc
 av:=fun d=>[.ptr 0 []]
 hp:=fun d=>[.box 4294967377 (.agg [pk d.1.1 0,.own 1]),.row 5 wm d.1.2]
 m:=1
 pre:=fun d=>vQ F d.1=some d.2
 out:=fun d=>(fun r:qc=>.ret (.val .str r) [.dead]) d.2
@[go_sem]def aAW(F:Md)(vs:List AV)(h:List Vc.Obj):Hit:=mkH (vQ F (aOW h (fY vs 0))) ([]:List Nat) fun r=>⟨(oM F),[(fY vs 0),(bFx h (fY vs 0) 1)],((aOW h (fY vs 0)),r)⟩
theorem bBK{b:Nat}{c:Ctx}{w:World}{vs:Array Value}(g:vs.toList.length=1)(hb:c.hd 0= .pointer (some ⟨b,0,none⟩))(hv:∀(I:0<vs.toList.length),aY c w (.ptr 0 []) vs.toList[0]):vs= #[.pointer (some ⟨b,0,none⟩)]:=by
 obtain⟨_,z,f,e⟩:=aGR (hv (by omega));rw[hb] at f;simp only[aU,Option.some.injEq] at f;subst f;rw[← Array.toList_inj];refine List.ext_getElem g fun i J q=>?_
 match i,q with
 | 0,_=>exact e
theorem aEV[Mx](F:Md):GOK Tryz.prog GL 82 (rF F):=by
 rintro c w ⟨⟨b,N⟩,r⟩ U g ⟨good,glob,len,val⟩;obtain rfl:(false,N)=r:=Option.some.inj g;obtain⟨B,J,q,Y⟩:=aU5 good (i:=0) (j:=1) (tb:=81) rfl rfl;have z:=bBK len J (fun O=>val 0 (by show 0<1; decide) O);rw[z];have L:aY c w (.tup []) (.tuple #[]):=⟨[],rfl,rfl,fun i I _=>by cases I⟩;cases b with
 | true =>
  refine Calls.mono (f:=82) (Any.Builder_copyCheck_fresh { Tryz.lays156 with } Tryz.bx156.toX72 B w (by rw[Lib.cell_of_heap q]; rfl) (by simp[World.shape?,q]; rfl) (Lib.frozen_of_heap q 0)) ?_;rintro e w' ⟨rfl,rfl⟩;exact⟨c,.tuple #[],rfl,bHj good (i:=0) (j:=1) (tb:=81) rfl rfl J,⟨[],rfl,rfl,fun i I _=>by cases I⟩⟩
 | false =>
  refine Calls.mono (f:=82) (Any.Builder_copyCheck_used { Tryz.lays156 with } Tryz.bx156.toX72 B w (by rw[Lib.cell_of_heap q]; rfl)) ?_;rintro e w' ⟨rfl,rfl⟩;exact⟨c,.tuple #[],rfl,good,L⟩
theorem aGK[Mx](F:Md):GOK Tryz.prog GL 37 (oM F):=by
 rintro c w ⟨⟨b,Y⟩,r⟩ vs N ⟨good,glob,len,val⟩;obtain rfl:Y=r:=Option.some.inj N;obtain⟨B,q1,L,q3⟩:=aU5 good (i:=0) (j:=1) (tb:=81) rfl rfl;have hvs:=bBK len q1 (fun h2=>val 0 (by show 0<1; decide) h2);rw[hvs];obtain⟨l,hx,hl⟩:=bFw q3;have hlm:l.length≤maxLen:=by
  rcases hl with⟨_,rfl⟩|⟨g,I,J,_,_,h1,h2,_⟩
  ·exact Nat.zero_le _
  ·exact Nat.le_trans h1 h2
 have z:∀(g:Option Nat) (w':World),(∀b',g=some b'→aU (c.hd 1)=some b')→w.grownBy w' g→aNI (oM F) c w ((b,Y),Y) (.returned (.string ⟨l.toArray⟩)) w':=fun g w' U q=>by
  refine⟨⟨c.S,c.hd,1,c.bl⟩,.string ⟨l.toArray⟩,rfl,bHk good (i:=0) (j:=1) rfl rfl rfl q U,?_,(fun h=>by cases h),fun _ cs=>by simp⟩;show bB w' c.S .str Y [.string ⟨l.toArray⟩];exact⟨_,rfl,(by simp only[aQ]; exact hx.symm),hlm⟩
 rcases hl with⟨e1,rfl⟩|⟨g,I,J,e1,U,hnc,hcm,Z,hcell⟩
 ·rw[e1] at L;refine Calls.mono (f:=37) (bCK { Tryz.lays156 with } Tryz.bx156 B _ w L) ?_;rintro e w' ⟨rfl,q⟩;exact z _ _ (fun _ h=>by cases h) q
 ·rw[e1] at L;by_cases h0:l= []
  ·subst h0;by_cases O:I=0
   ·subst O;refine Calls.mono (f:=37) (aWF { Tryz.lays156 with } Tryz.bx156 B g _ J w L U) ?_;rintro e w' ⟨rfl,q⟩;exact z _ _ (fun _ h=>by cases h) q
   ·refine Calls.mono (f:=37) (bAT { Tryz.lays156 with } Tryz.bx156 B g I _ w O L) ?_;rintro e w' ⟨rfl,q⟩;exact z _ _ (fun _ h=>by cases h) q
  ·refine Calls.mono (f:=37) (bAS { Tryz.lays156 with } Tryz.bx156 B g I _ J l w h0 L U hnc hcm Z hcell) ?_;rintro e w' ⟨rfl,q⟩;exact z _ _ (fun b' h=>by cases h; rw[e1]; rfl) q
def aGi(xs:List qc)(sep:List Nat):List Nat:=sep.intercalate xs
def bEy(xs:List qc)(sep:List Nat):Prop:=xs.length≤140737488355328∧(aGi xs sep).length≤140737488355328
instance (xs:List qc) (sep:List Nat):Decidable (bEy xs sep):=by unfold bEy; infer_instance
theorem aX8{s:ByteArray}{x:List Nat}(h:aQ s=x):s.data.toList=x.map UInt8.ofNat:=by
 subst h;simp[aQ,List.map_map,Function.comp_def]
theorem bBL{α β:Type}(f:α→β)(sep:List α):∀xs:List (List α),(sep.intercalate xs).map f=(sep.map f).intercalate (xs.map (List.map f))
 | []=>rfl
 | [x]=>by simp[List.intercalate]
 | x::y::r=>by
  have:=bBL f sep (y::r);simp only[List.intercalate,List.intersperse,List.flatten_cons,List.map_append,List.map_cons] at this ⊢;rw[this]
@[go_sem]def aLK:Ty:=.pair wo wq
@[go_sem]def aBy:aF:=⟨aLK,.one .str,fun x=>bEy x.1 x.2.1,fun x=>aGi x.1 x.2.1⟩
theorem aTE[Mx]:FOK Tryz.prog GL 34 aBy:=by
 rintro w S vs ⟨g,sep,u⟩ hS hG ⟨v,vs',e1,U,v2,vs2,e2,h2,e3⟩ ⟨p1,p2⟩;have U:bB w S wo g [v]:=U;obtain⟨a,len,I,ev,hl,hlc,hcm,Y⟩:=U;have h2:bB w S .str sep [v2]:=h2;obtain⟨s,es,hs,hsz⟩:=h2;have hl:g.length=len:=hl;have e3:vs2= []:=e3;have hvs:vs= #[.slice a len I,.string s]:=by
  rw[← Array.toList_inj,e1,e2,e3,(List.cons.inj ev).1,(List.cons.inj es).1]
 rw[hvs];have z:∀(t:List UInt8) (w':World),t.map (·.toNat)=aGi g sep→dV w' (fun b=>S b∨(w.heap.size≤b∧b<w'.heap.size)) .str (aGi g sep) (.string ⟨t.toArray⟩):=fun t w' ht=>by
  show bB w' (fun b=>S b∨(w.heap.size≤b∧b<w'.heap.size)) .str (aGi g sep) [.string ⟨t.toArray⟩];refine⟨_,rfl,by simp[aQ,ht],?_⟩;have:t.length=(aGi g sep).length:=by rw[← ht,List.length_map]
  have hp:(aGi g sep).length≤140737488355328:=p2;show t.length≤maxLen;unfold maxLen;omega
 rcases Y with Y|⟨b,off,ea,hb,hc⟩
 ·have Y:g= []:=Y;subst Y;have hl0:len=0:=hl.symm;subst hl0;refine Calls.mono (f:=34) (Any.strings_Join_none Tryz.lays156 Tryz.bx156 a I s w) ?_;rintro e w' ⟨rfl,rfl⟩;exact⟨.string ⟨#[]⟩,rfl,.refl _ _,z [] w' rfl⟩
 ·have ex:g=(g.map (fun l=>(⟨(l.map UInt8.ofNat).toArray⟩:ByteArray))).map aQ:=by
   rw[List.map_map];apply List.ext_getElem
   ·simp
   ·intro i U h2;obtain⟨ds,hd,_⟩:=hc i U;obtain⟨s',_,q,_⟩:=hd;have hb:=aX8 q;simp only[List.getElem_map,Function.comp];show g[i]=List.map _ ((g[i]).map UInt8.ofNat);rw[← hb]; exact q.symm
  subst ea;have hcells:∀(j:Nat) x,(g.map (fun l=>(⟨(l.map UInt8.ofNat).toArray⟩:ByteArray)))[j]? = some x→w.cell? ⟨b,off+j,none⟩=some (.string x):=fun j x L=>by
   have N:j<g.length:=by
    rcases Nat.lt_or_ge j g.length with h|h
    ·exact h
    ·rw[List.getElem?_eq_none (by simpa using h)] at L; cases L
   obtain⟨ds,hd,hcell⟩:=hc j N;obtain⟨s',J,q,_⟩:=hd;have J:ds= [.string s']:=J;have:=hcell 0 (.string s') (by rw[J]; rfl);rw[List.getElem?_map,List.getElem?_eq_getElem N] at L;have L:(⟨((g[j]).map UInt8.ofNat).toArray⟩:ByteArray)=x:=Option.some.inj L;rw[← L,← aX8 q]
   simpa [Ty.cells] using this
  have hsd:s.data.toList.map (·.toNat)=sep:=hs;have N:(Lib.join ((g.map (fun l=>(⟨(l.map UInt8.ofNat).toArray⟩:ByteArray))).map (·.data.toList)) s.data.toList).map (·.toNat)=aGi g sep:=by
   unfold Lib.join aGi;rw[bBL,hsd]
   congr 1
   conv=>rhs; rw[ex]
   simp only[List.map_map];rfl
  have O:=Any.strings_Join Tryz.lays156 Tryz.bx156 b off I (g.map (fun l=>(⟨(l.map UInt8.ofNat).toArray⟩:ByteArray))) s w hcells (hS b hb) (by rw[List.length_map]; exact p1) (by rw[List.length_map,hl]; exact hlc) (by
   have:=congrArg List.length N;rw[List.length_map] at this;rw[this]; exact p2)
  rw[List.length_map,hl] at O;refine Calls.mono (f:=34) O ?_;rintro e w' ⟨rfl,Z⟩;exact⟨_,rfl,jB.of_below Z,z _ w' N⟩
set_option maxHeartbeats 4000000
attribute [-go_sem] Ex.kind Ex.text Ex.l
def gC(F:Md)(g:qc)(f:wt):Option (w5×wt) :=
 (mZ F (f.1,f.2)).bind (fun q=>ck (((q.2.length)+(g.length))*1≤140737488355328) (some (((g.length:Int),(),()),q.1,(q.2++g))))
def pE(F:Md):fQ where
 D:=qc×wt×(w5×wt)
 av:=fun d=>[.ptr 0 [],.val .str d.1]
 hp:=fun d=>[.box 4294967377 (.agg [pk d.2.1.1 0,.own 1]),.row 5 wm d.2.1.2]
 m:=1
 pre:=fun d=>gC F d.1 d.2.1=some d.2.2
 out:=fun d=>(fun r:(w5×wt)=>.ret (.tup [.val qg r.1.1,.val .nili r.1.2.1]) [.box 4294967377 (.agg [pk r.2.1 0,.own 1]),.row 5 wm r.2.2]) d.2.2
@[go_sem]def wL(F:Md)(vs:List AV)(h:List Vc.Obj):Hit:=mkH (gC F (qV h vs 1 .str) (aOW h (fY vs 0))) (((0:Int),(),()),false,([]:List Nat)) fun r=>⟨(pE F),[(fY vs 0),(bFx h (fY vs 0) 1)],((qV h vs 1 .str),(aOW h (fY vs 0)),r)⟩
def wM(F:Md):PlR:=⟨[(0,.A [0,1]),(1,.P [0,1] []),(2,.B [1]),(3,.A [4,5])],[],[(82,yF F)]⟩
abbrev aEt(F:Md):List (FuncId×aF):=[]
theorem aEu[Mx](F:Md):bF Tryz.prog GL (aEt F):=.nil
attribute [go_sem] wM pE
theorem aDC[Mx](F:Md):GOK Tryz.prog GL 33 (pE F):=by
 refine kG (bA (aEu F)) mix Tryz.func33 rfl xN (fun _=>Nat.le_of_ble_eq_true rfl) (wM F) (fun I w0 d J q h hV=>?_) (.cons (fun _ _=>(aEV F)) xN (.nil));obtain⟨(g:qc),(f:wt),r⟩:=d;have hF:=hV.fr;replace h:=kH (show gC F g f=some r from h);simp only[vH,List.map_cons,List.map_nil,go_sem];unfold gC at h;refine aB h fun z hv h=>?_;simp only[hv,go_sem];repeat (refine⟨zAB,?_⟩)
 refine aD h fun g0 h=>(yaC ?_);obtain rfl:=aO h;refine gK [0,3] rfl rfl (yaB ?_);refine dX hF [.tmp 4,.tmp 5] rfl rfl rfl rfl rfl rfl ?_;exact zaC
def cY(F:Md)(words_0:q8)(f:wt):Option wt :=
 ck (bEy words_0 (aQ ⟨#[32]⟩)) (ck ((aGi words_0 (aQ ⟨#[32]⟩)).length+(aQ ⟨#[10]⟩).length≤9223372036854775807) ((gC F ((aGi words_0 (aQ ⟨#[32]⟩))++(aQ ⟨#[10]⟩)) (f.1,f.2)).bind (fun g=>some (g.2.1,g.2.2))))
def aDD(F:Md):fQ where
 D:=q8×wt×wt
 av:=fun d=>[.val wo d.1,.ptr 0 []]
 hp:=fun d=>[.box 4294967377 (.agg [pk d.2.1.1 0,.own 1]),.row 5 wm d.2.1.2]
 m:=1
 pre:=fun d=>cY F d.1 d.2.1=some d.2.2
 out:=fun d=>(fun r:wt=>.ret (.tup []) [.box 4294967377 (.agg [pk (r).1 0,.own 1]),.row 5 wm (r).2]) d.2.2
@[go_sem]def aIx(F:Md)(vs:List AV)(h:List Vc.Obj):Hit:=mkH (cY F (qV h vs 0 wo) (aOW h (fY vs 1))) (false,([]:List Nat)) fun r=>⟨(aDD F),[(fY vs 1),(bFx h (fY vs 1) 1)],((qV h vs 0 wo),(aOW h (fY vs 1)),r)⟩
def aIy(F:Md):PlR:=⟨[(0,.P [] [])],[],[(33,wL F)]⟩
abbrev aJ6(F:Md):List (FuncId×aF):=[(34,aBy)]
theorem aTF[Mx](F:Md):bF Tryz.prog GL (aJ6 F):=.cons aTE xN (.nil)
attribute [go_sem] aIy aDD
theorem aRD[Mx](F:Md):GOK Tryz.prog GL 32 (aDD F):=by
 refine kG (bA (aTF F)) mix Tryz.func32 rfl xN (fun _=>Nat.le_of_ble_eq_true rfl) (aIy F) (fun z w0 d I g h hV=>?_) (.cons (fun _ _=>(aDC F)) xN (.nil));obtain⟨(words_0:q8),(f:wt),r⟩:=d;have hF:=hV.fr;replace h:=kH (show cY F words_0 f=some r from h);simp only[vH,List.map_cons,List.map_nil,go_sem];unfold cY at h;refine aK h fun g0 h=>?_;refine aK h fun g0 h=>?_;refine aB h fun q hv h=>?_;simp only[hv,go_sem];repeat (refine⟨zAB,?_⟩)
 obtain rfl:=aO h;refine iG (gK [0,2] rfl rfl (yaB ?_));exact zaa
def nU(F:Md)(g:qf)(f:Int)(z:Bool)(q:qc):Option (w7⊕wt) :=
 if f<(g.2.2.2.2.2.2.2.2.2.1.length:Int) then ck (0≤f∧f<(g.2.2.2.2.2.2.2.2.2.1.length:Int)) (ck ((g.2.2.2.2.2.2.2.2.2.1.getD (f.toNat) ([],[],[],[],())).1.length+(aQ ⟨#[46]⟩).length≤9223372036854775807) (ck (((g.2.2.2.2.2.2.2.2.2.1.getD (f.toNat) ([],[],[],[],())).1++(aQ ⟨#[46]⟩)).length+(g.2.2.2.2.2.2.2.2.2.1.getD (f.toNat) ([],[],[],[],())).2.1.length≤9223372036854775807) (ck ((g.2.2.2.2.2.2.2.2.2.1.getD (f.toNat) ([],[],[],[],())).2.2.1.length+(aQ ⟨#[46]⟩).length≤9223372036854775807) (ck (((g.2.2.2.2.2.2.2.2.2.1.getD (f.toNat) ([],[],[],[],())).2.2.1++(aQ ⟨#[46]⟩)).length+(g.2.2.2.2.2.2.2.2.2.1.getD (f.toNat) ([],[],[],[],())).2.2.2.1.length≤9223372036854775807) ((cY F ([(aQ ⟨#[108,105,110,107]⟩),(((g.2.2.2.2.2.2.2.2.2.1.getD (f.toNat) ([],[],[],[],())).1++(aQ ⟨#[46]⟩))++(g.2.2.2.2.2.2.2.2.2.1.getD (f.toNat) ([],[],[],[],())).2.1),(aQ ⟨#[61]⟩),(((g.2.2.2.2.2.2.2.2.2.1.getD (f.toNat) ([],[],[],[],())).2.2.1++(aQ ⟨#[46]⟩))++(g.2.2.2.2.2.2.2.2.2.1.getD (f.toNat) ([],[],[],[],())).2.2.2.1)]:List qc) (z,q)).bind (fun I=>ck (I64 (f+(1:Int))) (some (.inl ((f+(1:Int)),I.1,I.2))))))))) else some (.inr (z,q))
def sS(F:Md)(z:qf)(q:Bool)(g:qc):Option (qc×qp) :=
 (dK F (fun d:Int×Bool×qc=>nU F z d.1 d.2.1 d.2.2) ((0:Int),q,g)).bind (fun e=>(vQ F (e.1,e.2)).bind (fun f=>some (f,(0:Int),())))
def nV(F:Md)(J:qf)(g:Int)(f:Int)(q:Bool)(z:qc):Option (w7⊕wt) :=
 if f<(((J.2.2.2.2.2.2.2.2.1.getD (g.toNat) ([],[],[],[],[],())).2.2.2.2.1.length:Nat):Int) then ck (0≤f∧f<(((J.2.2.2.2.2.2.2.2.1.getD (g.toNat) ([],[],[],[],[],())).2.2.2.2.1.length:Nat):Int)) ((fZ F 64 ((J.2.2.2.2.2.2.2.2.1.getD (g.toNat) ([],[],[],[],[],())).2.2.2.2.1.getD (f.toNat) ([],(Ex.mk 0 [] []),())).2.1).bind (fun L=>(cY F ([(aQ ⟨#[111,117,116]⟩),((J.2.2.2.2.2.2.2.2.1.getD (g.toNat) ([],[],[],[],[],())).2.2.2.2.1.getD (f.toNat) ([],(Ex.mk 0 [] []),())).1,(aQ ⟨#[61]⟩),L]:List qc) (q,z)).bind (fun I=>ck (I64 (f+(1:Int))) (some (.inl ((f+(1:Int)),I.1,I.2)))))) else some (.inr (q,z))
def sT(F:Md)(z:qf)(f:Int)(q:Bool)(g:qc):Option (w7⊕wt) :=
 (dK F (fun d:Int×Bool×qc=>nV F z f d.1 d.2.1 d.2.2) ((0:Int),q,g)).bind (fun e=>ck (I64 (f+(1:Int))) (some (.inl ((f+(1:Int)),e.1,e.2))))
def nW(F:Md)(J:qf)(g:Int)(f:Int)(I:Bool)(z:qc):Option (w7⊕wt) :=
 if f<(((J.2.2.2.2.2.2.2.2.1.getD (g.toNat) ([],[],[],[],[],())).2.2.2.1.length:Nat):Int) then ck (0≤f∧f<(((J.2.2.2.2.2.2.2.2.1.getD (g.toNat) ([],[],[],[],[],())).2.2.2.1.length:Nat):Int)) ((cY F ([(aQ ⟨#[105,110]⟩),((J.2.2.2.2.2.2.2.2.1.getD (g.toNat) ([],[],[],[],[],())).2.2.2.1.getD (f.toNat) ([]:List Nat))]:List qc) (I,z)).bind (fun q=>ck (I64 (f+(1:Int))) (some (.inl ((f+(1:Int)),q.1,q.2))))) else some (.inr (I,z))
def sU(F:Md)(z:qf)(f:Int)(g:Bool)(q:qc):Option (w7⊕wt) :=
 (dK F (fun d:Int×Bool×qc=>nW F z f d.1 d.2.1 d.2.2) ((0:Int),g,q)).bind (fun e=>sT F z f e.1 e.2)
def nX(F:Md)(J:qf)(g:Int)(f:Int)(q:Bool)(I:qc):Option (w7⊕wt) :=
 if f<(((J.2.2.2.2.2.2.2.2.1.getD (g.toNat) ([],[],[],[],[],())).2.2.1.length:Nat):Int) then ck (0≤f∧f<(((J.2.2.2.2.2.2.2.2.1.getD (g.toNat) ([],[],[],[],[],())).2.2.1.length:Nat):Int)) ((xJ F ((J.2.2.2.2.2.2.2.2.1.getD (g.toNat) ([],[],[],[],[],())).2.2.1.getD (f.toNat) ([],([],[],()),())).2.1).bind (fun L=>(cY F ([(aQ ⟨#[112,97,114]⟩),((J.2.2.2.2.2.2.2.2.1.getD (g.toNat) ([],[],[],[],[],())).2.2.1.getD (f.toNat) ([],([],[],()),())).1,(aQ ⟨#[61]⟩),L]:List qc) (q,I)).bind (fun z=>ck (I64 (f+(1:Int))) (some (.inl ((f+(1:Int)),z.1,z.2)))))) else some (.inr (q,I))
def sV(F:Md)(z:qf)(f:Int)(g:Bool)(q:qc):Option (w7⊕wt) :=
 (dK F (fun d:Int×Bool×qc=>nX F z f d.1 d.2.1 d.2.2) ((0:Int),g,q)).bind (fun e=>sU F z f e.1 e.2)
def nY(F:Md)(I:qf)(g:Int)(f:Int)(J:Bool)(q:qc):Option (w7⊕wt) :=
 if f<(((I.2.2.2.2.2.2.2.2.1.getD (g.toNat) ([],[],[],[],[],())).2.1.length:Nat):Int) then ck (0≤f∧f<(((I.2.2.2.2.2.2.2.2.1.getD (g.toNat) ([],[],[],[],[],())).2.1.length:Nat):Int)) ((xJ F ((I.2.2.2.2.2.2.2.2.1.getD (g.toNat) ([],[],[],[],[],())).2.1.getD (f.toNat) ([],([],[],()),(Ex.mk 0 [] []),())).2.1).bind (fun N=>(fZ F 64 ((I.2.2.2.2.2.2.2.2.1.getD (g.toNat) ([],[],[],[],[],())).2.1.getD (f.toNat) ([],([],[],()),(Ex.mk 0 [] []),())).2.2.1).bind (fun L=>(cY F ([(aQ ⟨#[115,116,97,116,101]⟩),((I.2.2.2.2.2.2.2.2.1.getD (g.toNat) ([],[],[],[],[],())).2.1.getD (f.toNat) ([],([],[],()),(Ex.mk 0 [] []),())).1,(aQ ⟨#[61]⟩),N,(aQ ⟨#[100,101,114]⟩),L]:List qc) (J,q)).bind (fun z=>ck (I64 (f+(1:Int))) (some (.inl ((f+(1:Int)),z.1,z.2))))))) else some (.inr (J,q))
def qR(F:Md)(I:qf)(f:Int)(q:Bool)(z:qc):Option (w7⊕wt) :=
 if f<(I.2.2.2.2.2.2.2.2.1.length:Int) then ck (0≤f∧f<(I.2.2.2.2.2.2.2.2.1.length:Int)) ((cY F ([(aQ ⟨#[115,117,98]⟩),(I.2.2.2.2.2.2.2.2.1.getD (f.toNat) ([],[],[],[],[],())).1]:List qc) (q,z)).bind (fun g=>(dK F (fun d:Int×Bool×qc=>nY F I f d.1 d.2.1 d.2.2) ((0:Int),g.1,g.2)).bind (fun e=>sV F I f e.1 e.2))) else some (.inr (q,z))
def pF(F:Md)(f:qf)(g:qc):Option (qc×qp) :=
 (qC F f.1).bind (fun v_13=>(cY F ([(aQ ⟨#[112,114,101,99]⟩),v_13]:List qc) (true,([]:List Nat))).bind (fun O=>(cY F ([(aQ ⟨#[101,110,100]⟩),f.2.2.2.2.1]:List qc) (O.1,O.2)).bind (fun q=>(cY F ([(aQ ⟨#[115,116,101,112]⟩),f.2.2.2.2.2.1,f.2.2.2.2.2.2.1]:List qc) (q.1,q.2)).bind (fun N=>(cY F ([(aQ ⟨#[116,111,108]⟩),f.2.2.2.2.2.2.2.1]:List qc) (N.1,N.2)).bind (fun L=>(qC F f.2.1).bind (fun U=>(cY F ([(aQ ⟨#[116,114,105,101,115]⟩),U]:List qc) (L.1,L.2)).bind (fun J=>(qC F f.2.2.1).bind (fun Y=>(cY F ([(aQ ⟨#[111,114,100,101,114]⟩),Y]:List qc) (J.1,J.2)).bind (fun z=>(cY F ([g]:List qc) (z.1,z.2)).bind (fun I=>(dK F (fun d:Int×Bool×qc=>qR F f d.1 d.2.1 d.2.2) ((0:Int),I.1,I.2)).bind (fun e=>sS F f e.1 e.2)))))))))))
def nH(F:Md)(f:qf):Option (qc×qp) :=
 (lL F f).bind (fun g=>if ¬(g=true) then some ((aQ ⟨#[]⟩),(1:Int),()) else if f.2.2.2.1=(2:Int) then pF F f (aQ ⟨#[115,101,105,100,101,108]⟩) else pF F f (aQ ⟨#[106,97,99,111,98,105]⟩))
def aLL(F:Md):PlR:=⟨[(0,.B [1]),(1,.A [1,21]),(2,.A [2,3]),(3,.stop),(4,.A [1,4,5]),(5,.A [1,4,5,6]),(6,.A [1,4,5,6,25]),(7,.A [1,4,5,6]),(8,.P [1,4,5,6] []),(9,.P [1,4,5,6] []),(10,.P [1,4,5,6] []),(11,.P [1,4,5,6] []),(12,.P [1,4,5,6] []),(13,.P [1,4,5,6] []),(14,.P [1,4,5] []),(15,.A [1,4,5,66,67,68]),(16,.A [1,4,5,66,67,68,69]),(17,.B [1,4,5,8,66,67,68]),(18,.P [1,4,5,8,66,67,68] []),(19,.A [1,4,5,8,66,67,68,78,79,80]),(20,.A [1,4,5,8,66,67,68,78,79,80,81]),(21,.B [1,4,5,8,10,66,67,68,78,79,80]),(22,.Q 10 [1,4,5,8,66,67,68,78,79,80] []),(23,.A [1,4,5,8,66,67,68,78,79,80]),(24,.A [1,4,5,8,66,67,68,97,98,99]),(25,.A [1,4,5,8,66,67,68,97,98,99,100]),(26,.B [1,4,5,8,12,66,67,68,97,98,99]),(27,.Q 7 [1,4,5,8,66,67,68,97,98,99] []),(28,.A [1,4,5,8,66,67,68,97,98,99]),(29,.A [1,4,5,8,66,67,68,113,114,115]),(30,.A [1,4,5,8,66,67,68,113,114,115,116]),(31,.A [1,4,5,8,14,66,67,68,113,114,115]),(32,.P [1,4,5,8,66,67,68,113,114,115] []),(33,.A [1,4,5,8,66,67,68,113,114,115]),(34,.A [1,4,5,66,67,68,125,126,127]),(35,.A [1,4,5,66,67,68,125,126,127,128]),(36,.B [1,4,5,16,66,67,68,125,126,127]),(37,.Q 7 [1,4,5,66,67,68,125,126,127] []),(38,.A [1,4,5,66,67,68,125,126,127]),(39,.A [1,4,5,66,67,68]),(40,.A [4,5,142,143,144]),(41,.A [4,5,142,143,144,145]),(42,.B [4,5,18,142,143,144]),(43,.P [4,5,142,143,144] []),(44,.A [4,5,142,143,144]),(45,.P [2,3] [])],[(9,11),(18,43),(22,27),(27,32),(32,37)],[(32,aIx F),(37,aAW F)]⟩
def aNm:Ty:=.pair qe .unit
def wN(F:Md):aF:=mSpec aNm (.tup (.pair .str qm)) (fun x=>nH F x.1)
abbrev aBl(F:Md):List (FuncId×aF):=[(31,(yO F 64)),(35,(aBx F)),(36,(aD0 F)),(8,(aAD F))]
theorem aXm[Mx](F:Md):bF Tryz.prog GL (aBl F):=.cons (aHM F 64) xN (.cons (aTC F) xN (.cons (aXl F) xN (.cons (aPS F) xN (.nil))))
attribute [go_sem] aNm aLL
theorem aLM[Mx](F:Md):FOK Tryz.prog GL 12 (wN F):=by
 refine bP (bA (aXm F)) mix Tryz.func12 rfl xN xAa (aLL F) (fun w0 S x Θ hw h hV=>?_) (.cons (fun _ _=>(aRD F)) xN (.cons (fun _ _=>(aGK F)) xN (.nil)));have hF:=hV.fr;obtain⟨(g:qf),u⟩:=x;simp only[cA,go_sem];replace h:sat (nH F g) _:=h;unfold nH at h;refine aB h fun v_7 hv h=>?_;try simp only[hv,go_sem]
 refine aA1 h (fun hc h=>?_) fun hc h=>?_
 ·exact aG hV [.tmp 2,.tmp 3] rfl rfl rfl (aA h) xAc
 ·obtain⟨q0,h,hq⟩:=h;refine dQ hF [1,4] (yaA ?_);refine bL0 1 4294967377 5 rfl (yaA ?_);first|replace h:=oV h hq|replace h:=oV (Θ:=(· = r)) h hq
  refine aF4 hV (yaA ?_);refine dD hV (D:=qc) (fun d=>sat (pF F g d) Θ) [] (fun d=>[(1,.ptr 0 []),(4,.ptr 1 []),(5,.fn 32 [] [1]),(6,.val .str d)]) (fun d=>[.inr (.box 10 (.val qe g)),.inr (.box 4294967377 (.agg [pk true 1,.own 2])),.inr (.row 5 wm ([]:List Nat))]) ?_ ?_
  ·simp only[go_sem];refine cH h (fun hc h=>?_) fun hc h=>?_
   ·exact aT (aQ ⟨#[115,101,105,100,101,108]⟩) h rfl xAb
   ·exact aT (aQ ⟨#[106,97,99,111,98,105]⟩) h rfl xAb
  ·rintro mode_8 h;simp only[go_sem];replace h:sat (pF F g mode_8) _:=h;unfold pF at h;refine aB h fun v_13 hv h=>?_;(try simp only[hv,go_sem]);refine aB h fun r_14 hv h=>?_;simp only[List.replicate,List.set,hv,go_sem];refine aB h fun r_16 hv h=>?_;simp only[List.replicate,List.set,hv,go_sem];refine aB h fun r_18 hv h=>?_;simp only[List.replicate,List.set,hv,go_sem];refine aB h fun r_20 hv h=>?_;simp only[List.replicate,List.set,hv,go_sem];refine aB h fun v_25 hv h=>?_;(try simp only[hv,go_sem]);refine aB h fun r_26 hv h=>?_;simp only[List.replicate,List.set,hv,go_sem];refine aB h fun v_31 hv h=>?_;(try simp only[hv,go_sem]);refine aB h fun r_32 hv h=>?_;simp only[List.replicate,List.set,hv,go_sem];refine aB h fun r_34 hv h=>?_;simp only[List.replicate,List.set,hv,go_sem];(repeat (refine⟨zAB,?_⟩));refine dD hV (D:=Bool×qc) (fun d=>sat (sS F g d.1 d.2) Θ) [] (fun d=>[(1,.ptr 0 []),(4,.ptr 1 []),(5,.fn 32 [] [1])]) (fun d=>[.inr (.box 10 (.val qe g)),.inr (.box 4294967377 (.agg [pk d.1 1,.own 2])),.inr (.row 5 wm d.2)]) ?_ ?_
   ·simp only[go_sem];refine aDL [0,1,9] rfl rfl (yaA ?_);refine bQ hV (D:=Int×Bool×qc) [66,67] (fun d=>[(1,.ptr 0 []),(4,.ptr 1 []),(5,.fn 32 [] [1]),(68,.val qg d.1)]) (fun d=>[.inr (.box 10 (.val qe g)),.inr (.box 4294967377 (.agg [pk d.2.1 1,.own 2])),.inr (.row 5 wm d.2.2)]) h rfl xAb ?_;rintro⟨f,N,J⟩ A16 T16 hA16 hE16 h;simp only[go_sem];replace h:sat (qR F g f N J) _:=h;unfold qR at h;refine dU h (fun hc h=>?_) fun hc h=>?_
    ·refine aD h fun g0 h=>(yaD ?_);refine aB h fun r_439 hv h=>?_;simp only[List.replicate,List.set,hv,go_sem];(repeat (refine⟨zAB,?_⟩));refine dD hV (D:=Bool×qc) (fun d=>sat (sV F g f d.1 d.2) T16) [66,67,68] (fun d=>[(1,.ptr 0 []),(4,.ptr 1 []),(5,.fn 32 [] [1]),(8,.ptr 3 [])]) (fun d=>[.inr (.box 10 (.val qe g)),.inr (.box 4294967377 (.agg [pk d.1 1,.own 2])),.inr (.row 5 wm d.2),.inr (.box 5 (.val qa (g.2.2.2.2.2.2.2.2.1.getD (f.toNat) ([],[],[],[],[],()))))]) ?_ ?_
     ·simp only[go_sem];refine aDL [0,1,4,3] rfl rfl (yaA ?_);refine bQ hV (D:=Int×Bool×qc) [66,67,68,78,79] (fun d=>[(1,.ptr 0 []),(4,.ptr 1 []),(5,.fn 32 [] [1]),(8,.ptr 3 []),(80,.val qg d.1)]) (fun d=>[.inr (.box 10 (.val qe g)),.inr (.box 4294967377 (.agg [pk d.2.1 1,.own 2])),.inr (.row 5 wm d.2.2),.inr (.box 5 (.val qa (g.2.2.2.2.2.2.2.2.1.getD (f.toNat) ([],[],[],[],[],()))))]) h rfl xAb ?_;rintro⟨Y,O,L⟩ A20 T20 hA20 hE20 h;simp only[go_sem];replace h:sat (nY F g f Y O L) _:=h;unfold nY at h;refine dU h (fun hc h=>?_) fun hc h=>?_
      ·refine aD h fun g0 h=>(yaD ?_);(try refine⟨(by kernel_rfl:aYQ _ _=true),?_⟩);refine aB h fun v_603 hv h=>?_;(try simp only[hv,go_sem]);refine aB h fun v_604 hv h=>?_;(try simp only[hv,go_sem]);refine aB h fun r_605 hv h=>?_;simp only[List.replicate,List.set,hv,go_sem];(repeat (refine⟨zAB,?_⟩));refine aD h fun g0 h=>?_;(try simp only[I64,I32] at g0);(repeat (refine⟨zAB,?_⟩));replace h:=hA20 _ (aA h);refine gK [0,1,5,3] rfl rfl (yaA ?_);exact zaI
      ·replace h:=yaG (hE20 _ (aA h));exact aT (O,L) h rfl xAb
     ·rintro⟨b_464,x_465⟩ h;simp only[go_sem];replace h:sat (sV F g f b_464 x_465) _:=h;unfold sV at h;refine dD hV (D:=Bool×qc) (fun d=>sat (sU F g f d.1 d.2) T16) [66,67,68] (fun d=>[(1,.ptr 0 []),(4,.ptr 1 []),(5,.fn 32 [] [1]),(8,.ptr 3 [])]) (fun d=>[.inr (.box 10 (.val qe g)),.inr (.box 4294967377 (.agg [pk d.1 1,.own 2])),.inr (.row 5 wm d.2),.inr (.box 5 (.val qa (g.2.2.2.2.2.2.2.2.1.getD (f.toNat) ([],[],[],[],[],()))))]) ?_ ?_
      ·simp only[go_sem];refine bQ hV (D:=Int×Bool×qc) [66,67,68,97,98] (fun d=>[(1,.ptr 0 []),(4,.ptr 1 []),(5,.fn 32 [] [1]),(8,.ptr 3 []),(99,.val qg d.1)]) (fun d=>[.inr (.box 10 (.val qe g)),.inr (.box 4294967377 (.agg [pk d.2.1 1,.own 2])),.inr (.row 5 wm d.2.2),.inr (.box 5 (.val qa (g.2.2.2.2.2.2.2.2.1.getD (f.toNat) ([],[],[],[],[],()))))]) h rfl xAb ?_;rintro⟨x99_539,b_540,U⟩ A25 T25 hA25 hE25 h;simp only[go_sem];replace h:sat (nX F g f x99_539 b_540 U) _:=h;unfold nX at h;refine dU h (fun hc h=>?_) fun hc h=>?_
       ·refine aD h fun g0 h=>(yaD ?_);(try refine⟨(by kernel_rfl:aYQ _ _=true),?_⟩);refine aB h fun v_560 hv h=>?_;(try simp only[hv,go_sem]);refine aB h fun r_561 hv h=>?_;simp only[List.replicate,List.set,hv,go_sem];(repeat (refine⟨zAB,?_⟩));refine aD h fun g0 h=>?_;(try simp only[I64,I32] at g0);(repeat (refine⟨zAB,?_⟩));replace h:=hA25 _ (aA h);refine gK [0,1,5,3] rfl rfl (yaA ?_);exact zaI
       ·replace h:=yaG (hE25 _ (aA h));exact aT (b_540,U) h rfl xAb
      ·rintro⟨b_482,x_483⟩ h;simp only[go_sem];replace h:sat (sU F g f b_482 x_483) _:=h;unfold sU at h;refine dD hV (D:=Bool×qc) (fun d=>sat (sT F g f d.1 d.2) T16) [66,67,68] (fun d=>[(1,.ptr 0 []),(4,.ptr 1 []),(5,.fn 32 [] [1]),(8,.ptr 3 [])]) (fun d=>[.inr (.box 10 (.val qe g)),.inr (.box 4294967377 (.agg [pk d.1 1,.own 2])),.inr (.row 5 wm d.2),.inr (.box 5 (.val qa (g.2.2.2.2.2.2.2.2.1.getD (f.toNat) ([],[],[],[],[],()))))]) ?_ ?_
       ·simp only[go_sem];refine bQ hV (D:=Int×Bool×qc) [66,67,68,113,114] (fun d=>[(1,.ptr 0 []),(4,.ptr 1 []),(5,.fn 32 [] [1]),(8,.ptr 3 []),(115,.val qg d.1)]) (fun d=>[.inr (.box 10 (.val qe g)),.inr (.box 4294967377 (.agg [pk d.2.1 1,.own 2])),.inr (.row 5 wm d.2.2),.inr (.box 5 (.val qa (g.2.2.2.2.2.2.2.2.1.getD (f.toNat) ([],[],[],[],[],()))))]) h rfl xAb ?_;rintro⟨z,b_524,Z⟩ A30 T30 hA30 hE30 h;simp only[go_sem];replace h:sat (nW F g f z b_524 Z) _:=h;unfold nW at h;refine dU h (fun hc h=>?_) fun hc h=>?_
        ·refine aD h fun g0 h=>(yaD ?_);refine aB h fun r_533 hv h=>?_;simp only[List.replicate,List.set,hv,go_sem];refine aD h fun g0 h=>?_;(try simp only[I64,I32] at g0);(repeat (refine⟨zAB,?_⟩));replace h:=hA30 _ (aA h);refine gK [0,1,4,3] rfl rfl (yaA ?_);exact zaI
        ·replace h:=yaG (hE30 _ (aA h));exact aT (b_524,Z) h rfl xAb
       ·rintro⟨b_492,x_493⟩ h;simp only[go_sem];replace h:sat (sT F g f b_492 x_493) _:=h;unfold sT at h;refine aDL [0,1,2] rfl rfl (yaA ?_);refine bQ hV (D:=Int×Bool×qc) [66,67,68,125,126] (fun d=>[(1,.ptr 0 []),(4,.ptr 1 []),(5,.fn 32 [] [1]),(127,.val qg d.1)]) (fun d=>[.inr (.box 10 (.val qe g)),.inr (.box 4294967377 (.agg [pk d.2.1 1,.own 2])),.inr (.row 5 wm d.2.2)]) h rfl xAb ?_;rintro⟨q,b_500,x_501⟩ A35 T35 hA35 hE35 h;simp only[go_sem];replace h:sat (nV F g f q b_500 x_501) _:=h;unfold nV at h;refine dU h (fun hc h=>?_) fun hc h=>?_
        ·refine aD h fun g0 h=>(yaD ?_);(try refine⟨(by kernel_rfl:aYQ _ _=true),?_⟩);refine aB h fun v_520 hv h=>?_;(try simp only[hv,go_sem]);refine aB h fun r_521 hv h=>?_;simp only[List.replicate,List.set,hv,go_sem];(repeat (refine⟨zAB,?_⟩));refine aD h fun g0 h=>?_;(try simp only[I64,I32] at g0);(repeat (refine⟨zAB,?_⟩));replace h:=hA35 _ (aA h);refine gK [0,1,4] rfl rfl (yaA ?_);exact zaI
        ·replace h:=yaG (hE35 _ (aA h));refine aD h fun g0 h=>?_;(try simp only[I64,I32] at g0);(repeat (refine⟨zAB,?_⟩));replace h:=hA16 _ (aA h);exact zaI
    ·replace h:=yaG (hE16 _ (aA h));exact aT (N,J) h rfl xAb
   ·rintro⟨b_187,x_188⟩ h;simp only[go_sem];replace h:sat (sS F g b_187 x_188) _:=h;unfold sS at h;refine aDL [1,2] rfl rfl (yaA ?_);refine bQ hV (D:=Int×Bool×qc) [142,143] (fun d=>[(4,.ptr 0 []),(5,.fn 32 [] [0]),(144,.val qg d.1)]) (fun d=>[.inr (.box 4294967377 (.agg [pk d.2.1 0,.own 1])),.inr (.row 5 wm d.2.2)]) h rfl xAb ?_;rintro⟨I,b_199,x_200⟩ A41 T41 hA41 hE41 h;simp only[go_sem];replace h:sat (nU F g I b_199 x_200) _:=h;unfold nU at h;refine dU h (fun hc h=>?_) fun hc h=>?_
    ·refine aD h fun g0 h=>(yaD ?_);refine aD h fun g0 h=>(yaD ?_);refine aD h fun g0 h=>(yaD ?_);refine aD h fun g0 h=>(yaD ?_);refine aD h fun g0 h=>(yaD ?_);refine aB h fun r_208 hv h=>?_;simp only[List.replicate,List.set,hv,go_sem];(repeat (refine⟨zAB,?_⟩));refine aD h fun g0 h=>?_;(try simp only[I64,I32] at g0);(repeat (refine⟨zAB,?_⟩));replace h:=hA41 _ (aA h);refine gK [0,3] rfl rfl (yaA ?_);exact zaI
    ·replace h:=yaG (hE41 _ (aA h));refine aB h fun r_210 hv h=>?_;simp only[hv,go_sem];(repeat (refine⟨zAB,?_⟩));exact aG hV [.tmp 2,.tmp 3] rfl rfl rfl (aA h) (by (simp only[aS,go_sem])<;>first|rfl|(simp; done))
attribute [go_sem] wN
def aV4:ByteArray:=⟨⟨112::114::101::99::32::52::48::10::101::110::100::32::49::10::115::116::101::112::32::48::46::53::32::48::46::49::50::53::10::116::111::108::32::49::10::116::114::105::101::115::32::52::10::111::114::100::101::114::32::48::10::106::97::99::111::98::105::10::115::117::98::32::97::10::115::116::97::116::101::32::120::32::61::32::49::32::100::101::114::32::120::10::111::117::116::32::121::32::61::32::120::10:: []⟩⟩
@[go_sem]theorem aXn:(⟨⟨112::114::101::99::32::52::48::10::101::110::100::32::49::10::115::116::101::112::32::48::46::53::32::48::46::49::50::53::10::116::111::108::32::49::10::116::114::105::101::115::32::52::10::111::114::100::101::114::32::48::10::106::97::99::111::98::105::10::115::117::98::32::97::10::115::116::97::116::101::32::120::32::61::32::49::32::100::101::114::32::120::10::111::117::116::32::121::32::61::32::120::10:: []⟩⟩:ByteArray)=aV4:=rfl
def aFA(F:Md):Option Bool :=
 (fZ F 64 (Ex.mk (10:Int) ([]:List Nat) ([(Ex.mk (6:Int) ([]:List Nat) ([(Ex.mk (2:Int) (aQ ⟨#[97]⟩) ([]:List Ex)),(Ex.mk (2:Int) (aQ ⟨#[97]⟩) ([]:List Ex))]:List Ex))]:List Ex))).bind (fun v_5=>(aDZ F).bind (fun f=>(nH F f).bind (fun v_13=>(nH F ((0:Int),(0:Int),(0:Int),(0:Int),([]:List Nat),([]:List Nat),([]:List Nat),([]:List Nat),([]:List qd),([]:List qy),())).bind (fun v_17=>some ((((decide (v_5=(aQ ⟨#[45,40,97,32,43,32,97,41]⟩)))&&(decide (v_13.2.1=(0:Int))))&&(decide (v_13.1=(aQ aV4))))&&(decide (v_17.2.1=(1:Int))))))))
def aNn:PlR:=⟨[(0,.A []),(1,.B [1]),(2,.A [2]),(3,.A [2,3,4]),(4,.A [2,3,4,6]),(5,.A [0])],[],[]⟩
def aJA:Ty:=.unit
def aNo(F:Md):aF:=mSpec aJA (.one .bool) (fun x=>aFA F )
abbrev aFB(F:Md):List (FuncId×aF):=[(12,(wN F)),(14,(aCU F)),(31,(yO F 64))]
theorem aZJ[Mx](F:Md):bF Tryz.prog GL (aFB F):=.cons (aLM F) xN (.cons (aVZ F) xN (.cons (aHM F 64) xN (.nil)))
attribute [go_sem] aJA aNn
theorem aXo[Mx](F:Md):FOK Tryz.prog GL 11 (aNo F):=by
 refine bP (bA (aZJ F)) mix Tryz.func11 rfl xN xAa aNn (fun w0 S x Θ g h hV=>?_);simp only[cA,go_sem];replace h:sat (aFA F) _:=h;unfold aFA at h;refine aB h fun v_5 hv h=>?_;try simp only[hv,go_sem]
 refine aB h fun f hv h=>?_;try simp only[hv,go_sem]
 refine aB h fun v_13 hv h=>?_;try simp only[hv,go_sem]
 refine aB h fun v_17 hv h=>?_;try simp only[hv,go_sem]
 exact aG hV [.tmp 0] rfl rfl rfl (aA h) xAc
attribute [go_sem] aNo
def aZK:List Nat→Nat→Nat→Int
 | [],_,_=> -1
 | b::l,c,k=>if b=c then (k:Int) else aZK l c (k+1)
def aKu(l:List Nat)(c:Nat):Int:=aZK l c 0
theorem aJB:∀(l:List UInt8) (c:UInt8),Lib.indexByte l c= -1∨0≤Lib.indexByte l c
 | [],c=>.inl rfl
 | b::l,c=>by
  unfold Lib.indexByte;split
  ·exact .inr xAa
  ·split
   ·exact .inl rfl
   ·rename_i h;rcases aJB l c with f|f
    ·rw[f] at h; exact absurd rfl h
    ·right; omega
theorem aX9:∀(l:List UInt8) (c:UInt8) (k:Nat),aZK (l.map (·.toNat)) c.toNat k=if Lib.indexByte l c= -1 then -1 else Lib.indexByte l c+k
 | [],c,k=>rfl
 | b::l,c,k=>by
  have I:=aX9 l c (k+1);have J:=aJB l c;rw[List.map_cons,aZK];unfold Lib.indexByte;by_cases hb:b=c
  ·subst hb;simp
  ·have q:¬b.toNat=c.toNat:=fun h=>hb (UInt8.toNat_inj.1 h);have g:(b == c)=false:=(by simpa using hb);rw[if_neg q,I,g];by_cases f:Lib.indexByte l c= -1
   ·rw[if_pos f,f]; rfl
   ·have z:(Lib.indexByte l c == -1)=false:=(by simpa using f);rw[if_neg f,z];simp only[Bool.false_eq_true,if_false];rw[if_neg (by omega)];omega
@[go_sem]def aAe:Ty:=.pair .str ve
@[go_sem]def nA:aF:=⟨aAe,.one qg,fun _=>True,fun x=>aKu x.1 x.2.1⟩
theorem aFC[Mx]:NOK Tryz.prog GL 177 nA:=by
 refine⟨(fun e t h=>by cases h),fun w U S x hS hG ha hp=>?_⟩;obtain⟨(a:List Nat),(c:Nat),u⟩:=x;obtain⟨v1,r1,e1,J,v2,r2,Z,f,I⟩:=ha;have I:r2= []:=I;subst I;have J:bB w S .str a [v1]:=J;obtain⟨s,es,hs,q⟩:=J;obtain rfl:=(List.cons.inj es).1;have hw:=f;unfold dV at f;rw[if_neg (by simp[Ty.isAgg])] at f;simp only[bB,List.cons.injEq,and_true] at f;have hc:c<256:=by
  have:=f.2.2;have hm:IntKind.u8.max=255:=by decide
  omega
 obtain rfl:=f.1;have O:U= #[.string s,.int .u8 (c:Int)]:=by rw[← Array.toList_inj,e1,Z]
 rw[O];refine⟨.int .i64 (Lib.indexByte s.data.toList ((c:Int).toNat.toUInt8)),w,?_,_,rfl,.refl _ _,?_⟩
 ·rw[run_callFunc_extern Tryz.func177 xN xN xN (e:=Extern.BytealgIndexByte.indexByte) xN,Lib.run_indexByteString];rfl
 ·show dV w _ qg (aKu a c) _;have Y:aKu a c=Lib.indexByte s.data.toList ((c:Int).toNat.toUInt8):=by
   have L:((c:Int).toNat.toUInt8).toNat=c:=by
    rw[Int.toNat_natCast];exact Nat.mod_eq_of_lt hc
   have:=aX9 s.data.toList ((c:Int).toNat.toUInt8) 0;rw[L] at this;have hs:a=s.data.toList.map (·.toNat):=hs.symm;unfold aKu;rw[hs,this];split
   ·rename_i h; exact h.symm
   ·omega
  rw[Y];unfold dV;rw[if_neg (by simp[Ty.isAgg])];have ho:=aJB s.data.toList ((c:Int).toNat.toUInt8);have N:∀(l:List UInt8) (c:UInt8),Lib.indexByte l c≤l.length:=fun l c=>by
   induction l with
   | nil=>exact(by decide:(-1:Int)≤0)
   | cons b l ih =>
    unfold Lib.indexByte;split
    ·simp; omega
    ·split
     ·simp; omega
     ·simp; omega
  have N:=N s.data.toList ((c:Int).toNat.toUInt8);have g:s.data.toList.length≤maxLen:=q;unfold maxLen at g;generalize Lib.indexByte s.data.toList ((c:Int).toNat.toUInt8)=z at ho N ⊢;refine⟨rfl,rfl,?_,?_⟩
  ·have hm:IntKind.i64.min= -9223372036854775808:=(by decide);show (IntKind.i64.min:Int)≤z;rw[hm];omega
  ·have hm:IntKind.i64.max=9223372036854775807:=(by decide);show (z:Int)≤IntKind.i64.max;rw[hm];omega
end
end Nu
end Go.Proofs

