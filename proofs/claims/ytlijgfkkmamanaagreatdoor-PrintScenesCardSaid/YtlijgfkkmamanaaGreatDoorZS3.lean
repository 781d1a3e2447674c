import Derived.Test.YtlijgfkkmamanaaGreatDoorZS2
import Derived.Test.YtlijgfkkmamanaaGreatDoorZS1
import Derived.Test.YtlijgfkkmamanaaGreatDoorZL5
import Derived.Shelf.Strconv.Itoa2
import Derived.Test.YtlijgfkkmamanaaGreatDoorZL6
import Derived.Shelf.Strings.OnBuilder
set_option linter.unusedVariables false
set_option linter.unusedSimpArgs false
namespace Go.Proofs
open Go.Vc
set_option maxRecDepth 20000
namespace Nu
noncomputable section
set_option maxHeartbeats 4000000
attribute [-go_sem] Ex.kind Ex.text Ex.l
@[reducible] def bHU(xs:List qd):Prop:=xs.length*16≤140737488355328
@[go_sem]def yV:Ty:=.pair wo .unit
@[go_sem]def nO:aF:=⟨yV,.own 9 .str,fun x=>bHU x.1,fun x=>id x.1⟩
abbrev aDn(F:Md):List (FuncId×aF):=[]
theorem aDo[Mx](F:Md):bF Tryz.prog GL (aDn F):=.nil
theorem aJz[Mx]:FOK Tryz.prog GL 65 nO:=by
 refine bCB (aZ (aDo none)) Tryz.func65 rfl xP xAa fun w0 S x f hp=>?_;have hF:uP (fr Tryz.prog (EM (aDn none)) S w0 Tryz.f65.ntmps):=⟨aZ (aDo none),mix⟩;obtain⟨(s:q8),u⟩:=x;have hp:s.length*16≤140737488355328:=hp;simp only[cA,yV,nO];exact zaW
def cU(F:Md)(f:Ex)(names_1:q8):Option Bool :=
 (uX F f).bind (fun g=>ck ((g=true)→((xI F 64 f names_1).isSome=true)) (some (g&&((xI F 64 f names_1).getD false))))
def aIp:PlR:=⟨[(0,.B [1,2]),(1,.A [4])],[],[]⟩
def aKa:Ty:=.pair .expr (.pair wo .unit)
def sQ(F:Md):aF:=mSpec aKa (.one .bool) (fun x=>cU F x.1 x.2.1)
abbrev aE4(F:Md):List (FuncId×aF):=[(116,(aD1 F 64)),(41,(aAC F))]
theorem aTE[Mx](F:Md):bF Tryz.prog GL (aE4 F):=.cons (aNo F 64) xP (.cons (aPL F) xP (.nil))
attribute [go_sem] aKa aIp
theorem aIq[Mx](F:Md):FOK Tryz.prog GL 67 (sQ F):=by
 refine bQ (aZ (aTE F)) mix Tryz.func67 rfl xP xAa aIp (fun w0 S x Θ q h hV=>?_);obtain⟨(f:Ex),(names_1:q8),u⟩:=x;simp only[cA,go_sem];replace h:sat (cU F f names_1) _:=h;unfold cU at h;refine aB h fun g hv h=>?_;try simp only[hv,go_sem]
 refine aK h fun g0 h=>?_;exact zaD
attribute [go_sem] sQ
def wJ(F:Md)(g:q9)(f:q8):Option Bool :=
 (cU F g.2.1 f).bind (fun q=>some (!q))
def aHf:PlR:=⟨[(0,.B [1,2]),(1,.A [3])],[],[]⟩
def aIr:Ty:=.pair qu vp
def zD(F:Md):aF:=mSpec aIr (.one .bool) (fun x=>wJ F x.1 x.2.1)
abbrev aIs(F:Md):List (FuncId×aF):=[(67,(sQ F))]
theorem aRC[Mx](F:Md):bF Tryz.prog GL (aIs F):=.cons (aIq F) xP (.nil)
attribute [go_sem] aIr aHf
theorem aPO[Mx](F:Md):FOK Tryz.prog GL 69 (zD F):=by
 refine bQ (aZ (aRC F)) mix Tryz.func69 rfl xP xAa aHf (fun w0 S x Θ z h hV=>?_);obtain⟨(g:q9),(f:q8),u⟩:=x;simp only[cA,go_sem];replace h:sat (wJ F g f) _:=h;unfold wJ at h;refine aB h fun q hv h=>?_;try simp only[hv,go_sem]
 exact aG hV [.tmp 3] rfl rfl rfl (aA h) xAc
attribute [go_sem] zD
def dR(F:Md)(g:vn)(q:vi)(f:Int):Option ((Int)⊕((Unit)⊕Int)) :=
 if f<(g.length:Int) then ck (0≤f∧f<(g.length:Int)) ((wJ F (g.getD (f.toNat) ([],(Ex.mk 0 [] []),())) q.1).bind (fun v_27=>if v_27=true then some (.inr (.inr f)) else ck (I64 (f+(1:Int))) (some (.inl (f+(1:Int)))))) else some (.inr (.inl ()))
def cZ(F:Md)(g:vn)(f:vi):Option Int :=
 (dE F (fun d:Int=>dR F g f d) (0:Int)).bind (fun e=>match e with|(.inl e)=>some (-1:Int)|(.inr e)=>some e)
def jW:PlR:=⟨[(0,.A [0,1]),(1,.A [0,1,7,8]),(2,.A [0,1,7,8,9]),(3,.A [0,1,5,7,8]),(4,.A [0,1,5,7,8,16]),(5,.A [4]),(6,.A [0,1,7,8]),(7,.A [4])],[],[]⟩
def kF:Ty:=.pair (.sl qu) (.pair (.clo 69 vp) .unit)
def dY(F:Md):aF:=mSpec kF (.one qg) (fun x=>cZ F x.1 x.2.1)
abbrev kG(F:Md):List (FuncId×aF):=[(69,(zD F))]
theorem uB[Mx](F:Md):bF Tryz.prog GL (kG F):=.cons (aPO F) xP (.nil)
attribute [go_sem] kF jW
theorem tK[Mx](F:Md):FOK Tryz.prog GL 117 (dY F):=by
 refine bQ (aZ (uB F)) mix Tryz.func117 rfl xP xAa jW (fun w0 S x Θ z h hV=>?_);obtain⟨(q:vn),(g:vi),u⟩:=x;simp only[cA,go_sem];replace h:sat (cZ F q g) _:=h;unfold cZ at h;refine bP hV (D:=Int) [0,1,7] (fun d=>[(8,.val qg d)]) (fun d=>[]) h rfl xAb ?_;rintro f I T2 hA2 hE2 h;simp only[go_sem];replace h:sat (dR F q g f) _:=h;unfold dR at h;exact zaO
attribute [go_sem] dY
def bW(F:Md)(g:vn)(f:vi):Option Bool :=
 (cZ F g f).bind (fun v_8=>some (decide ((0:Int)≤v_8)))
def iO:PlR:=⟨[(0,.A [0,1]),(1,.A [4])],[],[]⟩
def jB:Ty:=.pair (.sl qu) (.pair (.clo 69 vp) .unit)
def dM(F:Md):aF:=mSpec jB (.one .bool) (fun x=>bW F x.1 x.2.1)
abbrev jC(F:Md):List (FuncId×aF):=[(117,(dY F))]
theorem rU[Mx](F:Md):bF Tryz.prog GL (jC F):=.cons (tK F) xP (.nil)
attribute [go_sem] jB iO
theorem rG[Mx](F:Md):FOK Tryz.prog GL 68 (dM F):=by
 refine bQ (aZ (rU F)) mix Tryz.func68 rfl xP xAa iO (fun w0 S x Θ q h hV=>?_);obtain⟨(g:vn),(f:vi),u⟩:=x;simp only[cA,go_sem];replace h:sat (bW F g f) _:=h;unfold bW at h;refine aB h fun v_8 hv h=>?_;exact zao
attribute [go_sem] dM
def aBM(F:Md)(g:qc)(f:Int):Option ((Int)⊕((Unit)⊕Bool)) :=
 if f<(g.2.2.1.length:Int) then ck (0≤f∧f<(g.2.2.1.length:Int)) (ck ((lQ F (g.2.2.1.getD (f.toNat) ([],([],[],()),())).2.1).isSome=true) (if ¬(((lQ F (g.2.2.1.getD (f.toNat) ([],([],[],()),())).2.1).getD false)=true) then some (.inr (.inr false)) else ck (I64 (f+(1:Int))) (some (.inl (f+(1:Int)))))) else some (.inr (.inl ()))
def uY(F:Md)(f:qc):Option (Bool) :=
 (dE F (fun d:Int=>aBM F f d) (0:Int)).bind (fun e=>match e with|(.inl e)=>ck ((bW F f.2.2.2.2.1 (((cC F ([((bH F f).getD (([]:List qd),([]:List qd),([]:List qd),())).1,((bH F f).getD (([]:List qd),([]:List qd),([]:List qd),())).2.1,((bH F f).getD (([]:List qd),([]:List qd),([]:List qd),())).2.2.1]:List q8)).getD ([]:List qd)),())).isSome=true) (some (!((bW F f.2.2.2.2.1 (((cC F ([((bH F f).getD (([]:List qd),([]:List qd),([]:List qd),())).1,((bH F f).getD (([]:List qd),([]:List qd),([]:List qd),())).2.1,((bH F f).getD (([]:List qd),([]:List qd),([]:List qd),())).2.2.1]:List q8)).getD ([]:List qd)),())).getD false)))|(.inr e)=>some e)
def aBN(F:Md)(g:qc)(f:Int):Option ((Int)⊕((Unit)⊕Bool)) :=
 if f<(g.2.1.length:Int) then ck (0≤f∧f<(g.2.1.length:Int)) (ck ((lQ F (g.2.1.getD (f.toNat) ([],([],[],()),(Ex.mk 0 [] []),())).2.1).isSome=true) (ck (¬(¬(((lQ F (g.2.1.getD (f.toNat) ([],([],[],()),(Ex.mk 0 [] []),())).2.1).getD false)=true))→((cU F (g.2.1.getD (f.toNat) ([],([],[],()),(Ex.mk 0 [] []),())).2.2.1 ((cC F ([((bH F g).getD (([]:List qd),([]:List qd),([]:List qd),())).1,((bH F g).getD (([]:List qd),([]:List qd),([]:List qd),())).2.1,((bH F g).getD (([]:List qd),([]:List qd),([]:List qd),())).2.2.1]:List q8)).getD ([]:List qd))).isSome=true)) (if (¬(((lQ F (g.2.1.getD (f.toNat) ([],([],[],()),(Ex.mk 0 [] []),())).2.1).getD false)=true))∨(¬(((cU F (g.2.1.getD (f.toNat) ([],([],[],()),(Ex.mk 0 [] []),())).2.2.1 ((cC F ([((bH F g).getD (([]:List qd),([]:List qd),([]:List qd),())).1,((bH F g).getD (([]:List qd),([]:List qd),([]:List qd),())).2.1,((bH F g).getD (([]:List qd),([]:List qd),([]:List qd),())).2.2.1]:List q8)).getD ([]:List qd))).getD false)=true)) then some (.inr (.inr false)) else ck (I64 (f+(1:Int))) (some (.inl (f+(1:Int))))))) else some (.inr (.inl ()))
def zE(F:Md)(g:qc)(f:q8):Option (Bool) :=
 ck ((sL F f).isSome=true) (if ¬(((sL F f).getD false)=true) then some false else (dE F (fun d:Int=>aBN F g d) (0:Int)).bind (fun e=>match e with|(.inl e)=>uY F g|(.inr e)=>some e))
def qN(F:Md)(q:qc)(f:Int)(g:q8):Option ((Int×q8)⊕q8) :=
 if f<(q.2.2.2.2.1.length:Int) then ck (0≤f∧f<(q.2.2.2.2.1.length:Int)) (ck (((g.length)+(1:Nat))*16≤140737488355328) (ck (I64 (f+(1:Int))) (some (.inl ((f+(1:Int)),(g++([(q.2.2.2.2.1.getD (f.toNat) ([],(Ex.mk 0 [] []),())).1]:List qd))))))) else some (.inr g)
def wK(F:Md)(f:qc):Option Bool :=
 if (((((f.2.1.length:Int)<(1:Int))∨((6:Int)<(f.2.1.length:Int)))∨((6:Int)<(f.2.2.1.length:Int)))∨((4:Int)<(f.2.2.2.1.length:Int)))∨((4:Int)<(f.2.2.2.2.1.length:Int)) then some false else ck ((bH F f).isSome=true) (ck ((cC F ([((bH F f).getD (([]:List qd),([]:List qd),([]:List qd),())).1,((bH F f).getD (([]:List qd),([]:List qd),([]:List qd),())).2.1,((bH F f).getD (([]:List qd),([]:List qd),([]:List qd),())).2.2.1]:List q8)).isSome=true) (ck (bHU ((cC F ([((bH F f).getD (([]:List qd),([]:List qd),([]:List qd),())).1,((bH F f).getD (([]:List qd),([]:List qd),([]:List qd),())).2.1,((bH F f).getD (([]:List qd),([]:List qd),([]:List qd),())).2.2.1]:List q8)).getD ([]:List qd))) ((dE F (fun d:Int×q8=>qN F f d.1 d.2) ((0:Int),(id ((cC F ([((bH F f).getD (([]:List qd),([]:List qd),([]:List qd),())).1,((bH F f).getD (([]:List qd),([]:List qd),([]:List qd),())).2.1,((bH F f).getD (([]:List qd),([]:List qd),([]:List qd),())).2.2.1]:List q8)).getD ([]:List qd))))).bind (fun e=>zE F f e))))
@[go_sem]def aCV:Ty:=.pair qa .unit
def aBA(F:Md):aF:=mSpec aCV (.one .bool) (fun x=>wK F x.1)
abbrev nP(F:Md):List (FuncId×aF):=[(68,(dM F)),(25,(wH F)),(63,(aCP F)),(64,(qM F)),(65,nO),(66,(aBy F)),(67,(sQ F))]
theorem aLG[Mx](F:Md):bF Tryz.prog GL (nP F):=.cons (rG F) xP (.cons (aLA F) xP (.cons (aVU F) xP (.cons (aIl F) xP (.cons aJz xP (.cons (aTC F) xP (.cons (aIq F) xP (.nil)))))))
theorem aTF[Mx](F:Md):FOK Tryz.prog GL 24 (aBA F):=by
 refine aDD (aZ (aLG F)) Tryz.func24 rfl xP xAa fun w0 S x r U h=>?_;have hF:uP (fr Tryz.prog (EM (nP F)) S w0 Tryz.f24.ntmps):=⟨aZ (aLG F),mix⟩;obtain⟨(f:qc),u⟩:=x;simp only[aCV,Ty.wf,aF8] at U;simp only[cA,aCV];try dsimp only at h
 replace h:wK F f=some r:=h;unfold wK at h;refine aL (dH hF [1] (yaA ?_));refine aN (aL (aL (aQ hF [1,41] (yaA ?_))));refine aN (cS rfl (fun hc=>?_) (fun hc=>?_))
 ·try simp only[go_sem] at hc
  have h:=oD zAC h;refine aL (aQ hF [2] (yaA ?_));obtain rfl:=Option.some.inj h;refine aN (gU (eD (nG hF [.tmp 2] rfl rfl rfl ?_)));exact zAJ
 ·try simp only[go_sem] at hc
  have h:=nB zAC h;refine eC (aN (aL (aQ hF [1,3,4,5] (yaA ?_))));obtain⟨g0,h⟩:=bD h;repeat (refine⟨zAA,?_⟩)
  refine aN (aL (dH hF [1,6] (yaA ?_)));obtain⟨g0,h⟩:=bD h;repeat (refine⟨zAA,?_⟩)
  refine aN (aL (dH hF [1,6,7] (yaA ?_)));obtain⟨g0,h⟩:=bD h;repeat (refine⟨zAA,?_⟩)
  refine aN (aBZ (D:=q8) (fun d=>zE F f d=some r) [] (fun d=>[(1,.ptr 0 []),(6,.ptr 1 []),(7,.own 2)]) (fun d=>[.inr (.box 5 (.val qa f)),.inr (.box 1 (.val wo ((cC F ([((bH F f).getD (([]:List qd),([]:List qd),([]:List qd),())).1,((bH F f).getD (([]:List qd),([]:List qd),([]:List qd),())).2.1,((bH F f).getD (([]:List qd),([]:List qd),([]:List qd),())).2.2.1]:List q8)).getD ([]:List qd)))),.inr (.row 9 .str d)]) ?_ ?_)
  ·refine aL (aQ hF [1,6,7,56,57,58] (yaA ?_));refine aN (oV (aFW (D:=Int×q8) [56,57] (fun d=>[(1,.ptr 0 []),(6,.ptr 1 []),(7,.own 2),(58,.val qg d.1)]) (fun d=>[.inr (.box 5 (.val qa f)),.inr (.box 1 (.val wo ((cC F ([((bH F f).getD (([]:List qd),([]:List qd),([]:List qd),())).1,((bH F f).getD (([]:List qd),([]:List qd),([]:List qd),())).2.1,((bH F f).getD (([]:List qd),([]:List qd),([]:List qd),())).2.2.1]:List q8)).getD ([]:List qd)))),.inr (.row 9 .str d.2)]) h ?_ ?_ ?_))
   ·first|rfl|(simp only[go_sem]; done)
   ·exact zAI
   rintro⟨z,I⟩ s7 h N;simp only[go_sem];(try dsimp only at h);unfold qN at h;refine aL (aQ hF [1,6,7,56,57,58,59] (yaA ?_));refine aN (aL (cS rfl (fun hc=>?_) (fun hc=>?_)))
   ·(try simp only[go_sem] at hc);have h:=oD zAC h;refine eC (aN (aL (oV (aL (dH hF [1,6,7,9,56,57,58] (yaA ?_))))));obtain⟨g0,h⟩:=bD h;(repeat (refine⟨zAA,?_⟩));refine aN (dH hF [1,6,7,56,57,58] (yaA ?_));obtain⟨g0,h⟩:=bD h;(repeat (refine⟨zAA,?_⟩));refine pJ (aN (aQ hF [1,6,7,56,57,58] (yaA ?_)));obtain⟨g0,h⟩:=bD h;(try simp only[I64,I32] at g0);(repeat (refine⟨zAA,?_⟩));obtain rfl:=Option.some.inj h;dsimp only[aA9] at N;refine dQ (fU [0,1,4] rfl rfl (yaB ?_));refine aT ((z+(1:Int)),(I++([(f.2.2.2.2.1.getD (z.toNat) ([],(Ex.mk 0 [] []),())).1]:List qd))) N rfl ?_
    ·exact zAI
   ·(try simp only[go_sem] at hc);have h:=nB zAC h;obtain rfl:=Option.some.inj h;dsimp only[aA9] at N;have h:=yaG (N);refine aEh (kJ (kJ (pK (dQ (aT (I) h rfl ?_)))))
    ·exact zAI
  ·rintro O h;(try dsimp only at h);simp only[go_sem];unfold zE at h;refine aL (aL (aQ hF [1,6,70] (yaA ?_)));obtain⟨g0,h⟩:=bD h;(repeat (refine⟨zAA,?_⟩));refine aN (cS rfl (fun hc=>?_) (fun hc=>?_))
   ·(try simp only[go_sem] at hc);have h:=oD zAC h;refine aL (aQ hF [2] (yaA ?_));obtain rfl:=Option.some.inj h;refine aN (gU (eD (nG hF [.tmp 2] rfl rfl rfl ?_)));exact zAJ
   ·(try simp only[go_sem] at hc);have h:=nB zAC h;refine eC (aN (aBZ (D:=Unit) (fun d=>uY F f=some r) [] (fun d=>[(1,.ptr 0 []),(6,.ptr 1 [])]) (fun d=>[.inr (.box 5 (.val qa f)),.inr (.box 1 (.val wo ((cC F ([((bH F f).getD (([]:List qd),([]:List qd),([]:List qd),())).1,((bH F f).getD (([]:List qd),([]:List qd),([]:List qd),())).2.1,((bH F f).getD (([]:List qd),([]:List qd),([]:List qd),())).2.2.1]:List q8)).getD ([]:List qd))))]) ?_ ?_))
    ·refine aL (aQ hF [1,6,72,73,74] (yaA ?_));refine aN (oV (aDQ [0,1] rfl rfl (yaB ?_)));refine aFW (D:=Int) [72,73] (fun d=>[(1,.ptr 0 []),(6,.ptr 1 []),(74,.val qg d)]) (fun d=>[.inr (.box 5 (.val qa f)),.inr (.box 1 (.val wo ((cC F ([((bH F f).getD (([]:List qd),([]:List qd),([]:List qd),())).1,((bH F f).getD (([]:List qd),([]:List qd),([]:List qd),())).2.1,((bH F f).getD (([]:List qd),([]:List qd),([]:List qd),())).2.2.1]:List q8)).getD ([]:List qd))))]) h ?_ ?_ ?_
     ·first|rfl|(simp only[go_sem]; done)
     ·exact zAI
     rintro J Y h g;simp only[go_sem];(try dsimp only at h);unfold aBN at h;refine aL (aQ hF [1,6,72,73,74,75] (yaA ?_));refine aN (aL (cS rfl (fun hc=>?_) (fun hc=>?_)))
     ·(try simp only[go_sem] at hc);have h:=oD zAC h;refine eC (aN (aL (oV (aL (dH hF [1,6,11,72,73,74] (yaA ?_))))));obtain⟨g0,h⟩:=bD h;(repeat (refine⟨zAA,?_⟩));refine aN (aL (aQ hF [1,6,72,73,74,88] (yaA ?_)));obtain⟨g0,h⟩:=bD h;obtain⟨g1,h⟩:=bD h;(repeat (refine⟨by first|with_reducible assumption|omega|(intros; first|with_reducible assumption|omega)|(simp only[go_sem] at *; first|with_reducible assumption|omega)|(intro _; exact⟨rfl,by decide⟩)|(intro _; refine(?_:_=aI _); rfl)|(refine(?_:_=aI _); rfl)|exact⟨rfl,rfl⟩|(intro q0; (try have e1:=g1 (by first|exact q0|omega|(simpa using q0))); first|assumption|omega)|decide,?_⟩));refine aN (cS rfl (fun hc=>?_) (fun hc=>?_))
      ·(try simp only[go_sem] at hc);have h:=oD zAC h;refine aL (aQ hF [2] (yaA ?_));obtain rfl:=Option.some.inj h;dsimp only[aA9] at g;have h:=yaG (g);obtain rfl:=Option.some.inj h;refine aN (gU (rL (eD (eD (rL (eD (nG hF [.tmp 2] rfl rfl rfl ?_)))))));exact zAJ
      ·(try simp only[go_sem] at hc);have h:=nB zAC h;refine eC (pJ (aN (aQ hF [1,6,72,73,74] (yaA ?_))));obtain⟨g0,h⟩:=bD h;(try simp only[I64,I32] at g0);(repeat (refine⟨zAA,?_⟩));obtain rfl:=Option.some.inj h;dsimp only[aA9] at g;refine dQ (fU [0,1] rfl rfl (yaB ?_));refine aT (J+(1:Int)) g rfl ?_
       ·exact zAI
     ·(try simp only[go_sem] at hc);have h:=nB zAC h;obtain rfl:=Option.some.inj h;dsimp only[aA9] at g;have h:=yaG (g);refine aEh (kJ (kJ (pK (dQ (aT () h rfl ?_)))))
      ·exact zAI
    ·rintro u h;(try dsimp only at h);simp only[go_sem];unfold uY at h;refine aL (aL (aQ hF [1,6,91,92,93] (yaA ?_)));refine aN (oV (aFW (D:=Int) [91,92] (fun d=>[(1,.ptr 0 []),(6,.ptr 1 []),(93,.val qg d)]) (fun d=>[.inr (.box 5 (.val qa f)),.inr (.box 1 (.val wo ((cC F ([((bH F f).getD (([]:List qd),([]:List qd),([]:List qd),())).1,((bH F f).getD (([]:List qd),([]:List qd),([]:List qd),())).2.1,((bH F f).getD (([]:List qd),([]:List qd),([]:List qd),())).2.2.1]:List q8)).getD ([]:List qd))))]) h ?_ ?_ ?_))
     ·first|rfl|(simp only[go_sem]; done)
     ·exact zAI
     rintro L Z h q;simp only[go_sem];(try dsimp only at h);unfold aBM at h;refine aL (aQ hF [1,6,91,92,93,94] (yaA ?_));refine aN (aL (cS rfl (fun hc=>?_) (fun hc=>?_)))
     ·(try simp only[go_sem] at hc);have h:=oD zAC h;refine eC (aN (aL (oV (aL (dH hF [1,6,13,91,92,93] (yaA ?_))))));obtain⟨g0,h⟩:=bD h;(repeat (refine⟨zAA,?_⟩));refine aN (aL (aQ hF [1,6,91,92,93,100] (yaA ?_)));obtain⟨g0,h⟩:=bD h;(repeat (refine⟨zAA,?_⟩));refine aN (cS rfl (fun hc=>?_) (fun hc=>?_))
      ·(try simp only[go_sem] at hc);have h:=oD zAC h;refine aL (aQ hF [2] (yaA ?_));obtain rfl:=Option.some.inj h;dsimp only[aA9] at q;have h:=yaG (q);obtain rfl:=Option.some.inj h;refine aN (gU (rL (eD (eD (rL (eD (nG hF [.tmp 2] rfl rfl rfl ?_)))))));exact zAJ
      ·(try simp only[go_sem] at hc);have h:=nB zAC h;refine eC (pJ (aN (aQ hF [1,6,91,92,93] (yaA ?_))));obtain⟨g0,h⟩:=bD h;(try simp only[I64,I32] at g0);(repeat (refine⟨zAA,?_⟩));obtain rfl:=Option.some.inj h;dsimp only[aA9] at q;refine dQ (fU [0,1] rfl rfl (yaB ?_));refine aT (L+(1:Int)) q rfl ?_
       ·exact zAI
     ·(try simp only[go_sem] at hc);have h:=nB zAC h;obtain rfl:=Option.some.inj h;dsimp only[aA9] at q;have h:=yaG (q);refine aEh (kJ (kJ (pK (aN (aL (aEk 1 rfl (yaA ?_)))))));refine aQ hF [2] (yaA ?_);obtain⟨g0,h⟩:=bD h;(repeat (refine⟨zAA,?_⟩));obtain rfl:=Option.some.inj h;refine aN (gU (nG hF [.tmp 2] rfl rfl rfl ?_));exact zAJ
attribute [go_sem] aBA
def yE(F:Md)(g:qf)(q:qd)(f:Int):Option ((Int)⊕((Unit)⊕Int)) :=
 if f<(g.2.2.2.2.2.2.2.2.1.length:Int) then ck (0≤f∧f<(g.2.2.2.2.2.2.2.2.1.length:Int)) (if (g.2.2.2.2.2.2.2.2.1.getD (f.toNat) ([],[],[],[],[],())).1=q then some (.inr (.inr f)) else ck (I64 (f+(1:Int))) (some (.inl (f+(1:Int))))) else some (.inr (.inl ()))
def aAE(F:Md)(g:qf)(f:qd):Option Int :=
 (dE F (fun d:Int=>yE F g f d) (0:Int)).bind (fun e=>match e with|(.inl e)=>some (-1:Int)|(.inr e)=>some e)
def aNp:PlR:=⟨[(0,.B [1,2]),(1,.A [1,8,9,10]),(2,.A [1,8,9,10,11]),(3,.B [1,5,6,8,9,10]),(4,.A [1,5,8,9,10,18]),(5,.A [4]),(6,.A [1,8,9,10]),(7,.A [4])],[],[]⟩
def aPW:Ty:=.pair qe wq
def aD2(F:Md):aF:=mSpec aPW (.one qg) (fun x=>aAE F x.1 x.2.1)
abbrev aZM(F:Md):List (FuncId×aF):=[]
theorem aZN[Mx](F:Md):bF Tryz.prog GL (aZM F):=.nil
attribute [go_sem] aPW aNp
theorem aXl[Mx](F:Md):FOK Tryz.prog GL 71 (aD2 F):=by
 refine bQ (aZ (aZN F)) mix Tryz.func71 rfl xP xAa aNp (fun w0 S x Θ z h hV=>?_);obtain⟨(q:qf),(f:qd),u⟩:=x;simp only[cA,go_sem];replace h:sat (aAE F q f) _:=h;unfold aAE at h;refine aDQ [] rfl rfl (yaA ?_);refine bP hV (D:=Int) [1,8,9] (fun d=>[(10,.val qg d)]) (fun d=>[]) h rfl xAb ?_;rintro g I T2 hA2 hE2 h;simp only[go_sem];replace h:sat (yE F q f g) _:=h;unfold yE at h;refine dS h (fun hc h=>?_) fun hc h=>?_
 ·refine aK h fun g0 h=>?_;refine cE h (fun hc h=>?_) fun hc h=>?_
  ·replace h:=yaG (hE2 _ (aA h));exact zaD
  ·refine aK h fun g0 h=>?_;replace h:=hA2 _ (aA h);refine fU [] rfl rfl (yaA ?_);exact zaI
 ·replace h:=yaG (hE2 _ (aA h));exact zaD
attribute [go_sem] aD2
def wL(F:Md)(g:q9)(f:wj):Option Bool :=
 ck ((0:Int)<(f.length:Int)) (some (decide (g.1=(f.getD (0:Nat) ([],[],[],[],())).2.2.2.1)))
def aHg:PlR:=⟨[(0,.B [1,2]),(1,.A [3])],[],[]⟩
def aIt:Ty:=.pair qu (.pair (.rp (.sl qv)) .unit)
def zF(F:Md):aF:=mSpec aIt (.one .bool) (fun x=>wL F x.1 x.2.1)
abbrev aRD(F:Md):List (FuncId×aF):=[]
theorem aRE[Mx](F:Md):bF Tryz.prog GL (aRD F):=.nil
attribute [go_sem] aIt aHg
theorem aPX[Mx](F:Md):FOK Tryz.prog GL 72 (zF F):=by
 refine bQ (aZ (aRE F)) mix Tryz.func72 rfl xP xAa aHg (fun w0 S x Θ q h hV=>?_);obtain⟨(g:q9),(f:wj),u⟩:=x;simp only[cA,go_sem];replace h:sat (wL F g f) _:=h;unfold wL at h;refine aK h fun g0 h=>?_;exact aG hV [.tmp 3] rfl rfl rfl (aA h) xAc
attribute [go_sem] zF
def cO(F:Md)(g:vn)(q:(wj×Unit))(f:Int):Option ((Int)⊕((Unit)⊕Int)) :=
 if f<(g.length:Int) then ck (0≤f∧f<(g.length:Int)) ((wL F (g.getD (f.toNat) ([],(Ex.mk 0 [] []),())) q.1).bind (fun v_27=>if v_27=true then some (.inr (.inr f)) else ck (I64 (f+(1:Int))) (some (.inl (f+(1:Int)))))) else some (.inr (.inl ()))
def dA(F:Md)(g:vn)(f:(wj×Unit)):Option Int :=
 (dE F (fun d:Int=>cO F g f d) (0:Int)).bind (fun e=>match e with|(.inl e)=>some (-1:Int)|(.inr e)=>some e)
def jX:PlR:=⟨[(0,.A [0,1]),(1,.A [0,1,7,8]),(2,.A [0,1,7,8,9]),(3,.A [0,1,5,7,8]),(4,.A [0,1,5,7,8,16]),(5,.A [4]),(6,.A [0,1,7,8]),(7,.A [4])],[],[]⟩
def kH:Ty:=.pair (.sl qu) (.pair (.clo 72 (.pair (.rp (.sl qv)) .unit)) .unit)
def dZ(F:Md):aF:=mSpec kH (.one qg) (fun x=>dA F x.1 x.2.1)
abbrev kI(F:Md):List (FuncId×aF):=[(72,(zF F))]
theorem uC[Mx](F:Md):bF Tryz.prog GL (kI F):=.cons (aPX F) xP (.nil)
attribute [go_sem] kH jX
theorem tL[Mx](F:Md):FOK Tryz.prog GL 117 (dZ F):=by
 refine bQ (aZ (uC F)) mix Tryz.func117 rfl xP xAa jX (fun w0 S x Θ z h hV=>?_);obtain⟨(q:vn),(g:(wj×Unit)),u⟩:=x;simp only[cA,go_sem];replace h:sat (dA F q g) _:=h;unfold dA at h;refine bP hV (D:=Int) [0,1,7] (fun d=>[(8,.val qg d)]) (fun d=>[]) h rfl xAb ?_;rintro f I T2 hA2 hE2 h;simp only[go_sem];replace h:sat (cO F q g f) _:=h;unfold cO at h;exact zaO
attribute [go_sem] dZ
def bM(F:Md)(g:vn)(f:(wj×Unit)):Option Bool :=
 (dA F g f).bind (fun v_8=>some (decide ((0:Int)≤v_8)))
def iP:PlR:=⟨[(0,.A [0,1]),(1,.A [4])],[],[]⟩
def jD:Ty:=.pair (.sl qu) (.pair (.clo 72 (.pair (.rp (.sl qv)) .unit)) .unit)
def dN(F:Md):aF:=mSpec jD (.one .bool) (fun x=>bM F x.1 x.2.1)
abbrev jE(F:Md):List (FuncId×aF):=[(117,(dZ F))]
theorem rW[Mx](F:Md):bF Tryz.prog GL (jE F):=.cons (tL F) xP (.nil)
attribute [go_sem] jD iP
theorem rH[Mx](F:Md):FOK Tryz.prog GL 68 (dN F):=by
 refine bQ (aZ (rW F)) mix Tryz.func68 rfl xP xAa iP (fun w0 S x Θ q h hV=>?_);obtain⟨(g:vn),(f:(wj×Unit)),u⟩:=x;simp only[cA,go_sem];replace h:sat (bM F g f) _:=h;unfold bM at h;refine aB h fun v_8 hv h=>?_;exact zao
attribute [go_sem] dN
def nQ(F:Md)(I:qf)(q:Int)(g:Int)(f:wj):Option ((Int×wj)⊕(wj⊕Bool)) :=
 if g<(((I.2.2.2.2.2.2.2.2.1.getD (q.toNat) ([],[],[],[],[],())).2.2.2.1.length:Nat):Int) then ck (0≤g∧g<(((I.2.2.2.2.2.2.2.2.1.getD (q.toNat) ([],[],[],[],[],())).2.2.2.1.length:Nat):Int)) (ck (¬((f.length:Int)=(0:Int))→((0:Int)<(f.length:Int))) (ck (¬(((f.length:Int)=(0:Int))∨(¬((f.getD (0:Nat) ([],[],[],[],())).1=(I.2.2.2.2.2.2.2.2.1.getD (q.toNat) ([],[],[],[],[],())).1)))→((0:Int)<(f.length:Int))) (if (((f.length:Int)=(0:Int))∨(¬((f.getD (0:Nat) ([],[],[],[],())).1=(I.2.2.2.2.2.2.2.2.1.getD (q.toNat) ([],[],[],[],[],())).1)))∨(¬((f.getD (0:Nat) ([],[],[],[],())).2.1=((I.2.2.2.2.2.2.2.2.1.getD (q.toNat) ([],[],[],[],[],())).2.2.2.1.getD (g.toNat) ([]:List Nat)))) then some (.inr (.inr false)) else ck ((0:Int)<(f.length:Int)) ((aAE F I (f.getD (0:Nat) ([],[],[],[],())).2.2.1).bind (fun z=>ck (¬(z<(0:Int))→(0≤z∧z<(I.2.2.2.2.2.2.2.2.1.length:Int))) (ck (¬(z<(0:Int))→((bM F (I.2.2.2.2.2.2.2.2.1.getD (z.toNat) ([],[],[],[],[],())).2.2.2.2.1 (f,())).isSome=true)) (if (z<(0:Int))∨(¬(((bM F (I.2.2.2.2.2.2.2.2.1.getD (z.toNat) ([],[],[],[],[],())).2.2.2.2.1 (f,())).getD false)=true)) then some (.inr (.inr false)) else ck ((1:Int)≤(f.length:Int)) (ck (I64 (g+(1:Int))) (some (.inl ((g+(1:Int)),(List.drop (1:Nat) f)))))))))))) else some (.inr (.inl f))
def nR(F:Md)(q:qf)(f:Int)(g:wj):Option ((Int×wj)⊕(wj⊕Bool)) :=
 if f<(q.2.2.2.2.2.2.2.2.1.length:Int) then ck (0≤f∧f<(q.2.2.2.2.2.2.2.2.1.length:Int)) ((dE F (fun d:Int×wj=>nQ F q f d.1 d.2) ((0:Int),g)).bind (fun e=>match e with|(.inl e)=>ck (I64 (f+(1:Int))) (some (.inl ((f+(1:Int)),e)))|(.inr e)=>some (.inr (.inr e)))) else some (.inr (.inl g))
def tM(F:Md)(f:qf):Option Bool :=
 (dE F (fun d:Int×wj=>nR F f d.1 d.2) ((0:Int),f.2.2.2.2.2.2.2.2.2.1)).bind (fun e=>match e with|(.inl e)=>some (decide ((e.length:Int)=(0:Int)))|(.inr e)=>some e)
def aKb:PlR:=⟨[(0,.B [1]),(1,.B [1,3]),(2,.A [1,3,12,13,14]),(3,.A [1,3,12,13,14,15]),(4,.B [1,3,5,12,13,14]),(5,.A [1,3,5,12,13,14,19,20,21]),(6,.A [1,3,5,12,13,14,19,20,21,22]),(7,.A [1,3,5,7,12,13,14,19,20,21]),(8,.A [1,3,5,12,13,14,19,20,21,44]),(9,.A [2]),(10,.A [1,3,5,8,12,13,14,19,20,21]),(11,.A [1,3,5,12,13,14,19,20,21,63]),(12,.A [2]),(13,.B [1,3,5,12,13,14,19,20,21]),(14,.A [1,3,5,12,13,14,19,20,21]),(15,.A [1,3,12,13,14]),(16,.A [2])],[],[]⟩
def aLH:Ty:=.pair qe .unit
def aBB(F:Md):aF:=mSpec aLH (.one .bool) (fun x=>tM F x.1)
abbrev aGr(F:Md):List (FuncId×aF):=[(68,(dN F)),(71,(aD2 F))]
theorem aV2[Mx](F:Md):bF Tryz.prog GL (aGr F):=.cons (rH F) xP (.cons (aXl F) xP (.nil))
attribute [go_sem] aLH aKb
theorem aTG[Mx](F:Md):FOK Tryz.prog GL 26 (aBB F):=by
 refine bQ (aZ (aV2 F)) mix Tryz.func26 rfl xP xAa aKb (fun w0 S x Θ Z h hV=>?_);obtain⟨(g:qf),u⟩:=x;simp only[cA,go_sem];replace h:sat (tM F g) _:=h;unfold tM at h;refine bP hV (D:=Int×wj) [12,13] (fun d=>[(1,.ptr 0 []),(3,.ptr 1 []),(14,.val qg d.1)]) (fun d=>[.inr (.box 10 (.val qe g)),.inr (.box 1 (.val (.sl qv) d.2))]) h rfl xAb ?_;rintro⟨f,L⟩ Y T3 N z h;simp only[go_sem];replace h:sat (nR F g f L) _:=h;unfold nR at h;refine dS h (fun hc h=>?_) fun hc h=>?_
 ·refine aD h fun g0 h=>(yaD ?_);refine bP hV (D:=Int×wj) [12,13,14,19,20] (fun d=>[(1,.ptr 0 []),(3,.ptr 1 []),(5,.ptr 2 []),(21,.val qg d.1)]) (fun d=>[.inr (.box 10 (.val qe g)),.inr (.box 1 (.val (.sl qv) d.2)),.inr (.box 5 (.val qa (g.2.2.2.2.2.2.2.2.1.getD (f.toNat) ([],[],[],[],[],()))))]) h rfl xAb ?_;rintro⟨q,J⟩ A6 T6 O I h;simp only[go_sem];replace h:sat (nQ F g f q J) _:=h;unfold nQ at h;refine dS h (fun hc h=>?_) fun hc h=>?_
  ·refine aD h fun g0 h=>(yaD ?_);refine aD h fun g0 h=>?_;refine aD h fun g1 h=>?_;(repeat (refine⟨zAG,?_⟩));refine⟨fun hc=>?_,fun hc=>?_⟩
   ·replace h:=fQ hc h;replace h:=yaG (I _ (aA h));replace h:=yaG (z _ (aA h));exact zaE
   ·replace h:=fR hc h;refine aD h fun g0 h=>(yaD ?_);refine aB h fun U hv h=>?_;(try simp only[hv,go_sem]);refine aD h fun g0 h=>?_;refine aD h fun g1 h=>?_;(repeat (refine⟨zAG,?_⟩));refine⟨fun hc=>?_,fun hc=>?_⟩
    ·replace h:=fQ zAC h;replace h:=yaG (I _ (aA h));replace h:=yaG (z _ (aA h));exact zaE
    ·replace h:=fR zAC h;refine aD h fun g0 h=>(yaD ?_);refine aD h fun g0 h=>?_;(try simp only[I64,I32] at g0);(repeat (refine⟨zAB,?_⟩));replace h:=O _ (aA h);exact zaI
  ·replace h:=yaG (I _ (aA h));refine aD h fun g0 h=>?_;(try simp only[I64,I32] at g0);(repeat (refine⟨zAB,?_⟩));replace h:=N _ (aA h);refine fU [0,1] rfl rfl (yaA ?_);exact zaI
 ·replace h:=yaG (z _ (aA h));exact zaE
attribute [go_sem] aBB
def wM(F:Md)(g:qf)(names_16:q8):Option (Bool) :=
 (sL F names_16).bind (fun f=>ck ((f=true)→((tM F g).isSome=true)) (some (f&&((tM F g).getD false))))
def tN(F:Md)(g:qf)(f:Int)(names_24:q8):Option ((Int×q8)⊕(q8⊕Bool)) :=
 if f<(g.2.2.2.2.2.2.2.2.1.length:Int) then ck (0≤f∧f<(g.2.2.2.2.2.2.2.2.1.length:Int)) ((wK F (g.2.2.2.2.2.2.2.2.1.getD (f.toNat) ([],[],[],[],[],()))).bind (fun q=>if ¬(q=true) then some (.inr (.inr false)) else ck (((names_24.length)+(1:Nat))*16≤140737488355328) (ck (I64 (f+(1:Int))) (some (.inl ((f+(1:Int)),(names_24++([(g.2.2.2.2.2.2.2.2.1.getD (f.toNat) ([],[],[],[],[],())).1]:List qd)))))))) else some (.inr (.inl names_24))
def iQ(F:Md)(f:qf):Option Bool :=
 (uL F f).bind (fun g=>if ((¬(g=true))∨((f.2.2.2.2.2.2.2.2.1.length:Int)<(1:Int)))∨((4:Int)<(f.2.2.2.2.2.2.2.2.1.length:Int)) then some false else (dE F (fun d:Int×q8=>tN F f d.1 d.2) ((0:Int),([]:List qd))).bind (fun e=>match e with|(.inl e)=>wM F f e|(.inr e)=>some e))
def aP0:PlR:=⟨[(0,.B [1]),(1,.A [1,20]),(2,.A [2]),(3,.A [1,3]),(4,.A [1,3,22,23,24]),(5,.A [1,3,22,23,24,25]),(6,.B [1,3,5,22,23,24]),(7,.A [1,3,5,22,23,24,30]),(8,.A [2]),(9,.B [1,3,22,23,24]),(10,.A [1,3,22,23,24]),(11,.A [2])],[(7,14)],[]⟩
def aST:Ty:=.pair qe .unit
def uZ(F:Md):aF:=mSpec aST (.one .bool) (fun x=>iQ F x.1)
abbrev aEu(F:Md):List (FuncId×aF):=[(23,(aAz F)),(24,(aBA F)),(25,(wH F)),(26,(aBB F))]
theorem bBR[Mx](F:Md):bF Tryz.prog GL (aEu F):=.cons (aRv F) xP (.cons (aTF F) xP (.cons (aLA F) xP (.cons (aTG F) xP (.nil))))
attribute [go_sem] aST aP0
theorem aJA[Mx](F:Md):FOK Tryz.prog GL 8 (uZ F):=by
 refine bQ (aZ (bBR F)) mix Tryz.func8 rfl xP xAa aP0 (fun w0 S x Θ O h hV=>?_);obtain⟨(f:qf),u⟩:=x;simp only[cA,go_sem];replace h:sat (iQ F f) _:=h;unfold iQ at h;refine aB h fun L hv h=>?_;try simp only[hv,go_sem]
 refine⟨fun hc=>?_,fun hc=>?_⟩
 ·replace h:=fQ zAC h;exact zaE
 ·replace h:=fR zAC h;refine dB hV (D:=q8) (fun d=>sat (wM F f d) Θ) [] (fun d=>[(1,.ptr 0 []),(3,.own 1)]) (fun d=>[.inr (.box 10 (.val qe f)),.inr (.row 9 .str d)]) ?_ ?_
  ·simp only[go_sem];refine aGa 3 9 .str rfl (yaA ?_);refine bP hV (D:=Int×q8) [22,23] (fun d=>[(1,.ptr 0 []),(3,.own 1),(24,.val qg d.1)]) (fun d=>[.inr (.box 10 (.val qe f)),.inr (.row 9 .str d.2)]) h rfl xAb ?_;rintro⟨g,names_24⟩ N T5 z q h;simp only[go_sem];replace h:sat (tN F f g names_24) _:=h;unfold tN at h;refine dS h (fun hc h=>?_) fun hc h=>?_
   ·refine aD h fun g0 h=>(yaC ?_);refine aB h fun J hv h=>?_;(try simp only[hv,go_sem]);refine zT h (fun hc h=>?_) fun hc h=>?_
    ·replace h:=yaG (q _ (aA h));exact zaE
    ·refine aD h fun g0 h=>(yaC ?_);refine aD h fun g0 h=>(yaC ?_);replace h:=z _ (aA h);refine fU [0,3] rfl rfl (yaA ?_);exact zaI
   ·replace h:=yaG (q _ (aA h));exact aT (names_24) h rfl xAb
  ·rintro names_16 h;simp only[go_sem];replace h:sat (wM F f names_16) _:=h;unfold wM at h;refine aB h fun I hv h=>?_;(try simp only[hv,go_sem]);refine aD h fun g0 h=>(yaC ?_);exact zaE
attribute [go_sem] uZ
def kV(F:Md)(g:(List we))(q:(List we))(f:Int):Option ((Int)⊕((Unit)⊕Bool)) :=
 if f<(g.length:Int) then ck (0≤f∧f<(g.length:Int)) (ck (0≤f∧f<(q.length:Int)) (if ¬((Ty.eqb qz (g.getD (f.toNat) ([],([],[],()),())) (q.getD (f.toNat) ([],([],[],()),())))=true) then some (.inr (.inr false)) else ck (I64 (f+(1:Int))) (some (.inl (f+(1:Int)))))) else some (.inr (.inl ()))
def gA(F:Md)(f:(List we))(g:(List we)):Option Bool :=
 if ¬((f.length:Int)=(g.length:Int)) then some false else (dE F (fun d:Int=>kV F f g d) (0:Int)).bind (fun e=>match e with|(.inl e)=>some true|(.inr e)=>some e)
def aCi:PlR:=⟨[(0,.A [0,1]),(1,.A [0,1,10]),(2,.A [4]),(3,.A [0,1,12,13]),(4,.A [0,1,12,13,14]),(5,.A [0,1,5,12,13]),(6,.A [0,1,12,13,24]),(7,.A [4]),(8,.A [0,1,12,13]),(9,.A [4])],[],[]⟩
def aCW:Ty:=.pair (.sl qz) (.pair (.sl qz) .unit)
def qO(F:Md):aF:=mSpec aCW (.one .bool) (fun x=>gA F x.1 x.2.1)
abbrev aJB(F:Md):List (FuncId×aF):=[]
theorem aJC[Mx](F:Md):bF Tryz.prog GL (aJB F):=.nil
attribute [go_sem] aCW aCi
theorem aIu[Mx](F:Md):FOK Tryz.prog GL 78 (qO F):=by
 refine bQ (aZ (aJC F)) mix Tryz.func78 rfl xP xAa aCi (fun w0 S x Θ z h hV=>?_);obtain⟨(g:(List we)),(f:(List we)),u⟩:=x;simp only[cA,go_sem];replace h:sat (gA F g f) _:=h;unfold gA at h;refine cE h (fun hc h=>?_) fun hc h=>?_
 ·exact aG hV [.tmp 4] rfl rfl rfl (aA h) xAc
 ·refine bP hV (D:=Int) [0,1,12] (fun d=>[(13,.val qg d)]) (fun d=>[]) h rfl xAb ?_;rintro q I T4 hA4 hE4 h;simp only[go_sem];replace h:sat (kV F g f q) _:=h;unfold kV at h;exact zaX
attribute [go_sem] qO
def lS(F:Md)(g:q8)(q:q8)(f:Int):Option ((Int)⊕((Unit)⊕Bool)) :=
 if f<(g.length:Int) then ck (0≤f∧f<(g.length:Int)) (ck (0≤f∧f<(q.length:Int)) (if ¬((g.getD (f.toNat) ([]:List Nat))=(q.getD (f.toNat) ([]:List Nat))) then some (.inr (.inr false)) else ck (I64 (f+(1:Int))) (some (.inl (f+(1:Int)))))) else some (.inr (.inl ()))
def iU(F:Md)(f:q8)(g:q8):Option Bool :=
 if ¬((f.length:Int)=(g.length:Int)) then some false else (dE F (fun d:Int=>lS F f g d) (0:Int)).bind (fun e=>match e with|(.inl e)=>some true|(.inr e)=>some e)
def aCX:PlR:=⟨[(0,.A [0,1]),(1,.A [0,1,10]),(2,.A [4]),(3,.A [0,1,12,13]),(4,.A [0,1,12,13,14]),(5,.A [0,1,5,12,13]),(6,.A [0,1,12,13,24]),(7,.A [4]),(8,.A [0,1,12,13]),(9,.A [4])],[],[]⟩
def aDp:Ty:=.pair wo (.pair wo .unit)
def rX(F:Md):aF:=mSpec aDp (.one .bool) (fun x=>iU F x.1 x.2.1)
abbrev aKw(F:Md):List (FuncId×aF):=[]
theorem aKx[Mx](F:Md):bF Tryz.prog GL (aKw F):=.nil
attribute [go_sem] aDp aCX
theorem aJD[Mx](F:Md):FOK Tryz.prog GL 79 (rX F):=by
 refine bQ (aZ (aKx F)) mix Tryz.func79 rfl xP xAa aCX (fun w0 S x Θ z h hV=>?_);obtain⟨(g:q8),(f:q8),u⟩:=x;simp only[cA,go_sem];replace h:sat (iU F g f) _:=h;unfold iU at h;refine cE h (fun hc h=>?_) fun hc h=>?_
 ·exact aG hV [.tmp 4] rfl rfl rfl (aA h) xAc
 ·refine bP hV (D:=Int) [0,1,12] (fun d=>[(13,.val qg d)]) (fun d=>[]) h rfl xAb ?_;rintro q I T4 hA4 hE4 h;simp only[go_sem];replace h:sat (lS F g f q) _:=h;unfold lS at h;refine dS h (fun hc h=>?_) fun hc h=>?_
  ·refine aK h fun g0 h=>aK h fun g1 h=>?_;refine cE h (fun hc h=>?_) fun hc h=>?_
   ·replace h:=yaG (hE4 _ (aA h));exact zaD
   ·refine aK h fun g0 h=>?_;replace h:=hA4 _ (aA h);exact zaI
  ·replace h:=yaG (hE4 _ (aA h));exact zaD
attribute [go_sem] rX
def jY(F:Md)(g:wj)(q:wj)(f:Int):Option ((Int)⊕((Unit)⊕Bool)) :=
 if f<(g.length:Int) then ck (0≤f∧f<(g.length:Int)) (ck (0≤f∧f<(q.length:Int)) (if ¬((Ty.eqb qv (g.getD (f.toNat) ([],[],[],[],())) (q.getD (f.toNat) ([],[],[],[],())))=true) then some (.inr (.inr false)) else ck (I64 (f+(1:Int))) (some (.inl (f+(1:Int)))))) else some (.inr (.inl ()))
def gR(F:Md)(f:wj)(g:wj):Option Bool :=
 if ¬((f.length:Int)=(g.length:Int)) then some false else (dE F (fun d:Int=>jY F f g d) (0:Int)).bind (fun e=>match e with|(.inl e)=>some true|(.inr e)=>some e)
def aBo:PlR:=⟨[(0,.A [0,1]),(1,.A [0,1,10]),(2,.A [4]),(3,.A [0,1,12,13]),(4,.A [0,1,12,13,14]),(5,.A [0,1,5,12,13]),(6,.A [0,1,12,13,24]),(7,.A [4]),(8,.A [0,1,12,13]),(9,.A [4])],[],[]⟩
def aCj:Ty:=.pair (.sl qv) (.pair (.sl qv) .unit)
def pO(F:Md):aF:=mSpec aCj (.one .bool) (fun x=>gR F x.1 x.2.1)
abbrev aIv(F:Md):List (FuncId×aF):=[]
theorem aIw[Mx](F:Md):bF Tryz.prog GL (aIv F):=.nil
attribute [go_sem] aCj aBo
theorem aHL[Mx](F:Md):FOK Tryz.prog GL 29 (pO F):=by
 refine bQ (aZ (aIw F)) mix Tryz.func29 rfl xP xAa aBo (fun w0 S x Θ z h hV=>?_);obtain⟨(g:wj),(f:wj),u⟩:=x;simp only[cA,go_sem];replace h:sat (gR F g f) _:=h;unfold gR at h;refine cE h (fun hc h=>?_) fun hc h=>?_
 ·exact aG hV [.tmp 4] rfl rfl rfl (aA h) xAc
 ·refine bP hV (D:=Int) [0,1,12] (fun d=>[(13,.val qg d)]) (fun d=>[]) h rfl xAb ?_;rintro q I T4 hA4 hE4 h;simp only[go_sem];replace h:sat (jY F g f q) _:=h;unfold jY at h;exact zaX
attribute [go_sem] pO
@[go_sem]def aAF:Ty:=.pair .expr (.pair .expr .unit)
@[go_sem]def nS(g:Ex→Ex→Option (Bool)):aF:=mSpec aAF (.one .bool) (fun x=>g x.1 x.2.1)
def bR(F:Md)(g:Ex→Ex→Option (Bool))(q:vo)(z:vo)(f:Int):Option ((Int)⊕((Unit)⊕Bool)) :=
 if f<(q.length:Int) then ck (0≤f∧f<(q.length:Int)) (ck (0≤f∧f<(z.length:Int)) ((g (q.getD (f.toNat) (Ex.mk 0 [] [])) (z.getD (f.toNat) (Ex.mk 0 [] []))).bind (fun v_28=>if ¬(v_28=true) then some (.inr (.inr false)) else ck (I64 (f+(1:Int))) (some (.inl (f+(1:Int))))))) else some (.inr (.inl ()))
def aY(F:Md)(g:Ex→Ex→Option (Bool))(f:vo)(q:vo)(z:Unit):Option Bool :=
 if ¬((f.length:Int)=(q.length:Int)) then some false else (dE F (fun d:Int=>bR F g f q d) (0:Int)).bind (fun e=>match e with|(.inl e)=>some true|(.inr e)=>some e)
def eV:PlR:=⟨[(0,.A [0,1,2]),(1,.A [0,1,2,14]),(2,.A [6]),(3,.A [1,2,15,16,17]),(4,.A [1,2,15,16,17,18]),(5,.B [1,2,7,8,15,16,17]),(6,.B [1,2,8,9,15,16,17]),(7,.A [1,2,15,16,17,30]),(8,.A [6]),(9,.A [1,2,15,16,17]),(10,.A [6])],[],[]⟩
def eY:Ty:=.pair (.sl .expr) (.pair (.sl .expr) (.pair (.clo 75 .unit) .unit))
def cF(F:Md)(g:Ex→Ex→Option (Bool)):aF:=mSpec eY (.one .bool) (fun x=>aY F g x.1 x.2.1 x.2.2.1)
abbrev eZ(F:Md)(g:Ex→Ex→Option (Bool)):List (FuncId×aF):=[(75,(nS g))]
theorem lH[Mx](F:Md)(g:Ex→Ex→Option (Bool))(f:FOK Tryz.prog GL 75 (nS g)):bF Tryz.prog GL (eZ F g):=.cons f xP (.nil)
attribute [go_sem] eY eV
theorem kZ[Mx](F:Md)(g:Ex→Ex→Option (Bool))(J:FOK Tryz.prog GL 75 (nS g)):FOK Tryz.prog GL 120 (cF F g):=by
 refine bQ (aZ (lH F g J)) mix Tryz.func120 rfl xP xAa eV (fun w0 S x Θ L h hV=>?_);obtain⟨(z:vo),(q:vo),(I:Unit),u⟩:=x;simp only[cA,go_sem];replace h:sat (aY F g z q I) _:=h;unfold aY at h;refine cE h (fun hc h=>?_) fun hc h=>?_
 ·exact aG hV [.tmp 6] rfl rfl rfl (aA h) xAc
 ·refine bP hV (D:=Int) [1,2,15,16] (fun d=>[(17,.val qg d)]) (fun d=>[]) h rfl xAb ?_;rintro f N T4 hA4 hE4 h;simp only[go_sem];replace h:sat (bR F g z q f) _:=h;unfold bR at h;exact zaG
attribute [go_sem] cF
def pD(F:Md)(g:Ex→Ex→Option (Bool))(f:Ex)(q:Ex):Option Bool :=
 ck ((((f.kind)=(q.kind))∧((f.text)=(q.text)))→((aY F g (f.l) (q.l) ()).isSome=true)) (some (((decide ((f.kind)=(q.kind)))&&(decide ((f.text)=(q.text))))&&((aY F g (f.l) (q.l) ()).getD false)))
def aHh:PlR:=⟨[(0,.B [2,3]),(1,.A [4])],[],[]⟩
abbrev aIx(F:Md)(g:Ex→Ex→Option (Bool)):List (FuncId×aF):=[(120,(cF F g))]
theorem aRF[Mx](F:Md)(g:Ex→Ex→Option (Bool))(f:FOK Tryz.prog GL 75 (nS g)):bF Tryz.prog GL (aIx F g):=.cons (kZ F g f) xP (.nil)
attribute [go_sem] aHh
theorem aOi[Mx](F:Md)(g:Ex→Ex→Option (Bool))(z:FOK Tryz.prog GL 75 (nS g)):FOK Tryz.prog GL 75 (mSpec aAF (.one .bool) (fun x=>pD F g x.1 x.2.1)):=by
 refine bQ (aZ (aRF F g z)) mix Tryz.func75 rfl xP xAa aHh (fun w0 S x Θ I h hV=>?_);obtain⟨(f:Ex),(q:Ex),u⟩:=x;simp only[cA,go_sem];replace h:sat (pD F g f q) _:=h;unfold pD at h;refine aK h fun g0 h=>?_;exact zaD
def kN(F:Md):Nat→Ex→Ex→Option (Bool)
 | 0=>fun _ _=>none
 | n+1=>pD F (kN F n)
def qP(F:Md)(n:Nat):aF:=mSpec aAF (.one .bool) (fun x=>kN F n x.1 x.2.1)
theorem aCY[Mx](F:Md):∀n,FOK Tryz.prog GL 75 (qP F n)
 | 0=>fun _ _ _ _ _ _ _ hp=>Bool.noConfusion (show false=true from hp)
 | n+1=>aOi F _ (aCY F n)
attribute [go_sem] qP
def vA(F:Md)(g:wV)(f:wV):Option Bool :=
 ck (((g.1=f.1)∧((Ty.eqb qj g.2.1 f.2.1)=true))→((kN F 64 g.2.2.1 f.2.2.1).isSome=true)) (some (((decide (g.1=f.1))&&(Ty.eqb qj g.2.1 f.2.1))&&((kN F 64 g.2.2.1 f.2.2.1).getD false)))
@[go_sem]def zG:Ty:=.pair qr (.pair qr .unit)
def xJ(F:Md):aF:=mSpec zG (.one .bool) (fun x=>vA F x.1 x.2.1)
abbrev aCZ(F:Md):List (FuncId×aF):=[(75,(qP F 64))]
theorem aHi[Mx](F:Md):bF Tryz.prog GL (aCZ F):=.cons (aCY F 64) xP (.nil)
theorem aOj[Mx](F:Md):FOK Tryz.prog GL 74 (xJ F):=by
 refine aDD (aZ (aHi F)) Tryz.func74 rfl xP xAa fun w0 S x r q h=>?_;have hF:uP (fr Tryz.prog (EM (aCZ F)) S w0 Tryz.f74.ntmps):=⟨aZ (aHi F),mix⟩;obtain⟨(g:wV),(f:wV),u⟩:=x;simp only[zG,Ty.wf,aF8] at q;simp only[cA,zG];try dsimp only at h
 replace h:vA F g f=some r:=h;unfold vA at h;refine aL (dH hF [2,3] (yaA ?_));refine aN (aL (aQ hF [4] (yaA ?_)));obtain⟨g0,h⟩:=bD h;repeat (refine⟨by first|with_reducible assumption|omega|(intros; first|with_reducible assumption|omega)|(simp only[go_sem] at *; first|with_reducible assumption|omega)|(intro _; exact⟨rfl,by decide⟩)|(intro _; refine(?_:_=aI _); rfl)|(refine(?_:_=aI _); rfl)|exact⟨rfl,rfl⟩|(intro q0; (try have e0:=g0 (by first|exact q0|omega|(simpa using q0))); first|assumption|omega)|decide,?_⟩)
 obtain rfl:=Option.some.inj h;refine aN (gU (nG hF [.tmp 4] rfl rfl rfl ?_));exact zAJ
attribute [go_sem] xJ
def bN(F:Md)(g:(List wV))(q:(List wV))(f:Int):Option ((Int)⊕((Unit)⊕Bool)) :=
 if f<(g.length:Int) then ck (0≤f∧f<(g.length:Int)) (ck (0≤f∧f<(q.length:Int)) ((vA F (g.getD (f.toNat) ([],([],[],()),(Ex.mk 0 [] []),())) (q.getD (f.toNat) ([],([],[],()),(Ex.mk 0 [] []),()))).bind (fun v_28=>if ¬(v_28=true) then some (.inr (.inr false)) else ck (I64 (f+(1:Int))) (some (.inl (f+(1:Int))))))) else some (.inr (.inl ()))
def bE(F:Md)(f:(List wV))(g:(List wV))(q:Unit):Option Bool :=
 if ¬((f.length:Int)=(g.length:Int)) then some false else (dE F (fun d:Int=>bN F f g d) (0:Int)).bind (fun e=>match e with|(.inl e)=>some true|(.inr e)=>some e)
def eQ:PlR:=⟨[(0,.A [0,1,2]),(1,.A [0,1,2,14]),(2,.A [6]),(3,.A [1,2,15,16,17]),(4,.A [1,2,15,16,17,18]),(5,.B [1,2,7,8,15,16,17]),(6,.B [1,2,8,9,15,16,17]),(7,.A [1,2,15,16,17,30]),(8,.A [6]),(9,.A [1,2,15,16,17]),(10,.A [6])],[],[]⟩
def eR:Ty:=.pair (.sl qr) (.pair (.sl qr) (.pair (.clo 74 .unit) .unit))
def cB(F:Md):aF:=mSpec eR (.one .bool) (fun x=>bE F x.1 x.2.1 x.2.2.1)
abbrev eS(F:Md):List (FuncId×aF):=[(74,(xJ F))]
theorem jZ[Mx](F:Md):bF Tryz.prog GL (eS F):=.cons (aOj F) xP (.nil)
attribute [go_sem] eR eQ
theorem jO[Mx](F:Md):FOK Tryz.prog GL 73 (cB F):=by
 refine bQ (aZ (jZ F)) mix Tryz.func73 rfl xP xAa eQ (fun w0 S x Θ I h hV=>?_);obtain⟨(q:(List wV)),(g:(List wV)),(z:Unit),u⟩:=x;simp only[cA,go_sem];replace h:sat (bE F q g z) _:=h;unfold bE at h;refine cE h (fun hc h=>?_) fun hc h=>?_
 ·exact aG hV [.tmp 6] rfl rfl rfl (aA h) xAc
 ·refine bP hV (D:=Int) [1,2,15,16] (fun d=>[(17,.val qg d)]) (fun d=>[]) h rfl xAb ?_;rintro f J T4 hA4 hE4 h;simp only[go_sem];replace h:sat (bN F q g f) _:=h;unfold bN at h;exact zaG
attribute [go_sem] cB
def vB(F:Md)(g:q9)(f:q9):Option Bool :=
 ck ((g.1=f.1)→((kN F 64 g.2.1 f.2.1).isSome=true)) (some ((decide (g.1=f.1))&&((kN F 64 g.2.1 f.2.1).getD false)))
def aGs:PlR:=⟨[(0,.B [2,3]),(1,.A [4])],[],[]⟩
def aHj:Ty:=.pair qu (.pair qu .unit)
def xK(F:Md):aF:=mSpec aHj (.one .bool) (fun x=>vB F x.1 x.2.1)
abbrev aHk(F:Md):List (FuncId×aF):=[(75,(qP F 64))]
theorem aP1[Mx](F:Md):bF Tryz.prog GL (aHk F):=.cons (aCY F 64) xP (.nil)
attribute [go_sem] aHj aGs
theorem aOk[Mx](F:Md):FOK Tryz.prog GL 77 (xK F):=by
 refine bQ (aZ (aP1 F)) mix Tryz.func77 rfl xP xAa aGs (fun w0 S x Θ q h hV=>?_);obtain⟨(g:q9),(f:q9),u⟩:=x;simp only[cA,go_sem];replace h:sat (vB F g f) _:=h;unfold vB at h;refine aK h fun g0 h=>?_;exact zaD
attribute [go_sem] xK
def bT(F:Md)(g:vn)(q:vn)(f:Int):Option ((Int)⊕((Unit)⊕Bool)) :=
 if f<(g.length:Int) then ck (0≤f∧f<(g.length:Int)) (ck (0≤f∧f<(q.length:Int)) ((vB F (g.getD (f.toNat) ([],(Ex.mk 0 [] []),())) (q.getD (f.toNat) ([],(Ex.mk 0 [] []),()))).bind (fun v_28=>if ¬(v_28=true) then some (.inr (.inr false)) else ck (I64 (f+(1:Int))) (some (.inl (f+(1:Int))))))) else some (.inr (.inl ()))
def bO(F:Md)(f:vn)(g:vn)(q:Unit):Option Bool :=
 if ¬((f.length:Int)=(g.length:Int)) then some false else (dE F (fun d:Int=>bT F f g d) (0:Int)).bind (fun e=>match e with|(.inl e)=>some true|(.inr e)=>some e)
def fD:PlR:=⟨[(0,.A [0,1,2]),(1,.A [0,1,2,14]),(2,.A [6]),(3,.A [1,2,15,16,17]),(4,.A [1,2,15,16,17,18]),(5,.B [1,2,7,8,15,16,17]),(6,.B [1,2,8,9,15,16,17]),(7,.A [1,2,15,16,17,30]),(8,.A [6]),(9,.A [1,2,15,16,17]),(10,.A [6])],[],[]⟩
def fJ:Ty:=.pair (.sl qu) (.pair (.sl qu) (.pair (.clo 77 .unit) .unit))
def cG(F:Md):aF:=mSpec fJ (.one .bool) (fun x=>bO F x.1 x.2.1 x.2.2.1)
abbrev fK(F:Md):List (FuncId×aF):=[(77,(xK F))]
theorem mF[Mx](F:Md):bF Tryz.prog GL (fK F):=.cons (aOk F) xP (.nil)
attribute [go_sem] fJ fD
theorem lX[Mx](F:Md):FOK Tryz.prog GL 76 (cG F):=by
 refine bQ (aZ (mF F)) mix Tryz.func76 rfl xP xAa fD (fun w0 S x Θ I h hV=>?_);obtain⟨(q:vn),(g:vn),(z:Unit),u⟩:=x;simp only[cA,go_sem];replace h:sat (bO F q g z) _:=h;unfold bO at h;refine cE h (fun hc h=>?_) fun hc h=>?_
 ·exact aG hV [.tmp 6] rfl rfl rfl (aA h) xAc
 ·refine bP hV (D:=Int) [1,2,15,16] (fun d=>[(17,.val qg d)]) (fun d=>[]) h rfl xAb ?_;rintro f J T4 hA4 hE4 h;simp only[go_sem];replace h:sat (bT F q g f) _:=h;unfold bT at h;exact zaG
attribute [go_sem] cG
def uM(F:Md)(f:qc)(g:qc):Option Bool :=
 (bE F f.2.1 g.2.1 ()).bind (fun v_8=>(bO F f.2.2.2.2.1 g.2.2.2.2.1 ()).bind (fun q=>ck ((((v_8=true)∧(q=true))∧(f.1=g.1))→((gA F f.2.2.1 g.2.2.1).isSome=true)) (ck (((((v_8=true)∧(q=true))∧(f.1=g.1))∧(((gA F f.2.2.1 g.2.2.1).getD false)=true))→((iU F f.2.2.2.1 g.2.2.2.1).isSome=true)) (some ((((v_8&&q)&&(decide (f.1=g.1)))&&((gA F f.2.2.1 g.2.2.1).getD false))&&((iU F f.2.2.2.1 g.2.2.2.1).getD false))))))
def aIy:PlR:=⟨[(0,.B [2,3]),(1,.A [2,3,5]),(2,.A [2,3,5,6]),(3,.A [4])],[],[]⟩
def aKc:Ty:=.pair qa (.pair qa .unit)
def aAG(F:Md):aF:=mSpec aKc (.one .bool) (fun x=>uM F x.1 x.2.1)
abbrev yF(F:Md):List (FuncId×aF):=[(73,(cB F)),(76,(cG F)),(78,(qO F)),(79,(rX F))]
theorem aTH[Mx](F:Md):bF Tryz.prog GL (yF F):=.cons (jO F) xP (.cons (lX F) xP (.cons (aIu F) xP (.cons (aJD F) xP (.nil))))
attribute [go_sem] aKc aIy
theorem aRG[Mx](F:Md):FOK Tryz.prog GL 28 (aAG F):=by
 refine bQ (aZ (aTH F)) mix Tryz.func28 rfl xP xAa aIy (fun w0 S x Θ z h hV=>?_);obtain⟨(f:qc),(g:qc),u⟩:=x;simp only[cA,go_sem];replace h:sat (uM F f g) _:=h;unfold uM at h;refine aB h fun v_8 hv h=>?_;try simp only[hv,go_sem]
 refine aB h fun q hv h=>?_;try simp only[hv,go_sem]
 refine aK h fun g0 h=>aK h fun g1 h=>?_;exact zaD
attribute [go_sem] aAG
def bZ(F:Md)(g:vm)(q:vm)(f:Int):Option ((Int)⊕((Unit)⊕Bool)) :=
 if f<(g.length:Int) then ck (0≤f∧f<(g.length:Int)) (ck (0≤f∧f<(q.length:Int)) ((uM F (g.getD (f.toNat) ([],[],[],[],[],())) (q.getD (f.toNat) ([],[],[],[],[],()))).bind (fun v_28=>if ¬(v_28=true) then some (.inr (.inr false)) else ck (I64 (f+(1:Int))) (some (.inl (f+(1:Int))))))) else some (.inr (.inl ()))
def aW(F:Md)(f:vm)(g:vm)(q:Unit):Option Bool :=
 if ¬((f.length:Int)=(g.length:Int)) then some false else (dE F (fun d:Int=>bZ F f g d) (0:Int)).bind (fun e=>match e with|(.inl e)=>some true|(.inr e)=>some e)
def fO:PlR:=⟨[(0,.A [0,1,2]),(1,.A [0,1,2,14]),(2,.A [6]),(3,.A [1,2,15,16,17]),(4,.A [1,2,15,16,17,18]),(5,.B [1,2,7,8,15,16,17]),(6,.B [1,2,8,9,15,16,17]),(7,.A [1,2,15,16,17,30]),(8,.A [6]),(9,.A [1,2,15,16,17]),(10,.A [6])],[],[]⟩
def fS:Ty:=.pair (.sl qa) (.pair (.sl qa) (.pair (.clo 28 .unit) .unit))
def cK(F:Md):aF:=mSpec fS (.one .bool) (fun x=>aW F x.1 x.2.1 x.2.2.1)
abbrev fT(F:Md):List (FuncId×aF):=[(28,(aAG F))]
theorem nA[Mx](F:Md):bF Tryz.prog GL (fT F):=.cons (aRG F) xP (.nil)
attribute [go_sem] fS fO
theorem mQ[Mx](F:Md):FOK Tryz.prog GL 27 (cK F):=by
 refine bQ (aZ (nA F)) mix Tryz.func27 rfl xP xAa fO (fun w0 S x Θ I h hV=>?_);obtain⟨(q:vm),(g:vm),(z:Unit),u⟩:=x;simp only[cA,go_sem];replace h:sat (aW F q g z) _:=h;unfold aW at h;refine cE h (fun hc h=>?_) fun hc h=>?_
 ·exact aG hV [.tmp 6] rfl rfl rfl (aA h) xAc
 ·refine bP hV (D:=Int) [1,2,15,16] (fun d=>[(17,.val qg d)]) (fun d=>[]) h rfl xAb ?_;rintro f J T4 hA4 hE4 h;simp only[go_sem];replace h:sat (bZ F q g f) _:=h;unfold bZ at h;exact zaG
attribute [go_sem] cK
def rY(F:Md)(f:qf)(g:qf):Option Bool :=
 ck (((((((((f.1=g.1)∧(f.2.1=g.2.1))∧(f.2.2.1=g.2.2.1))∧(f.2.2.2.1=g.2.2.2.1))∧(f.2.2.2.2.1=g.2.2.2.2.1))∧(f.2.2.2.2.2.1=g.2.2.2.2.2.1))∧(f.2.2.2.2.2.2.1=g.2.2.2.2.2.2.1))∧(f.2.2.2.2.2.2.2.1=g.2.2.2.2.2.2.2.1))→((aW F f.2.2.2.2.2.2.2.2.1 g.2.2.2.2.2.2.2.2.1 ()).isSome=true)) (ck ((((((((((f.1=g.1)∧(f.2.1=g.2.1))∧(f.2.2.1=g.2.2.1))∧(f.2.2.2.1=g.2.2.2.1))∧(f.2.2.2.2.1=g.2.2.2.2.1))∧(f.2.2.2.2.2.1=g.2.2.2.2.2.1))∧(f.2.2.2.2.2.2.1=g.2.2.2.2.2.2.1))∧(f.2.2.2.2.2.2.2.1=g.2.2.2.2.2.2.2.1))∧(((aW F f.2.2.2.2.2.2.2.2.1 g.2.2.2.2.2.2.2.2.1 ()).getD false)=true))→((gR F f.2.2.2.2.2.2.2.2.2.1 g.2.2.2.2.2.2.2.2.2.1).isSome=true)) (some ((((((((((decide (f.1=g.1))&&(decide (f.2.1=g.2.1)))&&(decide (f.2.2.1=g.2.2.1)))&&(decide (f.2.2.2.1=g.2.2.2.1)))&&(decide (f.2.2.2.2.1=g.2.2.2.2.1)))&&(decide (f.2.2.2.2.2.1=g.2.2.2.2.2.1)))&&(decide (f.2.2.2.2.2.2.1=g.2.2.2.2.2.2.1)))&&(decide (f.2.2.2.2.2.2.2.1=g.2.2.2.2.2.2.2.1)))&&((aW F f.2.2.2.2.2.2.2.2.1 g.2.2.2.2.2.2.2.2.1 ()).getD false))&&((gR F f.2.2.2.2.2.2.2.2.2.1 g.2.2.2.2.2.2.2.2.2.1).getD false))))
def aNq:PlR:=⟨[(0,.B [2,3]),(1,.A [2,3,5]),(2,.A [4])],[],[]⟩
def aP2:Ty:=.pair qe (.pair qe .unit)
def aD3(F:Md):aF:=mSpec aP2 (.one .bool) (fun x=>rY F x.1 x.2.1)
abbrev aJE(F:Md):List (FuncId×aF):=[(27,(cK F)),(29,(pO F))]
theorem aZO[Mx](F:Md):bF Tryz.prog GL (aJE F):=.cons (mQ F) xP (.cons (aHL F) xP (.nil))
attribute [go_sem] aP2 aNq
theorem aXm[Mx](F:Md):FOK Tryz.prog GL 9 (aD3 F):=by
 refine bQ (aZ (aZO F)) mix Tryz.func9 rfl xP xAa aNq (fun w0 S x Θ q h hV=>?_);obtain⟨(f:qf),(g:qf),u⟩:=x;simp only[cA,go_sem];replace h:sat (rY F f g) _:=h;unfold rY at h;refine aK h fun g0 h=>aK h fun g1 h=>?_;exact zaD
attribute [go_sem] aD3
def aD4(F:Md):Option qf :=
 some ((40:Int),(4:Int),(0:Int),(1:Int),(aR ⟨#[49]⟩),(aR ⟨#[48,46,53]⟩),(aR ⟨#[48,46,49,50,53]⟩),(aR ⟨#[49]⟩),([((aR ⟨#[97]⟩),([((aR ⟨#[120]⟩),((aR ⟨#[49]⟩),([]:List Nat),()),(Ex.mk (2:Int) (aR ⟨#[120]⟩) ([]:List Ex)),())]:List wV),([]:List we),([]:List qd),([((aR ⟨#[121]⟩),(Ex.mk (2:Int) (aR ⟨#[120]⟩) ([]:List Ex)),())]:List q9),())]:List qc),([]:List qy),())
def aLL:PlR:=⟨[(0,.B [0]),(1,.B [0,1]),(2,.B [0])],[],[]⟩
def aNr:Ty:=.unit
def aC0(F:Md):aF:=mSpec aNr (.one qe) (fun x=>aD4 F )
abbrev aXn(F:Md):List (FuncId×aF):=[]
theorem aXo[Mx](F:Md):bF Tryz.prog GL (aXn F):=.nil
attribute [go_sem] aNr aLL
theorem aV7[Mx](F:Md):FOK Tryz.prog GL 14 (aC0 F):=by
 refine bQ (aZ (aXo F)) mix Tryz.func14 rfl xP xAa aLL (fun w0 S x Θ f h hV=>?_);simp only[cA,go_sem];replace h:sat (aD4 F) _:=h;unfold aD4 at h;exact aG hV [.cell 0 27] rfl rfl rfl (aA h) xAc
attribute [go_sem] aC0
end
end Nu
end Go.Proofs
namespace Go.Proofs
open Go.Shelf
def Tryz.lays285_ren:Go.Shelf.Ren:=⟨fun|285=>171|n=>n,fun|37=>79|53=>165|3=>3|4=>4|51=>220|9=>9|5=>5|0=>0|n=>n,fun|n=>n⟩
theorem Tryz.lays285:Go.Proofs.Lays.n285 Tryz.prog Tryz.lays285_ren:={
 mixed:=by kernel_rfl
 f285:=Tryz.func171.trans (congrArg some (by kernel_rfl))
 t0:=Tryz.underlying0
 a0:=Tryz.isAgg0
 z0:=Tryz.sizeOf0
 v0:=Tryz.zeroValue0
 t3:=Tryz.underlying3
 a3:=Tryz.isAgg3
 z3:=Tryz.sizeOf3
 v3:=Tryz.zeroValue3
 t4:=Tryz.underlying4
 a4:=Tryz.isAgg4
 z4:=Tryz.sizeOf4
 v4:=Tryz.zeroValue4
 t5:=Tryz.underlying5
 a5:=Tryz.isAgg5
 z5:=Tryz.sizeOf5
 v5:=Tryz.zeroValue5
 t9:=Tryz.underlying9
 a9:=Tryz.isAgg9
 z9:=Tryz.sizeOf9
 v9:=Tryz.zeroValue9
 t37:=Tryz.underlying79
 a37:=Tryz.isAgg79
 z37:=Tryz.sizeOf79
 v37:=Tryz.zeroValue79
 t51:=Tryz.underlying220
 a51:=Tryz.isAgg220
 z51:=Tryz.sizeOf220
 v51:=Tryz.zeroValue220
 t53:=Tryz.underlying165
 a53:=Tryz.isAgg165
 z53:=Tryz.sizeOf165
 v53:=Tryz.zeroValue165 }
open Go.Vc
set_option maxRecDepth 20000
namespace Nu
noncomputable section
def dgs(n u:Nat):List Nat:=(List.range n).map fun t=>48+u/10^(n-1-t)%10
theorem aJF(n u:Nat):(dgs n u).length=n:=by simp[dgs]
def mR(F:Md)(uo un u:Nat)(xs:List Nat):Option qd :=
 ck (uo+un≤24) (ck (u<10^un) (some (xs.take uo++dgs un u++xs.drop (uo+un))))
@[go_sem]def vO(F:Md):fH where
 D:=Nat×Nat×Nat×qd×qd
 av:=fun d=>[.sub 0 1 d.1 d.2.1,.val qw d.2.2.1]
 hp:=fun d=>[.box 24 (.val (.arr 24 wm) d.2.2.2.1)]
 m:=1
 pre:=fun d=>mR F d.1 d.2.1 d.2.2.1 d.2.2.2.1=some d.2.2.2.2
 out:=fun d=>(fun r:qd=>.ret (.tup []) [.box 24 (.val (.arr 24 wm) (r))]) d.2.2.2.2
theorem aSU(xs:List Nat):(xs.map (fun (x:Nat)=>[Value.int .u8 (x:Int)])).flatten=xs.map (fun (x:Nat)=>Value.int .u8 (x:Int)):=by
 induction xs with
 | nil=>rfl
 | cons x r f=>simp[f]
theorem bKf{w:World}{S:Nat→Prop}{m:Nat}{xs:List Nat}{cs:List Value}(h:bB w S (.arr m wm) xs cs):xs.length=m∧cs=xs.map (fun (x:Nat)=>Value.int .u8 (x:Int))∧ ∀x∈xs,x<256:=by
 obtain⟨I,f,rfl,q,O⟩:=h;have I:xs.length=m:=I;have g:∀i (h:i<xs.length) (h':i<f.length),f[i]= [Value.int .u8 (xs[i]:Int)]∧xs[i]<256:=fun i h h'=>by
  obtain⟨z,_,J⟩:=O i h h';refine⟨z,?_⟩;simp only[IntKind.max,IntKind.signed,IntKind.bits] at J;simp at J;omega
 refine⟨I,?_,fun x N=>?_⟩
 ·have e:f=xs.map (fun (x:Nat)=>[Value.int .u8 (x:Int)]):=by
   apply List.ext_getElem
   ·simp; exact q
   ·intro i z L;have:=(g i (by simpa using L) z).1
    simpa using this
  rw[e,aSU]
 ·obtain⟨i,hi,rfl⟩:=List.getElem_of_mem N;exact(g i hi (by have:f.length=xs.length:=q; omega)).2
theorem bMQ{w:World}{S:Nat→Prop}{m:Nat}{xs:List Nat}(g:xs.length=m)(f:∀x∈xs,x<256):bB w S (.arr m wm) xs (xs.map (fun (x:Nat)=>Value.int .u8 (x:Int))):=by
 refine⟨g,xs.map (fun (x:Nat)=>[Value.int .u8 (x:Int)]),(aSU xs).symm,by simp,fun i h h'=>?_⟩
 ·have:=f xs[i] (List.getElem_mem h);refine⟨by simp,rfl,?_⟩;simp only[IntKind.max,IntKind.signed,IntKind.bits];simp;omega
open Go.Sort in
theorem bFJ{cells:Array Value}{xs:List Nat}{uo un u v':Nat}{dk:Array UInt8}(hc:cells.toList=xs.map (fun (x:Nat)=>Value.int .u8 (x:Int)))(z:uo+un≤xs.length)(hF:Lib.FmtInv un u 0 v' dk) :
  (putCells (fun (b:UInt8)=>Value.int .u8 (b.toNat:Int)) uo dk cells).toList=(xs.take uo++dgs un u++xs.drop (uo+un)).map (fun (x:Nat)=>Value.int .u8 (x:Int)):=by
 have f:cells.size=xs.length:=by rw[← Array.length_toList,hc,List.length_map]
 have L:=hF.size;apply List.ext_getElem
 ·simp[putCells,aJF,f]; omega
 ·intro i J I;have hi:i<xs.length:=by simpa [putCells,f] using J
  have g:cells[i]'(by omega)=Value.int .u8 (xs[i]:Int):=by
   have:cells.toList[i]'(by rw[Array.length_toList]; omega)=Value.int .u8 (xs[i]:Int):=by simp[hc]
   simpa using this
  simp only[putCells,Array.toList_mapIdx,List.getElem_mapIdx,Array.getElem_toList,List.getElem_map];by_cases q:uo≤i∧i<uo+dk.size
  ·rw[if_pos q,hF.done (i-uo) (Nat.zero_le _) (by omega)];have:(xs.take uo++dgs un u++xs.drop (uo+un))[i]'(by simpa using I)=48+u/10^(un-1-(i-uo))%10:=by
    rw[List.getElem_append_left (by simp[aJF]; omega),List.getElem_append_right (by simp; omega)];simp[dgs,Nat.min_eq_left (show uo≤xs.length by omega)]
   rw[this];have hm:=Nat.mod_lt (u/10^(un-1-(i-uo))) (show 0<10 by decide);simp only[Lib.dg,UInt8.toNat_ofNat'];rw[Nat.mod_eq_of_lt (by omega)]
  ·rw[if_neg q,g];rcases Nat.lt_or_ge i uo with h|h
   ·rw[List.getElem_append_left (by simp[aJF]; omega),List.getElem_append_left (by simp; omega)];simp
   ·rw[List.getElem_append_right (by simp[aJF]; omega)];simp only[List.length_append,List.length_take,aJF,List.getElem_drop]
    congr 3
    omega
open Go.Sort in
theorem aHM[Mx](F:Md):GOK Tryz.prog GL 171 (vO F):=by
 rintro c w ⟨I,L,u,J,r⟩ vs g ⟨good,glob,len,val⟩;have g:mR F I L u J=some r:=g;unfold mR at g;obtain⟨h1,g⟩:=bD g;obtain⟨h2,g⟩:=bD g;have hr:J.take I++dgs L u++J.drop (I+L)=r:=Option.some.inj g;obtain⟨b,cells,e,O,hheap,hsz,hcl⟩:=good.objs 0 _ rfl;obtain⟨hl,N,hx⟩:=bKf hcl;have hl:J.length=24:=hl;have N:cells.toList=J.map (fun (x:Nat)=>Value.int .u8 (x:Int)):=N;have hx:∀x∈J,x<256:=hx;have hsz:cells.size=24:=by
  rcases hsz with h|⟨_,h⟩
  ·exact h
  ·exact absurd h (by omega)
 have hv0:=val 0 (by show 0<2; decide) (by rw[len]; show 0<2; decide);have hv1:=val 1 (by show 1<2; decide) (by rw[len]; show 1<2; decide);obtain⟨_,hn,b',cap,Z,e0⟩:=aT4 (i:=0) (s:=1) (off:=I) (n:=L) hv0;obtain⟨e1,_,hu⟩:=aKR (k:=.u64) (n:=u) hv1;rw[O] at Z;simp only[aU,Option.some.injEq] at Z;subst Z;have hvs:vs= #[.slice (some ⟨b,I*1,none⟩) L cap,.int .u64 (u:Int)]:=by
  have hlen:vs.toList.length=2:=len;rw[← Array.toList_inj];apply List.ext_getElem
  ·exact hlen
  ·intro i a1 a2
   match i,a2 with
   | 0,_=>exact e0
   | 1,_=>exact e1
 have hd:(((J.drop I).take L).map UInt8.ofNat).toArray.size=L:=by simp; omega
 have hcell:∀j (Y:j<J.length),w.cell? ⟨b,j,none⟩=some (.int .u8 (J[j]:Int)):=fun j Y=>by
  have U:j<cells.size:=by omega
  have:cells[j]=Value.int .u8 (J[j]:Int):=by
   have:cells.toList[j]'(by rw[Array.length_toList]; omega)=Value.int .u8 (J[j]:Int):=by simp[N]
   simpa using this
  simp[World.cell?,hheap,U,this]
 have hH:Holds (fun (b:UInt8)=>Value.int .u8 (b.toNat:Int)) w b I (((J.drop I).take L).map UInt8.ofNat).toArray:=fun j Y=>by
  rw[hd] at Y;have U:I+j<J.length:=by omega
  refine⟨?_,?_⟩
  ·rw[hcell _ U];have hlt:=hx J[I+j] (List.getElem_mem U);have:(((J.drop I).take L).map UInt8.ofNat).toArray[j]! = UInt8.ofNat J[I+j]:=by
    rw[getElem!_pos _ j (by rw[hd]; exact Y)];simp
   rw[this];simp only[UInt8.toNat_ofNat'];rw[Nat.mod_eq_of_lt (by omega)]
  ·simp[World.frozen?,hheap]
 have hB:lM .u64=18446744073709551616:=by decide +kernel
 have key:=Any.internal_strconv_formatBase10 Tryz.lays285 b I cap u _ w hH (by rw[hd]; exact h2) (by omega) (by rw[hd]; omega);rw[hd] at key;rw[hvs,Nat.mul_one];refine Calls.mono (f:=171) key ?_;rintro e w' ⟨rfl,n,v',dk,rfl,hF⟩;refine⟨c,.tuple #[],rfl,?_,?_⟩
 ·have hbl:b<w.heap.size:=(Array.getElem?_eq_some_iff.1 hheap).1;have hpc:=bFJ (uo:=I) (xs:=J) (u:=u) (dk:=dk) (un:=L) N (by omega) hF;have hheap':((putRow (fun (b:UInt8)=>Value.int .u8 (b.toNat:Int)) w b I dk).drewN n).heap[b]? = some (.cells (putCells (fun (b:UInt8)=>Value.int .u8 (b.toNat:Int)) I dk cells) e (0,0)):=by
   show (w.heap.modify b (onCells _))[b]? = _;rw[Array.getElem?_modify,if_pos rfl,hheap];rfl
  have hoth:∀k,k≠b→((putRow (fun (b:UInt8)=>Value.int .u8 (b.toNat:Int)) w b I dk).drewN n).heap[k]? = w.heap[k]? := fun k hk=>by
   show (w.heap.modify b (onCells _))[k]? = _;rw[Array.getElem?_modify,if_neg (fun h=>hk h.symm)]
  have hsize:((putRow (fun (b:UInt8)=>Value.int .u8 (b.toNat:Int)) w b I dk).drewN n).heap.size=w.heap.size:=by
   show (w.heap.modify b (onCells _)).size=_;simp
  have hnS:¬c.S b:=(good.own 0 _ b rfl (by show aU (c.hd 0)=some b; rw[O]; rfl)).2.2;refine⟨good.n,⟨rfl,rfl,rfl,Nat.le_of_eq hsize.symm,fun k hk hM=>hoth k (fun hkb=>hM ?_)⟩,fun k hk=>by rw[hsize]; exact good.sfin k hk,good.src,fun i o q=>?_,fun i o k q hk=>?_,fun i j oi oj k hi Y hbi hbj=>?_,good.root⟩
  ·subst hkb;exact⟨0,_,rfl,by show aU (c.hd 0)=some k; rw[O]; rfl⟩
  ·match i,q with
   | 0,q =>
    cases q;refine⟨b,_,e,O,hheap',?_,?_⟩
    ·exact .inl (by (simp[putCells,hsz])<;>rfl)
    ·show bB _ c.S (.arr 24 wm) r _;rw[hpc,hr];have hrl:r.length=24:=(by rw[← hr]; simp[aJF]; omega);refine bMQ hrl (fun x z=>?_);rw[← hr] at z;rcases List.mem_append.1 z with z|z
     ·rcases List.mem_append.1 z with z|z
      ·exact hx x (List.mem_of_mem_take z)
      ·obtain⟨t,_,rfl⟩:=List.mem_map.1 z;have:=Nat.mod_lt (u/10^(L-1-t)) (show 0<10 by decide);omega
     ·exact hx x (List.mem_of_mem_drop z)
   | i+1,q=>cases q
  ·match i,q with
   | 0,q =>
    cases q;have:=good.own 0 _ k rfl hk;rw[hsize]; exact this
   | i+1,q=>cases q
  ·match i,j,hi,Y with
   | 0,0,_,_=>rfl
   | 0,j+1,_,Y=>cases Y
   | i+1,_,hi,_=>cases hi
 ·exact⟨[],rfl,rfl,fun i h1 _=>by cases h1⟩
set_option maxHeartbeats 4000000
def aOp:ByteArray:=⟨⟨48::48::48::49::48::50::48::51::48::52::48::53::48::54::48::55::48::56::48::57::49::48::49::49::49::50::49::51::49::52::49::53::49::54::49::55::49::56::49::57::50::48::50::49::50::50::50::51::50::52::50::53::50::54::50::55::50::56::50::57::51::48::51::49::51::50::51::51::51::52::51::53::51::54::51::55::51::56::51::57::52::48::52::49::52::50::52::51::52::52::52::53::52::54::52::55::52::56::52::57::53::48::53::49::53::50::53::51::53::52::53::53::53::54::53::55::53::56::53::57::54::48::54::49::54::50::54::51::54::52::54::53::54::54::54::55::54::56::54::57::55::48::55::49::55::50::55::51::55::52::55::53::55::54::55::55::55::56::55::57::56::48::56::49::56::50::56::51::56::52::56::53::56::54::56::55::56::56::56::57::57::48::57::49::57::50::57::51::57::52::57::53::57::54::57::55::57::56::57::57:: []⟩⟩
@[go_sem]theorem aXp:(⟨⟨48::48::48::49::48::50::48::51::48::52::48::53::48::54::48::55::48::56::48::57::49::48::49::49::49::50::49::51::49::52::49::53::49::54::49::55::49::56::49::57::50::48::50::49::50::50::50::51::50::52::50::53::50::54::50::55::50::56::50::57::51::48::51::49::51::50::51::51::51::52::51::53::51::54::51::55::51::56::51::57::52::48::52::49::52::50::52::51::52::52::52::53::52::54::52::55::52::56::52::57::53::48::53::49::53::50::53::51::53::52::53::53::53::54::53::55::53::56::53::57::54::48::54::49::54::50::54::51::54::52::54::53::54::54::54::55::54::56::54::57::55::48::55::49::55::50::55::51::55::52::55::53::55::54::55::55::55::56::55::57::56::48::56::49::56::50::56::51::56::52::56::53::56::54::56::55::56::56::56::57::57::48::57::49::57::50::57::51::57::52::57::53::57::54::57::55::57::56::57::57:: []⟩⟩:ByteArray)=aOp:=rfl
def aOq:ByteArray:=⟨⟨48::49::50::51::52::53::54::55::56::57::97::98::99::100::101::102::103::104::105::106::107::108::109::110::111::112::113::114::115::116::117::118::119::120::121::122:: []⟩⟩
@[go_sem]theorem aXq:(⟨⟨48::49::50::51::52::53::54::55::56::57::97::98::99::100::101::102::103::104::105::106::107::108::109::110::111::112::113::114::115::116::117::118::119::120::121::122:: []⟩⟩:ByteArray)=aOq:=rfl
def pX(F:Md)(f:Bool):Option Int :=
 if f=true then some (1:Int) else some (0:Int)
def aDq:PlR:=⟨[(0,.A [0]),(1,.A [3]),(2,.A [2]),(3,.A [2])],[],[]⟩
def aEv:Ty:=.pair .bool .unit
def tU(F:Md):aF:=mSpec aEv (.one qg) (fun x=>pX F x.1)
abbrev aLM(F:Md):List (FuncId×aF):=[]
theorem aLN[Mx](F:Md):bF Tryz.prog GL (aLM F):=.nil
attribute [go_sem] aEv aDq
theorem aKy[Mx](F:Md):FOK Tryz.prog GL 196 (tU F):=by
 refine bQ (aZ (aLN F)) mix Tryz.func196 rfl xP xAa aDq (fun w0 S x Θ g h hV=>?_);obtain⟨(f:Bool),u⟩:=x;simp only[cA,go_sem];replace h:sat (pX F f) _:=h;unfold pX at h;exact zaf
attribute [go_sem] tU
def pY(F:Md)(f:Int):Option Int :=
 ck (I64 (f*(78913:Int))) (some (Int.fdiv (f*(78913:Int)) (2^(18:Nat))))
def aDr:PlR:=⟨[(0,.A [0]),(1,.A [2])],[],[]⟩
def aEw:Ty:=.pair qg .unit
def tV(F:Md):aF:=mSpec aEw (.one qg) (fun x=>pY F x.1)
abbrev aLO(F:Md):List (FuncId×aF):=[]
theorem aLP[Mx](F:Md):bF Tryz.prog GL (aLO F):=.nil
attribute [go_sem] aEw aDr
theorem aKz[Mx](F:Md):FOK Tryz.prog GL 195 (tV F):=by
 refine bQ (aZ (aLP F)) mix Tryz.func195 rfl xP xAa aDr (fun w0 S x Θ g h hV=>?_);obtain⟨(f:Int),u⟩:=x;simp only[cA,go_sem];replace h:sat (pY F f) _:=h;unfold pY at h;refine aK h fun g0 h=>?_;exact zaE
attribute [go_sem] tV
def bY(F:Md)(g:Nat):Option Int :=
 (pY F (rN g)).bind (fun v_5=>ck (0≤v_5∧v_5<(20:Int)) ((pX F (decide ((p10.getD (v_5.toNat) (0:Nat))≤g))).bind (fun f=>ck (I64 (v_5+f)) (some (v_5+f)))))
def aDs:PlR:=⟨[(0,.A [0]),(1,.A [0,3]),(2,.A [2])],[],[]⟩
def aEx:Ty:=.pair qw .unit
def tW(F:Md):aF:=mSpec aEx (.one qg) (fun x=>bY F x.1)
abbrev vC(F:Md):List (FuncId×aF):=[(187,yL),(195,(tV F)),(196,(tU F))]
theorem aLQ[Mx](F:Md):bF Tryz.prog GL (vC F):=.cons aM1 xP (.cons (aKz F) xP (.cons (aKy F) xP (.nil)))
attribute [go_sem] aEx aDs
theorem aKA[Mx](F:Md):FOK Tryz.prog GL 170 (tW F):=by
 refine bQ (aZ (aLQ F)) mix Tryz.func170 rfl xP xAa aDs (fun w0 S x Θ q h hV=>?_);obtain⟨(f:Nat),u⟩:=x;simp only[cA,go_sem];replace h:sat (bY F f) _:=h;unfold bY at h;refine aB h fun v_5 hv h=>?_;try simp only[hv,go_sem]
 refine aK h fun g0 h=>?_;refine aB h fun g hv h=>?_;exact zah
attribute [go_sem] tW
def sR(F:Md)(f:Int):Option qd :=
 if f<(10:Int) then ck (I64 (f+(1:Int))) (ck (0≤f∧f≤(f+(1:Int))∧(f+(1:Int))≤(((aR aOq).length:Nat):Int)) (some (List.drop (f.toNat) (List.take (f+(1:Int)).toNat (aR aOq))))) else ck (I64 (f*(2:Int))) (ck (I64 (f*(2:Int))) (ck (I64 ((f*(2:Int))+(2:Int))) (ck (0≤(f*(2:Int))∧(f*(2:Int))≤((f*(2:Int))+(2:Int))∧((f*(2:Int))+(2:Int))≤(((aR aOp).length:Nat):Int)) (some (List.drop (f*(2:Int)).toNat (List.take ((f*(2:Int))+(2:Int)).toNat (aR aOp)))))))
def aHl:PlR:=⟨[(0,.A [0]),(1,.A [0,4]),(2,.A [2]),(3,.A [2])],[],[]⟩
def aIz:Ty:=.pair qg .unit
def zH(F:Md):aF:=mSpec aIz (.one .str) (fun x=>sR F x.1)
abbrev aRH(F:Md):List (FuncId×aF):=[]
theorem aRI[Mx](F:Md):bF Tryz.prog GL (aRH F):=.nil
attribute [go_sem] aIz aHl
theorem aP3[Mx](F:Md):FOK Tryz.prog GL 169 (zH F):=by
 refine bQ (aZ (aRI F)) mix Tryz.func169 rfl xP xAa aHl (fun w0 S x Θ g h hV=>?_);obtain⟨(f:Int),u⟩:=x;simp only[cA,go_sem];replace h:sat (sR F f) _:=h;unfold sR at h;refine dS h (fun hc h=>?_) fun hc h=>?_
 ·refine aK h fun g0 h=>aK h fun g1 h=>?_;exact zaE
 ·refine aK h fun g0 h=>aK h fun g1 h=>aK h fun z h=>aK h fun q h=>?_;exact zaE
attribute [go_sem] zH
def mS(F:Md)(g:Int)(f:Nat):Option qd :=
 ck ((bY F f).isSome=true) (ck (I64 ((1:Int)+((bY F f).getD (0:Int)))) (ck ((1:Int)<((1:Int)+((bY F f).getD (0:Int)))∧((1:Int)+((bY F f).getD (0:Int)))≤24) ((mR F (1:Nat) (((1:Int)+((bY F f).getD (0:Int)))-(1:Int)).toNat f (List.replicate 24 (0:Nat))).bind (fun r_7=>if g<(0:Int) then ck (I64 ((1:Int)+((bY F f).getD (0:Int)))) (ck ((0:Int)<((1:Int)+((bY F f).getD (0:Int)))∧((1:Int)+((bY F f).getD (0:Int)))≤24) (ck ((0:Nat)+(((1:Int)+((bY F f).getD (0:Int)))-(0:Int)).toNat≤24) (some (List.take (((1:Int)+((bY F f).getD (0:Int)))-(0:Int)).toNat (List.drop (0:Nat) (r_7.set (0:Nat) (45:Nat))))))) else ck (I64 ((1:Int)+((bY F f).getD (0:Int)))) (ck ((1:Int)<((1:Int)+((bY F f).getD (0:Int)))∧((1:Int)+((bY F f).getD (0:Int)))≤24) (ck ((1:Nat)+(((1:Int)+((bY F f).getD (0:Int)))-(1:Int)).toNat≤24) (some (List.take (((1:Int)+((bY F f).getD (0:Int)))-(1:Int)).toNat (List.drop (1:Nat) r_7)))))))))
def pZ(F:Md)(f:Int)(g:Int):Option qd :=
 if g=(10:Int) then if ((0:Int)≤f)∧(f<(100:Int)) then ck ((sR F f).isSome=true) (some ((sR F f).getD ([]:List Nat))) else if f<(0:Int) then mS F f (aMG F .u64 (f%(18446744073709551616:Int)).toNat) else mS F f (f%(18446744073709551616:Int)).toNat else none
@[go_sem]def vD:Ty:=.pair qg qm
def tX(F:Md):aF:=mSpec vD (.one .str) (fun x=>pZ F x.1 x.2.1)
abbrev vE(F:Md):List (FuncId×aF):=[(169,(zH F)),(170,(tW F))]
theorem aEy[Mx](F:Md):bF Tryz.prog GL (vE F):=.cons (aP3 F) xP (.cons (aKA F) xP (.nil))
theorem aKB[Mx](F:Md):FOK Tryz.prog GL 123 (tX F):=by
 refine aDD (aZ (aEy F)) Tryz.func123 rfl xP xAa fun w0 S x r z h=>?_;have hF:uP (fr Tryz.prog (EM (vE F)) S w0 Tryz.f123.ntmps):=⟨aZ (aEy F),mix⟩;obtain⟨(g:Int),(f:Int),u⟩:=x;simp only[vD,Ty.wf,aF8] at z;simp only[cA,vD];try dsimp only at h
 replace h:pZ F g f=some r:=h;unfold pZ at h;refine aL (aQ hF [0,1] ?_);simp only[go_sem,bJ F,bK F,bL F];refine aN (aL (aL (aQ hF [0,1,11] ?_)));simp only[go_sem,bJ F,bK F,bL F];refine aN (cS rfl (fun hc=>?_) (fun hc=>?_))
 ·try simp only[go_sem,bJ F,bK F,bL F] at hc
  have h:=oD zAC h;refine aL (aL (aQ hF [0,17] ?_));simp only[go_sem,bJ F,bK F,bL F];refine aN (cS rfl (fun hc=>?_) (fun hc=>?_))
  ·(try simp only[go_sem,bJ F,bK F,bL F] at hc);have h:=oD zAC h;refine aL (aQ hF [4] ?_);simp only[go_sem,bJ F,bK F,bL F];obtain⟨g0,h⟩:=bD h;exact zav
  ·(try simp only[go_sem,bJ F,bK F,bL F] at hc);have h:=nB zAC h;refine eC (aN (aL (dH hF [0,5] ?_)));simp only[go_sem,bJ F,bK F,bL F];refine aN (aL (aQ hF [0,5,6] ?_));simp only[go_sem,bJ F,bK F,bL F];refine aN (aBZ (D:=Nat) (fun d=>mS F g d=some r) [0] (fun d=>[(5,.ptr 0 []),(6,.val qw d)]) (fun d=>[.inr (.box 24 (.val (.arr 24 wm) (List.replicate 24 (0:Nat))))]) ?_ ?_)
   ·refine aL (aQ hF [0,5,6,23] ?_);simp only[go_sem,bJ F,bK F,bL F];refine aN (cS rfl (fun hc=>?_) (fun hc=>?_))
    ·(try simp only[go_sem,bJ F,bK F,bL F] at hc);have h:=oD zAC h;refine aQ hF [0,5,6] ?_;simp only[go_sem,bJ F,bK F,bL F];refine dQ (aT (aMG F .u64 (g%(18446744073709551616:Int)).toNat) h rfl ?_)
     ·(try simp only[wT,eU,true_or,and_self,go_sem,bJ F,bK F,bL F])<;>(repeat' apply And.intro)<;>first|rfl|(left; rfl)|(right; rfl)|(left; simp only[go_sem,bJ F,bK F,bL F]; done)|(right; simp only[go_sem,bJ F,bK F,bL F]; done)|(simp; done)|(simp only[*]; done)|omega
    ·(try simp only[go_sem,bJ F,bK F,bL F] at hc);have h:=nB zAC h;refine eC (dQ (aT (g%(18446744073709551616:Int)).toNat h rfl ?_))
     ·(try simp only[wT,eU,true_or,and_self,go_sem,bJ F,bK F,bL F])<;>(repeat' apply And.intro)<;>first|rfl|(left; rfl)|(right; rfl)|(left; simp only[go_sem,bJ F,bK F,bL F]; done)|(right; simp only[go_sem,bJ F,bK F,bL F]; done)|(simp; done)|(simp only[*]; done)|omega
   ·rintro q h;(try dsimp only at h);simp only[go_sem,bJ F,bK F,bL F];unfold mS at h;refine aL (aQ hF [0,5,6,7] ?_);simp only[go_sem,bJ F,bK F,bL F];obtain⟨g0,h⟩:=bD h;(repeat (refine⟨zAH,?_⟩));obtain⟨g0,h⟩:=bD h;(try simp only[I64,I32] at g0);obtain⟨g1,h⟩:=bD h;obtain⟨r_7,I,h⟩:=bind_some h;(try dsimp only at h);refine aN (aL (cJ hF (eT (l:=[(171,⟨vO F,[0],((1:Nat),(((1:Int)+((bY F q).getD (0:Int)))-(1:Int)).toNat,q,(List.replicate 24 (0:Nat)),r_7)⟩)]) (.cons (aHM F) xP (.nil))) [0,5,7] [30] ?_));simp only[go_sem,bJ F,bK F,bL F];(repeat (refine⟨zAH,?_⟩));refine aN (aL (aL (aQ hF [5,7,34] ?_)));simp only[go_sem,bJ F,bK F,bL F];refine aN (cS rfl (fun hc=>?_) (fun hc=>?_))
    ·(try simp only[go_sem,bJ F,bK F,bL F] at hc);have h:=oD zAC h;refine aL (dH hF [5,7] ?_);simp only[go_sem,bJ F,bK F,bL F];obtain⟨g0,h⟩:=bD h;(try simp only[I64,I32] at g0);obtain⟨g1,h⟩:=bD h;obtain⟨J,h⟩:=bD h;refine aN (aL (cJ hF (eT (l:=[]) (.nil)) [4] [38] ?_));simp only[go_sem,bJ F,bK F,bL F];exact zav
    ·(try simp only[go_sem,bJ F,bK F,bL F] at hc);have h:=nB zAC h;obtain⟨g0,h⟩:=bD h;(try simp only[I64,I32] at g0);obtain⟨g1,h⟩:=bD h;obtain⟨J,h⟩:=bD h;refine eC (aN (aL (cJ hF (eT (l:=[]) (.nil)) [4] [42] ?_)));simp only[go_sem,bJ F,bK F,bL F];(repeat (refine⟨zAH,?_⟩));obtain rfl:=Option.some.inj h;refine aN (gU (eD (nG hF [.tmp 4] rfl rfl rfl ?_)))
     (try simp only[mA,aS,go_sem,bJ F,bK F,bL F])<;>first|rfl|(simp; done)
 ·try simp only[go_sem,bJ F,bK F,bL F] at hc
  have h:=nB zAC h;cases h
attribute [go_sem] tX
def yG(F:Md)(f:Int):Option qd :=
 (pZ F f (10:Int)).bind (fun v_5=>some v_5)
def aIA:PlR:=⟨[(0,.A [0]),(1,.A [2])],[],[]⟩
def aKd:Ty:=.pair qg .unit
def aAH(F:Md):aF:=mSpec aKd (.one .str) (fun x=>yG F x.1)
abbrev aKe(F:Md):List (FuncId×aF):=[(123,(tX F))]
theorem aTK[Mx](F:Md):bF Tryz.prog GL (aKe F):=.cons (aKB F) xP (.nil)
attribute [go_sem] aKd aIA
theorem aRJ[Mx](F:Md):FOK Tryz.prog GL 84 (aAH F):=by
 refine bQ (aZ (aTK F)) mix Tryz.func84 rfl xP xAa aIA (fun w0 S x Θ g h hV=>?_);obtain⟨(f:Int),u⟩:=x;simp only[cA,go_sem];replace h:sat (yG F f) _:=h;unfold yG at h;exact zan
attribute [go_sem] aAH
def qA(F:Md)(f:Int):Option qd :=
 (yG F f).bind (fun v_5=>some v_5)
def aKf:PlR:=⟨[(0,.A [0]),(1,.A [2])],[],[]⟩
def aLR:Ty:=.pair qg .unit
def aBC(F:Md):aF:=mSpec aLR (.one .str) (fun x=>qA F x.1)
abbrev aLS(F:Md):List (FuncId×aF):=[(84,(aAH F))]
theorem aV8[Mx](F:Md):bF Tryz.prog GL (aLS F):=.cons (aRJ F) xP (.nil)
attribute [go_sem] aLR aKf
theorem aTL[Mx](F:Md):FOK Tryz.prog GL 35 (aBC F):=by
 refine bQ (aZ (aV8 F)) mix Tryz.func35 rfl xP xAa aKf (fun w0 S x Θ g h hV=>?_);obtain⟨(f:Int),u⟩:=x;simp only[cA,go_sem];replace h:sat (qA F f) _:=h;unfold qA at h;exact zan
attribute [go_sem] aBC
attribute [-go_sem] Ex.kind Ex.text Ex.l
@[go_sem]def aFJ:Ty:=.pair .expr .unit
@[go_sem]def vP(g:Ex→Option qd):aF:=mSpec aFJ (.one .str) (fun x=>g x.1)
def gS(F:Md)(g:Ex→Option qd)(q:Ex)(f:Int)(z:Int):Option qd :=
 if (((q.l).length:Nat):Int)≤f then some (aR ⟨#[]⟩) else ck (0≤f∧f<(((q.l).length:Nat):Int)) (if (((0:Int)≤((q.l).getD (f.toNat) (Ex.mk 0 [] [])).kind)∧(((q.l).getD (f.toNat) (Ex.mk 0 [] [])).kind<(60:Int)))∧((IntKind.i64.wrap ((BitVec.ofInt 64 (Int.fdiv z (2^(((q.l).getD (f.toNat) (Ex.mk 0 [] [])).kind%(18446744073709551616:Int)).toNat))&&&BitVec.ofInt 64 (1:Int)).toNat:Int))=(1:Int)) then (g ((q.l).getD (f.toNat) (Ex.mk 0 [] []))).bind (fun I=>ck ((aR ⟨#[40]⟩).length+(I.length)≤9223372036854775807) (ck (((aR ⟨#[40]⟩)++I).length+(aR ⟨#[41]⟩).length≤9223372036854775807) (some (((aR ⟨#[40]⟩)++I)++(aR ⟨#[41]⟩))))) else (g ((q.l).getD (f.toNat) (Ex.mk 0 [] []))).bind (fun v_13=>some v_13))
def aSV:PlR:=⟨[(0,.B [1,2,3]),(1,.A [1,2,3,12]),(2,.A [6]),(3,.B [2,7]),(4,.A [7,34]),(5,.A [6]),(6,.A [6])],[],[]⟩
def aV9:Ty:=.pair .expr vf
def aHm(F:Md)(g:Ex→Option qd):aF:=mSpec aV9 (.one .str) (fun x=>gS F g x.1 x.2.1 x.2.2.1)
abbrev aWa(F:Md)(g:Ex→Option qd):List (FuncId×aF):=[(31,(vP g))]
theorem bDf[Mx](F:Md)(g:Ex→Option qd)(f:FOK Tryz.prog GL 31 (vP g)):bF Tryz.prog GL (aWa F g):=.cons f xP (.nil)
attribute [go_sem] aV9 aSV
theorem bBS[Mx](F:Md)(g:Ex→Option qd)(I:FOK Tryz.prog GL 31 (vP g)):FOK Tryz.prog GL 81 (aHm F g):=by
 refine bQ (aZ (bDf F g I)) mix Tryz.func81 rfl xP xAa aSV (fun w0 S x Θ L h hV=>?_);obtain⟨(z:Ex),(q:Int),(f:Int),u⟩:=x;simp only[cA,go_sem];replace h:sat (gS F g z q f) _:=h;unfold gS at h;refine aYY h (fun hc h=>?_) fun hc h=>?_
 ·exact aG hV [.tmp 6] rfl rfl rfl (aA h) xAc
 ·refine aK h fun g0 h=>?_;refine⟨fun hc=>?_,fun hc=>?_⟩
  ·replace h:=fQ hc h;refine aB h fun J hv h=>?_;(try simp only[hv,go_sem]);refine aK h fun g0 h=>aK h fun g1 h=>?_;exact aG hV [.tmp 6] rfl rfl rfl (aA h) xAc
  ·replace h:=fR hc h;refine aB h fun v_13 hv h=>?_;(try simp only[hv,go_sem]);exact aG hV [.tmp 6] rfl rfl rfl (aA h) xAc
attribute [go_sem] aHm
def dP(F:Md)(g:Ex→Option qd)(f:Ex):Option qd :=
 if (f.kind)=(6:Int) then (gS F g f (0:Int) (0:Int)).bind (fun q=>ck ((q.length)+(aR ⟨#[32,43,32]⟩).length≤9223372036854775807) ((gS F g f (1:Int) (192:Int)).bind (fun v_45=>ck ((q++(aR ⟨#[32,43,32]⟩)).length+(v_45.length)≤9223372036854775807) (some ((q++(aR ⟨#[32,43,32]⟩))++v_45))))) else if (f.kind)=(7:Int) then (gS F g f (0:Int) (0:Int)).bind (fun z=>ck ((z.length)+(aR ⟨#[32,45,32]⟩).length≤9223372036854775807) ((gS F g f (1:Int) (192:Int)).bind (fun Y=>ck ((z++(aR ⟨#[32,45,32]⟩)).length+(Y.length)≤9223372036854775807) (some ((z++(aR ⟨#[32,45,32]⟩))++Y))))) else if (f.kind)=(8:Int) then (gS F g f (0:Int) (192:Int)).bind (fun I=>ck ((I.length)+(aR ⟨#[32,42,32]⟩).length≤9223372036854775807) ((gS F g f (1:Int) (960:Int)).bind (fun v_69=>ck ((I++(aR ⟨#[32,42,32]⟩)).length+(v_69.length)≤9223372036854775807) (some ((I++(aR ⟨#[32,42,32]⟩))++v_69))))) else if (f.kind)=(9:Int) then (gS F g f (0:Int) (192:Int)).bind (fun O=>ck ((O.length)+(aR ⟨#[32,47,32]⟩).length≤9223372036854775807) ((gS F g f (1:Int) (960:Int)).bind (fun U=>ck ((O++(aR ⟨#[32,47,32]⟩)).length+(U.length)≤9223372036854775807) (some ((O++(aR ⟨#[32,47,32]⟩))++U))))) else if (f.kind)=(10:Int) then (gS F g f (0:Int) (960:Int)).bind (fun Z=>ck ((aR ⟨#[45]⟩).length+(Z.length)≤9223372036854775807) (some ((aR ⟨#[45]⟩)++Z))) else if (f.kind)=(11:Int) then (gS F g f (0:Int) (0:Int)).bind (fun J=>ck ((aR ⟨#[115,113,114,40]⟩).length+(J.length)≤9223372036854775807) (ck (((aR ⟨#[115,113,114,40]⟩)++J).length+(aR ⟨#[41]⟩).length≤9223372036854775807) (some (((aR ⟨#[115,113,114,40]⟩)++J)++(aR ⟨#[41]⟩))))) else if (f.kind)=(12:Int) then (gS F g f (0:Int) (0:Int)).bind (fun L=>ck ((aR ⟨#[115,113,114,116,40]⟩).length+(L.length)≤9223372036854775807) (ck (((aR ⟨#[115,113,114,116,40]⟩)++L).length+(aR ⟨#[41]⟩).length≤9223372036854775807) (some (((aR ⟨#[115,113,114,116,40]⟩)++L)++(aR ⟨#[41]⟩))))) else if (f.kind)=(13:Int) then (gS F g f (0:Int) (0:Int)).bind (fun N=>ck ((aR ⟨#[101,120,112,40]⟩).length+(N.length)≤9223372036854775807) (ck (((aR ⟨#[101,120,112,40]⟩)++N).length+(aR ⟨#[41]⟩).length≤9223372036854775807) (some (((aR ⟨#[101,120,112,40]⟩)++N)++(aR ⟨#[41]⟩))))) else some (f.text)
def aNs:PlR:=⟨[(0,.B [1]),(1,.A [1,4]),(2,.A [1,4,5]),(3,.A [2]),(4,.A [1,4,13]),(5,.A [2]),(6,.A [1,4,21]),(7,.A [2]),(8,.A [1,4,29]),(9,.A [2]),(10,.A [1,4,37]),(11,.A [2]),(12,.A [1,4,42]),(13,.A [2]),(14,.A [1,4,48]),(15,.A [2]),(16,.A [1,54]),(17,.A [2]),(18,.A [2])],[],[]⟩
abbrev aP5(F:Md)(g:Ex→Option qd):List (FuncId×aF):=[(81,(aHm F g))]
theorem aZP[Mx](F:Md)(g:Ex→Option qd)(f:FOK Tryz.prog GL 31 (vP g)):bF Tryz.prog GL (aP5 F g):=.cons (bBS F g f) xP (.nil)
attribute [go_sem] aNs
theorem aWb[Mx](F:Md)(g:Ex→Option qd)(hg:FOK Tryz.prog GL 31 (vP g)):FOK Tryz.prog GL 31 (mSpec aFJ (.one .str) (fun x=>dP F g x.1)):=by
 refine bQ (aZ (aZP F g hg)) mix Tryz.func31 rfl xP xAa aNs (fun w0 S x Θ hw h hV=>?_);obtain⟨(f:Ex),u⟩:=x;simp only[cA,go_sem];replace h:sat (dP F g f) _:=h;unfold dP at h;refine cE h (fun hc h=>?_) fun hc h=>?_
 ·refine aB h fun q hv h=>?_;try simp only[hv,go_sem]
  refine aK h fun g0 h=>?_;refine aB h fun v_45 hv h=>?_;exact zah
 ·refine cE h (fun hc h=>?_) fun hc h=>?_
  ·refine aB h fun I hv h=>?_;(try simp only[hv,go_sem]);refine aK h fun g0 h=>?_;refine aB h fun L hv h=>?_;exact zah
  ·refine cE h (fun hc h=>?_) fun hc h=>?_
   ·refine aB h fun J hv h=>?_;(try simp only[hv,go_sem]);refine aK h fun g0 h=>?_;refine aB h fun O hv h=>?_;exact zah
   ·refine cE h (fun hc h=>?_) fun hc h=>?_
    ·refine aB h fun v_80 hv h=>?_;(try simp only[hv,go_sem]);refine aK h fun g0 h=>?_;refine aB h fun z hv h=>?_;exact zah
    ·refine cE h (fun hc h=>?_) fun hc h=>?_
     ·refine aB h fun N hv h=>?_;exact zah
     ·refine cE h (fun hc h=>?_) fun hc h=>?_
      ·refine aB h fun U hv h=>?_;(try simp only[hv,go_sem]);refine aK h fun g0 h=>aK h fun g1 h=>?_;exact zaE
      ·refine cE h (fun hc h=>?_) fun hc h=>?_
       ·refine aB h fun Y hv h=>?_;(try simp only[hv,go_sem]);refine aK h fun g0 h=>aK h fun g1 h=>?_;exact zaE
       ·refine cE h (fun hc h=>?_) fun hc h=>?_
        ·refine aB h fun Z hv h=>?_;(try simp only[hv,go_sem]);refine aK h fun g0 h=>aK h fun g1 h=>?_;exact zaE
        ·exact aG hV [.tmp 2] rfl rfl rfl (aA h) xAc
def fM(F:Md):Nat→Ex→Option qd
 | 0=>fun _=>none
 | n+1=>dP F (fM F n)
def yR(F:Md)(n:Nat):aF:=mSpec aFJ (.one .str) (fun x=>fM F n x.1)
theorem aHS[Mx](F:Md):∀n,FOK Tryz.prog GL 31 (yR F n)
 | 0=>fun _ _ _ _ _ _ _ hp=>Bool.noConfusion (show false=true from hp)
 | n+1=>aWb F _ (aHS F n)
attribute [go_sem] yR
def xL(F:Md)(f:qn):Option qd :=
 if f.2.1=(aR ⟨#[]⟩) then some f.1 else ck ((f.1.length)+(aR ⟨#[32]⟩).length≤9223372036854775807) (ck ((f.1++(aR ⟨#[32]⟩)).length+(f.2.1.length)≤9223372036854775807) (some ((f.1++(aR ⟨#[32]⟩))++f.2.1)))
def aNt:PlR:=⟨[(0,.B [1]),(1,.A [1,5]),(2,.A [2]),(3,.A [2])],[],[]⟩
def aP6:Ty:=.pair qj .unit
def aD5(F:Md):aF:=mSpec aP6 (.one .str) (fun x=>xL F x.1)
abbrev aZQ(F:Md):List (FuncId×aF):=[]
theorem aZR[Mx](F:Md):bF Tryz.prog GL (aZQ F):=.nil
attribute [go_sem] aP6 aNt
theorem aXs[Mx](F:Md):FOK Tryz.prog GL 36 (aD5 F):=by
 refine bQ (aZ (aZR F)) mix Tryz.func36 rfl xP xAa aNt (fun w0 S x Θ g h hV=>?_);obtain⟨(f:qn),u⟩:=x;simp only[cA,go_sem];replace h:sat (xL F f) _:=h;unfold xL at h;refine cE h (fun hc h=>?_) fun hc h=>?_
 ·exact aG hV [.tmp 2] rfl rfl rfl (aA h) xAc
 ·refine aK h fun g0 h=>aK h fun g1 h=>?_;exact zaE
attribute [go_sem] aD5
end
end Nu
end Go.Proofs
namespace Go.Proofs
open Go.Shelf
def Tryz.lays156_ren:Go.Shelf.Ren:=⟨fun|156=>34|165=>83|166=>33|169=>37|240=>82|241=>122|276=>121|277=>168|n=>n,fun|31=>22|9=>9|3=>3|4=>4|0=>0|20=>20|72=>81|76=>84|70=>78|37=>79|75=>83|127=>146|164=>180|5=>5|80=>54|n=>n,fun|n=>n⟩
theorem Tryz.lays156:Go.Proofs.Lays.n156 Tryz.prog Tryz.lays156_ren:={
 mixed:=by kernel_rfl
 f156:=Tryz.func34.trans (congrArg some (by kernel_rfl))
 f165:=Tryz.func83.trans (congrArg some (by kernel_rfl))
 f166:=Tryz.func33.trans (congrArg some (by kernel_rfl))
 f169:=Tryz.func37.trans (congrArg some (by kernel_rfl))
 f240:=Tryz.func82.trans (congrArg some (by kernel_rfl))
 f241:=Tryz.func122.trans (congrArg some (by kernel_rfl))
 f276:=Tryz.func121.trans (congrArg some (by kernel_rfl))
 f277:=Tryz.func168.trans (congrArg some (by kernel_rfl))
 t0:=Tryz.underlying0
 a0:=Tryz.isAgg0
 z0:=Tryz.sizeOf0
 v0:=Tryz.zeroValue0
 t3:=Tryz.underlying3
 a3:=Tryz.isAgg3
 z3:=Tryz.sizeOf3
 v3:=Tryz.zeroValue3
 t4:=Tryz.underlying4
 a4:=Tryz.isAgg4
 z4:=Tryz.sizeOf4
 v4:=Tryz.zeroValue4
 t9:=Tryz.underlying9
 a9:=Tryz.isAgg9
 z9:=Tryz.sizeOf9
 v9:=Tryz.zeroValue9
 t20:=Tryz.underlying20
 a20:=Tryz.isAgg20
 z20:=Tryz.sizeOf20
 v20:=Tryz.zeroValue20
 t31:=Tryz.underlying22
 a31:=Tryz.isAgg22
 z31:=Tryz.sizeOf22
 v31:=Tryz.zeroValue22
 t37:=Tryz.underlying79
 a37:=Tryz.isAgg79
 z37:=Tryz.sizeOf79
 v37:=Tryz.zeroValue79
 t70:=Tryz.underlying78
 a70:=Tryz.isAgg78
 z70:=Tryz.sizeOf78
 v70:=Tryz.zeroValue78
 t72:=Tryz.underlying81
 a72:=Tryz.isAgg81
 z72:=Tryz.sizeOf81
 v72:=Tryz.zeroValue81
 t75:=Tryz.underlying83
 a75:=Tryz.isAgg83
 z75:=Tryz.sizeOf83
 v75:=Tryz.zeroValue83
 t76:=Tryz.underlying84
 a76:=Tryz.isAgg84
 z76:=Tryz.sizeOf84
 v76:=Tryz.zeroValue84
 t127:=Tryz.underlying146
 a127:=Tryz.isAgg146
 z127:=Tryz.sizeOf146
 v127:=Tryz.zeroValue146
 t164:=Tryz.underlying180
 a164:=Tryz.isAgg180
 z164:=Tryz.sizeOf180
 v164:=Tryz.zeroValue180 }
theorem Tryz.bx156:Builder.Extra Tryz.prog Tryz.lays156_ren where
 sizeBuilder:=by kernel_rfl
 liesBuilder:=by kernel_rfl
 t5:=Tryz.underlying5
 a5:=Tryz.isAgg5
 z5:=Tryz.sizeOf5
 v5:=Tryz.zeroValue5
 infoByte:=by kernel_rfl
 cellsByte:=by kernel_rfl
 sizeByte:=by kernel_rfl
 neB5:=by decide
open Go.Vc
set_option maxRecDepth 20000
namespace Nu
noncomputable section
def mX(F:Md)(o:Bool×List Nat):Option (Bool×List Nat):=some (false,o.2)
@[go_sem]def rC(F:Md):fH where
 D:=wt×wt
 av:=fun d=>[.ptr 0 []]
 hp:=fun d=>[.box 4294967377 (.agg [pk d.1.1 0,.own 1]),.row 5 wm d.1.2]
 m:=1
 pre:=fun d=>mX F d.1=some d.2
 out:=fun d=>(fun r:wt=>.ret (.tup []) [.box 4294967377 (.agg [pk (r).1 0,.own 1]),.row 5 wm (r).2]) d.2
@[go_sem]def yH(F:Md)(vs:List AV)(h:List Vc.Obj):Hit:=mkH (mX F (aO5 h (fL vs 0))) (false,([]:List Nat)) fun r=>⟨(rC F),[(fL vs 0),(bFt h (fL vs 0) 1)],((aO5 h (fL vs 0)),r)⟩
def vQ(F:Md)(o:Bool×List Nat):Option qd:=some o.2
@[go_sem]def oL(F:Md):fH where
 D:=wt×qd
 av:=fun d=>[.ptr 0 []]
 hp:=fun d=>[.box 4294967377 (.agg [pk d.1.1 0,.own 1]),.row 5 wm d.1.2]
 m:=1
 pre:=fun d=>vQ F d.1=some d.2
 out:=fun d=>(fun r:qd=>.ret (.val .str r) [.dead]) d.2
@[go_sem]def aAZ(F:Md)(vs:List AV)(h:List Vc.Obj):Hit:=mkH (vQ F (aO5 h (fL vs 0))) ([]:List Nat) fun r=>⟨(oL F),[(fL vs 0),(bFt h (fL vs 0) 1)],((aO5 h (fL vs 0)),r)⟩
theorem bBT{b:Nat}{c:Ctx}{w:World}{vs:Array Value}(q:vs.toList.length=1)(hb:c.hd 0= .pointer (some ⟨b,0,none⟩))(hv:∀(I:0<vs.toList.length),aX c w (.ptr 0 []) vs.toList[0]):vs= #[.pointer (some ⟨b,0,none⟩)]:=by
 obtain⟨_,J,f,e⟩:=aGY (hv (by omega));rw[hb] at f;simp only[aU,Option.some.injEq] at f;subst f;rw[← Array.toList_inj];refine List.ext_getElem q fun i z g=>?_
 match i,g with
 | 0,_=>exact e
theorem aE5[Mx](F:Md):GOK Tryz.prog GL 82 (rC F):=by
 rintro c w ⟨⟨b,L⟩,r⟩ Y g ⟨good,glob,len,val⟩;obtain rfl:(false,L)=r:=Option.some.inj g;obtain⟨B,J,q,U⟩:=aVd good (i:=0) (j:=1) (tb:=81) rfl rfl;have I:=bBT len J (fun N=>val 0 (by show 0<1; decide) N);rw[I];have O:aX c w (.tup []) (.tuple #[]):=⟨[],rfl,rfl,fun i z _=>by cases z⟩;cases b with
 | true =>
  refine Calls.mono (f:=82) (Any.Builder_copyCheck_fresh { Tryz.lays156 with } Tryz.bx156.toX72 B w (by rw[Lib.cell_of_heap q]; rfl) (by simp[World.shape?,q]; rfl) (Lib.frozen_of_heap q 0)) ?_;rintro e w' ⟨rfl,rfl⟩;exact⟨c,.tuple #[],rfl,bHg good (i:=0) (j:=1) (tb:=81) rfl rfl J,⟨[],rfl,rfl,fun i z _=>by cases z⟩⟩
 | false =>
  refine Calls.mono (f:=82) (Any.Builder_copyCheck_used { Tryz.lays156 with } Tryz.bx156.toX72 B w (by rw[Lib.cell_of_heap q]; rfl)) ?_;rintro e w' ⟨rfl,rfl⟩;exact⟨c,.tuple #[],rfl,good,O⟩
theorem aGR[Mx](F:Md):GOK Tryz.prog GL 37 (oL F):=by
 rintro c w ⟨⟨b,Y⟩,r⟩ vs O ⟨good,glob,len,val⟩;obtain rfl:Y=r:=Option.some.inj O;obtain⟨B,q1,L,q3⟩:=aVd good (i:=0) (j:=1) (tb:=81) rfl rfl;have hvs:=bBT len q1 (fun h2=>val 0 (by show 0<1; decide) h2);rw[hvs];obtain⟨l,hx,hl⟩:=bFs q3;have hlm:l.length≤maxLen:=by
  rcases hl with⟨_,rfl⟩|⟨g,I,J,_,_,h1,h2,_⟩
  ·exact Nat.zero_le _
  ·exact Nat.le_trans h1 h2
 have z:∀(g:Option Nat) (w':World),(∀b',g=some b'→aU (c.hd 1)=some b')→w.grownBy w' g→aNT (oL F) c w ((b,Y),Y) (.returned (.string ⟨l.toArray⟩)) w':=fun g w' U q=>by
  refine⟨⟨c.S,c.hd,1,c.bl⟩,.string ⟨l.toArray⟩,rfl,bHh good (i:=0) (j:=1) rfl rfl rfl q U,?_,(fun h=>by cases h),fun _ cs=>by simp⟩;show bB w' c.S .str Y [.string ⟨l.toArray⟩];exact⟨_,rfl,(by simp only[aR]; exact hx.symm),hlm⟩
 rcases hl with⟨e1,rfl⟩|⟨g,I,J,e1,U,hnc,hcm,Z,hcell⟩
 ·rw[e1] at L;refine Calls.mono (f:=37) (bCL { Tryz.lays156 with } Tryz.bx156 B _ w L) ?_;rintro e w' ⟨rfl,q⟩;exact z _ _ (fun _ h=>by cases h) q
 ·rw[e1] at L;by_cases h0:l= []
  ·subst h0;by_cases N:I=0
   ·subst N;refine Calls.mono (f:=37) (aWM { Tryz.lays156 with } Tryz.bx156 B g _ J w L U) ?_;rintro e w' ⟨rfl,q⟩;exact z _ _ (fun _ h=>by cases h) q
   ·refine Calls.mono (f:=37) (bA3 { Tryz.lays156 with } Tryz.bx156 B g I _ w N L) ?_;rintro e w' ⟨rfl,q⟩;exact z _ _ (fun _ h=>by cases h) q
  ·refine Calls.mono (f:=37) (bA2 { Tryz.lays156 with } Tryz.bx156 B g I _ J l w h0 L U hnc hcm Z hcell) ?_;rintro e w' ⟨rfl,q⟩;exact z _ _ (fun b' h=>by cases h; rw[e1]; rfl) q
def aGt(xs:List qd)(sep:List Nat):List Nat:=sep.intercalate xs
def bEx(xs:List qd)(sep:List Nat):Prop:=xs.length≤140737488355328∧(aGt xs sep).length≤140737488355328
instance (xs:List qd) (sep:List Nat):Decidable (bEx xs sep):=by unfold bEx; infer_instance
theorem aYg{s:ByteArray}{x:List Nat}(h:aR s=x):s.data.toList=x.map UInt8.ofNat:=by
 subst h;simp[aR,List.map_map,Function.comp_def]
theorem bBU{α β:Type}(f:α→β)(sep:List α):∀xs:List (List α),(sep.intercalate xs).map f=(sep.map f).intercalate (xs.map (List.map f))
 | []=>rfl
 | [x]=>by simp[List.intercalate]
 | x::y::r=>by
  have:=bBU f sep (y::r);simp only[List.intercalate,List.intersperse,List.flatten_cons,List.map_append,List.map_cons] at this ⊢;rw[this]
@[go_sem]def aLT:Ty:=.pair wo wq
@[go_sem]def aBD:aF:=⟨aLT,.one .str,fun x=>bEx x.1 x.2.1,fun x=>aGt x.1 x.2.1⟩
theorem aTN[Mx]:FOK Tryz.prog GL 34 aBD:=by
 rintro w S vs ⟨g,sep,u⟩ hS hG ⟨v,vs',e1,O,v2,vs2,e2,h2,e3⟩ ⟨p1,p2⟩;have O:bB w S wo g [v]:=O;obtain⟨a,len,J,ev,U,hlc,hcm,Y⟩:=O;have h2:bB w S .str sep [v2]:=h2;obtain⟨s,es,hs,hsz⟩:=h2;have U:g.length=len:=U;have e3:vs2= []:=e3;have hvs:vs= #[.slice a len J,.string s]:=by
  rw[← Array.toList_inj,e1,e2,e3,(List.cons.inj ev).1,(List.cons.inj es).1]
 rw[hvs];have z:∀(t:List UInt8) (w':World),t.map (·.toNat)=aGt g sep→dU w' (fun b=>S b∨(w.heap.size≤b∧b<w'.heap.size)) .str (aGt g sep) (.string ⟨t.toArray⟩):=fun t w' ht=>by
  show bB w' (fun b=>S b∨(w.heap.size≤b∧b<w'.heap.size)) .str (aGt g sep) [.string ⟨t.toArray⟩];refine⟨_,rfl,by simp[aR,ht],?_⟩;have:t.length=(aGt g sep).length:=by rw[← ht,List.length_map]
  have hp:(aGt g sep).length≤140737488355328:=p2;show t.length≤maxLen;unfold maxLen;omega
 rcases Y with Y|⟨b,off,ea,hb,hc⟩
 ·have Y:g= []:=Y;subst Y;have hl0:len=0:=U.symm;subst hl0;refine Calls.mono (f:=34) (Any.strings_Join_none Tryz.lays156 Tryz.bx156 a J s w) ?_;rintro e w' ⟨rfl,rfl⟩;exact⟨.string ⟨#[]⟩,rfl,.refl _ _,z [] w' rfl⟩
 ·have ex:g=(g.map (fun l=>(⟨(l.map UInt8.ofNat).toArray⟩:ByteArray))).map aR:=by
   rw[List.map_map];apply List.ext_getElem
   ·simp
   ·intro i O h2;obtain⟨ds,hd,_⟩:=hc i O;obtain⟨s',_,q,_⟩:=hd;have hb:=aYg q;simp only[List.getElem_map,Function.comp];show g[i]=List.map _ ((g[i]).map UInt8.ofNat);rw[← hb]; exact q.symm
  subst ea;have hcells:∀(j:Nat) x,(g.map (fun l=>(⟨(l.map UInt8.ofNat).toArray⟩:ByteArray)))[j]? = some x→w.cell? ⟨b,off+j,none⟩=some (.string x):=fun j x L=>by
   have hj:j<g.length:=by
    rcases Nat.lt_or_ge j g.length with h|h
    ·exact h
    ·rw[List.getElem?_eq_none (by simpa using h)] at L; cases L
   obtain⟨ds,hd,hcell⟩:=hc j hj;obtain⟨s',I,q,_⟩:=hd;have I:ds= [.string s']:=I;have:=hcell 0 (.string s') (by rw[I]; rfl);rw[List.getElem?_map,List.getElem?_eq_getElem hj] at L;have L:(⟨((g[j]).map UInt8.ofNat).toArray⟩:ByteArray)=x:=Option.some.inj L;rw[← L,← aYg q]
   simpa [Ty.cells] using this
  have hsd:s.data.toList.map (·.toNat)=sep:=hs;have hj:(Lib.join ((g.map (fun l=>(⟨(l.map UInt8.ofNat).toArray⟩:ByteArray))).map (·.data.toList)) s.data.toList).map (·.toNat)=aGt g sep:=by
   unfold Lib.join aGt;rw[bBU,hsd]
   congr 1
   conv=>rhs; rw[ex]
   simp only[List.map_map];rfl
  have N:=Any.strings_Join Tryz.lays156 Tryz.bx156 b off J (g.map (fun l=>(⟨(l.map UInt8.ofNat).toArray⟩:ByteArray))) s w hcells (hS b hb) (by rw[List.length_map]; exact p1) (by rw[List.length_map,U]; exact hlc) (by
   have:=congrArg List.length hj;rw[List.length_map] at this;rw[this]; exact p2)
  rw[List.length_map,U] at N;refine Calls.mono (f:=34) N ?_;rintro e w' ⟨rfl,Z⟩;exact⟨_,rfl,iL.of_below Z,z _ w' hj⟩
set_option maxHeartbeats 4000000
attribute [-go_sem] Ex.kind Ex.text Ex.l
def fP(F:Md)(g:qd)(f:wt):Option (vd×wt) :=
 (mX F (f.1,f.2)).bind (fun q=>ck (((q.2.length)+(g.length))*1≤140737488355328) (some (((g.length:Int),(),()),q.1,(q.2++g))))
def pE(F:Md):fH where
 D:=qd×wt×(vd×wt)
 av:=fun d=>[.ptr 0 [],.val .str d.1]
 hp:=fun d=>[.box 4294967377 (.agg [pk d.2.1.1 0,.own 1]),.row 5 wm d.2.1.2]
 m:=1
 pre:=fun d=>fP F d.1 d.2.1=some d.2.2
 out:=fun d=>(fun r:(vd×wt)=>.ret (.tup [.val qg r.1.1,.val .nili r.1.2.1]) [.box 4294967377 (.agg [pk r.2.1 0,.own 1]),.row 5 wm r.2.2]) d.2.2
@[go_sem]def wN(F:Md)(vs:List AV)(h:List Vc.Obj):Hit:=mkH (fP F (qT h vs 1 .str) (aO5 h (fL vs 0))) (((0:Int),(),()),false,([]:List Nat)) fun r=>⟨(pE F),[(fL vs 0),(bFt h (fL vs 0) 1)],((qT h vs 1 .str),(aO5 h (fL vs 0)),r)⟩
def wO(F:Md):PlR:=⟨[(0,.A [0,1]),(1,.P [0,1] []),(2,.B [1]),(3,.A [4,5])],[],[(82,yH F)]⟩
abbrev aEz(F:Md):List (FuncId×aF):=[]
theorem aEA[Mx](F:Md):bF Tryz.prog GL (aEz F):=.nil
attribute [go_sem] wO pE
theorem aDI[Mx](F:Md):GOK Tryz.prog GL 33 (pE F):=by
 refine jR (aZ (aEA F)) mix Tryz.func33 rfl xP (fun _=>Nat.le_of_ble_eq_true rfl) (wO F) (fun J w0 d I q h hV=>?_) (.cons (fun _ _=>(aE5 F)) xP (.nil));obtain⟨(g:qd),(f:wt),r⟩:=d;have hF:=hV.fr;replace h:=jS (show fP F g f=some r from h);simp only[vH,List.map_cons,List.map_nil,go_sem];unfold fP at h;refine aB h fun z hv h=>?_;simp only[hv,go_sem];repeat (refine⟨zAB,?_⟩)
 refine aD h fun g0 h=>(yaC ?_);obtain rfl:=aP h;refine fU [0,3] rfl rfl (yaB ?_);refine dV hF [.tmp 4,.tmp 5] rfl rfl rfl rfl rfl rfl ?_;exact zaC
def cV(F:Md)(words_0:q8)(f:wt):Option wt :=
 ck (bEx words_0 (aR ⟨#[32]⟩)) (ck ((aGt words_0 (aR ⟨#[32]⟩)).length+(aR ⟨#[10]⟩).length≤9223372036854775807) ((fP F ((aGt words_0 (aR ⟨#[32]⟩))++(aR ⟨#[10]⟩)) (f.1,f.2)).bind (fun g=>some (g.2.1,g.2.2))))
def aDJ(F:Md):fH where
 D:=q8×wt×wt
 av:=fun d=>[.val wo d.1,.ptr 0 []]
 hp:=fun d=>[.box 4294967377 (.agg [pk d.2.1.1 0,.own 1]),.row 5 wm d.2.1.2]
 m:=1
 pre:=fun d=>cV F d.1 d.2.1=some d.2.2
 out:=fun d=>(fun r:wt=>.ret (.tup []) [.box 4294967377 (.agg [pk (r).1 0,.own 1]),.row 5 wm (r).2]) d.2.2
@[go_sem]def aIB(F:Md)(vs:List AV)(h:List Vc.Obj):Hit:=mkH (cV F (qT h vs 0 wo) (aO5 h (fL vs 1))) (false,([]:List Nat)) fun r=>⟨(aDJ F),[(fL vs 1),(bFt h (fL vs 1) 1)],((qT h vs 0 wo),(aO5 h (fL vs 1)),r)⟩
def aIC(F:Md):PlR:=⟨[(0,.P [] [])],[],[(33,wN F)]⟩
abbrev aKg(F:Md):List (FuncId×aF):=[(34,aBD)]
theorem aTO[Mx](F:Md):bF Tryz.prog GL (aKg F):=.cons aTN xP (.nil)
attribute [go_sem] aIC aDJ
theorem aRK[Mx](F:Md):GOK Tryz.prog GL 32 (aDJ F):=by
 refine jR (aZ (aTO F)) mix Tryz.func32 rfl xP (fun _=>Nat.le_of_ble_eq_true rfl) (aIC F) (fun I w0 d z g h hV=>?_) (.cons (fun _ _=>(aDI F)) xP (.nil));obtain⟨(words_0:q8),(f:wt),r⟩:=d;have hF:=hV.fr;replace h:=jS (show cV F words_0 f=some r from h);simp only[vH,List.map_cons,List.map_nil,go_sem];unfold cV at h;refine aK h fun g0 h=>?_;refine aK h fun g0 h=>?_;refine aB h fun q hv h=>?_;simp only[hv,go_sem];repeat (refine⟨zAB,?_⟩)
 obtain rfl:=aP h;refine gV (fU [0,2] rfl rfl (yaB ?_));exact zaZ
def nT(F:Md)(g:qf)(f:Int)(I:Bool)(z:qd):Option (vg⊕wt) :=
 if f<(g.2.2.2.2.2.2.2.2.2.1.length:Int) then ck (0≤f∧f<(g.2.2.2.2.2.2.2.2.2.1.length:Int)) (ck ((g.2.2.2.2.2.2.2.2.2.1.getD (f.toNat) ([],[],[],[],())).1.length+(aR ⟨#[46]⟩).length≤9223372036854775807) (ck (((g.2.2.2.2.2.2.2.2.2.1.getD (f.toNat) ([],[],[],[],())).1++(aR ⟨#[46]⟩)).length+(g.2.2.2.2.2.2.2.2.2.1.getD (f.toNat) ([],[],[],[],())).2.1.length≤9223372036854775807) (ck ((g.2.2.2.2.2.2.2.2.2.1.getD (f.toNat) ([],[],[],[],())).2.2.1.length+(aR ⟨#[46]⟩).length≤9223372036854775807) (ck (((g.2.2.2.2.2.2.2.2.2.1.getD (f.toNat) ([],[],[],[],())).2.2.1++(aR ⟨#[46]⟩)).length+(g.2.2.2.2.2.2.2.2.2.1.getD (f.toNat) ([],[],[],[],())).2.2.2.1.length≤9223372036854775807) ((cV F ([(aR ⟨#[108,105,110,107]⟩),(((g.2.2.2.2.2.2.2.2.2.1.getD (f.toNat) ([],[],[],[],())).1++(aR ⟨#[46]⟩))++(g.2.2.2.2.2.2.2.2.2.1.getD (f.toNat) ([],[],[],[],())).2.1),(aR ⟨#[61]⟩),(((g.2.2.2.2.2.2.2.2.2.1.getD (f.toNat) ([],[],[],[],())).2.2.1++(aR ⟨#[46]⟩))++(g.2.2.2.2.2.2.2.2.2.1.getD (f.toNat) ([],[],[],[],())).2.2.2.1)]:List qd) (I,z)).bind (fun q=>ck (I64 (f+(1:Int))) (some (.inl ((f+(1:Int)),q.1,q.2))))))))) else some (.inr (I,z))
def sS(F:Md)(z:qf)(q:Bool)(g:qd):Option (qd×qp) :=
 (dE F (fun d:Int×Bool×qd=>nT F z d.1 d.2.1 d.2.2) ((0:Int),q,g)).bind (fun e=>(vQ F (e.1,e.2)).bind (fun f=>some (f,(0:Int),())))
def nU(F:Md)(J:qf)(g:Int)(f:Int)(z:Bool)(I:qd):Option (vg⊕wt) :=
 if f<(((J.2.2.2.2.2.2.2.2.1.getD (g.toNat) ([],[],[],[],[],())).2.2.2.2.1.length:Nat):Int) then ck (0≤f∧f<(((J.2.2.2.2.2.2.2.2.1.getD (g.toNat) ([],[],[],[],[],())).2.2.2.2.1.length:Nat):Int)) ((fM F 64 ((J.2.2.2.2.2.2.2.2.1.getD (g.toNat) ([],[],[],[],[],())).2.2.2.2.1.getD (f.toNat) ([],(Ex.mk 0 [] []),())).2.1).bind (fun L=>(cV F ([(aR ⟨#[111,117,116]⟩),((J.2.2.2.2.2.2.2.2.1.getD (g.toNat) ([],[],[],[],[],())).2.2.2.2.1.getD (f.toNat) ([],(Ex.mk 0 [] []),())).1,(aR ⟨#[61]⟩),L]:List qd) (z,I)).bind (fun q=>ck (I64 (f+(1:Int))) (some (.inl ((f+(1:Int)),q.1,q.2)))))) else some (.inr (z,I))
def sT(F:Md)(z:qf)(f:Int)(q:Bool)(g:qd):Option (vg⊕wt) :=
 (dE F (fun d:Int×Bool×qd=>nU F z f d.1 d.2.1 d.2.2) ((0:Int),q,g)).bind (fun e=>ck (I64 (f+(1:Int))) (some (.inl ((f+(1:Int)),e.1,e.2))))
def nV(F:Md)(J:qf)(g:Int)(f:Int)(q:Bool)(z:qd):Option (vg⊕wt) :=
 if f<(((J.2.2.2.2.2.2.2.2.1.getD (g.toNat) ([],[],[],[],[],())).2.2.2.1.length:Nat):Int) then ck (0≤f∧f<(((J.2.2.2.2.2.2.2.2.1.getD (g.toNat) ([],[],[],[],[],())).2.2.2.1.length:Nat):Int)) ((cV F ([(aR ⟨#[105,110]⟩),((J.2.2.2.2.2.2.2.2.1.getD (g.toNat) ([],[],[],[],[],())).2.2.2.1.getD (f.toNat) ([]:List Nat))]:List qd) (q,z)).bind (fun I=>ck (I64 (f+(1:Int))) (some (.inl ((f+(1:Int)),I.1,I.2))))) else some (.inr (q,z))
def sU(F:Md)(z:qf)(f:Int)(q:Bool)(g:qd):Option (vg⊕wt) :=
 (dE F (fun d:Int×Bool×qd=>nV F z f d.1 d.2.1 d.2.2) ((0:Int),q,g)).bind (fun e=>sT F z f e.1 e.2)
def nW(F:Md)(J:qf)(g:Int)(f:Int)(z:Bool)(q:qd):Option (vg⊕wt) :=
 if f<(((J.2.2.2.2.2.2.2.2.1.getD (g.toNat) ([],[],[],[],[],())).2.2.1.length:Nat):Int) then ck (0≤f∧f<(((J.2.2.2.2.2.2.2.2.1.getD (g.toNat) ([],[],[],[],[],())).2.2.1.length:Nat):Int)) ((xL F ((J.2.2.2.2.2.2.2.2.1.getD (g.toNat) ([],[],[],[],[],())).2.2.1.getD (f.toNat) ([],([],[],()),())).2.1).bind (fun L=>(cV F ([(aR ⟨#[112,97,114]⟩),((J.2.2.2.2.2.2.2.2.1.getD (g.toNat) ([],[],[],[],[],())).2.2.1.getD (f.toNat) ([],([],[],()),())).1,(aR ⟨#[61]⟩),L]:List qd) (z,q)).bind (fun I=>ck (I64 (f+(1:Int))) (some (.inl ((f+(1:Int)),I.1,I.2)))))) else some (.inr (z,q))
def sV(F:Md)(z:qf)(f:Int)(q:Bool)(g:qd):Option (vg⊕wt) :=
 (dE F (fun d:Int×Bool×qd=>nW F z f d.1 d.2.1 d.2.2) ((0:Int),q,g)).bind (fun e=>sU F z f e.1 e.2)
def nX(F:Md)(z:qf)(g:Int)(f:Int)(q:Bool)(I:qd):Option (vg⊕wt) :=
 if f<(((z.2.2.2.2.2.2.2.2.1.getD (g.toNat) ([],[],[],[],[],())).2.1.length:Nat):Int) then ck (0≤f∧f<(((z.2.2.2.2.2.2.2.2.1.getD (g.toNat) ([],[],[],[],[],())).2.1.length:Nat):Int)) ((xL F ((z.2.2.2.2.2.2.2.2.1.getD (g.toNat) ([],[],[],[],[],())).2.1.getD (f.toNat) ([],([],[],()),(Ex.mk 0 [] []),())).2.1).bind (fun N=>(fM F 64 ((z.2.2.2.2.2.2.2.2.1.getD (g.toNat) ([],[],[],[],[],())).2.1.getD (f.toNat) ([],([],[],()),(Ex.mk 0 [] []),())).2.2.1).bind (fun L=>(cV F ([(aR ⟨#[115,116,97,116,101]⟩),((z.2.2.2.2.2.2.2.2.1.getD (g.toNat) ([],[],[],[],[],())).2.1.getD (f.toNat) ([],([],[],()),(Ex.mk 0 [] []),())).1,(aR ⟨#[61]⟩),N,(aR ⟨#[100,101,114]⟩),L]:List qd) (q,I)).bind (fun J=>ck (I64 (f+(1:Int))) (some (.inl ((f+(1:Int)),J.1,J.2))))))) else some (.inr (q,I))
def qQ(F:Md)(z:qf)(f:Int)(g:Bool)(q:qd):Option (vg⊕wt) :=
 if f<(z.2.2.2.2.2.2.2.2.1.length:Int) then ck (0≤f∧f<(z.2.2.2.2.2.2.2.2.1.length:Int)) ((cV F ([(aR ⟨#[115,117,98]⟩),(z.2.2.2.2.2.2.2.2.1.getD (f.toNat) ([],[],[],[],[],())).1]:List qd) (g,q)).bind (fun I=>(dE F (fun d:Int×Bool×qd=>nX F z f d.1 d.2.1 d.2.2) ((0:Int),I.1,I.2)).bind (fun e=>sV F z f e.1 e.2))) else some (.inr (g,q))
def pF(F:Md)(f:qf)(g:qd):Option (qd×qp) :=
 (qA F f.1).bind (fun v_13=>(cV F ([(aR ⟨#[112,114,101,99]⟩),v_13]:List qd) (true,([]:List Nat))).bind (fun I=>(cV F ([(aR ⟨#[101,110,100]⟩),f.2.2.2.2.1]:List qd) (I.1,I.2)).bind (fun q=>(cV F ([(aR ⟨#[115,116,101,112]⟩),f.2.2.2.2.2.1,f.2.2.2.2.2.2.1]:List qd) (q.1,q.2)).bind (fun J=>(cV F ([(aR ⟨#[116,111,108]⟩),f.2.2.2.2.2.2.2.1]:List qd) (J.1,J.2)).bind (fun N=>(qA F f.2.1).bind (fun Y=>(cV F ([(aR ⟨#[116,114,105,101,115]⟩),Y]:List qd) (N.1,N.2)).bind (fun L=>(qA F f.2.2.1).bind (fun U=>(cV F ([(aR ⟨#[111,114,100,101,114]⟩),U]:List qd) (L.1,L.2)).bind (fun O=>(cV F ([g]:List qd) (O.1,O.2)).bind (fun z=>(dE F (fun d:Int×Bool×qd=>qQ F f d.1 d.2.1 d.2.2) ((0:Int),z.1,z.2)).bind (fun e=>sS F f e.1 e.2)))))))))))
def lT(F:Md)(f:qf):Option (qd×qp) :=
 (iQ F f).bind (fun g=>if ¬(g=true) then some ((aR ⟨#[]⟩),(1:Int),()) else if f.2.2.2.1=(2:Int) then pF F f (aR ⟨#[115,101,105,100,101,108]⟩) else pF F f (aR ⟨#[106,97,99,111,98,105]⟩))
def aLU(F:Md):PlR:=⟨[(0,.B [1]),(1,.A [1,21]),(2,.A [2,3]),(3,.stop),(4,.A [1,4,5]),(5,.A [1,4,5,6]),(6,.A [1,4,5,6,25]),(7,.A [1,4,5,6]),(8,.P [1,4,5,6] []),(9,.P [1,4,5,6] []),(10,.P [1,4,5,6] []),(11,.P [1,4,5,6] []),(12,.P [1,4,5,6] []),(13,.P [1,4,5,6] []),(14,.P [1,4,5] []),(15,.A [1,4,5,66,67,68]),(16,.A [1,4,5,66,67,68,69]),(17,.B [1,4,5,8,66,67,68]),(18,.P [1,4,5,8,66,67,68] []),(19,.A [1,4,5,8,66,67,68,78,79,80]),(20,.A [1,4,5,8,66,67,68,78,79,80,81]),(21,.B [1,4,5,8,10,66,67,68,78,79,80]),(22,.Q 10 [1,4,5,8,66,67,68,78,79,80] []),(23,.A [1,4,5,8,66,67,68,78,79,80]),(24,.A [1,4,5,8,66,67,68,97,98,99]),(25,.A [1,4,5,8,66,67,68,97,98,99,100]),(26,.B [1,4,5,8,12,66,67,68,97,98,99]),(27,.Q 7 [1,4,5,8,66,67,68,97,98,99] []),(28,.A [1,4,5,8,66,67,68,97,98,99]),(29,.A [1,4,5,8,66,67,68,113,114,115]),(30,.A [1,4,5,8,66,67,68,113,114,115,116]),(31,.A [1,4,5,8,14,66,67,68,113,114,115]),(32,.P [1,4,5,8,66,67,68,113,114,115] []),(33,.A [1,4,5,8,66,67,68,113,114,115]),(34,.A [1,4,5,66,67,68,125,126,127]),(35,.A [1,4,5,66,67,68,125,126,127,128]),(36,.B [1,4,5,16,66,67,68,125,126,127]),(37,.Q 7 [1,4,5,66,67,68,125,126,127] []),(38,.A [1,4,5,66,67,68,125,126,127]),(39,.A [1,4,5,66,67,68]),(40,.A [4,5,142,143,144]),(41,.A [4,5,142,143,144,145]),(42,.B [4,5,18,142,143,144]),(43,.P [4,5,142,143,144] []),(44,.A [4,5,142,143,144]),(45,.P [2,3] [])],[(9,11),(18,43),(22,27),(27,32),(32,37)],[(32,aIB F),(37,aAZ F)]⟩
def aNu:Ty:=.pair qe .unit
def wP(F:Md):aF:=mSpec aNu (.tup (.pair .str qm)) (fun x=>lT F x.1)
abbrev aBp(F:Md):List (FuncId×aF):=[(31,(yR F 64)),(35,(aBC F)),(36,(aD5 F)),(8,(uZ F))]
theorem aXt[Mx](F:Md):bF Tryz.prog GL (aBp F):=.cons (aHS F 64) xP (.cons (aTL F) xP (.cons (aXs F) xP (.cons (aJA F) xP (.nil))))
attribute [go_sem] aNu aLU
theorem aLV[Mx](F:Md):FOK Tryz.prog GL 12 (wP F):=by
 refine bQ (aZ (aXt F)) mix Tryz.func12 rfl xP xAa (aLU F) (fun w0 S x Θ hw h hV=>?_) (.cons (fun _ _=>(aRK F)) xP (.cons (fun _ _=>(aGR F)) xP (.nil)));have hF:=hV.fr;obtain⟨(g:qf),u⟩:=x;simp only[cA,go_sem];replace h:sat (lT F g) _:=h;unfold lT at h;refine aB h fun v_7 hv h=>?_;try simp only[hv,go_sem]
 refine zT h (fun hc h=>?_) fun hc h=>?_
 ·exact aG hV [.tmp 2,.tmp 3] rfl rfl rfl (aA h) xAc
 ·obtain⟨q0,h,hq⟩:=h;refine dH hF [1,4] (yaA ?_);refine bLJ 1 4294967377 5 rfl (yaA ?_);first|replace h:=lO h hq|replace h:=lO (Θ:=(· = r)) h hq
  refine aGf hV (yaA ?_);refine dB hV (D:=qd) (fun d=>sat (pF F g d) Θ) [] (fun d=>[(1,.ptr 0 []),(4,.ptr 1 []),(5,.fn 32 [] [1]),(6,.val .str d)]) (fun d=>[.inr (.box 10 (.val qe g)),.inr (.box 4294967377 (.agg [pk true 1,.own 2])),.inr (.row 5 wm ([]:List Nat))]) ?_ ?_
  ·simp only[go_sem];refine cE h (fun hc h=>?_) fun hc h=>?_
   ·exact aT (aR ⟨#[115,101,105,100,101,108]⟩) h rfl xAb
   ·exact aT (aR ⟨#[106,97,99,111,98,105]⟩) h rfl xAb
  ·rintro mode_8 h;simp only[go_sem];replace h:sat (pF F g mode_8) _:=h;unfold pF at h;refine aB h fun v_13 hv h=>?_;(try simp only[hv,go_sem]);refine aB h fun r_14 hv h=>?_;simp only[List.replicate,List.set,hv,go_sem];refine aB h fun r_16 hv h=>?_;simp only[List.replicate,List.set,hv,go_sem];refine aB h fun r_18 hv h=>?_;simp only[List.replicate,List.set,hv,go_sem];refine aB h fun r_20 hv h=>?_;simp only[List.replicate,List.set,hv,go_sem];refine aB h fun v_25 hv h=>?_;(try simp only[hv,go_sem]);refine aB h fun r_26 hv h=>?_;simp only[List.replicate,List.set,hv,go_sem];refine aB h fun v_31 hv h=>?_;(try simp only[hv,go_sem]);refine aB h fun r_32 hv h=>?_;simp only[List.replicate,List.set,hv,go_sem];refine aB h fun r_34 hv h=>?_;simp only[List.replicate,List.set,hv,go_sem];(repeat (refine⟨zAB,?_⟩));refine dB hV (D:=Bool×qd) (fun d=>sat (sS F g d.1 d.2) Θ) [] (fun d=>[(1,.ptr 0 []),(4,.ptr 1 []),(5,.fn 32 [] [1])]) (fun d=>[.inr (.box 10 (.val qe g)),.inr (.box 4294967377 (.agg [pk d.1 1,.own 2])),.inr (.row 5 wm d.2)]) ?_ ?_
   ·simp only[go_sem];refine aDQ [0,1,9] rfl rfl (yaA ?_);refine bP hV (D:=Int×Bool×qd) [66,67] (fun d=>[(1,.ptr 0 []),(4,.ptr 1 []),(5,.fn 32 [] [1]),(68,.val qg d.1)]) (fun d=>[.inr (.box 10 (.val qe g)),.inr (.box 4294967377 (.agg [pk d.2.1 1,.own 2])),.inr (.row 5 wm d.2.2)]) h rfl xAb ?_;rintro⟨f,N,O⟩ A16 T16 hA16 hE16 h;simp only[go_sem];replace h:sat (qQ F g f N O) _:=h;unfold qQ at h;refine dS h (fun hc h=>?_) fun hc h=>?_
    ·refine aD h fun g0 h=>(yaD ?_);refine aB h fun r_439 hv h=>?_;simp only[List.replicate,List.set,hv,go_sem];(repeat (refine⟨zAB,?_⟩));refine dB hV (D:=Bool×qd) (fun d=>sat (sV F g f d.1 d.2) T16) [66,67,68] (fun d=>[(1,.ptr 0 []),(4,.ptr 1 []),(5,.fn 32 [] [1]),(8,.ptr 3 [])]) (fun d=>[.inr (.box 10 (.val qe g)),.inr (.box 4294967377 (.agg [pk d.1 1,.own 2])),.inr (.row 5 wm d.2),.inr (.box 5 (.val qa (g.2.2.2.2.2.2.2.2.1.getD (f.toNat) ([],[],[],[],[],()))))]) ?_ ?_
     ·simp only[go_sem];refine aDQ [0,1,4,3] rfl rfl (yaA ?_);refine bP hV (D:=Int×Bool×qd) [66,67,68,78,79] (fun d=>[(1,.ptr 0 []),(4,.ptr 1 []),(5,.fn 32 [] [1]),(8,.ptr 3 []),(80,.val qg d.1)]) (fun d=>[.inr (.box 10 (.val qe g)),.inr (.box 4294967377 (.agg [pk d.2.1 1,.own 2])),.inr (.row 5 wm d.2.2),.inr (.box 5 (.val qa (g.2.2.2.2.2.2.2.2.1.getD (f.toNat) ([],[],[],[],[],()))))]) h rfl xAb ?_;rintro⟨x80_571,J,Y⟩ A20 T20 hA20 hE20 h;simp only[go_sem];replace h:sat (nX F g f x80_571 J Y) _:=h;unfold nX at h;refine dS h (fun hc h=>?_) fun hc h=>?_
      ·refine aD h fun g0 h=>(yaD ?_);(try refine⟨(by kernel_rfl:aYZ _ _=true),?_⟩);refine aB h fun v_603 hv h=>?_;(try simp only[hv,go_sem]);refine aB h fun v_604 hv h=>?_;(try simp only[hv,go_sem]);refine aB h fun r_605 hv h=>?_;simp only[List.replicate,List.set,hv,go_sem];(repeat (refine⟨zAB,?_⟩));refine aD h fun g0 h=>?_;(try simp only[I64,I32] at g0);(repeat (refine⟨zAB,?_⟩));replace h:=hA20 _ (aA h);refine fU [0,1,5,3] rfl rfl (yaA ?_);exact zaI
      ·replace h:=yaG (hE20 _ (aA h));exact aT (J,Y) h rfl xAb
     ·rintro⟨b_464,x_465⟩ h;simp only[go_sem];replace h:sat (sV F g f b_464 x_465) _:=h;unfold sV at h;refine dB hV (D:=Bool×qd) (fun d=>sat (sU F g f d.1 d.2) T16) [66,67,68] (fun d=>[(1,.ptr 0 []),(4,.ptr 1 []),(5,.fn 32 [] [1]),(8,.ptr 3 [])]) (fun d=>[.inr (.box 10 (.val qe g)),.inr (.box 4294967377 (.agg [pk d.1 1,.own 2])),.inr (.row 5 wm d.2),.inr (.box 5 (.val qa (g.2.2.2.2.2.2.2.2.1.getD (f.toNat) ([],[],[],[],[],()))))]) ?_ ?_
      ·simp only[go_sem];refine bP hV (D:=Int×Bool×qd) [66,67,68,97,98] (fun d=>[(1,.ptr 0 []),(4,.ptr 1 []),(5,.fn 32 [] [1]),(8,.ptr 3 []),(99,.val qg d.1)]) (fun d=>[.inr (.box 10 (.val qe g)),.inr (.box 4294967377 (.agg [pk d.2.1 1,.own 2])),.inr (.row 5 wm d.2.2),.inr (.box 5 (.val qa (g.2.2.2.2.2.2.2.2.1.getD (f.toNat) ([],[],[],[],[],()))))]) h rfl xAb ?_;rintro⟨Z,L,x_541⟩ A25 T25 hA25 hE25 h;simp only[go_sem];replace h:sat (nW F g f Z L x_541) _:=h;unfold nW at h;refine dS h (fun hc h=>?_) fun hc h=>?_
       ·refine aD h fun g0 h=>(yaD ?_);(try refine⟨(by kernel_rfl:aYZ _ _=true),?_⟩);refine aB h fun v_560 hv h=>?_;(try simp only[hv,go_sem]);refine aB h fun r_561 hv h=>?_;simp only[List.replicate,List.set,hv,go_sem];(repeat (refine⟨zAB,?_⟩));refine aD h fun g0 h=>?_;(try simp only[I64,I32] at g0);(repeat (refine⟨zAB,?_⟩));replace h:=hA25 _ (aA h);refine fU [0,1,5,3] rfl rfl (yaA ?_);exact zaI
       ·replace h:=yaG (hE25 _ (aA h));exact aT (L,x_541) h rfl xAb
      ·rintro⟨b_482,x_483⟩ h;simp only[go_sem];replace h:sat (sU F g f b_482 x_483) _:=h;unfold sU at h;refine dB hV (D:=Bool×qd) (fun d=>sat (sT F g f d.1 d.2) T16) [66,67,68] (fun d=>[(1,.ptr 0 []),(4,.ptr 1 []),(5,.fn 32 [] [1]),(8,.ptr 3 [])]) (fun d=>[.inr (.box 10 (.val qe g)),.inr (.box 4294967377 (.agg [pk d.1 1,.own 2])),.inr (.row 5 wm d.2),.inr (.box 5 (.val qa (g.2.2.2.2.2.2.2.2.1.getD (f.toNat) ([],[],[],[],[],()))))]) ?_ ?_
       ·simp only[go_sem];refine bP hV (D:=Int×Bool×qd) [66,67,68,113,114] (fun d=>[(1,.ptr 0 []),(4,.ptr 1 []),(5,.fn 32 [] [1]),(8,.ptr 3 []),(115,.val qg d.1)]) (fun d=>[.inr (.box 10 (.val qe g)),.inr (.box 4294967377 (.agg [pk d.2.1 1,.own 2])),.inr (.row 5 wm d.2.2),.inr (.box 5 (.val qa (g.2.2.2.2.2.2.2.2.1.getD (f.toNat) ([],[],[],[],[],()))))]) h rfl xAb ?_;rintro⟨I,b_524,U⟩ A30 T30 hA30 hE30 h;simp only[go_sem];replace h:sat (nV F g f I b_524 U) _:=h;unfold nV at h;refine dS h (fun hc h=>?_) fun hc h=>?_
        ·refine aD h fun g0 h=>(yaD ?_);refine aB h fun r_533 hv h=>?_;simp only[List.replicate,List.set,hv,go_sem];refine aD h fun g0 h=>?_;(try simp only[I64,I32] at g0);(repeat (refine⟨zAB,?_⟩));replace h:=hA30 _ (aA h);refine fU [0,1,4,3] rfl rfl (yaA ?_);exact zaI
        ·replace h:=yaG (hE30 _ (aA h));exact aT (b_524,U) h rfl xAb
       ·rintro⟨b_492,x_493⟩ h;simp only[go_sem];replace h:sat (sT F g f b_492 x_493) _:=h;unfold sT at h;refine aDQ [0,1,2] rfl rfl (yaA ?_);refine bP hV (D:=Int×Bool×qd) [66,67,68,125,126] (fun d=>[(1,.ptr 0 []),(4,.ptr 1 []),(5,.fn 32 [] [1]),(127,.val qg d.1)]) (fun d=>[.inr (.box 10 (.val qe g)),.inr (.box 4294967377 (.agg [pk d.2.1 1,.own 2])),.inr (.row 5 wm d.2.2)]) h rfl xAb ?_;rintro⟨z,b_500,x_501⟩ A35 T35 hA35 hE35 h;simp only[go_sem];replace h:sat (nU F g f z b_500 x_501) _:=h;unfold nU at h;refine dS h (fun hc h=>?_) fun hc h=>?_
        ·refine aD h fun g0 h=>(yaD ?_);(try refine⟨(by kernel_rfl:aYZ _ _=true),?_⟩);refine aB h fun v_520 hv h=>?_;(try simp only[hv,go_sem]);refine aB h fun r_521 hv h=>?_;simp only[List.replicate,List.set,hv,go_sem];(repeat (refine⟨zAB,?_⟩));refine aD h fun g0 h=>?_;(try simp only[I64,I32] at g0);(repeat (refine⟨zAB,?_⟩));replace h:=hA35 _ (aA h);refine fU [0,1,4] rfl rfl (yaA ?_);exact zaI
        ·replace h:=yaG (hE35 _ (aA h));refine aD h fun g0 h=>?_;(try simp only[I64,I32] at g0);(repeat (refine⟨zAB,?_⟩));replace h:=hA16 _ (aA h);exact zaI
    ·replace h:=yaG (hE16 _ (aA h));exact aT (N,O) h rfl xAb
   ·rintro⟨b_187,x_188⟩ h;simp only[go_sem];replace h:sat (sS F g b_187 x_188) _:=h;unfold sS at h;refine aDQ [1,2] rfl rfl (yaA ?_);refine bP hV (D:=Int×Bool×qd) [142,143] (fun d=>[(4,.ptr 0 []),(5,.fn 32 [] [0]),(144,.val qg d.1)]) (fun d=>[.inr (.box 4294967377 (.agg [pk d.2.1 0,.own 1])),.inr (.row 5 wm d.2.2)]) h rfl xAb ?_;rintro⟨q,b_199,x_200⟩ A41 T41 hA41 hE41 h;simp only[go_sem];replace h:sat (nT F g q b_199 x_200) _:=h;unfold nT at h;refine dS h (fun hc h=>?_) fun hc h=>?_
    ·refine aD h fun g0 h=>(yaD ?_);refine aD h fun g0 h=>(yaD ?_);refine aD h fun g0 h=>(yaD ?_);refine aD h fun g0 h=>(yaD ?_);refine aD h fun g0 h=>(yaD ?_);refine aB h fun r_208 hv h=>?_;simp only[List.replicate,List.set,hv,go_sem];(repeat (refine⟨zAB,?_⟩));refine aD h fun g0 h=>?_;(try simp only[I64,I32] at g0);(repeat (refine⟨zAB,?_⟩));replace h:=hA41 _ (aA h);refine fU [0,3] rfl rfl (yaA ?_);exact zaI
    ·replace h:=yaG (hE41 _ (aA h));refine aB h fun r_210 hv h=>?_;simp only[hv,go_sem];(repeat (refine⟨zAB,?_⟩));exact aG hV [.tmp 2,.tmp 3] rfl rfl rfl (aA h) (by (simp only[aS,go_sem])<;>first|rfl|(simp; done))
attribute [go_sem] wP
end
end Nu
end Go.Proofs

