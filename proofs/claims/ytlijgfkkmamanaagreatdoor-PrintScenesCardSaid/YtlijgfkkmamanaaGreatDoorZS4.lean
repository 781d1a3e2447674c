import Derived.Test.YtlijgfkkmamanaaGreatDoorZS3
import Derived.Test.YtlijgfkkmamanaaGreatDoorZS1
import Derived.Test.YtlijgfkkmamanaaGreatDoorZL5
import Derived.Laws.Externs
import Derived.Lib.Bytealg
import Derived.Test.YtlijgfkkmamanaaGreatDoorZS2
import Derived.Test.YtlijgfkkmamanaaGreatDoorZL6
import Derived.Shelf.Strings.Search3
import Derived.Shelf.Strings.Cut
import Derived.Shelf.Strings.Split
import Derived.Lib.Builder
set_option linter.unusedVariables false
set_option linter.unusedSimpArgs false
namespace Go.Proofs
open Go.Vc
set_option maxRecDepth 20000
namespace Nu
noncomputable section
set_option maxHeartbeats 4000000
attribute [-go_sem] Ex.kind Ex.text Ex.l
@[go_sem]def aAI:Ty:=.pair .expr qm
@[go_sem]def aBq(g:Ex→Int→Option (Int)):aF:=mSpec aAI (.one qg) (fun x=>g x.1 x.2.1)
def qR(F:Md)(g:Ex→Int→Option (Int))(z:Ex)(f:Int)(I:Int)(q:Int):Option (ww⊕(Int)) :=
 if (q<(((z.l).length:Nat):Int))∧(I≤(200:Int)) then ck (0≤q∧q<(((z.l).length:Nat):Int)) (ck (I64 (f+(1:Int))) (ck ((g ((z.l).getD (q.toNat) (Ex.mk 0 [] [])) (f+(1:Int))).isSome=true) (ck (I64 (I+((g ((z.l).getD (q.toNat) (Ex.mk 0 [] [])) (f+(1:Int))).getD (0:Int)))) (ck (I64 (q+(1:Int))) (some (.inl ((I+((g ((z.l).getD (q.toNat) (Ex.mk 0 [] [])) (f+(1:Int))).getD (0:Int))),(q+(1:Int))))))))) else some (.inr I)
def qB(F:Md)(g:Ex→Int→Option (Int))(q:Ex)(f:Int):Option Int :=
 if ((40:Int)<f)∨((100:Int)<(((q.text).length:Nat):Int)) then some (201:Int) else (dE F (fun d:Int×Int=>qR F g q f d.1 d.2) ((1:Int),(0:Int))).bind (fun e=>some (min e (201:Int)))
abbrev aJG(F:Md)(g:Ex→Int→Option (Int)):List (FuncId×aF):=[(80,(aBq g))]
theorem aP7[Mx](F:Md)(g:Ex→Int→Option (Int))(f:FOK Tryz.prog GL 80 (aBq g)):bF Tryz.prog GL (aJG F g):=.cons f xP (.nil)
theorem aWc[Mx](F:Md)(g:Ex→Int→Option (Int))(L:FOK Tryz.prog GL 80 (aBq g)):FOK Tryz.prog GL 80 (mSpec aAI (.one qg) (fun x=>qB F g x.1 x.2.1)):=by
 refine aDD (aZ (aP7 F g L)) Tryz.func80 rfl xP xAa fun w0 S x r N h=>?_;have hF:uP (fr Tryz.prog (EM (aJG F g)) S w0 Tryz.f80.ntmps):=⟨aZ (aP7 F g L),mix⟩;obtain⟨(z:Ex),(f:Int),u⟩:=x;simp only[aAI,Ty.wf,aF8] at N;simp only[cA,aAI];try dsimp only at h
 replace h:qB F g z f=some r:=h;unfold qB at h;refine aL (dH hF [1,2] (yaA ?_));refine aN (aL (aQ hF [1,2,5] (yaA ?_)));refine aN (aL (aL (aQ hF [1,2,5,14] (yaA ?_))));refine aN (cS rfl (fun hc=>?_) (fun hc=>?_))
 ·try simp only[go_sem] at hc
  have h:=oD zAC h;refine aL (aQ hF [4] (yaA ?_));obtain rfl:=Option.some.inj h;refine aN (gU (eD (nG hF [.tmp 4] rfl rfl rfl ?_)));exact zAJ
 ·try simp only[go_sem] at hc
  have h:=nB zAC h;refine eC (aN (aL (aL (aQ hF [1,2,5,6] (yaA ?_)))));refine aN (oV (aFW (D:=Int×Int) [1] (fun d=>[(2,.ptr 0 []),(5,.val qg d.1),(6,.val qg d.2)]) (fun d=>[.inr (.box 3 (.val .expr z))]) h ?_ ?_ ?_))
  ·first|rfl|(simp only[go_sem]; done)
  ·exact zAI
  rintro⟨J,I⟩ U h q;simp only[go_sem];try dsimp only at h
  unfold qR at h;refine aL (aL (aQ hF [1,2,5,6,23] (yaA ?_)));refine aN (cS rfl (fun hc=>?_) (fun hc=>?_))
  ·(try simp only[go_sem] at hc);have h:=oD zAC h;refine eC (aN (aL (oV (aQ hF [1,2,5,6] (yaA ?_)))));obtain⟨g0,h⟩:=bD h;obtain⟨g1,h⟩:=bD h;obtain⟨Y,h⟩:=bD h;obtain⟨O,h⟩:=bD h;(try simp only[I64,I32] at g1);(try simp only[I64,I32] at O);(repeat (refine⟨zAA,?_⟩));refine pJ (aN (aQ hF [1,2,5,6] (yaA ?_)));obtain⟨g0,h⟩:=bD h;(try simp only[I64,I32] at g0);(repeat (refine⟨zAA,?_⟩));obtain rfl:=Option.some.inj h;dsimp only[aA9] at q;refine dQ (aT ((J+((g ((z.l).getD (I.toNat) (Ex.mk 0 [] [])) (f+(1:Int))).getD (0:Int))),(I+(1:Int))) q rfl ?_)
   ·exact zAI
  ·(try simp only[go_sem] at hc);have h:=nB zAC h;obtain rfl:=Option.some.inj h;dsimp only[aA9] at q;have h:=yaG (q);refine aEh (kJ (kJ (pK (aN (aL (aQ hF [4] (yaA ?_)))))));obtain rfl:=Option.some.inj h;refine aN (gU (nG hF [.tmp 4] rfl rfl rfl ?_));exact zAJ
def rZ(F:Md):Nat→Ex→Int→Option (Int)
 | 0=>fun _ _=>none
 | n+1=>qB F (rZ F n)
def aD6(F:Md)(n:Nat):aF:=mSpec aAI (.one qg) (fun x=>rZ F n x.1 x.2.1)
theorem aNv[Mx](F:Md):∀n,FOK Tryz.prog GL 80 (aD6 F n)
 | 0=>fun _ _ _ _ _ _ _ hp=>Bool.noConfusion (show false=true from hp)
 | n+1=>aWc F _ (aNv F n)
attribute [go_sem] aD6
def vR(F:Md)(f:Ex):Option Bool :=
 (rZ F 64 f (1:Int)).bind (fun v_5=>some (decide (v_5≤(200:Int))))
def aLW:PlR:=⟨[(0,.B [1]),(1,.A [2])],[],[]⟩
def aNw:Ty:=.pair .expr .unit
def aC1(F:Md):aF:=mSpec aNw (.one .bool) (fun x=>vR F x.1)
abbrev aNx(F:Md):List (FuncId×aF):=[(80,(aD6 F 64))]
theorem aXu[Mx](F:Md):bF Tryz.prog GL (aNx F):=.cons (aNv F 64) xP (.nil)
attribute [go_sem] aNw aLW
theorem aWd[Mx](F:Md):FOK Tryz.prog GL 30 (aC1 F):=by
 refine bQ (aZ (aXu F)) mix Tryz.func30 rfl xP xAa aLW (fun w0 S x Θ g h hV=>?_);obtain⟨(f:Ex),u⟩:=x;simp only[cA,go_sem];replace h:sat (vR F f) _:=h;unfold vR at h;exact zan
attribute [go_sem] aC1
def oH(F:Md)(q:qf)(g:Int)(f:Int):Option ((Int)⊕((Unit)⊕Bool)) :=
 if f<(((q.2.2.2.2.2.2.2.2.1.getD (g.toNat) ([],[],[],[],[],())).2.2.2.2.1.length:Nat):Int) then ck (0≤f∧f<(((q.2.2.2.2.2.2.2.2.1.getD (g.toNat) ([],[],[],[],[],())).2.2.2.2.1.length:Nat):Int)) ((vR F ((q.2.2.2.2.2.2.2.2.1.getD (g.toNat) ([],[],[],[],[],())).2.2.2.2.1.getD (f.toNat) ([],(Ex.mk 0 [] []),())).2.1).bind (fun z=>if ¬(z=true) then some (.inr (.inr false)) else some (.inl (IntKind.i64.wrap (f+(1:Int)))))) else some (.inr (.inl ()))
def wQ(F:Md)(g:qf)(f:Int):Option ((Int)⊕((Unit)⊕Bool)) :=
 (dE F (fun d:Int=>oH F g f d) (0:Int)).bind (fun e=>match e with|(.inl e)=>some (.inl (IntKind.i64.wrap (f+(1:Int))))|(.inr e)=>some (.inr (.inr e)))
def oI(F:Md)(q:qf)(g:Int)(f:Int):Option ((Int)⊕((Unit)⊕Bool)) :=
 if f<(((q.2.2.2.2.2.2.2.2.1.getD (g.toNat) ([],[],[],[],[],())).2.1.length:Nat):Int) then ck (0≤f∧f<(((q.2.2.2.2.2.2.2.2.1.getD (g.toNat) ([],[],[],[],[],())).2.1.length:Nat):Int)) ((vR F ((q.2.2.2.2.2.2.2.2.1.getD (g.toNat) ([],[],[],[],[],())).2.1.getD (f.toNat) ([],([],[],()),(Ex.mk 0 [] []),())).2.2.1).bind (fun z=>ck (¬(¬(z=true))→(0≤f∧f<(((q.2.2.2.2.2.2.2.2.1.getD (g.toNat) ([],[],[],[],[],())).2.1.length:Nat):Int))) (ck (¬(¬(z=true))→(0≤f∧f<(((q.2.2.2.2.2.2.2.2.1.getD (g.toNat) ([],[],[],[],[],())).2.1.length:Nat):Int))) (if (¬(z=true))∨((200:Int)<(IntKind.i64.wrap (((((q.2.2.2.2.2.2.2.2.1.getD (g.toNat) ([],[],[],[],[],())).2.1.getD (f.toNat) ([],([],[],()),(Ex.mk 0 [] []),())).2.1.1.length:Nat):Int)+((((q.2.2.2.2.2.2.2.2.1.getD (g.toNat) ([],[],[],[],[],())).2.1.getD (f.toNat) ([],([],[],()),(Ex.mk 0 [] []),())).2.1.2.1.length:Nat):Int)))) then some (.inr (.inr false)) else some (.inl (IntKind.i64.wrap (f+(1:Int)))))))) else some (.inr (.inl ()))
def tO(F:Md)(g:qf)(f:Int):Option ((Int)⊕((Unit)⊕Bool)) :=
 if f<(g.2.2.2.2.2.2.2.2.1.length:Int) then ck (0≤f∧f<(g.2.2.2.2.2.2.2.2.1.length:Int)) (if (((((10:Int)<(((g.2.2.2.2.2.2.2.2.1.getD (f.toNat) ([],[],[],[],[],())).2.1.length:Nat):Int))∨((10:Int)<(((g.2.2.2.2.2.2.2.2.1.getD (f.toNat) ([],[],[],[],[],())).2.2.1.length:Nat):Int)))∨((10:Int)<(((g.2.2.2.2.2.2.2.2.1.getD (f.toNat) ([],[],[],[],[],())).2.2.2.1.length:Nat):Int)))∨((10:Int)<(((g.2.2.2.2.2.2.2.2.1.getD (f.toNat) ([],[],[],[],[],())).2.2.2.2.1.length:Nat):Int)))∨((100:Int)<(((g.2.2.2.2.2.2.2.2.1.getD (f.toNat) ([],[],[],[],[],())).1.length:Nat):Int)) then some (.inr (.inr false)) else (dE F (fun d:Int=>oI F g f d) (0:Int)).bind (fun e=>match e with|(.inl e)=>wQ F g f|(.inr e)=>some (.inr (.inr e)))) else some (.inr (.inl ()))
def aCk(F:Md)(f:qf):Option Bool :=
 if (((8:Int)<(f.2.2.2.2.2.2.2.2.1.length:Int))∨((20:Int)<(f.2.2.2.2.2.2.2.2.2.1.length:Int)))∨((400:Int)<(IntKind.i64.wrap ((IntKind.i64.wrap ((IntKind.i64.wrap ((f.2.2.2.2.1.length:Int)+(f.2.2.2.2.2.1.length:Int)))+(f.2.2.2.2.2.2.1.length:Int)))+(f.2.2.2.2.2.2.2.1.length:Int)))) then some false else (dE F (fun d:Int=>tO F f d) (0:Int)).bind (fun e=>match e with|(.inl e)=>some true|(.inr e)=>some e)
def aP8:PlR:=⟨[(0,.B [1]),(1,.A [1,34]),(2,.A [2]),(3,.A [1,3]),(4,.A [1,3,39]),(5,.A [1,3]),(6,.B [1,3,4]),(7,.A [1,3,4,74]),(8,.A [2]),(9,.A [1,3,4,5]),(10,.A [1,3,4,5,79]),(11,.A [1,3,4,5]),(12,.A [1,3,4,5,109]),(13,.A [2]),(14,.A [1,3,4,6]),(15,.A [1,3,4,6,114]),(16,.A [1,3,4,6]),(17,.A [1,3,4,6,124]),(18,.A [2]),(19,.A [2])],[(12,17)],[]⟩
def aHn:Ty:=.pair qe .unit
def aFK(F:Md):aF:=mSpec aHn (.one .bool) (fun x=>aCk F x.1)
abbrev aSW(F:Md):List (FuncId×aF):=[(30,(aC1 F))]
theorem bBV[Mx](F:Md):bF Tryz.prog GL (aSW F):=.cons (aWd F) xP (.nil)
attribute [go_sem] aHn aP8
theorem aZS[Mx](F:Md):FOK Tryz.prog GL 10 (aFK F):=by
 refine bQ (bMN (bBV F)) mix Tryz.func10 rfl xP xAa aP8 (fun w0 S x Θ hw h hV=>?_);obtain⟨(f:qf),u⟩:=x;simp only[cA,go_sem];replace h:sat (aCk F f) _:=h;unfold aCk at h;refine⟨fun hc=>?_,fun hc=>?_⟩
 ·replace h:=fQ hc h;exact zaE
 ·replace h:=fR hc h;refine bP hV (D:=Int) [] (fun d=>[(1,.ptr 0 []),(3,.val qg d)]) (fun d=>[.inr (.box 10 (.val qe f))]) h rfl xAb ?_;rintro g A4 T4 hA4 hE4 h;simp only[go_sem];replace h:sat (tO F f g) _:=h;unfold tO at h;refine dS h (fun hc h=>?_) fun hc h=>?_
  ·refine aD h fun g0 h=>(yaD ?_);refine⟨fun hc=>?_,fun hc=>?_⟩
   ·replace h:=fQ hc h;replace h:=yaG (hE4 _ (aA h));exact zaE
   ·replace h:=fR hc h;refine dB hV (D:=Unit) (fun d=>sat (wQ F f g) T4) [3] (fun d=>[(1,.ptr 0 []),(4,.ptr 1 [])]) (fun d=>[.inr (.box 10 (.val qe f)),.inr (.box 5 (.val qa (f.2.2.2.2.2.2.2.2.1.getD (g.toNat) ([],[],[],[],[],()))))]) ?_ ?_
    ·simp only[go_sem];refine bP hV (D:=Int) [3] (fun d=>[(1,.ptr 0 []),(4,.ptr 1 []),(5,.val qg d)]) (fun d=>[.inr (.box 10 (.val qe f)),.inr (.box 5 (.val qa (f.2.2.2.2.2.2.2.2.1.getD (g.toNat) ([],[],[],[],[],()))))]) h rfl xAb ?_;rintro I Z Y J z h;simp only[go_sem];replace h:sat (oI F f g I) _:=h;unfold oI at h;refine dS h (fun hc h=>?_) fun hc h=>?_
     ·refine aD h fun g0 h=>(yaD ?_);refine aB h fun O hv h=>?_;(try simp only[hv,go_sem]);refine aD h fun g0 h=>?_;refine aD h fun g1 h=>?_;(repeat (refine⟨zAG,?_⟩));refine⟨fun hc=>?_,fun hc=>?_⟩
      ·replace h:=fQ zAC h;replace h:=yaG (z _ (aA h));replace h:=yaG (hE4 _ (aA h));exact zaE
      ·replace h:=fR zAC h;replace h:=J _ (aA h);exact zaI
     ·replace h:=yaG (z _ (aA h));exact aT () h rfl xAb
    ·rintro u h;simp only[go_sem];replace h:sat (wQ F f g) _:=h;unfold wQ at h;refine bP hV (D:=Int) [3] (fun d=>[(1,.ptr 0 []),(4,.ptr 1 []),(6,.val qg d)]) (fun d=>[.inr (.box 10 (.val qe f)),.inr (.box 5 (.val qa (f.2.2.2.2.2.2.2.2.1.getD (g.toNat) ([],[],[],[],[],()))))]) h rfl xAb ?_;rintro N A15 T15 L q h;simp only[go_sem];replace h:sat (oH F f g N) _:=h;unfold oH at h;refine dS h (fun hc h=>?_) fun hc h=>?_
     ·refine aD h fun g0 h=>(yaD ?_);refine aB h fun U hv h=>?_;(try simp only[hv,go_sem]);refine zT h (fun hc h=>?_) fun hc h=>?_
      ·replace h:=yaG (q _ (aA h));replace h:=yaG (hE4 _ (aA h));exact zaE
      ·replace h:=L _ (aA h);exact zaI
     ·replace h:=yaG (q _ (aA h));replace h:=hA4 _ (aA h);refine fU [0] rfl rfl (yaA ?_);exact zaI
  ·replace h:=yaG (hE4 _ (aA h));exact zaE
attribute [go_sem] aFK
def aWf:ByteArray:=⟨⟨112::114::101::99::32::52::48::10::101::110::100::32::49::10::115::116::101::112::32::48::46::53::32::48::46::49::50::53::10::116::111::108::32::49::10::116::114::105::101::115::32::52::10::111::114::100::101::114::32::48::10::106::97::99::111::98::105::10::115::117::98::32::97::10::115::116::97::116::101::32::120::32::61::32::49::32::100::101::114::32::120::10::111::117::116::32::121::32::61::32::120::10:: []⟩⟩
@[go_sem]theorem aXv:(⟨⟨112::114::101::99::32::52::48::10::101::110::100::32::49::10::115::116::101::112::32::48::46::53::32::48::46::49::50::53::10::116::111::108::32::49::10::116::114::105::101::115::32::52::10::111::114::100::101::114::32::48::10::106::97::99::111::98::105::10::115::117::98::32::97::10::115::116::97::116::101::32::120::32::61::32::49::32::100::101::114::32::120::10::111::117::116::32::121::32::61::32::120::10:: []⟩⟩:ByteArray)=aWf:=rfl
def aFL(F:Md):Option Bool :=
 (fM F 64 (Ex.mk (10:Int) ([]:List Nat) ([(Ex.mk (6:Int) ([]:List Nat) ([(Ex.mk (2:Int) (aR ⟨#[97]⟩) ([]:List Ex)),(Ex.mk (2:Int) (aR ⟨#[97]⟩) ([]:List Ex))]:List Ex))]:List Ex))).bind (fun v_5=>(aD4 F).bind (fun f=>(lT F f).bind (fun v_13=>(lT F ((0:Int),(0:Int),(0:Int),(0:Int),([]:List Nat),([]:List Nat),([]:List Nat),([]:List Nat),([]:List qc),([]:List qy),())).bind (fun v_17=>some ((((decide (v_5=(aR ⟨#[45,40,97,32,43,32,97,41]⟩)))&&(decide (v_13.2.1=(0:Int))))&&(decide (v_13.1=(aR aWf))))&&(decide (v_17.2.1=(1:Int))))))))
def aNy:PlR:=⟨[(0,.A []),(1,.B [1]),(2,.A [2]),(3,.A [2,3,4]),(4,.A [2,3,4,6]),(5,.A [0])],[],[]⟩
def aJH:Ty:=.unit
def aNz(F:Md):aF:=mSpec aJH (.one .bool) (fun x=>aFL F )
abbrev aFM(F:Md):List (FuncId×aF):=[(12,(wP F)),(14,(aC0 F)),(31,(yR F 64))]
theorem aZT[Mx](F:Md):bF Tryz.prog GL (aFM F):=.cons (aLV F) xP (.cons (aV7 F) xP (.cons (aHS F 64) xP (.nil)))
attribute [go_sem] aJH aNy
theorem aXw[Mx](F:Md):FOK Tryz.prog GL 11 (aNz F):=by
 refine bQ (aZ (aZT F)) mix Tryz.func11 rfl xP xAa aNy (fun w0 S x Θ g h hV=>?_);simp only[cA,go_sem];replace h:sat (aFL F) _:=h;unfold aFL at h;refine aB h fun v_5 hv h=>?_;try simp only[hv,go_sem]
 refine aB h fun f hv h=>?_;try simp only[hv,go_sem]
 refine aB h fun v_13 hv h=>?_;try simp only[hv,go_sem]
 refine aB h fun v_17 hv h=>?_;try simp only[hv,go_sem]
 exact aG hV [.tmp 0] rfl rfl rfl (aA h) xAc
attribute [go_sem] aNz
def aZU:List Nat→Nat→Nat→Int
 | [],_,_=> -1
 | b::l,c,k=>if b=c then (k:Int) else aZU l c (k+1)
def aKC(l:List Nat)(c:Nat):Int:=aZU l c 0
theorem aJI:∀(l:List UInt8) (c:UInt8),Lib.indexByte l c= -1∨0≤Lib.indexByte l c
 | [],c=>.inl rfl
 | b::l,c=>by
  unfold Lib.indexByte;split
  ·exact .inr xAa
  ·split
   ·exact .inl rfl
   ·rename_i h;rcases aJI l c with f|f
    ·rw[f] at h; exact absurd rfl h
    ·right; omega
theorem aYh:∀(l:List UInt8) (c:UInt8) (k:Nat),aZU (l.map (·.toNat)) c.toNat k=if Lib.indexByte l c= -1 then -1 else Lib.indexByte l c+k
 | [],c,k=>rfl
 | b::l,c,k=>by
  have q:=aYh l c (k+1);have J:=aJI l c;rw[List.map_cons,aZU];unfold Lib.indexByte;by_cases hb:b=c
  ·subst hb;simp
  ·have z:¬b.toNat=c.toNat:=fun h=>hb (UInt8.toNat_inj.1 h);have g:(b == c)=false:=(by simpa using hb);rw[if_neg z,q,g];by_cases f:Lib.indexByte l c= -1
   ·rw[if_pos f,f]; rfl
   ·have I:(Lib.indexByte l c == -1)=false:=(by simpa using f);rw[if_neg f,I];simp only[Bool.false_eq_true,if_false];rw[if_neg (by omega)];omega
@[go_sem]def aAh:Ty:=.pair .str vj
@[go_sem]def mY:aF:=⟨aAh,.one qg,fun _=>True,fun x=>aKC x.1 x.2.1⟩
theorem aFN[Mx]:NOK Tryz.prog GL 177 mY:=by
 refine⟨(fun e t h=>by cases h),fun w U S x hS hG Y hp=>?_⟩;obtain⟨(a:List Nat),(c:Nat),u⟩:=x;obtain⟨v1,r1,e1,J,v2,r2,Z,f,q⟩:=Y;have q:r2= []:=q;subst q;have J:bB w S .str a [v1]:=J;obtain⟨s,es,hs,O⟩:=J;obtain rfl:=(List.cons.inj es).1;have hw:=f;unfold dU at f;rw[if_neg (by simp[Ty.isAgg])] at f;simp only[bB,List.cons.injEq,and_true] at f;have hc:c<256:=by
  have:=f.2.2;have hm:IntKind.u8.max=255:=by decide
  omega
 obtain rfl:=f.1;have N:U= #[.string s,.int .u8 (c:Int)]:=by rw[← Array.toList_inj,e1,Z]
 rw[N];refine⟨.int .i64 (Lib.indexByte s.data.toList ((c:Int).toNat.toUInt8)),w,?_,_,rfl,.refl _ _,?_⟩
 ·rw[run_callFunc_extern Tryz.func177 xP xP xP (e:=Extern.BytealgIndexByte.indexByte) xP,Lib.run_indexByteString];rfl
 ·show dU w _ qg (aKC a c) _;have hx:aKC a c=Lib.indexByte s.data.toList ((c:Int).toNat.toUInt8):=by
   have I:((c:Int).toNat.toUInt8).toNat=c:=by
    rw[Int.toNat_natCast];exact Nat.mod_eq_of_lt hc
   have:=aYh s.data.toList ((c:Int).toNat.toUInt8) 0;rw[I] at this;have hs:a=s.data.toList.map (·.toNat):=hs.symm;unfold aKC;rw[hs,this];split
   ·rename_i h; exact h.symm
   ·omega
  rw[hx];unfold dU;rw[if_neg (by simp[Ty.isAgg])];have ho:=aJI s.data.toList ((c:Int).toNat.toUInt8);have L:∀(l:List UInt8) (c:UInt8),Lib.indexByte l c≤l.length:=fun l c=>by
   induction l with
   | nil=>exact(by decide:(-1:Int)≤0)
   | cons b l ih =>
    unfold Lib.indexByte;split
    ·simp; omega
    ·split
     ·simp; omega
     ·simp; omega
  have L:=L s.data.toList ((c:Int).toNat.toUInt8);have g:s.data.toList.length≤maxLen:=O;unfold maxLen at g;generalize Lib.indexByte s.data.toList ((c:Int).toNat.toUInt8)=z at ho L ⊢;refine⟨rfl,rfl,?_,?_⟩
  ·have hm:IntKind.i64.min= -9223372036854775808:=(by decide);show (IntKind.i64.min:Int)≤z;rw[hm];omega
  ·have hm:IntKind.i64.max=9223372036854775807:=(by decide);show (z:Int)≤IntKind.i64.max;rw[hm];omega
def pP(F:Md)(f:qd)(g:Nat):Option Int :=
 some (aKC f g)
def aA0:PlR:=⟨[(0,.A [0,1]),(1,.A [4])],[],[]⟩
def aBr:Ty:=.pair .str vj
def oM(F:Md):aF:=mSpec aBr (.one qg) (fun x=>pP F x.1 x.2.1)
abbrev aBs(F:Md):List (FuncId×aF):=[(177,mY)]
theorem aHT[Mx](F:Md):bF Tryz.prog GL (aBs F):=.nat aFN (.nil)
attribute [go_sem] aBr aA0
theorem aGS[Mx](F:Md):FOK Tryz.prog GL 132 (oM F):=by
 refine bQ (aZ (aHT F)) mix Tryz.func132 rfl xP xAa aA0 (fun w0 S x Θ q h hV=>?_);obtain⟨(f:qd),(g:Nat),u⟩:=x;simp only[cA,go_sem];replace h:sat (pP F f g) _:=h;unfold pP at h;exact zaD
attribute [go_sem] oM
def aV(F:Md)(f:qd)(g:Nat):Option Int :=
 (pP F f g).bind (fun q=>some q)
def aEB:PlR:=⟨[(0,.A [0,1]),(1,.A [4])],[],[]⟩
def aFf:Ty:=.pair .str vj
def eE(F:Md):aF:=mSpec aFf (.one qg) (fun x=>aV F x.1 x.2.1)
abbrev aFg(F:Md):List (FuncId×aF):=[(132,(oM F))]
theorem aML[Mx](F:Md):bF Tryz.prog GL (aFg F):=.cons (aGS F) xP (.nil)
attribute [go_sem] aFf aEB
theorem qC[Mx](F:Md):FOK Tryz.prog GL 125 (eE F):=by
 refine bQ (aZ (aML F)) mix Tryz.func125 rfl xP xAa aEB (fun w0 S x Θ z h hV=>?_);obtain⟨(f:qd),(g:Nat),u⟩:=x;simp only[cA,go_sem];replace h:sat (aV F f g) _:=h;unfold aV at h;refine aB h fun q hv h=>?_;exact zao
attribute [go_sem] eE
def eP(F:Md)(f:qh):Option (qh⊕qh) :=
 ck ((f.2.1<(f.1.length:Int))→(0≤f.2.1∧f.2.1<(f.1.length:Int))) (if (f.2.1<(f.1.length:Int))∧((f.1.getD (f.2.1.toNat) (0:Nat))=(32:Nat)) then ck (I64 (f.2.1+(1:Int))) (some (.inl (f.1,(f.2.1+(1:Int)),f.2.2.1,()))) else some (.inr f))
def iR(F:Md)(f:qh):Option qh :=
 (dE F (fun d:qh=>eP F d) f).bind (fun e=>some e)
def vF(F:Md):fH where
 D:=qh×qh
 av:=fun d=>[.ptr 0 []]
 hp:=fun d=>[.box 3 (.val qt d.1)]
 m:=1
 pre:=fun d=>iR F d.1=some d.2
 out:=fun d=>(fun r:qh=>.ret (.tup []) [.box 3 (.val qt (r))]) d.2
@[go_sem]def aEC(F:Md)(vs:List AV)(h:List Vc.Obj):Hit:=mkH (iR F (eK h (fL vs 0) qt)) (([]:List Nat),(0:Int),(0:Int),()) fun r=>⟨(vF F),[(fL vs 0)],((eK h (fL vs 0) qt),r)⟩
def aED:PlR:=⟨[(0,.A [0,23]),(1,.B [0])],[],[]⟩
abbrev aMM(F:Md):List (FuncId×aF):=[]
theorem aMN[Mx](F:Md):bF Tryz.prog GL (aMM F):=.nil
attribute [go_sem] aED vF
theorem aEE[Mx](F:Md):GOK Tryz.prog GL 40 (vF F):=by
 refine jR (aZ (aMN F)) mix Tryz.func40 rfl xP (fun _=>Nat.le_of_ble_eq_true rfl) aED (fun N w0 d L I h hV=>?_);obtain⟨(f:qh),r⟩:=d;have hF:=hV.fr;replace h:=jS (show iR F f=some r from h);simp only[vH,List.map_cons,List.map_nil,go_sem];unfold iR at h;refine bP hV (D:=qh) [] (fun d=>[(0,.ptr 0 [])]) (fun d=>[.inr (.box 3 (.val qt d))]) h rfl xAb ?_;rintro q J O z g h;simp only[go_sem];replace h:sat (eP F q) _:=h;unfold eP at h;refine aK h fun g0 h=>?_;refine⟨fun hc=>?_,fun hc=>?_⟩
 ·replace h:=fQ hc h;refine aK h fun g0 h=>?_;replace h:=z _ (aA h);exact zaI
 ·replace h:=fR hc h;replace h:=yaG (g _ (aA h));obtain rfl:=aP h;exact zas
def fE(F:Md)(signs_1:qd)(g:qh):Option ((Nat×ve)×qh) :=
 (iR F g).bind (fun f=>ck (¬(f.2.1=(f.1.length:Int))→(0≤f.2.1∧f.2.1<(f.1.length:Int))) (ck (¬(f.2.1=(f.1.length:Int))→((aV F signs_1 (f.1.getD (f.2.1.toNat) (0:Nat))).isSome=true)) (if (f.2.1=(f.1.length:Int))∨(((aV F signs_1 (f.1.getD (f.2.1.toNat) (0:Nat))).getD (0:Int))<(0:Int)) then some (((0:Nat),false,()),f) else ck (I64 (f.2.1+(1:Int))) (ck (I64 ((f.2.1+(1:Int))-(1:Int))) (ck (0≤((f.2.1+(1:Int))-(1:Int))∧((f.2.1+(1:Int))-(1:Int))<(f.1.length:Int)) (some (((f.1.getD ((f.2.1+(1:Int))-(1:Int)).toNat (0:Nat)),true,()),f.1,(f.2.1+(1:Int)),f.2.2.1,())))))))
def xM(F:Md):fH where
 D:=qd×qh×((Nat×ve)×qh)
 av:=fun d=>[.ptr 0 [],.val .str d.1]
 hp:=fun d=>[.box 3 (.val qt d.2.1)]
 m:=1
 pre:=fun d=>fE F d.1 d.2.1=some d.2.2
 out:=fun d=>(fun r:((Nat×ve)×qh)=>.ret (.tup [.val wm r.1.1,.val .bool r.1.2.1]) [.box 3 (.val qt r.2)]) d.2.2
@[go_sem]def xN(F:Md)(vs:List AV)(h:List Vc.Obj):Hit:=mkH (fE F (qT h vs 1 .str) (eK h (fL vs 0) qt)) (((0:Nat),false,()),([]:List Nat),(0:Int),(0:Int),()) fun r=>⟨(xM F),[(fL vs 0)],((qT h vs 1 .str),(eK h (fL vs 0) qt),r)⟩
def aGu(F:Md):PlR:=⟨[(0,.A [0,1]),(1,.P [0,1] []),(2,.A [0,31]),(3,.A [4,5]),(4,.B [0]),(5,.A [4,5])],[],[(40,aEC F)]⟩
abbrev aHo(F:Md):List (FuncId×aF):=[(125,(eE F))]
theorem aP9[Mx](F:Md):bF Tryz.prog GL (aHo F):=.cons (qC F) xP (.nil)
attribute [go_sem] aGu xM
theorem xO[Mx](F:Md):GOK Tryz.prog GL 124 (xM F):=by
 refine jR (aZ (aP9 F)) mix Tryz.func124 rfl xP (fun _=>Nat.le_of_ble_eq_true rfl) (aGu F) (fun I w0 d z g h hV=>?_) (.cons (fun _ _=>(aEE F)) xP (.nil));obtain⟨(signs_1:qd),(f:qh),r⟩:=d;have hF:=hV.fr;replace h:=jS (show fE F signs_1 f=some r from h);simp only[vH,List.map_cons,List.map_nil,go_sem];unfold fE at h;refine aB h fun q hv h=>?_;simp only[hv,go_sem];refine aK h fun g0 h=>aK h fun g1 h=>?_;refine⟨fun hc=>?_,fun hc=>?_⟩
 ·replace h:=fQ hc h;obtain rfl:=aP h;refine dV hF [.tmp 4,.tmp 5] rfl rfl rfl rfl rfl rfl ?_;exact zaC
 ·replace h:=fR hc h;refine aK h fun g0 h=>?_;refine aK h fun g0 h=>aK h fun g1 h=>?_;obtain rfl:=aP h;refine dV hF [.tmp 4,.tmp 5] rfl rfl rfl rfl rfl rfl ?_;exact zaC
def eX(F:Md)(f:qd)(q:qh):Option (qh⊕qp) :=
 (fE F f q).bind (fun g=>if ¬(g.1.2.1=true) then some (.inr (g.2.2.1,())) else some (.inl g.2))
def aAi(F:Md):fH where
 D:=qd×qh×(qh⊕qp)
 av:=fun d=>[.ptr 0 [],.val .str d.1]
 hp:=fun d=>[.box 3 (.val qt d.2.1)]
 m:=1
 pre:=fun d=>eX F d.1 d.2.1=some d.2.2
 out:=fun d=>match d.2.2 with| .inl r=>.ret (.tup []) [.box 3 (.val qt (r))]| .inr p=>.pan ⟨93,qm,p⟩ [.box 3 (.junk)]
@[go_sem]def aEF(F:Md)(vs:List AV)(h:List Vc.Obj):Hit:=mkH (eX F (qT h vs 1 .str) (eK h (fL vs 0) qt)) (.inr ((0:Int),())) fun r=>⟨(aAi F),[(fL vs 0)],((qT h vs 1 .str),(eK h (fL vs 0) qt),r)⟩
def aEG(F:Md):PlR:=⟨[(0,.P [0,5] []),(1,.A [0,13]),(2,.P [] [])],[],[(124,xN F)]⟩
abbrev aMO(F:Md):List (FuncId×aF):=[]
theorem aMP[Mx](F:Md):bF Tryz.prog GL (aMO F):=.nil
attribute [go_sem] aEG aAi
theorem aLX[Mx](F:Md):GOK Tryz.prog GL 199 (aAi F):=by
 refine jR (aZ (aMP F)) mix Tryz.func199 rfl xP (fun _=>Nat.le_of_ble_eq_true rfl) (aEG F) (fun J w0 d I q h hV=>?_) (.cons (fun _ _=>(xO F)) xP (.nil));obtain⟨(f:qd),(g:qh),r⟩:=d;have hF:=hV.fr;replace h:=jS (show eX F f g=some r from h);simp only[vH,List.map_cons,List.map_nil,go_sem];unfold eX at h;refine aB h fun z hv h=>?_;simp only[hv,go_sem];refine zT h (fun hc h=>?_) fun hc h=>?_
 ·obtain rfl:=aP h;exact zaH
 ·obtain rfl:=aP h;exact zas
def eB(F:Md)(q:Int)(g:qd)(z:vo)(f:qh):Option wd :=
 ck (I64 (f.2.2.1+(1:Int))) (some ((Ex.mk q g z),f.1,f.2.1,(f.2.2.1+(1:Int)),()))
def gX(F:Md):fH where
 D:=Int×qd×vo×qh×wd
 av:=fun d=>[.ptr 0 [],.val qg d.1,.val .str d.2.1,.val (.sl .expr) d.2.2.1]
 hp:=fun d=>[.box 3 (.val qt d.2.2.2.1)]
 m:=1
 pre:=fun d=>eB F d.1 d.2.1 d.2.2.1 d.2.2.2.1=some d.2.2.2.2
 out:=fun d=>(fun r:wd=>.ret (.val .expr r.1) [.box 3 (.val qt r.2)]) d.2.2.2.2
@[go_sem]def aEH(F:Md)(vs:List AV)(h:List Vc.Obj):Hit:=mkH (eB F (qT h vs 1 qg) (qT h vs 2 .str) (qT h vs 3 (.sl .expr)) (eK h (fL vs 0) qt)) ((Ex.mk 0 [] []),([]:List Nat),(0:Int),(0:Int),()) fun r=>⟨(gX F),[(fL vs 0)],((qT h vs 1 qg),(qT h vs 2 .str),(qT h vs 3 (.sl .expr)),(eK h (fL vs 0) qt),r)⟩
def aEI:PlR:=⟨[(0,.B [0,1,2,3,8]),(1,.B [1,2,3,8]),(2,.B [8])],[],[]⟩
abbrev aMQ(F:Md):List (FuncId×aF):=[]
theorem aMR[Mx](F:Md):bF Tryz.prog GL (aMQ F):=.nil
attribute [go_sem] aEI gX
theorem mT[Mx](F:Md):GOK Tryz.prog GL 126 (gX F):=by
 refine jR (aZ (aMR F)) mix Tryz.func126 rfl xP (fun _=>Nat.le_of_ble_eq_true rfl) aEI (fun L w0 d J I h hV=>?_);obtain⟨(f:Int),(g:qd),(z:vo),(q:qh),r⟩:=d;have hF:=hV.fr;replace h:=jS (show eB F f g z q=some r from h);simp only[vH,List.map_cons,List.map_nil,go_sem];unfold eB at h;refine aK h fun g0 h=>?_;exact zax
def vS(F:Md)(z:qd)(q:Int)(J:Int)(f:Int):Option (Int) :=
 (nL F z f).bind (fun g=>ck (I64 (f+(min g (4:Int)))) (ck (0≤f∧f≤(f+(min g (4:Int)))∧(f+(min g (4:Int)))≤(z.length:Int)) (ck ((aR ⟨#[48]⟩).length+(List.drop (f.toNat) (List.take (f+(min g (4:Int))).toNat z)).length≤9223372036854775807) ((nK F ((aR ⟨#[48]⟩)++(List.drop (f.toNat) (List.take (f+(min g (4:Int))).toNat z)))).bind (fun I=>if (((1:Int)≤g)∧(g≤(3:Int)))∧(I.1≤(100:Int)) then ck (I64 (f+g)) (ck (I64 ((f+g)-q)) (some ((f+g)-q))) else ck (I64 (J-q)) (some (J-q)))))))
def pQ(F:Md)(g:qd)(q:Int)(f:Int):Option (Int) :=
 ck ((f<(g.length:Int))→(0≤f∧f<(g.length:Int))) (if (f<(g.length:Int))∧((g.getD (f.toNat) (0:Nat))=(101:Nat)) then ck (I64 (f+(1:Int))) (ck (((f+(1:Int))<(g.length:Int))→(0≤(f+(1:Int))∧(f+(1:Int))<(g.length:Int))) (ck (((f+(1:Int))<(g.length:Int))→ ¬((g.getD (f+(1:Int)).toNat (0:Nat))=(43:Nat))→(0≤(f+(1:Int))∧(f+(1:Int))<(g.length:Int))) (if ((f+(1:Int))<(g.length:Int))∧(((g.getD (f+(1:Int)).toNat (0:Nat))=(43:Nat))∨((g.getD (f+(1:Int)).toNat (0:Nat))=(45:Nat))) then ck (I64 ((f+(1:Int))+(1:Int))) (vS F g q f ((f+(1:Int))+(1:Int))) else vS F g q f (f+(1:Int))))) else ck (I64 (f-q)) (some (f-q)))
def gG(F:Md)(q:qd)(f:Int):Option Int :=
 (nL F q f).bind (fun g=>ck (I64 (f+g)) (if (f+g)=f then some (0:Int) else ck (((f+g)<(q.length:Int))→(0≤(f+g)∧(f+g)<(q.length:Int))) (if ((f+g)<(q.length:Int))∧((q.getD (f+g).toNat (0:Nat))=(46:Nat)) then ck (I64 ((f+g)+(1:Int))) ((nL F q ((f+g)+(1:Int))).bind (fun v_27=>if (0:Int)<v_27 then ck (I64 ((f+g)+(1:Int))) (ck (I64 (((f+g)+(1:Int))+v_27)) (pQ F q f (((f+g)+(1:Int))+v_27))) else pQ F q f (f+g))) else pQ F q f (f+g))))
def aSX:PlR:=⟨[(0,.A [0,1]),(1,.A [0,1,5]),(2,.A [0,1,5,18]),(3,.A [4]),(4,.A [0,1,5,28]),(5,.A [0,1,5,6]),(6,.A [0,1,5,6,34]),(7,.A [0,1,5]),(8,.A [0,1,5,48]),(9,.A [0,1,5,7]),(10,.A [0,1,5,7,66]),(11,.A [0,1,5,7]),(12,.A [0,1,5,7,8]),(13,.A [1,5,7,8,9]),(14,.A [1,5,7,8,93]),(15,.A [1,5]),(16,.A [4])],[(7,11),(13,15)],[]⟩
def aWg:Ty:=.pair .str qm
def aHp(F:Md):aF:=mSpec aWg (.one qg) (fun x=>gG F x.1 x.2.1)
abbrev aOs(F:Md):List (FuncId×aF):=[(141,(yP F)),(99,(oG F))]
theorem bDg[Mx](F:Md):bF Tryz.prog GL (aOs F):=.cons (aNd F) xP (.cons (aE1 F) xP (.nil))
attribute [go_sem] aWg aSX
theorem bBW[Mx](F:Md):FOK Tryz.prog GL 200 (aHp F):=by
 refine bQ (aZ (bDg F)) mix Tryz.func200 rfl xP xAa aSX (fun w0 S x Θ N h hV=>?_);obtain⟨(g:qd),(f:Int),u⟩:=x;simp only[cA,go_sem];replace h:sat (gG F g f) _:=h;unfold gG at h;refine aB h fun z hv h=>?_;try simp only[hv,go_sem]
 refine aD h fun g0 h=>(yaC ?_);refine cE h (fun hc h=>?_) fun hc h=>?_
 ·exact aG hV [.tmp 4] rfl rfl rfl (aA h) xAc
 ·refine dB hV (D:=Int) (fun d=>sat (pQ F g f d) Θ) [0,1] (fun d=>[(5,.val qg d)]) (fun d=>[]) ?_ ?_
  ·simp only[go_sem];refine aD h fun g0 h=>(yaC ?_);refine⟨fun hc=>?_,fun hc=>?_⟩
   ·replace h:=fQ hc h;refine aD h fun g0 h=>(yaC ?_);refine aB h fun v_27 hv h=>?_;(try simp only[hv,go_sem]);refine dS h (fun hc h=>?_) fun hc h=>?_
    ·refine aD h fun g0 h=>?_;refine aD h fun g1 h=>(yaC ?_);exact aT (((f+z)+(1:Int))+v_27) h rfl xAb
    ·exact aT (f+z) h rfl xAb
   ·replace h:=fR hc h;exact aT (f+z) h rfl xAb
  ·rintro q h;simp only[go_sem];replace h:sat (pQ F g f q) _:=h;unfold pQ at h;refine aD h fun g0 h=>(yaC ?_);refine⟨fun hc=>?_,fun hc=>?_⟩
   ·replace h:=fQ hc h;refine aD h fun g0 h=>(yaC ?_);refine dB hV (D:=Int) (fun d=>sat (vS F g f q d) Θ) [0,1,5] (fun d=>[(7,.val qg d)]) (fun d=>[]) ?_ ?_
    ·simp only[go_sem];refine aD h fun g0 h=>?_;refine aD h fun g1 h=>(yaC ?_);refine⟨fun hc=>?_,fun hc=>?_⟩
     ·replace h:=fQ hc h;refine aD h fun g0 h=>(yaC ?_);exact aT ((q+(1:Int))+(1:Int)) h rfl xAb
     ·replace h:=fR hc h;exact aT (q+(1:Int)) h rfl xAb
    ·rintro I h;simp only[go_sem];replace h:sat (vS F g f q I) _:=h;unfold vS at h;refine aB h fun L hv h=>?_;(try simp only[hv,go_sem]);refine aD h fun g0 h=>?_;refine aD h fun g1 h=>?_;refine aD h fun O h=>(yaC ?_);refine aB h fun J hv h=>?_;(try simp only[hv,go_sem]);refine⟨fun hc=>?_,fun hc=>?_⟩
     ·replace h:=fQ hc h;refine aD h fun g0 h=>(yaC ?_);refine aD h fun g0 h=>(yaC ?_);exact zaD
     ·replace h:=fR hc h;refine aD h fun g0 h=>(yaC ?_);exact zaD
   ·replace h:=fR hc h;refine aD h fun g0 h=>(yaC ?_);exact zaD
attribute [go_sem] aHp
def lL(F:Md)(f:qh):Option (wd⊕qp) :=
 ck ((gG F f.1 f.2.1).isSome=true) (if (((gG F f.1 f.2.1).getD (0:Int))=(0:Int))∨((60:Int)<((gG F f.1 f.2.1).getD (0:Int))) then some (.inr (f.2.1,())) else ck (I64 (f.2.1+((gG F f.1 f.2.1).getD (0:Int)))) (ck (I64 ((f.2.1+((gG F f.1 f.2.1).getD (0:Int)))-((gG F f.1 f.2.1).getD (0:Int)))) (ck (0≤((f.2.1+((gG F f.1 f.2.1).getD (0:Int)))-((gG F f.1 f.2.1).getD (0:Int)))∧((f.2.1+((gG F f.1 f.2.1).getD (0:Int)))-((gG F f.1 f.2.1).getD (0:Int)))≤(f.2.1+((gG F f.1 f.2.1).getD (0:Int)))∧(f.2.1+((gG F f.1 f.2.1).getD (0:Int)))≤(f.1.length:Int)) ((eB F (1:Int) (List.drop ((f.2.1+((gG F f.1 f.2.1).getD (0:Int)))-((gG F f.1 f.2.1).getD (0:Int))).toNat (List.take (f.2.1+((gG F f.1 f.2.1).getD (0:Int))).toNat f.1)) ([]:List Ex) (f.1,(f.2.1+((gG F f.1 f.2.1).getD (0:Int))),f.2.2.1,())).bind (fun g=>some (.inl (g.1,g.2)))))))
def sA(F:Md):fH where
 D:=qh×(wd⊕qp)
 av:=fun d=>[.ptr 0 []]
 hp:=fun d=>[.box 3 (.val qt d.1)]
 m:=1
 pre:=fun d=>lL F d.1=some d.2
 out:=fun d=>match d.2 with| .inl r=>.ret (.val .expr r.1) [.box 3 (.val qt r.2)]| .inr p=>.pan ⟨93,qm,p⟩ [.box 3 (.junk)]
def aC2(F:Md):PlR:=⟨[(0,.B [0,2]),(1,.A [0,2,3]),(2,.A [0,2,3,18]),(3,.P [0,2,3] []),(4,.B [0,2,3]),(5,.Q 16 [2] [])],[],[(126,aEH F)]⟩
abbrev aDt(F:Md):List (FuncId×aF):=[(200,(aHp F))]
theorem aKE[Mx](F:Md):bF Tryz.prog GL (aDt F):=.cons (bBW F) xP (.nil)
attribute [go_sem] aC2 sA
theorem aC3[Mx](F:Md):GOK Tryz.prog GL 174 (sA F):=by
 refine jR (aZ (aKE F)) mix Tryz.func174 rfl xP (fun _=>Nat.le_of_ble_eq_true rfl) (aC2 F) (fun I w0 d z g h hV=>?_) (.cons (fun _ _=>(mT F)) xP (.nil));obtain⟨(f:qh),r⟩:=d;have hF:=hV.fr;replace h:=jS (show lL F f=some r from h);simp only[vH,List.map_cons,List.map_nil,go_sem];unfold lL at h;refine aK h fun g0 h=>?_;refine⟨fun hc=>?_,fun hc=>?_⟩
 ·replace h:=fQ hc h;obtain rfl:=aP h;refine bS [0] rfl rfl (yaB ?_);exact zaH
 ·replace h:=fR hc h;refine aK h fun g0 h=>?_;refine⟨by kernel_rfl,?_⟩;refine aK h fun g0 h=>aK h fun g1 h=>?_;refine aB h fun q hv h=>?_;exact zad
def nY(F:Md)(g:qh)(f:qh):Option (qd×qh) :=
 ck (0≤g.2.1∧g.2.1≤f.2.1∧f.2.1≤(f.1.length:Int)) (some ((List.drop (g.2.1.toNat) (List.take (f.2.1.toNat) f.1)),f))
def fB(F:Md)(f:qh):Option (qh⊕qh) :=
 ck ((f.2.1<(f.1.length:Int))→(0≤f.2.1∧f.2.1<(f.1.length:Int))) (ck ((f.2.1<(f.1.length:Int))→((aV F (aR tE) (f.1.getD (f.2.1.toNat) (0:Nat))).isSome=true)) (if (f.2.1<(f.1.length:Int))∧((0:Int)≤((aV F (aR tE) (f.1.getD (f.2.1.toNat) (0:Nat))).getD (0:Int))) then ck (I64 (f.2.1+(1:Int))) (some (.inl (f.1,(f.2.1+(1:Int)),f.2.2.1,()))) else some (.inr f)))
def oB(F:Md)(f:qh):Option (qd×qh) :=
 (dE F (fun d:qh=>fB F d) f).bind (fun e=>nY F f e)
def aAj(F:Md):fH where
 D:=qh×(qd×qh)
 av:=fun d=>[.ptr 0 []]
 hp:=fun d=>[.box 3 (.val qt d.1)]
 m:=1
 pre:=fun d=>oB F d.1=some d.2
 out:=fun d=>(fun r:(qd×qh)=>.ret (.val .str r.1) [.box 3 (.val qt r.2)]) d.2
def aEJ:PlR:=⟨[(0,.A [0]),(1,.A [0,3]),(2,.A [0,3,30]),(3,.B [0,3]),(4,.A [2])],[(5,7)],[]⟩
abbrev aFh(F:Md):List (FuncId×aF):=[(125,(eE F))]
theorem aMS[Mx](F:Md):bF Tryz.prog GL (aFh F):=.cons (qC F) xP (.nil)
attribute [go_sem] aEJ aAj
theorem aLY[Mx](F:Md):GOK Tryz.prog GL 175 (aAj F):=by
 refine jR (aZ (aMS F)) mix Tryz.func175 rfl xP (fun _=>Nat.le_of_ble_eq_true rfl) aEJ (fun N w0 d J I h hV=>?_);obtain⟨(f:qh),r⟩:=d;have hF:=hV.fr;replace h:=jS (show oB F f=some r from h);simp only[vH,List.map_cons,List.map_nil,go_sem];unfold oB at h;refine dB hV (D:=qh) (fun d=>sat (nY F f d) (fun z=>z=r)) [3] (fun d=>[(0,.ptr 0 [])]) (fun d=>[.inr (.box 3 (.val qt d))]) ?_ ?_
 ·simp only[go_sem];refine bP hV (D:=qh) [3] (fun d=>[(0,.ptr 0 [])]) (fun d=>[.inr (.box 3 (.val qt d))]) h rfl xAb ?_;rintro g L T2 hA2 hE2 h;simp only[go_sem];replace h:sat (fB F g) _:=h;unfold fB at h;refine aK h fun g0 h=>aK h fun g1 h=>?_;refine⟨fun hc=>?_,fun hc=>?_⟩
  ·replace h:=fQ hc h;refine aK h fun g0 h=>?_;exact zau
  ·replace h:=fR hc h;replace h:=yaG (hE2 _ (aA h));exact aT (g) h rfl xAb
 ·rintro q h;simp only[go_sem];replace h:sat (nY F f q) _:=h;unfold nY at h;refine aK h fun g0 h=>?_;exact zar
def aBO:ByteArray:=⟨⟨97::98::99::100::101::102::103::104::105::106::107::108::109::110::111::112::113::114::115::116::117::118::119::120::121::122:: []⟩⟩
@[go_sem]theorem aXy:(⟨⟨97::98::99::100::101::102::103::104::105::106::107::108::109::110::111::112::113::114::115::116::117::118::119::120::121::122:: []⟩⟩:ByteArray)=aBO:=rfl
@[go_sem]def bX(g:qh→Option (wd⊕qp)):fH where
 D:=qh×(wd⊕qp)
 av:=fun d=>[.ptr 0 []]
 hp:=fun d=>[.box 3 (.val qt d.1)]
 m:=1
 pre:=fun d=>g d.1=some d.2
 out:=fun d=>match d.2 with| .inl r=>.ret (.val .expr r.1) [.box 3 (.val qt r.2)]| .inr p=>.pan ⟨93,qm,p⟩ [.box 3 (.junk)]
@[go_sem]def aCl(g:qh→Option (wd⊕qp))(vs:List AV)(h:List Vc.Obj):Hit:=mkH (g (eK h (fL vs 0) qt)) (.inr ((0:Int),())) fun r=>⟨(bX g),[(fL vs 0)],((eK h (fL vs 0) qt),r)⟩
def cD(F:Md)(g:qh→Option (wd⊕qp))(signs_2:qd)(kinds_3:(List Int))(J:qh)(q:Ex):Option ((qh×Ex)⊕(wd⊕qp)) :=
 (fE F signs_2 J).bind (fun f=>if ¬(f.1.2.1=true) then some (.inr (.inl (q,f.2))) else ck ((aV F signs_2 f.1.1).isSome=true) (ck (0≤((aV F signs_2 f.1.1).getD (0:Int))∧((aV F signs_2 f.1.1).getD (0:Int))<(2:Int)) ((g f.2).bind (fun e=>match e with| .inl I=>(eB F (kinds_3.getD ((aV F signs_2 f.1.1).getD (0:Int)).toNat (0:Int)) (aR ⟨#[]⟩) ([q,I.1]:List Ex) I.2).bind (fun z=>some (.inl (z.2,z.1)))| .inr L=>some (.inr (.inr L))))))
def cH(F:Md)(g:qh→Option (wd⊕qp))(signs_2:qd)(kinds_3:(List Int))(z:qh):Option (wd⊕qp) :=
 (g z).bind (fun e=>match e with| .inl f=>(dE F (fun d:qh×Ex=>cD F g signs_2 kinds_3 d.1 d.2) (f.2,f.1)).bind (fun e=>match e with|(.inl e)=>some (.inl e)|(.inr e)=>some (.inr e))| .inr q=>some (.inr q))
def jH(F:Md)(g:qh→Option (wd⊕qp)):fH where
 D:=qd×(List Int)×qh×(wd⊕qp)
 av:=fun d=>[.ptr 0 [],.fn 127 [0] [],.val .str d.1,.val wz d.2.1]
 hp:=fun d=>[.box 3 (.val qt d.2.2.1)]
 m:=1
 pre:=fun d=>cH F g d.1 d.2.1 d.2.2.1=some d.2.2.2
 out:=fun d=>match d.2.2.2 with| .inl r=>.ret (.val .expr r.1) [.box 3 (.val qt r.2)]| .inr p=>.pan ⟨93,qm,p⟩ [.box 3 (.junk)]
@[go_sem]def pG(F:Md)(g:qh→Option (wd⊕qp))(vs:List AV)(h:List Vc.Obj):Hit:=mkH (cH F g (qT h vs 2 .str) (qT h vs 3 wz) (eK h (fL vs 0) qt)) (.inr ((0:Int),())) fun r=>⟨(jH F g),[(fL vs 0)],((qT h vs 2 .str),(qT h vs 3 wz),(eK h (fL vs 0) qt),r)⟩
def pH(F:Md)(g:qh→Option (wd⊕qp)):PlR:=⟨[(0,.B [0,1,2,7,8]),(1,.P [0,1,2,7,8,9] []),(2,.P [0,1,2,7,8,9,10,11] []),(3,.A [0,1,2,7,8,9,10,22]),(4,.B [8]),(5,.A [0,1,2,7,8,9,12]),(6,.stop)],[],[(124,xN F),(127,(aCl g))]⟩
abbrev qD(F:Md)(g:qh→Option (wd⊕qp)):List (FuncId×aF):=[(125,(eE F))]
theorem aAk[Mx](F:Md)(g:qh→Option (wd⊕qp))(f:GOK Tryz.prog GL 127 (bX g)):bF Tryz.prog GL (qD F g):=.cons (qC F) xP (.nil)
attribute [go_sem] pH jH
theorem zK[Mx](F:Md)(g:qh→Option (wd⊕qp))(O:GOK Tryz.prog GL 127 (bX g)):GOK Tryz.prog GL 85 (jH F g):=by
 refine jR (aZ (aAk F g O)) mix Tryz.func85 rfl xP (fun _=>Nat.le_of_ble_eq_true rfl) (pH F g) (fun c0 w0 d hw Z h hV=>?_) (.cons (fun _ _=>(xO F)) xP (.cons (fun _ _=>O) xP (.nil)));obtain⟨(signs_2:qd),(kinds_3:(List Int)),(L:qh),r⟩:=d;have hF:=hV.fr;replace h:=jS (show cH F g signs_2 kinds_3 L=some r from h);simp only[vH,List.map_cons,List.map_nil,go_sem];unfold cH at h;refine aB h fun e hv h=>?_;rcases e with Y|U
 ·try dsimp only at h
  simp only[hv,go_sem];refine bP hV (D:=qh×Ex) [2] (fun d=>[(0,.ptr 0 []),(1,.fn 127 [0] []),(7,.ptr 1 []),(8,.ptr 2 []),(9,.ptr 3 [])]) (fun d=>[.inr (.box 3 (.val qt d.1)),.inr (.box 2 (.val wz kinds_3)),.inr (.box 3 (.val .expr (Ex.mk 0 [] []))),.inr (.box 3 (.val .expr d.2))]) h rfl xAb ?_;rintro⟨J,f⟩ A2 T2 hA2 hE2 h;simp only[go_sem];replace h:sat (cD F g signs_2 kinds_3 J f) _:=h;unfold cD at h;refine aB h fun q hv h=>?_;simp only[hv,go_sem];refine zT h (fun hc h=>?_) fun hc h=>?_
  ·replace h:=yaG (hE2 _ (aA h));exact zax
  ·refine aD h fun g0 h=>?_;refine aD h fun g1 h=>(yaD ?_);obtain⟨q0,h,hq⟩:=h;obtain⟨e,he1,h⟩:=bind_some h;rcases e with I|N
   ·(try dsimp only at h);obtain⟨z,he2,h⟩:=bind_some h;(try dsimp only at h);refine uQ hF (eT (l:=[(127,⟨(bX g),[0],(q.2,.inl I)⟩),(126,⟨gX F,[0],((kinds_3.getD ((aV F signs_2 q.1.1).getD (0:Int)).toNat (0:Int)),(aR ⟨#[]⟩),([f,I.1]:List Ex),I.2,z)⟩)]) (.cons O xP (.cons (mT F) xP (.nil)))) [] [0,1,2,7,8,9] [4,6,7] [[0],[12],[9],[1],[32],[31,33],[29,30,34],[9,35]] [(0,0),(0,1),(1,0),(1,1),(2,0),(2,1),(2,2),(3,0),(4,0),(5,1),(6,1),(7,2)] [.ptr 0 [],.val qg (kinds_3.getD ((aV F signs_2 q.1.1).getD (0:Int)).toNat (0:Int)),.val .expr f,.fn 127 [0] [],.val .expr I.1,.full .expr ([f,I.1]:List Ex),.val .expr z.1,.junk] [[.box 3 (.val qt q.2),.box 2 (.val wz kinds_3),.box 3 (.val .expr (Ex.mk 0 [] [])),.box 3 (.val .expr f)],[.box 3 (.val qt I.2),.box 2 (.val wz kinds_3),.box 3 (.val .expr (Ex.mk 0 [] [])),.box 3 (.val .expr f)],[.box 3 (.val qt z.2),.box 2 (.val wz kinds_3),.box 3 (.val .expr (Ex.mk 0 [] [])),.box 3 (.val .expr f)],[.box 3 (.val qt z.2),.box 2 (.val wz kinds_3),.box 3 (.val .expr (Ex.mk 0 [] [])),.box 3 (.val .expr z.1)]] [[(0,.ptr 0 [])],[(12,.val qg (kinds_3.getD ((aV F signs_2 q.1.1).getD (0:Int)).toNat (0:Int)))],[(9,.ptr 3 [])],[(1,.fn 127 [0] [])],[(32,.fn 127 [0] [])],[(31,.val .expr f),(33,.val .expr I.1)],[(29,.ptr 0 []),(30,.val qg (kinds_3.getD ((aV F signs_2 q.1.1).getD (0:Int)).toNat (0:Int))),(34,.full .expr ([f,I.1]:List Ex))],[(9,.ptr 3 []),(35,.val .expr z.1)]] false xAa rfl rfl ?_ ?_
    ·simp only[go_sem];exact zaM
    intro _;show At _ _ [(0,.ptr 0 []),(1,.fn 127 [0] []),(2,.val .str signs_2),(7,.ptr 1 []),(8,.ptr 2 []),(9,.ptr 3 [])] [.box 3 (.val qt z.2),.box 2 (.val wz kinds_3),.box 3 (.val .expr (Ex.mk 0 [] [])),.box 3 (.val .expr z.1)];(first|replace h:=lO h hq|replace h:=lO (Θ:=(· = r)) h hq);refine aGf hV (yaA ?_);exact zau
   ·(try dsimp only at h);refine uQ hF (eT (l:=[(127,⟨(bX g),[0],(q.2,.inr N)⟩)]) (.cons O xP (.nil))) [] [0,1,2,7,8,9] [4] [[0],[12],[9],[1],[32],[31,33],[29,30,34],[9,35]] [(0,0),(1,0),(2,0),(3,0),(4,0)] [.ptr 0 [],.val qg (kinds_3.getD ((aV F signs_2 q.1.1).getD (0:Int)).toNat (0:Int)),.val .expr f,.fn 127 [0] [],.junk,.junk,.junk,.junk] [[.box 3 (.val qt q.2),.box 2 (.val wz kinds_3),.box 3 (.val .expr (Ex.mk 0 [] [])),.box 3 (.val .expr f)]] [[(0,.ptr 0 [])],[(12,.val qg (kinds_3.getD ((aV F signs_2 q.1.1).getD (0:Int)).toNat (0:Int)))],[(9,.ptr 3 [])],[(1,.fn 127 [0] [])],[(32,.fn 127 [0] [])],[(31,.val .expr f),(33,.junk)],[(29,.ptr 0 []),(30,.val qg (kinds_3.getD ((aV F signs_2 q.1.1).getD (0:Int)).toNat (0:Int))),(34,.junk)],[(9,.ptr 3 []),(35,.junk)]] true xAa rfl rfl ?_ ?_;rotate_left;exact fun h=>absurd h xAa;exact zaa
 ·try dsimp only at h
  exact zaN
def gB(F:Md)(g:qh→Option (wd⊕qp))(f:qh):Option (wd⊕qp) :=
 (cH F g (aR ⟨#[42,47]⟩) ([8,9]:List Int) f).bind (fun e=>match e with| .inl r_7=>some (.inl (r_7.1,r_7.2))| .inr p_8=>some (.inr p_8))
def mU(F:Md)(g:qh→Option (wd⊕qp)):fH where
 D:=qh×(wd⊕qp)
 av:=fun d=>[.ptr 0 []]
 hp:=fun d=>[.box 3 (.val qt d.1)]
 m:=1
 pre:=fun d=>gB F g d.1=some d.2
 out:=fun d=>match d.2 with| .inl r=>.ret (.val .expr r.1) [.box 3 (.val qt r.2)]| .inr p=>.pan ⟨93,qm,p⟩ [.box 3 (.junk)]
@[go_sem]def aCm(F:Md)(g:qh→Option (wd⊕qp))(vs:List AV)(h:List Vc.Obj):Hit:=mkH (gB F g (eK h (fL vs 0) qt)) (.inr ((0:Int),())) fun r=>⟨(mU F g),[(fL vs 0)],((eK h (fL vs 0) qt),r)⟩
def aCn(F:Md)(g:qh→Option (wd⊕qp)):PlR:=⟨[(0,.B [0,2]),(1,.P [2] [])],[],[(85,(pG F g))]⟩
abbrev aJJ(F:Md)(g:qh→Option (wd⊕qp)):List (FuncId×aF):=[]
theorem aJK[Mx](F:Md)(g:qh→Option (wd⊕qp))(f:GOK Tryz.prog GL 127 (bX g)):bF Tryz.prog GL (aJJ F g):=.nil
attribute [go_sem] aCn mU
theorem wR[Mx](F:Md)(g:qh→Option (wd⊕qp))(q:GOK Tryz.prog GL 127 (bX g)):GOK Tryz.prog GL 86 (mU F g):=by
 refine jR (aZ (aJK F g q)) mix Tryz.func86 rfl xP (fun _=>Nat.le_of_ble_eq_true rfl) (aCn F g) (fun J w0 d I z h hV=>?_) (.cons (fun _ _=>(zK F g q)) xP (.nil));obtain⟨(f:qh),r⟩:=d;have hF:=hV.fr;replace h:=jS (show gB F g f=some r from h);simp only[vH,List.map_cons,List.map_nil,go_sem];unfold gB at h;refine aB h fun e hv h=>?_;rcases e with r_7|p_8
 ·try dsimp only at h
  exact zad
 ·try dsimp only at h
  exact zaN
def iA(F:Md)(g:qh→Option (wd⊕qp))(signs_2:qd)(kinds_3:(List Int))(J:qh)(q:Ex):Option ((qh×Ex)⊕(wd⊕qp)) :=
 (fE F signs_2 J).bind (fun f=>if ¬(f.1.2.1=true) then some (.inr (.inl (q,f.2))) else ck ((aV F signs_2 f.1.1).isSome=true) (ck (0≤((aV F signs_2 f.1.1).getD (0:Int))∧((aV F signs_2 f.1.1).getD (0:Int))<(2:Int)) ((gB F g f.2).bind (fun e=>match e with| .inl I=>(eB F (kinds_3.getD ((aV F signs_2 f.1.1).getD (0:Int)).toNat (0:Int)) (aR ⟨#[]⟩) ([q,I.1]:List Ex) I.2).bind (fun z=>some (.inl (z.2,z.1)))| .inr L=>some (.inr (.inr L))))))
def eL(F:Md)(g:qh→Option (wd⊕qp))(signs_2:qd)(kinds_3:(List Int))(z:qh):Option (wd⊕qp) :=
 (gB F g z).bind (fun e=>match e with| .inl f=>(dE F (fun d:qh×Ex=>iA F g signs_2 kinds_3 d.1 d.2) (f.2,f.1)).bind (fun e=>match e with|(.inl e)=>some (.inl e)|(.inr e)=>some (.inr e))| .inr q=>some (.inr q))
def iV(F:Md)(g:qh→Option (wd⊕qp)):fH where
 D:=qd×(List Int)×qh×(wd⊕qp)
 av:=fun d=>[.ptr 0 [],.fn 86 [0] [],.val .str d.1,.val wz d.2.1]
 hp:=fun d=>[.box 3 (.val qt d.2.2.1)]
 m:=1
 pre:=fun d=>eL F g d.1 d.2.1 d.2.2.1=some d.2.2.2
 out:=fun d=>match d.2.2.2 with| .inl r=>.ret (.val .expr r.1) [.box 3 (.val qt r.2)]| .inr p=>.pan ⟨93,qm,p⟩ [.box 3 (.junk)]
@[go_sem]def oP(F:Md)(g:qh→Option (wd⊕qp))(vs:List AV)(h:List Vc.Obj):Hit:=mkH (eL F g (qT h vs 2 .str) (qT h vs 3 wz) (eK h (fL vs 0) qt)) (.inr ((0:Int),())) fun r=>⟨(iV F g),[(fL vs 0)],((qT h vs 2 .str),(qT h vs 3 wz),(eK h (fL vs 0) qt),r)⟩
def oQ(F:Md)(g:qh→Option (wd⊕qp)):PlR:=⟨[(0,.B [0,1,2,7,8]),(1,.P [0,1,2,7,8,9] []),(2,.P [0,1,2,7,8,9,10,11] []),(3,.A [0,1,2,7,8,9,10,22]),(4,.B [8]),(5,.A [0,1,2,7,8,9,12]),(6,.stop)],[],[(86,(aCm F g)),(124,xN F)]⟩
abbrev pI(F:Md)(g:qh→Option (wd⊕qp)):List (FuncId×aF):=[(125,(eE F))]
theorem zL[Mx](F:Md)(g:qh→Option (wd⊕qp))(f:GOK Tryz.prog GL 127 (bX g)):bF Tryz.prog GL (pI F g):=.cons (qC F) xP (.nil)
attribute [go_sem] oQ iV
theorem yW[Mx](F:Md)(g:qh→Option (wd⊕qp))(O:GOK Tryz.prog GL 127 (bX g)):GOK Tryz.prog GL 85 (iV F g):=by
 refine jR (aZ (zL F g O)) mix Tryz.func85 rfl xP (fun _=>Nat.le_of_ble_eq_true rfl) (oQ F g) (fun c0 w0 d hw Z h hV=>?_) (.cons (fun _ _=>(wR F g O)) xP (.cons (fun _ _=>(xO F)) xP (.nil)));obtain⟨(signs_2:qd),(kinds_3:(List Int)),(L:qh),r⟩:=d;have hF:=hV.fr;replace h:=jS (show eL F g signs_2 kinds_3 L=some r from h);simp only[vH,List.map_cons,List.map_nil,go_sem];unfold eL at h;refine aB h fun e hv h=>?_;rcases e with Y|U
 ·try dsimp only at h
  simp only[hv,go_sem];refine bP hV (D:=qh×Ex) [2] (fun d=>[(0,.ptr 0 []),(1,.fn 86 [0] []),(7,.ptr 1 []),(8,.ptr 2 []),(9,.ptr 3 [])]) (fun d=>[.inr (.box 3 (.val qt d.1)),.inr (.box 2 (.val wz kinds_3)),.inr (.box 3 (.val .expr (Ex.mk 0 [] []))),.inr (.box 3 (.val .expr d.2))]) h rfl xAb ?_;rintro⟨J,f⟩ A2 T2 hA2 hE2 h;simp only[go_sem];replace h:sat (iA F g signs_2 kinds_3 J f) _:=h;unfold iA at h;refine aB h fun q hv h=>?_;simp only[hv,go_sem];refine zT h (fun hc h=>?_) fun hc h=>?_
  ·replace h:=yaG (hE2 _ (aA h));exact zax
  ·refine aD h fun g0 h=>?_;refine aD h fun g1 h=>(yaD ?_);obtain⟨q0,h,hq⟩:=h;obtain⟨e,he1,h⟩:=bind_some h;rcases e with I|N
   ·(try dsimp only at h);obtain⟨z,he2,h⟩:=bind_some h;(try dsimp only at h);refine uQ hF (eT (l:=[(86,⟨(mU F g),[0],(q.2,.inl I)⟩),(126,⟨gX F,[0],((kinds_3.getD ((aV F signs_2 q.1.1).getD (0:Int)).toNat (0:Int)),(aR ⟨#[]⟩),([f,I.1]:List Ex),I.2,z)⟩)]) (.cons (wR F g O) xP (.cons (mT F) xP (.nil)))) [] [0,1,2,7,8,9] [4,6,7] [[0],[12],[9],[1],[32],[31,33],[29,30,34],[9,35]] [(0,0),(0,1),(1,0),(1,1),(2,0),(2,1),(2,2),(3,0),(4,0),(5,1),(6,1),(7,2)] [.ptr 0 [],.val qg (kinds_3.getD ((aV F signs_2 q.1.1).getD (0:Int)).toNat (0:Int)),.val .expr f,.fn 86 [0] [],.val .expr I.1,.full .expr ([f,I.1]:List Ex),.val .expr z.1,.junk] [[.box 3 (.val qt q.2),.box 2 (.val wz kinds_3),.box 3 (.val .expr (Ex.mk 0 [] [])),.box 3 (.val .expr f)],[.box 3 (.val qt I.2),.box 2 (.val wz kinds_3),.box 3 (.val .expr (Ex.mk 0 [] [])),.box 3 (.val .expr f)],[.box 3 (.val qt z.2),.box 2 (.val wz kinds_3),.box 3 (.val .expr (Ex.mk 0 [] [])),.box 3 (.val .expr f)],[.box 3 (.val qt z.2),.box 2 (.val wz kinds_3),.box 3 (.val .expr (Ex.mk 0 [] [])),.box 3 (.val .expr z.1)]] [[(0,.ptr 0 [])],[(12,.val qg (kinds_3.getD ((aV F signs_2 q.1.1).getD (0:Int)).toNat (0:Int)))],[(9,.ptr 3 [])],[(1,.fn 86 [0] [])],[(32,.fn 86 [0] [])],[(31,.val .expr f),(33,.val .expr I.1)],[(29,.ptr 0 []),(30,.val qg (kinds_3.getD ((aV F signs_2 q.1.1).getD (0:Int)).toNat (0:Int))),(34,.full .expr ([f,I.1]:List Ex))],[(9,.ptr 3 []),(35,.val .expr z.1)]] false xAa rfl rfl ?_ ?_
    ·simp only[go_sem];exact zaM
    intro _;show At _ _ [(0,.ptr 0 []),(1,.fn 86 [0] []),(2,.val .str signs_2),(7,.ptr 1 []),(8,.ptr 2 []),(9,.ptr 3 [])] [.box 3 (.val qt z.2),.box 2 (.val wz kinds_3),.box 3 (.val .expr (Ex.mk 0 [] [])),.box 3 (.val .expr z.1)];(first|replace h:=lO h hq|replace h:=lO (Θ:=(· = r)) h hq);refine aGf hV (yaA ?_);exact zau
   ·(try dsimp only at h);refine uQ hF (eT (l:=[(86,⟨(mU F g),[0],(q.2,.inr N)⟩)]) (.cons (wR F g O) xP (.nil))) [] [0,1,2,7,8,9] [4] [[0],[12],[9],[1],[32],[31,33],[29,30,34],[9,35]] [(0,0),(1,0),(2,0),(3,0),(4,0)] [.ptr 0 [],.val qg (kinds_3.getD ((aV F signs_2 q.1.1).getD (0:Int)).toNat (0:Int)),.val .expr f,.fn 86 [0] [],.junk,.junk,.junk,.junk] [[.box 3 (.val qt q.2),.box 2 (.val wz kinds_3),.box 3 (.val .expr (Ex.mk 0 [] [])),.box 3 (.val .expr f)]] [[(0,.ptr 0 [])],[(12,.val qg (kinds_3.getD ((aV F signs_2 q.1.1).getD (0:Int)).toNat (0:Int)))],[(9,.ptr 3 [])],[(1,.fn 86 [0] [])],[(32,.fn 86 [0] [])],[(31,.val .expr f),(33,.junk)],[(29,.ptr 0 []),(30,.val qg (kinds_3.getD ((aV F signs_2 q.1.1).getD (0:Int)).toNat (0:Int))),(34,.junk)],[(9,.ptr 3 []),(35,.junk)]] true xAa rfl rfl ?_ ?_;rotate_left;exact fun h=>absurd h xAa;exact zaa
 ·try dsimp only at h
  exact zaN
def kA(F:Md)(g:qh→Option (wd⊕qp))(f:qh):Option (wd⊕qp) :=
 (eL F g (aR ⟨#[43,45]⟩) ([6,7]:List Int) f).bind (fun e=>match e with| .inl r_7=>some (.inl (r_7.1,r_7.2))| .inr p_8=>some (.inr p_8))
def rI(F:Md)(g:qh→Option (wd⊕qp)):fH where
 D:=qh×(wd⊕qp)
 av:=fun d=>[.ptr 0 []]
 hp:=fun d=>[.box 3 (.val qt d.1)]
 m:=1
 pre:=fun d=>kA F g d.1=some d.2
 out:=fun d=>match d.2 with| .inl r=>.ret (.val .expr r.1) [.box 3 (.val qt r.2)]| .inr p=>.pan ⟨93,qm,p⟩ [.box 3 (.junk)]
@[go_sem]def aFi(F:Md)(g:qh→Option (wd⊕qp))(vs:List AV)(h:List Vc.Obj):Hit:=mkH (kA F g (eK h (fL vs 0) qt)) (.inr ((0:Int),())) fun r=>⟨(rI F g),[(fL vs 0)],((eK h (fL vs 0) qt),r)⟩
def aFj(F:Md)(g:qh→Option (wd⊕qp)):PlR:=⟨[(0,.B [0,2]),(1,.P [2] [])],[],[(85,(oP F g))]⟩
abbrev aOt(F:Md)(g:qh→Option (wd⊕qp)):List (FuncId×aF):=[]
theorem aOu[Mx](F:Md)(g:qh→Option (wd⊕qp))(f:GOK Tryz.prog GL 127 (bX g)):bF Tryz.prog GL (aOt F g):=.nil
attribute [go_sem] aFj rI
theorem aA4[Mx](F:Md)(g:qh→Option (wd⊕qp))(q:GOK Tryz.prog GL 127 (bX g)):GOK Tryz.prog GL 39 (rI F g):=by
 refine jR (aZ (aOu F g q)) mix Tryz.func39 rfl xP (fun _=>Nat.le_of_ble_eq_true rfl) (aFj F g) (fun J w0 d I z h hV=>?_) (.cons (fun _ _=>(yW F g q)) xP (.nil));obtain⟨(f:qh),r⟩:=d;have hF:=hV.fr;replace h:=jS (show kA F g f=some r from h);simp only[vH,List.map_cons,List.map_nil,go_sem];unfold kA at h;refine aB h fun e hv h=>?_;rcases e with r_7|p_8
 ·try dsimp only at h
  exact zad
 ·try dsimp only at h
  exact zaN
def iW(F:Md)(g:qh→Option (wd⊕qp))(z:qh):Option (wd⊕qp) :=
 (eX F (aR ⟨#[40]⟩) z).bind (fun e=>match e with| .inl r_7=>(kA F g r_7).bind (fun e=>match e with| .inl r_13=>(eX F (aR ⟨#[41]⟩) r_13.2).bind (fun e=>match e with| .inl f=>some (.inl (r_13.1,f))| .inr q=>some (.inr q))| .inr p_14=>some (.inr p_14))| .inr p_8=>some (.inr p_8))
def kO(F:Md)(g:qh→Option (wd⊕qp)):fH where
 D:=qh×(wd⊕qp)
 av:=fun d=>[.ptr 0 []]
 hp:=fun d=>[.box 3 (.val qt d.1)]
 m:=1
 pre:=fun d=>iW F g d.1=some d.2
 out:=fun d=>match d.2 with| .inl r=>.ret (.val .expr r.1) [.box 3 (.val qt r.2)]| .inr p=>.pan ⟨93,qm,p⟩ [.box 3 (.junk)]
def aC4(F:Md)(g:qh→Option (wd⊕qp)):PlR:=⟨[(0,.B [0,2]),(1,.P [0,2] []),(2,.P [0,2,3] []),(3,.P [2,3] []),(4,.B [2])],[],[(39,(aFi F g)),(199,aEF F)]⟩
abbrev aKF(F:Md)(g:qh→Option (wd⊕qp)):List (FuncId×aF):=[]
theorem aKG[Mx](F:Md)(g:qh→Option (wd⊕qp))(f:GOK Tryz.prog GL 127 (bX g)):bF Tryz.prog GL (aKF F g):=.nil
attribute [go_sem] aC4 kO
theorem sB[Mx](F:Md)(g:qh→Option (wd⊕qp))(q:GOK Tryz.prog GL 127 (bX g)):GOK Tryz.prog GL 173 (kO F g):=by
 refine jR (aZ (aKG F g q)) mix Tryz.func173 rfl xP (fun _=>Nat.le_of_ble_eq_true rfl) (aC4 F g) (fun N w0 d L J h hV=>?_) (.cons (fun _ _=>(aA4 F g q)) xP (.cons (fun _ _=>(aLX F)) xP (.nil)));obtain⟨(f:qh),r⟩:=d;have hF:=hV.fr;replace h:=jS (show iW F g f=some r from h);simp only[vH,List.map_cons,List.map_nil,go_sem];unfold iW at h;refine aB h fun e hv h=>?_;rcases e with r_7|p_8
 ·try dsimp only at h
  simp only[hv,go_sem];refine aB h fun e hv h=>?_;rcases e with r_13|p_14
  ·(try dsimp only at h);simp only[hv,go_sem];refine aB h fun e hv h=>?_;rcases e with I|z
   ·(try dsimp only at h);exact zad
   ·(try dsimp only at h);exact zaN
  ·(try dsimp only at h);exact zaN
 ·try dsimp only at h
  exact zaN
def jM(F:Md)(g:qh→Option (wd⊕qp))(Z:qh):Option (wd⊕qp) :=
 (fE F (aR ⟨#[45]⟩) Z).bind (fun f=>if f.1.2.1=true then (g f.2).bind (fun e=>match e with| .inl L=>(eB F (10:Int) (aR ⟨#[]⟩) ([L.1]:List Ex) L.2).bind (fun z=>some (.inl (z.1,z.2)))| .inr p_17=>some (.inr p_17)) else if f.2.2.1=(f.2.1.length:Int) then some (.inr (f.2.2.1,())) else ck (0≤f.2.2.1∧f.2.2.1<(f.2.1.length:Int)) (if (f.2.1.getD (f.2.2.1.toNat) (0:Nat))=(40:Nat) then (iW F g f.2).bind (fun e=>match e with| .inl N=>some (.inl (N.1,N.2))| .inr p_27=>some (.inr p_27)) else ck (0≤f.2.2.1∧f.2.2.1<(f.2.1.length:Int)) (ck ((aV F (aR aBO) (f.2.1.getD (f.2.2.1.toNat) (0:Nat))).isSome=true) (if ((aV F (aR aBO) (f.2.1.getD (f.2.2.1.toNat) (0:Nat))).getD (0:Int))<(0:Int) then (lL F f.2).bind (fun e=>match e with| .inl U=>some (.inl (U.1,U.2))| .inr p_33=>some (.inr p_33)) else (oB F f.2).bind (fun q=>if (aAp .str (aCw .str (aCw .str (aCw .str ([]:List (qd×Int)) (aR ⟨#[115,113,114]⟩) (11:Int)) (aR ⟨#[115,113,114,116]⟩) (12:Int)) (aR ⟨#[101,120,112]⟩) (13:Int)) q.1).isSome=true then (iW F g q.2).bind (fun e=>match e with| .inl O=>(eB F ((aAp .str (aCw .str (aCw .str (aCw .str ([]:List (qd×Int)) (aR ⟨#[115,113,114]⟩) (11:Int)) (aR ⟨#[115,113,114,116]⟩) (12:Int)) (aR ⟨#[101,120,112]⟩) (13:Int)) q.1).getD (0:Int)) (aR ⟨#[]⟩) ([O.1]:List Ex) O.2).bind (fun J=>some (.inl (J.1,J.2)))| .inr Y=>some (.inr Y)) else (eB F (2:Int) q.1 ([]:List Ex) q.2).bind (fun I=>some (.inl (I.1,I.2))))))))
def aCo(F:Md)(g:qh→Option (wd⊕qp)):fH where
 D:=qh×(wd⊕qp)
 av:=fun d=>[.ptr 0 []]
 hp:=fun d=>[.box 3 (.val qt d.1)]
 m:=1
 pre:=fun d=>jM F g d.1=some d.2
 out:=fun d=>match d.2 with| .inl r=>.ret (.val .expr r.1) [.box 3 (.val qt r.2)]| .inr p=>.pan ⟨93,qm,p⟩ [.box 3 (.junk)]
abbrev yX(F:Md)(g:qh→Option (wd⊕qp)):List (FuncId×aF):=[(125,(eE F))]
theorem aDu[Mx](F:Md)(g:qh→Option (wd⊕qp))(f:GOK Tryz.prog GL 127 (bX g)):bF Tryz.prog GL (yX F g):=.cons (qC F) xP (.nil)
theorem aIF[Mx](F:Md)(g:qh→Option (wd⊕qp))(L:GOK Tryz.prog GL 127 (bX g)):GOK Tryz.prog GL 127 (aCo F g):=by
 refine bAX (aZ (aDu F g L)) Tryz.func127 rfl xP (fun _=>Nat.le_of_ble_eq_true rfl) fun c0 w0 d N hw2 h hn=>?_;have hF:uP ⟨Tryz.prog,EM (yX F g),GM (aCo F g) c0 d,w0,Tryz.f127.ntmps,[]⟩:=⟨aZ (aDu F g L),mix⟩;obtain⟨(I:qh),r⟩:=d;replace h:jM F g I=some r:=h;have N:AV.wfL [.ptr 0 []]:=N;simp only[AV.wfL,AV.wfV,Ty.wf,aF8] at N;show Tri _ _ _ [(0,.ptr 0 [])] [.box 3 (.val qt I)];unfold jM at h;refine aL (dH hF [0,2] (yaA ?_));obtain⟨q,he1,h⟩:=bind_some h;try dsimp only at h
 refine aN (aL (aL (cJ hF (eT (l:=[(124,⟨xM F,[0],((aR ⟨#[45]⟩),I,q)⟩)]) (.cons (xO F) xP (.nil))) [0,2,4] [] (yaE ?_))));refine aN (aL (aQ hF [0,2,13] (yaA ?_)));refine aN (cS rfl (fun hc=>?_) (fun hc=>?_))
 ·try simp only[go_sem] at hc
  have h:=oD zAC h;obtain⟨e,he2,h⟩:=bind_some h;rcases e with z|p_17
  ·(try dsimp only at h);obtain⟨r_16,he3,h⟩:=bind_some h;(try dsimp only at h);refine aL (cJ hF (eT (l:=[(127,⟨(bX g),[0],(q.2,.inl z)⟩),(126,⟨gX F,[0],((10:Int),(aR ⟨#[]⟩),([z.1]:List Ex),z.2,r_16)⟩)]) (.cons L xP (.cons (mT F) xP (.nil)))) [2] [] (yaE ?_));obtain rfl:=Option.some.inj h;refine aN (gU (eD (lN hF [.cell 2 40] [0] rfl rfl rfl rfl rfl rfl rfl rfl rfl ?_)));exact zaC
  ·(try dsimp only at h);refine aL (cJ hF (eT (l:=[(127,⟨(bX g),[0],(q.2,.inr p_17)⟩)]) (.cons L xP (.nil))) [2] [] (yaE ?_));obtain rfl:=Option.some.inj h;refine iX (iX (bS [0] rfl rfl (yaB ?_)));exact zaH
 ·try simp only[go_sem] at hc
  have h:=nB zAC h;refine eC (aN (aL (oV (aL (aQ hF [0,2,19] (yaA ?_))))));refine aN (cS rfl (fun hc=>?_) (fun hc=>?_))
  ·(try simp only[go_sem] at hc);have h:=oD zAC h;refine cJ hF (eT (l:=[]) (.nil)) [0,2] [] (yaE ?_);obtain rfl:=Option.some.inj h;refine aDB (iX (bS [0] rfl rfl (yaB ?_)));exact zaH
  ·(try simp only[go_sem] at hc);have h:=nB zAC h;refine aL (aQ hF [0,2,36] (yaA ?_));obtain⟨g0,h⟩:=bD h;(repeat (refine⟨zAA,?_⟩));refine aN (cS rfl (fun hc=>?_) (fun hc=>?_))
   ·(try simp only[go_sem] at hc);have h:=oD zAC h;obtain⟨e,he4,h⟩:=bind_some h;rcases e with r_26|Y
    ·(try dsimp only at h);refine aL (cJ hF (eT (l:=[(173,⟨(kO F g),[0],(q.2,.inl r_26)⟩)]) (.cons (sB F g L) xP (.nil))) [2] [] (yaE ?_));obtain rfl:=Option.some.inj h;refine aN (gU (rL (eD (lN hF [.cell 2 40] [0] rfl rfl rfl rfl rfl rfl rfl rfl rfl ?_))));exact zaC
    ·(try dsimp only at h);refine aL (cJ hF (eT (l:=[(173,⟨(kO F g),[0],(q.2,.inr Y)⟩)]) (.cons (sB F g L) xP (.nil))) [2] [] (yaE ?_));obtain rfl:=Option.some.inj h;refine iX (aDB (iX (bS [0] rfl rfl (yaB ?_))));exact zaH
   ·(try simp only[go_sem] at hc);have h:=nB zAC h;refine aL (aQ hF [0,2,49] (yaA ?_));obtain⟨g0,h⟩:=bD h;obtain⟨g1,h⟩:=bD h;(repeat (refine⟨zAA,?_⟩));refine aN (cS rfl (fun hc=>?_) (fun hc=>?_))
    ·(try simp only[go_sem] at hc);have h:=oD zAC h;obtain⟨e,he5,h⟩:=bind_some h;rcases e with Z|U
     ·(try dsimp only at h);refine aL (cJ hF (eT (l:=[(174,⟨sA F,[0],(q.2,.inl Z)⟩)]) (.cons (aC3 F) xP (.nil))) [2] [] (yaE ?_));obtain rfl:=Option.some.inj h;refine aN (gU (rL (eD (lN hF [.cell 2 40] [0] rfl rfl rfl rfl rfl rfl rfl rfl rfl ?_))));exact zaC
     ·(try dsimp only at h);refine aL (cJ hF (eT (l:=[(174,⟨sA F,[0],(q.2,.inr U)⟩)]) (.cons (aC3 F) xP (.nil))) [2] [] (yaE ?_));obtain rfl:=Option.some.inj h;refine iX (aDB (iX (bS [0] rfl rfl (yaB ?_))));exact zaH
    ·(try simp only[go_sem] at hc);have h:=nB zAC h;obtain⟨f,he6,h⟩:=bind_some h;(try dsimp only at h);refine eC (pJ (aN (aL (cJ hF (eT (l:=[(175,⟨aAj F,[0],(q.2,f)⟩)]) (.cons (aLY F) xP (.nil))) [0,2,5] [] (yaE ?_)))));refine aN (aL (aL (dH hF [0,2,5,6,7] (yaA ?_))));refine aN (aL (aQ hF [0,2,5,6,72] (yaA ?_)));refine aN (cS rfl (fun hc=>?_) (fun hc=>?_))
     ·(try simp only[go_sem] at hc);have h:=oD zAC h;obtain⟨e,he7,h⟩:=bind_some h;rcases e with J|p_47
      ·(try dsimp only at h);obtain⟨r_46,he8,h⟩:=bind_some h;(try dsimp only at h);refine aL (cJ hF (eT (l:=[(173,⟨(kO F g),[0],(f.2,.inl J)⟩),(126,⟨gX F,[0],(((aAp .str (aCw .str (aCw .str (aCw .str ([]:List (qd×Int)) (aR ⟨#[115,113,114]⟩) (11:Int)) (aR ⟨#[115,113,114,116]⟩) (12:Int)) (aR ⟨#[101,120,112]⟩) (13:Int)) f.1).getD (0:Int)),(aR ⟨#[]⟩),([J.1]:List Ex),J.2,r_46)⟩)]) (.cons (sB F g L) xP (.cons (mT F) xP (.nil)))) [2] [] (yaE ?_));obtain rfl:=Option.some.inj h;refine aN (gU (eD (lN hF [.cell 2 40] [0] rfl rfl rfl rfl rfl rfl rfl rfl rfl ?_)));exact zaC
      ·(try dsimp only at h);refine aL (cJ hF (eT (l:=[(173,⟨(kO F g),[0],(f.2,.inr p_47)⟩)]) (.cons (sB F g L) xP (.nil))) [2] [] (yaE ?_));obtain rfl:=Option.some.inj h;refine iX (iX (bS [0] rfl rfl (yaB ?_)));exact zaH
     ·(try simp only[go_sem] at hc);have h:=nB zAC h;obtain⟨O,he9,h⟩:=bind_some h;(try dsimp only at h);refine eC (aN (aL (cJ hF (eT (l:=[(126,⟨gX F,[0],((2:Int),f.1,([]:List Ex),f.2,O)⟩)]) (.cons (mT F) xP (.nil))) [2] [] (yaE ?_))));obtain rfl:=Option.some.inj h;refine aN (gU (lN hF [.cell 2 40] [0] rfl rfl rfl rfl rfl rfl rfl rfl rfl ?_));exact zaC
def gL(F:Md):Nat→qh→Option (wd⊕qp)
 | 0=>fun _=>none
 | n+1=>jM F (gL F n)
def aC5(F:Md)(n:Nat):fH where
 D:=qh×(wd⊕qp)
 av:=fun d=>[.ptr 0 []]
 hp:=fun d=>[.box 3 (.val qt d.1)]
 m:=1
 pre:=fun d=>gL F n d.1=some d.2
 out:=fun d=>match d.2 with| .inl r=>.ret (.val .expr r.1) [.box 3 (.val qt r.2)]| .inr p=>.pan ⟨93,qm,p⟩ [.box 3 (.junk)]
theorem xQ[Mx](F:Md):∀n,GOK Tryz.prog GL 127 (aC5 F n)
 | 0=>fun _ _ _ _ hp _=>absurd (show none=some _ from hp) xAf
 | n+1=>aIF F _ (xQ F n)
attribute [go_sem] aC5
def aAl:fH where
 D:=Ex×Int×Int×Unit
 av:=fun _=>[.ptr 0 [],.ptr 1 [],.ptr 2 []]
 hp:=fun d=>[.box 3 (.val .expr d.1),.box 1 (.val qg d.2.1),.box 1 (.val qg d.2.2.1)]
 m:=3
 pre:=fun _=>True
 out:=fun d=>.ret (.tup []) [.box 3 (.val .expr d.1),.box 1 (.val qg d.2.1),.box 1 (.val qg d.2.2.1)]
def kB(x:qp):fH where
 D:=Unit
 av:=fun _=>[.ptr 0 [],.ptr 1 [],.ptr 2 []]
 hp:=fun _=>[.box 3 .junk,.box 1 .junk,.box 1 .junk]
 m:=3
 pre:=fun _=>True
 out:=fun _=>.ret (.tup []) [.box 3 (.val .expr (Ex.mk 0 [] [])),.box 1 (.val qg (x).1),.box 1 (.val qg (6:Int))]
theorem aTU[Mx]:DOK Tryz.prog GL 38 none aAl:=by
 refine aQW (aZ aDi) Tryz.func38 rfl xP (fun _=>Nat.le_of_ble_eq_true rfl) rfl fun c w d q f hp I=>?_;have hF:uP ⟨Tryz.prog,EM [],GM aAl c d,w,Tryz.f38.ntmps,[]⟩:=⟨aZ aDi,mix⟩;obtain⟨d0,g,z,J⟩:=d;show xX _ _ _ [(6,.val .nili ()),(0,.ptr 0 []),(1,.ptr 1 []),(2,.ptr 2 [])] [.box 3 (.val .expr d0),.box 1 (.val qg g),.box 1 (.val qg z)] _;exact zat
theorem aE7[Mx](x:qp):DOK Tryz.prog GL 38 (some ⟨93,qm,x⟩) (kB x):=by
 refine aQW (aZ aDi) Tryz.func38 rfl xP (fun _=>Nat.le_of_ble_eq_true rfl) rfl fun c w d g f hp q=>?_;have hF:uP ⟨Tryz.prog,EM [],GM (kB x) c d,w,Tryz.f38.ntmps,[]⟩:=⟨aZ aDi,mix⟩;show xX _ _ _ [(6,.val (.ifc 93 qm) x),(0,.ptr 0 []),(1,.ptr 1 []),(2,.ptr 2 [])] [.box 3 .junk,.box 1 .junk,.box 1 .junk] _;simp only[go_sem];refine aL (aQ hF [0,1,2,3,10] (yaA ?_));refine aN (cS rfl (fun hc=>?_) (fun hc=>absurd hc xAa));refine aG5 hF [] [] [.box 3 (.val .expr (Ex.mk 0 [] [])),.box 1 (.val qg (x).1),.box 1 (.val qg (6:Int)),.box 1 (.val qm x)] xAa ?_ ?_
 ·simp only[go_sem];exact zaU
 refine fU [0,1,2] rfl rfl (yaB ?_);exact zaY
def kP(F:Md)(q:qd):Option (Ex×(Int×qp)) :=
 (kA F (gL F 1100) (q,(0:Int),(0:Int),())).bind (fun e=>match e with| .inl f=>(iR F f.2).bind (fun g=>if g.2.1<(q.length:Int) then some ((Ex.mk 0 [] []),(g.2.1,()).1,(6:Int),()) else ck ((uX F f.1).isSome=true) (if ¬(((uX F f.1).getD false)=true) then some ((Ex.mk 0 [] []),((0:Int),()).1,(6:Int),()) else some (f.1,(0:Int),(0:Int),())))| .inr z=>some ((Ex.mk 0 [] []),(z).1,(6:Int),()))
@[go_sem]def aFO:Ty:=.pair .str .unit
def aD7(F:Md):aF:=mSpec aFO (.tup (.pair .expr vf)) (fun x=>kP F x.1)
abbrev aFP(F:Md):List (FuncId×aF):=[(41,(aAC F))]
theorem aQa[Mx](F:Md):bF Tryz.prog GL (aFP F):=.cons (aPL F) xP (.nil)
theorem aXz[Mx](F:Md):FOK Tryz.prog GL 13 (aD7 F):=by
 refine aI6 (aZ (aQa F)) Tryz.func13 rfl xP xAa fun w0 S x r J h=>?_;have hF:uP (fr Tryz.prog (EM (aFP F)) S w0 Tryz.f13.ntmps):=⟨aZ (aQa F),mix⟩;obtain⟨(q:qd),u⟩:=x;simp only[aFO,Ty.wf,aF8] at J;simp only[cA,aFO];try dsimp only at h
 replace h:kP F q=some r:=h;unfold kP at h;refine aL (dH hF [0,2,3,4] (yaA ?_));refine aN (aDR 3 [0,1,2] rfl rfl (Nat.zero_le _) xAa fun roots hroots=>(yaA ?_));have hF:uP { fr Tryz.prog (EM (aFP F)) S w0 Tryz.f13.ntmps with M:=⟨nothing,S,3,roots⟩,ds:=[⟨.fn (.func 38) ([0,1,2].map roots).toArray,#[]⟩] }:=⟨hF.env,mix⟩;refine aL (dH hF [0,2,3,4,5] (yaA ?_));obtain⟨e,L,h⟩:=bind_some h;rcases e with z|g
 ·try dsimp only at h
  refine aN (aL (cJ hF (eT (l:=[(39,⟨(rI F (gL F 1100)),[3],((q,(0:Int),(0:Int),()),.inl z)⟩)]) (.cons (aA4 F _ (xQ F 1100)) xP (.nil))) [0,2,3,4,5] [] (yaE ?_)));obtain⟨f,I,h⟩:=bind_some h;try dsimp only at h
  refine aN (aL (aL (cJ hF (eT (l:=[(40,⟨vF F,[3],(z.2,f)⟩)]) (.cons (aEE F) xP (.nil))) [0,2,3,4,5] [] (yaE ?_))));refine aN (aL (aQ hF [2,3,4,5,20] (yaA ?_)));refine aN (cS rfl (fun hc=>?_) (fun hc=>?_))
  ·(try simp only[go_sem] at hc);have h:=oD zAC h;refine cJ hF (eT (l:=[]) (.nil)) [2,3,4] [] (yaE ?_);obtain rfl:=Option.some.inj h;refine iX (aM (aJ 0 rfl aH) ?_);refine aM (aJ 1 rfl aH) ?_;refine aM (aJ 2 rfl aH) (yaA ?_);refine aFs (fn:=Tryz.f13) (k:=3) (l2:=[0,1,2]) hF rfl rfl xAa rfl (xC xP) ⟨kB (f.2.1,()),[0,1,2],()⟩ (aE7 (f.2.1,())) rfl [.cell 2 40,.cell 3 3,.cell 4 3] rfl ?_ ?_
   ·(simp only[kB,go_sem])<;>first|decide|trivial
   ·(simp only[kB,aS,mA,go_sem])<;>first|decide|trivial|rfl|(simp; done)
  ·(try simp only[go_sem] at hc);have h:=nB zAC h;refine eC (aN (aL (aL (aQ hF [2,3,4,29] (yaA ?_)))));obtain⟨g0,h⟩:=bD h;(repeat (refine⟨zAA,?_⟩));refine aN (cS rfl (fun hc=>?_) (fun hc=>?_))
   ·(try simp only[go_sem] at hc);have h:=oD zAC h;refine cJ hF (eT (l:=[]) (.nil)) [2,3,4] [] (yaE ?_);obtain rfl:=Option.some.inj h;refine iX (aM (aJ 0 rfl aH) ?_);refine aM (aJ 1 rfl aH) ?_;refine aM (aJ 2 rfl aH) (yaA ?_);refine aFs (fn:=Tryz.f13) (k:=3) (l2:=[0,1,2]) hF rfl rfl xAa rfl (xC xP) ⟨kB ((0:Int),()),[0,1,2],()⟩ (aE7 ((0:Int),())) rfl [.cell 2 40,.cell 3 3,.cell 4 3] rfl ?_ ?_
    ·(simp only[kB,go_sem])<;>first|decide|trivial
    ·(simp only[kB,aS,mA,go_sem])<;>first|decide|trivial|rfl|(simp; done)
   ·(try simp only[go_sem] at hc);have h:=nB zAC h;refine eC (aN (aL (dH hF [2,3,4] (yaA ?_))));obtain rfl:=Option.some.inj h;refine aN (gU (aUb (fn:=Tryz.f13) (k:=3) (l2:=[0,1,2]) hF rfl rfl xAa rfl (xC xP) ⟨aAl,[0,1,2],(z.1,(0:Int),(0:Int),())⟩ aTU rfl [.cell 2 40,.cell 3 3,.cell 4 3] rfl ?_ ?_))
    ·(simp only[aAl,go_sem])<;>first|decide|trivial
    ·(simp only[aAl,aS,mA,go_sem])<;>first|decide|trivial|rfl|(simp; done)
 ·try dsimp only at h
  refine aN (aL (cJ hF (eT (l:=[(39,⟨(rI F (gL F 1100)),[3],((q,(0:Int),(0:Int),()),.inr g)⟩)]) (.cons (aA4 F _ (xQ F 1100)) xP (.nil))) [0,2,3,4,5] [] (yaE ?_)));obtain rfl:=Option.some.inj h;refine iX (aM (aJ 0 rfl aH) ?_);refine aM (aJ 1 rfl aH) ?_;refine aM (aJ 2 rfl aH) (yaA ?_);refine aFs (fn:=Tryz.f13) (k:=3) (l2:=[0,1,2]) hF rfl rfl xAa rfl (xC xP) ⟨kB (g),[0,1,2],()⟩ (aE7 (g)) rfl [.cell 2 40,.cell 3 3,.cell 4 3] rfl ?_ ?_
  ·(simp only[kB,go_sem])<;>first|decide|trivial
  ·(simp only[kB,aS,mA,go_sem])<;>first|decide|trivial|rfl|(simp; done)
attribute [go_sem] aD7
end
end Nu
end Go.Proofs
namespace Go.Proofs
open Go.Shelf
def Tryz.lays143_ren:Go.Shelf.Ren:=⟨fun|143=>90|219=>91|217=>132|225=>133|224=>134|267=>135|266=>177|314=>178|n=>n,fun|9=>9|3=>3|4=>4|5=>5|46=>179|146=>221|51=>220|n=>n,fun|1=>0|n=>n⟩
theorem Tryz.lays143:Go.Proofs.Lays.n143 Tryz.prog Tryz.lays143_ren:={
 mixed:=by kernel_rfl
 f143:=Tryz.func90.trans (congrArg some (by kernel_rfl))
 f217:=Tryz.func132.trans (congrArg some (by kernel_rfl))
 f219:=Tryz.func91.trans (congrArg some (by kernel_rfl))
 f224:=Tryz.func134.trans (congrArg some (by kernel_rfl))
 f225:=Tryz.func133.trans (congrArg some (by kernel_rfl))
 f266:=Tryz.func177.trans (congrArg some (by kernel_rfl))
 f267:=Tryz.func135.trans (congrArg some (by kernel_rfl))
 f314:=Tryz.func178.trans (congrArg some (by kernel_rfl))
 t3:=Tryz.underlying3
 a3:=Tryz.isAgg3
 z3:=Tryz.sizeOf3
 v3:=Tryz.zeroValue3
 t4:=Tryz.underlying4
 a4:=Tryz.isAgg4
 z4:=Tryz.sizeOf4
 v4:=Tryz.zeroValue4
 t5:=Tryz.underlying5
 a5:=Tryz.isAgg5
 z5:=Tryz.sizeOf5
 v5:=Tryz.zeroValue5
 t9:=Tryz.underlying9
 a9:=Tryz.isAgg9
 z9:=Tryz.sizeOf9
 v9:=Tryz.zeroValue9
 t46:=Tryz.underlying179
 a46:=Tryz.isAgg179
 z46:=Tryz.sizeOf179
 v46:=Tryz.zeroValue179
 t51:=Tryz.underlying220
 a51:=Tryz.isAgg220
 z51:=Tryz.sizeOf220
 v51:=Tryz.zeroValue220
 t146:=Tryz.underlying221
 a146:=Tryz.isAgg221
 z146:=Tryz.sizeOf221
 v146:=Tryz.zeroValue221
 g1:=by kernel_rfl }
def Tryz.lays145_ren:Go.Shelf.Ren:=⟨fun|145=>17|220=>43|219=>91|217=>132|225=>133|224=>134|267=>135|266=>177|314=>178|n=>n,fun|9=>9|4=>4|59=>48|3=>3|5=>5|46=>179|146=>221|51=>220|n=>n,fun|1=>0|n=>n⟩
theorem Tryz.lays145:Go.Proofs.Lays.n145 Tryz.prog Tryz.lays145_ren:={
 mixed:=by kernel_rfl
 f145:=Tryz.func17.trans (congrArg some (by kernel_rfl))
 f217:=Tryz.func132.trans (congrArg some (by kernel_rfl))
 f219:=Tryz.func91.trans (congrArg some (by kernel_rfl))
 f220:=Tryz.func43.trans (congrArg some (by kernel_rfl))
 f224:=Tryz.func134.trans (congrArg some (by kernel_rfl))
 f225:=Tryz.func133.trans (congrArg some (by kernel_rfl))
 f266:=Tryz.func177.trans (congrArg some (by kernel_rfl))
 f267:=Tryz.func135.trans (congrArg some (by kernel_rfl))
 f314:=Tryz.func178.trans (congrArg some (by kernel_rfl))
 t3:=Tryz.underlying3
 a3:=Tryz.isAgg3
 z3:=Tryz.sizeOf3
 v3:=Tryz.zeroValue3
 t4:=Tryz.underlying4
 a4:=Tryz.isAgg4
 z4:=Tryz.sizeOf4
 v4:=Tryz.zeroValue4
 t5:=Tryz.underlying5
 a5:=Tryz.isAgg5
 z5:=Tryz.sizeOf5
 v5:=Tryz.zeroValue5
 t9:=Tryz.underlying9
 a9:=Tryz.isAgg9
 z9:=Tryz.sizeOf9
 v9:=Tryz.zeroValue9
 t46:=Tryz.underlying179
 a46:=Tryz.isAgg179
 z46:=Tryz.sizeOf179
 v46:=Tryz.zeroValue179
 t51:=Tryz.underlying220
 a51:=Tryz.isAgg220
 z51:=Tryz.sizeOf220
 v51:=Tryz.zeroValue220
 t59:=Tryz.underlying48
 a59:=Tryz.isAgg48
 z59:=Tryz.sizeOf48
 v59:=Tryz.zeroValue48
 t146:=Tryz.underlying221
 a146:=Tryz.isAgg221
 z146:=Tryz.sizeOf221
 v146:=Tryz.zeroValue221
 g1:=by kernel_rfl }
def Tryz.lays146_ren:Go.Shelf.Ren:=⟨fun|146=>16|221=>42|268=>88|138=>89|143=>90|195=>129|197=>130|218=>131|219=>91|260=>176|217=>132|225=>133|224=>134|267=>135|266=>177|314=>178|n=>n,fun|9=>9|31=>22|3=>3|4=>4|0=>0|105=>154|21=>21|5=>5|46=>179|119=>239|139=>242|138=>241|146=>221|51=>220|n=>n,fun|1=>0|3=>2|4=>3|n=>n⟩
theorem Tryz.lays146:Go.Proofs.Lays.n146 Tryz.prog Tryz.lays146_ren:={
 mixed:=by kernel_rfl
 f138:=Tryz.func89.trans (congrArg some (by kernel_rfl))
 f143:=Tryz.func90.trans (congrArg some (by kernel_rfl))
 f146:=Tryz.func16.trans (congrArg some (by kernel_rfl))
 f195:=Tryz.func129.trans (congrArg some (by kernel_rfl))
 f197:=Tryz.func130.trans (congrArg some (by kernel_rfl))
 f217:=Tryz.func132.trans (congrArg some (by kernel_rfl))
 f218:=Tryz.func131.trans (congrArg some (by kernel_rfl))
 f219:=Tryz.func91.trans (congrArg some (by kernel_rfl))
 f221:=Tryz.func42.trans (congrArg some (by kernel_rfl))
 f224:=Tryz.func134.trans (congrArg some (by kernel_rfl))
 f225:=Tryz.func133.trans (congrArg some (by kernel_rfl))
 f260:=Tryz.func176.trans (congrArg some (by kernel_rfl))
 f266:=Tryz.func177.trans (congrArg some (by kernel_rfl))
 f267:=Tryz.func135.trans (congrArg some (by kernel_rfl))
 f268:=Tryz.func88.trans (congrArg some (by kernel_rfl))
 f314:=Tryz.func178.trans (congrArg some (by kernel_rfl))
 t0:=Tryz.underlying0
 a0:=Tryz.isAgg0
 z0:=Tryz.sizeOf0
 v0:=Tryz.zeroValue0
 t3:=Tryz.underlying3
 a3:=Tryz.isAgg3
 z3:=Tryz.sizeOf3
 v3:=Tryz.zeroValue3
 t4:=Tryz.underlying4
 a4:=Tryz.isAgg4
 z4:=Tryz.sizeOf4
 v4:=Tryz.zeroValue4
 t5:=Tryz.underlying5
 a5:=Tryz.isAgg5
 z5:=Tryz.sizeOf5
 v5:=Tryz.zeroValue5
 t9:=Tryz.underlying9
 a9:=Tryz.isAgg9
 z9:=Tryz.sizeOf9
 v9:=Tryz.zeroValue9
 t21:=Tryz.underlying21
 a21:=Tryz.isAgg21
 z21:=Tryz.sizeOf21
 v21:=Tryz.zeroValue21
 t31:=Tryz.underlying22
 a31:=Tryz.isAgg22
 z31:=Tryz.sizeOf22
 v31:=Tryz.zeroValue22
 t46:=Tryz.underlying179
 a46:=Tryz.isAgg179
 z46:=Tryz.sizeOf179
 v46:=Tryz.zeroValue179
 t51:=Tryz.underlying220
 a51:=Tryz.isAgg220
 z51:=Tryz.sizeOf220
 v51:=Tryz.zeroValue220
 t105:=Tryz.underlying154
 a105:=Tryz.isAgg154
 z105:=Tryz.sizeOf154
 v105:=Tryz.zeroValue154
 t119:=Tryz.underlying239
 a119:=Tryz.isAgg239
 z119:=Tryz.sizeOf239
 t138:=Tryz.underlying241
 a138:=Tryz.isAgg241
 z138:=Tryz.sizeOf241
 v138:=Tryz.zeroValue241
 t139:=Tryz.underlying242
 a139:=Tryz.isAgg242
 z139:=Tryz.sizeOf242
 v139:=Tryz.zeroValue242
 t146:=Tryz.underlying221
 a146:=Tryz.isAgg221
 z146:=Tryz.sizeOf221
 v146:=Tryz.zeroValue221
 g1:=by kernel_rfl
 g3:=by kernel_rfl
 g4:=by kernel_rfl }
open Go.Vc
set_option maxRecDepth 20000
namespace Nu
noncomputable section
def aIG(sub:List Nat):List Nat→Option Nat
 | []=>if sub.isEmpty then some 0 else none
 | b::l=>if sub.isPrefixOf (b::l) then some 0 else match aIG sub l with
  | none=>none
  | some i=>some (i+1)
def aZV(sep:List Nat):Nat→List Nat→List qd
 | 0,s=>[s]
 | k+1,s=>match aIG sep s with
  | none=>[s]
  | some i=>s.take i::aZV sep k (s.drop (i+sep.length))
def aLZ(s sub:List Nat):Int:=match aIG sub s with
 | none=> -1
 | some i=>(i:Int)
def aA5(s sep:List Nat):List Nat×List Nat×Bool×Unit:=match aIG sep s with
 | none=>(s,[],false,())
 | some i=>(s.take i,s.drop (i+sep.length),true,())
def yY(s sep:List Nat):List qd:=aZV sep s.length s
abbrev nts(l:List UInt8):List Nat:=l.map (·.toNat)
theorem aWi:∀(t s:List UInt8),(nts t).isPrefixOf (nts s)=t.isPrefixOf s
 | [],s=>by cases s<;>rfl
 | a::t,[]=>rfl
 | a::t,b::s=>by
  have f:=aWi t s;simp only[nts,List.map_cons,List.isPrefixOf] at f ⊢;rw[f]
  congr 1
  by_cases h:a=b
  ·subst h; simp
  ·have:a.toNat≠b.toNat:=fun e=>h (UInt8.toNat_inj.1 e);rw[beq_false_of_ne h,beq_false_of_ne this]
theorem aMz(t:List UInt8):∀s:List UInt8,Lib.index s t=match aIG (nts t) (nts s) with
  | none=> -1
  | some i=>(i:Int)
 | []=>by
  cases t<;>rfl
 | b::s=>by
  have f:=aMz t s;have e:=aWi t (b::s);simp only[nts,List.map_cons] at e f ⊢;rw[Lib.index,aIG,e];by_cases hp:t.isPrefixOf (b::s)=true
  ·simp[hp]
  ·rw[if_neg hp,if_neg hp,f];cases aIG (t.map (·.toNat)) (s.map (·.toNat)) with
   | none=>rfl
   | some i =>
    have:((i:Int) == -1)=false:=by
     rw[beq_eq_false_iff_ne]; omega
    simp only[this];simp
theorem aWj(t:List UInt8)(ht:t≠ []):∀(k:Nat) (s:List UInt8),Lib.count s t≤k→(Lib.splitK t 0 (Lib.count s t) s).map nts=aZV (nts t) k (nts s)
 | k,s,q=>by
  have hi:=aMz t s;cases f:aIG (nts t) (nts s) with
  | none =>
   rw[f] at hi;rw[Lib.count_miss hi];cases k with
   | zero=>rfl
   | succ k=>rw[aZV,f]; rfl
  | some i =>
   rw[f] at hi;have hc:=Lib.count_hit ht hi;cases k with
   | zero=>omega
   | succ k =>
    have g:=aWj t ht k (s.drop (i+t.length)) (by omega);rw[aZV,f,hc,Nat.add_comm 1,Lib.splitK];have hi:Lib.index s t=(i:Int):=hi;have:(Lib.index s t == -1)=false:=(by rw[hi,beq_eq_false_iff_ne]; omega);rw[this,hi];simp only[Bool.false_eq_true,if_false,List.map_cons,Int.toNat_natCast,Nat.add_zero];rw[g];simp[nts,List.map_take,List.map_drop]
def aXA(s sep:List Nat):Prop:=s.length<4294967281∧1≤sep.length
instance (s sep:List Nat):Decidable (aXA s sep):=by unfold aXA; infer_instance
theorem aRP[Mx]{S:Nat→Prop}{w:World}[Mx](q:uD GL S w):w.cell? ⟨0,0,none⟩=some (.int .i64 Mx.v):=by
 have h:=(q 0).1;rw[GLm] at h;simp only[aO] at h;obtain⟨b,off,ds,g,I,f,z⟩:=h;simp only[Value.cells,List.cons.injEq,and_true] at g;cases g;simp only[bB] at f;exact z 0 (.int .i64 Mx.v) (by rw[f.1]; rfl)
theorem aRQ{w:World}{S:Nat→Prop}{vs:Array Value}{a b:List Nat}(h:sD w S qj (a,b,()) vs.toList):∃s t:ByteArray,vs= #[.string s,.string t]∧aR s=a∧aR t=b:=by
 obtain⟨v1,r1,e1,q,I,J,z,g,f⟩:=h;have f:J= []:=f;have q:bB w S .str a [v1]:=q;have g:bB w S .str b [I]:=g;obtain⟨s,N,hs,_⟩:=q;obtain⟨t,L,ht,_⟩:=g;refine⟨s,t,?_,hs,ht⟩;rw[← Array.toList_inj,e1,z,f,(List.cons.inj N).1,(List.cons.inj L).1]
theorem bEy{w:World}{S:Nat→Prop}{l:List UInt8}(f:l.length≤maxLen):dU w S .str (l.map (·.toNat)) (.string ⟨l.toArray⟩):=by
 unfold dU;rw[if_neg (by simp[Ty.isAgg])];exact⟨_,rfl,by simp[aR],f⟩
@[go_sem]def aKh:Ty:=.pair .str wq
@[go_sem]def aAJ:aF:=⟨aKh,.one qg,fun x=>aXA x.1 x.2.1,fun x=>aLZ x.1 x.2.1⟩
theorem aRR[Mx]:FOK Tryz.prog GL 90 aAJ:=by
 rintro w S U ⟨(a:List Nat),(b:List Nat),u⟩ Y z I ⟨q,O⟩;have q:a.length<4294967281:=q;obtain⟨s,t,rfl,hs,ht⟩:=aRQ I;have g:s.size<4294967281:=by
  have:s.size=a.length:=by rw[← hs]; simp[aR]
  omega
 refine Calls.mono (f:=90) (Any.strings_Index Tryz.lays143 s t Mx.v w g (aRP z)) ?_;rintro e w' ⟨rfl,rfl⟩;refine⟨_,rfl,.refl _ _,?_⟩;show dU w' _ qg (aLZ a b) _;unfold dU;rw[if_neg (by simp[Ty.isAgg])];have J:aLZ a b=Lib.index s.data.toList t.data.toList:=by
  subst hs ht;exact(aMz t.data.toList s.data.toList).symm
 rw[J];refine⟨rfl,rfl,?_,?_⟩
 ·have hm:IntKind.i64.min= -9223372036854775808:=by decide
  have:=Lib.index_ge s.data.toList t.data.toList;show (IntKind.i64.min:Int)≤Lib.index s.data.toList t.data.toList;rw[hm]; omega
 ·have hm:IntKind.i64.max=9223372036854775807:=by decide
  have L:∀(l m:List UInt8),Lib.index l m≤l.length:=fun l m=>by
   induction l with
   | nil=>unfold Lib.index; split<;>decide
   | cons b l N =>
    unfold Lib.index;split
    ·simp; omega
    ·split
     ·simp; omega
     ·simp; omega
  have:=L s.data.toList t.data.toList;have e:s.data.toList.length=s.size:=rfl;show (Lib.index s.data.toList t.data.toList:Int)≤IntKind.i64.max;rw[hm]; omega
@[go_sem]def aNA:Ty:=.pair .str wq
@[go_sem]def qE:aF:=⟨aNA,.tup (.pair .str (.pair .str vl)),fun x=>aXA x.1 x.2.1,fun x=>aA5 x.1 x.2.1⟩
theorem aGv[Mx]:FOK Tryz.prog GL 17 qE:=by
 rintro w S O ⟨(a:List Nat),(b:List Nat),u⟩ U J L ⟨I,N⟩;have I:a.length<4294967281:=I;obtain⟨s,t,rfl,hs,ht⟩:=aRQ L;have z:s.size<4294967281:=by
  have:s.size=a.length:=by rw[← hs]; simp[aR]
  omega
 refine Calls.mono (f:=17) (Any.strings_Cut Tryz.lays145 s t Mx.v w z (aRP J)) ?_;rintro e w' ⟨rfl,n,rfl⟩;have g:(Lib.cut s.data.toList t.data.toList).1.length≤s.size∧(Lib.cut s.data.toList t.data.toList).2.1.length≤s.size:=by
  have e:s.data.toList.length=s.size:=rfl;unfold Lib.cut;split
  ·simp only[List.length_take,List.length_drop,e]; omega
  ·simp only[List.length_nil,e]; omega
 have hm:s.size≤maxLen:=by unfold maxLen; omega
 refine⟨_,rfl,⟨rfl,rfl,rfl,Nat.le_refl _,fun _ _ _=>rfl⟩,[_,_,_],rfl,?_⟩;show sD _ _ (.pair .str (.pair .str vl)) (aA5 a b) _;have q:aA5 a b=(nts (Lib.cut s.data.toList t.data.toList).1,nts (Lib.cut s.data.toList t.data.toList).2.1,(Lib.cut s.data.toList t.data.toList).2.2,()):=by
  subst hs ht;have hi:=aMz t.data.toList s.data.toList;show aA5 (nts s.data.toList) (nts t.data.toList)=_;unfold aA5 Lib.cut;cases q:aIG (nts t.data.toList) (nts s.data.toList) with
  | none=>rw[q] at hi; replace hi:Lib.index s.data.toList t.data.toList= -1:=hi; rw[if_neg (by omega)]; rfl
  | some i=>rw[q] at hi; replace hi:Lib.index s.data.toList t.data.toList=(i:Int):=hi; rw[if_pos (by omega)]; simp[hi,nts,List.map_take,List.map_drop]
 rw[q];exact⟨_,_,rfl,bEy (Nat.le_trans g.1 hm),_,_,rfl,bEy (Nat.le_trans g.2 hm),_,_,rfl,by unfold dU; rw[if_neg (by simp[Ty.isAgg])]; rfl,rfl⟩
theorem aSY(sep:ByteArray):∀(k:Nat) (s x:ByteArray),x∈Lib.splitB sep 0 k s→x.size≤s.size
 | 0,s,x,h=>by
  rw[Lib.splitB] at h;rw[List.mem_singleton.1 h];exact Nat.le_refl _
 | k+1,s,x,h=>by
  rw[Lib.splitB] at h;split at h
  ·rw[List.mem_singleton.1 h]; exact Nat.le_refl _
  ·rcases List.mem_cons.1 h with rfl|h
   ·rw[ByteArray.size_extract]; omega
   ·refine Nat.le_trans (aSY sep k _ x h) ?_;rw[ByteArray.size_extract]; omega
@[go_sem]def aKi:Ty:=.pair .str wq
@[go_sem]def aAK:aF:=⟨aKi,.one wo,fun x=>aXA x.1 x.2.1,fun x=>yY x.1 x.2.1⟩
theorem aRS[Mx]:FOK Tryz.prog GL 16 aAK:=by
 rintro w S vs ⟨(a:List Nat),(b:List Nat),u⟩ hS hG ha ⟨U,Y⟩;have U:a.length<4294967281:=U;have Y:1≤b.length:=Y;obtain⟨s,t,rfl,hs,ht⟩:=aRQ ha;have hsz:s.size=a.length:=by rw[← hs]; simp[aR]
 have Z:t.size=b.length:=by rw[← ht]; simp[aR]
 have q:=Lib.splitB_all t (by omega) 0 _ s rfl;have L:Lib.countB s t≤s.size:=Lib.countB_le t (by omega) s.size s (Nat.le_refl _);refine Calls.mono (f:=16) (Any.strings_Split Tryz.lays146 (by rfl) s t Mx.v w (by omega) (aRP hG) (by omega)) ?_;rintro e w' ⟨rfl,rfl⟩;refine⟨_,rfl,iL.alloc nothing w _,?_⟩;show dU _ _ wo (yY a b) _;unfold dU;rw[if_neg (by simp[Ty.isAgg])];have hx:yY a b=(Lib.splitB t 0 (Lib.countB s t) s).map aR:=by
  have ht1:1≤t.size:=by omega
  have O:t.data.toList≠ []:=fun e=>by
   have e2:t.data.toList.length=t.size:=rfl;rw[e,List.length_nil] at e2;omega
  have h1:=Lib.splitB_data t 0 (Lib.countB s t) s;have h2:=aWj t.data.toList O s.size s.data.toList L;subst hs ht;have e:(aR s).length=s.size:=by simp[aR]
  unfold yY;rw[e];show aZV (nts t.data.toList) s.size (nts s.data.toList)=_;rw[← h2];show (Lib.splitK t.data.toList 0 (Lib.countB s t) s.data.toList).map nts=_;rw[← h1,List.map_map];rfl
 rw[hx];have z:∀o:Go.Obj,w.heap.size<(w.alloc o).heap.size:=fun o=>by show w.heap.size<(w.heap.push o).size; rw[Array.size_push]; omega
 have I:∀o:Go.Obj,(w.alloc o).heap[w.heap.size]? = some o:=fun o=>by show (w.heap.push o)[w.heap.size]? = some o; rw[Array.getElem?_push,if_pos rfl]
 refine⟨_,_,_,rfl,by rw[List.length_map,q],Nat.le_refl _,by unfold maxLen; omega,.inr ⟨w.heap.size,0,rfl,.inr ⟨Nat.le_refl _,z _⟩,fun i hi=>?_⟩⟩;have g:i<(Lib.splitB t 0 (Lib.countB s t) s).length:=by simpa using hi
 refine⟨[.string (Lib.splitB t 0 (Lib.countB s t) s)[i]],⟨_,rfl,by simp,?_⟩,fun j v N=>?_⟩
 ·have:=aSY t _ s _ (List.getElem_mem g);unfold maxLen; omega
 ·have J:j=0:=by
   rcases Nat.lt_or_ge j 1 with h|h
   ·omega
   ·rw[List.getElem?_eq_none (by simpa using h)] at N; cases N
  subst J;have hv:v= .string (Lib.splitB t 0 (Lib.countB s t) s)[i]:=by simpa using N.symm
  subst hv;have hc:((Lib.splitB t 0 (Lib.countB s t) s).map Value.string).toArray[i]? = some (.string (Lib.splitB t 0 (Lib.countB s t) s)[i]):=by
   simp[g]
  rw[Lib.cell_of_heap (I _),show 0+i*Ty.str.cells+0=i from by simp[Ty.cells]];exact hc
set_option maxHeartbeats 4000000
attribute [-go_sem] Ex.kind Ex.text Ex.l
def cI(F:Md)(f:qd)(cutset_1:qd):Option qd :=
 if (f=(aR ⟨#[]⟩))∨(cutset_1=(aR ⟨#[]⟩)) then some f else ck (((cutset_1.length:Int)=(1:Int))→((0:Int)<(cutset_1.length:Int))) (if ((cutset_1.length:Int)=(1:Int))∧((cutset_1.getD (0:Nat) (0:Nat))<(128:Nat)) then ck ((0:Int)<(cutset_1.length:Int)) ((hZ F f (cutset_1.getD (0:Nat) (0:Nat))).bind (fun v_8=>some v_8)) else (dJ F cutset_1).bind (fun v_13=>if v_13.2.1=true then (dO F f v_13.1).bind (fun v_17=>some v_17) else none))
def aFk:PlR:=⟨[(0,.A [0,1]),(1,.A [0,1,12]),(2,.A [4]),(3,.A [0,1,21]),(4,.A [4]),(5,.B [0,1,5,6]),(6,.A [0,1,5,31]),(7,.A [4]),(8,.stop)],[],[]⟩
def aGw:Ty:=.pair .str wq
def oC(F:Md):aF:=mSpec aGw (.one .str) (fun x=>cI F x.1 x.2.1)
abbrev xR(F:Md):List (FuncId×aF):=[(45,(fN F)),(95,(jL F)),(96,(iK F))]
theorem aOv[Mx](F:Md):bF Tryz.prog GL (xR F):=.cons (wC F) xP (.cons (aCc F) xP (.cons (aBi F) xP (.nil)))
attribute [go_sem] aGw aFk
theorem aFl[Mx](F:Md):FOK Tryz.prog GL 48 (oC F):=by
 refine bQ (aZ (aOv F)) mix Tryz.func48 rfl xP xAa aFk (fun w0 S x Θ g h hV=>?_);obtain⟨(f:qd),(cutset_1:qd),u⟩:=x;simp only[cA,go_sem];replace h:sat (cI F f cutset_1) _:=h;unfold cI at h;exact zaQ
attribute [go_sem] oC
def iS(F:Md)(f:qd)(cutset_1:qd):Option qd :=
 if (f=(aR ⟨#[]⟩))∨(cutset_1=(aR ⟨#[]⟩)) then some f else ck (((cutset_1.length:Int)=(1:Int))→((0:Int)<(cutset_1.length:Int))) (if ((cutset_1.length:Int)=(1:Int))∧((cutset_1.getD (0:Nat) (0:Nat))<(128:Nat)) then ck ((0:Int)<(cutset_1.length:Int)) ((gP F f (cutset_1.getD (0:Nat) (0:Nat))).bind (fun v_8=>some v_8)) else (dJ F cutset_1).bind (fun v_13=>if v_13.2.1=true then (dG F f v_13.1).bind (fun v_17=>some v_17) else none))
def aEK:PlR:=⟨[(0,.A [0,1]),(1,.A [0,1,12]),(2,.A [4]),(3,.A [0,1,21]),(4,.A [4]),(5,.B [0,1,5,6]),(6,.A [0,1,5,31]),(7,.A [4]),(8,.stop)],[],[]⟩
def aFm:Ty:=.pair .str wq
def vG(F:Md):aF:=mSpec aFm (.one .str) (fun x=>iS F x.1 x.2.1)
abbrev vU(F:Md):List (FuncId×aF):=[(44,(iJ F)),(45,(fN F)),(46,(gY F))]
theorem aMT[Mx](F:Md):bF Tryz.prog GL (vU F):=.cons (aBe F) xP (.cons (wC F) xP (.cons (aAT F) xP (.nil)))
attribute [go_sem] aFm aEK
theorem aL0[Mx](F:Md):FOK Tryz.prog GL 18 (vG F):=by
 refine bQ (aZ (aMT F)) mix Tryz.func18 rfl xP xAa aEK (fun w0 S x Θ g h hV=>?_);obtain⟨(f:qd),(cutset_1:qd),u⟩:=x;simp only[cA,go_sem];replace h:sat (iS F f cutset_1) _:=h;unfold iS at h;exact zaQ
attribute [go_sem] vG
def kW(F:Md)(f:qd)(prefix_1:qd):Option qd :=
 (gF F f prefix_1).bind (fun v_8=>if v_8=true then ck (0≤(prefix_1.length:Int)∧(prefix_1.length:Int)≤(f.length:Int)) (some (List.drop (prefix_1.length) f)) else some f)
def aAm:PlR:=⟨[(0,.A [0,1]),(1,.A [0,1,7]),(2,.A [4]),(3,.A [4])],[],[]⟩
def aA1:Ty:=.pair .str wq
def nZ(F:Md):aF:=mSpec aA1 (.one .str) (fun x=>kW F x.1 x.2.1)
abbrev aA2(F:Md):List (FuncId×aF):=[(206,(hO F))]
theorem aGV[Mx](F:Md):bF Tryz.prog GL (aA2 F):=.cons (aAX F) xP (.nil)
attribute [go_sem] aA1 aAm
theorem aGx[Mx](F:Md):FOK Tryz.prog GL 204 (nZ F):=by
 refine bQ (aZ (aGV F)) mix Tryz.func204 rfl xP xAa aAm (fun w0 S x Θ g h hV=>?_);obtain⟨(f:qd),(prefix_1:qd),u⟩:=x;simp only[cA,go_sem];replace h:sat (kW F f prefix_1) _:=h;unfold kW at h;refine aB h fun v_8 hv h=>?_;try simp only[hv,go_sem]
 refine aH6 h (fun hc h=>?_) fun hc h=>?_
 ·refine aK h fun g0 h=>?_;exact zaD
 ·exact aG hV [.tmp 4] rfl rfl rfl (aA h) xAc
attribute [go_sem] nZ
def qF(F:Md)(f:qd)(prefix_1:qd):Option qd :=
 (kW F f prefix_1).bind (fun g=>some g)
def aDv:PlR:=⟨[(0,.A [0,1]),(1,.A [4])],[],[]⟩
def aEM:Ty:=.pair .str wq
def tY(F:Md):aF:=mSpec aEM (.one .str) (fun x=>qF F x.1 x.2.1)
abbrev aEN(F:Md):List (FuncId×aF):=[(204,(nZ F))]
theorem aL1[Mx](F:Md):bF Tryz.prog GL (aEN F):=.cons (aGx F) xP (.nil)
attribute [go_sem] aEM aDv
theorem aKK[Mx](F:Md):FOK Tryz.prog GL 185 (tY F):=by
 refine bQ (aZ (aL1 F)) mix Tryz.func185 rfl xP xAa aDv (fun w0 S x Θ q h hV=>?_);obtain⟨(f:qd),(prefix_1:qd),u⟩:=x;simp only[cA,go_sem];replace h:sat (qF F f prefix_1) _:=h;unfold qF at h;refine aB h fun g hv h=>?_;exact zao
attribute [go_sem] tY
def lU(F:Md)(f:qd):Option Bool :=
 (qF F f (aR ⟨#[45]⟩)).bind (fun v_8=>(tH F v_8).bind (fun g=>some g))
def aKj:PlR:=⟨[(0,.A [0]),(1,.A [2])],[],[]⟩
def aL2:Ty:=.pair .str .unit
def aBE(F:Md):aF:=mSpec aL2 (.one .bool) (fun x=>lU F x.1)
abbrev aGy(F:Md):List (FuncId×aF):=[(100,(wZ F)),(185,(tY F))]
theorem aWk[Mx](F:Md):bF Tryz.prog GL (aGy F):=.cons (aLx F) xP (.cons (aKK F) xP (.nil))
attribute [go_sem] aL2 aKj
theorem aTW[Mx](F:Md):FOK Tryz.prog GL 140 (aBE F):=by
 refine bQ (aZ (aWk F)) mix Tryz.func140 rfl xP xAa aKj (fun w0 S x Θ q h hV=>?_);obtain⟨(f:qd),u⟩:=x;simp only[cA,go_sem];replace h:sat (lU F f) _:=h;unfold lU at h;refine aB h fun v_8 hv h=>?_;try simp only[hv,go_sem]
 refine aB h fun g hv h=>?_;try simp only[hv,go_sem]
 exact zaE
attribute [go_sem] aBE
def lE(F:Md)(f:qo):Option (qo⊕wc) :=
 some (.inr ((f.1,(1:Int),()),()))
def aBP(F:Md):fH where
 D:=qo×(qo⊕wc)
 av:=fun d=>[.ptr 0 []]
 hp:=fun d=>[.box 3 (.val qk d.1)]
 m:=1
 pre:=fun d=>lE F d.1=some d.2
 out:=fun d=>match d.2 with| .inl r=>.ret (.tup []) [.box 3 (.val qk (r))]| .inr p=>.pan ⟨45,wg,p⟩ [.box 3 (.junk)]
@[go_sem]def xS(F:Md)(vs:List AV)(h:List Vc.Obj):Hit:=mkH (lE F (eK h (fL vs 0) qk)) (.inr (((0:Int),(0:Int),()),())) fun r=>⟨(aBP F),[(fL vs 0)],((eK h (fL vs 0) qk),r)⟩
def aGz:PlR:=⟨[(0,.P [] [])],[],[]⟩
abbrev aQb(F:Md):List (FuncId×aF):=[]
theorem aQc[Mx](F:Md):bF Tryz.prog GL (aQb F):=.nil
attribute [go_sem] aGz aBP
theorem aBQ[Mx](F:Md):GOK Tryz.prog GL 56 (aBP F):=by
 refine jR (aZ (aQc F)) mix Tryz.func56 rfl xP (fun _=>Nat.le_of_ble_eq_true rfl) aGz (fun z w0 d q g h hV=>?_);obtain⟨(f:qo),r⟩:=d;have hF:=hV.fr;replace h:=jS (show lE F f=some r from h);simp only[vH,List.map_cons,List.map_nil,go_sem];unfold lE at h;obtain rfl:=aP h;exact zaH
def cP(F:Md)(g:Bool)(f:qo):Option (qo⊕wc) :=
 if ¬(g=true) then (lE F f).bind (fun e=>match e with| .inl q=>some (.inl q)| .inr z=>some (.inr z)) else some (.inl f)
def aBR(F:Md):fH where
 D:=Bool×qo×(qo⊕wc)
 av:=fun d=>[.ptr 0 [],.val .bool d.1]
 hp:=fun d=>[.box 3 (.val qk d.2.1)]
 m:=1
 pre:=fun d=>cP F d.1 d.2.1=some d.2.2
 out:=fun d=>match d.2.2 with| .inl r=>.ret (.tup []) [.box 3 (.val qk (r))]| .inr p=>.pan ⟨45,wg,p⟩ [.box 3 (.junk)]
@[go_sem]def gH(F:Md)(vs:List AV)(h:List Vc.Obj):Hit:=mkH (cP F (qT h vs 1 .bool) (eK h (fL vs 0) qk)) (.inr (((0:Int),(0:Int),()),())) fun r=>⟨(aBR F),[(fL vs 0)],((qT h vs 1 .bool),(eK h (fL vs 0) qk),r)⟩
def aGA(F:Md):PlR:=⟨[(0,.A [0,5]),(1,.P [] [])],[],[(56,xS F)]⟩
abbrev aQd(F:Md):List (FuncId×aF):=[]
theorem aQe[Mx](F:Md):bF Tryz.prog GL (aQd F):=.nil
attribute [go_sem] aGA aBR
theorem iB[Mx](F:Md):GOK Tryz.prog GL 53 (aBR F):=by
 refine jR (aZ (aQe F)) mix Tryz.func53 rfl xP (fun _=>Nat.le_of_ble_eq_true rfl) (aGA F) (fun L w0 d J z h hV=>?_) (.cons (fun _ _=>(aBQ F)) xP (.nil));obtain⟨(g:Bool),(f:qo),r⟩:=d;have hF:=hV.fr;replace h:=jS (show cP F g f=some r from h);simp only[vH,List.map_cons,List.map_nil,go_sem];unfold cP at h;refine zT h (fun hc h=>?_) fun hc h=>?_
 ·refine aB h fun e hv h=>?_;rcases e with I|q
  ·(try dsimp only at h);exact zaL
  ·(try dsimp only at h);exact zap
 ·obtain rfl:=aP h;exact zas
def eJ(F:Md)(f:qo):Option (qd×qo) :=
 ck (0≤f.2.1∧f.2.1≤(f.2.2.1.length:Int)) (ck ((cI F (List.drop (f.2.1.toNat) f.2.2.1) (aR ⟨#[32]⟩)).isSome=true) (ck (aXA ((cI F (List.drop (f.2.1.toNat) f.2.2.1) (aR ⟨#[32]⟩)).getD ([]:List Nat)) (aR ⟨#[32]⟩)) (some ((aA5 ((cI F (List.drop (f.2.1.toNat) f.2.2.1) (aR ⟨#[32]⟩)).getD ([]:List Nat)) (aR ⟨#[32]⟩)).1,f))))
def xT(F:Md):fH where
 D:=qo×(qd×qo)
 av:=fun d=>[.ptr 0 []]
 hp:=fun d=>[.box 3 (.val qk d.1)]
 m:=1
 pre:=fun d=>eJ F d.1=some d.2
 out:=fun d=>(fun r:(qd×qo)=>.ret (.val .str r.1) [.box 3 (.val qk r.2)]) d.2
@[go_sem]def tP(F:Md)(vs:List AV)(h:List Vc.Obj):Hit:=mkH (eJ F (eK h (fL vs 0) qk)) (([]:List Nat),(0:Int),(0:Int),([]:List Nat),()) fun r=>⟨(xT F),[(fL vs 0)],((eK h (fL vs 0) qk),r)⟩
def aGB:PlR:=⟨[(0,.A [0]),(1,.A [3]),(2,.A [4]),(3,.A [2])],[],[]⟩
abbrev aC6(F:Md):List (FuncId×aF):=[(17,qE),(48,(oC F))]
theorem aQf[Mx](F:Md):bF Tryz.prog GL (aC6 F):=.cons aGv xP (.cons (aFl F) xP (.nil))
attribute [go_sem] aGB xT
theorem tQ[Mx](F:Md):GOK Tryz.prog GL 19 (xT F):=by
 refine jR (aZ (aQf F)) mix Tryz.func19 rfl xP (fun _=>Nat.le_of_ble_eq_true rfl) aGB (fun z w0 d q g h hV=>?_);obtain⟨(f:qo),r⟩:=d;have hF:=hV.fr;replace h:=jS (show eJ F f=some r from h);simp only[vH,List.map_cons,List.map_nil,go_sem];unfold eJ at h;refine aK h fun g0 h=>aK h fun g1 h=>?_;refine aK h fun g0 h=>?_;exact zar
def cW(F:Md)(q:qo):Option ((qd×qo)⊕wc) :=
 (eJ F q).bind (fun g=>(cP F (!(decide (g.1=(aR ⟨#[]⟩)))) g.2).bind (fun e=>match e with| .inl f=>ck (0≤f.2.1∧f.2.1≤(f.2.2.1.length:Int)) (ck (aXA (List.drop (f.2.1.toNat) f.2.2.1) g.1) (ck (I64 (f.2.1+(aLZ (List.drop (f.2.1.toNat) f.2.2.1) g.1))) (ck (I64 ((f.2.1+(aLZ (List.drop (f.2.1.toNat) f.2.2.1) g.1))+(g.1.length:Int))) (some (.inl (g.1,f.1,((f.2.1+(aLZ (List.drop (f.2.1.toNat) f.2.2.1) g.1))+(g.1.length:Int)),f.2.2.1,()))))))| .inr z=>some (.inr z)))
def aBS(F:Md):fH where
 D:=qo×((qd×qo)⊕wc)
 av:=fun d=>[.ptr 0 []]
 hp:=fun d=>[.box 3 (.val qk d.1)]
 m:=1
 pre:=fun d=>cW F d.1=some d.2
 out:=fun d=>match d.2 with| .inl r=>.ret (.val .str r.1) [.box 3 (.val qk r.2)]| .inr p=>.pan ⟨45,wg,p⟩ [.box 3 (.junk)]
@[go_sem]def gI(F:Md)(vs:List AV)(h:List Vc.Obj):Hit:=mkH (cW F (eK h (fL vs 0) qk)) (.inr (((0:Int),(0:Int),()),())) fun r=>⟨(aBS F),[(fL vs 0)],((eK h (fL vs 0) qk),r)⟩
def aGC(F:Md):PlR:=⟨[(0,.A [0]),(1,.P [0,3] []),(2,.P [0,3] []),(3,.C 22 [3]),(4,.A [2])],[],[(19,tP F),(53,gH F)]⟩
abbrev aHq(F:Md):List (FuncId×aF):=[(90,aAJ)]
theorem aQg[Mx](F:Md):bF Tryz.prog GL (aHq F):=.cons aRR xP (.nil)
attribute [go_sem] aGC aBS
theorem iC[Mx](F:Md):GOK Tryz.prog GL 52 (aBS F):=by
 refine jR (aZ (aQg F)) mix Tryz.func52 rfl xP (fun _=>Nat.le_of_ble_eq_true rfl) (aGC F) (fun N w0 d J q h hV=>?_) (.cons (fun _ _=>(tQ F)) xP (.cons (fun _ _=>(iB F)) xP (.nil)));obtain⟨(f:qo),r⟩:=d;have hF:=hV.fr;replace h:=jS (show cW F f=some r from h);simp only[vH,List.map_cons,List.map_nil,go_sem];unfold cW at h;refine aB h fun z hv h=>?_;simp only[hv,go_sem];refine aB h fun e hv h=>?_;rcases e with I|g
 ·try dsimp only at h
  simp only[hv,go_sem];refine⟨by kernel_rfl,?_⟩;refine aK h fun g0 h=>aK h fun g1 h=>aK h fun O h=>aK h fun L h=>?_;exact zar
 ·try dsimp only at h
  exact zap
def eF(F:Md)(J:qd)(g:qo):Option (qo⊕wc) :=
 (cW F g).bind (fun e=>match e with| .inl f=>(cP F (decide (f.1=J)) f.2).bind (fun e=>match e with| .inl q=>some (.inl q)| .inr I=>some (.inr I))| .inr z=>some (.inr z))
def aDK(F:Md):fH where
 D:=qd×qo×(qo⊕wc)
 av:=fun d=>[.ptr 0 [],.val .str d.1]
 hp:=fun d=>[.box 3 (.val qk d.2.1)]
 m:=1
 pre:=fun d=>eF F d.1 d.2.1=some d.2.2
 out:=fun d=>match d.2.2 with| .inl r=>.ret (.tup []) [.box 3 (.val qk (r))]| .inr p=>.pan ⟨45,wg,p⟩ [.box 3 (.junk)]
@[go_sem]def aAL(F:Md)(vs:List AV)(h:List Vc.Obj):Hit:=mkH (eF F (qT h vs 1 .str) (eK h (fL vs 0) qk)) (.inr (((0:Int),(0:Int),()),())) fun r=>⟨(aDK F),[(fL vs 0)],((qT h vs 1 .str),(eK h (fL vs 0) qk),r)⟩
def aIH(F:Md):PlR:=⟨[(0,.P [] [])],[],[(52,gI F),(53,gH F)]⟩
abbrev aTX(F:Md):List (FuncId×aF):=[]
theorem aTY[Mx](F:Md):bF Tryz.prog GL (aTX F):=.nil
attribute [go_sem] aIH aDK
theorem aDL[Mx](F:Md):GOK Tryz.prog GL 49 (aDK F):=by
 refine jR (aZ (aTY F)) mix Tryz.func49 rfl xP (fun _=>Nat.le_of_ble_eq_true rfl) (aIH F) (fun O w0 d N q h hV=>?_) (.cons (fun _ _=>(iC F)) xP (.cons (fun _ _=>(iB F)) xP (.nil)));obtain⟨(g:qd),(f:qo),r⟩:=d;have hF:=hV.fr;replace h:=jS (show eF F g f=some r from h);simp only[vH,List.map_cons,List.map_nil,go_sem];unfold eF at h;refine aB h fun e hv h=>?_;rcases e with z|J
 ·try dsimp only at h
  simp only[hv,go_sem];refine aB h fun e hv h=>?_;rcases e with I|L
  ·(try dsimp only at h);exact zaL
  ·(try dsimp only at h);exact zap
 ·try dsimp only at h
  exact zap
def cQ(F:Md)(f:qo):Option (qo⊕wc) :=
 (eJ F f).bind (fun g=>(cP F (decide (g.1=(aR ⟨#[]⟩))) g.2).bind (fun e=>match e with| .inl q=>some (.inl q)| .inr z=>some (.inr z)))
def aC7(F:Md):fH where
 D:=qo×(qo⊕wc)
 av:=fun d=>[.ptr 0 []]
 hp:=fun d=>[.box 3 (.val qk d.1)]
 m:=1
 pre:=fun d=>cQ F d.1=some d.2
 out:=fun d=>match d.2 with| .inl r=>.ret (.tup []) [.box 3 (.val qk (r))]| .inr p=>.pan ⟨45,wg,p⟩ [.box 3 (.junk)]
@[go_sem]def zI(F:Md)(vs:List AV)(h:List Vc.Obj):Hit:=mkH (cQ F (eK h (fL vs 0) qk)) (.inr (((0:Int),(0:Int),()),())) fun r=>⟨(aC7 F),[(fL vs 0)],((eK h (fL vs 0) qk),r)⟩
def aHr(F:Md):PlR:=⟨[(0,.P [] [])],[],[(19,tP F),(53,gH F)]⟩
abbrev aRT(F:Md):List (FuncId×aF):=[]
theorem aRU[Mx](F:Md):bF Tryz.prog GL (aRT F):=.nil
attribute [go_sem] aHr aC7
theorem aC8[Mx](F:Md):GOK Tryz.prog GL 54 (aC7 F):=by
 refine jR (aZ (aRU F)) mix Tryz.func54 rfl xP (fun _=>Nat.le_of_ble_eq_true rfl) (aHr F) (fun L w0 d J q h hV=>?_) (.cons (fun _ _=>(tQ F)) xP (.cons (fun _ _=>(iB F)) xP (.nil)));obtain⟨(f:qo),r⟩:=d;have hF:=hV.fr;replace h:=jS (show cQ F f=some r from h);simp only[vH,List.map_cons,List.map_nil,go_sem];unfold cQ at h;refine aB h fun I hv h=>?_;simp only[hv,go_sem];refine aB h fun e hv h=>?_;rcases e with z|g
 ·try dsimp only at h
  exact zaL
 ·try dsimp only at h
  exact zap
def iD(F:Md)(r_7:(qd×qo))(f:qo):Option ((Int×qo)⊕wc) :=
 ck ((nK F r_7.1).isSome=true) (some (.inl (((nK F r_7.1).getD ((0:Int),(),())).1,f)))
def gM(F:Md)(f:qo):Option ((Int×qo)⊕wc) :=
 (cW F f).bind (fun e=>match e with| .inl r_7=>if (r_7.1.length:Int)≤(4:Int) then ck ((iH F r_7.1 (aR ⟨#[48,49,50,51,52,53,54,55,56,57]⟩)).isSome=true) ((cP F ((decide ((r_7.1.length:Int)≤(4:Int)))&&(decide (((iH F r_7.1 (aR ⟨#[48,49,50,51,52,53,54,55,56,57]⟩)).getD ([]:List Nat))=(aR ⟨#[]⟩)))) r_7.2).bind (fun e=>match e with| .inl q=>iD F r_7 q| .inr z=>some (.inr z))) else (cP F false r_7.2).bind (fun e=>match e with| .inl g=>iD F r_7 g| .inr I=>some (.inr I))| .inr p_8=>some (.inr p_8))
def aAn(F:Md):fH where
 D:=qo×((Int×qo)⊕wc)
 av:=fun d=>[.ptr 0 []]
 hp:=fun d=>[.box 3 (.val qk d.1)]
 m:=1
 pre:=fun d=>gM F d.1=some d.2
 out:=fun d=>match d.2 with| .inl r=>.ret (.val qg r.1) [.box 3 (.val qk r.2)]| .inr p=>.pan ⟨45,wg,p⟩ [.box 3 (.junk)]
@[go_sem]def aEO(F:Md)(vs:List AV)(h:List Vc.Obj):Hit:=mkH (gM F (eK h (fL vs 0) qk)) (.inr (((0:Int),(0:Int),()),())) fun r=>⟨(aAn F),[(fL vs 0)],((eK h (fL vs 0) qk),r)⟩
def aEP(F:Md):PlR:=⟨[(0,.A [0]),(1,.P [0,3] []),(2,.P [3] []),(3,.A [4]),(4,.A [2])],[(5,6)],[(52,gI F),(53,gH F)]⟩
abbrev aA6(F:Md):List (FuncId×aF):=[(98,(uJ F)),(99,(oG F))]
theorem aMU[Mx](F:Md):bF Tryz.prog GL (aA6 F):=.cons (aJ1 F) xP (.cons (aE1 F) xP (.nil))
attribute [go_sem] aEP aAn
theorem aL6[Mx](F:Md):GOK Tryz.prog GL 50 (aAn F):=by
 refine jR (aZ (aMU F)) mix Tryz.func50 rfl xP (fun _=>Nat.le_of_ble_eq_true rfl) (aEP F) (fun Y w0 d U O h hV=>?_) (.cons (fun _ _=>(iC F)) xP (.cons (fun _ _=>(iB F)) xP (.nil)));obtain⟨(g:qo),r⟩:=d;have hF:=hV.fr;replace h:=jS (show gM F g=some r from h);simp only[vH,List.map_cons,List.map_nil,go_sem];unfold gM at h;refine aB h fun e hv h=>?_;rcases e with r_7|p_8
 ·try dsimp only at h
  simp only[hv,go_sem];refine dB hV (D:=qo) (fun d=>sat (iD F r_7 d) (fun z=>z=r)) [3] (fun d=>[]) (fun d=>[.inr (.box 3 (.val qk d))]) ?_ ?_
  ·simp only[go_sem];refine⟨fun hc=>?_,fun hc=>?_⟩
   ·replace h:=fQ zAC h;refine⟨fun _=>?_,fun J=>by first|(exfalso; omega)|(exfalso; simp_all; done)⟩;refine aK h fun g0 h=>?_;refine⟨fun _=>?_,fun J=>by first|(exfalso; omega)|(exfalso; simp_all; done)⟩;refine aB h fun e hv h=>?_;rcases e with q|L
    ·(try dsimp only at h);simp only[hv,go_sem];(repeat (refine⟨zAB,?_⟩));exact aT (q) h rfl xAb
    ·(try dsimp only at h);exact zab
   ·replace h:=fR zAC h;(first|(refine⟨fun J=>by first|(exfalso; omega)|(exfalso; simp_all; done),fun _=>?_⟩)|(with_reducible intro _)|skip);(first|(refine⟨fun J=>by first|(exfalso; omega)|(exfalso; simp_all; done),fun _=>?_⟩)|(with_reducible intro _)|skip);refine aB h fun e hv h=>?_;rcases e with I|N
    ·(try dsimp only at h);simp only[hv,go_sem];(repeat (refine⟨zAB,?_⟩));exact aT (I) h rfl xAb
    ·(try dsimp only at h);exact zab
  ·rintro f h;simp only[go_sem];replace h:sat (iD F r_7 f) _:=h;unfold iD at h;refine aK h fun g0 h=>?_;exact zar
 ·try dsimp only at h
  exact zap
def fC(F:Md)(f:qo):Option ((qd×qo)⊕wc) :=
 (cW F f).bind (fun e=>match e with| .inl r_7=>ck ((tH F r_7.1).isSome=true) ((cP F ((tH F r_7.1).getD false) r_7.2).bind (fun e=>match e with| .inl r_13=>some (.inl (r_7.1,r_13))| .inr p_14=>some (.inr p_14)))| .inr p_8=>some (.inr p_8))
def yZ(F:Md):fH where
 D:=qo×((qd×qo)⊕wc)
 av:=fun d=>[.ptr 0 []]
 hp:=fun d=>[.box 3 (.val qk d.1)]
 m:=1
 pre:=fun d=>fC F d.1=some d.2
 out:=fun d=>match d.2 with| .inl r=>.ret (.val .str r.1) [.box 3 (.val qk r.2)]| .inr p=>.pan ⟨45,wg,p⟩ [.box 3 (.junk)]
@[go_sem]def aDw(F:Md)(vs:List AV)(h:List Vc.Obj):Hit:=mkH (fC F (eK h (fL vs 0) qk)) (.inr (((0:Int),(0:Int),()),())) fun r=>⟨(yZ F),[(fL vs 0)],((eK h (fL vs 0) qk),r)⟩
def aDx(F:Md):PlR:=⟨[(0,.A [0]),(1,.P [0,3] []),(2,.P [3] []),(3,.A [2])],[],[(52,gI F),(53,gH F)]⟩
abbrev aEQ(F:Md):List (FuncId×aF):=[(100,(wZ F))]
theorem aL7[Mx](F:Md):bF Tryz.prog GL (aEQ F):=.cons (aLx F) xP (.nil)
attribute [go_sem] aDx yZ
theorem aKL[Mx](F:Md):GOK Tryz.prog GL 51 (yZ F):=by
 refine jR (aZ (aL7 F)) mix Tryz.func51 rfl xP (fun _=>Nat.le_of_ble_eq_true rfl) (aDx F) (fun z w0 d q g h hV=>?_) (.cons (fun _ _=>(iC F)) xP (.cons (fun _ _=>(iB F)) xP (.nil)));obtain⟨(f:qo),r⟩:=d;have hF:=hV.fr;replace h:=jS (show fC F f=some r from h);simp only[vH,List.map_cons,List.map_nil,go_sem];unfold fC at h;exact zaS
def gC(F:Md)(f:qo):Option ((qd×qo)⊕wc) :=
 (cW F f).bind (fun e=>match e with| .inl r_7=>ck ((cR F r_7.1).isSome=true) ((cP F ((cR F r_7.1).getD false) r_7.2).bind (fun e=>match e with| .inl r_13=>some (.inl (r_7.1,r_13))| .inr p_14=>some (.inr p_14)))| .inr p_8=>some (.inr p_8))
def mG(F:Md):fH where
 D:=qo×((qd×qo)⊕wc)
 av:=fun d=>[.ptr 0 []]
 hp:=fun d=>[.box 3 (.val qk d.1)]
 m:=1
 pre:=fun d=>gC F d.1=some d.2
 out:=fun d=>match d.2 with| .inl r=>.ret (.val .str r.1) [.box 3 (.val qk r.2)]| .inr p=>.pan ⟨45,wg,p⟩ [.box 3 (.junk)]
@[go_sem]def aGD(F:Md)(vs:List AV)(h:List Vc.Obj):Hit:=mkH (gC F (eK h (fL vs 0) qk)) (.inr (((0:Int),(0:Int),()),())) fun r=>⟨(mG F),[(fL vs 0)],((eK h (fL vs 0) qk),r)⟩
def aGE(F:Md):PlR:=⟨[(0,.A [0]),(1,.P [0,3] []),(2,.P [3] []),(3,.A [2])],[],[(52,gI F),(53,gH F)]⟩
abbrev aHs(F:Md):List (FuncId×aF):=[(70,(sJ F))]
theorem aQh[Mx](F:Md):bF Tryz.prog GL (aHs F):=.cons (aHF F) xP (.nil)
attribute [go_sem] aGE mG
theorem tR[Mx](F:Md):GOK Tryz.prog GL 57 (mG F):=by
 refine jR (aZ (aQh F)) mix Tryz.func57 rfl xP (fun _=>Nat.le_of_ble_eq_true rfl) (aGE F) (fun z w0 d q g h hV=>?_) (.cons (fun _ _=>(iC F)) xP (.cons (fun _ _=>(iB F)) xP (.nil)));obtain⟨(f:qo),r⟩:=d;have hF:=hV.fr;replace h:=jS (show gC F f=some r from h);simp only[vH,List.map_cons,List.map_nil,go_sem];unfold gC at h;exact zaS
def gD(F:Md)(q:qo):Option ((qn×qo)⊕wc) :=
 (cW F q).bind (fun e=>match e with| .inl r_7=>ck ((lU F r_7.1).isSome=true) ((cP F ((lU F r_7.1).getD false) r_7.2).bind (fun e=>match e with| .inl r_13=>(eJ F r_13).bind (fun f=>ck ((lU F f.1).isSome=true) (if ((lU F f.1).getD false)=true then (cW F f.2).bind (fun e=>match e with| .inl g=>some (.inl ((r_7.1,g.1,()),g.2))| .inr z=>some (.inr z)) else some (.inl ((r_7.1,([]:List Nat),()),f.2))))| .inr p_14=>some (.inr p_14)))| .inr p_8=>some (.inr p_8))
def aBT(F:Md):fH where
 D:=qo×((qn×qo)⊕wc)
 av:=fun d=>[.ptr 0 []]
 hp:=fun d=>[.box 3 (.val qk d.1)]
 m:=1
 pre:=fun d=>gD F d.1=some d.2
 out:=fun d=>match d.2 with| .inl r=>.ret (.val qj r.1) [.box 3 (.val qk r.2)]| .inr p=>.pan ⟨45,wg,p⟩ [.box 3 (.junk)]
@[go_sem]def aGF(F:Md)(vs:List AV)(h:List Vc.Obj):Hit:=mkH (gD F (eK h (fL vs 0) qk)) (.inr (((0:Int),(0:Int),()),())) fun r=>⟨(aBT F),[(fL vs 0)],((eK h (fL vs 0) qk),r)⟩
def aGG(F:Md):PlR:=⟨[(0,.B [0,2]),(1,.B [0,2,3]),(2,.P [0,2,3] []),(3,.P [0,2,3] []),(4,.P [0,2,3,4] []),(5,.A [0,2,3,16]),(6,.P [2,3] []),(7,.B [2])],[],[(19,tP F),(52,gI F),(53,gH F)]⟩
abbrev aHt(F:Md):List (FuncId×aF):=[(140,(aBE F))]
theorem aQi[Mx](F:Md):bF Tryz.prog GL (aHt F):=.cons (aTW F) xP (.nil)
attribute [go_sem] aGG aBT
theorem aOy[Mx](F:Md):GOK Tryz.prog GL 101 (aBT F):=by
 refine jR (aZ (aQi F)) mix Tryz.func101 rfl xP (fun _=>Nat.le_of_ble_eq_true rfl) (aGG F) (fun L w0 d J I h hV=>?_) (.cons (fun _ _=>(tQ F)) xP (.cons (fun _ _=>(iC F)) xP (.cons (fun _ _=>(iB F)) xP (.nil))));obtain⟨(f:qo),r⟩:=d;have hF:=hV.fr;replace h:=jS (show gD F f=some r from h);simp only[vH,List.map_cons,List.map_nil,go_sem];unfold gD at h;refine aB h fun e hv h=>?_;rcases e with r_7|p_8
 ·try dsimp only at h
  simp only[hv,go_sem];refine aK h fun g0 h=>?_;refine aB h fun e hv h=>?_;rcases e with r_13|p_14
  ·(try dsimp only at h);simp only[hv,go_sem];refine aB h fun g hv h=>?_;simp only[hv,go_sem];refine aK h fun g0 h=>?_;refine aH6 h (fun hc h=>?_) fun hc h=>?_
   ·refine aB h fun e hv h=>?_;rcases e with q|z
    ·(try dsimp only at h);simp only[hv,go_sem];obtain rfl:=aP h;refine lN hF [.cell 2 72] [0] rfl rfl rfl rfl rfl rfl rfl rfl rfl ?_;exact zaC
    ·(try dsimp only at h);exact zaN
   ·obtain rfl:=aP h;refine lN hF [.cell 2 72] [0] rfl rfl rfl rfl rfl rfl rfl rfl rfl ?_;exact zaC
  ·(try dsimp only at h);exact zaN
 ·try dsimp only at h
  exact zaN
def lF(F:Md)(f:qo):Option ((Ex×qo)⊕wc) :=
 ck (0≤f.2.1∧f.2.1≤(f.2.2.1.length:Int)) (ck ((cI F (List.drop (f.2.1.toNat) f.2.2.1) (aR ⟨#[32]⟩)).isSome=true) (ck (I64 ((f.2.2.1.length:Int)-((((cI F (List.drop (f.2.1.toNat) f.2.2.1) (aR ⟨#[32]⟩)).getD ([]:List Nat)).length:Nat):Int))) (ck ((kP F ((cI F (List.drop (f.2.1.toNat) f.2.2.1) (aR ⟨#[32]⟩)).getD ([]:List Nat))).isSome=true) (if ¬(((kP F ((cI F (List.drop (f.2.1.toNat) f.2.2.1) (aR ⟨#[32]⟩)).getD ([]:List Nat))).getD ((Ex.mk 0 [] []),(0:Int),(0:Int),())).2.2.1=(0:Int)) then ck (I64 (((f.2.2.1.length:Int)-((((cI F (List.drop (f.2.1.toNat) f.2.2.1) (aR ⟨#[32]⟩)).getD ([]:List Nat)).length:Nat):Int))+((kP F ((cI F (List.drop (f.2.1.toNat) f.2.2.1) (aR ⟨#[32]⟩)).getD ([]:List Nat))).getD ((Ex.mk 0 [] []),(0:Int),(0:Int),())).2.1)) (ck (I64 ((((f.2.2.1.length:Int)-((((cI F (List.drop (f.2.1.toNat) f.2.2.1) (aR ⟨#[32]⟩)).getD ([]:List Nat)).length:Nat):Int))+((kP F ((cI F (List.drop (f.2.1.toNat) f.2.2.1) (aR ⟨#[32]⟩)).getD ([]:List Nat))).getD ((Ex.mk 0 [] []),(0:Int),(0:Int),())).2.1)+(1:Int))) (some (.inr ((f.1,((((f.2.2.1.length:Int)-((((cI F (List.drop (f.2.1.toNat) f.2.2.1) (aR ⟨#[32]⟩)).getD ([]:List Nat)).length:Nat):Int))+((kP F ((cI F (List.drop (f.2.1.toNat) f.2.2.1) (aR ⟨#[32]⟩)).getD ([]:List Nat))).getD ((Ex.mk 0 [] []),(0:Int),(0:Int),())).2.1)+(1:Int)),()),())))) else some (.inl (((kP F ((cI F (List.drop (f.2.1.toNat) f.2.2.1) (aR ⟨#[32]⟩)).getD ([]:List Nat))).getD ((Ex.mk 0 [] []),(0:Int),(0:Int),())).1,f.1,(f.2.2.1.length:Int),f.2.2.1,()))))))
def aBU(F:Md):fH where
 D:=qo×((Ex×qo)⊕wc)
 av:=fun d=>[.ptr 0 []]
 hp:=fun d=>[.box 3 (.val qk d.1)]
 m:=1
 pre:=fun d=>lF F d.1=some d.2
 out:=fun d=>match d.2 with| .inl r=>.ret (.val .expr r.1) [.box 3 (.val qk r.2)]| .inr p=>.pan ⟨45,wg,p⟩ [.box 3 (.junk)]
@[go_sem]def aGH(F:Md)(vs:List AV)(h:List Vc.Obj):Hit:=mkH (lF F (eK h (fL vs 0) qk)) (.inr (((0:Int),(0:Int),()),())) fun r=>⟨(aBU F),[(fL vs 0)],((eK h (fL vs 0) qk),r)⟩
def aGI:PlR:=⟨[(0,.B [0,2]),(1,.A [0,2,3]),(2,.A [0,2,3,4]),(3,.B [0,2,4,5,6,7]),(4,.A [0,2,4,5,6,33]),(5,.P [0,2,5] []),(6,.B [2,5]),(7,.B [2])],[],[]⟩
abbrev aC9(F:Md):List (FuncId×aF):=[(13,(aD7 F)),(48,(oC F))]
theorem aQj[Mx](F:Md):bF Tryz.prog GL (aC9 F):=.cons (aXz F) xP (.cons (aFl F) xP (.nil))
attribute [go_sem] aGI aBU
theorem aOz[Mx](F:Md):GOK Tryz.prog GL 102 (aBU F):=by
 refine jR (aZ (aQj F)) mix Tryz.func102 rfl xP (fun _=>Nat.le_of_ble_eq_true rfl) aGI (fun z w0 d q g h hV=>?_);obtain⟨(f:qo),r⟩:=d;have hF:=hV.fr;replace h:=jS (show lF F f=some r from h);simp only[vH,List.map_cons,List.map_nil,go_sem];unfold lF at h;refine aK h fun g0 h=>aK h fun g1 h=>?_;refine aK h fun g0 h=>?_;refine aK h fun g0 h=>?_;refine cE h (fun hc h=>?_) fun hc h=>?_
 ·refine aK h fun g0 h=>?_;refine aK h fun g0 h=>?_;obtain rfl:=aP h;refine bS [0] rfl rfl (yaB ?_);exact zaH
 ·obtain rfl:=aP h;refine lN hF [.cell 2 40] [0] rfl rfl rfl rfl rfl rfl rfl rfl rfl ?_;exact zaC
def lG(F:Md)(g:qo):Option ((qn×qo)⊕wc) :=
 (cW F g).bind (fun e=>match e with| .inl r_7=>ck (aXA r_7.1 (aR ⟨#[46]⟩)) (if (aA5 r_7.1 (aR ⟨#[46]⟩)).2.2.1=true then ck ((cR F (aA5 r_7.1 (aR ⟨#[46]⟩)).1).isSome=true) (if ((aA5 r_7.1 (aR ⟨#[46]⟩)).2.2.1=true)∧(((cR F (aA5 r_7.1 (aR ⟨#[46]⟩)).1).getD false)=true) then ck ((cR F (aA5 r_7.1 (aR ⟨#[46]⟩)).2.1).isSome=true) ((cP F (((aA5 r_7.1 (aR ⟨#[46]⟩)).2.2.1&&((cR F (aA5 r_7.1 (aR ⟨#[46]⟩)).1).getD false))&&((cR F (aA5 r_7.1 (aR ⟨#[46]⟩)).2.1).getD false)) r_7.2).bind (fun e=>match e with| .inl f=>some (.inl (((aA5 r_7.1 (aR ⟨#[46]⟩)).1,(aA5 r_7.1 (aR ⟨#[46]⟩)).2.1,()),f))| .inr J=>some (.inr J))) else (cP F false r_7.2).bind (fun e=>match e with| .inl z=>some (.inl (((aA5 r_7.1 (aR ⟨#[46]⟩)).1,(aA5 r_7.1 (aR ⟨#[46]⟩)).2.1,()),z))| .inr L=>some (.inr L))) else (cP F false r_7.2).bind (fun e=>match e with| .inl q=>some (.inl (((aA5 r_7.1 (aR ⟨#[46]⟩)).1,(aA5 r_7.1 (aR ⟨#[46]⟩)).2.1,()),q))| .inr I=>some (.inr I)))| .inr p_8=>some (.inr p_8))
def aBV(F:Md):fH where
 D:=qo×((qn×qo)⊕wc)
 av:=fun d=>[.ptr 0 []]
 hp:=fun d=>[.box 3 (.val qk d.1)]
 m:=1
 pre:=fun d=>lG F d.1=some d.2
 out:=fun d=>match d.2 with| .inl r=>.ret (.tup [.val .str r.1.1,.val .str r.1.2.1]) [.box 3 (.val qk r.2)]| .inr p=>.pan ⟨45,wg,p⟩ [.box 3 (.junk)]
@[go_sem]def aGJ(F:Md)(vs:List AV)(h:List Vc.Obj):Hit:=mkH (lG F (eK h (fL vs 0) qk)) (.inr (((0:Int),(0:Int),()),())) fun r=>⟨(aBV F),[(fL vs 0)],((eK h (fL vs 0) qk),r)⟩
def aGK(F:Md):PlR:=⟨[(0,.A [0]),(1,.P [0,4,5,6] []),(2,.P [4,5] []),(3,.A [2,3])],[],[(52,gI F),(53,gH F)]⟩
abbrev aDa(F:Md):List (FuncId×aF):=[(17,qE),(70,(sJ F))]
theorem aQk[Mx](F:Md):bF Tryz.prog GL (aDa F):=.cons aGv xP (.cons (aHF F) xP (.nil))
attribute [go_sem] aGK aBV
theorem aOA[Mx](F:Md):GOK Tryz.prog GL 55 (aBV F):=by
 refine jR (aZ (aQk F)) mix Tryz.func55 rfl xP (fun _=>Nat.le_of_ble_eq_true rfl) (aGK F) (fun Y w0 d U O h hV=>?_) (.cons (fun _ _=>(iC F)) xP (.cons (fun _ _=>(iB F)) xP (.nil)));obtain⟨(f:qo),r⟩:=d;have hF:=hV.fr;replace h:=jS (show lG F f=some r from h);simp only[vH,List.map_cons,List.map_nil,go_sem];unfold lG at h;refine aB h fun e hv h=>?_;rcases e with r_7|p_8
 ·try dsimp only at h
  simp only[hv,go_sem];repeat (refine⟨zAB,?_⟩)
  refine aK h fun g0 h=>?_;refine⟨fun hc=>?_,fun hc=>?_⟩
  ·replace h:=fQ zAC h;refine⟨fun _=>?_,fun g=>by first|(exfalso; omega)|(exfalso; simp_all; done)⟩;refine aK h fun g0 h=>?_;refine⟨fun hc=>?_,fun hc=>?_⟩
   ·replace h:=fQ zAC h;refine⟨fun _=>?_,fun g=>by first|(exfalso; omega)|(exfalso; simp_all; done)⟩;refine aK h fun g0 h=>?_;refine aB h fun e hv h=>?_;rcases e with q|L
    ·(try dsimp only at h);exact zal
    ·(try dsimp only at h);exact zab
   ·replace h:=fR zAC h;(first|(refine⟨fun g=>by first|(exfalso; omega)|(exfalso; simp_all; done),fun _=>?_⟩)|(with_reducible intro _)|skip);refine aB h fun e hv h=>?_;rcases e with J|N
    ·(try dsimp only at h);exact zal
    ·(try dsimp only at h);exact zab
  ·replace h:=fR zAC h;(first|(refine⟨fun g=>by first|(exfalso; omega)|(exfalso; simp_all; done),fun _=>?_⟩)|(with_reducible intro _)|skip);(first|(refine⟨fun g=>by first|(exfalso; omega)|(exfalso; simp_all; done),fun _=>?_⟩)|(with_reducible intro _)|skip);(first|(refine⟨fun g=>by first|(exfalso; omega)|(exfalso; simp_all; done),fun _=>?_⟩)|(with_reducible intro _)|skip);refine aB h fun e hv h=>?_;rcases e with z|I
   ·(try dsimp only at h);exact zal
   ·(try dsimp only at h);exact zab
 ·try dsimp only at h
  exact zab
end
end Nu
end Go.Proofs

