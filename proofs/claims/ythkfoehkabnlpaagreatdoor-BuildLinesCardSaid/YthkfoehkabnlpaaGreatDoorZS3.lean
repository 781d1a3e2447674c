import Derived.Test.YthkfoehkabnlpaaGreatDoorZS2
import Derived.Test.YthkfoehkabnlpaaGreatDoorZL9
import Derived.Test.YthkfoehkabnlpaaGreatDoorProg
import Derived.KernelRfl
import Derived.Test.YthkfoehkabnlpaaGreatDoorZS1
set_option linter.unusedVariables false
set_option linter.unusedSimpArgs false
namespace Go.Proofs
open Go.Vc
set_option maxRecDepth 20000
namespace Nu
noncomputable section
set_option maxHeartbeats 4000000
attribute [-go_sem] Ex.kind Ex.text Ex.l
def cU(F:Md)(slices_0:(List qk))(I:Int)(newslice_14:qk):Option ((Int×qk)⊕qk) :=
 if I<(slices_0.length:Int) then ck (0≤I∧I<(slices_0.length:Int)) (ck (((newslice_14.length)+(slices_0.getD (I.toNat) ([]:List qd)).length)*16≤140737488355328) (ck (I64 (I+(1:Int))) (some (.inl ((I+(1:Int)),(newslice_14++(slices_0.getD (I.toNat) ([]:List qd)))))))) else some (.inr newslice_14)
def eB(F:Md)(slices_0:(List qk))(I:Int):Option qk :=
 (eV F I).bind (fun J=>(dC F (fun d:Int×qk=>cU F slices_0 d.1 d.2) ((0:Int),J)).bind (fun e=>some e))
def eC(F:Md)(slices_0:(List qk))(J:Int)(I:Int):Option (qv⊕(Int)) :=
 if I<(slices_0.length:Int) then ck (0≤I∧I<(slices_0.length:Int)) (ck (I64 (J+(((slices_0.getD (I.toNat) ([]:List qd)).length:Nat):Int))) (if (J+(((slices_0.getD (I.toNat) ([]:List qd)).length:Nat):Int))<(0:Int) then none else ck (I64 (I+(1:Int))) (some (.inl ((J+(((slices_0.getD (I.toNat) ([]:List qd)).length:Nat):Int)),(I+(1:Int))))))) else some (.inr J)
def cI(F:Md)(slices_0:(List qk)):Option qk :=
 (dC F (fun d:Int×Int=>eC F slices_0 d.1 d.2) ((0:Int),(0:Int))).bind (fun e=>eB F slices_0 e)
def pY(F:Md):PlR:=⟨[(0,.A [0]),(1,.A [0,3]),(2,.A [0,3,9,10,11]),(3,.A [0,3,9,10,11,12]),(4,.A [0,3,5,9,10,11]),(5,.A [0,3,9,10,11]),(6,.A [0,3,9,10,11,20]),(7,.P [0,3,9,10,11] []),(8,.A [0,3,9,10,11]),(9,.P [0,6] []),(10,.A [6,25,26,27]),(11,.A [6,25,26,27,28]),(12,.A [6,8,25,26,27]),(13,.B [6,25,26,27]),(14,.A [6,25,26,27]),(15,.A [2])],[(5,12)],[(30,sB F)]⟩
def rN:Ty:=.pair (.sl qo) .unit
def gQ(F:Md):aF:=mSpec rN (.one qo) (fun x=>cI F x.1)
abbrev aAL(F:Md):List (FuncId×aF):=[]
theorem aAM(F:Md):bU Tryz.prog GL (aAL F):=.nil
attribute [go_sem] rN pY
theorem zH(F:Md):FOK Tryz.prog GL 15 (gQ F):=by
 refine cF (bQ (aAM F)) mix Tryz.func15 rfl xC xAa (pY F) (fun w0 S x Θ hw h hV=>?_) (.cons (fun _ _=>(aBb F)) xC (.nil));obtain⟨(slices_0:(List qk)),u⟩:=x;simp only[cC,go_sem];replace h:sat (cI F slices_0) _:=h;unfold cI at h;refine cD hV (D:=Int) (fun d=>sat (eB F slices_0 d) Θ) [0] (fun d=>[(3,.val qf d)]) (fun d=>[]) ?_ ?_
 ·simp only[go_sem];refine bZ hV (D:=Int×Int) [0,9,10] (fun d=>[(3,.val qf d.1),(11,.val qf d.2)]) (fun d=>[]) h rfl xAb ?_;rintro⟨I,N⟩ A3 T3 hA3 hE3 h;simp only[go_sem];replace h:sat (eC F slices_0 I N) _:=h;unfold eC at h;refine gF h (fun hc h=>?_) fun hc h=>?_
  ·refine aZ h fun g0 h=>?_;refine aZ h fun g0 h=>?_;refine gF h (fun hc h=>?_) fun hc h=>?_
   ·exact yQ h
   ·refine aZ h fun g0 h=>?_;replace h:=hA3 _ (aC h);exact zaG
  ·replace h:=yaF (hE3 _ (aC h));exact aR (I) h rfl xAb
 ·rintro U h;simp only[go_sem];replace h:sat (eB F slices_0 U) _:=h;unfold eB at h;refine aW h fun r_8 hv h=>?_;simp only[hv,go_sem];refine bZ hV (D:=Int×qk) [25,26] (fun d=>[(6,.own 0),(27,.val qf d.1)]) (fun d=>[.inr (.row 9 .str d.2)]) h rfl xAb ?_;rintro⟨J,newslice_14⟩ A11 T11 Y hE11 h;simp only[go_sem];replace h:sat (cU F slices_0 J newslice_14) _:=h;unfold cU at h;refine gF h (fun hc h=>?_) fun hc h=>?_
  ·refine aD h fun g0 h=>(yaB ?_);refine aD h fun g0 h=>(yaB ?_);refine aZ h fun g0 h=>?_;replace h:=Y _ (aC h);refine nU [1] rfl rfl (yaA ?_);exact zaG
  ·replace h:=yaF (hE11 _ (aC h));exact zaD
attribute [go_sem] gQ
def iB(F:Md)(I:Ex)(names_1:qk):Option Bool :=
 (pW F I).bind (fun J=>ck ((J=true)→((lH F 64 I names_1).isSome=true)) (some (J&&((lH F 64 I names_1).getD false))))
def zI:PlR:=⟨[(0,.B [1,2]),(1,.A [4])],[],[]⟩
def aA2:Ty:=.pair .expr (.pair qo .unit)
def nO(F:Md):aF:=mSpec aA2 (.one .bool) (fun x=>iB F x.1 x.2.1)
abbrev uJ(F:Md):List (FuncId×aF):=[(28,(vK F)),(29,(tE F 64))]
theorem aHw(F:Md):bU Tryz.prog GL (uJ F):=.cons (aNm F) xC (.cons (aCX F 64) xC (.nil))
attribute [go_sem] aA2 zI
theorem aF0(F:Md):FOK Tryz.prog GL 14 (nO F):=by
 refine cF (bQ (aHw F)) mix Tryz.func14 rfl xC xAa zI (fun w0 S x Θ N h hV=>?_);obtain⟨(I:Ex),(names_1:qk),u⟩:=x;simp only[cC,go_sem];replace h:sat (iB F I names_1) _:=h;unfold iB at h;refine aW h fun J hv h=>?_;try simp only[hv,go_sem]
 refine aZ h fun g0 h=>?_;exact zaB
attribute [go_sem] nO
def kU(F:Md)(Y:qk)(U:qk)(N:qk)(s_0:qd)(I:Int):Option ((Int)⊕((Unit)⊕qc)) :=
 if I<(3:Int) then ck (0≤I∧I<(3:Int)) ((dH F (([Y,U,N]:List qk).getD (I.toNat) ([]:List qd)) s_0).bind (fun J=>if (0:Int)≤J then ck (0≤I∧I<(3:Int)) (some (.inr (.inr ((([3,5,4]:List Int).getD (I.toNat) (0:Int)),J,(0:Int),((false,([]:List Nat),(0:Int),()),(false,([]:List Nat),(0:Int),()),()),())))) else ck (I64 (I+(1:Int))) (some (.inl (I+(1:Int)))))) else some (.inr (.inl ()))
def fD(F:Md)(I:qd)(J:qk)(U:qk)(N:qk):Option qc :=
 if I=(eI ⟨#[116]⟩) then some ((2:Int),(0:Int),(0:Int),((false,([]:List Nat),(0:Int),()),(false,([]:List Nat),(0:Int),()),()),()) else (dC F (fun d:Int=>kU F J N U I d) (0:Int)).bind (fun e=>match e with|(.inl e)=>some ((2:Int),(0:Int),(0:Int),((false,([]:List Nat),(0:Int),()),(false,([]:List Nat),(0:Int),()),()),())|(.inr e)=>some e)
def aBZ:PlR:=⟨[(0,.B [0,1,2,3,8]),(1,.A [0,1,2,3,8,13]),(2,.B [8]),(3,.A [0,8,18,19,20]),(4,.A [0,8,18,19,20,21]),(5,.A [0,8,9,10,18,19,20]),(6,.A [0,8,9,11,18,19,20]),(7,.A [0,8,9,11,18,19,20,29]),(8,.B [8]),(9,.A [0,8,18,19,20]),(10,.B [8])],[],[]⟩
def aC0:Ty:=.pair .str (.pair qo (.pair qo (.pair qo .unit)))
def rO(F:Md):aF:=mSpec aC0 (.one qe) (fun x=>fD F x.1 x.2.1 x.2.2.1 x.2.2.2.1)
abbrev aC1(F:Md):List (FuncId×aF):=[(34,(dY F))]
theorem aKJ(F:Md):bU Tryz.prog GL (aC1 F):=.cons (rI F) xC (.nil)
attribute [go_sem] aC0 aBZ
theorem aJV(F:Md):FOK Tryz.prog GL 18 (rO F):=by
 refine cF (bQ (aKJ F)) mix Tryz.func18 rfl xC xAa aBZ (fun w0 S x Θ hw h hV=>?_);obtain⟨(s_0:qd),(U:qk),(J:qk),(N:qk),u⟩:=x;simp only[cC,go_sem];replace h:sat (fD F s_0 U J N) _:=h;unfold fD at h;refine cY h (fun hc h=>?_) fun hc h=>?_
 ·exact aQ hV [.cell 8 44] rfl rfl rfl (aC h) xAd
 ·refine bZ hV (D:=Int) [0,19] (fun d=>[(8,.ptr 0 []),(18,.val (.sl qo) ([U,N,J]:List qk)),(20,.val qf d)]) (fun d=>[.inr (.box 9 (.val qe ((0:Int),(0:Int),(0:Int),((false,([]:List Nat),(0:Int),()),(false,([]:List Nat),(0:Int),()),()),())))]) h rfl xAb ?_;rintro I A4 T4 hA4 Y h;simp only[go_sem];replace h:sat (kU F U N J s_0 I) _:=h;unfold kU at h;refine gF h (fun hc h=>?_) fun hc h=>?_
  ·refine aZ h fun g0 h=>?_;refine aW h fun v_22 hv h=>?_;(try simp only[hv,go_sem]);refine aL0 h (fun hc h=>?_) fun hc h=>?_
   ·refine aZ h fun g0 h=>?_;replace h:=yaF (Y _ (aC h));exact aQ hV [.cell 8 44] rfl rfl rfl (aC h) xAd
   ·refine aZ h fun g0 h=>?_;replace h:=hA4 _ (aC h);exact zaG
  ·replace h:=yaF (Y _ (aC h));exact aQ hV [.cell 8 44] rfl rfl rfl (aC h) xAd
attribute [go_sem] rO
@[go_sem]def nP(g:Ex→Int→qk→qk→qk→qm→Option qg):iJ where
 D:=Ex×Int×qk×qk×qk×qm×qg
 av:=fun d=>[.val .expr d.1,.ptr 0 [],.ptr 1 [],.ptr 2 [],.ptr 3 [],.ptr 4 [],.ptr 5 []]
 hp:=fun d=>[.box 1 (.fn 16 [] [0,1,2,3,4,5]),.box 1 (.val qf d.2.1),.box 1 (.val qo d.2.2.1),.box 1 (.val qo d.2.2.2.1),.box 1 (.val qo d.2.2.2.2.1),.box 2 (.agg [.own 6,.own 7]),.row 44 qe d.2.2.2.2.2.1.1,.row 3 qf d.2.2.2.2.2.1.2.1]
 m:=6
 pre:=fun d=>g d.1 d.2.1 d.2.2.1 d.2.2.2.1 d.2.2.2.2.1 d.2.2.2.2.2.1=some d.2.2.2.2.2.2
 out:=fun d=>(fun r:qg=>.ret (.val qf r.1) [.box 1 (.fn 16 [] [0,1,2,3,4,5]),.box 1 (.val qf r.2.1),.box 1 (.val qo r.2.2.1),.box 1 (.val qo r.2.2.2.1),.box 1 (.val qo r.2.2.2.2.1),.box 2 (.agg [.own 6,.own 7]),.row 44 qe r.2.2.2.2.2.1,.row 3 qf r.2.2.2.2.2.2.1]) d.2.2.2.2.2.2
def dG(F:Md)(g:Ex→Int→qk→qk→qk→qm→Option qg)(I:(List qc))(U:Int)(N:qk)(x4_36:qk)(Y:qk)(x_39:q9)(J:qc):Option qg :=
 ck (((I.length)+(1:Nat))*217≤140737488355328) (ck (I64 ((((I++([J]:List qc)).length:Nat):Int)-(1:Int))) (some (((((I++([J]:List qc)).length:Nat):Int)-(1:Int)),U,N,x4_36,Y,(I++([J]:List qc)),x_39,())))
def eF(F:Md)(g:Ex→Int→qk→qk→qk→qm→Option qg)(Y:Ex)(J:Int)(I:qk)(U:qk)(N:qk)(x_38:(List qc))(x_39:q9)(parts_40:q9):Option qg :=
 if (Y.kind)=(1:Int) then ck ((lU F (Y.text) J).isSome=true) (dG F g x_38 J I U N x_39 ((1:Int),(0:Int),(0:Int),((lU F (Y.text) J).getD (((false,([]:List Nat),(0:Int),()),(false,([]:List Nat),(0:Int),()),()),(0:Int),())).1,())) else if (Y.kind)=(2:Int) then ck ((fD F (Y.text) I U N).isSome=true) (dG F g x_38 J I U N x_39 ((fD F (Y.text) I U N).getD ((0:Int),(0:Int),(0:Int),((false,([]:List Nat),(0:Int),()),(false,([]:List Nat),(0:Int),()),()),()))) else if (1:Int)<(parts_40.length:Int) then ck ((1:Int)<(parts_40.length:Int)) (ck ((0:Int)<(parts_40.length:Int)) (dG F g x_38 J I U N x_39 ((Y.kind),(parts_40.getD (0:Nat) (0:Int)),(parts_40.getD (1:Nat) (0:Int)),((false,([]:List Nat),(0:Int),()),(false,([]:List Nat),(0:Int),()),()),()))) else ck ((0:Int)<(parts_40.length:Int)) (dG F g x_38 J I U N x_39 ((Y.kind),(parts_40.getD (0:Nat) (0:Int)),(0:Int),((false,([]:List Nat),(0:Int),()),(false,([]:List Nat),(0:Int),()),()),()))
def bK(F:Md)(g:Ex→Int→qk→qk→qk→qm→Option qg)(e_0:Ex)(I:Int)(x2_45:Int)(Y:qk)(U:qk)(N:qk)(x_49:(List qc))(x_50:q9)(parts_51:q9):Option ((Int×Int×qk×qk×qk×(List qc)×q9×q9)⊕(Int×qk×qk×qk×(List qc)×q9×q9)) :=
 if I<(((e_0.l).length:Nat):Int) then ck (0≤I∧I<(((e_0.l).length:Nat):Int)) ((g ((e_0.l).getD (I.toNat) (Ex.mk 0 [] [])) x2_45 Y U N (x_49,x_50,())).bind (fun J=>ck (((parts_51.length)+(1:Nat))*8≤140737488355328) (ck (I64 (I+(1:Int))) (some (.inl ((I+(1:Int)),J.2.1,J.2.2.1,J.2.2.2.1,J.2.2.2.2.1,J.2.2.2.2.2.1,J.2.2.2.2.2.2.1,(parts_51++([J.1]:List Int)))))))) else some (.inr (x2_45,Y,U,N,x_49,x_50,parts_51))
def cV(F:Md)(g:Ex→Int→qk→qk→qk→qm→Option qg)(Y:Ex)(o1_8:Int)(U:qk)(J:qk)(N:qk)(I:qm):Option qg :=
 (dC F (fun d:Int×Int×qk×qk×qk×(List qc)×q9×q9=>bK F g Y d.1 d.2.1 d.2.2.1 d.2.2.2.1 d.2.2.2.2.1 d.2.2.2.2.2.1 d.2.2.2.2.2.2.1 d.2.2.2.2.2.2.2) ((0:Int),o1_8,U,J,N,I.1,I.2.1,([]:List Int))).bind (fun e=>eF F g Y e.1 e.2.1 e.2.2.1 e.2.2.2.1 e.2.2.2.2.1 e.2.2.2.2.2.1 e.2.2.2.2.2.2)
def zJ(F:Md)(g:Ex→Int→qk→qk→qk→qm→Option qg):iJ where
 D:=Ex×Int×qk×qk×qk×qm×qg
 av:=fun d=>[.val .expr d.1,.ptr 0 [],.ptr 1 [],.ptr 2 [],.ptr 3 [],.ptr 4 [],.ptr 5 []]
 hp:=fun d=>[.box 1 (.fn 16 [] [0,1,2,3,4,5]),.box 1 (.val qf d.2.1),.box 1 (.val qo d.2.2.1),.box 1 (.val qo d.2.2.2.1),.box 1 (.val qo d.2.2.2.2.1),.box 2 (.agg [.own 6,.own 7]),.row 44 qe d.2.2.2.2.2.1.1,.row 3 qf d.2.2.2.2.2.1.2.1]
 m:=6
 pre:=fun d=>cV F g d.1 d.2.1 d.2.2.1 d.2.2.2.1 d.2.2.2.2.1 d.2.2.2.2.2.1=some d.2.2.2.2.2.2
 out:=fun d=>(fun r:qg=>.ret (.val qf r.1) [.box 1 (.fn 16 [] [0,1,2,3,4,5]),.box 1 (.val qf r.2.1),.box 1 (.val qo r.2.2.1),.box 1 (.val qo r.2.2.2.1),.box 1 (.val qo r.2.2.2.2.1),.box 2 (.agg [.own 6,.own 7]),.row 44 qe r.2.2.2.2.2.1,.row 3 qf r.2.2.2.2.2.2.1]) d.2.2.2.2.2.2
abbrev rP(F:Md)(g:Ex→Int→qk→qk→qk→qm→Option qg):List (FuncId×aF):=[(17,(aAK F)),(18,(rO F))]
theorem aB0(F:Md)(g:Ex→Int→qk→qk→qk→qm→Option qg)(I:GOK Tryz.prog GL 16 (nP g)):bU Tryz.prog GL (rP F g):=.cons (aQ2 F) xC (.cons (aJV F) xC (.nil))
theorem aF2(F:Md)(g:Ex→Int→qk→qk→qk→qm→Option qg)(hg:GOK Tryz.prog GL 16 (nP g)):GOK Tryz.prog GL 16 (zJ F g):=by
 refine aOh (aSu (aB0 F g hg)) Tryz.func16 rfl xC (fun _=>Nat.le_of_ble_eq_true rfl) fun c0 w0 d hw1 hw2 h hn=>?_;have hF:oY ⟨Tryz.prog,EX (rP F g),GM (zJ F g) c0 d,w0,Tryz.f16.ntmps,[]⟩:=⟨aSu (aB0 F g hg),mix⟩;obtain⟨(I:Ex),(o1_8:Int),(o2_9:qk),(o3_10:qk),(o4_11:qk),(Y:qm),r⟩:=d;replace h:cV F g I o1_8 o2_9 o3_10 o4_11 Y=some r:=h;have hw1:AV.wfL [.val .expr I,.ptr 0 [],.ptr 1 [],.ptr 2 [],.ptr 3 [],.ptr 4 [],.ptr 5 []]:=hw1;simp only[AV.wfL,AV.wfV,Ty.wf,aDd] at hw1;show Tri _ _ _ [(0,.val .expr I),(1,.ptr 0 []),(2,.ptr 1 []),(3,.ptr 2 []),(4,.ptr 3 []),(5,.ptr 4 []),(6,.ptr 5 [])] [.box 1 (.fn 16 [] [0,1,2,3,4,5]),.box 1 (.val qf o1_8),.box 1 (.val qo o2_9),.box 1 (.val qo o3_10),.box 1 (.val qo o4_11),.box 2 (.agg [.own 6,.own 7]),.row 44 qe Y.1,.row 3 qf Y.2.1];unfold cV at h;refine aK (bT hF [1,2,3,4,5,6,7] (yaD ?_));refine aL (aK (bT hF [1,2,3,4,5,6,7,9] (yaD ?_)));refine aL (aK (aP hF [1,2,3,4,5,6,7,9,10] (yaD ?_)));refine aL (vW (D:=Int×qk×qk×qk×(List qc)×q9×q9) (fun d=>eF F g I d.1 d.2.1 d.2.2.1 d.2.2.2.1 d.2.2.2.2.1 d.2.2.2.2.2.1 d.2.2.2.2.2.2=some r) [] (fun d=>[(2,.ptr 1 []),(3,.ptr 2 []),(4,.ptr 3 []),(5,.ptr 4 []),(6,.ptr 5 []),(7,.ptr 8 []),(9,.ptr 9 []),(10,.own 10)]) (fun d=>[.inr (.box 1 (.fn 16 [] [0,1,2,3,4,5])),.inr (.box 1 (.val qf d.1)),.inr (.box 1 (.val qo d.2.1)),.inr (.box 1 (.val qo d.2.2.1)),.inr (.box 1 (.val qo d.2.2.2.1)),.inr (.box 2 (.agg [.own 6,.own 7])),.inr (.row 44 qe d.2.2.2.2.1),.inr (.row 3 qf d.2.2.2.2.2.1),.inr (.box 3 (.val .expr I)),.inr (.box 9 (.val qe ((I.kind),(0:Int),(0:Int),((false,([]:List Nat),(0:Int),()),(false,([]:List Nat),(0:Int),()),()),()))),.inr (.row 3 qf d.2.2.2.2.2.2)]) ?_ ?_)
 ·refine aK (aP hF [1,2,3,4,5,6,7,9,10,17,18,19] (yaD ?_));refine aL (iM (aQc 10 3 qf rfl (yaA ?_)));refine aFj (D:=Int×Int×qk×qk×qk×(List qc)×q9×q9) [17,18] (fun d=>[(1,.ptr 0 []),(2,.ptr 1 []),(3,.ptr 2 []),(4,.ptr 3 []),(5,.ptr 4 []),(6,.ptr 5 []),(7,.ptr 8 []),(9,.ptr 9 []),(10,.own 10),(19,.val qf d.1)]) (fun d=>[.inr (.box 1 (.fn 16 [] [0,1,2,3,4,5])),.inr (.box 1 (.val qf d.2.1)),.inr (.box 1 (.val qo d.2.2.1)),.inr (.box 1 (.val qo d.2.2.2.1)),.inr (.box 1 (.val qo d.2.2.2.2.1)),.inr (.box 2 (.agg [.own 6,.own 7])),.inr (.row 44 qe d.2.2.2.2.2.1),.inr (.row 3 qf d.2.2.2.2.2.2.1),.inr (.box 3 (.val .expr I)),.inr (.box 9 (.val qe ((I.kind),(0:Int),(0:Int),((false,([]:List Nat),(0:Int),()),(false,([]:List Nat),(0:Int),()),()),()))),.inr (.row 3 qf d.2.2.2.2.2.2.2)]) h ?_ ?_ ?_
  ·first|rfl|(simp only[go_sem]; done)
  ·exact zAE
  rintro⟨x19_44,x2_45,x3_46,x4_47,x5_48,x_49,x_50,parts_51⟩ s4 h hs4;simp only[go_sem];try dsimp only at h
  unfold bK at h;refine aK (aP hF [1,2,3,4,5,6,7,9,10,17,18,19,20] (yaD ?_));refine aL (aK (cW rfl (fun hc=>?_) (fun hc=>?_)))
  ·(try simp only[go_sem] at hc);have h:=pK zAC h;refine dZ (aL (aK (iM (aK (bT hF [1,2,3,4,5,6,7,9,10,12,17,18,19] (yaA ?_))))));obtain⟨g0,h⟩:=bV h;(repeat (refine⟨zAA,?_⟩));obtain⟨J,he1,h⟩:=bind_some h;(try dsimp only at h);obtain⟨g0,h⟩:=bV h;refine aL (mK hF (aAk (l:=[(16,⟨(nP g),[0,1,2,3,4,5,6,7],(((I.l).getD (x19_44.toNat) (Ex.mk 0 [] [])),x2_45,x3_46,x4_47,x5_48,(x_49,x_50,()),J)⟩)]) (.cons hg xC (.nil))) [1,2,3,4,5,6,7,9,10,17,18,19] [] (yaA ?_));(repeat (refine⟨by first|with_reducible assumption|omega|(intros; first|with_reducible assumption|omega)|(simp only[go_sem] at *; first|with_reducible assumption|omega)|(intro _; exact⟨rfl,by decide⟩)|(intro _; refine(?_:_=aM _); rfl)|(refine(?_:_=aM _); rfl)|exact⟨rfl,rfl⟩|decide|((repeat' apply And.intro)<;>first|assumption|rfl|omega)|fail,?_⟩));refine nY (aL (aP hF [1,2,3,4,5,6,7,9,10,17,18,19] (yaA ?_)));obtain⟨g0,h⟩:=bV h;(try simp only[I64,I32] at g0);(repeat (refine⟨zAA,?_⟩));obtain rfl:=Option.some.inj h;dsimp only[aD7] at hs4;refine bY (nU [0,1,2,3,4,5,12,13,8,9,15] rfl rfl (yaC ?_));refine aR ((x19_44+(1:Int)),J.2.1,J.2.2.1,J.2.2.2.1,J.2.2.2.2.1,J.2.2.2.2.2.1,J.2.2.2.2.2.2.1,(parts_51++([J.1]:List Int))) hs4 rfl ?_
   ·exact zAE
  ·(try simp only[go_sem] at hc);have h:=pL zAC h;obtain rfl:=Option.some.inj h;dsimp only[aD7] at hs4;have h:=yaF (hs4);refine lM (bO (bO (dA (bY (aR (x2_45,x3_46,x4_47,x5_48,x_49,x_50,parts_51) h rfl ?_)))))
   ·exact zAE
 ·rintro⟨U,N,x4_36,x5_37,x_38,x_39,parts_40⟩ h;try dsimp only at h
  simp only[go_sem];unfold eF at h;refine vW (D:=qc) (fun d=>dG F g x_38 U N x4_36 x5_37 x_39 d=some r) [] (fun d=>[(6,.ptr 5 []),(9,.ptr 8 [])]) (fun d=>[.inr (.box 1 (.fn 16 [] [0,1,2,3,4,5])),.inr (.box 1 (.val qf U)),.inr (.box 1 (.val qo N)),.inr (.box 1 (.val qo x4_36)),.inr (.box 1 (.val qo x5_37)),.inr (.box 2 (.agg [.own 6,.own 7])),.inr (.row 44 qe x_38),.inr (.row 3 qf x_39),.inr (.box 9 (.val qe d))]) ?_ ?_
  ·refine iM (aK (iM (aK (iM (aK (iM (aK (iM (aK (aK (aK (aP hF [2,3,4,5,6,7,9,10,30] (yaD ?_)))))))))))));refine aL (cW rfl (fun hc=>?_) (fun hc=>?_))
   ·(try simp only[go_sem] at hc);have h:=pK zAC h;refine lM (bO (bO (dA (aL (aK (aK (bT hF [2,6,7,9] (yaD ?_))))))));refine aL (bT hF [6,9] (yaA ?_));obtain⟨g0,h⟩:=bV h;(repeat (refine⟨zAA,?_⟩));refine aL (lM (cS xAa (bO (cS xAa (bO (cS xAa (bO (dA (bY (nU [0,1,2,3,4,5,6,7,9] rfl rfl (yaC ?_)))))))))));refine aR ((1:Int),(0:Int),(0:Int),((lU F (I.text) U).getD (((false,([]:List Nat),(0:Int),()),(false,([]:List Nat),(0:Int),()),()),(0:Int),())).1,()) h rfl ?_
    ·exact zAE
   ·(try simp only[go_sem] at hc);have h:=pL zAC h;refine dZ (aL (aK (aK (aP hF [3,4,5,6,7,9,10,34] (yaD ?_)))));refine aL (cW rfl (fun hc=>?_) (fun hc=>?_))
    ·(try simp only[go_sem] at hc);have h:=pK zAC h;refine lM (bO (bO (cS xAa (bO (dA (aL (aK (bT hF [6,9] (yaA ?_)))))))));obtain⟨g0,h⟩:=bV h;(repeat (refine⟨zAA,?_⟩));refine aL (lM (cS xAa (bO (cS xAa (bO (dA (bY (nU [0,1,2,3,4,5,6,7,9] rfl rfl (yaC ?_)))))))));refine aR ((fD F (I.text) N x4_36 x5_37).getD ((0:Int),(0:Int),(0:Int),((false,([]:List Nat),(0:Int),()),(false,([]:List Nat),(0:Int),()),()),())) h rfl ?_
     ·exact zAE
    ·(try simp only[go_sem] at hc);have h:=pL zAC h;refine dZ (aL (aK (aP hF [6,9,10,38] (yaD ?_))));refine aL (cW rfl (fun hc=>?_) (fun hc=>?_))
     ·(try simp only[go_sem] at hc);have h:=pK zAC h;refine lM (bO (cS xAa (bO (cS xAa (bO (dA (aL (bT hF [6,9,10] (yaA ?_)))))))));obtain⟨g0,h⟩:=bV h;(repeat (refine⟨zAA,?_⟩));refine nY (aL (aK (bT hF [6,9] (yaA ?_))));obtain⟨g0,h⟩:=bV h;(repeat (refine⟨zAA,?_⟩));refine aL (lM (dA (bY (nU [0,1,2,3,4,5,6,7,9] rfl rfl (yaC ?_)))));refine aR ((I.kind),(parts_40.getD (0:Nat) (0:Int)),(parts_40.getD (1:Nat) (0:Int)),((false,([]:List Nat),(0:Int),()),(false,([]:List Nat),(0:Int),()),()),()) h rfl ?_
      ·exact zAE
     ·(try simp only[go_sem] at hc);have h:=pL zAC h;refine dZ (aL (lM (cS xAa (bO (cS xAa (bO (cS xAa (bO (dA (aL (aK (bT hF [6,9] (yaA ?_)))))))))))));obtain⟨g0,h⟩:=bV h;(repeat (refine⟨zAA,?_⟩));refine aL (lM (dA (bY (nU [0,1,2,3,4,5,6,7,9] rfl rfl (yaC ?_)))));refine aR ((I.kind),(parts_40.getD (0:Nat) (0:Int)),(0:Int),((false,([]:List Nat),(0:Int),()),(false,([]:List Nat),(0:Int),()),()),()) h rfl ?_
      ·exact zAE
  ·rintro l_42 h;(try dsimp only at h);simp only[go_sem];unfold dG at h;refine aK (bT hF [6] (yaA ?_));obtain⟨g0,h⟩:=bV h;(repeat (refine⟨zAA,?_⟩));refine aL (aK (aP hF [8] (yaA ?_)));obtain⟨g0,h⟩:=bV h;(try simp only[I64,I32] at g0);(repeat (refine⟨zAA,?_⟩));obtain rfl:=Option.some.inj h;refine aL (jO (nU [0,1,2,3,4,5,10,7] rfl rfl (yaC ?_)));refine oM hF [.tmp 8] rfl rfl rfl rfl rfl rfl ?_;exact zaC
def fL(F:Md):Nat→Ex→Int→qk→qk→qk→qm→Option qg
 | 0=>fun _ _ _ _ _ _=>none
 | n+1=>cV F (fL F n)
def uK(F:Md)(n:Nat):iJ where
 D:=Ex×Int×qk×qk×qk×qm×qg
 av:=fun d=>[.val .expr d.1,.ptr 0 [],.ptr 1 [],.ptr 2 [],.ptr 3 [],.ptr 4 [],.ptr 5 []]
 hp:=fun d=>[.box 1 (.fn 16 [] [0,1,2,3,4,5]),.box 1 (.val qf d.2.1),.box 1 (.val qo d.2.2.1),.box 1 (.val qo d.2.2.2.1),.box 1 (.val qo d.2.2.2.2.1),.box 2 (.agg [.own 6,.own 7]),.row 44 qe d.2.2.2.2.2.1.1,.row 3 qf d.2.2.2.2.2.1.2.1]
 m:=6
 pre:=fun d=>fL F n d.1 d.2.1 d.2.2.1 d.2.2.2.1 d.2.2.2.2.1 d.2.2.2.2.2.1=some d.2.2.2.2.2.2
 out:=fun d=>(fun r:qg=>.ret (.val qf r.1) [.box 1 (.fn 16 [] [0,1,2,3,4,5]),.box 1 (.val qf r.2.1),.box 1 (.val qo r.2.2.1),.box 1 (.val qo r.2.2.2.1),.box 1 (.val qo r.2.2.2.2.1),.box 2 (.agg [.own 6,.own 7]),.row 44 qe r.2.2.2.2.2.1,.row 3 qf r.2.2.2.2.2.2.1]) d.2.2.2.2.2.2
theorem aA3(F:Md):∀n,GOK Tryz.prog GL 16 (uK F n)
 | 0=>fun _ _ _ _ hp _=>absurd (show none=some _ from hp) (by simp)
 | n+1=>aF2 F _ (aA3 F n)
attribute [go_sem] uK
def lI(F:Md)(Y:Ex)(U:qk)(J:qk)(N:qk)(I:Int):Option (qm×qq) :=
 ck (¬((I<(8:Int))∨((200:Int)<I))→((cI F ([U,J,N]:List qk)).isSome=true)) (ck (¬((I<(8:Int))∨((200:Int)<I))→((iB F Y ((cI F ([U,J,N]:List qk)).getD ([]:List qd))).isSome=true)) (if ((I<(8:Int))∨((200:Int)<I))∨(¬(((iB F Y ((cI F ([U,J,N]:List qk)).getD ([]:List qd))).getD false)=true)) then some ((([]:List qc),([]:List Int),()),(1:Int),()) else (fL F 64 Y I U J N (([]:List qc),([]:List Int),())).bind (fun r_7=>some ((r_7.2.2.2.2.2.1,([r_7.1]:List Int),()),(0:Int),()))))
@[go_sem]def vO:Ty:=.pair .expr (.pair qo (.pair qo (.pair qo qn)))
def tH(F:Md):aF:=mSpec vO (.tup (.pair qy qn)) (fun x=>lI F x.1 x.2.1 x.2.2.1 x.2.2.2.1 x.2.2.2.2.1)
abbrev vP(F:Md):List (FuncId×aF):=[(14,(nO F)),(15,(gQ F))]
theorem aES(F:Md):bU Tryz.prog GL (vP F):=.cons (aF0 F) xC (.cons (zH F) xC (.nil))
theorem aKK(F:Md):FOK Tryz.prog GL 7 (tH F):=by
 refine yP (aSu (aES F)) Tryz.func7 rfl xC xAa fun w0 S x r hw h=>?_;have hF:oY (fr Tryz.prog (EX (vP F)) S w0 Tryz.f7.ntmps):=⟨aSu (aES F),mix⟩;obtain⟨(N:Ex),(Y:qk),(J:qk),(U:qk),(I:Int),u⟩:=x;simp only[vO,Ty.wf,aDd] at hw;simp only[cC,vO];try dsimp only at h
 replace h:lI F N Y J U I=some r:=h;unfold lI at h;refine aK (bT hF [5,6,7,8,9,10] (yaD ?_));refine aL (aK (aK (aP hF [5,6,7,8,9,10,29] (yaA ?_))));obtain⟨g0,h⟩:=bV h;obtain⟨g1,h⟩:=bV h;repeat (refine⟨by first|with_reducible assumption|omega|(intros; first|with_reducible assumption|omega)|(simp only[go_sem] at *; first|with_reducible assumption|omega)|(intro _; exact⟨rfl,by decide⟩)|(intro _; refine(?_:_=aM _); rfl)|(refine(?_:_=aM _); rfl)|exact⟨rfl,rfl⟩|(intro q0; (try have e0:=g0 (by first|exact q0|omega|(simpa using q0))); (try have e1:=g1 (by first|exact q0|omega|(simpa using q0))); first|assumption|omega)|decide,?_⟩)
 refine aL (cW rfl (fun hc=>?_) (fun hc=>?_))
 ·try simp only[go_sem] at hc
  have h:=pK zAC h;refine aK (bT hF [10,11] (yaD ?_));obtain rfl:=Option.some.inj h;refine aL (jO (kX (mE hF [.cell 10 31,.tmp 11] rfl rfl rfl ?_)));exact zaI
 ·try simp only[go_sem] at hc
  have h:=pL zAC h;refine dZ (aL (aK (bT hF [5,6,7,8,9,10,12] (yaD ?_))));refine aL (aK (bT hF [5,6,7,8,9,10,12,13] (yaD ?_)));refine aL (aK (bT hF [5,10,12,13] (yaD ?_)));refine aL (aK (aIH 6 0 44 .no qe rfl rfl rfl (yaA ?_)));refine aIH 6 1 3 .no qf rfl rfl rfl (yaA ?_);obtain⟨r_7,he1,h⟩:=bind_some h;try dsimp only at h
  refine mK hF (aAk (l:=[(16,⟨(uK F 64),[7,4,1,2,3,6,8,9],(N,I,Y,J,U,(([]:List qc),([]:List Int),()),r_7)⟩)]) (.cons (aA3 F 64) xC (.nil))) [10,12] [] (yaA ?_);repeat (refine⟨by first|with_reducible assumption|omega|(intros; first|with_reducible assumption|omega)|(simp only[go_sem] at *; first|with_reducible assumption|omega)|(intro _; exact⟨rfl,by decide⟩)|(intro _; refine(?_:_=aM _); rfl)|(refine(?_:_=aM _); rfl)|exact⟨rfl,rfl⟩|decide|((repeat' apply And.intro)<;>first|assumption|rfl|omega)|fail,?_⟩)
  refine aL (aK (bT hF [10,11] (yaD ?_)));obtain rfl:=Option.some.inj h;refine aL (jO (mE hF [.cell 10 31,.tmp 11] rfl rfl rfl ?_))
  (try simp only[mC,bD,go_sem])<;>first|rfl|(simp; done)
attribute [go_sem] tH
theorem Tot.loop{D E:Type}{step:D→Option (D⊕E)}{P:E→Prop}(I:D→Prop)(J:D→Nat)(h:∀d,I d→Tot (step d) (fun q=>match q with| .inl N=>I N∧J N<J d| .inr e=>P e)){d:D}(U:I d):Tot (dC none step d) P :=
 eQ J P (fun d hd=>by
  obtain⟨q,e,hq⟩:=h d hd;grind) d U
theorem Tot.idx{X E:Type}(n:Nat)(I:X→Nat→Prop){step:Int×X→Option ((Int×X)⊕E)}{P:E→Prop}(Y:n≤1000000)
  (h:∀(i:Int) (x:X),0≤i→i<n→I64 (i+1)→I x i.toNat→Tot (step (i,x)) (fun q=>match q with| .inl d=>d.1=i+1∧I d.2 (i.toNat+1)| .inr e=>P e))
  (J:∀(x:X),I x n→Tot (step ((n:Int),x)) (fun q=>match q with| .inl d=>False| .inr e=>P e)) {x:X} (U:I x 0):Tot (dC none step ((0:Int),x)) P:=by
 refine Tot.loop (fun d:Int×X=>(0:Int)≤d.1∧d.1≤(n:Int)∧I d.2 d.1.toNat) (fun d=>((n:Int)-d.1).toNat) ?_ ⟨Int.le_refl 0,by omega,U⟩;rintro⟨i,x⟩ ⟨i0,i1,N⟩;have i0:0≤i:=i0;have i1:i≤n:=i1;rcases Int.lt_or_le i n with hi|hi
 ·refine(h i x i0 hi (by omega) N).mono fun q hq=>?_;grind
 ·have:i=n:=by omega
  subst this;grind[mono]
def OkE(e:Ex):Prop:=∃n,n≤64∧fits n e∧nd n e≤1000
theorem Tot.eq{α:Type}{o:Option α}{r:α}(h:Tot o (fun x=>x=r)):o=some r:=by
 obtain⟨x,e,rfl⟩:=h;exact e
theorem aTY(a b c:List qd)(ha:a.length≤1000)(hb:b.length≤1000)(hc:c.length≤1000):cI none [a,b,c]=some (a++(b++c)):=by
 refine Tot.eq ?_;have g:∀i:Int,0≤i→i<(3:Nat)→(([a,b,c]:List qk).getD i.toNat []).length≤1000:=fun i h1 h2=>by
  grind
 unfold cI;refine Tot.bind (P:=fun k:Int=>0≤k∧k≤3000) ?_ fun k hk=>?_
 ·refine Tot.loop (fun d:Int×Int=>0≤d.2∧d.2≤3∧0≤d.1∧d.1≤1000*d.2) (fun d=>(3-d.2).toNat) ?_ ⟨by decide,by decide,by decide,by decide⟩;rintro⟨k,i⟩ ⟨i0,i1,N,i3⟩;have i0:0≤i:=i0;have i1:i≤3:=i1;have N:0≤k:=N;have i3:k≤1000*i:=i3;show Tot (eC none [a,b,c] k i) _;unfold eC;refine .ite (fun hi=>?_) fun _=>.ret ⟨N,by omega⟩;have J:i<(3:Nat):=hi;have:=g i i0 J;exact .ck ⟨i0,hi⟩ (.ck (by omega) (.ite (fun I=>by omega) fun _=>.ck (by omega) (.ret ⟨⟨by omega,by omega,by omega,by omega⟩,by omega⟩)))
 ·unfold eB eV;refine Tot.bind (P:=fun r=>r= []) (.ck (by omega) (.ret rfl)) fun r hr=>?_;subst hr;refine Tot.bind (P:=fun l=>l=a++(b++c)) (Tot.idx 3 (fun l i=>l=((([a,b,c]:List qk).take i).flatten)) xAa (fun i l i0 hi U Y=>?_) (fun l Y=>?_) rfl) fun l hl=>.ret hl
  ·show Tot (cU none [a,b,c] i l) _;unfold cU;have h2:=g i i0 hi;have h1:l.length≤2000∧l++([a,b,c]:List qk).getD i.toNat []=(([a,b,c]:List qk).take (i.toNat+1)).flatten:=by
    rw[Y];rcases (by omega:i=0∨i=1∨i=2) with rfl|rfl|rfl
    all_goals grind
   exact .ite (fun I=>.ck ⟨i0,I⟩ (.ck (by omega) (.ck U (.ret ⟨rfl,h1.2⟩)))) fun I=>absurd hi I
  simp_all[Tot,cU,ite,absurd]
theorem aNy{D E:Type}{step:D→Option (D⊕E)}{d d':D}{r:E}(h:step d=some (.inl d'))(I:aCG step d'=some r):aCG step d=some r:=by
 obtain⟨n,J⟩:=aTf.1 I;exact aAj (n:=n+1) (by grind[iter])
theorem aJW{D E:Type}{step:D→Option (D⊕E)}{d:D}{r:E}(h:step d=some (.inr r)):aCG step d=some r:=aAj (n:=1) (by rw[iter,h])
theorem ify{α:Type}{p:Prop}{i:Decidable p}{x y r:α}(hp:p)(h:x=r): @ite α p i x y=r:=(if_pos hp).trans h
theorem ifn{α:Type}{p:Prop}{i:Decidable p}{x y r:α}(hp:¬p)(h:y=r): @ite α p i x y=r:=(if_neg hp).trans h
theorem bBI(e:Ex)(names:List qd){n:Nat}(I:n≤64)(J:fits n e)(U:nd n e≤1000)(N:names.length≤1000):iB none e names=some (decide (nd n e≤60∧ht n e≤30)&&(gk n e&&lvs names n e)):=by
 unfold iB;rw[aSK names N n 64 e I J];exact bF (bAP J I U) (aB (fun _=>rfl) rfl)
inductive KE:Nat→Ex→Prop
 | leaf (n:Nat) (k:Int) (t:List Nat):k=1∨k=2→KE (n+1) (Ex.mk k t [])
 | two (n:Nat) (k:Int) (t:List Nat) (a b:Ex):6≤k→k≤9→KE n a→KE n b→KE (n+1) (Ex.mk k t [a,b])
 | neg (n:Nat) (t:List Nat) (a:Ex):KE n a→KE (n+1) (Ex.mk 10 t [a])
 | fn (n:Nat) (k:Int) (t:List Nat) (a:Ex):11≤k→k≤13→KE n a→KE (n+1) (Ex.mk k t [a])
theorem aZt:∀(n:Nat) (e:Ex),fits n e→gk n e=true→KE n e
 | 0,e,N,_=>N.elim
 | n+1,e,N,J=>by
  obtain⟨k,t,l⟩:=e;have J:(decide (prt k=(l.length:Int))&&l.all (gk n))=true:=J;rw[Bool.and_eq_true,decide_eq_true_iff,List.all_eq_true] at J;obtain⟨I,h2⟩:=J;have h3:∀x∈l,fits n x:=N.2.2;have K:∀x∈l,KE n x:=fun x hx=>aZt n x (h3 x hx) (h2 x hx);unfold prt at I
  match l,I,K with
  | [],I,K =>
   refine .leaf n k t ?_;have I:(if k=1∨k=2 then (0:Int) else if 6≤k∧k≤9 then 2 else if 10≤k∧k≤13 then 1 else -1)=0:=I;grind
  | [a],I,K =>
   have I:(if k=1∨k=2 then (0:Int) else if 6≤k∧k≤9 then 2 else if 10≤k∧k≤13 then 1 else -1)=1:=I;have U:10≤k∧k≤13:=(by grind);by_cases Y:k=10
   ·subst Y;exact .neg n t a (K a (.head _))
   ·exact .fn n k t a (by omega) (by omega) (K a (.head _))
  | [a,b],I,K =>
   have I:(if k=1∨k=2 then (0:Int) else if 6≤k∧k≤9 then 2 else if 10≤k∧k≤13 then 1 else -1)=2:=I;have U:6≤k∧k≤9:=(by grind);exact .two n k t a b U.1 U.2 (K a (.head _)) (K b (.tail _ (.head _)))
  | a::b::c::r,I,K =>
   exfalso;have I:(if k=1∨k=2 then (0:Int) else if 6≤k∧k≤9 then 2 else if 10≤k∧k≤13 then 1 else -1)=((a::b::c::r).length:Int):=I;have:((a::b::c::r).length:Int)=(r.length:Int)+3:=(by simp; omega);grind
end
end Nu
end Go.Proofs
set_option maxRecDepth 100000
namespace Go.Proofs.YthkfoehkabnlpaaGreatDoor.It
open Go Go.It
noncomputable section
noncomputable def ttL:List (TypeId×TI) :=
 (1,⟨.fn,1,8,[.z .fnn]⟩) ::
 (2,⟨.i .i64,1,8,[.i 0]⟩) ::
 (3,⟨.i .i64,1,8,[.i 0]⟩) ::
 (4,⟨.b,1,1,[.b false]⟩) ::
 (5,⟨.i .u8,1,1,[.k .u8 0]⟩) ::
 (6,⟨.i .u8,1,1,[.k .u8 0]⟩) ::
 (7,⟨.st [(0,2),(1,3),(2,4),(3,6)],4,24,[.i 0,.i 0,.b false,.k .u8 0]⟩) ::
 (8,⟨.st [(0,2),(1,3),(2,4),(3,6)],4,24,[.i 0,.i 0,.b false,.k .u8 0]⟩) ::
 (9,⟨.s,1,16,[.s 0 0]⟩) ::
 (10,⟨.s,1,16,[.s 0 0]⟩) ::
 (11,⟨.s,1,16,[.s 0 0]⟩) ::
 (12,⟨.i .u64,1,8,[.w 0]⟩) ::
 (15,⟨.p 292,1,8,[.z .pn]⟩) ::
 (16,⟨.p 295,1,8,[.z .pn]⟩) ::
 (17,⟨.p 303,1,8,[.z .pn]⟩) ::
 (20,⟨.ifc,1,16,[.z .ifn]⟩) ::
 (21,⟨.i .i32,1,4,[.k .i32 0]⟩) ::
 (22,⟨.sl 24,1,24,[.z .sn]⟩) ::
 (23,⟨.st [(0,3),(1,9),(2,22)],3,48,[.i 0,.s 0 0,.z .sn]⟩) ::
 (24,⟨.st [(0,3),(1,9),(2,22)],3,48,[.i 0,.s 0 0,.z .sn]⟩) ::
 (25,⟨.sl 9,1,24,[.z .sn]⟩) ::
 (26,⟨.fn,1,8,[.z .fnn]⟩) ::
 (27,⟨.fn,1,8,[.z .fnn]⟩) ::
 (28,⟨.sl 44,1,24,[.z .sn]⟩) ::
 (29,⟨.sl 3,1,24,[.z .sn]⟩) ::
 (30,⟨.st [(0,28),(1,29)],2,48,[.z .sn,.z .sn]⟩) ::
 (31,⟨.st [(0,28),(1,29)],2,48,[.z .sn,.z .sn]⟩) ::
 (33,⟨.fn,1,8,[.z .fnn]⟩) ::
 (34,⟨.fn,1,8,[.z .fnn]⟩) ::
 (35,⟨.fn,1,8,[.z .fnn]⟩) ::
 (36,⟨.i .u64,1,8,[.w 0]⟩) ::
 (37,⟨.fn,1,8,[.z .fnn]⟩) ::
 (38,⟨.sl 119,1,24,[.z .sn]⟩) ::
 (39,⟨.st [(0,4),(1,38),(2,3)],3,40,[.b false,.z .sn,.i 0]⟩) ::
 (40,⟨.st [(0,4),(1,38),(2,3)],3,40,[.b false,.z .sn,.i 0]⟩) ::
 (41,⟨.st [(0,40),(3,40)],6,80,[.b false,.z .sn,.i 0,.b false,.z .sn,.i 0]⟩) ::
 (42,⟨.st [(0,40),(3,40)],6,80,[.b false,.z .sn,.i 0,.b false,.z .sn,.i 0]⟩) ::
 (43,⟨.st [(0,3),(1,3),(2,3),(3,42)],9,104,[.i 0,.i 0,.i 0,.b false,.z .sn,.i 0,.b false,.z .sn,.i 0]⟩) ::
 (44,⟨.st [(0,3),(1,3),(2,3),(3,42)],9,104,[.i 0,.i 0,.i 0,.b false,.z .sn,.i 0,.b false,.z .sn,.i 0]⟩) ::
 (45,⟨.fn,1,8,[.z .fnn]⟩) ::
 (46,⟨.fn,1,8,[.z .fnn]⟩) ::
 (47,⟨.sl 31,1,24,[.z .sn]⟩) ::
 (48,⟨.sl 122,1,24,[.z .sn]⟩) ::
 (49,⟨.sl 50,1,24,[.z .sn]⟩) ::
 (50,⟨.sl 111,1,24,[.z .sn]⟩) ::
 (51,⟨.st [(0,3),(1,3),(2,3),(3,3),(4,40),(7,40),(10,40),(13,40),(16,47),(17,47),(18,48),(19,48),(20,49),(21,50)],22,336,[.i 0,.i 0,.i 0,.i 0,.b false,.z .sn,.i 0,.b false,.z .sn,.i 0,.b false,.z .sn,.i 0,.b false,.z .sn,.i 0,.z .sn,.z .sn,.z .sn,.z .sn,.z .sn,.z .sn]⟩) ::
 (52,⟨.st [(0,3),(1,3),(2,3),(3,3),(4,40),(7,40),(10,40),(13,40),(16,47),(17,47),(18,48),(19,48),(20,49),(21,50)],22,336,[.i 0,.i 0,.i 0,.i 0,.b false,.z .sn,.i 0,.b false,.z .sn,.i 0,.b false,.z .sn,.i 0,.b false,.z .sn,.i 0,.z .sn,.z .sn,.z .sn,.z .sn,.z .sn,.z .sn]⟩) ::
 (54,⟨.fn,1,8,[.z .fnn]⟩) ::
 (55,⟨.sl 80,1,24,[.z .sn]⟩) ::
 (56,⟨.sl 108,1,24,[.z .sn]⟩) ::
 (57,⟨.st [(0,3),(1,3),(2,3),(3,3),(4,9),(5,9),(6,9),(7,9),(8,55),(9,56)],10,144,[.i 0,.i 0,.i 0,.i 0,.s 0 0,.s 0 0,.s 0 0,.s 0 0,.z .sn,.z .sn]⟩) ::
 (58,⟨.st [(0,3),(1,3),(2,3),(3,3),(4,9),(5,9),(6,9),(7,9),(8,55),(9,56)],10,144,[.i 0,.i 0,.i 0,.i 0,.s 0 0,.s 0 0,.s 0 0,.s 0 0,.z .sn,.z .sn]⟩) ::
 (59,⟨.fn,1,8,[.z .fnn]⟩) ::
 (60,⟨.fn,1,8,[.z .fnn]⟩) ::
 (61,⟨.fn,1,8,[.z .fnn]⟩) ::
 (63,⟨.fn,1,8,[.z .fnn]⟩) ::
 (64,⟨.fn,1,8,[.z .fnn]⟩) ::
 (65,⟨.p 67,1,8,[.z .pn]⟩) ::
 (66,⟨.st [(0,28),(1,25),(2,25),(3,25),(4,3)],5,104,[.z .sn,.z .sn,.z .sn,.z .sn,.i 0]⟩) ::
 (67,⟨.st [(0,28),(1,25),(2,25),(3,25),(4,3)],5,104,[.z .sn,.z .sn,.z .sn,.z .sn,.i 0]⟩) ::
 (68,⟨.fn,1,8,[.z .fnn]⟩) ::
 (69,⟨.fn,1,8,[.z .fnn]⟩) ::
 (70,⟨.fn,1,8,[.z .fnn]⟩) ::
 (71,⟨.p 40,1,8,[.z .pn]⟩) ::
 (72,⟨.sl 71,1,24,[.z .sn]⟩) ::
 (74,⟨.fn,1,8,[.z .fnn]⟩) ::
 (75,⟨.sl 83,1,24,[.z .sn]⟩) ::
 (76,⟨.sl 90,1,24,[.z .sn]⟩) ::
 (77,⟨.sl 125,1,24,[.z .sn]⟩) ::
 (78,⟨.sl 92,1,24,[.z .sn]⟩) ::
 (79,⟨.st [(0,9),(1,76),(2,77),(3,25),(4,78)],5,112,[.s 0 0,.z .sn,.z .sn,.z .sn,.z .sn]⟩) ::
 (80,⟨.st [(0,9),(1,76),(2,77),(3,25),(4,78)],5,112,[.s 0 0,.z .sn,.z .sn,.z .sn,.z .sn]⟩) ::
 (81,⟨.fn,1,8,[.z .fnn]⟩) ::
 (82,⟨.p 52,1,8,[.z .pn]⟩) ::
 (83,⟨.sl 29,1,24,[.z .sn]⟩) ::
 (84,⟨.fn,1,8,[.z .fnn]⟩) ::
 (86,⟨.fn,1,8,[.z .fnn]⟩) ::
 (87,⟨.st [(0,9),(1,9)],2,32,[.s 0 0,.s 0 0]⟩) ::
 (88,⟨.st [(0,9),(1,9)],2,32,[.s 0 0,.s 0 0]⟩) ::
 (89,⟨.st [(0,9),(1,88),(3,24)],6,96,[.s 0 0,.s 0 0,.s 0 0,.i 0,.s 0 0,.z .sn]⟩) ::
 (90,⟨.st [(0,9),(1,88),(3,24)],6,96,[.s 0 0,.s 0 0,.s 0 0,.i 0,.s 0 0,.z .sn]⟩) ::
 (91,⟨.st [(0,9),(1,24)],4,64,[.s 0 0,.i 0,.s 0 0,.z .sn]⟩) ::
 (92,⟨.st [(0,9),(1,24)],4,64,[.s 0 0,.i 0,.s 0 0,.z .sn]⟩) ::
 (93,⟨.sl 25,1,24,[.z .sn]⟩) ::
 (94,⟨.fn,1,8,[.z .fnn]⟩) ::
 (96,⟨.fn,1,8,[.z .fnn]⟩) ::
 (97,⟨.fn,1,8,[.z .fnn]⟩) ::
 (98,⟨.fn,1,8,[.z .fnn]⟩) ::
 (99,⟨.fn,1,8,[.z .fnn]⟩) ::
 (101,⟨.fn,1,8,[.z .fnn]⟩) ::
 (102,⟨.fn,1,8,[.z .fnn]⟩) ::
 (103,⟨.fn,1,8,[.z .fnn]⟩) ::
 (104,⟨.fn,1,8,[.z .fnn]⟩) ::
 (105,⟨.fn,1,8,[.z .fnn]⟩) ::
 (106,⟨.fn,1,8,[.z .fnn]⟩) ::
 (107,⟨.st [(0,9),(1,9),(2,9),(3,9)],4,64,[.s 0 0,.s 0 0,.s 0 0,.s 0 0]⟩) ::
 (108,⟨.st [(0,9),(1,9),(2,9),(3,9)],4,64,[.s 0 0,.s 0 0,.s 0 0,.s 0 0]⟩) ::
 (109,⟨.fn,1,8,[.z .fnn]⟩) ::
 (110,⟨.fn,1,8,[.z .fnn]⟩) ::
 (111,⟨.ar 2 3,2,16,[.i 0,.i 0]⟩) ::
 (113,⟨.fn,1,8,[.z .fnn]⟩) ::
 (115,⟨.fn,1,8,[.z .fnn]⟩) ::
 (116,⟨.fn,1,8,[.z .fnn]⟩) ::
 (117,⟨.fn,1,8,[.z .fnn]⟩) ::
 (118,⟨.fn,1,8,[.z .fnn]⟩) ::
 (119,⟨.i .u64,1,8,[.w 0]⟩) ::
 (121,⟨.fn,1,8,[.z .fnn]⟩) ::
 (122,⟨.sl 42,1,24,[.z .sn]⟩) ::
 (123,⟨.fn,1,8,[.z .fnn]⟩) ::
 (124,⟨.st [(0,9),(1,88)],3,48,[.s 0 0,.s 0 0,.s 0 0]⟩) ::
 (125,⟨.st [(0,9),(1,88)],3,48,[.s 0 0,.s 0 0,.s 0 0]⟩) ::
 (126,⟨.fn,1,8,[.z .fnn]⟩) ::
 (127,⟨.fn,1,8,[.z .fnn]⟩) ::
 (128,⟨.fn,1,8,[.z .fnn]⟩) ::
 (129,⟨.sl 4,1,24,[.z .sn]⟩) ::
 (130,⟨.fn,1,8,[.z .fnn]⟩) ::
 (131,⟨.fn,1,8,[.z .fnn]⟩) ::
 (132,⟨.fn,1,8,[.z .fnn]⟩) ::
 (133,⟨.fn,1,8,[.z .fnn]⟩) ::
 (134,⟨.mp 111 4,1,8,[.z .mn]⟩) ::
 (136,⟨.fn,1,8,[.z .fnn]⟩) ::
 (137,⟨.fn,1,8,[.z .fnn]⟩) ::
 (138,⟨.fn,1,8,[.z .fnn]⟩) ::
 (139,⟨.fn,1,8,[.z .fnn]⟩) ::
 (140,⟨.fn,1,8,[.z .fnn]⟩) ::
 (141,⟨.fn,1,8,[.z .fnn]⟩) ::
 (142,⟨.fn,1,8,[.z .fnn]⟩) ::
 (143,⟨.fn,1,8,[.z .fnn]⟩) ::
 (144,⟨.fn,1,8,[.z .fnn]⟩) ::
 (145,⟨.fn,1,8,[.z .fnn]⟩) ::
 (146,⟨.fn,1,8,[.z .fnn]⟩) ::
 (147,⟨.fn,1,8,[.z .fnn]⟩) ::
 (148,⟨.sl 154,1,24,[.z .sn]⟩) ::
 (149,⟨.sl 154,1,24,[.z .sn]⟩) ::
 (151,⟨.fn,1,8,[.z .fnn]⟩) ::
 (152,⟨.st [(0,4),(1,149),(2,3)],3,40,[.b false,.z .sn,.i 0]⟩) ::
 (153,⟨.st [(0,4),(1,149),(2,3)],3,40,[.b false,.z .sn,.i 0]⟩) ::
 (154,⟨.i .u32,1,4,[.k .u32 0]⟩) ::
 (155,⟨.fn,1,8,[.z .fnn]⟩) ::
 (156,⟨.fn,1,8,[.z .fnn]⟩) ::
 (157,⟨.fn,1,8,[.z .fnn]⟩) ::
 (158,⟨.fn,1,8,[.z .fnn]⟩) ::
 (159,⟨.sl 40,1,24,[.z .sn]⟩) ::
 (160,⟨.fn,1,8,[.z .fnn]⟩) ::
 (161,⟨.fn,1,8,[.z .fnn]⟩) ::
 (162,⟨.fn,1,8,[.z .fnn]⟩) ::
 (163,⟨.fn,1,8,[.z .fnn]⟩) ::
 (164,⟨.fn,1,8,[.z .fnn]⟩) ::
 (165,⟨.fn,1,8,[.z .fnn]⟩) ::
 (166,⟨.mp 9 4,1,8,[.z .mn]⟩) ::
 (167,⟨.fn,1,8,[.z .fnn]⟩) ::
 (168,⟨.ifc,1,16,[.z .ifn]⟩) ::
 (169,⟨.ifc,1,16,[.z .ifn]⟩) ::
 (171,⟨.fn,1,8,[.z .fnn]⟩) ::
 (172,⟨.fn,1,8,[.z .fnn]⟩) ::
 (173,⟨.fn,1,8,[.z .fnn]⟩) ::
 (174,⟨.fn,1,8,[.z .fnn]⟩) ::
 (175,⟨.fn,1,8,[.z .fnn]⟩) ::
 (176,⟨.fn,1,8,[.z .fnn]⟩) ::
 (178,⟨.fn,1,8,[.z .fnn]⟩) ::
 (179,⟨.fn,1,8,[.z .fnn]⟩) ::
 (180,⟨.sl 5,1,24,[.z .sn]⟩) ::
 (181,⟨.fn,1,8,[.z .fnn]⟩) ::
 (182,⟨.mp 3 3,1,8,[.z .mn]⟩) ::
 (183,⟨.fn,1,8,[.z .fnn]⟩) ::
 (184,⟨.fn,1,8,[.z .fnn]⟩) ::
 (185,⟨.fn,1,8,[.z .fnn]⟩) ::
 (186,⟨.fn,1,8,[.z .fnn]⟩) ::
 (187,⟨.fn,1,8,[.z .fnn]⟩) ::
 (188,⟨.fn,1,8,[.z .fnn]⟩) ::
 (189,⟨.fn,1,8,[.z .fnn]⟩) ::
 (190,⟨.st [(0,3)],1,8,[.i 0]⟩) ::
 (191,⟨.st [(0,3)],1,8,[.i 0]⟩) ::
 (193,⟨.st [(0,3)],1,8,[.i 0]⟩) ::
 (194,⟨.st [(0,3)],1,8,[.i 0]⟩) ::
 (196,⟨.fn,1,8,[.z .fnn]⟩) ::
 (197,⟨.fn,1,8,[.z .fnn]⟩) ::
 (198,⟨.fn,1,8,[.z .fnn]⟩) ::
 (199,⟨.fn,1,8,[.z .fnn]⟩) ::
 (200,⟨.fn,1,8,[.z .fnn]⟩) ::
 (202,⟨.fn,1,8,[.z .fnn]⟩) ::
 (203,⟨.fn,1,8,[.z .fnn]⟩) ::
 (204,⟨.fn,1,8,[.z .fnn]⟩) ::
 (205,⟨.fn,1,8,[.z .fnn]⟩) ::
 (207,⟨.fn,1,8,[.z .fnn]⟩) ::
 (208,⟨.fn,1,8,[.z .fnn]⟩) ::
 (209,⟨.fn,1,8,[.z .fnn]⟩) ::
 (210,⟨.fn,1,8,[.z .fnn]⟩) ::
 (211,⟨.fn,1,8,[.z .fnn]⟩) ::
 (213,⟨.fn,1,8,[.z .fnn]⟩) ::
 (214,⟨.fn,1,8,[.z .fnn]⟩) ::
 (215,⟨.fn,1,8,[.z .fnn]⟩) ::
 (217,⟨.fn,1,8,[.z .fnn]⟩) ::
 (218,⟨.fn,1,8,[.z .fnn]⟩) ::
 (219,⟨.i .i64,1,8,[.i 0]⟩) ::
 (221,⟨.fn,1,8,[.z .fnn]⟩) ::
 (222,⟨.fn,1,8,[.z .fnn]⟩) ::
 (223,⟨.fn,1,8,[.z .fnn]⟩) ::
 (224,⟨.fn,1,8,[.z .fnn]⟩) ::
 (225,⟨.fn,1,8,[.z .fnn]⟩) ::
 (226,⟨.fn,1,8,[.z .fnn]⟩) ::
 (227,⟨.fn,1,8,[.z .fnn]⟩) ::
 (228,⟨.fn,1,8,[.z .fnn]⟩) ::
 (229,⟨.fn,1,8,[.z .fnn]⟩) ::
 (230,⟨.fn,1,8,[.z .fnn]⟩) ::
 (231,⟨.fn,1,8,[.z .fnn]⟩) ::
 (232,⟨.fn,1,8,[.z .fnn]⟩) ::
 (233,⟨.fn,1,8,[.z .fnn]⟩) ::
 (234,⟨.fn,1,8,[.z .fnn]⟩) ::
 (235,⟨.fn,1,8,[.z .fnn]⟩) ::
 (236,⟨.ar 256 4,256,256,List.replicate 256 (.b false)⟩) ::
 (237,⟨.ar 256 4,256,256,List.replicate 256 (.b false)⟩) ::
 (239,⟨.fn,1,8,[.z .fnn]⟩) ::
 (240,⟨.fn,1,8,[.z .fnn]⟩) ::
 (241,⟨.p 237,1,8,[.z .pn]⟩) ::
 (242,⟨.i .i64,1,8,[.i 0]⟩) ::
 (244,⟨.fn,1,8,[.z .fnn]⟩) ::
 (245,⟨.p 262,1,8,[.z .pn]⟩) ::
 (246,⟨.fn,1,8,[.z .fnn]⟩) ::
 (247,⟨.fn,1,8,[.z .fnn]⟩) ::
 (248,⟨.i .u64,1,8,[.w 0]⟩) ::
 (249,⟨.fn,1,8,[.z .fnn]⟩) ::
 (250,⟨.fn,1,8,[.z .fnn]⟩) ::
 (251,⟨.fn,1,8,[.z .fnn]⟩) ::
 (252,⟨.p 3,1,8,[.z .pn]⟩) ::
 (253,⟨.fn,1,8,[.z .fnn]⟩) ::
 (254,⟨.ar 64 5,64,64,List.replicate 64 (.k .u8 0)⟩) ::
 (256,⟨.fn,1,8,[.z .fnn]⟩) ::
 (257,⟨.fn,1,8,[.z .fnn]⟩) ::
 (259,⟨.fn,1,8,[.z .fnn]⟩) ::
 (260,⟨.fn,1,8,[.z .fnn]⟩) ::
 (263,⟨.fn,1,8,[.z .fnn]⟩) ::
 (264,⟨.fn,1,8,[.z .fnn]⟩) ::
 (265,⟨.fn,1,8,[.z .fnn]⟩) ::
 (266,⟨.fn,1,8,[.z .fnn]⟩) ::
 (267,⟨.p 248,1,8,[.z .pn]⟩) ::
 (268,⟨.fn,1,8,[.z .fnn]⟩) ::
 (269,⟨.fn,1,8,[.z .fnn]⟩) ::
 (270,⟨.fn,1,8,[.z .fnn]⟩) ::
 (271,⟨.p 5,1,8,[.z .pn]⟩) ::
 (272,⟨.p 274,1,8,[.z .pn]⟩) ::
 (273,⟨.st [(0,9)],1,16,[.s 0 0]⟩) ::
 (274,⟨.st [(0,9)],1,16,[.s 0 0]⟩) ::
 (275,⟨.ar 256 5,256,256,List.replicate 256 (.k .u8 0)⟩) ::
 (276,⟨.st [(0,5),(1,5)],2,2,[.k .u8 0,.k .u8 0]⟩) ::
 (277,⟨.st [(0,5),(1,5)],2,2,[.k .u8 0,.k .u8 0]⟩) ::
 (278,⟨.ar 16 277,32,32,List.replicate 32 (.k .u8 0)⟩) ::
 (279,⟨.fn,1,8,[.z .fnn]⟩) ::
 (280,⟨.fn,1,8,[.z .fnn]⟩) ::
 (281,⟨.fn,1,8,[.z .fnn]⟩) ::
 (282,⟨.fn,1,8,[.z .fnn]⟩) ::
 (283,⟨.ar 24 5,24,24,List.replicate 24 (.k .u8 0)⟩) ::
 (284,⟨.fn,1,8,[.z .fnn]⟩) ::
 (286,⟨.fn,1,8,[.z .fnn]⟩) ::
 (287,⟨.ar 20 119,20,160,List.replicate 20 (.w 0)⟩) ::
 (288,⟨.ar 65 5,65,65,List.replicate 65 (.k .u8 0)⟩) ::
 (289,⟨.ar 32 5,32,32,List.replicate 32 (.k .u8 0)⟩) ::
 (290,⟨.fn,1,8,[.z .fnn]⟩) ::
 (293,⟨.ar 0 16,0,0,[]⟩) ::
 (296,⟨.fn,1,8,[.z .fnn]⟩) ::
 (297,⟨.i .u8,1,1,[.k .u8 0]⟩) ::
 (298,⟨.i .u8,1,1,[.k .u8 0]⟩) ::
 (299,⟨.fn,1,8,[.z .fnn]⟩) ::
 (300,⟨.i .i32,1,4,[.k .i32 0]⟩) ::
 (301,⟨.i .i32,1,4,[.k .i32 0]⟩):: []
noncomputable def fnS:List FuncId:=0::1::2::3::4::5::6::7::8::9::10::11::12::13::14::15::16::17::18::19::20::21::22::23::24::25::26::27::28::29::30::31::32::33::34::35::36::37::38::39::40::41::42::43::44::45::46::47::48::49::50::51::52::53::54::55::56::57::58::59::60::61::62::63::64::65::66::67::68::69::70::71::72::73::74::75::76::77::78::79::80::81::82::83::84::85::86::87::88::89::90::91::92::93::94::95::96::97::98::99::100::101::102::103::104::106::107::108::109::110::111::112::113::114::115::116::117::118::119::120::121::122::123::124::125::126::127::128::129::130::131::132::133::134::135::136::137::138::139::140::141::142::143::145::146::147::148::149::150::151::152::153::154::155::156::157::158::159::160::161::162::163::164::165::166::167::168::169::170::171::172::173::174::175::176::177::178::179::180::181::182::183::184::185::186::187::188::189::190::191::192::193::194::195::196::197::198::199::200::201::202::203::204::205::206::207::208::209::210::211::212::213::214::215::216::217::218::219::220::221::222::223::224::225::226::227::228::229::230::231::232::233::234::235::236::237::238::239::240::241::242::243::244::245::246::247::248::249::250::251::252::253::254:: []
noncomputable def ntL:List (FuncId×(List V→M→(V→Bool)→Bool)):=[(105,aQl),(144,aQm)]
noncomputable def gts:List Gt:=[⟨2,.u8,0::1::56::2::57::49::28::3::61::58::42::50::38::29::17::4::62::47::59::36::45::43::51::22::53::39::33::30::24::18::12::5::63::55::48::27::60::41::37::16::46::35::44::21::52::32::23::11::54::26::40::15::34::20::31::10::25::14::19::9::13::8::7::6:: []⟩,⟨8,.u64,1::10::100::1000::10000::100000::1000000::10000000::100000000::1000000000::10000000000::100000000000::1000000000000::10000000000000::100000000000000::1000000000000000::10000000000000000::100000000000000000::1000000000000000000::10000000000000000000:: []⟩]
noncomputable def E:En:=mkE Tryz.prog ttL ntL fnS (gl0 gts 0)
end
end Go.Proofs.YthkfoehkabnlpaaGreatDoor.It
set_option maxRecDepth 100000
namespace Go.Proofs.YthkfoehkabnlpaaGreatDoor.It
open Go Go.It
theorem bBJ:ttB Tryz.prog ttL=true:=by decide +kernel
theorem bBK:ftB Tryz.prog fnS=true:=by decide +kernel
theorem bBL:gtB gts=true:=by decide +kernel
theorem mixed:Tryz.prog.follows .mixedOrders=true:=by kernel_rfl
theorem bCJ(E:En):∀p∈ntL,p.1<4096∧aOP Tryz.prog E p.1 p.2:=by
 intro p hp;unfold ntL at hp;rcases List.mem_cons.1 hp with rfl|hp
 ·exact⟨by decide,aYs Tryz.func105 (by kernel_rfl) (by kernel_rfl) (by kernel_rfl) (by kernel_rfl)⟩
 rcases List.mem_cons.1 hp with rfl|hp
 ·exact⟨by decide,aYt Tryz.func144 (by kernel_rfl) (by kernel_rfl) (by kernel_rfl) (by kernel_rfl)⟩
 cases hp
theorem aW1:aAS E 100 6 [] (aQA gts) isTrue aLi=true:=by decide +kernel
theorem aYV(S:Nat→Prop)(w:World)(h:Go.Vc.jM Nu.GL S w):∀t∈gts,GtR w t:=by
 intro t ht;unfold gts at ht;rcases List.mem_cons.1 ht with rfl|ht
 ·have:=h 2;rw[Nu.GL0,Nu.aSt] at this;exact aWg this (by decide)
 rcases List.mem_cons.1 ht with rfl|ht
 ·have:=h 8;rw[Nu.GL3,Nu.aWi] at this;exact aWg this (by decide)
 cases ht
theorem bAQ:Go.Vc.FOK Tryz.prog Nu.GL 6 ⟨.unit,.one .bool,fun _=>True,fun _=>true⟩:=by
 have hb:∃I,Tryz.f6.body=some I:=⟨_,rfl⟩;obtain⟨I,hb⟩:=hb;exact aWh mixed (bBq bBJ) (bBr bBK (bCJ _)) Tryz.func6 hb (by decide +kernel) bBL aW1 aYV
end Go.Proofs.YthkfoehkabnlpaaGreatDoor.It
namespace Go.Proofs
open Go.Vc
set_option maxRecDepth 20000
namespace Nu
noncomputable section
set_option maxHeartbeats 4000000
attribute [-go_sem] Ex.kind Ex.text Ex.l
@[go_sem]def nQ:Ty:=.pair .expr qn
@[go_sem]def oH(g:Ex→Int→Option (Int)):aF:=mSpec nQ (.one qf) (fun x=>g x.1 x.2.1)
def gR(F:Md)(g:Ex→Int→Option (Int))(N:Ex)(I:Int)(U:Int)(J:Int):Option (qv⊕(Int)) :=
 if (J<(((N.l).length:Nat):Int))∧(U≤(200:Int)) then ck (0≤J∧J<(((N.l).length:Nat):Int)) (ck (I64 (I+(1:Int))) (ck ((g ((N.l).getD (J.toNat) (Ex.mk 0 [] [])) (I+(1:Int))).isSome=true) (ck (I64 (U+((g ((N.l).getD (J.toNat) (Ex.mk 0 [] [])) (I+(1:Int))).getD (0:Int)))) (ck (I64 (J+(1:Int))) (some (.inl ((U+((g ((N.l).getD (J.toNat) (Ex.mk 0 [] [])) (I+(1:Int))).getD (0:Int))),(J+(1:Int))))))))) else some (.inr U)
def gM(F:Md)(g:Ex→Int→Option (Int))(J:Ex)(I:Int):Option Int :=
 if ((40:Int)<I)∨((100:Int)<(((J.text).length:Nat):Int)) then some (201:Int) else (dC F (fun d:Int×Int=>gR F g J I d.1 d.2) ((1:Int),(0:Int))).bind (fun e=>some (min e (201:Int)))
abbrev aAN(F:Md)(g:Ex→Int→Option (Int)):List (FuncId×aF):=[(11,(oH g))]
theorem aET(F:Md)(g:Ex→Int→Option (Int))(I:FOK Tryz.prog GL 11 (oH g)):bU Tryz.prog GL (aAN F g):=.cons I xC (.nil)
theorem aJX(F:Md)(g:Ex→Int→Option (Int))(hg:FOK Tryz.prog GL 11 (oH g)):FOK Tryz.prog GL 11 (mSpec nQ (.one qf) (fun x=>gM F g x.1 x.2.1)):=by
 refine yP (bQ (aET F g hg)) Tryz.func11 rfl xC xAa fun w0 S x r hw h=>?_;have hF:oY (fr Tryz.prog (EM (aAN F g)) S w0 Tryz.f11.ntmps):=⟨bQ (aET F g hg),mix⟩;obtain⟨(N:Ex),(I:Int),u⟩:=x;simp only[nQ,Ty.wf,aDd] at hw;simp only[cC,nQ];try dsimp only at h
 replace h:gM F g N I=some r:=h;unfold gM at h;refine aK (bT hF [1,2] (yaA ?_));refine aL (aK (aP hF [1,2,5] (yaA ?_)));refine aL (aK (aK (aP hF [1,2,5,14] (yaA ?_))));refine aL (cW rfl (fun hc=>?_) (fun hc=>?_))
 ·try simp only[go_sem] at hc
  have h:=pK zAC h;refine aK (aP hF [4] (yaA ?_));obtain rfl:=Option.some.inj h;refine aL (jO (kX (mE hF [.tmp 4] rfl rfl rfl ?_)));exact zaI
 ·try simp only[go_sem] at hc
  have h:=pL zAC h;refine dZ (aL (aK (aK (aP hF [1,2,5,6] (yaA ?_)))));refine aL (iM (aFj (D:=Int×Int) [1] (fun d=>[(2,.ptr 0 []),(5,.val qf d.1),(6,.val qf d.2)]) (fun d=>[.inr (.box 3 (.val .expr N))]) h ?_ ?_ ?_))
  ·first|rfl|(simp only[go_sem]; done)
  ·exact zAE
  rintro⟨Y,U⟩ s5 h J;simp only[go_sem];try dsimp only at h
  unfold gR at h;refine aK (aK (aP hF [1,2,5,6,23] (yaA ?_)));refine aL (cW rfl (fun hc=>?_) (fun hc=>?_))
  ·(try simp only[go_sem] at hc);have h:=pK zAC h;refine dZ (aL (aK (iM (aP hF [1,2,5,6] (yaA ?_)))));obtain⟨g0,h⟩:=bV h;obtain⟨g1,h⟩:=bV h;obtain⟨g2,h⟩:=bV h;obtain⟨g3,h⟩:=bV h;(try simp only[I64,I32] at g1);(try simp only[I64,I32] at g3);(repeat (refine⟨zAA,?_⟩));refine nY (aL (aP hF [1,2,5,6] (yaA ?_)));obtain⟨g0,h⟩:=bV h;(try simp only[I64,I32] at g0);(repeat (refine⟨zAA,?_⟩));obtain rfl:=Option.some.inj h;dsimp only[aD7] at J;refine bY (aR ((Y+((g ((N.l).getD (U.toNat) (Ex.mk 0 [] [])) (I+(1:Int))).getD (0:Int))),(U+(1:Int))) J rfl ?_)
   ·exact zAE
  ·(try simp only[go_sem] at hc);have h:=pL zAC h;obtain rfl:=Option.some.inj h;dsimp only[aD7] at J;have h:=yaF (J);refine lM (bO (bO (dA (aL (aK (aP hF [4] (yaA ?_)))))));obtain rfl:=Option.some.inj h;refine aL (jO (mE hF [.tmp 4] rfl rfl rfl ?_));exact zaI
def iI(F:Md):Nat→Ex→Int→Option (Int)
 | 0=>fun _ _=>none
 | n+1=>gM F (iI F n)
def tI(F:Md)(n:Nat):aF:=mSpec nQ (.one qf) (fun x=>iI F n x.1 x.2.1)
theorem aC2(F:Md):∀n,FOK Tryz.prog GL 11 (tI F n)
 | 0=>fun _ _ _ _ _ _ _ hp=>Bool.noConfusion (show false=true from hp)
 | n+1=>aJX F _ (aC2 F n)
attribute [go_sem] tI
def lV(F:Md)(J:Ex):Option Bool :=
 (iI F 64 J (1:Int)).bind (fun I=>some (decide (I≤(200:Int))))
def aB1:PlR:=⟨[(0,.B [1]),(1,.A [2])],[],[]⟩
def aC3:Ty:=.pair .expr .unit
def rQ(F:Md):aF:=mSpec aC3 (.one .bool) (fun x=>lV F x.1)
abbrev aC4(F:Md):List (FuncId×aF):=[(11,(tI F 64))]
theorem aKL(F:Md):bU Tryz.prog GL (aC4 F):=.cons (aC2 F 64) xC (.nil)
attribute [go_sem] aC3 aB1
theorem aJY(F:Md):FOK Tryz.prog GL 5 (rQ F):=by
 refine cF (bQ (aKL F)) mix Tryz.func5 rfl xC xAa aB1 (fun w0 S x Θ N h hV=>?_);obtain⟨(I:Ex),u⟩:=x;simp only[cC,go_sem];replace h:sat (lV F I) _:=h;unfold lV at h;refine aW h fun J hv h=>?_;try simp only[hv,go_sem]
 exact zaD
attribute [go_sem] rQ
@[go_sem]def tJ:Ty:=.pair .expr .unit
@[go_sem]def nC(g:Ex→Option (Int)):aF:=mSpec tJ (.one qf) (fun x=>g x.1)
def iZ(F:Md)(g:Ex→Option (Int))(U:Ex)(J:Int)(I:Int):Option (qv⊕(Int)) :=
 if I<(((U.l).length:Nat):Int) then ck (0≤I∧I<(((U.l).length:Nat):Int)) ((g ((U.l).getD (I.toNat) (Ex.mk 0 [] []))).bind (fun N=>ck (I64 (J+N)) (ck (I64 (I+(1:Int))) (some (.inl ((J+N),(I+(1:Int)))))))) else some (.inr J)
def jK(F:Md)(g:Ex→Option (Int))(I:Ex):Option Int :=
 (dC F (fun d:Int×Int=>iZ F g I d.1 d.2) ((1:Int),(0:Int))).bind (fun e=>some e)
def aB2:PlR:=⟨[(0,.B [1]),(1,.A [1,3]),(2,.A [1,3,4]),(3,.A [1,3,4,9]),(4,.A [1,3,4]),(5,.A [1,3,4]),(6,.A [2])],[],[]⟩
abbrev aC5(F:Md)(g:Ex→Option (Int)):List (FuncId×aF):=[(10,(nC g))]
theorem aKM(F:Md)(g:Ex→Option (Int))(I:FOK Tryz.prog GL 10 (nC g)):bU Tryz.prog GL (aC5 F g):=.cons I xC (.nil)
attribute [go_sem] aB2
theorem aHA(F:Md)(g:Ex→Option (Int))(hg:FOK Tryz.prog GL 10 (nC g)):FOK Tryz.prog GL 10 (mSpec tJ (.one qf) (fun x=>jK F g x.1)):=by
 refine cF (bQ (aKM F g hg)) mix Tryz.func10 rfl xC xAa aB2 (fun w0 S x Θ hw h hV=>?_);obtain⟨(I:Ex),u⟩:=x;simp only[cC,go_sem];replace h:sat (jK F g I) _:=h;unfold jK at h;refine bZ hV (D:=Int×Int) [] (fun d=>[(1,.ptr 0 []),(3,.val qf d.1),(4,.val qf d.2)]) (fun d=>[.inr (.box 3 (.val .expr I))]) h rfl xAb ?_;rintro⟨N,J⟩ A3 T3 Y U h;simp only[go_sem];replace h:sat (iZ F g I N J) _:=h;unfold iZ at h;refine gF h (fun hc h=>?_) fun hc h=>?_
 ·refine aD h fun g0 h=>(yaE ?_);refine aW h fun v_22 hv h=>?_;try simp only[hv,go_sem]
  refine aD h fun g0 h=>?_;try simp only[I64,I32] at g0
  repeat (refine⟨zAB,?_⟩)
  refine aD h fun g0 h=>?_;try simp only[I64,I32] at g0
  repeat (refine⟨zAB,?_⟩)
  replace h:=Y _ (aC h);exact zaG
 ·replace h:=yaF (U _ (aC h));exact zaD
def lW(F:Md):Nat→Ex→Option (Int)
 | 0=>fun _=>none
 | n+1=>jK F (lW F n)
def rR(F:Md)(n:Nat):aF:=mSpec tJ (.one qf) (fun x=>lW F n x.1)
theorem aB3(F:Md):∀n,FOK Tryz.prog GL 10 (rR F n)
 | 0=>fun _ _ _ _ _ _ _ hp=>Bool.noConfusion (show false=true from hp)
 | n+1=>aHA F _ (aB3 F n)
attribute [go_sem] rR
def aEU:Bool:=true
@[go_sem]def tK:aF:=⟨.unit,.one .bool,fun _=>True,fun _=>aEU⟩
theorem aKN:FOK Tryz.prog GL 6 tK:=Go.Proofs.YthkfoehkabnlpaaGreatDoor.It.bAQ
def fM(F:Md)(N:Int)(J:(qm×qq))(I:Int):Option ((Int)⊕((Unit)⊕Bool)) :=
 if I<N then ck (0≤I∧I<(J.1.1.length:Int)) (ck (¬(((6:Int)≤(J.1.1.getD (I.toNat) (0,0,0,((false,[],0,()),(false,[],0,()),()),())).1)∧(I≤(J.1.1.getD (I.toNat) (0,0,0,((false,[],0,()),(false,[],0,()),()),())).2.1))→(((6:Int)≤(J.1.1.getD (I.toNat) (0,0,0,((false,[],0,()),(false,[],0,()),()),())).1)∧((J.1.1.getD (I.toNat) (0,0,0,((false,[],0,()),(false,[],0,()),()),())).1≤(9:Int)))→(I64 (I-(1:Int)))) (ck (¬((((6:Int)≤(J.1.1.getD (I.toNat) (0,0,0,((false,[],0,()),(false,[],0,()),()),())).1)∧(I≤(J.1.1.getD (I.toNat) (0,0,0,((false,[],0,()),(false,[],0,()),()),())).2.1))∨((((6:Int)≤(J.1.1.getD (I.toNat) (0,0,0,((false,[],0,()),(false,[],0,()),()),())).1)∧((J.1.1.getD (I.toNat) (0,0,0,((false,[],0,()),(false,[],0,()),()),())).1≤(9:Int)))∧(¬((J.1.1.getD (I.toNat) (0,0,0,((false,[],0,()),(false,[],0,()),()),())).2.2.1=(I-(1:Int))))))→((10:Int)≤(J.1.1.getD (I.toNat) (0,0,0,((false,[],0,()),(false,[],0,()),()),())).1)→(I64 (I-(1:Int)))) (if ((((6:Int)≤(J.1.1.getD (I.toNat) (0,0,0,((false,[],0,()),(false,[],0,()),()),())).1)∧(I≤(J.1.1.getD (I.toNat) (0,0,0,((false,[],0,()),(false,[],0,()),()),())).2.1))∨((((6:Int)≤(J.1.1.getD (I.toNat) (0,0,0,((false,[],0,()),(false,[],0,()),()),())).1)∧((J.1.1.getD (I.toNat) (0,0,0,((false,[],0,()),(false,[],0,()),()),())).1≤(9:Int)))∧(¬((J.1.1.getD (I.toNat) (0,0,0,((false,[],0,()),(false,[],0,()),()),())).2.2.1=(I-(1:Int))))))∨(((10:Int)≤(J.1.1.getD (I.toNat) (0,0,0,((false,[],0,()),(false,[],0,()),()),())).1)∧(¬((J.1.1.getD (I.toNat) (0,0,0,((false,[],0,()),(false,[],0,()),()),())).2.1=(I-(1:Int))))) then some (.inr (.inr false)) else ck (I64 (I+(1:Int))) (some (.inl (I+(1:Int))))))) else some (.inr (.inl ()))
def jA(F:Md)(U:Ex)(names_1:qk)(N:Int):Option Bool :=
 (lV F U).bind (fun Y=>if (¬(Y=true))∨((6:Int)<(names_1.length:Int)) then some aEU else ck (I64 ((8:Int)+(IntKind.i64.wrap ((((N%(18446744073709551616:Int)).toNat%(193:Nat)):Nat):Int)))) ((lI F U names_1 ([]:List qd) ([]:List qd) ((8:Int)+(IntKind.i64.wrap ((((N%(18446744073709551616:Int)).toNat%(193:Nat)):Nat):Int)))).bind (fun I=>if ¬(I.2.1=(0:Int)) then some (((aEU&&(decide (I.2.1=(1:Int))))&&(decide ((I.1.1.length:Int)=(0:Int))))&&(decide ((I.1.2.1.length:Int)=(0:Int)))) else (lW F 64 U).bind (fun J=>ck (¬((¬((I.1.1.length:Int)=J))∨(¬((I.1.2.1.length:Int)=(1:Int))))→((0:Int)<(I.1.2.1.length:Int))) (ck (¬((¬((I.1.1.length:Int)=J))∨(¬((I.1.2.1.length:Int)=(1:Int))))→(I64 (J-(1:Int)))) (if ((¬((I.1.1.length:Int)=J))∨(¬((I.1.2.1.length:Int)=(1:Int))))∨(¬((I.1.2.1.getD (0:Nat) (0:Int))=(J-(1:Int)))) then some false else (dC F (fun d:Int=>fM F J I d) (0:Int)).bind (fun e=>match e with|(.inl e)=>some aEU|(.inr e)=>some e)))))))
def uQ:PlR:=⟨[(0,.B [1,2,3]),(1,.A [1,2,3,20]),(2,.A [6]),(3,.A [1,3,7]),(4,.B [3,8,9]),(5,.A [3,8,9,35]),(6,.A [6]),(7,.A [8,10]),(8,.A [8,10,74]),(9,.A [6]),(10,.A [8,10,11]),(11,.A [8,10,11,77]),(12,.A [8,10,11]),(13,.B [8,10,11,12]),(14,.A [8,10,11,122]),(15,.A [6]),(16,.A [6])],[],[]⟩
def lJ:Ty:=.pair .expr (.pair qo qn)
def uR(F:Md):aF:=mSpec lJ (.one .bool) (fun x=>jA F x.1 x.2.1 x.2.2.1)
abbrev jB(F:Md):List (FuncId×aF):=[(10,(rR F 64)),(5,(rQ F)),(6,tK),(7,(tH F))]
theorem aDG(F:Md):bU Tryz.prog GL (jB F):=.cons (aB3 F 64) xC (.cons (aJY F) xC (.cons aKN xC (.cons (aKK F) xC (.nil))))
attribute [go_sem] lJ uQ
theorem aCz(F:Md):FOK Tryz.prog GL 4 (uR F):=by
 refine cF (bQ (aDG F)) mix Tryz.func4 rfl xC xAa uQ (fun w0 S x Θ hw h hV=>?_);obtain⟨(e_0:Ex),(names_1:qk),(I:Int),u⟩:=x;simp only[cC,go_sem];replace h:sat (jA F e_0 names_1 I) _:=h;unfold jA at h;refine aW h fun v_9 hv h=>?_;try simp only[hv,go_sem]
 refine⟨fun hc=>?_,fun hc=>?_⟩
 ·replace h:=kJ zAC h;exact zaU
 ·replace h:=kK zAC h;refine aD h fun g0 h=>(yaB ?_);refine aW h fun N hv h=>?_;try simp only[hv,go_sem]
  refine cY h (fun hc h=>?_) fun hc h=>?_
  ·exact aQ hV [.tmp 6] rfl rfl rfl (aC h) xAd
  ·refine aW h fun v_15 hv h=>?_;(try simp only[hv,go_sem]);refine aD h fun g0 h=>?_;refine aD h fun g1 h=>(yaB ?_);refine⟨fun hc=>?_,fun hc=>?_⟩
   ·replace h:=kJ hc h;exact zaU
   ·replace h:=kK hc h;refine aHI [1] rfl rfl (yaA ?_);refine bZ hV (D:=Int) [10] (fun d=>[(8,.ptr 0 []),(11,.val qf d)]) (fun d=>[.inr (.box 2 (.val qy N.1))]) h rfl xAb ?_;rintro Y A11 T11 U J h;simp only[go_sem];replace h:sat (fM F v_15 N Y) _:=h;unfold fM at h;refine gF h (fun hc h=>?_) fun hc h=>?_
    ·refine aD h fun g0 h=>(yaB ?_);refine aD h fun g0 h=>?_;refine aD h fun g1 h=>(yaB ?_);refine⟨fun hc=>?_,fun hc=>?_⟩
     ·replace h:=kJ hc h;replace h:=yaF (J _ (aC h));exact zaU
     ·replace h:=kK hc h;refine aD h fun g0 h=>(yaB ?_);replace h:=U _ (aC h);refine nU [0] rfl rfl (yaA ?_);exact zaG
    ·replace h:=yaF (J _ (aC h));exact zaU
attribute [go_sem] uR
theorem aEV{b:Bool}{e:Int}(h:b=true):fK none b e=some (.inl ()):=by rw[h]; rfl
theorem zK{b:Bool}{e:Int}(h:b=false):fK none b e=some (.inr (e,())):=by rw[h]; rfl
def aQ3(p:Int)(l:List Dy):Unit⊕qq:=if 1≤p∧p≤2000∧l.all aCy=true then .inl () else .inr (1,())
theorem aYW(p:Int)(l:List Dy)(hl:l.length≤9223372036854775807):mX none p l=some (aQ3 p l):=by
 have Y:dC none (fun d:Int=>gL none l d) 0=some (if l.all aCy=true then (.inl ():Unit⊕qq) else .inr (1,())):=by
  have:=oA (step:=fun d:Int=>gL none l d) (I:=fun i=>0≤i∧i≤l.length) (fun i=>(l.length-i).toNat) (fun i=>if (l.drop i.toNat).all aCy=true then (.inl ():Unit⊕qq) else .inr (1,())) ?_ 0 ⟨by omega,by omega⟩
  ·have e:l.drop (0:Int).toNat=l:=rfl;rw[e] at this;exact this
  ·rintro i ⟨i0,i1⟩;show (∃d',gL none l i=_∧_)∨gL none l i=_;unfold gL;by_cases hi:i<l.length
   ·have hk:i.toNat<l.length:=(by omega);have hd:l.drop i.toNat=l.getD i.toNat d0::l.drop (i.toNat+1):=by
     rw[List.drop_eq_getElem_cons hk,List.getD_eq_getElem?_getD,List.getElem?_eq_getElem hk]; rfl
    by_cases J:aCy (l.getD i.toNat d0)=true
    ·left
     refine⟨i+1,?_,⟨by omega,by omega⟩,by omega,?_⟩
     ·rw[if_pos hi];refine aB (by constructor<;>omega) (aB (by rw[aNf]; rfl) ?_);rw[aNf];refine bF (aEV J) ?_;exact aB (by constructor<;>omega) rfl
     ·rw[hd,List.all_cons,J,Bool.true_and,show (i+1).toNat=i.toNat+1 from by omega]
    ·right
     rw[if_pos hi];refine aB (by constructor<;>omega) (aB (by rw[aNf]; rfl) ?_);rw[aNf];refine bF (zK ((Bool.not_eq_true _).mp J)) ?_;rw[hd,List.all_cons];have:aCy (l.getD i.toNat d0)=false:=(Bool.not_eq_true _).mp J;rw[this];rfl
   ·right
    rw[if_neg hi,List.drop_eq_nil_of_le (by omega)];rfl
 unfold mX aQ3;by_cases N:1≤p
 ·rw[if_pos N];by_cases h2:p≤2000
  ·refine bF (aEV (by simp; omega)) ?_;unfold kS;rw[Y];by_cases U:l.all aCy=true
   ·rw[if_pos U,if_pos ⟨N,h2,U⟩]; rfl
   ·rw[if_neg U,if_neg (fun h=>U h.2.2)]; rfl
  ·refine bF (zK (by simp; omega)) ?_;rw[if_neg (fun h=>h2 h.2.1)]
 ·rw[if_neg N];refine bF (zK rfl) ?_;rw[if_neg (fun h=>N h.1)]
def aQ4(neg:Bool)(m:Nat)(e:Int)(rest:Bool)(p:Int)(up:Bool):Dy⊕qq :=
 let n:=(bl m:Int)-p
 let m1:=if 0<n then m/2^n.toNat else m
 let J:=if 0<n then e+n else e
 let r1:=if 0<n then rest||decide (m%2^n.toNat≠0) else rest
 let I:=if r1=true∧(up != neg)=true then m1+1 else m1
 match aKF neg I J with
 | (d,f,_)=>if f=0 then .inl d else .inr (f,())
theorem aYX{m n:Nat}(h:m≠0):tzn m<n↔m%2^n≠0:=by
 obtain⟨q,hq⟩:=wX h;constructor
 ·intro I J;obtain⟨k,N⟩:=Nat.dvd_of_mod_eq_zero J;rw[hq,show n=tzn m+(n-tzn m) from by omega,Nat.pow_add,Nat.mul_assoc] at N;have Y:=Nat.eq_of_mul_eq_mul_left (Nat.two_pow_pos _) N;rw[show n-tzn m=(n-tzn m-1)+1 from by omega,Nat.pow_succ,Nat.mul_comm (2^(n-tzn m-1)) 2,Nat.mul_assoc] at Y;omega
 ·intro J;rcases Nat.lt_or_ge (tzn m) n with I|U
  ·exact I
  ·exfalso;apply J;rw[hq,show tzn m=n+(tzn m-n) from by omega,Nat.pow_add,Nat.mul_assoc];exact Nat.mul_mod_right _ _
theorem aYY(x:Nat):(lb (x+1)).length≤(lb x).length+1 :=
 nV.2 (Nat.lt_of_le_of_lt (nV.1 (Nat.le_refl (lb x).length)) (Nat.pow_lt_pow_right xAa (by omega)))
theorem bAR(neg:Bool)(m:List Nat)(e:Int)(rest:Bool)(p:Int)(up:Bool)(lm:Lm m)(N:Nrm m)(sm:m.length≤549755813888)(hp:1≤p∧p≤2000)(he: -1000000000000≤e∧e≤1000000000000) :
  mY none neg m e rest p up=some (aQ4 neg (nv m) e rest p up):=by
 have hb:bI m=(bl (nv m):Int):=rfl;have hbl:bl (nv m)≤64*m.length:=by
  refine aCJ ?_;rw[← uH]; exact jG lm
 have j2:∀(x:Nat) (I:Int),(lb x).length≤1099511627776→iX none neg I (lb x)=some (match aKF neg x I with|(d,f,_)=>if f=0 then .inl d else .inr (f,())):=by
  intro x I hx;unfold iX;rw[aWT neg (lb x) I (aCI x) (aFJ x) hx,nR];refine aB rfl ?_;simp only[Option.getD_some];rcases aKF neg x I with⟨d,f,u⟩
  by_cases J:f=0
  ·refine bF (aEV (by simpa using J)) ?_;simp only; rw[if_pos J]
  ·refine bF (zK (by simpa using J)) ?_;simp only; rw[if_neg J]
 have j1:∀(x:Nat) (I:Int) (r:Bool),(lb x).length≤549755813888→iY none up neg (lb x) I r=some (match aKF neg (if r=true∧(up != neg)=true then x+1 else x) I with|(d,f,_)=>if f=0 then .inl d else .inr (f,())):=by
  intro x I r hx;unfold iY;by_cases h:r=true∧(up != neg)=true
  ·rw[if_pos h,if_pos h];refine aB ⟨by show (lb x).length≤_; omega,by show (1:Nat)≤_; decide⟩ ?_;have:jX (lb x) [1]=lb (x+1):=by
    unfold jX; rw[nR]; rfl
   rw[this];refine j2 _ _ ?_;have:=aYY x;omega
  ·rw[if_neg h,if_neg h];exact j2 _ _ (by omega)
 unfold mY aQ4;rw[hb];refine aB ⟨N,by show m.length≤_; omega⟩ (aB (by constructor<;>omega) ?_);by_cases U:0<(bl (nv m):Int)-p
 ·have Y:nv m≠0:=by
   intro h; rw[h] at U;have:bl 0=0:=rfl;omega
  have hz:cQ m=(tzn (nv m):Int):=by unfold cQ; rw[if_neg Y]
  have hd:decide ((tzn (nv m):Int)<(bl (nv m):Int)-p)=decide (nv m%2^((bl (nv m):Int)-p).toNat≠0):=by
   have:=aYX (n:=((bl (nv m):Int)-p).toNat) Y;refine decide_eq_decide.2 (Iff.trans ?_ this);omega
  simp only[if_pos U];rw[hz,hd];refine aB (fun _=>by show m.length≤_; omega) (aB ⟨by show m.length≤_; omega,by omega⟩ (aB (by constructor<;>omega) ?_));unfold gH;refine j1 _ _ _ ?_;exact aZr m lm (Nat.div_le_self _ _) sm
 ·simp only[if_neg U];have:=j1 (nv m) e rest (by rw[aSw lm N]; exact sm);rw[aSw lm N] at this;exact this
def aJZ(a b:Dy)(p:Int)(up:Bool):Dy⊕qq :=
 match aQ3 p [a,b] with
 | .inr e=>.inr e
 | .inl _=>if b.2.1.length=0 then .inr (4,()) else
  let k:=max 0 (p+1+(bl (nv b.2.1):Int)-(bl (nv a.2.1):Int))
  aQ4 (a.1 != b.1) (nv a.2.1*2^k.toNat/nv b.2.1) (a.2.2.1-b.2.2.1-k) (decide (nv a.2.1*2^k.toNat%nv b.2.1≠0)) p up
theorem aYZ(a b:Dy)(p:Int)(up:Bool)(la:Lm a.2.1)(Y:Lm b.2.1):jS none a b p up=some (told d0 (aJZ a b p up)):=by
 have I:kT none p a b up=some (aJZ a b p up):=by
  unfold kT aJZ;rw[aYW p [a,b] (by simp)];simp only[Option.bind_some];cases hm:aQ3 p [a,b] with
  | inr e=>rfl
  | inl u =>
   unfold aQ3 at hm;split at hm
   ·rename_i hh;obtain⟨p1,p2,J⟩:=hh;simp only[List.all_cons,List.all_nil,Bool.and_true,Bool.and_eq_true] at J;obtain⟨a1,a2,a3,a4⟩:=aFY J.1;obtain⟨b1,b2,b3,b4⟩:=aFY J.2;simp only;by_cases hb:b.2.1.length=0
    ·rw[if_pos hb];refine bF (zK (decide_eq_false (by omega))) rfl
    ·rw[if_neg hb];have U:nv b.2.1≠0:=(by have:=aCt b2 (fun e=>hb (by rw[e]; rfl)); omega);have hba:bl (nv a.2.1)≤64*a.2.1.length:=aCJ (by rw[← uH]; exact jG la);have hbb:bl (nv b.2.1)≤64*b.2.1.length:=aCJ (by rw[← uH]; exact jG Y);have e1:bI a.2.1=(bl (nv a.2.1):Int):=rfl;have e2:bI b.2.1=(bl (nv b.2.1):Int):=rfl;rw[e1,e2];have N:∃k:Nat,max (0:Int) (p+1+(bl (nv b.2.1):Int)-(bl (nv a.2.1):Int))=(k:Int)∧k≤6200:=⟨(max (0:Int) (p+1+(bl (nv b.2.1):Int)-(bl (nv a.2.1):Int))).toNat,by omega,by omega⟩;obtain⟨k,N,hk2⟩:=N;rw[N];have hA:nv a.2.1*2^k<18446744073709551616^200:=by
      have I:=jG la;rw[uH] at I;have h4:=Nat.mul_lt_mul_of_pos_right I (Nat.two_pow_pos k);rw[← Nat.pow_add] at h4;exact aSF _ h4 (by omega)
     have hL:dR a.2.1 (k:Int)=lb (nv a.2.1*2^k):=(by unfold dR; rw[Int.toNat_natCast]);rw[hL];have hLl:(lb (nv a.2.1*2^k)).length≤200:=nV.2 hA;refine bF (aEV (decide_eq_true (by omega))) ?_;refine aB (by constructor<;>omega) (aB ⟨b2,by show b.2.1.length≤_; omega⟩ (aB (by constructor<;>omega) (aB ⟨a2,by show a.2.1.length≤_; omega⟩ (aB (by constructor<;>omega) (aB ⟨by show a.2.1.length≤_; omega,by omega,by omega⟩ (aB ⟨aFJ _,b2,U,by omega⟩ (aB (by constructor<;>omega) (aB (by constructor<;>omega) ?_))))))));have hq:(fI (lb (nv a.2.1*2^k)) b.2.1).1=lb (nv a.2.1*2^k/nv b.2.1):=(by unfold fI; rw[nR]);have hr:decide ((0:Int)<(((fI (lb (nv a.2.1*2^k)) b.2.1).2.1.length:Nat):Int))=decide (nv a.2.1*2^k%nv b.2.1≠0):=by
      refine decide_eq_decide.2 ?_;unfold fI;rw[nR];simp only;constructor
      ·intro h e; rw[aFI.2 e] at h; simp at h
      ·intro h;have:=List.length_pos_iff.2 (fun e=>h (aFI.1 e));omega
     rw[hq,hr];rw[bAR _ _ _ _ p up (aCI _) (aFJ _) (by have:=nV.2 (Nat.lt_of_le_of_lt (Nat.div_le_self (nv a.2.1*2^k) (nv b.2.1)) hA); omega) ⟨p1,p2⟩ (by constructor<;>omega),nR];simp only[Option.bind_some,Int.toNat_natCast];cases aQ4 (a.1 != b.1) (nv a.2.1*2^k/nv b.2.1) (a.2.2.1-b.2.2.1-(k:Int)) (decide (nv a.2.1*2^k%nv b.2.1≠0)) p up<;>rfl
   ·cases hm
 have h2:cT none p a b up=some (told d0 (aJZ a b p up)):=by
  unfold cT;rw[I];simp only[Option.bind_some];cases aJZ a b p up<;>rfl
 unfold jS;exact bF h2 rfl
def rq(A B k:Nat):Nat:=A*2^k/B
def rn(A B p k:Nat):Nat:=bl (rq A B k)-p
def rM(A B p k:Nat):Nat:=rq A B k/2^rn A B p k
def rE(A B p k:Nat):Int:=(rn A B p k:Int)-(k:Int)
def rS(A B p k:Nat):Bool:=decide (A*2^k%(B*2^rn A B p k)≠0)
theorem aSL(A B k d:Nat):rq A B (k+d)/2^d=rq A B k:=by
 unfold rq;rw[Nat.div_div_eq_div_mul,Nat.pow_add,← Nat.mul_assoc,Nat.mul_div_mul_right _ _ (Nat.two_pow_pos d)]
theorem bAS{x d:Nat}(h:x/2^d≠0):bl x=bl (x/2^d)+d:=by
 have e:=Nat.div_add_mod x (2^d);have m:=Nat.mod_lt x (Nat.two_pow_pos d);have:=aQE (x:=x/2^d) (m:=x%2^d) (k:=d) h m;rw[Nat.add_comm] at e;rw[e] at this;omega
theorem aW2{A B p k d:Nat}(hp:1≤p)(h:2^p≤rq A B k):rM A B p (k+d)=rM A B p k∧rE A B p (k+d)=rE A B p k∧rS A B p (k+d)=rS A B p k:=by
 have hq:=aSL A B k d;have Y:=Nat.two_pow_pos p;have hb:=bAS (x:=rq A B (k+d)) (d:=d) (by rw[hq]; omega);rw[hq] at hb;have I:p+1≤bl (rq A B k):=by
  rcases Nat.lt_or_ge (bl (rq A B k)) (p+1) with hlt|I
  ·have N:=aGn (rq A B k);have J:2^bl (rq A B k)≤2^p:=Nat.pow_le_pow_right xAa (by omega);omega
  ·exact I
 have U:rn A B p (k+d)=rn A B p k+d:=by unfold rn; omega
 refine⟨?_,?_,?_⟩
 ·unfold rM;rw[U,Nat.add_comm (rn A B p k) d,Nat.pow_add,← Nat.div_div_eq_div_mul,hq]
 ·unfold rE; rw[U]; omega
 ·unfold rS;rw[U,Nat.pow_add,Nat.pow_add,← Nat.mul_assoc,← Nat.mul_assoc,Nat.mul_mod_mul_right];refine decide_eq_decide.2 ?_;have:=Nat.two_pow_pos d;constructor
  ·intro N J; apply N; rw[J,Nat.zero_mul]
  ·intro N J;rcases Nat.mul_eq_zero.1 J with h3|h3
   ·exact N h3
   ·omega
theorem aW3{A B p k:Nat}(J:A≠0)(U:B≠0)(h:p+bl B≤bl A-1+k):2^p≤rq A B k:=by
 unfold rq;refine(Nat.le_div_iff_mul_le (by omega)).2 ?_;have I:=aMD J;have N:=aGn B
 calc 2^p*B≤2^p*2^bl B:=Nat.mul_le_mul_left _ (Nat.le_of_lt N)
  _=2^(p+bl B):=(Nat.pow_add _ _ _).symm
  _≤2^(bl A-1+k):=Nat.pow_le_pow_right xAa h
  _=2^(bl A-1)*2^k:=Nat.pow_add _ _ _
  _≤A*2^k:=Nat.mul_le_mul_right _ I
theorem bAT{A B p k k':Nat}(hp:1≤p)(h:2^p≤rq A B k)(h':2^p≤rq A B k'):rM A B p k=rM A B p k'∧rE A B p k=rE A B p k'∧rS A B p k=rS A B p k':=by
 obtain⟨a1,a2,a3⟩:=aW2 (d:=k') hp h;obtain⟨b1,J,I⟩:=aW2 (d:=k) hp h';rw[Nat.add_comm k' k] at b1 J I;exact⟨a1.symm.trans b1,a2.symm.trans J,a3.symm.trans I⟩
def rm2(A B p k:Nat)(up:Bool):Nat:=if rS A B p k=true∧up=true then rM A B p k+1 else rM A B p k
theorem bBM{A B p k:Nat}{e:Int}{up:Bool}(hp:1≤p)(h:2^p≤rq A B k) :
  aQ4 false (rq A B k) (e-(k:Int)) (decide (A*2^k%B≠0)) (p:Int) up=match aKF false (rm2 A B p k up) (e+rE A B p k) with|(d,f,_)=>if f=0 then .inl d else .inr (f,()):=by
 have J:p+1≤bl (rq A B k):=by
  rcases Nat.lt_or_ge (bl (rq A B k)) (p+1) with hlt|J
  ·have I:=aGn (rq A B k);have N:2^bl (rq A B k)≤2^p:=Nat.pow_le_pow_right xAa (by omega);omega
  ·exact J
 have hn:((bl (rq A B k):Int)-(p:Int)).toNat=rn A B p k:=by unfold rn; omega
 have hS:(decide (A*2^k%B≠0)||decide (rq A B k%2^rn A B p k≠0))=rS A B p k:=by
  unfold rS;rw[Nat.mod_mul,← Bool.decide_or];refine decide_eq_decide.2 ?_;unfold rq;have hB:0<B:=by
   rcases Nat.eq_zero_or_pos B with U|U
   ·unfold rq at h; rw[U,Nat.div_zero] at h; have:=Nat.two_pow_pos p; omega
   ·exact U
  constructor
  ·rintro (I|I) N
   ·exact I (by omega)
   ·apply I;have:=Nat.mul_eq_zero.1 (show B*(A*2^k/B%2^rn A B p k)=0 by omega);omega
  ·intro I;by_cases N:A*2^k%B=0
   ·right; intro h3; apply I; rw[N,h3]; rfl
   ·exact .inl N
 have Y:0<(bl (rq A B k):Int)-(p:Int):=by omega
 unfold aQ4;simp only[hn,Y,if_true,hS];have e1:e-(k:Int)+((bl (rq A B k):Int)-(p:Int))=e+rE A B p k:=by unfold rE rn; omega
 rw[e1];have e2:(up != false)=up:=by cases up<;>rfl
 simp only[e2];rfl
theorem bBN{A B p k:Nat}:rM A B p k<2^p:=by
 unfold rM rn;refine(Nat.div_lt_iff_lt_mul (Nat.two_pow_pos _)).2 ?_;rw[← Nat.pow_add];exact Nat.lt_of_lt_of_le (aGn _) (Nat.pow_le_pow_right xAa (by omega))
theorem bAU{A B p k:Nat}{up:Bool}:rm2 A B p k up<2^(p+1):=by
 have:=bBN (A:=A) (B:=B) (p:=p) (k:=k);have I:2^(p+1)=2^p*2:=Nat.pow_succ ..;have J:=Nat.two_pow_pos p;unfold rm2;split<;>omega
theorem aQ5{x k:Nat}(h:x≠0):bl (x*2^k)=bl x+k:=by
 have:=aQE (x:=x) (m:=0) (k:=k) h (Nat.two_pow_pos k);rw[Nat.zero_add,Nat.mul_comm] at this;omega
theorem aY0{x y:Nat}(h:x≤y):bl x≤bl y:=aCJ (Nat.lt_of_le_of_lt h (aGn y))
theorem aW4{A B p k:Nat}(I:A≠0): -(k:Int)≤rE A B p k∧rE A B p k≤bl A:=by
 have J:bl (rq A B k)≤bl A+k:=by
  rw[← aQ5 I];exact aY0 (Nat.div_le_self _ _)
 unfold rE rn;constructor<;>omega
theorem bBO{A B A' B' p k za zb:Nat}(hp:1≤p)(hA:A=A'*2^za)(Y:B=B'*2^zb)(h:2^p≤rq A B k) :
  2^p≤rq A' B' (za+k)∧rM A' B' p (za+k)=rM A B p k∧rE A' B' p (za+k)+za-zb=rE A B p k∧rS A' B' p (za+k)=rS A B p k:=by
 obtain⟨a1,a2,a3⟩:=aW2 (d:=zb) hp h;have hz:=Nat.two_pow_pos zb;have N:rq A B (k+zb)=rq A' B' (za+k):=by
  unfold rq;rw[hA,Y,Nat.mul_assoc,← Nat.pow_add,← Nat.add_assoc,Nat.pow_add 2 (za+k),← Nat.mul_assoc,Nat.mul_div_mul_right _ _ hz]
 have U:rn A B p (k+zb)=rn A' B' p (za+k):=by unfold rn; rw[N]
 refine⟨?_,?_,?_,?_⟩
 ·rw[← N];have J:=aSL A B k zb;have I:=Nat.div_le_self (rq A B (k+zb)) (2^zb);omega
 ·rw[← a1]; unfold rM; rw[N,U]
 ·rw[← a2]; unfold rE; rw[U]; omega
 ·rw[← a3]; unfold rS;rw[U,hA,Y,Nat.mul_assoc A',← Nat.pow_add,← Nat.add_assoc,Nat.pow_add 2 (za+k),← Nat.mul_assoc,Nat.mul_right_comm B',Nat.mul_mod_mul_right];refine decide_eq_decide.2 ?_;constructor
  ·intro J I;rcases Nat.mul_eq_zero.1 I with h3|h3
   ·exact J h3
   ·omega
  ·intro J I; apply J; rw[I,Nat.zero_mul]
def bBP(A B p k:Nat)(up:Bool):Dy:=kA (rm2 A B p k up) (rE A B p k)
theorem aLt{M:Nat}{e:Int}:(kA M e).2.1=lb (M/2^tzn M):=by
 unfold kA;split
 ·rename_i h; subst h; rw[Nat.zero_div,sU]; rfl
 ·rfl
theorem aTZ{A B p k0 K:Nat}{up:Bool}(hB:B≠0)(N:A<2^K)(U:B<2^K)(hK:K≤1000)(hp:1≤p)(hp2:p≤2000)(h:A≠0→2^p≤rq A B k0) :
  aJZ (kA A 0) (kA B 0) (p:Int) up= .inl (if A=0 then d0 else bBP A B p k0 up):=by
 have mA:aCy (kA A 0)=true:=aPE N (by omega) xAa;have mB:aCy (kA B 0)=true:=aPE U (by omega) xAa;have hm:aQ3 (p:Int) [kA A 0,kA B 0]= .inl ():=by
  unfold aQ3;rw[if_pos ⟨by omega,by omega,by simp[mA,mB]⟩]
 obtain⟨b1,b2⟩:=aDC hB;have hB':B/2^tzn B≠0:=by omega
 have hbB:bl (B/2^tzn B)≤K:=aCJ (Nat.lt_of_le_of_lt (Nat.div_le_self _ _) U);have hzB:=aNh hB U;unfold aJZ;rw[hm];simp only[aLt,nR];rw[if_neg (fun h=>hB' (aFI.1 (List.eq_nil_of_length_eq_zero h)))];have hs1:(kA A 0).1=false:=by unfold kA; split<;>rfl
 have hs2:(kA B 0).1=false:=by unfold kA; split<;>rfl
 rw[hs1,hs2];by_cases Y:A=0
 ·subst Y;simp only[if_true];have h1:(kA 0 0).2.2.1=0:=rfl;have h2:(kA B 0).2.2.1=(tzn B:Int):=by unfold kA; rw[if_neg hB]; simp
  rw[h1,h2,Nat.zero_div,Nat.zero_mul,Nat.zero_div,Nat.zero_mod];unfold aQ4;have hb0:¬0<((bl 0:Nat):Int)-(p:Int):=by
   have:bl 0=0:=rfl;omega
  simp only[hb0,if_false];have:decide ((0:Nat)≠0)=false:=rfl;rw[this];simp only[Bool.false_eq_true,false_and,if_false];rfl
 ·obtain⟨a1,a2⟩:=aDC Y;have J:A/2^tzn A≠0:=by omega
  have hbA:bl (A/2^tzn A)≤K:=aCJ (Nat.lt_of_le_of_lt (Nat.div_le_self _ _) N);have hzA:=aNh Y N;have h1:(kA A 0).2.2.1=(tzn A:Int):=by unfold kA; rw[if_neg Y]; simp
  have h2:(kA B 0).2.2.1=(tzn B:Int):=by unfold kA; rw[if_neg hB]; simp
  rw[h1,h2,if_neg Y];obtain⟨k,hk,hk2,hk3⟩:∃k:Nat,max (0:Int) ((p:Int)+1+(bl (B/2^tzn B):Int)-(bl (A/2^tzn A):Int))=(k:Int)∧p+bl (B/2^tzn B)≤bl (A/2^tzn A)-1+k∧k≤4000:=by
   have hpos:=aJc J;exact⟨(max (0:Int) ((p:Int)+1+(bl (B/2^tzn B):Int)-(bl (A/2^tzn A):Int))).toNat,by omega,by omega,by omega⟩
  rw[hk,Int.toNat_natCast];have I:=aW3 (p:=p) J hB' hk2;have hf:(false != false)=false:=rfl;rw[hf];have hc:=bBM (e:=(tzn A:Int)-(tzn B:Int)) (up:=up) hp I;unfold rq at hc;rw[hc];obtain⟨o1,o2,o3,o4⟩:=bBO (A':=A/2^tzn A) (B':=B/2^tzn B) (za:=tzn A) (zb:=tzn B) hp a1.symm b1.symm (h Y);obtain⟨s1,s2,s3⟩:=bAT hp I o1;have hrm:rm2 (A/2^tzn A) (B/2^tzn B) p k up=rm2 A B p k0 up:=by unfold rm2; rw[s1,s3,o2,o4]
  have hre:(tzn A:Int)-(tzn B:Int)+rE (A/2^tzn A) (B/2^tzn B) p k=rE A B p k0:=by rw[s2]; omega
  obtain⟨q1,q2⟩:=aW4 (A:=A/2^tzn A) (B:=B/2^tzn B) (p:=p) (k:=k) J;rw[hrm,hre,aSG (K:=p+1) bAU (by omega) (by constructor<;>omega)];simp only[if_true];rfl
def aQ6(s:List Nat)(p:Nat)(up:Bool):Dy:=if aPF s=0 then d0 else bBP (aPF s) (aNj s) p (p+1+bl (aNj s)) up
def bAV(s:List Nat)(p:Int):(Dy×Dy×Unit)×Int×Unit :=
 if ¬(rV s).2.2.1=true then ((d0,d0,()),6,())
 else if p<1∨2000<p then ((d0,d0,()),1,())
 else ((aQ6 s p.toNat false,aQ6 s p.toNat true,()),0,())
theorem aW5{A K:Nat}(h:A<2^K)(I:K≤4096):gY none false (lb A) 0=some (kA A 0,0,()):=by
 have J:(lb A).length≤K+1:=nV.2 (Nat.lt_of_lt_of_le h (by rw[uH]; exact Nat.pow_le_pow_right xAa (by omega)));rw[aWT false (lb A) 0 (aCI A) (aFJ A) (by omega),nR,aSG h I xAa]
theorem aPO(s:List Nat)(p:Nat)(up:Bool)(hp:1≤p∧p≤2000):jS none (kA (aPF s) 0) (kA (aNj s) 0) (p:Int) up=some (aQ6 s p up,0,()):=by
 have I:∀M,Lm (kA M 0).2.1:=fun M=>by rw[aLt]; exact aCI _
 rw[aYZ _ _ _ _ (I _) (I _),aTZ (k0:=p+1+bl (aNj s)) (aPG s) (aSH s) (aSI s) xAa hp.1 hp.2 (fun h=>aW3 h (aPG s) (by have:=aJc h; omega))];rfl
theorem bAW(s:List Nat)(p:Int)(J:s.length≤4611686018427387904):lU none s p=some (bAV s p):=by
 unfold lU bAV;refine bF (aWW s (by omega)) ?_;unfold bAN;by_cases h:(rV s).2.2.1=true
 ·simp only[h,if_true,not_true,if_false];by_cases I:p<1∨2000<p
  ·simp only[I,if_true]; rfl
  ·simp only[I,if_false];obtain⟨q,rfl⟩:∃q:Nat,p=(q:Int):=⟨p.toNat,by omega⟩;simp only[aW5 (aSH s) xAa,aW5 (aSI s) xAa,Option.bind_some,aPO s q false (by constructor<;>omega),aPO s q true (by constructor<;>omega)];simp only[not_true,or_self,if_false,Int.toNat_natCast]
 ·simp only[h,if_false,Bool.false_eq_true,not_false_eq_true,if_true]; rfl
theorem aLu:∀(m k:Nat) (e:Ex) (a:Nat),m<k→a+m=41→ ∃v:Nat,iI none k e (a:Int)=some (v:Int)∧1≤v∧v≤201∧(v≤200→fits m e∧nd m e=v)
 | m,0,e,a,Y,ha=>absurd Y (by omega)
 | 0,k+1,e,a,Y,ha=>by
  refine⟨201,?_,by omega,by omega,fun h=>absurd h (by omega)⟩;show gM none (iI none k) e (a:Int)=_;unfold gM;rw[if_pos (.inl (by omega))];rfl
 | m+1,k+1,e,a,Y,ha=>by
  show ∃v:Nat,gM none (iI none k) e (a:Int)=_∧_;unfold gM;by_cases ht:e.text.length≤100
  ·obtain⟨r,hr,x,rfl,q1,q2,q3⟩:=eQ (step:=fun d:Int×Int=>gR none (iI none k) e (a:Int) d.1 d.2)
    (I:=fun d=>∃i x:Nat,d=((x:Int),(i:Int))∧i≤e.l.length∧i+1≤x∧x≤401∧(x≤200→(∀y∈e.l.take i,fits m y)∧x=1+uC (nd m) (e.l.take i)))
    (fun d=>((e.l.length:Int)-d.2).toNat)
    (fun r=>∃x:Nat,r=(x:Int)∧1≤x∧x≤401∧(x≤200→e.l.length≤200∧(∀y∈e.l,fits m y)∧x=1+uC (nd m) e.l))
    (by
     rintro d ⟨i,x,rfl,h1,h2,h3,h4⟩;show (∃d',gR none (iI none k) e (a:Int) (x:Int) (i:Int)=_∧_)∨ ∃r,gR none (iI none k) e (a:Int) (x:Int) (i:Int)=_∧_;unfold gR;by_cases hi:i<e.l.length∧x≤200
     ·left
      obtain⟨hi,hx⟩:=hi;obtain⟨v,p1,p2,p3,p4⟩:=aLu m k (e.l.getD i (Ex.mk 0 [] [])) (a+1) (by omega) (by omega);rw[show ((a+1:Nat):Int)=(a:Int)+1 from by omega] at p1;rw[if_pos ⟨by omega,by omega⟩,Int.toNat_natCast,p1];simp only[Option.isSome_some,Option.getD_some];refine⟨(((x+v:Nat):Int),((i+1:Nat):Int)),aB (by constructor<;>omega) (aB (by constructor<;>omega) (aB trivial (aB (by constructor<;>omega) (aB (by constructor<;>omega) rfl)))),⟨i+1,x+v,rfl,by omega,by omega,by omega,fun hv=>?_⟩,by simp only; omega⟩;obtain⟨U,N⟩:=h4 hx;obtain⟨w1,w2⟩:=p4 (by omega);rw[aCu (nd m) hi,w2];refine⟨fun y J=>?_,by omega⟩;rw[aHS hi,List.mem_append] at J;rcases J with J|J
      ·exact U y J
      ·rw[List.mem_singleton.1 J]; exact w1
     ·right
      refine⟨(x:Int),if_neg (fun h=>hi ⟨by omega,by omega⟩),x,rfl,by omega,h3,fun hv=>?_⟩;obtain⟨U,N⟩:=h4 hv;rw[aLr (by omega)] at U N;exact⟨by omega,U,N⟩) ((1:Int),(0:Int)) ⟨0,1,rfl,by omega,by omega,by omega,fun _=>⟨by simp,by rw[aQ0]⟩⟩
   refine⟨min x 201,?_,by omega,by omega,fun hv=>?_⟩
   ·rw[if_neg (by rintro (h|h)<;>omega)];refine bF hr ?_
    congr 1
    omega
   ·obtain⟨U,N,u3⟩:=q3 (by omega);have hnd:nd (m+1) e=1+uC (nd m) e.l:=rfl;exact⟨⟨ht,by omega,N⟩,by omega⟩
  ·refine⟨201,?_,by omega,by omega,fun h=>absurd h (by omega)⟩;rw[if_pos (.inr (by omega))];rfl
theorem aT0(e:Ex):Tot (lV none e) (fun b=>b=true→OkE e):=by
 obtain⟨v,J,Y,h3,I⟩:=aLu 40 64 e 1 (by omega) rfl;unfold lV;refine(Tot.of J (P:=fun x=>x=(v:Int)) rfl).bind fun x hx=>.ret fun hb=>?_;obtain⟨N,U⟩:=I (by grind);exact⟨40,by omega,N,by omega⟩
abbrev BLn:Type:=Int×Int×Int×(Dy×Dy×Unit)×Unit
abbrev zB:BLn:=((0:Int),(0:Int),(0:Int),((false,([]:List Nat),(0:Int),()),(false,([]:List Nat),(0:Int),()),()),())
def bBQ(i:Nat)(l:BLn):Prop:=(6≤l.1→l.2.1<(i:Int))∧(6≤l.1∧l.1≤9→l.2.2.1=(i:Int)-1)∧(10≤l.1→l.2.1=(i:Int)-1)
def Good(b:Nat)(L:List BLn):Prop:=∀i,i<L.length→bBQ (b+i) (L.getD i zB)
theorem Good.app{b:Nat}{L M:List BLn}(I:Good b L)(J:Good (b+L.length) M):Good b (L++M):=fun i hi=>by
 rw[List.length_append] at hi;by_cases h:i<L.length
 ·have:=I i h
  rwa [show (L++M).getD i zB=L.getD i zB from by simp[List.getD_eq_getElem?_getD,List.getElem?_append_left h]]
 ·have:=J (i-L.length) (by omega);rw[show (L++M).getD i zB=M.getD (i-L.length) zB from by simp[List.getD_eq_getElem?_getD,List.getElem?_append_right (Nat.le_of_not_lt h)]]
  rwa [show b+i=b+L.length+(i-L.length) from by omega]
theorem Good.one{b:Nat}{l:BLn}(h:bBQ b l):Good b [l]:=fun i hi=>by
 obtain rfl:i=0:=by simpa using hi
 exact h
theorem aT1(s:List Nat)(x:List qd)(J:x.length≤1000):Tot (fD none s x [] []) (fun l=>l.1<6):=by
 unfold fD;refine .ite (fun _=>.ret xAa) fun _=>Tot.bind (P:=fun e=>match e with| .inl _=>True| .inr l=>l.1<6) (Tot.loop (fun d:Int=>0≤d∧d≤3) (fun d=>(3-d).toNat) ?_ ⟨by decide,by decide⟩) fun e I=>?_
 ·rintro i ⟨i0,i1⟩;show Tot (kU none x [] [] s i) _;unfold kU;refine .ite (fun hi=>.ck ⟨i0,hi⟩ ?_) fun _=>.ret trivial;obtain⟨r,N,_⟩:=aPK (([x,[],[]]:List qk).getD i.toNat []) s (by
   rcases (by omega:i=0∨i=1∨i=2) with rfl|rfl|rfl
   ·exact J
   ·exact Nat.zero_le _
   ·exact Nat.zero_le _)
  rw[N,Option.bind_some];refine .ite (fun _=>.ck ⟨i0,hi⟩ (.ret ?_)) fun _=>.ck (by omega) (.ret ⟨⟨by omega,by omega⟩,by omega⟩);rcases (by omega:i=0∨i=1∨i=2) with rfl|rfl|rfl
  ·show (3:Int)<6; decide
  ·show (5:Int)<6; decide
  ·show (4:Int)<6; decide
 ·cases e with
  | inl u=>exact .ret xAa
  | inr l=>exact .ret I
theorem bj2(g:Ex→Int→List qd→List qd→List qd→(List BLn×List Int×Unit)→Option (Int×Int×List qd×List qd×List qd×List BLn×List Int×Unit))(J:List BLn)(N:J.length≤100000)(I:Int)(x u p:List qd)(os:List Int)(l:BLn) :
  dG none g J I x u p os l=some ((J.length:Int),I,x,u,p,J++ [l],os,()):=by
 have e:((((J++ [l]).length:Nat):Int)-1)=(J.length:Int):=by rw[List.length_append]; simp
 unfold dG;refine aB (by omega) (aB (by rw[e]; omega) ?_);rw[e]
theorem aW6(names:List qd)(I:Int){n:Nat}{kd:Int}{t:List Nat}{a:Ex}(hkd:10≤kd)(hf:fits (n+1) (Ex.mk kd t [a]))(J:List BLn)(k:Nat)(hk:n+1≤k)(Y:J.length+nd (n+1) (Ex.mk kd t [a])≤100000)
  (ih:∀k,n≤k→ ∃L:List BLn,fL none k a I names [] [] (J,[],())=some (((J.length+nd n a:Nat):Int)-1,I,names,[],[],J++L,[],())∧L.length=nd n a∧Good J.length L) :
  ∃L:List BLn,fL none k (Ex.mk kd t [a]) I names [] [] (J,[],())=some (((J.length+nd (n+1) (Ex.mk kd t [a]):Nat):Int)-1,I,names,[],[],J++L,[],())∧L.length=nd (n+1) (Ex.mk kd t [a])∧Good J.length L:=by
 obtain⟨k,rfl⟩:∃j,k=j+1:=⟨k-1,by omega⟩;have U:nd (n+1) (Ex.mk kd t [a])=1+(nd n a+0):=rfl;rw[U] at Y ⊢;have pa:=aNo (hf.2.2 a (.head _));obtain⟨N,a1,a2,a3⟩:=ih k (by omega);have la:(J++N).length=J.length+nd n a:=by rw[List.length_append,a2]
 refine⟨N++ [(kd,((J.length+nd n a:Nat):Int)-1,(0:Int),((false,([]:List Nat),(0:Int),()),(false,([]:List Nat),(0:Int),()),()),())],?_,by simp only[List.length_append,List.length_cons,List.length_nil]; omega,a3.app (.one ?_)⟩
 ·show cV none (fL none k) _ _ _ _ _ _=_;unfold cV;refine bF (a:=(I,names,[],[],J++N,[],[((J.length+nd n a:Nat):Int)-1])) (aNy (d':=((1:Int),I,names,[],[],J++N,[],[((J.length+nd n a:Nat):Int)-1])) ?_ (aJW ?_)) ?_
  ·show bK none _ _ _ _ _ _ _ _ _ _=_;unfold bK;exact ify (show (0:Int)<1 by decide) (aB (show (0:Int)≤0∧(0:Int)<1 by decide) (bF a1 (aB (show (0+1)*8≤140737488355328 by decide) (aB (show I64 ((0:Int)+1) by constructor<;>omega) rfl))))
  ·show bK none _ _ _ _ _ _ _ _ _ _=_;unfold bK;exact ifn (show ¬(1:Int)<1 by decide) rfl
  ·unfold eF;refine ifn (show ¬kd=1 by omega) (ifn (show ¬kd=2 by omega) (ifn (show ¬(1:Int)<1 by decide) (aB (show (0:Int)<1 by decide) ?_)));rw[bj2 _ _ (by rw[la]; omega),la];rw[show (((J.length+(1+(nd n a+0)):Nat):Int)-1)=((J.length+nd n a:Nat):Int) from by omega];simp only[List.append_assoc];rfl
 ·rw[a2];exact⟨fun _=>by show ((J.length+nd n a:Nat):Int)-1<_; omega,fun z=>absurd (show kd≤9 from z.2) (by omega),fun _=>by show ((J.length+nd n a:Nat):Int)-1=_; omega⟩
theorem aY1(names:List qd)(hn:names.length≤1000)(I:Int)(hb:1≤I∧I≤2000):∀ {n:Nat} {e:Ex},KE n e→n≤64→fits n e→ ∀(J:List BLn) (k:Nat),n≤k→J.length+nd n e≤100000 →
  ∃L:List BLn,fL none k e I names [] [] (J,[],())=some (((J.length+nd n e:Nat):Int)-1,I,names,[],[],J++L,[],())∧L.length=nd n e∧Good J.length L:=by
 intro n e hw
 induction hw with
 | leaf n kd t h =>
  intro hn2 Y J k hk N;obtain⟨k,rfl⟩:∃j,k=j+1:=⟨k-1,by omega⟩;have hnd:nd (n+1) (Ex.mk kd t [])=1:=rfl;have hg:∀l:BLn,l.1<6→Good J.length [l]:=fun l hl=>.one ⟨fun z=>absurd hl (by omega),fun z=>absurd hl (by omega),fun z=>absurd hl (by omega)⟩;rw[hnd] at N ⊢;have e1:(((J.length+1:Nat):Int)-1)=(J.length:Int):=by omega
  have hloop:∀f:Int×Int×List qd×List qd×List qd×List BLn×List Int×List Int→Option ((Int×Int×List qd×List qd×List qd×List BLn×List Int×List Int)⊕(Int×List qd×List qd×List qd×List BLn×List Int×List Int)),f ((0:Int),I,names,[],[],J,[],[])=some (.inr (I,names,[],[],J,[],[]))→dC none f ((0:Int),I,names,[],[],J,[],[])=some (I,names,[],[],J,[],[]):=fun f Y=>aJW Y;rw[e1];show ∃L,cV none (fL none k) _ _ _ _ _ _=_∧_;rcases h with rfl|rfl
  ·have hl:=bAW t I (by have:t.length≤100:=Y.1; omega);refine⟨[((1:Int),(0:Int),(0:Int),(bAV t I).1,())],?_,rfl,hg _ (show (1:Int)<6 by decide)⟩;unfold cV;refine bF (hloop _ (by unfold bK; exact ifn (show ¬(0:Int)<0 by decide) rfl)) ?_;unfold eF;refine ify rfl (aB (by show (lU none t I).isSome=true; rw[hl]; rfl) ?_);rw[bj2 _ J (by omega)];show some (_,_,_,_,_,J++ [((1:Int),(0:Int),(0:Int),((lU none t I).getD _).1,())],_,_)=_;rw[hl];rfl
  ·obtain⟨l,h1,h2⟩:=aT1 t names hn;refine⟨[l],?_,rfl,hg _ h2⟩;unfold cV;refine bF (hloop _ (by unfold bK; exact ifn (show ¬(0:Int)<0 by decide) rfl)) ?_;unfold eF;refine ifn (show ¬(2:Int)=1 by decide) (ify rfl (aB (by show (fD none t names [] []).isSome=true; rw[h1]; rfl) ?_));rw[bj2 _ J (by omega)];show some (_,_,_,_,_,J++ [(fD none t names [] []).getD _],_,_)=_;rw[h1];rfl
 | two n kd t a b h1 h2 ha hb2 U ihb =>
  intro hn2 Y J k hk N;obtain⟨k,rfl⟩:∃j,k=j+1:=⟨k-1,by omega⟩;obtain⟨_,_,hf3⟩:=Y;have hnd:nd (n+1) (Ex.mk kd t [a,b])=1+(nd n a+(nd n b+0)):=rfl;rw[hnd] at N ⊢;have pa:=aNo (hf3 a (.head _));have pb:=aNo (hf3 b (.tail _ (.head _)));obtain⟨La,a1,a2,a3⟩:=U (by omega) (hf3 a (.head _)) J k (by omega) (by omega);have la:(J++La).length=J.length+nd n a:=by rw[List.length_append,a2]
  obtain⟨Lb,b1,b2,b3⟩:=ihb (by omega) (hf3 b (.tail _ (.head _))) (J++La) k (by omega) (by omega);rw[la] at b1 b3;have lb2:((J++La)++Lb).length=J.length+nd n a+nd n b:=by rw[List.length_append,la,b2]
  refine⟨(La++Lb)++ [(kd,((J.length+nd n a:Nat):Int)-1,((J.length+nd n a+nd n b:Nat):Int)-1,((false,([]:List Nat),(0:Int),()),(false,([]:List Nat),(0:Int),()),()),())],?_,by simp only[List.length_append,List.length_cons,List.length_nil]; omega,(a3.app (by rw[a2]; exact b3)).app (.one ?_)⟩
  ·show cV none (fL none k) _ _ _ _ _ _=_;unfold cV;refine bF (a:=(I,names,[],[],(J++La)++Lb,[],[((J.length+nd n a:Nat):Int)-1,((J.length+nd n a+nd n b:Nat):Int)-1])) (aNy (d':=((1:Int),I,names,[],[],J++La,[],[((J.length+nd n a:Nat):Int)-1])) ?_ (aNy (d':=((2:Int),I,names,[],[],(J++La)++Lb,[],[((J.length+nd n a:Nat):Int)-1,((J.length+nd n a+nd n b:Nat):Int)-1])) ?_ (aJW ?_))) ?_
   ·show bK none _ _ _ _ _ _ _ _ _ _=_;unfold bK;exact ify (show (0:Int)<2 by decide) (aB (show (0:Int)≤0∧(0:Int)<2 by decide) (bF a1 (aB (show (0+1)*8≤140737488355328 by decide) (aB (show I64 ((0:Int)+1) by constructor<;>omega) rfl))))
   ·show bK none _ _ _ _ _ _ _ _ _ _=_;unfold bK;exact ify (show (1:Int)<2 by decide) (aB (show (0:Int)≤1∧(1:Int)<2 by decide) (bF b1 (aB (show (1+1)*8≤140737488355328 by decide) (aB (show I64 ((1:Int)+1) by constructor<;>omega) rfl))))
   ·show bK none _ _ _ _ _ _ _ _ _ _=_;unfold bK;exact ifn (show ¬(2:Int)<2 by decide) rfl
   ·unfold eF;refine ifn (show ¬kd=1 by omega) (ifn (show ¬kd=2 by omega) (ify (show (1:Int)<2 by decide) (aB (show (1:Int)<2 by decide) (aB (show (0:Int)<2 by decide) ?_))));rw[bj2 _ _ (by rw[lb2]; omega),lb2];rw[show (((J.length+(1+(nd n a+(nd n b+0))):Nat):Int)-1)=((J.length+nd n a+nd n b:Nat):Int) from by omega];simp only[List.append_assoc];rfl
  ·rw[List.length_append,a2,b2];exact⟨fun _=>by show ((J.length+nd n a:Nat):Int)-1<_; omega,fun _=>by show ((J.length+nd n a+nd n b:Nat):Int)-1=_; omega,fun z=>absurd (show kd≤9 from h2) (by have:10≤kd:=z; omega)⟩
 | neg n t a ha U =>
  intro hn2 Y J k hk N;exact aW6 names I (n:=n) (kd:=10) (t:=t) (a:=a) xAa Y J k hk N fun k hk=>U (by omega) (Y.2.2 a (.head _)) J k hk (by have hnd:nd (n+1) (Ex.mk 10 t [a])=1+(nd n a+0):=rfl; omega)
 | fn n kd t a h1 h2 ha U =>
  intro hn2 Y J k hk N;exact aW6 names I (n:=n) (kd:=kd) (t:=t) (a:=a) (by omega) Y J k hk N fun k hk=>U (by omega) (Y.2.2 a (.head _)) J k hk (by have hnd:nd (n+1) (Ex.mk kd t [a])=1+(nd n a+0):=rfl; omega)
theorem aPP:∀(m k:Nat) (e:Ex),m≤k→fits m e→nd m e≤100000→lW none k e=some (nd m e:Int)
 | 0,k,e,_,I,_=>I.elim
 | m+1,0,e,U,_,_=>absurd U (by omega)
 | m+1,k+1,e,U,I,Y=>by
  have J:nd (m+1) e=1+uC (nd m) e.l:=rfl;rw[J] at Y ⊢;show jK none (lW none k) e=_;unfold jK;have hl:=I.2.1;refine Tot.eq (Tot.bind (P:=fun x:Int=>x=((1+uC (nd m) e.l:Nat):Int)) (Tot.loop (fun d:Int×Int=>∃i:Nat,i≤e.l.length∧d=(((1+uC (nd m) (e.l.take i):Nat):Int),(i:Int))) (fun d=>((e.l.length:Int)-d.2).toNat) ?_ ⟨0,by omega,by rw[aQ0]; rfl⟩) fun x N=>.ret N);rintro d ⟨i,hi,rfl⟩;show Tot (iZ none (lW none k) e ((1+uC (nd m) (e.l.take i):Nat):Int) (i:Int)) _;unfold iZ;refine .ite (fun h=>?_) fun h=>.ret ?_
  ·have h:i<e.l.length:=(by omega);have hm:=aPJ (nd m) h;have N:=I.2.2 (e.l.getD i (Ex.mk 0 [] [])) (by rw[List.getD_eq_getElem?_getD,List.getElem?_eq_getElem h]; exact List.getElem_mem h);rw[Int.toNat_natCast,aPP m k _ (by omega) N (by omega),Option.bind_some];refine .ck ⟨by omega,by omega⟩ (.ck (by constructor<;>omega) (.ck (by constructor<;>omega) (.ret ⟨⟨i+1,h,?_⟩,by simp only; omega⟩)));rw[aCu (nd m) h];simp only[Prod.mk.injEq];constructor<;>omega
  ·have h:i=e.l.length:=(by omega);subst h;rw[List.take_length]
theorem aY2(e:Ex)(names:List qd)(hn:names.length≤6)(p:Int)(h8:8≤p)(U:p≤200){n:Nat}(J:n≤64)(I:fits n e)(h3:nd n e≤1000) :
  lI none e names [] [] p=some (([],[],()),(1:Int),())∨ ∃L:List BLn,lI none e names [] [] p=some ((L,[((nd n e:Nat):Int)-1],()),(0:Int),())∧L.length=nd n e∧Good 0 L:=by
 have hp:¬(p<8∨200<p):=by omega
 have hc:=aTY names [] [] (by omega) xAa xAa;have Y:=bBI e (names++([]++ [])) J I h3 (by simp; omega);unfold lI;rw[hc];simp only[Option.getD_some,Y];cases hb:(decide (nd n e≤60∧ht n e≤30)&&(gk n e&&lvs (names++([]++ [])) n e)) with
 | false=>exact .inl (aB (fun _=>rfl) (aB (fun _=>rfl) (ify (.inr xAa) rfl)))
 | true =>
  rw[Bool.and_eq_true,Bool.and_eq_true] at hb;obtain⟨L,N,l2,l3⟩:=aY1 names (by omega) p ⟨by omega,by omega⟩ (aZt n e I hb.2.1) J I [] 64 J (by simp; omega);rw[List.length_nil,Nat.zero_add,List.nil_append] at N;refine .inr ⟨L,aB (fun _=>rfl) (aB (fun _=>rfl) (ifn (fun q=>q.elim hp (fun q=>q rfl)) (bF N rfl))),l2,l3⟩
theorem aHB(e:Ex)(names:List qd)(I:Int):jA none e names I=some true:=by
 refine Tot.eq ?_;unfold jA;refine(aT0 e).bind fun v hv=>.ite (fun _=>.ret rfl) fun hq=>?_;obtain⟨n,n1,Y,n3⟩:=hv (Classical.not_not.1 fun q=>hq (.inl q));have hn:names.length≤6:=Nat.le_of_not_lt fun q=>hq (.inr (by omega));have hw:IntKind.i64.wrap ((((I%(18446744073709551616:Int)).toNat%(193:Nat)):Nat):Int)=((((I%(18446744073709551616:Int)).toNat%(193:Nat)):Nat):Int):=zM rfl (by have:=Nat.mod_lt (I%(18446744073709551616:Int)).toNat (show 0<193 by decide); constructor<;>simp only[IntKind.min,IntKind.max,IntKind.signed,IntKind.bits]<;>omega);rw[hw];have U:=Nat.mod_lt (I%(18446744073709551616:Int)).toNat (show 0<193 by decide);generalize (I%(18446744073709551616:Int)).toNat%193=q at U ⊢;refine .ck (by constructor<;>omega) ?_;rcases aY2 e names hn ((8:Int)+(q:Int)) (by omega) (by omega) n1 Y n3 with h|⟨L,h,hl,hg⟩
 ·rw[h,Option.bind_some];exact .ite (fun _=>.ret rfl) fun z=>absurd (show ¬((1:Int)=0) by decide) z
 ·have hp:=aNo Y;rw[h,Option.bind_some];refine .ite (fun z=>absurd rfl z) fun _=>?_;rw[aPP n 64 e n1 Y (by omega),Option.bind_some];have J:(L.length:Int)=((nd n e:Nat):Int):=by rw[hl]
  refine .ck (fun _=>show (0:Int)<((1:Nat):Int) by decide) (.ck (fun _=>by constructor<;>omega) (.ite (fun z=>?_) fun _=>?_))
  ·rcases z with (z|z)|z
   ·exact absurd J z
   ·exact absurd rfl z
   ·exact absurd rfl z
  refine Tot.bind (P:=fun r=>match r with| .inl _=>True| .inr _=>False) (Tot.loop (fun i:Int=>0≤i∧i≤((nd n e:Nat):Int)) (fun i=>(((nd n e:Nat):Int)-i).toNat) ?_ ⟨by omega,by omega⟩) fun r hr=>?_
  ·rintro i ⟨i0,i1⟩;show Tot (fM none ((nd n e:Nat):Int) ((L,[((nd n e:Nat):Int)-1],()),(0:Int),()) i) _;unfold fM;refine .ite (fun hi=>?_) fun _=>.ret trivial;obtain⟨N,g2,g3⟩:=hg i.toNat (by omega);rw[show ((0+i.toNat:Nat):Int)=i from by omega] at N g2 g3;have N:6≤(L.getD i.toNat zB).1→(L.getD i.toNat zB).2.1<i:=N;refine .ck ⟨i0,by rw[← J] at hi; exact hi⟩ (.ck (fun _ _=>by constructor<;>omega) (.ck (fun _ _=>by constructor<;>omega) (.ite (fun z=>?_) fun _=>.ck (by constructor<;>omega) (.ret ⟨⟨by omega,by omega⟩,by omega⟩))));rcases z with (z|z)|z
   ·exact absurd (N z.1) (Int.not_lt.2 z.2)
   ·exact absurd (g2 z.1) z.2
   ·exact absurd (g3 z.1) z.2
  ·cases r with
   | inl u=>exact .ret rfl
   | inr b=>exact hr.elim
end
end Nu
end Go.Proofs

