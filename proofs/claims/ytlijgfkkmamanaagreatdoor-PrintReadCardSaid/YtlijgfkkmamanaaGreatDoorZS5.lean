import Derived.Test.YtlijgfkkmamanaaGreatDoorZS4
import Derived.Test.YtlijgfkkmamanaaGreatDoorZS3
import Derived.Test.YtlijgfkkmamanaaGreatDoorZS2
set_option linter.unusedVariables false
set_option linter.unusedSimpArgs false
namespace Go.Proofs
open Go.Vc
set_option maxRecDepth 20000
namespace Nu
noncomputable section
set_option maxHeartbeats 4000000
attribute [-go_sem] Ex.kind Ex.text Ex.l
def vC(F:Md)(z:Int)(f:qf)(g:qo):Option ((qf×qo)⊕wc) :=
 if z=(0:Int) then (dJ F (aQ ⟨#[112,114,101,99]⟩) g).bind (fun e=>match e with| .inl r_42=>(fF F r_42).bind (fun e=>match e with| .inl O=>(cO F O.2).bind (fun e=>match e with| .inl r_46=>some (.inl ((O.1,f.2.1,f.2.2.1,f.2.2.2.1,f.2.2.2.2.1,f.2.2.2.2.2.1,f.2.2.2.2.2.2.1,f.2.2.2.2.2.2.2.1,f.2.2.2.2.2.2.2.2.1,f.2.2.2.2.2.2.2.2.2.1,()),r_46))| .inr p_47=>some (.inr p_47))| .inr p_45=>some (.inr p_45))| .inr p_43=>some (.inr p_43)) else if z=(1:Int) then (dJ F (aQ ⟨#[101,110,100]⟩) g).bind (fun e=>match e with| .inl r_52=>(eF F r_52).bind (fun e=>match e with| .inl J=>(cO F J.2).bind (fun e=>match e with| .inl r_56=>some (.inl ((f.1,f.2.1,f.2.2.1,f.2.2.2.1,J.1,f.2.2.2.2.2.1,f.2.2.2.2.2.2.1,f.2.2.2.2.2.2.2.1,f.2.2.2.2.2.2.2.2.1,f.2.2.2.2.2.2.2.2.2.1,()),r_56))| .inr p_57=>some (.inr p_57))| .inr p_55=>some (.inr p_55))| .inr p_53=>some (.inr p_53)) else if z=(2:Int) then (dJ F (aQ ⟨#[115,116,101,112]⟩) g).bind (fun e=>match e with| .inl r_62=>(eF F r_62).bind (fun e=>match e with| .inl N=>(eF F N.2).bind (fun e=>match e with| .inl Y=>(cO F Y.2).bind (fun e=>match e with| .inl r_68=>some (.inl ((f.1,f.2.1,f.2.2.1,f.2.2.2.1,f.2.2.2.2.1,N.1,Y.1,f.2.2.2.2.2.2.2.1,f.2.2.2.2.2.2.2.2.1,f.2.2.2.2.2.2.2.2.2.1,()),r_68))| .inr p_69=>some (.inr p_69))| .inr p_66=>some (.inr p_66))| .inr p_67=>some (.inr p_67))| .inr p_63=>some (.inr p_63)) else if z=(3:Int) then (dJ F (aQ ⟨#[116,111,108]⟩) g).bind (fun e=>match e with| .inl r_74=>(eF F r_74).bind (fun e=>match e with| .inl U=>(cO F U.2).bind (fun e=>match e with| .inl r_78=>some (.inl ((f.1,f.2.1,f.2.2.1,f.2.2.2.1,f.2.2.2.2.1,f.2.2.2.2.2.1,f.2.2.2.2.2.2.1,U.1,f.2.2.2.2.2.2.2.2.1,f.2.2.2.2.2.2.2.2.2.1,()),r_78))| .inr p_79=>some (.inr p_79))| .inr p_77=>some (.inr p_77))| .inr p_75=>some (.inr p_75)) else if z=(4:Int) then (dJ F (aQ ⟨#[116,114,105,101,115]⟩) g).bind (fun e=>match e with| .inl r_84=>(fF F r_84).bind (fun e=>match e with| .inl I=>(cO F I.2).bind (fun e=>match e with| .inl r_88=>some (.inl ((f.1,I.1,f.2.2.1,f.2.2.2.1,f.2.2.2.2.1,f.2.2.2.2.2.1,f.2.2.2.2.2.2.1,f.2.2.2.2.2.2.2.1,f.2.2.2.2.2.2.2.2.1,f.2.2.2.2.2.2.2.2.2.1,()),r_88))| .inr p_89=>some (.inr p_89))| .inr p_87=>some (.inr p_87))| .inr p_85=>some (.inr p_85)) else if z=(5:Int) then (dJ F (aQ ⟨#[111,114,100,101,114]⟩) g).bind (fun e=>match e with| .inl r_94=>(fF F r_94).bind (fun e=>match e with| .inl L=>(cO F L.2).bind (fun e=>match e with| .inl r_98=>some (.inl ((f.1,f.2.1,L.1,f.2.2.2.1,f.2.2.2.2.1,f.2.2.2.2.2.1,f.2.2.2.2.2.2.1,f.2.2.2.2.2.2.2.1,f.2.2.2.2.2.2.2.2.1,f.2.2.2.2.2.2.2.2.2.1,()),r_98))| .inr p_99=>some (.inr p_99))| .inr p_97=>some (.inr p_97))| .inr p_95=>some (.inr p_95)) else (cK F g).bind (fun e=>match e with| .inl q=>(cG F (aAm .str (aCq .str (aCq .str ([]:List vm) (aQ ⟨#[106,97,99,111,98,105]⟩) (1:Int)) (aQ ⟨#[115,101,105,100,101,108]⟩) (2:Int)) q.1).isSome q.2).bind (fun e=>match e with| .inl r_110=>(cO F r_110).bind (fun e=>match e with| .inl Z=>some (.inl ((f.1,f.2.1,f.2.2.1,((aAm .str (aCq .str (aCq .str ([]:List vm) (aQ ⟨#[106,97,99,111,98,105]⟩) (1:Int)) (aQ ⟨#[115,101,105,100,101,108]⟩) (2:Int)) q.1).getD (0:Int)),f.2.2.2.2.1,f.2.2.2.2.2.1,f.2.2.2.2.2.2.1,f.2.2.2.2.2.2.2.1,f.2.2.2.2.2.2.2.2.1,f.2.2.2.2.2.2.2.2.2.1,()),Z))| .inr p_113=>some (.inr p_113))| .inr p_111=>some (.inr p_111))| .inr p_105=>some (.inr p_105))
def aD2(F:Md):fQ where
 D:=Int×qf×qo×((qf×qo)⊕wc)
 av:=fun d=>[.ptr 0 [],.val qg d.1,.ptr 1 []]
 hp:=fun d=>[.box 10 (.agg [.val qg d.2.1.1,.val qg d.2.1.2.1,.val qg d.2.1.2.2.1,.val qg d.2.1.2.2.2.1,.val .str d.2.1.2.2.2.2.1,.val .str d.2.1.2.2.2.2.2.1,.val .str d.2.1.2.2.2.2.2.2.1,.val .str d.2.1.2.2.2.2.2.2.2.1,.own 2,.own 3]),.box 3 (.val qk d.2.2.1),.tre 63 qi qa d.2.1.2.2.2.2.2.2.2.2.1,.row 69 qv d.2.1.2.2.2.2.2.2.2.2.2.1]
 m:=2
 pre:=fun d=>vC F d.1 d.2.1 d.2.2.1=some d.2.2.2
 out:=fun d=>match d.2.2.2 with| .inl r=>.ret (.tup []) [.box 10 (.agg [.val qg r.1.1,.val qg r.1.2.1,.val qg r.1.2.2.1,.val qg r.1.2.2.2.1,.val .str r.1.2.2.2.2.1,.val .str r.1.2.2.2.2.2.1,.val .str r.1.2.2.2.2.2.2.1,.val .str r.1.2.2.2.2.2.2.2.1,.own 2,.own 3]),.box 3 (.val qk r.2),.tre 63 qi qa r.1.2.2.2.2.2.2.2.2.1,.row 69 qv r.1.2.2.2.2.2.2.2.2.2.1]| .inr p=>.pan ⟨45,wg,p⟩ [.box 10 (.junk),.box 3 (.junk)]
def aNq(F:Md):PlR:=⟨[(0,.A [0,2,8]),(1,.P [0,2,6,7] []),(2,.P [0,2,6] []),(3,.B [2]),(4,.A [0,2,8,24]),(5,.P [0,2] []),(6,.P [2] []),(7,.A [0,2,8,33]),(8,.P [0,2] []),(9,.P [2] []),(10,.A [0,2,8,42]),(11,.P [0,2] []),(12,.P [2] []),(13,.A [0,2,8,56]),(14,.P [0,2] []),(15,.P [2] []),(16,.A [0,2,8,65]),(17,.P [0,2] []),(18,.P [2] []),(19,.A [0,2,74]),(20,.P [0,2] []),(21,.P [2] []),(22,.P [] [])],[],[(49,aAJ F),(50,aEI F),(51,aDo F),(52,gU F),(53,gT F),(54,zE F)]⟩
abbrev aZM(F:Md):List (FuncId×aF):=[]
theorem aZN[Mx](F:Md):bF Tryz.prog GL (aZM F):=.nil
attribute [go_sem] aNq aD2
theorem aNr[Mx](F:Md):GOK Tryz.prog GL 20 (aD2 F):=by
 refine kG (bAZ (aZN F)) mix Tryz.func20 rfl xN (fun _=>Nat.le_of_ble_eq_true rfl) (aNq F) (fun c0 w0 d hw hw2 h hV=>?_) (.cons (fun _ _=>(aDF F)) xN (.cons (fun _ _=>(aLV F)) xN (.cons (fun _ _=>(aKD F)) xN (.cons (fun _ _=>(iT F)) xN (.cons (fun _ _=>(iS F)) xN (.cons (fun _ _=>(aC1 F)) xN (.nil)))))));obtain⟨(z:Int),(g:qf),(f:qo),r⟩:=d;have hF:=hV.fr;replace h:=kH (show vC F z g f=some r from h);simp only[vH,List.map_cons,List.map_nil,go_sem];unfold vC at h;refine cH h (fun hc h=>?_) fun hc h=>?_
 ·refine aB h fun e hv h=>?_;rcases e with r_42|p_43
  ·(try dsimp only at h);simp only[hv,go_sem];refine aB h fun e hv h=>?_;rcases e with r_44|p_45
   ·(try dsimp only at h);simp only[hv,go_sem];refine aB h fun e hv h=>?_;rcases e with r_46|p_47
    ·(try dsimp only at h);exact zaL
    ·(try dsimp only at h);exact zaA
   ·(try dsimp only at h);exact zaA
  ·(try dsimp only at h);exact zaA
 ·refine cH h (fun hc h=>?_) fun hc h=>?_
  ·refine aB h fun e hv h=>?_;rcases e with r_52|p_53
   ·(try dsimp only at h);simp only[hv,go_sem];refine aB h fun e hv h=>?_;rcases e with r_54|U
    ·(try dsimp only at h);simp only[hv,go_sem];refine aB h fun e hv h=>?_;rcases e with r_56|p_57
     ·(try dsimp only at h);exact zaL
     ·(try dsimp only at h);exact zaA
    ·(try dsimp only at h);exact zaA
   ·(try dsimp only at h);exact zaA
  ·refine cH h (fun hc h=>?_) fun hc h=>?_
   ·refine aB h fun e hv h=>?_;rcases e with r_62|p_63
    ·(try dsimp only at h);simp only[hv,go_sem];refine aB h fun e hv h=>?_;rcases e with r_64|p_67
     ·(try dsimp only at h);simp only[hv,go_sem];refine aB h fun e hv h=>?_;rcases e with r_65|p_66
      ·(try dsimp only at h);simp only[hv,go_sem];refine aB h fun e hv h=>?_;rcases e with r_68|p_69
       ·(try dsimp only at h);exact zaL
       ·(try dsimp only at h);exact zaA
      ·(try dsimp only at h);exact zaA
     ·(try dsimp only at h);exact zaA
    ·(try dsimp only at h);exact zaA
   ·refine cH h (fun hc h=>?_) fun hc h=>?_
    ·refine aB h fun e hv h=>?_;rcases e with r_74|p_75
     ·(try dsimp only at h);simp only[hv,go_sem];refine aB h fun e hv h=>?_;rcases e with r_76|Y
      ·(try dsimp only at h);simp only[hv,go_sem];refine aB h fun e hv h=>?_;rcases e with r_78|p_79
       ·(try dsimp only at h);exact zaL
       ·(try dsimp only at h);exact zaA
      ·(try dsimp only at h);exact zaA
     ·(try dsimp only at h);exact zaA
    ·refine cH h (fun hc h=>?_) fun hc h=>?_
     ·refine aB h fun e hv h=>?_;rcases e with r_84|p_85
      ·(try dsimp only at h);simp only[hv,go_sem];refine aB h fun e hv h=>?_;rcases e with r_86|p_87
       ·(try dsimp only at h);simp only[hv,go_sem];refine aB h fun e hv h=>?_;rcases e with r_88|p_89
        ·(try dsimp only at h);exact zaL
        ·(try dsimp only at h);exact zaA
       ·(try dsimp only at h);exact zaA
      ·(try dsimp only at h);exact zaA
     ·refine cH h (fun hc h=>?_) fun hc h=>?_
      ·refine aB h fun e hv h=>?_;rcases e with r_94|p_95
       ·(try dsimp only at h);simp only[hv,go_sem];refine aB h fun e hv h=>?_;rcases e with r_96|p_97
        ·(try dsimp only at h);simp only[hv,go_sem];refine aB h fun e hv h=>?_;rcases e with r_98|Z
         ·(try dsimp only at h);exact zaL
         ·(try dsimp only at h);exact zaA
        ·(try dsimp only at h);exact zaA
       ·(try dsimp only at h);exact zaA
      ·refine aB h fun e hv h=>?_;rcases e with N|I
       ·(try dsimp only at h);simp only[hv,go_sem];refine aB h fun e hv h=>?_;rcases e with L|J
        ·(try dsimp only at h);simp only[hv,go_sem];refine aB h fun e hv h=>?_;rcases e with q|O
         ·(try dsimp only at h);simp only[hv,go_sem];obtain rfl:=aO h;refine iG (gK [0,1,2,3] rfl rfl (yaB ?_));exact zaa
         ·(try dsimp only at h);exact zaA
        ·(try dsimp only at h);exact zaA
       ·(try dsimp only at h);exact zaA
def vD(F:Md)(ox0_2:vg)(ok0_2:Nat)(f:qd)(o1_3:qo):Option ((qd×qo)⊕wc) :=
 (cK F o1_3).bind (fun e=>match e with| .inl g=>if g.1=(aQ ⟨#[115,116,97,116,101]⟩) then (eZ F g.2).bind (fun e=>match e with| .inl J=>(dJ F (aQ ⟨#[61]⟩) J.2).bind (fun e=>match e with| .inl r_53=>(fA F r_53).bind (fun e=>match e with| .inl U=>(dJ F (aQ ⟨#[100,101,114]⟩) U.2).bind (fun e=>match e with| .inl r_65=>(iJ F r_65).bind (fun e=>match e with| .inl I=>ck (((f.2.1.length)+(1:Nat))*145≤140737488355328) ((cO F I.2).bind (fun e=>match e with| .inl r_73=>some (.inl ((f.1,(f.2.1++([(J.1,U.1,I.1,())]:List wR)),f.2.2.1,f.2.2.2.1,f.2.2.2.2.1,()),r_73))| .inr p_74=>some (.inr p_74)))| .inr p_72=>some (.inr p_72))| .inr p_66=>some (.inr p_66))| .inr p_60=>some (.inr p_60))| .inr p_54=>some (.inr p_54))| .inr p_48=>some (.inr p_48)) else if g.1=(aQ ⟨#[112,97,114]⟩) then (eZ F g.2).bind (fun e=>match e with| .inl O=>(dJ F (aQ ⟨#[61]⟩) O.2).bind (fun e=>match e with| .inl r_85=>(fA F r_85).bind (fun e=>match e with| .inl N=>ck (((f.2.2.1.length)+(1:Nat))*73≤140737488355328) ((cO F N.2).bind (fun e=>match e with| .inl r_93=>some (.inl ((f.1,f.2.1,(f.2.2.1++([(O.1,N.1,())]:List we)),f.2.2.2.1,f.2.2.2.2.1,()),r_93))| .inr p_94=>some (.inr p_94)))| .inr p_92=>some (.inr p_92))| .inr p_86=>some (.inr p_86))| .inr p_80=>some (.inr p_80)) else if g.1=(aQ ⟨#[105,110]⟩) then (eZ F g.2).bind (fun e=>match e with| .inl L=>ck (((f.2.2.2.1.length)+(1:Nat))*16≤140737488355328) ((cO F L.2).bind (fun e=>match e with| .inl r_97=>some (.inl ((f.1,f.2.1,f.2.2.1,(f.2.2.2.1++([L.1]:List qc)),f.2.2.2.2.1,()),r_97))| .inr p_98=>some (.inr p_98)))| .inr p_96=>some (.inr p_96)) else if g.1=(aQ ⟨#[111,117,116]⟩) then (eZ F g.2).bind (fun e=>match e with| .inl q=>(dJ F (aQ ⟨#[61]⟩) q.2).bind (fun e=>match e with| .inl r_109=>(iJ F r_109).bind (fun e=>match e with| .inl z=>ck (((f.2.2.2.2.1.length)+(1:Nat))*97≤140737488355328) ((cO F z.2).bind (fun e=>match e with| .inl r_117=>some (.inl ((f.1,f.2.1,f.2.2.1,f.2.2.2.1,(f.2.2.2.2.1++([(q.1,z.1,())]:List q9)),()),r_117))| .inr p_118=>some (.inr p_118)))| .inr p_116=>some (.inr p_116))| .inr Y=>some (.inr Y))| .inr p_104=>some (.inr p_104)) else (iI F g.2).bind (fun e=>match e with| .inl r_119=>(cO F r_119).bind (fun e=>match e with| .inl r_121=>some (.inl ((f.1,f.2.1,f.2.2.1,f.2.2.2.1,f.2.2.2.2.1,()),r_121))| .inr p_122=>some (.inr p_122))| .inr Z=>some (.inr Z))| .inr p_42=>some (.inr p_42))
def aD3(F:Md):fQ where
 D:=vg×Nat×qd×qo×((qd×qo)⊕wc)
 av:=fun d=>[.ptr 0 [.idx 5 d.2.1],.ptr 1 []]
 hp:=fun d=>[.trh 63 qi qa d.1 d.2.1 (.agg [.val .str d.2.2.1.1,.own 2,.own 3,.own 4,.own 5]),.box 3 (.val qk d.2.2.2.1),.row 74 qr d.2.2.1.2.1,.row 91 qz d.2.2.1.2.2.1,.row 9 .str d.2.2.1.2.2.2.1,.row 76 qu d.2.2.1.2.2.2.2.1]
 m:=2
 pre:=fun d=>vD F d.1 d.2.1 d.2.2.1 d.2.2.2.1=some d.2.2.2.2
 out:=fun d=>match d.2.2.2.2 with| .inl r=>.ret (.tup []) [.trh 63 qi qa d.1 d.2.1 (.agg [.val .str r.1.1,.own 2,.own 3,.own 4,.own 5]),.box 3 (.val qk r.2),.row 74 qr r.1.2.1,.row 91 qz r.1.2.2.1,.row 9 .str r.1.2.2.2.1,.row 76 qu r.1.2.2.2.2.1]| .inr p=>.pan ⟨45,wg,p⟩ [.dead,.box 3 (.junk)]
def aNs(F:Md):PlR:=⟨[(0,.P [0,1,8] []),(1,.P [1] []),(2,.A [0,1,8,11]),(3,.P [0,1,4] []),(4,.P [0,1,4] []),(5,.P [0,1,4] []),(6,.P [0,1,4] []),(7,.P [0,1,4] []),(8,.stop),(9,.A [0,1,8,36]),(10,.P [0,1,5] []),(11,.P [0,1,5] []),(12,.P [0,1,5] []),(13,.stop),(14,.A [0,1,8,56]),(15,.stop),(16,.A [0,1,69]),(17,.P [0,1,6] []),(18,.P [0,1,6] []),(19,.P [0,1,6] []),(20,.stop),(21,.P [] [])],[],[(49,aAJ F),(52,gU F),(54,zE F),(56,xQ F),(57,aGt F),(101,aGv F),(102,aGx F)]⟩
abbrev aZO(F:Md):List (FuncId×aF):=[]
theorem aZP[Mx](F:Md):bF Tryz.prog GL (aZO F):=.nil
attribute [go_sem] aNs aD3
theorem aNt[Mx](F:Md):GOK Tryz.prog GL 58 (aD3 F):=by
 refine kG (bAZ (aZP F)) mix Tryz.func58 rfl xN (fun _=>Nat.le_of_ble_eq_true rfl) (aNs F) (fun c0 w0 d hw hw2 h hV=>?_) (.cons (fun _ _=>(aDF F)) xN (.cons (fun _ _=>(iT F)) xN (.cons (fun _ _=>(aC1 F)) xN (.cons (fun _ _=>(aBL F)) xN (.cons (fun _ _=>(tQ F)) xN (.cons (fun _ _=>(aOn F)) xN (.cons (fun _ _=>(aOo F)) xN (.nil))))))));obtain⟨(q:vg),(f:Nat),(g:qd),(o1_3:qo),r⟩:=d;have hF:=hV.fr;replace h:=kH (show vD F q f g o1_3=some r from h);simp only[vH,List.map_cons,List.map_nil,go_sem];unfold vD at h;refine aB h fun e hv h=>?_;rcases e with Z|p_42
 ·try dsimp only at h
  simp only[hv,go_sem];refine cH h (fun hc h=>?_) fun hc h=>?_
  ·refine aB h fun e hv h=>?_;rcases e with U|p_48
   ·(try dsimp only at h);simp only[hv,go_sem];refine aB h fun e hv h=>?_;rcases e with r_53|p_54
    ·(try dsimp only at h);simp only[hv,go_sem];refine aB h fun e hv h=>?_;rcases e with Y|p_60
     ·(try dsimp only at h);simp only[hv,go_sem];refine aB h fun e hv h=>?_;rcases e with r_65|p_66
      ·(try dsimp only at h);simp only[hv,go_sem];refine aB h fun e hv h=>?_;rcases e with J|p_72
       ·(try dsimp only at h);simp only[hv,go_sem];(repeat (refine⟨zAB,?_⟩));obtain⟨q0,h,hq⟩:=h;obtain⟨g0,h⟩:=bG h;refine aGZ hF [1] [6,7,10] [[0],[0],[27],[28],[29],[4],[31],[30,32],[26],[34],[33,35]] [(0,0),(0,1),(0,2),(1,0),(1,1),(1,2),(2,0),(2,1),(2,2),(3,0),(3,1),(3,2),(4,0),(4,1),(5,0),(6,0),(7,1),(8,2),(8,3),(9,2),(10,2)] [.ptr 0 [.idx 5 f],.ptr 0 [.idx 5 f],.ptr 0 [.idx 5 f],.ptr 0 [.idx 5 f,.fld 1 1],.own 2,.val qr (U.1,Y.1,J.1,()),.own 7,.own 8,.ptr 0 [.idx 5 f],.ptr 0 [.idx 5 f,.fld 1 1],.junk] [[.trh 63 qi qa q f (.agg [.val .str g.1,.own 2,.own 3,.own 4,.own 5]),.box 3 (.val qk J.2),.row 74 qr g.2.1,.row 91 qz g.2.2.1,.row 9 .str g.2.2.2.1,.row 76 qu g.2.2.2.2.1,.box 6 (.val qr (U.1,Y.1,J.1,()))],[.trh 63 qi qa q f (.agg [.val .str g.1,.own 2,.own 3,.own 4,.own 5]),.box 3 (.val qk J.2),.row 74 qr g.2.1,.row 91 qz g.2.2.1,.row 9 .str g.2.2.2.1,.row 76 qu g.2.2.2.2.1,.box 6 (.val qr (U.1,Y.1,J.1,())),.row 74 qr ([(U.1,Y.1,J.1,())]:List wR)],[.trh 63 qi qa q f (.agg [.val .str g.1,.own 2,.own 3,.own 4,.own 5]),.box 3 (.val qk J.2),.dead,.row 91 qz g.2.2.1,.row 9 .str g.2.2.2.1,.row 76 qu g.2.2.2.2.1,.box 6 (.val qr (U.1,Y.1,J.1,())),.dead,.row 74 qr (g.2.1++([(U.1,Y.1,J.1,())]:List wR))],[.trh 63 qi qa q f (.agg [.val .str g.1,.own 8,.own 3,.own 4,.own 5]),.box 3 (.val qk J.2),.dead,.row 91 qz g.2.2.1,.row 9 .str g.2.2.2.1,.row 76 qu g.2.2.2.2.1,.box 6 (.val qr (U.1,Y.1,J.1,())),.dead,.row 74 qr (g.2.1++([(U.1,Y.1,J.1,())]:List wR))]] [[(0,.ptr 0 [.idx 5 f])],[(0,.ptr 0 [.idx 5 f])],[(27,.ptr 0 [.idx 5 f])],[(28,.ptr 0 [.idx 5 f])],[(29,.ptr 0 [.idx 5 f,.fld 1 1])],[(4,.ptr 6 [])],[(31,.val qr (U.1,Y.1,J.1,()))],[(30,.own 2),(32,.own 7)],[(26,.ptr 0 [.idx 5 f])],[(34,.ptr 0 [.idx 5 f])],[(33,.own 8),(35,.ptr 0 [.idx 5 f,.fld 1 1])]] xAa rfl rfl ?_ ?_
        ·simp only[go_sem];exact zaM
        show At _ _ [(1,.ptr 1 [])] [.trh 63 qi qa q f (.agg [.val .str g.1,.own 8,.own 3,.own 4,.own 5]),.box 3 (.val qk J.2),.dead,.row 91 qz g.2.2.1,.row 9 .str g.2.2.2.1,.row 76 qu g.2.2.2.2.1,.box 6 (.val qr (U.1,Y.1,J.1,())),.dead,.row 74 qr (g.2.1++([(U.1,Y.1,J.1,())]:List wR))];(first|replace h:=oV h hq|replace h:=oV (Θ:=(· = r)) h hq);refine aF4 hV (yaA ?_);refine aB h fun e hv h=>?_;rcases e with r_73|p_74
        ·(try dsimp only at h);simp only[hv,go_sem];obtain rfl:=aO h;refine iG (gK [0,1,8,3,4,5] rfl rfl (yaB ?_));exact zaa
        ·(try dsimp only at h);exact zaE
       ·(try dsimp only at h);exact zaE
      ·(try dsimp only at h);exact zaE
     ·(try dsimp only at h);exact zaE
    ·(try dsimp only at h);exact zaE
   ·(try dsimp only at h);exact zaE
  ·refine cH h (fun hc h=>?_) fun hc h=>?_
   ·refine aB h fun e hv h=>?_;rcases e with O|p_80
    ·(try dsimp only at h);simp only[hv,go_sem];refine aB h fun e hv h=>?_;rcases e with r_85|p_86
     ·(try dsimp only at h);simp only[hv,go_sem];refine aB h fun e hv h=>?_;rcases e with I|p_92
      ·(try dsimp only at h);simp only[hv,go_sem];(repeat (refine⟨zAB,?_⟩));obtain⟨q0,h,hq⟩:=h;obtain⟨g0,h⟩:=bG h;refine aGZ hF [1] [6,7,10] [[0],[0],[47],[48],[49],[5],[51],[50,52],[46],[54],[53,55]] [(0,0),(0,1),(0,2),(1,0),(1,1),(1,2),(2,0),(2,1),(2,2),(3,0),(3,1),(3,2),(4,0),(4,1),(5,0),(6,0),(7,1),(8,2),(8,3),(9,2),(10,2)] [.ptr 0 [.idx 5 f],.ptr 0 [.idx 5 f],.ptr 0 [.idx 5 f],.ptr 0 [.idx 5 f,.fld 2 2],.own 3,.val qz (O.1,I.1,()),.own 7,.own 8,.ptr 0 [.idx 5 f],.ptr 0 [.idx 5 f,.fld 2 2],.junk] [[.trh 63 qi qa q f (.agg [.val .str g.1,.own 2,.own 3,.own 4,.own 5]),.box 3 (.val qk I.2),.row 74 qr g.2.1,.row 91 qz g.2.2.1,.row 9 .str g.2.2.2.1,.row 76 qu g.2.2.2.2.1,.box 3 (.val qz (O.1,I.1,()))],[.trh 63 qi qa q f (.agg [.val .str g.1,.own 2,.own 3,.own 4,.own 5]),.box 3 (.val qk I.2),.row 74 qr g.2.1,.row 91 qz g.2.2.1,.row 9 .str g.2.2.2.1,.row 76 qu g.2.2.2.2.1,.box 3 (.val qz (O.1,I.1,())),.row 91 qz ([(O.1,I.1,())]:List we)],[.trh 63 qi qa q f (.agg [.val .str g.1,.own 2,.own 3,.own 4,.own 5]),.box 3 (.val qk I.2),.row 74 qr g.2.1,.dead,.row 9 .str g.2.2.2.1,.row 76 qu g.2.2.2.2.1,.box 3 (.val qz (O.1,I.1,())),.row 91 qz ([(O.1,I.1,())]:List we),.row 91 qz (g.2.2.1++([(O.1,I.1,())]:List we))],[.trh 63 qi qa q f (.agg [.val .str g.1,.own 2,.own 8,.own 4,.own 5]),.box 3 (.val qk I.2),.row 74 qr g.2.1,.dead,.row 9 .str g.2.2.2.1,.row 76 qu g.2.2.2.2.1,.box 3 (.val qz (O.1,I.1,())),.row 91 qz ([(O.1,I.1,())]:List we),.row 91 qz (g.2.2.1++([(O.1,I.1,())]:List we))]] [[(0,.ptr 0 [.idx 5 f])],[(0,.ptr 0 [.idx 5 f])],[(47,.ptr 0 [.idx 5 f])],[(48,.ptr 0 [.idx 5 f])],[(49,.ptr 0 [.idx 5 f,.fld 2 2])],[(5,.ptr 6 [])],[(51,.val qz (O.1,I.1,()))],[(50,.own 3),(52,.own 7)],[(46,.ptr 0 [.idx 5 f])],[(54,.ptr 0 [.idx 5 f])],[(53,.own 8),(55,.ptr 0 [.idx 5 f,.fld 2 2])]] xAa rfl rfl ?_ ?_
       ·simp only[go_sem];exact zaM
       show At _ _ [(1,.ptr 1 [])] [.trh 63 qi qa q f (.agg [.val .str g.1,.own 2,.own 8,.own 4,.own 5]),.box 3 (.val qk I.2),.row 74 qr g.2.1,.dead,.row 9 .str g.2.2.2.1,.row 76 qu g.2.2.2.2.1,.box 3 (.val qz (O.1,I.1,())),.row 91 qz ([(O.1,I.1,())]:List we),.row 91 qz (g.2.2.1++([(O.1,I.1,())]:List we))];(first|replace h:=oV h hq|replace h:=oV (Θ:=(· = r)) h hq);refine aF4 hV (yaA ?_);refine aB h fun e hv h=>?_;rcases e with r_93|p_94
       ·(try dsimp only at h);simp only[hv,go_sem];obtain rfl:=aO h;refine iG (gK [0,1,2,8,4,5] rfl rfl (yaB ?_));exact zaa
       ·(try dsimp only at h);exact zaE
      ·(try dsimp only at h);exact zaE
     ·(try dsimp only at h);exact zaE
    ·(try dsimp only at h);simp only[hv,go_sem];(repeat (refine⟨zAB,?_⟩));obtain rfl:=aO h;refine aL (nK 0 rfl aH) ?_;exact zaf
   ·refine cH h (fun hc h=>?_) fun hc h=>?_
    ·obtain⟨q0,h,hq⟩:=h;obtain⟨e,he1,h⟩:=bind_some h;rcases e with L|p_96
     ·(try dsimp only at h);obtain⟨g0,h⟩:=bG h;refine uM hF (eX (l:=[(57,⟨mI F,[1],(Z.2,.inl L)⟩)]) (.cons (tQ F) xN (.nil))) [] [1] [6,7,8,11] [[0],[0],[59],[60],[61],[1],[63],[64],[62,65],[58],[67],[66,68]] [(0,0),(0,1),(0,2),(0,3),(1,0),(1,1),(1,2),(1,3),(2,0),(2,1),(2,2),(2,3),(3,0),(3,1),(3,2),(3,3),(4,0),(4,1),(4,2),(5,0),(6,0),(7,1),(8,2),(9,3),(9,4),(10,3),(11,3)] [.ptr 0 [.idx 5 f],.ptr 0 [.idx 5 f],.ptr 0 [.idx 5 f],.ptr 0 [.idx 5 f,.fld 3 3],.own 4,.ptr 1 [],.val .str L.1,.own 6,.own 7,.ptr 0 [.idx 5 f],.ptr 0 [.idx 5 f,.fld 3 3],.junk] [[.trh 63 qi qa q f (.agg [.val .str g.1,.own 2,.own 3,.own 4,.own 5]),.box 3 (.val qk Z.2),.row 74 qr g.2.1,.row 91 qz g.2.2.1,.row 9 .str g.2.2.2.1,.row 76 qu g.2.2.2.2.1],[.trh 63 qi qa q f (.agg [.val .str g.1,.own 2,.own 3,.own 4,.own 5]),.box 3 (.val qk L.2),.row 74 qr g.2.1,.row 91 qz g.2.2.1,.row 9 .str g.2.2.2.1,.row 76 qu g.2.2.2.2.1],[.trh 63 qi qa q f (.agg [.val .str g.1,.own 2,.own 3,.own 4,.own 5]),.box 3 (.val qk L.2),.row 74 qr g.2.1,.row 91 qz g.2.2.1,.row 9 .str g.2.2.2.1,.row 76 qu g.2.2.2.2.1,.row 9 .str ([L.1]:List qc)],[.trh 63 qi qa q f (.agg [.val .str g.1,.own 2,.own 3,.own 4,.own 5]),.box 3 (.val qk L.2),.row 74 qr g.2.1,.row 91 qz g.2.2.1,.dead,.row 76 qu g.2.2.2.2.1,.row 9 .str ([L.1]:List qc),.row 9 .str (g.2.2.2.1++([L.1]:List qc))],[.trh 63 qi qa q f (.agg [.val .str g.1,.own 2,.own 3,.own 7,.own 5]),.box 3 (.val qk L.2),.row 74 qr g.2.1,.row 91 qz g.2.2.1,.dead,.row 76 qu g.2.2.2.2.1,.row 9 .str ([L.1]:List qc),.row 9 .str (g.2.2.2.1++([L.1]:List qc))]] [[(0,.ptr 0 [.idx 5 f])],[(0,.ptr 0 [.idx 5 f])],[(59,.ptr 0 [.idx 5 f])],[(60,.ptr 0 [.idx 5 f])],[(61,.ptr 0 [.idx 5 f,.fld 3 3])],[(1,.ptr 1 [])],[(63,.ptr 1 [])],[(64,.val .str L.1)],[(62,.own 4),(65,.own 6)],[(58,.ptr 0 [.idx 5 f])],[(67,.ptr 0 [.idx 5 f])],[(66,.own 7),(68,.ptr 0 [.idx 5 f,.fld 3 3])]] false xAa rfl rfl ?_ ?_
      ·simp only[go_sem];exact zaM
      intro _;show At _ _ [(1,.ptr 1 [])] [.trh 63 qi qa q f (.agg [.val .str g.1,.own 2,.own 3,.own 7,.own 5]),.box 3 (.val qk L.2),.row 74 qr g.2.1,.row 91 qz g.2.2.1,.dead,.row 76 qu g.2.2.2.2.1,.row 9 .str ([L.1]:List qc),.row 9 .str (g.2.2.2.1++([L.1]:List qc))];(first|replace h:=oV h hq|replace h:=oV (Θ:=(· = r)) h hq);refine aF4 hV (yaA ?_);refine aB h fun e hv h=>?_;rcases e with r_97|p_98
      ·(try dsimp only at h);simp only[hv,go_sem];obtain rfl:=aO h;refine iG (gK [0,1,2,3,7,5] rfl rfl (yaB ?_));exact zaa
      ·(try dsimp only at h);simp only[hv,go_sem];(repeat (refine⟨zAB,?_⟩));obtain rfl:=aO h;refine aL (nK 0 rfl aH) ?_;exact zaf
     ·(try dsimp only at h);refine uM hF (eX (l:=[(57,⟨mI F,[1],(Z.2,.inr p_96)⟩)]) (.cons (tQ F) xN (.nil))) [] [1] [6] [[0],[0],[59],[60],[61],[1],[63],[64],[62,65],[58],[67],[66,68]] [(0,0),(1,0),(2,0),(3,0),(4,0),(5,0),(6,0)] [.ptr 0 [.idx 5 f],.ptr 0 [.idx 5 f],.ptr 0 [.idx 5 f],.ptr 0 [.idx 5 f,.fld 3 3],.own 4,.ptr 1 [],.junk,.junk,.junk,.junk,.junk,.junk] [[.trh 63 qi qa q f (.agg [.val .str g.1,.own 2,.own 3,.own 4,.own 5]),.box 3 (.val qk Z.2),.row 74 qr g.2.1,.row 91 qz g.2.2.1,.row 9 .str g.2.2.2.1,.row 76 qu g.2.2.2.2.1]] [[(0,.ptr 0 [.idx 5 f])],[(0,.ptr 0 [.idx 5 f])],[(59,.ptr 0 [.idx 5 f])],[(60,.ptr 0 [.idx 5 f])],[(61,.ptr 0 [.idx 5 f,.fld 3 3])],[(1,.ptr 1 [])],[(63,.ptr 1 [])],[(64,.junk)],[(62,.own 4),(65,.junk)],[(58,.ptr 0 [.idx 5 f])],[(67,.junk)],[(66,.junk),(68,.junk)]] true xAa rfl rfl ?_ ?_;rotate_left;exact fun h=>absurd h xAa;simp only[go_sem]
      (repeat' apply And.intro)<;>try (first|trivial|rfl|with_reducible assumption|omega|(intros; first|with_reducible assumption|omega)|(simp; done)|(simp at *; omega))
      (first|replace h:=oV h hq|replace h:=oV (Θ:=(· = r)) h hq);(try simp only[go_sem]);obtain rfl:=aO h;refine aL (nK 0 rfl aH) ?_;refine aL (aJ 1 rfl aH) (yaA ?_);refine bS [0,1] rfl rfl (yaB ?_);refine bC rfl rfl rfl rfl
    ·refine cH h (fun hc h=>?_) fun hc h=>?_
     ·refine aB h fun e hv h=>?_;rcases e with N|p_104
      ·(try dsimp only at h);simp only[hv,go_sem];refine aB h fun e hv h=>?_;rcases e with r_109|p_110
       ·(try dsimp only at h);simp only[hv,go_sem];refine aB h fun e hv h=>?_;rcases e with z|p_116
        ·(try dsimp only at h);simp only[hv,go_sem];(repeat (refine⟨zAB,?_⟩));obtain⟨q0,h,hq⟩:=h;obtain⟨g0,h⟩:=bG h;refine aGZ hF [1] [6,7,10] [[0],[0],[80],[81],[82],[6],[84],[83,85],[79],[87],[86,88]] [(0,0),(0,1),(0,2),(1,0),(1,1),(1,2),(2,0),(2,1),(2,2),(3,0),(3,1),(3,2),(4,0),(4,1),(5,0),(6,0),(7,1),(8,2),(8,3),(9,2),(10,2)] [.ptr 0 [.idx 5 f],.ptr 0 [.idx 5 f],.ptr 0 [.idx 5 f],.ptr 0 [.idx 5 f,.fld 4 4],.own 5,.val qu (N.1,z.1,()),.own 7,.own 8,.ptr 0 [.idx 5 f],.ptr 0 [.idx 5 f,.fld 4 4],.junk] [[.trh 63 qi qa q f (.agg [.val .str g.1,.own 2,.own 3,.own 4,.own 5]),.box 3 (.val qk z.2),.row 74 qr g.2.1,.row 91 qz g.2.2.1,.row 9 .str g.2.2.2.1,.row 76 qu g.2.2.2.2.1,.box 4 (.val qu (N.1,z.1,()))],[.trh 63 qi qa q f (.agg [.val .str g.1,.own 2,.own 3,.own 4,.own 5]),.box 3 (.val qk z.2),.row 74 qr g.2.1,.row 91 qz g.2.2.1,.row 9 .str g.2.2.2.1,.row 76 qu g.2.2.2.2.1,.box 4 (.val qu (N.1,z.1,())),.row 76 qu ([(N.1,z.1,())]:List q9)],[.trh 63 qi qa q f (.agg [.val .str g.1,.own 2,.own 3,.own 4,.own 5]),.box 3 (.val qk z.2),.row 74 qr g.2.1,.row 91 qz g.2.2.1,.row 9 .str g.2.2.2.1,.dead,.box 4 (.val qu (N.1,z.1,())),.dead,.row 76 qu (g.2.2.2.2.1++([(N.1,z.1,())]:List q9))],[.trh 63 qi qa q f (.agg [.val .str g.1,.own 2,.own 3,.own 4,.own 8]),.box 3 (.val qk z.2),.row 74 qr g.2.1,.row 91 qz g.2.2.1,.row 9 .str g.2.2.2.1,.dead,.box 4 (.val qu (N.1,z.1,())),.dead,.row 76 qu (g.2.2.2.2.1++([(N.1,z.1,())]:List q9))]] [[(0,.ptr 0 [.idx 5 f])],[(0,.ptr 0 [.idx 5 f])],[(80,.ptr 0 [.idx 5 f])],[(81,.ptr 0 [.idx 5 f])],[(82,.ptr 0 [.idx 5 f,.fld 4 4])],[(6,.ptr 6 [])],[(84,.val qu (N.1,z.1,()))],[(83,.own 5),(85,.own 7)],[(79,.ptr 0 [.idx 5 f])],[(87,.ptr 0 [.idx 5 f])],[(86,.own 8),(88,.ptr 0 [.idx 5 f,.fld 4 4])]] xAa rfl rfl ?_ ?_
         ·simp only[go_sem];exact zaM
         show At _ _ [(1,.ptr 1 [])] [.trh 63 qi qa q f (.agg [.val .str g.1,.own 2,.own 3,.own 4,.own 8]),.box 3 (.val qk z.2),.row 74 qr g.2.1,.row 91 qz g.2.2.1,.row 9 .str g.2.2.2.1,.dead,.box 4 (.val qu (N.1,z.1,())),.dead,.row 76 qu (g.2.2.2.2.1++([(N.1,z.1,())]:List q9))];(first|replace h:=oV h hq|replace h:=oV (Θ:=(· = r)) h hq);refine aF4 hV (yaA ?_);refine aB h fun e hv h=>?_;rcases e with r_117|p_118
         ·(try dsimp only at h);simp only[hv,go_sem];obtain rfl:=aO h;refine iG (gK [0,1,2,3,4,8] rfl rfl (yaB ?_));exact zaa
         ·(try dsimp only at h);exact zaE
        ·(try dsimp only at h);exact zaE
       ·(try dsimp only at h);exact zaE
      ·(try dsimp only at h);exact zaE
     ·refine aB h fun e hv h=>?_;rcases e with r_119|p_120
      ·(try dsimp only at h);simp only[hv,go_sem];refine aB h fun e hv h=>?_;rcases e with r_121|p_122
       ·(try dsimp only at h);exact zaL
       ·(try dsimp only at h);exact zaE
      ·(try dsimp only at h);exact zaE
 ·try dsimp only at h
  exact zaE
def lY(F:Md)(f:qf)(o1_3:qo):Option ((qf×qo)⊕wc) :=
 (dP F o1_3).bind (fun q=>if q.1=(aQ ⟨#[108,105,110,107]⟩) then (cK F q.2).bind (fun e=>match e with| .inl r_13=>(iK F r_13.2).bind (fun e=>match e with| .inl z=>(dJ F (aQ ⟨#[61]⟩) z.2).bind (fun e=>match e with| .inl r_25=>(iK F r_25).bind (fun e=>match e with| .inl I=>(cO F I.2).bind (fun e=>match e with| .inl r_37=>ck (((f.2.2.2.2.2.2.2.2.2.1.length)+(1:Nat))*97≤140737488355328) (some (.inl ((f.1,f.2.1,f.2.2.1,f.2.2.2.1,f.2.2.2.2.1,f.2.2.2.2.2.1,f.2.2.2.2.2.2.1,f.2.2.2.2.2.2.2.1,f.2.2.2.2.2.2.2.2.1,(f.2.2.2.2.2.2.2.2.2.1++([(z.1.1,z.1.2.1,I.1.1,I.1.2.1,())]:List qy)),()),r_37)))| .inr p_38=>some (.inr p_38))| .inr L=>some (.inr L))| .inr N=>some (.inr N))| .inr p_20=>some (.inr p_20))| .inr p_14=>some (.inr p_14)) else if (0:Int)<(f.2.2.2.2.2.2.2.2.2.1.length:Int) then (iI F q.2).bind (fun e=>match e with| .inl r_39=>some (.inl ((f.1,f.2.1,f.2.2.1,f.2.2.2.1,f.2.2.2.2.1,f.2.2.2.2.2.1,f.2.2.2.2.2.2.1,f.2.2.2.2.2.2.2.1,f.2.2.2.2.2.2.2.2.1,f.2.2.2.2.2.2.2.2.2.1,()),r_39))| .inr p_40=>some (.inr p_40)) else if q.1=(aQ ⟨#[115,117,98]⟩) then (cK F q.2).bind (fun e=>match e with| .inl O=>(eZ F O.2).bind (fun e=>match e with| .inl J=>ck (((f.2.2.2.2.2.2.2.2.1.length)+(1:Nat))*121≤140737488355328) ((cO F J.2).bind (fun e=>match e with| .inl U=>some (.inl ((f.1,f.2.1,f.2.2.1,f.2.2.2.1,f.2.2.2.2.1,f.2.2.2.2.2.1,f.2.2.2.2.2.2.1,f.2.2.2.2.2.2.2.1,(f.2.2.2.2.2.2.2.2.1++([(J.1,([]:List wR),([]:List we),([]:List qc),([]:List q9),())]:List qd)),f.2.2.2.2.2.2.2.2.2.1,()),U))| .inr p_54=>some (.inr p_54)))| .inr Y=>some (.inr Y))| .inr p_46=>some (.inr p_46)) else if (0:Int)<(f.2.2.2.2.2.2.2.2.1.length:Int) then ck (((f.2.2.2.2.2.2.2.2.1.length:Int)-(1:Int)).toNat<(f.2.2.2.2.2.2.2.2.1.length)) (ck (I64 ((f.2.2.2.2.2.2.2.2.1.length:Int)-(1:Int))) (ck (0≤((f.2.2.2.2.2.2.2.2.1.length:Int)-(1:Int))∧((f.2.2.2.2.2.2.2.2.1.length:Int)-(1:Int))<(f.2.2.2.2.2.2.2.2.1.length:Int)) ((vD F f.2.2.2.2.2.2.2.2.1 ((f.2.2.2.2.2.2.2.2.1.length:Int)-(1:Int)).toNat ((f.2.2.2.2.2.2.2.2.1.getD ((f.2.2.2.2.2.2.2.2.1.length:Int)-(1:Int)).toNat ([],[],[],[],[],())).1,(f.2.2.2.2.2.2.2.2.1.getD ((f.2.2.2.2.2.2.2.2.1.length:Int)-(1:Int)).toNat ([],[],[],[],[],())).2.1,(f.2.2.2.2.2.2.2.2.1.getD ((f.2.2.2.2.2.2.2.2.1.length:Int)-(1:Int)).toNat ([],[],[],[],[],())).2.2.1,(f.2.2.2.2.2.2.2.2.1.getD ((f.2.2.2.2.2.2.2.2.1.length:Int)-(1:Int)).toNat ([],[],[],[],[],())).2.2.2.1,(f.2.2.2.2.2.2.2.2.1.getD ((f.2.2.2.2.2.2.2.2.1.length:Int)-(1:Int)).toNat ([],[],[],[],[],())).2.2.2.2.1,()) q.2).bind (fun e=>match e with| .inl g=>some (.inl ((f.1,f.2.1,f.2.2.1,f.2.2.2.1,f.2.2.2.2.1,f.2.2.2.2.2.1,f.2.2.2.2.2.2.1,f.2.2.2.2.2.2.2.1,(f.2.2.2.2.2.2.2.2.1.set ((f.2.2.2.2.2.2.2.2.1.length:Int)-(1:Int)).toNat (g.1.1,g.1.2.1,g.1.2.2.1,g.1.2.2.2.1,g.1.2.2.2.2.1,())),f.2.2.2.2.2.2.2.2.2.1,()),g.2))| .inr Z=>some (.inr Z))))) else (iI F q.2).bind (fun e=>match e with| .inl r_57=>some (.inl ((f.1,f.2.1,f.2.2.1,f.2.2.2.1,f.2.2.2.2.1,f.2.2.2.2.2.1,f.2.2.2.2.2.2.1,f.2.2.2.2.2.2.2.1,f.2.2.2.2.2.2.2.2.1,f.2.2.2.2.2.2.2.2.2.1,()),r_57))| .inr p_58=>some (.inr p_58)))
def aBA(F:Md):fQ where
 D:=qf×qo×((qf×qo)⊕wc)
 av:=fun d=>[.ptr 0 [],.ptr 1 []]
 hp:=fun d=>[.box 10 (.agg [.val qg d.1.1,.val qg d.1.2.1,.val qg d.1.2.2.1,.val qg d.1.2.2.2.1,.val .str d.1.2.2.2.2.1,.val .str d.1.2.2.2.2.2.1,.val .str d.1.2.2.2.2.2.2.1,.val .str d.1.2.2.2.2.2.2.2.1,.own 2,.own 3]),.box 3 (.val qk d.2.1),.tre 63 qi qa d.1.2.2.2.2.2.2.2.2.1,.row 69 qv d.1.2.2.2.2.2.2.2.2.2.1]
 m:=2
 pre:=fun d=>lY F d.1 d.2.1=some d.2.2
 out:=fun d=>match d.2.2 with| .inl r=>.ret (.tup []) [.box 10 (.agg [.val qg r.1.1,.val qg r.1.2.1,.val qg r.1.2.2.1,.val qg r.1.2.2.2.1,.val .str r.1.2.2.2.2.1,.val .str r.1.2.2.2.2.2.1,.val .str r.1.2.2.2.2.2.2.1,.val .str r.1.2.2.2.2.2.2.2.1,.own 2,.own 3]),.box 3 (.val qk r.2),.tre 63 qi qa r.1.2.2.2.2.2.2.2.2.1,.row 69 qv r.1.2.2.2.2.2.2.2.2.2.1]| .inr p=>.pan ⟨45,wg,p⟩ [.box 10 (.junk),.box 3 (.junk)]
def aKa(F:Md):PlR:=⟨[(0,.A [0,1,4]),(1,.P [0,1,4,5] []),(2,.P [] []),(3,.A [0,1,4,5,16]),(4,.P [0,1] []),(5,.B [0,1,6]),(6,.P [0,1,6] []),(7,.P [0,1,6] []),(8,.P [0,1,6] []),(9,.P [0,6] []),(10,.stop),(11,.A [0,1,4,5,49]),(12,.P [] []),(13,.A [0,1,4,58]),(14,.P [0,1] []),(15,.stop),(16,.P [] []),(17,.A [0,1,4,77]),(18,.stop)],[],[(19,tO F),(49,aAJ F),(52,gU F),(54,zE F),(55,aGz F),(56,xQ F)]⟩
abbrev aWa(F:Md):List (FuncId×aF):=[]
theorem aWb[Mx](F:Md):bF Tryz.prog GL (aWa F):=.nil
attribute [go_sem] aKa aBA
theorem aKb[Mx](F:Md):GOK Tryz.prog GL 21 (aBA F):=by
 refine kG (bAZ (aWb F)) mix Tryz.func21 rfl xN (fun _=>Nat.le_of_ble_eq_true rfl) (aKa F) (fun c0 w0 d hw hw2 h hV=>?_) (.cons (fun _ _=>(tP F)) xN (.cons (fun _ _=>(aDF F)) xN (.cons (fun _ _=>(iT F)) xN (.cons (fun _ _=>(aC1 F)) xN (.cons (fun _ _=>(aOp F)) xN (.cons (fun _ _=>(aBL F)) xN (.nil)))))));obtain⟨(f:qf),(Y:qo),r⟩:=d;have hF:=hV.fr;replace h:=kH (show lY F f Y=some r from h);simp only[vH,List.map_cons,List.map_nil,go_sem];unfold lY at h;refine aB h fun U hv h=>?_;simp only[hv,go_sem];refine cH h (fun hc h=>?_) fun hc h=>?_
 ·refine aB h fun e hv h=>?_;rcases e with r_13|p_14
  ·(try dsimp only at h);simp only[hv,go_sem];refine aB h fun e hv h=>?_;rcases e with g|p_20
   ·(try dsimp only at h);simp only[hv,go_sem];refine aB h fun e hv h=>?_;rcases e with r_25|p_26
    ·(try dsimp only at h);simp only[hv,go_sem];refine aB h fun e hv h=>?_;rcases e with q|Z
     ·(try dsimp only at h);simp only[hv,go_sem];refine aB h fun e hv h=>?_;rcases e with J|p_38
      ·(try dsimp only at h);simp only[hv,go_sem];(repeat (refine⟨zAB,?_⟩));obtain⟨q0,h,hq⟩:=h;obtain⟨g0,h⟩:=bG h;refine aGZ hF [] [6,7,10] [[0],[0],[40],[41],[42],[6],[44],[43,45],[39],[47],[46,48]] [(0,0),(0,1),(0,2),(1,0),(1,1),(1,2),(2,0),(2,1),(2,2),(3,0),(3,1),(3,2),(4,0),(4,1),(5,0),(6,0),(7,1),(8,2),(8,3),(9,2),(10,2)] [.ptr 0 [],.ptr 0 [],.ptr 0 [],.ptr 0 [.fld 9 9],.own 3,.val qv (g.1.1,g.1.2.1,q.1.1,q.1.2.1,()),.own 5,.own 6,.ptr 0 [],.ptr 0 [.fld 9 9],.junk] [[.box 10 (.agg [.val qg f.1,.val qg f.2.1,.val qg f.2.2.1,.val qg f.2.2.2.1,.val .str f.2.2.2.2.1,.val .str f.2.2.2.2.2.1,.val .str f.2.2.2.2.2.2.1,.val .str f.2.2.2.2.2.2.2.1,.own 2,.own 3]),.box 3 (.val qk J),.tre 63 qi qa f.2.2.2.2.2.2.2.2.1,.row 69 qv f.2.2.2.2.2.2.2.2.2.1,.box 4 (.val qv (g.1.1,g.1.2.1,q.1.1,q.1.2.1,()))],[.box 10 (.agg [.val qg f.1,.val qg f.2.1,.val qg f.2.2.1,.val qg f.2.2.2.1,.val .str f.2.2.2.2.1,.val .str f.2.2.2.2.2.1,.val .str f.2.2.2.2.2.2.1,.val .str f.2.2.2.2.2.2.2.1,.own 2,.own 3]),.box 3 (.val qk J),.tre 63 qi qa f.2.2.2.2.2.2.2.2.1,.row 69 qv f.2.2.2.2.2.2.2.2.2.1,.box 4 (.val qv (g.1.1,g.1.2.1,q.1.1,q.1.2.1,())),.row 69 qv ([(g.1.1,g.1.2.1,q.1.1,q.1.2.1,())]:List qy)],[.box 10 (.agg [.val qg f.1,.val qg f.2.1,.val qg f.2.2.1,.val qg f.2.2.2.1,.val .str f.2.2.2.2.1,.val .str f.2.2.2.2.2.1,.val .str f.2.2.2.2.2.2.1,.val .str f.2.2.2.2.2.2.2.1,.own 2,.own 3]),.box 3 (.val qk J),.tre 63 qi qa f.2.2.2.2.2.2.2.2.1,.dead,.box 4 (.val qv (g.1.1,g.1.2.1,q.1.1,q.1.2.1,())),.row 69 qv ([(g.1.1,g.1.2.1,q.1.1,q.1.2.1,())]:List qy),.row 69 qv (f.2.2.2.2.2.2.2.2.2.1++([(g.1.1,g.1.2.1,q.1.1,q.1.2.1,())]:List qy))],[.box 10 (.agg [.val qg f.1,.val qg f.2.1,.val qg f.2.2.1,.val qg f.2.2.2.1,.val .str f.2.2.2.2.1,.val .str f.2.2.2.2.2.1,.val .str f.2.2.2.2.2.2.1,.val .str f.2.2.2.2.2.2.2.1,.own 2,.own 6]),.box 3 (.val qk J),.tre 63 qi qa f.2.2.2.2.2.2.2.2.1,.dead,.box 4 (.val qv (g.1.1,g.1.2.1,q.1.1,q.1.2.1,())),.row 69 qv ([(g.1.1,g.1.2.1,q.1.1,q.1.2.1,())]:List qy),.row 69 qv (f.2.2.2.2.2.2.2.2.2.1++([(g.1.1,g.1.2.1,q.1.1,q.1.2.1,())]:List qy))]] [[(0,.ptr 0 [])],[(0,.ptr 0 [])],[(40,.ptr 0 [])],[(41,.ptr 0 [])],[(42,.ptr 0 [.fld 9 9])],[(6,.ptr 4 [])],[(44,.val qv (g.1.1,g.1.2.1,q.1.1,q.1.2.1,()))],[(43,.own 3),(45,.own 5)],[(39,.ptr 0 [])],[(47,.ptr 0 [])],[(46,.own 6),(48,.ptr 0 [.fld 9 9])]] xAa rfl rfl ?_ ?_
       ·simp only[go_sem];exact zaM
       show At _ _ [] [.box 10 (.agg [.val qg f.1,.val qg f.2.1,.val qg f.2.2.1,.val qg f.2.2.2.1,.val .str f.2.2.2.2.1,.val .str f.2.2.2.2.2.1,.val .str f.2.2.2.2.2.2.1,.val .str f.2.2.2.2.2.2.2.1,.own 2,.own 6]),.box 3 (.val qk J),.tre 63 qi qa f.2.2.2.2.2.2.2.2.1,.dead,.box 4 (.val qv (g.1.1,g.1.2.1,q.1.1,q.1.2.1,())),.row 69 qv ([(g.1.1,g.1.2.1,q.1.1,q.1.2.1,())]:List qy),.row 69 qv (f.2.2.2.2.2.2.2.2.2.1++([(g.1.1,g.1.2.1,q.1.1,q.1.2.1,())]:List qy))];(first|replace h:=oV h hq|replace h:=oV (Θ:=(· = r)) h hq);refine aF4 hV (yaA ?_);obtain rfl:=aO h;refine iG (gK [0,1,2,6] rfl rfl (yaB ?_));exact zaa
      ·(try dsimp only at h);exact zaA
     ·(try dsimp only at h);exact zaA
    ·(try dsimp only at h);exact zaA
   ·(try dsimp only at h);exact zaA
  ·(try dsimp only at h);exact zaA
 ·refine dU h (fun hc h=>?_) fun hc h=>?_
  ·refine aB h fun e hv h=>?_;rcases e with r_39|p_40
   ·(try dsimp only at h);exact zaL
   ·(try dsimp only at h);exact zaA
  ·refine cH h (fun hc h=>?_) fun hc h=>?_
   ·refine aB h fun e hv h=>?_;rcases e with L|p_46
    ·(try dsimp only at h);simp only[hv,go_sem];(repeat (refine⟨zAB,?_⟩));obtain⟨q0,h,hq⟩:=h;obtain⟨e,he1,h⟩:=bind_some h;rcases e with z|N
     ·(try dsimp only at h);obtain⟨g0,h⟩:=bG h;refine uM hF (eX (l:=[(57,⟨mI F,[1],(L.2,.inl z)⟩)]) (.cons (tQ F) xN (.nil))) [] [1] [6,7,8,9,12] [[0],[0],[64],[65],[66],[1],[68],[69],[70],[67,71],[63],[73],[72,74]] [(0,0),(0,1),(0,2),(0,3),(0,4),(1,0),(1,1),(1,2),(1,3),(1,4),(2,0),(2,1),(2,2),(2,3),(2,4),(3,0),(3,1),(3,2),(3,3),(3,4),(4,0),(4,1),(4,2),(4,3),(5,0),(6,0),(7,1),(8,2),(9,3),(10,4),(10,5),(11,4),(12,4)] [.ptr 0 [],.ptr 0 [],.ptr 0 [],.ptr 0 [.fld 8 8],.own 2,.ptr 1 [],.val .str z.1,.agg [.val .str z.1,.nilS,.nilS,.nilS,.nilS],.own 4,.own 5,.ptr 0 [],.ptr 0 [.fld 8 8],.junk] [[.box 10 (.agg [.val qg f.1,.val qg f.2.1,.val qg f.2.2.1,.val qg f.2.2.2.1,.val .str f.2.2.2.2.1,.val .str f.2.2.2.2.2.1,.val .str f.2.2.2.2.2.2.1,.val .str f.2.2.2.2.2.2.2.1,.own 2,.own 3]),.box 3 (.val qk L.2),.tre 63 qi qa f.2.2.2.2.2.2.2.2.1,.row 69 qv f.2.2.2.2.2.2.2.2.2.1],[.box 10 (.agg [.val qg f.1,.val qg f.2.1,.val qg f.2.2.1,.val qg f.2.2.2.1,.val .str f.2.2.2.2.1,.val .str f.2.2.2.2.2.1,.val .str f.2.2.2.2.2.2.1,.val .str f.2.2.2.2.2.2.2.1,.own 2,.own 3]),.box 3 (.val qk z.2),.tre 63 qi qa f.2.2.2.2.2.2.2.2.1,.row 69 qv f.2.2.2.2.2.2.2.2.2.1],[.box 10 (.agg [.val qg f.1,.val qg f.2.1,.val qg f.2.2.1,.val qg f.2.2.2.1,.val .str f.2.2.2.2.1,.val .str f.2.2.2.2.2.1,.val .str f.2.2.2.2.2.2.1,.val .str f.2.2.2.2.2.2.2.1,.own 2,.own 3]),.box 3 (.val qk z.2),.tre 63 qi qa f.2.2.2.2.2.2.2.2.1,.row 69 qv f.2.2.2.2.2.2.2.2.2.1],[.box 10 (.agg [.val qg f.1,.val qg f.2.1,.val qg f.2.2.1,.val qg f.2.2.2.1,.val .str f.2.2.2.2.1,.val .str f.2.2.2.2.2.1,.val .str f.2.2.2.2.2.2.1,.val .str f.2.2.2.2.2.2.2.1,.own 2,.own 3]),.box 3 (.val qk z.2),.tre 63 qi qa f.2.2.2.2.2.2.2.2.1,.row 69 qv f.2.2.2.2.2.2.2.2.2.1,.tre 63 qi qa ([(z.1,([]:List wR),([]:List we),([]:List qc),([]:List q9),())]:List qd)],[.box 10 (.agg [.val qg f.1,.val qg f.2.1,.val qg f.2.2.1,.val qg f.2.2.2.1,.val .str f.2.2.2.2.1,.val .str f.2.2.2.2.2.1,.val .str f.2.2.2.2.2.2.1,.val .str f.2.2.2.2.2.2.2.1,.own 2,.own 3]),.box 3 (.val qk z.2),.dead,.row 69 qv f.2.2.2.2.2.2.2.2.2.1,.dead,.tre 63 qi qa (f.2.2.2.2.2.2.2.2.1++([(z.1,([]:List wR),([]:List we),([]:List qc),([]:List q9),())]:List qd))],[.box 10 (.agg [.val qg f.1,.val qg f.2.1,.val qg f.2.2.1,.val qg f.2.2.2.1,.val .str f.2.2.2.2.1,.val .str f.2.2.2.2.2.1,.val .str f.2.2.2.2.2.2.1,.val .str f.2.2.2.2.2.2.2.1,.own 5,.own 3]),.box 3 (.val qk z.2),.dead,.row 69 qv f.2.2.2.2.2.2.2.2.2.1,.dead,.tre 63 qi qa (f.2.2.2.2.2.2.2.2.1++([(z.1,([]:List wR),([]:List we),([]:List qc),([]:List q9),())]:List qd))]] [[(0,.ptr 0 [])],[(0,.ptr 0 [])],[(64,.ptr 0 [])],[(65,.ptr 0 [])],[(66,.ptr 0 [.fld 8 8])],[(1,.ptr 1 [])],[(68,.ptr 1 [])],[(69,.val .str z.1)],[(70,.agg [.val .str z.1,.nilS,.nilS,.nilS,.nilS])],[(67,.own 2),(71,.own 4)],[(63,.ptr 0 [])],[(73,.ptr 0 [])],[(72,.own 5),(74,.ptr 0 [.fld 8 8])]] false xAa rfl rfl ?_ ?_
      ·simp only[go_sem];exact zaM
      intro _;show At _ _ [(1,.ptr 1 [])] [.box 10 (.agg [.val qg f.1,.val qg f.2.1,.val qg f.2.2.1,.val qg f.2.2.2.1,.val .str f.2.2.2.2.1,.val .str f.2.2.2.2.2.1,.val .str f.2.2.2.2.2.2.1,.val .str f.2.2.2.2.2.2.2.1,.own 5,.own 3]),.box 3 (.val qk z.2),.dead,.row 69 qv f.2.2.2.2.2.2.2.2.2.1,.dead,.tre 63 qi qa (f.2.2.2.2.2.2.2.2.1++([(z.1,([]:List wR),([]:List we),([]:List qc),([]:List q9),())]:List qd))];(first|replace h:=oV h hq|replace h:=oV (Θ:=(· = r)) h hq);refine aF4 hV (yaA ?_);refine aB h fun e hv h=>?_;rcases e with r_53|p_54
      ·(try dsimp only at h);simp only[hv,go_sem];obtain rfl:=aO h;refine iG (gK [0,1,5,3] rfl rfl (yaB ?_));exact zaa
      ·(try dsimp only at h);simp only[hv,go_sem];(repeat (refine⟨zAB,?_⟩));obtain rfl:=aO h;refine aL (aJ 0 rfl aH) ?_;exact zaf
     ·(try dsimp only at h);refine uM hF (eX (l:=[(57,⟨mI F,[1],(L.2,.inr N)⟩)]) (.cons (tQ F) xN (.nil))) [] [1] [6] [[0],[0],[64],[65],[66],[1],[68],[69],[70],[67,71],[63],[73],[72,74]] [(0,0),(1,0),(2,0),(3,0),(4,0),(5,0),(6,0)] [.ptr 0 [],.ptr 0 [],.ptr 0 [],.ptr 0 [.fld 8 8],.own 2,.ptr 1 [],.junk,.junk,.junk,.junk,.junk,.junk,.junk] [[.box 10 (.agg [.val qg f.1,.val qg f.2.1,.val qg f.2.2.1,.val qg f.2.2.2.1,.val .str f.2.2.2.2.1,.val .str f.2.2.2.2.2.1,.val .str f.2.2.2.2.2.2.1,.val .str f.2.2.2.2.2.2.2.1,.own 2,.own 3]),.box 3 (.val qk L.2),.tre 63 qi qa f.2.2.2.2.2.2.2.2.1,.row 69 qv f.2.2.2.2.2.2.2.2.2.1]] [[(0,.ptr 0 [])],[(0,.ptr 0 [])],[(64,.ptr 0 [])],[(65,.ptr 0 [])],[(66,.ptr 0 [.fld 8 8])],[(1,.ptr 1 [])],[(68,.ptr 1 [])],[(69,.junk)],[(70,.junk)],[(67,.own 2),(71,.junk)],[(63,.ptr 0 [])],[(73,.junk)],[(72,.junk),(74,.junk)]] true xAa rfl rfl ?_ ?_;rotate_left;exact fun h=>absurd h xAa;simp only[go_sem]
      (repeat' apply And.intro)<;>try (first|trivial|rfl|with_reducible assumption|omega|(intros; first|with_reducible assumption|omega)|(simp; done)|(simp at *; omega))
      (first|replace h:=oV h hq|replace h:=oV (Θ:=(· = r)) h hq);(try simp only[go_sem]);obtain rfl:=aO h;refine aL (aJ 0 rfl aH) ?_;refine aL (aJ 1 rfl aH) (yaA ?_);refine bS [0,1] rfl rfl (yaB ?_);refine bC rfl rfl rfl rfl
    ·(try dsimp only at h);simp only[hv,go_sem];(repeat (refine⟨zAB,?_⟩));obtain rfl:=aO h;refine aL (aJ 0 rfl aH) ?_;exact zaf
   ·refine dU h (fun hc h=>?_) fun hc h=>?_
    ·refine aD h fun go h=>?_;refine bGB 2 ((f.2.2.2.2.2.2.2.2.1.length:Int)-(1:Int)).toNat rfl go rfl (yaA ?_);obtain⟨q0,h,hq⟩:=h;obtain⟨g0,h⟩:=bG h;(try simp only[I64,I32] at g0);obtain⟨g1,h⟩:=bG h;obtain⟨e,he2,h⟩:=bind_some h;rcases e with I|O
     ·(try dsimp only at h);refine cP hF (eX (l:=[(58,⟨aD3 F,[2,1,4,5,6,7],(f.2.2.2.2.2.2.2.2.1,((f.2.2.2.2.2.2.2.2.1.length:Int)-(1:Int)).toNat,((f.2.2.2.2.2.2.2.2.1.getD ((f.2.2.2.2.2.2.2.2.1.length:Int)-(1:Int)).toNat ([],[],[],[],[],())).1,(f.2.2.2.2.2.2.2.2.1.getD ((f.2.2.2.2.2.2.2.2.1.length:Int)-(1:Int)).toNat ([],[],[],[],[],())).2.1,(f.2.2.2.2.2.2.2.2.1.getD ((f.2.2.2.2.2.2.2.2.1.length:Int)-(1:Int)).toNat ([],[],[],[],[],())).2.2.1,(f.2.2.2.2.2.2.2.2.1.getD ((f.2.2.2.2.2.2.2.2.1.length:Int)-(1:Int)).toNat ([],[],[],[],[],())).2.2.2.1,(f.2.2.2.2.2.2.2.2.1.getD ((f.2.2.2.2.2.2.2.2.1.length:Int)-(1:Int)).toNat ([],[],[],[],[],())).2.2.2.2.1,()),U.2,.inl I)⟩)]) (.cons (aNt F) xN (.nil))) [] [] (yaF ?_);refine bGA 2 (I.1.1,I.1.2.1,I.1.2.2.1,I.1.2.2.2.1,I.1.2.2.2.2.1,()) [8,9,10,11] rfl (by first|rfl|(simp only[go_sem]; done)) rfl rfl (yaA ?_);(first|replace h:=oV h hq|replace h:=oV (Θ:=(· = r)) h hq);refine aF4 hV (yaA ?_);obtain rfl:=aO h;refine iG (gK [0,1,2,3] rfl rfl (yaB ?_));exact zaa
     ·(try dsimp only at h);refine cP hF (eX (l:=[(58,⟨aD3 F,[2,1,4,5,6,7],(f.2.2.2.2.2.2.2.2.1,((f.2.2.2.2.2.2.2.2.1.length:Int)-(1:Int)).toNat,((f.2.2.2.2.2.2.2.2.1.getD ((f.2.2.2.2.2.2.2.2.1.length:Int)-(1:Int)).toNat ([],[],[],[],[],())).1,(f.2.2.2.2.2.2.2.2.1.getD ((f.2.2.2.2.2.2.2.2.1.length:Int)-(1:Int)).toNat ([],[],[],[],[],())).2.1,(f.2.2.2.2.2.2.2.2.1.getD ((f.2.2.2.2.2.2.2.2.1.length:Int)-(1:Int)).toNat ([],[],[],[],[],())).2.2.1,(f.2.2.2.2.2.2.2.2.1.getD ((f.2.2.2.2.2.2.2.2.1.length:Int)-(1:Int)).toNat ([],[],[],[],[],())).2.2.2.1,(f.2.2.2.2.2.2.2.2.1.getD ((f.2.2.2.2.2.2.2.2.1.length:Int)-(1:Int)).toNat ([],[],[],[],[],())).2.2.2.2.1,()),U.2,.inr O)⟩)]) (.cons (aNt F) xN (.nil))) [] [] (yaF ?_);(first|replace h:=oV h hq|replace h:=oV (Θ:=(· = r)) h hq);(try simp only[go_sem]);obtain rfl:=aO h;refine aL (aJ 0 rfl aH) ?_;exact zaf
    ·refine aB h fun e hv h=>?_;rcases e with r_57|p_58
     ·(try dsimp only at h);exact zaL
     ·(try dsimp only at h);exact zaA
def pG(F:Md)(g:qf)(f:wj):Option wj :=
 if ¬((f.length:Int)=(g.2.2.2.2.2.2.2.2.2.1.length:Int)) then some g.2.2.2.2.2.2.2.2.2.1 else some f
def fV(F:Md)(q:qf)(z:Int)(I:Int)(f:Int)(g:wj):Option ((Int×wj)⊕wj) :=
 if f<(q.2.2.2.2.2.2.2.2.2.1.length:Int) then ck (0≤f∧f<(q.2.2.2.2.2.2.2.2.2.1.length:Int)) (if (¬((q.2.2.2.2.2.2.2.2.2.1.getD (f.toNat) ([],[],[],[],())).1=(q.2.2.2.2.2.2.2.2.1.getD (z.toNat) ([],[],[],[],[],())).1))∨(¬((q.2.2.2.2.2.2.2.2.2.1.getD (f.toNat) ([],[],[],[],())).2.1=((q.2.2.2.2.2.2.2.2.1.getD (z.toNat) ([],[],[],[],[],())).2.2.2.1.getD (I.toNat) ([]:List Nat)))) then ck (I64 (f+(1:Int))) (some (.inl ((f+(1:Int)),g))) else ck (((g.length)+(1:Nat))*97≤140737488355328) (ck (I64 (f+(1:Int))) (some (.inl ((f+(1:Int)),(g++([(q.2.2.2.2.2.2.2.2.2.1.getD (f.toNat) ([],[],[],[],()))]:List qy))))))) else some (.inr g)
def fW(F:Md)(z:qf)(g:Int)(f:Int)(q:wj):Option ((Int×wj)⊕wj) :=
 if f<(((z.2.2.2.2.2.2.2.2.1.getD (g.toNat) ([],[],[],[],[],())).2.2.2.1.length:Nat):Int) then ck (0≤f∧f<(((z.2.2.2.2.2.2.2.2.1.getD (g.toNat) ([],[],[],[],[],())).2.2.2.1.length:Nat):Int)) ((dK F (fun d:Int×wj=>fV F z g f d.1 d.2) ((0:Int),q)).bind (fun e=>ck (I64 (f+(1:Int))) (some (.inl ((f+(1:Int)),e))))) else some (.inr q)
def fX(F:Md)(q:qf)(f:Int)(g:wj):Option ((Int×wj)⊕wj) :=
 if f<(q.2.2.2.2.2.2.2.2.1.length:Int) then ck (0≤f∧f<(q.2.2.2.2.2.2.2.2.1.length:Int)) ((dK F (fun d:Int×wj=>fW F q f d.1 d.2) ((0:Int),g)).bind (fun e=>ck (I64 (f+(1:Int))) (some (.inl ((f+(1:Int)),e))))) else some (.inr g)
def eG(F:Md)(f:qf):Option wj :=
 (dK F (fun d:Int×wj=>fX F f d.1 d.2) ((0:Int),([]:List qy))).bind (fun e=>pG F f e)
def aID:PlR:=⟨[(0,.B [1]),(1,.A [1,3]),(2,.A [1,3,11,12,13]),(3,.A [1,3,11,12,13,14]),(4,.B [1,3,5,11,12,13]),(5,.A [1,3,5,11,12,13,18,19,20]),(6,.A [1,3,5,11,12,13,18,19,20,21]),(7,.A [1,3,5,7,11,12,13,18,19,20]),(8,.A [1,3,5,7,11,12,13,18,19,20,25,26,27]),(9,.A [1,3,5,7,11,12,13,18,19,20,25,26,27,28]),(10,.B [1,3,5,7,9,11,12,13,18,19,20,25,26,27]),(11,.A [1,3,5,7,9,11,12,13,18,19,20,25,26,27,41]),(12,.B [1,3,5,7,11,12,13,18,19,20,25,26,27]),(13,.A [1,3,5,7,11,12,13,18,19,20,25,26,27]),(14,.A [1,3,5,11,12,13,18,19,20]),(15,.A [1,3,11,12,13]),(16,.A [1,3,54]),(17,.A [2]),(18,.A [2])],[(5,19)],[]⟩
def aKc:Ty:=.pair qe .unit
def aAK(F:Md):aF:=mSpec aKc (.one (.sl qv)) (fun x=>eG F x.1)
abbrev aTP(F:Md):List (FuncId×aF):=[]
theorem aTQ[Mx](F:Md):bF Tryz.prog GL (aTP F):=.nil
attribute [go_sem] aKc aID
theorem aRN[Mx](F:Md):FOK Tryz.prog GL 22 (aAK F):=by
 refine bP (bA (aTQ F)) mix Tryz.func22 rfl xN xAa aID (fun w0 S x Θ hw h hV=>?_);obtain⟨(g:qf),u⟩:=x;simp only[cA,go_sem];replace h:sat (eG F g) _:=h;unfold eG at h;refine dD hV (D:=wj) (fun d=>sat (pG F g d) Θ) [] (fun d=>[(1,.ptr 0 []),(3,.own 1)]) (fun d=>[.inr (.box 10 (.val qe g)),.inr (.row 69 qv d)]) ?_ ?_
 ·simp only[go_sem];refine aFZ 3 69 qv rfl (yaA ?_);refine bQ hV (D:=Int×wj) [11,12] (fun d=>[(1,.ptr 0 []),(3,.own 1),(13,.val qg d.1)]) (fun d=>[.inr (.box 10 (.val qe g)),.inr (.row 69 qv d.2)]) h rfl xAb ?_;rintro⟨f,z⟩ A3 T3 hA3 hE3 h;simp only[go_sem];replace h:sat (fX F g f z) _:=h;unfold fX at h;refine dU h (fun hc h=>?_) fun hc h=>?_
  ·refine aD h fun g0 h=>(yaC ?_);refine bQ hV (D:=Int×wj) [11,12,13,18,19] (fun d=>[(1,.ptr 0 []),(3,.own 1),(5,.ptr 2 []),(20,.val qg d.1)]) (fun d=>[.inr (.box 10 (.val qe g)),.inr (.row 69 qv d.2),.inr (.box 5 (.val qa (g.2.2.2.2.2.2.2.2.1.getD (f.toNat) ([],[],[],[],[],()))))]) h rfl xAb ?_;rintro⟨q,I⟩ A6 T6 U Z h;simp only[go_sem];replace h:sat (fW F g f q I) _:=h;unfold fW at h;refine dU h (fun hc h=>?_) fun hc h=>?_
   ·refine aD h fun g0 h=>(yaC ?_);refine bQ hV (D:=Int×wj) [7,11,12,13,18,19,20,25,26] (fun d=>[(1,.ptr 0 []),(3,.own 1),(5,.ptr 2 []),(27,.val qg d.1)]) (fun d=>[.inr (.box 10 (.val qe g)),.inr (.row 69 qv d.2),.inr (.box 5 (.val qa (g.2.2.2.2.2.2.2.2.1.getD (f.toNat) ([],[],[],[],[],()))))]) h rfl xAb ?_;rintro⟨L,J⟩ A9 T9 O Y h;simp only[go_sem];replace h:sat (fV F g f q L J) _:=h;unfold fV at h;refine dU h (fun hc h=>?_) fun hc h=>?_
    ·refine aD h fun g0 h=>(yaC ?_);refine⟨fun hc=>?_,fun hc=>?_⟩
     ·replace h:=gZ hc h;refine aK h fun g0 h=>?_;replace h:=O _ (aA h);refine gK [0,1,2] rfl rfl (yaA ?_);exact zaI
     ·replace h:=hO hc h;refine aD h fun g0 h=>(yaC ?_);refine aK h fun g0 h=>?_;replace h:=O _ (aA h);refine gK [0,4,2] rfl rfl (yaA ?_);exact zaI
    ·replace h:=yaG (Y _ (aA h));refine aK h fun g0 h=>?_;replace h:=U _ (aA h);exact zaI
   ·replace h:=yaG (Z _ (aA h));refine aK h fun g0 h=>?_;replace h:=hA3 _ (aA h);refine gK [0,1] rfl rfl (yaA ?_);exact zaI
  ·replace h:=yaG (hE3 _ (aA h));exact aT (z) h rfl xAb
 ·rintro N h;simp only[go_sem];replace h:sat (pG F g N) _:=h;unfold pG at h;refine cH h (fun hc h=>?_) fun hc h=>?_
  ·exact aG hV [.tmp 2] rfl rfl rfl (aA h) xAc
  ·exact aG hV [.tmp 2] rfl rfl rfl (aA h) xAc
attribute [go_sem] aAK
def yG:fQ where
 D:=qf×(Int×qp)×Int×Unit
 av:=fun _=>[.ptr 0 [],.ptr 1 [],.ptr 2 []]
 hp:=fun d=>[.box 10 (.val qe d.1),.box 2 (.val w8 d.2.1),.box 1 (.val qg d.2.2.1)]
 m:=3
 pre:=fun _=>True
 out:=fun d=>.ret (.tup []) [.box 10 (.val qe d.1),.box 2 (.val w8 d.2.1),.box 1 (.val qg d.2.2.1)]
def fP(x:wc):fQ where
 D:=Unit
 av:=fun _=>[.ptr 0 [],.ptr 1 [],.ptr 2 []]
 hp:=fun _=>[.box 10 .junk,.box 2 .junk,.box 1 .junk]
 m:=3
 pre:=fun _=>True
 out:=fun _=>.ret (.tup []) [.box 10 (.val qe ((0:Int),(0:Int),(0:Int),(0:Int),([]:List Nat),([]:List Nat),([]:List Nat),([]:List Nat),([]:List qd),([]:List qy),())),.box 2 (.val w8 (x).1),.box 1 (.val qg (6:Int))]
theorem aRO[Mx]:DOK Tryz.prog GL 15 none yG:=by
 refine aQP (bA aDa) Tryz.func15 rfl xN (fun _=>Nat.le_of_ble_eq_true rfl) rfl fun c w d f g hp I=>?_;have hF:vG ⟨Tryz.prog,EM [],GM yG c d,w,Tryz.f15.ntmps,[]⟩:=⟨bA aDa,mix⟩;obtain⟨d0,z,q,J⟩:=d;show xV _ _ _ [(6,.val .nili ()),(0,.ptr 0 []),(1,.ptr 1 []),(2,.ptr 2 [])] [.box 10 (.val qe d0),.box 2 (.val w8 z),.box 1 (.val qg q)] _;exact zau
theorem aAL[Mx](x:wc):DOK Tryz.prog GL 15 (some ⟨45,wg,x⟩) (fP x):=by
 refine aQP (bA aDa) Tryz.func15 rfl xN (fun _=>Nat.le_of_ble_eq_true rfl) rfl fun c w d g f hp q=>?_;have hF:vG ⟨Tryz.prog,EM [],GM (fP x) c d,w,Tryz.f15.ntmps,[]⟩:=⟨bA aDa,mix⟩;show xV _ _ _ [(6,.val (.ifc 45 wg) x),(0,.ptr 0 []),(1,.ptr 1 []),(2,.ptr 2 [])] [.box 10 .junk,.box 2 .junk,.box 1 .junk] _;simp only[go_sem];refine aN (aR hF [0,1,2,3,10] (yaA ?_));refine aP (dF rfl (fun hc=>?_) (fun hc=>absurd hc xAa));refine aGY hF [] [] [.box 10 (.val qe ((0:Int),(0:Int),(0:Int),(0:Int),([]:List Nat),([]:List Nat),([]:List Nat),([]:List Nat),([]:List qd),([]:List qy),())),.box 2 (.val w8 (x).1),.box 1 (.val qg (6:Int)),.box 2 (.val wg x)] xAa ?_ ?_
 ·simp only[go_sem];exact zaV
 refine gK [0,1,2] rfl rfl (yaB ?_);exact zaZ
def pH(F:Md)(Y:Int)(I:Int)(z:Int)(f:Int)(O:Int)(q:qc)(J:qc)(N:qc)(g:qc)(L:vg)(U:wj):Option (qf×((Int×qp)×qp)) :=
 ck ((eG F (I,z,f,O,q,J,N,g,L,U,())).isSome=true) (ck (¬(Y<(7:Int))→((lL F (I,z,f,O,q,J,N,g,L,((eG F (I,z,f,O,q,J,N,g,L,U,())).getD ([]:List qy)),())).isSome=true)) (if (Y<(7:Int))∨(¬(((lL F (I,z,f,O,q,J,N,g,L,((eG F (I,z,f,O,q,J,N,g,L,U,())).getD ([]:List qy)),())).getD false)=true)) then some (((0:Int),(0:Int),(0:Int),(0:Int),([]:List Nat),([]:List Nat),([]:List Nat),([]:List Nat),([]:List qd),([]:List qy),()),(((0:Int),(0:Int),()),()).1,(6:Int),()) else some ((I,z,f,O,q,J,N,g,L,((eG F (I,z,f,O,q,J,N,g,L,U,())).getD ([]:List qy)),()),((0:Int),(0:Int),()),(0:Int),())))
def jA(F:Md)(z:qc)(I:Int)(f:Int)(Y:Int)(Z:Int)(s_95:Int)(s_96:Int)(U:qc)(s_98:qc)(s_99:qc)(J:qc)(N:vg)(L:wj):Option ((Int×Int×Int×Int×Int×Int×qc×qc×qc×qc×vg×wj)⊕((Int×Int×Int×Int×Int×qc×qc×qc×qc×vg×wj)⊕wc)) :=
 if f<(((tN z (aQ ⟨#[10]⟩)).length:Nat):Int) then ck (0≤f∧f<(((tN z (aQ ⟨#[10]⟩)).length:Nat):Int)) (ck (aXs ((tN z (aQ ⟨#[10]⟩)).getD (f.toNat) ([]:List Nat)) (aQ ⟨#[35]⟩)) (ck (I64 (f+(1:Int))) (ck ((gD F (wS ((tN z (aQ ⟨#[10]⟩)).getD (f.toNat) ([]:List Nat)) (aQ ⟨#[35]⟩)).1 (aQ ⟨#[32]⟩)).isSome=true) ((dP F ((f+(1:Int)),(0:Int),((gD F (wS ((tN z (aQ ⟨#[10]⟩)).getD (f.toNat) ([]:List Nat)) (aQ ⟨#[35]⟩)).1 (aQ ⟨#[32]⟩)).getD ([]:List Nat)),())).bind (fun O=>if O.1=(aQ ⟨#[]⟩) then ck (I64 (f+(1:Int))) (some (.inl (I,(f+(1:Int)),Y,Z,s_95,s_96,U,s_98,s_99,J,N,L))) else if I<(7:Int) then (vC F I (Y,Z,s_95,s_96,U,s_98,s_99,J,N,L,()) O.2).bind (fun e=>match e with| .inl g=>ck (I64 (I+(1:Int))) (ck (I64 (f+(1:Int))) (some (.inl ((I+(1:Int)),(f+(1:Int)),g.1.1,g.1.2.1,g.1.2.2.1,g.1.2.2.2.1,g.1.2.2.2.2.1,g.1.2.2.2.2.2.1,g.1.2.2.2.2.2.2.1,g.1.2.2.2.2.2.2.2.1,g.1.2.2.2.2.2.2.2.2.1,g.1.2.2.2.2.2.2.2.2.2.1))))| .inr p_175=>some (.inr (.inr p_175))) else (lY F (Y,Z,s_95,s_96,U,s_98,s_99,J,N,L,()) O.2).bind (fun e=>match e with| .inl q=>ck (I64 (I+(1:Int))) (ck (I64 (f+(1:Int))) (some (.inl ((I+(1:Int)),(f+(1:Int)),q.1.1,q.1.2.1,q.1.2.2.1,q.1.2.2.2.1,q.1.2.2.2.2.1,q.1.2.2.2.2.2.1,q.1.2.2.2.2.2.2.1,q.1.2.2.2.2.2.2.2.1,q.1.2.2.2.2.2.2.2.2.1,q.1.2.2.2.2.2.2.2.2.2.1))))| .inr p_177=>some (.inr (.inr p_177)))))))) else some (.inr (.inl (I,Y,Z,s_95,s_96,U,s_98,s_99,J,N,L)))
def gV(F:Md)(f:qc):Option (qf×((Int×qp)×qp)) :=
 if (20000:Int)<(f.length:Int) then some (((0:Int),(0:Int),(0:Int),(0:Int),([]:List Nat),([]:List Nat),([]:List Nat),([]:List Nat),([]:List qd),([]:List qy),()),(((0:Int),(0:Int),()),()).1,(6:Int),()) else ck (aXs f (aQ ⟨#[10]⟩)) ((dK F (fun d:Int×Int×Int×Int×Int×Int×qc×qc×qc×qc×vg×wj=>jA F f d.1 d.2.1 d.2.2.1 d.2.2.2.1 d.2.2.2.2.1 d.2.2.2.2.2.1 d.2.2.2.2.2.2.1 d.2.2.2.2.2.2.2.1 d.2.2.2.2.2.2.2.2.1 d.2.2.2.2.2.2.2.2.2.1 d.2.2.2.2.2.2.2.2.2.2.1 d.2.2.2.2.2.2.2.2.2.2.2) ((0:Int),(0:Int),(0:Int),(0:Int),(0:Int),(0:Int),([]:List Nat),([]:List Nat),([]:List Nat),([]:List Nat),([]:List qd),([]:List qy))).bind (fun e=>match e with|(.inl e)=>pH F e.1 e.2.1 e.2.2.1 e.2.2.2.1 e.2.2.2.2.1 e.2.2.2.2.2.1 e.2.2.2.2.2.2.1 e.2.2.2.2.2.2.2.1 e.2.2.2.2.2.2.2.2.1 e.2.2.2.2.2.2.2.2.2.1 e.2.2.2.2.2.2.2.2.2.2|(.inr e)=>some (((0:Int),(0:Int),(0:Int),(0:Int),([]:List Nat),([]:List Nat),([]:List Nat),([]:List Nat),([]:List qd),([]:List qy),()),(e).1,(6:Int),())))
@[go_sem]def aD4:Ty:=.pair .str .unit
def aC4(F:Md):aF:=mSpec aD4 (.tup (.pair qe (.pair w8 qm))) (fun x=>gV F x.1)
abbrev sN(F:Md):List (FuncId×aF):=[(16,aAI),(17,qF),(18,(vB F)),(22,(aAK F)),(8,(aAD F))]
theorem aNu[Mx](F:Md):bF Tryz.prog GL (sN F):=.cons aRK xN (.cons aGl xN (.cons (aLP F) xN (.cons (aRN F) xN (.cons (aPS F) xN (.nil)))))
theorem aWc[Mx](F:Md):FOK Tryz.prog GL 7 (aC4 F):=by
 refine aI1 (bAZ (aNu F)) Tryz.func7 rfl xN xAa fun w0 S x r hw h=>?_;have hF:vG (fr Tryz.prog (EX (sN F)) S w0 Tryz.f7.ntmps):=⟨bAZ (aNu F),mix⟩;obtain⟨(text_0:qc),u⟩:=x;simp only[aD4,Ty.wf,aHo] at hw;simp only[cA,aD4];try dsimp only at h
 replace h:gV F text_0=some r:=h;unfold gV at h;refine aN (dQ hF [0,2,3,4] (yaE ?_));refine aP (aXN (aDM 3 [0,1,2] rfl rfl (Nat.zero_le _) xAa fun roots hroots=>(yaA ?_)));have hF:vG { fr Tryz.prog (EX (sN F)) S w0 Tryz.f7.ntmps with M:=⟨nothing,S,3,roots⟩,ds:=[⟨.fn (.func 15) ([0,1,2].map roots).toArray,#[]⟩] }:=⟨hF.env,mix⟩;refine aN (aN (aR hF [0,2,3,4,12] (yaE ?_)));refine aP (dF rfl (fun hc=>?_) (fun hc=>?_))
 ·try simp only[go_sem] at hc
  have h:=pI zAC h;refine cP hF (eX (l:=[]) (.nil)) [0,2,3,4] [] (yaE ?_);exact zaW
 ·try simp only[go_sem] at hc
  have h:=oF zAC h;refine eO (aP (aN (aR hF [0,2,3,4,5] (yaE ?_))));refine aP (aN (aXG (aP (aBU (D:=Int×Int×Int×Int×Int×qc×qc×qc×qc×vg×wj) (fun d=>pH F d.1 d.2.1 d.2.2.1 d.2.2.2.1 d.2.2.2.2.1 d.2.2.2.2.2.1 d.2.2.2.2.2.2.1 d.2.2.2.2.2.2.2.1 d.2.2.2.2.2.2.2.2.1 d.2.2.2.2.2.2.2.2.2.1 d.2.2.2.2.2.2.2.2.2.2=some r) [] (fun d=>[(2,.ptr 0 []),(3,.ptr 1 []),(4,.ptr 2 []),(5,.val qg d.1)]) (fun d=>[.inr (.box 10 (.agg [.val qg d.2.1,.val qg d.2.2.1,.val qg d.2.2.2.1,.val qg d.2.2.2.2.1,.val .str d.2.2.2.2.2.1,.val .str d.2.2.2.2.2.2.1,.val .str d.2.2.2.2.2.2.2.1,.val .str d.2.2.2.2.2.2.2.2.1,.own 3,.own 4])),.inr (.box 2 (.val w8 ((0:Int),(0:Int),()))),.inr (.box 1 (.val qg (0:Int))),.inr (.tre 63 qi qa d.2.2.2.2.2.2.2.2.2.1),.inr (.row 69 qv d.2.2.2.2.2.2.2.2.2.2)]) ?_ ?_))))
  ·refine aN (aR hF [2,3,4,5,16,17,18] (yaA ?_));obtain⟨g0,h⟩:=bG h;(repeat (refine⟨zAA,?_⟩));refine aP (sP (aU4 0 8 63 qi qa rfl rfl rfl (yaA ?_)));refine aU4 0 9 69 .no qv rfl rfl rfl (yaA ?_);refine aH1 (D:=Int×Int×Int×Int×Int×Int×qc×qc×qc×qc×vg×wj) [16,17] (fun d=>[(2,.ptr 0 []),(3,.ptr 1 []),(4,.ptr 2 []),(5,.val qg d.1),(18,.val qg d.2.1)]) (fun d=>[.inr (.box 10 (.agg [.val qg d.2.2.1,.val qg d.2.2.2.1,.val qg d.2.2.2.2.1,.val qg d.2.2.2.2.2.1,.val .str d.2.2.2.2.2.2.1,.val .str d.2.2.2.2.2.2.2.1,.val .str d.2.2.2.2.2.2.2.2.1,.val .str d.2.2.2.2.2.2.2.2.2.1,.own 3,.own 4])),.inr (.box 2 (.val w8 ((0:Int),(0:Int),()))),.inr (.box 1 (.val qg (0:Int))),.inr (.tre 63 qi qa d.2.2.2.2.2.2.2.2.2.2.1),.inr (.row 69 qv d.2.2.2.2.2.2.2.2.2.2.2)]) h ?_ ?_ ?_
   ·first|rfl|(simp only[go_sem]; done)
   ·exact zAI
   rintro⟨O,q,s_93,s_94,Y,s_96,s_97,U,Z,I,z,J⟩ s6 h L;simp only[go_sem];(try dsimp only at h);unfold jA at h;refine aN (aR hF [2,3,4,5,16,17,18,19] (yaE ?_));refine aP (aN (dF rfl (fun hc=>?_) (fun hc=>?_)))
   ·(try simp only[go_sem] at hc);have h:=pI zAC h;refine eO (aP (aN (sP (aN (aR hF [2,3,4,5,6,7,16,17,18] (yaA ?_))))));obtain⟨g0,h⟩:=bG h;(repeat (refine⟨zAA,?_⟩));refine aP (aN (aR hF [2,3,4,5,6,7,16,17,18] (yaA ?_)));obtain⟨g0,h⟩:=bG h;(repeat (refine⟨zAA,?_⟩));refine aP (aN (dQ hF [2,3,4,5,8,16,17,18] (yaA ?_)));obtain⟨g0,h⟩:=bG h;(try simp only[I64,I32] at g0);(repeat (refine⟨zAA,?_⟩));obtain⟨g0,h⟩:=bG h;(repeat (refine⟨zAA,?_⟩));obtain⟨N,he1,h⟩:=bind_some h;(try dsimp only at h);refine aP (aN (aN (cP hF (eX (l:=[(19,⟨xR F,[5],(((q+(1:Int)),(0:Int),((gD F (wS ((tN text_0 (aQ ⟨#[10]⟩)).getD (q.toNat) ([]:List Nat)) (aQ ⟨#[35]⟩)).1 (aQ ⟨#[32]⟩)).getD ([]:List Nat)),()),N)⟩)]) (.cons (tP F) xN (.nil))) [2,3,4,5,8,16,17,18,37] [] (yaE ?_))));refine aP (dF rfl (fun hc=>?_) (fun hc=>?_))
    ·(try simp only[go_sem] at hc);have h:=pI zAC h;refine aFX (nJ (sE (aP (aR hF [2,3,4,5,16,17,18] (yaA ?_)))));obtain⟨g0,h⟩:=bG h;(try simp only[I64,I32] at g0);(repeat (refine⟨zAA,?_⟩));obtain rfl:=Option.some.inj h;dsimp only[aCt] at L;refine dW (gK [0,1,2,3,4] rfl rfl (yaB ?_));refine aT (O,(q+(1:Int)),s_93,s_94,Y,s_96,s_97,U,Z,I,z,J) L rfl ?_
     ·exact zAI
    ·(try simp only[go_sem] at hc);have h:=oF zAC h;refine eO (aP (aN (aN (aR hF [2,3,4,5,8,16,17,18,39] (yaE ?_)))));refine aP (dF rfl (fun hc=>?_) (fun hc=>?_))
     ·(try simp only[go_sem] at hc);have h:=pI zAC h;obtain⟨e,he2,h⟩:=bind_some h;rcases e with f|p_175
      ·(try dsimp only at h);refine cP hF (eX (l:=[(20,⟨aD2 F,[0,5,3,4],(O,(s_93,s_94,Y,s_96,s_97,U,Z,I,z,J,()),N.2,.inl f)⟩)]) (.cons (aNr F) xN (.nil))) [2,3,4,5,16,17,18] [] (yaF ?_);refine aP (aR hF [2,3,4,5,16,17,18] (yaA ?_));obtain⟨g0,h⟩:=bG h;(try simp only[I64,I32] at g0);(repeat (refine⟨zAA,?_⟩));refine sD (aP (aR hF [2,3,4,5,16,17,18] (yaA ?_)));obtain⟨g0,h⟩:=bG h;(try simp only[I64,I32] at g0);(repeat (refine⟨zAA,?_⟩));obtain rfl:=Option.some.inj h;dsimp only[aCt] at L;refine dW (gK [0,1,2,6,7] rfl rfl (yaB ?_));refine aT ((O+(1:Int)),(q+(1:Int)),f.1.1,f.1.2.1,f.1.2.2.1,f.1.2.2.2.1,f.1.2.2.2.2.1,f.1.2.2.2.2.2.1,f.1.2.2.2.2.2.2.1,f.1.2.2.2.2.2.2.2.1,f.1.2.2.2.2.2.2.2.2.1,f.1.2.2.2.2.2.2.2.2.2.1) L rfl ?_
       ·exact zAI
      ·(try dsimp only at h);refine cP hF (eX (l:=[(20,⟨aD2 F,[0,5,3,4],(O,(s_93,s_94,Y,s_96,s_97,U,Z,I,z,J,()),N.2,.inr p_175)⟩)]) (.cons (aNr F) xN (.nil))) [2,3,4,5,16,17,18] [] (yaF ?_);obtain rfl:=Option.some.inj h;dsimp only[aCt] at L;have h:=yaG (L);obtain rfl:=Option.some.inj h;refine jM (aDw (jM (jM (aDw (jM (aMp (aL (aJ 0 rfl aH) ?_)))))));refine aL (aJ 1 rfl aH) ?_;refine aL (aJ 2 rfl aH) (yaA ?_);refine aFi (fn:=Tryz.f7) (k:=3) (l2:=[0,1,2]) hF rfl rfl xAa rfl (xA xN) ⟨fP (p_175),[0,1,2],()⟩ (aAL (p_175)) rfl [.cell 2 27,.cell 3 29,.cell 4 3] rfl ?_ ?_
       ·(simp only[fP,go_sem])<;>first|decide|trivial
       ·(simp only[fP,aS,nD,go_sem])<;>first|decide|trivial|rfl|(simp; done)
     ·(try simp only[go_sem] at hc);have h:=oF zAC h;obtain⟨e,he3,h⟩:=bind_some h;rcases e with g|p_177
      ·(try dsimp only at h);refine cP hF (eX (l:=[(21,⟨aBA F,[0,5,3,4],((s_93,s_94,Y,s_96,s_97,U,Z,I,z,J,()),N.2,.inl g)⟩)]) (.cons (aKb F) xN (.nil))) [2,3,4,5,16,17,18] [] (yaF ?_);refine aP (aR hF [2,3,4,5,16,17,18] (yaA ?_));obtain⟨g0,h⟩:=bG h;(try simp only[I64,I32] at g0);(repeat (refine⟨zAA,?_⟩));refine sD (aP (aR hF [2,3,4,5,16,17,18] (yaA ?_)));obtain⟨g0,h⟩:=bG h;(try simp only[I64,I32] at g0);(repeat (refine⟨zAA,?_⟩));obtain rfl:=Option.some.inj h;dsimp only[aCt] at L;refine dW (gK [0,1,2,6,7] rfl rfl (yaB ?_));refine aT ((O+(1:Int)),(q+(1:Int)),g.1.1,g.1.2.1,g.1.2.2.1,g.1.2.2.2.1,g.1.2.2.2.2.1,g.1.2.2.2.2.2.1,g.1.2.2.2.2.2.2.1,g.1.2.2.2.2.2.2.2.1,g.1.2.2.2.2.2.2.2.2.1,g.1.2.2.2.2.2.2.2.2.2.1) L rfl ?_
       ·exact zAI
      ·(try dsimp only at h);refine cP hF (eX (l:=[(21,⟨aBA F,[0,5,3,4],((s_93,s_94,Y,s_96,s_97,U,Z,I,z,J,()),N.2,.inr p_177)⟩)]) (.cons (aKb F) xN (.nil))) [2,3,4,5,16,17,18] [] (yaF ?_);obtain rfl:=Option.some.inj h;dsimp only[aCt] at L;have h:=yaG (L);obtain rfl:=Option.some.inj h;refine jM (aDw (jM (jM (aDw (jM (aMp (aL (aJ 0 rfl aH) ?_)))))));refine aL (aJ 1 rfl aH) ?_;refine aL (aJ 2 rfl aH) (yaA ?_);refine aFi (fn:=Tryz.f7) (k:=3) (l2:=[0,1,2]) hF rfl rfl xAa rfl (xA xN) ⟨fP (p_177),[0,1,2],()⟩ (aAL (p_177)) rfl [.cell 2 27,.cell 3 29,.cell 4 3] rfl ?_ ?_
       ·(simp only[fP,go_sem])<;>first|decide|trivial
       ·(simp only[fP,aS,nD,go_sem])<;>first|decide|trivial|rfl|(simp; done)
   ·(try simp only[go_sem] at hc);have h:=oF zAC h;obtain rfl:=Option.some.inj h;dsimp only[aCt] at L;have h:=yaG (L);refine aFX (nJ (nJ (sE (dW (aT (O,s_93,s_94,Y,s_96,s_97,U,Z,I,z,J) h rfl ?_)))))
    ·exact zAI
  ·rintro⟨k_66,s_67,s_68,s_69,s_70,s_71,s_72,s_73,s_74,x_75,x_76⟩ h;(try dsimp only at h);simp only[go_sem];unfold pH at h;refine aN (dQ hF [2,3,4,5] (yaA ?_));obtain⟨g0,h⟩:=bG h;(repeat (refine⟨zAA,?_⟩));refine aP (aN (aN (aR hF [2,3,4,57] (yaA ?_))));obtain⟨g0,h⟩:=bG h;(repeat (refine⟨by first|with_reducible assumption|omega|(intros; first|with_reducible assumption|omega)|(simp only[go_sem] at *; first|with_reducible assumption|omega)|(intro _; exact⟨rfl,by decide⟩)|(intro _; refine(?_:_=aI _); rfl)|(refine(?_:_=aI _); rfl)|exact⟨rfl,rfl⟩|(intro q0; (try have e0:=g0 (by first|exact q0|omega|(simpa using q0))); first|assumption|omega)|decide,?_⟩));refine aP (dF rfl (fun hc=>?_) (fun hc=>?_))
   ·(try simp only[go_sem] at hc);have h:=pI zAC h;refine cP hF (eX (l:=[]) (.nil)) [2,3,4] [] (yaE ?_);exact zaW
   ·(try simp only[go_sem] at hc);have h:=oF zAC h;refine eO (aP (aN (dQ hF [2,3,4] (yaE ?_))));refine aP (iW (aYI (bFy (bJ5 0 (t:=qe) (s_67,s_68,s_69,s_70,s_71,s_72,s_73,s_74,x_75,((eG F (s_67,s_68,s_69,s_70,s_71,s_72,s_73,s_74,x_75,x_76,())).getD ([]:List qy)),()) rfl (by first|rfl|(simp only[go_sem]; done)) aH) (yaA ?_))));obtain rfl:=Option.some.inj h;refine aT1 (fn:=Tryz.f7) (k:=3) (l2:=[0,1,2]) hF rfl rfl xAa rfl (xA xN) ⟨yG,[0,1,2],((s_67,s_68,s_69,s_70,s_71,s_72,s_73,s_74,x_75,((eG F (s_67,s_68,s_69,s_70,s_71,s_72,s_73,s_74,x_75,x_76,())).getD ([]:List qy)),()),((0:Int),(0:Int),()),(0:Int),())⟩ aRO rfl [.cell 2 27,.cell 3 29,.cell 4 3] rfl ?_ ?_
    ·(simp only[yG,go_sem])<;>first|decide|trivial
    ·(simp only[yG,aS,nD,go_sem])<;>first|decide|trivial|rfl|(simp; done)
attribute [go_sem] aC4
theorem bMf:aFA (some 1000)=some true:=by kernel_rfl
def aIE:Bool:=true
@[go_sem]def aD5:aF:=⟨aJA,.one .bool,fun _=>True,fun _=>aIE⟩
theorem aXt[Mx][Mx]:FOK Tryz.prog GL 11 aD5:=jY (aXo (some 1000)) (fun _ _ _=>bMf)
def aWd:ByteArray:=⟨⟨112::114::101::99::32::52::48::10::101::110::100::32::49::10::115::116::101::112::32::48::46::53::32::48::46::49::50::53::10::116::111::108::32::49::10::116::114::105::101::115::32::52::10::111::114::100::101::114::32::48::10::115::101::105::100::101::108::10:: []⟩⟩
@[go_sem]theorem aXu:(⟨⟨112::114::101::99::32::52::48::10::101::110::100::32::49::10::115::116::101::112::32::48::46::53::32::48::46::49::50::53::10::116::111::108::32::49::10::116::114::105::101::115::32::52::10::111::114::100::101::114::32::48::10::115::101::105::100::101::108::10:: []⟩⟩:ByteArray)=aWd:=rfl
def mX(F:Md)(q:qc):Option (Bool) :=
 (gV F q).bind (fun v_8=>if ¬(v_8.2.2.1=(0:Int)) then some aIE else (nH F v_8.1).bind (fun f=>(gV F f.1).bind (fun g=>ck (((aIE=true)∧(f.2.1=(0:Int)))→ ¬((20000:Int)<(f.1.length:Int))→(g.2.2.1=(0:Int))→((rZ F v_8.1 g.1).isSome=true)) (some ((aIE&&(decide (f.2.1=(0:Int))))&&((decide ((20000:Int)<(f.1.length:Int)))||((decide (g.2.2.1=(0:Int)))&&((rZ F v_8.1 g.1).getD false))))))))
def qG(F:Md)(lines_0:q8)(g:qc)(f:Int):Option (vm⊕(qc⊕Bool)) :=
 if f<(lines_0.length:Int) then ck (0≤f∧f<(lines_0.length:Int)) (if (80:Int)<(((lines_0.getD (f.toNat) ([]:List Nat)).length:Nat):Int) then some (.inr (.inr aIE)) else ck (0≤f∧f<(lines_0.length:Int)) (ck ((g.length)+(lines_0.getD (f.toNat) ([]:List Nat)).length≤9223372036854775807) (ck ((g++(lines_0.getD (f.toNat) ([]:List Nat))).length+(aQ ⟨#[10]⟩).length≤9223372036854775807) (ck (I64 (f+(1:Int))) (some (.inl (((g++(lines_0.getD (f.toNat) ([]:List Nat)))++(aQ ⟨#[10]⟩)),(f+(1:Int))))))))) else some (.inr (.inl g))
def vE(F:Md)(lines_0:q8):Option Bool :=
 if (40:Int)<(lines_0.length:Int) then some aIE else (dK F (fun d:qc×Int=>qG F lines_0 d.1 d.2) ((aQ aWd),(0:Int))).bind (fun e=>match e with|(.inl e)=>mX F e|(.inr e)=>some e)
def aGB:PlR:=⟨[(0,.A [0]),(1,.A [0,15]),(2,.A [2]),(3,.A [0,3]),(4,.A [0,3,4]),(5,.A [0,3,4,20]),(6,.A [0,3,4]),(7,.A [0,3,4,28]),(8,.A [2]),(9,.A [0,3,4]),(10,.B [5,7]),(11,.A [5,44]),(12,.A [2]),(13,.A [5,8,9]),(14,.B [5,8,9,10,12]),(15,.A [2])],[(7,13)],[]⟩
def zF:Ty:=.pair wo .unit
def aGC(F:Md):aF:=mSpec zF (.one .bool) (fun x=>vE F x.1)
abbrev vF(F:Md):List (FuncId×aF):=[(11,aD5),(12,(wN F)),(7,(aC4 F)),(9,(aDY F))]
theorem aQb[Mx](F:Md):bF Tryz.prog GL (vF F):=.cons aXt xN (.cons (aLM F) xN (.cons (aWc F) xN (.cons (aXf F) xN (.nil))))
attribute [go_sem] zF aGB
theorem aOq[Mx](F:Md):FOK Tryz.prog GL 5 (aGC F):=by
 refine bP (bA (aQb F)) mix Tryz.func5 rfl xN xAa aGB (fun w0 S x Θ Z h hV=>?_);obtain⟨(lines_0:q8),u⟩:=x;simp only[cA,go_sem];replace h:sat (vE F lines_0) _:=h;unfold vE at h;refine dU h (fun hc h=>?_) fun hc h=>?_
 ·exact aG hV [.tmp 2] rfl rfl rfl (aA h) xAc
 ·refine dD hV (D:=qc) (fun d=>sat (mX F d) Θ) [] (fun d=>[(3,.val .str d)]) (fun d=>[]) ?_ ?_
  ·simp only[go_sem];refine bQ hV (D:=qc×Int) [0] (fun d=>[(3,.val .str d.1),(4,.val qg d.2)]) (fun d=>[]) h rfl xAb ?_;rintro⟨q,I⟩ U T5 L z h;simp only[go_sem];replace h:sat (qG F lines_0 q I) _:=h;unfold qG at h;refine dU h (fun hc h=>?_) fun hc h=>?_
   ·refine aD h fun g0 h=>(yaD ?_);refine dU h (fun hc h=>?_) fun hc h=>?_
    ·replace h:=yaG (z _ (aA h));exact zaF
    ·refine aD h fun g0 h=>?_;refine aD h fun g1 h=>?_;refine aD h fun Y h=>(yaD ?_);refine aD h fun g0 h=>?_;(try simp only[I64,I32] at g0);(repeat (refine⟨zAB,?_⟩));replace h:=L _ (aA h);exact zaI
   ·replace h:=yaG (z _ (aA h));exact aT (q) h rfl xAb
  ·rintro J h;simp only[go_sem];replace h:sat (mX F J) _:=h;unfold mX at h;refine aB h fun v_8 hv h=>?_;(try simp only[hv,go_sem]);refine cH h (fun hc h=>?_) fun hc h=>?_
   ·exact aG hV [.tmp 2] rfl rfl rfl (aA h) xAc
   ·refine aB h fun N hv h=>?_;(try simp only[hv,go_sem]);refine aB h fun O hv h=>?_;(try simp only[hv,go_sem]);refine aD h fun g0 h=>?_;(repeat (refine⟨by first|with_reducible assumption|omega|(intros; first|with_reducible assumption|omega)|(intro _; exact⟨rfl,by decide⟩)|(intro _; refine(?_:_=aI _); rfl)|(refine(?_:_=aI _); rfl)|exact⟨rfl,rfl⟩|(intro q0 g f; (try have e0:=g0 (by first|exact q0|omega|(simpa using q0)) (by first|exact g|omega|(simpa using g)) (by first|exact f|omega|(simpa using f))); first|assumption|omega)|(rintro⟨q0,g,f⟩; (try have e0:=g0 (by first|exact q0|omega|(simpa using q0)) (by first|exact g|omega|(simpa using g)) (by first|exact f|omega|(simpa using f))); first|assumption|omega)|(rintro⟨⟨q0,g⟩,f⟩; (try have e0:=g0 (by first|exact q0|omega|(simpa using q0)) (by first|exact g|omega|(simpa using g)) (by first|exact f|omega|(simpa using f))); first|assumption|omega)|decide,?_⟩));exact aG hV [.tmp 2] rfl rfl rfl (aA h) (by (simp only[aS,go_sem])<;>first|rfl|(simp; done))
attribute [go_sem] aGC
def oB(c:Nat):Bool:=decide (48≤c∧c≤57)
def cR(s:List Nat)(i:Nat):Nat:=((s.drop i).takeWhile oB).length
theorem bLk{p:Nat→Bool}:∀(l:List Nat) (n:Nat),n≤(l.takeWhile p).length→(n<(l.takeWhile p).length↔n<l.length∧p (l.getD n 0)=true)
 | [],n,h=>by simp
 | x::r,n,h=>by
  by_cases hp:p x=true
  ·rw[List.takeWhile_cons_of_pos hp] at h ⊢;cases n with
   | zero=>simp[hp]
   | succ n =>
    have:=bLk (p:=p) r n (by simp_all);simp_all
  simp_all
theorem vU(s:List Nat)(i:Nat):cR s i≤s.length-i:=by
 have:=(List.takeWhile_prefix (p:=oB) (l:=s.drop i)).length_le;rw[List.length_drop] at this;exact this
theorem aAM(s:List Nat)(i:Nat)(hs:s.length≤9223372036854775807)(hi:i≤9223372036854775807):nN none s (i:Int)=some (cR s i:Int):=by
 have hd:=vU s i;unfold nN;refine aZ (aCu (step:=fun d:Int=>rA none (i:Int) s d) (I:=fun n=>0≤n∧n≤cR s i) (fun n=>((cR s i:Int)-n).toNat) (fun _=>(cR s i:Int)) ?_ 0 ⟨by omega,by omega⟩) rfl;rintro n ⟨z,L⟩;obtain⟨k,rfl⟩:=Int.eq_ofNat_of_zero_le z;show (∃d',rA none (i:Int) s k=_∧_)∨rA none (i:Int) s k=_;have e:((i:Int)+(k:Int)).toNat=i+k:=by omega
 have J:s.getD (i+k) 0=(s.drop i).getD k 0:=by simp_all
 have ht:=bLk (p:=oB) (s.drop i) k (by grind[cR]);have ht:k<cR s i↔i+k<s.length∧48≤s.getD (i+k) 0∧s.getD (i+k) 0≤57:=by
  rw[J];refine ht.trans ?_;rw[List.length_drop,oB,decide_eq_true_iff];omega
 unfold rA;rw[e];by_cases g:k<cR s i
 ·left
  obtain⟨N,q,f⟩:=ht.1 g;refine⟨(k:Int)+1,?_,⟨by omega,by omega⟩,by omega,rfl⟩;refine aE (by omega) (aE (fun _=>by omega) (aE (fun _=>by omega) (aE (fun _=>by omega) (aE (fun _=>by omega) ?_))));rw[if_pos ⟨⟨by omega,q⟩,f⟩];exact aE (by omega) rfl
 ·right
  refine aE (by omega) (aE (fun _=>by omega) (aE (fun _=>by omega) (aE (fun _=>by omega) (aE (fun _=>by omega) ?_))));grind
theorem bM5{a b:Nat}(f:a<256)(hb:b≤a):wQ none .u8 a b=a-b:=by
 have hm:lR .u8=256:=by rfl
 grind[bEh,aMa,Nat.add_mod_right,Nat.mod_eq_of_lt]
def uF(s:List Nat):Nat:=s.foldl (fun m c=>m*10+(c-48)) 0
theorem aYa(s:List Nat)(c:Nat):uF (s++ [c])=uF s*10+(c-48):=by simp[uF]
theorem aYb:∀(s:List Nat) (m:Nat),(∀c∈s,oB c=true)→s.foldl (fun m c=>m*10+(c-48)) m<(m+1)*10^s.length
 | [],m,_=>by simp
 | x::r,m,h=>by
  have f:=h x xAf;simp only[oB,decide_eq_true_iff] at f;have g:=aYb r (m*10+(x-48)) (fun c hc=>h c (by simp[hc]));rw[List.foldl_cons,List.length_cons,Nat.pow_succ,Nat.mul_comm (10^r.length) 10,← Nat.mul_assoc];exact Nat.lt_of_lt_of_le g (Nat.mul_le_mul_right _ (by omega))
theorem aMr{s:List Nat}(h:∀c∈s,oB c=true):uF s<10^s.length:=by
 have:=aYb s 0 h;rw[Nat.zero_add,Nat.one_mul] at this;exact this
theorem bHY{k:Nat}(h:k≤18):10^k≤1000000000000000000:=Nat.pow_le_pow_right (n:=10) xAa h
theorem aT4(s:List Nat)(hd:∀c∈s,oB c=true)(h0:0<s.length)(Y:s.length≤18):lT none s=some ((uF s:Int),(),()):=by
 have f:∀k,k<s.length→48≤s.getD k 0∧s.getD k 0≤57:=fun k z=>by
  have Z:s.getD k 0∈s:=by simp_all
  simp_all[oB,decide_eq_true_iff]
 have q:∀k,uF (s.take k)<1000000000000000000∨k>s.length:=fun k=>by
  rcases Nat.lt_or_ge s.length k with h|h
  all_goals grind[aMr,List.mem_of_mem_take,bHY,List.length_take]
 have N:mG none s s=some ((uF s:Int),(),()):=by
  unfold mG;refine aZ (aCu (step:=fun d:Int×Int=>lH none s d.1 d.2) (I:=fun d=>0≤d.2∧d.2≤s.length∧d.1=(uF (s.take d.2.toNat):Int)) (fun d=>((s.length:Int)-d.2).toNat) (fun _=>.inl (uF s:Int)) ?_ (0,0) ⟨by simp,by simp,by rfl⟩) ?_
  ·rintro⟨n,i⟩ ⟨i0,i1,J⟩;have i0:0≤i:=i0;have i1:i≤s.length:=i1;have J:n=(uF (s.take i.toNat):Int):=J;show (∃d',lH none s n i=_∧_)∨lH none s n i=_;unfold lH;by_cases hi:i<s.length
   ·left
    have z:i.toNat<s.length:=(by omega);obtain⟨c1,L⟩:=f _ z;have g:wQ none .u8 (s.getD i.toNat 0) 48=s.getD i.toNat 0-48:=bM5 (by omega) c1;have hb:uF (s.take (i.toNat+1))=uF (s.take i.toNat)*10+(s.getD i.toNat 0-48):=(by rw[take_succ z,aYa]);have O:=q (i.toNat+1);refine⟨((uF (s.take (i+1).toNat):Int),i+1),?_,⟨by omega,by omega,rfl⟩,by omega,rfl⟩;rw[if_pos hi,g,show (i+1).toNat=i.toNat+1 from by omega,hb];refine aE (by omega) ?_;rw[if_neg (by omega),J];refine aE (by omega) (aE (by omega) (aE (by omega) ?_))
    congr 3
   simp_all[if_neg,List.take_of_length_le]
  ·unfold tF;obtain⟨c1,L⟩:=f 0 h0;refine aE (by omega) ?_;grind
 have U:uI none s=some ((uF s:Int),(),()):=by
  unfold uI;obtain⟨c1,L⟩:=f 0 h0;rw[if_pos (.inr ⟨trivial,by omega,by omega⟩)];refine aE (by omega) (aE (fun _=>by omega) ?_);grind
 unfold lT;simp_all
theorem aL4(s:List Nat)(i:Nat):∀c∈(s.drop i).take (cR s i),oB c=true:=by
 intro c hc;have h:(s.drop i).take (cR s i)=(s.drop i).takeWhile oB:=by
  have:=List.prefix_iff_eq_take.1 (List.takeWhile_prefix (p:=oB) (l:=s.drop i));exact this.symm
 grind[List.all_eq_true,List.all_takeWhile]
abbrev bHZ:Type:=List Nat×Int×Bool×Unit
def litNo:bHZ:=([],0,false,())
def jV(s:List Nat)(i:Nat)(c:Nat):Prop:=i<s.length∧s.getD i 0=c
instance (s:List Nat) (i c:Nat):Decidable (jV s i c):=inferInstanceAs (Decidable (_∧_))
def aOr(s:List Nat)(i:Nat)(all:List Nat)(f:Int)(neg:Bool):bHZ :=
 if cR s i<1∨3<cR s i then litNo
 else if 100<uF ((s.drop i).take (cR s i)) then litNo
 else (all,f+(if neg then -(uF ((s.drop i).take (cR s i)):Int) else uF ((s.drop i).take (cR s i))),decide (i+cR s i=s.length),())
def bBN(s:List Nat)(i:Nat)(all:List Nat)(f:Int):bHZ :=
 if jV s i 101 then aOr s (if jV s (i+1) 45∨jV s (i+1) 43 then i+2 else i+1) all f (decide (jV s (i+1) 45))
 else (all,f,decide (i=s.length),())
def rG(s:List Nat):bHZ :=
 if 60<s.length∨cR s 0=0 then litNo
 else if jV s (cR s 0) 46 then
  if cR s (cR s 0+1)=0 then litNo
  else bBN s (cR s 0+1+cR s (cR s 0+1)) (s.take (cR s 0)++(s.drop (cR s 0+1)).take (cR s (cR s 0+1))) (-(cR s (cR s 0+1):Int))
 else bBN s (cR s 0) (s.take (cR s 0)) 0
theorem bH0(s:List Nat)(i:Nat):s.getD (i:Int).toNat 0=s.getD i 0:=by rfl
theorem bH1(s:List Nat)(k:Nat)(all:List Nat)(f x:Int)(hs:s.length≤60)(q:k≤100)(hp: -100≤f∧f≤100)(g: -100≤x∧x≤100):oX none f (k:Int) (cR s k:Int) all s x=some (all,f+x,decide (k+cR s k=s.length),()):=by
 have hd:=vU s k;unfold oX;refine aE (by omega) (aE (by omega) ?_);unfold oW;have:decide ((k:Int)+(cR s k:Int)=(s.length:Int))=decide (k+cR s k=s.length):=decide_eq_decide.2 (by omega);rw[this]
theorem bH2(s:List Nat)(i k:Nat)(all:List Nat)(f:Int)(hs:s.length≤60)(hi:i≤60)(N:k≤100)(hp: -100≤f∧f≤100):oY none s (i:Int) f all (k:Int)=some (aOr s k all f (decide (jV s (i+1) 45))):=by
 have hd:=vU s k;unfold oY aOr;refine aZ (aAM s k (by omega) (by omega)) ?_;by_cases I:cR s k<1∨3<cR s k
 ·rw[if_pos (by omega),if_pos I]; rfl
 ·rw[if_neg (by omega),if_neg I];have ht:List.drop (k:Int).toNat (List.take ((k:Int)+(cR s k:Int)).toNat s)=(s.drop k).take (cR s k):=by
   grind[List.drop_take,Int.toNat_natCast]
  have L:((s.drop k).take (cR s k)).length=cR s k:=by simp_all
  have J:=aT4 _ (aL4 s k) (by omega) (by omega);simp only[ht];refine aE (by omega) (aE (by omega) (aZ J ?_));by_cases z:100<uF ((s.drop k).take (cR s k))
  ·rw[if_pos (by omega),if_pos z]; rfl
  ·rw[if_neg (by omega),if_neg z];have e:((i:Int)+1).toNat=i+1:=(by omega);rw[e];by_cases q:jV s (i+1) 45
   ·have g:i+1<s.length∧s.getD (i+1) 0=45:=q;rw[if_pos ⟨by omega,g.2⟩,decide_eq_true q];refine aE (by omega) ?_;grind[uF,cR,bH1]
   ·have g:¬(i+1<s.length∧s.getD (i+1) 0=45):=q;rw[if_neg (fun h=>g ⟨by omega,h.2⟩),decide_eq_false q];grind[bH1]
theorem bH3(s:List Nat)(i:Nat)(all:List Nat)(f:Int)(hs:s.length≤60)(hi:i≤60)(hp: -100≤f∧f≤100):oZ none s (i:Int) all f=some (bBN s i all f):=by
 unfold oZ bBN;have e:((i:Int)+1).toNat=i+1:=by omega
 rw[bH0,e];refine aE (fun _=>by omega) ?_;by_cases h:jV s i 101
 ·have h':i<s.length∧s.getD i 0=101:=h;rw[if_pos ⟨by omega,h'.2⟩,if_pos h];refine aE (by omega) (aE (fun _=>by omega) (aE (fun _ _=>by omega) ?_));by_cases q:jV s (i+1) 45∨jV s (i+1) 43
  ·have g:(i+1<s.length∧s.getD (i+1) 0=45)∨(i+1<s.length∧s.getD (i+1) 0=43):=q;rw[if_pos (by omega),if_pos q];refine aE (by omega) ?_;have:=bH2 s i (i+2) all f hs hi (by omega) hp;grind
  ·have g:¬((i+1<s.length∧s.getD (i+1) 0=45)∨(i+1<s.length∧s.getD (i+1) 0=43)):=q;rw[if_neg (fun h=>g (by omega)),if_neg q];grind[bH2]
 ·have h':¬(i<s.length∧s.getD i 0=101):=h;rw[if_neg (fun h=>h' ⟨by omega,h.2⟩),if_neg h];unfold oW;have:decide ((i:Int)=(s.length:Int))=decide (i=s.length):=decide_eq_decide.2 (by omega);rw[this]
theorem bDg(s:List Nat)(hs:s.length≤9223372036854775807):sL none s=some (rG s):=by
 have L:=vU s 0;have N:=vU s (cR s 0+1);unfold sL rG;have e0:=aAM s 0 hs (by omega);rw[show ((0:Nat):Int)=0 from rfl] at e0;refine aZ e0 (aE (by omega) ?_);by_cases z:60<s.length∨cR s 0=0
 ·rw[if_pos (by omega),if_pos z]; rfl
 ·rw[if_neg (by omega),if_neg z];rw[bH0];refine aE (fun _=>by omega) ?_;by_cases g:jV s (cR s 0) 46
  ·have f:cR s 0<s.length∧s.getD (cR s 0) 0=46:=g;rw[if_pos ⟨by omega,f.2⟩,if_pos g];have e1:=aAM s (cR s 0+1) hs (by omega);rw[show ((cR s 0+1:Nat):Int)=(cR s 0:Int)+1 from by omega] at e1;refine aE (by omega) (aZ e1 ?_);by_cases q:cR s (cR s 0+1)=0
   ·rw[if_pos (by omega),if_pos q]; rfl
   ·rw[if_neg (by omega),if_neg q];have ht:List.drop ((cR s 0:Int)+1).toNat (List.take ((cR s 0:Int)+1+(cR s (cR s 0+1):Int)).toNat s)=(s.drop (cR s 0+1)).take (cR s (cR s 0+1)):=by
     grind[List.drop_take,cR]
    simp only[ht,Int.toNat_natCast];have I:(s.take (cR s 0)).length≤60:=(by grind);have J:((s.drop (cR s 0+1)).take (cR s (cR s 0+1))).length≤60:=(by grind);refine aE (by omega) (aE (by omega) (aE (by omega) (aE (by omega) (aE (by omega) (aE (by omega) (aE (by omega) (aE (by omega) ?_)))))));grind[bH3,cR]
  ·have f:¬(cR s 0<s.length∧s.getD (cR s 0) 0=46):=g;rw[if_neg (fun h=>f ⟨by omega,h.2⟩),if_neg g];grind[Int.toNat_natCast,bH3,cR]
def mx(l:List Nat):Nat:=l.foldr max 0
theorem bKr(l:List Nat)(b:Nat):mx (l++ [b])=max (mx l) b:=by
 induction l with
 | nil=>simp[mx]
 | cons a r f =>
  simp only[mx,List.cons_append,List.foldr_cons] at f ⊢;rw[f,Nat.max_assoc]
theorem aZQ{l:List Ex}{k:Nat}(h:k<l.length):l.take (k+1)=l.take k++ [l.getD k (Ex.mk 0 [] [])]:=by
 simp_all
theorem aQc{l:List Ex}{k:Nat}(h:k<l.length):l.getD k (Ex.mk 0 [] [])∈l:=by
 simp_all
def aC6(f:Ex→Nat)(l:List Ex):Nat:=(l.map f).sum
def mxN(f:Ex→Nat)(l:List Ex):Nat:=mx (l.map f)
theorem aRT(f:Ex→Nat){l:List Ex}{k:Nat}(h:k<l.length):aC6 f (l.take (k+1))=aC6 f (l.take k)+f (l.getD k (Ex.mk 0 [] [])):=by
 grind[aZQ,aC6]
theorem bBO(f:Ex→Nat){l:List Ex}{k:Nat}(h:k<l.length):mxN f (l.take (k+1))=max (mxN f (l.take k)) (f (l.getD k (Ex.mk 0 [] []))):=by
 rw[aZQ h,mxN,List.map_append]; exact bKr _ _
theorem bKs(f:Ex→Nat)(l:List Ex)(k:Nat):aC6 f (l.take k)≤aC6 f l:=by
 have:aC6 f l=aC6 f (l.take k++l.drop k):=by simp_all
 rw[this,aC6,aC6,List.map_append,List.sum_append];omega
theorem bBP(f:Ex→Nat){l:List Ex}{k:Nat}(h:k<l.length):aC6 f (l.take k)+f (l.getD k (Ex.mk 0 [] []))≤aC6 f l:=by
 rw[← aRT f h]; exact bKs f l _
theorem bH4(f:Ex→Nat)(l:List Ex):aC6 f (l.take 0)=0:=by rfl
theorem bLl(f:Ex→Nat)(l:List Ex):mxN f (l.take 0)=0:=by rfl
theorem aYc{l:List Ex}{k:Nat}(h:l.length≤k):l.take k=l:=List.take_of_length_le h
def fits:Nat→Ex→Prop
 | 0,_=>False
 | n+1,e=>e.text.length≤100∧e.l.length≤1000∧ ∀x∈e.l,fits n x
def nd:Nat→Ex→Nat
 | 0,_=>0
 | n+1,e=>1+aC6 (nd n) e.l
def ht:Nat→Ex→Nat
 | 0,_=>0
 | n+1,e=>1+mxN (ht n) e.l
theorem aZR{f:Ex→Nat}{b:Nat}(h:∀x,f x≤b):∀l:List Ex,mxN f l≤b
 | []=>by simp[mxN,mx]
 | x::r=>by
  have q:=h x;have g:=aZR h r;have:mxN f (x::r)=max (f x) (mxN f r):=rfl;omega
theorem bEA:∀(n:Nat) (e:Ex),ht n e≤n
 | 0,e=>Nat.le_refl 0
 | n+1,e=>by
  have:=aZR (bEA n) e.l;have h:ht (n+1) e=1+mxN (ht n) e.l:=rfl;omega
theorem bH5{n:Nat}{e:Ex}(h:fits n e):1≤ht n e:=by
 cases n with
 | zero=>exact h.elim
 | succ n=>have:ht (n+1) e=1+mxN (ht n) e.l:=rfl; omega
def prt(k:Int):Int:=if k=1∨k=2 then 0 else if 6≤k∧k≤9 then 2 else if 10≤k∧k≤13 then 1 else -1
theorem bKt(k:Int):aAB none k=some (prt k):=by
 by_cases h:1≤k∧k≤13
 ·have:k=1∨k=2∨k=3∨k=4∨k=5∨k=6∨k=7∨k=8∨k=9∨k=10∨k=11∨k=12∨k=13:=by omega
  rcases this with h|h|h|h|h|h|h|h|h|h|h|h|h<;>subst h<;>rfl
 ·unfold aAB yB rE rD prt;have e:∀j:Int,1≤j→j≤13→ ¬k=j:=fun j q g f=>h (by omega);rw[if_neg (e 1 xAa xAa),decide_eq_false (e 2 xAa xAa),if_neg xAa,if_neg (e 6 xAa xAa),if_neg (e 7 xAa xAa),if_neg (e 8 xAa xAa),
   decide_eq_false (e 9 xAa xAa),if_neg xAa,if_neg (e 10 xAa xAa),if_neg (e 11 xAa xAa),if_neg (e 12 xAa xAa),decide_eq_false (e 13 xAa xAa),if_neg xAa,
   if_neg (by omega),if_neg (by omega),if_neg (by omega)]
theorem bEB:∀(n k:Nat) (e:Ex) (a f d0:Nat),n≤k→fits n e→a+n≤1000→f+nd n e≤100000→d0≤100000 →
  ∃n' d':Nat,gO none k e (a:Int) (f:Int) (d0:Int)=some ((n':Int),(d':Int))∧f<n'∧n'≤f+nd n e∧d0≤d'∧a≤d'∧d'≤max d0 (a+ht n e-1)∧(n'≤60→d'≤30→n'=f+nd n e∧d'=max d0 (a+ht n e-1))
 | 0,k,e,a,f,d0,J,q,Z,N,hd=>q.elim
 | n+1,0,e,a,f,d0,J,q,Z,N,hd=>absurd J (by omega)
 | n+1,k+1,e,a,f,d0,J,q,Z,N,hd=>by
  obtain⟨hf1,hf2,z⟩:=q;have hnd:nd (n+1) e=1+aC6 (nd n) e.l:=rfl;have hht:ht (n+1) e=1+mxN (ht n) e.l:=rfl;show ∃n' d':Nat,mQ none (gO none k) e (a:Int) (f:Int) (d0:Int)=_∧_;unfold mQ;by_cases hc:(60:Int)<(f:Int)+1∨(30:Int)<(a:Int)
  ·refine⟨f+1,max d0 a,?_,by omega,by omega,by omega,by omega,by omega,fun _ _=>by omega⟩;refine aE (by omega) ?_;grind
  ·obtain⟨r,hr,x,y,rfl,q1,q2,q3,q4,q5⟩:=mF (step:=fun d:Int×Int×Int=>fC none (gO none k) e (a:Int) d.1 d.2.1 d.2.2)
    (I:=fun d=>∃i x y:Nat,d=((i:Int),(x:Int),(y:Int))∧i≤e.l.length∧f+1≤x∧x≤f+1+aC6 (nd n) (e.l.take i)∧max d0 a≤y∧y≤max (max d0 a) (a+mxN (ht n) (e.l.take i))∧(x≤60→y≤30→x=f+1+aC6 (nd n) (e.l.take i)∧y=max (max d0 a) (a+mxN (ht n) (e.l.take i))))
    (fun d=>((e.l.length:Int)-d.1).toNat)
    (fun r=>∃x y:Nat,r=((x:Int),(y:Int))∧f+1≤x∧x≤f+1+aC6 (nd n) e.l∧max d0 a≤y∧y≤max (max d0 a) (a+mxN (ht n) e.l)∧(x≤60→y≤30→x=f+1+aC6 (nd n) e.l∧y=max (max d0 a) (a+mxN (ht n) e.l)))
    (by
     rintro d ⟨i,x,y,rfl,h1,h2,O,h4,h5,L⟩;show (∃d',fC none (gO none k) e (a:Int) (i:Int) (x:Int) (y:Int)=_∧_)∨ ∃r,fC none (gO none k) e (a:Int) (i:Int) (x:Int) (y:Int)=_∧_;unfold fC;by_cases hi:i<e.l.length
     ·left
      have s1:=bBP (nd n) hi;have s2:=aRT (nd n) hi;have s3:=bBO (ht n) hi;have g:=z _ (aQc hi);have hm:=aZR (bEA n) (e.l.take i);have hy:y≤100000:=by omega
      ·obtain⟨U,y',Y,p2,p3,p4,p5,p6,p7⟩:=bEB n k (e.l.getD i (Ex.mk 0 [] [])) (a+1) x y (by omega) g (by omega) (by omega) hy;rw[show ((a+1:Nat):Int)=(a:Int)+1 from by omega] at Y;refine⟨(((i+1:Nat):Int),(U:Int),(y':Int)),?_,⟨i+1,U,y',rfl,by omega,by omega,by omega,by omega,by omega,fun c1 c2=>?_⟩,by omega⟩
       ·rw[if_pos (by omega),Int.toNat_natCast];refine aE (by omega) (aE (by omega) (aZ Y (aE (by omega) ?_)))
        congr 3
       omega
     ·right
      have e1:e.l.take i=e.l:=aYc (by omega);rw[e1] at O h5 L;refine⟨((x:Int),(y:Int)),?_,x,y,rfl,h2,O,h4,h5,L⟩;grind)
    ((0:Int),(f:Int)+1,max (d0:Int) (a:Int)) ⟨0,f+1,max d0 a,by grind,by omega,by omega,by omega,by omega,by omega,fun _ _=>by rw[bH4,bLl]; omega⟩
   refine⟨x,y,?_,by omega,by omega,by omega,by omega,by omega,fun c1 c2=>by omega⟩;refine aE (by omega) ?_;grind
theorem bH6{n:Nat}{e:Ex}(f:fits n e)(g:n≤64)(hd:nd n e≤1000):oJ none e=some (decide (nd n e≤60∧ht n e≤30)):=by
 obtain⟨x,y,O,N,q,L,I,z,J⟩:=bEB n 64 e 1 0 0 g f (by omega) (by omega) (by omega);grind[bH5,oJ,aAz]
theorem aT5{D E:Type}{step:D→Option (D⊕E)}{d d':D}{r:E}(h:step d=some (.inl d'))(f:aGX step d'=some r):aGX step d=some r:=by
 obtain⟨n,g⟩:=aXU.1 f;exact aDx (n:=n+1) (by grind[iter])
theorem aIF{D E:Type}{step:D→Option (D⊕E)}{d:D}{r:E}(h:step d=some (.inr r)):aGX step d=some r:=aDx (n:=1) (by rw[iter,h])
theorem ify{α:Type}{p:Prop}{i:Decidable p}{x y r:α}(hp:p)(h:x=r): @ite α p i x y=r:=(if_pos hp).trans h
theorem ifn{α:Type}{p:Prop}{i:Decidable p}{x y r:α}(hp:¬p)(h:y=r): @ite α p i x y=r:=(if_neg hp).trans h
def aZS(c:Nat):Bool:=c == 32
def aKd(c:Nat):Bool:=decide (97≤c∧c≤122)
def gW(c:Nat):Bool:=aKd c||oB c||c == 95
def run(p:Nat→Bool)(s:List Nat)(i:Nat):Nat:=((s.drop i).takeWhile p).length
theorem aWe(p:Nat→Bool)(s:List Nat)(i:Nat):run p s i≤s.length-i:=by
 have:=(List.takeWhile_prefix (p:=p) (l:=s.drop i)).length_le;rw[List.length_drop] at this;exact this
theorem aRU{p:Nat→Bool}{s:List Nat}{i:Nat}(h:i<s.length)(hp:p (s.getD i 0)=true):run p s i=run p s (i+1)+1:=by
 have e:s.getD i 0=s[i]:=by simp_all
 grind[run,List.drop_eq_getElem_cons,List.takeWhile_cons_of_pos,List.length_cons]
theorem aT6{p:Nat→Bool}{s:List Nat}{i:Nat}(h:i<s.length→p (s.getD i 0)=false):run p s i=0:=by
 unfold run;by_cases hi:i<s.length
 ·have e:s.getD i 0=s[i]:=by rw[List.getD_eq_getElem?_getD,List.getElem?_eq_getElem hi]; rfl
  have:=h hi;rw[e] at this;rw[List.drop_eq_getElem_cons hi,List.takeWhile_cons_of_neg (by rw[this]; decide)];rfl
 simp_all[List.drop_eq_nil_of_le]
def skp(s:List Nat)(i:Nat):Nat:=i+run aZS s i
theorem aEY(s:List Nat)(i:Nat)(h:i≤s.length):i≤skp s i∧skp s i≤s.length:=by
 grind[aWe,aZS,skp]
abbrev RD0:Type:=List Nat×(Int×qp)
abbrev st(s:List Nat)(p n:Nat):RD0:=(s,(p:Int),(n:Int),())
theorem aT7(s:List Nat)(hs:s.length≤1099511627776):∀(k p n:Nat),k=s.length-p→p≤s.length→jH none (st s p n)=some (st s (skp s p) n):=by
 have g:∀(k p n:Nat),k=s.length-p→p≤s.length→aGX (fun d:RD0=>eS none d) (st s p n)=some (st s (skp s p) n):=by
  intro k
  induction k with
  | zero =>
   intro p n f hp;have e:skp s p=p:=(by grind[aEY]);rw[e];refine aIF ?_;show eS none (st s p n)=_;unfold eS;refine aE (fun h=>by simp_all) ?_;grind
  | succ k q =>
   intro p n f hp;by_cases hb:aZS (s.getD p 0)=true
   ·have e:skp s p=skp s (p+1):=(by unfold skp; grind[aRU]);rw[e];refine aT5 (d':=st s (p+1) n) ?_ (q (p+1) n (by omega) (by omega));show eS none (st s p n)=_;unfold eS;have hb:s.getD p 0=32:=(by grind[aZS]);refine aE (fun _=>⟨by simp_all,by omega⟩) ?_;rw[if_pos ⟨by grind,by simp_all⟩];refine aE (by grind) rfl
   ·have e:skp s p=p:=by
     grind[skp,aT6]
    rw[e];refine aIF ?_;show eS none (st s p n)=_;unfold eS;simp_all[aE,if_neg,Int.toNat_natCast,aZS]
 intro k p n f hp;unfold jH;simp_all
theorem bH7(l:List Nat)(c:Nat):∀k,aZK l c k<0↔c∉l:=by
 induction l with
 | nil=>grind[aZK]
 | cons b r f =>
  intro k;rw[aZK];grind
theorem aMs(l:List Nat)(c:Nat):aV none l c=some (aKu l c):=rfl
theorem aT8(l:List Nat)(c:Nat):aKu l c<0↔c∉l:=bH7 l c 0
def aL5(s:List Nat)(l:List Nat)(q:Nat):Prop:=q<s.length∧s.getD q 0∈l
instance (s l:List Nat) (q:Nat):Decidable (aL5 s l q):=inferInstanceAs (Decidable (_∧_))
theorem bDh{s l:List Nat}(hs:s.length≤1099511627776){p n:Nat}(hp:p≤s.length)(h:aL5 s l (skp s p)) :
  fO none l (st s p n)=some ((s.getD (skp s p) 0,true,()),st s (skp s p+1) n):=by
 have f:=aEY s p hp;have q:=h.1;have g:¬aKu l (s.getD (skp s p) 0)<0:=fun e=>(aT8 _ _).1 e h.2;unfold fO;refine aZ (aT7 s hs _ p n rfl hp) ?_;simp only[aMs,Int.toNat_natCast,Option.isSome_some,Option.getD_some];refine aE (fun h=>⟨by omega,by omega⟩) (aE (fun _=>trivial) (ifn (by omega) ?_));refine aE (by omega) (aE (by omega) (aE (by omega) ?_));simp_all
theorem bH8{s l:List Nat}(hs:s.length≤1099511627776){p n:Nat}(hp:p≤s.length)(h:¬aL5 s l (skp s p)) :
  fO none l (st s p n)=some ((0,false,()),st s (skp s p) n):=by
 have g:=aEY s p hp;unfold fO;refine aZ (aT7 s hs _ p n rfl hp) ?_;simp only[aMs,Int.toNat_natCast,Option.isSome_some,Option.getD_some];refine aE (fun h=>⟨by omega,by omega⟩) (aE (fun _=>trivial) (ify ?_ rfl));by_cases f:skp s p<s.length
 ·exact .inr ((aT8 _ _).2 fun e=>h ⟨f,e⟩)
 omega
theorem bBQ{s l:List Nat}(hs:s.length≤1099511627776){p n:Nat}(hp:p≤s.length)(h:aL5 s l (skp s p)) :
  fE none l (st s p n)=some (.inl (st s (skp s p+1) n)):=by
 unfold fE;exact aZ (bDh hs hp h) (ifn xAf rfl)
theorem bEC{s l:List Nat}(hs:s.length≤1099511627776){p n:Nat}(hp:p≤s.length)(h:¬aL5 s l (skp s p)) :
  fE none l (st s p n)=some (.inr ((skp s p:Int),())):=by
 unfold fE;exact aZ (bH8 hs hp h) (ify xAf rfl)
theorem aL6(k:Int)(t:List Nat)(l:List Ex)(s:List Nat)(p n:Nat)(f:n≤4611686018427387904):eD none k t l (st s p n)=some (Ex.mk k t l,st s p (n+1)):=by
 unfold eD;exact aE (by grind) rfl
def aGD(s:List Nat)(i:Nat):Nat :=
 if jV s i 101 then
  let k:=if jV s (i+1) 43∨jV s (i+1) 45 then i+2 else i+1
  if 1≤cR s k∧cR s k≤3∧uF ((s.drop k).take (cR s k))≤100 then k+cR s k else i
 else i
def aCj(s:List Nat)(p:Nat):Nat :=
 if cR s p=0 then 0
 else aGD s (if jV s (p+cR s p) 46∧0<cR s (p+cR s p+1) then p+cR s p+1+cR s (p+cR s p+1) else p+cR s p)-p
theorem bED(s:List Nat)(hs:s.length≤1099511627776)(p i k:Nat)(hp:p≤i)(hi:i≤s.length)(J:k≤s.length)(z:p≤k) :
  vR none s (p:Int) (i:Int) (k:Int)=some ((if 1≤cR s k∧cR s k≤3∧uF ((s.drop k).take (cR s k))≤100 then k+cR s k else i:Nat)-(p:Int)):=by
 have hd:=vU s k;unfold vR;refine aZ (aAM s k (by omega) (by omega)) ?_;have hm:min (cR s k:Int) 4=((min (cR s k) 4:Nat):Int):=by omega
 rw[hm];have ht:List.drop (k:Int).toNat (List.take ((k:Int)+((min (cR s k) 4:Nat):Int)).toNat s)=(s.drop k).take (min (cR s k) 4):=by
  grind[List.drop_take,Int.toNat_natCast]
 have I:((s.drop k).take (min (cR s k) 4)).length=min (cR s k) 4:=by grind
 have h0:aQ ⟨#[48]⟩= [48]:=rfl;have f:∀c∈ [48]++(s.drop k).take (min (cR s k) 4),oB c=true:=by
  intro c hc;rcases List.mem_append.1 hc with hc|hc
  ·simp at hc; subst hc; decide
  ·refine aL4 s k c ?_;have:(s.drop k).take (min (cR s k) 4)=((s.drop k).take (cR s k)).take 4:=(by grind);grind
 simp only[ht,h0];refine aE (by omega) (aE (by omega) (aE (by grind) ?_));refine aZ (aT4 _ f xAf (by grind)) ?_;have q:uF ([48]++(s.drop k).take (min (cR s k) 4))=uF ((s.drop k).take (min (cR s k) 4)):=by rfl
 by_cases hc:1≤cR s k∧cR s k≤3∧uF ((s.drop k).take (cR s k))≤100
 ·have g:min (cR s k) 4=cR s k:=by omega
  rw[g] at q;rw[if_pos ⟨by omega,by grind⟩,if_pos hc];refine aE (by omega) (aE (by omega) ?_)
  congr 1
 ·rw[if_neg,if_neg hc]
  ·refine aE (by omega) rfl
  grind
theorem bKu(s:List Nat)(hs:s.length≤1099511627776)(p i:Nat)(hp:p≤i)(hi:i≤s.length):pS none s (p:Int) (i:Int)=some ((aGD s i:Int)-(p:Int)):=by
 unfold pS aGD;have e1:((i:Int)+1).toNat=i+1:=by omega
 simp only[Int.toNat_natCast,e1];refine aE (fun h=>⟨by omega,by omega⟩) ?_;by_cases q:jV s i 101
 ·have f:i<s.length∧s.getD i 0=101:=q;rw[if_pos ⟨by omega,f.2⟩,if_pos q];refine aE (by omega) (aE (fun _=>by omega) (aE (fun _ _=>by omega) ?_));by_cases g:jV s (i+1) 43∨jV s (i+1) 45
  ·have z:(i+1<s.length∧s.getD (i+1) 0=43)∨(i+1<s.length∧s.getD (i+1) 0=45):=g;rw[if_pos ⟨by omega,by omega⟩,if_pos g];refine aE (by omega) ?_;have:=bED s hs p i (i+2) hp hi (by omega) (by omega);grind
  ·have z:¬((i+1<s.length∧s.getD (i+1) 0=43)∨(i+1<s.length∧s.getD (i+1) 0=45)):=g;rw[if_neg (by omega),if_neg g];grind[bED]
 ·have f:¬(i<s.length∧s.getD i 0=101):=q;rw[if_neg (fun h=>f ⟨by omega,h.2⟩),if_neg q];exact aE (by omega) rfl
theorem bH9(s:List Nat)(i:Nat):i≤aGD s i∧(i≤s.length→aGD s i≤s.length):=by
 unfold aGD;split
 ·grind[vU]
 omega
theorem bEE(s:List Nat)(hs:s.length≤1099511627776)(p:Nat)(hp:p≤s.length):gS none s (p:Int)=some (aCj s p:Int)∧p+aCj s p≤s.length:=by
 have hd:=vU s p;have N:=vU s (p+cR s p+1);unfold aCj;have f:∀i,p≤i→i≤s.length→pS none s (p:Int) (i:Int)=some ((aGD s i-p:Nat):Int)∧p+(aGD s i-p)≤s.length:=fun i g I=>by
  grind[bH9,bKu]
 unfold gS;by_cases h0:cR s p=0
 ·rw[if_pos h0];refine⟨aZ (aAM s p (by omega) (by omega)) (aE (by omega) ?_),by omega⟩;simp_all
 ·rw[if_neg h0];have e1:((p:Int)+(cR s p:Int)).toNat=p+cR s p:=by omega
  have L:((p:Int)+(cR s p:Int))=((p+cR s p:Nat):Int):=by omega
  by_cases g:jV s (p+cR s p) 46
  ·have z:p+cR s p<s.length∧s.getD (p+cR s p) 0=46:=g;have J:=aAM s (p+cR s p+1) (by omega) (by omega);rw[show ((p+cR s p+1:Nat):Int)=(p:Int)+(cR s p:Int)+1 from by omega] at J;by_cases I:0<cR s (p+cR s p+1)
   ·have q:=f (p+cR s p+1+cR s (p+cR s p+1)) (by omega) (by omega);rw[if_pos ⟨g,I⟩];refine⟨aZ (aAM s p (by omega) (by omega)) (aE (by omega) ?_),q.2⟩;rw[if_neg (by omega)];refine aE (fun h=>by omega) ?_;rw[if_pos ⟨by omega,by grind⟩];refine aE (by omega) (aZ J ?_);rw[if_pos (by omega)];refine aE (by omega) (aE (by omega) ?_);grind
   ·have q:=f (p+cR s p) (by omega) (by omega);rw[if_neg (fun h=>I h.2)];refine⟨aZ (aAM s p (by omega) (by omega)) (aE (by omega) ?_),q.2⟩;rw[if_neg (by omega)];refine aE (fun h=>by omega) ?_;rw[if_pos ⟨by omega,by grind⟩];refine aE (by omega) (aZ J ?_);rw[if_neg (by omega),L];grind
  ·have z:¬(p+cR s p<s.length∧s.getD (p+cR s p) 0=46):=g;have q:=f (p+cR s p) (by omega) (by omega);rw[if_neg (fun h=>g h.1)];refine⟨aZ (aAM s p (by omega) (by omega)) (aE (by omega) ?_),q.2⟩;rw[if_neg (by omega)];refine aE (fun h=>by omega) ?_;rw[if_neg (fun h=>z ⟨by omega,by grind⟩),L];grind
abbrev PR:Type:=(Ex×Nat)⊕Nat
def aDq(o:Option PR)(k:Ex→Nat→Option PR):Option PR:=match o with
 | some (.inl (e,q))=>k e q
 | x=>x
def aDG(one:Nat→Option PR)(s:List Nat)(a b:Nat)(ka kb:Int):Nat→Ex→Nat→Option PR
 | 0,_,_=>none
 | f+1,e,p=>if aL5 s [a,b] (skp s p) then
   aDq (one (skp s p+1)) (fun r z=>aDG one s a b ka kb f (Ex.mk (if s.getD (skp s p) 0=a then ka else kb) [] [e,r]) z)
  else some (.inl (e,skp s p))
def aKe(one:Nat→Option PR)(s:List Nat)(p:Nat):Option PR:=aDq (one p) (aDG one s 42 47 8 9 (s.length+1))
def aZT(one:Nat→Option PR)(s:List Nat)(p:Nat):Option PR:=aDq (aKe one s p) (aDG (aKe one s) s 43 45 6 7 (s.length+1))
def pIn(one:Nat→Option PR)(s:List Nat)(p:Nat):Option PR :=
 if aL5 s [40] (skp s p) then
  aDq (aZT one s (skp s p+1)) (fun e q=>if aL5 s [41] (skp s q) then some (.inl (e,skp s q+1)) else some (.inr (skp s q)))
 else some (.inr (skp s p))
def bIa(s:List Nat)(q:Nat):Option PR :=
 if aCj s q=0∨60<aCj s q then some (.inr q) else some (.inl (Ex.mk 1 ((s.drop q).take (aCj s q)) [],q+aCj s q))
def aHR(s:List Nat)(q:Nat):List Nat:=(s.drop q).take (run gW s q)
def bDi(w:List Nat):Option Int:=if w= [115,113,114] then some 11 else if w= [115,113,114,116] then some 12 else if w= [101,120,112] then some 13 else none
def bBR(one:Nat→Option PR)(s:List Nat)(q:Nat):Option PR:=match bDi (aHR s q) with
 | some k=>aDq (pIn one s (q+run gW s q)) (fun e z=>some (.inl (Ex.mk k [] [e],z)))
 | none=>some (.inl (Ex.mk 2 (aHR s q) [],q+run gW s q))
def aWf(one:Nat→Option PR)(s:List Nat)(q:Nat):Option PR :=
 if s.length≤q then some (.inr q)
 else if s.getD q 0=40 then pIn one s q
 else if aKd (s.getD q 0)=true then bBR one s q else bIa s q
def wT(s:List Nat):Nat→Nat→Option PR
 | 0,_=>none
 | n+1,p=>if aL5 s [45] (skp s p) then aDq (wT s n (skp s p+1)) (fun e z=>some (.inl (Ex.mk 10 [] [e],z)))
  else aWf (wT s n) s (skp s p)
abbrev CR:Type:=(Ex×RD0)⊕qp
def Cor(s:List Nat)(p n:Nat)(x:Option CR):PR→Prop
 | .inl (e,q)=>p≤q∧q≤s.length∧ ∃n',n'+p≤n+q∧x=some (.inl (e,st s q n'))
 | .inr q=>q≤s.length∧x=some (.inr ((q:Int),()))
def Gd(s:List Nat)(g:RD0→Option CR)(one:Nat→Option PR):Prop :=
 ∀p n r,p≤s.length→n+s.length≤1099511627776+p→one p=some r→Cor s p n (g (st s p n)) r
theorem Cor.mv{s:List Nat}{p q n n':Nat}{x:Option CR}{r:PR}(h:p≤q)(O:n'+p≤n+q)(c:Cor s q n' x r):Cor s p n x r:=by
 cases r with
 | inl z =>
  obtain⟨L,N⟩:=z;obtain⟨b1,g,f,J,I⟩:=c;exact⟨by omega,g,f,by omega,I⟩
 | inr z=>exact c
theorem aQd{s:List Nat}{o:Option PR}{k:Ex→Nat→Option PR}{r:PR}{p0 p n:Nat}{x:Option CR}{f:CR→Option CR}(I:aDq o k=some r)
  (L:∀g,o=some g→Cor s p n x g)
  (U:∀e q n',p≤q→q≤s.length→n'+p≤n+q→k e q=some r→Cor s p0 n (f (.inl (e,st s q n'))) r)
  (O:∀z,f (.inr z)=some (.inr z)):Cor s p0 n (x.bind f) r:=by
 unfold aDq at I;cases o with
 | none=>cases I
 | some g =>
  cases g with
  | inl y =>
   obtain⟨e,q⟩:=y;obtain⟨N,J,n',Z,Y⟩:=L _ rfl;simp_all
  | inr y =>
   obtain⟨N,J⟩:=L _ rfl;obtain rfl: .inr y=r:=Option.some.inj I;rw[J];exact⟨N,O _⟩
theorem bEF{s:List Nat}(hs:s.length≤1099511627776){g:RD0→Option CR}{one:Nat→Option PR}(hg:Gd s g one){a b:Nat}{ka kb:Int}(N:a≠b):∀(f:Nat) (e:Ex) (p n:Nat) (r:PR),p≤s.length→n+s.length≤1099511627776+p →
  aDG one s a b ka kb f e p=some r→Cor s p n (aGX (fun d:RD0×Ex=>cE none g [a,b] [ka,kb] d.1 d.2) (st s p n,e)) r
 | 0,e,p,n,r,hp,hn,I=>by cases I
 | f+1,e,p,n,r,hp,hn,I=>by
  have Y:=aEY s p hp;rw[aDG] at I;by_cases h:aL5 s [a,b] (skp s p)
  ·rw[if_pos h] at I;have h1:=h.1;have hm:=h.2;have round:∀x,g (st s (skp s p+1) n)=some x→cE none g [a,b] [ka,kb] (st s p n) e =
     match x with
     | .inl r=>(eD none (if s.getD (skp s p) 0=a then ka else kb) [] [e,r.1] r.2).bind (fun r=>some (.inl (r.2,r.1)))
     | .inr z=>some (.inr (.inr z)):=fun x hx=>by
    unfold cE;refine aZ (bDh hs hp h) (ifn xAf ?_);simp only[aMs,Option.isSome_some,Option.getD_some];have hi:aKu [a,b] (s.getD (skp s p) 0)=if s.getD (skp s p) 0=a then 0 else 1:=by
     unfold aKu aZK;by_cases e1:s.getD (skp s p) 0=a
     ·omega
     ·have e2:s.getD (skp s p) 0=b:=by
       simp_all
      simp_all[if_neg,aZK,if_pos]
    refine aE trivial (aE (by omega) (aZ hx ?_));have U:([ka,kb]:List Int).getD (aKu [a,b] (s.getD (skp s p) 0)).toNat 0=if s.getD (skp s p) 0=a then ka else kb:=by grind
    cases x with
    | inl y=>simp only; rw[U]; rfl
    | inr y=>rfl
   unfold aDq at I;cases ho:one (skp s p+1) with
   | none=>simp_all
   | some r' =>
    rw[ho] at I;have hc:=hg (skp s p+1) n r' (by omega) (by omega) ho;cases r' with
    | inl y =>
     obtain⟨x,q⟩:=y;obtain⟨Z,J,O,a3,a4⟩:=hc;have I:aDG one s a b ka kb f (Ex.mk (if s.getD (skp s p) 0=a then ka else kb) [] [e,x]) q=some r:=I;have L:=bEF hs hg N f _ q (O+1) r J (by omega) I;have hstep:=round _ a4;have hstep:cE none g [a,b] [ka,kb] (st s p n) e=some (.inl (st s q (O+1),Ex.mk (if s.getD (skp s p) 0=a then ka else kb) [] [e,x])):=hstep.trans (aZ (aL6 _ _ _ s q O (by omega)) rfl);cases r with
     | inl z =>
      obtain⟨e2,q2⟩:=z;obtain⟨b1,b2,n2,b3,b4⟩:=L;exact⟨by omega,b2,n2,by omega,aT5 hstep b4⟩
     | inr z=>exact⟨L.1,aT5 hstep L.2⟩
    | inr y =>
     obtain⟨Z,J⟩:=hc;obtain rfl: .inr y=r:=Option.some.inj I;exact⟨Z,aIF (round _ J)⟩
  ·rw[if_neg h] at I;obtain rfl: .inl (e,skp s p)=r:=Option.some.inj I;refine⟨Y.1,Y.2,n,by omega,aIF ?_⟩;unfold cE;exact aZ (bH8 hs hp h) (ify xAf rfl)
theorem bIb{s:List Nat}(hs:s.length≤1099511627776){g:RD0→Option CR}{one:Nat→Option PR}(I:Gd s g one){a b:Nat}{ka kb:Int}(f:a≠b) :
  Gd s (fun o=>cM none g [a,b] [ka,kb] o) (fun p=>aDq (one p) (aDG one s a b ka kb (s.length+1))):=fun p n r hp Z O=>by
 show Cor s p n (cM none g [a,b] [ka,kb] (st s p n)) r;unfold cM;refine aQd (p:=p) O (fun r' h=>I p n r' hp Z h) (fun e q U h1 h2 J Y=>?_) (fun z=>rfl);have:=bEF hs I f _ e q U r h2 (by omega) Y;refine Cor.mv h1 J ?_;cases r with
 | inl z =>
  obtain⟨e2,q2⟩:=z;obtain⟨b1,b2,N,L,b4⟩:=this;exact⟨b1,b2,N,L,aZ b4 rfl⟩
 | inr z=>exact⟨this.1,aZ this.2 rfl⟩
theorem Gd.of{s:List Nat}{g f:RD0→Option CR}{one:Nat→Option PR}(h:Gd s g one)(e:∀o,f o=(g o).bind fun x=>some x):Gd s f one:=fun p n r hp z q=>by
 rw[e];have:=h p n r hp z q;simp_all
theorem bBS(x:Option CR):(x.bind fun e=>match e with| .inl r=>some (Sum.inl (r.1,r.2))| .inr p=>some (Sum.inr p))=x.bind fun x=>some x:=by
 grind
theorem bKv{s:List Nat}(hs:s.length≤1099511627776){g:RD0→Option CR}{one:Nat→Option PR}(f:Gd s g one):Gd s (gQ none g) (aKe one s) :=
 (bIb hs f (a:=42) (b:=47) (ka:=8) (kb:=9) xAa).of fun o=>(show gQ none g o=_ from bBS _)
theorem bDj{s:List Nat}(hs:s.length≤1099511627776){g:RD0→Option CR}{one:Nat→Option PR}(f:Gd s g one):Gd s (kP none g) (aZT one s) :=
 (bIb hs (bKv hs f) (a:=43) (b:=45) (ka:=6) (kb:=7) xAa).of fun o=>(show kP none g o=_ from bBS _)
theorem bLm{s:List Nat}(hs:s.length≤1099511627776){g:RD0→Option CR}{one:Nat→Option PR}(hg:Gd s g one):Gd s (jL none g) (pIn one s):=fun p n r hp hn I=>by
 have U:=aEY s p hp;unfold jL;unfold pIn at I;by_cases h:aL5 s [40] (skp s p)
 ·rw[if_pos h] at I;have Y:=h.1;have e:fE none (aQ ⟨#[40]⟩) (st s p n)=some (.inl (st s (skp s p+1) n)):=bBQ hs hp h;rw[e];refine aQd (p:=skp s p+1) I (fun Z h=>bDj hs hg _ n Z (by omega) (by omega) h) (fun e q O Y L h3 J=>?_) (fun z=>rfl);refine Cor.mv (q:=q) (by omega) (by omega:O+p≤n+q) ?_;have N:=aEY s q L;by_cases f:aL5 s [41] (skp s q)
  ·rw[if_pos f] at J;obtain rfl:=Option.some.inj J;have h6:=f.1;exact⟨by omega,by omega,O,by omega,aZ (bBQ hs L f) rfl⟩
  ·rw[if_neg f] at J;obtain rfl:=Option.some.inj J;exact⟨N.2,aZ (bEC hs L f) rfl⟩
 ·rw[if_neg h] at I;obtain rfl:=Option.some.inj I;exact⟨U.2,aZ (bEC hs hp h) rfl⟩
theorem bMg{s:List Nat}(hs:s.length≤1099511627776){p n:Nat}{r:PR}(hp:p≤s.length)(L:n+s.length≤1099511627776+p)(f:bIa s p=some r):Cor s p n (lQ none (st s p n)) r:=by
 obtain⟨z,q⟩:=bEE s hs p hp;unfold lQ;unfold bIa at f;simp only[z,Option.isSome_some,Option.getD_some];by_cases h:aCj s p=0∨60<aCj s p
 ·rw[if_pos h] at f;obtain rfl:=Option.some.inj f;exact⟨hp,aE trivial (ify (by omega) rfl)⟩
 ·rw[if_neg h] at f;obtain rfl:=Option.some.inj f;refine⟨by omega,q,n+1,by omega,aE trivial (ifn (by omega) ?_)⟩;refine aE (by omega) (aE (by omega) (aE (by omega) ?_));have e1:((p:Int)+(aCj s p:Int)-(aCj s p:Int)).toNat=p:=by omega
  have g:((p:Int)+(aCj s p:Int)).toNat=p+aCj s p:=by omega
  have I:(p:Int)+(aCj s p:Int)=((p+aCj s p:Nat):Int):=by omega
  have J:List.drop p (List.take (p+aCj s p) s)=(s.drop p).take (aCj s p):=by grind
  rw[e1,g,J,I];exact aZ (aL6 _ _ _ s _ n (by omega)) rfl
theorem bEG(c:Nat):aKu (aQ tE) c<0↔ ¬gW c=true:=by
 rw[aT8];have e:aQ tE=List.range' 97 26++(List.range' 48 10++ [95]):=by decide
 rw[e];simp only[List.mem_append,List.mem_range'_1,List.mem_singleton,gW,aKd,oB,Bool.or_eq_true,decide_eq_true_eq,beq_iff_eq];omega
theorem bIc(c:Nat):aKu (aQ aBJ) c<0↔ ¬aKd c=true:=by
 rw[aT8];have e:aQ aBJ=List.range' 97 26:=by decide
 rw[e];simp only[List.mem_range'_1,aKd,decide_eq_true_eq];omega
theorem bKw{s:List Nat}(hs:s.length≤1099511627776){p n:Nat}(hp:p≤s.length):oD none (st s p n)=some (aHR s p,st s (p+run gW s p) n):=by
 have I:=aWe gW s p;have f:∀(k p:Nat),k=s.length-p→p≤s.length→aGX (fun d:RD0=>fK none d) (st s p n)=some (st s (p+run gW s p) n):=by
  intro k
  induction k with
  | zero =>
   intro p q hp;have e:run gW s p=0:=(by grind[aWe,gW]);rw[e];refine aIF ?_;show fK none (st s p n)=_;unfold fK;refine aE (fun h=>by simp_all) (aE (fun _=>rfl) (ifn (fun h=>by grind) rfl))
  | succ k z =>
   intro p q hp;have g:∀x,fK none (st s p n)=x↔(if (p:Int)<(s.length:Int)∧(0:Int)≤aKu (aQ tE) (s.getD p 0) then some (.inl (st s (p+1) n)) else some (.inr (st s p n)))=x:=by
    intro x;have:fK none (st s p n)=(if (p:Int)<(s.length:Int)∧(0:Int)≤aKu (aQ tE) (s.getD p 0) then some (.inl (st s (p+1) n)) else some (.inr (st s p n))):=by
     unfold fK;simp only[aMs,Int.toNat_natCast,Option.isSome_some,Option.getD_some];refine aE (fun h=>⟨by omega,by omega⟩) (aE (fun _=>trivial) ?_);refine aH3 (fun h=>?_) (fun h=>?_)
     ·rw[if_pos h];exact aE (by omega) rfl
     simp_all
    rw[this]
   by_cases hb:gW (s.getD p 0)=true
   ·have e:p+run gW s p=(p+1)+run gW s (p+1):=(by grind[aRU]);rw[e];refine aT5 (d':=st s (p+1) n) ((g _).2 ?_) (z (p+1) (by omega) (by omega));have:¬aKu (aQ tE) (s.getD p 0)<0:=fun h=>(bEG _).1 h hb;rw[if_pos ⟨by omega,by omega⟩]
   ·have e:run gW s p=0:=aT6 (fun _=>by simp_all);simp_all[aIF,bEG,if_neg]
 unfold oD;refine aZ (f _ p rfl hp) ?_;unfold nZ;refine aE (by grind) ?_;have J:List.drop (p:Int).toNat (List.take ((p+run gW s p:Nat):Int).toNat s)=aHR s p:=by
  rw[Int.toNat_natCast,Int.toNat_natCast,List.drop_take];simp_all[aHR]
 simp_all
end
end Nu
end Go.Proofs

