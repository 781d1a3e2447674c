import Derived.Test.YtlijgfkkmamanaaGreatDoorZS4
import Derived.Test.YtlijgfkkmamanaaGreatDoorZS3
import Derived.Test.YtlijgfkkmamanaaGreatDoorZS2
set_option linter.unusedVariables false
set_option linter.unusedSimpArgs false
namespace Go.Proofs
open Go.Vc
set_option maxRecDepth 20000
namespace Nu
noncomputable section
set_option maxHeartbeats 4000000
attribute [-go_sem] Ex.kind Ex.text Ex.l
def aAM(F:Md)(z:Int)(f:qf)(g:qo):Option ((qf×qo)⊕wc) :=
 if z=(0:Int) then (eF F (aR ⟨#[112,114,101,99]⟩) g).bind (fun e=>match e with| .inl r_42=>(gM F r_42).bind (fun e=>match e with| .inl I=>(cQ F I.2).bind (fun e=>match e with| .inl r_46=>some (.inl ((I.1,f.2.1,f.2.2.1,f.2.2.2.1,f.2.2.2.2.1,f.2.2.2.2.2.1,f.2.2.2.2.2.2.1,f.2.2.2.2.2.2.2.1,f.2.2.2.2.2.2.2.2.1,f.2.2.2.2.2.2.2.2.2.1,()),r_46))| .inr p_47=>some (.inr p_47))| .inr p_45=>some (.inr p_45))| .inr p_43=>some (.inr p_43)) else if z=(1:Int) then (eF F (aR ⟨#[101,110,100]⟩) g).bind (fun e=>match e with| .inl r_52=>(fC F r_52).bind (fun e=>match e with| .inl J=>(cQ F J.2).bind (fun e=>match e with| .inl r_56=>some (.inl ((f.1,f.2.1,f.2.2.1,f.2.2.2.1,J.1,f.2.2.2.2.2.1,f.2.2.2.2.2.2.1,f.2.2.2.2.2.2.2.1,f.2.2.2.2.2.2.2.2.1,f.2.2.2.2.2.2.2.2.2.1,()),r_56))| .inr p_57=>some (.inr p_57))| .inr p_55=>some (.inr p_55))| .inr p_53=>some (.inr p_53)) else if z=(2:Int) then (eF F (aR ⟨#[115,116,101,112]⟩) g).bind (fun e=>match e with| .inl r_62=>(fC F r_62).bind (fun e=>match e with| .inl U=>(fC F U.2).bind (fun e=>match e with| .inl N=>(cQ F N.2).bind (fun e=>match e with| .inl r_68=>some (.inl ((f.1,f.2.1,f.2.2.1,f.2.2.2.1,f.2.2.2.2.1,U.1,N.1,f.2.2.2.2.2.2.2.1,f.2.2.2.2.2.2.2.2.1,f.2.2.2.2.2.2.2.2.2.1,()),r_68))| .inr p_69=>some (.inr p_69))| .inr p_66=>some (.inr p_66))| .inr p_67=>some (.inr p_67))| .inr p_63=>some (.inr p_63)) else if z=(3:Int) then (eF F (aR ⟨#[116,111,108]⟩) g).bind (fun e=>match e with| .inl r_74=>(fC F r_74).bind (fun e=>match e with| .inl L=>(cQ F L.2).bind (fun e=>match e with| .inl r_78=>some (.inl ((f.1,f.2.1,f.2.2.1,f.2.2.2.1,f.2.2.2.2.1,f.2.2.2.2.2.1,f.2.2.2.2.2.2.1,L.1,f.2.2.2.2.2.2.2.2.1,f.2.2.2.2.2.2.2.2.2.1,()),r_78))| .inr p_79=>some (.inr p_79))| .inr p_77=>some (.inr p_77))| .inr p_75=>some (.inr p_75)) else if z=(4:Int) then (eF F (aR ⟨#[116,114,105,101,115]⟩) g).bind (fun e=>match e with| .inl r_84=>(gM F r_84).bind (fun e=>match e with| .inl Y=>(cQ F Y.2).bind (fun e=>match e with| .inl r_88=>some (.inl ((f.1,Y.1,f.2.2.1,f.2.2.2.1,f.2.2.2.2.1,f.2.2.2.2.2.1,f.2.2.2.2.2.2.1,f.2.2.2.2.2.2.2.1,f.2.2.2.2.2.2.2.2.1,f.2.2.2.2.2.2.2.2.2.1,()),r_88))| .inr p_89=>some (.inr p_89))| .inr p_87=>some (.inr p_87))| .inr p_85=>some (.inr p_85)) else if z=(5:Int) then (eF F (aR ⟨#[111,114,100,101,114]⟩) g).bind (fun e=>match e with| .inl r_94=>(gM F r_94).bind (fun e=>match e with| .inl O=>(cQ F O.2).bind (fun e=>match e with| .inl r_98=>some (.inl ((f.1,f.2.1,O.1,f.2.2.2.1,f.2.2.2.2.1,f.2.2.2.2.2.1,f.2.2.2.2.2.2.1,f.2.2.2.2.2.2.2.1,f.2.2.2.2.2.2.2.2.1,f.2.2.2.2.2.2.2.2.2.1,()),r_98))| .inr p_99=>some (.inr p_99))| .inr p_97=>some (.inr p_97))| .inr p_95=>some (.inr p_95)) else (cW F g).bind (fun e=>match e with| .inl q=>(cP F (aAp .str (aCw .str (aCw .str ([]:List (qd×Int)) (aR ⟨#[106,97,99,111,98,105]⟩) (1:Int)) (aR ⟨#[115,101,105,100,101,108]⟩) (2:Int)) q.1).isSome q.2).bind (fun e=>match e with| .inl r_110=>(cQ F r_110).bind (fun e=>match e with| .inl r_112=>some (.inl ((f.1,f.2.1,f.2.2.1,((aAp .str (aCw .str (aCw .str ([]:List (qd×Int)) (aR ⟨#[106,97,99,111,98,105]⟩) (1:Int)) (aR ⟨#[115,101,105,100,101,108]⟩) (2:Int)) q.1).getD (0:Int)),f.2.2.2.2.1,f.2.2.2.2.2.1,f.2.2.2.2.2.2.1,f.2.2.2.2.2.2.2.1,f.2.2.2.2.2.2.2.2.1,f.2.2.2.2.2.2.2.2.2.1,()),r_112))| .inr p_113=>some (.inr p_113))| .inr p_111=>some (.inr p_111))| .inr Z=>some (.inr Z))
def aD8(F:Md):fH where
 D:=Int×qf×qo×((qf×qo)⊕wc)
 av:=fun d=>[.ptr 0 [],.val qg d.1,.ptr 1 []]
 hp:=fun d=>[.box 10 (.agg [.val qg d.2.1.1,.val qg d.2.1.2.1,.val qg d.2.1.2.2.1,.val qg d.2.1.2.2.2.1,.val .str d.2.1.2.2.2.2.1,.val .str d.2.1.2.2.2.2.2.1,.val .str d.2.1.2.2.2.2.2.2.1,.val .str d.2.1.2.2.2.2.2.2.2.1,.own 2,.own 3]),.box 3 (.val qk d.2.2.1),.tre 63 qi qa d.2.1.2.2.2.2.2.2.2.2.1,.row 69 qv d.2.1.2.2.2.2.2.2.2.2.2.1]
 m:=2
 pre:=fun d=>aAM F d.1 d.2.1 d.2.2.1=some d.2.2.2
 out:=fun d=>match d.2.2.2 with| .inl r=>.ret (.tup []) [.box 10 (.agg [.val qg r.1.1,.val qg r.1.2.1,.val qg r.1.2.2.1,.val qg r.1.2.2.2.1,.val .str r.1.2.2.2.2.1,.val .str r.1.2.2.2.2.2.1,.val .str r.1.2.2.2.2.2.2.1,.val .str r.1.2.2.2.2.2.2.2.1,.own 2,.own 3]),.box 3 (.val qk r.2),.tre 63 qi qa r.1.2.2.2.2.2.2.2.2.1,.row 69 qv r.1.2.2.2.2.2.2.2.2.2.1]| .inr p=>.pan ⟨45,wg,p⟩ [.box 10 (.junk),.box 3 (.junk)]
def aNB(F:Md):PlR:=⟨[(0,.A [0,2,8]),(1,.P [0,2,6,7] []),(2,.P [0,2,6] []),(3,.B [2]),(4,.A [0,2,8,24]),(5,.P [0,2] []),(6,.P [2] []),(7,.A [0,2,8,33]),(8,.P [0,2] []),(9,.P [2] []),(10,.A [0,2,8,42]),(11,.P [0,2] []),(12,.P [2] []),(13,.A [0,2,8,56]),(14,.P [0,2] []),(15,.P [2] []),(16,.A [0,2,8,65]),(17,.P [0,2] []),(18,.P [2] []),(19,.A [0,2,74]),(20,.P [0,2] []),(21,.P [2] []),(22,.P [] [])],[],[(49,aAL F),(50,aEO F),(51,aDw F),(52,gI F),(53,gH F),(54,zI F)]⟩
abbrev aZW(F:Md):List (FuncId×aF):=[]
theorem aZX[Mx](F:Md):bF Tryz.prog GL (aZW F):=.nil
attribute [go_sem] aNB aD8
theorem aNC[Mx](F:Md):GOK Tryz.prog GL 20 (aD8 F):=by
 refine jR (bA8 (aZX F)) mix Tryz.func20 rfl xP (fun _=>Nat.le_of_ble_eq_true rfl) (aNB F) (fun c0 w0 d hw hw2 h hV=>?_) (.cons (fun _ _=>(aDL F)) xP (.cons (fun _ _=>(aL6 F)) xP (.cons (fun _ _=>(aKL F)) xP (.cons (fun _ _=>(iC F)) xP (.cons (fun _ _=>(iB F)) xP (.cons (fun _ _=>(aC8 F)) xP (.nil)))))));obtain⟨(N:Int),(g:qf),(f:qo),r⟩:=d;have hF:=hV.fr;replace h:=jS (show aAM F N g f=some r from h);simp only[vH,List.map_cons,List.map_nil,go_sem];unfold aAM at h;refine cE h (fun hc h=>?_) fun hc h=>?_
 ·refine aB h fun e hv h=>?_;rcases e with r_42|Y
  ·(try dsimp only at h);simp only[hv,go_sem];refine aB h fun e hv h=>?_;rcases e with Z|p_45
   ·(try dsimp only at h);simp only[hv,go_sem];refine aB h fun e hv h=>?_;rcases e with r_46|p_47
    ·(try dsimp only at h);exact zaL
    ·(try dsimp only at h);exact zaA
   ·(try dsimp only at h);exact zaA
  ·(try dsimp only at h);exact zaA
 ·refine cE h (fun hc h=>?_) fun hc h=>?_
  ·refine aB h fun e hv h=>?_;rcases e with r_52|p_53
   ·(try dsimp only at h);simp only[hv,go_sem];refine aB h fun e hv h=>?_;rcases e with r_54|p_55
    ·(try dsimp only at h);simp only[hv,go_sem];refine aB h fun e hv h=>?_;rcases e with r_56|p_57
     ·(try dsimp only at h);exact zaL
     ·(try dsimp only at h);exact zaA
    ·(try dsimp only at h);exact zaA
   ·(try dsimp only at h);exact zaA
  ·refine cE h (fun hc h=>?_) fun hc h=>?_
   ·refine aB h fun e hv h=>?_;rcases e with r_62|p_63
    ·(try dsimp only at h);simp only[hv,go_sem];refine aB h fun e hv h=>?_;rcases e with r_64|p_67
     ·(try dsimp only at h);simp only[hv,go_sem];refine aB h fun e hv h=>?_;rcases e with r_65|p_66
      ·(try dsimp only at h);simp only[hv,go_sem];refine aB h fun e hv h=>?_;rcases e with r_68|p_69
       ·(try dsimp only at h);exact zaL
       ·(try dsimp only at h);exact zaA
      ·(try dsimp only at h);exact zaA
     ·(try dsimp only at h);exact zaA
    ·(try dsimp only at h);exact zaA
   ·refine cE h (fun hc h=>?_) fun hc h=>?_
    ·refine aB h fun e hv h=>?_;rcases e with r_74|p_75
     ·(try dsimp only at h);simp only[hv,go_sem];refine aB h fun e hv h=>?_;rcases e with r_76|p_77
      ·(try dsimp only at h);simp only[hv,go_sem];refine aB h fun e hv h=>?_;rcases e with r_78|p_79
       ·(try dsimp only at h);exact zaL
       ·(try dsimp only at h);exact zaA
      ·(try dsimp only at h);exact zaA
     ·(try dsimp only at h);exact zaA
    ·refine cE h (fun hc h=>?_) fun hc h=>?_
     ·refine aB h fun e hv h=>?_;rcases e with r_84|p_85
      ·(try dsimp only at h);simp only[hv,go_sem];refine aB h fun e hv h=>?_;rcases e with r_86|p_87
       ·(try dsimp only at h);simp only[hv,go_sem];refine aB h fun e hv h=>?_;rcases e with r_88|p_89
        ·(try dsimp only at h);exact zaL
        ·(try dsimp only at h);exact zaA
       ·(try dsimp only at h);exact zaA
      ·(try dsimp only at h);exact zaA
     ·refine cE h (fun hc h=>?_) fun hc h=>?_
      ·refine aB h fun e hv h=>?_;rcases e with r_94|U
       ·(try dsimp only at h);simp only[hv,go_sem];refine aB h fun e hv h=>?_;rcases e with r_96|p_97
        ·(try dsimp only at h);simp only[hv,go_sem];refine aB h fun e hv h=>?_;rcases e with r_98|p_99
         ·(try dsimp only at h);exact zaL
         ·(try dsimp only at h);exact zaA
        ·(try dsimp only at h);exact zaA
       ·(try dsimp only at h);exact zaA
      ·refine aB h fun e hv h=>?_;rcases e with I|q
       ·(try dsimp only at h);simp only[hv,go_sem];refine aB h fun e hv h=>?_;rcases e with J|z
        ·(try dsimp only at h);simp only[hv,go_sem];refine aB h fun e hv h=>?_;rcases e with O|L
         ·(try dsimp only at h);simp only[hv,go_sem];obtain rfl:=aP h;refine gV (fU [0,1,2,3] rfl rfl (yaB ?_));exact zaZ
         ·(try dsimp only at h);exact zaA
        ·(try dsimp only at h);exact zaA
       ·(try dsimp only at h);exact zaA
def aAN(F:Md)(ox0_2:vm)(ok0_2:Nat)(f:qc)(o1_3:qo):Option ((qc×qo)⊕wc) :=
 (cW F o1_3).bind (fun e=>match e with| .inl g=>if g.1=(aR ⟨#[115,116,97,116,101]⟩) then (gC F g.2).bind (fun e=>match e with| .inl O=>(eF F (aR ⟨#[61]⟩) O.2).bind (fun e=>match e with| .inl r_53=>(gD F r_53).bind (fun e=>match e with| .inl L=>(eF F (aR ⟨#[100,101,114]⟩) L.2).bind (fun e=>match e with| .inl r_65=>(lF F r_65).bind (fun e=>match e with| .inl I=>ck (((f.2.1.length)+(1:Nat))*145≤140737488355328) ((cQ F I.2).bind (fun e=>match e with| .inl r_73=>some (.inl ((f.1,(f.2.1++([(O.1,L.1,I.1,())]:List wV)),f.2.2.1,f.2.2.2.1,f.2.2.2.2.1,()),r_73))| .inr p_74=>some (.inr p_74)))| .inr p_72=>some (.inr p_72))| .inr p_66=>some (.inr p_66))| .inr p_60=>some (.inr p_60))| .inr p_54=>some (.inr p_54))| .inr p_48=>some (.inr p_48)) else if g.1=(aR ⟨#[112,97,114]⟩) then (gC F g.2).bind (fun e=>match e with| .inl N=>(eF F (aR ⟨#[61]⟩) N.2).bind (fun e=>match e with| .inl r_85=>(gD F r_85).bind (fun e=>match e with| .inl U=>ck (((f.2.2.1.length)+(1:Nat))*73≤140737488355328) ((cQ F U.2).bind (fun e=>match e with| .inl r_93=>some (.inl ((f.1,f.2.1,(f.2.2.1++([(N.1,U.1,())]:List we)),f.2.2.2.1,f.2.2.2.2.1,()),r_93))| .inr p_94=>some (.inr p_94)))| .inr p_92=>some (.inr p_92))| .inr p_86=>some (.inr p_86))| .inr p_80=>some (.inr p_80)) else if g.1=(aR ⟨#[105,110]⟩) then (gC F g.2).bind (fun e=>match e with| .inl J=>ck (((f.2.2.2.1.length)+(1:Nat))*16≤140737488355328) ((cQ F J.2).bind (fun e=>match e with| .inl r_97=>some (.inl ((f.1,f.2.1,f.2.2.1,(f.2.2.2.1++([J.1]:List qd)),f.2.2.2.2.1,()),r_97))| .inr p_98=>some (.inr p_98)))| .inr p_96=>some (.inr p_96)) else if g.1=(aR ⟨#[111,117,116]⟩) then (gC F g.2).bind (fun e=>match e with| .inl q=>(eF F (aR ⟨#[61]⟩) q.2).bind (fun e=>match e with| .inl r_109=>(lF F r_109).bind (fun e=>match e with| .inl z=>ck (((f.2.2.2.2.1.length)+(1:Nat))*97≤140737488355328) ((cQ F z.2).bind (fun e=>match e with| .inl r_117=>some (.inl ((f.1,f.2.1,f.2.2.1,f.2.2.2.1,(f.2.2.2.2.1++([(q.1,z.1,())]:List q9)),()),r_117))| .inr p_118=>some (.inr p_118)))| .inr p_116=>some (.inr p_116))| .inr Z=>some (.inr Z))| .inr Y=>some (.inr Y)) else (lE F g.2).bind (fun e=>match e with| .inl r_119=>(cQ F r_119).bind (fun e=>match e with| .inl r_121=>some (.inl ((f.1,f.2.1,f.2.2.1,f.2.2.2.1,f.2.2.2.2.1,()),r_121))| .inr p_122=>some (.inr p_122))| .inr p_120=>some (.inr p_120))| .inr p_42=>some (.inr p_42))
def aD9(F:Md):fH where
 D:=vm×Nat×qc×qo×((qc×qo)⊕wc)
 av:=fun d=>[.ptr 0 [.idx 5 d.2.1],.ptr 1 []]
 hp:=fun d=>[.trh 63 qi qa d.1 d.2.1 (.agg [.val .str d.2.2.1.1,.own 2,.own 3,.own 4,.own 5]),.box 3 (.val qk d.2.2.2.1),.row 74 qr d.2.2.1.2.1,.row 91 qz d.2.2.1.2.2.1,.row 9 .str d.2.2.1.2.2.2.1,.row 76 qu d.2.2.1.2.2.2.2.1]
 m:=2
 pre:=fun d=>aAN F d.1 d.2.1 d.2.2.1 d.2.2.2.1=some d.2.2.2.2
 out:=fun d=>match d.2.2.2.2 with| .inl r=>.ret (.tup []) [.trh 63 qi qa d.1 d.2.1 (.agg [.val .str r.1.1,.own 2,.own 3,.own 4,.own 5]),.box 3 (.val qk r.2),.row 74 qr r.1.2.1,.row 91 qz r.1.2.2.1,.row 9 .str r.1.2.2.2.1,.row 76 qu r.1.2.2.2.2.1]| .inr p=>.pan ⟨45,wg,p⟩ [.dead,.box 3 (.junk)]
def aND(F:Md):PlR:=⟨[(0,.P [0,1,8] []),(1,.P [1] []),(2,.A [0,1,8,11]),(3,.P [0,1,4] []),(4,.P [0,1,4] []),(5,.P [0,1,4] []),(6,.P [0,1,4] []),(7,.P [0,1,4] []),(8,.stop),(9,.A [0,1,8,36]),(10,.P [0,1,5] []),(11,.P [0,1,5] []),(12,.P [0,1,5] []),(13,.stop),(14,.A [0,1,8,56]),(15,.stop),(16,.A [0,1,69]),(17,.P [0,1,6] []),(18,.P [0,1,6] []),(19,.P [0,1,6] []),(20,.stop),(21,.P [] [])],[],[(49,aAL F),(52,gI F),(54,zI F),(56,xS F),(57,aGD F),(101,aGF F),(102,aGH F)]⟩
abbrev aZY(F:Md):List (FuncId×aF):=[]
theorem aZZ[Mx](F:Md):bF Tryz.prog GL (aZY F):=.nil
attribute [go_sem] aND aD9
theorem aNE[Mx](F:Md):GOK Tryz.prog GL 58 (aD9 F):=by
 refine jR (bA8 (aZZ F)) mix Tryz.func58 rfl xP (fun _=>Nat.le_of_ble_eq_true rfl) (aND F) (fun c0 w0 d hw hw2 h hV=>?_) (.cons (fun _ _=>(aDL F)) xP (.cons (fun _ _=>(iC F)) xP (.cons (fun _ _=>(aC8 F)) xP (.cons (fun _ _=>(aBQ F)) xP (.cons (fun _ _=>(tR F)) xP (.cons (fun _ _=>(aOy F)) xP (.cons (fun _ _=>(aOz F)) xP (.nil))))))));obtain⟨(q:vm),(f:Nat),(g:qc),(o1_3:qo),r⟩:=d;have hF:=hV.fr;replace h:=jS (show aAN F q f g o1_3=some r from h);simp only[vH,List.map_cons,List.map_nil,go_sem];unfold aAN at h;refine aB h fun e hv h=>?_;rcases e with Z|p_42
 ·try dsimp only at h
  simp only[hv,go_sem];refine cE h (fun hc h=>?_) fun hc h=>?_
  ·refine aB h fun e hv h=>?_;rcases e with Y|p_48
   ·(try dsimp only at h);simp only[hv,go_sem];refine aB h fun e hv h=>?_;rcases e with r_53|p_54
    ·(try dsimp only at h);simp only[hv,go_sem];refine aB h fun e hv h=>?_;rcases e with U|p_60
     ·(try dsimp only at h);simp only[hv,go_sem];refine aB h fun e hv h=>?_;rcases e with r_65|p_66
      ·(try dsimp only at h);simp only[hv,go_sem];refine aB h fun e hv h=>?_;rcases e with J|p_72
       ·(try dsimp only at h);simp only[hv,go_sem];(repeat (refine⟨zAB,?_⟩));obtain⟨q0,h,hq⟩:=h;obtain⟨g0,h⟩:=bD h;refine aG6 hF [1] [6,7,10] [[0],[0],[27],[28],[29],[4],[31],[30,32],[26],[34],[33,35]] [(0,0),(0,1),(0,2),(1,0),(1,1),(1,2),(2,0),(2,1),(2,2),(3,0),(3,1),(3,2),(4,0),(4,1),(5,0),(6,0),(7,1),(8,2),(8,3),(9,2),(10,2)] [.ptr 0 [.idx 5 f],.ptr 0 [.idx 5 f],.ptr 0 [.idx 5 f],.ptr 0 [.idx 5 f,.fld 1 1],.own 2,.val qr (Y.1,U.1,J.1,()),.own 7,.own 8,.ptr 0 [.idx 5 f],.ptr 0 [.idx 5 f,.fld 1 1],.junk] [[.trh 63 qi qa q f (.agg [.val .str g.1,.own 2,.own 3,.own 4,.own 5]),.box 3 (.val qk J.2),.row 74 qr g.2.1,.row 91 qz g.2.2.1,.row 9 .str g.2.2.2.1,.row 76 qu g.2.2.2.2.1,.box 6 (.val qr (Y.1,U.1,J.1,()))],[.trh 63 qi qa q f (.agg [.val .str g.1,.own 2,.own 3,.own 4,.own 5]),.box 3 (.val qk J.2),.row 74 qr g.2.1,.row 91 qz g.2.2.1,.row 9 .str g.2.2.2.1,.row 76 qu g.2.2.2.2.1,.box 6 (.val qr (Y.1,U.1,J.1,())),.row 74 qr ([(Y.1,U.1,J.1,())]:List wV)],[.trh 63 qi qa q f (.agg [.val .str g.1,.own 2,.own 3,.own 4,.own 5]),.box 3 (.val qk J.2),.dead,.row 91 qz g.2.2.1,.row 9 .str g.2.2.2.1,.row 76 qu g.2.2.2.2.1,.box 6 (.val qr (Y.1,U.1,J.1,())),.dead,.row 74 qr (g.2.1++([(Y.1,U.1,J.1,())]:List wV))],[.trh 63 qi qa q f (.agg [.val .str g.1,.own 8,.own 3,.own 4,.own 5]),.box 3 (.val qk J.2),.dead,.row 91 qz g.2.2.1,.row 9 .str g.2.2.2.1,.row 76 qu g.2.2.2.2.1,.box 6 (.val qr (Y.1,U.1,J.1,())),.dead,.row 74 qr (g.2.1++([(Y.1,U.1,J.1,())]:List wV))]] [[(0,.ptr 0 [.idx 5 f])],[(0,.ptr 0 [.idx 5 f])],[(27,.ptr 0 [.idx 5 f])],[(28,.ptr 0 [.idx 5 f])],[(29,.ptr 0 [.idx 5 f,.fld 1 1])],[(4,.ptr 6 [])],[(31,.val qr (Y.1,U.1,J.1,()))],[(30,.own 2),(32,.own 7)],[(26,.ptr 0 [.idx 5 f])],[(34,.ptr 0 [.idx 5 f])],[(33,.own 8),(35,.ptr 0 [.idx 5 f,.fld 1 1])]] xAa rfl rfl ?_ ?_
        ·simp only[go_sem];exact zaM
        show At _ _ [(1,.ptr 1 [])] [.trh 63 qi qa q f (.agg [.val .str g.1,.own 8,.own 3,.own 4,.own 5]),.box 3 (.val qk J.2),.dead,.row 91 qz g.2.2.1,.row 9 .str g.2.2.2.1,.row 76 qu g.2.2.2.2.1,.box 6 (.val qr (Y.1,U.1,J.1,())),.dead,.row 74 qr (g.2.1++([(Y.1,U.1,J.1,())]:List wV))];(first|replace h:=lO h hq|replace h:=lO (Θ:=(· = r)) h hq);refine aGf hV (yaA ?_);refine aB h fun e hv h=>?_;rcases e with r_73|p_74
        ·(try dsimp only at h);simp only[hv,go_sem];obtain rfl:=aP h;refine gV (fU [0,1,8,3,4,5] rfl rfl (yaB ?_));exact zaZ
        ·(try dsimp only at h);exact zaF
       ·(try dsimp only at h);exact zaF
      ·(try dsimp only at h);exact zaF
     ·(try dsimp only at h);exact zaF
    ·(try dsimp only at h);exact zaF
   ·(try dsimp only at h);exact zaF
  ·refine cE h (fun hc h=>?_) fun hc h=>?_
   ·refine aB h fun e hv h=>?_;rcases e with O|p_80
    ·(try dsimp only at h);simp only[hv,go_sem];refine aB h fun e hv h=>?_;rcases e with r_85|p_86
     ·(try dsimp only at h);simp only[hv,go_sem];refine aB h fun e hv h=>?_;rcases e with I|p_92
      ·(try dsimp only at h);simp only[hv,go_sem];(repeat (refine⟨zAB,?_⟩));obtain⟨q0,h,hq⟩:=h;obtain⟨g0,h⟩:=bD h;refine aG6 hF [1] [6,7,10] [[0],[0],[47],[48],[49],[5],[51],[50,52],[46],[54],[53,55]] [(0,0),(0,1),(0,2),(1,0),(1,1),(1,2),(2,0),(2,1),(2,2),(3,0),(3,1),(3,2),(4,0),(4,1),(5,0),(6,0),(7,1),(8,2),(8,3),(9,2),(10,2)] [.ptr 0 [.idx 5 f],.ptr 0 [.idx 5 f],.ptr 0 [.idx 5 f],.ptr 0 [.idx 5 f,.fld 2 2],.own 3,.val qz (O.1,I.1,()),.own 7,.own 8,.ptr 0 [.idx 5 f],.ptr 0 [.idx 5 f,.fld 2 2],.junk] [[.trh 63 qi qa q f (.agg [.val .str g.1,.own 2,.own 3,.own 4,.own 5]),.box 3 (.val qk I.2),.row 74 qr g.2.1,.row 91 qz g.2.2.1,.row 9 .str g.2.2.2.1,.row 76 qu g.2.2.2.2.1,.box 3 (.val qz (O.1,I.1,()))],[.trh 63 qi qa q f (.agg [.val .str g.1,.own 2,.own 3,.own 4,.own 5]),.box 3 (.val qk I.2),.row 74 qr g.2.1,.row 91 qz g.2.2.1,.row 9 .str g.2.2.2.1,.row 76 qu g.2.2.2.2.1,.box 3 (.val qz (O.1,I.1,())),.row 91 qz ([(O.1,I.1,())]:List we)],[.trh 63 qi qa q f (.agg [.val .str g.1,.own 2,.own 3,.own 4,.own 5]),.box 3 (.val qk I.2),.row 74 qr g.2.1,.dead,.row 9 .str g.2.2.2.1,.row 76 qu g.2.2.2.2.1,.box 3 (.val qz (O.1,I.1,())),.row 91 qz ([(O.1,I.1,())]:List we),.row 91 qz (g.2.2.1++([(O.1,I.1,())]:List we))],[.trh 63 qi qa q f (.agg [.val .str g.1,.own 2,.own 8,.own 4,.own 5]),.box 3 (.val qk I.2),.row 74 qr g.2.1,.dead,.row 9 .str g.2.2.2.1,.row 76 qu g.2.2.2.2.1,.box 3 (.val qz (O.1,I.1,())),.row 91 qz ([(O.1,I.1,())]:List we),.row 91 qz (g.2.2.1++([(O.1,I.1,())]:List we))]] [[(0,.ptr 0 [.idx 5 f])],[(0,.ptr 0 [.idx 5 f])],[(47,.ptr 0 [.idx 5 f])],[(48,.ptr 0 [.idx 5 f])],[(49,.ptr 0 [.idx 5 f,.fld 2 2])],[(5,.ptr 6 [])],[(51,.val qz (O.1,I.1,()))],[(50,.own 3),(52,.own 7)],[(46,.ptr 0 [.idx 5 f])],[(54,.ptr 0 [.idx 5 f])],[(53,.own 8),(55,.ptr 0 [.idx 5 f,.fld 2 2])]] xAa rfl rfl ?_ ?_
       ·simp only[go_sem];exact zaM
       show At _ _ [(1,.ptr 1 [])] [.trh 63 qi qa q f (.agg [.val .str g.1,.own 2,.own 8,.own 4,.own 5]),.box 3 (.val qk I.2),.row 74 qr g.2.1,.dead,.row 9 .str g.2.2.2.1,.row 76 qu g.2.2.2.2.1,.box 3 (.val qz (O.1,I.1,())),.row 91 qz ([(O.1,I.1,())]:List we),.row 91 qz (g.2.2.1++([(O.1,I.1,())]:List we))];(first|replace h:=lO h hq|replace h:=lO (Θ:=(· = r)) h hq);refine aGf hV (yaA ?_);refine aB h fun e hv h=>?_;rcases e with r_93|p_94
       ·(try dsimp only at h);simp only[hv,go_sem];obtain rfl:=aP h;refine gV (fU [0,1,2,8,4,5] rfl rfl (yaB ?_));exact zaZ
       ·(try dsimp only at h);exact zaF
      ·(try dsimp only at h);exact zaF
     ·(try dsimp only at h);exact zaF
    ·(try dsimp only at h);simp only[hv,go_sem];(repeat (refine⟨zAB,?_⟩));obtain rfl:=aP h;refine aM (nH 0 rfl aH) ?_;exact zae
   ·refine cE h (fun hc h=>?_) fun hc h=>?_
    ·obtain⟨q0,h,hq⟩:=h;obtain⟨e,he1,h⟩:=bind_some h;rcases e with L|p_96
     ·(try dsimp only at h);obtain⟨g0,h⟩:=bD h;refine uQ hF (eT (l:=[(57,⟨mG F,[1],(Z.2,.inl L)⟩)]) (.cons (tR F) xP (.nil))) [] [1] [6,7,8,11] [[0],[0],[59],[60],[61],[1],[63],[64],[62,65],[58],[67],[66,68]] [(0,0),(0,1),(0,2),(0,3),(1,0),(1,1),(1,2),(1,3),(2,0),(2,1),(2,2),(2,3),(3,0),(3,1),(3,2),(3,3),(4,0),(4,1),(4,2),(5,0),(6,0),(7,1),(8,2),(9,3),(9,4),(10,3),(11,3)] [.ptr 0 [.idx 5 f],.ptr 0 [.idx 5 f],.ptr 0 [.idx 5 f],.ptr 0 [.idx 5 f,.fld 3 3],.own 4,.ptr 1 [],.val .str L.1,.own 6,.own 7,.ptr 0 [.idx 5 f],.ptr 0 [.idx 5 f,.fld 3 3],.junk] [[.trh 63 qi qa q f (.agg [.val .str g.1,.own 2,.own 3,.own 4,.own 5]),.box 3 (.val qk Z.2),.row 74 qr g.2.1,.row 91 qz g.2.2.1,.row 9 .str g.2.2.2.1,.row 76 qu g.2.2.2.2.1],[.trh 63 qi qa q f (.agg [.val .str g.1,.own 2,.own 3,.own 4,.own 5]),.box 3 (.val qk L.2),.row 74 qr g.2.1,.row 91 qz g.2.2.1,.row 9 .str g.2.2.2.1,.row 76 qu g.2.2.2.2.1],[.trh 63 qi qa q f (.agg [.val .str g.1,.own 2,.own 3,.own 4,.own 5]),.box 3 (.val qk L.2),.row 74 qr g.2.1,.row 91 qz g.2.2.1,.row 9 .str g.2.2.2.1,.row 76 qu g.2.2.2.2.1,.row 9 .str ([L.1]:List qd)],[.trh 63 qi qa q f (.agg [.val .str g.1,.own 2,.own 3,.own 4,.own 5]),.box 3 (.val qk L.2),.row 74 qr g.2.1,.row 91 qz g.2.2.1,.dead,.row 76 qu g.2.2.2.2.1,.row 9 .str ([L.1]:List qd),.row 9 .str (g.2.2.2.1++([L.1]:List qd))],[.trh 63 qi qa q f (.agg [.val .str g.1,.own 2,.own 3,.own 7,.own 5]),.box 3 (.val qk L.2),.row 74 qr g.2.1,.row 91 qz g.2.2.1,.dead,.row 76 qu g.2.2.2.2.1,.row 9 .str ([L.1]:List qd),.row 9 .str (g.2.2.2.1++([L.1]:List qd))]] [[(0,.ptr 0 [.idx 5 f])],[(0,.ptr 0 [.idx 5 f])],[(59,.ptr 0 [.idx 5 f])],[(60,.ptr 0 [.idx 5 f])],[(61,.ptr 0 [.idx 5 f,.fld 3 3])],[(1,.ptr 1 [])],[(63,.ptr 1 [])],[(64,.val .str L.1)],[(62,.own 4),(65,.own 6)],[(58,.ptr 0 [.idx 5 f])],[(67,.ptr 0 [.idx 5 f])],[(66,.own 7),(68,.ptr 0 [.idx 5 f,.fld 3 3])]] false xAa rfl rfl ?_ ?_
      ·simp only[go_sem];exact zaM
      intro _;show At _ _ [(1,.ptr 1 [])] [.trh 63 qi qa q f (.agg [.val .str g.1,.own 2,.own 3,.own 7,.own 5]),.box 3 (.val qk L.2),.row 74 qr g.2.1,.row 91 qz g.2.2.1,.dead,.row 76 qu g.2.2.2.2.1,.row 9 .str ([L.1]:List qd),.row 9 .str (g.2.2.2.1++([L.1]:List qd))];(first|replace h:=lO h hq|replace h:=lO (Θ:=(· = r)) h hq);refine aGf hV (yaA ?_);refine aB h fun e hv h=>?_;rcases e with r_97|p_98
      ·(try dsimp only at h);simp only[hv,go_sem];obtain rfl:=aP h;refine gV (fU [0,1,2,3,7,5] rfl rfl (yaB ?_));exact zaZ
      ·(try dsimp only at h);simp only[hv,go_sem];(repeat (refine⟨zAB,?_⟩));obtain rfl:=aP h;refine aM (nH 0 rfl aH) ?_;exact zae
     ·(try dsimp only at h);refine uQ hF (eT (l:=[(57,⟨mG F,[1],(Z.2,.inr p_96)⟩)]) (.cons (tR F) xP (.nil))) [] [1] [6] [[0],[0],[59],[60],[61],[1],[63],[64],[62,65],[58],[67],[66,68]] [(0,0),(1,0),(2,0),(3,0),(4,0),(5,0),(6,0)] [.ptr 0 [.idx 5 f],.ptr 0 [.idx 5 f],.ptr 0 [.idx 5 f],.ptr 0 [.idx 5 f,.fld 3 3],.own 4,.ptr 1 [],.junk,.junk,.junk,.junk,.junk,.junk] [[.trh 63 qi qa q f (.agg [.val .str g.1,.own 2,.own 3,.own 4,.own 5]),.box 3 (.val qk Z.2),.row 74 qr g.2.1,.row 91 qz g.2.2.1,.row 9 .str g.2.2.2.1,.row 76 qu g.2.2.2.2.1]] [[(0,.ptr 0 [.idx 5 f])],[(0,.ptr 0 [.idx 5 f])],[(59,.ptr 0 [.idx 5 f])],[(60,.ptr 0 [.idx 5 f])],[(61,.ptr 0 [.idx 5 f,.fld 3 3])],[(1,.ptr 1 [])],[(63,.ptr 1 [])],[(64,.junk)],[(62,.own 4),(65,.junk)],[(58,.ptr 0 [.idx 5 f])],[(67,.junk)],[(66,.junk),(68,.junk)]] true xAa rfl rfl ?_ ?_;rotate_left;exact fun h=>absurd h xAa;simp only[go_sem]
      (repeat' apply And.intro)<;>try (first|trivial|rfl|with_reducible assumption|omega|(intros; first|with_reducible assumption|omega)|(simp; done)|(simp at *; omega))
      (first|replace h:=lO h hq|replace h:=lO (Θ:=(· = r)) h hq);(try simp only[go_sem]);obtain rfl:=aP h;refine aM (nH 0 rfl aH) ?_;refine aM (aJ 1 rfl aH) (yaA ?_);refine bS [0,1] rfl rfl (yaB ?_);refine bC rfl rfl rfl rfl
    ·refine cE h (fun hc h=>?_) fun hc h=>?_
     ·refine aB h fun e hv h=>?_;rcases e with N|p_104
      ·(try dsimp only at h);simp only[hv,go_sem];refine aB h fun e hv h=>?_;rcases e with r_109|p_110
       ·(try dsimp only at h);simp only[hv,go_sem];refine aB h fun e hv h=>?_;rcases e with z|p_116
        ·(try dsimp only at h);simp only[hv,go_sem];(repeat (refine⟨zAB,?_⟩));obtain⟨q0,h,hq⟩:=h;obtain⟨g0,h⟩:=bD h;refine aG6 hF [1] [6,7,10] [[0],[0],[80],[81],[82],[6],[84],[83,85],[79],[87],[86,88]] [(0,0),(0,1),(0,2),(1,0),(1,1),(1,2),(2,0),(2,1),(2,2),(3,0),(3,1),(3,2),(4,0),(4,1),(5,0),(6,0),(7,1),(8,2),(8,3),(9,2),(10,2)] [.ptr 0 [.idx 5 f],.ptr 0 [.idx 5 f],.ptr 0 [.idx 5 f],.ptr 0 [.idx 5 f,.fld 4 4],.own 5,.val qu (N.1,z.1,()),.own 7,.own 8,.ptr 0 [.idx 5 f],.ptr 0 [.idx 5 f,.fld 4 4],.junk] [[.trh 63 qi qa q f (.agg [.val .str g.1,.own 2,.own 3,.own 4,.own 5]),.box 3 (.val qk z.2),.row 74 qr g.2.1,.row 91 qz g.2.2.1,.row 9 .str g.2.2.2.1,.row 76 qu g.2.2.2.2.1,.box 4 (.val qu (N.1,z.1,()))],[.trh 63 qi qa q f (.agg [.val .str g.1,.own 2,.own 3,.own 4,.own 5]),.box 3 (.val qk z.2),.row 74 qr g.2.1,.row 91 qz g.2.2.1,.row 9 .str g.2.2.2.1,.row 76 qu g.2.2.2.2.1,.box 4 (.val qu (N.1,z.1,())),.row 76 qu ([(N.1,z.1,())]:List q9)],[.trh 63 qi qa q f (.agg [.val .str g.1,.own 2,.own 3,.own 4,.own 5]),.box 3 (.val qk z.2),.row 74 qr g.2.1,.row 91 qz g.2.2.1,.row 9 .str g.2.2.2.1,.dead,.box 4 (.val qu (N.1,z.1,())),.dead,.row 76 qu (g.2.2.2.2.1++([(N.1,z.1,())]:List q9))],[.trh 63 qi qa q f (.agg [.val .str g.1,.own 2,.own 3,.own 4,.own 8]),.box 3 (.val qk z.2),.row 74 qr g.2.1,.row 91 qz g.2.2.1,.row 9 .str g.2.2.2.1,.dead,.box 4 (.val qu (N.1,z.1,())),.dead,.row 76 qu (g.2.2.2.2.1++([(N.1,z.1,())]:List q9))]] [[(0,.ptr 0 [.idx 5 f])],[(0,.ptr 0 [.idx 5 f])],[(80,.ptr 0 [.idx 5 f])],[(81,.ptr 0 [.idx 5 f])],[(82,.ptr 0 [.idx 5 f,.fld 4 4])],[(6,.ptr 6 [])],[(84,.val qu (N.1,z.1,()))],[(83,.own 5),(85,.own 7)],[(79,.ptr 0 [.idx 5 f])],[(87,.ptr 0 [.idx 5 f])],[(86,.own 8),(88,.ptr 0 [.idx 5 f,.fld 4 4])]] xAa rfl rfl ?_ ?_
         ·simp only[go_sem];exact zaM
         show At _ _ [(1,.ptr 1 [])] [.trh 63 qi qa q f (.agg [.val .str g.1,.own 2,.own 3,.own 4,.own 8]),.box 3 (.val qk z.2),.row 74 qr g.2.1,.row 91 qz g.2.2.1,.row 9 .str g.2.2.2.1,.dead,.box 4 (.val qu (N.1,z.1,())),.dead,.row 76 qu (g.2.2.2.2.1++([(N.1,z.1,())]:List q9))];(first|replace h:=lO h hq|replace h:=lO (Θ:=(· = r)) h hq);refine aGf hV (yaA ?_);refine aB h fun e hv h=>?_;rcases e with r_117|p_118
         ·(try dsimp only at h);simp only[hv,go_sem];obtain rfl:=aP h;refine gV (fU [0,1,2,3,4,8] rfl rfl (yaB ?_));exact zaZ
         ·(try dsimp only at h);exact zaF
        ·(try dsimp only at h);exact zaF
       ·(try dsimp only at h);exact zaF
      ·(try dsimp only at h);exact zaF
     ·refine aB h fun e hv h=>?_;rcases e with r_119|p_120
      ·(try dsimp only at h);simp only[hv,go_sem];refine aB h fun e hv h=>?_;rcases e with r_121|p_122
       ·(try dsimp only at h);exact zaL
       ·(try dsimp only at h);exact zaF
      ·(try dsimp only at h);exact zaF
 ·try dsimp only at h
  exact zaF
def qG(F:Md)(f:qf)(o1_3:qo):Option ((qf×qo)⊕wc) :=
 (eJ F o1_3).bind (fun q=>if q.1=(aR ⟨#[108,105,110,107]⟩) then (cW F q.2).bind (fun e=>match e with| .inl r_13=>(lG F r_13.2).bind (fun e=>match e with| .inl z=>(eF F (aR ⟨#[61]⟩) z.2).bind (fun e=>match e with| .inl r_25=>(lG F r_25).bind (fun e=>match e with| .inl I=>(cQ F I.2).bind (fun e=>match e with| .inl r_37=>ck (((f.2.2.2.2.2.2.2.2.2.1.length)+(1:Nat))*97≤140737488355328) (some (.inl ((f.1,f.2.1,f.2.2.1,f.2.2.2.1,f.2.2.2.2.1,f.2.2.2.2.2.1,f.2.2.2.2.2.2.1,f.2.2.2.2.2.2.2.1,f.2.2.2.2.2.2.2.2.1,(f.2.2.2.2.2.2.2.2.2.1++([(z.1.1,z.1.2.1,I.1.1,I.1.2.1,())]:List qy)),()),r_37)))| .inr p_38=>some (.inr p_38))| .inr p_32=>some (.inr p_32))| .inr N=>some (.inr N))| .inr p_20=>some (.inr p_20))| .inr p_14=>some (.inr p_14)) else if (0:Int)<(f.2.2.2.2.2.2.2.2.2.1.length:Int) then (lE F q.2).bind (fun e=>match e with| .inl L=>some (.inl ((f.1,f.2.1,f.2.2.1,f.2.2.2.1,f.2.2.2.2.1,f.2.2.2.2.2.1,f.2.2.2.2.2.2.1,f.2.2.2.2.2.2.2.1,f.2.2.2.2.2.2.2.2.1,f.2.2.2.2.2.2.2.2.2.1,()),L))| .inr p_40=>some (.inr p_40)) else if q.1=(aR ⟨#[115,117,98]⟩) then (cW F q.2).bind (fun e=>match e with| .inl r_45=>(gC F r_45.2).bind (fun e=>match e with| .inl J=>ck (((f.2.2.2.2.2.2.2.2.1.length)+(1:Nat))*121≤140737488355328) ((cQ F J.2).bind (fun e=>match e with| .inl Y=>some (.inl ((f.1,f.2.1,f.2.2.1,f.2.2.2.1,f.2.2.2.2.1,f.2.2.2.2.2.1,f.2.2.2.2.2.2.1,f.2.2.2.2.2.2.2.1,(f.2.2.2.2.2.2.2.2.1++([(J.1,([]:List wV),([]:List we),([]:List qd),([]:List q9),())]:List qc)),f.2.2.2.2.2.2.2.2.2.1,()),Y))| .inr U=>some (.inr U)))| .inr Z=>some (.inr Z))| .inr p_46=>some (.inr p_46)) else if (0:Int)<(f.2.2.2.2.2.2.2.2.1.length:Int) then ck (((f.2.2.2.2.2.2.2.2.1.length:Int)-(1:Int)).toNat<(f.2.2.2.2.2.2.2.2.1.length)) (ck (I64 ((f.2.2.2.2.2.2.2.2.1.length:Int)-(1:Int))) (ck (0≤((f.2.2.2.2.2.2.2.2.1.length:Int)-(1:Int))∧((f.2.2.2.2.2.2.2.2.1.length:Int)-(1:Int))<(f.2.2.2.2.2.2.2.2.1.length:Int)) ((aAN F f.2.2.2.2.2.2.2.2.1 ((f.2.2.2.2.2.2.2.2.1.length:Int)-(1:Int)).toNat ((f.2.2.2.2.2.2.2.2.1.getD ((f.2.2.2.2.2.2.2.2.1.length:Int)-(1:Int)).toNat ([],[],[],[],[],())).1,(f.2.2.2.2.2.2.2.2.1.getD ((f.2.2.2.2.2.2.2.2.1.length:Int)-(1:Int)).toNat ([],[],[],[],[],())).2.1,(f.2.2.2.2.2.2.2.2.1.getD ((f.2.2.2.2.2.2.2.2.1.length:Int)-(1:Int)).toNat ([],[],[],[],[],())).2.2.1,(f.2.2.2.2.2.2.2.2.1.getD ((f.2.2.2.2.2.2.2.2.1.length:Int)-(1:Int)).toNat ([],[],[],[],[],())).2.2.2.1,(f.2.2.2.2.2.2.2.2.1.getD ((f.2.2.2.2.2.2.2.2.1.length:Int)-(1:Int)).toNat ([],[],[],[],[],())).2.2.2.2.1,()) q.2).bind (fun e=>match e with| .inl g=>some (.inl ((f.1,f.2.1,f.2.2.1,f.2.2.2.1,f.2.2.2.2.1,f.2.2.2.2.2.1,f.2.2.2.2.2.2.1,f.2.2.2.2.2.2.2.1,(f.2.2.2.2.2.2.2.2.1.set ((f.2.2.2.2.2.2.2.2.1.length:Int)-(1:Int)).toNat (g.1.1,g.1.2.1,g.1.2.2.1,g.1.2.2.2.1,g.1.2.2.2.2.1,())),f.2.2.2.2.2.2.2.2.2.1,()),g.2))| .inr p_56=>some (.inr p_56))))) else (lE F q.2).bind (fun e=>match e with| .inl r_57=>some (.inl ((f.1,f.2.1,f.2.2.1,f.2.2.2.1,f.2.2.2.2.1,f.2.2.2.2.2.1,f.2.2.2.2.2.2.1,f.2.2.2.2.2.2.2.1,f.2.2.2.2.2.2.2.2.1,f.2.2.2.2.2.2.2.2.2.1,()),r_57))| .inr O=>some (.inr O)))
def aBF(F:Md):fH where
 D:=qf×qo×((qf×qo)⊕wc)
 av:=fun d=>[.ptr 0 [],.ptr 1 []]
 hp:=fun d=>[.box 10 (.agg [.val qg d.1.1,.val qg d.1.2.1,.val qg d.1.2.2.1,.val qg d.1.2.2.2.1,.val .str d.1.2.2.2.2.1,.val .str d.1.2.2.2.2.2.1,.val .str d.1.2.2.2.2.2.2.1,.val .str d.1.2.2.2.2.2.2.2.1,.own 2,.own 3]),.box 3 (.val qk d.2.1),.tre 63 qi qa d.1.2.2.2.2.2.2.2.2.1,.row 69 qv d.1.2.2.2.2.2.2.2.2.2.1]
 m:=2
 pre:=fun d=>qG F d.1 d.2.1=some d.2.2
 out:=fun d=>match d.2.2 with| .inl r=>.ret (.tup []) [.box 10 (.agg [.val qg r.1.1,.val qg r.1.2.1,.val qg r.1.2.2.1,.val qg r.1.2.2.2.1,.val .str r.1.2.2.2.2.1,.val .str r.1.2.2.2.2.2.1,.val .str r.1.2.2.2.2.2.2.1,.val .str r.1.2.2.2.2.2.2.2.1,.own 2,.own 3]),.box 3 (.val qk r.2),.tre 63 qi qa r.1.2.2.2.2.2.2.2.2.1,.row 69 qv r.1.2.2.2.2.2.2.2.2.2.1]| .inr p=>.pan ⟨45,wg,p⟩ [.box 10 (.junk),.box 3 (.junk)]
def aKk(F:Md):PlR:=⟨[(0,.A [0,1,4]),(1,.P [0,1,4,5] []),(2,.P [] []),(3,.A [0,1,4,5,16]),(4,.P [0,1] []),(5,.B [0,1,6]),(6,.P [0,1,6] []),(7,.P [0,1,6] []),(8,.P [0,1,6] []),(9,.P [0,6] []),(10,.stop),(11,.A [0,1,4,5,49]),(12,.P [] []),(13,.A [0,1,4,58]),(14,.P [0,1] []),(15,.stop),(16,.P [] []),(17,.A [0,1,4,77]),(18,.stop)],[],[(19,tP F),(49,aAL F),(52,gI F),(54,zI F),(55,aGJ F),(56,xS F)]⟩
abbrev aWl(F:Md):List (FuncId×aF):=[]
theorem aWm[Mx](F:Md):bF Tryz.prog GL (aWl F):=.nil
attribute [go_sem] aKk aBF
theorem aKl[Mx](F:Md):GOK Tryz.prog GL 21 (aBF F):=by
 refine jR (bA8 (aWm F)) mix Tryz.func21 rfl xP (fun _=>Nat.le_of_ble_eq_true rfl) (aKk F) (fun c0 w0 d hw hw2 h hV=>?_) (.cons (fun _ _=>(tQ F)) xP (.cons (fun _ _=>(aDL F)) xP (.cons (fun _ _=>(iC F)) xP (.cons (fun _ _=>(aC8 F)) xP (.cons (fun _ _=>(aOA F)) xP (.cons (fun _ _=>(aBQ F)) xP (.nil)))))));obtain⟨(f:qf),(U:qo),r⟩:=d;have hF:=hV.fr;replace h:=jS (show qG F f U=some r from h);simp only[vH,List.map_cons,List.map_nil,go_sem];unfold qG at h;refine aB h fun N hv h=>?_;simp only[hv,go_sem];refine cE h (fun hc h=>?_) fun hc h=>?_
 ·refine aB h fun e hv h=>?_;rcases e with r_13|p_14
  ·(try dsimp only at h);simp only[hv,go_sem];refine aB h fun e hv h=>?_;rcases e with g|p_20
   ·(try dsimp only at h);simp only[hv,go_sem];refine aB h fun e hv h=>?_;rcases e with r_25|p_26
    ·(try dsimp only at h);simp only[hv,go_sem];refine aB h fun e hv h=>?_;rcases e with q|p_32
     ·(try dsimp only at h);simp only[hv,go_sem];refine aB h fun e hv h=>?_;rcases e with J|p_38
      ·(try dsimp only at h);simp only[hv,go_sem];(repeat (refine⟨zAB,?_⟩));obtain⟨q0,h,hq⟩:=h;obtain⟨g0,h⟩:=bD h;refine aG6 hF [] [6,7,10] [[0],[0],[40],[41],[42],[6],[44],[43,45],[39],[47],[46,48]] [(0,0),(0,1),(0,2),(1,0),(1,1),(1,2),(2,0),(2,1),(2,2),(3,0),(3,1),(3,2),(4,0),(4,1),(5,0),(6,0),(7,1),(8,2),(8,3),(9,2),(10,2)] [.ptr 0 [],.ptr 0 [],.ptr 0 [],.ptr 0 [.fld 9 9],.own 3,.val qv (g.1.1,g.1.2.1,q.1.1,q.1.2.1,()),.own 5,.own 6,.ptr 0 [],.ptr 0 [.fld 9 9],.junk] [[.box 10 (.agg [.val qg f.1,.val qg f.2.1,.val qg f.2.2.1,.val qg f.2.2.2.1,.val .str f.2.2.2.2.1,.val .str f.2.2.2.2.2.1,.val .str f.2.2.2.2.2.2.1,.val .str f.2.2.2.2.2.2.2.1,.own 2,.own 3]),.box 3 (.val qk J),.tre 63 qi qa f.2.2.2.2.2.2.2.2.1,.row 69 qv f.2.2.2.2.2.2.2.2.2.1,.box 4 (.val qv (g.1.1,g.1.2.1,q.1.1,q.1.2.1,()))],[.box 10 (.agg [.val qg f.1,.val qg f.2.1,.val qg f.2.2.1,.val qg f.2.2.2.1,.val .str f.2.2.2.2.1,.val .str f.2.2.2.2.2.1,.val .str f.2.2.2.2.2.2.1,.val .str f.2.2.2.2.2.2.2.1,.own 2,.own 3]),.box 3 (.val qk J),.tre 63 qi qa f.2.2.2.2.2.2.2.2.1,.row 69 qv f.2.2.2.2.2.2.2.2.2.1,.box 4 (.val qv (g.1.1,g.1.2.1,q.1.1,q.1.2.1,())),.row 69 qv ([(g.1.1,g.1.2.1,q.1.1,q.1.2.1,())]:List qy)],[.box 10 (.agg [.val qg f.1,.val qg f.2.1,.val qg f.2.2.1,.val qg f.2.2.2.1,.val .str f.2.2.2.2.1,.val .str f.2.2.2.2.2.1,.val .str f.2.2.2.2.2.2.1,.val .str f.2.2.2.2.2.2.2.1,.own 2,.own 3]),.box 3 (.val qk J),.tre 63 qi qa f.2.2.2.2.2.2.2.2.1,.dead,.box 4 (.val qv (g.1.1,g.1.2.1,q.1.1,q.1.2.1,())),.row 69 qv ([(g.1.1,g.1.2.1,q.1.1,q.1.2.1,())]:List qy),.row 69 qv (f.2.2.2.2.2.2.2.2.2.1++([(g.1.1,g.1.2.1,q.1.1,q.1.2.1,())]:List qy))],[.box 10 (.agg [.val qg f.1,.val qg f.2.1,.val qg f.2.2.1,.val qg f.2.2.2.1,.val .str f.2.2.2.2.1,.val .str f.2.2.2.2.2.1,.val .str f.2.2.2.2.2.2.1,.val .str f.2.2.2.2.2.2.2.1,.own 2,.own 6]),.box 3 (.val qk J),.tre 63 qi qa f.2.2.2.2.2.2.2.2.1,.dead,.box 4 (.val qv (g.1.1,g.1.2.1,q.1.1,q.1.2.1,())),.row 69 qv ([(g.1.1,g.1.2.1,q.1.1,q.1.2.1,())]:List qy),.row 69 qv (f.2.2.2.2.2.2.2.2.2.1++([(g.1.1,g.1.2.1,q.1.1,q.1.2.1,())]:List qy))]] [[(0,.ptr 0 [])],[(0,.ptr 0 [])],[(40,.ptr 0 [])],[(41,.ptr 0 [])],[(42,.ptr 0 [.fld 9 9])],[(6,.ptr 4 [])],[(44,.val qv (g.1.1,g.1.2.1,q.1.1,q.1.2.1,()))],[(43,.own 3),(45,.own 5)],[(39,.ptr 0 [])],[(47,.ptr 0 [])],[(46,.own 6),(48,.ptr 0 [.fld 9 9])]] xAa rfl rfl ?_ ?_
       ·simp only[go_sem];exact zaM
       show At _ _ [] [.box 10 (.agg [.val qg f.1,.val qg f.2.1,.val qg f.2.2.1,.val qg f.2.2.2.1,.val .str f.2.2.2.2.1,.val .str f.2.2.2.2.2.1,.val .str f.2.2.2.2.2.2.1,.val .str f.2.2.2.2.2.2.2.1,.own 2,.own 6]),.box 3 (.val qk J),.tre 63 qi qa f.2.2.2.2.2.2.2.2.1,.dead,.box 4 (.val qv (g.1.1,g.1.2.1,q.1.1,q.1.2.1,())),.row 69 qv ([(g.1.1,g.1.2.1,q.1.1,q.1.2.1,())]:List qy),.row 69 qv (f.2.2.2.2.2.2.2.2.2.1++([(g.1.1,g.1.2.1,q.1.1,q.1.2.1,())]:List qy))];(first|replace h:=lO h hq|replace h:=lO (Θ:=(· = r)) h hq);refine aGf hV (yaA ?_);obtain rfl:=aP h;refine gV (fU [0,1,2,6] rfl rfl (yaB ?_));exact zaZ
      ·(try dsimp only at h);exact zaA
     ·(try dsimp only at h);exact zaA
    ·(try dsimp only at h);exact zaA
   ·(try dsimp only at h);exact zaA
  ·(try dsimp only at h);exact zaA
 ·refine dS h (fun hc h=>?_) fun hc h=>?_
  ·refine aB h fun e hv h=>?_;rcases e with Z|p_40
   ·(try dsimp only at h);exact zaL
   ·(try dsimp only at h);exact zaA
  ·refine cE h (fun hc h=>?_) fun hc h=>?_
   ·refine aB h fun e hv h=>?_;rcases e with L|p_46
    ·(try dsimp only at h);simp only[hv,go_sem];(repeat (refine⟨zAB,?_⟩));obtain⟨q0,h,hq⟩:=h;obtain⟨e,he1,h⟩:=bind_some h;rcases e with z|O
     ·(try dsimp only at h);obtain⟨g0,h⟩:=bD h;refine uQ hF (eT (l:=[(57,⟨mG F,[1],(L.2,.inl z)⟩)]) (.cons (tR F) xP (.nil))) [] [1] [6,7,8,9,12] [[0],[0],[64],[65],[66],[1],[68],[69],[70],[67,71],[63],[73],[72,74]] [(0,0),(0,1),(0,2),(0,3),(0,4),(1,0),(1,1),(1,2),(1,3),(1,4),(2,0),(2,1),(2,2),(2,3),(2,4),(3,0),(3,1),(3,2),(3,3),(3,4),(4,0),(4,1),(4,2),(4,3),(5,0),(6,0),(7,1),(8,2),(9,3),(10,4),(10,5),(11,4),(12,4)] [.ptr 0 [],.ptr 0 [],.ptr 0 [],.ptr 0 [.fld 8 8],.own 2,.ptr 1 [],.val .str z.1,.agg [.val .str z.1,.nilS,.nilS,.nilS,.nilS],.own 4,.own 5,.ptr 0 [],.ptr 0 [.fld 8 8],.junk] [[.box 10 (.agg [.val qg f.1,.val qg f.2.1,.val qg f.2.2.1,.val qg f.2.2.2.1,.val .str f.2.2.2.2.1,.val .str f.2.2.2.2.2.1,.val .str f.2.2.2.2.2.2.1,.val .str f.2.2.2.2.2.2.2.1,.own 2,.own 3]),.box 3 (.val qk L.2),.tre 63 qi qa f.2.2.2.2.2.2.2.2.1,.row 69 qv f.2.2.2.2.2.2.2.2.2.1],[.box 10 (.agg [.val qg f.1,.val qg f.2.1,.val qg f.2.2.1,.val qg f.2.2.2.1,.val .str f.2.2.2.2.1,.val .str f.2.2.2.2.2.1,.val .str f.2.2.2.2.2.2.1,.val .str f.2.2.2.2.2.2.2.1,.own 2,.own 3]),.box 3 (.val qk z.2),.tre 63 qi qa f.2.2.2.2.2.2.2.2.1,.row 69 qv f.2.2.2.2.2.2.2.2.2.1],[.box 10 (.agg [.val qg f.1,.val qg f.2.1,.val qg f.2.2.1,.val qg f.2.2.2.1,.val .str f.2.2.2.2.1,.val .str f.2.2.2.2.2.1,.val .str f.2.2.2.2.2.2.1,.val .str f.2.2.2.2.2.2.2.1,.own 2,.own 3]),.box 3 (.val qk z.2),.tre 63 qi qa f.2.2.2.2.2.2.2.2.1,.row 69 qv f.2.2.2.2.2.2.2.2.2.1],[.box 10 (.agg [.val qg f.1,.val qg f.2.1,.val qg f.2.2.1,.val qg f.2.2.2.1,.val .str f.2.2.2.2.1,.val .str f.2.2.2.2.2.1,.val .str f.2.2.2.2.2.2.1,.val .str f.2.2.2.2.2.2.2.1,.own 2,.own 3]),.box 3 (.val qk z.2),.tre 63 qi qa f.2.2.2.2.2.2.2.2.1,.row 69 qv f.2.2.2.2.2.2.2.2.2.1,.tre 63 qi qa ([(z.1,([]:List wV),([]:List we),([]:List qd),([]:List q9),())]:List qc)],[.box 10 (.agg [.val qg f.1,.val qg f.2.1,.val qg f.2.2.1,.val qg f.2.2.2.1,.val .str f.2.2.2.2.1,.val .str f.2.2.2.2.2.1,.val .str f.2.2.2.2.2.2.1,.val .str f.2.2.2.2.2.2.2.1,.own 2,.own 3]),.box 3 (.val qk z.2),.dead,.row 69 qv f.2.2.2.2.2.2.2.2.2.1,.dead,.tre 63 qi qa (f.2.2.2.2.2.2.2.2.1++([(z.1,([]:List wV),([]:List we),([]:List qd),([]:List q9),())]:List qc))],[.box 10 (.agg [.val qg f.1,.val qg f.2.1,.val qg f.2.2.1,.val qg f.2.2.2.1,.val .str f.2.2.2.2.1,.val .str f.2.2.2.2.2.1,.val .str f.2.2.2.2.2.2.1,.val .str f.2.2.2.2.2.2.2.1,.own 5,.own 3]),.box 3 (.val qk z.2),.dead,.row 69 qv f.2.2.2.2.2.2.2.2.2.1,.dead,.tre 63 qi qa (f.2.2.2.2.2.2.2.2.1++([(z.1,([]:List wV),([]:List we),([]:List qd),([]:List q9),())]:List qc))]] [[(0,.ptr 0 [])],[(0,.ptr 0 [])],[(64,.ptr 0 [])],[(65,.ptr 0 [])],[(66,.ptr 0 [.fld 8 8])],[(1,.ptr 1 [])],[(68,.ptr 1 [])],[(69,.val .str z.1)],[(70,.agg [.val .str z.1,.nilS,.nilS,.nilS,.nilS])],[(67,.own 2),(71,.own 4)],[(63,.ptr 0 [])],[(73,.ptr 0 [])],[(72,.own 5),(74,.ptr 0 [.fld 8 8])]] false xAa rfl rfl ?_ ?_
      ·simp only[go_sem];exact zaM
      intro _;show At _ _ [(1,.ptr 1 [])] [.box 10 (.agg [.val qg f.1,.val qg f.2.1,.val qg f.2.2.1,.val qg f.2.2.2.1,.val .str f.2.2.2.2.1,.val .str f.2.2.2.2.2.1,.val .str f.2.2.2.2.2.2.1,.val .str f.2.2.2.2.2.2.2.1,.own 5,.own 3]),.box 3 (.val qk z.2),.dead,.row 69 qv f.2.2.2.2.2.2.2.2.2.1,.dead,.tre 63 qi qa (f.2.2.2.2.2.2.2.2.1++([(z.1,([]:List wV),([]:List we),([]:List qd),([]:List q9),())]:List qc))];(first|replace h:=lO h hq|replace h:=lO (Θ:=(· = r)) h hq);refine aGf hV (yaA ?_);refine aB h fun e hv h=>?_;rcases e with r_53|p_54
      ·(try dsimp only at h);simp only[hv,go_sem];obtain rfl:=aP h;refine gV (fU [0,1,5,3] rfl rfl (yaB ?_));exact zaZ
      ·(try dsimp only at h);simp only[hv,go_sem];(repeat (refine⟨zAB,?_⟩));obtain rfl:=aP h;refine aM (aJ 0 rfl aH) ?_;exact zae
     ·(try dsimp only at h);refine uQ hF (eT (l:=[(57,⟨mG F,[1],(L.2,.inr O)⟩)]) (.cons (tR F) xP (.nil))) [] [1] [6] [[0],[0],[64],[65],[66],[1],[68],[69],[70],[67,71],[63],[73],[72,74]] [(0,0),(1,0),(2,0),(3,0),(4,0),(5,0),(6,0)] [.ptr 0 [],.ptr 0 [],.ptr 0 [],.ptr 0 [.fld 8 8],.own 2,.ptr 1 [],.junk,.junk,.junk,.junk,.junk,.junk,.junk] [[.box 10 (.agg [.val qg f.1,.val qg f.2.1,.val qg f.2.2.1,.val qg f.2.2.2.1,.val .str f.2.2.2.2.1,.val .str f.2.2.2.2.2.1,.val .str f.2.2.2.2.2.2.1,.val .str f.2.2.2.2.2.2.2.1,.own 2,.own 3]),.box 3 (.val qk L.2),.tre 63 qi qa f.2.2.2.2.2.2.2.2.1,.row 69 qv f.2.2.2.2.2.2.2.2.2.1]] [[(0,.ptr 0 [])],[(0,.ptr 0 [])],[(64,.ptr 0 [])],[(65,.ptr 0 [])],[(66,.ptr 0 [.fld 8 8])],[(1,.ptr 1 [])],[(68,.ptr 1 [])],[(69,.junk)],[(70,.junk)],[(67,.own 2),(71,.junk)],[(63,.ptr 0 [])],[(73,.junk)],[(72,.junk),(74,.junk)]] true xAa rfl rfl ?_ ?_;rotate_left;exact fun h=>absurd h xAa;simp only[go_sem]
      (repeat' apply And.intro)<;>try (first|trivial|rfl|with_reducible assumption|omega|(intros; first|with_reducible assumption|omega)|(simp; done)|(simp at *; omega))
      (first|replace h:=lO h hq|replace h:=lO (Θ:=(· = r)) h hq);(try simp only[go_sem]);obtain rfl:=aP h;refine aM (aJ 0 rfl aH) ?_;refine aM (aJ 1 rfl aH) (yaA ?_);refine bS [0,1] rfl rfl (yaB ?_);refine bC rfl rfl rfl rfl
    ·(try dsimp only at h);simp only[hv,go_sem];(repeat (refine⟨zAB,?_⟩));obtain rfl:=aP h;refine aM (aJ 0 rfl aH) ?_;exact zae
   ·refine dS h (fun hc h=>?_) fun hc h=>?_
    ·refine aD h fun go h=>?_;refine bGy 2 ((f.2.2.2.2.2.2.2.2.1.length:Int)-(1:Int)).toNat rfl go rfl (yaA ?_);obtain⟨q0,h,hq⟩:=h;obtain⟨g0,h⟩:=bD h;(try simp only[I64,I32] at g0);obtain⟨g1,h⟩:=bD h;obtain⟨e,he2,h⟩:=bind_some h;rcases e with I|Y
     ·(try dsimp only at h);refine cJ hF (eT (l:=[(58,⟨aD9 F,[2,1,4,5,6,7],(f.2.2.2.2.2.2.2.2.1,((f.2.2.2.2.2.2.2.2.1.length:Int)-(1:Int)).toNat,((f.2.2.2.2.2.2.2.2.1.getD ((f.2.2.2.2.2.2.2.2.1.length:Int)-(1:Int)).toNat ([],[],[],[],[],())).1,(f.2.2.2.2.2.2.2.2.1.getD ((f.2.2.2.2.2.2.2.2.1.length:Int)-(1:Int)).toNat ([],[],[],[],[],())).2.1,(f.2.2.2.2.2.2.2.2.1.getD ((f.2.2.2.2.2.2.2.2.1.length:Int)-(1:Int)).toNat ([],[],[],[],[],())).2.2.1,(f.2.2.2.2.2.2.2.2.1.getD ((f.2.2.2.2.2.2.2.2.1.length:Int)-(1:Int)).toNat ([],[],[],[],[],())).2.2.2.1,(f.2.2.2.2.2.2.2.2.1.getD ((f.2.2.2.2.2.2.2.2.1.length:Int)-(1:Int)).toNat ([],[],[],[],[],())).2.2.2.2.1,()),N.2,.inl I)⟩)]) (.cons (aNE F) xP (.nil))) [] [] (yaF ?_);refine bGx 2 (I.1.1,I.1.2.1,I.1.2.2.1,I.1.2.2.2.1,I.1.2.2.2.2.1,()) [8,9,10,11] rfl (by first|rfl|(simp only[go_sem]; done)) rfl rfl (yaA ?_);(first|replace h:=lO h hq|replace h:=lO (Θ:=(· = r)) h hq);refine aGf hV (yaA ?_);obtain rfl:=aP h;refine gV (fU [0,1,2,3] rfl rfl (yaB ?_));exact zaZ
     ·(try dsimp only at h);refine cJ hF (eT (l:=[(58,⟨aD9 F,[2,1,4,5,6,7],(f.2.2.2.2.2.2.2.2.1,((f.2.2.2.2.2.2.2.2.1.length:Int)-(1:Int)).toNat,((f.2.2.2.2.2.2.2.2.1.getD ((f.2.2.2.2.2.2.2.2.1.length:Int)-(1:Int)).toNat ([],[],[],[],[],())).1,(f.2.2.2.2.2.2.2.2.1.getD ((f.2.2.2.2.2.2.2.2.1.length:Int)-(1:Int)).toNat ([],[],[],[],[],())).2.1,(f.2.2.2.2.2.2.2.2.1.getD ((f.2.2.2.2.2.2.2.2.1.length:Int)-(1:Int)).toNat ([],[],[],[],[],())).2.2.1,(f.2.2.2.2.2.2.2.2.1.getD ((f.2.2.2.2.2.2.2.2.1.length:Int)-(1:Int)).toNat ([],[],[],[],[],())).2.2.2.1,(f.2.2.2.2.2.2.2.2.1.getD ((f.2.2.2.2.2.2.2.2.1.length:Int)-(1:Int)).toNat ([],[],[],[],[],())).2.2.2.2.1,()),N.2,.inr Y)⟩)]) (.cons (aNE F) xP (.nil))) [] [] (yaF ?_);(first|replace h:=lO h hq|replace h:=lO (Θ:=(· = r)) h hq);(try simp only[go_sem]);obtain rfl:=aP h;refine aM (aJ 0 rfl aH) ?_;exact zae
    ·refine aB h fun e hv h=>?_;rcases e with r_57|p_58
     ·(try dsimp only at h);exact zaL
     ·(try dsimp only at h);exact zaA
def tS(F:Md)(g:qf)(f:wj):Option wj :=
 if ¬((f.length:Int)=(g.2.2.2.2.2.2.2.2.2.1.length:Int)) then some g.2.2.2.2.2.2.2.2.2.1 else some f
def mH(F:Md)(q:qf)(z:Int)(I:Int)(f:Int)(g:wj):Option ((Int×wj)⊕wj) :=
 if f<(q.2.2.2.2.2.2.2.2.2.1.length:Int) then ck (0≤f∧f<(q.2.2.2.2.2.2.2.2.2.1.length:Int)) (if (¬((q.2.2.2.2.2.2.2.2.2.1.getD (f.toNat) ([],[],[],[],())).1=(q.2.2.2.2.2.2.2.2.1.getD (z.toNat) ([],[],[],[],[],())).1))∨(¬((q.2.2.2.2.2.2.2.2.2.1.getD (f.toNat) ([],[],[],[],())).2.1=((q.2.2.2.2.2.2.2.2.1.getD (z.toNat) ([],[],[],[],[],())).2.2.2.1.getD (I.toNat) ([]:List Nat)))) then ck (I64 (f+(1:Int))) (some (.inl ((f+(1:Int)),g))) else ck (((g.length)+(1:Nat))*97≤140737488355328) (ck (I64 (f+(1:Int))) (some (.inl ((f+(1:Int)),(g++([(q.2.2.2.2.2.2.2.2.2.1.getD (f.toNat) ([],[],[],[],()))]:List qy))))))) else some (.inr g)
def mI(F:Md)(z:qf)(g:Int)(f:Int)(q:wj):Option ((Int×wj)⊕wj) :=
 if f<(((z.2.2.2.2.2.2.2.2.1.getD (g.toNat) ([],[],[],[],[],())).2.2.2.1.length:Nat):Int) then ck (0≤f∧f<(((z.2.2.2.2.2.2.2.2.1.getD (g.toNat) ([],[],[],[],[],())).2.2.2.1.length:Nat):Int)) ((dE F (fun d:Int×wj=>mH F z g f d.1 d.2) ((0:Int),q)).bind (fun e=>ck (I64 (f+(1:Int))) (some (.inl ((f+(1:Int)),e))))) else some (.inr q)
def mJ(F:Md)(q:qf)(f:Int)(g:wj):Option ((Int×wj)⊕wj) :=
 if f<(q.2.2.2.2.2.2.2.2.1.length:Int) then ck (0≤f∧f<(q.2.2.2.2.2.2.2.2.1.length:Int)) ((dE F (fun d:Int×wj=>mI F q f d.1 d.2) ((0:Int),g)).bind (fun e=>ck (I64 (f+(1:Int))) (some (.inl ((f+(1:Int)),e))))) else some (.inr g)
def fF(F:Md)(f:qf):Option wj :=
 (dE F (fun d:Int×wj=>mJ F f d.1 d.2) ((0:Int),([]:List qy))).bind (fun e=>tS F f e)
def aII:PlR:=⟨[(0,.B [1]),(1,.A [1,3]),(2,.A [1,3,11,12,13]),(3,.A [1,3,11,12,13,14]),(4,.B [1,3,5,11,12,13]),(5,.A [1,3,5,11,12,13,18,19,20]),(6,.A [1,3,5,11,12,13,18,19,20,21]),(7,.A [1,3,5,7,11,12,13,18,19,20]),(8,.A [1,3,5,7,11,12,13,18,19,20,25,26,27]),(9,.A [1,3,5,7,11,12,13,18,19,20,25,26,27,28]),(10,.B [1,3,5,7,9,11,12,13,18,19,20,25,26,27]),(11,.A [1,3,5,7,9,11,12,13,18,19,20,25,26,27,41]),(12,.B [1,3,5,7,11,12,13,18,19,20,25,26,27]),(13,.A [1,3,5,7,11,12,13,18,19,20,25,26,27]),(14,.A [1,3,5,11,12,13,18,19,20]),(15,.A [1,3,11,12,13]),(16,.A [1,3,54]),(17,.A [2]),(18,.A [2])],[(5,19)],[]⟩
def aKm:Ty:=.pair qe .unit
def aAO(F:Md):aF:=mSpec aKm (.one (.sl qv)) (fun x=>fF F x.1)
abbrev aTZ(F:Md):List (FuncId×aF):=[]
theorem aT0[Mx](F:Md):bF Tryz.prog GL (aTZ F):=.nil
attribute [go_sem] aKm aII
theorem aRV[Mx](F:Md):FOK Tryz.prog GL 22 (aAO F):=by
 refine bQ (aZ (aT0 F)) mix Tryz.func22 rfl xP xAa aII (fun w0 S x Θ hw h hV=>?_);obtain⟨(g:qf),u⟩:=x;simp only[cA,go_sem];replace h:sat (fF F g) _:=h;unfold fF at h;refine dB hV (D:=wj) (fun d=>sat (tS F g d) Θ) [] (fun d=>[(1,.ptr 0 []),(3,.own 1)]) (fun d=>[.inr (.box 10 (.val qe g)),.inr (.row 69 qv d)]) ?_ ?_
 ·simp only[go_sem];refine aGa 3 69 qv rfl (yaA ?_);refine bP hV (D:=Int×wj) [11,12] (fun d=>[(1,.ptr 0 []),(3,.own 1),(13,.val qg d.1)]) (fun d=>[.inr (.box 10 (.val qe g)),.inr (.row 69 qv d.2)]) h rfl xAb ?_;rintro⟨f,z⟩ A3 T3 U Z h;simp only[go_sem];replace h:sat (mJ F g f z) _:=h;unfold mJ at h;refine dS h (fun hc h=>?_) fun hc h=>?_
  ·refine aD h fun g0 h=>(yaC ?_);refine bP hV (D:=Int×wj) [11,12,13,18,19] (fun d=>[(1,.ptr 0 []),(3,.own 1),(5,.ptr 2 []),(20,.val qg d.1)]) (fun d=>[.inr (.box 10 (.val qe g)),.inr (.row 69 qv d.2),.inr (.box 5 (.val qa (g.2.2.2.2.2.2.2.2.1.getD (f.toNat) ([],[],[],[],[],()))))]) h rfl xAb ?_;rintro⟨q,L⟩ A6 T6 hA6 hE6 h;simp only[go_sem];replace h:sat (mI F g f q L) _:=h;unfold mI at h;refine dS h (fun hc h=>?_) fun hc h=>?_
   ·refine aD h fun g0 h=>(yaC ?_);refine bP hV (D:=Int×wj) [7,11,12,13,18,19,20,25,26] (fun d=>[(1,.ptr 0 []),(3,.own 1),(5,.ptr 2 []),(27,.val qg d.1)]) (fun d=>[.inr (.box 10 (.val qe g)),.inr (.row 69 qv d.2),.inr (.box 5 (.val qa (g.2.2.2.2.2.2.2.2.1.getD (f.toNat) ([],[],[],[],[],()))))]) h rfl xAb ?_;rintro⟨J,I⟩ A9 T9 O Y h;simp only[go_sem];replace h:sat (mH F g f q J I) _:=h;unfold mH at h;refine dS h (fun hc h=>?_) fun hc h=>?_
    ·refine aD h fun g0 h=>(yaC ?_);refine⟨fun hc=>?_,fun hc=>?_⟩
     ·replace h:=fQ hc h;refine aK h fun g0 h=>?_;replace h:=O _ (aA h);refine fU [0,1,2] rfl rfl (yaA ?_);exact zaI
     ·replace h:=fR hc h;refine aD h fun g0 h=>(yaC ?_);refine aK h fun g0 h=>?_;replace h:=O _ (aA h);refine fU [0,4,2] rfl rfl (yaA ?_);exact zaI
    ·replace h:=yaG (Y _ (aA h));refine aK h fun g0 h=>?_;replace h:=hA6 _ (aA h);exact zaI
   ·replace h:=yaG (hE6 _ (aA h));refine aK h fun g0 h=>?_;replace h:=U _ (aA h);refine fU [0,1] rfl rfl (yaA ?_);exact zaI
  ·replace h:=yaG (Z _ (aA h));exact aT (z) h rfl xAb
 ·rintro N h;simp only[go_sem];replace h:sat (tS F g N) _:=h;unfold tS at h;refine cE h (fun hc h=>?_) fun hc h=>?_
  ·exact aG hV [.tmp 2] rfl rfl rfl (aA h) xAc
  ·exact aG hV [.tmp 2] rfl rfl rfl (aA h) xAc
attribute [go_sem] aAO
def yI:fH where
 D:=qf×(Int×qp)×Int×Unit
 av:=fun _=>[.ptr 0 [],.ptr 1 [],.ptr 2 []]
 hp:=fun d=>[.box 10 (.val qe d.1),.box 2 (.val vf d.2.1),.box 1 (.val qg d.2.2.1)]
 m:=3
 pre:=fun _=>True
 out:=fun d=>.ret (.tup []) [.box 10 (.val qe d.1),.box 2 (.val vf d.2.1),.box 1 (.val qg d.2.2.1)]
def fG(x:wc):fH where
 D:=Unit
 av:=fun _=>[.ptr 0 [],.ptr 1 [],.ptr 2 []]
 hp:=fun _=>[.box 10 .junk,.box 2 .junk,.box 1 .junk]
 m:=3
 pre:=fun _=>True
 out:=fun _=>.ret (.tup []) [.box 10 (.val qe ((0:Int),(0:Int),(0:Int),(0:Int),([]:List Nat),([]:List Nat),([]:List Nat),([]:List Nat),([]:List qc),([]:List qy),())),.box 2 (.val vf (x).1),.box 1 (.val qg (6:Int))]
theorem aRW[Mx]:DOK Tryz.prog GL 15 none yI:=by
 refine aQW (aZ aDi) Tryz.func15 rfl xP (fun _=>Nat.le_of_ble_eq_true rfl) rfl fun c w d q f hp I=>?_;have hF:uP ⟨Tryz.prog,EM [],GM yI c d,w,Tryz.f15.ntmps,[]⟩:=⟨aZ aDi,mix⟩;obtain⟨d0,g,z,J⟩:=d;show xX _ _ _ [(6,.val .nili ()),(0,.ptr 0 []),(1,.ptr 1 []),(2,.ptr 2 [])] [.box 10 (.val qe d0),.box 2 (.val vf g),.box 1 (.val qg z)] _;exact zat
theorem aAP[Mx](x:wc):DOK Tryz.prog GL 15 (some ⟨45,wg,x⟩) (fG x):=by
 refine aQW (aZ aDi) Tryz.func15 rfl xP (fun _=>Nat.le_of_ble_eq_true rfl) rfl fun c w d g f hp q=>?_;have hF:uP ⟨Tryz.prog,EM [],GM (fG x) c d,w,Tryz.f15.ntmps,[]⟩:=⟨aZ aDi,mix⟩;show xX _ _ _ [(6,.val (.ifc 45 wg) x),(0,.ptr 0 []),(1,.ptr 1 []),(2,.ptr 2 [])] [.box 10 .junk,.box 2 .junk,.box 1 .junk] _;simp only[go_sem];refine aL (aQ hF [0,1,2,3,10] (yaA ?_));refine aN (cS rfl (fun hc=>?_) (fun hc=>absurd hc xAa));refine aG5 hF [] [] [.box 10 (.val qe ((0:Int),(0:Int),(0:Int),(0:Int),([]:List Nat),([]:List Nat),([]:List Nat),([]:List Nat),([]:List qc),([]:List qy),())),.box 2 (.val vf (x).1),.box 1 (.val qg (6:Int)),.box 2 (.val wg x)] xAa ?_ ?_
 ·simp only[go_sem];exact zaU
 refine fU [0,1,2] rfl rfl (yaB ?_);exact zaY
def wS(F:Md)(Y:Int)(I:Int)(g:Int)(z:Int)(O:Int)(L:qd)(f:qd)(q:qd)(J:qd)(N:vm)(U:wj):Option (qf×((Int×qp)×qp)) :=
 ck ((fF F (I,g,z,O,L,f,q,J,N,U,())).isSome=true) (ck (¬(Y<(7:Int))→((iQ F (I,g,z,O,L,f,q,J,N,((fF F (I,g,z,O,L,f,q,J,N,U,())).getD ([]:List qy)),())).isSome=true)) (if (Y<(7:Int))∨(¬(((iQ F (I,g,z,O,L,f,q,J,N,((fF F (I,g,z,O,L,f,q,J,N,U,())).getD ([]:List qy)),())).getD false)=true)) then some (((0:Int),(0:Int),(0:Int),(0:Int),([]:List Nat),([]:List Nat),([]:List Nat),([]:List Nat),([]:List qc),([]:List qy),()),(((0:Int),(0:Int),()),()).1,(6:Int),()) else some ((I,g,z,O,L,f,q,J,N,((fF F (I,g,z,O,L,f,q,J,N,U,())).getD ([]:List qy)),()),((0:Int),(0:Int),()),(0:Int),())))
def mV(F:Md)(z:qd)(I:Int)(f:Int)(U:Int)(s_94:Int)(Y:Int)(s_96:Int)(s_97:qd)(Z:qd)(s_99:qd)(N:qd)(L:vm)(J:wj):Option ((Int×Int×Int×Int×Int×Int×qd×qd×qd×qd×vm×wj)⊕((Int×Int×Int×Int×Int×qd×qd×qd×qd×vm×wj)⊕wc)) :=
 if f<(((yY z (aR ⟨#[10]⟩)).length:Nat):Int) then ck (0≤f∧f<(((yY z (aR ⟨#[10]⟩)).length:Nat):Int)) (ck (aXA ((yY z (aR ⟨#[10]⟩)).getD (f.toNat) ([]:List Nat)) (aR ⟨#[35]⟩)) (ck (I64 (f+(1:Int))) (ck ((iS F (aA5 ((yY z (aR ⟨#[10]⟩)).getD (f.toNat) ([]:List Nat)) (aR ⟨#[35]⟩)).1 (aR ⟨#[32]⟩)).isSome=true) ((eJ F ((f+(1:Int)),(0:Int),((iS F (aA5 ((yY z (aR ⟨#[10]⟩)).getD (f.toNat) ([]:List Nat)) (aR ⟨#[35]⟩)).1 (aR ⟨#[32]⟩)).getD ([]:List Nat)),())).bind (fun O=>if O.1=(aR ⟨#[]⟩) then ck (I64 (f+(1:Int))) (some (.inl (I,(f+(1:Int)),U,s_94,Y,s_96,s_97,Z,s_99,N,L,J))) else if I<(7:Int) then (aAM F I (U,s_94,Y,s_96,s_97,Z,s_99,N,L,J,()) O.2).bind (fun e=>match e with| .inl q=>ck (I64 (I+(1:Int))) (ck (I64 (f+(1:Int))) (some (.inl ((I+(1:Int)),(f+(1:Int)),q.1.1,q.1.2.1,q.1.2.2.1,q.1.2.2.2.1,q.1.2.2.2.2.1,q.1.2.2.2.2.2.1,q.1.2.2.2.2.2.2.1,q.1.2.2.2.2.2.2.2.1,q.1.2.2.2.2.2.2.2.2.1,q.1.2.2.2.2.2.2.2.2.2.1))))| .inr p_175=>some (.inr (.inr p_175))) else (qG F (U,s_94,Y,s_96,s_97,Z,s_99,N,L,J,()) O.2).bind (fun e=>match e with| .inl g=>ck (I64 (I+(1:Int))) (ck (I64 (f+(1:Int))) (some (.inl ((I+(1:Int)),(f+(1:Int)),g.1.1,g.1.2.1,g.1.2.2.1,g.1.2.2.2.1,g.1.2.2.2.2.1,g.1.2.2.2.2.2.1,g.1.2.2.2.2.2.2.1,g.1.2.2.2.2.2.2.2.1,g.1.2.2.2.2.2.2.2.2.1,g.1.2.2.2.2.2.2.2.2.2.1))))| .inr p_177=>some (.inr (.inr p_177)))))))) else some (.inr (.inl (I,U,s_94,Y,s_96,s_97,Z,s_99,N,L,J)))
def sM(F:Md)(f:qd):Option (qf×((Int×qp)×qp)) :=
 if (20000:Int)<(f.length:Int) then some (((0:Int),(0:Int),(0:Int),(0:Int),([]:List Nat),([]:List Nat),([]:List Nat),([]:List Nat),([]:List qc),([]:List qy),()),(((0:Int),(0:Int),()),()).1,(6:Int),()) else ck (aXA f (aR ⟨#[10]⟩)) ((dE F (fun d:Int×Int×Int×Int×Int×Int×qd×qd×qd×qd×vm×wj=>mV F f d.1 d.2.1 d.2.2.1 d.2.2.2.1 d.2.2.2.2.1 d.2.2.2.2.2.1 d.2.2.2.2.2.2.1 d.2.2.2.2.2.2.2.1 d.2.2.2.2.2.2.2.2.1 d.2.2.2.2.2.2.2.2.2.1 d.2.2.2.2.2.2.2.2.2.2.1 d.2.2.2.2.2.2.2.2.2.2.2) ((0:Int),(0:Int),(0:Int),(0:Int),(0:Int),(0:Int),([]:List Nat),([]:List Nat),([]:List Nat),([]:List Nat),([]:List qc),([]:List qy))).bind (fun e=>match e with|(.inl e)=>wS F e.1 e.2.1 e.2.2.1 e.2.2.2.1 e.2.2.2.2.1 e.2.2.2.2.2.1 e.2.2.2.2.2.2.1 e.2.2.2.2.2.2.2.1 e.2.2.2.2.2.2.2.2.1 e.2.2.2.2.2.2.2.2.2.1 e.2.2.2.2.2.2.2.2.2.2|(.inr e)=>some (((0:Int),(0:Int),(0:Int),(0:Int),([]:List Nat),([]:List Nat),([]:List Nat),([]:List Nat),([]:List qc),([]:List qy),()),(e).1,(6:Int),())))
@[go_sem]def aEa:Ty:=.pair .str .unit
def aDb(F:Md):aF:=mSpec aEa (.tup (.pair qe (.pair vf qm))) (fun x=>sM F x.1)
abbrev sN(F:Md):List (FuncId×aF):=[(16,aAK),(17,qE),(18,(vG F)),(22,(aAO F)),(8,(uZ F))]
theorem aNF[Mx](F:Md):bF Tryz.prog GL (sN F):=.cons aRS xP (.cons aGv xP (.cons (aL0 F) xP (.cons (aRV F) xP (.cons (aJA F) xP (.nil)))))
theorem aWn[Mx](F:Md):FOK Tryz.prog GL 7 (aDb F):=by
 refine aI6 (bA8 (aNF F)) Tryz.func7 rfl xP xAa fun w0 S x r hw h=>?_;have hF:uP (fr Tryz.prog (EX (sN F)) S w0 Tryz.f7.ntmps):=⟨bA8 (aNF F),mix⟩;obtain⟨(text_0:qd),u⟩:=x;simp only[aEa,Ty.wf,aF8] at hw;simp only[cA,aEa];try dsimp only at h
 replace h:sM F text_0=some r:=h;unfold sM at h;refine aL (dH hF [0,2,3,4] (yaE ?_));refine aN (aXU (aDR 3 [0,1,2] rfl rfl (Nat.zero_le _) xAa fun roots hroots=>(yaA ?_)));have hF:uP { fr Tryz.prog (EX (sN F)) S w0 Tryz.f7.ntmps with M:=⟨nothing,S,3,roots⟩,ds:=[⟨.fn (.func 15) ([0,1,2].map roots).toArray,#[]⟩] }:=⟨hF.env,mix⟩;refine aL (aL (aQ hF [0,2,3,4,12] (yaE ?_)));refine aN (cS rfl (fun hc=>?_) (fun hc=>?_))
 ·try simp only[go_sem] at hc
  have h:=oD zAC h;refine cJ hF (eT (l:=[]) (.nil)) [0,2,3,4] [] (yaE ?_);exact zaV
 ·try simp only[go_sem] at hc
  have h:=nB zAC h;refine eC (aN (aL (aQ hF [0,2,3,4,5] (yaE ?_))));refine aN (aL (aXN (aN (aBZ (D:=Int×Int×Int×Int×Int×qd×qd×qd×qd×vm×wj) (fun d=>wS F d.1 d.2.1 d.2.2.1 d.2.2.2.1 d.2.2.2.2.1 d.2.2.2.2.2.1 d.2.2.2.2.2.2.1 d.2.2.2.2.2.2.2.1 d.2.2.2.2.2.2.2.2.1 d.2.2.2.2.2.2.2.2.2.1 d.2.2.2.2.2.2.2.2.2.2=some r) [] (fun d=>[(2,.ptr 0 []),(3,.ptr 1 []),(4,.ptr 2 []),(5,.val qg d.1)]) (fun d=>[.inr (.box 10 (.agg [.val qg d.2.1,.val qg d.2.2.1,.val qg d.2.2.2.1,.val qg d.2.2.2.2.1,.val .str d.2.2.2.2.2.1,.val .str d.2.2.2.2.2.2.1,.val .str d.2.2.2.2.2.2.2.1,.val .str d.2.2.2.2.2.2.2.2.1,.own 3,.own 4])),.inr (.box 2 (.val vf ((0:Int),(0:Int),()))),.inr (.box 1 (.val qg (0:Int))),.inr (.tre 63 qi qa d.2.2.2.2.2.2.2.2.2.1),.inr (.row 69 qv d.2.2.2.2.2.2.2.2.2.2)]) ?_ ?_))))
  ·refine aL (aQ hF [2,3,4,5,16,17,18] (yaA ?_));obtain⟨g0,h⟩:=bD h;(repeat (refine⟨zAA,?_⟩));refine aN (oV (aVc 0 8 63 qi qa rfl rfl rfl (yaA ?_)));refine aVc 0 9 69 .no qv rfl rfl rfl (yaA ?_);refine aFW (D:=Int×Int×Int×Int×Int×Int×qd×qd×qd×qd×vm×wj) [16,17] (fun d=>[(2,.ptr 0 []),(3,.ptr 1 []),(4,.ptr 2 []),(5,.val qg d.1),(18,.val qg d.2.1)]) (fun d=>[.inr (.box 10 (.agg [.val qg d.2.2.1,.val qg d.2.2.2.1,.val qg d.2.2.2.2.1,.val qg d.2.2.2.2.2.1,.val .str d.2.2.2.2.2.2.1,.val .str d.2.2.2.2.2.2.2.1,.val .str d.2.2.2.2.2.2.2.2.1,.val .str d.2.2.2.2.2.2.2.2.2.1,.own 3,.own 4])),.inr (.box 2 (.val vf ((0:Int),(0:Int),()))),.inr (.box 1 (.val qg (0:Int))),.inr (.tre 63 qi qa d.2.2.2.2.2.2.2.2.2.2.1),.inr (.row 69 qv d.2.2.2.2.2.2.2.2.2.2.2)]) h ?_ ?_ ?_
   ·first|rfl|(simp only[go_sem]; done)
   ·exact zAI
   rintro⟨k_91,q,Y,s_94,s_95,Z,U,O,s_99,J,I,z⟩ s6 h L;simp only[go_sem];(try dsimp only at h);unfold mV at h;refine aL (aQ hF [2,3,4,5,16,17,18,19] (yaE ?_));refine aN (aL (cS rfl (fun hc=>?_) (fun hc=>?_)))
   ·(try simp only[go_sem] at hc);have h:=oD zAC h;refine eC (aN (aL (oV (aL (aQ hF [2,3,4,5,6,7,16,17,18] (yaA ?_))))));obtain⟨g0,h⟩:=bD h;(repeat (refine⟨zAA,?_⟩));refine aN (aL (aQ hF [2,3,4,5,6,7,16,17,18] (yaA ?_)));obtain⟨g0,h⟩:=bD h;(repeat (refine⟨zAA,?_⟩));refine aN (aL (dH hF [2,3,4,5,8,16,17,18] (yaA ?_)));obtain⟨g0,h⟩:=bD h;(try simp only[I64,I32] at g0);(repeat (refine⟨zAA,?_⟩));obtain⟨g0,h⟩:=bD h;(repeat (refine⟨zAA,?_⟩));obtain⟨N,he1,h⟩:=bind_some h;(try dsimp only at h);refine aN (aL (aL (cJ hF (eT (l:=[(19,⟨xT F,[5],(((q+(1:Int)),(0:Int),((iS F (aA5 ((yY text_0 (aR ⟨#[10]⟩)).getD (q.toNat) ([]:List Nat)) (aR ⟨#[35]⟩)).1 (aR ⟨#[32]⟩)).getD ([]:List Nat)),()),N)⟩)]) (.cons (tQ F) xP (.nil))) [2,3,4,5,8,16,17,18,37] [] (yaE ?_))));refine aN (cS rfl (fun hc=>?_) (fun hc=>?_))
    ·(try simp only[go_sem] at hc);have h:=oD zAC h;refine aEh (kJ (pK (aN (aQ hF [2,3,4,5,16,17,18] (yaA ?_)))));obtain⟨g0,h⟩:=bD h;(try simp only[I64,I32] at g0);(repeat (refine⟨zAA,?_⟩));obtain rfl:=Option.some.inj h;dsimp only[aA9] at L;refine dQ (fU [0,1,2,3,4] rfl rfl (yaB ?_));refine aT (k_91,(q+(1:Int)),Y,s_94,s_95,Z,U,O,s_99,J,I,z) L rfl ?_
     ·exact zAI
    ·(try simp only[go_sem] at hc);have h:=nB zAC h;refine eC (aN (aL (aL (aQ hF [2,3,4,5,8,16,17,18,39] (yaE ?_)))));refine aN (cS rfl (fun hc=>?_) (fun hc=>?_))
     ·(try simp only[go_sem] at hc);have h:=oD zAC h;obtain⟨e,he2,h⟩:=bind_some h;rcases e with f|p_175
      ·(try dsimp only at h);refine cJ hF (eT (l:=[(20,⟨aD8 F,[0,5,3,4],(k_91,(Y,s_94,s_95,Z,U,O,s_99,J,I,z,()),N.2,.inl f)⟩)]) (.cons (aNC F) xP (.nil))) [2,3,4,5,16,17,18] [] (yaF ?_);refine aN (aQ hF [2,3,4,5,16,17,18] (yaA ?_));obtain⟨g0,h⟩:=bD h;(try simp only[I64,I32] at g0);(repeat (refine⟨zAA,?_⟩));refine pJ (aN (aQ hF [2,3,4,5,16,17,18] (yaA ?_)));obtain⟨g0,h⟩:=bD h;(try simp only[I64,I32] at g0);(repeat (refine⟨zAA,?_⟩));obtain rfl:=Option.some.inj h;dsimp only[aA9] at L;refine dQ (fU [0,1,2,6,7] rfl rfl (yaB ?_));refine aT ((k_91+(1:Int)),(q+(1:Int)),f.1.1,f.1.2.1,f.1.2.2.1,f.1.2.2.2.1,f.1.2.2.2.2.1,f.1.2.2.2.2.2.1,f.1.2.2.2.2.2.2.1,f.1.2.2.2.2.2.2.2.1,f.1.2.2.2.2.2.2.2.2.1,f.1.2.2.2.2.2.2.2.2.2.1) L rfl ?_
       ·exact zAI
      ·(try dsimp only at h);refine cJ hF (eT (l:=[(20,⟨aD8 F,[0,5,3,4],(k_91,(Y,s_94,s_95,Z,U,O,s_99,J,I,z,()),N.2,.inr p_175)⟩)]) (.cons (aNC F) xP (.nil))) [2,3,4,5,16,17,18] [] (yaF ?_);obtain rfl:=Option.some.inj h;dsimp only[aA9] at L;have h:=yaG (L);obtain rfl:=Option.some.inj h;refine iX (aDB (iX (iX (aDB (iX (aMy (aM (aJ 0 rfl aH) ?_)))))));refine aM (aJ 1 rfl aH) ?_;refine aM (aJ 2 rfl aH) (yaA ?_);refine aFs (fn:=Tryz.f7) (k:=3) (l2:=[0,1,2]) hF rfl rfl xAa rfl (xC xP) ⟨fG (p_175),[0,1,2],()⟩ (aAP (p_175)) rfl [.cell 2 27,.cell 3 29,.cell 4 3] rfl ?_ ?_
       ·(simp only[fG,go_sem])<;>first|decide|trivial
       ·(simp only[fG,aS,mA,go_sem])<;>first|decide|trivial|rfl|(simp; done)
     ·(try simp only[go_sem] at hc);have h:=nB zAC h;obtain⟨e,he3,h⟩:=bind_some h;rcases e with g|p_177
      ·(try dsimp only at h);refine cJ hF (eT (l:=[(21,⟨aBF F,[0,5,3,4],((Y,s_94,s_95,Z,U,O,s_99,J,I,z,()),N.2,.inl g)⟩)]) (.cons (aKl F) xP (.nil))) [2,3,4,5,16,17,18] [] (yaF ?_);refine aN (aQ hF [2,3,4,5,16,17,18] (yaA ?_));obtain⟨g0,h⟩:=bD h;(try simp only[I64,I32] at g0);(repeat (refine⟨zAA,?_⟩));refine pJ (aN (aQ hF [2,3,4,5,16,17,18] (yaA ?_)));obtain⟨g0,h⟩:=bD h;(try simp only[I64,I32] at g0);(repeat (refine⟨zAA,?_⟩));obtain rfl:=Option.some.inj h;dsimp only[aA9] at L;refine dQ (fU [0,1,2,6,7] rfl rfl (yaB ?_));refine aT ((k_91+(1:Int)),(q+(1:Int)),g.1.1,g.1.2.1,g.1.2.2.1,g.1.2.2.2.1,g.1.2.2.2.2.1,g.1.2.2.2.2.2.1,g.1.2.2.2.2.2.2.1,g.1.2.2.2.2.2.2.2.1,g.1.2.2.2.2.2.2.2.2.1,g.1.2.2.2.2.2.2.2.2.2.1) L rfl ?_
       ·exact zAI
      ·(try dsimp only at h);refine cJ hF (eT (l:=[(21,⟨aBF F,[0,5,3,4],((Y,s_94,s_95,Z,U,O,s_99,J,I,z,()),N.2,.inr p_177)⟩)]) (.cons (aKl F) xP (.nil))) [2,3,4,5,16,17,18] [] (yaF ?_);obtain rfl:=Option.some.inj h;dsimp only[aA9] at L;have h:=yaG (L);obtain rfl:=Option.some.inj h;refine iX (aDB (iX (iX (aDB (iX (aMy (aM (aJ 0 rfl aH) ?_)))))));refine aM (aJ 1 rfl aH) ?_;refine aM (aJ 2 rfl aH) (yaA ?_);refine aFs (fn:=Tryz.f7) (k:=3) (l2:=[0,1,2]) hF rfl rfl xAa rfl (xC xP) ⟨fG (p_177),[0,1,2],()⟩ (aAP (p_177)) rfl [.cell 2 27,.cell 3 29,.cell 4 3] rfl ?_ ?_
       ·(simp only[fG,go_sem])<;>first|decide|trivial
       ·(simp only[fG,aS,mA,go_sem])<;>first|decide|trivial|rfl|(simp; done)
   ·(try simp only[go_sem] at hc);have h:=nB zAC h;obtain rfl:=Option.some.inj h;dsimp only[aA9] at L;have h:=yaG (L);refine aEh (kJ (kJ (pK (dQ (aT (k_91,Y,s_94,s_95,Z,U,O,s_99,J,I,z) h rfl ?_)))))
    ·exact zAI
  ·rintro⟨k_66,s_67,s_68,s_69,s_70,s_71,s_72,s_73,s_74,x_75,x_76⟩ h;(try dsimp only at h);simp only[go_sem];unfold wS at h;refine aL (dH hF [2,3,4,5] (yaA ?_));obtain⟨g0,h⟩:=bD h;(repeat (refine⟨zAA,?_⟩));refine aN (aL (aL (aQ hF [2,3,4,57] (yaA ?_))));obtain⟨g0,h⟩:=bD h;(repeat (refine⟨by first|with_reducible assumption|omega|(intros; first|with_reducible assumption|omega)|(simp only[go_sem] at *; first|with_reducible assumption|omega)|(intro _; exact⟨rfl,by decide⟩)|(intro _; refine(?_:_=aI _); rfl)|(refine(?_:_=aI _); rfl)|exact⟨rfl,rfl⟩|(intro q0; (try have e0:=g0 (by first|exact q0|omega|(simpa using q0))); first|assumption|omega)|decide,?_⟩));refine aN (cS rfl (fun hc=>?_) (fun hc=>?_))
   ·(try simp only[go_sem] at hc);have h:=oD zAC h;refine cJ hF (eT (l:=[]) (.nil)) [2,3,4] [] (yaE ?_);exact zaV
   ·(try simp only[go_sem] at hc);have h:=nB zAC h;refine eC (aN (aL (dH hF [2,3,4] (yaE ?_))));refine aN (gU (aYR (bFu (bJU 0 (t:=qe) (s_67,s_68,s_69,s_70,s_71,s_72,s_73,s_74,x_75,((fF F (s_67,s_68,s_69,s_70,s_71,s_72,s_73,s_74,x_75,x_76,())).getD ([]:List qy)),()) rfl (by first|rfl|(simp only[go_sem]; done)) aH) (yaA ?_))));obtain rfl:=Option.some.inj h;refine aUb (fn:=Tryz.f7) (k:=3) (l2:=[0,1,2]) hF rfl rfl xAa rfl (xC xP) ⟨yI,[0,1,2],((s_67,s_68,s_69,s_70,s_71,s_72,s_73,s_74,x_75,((fF F (s_67,s_68,s_69,s_70,s_71,s_72,s_73,s_74,x_75,x_76,())).getD ([]:List qy)),()),((0:Int),(0:Int),()),(0:Int),())⟩ aRW rfl [.cell 2 27,.cell 3 29,.cell 4 3] rfl ?_ ?_
    ·(simp only[yI,go_sem])<;>first|decide|trivial
    ·(simp only[yI,aS,mA,go_sem])<;>first|decide|trivial|rfl|(simp; done)
attribute [go_sem] aDb
theorem bL0:aFL (some 1000)=some true:=by kernel_rfl
def aQl:Bool:=true
@[go_sem]def aEb:aF:=⟨aJH,.one .bool,fun _=>True,fun _=>aQl⟩
theorem aXB[Mx][Mx]:FOK Tryz.prog GL 11 aEb:=jJ (aXw (some 1000)) (fun _ _ _=>bL0)
def rJ(F:Md)(g:qf):Option Bool :=
 (aCk F g).bind (fun q=>ck (¬(¬(q=true))→((iQ F g).isSome=true)) (if (¬(q=true))∨(¬(((iQ F g).getD false)=true)) then some aQl else (lT F g).bind (fun f=>if ¬(f.2.1=(0:Int)) then some false else if (20000:Int)<(f.1.length:Int) then some aQl else (sM F f.1).bind (fun v_13=>ck (¬((¬(v_13.2.2.1=(0:Int)))∨(¬((Ty.eqb vf v_13.2.1 ((0:Int),(0:Int),()))=true)))→((rY F v_13.1 g).isSome=true)) (if ((¬(v_13.2.2.1=(0:Int)))∨(¬((Ty.eqb vf v_13.2.1 ((0:Int),(0:Int),()))=true)))∨(¬(((rY F v_13.1 g).getD false)=true)) then some false else (lT F v_13.1).bind (fun v_17=>some ((aQl&&(decide (v_17.2.1=(0:Int))))&&(decide (v_17.1=f.1)))))))))
def aER:PlR:=⟨[(0,.B [1]),(1,.A [1,17]),(2,.A [2]),(3,.A [1,3,4]),(4,.A [1,3,25]),(5,.A [2]),(6,.A [1,3,28]),(7,.A [2]),(8,.B [1,3,5,6,7]),(9,.A [3,5,48]),(10,.A [2]),(11,.A [3,8,9]),(12,.A [2])],[],[]⟩
def vV:Ty:=.pair qe .unit
def aES(F:Md):aF:=mSpec vV (.one .bool) (fun x=>rJ F x.1)
abbrev lB(F:Md):List (FuncId×aF):=[(10,(aFK F)),(11,aEb),(12,(wP F)),(7,(aDb F)),(8,(uZ F)),(9,(aD3 F))]
theorem aMV[Mx](F:Md):bF Tryz.prog GL (lB F):=.cons (aZS F) xP (.cons aXB xP (.cons (aLV F) xP (.cons (aWn F) xP (.cons (aJA F) xP (.cons (aXm F) xP (.nil))))))
attribute [go_sem] vV aER
theorem aMd[Mx](F:Md):FOK Tryz.prog GL 4 (aES F):=by
 refine bQ (aZ (aMV F)) mix Tryz.func4 rfl xP xAa aER (fun w0 S x Θ z h hV=>?_);obtain⟨(f:qf),u⟩:=x;simp only[cA,go_sem];replace h:sat (rJ F f) _:=h;unfold rJ at h;refine aB h fun q hv h=>?_;try simp only[hv,go_sem]
 refine aD h fun g0 h=>?_;repeat (refine⟨zAF,?_⟩)
 refine⟨fun hc=>?_,fun hc=>?_⟩
 ·replace h:=fQ zAC h;exact zaE
 ·replace h:=fR zAC h;refine aB h fun g hv h=>?_;try simp only[hv,go_sem]
  refine cE h (fun hc h=>?_) fun hc h=>?_
  ·exact aG hV [.tmp 2] rfl rfl rfl (aA h) xAc
  ·refine dS h (fun hc h=>?_) fun hc h=>?_
   ·exact aG hV [.tmp 2] rfl rfl rfl (aA h) xAc
   ·refine aB h fun v_13 hv h=>?_;(try simp only[hv,go_sem]);refine aD h fun g0 h=>?_;(repeat (refine⟨zAF,?_⟩));refine⟨fun hc=>?_,fun hc=>?_⟩
    ·replace h:=fQ zAC h;exact zaE
    ·replace h:=fR zAC h;refine aB h fun v_17 hv h=>?_;(try simp only[hv,go_sem]);exact zaE
attribute [go_sem] aES
def oR(c:Nat):Bool:=decide (48≤c∧c≤57)
def cL(s:List Nat)(i:Nat):Nat:=((s.drop i).takeWhile oR).length
theorem bK5{p:Nat→Bool}:∀(l:List Nat) (n:Nat),n≤(l.takeWhile p).length→(n<(l.takeWhile p).length↔n<l.length∧p (l.getD n 0)=true)
 | [],n,h=>by simp
 | x::r,n,h=>by
  by_cases hp:p x=true
  ·rw[List.takeWhile_cons_of_pos hp] at h ⊢;cases n with
   | zero=>simp[hp]
   | succ n =>
    have:=bK5 (p:=p) r n (by simp_all);simp_all
  simp_all
theorem vW(s:List Nat)(i:Nat):cL s i≤s.length-i:=by
 have:=(List.takeWhile_prefix (p:=oR) (l:=s.drop i)).length_le;rw[List.length_drop] at this;exact this
theorem aAQ(s:List Nat)(i:Nat)(hs:s.length≤9223372036854775807)(hi:i≤9223372036854775807):nL none s (i:Int)=some (cL s i:Int):=by
 have hd:=vW s i;unfold nL;refine bA (aCz (step:=fun d:Int=>qY none (i:Int) s d) (I:=fun n=>0≤n∧n≤cL s i) (fun n=>((cL s i:Int)-n).toNat) (fun _=>(cL s i:Int)) ?_ 0 ⟨by omega,by omega⟩) rfl;rintro n ⟨g,L⟩;obtain⟨k,rfl⟩:=Int.eq_ofNat_of_zero_le g;show (∃d',qY none (i:Int) s k=_∧_)∨qY none (i:Int) s k=_;have e:((i:Int)+(k:Int)).toNat=i+k:=by omega
 have z:s.getD (i+k) 0=(s.drop i).getD k 0:=by simp_all
 have ht:=bK5 (p:=oR) (s.drop i) k (by grind[cL]);have ht:k<cL s i↔i+k<s.length∧48≤s.getD (i+k) 0∧s.getD (i+k) 0≤57:=by
  rw[z];refine ht.trans ?_;rw[List.length_drop,oR,decide_eq_true_iff];omega
 unfold qY;rw[e];by_cases f:k<cL s i
 ·left
  obtain⟨N,J,q⟩:=ht.1 f;refine⟨(k:Int)+1,?_,⟨by omega,by omega⟩,by omega,rfl⟩;refine aE (by omega) (aE (fun _=>by omega) (aE (fun _=>by omega) (aE (fun _=>by omega) (aE (fun _=>by omega) ?_))));rw[if_pos ⟨⟨by omega,J⟩,q⟩];exact aE (by omega) rfl
 ·right
  refine aE (by omega) (aE (fun _=>by omega) (aE (fun _=>by omega) (aE (fun _=>by omega) (aE (fun _=>by omega) ?_))));grind
theorem bMR{a b:Nat}(f:a<256)(hb:b≤a):wU none .u8 a b=a-b:=by
 have hm:lM .u8=256:=by rfl
 grind[bEg,aMj,Nat.add_mod_right,Nat.mod_eq_of_lt]
def uH(s:List Nat):Nat:=s.foldl (fun m c=>m*10+(c-48)) 0
theorem aYi(s:List Nat)(c:Nat):uH (s++ [c])=uH s*10+(c-48):=by simp[uH]
theorem aYj:∀(s:List Nat) (m:Nat),(∀c∈s,oR c=true)→s.foldl (fun m c=>m*10+(c-48)) m<(m+1)*10^s.length
 | [],m,_=>by simp
 | x::r,m,h=>by
  have g:=h x xAf;simp only[oR,decide_eq_true_iff] at g;have f:=aYj r (m*10+(x-48)) (fun c hc=>h c (by simp[hc]));rw[List.foldl_cons,List.length_cons,Nat.pow_succ,Nat.mul_comm (10^r.length) 10,← Nat.mul_assoc];exact Nat.lt_of_lt_of_le f (Nat.mul_le_mul_right _ (by omega))
theorem aMA{s:List Nat}(h:∀c∈s,oR c=true):uH s<10^s.length:=by
 have:=aYj s 0 h;rw[Nat.zero_add,Nat.one_mul] at this;exact this
theorem bHV{k:Nat}(h:k≤18):10^k≤1000000000000000000:=Nat.pow_le_pow_right (n:=10) xAa h
theorem aZ0(s:List Nat)(hd:∀c∈s,oR c=true)(h0:0<s.length)(Y:s.length≤18):nK none s=some ((uH s:Int),(),()):=by
 have f:∀k,k<s.length→48≤s.getD k 0∧s.getD k 0≤57:=fun k z=>by
  have O:s.getD k 0∈s:=by simp_all
  simp_all[oR,decide_eq_true_iff]
 have q:∀k,uH (s.take k)<1000000000000000000∨k>s.length:=fun k=>by
  rcases Nat.lt_or_ge s.length k with h|h
  all_goals grind[aMA,List.mem_of_mem_take,bHV,List.length_take]
 have N:mD none s s=some ((uH s:Int),(),()):=by
  unfold mD;refine bA (aCz (step:=fun d:Int×Int=>kX none s d.1 d.2) (I:=fun d=>0≤d.2∧d.2≤s.length∧d.1=(uH (s.take d.2.toNat):Int)) (fun d=>((s.length:Int)-d.2).toNat) (fun _=>.inl (uH s:Int)) ?_ (0,0) ⟨by simp,by simp,by rfl⟩) ?_
  ·rintro⟨n,i⟩ ⟨i0,i1,J⟩;have i0:0≤i:=i0;have i1:i≤s.length:=i1;have J:n=(uH (s.take i.toNat):Int):=J;show (∃d',kX none s n i=_∧_)∨kX none s n i=_;unfold kX;by_cases hi:i<s.length
   ·left
    have z:i.toNat<s.length:=(by omega);obtain⟨c1,L⟩:=f _ z;have g:wU none .u8 (s.getD i.toNat 0) 48=s.getD i.toNat 0-48:=bMR (by omega) c1;have hb:uH (s.take (i.toNat+1))=uH (s.take i.toNat)*10+(s.getD i.toNat 0-48):=(by rw[take_succ z,aYi]);have Z:=q (i.toNat+1);refine⟨((uH (s.take (i+1).toNat):Int),i+1),?_,⟨by omega,by omega,rfl⟩,by omega,rfl⟩;rw[if_pos hi,g,show (i+1).toNat=i.toNat+1 from by omega,hb];refine aE (by omega) ?_;rw[if_neg (by omega),J];refine aE (by omega) (aE (by omega) (aE (by omega) ?_))
    congr 3
   simp_all[if_neg,List.take_of_length_le]
  ·unfold tF;obtain⟨c1,L⟩:=f 0 h0;refine aE (by omega) ?_;grind
 have U:uK none s=some ((uH s:Int),(),()):=by
  unfold uK;obtain⟨c1,L⟩:=f 0 h0;rw[if_pos (.inr ⟨trivial,by omega,by omega⟩)];refine aE (by omega) (aE (fun _=>by omega) ?_);grind
 unfold nK;simp_all
theorem aMe(s:List Nat)(i:Nat):∀c∈(s.drop i).take (cL s i),oR c=true:=by
 intro c hc;have h:(s.drop i).take (cL s i)=(s.drop i).takeWhile oR:=by
  have:=List.prefix_iff_eq_take.1 (List.takeWhile_prefix (p:=oR) (l:=s.drop i));exact this.symm
 grind[List.all_eq_true,List.all_takeWhile]
abbrev bHW:Type:=List Nat×Int×Bool×Unit
def litNo:bHW:=([],0,false,())
def jG(s:List Nat)(i:Nat)(c:Nat):Prop:=i<s.length∧s.getD i 0=c
instance (s:List Nat) (i c:Nat):Decidable (jG s i c):=inferInstanceAs (Decidable (_∧_))
def aOB(s:List Nat)(i:Nat)(all:List Nat)(f:Int)(neg:Bool):bHW :=
 if cL s i<1∨3<cL s i then litNo
 else if 100<uH ((s.drop i).take (cL s i)) then litNo
 else (all,f+(if neg then -(uH ((s.drop i).take (cL s i)):Int) else uH ((s.drop i).take (cL s i))),decide (i+cL s i=s.length),())
def bBX(s:List Nat)(i:Nat)(all:List Nat)(f:Int):bHW :=
 if jG s i 101 then aOB s (if jG s (i+1) 45∨jG s (i+1) 43 then i+2 else i+1) all f (decide (jG s (i+1) 45))
 else (all,f,decide (i=s.length),())
def rD(s:List Nat):bHW :=
 if 60<s.length∨cL s 0=0 then litNo
 else if jG s (cL s 0) 46 then
  if cL s (cL s 0+1)=0 then litNo
  else bBX s (cL s 0+1+cL s (cL s 0+1)) (s.take (cL s 0)++(s.drop (cL s 0+1)).take (cL s (cL s 0+1))) (-(cL s (cL s 0+1):Int))
 else bBX s (cL s 0) (s.take (cL s 0)) 0
theorem bHX(s:List Nat)(i:Nat):s.getD (i:Int).toNat 0=s.getD i 0:=by rfl
theorem bHY(s:List Nat)(k:Nat)(all:List Nat)(f x:Int)(hs:s.length≤60)(q:k≤100)(hp: -100≤f∧f≤100)(g: -100≤x∧x≤100):oX none f (k:Int) (cL s k:Int) all s x=some (all,f+x,decide (k+cL s k=s.length),()):=by
 have hd:=vW s k;unfold oX;refine aE (by omega) (aE (by omega) ?_);unfold oW;have:decide ((k:Int)+(cL s k:Int)=(s.length:Int))=decide (k+cL s k=s.length):=decide_eq_decide.2 (by omega);rw[this]
theorem bHZ(s:List Nat)(i k:Nat)(all:List Nat)(f:Int)(hs:s.length≤60)(hi:i≤60)(L:k≤100)(hp: -100≤f∧f≤100):oY none s (i:Int) f all (k:Int)=some (aOB s k all f (decide (jG s (i+1) 45))):=by
 have hd:=vW s k;unfold oY aOB;refine bA (aAQ s k (by omega) (by omega)) ?_;by_cases I:cL s k<1∨3<cL s k
 ·rw[if_pos (by omega),if_pos I]; rfl
 ·rw[if_neg (by omega),if_neg I];have ht:List.drop (k:Int).toNat (List.take ((k:Int)+(cL s k:Int)).toNat s)=(s.drop k).take (cL s k):=by
   grind[List.drop_take,Int.toNat_natCast]
  have N:((s.drop k).take (cL s k)).length=cL s k:=by simp_all
  have J:=aZ0 _ (aMe s k) (by omega) (by omega);simp only[ht];refine aE (by omega) (aE (by omega) (bA J ?_));by_cases z:100<uH ((s.drop k).take (cL s k))
  ·rw[if_pos (by omega),if_pos z]; rfl
  ·rw[if_neg (by omega),if_neg z];have e:((i:Int)+1).toNat=i+1:=(by omega);rw[e];by_cases q:jG s (i+1) 45
   ·have g:i+1<s.length∧s.getD (i+1) 0=45:=q;rw[if_pos ⟨by omega,g.2⟩,decide_eq_true q];refine aE (by omega) ?_;grind[uH,cL,bHY]
   ·have g:¬(i+1<s.length∧s.getD (i+1) 0=45):=q;rw[if_neg (fun h=>g ⟨by omega,h.2⟩),decide_eq_false q];grind[bHY]
theorem bH0(s:List Nat)(i:Nat)(all:List Nat)(f:Int)(hs:s.length≤60)(hi:i≤60)(hp: -100≤f∧f≤100):oZ none s (i:Int) all f=some (bBX s i all f):=by
 unfold oZ bBX;have e:((i:Int)+1).toNat=i+1:=by omega
 rw[bHX,e];refine aE (fun _=>by omega) ?_;by_cases h:jG s i 101
 ·have h':i<s.length∧s.getD i 0=101:=h;rw[if_pos ⟨by omega,h'.2⟩,if_pos h];refine aE (by omega) (aE (fun _=>by omega) (aE (fun _ _=>by omega) ?_));by_cases q:jG s (i+1) 45∨jG s (i+1) 43
  ·have g:(i+1<s.length∧s.getD (i+1) 0=45)∨(i+1<s.length∧s.getD (i+1) 0=43):=q;rw[if_pos (by omega),if_pos q];refine aE (by omega) ?_;have:=bHZ s i (i+2) all f hs hi (by omega) hp;grind
  ·have g:¬((i+1<s.length∧s.getD (i+1) 0=45)∨(i+1<s.length∧s.getD (i+1) 0=43)):=q;rw[if_neg (fun h=>g (by omega)),if_neg q];grind[bHZ]
 ·have h':¬(i<s.length∧s.getD i 0=101):=h;rw[if_neg (fun h=>h' ⟨by omega,h.2⟩),if_neg h];unfold oW;have:decide ((i:Int)=(s.length:Int))=decide (i=s.length):=decide_eq_decide.2 (by omega);rw[this]
theorem bDh(s:List Nat)(hs:s.length≤9223372036854775807):sK none s=some (rD s):=by
 have L:=vW s 0;have J:=vW s (cL s 0+1);unfold sK rD;have e0:=aAQ s 0 hs (by omega);rw[show ((0:Nat):Int)=0 from rfl] at e0;refine bA e0 (aE (by omega) ?_);by_cases z:60<s.length∨cL s 0=0
 ·rw[if_pos (by omega),if_pos z]; rfl
 ·rw[if_neg (by omega),if_neg z];rw[bHX];refine aE (fun _=>by omega) ?_;by_cases g:jG s (cL s 0) 46
  ·have f:cL s 0<s.length∧s.getD (cL s 0) 0=46:=g;rw[if_pos ⟨by omega,f.2⟩,if_pos g];have e1:=aAQ s (cL s 0+1) hs (by omega);rw[show ((cL s 0+1:Nat):Int)=(cL s 0:Int)+1 from by omega] at e1;refine aE (by omega) (bA e1 ?_);by_cases q:cL s (cL s 0+1)=0
   ·rw[if_pos (by omega),if_pos q]; rfl
   ·rw[if_neg (by omega),if_neg q];have ht:List.drop ((cL s 0:Int)+1).toNat (List.take ((cL s 0:Int)+1+(cL s (cL s 0+1):Int)).toNat s)=(s.drop (cL s 0+1)).take (cL s (cL s 0+1)):=by
     grind[List.drop_take,cL]
    simp only[ht,Int.toNat_natCast];have I:(s.take (cL s 0)).length≤60:=(by grind);have N:((s.drop (cL s 0+1)).take (cL s (cL s 0+1))).length≤60:=(by grind);refine aE (by omega) (aE (by omega) (aE (by omega) (aE (by omega) (aE (by omega) (aE (by omega) (aE (by omega) (aE (by omega) ?_)))))));grind[bH0,cL]
  ·have f:¬(cL s 0<s.length∧s.getD (cL s 0) 0=46):=g;rw[if_neg (fun h=>f ⟨by omega,h.2⟩),if_neg g];grind[Int.toNat_natCast,bH0,cL]
def mx(l:List Nat):Nat:=l.foldr max 0
theorem bKg(l:List Nat)(b:Nat):mx (l++ [b])=max (mx l) b:=by
 induction l with
 | nil=>simp[mx]
 | cons a r f =>
  simp only[mx,List.cons_append,List.foldr_cons] at f ⊢;rw[f,Nat.max_assoc]
theorem aUe{l:List Ex}{k:Nat}(h:k<l.length):l.take (k+1)=l.take k++ [l.getD k (Ex.mk 0 [] [])]:=by
 simp_all
theorem aWo{l:List Ex}{k:Nat}(h:k<l.length):l.getD k (Ex.mk 0 [] [])∈l:=by
 simp_all
def aET(f:Ex→Nat)(l:List Ex):Nat:=(l.map f).sum
def mxN(f:Ex→Nat)(l:List Ex):Nat:=mx (l.map f)
theorem aR1(f:Ex→Nat){l:List Ex}{k:Nat}(h:k<l.length):aET f (l.take (k+1))=aET f (l.take k)+f (l.getD k (Ex.mk 0 [] [])):=by
 grind[aUe,aET]
theorem bH1(f:Ex→Nat){l:List Ex}{k:Nat}(h:k<l.length):mxN f (l.take (k+1))=max (mxN f (l.take k)) (f (l.getD k (Ex.mk 0 [] []))):=by
 rw[aUe h,mxN,List.map_append]; exact bKg _ _
theorem bKh(f:Ex→Nat)(l:List Ex)(k:Nat):aET f (l.take k)≤aET f l:=by
 have:aET f l=aET f (l.take k++l.drop k):=by simp_all
 rw[this,aET,aET,List.map_append,List.sum_append];omega
theorem bH2(f:Ex→Nat){l:List Ex}{k:Nat}(h:k<l.length):aET f (l.take k)+f (l.getD k (Ex.mk 0 [] []))≤aET f l:=by
 rw[← aR1 f h]; exact bKh f l _
theorem bH3(f:Ex→Nat)(l:List Ex):aET f (l.take 0)=0:=by rfl
theorem bMS(f:Ex→Nat)(l:List Ex):mxN f (l.take 0)=0:=by rfl
theorem aYk{l:List Ex}{k:Nat}(h:l.length≤k):l.take k=l:=List.take_of_length_le h
def fits:Nat→Ex→Prop
 | 0,_=>False
 | n+1,e=>e.text.length≤100∧e.l.length≤1000∧ ∀x∈e.l,fits n x
def nd:Nat→Ex→Nat
 | 0,_=>0
 | n+1,e=>1+aET (nd n) e.l
def ht:Nat→Ex→Nat
 | 0,_=>0
 | n+1,e=>1+mxN (ht n) e.l
theorem bDi{f:Ex→Nat}{b:Nat}(h:∀x,f x≤b):∀l:List Ex,mxN f l≤b
 | []=>by simp[mxN,mx]
 | x::r=>by
  have q:=h x;have g:=bDi h r;have:mxN f (x::r)=max (f x) (mxN f r):=rfl;omega
theorem bH4:∀(n:Nat) (e:Ex),ht n e≤n
 | 0,e=>Nat.le_refl 0
 | n+1,e=>by
  have:=bDi (bH4 n) e.l;have h:ht (n+1) e=1+mxN (ht n) e.l:=rfl;omega
theorem bL1{n:Nat}{e:Ex}(h:fits n e):1≤ht n e:=by
 cases n with
 | zero=>exact h.elim
 | succ n=>have:ht (n+1) e=1+mxN (ht n) e.l:=rfl; omega
def prt(k:Int):Int:=if k=1∨k=2 then 0 else if 6≤k∧k≤9 then 2 else if 10≤k∧k≤13 then 1 else -1
theorem bKi(k:Int):aAD none k=some (prt k):=by
 by_cases h:1≤k∧k≤13
 ·have:k=1∨k=2∨k=3∨k=4∨k=5∨k=6∨k=7∨k=8∨k=9∨k=10∨k=11∨k=12∨k=13:=by omega
  rcases this with h|h|h|h|h|h|h|h|h|h|h|h|h<;>subst h<;>rfl
 ·unfold aAD yD rB rA prt;have e:∀j:Int,1≤j→j≤13→ ¬k=j:=fun j q g f=>h (by omega);rw[if_neg (e 1 xAa xAa),decide_eq_false (e 2 xAa xAa),if_neg xAa,if_neg (e 6 xAa xAa),if_neg (e 7 xAa xAa),if_neg (e 8 xAa xAa),
   decide_eq_false (e 9 xAa xAa),if_neg xAa,if_neg (e 10 xAa xAa),if_neg (e 11 xAa xAa),if_neg (e 12 xAa xAa),decide_eq_false (e 13 xAa xAa),if_neg xAa,
   if_neg (by omega),if_neg (by omega),if_neg (by omega)]
theorem bEz:∀(n k:Nat) (e:Ex) (a f d0:Nat),n≤k→fits n e→a+n≤1000→f+nd n e≤100000→d0≤100000 →
  ∃n' d':Nat,nN none k e (a:Int) (f:Int) (d0:Int)=some ((n':Int),(d':Int))∧f<n'∧n'≤f+nd n e∧d0≤d'∧a≤d'∧d'≤max d0 (a+ht n e-1)∧(n'≤60→d'≤30→n'=f+nd n e∧d'=max d0 (a+ht n e-1))
 | 0,k,e,a,f,d0,J,q,Z,L,hd=>q.elim
 | n+1,0,e,a,f,d0,J,q,Z,L,hd=>absurd J (by omega)
 | n+1,k+1,e,a,f,d0,J,q,Z,L,hd=>by
  obtain⟨hf1,hf2,z⟩:=q;have hnd:nd (n+1) e=1+aET (nd n) e.l:=rfl;have hht:ht (n+1) e=1+mxN (ht n) e.l:=rfl;show ∃n' d':Nat,sP none (nN none k) e (a:Int) (f:Int) (d0:Int)=_∧_;unfold sP;by_cases hc:(60:Int)<(f:Int)+1∨(30:Int)<(a:Int)
  ·refine⟨f+1,max d0 a,?_,by omega,by omega,by omega,by omega,by omega,fun _ _=>by omega⟩;refine aE (by omega) ?_;grind
  ·obtain⟨r,hr,x,y,rfl,q1,q2,q3,q4,q5⟩:=mC (step:=fun d:Int×Int×Int=>kY none (nN none k) e (a:Int) d.1 d.2.1 d.2.2)
    (I:=fun d=>∃i x y:Nat,d=((i:Int),(x:Int),(y:Int))∧i≤e.l.length∧f+1≤x∧x≤f+1+aET (nd n) (e.l.take i)∧max d0 a≤y∧y≤max (max d0 a) (a+mxN (ht n) (e.l.take i))∧(x≤60→y≤30→x=f+1+aET (nd n) (e.l.take i)∧y=max (max d0 a) (a+mxN (ht n) (e.l.take i))))
    (fun d=>((e.l.length:Int)-d.1).toNat)
    (fun r=>∃x y:Nat,r=((x:Int),(y:Int))∧f+1≤x∧x≤f+1+aET (nd n) e.l∧max d0 a≤y∧y≤max (max d0 a) (a+mxN (ht n) e.l)∧(x≤60→y≤30→x=f+1+aET (nd n) e.l∧y=max (max d0 a) (a+mxN (ht n) e.l)))
    (by
     rintro d ⟨i,x,y,rfl,h1,h2,N,h4,Y,U⟩;show (∃d',kY none (nN none k) e (a:Int) (i:Int) (x:Int) (y:Int)=_∧_)∨ ∃r,kY none (nN none k) e (a:Int) (i:Int) (x:Int) (y:Int)=_∧_;unfold kY;by_cases hi:i<e.l.length
     ·left
      have s1:=bH2 (nd n) hi;have s2:=aR1 (nd n) hi;have s3:=bH1 (ht n) hi;have g:=z _ (aWo hi);have hm:=bDi (bH4 n) (e.l.take i);have hy:y≤100000:=by omega
      ·obtain⟨O,y',p1,p2,p3,p4,p5,p6,p7⟩:=bEz n k (e.l.getD i (Ex.mk 0 [] [])) (a+1) x y (by omega) g (by omega) (by omega) hy;rw[show ((a+1:Nat):Int)=(a:Int)+1 from by omega] at p1;refine⟨(((i+1:Nat):Int),(O:Int),(y':Int)),?_,⟨i+1,O,y',rfl,by omega,by omega,by omega,by omega,by omega,fun c1 c2=>?_⟩,by omega⟩
       ·rw[if_pos (by omega),Int.toNat_natCast];refine aE (by omega) (aE (by omega) (bA p1 (aE (by omega) ?_)))
        congr 3
       omega
     ·right
      have e1:e.l.take i=e.l:=aYk (by omega);rw[e1] at N Y U;refine⟨((x:Int),(y:Int)),?_,x,y,rfl,h2,N,h4,Y,U⟩;grind)
    ((0:Int),(f:Int)+1,max (d0:Int) (a:Int)) ⟨0,f+1,max d0 a,by grind,by omega,by omega,by omega,by omega,by omega,fun _ _=>by rw[bH3,bMS]; omega⟩
   refine⟨x,y,?_,by omega,by omega,by omega,by omega,by omega,fun c1 c2=>by omega⟩;refine aE (by omega) ?_;grind
theorem bH5{n:Nat}{e:Ex}(g:fits n e)(f:n≤64)(hd:nd n e≤1000):uX none e=some (decide (nd n e≤60∧ht n e≤30)):=by
 obtain⟨x,y,q,L,J,N,z,O,I⟩:=bEz n 64 e 1 0 0 f g (by omega) (by omega) (by omega);grind[bL1,uX,aCT]
theorem aUf{D E:Type}{step:D→Option (D⊕E)}{d d':D}{r:E}(h:step d=some (.inl d'))(f:aG4 step d'=some r):aG4 step d=some r:=by
 obtain⟨n,g⟩:=aX1.1 f;exact aDC (n:=n+1) (by grind[iter])
theorem aIJ{D E:Type}{step:D→Option (D⊕E)}{d:D}{r:E}(h:step d=some (.inr r)):aG4 step d=some r:=aDC (n:=1) (by rw[iter,h])
theorem ify{α:Type}{p:Prop}{i:Decidable p}{x y r:α}(hp:p)(h:x=r): @ite α p i x y=r:=(if_pos hp).trans h
theorem ifn{α:Type}{p:Prop}{i:Decidable p}{x y r:α}(hp:¬p)(h:y=r): @ite α p i x y=r:=(if_neg hp).trans h
def aZ1(c:Nat):Bool:=c == 32
def aKn(c:Nat):Bool:=decide (97≤c∧c≤122)
def iE(c:Nat):Bool:=aKn c||oR c||c == 95
def run(p:Nat→Bool)(s:List Nat)(i:Nat):Nat:=((s.drop i).takeWhile p).length
theorem aZ2(p:Nat→Bool)(s:List Nat)(i:Nat):run p s i≤s.length-i:=by
 have:=(List.takeWhile_prefix (p:=p) (l:=s.drop i)).length_le;rw[List.length_drop] at this;exact this
theorem aWp{p:Nat→Bool}{s:List Nat}{i:Nat}(h:i<s.length)(hp:p (s.getD i 0)=true):run p s i=run p s (i+1)+1:=by
 have e:s.getD i 0=s[i]:=by simp_all
 grind[run,List.drop_eq_getElem_cons,List.takeWhile_cons_of_pos,List.length_cons]
theorem aUg{p:Nat→Bool}{s:List Nat}{i:Nat}(h:i<s.length→p (s.getD i 0)=false):run p s i=0:=by
 unfold run;by_cases hi:i<s.length
 ·have e:s.getD i 0=s[i]:=by rw[List.getD_eq_getElem?_getD,List.getElem?_eq_getElem hi]; rfl
  have:=h hi;rw[e] at this;rw[List.drop_eq_getElem_cons hi,List.takeWhile_cons_of_neg (by rw[this]; decide)];rfl
 simp_all[List.drop_eq_nil_of_le]
def skp(s:List Nat)(i:Nat):Nat:=i+run aZ1 s i
theorem aOC(s:List Nat)(i:Nat)(h:i≤s.length):i≤skp s i∧skp s i≤s.length:=by
 grind[aZ2,aZ1,skp]
abbrev RD0:Type:=List Nat×(Int×qp)
abbrev st(s:List Nat)(p n:Nat):RD0:=(s,(p:Int),(n:Int),())
theorem aZ3(s:List Nat)(hs:s.length≤1099511627776):∀(k p n:Nat),k=s.length-p→p≤s.length→iR none (st s p n)=some (st s (skp s p) n):=by
 have f:∀(k p n:Nat),k=s.length-p→p≤s.length→aG4 (fun d:RD0=>eP none d) (st s p n)=some (st s (skp s p) n):=by
  intro k
  induction k with
  | zero =>
   intro p n g hp;have e:skp s p=p:=(by grind[aOC]);rw[e];refine aIJ ?_;show eP none (st s p n)=_;unfold eP;refine aE (fun h=>by simp_all) ?_;grind
  | succ k q =>
   intro p n g hp;by_cases hb:aZ1 (s.getD p 0)=true
   ·have e:skp s p=skp s (p+1):=(by unfold skp; grind[aWp]);rw[e];refine aUf (d':=st s (p+1) n) ?_ (q (p+1) n (by omega) (by omega));show eP none (st s p n)=_;unfold eP;have hb:s.getD p 0=32:=(by grind[aZ1]);refine aE (fun _=>⟨by simp_all,by omega⟩) ?_;rw[if_pos ⟨by grind,by simp_all⟩];refine aE (by grind) rfl
   ·have e:skp s p=p:=by
     grind[skp,aUg]
    rw[e];refine aIJ ?_;show eP none (st s p n)=_;unfold eP;simp_all[aE,if_neg,Int.toNat_natCast,aZ1]
 intro k p n g hp;unfold iR;simp_all
theorem bH6(l:List Nat)(c:Nat):∀k,aZU l c k<0↔c∉l:=by
 induction l with
 | nil=>grind[aZU]
 | cons b r f =>
  intro k;rw[aZU];grind
theorem aMB(l:List Nat)(c:Nat):aV none l c=some (aKC l c):=rfl
theorem aUh(l:List Nat)(c:Nat):aKC l c<0↔c∉l:=bH6 l c 0
def aMf(s:List Nat)(l:List Nat)(q:Nat):Prop:=q<s.length∧s.getD q 0∈l
instance (s l:List Nat) (q:Nat):Decidable (aMf s l q):=inferInstanceAs (Decidable (_∧_))
theorem bDj{s l:List Nat}(hs:s.length≤1099511627776){p n:Nat}(hp:p≤s.length)(h:aMf s l (skp s p)) :
  fE none l (st s p n)=some ((s.getD (skp s p) 0,true,()),st s (skp s p+1) n):=by
 have g:=aOC s p hp;have q:=h.1;have f:¬aKC l (s.getD (skp s p) 0)<0:=fun e=>(aUh _ _).1 e h.2;unfold fE;refine bA (aZ3 s hs _ p n rfl hp) ?_;simp only[aMB,Int.toNat_natCast,Option.isSome_some,Option.getD_some];refine aE (fun h=>⟨by omega,by omega⟩) (aE (fun _=>trivial) (ifn (by omega) ?_));refine aE (by omega) (aE (by omega) (aE (by omega) ?_));simp_all
theorem bH7{s l:List Nat}(hs:s.length≤1099511627776){p n:Nat}(hp:p≤s.length)(h:¬aMf s l (skp s p)) :
  fE none l (st s p n)=some ((0,false,()),st s (skp s p) n):=by
 have g:=aOC s p hp;unfold fE;refine bA (aZ3 s hs _ p n rfl hp) ?_;simp only[aMB,Int.toNat_natCast,Option.isSome_some,Option.getD_some];refine aE (fun h=>⟨by omega,by omega⟩) (aE (fun _=>trivial) (ify ?_ rfl));by_cases f:skp s p<s.length
 ·exact .inr ((aUh _ _).2 fun e=>h ⟨f,e⟩)
 omega
theorem bBY{s l:List Nat}(hs:s.length≤1099511627776){p n:Nat}(hp:p≤s.length)(h:aMf s l (skp s p)) :
  eX none l (st s p n)=some (.inl (st s (skp s p+1) n)):=by
 unfold eX;exact bA (bDj hs hp h) (ifn xAf rfl)
theorem bEA{s l:List Nat}(hs:s.length≤1099511627776){p n:Nat}(hp:p≤s.length)(h:¬aMf s l (skp s p)) :
  eX none l (st s p n)=some (.inr ((skp s p:Int),())):=by
 unfold eX;exact bA (bH7 hs hp h) (ify xAf rfl)
theorem aMg(k:Int)(t:List Nat)(l:List Ex)(s:List Nat)(p n:Nat)(f:n≤4611686018427387904):eB none k t l (st s p n)=some (Ex.mk k t l,st s p (n+1)):=by
 unfold eB;exact aE (by grind) rfl
def aGL(s:List Nat)(i:Nat):Nat :=
 if jG s i 101 then
  let k:=if jG s (i+1) 43∨jG s (i+1) 45 then i+2 else i+1
  if 1≤cL s k∧cL s k≤3∧uH ((s.drop k).take (cL s k))≤100 then k+cL s k else i
 else i
def aCp(s:List Nat)(p:Nat):Nat :=
 if cL s p=0 then 0
 else aGL s (if jG s (p+cL s p) 46∧0<cL s (p+cL s p+1) then p+cL s p+1+cL s (p+cL s p+1) else p+cL s p)-p
theorem bEB(s:List Nat)(hs:s.length≤1099511627776)(p i k:Nat)(hp:p≤i)(hi:i≤s.length)(I:k≤s.length)(z:p≤k) :
  vS none s (p:Int) (i:Int) (k:Int)=some ((if 1≤cL s k∧cL s k≤3∧uH ((s.drop k).take (cL s k))≤100 then k+cL s k else i:Nat)-(p:Int)):=by
 have hd:=vW s k;unfold vS;refine bA (aAQ s k (by omega) (by omega)) ?_;have hm:min (cL s k:Int) 4=((min (cL s k) 4:Nat):Int):=by omega
 rw[hm];have ht:List.drop (k:Int).toNat (List.take ((k:Int)+((min (cL s k) 4:Nat):Int)).toNat s)=(s.drop k).take (min (cL s k) 4):=by
  grind[List.drop_take,Int.toNat_natCast]
 have J:((s.drop k).take (min (cL s k) 4)).length=min (cL s k) 4:=by grind
 have h0:aR ⟨#[48]⟩= [48]:=rfl;have f:∀c∈ [48]++(s.drop k).take (min (cL s k) 4),oR c=true:=by
  intro c hc;rcases List.mem_append.1 hc with hc|hc
  ·simp at hc; subst hc; decide
  ·refine aMe s k c ?_;have:(s.drop k).take (min (cL s k) 4)=((s.drop k).take (cL s k)).take 4:=(by grind);grind
 simp only[ht,h0];refine aE (by omega) (aE (by omega) (aE (by grind) ?_));refine bA (aZ0 _ f xAf (by grind)) ?_;have q:uH ([48]++(s.drop k).take (min (cL s k) 4))=uH ((s.drop k).take (min (cL s k) 4)):=by rfl
 by_cases hc:1≤cL s k∧cL s k≤3∧uH ((s.drop k).take (cL s k))≤100
 ·have g:min (cL s k) 4=cL s k:=by omega
  rw[g] at q;rw[if_pos ⟨by omega,by grind⟩,if_pos hc];refine aE (by omega) (aE (by omega) ?_)
  congr 1
 ·rw[if_neg,if_neg hc]
  ·refine aE (by omega) rfl
  grind
theorem bKj(s:List Nat)(hs:s.length≤1099511627776)(p i:Nat)(hp:p≤i)(hi:i≤s.length):pQ none s (p:Int) (i:Int)=some ((aGL s i:Int)-(p:Int)):=by
 unfold pQ aGL;have e1:((i:Int)+1).toNat=i+1:=by omega
 simp only[Int.toNat_natCast,e1];refine aE (fun h=>⟨by omega,by omega⟩) ?_;by_cases q:jG s i 101
 ·have f:i<s.length∧s.getD i 0=101:=q;rw[if_pos ⟨by omega,f.2⟩,if_pos q];refine aE (by omega) (aE (fun _=>by omega) (aE (fun _ _=>by omega) ?_));by_cases g:jG s (i+1) 43∨jG s (i+1) 45
  ·have z:(i+1<s.length∧s.getD (i+1) 0=43)∨(i+1<s.length∧s.getD (i+1) 0=45):=g;rw[if_pos ⟨by omega,by omega⟩,if_pos g];refine aE (by omega) ?_;have:=bEB s hs p i (i+2) hp hi (by omega) (by omega);grind
  ·have z:¬((i+1<s.length∧s.getD (i+1) 0=43)∨(i+1<s.length∧s.getD (i+1) 0=45)):=g;rw[if_neg (by omega),if_neg g];grind[bEB]
 ·have f:¬(i<s.length∧s.getD i 0=101):=q;rw[if_neg (fun h=>f ⟨by omega,h.2⟩),if_neg q];exact aE (by omega) rfl
theorem bH8(s:List Nat)(i:Nat):i≤aGL s i∧(i≤s.length→aGL s i≤s.length):=by
 unfold aGL;split
 ·grind[vW]
 omega
theorem bKk(s:List Nat)(hs:s.length≤1099511627776)(p:Nat)(hp:p≤s.length):gG none s (p:Int)=some (aCp s p:Int)∧p+aCp s p≤s.length:=by
 have hd:=vW s p;have N:=vW s (p+cL s p+1);unfold aCp;have f:∀i,p≤i→i≤s.length→pQ none s (p:Int) (i:Int)=some ((aGL s i-p:Nat):Int)∧p+(aGL s i-p)≤s.length:=fun i z J=>by
  grind[bH8,bKj]
 unfold gG;by_cases h0:cL s p=0
 ·rw[if_pos h0];refine⟨bA (aAQ s p (by omega) (by omega)) (aE (by omega) ?_),by omega⟩;simp_all
 ·rw[if_neg h0];have e1:((p:Int)+(cL s p:Int)).toNat=p+cL s p:=by omega
  have L:((p:Int)+(cL s p:Int))=((p+cL s p:Nat):Int):=by omega
  by_cases z:jG s (p+cL s p) 46
  ·have q:p+cL s p<s.length∧s.getD (p+cL s p) 0=46:=z;have I:=aAQ s (p+cL s p+1) (by omega) (by omega);rw[show ((p+cL s p+1:Nat):Int)=(p:Int)+(cL s p:Int)+1 from by omega] at I;by_cases J:0<cL s (p+cL s p+1)
   ·have g:=f (p+cL s p+1+cL s (p+cL s p+1)) (by omega) (by omega);rw[if_pos ⟨z,J⟩];refine⟨bA (aAQ s p (by omega) (by omega)) (aE (by omega) ?_),g.2⟩;rw[if_neg (by omega)];refine aE (fun h=>by omega) ?_;rw[if_pos ⟨by omega,by grind⟩];refine aE (by omega) (bA I ?_);rw[if_pos (by omega)];refine aE (by omega) (aE (by omega) ?_);grind
   ·have g:=f (p+cL s p) (by omega) (by omega);rw[if_neg (fun h=>J h.2)];refine⟨bA (aAQ s p (by omega) (by omega)) (aE (by omega) ?_),g.2⟩;rw[if_neg (by omega)];refine aE (fun h=>by omega) ?_;rw[if_pos ⟨by omega,by grind⟩];refine aE (by omega) (bA I ?_);rw[if_neg (by omega),L];grind
  ·have q:¬(p+cL s p<s.length∧s.getD (p+cL s p) 0=46):=z;have g:=f (p+cL s p) (by omega) (by omega);rw[if_neg (fun h=>z h.1)];refine⟨bA (aAQ s p (by omega) (by omega)) (aE (by omega) ?_),g.2⟩;rw[if_neg (by omega)];refine aE (fun h=>by omega) ?_;rw[if_neg (fun h=>q ⟨by omega,by grind⟩),L];grind
abbrev PR:Type:=(Ex×Nat)⊕Nat
def aEU(o:Option PR)(k:Ex→Nat→Option PR):Option PR:=match o with
 | some (.inl (e,q))=>k e q
 | x=>x
def aE8(one:Nat→Option PR)(s:List Nat)(a b:Nat)(ka kb:Int):Nat→Ex→Nat→Option PR
 | 0,_,_=>none
 | f+1,e,p=>if aMf s [a,b] (skp s p) then
   aEU (one (skp s p+1)) (fun r z=>aE8 one s a b ka kb f (Ex.mk (if s.getD (skp s p) 0=a then ka else kb) [] [e,r]) z)
  else some (.inl (e,skp s p))
def aNG(one:Nat→Option PR)(s:List Nat)(p:Nat):Option PR:=aEU (one p) (aE8 one s 42 47 8 9 (s.length+1))
def bDk(one:Nat→Option PR)(s:List Nat)(p:Nat):Option PR:=aEU (aNG one s p) (aE8 (aNG one s) s 43 45 6 7 (s.length+1))
def pIn(one:Nat→Option PR)(s:List Nat)(p:Nat):Option PR :=
 if aMf s [40] (skp s p) then
  aEU (bDk one s (skp s p+1)) (fun e q=>if aMf s [41] (skp s q) then some (.inl (e,skp s q+1)) else some (.inr (skp s q)))
 else some (.inr (skp s p))
def bKl(s:List Nat)(q:Nat):Option PR :=
 if aCp s q=0∨60<aCp s q then some (.inr q) else some (.inl (Ex.mk 1 ((s.drop q).take (aCp s q)) [],q+aCp s q))
def aHW(s:List Nat)(q:Nat):List Nat:=(s.drop q).take (run iE s q)
def bDl(w:List Nat):Option Int:=if w= [115,113,114] then some 11 else if w= [115,113,114,116] then some 12 else if w= [101,120,112] then some 13 else none
def bEC(one:Nat→Option PR)(s:List Nat)(q:Nat):Option PR:=match bDl (aHW s q) with
 | some k=>aEU (pIn one s (q+run iE s q)) (fun e z=>some (.inl (Ex.mk k [] [e],z)))
 | none=>some (.inl (Ex.mk 2 (aHW s q) [],q+run iE s q))
def aYl(one:Nat→Option PR)(s:List Nat)(q:Nat):Option PR :=
 if s.length≤q then some (.inr q)
 else if s.getD q 0=40 then pIn one s q
 else if aKn (s.getD q 0)=true then bEC one s q else bKl s q
def yJ(s:List Nat):Nat→Nat→Option PR
 | 0,_=>none
 | n+1,p=>if aMf s [45] (skp s p) then aEU (yJ s n (skp s p+1)) (fun e z=>some (.inl (Ex.mk 10 [] [e],z)))
  else aYl (yJ s n) s (skp s p)
abbrev CR:Type:=(Ex×RD0)⊕qp
def Cor(s:List Nat)(p n:Nat)(x:Option CR):PR→Prop
 | .inl (e,q)=>p≤q∧q≤s.length∧ ∃n',n'+p≤n+q∧x=some (.inl (e,st s q n'))
 | .inr q=>q≤s.length∧x=some (.inr ((q:Int),()))
def Gd(s:List Nat)(g:RD0→Option CR)(one:Nat→Option PR):Prop :=
 ∀p n r,p≤s.length→n+s.length≤1099511627776+p→one p=some r→Cor s p n (g (st s p n)) r
theorem Cor.mv{s:List Nat}{p q n n':Nat}{x:Option CR}{r:PR}(h:p≤q)(J:n'+p≤n+q)(c:Cor s q n' x r):Cor s p n x r:=by
 cases r with
 | inl z =>
  obtain⟨L,N⟩:=z;obtain⟨b1,I,f,O,g⟩:=c;exact⟨by omega,I,f,by omega,g⟩
 | inr z=>exact c
theorem aQm{s:List Nat}{o:Option PR}{k:Ex→Nat→Option PR}{r:PR}{p0 p n:Nat}{x:Option CR}{f:CR→Option CR}(I:aEU o k=some r)
  (N:∀g,o=some g→Cor s p n x g)
  (Z:∀e q n',p≤q→q≤s.length→n'+p≤n+q→k e q=some r→Cor s p0 n (f (.inl (e,st s q n'))) r)
  (O:∀z,f (.inr z)=some (.inr z)):Cor s p0 n (x.bind f) r:=by
 unfold aEU at I;cases o with
 | none=>cases I
 | some g =>
  cases g with
  | inl y =>
   obtain⟨e,q⟩:=y;obtain⟨L,J,n',Y,U⟩:=N _ rfl;simp_all
  | inr y =>
   obtain⟨L,J⟩:=N _ rfl;obtain rfl: .inr y=r:=Option.some.inj I;rw[J];exact⟨L,O _⟩
theorem bED{s:List Nat}(hs:s.length≤1099511627776){g:RD0→Option CR}{one:Nat→Option PR}(Y:Gd s g one){a b:Nat}{ka kb:Int}(U:a≠b):∀(f:Nat) (e:Ex) (p n:Nat) (r:PR),p≤s.length→n+s.length≤1099511627776+p →
  aE8 one s a b ka kb f e p=some r→Cor s p n (aG4 (fun d:RD0×Ex=>cD none g [a,b] [ka,kb] d.1 d.2) (st s p n,e)) r
 | 0,e,p,n,r,hp,hn,I=>by cases I
 | f+1,e,p,n,r,hp,hn,I=>by
  have hk:=aOC s p hp;rw[aE8] at I;by_cases h:aMf s [a,b] (skp s p)
  ·rw[if_pos h] at I;have h1:=h.1;have hm:=h.2;have round:∀x,g (st s (skp s p+1) n)=some x→cD none g [a,b] [ka,kb] (st s p n) e =
     match x with
     | .inl r=>(eB none (if s.getD (skp s p) 0=a then ka else kb) [] [e,r.1] r.2).bind (fun r=>some (.inl (r.2,r.1)))
     | .inr z=>some (.inr (.inr z)):=fun x hx=>by
    unfold cD;refine bA (bDj hs hp h) (ifn xAf ?_);simp only[aMB,Option.isSome_some,Option.getD_some];have hi:aKC [a,b] (s.getD (skp s p) 0)=if s.getD (skp s p) 0=a then 0 else 1:=by
     unfold aKC aZU;by_cases e1:s.getD (skp s p) 0=a
     ·omega
     ·have e2:s.getD (skp s p) 0=b:=by
       simp_all
      simp_all[if_neg,aZU,if_pos]
    refine aE trivial (aE (by omega) (bA hx ?_));have J:([ka,kb]:List Int).getD (aKC [a,b] (s.getD (skp s p) 0)).toNat 0=if s.getD (skp s p) 0=a then ka else kb:=by grind
    cases x with
    | inl y=>simp only; rw[J]; rfl
    | inr y=>rfl
   unfold aEU at I;cases ho:one (skp s p+1) with
   | none=>simp_all
   | some Z =>
    rw[ho] at I;have hc:=Y (skp s p+1) n Z (by omega) (by omega) ho;cases Z with
    | inl y =>
     obtain⟨x,q⟩:=y;obtain⟨a1,O,L,a3,a4⟩:=hc;have I:aE8 one s a b ka kb f (Ex.mk (if s.getD (skp s p) 0=a then ka else kb) [] [e,x]) q=some r:=I;have N:=bED hs Y U f _ q (L+1) r O (by omega) I;have hstep:=round _ a4;have hstep:cD none g [a,b] [ka,kb] (st s p n) e=some (.inl (st s q (L+1),Ex.mk (if s.getD (skp s p) 0=a then ka else kb) [] [e,x])):=hstep.trans (bA (aMg _ _ _ s q L (by omega)) rfl);cases r with
     | inl z =>
      obtain⟨e2,q2⟩:=z;obtain⟨b1,b2,n2,b3,b4⟩:=N;exact⟨by omega,b2,n2,by omega,aUf hstep b4⟩
     | inr z=>exact⟨N.1,aUf hstep N.2⟩
    | inr y =>
     obtain⟨a1,O⟩:=hc;obtain rfl: .inr y=r:=Option.some.inj I;exact⟨a1,aIJ (round _ O)⟩
  ·rw[if_neg h] at I;obtain rfl: .inl (e,skp s p)=r:=Option.some.inj I;refine⟨hk.1,hk.2,n,by omega,aIJ ?_⟩;unfold cD;exact bA (bH7 hs hp h) (ify xAf rfl)
theorem bH9{s:List Nat}(hs:s.length≤1099511627776){g:RD0→Option CR}{one:Nat→Option PR}(I:Gd s g one){a b:Nat}{ka kb:Int}(f:a≠b) :
  Gd s (fun o=>cH none g [a,b] [ka,kb] o) (fun p=>aEU (one p) (aE8 one s a b ka kb (s.length+1))):=fun p n r hp O hr=>by
 show Cor s p n (cH none g [a,b] [ka,kb] (st s p n)) r;unfold cH;refine aQm (p:=p) hr (fun L h=>I p n L hp O h) (fun e q U h1 Z Y h4=>?_) (fun z=>rfl);have:=bED hs I f _ e q U r Z (by omega) h4;refine Cor.mv h1 Y ?_;cases r with
 | inl z =>
  obtain⟨e2,q2⟩:=z;obtain⟨b1,b2,J,b3,N⟩:=this;exact⟨b1,b2,J,b3,bA N rfl⟩
 | inr z=>exact⟨this.1,bA this.2 rfl⟩
theorem Gd.of{s:List Nat}{g f:RD0→Option CR}{one:Nat→Option PR}(h:Gd s g one)(e:∀o,f o=(g o).bind fun x=>some x):Gd s f one:=fun p n r hp z q=>by
 rw[e];have:=h p n r hp z q;simp_all
theorem bBZ(x:Option CR):(x.bind fun e=>match e with| .inl r=>some (Sum.inl (r.1,r.2))| .inr p=>some (Sum.inr p))=x.bind fun x=>some x:=by
 grind
theorem bKm{s:List Nat}(hs:s.length≤1099511627776){g:RD0→Option CR}{one:Nat→Option PR}(f:Gd s g one):Gd s (gB none g) (aNG one s) :=
 (bH9 hs f (a:=42) (b:=47) (ka:=8) (kb:=9) xAa).of fun o=>(show gB none g o=_ from bBZ _)
theorem bIa{s:List Nat}(hs:s.length≤1099511627776){g:RD0→Option CR}{one:Nat→Option PR}(f:Gd s g one):Gd s (kA none g) (bDk one s) :=
 (bH9 hs (bKm hs f) (a:=43) (b:=45) (ka:=6) (kb:=7) xAa).of fun o=>(show kA none g o=_ from bBZ _)
theorem bK6{s:List Nat}(hs:s.length≤1099511627776){g:RD0→Option CR}{one:Nat→Option PR}(Z:Gd s g one):Gd s (iW none g) (pIn one s):=fun p n r hp hn I=>by
 have Y:=aOC s p hp;unfold iW;unfold pIn at I;by_cases h:aMf s [40] (skp s p)
 ·rw[if_pos h] at I;have h1:=h.1;have e:eX none (aR ⟨#[40]⟩) (st s p n)=some (.inl (st s (skp s p+1) n)):=bBY hs hp h;rw[e];refine aQm (p:=skp s p+1) I (fun U h=>bIa hs Z _ n U (by omega) (by omega) h) (fun e q O h1 N h3 J=>?_) (fun z=>rfl);refine Cor.mv (q:=q) (by omega) (by omega:O+p≤n+q) ?_;have L:=aOC s q N;by_cases f:aMf s [41] (skp s q)
  ·rw[if_pos f] at J;obtain rfl:=Option.some.inj J;have h6:=f.1;exact⟨by omega,by omega,O,by omega,bA (bBY hs N f) rfl⟩
  ·rw[if_neg f] at J;obtain rfl:=Option.some.inj J;exact⟨L.2,bA (bEA hs N f) rfl⟩
 ·rw[if_neg h] at I;obtain rfl:=Option.some.inj I;exact⟨Y.2,bA (bEA hs hp h) rfl⟩
theorem bL2{s:List Nat}(hs:s.length≤1099511627776){p n:Nat}{r:PR}(hp:p≤s.length)(L:n+s.length≤1099511627776+p)(f:bKl s p=some r):Cor s p n (lL none (st s p n)) r:=by
 obtain⟨J,z⟩:=bKk s hs p hp;unfold lL;unfold bKl at f;simp only[J,Option.isSome_some,Option.getD_some];by_cases h:aCp s p=0∨60<aCp s p
 ·rw[if_pos h] at f;obtain rfl:=Option.some.inj f;exact⟨hp,aE trivial (ify (by omega) rfl)⟩
 ·rw[if_neg h] at f;obtain rfl:=Option.some.inj f;refine⟨by omega,z,n+1,by omega,aE trivial (ifn (by omega) ?_)⟩;refine aE (by omega) (aE (by omega) (aE (by omega) ?_));have e1:((p:Int)+(aCp s p:Int)-(aCp s p:Int)).toNat=p:=by omega
  have g:((p:Int)+(aCp s p:Int)).toNat=p+aCp s p:=by omega
  have q:(p:Int)+(aCp s p:Int)=((p+aCp s p:Nat):Int):=by omega
  have I:List.drop p (List.take (p+aCp s p) s)=(s.drop p).take (aCp s p):=by grind
  rw[e1,g,I,q];exact bA (aMg _ _ _ s _ n (by omega)) rfl
theorem bEE(c:Nat):aKC (aR tE) c<0↔ ¬iE c=true:=by
 rw[aUh];have e:aR tE=List.range' 97 26++(List.range' 48 10++ [95]):=by decide
 rw[e];simp only[List.mem_append,List.mem_range'_1,List.mem_singleton,iE,aKn,oR,Bool.or_eq_true,decide_eq_true_eq,beq_iff_eq];omega
theorem bIb(c:Nat):aKC (aR aBO) c<0↔ ¬aKn c=true:=by
 rw[aUh];have e:aR aBO=List.range' 97 26:=by decide
 rw[e];simp only[List.mem_range'_1,aKn,decide_eq_true_eq];omega
theorem bKn{s:List Nat}(hs:s.length≤1099511627776){p n:Nat}(hp:p≤s.length):oB none (st s p n)=some (aHW s p,st s (p+run iE s p) n):=by
 have I:=aZ2 iE s p;have f:∀(k p:Nat),k=s.length-p→p≤s.length→aG4 (fun d:RD0=>fB none d) (st s p n)=some (st s (p+run iE s p) n):=by
  intro k
  induction k with
  | zero =>
   intro p z hp;have e:run iE s p=0:=(by grind[aZ2,iE]);rw[e];refine aIJ ?_;show fB none (st s p n)=_;unfold fB;refine aE (fun h=>by simp_all) (aE (fun _=>rfl) (ifn (fun h=>by grind) rfl))
  | succ k q =>
   intro p z hp;have g:∀x,fB none (st s p n)=x↔(if (p:Int)<(s.length:Int)∧(0:Int)≤aKC (aR tE) (s.getD p 0) then some (.inl (st s (p+1) n)) else some (.inr (st s p n)))=x:=by
    intro x;have:fB none (st s p n)=(if (p:Int)<(s.length:Int)∧(0:Int)≤aKC (aR tE) (s.getD p 0) then some (.inl (st s (p+1) n)) else some (.inr (st s p n))):=by
     unfold fB;simp only[aMB,Int.toNat_natCast,Option.isSome_some,Option.getD_some];refine aE (fun h=>⟨by omega,by omega⟩) (aE (fun _=>trivial) ?_);refine aH7 (fun h=>?_) (fun h=>?_)
     ·rw[if_pos h];exact aE (by omega) rfl
     simp_all
    rw[this]
   by_cases hb:iE (s.getD p 0)=true
   ·have e:p+run iE s p=(p+1)+run iE s (p+1):=(by grind[aWp]);rw[e];refine aUf (d':=st s (p+1) n) ((g _).2 ?_) (q (p+1) (by omega) (by omega));have:¬aKC (aR tE) (s.getD p 0)<0:=fun h=>(bEE _).1 h hb;rw[if_pos ⟨by omega,by omega⟩]
   ·have e:run iE s p=0:=aUg (fun _=>by simp_all);simp_all[aIJ,bEE,if_neg]
 unfold oB;refine bA (f _ p rfl hp) ?_;unfold nY;refine aE (by grind) ?_;have J:List.drop (p:Int).toNat (List.take ((p+run iE s p:Nat):Int).toNat s)=aHW s p:=by
  rw[Int.toNat_natCast,Int.toNat_natCast,List.drop_take];simp_all[aHW]
 simp_all
theorem bMT(w:List Nat):aAp .str (aCw .str (aCw .str (aCw .str ([]:List (qd×Int)) (aR ⟨#[115,113,114]⟩) (11:Int)) (aR ⟨#[115,113,114,116]⟩) (12:Int)) (aR ⟨#[101,120,112]⟩) (13:Int)) w=bDl w:=by
 have e:aCw .str (aCw .str (aCw .str ([]:List (qd×Int)) (aR ⟨#[115,113,114]⟩) (11:Int)) (aR ⟨#[115,113,114,116]⟩) (12:Int)) (aR ⟨#[101,120,112]⟩) (13:Int)= [([115,113,114],11),([115,113,114,116],12),([101,120,112],13)]:=by decide
 simp_all[aAp,bDl,Ty.eqb,decide_eq_true_eq]
theorem aMh{s:List Nat}{p n:Nat}{x y:Option CR}{r:PR}(h:x=y)(c:Cor s p n y r):Cor s p n x r:=by simp_all
theorem bB0{s:List Nat}{p n:Nat}{x:Option CR}{f:CR→Option CR}{r:PR}(c:Cor s p n x r)(g:∀y,f y=some y):Cor s p n (x.bind f) r:=by
 cases r with
 | inl z =>
  obtain⟨N,O⟩:=z;obtain⟨b1,J,q,L,I⟩:=c;exact⟨b1,J,q,L,bA I (g _)⟩
 | inr z=>exact⟨c.1,bA c.2 (g _)⟩
theorem bIc{s:List Nat}(hs:s.length≤1099511627776):∀n,Gd s (gL none n) (yJ s n)
 | 0=>fun p n r hp hn f=>by cases f
 | k+1=>fun p n r hp hn f=>by
  have Y:=bIc hs k;have O:=aOC s p hp;show Cor s p n (jM none (gL none k) (st s p n)) r;generalize hg:gL none k=g at Y;rw[yJ] at f;unfold jM;have h45:aR ⟨#[45]⟩= [45]:=rfl;rw[h45];by_cases h:aMf s [45] (skp s p)
  ·rw[if_pos h] at f;have U:=h.1;refine aMh (bA (bDj hs hp h) (ify rfl rfl)) ?_;refine aQm (p:=skp s p+1) f (fun Z h=>Y _ n Z (by omega) (by omega) h) (fun e q J U N L I=>?_) (fun z=>rfl);obtain rfl:=Option.some.inj I;exact⟨by omega,N,J+1,by omega,bA (aMg _ _ _ s q J (by omega)) rfl⟩
  ·rw[if_neg h] at f;refine aMh (bA (bH7 hs hp h) (ifn xAf rfl)) ?_;generalize hq:skp s p=q at O f;refine Cor.mv (n':=n) O.1 (by omega) ?_;unfold aYl at f;by_cases U:s.length≤q
   ·rw[if_pos U] at f;obtain rfl:=Option.some.inj f;exact⟨O.2,ify (by grind) rfl⟩
   ·rw[if_neg U] at f;refine aMh (ifn (by grind) (aE (by simp_all) rfl)) ?_;have hc:(q:Int).toNat=q:=(by omega);by_cases N:s.getD q 0=40
    ·rw[if_pos N] at f;refine aMh (ify (by simp_all) rfl) ?_;exact bB0 (bK6 hs Y q n r O.2 (by omega) f) (fun y=>by grind)
    ·rw[if_neg N] at f;refine aMh (ifn (by simp_all) (aE (by simp_all) (aE rfl rfl))) ?_;by_cases L:aKn (s.getD q 0)=true
     ·rw[if_pos L] at f;have I:¬aKC (aR aBO) (s.getD q 0)<0:=fun e=>(bIb _).1 e L;refine aMh (ifn (by simp only[aMB,hc,Option.getD_some]; exact I) (bA (bKn hs O.2) rfl)) ?_;unfold bEC at f;simp only[bMT];have hw:=aZ2 iE s q;have hw1:1≤run iE s q:=(by grind[aWp,iE]);cases hf:bDl (aHW s q) with
      | none =>
       rw[hf] at f;obtain rfl:=Option.some.inj f;exact⟨by omega,by omega,n+1,by omega,(ifn xAf (bA (aMg _ _ _ s _ n (by omega)) rfl))⟩
      | some kd =>
       rw[hf] at f;refine aMh (ify rfl rfl) ?_;have f:aEU (pIn (yJ s k) s (q+run iE s q)) (fun e z=>some (.inl (Ex.mk kd [] [e],z)))=some r:=f;refine aQm (p:=q+run iE s q) f (fun Z h=>bK6 hs Y _ n Z (by omega) (by omega) h) (fun e q' J U N L I=>?_) (fun z=>rfl);obtain rfl:=Option.some.inj I;exact⟨by omega,N,J+1,by omega,bA (aMg _ _ _ s q' J (by omega)) rfl⟩
     ·rw[if_neg L] at f;have I:aKC (aR aBO) (s.getD q 0)<0:=(bIb _).2 L;refine aMh (ify (by simp only[aMB,hc,Option.getD_some]; exact I) rfl) ?_;grind[bB0,bL2]
theorem bKo{s:List Nat}(hs:s.length≤1099511627776){e:Ex}{q:Nat}(h:bDk (yJ s 1100) s 0=some (.inl (e,q)))(hq:skp s q=s.length)(J:uX none e=some true):kP none s=some (e,0,0,()):=by
 have:=bIa hs (bIc hs 1100) 0 0 _ (by omega) (by omega) h;obtain⟨I,z,g,L,f⟩:=this;unfold kP;refine bA f ?_;refine bA (aZ3 s hs _ q g rfl z) (ifn (by simp_all) ?_);exact aE (by simp_all) (ifn (by simp_all) rfl)
end
end Nu
end Go.Proofs

