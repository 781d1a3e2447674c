import Derived.Test.YthkfoehkabnlpaaGreatDoorZL5
import Derived.Test.YthkfoehkabnlpaaGreatDoorProg
import Derived.KernelRfl
import Derived.Laws.Externs
import Derived.Lib.TrailingZeros
set_option linter.unusedVariables false
set_option linter.unusedSimpArgs false
namespace Go.Proofs
open Go.Vc
set_option maxRecDepth 20000
namespace Nu
noncomputable section
theorem xC{p:Prop}(h:p:=by kernel_rfl):p:=h
theorem xAa{p:Prop}(h:p:=by decide):p:=h
theorem xAb{p:Prop}(h:p:=by simp only[go_sem]):p:=h
theorem xAc{p:Prop}(h:p:=by simp only[go_sem,bA F,bB F,bC F]):p:=h
theorem xAd{p:Prop}(h:p:=by simp only[bD,go_sem]):p:=h
theorem xAe{p:Prop}(h:p:=by simp only[bD,go_sem,bA F,bB F,bC F]):p:=h
abbrev qd:=List Nat
@[go_sem]abbrev qf:Ty:=.i .i64
@[go_sem]abbrev qh:Ty:=.u .u64
abbrev qk:=List qd
@[go_sem]abbrev qn:Ty:=.pair qf .unit
@[go_sem]abbrev qo:Ty:=.sl .str
@[go_sem]abbrev qp:Ty:=.pair .str (.pair .str .unit)
abbrev qq:=Int×Unit
@[go_sem]abbrev qr:Ty:=.sl qh
@[go_sem]abbrev qu:Ty:=.pair qh (.pair qh .unit)
abbrev qv:=Int×Int
@[go_sem]abbrev qz:Ty:=.u .u8
abbrev q8:=qd×(Int×(Bool×Unit))
abbrev q9:=List Int
@[go_sem]abbrev wc:Ty:=.pair .expr .unit
abbrev wd:=Int×(Unit×Unit)
@[go_sem]abbrev we:Ty:=.pair qr .unit
abbrev wg:=Nat×qd
@[go_sem]abbrev qa:Ty:=.pair .bool (.pair qr qn)
abbrev qi:=Bool×(qd×qq)
@[go_sem]abbrev qj:Ty:=.pair (.sl (.pair .str (.pair qp wc))) (.pair (.sl (.pair .str (.pair qp .unit))) (.pair qo (.pair (.sl (.pair .str wc)) .unit)))
@[go_sem]abbrev qw:Ty:=.pair qf (.pair qf (.pair qf (.pair .str (.pair .str (.pair .str (.pair .str (.pair (.sl (.pair .str qj)) (.pair (.sl (.pair .str (.pair .str qp))) .unit))))))))
@[go_sem]abbrev qx:Ty:=.pair qa (.pair qa .unit)
abbrev qc:=Int×(Int×(Int×((qi×(qi×Unit))×Unit)))
@[go_sem]abbrev qe:Ty:=.pair qf (.pair qf (.pair qf (.pair qx .unit)))
abbrev qm:=(List qc)×(q9×Unit)
@[go_sem]abbrev qy:Ty:=.pair (.sl qe) (.pair (.sl qf) .unit)
abbrev qg:=Int×(Int×(qk×(qk×(qk×qm))))
@[go_sem]abbrev qt:Ty:=.pair qf (.pair qf (.pair qf (.pair qa (.pair qa (.pair qa (.pair qa (.pair (.sl qy) (.pair (.sl qy) (.pair (.sl (.sl qx)) (.pair (.sl (.sl qx)) (.pair (.sl (.sl (.arr 2 qf))) (.pair (.sl (.arr 2 qf)) .unit))))))))))))
@[go_sem]theorem gam_in{a b:FuncId}{s:aF}{l:List (FuncId×aF)}:gam ((a,s)::l) b=if a=b then some s else gam l b:=rfl
structure Hq(p:Prop):Prop where
 a:p
theorem yaA {p q:Prop} (a:q) (h:Hq q→p:=by
 intro hq;simp only[go_sem];exact hq.a):p:=h ⟨a⟩
theorem yaB {p q:Prop} (a:q) (h:Hq q→p:=by
 intro hq;repeat (refine⟨zAD,?_⟩)
 exact hq.a):p:=h ⟨a⟩
theorem yaC {p q:Prop} (a:q) (h:Hq q→p:=by
 intro hq;simp only[ren,gE,mG,posOf,eP,go_sem];exact hq.a):p:=h ⟨a⟩
theorem yaD {p q:Prop} (a:q) (h:Hq q→p:=by
 intro hq;simp only[go_sem];repeat (refine⟨zAA,?_⟩)
 exact hq.a):p:=h ⟨a⟩
theorem yaE {p q:Prop} (a:q) (h:Hq q→p:=by
 intro hq;repeat (refine⟨zAB,?_⟩)
 exact hq.a):p:=h ⟨a⟩
theorem yaF {p q:Prop} (h:p) (t:p→q:=by
 intro h;try dsimp only at h
 exact h):q:=t h
theorem zaA {p:Prop} (h:p:=by
 skip;unfold anyS;intro i hi;have hi:i=2∨i=3:=by revert hi; revert i; decide
 rcases hi with rfl|rfl
 ·simp only[go_sem];skip;unfold anyS;intro i hi;have hi:i=3:=by revert hi; revert i; decide
  subst hi;simp only[go_sem];skip;unfold anyS;intro i hi;have hi:i=4:=by revert hi; revert i; decide
  subst hi;simp only[go_sem];skip
  (simp only[anyS,go_sem])<;>first|exact⟨rfl,rfl⟩|trivial
 ·simp only[go_sem];skip;unfold anyS;intro i hi;have hi:i=2:=by revert hi; revert i; decide
  subst hi;simp only[go_sem];skip;unfold anyS;intro i hi;have hi:i=4:=by revert hi; revert i; decide
  subst hi;simp only[go_sem];skip
  (simp only[anyS,go_sem])<;>first|exact⟨rfl,rfl⟩|trivial):p:=h
theorem zaB {p:Prop} (h:p:=by
 exact aQ hV [.tmp 4] rfl rfl rfl (aC h) xAd):p:=h
theorem zaC {p:Prop} (h:p:=by
 (try simp only[bD,yO,xW,jD,lB,AV.isAgg,go_sem])<;>first|trivial|rfl|(simp; done)):p:=h
theorem zaD {p:Prop} (h:p:=by
 exact aQ hV [.tmp 2] rfl rfl rfl (aC h) xAd):p:=h
theorem zaE {p:Prop} (h:p:=by
 subst hi;simp only[go_sem];skip;unfold anyS;intro i hi;have hi:i=4:=by revert hi; revert i; decide
 subst hi;simp only[go_sem];skip
 (simp only[anyS,go_sem])<;>first|exact⟨rfl,rfl⟩|trivial):p:=h
theorem zaF {p:Prop} (h:p:=by
 obtain rfl:=eG h;refine sQ [] rfl rfl (yaC ?_);refine mD rfl rfl rfl rfl):p:=h
theorem zaG {p:Prop} (h:p:=by
 exact aR _ h rfl xAb):p:=h
theorem zaH {p:Prop} (h:p:=by
 subst hi;simp only[go_sem];repeat (refine⟨zAA,?_⟩)
 unfold anyS;intro i hi;have hi:i=3:=by revert hi; revert i; decide
 subst hi;simp only[go_sem];repeat (refine⟨zAA,?_⟩)
 (simp only[anyS,go_sem])<;>first|exact⟨rfl,rfl⟩|trivial):p:=h
theorem zaI {p:Prop} (h:p:=by
 (try simp only[mC,bD,go_sem])<;>first|rfl|(simp; done)):p:=h
theorem zaJ {p:Prop} (h:p:=by
 skip;unfold anyS;intro i hi;have hi:i=1∨i=3:=by revert hi; revert i; decide
 rcases hi with rfl|rfl
 ·simp only[go_sem];exact zaA
 ·simp only[go_sem];skip;unfold anyS;intro i hi;have hi:i=1:=by revert hi; revert i; decide
  subst hi;simp only[go_sem];skip;unfold anyS;intro i hi;have hi:i=2:=by revert hi; revert i; decide
  exact zaE):p:=h
theorem zaK {p:Prop} (h:p:=by
 simp only[go_sem];refine aK (aP hF [0,1,2,9] (yaA ?_));refine aL (cW rfl (fun hc=>?_) (fun hc=>absurd hc xAa));refine aBy hF [] [] [.box 3 (.val qa (false,([]:List Nat),(0:Int),())),.box 1 (.val qf x.1),.box 1 (.val qn x)] xAa ?_ ?_
 ·simp only[go_sem];unfold anyS;intro i hi;have hi:i=0∨i=1:=by revert hi; revert i; decide
  rcases hi with rfl|rfl
  ·simp only[go_sem];exact zaJ
  ·simp only[go_sem];skip;unfold anyS;intro i hi;have hi:i=0∨i=2:=(by revert hi; revert i; decide);rcases hi with rfl|rfl
   ·simp only[go_sem];exact zaA
   ·simp only[go_sem];skip;unfold anyS;intro i hi;have hi:i=0:=(by revert hi; revert i; decide);subst hi;simp only[go_sem];skip;unfold anyS;intro i hi;have hi:i=3:=(by revert hi; revert i; decide);exact zaE
 refine nU [0,1] rfl rfl (yaC ?_);refine xL (oM hF [] rfl rfl rfl rfl rfl rfl ?_);simp only[bD,yO,xW,go_sem];try decide):p:=h
theorem zaL {p:Prop} (h:p:=by
 obtain⟨d,e⟩:=d;show mF _ _ _ [(5,.val .nili ()),(0,.ptr 0 []),(1,.ptr 1 [])] [.box 3 (.val qa d),.box 1 (.val qf e)] _;simp only[go_sem];refine aK (aP hF [0,1,2,9] (yaA ?_));refine aL (cW rfl (fun hc=>absurd hc xAa) (fun hc=>?_));refine dZ ?_;refine nU [0,1] rfl rfl (yaC ?_);refine xL (oM hF [] rfl rfl rfl rfl rfl rfl ?_);simp only[bD,yO,xW,go_sem];try decide):p:=h
theorem zaM {p:Prop} (h:p:=by
 repeat (refine⟨by first|with_reducible assumption|omega|(intros; first|with_reducible assumption|omega)|(intro _; exact⟨rfl,by decide⟩)|(intro _; refine(?_:_=aM _); rfl)|(refine(?_:_=aM _); rfl)|exact⟨rfl,rfl⟩|(intro q0; (try have e0:=g0 (by first|exact q0|omega|(simpa using q0))); first|assumption|omega)|decide,?_⟩)
 exact zaB):p:=h
theorem zaN {p:Prop} (h:p:=by
 have h:=pK zAC h;refine aK (aP hF [2] (yaA ?_));obtain rfl:=Option.some.inj h;refine aL (jO (aAb (kX (mE hF [.tmp 2] rfl rfl rfl ?_))));exact zaI):p:=h
theorem zaO {p:Prop} (h:p:=by
 simp only[hv,go_sem];repeat (refine⟨zAB,?_⟩)
 exact aR () h rfl (by (try simp only[nZ,jD,true_or,and_self,go_sem])<;>(repeat' apply And.intro)<;>first|rfl|(left; rfl)|(right; rfl)|(left; simp only[go_sem]; done)|(right; simp only[go_sem]; done)|(simp; done)|(simp only[*]; done)|omega)):p:=h
theorem zaP {p:Prop} (h:p:=by
 exact aR _ h rfl xAc):p:=h
theorem zaQ {p:Prop} (h:p:=by
 exact aR _ h rfl (by (try simp only[nZ,jD,true_or,and_self,go_sem])<;>(repeat' apply And.intro)<;>first|rfl|(left; rfl)|(right; rfl)|(left; simp only[go_sem]; done)|(right; simp only[go_sem]; done)|(simp; done)|(simp only[*]; done)|omega)):p:=h
theorem zaR {p:Prop} (h:p:=by
 exact aQ hV [.tmp 2,.tmp 3,.tmp 4] rfl rfl rfl (aC h) xAd):p:=h
theorem zaS {p:Prop} (h:p:=by
 refine aL1 h (fun hc h=>?_) fun hc h=>?_
 ·obtain rfl:=eG h;refine mD rfl rfl rfl rfl
 ·obtain rfl:=eG h;refine xL (oM hF [] rfl rfl rfl rfl rfl rfl ?_);exact zaC):p:=h
theorem zaT {p:Prop} (h:p:=by
 simp only[hv,go_sem];exact zaF):p:=h
theorem zaU {p:Prop} (h:p:=by
 exact aQ hV [.tmp 6] rfl rfl rfl (aC h) xAd):p:=h
theorem zAA{p:Prop}(h:p:=by first|with_reducible assumption|omega|(intros; first|with_reducible assumption|omega)|(simp only[go_sem] at *; first|with_reducible assumption|omega)|(intro _; exact⟨rfl,by decide⟩)|(intro _; refine(?_:_=aM _); rfl)|(refine(?_:_=aM _); rfl)|exact⟨rfl,rfl⟩|decide):p:=h
theorem zAB{p:Prop}(h:p:=by first|with_reducible assumption|omega|(intros; first|with_reducible assumption|omega)|(intro _; exact⟨rfl,by decide⟩)|(intro _; refine(?_:_=aM _); rfl)|(refine(?_:_=aM _); rfl)|exact⟨rfl,rfl⟩|decide):p:=h
theorem zAC{p:Prop}(h:p:=by first|exact hc|omega|(simpa using hc)|(simp at hc ⊢; omega)):p:=h
theorem zAD{p:Prop}(h:p:=by first|with_reducible assumption|omega):p:=h
theorem zAE{p:Prop}(h:p:=by (try simp only[nZ,jD,true_or,and_self,go_sem])<;>(repeat' apply And.intro)<;>first|rfl|(left; rfl)|(right; rfl)|(left; simp only[go_sem]; done)|(right; simp only[go_sem]; done)|(simp; done)|(simp only[*]; done)|omega):p:=h
def aQC:List Nat:=[0,1,56,2,57,49,28,3,61,58,42,50,38,29,17,4,62,47,59,36,45,43,51,22,53,39,33,30,24,18,12,5,63,55,48,27,60,41,37,16,46,35,44,21,52,32,23,11,54,26,40,15,34,20,31,10,25,14,19,9,13,8,7,6]
theorem aSt:aQC= [0,1,56,2,57,49,28,3,61,58,42,50,38,29,17,4,62,47,59,36,45,43,51,22,53,39,33,30,24,18,12,5,63,55,48,27,60,41,37,16,46,35,44,21,52,32,23,11,54,26,40,15,34,20,31,10,25,14,19,9,13,8,7,6]:=rfl
def p10:List Nat:=[1,10,100,1000,10000,100000,1000000,10000000,100000000,1000000000,10000000000,100000000000,1000000000000,10000000000000,100000000000000,1000000000000000,10000000000000000,100000000000000000,1000000000000000000,10000000000000000000]
theorem aWi:p10= [1,10,100,1000,10000,100000,1000000,10000000,100000000,1000000000,10000000000,100000000000,1000000000000,10000000000000,100000000000000,1000000000000000,10000000000000000,100000000000000000,1000000000000000000,10000000000000000000]:=rfl
def GL:Nat→AV
 | 2=>.roa (.arr 64 qz) aQC
 | 8=>.roa (.arr 20 qh) p10
 | _=>.junk
theorem GL0:GL 2= .roa (.arr 64 qz) aQC:=rfl
theorem GL3:GL 8= .roa (.arr 20 qh) p10:=rfl
attribute [go_sem] GL0 GL3 mSpec
def tab:List (TypeId×Ty):=[(234,.clo 170 .unit),(2,.i .i64),(3,.i .i64),(4,.bool),(5,.u .u8),(9,.str),(21,.i .i32),(22,.sl .expr),(24,.expr),(25,.sl .str),(28,.sl qe),(29,.sl qf),(31,.pair (.sl qe) (.pair (.sl qf) .unit)),(36,.u .u64),(37,.nilf),(38,.sl qh),(40,.pair .bool (.pair qr qn)),(42,.pair qa (.pair qa .unit)),(44,.pair qf (.pair qf (.pair qf (.pair qx .unit)))),(47,.sl qy),(48,.sl (.sl qx)),(49,.sl (.sl (.arr 2 qf))),(50,.sl (.arr 2 qf)),(52,.pair qf qt),(55,.sl (.pair .str qj)),(56,.sl (.pair .str (.pair .str qp))),(58,.pair qf qw),(67,.pair (.sl qe) (.pair qo (.pair qo (.pair qo qn)))),(75,.sl (.sl (.sl qf))),(76,.sl (.pair .str (.pair qp wc))),(77,.sl (.pair .str (.pair qp .unit))),(78,.sl (.pair .str wc)),(80,.pair .str qj),(83,.sl (.sl qf)),(88,.pair .str (.pair .str .unit)),(90,.pair .str (.pair qp wc)),(92,.pair .str wc),(93,.sl qo),(108,.pair .str (.pair .str qp)),(111,.arr 2 qf),(119,.u .u64),(122,.sl qx),(125,.pair .str (.pair qp .unit)),(129,.sl .bool),(149,.sl (.u .u32)),(153,.pair .bool (.pair (.sl (.u .u32)) qn)),(154,.u .u32),(159,.sl qa),(169,.nili),(180,.sl qz),(188,.nilf),(191,.pair qf .unit),(194,.pair qf .unit),(219,.i .i64),(237,.arr 256 (.bool)),(242,.i .i64),(248,.u .u64),(254,.arr 64 qz),(274,.pair .str .unit),(275,.arr 256 qz),(277,.pair qz (.pair qz .unit)),(278,.arr 16 (.pair qz (.pair qz .unit))),(283,.arr 24 qz),(287,.arr 20 qh),(288,.arr 65 qz),(289,.arr 32 qz)]
def elT:TypeId→TypeId
 | 22=>24
 | 25=>9
 | 28=>44
 | 29=>3
 | 38=>119
 | 47=>31
 | 48=>122
 | 49=>50
 | 50=>111
 | 55=>80
 | 56=>108
 | 75=>83
 | 76=>90
 | 77=>125
 | 78=>92
 | 83=>29
 | 93=>25
 | 122=>42
 | 129=>4
 | 149=>154
 | 159=>40
 | 180=>5
 | _=>0
def mpT:TypeId→Option (TypeId×TypeId)
 | 134=>some (111,4)
 | 166=>some (9,4)
 | 182=>some (3,3)
 | _=>none
theorem aOW:eO Tryz.prog (aCB tab):=aT5 xC
theorem bBu:∀t I,aCB tab t=some (.sl I)→Tryz.prog.underlying t=some (.slice (elT t)):=aXw xC
theorem bBv:∀t k e,mpT t=some (k,e)→Tryz.prog.underlying t=some (.map k e):=by
 intro t k e h;unfold mpT at h;split at h
 ·cases h; rfl
 ·cases h; rfl
 ·cases h; rfl
 ·cases h
def TM:Tab:=aCB tab
def EM(l:List (FuncId×aF)):Env:=⟨TM,GL,fun f _=>gam l f,elT,mpT,fun _=>none,fun _=>false,false⟩
def dmT:TypeId→Option Mk
 | 25=>some .no
 | 28=>some .no
 | 29=>some .no
 | 55=>some (.pair .no (.pair (.sl 90 .no) (.pair (.sl 125 .no) (.pair (.sl 9 .no) (.pair (.sl 92 .no) .no)))))
 | 56=>some .no
 | 76=>some .no
 | 77=>some .no
 | 78=>some .no
 | _=>none
def dzT:TypeId→Bool
 | 31=>true
 | 58=>true
 | 80=>true
 | _=>false
def EX(l:List (FuncId×aF)):Env:=⟨TM,GL,fun f _=>gam l f,elT,mpT,dmT,dzT,false⟩
theorem bB8(l:List (FuncId×aF))(t:TypeId):(EM l).T t=TM t:=rfl
theorem bB9(l:List (FuncId×aF))(t:Nat):(EM l).G t=GL t:=rfl
theorem bCa(l:List (FuncId×aF))(f:FuncId)(vs:List AV):(EM l).Γ f vs=gam l f:=rfl
theorem bBw(l:List (FuncId×aF))(t:TypeId):(EM l).el t=elT t:=rfl
theorem bBx(l:List (FuncId×aF))(t:TypeId):(EM l).mp t=mpT t:=rfl
theorem bQ{l:List (FuncId×aF)}(h:bU Tryz.prog GL l):dB Tryz.prog (EM l):=aN2 aOW bBu bBv h
theorem mix:Tryz.prog.follows .mixedOrders=true:=by kernel_rfl
theorem bBy(l:List (FuncId×aF))(t:TypeId):(EM l).dm t=none:=rfl
theorem bBz(l:List (FuncId×aF))(t:TypeId):(EM l).dz t=false:=rfl
theorem bCb(l:List (FuncId×aF)):(EM l).w=false:=rfl
theorem bCc(l:List (FuncId×aF)):(EX l).w=false:=rfl
theorem bCd(l:List (FuncId×aF))(t:TypeId):(EX l).T t=TM t:=rfl
theorem bCe(l:List (FuncId×aF))(t:Nat):(EX l).G t=GL t:=rfl
theorem bCf(l:List (FuncId×aF))(f:FuncId)(vs:List AV):(EX l).Γ f vs=gam l f:=rfl
theorem bBA(l:List (FuncId×aF))(t:TypeId):(EX l).el t=elT t:=rfl
theorem bBB(l:List (FuncId×aF))(t:TypeId):(EX l).mp t=mpT t:=rfl
theorem bBC(l:List (FuncId×aF))(t:TypeId):(EX l).dm t=dmT t:=rfl
theorem bBD(l:List (FuncId×aF))(t:TypeId):(EX l).dz t=dzT t:=rfl
theorem aSu{l:List (FuncId×aF)}(h:bU Tryz.prog GL l):dB Tryz.prog (EX l):=aN2 aOW bBu bBv h
attribute [go_sem] bCb bCc bBy bBz bCd bCe bCf bBA bBB bBC bBD dmT dzT
theorem T2:TM 2=some qf:=rfl
theorem T3:TM 3=some qf:=rfl
theorem T4:TM 4=some (.bool):=rfl
theorem T5:TM 5=some qz:=rfl
theorem T9:TM 9=some (.str):=rfl
theorem T21:TM 21=some (.i .i32):=rfl
theorem T22:TM 22=some (.sl .expr):=rfl
theorem T24:TM 24=some (.expr):=rfl
theorem T25:TM 25=some qo:=rfl
theorem T28:TM 28=some (.sl qe):=rfl
theorem T29:TM 29=some (.sl qf):=rfl
theorem T31:TM 31=some qy:=rfl
theorem T36:TM 36=some qh:=rfl
theorem T37:TM 37=some (.nilf):=rfl
theorem T38:TM 38=some qr:=rfl
theorem T40:TM 40=some qa:=rfl
theorem T42:TM 42=some qx:=rfl
theorem T44:TM 44=some qe:=rfl
theorem T47:TM 47=some (.sl qy):=rfl
theorem T48:TM 48=some (.sl (.sl qx)):=rfl
theorem T49:TM 49=some (.sl (.sl (.arr 2 qf))):=rfl
theorem T50:TM 50=some (.sl (.arr 2 qf)):=rfl
theorem T52:TM 52=some (.pair qf qt):=rfl
theorem T55:TM 55=some (.sl (.pair .str qj)):=rfl
theorem T56:TM 56=some (.sl (.pair .str (.pair .str qp))):=rfl
theorem T58:TM 58=some (.pair qf qw):=rfl
theorem T67:TM 67=some (.pair (.sl qe) (.pair qo (.pair qo (.pair qo qn)))):=rfl
theorem T75:TM 75=some (.sl (.sl (.sl qf))):=rfl
theorem T76:TM 76=some (.sl (.pair .str (.pair qp wc))):=rfl
theorem T77:TM 77=some (.sl (.pair .str (.pair qp .unit))):=rfl
theorem T78:TM 78=some (.sl (.pair .str wc)):=rfl
theorem T80:TM 80=some (.pair .str qj):=rfl
theorem T83:TM 83=some (.sl (.sl qf)):=rfl
theorem T88:TM 88=some qp:=rfl
theorem T90:TM 90=some (.pair .str (.pair qp wc)):=rfl
theorem T92:TM 92=some (.pair .str wc):=rfl
theorem T93:TM 93=some (.sl qo):=rfl
theorem bCg:TM 108=some (.pair .str (.pair .str qp)):=rfl
theorem bCh:TM 111=some (.arr 2 qf):=rfl
theorem bCi:TM 119=some qh:=rfl
theorem bCj:TM 122=some (.sl qx):=rfl
theorem bCk:TM 125=some (.pair .str (.pair qp .unit)):=rfl
theorem bCl:TM 129=some (.sl .bool):=rfl
theorem bCm:TM 149=some (.sl (.u .u32)):=rfl
theorem bCn:TM 153=some (.pair .bool (.pair (.sl (.u .u32)) qn)):=rfl
theorem bCo:TM 154=some (.u .u32):=rfl
theorem bCp:TM 159=some (.sl qa):=rfl
theorem bCq:TM 169=some (.nili):=rfl
theorem bCr:TM 180=some (.sl qz):=rfl
theorem bCs:TM 188=some (.nilf):=rfl
theorem bCt:TM 191=some qn:=rfl
theorem bCu:TM 194=some qn:=rfl
theorem bCv:TM 219=some qf:=rfl
theorem bCw:TM 237=some (.arr 256 (.bool)):=rfl
theorem bCx:TM 242=some qf:=rfl
theorem bCy:TM 248=some qh:=rfl
theorem bCz:TM 254=some (.arr 64 qz):=rfl
theorem bCA:TM 274=some (.pair .str .unit):=rfl
theorem bCB:TM 275=some (.arr 256 qz):=rfl
theorem bCC:TM 277=some (.pair qz (.pair qz .unit)):=rfl
theorem bCD:TM 278=some (.arr 16 (.pair qz (.pair qz .unit))):=rfl
theorem bCE:TM 283=some (.arr 24 qz):=rfl
theorem bCF:TM 287=some (.arr 20 qh):=rfl
theorem bCG:TM 288=some (.arr 65 qz):=rfl
theorem bCH:TM 289=some (.arr 32 qz):=rfl
theorem bCI:TM 234=some (.clo 170 .unit):=rfl
attribute [go_sem] bB8 bB9 bCa bBw bBx elT mpT bCI T2 T3 T4 T5 T9 T21 T22 T24 T25 T28 T29 T31 T36 T37 T38 T40 T42 T44 T47 T48 T49 T50 T52 T55 T56 T58 T67 T75 T76 T77 T78 T80 T83 T88 T90 T92 T93 bCg bCh bCi bCj bCk bCl bCm bCn bCo bCp bCq bCr bCs bCt bCu bCv bCw bCx bCy bCz bCA bCB bCC bCD bCE bCF bCG bCH
def jH(x y c:Nat):Nat×Nat×Unit:=((x+y+c)%18446744073709551616,(x+y+c)/18446744073709551616,())
def aAr(x y c:Nat):Nat×Nat×Unit:=((x+18446744073709551616-y-c)%18446744073709551616,(if x<y+c then 1 else 0),())
abbrev wS(x y c:Nat):Prop:=c≤1
@[go_sem]def aEh:Ty:=.pair qh qu
@[go_sem]def iK:aF:=⟨aEh,.tup qu,fun x=>wS x.1 x.2.1 x.2.2.1,fun x=>jH x.1 x.2.1 x.2.2.1⟩
@[go_sem]def aEi:Ty:=.pair qh qu
@[go_sem]def sT:aF:=⟨aEi,.tup qu,fun x=>wS x.1 x.2.1 x.2.2.1,fun x=>aAr x.1 x.2.1 x.2.2.1⟩
theorem aMA{w:World}{S:Nat→Prop}{x:Nat}{v:Value}(h:bR w S qh x v):v= .int .u64 (x:Int):=by
 unfold bR at h;rw[if_neg (by simp[Ty.isAgg])] at h;simp only[aJ,List.cons.injEq,and_true] at h;exact h.1
theorem aJa{w:World}{S:Nat→Prop}{vs:List Value}{x:Nat×Nat×Nat×Unit}(h:jL w S (.pair qh qu) x vs):vs= [.int .u64 (x.1:Int),.int .u64 (x.2.1:Int),.int .u64 (x.2.2.1:Int)]:=by
 obtain⟨v1,r1,rfl,U,v2,r2,rfl,N,v3,J,rfl,Y,I⟩:=h;rw[aMA U,aMA N,aMA Y];have I:J= []:=I;rw[I]
theorem aWj{w:World}{S:Nat→Prop}{x:Nat}(h:x<18446744073709551616):bR w S qh x (.int .u64 (x:Int)):=by
 unfold bR;rw[if_neg (by simp[Ty.isAgg])];refine⟨rfl,rfl,?_⟩;simp[IntKind.max,IntKind.signed,IntKind.bits]; omega
theorem aOX{w:World}{S:Nat→Prop}{x y:Nat}(J:x<18446744073709551616)(I:y<18446744073709551616):jL w S qu (x,y,()) [.int .u64 (x:Int),.int .u64 (y:Int)] :=
 ⟨_,_,rfl,aWj J,_,_,rfl,aWj I,rfl⟩
theorem wf_u64{x:Nat}(h:(Ty.u .u64).wf x):x<18446744073709551616:=by
 simp only[Ty.wf,IntKind.max,IntKind.signed,IntKind.bits] at h;simp at h; omega
def wR:Array Value→Sem Value:=fun args=>do
 let (x,y,b) ← Extern.MathBitsCarry.three "Sub64" args
 pure (Extern.MathBitsCarry.pair ((x+Extern.MathBitsCarry.m64-y-b)%Extern.MathBitsCarry.m64) (if x<y+b then 1 else 0))
theorem aFG{P:Program}(x y b:Nat)(hb:b≤1)(w:World) :
  (wR #[.int .u64 x,.int .u64 y,.int .u64 b]).run P w =
   .ok (.tuple #[.int .u64 (((x+18446744073709551616-y-b)%18446744073709551616:Nat):Int),.int .u64 ((if x<y+b then 1 else 0:Nat):Int)]) w:=by
 have:b=0∨b=1:=by omega
 rcases this with rfl|rfl<;>rfl
theorem xY:NOK Tryz.prog GL 105 iK:=by
 refine aUD fun w S Y x I hp=>?_;have hp:x.2.2.1≤1:=hp;have U:=aCl _ _ _ I;obtain⟨N,J,h3,_⟩:=U;have N:=wf_u64 N;have J:=wf_u64 J;rw[aJa I];refine⟨[.int .u64 (((x.1+x.2.1+x.2.2.1)%18446744073709551616:Nat):Int),.int .u64 (((x.1+x.2.1+x.2.2.1)/18446744073709551616:Nat):Int)],?_,aOX (by omega) (by omega)⟩;rw[run_callFunc_extern Tryz.func105 xC xC xC (e:=add64Entry) xC,run_add64 x.1 x.2.1 x.2.2.1 (by omega) (by omega) (by omega) (by omega)];simp only[Result.andThen]
 congr 5<;>omega
theorem aKc:NOK Tryz.prog GL 144 sT:=by
 refine aUD fun w S Y x I hp=>?_;have hp:x.2.2.1≤1:=hp;have U:=aCl _ _ _ I;obtain⟨N,J,h3,_⟩:=U;have N:=wf_u64 N;have J:=wf_u64 J;rw[aJa I];refine⟨[.int .u64 (((x.1+18446744073709551616-x.2.1-x.2.2.1)%18446744073709551616:Nat):Int),.int .u64 ((if x.1<x.2.1+x.2.2.1 then 1 else 0:Nat):Int)],?_,aOX (by omega) (by split<;>omega)⟩;rw[run_callFunc_extern Tryz.func144 xC xC xC (e:=wR) xC,aFG x.1 x.2.1 x.2.2.1 hp];rfl
abbrev aTJ(s:List Nat):Prop:=s.length*8≤140737488355328
@[go_sem]def lY:Ty:=.pair qr .unit
@[go_sem]def bL:aF:=⟨lY,.own 119 qh,fun x=>aTJ x.1,fun x=>id x.1⟩
abbrev rX(F:Md):List (FuncId×aF):=[]
theorem rY(F:Md):bU Tryz.prog GL (rX F):=.nil
theorem iE:FOK Tryz.prog GL 97 bL:=by
 refine aUx (bQ (rY none)) Tryz.func97 rfl xC xAa fun w0 S x J hp=>?_;have hF:oY (fr Tryz.prog (EM (rX none)) S w0 Tryz.f97.ntmps):=⟨bQ (rY none),mix⟩;obtain⟨(s:qd),u⟩:=x;have hp:s.length*8≤140737488355328:=hp;simp only[cC,lY,bL];refine aK (aP hF [0,2] (yaA ?_));refine aL (aK (aK (aTg hF rfl rfl rfl fun b hb=>?_)));refine aL (cW rfl (fun hc=>?_) (fun hc=>?_))
 ·have I:=hb hc;refine aK (aP hF [2] (yaA ?_));refine aL (jO (kX (mE hF [.tmp 2] rfl rfl rfl ?_)));simp only[mC,bD,go_sem,I];try trivial
 ·refine dZ (aL (aK (bT hF [2] (yaA ?_))));refine⟨by omega,?_⟩;refine aL (jO (mE hF [.tmp 2] rfl rfl rfl ?_));simp only[mC,bD,go_sem];try trivial
def nv:List Nat→Nat
 | []=>0
 | x::r=>x+18446744073709551616*nv r
def lbF:Nat→Nat→List Nat
 | 0,_=>[]
 | k+1,n=>if n=0 then [] else n%18446744073709551616::lbF k (n/18446744073709551616)
def lb(n:Nat):List Nat:=lbF n n
theorem aWk:∀(k m n:Nat),n≤k→n≤m→lbF k n=lbF m n
 | 0,m,n,I,J=>by
  obtain rfl:n=0:=by omega
  cases m<;>rfl
 | k+1,0,n,I,J=>by
  obtain rfl:n=0:=by omega
  rfl
 | k+1,m+1,n,I,J=>by
  rw[lbF,lbF];by_cases h:n=0
  ·simp_all
  ·rw[if_neg h,if_neg h];have hd:n/18446744073709551616<n:=Nat.div_lt_self (by omega) xAa;rw[aWk k m (n/18446744073709551616) (by omega) (by omega)]
def Lm(a:List Nat):Prop:=∀x∈a,x<18446744073709551616
def Nrm(a:List Nat):Prop:=a.getLastD 1≠0
instance (a:List Nat):Decidable (Nrm a):=inferInstanceAs (Decidable (_≠_))
theorem aMB:nv []=0:=rfl
theorem kE(x:Nat)(r:List Nat):nv (x::r)=x+18446744073709551616*nv r:=rfl
theorem sU:lb 0= []:=rfl
theorem aFH{n:Nat}(h:n≠0):lb n=n%18446744073709551616::lb (n/18446744073709551616):=by
 obtain⟨k,rfl⟩:∃k,n=k+1:=⟨n-1,by omega⟩;have hd:(k+1)/18446744073709551616<k+1:=Nat.div_lt_self (by omega) xAa;rw[lb,lbF,if_neg h,lb,aWk k ((k+1)/18446744073709551616) ((k+1)/18446744073709551616) (by omega) (Nat.le_refl _)]
theorem nR(n:Nat):nv (lb n)=n:=by
 induction n using Nat.strongRecOn with
 | _ n I =>
  by_cases h:n=0
  ·subst h; rfl
  grind[aFH,kE,Nat.div_lt_self,Nat.mod_add_div]
theorem aCI(n:Nat):Lm (lb n):=by
 induction n using Nat.strongRecOn with
 | _ n J =>
  by_cases h:n=0
  ·subst h; rw[sU]; intro x I; cases I
  ·rw[aFH h];intro x I;rcases List.mem_cons.1 I with rfl|I
   ·omega
   ·exact J (n/18446744073709551616) (Nat.div_lt_self (by omega) xAa) x I
theorem aFI{n:Nat}:lb n= []↔n=0:=by
 constructor
 ·grind[Nat.eq_zero_or_pos,aFH]
 ·rintro rfl; rfl
theorem aMC:Nrm []:=by decide
theorem aWl{x:Nat}{r:List Nat}(h:Nrm r)(I:r= []→x≠0):Nrm (x::r):=by
 grind[Nrm]
theorem aFJ(n:Nat):Nrm (lb n):=by
 induction n using Nat.strongRecOn with
 | _ n I =>
  by_cases h:n=0
  ·grind[sU,aMC]
  ·rw[aFH h];grind[aWl,Nat.div_lt_self,aFI,Nat.div_add_mod]
theorem aSv{x:Nat}{r:List Nat}(h:Lm (x::r)):x<18446744073709551616∧Lm r:=⟨h x (by simp),fun y I=>h y (by simp[I])⟩
theorem aWm{a b:List Nat}(I:Lm a)(hb:Lm b):Lm (a++b):=fun x J=>(List.mem_append.1 J).elim (I x) (hb x)
theorem aJb{x y:Nat}{r:List Nat}(h:Nrm (x::y::r)):Nrm (y::r):=by
 grind[Nrm]
theorem aCt{a:List Nat}(h:Nrm a)(I:a≠ []):0<nv a:=by
 induction a with
 | nil=>simp_all
 | cons x r J =>
  rw[kE];cases r with
  | nil=>grind[Nrm,aMB]
  | cons y r =>
   grind[aJb,nv,Nat.mul_le_mul_left]
theorem aSw{a:List Nat}(J:Lm a)(hn:Nrm a):lb (nv a)=a:=by
 induction a with
 | nil=>rfl
 | cons x r Y =>
  have hx:=aSv J;have I:nv (x::r)≠0:=by grind[aCt]
  have U:nv (x::r)%18446744073709551616=x:=by grind[kE,Nat.add_mul_mod_self_left,Nat.mod_eq_of_lt]
  have N:nv (x::r)/18446744073709551616=nv r:=by simp_all[kE,Nat.add_mul_div_left,Nat.div_eq_of_lt,Nat.zero_add]
  rw[aFH I,U,N];cases r with
  | nil=>rfl
  | cons y r=>grind[aJb]
theorem aFK(a b:List Nat):nv (a++b)=nv a+18446744073709551616^a.length*nv b:=by
 induction a with
 | nil=>simp[nv]
 | cons x r I =>
  rw[List.cons_append,kE,kE,I,List.length_cons,Nat.pow_succ,Nat.mul_add];grind
theorem jG{a:List Nat}(I:Lm a):nv a<18446744073709551616^a.length:=by
 induction a with
 | nil=>simp[nv]
 | cons x r J =>
  have N:=aSv I;grind[kE,List.length_cons,Nat.pow_succ]
theorem aSx{a:List Nat}(N:Nrm a)(I:a≠ []):18446744073709551616^(a.length-1)≤nv a:=by
 induction a with
 | nil=>simp_all
 | cons x r J =>
  cases r with
  | nil=>grind[aCt]
  | cons y r =>
   grind[aJb,kE,List.length_cons,Nat.add_sub_cancel]
theorem nV{n k:Nat}:(lb n).length≤k↔n<18446744073709551616^k:=by
 constructor
 ·intro h;have:=jG (aCI n);grind[nR,Nat.lt_of_lt_of_le,Nat.pow_le_pow_right]
 ·intro h;by_cases J:n=0
  ·simp_all[sU,Nat.zero_le]
  ·have I:lb n≠ []:=fun e=>J (aFI.1 e);have:=aSx (aFJ n) I;rw[nR] at this;have N:18446744073709551616^((lb n).length-1)<18446744073709551616^k:=Nat.lt_of_le_of_lt this h;grind[Nat.pow_lt_pow_iff_right]
theorem aFL(n:Nat):nv (List.replicate n 0)=0:=by
 induction n with
 | zero=>rfl
 | succ n I=>rw[List.replicate_succ,kE,I]
theorem qY(a:List Nat)(k:Nat):nv a=nv (a.take k)+18446744073709551616^(min k a.length)*nv (a.drop k):=by
 grind[aFK,List.take_append_drop,List.length_take]
theorem xN{a:List Nat}(h:Lm a)(k:Nat):Lm (a.take k):=fun x I=>h x (List.mem_of_mem_take I)
theorem aYv{a:List Nat}(h:Lm a)(k:Nat):Lm (a.drop k):=fun x I=>h x (List.mem_of_mem_drop I)
theorem aEj{a:List Nat}(h:Lm a)(k:Nat):nv (a.drop k)=nv a/18446744073709551616^k:=by
 rcases Nat.lt_or_ge k a.length with I|I
 ·rw[qY a k,Nat.min_eq_left (Nat.le_of_lt I),Nat.add_mul_div_left _ _ (Nat.pow_pos xAa),Nat.div_eq_of_lt,Nat.zero_add];have:=jG (xN h k);grind
 ·rw[List.drop_eq_nil_of_le I,aMB,Nat.div_eq_of_lt];grind[Nat.lt_of_lt_of_le,jG,Nat.pow_le_pow_right]
theorem aYw{a:List Nat}(h:Lm a)(k:Nat):nv (a.take k)=nv a%18446744073709551616^k:=by
 rcases Nat.lt_or_ge k a.length with I|I
 ·have J:=qY a k;rw[Nat.min_eq_left (Nat.le_of_lt I)] at J;have N:=jG (xN h k);rw[List.length_take,Nat.min_eq_left (Nat.le_of_lt I)] at N;rw[J,Nat.add_mul_mod_self_left,Nat.mod_eq_of_lt N]
 ·rw[List.take_of_length_le I,Nat.mod_eq_of_lt];grind[Nat.lt_of_lt_of_le,jG,Nat.pow_le_pow_right]
theorem eH{a:List Nat}(h:Lm a)(i:Nat):a.getD i 0<18446744073709551616:=by
 rw[List.getD_eq_getElem?_getD];cases e:a[i]? with
 | none=>simp_all
 | some x=>exact h x (List.mem_of_getElem? e)
theorem take_succ{a:List Nat}{k:Nat}(h:k<a.length):a.take (k+1)=a.take k++ [a.getD k 0]:=by
 simp_all
theorem nG{a:List Nat}{k:Nat}(h:k<a.length):nv (a.take (k+1))=nv (a.take k)+18446744073709551616^k*a.getD k 0:=by
 rw[take_succ h,aFK,List.length_take,Nat.min_eq_left (Nat.le_of_lt h)];simp[nv]
theorem xZ{a:List Nat}{k v:Nat}(h:k<a.length):nv (a.set k v)+18446744073709551616^k*a.getD k 0=nv a+18446744073709551616^k*v:=by
 induction a generalizing k with
 | nil=>simp at h
 | cons x r I =>
  cases k with
  | zero=>grind[nv]
  | succ k =>
   have:=I (k:=k) (by simp_all);simp only[List.set_cons_succ,kE,List.getD_cons_succ,Nat.pow_succ];grind
theorem uG{a:List Nat}(h:Lm a)(k:Nat){v:Nat}(hv:v<18446744073709551616):Lm (a.set k v):=fun x I=>by
 rcases List.mem_or_eq_of_mem_set I with I|rfl
 ·exact h x I
 omega
theorem aFM(n:Nat):Lm (List.replicate n 0):=fun x I=>by
 simp_all
theorem wT{a:List Nat}(h:(Ty.sl qh).wf a):Lm a:=fun x I=>by
 grind[Ty.wf,Go.IntKind.max,Go.IntKind.signed,Go.IntKind.bits]
theorem aQD{a:List Nat}(h:(Ty.sl qh).wf a):a.length≤9223372036854775807:=h.1
theorem aDs{x:Nat}(h:(Ty.u .u64).wf x):x<18446744073709551616:=by
 grind[Ty.wf,Go.IntKind.max,Go.IntKind.signed,Go.IntKind.bits]
theorem wf_i64{x:Int}(h:(Ty.i .i64).wf x): -9223372036854775808≤x∧x≤9223372036854775807:=by
 grind[Ty.wf,aDd]
theorem aSy:eM .u64=18446744073709551616:=by rfl
theorem aGm(a b:Nat):zN .u64 a b=a*b%18446744073709551616:=by rw[aLw,aSy]
theorem aOY{a b:Nat}(I:a<18446744073709551616)(hb:b≤a):aA5 .u64 a b=a-b:=by
 grind[aB7,aSy,Nat.add_mod_right,Nat.mod_eq_of_lt]
theorem aB{α:Type}{p:Prop}[Decidable p]{k:Option α}{r:Option α}(hp:p)(h:k=r):ck p k=r:=(aUT hp).trans h
theorem aAT{α:Type}{p:Prop}[Decidable p]{x y r:α}(I:p→x=r)(J:¬p→y=r):(if p then x else y)=r:=by
 simp_all
theorem bF{α β:Type}{x:Option α}{a:α}{k:α→Option β}{r:Option β}(I:x=some a)(h:k a=r):x.bind k=r:=by simp_all
def bl(x:Nat):Nat:=if x=0 then 0 else Nat.log2 x+1
theorem aCJ{x k:Nat}(h:x<2^k):bl x≤k:=by
 unfold bl;split
 ·omega
 ·rename_i I;exact(Nat.log2_lt I).2 h
theorem aGn(x:Nat):x<2^bl x:=by
 grind[bl,Nat.lt_log2_self]
theorem aWn{x k:Nat}(h:2^k≤x):k<bl x:=by
 have I:x≠0:=by grind
 unfold bl;rw[if_neg I];have:=(Nat.le_log2 I).2 h;omega
theorem bBE{x k:Nat}(I:2^k≤x)(J:x<2^(k+1)):bl x=k+1:=Nat.le_antisymm (aCJ J) (aWn I)
theorem aJc{x:Nat}(h:x≠0):0<bl x:=aWn (k:=0) (by omega)
theorem aMD{x:Nat}(h:x≠0):2^(bl x-1)≤x:=by
 rcases Nat.lt_or_ge x (2^(bl x-1)) with I|I
 ·have:=aCJ I; grind
 omega
theorem aEk{x k:Nat}(h:2^k≤x):bl x=k+bl (x/2^k):=by
 have J:=Nat.two_pow_pos k;have U:0<x/2^k:=Nat.div_pos h J;obtain⟨m,I⟩:∃m,bl (x/2^k)=m+1:=⟨bl (x/2^k)-1,by
  have:=aWn (x:=x/2^k) (k:=0) U; omega⟩
 have N:=aGn (x/2^k);have Y:=aMD (x:=x/2^k) (by omega);rw[I] at N Y ⊢;refine bBE (k:=k+m) ?_ ?_
 ·grind[Nat.pow_add,Nat.mul_comm,Nat.le_div_iff_mul_le]
 simp_all[Nat.add_assoc,Nat.pow_add,Nat.mul_comm,Nat.div_lt_iff_lt_mul]
def sK:ByteArray:=⟨⟨0::1::2::2::3::3::3::3::4::4::4::4::4::4::4::4::5::5::5::5::5::5::5::5::5::5::5::5::5::5::5::5::6::6::6::6::6::6::6::6::6::6::6::6::6::6::6::6::6::6::6::6::6::6::6::6::6::6::6::6::6::6::6::6::7::7::7::7::7::7::7::7::7::7::7::7::7::7::7::7::7::7::7::7::7::7::7::7::7::7::7::7::7::7::7::7::7::7::7::7::7::7::7::7::7::7::7::7::7::7::7::7::7::7::7::7::7::7::7::7::7::7::7::7::7::7::7::7::8::8::8::8::8::8::8::8::8::8::8::8::8::8::8::8::8::8::8::8::8::8::8::8::8::8::8::8::8::8::8::8::8::8::8::8::8::8::8::8::8::8::8::8::8::8::8::8::8::8::8::8::8::8::8::8::8::8::8::8::8::8::8::8::8::8::8::8::8::8::8::8::8::8::8::8::8::8::8::8::8::8::8::8::8::8::8::8::8::8::8::8::8::8::8::8::8::8::8::8::8::8::8::8::8::8::8::8::8::8::8::8::8::8::8::8::8::8::8::8::8::8::8::8::8::8::8::8:: []⟩⟩
@[go_sem]theorem aKd:(⟨⟨0::1::2::2::3::3::3::3::4::4::4::4::4::4::4::4::5::5::5::5::5::5::5::5::5::5::5::5::5::5::5::5::6::6::6::6::6::6::6::6::6::6::6::6::6::6::6::6::6::6::6::6::6::6::6::6::6::6::6::6::6::6::6::6::7::7::7::7::7::7::7::7::7::7::7::7::7::7::7::7::7::7::7::7::7::7::7::7::7::7::7::7::7::7::7::7::7::7::7::7::7::7::7::7::7::7::7::7::7::7::7::7::7::7::7::7::7::7::7::7::7::7::7::7::7::7::7::7::8::8::8::8::8::8::8::8::8::8::8::8::8::8::8::8::8::8::8::8::8::8::8::8::8::8::8::8::8::8::8::8::8::8::8::8::8::8::8::8::8::8::8::8::8::8::8::8::8::8::8::8::8::8::8::8::8::8::8::8::8::8::8::8::8::8::8::8::8::8::8::8::8::8::8::8::8::8::8::8::8::8::8::8::8::8::8::8::8::8::8::8::8::8::8::8::8::8::8::8::8::8::8::8::8::8::8::8::8::8::8::8::8::8::8::8::8::8::8::8::8::8::8::8::8::8::8::8:: []⟩⟩:ByteArray)=sK:=rfl
def gV(F:Md)(I:Nat)(J:Int):Option (Int) :=
 ck (0≤(((I%256):Nat):Int)∧(((I%256):Nat):Int)<(((eI sK).length:Nat):Int)) (ck (I64 (J+((((eI sK).getD (I%256) (0:Nat)):Nat):Int))) (some (J+((((eI sK).getD (I%256) (0:Nat)):Nat):Int))))
def gW(F:Md)(I:Nat)(J:Int):Option (Int) :=
 if (256:Nat)≤I then ck (I64 (J+(8:Int))) (gV F (I/(256:Nat)) (J+(8:Int))) else gV F I J
def gX(F:Md)(I:Nat)(J:Int):Option (Int) :=
 if (65536:Nat)≤I then ck (I64 (J+(16:Int))) (gW F (I/(65536:Nat)) (J+(16:Int))) else gW F I J
def qZ(F:Md)(I:Nat):Option Int :=
 if (4294967296:Nat)≤I then gX F (I/(4294967296:Nat)) (32:Int) else gX F I (0:Int)
def lC(x:Nat):Int:=(bl x:Int)
theorem aYx:(eI sK).length=256∧ ∀y,y<256→(eI sK).getD y 0=bl y:=by decide +kernel
theorem aOZ{x:Nat}{n:Int}(I:x<256)(h0:0≤n)(h1:n≤1000):gV none x n=some (n+bl x):=by
 obtain⟨Y,U⟩:=aYx;have N:=U x I;have h8:=aCJ (show x<2^8 from I);have J:x%256=x:=Nat.mod_eq_of_lt I;unfold gV;rw[J,N];refine aB (by omega) (aB (by omega) rfl)
theorem aO0{x:Nat}{n:Int}(N:x<65536)(I:0≤n)(J:n≤900):gW none x n=some (n+bl x):=by
 unfold gW;refine aAT (fun h=>aB (by omega) ?_) (fun h=>aOZ (by omega) I (by omega));rw[aOZ (by omega) (by omega) (by omega),aEk (x:=x) (k:=8) h];grind
theorem aO1{x:Nat}{n:Int}(N:x<4294967296)(I:0≤n)(J:n≤800):gX none x n=some (n+bl x):=by
 unfold gX;refine aAT (fun h=>aB (by omega) ?_) (fun h=>aO0 (by omega) I (by omega));rw[aO0 (by omega) (by omega) (by omega),aEk (x:=x) (k:=16) h];grind
theorem aJd(x:Nat)(w:(Ty.u .u64).wf x):qZ none x=some (lC x):=by
 have I:=aDs w;unfold qZ;refine aAT (fun h=>?_) (fun h=>?_)
 ·rw[aO1 (by omega) (by omega) (by omega),lC,aEk (x:=x) (k:=32) h];rfl
 grind[aO1,lC]
theorem aWo{x:Nat}(I:x<18446744073709551616):bl x≤64:=aCJ I
def fT(F:Md)(I:Nat):Option Int :=
 ck (I64 ((64:Int)-(lC I))) (some ((64:Int)-(lC I)))
def aA(x:Nat):Int:=64-(bl x:Int)
theorem yX(x:Nat)(w:(Ty.u .u64).wf x):fT none x=some (aA x):=by
 have:=aWo (aDs w);unfold fT lC aA;exact aB (by omega) rfl
def fH(F:Md)(I:Nat):Option Int :=
 if I=(0:Nat) then some (64:Int) else ck (0≤((((mulM F .u64 (I&&&(aGT F .u64 I)) (285870213051353865:Nat))/(288230376151711744:Nat)):Nat):Int)∧((((mulM F .u64 (I&&&(aGT F .u64 I)) (285870213051353865:Nat))/(288230376151711744:Nat)):Nat):Int)<(64:Int)) (some (((aQC.getD ((mulM F .u64 (I&&&(aGT F .u64 I)) (285870213051353865:Nat))/(288230376151711744:Nat)) (0:Nat)):Nat):Int))
def dX(x:Nat):Int:=(Lib.ctz 64 x:Int)
theorem aYy:aQC=Lib.deBruijn64tab:=by rfl
theorem bBF{x:Nat}(I:x<18446744073709551616)(hc:¬x=0):aNA .u64 x=18446744073709551616-x:=by
 rw[aLx,aSy,Nat.zero_add];omega
theorem bAz{x:Nat}(J:x<18446744073709551616)(hc:¬x=0):zN .u64 (x&&&aNA .u64 x) 285870213051353865/288230376151711744<64∧aQC.getD (zN .u64 (x&&&aNA .u64 x) 285870213051353865/288230376151711744) 0=Lib.ctz 64 x:=by
 obtain⟨I,U⟩:=Lib.lowest_bit 64 x hc J;have N:(2:Nat)^64=18446744073709551616:=by decide
 rw[N] at I;rw[aGm,bBF J hc,I,aYy];exact Lib.deBruijn64_at _ U
theorem yA(x:Nat)(w:(Ty.u .u64).wf x):fH none x=some (dX x):=by
 unfold fH dX;try simp only[kV,mulM,aGT]
 refine aAT (fun h=>?_) (fun h=>?_)
 ·subst h; rfl
 ·obtain⟨I,J⟩:=bAz (aDs w) h;rw[J];exact aB ⟨Int.natCast_nonneg _,Int.ofNat_lt.2 I⟩ rfl
def rA(F:Md)(J:Nat)(I:Nat):Option (Nat×(Nat×Unit)) :=
 some ((((((mulM F .u64 (J/(4294967296:Nat)) (I/(4294967296:Nat)))+((((mulM F .u64 (J/(4294967296:Nat)) (I&&&(4294967295:Nat)))+((mulM F .u64 (J&&&(4294967295:Nat)) (I&&&(4294967295:Nat)))/(4294967296:Nat)))%18446744073709551616)/(4294967296:Nat)))%18446744073709551616)+(((((((mulM F .u64 (J/(4294967296:Nat)) (I&&&(4294967295:Nat)))+((mulM F .u64 (J&&&(4294967295:Nat)) (I&&&(4294967295:Nat)))/(4294967296:Nat)))%18446744073709551616)&&&(4294967295:Nat))+(mulM F .u64 (J&&&(4294967295:Nat)) (I/(4294967296:Nat))))%18446744073709551616)/(4294967296:Nat)))%18446744073709551616),(mulM F .u64 J I),())
def bP(x y:Nat):Nat×Nat×Unit:=(x*y/18446744073709551616,x*y%18446744073709551616,())
theorem bAA(x:Nat):x&&&4294967295=x%4294967296:=Nat.and_two_pow_sub_one_eq_mod x 32
theorem aWp{x y:Nat}(hx:x<18446744073709551616)(hy:y<18446744073709551616) :
  ((x/4294967296*(y/4294967296)%18446744073709551616+(x/4294967296*(y&&&4294967295)%18446744073709551616+(x&&&4294967295)*(y&&&4294967295)%18446744073709551616/4294967296)%18446744073709551616/4294967296)%18446744073709551616 +
     (((x/4294967296*(y&&&4294967295)%18446744073709551616+(x&&&4294967295)*(y&&&4294967295)%18446744073709551616/4294967296)%18446744073709551616&&&4294967295)+(x&&&4294967295)*(y/4294967296)%18446744073709551616)%18446744073709551616/4294967296)%18446744073709551616=x*y/18446744073709551616:=by
 simp only[bAA];have a1:x/4294967296≤4294967295:=by omega
 have a2:x%4294967296≤4294967295:=by omega
 have b1:y/4294967296≤4294967295:=by omega
 have I:y%4294967296≤4294967295:=by omega
 have ex:=Nat.div_add_mod x 4294967296;have J:=Nat.div_add_mod y 4294967296;generalize x/4294967296=a at *;generalize x%4294967296=b at *;generalize y/4294967296=c at *;generalize y%4294967296=d at *;subst ex; subst J;have e:(4294967296*a+b)*(4294967296*c+d)=a*c*18446744073709551616+(a*d+b*c)*4294967296+b*d:=by
  grind
 rw[e];have p1:=Nat.mul_le_mul a1 b1;have p2:=Nat.mul_le_mul a1 I;have N:=Nat.mul_le_mul a2 b1;have Y:=Nat.mul_le_mul a2 I;generalize a*c=ac at *;generalize a*d=ad at *;generalize b*c=bc at *;generalize b*d=U at *;omega
theorem aJe(x:Nat)(J:(Ty.u .u64).wf x)(y:Nat)(I:(Ty.u .u64).wf y):rA none x y=some (bP x y):=by
 unfold rA bP;try simp only[kV,mulM,aGT]
 simp only[aGm];grind[aWp,aDs]
abbrev Sz(a:List Nat):Prop:=a.length≤1099511627776
abbrev pSz(a:List Nat):Prop:=Sz a
abbrev aME(a b:List Nat):Prop:=Sz a∧Sz b
abbrev aWq(a b:List Nat):Prop:=Nrm a∧Nrm b
abbrev aO2(a:List Nat):Prop:=Nrm a∧Sz a
theorem aMF{a:List Nat}(h:0<a.length):Nrm a↔a.getD (a.length-1) 0≠0:=by
 unfold Nrm;grind
def sV(F:Md)(I:qd):Option (qd⊕qd) :=
 ck (((0:Int)<(I.length:Int))→(I64 ((I.length:Int)-(1:Int)))) (ck (((0:Int)<(I.length:Int))→(0≤((I.length:Int)-(1:Int))∧((I.length:Int)-(1:Int))<(I.length:Int))) (if ((0:Int)<(I.length:Int))∧((I.getD ((I.length:Int)-(1:Int)).toNat (0:Nat))=(0:Nat)) then ck (I64 ((I.length:Int)-(1:Int))) (ck (0≤((I.length:Int)-(1:Int))∧((I.length:Int)-(1:Int))≤(I.length:Int)) (some (.inl (List.take ((I.length:Int)-(1:Int)).toNat I)))) else some (.inr I)))
def wU(F:Md)(I:qd):Option qd :=
 (dC F (fun d:qd=>sV F d) I).bind (fun e=>some e)
def cB(a:List Nat):List Nat:=lb (nv a)
theorem aMG(a:List Nat)(w:(Ty.sl qh).wf a):wU none a=some (cB a):=by
 unfold wU;refine bF (oA (I:=fun d=>Lm d∧d.length≤9223372036854775807) (fun d=>d.length) (fun d=>lb (nv d)) ?_ a ⟨wT w,aQD w⟩) rfl;intro d ⟨Y,hn⟩;unfold sV;rcases Nat.eq_zero_or_pos d.length with J|J
 ·right
  have e:d= []:=List.eq_nil_of_length_eq_zero J;simp_all[aB,if_neg,aMB,sU]
 ·have U:(d.length:Int)-1=((d.length-1:Nat):Int):=by omega
  rw[U,Int.toNat_natCast];by_cases N:d.getD (d.length-1) 0=0
  ·left
   refine⟨d.take (d.length-1),aB (by omega) (aB (by omega) ?_),⟨xN Y _,by grind⟩,by grind,?_⟩
   ·rw[if_pos ⟨by omega,N⟩];exact aB (by omega) (aB (by omega) rfl)
   ·have:=nG (a:=d) (k:=d.length-1) (by omega);rw[N,show d.length-1+1=d.length from by omega,List.take_length] at this;simp_all
  ·right
   refine aB (by omega) (aB (by omega) ?_);simp_all[if_neg,aSw,aMF]
def yY(F:Md)(I:qd):Option Bool :=
 ck (¬((I.length:Int)=(0:Int))→((I.length:Int)≤(64:Int))→(I64 ((I.length:Int)-(1:Int)))) (ck (¬((I.length:Int)=(0:Int))→((I.length:Int)≤(64:Int))→(0≤((I.length:Int)-(1:Int))∧((I.length:Int)-(1:Int))<(I.length:Int))) (some ((decide ((I.length:Int)=(0:Int)))||((decide ((I.length:Int)≤(64:Int)))&&(!(decide ((I.getD ((I.length:Int)-(1:Int)).toNat (0:Nat))=(0:Nat))))))))
def yZ(a:List Nat):Bool:=decide (a.length≤64∧Nrm a)
theorem aO3(a:List Nat)(w:(Ty.sl qh).wf a):yY none a=some (yZ a):=by
 have N:=aQD w;unfold yY yZ;rcases Nat.eq_zero_or_pos a.length with I|I
 ·have e:a= []:=List.eq_nil_of_length_eq_zero I;subst e;rfl
 ·have J:(a.length:Int)-1=((a.length-1:Nat):Int):=by omega
  rw[J,Int.toNat_natCast];refine aB (by omega) (aB (by omega) ?_)
  congr 1
  rw[Bool.eq_iff_iff];have:=aMF I;grind
def wV(F:Md)(I:Bool):Option Int :=
 if I=true then some (-1:Int) else some (1:Int)
def pD(b:Bool):Int:=if b=true then -1 else 1
theorem aMH(b:Bool)(w:Ty.bool.wf b):wV none b=some (pD b):=by
 grind[wV,pD]
def mO(F:Md)(J:qd)(N:qd)(I:Int):Option ((Int)⊕((Unit)⊕Int)) :=
 if (0:Int)≤I then ck (0≤I∧I<(J.length:Int)) (ck (0≤I∧I<(N.length:Int)) (if ¬((J.getD (I.toNat) (0:Nat))=(N.getD (I.toNat) (0:Nat))) then ck (0≤I∧I<(J.length:Int)) (ck (0≤I∧I<(N.length:Int)) (some (.inr (.inr (pD (decide ((J.getD (I.toNat) (0:Nat))<(N.getD (I.toNat) (0:Nat))))))))) else ck (I64 (I-(1:Int))) (some (.inl (I-(1:Int)))))) else some (.inr (.inl ()))
def tU(F:Md)(I:qd)(J:qd):Option Int :=
 if ¬((I.length:Int)=(J.length:Int)) then some (pD (decide ((I.length:Int)<(J.length:Int)))) else ck (I64 ((I.length:Int)-(1:Int))) ((dC F (fun d:Int=>mO F I J d) ((I.length:Int)-(1:Int))).bind (fun e=>match e with|(.inl e)=>some (0:Int)|(.inr e)=>some e))
def aWr(x y:Nat):Int:=if x<y then -1 else if x=y then 0 else 1
def pM(a b:List Nat):Int:=aWr (nv a) (nv b)
theorem aLj{a b:List Nat}(I:Lm a)(hb:Nrm b)(h:a.length<b.length):nv a<nv b:=by
 have J:=jG I;have N:=aSx hb (by grind);grind[Nat.lt_of_lt_of_le,Nat.le_trans,Nat.pow_le_pow_right]
theorem aKe(a:List Nat)(wa:(Ty.sl qh).wf a)(b:List Nat)(wb:(Ty.sl qh).wf b)(hp:aWq a b):tU none a b=some (pM a b):=by
 have la:=wT wa;have lb':=wT wb;have na:=aQD wa;unfold tU pM;refine aAT (fun h=>?_) (fun h=>?_)
 ·unfold pD aWr;rcases Nat.lt_or_ge a.length b.length with hl|hl
  ·grind[aLj]
  ·have hl':b.length<a.length:=(by omega);have:=aLj lb' hp.1 hl';grind
 ·have J:a.length=b.length:=by omega
  refine aB (by omega) ?_;have N:=oA (step:=fun d:Int=>mO none a b d) (I:=fun i=> -1≤i∧i<a.length∧nv (a.drop (i+1).toNat)=nv (b.drop (i+1).toNat)) (fun i=>(i+1).toNat)
   (fun i=>if nv (a.take (i+1).toNat)=nv (b.take (i+1).toNat) then (.inl ():Unit⊕Int) else .inr (if nv (a.take (i+1).toNat)<nv (b.take (i+1).toNat) then -1 else 1)) ?_ ((a.length:Int)-1) ⟨by omega,by omega,by grind[List.drop_eq_nil_of_le]⟩
  ·rw[show ((a.length:Int)-1+1).toNat=a.length from by omega,List.take_length] at N;rw[J,List.take_length] at N;rw[J];refine bF N ?_;grind[aWr,nv]
  ·intro i ⟨h1,h2,h3⟩;(try dsimp only);unfold mO;by_cases hi:0≤i
   ·have hk:(i+1).toNat=i.toNat+1:=(by omega);have U:i.toNat<a.length:=(by omega);have Y:i.toNat<b.length:=(by omega);rw[if_pos hi,hk,nG U,nG Y];have ta:=jG (xN la i.toNat);have tb:=jG (xN lb' i.toNat);rw[List.length_take,Nat.min_eq_left (by omega)] at ta tb;by_cases he:a.getD i.toNat 0=b.getD i.toNat 0
    ·left
     refine⟨i-1,aB (by omega) (aB (by omega) ?_),⟨by omega,by omega,?_⟩,by omega,?_⟩
     ·rw[if_neg (by omega)];exact aB (by omega) rfl
     ·rw[show (i-1+1).toNat=i.toNat from by omega,List.drop_eq_getElem_cons U,List.drop_eq_getElem_cons Y,kE,kE];rw[hk] at h3;rw[h3];rw[List.getD_eq_getElem?_getD,List.getD_eq_getElem?_getD,List.getElem?_eq_getElem U,List.getElem?_eq_getElem Y] at he;have he:a[i.toNat]=b[i.toNat]:=he;rw[he]
     simp_all
    ·right
     refine aB (by omega) (aB (by omega) ?_);rw[if_pos he];refine aB (by omega) (aB (by omega) ?_);unfold pD;generalize a.getD i.toNat 0=x at *;generalize b.getD i.toNat 0=y at *;generalize nv (a.take i.toNat)=p at *;generalize nv (b.take i.toNat)=q at *;generalize 18446744073709551616^i.toNat=P at *;rcases Nat.lt_or_ge x y with hxy|hxy
     ·have:P*(x+1)≤P*y:=Nat.mul_le_mul_left _ hxy;grind
     ·have hxy':y<x:=(by omega);have:P*(y+1)≤P*x:=Nat.mul_le_mul_left _ hxy';grind
   ·right
    have e:i= -1:=(by omega);simp_all
def wW(F:Md)(I:qd):Option Int :=
 if (I.length:Int)=(0:Int) then some (0:Int) else ck (I64 ((64:Int)*(I.length:Int))) (ck (I64 ((I.length:Int)-(1:Int))) (ck (0≤((I.length:Int)-(1:Int))∧((I.length:Int)-(1:Int))<(I.length:Int)) (ck (I64 (((64:Int)*(I.length:Int))-(aA (I.getD ((I.length:Int)-(1:Int)).toNat (0:Nat))))) (some (((64:Int)*(I.length:Int))-(aA (I.getD ((I.length:Int)-(1:Int)).toNat (0:Nat))))))))
def bI(a:List Nat):Int:=(bl (nv a):Int)
theorem uH(k:Nat):18446744073709551616^k=2^(64*k):=by rw[Nat.pow_mul]
theorem aQE{x m k:Nat}(U:x≠0)(I:m<2^k):bl (m+2^k*x)=k+bl x:=by
 have J:=Nat.two_pow_pos k;have N:2^k*1≤2^k*x:=Nat.mul_le_mul_left _ (by omega);rw[aEk (x:=m+2^k*x) (k:=k) (by omega),Nat.add_mul_div_left _ _ J,Nat.div_eq_of_lt I,Nat.zero_add]
theorem aYz{a:List Nat}(h:0<a.length):nv a=nv (a.take (a.length-1))+18446744073709551616^(a.length-1)*a.getD (a.length-1) 0:=by
 have:=nG (a:=a) (k:=a.length-1) (by omega);grind
theorem aYA{a:List Nat}(I:Lm a)(J:Nrm a)(h:0<a.length):bl (nv a)=64*(a.length-1)+bl (a.getD (a.length-1) 0):=by
 rw[aYz h,uH];refine aQE ((aMF h).1 J) ?_;have:=jG (xN I (a.length-1));grind[List.length_take,Nat.min_eq_left,uH]
theorem aMI(a:List Nat)(w:(Ty.sl qh).wf a)(hp:aO2 a):wW none a=some (bI a):=by
 obtain⟨U,Y⟩:=hp;unfold wW bI;refine aAT (fun h=>?_) (fun h=>?_)
 ·have e:a= []:=List.eq_nil_of_length_eq_zero (by omega);subst e; rfl
 ·have J:0<a.length:=by omega
  have N:=aWo (eH (wT w) (a.length-1));have I:(a.length:Int)-1=((a.length-1:Nat):Int):=by omega
  rw[I,Int.toNat_natCast];unfold aA;rw[aYA (wT w) U J];refine aB (by omega) (aB (by omega) (aB (by omega) (aB (by omega) ?_)));grind
def tzn(n:Nat):Nat:=if h:n=0 then 0 else if n%2=1 then 0 else 1+tzn (n/2)
termination_by n
decreasing_by omega
theorem wX{n:Nat}(h:n≠0):∃m,n=2^tzn n*(2*m+1):=by
 induction n using Nat.strongRecOn with
 | _ n I =>
  rw[tzn,dif_neg h];split
  ·exact⟨n/2,by omega⟩
  ·obtain⟨m,J⟩:=I (n/2) (Nat.div_lt_self (by omega) xAa) (by omega);refine⟨m,?_⟩;grind[Nat.add_comm,Nat.pow_succ,Nat.mul_assoc,Nat.mul_comm]
theorem aYB{a b m k:Nat}(h:2^a*(2*m+1)=2^b*(2*k+1)):a=b:=by
 have I:∀ {a b m k:Nat},2^a*(2*m+1)=2^b*(2*k+1)→ ¬a<b:=fun {a b m k} h J=>by
  obtain⟨d,rfl⟩:∃d,b=a+(d+1):=⟨b-a-1,by omega⟩;rw[Nat.pow_add,Nat.mul_assoc] at h;have:=Nat.eq_of_mul_eq_mul_left (Nat.two_pow_pos a) h;grind
 grind
theorem aQF{n k m:Nat}(h:n=2^k*(2*m+1)):tzn n=k:=by
 have I:n≠0:=by
  grind
 obtain⟨m',J⟩:=wX I;grind[aYB]
theorem aYC{x:Nat}(k:Nat)(h:x≠0):tzn (2^k*x)=k+tzn x:=by
 obtain⟨m,I⟩:=wX h;refine aQF (m:=m) ?_;grind
theorem aSz{x:Nat}(I:x<18446744073709551616)(h:x≠0):Lib.ctz 64 x=tzn x∧tzn x<64:=by
 obtain⟨m,J,N⟩:=Lib.ctzFrom_spec 64 x (by omega) I;grind[Go.Lib.ctz,Go.Lib.ctzFrom,aQF]
theorem aYD{x q:Nat}(I:x<18446744073709551616)(h:x≠0):tzn (x+18446744073709551616*q)=tzn x:=by
 obtain⟨m,J⟩:=wX h;have N:=(aSz I h).2;refine aQF (m:=m+2^(63-tzn x)*q) ?_;have e:18446744073709551616=2^tzn x*(2*2^(63-tzn x)):=by
  rw[← Nat.mul_assoc,Nat.mul_comm _ 2,← Nat.pow_succ',← Nat.pow_add,show tzn x+1+(63-tzn x)=64 from by omega]
 grind
def mP(F:Md)(J:qd)(I:Int):Option ((Int)⊕((Unit)⊕Int)) :=
 if I<(J.length:Int) then ck (0≤I∧I<(J.length:Int)) (if ¬((J.getD (I.toNat) (0:Nat))=(0:Nat)) then ck (I64 ((64:Int)*I)) (ck (I64 (((64:Int)*I)+(dX (J.getD (I.toNat) (0:Nat))))) (some (.inr (.inr (((64:Int)*I)+(dX (J.getD (I.toNat) (0:Nat)))))))) else ck (I64 (I+(1:Int))) (some (.inl (I+(1:Int))))) else some (.inr (.inl ()))
def tV(F:Md)(I:qd):Option Int :=
 (dC F (fun d:Int=>mP F I d) (0:Int)).bind (fun e=>match e with|(.inl e)=>some (-1:Int)|(.inr e)=>some e)
def cQ(a:List Nat):Int:=if nv a=0 then -1 else (tzn (nv a):Int)
theorem aKf(a:List Nat)(w:(Ty.sl qh).wf a)(hp:pSz a):tV none a=some (cQ a):=by
 have hl:=wT w;have hs:a.length≤1099511627776:=hp;unfold tV cQ;have key:=oA (step:=fun d:Int=>mP none a d) (I:=fun i=>0≤i∧i≤a.length∧nv (a.take i.toNat)=0) (fun i=>(a.length-i).toNat)
   (fun i=>if nv a=0 then (.inl ():Unit⊕Int) else .inr (tzn (nv a):Int)) ?_ 0 ⟨by omega,by omega,rfl⟩
 ·grind
 ·intro i ⟨h0,h1,U⟩;try dsimp only
  unfold mP;by_cases hi:i<a.length
  ·have N:i.toNat<a.length:=(by omega);have hd:=qY a i.toNat;rw[U,Nat.zero_add,Nat.min_eq_left (by omega),List.drop_eq_getElem_cons N,kE] at hd;have hg:a.getD i.toNat 0=a[i.toNat]:=(by simp_all);have hx:=eH hl i.toNat;rw[← hg] at hd;rw[if_pos hi];by_cases Y:a.getD i.toNat 0=0
   ·left
    refine⟨i+1,aB (by omega) ?_,⟨by omega,by omega,?_⟩,by omega,rfl⟩
    ·rw[if_neg (by omega)];exact aB (by omega) rfl
    ·rw[show (i+1).toNat=i.toNat+1 from by omega,nG N,U,Y,Nat.mul_zero]
   ·right
    obtain⟨c1,c2⟩:=aSz hx Y;have hne:a.getD i.toNat 0+18446744073709551616*nv (a.drop (i.toNat+1))≠0:=(by omega);have ht:tzn (nv a)=64*i.toNat+tzn (a.getD i.toNat 0):=by
     grind[uH,aYC,aYD]
    have J:nv a≠0:=by
     grind[Nat.mul_ne_zero,uH,Nat.pos_iff_ne_zero,Nat.two_pow_pos]
    refine aB (by omega) ?_;rw[if_pos (by omega),if_neg J,ht];unfold dX;rw[c1];refine aB (by omega) (aB (by omega) ?_);grind
  ·right
   rw[if_neg hi];have:nv a=0:=(by grind[List.take_length]);simp_all
theorem lD(b:List Nat)(i:Nat):nv (b.take (i+1))=nv (b.take i)+18446744073709551616^i*b.getD i 0:=by
 rcases Nat.lt_or_ge i b.length with h|h
 ·exact nG h
 ·rw[List.take_of_length_le (by omega),List.take_of_length_le h,List.getD_eq_getElem?_getD,List.getElem?_eq_none h];simp
theorem aWs{a:List Nat}{i v:Nat}(h:i<a.length):(a.set i v).take (i+1)=a.take i++ [v]:=by
 rw[take_succ (by simp_all),List.take_set_of_le (Nat.le_refl i),List.getD_eq_getElem?_getD,List.getElem?_set_self h]; rfl
theorem aGo{a:List Nat}{i v:Nat}(h:i<a.length):nv ((a.set i v).take (i+1))=nv (a.take i)+18446744073709551616^i*v:=by
 rw[aWs h,aFK,List.length_take,Nat.min_eq_left (Nat.le_of_lt h)]; simp[nv]
theorem aEl{a b:List Nat}{i:Nat}(h:a.drop i=b.drop i):a.getD i 0=b.getD i 0:=by
 have I:=congrArg (fun l=>l.getD 0 0) h;grind
theorem vY{a b:List Nat}{i:Nat}(h:a.drop i=b.drop i):a.drop (i+1)=b.drop (i+1):=by
 have I:=congrArg (List.drop 1) h;grind[List.drop_drop]
theorem drop_set{a:List Nat}{i v:Nat}:(a.set i v).drop (i+1)=a.drop (i+1):=by
 grind[List.drop_set_of_lt]
def jU(F:Md)(I:Int)(J:qd)(carry_12:Nat)(N:Nat):Option ((Nat×Int×qd)⊕qd) :=
 ck (0≤I∧I<(J.length:Int)) (ck (wS (J.getD (I.toNat) (0:Nat)) N carry_12) (ck (0≤I∧I<(J.length:Int)) (ck (I64 (I+(1:Int))) (some (.inl ((jH (J.getD (I.toNat) (0:Nat)) N carry_12).2.1,(I+(1:Int)),(J.set (I.toNat) (jH (J.getD (I.toNat) (0:Nat)) N carry_12).1)))))))
def jV(F:Md)(U:qd)(N:qd)(carry_12:Nat)(I:Int)(J:qd):Option ((Nat×Int×qd)⊕qd) :=
 if I<((((id U)++([0]:List Nat)).length:Nat):Int) then if I<(N.length:Int) then ck (0≤I∧I<(N.length:Int)) (jU F I J carry_12 (N.getD (I.toNat) (0:Nat))) else if carry_12=(0:Nat) then some (.inr J) else jU F I J carry_12 (0:Nat) else some (.inr J)
def jW(F:Md)(I:qd)(J:qd):Option qd :=
 ck (aTJ I) (ck (((id I).length+(1:Nat))*8≤140737488355328) ((dC F (fun d:Nat×Int×qd=>jV F I J d.1 d.2.1 d.2.2) ((0:Nat),(0:Int),((id I)++([0]:List Nat)))).bind (fun e=>some (cB e))))
def wY(F:Md)(I:qd)(J:qd):Option qd :=
 if (I.length:Int)<(J.length:Int) then jW F J I else jW F I J
def jX(a b:List Nat):List Nat:=lb (nv a+nv b)
structure aGp(a b:List Nat)(c:Nat)(i:Int)(out:List Nat):Prop where
 i0:0≤i
 i1:i≤a.length+1
 len:out.length=a.length+1
 lm:Lm out
 c1:c≤1
 rest:out.drop i.toNat=(a++ [0]).drop i.toNat
 sum:nv (out.take i.toNat)+18446744073709551616^i.toNat*c=nv ((a++ [0]).take i.toNat)+nv (b.take i.toNat)
theorem aWt{P p q r x y c s c':Nat}(h:p+P*c=q+r)(e:s+18446744073709551616*c'=x+y+c):p+P*s+P*18446744073709551616*c'=q+P*x+(r+P*y):=by
 grind
theorem aJf{a b:List Nat}{c:Nat}{i:Int}{out:List Nat}(I:Lm b)(h:aGp a b c i out)(hi:i<a.length+1):aGp a b ((out.getD i.toNat 0+b.getD i.toNat 0+c)/18446744073709551616) (i+1) (out.set i.toNat ((out.getD i.toNat 0+b.getD i.toNat 0+c)%18446744073709551616)):=by
 have hx:=eH h.lm i.toNat;have U:=eH I i.toNat;have hc:=h.c1;have Y:=h.i0;have N:=h.len;have J:(i+1).toNat=i.toNat+1:=by omega
 refine⟨by omega,by omega,by simp_all,uG h.lm _ (Nat.mod_lt _ xAa),by omega,?_,?_⟩
 ·rw[J,drop_set]; exact vY h.rest
 ·rw[J,aGo (by omega),lD,lD b,← aEl h.rest,Nat.pow_succ];exact aWt h.sum (Nat.mod_add_div _ _)
theorem aSA{a b:List Nat}{c:Nat}{i:Int}{out:List Nat}(N:a.length≤1099511627776)(h:aGp a b c i out)(hi:i<a.length+1)(y:Nat):jU none i out c y=some (.inl ((out.getD i.toNat 0+y+c)/18446744073709551616,i+1,out.set i.toNat ((out.getD i.toNat 0+y+c)%18446744073709551616))):=by
 have J:=h.i0;have I:=h.len;unfold jU jH;exact aB (by omega) (aB h.c1 (aB (by omega) (aB (by omega) rfl)))
theorem aLk{a b:List Nat}{i:Int}{out:List Nat}(h:aGp a b 0 i out)(hb:(b.length:Int)≤i):nv out=nv a+nv b:=by
 have U:nv (a++ [0])=nv a:=by rw[aFK]; simp[nv]
 have lA:(a++ [0]).length=a.length+1:=by simp
 have h0:=h.i0;have h1:=h.i1;have Y:=h.len;have I:=h.sum;rw[Nat.mul_zero,Nat.add_zero,List.take_of_length_le (l:=b) (by omega)] at I;have N:=qY out i.toNat;have J:=qY (a++ [0]) i.toNat;rw[Nat.min_eq_left (by omega)] at N;rw[Nat.min_eq_left (by omega)] at J;rw[N,I,h.rest,← U,J]; omega
theorem aQG{a b:List Nat}{c:Nat}{i:Int}{out:List Nat}(la:Lm a)(J:Lm b)(I:b.length≤a.length)(h:aGp a b c i out)(hi:¬i<a.length+1):c=0:=by
 have U:nv (a++ [0])=nv a:=by rw[aFK]; simp[nv]
 have lA:(a++ [0]).length=a.length+1:=by simp
 have h1:=h.i1;have hl:=h.len;have N:=h.sum;rw[List.take_of_length_le (l:=out) (by omega),List.take_of_length_le (l:=a++ [0]) (by omega),List.take_of_length_le (l:=b) (by omega),U] at N;have Y:=jG la;have p2:=Nat.lt_of_lt_of_le (jG J) (Nat.pow_le_pow_right (show 0<18446744073709551616 by decide) I);rw[show i.toNat=a.length+1 from by omega,Nat.pow_succ] at N;rcases Nat.eq_zero_or_pos c with h|h
 ·exact h
 ·have:18446744073709551616^a.length*18446744073709551616*1≤18446744073709551616^a.length*18446744073709551616*c:=Nat.mul_le_mul_left _ h;omega
theorem aYE{a b:List Nat}(la:Lm a)(I:Lm b)(Y:a.length≤1099511627776)(J:b.length≤a.length){c:Nat}{i:Int}{out:List Nat}(h:aGp a b c i out) :
  (∃d':Nat×Int×List Nat,jV none a b c i out=some (.inl d')∧aGp a b d'.1 d'.2.1 d'.2.2∧(a.length+1-d'.2.1).toNat<(a.length+1-i).toNat)∨ ∃e,jV none a b c i out=some (.inr e)∧Lm e∧nv e=nv a+nv b:=by
 have lA:(id a++ [0]).length=a.length+1:=by simp
 have h0:=h.i0;unfold jV;rw[lA];by_cases hi:i<a.length+1
 ·rw[if_pos (by omega)];by_cases hb:i<b.length
  ·left
   refine⟨(_,_,_),?_,aJf I h hi,?_⟩
   ·rw[if_pos hb];exact aB (by omega) (aSA Y h hi _)
   grind
  ·rw[if_neg hb];have N:b.getD i.toNat 0=0:=(by simp_all);by_cases hc:c=0
   ·right
    subst hc;exact⟨out,by rfl,h.lm,aLk h (by omega)⟩
   ·left
    have U:=aJf I h hi;rw[N] at U;refine⟨(_,_,_),?_,U,?_⟩
    ·rw[if_neg hc]; grind[aSA]
    grind
 ·right
  rw[if_neg (by omega)];have hc:=aQG la I J h hi;subst hc;exact⟨out,rfl,h.lm,aLk h (by omega)⟩
theorem aYF{a b:List Nat}(la:Lm a)(Y:Lm b)(N:Sz a)(U:b.length≤a.length):jW none a b=some (lb (nv a+nv b)):=by
 have N:a.length≤1099511627776:=N;have J:=eQ (step:=fun d:Nat×Int×qd=>jV none a b d.1 d.2.1 d.2.2) (I:=fun d=>aGp a b d.1 d.2.1 d.2.2) (fun d=>(a.length+1-d.2.1).toNat)
   (fun e=>Lm e∧nv e=nv a+nv b) (fun d h=>aYE la Y N U h) (0,0,a++ [0]) ⟨by simp,by grind,by simp,aWm la (by intro x hx; simp_all),by simp,rfl,by simp[nv]⟩
 obtain⟨e,h1,h2,h3⟩:=J;unfold jW;refine aB (by omega) (aB (by grind) (bF h1 ?_));rw[cB,h3]
theorem aMJ(a:List Nat)(I:(Ty.sl qh).wf a)(b:List Nat)(wb:(Ty.sl qh).wf b)(hp:aME a b):wY none a b=some (jX a b):=by
 unfold wY jX;refine aAT (fun h=>?_) (fun h=>?_)
 all_goals grind[aYF,wT,Nat.add_comm]
def wZ(F:Md)(I:qd):Option qd :=
 ck (aTJ (cB I)) (some (id (cB I)))
def sL(a:List Nat):List Nat:=lb (nv a)
theorem aTK{a:List Nat}(h:Lm a):(lb (nv a)).length≤a.length:=nV.2 (jG h)
theorem aMK(a:List Nat)(w:(Ty.sl qh).wf a)(hp:pSz a):wZ none a=some (sL a):=by
 have hp:a.length≤1099511627776:=hp;have:=aTK (wT w);unfold wZ sL cB;exact aB (by omega) rfl
theorem aWu{x y c o:Nat}(J:x<18446744073709551616)(I:y<18446744073709551616)(hc:c<18446744073709551616)(N:o<18446744073709551616) :
  (o+(x*y%18446744073709551616+c+0)%18446744073709551616+0)%18446744073709551616+18446744073709551616*(((x*y/18446744073709551616+(x*y%18446744073709551616+c+0)/18446744073709551616)%18446744073709551616+(o+(x*y%18446744073709551616+c+0)%18446744073709551616+0)/18446744073709551616)%18446744073709551616)=o+x*y+c:=by
 have p:x*y≤18446744073709551615*18446744073709551615:=Nat.mul_le_mul (by omega) (by omega);omega
theorem nH{a:List Nat}(h:Lm a)(k:Nat):a.getD k 0=nv a/18446744073709551616^k%18446744073709551616:=by
 rw[← aEj h];rcases Nat.lt_or_ge k a.length with I|I
 ·rw[List.drop_eq_getElem_cons I,kE,Nat.add_mul_mod_self_left,List.getD_eq_getElem?_getD,List.getElem?_eq_getElem I];exact(Nat.mod_eq_of_lt (h _ (List.getElem_mem I))).symm
 ·rw[List.drop_eq_nil_of_le I,List.getD_eq_getElem?_getD,List.getElem?_eq_none I]; rfl
theorem aLl{a:List Nat}(h:Lm a){k:Nat}(I:nv a<18446744073709551616^k):a.getD k 0=0:=by
 rw[nH h,Nat.div_eq_of_lt I]
def mQ(F:Md)(I:Int)(N:qd)(carry_62:Nat)(J:qd):Option ((Int×qd)⊕qd) :=
 ck (I64 (I+(N.length:Int))) (ck (0≤(I+(N.length:Int))∧(I+(N.length:Int))<(J.length:Int)) (ck (I64 (I+(1:Int))) (some (.inl ((I+(1:Int)),(J.set (I+(N.length:Int)).toNat carry_62))))))
def iP(F:Md)(U:qd)(Y:qd)(J:Int)(carry_64:Nat)(I:Int)(N:qd):Option ((Nat×Int×qd)⊕wg) :=
 if I<(U.length:Int) then ck (0≤I∧I<(U.length:Int)) (ck (wS (bP (Y.getD (J.toNat) (0:Nat)) (U.getD (I.toNat) (0:Nat))).2.1 carry_64 (0:Nat)) (ck (I64 (J+I)) (ck (I64 (J+I)) (ck (0≤(J+I)∧(J+I)<(N.length:Int)) (ck (wS (N.getD (J+I).toNat (0:Nat)) (jH (bP (Y.getD (J.toNat) (0:Nat)) (U.getD (I.toNat) (0:Nat))).2.1 carry_64 (0:Nat)).1 (0:Nat)) (ck (0≤(J+I)∧(J+I)<(N.length:Int)) (ck (I64 (I+(1:Int))) (some (.inl ((((((bP (Y.getD (J.toNat) (0:Nat)) (U.getD (I.toNat) (0:Nat))).1+(jH (bP (Y.getD (J.toNat) (0:Nat)) (U.getD (I.toNat) (0:Nat))).2.1 carry_64 (0:Nat)).2.1)%18446744073709551616)+(jH (N.getD (J+I).toNat (0:Nat)) (jH (bP (Y.getD (J.toNat) (0:Nat)) (U.getD (I.toNat) (0:Nat))).2.1 carry_64 (0:Nat)).1 (0:Nat)).2.1)%18446744073709551616),(I+(1:Int)),(N.set (J+I).toNat (jH (N.getD (J+I).toNat (0:Nat)) (jH (bP (Y.getD (J.toNat) (0:Nat)) (U.getD (I.toNat) (0:Nat))).2.1 carry_64 (0:Nat)).1 (0:Nat)).1))))))))))) else some (.inr (carry_64,N))
def iQ(F:Md)(N:qd)(U:qd)(I:Int)(J:qd):Option ((Int×qd)⊕qd) :=
 if I<(N.length:Int) then ck (0≤I∧I<(N.length:Int)) ((dC F (fun d:Nat×Int×qd=>iP F U N I d.1 d.2.1 d.2.2) ((0:Nat),(0:Int),J)).bind (fun e=>mQ F I U e.1 e.2)) else some (.inr J)
def tW(F:Md)(I:qd)(J:qd):Option qd :=
 ck (I64 ((I.length:Int)+(J.length:Int))) (ck (0≤((I.length:Int)+(J.length:Int))) (ck ((8:Int)*((I.length:Int)+(J.length:Int))≤281474976710656) ((dC F (fun d:Int×qd=>iQ F I J d.1 d.2) ((0:Int),(List.replicate ((I.length:Int)+(J.length:Int)).toNat (0:Nat)))).bind (fun e=>some (cB e)))))
def dD(a b:List Nat):List Nat:=lb (nv a*nv b)
structure aO4(b:List Nat)(x:Nat)(i:Int)(o0:List Nat)(c:Nat)(j:Int)(out:List Nat):Prop where
 j0:0≤j
 j1:j≤b.length
 len:out.length=o0.length
 lm:Lm out
 c1:c<18446744073709551616
 rest:out.drop (i+j).toNat=o0.drop (i+j).toNat
 sum:nv out+18446744073709551616^(i+j).toNat*c=nv o0+18446744073709551616^i.toNat*x*nv (b.take j.toNat)
theorem aYG{N I J Q R P o v c c' x y t:Nat}(hP:P=Q*R)(Y:I+P*o=N+P*v)(U:N+P*c=J+Q*x*t)(h3:v+18446744073709551616*c'=o+x*y+c):I+P*18446744073709551616*c'=J+Q*x*(t+R*y):=by
 grind
theorem aTL{b:List Nat}{x:Nat}{i:Int}{I:List Nat}{c:Nat}{j:Int}{out:List Nat}(hx:x<18446744073709551616)(Y:Lm b)(hi:0≤i)(hl:i+b.length≤I.length)(h:aO4 b x i I c j out)(hj:j<b.length){v c':Nat}(hv:v<18446744073709551616)(J:c'<18446744073709551616)(e:v+18446744073709551616*c'=out.getD (i+j).toNat 0+x*b.getD j.toNat 0+c) :
  aO4 b x i I c' (j+1) (out.set (i+j).toNat v):=by
 have h0:=h.j0;have U:=h.len;have N:(i+(j+1)).toNat=(i+j).toNat+1:=by omega
 have e2:(j+1).toNat=j.toNat+1:=by omega
 refine⟨by omega,by omega,by simp_all,uG h.lm _ hv,J,?_,?_⟩
 ·rw[N,drop_set]; exact vY h.rest
 ·rw[N,e2,lD,Nat.pow_succ];exact aYG (R:=18446744073709551616^j.toNat) (by rw[← Nat.pow_add]; grind) (xZ (by omega)) h.sum e
theorem aWv{a b:List Nat}{i:Int}{J:List Nat}(hi:0≤i)(hs:i+b.length≤9000000000000)(hl:i+b.length≤J.length)(la:Lm a)(I:Lm b){c:Nat}{j:Int}{out:List Nat}(h:aO4 b (a.getD i.toNat 0) i J c j out) :
  (∃d':Nat×Int×List Nat,iP none b a i c j out=some (.inl d')∧aO4 b (a.getD i.toNat 0) i J d'.1 d'.2.1 d'.2.2∧(b.length-d'.2.1).toNat<(b.length-j).toNat)∨ ∃e:Nat×List Nat,iP none b a i c j out=some (.inr e)∧aO4 b (a.getD i.toNat 0) i J e.1 b.length e.2:=by
 have h0:=h.j0;have Y:=h.len;have h1:=h.j1;have hx:=eH la i.toNat;have hy:=eH I j.toNat;have ho:=eH h.lm (i+j).toNat;unfold iP;by_cases U:j<b.length
 ·left
  have N:=aWu hx hy h.c1 ho;refine⟨(_,_,_),?_,aTL hx I hi hl h U (Nat.mod_lt _ xAa) (Nat.mod_lt _ xAa) N,?_⟩
  ·rw[if_pos U];refine aB (by omega) (aB (Nat.zero_le _) (aB (by omega) (aB (by omega) (aB (by omega) (aB (Nat.zero_le _) (aB (by omega) (aB (by omega) ?_)))))));rfl
  grind
 ·right
  refine⟨(c,out),by grind,?_⟩;grind
structure aWw(a b:List Nat)(i:Int)(out:List Nat):Prop where
 i0:0≤i
 i1:i≤a.length
 len:out.length=a.length+b.length
 lm:Lm out
 sum:nv out=nv (a.take i.toNat)*nv b
theorem aTM{a b:List Nat}{i:Int}{out:List Nat}(la:Lm a)(I:Lm b)(h:aWw a b i out):nv out<18446744073709551616^(i.toNat+b.length):=by
 rw[h.sum,Nat.pow_add];have J:=jG (xN la i.toNat);have U:=jG I;have N:(a.take i.toNat).length≤i.toNat:=by grind
 have Y:=Nat.lt_of_lt_of_le J (Nat.pow_le_pow_right (show 0<18446744073709551616 by decide) N);simp_all[Nat.pow_pos,Nat.mul_lt_mul'']
theorem aTN{a b:List Nat}{i:Int}{out:List Nat}(la:Lm a)(N:Lm b)(h:aWw a b i out)(hi:i<a.length){c:Nat}{I:List Nat}(J:aO4 b (a.getD i.toNat 0) i out c b.length I):aWw a b (i+1) (I.set (i+b.length).toNat c):=by
 have h0:=h.i0;have hl:=h.len;have hl':=J.len;have e1:(i+1).toNat=i.toNat+1:=by omega
 have Y:(i+(b.length:Int)).toNat=i.toNat+b.length:=by omega
 have hz:I.getD (i.toNat+b.length) 0=0:=by
  have:=aEl J.rest;rw[Y] at this;rw[this];exact aLl h.lm (aTM la N h)
 refine⟨by omega,by omega,by simp_all,uG J.lm _ J.c1,?_⟩;have hn:=xZ (a:=I) (k:=i.toNat+b.length) (v:=c) (by omega);have U:=J.sum;rw[Y] at U ⊢;rw[hz,Nat.mul_zero,Nat.add_zero] at hn;rw[hn,U,e1,lD,h.sum,Int.toNat_natCast,List.take_length,Nat.add_mul]
theorem aKg(a:List Nat)(wa:(Ty.sl qh).wf a)(b:List Nat)(wb:(Ty.sl qh).wf b)(hp:aME a b):tW none a b=some (dD a b):=by
 have la:=wT wa;have J:=wT wb;have sa:a.length≤1099511627776:=hp.1;have sb:b.length≤1099511627776:=hp.2;have N:=eQ (step:=fun d:Int×qd=>iQ none a b d.1 d.2) (I:=fun d=>aWw a b d.1 d.2) (fun d=>(a.length-d.1).toNat) (fun e=>nv e=nv a*nv b) ?_ (0,List.replicate (a.length+b.length) 0) ⟨by simp,by simp,by simp,aFM _,by simp[aFL,nv]⟩
 ·obtain⟨e,U,h2⟩:=N;unfold tW dD;rw[show ((a.length:Int)+(b.length:Int)).toNat=a.length+b.length from by omega];refine aB (by omega) (aB (by omega) (aB (by omega) (bF U ?_)));rw[cB,h2]
 ·rintro⟨i,out⟩ h;have h:aWw a b i out:=h;have h0:=h.i0;have U:=h.i1;have hl:=h.len;show (∃d',iQ none a b i out=_∧_)∨ ∃e,iQ none a b i out=_∧_;unfold iQ;by_cases hi:i<a.length
  ·left
   obtain⟨e,q1,q2⟩:=eQ (step:=fun d:Nat×Int×qd=>iP none b a i d.1 d.2.1 d.2.2) (I:=fun d=>aO4 b (a.getD i.toNat 0) i out d.1 d.2.1 d.2.2) (fun d=>(b.length-d.2.1).toNat) (fun e=>aO4 b (a.getD i.toNat 0) i out e.1 b.length e.2)
    (fun d hd=>aWv h0 (by omega) (by omega) la J hd) (0,0,out) ⟨by simp,by simp,rfl,h.lm,by simp,rfl,by simp[nv]⟩
   have Y:=q2.len;refine⟨(i+1,e.2.set (i+b.length).toNat e.1),?_,aTN la J h hi q2,by omega⟩;rw[if_pos hi];refine aB (by omega) (bF q1 ?_);unfold mQ;exact aB (by omega) (aB (by omega) (aB (by omega) rfl))
  ·right
   refine⟨out,by grind,?_⟩;have:=h.sum;rw[show i.toNat=a.length from by omega,List.take_length] at this;omega
theorem aWx{n:Int}(h:0≤n):Int.tdiv n 64=((n.toNat/64:Nat):Int)∧Int.tmod n 64=((n.toNat%64:Nat):Int):=by
 grind
theorem aLm{r:Nat}(h:r<64):((r:Int)%(18446744073709551616:Int)).toNat=r∧((63-(r:Int))%(18446744073709551616:Int)).toNat=63-r:=by omega
theorem aO5(r:Nat)(h:r≤64):2^(64-r)*2^r=18446744073709551616:=by
 rw[← Nat.pow_add,show 64-r+r=64 from by omega]
theorem aML(x r:Nat)(h:r≤64):x*2^r%18446744073709551616=2^r*(x%2^(64-r)):=by
 grind[aO5,Nat.mul_comm,Nat.mul_mod_mul_left]
theorem aSB(x r:Nat)(h:r≤63):x*2^r/18446744073709551616=x/2/2^(63-r):=by
 rw[← aO5 r (by omega),Nat.mul_div_mul_right _ _ (Nat.two_pow_pos r),Nat.div_div_eq_div_mul,← Nat.pow_succ',show (63-r).succ=64-r from by omega]
theorem aQH{o r t:Nat}(h:o<2^r):o|||2^r*t=o+2^r*t:=by
 have:=Nat.two_pow_add_eq_or_of_lt h t;rw[Nat.or_comm,← this,Nat.add_comm]
def jY(F:Md)(U:qd)(J:Int)(I:Int)(N:qd):Option ((Int×qd)⊕qd) :=
 if I<(U.length:Int) then ck (0≤I∧I<(U.length:Int)) (ck (I64 (Int.tdiv J (64:Int))) (ck (I64 ((Int.tdiv J (64:Int))+I)) (ck (0≤((Int.tdiv J (64:Int))+I)∧((Int.tdiv J (64:Int))+I)<(N.length:Int)) (ck (0≤((Int.tdiv J (64:Int))+I)∧((Int.tdiv J (64:Int))+I)<(N.length:Int)) (ck (I64 (Int.tdiv J (64:Int))) (ck (I64 ((Int.tdiv J (64:Int))+I)) (ck (I64 (((Int.tdiv J (64:Int))+I)+(1:Int))) (ck (0≤(((Int.tdiv J (64:Int))+I)+(1:Int))∧(((Int.tdiv J (64:Int))+I)+(1:Int))<(((N.set ((Int.tdiv J (64:Int))+I).toNat ((N.getD ((Int.tdiv J (64:Int))+I).toNat (0:Nat))|||(((U.getD (I.toNat) (0:Nat))*(2^((Int.tmod J (64:Int))%(18446744073709551616:Int)).toNat))%18446744073709551616))).length:Nat):Int)) (ck (I64 ((63:Int)-(Int.tmod J (64:Int)))) (ck (0≤(((Int.tdiv J (64:Int))+I)+(1:Int))∧(((Int.tdiv J (64:Int))+I)+(1:Int))<(((N.set ((Int.tdiv J (64:Int))+I).toNat ((N.getD ((Int.tdiv J (64:Int))+I).toNat (0:Nat))|||(((U.getD (I.toNat) (0:Nat))*(2^((Int.tmod J (64:Int))%(18446744073709551616:Int)).toNat))%18446744073709551616))).length:Nat):Int)) (ck (I64 (I+(1:Int))) (some (.inl ((I+(1:Int)),((N.set ((Int.tdiv J (64:Int))+I).toNat ((N.getD ((Int.tdiv J (64:Int))+I).toNat (0:Nat))|||(((U.getD (I.toNat) (0:Nat))*(2^((Int.tmod J (64:Int))%(18446744073709551616:Int)).toNat))%18446744073709551616))).set (((Int.tdiv J (64:Int))+I)+(1:Int)).toNat (((N.set ((Int.tdiv J (64:Int))+I).toNat ((N.getD ((Int.tdiv J (64:Int))+I).toNat (0:Nat))|||(((U.getD (I.toNat) (0:Nat))*(2^((Int.tmod J (64:Int))%(18446744073709551616:Int)).toNat))%18446744073709551616))).getD (((Int.tdiv J (64:Int))+I)+(1:Int)).toNat (0:Nat))|||(((U.getD (I.toNat) (0:Nat))/(2:Nat))/(2^(((63:Int)-(Int.tmod J (64:Int)))%(18446744073709551616:Int)).toNat)))))))))))))))))) else some (.inr N)
def xA(F:Md)(I:qd)(J:Int):Option qd :=
 if (I.length:Int)=(0:Int) then some ([]:List Nat) else ck (I64 (Int.tdiv J (64:Int))) (ck (I64 ((Int.tdiv J (64:Int))+(I.length:Int))) (ck (I64 (((Int.tdiv J (64:Int))+(I.length:Int))+(1:Int))) (ck (0≤(((Int.tdiv J (64:Int))+(I.length:Int))+(1:Int))) (ck ((8:Int)*(((Int.tdiv J (64:Int))+(I.length:Int))+(1:Int))≤281474976710656) ((dC F (fun d:Int×qd=>jY F I J d.1 d.2) ((0:Int),(List.replicate (((Int.tdiv J (64:Int))+(I.length:Int))+(1:Int)).toNat (0:Nat)))).bind (fun e=>some (cB e)))))))
abbrev aO6(a:List Nat)(n:Int):Prop:=Sz a∧0≤n∧n≤1099511627776
def dR(a:List Nat)(n:Int):List Nat:=lb (nv a*2^n.toNat)
structure aWy(a:List Nat)(q r:Nat)(i:Int)(out:List Nat):Prop where
 i0:0≤i
 i1:i≤a.length
 len:out.length=q+a.length+1
 lm:Lm out
 sum:nv out=nv (a.take i.toNat)*(18446744073709551616^q*2^r)
theorem aWz{a:List Nat}{q r:Nat}{i:Int}{out:List Nat}(la:Lm a)(hr:r<64)(h:aWy a q r i out):out.getD (q+i.toNat) 0<2^r∧out.getD (q+i.toNat+1) 0=0:=by
 have J:=jG (xN la i.toNat);have U:(a.take i.toNat).length≤i.toNat:=by grind
 have I:=Nat.lt_of_lt_of_le J (Nat.pow_le_pow_right (show 0<18446744073709551616 by decide) U);have hp:0<2^r:=Nat.two_pow_pos r;have N:nv out<18446744073709551616^(q+i.toNat)*2^r:=by
  rw[h.sum,Nat.pow_add,Nat.mul_comm (18446744073709551616^q) (18446744073709551616^i.toNat),Nat.mul_assoc];exact Nat.mul_lt_mul_of_pos_right I (Nat.mul_pos (Nat.pow_pos xAa) hp)
 have Y:(2:Nat)^r≤18446744073709551616:=by
  have:=Nat.pow_le_pow_right (n:=2) (by omega) (show r≤64 by omega);omega
 constructor
 ·rw[nH h.lm];refine Nat.lt_of_le_of_lt (Nat.mod_le _ _) ?_;simp_all[Nat.div_lt_iff_lt_mul,Nat.pow_pos,Nat.mul_comm]
 ·refine aLl h.lm (Nat.lt_of_lt_of_le N ?_);simp_all[Nat.pow_succ,Nat.mul_le_mul_left]
theorem aYH{N J N2 P I Q x lo hi o T R:Nat}(Y:J+P*o=N+P*(o+lo))(U:N2=J+P*18446744073709551616*hi)(h3:lo+18446744073709551616*hi=x*R)(hN:N=T*(I*R))(hP:P=I*Q):N2=(T+Q*x)*(I*R):=by
 grind
theorem aTO{a:List Nat}{q r:Nat}{i:Int}{out:List Nat}(la:Lm a)(hr:r<64)(h:aWy a q r i out)(hi:i<a.length) :
  aWy a q r (i+1) ((out.set (q+i.toNat) (out.getD (q+i.toNat) 0|||a.getD i.toNat 0*2^r%18446744073709551616)).set (q+i.toNat+1) ((out.set (q+i.toNat) (out.getD (q+i.toNat) 0|||a.getD i.toNat 0*2^r%18446744073709551616)).getD (q+i.toNat+1) 0|||a.getD i.toNat 0/2/2^(63-r))):=by
 have h0:=h.i0;have hlen:=h.len;obtain⟨l1,l2⟩:=aWz la hr h;have hx:=eH la i.toNat;have Y:∀v,(out.set (q+i.toNat) v).getD (q+i.toNat+1) 0=0:=fun v=>by
  simp_all
 rw[Y,Nat.zero_or,aML _ _ (by omega),aQH l1,← aSB _ _ (by omega)];have J:2^r*(a.getD i.toNat 0%2^(64-r))+18446744073709551616*(a.getD i.toNat 0*2^r/18446744073709551616)=a.getD i.toNat 0*2^r:=by
  grind[aML,Nat.mod_add_div]
 have N:out.getD (q+i.toNat) 0+2^r*(a.getD i.toNat 0%2^(64-r))<18446744073709551616:=by
  have hm:a.getD i.toNat 0%2^(64-r)+1≤2^(64-r):=Nat.mod_lt _ (Nat.two_pow_pos _);have:=Nat.mul_le_mul_left (2^r) hm;grind[Nat.mul_comm,aO5,Nat.mul_add]
 have I:a.getD i.toNat 0*2^r/18446744073709551616<18446744073709551616:=by
  have:=Nat.div_le_self (a.getD i.toNat 0/2) (2^(63-r));grind[aSB]
 have e1:(i+1).toNat=i.toNat+1:=by omega
 refine⟨by omega,by omega,by simp_all,uG (uG h.lm _ N) _ I,?_⟩;have n1:=xZ (a:=out) (k:=q+i.toNat) (v:=out.getD (q+i.toNat) 0+2^r*(a.getD i.toNat 0%2^(64-r))) (by omega);have U:=xZ (a:=out.set (q+i.toNat) (out.getD (q+i.toNat) 0+2^r*(a.getD i.toNat 0%2^(64-r)))) (k:=q+i.toNat+1) (v:=a.getD i.toNat 0*2^r/18446744073709551616) (by simp_all);rw[Y,Nat.mul_zero,Nat.add_zero,Nat.pow_succ] at U;rw[e1,lD];exact aYH n1 U J h.sum (Nat.pow_add _ _ _)
theorem aLn(n:Nat):18446744073709551616^(n/64)*2^(n%64)=2^n:=by
 rw[uH,← Nat.pow_add]; grind
theorem aMM(a:List Nat)(wa:(Ty.sl qh).wf a)(n:Int)(wn:(Ty.i .i64).wf n)(hp:aO6 a n):xA none a n=some (dR a n):=by
 have la:=wT wa;obtain⟨U,n0,n1⟩:=hp;have U:a.length≤1099511627776:=U;obtain⟨d1,d2⟩:=aWx n0;have Y:n.toNat%64<64:=Nat.mod_lt _ xAa;have hq:n.toNat/64≤1099511627776:=by omega
 have N:=aLn n.toNat;obtain⟨u1,u2⟩:=aLm Y;unfold xA dR;rw[d1];refine aAT (fun h=>?_) (fun h=>?_)
 ·simp_all[List.eq_nil_of_length_eq_zero,aMB,Nat.zero_mul,sU]
 ·rw[← N];generalize n.toNat/64=q at *;generalize n.toNat%64=r at *;have J:=eQ (step:=fun d:Int×qd=>jY none a n d.1 d.2) (I:=fun d=>aWy a q r d.1 d.2) (fun d=>(a.length-d.1).toNat) (fun e=>nv e=nv a*(18446744073709551616^q*2^r)) ?_ (0,List.replicate (q+a.length+1) 0) ⟨by simp,by simp,by simp,aFM _,by simp[aFL,nv]⟩
  ·obtain⟨e,h1,h2⟩:=J;rw[show ((q:Int)+(a.length:Int)+1).toNat=q+a.length+1 from by omega];refine aB (by omega) (aB (by omega) (aB (by omega) (aB (by omega) (aB (by omega) (bF h1 ?_)))));rw[cB,h2]
  ·rintro⟨i,out⟩ h;have h:aWy a q r i out:=h;have h0:=h.i0;have h1:=h.i1;have hl:=h.len;show (∃d',jY none a n i out=_∧_)∨ ∃e,jY none a n i out=_∧_;unfold jY;rw[d1,d2,u1,u2,show ((q:Int)+i).toNat=q+i.toNat from by omega,show ((q:Int)+i+1).toNat=q+i.toNat+1 from by omega];by_cases hi:i<a.length
   ·left
    refine⟨(_,_),?_,aTO la Y h hi,by omega⟩;rw[if_pos hi];simp only[List.length_set];refine aB (by omega) (aB (by omega) (aB (by omega) (aB (by omega) (aB (by omega) (aB (by omega) (aB (by omega) (aB (by omega) (aB (by omega) (aB (by omega) (aB (by omega) (aB (by omega) rfl)))))))))))
   ·right
    refine⟨out,by grind,?_⟩;have:=h.sum;grind[List.take_length]
def iR(F:Md)(N:Int)(U:qd)(I:Int)(J:qd):Option ((Int×qd)⊕qd) :=
 if I<(((List.drop (Int.tdiv N (64:Int)).toNat U).length:Nat):Int) then ck (0≤I∧I<(((List.drop (Int.tdiv N (64:Int)).toNat U).length:Nat):Int)) (ck (0≤I∧I<(J.length:Int)) (ck (I64 (I+(1:Int))) (if (I+(1:Int))<(((List.drop (Int.tdiv N (64:Int)).toNat U).length:Nat):Int) then ck (0≤I∧I<(((J.set (I.toNat) (((List.drop (Int.tdiv N (64:Int)).toNat U).getD (I.toNat) (0:Nat))/(2^((Int.tmod N (64:Int))%(18446744073709551616:Int)).toNat))).length:Nat):Int)) (ck (I64 (I+(1:Int))) (ck (0≤(I+(1:Int))∧(I+(1:Int))<(((List.drop (Int.tdiv N (64:Int)).toNat U).length:Nat):Int)) (ck (I64 ((63:Int)-(Int.tmod N (64:Int)))) (ck (0≤I∧I<(((J.set (I.toNat) (((List.drop (Int.tdiv N (64:Int)).toNat U).getD (I.toNat) (0:Nat))/(2^((Int.tmod N (64:Int))%(18446744073709551616:Int)).toNat))).length:Nat):Int)) (ck (I64 (I+(1:Int))) (some (.inl ((I+(1:Int)),((J.set (I.toNat) (((List.drop (Int.tdiv N (64:Int)).toNat U).getD (I.toNat) (0:Nat))/(2^((Int.tmod N (64:Int))%(18446744073709551616:Int)).toNat))).set (I.toNat) (((J.set (I.toNat) (((List.drop (Int.tdiv N (64:Int)).toNat U).getD (I.toNat) (0:Nat))/(2^((Int.tmod N (64:Int))%(18446744073709551616:Int)).toNat))).getD (I.toNat) (0:Nat))|||((((((List.drop (Int.tdiv N (64:Int)).toNat U).getD (I+(1:Int)).toNat (0:Nat))*(2:Nat))%18446744073709551616)*(2^(((63:Int)-(Int.tmod N (64:Int)))%(18446744073709551616:Int)).toNat))%18446744073709551616))))))))))) else ck (I64 (I+(1:Int))) (some (.inl ((I+(1:Int)),(J.set (I.toNat) (((List.drop (Int.tdiv N (64:Int)).toNat U).getD (I.toNat) (0:Nat))/(2^((Int.tmod N (64:Int))%(18446744073709551616:Int)).toNat))))))))) else some (.inr J)
def tX(F:Md)(J:qd)(I:Int):Option qd :=
 ck (I64 (Int.tdiv I (64:Int))) (if (J.length:Int)≤(Int.tdiv I (64:Int)) then some ([]:List Nat) else ck (I64 (Int.tdiv I (64:Int))) (ck (0≤(Int.tdiv I (64:Int))∧(Int.tdiv I (64:Int))≤(J.length:Int)) (ck (0≤(((List.drop (Int.tdiv I (64:Int)).toNat J).length:Nat):Int)) (ck ((8:Int)*(((List.drop (Int.tdiv I (64:Int)).toNat J).length:Nat):Int)≤281474976710656) ((dC F (fun d:Int×qd=>iR F I J d.1 d.2) ((0:Int),(List.replicate (List.drop (Int.tdiv I (64:Int)).toNat J).length (0:Nat)))).bind (fun e=>some (cB e)))))))
abbrev aJg(a:List Nat)(n:Int):Prop:=Sz a∧0≤n
def gH(a:List Nat)(n:Int):List Nat:=lb (nv a/2^n.toNat)
structure aYI(a:List Nat)(r:Nat)(i:Int)(out:List Nat):Prop where
 i0:0≤i
 i1:i≤a.length
 len:out.length=a.length
 lm:Lm out
 sum:nv (out.take i.toNat)=nv a/2^r%18446744073709551616^i.toNat
theorem aYJ{w s r o:Nat}(I:o<2^s):(o+2^s*w)%(2^s*2^r)=o+2^s*(w%2^r):=by
 rw[Nat.mod_mul,Nat.add_mul_mod_self_left,Nat.mod_eq_of_lt I,Nat.add_mul_div_left _ _ (Nat.two_pow_pos s),Nat.div_eq_of_lt I,Nat.zero_add]
theorem aWA{x y z r:Nat}(Y:x<18446744073709551616)(N:r<64):(x+18446744073709551616*(y+18446744073709551616*z))/2^r%18446744073709551616=x/2^r|||y*2%18446744073709551616*2^(63-r)%18446744073709551616:=by
 have e0:y*2%18446744073709551616*2^(63-r)%18446744073709551616=2^(64-r)*(y%2^r):=by
  rw[Nat.mul_mod (y*2%18446744073709551616),Nat.mod_mod,← Nat.mul_mod,Nat.mul_assoc,← Nat.pow_succ',show (63-r).succ=64-r from by omega,aML _ _ (by omega),show 64-(64-r)=r from by omega]
 have U:=aO5 r (by omega);have J:x/2^r<2^(64-r):=(Nat.div_lt_iff_lt_mul (Nat.two_pow_pos r)).2 (by omega);have hd:(x+18446744073709551616*(y+18446744073709551616*z))/2^r=x/2^r+2^(64-r)*(y+18446744073709551616*z):=by
  rw[show 18446744073709551616*(y+18446744073709551616*z)=2^r*(2^(64-r)*(y+18446744073709551616*z)) from by grind,Nat.add_mul_div_left _ _ (Nat.two_pow_pos r)]
 have I:(y+18446744073709551616*z)%2^r=y%2^r:=by
  grind[Nat.mul_assoc,Nat.mul_comm,Nat.add_mul_mod_self_left]
 grind[aQH,aYJ]
theorem aTP{a:List Nat}{r:Nat}{i:Int}{out:List Nat}(la:Lm a)(hr:r<64)(h:aYI a r i out)(hi:i<a.length) :
  aYI a r (i+1) (out.set i.toNat (a.getD i.toNat 0/2^r|||a.getD (i.toNat+1) 0*2%18446744073709551616*2^(63-r)%18446744073709551616)):=by
 have h0:=h.i0;have U:=h.len;have N:i.toNat<a.length:=by omega
 have Y:(i+1).toNat=i.toNat+1:=by omega
 have hx:=eH la i.toNat;obtain⟨z,hz⟩:∃z,nv (a.drop (i.toNat+1))=a.getD (i.toNat+1) 0+18446744073709551616*z:=by
  rcases Nat.lt_or_ge (i.toNat+1) a.length with I|I
  ·refine⟨nv (a.drop (i.toNat+1+1)),?_⟩;rw[List.drop_eq_getElem_cons I,kE,List.getD_eq_getElem?_getD,List.getElem?_eq_getElem I]; rfl
  ·refine⟨0,?_⟩;rw[List.drop_eq_nil_of_le I,List.getD_eq_getElem?_getD,List.getElem?_eq_none I]; rfl
 have hd:nv (a.drop i.toNat)=a.getD i.toNat 0+18446744073709551616*(a.getD (i.toNat+1) 0+18446744073709551616*z):=by
  have hg:a.getD i.toNat 0=a[i.toNat]:=by rw[List.getD_eq_getElem?_getD,List.getElem?_eq_getElem N]; rfl
  rw[List.drop_eq_getElem_cons N,kE,hz,hg]
 have J:a.getD i.toNat 0/2^r|||a.getD (i.toNat+1) 0*2%18446744073709551616*2^(63-r)%18446744073709551616=nv a/2^r/18446744073709551616^i.toNat%18446744073709551616:=by
  rw[← aWA (z:=z) hx hr,← hd,aEj la,Nat.div_div_eq_div_mul,Nat.div_div_eq_div_mul,Nat.mul_comm (18446744073709551616^i.toNat)]
 rw[J];refine⟨by omega,by omega,by simp_all,uG h.lm _ (Nat.mod_lt _ xAa),?_⟩;rw[Y,aGo (by omega),h.sum,Nat.pow_succ,Nat.mod_mul]
theorem aKh(a:List Nat)(wa:(Ty.sl qh).wf a)(n:Int)(wn:(Ty.i .i64).wf n)(hp:aJg a n):tX none a n=some (gH a n):=by
 have la:=wT wa;obtain⟨sa,n0⟩:=hp;have sa:a.length≤1099511627776:=sa;obtain⟨w1,w2⟩:=wf_i64 wn;obtain⟨d1,d2⟩:=aWx n0;have hr:n.toNat%64<64:=Nat.mod_lt _ xAa;have hq:n.toNat/64≤9223372036854775807:=by omega
 have Y:=aLn n.toNat;obtain⟨u1,u2⟩:=aLm hr;unfold tX gH;rw[d1];refine aB (by omega) (aAT (fun h=>?_) (fun h=>?_))
 ·have:nv a/2^n.toNat=0:=by
   refine Nat.div_eq_of_lt (Nat.lt_of_lt_of_le (jG la) ?_);grind[Nat.le_trans,Nat.pow_le_pow_right,Nat.le_mul_of_pos_right,Nat.two_pow_pos]
  rw[this,sU]
 ·rw[← Y,← Nat.div_div_eq_div_mul,← aEj la];generalize n.toNat/64=q at *;generalize n.toNat%64=r at *;rw[Int.toNat_natCast];have lA:=aYv la q;have hA:(a.drop q).length=a.length-q:=List.length_drop;have U:=eQ (step:=fun d:Int×qd=>iR none n a d.1 d.2) (I:=fun d=>aYI (a.drop q) r d.1 d.2) (fun d=>((a.drop q).length-d.1).toNat) (fun e=>nv e=nv (a.drop q)/2^r) ?_ (0,List.replicate (a.drop q).length 0) ⟨by simp,by simp,by simp,aFM _,by simp[nv,Nat.mod_one]⟩
  ·obtain⟨e,h1,h2⟩:=U;refine aB (by omega) (aB (by omega) (aB (by omega) (aB (by omega) (bF h1 ?_))));rw[cB,h2]
  ·rintro⟨i,out⟩ h;have h:aYI (a.drop q) r i out:=h;have h0:=h.i0;have h1:=h.i1;have hl:=h.len;show (∃d',iR none n a i out=_∧_)∨ ∃e,iR none n a i out=_∧_;unfold iR;rw[d1,d2,u1,u2,Int.toNat_natCast];generalize a.drop q=A at *;by_cases hi:i<A.length
   ·left
    have N:=aTP lA hr h hi;rw[if_pos hi];by_cases J:i+1<A.length
    ·refine⟨(_,_),?_,N,by omega⟩;rw[if_pos J];simp only[List.length_set];refine aB (by omega) (aB (by omega) (aB (by omega) (aB (by omega) (aB (by omega) (aB (by omega) (aB (by omega) (aB (by omega) (aB (by omega) ?_))))))));rw[show (i+1).toNat=i.toNat+1 from by omega,List.set_set,List.getD_eq_getElem?_getD (l:=out.set _ _),List.getElem?_set_self (by omega)];rfl
    ·have hy:A.getD (i.toNat+1) 0=0:=(by grind);rw[hy] at N;simp only[Nat.zero_mul,Nat.zero_mod,Nat.or_zero] at N;refine⟨(_,_),?_,N,by omega⟩;rw[if_neg J];exact aB (by omega) (aB (by omega) (aB (by omega) (aB (by omega) rfl)))
   ·right
    refine⟨out,by grind,?_⟩;have:=h.sum;rw[show i.toNat=A.length from by omega,List.take_of_length_le (by omega)] at this;rw[this];exact Nat.mod_eq_of_lt (Nat.lt_of_le_of_lt (Nat.div_le_self _ _) (jG lA))
theorem bAB{N M:Nat}(h:M≤N)(I:N-M<18446744073709551616):aA5 .u64 (N%18446744073709551616) (M%18446744073709551616)=N-M:=by
 rw[aB7,aSy]; omega
structure DI(V u u1 q r:Nat):Prop where
 lo:9223372036854775808≤V
 hi:V<18446744073709551616
 uV:u<V
 ul:u1<4294967296
 eq:q*(V/4294967296)+r=u
 ge:(u*4294967296+u1)/V≤q
 r1:r<4294967296
theorem bAC{V u u1 q r:Nat}(h:DI V u u1 q r):q*V+r*4294967296=u*4294967296+q*(V%4294967296):=by
 have e:=Nat.div_add_mod V 4294967296;have:=h.eq;grind
theorem aWB{V u u1 q r:Nat}(h:DI V u u1 q r):(u*4294967296+u1)/V<4294967296:=by
 have I:=h.uV;have J:=h.ul;refine(Nat.div_lt_iff_lt_mul (by omega)).2 ?_;omega
theorem aHP{V u u1 q r:Nat}(h:DI V u u1 q r):(4294967296≤q∨(zN .u64 4294967296 r+u1)%18446744073709551616<zN .u64 q (V%4294967296))↔(u*4294967296+u1)/V<q:=by
 have U:=aWB h;have J:=bAC h;have I:=h.r1;have N:=h.ul;have hV:=h.lo;rcases Nat.lt_or_ge q 4294967296 with hq|hq
 ·have hv:V%4294967296≤4294967295:=by omega
  have p:q*(V%4294967296)≤4294967295*4294967295:=Nat.mul_le_mul (by omega) hv;rw[aGm,aGm,Nat.div_lt_iff_lt_mul (by omega)];omega
 omega
theorem aWC{V u u1 q r:Nat}(h:DI V u u1 q r)(hc:(u*4294967296+u1)/V<q):(r+V/4294967296)%18446744073709551616=r+V/4294967296∧aA5 .u64 q 1=q-1∧(4294967296≤r+V/4294967296→q-1=(u*4294967296+u1)/V)∧(r+V/4294967296<4294967296→DI V u u1 (q-1) (r+V/4294967296)):=by
 have h1:=h.r1;have h2:=h.hi;have h3:=h.lo;have he:=h.eq;have hu:=h.uV;have J:=h.ul;have hQ:=Nat.zero_le ((u*4294967296+u1)/V);obtain⟨p,rfl⟩:∃p,q=p+1:=⟨q-1,by omega⟩;have U:p*(V/4294967296)+(r+V/4294967296)=u:=by grind
 have hqV:(p+1)*(V/4294967296)<18446744073709551616:=by omega
 have I:p+1<18446744073709551616:=by
  have:(p+1)*1≤(p+1)*(V/4294967296):=Nat.mul_le_mul_left _ (by omega);omega
 refine⟨by omega,aOY I (by omega),fun hr=>?_,fun hr=>⟨h3,h2,hu,J,U,by omega,hr⟩⟩;simp only[Nat.add_sub_cancel];refine Nat.le_antisymm ?_ (by omega);refine(Nat.le_div_iff_mul_le (by omega)).2 ?_;have ev:=Nat.div_add_mod V 4294967296;have N:V%4294967296≤4294967295:=by omega
 generalize V/4294967296=v1 at *;generalize V%4294967296=v0 at *;have hp:p≤4294967295:=by
  rcases Nat.lt_or_ge p 4294967296 with Y|Y
  ·omega
  ·have:=Nat.mul_le_mul_right v1 Y;omega
 have hC:p*v0≤4294967295*4294967295:=Nat.mul_le_mul hp N;grind[Nat.mul_add,Nat.mul_left_comm]
theorem aO7{V u u1:Nat}(U:9223372036854775808≤V)(I:V<18446744073709551616)(Y:u<V)(J:u1<4294967296):aA5 .u64 u (zN .u64 (u/(V/4294967296)) (V/4294967296))=u%(V/4294967296)∧DI V u u1 (u/(V/4294967296)) (u%(V/4294967296)):=by
 have e:=Nat.div_add_mod u (V/4294967296);have m:=Nat.mod_lt u (show 0<V/4294967296 by omega);have N:(V/4294967296)*(u/(V/4294967296))≤u:=by omega
 constructor
 ·grind[aGm,Nat.mul_comm,Nat.mod_eq_of_lt,aOY]
 ·refine⟨U,I,Y,J,by grind,?_,by omega⟩;refine(Nat.le_div_iff_mul_le (by omega)).2 ?_;have e2:=Nat.div_add_mod V 4294967296;have d:=Nat.div_mul_le_self (u*4294967296+u1) V;grind[Nat.mul_add,Nat.mul_left_comm,Nat.mul_comm]
abbrev vC(hi lo y:Nat):Prop:=hi<y
def iF(hi lo y:Nat):Nat×Nat×Unit:=((hi*18446744073709551616+lo)/y,(hi*18446744073709551616+lo)%y,())
def lN(F:Md)(N:Nat)(Y:Nat)(I:Nat)(U:Nat)(J:Nat):Option (Nat×(Nat×Unit)) :=
 some ((((mulM F .u64 N (4294967296:Nat))+J)%18446744073709551616),((kV F .u64 (((mulM F .u64 (kV F .u64 (((mulM F .u64 (((Y*(2^((aA I)%(18446744073709551616:Int)).toNat))%18446744073709551616)|||(U/(2^(kV F .u64 (64:Nat) ((aA I)%(18446744073709551616:Int)).toNat)))) (4294967296:Nat))+(((U*(2^((aA I)%(18446744073709551616:Int)).toNat))%18446744073709551616)/(4294967296:Nat)))%18446744073709551616) (mulM F .u64 N ((I*(2^((aA I)%(18446744073709551616:Int)).toNat))%18446744073709551616))) (4294967296:Nat))+(((U*(2^((aA I)%(18446744073709551616:Int)).toNat))%18446744073709551616)&&&(4294967295:Nat)))%18446744073709551616) (mulM F .u64 J ((I*(2^((aA I)%(18446744073709551616:Int)).toNat))%18446744073709551616)))/(2^((aA I)%(18446744073709551616:Int)).toNat)),())
def eT(F:Md)(U:Nat)(N:Nat)(J:Nat)(I:Nat):Option ((Nat×Nat)⊕(Nat)) :=
 if ((4294967296:Nat)≤I)∨((((mulM F .u64 (4294967296:Nat) J)+(((U*(2^((aA N)%(18446744073709551616:Int)).toNat))%18446744073709551616)&&&(4294967295:Nat)))%18446744073709551616)<(mulM F .u64 I (((N*(2^((aA N)%(18446744073709551616:Int)).toNat))%18446744073709551616)&&&(4294967295:Nat)))) then if (4294967296:Nat)≤((J+(((N*(2^((aA N)%(18446744073709551616:Int)).toNat))%18446744073709551616)/(4294967296:Nat)))%18446744073709551616) then some (.inr (kV F .u64 I (1:Nat))) else some (.inl (((J+(((N*(2^((aA N)%(18446744073709551616:Int)).toNat))%18446744073709551616)/(4294967296:Nat)))%18446744073709551616),(kV F .u64 I (1:Nat)))) else some (.inr I)
def lO(F:Md)(I:Nat)(J:Nat)(U:Nat)(N:Nat):Option (Nat×(Nat×Unit)) :=
 ck ((((I*(2^((aA I)%(18446744073709551616:Int)).toNat))%18446744073709551616)/(4294967296:Nat))≠0) ((dC F (fun d:Nat×Nat=>eT F J I d.1 d.2) ((kV F .u64 (kV F .u64 (((mulM F .u64 (((U*(2^((aA I)%(18446744073709551616:Int)).toNat))%18446744073709551616)|||(J/(2^(kV F .u64 (64:Nat) ((aA I)%(18446744073709551616:Int)).toNat)))) (4294967296:Nat))+(((J*(2^((aA I)%(18446744073709551616:Int)).toNat))%18446744073709551616)/(4294967296:Nat)))%18446744073709551616) (mulM F .u64 N ((I*(2^((aA I)%(18446744073709551616:Int)).toNat))%18446744073709551616))) (mulM F .u64 ((kV F .u64 (((mulM F .u64 (((U*(2^((aA I)%(18446744073709551616:Int)).toNat))%18446744073709551616)|||(J/(2^(kV F .u64 (64:Nat) ((aA I)%(18446744073709551616:Int)).toNat)))) (4294967296:Nat))+(((J*(2^((aA I)%(18446744073709551616:Int)).toNat))%18446744073709551616)/(4294967296:Nat)))%18446744073709551616) (mulM F .u64 N ((I*(2^((aA I)%(18446744073709551616:Int)).toNat))%18446744073709551616)))/(((I*(2^((aA I)%(18446744073709551616:Int)).toNat))%18446744073709551616)/(4294967296:Nat))) (((I*(2^((aA I)%(18446744073709551616:Int)).toNat))%18446744073709551616)/(4294967296:Nat)))),((kV F .u64 (((mulM F .u64 (((U*(2^((aA I)%(18446744073709551616:Int)).toNat))%18446744073709551616)|||(J/(2^(kV F .u64 (64:Nat) ((aA I)%(18446744073709551616:Int)).toNat)))) (4294967296:Nat))+(((J*(2^((aA I)%(18446744073709551616:Int)).toNat))%18446744073709551616)/(4294967296:Nat)))%18446744073709551616) (mulM F .u64 N ((I*(2^((aA I)%(18446744073709551616:Int)).toNat))%18446744073709551616)))/(((I*(2^((aA I)%(18446744073709551616:Int)).toNat))%18446744073709551616)/(4294967296:Nat))))).bind (fun e=>lN F N U I J e))
def eU(F:Md)(U:Nat)(N:Nat)(I:Nat)(J:Nat):Option ((Nat×Nat)⊕(Nat)) :=
 if ((4294967296:Nat)≤I)∨((((mulM F .u64 (4294967296:Nat) J)+(((U*(2^((aA N)%(18446744073709551616:Int)).toNat))%18446744073709551616)/(4294967296:Nat)))%18446744073709551616)<(mulM F .u64 I (((N*(2^((aA N)%(18446744073709551616:Int)).toNat))%18446744073709551616)&&&(4294967295:Nat)))) then if (4294967296:Nat)≤((J+(((N*(2^((aA N)%(18446744073709551616:Int)).toNat))%18446744073709551616)/(4294967296:Nat)))%18446744073709551616) then some (.inr (kV F .u64 I (1:Nat))) else some (.inl ((kV F .u64 I (1:Nat)),((J+(((N*(2^((aA N)%(18446744073709551616:Int)).toNat))%18446744073709551616)/(4294967296:Nat)))%18446744073709551616))) else some (.inr I)
def rB(F:Md)(N:Nat)(J:Nat)(I:Nat):Option (Nat×(Nat×Unit)) :=
 if I=(0:Nat) then none else if I≤N then none else if N=(0:Nat) then ck (I≠0) (ck (I≠0) (some ((J/I),(J%I),()))) else ck ((((I*(2^((aA I)%(18446744073709551616:Int)).toNat))%18446744073709551616)/(4294967296:Nat))≠0) ((dC F (fun d:Nat×Nat=>eU F J I d.1 d.2) (((((N*(2^((aA I)%(18446744073709551616:Int)).toNat))%18446744073709551616)|||(J/(2^(kV F .u64 (64:Nat) ((aA I)%(18446744073709551616:Int)).toNat))))/(((I*(2^((aA I)%(18446744073709551616:Int)).toNat))%18446744073709551616)/(4294967296:Nat))),(kV F .u64 (((N*(2^((aA I)%(18446744073709551616:Int)).toNat))%18446744073709551616)|||(J/(2^(kV F .u64 (64:Nat) ((aA I)%(18446744073709551616:Int)).toNat)))) (mulM F .u64 ((((N*(2^((aA I)%(18446744073709551616:Int)).toNat))%18446744073709551616)|||(J/(2^(kV F .u64 (64:Nat) ((aA I)%(18446744073709551616:Int)).toNat))))/(((I*(2^((aA I)%(18446744073709551616:Int)).toNat))%18446744073709551616)/(4294967296:Nat))) (((I*(2^((aA I)%(18446744073709551616:Int)).toNat))%18446744073709551616)/(4294967296:Nat)))))).bind (fun e=>lO F I J N e))
theorem aHQ(x:Nat):x&&&4294967295=x%4294967296:=Nat.and_two_pow_sub_one_eq_mod x 32
theorem bAD{lo y s:Nat}{u:Nat}(hs:(aA y%(18446744073709551616:Int)).toNat=s)(h:∀V,V=y*2^s%18446744073709551616→9223372036854775808≤V∧u<V) :
  aCG (fun d:Nat×Nat=>eU none lo y d.1 d.2) (u/(y*2^s%18446744073709551616/4294967296),aA5 .u64 u (zN .u64 (u/(y*2^s%18446744073709551616/4294967296)) (y*2^s%18446744073709551616/4294967296)))=some ((u*4294967296+lo*2^s%18446744073709551616/4294967296)/(y*2^s%18446744073709551616)):=by
 have hV:=Nat.mod_lt (y*2^s) (show 0<18446744073709551616 by decide);have hU:=Nat.mod_lt (lo*2^s) (show 0<18446744073709551616 by decide);have step:∀q r,eU none lo y q r=if 4294967296≤q∨(zN .u64 4294967296 r+lo*2^s%18446744073709551616/4294967296)%18446744073709551616<zN .u64 q (y*2^s%18446744073709551616%4294967296) then if 4294967296≤(r+y*2^s%18446744073709551616/4294967296)%18446744073709551616 then some (.inr (aA5 .u64 q 1)) else some (.inl (aA5 .u64 q 1,(r+y*2^s%18446744073709551616/4294967296)%18446744073709551616)) else some (.inr q):=fun q r=>by
  unfold eU; rw[hs,aHQ]; rfl
 obtain⟨Y,U⟩:=h _ rfl;generalize y*2^s%18446744073709551616=V at *;have N:lo*2^s%18446744073709551616/4294967296<4294967296:=by omega
 generalize lo*2^s%18446744073709551616/4294967296=J at *;obtain⟨e0,i0⟩:=aO7 Y hV U N;rw[e0];refine oA (I:=fun d=>DI V u J d.1 d.2) (fun d=>d.1) (fun _=>(u*4294967296+J)/V) ?_ (u/(V/4294967296),u%(V/4294967296)) i0;rintro⟨q,r⟩ hi;have hi:DI V u J q r:=hi;show (∃d',eU none lo y q r=_∧_)∨eU none lo y q r=_;rw[step];by_cases hc:(u*4294967296+J)/V<q
 ·obtain⟨a1,a2,a3,a4⟩:=aWC hi hc;rw[if_pos ((aHP hi).2 hc),a1,a2];grind
 ·right
  rw[if_neg (fun h=>hc ((aHP hi).1 h))];have:=hi.ge;grind
theorem bAE{lo y s:Nat}{u:Nat}(hs:(aA y%(18446744073709551616:Int)).toNat=s)(h:∀V,V=y*2^s%18446744073709551616→9223372036854775808≤V∧u<V) :
  aCG (fun d:Nat×Nat=>eT none lo y d.1 d.2) (aA5 .u64 u (zN .u64 (u/(y*2^s%18446744073709551616/4294967296)) (y*2^s%18446744073709551616/4294967296)),u/(y*2^s%18446744073709551616/4294967296))=some ((u*4294967296+lo*2^s%18446744073709551616%4294967296)/(y*2^s%18446744073709551616)):=by
 have hV:=Nat.mod_lt (y*2^s) (show 0<18446744073709551616 by decide);have step:∀q r,eT none lo y r q=if 4294967296≤q∨(zN .u64 4294967296 r+lo*2^s%18446744073709551616%4294967296)%18446744073709551616<zN .u64 q (y*2^s%18446744073709551616%4294967296) then if 4294967296≤(r+y*2^s%18446744073709551616/4294967296)%18446744073709551616 then some (.inr (aA5 .u64 q 1)) else some (.inl ((r+y*2^s%18446744073709551616/4294967296)%18446744073709551616,aA5 .u64 q 1)) else some (.inr q):=fun q r=>by
  unfold eT; rw[hs,aHQ,aHQ]; rfl
 obtain⟨Y,U⟩:=h _ rfl;generalize y*2^s%18446744073709551616=V at *;have N:lo*2^s%18446744073709551616%4294967296<4294967296:=Nat.mod_lt _ xAa;generalize lo*2^s%18446744073709551616%4294967296=J at *;obtain⟨e0,i0⟩:=aO7 Y hV U N;rw[e0];refine oA (I:=fun d=>DI V u J d.2 d.1) (fun d=>d.2) (fun _=>(u*4294967296+J)/V) ?_ (u%(V/4294967296),u/(V/4294967296)) i0;rintro⟨r,q⟩ hi;have hi:DI V u J q r:=hi;show (∃d',eT none lo y r q=_∧_)∨eT none lo y r q=_;rw[step];by_cases hc:(u*4294967296+J)/V<q
 ·obtain⟨a1,a2,a3,a4⟩:=aWC hi hc;rw[if_pos ((aHP hi).2 hc),a1,a2];grind
 ·right
  rw[if_neg (fun h=>hc ((aHP hi).1 h))];have:=hi.ge;grind
theorem aGq{N V:Nat}:N-N/V*V=N%V:=by
 grind[Nat.div_add_mod,Nat.mul_comm]
theorem aWD{V u u1:Nat}(I:0<V)(N:V<18446744073709551616)(J:u1<4294967296):aA5 .u64 ((zN .u64 u 4294967296+u1)%18446744073709551616) (zN .u64 ((u*4294967296+u1)/V) V)=(u*4294967296+u1)%V:=by
 have m:=Nat.mod_lt (u*4294967296+u1) I;rw[aGm,aGm,Nat.mod_add_mod,bAB (Nat.div_mul_le_self _ _) (by grind[aGq,Nat.lt_trans]),aGq]
theorem aSC{V N W un0:Nat}(hV:0<V):N/V*W+(N%V*W+un0)/V=(N*W+un0)/V∧(N%V*W+un0)%V=(N*W+un0)%V:=by
 have e:=Nat.div_add_mod N V;have:N*W+un0=N%V*W+un0+V*(N/V*W):=by
  grind
 rw[this,Nat.add_mul_div_left _ _ hV,Nat.add_mul_mod_self_left];omega
theorem bAF(A C:Nat):(A*4294967296+C/4294967296)*4294967296+C%4294967296=A*18446744073709551616+C:=by omega
theorem aJh(hi:Nat)(wh:(Ty.u .u64).wf hi)(lo:Nat)(wl:(Ty.u .u64).wf lo)(y:Nat)(wy:(Ty.u .u64).wf y)(hp:vC hi lo y):rB none hi lo y=some (iF hi lo y):=by
 have hh:=aDs wh;have hl:=aDs wl;have hy:=aDs wy;have hp:hi<y:=hp;have hb:=aWo hy;have hb1:=aJc (x:=y) (by omega);have hs:(aA y%(18446744073709551616:Int)).toNat=64-bl y:=by grind[aA]
 have Y:aA5 .u64 64 (64-bl y)=64-(64-bl y):=aOY (by omega) (by omega);have hlow:=aMD (x:=y) (by omega);have hlt:=aGn y;unfold rB iF;try simp only[kV,mulM,aGT]
 rw[if_neg (by omega),if_neg (by omega),hs];refine aAT (fun h=>?_) (fun h=>?_)
 ·subst h;refine aB (by omega) (aB (by omega) ?_);simp_all
 ·rw[Y];generalize hsd:64-bl y=s at *;have hs64:s≤63:=by omega
  have I:=Nat.two_pow_pos s;have h2s:2^(64-s)*2^s=18446744073709551616:=aO5 s (by omega);have U:y*2^s<18446744073709551616:=by
   rw[← h2s,show 64-s=bl y from by omega];simp_all
  have hyL:9223372036854775808≤y*2^s:=by
   have:=Nat.mul_le_mul_right (2^s) hlow;rw[← Nat.pow_add,show bl y-1+s=63 from by omega] at this;omega
  have hU:hi*2^s%18446744073709551616|||lo/2^(64-s)=(hi*18446744073709551616+lo)*2^s/18446744073709551616:=by
   have h1:hi*2^s<18446744073709551616:=Nat.lt_trans (Nat.mul_lt_mul_of_pos_right hp I) U;have h3:lo/2^(64-s)<2^s:=(Nat.div_lt_iff_lt_mul (Nat.two_pow_pos _)).2 (by grind);rw[Nat.mod_eq_of_lt h1,Nat.or_comm,Nat.mul_comm hi,aQH h3,Nat.add_mul,Nat.mul_assoc,Nat.mul_comm 18446744073709551616,← Nat.mul_assoc,Nat.add_comm (hi*2^s*18446744073709551616),Nat.add_mul_div_right _ _ xAa,← h2s,Nat.mul_div_mul_right _ _ I,Nat.mul_comm hi]
  have hUV:(hi*18446744073709551616+lo)*2^s/18446744073709551616<y*2^s:=by
   refine(Nat.div_lt_iff_lt_mul xAa).2 ?_;rw[Nat.mul_right_comm y];exact Nat.mul_lt_mul_of_pos_right (by omega) I
  have J:lo*2^s%18446744073709551616=(hi*18446744073709551616+lo)*2^s%18446744073709551616:=by
   grind
  have hVm:y*2^s%18446744073709551616=y*2^s:=Nat.mod_eq_of_lt U;have eN:=Nat.div_add_mod ((hi*18446744073709551616+lo)*2^s) 18446744073709551616;have mN:=Nat.mod_lt ((hi*18446744073709551616+lo)*2^s) (show 0<18446744073709551616 by decide);rw[hU];refine aB (by omega) (bF (bAD hs (fun V e=>by omega)) ?_);unfold lO;try simp only[kV,mulM,aGT]
  rw[hs,Y,hU];have hr:=aWD (V:=y*2^s%18446744073709551616) (u:=(hi*18446744073709551616+lo)*2^s/18446744073709551616) (u1:=lo*2^s%18446744073709551616/4294967296) (by omega) (by omega) (by omega);rw[hr];refine aB (by omega) (bF (bAE hs (fun V e=>by rw[e]; exact⟨by omega,Nat.mod_lt _ (by omega)⟩)) ?_);unfold lN;try simp only[kV,mulM,aGT]
  rw[hs,Y,hU,hr,aHQ,hVm,J];have hr2:=aWD (V:=y*2^s) (u:=((hi*18446744073709551616+lo)*2^s/18446744073709551616*4294967296+(hi*18446744073709551616+lo)*2^s%18446744073709551616/4294967296)%(y*2^s)) (u1:=(hi*18446744073709551616+lo)*2^s%18446744073709551616%4294967296) (by omega) U (Nat.mod_lt _ xAa);rw[hr2];obtain⟨q1,q2⟩:=aSC (V:=y*2^s) (N:=(hi*18446744073709551616+lo)*2^s/18446744073709551616*4294967296+(hi*18446744073709551616+lo)*2^s%18446744073709551616/4294967296) (W:=4294967296) (un0:=(hi*18446744073709551616+lo)*2^s%18446744073709551616%4294967296) (by omega);have eW:=(bAF ((hi*18446744073709551616+lo)*2^s/18446744073709551616) ((hi*18446744073709551616+lo)*2^s%18446744073709551616)).trans ((congrArg (· + (hi*18446744073709551616+lo)*2^s%18446744073709551616) (Nat.mul_comm _ _)).trans eN);rw[eW] at q1 q2;rw[q2,aGm,Nat.mod_add_mod,q1,Nat.mul_div_mul_right _ _ I,Nat.mul_mod_mul_right,Nat.mul_div_cancel _ I];have hq:(hi*18446744073709551616+lo)/y<18446744073709551616:=(Nat.div_lt_iff_lt_mul (by omega)).2 (by omega);simp_all
abbrev aBJ(a:List Nat)(b:Nat):Prop:=b≠0∧Sz a
def pN(a:List Nat)(b:Nat):List Nat×List Nat×Unit:=(lb (nv a/b),lb (nv a%b),())
def mR(F:Md)(I:Nat)(J:qd):Option (qd×(qd×Unit)) :=
 some ((cB J),(cB ([I]:List Nat)),())
def iS(F:Md)(U:qd)(Y:Nat)(J:Nat)(I:Int)(N:qd):Option ((Nat×Int×qd)⊕wg) :=
 if (0:Int)≤I then ck (0≤I∧I<(U.length:Int)) (ck (vC J (U.getD (I.toNat) (0:Nat)) Y) (ck (0≤I∧I<(N.length:Int)) (ck (I64 (I-(1:Int))) (some (.inl ((iF J (U.getD (I.toNat) (0:Nat)) Y).2.1,(I-(1:Int)),(N.set (I.toNat) (iF J (U.getD (I.toNat) (0:Nat)) Y).1))))))) else some (.inr (J,N))
def tY(F:Md)(I:qd)(J:Nat):Option (qd×(qd×Unit)) :=
 ck (0≤(I.length:Int)) (ck ((8:Int)*(I.length:Int)≤281474976710656) (ck (I64 ((I.length:Int)-(1:Int))) ((dC F (fun d:Nat×Int×qd=>iS F I J d.1 d.2.1 d.2.2) ((0:Nat),((I.length:Int)-(1:Int)),(List.replicate (I.length) (0:Nat)))).bind (fun e=>mR F e.1 e.2))))
structure aMN(a:List Nat)(b:Nat)(rest:Nat)(i:Int)(q:List Nat):Prop where
 i0: -1≤i
 i1:i<a.length
 len:q.length=a.length
 lm:Lm q
 sum:nv q=nv a/18446744073709551616^(i+1).toNat/b*18446744073709551616^(i+1).toNat
 res:rest=nv a/18446744073709551616^(i+1).toNat%b
theorem aO8{a:List Nat}{b rest:Nat}{i:Int}{q:List Nat}(la:Lm a)(hb:b≠0)(h:aMN a b rest i q)(hi:0≤i) :
  rest<b∧aMN a b ((rest*18446744073709551616+a.getD i.toNat 0)%b) (i-1) (q.set i.toNat ((rest*18446744073709551616+a.getD i.toNat 0)/b)):=by
 have h1:=h.i1;have hl:=h.len;have hr:rest<b:=by rw[h.res]; exact Nat.mod_lt _ (by omega)
 have hx:=eH la i.toNat;have Y:(i+1).toNat=i.toNat+1:=by omega
 have e2:(i-1+1).toNat=i.toNat:=by omega
 have hN:nv a/18446744073709551616^i.toNat=nv a/18446744073709551616^(i.toNat+1)*18446744073709551616+a.getD i.toNat 0:=by
  rw[nH la,Nat.pow_succ,← Nat.div_div_eq_div_mul,Nat.mul_comm,Nat.div_add_mod]
 obtain⟨d1,U⟩:=aSC (V:=b) (N:=nv a/18446744073709551616^(i.toNat+1)) (W:=18446744073709551616) (un0:=a.getD i.toNat 0) (by omega);have J:=h.sum;have I:=h.res;rw[Y] at J I;rw[← I,← hN] at d1 U;have hz:q.getD i.toNat 0=0:=by
  rw[nH h.lm,J,Nat.pow_succ,Nat.mul_comm (18446744073709551616^i.toNat) 18446744073709551616,← Nat.mul_assoc,Nat.mul_div_cancel _ (Nat.pow_pos xAa),Nat.mul_mod_left]
 have hv:(rest*18446744073709551616+a.getD i.toNat 0)/b<18446744073709551616:=by
  refine(Nat.div_lt_iff_lt_mul (by omega)).2 ?_;omega
 refine⟨hr,by omega,by omega,by simp_all,uG h.lm _ hv,?_,?_⟩
 ·have hn:=xZ (a:=q) (k:=i.toNat) (v:=(rest*18446744073709551616+a.getD i.toNat 0)/b) (by omega);grind
 simp_all
theorem aKi(a:List Nat)(wa:(Ty.sl qh).wf a)(b:Nat)(wb:(Ty.u .u64).wf b)(hp:aBJ a b):tY none a b=some (pN a b):=by
 have la:=wT wa;obtain⟨hb,N⟩:=hp;have N:a.length≤1099511627776:=N;unfold tY pN;have J:=eQ (step:=fun d:Nat×Int×qd=>iS none a b d.1 d.2.1 d.2.2) (I:=fun d=>aMN a b d.1 d.2.1 d.2.2) (fun d=>(d.2.1+1).toNat) (fun e=>e.1=nv a%b∧nv e.2=nv a/b) ?_ (0,(a.length:Int)-1,List.replicate a.length 0) ?_
 ·obtain⟨e,U,h2,h3⟩:=J;refine aB (by omega) (aB (by omega) (aB (by omega) (bF U ?_)));unfold mR;rw[cB,cB,h3,h2];rfl
 ·rintro⟨rest,i,q⟩ h;have h:aMN a b rest i q:=h;have U:=h.i1;have hl:=h.len;show (∃d',iS none a b rest i q=_∧_)∨ ∃e,iS none a b rest i q=_∧_;unfold iS;by_cases hi:0≤i
  ·left
   obtain⟨s1,Y⟩:=aO8 la hb h hi;rw[if_pos hi];refine⟨(_,_,_),aB (by omega) (aB s1 (aB (by omega) (aB (by omega) rfl))),Y,by grind⟩
  ·right
   refine⟨(rest,q),by grind,?_⟩;have h0:=h.i0;have hs:=h.sum;have hr:=h.res;grind
 ·have e:((a.length:Int)-1+1).toNat=a.length:=by omega
  have hz:nv a/18446744073709551616^a.length=0:=Nat.div_eq_of_lt (jG la);exact⟨by grind,by grind,by simp,aFM _,by simp only; rw[e,hz,aFL,Nat.zero_div,Nat.zero_mul],by grind[Nat.zero_mod]⟩
abbrev vD(a:List Nat)(n:Int):Prop:=a.length≤n∧n≤1099511627777
def cG(a:List Nat)(n:Int):List Nat:=a++List.replicate (n.toNat-a.length) 0
def rC(F:Md)(I:qd)(J:Int):Option qd :=
 ck (aTJ I) (ck (I64 (J-(I.length:Int))) (ck (0≤(J-(I.length:Int))) (ck (((id I).length+(J-(I.length:Int)).toNat)*8≤140737488355328) (some ((id I)++(List.replicate (J-(I.length:Int)).toNat (0:Nat)))))))
theorem aJi(a:List Nat)(U:(Ty.sl qh).wf a)(n:Int)(Y:(Ty.i .i64).wf n)(hp:vD a n):rC none a n=some (cG a n):=by
 obtain⟨N,J⟩:=hp;have I:aTJ a:=by omega
 unfold rC cG;simp only[id];refine aB I (aB (by omega) (aB (by omega) (aB (by omega) ?_)));simp_all
def mS(F:Md)(I:qd)(U:Nat)(J:Nat)(Y:Nat)(carry_31:Nat)(N:qd):Option wg :=
 ck (0≤(I.length:Int)∧(I.length:Int)<((U:Nat):Int)) (ck (J+(I.length)<(N.length)) (ck (0≤(I.length:Int)∧(I.length:Int)<((U:Nat):Int)) (ck (J+(I.length)<(N.length)) (some ((kV F .u64 Y (1:Nat)),(N.set (J+(I.length)) (((N.getD (J+(I.length)) (0:Nat))+carry_31)%18446744073709551616)))))))
def fN(F:Md)(U:qd)(Y:Nat)(N:Nat)(carry_33:Nat)(I:Int)(J:qd):Option ((Nat×Int×qd)⊕wg) :=
 if I<(U.length:Int) then ck (0≤I∧I<(U.length:Int)) (ck (0≤I∧I<((Y:Nat):Int)) (ck (N+(I.toNat)<(J.length)) (ck (wS (J.getD (N+(I.toNat)) (0:Nat)) (U.getD (I.toNat) (0:Nat)) carry_33) (ck (0≤I∧I<((Y:Nat):Int)) (ck (N+(I.toNat)<(J.length)) (ck (I64 (I+(1:Int))) (some (.inl ((jH (J.getD (N+(I.toNat)) (0:Nat)) (U.getD (I.toNat) (0:Nat)) carry_33).2.1,(I+(1:Int)),(J.set (N+(I.toNat)) (jH (J.getD (N+(I.toNat)) (0:Nat)) (U.getD (I.toNat) (0:Nat)) carry_33).1)))))))))) else some (.inr (carry_33,J))
def mT(F:Md)(J:qd)(U:Nat)(I:Nat)(Y:Nat)(carry_22:Nat)(borrow_23:Nat)(N:qd):Option wg :=
 ck (0≤(J.length:Int)∧(J.length:Int)<((U:Nat):Int)) (ck (I+(J.length)<(N.length)) (ck (wS (N.getD (I+(J.length)) (0:Nat)) carry_22 borrow_23) (ck (0≤(J.length:Int)∧(J.length:Int)<((U:Nat):Int)) (ck (I+(J.length)<(N.length)) (if (aAr (N.getD (I+(J.length)) (0:Nat)) carry_22 borrow_23).2.1=(0:Nat) then some (Y,(N.set (I+(J.length)) (aAr (N.getD (I+(J.length)) (0:Nat)) carry_22 borrow_23).1)) else (dC F (fun d:Nat×Int×qd=>fN F J U I d.1 d.2.1 d.2.2) ((0:Nat),(0:Int),(N.set (I+(J.length)) (aAr (N.getD (I+(J.length)) (0:Nat)) carry_22 borrow_23).1))).bind (fun e=>mS F J U I Y e.1 e.2))))))
def fO(F:Md)(Y:qd)(U:Nat)(un_0:Nat)(N:Nat)(carry_41:Nat)(borrow_42:Nat)(I:Int)(J:qd):Option ((Nat×Nat×Int×qd)⊕(Nat×Nat×qd)) :=
 if I<(Y.length:Int) then ck (0≤I∧I<(Y.length:Int)) (ck (wS (bP U (Y.getD (I.toNat) (0:Nat))).2.1 carry_41 (0:Nat)) (ck (0≤I∧I<((un_0:Nat):Int)) (ck (N+(I.toNat)<(J.length)) (ck (wS (J.getD (N+(I.toNat)) (0:Nat)) (jH (bP U (Y.getD (I.toNat) (0:Nat))).2.1 carry_41 (0:Nat)).1 borrow_42) (ck (0≤I∧I<((un_0:Nat):Int)) (ck (N+(I.toNat)<(J.length)) (ck (I64 (I+(1:Int))) (some (.inl ((((bP U (Y.getD (I.toNat) (0:Nat))).1+(jH (bP U (Y.getD (I.toNat) (0:Nat))).2.1 carry_41 (0:Nat)).2.1)%18446744073709551616),(aAr (J.getD (N+(I.toNat)) (0:Nat)) (jH (bP U (Y.getD (I.toNat) (0:Nat))).2.1 carry_41 (0:Nat)).1 borrow_42).2.1,(I+(1:Int)),(J.set (N+(I.toNat)) (aAr (J.getD (N+(I.toNat)) (0:Nat)) (jH (bP U (Y.getD (I.toNat) (0:Nat))).2.1 carry_41 (0:Nat)).1 borrow_42).1))))))))))) else some (.inr (carry_41,borrow_42,J))
def kN(F:Md)(U:qd)(N:Nat)(I:Nat)(Y:qd)(J:Nat):Option wg :=
 (dC F (fun d:Nat×Nat×Int×qd=>fO F U J N I d.1 d.2.1 d.2.2.1 d.2.2.2) ((0:Nat),(0:Nat),(0:Int),Y)).bind (fun e=>mT F U N I J e.1 e.2.1 e.2.2)
def gI(F:Md)(I:qd)(un_0:Nat)(Y:Nat)(o0_2:qd)(N:Nat)(J:Nat)(U:Nat):Option ((Nat×Nat×Nat)⊕(Nat)) :=
 if U=(0:Nat) then ck (I64 ((I.length:Int)-(2:Int))) (ck (0≤((I.length:Int)-(2:Int))∧((I.length:Int)-(2:Int))<(I.length:Int)) (ck (¬((bP N (I.getD ((I.length:Int)-(2:Int)).toNat (0:Nat))).1<J)→((bP N (I.getD ((I.length:Int)-(2:Int)).toNat (0:Nat))).1=J)→(I64 ((I.length:Int)-(2:Int)))) (ck (¬((bP N (I.getD ((I.length:Int)-(2:Int)).toNat (0:Nat))).1<J)→((bP N (I.getD ((I.length:Int)-(2:Int)).toNat (0:Nat))).1=J)→(0≤((I.length:Int)-(2:Int))∧((I.length:Int)-(2:Int))<((un_0:Nat):Int)∧Y+((I.length:Int)-(2:Int)).toNat<(o0_2.length))) (if ((bP N (I.getD ((I.length:Int)-(2:Int)).toNat (0:Nat))).1<J)∨(((bP N (I.getD ((I.length:Int)-(2:Int)).toNat (0:Nat))).1=J)∧((bP N (I.getD ((I.length:Int)-(2:Int)).toNat (0:Nat))).2.1≤(o0_2.getD (Y+((I.length:Int)-(2:Int)).toNat) (0:Nat)))) then some (.inr N) else ck (I64 ((I.length:Int)-(1:Int))) (ck (0≤((I.length:Int)-(1:Int))∧((I.length:Int)-(1:Int))<(I.length:Int)) (ck (wS J (I.getD ((I.length:Int)-(1:Int)).toNat (0:Nat)) (0:Nat)) (some (.inl ((kV F .u64 N (1:Nat)),(jH J (I.getD ((I.length:Int)-(1:Int)).toNat (0:Nat)) (0:Nat)).1,(jH J (I.getD ((I.length:Int)-(1:Int)).toNat (0:Nat)) (0:Nat)).2.1))))))))) else some (.inr N)
def iT(F:Md)(v_1:qd)(Y:Nat)(N:Nat)(U:qd)(x_4:Nat)(I:Nat)(J:Nat):Option wg :=
 (dC F (fun d:Nat×Nat×Nat=>gI F v_1 Y N U d.1 d.2.1 d.2.2) (x_4,I,J)).bind (fun e=>kN F v_1 Y N U e)
def pO(F:Md)(J:Nat)(U:Nat)(I:qd)(N:qd):Option wg :=
 ck (0≤(I.length:Int)∧(I.length:Int)<((U:Nat):Int)) (ck (J+(I.length)<(N.length)) (ck (I64 ((I.length:Int)-(1:Int))) (ck (0≤((I.length:Int)-(1:Int))∧((I.length:Int)-(1:Int))<(I.length:Int)) (if (N.getD (J+(I.length)) (0:Nat))<(I.getD ((I.length:Int)-(1:Int)).toNat (0:Nat)) then ck (0≤(I.length:Int)∧(I.length:Int)<((U:Nat):Int)) (ck (J+(I.length)<(N.length)) (ck (I64 ((I.length:Int)-(1:Int))) (ck (0≤((I.length:Int)-(1:Int))∧((I.length:Int)-(1:Int))<((U:Nat):Int)) (ck (J+((I.length:Int)-(1:Int)).toNat<(N.length)) (ck (I64 ((I.length:Int)-(1:Int))) (ck (0≤((I.length:Int)-(1:Int))∧((I.length:Int)-(1:Int))<(I.length:Int)) (ck (vC (N.getD (J+(I.length)) (0:Nat)) (N.getD (J+((I.length:Int)-(1:Int)).toNat) (0:Nat)) (I.getD ((I.length:Int)-(1:Int)).toNat (0:Nat))) (iT F I U J N (iF (N.getD (J+(I.length)) (0:Nat)) (N.getD (J+((I.length:Int)-(1:Int)).toNat) (0:Nat)) (I.getD ((I.length:Int)-(1:Int)).toNat (0:Nat))).1 (iF (N.getD (J+(I.length)) (0:Nat)) (N.getD (J+((I.length:Int)-(1:Int)).toNat) (0:Nat)) (I.getD ((I.length:Int)-(1:Int)).toNat (0:Nat))).2.1 (0:Nat))))))))) else ck (I64 ((I.length:Int)-(1:Int))) (ck (0≤((I.length:Int)-(1:Int))∧((I.length:Int)-(1:Int))<((U:Nat):Int)) (ck (J+((I.length:Int)-(1:Int)).toNat<(N.length)) (ck (I64 ((I.length:Int)-(1:Int))) (ck (0≤((I.length:Int)-(1:Int))∧((I.length:Int)-(1:Int))<(I.length:Int)) (ck (wS (N.getD (J+((I.length:Int)-(1:Int)).toNat) (0:Nat)) (I.getD ((I.length:Int)-(1:Int)).toNat (0:Nat)) (0:Nat)) (iT F I U J N (18446744073709551615:Nat) (jH (N.getD (J+((I.length:Int)-(1:Int)).toNat) (0:Nat)) (I.getD ((I.length:Int)-(1:Int)).toNat (0:Nat)) (0:Nat)).1 (jH (N.getD (J+((I.length:Int)-(1:Int)).toNat) (0:Nat)) (I.getD ((I.length:Int)-(1:Int)).toNat (0:Nat)) (0:Nat)).2.1))))))))))
structure DgN(X V P v1 v0 U2 U1 U0:Nat):Prop where
 hP:0<P
 hX:X/P=(U2*18446744073709551616+U1)*18446744073709551616+U0
 hV:V/P=v1*18446744073709551616+v0
 v1l:9223372036854775808≤v1
 v1h:v1<18446744073709551616
 v0h:v0<18446744073709551616
 u2h:U2<18446744073709551616
 u1h:U1<18446744073709551616
 u0h:U0<18446744073709551616
 hq:X<18446744073709551616*V
variable {X V P v1 v0 U2 U1 U0:Nat}
theorem bAG(h:DgN X V P v1 v0 U2 U1 U0):U2≤v1:=by
 have J:V<(V/P+1)*P:=by rw[Nat.mul_comm]; exact Nat.lt_mul_div_succ V h.hP
 have I:X/P<18446744073709551616*(V/P+1):=by
  refine(Nat.div_lt_iff_lt_mul h.hP).2 (Nat.lt_of_lt_of_le h.hq ?_);grind
 rw[h.hX,h.hV] at I;have a:=h.v0h;omega
theorem aZp(h:DgN X V P v1 v0 U2 U1 U0):X/V*(v1*18446744073709551616+v0)≤(U2*18446744073709551616+U1)*18446744073709551616+U0:=by
 rw[← h.hX,← h.hV];refine(Nat.le_div_iff_mul_le h.hP).2 ?_;rw[Nat.mul_assoc];exact Nat.le_trans (Nat.mul_le_mul_left _ (Nat.div_mul_le_self V P)) (Nat.div_mul_le_self X V)
theorem mul_two(x v1 v0:Nat):x*(v1*18446744073709551616+v0)=x*v1*18446744073709551616+x*v0:=by grind
theorem bAH(h:DgN X V P v1 v0 U2 U1 U0):X/V≤(U2*18446744073709551616+U1)/v1:=by
 refine(Nat.le_div_iff_mul_le (by have:=h.v1l; omega)).2 ?_;have I:=aZp h;rw[mul_two] at I;have b:=h.u0h;omega
theorem bAI(h:DgN X V P v1 v0 U2 U1 U0):X/V<18446744073709551616:=(Nat.div_lt_iff_lt_mul (by
 have:=h.hq;omega)).2 h.hq
theorem aSD(h:DgN X V P v1 v0 U2 U1 U0){x:Nat}(hx:x<18446744073709551616)(J:x*(v1*18446744073709551616+v0)≤(U2*18446744073709551616+U1)*18446744073709551616+U0):x≤X/V+1:=by
 rcases x with _|y
 ·simp_all
 refine Nat.succ_le_succ ?_;have I:0<V:=by
  rcases Nat.eq_zero_or_pos V with N|N
  ·have:=h.hq; omega
  omega
 refine(Nat.le_div_iff_mul_le I).2 ?_;rw[← h.hX,← h.hV] at J;have e:=Nat.div_add_mod V P;have m:=Nat.mod_lt V h.hP;have h1:(y+1)*(V/P)*P≤X:=Nat.le_trans (Nat.mul_le_mul_right P J) (Nat.div_mul_le_self X P);have U:y*(V%P)≤18446744073709551616*P:=Nat.mul_le_mul (by omega) (Nat.le_of_lt m);have h3:18446744073709551616*P≤V/P*P:=Nat.mul_le_mul_right _ (by rw[h.hV]; have:=h.v1l; omega);have Y:y*V=y*(V/P)*P+y*(V%P):=by
  grind
 grind
structure DgL(v1 U2 U1 Q x rest over:Nat):Prop where
 eq:x*v1+(rest+over*18446744073709551616)=U2*18446744073709551616+U1
 r1:rest<18446744073709551616
 o1:over≤1
 x1:x<18446744073709551616
 ge:Q≤x
theorem aWE{Q x rest:Nat}(J:v0<18446744073709551616)(I:U0<18446744073709551616)(h:DgL v1 U2 U1 Q x rest 0):(x*v0/18446744073709551616<rest∨x*v0/18446744073709551616=rest∧x*v0%18446744073709551616≤U0)↔x*(v1*18446744073709551616+v0)≤(U2*18446744073709551616+U1)*18446744073709551616+U0:=by
 have e:=h.eq;grind
theorem aYK{Q x rest:Nat}(I:v0<18446744073709551616)(h:DgL v1 U2 U1 Q x rest 1):x*(v1*18446744073709551616+v0)≤(U2*18446744073709551616+U1)*18446744073709551616+U0:=by
 have e:=h.eq;have r:=h.r1;have p:x*v0≤18446744073709551615*18446744073709551615:=Nat.mul_le_mul (by have:=h.x1; omega) (by omega);grind
theorem aWF{Q x rest:Nat}(J:v1<18446744073709551616)(N:Q*(v1*18446744073709551616+v0)≤(U2*18446744073709551616+U1)*18446744073709551616+U0)(h:DgL v1 U2 U1 Q x rest 0)(hc:¬x*(v1*18446744073709551616+v0)≤(U2*18446744073709551616+U1)*18446744073709551616+U0) :
  aA5 .u64 x 1=x-1∧x-1<x∧DgL v1 U2 U1 Q (x-1) ((rest+v1+0)%18446744073709551616) ((rest+v1+0)/18446744073709551616):=by
 have I:Q<x:=by
  refine Nat.lt_of_mul_lt_mul_right (a:=v1*18446744073709551616+v0) ?_;omega
 have e:=h.eq;have r:=h.r1;have x1:=h.x1;obtain⟨y,rfl⟩:∃y,x=y+1:=⟨x-1,by omega⟩;rw[Nat.add_mul] at e;refine⟨aOY x1 (by omega),by omega,⟨?_,Nat.mod_lt _ xAa,by omega,by omega,by omega⟩⟩;grind
theorem aWG{v o:List Nat}{j un:Nat}(hn:2≤v.length)(hs:v.length≤9000000000000)(hu:un=v.length+1)(ho:j+un≤o.length)
  (h:DgN X V P (v.getD (v.length-1) 0) (v.getD (v.length-2) 0) U2 U1 (o.getD (j+(v.length-2)) 0)) {x rest over:Nat} (hi:DgL (v.getD (v.length-1) 0) U2 U1 (X/V) x rest over) :
  ∃e,aCG (fun d:Nat×Nat×Nat=>gI none v un j o d.1 d.2.1 d.2.2) (x,rest,over)=some e∧X/V≤e∧e≤X/V+1∧e<18446744073709551616:=by
 have N:((v.length:Int)-1).toNat=v.length-1:=by omega
 have e2:((v.length:Int)-2).toNat=v.length-2:=by omega
 refine eQ (step:=fun d:Nat×Nat×Nat=>gI none v un j o d.1 d.2.1 d.2.2) (I:=fun d=>DgL (v.getD (v.length-1) 0) U2 U1 (X/V) d.1 d.2.1 d.2.2) (fun d=>d.1) (fun e=>X/V≤e∧e≤X/V+1∧e<18446744073709551616) ?_ (x,rest,over) hi;rintro⟨x,rest,over⟩ hi;have hi:DgL (v.getD (v.length-1) 0) U2 U1 (X/V) x rest over:=hi;show (∃d',gI none v un j o x rest over=_∧_)∨ ∃e,gI none v un j o x rest over=_∧_;unfold gI;try simp only[kV,mulM,aGT]
 rw[N,e2];by_cases h0:over=0
 ·subst h0;have ht:=aWE h.v0h h.u0h hi;rw[if_pos rfl];by_cases hc:x*(v.getD (v.length-1) 0*18446744073709551616+v.getD (v.length-2) 0)≤(U2*18446744073709551616+U1)*18446744073709551616+o.getD (j+(v.length-2)) 0
  ·right
   refine⟨x,?_,hi.ge,aSD h hi.x1 hc,hi.x1⟩;refine aB (by omega) (aB (by omega) (aB (fun _ _=>by omega) (aB (fun _ _=>by omega) ?_)));exact(if_pos (ht.2 hc))
  ·left
   obtain⟨s1,U,J⟩:=aWF h.v1h (aZp h) hi hc;refine⟨(x-1,(rest+v.getD (v.length-1) 0+0)%18446744073709551616,(rest+v.getD (v.length-1) 0+0)/18446744073709551616),?_,J,U⟩;refine aB (by omega) (aB (by omega) (aB (fun _ _=>by omega) (aB (fun _ _=>by omega) ?_)));refine(if_neg (fun Y=>hc (ht.1 Y))).trans ?_;rw[s1];exact aB (by omega) (aB (by omega) (aB (Nat.zero_le _) rfl))
 ·right
  have h1:over=1:=by have:=hi.o1; omega
  subst h1;exact⟨x,by rfl,hi.ge,aSD h hi.x1 (aYK h.v0h hi),hi.x1⟩
end
end Nu
end Go.Proofs
namespace Go.Proofs
open Go.Vc
set_option maxRecDepth 20000
namespace Nu
theorem aO9{x y c b o lo hi z c' d b':Nat}(e:18446744073709551616*hi+lo=x*y)(J:lo<18446744073709551616)(hp:x*y≤18446744073709551615*18446744073709551615)(hc:c<18446744073709551616)(hb:b≤1)(U:o<18446744073709551616)
  (Y:z=(lo+c+0)%18446744073709551616) (N:c'=(hi+(lo+c+0)/18446744073709551616)%18446744073709551616) (hd:d=(o+18446744073709551616-z-b)%18446744073709551616) (I:b'=if o<z+b then 1 else 0) :
  d+x*y+c+b=o+18446744073709551616*(c'+b')∧d<18446744073709551616∧c'<18446744073709551616∧b'≤1:=by
 grind
theorem bAJ{N I J Q R P o d c b c' b' x y t:Nat}(hP:P=Q*R)(Y:I+P*o=N+P*d)(U:N+Q*x*t=J+P*(c+b))(h3:d+x*y+c+b=o+18446744073709551616*(c'+b')):I+Q*x*(t+R*y)=J+P*18446744073709551616*(c'+b'):=by
 grind
theorem bAK{N I J Q R P o d c c' y t:Nat}(hP:P=Q*R)(Y:I+P*o=N+P*d)(U:N+P*c=J+Q*t)(h3:d+18446744073709551616*c'=o+y+c):I+P*18446744073709551616*c'=J+Q*(t+R*y):=by
 grind
structure MsI(v u:List Nat)(x j:Nat)(c b:Nat)(i:Int)(w:List Nat):Prop where
 i0:0≤i
 i1:i≤v.length
 len:w.length=u.length
 lm:Lm w
 c1:c<18446744073709551616
 b1:b≤1
 rest:w.drop (j+i.toNat)=u.drop (j+i.toNat)
 sum:nv w+18446744073709551616^j*x*nv (v.take i.toNat)=nv u+18446744073709551616^(j+i.toNat)*(c+b)
structure AbI(v u:List Nat)(j:Nat)(c:Nat)(i:Int)(w:List Nat):Prop where
 i0:0≤i
 i1:i≤v.length
 len:w.length=u.length
 lm:Lm w
 c1:c≤1
 rest:w.drop (j+i.toNat)=u.drop (j+i.toNat)
 sum:nv w+18446744073709551616^(j+i.toNat)*c=nv u+18446744073709551616^j*nv (v.take i.toNat)
theorem aWH{v u:List Nat}{x j c b:Nat}{i:Int}{w:List Nat}(Y:j+v.length<u.length)(h:MsI v u x j c b i w)(hi:i<v.length){d c' b':Nat}(hd:d<18446744073709551616)(J:c'<18446744073709551616)(I:b'≤1)
  (e:d+x*v.getD i.toNat 0+c+b=w.getD (j+i.toNat) 0+18446744073709551616*(c'+b')):MsI v u x j c' b' (i+1) (w.set (j+i.toNat) d):=by
 have h0:=h.i0;have U:=h.len;have N:(i+1).toNat=i.toNat+1:=by omega
 refine⟨by omega,by omega,by simp_all,uG h.lm _ hd,J,I,?_,?_⟩
 ·rw[N,← Nat.add_assoc,drop_set]; exact vY h.rest
 ·rw[N,lD,← Nat.add_assoc,Nat.pow_succ];exact bAJ (R:=18446744073709551616^i.toNat) (Nat.pow_add _ _ _) (xZ (by omega)) h.sum e
theorem aWI{v u:List Nat}{j c:Nat}{i:Int}{w:List Nat}(U:j+v.length<u.length)(h:AbI v u j c i w)(hi:i<v.length){d c':Nat}(hd:d<18446744073709551616)(I:c'≤1)
  (e:d+18446744073709551616*c'=w.getD (j+i.toNat) 0+v.getD i.toNat 0+c):AbI v u j c' (i+1) (w.set (j+i.toNat) d):=by
 have Y:=h.i0;have N:=h.len;have J:(i+1).toNat=i.toNat+1:=by omega
 refine⟨by omega,by omega,by simp_all,uG h.lm _ hd,I,?_,?_⟩
 ·rw[J,← Nat.add_assoc,drop_set]; exact vY h.rest
 ·rw[J,lD,← Nat.add_assoc,Nat.pow_succ];exact bAK (R:=18446744073709551616^i.toNat) (Nat.pow_add _ _ _) (xZ (by omega)) h.sum e
theorem aTQ{v u:List Nat}{x j un:Nat}(lv:Lm v)(hx:x<18446744073709551616)(hs:v.length≤9000000000000)(hu:un=v.length+1)(ho:j+un≤u.length)(lu:Lm u) :
  ∃e,dC none (fun d:Nat×Nat×Int×qd=>fO none v x un j d.1 d.2.1 d.2.2.1 d.2.2.2) (0,0,0,u)=some e∧MsI v u x j e.1 e.2.1 v.length e.2.2:=by
 refine eQ (step:=fun d:Nat×Nat×Int×qd=>fO none v x un j d.1 d.2.1 d.2.2.1 d.2.2.2) (I:=fun d=>MsI v u x j d.1 d.2.1 d.2.2.1 d.2.2.2) (fun d=>(v.length-d.2.2.1).toNat) (fun e=>MsI v u x j e.1 e.2.1 v.length e.2.2) ?_ (0,0,0,u) ⟨by simp,by simp,rfl,lu,by simp,by simp,rfl,by simp[nv]⟩;rintro⟨c,b,i,w⟩ h;have h:MsI v u x j c b i w:=h;have h0:=h.i0;have J:=h.len;show (∃d',fO none v x un j c b i w=_∧_)∨ ∃e,fO none v x un j c b i w=_∧_;unfold fO;by_cases hi:i<v.length
 ·left
  have hy:=eH lv i.toNat;have U:=eH h.lm (j+i.toNat);have hb:=h.b1;obtain⟨N,Y,k3,k4⟩:=aO9 (b':=if w.getD (j+i.toNat) 0<(x*v.getD i.toNat 0%18446744073709551616+c+0)%18446744073709551616+b then 1 else 0) (Nat.div_add_mod (x*v.getD i.toNat 0) 18446744073709551616) (Nat.mod_lt _ xAa) (Nat.mul_le_mul (by omega) (by omega)) h.c1 hb U rfl rfl rfl rfl;refine⟨((x*v.getD i.toNat 0/18446744073709551616+(x*v.getD i.toNat 0%18446744073709551616+c+0)/18446744073709551616)%18446744073709551616,(if w.getD (j+i.toNat) 0<(x*v.getD i.toNat 0%18446744073709551616+c+0)%18446744073709551616+b then 1 else 0),i+1,w.set (j+i.toNat) ((w.getD (j+i.toNat) 0+18446744073709551616-(x*v.getD i.toNat 0%18446744073709551616+c+0)%18446744073709551616-b)%18446744073709551616)),?_,aWH (by omega) h hi Y k3 k4 N,by grind⟩;rw[if_pos hi];exact aB (by omega) (aB (Nat.zero_le _) (aB (by omega) (aB (by omega) (aB hb (aB (by omega) (aB (by omega) (aB (by omega) rfl)))))))
 ·right
  refine⟨(c,b,w),by grind,?_⟩;have e:i=v.length:=by have:=h.i1; omega
  simp_all
theorem aTR{v u:List Nat}{j un:Nat}(N:Lm v)(hs:v.length≤9000000000000)(hu:un=v.length+1)(ho:j+un≤u.length)(lu:Lm u) :
  ∃e,dC none (fun d:Nat×Int×qd=>fN none v un j d.1 d.2.1 d.2.2) (0,0,u)=some e∧AbI v u j e.1 v.length e.2:=by
 refine eQ (step:=fun d:Nat×Int×qd=>fN none v un j d.1 d.2.1 d.2.2) (I:=fun d=>AbI v u j d.1 d.2.1 d.2.2) (fun d=>(v.length-d.2.1).toNat) (fun e=>AbI v u j e.1 v.length e.2) ?_ (0,0,u) ⟨by simp,by simp,rfl,lu,by simp,rfl,by simp[nv]⟩;rintro⟨c,i,w⟩ h;have h:AbI v u j c i w:=h;have h0:=h.i0;have J:=h.len;show (∃d',fN none v un j c i w=_∧_)∨ ∃e,fN none v un j c i w=_∧_;unfold fN;by_cases hi:i<v.length
 ·left
  have hy:=eH N i.toNat;have Y:=eH h.lm (j+i.toNat);have hc:=h.c1;have U:=Nat.div_add_mod (w.getD (j+i.toNat) 0+v.getD i.toNat 0+c) 18446744073709551616;refine⟨(_,_,_),?_,aWI (d:=(w.getD (j+i.toNat) 0+v.getD i.toNat 0+c)%18446744073709551616) (c':=(w.getD (j+i.toNat) 0+v.getD i.toNat 0+c)/18446744073709551616) (by omega) h hi (Nat.mod_lt _ xAa) (by omega) (by omega),by grind⟩;rw[if_pos hi];refine aB (by omega) (aB (by omega) (aB (by omega) (aB hc (aB (by omega) (aB (by omega) (aB (by omega) ?_))))));rfl
 ·right
  refine⟨(c,w),by grind,?_⟩;have e:i=v.length:=by have:=h.i1; omega
  simp_all
theorem aSE{w u:List Nat}{K:Nat}(N:Lm w)(lu:Lm u)(h:w.drop K=u.drop K)(J:nv u<18446744073709551616^K):nv w<18446744073709551616^K:=by
 have hp:0<18446744073709551616^K:=Nat.pow_pos xAa;have I:=aEj N K;rw[h,aEj lu,Nat.div_eq_of_lt J] at I;exact(Nat.div_eq_zero_iff_lt hp).1 I.symm
theorem aWJ{N I W x:Nat}{Q:Nat}(J:0<W)(Y:Q=N/W)(hx:Q≤x)(h:I+x*W=N):x=Q∧I+Q*W=N:=by
 have U:x≤N/W:=(Nat.le_div_iff_mul_le J).2 (by omega);grind
theorem aYL{N U Y J W x T S I c:Nat}{Q:Nat}(hQ:Q=N/W)(hx1:Q≤x)(hx2:x≤Q+1)(h3:U+x*W=N+T)(hT3:U<T)(h4:Y+S*c=U+W)(h5:J+S*I=Y+S*((I+c)%18446744073709551616))(hT5:J<T)(hT:T=S*18446744073709551616)(ho:I<18446744073709551616)(hc:c≤1) :
  x=Q+1∧J+Q*W=N:=by
 have hle:Q*W≤N:=by simp_all[Nat.div_mul_le_self]
 have hx:x=Q+1:=by
  grind
 subst hx;refine⟨rfl,?_⟩;rw[Nat.add_mul,Nat.one_mul] at h3;rcases Nat.lt_or_ge (I+c) 18446744073709551616 with h|h
 ·rw[Nat.mod_eq_of_lt h,Nat.mul_add] at h5;omega
 ·have e:(I+c)%18446744073709551616=0:=by omega
  grind
theorem aKj{v u:List Nat}{j un:Nat}(Y:Lm v)(lu:Lm u)(hn:2≤v.length)(hs:v.length≤9000000000000)(hu:un=v.length+1)(ho:j+un≤u.length)
  (hv:9223372036854775808≤v.getD (v.length-1) 0) (hq:nv u<18446744073709551616^(j+1)*nv v) :
  ∃w,pO none j un v u=some (nv u/(18446744073709551616^j*nv v),w)∧w.length=u.length∧Lm w∧nv w+nv u/(18446744073709551616^j*nv v)*(18446744073709551616^j*nv v)=nv u:=by
 have hVB:=jG Y;have hJ:0<18446744073709551616^j:=Nat.pow_pos xAa;have hX:nv u/18446744073709551616^j<18446744073709551616*nv v:=(Nat.div_lt_iff_lt_mul hJ).2 (by rw[Nat.pow_succ,Nat.mul_assoc] at hq; grind);have hqq:nv u/18446744073709551616^j/nv v=nv u/(18446744073709551616^j*nv v):=Nat.div_div_eq_div_mul _ _ _;have hNT:nv u<18446744073709551616^(j+v.length+1):=by
  refine Nat.lt_of_lt_of_le hq ?_;rw[show j+v.length+1=j+1+v.length from by omega,Nat.pow_add _ (j+1)];exact Nat.mul_le_mul_left _ (Nat.le_of_lt hVB)
 have hD:DgN (nv u/18446744073709551616^j) (nv v) (18446744073709551616^(v.length-2)) (v.getD (v.length-1) 0) (v.getD (v.length-2) 0) (u.getD (j+v.length) 0) (u.getD (j+(v.length-1)) 0) (u.getD (j+(v.length-2)) 0):=by
  refine⟨Nat.pow_pos xAa,?_,?_,hv,eH Y _,eH Y _,eH lu _,eH lu _,eH lu _,hX⟩
  ·have e1:j+(v.length-1)=j+(v.length-2)+1:=(by omega);have e2:j+v.length=j+(v.length-2)+1+1:=(by omega);have hz:nv u/18446744073709551616^(j+(v.length-2))<18446744073709551616*18446744073709551616*18446744073709551616:=by
    refine(Nat.div_lt_iff_lt_mul (Nat.pow_pos xAa)).2 ?_;rw[show j+v.length+1=j+(v.length-2)+1+1+1 from by omega,Nat.pow_succ,Nat.pow_succ,Nat.pow_succ] at hNT;grind
   rw[nH lu,nH lu,nH lu,e1,e2,Nat.pow_succ,Nat.pow_succ,← Nat.div_div_eq_div_mul,← Nat.div_div_eq_div_mul,Nat.div_div_eq_div_mul _ (18446744073709551616^j),← Nat.pow_add];grind
  ·have hz:nv v/18446744073709551616^(v.length-2)<18446744073709551616*18446744073709551616:=by
    refine(Nat.div_lt_iff_lt_mul (Nat.pow_pos xAa)).2 ?_;have h:=hVB;rw[show v.length=v.length-2+1+1 from by omega,Nat.pow_succ,Nat.pow_succ] at h;grind
   rw[nH Y,nH Y,show v.length-1=v.length-2+1 from by omega,Nat.pow_succ,← Nat.div_div_eq_div_mul];grind
 have e1:((v.length:Int)-1).toNat=v.length-1:=by omega
 rw[← hqq];have hV0:0<nv v:=by
  grind
 have hW:0<18446744073709551616^j*nv v:=Nat.mul_pos hJ hV0;have main:∀x,nv u/18446744073709551616^j/nv v≤x→x≤nv u/18446744073709551616^j/nv v+1→x<18446744073709551616→ ∃w,kN none v un j u x=some (nv u/18446744073709551616^j/nv v,w)∧w.length=u.length∧Lm w∧nv w+nv u/18446744073709551616^j/nv v*(18446744073709551616^j*nv v)=nv u:=by
  intro x hx1 hx2 hx3;obtain⟨⟨c,b,w⟩,m1,N⟩:=aTQ (j:=j) Y hx3 hs hu ho lu;have N:MsI v u x j c b v.length w:=N;have hlen:=N.len;have ho2:=eH N.lm (j+v.length);have hc:=N.c1;have hb:=N.b1;have hrest:=N.rest;have J:=N.sum;rw[Int.toNat_natCast] at hrest J;rw[List.take_length] at J;have hset:=xZ (a:=w) (k:=j+v.length) (v:=(w.getD (j+v.length) 0+18446744073709551616-c-b)%18446744073709551616) (by omega);have U:Lm (w.set (j+v.length) ((w.getD (j+v.length) 0+18446744073709551616-c-b)%18446744073709551616)):=uG N.lm _ (Nat.mod_lt _ xAa);have hr2:(w.set (j+v.length) ((w.getD (j+v.length) 0+18446744073709551616-c-b)%18446744073709551616)).drop (j+v.length+1)=u.drop (j+v.length+1):=by
   grind[drop_set,vY]
  have hT3:=aSE U lu hr2 hNT;have hx:18446744073709551616^j*x*nv v=x*(18446744073709551616^j*nv v):=by grind
  rw[hx] at J;unfold kN;rw[m1];simp only[Option.bind_some];unfold mT;by_cases hbo:w.getD (j+v.length) 0<c+b
  ·
   have hd:(w.getD (j+v.length) 0+18446744073709551616-c-b)%18446744073709551616+c+b=w.getD (j+v.length) 0+18446744073709551616:=(by omega);have h3:nv (w.set (j+v.length) ((w.getD (j+v.length) 0+18446744073709551616-c-b)%18446744073709551616))+x*(18446744073709551616^j*nv v)=nv u+18446744073709551616^(j+v.length+1):=by
    grind
   have hb1:¬(aAr (w.getD (j+v.length) 0) c b).2.1=0:=(by show ¬(if w.getD (j+v.length) 0<c+b then 1 else 0)=0; simp_all);have hl3:(w.set (j+v.length) ((w.getD (j+v.length) 0+18446744073709551616-c-b)%18446744073709551616)).length=u.length:=(by simp_all);obtain⟨w3,hw3⟩:∃w3,w3=w.set (j+v.length) ((w.getD (j+v.length) 0+18446744073709551616-c-b)%18446744073709551616):=⟨_,rfl⟩;have hw3':w.set (j+v.length) (aAr (w.getD (j+v.length) 0) c b).1=w3:=hw3.symm;rw[← hw3] at h3 hT3 U hr2 hl3;obtain⟨⟨c4,w4⟩,n1,n2⟩:=aTR (u:=w3) (j:=j) Y hs hu (by omega) U;have n2:AbI v w3 j c4 v.length w4:=n2;have hl4:=n2.len;have ho4:=eH n2.lm (j+v.length);have hrest4:=n2.rest;have I:=n2.sum;rw[Int.toNat_natCast] at hrest4 I;rw[List.take_length] at I;have hset4:=xZ (a:=w4) (k:=j+v.length) (v:=(w4.getD (j+v.length) 0+c4)%18446744073709551616) (by omega);have lw5:Lm (w4.set (j+v.length) ((w4.getD (j+v.length) 0+c4)%18446744073709551616)):=uG n2.lm _ (Nat.mod_lt _ xAa);have hr5:(w4.set (j+v.length) ((w4.getD (j+v.length) 0+c4)%18446744073709551616)).drop (j+v.length+1)=u.drop (j+v.length+1):=by
    grind[drop_set,vY]
   have hT5:=aSE lw5 lu hr5 hNT;obtain⟨f1,f2⟩:=aYL hqq hx1 hx2 h3 hT3 I hset4 hT5 (Nat.pow_succ ..) ho4 n2.c1;refine⟨_,aB (by omega) (aB (by omega) (aB hb (aB (by omega) (aB (by omega) ?_)))),?_,lw5,f2⟩
   ·refine(if_neg hb1).trans ?_;rw[hw3'];refine bF n1 ?_;unfold mS;(try simp only[kV,mulM,aGT]);refine aB (by omega) (aB (by omega) (aB (by omega) (aB (by omega) ?_)));simp_all[aOY,Nat.succ_le_succ,Nat.zero_le,Nat.add_sub_cancel]
   simp_all
  ·have hd:(w.getD (j+v.length) 0+18446744073709551616-c-b)%18446744073709551616+c+b=w.getD (j+v.length) 0:=(by omega);have h3:nv (w.set (j+v.length) ((w.getD (j+v.length) 0+18446744073709551616-c-b)%18446744073709551616))+x*(18446744073709551616^j*nv v)=nv u:=by
    grind
   have hb0:(aAr (w.getD (j+v.length) 0) c b).2.1=0:=if_neg hbo;obtain⟨f1,f2⟩:=aWJ hW hqq hx1 h3;refine⟨_,aB (by omega) (aB (by omega) (aB hb (aB (by omega) (aB (by omega) ?_)))),?_,U,f2⟩
   ·refine(if_pos hb0).trans ?_;rw[f1]; rfl
   simp_all
 have start:∀x rest over,DgL (v.getD (v.length-1) 0) (u.getD (j+v.length) 0) (u.getD (j+(v.length-1)) 0) (nv u/18446744073709551616^j/nv v) x rest over→ ∃w,iT none v un j u x rest over=some (nv u/18446744073709551616^j/nv v,w)∧w.length=u.length∧Lm w∧nv w+nv u/18446744073709551616^j/nv v*(18446744073709551616^j*nv v)=nv u:=by
  intro x rest over hL;obtain⟨e,g1,g2,g3,g4⟩:=aWG hn hs hu ho hD hL;simp_all[iT,bF]
 have hu1:=eH lu (j+(v.length-1));have hu2:=eH lu (j+v.length);have hv1:=eH Y (v.length-1);have hge:=bAH hD;have hlt:=bAI hD;have hle:=bAG hD;unfold pO;rw[e1];by_cases hc:u.getD (j+v.length) 0<v.getD (v.length-1) 0
 ·have hdm:=Nat.div_add_mod (u.getD (j+v.length) 0*18446744073709551616+u.getD (j+(v.length-1)) 0) (v.getD (v.length-1) 0);have hml:=Nat.mod_lt (u.getD (j+v.length) 0*18446744073709551616+u.getD (j+(v.length-1)) 0) (show 0<v.getD (v.length-1) 0 by omega);have hdl:(u.getD (j+v.length) 0*18446744073709551616+u.getD (j+(v.length-1)) 0)/v.getD (v.length-1) 0<18446744073709551616:=by
   refine(Nat.div_lt_iff_lt_mul (by omega)).2 ?_;omega
  obtain⟨w,k1,k2⟩:=start _ _ 0 ⟨by grind,Nat.lt_trans hml hv1,by decide,hdl,hge⟩;refine⟨w,?_,k2⟩;refine aB (by omega) (aB (by omega) (aB (by omega) (aB (by omega) ?_)));refine(if_pos hc).trans ?_;exact aB (by omega) (aB (by omega) (aB (by omega) (aB (by omega) (aB (by omega) (aB (by omega) (aB (by omega) (aB hc k1)))))))
 ·have hd:=Nat.div_add_mod (u.getD (j+(v.length-1)) 0+v.getD (v.length-1) 0+0) 18446744073709551616;obtain⟨w,k1,k2⟩:=start 18446744073709551615 ((u.getD (j+(v.length-1)) 0+v.getD (v.length-1) 0+0)%18446744073709551616) ((u.getD (j+(v.length-1)) 0+v.getD (v.length-1) 0+0)/18446744073709551616) ⟨by omega,Nat.mod_lt _ xAa,by omega,by decide,by omega⟩;refine⟨w,?_,k2⟩;refine aB (by omega) (aB (by omega) (aB (by omega) (aB (by omega) ?_)));refine(if_neg hc).trans ?_;exact aB (by omega) (aB (by omega) (aB (by omega) (aB (by omega) (aB (by omega) (aB (Nat.zero_le _) k1)))))
noncomputable section
abbrev aAs(a b:List Nat):Prop:=Nrm a∧Nrm b∧nv b≠0∧a.length≤1099511627776
def fI(a b:List Nat):List Nat×List Nat×Unit:=(lb (nv a/nv b),lb (nv a%nv b),())
def oO(F:Md)(I:qd)(J:qd)(N:qd):Option (qd×(qd×Unit)) :=
 ck (0≤(I.length:Int)∧(I.length:Int)≤(J.length:Int)) (ck (aJg (cB (List.take (I.length) J)) (aA (I.getD ((I.length:Int)-(1:Int)).toNat (0:Nat)))) (some ((cB N),(gH (cB (List.take (I.length) J)) (aA (I.getD ((I.length:Int)-(1:Int)).toNat (0:Nat)))),())))
def jI(F:Md)(J:qd)(I:Int)(N:qd)(U:qd):Option ((Int×qd×qd)⊕(qd×qd)) :=
 if (0:Int)≤I then ck (I64 (I+(J.length:Int))) (ck (I64 ((I+(J.length:Int))+(1:Int))) (ck (0≤I∧I<((I+(J.length:Int))+(1:Int))∧((I+(J.length:Int))+(1:Int))≤(N.length:Int)) ((pO F (I.toNat) (((I+(J.length:Int))+(1:Int))-I).toNat (cG (dR J (aA (J.getD ((J.length:Int)-(1:Int)).toNat (0:Nat)))) (J.length:Int)) N).bind (fun Y=>ck (0≤I∧I<(U.length:Int)) (ck (I64 (I-(1:Int))) (some (.inl ((I-(1:Int)),Y.2,(U.set (I.toNat) Y.1))))))))) else some (.inr (N,U))
def rD(F:Md)(J:qd)(I:qd):Option (qd×(qd×Unit)) :=
 ck (aWq J I) (if (pM J I)<(0:Int) then ck (aTJ J) (some (([]:List Nat),(id J),())) else if (I.length:Int)=(1:Int) then ck ((0:Int)<(I.length:Int)) (ck (aBJ J (I.getD (0:Nat) (0:Nat))) (some ((pN J (I.getD (0:Nat) (0:Nat))).1,(pN J (I.getD (0:Nat) (0:Nat))).2.1,()))) else ck (I64 ((I.length:Int)-(1:Int))) (ck (0≤((I.length:Int)-(1:Int))∧((I.length:Int)-(1:Int))<(I.length:Int)) (ck (aO6 I (aA (I.getD ((I.length:Int)-(1:Int)).toNat (0:Nat)))) (ck (vD (dR I (aA (I.getD ((I.length:Int)-(1:Int)).toNat (0:Nat)))) (I.length:Int)) (ck (aO6 J (aA (I.getD ((I.length:Int)-(1:Int)).toNat (0:Nat)))) (ck (I64 ((J.length:Int)+(1:Int))) (ck (vD (dR J (aA (I.getD ((I.length:Int)-(1:Int)).toNat (0:Nat)))) ((J.length:Int)+(1:Int))) (ck (I64 ((J.length:Int)-(I.length:Int))) (ck (I64 (((J.length:Int)-(I.length:Int))+(1:Int))) (ck (0≤(((J.length:Int)-(I.length:Int))+(1:Int))) (ck ((8:Int)*(((J.length:Int)-(I.length:Int))+(1:Int))≤281474976710656) (ck (I64 ((J.length:Int)-(I.length:Int))) ((dC F (fun d:Int×qd×qd=>jI F I d.1 d.2.1 d.2.2) (((J.length:Int)-(I.length:Int)),(cG (dR J (aA (I.getD ((I.length:Int)-(1:Int)).toNat (0:Nat)))) ((J.length:Int)+(1:Int))),(List.replicate (((J.length:Int)-(I.length:Int))+(1:Int)).toNat (0:Nat)))).bind (fun e=>oO F I e.1 e.2))))))))))))))
theorem aFN{a:List Nat}{n:Int}:nv (cG a n)=nv a:=by
 unfold cG; rw[aFK,aFL,Nat.mul_zero,Nat.add_zero]
theorem aJj{a:List Nat}{n:Int}(h:a.length≤n):(cG a n).length=n.toNat:=by
 grind[cG,List.length_append,List.length_replicate]
theorem aLo{a:List Nat}{n:Int}(h:Lm a):Lm (cG a n):=aWm h (aFM _)
theorem aPa{b:List Nat}(J:Lm b)(hn:Nrm b)(h0:nv b≠0):0<b.length∧1≤b.getD (b.length-1) 0∧b.getD (b.length-1) 0*18446744073709551616^(b.length-1)≤nv b∧nv b<(b.getD (b.length-1) 0+1)*18446744073709551616^(b.length-1):=by
 have I:b≠ []:=fun e=>h0 (by rw[e]; rfl);have Y:0<b.length:=List.length_pos_iff.2 I;have hp:0<18446744073709551616^(b.length-1):=Nat.pow_pos xAa;have U:=aSx hn I;have N:=jG J;have ht:b.getD (b.length-1) 0=nv b/18446744073709551616^(b.length-1):=by
  rw[nH J];refine Nat.mod_eq_of_lt ((Nat.div_lt_iff_lt_mul hp).2 ?_);rw[Nat.mul_comm,← Nat.pow_succ,show (b.length-1).succ=b.length from by omega];exact N
 rw[ht];exact⟨Y,(Nat.le_div_iff_mul_le hp).2 (by omega),Nat.div_mul_le_self _ _,by simp_all[Nat.mul_comm,Nat.lt_mul_div_succ]⟩
theorem aTS{b:List Nat}(J:Lm b)(hn:Nrm b)(h0:nv b≠0):nv b*2^(64-bl (b.getD (b.length-1) 0))<18446744073709551616^b.length∧9223372036854775808*18446744073709551616^(b.length-1)≤nv b*2^(64-bl (b.getD (b.length-1) 0)):=by
 obtain⟨hl,h1,h2,h3⟩:=aPa J hn h0;have hb:=aWo (eH J (b.length-1));have I:=aMD (x:=b.getD (b.length-1) 0) (by omega);have U:=aGn (b.getD (b.length-1) 0);have Y:=aJc (x:=b.getD (b.length-1) 0) (by omega);generalize b.getD (b.length-1) 0=t at *;have hp:=Nat.two_pow_pos (64-bl t);have e1:2^bl t*2^(64-bl t)=18446744073709551616:=by rw[← Nat.pow_add,show bl t+(64-bl t)=64 from by omega]
 have e2:2^(bl t-1)*2^(64-bl t)=9223372036854775808:=by grind[Nat.pow_add,bl]
 constructor
 ·have N:(t+1)*2^(64-bl t)≤18446744073709551616:=by rw[← e1]; exact Nat.mul_le_mul_right _ U
  have k2:=Nat.mul_lt_mul_of_pos_right h3 hp;refine Nat.lt_of_lt_of_le k2 ?_;rw[Nat.mul_right_comm,show 18446744073709551616^b.length=18446744073709551616*18446744073709551616^(b.length-1) from by rw[Nat.mul_comm,← Nat.pow_succ]; grind];exact Nat.mul_le_mul_right _ N
 ·have N:9223372036854775808≤t*2^(64-bl t):=by rw[← e2]; exact Nat.mul_le_mul_right _ I
  refine Nat.le_trans (Nat.mul_le_mul_right _ N) ?_;simp_all[Nat.mul_right_comm,Nat.mul_le_mul_right]
structure QrI(m n V N:Nat)(j:Int)(u q:List Nat):Prop where
 j0: -1≤j
 j1:j≤m
 ul:u.length=m+n+1
 lu:Lm u
 ql:q.length=m+1
 lq:Lm q
 lt:nv u<18446744073709551616^(j+1).toNat*V
 lo:∃t,nv q=18446744073709551616^(j+1).toNat*t
 sum:nv q*V+nv u=N
theorem aWK{m n V N:Nat}{j:Int}{u q w:List Nat}(h:QrI m n V N j u q)(hj:0≤j)(hw:w.length=u.length)(lw:Lm w)(hV:0<V)
  (e:nv w+nv u/(18446744073709551616^j.toNat*V)*(18446744073709551616^j.toNat*V)=nv u):QrI m n V N (j-1) w (q.set j.toNat (nv u/(18446744073709551616^j.toNat*V))):=by
 have h1:=h.j1;have hql:=h.ql;have U:=h.ul;have e1:(j+1).toNat=j.toNat+1:=by omega
 have e2:(j-1+1).toNat=j.toNat:=by omega
 have Y:0<18446744073709551616^j.toNat*V:=Nat.mul_pos (Nat.pow_pos xAa) hV;have J:=h.lt;obtain⟨t,ht⟩:=h.lo;rw[e1] at J ht;have hQ:nv u/(18446744073709551616^j.toNat*V)<18446744073709551616:=by
  refine(Nat.div_lt_iff_lt_mul Y).2 ?_;rw[Nat.pow_succ,Nat.mul_comm (18446744073709551616^j.toNat) 18446744073709551616,Nat.mul_assoc] at J;exact J
 have hz:q.getD j.toNat 0=0:=by
  rw[nH h.lq,ht,Nat.pow_succ,Nat.mul_assoc,Nat.mul_div_cancel_left _ (Nat.pow_pos xAa),Nat.mul_mod_right]
 have I:=xZ (a:=q) (k:=j.toNat) (v:=nv u/(18446744073709551616^j.toNat*V)) (by omega);rw[hz,Nat.mul_zero,Nat.add_zero] at I;have hwm:nv w=nv u%(18446744073709551616^j.toNat*V):=by
  grind[Nat.div_add_mod,nv,Nat.mul_comm]
 refine⟨by omega,by omega,by omega,lw,by simp_all,uG h.lq _ hQ,?_,?_,?_⟩
 ·simp_all[Nat.mod_lt]
 ·rw[e2,I,ht,Nat.pow_succ,Nat.mul_assoc,← Nat.mul_add]; grind
 ·have hs:=h.sum;grind
theorem aJk(a:List Nat)(wa:(Ty.sl qh).wf a)(b:List Nat)(wb:(Ty.sl qh).wf b)(hp:aAs a b):rD none a b=some (fI a b):=by
 obtain⟨na,nb,hb0,sa⟩:=hp;have la:=wT wa;have lb':=wT wb;obtain⟨hl,t1,t2,t3⟩:=aPa lb' nb hb0;obtain⟨v1,v2⟩:=aTS lb' nb hb0;have h64:=aWo (eH lb' (b.length-1));have hpos:=aJc (x:=b.getD (b.length-1) 0) (by omega);unfold rD;refine aB ⟨na,nb⟩ (aAT (fun hc=>?_) (fun hc=>aAT (fun h1=>?_) (fun h1=>?_)))
 ·have J:nv a<nv b:=by
   grind[pM,aWr]
  unfold fI;rw[Nat.div_eq_of_lt J,Nat.mod_eq_of_lt J,sU,aSw la na];exact aB (by omega) rfl
 ·have hb1:nv b=b.getD 0 0:=by
   grind
  refine aB (by omega) (aB ⟨by omega,sa⟩ ?_);grind[pN,fI]
 ·have hge:nv b≤nv a:=by
   grind[pM,aWr]
  have hlen:b.length≤a.length:=by
   rcases Nat.lt_or_ge a.length b.length with h|h
   ·exfalso;have k1:=jG la;have k2:18446744073709551616^a.length≤18446744073709551616^(b.length-1):=Nat.pow_le_pow_right xAa (by omega);grind[aSx]
   omega
  have e1:((b.length:Int)-1).toNat=b.length-1:=by omega
  rw[e1];have hs:(aA (b.getD (b.length-1) 0)).toNat=64-bl (b.getD (b.length-1) 0):=by grind[aA]
  have hs2:0≤aA (b.getD (b.length-1) 0)∧aA (b.getD (b.length-1) 0)≤63:=by grind[aA]
  have N:dR b (aA (b.getD (b.length-1) 0))=lb (nv b*2^(64-bl (b.getD (b.length-1) 0))):=by grind[dR]
  have hLa:dR a (aA (b.getD (b.length-1) 0))=lb (nv a*2^(64-bl (b.getD (b.length-1) 0))):=by grind[dR]
  have Y:64-bl (b.getD (b.length-1) 0)≤63:=by omega
  have hbl:(lb (nv b*2^(64-bl (b.getD (b.length-1) 0)))).length≤b.length:=nV.2 v1;have hal:(lb (nv a*2^(64-bl (b.getD (b.length-1) 0)))).length≤a.length+1:=by
   refine nV.2 ?_;rw[Nat.pow_succ];refine Nat.mul_lt_mul'' (jG la) ?_;exact Nat.lt_of_le_of_lt (Nat.pow_le_pow_right xAa Y) xAa
  have hn2:2≤b.length:=by omega
  obtain⟨sI,U⟩:∃sI,sI=aA (b.getD (b.length-1) 0):=⟨_,rfl⟩;obtain⟨s,hss⟩:∃s,s=64-bl (b.getD (b.length-1) 0):=⟨_,rfl⟩;rw[← hss] at v1 v2 hbl hal hLa N Y hs;rw[← U] at hLa N hs2 hs;rw[← U,hLa,N];have hV:0<nv b*2^s:=Nat.mul_pos (by omega) (Nat.two_pow_pos s);have key:=eQ (step:=fun d:Int×qd×qd=>jI none b d.1 d.2.1 d.2.2) (I:=fun d=>QrI (a.length-b.length) b.length (nv b*2^s) (nv a*2^s) d.1 d.2.1 d.2.2) (fun d=>(d.1+1).toNat)
   (fun e=>e.1.length=a.length+1∧Lm e.1∧nv e.1=nv a*2^s%(nv b*2^s)∧nv e.2=nv a*2^s/(nv b*2^s)) ?_ ((a.length:Int)-(b.length:Int),cG (lb (nv a*2^s)) ((a.length:Int)+1),List.replicate (((a.length:Int)-(b.length:Int))+1).toNat 0) ?_
  ·obtain⟨e,h2,h3,h4,h5,h6⟩:=key;refine aB (by omega) (aB (by omega) (aB ⟨(by omega),by omega,by omega⟩ (aB (by omega) (aB ⟨sa,by omega,by omega⟩ (aB (by omega) (aB (by omega) (aB (by omega) (aB (by omega) (aB (by omega) (aB (by omega) (aB (by omega) (bF h2 ?_))))))))))));have hm:nv e.1<nv b*2^s:=(by simp_all[Nat.mod_lt]);have htk:nv (e.1.take b.length)=nv e.1:=by
    rw[aYw h4]; exact Nat.mod_eq_of_lt (Nat.lt_trans hm v1)
   have htr:cB (e.1.take b.length)=lb (nv e.1):=(by rw[cB,htk]);unfold oO;rw[e1,← U,htr];refine aB (by omega) (aB ⟨?_,hs2.1⟩ ?_)
   ·have:=nV.2 (Nat.lt_trans hm v1);omega
   ·unfold fI gH;rw[cB,h6,nR,hs,h5,Nat.mul_div_mul_right _ _ (Nat.two_pow_pos s),Nat.mul_mod_mul_right,Nat.mul_div_cancel _ (Nat.two_pow_pos s)]
  ·rintro⟨j,u,q⟩ h;have h:QrI (a.length-b.length) b.length (nv b*2^s) (nv a*2^s) j u q:=h;have i0:=h.j0;have i1:=h.j1;have hul:=h.ul;have hql:=h.ql;show (∃d',jI none b j u q=_∧_)∨ ∃e,jI none b j u q=_∧_;unfold jI;rw[e1,← U,N];by_cases hj:0≤j
   ·left
    have hvl:(cG (lb (nv b*2^s)) (b.length:Int)).length=b.length:=(by grind[aJj,Int.toNat_natCast]);have hvv:nv (cG (lb (nv b*2^s)) (b.length:Int))=nv b*2^s:=(by rw[aFN,nR]);have lv:Lm (cG (lb (nv b*2^s)) (b.length:Int)):=aLo (aCI _);have htop:9223372036854775808≤(cG (lb (nv b*2^s)) (b.length:Int)).getD (b.length-1) 0:=by
     have hp:0<18446744073709551616^(b.length-1):=Nat.pow_pos xAa;rw[nH lv,hvv,Nat.mod_eq_of_lt ((Nat.div_lt_iff_lt_mul hp).2 (by rw[← Nat.pow_succ',show (b.length-1).succ=b.length from by omega]; exact v1))];simp_all[Nat.le_div_iff_mul_le]
    have J:=h.lt;rw[show (j+1).toNat=j.toNat+1 from by omega] at J;obtain⟨w,k1,k2,k3,k4⟩:=aKj (v:=cG (lb (nv b*2^s)) (b.length:Int)) (u:=u) (j:=j.toNat) (un:=((j+(b.length:Int))+1-j).toNat) lv h.lu (by omega) (by omega) (by omega) (by omega) (by simp_all) (by simp_all);rw[hvv] at k1 k4;refine⟨(j-1,w,q.set j.toNat (nv u/(18446744073709551616^j.toNat*(nv b*2^s)))),?_,aWK h hj k2 k3 hV k4,by omega⟩;rw[if_pos hj];exact aB (by omega) (aB (by omega) (aB (by omega) (bF k1 (aB (by omega) (aB (by omega) rfl)))))
   ·right
    have hj1:(j+1).toNat=0:=(by omega);have J:=h.lt;rw[hj1,Nat.pow_zero,Nat.one_mul] at J;have hs4:=h.sum;refine⟨(u,q),by grind,by simp_all,h.lu,?_,?_⟩
    ·grind[Nat.add_comm,Nat.add_mul_mod_self_right,Nat.mod_eq_of_lt]
    ·simp only;rw[← hs4,Nat.add_comm,Nat.add_mul_div_right _ _ hV,Nat.div_eq_of_lt J,Nat.zero_add]
  ·have ej:((a.length:Int)-(b.length:Int)+1).toNat=a.length-b.length+1:=(by omega);refine⟨by omega,by omega,?_,aLo (aCI _),?_,aFM _,?_,⟨0,?_⟩,?_⟩
   ·grind[aJj]
   ·simp_all
   ·simp only;rw[aFN,nR,ej];have k1:=jG la;have k2:2^s≤2^63:=Nat.pow_le_pow_right xAa Y;refine Nat.lt_of_lt_of_le (Nat.mul_lt_mul_of_pos_right k1 (Nat.two_pow_pos s)) ?_;refine Nat.le_trans (Nat.mul_le_mul_left _ k2) ?_;refine Nat.le_trans ?_ (Nat.mul_le_mul_left _ v2);rw[Nat.mul_left_comm,← Nat.pow_add,show a.length-b.length+1+(b.length-1)=a.length from by omega,Nat.mul_comm];omega
   ·simp_all[aFL,Nat.mul_zero]
   ·simp only; rw[aFL,Nat.zero_mul,Nat.zero_add,aFN,nR]
set_option maxHeartbeats 4000000
def aCK:PlR:=⟨[(0,.A [0,2]),(1,.A [0,2,4]),(2,.A [0]),(3,.A [0,2]),(4,.A [0,2,8]),(5,.A [0,2]),(6,.A [0,2]),(7,.A [0,2,14]),(8,.A [0,2]),(9,.A [0,2]),(10,.A [2])],[(4,7),(7,10),(10,13)],[]⟩
@[go_sem]def aAt:Ty:=.pair qh .unit
@[go_sem]def sW:aF:=⟨aAt,.one qf,fun _=>True,fun x=>lC x.1⟩
def aKk(F:Md):aF:=mSpec aAt (.one qf) (fun x=>qZ F x.1)
abbrev aMO(F:Md):List (FuncId×aF):=[]
theorem aMP(F:Md):bU Tryz.prog GL (aMO F):=.nil
attribute [go_sem] aCK
theorem aKl(F:Md):FOK Tryz.prog GL 143 (aKk F):=by
 refine cF (bQ (aMP F)) mix Tryz.func143 rfl xC xAa aCK (fun w0 S x Θ hw h hV=>?_);obtain⟨(J:Nat),u⟩:=x;simp only[cC,go_sem];replace h:sat (qZ F J) _:=h;unfold qZ at h;refine cD hV (D:=Nat×Int) (fun d=>sat (gX F d.1 d.2) Θ) [] (fun d=>[(0,.val qh d.1),(2,.val qf d.2)]) (fun d=>[]) ?_ ?_
 ·simp only[go_sem];refine cY h (fun hc h=>?_) fun hc h=>?_
  ·exact aR ((J/(4294967296:Nat)),(32:Int)) h rfl xAb
  ·exact aR (J,(0:Int)) h rfl xAb
 ·rintro⟨I,Y⟩ h;simp only[go_sem];replace h:sat (gX F I Y) _:=h;unfold gX at h;refine cD hV (D:=Nat×Int) (fun d=>sat (gW F d.1 d.2) Θ) [] (fun d=>[(0,.val qh d.1),(2,.val qf d.2)]) (fun d=>[]) ?_ ?_
  ·simp only[go_sem];refine cY h (fun hc h=>?_) fun hc h=>?_
   ·refine aZ h fun g0 h=>?_;exact aR ((I/(65536:Nat)),(Y+(16:Int))) h rfl xAb
   ·exact aR (I,Y) h rfl xAb
  ·rintro⟨U,N⟩ h;simp only[go_sem];replace h:sat (gW F U N) _:=h;unfold gW at h;refine cD hV (D:=Nat×Int) (fun d=>sat (gV F d.1 d.2) Θ) [] (fun d=>[(0,.val qh d.1),(2,.val qf d.2)]) (fun d=>[]) ?_ ?_
   ·simp only[go_sem];refine cY h (fun hc h=>?_) fun hc h=>?_
    ·refine aZ h fun g0 h=>?_;exact aR ((U/(256:Nat)),(N+(8:Int))) h rfl xAb
    ·exact aR (U,N) h rfl xAb
   ·rintro⟨x_6,n_7⟩ h;simp only[go_sem];replace h:sat (gV F x_6 n_7) _:=h;unfold gV at h;refine aZ h fun g0 h=>aZ h fun g1 h=>?_;exact zaD
theorem aKm:FOK Tryz.prog GL 143 sW:=dN (aKl none) (fun⟨I,u⟩ ⟨w0,J⟩ hp=>aJd I w0)
def rF:PlR:=⟨[(0,.A [0]),(1,.A [2])],[],[]⟩
@[go_sem]def lZ:Ty:=.pair qh .unit
@[go_sem]def cH:aF:=⟨lZ,.one qf,fun _=>True,fun x=>aA x.1⟩
def aAu(F:Md):aF:=mSpec lZ (.one qf) (fun x=>fT F x.1)
abbrev rZ(F:Md):List (FuncId×aF):=[(143,sW)]
theorem aA8(F:Md):bU Tryz.prog GL (rZ F):=.cons aKm xC (.nil)
attribute [go_sem] rF
theorem aAv(F:Md):FOK Tryz.prog GL 99 (aAu F):=by
 refine cF (bQ (aA8 F)) mix Tryz.func99 rfl xC xAa rF (fun w0 S x Θ J h hV=>?_);obtain⟨(I:Nat),u⟩:=x;simp only[cC,go_sem];replace h:sat (fT F I) _:=h;unfold fT at h;refine aZ h fun g0 h=>?_;exact zaD
theorem lE:FOK Tryz.prog GL 99 cH:=dN (aAv none) (fun⟨I,u⟩ ⟨w0,J⟩ hp=>yX I w0)
def pP:PlR:=⟨[(0,.A [0]),(1,.A [0,4]),(2,.A [2]),(3,.A [2])],[],[]⟩
@[go_sem]def lF:Ty:=.pair qh .unit
@[go_sem]def gP:aF:=⟨lF,.one qf,fun _=>True,fun x=>dX x.1⟩
def zA(F:Md):aF:=mSpec lF (.one qf) (fun x=>fH F x.1)
abbrev aAw(F:Md):List (FuncId×aF):=[]
theorem aAx(F:Md):bU Tryz.prog GL (aAw F):=.nil
attribute [go_sem] pP
theorem zC(F:Md):FOK Tryz.prog GL 160 (zA F):=by
 refine cF (bQ (aAx F)) mix Tryz.func160 rfl xC xAa pP (fun w0 S x Θ J h hV=>?_);obtain⟨(I:Nat),u⟩:=x;simp only[cC,go_sem];replace h:sat (fH F I) _:=h;unfold fH at h;refine cY h (fun hc h=>?_) fun hc h=>?_
 ·exact aQ hV [.tmp 2] rfl rfl rfl (aC h) xAe
 ·refine aD h fun g0 h=>?_;repeat (refine⟨by first|with_reducible assumption|omega|(intros; first|with_reducible assumption|omega)|(simp only[go_sem,bA F,bB F,bC F] at *; first|with_reducible assumption|omega)|(intro _; exact⟨rfl,by decide⟩)|(intro _; refine(?_:_=aM _); rfl)|(refine(?_:_=aM _); rfl)|exact⟨rfl,rfl⟩|decide,?_⟩)
  exact aQ hV [.tmp 2] rfl rfl rfl (aC h) (by (simp only[bD,go_sem,bA F,bB F,bC F])<;>first|rfl|(simp; done))
theorem zD:FOK Tryz.prog GL 160 gP:=dN (zC none) (fun⟨I,u⟩ ⟨w0,J⟩ hp=>yA I w0)
def aCL:PlR:=⟨[(0,.A [0,1]),(1,.A [0,1,6]),(2,.A [0,1,6,7]),(3,.A [0,1,6,7,8]),(4,.A [0,1,6,7,8,9]),(5,.A [0,1,6,7,8,9,10]),(6,.A [0,1,6,7,9,11]),(7,.A [0,1,6,7,9,11,12]),(8,.A [0,1,6,7,9,12,13]),(9,.A [0,1,7,9,12,13]),(10,.A [0,1,4]),(11,.A [4,5])],[],[]⟩
@[go_sem]def aAy:Ty:=.pair qh (.pair qh .unit)
@[go_sem]def lR:aF:=⟨aAy,.tup qu,fun _=>True,fun x=>bP x.1 x.2.1⟩
def aKn(F:Md):aF:=mSpec aAy (.tup qu) (fun x=>rA F x.1 x.2.1)
abbrev aMQ(F:Md):List (FuncId×aF):=[]
theorem aMR(F:Md):bU Tryz.prog GL (aMQ F):=.nil
attribute [go_sem] aCL
theorem aKo(F:Md):FOK Tryz.prog GL 104 (aKn F):=by
 refine cF (bQ (aMR F)) mix Tryz.func104 rfl xC xAa aCL (fun w0 S x Θ N h hV=>?_);obtain⟨(J:Nat),(I:Nat),u⟩:=x;simp only[cC,go_sem];replace h:sat (rA F J I) _:=h;unfold rA at h;exact aQ hV [.tmp 4,.tmp 5] rfl rfl rfl (aC h) xAe
theorem aCM:FOK Tryz.prog GL 104 lR:=dN (aKo none) (fun⟨I,x1,u⟩ ⟨w0,w1,J⟩ hp=>aJe I w0 x1 w1)
def aGr:PlR:=⟨[(0,.A [0]),(1,.A [0,14]),(2,.A [0]),(3,.A [2])],[],[]⟩
@[go_sem]def aDt:Ty:=.pair qr .unit
@[go_sem]def dE:aF:=⟨aDt,.one qr,fun _=>True,fun x=>cB x.1⟩
def aPb(F:Md):aF:=mSpec aDt (.one qr) (fun x=>wU F x.1)
abbrev aQI(F:Md):List (FuncId×aF):=[]
theorem aQJ(F:Md):bU Tryz.prog GL (aQI F):=.nil
attribute [go_sem] aGr
theorem aPc(F:Md):FOK Tryz.prog GL 102 (aPb F):=by
 refine cF (bQ (aQJ F)) mix Tryz.func102 rfl xC xAa aGr (fun w0 S x Θ hw h hV=>?_);obtain⟨(I:qd),u⟩:=x;simp only[cC,go_sem];replace h:sat (wU F I) _:=h;unfold wU at h;refine bZ hV (D:=qd) [] (fun d=>[(0,.val qr d)]) (fun d=>[]) h rfl xAb ?_;rintro U A1 T1 J N h;simp only[go_sem];replace h:sat (sV F U) _:=h;unfold sV at h;refine aZ h fun g0 h=>aZ h fun Y h=>?_;refine⟨fun hc=>?_,fun hc=>?_⟩
 ·replace h:=kJ hc h;refine aZ h fun g0 h=>aZ h fun Y h=>?_;replace h:=J _ (aC h);exact zaG
 ·replace h:=kK hc h;replace h:=yaF (N _ (aC h));exact zaD
theorem mU:FOK Tryz.prog GL 102 dE:=dN (aPc none) (fun⟨I,u⟩ ⟨w0,J⟩ hp=>aMG I w0)
def aJl:PlR:=⟨[(0,.A [0]),(1,.A [2])],[],[]⟩
@[go_sem]def aFO:Ty:=.pair qr .unit
@[go_sem]def aAz:aF:=⟨aFO,.one .bool,fun _=>True,fun x=>yZ x.1⟩
def aQK(F:Md):aF:=mSpec aFO (.one .bool) (fun x=>yY F x.1)
abbrev aTT(F:Md):List (FuncId×aF):=[]
theorem aTU(F:Md):bU Tryz.prog GL (aTT F):=.nil
attribute [go_sem] aJl
theorem aQL(F:Md):FOK Tryz.prog GL 161 (aQK F):=by
 refine cF (bQ (aTU F)) mix Tryz.func161 rfl xC xAa aJl (fun w0 S x Θ Y h hV=>?_);obtain⟨(J:qd),u⟩:=x;simp only[cC,go_sem];replace h:sat (yY F J) _:=h;unfold yY at h;refine aD h fun g0 h=>?_;refine aD h fun N h=>?_;try simp only[I64,I32] at g0
 repeat (refine⟨by first|with_reducible assumption|omega|(intros; first|with_reducible assumption|omega)|(intro _; exact⟨rfl,by decide⟩)|(intro _; refine(?_:_=aM _); rfl)|(refine(?_:_=aM _); rfl)|exact⟨rfl,rfl⟩|(intro q0 I; (try have e0:=g0 (by first|exact q0|omega|(simpa using q0)) (by first|exact I|omega|(simpa using I))); (try have U:=N (by first|exact q0|omega|(simpa using q0)) (by first|exact I|omega|(simpa using I))); first|assumption|omega)|(rintro⟨q0,I⟩; (try have e0:=g0 (by first|exact q0|omega|(simpa using q0)) (by first|exact I|omega|(simpa using I))); (try have U:=N (by first|exact q0|omega|(simpa using q0)) (by first|exact I|omega|(simpa using I))); first|assumption|omega)|decide,?_⟩)
 exact zaD
theorem aQM:FOK Tryz.prog GL 161 aAz:=dN (aQL none) (fun⟨I,u⟩ ⟨w0,J⟩ hp=>aO3 I w0)
def aGs:PlR:=⟨[(0,.A [0]),(1,.A [3]),(2,.A [2]),(3,.A [2])],[],[]⟩
@[go_sem]def aDu:Ty:=.pair .bool .unit
@[go_sem]def xO:aF:=⟨aDu,.one qf,fun _=>True,fun x=>pD x.1⟩
def aPd(F:Md):aF:=mSpec aDu (.one qf) (fun x=>wV F x.1)
abbrev aQN(F:Md):List (FuncId×aF):=[]
theorem aQO(F:Md):bU Tryz.prog GL (aQN F):=.nil
attribute [go_sem] aGs
theorem aPe(F:Md):FOK Tryz.prog GL 141 (aPd F):=by
 refine cF (bQ (aQO F)) mix Tryz.func141 rfl xC xAa aGs (fun w0 S x Θ J h hV=>?_);obtain⟨(I:Bool),u⟩:=x;simp only[cC,go_sem];replace h:sat (wV F I) _:=h;unfold wV at h;refine aZa h (fun hc h=>?_) fun hc h=>?_
 ·exact aQ hV [.tmp 2] rfl rfl rfl (aC h) xAd
 ·exact aQ hV [.tmp 2] rfl rfl rfl (aC h) xAd
theorem aPf:FOK Tryz.prog GL 141 xO:=dN (aPe none) (fun⟨I,u⟩ ⟨w0,J⟩ hp=>aMH I w0)
def aEm:PlR:=⟨[(0,.A [0,1]),(1,.A [0,1,10]),(2,.A [4]),(3,.A [0,1,5]),(4,.A [0,1,5,21]),(5,.A [0,1,5]),(6,.A [0,1,5,32]),(7,.A [4]),(8,.A [4])],[],[]⟩
@[go_sem]def aBK:Ty:=.pair qr we
@[go_sem]def vE:aF:=⟨aBK,.one qf,fun x=>aWq x.1 x.2.1,fun x=>pM x.1 x.2.1⟩
def aMS(F:Md):aF:=mSpec aBK (.one qf) (fun x=>tU F x.1 x.2.1)
abbrev aGt(F:Md):List (FuncId×aF):=[(141,xO)]
theorem aPg(F:Md):bU Tryz.prog GL (aGt F):=.cons aPf xC (.nil)
attribute [go_sem] aEm
theorem aMT(F:Md):FOK Tryz.prog GL 96 (aMS F):=by
 refine cF (bQ (aPg F)) mix Tryz.func96 rfl xC xAa aEm (fun w0 S x Θ hw h hV=>?_);obtain⟨(J:qd),(I:qd),u⟩:=x;simp only[cC,go_sem];replace h:sat (tU F J I) _:=h;unfold tU at h;refine cY h (fun hc h=>?_) fun hc h=>?_
 ·exact aQ hV [.tmp 4] rfl rfl rfl (aC h) xAd
 ·refine aZ h fun g0 h=>?_;refine bZ hV (D:=Int) [0,1] (fun d=>[(5,.val qf d)]) (fun d=>[]) h rfl xAb ?_;rintro Y A4 T4 U N h;simp only[go_sem];replace h:sat (mO F J I Y) _:=h;unfold mO at h;refine aL0 h (fun hc h=>?_) fun hc h=>?_
  ·refine aZ h fun g0 h=>aZ h fun g1 h=>?_;refine cY h (fun hc h=>?_) fun hc h=>?_
   ·refine aZ h fun g0 h=>aZ h fun g1 h=>?_;replace h:=yaF (N _ (aC h));exact zaB
   ·refine aZ h fun g0 h=>?_;replace h:=U _ (aC h);exact zaG
  ·replace h:=yaF (N _ (aC h));exact zaB
theorem aMU:FOK Tryz.prog GL 96 vE:=dN (aMT none) (fun⟨I,x1,u⟩ ⟨w0,w1,J⟩ hp=>aKe I w0 x1 w1 hp)
def aGu:PlR:=⟨[(0,.A [0]),(1,.A [0,5]),(2,.A [2]),(3,.A [2])],[],[]⟩
@[go_sem]def aDv:Ty:=.pair qr .unit
@[go_sem]def pQ:aF:=⟨aDv,.one qf,fun x=>aO2 x.1,fun x=>bI x.1⟩
def aPh(F:Md):aF:=mSpec aDv (.one qf) (fun x=>wW F x.1)
abbrev aJm(F:Md):List (FuncId×aF):=[(99,cH)]
theorem aQP(F:Md):bU Tryz.prog GL (aJm F):=.cons lE xC (.nil)
attribute [go_sem] aGu
theorem aPi(F:Md):FOK Tryz.prog GL 74 (aPh F):=by
 refine cF (bQ (aQP F)) mix Tryz.func74 rfl xC xAa aGu (fun w0 S x Θ J h hV=>?_);obtain⟨(I:qd),u⟩:=x;simp only[cC,go_sem];replace h:sat (wW F I) _:=h;unfold wW at h;refine cY h (fun hc h=>?_) fun hc h=>?_
 ·exact aQ hV [.tmp 2] rfl rfl rfl (aC h) xAd
 ·refine aZ h fun g0 h=>aZ h fun U h=>aZ h fun N h=>aZ h fun Y h=>?_;exact zaD
theorem aGv:FOK Tryz.prog GL 74 pQ:=dN (aPi none) (fun⟨I,u⟩ ⟨w0,J⟩ hp=>aMI I w0 hp)
def aEn:PlR:=⟨[(0,.A [0]),(1,.A [5,6,7]),(2,.A [5,6,7,8]),(3,.A [3,4,5,6,7]),(4,.A [3,4,5,6,7,13]),(5,.A [2]),(6,.A [5,6,7]),(7,.A [2])],[],[]⟩
@[go_sem]def aBL:Ty:=.pair qr .unit
@[go_sem]def nI:aF:=⟨aBL,.one qf,fun x=>pSz x.1,fun x=>cQ x.1⟩
def aMV(F:Md):aF:=mSpec aBL (.one qf) (fun x=>tV F x.1)
abbrev aGw(F:Md):List (FuncId×aF):=[(160,gP)]
theorem aPj(F:Md):bU Tryz.prog GL (aGw F):=.cons zD xC (.nil)
attribute [go_sem] aEn
theorem aMW(F:Md):FOK Tryz.prog GL 118 (aMV F):=by
 refine cF (bQ (aPj F)) mix Tryz.func118 rfl xC xAa aEn (fun w0 S x Θ Y h hV=>?_);obtain⟨(J:qd),u⟩:=x;simp only[cC,go_sem];replace h:sat (tV F J) _:=h;unfold tV at h;refine bZ hV (D:=Int) [5,6] (fun d=>[(7,.val qf d)]) (fun d=>[]) h rfl xAb ?_;rintro N A2 T2 U I h;simp only[go_sem];replace h:sat (mP F J N) _:=h;unfold mP at h;refine gF h (fun hc h=>?_) fun hc h=>?_
 ·refine aZ h fun g0 h=>?_;refine cY h (fun hc h=>?_) fun hc h=>?_
  ·refine aZ h fun g0 h=>aZ h fun g1 h=>?_;replace h:=yaF (I _ (aC h));exact zaD
  ·refine aZ h fun g0 h=>?_;replace h:=U _ (aC h);exact zaG
 ·replace h:=yaF (I _ (aC h));exact zaD
theorem aEo:FOK Tryz.prog GL 118 nI:=dN (aMW none) (fun⟨I,u⟩ ⟨w0,J⟩ hp=>aKf I w0 hp)
def aGx:PlR:=⟨[(0,.A [0,1]),(1,.A [0,1,13]),(2,.A [0,1]),(3,.B [1,5]),(4,.A [1,5,6]),(5,.A [1,5,6,21,22]),(6,.A [1,5,6,21,22,23]),(7,.A [1,5,6,7,21,22]),(8,.A [1,5,6,7,8,21,22]),(9,.A [1,5,6,7,8,21,22,25]),(10,.A [1,5,6,7,8,21,22]),(11,.A [1,5,6,7,8,21,22,34]),(12,.B [1,5,6,21,22]),(13,.A [1,5,6,21,22]),(14,.B [4])],[(4,6),(12,15)],[]⟩
@[go_sem]def aDw:Ty:=.pair qr we
@[go_sem]def pR:aF:=⟨aDw,.one qr,fun x=>aME x.1 x.2.1,fun x=>jX x.1 x.2.1⟩
def aPk(F:Md):aF:=mSpec aDw (.one qr) (fun x=>wY F x.1 x.2.1)
abbrev aAA(F:Md):List (FuncId×aF):=[(102,dE),(105,iK),(97,bL)]
theorem aQQ(F:Md):bU Tryz.prog GL (aAA F):=.cons mU xC (.nat xY (.cons iE xC (.nil)))
attribute [go_sem] aGx
theorem aPl(F:Md):FOK Tryz.prog GL 106 (aPk F):=by
 refine cF (bQ (aQQ F)) mix Tryz.func106 rfl xC xAa aGx (fun w0 S x Θ hw h hV=>?_);obtain⟨(Y:qd),(N:qd),u⟩:=x;simp only[cC,go_sem];replace h:sat (wY F Y N) _:=h;unfold wY at h;refine cD hV (D:=qd×qd) (fun d=>sat (jW F d.1 d.2) Θ) [] (fun d=>[(0,.val qr d.1),(1,.val qr d.2)]) (fun d=>[]) ?_ ?_
 ·simp only[go_sem];refine gF h (fun hc h=>?_) fun hc h=>?_
  ·exact aR (N,Y) h rfl xAb
  ·exact aR (Y,N) h rfl xAb
 ·rintro⟨a_3,U⟩ h;simp only[go_sem];replace h:sat (jW F a_3 U) _:=h;unfold jW at h;refine aZ h fun g0 h=>?_;refine aD h fun g0 h=>(yaB ?_);refine aHI [1] rfl rfl (yaA ?_);refine bZ hV (D:=Nat×Int×qd) [1,21] (fun d=>[(5,.own 0),(6,.val qh d.1),(22,.val qf d.2.1)]) (fun d=>[.inr (.row 119 qh d.2.2)]) h rfl xAb ?_;rintro⟨carry_12,I,J⟩ A6 T6 hA6 hE6 h;simp only[go_sem];replace h:sat (jV F a_3 U carry_12 I J) _:=h;unfold jV at h;refine gF h (fun hc h=>?_) fun hc h=>?_
  ·refine cD hV (D:=Nat) (fun d=>sat (jU F I J carry_12 d) T6) [1,6,7,21,22] (fun d=>[(5,.own 0),(8,.val qh d)]) (fun d=>[.inr (.row 119 qh J)]) ?_ ?_
   ·simp only[go_sem];refine gF h (fun hc h=>?_) fun hc h=>?_
    ·refine aD h fun g0 h=>(yaB ?_);exact aR (U.getD (I.toNat) (0:Nat)) h rfl xAb
    ·refine cY h (fun hc h=>?_) fun hc h=>?_
     ·replace h:=yaF (hE6 _ (aC h));exact zaB
     ·exact aR (0:Nat) h rfl xAb
   ·rintro x_21 h;simp only[go_sem];replace h:sat (jU F I J carry_12 x_21) _:=h;unfold jU at h;refine aD h fun g0 h=>(yaB ?_);refine aD h fun g0 h=>(yaB ?_);refine aD h fun g0 h=>(yaB ?_);refine aZ h fun g0 h=>?_;replace h:=hA6 _ (aC h);exact zaG
  ·replace h:=yaF (hE6 _ (aC h));exact zaB
theorem aGy:FOK Tryz.prog GL 106 pR:=dN (aPl none) (fun⟨I,x1,u⟩ ⟨w0,w1,J⟩ hp=>aMJ I w0 x1 w1 hp)
def aGz:PlR:=⟨[(0,.A [0]),(1,.B [2])],[],[]⟩
@[go_sem]def aDx:Ty:=.pair qr .unit
@[go_sem]def xP:aF:=⟨aDx,.one qr,fun x=>pSz x.1,fun x=>sL x.1⟩
def aPm(F:Md):aF:=mSpec aDx (.one qr) (fun x=>wZ F x.1)
abbrev aDy(F:Md):List (FuncId×aF):=[(102,dE),(97,bL)]
theorem aQR(F:Md):bU Tryz.prog GL (aDy F):=.cons mU xC (.cons iE xC (.nil))
attribute [go_sem] aGz
theorem aPn(F:Md):FOK Tryz.prog GL 107 (aPm F):=by
 refine cF (bQ (aQR F)) mix Tryz.func107 rfl xC xAa aGz (fun w0 S x Θ J h hV=>?_);obtain⟨(I:qd),u⟩:=x;simp only[cC,go_sem];replace h:sat (wZ F I) _:=h;unfold wZ at h;refine aZ h fun g0 h=>?_;exact zaD
theorem aPo:FOK Tryz.prog GL 107 xP:=dN (aPn none) (fun⟨I,u⟩ ⟨w0,J⟩ hp=>aMK I w0 hp)
def aEp:PlR:=⟨[(0,.A [0,1]),(1,.B [0,1,5]),(2,.A [1,5,20,21,22]),(3,.A [1,5,20,21,22,23]),(4,.A [1,5,6,7,20,21,22]),(5,.A [1,5,6,7,8,20,21,22]),(6,.A [1,5,6,7,8,20,21,22,27,28,29]),(7,.A [1,5,6,7,8,20,21,22,27,28,29,30]),(8,.A [1,5,6,7,8,9,10,20,21,22,27,28,29]),(9,.A [1,5,6,7,8,9,11,12,20,21,22,27,28,29]),(10,.A [1,5,6,7,8,9,11,12,20,21,22,27,28,29]),(11,.A [1,5,6,7,9,11,12,13,20,21,22,27,28,29]),(12,.A [1,5,6,7,9,11,12,20,21,22,27,28,29]),(13,.B [1,5,6,7,11,13,20,21,22,27,28,29]),(14,.A [1,5,6,7,8,20,21,22,27,28,29]),(15,.A [1,5,6,7,8,20,21,22,27,28,29]),(16,.B [1,5,20,21,22]),(17,.A [1,5,20,21,22]),(18,.B [4])],[(9,19)],[]⟩
@[go_sem]def aBM:Ty:=.pair qr we
@[go_sem]def jP:aF:=⟨aBM,.one qr,fun x=>aME x.1 x.2.1,fun x=>dD x.1 x.2.1⟩
def aMX(F:Md):aF:=mSpec aBM (.one qr) (fun x=>tW F x.1 x.2.1)
abbrev xQ(F:Md):List (FuncId×aF):=[(102,dE),(104,lR),(105,iK)]
theorem aPp(F:Md):bU Tryz.prog GL (xQ F):=.cons mU xC (.cons aCM xC (.nat xY (.nil)))
attribute [go_sem] aEp
theorem aMY(F:Md):FOK Tryz.prog GL 49 (aMX F):=by
 refine cF (bQ (aPp F)) mix Tryz.func49 rfl xC xAa aEp (fun w0 S x Θ hw h hV=>?_);obtain⟨(a_0:qd),(N:qd),u⟩:=x;simp only[cC,go_sem];replace h:sat (tW F a_0 N) _:=h;unfold tW at h;refine aD h fun g0 h=>(yaB ?_);refine aD h fun g0 h=>?_;refine aD h fun g1 h=>(yaB ?_);refine bZ hV (D:=Int×qd) [1,20,21] (fun d=>[(5,.own 0),(22,.val qf d.1)]) (fun d=>[.inr (.row 119 qh d.2)]) h rfl xAb ?_;rintro⟨I,U⟩ A3 T3 hA3 hE3 h;simp only[go_sem];replace h:sat (iQ F a_0 N I U) _:=h;unfold iQ at h;refine gF h (fun hc h=>?_) fun hc h=>?_
 ·refine aD h fun g0 h=>(yaB ?_);refine cD hV (D:=Nat×qd) (fun d=>sat (mQ F I N d.1 d.2) T3) [1,6,20,21,22] (fun d=>[(5,.own 0),(8,.val qh d.1)]) (fun d=>[.inr (.row 119 qh d.2)]) ?_ ?_
  ·simp only[go_sem];refine bZ hV (D:=Nat×Int×qd) [1,6,7,20,21,22,27,28] (fun d=>[(5,.own 0),(8,.val qh d.1),(29,.val qf d.2.1)]) (fun d=>[.inr (.row 119 qh d.2.2)]) h rfl xAb ?_;rintro⟨carry_64,x29_65,J⟩ A7 T7 hA7 hE7 h;simp only[go_sem];replace h:sat (iP F N a_0 I carry_64 x29_65 J) _:=h;unfold iP at h;refine gF h (fun hc h=>?_) fun hc h=>?_
   ·refine aD h fun g0 h=>(yaB ?_);refine aD h fun g0 h=>(yaB ?_);refine aD h fun g0 h=>(yaB ?_);refine aD h fun g0 h=>(yaB ?_);refine aD h fun g0 h=>(yaB ?_);refine aD h fun g0 h=>(yaB ?_);refine aD h fun g0 h=>(yaB ?_);refine aD h fun g0 h=>(yaB ?_);replace h:=hA7 _ (aC h);exact zaG
   ·replace h:=yaF (hE7 _ (aC h));exact aR (carry_64,J) h rfl xAb
  ·rintro⟨carry_62,Y⟩ h;simp only[go_sem];replace h:sat (mQ F I N carry_62 Y) _:=h;unfold mQ at h;refine aD h fun g0 h=>(yaB ?_);refine aD h fun g0 h=>(yaB ?_);refine aD h fun g0 h=>?_;(try simp only[I64,I32] at g0);(repeat (refine⟨zAB,?_⟩));replace h:=hA3 _ (aC h);exact zaG
 ·replace h:=yaF (hE3 _ (aC h));exact zaB
theorem aAB:FOK Tryz.prog GL 49 jP:=dN (aMY none) (fun⟨I,x1,u⟩ ⟨w0,w1,J⟩ hp=>aKg I w0 x1 w1 hp)
def aGA:PlR:=⟨[(0,.A [0,1]),(1,.A [0,1,10]),(2,.A [4]),(3,.B [0,1,5]),(4,.A [1,5,18,19,20]),(5,.A [1,5,18,19,20,21]),(6,.A [1,5,6,7,18,19,20]),(7,.B [1,5,6,7,18,19,20]),(8,.B [1,5,18,19,20]),(9,.A [1,5,18,19,20]),(10,.B [4])],[],[]⟩
@[go_sem]def aDz:Ty:=.pair qr qn
@[go_sem]def pS:aF:=⟨aDz,.one qr,fun x=>aO6 x.1 x.2.1,fun x=>dR x.1 x.2.1⟩
def aPq(F:Md):aF:=mSpec aDz (.one qr) (fun x=>xA F x.1 x.2.1)
abbrev aJq(F:Md):List (FuncId×aF):=[(102,dE)]
theorem aQS(F:Md):bU Tryz.prog GL (aJq F):=.cons mU xC (.nil)
attribute [go_sem] aGA
theorem aPr(F:Md):FOK Tryz.prog GL 75 (aPq F):=by
 refine cF (bQ (aQS F)) mix Tryz.func75 rfl xC xAa aGA (fun w0 S x Θ hw h hV=>?_);obtain⟨(U:qd),(N:Int),u⟩:=x;simp only[cC,go_sem];replace h:sat (xA F U N) _:=h;unfold xA at h;refine cY h (fun hc h=>?_) fun hc h=>?_
 ·exact aQ hV [.tmp 4] rfl rfl rfl (aC h) xAd
 ·refine aD h fun g0 h=>?_;try simp only[I64,I32] at g0
  repeat (refine⟨zAA,?_⟩)
  refine aD h fun g0 h=>?_;try simp only[I64,I32] at g0
  repeat (refine⟨zAA,?_⟩)
  refine aD h fun g0 h=>?_;try simp only[I64,I32] at g0
  repeat (refine⟨zAA,?_⟩)
  refine aD h fun g0 h=>?_;refine aD h fun g1 h=>?_;repeat (refine⟨zAA,?_⟩)
  refine bZ hV (D:=Int×qd) [1,18,19] (fun d=>[(5,.own 0),(20,.val qf d.1)]) (fun d=>[.inr (.row 119 qh d.2)]) h rfl xAb ?_;rintro⟨J,I⟩ A5 T5 hA5 Y h;simp only[go_sem];replace h:sat (jY F U N J I) _:=h;unfold jY at h;refine gF h (fun hc h=>?_) fun hc h=>?_
  ·refine aD h fun g0 h=>?_;(repeat (refine⟨zAA,?_⟩));refine aD h fun g0 h=>?_;(try simp only[I64,I32] at g0);(repeat (refine⟨zAA,?_⟩));refine aD h fun g0 h=>?_;(try simp only[I64,I32] at g0);(repeat (refine⟨zAA,?_⟩));refine aD h fun g0 h=>?_;(repeat (refine⟨zAA,?_⟩));refine aD h fun g0 h=>?_;(repeat (refine⟨zAA,?_⟩));refine aD h fun g0 h=>?_;(try simp only[I64,I32] at g0);(repeat (refine⟨zAA,?_⟩));refine aD h fun g0 h=>?_;(try simp only[I64,I32] at g0);(repeat (refine⟨zAA,?_⟩));refine aD h fun g0 h=>?_;(try simp only[I64,I32] at g0);(repeat (refine⟨zAA,?_⟩));refine aD h fun g0 h=>?_;(repeat (refine⟨zAA,?_⟩));refine aD h fun g0 h=>?_;(try simp only[I64,I32] at g0);(repeat (refine⟨zAA,?_⟩));refine aD h fun g0 h=>?_;(repeat (refine⟨zAA,?_⟩));refine aD h fun g0 h=>?_;(try simp only[I64,I32] at g0);(repeat (refine⟨zAA,?_⟩));replace h:=hA5 _ (aC h);exact zaQ
  ·replace h:=yaF (Y _ (aC h));exact zaB
theorem aGB:FOK Tryz.prog GL 75 pS:=dN (aPr none) (fun⟨I,x1,u⟩ ⟨w0,w1,J⟩ hp=>aMM I w0 x1 w1 hp)
def aEq:PlR:=⟨[(0,.A [0,1]),(1,.A [0,1,12]),(2,.A [4]),(3,.A [0,1]),(4,.B [0,1,5]),(5,.A [0,1,5,20,21,22]),(6,.A [0,1,5,20,21,22,23]),(7,.A [0,1,5,6,7,20,21,22]),(8,.B [0,1,5,6,20,21,22]),(9,.A [0,1,5,6,20,21,22,39]),(10,.C 17 [0,1,5,20,21,22]),(11,.A [0,1,5,20,21,22]),(12,.B [4])],[],[]⟩
@[go_sem]def aBN:Ty:=.pair qr qn
@[go_sem]def jQ:aF:=⟨aBN,.one qr,fun x=>aJg x.1 x.2.1,fun x=>gH x.1 x.2.1⟩
def aMZ(F:Md):aF:=mSpec aBN (.one qr) (fun x=>tX F x.1 x.2.1)
abbrev aGC(F:Md):List (FuncId×aF):=[(102,dE)]
theorem aPs(F:Md):bU Tryz.prog GL (aGC F):=.cons mU xC (.nil)
attribute [go_sem] aEq
theorem aM0(F:Md):FOK Tryz.prog GL 103 (aMZ F):=by
 refine cF (bQ (aPs F)) mix Tryz.func103 rfl xC xAa aEq (fun w0 S x Θ hw h hV=>?_);obtain⟨(U:qd),(N:Int),u⟩:=x;simp only[cC,go_sem];replace h:sat (tX F U N) _:=h;unfold tX at h;refine aD h fun g0 h=>?_;try simp only[I64,I32] at g0
 repeat (refine⟨zAB,?_⟩)
 refine aL0 h (fun hc h=>?_) fun hc h=>?_
 ·exact aQ hV [.tmp 4] rfl rfl rfl (aC h) xAd
 ·refine aD h fun g0 h=>?_;refine aD h fun g1 h=>?_;try simp only[I64,I32] at g0
  repeat (refine⟨zAB,?_⟩)
  refine aD h fun g0 h=>?_;refine aD h fun g1 h=>(yaE ?_);refine bZ hV (D:=Int×qd) [0,1,20,21] (fun d=>[(5,.own 0),(22,.val qf d.1)]) (fun d=>[.inr (.row 119 qh d.2)]) h rfl xAb ?_;rintro⟨J,I⟩ A6 T6 Y hE6 h;simp only[go_sem];replace h:sat (iR F N U J I) _:=h;unfold iR at h;refine gF h (fun hc h=>?_) fun hc h=>?_
  ·refine aD h fun g0 h=>(yaE ?_);refine aD h fun g0 h=>(yaE ?_);refine aD h fun g0 h=>?_;(try simp only[I64,I32] at g0);(repeat (refine⟨zAB,?_⟩));refine⟨fun hc=>?_,fun hc=>?_⟩
   ·replace h:=kJ hc h;refine⟨by kernel_rfl,?_⟩;refine aD h fun g0 h=>?_;refine aD h fun g1 h=>?_;refine aD h fun g2 h=>?_;refine aD h fun g3 h=>?_;refine aD h fun g4 h=>?_;(try simp only[I64,I32] at g1);(try simp only[I64,I32] at g3);(repeat (refine⟨zAB,?_⟩));refine aD h fun g0 h=>?_;(try simp only[I64,I32] at g0);(repeat (refine⟨zAB,?_⟩));replace h:=Y _ (aC h);exact zaQ
   ·replace h:=kK (by first|exact hc|omega) h;refine aD h fun g0 h=>?_;(try simp only[I64,I32] at g0);(repeat (refine⟨zAB,?_⟩));replace h:=Y _ (aC h);exact zaG
  ·replace h:=yaF (hE6 _ (aC h));exact zaB
theorem aAC:FOK Tryz.prog GL 103 jQ:=dN (aM0 none) (fun⟨I,x1,u⟩ ⟨w0,w1,J⟩ hp=>aKh I w0 x1 w1 hp)
def aCN:PlR:=⟨[(0,.A [0,1,2]),(1,.A [0,1,2,20]),(2,.stop),(3,.A [0,1,2,24]),(4,.stop),(5,.A [0,1,2,27]),(6,.A [6,7]),(7,.A [0,1,2,8]),(8,.A [0,1,2,8]),(9,.A [0,1,2,8,9]),(10,.A [0,1,2,8,9,10]),(11,.A [1,2,8,9,10,11]),(12,.A [2,8,9,10,11,12]),(13,.A [2,8,9,10,11,12,13]),(14,.A [2,8,9,10,11,13,14]),(15,.A [2,8,9,10,11,13,14,15]),(16,.A [2,8,9,10,11,13,14,15,16]),(17,.A [2,8,9,10,11,13,14,15,16,78]),(18,.A [2,8,9,10,11,13,14,15,16]),(19,.A [2,8,9,10,11,13,14,15,16]),(20,.A [2,8,9,10,11,13,14,15,16,85]),(21,.A [2,8,9,10,14,15,17]),(22,.A [2,8,9,10,14,15,17,18]),(23,.A [2,8,9,10,14,15,16,17,18]),(24,.A [2,8,9,10,14,15,16,17,18,113]),(25,.A [2,8,9,10,14,15,16,17,18]),(26,.A [2,8,9,10,14,15,16,17,18]),(27,.A [2,8,9,10,14,15,16,17,18,120]),(28,.A [6,7])],[(20,24),(27,31)],[]⟩
@[go_sem]def aAD:Ty:=.pair qh qu
@[go_sem]def lS:aF:=⟨aAD,.tup qu,fun x=>vC x.1 x.2.1 x.2.2.1,fun x=>iF x.1 x.2.1 x.2.2.1⟩
def aKs(F:Md):aF:=mSpec aAD (.tup qu) (fun x=>rB F x.1 x.2.1 x.2.2.1)
abbrev aEr(F:Md):List (FuncId×aF):=[(99,cH)]
theorem aM1(F:Md):bU Tryz.prog GL (aEr F):=.cons lE xC (.nil)
attribute [go_sem] aCN
theorem aKt(F:Md):FOK Tryz.prog GL 142 (aKs F):=by
 refine cF (bQ (aM1 F)) mix Tryz.func142 rfl xC xAa aCN (fun w0 S x Θ hw h hV=>?_);obtain⟨(U:Nat),(I:Nat),(Y:Nat),u⟩:=x;simp only[cC,go_sem];replace h:sat (rB F U I Y) _:=h;unfold rB at h;refine cY h (fun hc h=>?_) fun hc h=>?_
 ·exact yQ h
 ·refine cY h (fun hc h=>?_) fun hc h=>?_
  ·exact yQ h
  ·refine cY h (fun hc h=>?_) fun hc h=>?_
   ·refine aZ h fun g0 h=>aZ h fun g1 h=>?_;exact aQ hV [.tmp 6,.tmp 7] rfl rfl rfl (aC h) xAe
   ·refine aZ h fun g0 h=>?_;refine cD hV (D:=Nat) (fun d=>sat (lO F Y I U d) Θ) [2,8,9,10,11,13,14] (fun d=>[(15,.val qh d)]) (fun d=>[]) ?_ ?_
    ·simp only[go_sem,bA F,bB F,bC F];refine bZ hV (D:=Nat×Nat) [2,8,9,10,11,13,14] (fun d=>[(15,.val qh d.1),(16,.val qh d.2)]) (fun d=>[]) h rfl xAc ?_;rintro⟨N,rhat_20⟩ A17 T17 hA17 hE17 h;simp only[go_sem,bA F,bB F,bC F];replace h:sat (eU F I Y N rhat_20) _:=h;unfold eU at h;refine⟨fun hc=>?_,fun hc=>?_⟩
     ·replace h:=kJ hc h;refine cY h (fun hc h=>?_) fun hc h=>?_
      ·replace h:=yaF (hE17 _ (aC h));exact aR (kV F .u64 N (1:Nat)) h rfl xAc
      ·replace h:=hA17 _ (aC h);exact zaP
     ·replace h:=kK hc h;replace h:=yaF (hE17 _ (aC h));exact aR (N) h rfl xAc
    ·rintro x15_8 h;simp only[go_sem,bA F,bB F,bC F];replace h:sat (lO F Y I U x15_8) _:=h;unfold lO at h;refine aZ h fun g0 h=>?_;refine cD hV (D:=Nat) (fun d=>sat (lN F x15_8 U Y I d) Θ) [2,8,14,15,17] (fun d=>[(18,.val qh d)]) (fun d=>[]) ?_ ?_
     ·simp only[go_sem,bA F,bB F,bC F];refine bZ hV (D:=Nat×Nat) [2,8,9,10,14,15,17] (fun d=>[(16,.val qh d.1),(18,.val qh d.2)]) (fun d=>[]) h rfl xAc ?_;rintro⟨rhat_14,J⟩ A24 T24 hA24 hE24 h;simp only[go_sem,bA F,bB F,bC F];replace h:sat (eT F I Y rhat_14 J) _:=h;unfold eT at h;refine⟨fun hc=>?_,fun hc=>?_⟩
      ·replace h:=kJ hc h;refine cY h (fun hc h=>?_) fun hc h=>?_
       ·replace h:=yaF (hE24 _ (aC h));exact aR (kV F .u64 J (1:Nat)) h rfl xAc
       ·replace h:=hA24 _ (aC h);exact zaP
      ·replace h:=kK hc h;replace h:=yaF (hE24 _ (aC h));exact aR (J) h rfl xAc
     ·rintro x18_13 h;simp only[go_sem,bA F,bB F,bC F];replace h:sat (lN F x15_8 U Y I x18_13) _:=h;unfold lN at h;exact aQ hV [.tmp 6,.tmp 7] rfl rfl rfl (aC h) xAe
theorem aCO:FOK Tryz.prog GL 142 lS:=dN (aKt none) (fun⟨I,x1,J,u⟩ ⟨w0,w1,w2,N⟩ hp=>aJh I w0 x1 w1 J w2 hp)
def aEs:PlR:=⟨[(0,.stop),(1,.stop),(2,.stop),(3,.stop),(4,.stop),(5,.stop),(6,.stop),(7,.stop)],[(6,10)],[]⟩
@[go_sem]def aBO:Ty:=.pair qr (.pair qh .unit)
@[go_sem]def vF:aF:=⟨aBO,.tup (.pair qr we),fun x=>aBJ x.1 x.2.1,fun x=>pN x.1 x.2.1⟩
def aM2(F:Md):aF:=mSpec aBO (.tup (.pair qr we)) (fun x=>tY F x.1 x.2.1)
abbrev aBP(F:Md):List (FuncId×aF):=[(102,dE),(142,lS)]
theorem aPt(F:Md):bU Tryz.prog GL (aBP F):=.cons mU xC (.cons aCO xC (.nil))
attribute [go_sem] aEs
theorem aM3(F:Md):FOK Tryz.prog GL 98 (aM2 F):=by
 refine cF (bQ (aPt F)) mix Tryz.func98 rfl xC xAa aEs (fun w0 S x Θ hw h hV=>?_);obtain⟨(a_0:qd),(Y:Nat),u⟩:=x;simp only[cC,go_sem];replace h:sat (tY F a_0 Y) _:=h;unfold tY at h;refine jT hV [0,1] (yaA ?_);refine aIG hV [0,1,6] (yaA ?_);refine aD h fun g0 h=>?_;refine aD h fun g1 h=>(yaB ?_);refine jT hV [0,1,6,7] (yaA ?_);refine cD hV (D:=Nat×qd) (fun d=>sat (mR F d.1 d.2) Θ) [] (fun d=>[(6,.own 0),(7,.val qh d.1)]) (fun d=>[.inr (.row 119 qh d.2)]) ?_ ?_
 ·simp only[go_sem];refine jT hV [0,1,6,7,8] (yaA ?_);refine aD h fun g0 h=>(yaB ?_);refine bZ hV (D:=Nat×Int×qd) [0,1] (fun d=>[(6,.own 0),(7,.val qh d.1),(8,.val qf d.2.1)]) (fun d=>[.inr (.row 119 qh d.2.2)]) h rfl xAb ?_;rintro⟨I,i_12,N⟩ A4 T4 hA4 hE4 h;simp only[go_sem];replace h:sat (iS F a_0 Y I i_12 N) _:=h;unfold iS at h;refine jT hV [0,1,6,7,8,16] (yaA ?_);refine aL0 h (fun hc h=>?_) fun hc h=>?_
  ·refine aIG hV [0,1,6,7,8] (yaA ?_);refine aD h fun g0 h=>(yaB ?_);refine aD h fun g0 h=>(yaB ?_);refine aD h fun g0 h=>(yaB ?_);refine jT hV [0,1,6,7,8] (yaA ?_);refine aD h fun g0 h=>(yaB ?_);replace h:=hA4 _ (aC h);exact zaG
  ·replace h:=yaF (hE4 _ (aC h));exact aR (I,N) h rfl xAb
 ·rintro⟨J,U⟩ h;simp only[go_sem];replace h:sat (mR F J U) _:=h;unfold mR at h;refine aIG hV [4,5] (yaA ?_);exact aQ hV [.tmp 4,.tmp 5] rfl rfl rfl (aC h) xAd
theorem aM4:FOK Tryz.prog GL 98 vF:=dN (aM3 none) (fun⟨I,x1,u⟩ ⟨w0,w1,J⟩ hp=>aKi I w0 x1 w1 hp)
end
end Nu
end Go.Proofs

