import Derived.Test.YtlijgfkkmamanaaGreatDoorZL6
import Derived.Test.YtlijgfkkmamanaaGreatDoorProg
import Derived.KernelRfl
import Derived.Laws.Externs
import Derived.Test.YtlijgfkkmamanaaGreatDoorZL5
import Derived.Lib.TrailingZeros
set_option linter.unusedVariables false
set_option linter.unusedSimpArgs false
namespace Go.Proofs
open Go.Vc
set_option maxRecDepth 20000
namespace Nu
noncomputable section
theorem xP{p:Prop}(h:p:=by kernel_rfl):p:=h
theorem xAa{p:Prop}(h:p:=by decide):p:=h
theorem xAb{p:Prop}(h:p:=by simp only[go_sem]):p:=h
theorem xAc{p:Prop}(h:p:=by simp only[aS,go_sem]):p:=h
theorem xAd{p:Prop}(h:p:=by simp only[go_sem,bJ F,bK F,bL F]):p:=h
theorem xAe{p:Prop}(h:p:=by simp only[aS,go_sem,bJ F,bK F,bL F]):p:=h
theorem xAf{p:Prop}(h:p:=by simp):p:=h
abbrev qd:=List Nat
@[go_sem]abbrev qg:Ty:=.i .i64
@[go_sem]abbrev qi:Mk:=.pair .no (.pair (.sl 74 .no) (.pair (.sl 91 .no) (.pair (.sl 9 .no) (.pair (.sl 76 .no) .no))))
@[go_sem]abbrev qm:Ty:=.pair qg .unit
abbrev qn:=qd×(qd×Unit)
abbrev qo:=Int×(Int×(qd×Unit))
abbrev qp:=Int×Unit
@[go_sem]abbrev qu:Ty:=.pair .str (.pair .expr .unit)
@[go_sem]abbrev qw:Ty:=.u .u64
abbrev qx:=Bool×(qd×qp)
abbrev qy:=qd×(qd×qn)
abbrev q8:=List qd
abbrev q9:=qd×(Ex×Unit)
abbrev wV:=qd×(qn×(Ex×Unit))
abbrev wc:=(Int×qp)×Unit
abbrev we:=qd×(qn×Unit)
@[go_sem]abbrev wi:Ty:=.sl qw
abbrev wj:=List qy
@[go_sem]abbrev wm:Ty:=.u .u8
@[go_sem]abbrev wo:Ty:=.sl .str
@[go_sem]abbrev wq:Ty:=.pair .str .unit
abbrev wt:=Bool×qd
@[go_sem]abbrev wv:Ty:=.pair qw (.pair qw .unit)
abbrev ww:=Int×Int
@[go_sem]abbrev wz:Ty:=.arr 2 qg
abbrev vd:=Int×(Unit×Unit)
abbrev ve:=Bool×Unit
@[go_sem]abbrev vf:Ty:=.pair qg qm
abbrev vg:=Int×Bool×qd
abbrev vh:=List Bool
abbrev vi:=q8×Unit
@[go_sem]abbrev vj:Ty:=.pair wm .unit
@[go_sem]abbrev vl:Ty:=.pair .bool .unit
abbrev vn:=List q9
abbrev vo:=List Ex
@[go_sem]abbrev vp:Ty:=.pair (.rp wo) .unit
@[go_sem]abbrev vq:Ty:=.pair wi .unit
abbrev vr:=Nat×qd
abbrev qc:=qd×((List wV)×((List we)×(q8×(vn×Unit))))
abbrev qh:=qd×(Int×qp)
@[go_sem]abbrev qj:Ty:=.pair .str wq
@[go_sem]abbrev qk:Ty:=.pair qg (.pair qg wq)
@[go_sem]abbrev qq:Ty:=.pair .bool (.pair wi qm)
@[go_sem]abbrev qr:Ty:=.pair .str (.pair qj (.pair .expr .unit))
@[go_sem]abbrev qt:Ty:=.pair .str vf
@[go_sem]abbrev qv:Ty:=.pair .str (.pair .str qj)
@[go_sem]abbrev qz:Ty:=.pair .str (.pair qj .unit)
abbrev wd:=Ex×qh
@[go_sem]abbrev wg:Ty:=.pair vf .unit
abbrev vm:=List qc
@[go_sem]abbrev qa:Ty:=.pair .str (.pair (.sl qr) (.pair (.sl qz) (.pair wo (.pair (.sl qu) .unit))))
@[go_sem]abbrev qe:Ty:=.pair qg (.pair qg (.pair qg (.pair qg (.pair .str (.pair .str (.pair .str (.pair .str (.pair (.sl qa) (.pair (.sl qv) .unit)))))))))
abbrev qf:=Int×(Int×(Int×(Int×(qd×(qd×(qd×(qd×(vm×(wj×Unit)))))))))
@[go_sem]theorem gam_in{a b:FuncId}{s:aF}{l:List (FuncId×aF)}:gam ((a,s)::l) b=if a=b then some s else gam l b:=rfl
structure Hq(p:Prop):Prop where
 a:p
theorem yaA {p q:Prop} (a:q) (h:Hq q→p:=by
 intro hq;simp only[go_sem];exact hq.a):p:=h ⟨a⟩
theorem yaB {p q:Prop} (a:q) (h:Hq q→p:=by
 intro hq;simp only[ren,cX,dT,posOf,bI,go_sem];exact hq.a):p:=h ⟨a⟩
theorem yaC {p q:Prop} (a:q) (h:Hq q→p:=by
 intro hq;repeat (refine⟨zAD,?_⟩)
 exact hq.a):p:=h ⟨a⟩
theorem yaD {p q:Prop} (a:q) (h:Hq q→p:=by
 intro hq;repeat (refine⟨zAB,?_⟩)
 exact hq.a):p:=h ⟨a⟩
theorem yaE {p q:Prop} (a:q) (h:Hq q→p:=by
 intro hq;simp only[go_sem];repeat (refine⟨zAA,?_⟩)
 exact hq.a):p:=h ⟨a⟩
theorem yaF {p q:Prop} (a:q) (h:Hq q→p:=by
 intro hq;simp only[go_sem];repeat (refine⟨zAE,?_⟩)
 exact hq.a):p:=h ⟨a⟩
theorem yaG {p q:Prop} (h:p) (t:p→q:=by
 intro h;try dsimp only at h
 exact h):q:=t h
theorem zaA {p:Prop} (h:p:=by
 simp only[hv,go_sem];obtain rfl:=aP h;refine aM (aJ 0 rfl aH) ?_;refine aM (aJ 1 rfl aH) (yaA ?_);refine bS [0,1] rfl rfl (yaB ?_);refine bC rfl rfl rfl rfl):p:=h
theorem zaB {p:Prop} (h:p:=by
 subst hi;simp only[go_sem];try (refine⟨by decide,?_⟩)
 unfold anyS;intro i hi;have hi:i=4:=by revert hi; revert i; decide
 subst hi;simp only[go_sem];try (refine⟨by decide,?_⟩)
 unfold anyS;intro i hi;have hi:i=5:=by revert hi; revert i; decide
 subst hi;simp only[go_sem];try (refine⟨by decide,?_⟩)
 (simp only[anyS,go_sem])<;>first|exact⟨rfl,rfl⟩|trivial):p:=h
theorem zaC {p:Prop} (h:p:=by
 (try simp only[aS,jQ,jN,eU,dD,AV.isAgg,go_sem])<;>first|trivial|rfl|(simp; done)):p:=h
theorem zaD {p:Prop} (h:p:=by
 exact aG hV [.tmp 4] rfl rfl rfl (aA h) xAc):p:=h
theorem zaE {p:Prop} (h:p:=by
 exact aG hV [.tmp 2] rfl rfl rfl (aA h) xAc):p:=h
theorem zaF {p:Prop} (h:p:=by
 simp only[hv,go_sem];obtain rfl:=aP h;refine aM (nH 0 rfl aH) ?_;refine aM (aJ 1 rfl aH) (yaA ?_);refine bS [0,1] rfl rfl (yaB ?_);refine bC rfl rfl rfl rfl):p:=h
theorem zaG {p:Prop} (h:p:=by
 refine dS h (fun hc h=>?_) fun hc h=>?_
 ·refine aK h fun g0 h=>?_;refine aK h fun g0 h=>?_;refine aB h fun v_28 hv h=>?_;try simp only[hv,go_sem]
  refine zT h (fun hc h=>?_) fun hc h=>?_
  ·replace h:=yaG (hE4 _ (aA h));exact aG hV [.tmp 6] rfl rfl rfl (aA h) xAc
  ·refine aK h fun g0 h=>?_;replace h:=hA4 _ (aA h);refine fU [] rfl rfl (yaA ?_);exact aT _ h rfl xAb
 ·replace h:=yaG (hE4 _ (aA h));exact aG hV [.tmp 6] rfl rfl rfl (aA h) xAc):p:=h
theorem zaH {p:Prop} (h:p:=by
 refine aM (aJ 0 rfl aH) ?_;refine bC rfl rfl rfl rfl):p:=h
theorem zaI {p:Prop} (h:p:=by
 exact aT _ h rfl xAb):p:=h
theorem zaJ {p:Prop} (h:p:=by
 try (refine⟨by decide,?_⟩)
 unfold anyS;intro i hi;have hi:i=2∨i=3:=by revert hi; revert i; decide
 rcases hi with rfl|rfl
 ·simp only[go_sem];try (refine⟨by decide,?_⟩)
  unfold anyS;intro i hi;have hi:i=3:=by revert hi; revert i; decide
  exact zaB
 ·simp only[go_sem];try (refine⟨by decide,?_⟩)
  unfold anyS;intro i hi;have hi:i=2:=by revert hi; revert i; decide
  exact zaB):p:=h
theorem zaK {p:Prop} (h:p:=by
 subst hi;simp only[go_sem];skip;unfold anyS;intro i hi;have hi:i=4:=by revert hi; revert i; decide
 subst hi;simp only[go_sem];skip
 (simp only[anyS,go_sem])<;>first|exact⟨rfl,rfl⟩|trivial):p:=h
theorem zaL {p:Prop} (h:p:=by
 simp only[hv,go_sem];obtain rfl:=aP h;refine gV (dV hF [] rfl rfl rfl rfl rfl rfl ?_);exact zaC):p:=h
theorem zaM {p:Prop} (h:p:=by
 (repeat' apply And.intro)<;>first|trivial|rfl|with_reducible assumption|omega|(intros; first|with_reducible assumption|omega)|(simp; done)|(simp at *; omega)):p:=h
theorem zaN {p:Prop} (h:p:=by
 simp only[hv,go_sem];obtain rfl:=aP h;refine bS [0] rfl rfl (yaB ?_);exact zaH):p:=h
theorem zaO {p:Prop} (h:p:=by
 refine dS h (fun hc h=>?_) fun hc h=>?_
 ·refine aK h fun g0 h=>?_;refine aB h fun v_27 hv h=>?_;try simp only[hv,go_sem]
  refine aH6 h (fun hc h=>?_) fun hc h=>?_
  ·replace h:=yaG (hE2 _ (aA h));exact zaD
  ·refine aK h fun g0 h=>?_;replace h:=hA2 _ (aA h);exact zaI
 ·replace h:=yaG (hE2 _ (aA h));exact zaD):p:=h
theorem zaP {p:Prop} (h:p:=by
 obtain rfl:=aP h;refine bS [] rfl rfl (yaB ?_);refine bC rfl rfl rfl rfl):p:=h
theorem zaQ {p:Prop} (h:p:=by
 refine⟨fun hc=>?_,fun hc=>?_⟩
 ·replace h:=fQ hc h;exact zaD
 ·replace h:=fR hc h;refine aK h fun g0 h=>?_;refine⟨fun hc=>?_,fun hc=>?_⟩
  ·replace h:=fQ hc h;refine aK h fun g0 h=>?_;refine aB h fun v_8 hv h=>?_;(try simp only[hv,go_sem]);exact zaD
  ·replace h:=fR hc h;refine aB h fun v_13 hv h=>?_;(try simp only[hv,go_sem]);refine aH6 h (fun hc h=>?_) fun hc h=>?_
   ·refine aB h fun v_17 hv h=>?_;(try simp only[hv,go_sem]);exact zaD
   ·exact aCA h):p:=h
theorem zaR {p:Prop} (h:p:=by
 subst hi;simp only[go_sem];repeat (refine⟨zAA,?_⟩)
 unfold anyS;intro i hi;have hi:i=3:=by revert hi; revert i; decide
 subst hi;simp only[go_sem];repeat (refine⟨zAA,?_⟩)
 (simp only[anyS,go_sem])<;>first|exact⟨rfl,rfl⟩|trivial):p:=h
theorem zaS {p:Prop} (h:p:=by
 refine aB h fun e hv h=>?_;rcases e with r_7|p_8
 ·try dsimp only at h
  simp only[hv,go_sem];refine aK h fun g0 h=>?_;refine aB h fun e hv h=>?_;rcases e with r_13|p_14
  ·(try dsimp only at h);simp only[hv,go_sem];obtain rfl:=aP h;refine dV hF [.tmp 2] rfl rfl rfl rfl rfl rfl ?_;exact zaC
  ·(try dsimp only at h);simp only[hv,go_sem];obtain rfl:=aP h;exact zaH
 ·try dsimp only at h
  simp only[hv,go_sem];obtain rfl:=aP h;exact zaH):p:=h
theorem zaT {p:Prop} (h:p:=by
 try (refine⟨by decide,?_⟩)
 unfold anyS;intro i hi;have hi:i=1∨i=3:=by revert hi; revert i; decide
 rcases hi with rfl|rfl
 ·simp only[go_sem];exact zaJ
 ·simp only[go_sem];try (refine⟨by decide,?_⟩)
  unfold anyS;intro i hi;have hi:i=1:=by revert hi; revert i; decide
  subst hi;simp only[go_sem];try (refine⟨by decide,?_⟩)
  unfold anyS;intro i hi;have hi:i=2:=by revert hi; revert i; decide
  exact zaB):p:=h
theorem zaU {p:Prop} (h:p:=by
 unfold anyS;intro i hi;have hi:i=0∨i=1:=by revert hi; revert i; decide
 rcases hi with rfl|rfl
 ·simp only[go_sem];exact zaT
 ·simp only[go_sem];try (refine⟨by decide,?_⟩)
  unfold anyS;intro i hi;have hi:i=0∨i=2:=by revert hi; revert i; decide
  rcases hi with rfl|rfl
  ·simp only[go_sem];exact zaJ
  ·simp only[go_sem];(try (refine⟨by decide,?_⟩));unfold anyS;intro i hi;have hi:i=0:=(by revert hi; revert i; decide);subst hi;simp only[go_sem];(try (refine⟨by decide,?_⟩));unfold anyS;intro i hi;have hi:i=3:=(by revert hi; revert i; decide);exact zaB):p:=h
theorem zaV {p:Prop} (h:p:=by
 obtain rfl:=Option.some.inj h;refine iX (aMy (aM (aJ 0 rfl aH) ?_));refine aM (aJ 1 rfl aH) ?_;refine aM (aJ 2 rfl aH) (yaA ?_);refine aFs (fn:=Tryz.f7) (k:=3) (l2:=[0,1,2]) hF rfl rfl xAa rfl (xC xP) ⟨fG (((0:Int),(0:Int),()),()),[0,1,2],()⟩ (aAP (((0:Int),(0:Int),()),())) rfl [.cell 2 27,.cell 3 29,.cell 4 3] rfl ?_ ?_
 ·(simp only[fG,go_sem])<;>first|decide|trivial
 ·(simp only[fG,aS,mA,go_sem])<;>first|decide|trivial|rfl|(simp; done)):p:=h
theorem zaW {p:Prop} (h:p:=by
 refine aL (aQ hF [0,2] (yaA ?_));refine aN (aL (aL (aX2 hF rfl rfl rfl fun b hb=>?_)));refine aN (cS rfl (fun hc=>?_) (fun hc=>?_))
 ·have hs:=hb hc;refine aL (aQ hF [2] (yaA ?_));refine aN (gU (eD (nG hF [.tmp 2] rfl rfl rfl ?_)));simp only[mA,aS,go_sem,hs];try trivial
 ·refine eC (aN (aL (dH hF [2] (yaA ?_))));refine⟨by omega,?_⟩;refine aN (gU (nG hF [.tmp 2] rfl rfl rfl ?_));simp only[mA,aS,go_sem];try trivial):p:=h
theorem zaX {p:Prop} (h:p:=by
 refine dS h (fun hc h=>?_) fun hc h=>?_
 ·refine aD h fun g0 h=>?_;refine aD h fun g1 h=>(yaD ?_);refine⟨fun hc=>?_,fun hc=>?_⟩
  ·replace h:=fQ zAC h;replace h:=yaG (hE4 _ (aA h));exact zaD
  ·replace h:=fR zAC h;refine aD h fun g0 h=>?_;(try simp only[I64,I32] at g0);(repeat (refine⟨zAB,?_⟩));replace h:=hA4 _ (aA h);exact zaI
 ·replace h:=yaG (hE4 _ (aA h));exact zaD):p:=h
theorem zaY {p:Prop} (h:p:=by
 refine gV (dV hF [] rfl rfl rfl rfl rfl rfl ?_);simp only[aS,jQ,jN,go_sem];try decide):p:=h
theorem zaZ {p:Prop} (h:p:=by
 refine dV hF [] rfl rfl rfl rfl rfl rfl ?_;exact zaC):p:=h
theorem zaa {p:Prop} (h:p:=by
 simp only[go_sem]
 (repeat' apply And.intro)<;>try (first|trivial|rfl|with_reducible assumption|omega|(intros; first|with_reducible assumption|omega)|(simp; done)|(simp at *; omega))
 first|replace h:=lO h hq|replace h:=lO (Θ:=(· = r)) h hq
 try simp only[go_sem]
 replace h:=yaG (hE2 _ (aA h));obtain rfl:=aP h;refine bS [0] rfl rfl (yaB ?_);refine aM (aJ 0 rfl aH) ?_;refine bC rfl rfl rfl rfl):p:=h
theorem zab {p:Prop} (h:p:=by
 simp only[hv,go_sem];repeat (refine⟨zAB,?_⟩)
 obtain rfl:=aP h;exact zaH):p:=h
theorem zac {p:Prop} (h:p:=by
 skip;unfold anyS;intro i hi;have hi:i=2∨i=3:=by revert hi; revert i; decide
 rcases hi with rfl|rfl
 ·simp only[go_sem];skip;unfold anyS;intro i hi;have hi:i=3:=by revert hi; revert i; decide
  exact zaK
 ·simp only[go_sem];skip;unfold anyS;intro i hi;have hi:i=2:=by revert hi; revert i; decide
  exact zaK):p:=h
theorem zad {p:Prop} (h:p:=by
 simp only[hv,go_sem];obtain rfl:=aP h;refine lN hF [.cell 2 40] [0] rfl rfl rfl rfl rfl rfl rfl rfl rfl ?_;exact zaC):p:=h
theorem zae {p:Prop} (h:p:=by
 refine aM (aJ 1 rfl aH) (yaA ?_);refine bS [0,1] rfl rfl (yaB ?_);refine bC rfl rfl rfl rfl):p:=h
theorem zaf {p:Prop} (h:p:=by
 refine aH6 h (fun hc h=>?_) fun hc h=>?_
 ·exact aG hV [.tmp 2] rfl rfl rfl (aA h) xAc
 ·exact aG hV [.tmp 2] rfl rfl rfl (aA h) xAc):p:=h
theorem zag {p:Prop} (h:p:=by
 refine⟨hq,?_⟩;refine iX ?_;refine aFs (fn:=Tryz.f154) (k:=2) (l2:=[0,1]) hF' rfl rfl xAa rfl (xC xP) ⟨sH q,[0,1],((false,([]:List Nat),(0:Int),()),0)⟩ (aLr q) rfl [.cell 2 119,.cell 3 3] rfl ?_ ?_
 ·(simp only[sH,go_sem])<;>first|decide|trivial
 ·(simp only[sH,aS,mA,go_sem])<;>first|decide|trivial):p:=h
theorem zah {p:Prop} (h:p:=by
 try simp only[hv,go_sem]
 refine aK h fun g0 h=>?_;exact zaE):p:=h
theorem zai {p:Prop} (h:p:=by
 have h:=oD zAC h;refine aL (aQ hF [2] (yaA ?_));obtain rfl:=Option.some.inj h;refine aN (gU (rL (eD (nG hF [.tmp 2] rfl rfl rfl ?_))));exact zAJ):p:=h
theorem zaj {p:Prop} (h:p:=by
 refine⟨hq,?_⟩;refine aN (gU ?_);refine aUb (fn:=Tryz.f154) (k:=2) (l2:=[0,1]) hF' rfl rfl xAa rfl (xC xP) ⟨sG,[0,1],(q,0)⟩ aLq rfl [.cell 2 119,.cell 3 3] rfl ?_ ?_
 ·(simp only[sG,go_sem])<;>first|decide|trivial
 ·(simp only[sG,aS,mA,go_sem])<;>first|decide|trivial):p:=h
theorem zak {p:Prop} (h:p:=by
 exact aT _ h rfl xAd):p:=h
theorem zal {p:Prop} (h:p:=by
 simp only[hv,go_sem];repeat (refine⟨zAB,?_⟩)
 obtain rfl:=aP h;refine dV hF [.tmp 2,.tmp 3] rfl rfl rfl rfl rfl rfl ?_;exact zaC):p:=h
theorem zam {p:Prop} (h:p:=by
 exact aG hV [.tmp 2,.tmp 3,.tmp 4] rfl rfl rfl (aA h) xAc):p:=h
theorem zan {p:Prop} (h:p:=by
 refine aB h fun v_5 hv h=>?_;try simp only[hv,go_sem]
 exact zaE):p:=h
theorem zao {p:Prop} (h:p:=by
 try simp only[hv,go_sem]
 exact zaD):p:=h
theorem zap {p:Prop} (h:p:=by
 simp only[hv,go_sem];obtain rfl:=aP h;exact zaH):p:=h
theorem zaq {p:Prop} (h:p:=by
 exact aT _ h rfl (by (try simp only[wT,eU,true_or,and_self,go_sem])<;>(repeat' apply And.intro)<;>first|rfl|(left; rfl)|(right; rfl)|(left; simp only[go_sem]; done)|(right; simp only[go_sem]; done)|(simp; done)|(simp only[*]; done)|omega)):p:=h
theorem zar {p:Prop} (h:p:=by
 obtain rfl:=aP h;refine dV hF [.tmp 2] rfl rfl rfl rfl rfl rfl ?_;exact zaC):p:=h
theorem zas {p:Prop} (h:p:=by
 refine gV (dV hF [] rfl rfl rfl rfl rfl rfl ?_);exact zaC):p:=h
theorem zat {p:Prop} (h:p:=by
 simp only[go_sem];refine aL (aQ hF [0,1,2,3,10] (yaA ?_));refine aN (cS rfl (fun hc=>absurd hc xAa) (fun hc=>?_));refine eC ?_;refine fU [0,1,2] rfl rfl (yaB ?_);exact zaY):p:=h
theorem zau {p:Prop} (h:p:=by
 replace h:=hA2 _ (aA h);exact zaI):p:=h
theorem zav {p:Prop} (h:p:=by
 repeat (refine⟨zAH,?_⟩)
 obtain rfl:=Option.some.inj h;refine aN (gU (eD (eD (nG hF [.tmp 4] rfl rfl rfl ?_))))
 (try simp only[mA,aS,go_sem,bJ F,bK F,bL F])<;>first|rfl|(simp; done)):p:=h
theorem zaw {p:Prop} (h:p:=by
 obtain rfl:=aP h;refine lN hF [.cell 3 119] [] rfl rfl rfl rfl rfl rfl rfl rfl rfl ?_;exact zaC):p:=h
theorem zax {p:Prop} (h:p:=by
 obtain rfl:=aP h;refine lN hF [.cell 8 40] [0] rfl rfl rfl rfl rfl rfl rfl rfl rfl ?_;exact zaC):p:=h
theorem zay {p:Prop} (h:p:=by
 simp only[hv,go_sem];exact zaP):p:=h
theorem zAA{p:Prop}(h:p:=by first|with_reducible assumption|omega|(intros; first|with_reducible assumption|omega)|(simp only[go_sem] at *; first|with_reducible assumption|omega)|(intro _; exact⟨rfl,by decide⟩)|(intro _; refine(?_:_=aI _); rfl)|(refine(?_:_=aI _); rfl)|exact⟨rfl,rfl⟩|decide):p:=h
theorem zAB{p:Prop}(h:p:=by first|with_reducible assumption|omega|(intros; first|with_reducible assumption|omega)|(intro _; exact⟨rfl,by decide⟩)|(intro _; refine(?_:_=aI _); rfl)|(refine(?_:_=aI _); rfl)|exact⟨rfl,rfl⟩|decide):p:=h
theorem zAC{p:Prop}(h:p:=by first|exact hc|omega|(simpa using hc)|(simp at hc ⊢; omega)):p:=h
theorem zAD{p:Prop}(h:p:=by first|with_reducible assumption|omega):p:=h
theorem zAE{p:Prop}(h:p:=by first|with_reducible assumption|omega|(intros; first|with_reducible assumption|omega)|(simp only[go_sem] at *; first|with_reducible assumption|omega)|(intro _; exact⟨rfl,by decide⟩)|(intro _; refine(?_:_=aI _); rfl)|(refine(?_:_=aI _); rfl)|exact⟨rfl,rfl⟩|decide|((repeat' apply And.intro)<;>first|assumption|rfl|omega)|fail):p:=h
theorem zAF{p:Prop}(h:p:=by first|with_reducible assumption|omega|(intros; first|with_reducible assumption|omega)|(intro _; exact⟨rfl,by decide⟩)|(intro _; refine(?_:_=aI _); rfl)|(refine(?_:_=aI _); rfl)|exact⟨rfl,rfl⟩|(intro q0; (try have e0:=g0 (by first|exact q0|omega|(simpa using q0))); first|assumption|omega)|decide):p:=h
theorem zAG{p:Prop}(h:p:=by first|with_reducible assumption|omega|(intros; first|with_reducible assumption|omega)|(intro _; exact⟨rfl,by decide⟩)|(intro _; refine(?_:_=aI _); rfl)|(refine(?_:_=aI _); rfl)|exact⟨rfl,rfl⟩|(intro q0; (try have e0:=g0 (by first|exact q0|omega|(simpa using q0))); (try have e1:=g1 (by first|exact q0|omega|(simpa using q0))); first|assumption|omega)|decide):p:=h
theorem zAH{p:Prop}(h:p:=by first|with_reducible assumption|omega|(intros; first|with_reducible assumption|omega)|(simp only[go_sem,bJ F,bK F,bL F] at *; first|with_reducible assumption|omega)|(intro _; exact⟨rfl,by decide⟩)|(intro _; refine(?_:_=aI _); rfl)|(refine(?_:_=aI _); rfl)|exact⟨rfl,rfl⟩|decide):p:=h
theorem zAI{p:Prop}(h:p:=by (try simp only[wT,eU,true_or,and_self,go_sem])<;>(repeat' apply And.intro)<;>first|rfl|(left; rfl)|(right; rfl)|(left; simp only[go_sem]; done)|(right; simp only[go_sem]; done)|(simp; done)|(simp only[*]; done)|omega):p:=h
theorem zAJ{p:Prop}(h:p:=by (try simp only[mA,aS,go_sem])<;>first|rfl|(simp; done)):p:=h
def bCO:List Nat:=[0,1,56,2,57,49,28,3,61,58,42,50,38,29,17,4,62,47,59,36,45,43,51,22,53,39,33,30,24,18,12,5,63,55,48,27,60,41,37,16,46,35,44,21,52,32,23,11,54,26,40,15,34,20,31,10,25,14,19,9,13,8,7,6]
theorem bJX:bCO= [0,1,56,2,57,49,28,3,61,58,42,50,38,29,17,4,62,47,59,36,45,43,51,22,53,39,33,30,24,18,12,5,63,55,48,27,60,41,37,16,46,35,44,21,52,32,23,11,54,26,40,15,34,20,31,10,25,14,19,9,13,8,7,6]:=rfl
def p10:List Nat:=[1,10,100,1000,10000,100000,1000000,10000000,100000000,1000000000,10000000000,100000000000,1000000000000,10000000000000,100000000000000,1000000000000000,10000000000000000,100000000000000000,1000000000000000000,10000000000000000000]
theorem bHr:p10= [1,10,100,1000,10000,100000,1000000,10000000,100000000,1000000000,10000000000,100000000000,1000000000000,10000000000000,100000000000000,1000000000000000,10000000000000000,100000000000000000,1000000000000000000,10000000000000000000]:=rfl
class Mx where
 v:Int
def GL[Mx]:Nat→AV
 | 8=>.roa (.arr 64 wm) bCO
 | 1=>.roa (.arr 20 qw) p10
 | 0=>.roa qg Mx.v
 | _=>.junk
theorem GL0[Mx]:GL 8= .roa (.arr 64 wm) bCO:=rfl
theorem GL3[Mx]:GL 1= .roa (.arr 20 qw) p10:=rfl
theorem GLm[Mx]:GL 0= .roa qg Mx.v:=rfl
attribute [go_sem] GLm GL0 GL3 mSpec
def tab:List (TypeId×Ty):=[(207,.clo 160 .unit),(2,.i .i64),(3,.i .i64),(4,.bool),(5,.u .u8),(9,.str),(21,.i .i32),(22,.sl .str),(24,.sl qa),(25,.sl qv),(27,.pair qg (.pair qg (.pair qg (.pair qg (.pair .str (.pair .str (.pair .str (.pair .str (.pair (.sl qa) (.pair (.sl qv) .unit)))))))))),(29,.pair qg qm),(38,.sl .expr),(40,.expr),(45,.pair vf .unit),(53,.pair qg (.pair qg wq)),(59,.sl qr),(60,.sl qz),(61,.sl qu),(63,.pair .str (.pair (.sl qr) (.pair (.sl qz) (.pair wo (.pair (.sl qu) .unit))))),(69,.pair .str (.pair .str qj)),(72,.pair .str wq),(74,.pair .str (.pair qj (.pair .expr .unit))),(76,.pair .str (.pair .expr .unit)),(78,.nilp),(79,.sl wm),(81,.pair .nilp (.pair (.sl wm) .unit)),(83,.nili),(91,.pair .str (.pair qj .unit)),(93,.pair qg .unit),(97,.pair .str vf),(102,.arr 256 (.bool)),(116,.sl qq),(117,.sl qw),(119,.pair .bool (.pair wi qm)),(148,.arr 2 qg),(165,.u .u64),(170,.sl wo),(179,.u .u64),(187,.nilf),(216,.arr 24 wm),(220,.u .u32),(224,.i .i64),(231,.pair qg .unit),(235,.arr 20 qw),(236,.arr 65 wm),(239,.arr 256 wm),(241,.pair wm vj),(242,.arr 16 (.pair wm vj)),(254,.pair .str .unit),(255,.arr 64 wm),(256,.arr 32 wm)]
def elT:TypeId→TypeId
 | 22=>9
 | 24=>63
 | 25=>69
 | 38=>40
 | 59=>74
 | 60=>91
 | 61=>76
 | 79=>5
 | 116=>119
 | 117=>165
 | 170=>22
 | _=>0
def mpT:TypeId→Option (TypeId×TypeId)
 | 110=>some (9,3)
 | 133=>some (9,4)
 | _=>none
theorem aX6:lZ Tryz.prog (aMW tab):=bFY xP
theorem bLL:∀t f,aMW tab t=some (.sl f)→Tryz.prog.underlying t=some (.slice (elT t)):=bJm xP
theorem bLM:∀t k e,mpT t=some (k,e)→Tryz.prog.underlying t=some (.map k e):=by
 intro t k e h;unfold mpT at h;split at h
 ·cases h; rfl
 ·cases h; rfl
 ·cases h
def TM:Tab:=aMW tab
def EM[Mx](l:List (FuncId×aF)):Env:=⟨TM,GL,fun f _=>gam l f,elT,mpT,fun _=>none,fun _=>false,false⟩
def dmT:TypeId→Option Mk
 | 22=>some .no
 | 24=>some qi
 | 25=>some .no
 | 59=>some .no
 | 60=>some .no
 | 61=>some .no
 | _=>none
def dzT:TypeId→Bool
 | 27=>true
 | 63=>true
 | _=>false
def EX[Mx](l:List (FuncId×aF)):Env:=⟨TM,GL,fun f _=>gam l f,elT,mpT,dmT,dzT,false⟩
theorem bNb[Mx](l:List (FuncId×aF))(t:TypeId):(EM l).T t=TM t:=rfl
theorem bNc[Mx](l:List (FuncId×aF))(t:Nat):(EM l).G t=GL t:=rfl
theorem bNd[Mx](l:List (FuncId×aF))(f:FuncId)(vs:List AV):(EM l).Γ f vs=gam l f:=rfl
theorem bMB[Mx](l:List (FuncId×aF))(t:TypeId):(EM l).el t=elT t:=rfl
theorem bMC[Mx](l:List (FuncId×aF))(t:TypeId):(EM l).mp t=mpT t:=rfl
theorem aZ[Mx]{l:List (FuncId×aF)}(h:bF Tryz.prog GL l):iF Tryz.prog (EM l):=aUW aX6 bLL bLM h
theorem mix:Tryz.prog.follows .mixedOrders=true:=by kernel_rfl
theorem bMD[Mx](l:List (FuncId×aF))(t:TypeId):(EM l).dm t=none:=rfl
theorem bME[Mx](l:List (FuncId×aF))(t:TypeId):(EM l).dz t=false:=rfl
theorem bNe[Mx](l:List (FuncId×aF))(t:TypeId):(EX l).T t=TM t:=rfl
theorem bNf[Mx](l:List (FuncId×aF))(t:Nat):(EX l).G t=GL t:=rfl
theorem bNg[Mx](l:List (FuncId×aF))(f:FuncId)(vs:List AV):(EX l).Γ f vs=gam l f:=rfl
theorem bMF[Mx](l:List (FuncId×aF))(t:TypeId):(EX l).el t=elT t:=rfl
theorem bMG[Mx](l:List (FuncId×aF))(t:TypeId):(EX l).mp t=mpT t:=rfl
theorem bMH[Mx](l:List (FuncId×aF))(t:TypeId):(EX l).dm t=dmT t:=rfl
theorem bNh[Mx](l:List (FuncId×aF)):(EM l).w=false:=rfl
theorem bNi[Mx](l:List (FuncId×aF)):(EX l).w=false:=rfl
theorem bMI[Mx](l:List (FuncId×aF))(t:TypeId):(EX l).dz t=dzT t:=rfl
theorem bA8[Mx]{l:List (FuncId×aF)}(h:bF Tryz.prog GL l):iF Tryz.prog (EX l):=aUW aX6 bLL bLM h
attribute [go_sem] bNh bNi bMD bME bNe bNf bNg bMF bMG bMH bMI dmT dzT
def EW[Mx](l:List (FuncId×aF)):Env:=⟨TM,GL,fun f _=>gam l f,elT,mpT,fun _=>none,fun _=>false,true⟩
theorem bNj[Mx](l:List (FuncId×aF))(t:TypeId):(EW l).T t=TM t:=rfl
theorem bNk[Mx](l:List (FuncId×aF))(t:Nat):(EW l).G t=GL t:=rfl
theorem bNl[Mx](l:List (FuncId×aF))(f:FuncId)(vs:List AV):(EW l).Γ f vs=gam l f:=rfl
theorem bMJ[Mx](l:List (FuncId×aF))(t:TypeId):(EW l).el t=elT t:=rfl
theorem bMK[Mx](l:List (FuncId×aF))(t:TypeId):(EW l).mp t=mpT t:=rfl
theorem bML[Mx](l:List (FuncId×aF))(t:TypeId):(EW l).dm t=none:=rfl
theorem bMM[Mx](l:List (FuncId×aF))(t:TypeId):(EW l).dz t=false:=rfl
theorem bNm[Mx](l:List (FuncId×aF)):(EW l).w=true:=rfl
theorem bMN[Mx]{l:List (FuncId×aF)}(h:bF Tryz.prog GL l):iF Tryz.prog (EW l):=aUW aX6 bLL bLM h
attribute [go_sem] bNj bNk bNl bMJ bMK bML bMM bNm
theorem T2:TM 2=some qg:=rfl
theorem T3:TM 3=some qg:=rfl
theorem T4:TM 4=some (.bool):=rfl
theorem T5:TM 5=some wm:=rfl
theorem T9:TM 9=some (.str):=rfl
theorem T21:TM 21=some (.i .i32):=rfl
theorem T22:TM 22=some wo:=rfl
theorem T24:TM 24=some (.sl qa):=rfl
theorem T25:TM 25=some (.sl qv):=rfl
theorem T27:TM 27=some qe:=rfl
theorem T29:TM 29=some vf:=rfl
theorem T38:TM 38=some (.sl .expr):=rfl
theorem T40:TM 40=some (.expr):=rfl
theorem T45:TM 45=some wg:=rfl
theorem T53:TM 53=some qk:=rfl
theorem T59:TM 59=some (.sl qr):=rfl
theorem T60:TM 60=some (.sl qz):=rfl
theorem T61:TM 61=some (.sl qu):=rfl
theorem T63:TM 63=some qa:=rfl
theorem T69:TM 69=some qv:=rfl
theorem T72:TM 72=some qj:=rfl
theorem T74:TM 74=some qr:=rfl
theorem T76:TM 76=some qu:=rfl
theorem T78:TM 78=some (.nilp):=rfl
theorem T79:TM 79=some (.sl wm):=rfl
theorem T81:TM 81=some (.pair .nilp (.pair (.sl wm) .unit)):=rfl
theorem T83:TM 83=some (.nili):=rfl
theorem T91:TM 91=some qz:=rfl
theorem T93:TM 93=some qm:=rfl
theorem T97:TM 97=some qt:=rfl
theorem bNn:TM 102=some (.arr 256 (.bool)):=rfl
theorem bNo:TM 116=some (.sl qq):=rfl
theorem bNp:TM 117=some wi:=rfl
theorem bNq:TM 119=some qq:=rfl
theorem bNr:TM 148=some wz:=rfl
theorem bNs:TM 165=some qw:=rfl
theorem bNt:TM 170=some (.sl wo):=rfl
theorem bNu:TM 179=some qw:=rfl
theorem bNv:TM 187=some (.nilf):=rfl
theorem bNw:TM 216=some (.arr 24 wm):=rfl
theorem bNx:TM 220=some (.u .u32):=rfl
theorem bNy:TM 224=some qg:=rfl
theorem bNz:TM 231=some qm:=rfl
theorem bNA:TM 235=some (.arr 20 qw):=rfl
theorem bNB:TM 236=some (.arr 65 wm):=rfl
theorem bNC:TM 239=some (.arr 256 wm):=rfl
theorem bND:TM 241=some (.pair wm vj):=rfl
theorem bNE:TM 242=some (.arr 16 (.pair wm vj)):=rfl
theorem bNF:TM 254=some wq:=rfl
theorem bNG:TM 255=some (.arr 64 wm):=rfl
theorem bNH:TM 256=some (.arr 32 wm):=rfl
theorem bNI:TM 207=some (.clo 160 .unit):=rfl
attribute [go_sem] bNb bNc bNd bMB bMC elT mpT bNI T2 T3 T4 T5 T9 T21 T22 T24 T25 T27 T29 T38 T40 T45 T53 T59 T60 T61 T63 T69 T72 T74 T76 T78 T79 T81 T83 T91 T93 T97 bNn bNo bNp bNq bNr bNs bNt bNu bNv bNw bNx bNy bNz bNA bNB bNC bND bNE bNF bNG bNH
def uG(x y c:Nat):Nat×Nat×Unit:=((x+y+c)%18446744073709551616,(x+y+c)/18446744073709551616,())
def aI8(x y c:Nat):Nat×Nat×Unit:=((x+18446744073709551616-y-c)%18446744073709551616,(if x<y+c then 1 else 0),())
abbrev aGh(x y c:Nat):Prop:=c≤1
@[go_sem]def aO7:Ty:=.pair qw wv
@[go_sem]def sE:aF:=⟨aO7,.tup wv,fun x=>aGh x.1 x.2.1 x.2.2.1,fun x=>uG x.1 x.2.1 x.2.2.1⟩
@[go_sem]def aO8:Ty:=.pair qw wv
@[go_sem]def aDS:aF:=⟨aO8,.tup wv,fun x=>aGh x.1 x.2.1 x.2.2.1,fun x=>aI8 x.1 x.2.1 x.2.2.1⟩
theorem aY3{w:World}{S:Nat→Prop}{x:Nat}{v:Value}(h:dU w S qw x v):v= .int .u64 (x:Int):=by
 unfold dU at h;rw[if_neg (by simp[Ty.isAgg])] at h;simp only[bB,List.cons.injEq,and_true] at h;exact h.1
theorem aVg{w:World}{S:Nat→Prop}{vs:List Value}{x:Nat×Nat×Nat×Unit}(h:sD w S (.pair qw wv) x vs):vs= [.int .u64 (x.1:Int),.int .u64 (x.2.1:Int),.int .u64 (x.2.2.1:Int)]:=by
 obtain⟨v1,r1,rfl,I,J,L,rfl,q,N,z,rfl,g,f⟩:=h;rw[aY3 I,aY3 q,aY3 g];have f:z= []:=f;rw[f]
theorem bHs{w:World}{S:Nat→Prop}{x:Nat}(h:x<18446744073709551616):dU w S qw x (.int .u64 (x:Int)):=by
 unfold dU;rw[if_neg (by simp[Ty.isAgg])];refine⟨rfl,rfl,?_⟩;simp[IntKind.max,IntKind.signed,IntKind.bits]; omega
theorem bA9{w:World}{S:Nat→Prop}{x y:Nat}(f:x<18446744073709551616)(hy:y<18446744073709551616):sD w S wv (x,y,()) [.int .u64 (x:Int),.int .u64 (y:Int)] :=
 ⟨_,_,rfl,bHs f,_,_,rfl,bHs hy,rfl⟩
theorem wf_u64{x:Nat}(h:(Ty.u .u64).wf x):x<18446744073709551616:=by
 simp only[Ty.wf,IntKind.max,IntKind.signed,IntKind.bits] at h;simp at h; omega
def aVh:Array Value→Sem Value:=fun args=>do
 let (x,y,b) ← Extern.MathBitsCarry.three "Sub64" args
 pure (Extern.MathBitsCarry.pair ((x+Extern.MathBitsCarry.m64-y-b)%Extern.MathBitsCarry.m64) (if x<y+b then 1 else 0))
theorem bFv{P:Program}(x y b:Nat)(hb:b≤1)(w:World) :
  (aVh #[.int .u64 x,.int .u64 y,.int .u64 b]).run P w =
   .ok (.tuple #[.int .u64 (((x+18446744073709551616-y-b)%18446744073709551616:Nat):Int),.int .u64 ((if x<y+b then 1 else 0:Nat):Int)]) w:=by
 have:b=0∨b=1:=by omega
 rcases this with rfl|rfl<;>rfl
theorem aHx[Mx]:NOK Tryz.prog GL 151 sE:=by
 refine bGz fun w S J x f hp=>?_;have hp:x.2.2.1≤1:=hp;have z:=aIY _ _ _ f;obtain⟨q,g,I,_⟩:=z;have q:=wf_u64 q;have g:=wf_u64 g;rw[aVg f];refine⟨[.int .u64 (((x.1+x.2.1+x.2.2.1)%18446744073709551616:Nat):Int),.int .u64 (((x.1+x.2.1+x.2.2.1)/18446744073709551616:Nat):Int)],?_,bA9 (by omega) (by omega)⟩;rw[run_callFunc_extern Tryz.func151 xP xP xP (e:=add64Entry) xP,run_add64 x.1 x.2.1 x.2.2.1 (by omega) (by omega) (by omega) (by omega)];simp only[Result.andThen]
 congr 5<;>omega
theorem aWO[Mx]:NOK Tryz.prog GL 188 aDS:=by
 refine bGz fun w S J x f hp=>?_;have hp:x.2.2.1≤1:=hp;have z:=aIY _ _ _ f;obtain⟨q,g,I,_⟩:=z;have q:=wf_u64 q;have g:=wf_u64 g;rw[aVg f];refine⟨[.int .u64 (((x.1+18446744073709551616-x.2.1-x.2.2.1)%18446744073709551616:Nat):Int),.int .u64 ((if x.1<x.2.1+x.2.2.1 then 1 else 0:Nat):Int)],?_,bA9 (by omega) (by split<;>omega)⟩;rw[run_callFunc_extern Tryz.func188 xP xP xP (e:=aVh) xP,bFv x.1 x.2.1 x.2.2.1 hp];rfl
abbrev bFw(s:List Nat):Prop:=s.length*8≤140737488355328
@[go_sem]def yT:Ty:=.pair wi .unit
@[go_sem]def dW:aF:=⟨yT,.own 165 qw,fun x=>bFw x.1,fun x=>id x.1⟩
abbrev aDf(F:Md):List (FuncId×aF):=[]
theorem aDg[Mx](F:Md):bF Tryz.prog GL (aDf F):=.nil
theorem rM[Mx]:FOK Tryz.prog GL 142 dW:=by
 refine bCB (aZ (aDg none)) Tryz.func142 rfl xP xAa fun w0 S x f hp=>?_;have hF:uP (fr Tryz.prog (EM (aDf none)) S w0 Tryz.f142.ntmps):=⟨aZ (aDg none),mix⟩;obtain⟨(s:qd),u⟩:=x;have hp:s.length*8≤140737488355328:=hp;simp only[cA,yT,dW];exact zaW
def nv:List Nat→Nat
 | []=>0
 | x::r=>x+18446744073709551616*nv r
def lbF:Nat→Nat→List Nat
 | 0,_=>[]
 | k+1,n=>if n=0 then [] else n%18446744073709551616::lbF k (n/18446744073709551616)
def lb(n:Nat):List Nat:=lbF n n
theorem bHt:∀(k m n:Nat),n≤k→n≤m→lbF k n=lbF m n
 | 0,m,n,g,f=>by
  obtain rfl:n=0:=by omega
  cases m<;>rfl
 | k+1,0,n,g,f=>by
  obtain rfl:n=0:=by omega
  rfl
 | k+1,m+1,n,g,f=>by
  rw[lbF,lbF];by_cases h:n=0
  ·simp_all
  ·rw[if_neg h,if_neg h];have hd:n/18446744073709551616<n:=Nat.div_lt_self (by omega) xAa;rw[bHt k m (n/18446744073709551616) (by omega) (by omega)]
def Lm(a:List Nat):Prop:=∀x∈a,x<18446744073709551616
def Nrm(a:List Nat):Prop:=a.getLastD 1≠0
instance (a:List Nat):Decidable (Nrm a):=inferInstanceAs (Decidable (_≠_))
theorem aY4:nv []=0:=rfl
theorem vT(x:Nat)(r:List Nat):nv (x::r)=x+18446744073709551616*nv r:=rfl
theorem aDT:lb 0= []:=rfl
theorem aQ1{n:Nat}(h:n≠0):lb n=n%18446744073709551616::lb (n/18446744073709551616):=by
 obtain⟨k,rfl⟩:∃k,n=k+1:=⟨n-1,by omega⟩;have hd:(k+1)/18446744073709551616<k+1:=Nat.div_lt_self (by omega) xAa;rw[lb,lbF,if_neg h,lb,bHt k ((k+1)/18446744073709551616) ((k+1)/18446744073709551616) (by omega) (Nat.le_refl _)]
theorem aCC(n:Nat):nv (lb n)=n:=by
 induction n using Nat.strongRecOn with
 | _ n f =>
  by_cases h:n=0
  ·subst h; rfl
  grind[aQ1,vT,Nat.div_lt_self,Nat.mod_add_div]
theorem aMZ(n:Nat):Lm (lb n):=by
 induction n using Nat.strongRecOn with
 | _ n g =>
  by_cases h:n=0
  ·subst h; rw[aDT]; intro x f; cases f
  ·rw[aQ1 h];intro x f;rcases List.mem_cons.1 f with rfl|f
   ·omega
   ·exact g (n/18446744073709551616) (Nat.div_lt_self (by omega) xAa) x f
theorem bCP{n:Nat}:lb n= []↔n=0:=by
 constructor
 ·grind[Nat.eq_zero_or_pos,aQ1]
 ·rintro rfl; rfl
theorem bEm:Nrm []:=by decide
theorem bHu{x:Nat}{r:List Nat}(h:Nrm r)(f:r= []→x≠0):Nrm (x::r):=by
 grind[Nrm]
theorem aHy(n:Nat):Nrm (lb n):=by
 induction n using Nat.strongRecOn with
 | _ n f =>
  by_cases h:n=0
  ·grind[aDT,bEm]
  ·rw[aQ1 h];grind[bHu,Nat.div_lt_self,bCP,Nat.div_add_mod]
theorem bEn{x:Nat}{r:List Nat}(h:Lm (x::r)):x<18446744073709551616∧Lm r:=⟨h x xAf,fun y hy=>h y (by simp[hy])⟩
theorem bHv{a b:List Nat}(g:Lm a)(hb:Lm b):Lm (a++b):=fun x f=>(List.mem_append.1 f).elim (g x) (hb x)
theorem aVi{x y:Nat}{r:List Nat}(h:Nrm (x::y::r)):Nrm (y::r):=by
 grind[Nrm]
theorem aQ2{a:List Nat}(h:Nrm a)(f:a≠ []):0<nv a:=by
 induction a with
 | nil=>simp_all
 | cons x r g =>
  rw[vT];cases r with
  | nil=>grind[Nrm,aY4]
  | cons y r =>
   grind[aVi,nv,Nat.mul_le_mul_left]
theorem bK3{a:List Nat}(z:Lm a)(J:Nrm a):lb (nv a)=a:=by
 induction a with
 | nil=>rfl
 | cons x r I =>
  have L:=bEn z;have f:nv (x::r)≠0:=by grind[aQ2]
  have q:nv (x::r)%18446744073709551616=x:=by grind[vT,Nat.add_mul_mod_self_left,Nat.mod_eq_of_lt]
  have g:nv (x::r)/18446744073709551616=nv r:=by simp_all[vT,Nat.add_mul_div_left,Nat.div_eq_of_lt,Nat.zero_add]
  rw[aQ1 f,q,g];cases r with
  | nil=>rfl
  | cons y r=>grind[aVi]
theorem aQ3(a b:List Nat):nv (a++b)=nv a+18446744073709551616^a.length*nv b:=by
 induction a with
 | nil=>simp[nv]
 | cons x r f =>
  rw[List.cons_append,vT,vT,f,List.length_cons,Nat.pow_succ,Nat.mul_add];grind
theorem uF{a:List Nat}(f:Lm a):nv a<18446744073709551616^a.length:=by
 induction a with
 | nil=>simp[nv]
 | cons x r g =>
  have q:=bEn f;grind[vT,List.length_cons,Nat.pow_succ]
theorem bEo{a:List Nat}(q:Nrm a)(f:a≠ []):18446744073709551616^(a.length-1)≤nv a:=by
 induction a with
 | nil=>simp_all
 | cons x r g =>
  cases r with
  | nil=>grind[aQ2]
  | cons y r =>
   grind[aVi,vT,List.length_cons,Nat.add_sub_cancel]
theorem aEY{n k:Nat}:(lb n).length≤k↔n<18446744073709551616^k:=by
 constructor
 ·intro h;have:=uF (aMZ n);grind[aCC,Nat.lt_of_lt_of_le,Nat.pow_le_pow_right]
 ·intro h;by_cases h0:n=0
  ·simp_all[aDT,Nat.zero_le]
  ·have f:lb n≠ []:=fun e=>h0 (bCP.1 e);have:=bEo (aHy n) f;rw[aCC] at this;have g:18446744073709551616^((lb n).length-1)<18446744073709551616^k:=Nat.lt_of_le_of_lt this h;grind[Nat.pow_lt_pow_iff_right]
theorem aQ4(n:Nat):nv (List.replicate n 0)=0:=by
 induction n with
 | zero=>rfl
 | succ n f=>rw[List.replicate_succ,vT,f]
theorem aCD(a:List Nat)(k:Nat):nv a=nv (a.take k)+18446744073709551616^(min k a.length)*nv (a.drop k):=by
 grind[aQ3,List.take_append_drop,List.length_take]
theorem aG7{a:List Nat}(h:Lm a)(k:Nat):Lm (a.take k):=fun x f=>h x (List.mem_of_mem_take f)
theorem bJY{a:List Nat}(h:Lm a)(k:Nat):Lm (a.drop k):=fun x f=>h x (List.mem_of_mem_drop f)
theorem aO9{a:List Nat}(h:Lm a)(k:Nat):nv (a.drop k)=nv a/18446744073709551616^k:=by
 rcases Nat.lt_or_ge k a.length with f|f
 ·rw[aCD a k,Nat.min_eq_left (Nat.le_of_lt f),Nat.add_mul_div_left _ _ (Nat.pow_pos xAa),Nat.div_eq_of_lt,Nat.zero_add];have:=uF (aG7 h k);grind
 ·rw[List.drop_eq_nil_of_le f,aY4,Nat.div_eq_of_lt];grind[Nat.lt_of_lt_of_le,uF,Nat.pow_le_pow_right]
theorem bJZ{a:List Nat}(h:Lm a)(k:Nat):nv (a.take k)=nv a%18446744073709551616^k:=by
 rcases Nat.lt_or_ge k a.length with f|f
 ·have q:=aCD a k;rw[Nat.min_eq_left (Nat.le_of_lt f)] at q;have g:=uF (aG7 h k);rw[List.length_take,Nat.min_eq_left (Nat.le_of_lt f)] at g;rw[q,Nat.add_mul_mod_self_left,Nat.mod_eq_of_lt g]
 ·rw[List.take_of_length_le f,Nat.mod_eq_of_lt];grind[Nat.lt_of_lt_of_le,uF,Nat.pow_le_pow_right]
theorem lC{a:List Nat}(h:Lm a)(i:Nat):a.getD i 0<18446744073709551616:=by
 rw[List.getD_eq_getElem?_getD];cases e:a[i]? with
 | none=>simp_all
 | some x=>exact h x (List.mem_of_getElem? e)
theorem take_succ{a:List Nat}{k:Nat}(h:k<a.length):a.take (k+1)=a.take k++ [a.getD k 0]:=by
 simp_all
theorem aAr{a:List Nat}{k:Nat}(h:k<a.length):nv (a.take (k+1))=nv (a.take k)+18446744073709551616^k*a.getD k 0:=by
 rw[take_succ h,aQ3,List.length_take,Nat.min_eq_left (Nat.le_of_lt h)];simp[nv]
theorem aHz{a:List Nat}{k v:Nat}(h:k<a.length):nv (a.set k v)+18446744073709551616^k*a.getD k 0=nv a+18446744073709551616^k*v:=by
 induction a generalizing k with
 | nil=>simp at h
 | cons x r f =>
  cases k with
  | zero=>grind[nv]
  | succ k =>
   have:=f (k:=k) (by simp_all);simp only[List.set_cons_succ,vT,List.getD_cons_succ,Nat.pow_succ];grind
theorem aEZ{a:List Nat}(h:Lm a)(k:Nat){v:Nat}(hv:v<18446744073709551616):Lm (a.set k v):=fun x f=>by
 rcases List.mem_or_eq_of_mem_set f with f|rfl
 ·exact h x f
 omega
theorem aQ5(n:Nat):Lm (List.replicate n 0):=fun x f=>by
 simp_all
theorem aGi{a:List Nat}(h:(Ty.sl qw).wf a):Lm a:=fun x f=>by
 grind[Ty.wf,Go.IntKind.max,Go.IntKind.signed,Go.IntKind.bits]
theorem bCQ{a:List Nat}(h:(Ty.sl qw).wf a):a.length≤9223372036854775807:=h.1
theorem aNZ{x:Nat}(h:(Ty.u .u64).wf x):x<18446744073709551616:=by
 grind[Ty.wf,Go.IntKind.max,Go.IntKind.signed,Go.IntKind.bits]
theorem wf_i64{x:Int}(h:(Ty.i .i64).wf x): -9223372036854775808≤x∧x≤9223372036854775807:=by
 grind[Ty.wf,aF8]
theorem bEp:lM .u64=18446744073709551616:=by rfl
theorem aSm(a b:Nat):aIO .u64 a b=a*b%18446744073709551616:=by rw[aYx,bEp]
theorem bBa{a b:Nat}(f:a<18446744073709551616)(hb:b≤a):aKp .u64 a b=a-b:=by
 grind[aMj,bEp,Nat.add_mod_right,Nat.mod_eq_of_lt]
theorem aE{α:Type}{p:Prop}[Decidable p]{k:Option α}{r:Option α}(hp:p)(h:k=r):ck p k=r:=(bGP hp).trans h
theorem aH7{α:Type}{p:Prop}[Decidable p]{x y r:α}(g:p→x=r)(f:¬p→y=r):(if p then x else y)=r:=by
 simp_all
theorem bA{α β:Type}{x:Option α}{a:α}{k:α→Option β}{r:Option β}(f:x=some a)(h:k a=r):x.bind k=r:=by simp_all
def bl(x:Nat):Nat:=if x=0 then 0 else Nat.log2 x+1
theorem aX7{x k:Nat}(h:x<2^k):bl x≤k:=by
 unfold bl;split
 ·omega
 ·rename_i h0;exact(Nat.log2_lt h0).2 h
theorem bHw(x:Nat):x<2^bl x:=by
 grind[bl,Nat.lt_log2_self]
theorem bHx{x k:Nat}(h:2^k≤x):k<bl x:=by
 have h0:x≠0:=by grind
 unfold bl;rw[if_neg h0];have:=(Nat.le_log2 h0).2 h;omega
theorem bMO{x k:Nat}(g:2^k≤x)(f:x<2^(k+1)):bl x=k+1:=Nat.le_antisymm (aX7 f) (bHx g)
theorem bCR{x:Nat}(h:x≠0):0<bl x:=bHx (k:=0) (by omega)
theorem bCS{x:Nat}(h:x≠0):2^(bl x-1)≤x:=by
 rcases Nat.lt_or_ge x (2^(bl x-1)) with f|f
 ·have:=aX7 f; grind
 omega
theorem aPa{x k:Nat}(h:2^k≤x):bl x=k+bl (x/2^k):=by
 have q:=Nat.two_pow_pos k;have z:0<x/2^k:=Nat.div_pos h q;obtain⟨m,hm⟩:∃m,bl (x/2^k)=m+1:=⟨bl (x/2^k)-1,by
  have:=bHx (x:=x/2^k) (k:=0) z; omega⟩
 have g:=bHw (x/2^k);have f:=bCS (x:=x/2^k) (by omega);rw[hm] at g f ⊢;refine bMO (k:=k+m) ?_ ?_
 ·grind[Nat.pow_add,Nat.mul_comm,Nat.le_div_iff_mul_le]
 simp_all[Nat.add_assoc,Nat.pow_add,Nat.mul_comm,Nat.div_lt_iff_lt_mul]
def aDF:ByteArray:=⟨⟨0::1::2::2::3::3::3::3::4::4::4::4::4::4::4::4::5::5::5::5::5::5::5::5::5::5::5::5::5::5::5::5::6::6::6::6::6::6::6::6::6::6::6::6::6::6::6::6::6::6::6::6::6::6::6::6::6::6::6::6::6::6::6::6::7::7::7::7::7::7::7::7::7::7::7::7::7::7::7::7::7::7::7::7::7::7::7::7::7::7::7::7::7::7::7::7::7::7::7::7::7::7::7::7::7::7::7::7::7::7::7::7::7::7::7::7::7::7::7::7::7::7::7::7::7::7::7::7::8::8::8::8::8::8::8::8::8::8::8::8::8::8::8::8::8::8::8::8::8::8::8::8::8::8::8::8::8::8::8::8::8::8::8::8::8::8::8::8::8::8::8::8::8::8::8::8::8::8::8::8::8::8::8::8::8::8::8::8::8::8::8::8::8::8::8::8::8::8::8::8::8::8::8::8::8::8::8::8::8::8::8::8::8::8::8::8::8::8::8::8::8::8::8::8::8::8::8::8::8::8::8::8::8::8::8::8::8::8::8::8::8::8::8::8::8::8::8::8::8::8::8::8::8::8::8::8:: []⟩⟩
@[go_sem]theorem aWP:(⟨⟨0::1::2::2::3::3::3::3::4::4::4::4::4::4::4::4::5::5::5::5::5::5::5::5::5::5::5::5::5::5::5::5::6::6::6::6::6::6::6::6::6::6::6::6::6::6::6::6::6::6::6::6::6::6::6::6::6::6::6::6::6::6::6::6::7::7::7::7::7::7::7::7::7::7::7::7::7::7::7::7::7::7::7::7::7::7::7::7::7::7::7::7::7::7::7::7::7::7::7::7::7::7::7::7::7::7::7::7::7::7::7::7::7::7::7::7::7::7::7::7::7::7::7::7::7::7::7::7::8::8::8::8::8::8::8::8::8::8::8::8::8::8::8::8::8::8::8::8::8::8::8::8::8::8::8::8::8::8::8::8::8::8::8::8::8::8::8::8::8::8::8::8::8::8::8::8::8::8::8::8::8::8::8::8::8::8::8::8::8::8::8::8::8::8::8::8::8::8::8::8::8::8::8::8::8::8::8::8::8::8::8::8::8::8::8::8::8::8::8::8::8::8::8::8::8::8::8::8::8::8::8::8::8::8::8::8::8::8::8::8::8::8::8::8::8::8::8::8::8::8::8::8::8::8::8::8:: []⟩⟩:ByteArray)=aDF:=rfl
def qU(F:Md)(f:Nat)(g:Int):Option (Int) :=
 ck (0≤(((f%256):Nat):Int)∧(((f%256):Nat):Int)<(((aR aDF).length:Nat):Int)) (ck (I64 (g+((((aR aDF).getD (f%256) (0:Nat)):Nat):Int))) (some (g+((((aR aDF).getD (f%256) (0:Nat)):Nat):Int))))
def qV(F:Md)(f:Nat)(g:Int):Option (Int) :=
 if (256:Nat)≤f then ck (I64 (g+(8:Int))) (qU F (f/(256:Nat)) (g+(8:Int))) else qU F f g
def qW(F:Md)(f:Nat)(g:Int):Option (Int) :=
 if (65536:Nat)≤f then ck (I64 (g+(16:Int))) (qV F (f/(65536:Nat)) (g+(16:Int))) else qV F f g
def aCE(F:Md)(f:Nat):Option Int :=
 if (4294967296:Nat)≤f then qW F (f/(4294967296:Nat)) (32:Int) else qW F f (0:Int)
def rN(x:Nat):Int:=(bl x:Int)
theorem bJ0:(aR aDF).length=256∧ ∀y,y<256→(aR aDF).getD y 0=bl y:=by decide +kernel
theorem bBb{x:Nat}{n:Int}(f:x<256)(h0:0≤n)(z:n≤1000):qU none x n=some (n+bl x):=by
 obtain⟨e1,g⟩:=bJ0;have q:=g x f;have I:=aX7 (show x<2^8 from f);have hm:x%256=x:=Nat.mod_eq_of_lt f;unfold qU;rw[hm,q];refine aE (by omega) (aE (by omega) rfl)
theorem bBc{x:Nat}{n:Int}(f:x<65536)(h0:0≤n)(g:n≤900):qV none x n=some (n+bl x):=by
 unfold qV;refine aH7 (fun h=>aE (by omega) ?_) (fun h=>bBb (by omega) h0 (by omega));rw[bBb (by omega) (by omega) (by omega),aPa (x:=x) (k:=8) h];grind
theorem bBd{x:Nat}{n:Int}(f:x<4294967296)(h0:0≤n)(g:n≤800):qW none x n=some (n+bl x):=by
 unfold qW;refine aH7 (fun h=>aE (by omega) ?_) (fun h=>bBc (by omega) h0 (by omega));rw[bBc (by omega) (by omega) (by omega),aPa (x:=x) (k:=16) h];grind
theorem aVj(x:Nat)(w:(Ty.u .u64).wf x):aCE none x=some (rN x):=by
 have f:=aNZ w;unfold aCE;refine aH7 (fun h=>?_) (fun h=>?_)
 ·rw[bBd (by omega) (by omega) (by omega),rN,aPa (x:=x) (k:=32) h];rfl
 grind[bBd,rN]
theorem bHy{x:Nat}(f:x<18446744073709551616):bl x≤64:=aX7 f
def oN(F:Md)(f:Nat):Option Int :=
 ck (I64 ((64:Int)-(rN f))) (some ((64:Int)-(rN f)))
def aC(x:Nat):Int:=64-(bl x:Int)
theorem aH8(x:Nat)(w:(Ty.u .u64).wf x):oN none x=some (aC x):=by
 have:=bHy (aNZ w);unfold oN rN aC;exact aE (by omega) rfl
def nI(F:Md)(f:Nat):Option Int :=
 if f=(0:Nat) then some (64:Int) else ck (0≤((((mulM F .u64 (f&&&(aMG F .u64 f)) (285870213051353865:Nat))/(288230376151711744:Nat)):Nat):Int)∧((((mulM F .u64 (f&&&(aMG F .u64 f)) (285870213051353865:Nat))/(288230376151711744:Nat)):Nat):Int)<(64:Int)) (some (((bCO.getD ((mulM F .u64 (f&&&(aMG F .u64 f)) (285870213051353865:Nat))/(288230376151711744:Nat)) (0:Nat)):Nat):Int))
def kK(x:Nat):Int:=(Lib.ctz 64 x:Int)
theorem bJ1:bCO=Lib.deBruijn64tab:=by rfl
theorem bMP{x:Nat}(f:x<18446744073709551616)(hc:¬x=0):bAj .u64 x=18446744073709551616-x:=by
 rw[aYy,bEp,Nat.zero_add];omega
theorem bLN{x:Nat}(f:x<18446744073709551616)(hc:¬x=0):aIO .u64 (x&&&bAj .u64 x) 285870213051353865/288230376151711744<64∧bCO.getD (aIO .u64 (x&&&bAj .u64 x) 285870213051353865/288230376151711744) 0=Lib.ctz 64 x:=by
 obtain⟨g,q⟩:=Lib.lowest_bit 64 x hc f;have z:(2:Nat)^64=18446744073709551616:=by decide
 rw[z] at g;rw[aSm,bMP f hc,g,bJ1];exact Lib.deBruijn64_at _ q
theorem aHA(x:Nat)(w:(Ty.u .u64).wf x):nI none x=some (kK x):=by
 unfold nI kK;try simp only[wU,mulM,aMG]
 refine aH7 (fun h=>?_) (fun h=>?_)
 ·subst h; rfl
 ·obtain⟨g,f⟩:=bLN (aNZ w) h;rw[f];exact aE ⟨Int.natCast_nonneg _,Int.ofNat_lt.2 g⟩ rfl
def aCF(F:Md)(g:Nat)(f:Nat):Option (Nat×(Nat×Unit)) :=
 some ((((((mulM F .u64 (g/(4294967296:Nat)) (f/(4294967296:Nat)))+((((mulM F .u64 (g/(4294967296:Nat)) (f&&&(4294967295:Nat)))+((mulM F .u64 (g&&&(4294967295:Nat)) (f&&&(4294967295:Nat)))/(4294967296:Nat)))%18446744073709551616)/(4294967296:Nat)))%18446744073709551616)+(((((((mulM F .u64 (g/(4294967296:Nat)) (f&&&(4294967295:Nat)))+((mulM F .u64 (g&&&(4294967295:Nat)) (f&&&(4294967295:Nat)))/(4294967296:Nat)))%18446744073709551616)&&&(4294967295:Nat))+(mulM F .u64 (g&&&(4294967295:Nat)) (f/(4294967296:Nat))))%18446744073709551616)/(4294967296:Nat)))%18446744073709551616),(mulM F .u64 g f),())
def eH(x y:Nat):Nat×Nat×Unit:=(x*y/18446744073709551616,x*y%18446744073709551616,())
theorem bLO(x:Nat):x&&&4294967295=x%4294967296:=Nat.and_two_pow_sub_one_eq_mod x 32
theorem bHz{x y:Nat}(U:x<18446744073709551616)(hy:y<18446744073709551616) :
  ((x/4294967296*(y/4294967296)%18446744073709551616+(x/4294967296*(y&&&4294967295)%18446744073709551616+(x&&&4294967295)*(y&&&4294967295)%18446744073709551616/4294967296)%18446744073709551616/4294967296)%18446744073709551616 +
     (((x/4294967296*(y&&&4294967295)%18446744073709551616+(x&&&4294967295)*(y&&&4294967295)%18446744073709551616/4294967296)%18446744073709551616&&&4294967295)+(x&&&4294967295)*(y/4294967296)%18446744073709551616)%18446744073709551616/4294967296)%18446744073709551616=x*y/18446744073709551616:=by
 simp only[bLO];have g:x/4294967296≤4294967295:=by omega
 have f:x%4294967296≤4294967295:=by omega
 have b1:y/4294967296≤4294967295:=by omega
 have q:y%4294967296≤4294967295:=by omega
 have z:=Nat.div_add_mod x 4294967296;have I:=Nat.div_add_mod y 4294967296;generalize x/4294967296=a at *;generalize x%4294967296=b at *;generalize y/4294967296=c at *;generalize y%4294967296=d at *;subst z; subst I;have e:(4294967296*a+b)*(4294967296*c+d)=a*c*18446744073709551616+(a*d+b*c)*4294967296+b*d:=by
  grind
 rw[e];have N:=Nat.mul_le_mul g b1;have O:=Nat.mul_le_mul g q;have Y:=Nat.mul_le_mul f b1;have L:=Nat.mul_le_mul f q;generalize a*c=Z at *;generalize a*d=ad at *;generalize b*c=bc at *;generalize b*d=J at *;omega
theorem aVk(x:Nat)(f:(Ty.u .u64).wf x)(y:Nat)(g:(Ty.u .u64).wf y):aCF none x y=some (eH x y):=by
 unfold aCF eH;try simp only[wU,mulM,aMG]
 simp only[aSm];grind[bHz,aNZ]
abbrev Sz(a:List Nat):Prop:=a.length≤1099511627776
abbrev pSz(a:List Nat):Prop:=Sz a
abbrev aS5(a b:List Nat):Prop:=Sz a∧Sz b
abbrev bBe(a b:List Nat):Prop:=Nrm a∧Nrm b
abbrev bEq(a:List Nat):Prop:=Nrm a∧Sz a
theorem aY5{a:List Nat}(h:0<a.length):Nrm a↔a.getD (a.length-1) 0≠0:=by
 unfold Nrm;grind
def aDU(F:Md)(f:qd):Option (qd⊕qd) :=
 ck (((0:Int)<(f.length:Int))→(I64 ((f.length:Int)-(1:Int)))) (ck (((0:Int)<(f.length:Int))→(0≤((f.length:Int)-(1:Int))∧((f.length:Int)-(1:Int))<(f.length:Int))) (if ((0:Int)<(f.length:Int))∧((f.getD ((f.length:Int)-(1:Int)).toNat (0:Nat))=(0:Nat)) then ck (I64 ((f.length:Int)-(1:Int))) (ck (0≤((f.length:Int)-(1:Int))∧((f.length:Int)-(1:Int))≤(f.length:Int)) (some (.inl (List.take ((f.length:Int)-(1:Int)).toNat f)))) else some (.inr f)))
def aGj(F:Md)(f:qd):Option qd :=
 (dE F (fun d:qd=>aDU F d) f).bind (fun e=>some e)
def fI(a:List Nat):List Nat:=lb (nv a)
theorem aY6(a:List Nat)(w:(Ty.sl qw).wf a):aGj none a=some (fI a):=by
 unfold aGj;refine bA (aCz (I:=fun d=>Lm d∧d.length≤9223372036854775807) (fun d=>d.length) (fun d=>lb (nv d)) ?_ a ⟨aGi w,bCQ w⟩) rfl;intro d ⟨g,q⟩;unfold aDU;rcases Nat.eq_zero_or_pos d.length with h0|h0
 ·right
  have e:d= []:=List.eq_nil_of_length_eq_zero h0;simp_all[aE,if_neg,aY4,aDT]
 ·have e1:(d.length:Int)-1=((d.length-1:Nat):Int):=by omega
  rw[e1,Int.toNat_natCast];by_cases f:d.getD (d.length-1) 0=0
  ·left
   refine⟨d.take (d.length-1),aE (by omega) (aE (by omega) ?_),⟨aG7 g _,by grind⟩,by grind,?_⟩
   ·rw[if_pos ⟨by omega,f⟩];exact aE (by omega) (aE (by omega) rfl)
   ·have:=aAr (a:=d) (k:=d.length-1) (by omega);rw[f,show d.length-1+1=d.length from by omega,List.take_length] at this;simp_all
  ·right
   refine aE (by omega) (aE (by omega) ?_);simp_all[if_neg,bK3,aY5]
def aH9(F:Md)(f:qd):Option Bool :=
 ck (¬((f.length:Int)=(0:Int))→((f.length:Int)≤(64:Int))→(I64 ((f.length:Int)-(1:Int)))) (ck (¬((f.length:Int)=(0:Int))→((f.length:Int)≤(64:Int))→(0≤((f.length:Int)-(1:Int))∧((f.length:Int)-(1:Int))<(f.length:Int))) (some ((decide ((f.length:Int)=(0:Int)))||((decide ((f.length:Int)≤(64:Int)))&&(!(decide ((f.getD ((f.length:Int)-(1:Int)).toNat (0:Nat))=(0:Nat))))))))
def aIa(a:List Nat):Bool:=decide (a.length≤64∧Nrm a)
theorem bBf(a:List Nat)(w:(Ty.sl qw).wf a):aH9 none a=some (aIa a):=by
 have f:=bCQ w;unfold aH9 aIa;rcases Nat.eq_zero_or_pos a.length with h0|h0
 ·have e:a= []:=List.eq_nil_of_length_eq_zero h0;subst e;rfl
 ·have e1:(a.length:Int)-1=((a.length-1:Nat):Int):=by omega
  rw[e1,Int.toNat_natCast];refine aE (by omega) (aE (by omega) ?_)
  congr 1
  rw[Bool.eq_iff_iff];have:=aY5 h0;grind
def aGk(F:Md)(f:Bool):Option Int :=
 if f=true then some (-1:Int) else some (1:Int)
def aBL(b:Bool):Int:=if b=true then -1 else 1
theorem aY7(b:Bool)(w:Ty.bool.wf b):aGk none b=some (aBL b):=by
 grind[aGk,aBL]
def zU(F:Md)(g:qd)(q:qd)(f:Int):Option ((Int)⊕((Unit)⊕Int)) :=
 if (0:Int)≤f then ck (0≤f∧f<(g.length:Int)) (ck (0≤f∧f<(q.length:Int)) (if ¬((g.getD (f.toNat) (0:Nat))=(q.getD (f.toNat) (0:Nat))) then ck (0≤f∧f<(g.length:Int)) (ck (0≤f∧f<(q.length:Int)) (some (.inr (.inr (aBL (decide ((g.getD (f.toNat) (0:Nat))<(q.getD (f.toNat) (0:Nat))))))))) else ck (I64 (f-(1:Int))) (some (.inl (f-(1:Int)))))) else some (.inr (.inl ()))
def aEm(F:Md)(f:qd)(g:qd):Option Int :=
 if ¬((f.length:Int)=(g.length:Int)) then some (aBL (decide ((f.length:Int)<(g.length:Int)))) else ck (I64 ((f.length:Int)-(1:Int))) ((dE F (fun d:Int=>zU F f g d) ((f.length:Int)-(1:Int))).bind (fun e=>match e with|(.inl e)=>some (0:Int)|(.inr e)=>some e))
def bCT(x y:Nat):Int:=if x<y then -1 else if x=y then 0 else 1
def sF(a b:List Nat):Int:=bCT (nv a) (nv b)
theorem aX8{a b:List Nat}(f:Lm a)(hb:Nrm b)(h:a.length<b.length):nv a<nv b:=by
 have g:=uF f;have q:=bEo hb (by grind);grind[Nat.lt_of_lt_of_le,Nat.le_trans,Nat.pow_le_pow_right]
theorem aWQ(a:List Nat)(wa:(Ty.sl qw).wf a)(b:List Nat)(wb:(Ty.sl qw).wf b)(hp:bBe a b):aEm none a b=some (sF a b):=by
 have la:=aGi wa;have O:=aGi wb;have na:=bCQ wa;unfold aEm sF;refine aH7 (fun h=>?_) (fun h=>?_)
 ·unfold aBL bCT;rcases Nat.lt_or_ge a.length b.length with hl|hl
  ·grind[aX8]
  ·have Y:b.length<a.length:=(by omega);have:=aX8 O hp.1 Y;grind
 ·have f:a.length=b.length:=by omega
  refine aE (by omega) ?_;have g:=aCz (step:=fun d:Int=>zU none a b d) (I:=fun i=> -1≤i∧i<a.length∧nv (a.drop (i+1).toNat)=nv (b.drop (i+1).toNat)) (fun i=>(i+1).toNat)
   (fun i=>if nv (a.take (i+1).toNat)=nv (b.take (i+1).toNat) then (.inl ():Unit⊕Int) else .inr (if nv (a.take (i+1).toNat)<nv (b.take (i+1).toNat) then -1 else 1)) ?_ ((a.length:Int)-1) ⟨by omega,by omega,by grind[List.drop_eq_nil_of_le]⟩
  ·rw[show ((a.length:Int)-1+1).toNat=a.length from by omega,List.take_length] at g;rw[f,List.take_length] at g;rw[f];refine bA g ?_;grind[bCT,nv]
  ·intro i ⟨h1,h2,Z⟩;(try dsimp only);unfold zU;by_cases hi:0≤i
   ·have hk:(i+1).toNat=i.toNat+1:=(by omega);have J:i.toNat<a.length:=(by omega);have z:i.toNat<b.length:=(by omega);rw[if_pos hi,hk,aAr J,aAr z];have ta:=uF (aG7 la i.toNat);have tb:=uF (aG7 O i.toNat);rw[List.length_take,Nat.min_eq_left (by omega)] at ta tb;by_cases N:a.getD i.toNat 0=b.getD i.toNat 0
    ·left
     refine⟨i-1,aE (by omega) (aE (by omega) ?_),⟨by omega,by omega,?_⟩,by omega,?_⟩
     ·rw[if_neg (by omega)];exact aE (by omega) rfl
     ·rw[show (i-1+1).toNat=i.toNat from by omega,List.drop_eq_getElem_cons J,List.drop_eq_getElem_cons z,vT,vT];rw[hk] at Z;rw[Z];rw[List.getD_eq_getElem?_getD,List.getD_eq_getElem?_getD,List.getElem?_eq_getElem J,List.getElem?_eq_getElem z] at N;have N:a[i.toNat]=b[i.toNat]:=N;rw[N]
     simp_all
    ·right
     refine aE (by omega) (aE (by omega) ?_);rw[if_pos N];refine aE (by omega) (aE (by omega) ?_);unfold aBL;generalize a.getD i.toNat 0=x at *;generalize b.getD i.toNat 0=y at *;generalize nv (a.take i.toNat)=p at *;generalize nv (b.take i.toNat)=q at *;generalize 18446744073709551616^i.toNat=P at *;rcases Nat.lt_or_ge x y with L|L
     ·have:P*(x+1)≤P*y:=Nat.mul_le_mul_left _ L;grind
     ·have U:y<x:=(by omega);have:P*(y+1)≤P*x:=Nat.mul_le_mul_left _ U;grind
   ·right
    have e:i= -1:=(by omega);simp_all
def aGl(F:Md)(f:qd):Option Int :=
 if (f.length:Int)=(0:Int) then some (0:Int) else ck (I64 ((64:Int)*(f.length:Int))) (ck (I64 ((f.length:Int)-(1:Int))) (ck (0≤((f.length:Int)-(1:Int))∧((f.length:Int)-(1:Int))<(f.length:Int)) (ck (I64 (((64:Int)*(f.length:Int))-(aC (f.getD ((f.length:Int)-(1:Int)).toNat (0:Nat))))) (some (((64:Int)*(f.length:Int))-(aC (f.getD ((f.length:Int)-(1:Int)).toNat (0:Nat))))))))
def sX(a:List Nat):Int:=(bl (nv a):Int)
theorem aI9(k:Nat):18446744073709551616^k=2^(64*k):=by rw[Nat.pow_mul]
theorem bLP{x m k:Nat}(g:x≠0)(hm:m<2^k):bl (m+2^k*x)=k+bl x:=by
 have f:=Nat.two_pow_pos k;have q:2^k*1≤2^k*x:=Nat.mul_le_mul_left _ (by omega);rw[aPa (x:=m+2^k*x) (k:=k) (by omega),Nat.add_mul_div_left _ _ f,Nat.div_eq_of_lt hm,Nat.zero_add]
theorem bJ2{a:List Nat}(h:0<a.length):nv a=nv (a.take (a.length-1))+18446744073709551616^(a.length-1)*a.getD (a.length-1) 0:=by
 have:=aAr (a:=a) (k:=a.length-1) (by omega);grind
theorem bJ3{a:List Nat}(g:Lm a)(f:Nrm a)(h:0<a.length):bl (nv a)=64*(a.length-1)+bl (a.getD (a.length-1) 0):=by
 rw[bJ2 h,aI9];refine bLP ((aY5 h).1 f) ?_;have:=uF (aG7 g (a.length-1));grind[List.length_take,Nat.min_eq_left,aI9]
theorem aY8(a:List Nat)(w:(Ty.sl qw).wf a)(hp:bEq a):aGl none a=some (sX a):=by
 obtain⟨g,hs⟩:=hp;unfold aGl sX;refine aH7 (fun h=>?_) (fun h=>?_)
 ·have e:a= []:=List.eq_nil_of_length_eq_zero (by omega);subst e; rfl
 ·have h0:0<a.length:=by omega
  have f:=bHy (lC (aGi w) (a.length-1));have e1:(a.length:Int)-1=((a.length-1:Nat):Int):=by omega
  rw[e1,Int.toNat_natCast];unfold aC;rw[bJ3 (aGi w) g h0];refine aE (by omega) (aE (by omega) (aE (by omega) (aE (by omega) ?_)));grind
def tzn(n:Nat):Nat:=if h:n=0 then 0 else if n%2=1 then 0 else 1+tzn (n/2)
termination_by n
decreasing_by omega
theorem aLg{n:Nat}(h:n≠0):∃m,n=2^tzn n*(2*m+1):=by
 induction n using Nat.strongRecOn with
 | _ n f =>
  rw[tzn,dif_neg h];split
  ·exact⟨n/2,by omega⟩
  ·obtain⟨m,hm⟩:=f (n/2) (Nat.div_lt_self (by omega) xAa) (by omega);refine⟨m,?_⟩;grind[Nat.add_comm,Nat.pow_succ,Nat.mul_assoc,Nat.mul_comm]
theorem bJ4{a b m k:Nat}(h:2^a*(2*m+1)=2^b*(2*k+1)):a=b:=by
 have f:∀ {a b m k:Nat},2^a*(2*m+1)=2^b*(2*k+1)→ ¬a<b:=fun {a b m k} h g=>by
  obtain⟨d,rfl⟩:∃d,b=a+(d+1):=⟨b-a-1,by omega⟩;rw[Nat.pow_add,Nat.mul_assoc] at h;have:=Nat.eq_of_mul_eq_mul_left (Nat.two_pow_pos a) h;grind
 grind
theorem bCU{n k m:Nat}(h:n=2^k*(2*m+1)):tzn n=k:=by
 have h0:n≠0:=by
  grind
 obtain⟨f,hm⟩:=aLg h0;grind[bJ4]
theorem bJ5{x:Nat}(k:Nat)(h:x≠0):tzn (2^k*x)=k+tzn x:=by
 obtain⟨m,hm⟩:=aLg h;refine bCU (m:=m) ?_;grind
theorem bEr{x:Nat}(f:x<18446744073709551616)(h:x≠0):Lib.ctz 64 x=tzn x∧tzn x<64:=by
 obtain⟨m,hm,g⟩:=Lib.ctzFrom_spec 64 x (by omega) f;grind[Go.Lib.ctz,Go.Lib.ctzFrom,bCU]
theorem bJ6{x q:Nat}(f:x<18446744073709551616)(h:x≠0):tzn (x+18446744073709551616*q)=tzn x:=by
 obtain⟨m,hm⟩:=aLg h;have g:=(bEr f h).2;refine bCU (m:=m+2^(63-tzn x)*q) ?_;have e:18446744073709551616=2^tzn x*(2*2^(63-tzn x)):=by
  rw[← Nat.mul_assoc,Nat.mul_comm _ 2,← Nat.pow_succ',← Nat.pow_add,show tzn x+1+(63-tzn x)=64 from by omega]
 grind
def zV(F:Md)(g:qd)(f:Int):Option ((Int)⊕((Unit)⊕Int)) :=
 if f<(g.length:Int) then ck (0≤f∧f<(g.length:Int)) (if ¬((g.getD (f.toNat) (0:Nat))=(0:Nat)) then ck (I64 ((64:Int)*f)) (ck (I64 (((64:Int)*f)+(kK (g.getD (f.toNat) (0:Nat))))) (some (.inr (.inr (((64:Int)*f)+(kK (g.getD (f.toNat) (0:Nat)))))))) else ck (I64 (f+(1:Int))) (some (.inl (f+(1:Int))))) else some (.inr (.inl ()))
def aEn(F:Md)(f:qd):Option Int :=
 (dE F (fun d:Int=>zV F f d) (0:Int)).bind (fun e=>match e with|(.inl e)=>some (-1:Int)|(.inr e)=>some e)
def lD(a:List Nat):Int:=if nv a=0 then -1 else (tzn (nv a):Int)
theorem aWR(a:List Nat)(w:(Ty.sl qw).wf a)(hp:pSz a):aEn none a=some (lD a):=by
 have U:=aGi w;have hs:a.length≤1099511627776:=hp;unfold aEn lD;have J:=aCz (step:=fun d:Int=>zV none a d) (I:=fun i=>0≤i∧i≤a.length∧nv (a.take i.toNat)=0) (fun i=>(a.length-i).toNat)
   (fun i=>if nv a=0 then (.inl ():Unit⊕Int) else .inr (tzn (nv a):Int)) ?_ 0 ⟨by omega,by omega,rfl⟩
 ·grind
 ·intro i ⟨h0,Z,q⟩;try dsimp only
  unfold zV;by_cases hi:i<a.length
  ·have g:i.toNat<a.length:=(by omega);have hd:=aCD a i.toNat;rw[q,Nat.zero_add,Nat.min_eq_left (by omega),List.drop_eq_getElem_cons g,vT] at hd;have L:a.getD i.toNat 0=a[i.toNat]:=(by simp_all);have N:=lC U i.toNat;rw[← L] at hd;rw[if_pos hi];by_cases z:a.getD i.toNat 0=0
   ·left
    refine⟨i+1,aE (by omega) ?_,⟨by omega,by omega,?_⟩,by omega,rfl⟩
    ·rw[if_neg (by omega)];exact aE (by omega) rfl
    ·rw[show (i+1).toNat=i.toNat+1 from by omega,aAr g,q,z,Nat.mul_zero]
   ·right
    obtain⟨c1,Y⟩:=bEr N z;have O:a.getD i.toNat 0+18446744073709551616*nv (a.drop (i.toNat+1))≠0:=(by omega);have ht:tzn (nv a)=64*i.toNat+tzn (a.getD i.toNat 0):=by
     grind[aI9,bJ5,bJ6]
    have f:nv a≠0:=by
     grind[Nat.mul_ne_zero,aI9,Nat.pos_iff_ne_zero,Nat.two_pow_pos]
    refine aE (by omega) ?_;rw[if_pos (by omega),if_neg f,ht];unfold kK;rw[c1];refine aE (by omega) (aE (by omega) ?_);grind
  ·right
   rw[if_neg hi];have:nv a=0:=(by grind[List.take_length]);simp_all
theorem xD(b:List Nat)(i:Nat):nv (b.take (i+1))=nv (b.take i)+18446744073709551616^i*b.getD i 0:=by
 rcases Nat.lt_or_ge i b.length with h|h
 ·exact aAr h
 ·rw[List.take_of_length_le (by omega),List.take_of_length_le h,List.getD_eq_getElem?_getD,List.getElem?_eq_none h];simp
theorem bHA{a:List Nat}{i v:Nat}(h:i<a.length):(a.set i v).take (i+1)=a.take i++ [v]:=by
 rw[take_succ (by simp_all),List.take_set_of_le (Nat.le_refl i),List.getD_eq_getElem?_getD,List.getElem?_set_self h]; rfl
theorem aSn{a:List Nat}{i v:Nat}(h:i<a.length):nv ((a.set i v).take (i+1))=nv (a.take i)+18446744073709551616^i*v:=by
 rw[bHA h,aQ3,List.length_take,Nat.min_eq_left (Nat.le_of_lt h)]; simp[nv]
theorem aPb{a b:List Nat}{i:Nat}(h:a.drop i=b.drop i):a.getD i 0=b.getD i 0:=by
 have f:=congrArg (fun l=>l.getD 0 0) h;grind
theorem aFX{a b:List Nat}{i:Nat}(h:a.drop i=b.drop i):a.drop (i+1)=b.drop (i+1):=by
 have f:=congrArg (List.drop 1) h;grind[List.drop_drop]
theorem drop_set{a:List Nat}{i v:Nat}:(a.set i v).drop (i+1)=a.drop (i+1):=by
 grind[List.drop_set_of_lt]
def vJ(F:Md)(f:Int)(g:qd)(carry_12:Nat)(q:Nat):Option ((Nat×Int×qd)⊕qd) :=
 ck (0≤f∧f<(g.length:Int)) (ck (aGh (g.getD (f.toNat) (0:Nat)) q carry_12) (ck (0≤f∧f<(g.length:Int)) (ck (I64 (f+(1:Int))) (some (.inl ((uG (g.getD (f.toNat) (0:Nat)) q carry_12).2.1,(f+(1:Int)),(g.set (f.toNat) (uG (g.getD (f.toNat) (0:Nat)) q carry_12).1)))))))
def vK(F:Md)(z:qd)(q:qd)(carry_12:Nat)(f:Int)(g:qd):Option ((Nat×Int×qd)⊕qd) :=
 if f<((((id z)++([0]:List Nat)).length:Nat):Int) then if f<(q.length:Int) then ck (0≤f∧f<(q.length:Int)) (vJ F f g carry_12 (q.getD (f.toNat) (0:Nat))) else if carry_12=(0:Nat) then some (.inr g) else vJ F f g carry_12 (0:Nat) else some (.inr g)
def vL(F:Md)(f:qd)(g:qd):Option qd :=
 ck (bFw f) (ck (((id f).length+(1:Nat))*8≤140737488355328) ((dE F (fun d:Nat×Int×qd=>vK F f g d.1 d.2.1 d.2.2) ((0:Nat),(0:Int),((id f)++([0]:List Nat)))).bind (fun e=>some (fI e))))
def aGm(F:Md)(f:qd)(g:qd):Option qd :=
 if (f.length:Int)<(g.length:Int) then vL F g f else vL F f g
def aDG(a b:List Nat):List Nat:=lb (nv a+nv b)
structure aSo(a b:List Nat)(c:Nat)(i:Int)(out:List Nat):Prop where
 i0:0≤i
 i1:i≤a.length+1
 len:out.length=a.length+1
 lm:Lm out
 c1:c≤1
 rest:out.drop i.toNat=(a++ [0]).drop i.toNat
 sum:nv (out.take i.toNat)+18446744073709551616^i.toNat*c=nv ((a++ [0]).take i.toNat)+nv (b.take i.toNat)
theorem bHB{P p q r x y c s c':Nat}(h:p+P*c=q+r)(e:s+18446744073709551616*c'=x+y+c):p+P*s+P*18446744073709551616*c'=q+P*x+(r+P*y):=by
 grind
theorem aVl{a b:List Nat}{c:Nat}{i:Int}{out:List Nat}(f:Lm b)(h:aSo a b c i out)(hi:i<a.length+1):aSo a b ((out.getD i.toNat 0+b.getD i.toNat 0+c)/18446744073709551616) (i+1) (out.set i.toNat ((out.getD i.toNat 0+b.getD i.toNat 0+c)%18446744073709551616)):=by
 have g:=lC h.lm i.toNat;have hy:=lC f i.toNat;have hc:=h.c1;have h0:=h.i0;have q:=h.len;have e1:(i+1).toNat=i.toNat+1:=by omega
 refine⟨by omega,by omega,by simp_all,aEZ h.lm _ (Nat.mod_lt _ xAa),by omega,?_,?_⟩
 ·rw[e1,drop_set]; exact aFX h.rest
 ·rw[e1,aSn (by omega),xD,xD b,← aPb h.rest,Nat.pow_succ];exact bHB h.sum (Nat.mod_add_div _ _)
theorem bEs{a b:List Nat}{c:Nat}{i:Int}{out:List Nat}(g:a.length≤1099511627776)(h:aSo a b c i out)(hi:i<a.length+1)(y:Nat):vJ none i out c y=some (.inl ((out.getD i.toNat 0+y+c)/18446744073709551616,i+1,out.set i.toNat ((out.getD i.toNat 0+y+c)%18446744073709551616))):=by
 have h0:=h.i0;have f:=h.len;unfold vJ uG;exact aE (by omega) (aE h.c1 (aE (by omega) (aE (by omega) rfl)))
theorem aX9{a b:List Nat}{i:Int}{out:List Nat}(h:aSo a b 0 i out)(hb:(b.length:Int)≤i):nv out=nv a+nv b:=by
 have z:nv (a++ [0])=nv a:=by rw[aQ3]; simp[nv]
 have J:(a++ [0]).length=a.length+1:=by simp
 have h0:=h.i0;have I:=h.i1;have L:=h.len;have q:=h.sum;rw[Nat.mul_zero,Nat.add_zero,List.take_of_length_le (l:=b) (by omega)] at q;have f:=aCD out i.toNat;have g:=aCD (a++ [0]) i.toNat;rw[Nat.min_eq_left (by omega)] at f;rw[Nat.min_eq_left (by omega)] at g;rw[f,q,h.rest,← z,g]; omega
theorem bCV{a b:List Nat}{c:Nat}{i:Int}{out:List Nat}(I:Lm a)(g:Lm b)(f:b.length≤a.length)(h:aSo a b c i out)(hi:¬i<a.length+1):c=0:=by
 have z:nv (a++ [0])=nv a:=by rw[aQ3]; simp[nv]
 have N:(a++ [0]).length=a.length+1:=by simp
 have J:=h.i1;have U:=h.len;have q:=h.sum;rw[List.take_of_length_le (l:=out) (by omega),List.take_of_length_le (l:=a++ [0]) (by omega),List.take_of_length_le (l:=b) (by omega),z] at q;have L:=uF I;have O:=Nat.lt_of_lt_of_le (uF g) (Nat.pow_le_pow_right (show 0<18446744073709551616 by decide) f);rw[show i.toNat=a.length+1 from by omega,Nat.pow_succ] at q;rcases Nat.eq_zero_or_pos c with h|h
 ·exact h
 ·have:18446744073709551616^a.length*18446744073709551616*1≤18446744073709551616^a.length*18446744073709551616*c:=Nat.mul_le_mul_left _ h;omega
theorem bJ7{a b:List Nat}(I:Lm a)(f:Lm b)(J:a.length≤1099511627776)(g:b.length≤a.length){c:Nat}{i:Int}{out:List Nat}(h:aSo a b c i out) :
  (∃d':Nat×Int×List Nat,vK none a b c i out=some (.inl d')∧aSo a b d'.1 d'.2.1 d'.2.2∧(a.length+1-d'.2.1).toNat<(a.length+1-i).toNat)∨ ∃e,vK none a b c i out=some (.inr e)∧Lm e∧nv e=nv a+nv b:=by
 have z:(id a++ [0]).length=a.length+1:=by simp
 have h0:=h.i0;unfold vK;rw[z];by_cases hi:i<a.length+1
 ·rw[if_pos (by omega)];by_cases hb:i<b.length
  ·left
   refine⟨(_,_,_),?_,aVl f h hi,?_⟩
   ·rw[if_pos hb];exact aE (by omega) (bEs J h hi _)
   grind
  ·rw[if_neg hb];have q:b.getD i.toNat 0=0:=(by simp_all);by_cases hc:c=0
   ·right
    subst hc;exact⟨out,by rfl,h.lm,aX9 h (by omega)⟩
   ·left
    have hs:=aVl f h hi;rw[q] at hs;refine⟨(_,_,_),?_,hs,?_⟩
    ·rw[if_neg hc]; grind[bEs]
    grind
 ·right
  rw[if_neg (by omega)];have hc:=bCV I f g h hi;subst hc;exact⟨out,rfl,h.lm,aX9 h (by omega)⟩
theorem bJ8{a b:List Nat}(J:Lm a)(q:Lm b)(z:Sz a)(g:b.length≤a.length):vL none a b=some (lb (nv a+nv b)):=by
 have z:a.length≤1099511627776:=z;have f:=mC (step:=fun d:Nat×Int×qd=>vK none a b d.1 d.2.1 d.2.2) (I:=fun d=>aSo a b d.1 d.2.1 d.2.2) (fun d=>(a.length+1-d.2.1).toNat)
   (fun e=>Lm e∧nv e=nv a+nv b) (fun d h=>bJ7 J q z g h) (0,0,a++ [0]) ⟨by simp,by grind,by simp,bHv J (by intro x O; simp_all),by simp,rfl,by simp[nv]⟩
 obtain⟨e,N,U,L⟩:=f;unfold vL;refine aE (by omega) (aE (by grind) (bA N ?_));rw[fI,L]
theorem aY9(a:List Nat)(f:(Ty.sl qw).wf a)(b:List Nat)(g:(Ty.sl qw).wf b)(hp:aS5 a b):aGm none a b=some (aDG a b):=by
 unfold aGm aDG;refine aH7 (fun h=>?_) (fun h=>?_)
 all_goals grind[bJ8,aGi,Nat.add_comm]
def aGn(F:Md)(f:qd):Option qd :=
 ck (bFw (fI f)) (some (id (fI f)))
def qX(a:List Nat):List Nat:=lb (nv a)
theorem bFx{a:List Nat}(h:Lm a):(lb (nv a)).length≤a.length:=aEY.2 (uF h)
theorem aZa(a:List Nat)(w:(Ty.sl qw).wf a)(hp:pSz a):aGn none a=some (qX a):=by
 have hp:a.length≤1099511627776:=hp;have:=bFx (aGi w);unfold aGn qX fI;exact aE (by omega) rfl
theorem bHC{x y c o:Nat}(f:x<18446744073709551616)(hy:y<18446744073709551616)(hc:c<18446744073709551616)(g:o<18446744073709551616) :
  (o+(x*y%18446744073709551616+c+0)%18446744073709551616+0)%18446744073709551616+18446744073709551616*(((x*y/18446744073709551616+(x*y%18446744073709551616+c+0)/18446744073709551616)%18446744073709551616+(o+(x*y%18446744073709551616+c+0)%18446744073709551616+0)/18446744073709551616)%18446744073709551616)=o+x*y+c:=by
 have p:x*y≤18446744073709551615*18446744073709551615:=Nat.mul_le_mul (by omega) (by omega);omega
theorem aBw{a:List Nat}(h:Lm a)(k:Nat):a.getD k 0=nv a/18446744073709551616^k%18446744073709551616:=by
 rw[← aO9 h];rcases Nat.lt_or_ge k a.length with f|f
 ·rw[List.drop_eq_getElem_cons f,vT,Nat.add_mul_mod_self_left,List.getD_eq_getElem?_getD,List.getElem?_eq_getElem f];exact(Nat.mod_eq_of_lt (h _ (List.getElem_mem f))).symm
 ·rw[List.drop_eq_nil_of_le f,List.getD_eq_getElem?_getD,List.getElem?_eq_none f]; rfl
theorem aYa{a:List Nat}(h:Lm a){k:Nat}(f:nv a<18446744073709551616^k):a.getD k 0=0:=by
 rw[aBw h,Nat.div_eq_of_lt f]
def zW(F:Md)(f:Int)(q:qd)(carry_62:Nat)(g:qd):Option ((Int×qd)⊕qd) :=
 ck (I64 (f+(q.length:Int))) (ck (0≤(f+(q.length:Int))∧(f+(q.length:Int))<(g.length:Int)) (ck (I64 (f+(1:Int))) (some (.inl ((f+(1:Int)),(g.set (f+(q.length:Int)).toNat carry_62))))))
def sY(F:Md)(z:qd)(I:qd)(g:Int)(carry_64:Nat)(f:Int)(q:qd):Option ((Nat×Int×qd)⊕vr) :=
 if f<(z.length:Int) then ck (0≤f∧f<(z.length:Int)) (ck (aGh (eH (I.getD (g.toNat) (0:Nat)) (z.getD (f.toNat) (0:Nat))).2.1 carry_64 (0:Nat)) (ck (I64 (g+f)) (ck (I64 (g+f)) (ck (0≤(g+f)∧(g+f)<(q.length:Int)) (ck (aGh (q.getD (g+f).toNat (0:Nat)) (uG (eH (I.getD (g.toNat) (0:Nat)) (z.getD (f.toNat) (0:Nat))).2.1 carry_64 (0:Nat)).1 (0:Nat)) (ck (0≤(g+f)∧(g+f)<(q.length:Int)) (ck (I64 (f+(1:Int))) (some (.inl ((((((eH (I.getD (g.toNat) (0:Nat)) (z.getD (f.toNat) (0:Nat))).1+(uG (eH (I.getD (g.toNat) (0:Nat)) (z.getD (f.toNat) (0:Nat))).2.1 carry_64 (0:Nat)).2.1)%18446744073709551616)+(uG (q.getD (g+f).toNat (0:Nat)) (uG (eH (I.getD (g.toNat) (0:Nat)) (z.getD (f.toNat) (0:Nat))).2.1 carry_64 (0:Nat)).1 (0:Nat)).2.1)%18446744073709551616),(f+(1:Int)),(q.set (g+f).toNat (uG (q.getD (g+f).toNat (0:Nat)) (uG (eH (I.getD (g.toNat) (0:Nat)) (z.getD (f.toNat) (0:Nat))).2.1 carry_64 (0:Nat)).1 (0:Nat)).1))))))))))) else some (.inr (carry_64,q))
def sZ(F:Md)(q:qd)(z:qd)(f:Int)(g:qd):Option ((Int×qd)⊕qd) :=
 if f<(q.length:Int) then ck (0≤f∧f<(q.length:Int)) ((dE F (fun d:Nat×Int×qd=>sY F z q f d.1 d.2.1 d.2.2) ((0:Nat),(0:Int),g)).bind (fun e=>zW F f z e.1 e.2)) else some (.inr g)
def aEo(F:Md)(f:qd)(g:qd):Option qd :=
 ck (I64 ((f.length:Int)+(g.length:Int))) (ck (0≤((f.length:Int)+(g.length:Int))) (ck ((8:Int)*((f.length:Int)+(g.length:Int))≤281474976710656) ((dE F (fun d:Int×qd=>sZ F f g d.1 d.2) ((0:Int),(List.replicate ((f.length:Int)+(g.length:Int)).toNat (0:Nat)))).bind (fun e=>some (fI e)))))
def dC(a b:List Nat):List Nat:=lb (nv a*nv b)
structure bBg(b:List Nat)(x:Nat)(i:Int)(o0:List Nat)(c:Nat)(j:Int)(out:List Nat):Prop where
 j0:0≤j
 j1:j≤b.length
 len:out.length=o0.length
 lm:Lm out
 c1:c<18446744073709551616
 rest:out.drop (i+j).toNat=o0.drop (i+j).toNat
 sum:nv out+18446744073709551616^(i+j).toNat*c=nv o0+18446744073709551616^i.toNat*x*nv (b.take j.toNat)
theorem bJ9{N g f Q R P o v c c' x y t:Nat}(hP:P=Q*R)(I:g+P*o=N+P*v)(z:N+P*c=f+Q*x*t)(q:v+18446744073709551616*c'=o+x*y+c):g+P*18446744073709551616*c'=f+Q*x*(t+R*y):=by
 grind
theorem bFy{b:List Nat}{x:Nat}{i:Int}{f:List Nat}{c:Nat}{j:Int}{out:List Nat}(J:x<18446744073709551616)(I:Lm b)(hi:0≤i)(N:i+b.length≤f.length)(h:bBg b x i f c j out)(L:j<b.length){v c':Nat}(hv:v<18446744073709551616)(g:c'<18446744073709551616)(e:v+18446744073709551616*c'=out.getD (i+j).toNat 0+x*b.getD j.toNat 0+c) :
  bBg b x i f c' (j+1) (out.set (i+j).toNat v):=by
 have h0:=h.j0;have q:=h.len;have e1:(i+(j+1)).toNat=(i+j).toNat+1:=by omega
 have z:(j+1).toNat=j.toNat+1:=by omega
 refine⟨by omega,by omega,by simp_all,aEZ h.lm _ hv,g,?_,?_⟩
 ·rw[e1,drop_set]; exact aFX h.rest
 ·rw[e1,z,xD,Nat.pow_succ];exact bJ9 (R:=18446744073709551616^j.toNat) (by rw[← Nat.pow_add]; grind) (aHz (by omega)) h.sum e
theorem bHD{a b:List Nat}{i:Int}{g:List Nat}(hi:0≤i)(hs:i+b.length≤9000000000000)(O:i+b.length≤g.length)(N:Lm a)(f:Lm b){c:Nat}{j:Int}{out:List Nat}(h:bBg b (a.getD i.toNat 0) i g c j out) :
  (∃d':Nat×Int×List Nat,sY none b a i c j out=some (.inl d')∧bBg b (a.getD i.toNat 0) i g d'.1 d'.2.1 d'.2.2∧(b.length-d'.2.1).toNat<(b.length-j).toNat)∨ ∃e:Nat×List Nat,sY none b a i c j out=some (.inr e)∧bBg b (a.getD i.toNat 0) i g e.1 b.length e.2:=by
 have h0:=h.j0;have z:=h.len;have U:=h.j1;have I:=lC N i.toNat;have hy:=lC f j.toNat;have L:=lC h.lm (i+j).toNat;unfold sY;by_cases J:j<b.length
 ·left
  have q:=bHC I hy h.c1 L;refine⟨(_,_,_),?_,bFy I f hi O h J (Nat.mod_lt _ xAa) (Nat.mod_lt _ xAa) q,?_⟩
  ·rw[if_pos J];refine aE (by omega) (aE (Nat.zero_le _) (aE (by omega) (aE (by omega) (aE (by omega) (aE (Nat.zero_le _) (aE (by omega) (aE (by omega) ?_)))))));rfl
  grind
 ·right
  refine⟨(c,out),by grind,?_⟩;grind
structure bHE(a b:List Nat)(i:Int)(out:List Nat):Prop where
 i0:0≤i
 i1:i≤a.length
 len:out.length=a.length+b.length
 lm:Lm out
 sum:nv out=nv (a.take i.toNat)*nv b
theorem bFz{a b:List Nat}{i:Int}{out:List Nat}(z:Lm a)(f:Lm b)(h:bHE a b i out):nv out<18446744073709551616^(i.toNat+b.length):=by
 rw[h.sum,Nat.pow_add];have q:=uF (aG7 z i.toNat);have I:=uF f;have g:(a.take i.toNat).length≤i.toNat:=by grind
 have J:=Nat.lt_of_lt_of_le q (Nat.pow_le_pow_right (show 0<18446744073709551616 by decide) g);simp_all[Nat.pow_pos,Nat.mul_lt_mul'']
theorem bFA{a b:List Nat}{i:Int}{out:List Nat}(N:Lm a)(q:Lm b)(h:bHE a b i out)(hi:i<a.length){c:Nat}{f:List Nat}(g:bBg b (a.getD i.toNat 0) i out c b.length f):bHE a b (i+1) (f.set (i+b.length).toNat c):=by
 have h0:=h.i0;have O:=h.len;have J:=g.len;have e1:(i+1).toNat=i.toNat+1:=by omega
 have I:(i+(b.length:Int)).toNat=i.toNat+b.length:=by omega
 have L:f.getD (i.toNat+b.length) 0=0:=by
  have:=aPb g.rest;rw[I] at this;rw[this];exact aYa h.lm (bFz N q h)
 refine⟨by omega,by omega,by simp_all,aEZ g.lm _ g.c1,?_⟩;have z:=aHz (a:=f) (k:=i.toNat+b.length) (v:=c) (by omega);have hs:=g.sum;rw[I] at hs ⊢;rw[L,Nat.mul_zero,Nat.add_zero] at z;rw[z,hs,e1,xD,h.sum,Int.toNat_natCast,List.take_length,Nat.add_mul]
theorem aWS(a:List Nat)(O:(Ty.sl qw).wf a)(b:List Nat)(N:(Ty.sl qw).wf b)(hp:aS5 a b):aEo none a b=some (dC a b):=by
 have L:=aGi O;have f:=aGi N;have Z:a.length≤1099511627776:=hp.1;have sb:b.length≤1099511627776:=hp.2;have g:=mC (step:=fun d:Int×qd=>sZ none a b d.1 d.2) (I:=fun d=>bHE a b d.1 d.2) (fun d=>(a.length-d.1).toNat) (fun e=>nv e=nv a*nv b) ?_ (0,List.replicate (a.length+b.length) 0) ⟨by simp,by simp,by simp,aQ5 _,by simp[aQ4,nv]⟩
 ·obtain⟨e,J,U⟩:=g;unfold aEo dC;rw[show ((a.length:Int)+(b.length:Int)).toNat=a.length+b.length from by omega];refine aE (by omega) (aE (by omega) (aE (by omega) (bA J ?_)));rw[fI,U]
 ·rintro⟨i,out⟩ h;have h:bHE a b i out:=h;have h0:=h.i0;have J:=h.i1;have hl:=h.len;show (∃d',sZ none a b i out=_∧_)∨ ∃e,sZ none a b i out=_∧_;unfold sZ;by_cases hi:i<a.length
  ·left
   obtain⟨e,Y,z⟩:=mC (step:=fun d:Nat×Int×qd=>sY none b a i d.1 d.2.1 d.2.2) (I:=fun d=>bBg b (a.getD i.toNat 0) i out d.1 d.2.1 d.2.2) (fun d=>(b.length-d.2.1).toNat) (fun e=>bBg b (a.getD i.toNat 0) i out e.1 b.length e.2)
    (fun d hd=>bHD h0 (by omega) (by omega) L f hd) (0,0,out) ⟨by simp,by simp,rfl,h.lm,by simp,rfl,by simp[nv]⟩
   have q:=z.len;refine⟨(i+1,e.2.set (i+b.length).toNat e.1),?_,bFA L f h hi z,by omega⟩;rw[if_pos hi];refine aE (by omega) (bA Y ?_);unfold zW;exact aE (by omega) (aE (by omega) (aE (by omega) rfl))
  ·right
   refine⟨out,by grind,?_⟩;have:=h.sum;rw[show i.toNat=a.length from by omega,List.take_length] at this;omega
theorem bHF{n:Int}(h:0≤n):Int.tdiv n 64=((n.toNat/64:Nat):Int)∧Int.tmod n 64=((n.toNat%64:Nat):Int):=by
 grind
theorem aYb{r:Nat}(h:r<64):((r:Int)%(18446744073709551616:Int)).toNat=r∧((63-(r:Int))%(18446744073709551616:Int)).toNat=63-r:=by omega
theorem bBh(r:Nat)(h:r≤64):2^(64-r)*2^r=18446744073709551616:=by
 rw[← Nat.pow_add,show 64-r+r=64 from by omega]
theorem aZb(x r:Nat)(h:r≤64):x*2^r%18446744073709551616=2^r*(x%2^(64-r)):=by
 grind[bBh,Nat.mul_comm,Nat.mul_mod_mul_left]
theorem bEt(x r:Nat)(h:r≤63):x*2^r/18446744073709551616=x/2/2^(63-r):=by
 rw[← bBh r (by omega),Nat.mul_div_mul_right _ _ (Nat.two_pow_pos r),Nat.div_div_eq_div_mul,← Nat.pow_succ',show (63-r).succ=64-r from by omega]
theorem bCW{o r t:Nat}(h:o<2^r):o|||2^r*t=o+2^r*t:=by
 have:=Nat.two_pow_add_eq_or_of_lt h t;rw[Nat.or_comm,← this,Nat.add_comm]
def vM(F:Md)(z:qd)(g:Int)(f:Int)(q:qd):Option ((Int×qd)⊕qd) :=
 if f<(z.length:Int) then ck (0≤f∧f<(z.length:Int)) (ck (I64 (Int.tdiv g (64:Int))) (ck (I64 ((Int.tdiv g (64:Int))+f)) (ck (0≤((Int.tdiv g (64:Int))+f)∧((Int.tdiv g (64:Int))+f)<(q.length:Int)) (ck (0≤((Int.tdiv g (64:Int))+f)∧((Int.tdiv g (64:Int))+f)<(q.length:Int)) (ck (I64 (Int.tdiv g (64:Int))) (ck (I64 ((Int.tdiv g (64:Int))+f)) (ck (I64 (((Int.tdiv g (64:Int))+f)+(1:Int))) (ck (0≤(((Int.tdiv g (64:Int))+f)+(1:Int))∧(((Int.tdiv g (64:Int))+f)+(1:Int))<(((q.set ((Int.tdiv g (64:Int))+f).toNat ((q.getD ((Int.tdiv g (64:Int))+f).toNat (0:Nat))|||(((z.getD (f.toNat) (0:Nat))*(2^((Int.tmod g (64:Int))%(18446744073709551616:Int)).toNat))%18446744073709551616))).length:Nat):Int)) (ck (I64 ((63:Int)-(Int.tmod g (64:Int)))) (ck (0≤(((Int.tdiv g (64:Int))+f)+(1:Int))∧(((Int.tdiv g (64:Int))+f)+(1:Int))<(((q.set ((Int.tdiv g (64:Int))+f).toNat ((q.getD ((Int.tdiv g (64:Int))+f).toNat (0:Nat))|||(((z.getD (f.toNat) (0:Nat))*(2^((Int.tmod g (64:Int))%(18446744073709551616:Int)).toNat))%18446744073709551616))).length:Nat):Int)) (ck (I64 (f+(1:Int))) (some (.inl ((f+(1:Int)),((q.set ((Int.tdiv g (64:Int))+f).toNat ((q.getD ((Int.tdiv g (64:Int))+f).toNat (0:Nat))|||(((z.getD (f.toNat) (0:Nat))*(2^((Int.tmod g (64:Int))%(18446744073709551616:Int)).toNat))%18446744073709551616))).set (((Int.tdiv g (64:Int))+f)+(1:Int)).toNat (((q.set ((Int.tdiv g (64:Int))+f).toNat ((q.getD ((Int.tdiv g (64:Int))+f).toNat (0:Nat))|||(((z.getD (f.toNat) (0:Nat))*(2^((Int.tmod g (64:Int))%(18446744073709551616:Int)).toNat))%18446744073709551616))).getD (((Int.tdiv g (64:Int))+f)+(1:Int)).toNat (0:Nat))|||(((z.getD (f.toNat) (0:Nat))/(2:Nat))/(2^(((63:Int)-(Int.tmod g (64:Int)))%(18446744073709551616:Int)).toNat)))))))))))))))))) else some (.inr q)
def aGo(F:Md)(f:qd)(g:Int):Option qd :=
 if (f.length:Int)=(0:Int) then some ([]:List Nat) else ck (I64 (Int.tdiv g (64:Int))) (ck (I64 ((Int.tdiv g (64:Int))+(f.length:Int))) (ck (I64 (((Int.tdiv g (64:Int))+(f.length:Int))+(1:Int))) (ck (0≤(((Int.tdiv g (64:Int))+(f.length:Int))+(1:Int))) (ck ((8:Int)*(((Int.tdiv g (64:Int))+(f.length:Int))+(1:Int))≤281474976710656) ((dE F (fun d:Int×qd=>vM F f g d.1 d.2) ((0:Int),(List.replicate (((Int.tdiv g (64:Int))+(f.length:Int))+(1:Int)).toNat (0:Nat)))).bind (fun e=>some (fI e)))))))
abbrev aYc(a:List Nat)(n:Int):Prop:=Sz a∧0≤n∧n≤1099511627776
def jT(a:List Nat)(n:Int):List Nat:=lb (nv a*2^n.toNat)
structure bHG(a:List Nat)(q r:Nat)(i:Int)(out:List Nat):Prop where
 i0:0≤i
 i1:i≤a.length
 len:out.length=q+a.length+1
 lm:Lm out
 sum:nv out=nv (a.take i.toNat)*(18446744073709551616^q*2^r)
theorem bHH{a:List Nat}{q r:Nat}{i:Int}{out:List Nat}(J:Lm a)(L:r<64)(h:bHG a q r i out):out.getD (q+i.toNat) 0<2^r∧out.getD (q+i.toNat+1) 0=0:=by
 have f:=uF (aG7 J i.toNat);have z:(a.take i.toNat).length≤i.toNat:=by grind
 have I:=Nat.lt_of_lt_of_le f (Nat.pow_le_pow_right (show 0<18446744073709551616 by decide) z);have hp:0<2^r:=Nat.two_pow_pos r;have g:nv out<18446744073709551616^(q+i.toNat)*2^r:=by
  rw[h.sum,Nat.pow_add,Nat.mul_comm (18446744073709551616^q) (18446744073709551616^i.toNat),Nat.mul_assoc];exact Nat.mul_lt_mul_of_pos_right I (Nat.mul_pos (Nat.pow_pos xAa) hp)
 have N:(2:Nat)^r≤18446744073709551616:=by
  have:=Nat.pow_le_pow_right (n:=2) (by omega) (show r≤64 by omega);omega
 constructor
 ·rw[aBw h.lm];refine Nat.lt_of_le_of_lt (Nat.mod_le _ _) ?_;simp_all[Nat.div_lt_iff_lt_mul,Nat.pow_pos,Nat.mul_comm]
 ·refine aYa h.lm (Nat.lt_of_lt_of_le g ?_);simp_all[Nat.pow_succ,Nat.mul_le_mul_left]
theorem bKa{N g q P f Q x lo hi o T R:Nat}(L:g+P*o=N+P*(o+lo))(J:q=g+P*18446744073709551616*hi)(I:lo+18446744073709551616*hi=x*R)(z:N=T*(f*R))(hP:P=f*Q):q=(T+Q*x)*(f*R):=by
 grind
theorem bFB{a:List Nat}{q r:Nat}{i:Int}{out:List Nat}(N:Lm a)(Y:r<64)(h:bHG a q r i out)(hi:i<a.length) :
  bHG a q r (i+1) ((out.set (q+i.toNat) (out.getD (q+i.toNat) 0|||a.getD i.toNat 0*2^r%18446744073709551616)).set (q+i.toNat+1) ((out.set (q+i.toNat) (out.getD (q+i.toNat) 0|||a.getD i.toNat 0*2^r%18446744073709551616)).getD (q+i.toNat+1) 0|||a.getD i.toNat 0/2/2^(63-r))):=by
 have h0:=h.i0;have J:=h.len;obtain⟨U,l2⟩:=bHH N Y h;have Z:=lC N i.toNat;have L:∀v,(out.set (q+i.toNat) v).getD (q+i.toNat+1) 0=0:=fun v=>by
  simp_all
 rw[L,Nat.zero_or,aZb _ _ (by omega),bCW U,← bEt _ _ (by omega)];have g:2^r*(a.getD i.toNat 0%2^(64-r))+18446744073709551616*(a.getD i.toNat 0*2^r/18446744073709551616)=a.getD i.toNat 0*2^r:=by
  grind[aZb,Nat.mod_add_div]
 have f:out.getD (q+i.toNat) 0+2^r*(a.getD i.toNat 0%2^(64-r))<18446744073709551616:=by
  have hm:a.getD i.toNat 0%2^(64-r)+1≤2^(64-r):=Nat.mod_lt _ (Nat.two_pow_pos _);have:=Nat.mul_le_mul_left (2^r) hm;grind[Nat.mul_comm,bBh,Nat.mul_add]
 have z:a.getD i.toNat 0*2^r/18446744073709551616<18446744073709551616:=by
  have:=Nat.div_le_self (a.getD i.toNat 0/2) (2^(63-r));grind[bEt]
 have e1:(i+1).toNat=i.toNat+1:=by omega
 refine⟨by omega,by omega,by simp_all,aEZ (aEZ h.lm _ f) _ z,?_⟩;have O:=aHz (a:=out) (k:=q+i.toNat) (v:=out.getD (q+i.toNat) 0+2^r*(a.getD i.toNat 0%2^(64-r))) (by omega);have I:=aHz (a:=out.set (q+i.toNat) (out.getD (q+i.toNat) 0+2^r*(a.getD i.toNat 0%2^(64-r)))) (k:=q+i.toNat+1) (v:=a.getD i.toNat 0*2^r/18446744073709551616) (by simp_all);rw[L,Nat.mul_zero,Nat.add_zero,Nat.pow_succ] at I;rw[e1,xD];exact bKa O I g h.sum (Nat.pow_add _ _ _)
theorem aYd(n:Nat):18446744073709551616^(n/64)*2^(n%64)=2^n:=by
 rw[aI9,← Nat.pow_add]; grind
theorem aZc(a:List Nat)(U:(Ty.sl qw).wf a)(n:Int)(wn:(Ty.i .i64).wf n)(hp:aYc a n):aGo none a n=some (jT a n):=by
 have la:=aGi U;obtain⟨N,O,n1⟩:=hp;have N:a.length≤1099511627776:=N;obtain⟨z,d2⟩:=bHF O;have J:n.toNat%64<64:=Nat.mod_lt _ xAa;have hq:n.toNat/64≤1099511627776:=by omega
 have g:=aYd n.toNat;obtain⟨Z,u2⟩:=aYb J;unfold aGo jT;rw[z];refine aH7 (fun h=>?_) (fun h=>?_)
 ·simp_all[List.eq_nil_of_length_eq_zero,aY4,Nat.zero_mul,aDT]
 ·rw[← g];generalize n.toNat/64=q at *;generalize n.toNat%64=r at *;have f:=mC (step:=fun d:Int×qd=>vM none a n d.1 d.2) (I:=fun d=>bHG a q r d.1 d.2) (fun d=>(a.length-d.1).toNat) (fun e=>nv e=nv a*(18446744073709551616^q*2^r)) ?_ (0,List.replicate (q+a.length+1) 0) ⟨by simp,by simp,by simp,aQ5 _,by simp[aQ4,nv]⟩
  ·obtain⟨e,L,Y⟩:=f;rw[show ((q:Int)+(a.length:Int)+1).toNat=q+a.length+1 from by omega];refine aE (by omega) (aE (by omega) (aE (by omega) (aE (by omega) (aE (by omega) (bA L ?_)))));rw[fI,Y]
  ·rintro⟨i,out⟩ h;have h:bHG a q r i out:=h;have h0:=h.i0;have L:=h.i1;have hl:=h.len;show (∃d',vM none a n i out=_∧_)∨ ∃e,vM none a n i out=_∧_;unfold vM;rw[z,d2,Z,u2,show ((q:Int)+i).toNat=q+i.toNat from by omega,show ((q:Int)+i+1).toNat=q+i.toNat+1 from by omega];by_cases hi:i<a.length
   ·left
    refine⟨(_,_),?_,bFB la J h hi,by omega⟩;rw[if_pos hi];simp only[List.length_set];refine aE (by omega) (aE (by omega) (aE (by omega) (aE (by omega) (aE (by omega) (aE (by omega) (aE (by omega) (aE (by omega) (aE (by omega) (aE (by omega) (aE (by omega) (aE (by omega) rfl)))))))))))
   ·right
    refine⟨out,by grind,?_⟩;have:=h.sum;grind[List.take_length]
def tA(F:Md)(q:Int)(z:qd)(f:Int)(g:qd):Option ((Int×qd)⊕qd) :=
 if f<(((List.drop (Int.tdiv q (64:Int)).toNat z).length:Nat):Int) then ck (0≤f∧f<(((List.drop (Int.tdiv q (64:Int)).toNat z).length:Nat):Int)) (ck (0≤f∧f<(g.length:Int)) (ck (I64 (f+(1:Int))) (if (f+(1:Int))<(((List.drop (Int.tdiv q (64:Int)).toNat z).length:Nat):Int) then ck (0≤f∧f<(((g.set (f.toNat) (((List.drop (Int.tdiv q (64:Int)).toNat z).getD (f.toNat) (0:Nat))/(2^((Int.tmod q (64:Int))%(18446744073709551616:Int)).toNat))).length:Nat):Int)) (ck (I64 (f+(1:Int))) (ck (0≤(f+(1:Int))∧(f+(1:Int))<(((List.drop (Int.tdiv q (64:Int)).toNat z).length:Nat):Int)) (ck (I64 ((63:Int)-(Int.tmod q (64:Int)))) (ck (0≤f∧f<(((g.set (f.toNat) (((List.drop (Int.tdiv q (64:Int)).toNat z).getD (f.toNat) (0:Nat))/(2^((Int.tmod q (64:Int))%(18446744073709551616:Int)).toNat))).length:Nat):Int)) (ck (I64 (f+(1:Int))) (some (.inl ((f+(1:Int)),((g.set (f.toNat) (((List.drop (Int.tdiv q (64:Int)).toNat z).getD (f.toNat) (0:Nat))/(2^((Int.tmod q (64:Int))%(18446744073709551616:Int)).toNat))).set (f.toNat) (((g.set (f.toNat) (((List.drop (Int.tdiv q (64:Int)).toNat z).getD (f.toNat) (0:Nat))/(2^((Int.tmod q (64:Int))%(18446744073709551616:Int)).toNat))).getD (f.toNat) (0:Nat))|||((((((List.drop (Int.tdiv q (64:Int)).toNat z).getD (f+(1:Int)).toNat (0:Nat))*(2:Nat))%18446744073709551616)*(2^(((63:Int)-(Int.tmod q (64:Int)))%(18446744073709551616:Int)).toNat))%18446744073709551616))))))))))) else ck (I64 (f+(1:Int))) (some (.inl ((f+(1:Int)),(g.set (f.toNat) (((List.drop (Int.tdiv q (64:Int)).toNat z).getD (f.toNat) (0:Nat))/(2^((Int.tmod q (64:Int))%(18446744073709551616:Int)).toNat))))))))) else some (.inr g)
def aEp(F:Md)(g:qd)(f:Int):Option qd :=
 ck (I64 (Int.tdiv f (64:Int))) (if (g.length:Int)≤(Int.tdiv f (64:Int)) then some ([]:List Nat) else ck (I64 (Int.tdiv f (64:Int))) (ck (0≤(Int.tdiv f (64:Int))∧(Int.tdiv f (64:Int))≤(g.length:Int)) (ck (0≤(((List.drop (Int.tdiv f (64:Int)).toNat g).length:Nat):Int)) (ck ((8:Int)*(((List.drop (Int.tdiv f (64:Int)).toNat g).length:Nat):Int)≤281474976710656) ((dE F (fun d:Int×qd=>tA F f g d.1 d.2) ((0:Int),(List.replicate (List.drop (Int.tdiv f (64:Int)).toNat g).length (0:Nat)))).bind (fun e=>some (fI e)))))))
abbrev aZd(a:List Nat)(n:Int):Prop:=Sz a∧0≤n
def wX(a:List Nat)(n:Int):List Nat:=lb (nv a/2^n.toNat)
structure bKb(a:List Nat)(r:Nat)(i:Int)(out:List Nat):Prop where
 i0:0≤i
 i1:i≤a.length
 len:out.length=a.length
 lm:Lm out
 sum:nv (out.take i.toNat)=nv a/2^r%18446744073709551616^i.toNat
theorem bKc{w s r o:Nat}(f:o<2^s):(o+2^s*w)%(2^s*2^r)=o+2^s*(w%2^r):=by
 rw[Nat.mod_mul,Nat.add_mul_mod_self_left,Nat.mod_eq_of_lt f,Nat.add_mul_div_left _ _ (Nat.two_pow_pos s),Nat.div_eq_of_lt f,Nat.zero_add]
theorem bHI{x y z r:Nat}(g:x<18446744073709551616)(q:r<64):(x+18446744073709551616*(y+18446744073709551616*z))/2^r%18446744073709551616=x/2^r|||y*2%18446744073709551616*2^(63-r)%18446744073709551616:=by
 have e0:y*2%18446744073709551616*2^(63-r)%18446744073709551616=2^(64-r)*(y%2^r):=by
  rw[Nat.mul_mod (y*2%18446744073709551616),Nat.mod_mod,← Nat.mul_mod,Nat.mul_assoc,← Nat.pow_succ',show (63-r).succ=64-r from by omega,aZb _ _ (by omega),show 64-(64-r)=r from by omega]
 have f:=bBh r (by omega);have I:x/2^r<2^(64-r):=(Nat.div_lt_iff_lt_mul (Nat.two_pow_pos r)).2 (by omega);have hd:(x+18446744073709551616*(y+18446744073709551616*z))/2^r=x/2^r+2^(64-r)*(y+18446744073709551616*z):=by
  rw[show 18446744073709551616*(y+18446744073709551616*z)=2^r*(2^(64-r)*(y+18446744073709551616*z)) from by grind,Nat.add_mul_div_left _ _ (Nat.two_pow_pos r)]
 have hm:(y+18446744073709551616*z)%2^r=y%2^r:=by
  grind[Nat.mul_assoc,Nat.mul_comm,Nat.add_mul_mod_self_left]
 grind[bCW,bKc]
theorem bFC{a:List Nat}{r:Nat}{i:Int}{out:List Nat}(J:Lm a)(O:r<64)(h:bKb a r i out)(hi:i<a.length) :
  bKb a r (i+1) (out.set i.toNat (a.getD i.toNat 0/2^r|||a.getD (i.toNat+1) 0*2%18446744073709551616*2^(63-r)%18446744073709551616)):=by
 have h0:=h.i0;have q:=h.len;have I:i.toNat<a.length:=by omega
 have e1:(i+1).toNat=i.toNat+1:=by omega
 have N:=lC J i.toNat;obtain⟨z,U⟩:∃z,nv (a.drop (i.toNat+1))=a.getD (i.toNat+1) 0+18446744073709551616*z:=by
  rcases Nat.lt_or_ge (i.toNat+1) a.length with f|f
  ·refine⟨nv (a.drop (i.toNat+1+1)),?_⟩;rw[List.drop_eq_getElem_cons f,vT,List.getD_eq_getElem?_getD,List.getElem?_eq_getElem f]; rfl
  ·refine⟨0,?_⟩;rw[List.drop_eq_nil_of_le f,List.getD_eq_getElem?_getD,List.getElem?_eq_none f]; rfl
 have hd:nv (a.drop i.toNat)=a.getD i.toNat 0+18446744073709551616*(a.getD (i.toNat+1) 0+18446744073709551616*z):=by
  have L:a.getD i.toNat 0=a[i.toNat]:=by rw[List.getD_eq_getElem?_getD,List.getElem?_eq_getElem I]; rfl
  rw[List.drop_eq_getElem_cons I,vT,U,L]
 have g:a.getD i.toNat 0/2^r|||a.getD (i.toNat+1) 0*2%18446744073709551616*2^(63-r)%18446744073709551616=nv a/2^r/18446744073709551616^i.toNat%18446744073709551616:=by
  rw[← bHI (z:=z) N O,← hd,aO9 J,Nat.div_div_eq_div_mul,Nat.div_div_eq_div_mul,Nat.mul_comm (18446744073709551616^i.toNat)]
 rw[g];refine⟨by omega,by omega,by simp_all,aEZ h.lm _ (Nat.mod_lt _ xAa),?_⟩;rw[e1,aSn (by omega),h.sum,Nat.pow_succ,Nat.mod_mul]
theorem aWT(a:List Nat)(wa:(Ty.sl qw).wf a)(n:Int)(wn:(Ty.i .i64).wf n)(hp:aZd a n):aEp none a n=some (wX a n):=by
 have J:=aGi wa;obtain⟨U,n0⟩:=hp;have U:a.length≤1099511627776:=U;obtain⟨w1,w2⟩:=wf_i64 wn;obtain⟨Y,d2⟩:=bHF n0;have O:n.toNat%64<64:=Nat.mod_lt _ xAa;have hq:n.toNat/64≤9223372036854775807:=by omega
 have z:=aYd n.toNat;obtain⟨Z,u2⟩:=aYb O;unfold aEp wX;rw[Y];refine aE (by omega) (aH7 (fun h=>?_) (fun h=>?_))
 ·have:nv a/2^n.toNat=0:=by
   refine Nat.div_eq_of_lt (Nat.lt_of_lt_of_le (uF J) ?_);grind[Nat.le_trans,Nat.pow_le_pow_right,Nat.le_mul_of_pos_right,Nat.two_pow_pos]
  rw[this,aDT]
 ·rw[← z,← Nat.div_div_eq_div_mul,← aO9 J];generalize n.toNat/64=q at *;generalize n.toNat%64=r at *;rw[Int.toNat_natCast];have L:=bJY J q;have hA:(a.drop q).length=a.length-q:=List.length_drop;have g:=mC (step:=fun d:Int×qd=>tA none n a d.1 d.2) (I:=fun d=>bKb (a.drop q) r d.1 d.2) (fun d=>((a.drop q).length-d.1).toNat) (fun e=>nv e=nv (a.drop q)/2^r) ?_ (0,List.replicate (a.drop q).length 0) ⟨by simp,by simp,by simp,aQ5 _,by simp[nv,Nat.mod_one]⟩
  ·obtain⟨e,N,h2⟩:=g;refine aE (by omega) (aE (by omega) (aE (by omega) (aE (by omega) (bA N ?_))));rw[fI,h2]
  ·rintro⟨i,out⟩ h;have h:bKb (a.drop q) r i out:=h;have h0:=h.i0;have N:=h.i1;have hl:=h.len;show (∃d',tA none n a i out=_∧_)∨ ∃e,tA none n a i out=_∧_;unfold tA;rw[Y,d2,Z,u2,Int.toNat_natCast];generalize a.drop q=A at *;by_cases hi:i<A.length
   ·left
    have hs:=bFC L O h hi;rw[if_pos hi];by_cases f:i+1<A.length
    ·refine⟨(_,_),?_,hs,by omega⟩;rw[if_pos f];simp only[List.length_set];refine aE (by omega) (aE (by omega) (aE (by omega) (aE (by omega) (aE (by omega) (aE (by omega) (aE (by omega) (aE (by omega) (aE (by omega) ?_))))))));rw[show (i+1).toNat=i.toNat+1 from by omega,List.set_set,List.getD_eq_getElem?_getD (l:=out.set _ _),List.getElem?_set_self (by omega)];rfl
    ·have hy:A.getD (i.toNat+1) 0=0:=(by grind);rw[hy] at hs;simp only[Nat.zero_mul,Nat.zero_mod,Nat.or_zero] at hs;refine⟨(_,_),?_,hs,by omega⟩;rw[if_neg f];exact aE (by omega) (aE (by omega) (aE (by omega) (aE (by omega) rfl)))
   ·right
    refine⟨out,by grind,?_⟩;have:=h.sum;rw[show i.toNat=A.length from by omega,List.take_of_length_le (by omega)] at this;rw[this];exact Nat.mod_eq_of_lt (Nat.lt_of_le_of_lt (Nat.div_le_self _ _) (uF L))
theorem bLQ{N M:Nat}(h:M≤N)(f:N-M<18446744073709551616):aKp .u64 (N%18446744073709551616) (M%18446744073709551616)=N-M:=by
 rw[aMj,bEp]; omega
structure DI(V u u1 q r:Nat):Prop where
 lo:9223372036854775808≤V
 hi:V<18446744073709551616
 uV:u<V
 ul:u1<4294967296
 eq:q*(V/4294967296)+r=u
 ge:(u*4294967296+u1)/V≤q
 r1:r<4294967296
theorem bLR{V u u1 q r:Nat}(h:DI V u u1 q r):q*V+r*4294967296=u*4294967296+q*(V%4294967296):=by
 have e:=Nat.div_add_mod V 4294967296;have:=h.eq;grind
theorem bHJ{V u u1 q r:Nat}(h:DI V u u1 q r):(u*4294967296+u1)/V<4294967296:=by
 have g:=h.uV;have f:=h.ul;refine(Nat.div_lt_iff_lt_mul (by omega)).2 ?_;omega
theorem aUc{V u u1 q r:Nat}(h:DI V u u1 q r):(4294967296≤q∨(aIO .u64 4294967296 r+u1)%18446744073709551616<aIO .u64 q (V%4294967296))↔(u*4294967296+u1)/V<q:=by
 have hs:=bHJ h;have hm:=bLR h;have g:=h.r1;have f:=h.ul;have hV:=h.lo;rcases Nat.lt_or_ge q 4294967296 with hq|hq
 ·have hv:V%4294967296≤4294967295:=by omega
  have p:q*(V%4294967296)≤4294967295*4294967295:=Nat.mul_le_mul (by omega) hv;rw[aSm,aSm,Nat.div_lt_iff_lt_mul (by omega)];omega
 omega
theorem bHK{V u u1 q r:Nat}(h:DI V u u1 q r)(hc:(u*4294967296+u1)/V<q):(r+V/4294967296)%18446744073709551616=r+V/4294967296∧aKp .u64 q 1=q-1∧(4294967296≤r+V/4294967296→q-1=(u*4294967296+u1)/V)∧(r+V/4294967296<4294967296→DI V u u1 (q-1) (r+V/4294967296)):=by
 have h1:=h.r1;have U:=h.hi;have O:=h.lo;have he:=h.eq;have N:=h.uV;have g:=h.ul;have hQ:=Nat.zero_le ((u*4294967296+u1)/V);obtain⟨p,rfl⟩:∃p,q=p+1:=⟨q-1,by omega⟩;have I:p*(V/4294967296)+(r+V/4294967296)=u:=by grind
 have Y:(p+1)*(V/4294967296)<18446744073709551616:=by omega
 have z:p+1<18446744073709551616:=by
  have:(p+1)*1≤(p+1)*(V/4294967296):=Nat.mul_le_mul_left _ (by omega);omega
 refine⟨by omega,bBa z (by omega),fun J=>?_,fun J=>⟨O,U,N,g,I,by omega,J⟩⟩;simp only[Nat.add_sub_cancel];refine Nat.le_antisymm ?_ (by omega);refine(Nat.le_div_iff_mul_le (by omega)).2 ?_;have Z:=Nat.div_add_mod V 4294967296;have f:V%4294967296≤4294967295:=by omega
 generalize V/4294967296=v1 at *;generalize V%4294967296=v0 at *;have hp:p≤4294967295:=by
  rcases Nat.lt_or_ge p 4294967296 with L|L
  ·omega
  ·have:=Nat.mul_le_mul_right v1 L;omega
 have hC:p*v0≤4294967295*4294967295:=Nat.mul_le_mul hp f;grind[Nat.mul_add,Nat.mul_left_comm]
theorem bBi{V u u1:Nat}(I:9223372036854775808≤V)(q:V<18446744073709551616)(g:u<V)(z:u1<4294967296):aKp .u64 u (aIO .u64 (u/(V/4294967296)) (V/4294967296))=u%(V/4294967296)∧DI V u u1 (u/(V/4294967296)) (u%(V/4294967296)):=by
 have e:=Nat.div_add_mod u (V/4294967296);have m:=Nat.mod_lt u (show 0<V/4294967296 by omega);have f:(V/4294967296)*(u/(V/4294967296))≤u:=by omega
 constructor
 ·grind[aSm,Nat.mul_comm,Nat.mod_eq_of_lt,bBa]
 ·refine⟨I,q,g,z,by grind,?_,by omega⟩;refine(Nat.le_div_iff_mul_le (by omega)).2 ?_;have J:=Nat.div_add_mod V 4294967296;have d:=Nat.div_mul_le_self (u*4294967296+u1) V;grind[Nat.mul_add,Nat.mul_left_comm,Nat.mul_comm]
abbrev aFt(hi lo y:Nat):Prop:=hi<y
def rO(hi lo y:Nat):Nat×Nat×Unit:=((hi*18446744073709551616+lo)/y,(hi*18446744073709551616+lo)%y,())
def xY(F:Md)(q:Nat)(I:Nat)(f:Nat)(z:Nat)(g:Nat):Option (Nat×(Nat×Unit)) :=
 some ((((mulM F .u64 q (4294967296:Nat))+g)%18446744073709551616),((wU F .u64 (((mulM F .u64 (wU F .u64 (((mulM F .u64 (((I*(2^((aC f)%(18446744073709551616:Int)).toNat))%18446744073709551616)|||(z/(2^(wU F .u64 (64:Nat) ((aC f)%(18446744073709551616:Int)).toNat)))) (4294967296:Nat))+(((z*(2^((aC f)%(18446744073709551616:Int)).toNat))%18446744073709551616)/(4294967296:Nat)))%18446744073709551616) (mulM F .u64 q ((f*(2^((aC f)%(18446744073709551616:Int)).toNat))%18446744073709551616))) (4294967296:Nat))+(((z*(2^((aC f)%(18446744073709551616:Int)).toNat))%18446744073709551616)&&&(4294967295:Nat)))%18446744073709551616) (mulM F .u64 g ((f*(2^((aC f)%(18446744073709551616:Int)).toNat))%18446744073709551616)))/(2^((aC f)%(18446744073709551616:Int)).toNat)),())
def mK(F:Md)(z:Nat)(q:Nat)(g:Nat)(f:Nat):Option ((Nat×Nat)⊕(Nat)) :=
 if ((4294967296:Nat)≤f)∨((((mulM F .u64 (4294967296:Nat) g)+(((z*(2^((aC q)%(18446744073709551616:Int)).toNat))%18446744073709551616)&&&(4294967295:Nat)))%18446744073709551616)<(mulM F .u64 f (((q*(2^((aC q)%(18446744073709551616:Int)).toNat))%18446744073709551616)&&&(4294967295:Nat)))) then if (4294967296:Nat)≤((g+(((q*(2^((aC q)%(18446744073709551616:Int)).toNat))%18446744073709551616)/(4294967296:Nat)))%18446744073709551616) then some (.inr (wU F .u64 f (1:Nat))) else some (.inl (((g+(((q*(2^((aC q)%(18446744073709551616:Int)).toNat))%18446744073709551616)/(4294967296:Nat)))%18446744073709551616),(wU F .u64 f (1:Nat)))) else some (.inr f)
def xZ(F:Md)(f:Nat)(g:Nat)(z:Nat)(q:Nat):Option (Nat×(Nat×Unit)) :=
 ck ((((f*(2^((aC f)%(18446744073709551616:Int)).toNat))%18446744073709551616)/(4294967296:Nat))≠0) ((dE F (fun d:Nat×Nat=>mK F g f d.1 d.2) ((wU F .u64 (wU F .u64 (((mulM F .u64 (((z*(2^((aC f)%(18446744073709551616:Int)).toNat))%18446744073709551616)|||(g/(2^(wU F .u64 (64:Nat) ((aC f)%(18446744073709551616:Int)).toNat)))) (4294967296:Nat))+(((g*(2^((aC f)%(18446744073709551616:Int)).toNat))%18446744073709551616)/(4294967296:Nat)))%18446744073709551616) (mulM F .u64 q ((f*(2^((aC f)%(18446744073709551616:Int)).toNat))%18446744073709551616))) (mulM F .u64 ((wU F .u64 (((mulM F .u64 (((z*(2^((aC f)%(18446744073709551616:Int)).toNat))%18446744073709551616)|||(g/(2^(wU F .u64 (64:Nat) ((aC f)%(18446744073709551616:Int)).toNat)))) (4294967296:Nat))+(((g*(2^((aC f)%(18446744073709551616:Int)).toNat))%18446744073709551616)/(4294967296:Nat)))%18446744073709551616) (mulM F .u64 q ((f*(2^((aC f)%(18446744073709551616:Int)).toNat))%18446744073709551616)))/(((f*(2^((aC f)%(18446744073709551616:Int)).toNat))%18446744073709551616)/(4294967296:Nat))) (((f*(2^((aC f)%(18446744073709551616:Int)).toNat))%18446744073709551616)/(4294967296:Nat)))),((wU F .u64 (((mulM F .u64 (((z*(2^((aC f)%(18446744073709551616:Int)).toNat))%18446744073709551616)|||(g/(2^(wU F .u64 (64:Nat) ((aC f)%(18446744073709551616:Int)).toNat)))) (4294967296:Nat))+(((g*(2^((aC f)%(18446744073709551616:Int)).toNat))%18446744073709551616)/(4294967296:Nat)))%18446744073709551616) (mulM F .u64 q ((f*(2^((aC f)%(18446744073709551616:Int)).toNat))%18446744073709551616)))/(((f*(2^((aC f)%(18446744073709551616:Int)).toNat))%18446744073709551616)/(4294967296:Nat))))).bind (fun e=>xY F q z f g e))
def mL(F:Md)(z:Nat)(q:Nat)(f:Nat)(g:Nat):Option ((Nat×Nat)⊕(Nat)) :=
 if ((4294967296:Nat)≤f)∨((((mulM F .u64 (4294967296:Nat) g)+(((z*(2^((aC q)%(18446744073709551616:Int)).toNat))%18446744073709551616)/(4294967296:Nat)))%18446744073709551616)<(mulM F .u64 f (((q*(2^((aC q)%(18446744073709551616:Int)).toNat))%18446744073709551616)&&&(4294967295:Nat)))) then if (4294967296:Nat)≤((g+(((q*(2^((aC q)%(18446744073709551616:Int)).toNat))%18446744073709551616)/(4294967296:Nat)))%18446744073709551616) then some (.inr (wU F .u64 f (1:Nat))) else some (.inl ((wU F .u64 f (1:Nat)),((g+(((q*(2^((aC q)%(18446744073709551616:Int)).toNat))%18446744073709551616)/(4294967296:Nat)))%18446744073709551616))) else some (.inr f)
def aCG(F:Md)(q:Nat)(g:Nat)(f:Nat):Option (Nat×(Nat×Unit)) :=
 if f=(0:Nat) then none else if f≤q then none else if q=(0:Nat) then ck (f≠0) (ck (f≠0) (some ((g/f),(g%f),()))) else ck ((((f*(2^((aC f)%(18446744073709551616:Int)).toNat))%18446744073709551616)/(4294967296:Nat))≠0) ((dE F (fun d:Nat×Nat=>mL F g f d.1 d.2) (((((q*(2^((aC f)%(18446744073709551616:Int)).toNat))%18446744073709551616)|||(g/(2^(wU F .u64 (64:Nat) ((aC f)%(18446744073709551616:Int)).toNat))))/(((f*(2^((aC f)%(18446744073709551616:Int)).toNat))%18446744073709551616)/(4294967296:Nat))),(wU F .u64 (((q*(2^((aC f)%(18446744073709551616:Int)).toNat))%18446744073709551616)|||(g/(2^(wU F .u64 (64:Nat) ((aC f)%(18446744073709551616:Int)).toNat)))) (mulM F .u64 ((((q*(2^((aC f)%(18446744073709551616:Int)).toNat))%18446744073709551616)|||(g/(2^(wU F .u64 (64:Nat) ((aC f)%(18446744073709551616:Int)).toNat))))/(((f*(2^((aC f)%(18446744073709551616:Int)).toNat))%18446744073709551616)/(4294967296:Nat))) (((f*(2^((aC f)%(18446744073709551616:Int)).toNat))%18446744073709551616)/(4294967296:Nat)))))).bind (fun e=>xZ F f g q e))
theorem aUd(x:Nat):x&&&4294967295=x%4294967296:=Nat.and_two_pow_sub_one_eq_mod x 32
theorem bLS{lo y s:Nat}{u:Nat}(hs:(aC y%(18446744073709551616:Int)).toNat=s)(h:∀V,V=y*2^s%18446744073709551616→9223372036854775808≤V∧u<V) :
  aG4 (fun d:Nat×Nat=>mL none lo y d.1 d.2) (u/(y*2^s%18446744073709551616/4294967296),aKp .u64 u (aIO .u64 (u/(y*2^s%18446744073709551616/4294967296)) (y*2^s%18446744073709551616/4294967296)))=some ((u*4294967296+lo*2^s%18446744073709551616/4294967296)/(y*2^s%18446744073709551616)):=by
 have hV:=Nat.mod_lt (y*2^s) (show 0<18446744073709551616 by decide);have U:=Nat.mod_lt (lo*2^s) (show 0<18446744073709551616 by decide);have step:∀q r,mL none lo y q r=if 4294967296≤q∨(aIO .u64 4294967296 r+lo*2^s%18446744073709551616/4294967296)%18446744073709551616<aIO .u64 q (y*2^s%18446744073709551616%4294967296) then if 4294967296≤(r+y*2^s%18446744073709551616/4294967296)%18446744073709551616 then some (.inr (aKp .u64 q 1)) else some (.inl (aKp .u64 q 1,(r+y*2^s%18446744073709551616/4294967296)%18446744073709551616)) else some (.inr q):=fun q r=>by
  unfold mL; rw[hs,aUd]; rfl
 obtain⟨N,L⟩:=h _ rfl;generalize y*2^s%18446744073709551616=V at *;have g:lo*2^s%18446744073709551616/4294967296<4294967296:=by omega
 generalize lo*2^s%18446744073709551616/4294967296=f at *;obtain⟨e0,i0⟩:=bBi N hV L g;rw[e0];refine aCz (I:=fun d=>DI V u f d.1 d.2) (fun d=>d.1) (fun _=>(u*4294967296+f)/V) ?_ (u/(V/4294967296),u%(V/4294967296)) i0;rintro⟨q,r⟩ hi;have hi:DI V u f q r:=hi;show (∃d',mL none lo y q r=_∧_)∨mL none lo y q r=_;rw[step];by_cases hc:(u*4294967296+f)/V<q
 ·obtain⟨J,z,Y,O⟩:=bHK hi hc;rw[if_pos ((aUc hi).2 hc),J,z];grind
 ·right
  rw[if_neg (fun h=>hc ((aUc hi).1 h))];have:=hi.ge;grind
theorem bLT{lo y s:Nat}{u:Nat}(hs:(aC y%(18446744073709551616:Int)).toNat=s)(h:∀V,V=y*2^s%18446744073709551616→9223372036854775808≤V∧u<V) :
  aG4 (fun d:Nat×Nat=>mK none lo y d.1 d.2) (aKp .u64 u (aIO .u64 (u/(y*2^s%18446744073709551616/4294967296)) (y*2^s%18446744073709551616/4294967296)),u/(y*2^s%18446744073709551616/4294967296))=some ((u*4294967296+lo*2^s%18446744073709551616%4294967296)/(y*2^s%18446744073709551616)):=by
 have hV:=Nat.mod_lt (y*2^s) (show 0<18446744073709551616 by decide);have step:∀q r,mK none lo y r q=if 4294967296≤q∨(aIO .u64 4294967296 r+lo*2^s%18446744073709551616%4294967296)%18446744073709551616<aIO .u64 q (y*2^s%18446744073709551616%4294967296) then if 4294967296≤(r+y*2^s%18446744073709551616/4294967296)%18446744073709551616 then some (.inr (aKp .u64 q 1)) else some (.inl ((r+y*2^s%18446744073709551616/4294967296)%18446744073709551616,aKp .u64 q 1)) else some (.inr q):=fun q r=>by
  unfold mK; rw[hs,aUd,aUd]; rfl
 obtain⟨N,L⟩:=h _ rfl;generalize y*2^s%18446744073709551616=V at *;have g:lo*2^s%18446744073709551616%4294967296<4294967296:=Nat.mod_lt _ xAa;generalize lo*2^s%18446744073709551616%4294967296=f at *;obtain⟨e0,i0⟩:=bBi N hV L g;rw[e0];refine aCz (I:=fun d=>DI V u f d.2 d.1) (fun d=>d.2) (fun _=>(u*4294967296+f)/V) ?_ (u%(V/4294967296),u/(V/4294967296)) i0;rintro⟨r,q⟩ hi;have hi:DI V u f q r:=hi;show (∃d',mK none lo y r q=_∧_)∨mK none lo y r q=_;rw[step];by_cases hc:(u*4294967296+f)/V<q
 ·obtain⟨J,z,U,O⟩:=bHK hi hc;rw[if_pos ((aUc hi).2 hc),J,z];grind
 ·right
  rw[if_neg (fun h=>hc ((aUc hi).1 h))];have:=hi.ge;grind
theorem aSp{N V:Nat}:N-N/V*V=N%V:=by
 grind[Nat.div_add_mod,Nat.mul_comm]
theorem bHL{V u u1:Nat}(g:0<V)(q:V<18446744073709551616)(f:u1<4294967296):aKp .u64 ((aIO .u64 u 4294967296+u1)%18446744073709551616) (aIO .u64 ((u*4294967296+u1)/V) V)=(u*4294967296+u1)%V:=by
 have m:=Nat.mod_lt (u*4294967296+u1) g;rw[aSm,aSm,Nat.mod_add_mod,bLQ (Nat.div_mul_le_self _ _) (by grind[aSp,Nat.lt_trans]),aSp]
theorem bEu{V N W un0:Nat}(hV:0<V):N/V*W+(N%V*W+un0)/V=(N*W+un0)/V∧(N%V*W+un0)%V=(N*W+un0)%V:=by
 have e:=Nat.div_add_mod N V;have:N*W+un0=N%V*W+un0+V*(N/V*W):=by
  grind
 rw[this,Nat.add_mul_div_left _ _ hV,Nat.add_mul_mod_self_left];omega
theorem bLU(A C:Nat):(A*4294967296+C/4294967296)*4294967296+C%4294967296=A*18446744073709551616+C:=by omega
theorem aVm(hi:Nat)(wh:(Ty.u .u64).wf hi)(lo:Nat)(wl:(Ty.u .u64).wf lo)(y:Nat)(wy:(Ty.u .u64).wf y)(hp:aFt hi lo y):aCG none hi lo y=some (rO hi lo y):=by
 have hh:=aNZ wh;have hl:=aNZ wl;have hy:=aNZ wy;have hp:hi<y:=hp;have hb:=bHy hy;have hb1:=bCR (x:=y) (by omega);have hs:(aC y%(18446744073709551616:Int)).toNat=64-bl y:=by grind[aC]
 have z:aKp .u64 64 (64-bl y)=64-(64-bl y):=bBa (by omega) (by omega);have I:=bCS (x:=y) (by omega);have hlt:=bHw y;unfold aCG rO;try simp only[wU,mulM,aMG]
 rw[if_neg (by omega),if_neg (by omega),hs];refine aH7 (fun h=>?_) (fun h=>?_)
 ·subst h;refine aE (by omega) (aE (by omega) ?_);simp_all
 ·rw[z];generalize hsd:64-bl y=s at *;have hs64:s≤63:=by omega
  have f:=Nat.two_pow_pos s;have h2s:2^(64-s)*2^s=18446744073709551616:=bBh s (by omega);have q:y*2^s<18446744073709551616:=by
   rw[← h2s,show 64-s=bl y from by omega];simp_all
  have hyL:9223372036854775808≤y*2^s:=by
   have:=Nat.mul_le_mul_right (2^s) I;rw[← Nat.pow_add,show bl y-1+s=63 from by omega] at this;omega
  have J:hi*2^s%18446744073709551616|||lo/2^(64-s)=(hi*18446744073709551616+lo)*2^s/18446744073709551616:=by
   have h1:hi*2^s<18446744073709551616:=Nat.lt_trans (Nat.mul_lt_mul_of_pos_right hp f) q;have h3:lo/2^(64-s)<2^s:=(Nat.div_lt_iff_lt_mul (Nat.two_pow_pos _)).2 (by grind);rw[Nat.mod_eq_of_lt h1,Nat.or_comm,Nat.mul_comm hi,bCW h3,Nat.add_mul,Nat.mul_assoc,Nat.mul_comm 18446744073709551616,← Nat.mul_assoc,Nat.add_comm (hi*2^s*18446744073709551616),Nat.add_mul_div_right _ _ xAa,← h2s,Nat.mul_div_mul_right _ _ f,Nat.mul_comm hi]
  have hUV:(hi*18446744073709551616+lo)*2^s/18446744073709551616<y*2^s:=by
   refine(Nat.div_lt_iff_lt_mul xAa).2 ?_;rw[Nat.mul_right_comm y];exact Nat.mul_lt_mul_of_pos_right (by omega) f
  have g:lo*2^s%18446744073709551616=(hi*18446744073709551616+lo)*2^s%18446744073709551616:=by
   grind
  have O:y*2^s%18446744073709551616=y*2^s:=Nat.mod_eq_of_lt q;have eN:=Nat.div_add_mod ((hi*18446744073709551616+lo)*2^s) 18446744073709551616;have mN:=Nat.mod_lt ((hi*18446744073709551616+lo)*2^s) (show 0<18446744073709551616 by decide);rw[J];refine aE (by omega) (bA (bLS hs (fun V e=>by omega)) ?_);unfold xZ;try simp only[wU,mulM,aMG]
  rw[hs,z,J];have Z:=bHL (V:=y*2^s%18446744073709551616) (u:=(hi*18446744073709551616+lo)*2^s/18446744073709551616) (u1:=lo*2^s%18446744073709551616/4294967296) (by omega) (by omega) (by omega);rw[Z];refine aE (by omega) (bA (bLT hs (fun V e=>by rw[e]; exact⟨by omega,Nat.mod_lt _ (by omega)⟩)) ?_);unfold xY;try simp only[wU,mulM,aMG]
  rw[hs,z,J,Z,aUd,O,g];have L:=bHL (V:=y*2^s) (u:=((hi*18446744073709551616+lo)*2^s/18446744073709551616*4294967296+(hi*18446744073709551616+lo)*2^s%18446744073709551616/4294967296)%(y*2^s)) (u1:=(hi*18446744073709551616+lo)*2^s%18446744073709551616%4294967296) (by omega) q (Nat.mod_lt _ xAa);rw[L];obtain⟨Y,U⟩:=bEu (V:=y*2^s) (N:=(hi*18446744073709551616+lo)*2^s/18446744073709551616*4294967296+(hi*18446744073709551616+lo)*2^s%18446744073709551616/4294967296) (W:=4294967296) (un0:=(hi*18446744073709551616+lo)*2^s%18446744073709551616%4294967296) (by omega);have eW:=(bLU ((hi*18446744073709551616+lo)*2^s/18446744073709551616) ((hi*18446744073709551616+lo)*2^s%18446744073709551616)).trans ((congrArg (· + (hi*18446744073709551616+lo)*2^s%18446744073709551616) (Nat.mul_comm _ _)).trans eN);rw[eW] at Y U;rw[U,aSm,Nat.mod_add_mod,Y,Nat.mul_div_mul_right _ _ f,Nat.mul_mod_mul_right,Nat.mul_div_cancel _ f];have hq:(hi*18446744073709551616+lo)/y<18446744073709551616:=(Nat.div_lt_iff_lt_mul (by omega)).2 (by omega);simp_all
abbrev aLh(a:List Nat)(b:Nat):Prop:=b≠0∧Sz a
def aB0(a:List Nat)(b:Nat):List Nat×List Nat×Unit:=(lb (nv a/b),lb (nv a%b),())
def zX(F:Md)(f:Nat)(g:qd):Option qn :=
 some ((fI g),(fI ([f]:List Nat)),())
def tB(F:Md)(z:qd)(I:Nat)(g:Nat)(f:Int)(q:qd):Option ((Nat×Int×qd)⊕vr) :=
 if (0:Int)≤f then ck (0≤f∧f<(z.length:Int)) (ck (aFt g (z.getD (f.toNat) (0:Nat)) I) (ck (0≤f∧f<(q.length:Int)) (ck (I64 (f-(1:Int))) (some (.inl ((rO g (z.getD (f.toNat) (0:Nat)) I).2.1,(f-(1:Int)),(q.set (f.toNat) (rO g (z.getD (f.toNat) (0:Nat)) I).1))))))) else some (.inr (g,q))
def aEq(F:Md)(f:qd)(g:Nat):Option qn :=
 ck (0≤(f.length:Int)) (ck ((8:Int)*(f.length:Int)≤281474976710656) (ck (I64 ((f.length:Int)-(1:Int))) ((dE F (fun d:Nat×Int×qd=>tB F f g d.1 d.2.1 d.2.2) ((0:Nat),((f.length:Int)-(1:Int)),(List.replicate (f.length) (0:Nat)))).bind (fun e=>zX F e.1 e.2))))
structure aZe(a:List Nat)(b:Nat)(rest:Nat)(i:Int)(q:List Nat):Prop where
 i0: -1≤i
 i1:i<a.length
 len:q.length=a.length
 lm:Lm q
 sum:nv q=nv a/18446744073709551616^(i+1).toNat/b*18446744073709551616^(i+1).toNat
 res:rest=nv a/18446744073709551616^(i+1).toNat%b
theorem bBj{a:List Nat}{b rest:Nat}{i:Int}{q:List Nat}(g:Lm a)(hb:b≠0)(h:aZe a b rest i q)(hi:0≤i) :
  rest<b∧aZe a b ((rest*18446744073709551616+a.getD i.toNat 0)%b) (i-1) (q.set i.toNat ((rest*18446744073709551616+a.getD i.toNat 0)/b)):=by
 have Z:=h.i1;have hl:=h.len;have J:rest<b:=by rw[h.res]; exact Nat.mod_lt _ (by omega)
 have Y:=lC g i.toNat;have e1:(i+1).toNat=i.toNat+1:=by omega
 have U:(i-1+1).toNat=i.toNat:=by omega
 have z:nv a/18446744073709551616^i.toNat=nv a/18446744073709551616^(i.toNat+1)*18446744073709551616+a.getD i.toNat 0:=by
  rw[aBw g,Nat.pow_succ,← Nat.div_div_eq_div_mul,Nat.mul_comm,Nat.div_add_mod]
 obtain⟨I,L⟩:=bEu (V:=b) (N:=nv a/18446744073709551616^(i.toNat+1)) (W:=18446744073709551616) (un0:=a.getD i.toNat 0) (by omega);have hs:=h.sum;have f:=h.res;rw[e1] at hs f;rw[← f,← z] at I L;have hz:q.getD i.toNat 0=0:=by
  rw[aBw h.lm,hs,Nat.pow_succ,Nat.mul_comm (18446744073709551616^i.toNat) 18446744073709551616,← Nat.mul_assoc,Nat.mul_div_cancel _ (Nat.pow_pos xAa),Nat.mul_mod_left]
 have hv:(rest*18446744073709551616+a.getD i.toNat 0)/b<18446744073709551616:=by
  refine(Nat.div_lt_iff_lt_mul (by omega)).2 ?_;omega
 refine⟨J,by omega,by omega,by simp_all,aEZ h.lm _ hv,?_,?_⟩
 ·have O:=aHz (a:=q) (k:=i.toNat) (v:=(rest*18446744073709551616+a.getD i.toNat 0)/b) (by omega);grind
 simp_all
theorem aWU(a:List Nat)(O:(Ty.sl qw).wf a)(b:Nat)(wb:(Ty.u .u64).wf b)(hp:aLh a b):aEq none a b=some (aB0 a b):=by
 have J:=aGi O;obtain⟨hb,z⟩:=hp;have z:a.length≤1099511627776:=z;unfold aEq aB0;have f:=mC (step:=fun d:Nat×Int×qd=>tB none a b d.1 d.2.1 d.2.2) (I:=fun d=>aZe a b d.1 d.2.1 d.2.2) (fun d=>(d.2.1+1).toNat) (fun e=>e.1=nv a%b∧nv e.2=nv a/b) ?_ (0,(a.length:Int)-1,List.replicate a.length 0) ?_
 ·obtain⟨e,g,N,L⟩:=f;refine aE (by omega) (aE (by omega) (aE (by omega) (bA g ?_)));unfold zX;rw[fI,fI,L,N];rfl
 ·rintro⟨rest,i,q⟩ h;have h:aZe a b rest i q:=h;have g:=h.i1;have hl:=h.len;show (∃d',tB none a b rest i q=_∧_)∨ ∃e,tB none a b rest i q=_∧_;unfold tB;by_cases hi:0≤i
  ·left
   obtain⟨Y,U⟩:=bBj J hb h hi;rw[if_pos hi];refine⟨(_,_,_),aE (by omega) (aE Y (aE (by omega) (aE (by omega) rfl))),U,by grind⟩
  ·right
   refine⟨(rest,q),by grind,?_⟩;have h0:=h.i0;have hs:=h.sum;have hr:=h.res;grind
 ·have e:((a.length:Int)-1+1).toNat=a.length:=by omega
  have Z:nv a/18446744073709551616^a.length=0:=Nat.div_eq_of_lt (uF J);exact⟨by grind,by grind,by simp,aQ5 _,by simp only; rw[e,Z,aQ4,Nat.zero_div,Nat.zero_mul],by grind[Nat.zero_mod]⟩
abbrev aFu(a:List Nat)(n:Int):Prop:=a.length≤n∧n≤1099511627777
def fY(a:List Nat)(n:Int):List Nat:=a++List.replicate (n.toNat-a.length) 0
def aCH(F:Md)(f:qd)(g:Int):Option qd :=
 ck (bFw f) (ck (I64 (g-(f.length:Int))) (ck (0≤(g-(f.length:Int))) (ck (((id f).length+(g-(f.length:Int)).toNat)*8≤140737488355328) (some ((id f)++(List.replicate (g-(f.length:Int)).toNat (0:Nat)))))))
theorem aVn(a:List Nat)(q:(Ty.sl qw).wf a)(n:Int)(g:(Ty.i .i64).wf n)(hp:aFu a n):aCH none a n=some (fY a n):=by
 obtain⟨I,z⟩:=hp;have f:bFw a:=by omega
 unfold aCH fY;simp only[id];refine aE f (aE (by omega) (aE (by omega) (aE (by omega) ?_)));simp_all
def zY(F:Md)(f:qd)(z:Nat)(g:Nat)(I:Nat)(carry_31:Nat)(q:qd):Option vr :=
 ck (0≤(f.length:Int)∧(f.length:Int)<((z:Nat):Int)) (ck (g+(f.length)<(q.length)) (ck (0≤(f.length:Int)∧(f.length:Int)<((z:Nat):Int)) (ck (g+(f.length)<(q.length)) (some ((wU F .u64 I (1:Nat)),(q.set (g+(f.length)) (((q.getD (g+(f.length)) (0:Nat))+carry_31)%18446744073709551616)))))))
def oE(F:Md)(z:qd)(I:Nat)(q:Nat)(carry_33:Nat)(f:Int)(g:qd):Option ((Nat×Int×qd)⊕vr) :=
 if f<(z.length:Int) then ck (0≤f∧f<(z.length:Int)) (ck (0≤f∧f<((I:Nat):Int)) (ck (q+(f.toNat)<(g.length)) (ck (aGh (g.getD (q+(f.toNat)) (0:Nat)) (z.getD (f.toNat) (0:Nat)) carry_33) (ck (0≤f∧f<((I:Nat):Int)) (ck (q+(f.toNat)<(g.length)) (ck (I64 (f+(1:Int))) (some (.inl ((uG (g.getD (q+(f.toNat)) (0:Nat)) (z.getD (f.toNat) (0:Nat)) carry_33).2.1,(f+(1:Int)),(g.set (q+(f.toNat)) (uG (g.getD (q+(f.toNat)) (0:Nat)) (z.getD (f.toNat) (0:Nat)) carry_33).1)))))))))) else some (.inr (carry_33,g))
def zZ(F:Md)(g:qd)(z:Nat)(f:Nat)(I:Nat)(carry_22:Nat)(borrow_23:Nat)(q:qd):Option vr :=
 ck (0≤(g.length:Int)∧(g.length:Int)<((z:Nat):Int)) (ck (f+(g.length)<(q.length)) (ck (aGh (q.getD (f+(g.length)) (0:Nat)) carry_22 borrow_23) (ck (0≤(g.length:Int)∧(g.length:Int)<((z:Nat):Int)) (ck (f+(g.length)<(q.length)) (if (aI8 (q.getD (f+(g.length)) (0:Nat)) carry_22 borrow_23).2.1=(0:Nat) then some (I,(q.set (f+(g.length)) (aI8 (q.getD (f+(g.length)) (0:Nat)) carry_22 borrow_23).1)) else (dE F (fun d:Nat×Int×qd=>oE F g z f d.1 d.2.1 d.2.2) ((0:Nat),(0:Int),(q.set (f+(g.length)) (aI8 (q.getD (f+(g.length)) (0:Nat)) carry_22 borrow_23).1))).bind (fun e=>zY F g z f I e.1 e.2))))))
def oF(F:Md)(I:qd)(q:Nat)(J:Nat)(z:Nat)(carry_41:Nat)(borrow_42:Nat)(f:Int)(g:qd):Option ((Nat×Nat×Int×qd)⊕(Nat×Nat×qd)) :=
 if f<(I.length:Int) then ck (0≤f∧f<(I.length:Int)) (ck (aGh (eH q (I.getD (f.toNat) (0:Nat))).2.1 carry_41 (0:Nat)) (ck (0≤f∧f<((J:Nat):Int)) (ck (z+(f.toNat)<(g.length)) (ck (aGh (g.getD (z+(f.toNat)) (0:Nat)) (uG (eH q (I.getD (f.toNat) (0:Nat))).2.1 carry_41 (0:Nat)).1 borrow_42) (ck (0≤f∧f<((J:Nat):Int)) (ck (z+(f.toNat)<(g.length)) (ck (I64 (f+(1:Int))) (some (.inl ((((eH q (I.getD (f.toNat) (0:Nat))).1+(uG (eH q (I.getD (f.toNat) (0:Nat))).2.1 carry_41 (0:Nat)).2.1)%18446744073709551616),(aI8 (g.getD (z+(f.toNat)) (0:Nat)) (uG (eH q (I.getD (f.toNat) (0:Nat))).2.1 carry_41 (0:Nat)).1 borrow_42).2.1,(f+(1:Int)),(g.set (z+(f.toNat)) (aI8 (g.getD (z+(f.toNat)) (0:Nat)) (uG (eH q (I.getD (f.toNat) (0:Nat))).2.1 carry_41 (0:Nat)).1 borrow_42).1))))))))))) else some (.inr (carry_41,borrow_42,g))
def wB(F:Md)(z:qd)(q:Nat)(g:Nat)(I:qd)(f:Nat):Option vr :=
 (dE F (fun d:Nat×Nat×Int×qd=>oF F z f q g d.1 d.2.1 d.2.2.1 d.2.2.2) ((0:Nat),(0:Nat),(0:Int),I)).bind (fun e=>zZ F z q g f e.1 e.2.1 e.2.2)
def pS(F:Md)(f:qd)(L:Nat)(I:Nat)(J:qd)(q:Nat)(g:Nat)(z:Nat):Option ((Nat×Nat×Nat)⊕(Nat)) :=
 if z=(0:Nat) then ck (I64 ((f.length:Int)-(2:Int))) (ck (0≤((f.length:Int)-(2:Int))∧((f.length:Int)-(2:Int))<(f.length:Int)) (ck (¬((eH q (f.getD ((f.length:Int)-(2:Int)).toNat (0:Nat))).1<g)→((eH q (f.getD ((f.length:Int)-(2:Int)).toNat (0:Nat))).1=g)→(I64 ((f.length:Int)-(2:Int)))) (ck (¬((eH q (f.getD ((f.length:Int)-(2:Int)).toNat (0:Nat))).1<g)→((eH q (f.getD ((f.length:Int)-(2:Int)).toNat (0:Nat))).1=g)→(0≤((f.length:Int)-(2:Int))∧((f.length:Int)-(2:Int))<((L:Nat):Int)∧I+((f.length:Int)-(2:Int)).toNat<(J.length))) (if ((eH q (f.getD ((f.length:Int)-(2:Int)).toNat (0:Nat))).1<g)∨(((eH q (f.getD ((f.length:Int)-(2:Int)).toNat (0:Nat))).1=g)∧((eH q (f.getD ((f.length:Int)-(2:Int)).toNat (0:Nat))).2.1≤(J.getD (I+((f.length:Int)-(2:Int)).toNat) (0:Nat)))) then some (.inr q) else ck (I64 ((f.length:Int)-(1:Int))) (ck (0≤((f.length:Int)-(1:Int))∧((f.length:Int)-(1:Int))<(f.length:Int)) (ck (aGh g (f.getD ((f.length:Int)-(1:Int)).toNat (0:Nat)) (0:Nat)) (some (.inl ((wU F .u64 q (1:Nat)),(uG g (f.getD ((f.length:Int)-(1:Int)).toNat (0:Nat)) (0:Nat)).1,(uG g (f.getD ((f.length:Int)-(1:Int)).toNat (0:Nat)) (0:Nat)).2.1))))))))) else some (.inr q)
def tC(F:Md)(J:qd)(I:Nat)(q:Nat)(z:qd)(L:Nat)(g:Nat)(f:Nat):Option vr :=
 (dE F (fun d:Nat×Nat×Nat=>pS F J I q z d.1 d.2.1 d.2.2) (L,g,f)).bind (fun e=>wB F J I q z e)
def aB1(F:Md)(q:Nat)(z:Nat)(f:qd)(g:qd):Option vr :=
 ck (0≤(f.length:Int)∧(f.length:Int)<((z:Nat):Int)) (ck (q+(f.length)<(g.length)) (ck (I64 ((f.length:Int)-(1:Int))) (ck (0≤((f.length:Int)-(1:Int))∧((f.length:Int)-(1:Int))<(f.length:Int)) (if (g.getD (q+(f.length)) (0:Nat))<(f.getD ((f.length:Int)-(1:Int)).toNat (0:Nat)) then ck (0≤(f.length:Int)∧(f.length:Int)<((z:Nat):Int)) (ck (q+(f.length)<(g.length)) (ck (I64 ((f.length:Int)-(1:Int))) (ck (0≤((f.length:Int)-(1:Int))∧((f.length:Int)-(1:Int))<((z:Nat):Int)) (ck (q+((f.length:Int)-(1:Int)).toNat<(g.length)) (ck (I64 ((f.length:Int)-(1:Int))) (ck (0≤((f.length:Int)-(1:Int))∧((f.length:Int)-(1:Int))<(f.length:Int)) (ck (aFt (g.getD (q+(f.length)) (0:Nat)) (g.getD (q+((f.length:Int)-(1:Int)).toNat) (0:Nat)) (f.getD ((f.length:Int)-(1:Int)).toNat (0:Nat))) (tC F f z q g (rO (g.getD (q+(f.length)) (0:Nat)) (g.getD (q+((f.length:Int)-(1:Int)).toNat) (0:Nat)) (f.getD ((f.length:Int)-(1:Int)).toNat (0:Nat))).1 (rO (g.getD (q+(f.length)) (0:Nat)) (g.getD (q+((f.length:Int)-(1:Int)).toNat) (0:Nat)) (f.getD ((f.length:Int)-(1:Int)).toNat (0:Nat))).2.1 (0:Nat))))))))) else ck (I64 ((f.length:Int)-(1:Int))) (ck (0≤((f.length:Int)-(1:Int))∧((f.length:Int)-(1:Int))<((z:Nat):Int)) (ck (q+((f.length:Int)-(1:Int)).toNat<(g.length)) (ck (I64 ((f.length:Int)-(1:Int))) (ck (0≤((f.length:Int)-(1:Int))∧((f.length:Int)-(1:Int))<(f.length:Int)) (ck (aGh (g.getD (q+((f.length:Int)-(1:Int)).toNat) (0:Nat)) (f.getD ((f.length:Int)-(1:Int)).toNat (0:Nat)) (0:Nat)) (tC F f z q g (18446744073709551615:Nat) (uG (g.getD (q+((f.length:Int)-(1:Int)).toNat) (0:Nat)) (f.getD ((f.length:Int)-(1:Int)).toNat (0:Nat)) (0:Nat)).1 (uG (g.getD (q+((f.length:Int)-(1:Int)).toNat) (0:Nat)) (f.getD ((f.length:Int)-(1:Int)).toNat (0:Nat)) (0:Nat)).2.1))))))))))
structure DgN(X V P v1 v0 U2 U1 U0:Nat):Prop where
 hP:0<P
 hX:X/P=(U2*18446744073709551616+U1)*18446744073709551616+U0
 hV:V/P=v1*18446744073709551616+v0
 v1l:9223372036854775808≤v1
 v1h:v1<18446744073709551616
 v0h:v0<18446744073709551616
 u2h:U2<18446744073709551616
 u1h:U1<18446744073709551616
 u0h:U0<18446744073709551616
 hq:X<18446744073709551616*V
variable {X V P v1 v0 U2 U1 U0:Nat}
theorem bLV(h:DgN X V P v1 v0 U2 U1 U0):U2≤v1:=by
 have g:V<(V/P+1)*P:=by rw[Nat.mul_comm]; exact Nat.lt_mul_div_succ V h.hP
 have f:X/P<18446744073709551616*(V/P+1):=by
  refine(Nat.div_lt_iff_lt_mul h.hP).2 (Nat.lt_of_lt_of_le h.hq ?_);grind
 rw[h.hX,h.hV] at f;have a:=h.v0h;omega
theorem bK4(h:DgN X V P v1 v0 U2 U1 U0):X/V*(v1*18446744073709551616+v0)≤(U2*18446744073709551616+U1)*18446744073709551616+U0:=by
 rw[← h.hX,← h.hV];refine(Nat.le_div_iff_mul_le h.hP).2 ?_;rw[Nat.mul_assoc];exact Nat.le_trans (Nat.mul_le_mul_left _ (Nat.div_mul_le_self V P)) (Nat.div_mul_le_self X V)
theorem mul_two(x v1 v0:Nat):x*(v1*18446744073709551616+v0)=x*v1*18446744073709551616+x*v0:=by grind
theorem bLW(h:DgN X V P v1 v0 U2 U1 U0):X/V≤(U2*18446744073709551616+U1)/v1:=by
 refine(Nat.le_div_iff_mul_le (by have:=h.v1l; omega)).2 ?_;have f:=bK4 h;rw[mul_two] at f;have b:=h.u0h;omega
theorem bLX(h:DgN X V P v1 v0 U2 U1 U0):X/V<18446744073709551616:=(Nat.div_lt_iff_lt_mul (by
 have:=h.hq;omega)).2 h.hq
theorem bEv(h:DgN X V P v1 v0 U2 U1 U0){x:Nat}(J:x<18446744073709551616)(g:x*(v1*18446744073709551616+v0)≤(U2*18446744073709551616+U1)*18446744073709551616+U0):x≤X/V+1:=by
 rcases x with _|y
 ·simp_all
 refine Nat.succ_le_succ ?_;have f:0<V:=by
  rcases Nat.eq_zero_or_pos V with h0|h0
  ·have:=h.hq; omega
  omega
 refine(Nat.le_div_iff_mul_le f).2 ?_;rw[← h.hX,← h.hV] at g;have e:=Nat.div_add_mod V P;have m:=Nat.mod_lt V h.hP;have L:(y+1)*(V/P)*P≤X:=Nat.le_trans (Nat.mul_le_mul_right P g) (Nat.div_mul_le_self X P);have z:y*(V%P)≤18446744073709551616*P:=Nat.mul_le_mul (by omega) (Nat.le_of_lt m);have q:18446744073709551616*P≤V/P*P:=Nat.mul_le_mul_right _ (by rw[h.hV]; have:=h.v1l; omega);have I:y*V=y*(V/P)*P+y*(V%P):=by
  grind
 grind
structure DgL(v1 U2 U1 Q x rest over:Nat):Prop where
 eq:x*v1+(rest+over*18446744073709551616)=U2*18446744073709551616+U1
 r1:rest<18446744073709551616
 o1:over≤1
 x1:x<18446744073709551616
 ge:Q≤x
theorem bHM{Q x rest:Nat}(f:v0<18446744073709551616)(g:U0<18446744073709551616)(h:DgL v1 U2 U1 Q x rest 0):(x*v0/18446744073709551616<rest∨x*v0/18446744073709551616=rest∧x*v0%18446744073709551616≤U0)↔x*(v1*18446744073709551616+v0)≤(U2*18446744073709551616+U1)*18446744073709551616+U0:=by
 have e:=h.eq;grind
theorem bKd{Q x rest:Nat}(f:v0<18446744073709551616)(h:DgL v1 U2 U1 Q x rest 1):x*(v1*18446744073709551616+v0)≤(U2*18446744073709551616+U1)*18446744073709551616+U0:=by
 have e:=h.eq;have r:=h.r1;have p:x*v0≤18446744073709551615*18446744073709551615:=Nat.mul_le_mul (by have:=h.x1; omega) (by omega);grind
theorem bHN{Q x rest:Nat}(g:v1<18446744073709551616)(q:Q*(v1*18446744073709551616+v0)≤(U2*18446744073709551616+U1)*18446744073709551616+U0)(h:DgL v1 U2 U1 Q x rest 0)(hc:¬x*(v1*18446744073709551616+v0)≤(U2*18446744073709551616+U1)*18446744073709551616+U0) :
  aKp .u64 x 1=x-1∧x-1<x∧DgL v1 U2 U1 Q (x-1) ((rest+v1+0)%18446744073709551616) ((rest+v1+0)/18446744073709551616):=by
 have f:Q<x:=by
  refine Nat.lt_of_mul_lt_mul_right (a:=v1*18446744073709551616+v0) ?_;omega
 have e:=h.eq;have r:=h.r1;have x1:=h.x1;obtain⟨y,rfl⟩:∃y,x=y+1:=⟨x-1,by omega⟩;rw[Nat.add_mul] at e;refine⟨bBa x1 (by omega),by omega,⟨?_,Nat.mod_lt _ xAa,by omega,by omega,by omega⟩⟩;grind
theorem bHO{v o:List Nat}{j un:Nat}(N:2≤v.length)(hs:v.length≤9000000000000)(U:un=v.length+1)(O:j+un≤o.length)
  (h:DgN X V P (v.getD (v.length-1) 0) (v.getD (v.length-2) 0) U2 U1 (o.getD (j+(v.length-2)) 0)) {x rest over:Nat} (hi:DgL (v.getD (v.length-1) 0) U2 U1 (X/V) x rest over) :
  ∃e,aG4 (fun d:Nat×Nat×Nat=>pS none v un j o d.1 d.2.1 d.2.2) (x,rest,over)=some e∧X/V≤e∧e≤X/V+1∧e<18446744073709551616:=by
 have e1:((v.length:Int)-1).toNat=v.length-1:=by omega
 have f:((v.length:Int)-2).toNat=v.length-2:=by omega
 refine mC (step:=fun d:Nat×Nat×Nat=>pS none v un j o d.1 d.2.1 d.2.2) (I:=fun d=>DgL (v.getD (v.length-1) 0) U2 U1 (X/V) d.1 d.2.1 d.2.2) (fun d=>d.1) (fun e=>X/V≤e∧e≤X/V+1∧e<18446744073709551616) ?_ (x,rest,over) hi;rintro⟨x,rest,over⟩ hi;have hi:DgL (v.getD (v.length-1) 0) U2 U1 (X/V) x rest over:=hi;show (∃d',pS none v un j o x rest over=_∧_)∨ ∃e,pS none v un j o x rest over=_∧_;unfold pS;try simp only[wU,mulM,aMG]
 rw[e1,f];by_cases h0:over=0
 ·subst h0;have ht:=bHM h.v0h h.u0h hi;rw[if_pos rfl];by_cases hc:x*(v.getD (v.length-1) 0*18446744073709551616+v.getD (v.length-2) 0)≤(U2*18446744073709551616+U1)*18446744073709551616+o.getD (j+(v.length-2)) 0
  ·right
   refine⟨x,?_,hi.ge,bEv h hi.x1 hc,hi.x1⟩;refine aE (by omega) (aE (by omega) (aE (fun _ _=>by omega) (aE (fun _ _=>by omega) ?_)));exact(if_pos (ht.2 hc))
  ·left
   obtain⟨J,g,L⟩:=bHN h.v1h (bK4 h) hi hc;refine⟨(x-1,(rest+v.getD (v.length-1) 0+0)%18446744073709551616,(rest+v.getD (v.length-1) 0+0)/18446744073709551616),?_,L,g⟩;refine aE (by omega) (aE (by omega) (aE (fun _ _=>by omega) (aE (fun _ _=>by omega) ?_)));refine(if_neg (fun z=>hc (ht.1 z))).trans ?_;rw[J];exact aE (by omega) (aE (by omega) (aE (Nat.zero_le _) rfl))
 ·right
  have q:over=1:=by have:=hi.o1; omega
  subst q;exact⟨x,by rfl,hi.ge,bEv h hi.x1 (bKd h.v0h hi),hi.x1⟩
end
end Nu
end Go.Proofs
namespace Go.Proofs
open Go.Vc
set_option maxRecDepth 20000
namespace Nu
theorem bBk{x y c b o lo hi z c' d b':Nat}(e:18446744073709551616*hi+lo=x*y)(g:lo<18446744073709551616)(hp:x*y≤18446744073709551615*18446744073709551615)(hc:c<18446744073709551616)(hb:b≤1)(I:o<18446744073709551616)
  (J:z=(lo+c+0)%18446744073709551616) (q:c'=(hi+(lo+c+0)/18446744073709551616)%18446744073709551616) (hd:d=(o+18446744073709551616-z-b)%18446744073709551616) (f:b'=if o<z+b then 1 else 0) :
  d+x*y+c+b=o+18446744073709551616*(c'+b')∧d<18446744073709551616∧c'<18446744073709551616∧b'≤1:=by
 grind
theorem bLY{N g f Q R P o d c b c' b' x y t:Nat}(hP:P=Q*R)(I:g+P*o=N+P*d)(z:N+Q*x*t=f+P*(c+b))(q:d+x*y+c+b=o+18446744073709551616*(c'+b')):g+Q*x*(t+R*y)=f+P*18446744073709551616*(c'+b'):=by
 grind
theorem bLZ{N g f Q R P o d c c' y t:Nat}(hP:P=Q*R)(I:g+P*o=N+P*d)(z:N+P*c=f+Q*t)(q:d+18446744073709551616*c'=o+y+c):g+P*18446744073709551616*c'=f+Q*(t+R*y):=by
 grind
structure MsI(v u:List Nat)(x j:Nat)(c b:Nat)(i:Int)(w:List Nat):Prop where
 i0:0≤i
 i1:i≤v.length
 len:w.length=u.length
 lm:Lm w
 c1:c<18446744073709551616
 b1:b≤1
 rest:w.drop (j+i.toNat)=u.drop (j+i.toNat)
 sum:nv w+18446744073709551616^j*x*nv (v.take i.toNat)=nv u+18446744073709551616^(j+i.toNat)*(c+b)
structure AbI(v u:List Nat)(j:Nat)(c:Nat)(i:Int)(w:List Nat):Prop where
 i0:0≤i
 i1:i≤v.length
 len:w.length=u.length
 lm:Lm w
 c1:c≤1
 rest:w.drop (j+i.toNat)=u.drop (j+i.toNat)
 sum:nv w+18446744073709551616^(j+i.toNat)*c=nv u+18446744073709551616^j*nv (v.take i.toNat)
theorem bHP{v u:List Nat}{x j c b:Nat}{i:Int}{w:List Nat}(z:j+v.length<u.length)(h:MsI v u x j c b i w)(hi:i<v.length){d c' b':Nat}(hd:d<18446744073709551616)(g:c'<18446744073709551616)(f:b'≤1)
  (e:d+x*v.getD i.toNat 0+c+b=w.getD (j+i.toNat) 0+18446744073709551616*(c'+b')):MsI v u x j c' b' (i+1) (w.set (j+i.toNat) d):=by
 have h0:=h.i0;have q:=h.len;have e1:(i+1).toNat=i.toNat+1:=by omega
 refine⟨by omega,by omega,by simp_all,aEZ h.lm _ hd,g,f,?_,?_⟩
 ·rw[e1,← Nat.add_assoc,drop_set]; exact aFX h.rest
 ·rw[e1,xD,← Nat.add_assoc,Nat.pow_succ];exact bLY (R:=18446744073709551616^i.toNat) (Nat.pow_add _ _ _) (aHz (by omega)) h.sum e
theorem bHQ{v u:List Nat}{j c:Nat}{i:Int}{w:List Nat}(q:j+v.length<u.length)(h:AbI v u j c i w)(hi:i<v.length){d c':Nat}(hd:d<18446744073709551616)(f:c'≤1)
  (e:d+18446744073709551616*c'=w.getD (j+i.toNat) 0+v.getD i.toNat 0+c):AbI v u j c' (i+1) (w.set (j+i.toNat) d):=by
 have h0:=h.i0;have g:=h.len;have e1:(i+1).toNat=i.toNat+1:=by omega
 refine⟨by omega,by omega,by simp_all,aEZ h.lm _ hd,f,?_,?_⟩
 ·rw[e1,← Nat.add_assoc,drop_set]; exact aFX h.rest
 ·rw[e1,xD,← Nat.add_assoc,Nat.pow_succ];exact bLZ (R:=18446744073709551616^i.toNat) (Nat.pow_add _ _ _) (aHz (by omega)) h.sum e
theorem bFD{v u:List Nat}{x j un:Nat}(g:Lm v)(U:x<18446744073709551616)(hs:v.length≤9000000000000)(O:un=v.length+1)(Y:j+un≤u.length)(lu:Lm u) :
  ∃e,dE none (fun d:Nat×Nat×Int×qd=>oF none v x un j d.1 d.2.1 d.2.2.1 d.2.2.2) (0,0,0,u)=some e∧MsI v u x j e.1 e.2.1 v.length e.2.2:=by
 refine mC (step:=fun d:Nat×Nat×Int×qd=>oF none v x un j d.1 d.2.1 d.2.2.1 d.2.2.2) (I:=fun d=>MsI v u x j d.1 d.2.1 d.2.2.1 d.2.2.2) (fun d=>(v.length-d.2.2.1).toNat) (fun e=>MsI v u x j e.1 e.2.1 v.length e.2.2) ?_ (0,0,0,u) ⟨by simp,by simp,rfl,lu,by simp,by simp,rfl,by simp[nv]⟩;rintro⟨c,b,i,w⟩ h;have h:MsI v u x j c b i w:=h;have h0:=h.i0;have f:=h.len;show (∃d',oF none v x un j c b i w=_∧_)∨ ∃e,oF none v x un j c b i w=_∧_;unfold oF;by_cases hi:i<v.length
 ·left
  have hy:=lC g i.toNat;have q:=lC h.lm (j+i.toNat);have hb:=h.b1;obtain⟨N,L,J,z⟩:=bBk (b':=if w.getD (j+i.toNat) 0<(x*v.getD i.toNat 0%18446744073709551616+c+0)%18446744073709551616+b then 1 else 0) (Nat.div_add_mod (x*v.getD i.toNat 0) 18446744073709551616) (Nat.mod_lt _ xAa) (Nat.mul_le_mul (by omega) (by omega)) h.c1 hb q rfl rfl rfl rfl;refine⟨((x*v.getD i.toNat 0/18446744073709551616+(x*v.getD i.toNat 0%18446744073709551616+c+0)/18446744073709551616)%18446744073709551616,(if w.getD (j+i.toNat) 0<(x*v.getD i.toNat 0%18446744073709551616+c+0)%18446744073709551616+b then 1 else 0),i+1,w.set (j+i.toNat) ((w.getD (j+i.toNat) 0+18446744073709551616-(x*v.getD i.toNat 0%18446744073709551616+c+0)%18446744073709551616-b)%18446744073709551616)),?_,bHP (by omega) h hi L J z N,by grind⟩;rw[if_pos hi];exact aE (by omega) (aE (Nat.zero_le _) (aE (by omega) (aE (by omega) (aE hb (aE (by omega) (aE (by omega) (aE (by omega) rfl)))))))
 ·right
  refine⟨(c,b,w),by grind,?_⟩;have e:i=v.length:=by have:=h.i1; omega
  simp_all
theorem bFE{v u:List Nat}{j un:Nat}(g:Lm v)(hs:v.length≤9000000000000)(z:un=v.length+1)(J:j+un≤u.length)(lu:Lm u) :
  ∃e,dE none (fun d:Nat×Int×qd=>oE none v un j d.1 d.2.1 d.2.2) (0,0,u)=some e∧AbI v u j e.1 v.length e.2:=by
 refine mC (step:=fun d:Nat×Int×qd=>oE none v un j d.1 d.2.1 d.2.2) (I:=fun d=>AbI v u j d.1 d.2.1 d.2.2) (fun d=>(v.length-d.2.1).toNat) (fun e=>AbI v u j e.1 v.length e.2) ?_ (0,0,u) ⟨by simp,by simp,rfl,lu,by simp,rfl,by simp[nv]⟩;rintro⟨c,i,w⟩ h;have h:AbI v u j c i w:=h;have h0:=h.i0;have f:=h.len;show (∃d',oE none v un j c i w=_∧_)∨ ∃e,oE none v un j c i w=_∧_;unfold oE;by_cases hi:i<v.length
 ·left
  have hy:=lC g i.toNat;have q:=lC h.lm (j+i.toNat);have hc:=h.c1;have L:=Nat.div_add_mod (w.getD (j+i.toNat) 0+v.getD i.toNat 0+c) 18446744073709551616;refine⟨(_,_,_),?_,bHQ (d:=(w.getD (j+i.toNat) 0+v.getD i.toNat 0+c)%18446744073709551616) (c':=(w.getD (j+i.toNat) 0+v.getD i.toNat 0+c)/18446744073709551616) (by omega) h hi (Nat.mod_lt _ xAa) (by omega) (by omega),by grind⟩;rw[if_pos hi];refine aE (by omega) (aE (by omega) (aE (by omega) (aE hc (aE (by omega) (aE (by omega) (aE (by omega) ?_))))));rfl
 ·right
  refine⟨(c,w),by grind,?_⟩;have e:i=v.length:=by have:=h.i1; omega
  simp_all
theorem bEw{w u:List Nat}{K:Nat}(g:Lm w)(lu:Lm u)(h:w.drop K=u.drop K)(q:nv u<18446744073709551616^K):nv w<18446744073709551616^K:=by
 have hp:0<18446744073709551616^K:=Nat.pow_pos xAa;have f:=aO9 g K;rw[h,aO9 lu,Nat.div_eq_of_lt q] at f;exact(Nat.div_eq_zero_iff_lt hp).1 f.symm
theorem bHR{N f W x:Nat}{Q:Nat}(g:0<W)(q:Q=N/W)(z:Q≤x)(h:f+x*W=N):x=Q∧f+Q*W=N:=by
 have I:x≤N/W:=(Nat.le_div_iff_mul_le g).2 (by omega);grind
theorem bKe{N q z g W x T S f c:Nat}{Q:Nat}(hQ:Q=N/W)(hx1:Q≤x)(L:x≤Q+1)(U:q+x*W=N+T)(Z:q<T)(h4:z+S*c=q+W)(J:g+S*f=z+S*((f+c)%18446744073709551616))(O:g<T)(hT:T=S*18446744073709551616)(ho:f<18446744073709551616)(hc:c≤1) :
  x=Q+1∧g+Q*W=N:=by
 have I:Q*W≤N:=by simp_all[Nat.div_mul_le_self]
 have Y:x=Q+1:=by
  grind
 subst Y;refine⟨rfl,?_⟩;rw[Nat.add_mul,Nat.one_mul] at U;rcases Nat.lt_or_ge (f+c) 18446744073709551616 with h|h
 ·rw[Nat.mod_eq_of_lt h,Nat.mul_add] at J;omega
 ·have e:(f+c)%18446744073709551616=0:=by omega
  grind
theorem aWV{v u:List Nat}{j un:Nat}(J:Lm v)(lu:Lm u)(hn:2≤v.length)(hs:v.length≤9000000000000)(hu:un=v.length+1)(ho:j+un≤u.length)
  (hv:9223372036854775808≤v.getD (v.length-1) 0) (hq:nv u<18446744073709551616^(j+1)*nv v) :
  ∃w,aB1 none j un v u=some (nv u/(18446744073709551616^j*nv v),w)∧w.length=u.length∧Lm w∧nv w+nv u/(18446744073709551616^j*nv v)*(18446744073709551616^j*nv v)=nv u:=by
 have Y:=uF J;have hJ:0<18446744073709551616^j:=Nat.pow_pos xAa;have hX:nv u/18446744073709551616^j<18446744073709551616*nv v:=(Nat.div_lt_iff_lt_mul hJ).2 (by rw[Nat.pow_succ,Nat.mul_assoc] at hq; grind);have N:nv u/18446744073709551616^j/nv v=nv u/(18446744073709551616^j*nv v):=Nat.div_div_eq_div_mul _ _ _;have U:nv u<18446744073709551616^(j+v.length+1):=by
  refine Nat.lt_of_lt_of_le hq ?_;rw[show j+v.length+1=j+1+v.length from by omega,Nat.pow_add _ (j+1)];exact Nat.mul_le_mul_left _ (Nat.le_of_lt Y)
 have hD:DgN (nv u/18446744073709551616^j) (nv v) (18446744073709551616^(v.length-2)) (v.getD (v.length-1) 0) (v.getD (v.length-2) 0) (u.getD (j+v.length) 0) (u.getD (j+(v.length-1)) 0) (u.getD (j+(v.length-2)) 0):=by
  refine⟨Nat.pow_pos xAa,?_,?_,hv,lC J _,lC J _,lC lu _,lC lu _,lC lu _,hX⟩
  ·have e1:j+(v.length-1)=j+(v.length-2)+1:=(by omega);have e2:j+v.length=j+(v.length-2)+1+1:=(by omega);have hz:nv u/18446744073709551616^(j+(v.length-2))<18446744073709551616*18446744073709551616*18446744073709551616:=by
    refine(Nat.div_lt_iff_lt_mul (Nat.pow_pos xAa)).2 ?_;rw[show j+v.length+1=j+(v.length-2)+1+1+1 from by omega,Nat.pow_succ,Nat.pow_succ,Nat.pow_succ] at U;grind
   rw[aBw lu,aBw lu,aBw lu,e1,e2,Nat.pow_succ,Nat.pow_succ,← Nat.div_div_eq_div_mul,← Nat.div_div_eq_div_mul,Nat.div_div_eq_div_mul _ (18446744073709551616^j),← Nat.pow_add];grind
  ·have hz:nv v/18446744073709551616^(v.length-2)<18446744073709551616*18446744073709551616:=by
    refine(Nat.div_lt_iff_lt_mul (Nat.pow_pos xAa)).2 ?_;have h:=Y;rw[show v.length=v.length-2+1+1 from by omega,Nat.pow_succ,Nat.pow_succ] at h;grind
   rw[aBw J,aBw J,show v.length-1=v.length-2+1 from by omega,Nat.pow_succ,← Nat.div_div_eq_div_mul];grind
 have e1:((v.length:Int)-1).toNat=v.length-1:=by omega
 rw[← N];have hV0:0<nv v:=by
  grind
 have hW:0<18446744073709551616^j*nv v:=Nat.mul_pos hJ hV0;have main:∀x,nv u/18446744073709551616^j/nv v≤x→x≤nv u/18446744073709551616^j/nv v+1→x<18446744073709551616→ ∃w,wB none v un j u x=some (nv u/18446744073709551616^j/nv v,w)∧w.length=u.length∧Lm w∧nv w+nv u/18446744073709551616^j/nv v*(18446744073709551616^j*nv v)=nv u:=by
  intro x Z hx2 hx3;obtain⟨⟨c,b,w⟩,m1,z⟩:=bFD (j:=j) J hx3 hs hu ho lu;have z:MsI v u x j c b v.length w:=z;have hlen:=z.len;have ho2:=lC z.lm (j+v.length);have hc:=z.c1;have hb:=z.b1;have hrest:=z.rest;have g:=z.sum;rw[Int.toNat_natCast] at hrest g;rw[List.take_length] at g;have hset:=aHz (a:=w) (k:=j+v.length) (v:=(w.getD (j+v.length) 0+18446744073709551616-c-b)%18446744073709551616) (by omega);have q:Lm (w.set (j+v.length) ((w.getD (j+v.length) 0+18446744073709551616-c-b)%18446744073709551616)):=aEZ z.lm _ (Nat.mod_lt _ xAa);have hr2:(w.set (j+v.length) ((w.getD (j+v.length) 0+18446744073709551616-c-b)%18446744073709551616)).drop (j+v.length+1)=u.drop (j+v.length+1):=by
   grind[drop_set,aFX]
  have hT3:=bEw q lu hr2 U;have hx:18446744073709551616^j*x*nv v=x*(18446744073709551616^j*nv v):=by grind
  rw[hx] at g;unfold wB;rw[m1];simp only[Option.bind_some];unfold zZ;by_cases hbo:w.getD (j+v.length) 0<c+b
  ·
   have hd:(w.getD (j+v.length) 0+18446744073709551616-c-b)%18446744073709551616+c+b=w.getD (j+v.length) 0+18446744073709551616:=(by omega);have h3:nv (w.set (j+v.length) ((w.getD (j+v.length) 0+18446744073709551616-c-b)%18446744073709551616))+x*(18446744073709551616^j*nv v)=nv u+18446744073709551616^(j+v.length+1):=by
    grind
   have hb1:¬(aI8 (w.getD (j+v.length) 0) c b).2.1=0:=(by show ¬(if w.getD (j+v.length) 0<c+b then 1 else 0)=0; simp_all);have hl3:(w.set (j+v.length) ((w.getD (j+v.length) 0+18446744073709551616-c-b)%18446744073709551616)).length=u.length:=(by simp_all);obtain⟨w3,hw3⟩:∃w3,w3=w.set (j+v.length) ((w.getD (j+v.length) 0+18446744073709551616-c-b)%18446744073709551616):=⟨_,rfl⟩;have hw3':w.set (j+v.length) (aI8 (w.getD (j+v.length) 0) c b).1=w3:=hw3.symm;rw[← hw3] at h3 hT3 q hr2 hl3;obtain⟨⟨c4,L⟩,n1,I⟩:=bFE (u:=w3) (j:=j) J hs hu (by omega) q;have I:AbI v w3 j c4 v.length L:=I;have hl4:=I.len;have ho4:=lC I.lm (j+v.length);have hrest4:=I.rest;have f:=I.sum;rw[Int.toNat_natCast] at hrest4 f;rw[List.take_length] at f;have O:=aHz (a:=L) (k:=j+v.length) (v:=(L.getD (j+v.length) 0+c4)%18446744073709551616) (by omega);have lw5:Lm (L.set (j+v.length) ((L.getD (j+v.length) 0+c4)%18446744073709551616)):=aEZ I.lm _ (Nat.mod_lt _ xAa);have hr5:(L.set (j+v.length) ((L.getD (j+v.length) 0+c4)%18446744073709551616)).drop (j+v.length+1)=u.drop (j+v.length+1):=by
    grind[drop_set,aFX]
   have hT5:=bEw lw5 lu hr5 U;obtain⟨f1,f2⟩:=bKe N Z hx2 h3 hT3 f O hT5 (Nat.pow_succ ..) ho4 I.c1;refine⟨_,aE (by omega) (aE (by omega) (aE hb (aE (by omega) (aE (by omega) ?_)))),?_,lw5,f2⟩
   ·refine(if_neg hb1).trans ?_;rw[hw3'];refine bA n1 ?_;unfold zY;(try simp only[wU,mulM,aMG]);refine aE (by omega) (aE (by omega) (aE (by omega) (aE (by omega) ?_)));simp_all[bBa,Nat.succ_le_succ,Nat.zero_le,Nat.add_sub_cancel]
   simp_all
  ·have hd:(w.getD (j+v.length) 0+18446744073709551616-c-b)%18446744073709551616+c+b=w.getD (j+v.length) 0:=(by omega);have h3:nv (w.set (j+v.length) ((w.getD (j+v.length) 0+18446744073709551616-c-b)%18446744073709551616))+x*(18446744073709551616^j*nv v)=nv u:=by
    grind
   have hb0:(aI8 (w.getD (j+v.length) 0) c b).2.1=0:=if_neg hbo;obtain⟨f1,f2⟩:=bHR hW N Z h3;refine⟨_,aE (by omega) (aE (by omega) (aE hb (aE (by omega) (aE (by omega) ?_)))),?_,q,f2⟩
   ·refine(if_pos hb0).trans ?_;rw[f1]; rfl
   simp_all
 have start:∀x rest over,DgL (v.getD (v.length-1) 0) (u.getD (j+v.length) 0) (u.getD (j+(v.length-1)) 0) (nv u/18446744073709551616^j/nv v) x rest over→ ∃w,tC none v un j u x rest over=some (nv u/18446744073709551616^j/nv v,w)∧w.length=u.length∧Lm w∧nv w+nv u/18446744073709551616^j/nv v*(18446744073709551616^j*nv v)=nv u:=by
  intro x rest over hL;obtain⟨e,g1,g2,g3,g4⟩:=bHO hn hs hu ho hD hL;simp_all[tC,bA]
 have hu1:=lC lu (j+(v.length-1));have hu2:=lC lu (j+v.length);have hv1:=lC J (v.length-1);have hge:=bLW hD;have hlt:=bLX hD;have hle:=bLV hD;unfold aB1;rw[e1];by_cases hc:u.getD (j+v.length) 0<v.getD (v.length-1) 0
 ·have hdm:=Nat.div_add_mod (u.getD (j+v.length) 0*18446744073709551616+u.getD (j+(v.length-1)) 0) (v.getD (v.length-1) 0);have hml:=Nat.mod_lt (u.getD (j+v.length) 0*18446744073709551616+u.getD (j+(v.length-1)) 0) (show 0<v.getD (v.length-1) 0 by omega);have hdl:(u.getD (j+v.length) 0*18446744073709551616+u.getD (j+(v.length-1)) 0)/v.getD (v.length-1) 0<18446744073709551616:=by
   refine(Nat.div_lt_iff_lt_mul (by omega)).2 ?_;omega
  obtain⟨w,k1,k2⟩:=start _ _ 0 ⟨by grind,Nat.lt_trans hml hv1,by decide,hdl,hge⟩;refine⟨w,?_,k2⟩;refine aE (by omega) (aE (by omega) (aE (by omega) (aE (by omega) ?_)));refine(if_pos hc).trans ?_;exact aE (by omega) (aE (by omega) (aE (by omega) (aE (by omega) (aE (by omega) (aE (by omega) (aE (by omega) (aE hc k1)))))))
 ·have hd:=Nat.div_add_mod (u.getD (j+(v.length-1)) 0+v.getD (v.length-1) 0+0) 18446744073709551616;obtain⟨w,k1,k2⟩:=start 18446744073709551615 ((u.getD (j+(v.length-1)) 0+v.getD (v.length-1) 0+0)%18446744073709551616) ((u.getD (j+(v.length-1)) 0+v.getD (v.length-1) 0+0)/18446744073709551616) ⟨by omega,Nat.mod_lt _ xAa,by omega,by decide,by omega⟩;refine⟨w,?_,k2⟩;refine aE (by omega) (aE (by omega) (aE (by omega) (aE (by omega) ?_)));refine(if_neg hc).trans ?_;exact aE (by omega) (aE (by omega) (aE (by omega) (aE (by omega) (aE (by omega) (aE (Nat.zero_le _) k1)))))
noncomputable section
abbrev aJa(a b:List Nat):Prop:=Nrm a∧Nrm b∧nv b≠0∧a.length≤1099511627776
def rP(a b:List Nat):List Nat×List Nat×Unit:=(lb (nv a/nv b),lb (nv a%nv b),())
def aBx(F:Md)(f:qd)(g:qd)(q:qd):Option qn :=
 ck (0≤(f.length:Int)∧(f.length:Int)≤(g.length:Int)) (ck (aZd (fI (List.take (f.length) g)) (aC (f.getD ((f.length:Int)-(1:Int)).toNat (0:Nat)))) (some ((fI q),(wX (fI (List.take (f.length) g)) (aC (f.getD ((f.length:Int)-(1:Int)).toNat (0:Nat)))),())))
def uI(F:Md)(g:qd)(f:Int)(z:qd)(q:qd):Option ((Int×qd×qd)⊕(qd×qd)) :=
 if (0:Int)≤f then ck (I64 (f+(g.length:Int))) (ck (I64 ((f+(g.length:Int))+(1:Int))) (ck (0≤f∧f<((f+(g.length:Int))+(1:Int))∧((f+(g.length:Int))+(1:Int))≤(z.length:Int)) ((aB1 F (f.toNat) (((f+(g.length:Int))+(1:Int))-f).toNat (fY (jT g (aC (g.getD ((g.length:Int)-(1:Int)).toNat (0:Nat)))) (g.length:Int)) z).bind (fun I=>ck (0≤f∧f<(q.length:Int)) (ck (I64 (f-(1:Int))) (some (.inl ((f-(1:Int)),I.2,(q.set (f.toNat) I.1))))))))) else some (.inr (z,q))
def aCI(F:Md)(g:qd)(f:qd):Option qn :=
 ck (bBe g f) (if (sF g f)<(0:Int) then ck (bFw g) (some (([]:List Nat),(id g),())) else if (f.length:Int)=(1:Int) then ck ((0:Int)<(f.length:Int)) (ck (aLh g (f.getD (0:Nat) (0:Nat))) (some ((aB0 g (f.getD (0:Nat) (0:Nat))).1,(aB0 g (f.getD (0:Nat) (0:Nat))).2.1,()))) else ck (I64 ((f.length:Int)-(1:Int))) (ck (0≤((f.length:Int)-(1:Int))∧((f.length:Int)-(1:Int))<(f.length:Int)) (ck (aYc f (aC (f.getD ((f.length:Int)-(1:Int)).toNat (0:Nat)))) (ck (aFu (jT f (aC (f.getD ((f.length:Int)-(1:Int)).toNat (0:Nat)))) (f.length:Int)) (ck (aYc g (aC (f.getD ((f.length:Int)-(1:Int)).toNat (0:Nat)))) (ck (I64 ((g.length:Int)+(1:Int))) (ck (aFu (jT g (aC (f.getD ((f.length:Int)-(1:Int)).toNat (0:Nat)))) ((g.length:Int)+(1:Int))) (ck (I64 ((g.length:Int)-(f.length:Int))) (ck (I64 (((g.length:Int)-(f.length:Int))+(1:Int))) (ck (0≤(((g.length:Int)-(f.length:Int))+(1:Int))) (ck ((8:Int)*(((g.length:Int)-(f.length:Int))+(1:Int))≤281474976710656) (ck (I64 ((g.length:Int)-(f.length:Int))) ((dE F (fun d:Int×qd×qd=>uI F f d.1 d.2.1 d.2.2) (((g.length:Int)-(f.length:Int)),(fY (jT g (aC (f.getD ((f.length:Int)-(1:Int)).toNat (0:Nat)))) ((g.length:Int)+(1:Int))),(List.replicate (((g.length:Int)-(f.length:Int))+(1:Int)).toNat (0:Nat)))).bind (fun e=>aBx F f e.1 e.2))))))))))))))
theorem aQ6{a:List Nat}{n:Int}:nv (fY a n)=nv a:=by
 unfold fY; rw[aQ3,aQ4,Nat.mul_zero,Nat.add_zero]
theorem aVo{a:List Nat}{n:Int}(h:a.length≤n):(fY a n).length=n.toNat:=by
 grind[fY,List.length_append,List.length_replicate]
theorem aYe{a:List Nat}{n:Int}(h:Lm a):Lm (fY a n):=bHv h (aQ5 _)
theorem bBl{b:List Nat}(g:Lm b)(z:Nrm b)(h0:nv b≠0):0<b.length∧1≤b.getD (b.length-1) 0∧b.getD (b.length-1) 0*18446744073709551616^(b.length-1)≤nv b∧nv b<(b.getD (b.length-1) 0+1)*18446744073709551616^(b.length-1):=by
 have f:b≠ []:=fun e=>h0 (by rw[e]; rfl);have J:0<b.length:=List.length_pos_iff.2 f;have hp:0<18446744073709551616^(b.length-1):=Nat.pow_pos xAa;have I:=bEo z f;have q:=uF g;have ht:b.getD (b.length-1) 0=nv b/18446744073709551616^(b.length-1):=by
  rw[aBw g];refine Nat.mod_eq_of_lt ((Nat.div_lt_iff_lt_mul hp).2 ?_);rw[Nat.mul_comm,← Nat.pow_succ,show (b.length-1).succ=b.length from by omega];exact q
 rw[ht];exact⟨J,(Nat.le_div_iff_mul_le hp).2 (by omega),Nat.div_mul_le_self _ _,by simp_all[Nat.mul_comm,Nat.lt_mul_div_succ]⟩
theorem bFF{b:List Nat}(g:Lm b)(J:Nrm b)(h0:nv b≠0):nv b*2^(64-bl (b.getD (b.length-1) 0))<18446744073709551616^b.length∧9223372036854775808*18446744073709551616^(b.length-1)≤nv b*2^(64-bl (b.getD (b.length-1) 0)):=by
 obtain⟨Z,Y,U,N⟩:=bBl g J h0;have hb:=bHy (lC g (b.length-1));have f:=bCS (x:=b.getD (b.length-1) 0) (by omega);have q:=bHw (b.getD (b.length-1) 0);have I:=bCR (x:=b.getD (b.length-1) 0) (by omega);generalize b.getD (b.length-1) 0=t at *;have hp:=Nat.two_pow_pos (64-bl t);have e1:2^bl t*2^(64-bl t)=18446744073709551616:=by rw[← Nat.pow_add,show bl t+(64-bl t)=64 from by omega]
 have L:2^(bl t-1)*2^(64-bl t)=9223372036854775808:=by grind[Nat.pow_add,bl]
 constructor
 ·have z:(t+1)*2^(64-bl t)≤18446744073709551616:=by rw[← e1]; exact Nat.mul_le_mul_right _ q
  have O:=Nat.mul_lt_mul_of_pos_right N hp;refine Nat.lt_of_lt_of_le O ?_;rw[Nat.mul_right_comm,show 18446744073709551616^b.length=18446744073709551616*18446744073709551616^(b.length-1) from by rw[Nat.mul_comm,← Nat.pow_succ]; grind];exact Nat.mul_le_mul_right _ z
 ·have z:9223372036854775808≤t*2^(64-bl t):=by rw[← L]; exact Nat.mul_le_mul_right _ f
  refine Nat.le_trans (Nat.mul_le_mul_right _ z) ?_;simp_all[Nat.mul_right_comm,Nat.mul_le_mul_right]
structure QrI(m n V N:Nat)(j:Int)(u q:List Nat):Prop where
 j0: -1≤j
 j1:j≤m
 ul:u.length=m+n+1
 lu:Lm u
 ql:q.length=m+1
 lq:Lm q
 lt:nv u<18446744073709551616^(j+1).toNat*V
 lo:∃t,nv q=18446744073709551616^(j+1).toNat*t
 sum:nv q*V+nv u=N
theorem bHS{m n V N:Nat}{j:Int}{u q w:List Nat}(h:QrI m n V N j u q)(hj:0≤j)(hw:w.length=u.length)(z:Lm w)(hV:0<V)
  (e:nv w+nv u/(18446744073709551616^j.toNat*V)*(18446744073709551616^j.toNat*V)=nv u):QrI m n V N (j-1) w (q.set j.toNat (nv u/(18446744073709551616^j.toNat*V))):=by
 have h1:=h.j1;have I:=h.ql;have Y:=h.ul;have e1:(j+1).toNat=j.toNat+1:=by omega
 have U:(j-1+1).toNat=j.toNat:=by omega
 have L:0<18446744073709551616^j.toNat*V:=Nat.mul_pos (Nat.pow_pos xAa) hV;have g:=h.lt;obtain⟨t,ht⟩:=h.lo;rw[e1] at g ht;have J:nv u/(18446744073709551616^j.toNat*V)<18446744073709551616:=by
  refine(Nat.div_lt_iff_lt_mul L).2 ?_;rw[Nat.pow_succ,Nat.mul_comm (18446744073709551616^j.toNat) 18446744073709551616,Nat.mul_assoc] at g;exact g
 have Z:q.getD j.toNat 0=0:=by
  rw[aBw h.lq,ht,Nat.pow_succ,Nat.mul_assoc,Nat.mul_div_cancel_left _ (Nat.pow_pos xAa),Nat.mul_mod_right]
 have f:=aHz (a:=q) (k:=j.toNat) (v:=nv u/(18446744073709551616^j.toNat*V)) (by omega);rw[Z,Nat.mul_zero,Nat.add_zero] at f;have O:nv w=nv u%(18446744073709551616^j.toNat*V):=by
  grind[Nat.div_add_mod,nv,Nat.mul_comm]
 refine⟨by omega,by omega,by omega,z,by simp_all,aEZ h.lq _ J,?_,?_,?_⟩
 ·simp_all[Nat.mod_lt]
 ·rw[U,f,ht,Nat.pow_succ,Nat.mul_assoc,← Nat.mul_add]; grind
 ·have hs:=h.sum;grind
theorem aVp(a:List Nat)(wa:(Ty.sl qw).wf a)(b:List Nat)(wb:(Ty.sl qw).wf b)(hp:aJa a b):aCI none a b=some (rP a b):=by
 obtain⟨na,nb,O,sa⟩:=hp;have la:=aGi wa;have J:=aGi wb;obtain⟨hl,t1,t2,t3⟩:=bBl J nb O;obtain⟨v1,v2⟩:=bFF J nb O;have h64:=bHy (lC J (b.length-1));have hpos:=bCR (x:=b.getD (b.length-1) 0) (by omega);unfold aCI;refine aE ⟨na,nb⟩ (aH7 (fun hc=>?_) (fun hc=>aH7 (fun h1=>?_) (fun h1=>?_)))
 ·have f:nv a<nv b:=by
   grind[sF,bCT]
  unfold rP;rw[Nat.div_eq_of_lt f,Nat.mod_eq_of_lt f,aDT,bK3 la na];exact aE (by omega) rfl
 ·have hb1:nv b=b.getD 0 0:=by
   grind
  refine aE (by omega) (aE ⟨by omega,sa⟩ ?_);grind[aB0,rP]
 ·have hge:nv b≤nv a:=by
   grind[sF,bCT]
  have hlen:b.length≤a.length:=by
   rcases Nat.lt_or_ge a.length b.length with h|h
   ·exfalso;have U:=uF la;have k2:18446744073709551616^a.length≤18446744073709551616^(b.length-1):=Nat.pow_le_pow_right xAa (by omega);grind[bEo]
   omega
  have e1:((b.length:Int)-1).toNat=b.length-1:=by omega
  rw[e1];have hs:(aC (b.getD (b.length-1) 0)).toNat=64-bl (b.getD (b.length-1) 0):=by grind[aC]
  have Z:0≤aC (b.getD (b.length-1) 0)∧aC (b.getD (b.length-1) 0)≤63:=by grind[aC]
  have z:jT b (aC (b.getD (b.length-1) 0))=lb (nv b*2^(64-bl (b.getD (b.length-1) 0))):=by grind[jT]
  have L:jT a (aC (b.getD (b.length-1) 0))=lb (nv a*2^(64-bl (b.getD (b.length-1) 0))):=by grind[jT]
  have N:64-bl (b.getD (b.length-1) 0)≤63:=by omega
  have hbl:(lb (nv b*2^(64-bl (b.getD (b.length-1) 0)))).length≤b.length:=aEY.2 v1;have hal:(lb (nv a*2^(64-bl (b.getD (b.length-1) 0)))).length≤a.length+1:=by
   refine aEY.2 ?_;rw[Nat.pow_succ];refine Nat.mul_lt_mul'' (uF la) ?_;exact Nat.lt_of_le_of_lt (Nat.pow_le_pow_right xAa N) xAa
  have hn2:2≤b.length:=by omega
  obtain⟨sI,g⟩:∃sI,sI=aC (b.getD (b.length-1) 0):=⟨_,rfl⟩;obtain⟨s,hss⟩:∃s,s=64-bl (b.getD (b.length-1) 0):=⟨_,rfl⟩;rw[← hss] at v1 v2 hbl hal L z N hs;rw[← g] at L z Z hs;rw[← g,L,z];have hV:0<nv b*2^s:=Nat.mul_pos (by omega) (Nat.two_pow_pos s);have key:=mC (step:=fun d:Int×qd×qd=>uI none b d.1 d.2.1 d.2.2) (I:=fun d=>QrI (a.length-b.length) b.length (nv b*2^s) (nv a*2^s) d.1 d.2.1 d.2.2) (fun d=>(d.1+1).toNat)
   (fun e=>e.1.length=a.length+1∧Lm e.1∧nv e.1=nv a*2^s%(nv b*2^s)∧nv e.2=nv a*2^s/(nv b*2^s)) ?_ ((a.length:Int)-(b.length:Int),fY (lb (nv a*2^s)) ((a.length:Int)+1),List.replicate (((a.length:Int)-(b.length:Int))+1).toNat 0) ?_
  ·obtain⟨e,h2,h3,h4,h5,h6⟩:=key;refine aE (by omega) (aE (by omega) (aE ⟨(by omega),by omega,by omega⟩ (aE (by omega) (aE ⟨sa,by omega,by omega⟩ (aE (by omega) (aE (by omega) (aE (by omega) (aE (by omega) (aE (by omega) (aE (by omega) (aE (by omega) (bA h2 ?_))))))))))));have hm:nv e.1<nv b*2^s:=(by simp_all[Nat.mod_lt]);have htk:nv (e.1.take b.length)=nv e.1:=by
    rw[bJZ h4]; exact Nat.mod_eq_of_lt (Nat.lt_trans hm v1)
   have htr:fI (e.1.take b.length)=lb (nv e.1):=(by rw[fI,htk]);unfold aBx;rw[e1,← g,htr];refine aE (by omega) (aE ⟨?_,Z.1⟩ ?_)
   ·have:=aEY.2 (Nat.lt_trans hm v1);omega
   ·unfold rP wX;rw[fI,h6,aCC,hs,h5,Nat.mul_div_mul_right _ _ (Nat.two_pow_pos s),Nat.mul_mod_mul_right,Nat.mul_div_cancel _ (Nat.two_pow_pos s)]
  ·rintro⟨j,u,q⟩ h;have h:QrI (a.length-b.length) b.length (nv b*2^s) (nv a*2^s) j u q:=h;have i0:=h.j0;have i1:=h.j1;have hul:=h.ul;have hql:=h.ql;show (∃d',uI none b j u q=_∧_)∨ ∃e,uI none b j u q=_∧_;unfold uI;rw[e1,← g,z];by_cases hj:0≤j
   ·left
    have hvl:(fY (lb (nv b*2^s)) (b.length:Int)).length=b.length:=(by grind[aVo,Int.toNat_natCast]);have Y:nv (fY (lb (nv b*2^s)) (b.length:Int))=nv b*2^s:=(by rw[aQ6,aCC]);have lv:Lm (fY (lb (nv b*2^s)) (b.length:Int)):=aYe (aMZ _);have htop:9223372036854775808≤(fY (lb (nv b*2^s)) (b.length:Int)).getD (b.length-1) 0:=by
     have hp:0<18446744073709551616^(b.length-1):=Nat.pow_pos xAa;rw[aBw lv,Y,Nat.mod_eq_of_lt ((Nat.div_lt_iff_lt_mul hp).2 (by rw[← Nat.pow_succ',show (b.length-1).succ=b.length from by omega]; exact v1))];simp_all[Nat.le_div_iff_mul_le]
    have f:=h.lt;rw[show (j+1).toNat=j.toNat+1 from by omega] at f;obtain⟨w,U,k2,k3,k4⟩:=aWV (v:=fY (lb (nv b*2^s)) (b.length:Int)) (u:=u) (j:=j.toNat) (un:=((j+(b.length:Int))+1-j).toNat) lv h.lu (by omega) (by omega) (by omega) (by omega) (by simp_all) (by simp_all);rw[Y] at U k4;refine⟨(j-1,w,q.set j.toNat (nv u/(18446744073709551616^j.toNat*(nv b*2^s)))),?_,bHS h hj k2 k3 hV k4,by omega⟩;rw[if_pos hj];exact aE (by omega) (aE (by omega) (aE (by omega) (bA U (aE (by omega) (aE (by omega) rfl)))))
   ·right
    have hj1:(j+1).toNat=0:=(by omega);have f:=h.lt;rw[hj1,Nat.pow_zero,Nat.one_mul] at f;have hs4:=h.sum;refine⟨(u,q),by grind,by simp_all,h.lu,?_,?_⟩
    ·grind[Nat.add_comm,Nat.add_mul_mod_self_right,Nat.mod_eq_of_lt]
    ·simp only;rw[← hs4,Nat.add_comm,Nat.add_mul_div_right _ _ hV,Nat.div_eq_of_lt f,Nat.zero_add]
  ·have ej:((a.length:Int)-(b.length:Int)+1).toNat=a.length-b.length+1:=(by omega);refine⟨by omega,by omega,?_,aYe (aMZ _),?_,aQ5 _,?_,⟨0,?_⟩,?_⟩
   ·grind[aVo]
   ·simp_all
   ·simp only;rw[aQ6,aCC,ej];have U:=uF la;have k2:2^s≤2^63:=Nat.pow_le_pow_right xAa N;refine Nat.lt_of_lt_of_le (Nat.mul_lt_mul_of_pos_right U (Nat.two_pow_pos s)) ?_;refine Nat.le_trans (Nat.mul_le_mul_left _ k2) ?_;refine Nat.le_trans ?_ (Nat.mul_le_mul_left _ v2);rw[Nat.mul_left_comm,← Nat.pow_add,show a.length-b.length+1+(b.length-1)=a.length from by omega,Nat.mul_comm];omega
   ·simp_all[aQ4,Nat.mul_zero]
   ·simp only; rw[aQ4,Nat.zero_mul,Nat.zero_add,aQ6,aCC]
set_option maxHeartbeats 4000000
def aM0:PlR:=⟨[(0,.A [0,2]),(1,.A [0,2,4]),(2,.A [0]),(3,.A [0,2]),(4,.A [0,2,8]),(5,.A [0,2]),(6,.A [0,2]),(7,.A [0,2,14]),(8,.A [0,2]),(9,.A [0,2]),(10,.A [2])],[(4,7),(7,10),(10,13)],[]⟩
@[go_sem]def aJb:Ty:=.pair qw .unit
@[go_sem]def yL:aF:=⟨aJb,.one qg,fun _=>True,fun x=>rN x.1⟩
def aWW(F:Md):aF:=mSpec aJb (.one qg) (fun x=>aCE F x.1)
abbrev aZf(F:Md):List (FuncId×aF):=[]
theorem aZg[Mx](F:Md):bF Tryz.prog GL (aZf F):=.nil
attribute [go_sem] aM0
theorem aWX[Mx](F:Md):FOK Tryz.prog GL 187 (aWW F):=by
 refine bQ (aZ (aZg F)) mix Tryz.func187 rfl xP xAa aM0 (fun w0 S x Θ N h hV=>?_);obtain⟨(I:Nat),u⟩:=x;simp only[cA,go_sem];replace h:sat (aCE F I) _:=h;unfold aCE at h;refine dB hV (D:=Nat×Int) (fun d=>sat (qW F d.1 d.2) Θ) [] (fun d=>[(0,.val qw d.1),(2,.val qg d.2)]) (fun d=>[]) ?_ ?_
 ·simp only[go_sem];refine cE h (fun hc h=>?_) fun hc h=>?_
  ·exact aT ((I/(4294967296:Nat)),(32:Int)) h rfl xAb
  ·exact aT (I,(0:Int)) h rfl xAb
 ·rintro⟨q,f⟩ h;simp only[go_sem];replace h:sat (qW F q f) _:=h;unfold qW at h;refine dB hV (D:=Nat×Int) (fun d=>sat (qV F d.1 d.2) Θ) [] (fun d=>[(0,.val qw d.1),(2,.val qg d.2)]) (fun d=>[]) ?_ ?_
  ·simp only[go_sem];refine cE h (fun hc h=>?_) fun hc h=>?_
   ·refine aK h fun g0 h=>?_;exact aT ((q/(65536:Nat)),(f+(16:Int))) h rfl xAb
   ·exact aT (q,f) h rfl xAb
  ·rintro⟨g,z⟩ h;simp only[go_sem];replace h:sat (qV F g z) _:=h;unfold qV at h;refine dB hV (D:=Nat×Int) (fun d=>sat (qU F d.1 d.2) Θ) [] (fun d=>[(0,.val qw d.1),(2,.val qg d.2)]) (fun d=>[]) ?_ ?_
   ·simp only[go_sem];refine cE h (fun hc h=>?_) fun hc h=>?_
    ·refine aK h fun g0 h=>?_;exact aT ((g/(256:Nat)),(z+(8:Int))) h rfl xAb
    ·exact aT (g,z) h rfl xAb
   ·rintro⟨J,L⟩ h;simp only[go_sem];replace h:sat (qU F J L) _:=h;unfold qU at h;refine aK h fun g0 h=>aK h fun g1 h=>?_;exact zaE
theorem aM1[Mx]:FOK Tryz.prog GL 187 yL:=jJ (aWX none) (fun⟨f,u⟩ ⟨w0,g⟩ hp=>aVj f w0)
def aCJ:PlR:=⟨[(0,.A [0]),(1,.A [2])],[],[]⟩
@[go_sem]def yU:Ty:=.pair qw .unit
@[go_sem]def fZ:aF:=⟨yU,.one qg,fun _=>True,fun x=>aC x.1⟩
def aJc(F:Md):aF:=mSpec yU (.one qg) (fun x=>oN F x.1)
abbrev aDh(F:Md):List (FuncId×aF):=[(187,yL)]
theorem aKr[Mx](F:Md):bF Tryz.prog GL (aDh F):=.cons aM1 xP (.nil)
attribute [go_sem] aCJ
theorem aJd[Mx](F:Md):FOK Tryz.prog GL 144 (aJc F):=by
 refine bQ (aZ (aKr F)) mix Tryz.func144 rfl xP xAa aCJ (fun w0 S x Θ g h hV=>?_);obtain⟨(f:Nat),u⟩:=x;simp only[cA,go_sem];replace h:sat (oN F f) _:=h;unfold oN at h;refine aK h fun g0 h=>?_;exact zaE
theorem xE[Mx]:FOK Tryz.prog GL 144 fZ:=jJ (aJd none) (fun⟨f,u⟩ ⟨w0,g⟩ hp=>aH8 f w0)
def aB2:PlR:=⟨[(0,.A [0]),(1,.A [0,4]),(2,.A [2]),(3,.A [2])],[],[]⟩
@[go_sem]def xF:Ty:=.pair qw .unit
@[go_sem]def qL:aF:=⟨xF,.one qg,fun _=>True,fun x=>kK x.1⟩
def aIb(F:Md):aF:=mSpec xF (.one qg) (fun x=>nI F x.1)
abbrev aJe(F:Md):List (FuncId×aF):=[]
theorem aJf[Mx](F:Md):bF Tryz.prog GL (aJe F):=.nil
attribute [go_sem] aB2
theorem aIc[Mx](F:Md):FOK Tryz.prog GL 205 (aIb F):=by
 refine bQ (aZ (aJf F)) mix Tryz.func205 rfl xP xAa aB2 (fun w0 S x Θ g h hV=>?_);obtain⟨(f:Nat),u⟩:=x;simp only[cA,go_sem];replace h:sat (nI F f) _:=h;unfold nI at h;refine cE h (fun hc h=>?_) fun hc h=>?_
 ·exact aG hV [.tmp 2] rfl rfl rfl (aA h) xAe
 ·refine aD h fun g0 h=>?_;repeat (refine⟨zAH,?_⟩)
  exact aG hV [.tmp 2] rfl rfl rfl (aA h) (by (simp only[aS,go_sem,bJ F,bK F,bL F])<;>first|rfl|(simp; done))
theorem aId[Mx]:FOK Tryz.prog GL 205 qL:=jJ (aIc none) (fun⟨f,u⟩ ⟨w0,g⟩ hp=>aHA f w0)
def aM2:PlR:=⟨[(0,.A [0,1]),(1,.A [0,1,6]),(2,.A [0,1,6,7]),(3,.A [0,1,6,7,8]),(4,.A [0,1,6,7,8,9]),(5,.A [0,1,6,7,8,9,10]),(6,.A [0,1,6,7,9,11]),(7,.A [0,1,6,7,9,11,12]),(8,.A [0,1,6,7,9,12,13]),(9,.A [0,1,7,9,12,13]),(10,.A [0,1,4]),(11,.A [4,5])],[],[]⟩
@[go_sem]def aJg:Ty:=.pair qw (.pair qw .unit)
@[go_sem]def yM:aF:=⟨aJg,.tup wv,fun _=>True,fun x=>eH x.1 x.2.1⟩
def aWY(F:Md):aF:=mSpec aJg (.tup wv) (fun x=>aCF F x.1 x.2.1)
abbrev aZh(F:Md):List (FuncId×aF):=[]
theorem aZi[Mx](F:Md):bF Tryz.prog GL (aZh F):=.nil
attribute [go_sem] aM2
theorem aWZ[Mx](F:Md):FOK Tryz.prog GL 150 (aWY F):=by
 refine bQ (aZ (aZi F)) mix Tryz.func150 rfl xP xAa aM2 (fun w0 S x Θ q h hV=>?_);obtain⟨(g:Nat),(f:Nat),u⟩:=x;simp only[cA,go_sem];replace h:sat (aCF F g f) _:=h;unfold aCF at h;exact aG hV [.tmp 4,.tmp 5] rfl rfl rfl (aA h) xAe
theorem aM3[Mx]:FOK Tryz.prog GL 150 yM:=jJ (aWZ none) (fun⟨f,x1,u⟩ ⟨w0,g,q⟩ hp=>aVk f w0 x1 g)
def aSq:PlR:=⟨[(0,.A [0]),(1,.A [0,14]),(2,.A [0]),(3,.A [2])],[],[]⟩
@[go_sem]def aN0:Ty:=.pair wi .unit
@[go_sem]def iM:aF:=⟨aN0,.one wi,fun _=>True,fun x=>fI x.1⟩
def bBm(F:Md):aF:=mSpec aN0 (.one wi) (fun x=>aGj F x.1)
abbrev bCX(F:Md):List (FuncId×aF):=[]
theorem bCY[Mx](F:Md):bF Tryz.prog GL (bCX F):=.nil
attribute [go_sem] aSq
theorem bBn[Mx](F:Md):FOK Tryz.prog GL 148 (bBm F):=by
 refine bQ (aZ (bCY F)) mix Tryz.func148 rfl xP xAa aSq (fun w0 S x Θ I h hV=>?_);obtain⟨(f:qd),u⟩:=x;simp only[cA,go_sem];replace h:sat (aGj F f) _:=h;unfold aGj at h;refine bP hV (D:=qd) [] (fun d=>[(0,.val wi d)]) (fun d=>[]) h rfl xAb ?_;rintro g L J q z h;simp only[go_sem];replace h:sat (aDU F g) _:=h;unfold aDU at h;refine aK h fun g0 h=>aK h fun g1 h=>?_;refine⟨fun hc=>?_,fun hc=>?_⟩
 ·replace h:=fQ hc h;refine aK h fun g0 h=>aK h fun g1 h=>?_;replace h:=q _ (aA h);exact zaI
 ·replace h:=fR hc h;replace h:=yaG (z _ (aA h));exact zaE
theorem aAa[Mx]:FOK Tryz.prog GL 148 iM:=jJ (bBn none) (fun⟨f,u⟩ ⟨w0,g⟩ hp=>aY6 f w0)
def aVq:PlR:=⟨[(0,.A [0]),(1,.A [2])],[],[]⟩
@[go_sem]def aQ7:Ty:=.pair wi .unit
@[go_sem]def aJh:aF:=⟨aQ7,.one .bool,fun _=>True,fun x=>aIa x.1⟩
def bCZ(F:Md):aF:=mSpec aQ7 (.one .bool) (fun x=>aH9 F x.1)
abbrev bFG(F:Md):List (FuncId×aF):=[]
theorem bFH[Mx](F:Md):bF Tryz.prog GL (bFG F):=.nil
attribute [go_sem] aVq
theorem bC0[Mx](F:Md):FOK Tryz.prog GL 157 (bCZ F):=by
 refine bQ (aZ (bFH F)) mix Tryz.func157 rfl xP xAa aVq (fun w0 S x Θ q h hV=>?_);obtain⟨(g:qd),u⟩:=x;simp only[cA,go_sem];replace h:sat (aH9 F g) _:=h;unfold aH9 at h;refine aD h fun g0 h=>?_;refine aD h fun g1 h=>?_;try simp only[I64,I32] at g0
 repeat (refine⟨by first|with_reducible assumption|omega|(intros; first|with_reducible assumption|omega)|(intro _; exact⟨rfl,by decide⟩)|(intro _; refine(?_:_=aI _); rfl)|(refine(?_:_=aI _); rfl)|exact⟨rfl,rfl⟩|(intro q0 f; (try have e0:=g0 (by first|exact q0|omega|(simpa using q0)) (by first|exact f|omega|(simpa using f))); (try have e1:=g1 (by first|exact q0|omega|(simpa using q0)) (by first|exact f|omega|(simpa using f))); first|assumption|omega)|(rintro⟨q0,f⟩; (try have e0:=g0 (by first|exact q0|omega|(simpa using q0)) (by first|exact f|omega|(simpa using f))); (try have e1:=g1 (by first|exact q0|omega|(simpa using q0)) (by first|exact f|omega|(simpa using f))); first|assumption|omega)|decide,?_⟩)
 exact zaE
theorem bC1[Mx]:FOK Tryz.prog GL 157 aJh:=jJ (bC0 none) (fun⟨f,u⟩ ⟨w0,g⟩ hp=>bBf f w0)
def aSr:PlR:=⟨[(0,.A [0]),(1,.A [3]),(2,.A [2]),(3,.A [2])],[],[]⟩
@[go_sem]def aN1:Ty:=.pair .bool .unit
@[go_sem]def aG8:aF:=⟨aN1,.one qg,fun _=>True,fun x=>aBL x.1⟩
def bBo(F:Md):aF:=mSpec aN1 (.one qg) (fun x=>aGk F x.1)
abbrev bC2(F:Md):List (FuncId×aF):=[]
theorem bC3[Mx](F:Md):bF Tryz.prog GL (bC2 F):=.nil
attribute [go_sem] aSr
theorem bBp[Mx](F:Md):FOK Tryz.prog GL 163 (bBo F):=by
 refine bQ (aZ (bC3 F)) mix Tryz.func163 rfl xP xAa aSr (fun w0 S x Θ g h hV=>?_);obtain⟨(f:Bool),u⟩:=x;simp only[cA,go_sem];replace h:sat (aGk F f) _:=h;unfold aGk at h;exact zaf
theorem bBq[Mx]:FOK Tryz.prog GL 163 aG8:=jJ (bBp none) (fun⟨f,u⟩ ⟨w0,g⟩ hp=>aY7 f w0)
def aPc:PlR:=⟨[(0,.A [0,1]),(1,.A [0,1,10]),(2,.A [4]),(3,.A [0,1,5]),(4,.A [0,1,5,21]),(5,.A [0,1,5]),(6,.A [0,1,5,32]),(7,.A [4]),(8,.A [4])],[],[]⟩
@[go_sem]def aLi:Ty:=.pair wi vq
@[go_sem]def uR:aF:=⟨aLi,.one qg,fun x=>bBe x.1 x.2.1,fun x=>sF x.1 x.2.1⟩
def aZj(F:Md):aF:=mSpec aLi (.one qg) (fun x=>aEm F x.1 x.2.1)
abbrev aSs(F:Md):List (FuncId×aF):=[(163,aG8)]
theorem bBr[Mx](F:Md):bF Tryz.prog GL (aSs F):=.cons bBq xP (.nil)
attribute [go_sem] aPc
theorem aZk[Mx](F:Md):FOK Tryz.prog GL 115 (aZj F):=by
 refine bQ (aZ (bBr F)) mix Tryz.func115 rfl xP xAa aPc (fun w0 S x Θ z h hV=>?_);obtain⟨(f:qd),(g:qd),u⟩:=x;simp only[cA,go_sem];replace h:sat (aEm F f g) _:=h;unfold aEm at h;refine cE h (fun hc h=>?_) fun hc h=>?_
 ·exact aG hV [.tmp 4] rfl rfl rfl (aA h) xAc
 ·refine aK h fun g0 h=>?_;refine bP hV (D:=Int) [0,1] (fun d=>[(5,.val qg d)]) (fun d=>[]) h rfl xAb ?_;rintro q I T4 hA4 hE4 h;simp only[go_sem];replace h:sat (zU F f g q) _:=h;unfold zU at h;refine aYY h (fun hc h=>?_) fun hc h=>?_
  ·refine aK h fun g0 h=>aK h fun g1 h=>?_;refine cE h (fun hc h=>?_) fun hc h=>?_
   ·refine aK h fun g0 h=>aK h fun g1 h=>?_;replace h:=yaG (hE4 _ (aA h));exact zaD
   ·refine aK h fun g0 h=>?_;replace h:=hA4 _ (aA h);exact zaI
  ·replace h:=yaG (hE4 _ (aA h));exact zaD
theorem aJi[Mx]:FOK Tryz.prog GL 115 uR:=jJ (aZk none) (fun⟨f,x1,u⟩ ⟨w0,g,q⟩ hp=>aWQ f w0 x1 g hp)
def aSt:PlR:=⟨[(0,.A [0]),(1,.A [0,5]),(2,.A [2]),(3,.A [2])],[],[]⟩
@[go_sem]def aN2:Ty:=.pair wi .unit
@[go_sem]def aG9:aF:=⟨aN2,.one qg,fun x=>bEq x.1,fun x=>sX x.1⟩
def bBs(F:Md):aF:=mSpec aN2 (.one qg) (fun x=>aGl F x.1)
abbrev aVr(F:Md):List (FuncId×aF):=[(144,fZ)]
theorem bC4[Mx](F:Md):bF Tryz.prog GL (aVr F):=.cons xE xP (.nil)
attribute [go_sem] aSt
theorem bBt[Mx](F:Md):FOK Tryz.prog GL 158 (bBs F):=by
 refine bQ (aZ (bC4 F)) mix Tryz.func158 rfl xP xAa aSt (fun w0 S x Θ g h hV=>?_);obtain⟨(f:qd),u⟩:=x;simp only[cA,go_sem];replace h:sat (aGl F f) _:=h;unfold aGl at h;refine cE h (fun hc h=>?_) fun hc h=>?_
 ·exact aG hV [.tmp 2] rfl rfl rfl (aA h) xAc
 ·refine aK h fun g0 h=>aK h fun g1 h=>aK h fun z h=>aK h fun q h=>?_;exact zaE
theorem bBu[Mx]:FOK Tryz.prog GL 158 aG9:=jJ (bBt none) (fun⟨f,u⟩ ⟨w0,g⟩ hp=>aY8 f w0 hp)
def aPd:PlR:=⟨[(0,.A [0]),(1,.A [5,6,7]),(2,.A [5,6,7,8]),(3,.A [3,4,5,6,7]),(4,.A [3,4,5,6,7,13]),(5,.A [2]),(6,.A [5,6,7]),(7,.A [2])],[],[]⟩
@[go_sem]def aLj:Ty:=.pair wi .unit
@[go_sem]def aFv:aF:=⟨aLj,.one qg,fun x=>pSz x.1,fun x=>lD x.1⟩
def aZl(F:Md):aF:=mSpec aLj (.one qg) (fun x=>aEn F x.1)
abbrev aSu(F:Md):List (FuncId×aF):=[(205,qL)]
theorem bBv[Mx](F:Md):bF Tryz.prog GL (aSu F):=.cons aId xP (.nil)
attribute [go_sem] aPd
theorem aZm[Mx](F:Md):FOK Tryz.prog GL 190 (aZl F):=by
 refine bQ (aZ (bBv F)) mix Tryz.func190 rfl xP xAa aPd (fun w0 S x Θ z h hV=>?_);obtain⟨(g:qd),u⟩:=x;simp only[cA,go_sem];replace h:sat (aEn F g) _:=h;unfold aEn at h;refine bP hV (D:=Int) [5,6] (fun d=>[(7,.val qg d)]) (fun d=>[]) h rfl xAb ?_;rintro f q T2 hA2 hE2 h;simp only[go_sem];replace h:sat (zV F g f) _:=h;unfold zV at h;refine dS h (fun hc h=>?_) fun hc h=>?_
 ·refine aK h fun g0 h=>?_;refine cE h (fun hc h=>?_) fun hc h=>?_
  ·refine aK h fun g0 h=>aK h fun g1 h=>?_;replace h:=yaG (hE2 _ (aA h));exact zaE
  ·refine aK h fun g0 h=>?_;exact zau
 ·replace h:=yaG (hE2 _ (aA h));exact zaE
theorem aZn[Mx]:FOK Tryz.prog GL 190 aFv:=jJ (aZm none) (fun⟨f,u⟩ ⟨w0,g⟩ hp=>aWR f w0 hp)
def aSv:PlR:=⟨[(0,.A [0,1]),(1,.A [0,1,13]),(2,.A [0,1]),(3,.B [1,5]),(4,.A [1,5,6]),(5,.A [1,5,6,21,22]),(6,.A [1,5,6,21,22,23]),(7,.A [1,5,6,7,21,22]),(8,.A [1,5,6,7,8,21,22]),(9,.A [1,5,6,7,8,21,22,25]),(10,.A [1,5,6,7,8,21,22]),(11,.A [1,5,6,7,8,21,22,34]),(12,.B [1,5,6,21,22]),(13,.A [1,5,6,21,22]),(14,.B [4])],[(4,6),(12,15)],[]⟩
@[go_sem]def aN3:Ty:=.pair wi vq
@[go_sem]def aHa:aF:=⟨aN3,.one wi,fun x=>aS5 x.1 x.2.1,fun x=>aDG x.1 x.2.1⟩
def bBw(F:Md):aF:=mSpec aN3 (.one wi) (fun x=>aGm F x.1 x.2.1)
abbrev aJj(F:Md):List (FuncId×aF):=[(142,dW),(148,iM),(151,sE)]
theorem bC5[Mx](F:Md):bF Tryz.prog GL (aJj F):=.cons rM xP (.cons aAa xP (.nat aHx (.nil)))
attribute [go_sem] aSv
theorem bBx[Mx](F:Md):FOK Tryz.prog GL 152 (bBw F):=by
 refine bQ (aZ (bC5 F)) mix Tryz.func152 rfl xP xAa aSv (fun w0 S x Θ Y h hV=>?_);obtain⟨(z:qd),(I:qd),u⟩:=x;simp only[cA,go_sem];replace h:sat (aGm F z I) _:=h;unfold aGm at h;refine dB hV (D:=qd×qd) (fun d=>sat (vL F d.1 d.2) Θ) [] (fun d=>[(0,.val wi d.1),(1,.val wi d.2)]) (fun d=>[]) ?_ ?_
 ·simp only[go_sem];refine dS h (fun hc h=>?_) fun hc h=>?_
  ·exact aT (I,z) h rfl xAb
  ·exact aT (z,I) h rfl xAb
 ·rintro⟨L,q⟩ h;simp only[go_sem];replace h:sat (vL F L q) _:=h;unfold vL at h;refine aK h fun g0 h=>?_;refine aD h fun g0 h=>(yaC ?_);refine aDQ [1] rfl rfl (yaA ?_);refine bP hV (D:=Nat×Int×qd) [1,21] (fun d=>[(5,.own 0),(6,.val qw d.1),(22,.val qg d.2.1)]) (fun d=>[.inr (.row 165 qw d.2.2)]) h rfl xAb ?_;rintro⟨carry_12,f,g⟩ Z U O J h;simp only[go_sem];replace h:sat (vK F L q carry_12 f g) _:=h;unfold vK at h;refine dS h (fun hc h=>?_) fun hc h=>?_
  ·refine dB hV (D:=Nat) (fun d=>sat (vJ F f g carry_12 d) U) [1,6,7,21,22] (fun d=>[(5,.own 0),(8,.val qw d)]) (fun d=>[.inr (.row 165 qw g)]) ?_ ?_
   ·simp only[go_sem];refine dS h (fun hc h=>?_) fun hc h=>?_
    ·refine aD h fun g0 h=>(yaC ?_);exact aT (q.getD (f.toNat) (0:Nat)) h rfl xAb
    ·refine cE h (fun hc h=>?_) fun hc h=>?_
     ·replace h:=yaG (J _ (aA h));exact zaD
     ·exact aT (0:Nat) h rfl xAb
   ·rintro N h;simp only[go_sem];replace h:sat (vJ F f g carry_12 N) _:=h;unfold vJ at h;refine aD h fun g0 h=>(yaC ?_);refine aD h fun g0 h=>(yaC ?_);refine aD h fun g0 h=>(yaC ?_);refine aK h fun g0 h=>?_;replace h:=O _ (aA h);exact zaI
  ·replace h:=yaG (J _ (aA h));exact zaD
theorem bBy[Mx]:FOK Tryz.prog GL 152 aHa:=jJ (bBx none) (fun⟨f,x1,u⟩ ⟨w0,g,q⟩ hp=>aY9 f w0 x1 g hp)
def aSw:PlR:=⟨[(0,.A [0]),(1,.B [2])],[],[]⟩
@[go_sem]def aN4:Ty:=.pair wi .unit
@[go_sem]def aB3:aF:=⟨aN4,.one wi,fun x=>pSz x.1,fun x=>qX x.1⟩
def bBz(F:Md):aF:=mSpec aN4 (.one wi) (fun x=>aGn F x.1)
abbrev aN5(F:Md):List (FuncId×aF):=[(142,dW),(148,iM)]
theorem bC6[Mx](F:Md):bF Tryz.prog GL (aN5 F):=.cons rM xP (.cons aAa xP (.nil))
attribute [go_sem] aSw
theorem bBA[Mx](F:Md):FOK Tryz.prog GL 153 (bBz F):=by
 refine bQ (aZ (bC6 F)) mix Tryz.func153 rfl xP xAa aSw (fun w0 S x Θ g h hV=>?_);obtain⟨(f:qd),u⟩:=x;simp only[cA,go_sem];replace h:sat (aGn F f) _:=h;unfold aGn at h;refine aK h fun g0 h=>?_;exact zaE
theorem aSx[Mx]:FOK Tryz.prog GL 153 aB3:=jJ (bBA none) (fun⟨f,u⟩ ⟨w0,g⟩ hp=>aZa f w0 hp)
def aPe:PlR:=⟨[(0,.A [0,1]),(1,.B [0,1,5]),(2,.A [1,5,20,21,22]),(3,.A [1,5,20,21,22,23]),(4,.A [1,5,6,7,20,21,22]),(5,.A [1,5,6,7,8,20,21,22]),(6,.A [1,5,6,7,8,20,21,22,27,28,29]),(7,.A [1,5,6,7,8,20,21,22,27,28,29,30]),(8,.A [1,5,6,7,8,9,10,20,21,22,27,28,29]),(9,.A [1,5,6,7,8,9,11,12,20,21,22,27,28,29]),(10,.A [1,5,6,7,8,9,11,12,20,21,22,27,28,29]),(11,.A [1,5,6,7,9,11,12,13,20,21,22,27,28,29]),(12,.A [1,5,6,7,9,11,12,20,21,22,27,28,29]),(13,.B [1,5,6,7,11,13,20,21,22,27,28,29]),(14,.A [1,5,6,7,8,20,21,22,27,28,29]),(15,.A [1,5,6,7,8,20,21,22,27,28,29]),(16,.B [1,5,20,21,22]),(17,.A [1,5,20,21,22]),(18,.B [4])],[(9,19)],[]⟩
@[go_sem]def aLk:Ty:=.pair wi vq
@[go_sem]def iY:aF:=⟨aLk,.one wi,fun x=>aS5 x.1 x.2.1,fun x=>dC x.1 x.2.1⟩
def aZo(F:Md):aF:=mSpec aLk (.one wi) (fun x=>aEo F x.1 x.2.1)
abbrev aHb(F:Md):List (FuncId×aF):=[(148,iM),(150,yM),(151,sE)]
theorem bBB[Mx](F:Md):bF Tryz.prog GL (aHb F):=.cons aAa xP (.cons aM3 xP (.nat aHx (.nil)))
attribute [go_sem] aPe
theorem aZp[Mx](F:Md):FOK Tryz.prog GL 105 (aZo F):=by
 refine bQ (aZ (bBB F)) mix Tryz.func105 rfl xP xAa aPe (fun w0 S x Θ hw h hV=>?_);obtain⟨(L:qd),(q:qd),u⟩:=x;simp only[cA,go_sem];replace h:sat (aEo F L q) _:=h;unfold aEo at h;refine aD h fun g0 h=>(yaC ?_);refine aD h fun g0 h=>?_;refine aD h fun g1 h=>(yaC ?_);refine bP hV (D:=Int×qd) [1,20,21] (fun d=>[(5,.own 0),(22,.val qg d.1)]) (fun d=>[.inr (.row 165 qw d.2)]) h rfl xAb ?_;rintro⟨f,J⟩ Z T3 N Y h;simp only[go_sem];replace h:sat (sZ F L q f J) _:=h;unfold sZ at h;refine dS h (fun hc h=>?_) fun hc h=>?_
 ·refine aD h fun g0 h=>(yaC ?_);refine dB hV (D:=Nat×qd) (fun d=>sat (zW F f q d.1 d.2) T3) [1,6,20,21,22] (fun d=>[(5,.own 0),(8,.val qw d.1)]) (fun d=>[.inr (.row 165 qw d.2)]) ?_ ?_
  ·simp only[go_sem];refine bP hV (D:=Nat×Int×qd) [1,6,7,20,21,22,27,28] (fun d=>[(5,.own 0),(8,.val qw d.1),(29,.val qg d.2.1)]) (fun d=>[.inr (.row 165 qw d.2.2)]) h rfl xAb ?_;rintro⟨carry_64,I,g⟩ A7 T7 U O h;simp only[go_sem];replace h:sat (sY F q L f carry_64 I g) _:=h;unfold sY at h;refine dS h (fun hc h=>?_) fun hc h=>?_
   ·refine aD h fun g0 h=>(yaC ?_);refine aD h fun g0 h=>(yaC ?_);refine aD h fun g0 h=>(yaC ?_);refine aD h fun g0 h=>(yaC ?_);refine aD h fun g0 h=>(yaC ?_);refine aD h fun g0 h=>(yaC ?_);refine aD h fun g0 h=>(yaC ?_);refine aD h fun g0 h=>(yaC ?_);replace h:=U _ (aA h);exact zaI
   ·replace h:=yaG (O _ (aA h));exact aT (carry_64,g) h rfl xAb
  ·rintro⟨carry_62,z⟩ h;simp only[go_sem];replace h:sat (zW F f q carry_62 z) _:=h;unfold zW at h;refine aD h fun g0 h=>(yaC ?_);refine aD h fun g0 h=>(yaC ?_);refine aD h fun g0 h=>?_;(try simp only[I64,I32] at g0);(repeat (refine⟨zAB,?_⟩));replace h:=N _ (aA h);exact zaI
 ·replace h:=yaG (Y _ (aA h));exact zaD
theorem aAs[Mx]:FOK Tryz.prog GL 105 iY:=jJ (aZp none) (fun⟨f,x1,u⟩ ⟨w0,g,q⟩ hp=>aWS f w0 x1 g hp)
def aSy:PlR:=⟨[(0,.A [0,1]),(1,.A [0,1,10]),(2,.A [4]),(3,.B [0,1,5]),(4,.A [1,5,18,19,20]),(5,.A [1,5,18,19,20,21]),(6,.A [1,5,6,7,18,19,20]),(7,.B [1,5,6,7,18,19,20]),(8,.B [1,5,18,19,20]),(9,.A [1,5,18,19,20]),(10,.B [4])],[],[]⟩
@[go_sem]def aN6:Ty:=.pair wi qm
@[go_sem]def aB4:aF:=⟨aN6,.one wi,fun x=>aYc x.1 x.2.1,fun x=>jT x.1 x.2.1⟩
def bBC(F:Md):aF:=mSpec aN6 (.one wi) (fun x=>aGo F x.1 x.2.1)
abbrev aVy(F:Md):List (FuncId×aF):=[(148,iM)]
theorem bC7[Mx](F:Md):bF Tryz.prog GL (aVy F):=.cons aAa xP (.nil)
attribute [go_sem] aSy
theorem bBD[Mx](F:Md):FOK Tryz.prog GL 146 (bBC F):=by
 refine bQ (aZ (bC7 F)) mix Tryz.func146 rfl xP xAa aSy (fun w0 S x Θ N h hV=>?_);obtain⟨(z:qd),(q:Int),u⟩:=x;simp only[cA,go_sem];replace h:sat (aGo F z q) _:=h;unfold aGo at h;refine cE h (fun hc h=>?_) fun hc h=>?_
 ·exact aG hV [.tmp 4] rfl rfl rfl (aA h) xAc
 ·refine aD h fun g0 h=>?_;try simp only[I64,I32] at g0
  repeat (refine⟨zAA,?_⟩)
  refine aD h fun g0 h=>?_;try simp only[I64,I32] at g0
  repeat (refine⟨zAA,?_⟩)
  refine aD h fun g0 h=>?_;try simp only[I64,I32] at g0
  repeat (refine⟨zAA,?_⟩)
  refine aD h fun g0 h=>?_;refine aD h fun g1 h=>?_;repeat (refine⟨zAA,?_⟩)
  refine bP hV (D:=Int×qd) [1,18,19] (fun d=>[(5,.own 0),(20,.val qg d.1)]) (fun d=>[.inr (.row 165 qw d.2)]) h rfl xAb ?_;rintro⟨f,g⟩ L T5 J I h;simp only[go_sem];replace h:sat (vM F z q f g) _:=h;unfold vM at h;refine dS h (fun hc h=>?_) fun hc h=>?_
  ·refine aD h fun g0 h=>?_;(repeat (refine⟨zAA,?_⟩));refine aD h fun g0 h=>?_;(try simp only[I64,I32] at g0);(repeat (refine⟨zAA,?_⟩));refine aD h fun g0 h=>?_;(try simp only[I64,I32] at g0);(repeat (refine⟨zAA,?_⟩));refine aD h fun g0 h=>?_;(repeat (refine⟨zAA,?_⟩));refine aD h fun g0 h=>?_;(repeat (refine⟨zAA,?_⟩));refine aD h fun g0 h=>?_;(try simp only[I64,I32] at g0);(repeat (refine⟨zAA,?_⟩));refine aD h fun g0 h=>?_;(try simp only[I64,I32] at g0);(repeat (refine⟨zAA,?_⟩));refine aD h fun g0 h=>?_;(try simp only[I64,I32] at g0);(repeat (refine⟨zAA,?_⟩));refine aD h fun g0 h=>?_;(repeat (refine⟨zAA,?_⟩));refine aD h fun g0 h=>?_;(try simp only[I64,I32] at g0);(repeat (refine⟨zAA,?_⟩));refine aD h fun g0 h=>?_;(repeat (refine⟨zAA,?_⟩));refine aD h fun g0 h=>?_;(try simp only[I64,I32] at g0);(repeat (refine⟨zAA,?_⟩));replace h:=J _ (aA h);exact zaq
  ·replace h:=yaG (I _ (aA h));exact zaD
theorem aSz[Mx]:FOK Tryz.prog GL 146 aB4:=jJ (bBD none) (fun⟨f,x1,u⟩ ⟨w0,g,q⟩ hp=>aZc f w0 x1 g hp)
def aPf:PlR:=⟨[(0,.A [0,1]),(1,.A [0,1,12]),(2,.A [4]),(3,.A [0,1]),(4,.B [0,1,5]),(5,.A [0,1,5,20,21,22]),(6,.A [0,1,5,20,21,22,23]),(7,.A [0,1,5,6,7,20,21,22]),(8,.B [0,1,5,6,20,21,22]),(9,.A [0,1,5,6,20,21,22,39]),(10,.C 17 [0,1,5,20,21,22]),(11,.A [0,1,5,20,21,22]),(12,.B [4])],[],[]⟩
@[go_sem]def aLl:Ty:=.pair wi qm
@[go_sem]def aAt:aF:=⟨aLl,.one wi,fun x=>aZd x.1 x.2.1,fun x=>wX x.1 x.2.1⟩
def aZq(F:Md):aF:=mSpec aLl (.one wi) (fun x=>aEp F x.1 x.2.1)
abbrev aSA(F:Md):List (FuncId×aF):=[(148,iM)]
theorem bBE[Mx](F:Md):bF Tryz.prog GL (aSA F):=.cons aAa xP (.nil)
attribute [go_sem] aPf
theorem aZr[Mx](F:Md):FOK Tryz.prog GL 149 (aZq F):=by
 refine bQ (aZ (bBE F)) mix Tryz.func149 rfl xP xAa aPf (fun w0 S x Θ N h hV=>?_);obtain⟨(z:qd),(q:Int),u⟩:=x;simp only[cA,go_sem];replace h:sat (aEp F z q) _:=h;unfold aEp at h;refine aD h fun g0 h=>?_;try simp only[I64,I32] at g0
 repeat (refine⟨zAB,?_⟩)
 refine aYY h (fun hc h=>?_) fun hc h=>?_
 ·exact aG hV [.tmp 4] rfl rfl rfl (aA h) xAc
 ·refine aD h fun g0 h=>?_;refine aD h fun g1 h=>?_;try simp only[I64,I32] at g0
  repeat (refine⟨zAB,?_⟩)
  refine aD h fun g0 h=>?_;refine aD h fun g1 h=>(yaD ?_);refine bP hV (D:=Int×qd) [0,1,20,21] (fun d=>[(5,.own 0),(22,.val qg d.1)]) (fun d=>[.inr (.row 165 qw d.2)]) h rfl xAb ?_;rintro⟨f,g⟩ O Z I J h;simp only[go_sem];replace h:sat (tA F q z f g) _:=h;unfold tA at h;refine dS h (fun hc h=>?_) fun hc h=>?_
  ·refine aD h fun g0 h=>(yaD ?_);refine aD h fun g0 h=>(yaD ?_);refine aD h fun g0 h=>?_;(try simp only[I64,I32] at g0);(repeat (refine⟨zAB,?_⟩));refine⟨fun hc=>?_,fun hc=>?_⟩
   ·replace h:=fQ hc h;refine⟨by kernel_rfl,?_⟩;refine aD h fun g0 h=>?_;refine aD h fun g1 h=>?_;refine aD h fun Y h=>?_;refine aD h fun L h=>?_;refine aD h fun U h=>?_;(try simp only[I64,I32] at g1);(try simp only[I64,I32] at L);(repeat (refine⟨zAB,?_⟩));refine aD h fun g0 h=>?_;(try simp only[I64,I32] at g0);(repeat (refine⟨zAB,?_⟩));replace h:=I _ (aA h);exact zaq
   ·replace h:=fR (by first|exact hc|omega) h;refine aD h fun g0 h=>?_;(try simp only[I64,I32] at g0);(repeat (refine⟨zAB,?_⟩));replace h:=I _ (aA h);exact zaI
  ·replace h:=yaG (J _ (aA h));exact zaD
theorem aPg[Mx]:FOK Tryz.prog GL 149 aAt:=jJ (aZr none) (fun⟨f,x1,u⟩ ⟨w0,g,q⟩ hp=>aWT f w0 x1 g hp)
def aM4:PlR:=⟨[(0,.A [0,1,2]),(1,.A [0,1,2,20]),(2,.stop),(3,.A [0,1,2,24]),(4,.stop),(5,.A [0,1,2,27]),(6,.A [6,7]),(7,.A [0,1,2,8]),(8,.A [0,1,2,8]),(9,.A [0,1,2,8,9]),(10,.A [0,1,2,8,9,10]),(11,.A [1,2,8,9,10,11]),(12,.A [2,8,9,10,11,12]),(13,.A [2,8,9,10,11,12,13]),(14,.A [2,8,9,10,11,13,14]),(15,.A [2,8,9,10,11,13,14,15]),(16,.A [2,8,9,10,11,13,14,15,16]),(17,.A [2,8,9,10,11,13,14,15,16,78]),(18,.A [2,8,9,10,11,13,14,15,16]),(19,.A [2,8,9,10,11,13,14,15,16]),(20,.A [2,8,9,10,11,13,14,15,16,85]),(21,.A [2,8,9,10,14,15,17]),(22,.A [2,8,9,10,14,15,17,18]),(23,.A [2,8,9,10,14,15,16,17,18]),(24,.A [2,8,9,10,14,15,16,17,18,113]),(25,.A [2,8,9,10,14,15,16,17,18]),(26,.A [2,8,9,10,14,15,16,17,18]),(27,.A [2,8,9,10,14,15,16,17,18,120]),(28,.A [6,7])],[(20,24),(27,31)],[]⟩
@[go_sem]def aJk:Ty:=.pair qw wv
@[go_sem]def yN:aF:=⟨aJk,.tup wv,fun x=>aFt x.1 x.2.1 x.2.2.1,fun x=>rO x.1 x.2.1 x.2.2.1⟩
def aW0(F:Md):aF:=mSpec aJk (.tup wv) (fun x=>aCG F x.1 x.2.1 x.2.2.1)
abbrev aPh(F:Md):List (FuncId×aF):=[(144,fZ)]
theorem aZs[Mx](F:Md):bF Tryz.prog GL (aPh F):=.cons xE xP (.nil)
attribute [go_sem] aM4
theorem aW1[Mx](F:Md):FOK Tryz.prog GL 186 (aW0 F):=by
 refine bQ (aZ (aZs F)) mix Tryz.func186 rfl xP xAa aM4 (fun w0 S x Θ hw h hV=>?_);obtain⟨(z:Nat),(f:Nat),(J:Nat),u⟩:=x;simp only[cA,go_sem];replace h:sat (aCG F z f J) _:=h;unfold aCG at h;refine cE h (fun hc h=>?_) fun hc h=>?_
 ·exact aCA h
 ·refine cE h (fun hc h=>?_) fun hc h=>?_
  ·exact aCA h
  ·refine cE h (fun hc h=>?_) fun hc h=>?_
   ·refine aK h fun g0 h=>aK h fun g1 h=>?_;exact aG hV [.tmp 6,.tmp 7] rfl rfl rfl (aA h) xAe
   ·refine aK h fun g0 h=>?_;refine dB hV (D:=Nat) (fun d=>sat (xZ F J f z d) Θ) [2,8,9,10,11,13,14] (fun d=>[(15,.val qw d)]) (fun d=>[]) ?_ ?_
    ·simp only[go_sem,bJ F,bK F,bL F];refine bP hV (D:=Nat×Nat) [2,8,9,10,11,13,14] (fun d=>[(15,.val qw d.1),(16,.val qw d.2)]) (fun d=>[]) h rfl xAd ?_;rintro⟨g,N⟩ A17 T17 Z U h;simp only[go_sem,bJ F,bK F,bL F];replace h:sat (mL F f J g N) _:=h;unfold mL at h;refine⟨fun hc=>?_,fun hc=>?_⟩
     ·replace h:=fQ hc h;refine cE h (fun hc h=>?_) fun hc h=>?_
      ·replace h:=yaG (U _ (aA h));exact aT (wU F .u64 g (1:Nat)) h rfl xAd
      ·replace h:=Z _ (aA h);exact zak
     ·replace h:=fR hc h;replace h:=yaG (U _ (aA h));exact aT (g) h rfl xAd
    ·rintro I h;simp only[go_sem,bJ F,bK F,bL F];replace h:sat (xZ F J f z I) _:=h;unfold xZ at h;refine aK h fun g0 h=>?_;refine dB hV (D:=Nat) (fun d=>sat (xY F I z J f d) Θ) [2,8,14,15,17] (fun d=>[(18,.val qw d)]) (fun d=>[]) ?_ ?_
     ·simp only[go_sem,bJ F,bK F,bL F];refine bP hV (D:=Nat×Nat) [2,8,9,10,14,15,17] (fun d=>[(16,.val qw d.1),(18,.val qw d.2)]) (fun d=>[]) h rfl xAd ?_;rintro⟨L,q⟩ A24 T24 hA24 Y h;simp only[go_sem,bJ F,bK F,bL F];replace h:sat (mK F f J L q) _:=h;unfold mK at h;refine⟨fun hc=>?_,fun hc=>?_⟩
      ·replace h:=fQ hc h;refine cE h (fun hc h=>?_) fun hc h=>?_
       ·replace h:=yaG (Y _ (aA h));exact aT (wU F .u64 q (1:Nat)) h rfl xAd
       ·replace h:=hA24 _ (aA h);exact zak
      ·replace h:=fR hc h;replace h:=yaG (Y _ (aA h));exact aT (q) h rfl xAd
     ·rintro O h;simp only[go_sem,bJ F,bK F,bL F];replace h:sat (xY F I z J f O) _:=h;unfold xY at h;exact aG hV [.tmp 6,.tmp 7] rfl rfl rfl (aA h) xAe
theorem aM5[Mx]:FOK Tryz.prog GL 186 yN:=jJ (aW1 none) (fun⟨f,x1,z,u⟩ ⟨w0,g,q,I⟩ hp=>aVm f w0 x1 g z q hp)
def aPi:PlR:=⟨[(0,.stop),(1,.stop),(2,.stop),(3,.stop),(4,.stop),(5,.stop),(6,.stop),(7,.stop)],[(6,10)],[]⟩
@[go_sem]def aLm:Ty:=.pair wi (.pair qw .unit)
@[go_sem]def aFw:aF:=⟨aLm,.tup (.pair wi vq),fun x=>aLh x.1 x.2.1,fun x=>aB0 x.1 x.2.1⟩
def aZt(F:Md):aF:=mSpec aLm (.tup (.pair wi vq)) (fun x=>aEq F x.1 x.2.1)
abbrev aLn(F:Md):List (FuncId×aF):=[(148,iM),(186,yN)]
theorem bBF[Mx](F:Md):bF Tryz.prog GL (aLn F):=.cons aAa xP (.cons aM5 xP (.nil))
attribute [go_sem] aPi
theorem aZu[Mx](F:Md):FOK Tryz.prog GL 143 (aZt F):=by
 refine bQ (aZ (bBF F)) mix Tryz.func143 rfl xP xAa aPi (fun w0 S x Θ N h hV=>?_);obtain⟨(z:qd),(L:Nat),u⟩:=x;simp only[cA,go_sem];replace h:sat (aEq F z L) _:=h;unfold aEq at h;refine vI hV [0,1] (yaA ?_);refine aVb hV [0,1,6] (yaA ?_);refine aD h fun g0 h=>?_;refine aD h fun g1 h=>(yaC ?_);refine vI hV [0,1,6,7] (yaA ?_);refine dB hV (D:=Nat×qd) (fun d=>sat (zX F d.1 d.2) Θ) [] (fun d=>[(6,.own 0),(7,.val qw d.1)]) (fun d=>[.inr (.row 165 qw d.2)]) ?_ ?_
 ·simp only[go_sem];refine vI hV [0,1,6,7,8] (yaA ?_);refine aD h fun g0 h=>(yaC ?_);refine bP hV (D:=Nat×Int×qd) [0,1] (fun d=>[(6,.own 0),(7,.val qw d.1),(8,.val qg d.2.1)]) (fun d=>[.inr (.row 165 qw d.2.2)]) h rfl xAb ?_;rintro⟨f,I,q⟩ O T4 hA4 hE4 h;simp only[go_sem];replace h:sat (tB F z L f I q) _:=h;unfold tB at h;refine vI hV [0,1,6,7,8,16] (yaA ?_);refine aYY h (fun hc h=>?_) fun hc h=>?_
  ·refine aVb hV [0,1,6,7,8] (yaA ?_);refine aD h fun g0 h=>(yaC ?_);refine aD h fun g0 h=>(yaC ?_);refine aD h fun g0 h=>(yaC ?_);refine vI hV [0,1,6,7,8] (yaA ?_);refine aD h fun g0 h=>(yaC ?_);replace h:=hA4 _ (aA h);exact zaI
  ·replace h:=yaG (hE4 _ (aA h));exact aT (f,q) h rfl xAb
 ·rintro⟨g,J⟩ h;simp only[go_sem];replace h:sat (zX F g J) _:=h;unfold zX at h;refine aVb hV [4,5] (yaA ?_);exact aG hV [.tmp 4,.tmp 5] rfl rfl rfl (aA h) xAc
theorem aZv[Mx]:FOK Tryz.prog GL 143 aFw:=jJ (aZu none) (fun⟨f,x1,u⟩ ⟨w0,g,q⟩ hp=>aWU f w0 x1 g hp)
end
end Nu
end Go.Proofs

