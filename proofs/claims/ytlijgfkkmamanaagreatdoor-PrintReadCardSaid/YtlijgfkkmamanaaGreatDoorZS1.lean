import Derived.Test.YtlijgfkkmamanaaGreatDoorZL6
import Derived.Test.YtlijgfkkmamanaaGreatDoorProg
import Derived.KernelRfl
import Derived.Laws.Externs
import Derived.Test.YtlijgfkkmamanaaGreatDoorZL5
import Derived.Lib.TrailingZeros
set_option linter.unusedVariables false
set_option linter.unusedSimpArgs false
namespace Go.Proofs
open Go.Vc
set_option maxRecDepth 20000
namespace Nu
noncomputable section
theorem xN{p:Prop}(h:p:=by kernel_rfl):p:=h
theorem xAa{p:Prop}(h:p:=by decide):p:=h
theorem xAb{p:Prop}(h:p:=by simp only[go_sem]):p:=h
theorem xAc{p:Prop}(h:p:=by simp only[aS,go_sem]):p:=h
theorem xAd{p:Prop}(h:p:=by simp only[go_sem,bJ F,bK F,bL F]):p:=h
theorem xAe{p:Prop}(h:p:=by simp only[aS,go_sem,bJ F,bK F,bL F]):p:=h
theorem xAf{p:Prop}(h:p:=by simp):p:=h
abbrev qc:=List Nat
@[go_sem]abbrev qg:Ty:=.i .i64
@[go_sem]abbrev qi:Mk:=.pair .no (.pair (.sl 74 .no) (.pair (.sl 91 .no) (.pair (.sl 9 .no) (.pair (.sl 76 .no) .no))))
@[go_sem]abbrev qm:Ty:=.pair qg .unit
abbrev qn:=qc×(qc×Unit)
abbrev qo:=Int×(Int×(qc×Unit))
abbrev qp:=Int×Unit
@[go_sem]abbrev qu:Ty:=.pair .str (.pair .expr .unit)
@[go_sem]abbrev qw:Ty:=.u .u64
abbrev qx:=Bool×(qc×qp)
abbrev qy:=qc×(qc×qn)
abbrev q8:=List qc
abbrev q9:=qc×(Ex×Unit)
abbrev wR:=qc×(qn×(Ex×Unit))
abbrev wc:=(Int×qp)×Unit
abbrev we:=qc×(qn×Unit)
@[go_sem]abbrev wi:Ty:=.sl qw
abbrev wj:=List qy
@[go_sem]abbrev wm:Ty:=.u .u8
@[go_sem]abbrev wo:Ty:=.sl .str
@[go_sem]abbrev wq:Ty:=.pair .str .unit
abbrev wt:=Bool×qc
@[go_sem]abbrev wv:Ty:=.pair qw (.pair qw .unit)
abbrev ww:=Int×Int
@[go_sem]abbrev wz:Ty:=.arr 2 qg
abbrev w5:=Int×(Unit×Unit)
abbrev w6:=Bool×Unit
abbrev w7:=Int×Bool×qc
@[go_sem]abbrev w8:Ty:=.pair qg qm
abbrev w9:=List Bool
abbrev vd:=q8×Unit
@[go_sem]abbrev ve:Ty:=.pair wm .unit
@[go_sem]abbrev vf:Ty:=.pair .bool .unit
abbrev vh:=List q9
abbrev vi:=List Ex
@[go_sem]abbrev vj:Ty:=.pair (.rp wo) .unit
@[go_sem]abbrev vl:Ty:=.pair wi .unit
abbrev vm:=qc×Int
abbrev vn:=Nat×qc
abbrev qd:=qc×((List wR)×((List we)×(q8×(vh×Unit))))
abbrev qh:=qc×(Int×qp)
@[go_sem]abbrev qj:Ty:=.pair .str wq
@[go_sem]abbrev qk:Ty:=.pair qg (.pair qg wq)
@[go_sem]abbrev qq:Ty:=.pair .bool (.pair wi qm)
@[go_sem]abbrev qr:Ty:=.pair .str (.pair qj (.pair .expr .unit))
@[go_sem]abbrev qt:Ty:=.pair .str w8
@[go_sem]abbrev qv:Ty:=.pair .str (.pair .str qj)
@[go_sem]abbrev qz:Ty:=.pair .str (.pair qj .unit)
abbrev wd:=Ex×qh
@[go_sem]abbrev wg:Ty:=.pair w8 .unit
abbrev vg:=List qd
@[go_sem]abbrev qa:Ty:=.pair .str (.pair (.sl qr) (.pair (.sl qz) (.pair wo (.pair (.sl qu) .unit))))
@[go_sem]abbrev qe:Ty:=.pair qg (.pair qg (.pair qg (.pair qg (.pair .str (.pair .str (.pair .str (.pair .str (.pair (.sl qa) (.pair (.sl qv) .unit)))))))))
abbrev qf:=Int×(Int×(Int×(Int×(qc×(qc×(qc×(qc×(vg×(wj×Unit)))))))))
@[go_sem]theorem gam_in{a b:FuncId}{s:aF}{l:List (FuncId×aF)}:gam ((a,s)::l) b=if a=b then some s else gam l b:=rfl
structure Hq(p:Prop):Prop where
 a:p
theorem yaA {p q:Prop} (a:q) (h:Hq q→p:=by
 intro hq;simp only[go_sem];exact hq.a):p:=h ⟨a⟩
theorem yaB {p q:Prop} (a:q) (h:Hq q→p:=by
 intro hq;simp only[ren,cZ,dT,posOf,bI,go_sem];exact hq.a):p:=h ⟨a⟩
theorem yaC {p q:Prop} (a:q) (h:Hq q→p:=by
 intro hq;repeat (refine⟨zAD,?_⟩)
 exact hq.a):p:=h ⟨a⟩
theorem yaD {p q:Prop} (a:q) (h:Hq q→p:=by
 intro hq;repeat (refine⟨zAB,?_⟩)
 exact hq.a):p:=h ⟨a⟩
theorem yaE {p q:Prop} (a:q) (h:Hq q→p:=by
 intro hq;simp only[go_sem];repeat (refine⟨zAA,?_⟩)
 exact hq.a):p:=h ⟨a⟩
theorem yaF {p q:Prop} (a:q) (h:Hq q→p:=by
 intro hq;simp only[go_sem];repeat (refine⟨zAE,?_⟩)
 exact hq.a):p:=h ⟨a⟩
theorem yaG {p q:Prop} (h:p) (t:p→q:=by
 intro h;try dsimp only at h
 exact h):q:=t h
theorem zaA {p:Prop} (h:p:=by
 simp only[hv,go_sem];obtain rfl:=aO h;refine aL (aJ 0 rfl aH) ?_;refine aL (aJ 1 rfl aH) (yaA ?_);refine bS [0,1] rfl rfl (yaB ?_);refine bC rfl rfl rfl rfl):p:=h
theorem zaB {p:Prop} (h:p:=by
 subst hi;simp only[go_sem];try (refine⟨by decide,?_⟩)
 unfold anyS;intro i hi;have hi:i=4:=by revert hi; revert i; decide
 subst hi;simp only[go_sem];try (refine⟨by decide,?_⟩)
 unfold anyS;intro i hi;have hi:i=5:=by revert hi; revert i; decide
 subst hi;simp only[go_sem];try (refine⟨by decide,?_⟩)
 (simp only[anyS,go_sem])<;>first|exact⟨rfl,rfl⟩|trivial):p:=h
theorem zaC {p:Prop} (h:p:=by
 (try simp only[aS,kF,kC,fB,dG,AV.isAgg,go_sem])<;>first|trivial|rfl|(simp; done)):p:=h
theorem zaD {p:Prop} (h:p:=by
 exact aG hV [.tmp 4] rfl rfl rfl (aA h) xAc):p:=h
theorem zaE {p:Prop} (h:p:=by
 simp only[hv,go_sem];obtain rfl:=aO h;refine aL (nK 0 rfl aH) ?_;refine aL (aJ 1 rfl aH) (yaA ?_);refine bS [0,1] rfl rfl (yaB ?_);refine bC rfl rfl rfl rfl):p:=h
theorem zaF {p:Prop} (h:p:=by
 exact aG hV [.tmp 2] rfl rfl rfl (aA h) xAc):p:=h
theorem zaG {p:Prop} (h:p:=by
 refine dU h (fun hc h=>?_) fun hc h=>?_
 ·refine aK h fun g0 h=>?_;refine aK h fun g0 h=>?_;refine aB h fun v_28 hv h=>?_;try simp only[hv,go_sem]
  refine aA1 h (fun hc h=>?_) fun hc h=>?_
  ·replace h:=yaG (hE4 _ (aA h));exact aG hV [.tmp 6] rfl rfl rfl (aA h) xAc
  ·refine aK h fun g0 h=>?_;replace h:=hA4 _ (aA h);refine gK [] rfl rfl (yaA ?_);exact aT _ h rfl xAb
 ·replace h:=yaG (hE4 _ (aA h));exact aG hV [.tmp 6] rfl rfl rfl (aA h) xAc):p:=h
theorem zaH {p:Prop} (h:p:=by
 refine aL (aJ 0 rfl aH) ?_;refine bC rfl rfl rfl rfl):p:=h
theorem zaI {p:Prop} (h:p:=by
 exact aT _ h rfl xAb):p:=h
theorem zaJ {p:Prop} (h:p:=by
 try (refine⟨by decide,?_⟩)
 unfold anyS;intro i hi;have hi:i=2∨i=3:=by revert hi; revert i; decide
 rcases hi with rfl|rfl
 ·simp only[go_sem];try (refine⟨by decide,?_⟩)
  unfold anyS;intro i hi;have hi:i=3:=by revert hi; revert i; decide
  exact zaB
 ·simp only[go_sem];try (refine⟨by decide,?_⟩)
  unfold anyS;intro i hi;have hi:i=2:=by revert hi; revert i; decide
  exact zaB):p:=h
theorem zaK {p:Prop} (h:p:=by
 subst hi;simp only[go_sem];skip;unfold anyS;intro i hi;have hi:i=4:=by revert hi; revert i; decide
 subst hi;simp only[go_sem];skip
 (simp only[anyS,go_sem])<;>first|exact⟨rfl,rfl⟩|trivial):p:=h
theorem zaL {p:Prop} (h:p:=by
 simp only[hv,go_sem];obtain rfl:=aO h;refine iG (dX hF [] rfl rfl rfl rfl rfl rfl ?_);exact zaC):p:=h
theorem zaM {p:Prop} (h:p:=by
 (repeat' apply And.intro)<;>first|trivial|rfl|with_reducible assumption|omega|(intros; first|with_reducible assumption|omega)|(simp; done)|(simp at *; omega)):p:=h
theorem zaN {p:Prop} (h:p:=by
 simp only[hv,go_sem];obtain rfl:=aO h;refine bS [0] rfl rfl (yaB ?_);exact zaH):p:=h
theorem zaO {p:Prop} (h:p:=by
 refine dU h (fun hc h=>?_) fun hc h=>?_
 ·refine aK h fun g0 h=>?_;refine aB h fun v_27 hv h=>?_;try simp only[hv,go_sem]
  refine aH2 h (fun hc h=>?_) fun hc h=>?_
  ·replace h:=yaG (hE2 _ (aA h));exact zaD
  ·refine aK h fun g0 h=>?_;replace h:=hA2 _ (aA h);exact zaI
 ·replace h:=yaG (hE2 _ (aA h));exact zaD):p:=h
theorem zaP {p:Prop} (h:p:=by
 obtain rfl:=aO h;refine bS [] rfl rfl (yaB ?_);refine bC rfl rfl rfl rfl):p:=h
theorem zaQ {p:Prop} (h:p:=by
 (try simp only[nD,aS,go_sem])<;>first|rfl|(simp; done)):p:=h
theorem zaR {p:Prop} (h:p:=by
 refine⟨fun hc=>?_,fun hc=>?_⟩
 ·replace h:=gZ hc h;exact zaD
 ·replace h:=hO hc h;refine aK h fun g0 h=>?_;refine⟨fun hc=>?_,fun hc=>?_⟩
  ·replace h:=gZ hc h;refine aK h fun g0 h=>?_;refine aB h fun v_8 hv h=>?_;(try simp only[hv,go_sem]);exact zaD
  ·replace h:=hO hc h;refine aB h fun v_13 hv h=>?_;(try simp only[hv,go_sem]);refine aH2 h (fun hc h=>?_) fun hc h=>?_
   ·refine aB h fun v_17 hv h=>?_;(try simp only[hv,go_sem]);exact zaD
   ·exact aCv h):p:=h
theorem zaS {p:Prop} (h:p:=by
 subst hi;simp only[go_sem];repeat (refine⟨zAA,?_⟩)
 unfold anyS;intro i hi;have hi:i=3:=by revert hi; revert i; decide
 subst hi;simp only[go_sem];repeat (refine⟨zAA,?_⟩)
 (simp only[anyS,go_sem])<;>first|exact⟨rfl,rfl⟩|trivial):p:=h
theorem zaT {p:Prop} (h:p:=by
 refine aB h fun e hv h=>?_;rcases e with r_7|p_8
 ·try dsimp only at h
  simp only[hv,go_sem];refine aK h fun g0 h=>?_;refine aB h fun e hv h=>?_;rcases e with r_13|p_14
  ·(try dsimp only at h);simp only[hv,go_sem];obtain rfl:=aO h;refine dX hF [.tmp 2] rfl rfl rfl rfl rfl rfl ?_;exact zaC
  ·(try dsimp only at h);simp only[hv,go_sem];obtain rfl:=aO h;exact zaH
 ·try dsimp only at h
  simp only[hv,go_sem];obtain rfl:=aO h;exact zaH):p:=h
theorem zaU {p:Prop} (h:p:=by
 try (refine⟨by decide,?_⟩)
 unfold anyS;intro i hi;have hi:i=1∨i=3:=by revert hi; revert i; decide
 rcases hi with rfl|rfl
 ·simp only[go_sem];exact zaJ
 ·simp only[go_sem];try (refine⟨by decide,?_⟩)
  unfold anyS;intro i hi;have hi:i=1:=by revert hi; revert i; decide
  subst hi;simp only[go_sem];try (refine⟨by decide,?_⟩)
  unfold anyS;intro i hi;have hi:i=2:=by revert hi; revert i; decide
  exact zaB):p:=h
theorem zaV {p:Prop} (h:p:=by
 unfold anyS;intro i hi;have hi:i=0∨i=1:=by revert hi; revert i; decide
 rcases hi with rfl|rfl
 ·simp only[go_sem];exact zaU
 ·simp only[go_sem];try (refine⟨by decide,?_⟩)
  unfold anyS;intro i hi;have hi:i=0∨i=2:=by revert hi; revert i; decide
  rcases hi with rfl|rfl
  ·simp only[go_sem];exact zaJ
  ·simp only[go_sem];(try (refine⟨by decide,?_⟩));unfold anyS;intro i hi;have hi:i=0:=(by revert hi; revert i; decide);subst hi;simp only[go_sem];(try (refine⟨by decide,?_⟩));unfold anyS;intro i hi;have hi:i=3:=(by revert hi; revert i; decide);exact zaB):p:=h
theorem zaW {p:Prop} (h:p:=by
 obtain rfl:=Option.some.inj h;refine jM (aMp (aL (aJ 0 rfl aH) ?_));refine aL (aJ 1 rfl aH) ?_;refine aL (aJ 2 rfl aH) (yaA ?_);refine aFi (fn:=Tryz.f7) (k:=3) (l2:=[0,1,2]) hF rfl rfl xAa rfl (xA xN) ⟨fP (((0:Int),(0:Int),()),()),[0,1,2],()⟩ (aAL (((0:Int),(0:Int),()),())) rfl [.cell 2 27,.cell 3 29,.cell 4 3] rfl ?_ ?_
 ·(simp only[fP,go_sem])<;>first|decide|trivial
 ·(simp only[fP,aS,nD,go_sem])<;>first|decide|trivial|rfl|(simp; done)):p:=h
theorem zaX {p:Prop} (h:p:=by
 refine aN (aR hF [0,2] (yaA ?_));refine aP (aN (aN (aXV hF rfl rfl rfl fun b hb=>?_)));refine aP (dF rfl (fun hc=>?_) (fun hc=>?_))
 ·have hs:=hb hc;refine aN (aR hF [2] (yaA ?_));refine aP (iW (eL (pM hF [.tmp 2] rfl rfl rfl ?_)));simp only[nD,aS,go_sem,hs];try trivial
 ·refine eO (aP (aN (dQ hF [2] (yaA ?_))));refine⟨by omega,?_⟩;refine aP (iW (pM hF [.tmp 2] rfl rfl rfl ?_));simp only[nD,aS,go_sem];try trivial):p:=h
theorem zaY {p:Prop} (h:p:=by
 refine dU h (fun hc h=>?_) fun hc h=>?_
 ·refine aD h fun g0 h=>?_;refine aD h fun g1 h=>(yaD ?_);refine⟨fun hc=>?_,fun hc=>?_⟩
  ·replace h:=gZ zAC h;replace h:=yaG (hE4 _ (aA h));exact zaD
  ·replace h:=hO zAC h;refine aD h fun g0 h=>?_;(try simp only[I64,I32] at g0);(repeat (refine⟨zAB,?_⟩));replace h:=hA4 _ (aA h);exact zaI
 ·replace h:=yaG (hE4 _ (aA h));exact zaD):p:=h
theorem zaZ {p:Prop} (h:p:=by
 refine iG (dX hF [] rfl rfl rfl rfl rfl rfl ?_);simp only[aS,kF,kC,go_sem];try decide):p:=h
theorem zaa {p:Prop} (h:p:=by
 refine dX hF [] rfl rfl rfl rfl rfl rfl ?_;exact zaC):p:=h
theorem zab {p:Prop} (h:p:=by
 simp only[hv,go_sem];repeat (refine⟨zAB,?_⟩)
 obtain rfl:=aO h;exact zaH):p:=h
theorem zac {p:Prop} (h:p:=by
 skip;unfold anyS;intro i hi;have hi:i=2∨i=3:=by revert hi; revert i; decide
 rcases hi with rfl|rfl
 ·simp only[go_sem];skip;unfold anyS;intro i hi;have hi:i=3:=by revert hi; revert i; decide
  exact zaK
 ·simp only[go_sem];skip;unfold anyS;intro i hi;have hi:i=2:=by revert hi; revert i; decide
  exact zaK):p:=h
theorem zad {p:Prop} (h:p:=by
 simp only[go_sem]
 (repeat' apply And.intro)<;>try (first|trivial|rfl|with_reducible assumption|omega|(intros; first|with_reducible assumption|omega)|(simp; done)|(simp at *; omega))
 replace h:=oV h hq;try simp only[go_sem]
 replace h:=yaG (hE2 _ (aA h));obtain rfl:=aO h;refine bS [0] rfl rfl (yaB ?_);refine aL (aJ 0 rfl aH) ?_;refine bC rfl rfl rfl rfl):p:=h
theorem zae {p:Prop} (h:p:=by
 simp only[hv,go_sem];obtain rfl:=aO h;refine lS hF [.cell 2 40] [0] rfl rfl rfl rfl rfl rfl rfl rfl rfl ?_;exact zaC):p:=h
theorem zaf {p:Prop} (h:p:=by
 refine aL (aJ 1 rfl aH) (yaA ?_);refine bS [0,1] rfl rfl (yaB ?_);refine bC rfl rfl rfl rfl):p:=h
theorem zag {p:Prop} (h:p:=by
 refine aH2 h (fun hc h=>?_) fun hc h=>?_
 ·exact aG hV [.tmp 2] rfl rfl rfl (aA h) xAc
 ·exact aG hV [.tmp 2] rfl rfl rfl (aA h) xAc):p:=h
theorem zah {p:Prop} (h:p:=by
 refine⟨hq,?_⟩;refine jM ?_;refine aFi (fn:=Tryz.f154) (k:=2) (l2:=[0,1]) hF' rfl rfl xAa rfl (xA xN) ⟨sJ q,[0,1],((false,([]:List Nat),(0:Int),()),0)⟩ (aLi q) rfl [.cell 2 119,.cell 3 3] rfl ?_ ?_
 ·(simp only[sJ,go_sem])<;>first|decide|trivial
 ·(simp only[sJ,aS,nD,go_sem])<;>first|decide|trivial):p:=h
theorem zai {p:Prop} (h:p:=by
 try simp only[hv,go_sem]
 refine aK h fun g0 h=>?_;exact zaF):p:=h
theorem zaj {p:Prop} (h:p:=by
 have h:=pI zAC h;refine aN (aR hF [2] (yaA ?_));obtain rfl:=Option.some.inj h;refine aP (iW (rM (eL (pM hF [.tmp 2] rfl rfl rfl ?_))));exact zaQ):p:=h
theorem zak {p:Prop} (h:p:=by
 refine⟨hq,?_⟩;refine aP (iW ?_);refine aT1 (fn:=Tryz.f154) (k:=2) (l2:=[0,1]) hF' rfl rfl xAa rfl (xA xN) ⟨sH,[0,1],(q,0)⟩ aLh rfl [.cell 2 119,.cell 3 3] rfl ?_ ?_
 ·(simp only[sH,go_sem])<;>first|decide|trivial
 ·(simp only[sH,aS,nD,go_sem])<;>first|decide|trivial):p:=h
theorem zal {p:Prop} (h:p:=by
 exact aT _ h rfl xAd):p:=h
theorem zam {p:Prop} (h:p:=by
 simp only[hv,go_sem];repeat (refine⟨zAB,?_⟩)
 obtain rfl:=aO h;refine dX hF [.tmp 2,.tmp 3] rfl rfl rfl rfl rfl rfl ?_;exact zaC):p:=h
theorem zan {p:Prop} (h:p:=by
 exact aG hV [.tmp 2,.tmp 3,.tmp 4] rfl rfl rfl (aA h) xAc):p:=h
theorem zao {p:Prop} (h:p:=by
 try simp only[hv,go_sem]
 exact zaD):p:=h
theorem zap {p:Prop} (h:p:=by
 simp only[hv,go_sem];obtain rfl:=aO h;exact zaH):p:=h
theorem zaq {p:Prop} (h:p:=by
 exact aT _ h rfl (by (try simp only[xU,fB,true_or,and_self,go_sem])<;>(repeat' apply And.intro)<;>first|rfl|(left; rfl)|(right; rfl)|(left; simp only[go_sem]; done)|(right; simp only[go_sem]; done)|(simp; done)|(simp only[*]; done)|omega)):p:=h
theorem zar {p:Prop} (h:p:=by
 obtain rfl:=aO h;refine dX hF [.tmp 2] rfl rfl rfl rfl rfl rfl ?_;exact zaC):p:=h
theorem zas {p:Prop} (h:p:=by
 refine iG (dX hF [] rfl rfl rfl rfl rfl rfl ?_);exact zaC):p:=h
theorem zat {p:Prop} (h:p:=by
 refine aB h fun v_5 hv h=>?_;try simp only[hv,go_sem]
 exact zaF):p:=h
theorem zau {p:Prop} (h:p:=by
 simp only[go_sem];refine aN (aR hF [0,1,2,3,10] (yaA ?_));refine aP (dF rfl (fun hc=>absurd hc xAa) (fun hc=>?_));refine eO ?_;refine gK [0,1,2] rfl rfl (yaB ?_);exact zaZ):p:=h
theorem zav {p:Prop} (h:p:=by
 replace h:=hA2 _ (aA h);exact zaI):p:=h
theorem zaw {p:Prop} (h:p:=by
 repeat (refine⟨zAF,?_⟩)
 obtain rfl:=Option.some.inj h;refine aP (iW (eL (eL (pM hF [.tmp 4] rfl rfl rfl ?_))))
 (try simp only[nD,aS,go_sem,bJ F,bK F,bL F])<;>first|rfl|(simp; done)):p:=h
theorem zax {p:Prop} (h:p:=by
 obtain rfl:=aO h;refine lS hF [.cell 3 119] [] rfl rfl rfl rfl rfl rfl rfl rfl rfl ?_;exact zaC):p:=h
theorem zay {p:Prop} (h:p:=by
 obtain rfl:=aO h;refine lS hF [.cell 8 40] [0] rfl rfl rfl rfl rfl rfl rfl rfl rfl ?_;exact zaC):p:=h
theorem zaz {p:Prop} (h:p:=by
 simp only[hv,go_sem];exact zaP):p:=h
theorem zAA{p:Prop}(h:p:=by first|with_reducible assumption|omega|(intros; first|with_reducible assumption|omega)|(simp only[go_sem] at *; first|with_reducible assumption|omega)|(intro _; exact⟨rfl,by decide⟩)|(intro _; refine(?_:_=aI _); rfl)|(refine(?_:_=aI _); rfl)|exact⟨rfl,rfl⟩|decide):p:=h
theorem zAB{p:Prop}(h:p:=by first|with_reducible assumption|omega|(intros; first|with_reducible assumption|omega)|(intro _; exact⟨rfl,by decide⟩)|(intro _; refine(?_:_=aI _); rfl)|(refine(?_:_=aI _); rfl)|exact⟨rfl,rfl⟩|decide):p:=h
theorem zAC{p:Prop}(h:p:=by first|exact hc|omega|(simpa using hc)|(simp at hc ⊢; omega)):p:=h
theorem zAD{p:Prop}(h:p:=by first|with_reducible assumption|omega):p:=h
theorem zAE{p:Prop}(h:p:=by first|with_reducible assumption|omega|(intros; first|with_reducible assumption|omega)|(simp only[go_sem] at *; first|with_reducible assumption|omega)|(intro _; exact⟨rfl,by decide⟩)|(intro _; refine(?_:_=aI _); rfl)|(refine(?_:_=aI _); rfl)|exact⟨rfl,rfl⟩|decide|((repeat' apply And.intro)<;>first|assumption|rfl|omega)|fail):p:=h
theorem zAF{p:Prop}(h:p:=by first|with_reducible assumption|omega|(intros; first|with_reducible assumption|omega)|(simp only[go_sem,bJ F,bK F,bL F] at *; first|with_reducible assumption|omega)|(intro _; exact⟨rfl,by decide⟩)|(intro _; refine(?_:_=aI _); rfl)|(refine(?_:_=aI _); rfl)|exact⟨rfl,rfl⟩|decide):p:=h
theorem zAG{p:Prop}(h:p:=by first|with_reducible assumption|omega|(intros; first|with_reducible assumption|omega)|(intro _; exact⟨rfl,by decide⟩)|(intro _; refine(?_:_=aI _); rfl)|(refine(?_:_=aI _); rfl)|exact⟨rfl,rfl⟩|(intro q0; (try have e0:=g0 (by first|exact q0|omega|(simpa using q0))); (try have e1:=g1 (by first|exact q0|omega|(simpa using q0))); first|assumption|omega)|decide):p:=h
theorem zAH{p:Prop}(h:p:=by first|with_reducible assumption|omega|(intros; first|with_reducible assumption|omega)|(intro _; exact⟨rfl,by decide⟩)|(intro _; refine(?_:_=aI _); rfl)|(refine(?_:_=aI _); rfl)|exact⟨rfl,rfl⟩|(intro q0; (try have e0:=g0 (by first|exact q0|omega|(simpa using q0))); first|assumption|omega)|decide):p:=h
theorem zAI{p:Prop}(h:p:=by (try simp only[xU,fB,true_or,and_self,go_sem])<;>(repeat' apply And.intro)<;>first|rfl|(left; rfl)|(right; rfl)|(left; simp only[go_sem]; done)|(right; simp only[go_sem]; done)|(simp; done)|(simp only[*]; done)|omega):p:=h
def bCN:List Nat:=[0,1,56,2,57,49,28,3,61,58,42,50,38,29,17,4,62,47,59,36,45,43,51,22,53,39,33,30,24,18,12,5,63,55,48,27,60,41,37,16,46,35,44,21,52,32,23,11,54,26,40,15,34,20,31,10,25,14,19,9,13,8,7,6]
theorem bJ8:bCN= [0,1,56,2,57,49,28,3,61,58,42,50,38,29,17,4,62,47,59,36,45,43,51,22,53,39,33,30,24,18,12,5,63,55,48,27,60,41,37,16,46,35,44,21,52,32,23,11,54,26,40,15,34,20,31,10,25,14,19,9,13,8,7,6]:=rfl
def p10:List Nat:=[1,10,100,1000,10000,100000,1000000,10000000,100000000,1000000000,10000000000,100000000000,1000000000000,10000000000000,100000000000000,1000000000000000,10000000000000000,100000000000000000,1000000000000000000,10000000000000000000]
theorem bHu:p10= [1,10,100,1000,10000,100000,1000000,10000000,100000000,1000000000,10000000000,100000000000,1000000000000,10000000000000,100000000000000,1000000000000000,10000000000000000,100000000000000000,1000000000000000000,10000000000000000000]:=rfl
class Mx where
 v:Int
def GL[Mx]:Nat→AV
 | 8=>.roa (.arr 64 wm) bCN
 | 1=>.roa (.arr 20 qw) p10
 | 0=>.roa qg Mx.v
 | _=>.junk
theorem GL0[Mx]:GL 8= .roa (.arr 64 wm) bCN:=rfl
theorem GL3[Mx]:GL 1= .roa (.arr 20 qw) p10:=rfl
theorem GLm[Mx]:GL 0= .roa qg Mx.v:=rfl
attribute [go_sem] GLm GL0 GL3 mSpec
def tab:List (TypeId×Ty):=[(207,.clo 160 .unit),(2,.i .i64),(3,.i .i64),(4,.bool),(5,.u .u8),(9,.str),(21,.i .i32),(22,.sl .str),(24,.sl qa),(25,.sl qv),(27,.pair qg (.pair qg (.pair qg (.pair qg (.pair .str (.pair .str (.pair .str (.pair .str (.pair (.sl qa) (.pair (.sl qv) .unit)))))))))),(29,.pair qg qm),(38,.sl .expr),(40,.expr),(45,.pair w8 .unit),(53,.pair qg (.pair qg wq)),(59,.sl qr),(60,.sl qz),(61,.sl qu),(63,.pair .str (.pair (.sl qr) (.pair (.sl qz) (.pair wo (.pair (.sl qu) .unit))))),(69,.pair .str (.pair .str qj)),(72,.pair .str wq),(74,.pair .str (.pair qj (.pair .expr .unit))),(76,.pair .str (.pair .expr .unit)),(78,.nilp),(79,.sl wm),(81,.pair .nilp (.pair (.sl wm) .unit)),(83,.nili),(91,.pair .str (.pair qj .unit)),(93,.pair qg .unit),(97,.pair .str w8),(102,.arr 256 (.bool)),(116,.sl qq),(117,.sl qw),(119,.pair .bool (.pair wi qm)),(148,.arr 2 qg),(165,.u .u64),(170,.sl wo),(179,.u .u64),(187,.nilf),(216,.arr 24 wm),(220,.u .u32),(224,.i .i64),(231,.pair qg .unit),(235,.arr 20 qw),(236,.arr 65 wm),(239,.arr 256 wm),(241,.pair wm ve),(242,.arr 16 (.pair wm ve)),(254,.pair .str .unit),(255,.arr 64 wm),(256,.arr 32 wm)]
def elT:TypeId→TypeId
 | 22=>9
 | 24=>63
 | 25=>69
 | 38=>40
 | 59=>74
 | 60=>91
 | 61=>76
 | 79=>5
 | 116=>119
 | 117=>165
 | 170=>22
 | _=>0
def mpT:TypeId→Option (TypeId×TypeId)
 | 110=>some (9,3)
 | 133=>some (9,4)
 | _=>none
theorem bAY:mJ Tryz.prog (aMO tab):=bF2 xN
theorem bMS:∀t f,aMO tab t=some (.sl f)→Tryz.prog.underlying t=some (.slice (elT t)):=bJx xN
theorem bMT:∀t k e,mpT t=some (k,e)→Tryz.prog.underlying t=some (.map k e):=by
 intro t k e h;unfold mpT at h;split at h
 ·cases h; rfl
 ·cases h; rfl
 ·cases h
def TM:Tab:=aMO tab
def EM[Mx](l:List (FuncId×aF)):Env:=⟨TM,GL,fun f _=>gam l f,elT,mpT,fun _=>none,fun _=>false⟩
def dmT:TypeId→Option Mk
 | 22=>some .no
 | 24=>some qi
 | 25=>some .no
 | 59=>some .no
 | 60=>some .no
 | 61=>some .no
 | _=>none
def dzT:TypeId→Bool
 | 27=>true
 | 63=>true
 | _=>false
def EX[Mx](l:List (FuncId×aF)):Env:=⟨TM,GL,fun f _=>gam l f,elT,mpT,dmT,dzT⟩
theorem bNm[Mx](l:List (FuncId×aF))(t:TypeId):(EM l).T t=TM t:=rfl
theorem bNn[Mx](l:List (FuncId×aF))(t:Nat):(EM l).G t=GL t:=rfl
theorem bNo[Mx](l:List (FuncId×aF))(f:FuncId)(vs:List AV):(EM l).Γ f vs=gam l f:=rfl
theorem bMU[Mx](l:List (FuncId×aF))(t:TypeId):(EM l).el t=elT t:=rfl
theorem bMV[Mx](l:List (FuncId×aF))(t:TypeId):(EM l).mp t=mpT t:=rfl
theorem bA[Mx]{l:List (FuncId×aF)}(h:bF Tryz.prog GL l):jC Tryz.prog (EM l):=bAA bAY bMS bMT h
theorem mix:Tryz.prog.follows .mixedOrders=true:=by kernel_rfl
theorem bMW[Mx](l:List (FuncId×aF))(t:TypeId):(EM l).dm t=none:=rfl
theorem bMX[Mx](l:List (FuncId×aF))(t:TypeId):(EM l).dz t=false:=rfl
theorem bNp[Mx](l:List (FuncId×aF))(t:TypeId):(EX l).T t=TM t:=rfl
theorem bNq[Mx](l:List (FuncId×aF))(t:Nat):(EX l).G t=GL t:=rfl
theorem bNr[Mx](l:List (FuncId×aF))(f:FuncId)(vs:List AV):(EX l).Γ f vs=gam l f:=rfl
theorem bMY[Mx](l:List (FuncId×aF))(t:TypeId):(EX l).el t=elT t:=rfl
theorem bMZ[Mx](l:List (FuncId×aF))(t:TypeId):(EX l).mp t=mpT t:=rfl
theorem bM0[Mx](l:List (FuncId×aF))(t:TypeId):(EX l).dm t=dmT t:=rfl
theorem bM1[Mx](l:List (FuncId×aF))(t:TypeId):(EX l).dz t=dzT t:=rfl
theorem bAZ[Mx]{l:List (FuncId×aF)}(h:bF Tryz.prog GL l):jC Tryz.prog (EX l):=bAA bAY bMS bMT h
attribute [go_sem] bMW bMX bNp bNq bNr bMY bMZ bM0 bM1 dmT dzT
theorem T2:TM 2=some qg:=rfl
theorem T3:TM 3=some qg:=rfl
theorem T4:TM 4=some (.bool):=rfl
theorem T5:TM 5=some wm:=rfl
theorem T9:TM 9=some (.str):=rfl
theorem T21:TM 21=some (.i .i32):=rfl
theorem T22:TM 22=some wo:=rfl
theorem T24:TM 24=some (.sl qa):=rfl
theorem T25:TM 25=some (.sl qv):=rfl
theorem T27:TM 27=some qe:=rfl
theorem T29:TM 29=some w8:=rfl
theorem T38:TM 38=some (.sl .expr):=rfl
theorem T40:TM 40=some (.expr):=rfl
theorem T45:TM 45=some wg:=rfl
theorem T53:TM 53=some qk:=rfl
theorem T59:TM 59=some (.sl qr):=rfl
theorem T60:TM 60=some (.sl qz):=rfl
theorem T61:TM 61=some (.sl qu):=rfl
theorem T63:TM 63=some qa:=rfl
theorem T69:TM 69=some qv:=rfl
theorem T72:TM 72=some qj:=rfl
theorem T74:TM 74=some qr:=rfl
theorem T76:TM 76=some qu:=rfl
theorem T78:TM 78=some (.nilp):=rfl
theorem T79:TM 79=some (.sl wm):=rfl
theorem T81:TM 81=some (.pair .nilp (.pair (.sl wm) .unit)):=rfl
theorem T83:TM 83=some (.nili):=rfl
theorem T91:TM 91=some qz:=rfl
theorem T93:TM 93=some qm:=rfl
theorem T97:TM 97=some qt:=rfl
theorem bNs:TM 102=some (.arr 256 (.bool)):=rfl
theorem bNt:TM 116=some (.sl qq):=rfl
theorem bNu:TM 117=some wi:=rfl
theorem bNv:TM 119=some qq:=rfl
theorem bNw:TM 148=some wz:=rfl
theorem bNx:TM 165=some qw:=rfl
theorem bNy:TM 170=some (.sl wo):=rfl
theorem bNz:TM 179=some qw:=rfl
theorem bNA:TM 187=some (.nilf):=rfl
theorem bNB:TM 216=some (.arr 24 wm):=rfl
theorem bNC:TM 220=some (.u .u32):=rfl
theorem bND:TM 224=some qg:=rfl
theorem bNE:TM 231=some qm:=rfl
theorem bNF:TM 235=some (.arr 20 qw):=rfl
theorem bNG:TM 236=some (.arr 65 wm):=rfl
theorem bNH:TM 239=some (.arr 256 wm):=rfl
theorem bNI:TM 241=some (.pair wm ve):=rfl
theorem bNJ:TM 242=some (.arr 16 (.pair wm ve)):=rfl
theorem bNK:TM 254=some wq:=rfl
theorem bNL:TM 255=some (.arr 64 wm):=rfl
theorem bNM:TM 256=some (.arr 32 wm):=rfl
theorem bNN:TM 207=some (.clo 160 .unit):=rfl
attribute [go_sem] bNm bNn bNo bMU bMV elT mpT bNN T2 T3 T4 T5 T9 T21 T22 T24 T25 T27 T29 T38 T40 T45 T53 T59 T60 T61 T63 T69 T72 T74 T76 T78 T79 T81 T83 T91 T93 T97 bNs bNt bNu bNv bNw bNx bNy bNz bNA bNB bNC bND bNE bNF bNG bNH bNI bNJ bNK bNL bNM
def uD(x y c:Nat):Nat×Nat×Unit:=((x+y+c)%18446744073709551616,(x+y+c)/18446744073709551616,())
def aI3(x y c:Nat):Nat×Nat×Unit:=((x+18446744073709551616-y-c)%18446744073709551616,(if x<y+c then 1 else 0),())
abbrev aF6(x y c:Nat):Prop:=c≤1
@[go_sem]def aOY:Ty:=.pair qw wv
@[go_sem]def sF:aF:=⟨aOY,.tup wv,fun x=>aF6 x.1 x.2.1 x.2.2.1,fun x=>uD x.1 x.2.1 x.2.2.1⟩
@[go_sem]def aOZ:Ty:=.pair qw wv
@[go_sem]def aDN:aF:=⟨aOZ,.tup wv,fun x=>aF6 x.1 x.2.1 x.2.2.1,fun x=>aI3 x.1 x.2.1 x.2.2.1⟩
theorem aYU{w:World}{S:Nat→Prop}{x:Nat}{v:Value}(h:dV w S qw x v):v= .int .u64 (x:Int):=by
 unfold dV at h;rw[if_neg (by simp[Ty.isAgg])] at h;simp only[bB,List.cons.injEq,and_true] at h;exact h.1
theorem aU8{w:World}{S:Nat→Prop}{vs:List Value}{x:Nat×Nat×Nat×Unit}(h:sC w S (.pair qw wv) x vs):vs= [.int .u64 (x.1:Int),.int .u64 (x.2.1:Int),.int .u64 (x.2.2.1:Int)]:=by
 obtain⟨v1,r1,rfl,I,J,N,rfl,z,L,q,rfl,g,f⟩:=h;rw[aYU I,aYU z,aYU g];have f:q= []:=f;rw[f]
theorem bHv{w:World}{S:Nat→Prop}{x:Nat}(h:x<18446744073709551616):dV w S qw x (.int .u64 (x:Int)):=by
 unfold dV;rw[if_neg (by simp[Ty.isAgg])];refine⟨rfl,rfl,?_⟩;simp[IntKind.max,IntKind.signed,IntKind.bits]; omega
theorem bA0{w:World}{S:Nat→Prop}{x y:Nat}(f:x<18446744073709551616)(hy:y<18446744073709551616):sC w S wv (x,y,()) [.int .u64 (x:Int),.int .u64 (y:Int)] :=
 ⟨_,_,rfl,bHv f,_,_,rfl,bHv hy,rfl⟩
theorem wf_u64{x:Nat}(h:(Ty.u .u64).wf x):x<18446744073709551616:=by
 simp only[Ty.wf,IntKind.max,IntKind.signed,IntKind.bits] at h;simp at h; omega
def aU9:Array Value→Sem Value:=fun args=>do
 let (x,y,b) ← Extern.MathBitsCarry.three "Sub64" args
 pure (Extern.MathBitsCarry.pair ((x+Extern.MathBitsCarry.m64-y-b)%Extern.MathBitsCarry.m64) (if x<y+b then 1 else 0))
theorem bFz{P:Program}(x y b:Nat)(hb:b≤1)(w:World) :
  (aU9 #[.int .u64 x,.int .u64 y,.int .u64 b]).run P w =
   .ok (.tuple #[.int .u64 (((x+18446744073709551616-y-b)%18446744073709551616:Nat):Int),.int .u64 ((if x<y+b then 1 else 0:Nat):Int)]) w:=by
 have:b=0∨b=1:=by omega
 rcases this with rfl|rfl<;>rfl
theorem aHr[Mx]:NOK Tryz.prog GL 151 sF:=by
 refine bGC fun w S J x q hp=>?_;have hp:x.2.2.1≤1:=hp;have z:=aIT _ _ _ q;obtain⟨g,f,I,_⟩:=z;have g:=wf_u64 g;have f:=wf_u64 f;rw[aU8 q];refine⟨[.int .u64 (((x.1+x.2.1+x.2.2.1)%18446744073709551616:Nat):Int),.int .u64 (((x.1+x.2.1+x.2.2.1)/18446744073709551616:Nat):Int)],?_,bA0 (by omega) (by omega)⟩;rw[run_callFunc_extern Tryz.func151 xN xN xN (e:=add64Entry) xN,run_add64 x.1 x.2.1 x.2.2.1 (by omega) (by omega) (by omega) (by omega)];simp only[Result.andThen]
 congr 5<;>omega
theorem aWH[Mx]:NOK Tryz.prog GL 188 aDN:=by
 refine bGC fun w S J x q hp=>?_;have hp:x.2.2.1≤1:=hp;have z:=aIT _ _ _ q;obtain⟨g,f,I,_⟩:=z;have g:=wf_u64 g;have f:=wf_u64 f;rw[aU8 q];refine⟨[.int .u64 (((x.1+18446744073709551616-x.2.1-x.2.2.1)%18446744073709551616:Nat):Int),.int .u64 ((if x.1<x.2.1+x.2.2.1 then 1 else 0:Nat):Int)],?_,bA0 (by omega) (by split<;>omega)⟩;rw[run_callFunc_extern Tryz.func188 xN xN xN (e:=aU9) xN,bFz x.1 x.2.1 x.2.2.1 hp];rfl
abbrev bFA(s:List Nat):Prop:=s.length*8≤140737488355328
@[go_sem]def yQ:Ty:=.pair wi .unit
@[go_sem]def dY:aF:=⟨yQ,.own 165 qw,fun x=>bFA x.1,fun x=>id x.1⟩
abbrev aC7(F:Md):List (FuncId×aF):=[]
theorem aC8[Mx](F:Md):bF Tryz.prog GL (aC7 F):=.nil
theorem rN[Mx]:FOK Tryz.prog GL 142 dY:=by
 refine bCA (bA (aC8 none)) Tryz.func142 rfl xN xAa fun w0 S x f hp=>?_;have hF:vG (fr Tryz.prog (EM (aC7 none)) S w0 Tryz.f142.ntmps):=⟨bA (aC8 none),mix⟩;obtain⟨(s:qc),u⟩:=x;have hp:s.length*8≤140737488355328:=hp;simp only[cA,yQ,dY];exact zaX
def nv:List Nat→Nat
 | []=>0
 | x::r=>x+18446744073709551616*nv r
def lbF:Nat→Nat→List Nat
 | 0,_=>[]
 | k+1,n=>if n=0 then [] else n%18446744073709551616::lbF k (n/18446744073709551616)
def lb(n:Nat):List Nat:=lbF n n
theorem bHw:∀(k m n:Nat),n≤k→n≤m→lbF k n=lbF m n
 | 0,m,n,g,f=>by
  obtain rfl:n=0:=by omega
  cases m<;>rfl
 | k+1,0,n,g,f=>by
  obtain rfl:n=0:=by omega
  rfl
 | k+1,m+1,n,g,f=>by
  rw[lbF,lbF];by_cases h:n=0
  ·simp_all
  ·rw[if_neg h,if_neg h];have hd:n/18446744073709551616<n:=Nat.div_lt_self (by omega) xAa;rw[bHw k m (n/18446744073709551616) (by omega) (by omega)]
def Lm(a:List Nat):Prop:=∀x∈a,x<18446744073709551616
def Nrm(a:List Nat):Prop:=a.getLastD 1≠0
instance (a:List Nat):Decidable (Nrm a):=inferInstanceAs (Decidable (_≠_))
theorem aYV:nv []=0:=rfl
theorem vS(x:Nat)(r:List Nat):nv (x::r)=x+18446744073709551616*nv r:=rfl
theorem aDO:lb 0= []:=rfl
theorem aQU{n:Nat}(h:n≠0):lb n=n%18446744073709551616::lb (n/18446744073709551616):=by
 obtain⟨k,rfl⟩:∃k,n=k+1:=⟨n-1,by omega⟩;have hd:(k+1)/18446744073709551616<k+1:=Nat.div_lt_self (by omega) xAa;rw[lb,lbF,if_neg h,lb,bHw k ((k+1)/18446744073709551616) ((k+1)/18446744073709551616) (by omega) (Nat.le_refl _)]
theorem aCx(n:Nat):nv (lb n)=n:=by
 induction n using Nat.strongRecOn with
 | _ n f =>
  by_cases h:n=0
  ·subst h; rfl
  grind[aQU,vS,Nat.div_lt_self,Nat.mod_add_div]
theorem aMR(n:Nat):Lm (lb n):=by
 induction n using Nat.strongRecOn with
 | _ n g =>
  by_cases h:n=0
  ·subst h; rw[aDO]; intro x f; cases f
  ·rw[aQU h];intro x f;rcases List.mem_cons.1 f with rfl|f
   ·omega
   ·exact g (n/18446744073709551616) (Nat.div_lt_self (by omega) xAa) x f
theorem bCO{n:Nat}:lb n= []↔n=0:=by
 constructor
 ·grind[Nat.eq_zero_or_pos,aQU]
 ·rintro rfl; rfl
theorem bEn:Nrm []:=by decide
theorem bHx{x:Nat}{r:List Nat}(h:Nrm r)(f:r= []→x≠0):Nrm (x::r):=by
 grind[Nrm]
theorem aHs(n:Nat):Nrm (lb n):=by
 induction n using Nat.strongRecOn with
 | _ n f =>
  by_cases h:n=0
  ·grind[aDO,bEn]
  ·rw[aQU h];grind[bHx,Nat.div_lt_self,bCO,Nat.div_add_mod]
theorem bEo{x:Nat}{r:List Nat}(h:Lm (x::r)):x<18446744073709551616∧Lm r:=⟨h x xAf,fun y hy=>h y (by simp[hy])⟩
theorem bHy{a b:List Nat}(g:Lm a)(hb:Lm b):Lm (a++b):=fun x f=>(List.mem_append.1 f).elim (g x) (hb x)
theorem aVa{x y:Nat}{r:List Nat}(h:Nrm (x::y::r)):Nrm (y::r):=by
 grind[Nrm]
theorem aQV{a:List Nat}(h:Nrm a)(f:a≠ []):0<nv a:=by
 induction a with
 | nil=>simp_all
 | cons x r g =>
  rw[vS];cases r with
  | nil=>grind[Nrm,aYV]
  | cons y r =>
   grind[aVa,nv,Nat.mul_le_mul_left]
theorem bLi{a:List Nat}(g:Lm a)(I:Nrm a):lb (nv a)=a:=by
 induction a with
 | nil=>rfl
 | cons x r L =>
  have J:=bEo g;have f:nv (x::r)≠0:=by grind[aQV]
  have z:nv (x::r)%18446744073709551616=x:=by grind[vS,Nat.add_mul_mod_self_left,Nat.mod_eq_of_lt]
  have q:nv (x::r)/18446744073709551616=nv r:=by simp_all[vS,Nat.add_mul_div_left,Nat.div_eq_of_lt,Nat.zero_add]
  rw[aQU f,z,q];cases r with
  | nil=>rfl
  | cons y r=>grind[aVa]
theorem aQW(a b:List Nat):nv (a++b)=nv a+18446744073709551616^a.length*nv b:=by
 induction a with
 | nil=>simp[nv]
 | cons x r f =>
  rw[List.cons_append,vS,vS,f,List.length_cons,Nat.pow_succ,Nat.mul_add];grind
theorem uC{a:List Nat}(f:Lm a):nv a<18446744073709551616^a.length:=by
 induction a with
 | nil=>simp[nv]
 | cons x r q =>
  have g:=bEo f;grind[vS,List.length_cons,Nat.pow_succ]
theorem bEp{a:List Nat}(q:Nrm a)(f:a≠ []):18446744073709551616^(a.length-1)≤nv a:=by
 induction a with
 | nil=>simp_all
 | cons x r g =>
  cases r with
  | nil=>grind[aQV]
  | cons y r =>
   grind[aVa,vS,List.length_cons,Nat.add_sub_cancel]
theorem aEO{n k:Nat}:(lb n).length≤k↔n<18446744073709551616^k:=by
 constructor
 ·intro h;have:=uC (aMR n);grind[aCx,Nat.lt_of_lt_of_le,Nat.pow_le_pow_right]
 ·intro h;by_cases h0:n=0
  ·simp_all[aDO,Nat.zero_le]
  ·have f:lb n≠ []:=fun e=>h0 (bCO.1 e);have:=bEp (aHs n) f;rw[aCx] at this;have g:18446744073709551616^((lb n).length-1)<18446744073709551616^k:=Nat.lt_of_le_of_lt this h;grind[Nat.pow_lt_pow_iff_right]
theorem aQX(n:Nat):nv (List.replicate n 0)=0:=by
 induction n with
 | zero=>rfl
 | succ n f=>rw[List.replicate_succ,vS,f]
theorem aCy(a:List Nat)(k:Nat):nv a=nv (a.take k)+18446744073709551616^(min k a.length)*nv (a.drop k):=by
 grind[aQW,List.take_append_drop,List.length_take]
theorem aG0{a:List Nat}(h:Lm a)(k:Nat):Lm (a.take k):=fun x f=>h x (List.mem_of_mem_take f)
theorem bJ9{a:List Nat}(h:Lm a)(k:Nat):Lm (a.drop k):=fun x f=>h x (List.mem_of_mem_drop f)
theorem aO0{a:List Nat}(h:Lm a)(k:Nat):nv (a.drop k)=nv a/18446744073709551616^k:=by
 rcases Nat.lt_or_ge k a.length with f|f
 ·rw[aCy a k,Nat.min_eq_left (Nat.le_of_lt f),Nat.add_mul_div_left _ _ (Nat.pow_pos xAa),Nat.div_eq_of_lt,Nat.zero_add];have:=uC (aG0 h k);grind
 ·rw[List.drop_eq_nil_of_le f,aYV,Nat.div_eq_of_lt];grind[Nat.lt_of_lt_of_le,uC,Nat.pow_le_pow_right]
theorem bKa{a:List Nat}(h:Lm a)(k:Nat):nv (a.take k)=nv a%18446744073709551616^k:=by
 rcases Nat.lt_or_ge k a.length with f|f
 ·have q:=aCy a k;rw[Nat.min_eq_left (Nat.le_of_lt f)] at q;have g:=uC (aG0 h k);rw[List.length_take,Nat.min_eq_left (Nat.le_of_lt f)] at g;rw[q,Nat.add_mul_mod_self_left,Nat.mod_eq_of_lt g]
 ·rw[List.take_of_length_le f,Nat.mod_eq_of_lt];grind[Nat.lt_of_lt_of_le,uC,Nat.pow_le_pow_right]
theorem lJ{a:List Nat}(h:Lm a)(i:Nat):a.getD i 0<18446744073709551616:=by
 rw[List.getD_eq_getElem?_getD];cases e:a[i]? with
 | none=>simp_all
 | some x=>exact h x (List.mem_of_getElem? e)
theorem take_succ{a:List Nat}{k:Nat}(h:k<a.length):a.take (k+1)=a.take k++ [a.getD k 0]:=by
 simp_all
theorem aAo{a:List Nat}{k:Nat}(h:k<a.length):nv (a.take (k+1))=nv (a.take k)+18446744073709551616^k*a.getD k 0:=by
 rw[take_succ h,aQW,List.length_take,Nat.min_eq_left (Nat.le_of_lt h)];simp[nv]
theorem aHt{a:List Nat}{k v:Nat}(h:k<a.length):nv (a.set k v)+18446744073709551616^k*a.getD k 0=nv a+18446744073709551616^k*v:=by
 induction a generalizing k with
 | nil=>simp at h
 | cons x r f =>
  cases k with
  | zero=>grind[nv]
  | succ k =>
   have:=f (k:=k) (by simp_all);simp only[List.set_cons_succ,vS,List.getD_cons_succ,Nat.pow_succ];grind
theorem aEP{a:List Nat}(h:Lm a)(k:Nat){v:Nat}(hv:v<18446744073709551616):Lm (a.set k v):=fun x f=>by
 rcases List.mem_or_eq_of_mem_set f with f|rfl
 ·exact h x f
 omega
theorem aQY(n:Nat):Lm (List.replicate n 0):=fun x f=>by
 simp_all
theorem aF7{a:List Nat}(h:(Ty.sl qw).wf a):Lm a:=fun x f=>by
 grind[Ty.wf,Go.IntKind.max,Go.IntKind.signed,Go.IntKind.bits]
theorem bCP{a:List Nat}(h:(Ty.sl qw).wf a):a.length≤9223372036854775807:=h.1
theorem aNO{x:Nat}(h:(Ty.u .u64).wf x):x<18446744073709551616:=by
 grind[Ty.wf,Go.IntKind.max,Go.IntKind.signed,Go.IntKind.bits]
theorem wf_i64{x:Int}(h:(Ty.i .i64).wf x): -9223372036854775808≤x∧x≤9223372036854775807:=by
 grind[Ty.wf,aHo]
theorem bEq:lR .u64=18446744073709551616:=by rfl
theorem aSe(a b:Nat):aIJ .u64 a b=a*b%18446744073709551616:=by rw[aYo,bEq]
theorem bA1{a b:Nat}(f:a<18446744073709551616)(hb:b≤a):aKh .u64 a b=a-b:=by
 grind[aMa,bEq,Nat.add_mod_right,Nat.mod_eq_of_lt]
theorem aE{α:Type}{p:Prop}[Decidable p]{k:Option α}{r:Option α}(hp:p)(h:k=r):ck p k=r:=(bGS hp).trans h
theorem aH3{α:Type}{p:Prop}[Decidable p]{x y r:α}(g:p→x=r)(f:¬p→y=r):(if p then x else y)=r:=by
 simp_all
theorem aZ{α β:Type}{x:Option α}{a:α}{k:α→Option β}{r:Option β}(f:x=some a)(h:k a=r):x.bind k=r:=by simp_all
def bl(x:Nat):Nat:=if x=0 then 0 else Nat.log2 x+1
theorem aXZ{x k:Nat}(h:x<2^k):bl x≤k:=by
 unfold bl;split
 ·omega
 ·rename_i h0;exact(Nat.log2_lt h0).2 h
theorem bHz(x:Nat):x<2^bl x:=by
 grind[bl,Nat.lt_log2_self]
theorem bHA{x k:Nat}(h:2^k≤x):k<bl x:=by
 have h0:x≠0:=by grind
 unfold bl;rw[if_neg h0];have:=(Nat.le_log2 h0).2 h;omega
theorem bM2{x k:Nat}(g:2^k≤x)(f:x<2^(k+1)):bl x=k+1:=Nat.le_antisymm (aXZ f) (bHA g)
theorem bCQ{x:Nat}(h:x≠0):0<bl x:=bHA (k:=0) (by omega)
theorem bCR{x:Nat}(h:x≠0):2^(bl x-1)≤x:=by
 rcases Nat.lt_or_ge x (2^(bl x-1)) with f|f
 ·have:=aXZ f; grind
 omega
theorem aO1{x k:Nat}(h:2^k≤x):bl x=k+bl (x/2^k):=by
 have z:=Nat.two_pow_pos k;have q:0<x/2^k:=Nat.div_pos h z;obtain⟨m,hm⟩:∃m,bl (x/2^k)=m+1:=⟨bl (x/2^k)-1,by
  have:=bHA (x:=x/2^k) (k:=0) q; omega⟩
 have g:=bHz (x/2^k);have f:=bCR (x:=x/2^k) (by omega);rw[hm] at g f ⊢;refine bM2 (k:=k+m) ?_ ?_
 ·grind[Nat.pow_add,Nat.mul_comm,Nat.le_div_iff_mul_le]
 simp_all[Nat.add_assoc,Nat.pow_add,Nat.mul_comm,Nat.div_lt_iff_lt_mul]
def aDz:ByteArray:=⟨⟨0::1::2::2::3::3::3::3::4::4::4::4::4::4::4::4::5::5::5::5::5::5::5::5::5::5::5::5::5::5::5::5::6::6::6::6::6::6::6::6::6::6::6::6::6::6::6::6::6::6::6::6::6::6::6::6::6::6::6::6::6::6::6::6::7::7::7::7::7::7::7::7::7::7::7::7::7::7::7::7::7::7::7::7::7::7::7::7::7::7::7::7::7::7::7::7::7::7::7::7::7::7::7::7::7::7::7::7::7::7::7::7::7::7::7::7::7::7::7::7::7::7::7::7::7::7::7::7::8::8::8::8::8::8::8::8::8::8::8::8::8::8::8::8::8::8::8::8::8::8::8::8::8::8::8::8::8::8::8::8::8::8::8::8::8::8::8::8::8::8::8::8::8::8::8::8::8::8::8::8::8::8::8::8::8::8::8::8::8::8::8::8::8::8::8::8::8::8::8::8::8::8::8::8::8::8::8::8::8::8::8::8::8::8::8::8::8::8::8::8::8::8::8::8::8::8::8::8::8::8::8::8::8::8::8::8::8::8::8::8::8::8::8::8::8::8::8::8::8::8::8::8::8::8::8::8:: []⟩⟩
@[go_sem]theorem aWI:(⟨⟨0::1::2::2::3::3::3::3::4::4::4::4::4::4::4::4::5::5::5::5::5::5::5::5::5::5::5::5::5::5::5::5::6::6::6::6::6::6::6::6::6::6::6::6::6::6::6::6::6::6::6::6::6::6::6::6::6::6::6::6::6::6::6::6::7::7::7::7::7::7::7::7::7::7::7::7::7::7::7::7::7::7::7::7::7::7::7::7::7::7::7::7::7::7::7::7::7::7::7::7::7::7::7::7::7::7::7::7::7::7::7::7::7::7::7::7::7::7::7::7::7::7::7::7::7::7::7::7::8::8::8::8::8::8::8::8::8::8::8::8::8::8::8::8::8::8::8::8::8::8::8::8::8::8::8::8::8::8::8::8::8::8::8::8::8::8::8::8::8::8::8::8::8::8::8::8::8::8::8::8::8::8::8::8::8::8::8::8::8::8::8::8::8::8::8::8::8::8::8::8::8::8::8::8::8::8::8::8::8::8::8::8::8::8::8::8::8::8::8::8::8::8::8::8::8::8::8::8::8::8::8::8::8::8::8::8::8::8::8::8::8::8::8::8::8::8::8::8::8::8::8::8::8::8::8::8:: []⟩⟩:ByteArray)=aDz:=rfl
def qW(F:Md)(f:Nat)(g:Int):Option (Int) :=
 ck (0≤(((f%256):Nat):Int)∧(((f%256):Nat):Int)<(((aQ aDz).length:Nat):Int)) (ck (I64 (g+((((aQ aDz).getD (f%256) (0:Nat)):Nat):Int))) (some (g+((((aQ aDz).getD (f%256) (0:Nat)):Nat):Int))))
def qX(F:Md)(f:Nat)(g:Int):Option (Int) :=
 if (256:Nat)≤f then ck (I64 (g+(8:Int))) (qW F (f/(256:Nat)) (g+(8:Int))) else qW F f g
def qY(F:Md)(f:Nat)(g:Int):Option (Int) :=
 if (65536:Nat)≤f then ck (I64 (g+(16:Int))) (qX F (f/(65536:Nat)) (g+(16:Int))) else qX F f g
def aCz(F:Md)(f:Nat):Option Int :=
 if (4294967296:Nat)≤f then qY F (f/(4294967296:Nat)) (32:Int) else qY F f (0:Int)
def rO(x:Nat):Int:=(bl x:Int)
theorem bKb:(aQ aDz).length=256∧ ∀y,y<256→(aQ aDz).getD y 0=bl y:=by decide +kernel
theorem bA2{x:Nat}{n:Int}(f:x<256)(h0:0≤n)(z:n≤1000):qW none x n=some (n+bl x):=by
 obtain⟨e1,g⟩:=bKb;have q:=g x f;have I:=aXZ (show x<2^8 from f);have hm:x%256=x:=Nat.mod_eq_of_lt f;unfold qW;rw[hm,q];refine aE (by omega) (aE (by omega) rfl)
theorem bA3{x:Nat}{n:Int}(g:x<65536)(h0:0≤n)(f:n≤900):qX none x n=some (n+bl x):=by
 unfold qX;refine aH3 (fun h=>aE (by omega) ?_) (fun h=>bA2 (by omega) h0 (by omega));rw[bA2 (by omega) (by omega) (by omega),aO1 (x:=x) (k:=8) h];grind
theorem bA4{x:Nat}{n:Int}(g:x<4294967296)(h0:0≤n)(f:n≤800):qY none x n=some (n+bl x):=by
 unfold qY;refine aH3 (fun h=>aE (by omega) ?_) (fun h=>bA3 (by omega) h0 (by omega));rw[bA3 (by omega) (by omega) (by omega),aO1 (x:=x) (k:=16) h];grind
theorem aVb(x:Nat)(w:(Ty.u .u64).wf x):aCz none x=some (rO x):=by
 have f:=aNO w;unfold aCz;refine aH3 (fun h=>?_) (fun h=>?_)
 ·rw[bA4 (by omega) (by omega) (by omega),rO,aO1 (x:=x) (k:=32) h];rfl
 grind[bA4,rO]
theorem bHB{x:Nat}(f:x<18446744073709551616):bl x≤64:=aXZ f
def oO(F:Md)(f:Nat):Option Int :=
 ck (I64 ((64:Int)-(rO f))) (some ((64:Int)-(rO f)))
def aC(x:Nat):Int:=64-(bl x:Int)
theorem aH4(x:Nat)(w:(Ty.u .u64).wf x):oO none x=some (aC x):=by
 have:=bHB (aNO w);unfold oO rO aC;exact aE (by omega) rfl
def nL(F:Md)(f:Nat):Option Int :=
 if f=(0:Nat) then some (64:Int) else ck (0≤((((mulM F .u64 (f&&&(aMx F .u64 f)) (285870213051353865:Nat))/(288230376151711744:Nat)):Nat):Int)∧((((mulM F .u64 (f&&&(aMx F .u64 f)) (285870213051353865:Nat))/(288230376151711744:Nat)):Nat):Int)<(64:Int)) (some (((bCN.getD ((mulM F .u64 (f&&&(aMx F .u64 f)) (285870213051353865:Nat))/(288230376151711744:Nat)) (0:Nat)):Nat):Int))
def kZ(x:Nat):Int:=(Lib.ctz 64 x:Int)
theorem bKc:bCN=Lib.deBruijn64tab:=by rfl
theorem bM3{x:Nat}(f:x<18446744073709551616)(hc:¬x=0):aZ9 .u64 x=18446744073709551616-x:=by
 rw[aYp,bEq,Nat.zero_add];omega
theorem bL2{x:Nat}(g:x<18446744073709551616)(hc:¬x=0):aIJ .u64 (x&&&aZ9 .u64 x) 285870213051353865/288230376151711744<64∧bCN.getD (aIJ .u64 (x&&&aZ9 .u64 x) 285870213051353865/288230376151711744) 0=Lib.ctz 64 x:=by
 obtain⟨f,q⟩:=Lib.lowest_bit 64 x hc g;have z:(2:Nat)^64=18446744073709551616:=by decide
 rw[z] at f;rw[aSe,bM3 g hc,f,bKc];exact Lib.deBruijn64_at _ q
theorem aHu(x:Nat)(w:(Ty.u .u64).wf x):nL none x=some (kZ x):=by
 unfold nL kZ;try simp only[wQ,mulM,aMx]
 refine aH3 (fun h=>?_) (fun h=>?_)
 ·subst h; rfl
 ·obtain⟨g,f⟩:=bL2 (aNO w) h;rw[f];exact aE ⟨Int.natCast_nonneg _,Int.ofNat_lt.2 g⟩ rfl
def aCA(F:Md)(g:Nat)(f:Nat):Option (Nat×(Nat×Unit)) :=
 some ((((((mulM F .u64 (g/(4294967296:Nat)) (f/(4294967296:Nat)))+((((mulM F .u64 (g/(4294967296:Nat)) (f&&&(4294967295:Nat)))+((mulM F .u64 (g&&&(4294967295:Nat)) (f&&&(4294967295:Nat)))/(4294967296:Nat)))%18446744073709551616)/(4294967296:Nat)))%18446744073709551616)+(((((((mulM F .u64 (g/(4294967296:Nat)) (f&&&(4294967295:Nat)))+((mulM F .u64 (g&&&(4294967295:Nat)) (f&&&(4294967295:Nat)))/(4294967296:Nat)))%18446744073709551616)&&&(4294967295:Nat))+(mulM F .u64 (g&&&(4294967295:Nat)) (f/(4294967296:Nat))))%18446744073709551616)/(4294967296:Nat)))%18446744073709551616),(mulM F .u64 g f),())
def eI(x y:Nat):Nat×Nat×Unit:=(x*y/18446744073709551616,x*y%18446744073709551616,())
theorem bL3(x:Nat):x&&&4294967295=x%4294967296:=Nat.and_two_pow_sub_one_eq_mod x 32
theorem bHC{x y:Nat}(N:x<18446744073709551616)(hy:y<18446744073709551616) :
  ((x/4294967296*(y/4294967296)%18446744073709551616+(x/4294967296*(y&&&4294967295)%18446744073709551616+(x&&&4294967295)*(y&&&4294967295)%18446744073709551616/4294967296)%18446744073709551616/4294967296)%18446744073709551616 +
     (((x/4294967296*(y&&&4294967295)%18446744073709551616+(x&&&4294967295)*(y&&&4294967295)%18446744073709551616/4294967296)%18446744073709551616&&&4294967295)+(x&&&4294967295)*(y/4294967296)%18446744073709551616)%18446744073709551616/4294967296)%18446744073709551616=x*y/18446744073709551616:=by
 simp only[bL3];have g:x/4294967296≤4294967295:=by omega
 have f:x%4294967296≤4294967295:=by omega
 have b1:y/4294967296≤4294967295:=by omega
 have q:y%4294967296≤4294967295:=by omega
 have z:=Nat.div_add_mod x 4294967296;have I:=Nat.div_add_mod y 4294967296;generalize x/4294967296=a at *;generalize x%4294967296=b at *;generalize y/4294967296=c at *;generalize y%4294967296=d at *;subst z; subst I;have e:(4294967296*a+b)*(4294967296*c+d)=a*c*18446744073709551616+(a*d+b*c)*4294967296+b*d:=by
  grind
 rw[e];have J:=Nat.mul_le_mul g b1;have Z:=Nat.mul_le_mul g q;have p3:=Nat.mul_le_mul f b1;have U:=Nat.mul_le_mul f q;generalize a*c=O at *;generalize a*d=Y at *;generalize b*c=bc at *;generalize b*d=L at *;omega
theorem aVc(x:Nat)(f:(Ty.u .u64).wf x)(y:Nat)(g:(Ty.u .u64).wf y):aCA none x y=some (eI x y):=by
 unfold aCA eI;try simp only[wQ,mulM,aMx]
 simp only[aSe];grind[bHC,aNO]
abbrev Sz(a:List Nat):Prop:=a.length≤1099511627776
abbrev pSz(a:List Nat):Prop:=Sz a
abbrev aSW(a b:List Nat):Prop:=Sz a∧Sz b
abbrev bA5(a b:List Nat):Prop:=Nrm a∧Nrm b
abbrev bEr(a:List Nat):Prop:=Nrm a∧Sz a
theorem aYW{a:List Nat}(h:0<a.length):Nrm a↔a.getD (a.length-1) 0≠0:=by
 unfold Nrm;grind
def aDP(F:Md)(f:qc):Option (qc⊕qc) :=
 ck (((0:Int)<(f.length:Int))→(I64 ((f.length:Int)-(1:Int)))) (ck (((0:Int)<(f.length:Int))→(0≤((f.length:Int)-(1:Int))∧((f.length:Int)-(1:Int))<(f.length:Int))) (if ((0:Int)<(f.length:Int))∧((f.getD ((f.length:Int)-(1:Int)).toNat (0:Nat))=(0:Nat)) then ck (I64 ((f.length:Int)-(1:Int))) (ck (0≤((f.length:Int)-(1:Int))∧((f.length:Int)-(1:Int))≤(f.length:Int)) (some (.inl (List.take ((f.length:Int)-(1:Int)).toNat f)))) else some (.inr f)))
def aF8(F:Md)(f:qc):Option qc :=
 (dK F (fun d:qc=>aDP F d) f).bind (fun e=>some e)
def fR(a:List Nat):List Nat:=lb (nv a)
theorem aYX(a:List Nat)(w:(Ty.sl qw).wf a):aF8 none a=some (fR a):=by
 unfold aF8;refine aZ (aCu (I:=fun d=>Lm d∧d.length≤9223372036854775807) (fun d=>d.length) (fun d=>lb (nv d)) ?_ a ⟨aF7 w,bCP w⟩) rfl;intro d ⟨g,q⟩;unfold aDP;rcases Nat.eq_zero_or_pos d.length with h0|h0
 ·right
  have e:d= []:=List.eq_nil_of_length_eq_zero h0;simp_all[aE,if_neg,aYV,aDO]
 ·have e1:(d.length:Int)-1=((d.length-1:Nat):Int):=by omega
  rw[e1,Int.toNat_natCast];by_cases f:d.getD (d.length-1) 0=0
  ·left
   refine⟨d.take (d.length-1),aE (by omega) (aE (by omega) ?_),⟨aG0 g _,by grind⟩,by grind,?_⟩
   ·rw[if_pos ⟨by omega,f⟩];exact aE (by omega) (aE (by omega) rfl)
   ·have:=aAo (a:=d) (k:=d.length-1) (by omega);rw[f,show d.length-1+1=d.length from by omega,List.take_length] at this;simp_all
  ·right
   refine aE (by omega) (aE (by omega) ?_);simp_all[if_neg,bLi,aYW]
def aH5(F:Md)(f:qc):Option Bool :=
 ck (¬((f.length:Int)=(0:Int))→((f.length:Int)≤(64:Int))→(I64 ((f.length:Int)-(1:Int)))) (ck (¬((f.length:Int)=(0:Int))→((f.length:Int)≤(64:Int))→(0≤((f.length:Int)-(1:Int))∧((f.length:Int)-(1:Int))<(f.length:Int))) (some ((decide ((f.length:Int)=(0:Int)))||((decide ((f.length:Int)≤(64:Int)))&&(!(decide ((f.getD ((f.length:Int)-(1:Int)).toNat (0:Nat))=(0:Nat))))))))
def aH6(a:List Nat):Bool:=decide (a.length≤64∧Nrm a)
theorem bA6(a:List Nat)(w:(Ty.sl qw).wf a):aH5 none a=some (aH6 a):=by
 have f:=bCP w;unfold aH5 aH6;rcases Nat.eq_zero_or_pos a.length with h0|h0
 ·have e:a= []:=List.eq_nil_of_length_eq_zero h0;subst e;rfl
 ·have e1:(a.length:Int)-1=((a.length-1:Nat):Int):=by omega
  rw[e1,Int.toNat_natCast];refine aE (by omega) (aE (by omega) ?_)
  congr 1
  rw[Bool.eq_iff_iff];have:=aYW h0;grind
def aF9(F:Md)(f:Bool):Option Int :=
 if f=true then some (-1:Int) else some (1:Int)
def aBG(b:Bool):Int:=if b=true then -1 else 1
theorem aYY(b:Bool)(w:Ty.bool.wf b):aF9 none b=some (aBG b):=by
 grind[aF9,aBG]
def zQ(F:Md)(g:qc)(q:qc)(f:Int):Option ((Int)⊕((Unit)⊕Int)) :=
 if (0:Int)≤f then ck (0≤f∧f<(g.length:Int)) (ck (0≤f∧f<(q.length:Int)) (if ¬((g.getD (f.toNat) (0:Nat))=(q.getD (f.toNat) (0:Nat))) then ck (0≤f∧f<(g.length:Int)) (ck (0≤f∧f<(q.length:Int)) (some (.inr (.inr (aBG (decide ((g.getD (f.toNat) (0:Nat))<(q.getD (f.toNat) (0:Nat))))))))) else ck (I64 (f-(1:Int))) (some (.inl (f-(1:Int)))))) else some (.inr (.inl ()))
def aEg(F:Md)(f:qc)(g:qc):Option Int :=
 if ¬((f.length:Int)=(g.length:Int)) then some (aBG (decide ((f.length:Int)<(g.length:Int)))) else ck (I64 ((f.length:Int)-(1:Int))) ((dK F (fun d:Int=>zQ F f g d) ((f.length:Int)-(1:Int))).bind (fun e=>match e with|(.inl e)=>some (0:Int)|(.inr e)=>some e))
def bCS(x y:Nat):Int:=if x<y then -1 else if x=y then 0 else 1
def sG(a b:List Nat):Int:=bCS (nv a) (nv b)
theorem aX0{a b:List Nat}(f:Lm a)(hb:Nrm b)(h:a.length<b.length):nv a<nv b:=by
 have q:=uC f;have g:=bEp hb (by grind);grind[Nat.lt_of_lt_of_le,Nat.le_trans,Nat.pow_le_pow_right]
theorem aWJ(a:List Nat)(Z:(Ty.sl qw).wf a)(b:List Nat)(wb:(Ty.sl qw).wf b)(hp:bA5 a b):aEg none a b=some (sG a b):=by
 have la:=aF7 Z;have O:=aF7 wb;have na:=bCP Z;unfold aEg sG;refine aH3 (fun h=>?_) (fun h=>?_)
 ·unfold aBG bCS;rcases Nat.lt_or_ge a.length b.length with hl|hl
  ·grind[aX0]
  ·have Y:b.length<a.length:=(by omega);have:=aX0 O hp.1 Y;grind
 ·have f:a.length=b.length:=by omega
  refine aE (by omega) ?_;have g:=aCu (step:=fun d:Int=>zQ none a b d) (I:=fun i=> -1≤i∧i<a.length∧nv (a.drop (i+1).toNat)=nv (b.drop (i+1).toNat)) (fun i=>(i+1).toNat)
   (fun i=>if nv (a.take (i+1).toNat)=nv (b.take (i+1).toNat) then (.inl ():Unit⊕Int) else .inr (if nv (a.take (i+1).toNat)<nv (b.take (i+1).toNat) then -1 else 1)) ?_ ((a.length:Int)-1) ⟨by omega,by omega,by grind[List.drop_eq_nil_of_le]⟩
  ·rw[show ((a.length:Int)-1+1).toNat=a.length from by omega,List.take_length] at g;rw[f,List.take_length] at g;rw[f];refine aZ g ?_;grind[bCS,nv]
  ·intro i ⟨h1,h2,h3⟩;(try dsimp only);unfold zQ;by_cases hi:0≤i
   ·have hk:(i+1).toNat=i.toNat+1:=(by omega);have J:i.toNat<a.length:=(by omega);have z:i.toNat<b.length:=(by omega);rw[if_pos hi,hk,aAo J,aAo z];have ta:=uC (aG0 la i.toNat);have tb:=uC (aG0 O i.toNat);rw[List.length_take,Nat.min_eq_left (by omega)] at ta tb;by_cases N:a.getD i.toNat 0=b.getD i.toNat 0
    ·left
     refine⟨i-1,aE (by omega) (aE (by omega) ?_),⟨by omega,by omega,?_⟩,by omega,?_⟩
     ·rw[if_neg (by omega)];exact aE (by omega) rfl
     ·rw[show (i-1+1).toNat=i.toNat from by omega,List.drop_eq_getElem_cons J,List.drop_eq_getElem_cons z,vS,vS];rw[hk] at h3;rw[h3];rw[List.getD_eq_getElem?_getD,List.getD_eq_getElem?_getD,List.getElem?_eq_getElem J,List.getElem?_eq_getElem z] at N;have N:a[i.toNat]=b[i.toNat]:=N;rw[N]
     simp_all
    ·right
     refine aE (by omega) (aE (by omega) ?_);rw[if_pos N];refine aE (by omega) (aE (by omega) ?_);unfold aBG;generalize a.getD i.toNat 0=x at *;generalize b.getD i.toNat 0=y at *;generalize nv (a.take i.toNat)=p at *;generalize nv (b.take i.toNat)=q at *;generalize 18446744073709551616^i.toNat=P at *;rcases Nat.lt_or_ge x y with U|U
     ·have:P*(x+1)≤P*y:=Nat.mul_le_mul_left _ U;grind
     ·have L:y<x:=(by omega);have:P*(y+1)≤P*x:=Nat.mul_le_mul_left _ L;grind
   ·right
    have e:i= -1:=(by omega);simp_all
def aGa(F:Md)(f:qc):Option Int :=
 if (f.length:Int)=(0:Int) then some (0:Int) else ck (I64 ((64:Int)*(f.length:Int))) (ck (I64 ((f.length:Int)-(1:Int))) (ck (0≤((f.length:Int)-(1:Int))∧((f.length:Int)-(1:Int))<(f.length:Int)) (ck (I64 (((64:Int)*(f.length:Int))-(aC (f.getD ((f.length:Int)-(1:Int)).toNat (0:Nat))))) (some (((64:Int)*(f.length:Int))-(aC (f.getD ((f.length:Int)-(1:Int)).toNat (0:Nat))))))))
def sX(a:List Nat):Int:=(bl (nv a):Int)
theorem aI4(k:Nat):18446744073709551616^k=2^(64*k):=by rw[Nat.pow_mul]
theorem bL4{x m k:Nat}(q:x≠0)(hm:m<2^k):bl (m+2^k*x)=k+bl x:=by
 have f:=Nat.two_pow_pos k;have g:2^k*1≤2^k*x:=Nat.mul_le_mul_left _ (by omega);rw[aO1 (x:=m+2^k*x) (k:=k) (by omega),Nat.add_mul_div_left _ _ f,Nat.div_eq_of_lt hm,Nat.zero_add]
theorem bKd{a:List Nat}(h:0<a.length):nv a=nv (a.take (a.length-1))+18446744073709551616^(a.length-1)*a.getD (a.length-1) 0:=by
 have:=aAo (a:=a) (k:=a.length-1) (by omega);grind
theorem bKe{a:List Nat}(f:Lm a)(g:Nrm a)(h:0<a.length):bl (nv a)=64*(a.length-1)+bl (a.getD (a.length-1) 0):=by
 rw[bKd h,aI4];refine bL4 ((aYW h).1 g) ?_;have:=uC (aG0 f (a.length-1));grind[List.length_take,Nat.min_eq_left,aI4]
theorem aYZ(a:List Nat)(w:(Ty.sl qw).wf a)(hp:bEr a):aGa none a=some (sX a):=by
 obtain⟨g,hs⟩:=hp;unfold aGa sX;refine aH3 (fun h=>?_) (fun h=>?_)
 ·have e:a= []:=List.eq_nil_of_length_eq_zero (by omega);subst e; rfl
 ·have h0:0<a.length:=by omega
  have f:=bHB (lJ (aF7 w) (a.length-1));have e1:(a.length:Int)-1=((a.length-1:Nat):Int):=by omega
  rw[e1,Int.toNat_natCast];unfold aC;rw[bKe (aF7 w) g h0];refine aE (by omega) (aE (by omega) (aE (by omega) (aE (by omega) ?_)));grind
def tzn(n:Nat):Nat:=if h:n=0 then 0 else if n%2=1 then 0 else 1+tzn (n/2)
termination_by n
decreasing_by omega
theorem aK7{n:Nat}(h:n≠0):∃m,n=2^tzn n*(2*m+1):=by
 induction n using Nat.strongRecOn with
 | _ n f =>
  rw[tzn,dif_neg h];split
  ·exact⟨n/2,by omega⟩
  ·obtain⟨m,hm⟩:=f (n/2) (Nat.div_lt_self (by omega) xAa) (by omega);refine⟨m,?_⟩;grind[Nat.add_comm,Nat.pow_succ,Nat.mul_assoc,Nat.mul_comm]
theorem bKf{a b m k:Nat}(h:2^a*(2*m+1)=2^b*(2*k+1)):a=b:=by
 have f:∀ {a b m k:Nat},2^a*(2*m+1)=2^b*(2*k+1)→ ¬a<b:=fun {a b m k} h g=>by
  obtain⟨d,rfl⟩:∃d,b=a+(d+1):=⟨b-a-1,by omega⟩;rw[Nat.pow_add,Nat.mul_assoc] at h;have:=Nat.eq_of_mul_eq_mul_left (Nat.two_pow_pos a) h;grind
 grind
theorem bCT{n k m:Nat}(h:n=2^k*(2*m+1)):tzn n=k:=by
 have h0:n≠0:=by
  grind
 obtain⟨f,hm⟩:=aK7 h0;grind[bKf]
theorem bKg{x:Nat}(k:Nat)(h:x≠0):tzn (2^k*x)=k+tzn x:=by
 obtain⟨m,hm⟩:=aK7 h;refine bCT (m:=m) ?_;grind
theorem bEs{x:Nat}(f:x<18446744073709551616)(h:x≠0):Lib.ctz 64 x=tzn x∧tzn x<64:=by
 obtain⟨m,hm,g⟩:=Lib.ctzFrom_spec 64 x (by omega) f;grind[Go.Lib.ctz,Go.Lib.ctzFrom,bCT]
theorem bKh{x q:Nat}(f:x<18446744073709551616)(h:x≠0):tzn (x+18446744073709551616*q)=tzn x:=by
 obtain⟨m,hm⟩:=aK7 h;have g:=(bEs f h).2;refine bCT (m:=m+2^(63-tzn x)*q) ?_;have e:18446744073709551616=2^tzn x*(2*2^(63-tzn x)):=by
  rw[← Nat.mul_assoc,Nat.mul_comm _ 2,← Nat.pow_succ',← Nat.pow_add,show tzn x+1+(63-tzn x)=64 from by omega]
 grind
def zR(F:Md)(g:qc)(f:Int):Option ((Int)⊕((Unit)⊕Int)) :=
 if f<(g.length:Int) then ck (0≤f∧f<(g.length:Int)) (if ¬((g.getD (f.toNat) (0:Nat))=(0:Nat)) then ck (I64 ((64:Int)*f)) (ck (I64 (((64:Int)*f)+(kZ (g.getD (f.toNat) (0:Nat))))) (some (.inr (.inr (((64:Int)*f)+(kZ (g.getD (f.toNat) (0:Nat)))))))) else ck (I64 (f+(1:Int))) (some (.inl (f+(1:Int))))) else some (.inr (.inl ()))
def aEh(F:Md)(f:qc):Option Int :=
 (dK F (fun d:Int=>zR F f d) (0:Int)).bind (fun e=>match e with|(.inl e)=>some (-1:Int)|(.inr e)=>some e)
def lK(a:List Nat):Int:=if nv a=0 then -1 else (tzn (nv a):Int)
theorem aWK(a:List Nat)(w:(Ty.sl qw).wf a)(hp:pSz a):aEh none a=some (lK a):=by
 have J:=aF7 w;have hs:a.length≤1099511627776:=hp;unfold aEh lK;have N:=aCu (step:=fun d:Int=>zR none a d) (I:=fun i=>0≤i∧i≤a.length∧nv (a.take i.toNat)=0) (fun i=>(a.length-i).toNat)
   (fun i=>if nv a=0 then (.inl ():Unit⊕Int) else .inr (tzn (nv a):Int)) ?_ 0 ⟨by omega,by omega,rfl⟩
 ·grind
 ·intro i ⟨h0,Z,q⟩;try dsimp only
  unfold zR;by_cases hi:i<a.length
  ·have g:i.toNat<a.length:=(by omega);have hd:=aCy a i.toNat;rw[q,Nat.zero_add,Nat.min_eq_left (by omega),List.drop_eq_getElem_cons g,vS] at hd;have O:a.getD i.toNat 0=a[i.toNat]:=(by simp_all);have U:=lJ J i.toNat;rw[← O] at hd;rw[if_pos hi];by_cases z:a.getD i.toNat 0=0
   ·left
    refine⟨i+1,aE (by omega) ?_,⟨by omega,by omega,?_⟩,by omega,rfl⟩
    ·rw[if_neg (by omega)];exact aE (by omega) rfl
    ·rw[show (i+1).toNat=i.toNat+1 from by omega,aAo g,q,z,Nat.mul_zero]
   ·right
    obtain⟨c1,Y⟩:=bEs U z;have L:a.getD i.toNat 0+18446744073709551616*nv (a.drop (i.toNat+1))≠0:=(by omega);have ht:tzn (nv a)=64*i.toNat+tzn (a.getD i.toNat 0):=by
     grind[aI4,bKg,bKh]
    have f:nv a≠0:=by
     grind[Nat.mul_ne_zero,aI4,Nat.pos_iff_ne_zero,Nat.two_pow_pos]
    refine aE (by omega) ?_;rw[if_pos (by omega),if_neg f,ht];unfold kZ;rw[c1];refine aE (by omega) (aE (by omega) ?_);grind
  ·right
   rw[if_neg hi];have:nv a=0:=(by grind[List.take_length]);simp_all
theorem xB(b:List Nat)(i:Nat):nv (b.take (i+1))=nv (b.take i)+18446744073709551616^i*b.getD i 0:=by
 rcases Nat.lt_or_ge i b.length with h|h
 ·exact aAo h
 ·rw[List.take_of_length_le (by omega),List.take_of_length_le h,List.getD_eq_getElem?_getD,List.getElem?_eq_none h];simp
theorem bHD{a:List Nat}{i v:Nat}(h:i<a.length):(a.set i v).take (i+1)=a.take i++ [v]:=by
 rw[take_succ (by simp_all),List.take_set_of_le (Nat.le_refl i),List.getD_eq_getElem?_getD,List.getElem?_set_self h]; rfl
theorem aSf{a:List Nat}{i v:Nat}(h:i<a.length):nv ((a.set i v).take (i+1))=nv (a.take i)+18446744073709551616^i*v:=by
 rw[bHD h,aQW,List.length_take,Nat.min_eq_left (Nat.le_of_lt h)]; simp[nv]
theorem aO2{a b:List Nat}{i:Nat}(h:a.drop i=b.drop i):a.getD i 0=b.getD i 0:=by
 have f:=congrArg (fun l=>l.getD 0 0) h;grind
theorem aFL{a b:List Nat}{i:Nat}(h:a.drop i=b.drop i):a.drop (i+1)=b.drop (i+1):=by
 have f:=congrArg (List.drop 1) h;grind[List.drop_drop]
theorem drop_set{a:List Nat}{i v:Nat}:(a.set i v).drop (i+1)=a.drop (i+1):=by
 grind[List.drop_set_of_lt]
def vJ(F:Md)(f:Int)(g:qc)(carry_12:Nat)(q:Nat):Option ((Nat×Int×qc)⊕qc) :=
 ck (0≤f∧f<(g.length:Int)) (ck (aF6 (g.getD (f.toNat) (0:Nat)) q carry_12) (ck (0≤f∧f<(g.length:Int)) (ck (I64 (f+(1:Int))) (some (.inl ((uD (g.getD (f.toNat) (0:Nat)) q carry_12).2.1,(f+(1:Int)),(g.set (f.toNat) (uD (g.getD (f.toNat) (0:Nat)) q carry_12).1)))))))
def vK(F:Md)(z:qc)(q:qc)(carry_12:Nat)(f:Int)(g:qc):Option ((Nat×Int×qc)⊕qc) :=
 if f<((((id z)++([0]:List Nat)).length:Nat):Int) then if f<(q.length:Int) then ck (0≤f∧f<(q.length:Int)) (vJ F f g carry_12 (q.getD (f.toNat) (0:Nat))) else if carry_12=(0:Nat) then some (.inr g) else vJ F f g carry_12 (0:Nat) else some (.inr g)
def vL(F:Md)(f:qc)(g:qc):Option qc :=
 ck (bFA f) (ck (((id f).length+(1:Nat))*8≤140737488355328) ((dK F (fun d:Nat×Int×qc=>vK F f g d.1 d.2.1 d.2.2) ((0:Nat),(0:Int),((id f)++([0]:List Nat)))).bind (fun e=>some (fR e))))
def aGb(F:Md)(f:qc)(g:qc):Option qc :=
 if (f.length:Int)<(g.length:Int) then vL F g f else vL F f g
def aDA(a b:List Nat):List Nat:=lb (nv a+nv b)
structure aSg(a b:List Nat)(c:Nat)(i:Int)(out:List Nat):Prop where
 i0:0≤i
 i1:i≤a.length+1
 len:out.length=a.length+1
 lm:Lm out
 c1:c≤1
 rest:out.drop i.toNat=(a++ [0]).drop i.toNat
 sum:nv (out.take i.toNat)+18446744073709551616^i.toNat*c=nv ((a++ [0]).take i.toNat)+nv (b.take i.toNat)
theorem bHE{P p q r x y c s c':Nat}(h:p+P*c=q+r)(e:s+18446744073709551616*c'=x+y+c):p+P*s+P*18446744073709551616*c'=q+P*x+(r+P*y):=by
 grind
theorem aVd{a b:List Nat}{c:Nat}{i:Int}{out:List Nat}(f:Lm b)(h:aSg a b c i out)(hi:i<a.length+1):aSg a b ((out.getD i.toNat 0+b.getD i.toNat 0+c)/18446744073709551616) (i+1) (out.set i.toNat ((out.getD i.toNat 0+b.getD i.toNat 0+c)%18446744073709551616)):=by
 have q:=lJ h.lm i.toNat;have hy:=lJ f i.toNat;have hc:=h.c1;have h0:=h.i0;have g:=h.len;have e1:(i+1).toNat=i.toNat+1:=by omega
 refine⟨by omega,by omega,by simp_all,aEP h.lm _ (Nat.mod_lt _ xAa),by omega,?_,?_⟩
 ·rw[e1,drop_set]; exact aFL h.rest
 ·rw[e1,aSf (by omega),xB,xB b,← aO2 h.rest,Nat.pow_succ];exact bHE h.sum (Nat.mod_add_div _ _)
theorem bEt{a b:List Nat}{c:Nat}{i:Int}{out:List Nat}(g:a.length≤1099511627776)(h:aSg a b c i out)(hi:i<a.length+1)(y:Nat):vJ none i out c y=some (.inl ((out.getD i.toNat 0+y+c)/18446744073709551616,i+1,out.set i.toNat ((out.getD i.toNat 0+y+c)%18446744073709551616))):=by
 have h0:=h.i0;have f:=h.len;unfold vJ uD;exact aE (by omega) (aE h.c1 (aE (by omega) (aE (by omega) rfl)))
theorem aX1{a b:List Nat}{i:Int}{out:List Nat}(h:aSg a b 0 i out)(hb:(b.length:Int)≤i):nv out=nv a+nv b:=by
 have z:nv (a++ [0])=nv a:=by rw[aQW]; simp[nv]
 have I:(a++ [0]).length=a.length+1:=by simp
 have h0:=h.i0;have L:=h.i1;have J:=h.len;have f:=h.sum;rw[Nat.mul_zero,Nat.add_zero,List.take_of_length_le (l:=b) (by omega)] at f;have q:=aCy out i.toNat;have g:=aCy (a++ [0]) i.toNat;rw[Nat.min_eq_left (by omega)] at q;rw[Nat.min_eq_left (by omega)] at g;rw[q,f,h.rest,← z,g]; omega
theorem bCU{a b:List Nat}{c:Nat}{i:Int}{out:List Nat}(I:Lm a)(g:Lm b)(f:b.length≤a.length)(h:aSg a b c i out)(hi:¬i<a.length+1):c=0:=by
 have z:nv (a++ [0])=nv a:=by rw[aQW]; simp[nv]
 have J:(a++ [0]).length=a.length+1:=by simp
 have O:=h.i1;have L:=h.len;have q:=h.sum;rw[List.take_of_length_le (l:=out) (by omega),List.take_of_length_le (l:=a++ [0]) (by omega),List.take_of_length_le (l:=b) (by omega),z] at q;have N:=uC I;have U:=Nat.lt_of_lt_of_le (uC g) (Nat.pow_le_pow_right (show 0<18446744073709551616 by decide) f);rw[show i.toNat=a.length+1 from by omega,Nat.pow_succ] at q;rcases Nat.eq_zero_or_pos c with h|h
 ·exact h
 ·have:18446744073709551616^a.length*18446744073709551616*1≤18446744073709551616^a.length*18446744073709551616*c:=Nat.mul_le_mul_left _ h;omega
theorem bKi{a b:List Nat}(I:Lm a)(f:Lm b)(J:a.length≤1099511627776)(g:b.length≤a.length){c:Nat}{i:Int}{out:List Nat}(h:aSg a b c i out) :
  (∃d':Nat×Int×List Nat,vK none a b c i out=some (.inl d')∧aSg a b d'.1 d'.2.1 d'.2.2∧(a.length+1-d'.2.1).toNat<(a.length+1-i).toNat)∨ ∃e,vK none a b c i out=some (.inr e)∧Lm e∧nv e=nv a+nv b:=by
 have z:(id a++ [0]).length=a.length+1:=by simp
 have h0:=h.i0;unfold vK;rw[z];by_cases hi:i<a.length+1
 ·rw[if_pos (by omega)];by_cases hb:i<b.length
  ·left
   refine⟨(_,_,_),?_,aVd f h hi,?_⟩
   ·rw[if_pos hb];exact aE (by omega) (bEt J h hi _)
   grind
  ·rw[if_neg hb];have q:b.getD i.toNat 0=0:=(by simp_all);by_cases hc:c=0
   ·right
    subst hc;exact⟨out,by rfl,h.lm,aX1 h (by omega)⟩
   ·left
    have hs:=aVd f h hi;rw[q] at hs;refine⟨(_,_,_),?_,hs,?_⟩
    ·rw[if_neg hc]; grind[bEt]
    grind
 ·right
  rw[if_neg (by omega)];have hc:=bCU I f g h hi;subst hc;exact⟨out,rfl,h.lm,aX1 h (by omega)⟩
theorem bKj{a b:List Nat}(J:Lm a)(g:Lm b)(z:Sz a)(f:b.length≤a.length):vL none a b=some (lb (nv a+nv b)):=by
 have z:a.length≤1099511627776:=z;have q:=mF (step:=fun d:Nat×Int×qc=>vK none a b d.1 d.2.1 d.2.2) (I:=fun d=>aSg a b d.1 d.2.1 d.2.2) (fun d=>(a.length+1-d.2.1).toNat)
   (fun e=>Lm e∧nv e=nv a+nv b) (fun d h=>bKi J g z f h) (0,0,a++ [0]) ⟨by simp,by grind,by simp,bHy J (by intro x U; simp_all),by simp,rfl,by simp[nv]⟩
 obtain⟨e,N,O,L⟩:=q;unfold vL;refine aE (by omega) (aE (by grind) (aZ N ?_));rw[fR,L]
theorem aY0(a:List Nat)(f:(Ty.sl qw).wf a)(b:List Nat)(g:(Ty.sl qw).wf b)(hp:aSW a b):aGb none a b=some (aDA a b):=by
 unfold aGb aDA;refine aH3 (fun h=>?_) (fun h=>?_)
 all_goals grind[bKj,aF7,Nat.add_comm]
def aGc(F:Md)(f:qc):Option qc :=
 ck (bFA (fR f)) (some (id (fR f)))
def qZ(a:List Nat):List Nat:=lb (nv a)
theorem bFB{a:List Nat}(h:Lm a):(lb (nv a)).length≤a.length:=aEO.2 (uC h)
theorem aY1(a:List Nat)(w:(Ty.sl qw).wf a)(hp:pSz a):aGc none a=some (qZ a):=by
 have hp:a.length≤1099511627776:=hp;have:=bFB (aF7 w);unfold aGc qZ fR;exact aE (by omega) rfl
theorem bHF{x y c o:Nat}(g:x<18446744073709551616)(hy:y<18446744073709551616)(hc:c<18446744073709551616)(f:o<18446744073709551616) :
  (o+(x*y%18446744073709551616+c+0)%18446744073709551616+0)%18446744073709551616+18446744073709551616*(((x*y/18446744073709551616+(x*y%18446744073709551616+c+0)/18446744073709551616)%18446744073709551616+(o+(x*y%18446744073709551616+c+0)%18446744073709551616+0)/18446744073709551616)%18446744073709551616)=o+x*y+c:=by
 have p:x*y≤18446744073709551615*18446744073709551615:=Nat.mul_le_mul (by omega) (by omega);omega
theorem aBr{a:List Nat}(h:Lm a)(k:Nat):a.getD k 0=nv a/18446744073709551616^k%18446744073709551616:=by
 rw[← aO0 h];rcases Nat.lt_or_ge k a.length with f|f
 ·rw[List.drop_eq_getElem_cons f,vS,Nat.add_mul_mod_self_left,List.getD_eq_getElem?_getD,List.getElem?_eq_getElem f];exact(Nat.mod_eq_of_lt (h _ (List.getElem_mem f))).symm
 ·rw[List.drop_eq_nil_of_le f,List.getD_eq_getElem?_getD,List.getElem?_eq_none f]; rfl
theorem aX2{a:List Nat}(h:Lm a){k:Nat}(f:nv a<18446744073709551616^k):a.getD k 0=0:=by
 rw[aBr h,Nat.div_eq_of_lt f]
def zT(F:Md)(f:Int)(q:qc)(carry_62:Nat)(g:qc):Option ((Int×qc)⊕qc) :=
 ck (I64 (f+(q.length:Int))) (ck (0≤(f+(q.length:Int))∧(f+(q.length:Int))<(g.length:Int)) (ck (I64 (f+(1:Int))) (some (.inl ((f+(1:Int)),(g.set (f+(q.length:Int)).toNat carry_62))))))
def sY(F:Md)(z:qc)(I:qc)(g:Int)(carry_64:Nat)(f:Int)(q:qc):Option ((Nat×Int×qc)⊕vn) :=
 if f<(z.length:Int) then ck (0≤f∧f<(z.length:Int)) (ck (aF6 (eI (I.getD (g.toNat) (0:Nat)) (z.getD (f.toNat) (0:Nat))).2.1 carry_64 (0:Nat)) (ck (I64 (g+f)) (ck (I64 (g+f)) (ck (0≤(g+f)∧(g+f)<(q.length:Int)) (ck (aF6 (q.getD (g+f).toNat (0:Nat)) (uD (eI (I.getD (g.toNat) (0:Nat)) (z.getD (f.toNat) (0:Nat))).2.1 carry_64 (0:Nat)).1 (0:Nat)) (ck (0≤(g+f)∧(g+f)<(q.length:Int)) (ck (I64 (f+(1:Int))) (some (.inl ((((((eI (I.getD (g.toNat) (0:Nat)) (z.getD (f.toNat) (0:Nat))).1+(uD (eI (I.getD (g.toNat) (0:Nat)) (z.getD (f.toNat) (0:Nat))).2.1 carry_64 (0:Nat)).2.1)%18446744073709551616)+(uD (q.getD (g+f).toNat (0:Nat)) (uD (eI (I.getD (g.toNat) (0:Nat)) (z.getD (f.toNat) (0:Nat))).2.1 carry_64 (0:Nat)).1 (0:Nat)).2.1)%18446744073709551616),(f+(1:Int)),(q.set (g+f).toNat (uD (q.getD (g+f).toNat (0:Nat)) (uD (eI (I.getD (g.toNat) (0:Nat)) (z.getD (f.toNat) (0:Nat))).2.1 carry_64 (0:Nat)).1 (0:Nat)).1))))))))))) else some (.inr (carry_64,q))
def sZ(F:Md)(q:qc)(z:qc)(f:Int)(g:qc):Option ((Int×qc)⊕qc) :=
 if f<(q.length:Int) then ck (0≤f∧f<(q.length:Int)) ((dK F (fun d:Nat×Int×qc=>sY F z q f d.1 d.2.1 d.2.2) ((0:Nat),(0:Int),g)).bind (fun e=>zT F f z e.1 e.2)) else some (.inr g)
def aEi(F:Md)(f:qc)(g:qc):Option qc :=
 ck (I64 ((f.length:Int)+(g.length:Int))) (ck (0≤((f.length:Int)+(g.length:Int))) (ck ((8:Int)*((f.length:Int)+(g.length:Int))≤281474976710656) ((dK F (fun d:Int×qc=>sZ F f g d.1 d.2) ((0:Int),(List.replicate ((f.length:Int)+(g.length:Int)).toNat (0:Nat)))).bind (fun e=>some (fR e)))))
def dE(a b:List Nat):List Nat:=lb (nv a*nv b)
structure bA7(b:List Nat)(x:Nat)(i:Int)(o0:List Nat)(c:Nat)(j:Int)(out:List Nat):Prop where
 j0:0≤j
 j1:j≤b.length
 len:out.length=o0.length
 lm:Lm out
 c1:c<18446744073709551616
 rest:out.drop (i+j).toNat=o0.drop (i+j).toNat
 sum:nv out+18446744073709551616^(i+j).toNat*c=nv o0+18446744073709551616^i.toNat*x*nv (b.take j.toNat)
theorem bKk{N g f Q R P o v c c' x y t:Nat}(hP:P=Q*R)(I:g+P*o=N+P*v)(z:N+P*c=f+Q*x*t)(q:v+18446744073709551616*c'=o+x*y+c):g+P*18446744073709551616*c'=f+Q*x*(t+R*y):=by
 grind
theorem bFC{b:List Nat}{x:Nat}{i:Int}{f:List Nat}{c:Nat}{j:Int}{out:List Nat}(N:x<18446744073709551616)(I:Lm b)(hi:0≤i)(L:i+b.length≤f.length)(h:bA7 b x i f c j out)(J:j<b.length){v c':Nat}(hv:v<18446744073709551616)(g:c'<18446744073709551616)(e:v+18446744073709551616*c'=out.getD (i+j).toNat 0+x*b.getD j.toNat 0+c) :
  bA7 b x i f c' (j+1) (out.set (i+j).toNat v):=by
 have h0:=h.j0;have q:=h.len;have e1:(i+(j+1)).toNat=(i+j).toNat+1:=by omega
 have z:(j+1).toNat=j.toNat+1:=by omega
 refine⟨by omega,by omega,by simp_all,aEP h.lm _ hv,g,?_,?_⟩
 ·rw[e1,drop_set]; exact aFL h.rest
 ·rw[e1,z,xB,Nat.pow_succ];exact bKk (R:=18446744073709551616^j.toNat) (by rw[← Nat.pow_add]; grind) (aHt (by omega)) h.sum e
theorem bHG{a b:List Nat}{i:Int}{g:List Nat}(hi:0≤i)(hs:i+b.length≤9000000000000)(N:i+b.length≤g.length)(O:Lm a)(f:Lm b){c:Nat}{j:Int}{out:List Nat}(h:bA7 b (a.getD i.toNat 0) i g c j out) :
  (∃d':Nat×Int×List Nat,sY none b a i c j out=some (.inl d')∧bA7 b (a.getD i.toNat 0) i g d'.1 d'.2.1 d'.2.2∧(b.length-d'.2.1).toNat<(b.length-j).toNat)∨ ∃e:Nat×List Nat,sY none b a i c j out=some (.inr e)∧bA7 b (a.getD i.toNat 0) i g e.1 b.length e.2:=by
 have h0:=h.j0;have J:=h.len;have U:=h.j1;have I:=lJ O i.toNat;have hy:=lJ f j.toNat;have L:=lJ h.lm (i+j).toNat;unfold sY;by_cases z:j<b.length
 ·left
  have q:=bHF I hy h.c1 L;refine⟨(_,_,_),?_,bFC I f hi N h z (Nat.mod_lt _ xAa) (Nat.mod_lt _ xAa) q,?_⟩
  ·rw[if_pos z];refine aE (by omega) (aE (Nat.zero_le _) (aE (by omega) (aE (by omega) (aE (by omega) (aE (Nat.zero_le _) (aE (by omega) (aE (by omega) ?_)))))));rfl
  grind
 ·right
  refine⟨(c,out),by grind,?_⟩;grind
structure bHH(a b:List Nat)(i:Int)(out:List Nat):Prop where
 i0:0≤i
 i1:i≤a.length
 len:out.length=a.length+b.length
 lm:Lm out
 sum:nv out=nv (a.take i.toNat)*nv b
theorem bFD{a b:List Nat}{i:Int}{out:List Nat}(q:Lm a)(f:Lm b)(h:bHH a b i out):nv out<18446744073709551616^(i.toNat+b.length):=by
 rw[h.sum,Nat.pow_add];have z:=uC (aG0 q i.toNat);have J:=uC f;have g:(a.take i.toNat).length≤i.toNat:=by grind
 have I:=Nat.lt_of_lt_of_le z (Nat.pow_le_pow_right (show 0<18446744073709551616 by decide) g);simp_all[Nat.pow_pos,Nat.mul_lt_mul'']
theorem bFE{a b:List Nat}{i:Int}{out:List Nat}(J:Lm a)(q:Lm b)(h:bHH a b i out)(hi:i<a.length){c:Nat}{f:List Nat}(g:bA7 b (a.getD i.toNat 0) i out c b.length f):bHH a b (i+1) (f.set (i+b.length).toNat c):=by
 have h0:=h.i0;have O:=h.len;have L:=g.len;have e1:(i+1).toNat=i.toNat+1:=by omega
 have z:(i+(b.length:Int)).toNat=i.toNat+b.length:=by omega
 have N:f.getD (i.toNat+b.length) 0=0:=by
  have:=aO2 g.rest;rw[z] at this;rw[this];exact aX2 h.lm (bFD J q h)
 refine⟨by omega,by omega,by simp_all,aEP g.lm _ g.c1,?_⟩;have I:=aHt (a:=f) (k:=i.toNat+b.length) (v:=c) (by omega);have hs:=g.sum;rw[z] at hs ⊢;rw[N,Nat.mul_zero,Nat.add_zero] at I;rw[I,hs,e1,xB,h.sum,Int.toNat_natCast,List.take_length,Nat.add_mul]
theorem aWL(a:List Nat)(N:(Ty.sl qw).wf a)(b:List Nat)(U:(Ty.sl qw).wf b)(hp:aSW a b):aEi none a b=some (dE a b):=by
 have z:=aF7 N;have f:=aF7 U;have sa:a.length≤1099511627776:=hp.1;have sb:b.length≤1099511627776:=hp.2;have g:=mF (step:=fun d:Int×qc=>sZ none a b d.1 d.2) (I:=fun d=>bHH a b d.1 d.2) (fun d=>(a.length-d.1).toNat) (fun e=>nv e=nv a*nv b) ?_ (0,List.replicate (a.length+b.length) 0) ⟨by simp,by simp,by simp,aQY _,by simp[aQX,nv]⟩
 ·obtain⟨e,J,O⟩:=g;unfold aEi dE;rw[show ((a.length:Int)+(b.length:Int)).toNat=a.length+b.length from by omega];refine aE (by omega) (aE (by omega) (aE (by omega) (aZ J ?_)));rw[fR,O]
 ·rintro⟨i,out⟩ h;have h:bHH a b i out:=h;have h0:=h.i0;have J:=h.i1;have Z:=h.len;show (∃d',sZ none a b i out=_∧_)∨ ∃e,sZ none a b i out=_∧_;unfold sZ;by_cases hi:i<a.length
  ·left
   obtain⟨e,Y,q⟩:=mF (step:=fun d:Nat×Int×qc=>sY none b a i d.1 d.2.1 d.2.2) (I:=fun d=>bA7 b (a.getD i.toNat 0) i out d.1 d.2.1 d.2.2) (fun d=>(b.length-d.2.1).toNat) (fun e=>bA7 b (a.getD i.toNat 0) i out e.1 b.length e.2)
    (fun d hd=>bHG h0 (by omega) (by omega) z f hd) (0,0,out) ⟨by simp,by simp,rfl,h.lm,by simp,rfl,by simp[nv]⟩
   have L:=q.len;refine⟨(i+1,e.2.set (i+b.length).toNat e.1),?_,bFE z f h hi q,by omega⟩;rw[if_pos hi];refine aE (by omega) (aZ Y ?_);unfold zT;exact aE (by omega) (aE (by omega) (aE (by omega) rfl))
  ·right
   refine⟨out,by grind,?_⟩;have:=h.sum;rw[show i.toNat=a.length from by omega,List.take_length] at this;omega
theorem bHI{n:Int}(h:0≤n):Int.tdiv n 64=((n.toNat/64:Nat):Int)∧Int.tmod n 64=((n.toNat%64:Nat):Int):=by
 grind
theorem aX3{r:Nat}(h:r<64):((r:Int)%(18446744073709551616:Int)).toNat=r∧((63-(r:Int))%(18446744073709551616:Int)).toNat=63-r:=by omega
theorem bA8(r:Nat)(h:r≤64):2^(64-r)*2^r=18446744073709551616:=by
 rw[← Nat.pow_add,show 64-r+r=64 from by omega]
theorem aY2(x r:Nat)(h:r≤64):x*2^r%18446744073709551616=2^r*(x%2^(64-r)):=by
 grind[bA8,Nat.mul_comm,Nat.mul_mod_mul_left]
theorem bEu(x r:Nat)(h:r≤63):x*2^r/18446744073709551616=x/2/2^(63-r):=by
 rw[← bA8 r (by omega),Nat.mul_div_mul_right _ _ (Nat.two_pow_pos r),Nat.div_div_eq_div_mul,← Nat.pow_succ',show (63-r).succ=64-r from by omega]
theorem bCV{o r t:Nat}(h:o<2^r):o|||2^r*t=o+2^r*t:=by
 have:=Nat.two_pow_add_eq_or_of_lt h t;rw[Nat.or_comm,← this,Nat.add_comm]
def vM(F:Md)(z:qc)(g:Int)(f:Int)(q:qc):Option ((Int×qc)⊕qc) :=
 if f<(z.length:Int) then ck (0≤f∧f<(z.length:Int)) (ck (I64 (Int.tdiv g (64:Int))) (ck (I64 ((Int.tdiv g (64:Int))+f)) (ck (0≤((Int.tdiv g (64:Int))+f)∧((Int.tdiv g (64:Int))+f)<(q.length:Int)) (ck (0≤((Int.tdiv g (64:Int))+f)∧((Int.tdiv g (64:Int))+f)<(q.length:Int)) (ck (I64 (Int.tdiv g (64:Int))) (ck (I64 ((Int.tdiv g (64:Int))+f)) (ck (I64 (((Int.tdiv g (64:Int))+f)+(1:Int))) (ck (0≤(((Int.tdiv g (64:Int))+f)+(1:Int))∧(((Int.tdiv g (64:Int))+f)+(1:Int))<(((q.set ((Int.tdiv g (64:Int))+f).toNat ((q.getD ((Int.tdiv g (64:Int))+f).toNat (0:Nat))|||(((z.getD (f.toNat) (0:Nat))*(2^((Int.tmod g (64:Int))%(18446744073709551616:Int)).toNat))%18446744073709551616))).length:Nat):Int)) (ck (I64 ((63:Int)-(Int.tmod g (64:Int)))) (ck (0≤(((Int.tdiv g (64:Int))+f)+(1:Int))∧(((Int.tdiv g (64:Int))+f)+(1:Int))<(((q.set ((Int.tdiv g (64:Int))+f).toNat ((q.getD ((Int.tdiv g (64:Int))+f).toNat (0:Nat))|||(((z.getD (f.toNat) (0:Nat))*(2^((Int.tmod g (64:Int))%(18446744073709551616:Int)).toNat))%18446744073709551616))).length:Nat):Int)) (ck (I64 (f+(1:Int))) (some (.inl ((f+(1:Int)),((q.set ((Int.tdiv g (64:Int))+f).toNat ((q.getD ((Int.tdiv g (64:Int))+f).toNat (0:Nat))|||(((z.getD (f.toNat) (0:Nat))*(2^((Int.tmod g (64:Int))%(18446744073709551616:Int)).toNat))%18446744073709551616))).set (((Int.tdiv g (64:Int))+f)+(1:Int)).toNat (((q.set ((Int.tdiv g (64:Int))+f).toNat ((q.getD ((Int.tdiv g (64:Int))+f).toNat (0:Nat))|||(((z.getD (f.toNat) (0:Nat))*(2^((Int.tmod g (64:Int))%(18446744073709551616:Int)).toNat))%18446744073709551616))).getD (((Int.tdiv g (64:Int))+f)+(1:Int)).toNat (0:Nat))|||(((z.getD (f.toNat) (0:Nat))/(2:Nat))/(2^(((63:Int)-(Int.tmod g (64:Int)))%(18446744073709551616:Int)).toNat)))))))))))))))))) else some (.inr q)
def aGd(F:Md)(f:qc)(g:Int):Option qc :=
 if (f.length:Int)=(0:Int) then some ([]:List Nat) else ck (I64 (Int.tdiv g (64:Int))) (ck (I64 ((Int.tdiv g (64:Int))+(f.length:Int))) (ck (I64 (((Int.tdiv g (64:Int))+(f.length:Int))+(1:Int))) (ck (0≤(((Int.tdiv g (64:Int))+(f.length:Int))+(1:Int))) (ck ((8:Int)*(((Int.tdiv g (64:Int))+(f.length:Int))+(1:Int))≤281474976710656) ((dK F (fun d:Int×qc=>vM F f g d.1 d.2) ((0:Int),(List.replicate (((Int.tdiv g (64:Int))+(f.length:Int))+(1:Int)).toNat (0:Nat)))).bind (fun e=>some (fR e)))))))
abbrev aX4(a:List Nat)(n:Int):Prop:=Sz a∧0≤n∧n≤1099511627776
def kI(a:List Nat)(n:Int):List Nat:=lb (nv a*2^n.toNat)
structure bHJ(a:List Nat)(q r:Nat)(i:Int)(out:List Nat):Prop where
 i0:0≤i
 i1:i≤a.length
 len:out.length=q+a.length+1
 lm:Lm out
 sum:nv out=nv (a.take i.toNat)*(18446744073709551616^q*2^r)
theorem bHK{a:List Nat}{q r:Nat}{i:Int}{out:List Nat}(I:Lm a)(N:r<64)(h:bHJ a q r i out):out.getD (q+i.toNat) 0<2^r∧out.getD (q+i.toNat+1) 0=0:=by
 have J:=uC (aG0 I i.toNat);have f:(a.take i.toNat).length≤i.toNat:=by grind
 have z:=Nat.lt_of_lt_of_le J (Nat.pow_le_pow_right (show 0<18446744073709551616 by decide) f);have hp:0<2^r:=Nat.two_pow_pos r;have g:nv out<18446744073709551616^(q+i.toNat)*2^r:=by
  rw[h.sum,Nat.pow_add,Nat.mul_comm (18446744073709551616^q) (18446744073709551616^i.toNat),Nat.mul_assoc];exact Nat.mul_lt_mul_of_pos_right z (Nat.mul_pos (Nat.pow_pos xAa) hp)
 have L:(2:Nat)^r≤18446744073709551616:=by
  have:=Nat.pow_le_pow_right (n:=2) (by omega) (show r≤64 by omega);omega
 constructor
 ·rw[aBr h.lm];refine Nat.lt_of_le_of_lt (Nat.mod_le _ _) ?_;simp_all[Nat.div_lt_iff_lt_mul,Nat.pow_pos,Nat.mul_comm]
 ·refine aX2 h.lm (Nat.lt_of_lt_of_le g ?_);simp_all[Nat.pow_succ,Nat.mul_le_mul_left]
theorem bKl{N g q P f Q x lo hi o T R:Nat}(L:g+P*o=N+P*(o+lo))(J:q=g+P*18446744073709551616*hi)(I:lo+18446744073709551616*hi=x*R)(z:N=T*(f*R))(hP:P=f*Q):q=(T+Q*x)*(f*R):=by
 grind
theorem bFF{a:List Nat}{q r:Nat}{i:Int}{out:List Nat}(J:Lm a)(O:r<64)(h:bHJ a q r i out)(hi:i<a.length) :
  bHJ a q r (i+1) ((out.set (q+i.toNat) (out.getD (q+i.toNat) 0|||a.getD i.toNat 0*2^r%18446744073709551616)).set (q+i.toNat+1) ((out.set (q+i.toNat) (out.getD (q+i.toNat) 0|||a.getD i.toNat 0*2^r%18446744073709551616)).getD (q+i.toNat+1) 0|||a.getD i.toNat 0/2/2^(63-r))):=by
 have h0:=h.i0;have N:=h.len;obtain⟨U,l2⟩:=bHK J O h;have Z:=lJ J i.toNat;have L:∀v,(out.set (q+i.toNat) v).getD (q+i.toNat+1) 0=0:=fun v=>by
  simp_all
 rw[L,Nat.zero_or,aY2 _ _ (by omega),bCV U,← bEu _ _ (by omega)];have z:2^r*(a.getD i.toNat 0%2^(64-r))+18446744073709551616*(a.getD i.toNat 0*2^r/18446744073709551616)=a.getD i.toNat 0*2^r:=by
  grind[aY2,Nat.mod_add_div]
 have f:out.getD (q+i.toNat) 0+2^r*(a.getD i.toNat 0%2^(64-r))<18446744073709551616:=by
  have hm:a.getD i.toNat 0%2^(64-r)+1≤2^(64-r):=Nat.mod_lt _ (Nat.two_pow_pos _);have:=Nat.mul_le_mul_left (2^r) hm;grind[Nat.mul_comm,bA8,Nat.mul_add]
 have g:a.getD i.toNat 0*2^r/18446744073709551616<18446744073709551616:=by
  have:=Nat.div_le_self (a.getD i.toNat 0/2) (2^(63-r));grind[bEu]
 have e1:(i+1).toNat=i.toNat+1:=by omega
 refine⟨by omega,by omega,by simp_all,aEP (aEP h.lm _ f) _ g,?_⟩;have Y:=aHt (a:=out) (k:=q+i.toNat) (v:=out.getD (q+i.toNat) 0+2^r*(a.getD i.toNat 0%2^(64-r))) (by omega);have I:=aHt (a:=out.set (q+i.toNat) (out.getD (q+i.toNat) 0+2^r*(a.getD i.toNat 0%2^(64-r)))) (k:=q+i.toNat+1) (v:=a.getD i.toNat 0*2^r/18446744073709551616) (by simp_all);rw[L,Nat.mul_zero,Nat.add_zero,Nat.pow_succ] at I;rw[e1,xB];exact bKl Y I z h.sum (Nat.pow_add _ _ _)
theorem aX5(n:Nat):18446744073709551616^(n/64)*2^(n%64)=2^n:=by
 rw[aI4,← Nat.pow_add]; grind
theorem aY3(a:List Nat)(U:(Ty.sl qw).wf a)(n:Int)(wn:(Ty.i .i64).wf n)(hp:aX4 a n):aGd none a n=some (kI a n):=by
 have Y:=aF7 U;obtain⟨L,n0,n1⟩:=hp;have L:a.length≤1099511627776:=L;obtain⟨N,Z⟩:=bHI n0;have z:n.toNat%64<64:=Nat.mod_lt _ xAa;have hq:n.toNat/64≤1099511627776:=by omega
 have f:=aX5 n.toNat;obtain⟨u1,O⟩:=aX3 z;unfold aGd kI;rw[N];refine aH3 (fun h=>?_) (fun h=>?_)
 ·simp_all[List.eq_nil_of_length_eq_zero,aYV,Nat.zero_mul,aDO]
 ·rw[← f];generalize n.toNat/64=q at *;generalize n.toNat%64=r at *;have g:=mF (step:=fun d:Int×qc=>vM none a n d.1 d.2) (I:=fun d=>bHJ a q r d.1 d.2) (fun d=>(a.length-d.1).toNat) (fun e=>nv e=nv a*(18446744073709551616^q*2^r)) ?_ (0,List.replicate (q+a.length+1) 0) ⟨by simp,by simp,by simp,aQY _,by simp[aQX,nv]⟩
  ·obtain⟨e,J,h2⟩:=g;rw[show ((q:Int)+(a.length:Int)+1).toNat=q+a.length+1 from by omega];refine aE (by omega) (aE (by omega) (aE (by omega) (aE (by omega) (aE (by omega) (aZ J ?_)))));rw[fR,h2]
  ·rintro⟨i,out⟩ h;have h:bHJ a q r i out:=h;have h0:=h.i0;have J:=h.i1;have hl:=h.len;show (∃d',vM none a n i out=_∧_)∨ ∃e,vM none a n i out=_∧_;unfold vM;rw[N,Z,u1,O,show ((q:Int)+i).toNat=q+i.toNat from by omega,show ((q:Int)+i+1).toNat=q+i.toNat+1 from by omega];by_cases hi:i<a.length
   ·left
    refine⟨(_,_),?_,bFF Y z h hi,by omega⟩;rw[if_pos hi];simp only[List.length_set];refine aE (by omega) (aE (by omega) (aE (by omega) (aE (by omega) (aE (by omega) (aE (by omega) (aE (by omega) (aE (by omega) (aE (by omega) (aE (by omega) (aE (by omega) (aE (by omega) rfl)))))))))))
   ·right
    refine⟨out,by grind,?_⟩;have:=h.sum;grind[List.take_length]
def tA(F:Md)(q:Int)(z:qc)(f:Int)(g:qc):Option ((Int×qc)⊕qc) :=
 if f<(((List.drop (Int.tdiv q (64:Int)).toNat z).length:Nat):Int) then ck (0≤f∧f<(((List.drop (Int.tdiv q (64:Int)).toNat z).length:Nat):Int)) (ck (0≤f∧f<(g.length:Int)) (ck (I64 (f+(1:Int))) (if (f+(1:Int))<(((List.drop (Int.tdiv q (64:Int)).toNat z).length:Nat):Int) then ck (0≤f∧f<(((g.set (f.toNat) (((List.drop (Int.tdiv q (64:Int)).toNat z).getD (f.toNat) (0:Nat))/(2^((Int.tmod q (64:Int))%(18446744073709551616:Int)).toNat))).length:Nat):Int)) (ck (I64 (f+(1:Int))) (ck (0≤(f+(1:Int))∧(f+(1:Int))<(((List.drop (Int.tdiv q (64:Int)).toNat z).length:Nat):Int)) (ck (I64 ((63:Int)-(Int.tmod q (64:Int)))) (ck (0≤f∧f<(((g.set (f.toNat) (((List.drop (Int.tdiv q (64:Int)).toNat z).getD (f.toNat) (0:Nat))/(2^((Int.tmod q (64:Int))%(18446744073709551616:Int)).toNat))).length:Nat):Int)) (ck (I64 (f+(1:Int))) (some (.inl ((f+(1:Int)),((g.set (f.toNat) (((List.drop (Int.tdiv q (64:Int)).toNat z).getD (f.toNat) (0:Nat))/(2^((Int.tmod q (64:Int))%(18446744073709551616:Int)).toNat))).set (f.toNat) (((g.set (f.toNat) (((List.drop (Int.tdiv q (64:Int)).toNat z).getD (f.toNat) (0:Nat))/(2^((Int.tmod q (64:Int))%(18446744073709551616:Int)).toNat))).getD (f.toNat) (0:Nat))|||((((((List.drop (Int.tdiv q (64:Int)).toNat z).getD (f+(1:Int)).toNat (0:Nat))*(2:Nat))%18446744073709551616)*(2^(((63:Int)-(Int.tmod q (64:Int)))%(18446744073709551616:Int)).toNat))%18446744073709551616))))))))))) else ck (I64 (f+(1:Int))) (some (.inl ((f+(1:Int)),(g.set (f.toNat) (((List.drop (Int.tdiv q (64:Int)).toNat z).getD (f.toNat) (0:Nat))/(2^((Int.tmod q (64:Int))%(18446744073709551616:Int)).toNat))))))))) else some (.inr g)
def aEj(F:Md)(g:qc)(f:Int):Option qc :=
 ck (I64 (Int.tdiv f (64:Int))) (if (g.length:Int)≤(Int.tdiv f (64:Int)) then some ([]:List Nat) else ck (I64 (Int.tdiv f (64:Int))) (ck (0≤(Int.tdiv f (64:Int))∧(Int.tdiv f (64:Int))≤(g.length:Int)) (ck (0≤(((List.drop (Int.tdiv f (64:Int)).toNat g).length:Nat):Int)) (ck ((8:Int)*(((List.drop (Int.tdiv f (64:Int)).toNat g).length:Nat):Int)≤281474976710656) ((dK F (fun d:Int×qc=>tA F f g d.1 d.2) ((0:Int),(List.replicate (List.drop (Int.tdiv f (64:Int)).toNat g).length (0:Nat)))).bind (fun e=>some (fR e)))))))
abbrev aY4(a:List Nat)(n:Int):Prop:=Sz a∧0≤n
def wV(a:List Nat)(n:Int):List Nat:=lb (nv a/2^n.toNat)
structure bKm(a:List Nat)(r:Nat)(i:Int)(out:List Nat):Prop where
 i0:0≤i
 i1:i≤a.length
 len:out.length=a.length
 lm:Lm out
 sum:nv (out.take i.toNat)=nv a/2^r%18446744073709551616^i.toNat
theorem bKn{w s r o:Nat}(f:o<2^s):(o+2^s*w)%(2^s*2^r)=o+2^s*(w%2^r):=by
 rw[Nat.mod_mul,Nat.add_mul_mod_self_left,Nat.mod_eq_of_lt f,Nat.add_mul_div_left _ _ (Nat.two_pow_pos s),Nat.div_eq_of_lt f,Nat.zero_add]
theorem bHL{x y z r:Nat}(q:x<18446744073709551616)(g:r<64):(x+18446744073709551616*(y+18446744073709551616*z))/2^r%18446744073709551616=x/2^r|||y*2%18446744073709551616*2^(63-r)%18446744073709551616:=by
 have e0:y*2%18446744073709551616*2^(63-r)%18446744073709551616=2^(64-r)*(y%2^r):=by
  rw[Nat.mul_mod (y*2%18446744073709551616),Nat.mod_mod,← Nat.mul_mod,Nat.mul_assoc,← Nat.pow_succ',show (63-r).succ=64-r from by omega,aY2 _ _ (by omega),show 64-(64-r)=r from by omega]
 have I:=bA8 r (by omega);have f:x/2^r<2^(64-r):=(Nat.div_lt_iff_lt_mul (Nat.two_pow_pos r)).2 (by omega);have hd:(x+18446744073709551616*(y+18446744073709551616*z))/2^r=x/2^r+2^(64-r)*(y+18446744073709551616*z):=by
  rw[show 18446744073709551616*(y+18446744073709551616*z)=2^r*(2^(64-r)*(y+18446744073709551616*z)) from by grind,Nat.add_mul_div_left _ _ (Nat.two_pow_pos r)]
 have hm:(y+18446744073709551616*z)%2^r=y%2^r:=by
  grind[Nat.mul_assoc,Nat.mul_comm,Nat.add_mul_mod_self_left]
 grind[bCV,bKn]
theorem bFG{a:List Nat}{r:Nat}{i:Int}{out:List Nat}(q:Lm a)(L:r<64)(h:bKm a r i out)(hi:i<a.length) :
  bKm a r (i+1) (out.set i.toNat (a.getD i.toNat 0/2^r|||a.getD (i.toNat+1) 0*2%18446744073709551616*2^(63-r)%18446744073709551616)):=by
 have h0:=h.i0;have J:=h.len;have I:i.toNat<a.length:=by omega
 have e1:(i+1).toNat=i.toNat+1:=by omega
 have O:=lJ q i.toNat;obtain⟨z,U⟩:∃z,nv (a.drop (i.toNat+1))=a.getD (i.toNat+1) 0+18446744073709551616*z:=by
  rcases Nat.lt_or_ge (i.toNat+1) a.length with f|f
  ·refine⟨nv (a.drop (i.toNat+1+1)),?_⟩;rw[List.drop_eq_getElem_cons f,vS,List.getD_eq_getElem?_getD,List.getElem?_eq_getElem f]; rfl
  ·refine⟨0,?_⟩;rw[List.drop_eq_nil_of_le f,List.getD_eq_getElem?_getD,List.getElem?_eq_none f]; rfl
 have hd:nv (a.drop i.toNat)=a.getD i.toNat 0+18446744073709551616*(a.getD (i.toNat+1) 0+18446744073709551616*z):=by
  have N:a.getD i.toNat 0=a[i.toNat]:=by rw[List.getD_eq_getElem?_getD,List.getElem?_eq_getElem I]; rfl
  rw[List.drop_eq_getElem_cons I,vS,U,N]
 have g:a.getD i.toNat 0/2^r|||a.getD (i.toNat+1) 0*2%18446744073709551616*2^(63-r)%18446744073709551616=nv a/2^r/18446744073709551616^i.toNat%18446744073709551616:=by
  rw[← bHL (z:=z) O L,← hd,aO0 q,Nat.div_div_eq_div_mul,Nat.div_div_eq_div_mul,Nat.mul_comm (18446744073709551616^i.toNat)]
 rw[g];refine⟨by omega,by omega,by simp_all,aEP h.lm _ (Nat.mod_lt _ xAa),?_⟩;rw[e1,aSf (by omega),h.sum,Nat.pow_succ,Nat.mod_mul]
theorem aWM(a:List Nat)(Z:(Ty.sl qw).wf a)(n:Int)(wn:(Ty.i .i64).wf n)(hp:aY4 a n):aEj none a n=some (wV a n):=by
 have J:=aF7 Z;obtain⟨U,n0⟩:=hp;have U:a.length≤1099511627776:=U;obtain⟨w1,w2⟩:=wf_i64 wn;obtain⟨Y,d2⟩:=bHI n0;have O:n.toNat%64<64:=Nat.mod_lt _ xAa;have hq:n.toNat/64≤9223372036854775807:=by omega
 have z:=aX5 n.toNat;obtain⟨u1,u2⟩:=aX3 O;unfold aEj wV;rw[Y];refine aE (by omega) (aH3 (fun h=>?_) (fun h=>?_))
 ·have:nv a/2^n.toNat=0:=by
   refine Nat.div_eq_of_lt (Nat.lt_of_lt_of_le (uC J) ?_);grind[Nat.le_trans,Nat.pow_le_pow_right,Nat.le_mul_of_pos_right,Nat.two_pow_pos]
  rw[this,aDO]
 ·rw[← z,← Nat.div_div_eq_div_mul,← aO0 J];generalize n.toNat/64=q at *;generalize n.toNat%64=r at *;rw[Int.toNat_natCast];have N:=bJ9 J q;have hA:(a.drop q).length=a.length-q:=List.length_drop;have g:=mF (step:=fun d:Int×qc=>tA none n a d.1 d.2) (I:=fun d=>bKm (a.drop q) r d.1 d.2) (fun d=>((a.drop q).length-d.1).toNat) (fun e=>nv e=nv (a.drop q)/2^r) ?_ (0,List.replicate (a.drop q).length 0) ⟨by simp,by simp,by simp,aQY _,by simp[nv,Nat.mod_one]⟩
  ·obtain⟨e,L,h2⟩:=g;refine aE (by omega) (aE (by omega) (aE (by omega) (aE (by omega) (aZ L ?_))));rw[fR,h2]
  ·rintro⟨i,out⟩ h;have h:bKm (a.drop q) r i out:=h;have h0:=h.i0;have L:=h.i1;have hl:=h.len;show (∃d',tA none n a i out=_∧_)∨ ∃e,tA none n a i out=_∧_;unfold tA;rw[Y,d2,u1,u2,Int.toNat_natCast];generalize a.drop q=A at *;by_cases hi:i<A.length
   ·left
    have hs:=bFG N O h hi;rw[if_pos hi];by_cases f:i+1<A.length
    ·refine⟨(_,_),?_,hs,by omega⟩;rw[if_pos f];simp only[List.length_set];refine aE (by omega) (aE (by omega) (aE (by omega) (aE (by omega) (aE (by omega) (aE (by omega) (aE (by omega) (aE (by omega) (aE (by omega) ?_))))))));rw[show (i+1).toNat=i.toNat+1 from by omega,List.set_set,List.getD_eq_getElem?_getD (l:=out.set _ _),List.getElem?_set_self (by omega)];rfl
    ·have hy:A.getD (i.toNat+1) 0=0:=(by grind);rw[hy] at hs;simp only[Nat.zero_mul,Nat.zero_mod,Nat.or_zero] at hs;refine⟨(_,_),?_,hs,by omega⟩;rw[if_neg f];exact aE (by omega) (aE (by omega) (aE (by omega) (aE (by omega) rfl)))
   ·right
    refine⟨out,by grind,?_⟩;have:=h.sum;rw[show i.toNat=A.length from by omega,List.take_of_length_le (by omega)] at this;rw[this];exact Nat.mod_eq_of_lt (Nat.lt_of_le_of_lt (Nat.div_le_self _ _) (uC N))
theorem bL5{N M:Nat}(h:M≤N)(f:N-M<18446744073709551616):aKh .u64 (N%18446744073709551616) (M%18446744073709551616)=N-M:=by
 rw[aMa,bEq]; omega
structure DI(V u u1 q r:Nat):Prop where
 lo:9223372036854775808≤V
 hi:V<18446744073709551616
 uV:u<V
 ul:u1<4294967296
 eq:q*(V/4294967296)+r=u
 ge:(u*4294967296+u1)/V≤q
 r1:r<4294967296
theorem bL6{V u u1 q r:Nat}(h:DI V u u1 q r):q*V+r*4294967296=u*4294967296+q*(V%4294967296):=by
 have e:=Nat.div_add_mod V 4294967296;have:=h.eq;grind
theorem bHM{V u u1 q r:Nat}(h:DI V u u1 q r):(u*4294967296+u1)/V<4294967296:=by
 have g:=h.uV;have f:=h.ul;refine(Nat.div_lt_iff_lt_mul (by omega)).2 ?_;omega
theorem aT2{V u u1 q r:Nat}(h:DI V u u1 q r):(4294967296≤q∨(aIJ .u64 4294967296 r+u1)%18446744073709551616<aIJ .u64 q (V%4294967296))↔(u*4294967296+u1)/V<q:=by
 have hs:=bHM h;have hm:=bL6 h;have g:=h.r1;have f:=h.ul;have hV:=h.lo;rcases Nat.lt_or_ge q 4294967296 with hq|hq
 ·have hv:V%4294967296≤4294967295:=by omega
  have p:q*(V%4294967296)≤4294967295*4294967295:=Nat.mul_le_mul (by omega) hv;rw[aSe,aSe,Nat.div_lt_iff_lt_mul (by omega)];omega
 omega
theorem bHN{V u u1 q r:Nat}(h:DI V u u1 q r)(hc:(u*4294967296+u1)/V<q):(r+V/4294967296)%18446744073709551616=r+V/4294967296∧aKh .u64 q 1=q-1∧(4294967296≤r+V/4294967296→q-1=(u*4294967296+u1)/V)∧(r+V/4294967296<4294967296→DI V u u1 (q-1) (r+V/4294967296)):=by
 have h1:=h.r1;have U:=h.hi;have N:=h.lo;have he:=h.eq;have O:=h.uV;have g:=h.ul;have hQ:=Nat.zero_le ((u*4294967296+u1)/V);obtain⟨p,rfl⟩:∃p,q=p+1:=⟨q-1,by omega⟩;have z:p*(V/4294967296)+(r+V/4294967296)=u:=by grind
 have Y:(p+1)*(V/4294967296)<18446744073709551616:=by omega
 have f:p+1<18446744073709551616:=by
  have:(p+1)*1≤(p+1)*(V/4294967296):=Nat.mul_le_mul_left _ (by omega);omega
 refine⟨by omega,bA1 f (by omega),fun J=>?_,fun J=>⟨N,U,O,g,z,by omega,J⟩⟩;simp only[Nat.add_sub_cancel];refine Nat.le_antisymm ?_ (by omega);refine(Nat.le_div_iff_mul_le (by omega)).2 ?_;have ev:=Nat.div_add_mod V 4294967296;have I:V%4294967296≤4294967295:=by omega
 generalize V/4294967296=v1 at *;generalize V%4294967296=v0 at *;have hp:p≤4294967295:=by
  rcases Nat.lt_or_ge p 4294967296 with L|L
  ·omega
  ·have:=Nat.mul_le_mul_right v1 L;omega
 have Z:p*v0≤4294967295*4294967295:=Nat.mul_le_mul hp I;grind[Nat.mul_add,Nat.mul_left_comm]
theorem bA9{V u u1:Nat}(I:9223372036854775808≤V)(z:V<18446744073709551616)(f:u<V)(g:u1<4294967296):aKh .u64 u (aIJ .u64 (u/(V/4294967296)) (V/4294967296))=u%(V/4294967296)∧DI V u u1 (u/(V/4294967296)) (u%(V/4294967296)):=by
 have e:=Nat.div_add_mod u (V/4294967296);have m:=Nat.mod_lt u (show 0<V/4294967296 by omega);have q:(V/4294967296)*(u/(V/4294967296))≤u:=by omega
 constructor
 ·grind[aSe,Nat.mul_comm,Nat.mod_eq_of_lt,bA1]
 ·refine⟨I,z,f,g,by grind,?_,by omega⟩;refine(Nat.le_div_iff_mul_le (by omega)).2 ?_;have J:=Nat.div_add_mod V 4294967296;have d:=Nat.div_mul_le_self (u*4294967296+u1) V;grind[Nat.mul_add,Nat.mul_left_comm,Nat.mul_comm]
abbrev aFj(hi lo y:Nat):Prop:=hi<y
def rP(hi lo y:Nat):Nat×Nat×Unit:=((hi*18446744073709551616+lo)/y,(hi*18446744073709551616+lo)%y,())
def xW(F:Md)(z:Nat)(I:Nat)(f:Nat)(q:Nat)(g:Nat):Option (Nat×(Nat×Unit)) :=
 some ((((mulM F .u64 z (4294967296:Nat))+g)%18446744073709551616),((wQ F .u64 (((mulM F .u64 (wQ F .u64 (((mulM F .u64 (((I*(2^((aC f)%(18446744073709551616:Int)).toNat))%18446744073709551616)|||(q/(2^(wQ F .u64 (64:Nat) ((aC f)%(18446744073709551616:Int)).toNat)))) (4294967296:Nat))+(((q*(2^((aC f)%(18446744073709551616:Int)).toNat))%18446744073709551616)/(4294967296:Nat)))%18446744073709551616) (mulM F .u64 z ((f*(2^((aC f)%(18446744073709551616:Int)).toNat))%18446744073709551616))) (4294967296:Nat))+(((q*(2^((aC f)%(18446744073709551616:Int)).toNat))%18446744073709551616)&&&(4294967295:Nat)))%18446744073709551616) (mulM F .u64 g ((f*(2^((aC f)%(18446744073709551616:Int)).toNat))%18446744073709551616)))/(2^((aC f)%(18446744073709551616:Int)).toNat)),())
def mK(F:Md)(z:Nat)(q:Nat)(g:Nat)(f:Nat):Option ((Nat×Nat)⊕(Nat)) :=
 if ((4294967296:Nat)≤f)∨((((mulM F .u64 (4294967296:Nat) g)+(((z*(2^((aC q)%(18446744073709551616:Int)).toNat))%18446744073709551616)&&&(4294967295:Nat)))%18446744073709551616)<(mulM F .u64 f (((q*(2^((aC q)%(18446744073709551616:Int)).toNat))%18446744073709551616)&&&(4294967295:Nat)))) then if (4294967296:Nat)≤((g+(((q*(2^((aC q)%(18446744073709551616:Int)).toNat))%18446744073709551616)/(4294967296:Nat)))%18446744073709551616) then some (.inr (wQ F .u64 f (1:Nat))) else some (.inl (((g+(((q*(2^((aC q)%(18446744073709551616:Int)).toNat))%18446744073709551616)/(4294967296:Nat)))%18446744073709551616),(wQ F .u64 f (1:Nat)))) else some (.inr f)
def xX(F:Md)(f:Nat)(g:Nat)(z:Nat)(q:Nat):Option (Nat×(Nat×Unit)) :=
 ck ((((f*(2^((aC f)%(18446744073709551616:Int)).toNat))%18446744073709551616)/(4294967296:Nat))≠0) ((dK F (fun d:Nat×Nat=>mK F g f d.1 d.2) ((wQ F .u64 (wQ F .u64 (((mulM F .u64 (((z*(2^((aC f)%(18446744073709551616:Int)).toNat))%18446744073709551616)|||(g/(2^(wQ F .u64 (64:Nat) ((aC f)%(18446744073709551616:Int)).toNat)))) (4294967296:Nat))+(((g*(2^((aC f)%(18446744073709551616:Int)).toNat))%18446744073709551616)/(4294967296:Nat)))%18446744073709551616) (mulM F .u64 q ((f*(2^((aC f)%(18446744073709551616:Int)).toNat))%18446744073709551616))) (mulM F .u64 ((wQ F .u64 (((mulM F .u64 (((z*(2^((aC f)%(18446744073709551616:Int)).toNat))%18446744073709551616)|||(g/(2^(wQ F .u64 (64:Nat) ((aC f)%(18446744073709551616:Int)).toNat)))) (4294967296:Nat))+(((g*(2^((aC f)%(18446744073709551616:Int)).toNat))%18446744073709551616)/(4294967296:Nat)))%18446744073709551616) (mulM F .u64 q ((f*(2^((aC f)%(18446744073709551616:Int)).toNat))%18446744073709551616)))/(((f*(2^((aC f)%(18446744073709551616:Int)).toNat))%18446744073709551616)/(4294967296:Nat))) (((f*(2^((aC f)%(18446744073709551616:Int)).toNat))%18446744073709551616)/(4294967296:Nat)))),((wQ F .u64 (((mulM F .u64 (((z*(2^((aC f)%(18446744073709551616:Int)).toNat))%18446744073709551616)|||(g/(2^(wQ F .u64 (64:Nat) ((aC f)%(18446744073709551616:Int)).toNat)))) (4294967296:Nat))+(((g*(2^((aC f)%(18446744073709551616:Int)).toNat))%18446744073709551616)/(4294967296:Nat)))%18446744073709551616) (mulM F .u64 q ((f*(2^((aC f)%(18446744073709551616:Int)).toNat))%18446744073709551616)))/(((f*(2^((aC f)%(18446744073709551616:Int)).toNat))%18446744073709551616)/(4294967296:Nat))))).bind (fun e=>xW F q z f g e))
def mL(F:Md)(z:Nat)(q:Nat)(f:Nat)(g:Nat):Option ((Nat×Nat)⊕(Nat)) :=
 if ((4294967296:Nat)≤f)∨((((mulM F .u64 (4294967296:Nat) g)+(((z*(2^((aC q)%(18446744073709551616:Int)).toNat))%18446744073709551616)/(4294967296:Nat)))%18446744073709551616)<(mulM F .u64 f (((q*(2^((aC q)%(18446744073709551616:Int)).toNat))%18446744073709551616)&&&(4294967295:Nat)))) then if (4294967296:Nat)≤((g+(((q*(2^((aC q)%(18446744073709551616:Int)).toNat))%18446744073709551616)/(4294967296:Nat)))%18446744073709551616) then some (.inr (wQ F .u64 f (1:Nat))) else some (.inl ((wQ F .u64 f (1:Nat)),((g+(((q*(2^((aC q)%(18446744073709551616:Int)).toNat))%18446744073709551616)/(4294967296:Nat)))%18446744073709551616))) else some (.inr f)
def aCB(F:Md)(q:Nat)(g:Nat)(f:Nat):Option (Nat×(Nat×Unit)) :=
 if f=(0:Nat) then none else if f≤q then none else if q=(0:Nat) then ck (f≠0) (ck (f≠0) (some ((g/f),(g%f),()))) else ck ((((f*(2^((aC f)%(18446744073709551616:Int)).toNat))%18446744073709551616)/(4294967296:Nat))≠0) ((dK F (fun d:Nat×Nat=>mL F g f d.1 d.2) (((((q*(2^((aC f)%(18446744073709551616:Int)).toNat))%18446744073709551616)|||(g/(2^(wQ F .u64 (64:Nat) ((aC f)%(18446744073709551616:Int)).toNat))))/(((f*(2^((aC f)%(18446744073709551616:Int)).toNat))%18446744073709551616)/(4294967296:Nat))),(wQ F .u64 (((q*(2^((aC f)%(18446744073709551616:Int)).toNat))%18446744073709551616)|||(g/(2^(wQ F .u64 (64:Nat) ((aC f)%(18446744073709551616:Int)).toNat)))) (mulM F .u64 ((((q*(2^((aC f)%(18446744073709551616:Int)).toNat))%18446744073709551616)|||(g/(2^(wQ F .u64 (64:Nat) ((aC f)%(18446744073709551616:Int)).toNat))))/(((f*(2^((aC f)%(18446744073709551616:Int)).toNat))%18446744073709551616)/(4294967296:Nat))) (((f*(2^((aC f)%(18446744073709551616:Int)).toNat))%18446744073709551616)/(4294967296:Nat)))))).bind (fun e=>xX F f g q e))
theorem aT3(x:Nat):x&&&4294967295=x%4294967296:=Nat.and_two_pow_sub_one_eq_mod x 32
theorem bL7{lo y s:Nat}{u:Nat}(hs:(aC y%(18446744073709551616:Int)).toNat=s)(h:∀V,V=y*2^s%18446744073709551616→9223372036854775808≤V∧u<V) :
  aGX (fun d:Nat×Nat=>mL none lo y d.1 d.2) (u/(y*2^s%18446744073709551616/4294967296),aKh .u64 u (aIJ .u64 (u/(y*2^s%18446744073709551616/4294967296)) (y*2^s%18446744073709551616/4294967296)))=some ((u*4294967296+lo*2^s%18446744073709551616/4294967296)/(y*2^s%18446744073709551616)):=by
 have hV:=Nat.mod_lt (y*2^s) (show 0<18446744073709551616 by decide);have O:=Nat.mod_lt (lo*2^s) (show 0<18446744073709551616 by decide);have step:∀q r,mL none lo y q r=if 4294967296≤q∨(aIJ .u64 4294967296 r+lo*2^s%18446744073709551616/4294967296)%18446744073709551616<aIJ .u64 q (y*2^s%18446744073709551616%4294967296) then if 4294967296≤(r+y*2^s%18446744073709551616/4294967296)%18446744073709551616 then some (.inr (aKh .u64 q 1)) else some (.inl (aKh .u64 q 1,(r+y*2^s%18446744073709551616/4294967296)%18446744073709551616)) else some (.inr q):=fun q r=>by
  unfold mL; rw[hs,aT3]; rfl
 obtain⟨L,J⟩:=h _ rfl;generalize y*2^s%18446744073709551616=V at *;have g:lo*2^s%18446744073709551616/4294967296<4294967296:=by omega
 generalize lo*2^s%18446744073709551616/4294967296=f at *;obtain⟨e0,i0⟩:=bA9 L hV J g;rw[e0];refine aCu (I:=fun d=>DI V u f d.1 d.2) (fun d=>d.1) (fun _=>(u*4294967296+f)/V) ?_ (u/(V/4294967296),u%(V/4294967296)) i0;rintro⟨q,r⟩ hi;have hi:DI V u f q r:=hi;show (∃d',mL none lo y q r=_∧_)∨mL none lo y q r=_;rw[step];by_cases hc:(u*4294967296+f)/V<q
 ·obtain⟨N,z,Y,U⟩:=bHN hi hc;rw[if_pos ((aT2 hi).2 hc),N,z];grind
 ·right
  rw[if_neg (fun h=>hc ((aT2 hi).1 h))];have:=hi.ge;grind
theorem bL8{lo y s:Nat}{u:Nat}(hs:(aC y%(18446744073709551616:Int)).toNat=s)(h:∀V,V=y*2^s%18446744073709551616→9223372036854775808≤V∧u<V) :
  aGX (fun d:Nat×Nat=>mK none lo y d.1 d.2) (aKh .u64 u (aIJ .u64 (u/(y*2^s%18446744073709551616/4294967296)) (y*2^s%18446744073709551616/4294967296)),u/(y*2^s%18446744073709551616/4294967296))=some ((u*4294967296+lo*2^s%18446744073709551616%4294967296)/(y*2^s%18446744073709551616)):=by
 have hV:=Nat.mod_lt (y*2^s) (show 0<18446744073709551616 by decide);have step:∀q r,mK none lo y r q=if 4294967296≤q∨(aIJ .u64 4294967296 r+lo*2^s%18446744073709551616%4294967296)%18446744073709551616<aIJ .u64 q (y*2^s%18446744073709551616%4294967296) then if 4294967296≤(r+y*2^s%18446744073709551616/4294967296)%18446744073709551616 then some (.inr (aKh .u64 q 1)) else some (.inl ((r+y*2^s%18446744073709551616/4294967296)%18446744073709551616,aKh .u64 q 1)) else some (.inr q):=fun q r=>by
  unfold mK; rw[hs,aT3,aT3]; rfl
 obtain⟨L,J⟩:=h _ rfl;generalize y*2^s%18446744073709551616=V at *;have g:lo*2^s%18446744073709551616%4294967296<4294967296:=Nat.mod_lt _ xAa;generalize lo*2^s%18446744073709551616%4294967296=f at *;obtain⟨e0,i0⟩:=bA9 L hV J g;rw[e0];refine aCu (I:=fun d=>DI V u f d.2 d.1) (fun d=>d.2) (fun _=>(u*4294967296+f)/V) ?_ (u%(V/4294967296),u/(V/4294967296)) i0;rintro⟨r,q⟩ hi;have hi:DI V u f q r:=hi;show (∃d',mK none lo y r q=_∧_)∨mK none lo y r q=_;rw[step];by_cases hc:(u*4294967296+f)/V<q
 ·obtain⟨N,z,U,O⟩:=bHN hi hc;rw[if_pos ((aT2 hi).2 hc),N,z];grind
 ·right
  rw[if_neg (fun h=>hc ((aT2 hi).1 h))];have:=hi.ge;grind
theorem aSh{N V:Nat}:N-N/V*V=N%V:=by
 grind[Nat.div_add_mod,Nat.mul_comm]
theorem bHO{V u u1:Nat}(g:0<V)(q:V<18446744073709551616)(f:u1<4294967296):aKh .u64 ((aIJ .u64 u 4294967296+u1)%18446744073709551616) (aIJ .u64 ((u*4294967296+u1)/V) V)=(u*4294967296+u1)%V:=by
 have m:=Nat.mod_lt (u*4294967296+u1) g;rw[aSe,aSe,Nat.mod_add_mod,bL5 (Nat.div_mul_le_self _ _) (by grind[aSh,Nat.lt_trans]),aSh]
theorem bEv{V N W un0:Nat}(hV:0<V):N/V*W+(N%V*W+un0)/V=(N*W+un0)/V∧(N%V*W+un0)%V=(N*W+un0)%V:=by
 have e:=Nat.div_add_mod N V;have:N*W+un0=N%V*W+un0+V*(N/V*W):=by
  grind
 rw[this,Nat.add_mul_div_left _ _ hV,Nat.add_mul_mod_self_left];omega
theorem bL9(A C:Nat):(A*4294967296+C/4294967296)*4294967296+C%4294967296=A*18446744073709551616+C:=by omega
theorem aVe(hi:Nat)(wh:(Ty.u .u64).wf hi)(lo:Nat)(wl:(Ty.u .u64).wf lo)(y:Nat)(wy:(Ty.u .u64).wf y)(hp:aFj hi lo y):aCB none hi lo y=some (rP hi lo y):=by
 have hh:=aNO wh;have hl:=aNO wl;have hy:=aNO wy;have hp:hi<y:=hp;have hb:=bHB hy;have hb1:=bCQ (x:=y) (by omega);have hs:(aC y%(18446744073709551616:Int)).toNat=64-bl y:=by grind[aC]
 have g:aKh .u64 64 (64-bl y)=64-(64-bl y):=bA1 (by omega) (by omega);have I:=bCR (x:=y) (by omega);have hlt:=bHz y;unfold aCB rP;try simp only[wQ,mulM,aMx]
 rw[if_neg (by omega),if_neg (by omega),hs];refine aH3 (fun h=>?_) (fun h=>?_)
 ·subst h;refine aE (by omega) (aE (by omega) ?_);simp_all
 ·rw[g];generalize hsd:64-bl y=s at *;have hs64:s≤63:=by omega
  have f:=Nat.two_pow_pos s;have h2s:2^(64-s)*2^s=18446744073709551616:=bA8 s (by omega);have z:y*2^s<18446744073709551616:=by
   rw[← h2s,show 64-s=bl y from by omega];simp_all
  have hyL:9223372036854775808≤y*2^s:=by
   have:=Nat.mul_le_mul_right (2^s) I;rw[← Nat.pow_add,show bl y-1+s=63 from by omega] at this;omega
  have L:hi*2^s%18446744073709551616|||lo/2^(64-s)=(hi*18446744073709551616+lo)*2^s/18446744073709551616:=by
   have h1:hi*2^s<18446744073709551616:=Nat.lt_trans (Nat.mul_lt_mul_of_pos_right hp f) z;have h3:lo/2^(64-s)<2^s:=(Nat.div_lt_iff_lt_mul (Nat.two_pow_pos _)).2 (by grind);rw[Nat.mod_eq_of_lt h1,Nat.or_comm,Nat.mul_comm hi,bCV h3,Nat.add_mul,Nat.mul_assoc,Nat.mul_comm 18446744073709551616,← Nat.mul_assoc,Nat.add_comm (hi*2^s*18446744073709551616),Nat.add_mul_div_right _ _ xAa,← h2s,Nat.mul_div_mul_right _ _ f,Nat.mul_comm hi]
  have hUV:(hi*18446744073709551616+lo)*2^s/18446744073709551616<y*2^s:=by
   refine(Nat.div_lt_iff_lt_mul xAa).2 ?_;rw[Nat.mul_right_comm y];exact Nat.mul_lt_mul_of_pos_right (by omega) f
  have q:lo*2^s%18446744073709551616=(hi*18446744073709551616+lo)*2^s%18446744073709551616:=by
   grind
  have J:y*2^s%18446744073709551616=y*2^s:=Nat.mod_eq_of_lt z;have eN:=Nat.div_add_mod ((hi*18446744073709551616+lo)*2^s) 18446744073709551616;have mN:=Nat.mod_lt ((hi*18446744073709551616+lo)*2^s) (show 0<18446744073709551616 by decide);rw[L];refine aE (by omega) (aZ (bL7 hs (fun V e=>by omega)) ?_);unfold xX;try simp only[wQ,mulM,aMx]
  rw[hs,g,L];have U:=bHO (V:=y*2^s%18446744073709551616) (u:=(hi*18446744073709551616+lo)*2^s/18446744073709551616) (u1:=lo*2^s%18446744073709551616/4294967296) (by omega) (by omega) (by omega);rw[U];refine aE (by omega) (aZ (bL8 hs (fun V e=>by rw[e]; exact⟨by omega,Nat.mod_lt _ (by omega)⟩)) ?_);unfold xW;try simp only[wQ,mulM,aMx]
  rw[hs,g,L,U,aT3,J,q];have O:=bHO (V:=y*2^s) (u:=((hi*18446744073709551616+lo)*2^s/18446744073709551616*4294967296+(hi*18446744073709551616+lo)*2^s%18446744073709551616/4294967296)%(y*2^s)) (u1:=(hi*18446744073709551616+lo)*2^s%18446744073709551616%4294967296) (by omega) z (Nat.mod_lt _ xAa);rw[O];obtain⟨Z,Y⟩:=bEv (V:=y*2^s) (N:=(hi*18446744073709551616+lo)*2^s/18446744073709551616*4294967296+(hi*18446744073709551616+lo)*2^s%18446744073709551616/4294967296) (W:=4294967296) (un0:=(hi*18446744073709551616+lo)*2^s%18446744073709551616%4294967296) (by omega);have eW:=(bL9 ((hi*18446744073709551616+lo)*2^s/18446744073709551616) ((hi*18446744073709551616+lo)*2^s%18446744073709551616)).trans ((congrArg (· + (hi*18446744073709551616+lo)*2^s%18446744073709551616) (Nat.mul_comm _ _)).trans eN);rw[eW] at Z Y;rw[Y,aSe,Nat.mod_add_mod,Z,Nat.mul_div_mul_right _ _ f,Nat.mul_mod_mul_right,Nat.mul_div_cancel _ f];have hq:(hi*18446744073709551616+lo)/y<18446744073709551616:=(Nat.div_lt_iff_lt_mul (by omega)).2 (by omega);simp_all
abbrev aK8(a:List Nat)(b:Nat):Prop:=b≠0∧Sz a
def aBV(a:List Nat)(b:Nat):List Nat×List Nat×Unit:=(lb (nv a/b),lb (nv a%b),())
def zU(F:Md)(f:Nat)(g:qc):Option qn :=
 some ((fR g),(fR ([f]:List Nat)),())
def tB(F:Md)(z:qc)(I:Nat)(g:Nat)(f:Int)(q:qc):Option ((Nat×Int×qc)⊕vn) :=
 if (0:Int)≤f then ck (0≤f∧f<(z.length:Int)) (ck (aFj g (z.getD (f.toNat) (0:Nat)) I) (ck (0≤f∧f<(q.length:Int)) (ck (I64 (f-(1:Int))) (some (.inl ((rP g (z.getD (f.toNat) (0:Nat)) I).2.1,(f-(1:Int)),(q.set (f.toNat) (rP g (z.getD (f.toNat) (0:Nat)) I).1))))))) else some (.inr (g,q))
def aEk(F:Md)(f:qc)(g:Nat):Option qn :=
 ck (0≤(f.length:Int)) (ck ((8:Int)*(f.length:Int)≤281474976710656) (ck (I64 ((f.length:Int)-(1:Int))) ((dK F (fun d:Nat×Int×qc=>tB F f g d.1 d.2.1 d.2.2) ((0:Nat),((f.length:Int)-(1:Int)),(List.replicate (f.length) (0:Nat)))).bind (fun e=>zU F e.1 e.2))))
structure aY5(a:List Nat)(b:Nat)(rest:Nat)(i:Int)(q:List Nat):Prop where
 i0: -1≤i
 i1:i<a.length
 len:q.length=a.length
 lm:Lm q
 sum:nv q=nv a/18446744073709551616^(i+1).toNat/b*18446744073709551616^(i+1).toNat
 res:rest=nv a/18446744073709551616^(i+1).toNat%b
theorem bBa{a:List Nat}{b rest:Nat}{i:Int}{q:List Nat}(g:Lm a)(hb:b≠0)(h:aY5 a b rest i q)(hi:0≤i) :
  rest<b∧aY5 a b ((rest*18446744073709551616+a.getD i.toNat 0)%b) (i-1) (q.set i.toNat ((rest*18446744073709551616+a.getD i.toNat 0)/b)):=by
 have Z:=h.i1;have O:=h.len;have I:rest<b:=by rw[h.res]; exact Nat.mod_lt _ (by omega)
 have hx:=lJ g i.toNat;have e1:(i+1).toNat=i.toNat+1:=by omega
 have U:(i-1+1).toNat=i.toNat:=by omega
 have z:nv a/18446744073709551616^i.toNat=nv a/18446744073709551616^(i.toNat+1)*18446744073709551616+a.getD i.toNat 0:=by
  rw[aBr g,Nat.pow_succ,← Nat.div_div_eq_div_mul,Nat.mul_comm,Nat.div_add_mod]
 obtain⟨L,J⟩:=bEv (V:=b) (N:=nv a/18446744073709551616^(i.toNat+1)) (W:=18446744073709551616) (un0:=a.getD i.toNat 0) (by omega);have hs:=h.sum;have f:=h.res;rw[e1] at hs f;rw[← f,← z] at L J;have hz:q.getD i.toNat 0=0:=by
  rw[aBr h.lm,hs,Nat.pow_succ,Nat.mul_comm (18446744073709551616^i.toNat) 18446744073709551616,← Nat.mul_assoc,Nat.mul_div_cancel _ (Nat.pow_pos xAa),Nat.mul_mod_left]
 have hv:(rest*18446744073709551616+a.getD i.toNat 0)/b<18446744073709551616:=by
  refine(Nat.div_lt_iff_lt_mul (by omega)).2 ?_;omega
 refine⟨I,by omega,by omega,by simp_all,aEP h.lm _ hv,?_,?_⟩
 ·have Y:=aHt (a:=q) (k:=i.toNat) (v:=(rest*18446744073709551616+a.getD i.toNat 0)/b) (by omega);grind
 simp_all
theorem aWN(a:List Nat)(O:(Ty.sl qw).wf a)(b:Nat)(wb:(Ty.u .u64).wf b)(hp:aK8 a b):aEk none a b=some (aBV a b):=by
 have g:=aF7 O;obtain⟨hb,J⟩:=hp;have J:a.length≤1099511627776:=J;unfold aEk aBV;have f:=mF (step:=fun d:Nat×Int×qc=>tB none a b d.1 d.2.1 d.2.2) (I:=fun d=>aY5 a b d.1 d.2.1 d.2.2) (fun d=>(d.2.1+1).toNat) (fun e=>e.1=nv a%b∧nv e.2=nv a/b) ?_ (0,(a.length:Int)-1,List.replicate a.length 0) ?_
 ·obtain⟨e,z,U,L⟩:=f;refine aE (by omega) (aE (by omega) (aE (by omega) (aZ z ?_)));unfold zU;rw[fR,fR,L,U];rfl
 ·rintro⟨rest,i,q⟩ h;have h:aY5 a b rest i q:=h;have z:=h.i1;have hl:=h.len;show (∃d',tB none a b rest i q=_∧_)∨ ∃e,tB none a b rest i q=_∧_;unfold tB;by_cases hi:0≤i
  ·left
   obtain⟨N,Y⟩:=bBa g hb h hi;rw[if_pos hi];refine⟨(_,_,_),aE (by omega) (aE N (aE (by omega) (aE (by omega) rfl))),Y,by grind⟩
  ·right
   refine⟨(rest,q),by grind,?_⟩;have h0:=h.i0;have hs:=h.sum;have hr:=h.res;grind
 ·have e:((a.length:Int)-1+1).toNat=a.length:=by omega
  have Z:nv a/18446744073709551616^a.length=0:=Nat.div_eq_of_lt (uC g);exact⟨by grind,by grind,by simp,aQY _,by simp only; rw[e,Z,aQX,Nat.zero_div,Nat.zero_mul],by grind[Nat.zero_mod]⟩
abbrev aFk(a:List Nat)(n:Int):Prop:=a.length≤n∧n≤1099511627777
def gL(a:List Nat)(n:Int):List Nat:=a++List.replicate (n.toNat-a.length) 0
def aCC(F:Md)(f:qc)(g:Int):Option qc :=
 ck (bFA f) (ck (I64 (g-(f.length:Int))) (ck (0≤(g-(f.length:Int))) (ck (((id f).length+(g-(f.length:Int)).toNat)*8≤140737488355328) (some ((id f)++(List.replicate (g-(f.length:Int)).toNat (0:Nat)))))))
theorem aVf(a:List Nat)(g:(Ty.sl qw).wf a)(n:Int)(q:(Ty.i .i64).wf n)(hp:aFk a n):aCC none a n=some (gL a n):=by
 obtain⟨I,z⟩:=hp;have f:bFA a:=by omega
 unfold aCC gL;simp only[id];refine aE f (aE (by omega) (aE (by omega) (aE (by omega) ?_)));simp_all
def zV(F:Md)(f:qc)(z:Nat)(g:Nat)(I:Nat)(carry_31:Nat)(q:qc):Option vn :=
 ck (0≤(f.length:Int)∧(f.length:Int)<((z:Nat):Int)) (ck (g+(f.length)<(q.length)) (ck (0≤(f.length:Int)∧(f.length:Int)<((z:Nat):Int)) (ck (g+(f.length)<(q.length)) (some ((wQ F .u64 I (1:Nat)),(q.set (g+(f.length)) (((q.getD (g+(f.length)) (0:Nat))+carry_31)%18446744073709551616)))))))
def oG(F:Md)(z:qc)(I:Nat)(q:Nat)(carry_33:Nat)(f:Int)(g:qc):Option ((Nat×Int×qc)⊕vn) :=
 if f<(z.length:Int) then ck (0≤f∧f<(z.length:Int)) (ck (0≤f∧f<((I:Nat):Int)) (ck (q+(f.toNat)<(g.length)) (ck (aF6 (g.getD (q+(f.toNat)) (0:Nat)) (z.getD (f.toNat) (0:Nat)) carry_33) (ck (0≤f∧f<((I:Nat):Int)) (ck (q+(f.toNat)<(g.length)) (ck (I64 (f+(1:Int))) (some (.inl ((uD (g.getD (q+(f.toNat)) (0:Nat)) (z.getD (f.toNat) (0:Nat)) carry_33).2.1,(f+(1:Int)),(g.set (q+(f.toNat)) (uD (g.getD (q+(f.toNat)) (0:Nat)) (z.getD (f.toNat) (0:Nat)) carry_33).1)))))))))) else some (.inr (carry_33,g))
def zW(F:Md)(g:qc)(z:Nat)(f:Nat)(I:Nat)(carry_22:Nat)(borrow_23:Nat)(q:qc):Option vn :=
 ck (0≤(g.length:Int)∧(g.length:Int)<((z:Nat):Int)) (ck (f+(g.length)<(q.length)) (ck (aF6 (q.getD (f+(g.length)) (0:Nat)) carry_22 borrow_23) (ck (0≤(g.length:Int)∧(g.length:Int)<((z:Nat):Int)) (ck (f+(g.length)<(q.length)) (if (aI3 (q.getD (f+(g.length)) (0:Nat)) carry_22 borrow_23).2.1=(0:Nat) then some (I,(q.set (f+(g.length)) (aI3 (q.getD (f+(g.length)) (0:Nat)) carry_22 borrow_23).1)) else (dK F (fun d:Nat×Int×qc=>oG F g z f d.1 d.2.1 d.2.2) ((0:Nat),(0:Int),(q.set (f+(g.length)) (aI3 (q.getD (f+(g.length)) (0:Nat)) carry_22 borrow_23).1))).bind (fun e=>zV F g z f I e.1 e.2))))))
def oH(F:Md)(I:qc)(z:Nat)(J:Nat)(q:Nat)(carry_41:Nat)(borrow_42:Nat)(f:Int)(g:qc):Option ((Nat×Nat×Int×qc)⊕(Nat×Nat×qc)) :=
 if f<(I.length:Int) then ck (0≤f∧f<(I.length:Int)) (ck (aF6 (eI z (I.getD (f.toNat) (0:Nat))).2.1 carry_41 (0:Nat)) (ck (0≤f∧f<((J:Nat):Int)) (ck (q+(f.toNat)<(g.length)) (ck (aF6 (g.getD (q+(f.toNat)) (0:Nat)) (uD (eI z (I.getD (f.toNat) (0:Nat))).2.1 carry_41 (0:Nat)).1 borrow_42) (ck (0≤f∧f<((J:Nat):Int)) (ck (q+(f.toNat)<(g.length)) (ck (I64 (f+(1:Int))) (some (.inl ((((eI z (I.getD (f.toNat) (0:Nat))).1+(uD (eI z (I.getD (f.toNat) (0:Nat))).2.1 carry_41 (0:Nat)).2.1)%18446744073709551616),(aI3 (g.getD (q+(f.toNat)) (0:Nat)) (uD (eI z (I.getD (f.toNat) (0:Nat))).2.1 carry_41 (0:Nat)).1 borrow_42).2.1,(f+(1:Int)),(g.set (q+(f.toNat)) (aI3 (g.getD (q+(f.toNat)) (0:Nat)) (uD (eI z (I.getD (f.toNat) (0:Nat))).2.1 carry_41 (0:Nat)).1 borrow_42).1))))))))))) else some (.inr (carry_41,borrow_42,g))
def vZ(F:Md)(z:qc)(g:Nat)(f:Nat)(I:qc)(q:Nat):Option vn :=
 (dK F (fun d:Nat×Nat×Int×qc=>oH F z q g f d.1 d.2.1 d.2.2.1 d.2.2.2) ((0:Nat),(0:Nat),(0:Int),I)).bind (fun e=>zW F z g f q e.1 e.2.1 e.2.2)
def pU(F:Md)(f:qc)(L:Nat)(I:Nat)(J:qc)(q:Nat)(g:Nat)(z:Nat):Option ((Nat×Nat×Nat)⊕(Nat)) :=
 if z=(0:Nat) then ck (I64 ((f.length:Int)-(2:Int))) (ck (0≤((f.length:Int)-(2:Int))∧((f.length:Int)-(2:Int))<(f.length:Int)) (ck (¬((eI q (f.getD ((f.length:Int)-(2:Int)).toNat (0:Nat))).1<g)→((eI q (f.getD ((f.length:Int)-(2:Int)).toNat (0:Nat))).1=g)→(I64 ((f.length:Int)-(2:Int)))) (ck (¬((eI q (f.getD ((f.length:Int)-(2:Int)).toNat (0:Nat))).1<g)→((eI q (f.getD ((f.length:Int)-(2:Int)).toNat (0:Nat))).1=g)→(0≤((f.length:Int)-(2:Int))∧((f.length:Int)-(2:Int))<((L:Nat):Int)∧I+((f.length:Int)-(2:Int)).toNat<(J.length))) (if ((eI q (f.getD ((f.length:Int)-(2:Int)).toNat (0:Nat))).1<g)∨(((eI q (f.getD ((f.length:Int)-(2:Int)).toNat (0:Nat))).1=g)∧((eI q (f.getD ((f.length:Int)-(2:Int)).toNat (0:Nat))).2.1≤(J.getD (I+((f.length:Int)-(2:Int)).toNat) (0:Nat)))) then some (.inr q) else ck (I64 ((f.length:Int)-(1:Int))) (ck (0≤((f.length:Int)-(1:Int))∧((f.length:Int)-(1:Int))<(f.length:Int)) (ck (aF6 g (f.getD ((f.length:Int)-(1:Int)).toNat (0:Nat)) (0:Nat)) (some (.inl ((wQ F .u64 q (1:Nat)),(uD g (f.getD ((f.length:Int)-(1:Int)).toNat (0:Nat)) (0:Nat)).1,(uD g (f.getD ((f.length:Int)-(1:Int)).toNat (0:Nat)) (0:Nat)).2.1))))))))) else some (.inr q)
def tC(F:Md)(J:qc)(z:Nat)(q:Nat)(I:qc)(L:Nat)(f:Nat)(g:Nat):Option vn :=
 (dK F (fun d:Nat×Nat×Nat=>pU F J z q I d.1 d.2.1 d.2.2) (L,f,g)).bind (fun e=>vZ F J z q I e)
def aBW(F:Md)(g:Nat)(z:Nat)(f:qc)(q:qc):Option vn :=
 ck (0≤(f.length:Int)∧(f.length:Int)<((z:Nat):Int)) (ck (g+(f.length)<(q.length)) (ck (I64 ((f.length:Int)-(1:Int))) (ck (0≤((f.length:Int)-(1:Int))∧((f.length:Int)-(1:Int))<(f.length:Int)) (if (q.getD (g+(f.length)) (0:Nat))<(f.getD ((f.length:Int)-(1:Int)).toNat (0:Nat)) then ck (0≤(f.length:Int)∧(f.length:Int)<((z:Nat):Int)) (ck (g+(f.length)<(q.length)) (ck (I64 ((f.length:Int)-(1:Int))) (ck (0≤((f.length:Int)-(1:Int))∧((f.length:Int)-(1:Int))<((z:Nat):Int)) (ck (g+((f.length:Int)-(1:Int)).toNat<(q.length)) (ck (I64 ((f.length:Int)-(1:Int))) (ck (0≤((f.length:Int)-(1:Int))∧((f.length:Int)-(1:Int))<(f.length:Int)) (ck (aFj (q.getD (g+(f.length)) (0:Nat)) (q.getD (g+((f.length:Int)-(1:Int)).toNat) (0:Nat)) (f.getD ((f.length:Int)-(1:Int)).toNat (0:Nat))) (tC F f z g q (rP (q.getD (g+(f.length)) (0:Nat)) (q.getD (g+((f.length:Int)-(1:Int)).toNat) (0:Nat)) (f.getD ((f.length:Int)-(1:Int)).toNat (0:Nat))).1 (rP (q.getD (g+(f.length)) (0:Nat)) (q.getD (g+((f.length:Int)-(1:Int)).toNat) (0:Nat)) (f.getD ((f.length:Int)-(1:Int)).toNat (0:Nat))).2.1 (0:Nat))))))))) else ck (I64 ((f.length:Int)-(1:Int))) (ck (0≤((f.length:Int)-(1:Int))∧((f.length:Int)-(1:Int))<((z:Nat):Int)) (ck (g+((f.length:Int)-(1:Int)).toNat<(q.length)) (ck (I64 ((f.length:Int)-(1:Int))) (ck (0≤((f.length:Int)-(1:Int))∧((f.length:Int)-(1:Int))<(f.length:Int)) (ck (aF6 (q.getD (g+((f.length:Int)-(1:Int)).toNat) (0:Nat)) (f.getD ((f.length:Int)-(1:Int)).toNat (0:Nat)) (0:Nat)) (tC F f z g q (18446744073709551615:Nat) (uD (q.getD (g+((f.length:Int)-(1:Int)).toNat) (0:Nat)) (f.getD ((f.length:Int)-(1:Int)).toNat (0:Nat)) (0:Nat)).1 (uD (q.getD (g+((f.length:Int)-(1:Int)).toNat) (0:Nat)) (f.getD ((f.length:Int)-(1:Int)).toNat (0:Nat)) (0:Nat)).2.1))))))))))
structure DgN(X V P v1 v0 U2 U1 U0:Nat):Prop where
 hP:0<P
 hX:X/P=(U2*18446744073709551616+U1)*18446744073709551616+U0
 hV:V/P=v1*18446744073709551616+v0
 v1l:9223372036854775808≤v1
 v1h:v1<18446744073709551616
 v0h:v0<18446744073709551616
 u2h:U2<18446744073709551616
 u1h:U1<18446744073709551616
 u0h:U0<18446744073709551616
 hq:X<18446744073709551616*V
variable {X V P v1 v0 U2 U1 U0:Nat}
theorem bMa(h:DgN X V P v1 v0 U2 U1 U0):U2≤v1:=by
 have g:V<(V/P+1)*P:=by rw[Nat.mul_comm]; exact Nat.lt_mul_div_succ V h.hP
 have f:X/P<18446744073709551616*(V/P+1):=by
  refine(Nat.div_lt_iff_lt_mul h.hP).2 (Nat.lt_of_lt_of_le h.hq ?_);grind
 rw[h.hX,h.hV] at f;have a:=h.v0h;omega
theorem bLj(h:DgN X V P v1 v0 U2 U1 U0):X/V*(v1*18446744073709551616+v0)≤(U2*18446744073709551616+U1)*18446744073709551616+U0:=by
 rw[← h.hX,← h.hV];refine(Nat.le_div_iff_mul_le h.hP).2 ?_;rw[Nat.mul_assoc];exact Nat.le_trans (Nat.mul_le_mul_left _ (Nat.div_mul_le_self V P)) (Nat.div_mul_le_self X V)
theorem mul_two(x v1 v0:Nat):x*(v1*18446744073709551616+v0)=x*v1*18446744073709551616+x*v0:=by grind
theorem bMb(h:DgN X V P v1 v0 U2 U1 U0):X/V≤(U2*18446744073709551616+U1)/v1:=by
 refine(Nat.le_div_iff_mul_le (by have:=h.v1l; omega)).2 ?_;have f:=bLj h;rw[mul_two] at f;have b:=h.u0h;omega
theorem bMc(h:DgN X V P v1 v0 U2 U1 U0):X/V<18446744073709551616:=(Nat.div_lt_iff_lt_mul (by
 have:=h.hq;omega)).2 h.hq
theorem bEw(h:DgN X V P v1 v0 U2 U1 U0){x:Nat}(L:x<18446744073709551616)(g:x*(v1*18446744073709551616+v0)≤(U2*18446744073709551616+U1)*18446744073709551616+U0):x≤X/V+1:=by
 rcases x with _|y
 ·simp_all
 refine Nat.succ_le_succ ?_;have f:0<V:=by
  rcases Nat.eq_zero_or_pos V with h0|h0
  ·have:=h.hq; omega
  omega
 refine(Nat.le_div_iff_mul_le f).2 ?_;rw[← h.hX,← h.hV] at g;have e:=Nat.div_add_mod V P;have m:=Nat.mod_lt V h.hP;have J:(y+1)*(V/P)*P≤X:=Nat.le_trans (Nat.mul_le_mul_right P g) (Nat.div_mul_le_self X P);have I:y*(V%P)≤18446744073709551616*P:=Nat.mul_le_mul (by omega) (Nat.le_of_lt m);have q:18446744073709551616*P≤V/P*P:=Nat.mul_le_mul_right _ (by rw[h.hV]; have:=h.v1l; omega);have z:y*V=y*(V/P)*P+y*(V%P):=by
  grind
 grind
structure DgL(v1 U2 U1 Q x rest over:Nat):Prop where
 eq:x*v1+(rest+over*18446744073709551616)=U2*18446744073709551616+U1
 r1:rest<18446744073709551616
 o1:over≤1
 x1:x<18446744073709551616
 ge:Q≤x
theorem bHP{Q x rest:Nat}(g:v0<18446744073709551616)(f:U0<18446744073709551616)(h:DgL v1 U2 U1 Q x rest 0):(x*v0/18446744073709551616<rest∨x*v0/18446744073709551616=rest∧x*v0%18446744073709551616≤U0)↔x*(v1*18446744073709551616+v0)≤(U2*18446744073709551616+U1)*18446744073709551616+U0:=by
 have e:=h.eq;grind
theorem bKo{Q x rest:Nat}(f:v0<18446744073709551616)(h:DgL v1 U2 U1 Q x rest 1):x*(v1*18446744073709551616+v0)≤(U2*18446744073709551616+U1)*18446744073709551616+U0:=by
 have e:=h.eq;have r:=h.r1;have p:x*v0≤18446744073709551615*18446744073709551615:=Nat.mul_le_mul (by have:=h.x1; omega) (by omega);grind
theorem bHQ{Q x rest:Nat}(f:v1<18446744073709551616)(q:Q*(v1*18446744073709551616+v0)≤(U2*18446744073709551616+U1)*18446744073709551616+U0)(h:DgL v1 U2 U1 Q x rest 0)(hc:¬x*(v1*18446744073709551616+v0)≤(U2*18446744073709551616+U1)*18446744073709551616+U0) :
  aKh .u64 x 1=x-1∧x-1<x∧DgL v1 U2 U1 Q (x-1) ((rest+v1+0)%18446744073709551616) ((rest+v1+0)/18446744073709551616):=by
 have g:Q<x:=by
  refine Nat.lt_of_mul_lt_mul_right (a:=v1*18446744073709551616+v0) ?_;omega
 have e:=h.eq;have r:=h.r1;have x1:=h.x1;obtain⟨y,rfl⟩:∃y,x=y+1:=⟨x-1,by omega⟩;rw[Nat.add_mul] at e;refine⟨bA1 x1 (by omega),by omega,⟨?_,Nat.mod_lt _ xAa,by omega,by omega,by omega⟩⟩;grind
theorem bHR{v o:List Nat}{j un:Nat}(U:2≤v.length)(hs:v.length≤9000000000000)(O:un=v.length+1)(N:j+un≤o.length)
  (h:DgN X V P (v.getD (v.length-1) 0) (v.getD (v.length-2) 0) U2 U1 (o.getD (j+(v.length-2)) 0)) {x rest over:Nat} (hi:DgL (v.getD (v.length-1) 0) U2 U1 (X/V) x rest over) :
  ∃e,aGX (fun d:Nat×Nat×Nat=>pU none v un j o d.1 d.2.1 d.2.2) (x,rest,over)=some e∧X/V≤e∧e≤X/V+1∧e<18446744073709551616:=by
 have e1:((v.length:Int)-1).toNat=v.length-1:=by omega
 have g:((v.length:Int)-2).toNat=v.length-2:=by omega
 refine mF (step:=fun d:Nat×Nat×Nat=>pU none v un j o d.1 d.2.1 d.2.2) (I:=fun d=>DgL (v.getD (v.length-1) 0) U2 U1 (X/V) d.1 d.2.1 d.2.2) (fun d=>d.1) (fun e=>X/V≤e∧e≤X/V+1∧e<18446744073709551616) ?_ (x,rest,over) hi;rintro⟨x,rest,over⟩ hi;have hi:DgL (v.getD (v.length-1) 0) U2 U1 (X/V) x rest over:=hi;show (∃d',pU none v un j o x rest over=_∧_)∨ ∃e,pU none v un j o x rest over=_∧_;unfold pU;try simp only[wQ,mulM,aMx]
 rw[e1,g];by_cases h0:over=0
 ·subst h0;have ht:=bHP h.v0h h.u0h hi;rw[if_pos rfl];by_cases hc:x*(v.getD (v.length-1) 0*18446744073709551616+v.getD (v.length-2) 0)≤(U2*18446744073709551616+U1)*18446744073709551616+o.getD (j+(v.length-2)) 0
  ·right
   refine⟨x,?_,hi.ge,bEw h hi.x1 hc,hi.x1⟩;refine aE (by omega) (aE (by omega) (aE (fun _ _=>by omega) (aE (fun _ _=>by omega) ?_)));exact(if_pos (ht.2 hc))
  ·left
   obtain⟨q,J,f⟩:=bHQ h.v1h (bLj h) hi hc;refine⟨(x-1,(rest+v.getD (v.length-1) 0+0)%18446744073709551616,(rest+v.getD (v.length-1) 0+0)/18446744073709551616),?_,f,J⟩;refine aE (by omega) (aE (by omega) (aE (fun _ _=>by omega) (aE (fun _ _=>by omega) ?_)));refine(if_neg (fun L=>hc (ht.1 L))).trans ?_;rw[q];exact aE (by omega) (aE (by omega) (aE (Nat.zero_le _) rfl))
 ·right
  have z:over=1:=by have:=hi.o1; omega
  subst z;exact⟨x,by rfl,hi.ge,bEw h hi.x1 (bKo h.v0h hi),hi.x1⟩
end
end Nu
end Go.Proofs
namespace Go.Proofs
open Go.Vc
set_option maxRecDepth 20000
namespace Nu
theorem bBb{x y c b o lo hi z c' d b':Nat}(e:18446744073709551616*hi+lo=x*y)(g:lo<18446744073709551616)(hp:x*y≤18446744073709551615*18446744073709551615)(hc:c<18446744073709551616)(hb:b≤1)(I:o<18446744073709551616)
  (J:z=(lo+c+0)%18446744073709551616) (f:c'=(hi+(lo+c+0)/18446744073709551616)%18446744073709551616) (hd:d=(o+18446744073709551616-z-b)%18446744073709551616) (q:b'=if o<z+b then 1 else 0) :
  d+x*y+c+b=o+18446744073709551616*(c'+b')∧d<18446744073709551616∧c'<18446744073709551616∧b'≤1:=by
 grind
theorem bMd{N g f Q R P o d c b c' b' x y t:Nat}(hP:P=Q*R)(I:g+P*o=N+P*d)(z:N+Q*x*t=f+P*(c+b))(q:d+x*y+c+b=o+18446744073709551616*(c'+b')):g+Q*x*(t+R*y)=f+P*18446744073709551616*(c'+b'):=by
 grind
theorem bMe{N g f Q R P o d c c' y t:Nat}(hP:P=Q*R)(I:g+P*o=N+P*d)(z:N+P*c=f+Q*t)(q:d+18446744073709551616*c'=o+y+c):g+P*18446744073709551616*c'=f+Q*(t+R*y):=by
 grind
structure MsI(v u:List Nat)(x j:Nat)(c b:Nat)(i:Int)(w:List Nat):Prop where
 i0:0≤i
 i1:i≤v.length
 len:w.length=u.length
 lm:Lm w
 c1:c<18446744073709551616
 b1:b≤1
 rest:w.drop (j+i.toNat)=u.drop (j+i.toNat)
 sum:nv w+18446744073709551616^j*x*nv (v.take i.toNat)=nv u+18446744073709551616^(j+i.toNat)*(c+b)
structure AbI(v u:List Nat)(j:Nat)(c:Nat)(i:Int)(w:List Nat):Prop where
 i0:0≤i
 i1:i≤v.length
 len:w.length=u.length
 lm:Lm w
 c1:c≤1
 rest:w.drop (j+i.toNat)=u.drop (j+i.toNat)
 sum:nv w+18446744073709551616^(j+i.toNat)*c=nv u+18446744073709551616^j*nv (v.take i.toNat)
theorem bHS{v u:List Nat}{x j c b:Nat}{i:Int}{w:List Nat}(z:j+v.length<u.length)(h:MsI v u x j c b i w)(hi:i<v.length){d c' b':Nat}(hd:d<18446744073709551616)(g:c'<18446744073709551616)(f:b'≤1)
  (e:d+x*v.getD i.toNat 0+c+b=w.getD (j+i.toNat) 0+18446744073709551616*(c'+b')):MsI v u x j c' b' (i+1) (w.set (j+i.toNat) d):=by
 have h0:=h.i0;have q:=h.len;have e1:(i+1).toNat=i.toNat+1:=by omega
 refine⟨by omega,by omega,by simp_all,aEP h.lm _ hd,g,f,?_,?_⟩
 ·rw[e1,← Nat.add_assoc,drop_set]; exact aFL h.rest
 ·rw[e1,xB,← Nat.add_assoc,Nat.pow_succ];exact bMd (R:=18446744073709551616^i.toNat) (Nat.pow_add _ _ _) (aHt (by omega)) h.sum e
theorem bHT{v u:List Nat}{j c:Nat}{i:Int}{w:List Nat}(q:j+v.length<u.length)(h:AbI v u j c i w)(hi:i<v.length){d c':Nat}(hd:d<18446744073709551616)(f:c'≤1)
  (e:d+18446744073709551616*c'=w.getD (j+i.toNat) 0+v.getD i.toNat 0+c):AbI v u j c' (i+1) (w.set (j+i.toNat) d):=by
 have h0:=h.i0;have g:=h.len;have e1:(i+1).toNat=i.toNat+1:=by omega
 refine⟨by omega,by omega,by simp_all,aEP h.lm _ hd,f,?_,?_⟩
 ·rw[e1,← Nat.add_assoc,drop_set]; exact aFL h.rest
 ·rw[e1,xB,← Nat.add_assoc,Nat.pow_succ];exact bMe (R:=18446744073709551616^i.toNat) (Nat.pow_add _ _ _) (aHt (by omega)) h.sum e
theorem bFH{v u:List Nat}{x j un:Nat}(z:Lm v)(Y:x<18446744073709551616)(hs:v.length≤9000000000000)(U:un=v.length+1)(O:j+un≤u.length)(lu:Lm u) :
  ∃e,dK none (fun d:Nat×Nat×Int×qc=>oH none v x un j d.1 d.2.1 d.2.2.1 d.2.2.2) (0,0,0,u)=some e∧MsI v u x j e.1 e.2.1 v.length e.2.2:=by
 refine mF (step:=fun d:Nat×Nat×Int×qc=>oH none v x un j d.1 d.2.1 d.2.2.1 d.2.2.2) (I:=fun d=>MsI v u x j d.1 d.2.1 d.2.2.1 d.2.2.2) (fun d=>(v.length-d.2.2.1).toNat) (fun e=>MsI v u x j e.1 e.2.1 v.length e.2.2) ?_ (0,0,0,u) ⟨by simp,by simp,rfl,lu,by simp,by simp,rfl,by simp[nv]⟩;rintro⟨c,b,i,w⟩ h;have h:MsI v u x j c b i w:=h;have h0:=h.i0;have f:=h.len;show (∃d',oH none v x un j c b i w=_∧_)∨ ∃e,oH none v x un j c b i w=_∧_;unfold oH;by_cases hi:i<v.length
 ·left
  have hy:=lJ z i.toNat;have N:=lJ h.lm (j+i.toNat);have hb:=h.b1;obtain⟨q,g,J,L⟩:=bBb (b':=if w.getD (j+i.toNat) 0<(x*v.getD i.toNat 0%18446744073709551616+c+0)%18446744073709551616+b then 1 else 0) (Nat.div_add_mod (x*v.getD i.toNat 0) 18446744073709551616) (Nat.mod_lt _ xAa) (Nat.mul_le_mul (by omega) (by omega)) h.c1 hb N rfl rfl rfl rfl;refine⟨((x*v.getD i.toNat 0/18446744073709551616+(x*v.getD i.toNat 0%18446744073709551616+c+0)/18446744073709551616)%18446744073709551616,(if w.getD (j+i.toNat) 0<(x*v.getD i.toNat 0%18446744073709551616+c+0)%18446744073709551616+b then 1 else 0),i+1,w.set (j+i.toNat) ((w.getD (j+i.toNat) 0+18446744073709551616-(x*v.getD i.toNat 0%18446744073709551616+c+0)%18446744073709551616-b)%18446744073709551616)),?_,bHS (by omega) h hi g J L q,by grind⟩;rw[if_pos hi];exact aE (by omega) (aE (Nat.zero_le _) (aE (by omega) (aE (by omega) (aE hb (aE (by omega) (aE (by omega) (aE (by omega) rfl)))))))
 ·right
  refine⟨(c,b,w),by grind,?_⟩;have e:i=v.length:=by have:=h.i1; omega
  simp_all
theorem bFI{v u:List Nat}{j un:Nat}(g:Lm v)(hs:v.length≤9000000000000)(J:un=v.length+1)(q:j+un≤u.length)(lu:Lm u) :
  ∃e,dK none (fun d:Nat×Int×qc=>oG none v un j d.1 d.2.1 d.2.2) (0,0,u)=some e∧AbI v u j e.1 v.length e.2:=by
 refine mF (step:=fun d:Nat×Int×qc=>oG none v un j d.1 d.2.1 d.2.2) (I:=fun d=>AbI v u j d.1 d.2.1 d.2.2) (fun d=>(v.length-d.2.1).toNat) (fun e=>AbI v u j e.1 v.length e.2) ?_ (0,0,u) ⟨by simp,by simp,rfl,lu,by simp,rfl,by simp[nv]⟩;rintro⟨c,i,w⟩ h;have h:AbI v u j c i w:=h;have h0:=h.i0;have f:=h.len;show (∃d',oG none v un j c i w=_∧_)∨ ∃e,oG none v un j c i w=_∧_;unfold oG;by_cases hi:i<v.length
 ·left
  have hy:=lJ g i.toNat;have L:=lJ h.lm (j+i.toNat);have hc:=h.c1;have z:=Nat.div_add_mod (w.getD (j+i.toNat) 0+v.getD i.toNat 0+c) 18446744073709551616;refine⟨(_,_,_),?_,bHT (d:=(w.getD (j+i.toNat) 0+v.getD i.toNat 0+c)%18446744073709551616) (c':=(w.getD (j+i.toNat) 0+v.getD i.toNat 0+c)/18446744073709551616) (by omega) h hi (Nat.mod_lt _ xAa) (by omega) (by omega),by grind⟩;rw[if_pos hi];refine aE (by omega) (aE (by omega) (aE (by omega) (aE hc (aE (by omega) (aE (by omega) (aE (by omega) ?_))))));rfl
 ·right
  refine⟨(c,w),by grind,?_⟩;have e:i=v.length:=by have:=h.i1; omega
  simp_all
theorem bEx{w u:List Nat}{K:Nat}(q:Lm w)(lu:Lm u)(h:w.drop K=u.drop K)(g:nv u<18446744073709551616^K):nv w<18446744073709551616^K:=by
 have hp:0<18446744073709551616^K:=Nat.pow_pos xAa;have f:=aO0 q K;rw[h,aO0 lu,Nat.div_eq_of_lt g] at f;exact(Nat.div_eq_zero_iff_lt hp).1 f.symm
theorem bHU{N f W x:Nat}{Q:Nat}(g:0<W)(I:Q=N/W)(z:Q≤x)(h:f+x*W=N):x=Q∧f+Q*W=N:=by
 have q:x≤N/W:=(Nat.le_div_iff_mul_le g).2 (by omega);grind
theorem bKp{N q z g W x T S f c:Nat}{Q:Nat}(hQ:Q=N/W)(Y:Q≤x)(L:x≤Q+1)(J:q+x*W=N+T)(I:q<T)(h4:z+S*c=q+W)(O:g+S*f=z+S*((f+c)%18446744073709551616))(U:g<T)(hT:T=S*18446744073709551616)(ho:f<18446744073709551616)(hc:c≤1) :
  x=Q+1∧g+Q*W=N:=by
 have Z:Q*W≤N:=by simp_all[Nat.div_mul_le_self]
 have hx:x=Q+1:=by
  grind
 subst hx;refine⟨rfl,?_⟩;rw[Nat.add_mul,Nat.one_mul] at J;rcases Nat.lt_or_ge (f+c) 18446744073709551616 with h|h
 ·rw[Nat.mod_eq_of_lt h,Nat.mul_add] at O;omega
 ·have e:(f+c)%18446744073709551616=0:=by omega
  grind
theorem aWO{v u:List Nat}{j un:Nat}(I:Lm v)(lu:Lm u)(hn:2≤v.length)(hs:v.length≤9000000000000)(hu:un=v.length+1)(ho:j+un≤u.length)
  (hv:9223372036854775808≤v.getD (v.length-1) 0) (hq:nv u<18446744073709551616^(j+1)*nv v) :
  ∃w,aBW none j un v u=some (nv u/(18446744073709551616^j*nv v),w)∧w.length=u.length∧Lm w∧nv w+nv u/(18446744073709551616^j*nv v)*(18446744073709551616^j*nv v)=nv u:=by
 have Y:=uC I;have hJ:0<18446744073709551616^j:=Nat.pow_pos xAa;have hX:nv u/18446744073709551616^j<18446744073709551616*nv v:=(Nat.div_lt_iff_lt_mul hJ).2 (by rw[Nat.pow_succ,Nat.mul_assoc] at hq; grind);have O:nv u/18446744073709551616^j/nv v=nv u/(18446744073709551616^j*nv v):=Nat.div_div_eq_div_mul _ _ _;have U:nv u<18446744073709551616^(j+v.length+1):=by
  refine Nat.lt_of_lt_of_le hq ?_;rw[show j+v.length+1=j+1+v.length from by omega,Nat.pow_add _ (j+1)];exact Nat.mul_le_mul_left _ (Nat.le_of_lt Y)
 have hD:DgN (nv u/18446744073709551616^j) (nv v) (18446744073709551616^(v.length-2)) (v.getD (v.length-1) 0) (v.getD (v.length-2) 0) (u.getD (j+v.length) 0) (u.getD (j+(v.length-1)) 0) (u.getD (j+(v.length-2)) 0):=by
  refine⟨Nat.pow_pos xAa,?_,?_,hv,lJ I _,lJ I _,lJ lu _,lJ lu _,lJ lu _,hX⟩
  ·have e1:j+(v.length-1)=j+(v.length-2)+1:=(by omega);have e2:j+v.length=j+(v.length-2)+1+1:=(by omega);have hz:nv u/18446744073709551616^(j+(v.length-2))<18446744073709551616*18446744073709551616*18446744073709551616:=by
    refine(Nat.div_lt_iff_lt_mul (Nat.pow_pos xAa)).2 ?_;rw[show j+v.length+1=j+(v.length-2)+1+1+1 from by omega,Nat.pow_succ,Nat.pow_succ,Nat.pow_succ] at U;grind
   rw[aBr lu,aBr lu,aBr lu,e1,e2,Nat.pow_succ,Nat.pow_succ,← Nat.div_div_eq_div_mul,← Nat.div_div_eq_div_mul,Nat.div_div_eq_div_mul _ (18446744073709551616^j),← Nat.pow_add];grind
  ·have hz:nv v/18446744073709551616^(v.length-2)<18446744073709551616*18446744073709551616:=by
    refine(Nat.div_lt_iff_lt_mul (Nat.pow_pos xAa)).2 ?_;have h:=Y;rw[show v.length=v.length-2+1+1 from by omega,Nat.pow_succ,Nat.pow_succ] at h;grind
   rw[aBr I,aBr I,show v.length-1=v.length-2+1 from by omega,Nat.pow_succ,← Nat.div_div_eq_div_mul];grind
 have e1:((v.length:Int)-1).toNat=v.length-1:=by omega
 rw[← O];have hV0:0<nv v:=by
  grind
 have hW:0<18446744073709551616^j*nv v:=Nat.mul_pos hJ hV0;have main:∀x,nv u/18446744073709551616^j/nv v≤x→x≤nv u/18446744073709551616^j/nv v+1→x<18446744073709551616→ ∃w,vZ none v un j u x=some (nv u/18446744073709551616^j/nv v,w)∧w.length=u.length∧Lm w∧nv w+nv u/18446744073709551616^j/nv v*(18446744073709551616^j*nv v)=nv u:=by
  intro x hx1 hx2 hx3;obtain⟨⟨c,b,w⟩,m1,z⟩:=bFH (j:=j) I hx3 hs hu ho lu;have z:MsI v u x j c b v.length w:=z;have hlen:=z.len;have ho2:=lJ z.lm (j+v.length);have hc:=z.c1;have hb:=z.b1;have hrest:=z.rest;have g:=z.sum;rw[Int.toNat_natCast] at hrest g;rw[List.take_length] at g;have hset:=aHt (a:=w) (k:=j+v.length) (v:=(w.getD (j+v.length) 0+18446744073709551616-c-b)%18446744073709551616) (by omega);have q:Lm (w.set (j+v.length) ((w.getD (j+v.length) 0+18446744073709551616-c-b)%18446744073709551616)):=aEP z.lm _ (Nat.mod_lt _ xAa);have hr2:(w.set (j+v.length) ((w.getD (j+v.length) 0+18446744073709551616-c-b)%18446744073709551616)).drop (j+v.length+1)=u.drop (j+v.length+1):=by
   grind[drop_set,aFL]
  have Z:=bEx q lu hr2 U;have hx:18446744073709551616^j*x*nv v=x*(18446744073709551616^j*nv v):=by grind
  rw[hx] at g;unfold vZ;rw[m1];simp only[Option.bind_some];unfold zW;by_cases hbo:w.getD (j+v.length) 0<c+b
  ·
   have hd:(w.getD (j+v.length) 0+18446744073709551616-c-b)%18446744073709551616+c+b=w.getD (j+v.length) 0+18446744073709551616:=(by omega);have h3:nv (w.set (j+v.length) ((w.getD (j+v.length) 0+18446744073709551616-c-b)%18446744073709551616))+x*(18446744073709551616^j*nv v)=nv u+18446744073709551616^(j+v.length+1):=by
    grind
   have hb1:¬(aI3 (w.getD (j+v.length) 0) c b).2.1=0:=(by show ¬(if w.getD (j+v.length) 0<c+b then 1 else 0)=0; simp_all);have hl3:(w.set (j+v.length) ((w.getD (j+v.length) 0+18446744073709551616-c-b)%18446744073709551616)).length=u.length:=(by simp_all);obtain⟨w3,hw3⟩:∃w3,w3=w.set (j+v.length) ((w.getD (j+v.length) 0+18446744073709551616-c-b)%18446744073709551616):=⟨_,rfl⟩;have hw3':w.set (j+v.length) (aI3 (w.getD (j+v.length) 0) c b).1=w3:=hw3.symm;rw[← hw3] at h3 Z q hr2 hl3;obtain⟨⟨c4,N⟩,n1,J⟩:=bFI (u:=w3) (j:=j) I hs hu (by omega) q;have J:AbI v w3 j c4 v.length N:=J;have hl4:=J.len;have ho4:=lJ J.lm (j+v.length);have hrest4:=J.rest;have f:=J.sum;rw[Int.toNat_natCast] at hrest4 f;rw[List.take_length] at f;have L:=aHt (a:=N) (k:=j+v.length) (v:=(N.getD (j+v.length) 0+c4)%18446744073709551616) (by omega);have lw5:Lm (N.set (j+v.length) ((N.getD (j+v.length) 0+c4)%18446744073709551616)):=aEP J.lm _ (Nat.mod_lt _ xAa);have hr5:(N.set (j+v.length) ((N.getD (j+v.length) 0+c4)%18446744073709551616)).drop (j+v.length+1)=u.drop (j+v.length+1):=by
    grind[drop_set,aFL]
   have hT5:=bEx lw5 lu hr5 U;obtain⟨f1,f2⟩:=bKp O hx1 hx2 h3 Z f L hT5 (Nat.pow_succ ..) ho4 J.c1;refine⟨_,aE (by omega) (aE (by omega) (aE hb (aE (by omega) (aE (by omega) ?_)))),?_,lw5,f2⟩
   ·refine(if_neg hb1).trans ?_;rw[hw3'];refine aZ n1 ?_;unfold zV;(try simp only[wQ,mulM,aMx]);refine aE (by omega) (aE (by omega) (aE (by omega) (aE (by omega) ?_)));simp_all[bA1,Nat.succ_le_succ,Nat.zero_le,Nat.add_sub_cancel]
   simp_all
  ·have hd:(w.getD (j+v.length) 0+18446744073709551616-c-b)%18446744073709551616+c+b=w.getD (j+v.length) 0:=(by omega);have h3:nv (w.set (j+v.length) ((w.getD (j+v.length) 0+18446744073709551616-c-b)%18446744073709551616))+x*(18446744073709551616^j*nv v)=nv u:=by
    grind
   have hb0:(aI3 (w.getD (j+v.length) 0) c b).2.1=0:=if_neg hbo;obtain⟨f1,f2⟩:=bHU hW O hx1 h3;refine⟨_,aE (by omega) (aE (by omega) (aE hb (aE (by omega) (aE (by omega) ?_)))),?_,q,f2⟩
   ·refine(if_pos hb0).trans ?_;rw[f1]; rfl
   simp_all
 have start:∀x rest over,DgL (v.getD (v.length-1) 0) (u.getD (j+v.length) 0) (u.getD (j+(v.length-1)) 0) (nv u/18446744073709551616^j/nv v) x rest over→ ∃w,tC none v un j u x rest over=some (nv u/18446744073709551616^j/nv v,w)∧w.length=u.length∧Lm w∧nv w+nv u/18446744073709551616^j/nv v*(18446744073709551616^j*nv v)=nv u:=by
  intro x rest over hL;obtain⟨e,g1,g2,g3,g4⟩:=bHR hn hs hu ho hD hL;simp_all[tC,aZ]
 have hu1:=lJ lu (j+(v.length-1));have hu2:=lJ lu (j+v.length);have hv1:=lJ I (v.length-1);have hge:=bMb hD;have hlt:=bMc hD;have hle:=bMa hD;unfold aBW;rw[e1];by_cases hc:u.getD (j+v.length) 0<v.getD (v.length-1) 0
 ·have hdm:=Nat.div_add_mod (u.getD (j+v.length) 0*18446744073709551616+u.getD (j+(v.length-1)) 0) (v.getD (v.length-1) 0);have hml:=Nat.mod_lt (u.getD (j+v.length) 0*18446744073709551616+u.getD (j+(v.length-1)) 0) (show 0<v.getD (v.length-1) 0 by omega);have hdl:(u.getD (j+v.length) 0*18446744073709551616+u.getD (j+(v.length-1)) 0)/v.getD (v.length-1) 0<18446744073709551616:=by
   refine(Nat.div_lt_iff_lt_mul (by omega)).2 ?_;omega
  obtain⟨w,k1,k2⟩:=start _ _ 0 ⟨by grind,Nat.lt_trans hml hv1,by decide,hdl,hge⟩;refine⟨w,?_,k2⟩;refine aE (by omega) (aE (by omega) (aE (by omega) (aE (by omega) ?_)));refine(if_pos hc).trans ?_;exact aE (by omega) (aE (by omega) (aE (by omega) (aE (by omega) (aE (by omega) (aE (by omega) (aE (by omega) (aE hc k1)))))))
 ·have hd:=Nat.div_add_mod (u.getD (j+(v.length-1)) 0+v.getD (v.length-1) 0+0) 18446744073709551616;obtain⟨w,k1,k2⟩:=start 18446744073709551615 ((u.getD (j+(v.length-1)) 0+v.getD (v.length-1) 0+0)%18446744073709551616) ((u.getD (j+(v.length-1)) 0+v.getD (v.length-1) 0+0)/18446744073709551616) ⟨by omega,Nat.mod_lt _ xAa,by omega,by decide,by omega⟩;refine⟨w,?_,k2⟩;refine aE (by omega) (aE (by omega) (aE (by omega) (aE (by omega) ?_)));refine(if_neg hc).trans ?_;exact aE (by omega) (aE (by omega) (aE (by omega) (aE (by omega) (aE (by omega) (aE (Nat.zero_le _) k1)))))
noncomputable section
abbrev aI5(a b:List Nat):Prop:=Nrm a∧Nrm b∧nv b≠0∧a.length≤1099511627776
def rQ(a b:List Nat):List Nat×List Nat×Unit:=(lb (nv a/nv b),lb (nv a%nv b),())
def aBs(F:Md)(f:qc)(g:qc)(q:qc):Option qn :=
 ck (0≤(f.length:Int)∧(f.length:Int)≤(g.length:Int)) (ck (aY4 (fR (List.take (f.length) g)) (aC (f.getD ((f.length:Int)-(1:Int)).toNat (0:Nat)))) (some ((fR q),(wV (fR (List.take (f.length) g)) (aC (f.getD ((f.length:Int)-(1:Int)).toNat (0:Nat)))),())))
def uG(F:Md)(g:qc)(f:Int)(q:qc)(z:qc):Option ((Int×qc×qc)⊕(qc×qc)) :=
 if (0:Int)≤f then ck (I64 (f+(g.length:Int))) (ck (I64 ((f+(g.length:Int))+(1:Int))) (ck (0≤f∧f<((f+(g.length:Int))+(1:Int))∧((f+(g.length:Int))+(1:Int))≤(q.length:Int)) ((aBW F (f.toNat) (((f+(g.length:Int))+(1:Int))-f).toNat (gL (kI g (aC (g.getD ((g.length:Int)-(1:Int)).toNat (0:Nat)))) (g.length:Int)) q).bind (fun I=>ck (0≤f∧f<(z.length:Int)) (ck (I64 (f-(1:Int))) (some (.inl ((f-(1:Int)),I.2,(z.set (f.toNat) I.1))))))))) else some (.inr (q,z))
def aCD(F:Md)(g:qc)(f:qc):Option qn :=
 ck (bA5 g f) (if (sG g f)<(0:Int) then ck (bFA g) (some (([]:List Nat),(id g),())) else if (f.length:Int)=(1:Int) then ck ((0:Int)<(f.length:Int)) (ck (aK8 g (f.getD (0:Nat) (0:Nat))) (some ((aBV g (f.getD (0:Nat) (0:Nat))).1,(aBV g (f.getD (0:Nat) (0:Nat))).2.1,()))) else ck (I64 ((f.length:Int)-(1:Int))) (ck (0≤((f.length:Int)-(1:Int))∧((f.length:Int)-(1:Int))<(f.length:Int)) (ck (aX4 f (aC (f.getD ((f.length:Int)-(1:Int)).toNat (0:Nat)))) (ck (aFk (kI f (aC (f.getD ((f.length:Int)-(1:Int)).toNat (0:Nat)))) (f.length:Int)) (ck (aX4 g (aC (f.getD ((f.length:Int)-(1:Int)).toNat (0:Nat)))) (ck (I64 ((g.length:Int)+(1:Int))) (ck (aFk (kI g (aC (f.getD ((f.length:Int)-(1:Int)).toNat (0:Nat)))) ((g.length:Int)+(1:Int))) (ck (I64 ((g.length:Int)-(f.length:Int))) (ck (I64 (((g.length:Int)-(f.length:Int))+(1:Int))) (ck (0≤(((g.length:Int)-(f.length:Int))+(1:Int))) (ck ((8:Int)*(((g.length:Int)-(f.length:Int))+(1:Int))≤281474976710656) (ck (I64 ((g.length:Int)-(f.length:Int))) ((dK F (fun d:Int×qc×qc=>uG F f d.1 d.2.1 d.2.2) (((g.length:Int)-(f.length:Int)),(gL (kI g (aC (f.getD ((f.length:Int)-(1:Int)).toNat (0:Nat)))) ((g.length:Int)+(1:Int))),(List.replicate (((g.length:Int)-(f.length:Int))+(1:Int)).toNat (0:Nat)))).bind (fun e=>aBs F f e.1 e.2))))))))))))))
theorem aQZ{a:List Nat}{n:Int}:nv (gL a n)=nv a:=by
 unfold gL; rw[aQW,aQX,Nat.mul_zero,Nat.add_zero]
theorem aVg{a:List Nat}{n:Int}(h:a.length≤n):(gL a n).length=n.toNat:=by
 grind[gL,List.length_append,List.length_replicate]
theorem aX6{a:List Nat}{n:Int}(h:Lm a):Lm (gL a n):=bHy h (aQY _)
theorem bBc{b:List Nat}(f:Lm b)(J:Nrm b)(h0:nv b≠0):0<b.length∧1≤b.getD (b.length-1) 0∧b.getD (b.length-1) 0*18446744073709551616^(b.length-1)≤nv b∧nv b<(b.getD (b.length-1) 0+1)*18446744073709551616^(b.length-1):=by
 have g:b≠ []:=fun e=>h0 (by rw[e]; rfl);have I:0<b.length:=List.length_pos_iff.2 g;have hp:0<18446744073709551616^(b.length-1):=Nat.pow_pos xAa;have z:=bEp J g;have q:=uC f;have ht:b.getD (b.length-1) 0=nv b/18446744073709551616^(b.length-1):=by
  rw[aBr f];refine Nat.mod_eq_of_lt ((Nat.div_lt_iff_lt_mul hp).2 ?_);rw[Nat.mul_comm,← Nat.pow_succ,show (b.length-1).succ=b.length from by omega];exact q
 rw[ht];exact⟨I,(Nat.le_div_iff_mul_le hp).2 (by omega),Nat.div_mul_le_self _ _,by simp_all[Nat.mul_comm,Nat.lt_mul_div_succ]⟩
theorem bFJ{b:List Nat}(f:Lm b)(O:Nrm b)(h0:nv b≠0):nv b*2^(64-bl (b.getD (b.length-1) 0))<18446744073709551616^b.length∧9223372036854775808*18446744073709551616^(b.length-1)≤nv b*2^(64-bl (b.getD (b.length-1) 0)):=by
 obtain⟨U,Z,Y,J⟩:=bBc f O h0;have hb:=bHB (lJ f (b.length-1));have g:=bCR (x:=b.getD (b.length-1) 0) (by omega);have z:=bHz (b.getD (b.length-1) 0);have I:=bCQ (x:=b.getD (b.length-1) 0) (by omega);generalize b.getD (b.length-1) 0=t at *;have hp:=Nat.two_pow_pos (64-bl t);have e1:2^bl t*2^(64-bl t)=18446744073709551616:=by rw[← Nat.pow_add,show bl t+(64-bl t)=64 from by omega]
 have L:2^(bl t-1)*2^(64-bl t)=9223372036854775808:=by grind[Nat.pow_add,bl]
 constructor
 ·have q:(t+1)*2^(64-bl t)≤18446744073709551616:=by rw[← e1]; exact Nat.mul_le_mul_right _ z
  have N:=Nat.mul_lt_mul_of_pos_right J hp;refine Nat.lt_of_lt_of_le N ?_;rw[Nat.mul_right_comm,show 18446744073709551616^b.length=18446744073709551616*18446744073709551616^(b.length-1) from by rw[Nat.mul_comm,← Nat.pow_succ]; grind];exact Nat.mul_le_mul_right _ q
 ·have q:9223372036854775808≤t*2^(64-bl t):=by rw[← L]; exact Nat.mul_le_mul_right _ g
  refine Nat.le_trans (Nat.mul_le_mul_right _ q) ?_;simp_all[Nat.mul_right_comm,Nat.mul_le_mul_right]
structure QrI(m n V N:Nat)(j:Int)(u q:List Nat):Prop where
 j0: -1≤j
 j1:j≤m
 ul:u.length=m+n+1
 lu:Lm u
 ql:q.length=m+1
 lq:Lm q
 lt:nv u<18446744073709551616^(j+1).toNat*V
 lo:∃t,nv q=18446744073709551616^(j+1).toNat*t
 sum:nv q*V+nv u=N
theorem bHV{m n V N:Nat}{j:Int}{u q w:List Nat}(h:QrI m n V N j u q)(hj:0≤j)(hw:w.length=u.length)(U:Lm w)(hV:0<V)
  (e:nv w+nv u/(18446744073709551616^j.toNat*V)*(18446744073709551616^j.toNat*V)=nv u):QrI m n V N (j-1) w (q.set j.toNat (nv u/(18446744073709551616^j.toNat*V))):=by
 have h1:=h.j1;have O:=h.ql;have z:=h.ul;have e1:(j+1).toNat=j.toNat+1:=by omega
 have I:(j-1+1).toNat=j.toNat:=by omega
 have L:0<18446744073709551616^j.toNat*V:=Nat.mul_pos (Nat.pow_pos xAa) hV;have g:=h.lt;obtain⟨t,ht⟩:=h.lo;rw[e1] at g ht;have Y:nv u/(18446744073709551616^j.toNat*V)<18446744073709551616:=by
  refine(Nat.div_lt_iff_lt_mul L).2 ?_;rw[Nat.pow_succ,Nat.mul_comm (18446744073709551616^j.toNat) 18446744073709551616,Nat.mul_assoc] at g;exact g
 have Z:q.getD j.toNat 0=0:=by
  rw[aBr h.lq,ht,Nat.pow_succ,Nat.mul_assoc,Nat.mul_div_cancel_left _ (Nat.pow_pos xAa),Nat.mul_mod_right]
 have f:=aHt (a:=q) (k:=j.toNat) (v:=nv u/(18446744073709551616^j.toNat*V)) (by omega);rw[Z,Nat.mul_zero,Nat.add_zero] at f;have J:nv w=nv u%(18446744073709551616^j.toNat*V):=by
  grind[Nat.div_add_mod,nv,Nat.mul_comm]
 refine⟨by omega,by omega,by omega,U,by simp_all,aEP h.lq _ Y,?_,?_,?_⟩
 ·simp_all[Nat.mod_lt]
 ·rw[I,f,ht,Nat.pow_succ,Nat.mul_assoc,← Nat.mul_add]; grind
 ·have hs:=h.sum;grind
theorem aVh(a:List Nat)(wa:(Ty.sl qw).wf a)(b:List Nat)(wb:(Ty.sl qw).wf b)(hp:aI5 a b):aCD none a b=some (rQ a b):=by
 obtain⟨na,nb,Y,sa⟩:=hp;have la:=aF7 wa;have L:=aF7 wb;obtain⟨hl,t1,t2,t3⟩:=bBc L nb Y;obtain⟨v1,v2⟩:=bFJ L nb Y;have h64:=bHB (lJ L (b.length-1));have hpos:=bCQ (x:=b.getD (b.length-1) 0) (by omega);unfold aCD;refine aE ⟨na,nb⟩ (aH3 (fun hc=>?_) (fun hc=>aH3 (fun h1=>?_) (fun h1=>?_)))
 ·have f:nv a<nv b:=by
   grind[sG,bCS]
  unfold rQ;rw[Nat.div_eq_of_lt f,Nat.mod_eq_of_lt f,aDO,bLi la na];exact aE (by omega) rfl
 ·have hb1:nv b=b.getD 0 0:=by
   grind
  refine aE (by omega) (aE ⟨by omega,sa⟩ ?_);grind[aBV,rQ]
 ·have hge:nv b≤nv a:=by
   grind[sG,bCS]
  have hlen:b.length≤a.length:=by
   rcases Nat.lt_or_ge a.length b.length with h|h
   ·exfalso;have U:=uC la;have k2:18446744073709551616^a.length≤18446744073709551616^(b.length-1):=Nat.pow_le_pow_right xAa (by omega);grind[bEp]
   omega
  have e1:((b.length:Int)-1).toNat=b.length-1:=by omega
  rw[e1];have hs:(aC (b.getD (b.length-1) 0)).toNat=64-bl (b.getD (b.length-1) 0):=by grind[aC]
  have O:0≤aC (b.getD (b.length-1) 0)∧aC (b.getD (b.length-1) 0)≤63:=by grind[aC]
  have z:kI b (aC (b.getD (b.length-1) 0))=lb (nv b*2^(64-bl (b.getD (b.length-1) 0))):=by grind[kI]
  have J:kI a (aC (b.getD (b.length-1) 0))=lb (nv a*2^(64-bl (b.getD (b.length-1) 0))):=by grind[kI]
  have N:64-bl (b.getD (b.length-1) 0)≤63:=by omega
  have hbl:(lb (nv b*2^(64-bl (b.getD (b.length-1) 0)))).length≤b.length:=aEO.2 v1;have hal:(lb (nv a*2^(64-bl (b.getD (b.length-1) 0)))).length≤a.length+1:=by
   refine aEO.2 ?_;rw[Nat.pow_succ];refine Nat.mul_lt_mul'' (uC la) ?_;exact Nat.lt_of_le_of_lt (Nat.pow_le_pow_right xAa N) xAa
  have hn2:2≤b.length:=by omega
  obtain⟨sI,g⟩:∃sI,sI=aC (b.getD (b.length-1) 0):=⟨_,rfl⟩;obtain⟨s,hss⟩:∃s,s=64-bl (b.getD (b.length-1) 0):=⟨_,rfl⟩;rw[← hss] at v1 v2 hbl hal J z N hs;rw[← g] at J z O hs;rw[← g,J,z];have hV:0<nv b*2^s:=Nat.mul_pos (by omega) (Nat.two_pow_pos s);have key:=mF (step:=fun d:Int×qc×qc=>uG none b d.1 d.2.1 d.2.2) (I:=fun d=>QrI (a.length-b.length) b.length (nv b*2^s) (nv a*2^s) d.1 d.2.1 d.2.2) (fun d=>(d.1+1).toNat)
   (fun e=>e.1.length=a.length+1∧Lm e.1∧nv e.1=nv a*2^s%(nv b*2^s)∧nv e.2=nv a*2^s/(nv b*2^s)) ?_ ((a.length:Int)-(b.length:Int),gL (lb (nv a*2^s)) ((a.length:Int)+1),List.replicate (((a.length:Int)-(b.length:Int))+1).toNat 0) ?_
  ·obtain⟨e,h2,h3,h4,h5,h6⟩:=key;refine aE (by omega) (aE (by omega) (aE ⟨(by omega),by omega,by omega⟩ (aE (by omega) (aE ⟨sa,by omega,by omega⟩ (aE (by omega) (aE (by omega) (aE (by omega) (aE (by omega) (aE (by omega) (aE (by omega) (aE (by omega) (aZ h2 ?_))))))))))));have hm:nv e.1<nv b*2^s:=(by simp_all[Nat.mod_lt]);have htk:nv (e.1.take b.length)=nv e.1:=by
    rw[bKa h4]; exact Nat.mod_eq_of_lt (Nat.lt_trans hm v1)
   have htr:fR (e.1.take b.length)=lb (nv e.1):=(by rw[fR,htk]);unfold aBs;rw[e1,← g,htr];refine aE (by omega) (aE ⟨?_,O.1⟩ ?_)
   ·have:=aEO.2 (Nat.lt_trans hm v1);omega
   ·unfold rQ wV;rw[fR,h6,aCx,hs,h5,Nat.mul_div_mul_right _ _ (Nat.two_pow_pos s),Nat.mul_mod_mul_right,Nat.mul_div_cancel _ (Nat.two_pow_pos s)]
  ·rintro⟨j,u,q⟩ h;have h:QrI (a.length-b.length) b.length (nv b*2^s) (nv a*2^s) j u q:=h;have i0:=h.j0;have i1:=h.j1;have hul:=h.ul;have hql:=h.ql;show (∃d',uG none b j u q=_∧_)∨ ∃e,uG none b j u q=_∧_;unfold uG;rw[e1,← g,z];by_cases hj:0≤j
   ·left
    have hvl:(gL (lb (nv b*2^s)) (b.length:Int)).length=b.length:=(by grind[aVg,Int.toNat_natCast]);have Z:nv (gL (lb (nv b*2^s)) (b.length:Int))=nv b*2^s:=(by rw[aQZ,aCx]);have lv:Lm (gL (lb (nv b*2^s)) (b.length:Int)):=aX6 (aMR _);have htop:9223372036854775808≤(gL (lb (nv b*2^s)) (b.length:Int)).getD (b.length-1) 0:=by
     have hp:0<18446744073709551616^(b.length-1):=Nat.pow_pos xAa;rw[aBr lv,Z,Nat.mod_eq_of_lt ((Nat.div_lt_iff_lt_mul hp).2 (by rw[← Nat.pow_succ',show (b.length-1).succ=b.length from by omega]; exact v1))];simp_all[Nat.le_div_iff_mul_le]
    have f:=h.lt;rw[show (j+1).toNat=j.toNat+1 from by omega] at f;obtain⟨w,U,k2,k3,k4⟩:=aWO (v:=gL (lb (nv b*2^s)) (b.length:Int)) (u:=u) (j:=j.toNat) (un:=((j+(b.length:Int))+1-j).toNat) lv h.lu (by omega) (by omega) (by omega) (by omega) (by simp_all) (by simp_all);rw[Z] at U k4;refine⟨(j-1,w,q.set j.toNat (nv u/(18446744073709551616^j.toNat*(nv b*2^s)))),?_,bHV h hj k2 k3 hV k4,by omega⟩;rw[if_pos hj];exact aE (by omega) (aE (by omega) (aE (by omega) (aZ U (aE (by omega) (aE (by omega) rfl)))))
   ·right
    have hj1:(j+1).toNat=0:=(by omega);have f:=h.lt;rw[hj1,Nat.pow_zero,Nat.one_mul] at f;have hs4:=h.sum;refine⟨(u,q),by grind,by simp_all,h.lu,?_,?_⟩
    ·grind[Nat.add_comm,Nat.add_mul_mod_self_right,Nat.mod_eq_of_lt]
    ·simp only;rw[← hs4,Nat.add_comm,Nat.add_mul_div_right _ _ hV,Nat.div_eq_of_lt f,Nat.zero_add]
  ·have ej:((a.length:Int)-(b.length:Int)+1).toNat=a.length-b.length+1:=(by omega);refine⟨by omega,by omega,?_,aX6 (aMR _),?_,aQY _,?_,⟨0,?_⟩,?_⟩
   ·grind[aVg]
   ·simp_all
   ·simp only;rw[aQZ,aCx,ej];have U:=uC la;have k2:2^s≤2^63:=Nat.pow_le_pow_right xAa N;refine Nat.lt_of_lt_of_le (Nat.mul_lt_mul_of_pos_right U (Nat.two_pow_pos s)) ?_;refine Nat.le_trans (Nat.mul_le_mul_left _ k2) ?_;refine Nat.le_trans ?_ (Nat.mul_le_mul_left _ v2);rw[Nat.mul_left_comm,← Nat.pow_add,show a.length-b.length+1+(b.length-1)=a.length from by omega,Nat.mul_comm];omega
   ·simp_all[aQX,Nat.mul_zero]
   ·simp only; rw[aQX,Nat.zero_mul,Nat.zero_add,aQZ,aCx]
set_option maxHeartbeats 4000000
def aMS:PlR:=⟨[(0,.A [0,2]),(1,.A [0,2,4]),(2,.A [0]),(3,.A [0,2]),(4,.A [0,2,8]),(5,.A [0,2]),(6,.A [0,2]),(7,.A [0,2,14]),(8,.A [0,2]),(9,.A [0,2]),(10,.A [2])],[(4,7),(7,10),(10,13)],[]⟩
@[go_sem]def aI6:Ty:=.pair qw .unit
@[go_sem]def yI:aF:=⟨aI6,.one qg,fun _=>True,fun x=>rO x.1⟩
def aWP(F:Md):aF:=mSpec aI6 (.one qg) (fun x=>aCz F x.1)
abbrev aY6(F:Md):List (FuncId×aF):=[]
theorem aY7[Mx](F:Md):bF Tryz.prog GL (aY6 F):=.nil
attribute [go_sem] aMS
theorem aWQ[Mx](F:Md):FOK Tryz.prog GL 187 (aWP F):=by
 refine bP (bA (aY7 F)) mix Tryz.func187 rfl xN xAa aMS (fun w0 S x Θ N h hV=>?_);obtain⟨(z:Nat),u⟩:=x;simp only[cA,go_sem];replace h:sat (aCz F z) _:=h;unfold aCz at h;refine dD hV (D:=Nat×Int) (fun d=>sat (qY F d.1 d.2) Θ) [] (fun d=>[(0,.val qw d.1),(2,.val qg d.2)]) (fun d=>[]) ?_ ?_
 ·simp only[go_sem];refine cH h (fun hc h=>?_) fun hc h=>?_
  ·exact aT ((z/(4294967296:Nat)),(32:Int)) h rfl xAb
  ·exact aT (z,(0:Int)) h rfl xAb
 ·rintro⟨g,f⟩ h;simp only[go_sem];replace h:sat (qY F g f) _:=h;unfold qY at h;refine dD hV (D:=Nat×Int) (fun d=>sat (qX F d.1 d.2) Θ) [] (fun d=>[(0,.val qw d.1),(2,.val qg d.2)]) (fun d=>[]) ?_ ?_
  ·simp only[go_sem];refine cH h (fun hc h=>?_) fun hc h=>?_
   ·refine aK h fun g0 h=>?_;exact aT ((g/(65536:Nat)),(f+(16:Int))) h rfl xAb
   ·exact aT (g,f) h rfl xAb
  ·rintro⟨q,I⟩ h;simp only[go_sem];replace h:sat (qX F q I) _:=h;unfold qX at h;refine dD hV (D:=Nat×Int) (fun d=>sat (qW F d.1 d.2) Θ) [] (fun d=>[(0,.val qw d.1),(2,.val qg d.2)]) (fun d=>[]) ?_ ?_
   ·simp only[go_sem];refine cH h (fun hc h=>?_) fun hc h=>?_
    ·refine aK h fun g0 h=>?_;exact aT ((q/(256:Nat)),(I+(8:Int))) h rfl xAb
    ·exact aT (q,I) h rfl xAb
   ·rintro⟨J,L⟩ h;simp only[go_sem];replace h:sat (qW F J L) _:=h;unfold qW at h;refine aK h fun g0 h=>aK h fun g1 h=>?_;exact zaF
theorem aMT[Mx]:FOK Tryz.prog GL 187 yI:=jY (aWQ none) (fun⟨f,u⟩ ⟨w0,g⟩ hp=>aVb f w0)
def aCE:PlR:=⟨[(0,.A [0]),(1,.A [2])],[],[]⟩
@[go_sem]def yR:Ty:=.pair qw .unit
@[go_sem]def gM:aF:=⟨yR,.one qg,fun _=>True,fun x=>aC x.1⟩
def aI7(F:Md):aF:=mSpec yR (.one qg) (fun x=>oO F x.1)
abbrev aC9(F:Md):List (FuncId×aF):=[(187,yI)]
theorem aKj[Mx](F:Md):bF Tryz.prog GL (aC9 F):=.cons aMT xN (.nil)
attribute [go_sem] aCE
theorem aI8[Mx](F:Md):FOK Tryz.prog GL 144 (aI7 F):=by
 refine bP (bA (aKj F)) mix Tryz.func144 rfl xN xAa aCE (fun w0 S x Θ g h hV=>?_);obtain⟨(f:Nat),u⟩:=x;simp only[cA,go_sem];replace h:sat (oO F f) _:=h;unfold oO at h;refine aK h fun g0 h=>?_;exact zaF
theorem xC[Mx]:FOK Tryz.prog GL 144 gM:=jY (aI8 none) (fun⟨f,u⟩ ⟨w0,g⟩ hp=>aH4 f w0)
def aBX:PlR:=⟨[(0,.A [0]),(1,.A [0,4]),(2,.A [2]),(3,.A [2])],[],[]⟩
@[go_sem]def xD:Ty:=.pair qw .unit
@[go_sem]def qM:aF:=⟨xD,.one qg,fun _=>True,fun x=>kZ x.1⟩
def aH7(F:Md):aF:=mSpec xD (.one qg) (fun x=>nL F x.1)
abbrev aI9(F:Md):List (FuncId×aF):=[]
theorem aJa[Mx](F:Md):bF Tryz.prog GL (aI9 F):=.nil
attribute [go_sem] aBX
theorem aH8[Mx](F:Md):FOK Tryz.prog GL 205 (aH7 F):=by
 refine bP (bA (aJa F)) mix Tryz.func205 rfl xN xAa aBX (fun w0 S x Θ g h hV=>?_);obtain⟨(f:Nat),u⟩:=x;simp only[cA,go_sem];replace h:sat (nL F f) _:=h;unfold nL at h;refine cH h (fun hc h=>?_) fun hc h=>?_
 ·exact aG hV [.tmp 2] rfl rfl rfl (aA h) xAe
 ·refine aD h fun g0 h=>?_;repeat (refine⟨zAF,?_⟩)
  exact aG hV [.tmp 2] rfl rfl rfl (aA h) (by (simp only[aS,go_sem,bJ F,bK F,bL F])<;>first|rfl|(simp; done))
theorem aH9[Mx]:FOK Tryz.prog GL 205 qM:=jY (aH8 none) (fun⟨f,u⟩ ⟨w0,g⟩ hp=>aHu f w0)
def aMU:PlR:=⟨[(0,.A [0,1]),(1,.A [0,1,6]),(2,.A [0,1,6,7]),(3,.A [0,1,6,7,8]),(4,.A [0,1,6,7,8,9]),(5,.A [0,1,6,7,8,9,10]),(6,.A [0,1,6,7,9,11]),(7,.A [0,1,6,7,9,11,12]),(8,.A [0,1,6,7,9,12,13]),(9,.A [0,1,7,9,12,13]),(10,.A [0,1,4]),(11,.A [4,5])],[],[]⟩
@[go_sem]def aJb:Ty:=.pair qw (.pair qw .unit)
@[go_sem]def yJ:aF:=⟨aJb,.tup wv,fun _=>True,fun x=>eI x.1 x.2.1⟩
def aWR(F:Md):aF:=mSpec aJb (.tup wv) (fun x=>aCA F x.1 x.2.1)
abbrev aY8(F:Md):List (FuncId×aF):=[]
theorem aY9[Mx](F:Md):bF Tryz.prog GL (aY8 F):=.nil
attribute [go_sem] aMU
theorem aWS[Mx](F:Md):FOK Tryz.prog GL 150 (aWR F):=by
 refine bP (bA (aY9 F)) mix Tryz.func150 rfl xN xAa aMU (fun w0 S x Θ q h hV=>?_);obtain⟨(g:Nat),(f:Nat),u⟩:=x;simp only[cA,go_sem];replace h:sat (aCA F g f) _:=h;unfold aCA at h;exact aG hV [.tmp 4,.tmp 5] rfl rfl rfl (aA h) xAe
theorem aMV[Mx]:FOK Tryz.prog GL 150 yJ:=jY (aWS none) (fun⟨g,x1,u⟩ ⟨w0,f,q⟩ hp=>aVc g w0 x1 f)
def aSi:PlR:=⟨[(0,.A [0]),(1,.A [0,14]),(2,.A [0]),(3,.A [2])],[],[]⟩
@[go_sem]def aNP:Ty:=.pair wi .unit
@[go_sem]def jD:aF:=⟨aNP,.one wi,fun _=>True,fun x=>fR x.1⟩
def bBd(F:Md):aF:=mSpec aNP (.one wi) (fun x=>aF8 F x.1)
abbrev bCW(F:Md):List (FuncId×aF):=[]
theorem bCX[Mx](F:Md):bF Tryz.prog GL (bCW F):=.nil
attribute [go_sem] aSi
theorem bBe[Mx](F:Md):FOK Tryz.prog GL 148 (bBd F):=by
 refine bP (bA (bCX F)) mix Tryz.func148 rfl xN xAa aSi (fun w0 S x Θ L h hV=>?_);obtain⟨(g:qc),u⟩:=x;simp only[cA,go_sem];replace h:sat (aF8 F g) _:=h;unfold aF8 at h;refine bQ hV (D:=qc) [] (fun d=>[(0,.val wi d)]) (fun d=>[]) h rfl xAb ?_;rintro z J I f q h;simp only[go_sem];replace h:sat (aDP F z) _:=h;unfold aDP at h;refine aK h fun g0 h=>aK h fun g1 h=>?_;refine⟨fun hc=>?_,fun hc=>?_⟩
 ·replace h:=gZ hc h;refine aK h fun g0 h=>aK h fun g1 h=>?_;replace h:=f _ (aA h);exact zaI
 ·replace h:=hO hc h;replace h:=yaG (q _ (aA h));exact zaF
theorem zX[Mx]:FOK Tryz.prog GL 148 jD:=jY (bBe none) (fun⟨f,u⟩ ⟨w0,g⟩ hp=>aYX f w0)
def aVi:PlR:=⟨[(0,.A [0]),(1,.A [2])],[],[]⟩
@[go_sem]def aQ0:Ty:=.pair wi .unit
@[go_sem]def aJc:aF:=⟨aQ0,.one .bool,fun _=>True,fun x=>aH6 x.1⟩
def bCY(F:Md):aF:=mSpec aQ0 (.one .bool) (fun x=>aH5 F x.1)
abbrev bFK(F:Md):List (FuncId×aF):=[]
theorem bFL[Mx](F:Md):bF Tryz.prog GL (bFK F):=.nil
attribute [go_sem] aVi
theorem bCZ[Mx](F:Md):FOK Tryz.prog GL 157 (bCY F):=by
 refine bP (bA (bFL F)) mix Tryz.func157 rfl xN xAa aVi (fun w0 S x Θ q h hV=>?_);obtain⟨(g:qc),u⟩:=x;simp only[cA,go_sem];replace h:sat (aH5 F g) _:=h;unfold aH5 at h;refine aD h fun g0 h=>?_;refine aD h fun g1 h=>?_;try simp only[I64,I32] at g0
 repeat (refine⟨by first|with_reducible assumption|omega|(intros; first|with_reducible assumption|omega)|(intro _; exact⟨rfl,by decide⟩)|(intro _; refine(?_:_=aI _); rfl)|(refine(?_:_=aI _); rfl)|exact⟨rfl,rfl⟩|(intro q0 f; (try have e0:=g0 (by first|exact q0|omega|(simpa using q0)) (by first|exact f|omega|(simpa using f))); (try have e1:=g1 (by first|exact q0|omega|(simpa using q0)) (by first|exact f|omega|(simpa using f))); first|assumption|omega)|(rintro⟨q0,f⟩; (try have e0:=g0 (by first|exact q0|omega|(simpa using q0)) (by first|exact f|omega|(simpa using f))); (try have e1:=g1 (by first|exact q0|omega|(simpa using q0)) (by first|exact f|omega|(simpa using f))); first|assumption|omega)|decide,?_⟩)
 exact zaF
theorem bC0[Mx]:FOK Tryz.prog GL 157 aJc:=jY (bCZ none) (fun⟨f,u⟩ ⟨w0,g⟩ hp=>bA6 f w0)
def aSj:PlR:=⟨[(0,.A [0]),(1,.A [3]),(2,.A [2]),(3,.A [2])],[],[]⟩
@[go_sem]def aNQ:Ty:=.pair .bool .unit
@[go_sem]def aG1:aF:=⟨aNQ,.one qg,fun _=>True,fun x=>aBG x.1⟩
def bBf(F:Md):aF:=mSpec aNQ (.one qg) (fun x=>aF9 F x.1)
abbrev bC1(F:Md):List (FuncId×aF):=[]
theorem bC2[Mx](F:Md):bF Tryz.prog GL (bC1 F):=.nil
attribute [go_sem] aSj
theorem bBg[Mx](F:Md):FOK Tryz.prog GL 163 (bBf F):=by
 refine bP (bA (bC2 F)) mix Tryz.func163 rfl xN xAa aSj (fun w0 S x Θ g h hV=>?_);obtain⟨(f:Bool),u⟩:=x;simp only[cA,go_sem];replace h:sat (aF9 F f) _:=h;unfold aF9 at h;exact zag
theorem bBh[Mx]:FOK Tryz.prog GL 163 aG1:=jY (bBg none) (fun⟨f,u⟩ ⟨w0,g⟩ hp=>aYY f w0)
def aO3:PlR:=⟨[(0,.A [0,1]),(1,.A [0,1,10]),(2,.A [4]),(3,.A [0,1,5]),(4,.A [0,1,5,21]),(5,.A [0,1,5]),(6,.A [0,1,5,32]),(7,.A [4]),(8,.A [4])],[],[]⟩
@[go_sem]def aK9:Ty:=.pair wi vl
@[go_sem]def uN:aF:=⟨aK9,.one qg,fun x=>bA5 x.1 x.2.1,fun x=>sG x.1 x.2.1⟩
def aZa(F:Md):aF:=mSpec aK9 (.one qg) (fun x=>aEg F x.1 x.2.1)
abbrev aSk(F:Md):List (FuncId×aF):=[(163,aG1)]
theorem bBi[Mx](F:Md):bF Tryz.prog GL (aSk F):=.cons bBh xN (.nil)
attribute [go_sem] aO3
theorem aZb[Mx](F:Md):FOK Tryz.prog GL 115 (aZa F):=by
 refine bP (bA (bBi F)) mix Tryz.func115 rfl xN xAa aO3 (fun w0 S x Θ I h hV=>?_);obtain⟨(f:qc),(g:qc),u⟩:=x;simp only[cA,go_sem];replace h:sat (aEg F f g) _:=h;unfold aEg at h;refine cH h (fun hc h=>?_) fun hc h=>?_
 ·exact aG hV [.tmp 4] rfl rfl rfl (aA h) xAc
 ·refine aK h fun g0 h=>?_;refine bQ hV (D:=Int) [0,1] (fun d=>[(5,.val qg d)]) (fun d=>[]) h rfl xAb ?_;rintro q z T4 hA4 hE4 h;simp only[go_sem];replace h:sat (zQ F f g q) _:=h;unfold zQ at h;refine aYP h (fun hc h=>?_) fun hc h=>?_
  ·refine aK h fun g0 h=>aK h fun g1 h=>?_;refine cH h (fun hc h=>?_) fun hc h=>?_
   ·refine aK h fun g0 h=>aK h fun g1 h=>?_;replace h:=yaG (hE4 _ (aA h));exact zaD
   ·refine aK h fun g0 h=>?_;replace h:=hA4 _ (aA h);exact zaI
  ·replace h:=yaG (hE4 _ (aA h));exact zaD
theorem aJd[Mx]:FOK Tryz.prog GL 115 uN:=jY (aZb none) (fun⟨g,x1,u⟩ ⟨w0,f,q⟩ hp=>aWJ g w0 x1 f hp)
def aSl:PlR:=⟨[(0,.A [0]),(1,.A [0,5]),(2,.A [2]),(3,.A [2])],[],[]⟩
@[go_sem]def aNR:Ty:=.pair wi .unit
@[go_sem]def aG2:aF:=⟨aNR,.one qg,fun x=>bEr x.1,fun x=>sX x.1⟩
def bBj(F:Md):aF:=mSpec aNR (.one qg) (fun x=>aGa F x.1)
abbrev aVj(F:Md):List (FuncId×aF):=[(144,gM)]
theorem bC3[Mx](F:Md):bF Tryz.prog GL (aVj F):=.cons xC xN (.nil)
attribute [go_sem] aSl
theorem bBk[Mx](F:Md):FOK Tryz.prog GL 158 (bBj F):=by
 refine bP (bA (bC3 F)) mix Tryz.func158 rfl xN xAa aSl (fun w0 S x Θ z h hV=>?_);obtain⟨(f:qc),u⟩:=x;simp only[cA,go_sem];replace h:sat (aGa F f) _:=h;unfold aGa at h;refine cH h (fun hc h=>?_) fun hc h=>?_
 ·exact aG hV [.tmp 2] rfl rfl rfl (aA h) xAc
 ·refine aK h fun g0 h=>aK h fun g1 h=>aK h fun g h=>aK h fun q h=>?_;exact zaF
theorem bBl[Mx]:FOK Tryz.prog GL 158 aG2:=jY (bBk none) (fun⟨f,u⟩ ⟨w0,g⟩ hp=>aYZ f w0 hp)
def aO4:PlR:=⟨[(0,.A [0]),(1,.A [5,6,7]),(2,.A [5,6,7,8]),(3,.A [3,4,5,6,7]),(4,.A [3,4,5,6,7,13]),(5,.A [2]),(6,.A [5,6,7]),(7,.A [2])],[],[]⟩
@[go_sem]def aLa:Ty:=.pair wi .unit
@[go_sem]def aFl:aF:=⟨aLa,.one qg,fun x=>pSz x.1,fun x=>lK x.1⟩
def aZc(F:Md):aF:=mSpec aLa (.one qg) (fun x=>aEh F x.1)
abbrev aSm(F:Md):List (FuncId×aF):=[(205,qM)]
theorem bBm[Mx](F:Md):bF Tryz.prog GL (aSm F):=.cons aH9 xN (.nil)
attribute [go_sem] aO4
theorem aZd[Mx](F:Md):FOK Tryz.prog GL 190 (aZc F):=by
 refine bP (bA (bBm F)) mix Tryz.func190 rfl xN xAa aO4 (fun w0 S x Θ q h hV=>?_);obtain⟨(g:qc),u⟩:=x;simp only[cA,go_sem];replace h:sat (aEh F g) _:=h;unfold aEh at h;refine bQ hV (D:=Int) [5,6] (fun d=>[(7,.val qg d)]) (fun d=>[]) h rfl xAb ?_;rintro f z T2 hA2 hE2 h;simp only[go_sem];replace h:sat (zR F g f) _:=h;unfold zR at h;refine dU h (fun hc h=>?_) fun hc h=>?_
 ·refine aK h fun g0 h=>?_;refine cH h (fun hc h=>?_) fun hc h=>?_
  ·refine aK h fun g0 h=>aK h fun g1 h=>?_;replace h:=yaG (hE2 _ (aA h));exact zaF
  ·refine aK h fun g0 h=>?_;exact zav
 ·replace h:=yaG (hE2 _ (aA h));exact zaF
theorem aZe[Mx]:FOK Tryz.prog GL 190 aFl:=jY (aZd none) (fun⟨f,u⟩ ⟨w0,g⟩ hp=>aWK f w0 hp)
def aSn:PlR:=⟨[(0,.A [0,1]),(1,.A [0,1,13]),(2,.A [0,1]),(3,.B [1,5]),(4,.A [1,5,6]),(5,.A [1,5,6,21,22]),(6,.A [1,5,6,21,22,23]),(7,.A [1,5,6,7,21,22]),(8,.A [1,5,6,7,8,21,22]),(9,.A [1,5,6,7,8,21,22,25]),(10,.A [1,5,6,7,8,21,22]),(11,.A [1,5,6,7,8,21,22,34]),(12,.B [1,5,6,21,22]),(13,.A [1,5,6,21,22]),(14,.B [4])],[(4,6),(12,15)],[]⟩
@[go_sem]def aNS:Ty:=.pair wi vl
@[go_sem]def aG3:aF:=⟨aNS,.one wi,fun x=>aSW x.1 x.2.1,fun x=>aDA x.1 x.2.1⟩
def bBn(F:Md):aF:=mSpec aNS (.one wi) (fun x=>aGb F x.1 x.2.1)
abbrev aJe(F:Md):List (FuncId×aF):=[(142,dY),(148,jD),(151,sF)]
theorem bC4[Mx](F:Md):bF Tryz.prog GL (aJe F):=.cons rN xN (.cons zX xN (.nat aHr (.nil)))
attribute [go_sem] aSn
theorem bBo[Mx](F:Md):FOK Tryz.prog GL 152 (bBn F):=by
 refine bP (bA (bC4 F)) mix Tryz.func152 rfl xN xAa aSn (fun w0 S x Θ Z h hV=>?_);obtain⟨(q:qc),(I:qc),u⟩:=x;simp only[cA,go_sem];replace h:sat (aGb F q I) _:=h;unfold aGb at h;refine dD hV (D:=qc×qc) (fun d=>sat (vL F d.1 d.2) Θ) [] (fun d=>[(0,.val wi d.1),(1,.val wi d.2)]) (fun d=>[]) ?_ ?_
 ·simp only[go_sem];refine dU h (fun hc h=>?_) fun hc h=>?_
  ·exact aT (I,q) h rfl xAb
  ·exact aT (q,I) h rfl xAb
 ·rintro⟨L,z⟩ h;simp only[go_sem];replace h:sat (vL F L z) _:=h;unfold vL at h;refine aK h fun g0 h=>?_;refine aD h fun g0 h=>(yaC ?_);refine aDL [1] rfl rfl (yaA ?_);refine bQ hV (D:=Nat×Int×qc) [1,21] (fun d=>[(5,.own 0),(6,.val qw d.1),(22,.val qg d.2.1)]) (fun d=>[.inr (.row 165 qw d.2.2)]) h rfl xAb ?_;rintro⟨carry_12,g,f⟩ Y U O J h;simp only[go_sem];replace h:sat (vK F L z carry_12 g f) _:=h;unfold vK at h;refine dU h (fun hc h=>?_) fun hc h=>?_
  ·refine dD hV (D:=Nat) (fun d=>sat (vJ F g f carry_12 d) U) [1,6,7,21,22] (fun d=>[(5,.own 0),(8,.val qw d)]) (fun d=>[.inr (.row 165 qw f)]) ?_ ?_
   ·simp only[go_sem];refine dU h (fun hc h=>?_) fun hc h=>?_
    ·refine aD h fun g0 h=>(yaC ?_);exact aT (z.getD (g.toNat) (0:Nat)) h rfl xAb
    ·refine cH h (fun hc h=>?_) fun hc h=>?_
     ·replace h:=yaG (J _ (aA h));exact zaD
     ·exact aT (0:Nat) h rfl xAb
   ·rintro N h;simp only[go_sem];replace h:sat (vJ F g f carry_12 N) _:=h;unfold vJ at h;refine aD h fun g0 h=>(yaC ?_);refine aD h fun g0 h=>(yaC ?_);refine aD h fun g0 h=>(yaC ?_);refine aK h fun g0 h=>?_;replace h:=O _ (aA h);exact zaI
  ·replace h:=yaG (J _ (aA h));exact zaD
theorem bBp[Mx]:FOK Tryz.prog GL 152 aG3:=jY (bBo none) (fun⟨g,x1,u⟩ ⟨w0,f,q⟩ hp=>aY0 g w0 x1 f hp)
def aSo:PlR:=⟨[(0,.A [0]),(1,.B [2])],[],[]⟩
@[go_sem]def aNT:Ty:=.pair wi .unit
@[go_sem]def aBY:aF:=⟨aNT,.one wi,fun x=>pSz x.1,fun x=>qZ x.1⟩
def bBq(F:Md):aF:=mSpec aNT (.one wi) (fun x=>aGc F x.1)
abbrev aNU(F:Md):List (FuncId×aF):=[(142,dY),(148,jD)]
theorem bC5[Mx](F:Md):bF Tryz.prog GL (aNU F):=.cons rN xN (.cons zX xN (.nil))
attribute [go_sem] aSo
theorem bBr[Mx](F:Md):FOK Tryz.prog GL 153 (bBq F):=by
 refine bP (bA (bC5 F)) mix Tryz.func153 rfl xN xAa aSo (fun w0 S x Θ g h hV=>?_);obtain⟨(f:qc),u⟩:=x;simp only[cA,go_sem];replace h:sat (aGc F f) _:=h;unfold aGc at h;refine aK h fun g0 h=>?_;exact zaF
theorem aSp[Mx]:FOK Tryz.prog GL 153 aBY:=jY (bBr none) (fun⟨f,u⟩ ⟨w0,g⟩ hp=>aY1 f w0 hp)
def aO5:PlR:=⟨[(0,.A [0,1]),(1,.B [0,1,5]),(2,.A [1,5,20,21,22]),(3,.A [1,5,20,21,22,23]),(4,.A [1,5,6,7,20,21,22]),(5,.A [1,5,6,7,8,20,21,22]),(6,.A [1,5,6,7,8,20,21,22,27,28,29]),(7,.A [1,5,6,7,8,20,21,22,27,28,29,30]),(8,.A [1,5,6,7,8,9,10,20,21,22,27,28,29]),(9,.A [1,5,6,7,8,9,11,12,20,21,22,27,28,29]),(10,.A [1,5,6,7,8,9,11,12,20,21,22,27,28,29]),(11,.A [1,5,6,7,9,11,12,13,20,21,22,27,28,29]),(12,.A [1,5,6,7,9,11,12,20,21,22,27,28,29]),(13,.B [1,5,6,7,11,13,20,21,22,27,28,29]),(14,.A [1,5,6,7,8,20,21,22,27,28,29]),(15,.A [1,5,6,7,8,20,21,22,27,28,29]),(16,.B [1,5,20,21,22]),(17,.A [1,5,20,21,22]),(18,.B [4])],[(9,19)],[]⟩
@[go_sem]def aLb:Ty:=.pair wi vl
@[go_sem]def jN:aF:=⟨aLb,.one wi,fun x=>aSW x.1 x.2.1,fun x=>dE x.1 x.2.1⟩
def aZf(F:Md):aF:=mSpec aLb (.one wi) (fun x=>aEi F x.1 x.2.1)
abbrev aG4(F:Md):List (FuncId×aF):=[(148,jD),(150,yJ),(151,sF)]
theorem bBs[Mx](F:Md):bF Tryz.prog GL (aG4 F):=.cons zX xN (.cons aMV xN (.nat aHr (.nil)))
attribute [go_sem] aO5
theorem aZg[Mx](F:Md):FOK Tryz.prog GL 105 (aZf F):=by
 refine bP (bA (bBs F)) mix Tryz.func105 rfl xN xAa aO5 (fun w0 S x Θ hw h hV=>?_);obtain⟨(L:qc),(q:qc),u⟩:=x;simp only[cA,go_sem];replace h:sat (aEi F L q) _:=h;unfold aEi at h;refine aD h fun g0 h=>(yaC ?_);refine aD h fun g0 h=>?_;refine aD h fun g1 h=>(yaC ?_);refine bQ hV (D:=Int×qc) [1,20,21] (fun d=>[(5,.own 0),(22,.val qg d.1)]) (fun d=>[.inr (.row 165 qw d.2)]) h rfl xAb ?_;rintro⟨f,J⟩ Z T3 U O h;simp only[go_sem];replace h:sat (sZ F L q f J) _:=h;unfold sZ at h;refine dU h (fun hc h=>?_) fun hc h=>?_
 ·refine aD h fun g0 h=>(yaC ?_);refine dD hV (D:=Nat×qc) (fun d=>sat (zT F f q d.1 d.2) T3) [1,6,20,21,22] (fun d=>[(5,.own 0),(8,.val qw d.1)]) (fun d=>[.inr (.row 165 qw d.2)]) ?_ ?_
  ·simp only[go_sem];refine bQ hV (D:=Nat×Int×qc) [1,6,7,20,21,22,27,28] (fun d=>[(5,.own 0),(8,.val qw d.1),(29,.val qg d.2.1)]) (fun d=>[.inr (.row 165 qw d.2.2)]) h rfl xAb ?_;rintro⟨carry_64,I,g⟩ A7 T7 Y N h;simp only[go_sem];replace h:sat (sY F q L f carry_64 I g) _:=h;unfold sY at h;refine dU h (fun hc h=>?_) fun hc h=>?_
   ·refine aD h fun g0 h=>(yaC ?_);refine aD h fun g0 h=>(yaC ?_);refine aD h fun g0 h=>(yaC ?_);refine aD h fun g0 h=>(yaC ?_);refine aD h fun g0 h=>(yaC ?_);refine aD h fun g0 h=>(yaC ?_);refine aD h fun g0 h=>(yaC ?_);refine aD h fun g0 h=>(yaC ?_);replace h:=Y _ (aA h);exact zaI
   ·replace h:=yaG (N _ (aA h));exact aT (carry_64,g) h rfl xAb
  ·rintro⟨carry_62,z⟩ h;simp only[go_sem];replace h:sat (zT F f q carry_62 z) _:=h;unfold zT at h;refine aD h fun g0 h=>(yaC ?_);refine aD h fun g0 h=>(yaC ?_);refine aD h fun g0 h=>?_;(try simp only[I64,I32] at g0);(repeat (refine⟨zAB,?_⟩));replace h:=U _ (aA h);exact zaI
 ·replace h:=yaG (O _ (aA h));exact zaD
theorem aAp[Mx]:FOK Tryz.prog GL 105 jN:=jY (aZg none) (fun⟨g,x1,u⟩ ⟨w0,f,q⟩ hp=>aWL g w0 x1 f hp)
def aSq:PlR:=⟨[(0,.A [0,1]),(1,.A [0,1,10]),(2,.A [4]),(3,.B [0,1,5]),(4,.A [1,5,18,19,20]),(5,.A [1,5,18,19,20,21]),(6,.A [1,5,6,7,18,19,20]),(7,.B [1,5,6,7,18,19,20]),(8,.B [1,5,18,19,20]),(9,.A [1,5,18,19,20]),(10,.B [4])],[],[]⟩
@[go_sem]def aNV:Ty:=.pair wi qm
@[go_sem]def aBZ:aF:=⟨aNV,.one wi,fun x=>aX4 x.1 x.2.1,fun x=>kI x.1 x.2.1⟩
def bBt(F:Md):aF:=mSpec aNV (.one wi) (fun x=>aGd F x.1 x.2.1)
abbrev aVq(F:Md):List (FuncId×aF):=[(148,jD)]
theorem bC6[Mx](F:Md):bF Tryz.prog GL (aVq F):=.cons zX xN (.nil)
attribute [go_sem] aSq
theorem bBu[Mx](F:Md):FOK Tryz.prog GL 146 (bBt F):=by
 refine bP (bA (bC6 F)) mix Tryz.func146 rfl xN xAa aSq (fun w0 S x Θ N h hV=>?_);obtain⟨(q:qc),(z:Int),u⟩:=x;simp only[cA,go_sem];replace h:sat (aGd F q z) _:=h;unfold aGd at h;refine cH h (fun hc h=>?_) fun hc h=>?_
 ·exact aG hV [.tmp 4] rfl rfl rfl (aA h) xAc
 ·refine aD h fun g0 h=>?_;try simp only[I64,I32] at g0
  repeat (refine⟨zAA,?_⟩)
  refine aD h fun g0 h=>?_;try simp only[I64,I32] at g0
  repeat (refine⟨zAA,?_⟩)
  refine aD h fun g0 h=>?_;try simp only[I64,I32] at g0
  repeat (refine⟨zAA,?_⟩)
  refine aD h fun g0 h=>?_;refine aD h fun g1 h=>?_;repeat (refine⟨zAA,?_⟩)
  refine bQ hV (D:=Int×qc) [1,18,19] (fun d=>[(5,.own 0),(20,.val qg d.1)]) (fun d=>[.inr (.row 165 qw d.2)]) h rfl xAb ?_;rintro⟨g,f⟩ L T5 J I h;simp only[go_sem];replace h:sat (vM F q z g f) _:=h;unfold vM at h;refine dU h (fun hc h=>?_) fun hc h=>?_
  ·refine aD h fun g0 h=>?_;(repeat (refine⟨zAA,?_⟩));refine aD h fun g0 h=>?_;(try simp only[I64,I32] at g0);(repeat (refine⟨zAA,?_⟩));refine aD h fun g0 h=>?_;(try simp only[I64,I32] at g0);(repeat (refine⟨zAA,?_⟩));refine aD h fun g0 h=>?_;(repeat (refine⟨zAA,?_⟩));refine aD h fun g0 h=>?_;(repeat (refine⟨zAA,?_⟩));refine aD h fun g0 h=>?_;(try simp only[I64,I32] at g0);(repeat (refine⟨zAA,?_⟩));refine aD h fun g0 h=>?_;(try simp only[I64,I32] at g0);(repeat (refine⟨zAA,?_⟩));refine aD h fun g0 h=>?_;(try simp only[I64,I32] at g0);(repeat (refine⟨zAA,?_⟩));refine aD h fun g0 h=>?_;(repeat (refine⟨zAA,?_⟩));refine aD h fun g0 h=>?_;(try simp only[I64,I32] at g0);(repeat (refine⟨zAA,?_⟩));refine aD h fun g0 h=>?_;(repeat (refine⟨zAA,?_⟩));refine aD h fun g0 h=>?_;(try simp only[I64,I32] at g0);(repeat (refine⟨zAA,?_⟩));replace h:=J _ (aA h);exact zaq
  ·replace h:=yaG (I _ (aA h));exact zaD
theorem aSr[Mx]:FOK Tryz.prog GL 146 aBZ:=jY (bBu none) (fun⟨g,x1,u⟩ ⟨w0,f,q⟩ hp=>aY3 g w0 x1 f hp)
def aO6:PlR:=⟨[(0,.A [0,1]),(1,.A [0,1,12]),(2,.A [4]),(3,.A [0,1]),(4,.B [0,1,5]),(5,.A [0,1,5,20,21,22]),(6,.A [0,1,5,20,21,22,23]),(7,.A [0,1,5,6,7,20,21,22]),(8,.B [0,1,5,6,20,21,22]),(9,.A [0,1,5,6,20,21,22,39]),(10,.C 17 [0,1,5,20,21,22]),(11,.A [0,1,5,20,21,22]),(12,.B [4])],[],[]⟩
@[go_sem]def aLc:Ty:=.pair wi qm
@[go_sem]def aAq:aF:=⟨aLc,.one wi,fun x=>aY4 x.1 x.2.1,fun x=>wV x.1 x.2.1⟩
def aZh(F:Md):aF:=mSpec aLc (.one wi) (fun x=>aEj F x.1 x.2.1)
abbrev aSs(F:Md):List (FuncId×aF):=[(148,jD)]
theorem bBv[Mx](F:Md):bF Tryz.prog GL (aSs F):=.cons zX xN (.nil)
attribute [go_sem] aO6
theorem aZi[Mx](F:Md):FOK Tryz.prog GL 149 (aZh F):=by
 refine bP (bA (bBv F)) mix Tryz.func149 rfl xN xAa aO6 (fun w0 S x Θ Z h hV=>?_);obtain⟨(z:qc),(I:Int),u⟩:=x;simp only[cA,go_sem];replace h:sat (aEj F z I) _:=h;unfold aEj at h;refine aD h fun g0 h=>?_;try simp only[I64,I32] at g0
 repeat (refine⟨zAB,?_⟩)
 refine aYP h (fun hc h=>?_) fun hc h=>?_
 ·exact aG hV [.tmp 4] rfl rfl rfl (aA h) xAc
 ·refine aD h fun g0 h=>?_;refine aD h fun g1 h=>?_;try simp only[I64,I32] at g0
  repeat (refine⟨zAB,?_⟩)
  refine aD h fun g0 h=>?_;refine aD h fun g1 h=>(yaD ?_);refine bQ hV (D:=Int×qc) [0,1,20,21] (fun d=>[(5,.own 0),(22,.val qg d.1)]) (fun d=>[.inr (.row 165 qw d.2)]) h rfl xAb ?_;rintro⟨g,f⟩ O U q J h;simp only[go_sem];replace h:sat (tA F I z g f) _:=h;unfold tA at h;refine dU h (fun hc h=>?_) fun hc h=>?_
  ·refine aD h fun g0 h=>(yaD ?_);refine aD h fun g0 h=>(yaD ?_);refine aD h fun g0 h=>?_;(try simp only[I64,I32] at g0);(repeat (refine⟨zAB,?_⟩));refine⟨fun hc=>?_,fun hc=>?_⟩
   ·replace h:=gZ hc h;refine⟨by kernel_rfl,?_⟩;refine aD h fun g0 h=>?_;refine aD h fun g1 h=>?_;refine aD h fun Y h=>?_;refine aD h fun L h=>?_;refine aD h fun N h=>?_;(try simp only[I64,I32] at g1);(try simp only[I64,I32] at L);(repeat (refine⟨zAB,?_⟩));refine aD h fun g0 h=>?_;(try simp only[I64,I32] at g0);(repeat (refine⟨zAB,?_⟩));replace h:=q _ (aA h);exact zaq
   ·replace h:=hO (by first|exact hc|omega) h;refine aD h fun g0 h=>?_;(try simp only[I64,I32] at g0);(repeat (refine⟨zAB,?_⟩));replace h:=q _ (aA h);exact zaI
  ·replace h:=yaG (J _ (aA h));exact zaD
theorem aO7[Mx]:FOK Tryz.prog GL 149 aAq:=jY (aZi none) (fun⟨g,x1,u⟩ ⟨w0,f,q⟩ hp=>aWM g w0 x1 f hp)
def aMW:PlR:=⟨[(0,.A [0,1,2]),(1,.A [0,1,2,20]),(2,.stop),(3,.A [0,1,2,24]),(4,.stop),(5,.A [0,1,2,27]),(6,.A [6,7]),(7,.A [0,1,2,8]),(8,.A [0,1,2,8]),(9,.A [0,1,2,8,9]),(10,.A [0,1,2,8,9,10]),(11,.A [1,2,8,9,10,11]),(12,.A [2,8,9,10,11,12]),(13,.A [2,8,9,10,11,12,13]),(14,.A [2,8,9,10,11,13,14]),(15,.A [2,8,9,10,11,13,14,15]),(16,.A [2,8,9,10,11,13,14,15,16]),(17,.A [2,8,9,10,11,13,14,15,16,78]),(18,.A [2,8,9,10,11,13,14,15,16]),(19,.A [2,8,9,10,11,13,14,15,16]),(20,.A [2,8,9,10,11,13,14,15,16,85]),(21,.A [2,8,9,10,14,15,17]),(22,.A [2,8,9,10,14,15,17,18]),(23,.A [2,8,9,10,14,15,16,17,18]),(24,.A [2,8,9,10,14,15,16,17,18,113]),(25,.A [2,8,9,10,14,15,16,17,18]),(26,.A [2,8,9,10,14,15,16,17,18]),(27,.A [2,8,9,10,14,15,16,17,18,120]),(28,.A [6,7])],[(20,24),(27,31)],[]⟩
@[go_sem]def aJf:Ty:=.pair qw wv
@[go_sem]def yK:aF:=⟨aJf,.tup wv,fun x=>aFj x.1 x.2.1 x.2.2.1,fun x=>rP x.1 x.2.1 x.2.2.1⟩
def aWT(F:Md):aF:=mSpec aJf (.tup wv) (fun x=>aCB F x.1 x.2.1 x.2.2.1)
abbrev aO8(F:Md):List (FuncId×aF):=[(144,gM)]
theorem aZj[Mx](F:Md):bF Tryz.prog GL (aO8 F):=.cons xC xN (.nil)
attribute [go_sem] aMW
theorem aWU[Mx](F:Md):FOK Tryz.prog GL 186 (aWT F):=by
 refine bP (bA (aZj F)) mix Tryz.func186 rfl xN xAa aMW (fun w0 S x Θ hw h hV=>?_);obtain⟨(z:Nat),(f:Nat),(J:Nat),u⟩:=x;simp only[cA,go_sem];replace h:sat (aCB F z f J) _:=h;unfold aCB at h;refine cH h (fun hc h=>?_) fun hc h=>?_
 ·exact aCv h
 ·refine cH h (fun hc h=>?_) fun hc h=>?_
  ·exact aCv h
  ·refine cH h (fun hc h=>?_) fun hc h=>?_
   ·refine aK h fun g0 h=>aK h fun g1 h=>?_;exact aG hV [.tmp 6,.tmp 7] rfl rfl rfl (aA h) xAe
   ·refine aK h fun g0 h=>?_;refine dD hV (D:=Nat) (fun d=>sat (xX F J f z d) Θ) [2,8,9,10,11,13,14] (fun d=>[(15,.val qw d)]) (fun d=>[]) ?_ ?_
    ·simp only[go_sem,bJ F,bK F,bL F];refine bQ hV (D:=Nat×Nat) [2,8,9,10,11,13,14] (fun d=>[(15,.val qw d.1),(16,.val qw d.2)]) (fun d=>[]) h rfl xAd ?_;rintro⟨g,N⟩ A17 T17 Z U h;simp only[go_sem,bJ F,bK F,bL F];replace h:sat (mL F f J g N) _:=h;unfold mL at h;refine⟨fun hc=>?_,fun hc=>?_⟩
     ·replace h:=gZ hc h;refine cH h (fun hc h=>?_) fun hc h=>?_
      ·replace h:=yaG (U _ (aA h));exact aT (wQ F .u64 g (1:Nat)) h rfl xAd
      ·replace h:=Z _ (aA h);exact zal
     ·replace h:=hO hc h;replace h:=yaG (U _ (aA h));exact aT (g) h rfl xAd
    ·rintro I h;simp only[go_sem,bJ F,bK F,bL F];replace h:sat (xX F J f z I) _:=h;unfold xX at h;refine aK h fun g0 h=>?_;refine dD hV (D:=Nat) (fun d=>sat (xW F I z J f d) Θ) [2,8,14,15,17] (fun d=>[(18,.val qw d)]) (fun d=>[]) ?_ ?_
     ·simp only[go_sem,bJ F,bK F,bL F];refine bQ hV (D:=Nat×Nat) [2,8,9,10,14,15,17] (fun d=>[(16,.val qw d.1),(18,.val qw d.2)]) (fun d=>[]) h rfl xAd ?_;rintro⟨L,q⟩ A24 T24 hA24 Y h;simp only[go_sem,bJ F,bK F,bL F];replace h:sat (mK F f J L q) _:=h;unfold mK at h;refine⟨fun hc=>?_,fun hc=>?_⟩
      ·replace h:=gZ hc h;refine cH h (fun hc h=>?_) fun hc h=>?_
       ·replace h:=yaG (Y _ (aA h));exact aT (wQ F .u64 q (1:Nat)) h rfl xAd
       ·replace h:=hA24 _ (aA h);exact zal
      ·replace h:=hO hc h;replace h:=yaG (Y _ (aA h));exact aT (q) h rfl xAd
     ·rintro O h;simp only[go_sem,bJ F,bK F,bL F];replace h:sat (xW F I z J f O) _:=h;unfold xW at h;exact aG hV [.tmp 6,.tmp 7] rfl rfl rfl (aA h) xAe
theorem aMX[Mx]:FOK Tryz.prog GL 186 yK:=jY (aWU none) (fun⟨q,x1,z,u⟩ ⟨w0,f,g,I⟩ hp=>aVe q w0 x1 f z g hp)
def aO9:PlR:=⟨[(0,.stop),(1,.stop),(2,.stop),(3,.stop),(4,.stop),(5,.stop),(6,.stop),(7,.stop)],[(6,10)],[]⟩
@[go_sem]def aLd:Ty:=.pair wi (.pair qw .unit)
@[go_sem]def aFm:aF:=⟨aLd,.tup (.pair wi vl),fun x=>aK8 x.1 x.2.1,fun x=>aBV x.1 x.2.1⟩
def aZk(F:Md):aF:=mSpec aLd (.tup (.pair wi vl)) (fun x=>aEk F x.1 x.2.1)
abbrev aLe(F:Md):List (FuncId×aF):=[(148,jD),(186,yK)]
theorem bBw[Mx](F:Md):bF Tryz.prog GL (aLe F):=.cons zX xN (.cons aMX xN (.nil))
attribute [go_sem] aO9
theorem aZl[Mx](F:Md):FOK Tryz.prog GL 143 (aZk F):=by
 refine bP (bA (bBw F)) mix Tryz.func143 rfl xN xAa aO9 (fun w0 S x Θ O h hV=>?_);obtain⟨(J:qc),(L:Nat),u⟩:=x;simp only[cA,go_sem];replace h:sat (aEk F J L) _:=h;unfold aEk at h;refine vI hV [0,1] (yaA ?_);refine aU3 hV [0,1,6] (yaA ?_);refine aD h fun g0 h=>?_;refine aD h fun g1 h=>(yaC ?_);refine vI hV [0,1,6,7] (yaA ?_);refine dD hV (D:=Nat×qc) (fun d=>sat (zU F d.1 d.2) Θ) [] (fun d=>[(6,.own 0),(7,.val qw d.1)]) (fun d=>[.inr (.row 165 qw d.2)]) ?_ ?_
 ·simp only[go_sem];refine vI hV [0,1,6,7,8] (yaA ?_);refine aD h fun g0 h=>(yaC ?_);refine bQ hV (D:=Nat×Int×qc) [0,1] (fun d=>[(6,.own 0),(7,.val qw d.1),(8,.val qg d.2.1)]) (fun d=>[.inr (.row 165 qw d.2.2)]) h rfl xAb ?_;rintro⟨f,z,q⟩ N T4 hA4 hE4 h;simp only[go_sem];replace h:sat (tB F J L f z q) _:=h;unfold tB at h;refine vI hV [0,1,6,7,8,16] (yaA ?_);refine aYP h (fun hc h=>?_) fun hc h=>?_
  ·refine aU3 hV [0,1,6,7,8] (yaA ?_);refine aD h fun g0 h=>(yaC ?_);refine aD h fun g0 h=>(yaC ?_);refine aD h fun g0 h=>(yaC ?_);refine vI hV [0,1,6,7,8] (yaA ?_);refine aD h fun g0 h=>(yaC ?_);replace h:=hA4 _ (aA h);exact zaI
  ·replace h:=yaG (hE4 _ (aA h));exact aT (f,q) h rfl xAb
 ·rintro⟨g,I⟩ h;simp only[go_sem];replace h:sat (zU F g I) _:=h;unfold zU at h;refine aU3 hV [4,5] (yaA ?_);exact aG hV [.tmp 4,.tmp 5] rfl rfl rfl (aA h) xAc
theorem aZm[Mx]:FOK Tryz.prog GL 143 aFm:=jY (aZl none) (fun⟨g,x1,u⟩ ⟨w0,f,q⟩ hp=>aWN g w0 x1 f hp)
end
end Nu
end Go.Proofs

