import Derived.Test.YtmhjkbdicaelbaaGreatDoorZL5
import Derived.Test.YtmhjkbdicaelbaaGreatDoorProg
import Derived.KernelRfl
import Derived.Laws.Externs
import Derived.Lib.TrailingZeros
set_option linter.unusedVariables false
set_option linter.unusedSimpArgs false
namespace Go.Proofs
open Go.Vc
set_option maxRecDepth 20000
namespace Nu
noncomputable section
theorem xAa{p:Prop}(h:p:=by kernel_rfl):p:=h
theorem xAb{p:Prop}(h:p:=by decide):p:=h
theorem xAc{p:Prop}(h:p:=by simp only[go_sem]):p:=h
theorem xAd{p:Prop}(h:p:=by simp only[aQ,go_sem]):p:=h
theorem xAe{p:Prop}(h:p:=by simp only[go_sem,aR F,aS F,aT F]):p:=h
theorem xAf{p:Prop}(h:p:=by simp only[aQ,go_sem,aR F,aS F,aT F]):p:=h
theorem xAg{p:Prop}(h:p:=by simp):p:=h
abbrev qd:=List Nat
@[go_sem]abbrev qi:Ty:=.i .i64
abbrev qj:=List qd
@[go_sem]abbrev qk:Ty:=.u .u64
abbrev qm:=qd×(qd×Unit)
@[go_sem]abbrev qo:Ty:=.pair qi .unit
abbrev qq:=qd×(Ex×Unit)
abbrev qr:=List (qd×(qd×qm))
abbrev qt:=Int×Unit
@[go_sem]abbrev qu:Ty:=.sl qk
abbrev qv:=qd×(qm×(Ex×Unit))
@[go_sem]abbrev qw:Ty:=.u .u8
@[go_sem]abbrev qx:Ty:=.sl .str
@[go_sem]abbrev q8:Ty:=.pair .str (.pair .expr .unit)
abbrev q9:=Int×Int
abbrev wc:=Bool×qd
@[go_sem]abbrev wd:Ty:=.pair qk (.pair qk .unit)
abbrev we:=qd×(qm×Unit)
@[go_sem]abbrev wg:Ty:=.u .u32
@[go_sem]abbrev wi:Ty:=.pair .str .unit
abbrev wk:=Int×(Unit×Unit)
abbrev wm:=Nat×Int×qd
@[go_sem]abbrev wo:Ty:=.pair .bool .unit
abbrev wq:=Int×Bool×qd
abbrev wt:=List Bool
abbrev wv:=List Nat×List Nat
abbrev ww:=Int×qd
abbrev vf:=qd×Int
abbrev vg:=Nat×qd
abbrev vh:=qj×Unit
@[go_sem]abbrev vi:Ty:=.pair (.rp qx) .unit
@[go_sem]abbrev vj:Ty:=.pair qu .unit
abbrev vl:=Bool×Unit
abbrev qf:=qd×((List qv)×((List we)×(qj×((List qq)×Unit))))
@[go_sem]abbrev qg:Ty:=.pair .bool (.pair qu qo)
abbrev qh:=Bool×(qd×qt)
@[go_sem]abbrev qn:Ty:=.pair .str wi
@[go_sem]abbrev qp:Ty:=.sl wg
abbrev qy:=Int×vl
abbrev qz:=qj×(qj×vh)
@[go_sem]abbrev wj:Ty:=.pair .str (.pair .str qn)
@[go_sem]abbrev wz:Ty:=.pair .bool (.pair qp qo)
@[go_sem]abbrev vd:Ty:=.pair .str (.pair qn (.pair .expr .unit))
@[go_sem]abbrev ve:Ty:=.pair qg qo
abbrev vm:=qh×qt
abbrev qa:=Int×(Int×(Int×(Int×(qd×(qd×(qd×(qd×((List qf)×(qr×Unit)))))))))
@[go_sem]abbrev qc:Ty:=.pair .str (.pair (.sl vd) (.pair (.sl (.pair .str (.pair qn .unit))) (.pair qx (.pair (.sl q8) .unit))))
@[go_sem]abbrev qe:Ty:=.pair qi (.pair qi (.pair qi (.pair qi (.pair .str (.pair .str (.pair .str (.pair .str (.pair (.sl qc) (.pair (.sl wj) .unit)))))))))
@[go_sem]theorem gam_in{a b:FuncId}{s:aH}{l:List (FuncId×aH)}:gam ((a,s)::l) b=if a=b then some s else gam l b:=rfl
structure Hq(p:Prop):Prop where
 a:p
theorem yaA {p q:Prop} (a:q) (h:Hq q→p:=by
 intro hq;simp only[go_sem];exact hq.a):p:=h ⟨a⟩
theorem yaB {p q:Prop} (a:q) (h:Hq q→p:=by
 intro hq;repeat (refine⟨zAE,?_⟩)
 exact hq.a):p:=h ⟨a⟩
theorem yaC {p q:Prop} (a:q) (h:Hq q→p:=by
 intro hq;repeat (refine⟨zAB,?_⟩)
 exact hq.a):p:=h ⟨a⟩
theorem yaD {p q:Prop} (a:q) (h:Hq q→p:=by
 intro hq;repeat (refine⟨zAC,?_⟩)
 exact hq.a):p:=h ⟨a⟩
theorem yaE {p q:Prop} (a:q) (h:Hq q→p:=by
 intro hq;simp only[ren,lW,xV,posOf,jD,go_sem];exact hq.a):p:=h ⟨a⟩
theorem yaF {p q:Prop} (a:q) (h:Hq q→p:=by
 intro hq;repeat (refine⟨zAF,?_⟩)
 exact hq.a):p:=h ⟨a⟩
theorem yaG {p q:Prop} (a:q) (h:Hq q→p:=by
 intro hq;repeat (refine⟨zAG,?_⟩)
 exact hq.a):p:=h ⟨a⟩
theorem yaH {p q:Prop} (h:p) (t:p→q:=by
 intro h;try dsimp only at h
 exact h):q:=t h
theorem zaA {p:Prop} (h:p:=by
 unfold bG;intro i hi;have hi:i=7∨i=8:=by revert hi; revert i; decide
 rcases hi with rfl|rfl
 ·simp only[go_sem];repeat (refine⟨zAC,?_⟩)
  unfold bG;intro i hi;have hi:i=8:=by revert hi; revert i; decide
  subst hi;simp only[go_sem];repeat (refine⟨zAC,?_⟩)
  unfold bG;intro i hi;have hi:i=9:=by revert hi; revert i; decide
  subst hi;simp only[go_sem];repeat (refine⟨zAC,?_⟩)
  (simp only[bG,go_sem])<;>first|exact⟨rfl,rfl⟩|(simp[hc]; done)|trivial
 ·simp only[go_sem];repeat (refine⟨zAC,?_⟩)
  unfold bG;intro i hi;have hi:i=7:=by revert hi; revert i; decide
  subst hi;simp only[go_sem];repeat (refine⟨zAC,?_⟩)
  unfold bG;intro i hi;have hi:i=9:=by revert hi; revert i; decide
  subst hi;simp only[go_sem];repeat (refine⟨zAC,?_⟩)
  (simp only[bG,go_sem])<;>first|exact⟨rfl,rfl⟩|(simp[hc]; done)|trivial):p:=h
theorem zaB {p:Prop} (h:p:=by
 exact aE hV [.tmp 2] rfl rfl rfl (aA h) xAd):p:=h
theorem zaC {p:Prop} (h:p:=by
 unfold bG;intro i hi;have hi:i=6∨i=8:=by revert hi; revert i; decide
 rcases hi with rfl|rfl
 ·simp only[go_sem];refine⟨fun _=>(yaD ?_),fun q=>absurd q (by simp[hc])⟩;exact zaA
 ·simp only[go_sem];repeat (refine⟨zAC,?_⟩)
  unfold bG;intro i hi;have hi:i=6:=by revert hi; revert i; decide
  subst hi;simp only[go_sem];refine⟨fun _=>(yaD ?_),fun q=>absurd q (by simp[hc])⟩;unfold bG;intro i hi;have hi:i=7:=by revert hi; revert i; decide
  subst hi;simp only[go_sem];repeat (refine⟨zAC,?_⟩)
  unfold bG;intro i hi;have hi:i=9:=by revert hi; revert i; decide
  subst hi;simp only[go_sem];repeat (refine⟨zAC,?_⟩)
  (simp only[bG,go_sem])<;>first|exact⟨rfl,rfl⟩|(simp[hc]; done)|trivial):p:=h
theorem zaD {p:Prop} (h:p:=by
 unfold bG;intro i hi;have hi:i=6∨i=8:=by revert hi; revert i; decide
 rcases hi with rfl|rfl
 ·simp only[go_sem];refine⟨fun q=>absurd q (by simp[hc]),fun _=>?_⟩;exact zaA
 ·simp only[go_sem];repeat (refine⟨zAC,?_⟩)
  unfold bG;intro i hi;have hi:i=6:=by revert hi; revert i; decide
  subst hi;simp only[go_sem];refine⟨fun q=>absurd q (by simp[hc]),fun _=>?_⟩;unfold bG;intro i hi;have hi:i=7:=by revert hi; revert i; decide
  subst hi;simp only[go_sem];repeat (refine⟨zAC,?_⟩)
  unfold bG;intro i hi;have hi:i=9:=by revert hi; revert i; decide
  subst hi;simp only[go_sem];repeat (refine⟨zAC,?_⟩)
  (simp only[bG,go_sem])<;>first|exact⟨rfl,rfl⟩|(simp[hc]; done)|trivial):p:=h
theorem zaE {p:Prop} (h:p:=by
 exact aE hV [.tmp 4] rfl rfl rfl (aA h) xAd):p:=h
theorem zaF {p:Prop} (h:p:=by
 exact aK _ h rfl xAc):p:=h
theorem zaG {p:Prop} (h:p:=by
 repeat (refine⟨zAC,?_⟩)
 unfold bG;intro i hi;have hi:i=4:=by revert hi; revert i; decide
 subst hi;simp only[go_sem];refine⟨fun _=>(yaD ?_),fun q=>absurd q (by simp[hc])⟩;unfold bG;intro i hi;have hi:i=5:=by revert hi; revert i; decide
 subst hi;simp only[go_sem];refine⟨fun _=>(yaD ?_),fun q=>absurd q (by simp[hc])⟩;exact zaC):p:=h
theorem zaH {p:Prop} (h:p:=by
 subst hi;simp only[go_sem];skip;unfold anyS;intro i hi;have hi:i=4:=by revert hi; revert i; decide
 subst hi;simp only[go_sem];skip
 (simp only[anyS,go_sem])<;>first|exact⟨rfl,rfl⟩|trivial):p:=h
theorem zaI {p:Prop} (h:p:=by
 repeat (refine⟨zAC,?_⟩)
 unfold bG;intro i hi;have hi:i=4:=by revert hi; revert i; decide
 subst hi;simp only[go_sem];refine⟨fun q=>absurd q (by simp[hc]),fun _=>?_⟩;unfold bG;intro i hi;have hi:i=5:=by revert hi; revert i; decide
 subst hi;simp only[go_sem];refine⟨fun q=>absurd q (by simp[hc]),fun _=>?_⟩;exact zaD):p:=h
theorem zaJ {p:Prop} (h:p:=by
 refine bP h (fun hc h=>?_) fun hc h=>?_
 ·refine aG h fun g0 h=>?_;refine bS h (fun hc h=>?_) fun hc h=>?_
  ·replace h:=yaH (hE2 _ (aA h));exact zaE
  ·refine aG h fun g0 h=>?_;replace h:=hA2 _ (aA h);exact zaF
 ·replace h:=yaH (hE2 _ (aA h));exact zaE):p:=h
theorem zaK {p:Prop} (h:p:=by
 exact aK _ h rfl xAe):p:=h
theorem zaL {p:Prop} (h:p:=by
 (try simp only[aQ,aIP,aHz,kN,uS,AV.isAgg,go_sem])<;>first|trivial|rfl|(simp; done)):p:=h
theorem zaM {p:Prop} (h:p:=by
 unfold bG;intro i hi;have hi:i=0∨i=7:=by revert hi; revert i; decide
 rcases hi with rfl|rfl
 ·simp only[go_sem];repeat (refine⟨zAC,?_⟩)
  exact zaA
 ·simp only[go_sem];repeat (refine⟨zAC,?_⟩)
  unfold bG;intro i hi;have hi:i=0:=by revert hi; revert i; decide
  subst hi;simp only[go_sem];repeat (refine⟨zAC,?_⟩)
  unfold bG;intro i hi;have hi:i=8:=by revert hi; revert i; decide
  subst hi;simp only[go_sem];repeat (refine⟨zAC,?_⟩)
  unfold bG;intro i hi;have hi:i=9:=by revert hi; revert i; decide
  subst hi;simp only[go_sem];repeat (refine⟨zAC,?_⟩)
  (simp only[bG,go_sem])<;>first|exact⟨rfl,rfl⟩|(simp[hc]; done)|trivial):p:=h
theorem zaN {p:Prop} (h:p:=by
 refine bP h (fun hc h=>?_) fun hc h=>?_
 ·refine aG h fun g0 h=>?_;refine aD h fun v_27 hv h=>?_;try simp only[hv,go_sem]
  refine aFb h (fun hc h=>?_) fun hc h=>?_
  ·replace h:=yaH (hE2 _ (aA h));exact zaE
  ·refine aG h fun g0 h=>?_;replace h:=hA2 _ (aA h);exact zaF
 ·replace h:=yaH (hE2 _ (aA h));exact zaE):p:=h
theorem zaO {p:Prop} (h:p:=by
 refine aB h fun g0 h=>?_;refine aB h fun g1 h=>?_;try simp only[I64,I32] at g0
 repeat (refine⟨by first|with_reducible assumption|omega|(intros; first|with_reducible assumption|omega)|(intro _; exact⟨rfl,by decide⟩)|(intro _; refine(?_:_=aL _); rfl)|(refine(?_:_=aL _); rfl)|exact⟨rfl,rfl⟩|(intro q0 q1; (try have e0:=g0 zAI (by first|exact q1|omega|(simpa using q1))); (try have e1:=g1 zAI (by first|exact q1|omega|(simpa using q1))); first|assumption|omega)|(rintro⟨q0,q1⟩; (try have e0:=g0 zAI (by first|exact q1|omega|(simpa using q1))); (try have e1:=g1 zAI (by first|exact q1|omega|(simpa using q1))); first|assumption|omega)|decide,?_⟩)
 exact zaB):p:=h
theorem zaP {p:Prop} (h:p:=by
 obtain rfl:=iT h;refine aCY [] rfl rfl (yaE ?_);refine aBP rfl rfl rfl rfl):p:=h
theorem zaQ {p:Prop} (h:p:=by
 have h:=jZ zAD h;refine aO (aM hF [2] (yaA ?_));obtain rfl:=Option.some.inj h;refine aP (dL (eC (bU (dR hF [.tmp 2] rfl rfl rfl ?_))));exact zAK):p:=h
theorem zaR {p:Prop} (h:p:=by
 subst hi;simp only[go_sem];repeat (refine⟨zAA,?_⟩)
 unfold anyS;intro i hi;have hi:i=3:=by revert hi; revert i; decide
 subst hi;simp only[go_sem];repeat (refine⟨zAA,?_⟩)
 (simp only[anyS,go_sem])<;>first|exact⟨rfl,rfl⟩|trivial):p:=h
theorem zaS {p:Prop} (h:p:=by
 exact aE hV [.cell 2 74,.tmp 3] rfl rfl rfl (aA h) xAd):p:=h
theorem zaT {p:Prop} (h:p:=by
 refine aFb h (fun hc h=>?_) fun hc h=>?_
 ·exact aE hV [.tmp 2] rfl rfl rfl (aA h) xAd
 ·exact aE hV [.tmp 2] rfl rfl rfl (aA h) xAd):p:=h
theorem zaU {p:Prop} (h:p:=by
 refine aD h fun v_5 hv h=>?_;try simp only[hv,go_sem]
 exact zaB):p:=h
theorem zaV {p:Prop} (h:p:=by
 refine aO (aM hF [0,2] (yaA ?_));refine aP (aO (aO (aYA hF rfl rfl rfl fun b hb=>?_)));refine aP (cE rfl (fun hc=>?_) (fun hc=>?_))
 ·have hs:=hb hc;refine aO (aM hF [2] (yaA ?_));refine aP (dL (bU (dR hF [.tmp 2] rfl rfl rfl ?_)));simp only[gK,aQ,go_sem,hs];try trivial
 ·refine dA (aP (aO (dI hF [2] (yaA ?_))));refine⟨by omega,?_⟩;refine aP (dL (dR hF [.tmp 2] rfl rfl rfl ?_));simp only[gK,aQ,go_sem];try trivial):p:=h
theorem zaW {p:Prop} (h:p:=by
 try simp only[hv,go_sem]
 exact zaE):p:=h
theorem zaX {p:Prop} (h:p:=by
 rw[List.take_length] at hI;exact .ite (fun hh=>absurd hh (by omega)) fun _=>.ret hI):p:=h
theorem zaY {p:Prop} (h:p:=by
 skip;unfold anyS;intro i hi;have hi:i=2∨i=3:=by revert hi; revert i; decide
 rcases hi with rfl|rfl
 ·simp only[go_sem];skip;unfold anyS;intro i hi;have hi:i=3:=by revert hi; revert i; decide
  exact zaH
 ·simp only[go_sem];skip;unfold anyS;intro i hi;have hi:i=2:=by revert hi; revert i; decide
  exact zaH):p:=h
theorem zaZ {p:Prop} (h:p:=by
 exact aE hV [.tmp 2,.tmp 3,.tmp 4] rfl rfl rfl (aA h) xAd):p:=h
theorem zaa {p:Prop} (h:p:=by
 refine⟨hq,?_⟩;refine bB6 ?_;refine bFZ (fn:=Tryz.f133) (k:=2) (l2:=[0,1]) hF' rfl rfl xAb rfl (aKG xAa) ⟨oS q,[0,1],((false,([]:List Nat),(0:Int),()),0)⟩ (aJx q) rfl [.cell 2 74,.cell 3 3] rfl ?_ ?_
 ·(simp only[oS,go_sem])<;>first|decide|trivial
 ·(simp only[oS,aQ,gK,go_sem])<;>first|decide|trivial):p:=h
theorem zab {p:Prop} (h:p:=by
 refine aG h fun g0 h=>?_;exact zaB):p:=h
theorem zac {p:Prop} (h:p:=by
 exact .ite (fun hh=>absurd hh (by omega)) fun _=>.ret trivial):p:=h
theorem zad {p:Prop} (h:p:=by
 unfold dU;refine .ite (fun hh=>absurd hh (Int.lt_irrefl _)) fun _=>.ret ?_;rw[List.take_length] at hJ;show Met s k ((s.2.2.2.2.2.2.2.2.1.take (i.toNat+1)).flatMap kS);rw[eP (([]:List Nat),([]:List qv),([]:List we),([]:List qd),([]:List qq),()) hiN,List.flatMap_append,List.flatMap_singleton];exact hJ):p:=h
theorem zae {p:Prop} (h:p:=by
 repeat (refine⟨zAC,?_⟩)
 unfold bG;intro i hi;have hi:i=3:=by revert hi; revert i; decide
 subst hi;simp only[go_sem];exact zaG):p:=h
theorem zaf {p:Prop} (h:p:=by
 repeat (refine⟨zAC,?_⟩)
 unfold bG;intro i hi;have hi:i=3:=by revert hi; revert i; decide
 subst hi;simp only[go_sem];exact zaI):p:=h
theorem zag {p:Prop} (h:p:=by
 refine⟨hq,?_⟩;refine aP (dL ?_);refine bFY (fn:=Tryz.f133) (k:=2) (l2:=[0,1]) hF' rfl rfl xAb rfl (aKG xAa) ⟨oR,[0,1],(q,0)⟩ aJw rfl [.cell 2 74,.cell 3 3] rfl ?_ ?_
 ·(simp only[oR,go_sem])<;>first|decide|trivial
 ·(simp only[oR,aQ,gK,go_sem])<;>first|decide|trivial):p:=h
theorem zah {p:Prop} (h:p:=by
 refine aG h fun g0 h=>?_;replace h:=hA4 _ (aA h);refine fA [1] rfl rfl (yaA ?_);exact zaF):p:=h
theorem zai {p:Prop} (h:p:=by
 refine cE rfl (fun hc=>?_) (fun hc=>?_)
 ·try simp only[go_sem] at hc
  exact zaQ
 ·try simp only[go_sem] at hc
  have h:=iW zAD h;refine dA (iY (aP (aO (aM hF [2] (yaA ?_)))));obtain rfl:=Option.some.inj h;refine aP (dL (dR hF [.tmp 2] rfl rfl rfl ?_));exact zAK):p:=h
theorem zaj {p:Prop} (h:p:=by
 have hl:l.length≤1000:=by grind
 refine .ite (fun _=>.ck ⟨i0,hi⟩ (.ck (by omega) (.ck h64 (.ret ⟨rfl,?_⟩)))) fun hh=>absurd hi hh;rw[eP (([]:List Nat),(([]:List Nat),([]:List Nat),()),(Ex.mk 0 [] []),()) (show i.toNat<s.2.1.length by omega),List.map_append,← hI];rfl):p:=h
theorem zak {p:Prop} (h:p:=by
 have hl:l.length≤1000:=by
  grind
 refine .ite (fun _=>.ck ⟨i0,hi⟩ (.ck (by omega) (.ck h64 (.ret ⟨rfl,?_⟩)))) fun hh=>absurd hi hh;rw[eP (([]:List Nat),(Ex.mk 0 [] []),()) (show i.toNat<s.2.2.2.2.1.length by omega),List.map_append,← List.append_assoc,← hI];rfl):p:=h
theorem zal {p:Prop} (h:p:=by
 have hl:l.length≤1000:=by grind
 refine .ite (fun _=>.ck ⟨i0,hi⟩ (.ck (by omega) (.ck h64 (.ret ⟨rfl,?_⟩)))) fun hh=>absurd hi hh;rw[eP (([]:List Nat),(([]:List Nat),([]:List Nat),()),()) (show i.toNat<s.2.2.1.length by omega),List.map_append,← hI];rfl):p:=h
theorem zam {p:Prop} (h:p:=by
 unfold nmS at hx;rcases List.mem_append.1 hx with hx|hx
 ·obtain⟨a,ha,rfl⟩:=List.mem_map.1 hx;exact(h.x.2 a ha).1
 ·rcases List.mem_append.1 hx with hx|hx
  ·obtain⟨a,ha,rfl⟩:=List.mem_map.1 hx;exact(h.p.2 a ha).1
  ·exact h.u.2 x hx):p:=h
theorem zan {p:Prop} (h:p:=by
 try simp only[List.replicate,List.set,go_sem]
 repeat (refine⟨zAA,?_⟩)
 exact zaB):p:=h
theorem zao {p:Prop} (h:p:=by
 exact aK _ h rfl (by (try simp only[rY,kN,true_or,and_self,go_sem])<;>(repeat' apply And.intro)<;>first|rfl|(left; rfl)|(right; rfl)|(left; simp only[go_sem]; done)|(right; simp only[go_sem]; done)|(simp; done)|(simp only[*]; done)|omega)):p:=h
theorem zap {p:Prop} (h:p:=by
 refine aB h fun g0 h=>(yaB ?_);exact aE hV [.tmp 4] rfl rfl rfl (aA h) xAf):p:=h
theorem zaq {p:Prop} (h:p:=by
 rw[hk] at h3;rw[h3];rw[List.getD_eq_getElem?_getD,List.getD_eq_getElem?_getD,List.getElem?_eq_getElem hia,List.getElem?_eq_getElem hib] at he;have he:a[i.toNat]=b[i.toNat]:=he;rw[he]):p:=h
theorem zar {p:Prop} (h:p:=by
 replace h:=hA2 _ (aA h);exact zaF):p:=h
theorem zas {p:Prop} (h:p:=by
 replace h:=hA3 _ (aA h);exact zaF):p:=h
theorem zat {p:Prop} (h:p:=by
 replace h:=hA5 _ (aA h);exact zaK):p:=h
theorem zau {p:Prop} (h:p:=by
 obtain rfl:=Option.some.inj h;refine aP (dL (eC (bU (dR hF [.tmp 4] rfl rfl rfl ?_))));exact zAK):p:=h
theorem zav {p:Prop} (h:p:=by
 repeat (refine⟨zAH,?_⟩)
 obtain rfl:=Option.some.inj h;refine aP (dL (bU (bU (dR hF [.tmp 4] rfl rfl rfl ?_))))
 (try simp only[gK,aQ,go_sem,aR F,aS F,aT F])<;>first|rfl|(simp; done)):p:=h
theorem zaw {p:Prop} (h:p:=by
 obtain rfl:=iT h;refine aGH hF [.cell 3 74] [] rfl rfl rfl rfl rfl rfl rfl rfl rfl ?_;exact zaL):p:=h
theorem zax {p:Prop} (h:p:=by
 exact aE hV [.tmp 4,.tmp 5] rfl rfl rfl (aA h) xAd):p:=h
theorem zay {p:Prop} (h:p:=by
 simp only[hv,go_sem];exact zaP):p:=h
theorem zaz {p:Prop} (h:p:=by
 refine aD h fun v_7 hv h=>?_;try simp only[hv,go_sem]
 refine⟨fun hc=>?_,fun hc=>?_⟩
 ·replace h:=cW zAD h;exact zaB
 ·replace h:=cX zAD h;exact zaT):p:=h
theorem za0 {p:Prop} (h:p:=by
 rw[List.take_length] at hI;exact .ite (fun hh=>absurd hh (Int.lt_irrefl _)) fun _=>.ret hI):p:=h
theorem za1 {p:Prop} (h:p:=by
 try simp only[hv,go_sem]
 exact zab):p:=h
theorem za2 {p:Prop} (h:p:=by
 refine bS h (fun hc h=>?_) fun hc h=>?_
 ·exact aE hV [.tmp 2] rfl rfl rfl (aA h) xAd
 ·refine aG h fun g0 h=>aG h fun g1 h=>?_;exact zaB):p:=h
theorem zAA{p:Prop}(h:p:=by first|with_reducible assumption|omega|(intros; first|with_reducible assumption|omega)|(simp only[go_sem] at *; first|with_reducible assumption|omega)|(intro _; exact⟨rfl,by decide⟩)|(intro _; refine(?_:_=aL _); rfl)|(refine(?_:_=aL _); rfl)|exact⟨rfl,rfl⟩|decide):p:=h
theorem zAB{p:Prop}(h:p:=by first|with_reducible assumption|omega|(intros; first|with_reducible assumption|omega)|(intro _; exact⟨rfl,by decide⟩)|(intro _; refine(?_:_=aL _); rfl)|(refine(?_:_=aL _); rfl)|exact⟨rfl,rfl⟩|decide):p:=h
theorem zAC{p:Prop}(h:p:=by first|with_reducible assumption|trivial|omega|exact⟨rfl,rfl⟩|decide):p:=h
theorem zAD{p:Prop}(h:p:=by first|exact hc|omega|(simpa using hc)|(simp at hc ⊢; omega)):p:=h
theorem zAE{p:Prop}(h:p:=by first|with_reducible assumption|omega):p:=h
theorem zAF{p:Prop}(h:p:=by first|with_reducible assumption|omega|(intros; first|with_reducible assumption|omega)|(intro _; exact⟨rfl,by decide⟩)|(intro _; refine(?_:_=aL _); rfl)|(refine(?_:_=aL _); rfl)|exact⟨rfl,rfl⟩|(intro q0; (try have e0:=g0 (by first|exact q0|omega|(simpa using q0))); (try have e1:=g1 (by first|exact q0|omega|(simpa using q0))); first|assumption|omega)|decide):p:=h
theorem zAG{p:Prop}(h:p:=by first|with_reducible assumption|omega|(intros; first|with_reducible assumption|omega)|(intro _; exact⟨rfl,by decide⟩)|(intro _; refine(?_:_=aL _); rfl)|(refine(?_:_=aL _); rfl)|exact⟨rfl,rfl⟩|(intro q0; (try have e0:=g0 (by first|exact q0|omega|(simpa using q0))); first|assumption|omega)|decide):p:=h
theorem zAH{p:Prop}(h:p:=by first|with_reducible assumption|omega|(intros; first|with_reducible assumption|omega)|(simp only[go_sem,aR F,aS F,aT F] at *; first|with_reducible assumption|omega)|(intro _; exact⟨rfl,by decide⟩)|(intro _; refine(?_:_=aL _); rfl)|(refine(?_:_=aL _); rfl)|exact⟨rfl,rfl⟩|decide):p:=h
theorem zAI{p:Prop}(h:p:=by first|exact q0|omega|(simpa using q0)):p:=h
theorem zAJ{p:Prop}(h:p:=by (try simp only[rY,kN,true_or,and_self,go_sem])<;>(repeat' apply And.intro)<;>first|rfl|(left; rfl)|(right; rfl)|(left; simp only[go_sem]; done)|(right; simp only[go_sem]; done)|(simp; done)|(simp only[*]; done)|omega):p:=h
theorem zAK{p:Prop}(h:p:=by (try simp only[gK,aQ,go_sem])<;>first|rfl|(simp; done)):p:=h
def bEk:List Nat:=[0,1,56,2,57,49,28,3,61,58,42,50,38,29,17,4,62,47,59,36,45,43,51,22,53,39,33,30,24,18,12,5,63,55,48,27,60,41,37,16,46,35,44,21,52,32,23,11,54,26,40,15,34,20,31,10,25,14,19,9,13,8,7,6]
theorem bLJ:bEk= [0,1,56,2,57,49,28,3,61,58,42,50,38,29,17,4,62,47,59,36,45,43,51,22,53,39,33,30,24,18,12,5,63,55,48,27,60,41,37,16,46,35,44,21,52,32,23,11,54,26,40,15,34,20,31,10,25,14,19,9,13,8,7,6]:=rfl
def p10:List Nat:=[1,10,100,1000,10000,100000,1000000,10000000,100000000,1000000000,10000000000,100000000000,1000000000000,10000000000000,100000000000000,1000000000000000,10000000000000000,100000000000000000,1000000000000000000,10000000000000000000]
theorem bJl:p10= [1,10,100,1000,10000,100000,1000000,10000000,100000000,1000000000,10000000000,100000000000,1000000000000,10000000000000,100000000000000,1000000000000000,10000000000000000,100000000000000000,1000000000000000000,10000000000000000000]:=rfl
def GL:Nat→AV
 | 5=>.roa (.arr 64 qw) bEk
 | 1=>.roa (.arr 20 qk) p10
 | _=>.junk
theorem GL0:GL 5= .roa (.arr 64 qw) bEk:=rfl
theorem GL3:GL 1= .roa (.arr 20 qk) p10:=rfl
attribute [go_sem] GL0 GL3 mSpec
def tab:List (TypeId×Ty):=[(172,.clo 139 .unit),(2,.i .i64),(3,.i .i64),(4,.bool),(5,.u .u8),(9,.str),(21,.i .i32),(22,.sl .expr),(24,.expr),(25,.sl qc),(26,.sl wj),(28,.pair qi (.pair qi (.pair qi (.pair qi (.pair .str (.pair .str (.pair .str (.pair .str (.pair (.sl qc) (.pair (.sl wj) .unit)))))))))),(40,.sl vd),(41,.sl (.pair .str (.pair qn .unit))),(42,.sl .str),(43,.sl q8),(45,.pair .str (.pair (.sl vd) (.pair (.sl (.pair .str (.pair qn .unit))) (.pair qx (.pair (.sl q8) .unit))))),(47,.pair .str wi),(49,.pair .str (.pair qn (.pair .expr .unit))),(51,.pair .str (.pair .expr .unit)),(55,.nilp),(56,.sl qw),(58,.pair .nilp (.pair (.sl qw) .unit)),(60,.nili),(68,.pair .str (.pair qn .unit)),(70,.pair .str (.pair .str qn)),(72,.sl qk),(74,.pair .bool (.pair qu qo)),(83,.u .u64),(96,.sl qg),(107,.sl wg),(114,.pair .bool (.pair qp qo)),(115,.u .u32),(119,.u .u64),(135,.sl qx),(145,.arr 24 qw),(182,.arr 256 (.bool)),(187,.arr 20 qk),(188,.arr 65 qw),(195,.pair qi .unit),(198,.nilf),(204,.i .i64),(211,.arr 32 qw),(212,.arr 64 qw),(219,.arr 256 qw),(221,.pair qw (.pair qw .unit)),(222,.arr 16 (.pair qw (.pair qw .unit))),(229,.pair .str .unit)]
def elT:TypeId→TypeId
 | 22=>24
 | 25=>45
 | 26=>70
 | 40=>49
 | 41=>68
 | 42=>9
 | 43=>51
 | 56=>5
 | 72=>119
 | 96=>74
 | 107=>115
 | 135=>42
 | _=>0
def mpT:TypeId→Option (TypeId×TypeId)
 | 102=>some (9,4)
 | _=>none
theorem bCf:iF Tryz.prog (aKZ tab):=bHY xAa
theorem bOk:∀t f,aKZ tab t=some (.sl f)→Tryz.prog.underlying t=some (.slice (elT t)):=bLe xAa
theorem bOl:∀t k e,mpT t=some (k,e)→Tryz.prog.underlying t=some (.map k e):=by
 intro t k e h;unfold mpT at h;split at h
 ·cases h; rfl
 ·cases h
def TM:Tab:=aKZ tab
def EM(l:List (FuncId×aH)):Env:=⟨TM,GL,fun f _=>gam l f,elT,mpT,fun _=>none,fun _=>false,false⟩
theorem bO1(l:List (FuncId×aH))(t:TypeId):(EM l).T t=TM t:=rfl
theorem bO2(l:List (FuncId×aH))(t:Nat):(EM l).G t=GL t:=rfl
theorem bO3(l:List (FuncId×aH))(f:FuncId)(vs:List AV):(EM l).Γ f vs=gam l f:=rfl
theorem bOm(l:List (FuncId×aH))(t:TypeId):(EM l).el t=elT t:=rfl
theorem bOn(l:List (FuncId×aH))(t:TypeId):(EM l).mp t=mpT t:=rfl
theorem aY{l:List (FuncId×aH)}(h:bA Tryz.prog GL l):eQ Tryz.prog (EM l):=bBU bCf bOk bOl h
theorem mix:Tryz.prog.follows .mixedOrders=true:=by kernel_rfl
@[go_sem]theorem bOo(l:List (FuncId×aH))(t:TypeId):(EM l).dm t=none:=rfl
@[go_sem]theorem bOp(l:List (FuncId×aH))(t:TypeId):(EM l).dz t=false:=rfl
@[go_sem]theorem bO4(l:List (FuncId×aH)):(EM l).w=false:=rfl
def EW(l:List (FuncId×aH)):Env:=⟨TM,GL,fun f _=>gam l f,elT,mpT,fun _=>none,fun _=>false,true⟩
theorem bO5(l:List (FuncId×aH))(t:TypeId):(EW l).T t=TM t:=rfl
theorem bO6(l:List (FuncId×aH))(t:Nat):(EW l).G t=GL t:=rfl
theorem bO7(l:List (FuncId×aH))(f:FuncId)(vs:List AV):(EW l).Γ f vs=gam l f:=rfl
theorem bOq(l:List (FuncId×aH))(t:TypeId):(EW l).el t=elT t:=rfl
theorem bOr(l:List (FuncId×aH))(t:TypeId):(EW l).mp t=mpT t:=rfl
theorem bOs(l:List (FuncId×aH))(t:TypeId):(EW l).dm t=none:=rfl
theorem bOt(l:List (FuncId×aH))(t:TypeId):(EW l).dz t=false:=rfl
theorem bO8(l:List (FuncId×aH)):(EW l).w=true:=rfl
theorem bOu{l:List (FuncId×aH)}(h:bA Tryz.prog GL l):eQ Tryz.prog (EW l):=bBU bCf bOk bOl h
attribute [go_sem] bO5 bO6 bO7 bOq bOr bOs bOt bO8
theorem T2:TM 2=some qi:=rfl
theorem T3:TM 3=some qi:=rfl
theorem T4:TM 4=some (.bool):=rfl
theorem T5:TM 5=some qw:=rfl
theorem T9:TM 9=some (.str):=rfl
theorem T21:TM 21=some (.i .i32):=rfl
theorem T22:TM 22=some (.sl .expr):=rfl
theorem T24:TM 24=some (.expr):=rfl
theorem T25:TM 25=some (.sl qc):=rfl
theorem T26:TM 26=some (.sl wj):=rfl
theorem T28:TM 28=some qe:=rfl
theorem T40:TM 40=some (.sl vd):=rfl
theorem T41:TM 41=some (.sl (.pair .str (.pair qn .unit))):=rfl
theorem T42:TM 42=some qx:=rfl
theorem T43:TM 43=some (.sl q8):=rfl
theorem T45:TM 45=some qc:=rfl
theorem T47:TM 47=some qn:=rfl
theorem T49:TM 49=some vd:=rfl
theorem T51:TM 51=some q8:=rfl
theorem T55:TM 55=some (.nilp):=rfl
theorem T56:TM 56=some (.sl qw):=rfl
theorem T58:TM 58=some (.pair .nilp (.pair (.sl qw) .unit)):=rfl
theorem T60:TM 60=some (.nili):=rfl
theorem T68:TM 68=some (.pair .str (.pair qn .unit)):=rfl
theorem T70:TM 70=some wj:=rfl
theorem T72:TM 72=some qu:=rfl
theorem T74:TM 74=some qg:=rfl
theorem T83:TM 83=some qk:=rfl
theorem T96:TM 96=some (.sl qg):=rfl
theorem bO9:TM 107=some qp:=rfl
theorem bPa:TM 114=some wz:=rfl
theorem bPb:TM 115=some wg:=rfl
theorem bPc:TM 119=some qk:=rfl
theorem bPd:TM 135=some (.sl qx):=rfl
theorem bPe:TM 145=some (.arr 24 qw):=rfl
theorem bPf:TM 182=some (.arr 256 (.bool)):=rfl
theorem bPg:TM 187=some (.arr 20 qk):=rfl
theorem bPh:TM 188=some (.arr 65 qw):=rfl
theorem bPi:TM 195=some qo:=rfl
theorem bPj:TM 198=some (.nilf):=rfl
theorem bPk:TM 204=some qi:=rfl
theorem bPl:TM 211=some (.arr 32 qw):=rfl
theorem bPm:TM 212=some (.arr 64 qw):=rfl
theorem bPn:TM 219=some (.arr 256 qw):=rfl
theorem bPo:TM 221=some (.pair qw (.pair qw .unit)):=rfl
theorem bPp:TM 222=some (.arr 16 (.pair qw (.pair qw .unit))):=rfl
theorem bPq:TM 229=some wi:=rfl
theorem bPr:TM 172=some (.clo 139 .unit):=rfl
attribute [go_sem] bO1 bO2 bO3 bOm bOn elT mpT bPr T2 T3 T4 T5 T9 T21 T22 T24 T25 T26 T28 T40 T41 T42 T43 T45 T47 T49 T51 T55 T56 T58 T60 T68 T70 T72 T74 T83 T96 bO9 bPa bPb bPc bPd bPe bPf bPg bPh bPi bPj bPk bPl bPm bPn bPo bPp bPq
def qY(x y c:Nat):Nat×Nat×Unit:=((x+y+c)%18446744073709551616,(x+y+c)/18446744073709551616,())
def aHF(x y c:Nat):Nat×Nat×Unit:=((x+18446744073709551616-y-c)%18446744073709551616,(if x<y+c then 1 else 0),())
abbrev aFd(x y c:Nat):Prop:=c≤1
@[go_sem]def aNk:Ty:=.pair qk wd
@[go_sem]def oQ:aH:=⟨aNk,.tup wd,fun x=>aFd x.1 x.2.1 x.2.2.1,fun x=>qY x.1 x.2.1 x.2.2.1⟩
@[go_sem]def aNl:Ty:=.pair qk wd
@[go_sem]def aCZ:aH:=⟨aNl,.tup wd,fun x=>aFd x.1 x.2.1 x.2.2.1,fun x=>aHF x.1 x.2.1 x.2.2.1⟩
theorem aZB{w:World}{S:Nat→Prop}{x:Nat}{v:Value}(h:cZ w S qk x v):v= .int .u64 (x:Int):=by
 unfold cZ at h;rw[if_neg (by simp[Ty.isAgg])] at h;simp only[bC,List.cons.injEq,and_true] at h;exact h.1
theorem aUF{w:World}{S:Nat→Prop}{vs:List Value}{x:Nat×Nat×Nat×Unit}(h:qV w S (.pair qk wd) x vs):vs= [.int .u64 (x.1:Int),.int .u64 (x.2.1:Int),.int .u64 (x.2.2.1:Int)]:=by
 obtain⟨v1,r1,rfl,q,I,J,rfl,z,L,g,rfl,h3,f⟩:=h;rw[aZB q,aZB z,aZB h3];have f:g= []:=f;rw[f]
theorem bJm{w:World}{S:Nat→Prop}{x:Nat}(h:x<18446744073709551616):cZ w S qk x (.int .u64 (x:Int)):=by
 unfold cZ;rw[if_neg (by simp[Ty.isAgg])];refine⟨rfl,rfl,?_⟩;simp[IntKind.max,IntKind.signed,IntKind.bits]; omega
theorem bCg{w:World}{S:Nat→Prop}{x y:Nat}(hx:x<18446744073709551616)(hy:y<18446744073709551616):qV w S wd (x,y,()) [.int .u64 (x:Int),.int .u64 (y:Int)] :=
 ⟨_,_,rfl,bJm hx,_,_,rfl,bJm hy,rfl⟩
theorem wf_u64{x:Nat}(h:(Ty.u .u64).wf x):x<18446744073709551616:=by
 simp only[Ty.wf,IntKind.max,IntKind.signed,IntKind.bits] at h;simp at h; omega
def aUG:Array Value→Sem Value:=fun args=>do
 let (x,y,b) ← Extern.MathBitsCarry.three "Sub64" args
 pure (Extern.MathBitsCarry.pair ((x+Extern.MathBitsCarry.m64-y-b)%Extern.MathBitsCarry.m64) (if x<y+b then 1 else 0))
theorem bHp{P:Program}(x y b:Nat)(hb:b≤1)(w:World) :
  (aUG #[.int .u64 x,.int .u64 y,.int .u64 b]).run P w =
   .ok (.tuple #[.int .u64 (((x+18446744073709551616-y-b)%18446744073709551616:Nat):Int),.int .u64 ((if x<y+b then 1 else 0:Nat):Int)]) w:=by
 have:b=0∨b=1:=by omega
 rcases this with rfl|rfl<;>rfl
theorem aGd:NOK Tryz.prog GL 130 oQ:=by
 refine bIv fun w S z x ha hp=>?_;have hp:x.2.2.1≤1:=hp;have q:=aHt _ _ _ ha;obtain⟨g,f,h3,_⟩:=q;have g:=wf_u64 g;have f:=wf_u64 f;rw[aUF ha];refine⟨[.int .u64 (((x.1+x.2.1+x.2.2.1)%18446744073709551616:Nat):Int),.int .u64 (((x.1+x.2.1+x.2.2.1)/18446744073709551616:Nat):Int)],?_,bCg (by omega) (by omega)⟩;rw[run_callFunc_extern Tryz.func130 xAa xAa xAa (e:=add64Entry) xAa,run_add64 x.1 x.2.1 x.2.2.1 (by omega) (by omega) (by omega) (by omega)];simp only[Result.andThen]
 congr 5<;>omega
theorem aW7:NOK Tryz.prog GL 167 aCZ:=by
 refine bIv fun w S z x ha hp=>?_;have hp:x.2.2.1≤1:=hp;have q:=aHt _ _ _ ha;obtain⟨g,f,h3,_⟩:=q;have g:=wf_u64 g;have f:=wf_u64 f;rw[aUF ha];refine⟨[.int .u64 (((x.1+18446744073709551616-x.2.1-x.2.2.1)%18446744073709551616:Nat):Int),.int .u64 ((if x.1<x.2.1+x.2.2.1 then 1 else 0:Nat):Int)],?_,bCg (by omega) (by split<;>omega)⟩;rw[run_callFunc_extern Tryz.func167 xAa xAa xAa (e:=aUG) xAa,bHp x.1 x.2.1 x.2.2.1 hp];rfl
abbrev bHq(s:List Nat):Prop:=s.length*8≤140737488355328
@[go_sem]def wV:Ty:=.pair qu .unit
@[go_sem]def cP:aH:=⟨wV,.own 119 qk,fun x=>bHq x.1,fun x=>id x.1⟩
abbrev aCp(F:Md):List (FuncId×aH):=[]
theorem aCq(F:Md):bA Tryz.prog GL (aCp F):=.nil
theorem oB:FOK Tryz.prog GL 121 cP:=by
 refine bD9 (aY (aCq none)) Tryz.func121 rfl xAa xAb fun w0 S x f hp=>?_;have hF:xT (fr Tryz.prog (EM (aCp none)) S w0 Tryz.f121.ntmps):=⟨aY (aCq none),mix⟩;obtain⟨(s:qd),u⟩:=x;have hp:s.length*8≤140737488355328:=hp;simp only[bD,wV,cP];exact zaV
def nv:List Nat→Nat
 | []=>0
 | x::r=>x+18446744073709551616*nv r
def lbF:Nat→Nat→List Nat
 | 0,_=>[]
 | k+1,n=>if n=0 then [] else n%18446744073709551616::lbF k (n/18446744073709551616)
def lb(n:Nat):List Nat:=lbF n n
theorem bJn:∀(k m n:Nat),n≤k→n≤m→lbF k n=lbF m n
 | 0,m,n,f,g=>by
  obtain rfl:n=0:=by omega
  cases m<;>rfl
 | k+1,0,n,f,g=>by
  obtain rfl:n=0:=by omega
  rfl
 | k+1,m+1,n,f,g=>by
  rw[lbF,lbF];by_cases h:n=0
  ·simp_all
  ·rw[if_neg h,if_neg h];have hd:n/18446744073709551616<n:=Nat.div_lt_self (by omega) xAb;rw[bJn k m (n/18446744073709551616) (by omega) (by omega)]
def Lm(a:List Nat):Prop:=∀x∈a,x<18446744073709551616
def Nrm(a:List Nat):Prop:=a.getLastD 1≠0
instance (a:List Nat):Decidable (Nrm a):=inferInstanceAs (Decidable (_≠_))
theorem aZC:nv []=0:=rfl
theorem sZ(x:Nat)(r:List Nat):nv (x::r)=x+18446744073709551616*nv r:=rfl
theorem zE:lb 0= []:=rfl
theorem aPL{n:Nat}(h:n≠0):lb n=n%18446744073709551616::lb (n/18446744073709551616):=by
 obtain⟨k,rfl⟩:∃k,n=k+1:=⟨n-1,by omega⟩;have hd:(k+1)/18446744073709551616<k+1:=Nat.div_lt_self (by omega) xAb;rw[lb,lbF,if_neg h,lb,bJn k ((k+1)/18446744073709551616) ((k+1)/18446744073709551616) (by omega) (Nat.le_refl _)]
theorem uI(n:Nat):nv (lb n)=n:=by
 induction n using Nat.strongRecOn with
 | _ n f =>
  by_cases h:n=0
  ·subst h; rfl
  grind[aPL,sZ,Nat.div_lt_self,Nat.mod_add_div]
theorem aK4(n:Nat):Lm (lb n):=by
 induction n using Nat.strongRecOn with
 | _ n f =>
  by_cases h:n=0
  ·subst h; rw[zE]; intro x hx; cases hx
  ·rw[aPL h];intro x hx;rcases List.mem_cons.1 hx with rfl|hx
   ·omega
   ·exact f (n/18446744073709551616) (Nat.div_lt_self (by omega) xAb) x hx
theorem aPM{n:Nat}:lb n= []↔n=0:=by
 constructor
 ·grind[Nat.eq_zero_or_pos,aPL]
 ·rintro rfl; rfl
theorem aZD:Nrm []:=by decide
theorem bCh{x:Nat}{r:List Nat}(h:Nrm r)(hx:r= []→x≠0):Nrm (x::r):=by
 grind[Nrm]
theorem aFe(n:Nat):Nrm (lb n):=by
 induction n using Nat.strongRecOn with
 | _ n f =>
  by_cases h:n=0
  ·grind[zE,aZD]
  ·rw[aPL h];grind[bCh,Nat.div_lt_self,aPM,Nat.div_add_mod]
theorem bF7{x:Nat}{r:List Nat}(h:Lm (x::r)):x<18446744073709551616∧Lm r:=⟨h x xAg,fun y hy=>h y (by simp[hy])⟩
theorem bEl{a b:List Nat}(ha:Lm a)(hb:Lm b):Lm (a++b):=fun x hx=>(List.mem_append.1 hx).elim (ha x) (hb x)
theorem aGI{x y:Nat}{r:List Nat}(h:Nrm (x::y::r)):Nrm (y::r):=by
 grind[Nrm]
theorem aBe{a:List Nat}(h:Nrm a)(f:a≠ []):0<nv a:=by
 induction a with
 | nil=>simp_all
 | cons x r g =>
  rw[sZ];cases r with
  | nil=>grind[Nrm,aZC]
  | cons y r =>
   grind[aGI,nv,Nat.mul_le_mul_left]
theorem bJo{a:List Nat}(hl:Lm a)(I:Nrm a):lb (nv a)=a:=by
 induction a with
 | nil=>rfl
 | cons x r z =>
  have hx:=bF7 hl;have f:nv (x::r)≠0:=by grind[aBe]
  have g:nv (x::r)%18446744073709551616=x:=by grind[sZ,Nat.add_mul_mod_self_left,Nat.mod_eq_of_lt]
  have q:nv (x::r)/18446744073709551616=nv r:=by simp_all[sZ,Nat.add_mul_div_left,Nat.div_eq_of_lt,Nat.zero_add]
  rw[aPL f,g,q];cases r with
  | nil=>rfl
  | cons y r=>grind[aGI]
theorem aMi(a b:List Nat):nv (a++b)=nv a+18446744073709551616^a.length*nv b:=by
 induction a with
 | nil=>simp[nv]
 | cons x r f =>
  rw[List.cons_append,sZ,sZ,f,List.length_cons,Nat.pow_succ,Nat.mul_add];grind
theorem qX{a:List Nat}(hl:Lm a):nv a<18446744073709551616^a.length:=by
 induction a with
 | nil=>simp[nv]
 | cons x r f =>
  have hx:=bF7 hl;grind[sZ,List.length_cons,Nat.pow_succ]
theorem bF8{a:List Nat}(q:Nrm a)(f:a≠ []):18446744073709551616^(a.length-1)≤nv a:=by
 induction a with
 | nil=>simp_all
 | cons x r g =>
  cases r with
  | nil=>grind[aBe]
  | cons y r =>
   grind[aGI,sZ,List.length_cons,Nat.add_sub_cancel]
theorem aBS{n k:Nat}:(lb n).length≤k↔n<18446744073709551616^k:=by
 constructor
 ·intro h;have:=qX (aK4 n);grind[uI,Nat.lt_of_lt_of_le,Nat.pow_le_pow_right]
 ·intro h;by_cases h0:n=0
  ·simp_all[zE,Nat.zero_le]
  ·have f:lb n≠ []:=fun e=>h0 (aPM.1 e);have:=bF8 (aFe n) f;rw[uI] at this;have g:18446744073709551616^((lb n).length-1)<18446744073709551616^k:=Nat.lt_of_le_of_lt this h;grind[Nat.pow_lt_pow_iff_right]
theorem aPN(n:Nat):nv (List.replicate n 0)=0:=by
 induction n with
 | zero=>rfl
 | succ n f=>rw[List.replicate_succ,sZ,f]
theorem aBT(a:List Nat)(k:Nat):nv a=nv (a.take k)+18446744073709551616^(min k a.length)*nv (a.drop k):=by
 grind[aMi,List.take_append_drop,List.length_take]
theorem aEn{a:List Nat}(h:Lm a)(k:Nat):Lm (a.take k):=fun x hx=>h x (List.mem_of_mem_take hx)
theorem bLK{a:List Nat}(h:Lm a)(k:Nat):Lm (a.drop k):=fun x hx=>h x (List.mem_of_mem_drop hx)
theorem aNm{a:List Nat}(h:Lm a)(k:Nat):nv (a.drop k)=nv a/18446744073709551616^k:=by
 rcases Nat.lt_or_ge k a.length with hk|hk
 ·rw[aBT a k,Nat.min_eq_left (Nat.le_of_lt hk),Nat.add_mul_div_left _ _ (Nat.pow_pos xAb),Nat.div_eq_of_lt,Nat.zero_add];have:=qX (aEn h k);grind
 ·rw[List.drop_eq_nil_of_le hk,aZC,Nat.div_eq_of_lt];grind[Nat.lt_of_lt_of_le,qX,Nat.pow_le_pow_right]
theorem bLL{a:List Nat}(h:Lm a)(k:Nat):nv (a.take k)=nv a%18446744073709551616^k:=by
 rcases Nat.lt_or_ge k a.length with hk|hk
 ·have f:=aBT a k;rw[Nat.min_eq_left (Nat.le_of_lt hk)] at f;have g:=qX (aEn h k);rw[List.length_take,Nat.min_eq_left (Nat.le_of_lt hk)] at g;rw[f,Nat.add_mul_mod_self_left,Nat.mod_eq_of_lt g]
 ·rw[List.take_of_length_le hk,Nat.mod_eq_of_lt];grind[Nat.lt_of_lt_of_le,qX,Nat.pow_le_pow_right]
theorem gG{a:List Nat}(h:Lm a)(i:Nat):a.getD i 0<18446744073709551616:=by
 rw[List.getD_eq_getElem?_getD];cases e:a[i]? with
 | none=>simp_all
 | some x=>exact h x (List.mem_of_getElem? e)
theorem take_succ{a:List Nat}{k:Nat}(h:k<a.length):a.take (k+1)=a.take k++ [a.getD k 0]:=by
 simp_all
theorem uT{a:List Nat}{k:Nat}(h:k<a.length):nv (a.take (k+1))=nv (a.take k)+18446744073709551616^k*a.getD k 0:=by
 rw[take_succ h,aMi,List.length_take,Nat.min_eq_left (Nat.le_of_lt h)];simp[nv]
theorem aFf{a:List Nat}{k v:Nat}(h:k<a.length):nv (a.set k v)+18446744073709551616^k*a.getD k 0=nv a+18446744073709551616^k*v:=by
 induction a generalizing k with
 | nil=>simp at h
 | cons x r f =>
  cases k with
  | zero=>grind[nv]
  | succ k =>
   have:=f (k:=k) (by simp_all);simp only[List.set_cons_succ,sZ,List.getD_cons_succ,Nat.pow_succ];grind
theorem aCI{a:List Nat}(h:Lm a)(k:Nat){v:Nat}(hv:v<18446744073709551616):Lm (a.set k v):=fun x hx=>by
 rcases List.mem_or_eq_of_mem_set hx with hx|rfl
 ·exact h x hx
 omega
theorem aPO(n:Nat):Lm (List.replicate n 0):=fun x hx=>by
 simp_all
theorem aFg{a:List Nat}(h:(Ty.sl qk).wf a):Lm a:=fun x hx=>by
 grind[Ty.wf,Go.IntKind.max,Go.IntKind.signed,Go.IntKind.bits]
theorem bEm{a:List Nat}(h:(Ty.sl qk).wf a):a.length≤9223372036854775807:=h.1
theorem aMj{x:Nat}(h:(Ty.u .u64).wf x):x<18446744073709551616:=by
 grind[Ty.wf,Go.IntKind.max,Go.IntKind.signed,Go.IntKind.bits]
theorem wf_i64{x:Int}(h:(Ty.i .i64).wf x): -9223372036854775808≤x∧x≤9223372036854775807:=by
 grind[Ty.wf,aE8]
theorem bF9:gT .u64=18446744073709551616:=by rfl
theorem aQ2(a b:Nat):aGz .u64 a b=a*b%18446744073709551616:=by rw[aTA,bF9]
theorem bCi{a b:Nat}(ha:a<18446744073709551616)(hb:b≤a):aIN .u64 a b=a-b:=by
 grind[aKq,bF9,Nat.add_mod_right,Nat.mod_eq_of_lt]
theorem aC{α:Type}{p:Prop}[Decidable p]{k:Option α}{r:Option α}(hp:p)(h:k=r):ck p k=r:=(bIM hp).trans h
theorem aGJ{α:Type}{p:Prop}[Decidable p]{x y r:α}(f:p→x=r)(g:¬p→y=r):(if p then x else y)=r:=by
 simp_all
theorem aJ{α β:Type}{x:Option α}{a:α}{k:α→Option β}{r:Option β}(hx:x=some a)(h:k a=r):x.bind k=r:=by simp_all
def bl(x:Nat):Nat:=if x=0 then 0 else Nat.log2 x+1
theorem aK5{x k:Nat}(h:x<2^k):bl x≤k:=by
 unfold bl;split
 ·omega
 ·rename_i h0;exact(Nat.log2_lt h0).2 h
theorem aYC(x:Nat):x<2^bl x:=by
 grind[bl,Nat.lt_log2_self]
theorem bJp{x k:Nat}(h:2^k≤x):k<bl x:=by
 have h0:x≠0:=by grind
 unfold bl;rw[if_neg h0];have:=(Nat.le_log2 h0).2 h;omega
theorem bOv{x k:Nat}(f:2^k≤x)(g:x<2^(k+1)):bl x=k+1:=Nat.le_antisymm (aK5 g) (bJp f)
theorem bLM:bl 0=0:=rfl
theorem aZE{x:Nat}(h:x≠0):0<bl x:=bJp (k:=0) (by omega)
theorem aZF{x:Nat}(h:x≠0):2^(bl x-1)≤x:=by
 rcases Nat.lt_or_ge x (2^(bl x-1)) with hh|hh
 ·have:=aK5 hh; grind
 omega
theorem aJm{x k:Nat}(h:2^k≤x):bl x=k+bl (x/2^k):=by
 have hk:=Nat.two_pow_pos k;have f:0<x/2^k:=Nat.div_pos h hk;obtain⟨m,hm⟩:∃m,bl (x/2^k)=m+1:=⟨bl (x/2^k)-1,by
  have:=bJp (x:=x/2^k) (k:=0) f; omega⟩
 have g:=aYC (x/2^k);have h3:=aZF (x:=x/2^k) (by omega);rw[hm] at g h3 ⊢;refine bOv (k:=k+m) ?_ ?_
 ·grind[Nat.pow_add,Nat.mul_comm,Nat.le_div_iff_mul_le]
 simp_all[Nat.add_assoc,Nat.pow_add,Nat.mul_comm,Nat.div_lt_iff_lt_mul]
def aCJ:ByteArray:=⟨⟨0::1::2::2::3::3::3::3::4::4::4::4::4::4::4::4::5::5::5::5::5::5::5::5::5::5::5::5::5::5::5::5::6::6::6::6::6::6::6::6::6::6::6::6::6::6::6::6::6::6::6::6::6::6::6::6::6::6::6::6::6::6::6::6::7::7::7::7::7::7::7::7::7::7::7::7::7::7::7::7::7::7::7::7::7::7::7::7::7::7::7::7::7::7::7::7::7::7::7::7::7::7::7::7::7::7::7::7::7::7::7::7::7::7::7::7::7::7::7::7::7::7::7::7::7::7::7::7::8::8::8::8::8::8::8::8::8::8::8::8::8::8::8::8::8::8::8::8::8::8::8::8::8::8::8::8::8::8::8::8::8::8::8::8::8::8::8::8::8::8::8::8::8::8::8::8::8::8::8::8::8::8::8::8::8::8::8::8::8::8::8::8::8::8::8::8::8::8::8::8::8::8::8::8::8::8::8::8::8::8::8::8::8::8::8::8::8::8::8::8::8::8::8::8::8::8::8::8::8::8::8::8::8::8::8::8::8::8::8::8::8::8::8::8::8::8::8::8::8::8::8::8::8::8::8::8:: []⟩⟩
@[go_sem]theorem aW8:(⟨⟨0::1::2::2::3::3::3::3::4::4::4::4::4::4::4::4::5::5::5::5::5::5::5::5::5::5::5::5::5::5::5::5::6::6::6::6::6::6::6::6::6::6::6::6::6::6::6::6::6::6::6::6::6::6::6::6::6::6::6::6::6::6::6::6::7::7::7::7::7::7::7::7::7::7::7::7::7::7::7::7::7::7::7::7::7::7::7::7::7::7::7::7::7::7::7::7::7::7::7::7::7::7::7::7::7::7::7::7::7::7::7::7::7::7::7::7::7::7::7::7::7::7::7::7::7::7::7::7::8::8::8::8::8::8::8::8::8::8::8::8::8::8::8::8::8::8::8::8::8::8::8::8::8::8::8::8::8::8::8::8::8::8::8::8::8::8::8::8::8::8::8::8::8::8::8::8::8::8::8::8::8::8::8::8::8::8::8::8::8::8::8::8::8::8::8::8::8::8::8::8::8::8::8::8::8::8::8::8::8::8::8::8::8::8::8::8::8::8::8::8::8::8::8::8::8::8::8::8::8::8::8::8::8::8::8::8::8::8::8::8::8::8::8::8::8::8::8::8::8::8::8::8::8::8::8::8:: []⟩⟩:ByteArray)=aCJ:=rfl
def nM(F:Md)(f:Nat)(g:Int):Option (Int) :=
 ck (0≤(((f%256):Nat):Int)∧(((f%256):Nat):Int)<(((aI aCJ).length:Nat):Int)) (ck (I64 (g+((((aI aCJ).getD (f%256) (0:Nat)):Nat):Int))) (some (g+((((aI aCJ).getD (f%256) (0:Nat)):Nat):Int))))
def nN(F:Md)(f:Nat)(g:Int):Option (Int) :=
 if (256:Nat)≤f then ck (I64 (g+(8:Int))) (nM F (f/(256:Nat)) (g+(8:Int))) else nM F f g
def nO(F:Md)(g:Nat)(f:Int):Option (Int) :=
 if (65536:Nat)≤g then ck (I64 (f+(16:Int))) (nN F (g/(65536:Nat)) (f+(16:Int))) else nN F g f
def aBU(F:Md)(f:Nat):Option Int :=
 if (4294967296:Nat)≤f then nO F (f/(4294967296:Nat)) (32:Int) else nO F f (0:Int)
def oC(x:Nat):Int:=(bl x:Int)
theorem bLN:(aI aCJ).length=256∧ ∀y,y<256→(aI aCJ).getD y 0=bl y:=by decide +kernel
theorem bCj{x:Nat}{n:Int}(hx:x<256)(h0:0≤n)(z:n≤1000):nM none x n=some (n+bl x):=by
 obtain⟨e1,g⟩:=bLN;have f:=g x hx;have q:=aK5 (show x<2^8 from hx);have hm:x%256=x:=Nat.mod_eq_of_lt hx;unfold nM;rw[hm,f];refine aC (by omega) (aC (by omega) rfl)
theorem bCk{x:Nat}{n:Int}(hx:x<65536)(h0:0≤n)(f:n≤900):nN none x n=some (n+bl x):=by
 unfold nN;refine aGJ (fun h=>aC (by omega) ?_) (fun h=>bCj (by omega) h0 (by omega));rw[bCj (by omega) (by omega) (by omega),aJm (x:=x) (k:=8) h];grind
theorem bCl{x:Nat}{n:Int}(hx:x<4294967296)(h0:0≤n)(f:n≤800):nO none x n=some (n+bl x):=by
 unfold nO;refine aGJ (fun h=>aC (by omega) ?_) (fun h=>bCk (by omega) h0 (by omega));rw[bCk (by omega) (by omega) (by omega),aJm (x:=x) (k:=16) h];grind
theorem aUH(x:Nat)(w:(Ty.u .u64).wf x):aBU none x=some (oC x):=by
 have hx:=aMj w;unfold aBU;refine aGJ (fun h=>?_) (fun h=>?_)
 ·rw[bCl (by omega) (by omega) (by omega),oC,aJm (x:=x) (k:=32) h];rfl
 grind[bCl,oC]
theorem bJq{x:Nat}(hx:x<18446744073709551616):bl x≤64:=aK5 hx
def kV(F:Md)(f:Nat):Option Int :=
 ck (I64 ((64:Int)-(oC f))) (some ((64:Int)-(oC f)))
def aF(x:Nat):Int:=64-(bl x:Int)
theorem aGK(x:Nat)(w:(Ty.u .u64).wf x):kV none x=some (aF x):=by
 have:=bJq (aMj w);unfold kV oC aF;exact aC (by omega) rfl
def jF(F:Md)(f:Nat):Option Int :=
 if f=(0:Nat) then some (64:Int) else ck (0≤((((mulM F .u64 (f&&&(aKN F .u64 f)) (285870213051353865:Nat))/(288230376151711744:Nat)):Nat):Int)∧((((mulM F .u64 (f&&&(aKN F .u64 f)) (285870213051353865:Nat))/(288230376151711744:Nat)):Nat):Int)<(64:Int)) (some (((bEk.getD ((mulM F .u64 (f&&&(aKN F .u64 f)) (285870213051353865:Nat))/(288230376151711744:Nat)) (0:Nat)):Nat):Int))
def gH(x:Nat):Int:=(Lib.ctz 64 x:Int)
theorem bLO:bEk=Lib.deBruijn64tab:=by rfl
theorem bOw{x:Nat}(hx:x<18446744073709551616)(hc:¬x=0):bBr .u64 x=18446744073709551616-x:=by
 rw[aY6,bF9,Nat.zero_add];omega
theorem bNC{x:Nat}(hx:x<18446744073709551616)(hc:¬x=0):aGz .u64 (x&&&bBr .u64 x) 285870213051353865/288230376151711744<64∧bEk.getD (aGz .u64 (x&&&bBr .u64 x) 285870213051353865/288230376151711744) 0=Lib.ctz 64 x:=by
 obtain⟨f,q⟩:=Lib.lowest_bit 64 x hc hx;have g:(2:Nat)^64=18446744073709551616:=by decide
 rw[g] at f;rw[aQ2,bOw hx hc,f,bLO];exact Lib.deBruijn64_at _ q
theorem aGe(x:Nat)(w:(Ty.u .u64).wf x):jF none x=some (gH x):=by
 unfold jF gH;try simp only[pN,mulM,aKN]
 refine aGJ (fun h=>?_) (fun h=>?_)
 ·subst h; rfl
 ·obtain⟨f,g⟩:=bNC (aMj w) h;rw[g];exact aC ⟨Int.natCast_nonneg _,Int.ofNat_lt.2 f⟩ rfl
def aBV(F:Md)(f:Nat)(g:Nat):Option (Nat×(Nat×Unit)) :=
 some ((((((mulM F .u64 (f/(4294967296:Nat)) (g/(4294967296:Nat)))+((((mulM F .u64 (f/(4294967296:Nat)) (g&&&(4294967295:Nat)))+((mulM F .u64 (f&&&(4294967295:Nat)) (g&&&(4294967295:Nat)))/(4294967296:Nat)))%18446744073709551616)/(4294967296:Nat)))%18446744073709551616)+(((((((mulM F .u64 (f/(4294967296:Nat)) (g&&&(4294967295:Nat)))+((mulM F .u64 (f&&&(4294967295:Nat)) (g&&&(4294967295:Nat)))/(4294967296:Nat)))%18446744073709551616)&&&(4294967295:Nat))+(mulM F .u64 (f&&&(4294967295:Nat)) (g/(4294967296:Nat))))%18446744073709551616)/(4294967296:Nat)))%18446744073709551616),(mulM F .u64 f g),())
def cY(x y:Nat):Nat×Nat×Unit:=(x*y/18446744073709551616,x*y%18446744073709551616,())
theorem bND(x:Nat):x&&&4294967295=x%4294967296:=Nat.and_two_pow_sub_one_eq_mod x 32
theorem bJr{x y:Nat}(hx:x<18446744073709551616)(hy:y<18446744073709551616) :
  ((x/4294967296*(y/4294967296)%18446744073709551616+(x/4294967296*(y&&&4294967295)%18446744073709551616+(x&&&4294967295)*(y&&&4294967295)%18446744073709551616/4294967296)%18446744073709551616/4294967296)%18446744073709551616 +
     (((x/4294967296*(y&&&4294967295)%18446744073709551616+(x&&&4294967295)*(y&&&4294967295)%18446744073709551616/4294967296)%18446744073709551616&&&4294967295)+(x&&&4294967295)*(y/4294967296)%18446744073709551616)%18446744073709551616/4294967296)%18446744073709551616=x*y/18446744073709551616:=by
 simp only[bND];have q:x/4294967296≤4294967295:=by omega
 have f:x%4294967296≤4294967295:=by omega
 have b1:y/4294967296≤4294967295:=by omega
 have g:y%4294967296≤4294967295:=by omega
 have I:=Nat.div_add_mod x 4294967296;have z:=Nat.div_add_mod y 4294967296;generalize x/4294967296=a at *;generalize x%4294967296=b at *;generalize y/4294967296=c at *;generalize y%4294967296=d at *;subst I; subst z;have e:(4294967296*a+b)*(4294967296*c+d)=a*c*18446744073709551616+(a*d+b*c)*4294967296+b*d:=by
  grind
 rw[e];have Y:=Nat.mul_le_mul q b1;have N:=Nat.mul_le_mul q g;have U:=Nat.mul_le_mul f b1;have W:=Nat.mul_le_mul f g;generalize a*c=Z at *;generalize a*d=J at *;generalize b*c=O at *;generalize b*d=L at *;omega
theorem aUI(x:Nat)(g:(Ty.u .u64).wf x)(y:Nat)(f:(Ty.u .u64).wf y):aBV none x y=some (cY x y):=by
 unfold aBV cY;try simp only[pN,mulM,aKN]
 simp only[aQ2];grind[bJr,aMj]
abbrev Sz(a:List Nat):Prop:=a.length≤1099511627776
abbrev pSz(a:List Nat):Prop:=Sz a
abbrev aSg(a b:List Nat):Prop:=Sz a∧Sz b
abbrev bCm(a b:List Nat):Prop:=Nrm a∧Nrm b
abbrev bGa(a:List Nat):Prop:=Nrm a∧Sz a
theorem aHG{a:List Nat}(h:0<a.length):Nrm a↔a.getD (a.length-1) 0≠0:=by
 unfold Nrm;grind
def aC0(F:Md)(f:qd):Option (qd⊕qd) :=
 ck (((0:Int)<(f.length:Int))→(I64 ((f.length:Int)-(1:Int)))) (ck (((0:Int)<(f.length:Int))→(0≤((f.length:Int)-(1:Int))∧((f.length:Int)-(1:Int))<(f.length:Int))) (if ((0:Int)<(f.length:Int))∧((f.getD ((f.length:Int)-(1:Int)).toNat (0:Nat))=(0:Nat)) then ck (I64 ((f.length:Int)-(1:Int))) (ck (0≤((f.length:Int)-(1:Int))∧((f.length:Int)-(1:Int))≤(f.length:Int)) (some (.inl (List.take ((f.length:Int)-(1:Int)).toNat f)))) else some (.inr f)))
def aFh(F:Md)(f:qd):Option qd :=
 (bO F (fun d:qd=>aC0 F d) f).bind (fun e=>some e)
def dK(a:List Nat):List Nat:=lb (nv a)
theorem aZG(a:List Nat)(w:(Ty.sl qk).wf a):aFh none a=some (dK a):=by
 unfold aFh;refine aJ (kU (I:=fun d=>Lm d∧d.length≤9223372036854775807) (fun d=>d.length) (fun d=>lb (nv d)) ?_ a ⟨aFg w,bEm w⟩) rfl;intro d ⟨hl,g⟩;unfold aC0;rcases Nat.eq_zero_or_pos d.length with h0|h0
 ·right
  have e:d= []:=List.eq_nil_of_length_eq_zero h0;simp_all[aC,if_neg,aZC,zE]
 ·have e1:(d.length:Int)-1=((d.length-1:Nat):Int):=by omega
  rw[e1,Int.toNat_natCast];by_cases f:d.getD (d.length-1) 0=0
  ·left
   refine⟨d.take (d.length-1),aC (by omega) (aC (by omega) ?_),⟨aEn hl _,by grind⟩,by grind,?_⟩
   ·rw[if_pos ⟨by omega,f⟩];exact aC (by omega) (aC (by omega) rfl)
   ·have:=uT (a:=d) (k:=d.length-1) (by omega);rw[f,show d.length-1+1=d.length from by omega,List.take_length] at this;simp_all
  ·right
   refine aC (by omega) (aC (by omega) ?_);simp_all[if_neg,bJo,aHG]
def aGL(F:Md)(f:qd):Option Bool :=
 ck (¬((f.length:Int)=(0:Int))→((f.length:Int)≤(64:Int))→(I64 ((f.length:Int)-(1:Int)))) (ck (¬((f.length:Int)=(0:Int))→((f.length:Int)≤(64:Int))→(0≤((f.length:Int)-(1:Int))∧((f.length:Int)-(1:Int))<(f.length:Int))) (some ((decide ((f.length:Int)=(0:Int)))||((decide ((f.length:Int)≤(64:Int)))&&(!(decide ((f.getD ((f.length:Int)-(1:Int)).toNat (0:Nat))=(0:Nat))))))))
def aGM(a:List Nat):Bool:=decide (a.length≤64∧Nrm a)
theorem bCn(a:List Nat)(w:(Ty.sl qk).wf a):aGL none a=some (aGM a):=by
 have f:=bEm w;unfold aGL aGM;rcases Nat.eq_zero_or_pos a.length with h0|h0
 ·have e:a= []:=List.eq_nil_of_length_eq_zero h0;subst e;rfl
 ·have e1:(a.length:Int)-1=((a.length-1:Nat):Int):=by omega
  rw[e1,Int.toNat_natCast];refine aC (by omega) (aC (by omega) ?_)
  congr 1
  rw[Bool.eq_iff_iff];have:=aHG h0;grind
def aFi(F:Md)(f:Bool):Option Int :=
 if f=true then some (-1:Int) else some (1:Int)
def aA7(b:Bool):Int:=if b=true then -1 else 1
theorem aZH(b:Bool)(w:Ty.bool.wf b):aFi none b=some (aA7 b):=by
 grind[aFi,aA7]
def xY(F:Md)(q:qd)(g:qd)(f:Int):Option ((Int)⊕((Unit)⊕Int)) :=
 if (0:Int)≤f then ck (0≤f∧f<(q.length:Int)) (ck (0≤f∧f<(g.length:Int)) (if ¬((q.getD (f.toNat) (0:Nat))=(g.getD (f.toNat) (0:Nat))) then ck (0≤f∧f<(q.length:Int)) (ck (0≤f∧f<(g.length:Int)) (some (.inr (.inr (aA7 (decide ((q.getD (f.toNat) (0:Nat))<(g.getD (f.toNat) (0:Nat))))))))) else ck (I64 (f-(1:Int))) (some (.inl (f-(1:Int)))))) else some (.inr (.inl ()))
def aDG(F:Md)(f:qd)(g:qd):Option Int :=
 if ¬((f.length:Int)=(g.length:Int)) then some (aA7 (decide ((f.length:Int)<(g.length:Int)))) else ck (I64 ((f.length:Int)-(1:Int))) ((bO F (fun d:Int=>xY F f g d) ((f.length:Int)-(1:Int))).bind (fun e=>match e with|(.inl e)=>some (0:Int)|(.inr e)=>some e))
def xP(x y:Nat):Int:=if x<y then -1 else if x=y then 0 else 1
def gQ(a b:List Nat):Int:=xP (nv a) (nv b)
theorem aYD{a b:List Nat}(ha:Lm a)(hb:Nrm b)(h:a.length<b.length):nv a<nv b:=by
 have f:=qX ha;have g:=bF8 hb (by grind);grind[Nat.lt_of_lt_of_le,Nat.le_trans,Nat.pow_le_pow_right]
theorem aW9(a:List Nat)(O:(Ty.sl qk).wf a)(b:List Nat)(Z:(Ty.sl qk).wf b)(hp:bCm a b):aDG none a b=some (gQ a b):=by
 have U:=aFg O;have L:=aFg Z;have na:=bEm O;unfold aDG gQ;refine aGJ (fun h=>?_) (fun h=>?_)
 ·unfold aA7 xP;rcases Nat.lt_or_ge a.length b.length with hl|hl
  ·grind[aYD]
  ·have N:b.length<a.length:=(by omega);have:=aYD L hp.1 N;grind
 ·have f:a.length=b.length:=by omega
  refine aC (by omega) ?_;have g:=kU (step:=fun d:Int=>xY none a b d) (I:=fun i=> -1≤i∧i<a.length∧nv (a.drop (i+1).toNat)=nv (b.drop (i+1).toNat)) (fun i=>(i+1).toNat)
   (fun i=>if nv (a.take (i+1).toNat)=nv (b.take (i+1).toNat) then (.inl ():Unit⊕Int) else .inr (if nv (a.take (i+1).toNat)<nv (b.take (i+1).toNat) then -1 else 1)) ?_ ((a.length:Int)-1) ⟨by omega,by omega,by grind[List.drop_eq_nil_of_le]⟩
  ·rw[show ((a.length:Int)-1+1).toNat=a.length from by omega,List.take_length] at g;rw[f,List.take_length] at g;rw[f];refine aJ g ?_;grind[xP,nv]
  ·intro i ⟨h1,h2,h3⟩;(try dsimp only);unfold xY;by_cases hi:0≤i
   ·have hk:(i+1).toNat=i.toNat+1:=(by omega);have hia:i.toNat<a.length:=(by omega);have hib:i.toNat<b.length:=(by omega);rw[if_pos hi,hk,uT hia,uT hib];have W:=qX (aEn U i.toNat);have Y:=qX (aEn L i.toNat);rw[List.length_take,Nat.min_eq_left (by omega)] at W Y;by_cases he:a.getD i.toNat 0=b.getD i.toNat 0
    ·left
     refine⟨i-1,aC (by omega) (aC (by omega) ?_),⟨by omega,by omega,?_⟩,by omega,?_⟩
     ·rw[if_neg (by omega)];exact aC (by omega) rfl
     ·rw[show (i-1+1).toNat=i.toNat from by omega,List.drop_eq_getElem_cons hia,List.drop_eq_getElem_cons hib,sZ,sZ];exact zaq
     simp_all
    ·right
     refine aC (by omega) (aC (by omega) ?_);rw[if_pos he];refine aC (by omega) (aC (by omega) ?_);unfold aA7;generalize a.getD i.toNat 0=x at *;generalize b.getD i.toNat 0=y at *;generalize nv (a.take i.toNat)=p at *;generalize nv (b.take i.toNat)=q at *;generalize 18446744073709551616^i.toNat=P at *;rcases Nat.lt_or_ge x y with J|J
     ·have:P*(x+1)≤P*y:=Nat.mul_le_mul_left _ J;grind
     ·have z:y<x:=(by omega);have:P*(y+1)≤P*x:=Nat.mul_le_mul_left _ z;grind
   ·right
    have e:i= -1:=(by omega);simp_all
def aFj(F:Md)(f:qd):Option Int :=
 if (f.length:Int)=(0:Int) then some (0:Int) else ck (I64 ((64:Int)*(f.length:Int))) (ck (I64 ((f.length:Int)-(1:Int))) (ck (0≤((f.length:Int)-(1:Int))∧((f.length:Int)-(1:Int))<(f.length:Int)) (ck (I64 (((64:Int)*(f.length:Int))-(aF (f.getD ((f.length:Int)-(1:Int)).toNat (0:Nat))))) (some (((64:Int)*(f.length:Int))-(aF (f.getD ((f.length:Int)-(1:Int)).toNat (0:Nat))))))))
def pO(a:List Nat):Int:=(bl (nv a):Int)
theorem aGf(k:Nat):18446744073709551616^k=2^(64*k):=by rw[Nat.pow_mul]
theorem bJs{x m k:Nat}(hx:x≠0)(hm:m<2^k):bl (m+2^k*x)=k+bl x:=by
 have hk:=Nat.two_pow_pos k;have f:2^k*1≤2^k*x:=Nat.mul_le_mul_left _ (by omega);rw[aJm (x:=m+2^k*x) (k:=k) (by omega),Nat.add_mul_div_left _ _ hk,Nat.div_eq_of_lt hm,Nat.zero_add]
theorem bGb{a:List Nat}(h:0<a.length):nv a=nv (a.take (a.length-1))+18446744073709551616^(a.length-1)*a.getD (a.length-1) 0:=by
 have:=uT (a:=a) (k:=a.length-1) (by omega);grind
theorem bLP{a:List Nat}(hl:Lm a)(f:Nrm a)(h:0<a.length):bl (nv a)=64*(a.length-1)+bl (a.getD (a.length-1) 0):=by
 rw[bGb h,aGf];refine bJs ((aHG h).1 f) ?_;have:=qX (aEn hl (a.length-1));grind[List.length_take,Nat.min_eq_left,aGf]
theorem aZI(a:List Nat)(w:(Ty.sl qk).wf a)(hp:bGa a):aFj none a=some (pO a):=by
 obtain⟨f,hs⟩:=hp;unfold aFj pO;refine aGJ (fun h=>?_) (fun h=>?_)
 ·have e:a= []:=List.eq_nil_of_length_eq_zero (by omega);subst e; rfl
 ·have h0:0<a.length:=by omega
  have h64:=bJq (gG (aFg w) (a.length-1));have e1:(a.length:Int)-1=((a.length-1:Nat):Int):=by omega
  rw[e1,Int.toNat_natCast];unfold aF;rw[bLP (aFg w) f h0];refine aC (by omega) (aC (by omega) (aC (by omega) (aC (by omega) ?_)));grind
def tzn(n:Nat):Nat:=if h:n=0 then 0 else if n%2=1 then 0 else 1+tzn (n/2)
termination_by n
decreasing_by omega
theorem aDH{n:Nat}(h:n≠0):∃m,n=2^tzn n*(2*m+1):=by
 induction n using Nat.strongRecOn with
 | _ n f =>
  rw[tzn,dif_neg h];split
  ·exact⟨n/2,by omega⟩
  ·obtain⟨m,hm⟩:=f (n/2) (Nat.div_lt_self (by omega) xAb) (by omega);refine⟨m,?_⟩;grind[Nat.add_comm,Nat.pow_succ,Nat.mul_assoc,Nat.mul_comm]
theorem bLQ{a b m k:Nat}(h:2^a*(2*m+1)=2^b*(2*k+1)):a=b:=by
 have f:∀ {a b m k:Nat},2^a*(2*m+1)=2^b*(2*k+1)→ ¬a<b:=fun {a b m k} h g=>by
  obtain⟨d,rfl⟩:∃d,b=a+(d+1):=⟨b-a-1,by omega⟩;rw[Nat.pow_add,Nat.mul_assoc] at h;have:=Nat.eq_of_mul_eq_mul_left (Nat.two_pow_pos a) h;grind
 grind
theorem aUJ{n k m:Nat}(h:n=2^k*(2*m+1)):tzn n=k:=by
 have h0:n≠0:=by
  grind
 obtain⟨f,hm⟩:=aDH h0;grind[bLQ]
theorem bGc{x:Nat}(k:Nat)(h:x≠0):tzn (2^k*x)=k+tzn x:=by
 obtain⟨m,hm⟩:=aDH h;refine aUJ (m:=m) ?_;grind
theorem bGd{x:Nat}(hx:x<18446744073709551616)(h:x≠0):Lib.ctz 64 x=tzn x∧tzn x<64:=by
 obtain⟨m,hm,hk⟩:=Lib.ctzFrom_spec 64 x (by omega) hx;grind[Go.Lib.ctz,Go.Lib.ctzFrom,aUJ]
theorem bLR{x q:Nat}(hx:x<18446744073709551616)(h:x≠0):tzn (x+18446744073709551616*q)=tzn x:=by
 obtain⟨m,hm⟩:=aDH h;have hk:=(bGd hx h).2;refine aUJ (m:=m+2^(63-tzn x)*q) ?_;have e:18446744073709551616=2^tzn x*(2*2^(63-tzn x)):=by
  rw[← Nat.mul_assoc,Nat.mul_comm _ 2,← Nat.pow_succ',← Nat.pow_add,show tzn x+1+(63-tzn x)=64 from by omega]
 grind
theorem bEn{n:Nat}(h:n≠0):2^tzn n≤n:=by
 obtain⟨m,hm⟩:=aDH h;grind
def xZ(F:Md)(g:qd)(f:Int):Option ((Int)⊕((Unit)⊕Int)) :=
 if f<(g.length:Int) then ck (0≤f∧f<(g.length:Int)) (if ¬((g.getD (f.toNat) (0:Nat))=(0:Nat)) then ck (I64 ((64:Int)*f)) (ck (I64 (((64:Int)*f)+(gH (g.getD (f.toNat) (0:Nat))))) (some (.inr (.inr (((64:Int)*f)+(gH (g.getD (f.toNat) (0:Nat)))))))) else ck (I64 (f+(1:Int))) (some (.inl (f+(1:Int))))) else some (.inr (.inl ()))
def aDI(F:Md)(f:qd):Option Int :=
 (bO F (fun d:Int=>xZ F f d) (0:Int)).bind (fun e=>match e with|(.inl e)=>some (-1:Int)|(.inr e)=>some e)
def gR(a:List Nat):Int:=if nv a=0 then -1 else (tzn (nv a):Int)
theorem aXa(a:List Nat)(w:(Ty.sl qk).wf a)(hp:pSz a):aDI none a=some (gR a):=by
 have hl:=aFg w;have hs:a.length≤1099511627776:=hp;unfold aDI gR;have z:=kU (step:=fun d:Int=>xZ none a d) (I:=fun i=>0≤i∧i≤a.length∧nv (a.take i.toNat)=0) (fun i=>(a.length-i).toNat)
   (fun i=>if nv a=0 then (.inl ():Unit⊕Int) else .inr (tzn (nv a):Int)) ?_ 0 ⟨by omega,by omega,rfl⟩
 ·grind
 ·intro i ⟨h0,N,q⟩;try dsimp only
  unfold xZ;by_cases hi:i<a.length
  ·have hk:i.toNat<a.length:=(by omega);have hd:=aBT a i.toNat;rw[q,Nat.zero_add,Nat.min_eq_left (by omega),List.drop_eq_getElem_cons hk,sZ] at hd;have L:a.getD i.toNat 0=a[i.toNat]:=(by simp_all);have hx:=gG hl i.toNat;rw[← L] at hd;rw[if_pos hi];by_cases g:a.getD i.toNat 0=0
   ·left
    refine⟨i+1,aC (by omega) ?_,⟨by omega,by omega,?_⟩,by omega,rfl⟩
    ·rw[if_neg (by omega)];exact aC (by omega) rfl
    ·rw[show (i+1).toNat=i.toNat+1 from by omega,uT hk,q,g,Nat.mul_zero]
   ·right
    obtain⟨c1,O⟩:=bGd hx g;have J:a.getD i.toNat 0+18446744073709551616*nv (a.drop (i.toNat+1))≠0:=(by omega);have ht:tzn (nv a)=64*i.toNat+tzn (a.getD i.toNat 0):=by
     grind[aGf,bGc,bLR]
    have f:nv a≠0:=by
     grind[Nat.mul_ne_zero,aGf,Nat.pos_iff_ne_zero,Nat.two_pow_pos]
    refine aC (by omega) ?_;rw[if_pos (by omega),if_neg f,ht];unfold gH;rw[c1];refine aC (by omega) (aC (by omega) ?_);grind
  ·right
   rw[if_neg hi];have:nv a=0:=(by grind[List.take_length]);simp_all
theorem uU(b:List Nat)(i:Nat):nv (b.take (i+1))=nv (b.take i)+18446744073709551616^i*b.getD i 0:=by
 rcases Nat.lt_or_ge i b.length with h|h
 ·exact uT h
 ·rw[List.take_of_length_le (by omega),List.take_of_length_le h,List.getD_eq_getElem?_getD,List.getElem?_eq_none h];simp
theorem bJt{a:List Nat}{i v:Nat}(h:i<a.length):(a.set i v).take (i+1)=a.take i++ [v]:=by
 rw[take_succ (by simp_all),List.take_set_of_le (Nat.le_refl i),List.getD_eq_getElem?_getD,List.getElem?_set_self h]; rfl
theorem aQ3{a:List Nat}{i v:Nat}(h:i<a.length):nv ((a.set i v).take (i+1))=nv (a.take i)+18446744073709551616^i*v:=by
 rw[bJt h,aMi,List.length_take,Nat.min_eq_left (Nat.le_of_lt h)]; simp[nv]
theorem aHH{a b:List Nat}{i:Nat}(h:a.drop i=b.drop i):a.getD i 0=b.getD i 0:=by
 have f:=congrArg (fun l=>l.getD 0 0) h;grind
theorem aCK{a b:List Nat}{i:Nat}(h:a.drop i=b.drop i):a.drop (i+1)=b.drop (i+1):=by
 have f:=congrArg (List.drop 1) h;grind[List.drop_drop]
theorem drop_set{a:List Nat}{i v:Nat}:(a.set i v).drop (i+1)=a.drop (i+1):=by
 grind[List.drop_set_of_lt]
def rZ(F:Md)(f:Int)(g:qd)(carry_12:Nat)(q:Nat):Option (wm⊕qd) :=
 ck (0≤f∧f<(g.length:Int)) (ck (aFd (g.getD (f.toNat) (0:Nat)) q carry_12) (ck (0≤f∧f<(g.length:Int)) (ck (I64 (f+(1:Int))) (some (.inl ((qY (g.getD (f.toNat) (0:Nat)) q carry_12).2.1,(f+(1:Int)),(g.set (f.toNat) (qY (g.getD (f.toNat) (0:Nat)) q carry_12).1)))))))
def sA(F:Md)(z:qd)(q:qd)(carry_12:Nat)(f:Int)(g:qd):Option (wm⊕qd) :=
 if f<((((id z)++([0]:List Nat)).length:Nat):Int) then if f<(q.length:Int) then ck (0≤f∧f<(q.length:Int)) (rZ F f g carry_12 (q.getD (f.toNat) (0:Nat))) else if carry_12=(0:Nat) then some (.inr g) else rZ F f g carry_12 (0:Nat) else some (.inr g)
def sB(F:Md)(f:qd)(g:qd):Option qd :=
 ck (bHq f) (ck (((id f).length+(1:Nat))*8≤140737488355328) ((bO F (fun d:Nat×Int×qd=>sA F f g d.1 d.2.1 d.2.2) ((0:Nat),(0:Int),((id f)++([0]:List Nat)))).bind (fun e=>some (dK e))))
def aFk(F:Md)(g:qd)(f:qd):Option qd :=
 if (g.length:Int)<(f.length:Int) then sB F f g else sB F g f
def aCL(a b:List Nat):List Nat:=lb (nv a+nv b)
structure aQ4(a b:List Nat)(c:Nat)(i:Int)(out:List Nat):Prop where
 i0:0≤i
 i1:i≤a.length+1
 len:out.length=a.length+1
 lm:Lm out
 c1:c≤1
 rest:out.drop i.toNat=(a++ [0]).drop i.toNat
 sum:nv (out.take i.toNat)+18446744073709551616^i.toNat*c=nv ((a++ [0]).take i.toNat)+nv (b.take i.toNat)
theorem bJu{P p q r x y c s c':Nat}(h:p+P*c=q+r)(e:s+18446744073709551616*c'=x+y+c):p+P*s+P*18446744073709551616*c'=q+P*x+(r+P*y):=by
 grind
theorem aUK{a b:List Nat}{c:Nat}{i:Int}{out:List Nat}(f:Lm b)(h:aQ4 a b c i out)(hi:i<a.length+1):aQ4 a b ((out.getD i.toNat 0+b.getD i.toNat 0+c)/18446744073709551616) (i+1) (out.set i.toNat ((out.getD i.toNat 0+b.getD i.toNat 0+c)%18446744073709551616)):=by
 have hx:=gG h.lm i.toNat;have hy:=gG f i.toNat;have hc:=h.c1;have h0:=h.i0;have hl:=h.len;have e1:(i+1).toNat=i.toNat+1:=by omega
 refine⟨by omega,by omega,by simp_all,aCI h.lm _ (Nat.mod_lt _ xAb),by omega,?_,?_⟩
 ·rw[e1,drop_set]; exact aCK h.rest
 ·rw[e1,aQ3 (by omega),uU,uU b,← aHH h.rest,Nat.pow_succ];exact bJu h.sum (Nat.mod_add_div _ _)
theorem bGe{a b:List Nat}{c:Nat}{i:Int}{out:List Nat}(f:a.length≤1099511627776)(h:aQ4 a b c i out)(hi:i<a.length+1)(y:Nat):rZ none i out c y=some (.inl ((out.getD i.toNat 0+y+c)/18446744073709551616,i+1,out.set i.toNat ((out.getD i.toNat 0+y+c)%18446744073709551616))):=by
 have h0:=h.i0;have hl:=h.len;unfold rZ qY;exact aC (by omega) (aC h.c1 (aC (by omega) (aC (by omega) rfl)))
theorem aYE{a b:List Nat}{i:Int}{out:List Nat}(h:aQ4 a b 0 i out)(hb:(b.length:Int)≤i):nv out=nv a+nv b:=by
 have z:nv (a++ [0])=nv a:=by rw[aMi]; simp[nv]
 have I:(a++ [0]).length=a.length+1:=by simp
 have h0:=h.i0;have J:=h.i1;have hl:=h.len;have q:=h.sum;rw[Nat.mul_zero,Nat.add_zero,List.take_of_length_le (l:=b) (by omega)] at q;have g:=aBT out i.toNat;have f:=aBT (a++ [0]) i.toNat;rw[Nat.min_eq_left (by omega)] at g;rw[Nat.min_eq_left (by omega)] at f;rw[g,q,h.rest,← z,f]; omega
theorem bEo{a b:List Nat}{c:Nat}{i:Int}{out:List Nat}(z:Lm a)(g:Lm b)(f:b.length≤a.length)(h:aQ4 a b c i out)(hi:¬i<a.length+1):c=0:=by
 have I:nv (a++ [0])=nv a:=by rw[aMi]; simp[nv]
 have J:(a++ [0]).length=a.length+1:=by simp
 have L:=h.i1;have hl:=h.len;have q:=h.sum;rw[List.take_of_length_le (l:=out) (by omega),List.take_of_length_le (l:=a++ [0]) (by omega),List.take_of_length_le (l:=b) (by omega),I] at q;have N:=qX z;have O:=Nat.lt_of_lt_of_le (qX g) (Nat.pow_le_pow_right (show 0<18446744073709551616 by decide) f);rw[show i.toNat=a.length+1 from by omega,Nat.pow_succ] at q;rcases Nat.eq_zero_or_pos c with h|h
 ·exact h
 ·have:18446744073709551616^a.length*18446744073709551616*1≤18446744073709551616^a.length*18446744073709551616*c:=Nat.mul_le_mul_left _ h;omega
theorem bLS{a b:List Nat}(I:Lm a)(f:Lm b)(L:a.length≤1099511627776)(q:b.length≤a.length){c:Nat}{i:Int}{out:List Nat}(h:aQ4 a b c i out) :
  (∃g:Nat×Int×List Nat,sA none a b c i out=some (.inl g)∧aQ4 a b g.1 g.2.1 g.2.2∧(a.length+1-g.2.1).toNat<(a.length+1-i).toNat)∨ ∃e,sA none a b c i out=some (.inr e)∧Lm e∧nv e=nv a+nv b:=by
 have J:(id a++ [0]).length=a.length+1:=by simp
 have h0:=h.i0;unfold sA;rw[J];by_cases hi:i<a.length+1
 ·rw[if_pos (by omega)];by_cases hb:i<b.length
  ·left
   refine⟨(_,_,_),?_,aUK f h hi,?_⟩
   ·rw[if_pos hb];exact aC (by omega) (bGe L h hi _)
   grind
  ·rw[if_neg hb];have z:b.getD i.toNat 0=0:=(by simp_all);by_cases hc:c=0
   ·right
    subst hc;exact⟨out,by rfl,h.lm,aYE h (by omega)⟩
   ·left
    have hs:=aUK f h hi;rw[z] at hs;refine⟨(_,_,_),?_,hs,?_⟩
    ·rw[if_neg hc]; grind[bGe]
    grind
 ·right
  rw[if_neg (by omega)];have hc:=bEo I f q h hi;subst hc;exact⟨out,rfl,h.lm,aYE h (by omega)⟩
theorem bLT{a b:List Nat}(J:Lm a)(z:Lm b)(q:Sz a)(g:b.length≤a.length):sB none a b=some (lb (nv a+nv b)):=by
 have q:a.length≤1099511627776:=q;have f:=cO (step:=fun d:Nat×Int×qd=>sA none a b d.1 d.2.1 d.2.2) (I:=fun d=>aQ4 a b d.1 d.2.1 d.2.2) (fun d=>(a.length+1-d.2.1).toNat)
   (fun e=>Lm e∧nv e=nv a+nv b) (fun d h=>bLS J z q g h) (0,0,a++ [0]) ⟨by simp,by grind,by simp,bEl J (by intro x hx; simp_all),by simp,rfl,by simp[nv]⟩
 obtain⟨e,L,N,h3⟩:=f;unfold sB;refine aC (by omega) (aC (by grind) (aJ L ?_));rw[dK,h3]
theorem aZJ(a:List Nat)(f:(Ty.sl qk).wf a)(b:List Nat)(g:(Ty.sl qk).wf b)(hp:aSg a b):aFk none a b=some (aCL a b):=by
 unfold aFk aCL;refine aGJ (fun h=>?_) (fun h=>?_)
 all_goals grind[bLT,aFg,Nat.add_comm]
def aFl(F:Md)(f:qd):Option qd :=
 ck (bHq (dK f)) (some (id (dK f)))
def sC(a:List Nat):List Nat:=lb (nv a)
theorem bHr{a:List Nat}(h:Lm a):(lb (nv a)).length≤a.length:=aBS.2 (qX h)
theorem aZK(a:List Nat)(w:(Ty.sl qk).wf a)(hp:pSz a):aFl none a=some (sC a):=by
 have hp:a.length≤1099511627776:=hp;have:=bHr (aFg w);unfold aFl sC dK;exact aC (by omega) rfl
theorem bJv{x y c o:Nat}(hx:x<18446744073709551616)(hy:y<18446744073709551616)(hc:c<18446744073709551616)(f:o<18446744073709551616) :
  (o+(x*y%18446744073709551616+c+0)%18446744073709551616+0)%18446744073709551616+18446744073709551616*(((x*y/18446744073709551616+(x*y%18446744073709551616+c+0)/18446744073709551616)%18446744073709551616+(o+(x*y%18446744073709551616+c+0)%18446744073709551616+0)/18446744073709551616)%18446744073709551616)=o+x*y+c:=by
 have p:x*y≤18446744073709551615*18446744073709551615:=Nat.mul_le_mul (by omega) (by omega);omega
theorem xA{a:List Nat}(h:Lm a)(k:Nat):a.getD k 0=nv a/18446744073709551616^k%18446744073709551616:=by
 rw[← aNm h];rcases Nat.lt_or_ge k a.length with hk|hk
 ·rw[List.drop_eq_getElem_cons hk,sZ,Nat.add_mul_mod_self_left,List.getD_eq_getElem?_getD,List.getElem?_eq_getElem hk];exact(Nat.mod_eq_of_lt (h _ (List.getElem_mem hk))).symm
 ·rw[List.drop_eq_nil_of_le hk,List.getD_eq_getElem?_getD,List.getElem?_eq_none hk]; rfl
theorem aYF{a:List Nat}(h:Lm a){k:Nat}(hk:nv a<18446744073709551616^k):a.getD k 0=0:=by
 rw[xA h,Nat.div_eq_of_lt hk]
def yA(F:Md)(f:Int)(q:qd)(carry_62:Nat)(g:qd):Option (ww⊕qd) :=
 ck (I64 (f+(q.length:Int))) (ck (0≤(f+(q.length:Int))∧(f+(q.length:Int))<(g.length:Int)) (ck (I64 (f+(1:Int))) (some (.inl ((f+(1:Int)),(g.set (f+(q.length:Int)).toNat carry_62))))))
def pP(F:Md)(z:qd)(I:qd)(g:Int)(carry_64:Nat)(f:Int)(q:qd):Option (wm⊕vg) :=
 if f<(z.length:Int) then ck (0≤f∧f<(z.length:Int)) (ck (aFd (cY (I.getD (g.toNat) (0:Nat)) (z.getD (f.toNat) (0:Nat))).2.1 carry_64 (0:Nat)) (ck (I64 (g+f)) (ck (I64 (g+f)) (ck (0≤(g+f)∧(g+f)<(q.length:Int)) (ck (aFd (q.getD (g+f).toNat (0:Nat)) (qY (cY (I.getD (g.toNat) (0:Nat)) (z.getD (f.toNat) (0:Nat))).2.1 carry_64 (0:Nat)).1 (0:Nat)) (ck (0≤(g+f)∧(g+f)<(q.length:Int)) (ck (I64 (f+(1:Int))) (some (.inl ((((((cY (I.getD (g.toNat) (0:Nat)) (z.getD (f.toNat) (0:Nat))).1+(qY (cY (I.getD (g.toNat) (0:Nat)) (z.getD (f.toNat) (0:Nat))).2.1 carry_64 (0:Nat)).2.1)%18446744073709551616)+(qY (q.getD (g+f).toNat (0:Nat)) (qY (cY (I.getD (g.toNat) (0:Nat)) (z.getD (f.toNat) (0:Nat))).2.1 carry_64 (0:Nat)).1 (0:Nat)).2.1)%18446744073709551616),(f+(1:Int)),(q.set (g+f).toNat (qY (q.getD (g+f).toNat (0:Nat)) (qY (cY (I.getD (g.toNat) (0:Nat)) (z.getD (f.toNat) (0:Nat))).2.1 carry_64 (0:Nat)).1 (0:Nat)).1))))))))))) else some (.inr (carry_64,q))
def pQ(F:Md)(q:qd)(z:qd)(f:Int)(g:qd):Option (ww⊕qd) :=
 if f<(q.length:Int) then ck (0≤f∧f<(q.length:Int)) ((bO F (fun d:Nat×Int×qd=>pP F z q f d.1 d.2.1 d.2.2) ((0:Nat),(0:Int),g)).bind (fun e=>yA F f z e.1 e.2)) else some (.inr g)
def aDJ(F:Md)(g:qd)(f:qd):Option qd :=
 ck (I64 ((g.length:Int)+(f.length:Int))) (ck (0≤((g.length:Int)+(f.length:Int))) (ck ((8:Int)*((g.length:Int)+(f.length:Int))≤281474976710656) ((bO F (fun d:Int×qd=>pQ F g f d.1 d.2) ((0:Int),(List.replicate ((g.length:Int)+(f.length:Int)).toNat (0:Nat)))).bind (fun e=>some (dK e)))))
def bY(a b:List Nat):List Nat:=lb (nv a*nv b)
structure bCo(b:List Nat)(x:Nat)(i:Int)(o0:List Nat)(c:Nat)(j:Int)(out:List Nat):Prop where
 j0:0≤j
 j1:j≤b.length
 len:out.length=o0.length
 lm:Lm out
 c1:c<18446744073709551616
 rest:out.drop (i+j).toNat=o0.drop (i+j).toNat
 sum:nv out+18446744073709551616^(i+j).toNat*c=nv o0+18446744073709551616^i.toNat*x*nv (b.take j.toNat)
theorem bLU{N g f Q R P o v c c' x y t:Nat}(hP:P=Q*R)(q:g+P*o=N+P*v)(z:N+P*c=f+Q*x*t)(h3:v+18446744073709551616*c'=o+x*y+c):g+P*18446744073709551616*c'=f+Q*x*(t+R*y):=by
 grind
theorem bHs{b:List Nat}{x:Nat}{i:Int}{o0:List Nat}{c:Nat}{j:Int}{out:List Nat}(hx:x<18446744073709551616)(z:Lm b)(hi:0≤i)(hl:i+b.length≤o0.length)(h:bCo b x i o0 c j out)(I:j<b.length){v c':Nat}(hv:v<18446744073709551616)(f:c'<18446744073709551616)(e:v+18446744073709551616*c'=out.getD (i+j).toNat 0+x*b.getD j.toNat 0+c) :
  bCo b x i o0 c' (j+1) (out.set (i+j).toNat v):=by
 have h0:=h.j0;have g:=h.len;have e1:(i+(j+1)).toNat=(i+j).toNat+1:=by omega
 have q:(j+1).toNat=j.toNat+1:=by omega
 refine⟨by omega,by omega,by simp_all,aCI h.lm _ hv,f,?_,?_⟩
 ·rw[e1,drop_set]; exact aCK h.rest
 ·rw[e1,q,uU,Nat.pow_succ];exact bLU (R:=18446744073709551616^j.toNat) (by rw[← Nat.pow_add]; grind) (aFf (by omega)) h.sum e
theorem bJw{a b:List Nat}{i:Int}{o0:List Nat}(hi:0≤i)(hs:i+b.length≤9000000000000)(hl:i+b.length≤o0.length)(J:Lm a)(f:Lm b){c:Nat}{j:Int}{out:List Nat}(h:bCo b (a.getD i.toNat 0) i o0 c j out) :
  (∃g:Nat×Int×List Nat,pP none b a i c j out=some (.inl g)∧bCo b (a.getD i.toNat 0) i o0 g.1 g.2.1 g.2.2∧(b.length-g.2.1).toNat<(b.length-j).toNat)∨ ∃e:Nat×List Nat,pP none b a i c j out=some (.inr e)∧bCo b (a.getD i.toNat 0) i o0 e.1 b.length e.2:=by
 have h0:=h.j0;have z:=h.len;have N:=h.j1;have hx:=gG J i.toNat;have hy:=gG f j.toNat;have L:=gG h.lm (i+j).toNat;unfold pP;by_cases I:j<b.length
 ·left
  have q:=bJv hx hy h.c1 L;refine⟨(_,_,_),?_,bHs hx f hi hl h I (Nat.mod_lt _ xAb) (Nat.mod_lt _ xAb) q,?_⟩
  ·rw[if_pos I];refine aC (by omega) (aC (Nat.zero_le _) (aC (by omega) (aC (by omega) (aC (by omega) (aC (Nat.zero_le _) (aC (by omega) (aC (by omega) ?_)))))));rfl
  grind
 ·right
  refine⟨(c,out),by grind,?_⟩;grind
structure bJx(a b:List Nat)(i:Int)(out:List Nat):Prop where
 i0:0≤i
 i1:i≤a.length
 len:out.length=a.length+b.length
 lm:Lm out
 sum:nv out=nv (a.take i.toNat)*nv b
theorem bHt{a b:List Nat}{i:Int}{out:List Nat}(g:Lm a)(f:Lm b)(h:bJx a b i out):nv out<18446744073709551616^(i.toNat+b.length):=by
 rw[h.sum,Nat.pow_add];have q:=qX (aEn g i.toNat);have I:=qX f;have h3:(a.take i.toNat).length≤i.toNat:=by grind
 have z:=Nat.lt_of_lt_of_le q (Nat.pow_le_pow_right (show 0<18446744073709551616 by decide) h3);simp_all[Nat.pow_pos,Nat.mul_lt_mul'']
theorem bHu{a b:List Nat}{i:Int}{out:List Nat}(L:Lm a)(q:Lm b)(h:bJx a b i out)(hi:i<a.length){c:Nat}{f:List Nat}(g:bCo b (a.getD i.toNat 0) i out c b.length f):bJx a b (i+1) (f.set (i+b.length).toNat c):=by
 have h0:=h.i0;have hl:=h.len;have N:=g.len;have e1:(i+1).toNat=i.toNat+1:=by omega
 have z:(i+(b.length:Int)).toNat=i.toNat+b.length:=by omega
 have J:f.getD (i.toNat+b.length) 0=0:=by
  have:=aHH g.rest;rw[z] at this;rw[this];exact aYF h.lm (bHt L q h)
 refine⟨by omega,by omega,by simp_all,aCI g.lm _ g.c1,?_⟩;have I:=aFf (a:=f) (k:=i.toNat+b.length) (v:=c) (by omega);have hs:=g.sum;rw[z] at hs ⊢;rw[J,Nat.mul_zero,Nat.add_zero] at I;rw[I,hs,e1,uU,h.sum,Int.toNat_natCast,List.take_length,Nat.add_mul]
theorem aXb(a:List Nat)(N:(Ty.sl qk).wf a)(b:List Nat)(U:(Ty.sl qk).wf b)(hp:aSg a b):aDJ none a b=some (bY a b):=by
 have q:=aFg N;have f:=aFg U;have W:a.length≤1099511627776:=hp.1;have sb:b.length≤1099511627776:=hp.2;have g:=cO (step:=fun d:Int×qd=>pQ none a b d.1 d.2) (I:=fun d=>bJx a b d.1 d.2) (fun d=>(a.length-d.1).toNat) (fun e=>nv e=nv a*nv b) ?_ (0,List.replicate (a.length+b.length) 0) ⟨by simp,by simp,by simp,aPO _,by simp[aPN,nv]⟩
 ·obtain⟨e,J,O⟩:=g;unfold aDJ bY;rw[show ((a.length:Int)+(b.length:Int)).toNat=a.length+b.length from by omega];refine aC (by omega) (aC (by omega) (aC (by omega) (aJ J ?_)));rw[dK,O]
 ·rintro⟨i,out⟩ h;have h:bJx a b i out:=h;have h0:=h.i0;have J:=h.i1;have hl:=h.len;show (∃Y,pQ none a b i out=_∧_)∨ ∃e,pQ none a b i out=_∧_;unfold pQ;by_cases hi:i<a.length
  ·left
   obtain⟨e,q1,L⟩:=cO (step:=fun d:Nat×Int×qd=>pP none b a i d.1 d.2.1 d.2.2) (I:=fun d=>bCo b (a.getD i.toNat 0) i out d.1 d.2.1 d.2.2) (fun d=>(b.length-d.2.1).toNat) (fun e=>bCo b (a.getD i.toNat 0) i out e.1 b.length e.2)
    (fun d hd=>bJw h0 (by omega) (by omega) q f hd) (0,0,out) ⟨by simp,by simp,rfl,h.lm,by simp,rfl,by simp[nv]⟩
   have z:=L.len;refine⟨(i+1,e.2.set (i+b.length).toNat e.1),?_,bHu q f h hi L,by omega⟩;rw[if_pos hi];refine aC (by omega) (aJ q1 ?_);unfold yA;exact aC (by omega) (aC (by omega) (aC (by omega) rfl))
  ·right
   refine⟨out,by grind,?_⟩;have:=h.sum;rw[show i.toNat=a.length from by omega,List.take_length] at this;omega
theorem bJy{n:Int}(h:0≤n):Int.tdiv n 64=((n.toNat/64:Nat):Int)∧Int.tmod n 64=((n.toNat%64:Nat):Int):=by
 grind
theorem aYG{r:Nat}(h:r<64):((r:Int)%(18446744073709551616:Int)).toNat=r∧((63-(r:Int))%(18446744073709551616:Int)).toNat=63-r:=by omega
theorem bCp(r:Nat)(h:r≤64):2^(64-r)*2^r=18446744073709551616:=by
 rw[← Nat.pow_add,show 64-r+r=64 from by omega]
theorem aZL(x r:Nat)(h:r≤64):x*2^r%18446744073709551616=2^r*(x%2^(64-r)):=by
 grind[bCp,Nat.mul_comm,Nat.mul_mod_mul_left]
theorem bGf(x r:Nat)(h:r≤63):x*2^r/18446744073709551616=x/2/2^(63-r):=by
 rw[← bCp r (by omega),Nat.mul_div_mul_right _ _ (Nat.two_pow_pos r),Nat.div_div_eq_div_mul,← Nat.pow_succ',show (63-r).succ=64-r from by omega]
theorem bEp{o r t:Nat}(h:o<2^r):o|||2^r*t=o+2^r*t:=by
 have:=Nat.two_pow_add_eq_or_of_lt h t;rw[Nat.or_comm,← this,Nat.add_comm]
def sD(F:Md)(z:qd)(g:Int)(f:Int)(q:qd):Option (ww⊕qd) :=
 if f<(z.length:Int) then ck (0≤f∧f<(z.length:Int)) (ck (I64 (Int.tdiv g (64:Int))) (ck (I64 ((Int.tdiv g (64:Int))+f)) (ck (0≤((Int.tdiv g (64:Int))+f)∧((Int.tdiv g (64:Int))+f)<(q.length:Int)) (ck (0≤((Int.tdiv g (64:Int))+f)∧((Int.tdiv g (64:Int))+f)<(q.length:Int)) (ck (I64 (Int.tdiv g (64:Int))) (ck (I64 ((Int.tdiv g (64:Int))+f)) (ck (I64 (((Int.tdiv g (64:Int))+f)+(1:Int))) (ck (0≤(((Int.tdiv g (64:Int))+f)+(1:Int))∧(((Int.tdiv g (64:Int))+f)+(1:Int))<(((q.set ((Int.tdiv g (64:Int))+f).toNat ((q.getD ((Int.tdiv g (64:Int))+f).toNat (0:Nat))|||(((z.getD (f.toNat) (0:Nat))*(2^((Int.tmod g (64:Int))%(18446744073709551616:Int)).toNat))%18446744073709551616))).length:Nat):Int)) (ck (I64 ((63:Int)-(Int.tmod g (64:Int)))) (ck (0≤(((Int.tdiv g (64:Int))+f)+(1:Int))∧(((Int.tdiv g (64:Int))+f)+(1:Int))<(((q.set ((Int.tdiv g (64:Int))+f).toNat ((q.getD ((Int.tdiv g (64:Int))+f).toNat (0:Nat))|||(((z.getD (f.toNat) (0:Nat))*(2^((Int.tmod g (64:Int))%(18446744073709551616:Int)).toNat))%18446744073709551616))).length:Nat):Int)) (ck (I64 (f+(1:Int))) (some (.inl ((f+(1:Int)),((q.set ((Int.tdiv g (64:Int))+f).toNat ((q.getD ((Int.tdiv g (64:Int))+f).toNat (0:Nat))|||(((z.getD (f.toNat) (0:Nat))*(2^((Int.tmod g (64:Int))%(18446744073709551616:Int)).toNat))%18446744073709551616))).set (((Int.tdiv g (64:Int))+f)+(1:Int)).toNat (((q.set ((Int.tdiv g (64:Int))+f).toNat ((q.getD ((Int.tdiv g (64:Int))+f).toNat (0:Nat))|||(((z.getD (f.toNat) (0:Nat))*(2^((Int.tmod g (64:Int))%(18446744073709551616:Int)).toNat))%18446744073709551616))).getD (((Int.tdiv g (64:Int))+f)+(1:Int)).toNat (0:Nat))|||(((z.getD (f.toNat) (0:Nat))/(2:Nat))/(2^(((63:Int)-(Int.tmod g (64:Int)))%(18446744073709551616:Int)).toNat)))))))))))))))))) else some (.inr q)
def aFm(F:Md)(g:qd)(f:Int):Option qd :=
 if (g.length:Int)=(0:Int) then some ([]:List Nat) else ck (I64 (Int.tdiv f (64:Int))) (ck (I64 ((Int.tdiv f (64:Int))+(g.length:Int))) (ck (I64 (((Int.tdiv f (64:Int))+(g.length:Int))+(1:Int))) (ck (0≤(((Int.tdiv f (64:Int))+(g.length:Int))+(1:Int))) (ck ((8:Int)*(((Int.tdiv f (64:Int))+(g.length:Int))+(1:Int))≤281474976710656) ((bO F (fun d:Int×qd=>sD F g f d.1 d.2) ((0:Int),(List.replicate (((Int.tdiv f (64:Int))+(g.length:Int))+(1:Int)).toNat (0:Nat)))).bind (fun e=>some (dK e)))))))
abbrev aYH(a:List Nat)(n:Int):Prop:=Sz a∧0≤n∧n≤1099511627776
def fR(a:List Nat)(n:Int):List Nat:=lb (nv a*2^n.toNat)
structure bJz(a:List Nat)(q r:Nat)(i:Int)(out:List Nat):Prop where
 i0:0≤i
 i1:i≤a.length
 len:out.length=q+a.length+1
 lm:Lm out
 sum:nv out=nv (a.take i.toNat)*(18446744073709551616^q*2^r)
theorem bJA{a:List Nat}{q r:Nat}{i:Int}{out:List Nat}(f:Lm a)(J:r<64)(h:bJz a q r i out):out.getD (q+i.toNat) 0<2^r∧out.getD (q+i.toNat+1) 0=0:=by
 have g:=qX (aEn f i.toNat);have h3:(a.take i.toNat).length≤i.toNat:=by grind
 have z:=Nat.lt_of_lt_of_le g (Nat.pow_le_pow_right (show 0<18446744073709551616 by decide) h3);have hp:0<2^r:=Nat.two_pow_pos r;have I:nv out<18446744073709551616^(q+i.toNat)*2^r:=by
  rw[h.sum,Nat.pow_add,Nat.mul_comm (18446744073709551616^q) (18446744073709551616^i.toNat),Nat.mul_assoc];exact Nat.mul_lt_mul_of_pos_right z (Nat.mul_pos (Nat.pow_pos xAb) hp)
 have L:(2:Nat)^r≤18446744073709551616:=by
  have:=Nat.pow_le_pow_right (n:=2) (by omega) (show r≤64 by omega);omega
 constructor
 ·rw[xA h.lm];refine Nat.lt_of_le_of_lt (Nat.mod_le _ _) ?_;simp_all[Nat.div_lt_iff_lt_mul,Nat.pow_pos,Nat.mul_comm]
 ·refine aYF h.lm (Nat.lt_of_lt_of_le I ?_);simp_all[Nat.pow_succ,Nat.mul_le_mul_left]
theorem bLV{N g q P f Q x lo hi o T R:Nat}(I:g+P*o=N+P*(o+lo))(J:q=g+P*18446744073709551616*hi)(h3:lo+18446744073709551616*hi=x*R)(z:N=T*(f*R))(hP:P=f*Q):q=(T+Q*x)*(f*R):=by
 grind
theorem bHv{a:List Nat}{q r:Nat}{i:Int}{out:List Nat}(I:Lm a)(O:r<64)(h:bJz a q r i out)(hi:i<a.length) :
  bJz a q r (i+1) ((out.set (q+i.toNat) (out.getD (q+i.toNat) 0|||a.getD i.toNat 0*2^r%18446744073709551616)).set (q+i.toNat+1) ((out.set (q+i.toNat) (out.getD (q+i.toNat) 0|||a.getD i.toNat 0*2^r%18446744073709551616)).getD (q+i.toNat+1) 0|||a.getD i.toNat 0/2/2^(63-r))):=by
 have h0:=h.i0;have J:=h.len;obtain⟨W,l2⟩:=bJA I O h;have hx:=gG I i.toNat;have N:∀v,(out.set (q+i.toNat) v).getD (q+i.toNat+1) 0=0:=fun v=>by
  simp_all
 rw[N,Nat.zero_or,aZL _ _ (by omega),bEp W,← bGf _ _ (by omega)];have g:2^r*(a.getD i.toNat 0%2^(64-r))+18446744073709551616*(a.getD i.toNat 0*2^r/18446744073709551616)=a.getD i.toNat 0*2^r:=by
  grind[aZL,Nat.mod_add_div]
 have z:out.getD (q+i.toNat) 0+2^r*(a.getD i.toNat 0%2^(64-r))<18446744073709551616:=by
  have hm:a.getD i.toNat 0%2^(64-r)+1≤2^(64-r):=Nat.mod_lt _ (Nat.two_pow_pos _);have:=Nat.mul_le_mul_left (2^r) hm;grind[Nat.mul_comm,bCp,Nat.mul_add]
 have f:a.getD i.toNat 0*2^r/18446744073709551616<18446744073709551616:=by
  have:=Nat.div_le_self (a.getD i.toNat 0/2) (2^(63-r));grind[bGf]
 have e1:(i+1).toNat=i.toNat+1:=by omega
 refine⟨by omega,by omega,by simp_all,aCI (aCI h.lm _ z) _ f,?_⟩;have U:=aFf (a:=out) (k:=q+i.toNat) (v:=out.getD (q+i.toNat) 0+2^r*(a.getD i.toNat 0%2^(64-r))) (by omega);have L:=aFf (a:=out.set (q+i.toNat) (out.getD (q+i.toNat) 0+2^r*(a.getD i.toNat 0%2^(64-r)))) (k:=q+i.toNat+1) (v:=a.getD i.toNat 0*2^r/18446744073709551616) (by simp_all);rw[N,Nat.mul_zero,Nat.add_zero,Nat.pow_succ] at L;rw[e1,uU];exact bLV U L g h.sum (Nat.pow_add _ _ _)
theorem aYI(n:Nat):18446744073709551616^(n/64)*2^(n%64)=2^n:=by
 rw[aGf,← Nat.pow_add]; grind
theorem aZM(a:List Nat)(O:(Ty.sl qk).wf a)(n:Int)(wn:(Ty.i .i64).wf n)(hp:aYH a n):aFm none a n=some (fR a n):=by
 have U:=aFg O;obtain⟨N,n0,n1⟩:=hp;have N:a.length≤1099511627776:=N;obtain⟨L,W⟩:=bJy n0;have z:n.toNat%64<64:=Nat.mod_lt _ xAb;have hq:n.toNat/64≤1099511627776:=by omega
 have g:=aYI n.toNat;obtain⟨Y,Z⟩:=aYG z;unfold aFm fR;rw[L];refine aGJ (fun h=>?_) (fun h=>?_)
 ·simp_all[List.eq_nil_of_length_eq_zero,aZC,Nat.zero_mul,zE]
 ·rw[← g];generalize n.toNat/64=q at *;generalize n.toNat%64=r at *;have f:=cO (step:=fun d:Int×qd=>sD none a n d.1 d.2) (I:=fun d=>bJz a q r d.1 d.2) (fun d=>(a.length-d.1).toNat) (fun e=>nv e=nv a*(18446744073709551616^q*2^r)) ?_ (0,List.replicate (q+a.length+1) 0) ⟨by simp,by simp,by simp,aPO _,by simp[aPN,nv]⟩
  ·obtain⟨e,J,h2⟩:=f;rw[show ((q:Int)+(a.length:Int)+1).toNat=q+a.length+1 from by omega];refine aC (by omega) (aC (by omega) (aC (by omega) (aC (by omega) (aC (by omega) (aJ J ?_)))));rw[dK,h2]
  ·rintro⟨i,out⟩ h;have h:bJz a q r i out:=h;have h0:=h.i0;have J:=h.i1;have hl:=h.len;show (∃d',sD none a n i out=_∧_)∨ ∃e,sD none a n i out=_∧_;unfold sD;rw[L,W,Y,Z,show ((q:Int)+i).toNat=q+i.toNat from by omega,show ((q:Int)+i+1).toNat=q+i.toNat+1 from by omega];by_cases hi:i<a.length
   ·left
    refine⟨(_,_),?_,bHv U z h hi,by omega⟩;rw[if_pos hi];simp only[List.length_set];refine aC (by omega) (aC (by omega) (aC (by omega) (aC (by omega) (aC (by omega) (aC (by omega) (aC (by omega) (aC (by omega) (aC (by omega) (aC (by omega) (aC (by omega) (aC (by omega) rfl)))))))))))
   ·right
    refine⟨out,by grind,?_⟩;have:=h.sum;grind[List.take_length]
def pR(F:Md)(q:Int)(z:qd)(f:Int)(g:qd):Option (ww⊕qd) :=
 if f<(((List.drop (Int.tdiv q (64:Int)).toNat z).length:Nat):Int) then ck (0≤f∧f<(((List.drop (Int.tdiv q (64:Int)).toNat z).length:Nat):Int)) (ck (0≤f∧f<(g.length:Int)) (ck (I64 (f+(1:Int))) (if (f+(1:Int))<(((List.drop (Int.tdiv q (64:Int)).toNat z).length:Nat):Int) then ck (0≤f∧f<(((g.set (f.toNat) (((List.drop (Int.tdiv q (64:Int)).toNat z).getD (f.toNat) (0:Nat))/(2^((Int.tmod q (64:Int))%(18446744073709551616:Int)).toNat))).length:Nat):Int)) (ck (I64 (f+(1:Int))) (ck (0≤(f+(1:Int))∧(f+(1:Int))<(((List.drop (Int.tdiv q (64:Int)).toNat z).length:Nat):Int)) (ck (I64 ((63:Int)-(Int.tmod q (64:Int)))) (ck (0≤f∧f<(((g.set (f.toNat) (((List.drop (Int.tdiv q (64:Int)).toNat z).getD (f.toNat) (0:Nat))/(2^((Int.tmod q (64:Int))%(18446744073709551616:Int)).toNat))).length:Nat):Int)) (ck (I64 (f+(1:Int))) (some (.inl ((f+(1:Int)),((g.set (f.toNat) (((List.drop (Int.tdiv q (64:Int)).toNat z).getD (f.toNat) (0:Nat))/(2^((Int.tmod q (64:Int))%(18446744073709551616:Int)).toNat))).set (f.toNat) (((g.set (f.toNat) (((List.drop (Int.tdiv q (64:Int)).toNat z).getD (f.toNat) (0:Nat))/(2^((Int.tmod q (64:Int))%(18446744073709551616:Int)).toNat))).getD (f.toNat) (0:Nat))|||((((((List.drop (Int.tdiv q (64:Int)).toNat z).getD (f+(1:Int)).toNat (0:Nat))*(2:Nat))%18446744073709551616)*(2^(((63:Int)-(Int.tmod q (64:Int)))%(18446744073709551616:Int)).toNat))%18446744073709551616))))))))))) else ck (I64 (f+(1:Int))) (some (.inl ((f+(1:Int)),(g.set (f.toNat) (((List.drop (Int.tdiv q (64:Int)).toNat z).getD (f.toNat) (0:Nat))/(2^((Int.tmod q (64:Int))%(18446744073709551616:Int)).toNat))))))))) else some (.inr g)
def aDK(F:Md)(g:qd)(f:Int):Option qd :=
 ck (I64 (Int.tdiv f (64:Int))) (if (g.length:Int)≤(Int.tdiv f (64:Int)) then some ([]:List Nat) else ck (I64 (Int.tdiv f (64:Int))) (ck (0≤(Int.tdiv f (64:Int))∧(Int.tdiv f (64:Int))≤(g.length:Int)) (ck (0≤(((List.drop (Int.tdiv f (64:Int)).toNat g).length:Nat):Int)) (ck ((8:Int)*(((List.drop (Int.tdiv f (64:Int)).toNat g).length:Nat):Int)≤281474976710656) ((bO F (fun d:Int×qd=>pR F f g d.1 d.2) ((0:Int),(List.replicate (List.drop (Int.tdiv f (64:Int)).toNat g).length (0:Nat)))).bind (fun e=>some (dK e)))))))
abbrev aZN(a:List Nat)(n:Int):Prop:=Sz a∧0≤n
def uJ(a:List Nat)(n:Int):List Nat:=lb (nv a/2^n.toNat)
structure bLW(a:List Nat)(r:Nat)(i:Int)(out:List Nat):Prop where
 i0:0≤i
 i1:i≤a.length
 len:out.length=a.length
 lm:Lm out
 sum:nv (out.take i.toNat)=nv a/2^r%18446744073709551616^i.toNat
theorem bLX{w s r o:Nat}(f:o<2^s):(o+2^s*w)%(2^s*2^r)=o+2^s*(w%2^r):=by
 rw[Nat.mod_mul,Nat.add_mul_mod_self_left,Nat.mod_eq_of_lt f,Nat.add_mul_div_left _ _ (Nat.two_pow_pos s),Nat.div_eq_of_lt f,Nat.zero_add]
theorem bJB{x y z r:Nat}(hx:x<18446744073709551616)(g:r<64):(x+18446744073709551616*(y+18446744073709551616*z))/2^r%18446744073709551616=x/2^r|||y*2%18446744073709551616*2^(63-r)%18446744073709551616:=by
 have e0:y*2%18446744073709551616*2^(63-r)%18446744073709551616=2^(64-r)*(y%2^r):=by
  rw[Nat.mul_mod (y*2%18446744073709551616),Nat.mod_mod,← Nat.mul_mod,Nat.mul_assoc,← Nat.pow_succ',show (63-r).succ=64-r from by omega,aZL _ _ (by omega),show 64-(64-r)=r from by omega]
 have f:=bCp r (by omega);have q:x/2^r<2^(64-r):=(Nat.div_lt_iff_lt_mul (Nat.two_pow_pos r)).2 (by omega);have hd:(x+18446744073709551616*(y+18446744073709551616*z))/2^r=x/2^r+2^(64-r)*(y+18446744073709551616*z):=by
  rw[show 18446744073709551616*(y+18446744073709551616*z)=2^r*(2^(64-r)*(y+18446744073709551616*z)) from by grind,Nat.add_mul_div_left _ _ (Nat.two_pow_pos r)]
 have hm:(y+18446744073709551616*z)%2^r=y%2^r:=by
  grind[Nat.mul_assoc,Nat.mul_comm,Nat.add_mul_mod_self_left]
 grind[bEp,bLX]
theorem bHw{a:List Nat}{r:Nat}{i:Int}{out:List Nat}(g:Lm a)(J:r<64)(h:bLW a r i out)(hi:i<a.length) :
  bLW a r (i+1) (out.set i.toNat (a.getD i.toNat 0/2^r|||a.getD (i.toNat+1) 0*2%18446744073709551616*2^(63-r)%18446744073709551616)):=by
 have h0:=h.i0;have q:=h.len;have hk:i.toNat<a.length:=by omega
 have e1:(i+1).toNat=i.toNat+1:=by omega
 have hx:=gG g i.toNat;obtain⟨z,I⟩:∃z,nv (a.drop (i.toNat+1))=a.getD (i.toNat+1) 0+18446744073709551616*z:=by
  rcases Nat.lt_or_ge (i.toNat+1) a.length with hl|hl
  ·refine⟨nv (a.drop (i.toNat+1+1)),?_⟩;rw[List.drop_eq_getElem_cons hl,sZ,List.getD_eq_getElem?_getD,List.getElem?_eq_getElem hl]; rfl
  ·refine⟨0,?_⟩;rw[List.drop_eq_nil_of_le hl,List.getD_eq_getElem?_getD,List.getElem?_eq_none hl]; rfl
 have hd:nv (a.drop i.toNat)=a.getD i.toNat 0+18446744073709551616*(a.getD (i.toNat+1) 0+18446744073709551616*z):=by
  have L:a.getD i.toNat 0=a[i.toNat]:=by rw[List.getD_eq_getElem?_getD,List.getElem?_eq_getElem hk]; rfl
  rw[List.drop_eq_getElem_cons hk,sZ,I,L]
 have f:a.getD i.toNat 0/2^r|||a.getD (i.toNat+1) 0*2%18446744073709551616*2^(63-r)%18446744073709551616=nv a/2^r/18446744073709551616^i.toNat%18446744073709551616:=by
  rw[← bJB (z:=z) hx J,← hd,aNm g,Nat.div_div_eq_div_mul,Nat.div_div_eq_div_mul,Nat.mul_comm (18446744073709551616^i.toNat)]
 rw[f];refine⟨by omega,by omega,by simp_all,aCI h.lm _ (Nat.mod_lt _ xAb),?_⟩;rw[e1,aQ3 (by omega),h.sum,Nat.pow_succ,Nat.mod_mul]
theorem aXc(a:List Nat)(wa:(Ty.sl qk).wf a)(n:Int)(wn:(Ty.i .i64).wf n)(hp:aZN a n):aDK none a n=some (uJ a n):=by
 have g:=aFg wa;obtain⟨O,n0⟩:=hp;have O:a.length≤1099511627776:=O;obtain⟨w1,w2⟩:=wf_i64 wn;obtain⟨U,Y⟩:=bJy n0;have W:n.toNat%64<64:=Nat.mod_lt _ xAb;have hq:n.toNat/64≤9223372036854775807:=by omega
 have J:=aYI n.toNat;obtain⟨u1,u2⟩:=aYG W;unfold aDK uJ;rw[U];refine aC (by omega) (aGJ (fun h=>?_) (fun h=>?_))
 ·have:nv a/2^n.toNat=0:=by
   refine Nat.div_eq_of_lt (Nat.lt_of_lt_of_le (qX g) ?_);grind[Nat.le_trans,Nat.pow_le_pow_right,Nat.le_mul_of_pos_right,Nat.two_pow_pos]
  rw[this,zE]
 ·rw[← J,← Nat.div_div_eq_div_mul,← aNm g];generalize n.toNat/64=q at *;generalize n.toNat%64=r at *;rw[Int.toNat_natCast];have L:=bLK g q;have hA:(a.drop q).length=a.length-q:=List.length_drop;have z:=cO (step:=fun d:Int×qd=>pR none n a d.1 d.2) (I:=fun d=>bLW (a.drop q) r d.1 d.2) (fun d=>((a.drop q).length-d.1).toNat) (fun e=>nv e=nv (a.drop q)/2^r) ?_ (0,List.replicate (a.drop q).length 0) ⟨by simp,by simp,by simp,aPO _,by simp[nv,Nat.mod_one]⟩
  ·obtain⟨e,N,Z⟩:=z;refine aC (by omega) (aC (by omega) (aC (by omega) (aC (by omega) (aJ N ?_))));rw[dK,Z]
  ·rintro⟨i,out⟩ h;have h:bLW (a.drop q) r i out:=h;have h0:=h.i0;have N:=h.i1;have hl:=h.len;show (∃d',pR none n a i out=_∧_)∨ ∃e,pR none n a i out=_∧_;unfold pR;rw[U,Y,u1,u2,Int.toNat_natCast];generalize a.drop q=A at *;by_cases hi:i<A.length
   ·left
    have hs:=bHw L W h hi;rw[if_pos hi];by_cases f:i+1<A.length
    ·refine⟨(_,_),?_,hs,by omega⟩;rw[if_pos f];simp only[List.length_set];refine aC (by omega) (aC (by omega) (aC (by omega) (aC (by omega) (aC (by omega) (aC (by omega) (aC (by omega) (aC (by omega) (aC (by omega) ?_))))))));rw[show (i+1).toNat=i.toNat+1 from by omega,List.set_set,List.getD_eq_getElem?_getD (l:=out.set _ _),List.getElem?_set_self (by omega)];rfl
    ·have hy:A.getD (i.toNat+1) 0=0:=(by grind);rw[hy] at hs;simp only[Nat.zero_mul,Nat.zero_mod,Nat.or_zero] at hs;refine⟨(_,_),?_,hs,by omega⟩;rw[if_neg f];exact aC (by omega) (aC (by omega) (aC (by omega) (aC (by omega) rfl)))
   ·right
    refine⟨out,by grind,?_⟩;have:=h.sum;rw[show i.toNat=A.length from by omega,List.take_of_length_le (by omega)] at this;rw[this];exact Nat.mod_eq_of_lt (Nat.lt_of_le_of_lt (Nat.div_le_self _ _) (qX L))
theorem bNE{N M:Nat}(h:M≤N)(hl:N-M<18446744073709551616):aIN .u64 (N%18446744073709551616) (M%18446744073709551616)=N-M:=by
 rw[aKq,bF9]; omega
structure DI(V u u1 q r:Nat):Prop where
 lo:9223372036854775808≤V
 hi:V<18446744073709551616
 uV:u<V
 ul:u1<4294967296
 eq:q*(V/4294967296)+r=u
 ge:(u*4294967296+u1)/V≤q
 r1:r<4294967296
theorem bNF{V u u1 q r:Nat}(h:DI V u u1 q r):q*V+r*4294967296=u*4294967296+q*(V%4294967296):=by
 have e:=Nat.div_add_mod V 4294967296;have:=h.eq;grind
theorem bJC{V u u1 q r:Nat}(h:DI V u u1 q r):(u*4294967296+u1)/V<4294967296:=by
 have f:=h.uV;have g:=h.ul;refine(Nat.div_lt_iff_lt_mul (by omega)).2 ?_;omega
theorem aTH{V u u1 q r:Nat}(h:DI V u u1 q r):(4294967296≤q∨(aGz .u64 4294967296 r+u1)%18446744073709551616<aGz .u64 q (V%4294967296))↔(u*4294967296+u1)/V<q:=by
 have hs:=bJC h;have hm:=bNF h;have f:=h.r1;have g:=h.ul;have hV:=h.lo;rcases Nat.lt_or_ge q 4294967296 with hq|hq
 ·have hv:V%4294967296≤4294967295:=by omega
  have p:q*(V%4294967296)≤4294967295*4294967295:=Nat.mul_le_mul (by omega) hv;rw[aQ2,aQ2,Nat.div_lt_iff_lt_mul (by omega)];omega
 omega
theorem bJD{V u u1 q r:Nat}(h:DI V u u1 q r)(hc:(u*4294967296+u1)/V<q):(r+V/4294967296)%18446744073709551616=r+V/4294967296∧aIN .u64 q 1=q-1∧(4294967296≤r+V/4294967296→q-1=(u*4294967296+u1)/V)∧(r+V/4294967296<4294967296→DI V u u1 (q-1) (r+V/4294967296)):=by
 have Z:=h.r1;have L:=h.hi;have h3:=h.lo;have he:=h.eq;have N:=h.uV;have z:=h.ul;have W:=Nat.zero_le ((u*4294967296+u1)/V);obtain⟨p,rfl⟩:∃p,q=p+1:=⟨q-1,by omega⟩;have g:p*(V/4294967296)+(r+V/4294967296)=u:=by grind
 have O:(p+1)*(V/4294967296)<18446744073709551616:=by omega
 have I:p+1<18446744073709551616:=by
  have:(p+1)*1≤(p+1)*(V/4294967296):=Nat.mul_le_mul_left _ (by omega);omega
 refine⟨by omega,bCi I (by omega),fun J=>?_,fun J=>⟨h3,L,N,z,g,by omega,J⟩⟩;simp only[Nat.add_sub_cancel];refine Nat.le_antisymm ?_ (by omega);refine(Nat.le_div_iff_mul_le (by omega)).2 ?_;have U:=Nat.div_add_mod V 4294967296;have f:V%4294967296≤4294967295:=by omega
 generalize V/4294967296=v1 at *;generalize V%4294967296=v0 at *;have hp:p≤4294967295:=by
  rcases Nat.lt_or_ge p 4294967296 with hh|hh
  ·omega
  ·have:=Nat.mul_le_mul_right v1 hh;omega
 have Y:p*v0≤4294967295*4294967295:=Nat.mul_le_mul hp f;grind[Nat.mul_add,Nat.mul_left_comm]
theorem bCq{V u u1:Nat}(g:9223372036854775808≤V)(z:V<18446744073709551616)(h3:u<V)(q:u1<4294967296):aIN .u64 u (aGz .u64 (u/(V/4294967296)) (V/4294967296))=u%(V/4294967296)∧DI V u u1 (u/(V/4294967296)) (u%(V/4294967296)):=by
 have e:=Nat.div_add_mod u (V/4294967296);have m:=Nat.mod_lt u (show 0<V/4294967296 by omega);have f:(V/4294967296)*(u/(V/4294967296))≤u:=by omega
 constructor
 ·grind[aQ2,Nat.mul_comm,Nat.mod_eq_of_lt,bCi]
 ·refine⟨g,z,h3,q,by grind,?_,by omega⟩;refine(Nat.le_div_iff_mul_le (by omega)).2 ?_;have I:=Nat.div_add_mod V 4294967296;have d:=Nat.div_mul_le_self (u*4294967296+u1) V;grind[Nat.mul_add,Nat.mul_left_comm,Nat.mul_comm]
abbrev aEo(hi lo y:Nat):Prop:=hi<y
def oD(hi lo y:Nat):Nat×Nat×Unit:=((hi*18446744073709551616+lo)/y,(hi*18446744073709551616+lo)%y,())
def vP(F:Md)(z:Nat)(I:Nat)(f:Nat)(q:Nat)(g:Nat):Option (Nat×(Nat×Unit)) :=
 some ((((mulM F .u64 z (4294967296:Nat))+g)%18446744073709551616),((pN F .u64 (((mulM F .u64 (pN F .u64 (((mulM F .u64 (((I*(2^((aF f)%(18446744073709551616:Int)).toNat))%18446744073709551616)|||(q/(2^(pN F .u64 (64:Nat) ((aF f)%(18446744073709551616:Int)).toNat)))) (4294967296:Nat))+(((q*(2^((aF f)%(18446744073709551616:Int)).toNat))%18446744073709551616)/(4294967296:Nat)))%18446744073709551616) (mulM F .u64 z ((f*(2^((aF f)%(18446744073709551616:Int)).toNat))%18446744073709551616))) (4294967296:Nat))+(((q*(2^((aF f)%(18446744073709551616:Int)).toNat))%18446744073709551616)&&&(4294967295:Nat)))%18446744073709551616) (mulM F .u64 g ((f*(2^((aF f)%(18446744073709551616:Int)).toNat))%18446744073709551616)))/(2^((aF f)%(18446744073709551616:Int)).toNat)),())
def iI(F:Md)(z:Nat)(q:Nat)(g:Nat)(f:Nat):Option ((Nat×Nat)⊕(Nat)) :=
 if ((4294967296:Nat)≤f)∨((((mulM F .u64 (4294967296:Nat) g)+(((z*(2^((aF q)%(18446744073709551616:Int)).toNat))%18446744073709551616)&&&(4294967295:Nat)))%18446744073709551616)<(mulM F .u64 f (((q*(2^((aF q)%(18446744073709551616:Int)).toNat))%18446744073709551616)&&&(4294967295:Nat)))) then if (4294967296:Nat)≤((g+(((q*(2^((aF q)%(18446744073709551616:Int)).toNat))%18446744073709551616)/(4294967296:Nat)))%18446744073709551616) then some (.inr (pN F .u64 f (1:Nat))) else some (.inl (((g+(((q*(2^((aF q)%(18446744073709551616:Int)).toNat))%18446744073709551616)/(4294967296:Nat)))%18446744073709551616),(pN F .u64 f (1:Nat)))) else some (.inr f)
def vQ(F:Md)(f:Nat)(g:Nat)(z:Nat)(q:Nat):Option (Nat×(Nat×Unit)) :=
 ck ((((f*(2^((aF f)%(18446744073709551616:Int)).toNat))%18446744073709551616)/(4294967296:Nat))≠0) ((bO F (fun d:Nat×Nat=>iI F g f d.1 d.2) ((pN F .u64 (pN F .u64 (((mulM F .u64 (((z*(2^((aF f)%(18446744073709551616:Int)).toNat))%18446744073709551616)|||(g/(2^(pN F .u64 (64:Nat) ((aF f)%(18446744073709551616:Int)).toNat)))) (4294967296:Nat))+(((g*(2^((aF f)%(18446744073709551616:Int)).toNat))%18446744073709551616)/(4294967296:Nat)))%18446744073709551616) (mulM F .u64 q ((f*(2^((aF f)%(18446744073709551616:Int)).toNat))%18446744073709551616))) (mulM F .u64 ((pN F .u64 (((mulM F .u64 (((z*(2^((aF f)%(18446744073709551616:Int)).toNat))%18446744073709551616)|||(g/(2^(pN F .u64 (64:Nat) ((aF f)%(18446744073709551616:Int)).toNat)))) (4294967296:Nat))+(((g*(2^((aF f)%(18446744073709551616:Int)).toNat))%18446744073709551616)/(4294967296:Nat)))%18446744073709551616) (mulM F .u64 q ((f*(2^((aF f)%(18446744073709551616:Int)).toNat))%18446744073709551616)))/(((f*(2^((aF f)%(18446744073709551616:Int)).toNat))%18446744073709551616)/(4294967296:Nat))) (((f*(2^((aF f)%(18446744073709551616:Int)).toNat))%18446744073709551616)/(4294967296:Nat)))),((pN F .u64 (((mulM F .u64 (((z*(2^((aF f)%(18446744073709551616:Int)).toNat))%18446744073709551616)|||(g/(2^(pN F .u64 (64:Nat) ((aF f)%(18446744073709551616:Int)).toNat)))) (4294967296:Nat))+(((g*(2^((aF f)%(18446744073709551616:Int)).toNat))%18446744073709551616)/(4294967296:Nat)))%18446744073709551616) (mulM F .u64 q ((f*(2^((aF f)%(18446744073709551616:Int)).toNat))%18446744073709551616)))/(((f*(2^((aF f)%(18446744073709551616:Int)).toNat))%18446744073709551616)/(4294967296:Nat))))).bind (fun e=>vP F q z f g e))
def iJ(F:Md)(z:Nat)(q:Nat)(f:Nat)(g:Nat):Option ((Nat×Nat)⊕(Nat)) :=
 if ((4294967296:Nat)≤f)∨((((mulM F .u64 (4294967296:Nat) g)+(((z*(2^((aF q)%(18446744073709551616:Int)).toNat))%18446744073709551616)/(4294967296:Nat)))%18446744073709551616)<(mulM F .u64 f (((q*(2^((aF q)%(18446744073709551616:Int)).toNat))%18446744073709551616)&&&(4294967295:Nat)))) then if (4294967296:Nat)≤((g+(((q*(2^((aF q)%(18446744073709551616:Int)).toNat))%18446744073709551616)/(4294967296:Nat)))%18446744073709551616) then some (.inr (pN F .u64 f (1:Nat))) else some (.inl ((pN F .u64 f (1:Nat)),((g+(((q*(2^((aF q)%(18446744073709551616:Int)).toNat))%18446744073709551616)/(4294967296:Nat)))%18446744073709551616))) else some (.inr f)
def aBW(F:Md)(q:Nat)(g:Nat)(f:Nat):Option (Nat×(Nat×Unit)) :=
 if f=(0:Nat) then none else if f≤q then none else if q=(0:Nat) then ck (f≠0) (ck (f≠0) (some ((g/f),(g%f),()))) else ck ((((f*(2^((aF f)%(18446744073709551616:Int)).toNat))%18446744073709551616)/(4294967296:Nat))≠0) ((bO F (fun d:Nat×Nat=>iJ F g f d.1 d.2) (((((q*(2^((aF f)%(18446744073709551616:Int)).toNat))%18446744073709551616)|||(g/(2^(pN F .u64 (64:Nat) ((aF f)%(18446744073709551616:Int)).toNat))))/(((f*(2^((aF f)%(18446744073709551616:Int)).toNat))%18446744073709551616)/(4294967296:Nat))),(pN F .u64 (((q*(2^((aF f)%(18446744073709551616:Int)).toNat))%18446744073709551616)|||(g/(2^(pN F .u64 (64:Nat) ((aF f)%(18446744073709551616:Int)).toNat)))) (mulM F .u64 ((((q*(2^((aF f)%(18446744073709551616:Int)).toNat))%18446744073709551616)|||(g/(2^(pN F .u64 (64:Nat) ((aF f)%(18446744073709551616:Int)).toNat))))/(((f*(2^((aF f)%(18446744073709551616:Int)).toNat))%18446744073709551616)/(4294967296:Nat))) (((f*(2^((aF f)%(18446744073709551616:Int)).toNat))%18446744073709551616)/(4294967296:Nat)))))).bind (fun e=>vQ F f g q e))
theorem aTI(x:Nat):x&&&4294967295=x%4294967296:=Nat.and_two_pow_sub_one_eq_mod x 32
theorem bNG{lo y s:Nat}{u:Nat}(hs:(aF y%(18446744073709551616:Int)).toNat=s)(h:∀V,V=y*2^s%18446744073709551616→9223372036854775808≤V∧u<V) :
  aGG (fun d:Nat×Nat=>iJ none lo y d.1 d.2) (u/(y*2^s%18446744073709551616/4294967296),aIN .u64 u (aGz .u64 (u/(y*2^s%18446744073709551616/4294967296)) (y*2^s%18446744073709551616/4294967296)))=some ((u*4294967296+lo*2^s%18446744073709551616/4294967296)/(y*2^s%18446744073709551616)):=by
 have hV:=Nat.mod_lt (y*2^s) (show 0<18446744073709551616 by decide);have W:=Nat.mod_lt (lo*2^s) (show 0<18446744073709551616 by decide);have step:∀q r,iJ none lo y q r=if 4294967296≤q∨(aGz .u64 4294967296 r+lo*2^s%18446744073709551616/4294967296)%18446744073709551616<aGz .u64 q (y*2^s%18446744073709551616%4294967296) then if 4294967296≤(r+y*2^s%18446744073709551616/4294967296)%18446744073709551616 then some (.inr (aIN .u64 q 1)) else some (.inl (aIN .u64 q 1,(r+y*2^s%18446744073709551616/4294967296)%18446744073709551616)) else some (.inr q):=fun q r=>by
  unfold iJ; rw[hs,aTI]; rfl
 obtain⟨J,L⟩:=h _ rfl;generalize y*2^s%18446744073709551616=V at *;have g:lo*2^s%18446744073709551616/4294967296<4294967296:=by omega
 generalize lo*2^s%18446744073709551616/4294967296=f at *;obtain⟨e0,i0⟩:=bCq J hV L g;rw[e0];refine kU (I:=fun d=>DI V u f d.1 d.2) (fun d=>d.1) (fun _=>(u*4294967296+f)/V) ?_ (u/(V/4294967296),u%(V/4294967296)) i0;rintro⟨q,r⟩ hi;have hi:DI V u f q r:=hi;show (∃Y,iJ none lo y q r=_∧_)∨iJ none lo y q r=_;rw[step];by_cases hc:(u*4294967296+f)/V<q
 ·obtain⟨N,z,O,U⟩:=bJD hi hc;rw[if_pos ((aTH hi).2 hc),N,z];grind
 ·right
  rw[if_neg (fun h=>hc ((aTH hi).1 h))];have:=hi.ge;grind
theorem bNH{lo y s:Nat}{u:Nat}(hs:(aF y%(18446744073709551616:Int)).toNat=s)(h:∀V,V=y*2^s%18446744073709551616→9223372036854775808≤V∧u<V) :
  aGG (fun d:Nat×Nat=>iI none lo y d.1 d.2) (aIN .u64 u (aGz .u64 (u/(y*2^s%18446744073709551616/4294967296)) (y*2^s%18446744073709551616/4294967296)),u/(y*2^s%18446744073709551616/4294967296))=some ((u*4294967296+lo*2^s%18446744073709551616%4294967296)/(y*2^s%18446744073709551616)):=by
 have hV:=Nat.mod_lt (y*2^s) (show 0<18446744073709551616 by decide);have step:∀q r,iI none lo y r q=if 4294967296≤q∨(aGz .u64 4294967296 r+lo*2^s%18446744073709551616%4294967296)%18446744073709551616<aGz .u64 q (y*2^s%18446744073709551616%4294967296) then if 4294967296≤(r+y*2^s%18446744073709551616/4294967296)%18446744073709551616 then some (.inr (aIN .u64 q 1)) else some (.inl ((r+y*2^s%18446744073709551616/4294967296)%18446744073709551616,aIN .u64 q 1)) else some (.inr q):=fun q r=>by
  unfold iI; rw[hs,aTI,aTI]; rfl
 obtain⟨J,L⟩:=h _ rfl;generalize y*2^s%18446744073709551616=V at *;have g:lo*2^s%18446744073709551616%4294967296<4294967296:=Nat.mod_lt _ xAb;generalize lo*2^s%18446744073709551616%4294967296=f at *;obtain⟨e0,i0⟩:=bCq J hV L g;rw[e0];refine kU (I:=fun d=>DI V u f d.2 d.1) (fun d=>d.2) (fun _=>(u*4294967296+f)/V) ?_ (u%(V/4294967296),u/(V/4294967296)) i0;rintro⟨r,q⟩ hi;have hi:DI V u f q r:=hi;show (∃W,iI none lo y r q=_∧_)∨iI none lo y r q=_;rw[step];by_cases hc:(u*4294967296+f)/V<q
 ·obtain⟨N,z,O,U⟩:=bJD hi hc;rw[if_pos ((aTH hi).2 hc),N,z];grind
 ·right
  rw[if_neg (fun h=>hc ((aTH hi).1 h))];have:=hi.ge;grind
theorem aQ5{N V:Nat}:N-N/V*V=N%V:=by
 grind[Nat.div_add_mod,Nat.mul_comm]
theorem bJE{V u u1:Nat}(f:0<V)(q:V<18446744073709551616)(g:u1<4294967296):aIN .u64 ((aGz .u64 u 4294967296+u1)%18446744073709551616) (aGz .u64 ((u*4294967296+u1)/V) V)=(u*4294967296+u1)%V:=by
 have m:=Nat.mod_lt (u*4294967296+u1) f;rw[aQ2,aQ2,Nat.mod_add_mod,bNE (Nat.div_mul_le_self _ _) (by grind[aQ5,Nat.lt_trans]),aQ5]
theorem bGg{V N W un0:Nat}(hV:0<V):N/V*W+(N%V*W+un0)/V=(N*W+un0)/V∧(N%V*W+un0)%V=(N*W+un0)%V:=by
 have e:=Nat.div_add_mod N V;have:N*W+un0=N%V*W+un0+V*(N/V*W):=by
  grind
 rw[this,Nat.add_mul_div_left _ _ hV,Nat.add_mul_mod_self_left];omega
theorem bNI(A C:Nat):(A*4294967296+C/4294967296)*4294967296+C%4294967296=A*18446744073709551616+C:=by omega
theorem aUL(hi:Nat)(wh:(Ty.u .u64).wf hi)(lo:Nat)(wl:(Ty.u .u64).wf lo)(y:Nat)(wy:(Ty.u .u64).wf y)(hp:aEo hi lo y):aBW none hi lo y=some (oD hi lo y):=by
 have hh:=aMj wh;have hl:=aMj wl;have hy:=aMj wy;have hp:hi<y:=hp;have hb:=bJq hy;have hb1:=aZE (x:=y) (by omega);have hs:(aF y%(18446744073709551616:Int)).toNat=64-bl y:=by grind[aF]
 have q:aIN .u64 64 (64-bl y)=64-(64-bl y):=bCi (by omega) (by omega);have I:=aZF (x:=y) (by omega);have hlt:=aYC y;unfold aBW oD;try simp only[pN,mulM,aKN]
 rw[if_neg (by omega),if_neg (by omega),hs];refine aGJ (fun h=>?_) (fun h=>?_)
 ·subst h;refine aC (by omega) (aC (by omega) ?_);simp_all
 ·rw[q];generalize hsd:64-bl y=s at *;have U:s≤63:=by omega
  have f:=Nat.two_pow_pos s;have h2s:2^(64-s)*2^s=18446744073709551616:=bCp s (by omega);have z:y*2^s<18446744073709551616:=by
   rw[← h2s,show 64-s=bl y from by omega];simp_all
  have hyL:9223372036854775808≤y*2^s:=by
   have:=Nat.mul_le_mul_right (2^s) I;rw[← Nat.pow_add,show bl y-1+s=63 from by omega] at this;omega
  have J:hi*2^s%18446744073709551616|||lo/2^(64-s)=(hi*18446744073709551616+lo)*2^s/18446744073709551616:=by
   have h1:hi*2^s<18446744073709551616:=Nat.lt_trans (Nat.mul_lt_mul_of_pos_right hp f) z;have h3:lo/2^(64-s)<2^s:=(Nat.div_lt_iff_lt_mul (Nat.two_pow_pos _)).2 (by grind);rw[Nat.mod_eq_of_lt h1,Nat.or_comm,Nat.mul_comm hi,bEp h3,Nat.add_mul,Nat.mul_assoc,Nat.mul_comm 18446744073709551616,← Nat.mul_assoc,Nat.add_comm (hi*2^s*18446744073709551616),Nat.add_mul_div_right _ _ xAb,← h2s,Nat.mul_div_mul_right _ _ f,Nat.mul_comm hi]
  have hUV:(hi*18446744073709551616+lo)*2^s/18446744073709551616<y*2^s:=by
   refine(Nat.div_lt_iff_lt_mul xAb).2 ?_;rw[Nat.mul_right_comm y];exact Nat.mul_lt_mul_of_pos_right (by omega) f
  have g:lo*2^s%18446744073709551616=(hi*18446744073709551616+lo)*2^s%18446744073709551616:=by
   grind
  have L:y*2^s%18446744073709551616=y*2^s:=Nat.mod_eq_of_lt z;have eN:=Nat.div_add_mod ((hi*18446744073709551616+lo)*2^s) 18446744073709551616;have mN:=Nat.mod_lt ((hi*18446744073709551616+lo)*2^s) (show 0<18446744073709551616 by decide);rw[J];refine aC (by omega) (aJ (bNG hs (fun V e=>by omega)) ?_);unfold vQ;try simp only[pN,mulM,aKN]
  rw[hs,q,J];have Y:=bJE (V:=y*2^s%18446744073709551616) (u:=(hi*18446744073709551616+lo)*2^s/18446744073709551616) (u1:=lo*2^s%18446744073709551616/4294967296) (by omega) (by omega) (by omega);rw[Y];refine aC (by omega) (aJ (bNH hs (fun V e=>by rw[e]; exact⟨by omega,Nat.mod_lt _ (by omega)⟩)) ?_);unfold vP;try simp only[pN,mulM,aKN]
  rw[hs,q,J,Y,aTI,L,g];have O:=bJE (V:=y*2^s) (u:=((hi*18446744073709551616+lo)*2^s/18446744073709551616*4294967296+(hi*18446744073709551616+lo)*2^s%18446744073709551616/4294967296)%(y*2^s)) (u1:=(hi*18446744073709551616+lo)*2^s%18446744073709551616%4294967296) (by omega) z (Nat.mod_lt _ xAb);rw[O];obtain⟨q1,Z⟩:=bGg (V:=y*2^s) (N:=(hi*18446744073709551616+lo)*2^s/18446744073709551616*4294967296+(hi*18446744073709551616+lo)*2^s%18446744073709551616/4294967296) (W:=4294967296) (un0:=(hi*18446744073709551616+lo)*2^s%18446744073709551616%4294967296) (by omega);have eW:=(bNI ((hi*18446744073709551616+lo)*2^s/18446744073709551616) ((hi*18446744073709551616+lo)*2^s%18446744073709551616)).trans ((congrArg (· + (hi*18446744073709551616+lo)*2^s%18446744073709551616) (Nat.mul_comm _ _)).trans eN);rw[eW] at q1 Z;rw[Z,aQ2,Nat.mod_add_mod,q1,Nat.mul_div_mul_right _ _ f,Nat.mul_mod_mul_right,Nat.mul_div_cancel _ f];have hq:(hi*18446744073709551616+lo)/y<18446744073709551616:=(Nat.div_lt_iff_lt_mul (by omega)).2 (by omega);simp_all
abbrev aJn(a:List Nat)(b:Nat):Prop:=b≠0∧Sz a
def aBf(a:List Nat)(b:Nat):List Nat×List Nat×Unit:=(lb (nv a/b),lb (nv a%b),())
def yB(F:Md)(f:Nat)(g:qd):Option qm :=
 some ((dK g),(dK ([f]:List Nat)),())
def pS(F:Md)(z:qd)(I:Nat)(g:Nat)(f:Int)(q:qd):Option (wm⊕vg) :=
 if (0:Int)≤f then ck (0≤f∧f<(z.length:Int)) (ck (aEo g (z.getD (f.toNat) (0:Nat)) I) (ck (0≤f∧f<(q.length:Int)) (ck (I64 (f-(1:Int))) (some (.inl ((oD g (z.getD (f.toNat) (0:Nat)) I).2.1,(f-(1:Int)),(q.set (f.toNat) (oD g (z.getD (f.toNat) (0:Nat)) I).1))))))) else some (.inr (g,q))
def aDL(F:Md)(f:qd)(g:Nat):Option qm :=
 ck (0≤(f.length:Int)) (ck ((8:Int)*(f.length:Int)≤281474976710656) (ck (I64 ((f.length:Int)-(1:Int))) ((bO F (fun d:Nat×Int×qd=>pS F f g d.1 d.2.1 d.2.2) ((0:Nat),((f.length:Int)-(1:Int)),(List.replicate (f.length) (0:Nat)))).bind (fun e=>yB F e.1 e.2))))
structure aZO(a:List Nat)(b:Nat)(rest:Nat)(i:Int)(q:List Nat):Prop where
 i0: -1≤i
 i1:i<a.length
 len:q.length=a.length
 lm:Lm q
 sum:nv q=nv a/18446744073709551616^(i+1).toNat/b*18446744073709551616^(i+1).toNat
 res:rest=nv a/18446744073709551616^(i+1).toNat%b
theorem bCr{a:List Nat}{b rest:Nat}{i:Int}{q:List Nat}(g:Lm a)(hb:b≠0)(h:aZO a b rest i q)(hi:0≤i) :
  rest<b∧aZO a b ((rest*18446744073709551616+a.getD i.toNat 0)%b) (i-1) (q.set i.toNat ((rest*18446744073709551616+a.getD i.toNat 0)/b)):=by
 have Y:=h.i1;have hl:=h.len;have I:rest<b:=by rw[h.res]; exact Nat.mod_lt _ (by omega)
 have hx:=gG g i.toNat;have e1:(i+1).toNat=i.toNat+1:=by omega
 have U:(i-1+1).toNat=i.toNat:=by omega
 have J:nv a/18446744073709551616^i.toNat=nv a/18446744073709551616^(i.toNat+1)*18446744073709551616+a.getD i.toNat 0:=by
  rw[xA g,Nat.pow_succ,← Nat.div_div_eq_div_mul,Nat.mul_comm,Nat.div_add_mod]
 obtain⟨L,z⟩:=bGg (V:=b) (N:=nv a/18446744073709551616^(i.toNat+1)) (W:=18446744073709551616) (un0:=a.getD i.toNat 0) (by omega);have hs:=h.sum;have f:=h.res;rw[e1] at hs f;rw[← f,← J] at L z;have O:q.getD i.toNat 0=0:=by
  rw[xA h.lm,hs,Nat.pow_succ,Nat.mul_comm (18446744073709551616^i.toNat) 18446744073709551616,← Nat.mul_assoc,Nat.mul_div_cancel _ (Nat.pow_pos xAb),Nat.mul_mod_left]
 have hv:(rest*18446744073709551616+a.getD i.toNat 0)/b<18446744073709551616:=by
  refine(Nat.div_lt_iff_lt_mul (by omega)).2 ?_;omega
 refine⟨I,by omega,by omega,by simp_all,aCI h.lm _ hv,?_,?_⟩
 ·have Z:=aFf (a:=q) (k:=i.toNat) (v:=(rest*18446744073709551616+a.getD i.toNat 0)/b) (by omega);grind
 simp_all
theorem aXd(a:List Nat)(O:(Ty.sl qk).wf a)(b:Nat)(wb:(Ty.u .u64).wf b)(hp:aJn a b):aDL none a b=some (aBf a b):=by
 have g:=aFg O;obtain⟨hb,J⟩:=hp;have J:a.length≤1099511627776:=J;unfold aDL aBf;have f:=cO (step:=fun d:Nat×Int×qd=>pS none a b d.1 d.2.1 d.2.2) (I:=fun d=>aZO a b d.1 d.2.1 d.2.2) (fun d=>(d.2.1+1).toNat) (fun e=>e.1=nv a%b∧nv e.2=nv a/b) ?_ (0,(a.length:Int)-1,List.replicate a.length 0) ?_
 ·obtain⟨e,z,U,h3⟩:=f;refine aC (by omega) (aC (by omega) (aC (by omega) (aJ z ?_)));unfold yB;rw[dK,dK,h3,U];rfl
 ·rintro⟨rest,i,q⟩ h;have h:aZO a b rest i q:=h;have z:=h.i1;have hl:=h.len;show (∃Z,pS none a b rest i q=_∧_)∨ ∃e,pS none a b rest i q=_∧_;unfold pS;by_cases hi:0≤i
  ·left
   obtain⟨L,W⟩:=bCr g hb h hi;rw[if_pos hi];refine⟨(_,_,_),aC (by omega) (aC L (aC (by omega) (aC (by omega) rfl))),W,by grind⟩
  ·right
   refine⟨(rest,q),by grind,?_⟩;have h0:=h.i0;have hs:=h.sum;have Y:=h.res;grind
 ·have e:((a.length:Int)-1+1).toNat=a.length:=by omega
  have N:nv a/18446744073709551616^a.length=0:=Nat.div_eq_of_lt (qX g);exact⟨by grind,by grind,by simp,aPO _,by simp only; rw[e,N,aPN,Nat.zero_div,Nat.zero_mul],by grind[Nat.zero_mod]⟩
abbrev aEp(a:List Nat)(n:Int):Prop:=a.length≤n∧n≤1099511627777
def dS(a:List Nat)(n:Int):List Nat:=a++List.replicate (n.toNat-a.length) 0
def aBX(F:Md)(f:qd)(g:Int):Option qd :=
 ck (bHq f) (ck (I64 (g-(f.length:Int))) (ck (0≤(g-(f.length:Int))) (ck (((id f).length+(g-(f.length:Int)).toNat)*8≤140737488355328) (some ((id f)++(List.replicate (g-(f.length:Int)).toNat (0:Nat)))))))
theorem aUM(a:List Nat)(g:(Ty.sl qk).wf a)(n:Int)(z:(Ty.i .i64).wf n)(hp:aEp a n):aBX none a n=some (dS a n):=by
 obtain⟨f,q⟩:=hp;have h64:bHq a:=by omega
 unfold aBX dS;simp only[id];refine aC h64 (aC (by omega) (aC (by omega) (aC (by omega) ?_)));simp_all
def yC(F:Md)(f:qd)(z:Nat)(g:Nat)(I:Nat)(carry_31:Nat)(q:qd):Option vg :=
 ck (0≤(f.length:Int)∧(f.length:Int)<((z:Nat):Int)) (ck (g+(f.length)<(q.length)) (ck (0≤(f.length:Int)∧(f.length:Int)<((z:Nat):Int)) (ck (g+(f.length)<(q.length)) (some ((pN F .u64 I (1:Nat)),(q.set (g+(f.length)) (((q.getD (g+(f.length)) (0:Nat))+carry_31)%18446744073709551616)))))))
def kA(F:Md)(z:qd)(I:Nat)(q:Nat)(carry_33:Nat)(f:Int)(g:qd):Option (wm⊕vg) :=
 if f<(z.length:Int) then ck (0≤f∧f<(z.length:Int)) (ck (0≤f∧f<((I:Nat):Int)) (ck (q+(f.toNat)<(g.length)) (ck (aFd (g.getD (q+(f.toNat)) (0:Nat)) (z.getD (f.toNat) (0:Nat)) carry_33) (ck (0≤f∧f<((I:Nat):Int)) (ck (q+(f.toNat)<(g.length)) (ck (I64 (f+(1:Int))) (some (.inl ((qY (g.getD (q+(f.toNat)) (0:Nat)) (z.getD (f.toNat) (0:Nat)) carry_33).2.1,(f+(1:Int)),(g.set (q+(f.toNat)) (qY (g.getD (q+(f.toNat)) (0:Nat)) (z.getD (f.toNat) (0:Nat)) carry_33).1)))))))))) else some (.inr (carry_33,g))
def yD(F:Md)(g:qd)(z:Nat)(f:Nat)(I:Nat)(carry_22:Nat)(borrow_23:Nat)(q:qd):Option vg :=
 ck (0≤(g.length:Int)∧(g.length:Int)<((z:Nat):Int)) (ck (f+(g.length)<(q.length)) (ck (aFd (q.getD (f+(g.length)) (0:Nat)) carry_22 borrow_23) (ck (0≤(g.length:Int)∧(g.length:Int)<((z:Nat):Int)) (ck (f+(g.length)<(q.length)) (if (aHF (q.getD (f+(g.length)) (0:Nat)) carry_22 borrow_23).2.1=(0:Nat) then some (I,(q.set (f+(g.length)) (aHF (q.getD (f+(g.length)) (0:Nat)) carry_22 borrow_23).1)) else (bO F (fun d:Nat×Int×qd=>kA F g z f d.1 d.2.1 d.2.2) ((0:Nat),(0:Int),(q.set (f+(g.length)) (aHF (q.getD (f+(g.length)) (0:Nat)) carry_22 borrow_23).1))).bind (fun e=>yC F g z f I e.1 e.2))))))
def kB(F:Md)(I:qd)(z:Nat)(J:Nat)(q:Nat)(carry_41:Nat)(borrow_42:Nat)(f:Int)(g:qd):Option ((Nat×Nat×Int×qd)⊕(Nat×Nat×qd)) :=
 if f<(I.length:Int) then ck (0≤f∧f<(I.length:Int)) (ck (aFd (cY z (I.getD (f.toNat) (0:Nat))).2.1 carry_41 (0:Nat)) (ck (0≤f∧f<((J:Nat):Int)) (ck (q+(f.toNat)<(g.length)) (ck (aFd (g.getD (q+(f.toNat)) (0:Nat)) (qY (cY z (I.getD (f.toNat) (0:Nat))).2.1 carry_41 (0:Nat)).1 borrow_42) (ck (0≤f∧f<((J:Nat):Int)) (ck (q+(f.toNat)<(g.length)) (ck (I64 (f+(1:Int))) (some (.inl ((((cY z (I.getD (f.toNat) (0:Nat))).1+(qY (cY z (I.getD (f.toNat) (0:Nat))).2.1 carry_41 (0:Nat)).2.1)%18446744073709551616),(aHF (g.getD (q+(f.toNat)) (0:Nat)) (qY (cY z (I.getD (f.toNat) (0:Nat))).2.1 carry_41 (0:Nat)).1 borrow_42).2.1,(f+(1:Int)),(g.set (q+(f.toNat)) (aHF (g.getD (q+(f.toNat)) (0:Nat)) (qY (cY z (I.getD (f.toNat) (0:Nat))).2.1 carry_41 (0:Nat)).1 borrow_42).1))))))))))) else some (.inr (carry_41,borrow_42,g))
def tE(F:Md)(I:qd)(f:Nat)(g:Nat)(z:qd)(q:Nat):Option vg :=
 (bO F (fun d:Nat×Nat×Int×qd=>kB F I q f g d.1 d.2.1 d.2.2.1 d.2.2.2) ((0:Nat),(0:Nat),(0:Int),z)).bind (fun e=>yD F I f g q e.1 e.2.1 e.2.2)
def mI(F:Md)(f:qd)(L:Nat)(J:Nat)(I:qd)(q:Nat)(g:Nat)(z:Nat):Option ((Nat×Nat×Nat)⊕(Nat)) :=
 if z=(0:Nat) then ck (I64 ((f.length:Int)-(2:Int))) (ck (0≤((f.length:Int)-(2:Int))∧((f.length:Int)-(2:Int))<(f.length:Int)) (ck (¬((cY q (f.getD ((f.length:Int)-(2:Int)).toNat (0:Nat))).1<g)→((cY q (f.getD ((f.length:Int)-(2:Int)).toNat (0:Nat))).1=g)→(I64 ((f.length:Int)-(2:Int)))) (ck (¬((cY q (f.getD ((f.length:Int)-(2:Int)).toNat (0:Nat))).1<g)→((cY q (f.getD ((f.length:Int)-(2:Int)).toNat (0:Nat))).1=g)→(0≤((f.length:Int)-(2:Int))∧((f.length:Int)-(2:Int))<((L:Nat):Int)∧J+((f.length:Int)-(2:Int)).toNat<(I.length))) (if ((cY q (f.getD ((f.length:Int)-(2:Int)).toNat (0:Nat))).1<g)∨(((cY q (f.getD ((f.length:Int)-(2:Int)).toNat (0:Nat))).1=g)∧((cY q (f.getD ((f.length:Int)-(2:Int)).toNat (0:Nat))).2.1≤(I.getD (J+((f.length:Int)-(2:Int)).toNat) (0:Nat)))) then some (.inr q) else ck (I64 ((f.length:Int)-(1:Int))) (ck (0≤((f.length:Int)-(1:Int))∧((f.length:Int)-(1:Int))<(f.length:Int)) (ck (aFd g (f.getD ((f.length:Int)-(1:Int)).toNat (0:Nat)) (0:Nat)) (some (.inl ((pN F .u64 q (1:Nat)),(qY g (f.getD ((f.length:Int)-(1:Int)).toNat (0:Nat)) (0:Nat)).1,(qY g (f.getD ((f.length:Int)-(1:Int)).toNat (0:Nat)) (0:Nat)).2.1))))))))) else some (.inr q)
def pT(F:Md)(J:qd)(q:Nat)(I:Nat)(z:qd)(L:Nat)(f:Nat)(g:Nat):Option vg :=
 (bO F (fun d:Nat×Nat×Nat=>mI F J q I z d.1 d.2.1 d.2.2) (L,f,g)).bind (fun e=>tE F J q I z e)
def aBg(F:Md)(q:Nat)(z:Nat)(f:qd)(g:qd):Option vg :=
 ck (0≤(f.length:Int)∧(f.length:Int)<((z:Nat):Int)) (ck (q+(f.length)<(g.length)) (ck (I64 ((f.length:Int)-(1:Int))) (ck (0≤((f.length:Int)-(1:Int))∧((f.length:Int)-(1:Int))<(f.length:Int)) (if (g.getD (q+(f.length)) (0:Nat))<(f.getD ((f.length:Int)-(1:Int)).toNat (0:Nat)) then ck (0≤(f.length:Int)∧(f.length:Int)<((z:Nat):Int)) (ck (q+(f.length)<(g.length)) (ck (I64 ((f.length:Int)-(1:Int))) (ck (0≤((f.length:Int)-(1:Int))∧((f.length:Int)-(1:Int))<((z:Nat):Int)) (ck (q+((f.length:Int)-(1:Int)).toNat<(g.length)) (ck (I64 ((f.length:Int)-(1:Int))) (ck (0≤((f.length:Int)-(1:Int))∧((f.length:Int)-(1:Int))<(f.length:Int)) (ck (aEo (g.getD (q+(f.length)) (0:Nat)) (g.getD (q+((f.length:Int)-(1:Int)).toNat) (0:Nat)) (f.getD ((f.length:Int)-(1:Int)).toNat (0:Nat))) (pT F f z q g (oD (g.getD (q+(f.length)) (0:Nat)) (g.getD (q+((f.length:Int)-(1:Int)).toNat) (0:Nat)) (f.getD ((f.length:Int)-(1:Int)).toNat (0:Nat))).1 (oD (g.getD (q+(f.length)) (0:Nat)) (g.getD (q+((f.length:Int)-(1:Int)).toNat) (0:Nat)) (f.getD ((f.length:Int)-(1:Int)).toNat (0:Nat))).2.1 (0:Nat))))))))) else ck (I64 ((f.length:Int)-(1:Int))) (ck (0≤((f.length:Int)-(1:Int))∧((f.length:Int)-(1:Int))<((z:Nat):Int)) (ck (q+((f.length:Int)-(1:Int)).toNat<(g.length)) (ck (I64 ((f.length:Int)-(1:Int))) (ck (0≤((f.length:Int)-(1:Int))∧((f.length:Int)-(1:Int))<(f.length:Int)) (ck (aFd (g.getD (q+((f.length:Int)-(1:Int)).toNat) (0:Nat)) (f.getD ((f.length:Int)-(1:Int)).toNat (0:Nat)) (0:Nat)) (pT F f z q g (18446744073709551615:Nat) (qY (g.getD (q+((f.length:Int)-(1:Int)).toNat) (0:Nat)) (f.getD ((f.length:Int)-(1:Int)).toNat (0:Nat)) (0:Nat)).1 (qY (g.getD (q+((f.length:Int)-(1:Int)).toNat) (0:Nat)) (f.getD ((f.length:Int)-(1:Int)).toNat (0:Nat)) (0:Nat)).2.1))))))))))
structure DgN(X V P v1 v0 U2 U1 U0:Nat):Prop where
 hP:0<P
 hX:X/P=(U2*18446744073709551616+U1)*18446744073709551616+U0
 hV:V/P=v1*18446744073709551616+v0
 v1l:9223372036854775808≤v1
 v1h:v1<18446744073709551616
 v0h:v0<18446744073709551616
 u2h:U2<18446744073709551616
 u1h:U1<18446744073709551616
 u0h:U0<18446744073709551616
 hq:X<18446744073709551616*V
variable {X V P v1 v0 U2 U1 U0:Nat}
theorem bNJ(h:DgN X V P v1 v0 U2 U1 U0):U2≤v1:=by
 have g:V<(V/P+1)*P:=by rw[Nat.mul_comm]; exact Nat.lt_mul_div_succ V h.hP
 have f:X/P<18446744073709551616*(V/P+1):=by
  refine(Nat.div_lt_iff_lt_mul h.hP).2 (Nat.lt_of_lt_of_le h.hq ?_);grind
 rw[h.hX,h.hV] at f;have a:=h.v0h;omega
theorem bM1(h:DgN X V P v1 v0 U2 U1 U0):X/V*(v1*18446744073709551616+v0)≤(U2*18446744073709551616+U1)*18446744073709551616+U0:=by
 rw[← h.hX,← h.hV];refine(Nat.le_div_iff_mul_le h.hP).2 ?_;rw[Nat.mul_assoc];exact Nat.le_trans (Nat.mul_le_mul_left _ (Nat.div_mul_le_self V P)) (Nat.div_mul_le_self X V)
theorem mul_two(x v1 v0:Nat):x*(v1*18446744073709551616+v0)=x*v1*18446744073709551616+x*v0:=by grind
theorem bNK(h:DgN X V P v1 v0 U2 U1 U0):X/V≤(U2*18446744073709551616+U1)/v1:=by
 refine(Nat.le_div_iff_mul_le (by have:=h.v1l; omega)).2 ?_;have f:=bM1 h;rw[mul_two] at f;have b:=h.u0h;omega
theorem bNL(h:DgN X V P v1 v0 U2 U1 U0):X/V<18446744073709551616:=(Nat.div_lt_iff_lt_mul (by
 have:=h.hq;omega)).2 h.hq
theorem bGh(h:DgN X V P v1 v0 U2 U1 U0){x:Nat}(hx:x<18446744073709551616)(hl:x*(v1*18446744073709551616+v0)≤(U2*18446744073709551616+U1)*18446744073709551616+U0):x≤X/V+1:=by
 rcases x with _|y
 ·simp_all
 refine Nat.succ_le_succ ?_;have f:0<V:=by
  rcases Nat.eq_zero_or_pos V with h0|h0
  ·have:=h.hq; omega
  omega
 refine(Nat.le_div_iff_mul_le f).2 ?_;rw[← h.hX,← h.hV] at hl;have e:=Nat.div_add_mod V P;have m:=Nat.mod_lt V h.hP;have g:(y+1)*(V/P)*P≤X:=Nat.le_trans (Nat.mul_le_mul_right P hl) (Nat.div_mul_le_self X P);have z:y*(V%P)≤18446744073709551616*P:=Nat.mul_le_mul (by omega) (Nat.le_of_lt m);have h3:18446744073709551616*P≤V/P*P:=Nat.mul_le_mul_right _ (by rw[h.hV]; have:=h.v1l; omega);have q:y*V=y*(V/P)*P+y*(V%P):=by
  grind
 grind
structure DgL(v1 U2 U1 Q x rest over:Nat):Prop where
 eq:x*v1+(rest+over*18446744073709551616)=U2*18446744073709551616+U1
 r1:rest<18446744073709551616
 o1:over≤1
 x1:x<18446744073709551616
 ge:Q≤x
theorem bJF{Q x rest:Nat}(f:v0<18446744073709551616)(g:U0<18446744073709551616)(h:DgL v1 U2 U1 Q x rest 0):(x*v0/18446744073709551616<rest∨x*v0/18446744073709551616=rest∧x*v0%18446744073709551616≤U0)↔x*(v1*18446744073709551616+v0)≤(U2*18446744073709551616+U1)*18446744073709551616+U0:=by
 have e:=h.eq;grind
theorem bLY{Q x rest:Nat}(f:v0<18446744073709551616)(h:DgL v1 U2 U1 Q x rest 1):x*(v1*18446744073709551616+v0)≤(U2*18446744073709551616+U1)*18446744073709551616+U0:=by
 have e:=h.eq;have r:=h.r1;have p:x*v0≤18446744073709551615*18446744073709551615:=Nat.mul_le_mul (by have:=h.x1; omega) (by omega);grind
theorem bJG{Q x rest:Nat}(g:v1<18446744073709551616)(q:Q*(v1*18446744073709551616+v0)≤(U2*18446744073709551616+U1)*18446744073709551616+U0)(h:DgL v1 U2 U1 Q x rest 0)(hc:¬x*(v1*18446744073709551616+v0)≤(U2*18446744073709551616+U1)*18446744073709551616+U0) :
  aIN .u64 x 1=x-1∧x-1<x∧DgL v1 U2 U1 Q (x-1) ((rest+v1+0)%18446744073709551616) ((rest+v1+0)/18446744073709551616):=by
 have f:Q<x:=by
  refine Nat.lt_of_mul_lt_mul_right (a:=v1*18446744073709551616+v0) ?_;omega
 have e:=h.eq;have r:=h.r1;have x1:=h.x1;obtain⟨y,rfl⟩:∃y,x=y+1:=⟨x-1,by omega⟩;rw[Nat.add_mul] at e;refine⟨bCi x1 (by omega),by omega,⟨?_,Nat.mod_lt _ xAb,by omega,by omega,by omega⟩⟩;grind
theorem bJH{v o:List Nat}{j un:Nat}(L:2≤v.length)(hs:v.length≤9000000000000)(N:un=v.length+1)(O:j+un≤o.length)
  (h:DgN X V P (v.getD (v.length-1) 0) (v.getD (v.length-2) 0) U2 U1 (o.getD (j+(v.length-2)) 0)) {x rest over:Nat} (hi:DgL (v.getD (v.length-1) 0) U2 U1 (X/V) x rest over) :
  ∃e,aGG (fun d:Nat×Nat×Nat=>mI none v un j o d.1 d.2.1 d.2.2) (x,rest,over)=some e∧X/V≤e∧e≤X/V+1∧e<18446744073709551616:=by
 have e1:((v.length:Int)-1).toNat=v.length-1:=by omega
 have g:((v.length:Int)-2).toNat=v.length-2:=by omega
 refine cO (step:=fun d:Nat×Nat×Nat=>mI none v un j o d.1 d.2.1 d.2.2) (I:=fun d=>DgL (v.getD (v.length-1) 0) U2 U1 (X/V) d.1 d.2.1 d.2.2) (fun d=>d.1) (fun e=>X/V≤e∧e≤X/V+1∧e<18446744073709551616) ?_ (x,rest,over) hi;rintro⟨x,rest,over⟩ hi;have hi:DgL (v.getD (v.length-1) 0) U2 U1 (X/V) x rest over:=hi;show (∃U,mI none v un j o x rest over=_∧_)∨ ∃e,mI none v un j o x rest over=_∧_;unfold mI;try simp only[pN,mulM,aKN]
 rw[e1,g];by_cases h0:over=0
 ·subst h0;have ht:=bJF h.v0h h.u0h hi;rw[if_pos rfl];by_cases hc:x*(v.getD (v.length-1) 0*18446744073709551616+v.getD (v.length-2) 0)≤(U2*18446744073709551616+U1)*18446744073709551616+o.getD (j+(v.length-2)) 0
  ·right
   refine⟨x,?_,hi.ge,bGh h hi.x1 hc,hi.x1⟩;refine aC (by omega) (aC (by omega) (aC (fun _ _=>by omega) (aC (fun _ _=>by omega) ?_)));exact(if_pos (ht.2 hc))
  ·left
   obtain⟨f,J,z⟩:=bJG h.v1h (bM1 h) hi hc;refine⟨(x-1,(rest+v.getD (v.length-1) 0+0)%18446744073709551616,(rest+v.getD (v.length-1) 0+0)/18446744073709551616),?_,z,J⟩;refine aC (by omega) (aC (by omega) (aC (fun _ _=>by omega) (aC (fun _ _=>by omega) ?_)));refine(if_neg (fun hh=>hc (ht.1 hh))).trans ?_;rw[f];exact aC (by omega) (aC (by omega) (aC (Nat.zero_le _) rfl))
 ·right
  have q:over=1:=by have:=hi.o1; omega
  subst q;exact⟨x,by rfl,hi.ge,bGh h hi.x1 (bLY h.v0h hi),hi.x1⟩
end
end Nu
end Go.Proofs
namespace Go.Proofs
open Go.Vc
set_option maxRecDepth 20000
namespace Nu
theorem bCs{x y c b o lo hi z c' d b':Nat}(e:18446744073709551616*hi+lo=x*y)(f:lo<18446744073709551616)(hp:x*y≤18446744073709551615*18446744073709551615)(hc:c<18446744073709551616)(hb:b≤1)(J:o<18446744073709551616)
  (I:z=(lo+c+0)%18446744073709551616) (q:c'=(hi+(lo+c+0)/18446744073709551616)%18446744073709551616) (hd:d=(o+18446744073709551616-z-b)%18446744073709551616) (g:b'=if o<z+b then 1 else 0) :
  d+x*y+c+b=o+18446744073709551616*(c'+b')∧d<18446744073709551616∧c'<18446744073709551616∧b'≤1:=by
 grind
theorem bNM{N g f Q R P o d c b c' b' x y t:Nat}(hP:P=Q*R)(q:g+P*o=N+P*d)(z:N+Q*x*t=f+P*(c+b))(h3:d+x*y+c+b=o+18446744073709551616*(c'+b')):g+Q*x*(t+R*y)=f+P*18446744073709551616*(c'+b'):=by
 grind
theorem bNN{N g f Q R P o d c c' y t:Nat}(hP:P=Q*R)(q:g+P*o=N+P*d)(z:N+P*c=f+Q*t)(h3:d+18446744073709551616*c'=o+y+c):g+P*18446744073709551616*c'=f+Q*(t+R*y):=by
 grind
structure MsI(v u:List Nat)(x j:Nat)(c b:Nat)(i:Int)(w:List Nat):Prop where
 i0:0≤i
 i1:i≤v.length
 len:w.length=u.length
 lm:Lm w
 c1:c<18446744073709551616
 b1:b≤1
 rest:w.drop (j+i.toNat)=u.drop (j+i.toNat)
 sum:nv w+18446744073709551616^j*x*nv (v.take i.toNat)=nv u+18446744073709551616^(j+i.toNat)*(c+b)
structure AbI(v u:List Nat)(j:Nat)(c:Nat)(i:Int)(w:List Nat):Prop where
 i0:0≤i
 i1:i≤v.length
 len:w.length=u.length
 lm:Lm w
 c1:c≤1
 rest:w.drop (j+i.toNat)=u.drop (j+i.toNat)
 sum:nv w+18446744073709551616^(j+i.toNat)*c=nv u+18446744073709551616^j*nv (v.take i.toNat)
theorem bJI{v u:List Nat}{x j c b:Nat}{i:Int}{w:List Nat}(hl:j+v.length<u.length)(h:MsI v u x j c b i w)(hi:i<v.length){d c' b':Nat}(hd:d<18446744073709551616)(f:c'<18446744073709551616)(g:b'≤1)
  (e:d+x*v.getD i.toNat 0+c+b=w.getD (j+i.toNat) 0+18446744073709551616*(c'+b')):MsI v u x j c' b' (i+1) (w.set (j+i.toNat) d):=by
 have h0:=h.i0;have q:=h.len;have e1:(i+1).toNat=i.toNat+1:=by omega
 refine⟨by omega,by omega,by simp_all,aCI h.lm _ hd,f,g,?_,?_⟩
 ·rw[e1,← Nat.add_assoc,drop_set]; exact aCK h.rest
 ·rw[e1,uU,← Nat.add_assoc,Nat.pow_succ];exact bNM (R:=18446744073709551616^i.toNat) (Nat.pow_add _ _ _) (aFf (by omega)) h.sum e
theorem bJJ{v u:List Nat}{j c:Nat}{i:Int}{w:List Nat}(hl:j+v.length<u.length)(h:AbI v u j c i w)(hi:i<v.length){d c':Nat}(hd:d<18446744073709551616)(f:c'≤1)
  (e:d+18446744073709551616*c'=w.getD (j+i.toNat) 0+v.getD i.toNat 0+c):AbI v u j c' (i+1) (w.set (j+i.toNat) d):=by
 have h0:=h.i0;have g:=h.len;have e1:(i+1).toNat=i.toNat+1:=by omega
 refine⟨by omega,by omega,by simp_all,aCI h.lm _ hd,f,?_,?_⟩
 ·rw[e1,← Nat.add_assoc,drop_set]; exact aCK h.rest
 ·rw[e1,uU,← Nat.add_assoc,Nat.pow_succ];exact bNN (R:=18446744073709551616^i.toNat) (Nat.pow_add _ _ _) (aFf (by omega)) h.sum e
theorem bHx{v u:List Nat}{x j un:Nat}(q:Lm v)(hx:x<18446744073709551616)(hs:v.length≤9000000000000)(O:un=v.length+1)(U:j+un≤u.length)(lu:Lm u) :
  ∃e,bO none (fun d:Nat×Nat×Int×qd=>kB none v x un j d.1 d.2.1 d.2.2.1 d.2.2.2) (0,0,0,u)=some e∧MsI v u x j e.1 e.2.1 v.length e.2.2:=by
 refine cO (step:=fun d:Nat×Nat×Int×qd=>kB none v x un j d.1 d.2.1 d.2.2.1 d.2.2.2) (I:=fun d=>MsI v u x j d.1 d.2.1 d.2.2.1 d.2.2.2) (fun d=>(v.length-d.2.2.1).toNat) (fun e=>MsI v u x j e.1 e.2.1 v.length e.2.2) ?_ (0,0,0,u) ⟨by simp,by simp,rfl,lu,by simp,by simp,rfl,by simp[nv]⟩;rintro⟨c,b,i,w⟩ h;have h:MsI v u x j c b i w:=h;have h0:=h.i0;have f:=h.len;show (∃W,kB none v x un j c b i w=_∧_)∨ ∃e,kB none v x un j c b i w=_∧_;unfold kB;by_cases hi:i<v.length
 ·left
  have hy:=gG q i.toNat;have z:=gG h.lm (j+i.toNat);have hb:=h.b1;obtain⟨g,J,L,N⟩:=bCs (b':=if w.getD (j+i.toNat) 0<(x*v.getD i.toNat 0%18446744073709551616+c+0)%18446744073709551616+b then 1 else 0) (Nat.div_add_mod (x*v.getD i.toNat 0) 18446744073709551616) (Nat.mod_lt _ xAb) (Nat.mul_le_mul (by omega) (by omega)) h.c1 hb z rfl rfl rfl rfl;refine⟨((x*v.getD i.toNat 0/18446744073709551616+(x*v.getD i.toNat 0%18446744073709551616+c+0)/18446744073709551616)%18446744073709551616,(if w.getD (j+i.toNat) 0<(x*v.getD i.toNat 0%18446744073709551616+c+0)%18446744073709551616+b then 1 else 0),i+1,w.set (j+i.toNat) ((w.getD (j+i.toNat) 0+18446744073709551616-(x*v.getD i.toNat 0%18446744073709551616+c+0)%18446744073709551616-b)%18446744073709551616)),?_,bJI (by omega) h hi J L N g,by grind⟩;rw[if_pos hi];exact aC (by omega) (aC (Nat.zero_le _) (aC (by omega) (aC (by omega) (aC hb (aC (by omega) (aC (by omega) (aC (by omega) rfl)))))))
 ·right
  refine⟨(c,b,w),by grind,?_⟩;have e:i=v.length:=by have:=h.i1; omega
  simp_all
theorem bHy{v u:List Nat}{j un:Nat}(g:Lm v)(hs:v.length≤9000000000000)(J:un=v.length+1)(L:j+un≤u.length)(lu:Lm u) :
  ∃e,bO none (fun d:Nat×Int×qd=>kA none v un j d.1 d.2.1 d.2.2) (0,0,u)=some e∧AbI v u j e.1 v.length e.2:=by
 refine cO (step:=fun d:Nat×Int×qd=>kA none v un j d.1 d.2.1 d.2.2) (I:=fun d=>AbI v u j d.1 d.2.1 d.2.2) (fun d=>(v.length-d.2.1).toNat) (fun e=>AbI v u j e.1 v.length e.2) ?_ (0,0,u) ⟨by simp,by simp,rfl,lu,by simp,rfl,by simp[nv]⟩;rintro⟨c,i,w⟩ h;have h:AbI v u j c i w:=h;have h0:=h.i0;have f:=h.len;show (∃N,kA none v un j c i w=_∧_)∨ ∃e,kA none v un j c i w=_∧_;unfold kA;by_cases hi:i<v.length
 ·left
  have hy:=gG g i.toNat;have z:=gG h.lm (j+i.toNat);have hc:=h.c1;have q:=Nat.div_add_mod (w.getD (j+i.toNat) 0+v.getD i.toNat 0+c) 18446744073709551616;refine⟨(_,_,_),?_,bJJ (d:=(w.getD (j+i.toNat) 0+v.getD i.toNat 0+c)%18446744073709551616) (c':=(w.getD (j+i.toNat) 0+v.getD i.toNat 0+c)/18446744073709551616) (by omega) h hi (Nat.mod_lt _ xAb) (by omega) (by omega),by grind⟩;rw[if_pos hi];refine aC (by omega) (aC (by omega) (aC (by omega) (aC hc (aC (by omega) (aC (by omega) (aC (by omega) ?_))))));rfl
 ·right
  refine⟨(c,w),by grind,?_⟩;have e:i=v.length:=by have:=h.i1; omega
  simp_all
theorem bGi{w u:List Nat}{K:Nat}(g:Lm w)(lu:Lm u)(h:w.drop K=u.drop K)(q:nv u<18446744073709551616^K):nv w<18446744073709551616^K:=by
 have hp:0<18446744073709551616^K:=Nat.pow_pos xAb;have f:=aNm g K;rw[h,aNm lu,Nat.div_eq_of_lt q] at f;exact(Nat.div_eq_zero_iff_lt hp).1 f.symm
theorem bJK{N f W x:Nat}{Q:Nat}(g:0<W)(z:Q=N/W)(hx:Q≤x)(h:f+x*W=N):x=Q∧f+Q*W=N:=by
 have q:x≤N/W:=(Nat.le_div_iff_mul_le g).2 (by omega);grind
theorem bLZ{N g z q W x T S f c:Nat}{Q:Nat}(hQ:Q=N/W)(I:Q≤x)(U:x≤Q+1)(h3:g+x*W=N+T)(O:g<T)(h4:z+S*c=g+W)(Y:q+S*f=z+S*((f+c)%18446744073709551616))(J:q<T)(Z:T=S*18446744073709551616)(ho:f<18446744073709551616)(hc:c≤1) :
  x=Q+1∧q+Q*W=N:=by
 have L:Q*W≤N:=by simp_all[Nat.div_mul_le_self]
 have hx:x=Q+1:=by
  grind
 subst hx;refine⟨rfl,?_⟩;rw[Nat.add_mul,Nat.one_mul] at h3;rcases Nat.lt_or_ge (f+c) 18446744073709551616 with h|h
 ·rw[Nat.mod_eq_of_lt h,Nat.mul_add] at Y;omega
 ·have e:(f+c)%18446744073709551616=0:=by omega
  grind
theorem aXe{v u:List Nat}{j un:Nat}(I:Lm v)(lu:Lm u)(hn:2≤v.length)(hs:v.length≤9000000000000)(hu:un=v.length+1)(ho:j+un≤u.length)
  (hv:9223372036854775808≤v.getD (v.length-1) 0) (hq:nv u<18446744073709551616^(j+1)*nv v) :
  ∃w,aBg none j un v u=some (nv u/(18446744073709551616^j*nv v),w)∧w.length=u.length∧Lm w∧nv w+nv u/(18446744073709551616^j*nv v)*(18446744073709551616^j*nv v)=nv u:=by
 have hVB:=qX I;have hJ:0<18446744073709551616^j:=Nat.pow_pos xAb;have hX:nv u/18446744073709551616^j<18446744073709551616*nv v:=(Nat.div_lt_iff_lt_mul hJ).2 (by rw[Nat.pow_succ,Nat.mul_assoc] at hq; grind);have O:nv u/18446744073709551616^j/nv v=nv u/(18446744073709551616^j*nv v):=Nat.div_div_eq_div_mul _ _ _;have L:nv u<18446744073709551616^(j+v.length+1):=by
  refine Nat.lt_of_lt_of_le hq ?_;rw[show j+v.length+1=j+1+v.length from by omega,Nat.pow_add _ (j+1)];exact Nat.mul_le_mul_left _ (Nat.le_of_lt hVB)
 have hD:DgN (nv u/18446744073709551616^j) (nv v) (18446744073709551616^(v.length-2)) (v.getD (v.length-1) 0) (v.getD (v.length-2) 0) (u.getD (j+v.length) 0) (u.getD (j+(v.length-1)) 0) (u.getD (j+(v.length-2)) 0):=by
  refine⟨Nat.pow_pos xAb,?_,?_,hv,gG I _,gG I _,gG lu _,gG lu _,gG lu _,hX⟩
  ·have e1:j+(v.length-1)=j+(v.length-2)+1:=(by omega);have e2:j+v.length=j+(v.length-2)+1+1:=(by omega);have hz:nv u/18446744073709551616^(j+(v.length-2))<18446744073709551616*18446744073709551616*18446744073709551616:=by
    refine(Nat.div_lt_iff_lt_mul (Nat.pow_pos xAb)).2 ?_;rw[show j+v.length+1=j+(v.length-2)+1+1+1 from by omega,Nat.pow_succ,Nat.pow_succ,Nat.pow_succ] at L;grind
   rw[xA lu,xA lu,xA lu,e1,e2,Nat.pow_succ,Nat.pow_succ,← Nat.div_div_eq_div_mul,← Nat.div_div_eq_div_mul,Nat.div_div_eq_div_mul _ (18446744073709551616^j),← Nat.pow_add];grind
  ·have hz:nv v/18446744073709551616^(v.length-2)<18446744073709551616*18446744073709551616:=by
    refine(Nat.div_lt_iff_lt_mul (Nat.pow_pos xAb)).2 ?_;have h:=hVB;rw[show v.length=v.length-2+1+1 from by omega,Nat.pow_succ,Nat.pow_succ] at h;grind
   rw[xA I,xA I,show v.length-1=v.length-2+1 from by omega,Nat.pow_succ,← Nat.div_div_eq_div_mul];grind
 have e1:((v.length:Int)-1).toNat=v.length-1:=by omega
 rw[← O];have hV0:0<nv v:=by
  grind
 have hW:0<18446744073709551616^j*nv v:=Nat.mul_pos hJ hV0;have main:∀x,nv u/18446744073709551616^j/nv v≤x→x≤nv u/18446744073709551616^j/nv v+1→x<18446744073709551616→ ∃w,tE none v un j u x=some (nv u/18446744073709551616^j/nv v,w)∧w.length=u.length∧Lm w∧nv w+nv u/18446744073709551616^j/nv v*(18446744073709551616^j*nv v)=nv u:=by
  intro x hx1 hx2 hx3;obtain⟨⟨c,b,w⟩,m1,z⟩:=bHx (j:=j) I hx3 hs hu ho lu;have z:MsI v u x j c b v.length w:=z;have hlen:=z.len;have ho2:=gG z.lm (j+v.length);have hc:=z.c1;have hb:=z.b1;have hrest:=z.rest;have g:=z.sum;rw[Int.toNat_natCast] at hrest g;rw[List.take_length] at g;have hset:=aFf (a:=w) (k:=j+v.length) (v:=(w.getD (j+v.length) 0+18446744073709551616-c-b)%18446744073709551616) (by omega);have q:Lm (w.set (j+v.length) ((w.getD (j+v.length) 0+18446744073709551616-c-b)%18446744073709551616)):=aCI z.lm _ (Nat.mod_lt _ xAb);have Y:(w.set (j+v.length) ((w.getD (j+v.length) 0+18446744073709551616-c-b)%18446744073709551616)).drop (j+v.length+1)=u.drop (j+v.length+1):=by
   grind[drop_set,aCK]
  have hT3:=bGi q lu Y L;have hx:18446744073709551616^j*x*nv v=x*(18446744073709551616^j*nv v):=by grind
  rw[hx] at g;unfold tE;rw[m1];simp only[Option.bind_some];unfold yD;by_cases hbo:w.getD (j+v.length) 0<c+b
  ·
   have hd:(w.getD (j+v.length) 0+18446744073709551616-c-b)%18446744073709551616+c+b=w.getD (j+v.length) 0+18446744073709551616:=(by omega);have h3:nv (w.set (j+v.length) ((w.getD (j+v.length) 0+18446744073709551616-c-b)%18446744073709551616))+x*(18446744073709551616^j*nv v)=nv u+18446744073709551616^(j+v.length+1):=by
    grind
   have hb1:¬(aHF (w.getD (j+v.length) 0) c b).2.1=0:=(by show ¬(if w.getD (j+v.length) 0<c+b then 1 else 0)=0; simp_all);have hl3:(w.set (j+v.length) ((w.getD (j+v.length) 0+18446744073709551616-c-b)%18446744073709551616)).length=u.length:=(by simp_all);obtain⟨W,hw3⟩:∃W,W=w.set (j+v.length) ((w.getD (j+v.length) 0+18446744073709551616-c-b)%18446744073709551616):=⟨_,rfl⟩;have hw3':w.set (j+v.length) (aHF (w.getD (j+v.length) 0) c b).1=W:=hw3.symm;rw[← hw3] at h3 hT3 q Y hl3;obtain⟨⟨c4,N⟩,n1,J⟩:=bHy (u:=W) (j:=j) I hs hu (by omega) q;have J:AbI v W j c4 v.length N:=J;have hl4:=J.len;have ho4:=gG J.lm (j+v.length);have hrest4:=J.rest;have f:=J.sum;rw[Int.toNat_natCast] at hrest4 f;rw[List.take_length] at f;have U:=aFf (a:=N) (k:=j+v.length) (v:=(N.getD (j+v.length) 0+c4)%18446744073709551616) (by omega);have Z:Lm (N.set (j+v.length) ((N.getD (j+v.length) 0+c4)%18446744073709551616)):=aCI J.lm _ (Nat.mod_lt _ xAb);have hr5:(N.set (j+v.length) ((N.getD (j+v.length) 0+c4)%18446744073709551616)).drop (j+v.length+1)=u.drop (j+v.length+1):=by
    grind[drop_set,aCK]
   have hT5:=bGi Z lu hr5 L;obtain⟨f1,f2⟩:=bLZ O hx1 hx2 h3 hT3 f U hT5 (Nat.pow_succ ..) ho4 J.c1;refine⟨_,aC (by omega) (aC (by omega) (aC hb (aC (by omega) (aC (by omega) ?_)))),?_,Z,f2⟩
   ·refine(if_neg hb1).trans ?_;rw[hw3'];refine aJ n1 ?_;unfold yC;(try simp only[pN,mulM,aKN]);refine aC (by omega) (aC (by omega) (aC (by omega) (aC (by omega) ?_)));simp_all[bCi,Nat.succ_le_succ,Nat.zero_le,Nat.add_sub_cancel]
   simp_all
  ·have hd:(w.getD (j+v.length) 0+18446744073709551616-c-b)%18446744073709551616+c+b=w.getD (j+v.length) 0:=(by omega);have h3:nv (w.set (j+v.length) ((w.getD (j+v.length) 0+18446744073709551616-c-b)%18446744073709551616))+x*(18446744073709551616^j*nv v)=nv u:=by
    grind
   have hb0:(aHF (w.getD (j+v.length) 0) c b).2.1=0:=if_neg hbo;obtain⟨f1,f2⟩:=bJK hW O hx1 h3;refine⟨_,aC (by omega) (aC (by omega) (aC hb (aC (by omega) (aC (by omega) ?_)))),?_,q,f2⟩
   ·refine(if_pos hb0).trans ?_;rw[f1]; rfl
   simp_all
 have start:∀x rest over,DgL (v.getD (v.length-1) 0) (u.getD (j+v.length) 0) (u.getD (j+(v.length-1)) 0) (nv u/18446744073709551616^j/nv v) x rest over→ ∃w,pT none v un j u x rest over=some (nv u/18446744073709551616^j/nv v,w)∧w.length=u.length∧Lm w∧nv w+nv u/18446744073709551616^j/nv v*(18446744073709551616^j*nv v)=nv u:=by
  intro x rest over hL;obtain⟨e,g1,g2,g3,g4⟩:=bJH hn hs hu ho hD hL;simp_all[pT,aJ]
 have hu1:=gG lu (j+(v.length-1));have hu2:=gG lu (j+v.length);have hv1:=gG I (v.length-1);have hge:=bNK hD;have hlt:=bNL hD;have hle:=bNJ hD;unfold aBg;rw[e1];by_cases hc:u.getD (j+v.length) 0<v.getD (v.length-1) 0
 ·have hdm:=Nat.div_add_mod (u.getD (j+v.length) 0*18446744073709551616+u.getD (j+(v.length-1)) 0) (v.getD (v.length-1) 0);have hml:=Nat.mod_lt (u.getD (j+v.length) 0*18446744073709551616+u.getD (j+(v.length-1)) 0) (show 0<v.getD (v.length-1) 0 by omega);have hdl:(u.getD (j+v.length) 0*18446744073709551616+u.getD (j+(v.length-1)) 0)/v.getD (v.length-1) 0<18446744073709551616:=by
   refine(Nat.div_lt_iff_lt_mul (by omega)).2 ?_;omega
  obtain⟨w,k1,k2⟩:=start _ _ 0 ⟨by grind,Nat.lt_trans hml hv1,by decide,hdl,hge⟩;refine⟨w,?_,k2⟩;refine aC (by omega) (aC (by omega) (aC (by omega) (aC (by omega) ?_)));refine(if_pos hc).trans ?_;exact aC (by omega) (aC (by omega) (aC (by omega) (aC (by omega) (aC (by omega) (aC (by omega) (aC (by omega) (aC hc k1)))))))
 ·have hd:=Nat.div_add_mod (u.getD (j+(v.length-1)) 0+v.getD (v.length-1) 0+0) 18446744073709551616;obtain⟨w,k1,k2⟩:=start 18446744073709551615 ((u.getD (j+(v.length-1)) 0+v.getD (v.length-1) 0+0)%18446744073709551616) ((u.getD (j+(v.length-1)) 0+v.getD (v.length-1) 0+0)/18446744073709551616) ⟨by omega,Nat.mod_lt _ xAb,by omega,by decide,by omega⟩;refine⟨w,?_,k2⟩;refine aC (by omega) (aC (by omega) (aC (by omega) (aC (by omega) ?_)));refine(if_neg hc).trans ?_;exact aC (by omega) (aC (by omega) (aC (by omega) (aC (by omega) (aC (by omega) (aC (Nat.zero_le _) k1)))))
noncomputable section
abbrev aHI(a b:List Nat):Prop:=Nrm a∧Nrm b∧nv b≠0∧a.length≤1099511627776
def oE(a b:List Nat):List Nat×List Nat×Unit:=(lb (nv a/nv b),lb (nv a%nv b),())
def aAK(F:Md)(f:qd)(g:qd)(q:qd):Option qm :=
 ck (0≤(f.length:Int)∧(f.length:Int)≤(g.length:Int)) (ck (aZN (dK (List.take (f.length) g)) (aF (f.getD ((f.length:Int)-(1:Int)).toNat (0:Nat)))) (some ((dK q),(uJ (dK (List.take (f.length) g)) (aF (f.getD ((f.length:Int)-(1:Int)).toNat (0:Nat)))),())))
def rA(F:Md)(g:qd)(f:Int)(z:qd)(q:qd):Option ((Int×qd×qd)⊕(qd×qd)) :=
 if (0:Int)≤f then ck (I64 (f+(g.length:Int))) (ck (I64 ((f+(g.length:Int))+(1:Int))) (ck (0≤f∧f<((f+(g.length:Int))+(1:Int))∧((f+(g.length:Int))+(1:Int))≤(z.length:Int)) ((aBg F (f.toNat) (((f+(g.length:Int))+(1:Int))-f).toNat (dS (fR g (aF (g.getD ((g.length:Int)-(1:Int)).toNat (0:Nat)))) (g.length:Int)) z).bind (fun I=>ck (0≤f∧f<(q.length:Int)) (ck (I64 (f-(1:Int))) (some (.inl ((f-(1:Int)),I.2,(q.set (f.toNat) I.1))))))))) else some (.inr (z,q))
def aBY(F:Md)(g:qd)(f:qd):Option qm :=
 ck (bCm g f) (if (gQ g f)<(0:Int) then ck (bHq g) (some (([]:List Nat),(id g),())) else if (f.length:Int)=(1:Int) then ck ((0:Int)<(f.length:Int)) (ck (aJn g (f.getD (0:Nat) (0:Nat))) (some ((aBf g (f.getD (0:Nat) (0:Nat))).1,(aBf g (f.getD (0:Nat) (0:Nat))).2.1,()))) else ck (I64 ((f.length:Int)-(1:Int))) (ck (0≤((f.length:Int)-(1:Int))∧((f.length:Int)-(1:Int))<(f.length:Int)) (ck (aYH f (aF (f.getD ((f.length:Int)-(1:Int)).toNat (0:Nat)))) (ck (aEp (fR f (aF (f.getD ((f.length:Int)-(1:Int)).toNat (0:Nat)))) (f.length:Int)) (ck (aYH g (aF (f.getD ((f.length:Int)-(1:Int)).toNat (0:Nat)))) (ck (I64 ((g.length:Int)+(1:Int))) (ck (aEp (fR g (aF (f.getD ((f.length:Int)-(1:Int)).toNat (0:Nat)))) ((g.length:Int)+(1:Int))) (ck (I64 ((g.length:Int)-(f.length:Int))) (ck (I64 (((g.length:Int)-(f.length:Int))+(1:Int))) (ck (0≤(((g.length:Int)-(f.length:Int))+(1:Int))) (ck ((8:Int)*(((g.length:Int)-(f.length:Int))+(1:Int))≤281474976710656) (ck (I64 ((g.length:Int)-(f.length:Int))) ((bO F (fun d:Int×qd×qd=>rA F f d.1 d.2.1 d.2.2) (((g.length:Int)-(f.length:Int)),(dS (fR g (aF (f.getD ((f.length:Int)-(1:Int)).toNat (0:Nat)))) ((g.length:Int)+(1:Int))),(List.replicate (((g.length:Int)-(f.length:Int))+(1:Int)).toNat (0:Nat)))).bind (fun e=>aAK F f e.1 e.2))))))))))))))
theorem aPP{a:List Nat}{n:Int}:nv (dS a n)=nv a:=by
 unfold dS; rw[aMi,aPN,Nat.mul_zero,Nat.add_zero]
theorem aUN{a:List Nat}{n:Int}(h:a.length≤n):(dS a n).length=n.toNat:=by
 grind[dS,List.length_append,List.length_replicate]
theorem aYJ{a:List Nat}{n:Int}(h:Lm a):Lm (dS a n):=bEl h (aPO _)
theorem bCt{b:List Nat}(g:Lm b)(I:Nrm b)(h0:nv b≠0):0<b.length∧1≤b.getD (b.length-1) 0∧b.getD (b.length-1) 0*18446744073709551616^(b.length-1)≤nv b∧nv b<(b.getD (b.length-1) 0+1)*18446744073709551616^(b.length-1):=by
 have f:b≠ []:=fun e=>h0 (by rw[e]; rfl);have hl:0<b.length:=List.length_pos_iff.2 f;have hp:0<18446744073709551616^(b.length-1):=Nat.pow_pos xAb;have z:=bF8 I f;have q:=qX g;have ht:b.getD (b.length-1) 0=nv b/18446744073709551616^(b.length-1):=by
  rw[xA g];refine Nat.mod_eq_of_lt ((Nat.div_lt_iff_lt_mul hp).2 ?_);rw[Nat.mul_comm,← Nat.pow_succ,show (b.length-1).succ=b.length from by omega];exact q
 rw[ht];exact⟨hl,(Nat.le_div_iff_mul_le hp).2 (by omega),Nat.div_mul_le_self _ _,by simp_all[Nat.mul_comm,Nat.lt_mul_div_succ]⟩
theorem bHz{b:List Nat}(g:Lm b)(N:Nrm b)(h0:nv b≠0):nv b*2^(64-bl (b.getD (b.length-1) 0))<18446744073709551616^b.length∧9223372036854775808*18446744073709551616^(b.length-1)≤nv b*2^(64-bl (b.getD (b.length-1) 0)):=by
 obtain⟨hl,O,U,h3⟩:=bCt g N h0;have hb:=bJq (gG g (b.length-1));have f:=aZF (x:=b.getD (b.length-1) 0) (by omega);have z:=aYC (b.getD (b.length-1) 0);have I:=aZE (x:=b.getD (b.length-1) 0) (by omega);generalize b.getD (b.length-1) 0=t at *;have hp:=Nat.two_pow_pos (64-bl t);have e1:2^bl t*2^(64-bl t)=18446744073709551616:=by rw[← Nat.pow_add,show bl t+(64-bl t)=64 from by omega]
 have J:2^(bl t-1)*2^(64-bl t)=9223372036854775808:=by grind[Nat.pow_add,bl]
 constructor
 ·have q:(t+1)*2^(64-bl t)≤18446744073709551616:=by rw[← e1]; exact Nat.mul_le_mul_right _ z
  have L:=Nat.mul_lt_mul_of_pos_right h3 hp;refine Nat.lt_of_lt_of_le L ?_;rw[Nat.mul_right_comm,show 18446744073709551616^b.length=18446744073709551616*18446744073709551616^(b.length-1) from by rw[Nat.mul_comm,← Nat.pow_succ]; grind];exact Nat.mul_le_mul_right _ q
 ·have q:9223372036854775808≤t*2^(64-bl t):=by rw[← J]; exact Nat.mul_le_mul_right _ f
  refine Nat.le_trans (Nat.mul_le_mul_right _ q) ?_;simp_all[Nat.mul_right_comm,Nat.mul_le_mul_right]
structure QrI(m n V N:Nat)(j:Int)(u q:List Nat):Prop where
 j0: -1≤j
 j1:j≤m
 ul:u.length=m+n+1
 lu:Lm u
 ql:q.length=m+1
 lq:Lm q
 lt:nv u<18446744073709551616^(j+1).toNat*V
 lo:∃t,nv q=18446744073709551616^(j+1).toNat*t
 sum:nv q*V+nv u=N
theorem bJL{m n V N:Nat}{j:Int}{u q w:List Nat}(h:QrI m n V N j u q)(hj:0≤j)(Z:w.length=u.length)(O:Lm w)(hV:0<V)
  (e:nv w+nv u/(18446744073709551616^j.toNat*V)*(18446744073709551616^j.toNat*V)=nv u):QrI m n V N (j-1) w (q.set j.toNat (nv u/(18446744073709551616^j.toNat*V))):=by
 have h1:=h.j1;have W:=h.ql;have J:=h.ul;have e1:(j+1).toNat=j.toNat+1:=by omega
 have I:(j-1+1).toNat=j.toNat:=by omega
 have U:0<18446744073709551616^j.toNat*V:=Nat.mul_pos (Nat.pow_pos xAb) hV;have g:=h.lt;obtain⟨t,ht⟩:=h.lo;rw[e1] at g ht;have L:nv u/(18446744073709551616^j.toNat*V)<18446744073709551616:=by
  refine(Nat.div_lt_iff_lt_mul U).2 ?_;rw[Nat.pow_succ,Nat.mul_comm (18446744073709551616^j.toNat) 18446744073709551616,Nat.mul_assoc] at g;exact g
 have z:q.getD j.toNat 0=0:=by
  rw[xA h.lq,ht,Nat.pow_succ,Nat.mul_assoc,Nat.mul_div_cancel_left _ (Nat.pow_pos xAb),Nat.mul_mod_right]
 have f:=aFf (a:=q) (k:=j.toNat) (v:=nv u/(18446744073709551616^j.toNat*V)) (by omega);rw[z,Nat.mul_zero,Nat.add_zero] at f;have Y:nv w=nv u%(18446744073709551616^j.toNat*V):=by
  grind[Nat.div_add_mod,nv,Nat.mul_comm]
 refine⟨by omega,by omega,by omega,O,by simp_all,aCI h.lq _ L,?_,?_,?_⟩
 ·simp_all[Nat.mod_lt]
 ·rw[I,f,ht,Nat.pow_succ,Nat.mul_assoc,← Nat.mul_add]; grind
 ·have hs:=h.sum;grind
theorem aUO(a:List Nat)(wa:(Ty.sl qk).wf a)(b:List Nat)(wb:(Ty.sl qk).wf b)(hp:aHI a b):aBY none a b=some (oE a b):=by
 obtain⟨na,nb,U,sa⟩:=hp;have Z:=aFg wa;have L:=aFg wb;obtain⟨hl,t1,t2,t3⟩:=bCt L nb U;obtain⟨v1,v2⟩:=bHz L nb U;have h64:=bJq (gG L (b.length-1));have hpos:=aZE (x:=b.getD (b.length-1) 0) (by omega);unfold aBY;refine aC ⟨na,nb⟩ (aGJ (fun hc=>?_) (fun hc=>aGJ (fun h1=>?_) (fun h1=>?_)))
 ·have f:nv a<nv b:=by
   grind[gQ,xP]
  unfold oE;rw[Nat.div_eq_of_lt f,Nat.mod_eq_of_lt f,zE,bJo Z na];exact aC (by omega) rfl
 ·have hb1:nv b=b.getD 0 0:=by
   grind
  refine aC (by omega) (aC ⟨by omega,sa⟩ ?_);grind[aBf,oE]
 ·have hge:nv b≤nv a:=by
   grind[gQ,xP]
  have hlen:b.length≤a.length:=by
   rcases Nat.lt_or_ge a.length b.length with h|h
   ·exfalso;have W:=qX Z;have k2:18446744073709551616^a.length≤18446744073709551616^(b.length-1):=Nat.pow_le_pow_right xAb (by omega);grind[bF8]
   omega
  have e1:((b.length:Int)-1).toNat=b.length-1:=by omega
  rw[e1];have hs:(aF (b.getD (b.length-1) 0)).toNat=64-bl (b.getD (b.length-1) 0):=by grind[aF]
  have O:0≤aF (b.getD (b.length-1) 0)∧aF (b.getD (b.length-1) 0)≤63:=by grind[aF]
  have g:fR b (aF (b.getD (b.length-1) 0))=lb (nv b*2^(64-bl (b.getD (b.length-1) 0))):=by grind[fR]
  have N:fR a (aF (b.getD (b.length-1) 0))=lb (nv a*2^(64-bl (b.getD (b.length-1) 0))):=by grind[fR]
  have J:64-bl (b.getD (b.length-1) 0)≤63:=by omega
  have hbl:(lb (nv b*2^(64-bl (b.getD (b.length-1) 0)))).length≤b.length:=aBS.2 v1;have hal:(lb (nv a*2^(64-bl (b.getD (b.length-1) 0)))).length≤a.length+1:=by
   refine aBS.2 ?_;rw[Nat.pow_succ];refine Nat.mul_lt_mul'' (qX Z) ?_;exact Nat.lt_of_le_of_lt (Nat.pow_le_pow_right xAb J) xAb
  have hn2:2≤b.length:=by omega
  obtain⟨sI,z⟩:∃sI,sI=aF (b.getD (b.length-1) 0):=⟨_,rfl⟩;obtain⟨s,hss⟩:∃s,s=64-bl (b.getD (b.length-1) 0):=⟨_,rfl⟩;rw[← hss] at v1 v2 hbl hal N g J hs;rw[← z] at N g O hs;rw[← z,N,g];have hV:0<nv b*2^s:=Nat.mul_pos (by omega) (Nat.two_pow_pos s);have key:=cO (step:=fun d:Int×qd×qd=>rA none b d.1 d.2.1 d.2.2) (I:=fun d=>QrI (a.length-b.length) b.length (nv b*2^s) (nv a*2^s) d.1 d.2.1 d.2.2) (fun d=>(d.1+1).toNat)
   (fun e=>e.1.length=a.length+1∧Lm e.1∧nv e.1=nv a*2^s%(nv b*2^s)∧nv e.2=nv a*2^s/(nv b*2^s)) ?_ ((a.length:Int)-(b.length:Int),dS (lb (nv a*2^s)) ((a.length:Int)+1),List.replicate (((a.length:Int)-(b.length:Int))+1).toNat 0) ?_
  ·obtain⟨e,h2,h3,h4,h5,h6⟩:=key;refine aC (by omega) (aC (by omega) (aC ⟨(by omega),by omega,by omega⟩ (aC (by omega) (aC ⟨sa,by omega,by omega⟩ (aC (by omega) (aC (by omega) (aC (by omega) (aC (by omega) (aC (by omega) (aC (by omega) (aC (by omega) (aJ h2 ?_))))))))))));have hm:nv e.1<nv b*2^s:=(by simp_all[Nat.mod_lt]);have htk:nv (e.1.take b.length)=nv e.1:=by
    rw[bLL h4]; exact Nat.mod_eq_of_lt (Nat.lt_trans hm v1)
   have htr:dK (e.1.take b.length)=lb (nv e.1):=(by rw[dK,htk]);unfold aAK;rw[e1,← z,htr];refine aC (by omega) (aC ⟨?_,O.1⟩ ?_)
   ·have:=aBS.2 (Nat.lt_trans hm v1);omega
   ·unfold oE uJ;rw[dK,h6,uI,hs,h5,Nat.mul_div_mul_right _ _ (Nat.two_pow_pos s),Nat.mul_mod_mul_right,Nat.mul_div_cancel _ (Nat.two_pow_pos s)]
  ·rintro⟨j,u,q⟩ h;have h:QrI (a.length-b.length) b.length (nv b*2^s) (nv a*2^s) j u q:=h;have i0:=h.j0;have i1:=h.j1;have hul:=h.ul;have hql:=h.ql;show (∃d',rA none b j u q=_∧_)∨ ∃e,rA none b j u q=_∧_;unfold rA;rw[e1,← z,g];by_cases hj:0≤j
   ·left
    have hvl:(dS (lb (nv b*2^s)) (b.length:Int)).length=b.length:=(by grind[aUN,Int.toNat_natCast]);have Y:nv (dS (lb (nv b*2^s)) (b.length:Int))=nv b*2^s:=(by rw[aPP,uI]);have lv:Lm (dS (lb (nv b*2^s)) (b.length:Int)):=aYJ (aK4 _);have htop:9223372036854775808≤(dS (lb (nv b*2^s)) (b.length:Int)).getD (b.length-1) 0:=by
     have hp:0<18446744073709551616^(b.length-1):=Nat.pow_pos xAb;rw[xA lv,Y,Nat.mod_eq_of_lt ((Nat.div_lt_iff_lt_mul hp).2 (by rw[← Nat.pow_succ',show (b.length-1).succ=b.length from by omega]; exact v1))];simp_all[Nat.le_div_iff_mul_le]
    have f:=h.lt;rw[show (j+1).toNat=j.toNat+1 from by omega] at f;obtain⟨w,W,k2,k3,k4⟩:=aXe (v:=dS (lb (nv b*2^s)) (b.length:Int)) (u:=u) (j:=j.toNat) (un:=((j+(b.length:Int))+1-j).toNat) lv h.lu (by omega) (by omega) (by omega) (by omega) (by simp_all) (by simp_all);rw[Y] at W k4;refine⟨(j-1,w,q.set j.toNat (nv u/(18446744073709551616^j.toNat*(nv b*2^s)))),?_,bJL h hj k2 k3 hV k4,by omega⟩;rw[if_pos hj];exact aC (by omega) (aC (by omega) (aC (by omega) (aJ W (aC (by omega) (aC (by omega) rfl)))))
   ·right
    have hj1:(j+1).toNat=0:=(by omega);have f:=h.lt;rw[hj1,Nat.pow_zero,Nat.one_mul] at f;have hs4:=h.sum;refine⟨(u,q),by grind,by simp_all,h.lu,?_,?_⟩
    ·grind[Nat.add_comm,Nat.add_mul_mod_self_right,Nat.mod_eq_of_lt]
    ·simp only;rw[← hs4,Nat.add_comm,Nat.add_mul_div_right _ _ hV,Nat.div_eq_of_lt f,Nat.zero_add]
  ·have ej:((a.length:Int)-(b.length:Int)+1).toNat=a.length-b.length+1:=(by omega);refine⟨by omega,by omega,?_,aYJ (aK4 _),?_,aPO _,?_,⟨0,?_⟩,?_⟩
   ·grind[aUN]
   ·simp_all
   ·simp only;rw[aPP,uI,ej];have W:=qX Z;have k2:2^s≤2^63:=Nat.pow_le_pow_right xAb J;refine Nat.lt_of_lt_of_le (Nat.mul_lt_mul_of_pos_right W (Nat.two_pow_pos s)) ?_;refine Nat.le_trans (Nat.mul_le_mul_left _ k2) ?_;refine Nat.le_trans ?_ (Nat.mul_le_mul_left _ v2);rw[Nat.mul_left_comm,← Nat.pow_add,show a.length-b.length+1+(b.length-1)=a.length from by omega,Nat.mul_comm];omega
   ·simp_all[aPN,Nat.mul_zero]
   ·simp only; rw[aPN,Nat.zero_mul,Nat.zero_add,aPP,uI]
set_option maxHeartbeats 4000000
def aK6:PlR:=⟨[(0,.A [0,2]),(1,.A [0,2,4]),(2,.A [0]),(3,.A [0,2]),(4,.A [0,2,8]),(5,.A [0,2]),(6,.A [0,2]),(7,.A [0,2,14]),(8,.A [0,2]),(9,.A [0,2]),(10,.A [2])],[(4,7),(7,10),(10,13)],[]⟩
@[go_sem]def aHJ:Ty:=.pair qk .unit
@[go_sem]def wI:aH:=⟨aHJ,.one qi,fun _=>True,fun x=>oC x.1⟩
def aXf(F:Md):aH:=mSpec aHJ (.one qi) (fun x=>aBU F x.1)
abbrev aZP(F:Md):List (FuncId×aH):=[]
theorem aZQ(F:Md):bA Tryz.prog GL (aZP F):=.nil
attribute [go_sem] aK6
theorem aXg(F:Md):FOK Tryz.prog GL 157 (aXf F):=by
 refine aX (aY (aZQ F)) mix Tryz.func157 rfl xAa xAb aK6 (fun w0 S x Θ N h hV=>?_);obtain⟨(I:Nat),u⟩:=x;simp only[bD,go_sem];replace h:sat (aBU F I) _:=h;unfold aBU at h;refine bH hV (D:=Nat×Int) (fun d=>sat (nO F d.1 d.2) Θ) [] (fun d=>[(0,.val qk d.1),(2,.val qi d.2)]) (fun d=>[]) ?_ ?_
 ·simp only[go_sem];refine bS h (fun hc h=>?_) fun hc h=>?_
  ·exact aK ((I/(4294967296:Nat)),(32:Int)) h rfl xAc
  ·exact aK (I,(0:Int)) h rfl xAc
 ·rintro⟨q,z⟩ h;simp only[go_sem];replace h:sat (nO F q z) _:=h;unfold nO at h;refine bH hV (D:=Nat×Int) (fun d=>sat (nN F d.1 d.2) Θ) [] (fun d=>[(0,.val qk d.1),(2,.val qi d.2)]) (fun d=>[]) ?_ ?_
  ·simp only[go_sem];refine bS h (fun hc h=>?_) fun hc h=>?_
   ·refine aG h fun g0 h=>?_;exact aK ((q/(65536:Nat)),(z+(16:Int))) h rfl xAc
   ·exact aK (q,z) h rfl xAc
  ·rintro⟨f,g⟩ h;simp only[go_sem];replace h:sat (nN F f g) _:=h;unfold nN at h;refine bH hV (D:=Nat×Int) (fun d=>sat (nM F d.1 d.2) Θ) [] (fun d=>[(0,.val qk d.1),(2,.val qi d.2)]) (fun d=>[]) ?_ ?_
   ·simp only[go_sem];refine bS h (fun hc h=>?_) fun hc h=>?_
    ·refine aG h fun g0 h=>?_;exact aK ((f/(256:Nat)),(g+(8:Int))) h rfl xAc
    ·exact aK (f,g) h rfl xAc
   ·rintro⟨J,L⟩ h;simp only[go_sem];replace h:sat (nM F J L) _:=h;unfold nM at h;refine aG h fun g0 h=>aG h fun g1 h=>?_;exact zaB
theorem aK7:FOK Tryz.prog GL 157 wI:=fN (aXg none) (fun⟨f,u⟩ ⟨w0,g⟩ hp=>aUH f w0)
def aBZ:PlR:=⟨[(0,.A [0]),(1,.A [2])],[],[]⟩
@[go_sem]def wW:Ty:=.pair qk .unit
@[go_sem]def dT:aH:=⟨wW,.one qi,fun _=>True,fun x=>aF x.1⟩
def aHK(F:Md):aH:=mSpec wW (.one qi) (fun x=>kV F x.1)
abbrev aCr(F:Md):List (FuncId×aH):=[(157,wI)]
theorem aIQ(F:Md):bA Tryz.prog GL (aCr F):=.cons aK7 xAa (.nil)
attribute [go_sem] aBZ
theorem aHL(F:Md):FOK Tryz.prog GL 123 (aHK F):=by
 refine aX (aY (aIQ F)) mix Tryz.func123 rfl xAa xAb aBZ (fun w0 S x Θ g h hV=>?_);obtain⟨(f:Nat),u⟩:=x;simp only[bD,go_sem];replace h:sat (kV F f) _:=h;unfold kV at h;exact zab
theorem uW:FOK Tryz.prog GL 123 dT:=fN (aHL none) (fun⟨f,u⟩ ⟨w0,g⟩ hp=>aGK f w0)
def aBh:PlR:=⟨[(0,.A [0]),(1,.A [0,4]),(2,.A [2]),(3,.A [2])],[],[]⟩
@[go_sem]def uX:Ty:=.pair qk .unit
@[go_sem]def nA:aH:=⟨uX,.one qi,fun _=>True,fun x=>gH x.1⟩
def aGN(F:Md):aH:=mSpec uX (.one qi) (fun x=>jF F x.1)
abbrev aHM(F:Md):List (FuncId×aH):=[]
theorem aHN(F:Md):bA Tryz.prog GL (aHM F):=.nil
attribute [go_sem] aBh
theorem aGO(F:Md):FOK Tryz.prog GL 180 (aGN F):=by
 refine aX (aY (aHN F)) mix Tryz.func180 rfl xAa xAb aBh (fun w0 S x Θ g h hV=>?_);obtain⟨(f:Nat),u⟩:=x;simp only[bD,go_sem];replace h:sat (jF F f) _:=h;unfold jF at h;refine bS h (fun hc h=>?_) fun hc h=>?_
 ·exact aE hV [.tmp 2] rfl rfl rfl (aA h) xAf
 ·refine aB h fun g0 h=>?_;repeat (refine⟨zAH,?_⟩)
  exact aE hV [.tmp 2] rfl rfl rfl (aA h) (by (simp only[aQ,go_sem,aR F,aS F,aT F])<;>first|rfl|(simp; done))
theorem aGP:FOK Tryz.prog GL 180 nA:=fN (aGO none) (fun⟨f,u⟩ ⟨w0,g⟩ hp=>aGe f w0)
def aK8:PlR:=⟨[(0,.A [0,1]),(1,.A [0,1,6]),(2,.A [0,1,6,7]),(3,.A [0,1,6,7,8]),(4,.A [0,1,6,7,8,9]),(5,.A [0,1,6,7,8,9,10]),(6,.A [0,1,6,7,9,11]),(7,.A [0,1,6,7,9,11,12]),(8,.A [0,1,6,7,9,12,13]),(9,.A [0,1,7,9,12,13]),(10,.A [0,1,4]),(11,.A [4,5])],[],[]⟩
@[go_sem]def aHO:Ty:=.pair qk (.pair qk .unit)
@[go_sem]def wJ:aH:=⟨aHO,.tup wd,fun _=>True,fun x=>cY x.1 x.2.1⟩
def aXh(F:Md):aH:=mSpec aHO (.tup wd) (fun x=>aBV F x.1 x.2.1)
abbrev aZR(F:Md):List (FuncId×aH):=[]
theorem aZS(F:Md):bA Tryz.prog GL (aZR F):=.nil
attribute [go_sem] aK8
theorem aXi(F:Md):FOK Tryz.prog GL 129 (aXh F):=by
 refine aX (aY (aZS F)) mix Tryz.func129 rfl xAa xAb aK8 (fun w0 S x Θ q h hV=>?_);obtain⟨(f:Nat),(g:Nat),u⟩:=x;simp only[bD,go_sem];replace h:sat (aBV F f g) _:=h;unfold aBV at h;exact aE hV [.tmp 4,.tmp 5] rfl rfl rfl (aA h) xAf
theorem aK9:FOK Tryz.prog GL 129 wJ:=fN (aXi none) (fun⟨g,x1,u⟩ ⟨w0,f,q⟩ hp=>aUI g w0 x1 f)
def aQ6:PlR:=⟨[(0,.A [0]),(1,.A [0,14]),(2,.A [0]),(3,.A [2])],[],[]⟩
@[go_sem]def aMk:Ty:=.pair qu .unit
@[go_sem]def eU:aH:=⟨aMk,.one qu,fun _=>True,fun x=>dK x.1⟩
def bCu(F:Md):aH:=mSpec aMk (.one qu) (fun x=>aFh F x.1)
abbrev bEq(F:Md):List (FuncId×aH):=[]
theorem bEr(F:Md):bA Tryz.prog GL (bEq F):=.nil
attribute [go_sem] aQ6
theorem bCv(F:Md):FOK Tryz.prog GL 127 (bCu F):=by
 refine aX (aY (bEr F)) mix Tryz.func127 rfl xAa xAb aQ6 (fun w0 S x Θ J h hV=>?_);obtain⟨(g:qd),u⟩:=x;simp only[bD,go_sem];replace h:sat (aFh F g) _:=h;unfold aFh at h;refine aU hV (D:=qd) [] (fun d=>[(0,.val qu d)]) (fun d=>[]) h rfl xAc ?_;rintro z I L q f h;simp only[go_sem];replace h:sat (aC0 F z) _:=h;unfold aC0 at h;refine aG h fun g0 h=>aG h fun g1 h=>?_;refine⟨fun hc=>?_,fun hc=>?_⟩
 ·replace h:=cW hc h;refine aG h fun g0 h=>aG h fun g1 h=>?_;replace h:=q _ (aA h);exact zaF
 ·replace h:=cX hc h;replace h:=yaH (f _ (aA h));exact zaB
theorem yE:FOK Tryz.prog GL 127 eU:=fN (bCv none) (fun⟨f,u⟩ ⟨w0,g⟩ hp=>aZG f w0)
def aUP:PlR:=⟨[(0,.A [0]),(1,.A [2])],[],[]⟩
@[go_sem]def aPQ:Ty:=.pair qu .unit
@[go_sem]def aHP:aH:=⟨aPQ,.one .bool,fun _=>True,fun x=>aGM x.1⟩
def bEs(F:Md):aH:=mSpec aPQ (.one .bool) (fun x=>aGL F x.1)
abbrev bHA(F:Md):List (FuncId×aH):=[]
theorem bHB(F:Md):bA Tryz.prog GL (bHA F):=.nil
attribute [go_sem] aUP
theorem bEt(F:Md):FOK Tryz.prog GL 136 (bEs F):=by
 refine aX (aY (bHB F)) mix Tryz.func136 rfl xAa xAb aUP (fun w0 S x Θ g h hV=>?_);obtain⟨(f:qd),u⟩:=x;simp only[bD,go_sem];replace h:sat (aGL F f) _:=h;unfold aGL at h;exact zaO
theorem bEu:FOK Tryz.prog GL 136 aHP:=fN (bEt none) (fun⟨f,u⟩ ⟨w0,g⟩ hp=>bCn f w0)
def aQ7:PlR:=⟨[(0,.A [0]),(1,.A [3]),(2,.A [2]),(3,.A [2])],[],[]⟩
@[go_sem]def aMl:Ty:=.pair .bool .unit
@[go_sem]def aFO:aH:=⟨aMl,.one qi,fun _=>True,fun x=>aA7 x.1⟩
def bCw(F:Md):aH:=mSpec aMl (.one qi) (fun x=>aFi F x.1)
abbrev bEv(F:Md):List (FuncId×aH):=[]
theorem bEw(F:Md):bA Tryz.prog GL (bEv F):=.nil
attribute [go_sem] aQ7
theorem bCx(F:Md):FOK Tryz.prog GL 142 (bCw F):=by
 refine aX (aY (bEw F)) mix Tryz.func142 rfl xAa xAb aQ7 (fun w0 S x Θ g h hV=>?_);obtain⟨(f:Bool),u⟩:=x;simp only[bD,go_sem];replace h:sat (aFi F f) _:=h;unfold aFi at h;exact zaT
theorem bCy:FOK Tryz.prog GL 142 aFO:=fN (bCx none) (fun⟨f,u⟩ ⟨w0,g⟩ hp=>aZH f w0)
def aNn:PlR:=⟨[(0,.A [0,1]),(1,.A [0,1,10]),(2,.A [4]),(3,.A [0,1,5]),(4,.A [0,1,5,21]),(5,.A [0,1,5]),(6,.A [0,1,5,32]),(7,.A [4]),(8,.A [4])],[],[]⟩
@[go_sem]def aJo:Ty:=.pair qu vj
@[go_sem]def rH:aH:=⟨aJo,.one qi,fun x=>bCm x.1 x.2.1,fun x=>gQ x.1 x.2.1⟩
def aZT(F:Md):aH:=mSpec aJo (.one qi) (fun x=>aDG F x.1 x.2.1)
abbrev aQ8(F:Md):List (FuncId×aH):=[(142,aFO)]
theorem bCz(F:Md):bA Tryz.prog GL (aQ8 F):=.cons bCy xAa (.nil)
attribute [go_sem] aNn
theorem aZU(F:Md):FOK Tryz.prog GL 93 (aZT F):=by
 refine aX (aY (bCz F)) mix Tryz.func93 rfl xAa xAb aNn (fun w0 S x Θ I h hV=>?_);obtain⟨(g:qd),(q:qd),u⟩:=x;simp only[bD,go_sem];replace h:sat (aDG F g q) _:=h;unfold aDG at h;refine bS h (fun hc h=>?_) fun hc h=>?_
 ·exact aE hV [.tmp 4] rfl rfl rfl (aA h) xAd
 ·refine aG h fun g0 h=>?_;refine aU hV (D:=Int) [0,1] (fun d=>[(5,.val qi d)]) (fun d=>[]) h rfl xAc ?_;rintro z J T4 hA4 f h;simp only[go_sem];replace h:sat (xY F g q z) _:=h;unfold xY at h;refine aGc h (fun hc h=>?_) fun hc h=>?_
  ·refine aG h fun g0 h=>aG h fun g1 h=>?_;refine bS h (fun hc h=>?_) fun hc h=>?_
   ·refine aG h fun g0 h=>aG h fun g1 h=>?_;replace h:=yaH (f _ (aA h));exact zaE
   ·refine aG h fun g0 h=>?_;replace h:=hA4 _ (aA h);exact zaF
  ·replace h:=yaH (f _ (aA h));exact zaE
theorem aHQ:FOK Tryz.prog GL 93 rH:=fN (aZU none) (fun⟨g,x1,u⟩ ⟨w0,f,q⟩ hp=>aW9 g w0 x1 f hp)
def aQ9:PlR:=⟨[(0,.A [0]),(1,.A [0,5]),(2,.A [2]),(3,.A [2])],[],[]⟩
@[go_sem]def aMm:Ty:=.pair qu .unit
@[go_sem]def aFP:aH:=⟨aMm,.one qi,fun x=>bGa x.1,fun x=>pO x.1⟩
def bCA(F:Md):aH:=mSpec aMm (.one qi) (fun x=>aFj F x.1)
abbrev aUQ(F:Md):List (FuncId×aH):=[(123,dT)]
theorem bEx(F:Md):bA Tryz.prog GL (aUQ F):=.cons uW xAa (.nil)
attribute [go_sem] aQ9
theorem bCB(F:Md):FOK Tryz.prog GL 137 (bCA F):=by
 refine aX (aY (bEx F)) mix Tryz.func137 rfl xAa xAb aQ9 (fun w0 S x Θ g h hV=>?_);obtain⟨(f:qd),u⟩:=x;simp only[bD,go_sem];replace h:sat (aFj F f) _:=h;unfold aFj at h;refine bS h (fun hc h=>?_) fun hc h=>?_
 ·exact aE hV [.tmp 2] rfl rfl rfl (aA h) xAd
 ·refine aG h fun g0 h=>aG h fun g1 h=>aG h fun q h=>aG h fun z h=>?_;exact zaB
theorem bCC:FOK Tryz.prog GL 137 aFP:=fN (bCB none) (fun⟨f,u⟩ ⟨w0,g⟩ hp=>aZI f w0 hp)
def aNo:PlR:=⟨[(0,.A [0]),(1,.A [5,6,7]),(2,.A [5,6,7,8]),(3,.A [3,4,5,6,7]),(4,.A [3,4,5,6,7,13]),(5,.A [2]),(6,.A [5,6,7]),(7,.A [2])],[],[]⟩
@[go_sem]def aJp:Ty:=.pair qu .unit
@[go_sem]def aEq:aH:=⟨aJp,.one qi,fun x=>pSz x.1,fun x=>gR x.1⟩
def aZV(F:Md):aH:=mSpec aJp (.one qi) (fun x=>aDI F x.1)
abbrev aRa(F:Md):List (FuncId×aH):=[(180,nA)]
theorem bCD(F:Md):bA Tryz.prog GL (aRa F):=.cons aGP xAa (.nil)
attribute [go_sem] aNo
theorem aZW(F:Md):FOK Tryz.prog GL 169 (aZV F):=by
 refine aX (aY (bCD F)) mix Tryz.func169 rfl xAa xAb aNo (fun w0 S x Θ q h hV=>?_);obtain⟨(g:qd),u⟩:=x;simp only[bD,go_sem];replace h:sat (aDI F g) _:=h;unfold aDI at h;refine aU hV (D:=Int) [5,6] (fun d=>[(7,.val qi d)]) (fun d=>[]) h rfl xAc ?_;rintro f z T2 hA2 hE2 h;simp only[go_sem];replace h:sat (xZ F g f) _:=h;unfold xZ at h;refine bP h (fun hc h=>?_) fun hc h=>?_
 ·refine aG h fun g0 h=>?_;refine bS h (fun hc h=>?_) fun hc h=>?_
  ·refine aG h fun g0 h=>aG h fun g1 h=>?_;replace h:=yaH (hE2 _ (aA h));exact zaB
  ·refine aG h fun g0 h=>?_;exact zar
 ·replace h:=yaH (hE2 _ (aA h));exact zaB
theorem aZX:FOK Tryz.prog GL 169 aEq:=fN (aZW none) (fun⟨f,u⟩ ⟨w0,g⟩ hp=>aXa f w0 hp)
def aRb:PlR:=⟨[(0,.A [0,1]),(1,.A [0,1,13]),(2,.A [0,1]),(3,.B [1,5]),(4,.A [1,5,6]),(5,.A [1,5,6,21,22]),(6,.A [1,5,6,21,22,23]),(7,.A [1,5,6,7,21,22]),(8,.A [1,5,6,7,8,21,22]),(9,.A [1,5,6,7,8,21,22,25]),(10,.A [1,5,6,7,8,21,22]),(11,.A [1,5,6,7,8,21,22,34]),(12,.B [1,5,6,21,22]),(13,.A [1,5,6,21,22]),(14,.B [4])],[(4,6),(12,15)],[]⟩
@[go_sem]def aMn:Ty:=.pair qu vj
@[go_sem]def aFQ:aH:=⟨aMn,.one qu,fun x=>aSg x.1 x.2.1,fun x=>aCL x.1 x.2.1⟩
def bCE(F:Md):aH:=mSpec aMn (.one qu) (fun x=>aFk F x.1 x.2.1)
abbrev aHR(F:Md):List (FuncId×aH):=[(121,cP),(127,eU),(130,oQ)]
theorem bEy(F:Md):bA Tryz.prog GL (aHR F):=.cons oB xAa (.cons yE xAa (.nat aGd (.nil)))
attribute [go_sem] aRb
theorem bCF(F:Md):FOK Tryz.prog GL 131 (bCE F):=by
 refine aX (aY (bEy F)) mix Tryz.func131 rfl xAa xAb aRb (fun w0 S x Θ W h hV=>?_);obtain⟨(q:qd),(I:qd),u⟩:=x;simp only[bD,go_sem];replace h:sat (aFk F q I) _:=h;unfold aFk at h;refine bH hV (D:=qd×qd) (fun d=>sat (sB F d.1 d.2) Θ) [] (fun d=>[(0,.val qu d.1),(1,.val qu d.2)]) (fun d=>[]) ?_ ?_
 ·simp only[go_sem];refine bP h (fun hc h=>?_) fun hc h=>?_
  ·exact aK (I,q) h rfl xAc
  ·exact aK (q,I) h rfl xAc
 ·rintro⟨N,z⟩ h;simp only[go_sem];replace h:sat (sB F N z) _:=h;unfold sB at h;refine aG h fun g0 h=>?_;refine aB h fun g0 h=>(yaB ?_);refine zB [1] rfl rfl (yaA ?_);refine aU hV (D:=Nat×Int×qd) [1,21] (fun d=>[(5,.own 0),(6,.val qk d.1),(22,.val qi d.2.1)]) (fun d=>[.inr (.row 119 qk d.2.2)]) h rfl xAc ?_;rintro⟨carry_12,g,f⟩ Y U O L h;simp only[go_sem];replace h:sat (sA F N z carry_12 g f) _:=h;unfold sA at h;refine bP h (fun hc h=>?_) fun hc h=>?_
  ·refine bH hV (D:=Nat) (fun d=>sat (rZ F g f carry_12 d) U) [1,6,7,21,22] (fun d=>[(5,.own 0),(8,.val qk d)]) (fun d=>[.inr (.row 119 qk f)]) ?_ ?_
   ·simp only[go_sem];refine bP h (fun hc h=>?_) fun hc h=>?_
    ·refine aB h fun g0 h=>(yaB ?_);exact aK (z.getD (g.toNat) (0:Nat)) h rfl xAc
    ·refine bS h (fun hc h=>?_) fun hc h=>?_
     ·replace h:=yaH (L _ (aA h));exact zaE
     ·exact aK (0:Nat) h rfl xAc
   ·rintro J h;simp only[go_sem];replace h:sat (rZ F g f carry_12 J) _:=h;unfold rZ at h;refine aB h fun g0 h=>(yaB ?_);refine aB h fun g0 h=>(yaB ?_);refine aB h fun g0 h=>(yaB ?_);refine aG h fun g0 h=>?_;replace h:=O _ (aA h);exact zaF
  ·replace h:=yaH (L _ (aA h));exact zaE
theorem bCG:FOK Tryz.prog GL 131 aFQ:=fN (bCF none) (fun⟨g,x1,u⟩ ⟨w0,f,q⟩ hp=>aZJ g w0 x1 f hp)
def aRc:PlR:=⟨[(0,.A [0]),(1,.B [2])],[],[]⟩
@[go_sem]def aMo:Ty:=.pair qu .unit
@[go_sem]def aBi:aH:=⟨aMo,.one qu,fun x=>pSz x.1,fun x=>sC x.1⟩
def bCH(F:Md):aH:=mSpec aMo (.one qu) (fun x=>aFl F x.1)
abbrev aMp(F:Md):List (FuncId×aH):=[(121,cP),(127,eU)]
theorem bEz(F:Md):bA Tryz.prog GL (aMp F):=.cons oB xAa (.cons yE xAa (.nil))
attribute [go_sem] aRc
theorem bCI(F:Md):FOK Tryz.prog GL 132 (bCH F):=by
 refine aX (aY (bEz F)) mix Tryz.func132 rfl xAa xAb aRc (fun w0 S x Θ g h hV=>?_);obtain⟨(f:qd),u⟩:=x;simp only[bD,go_sem];replace h:sat (aFl F f) _:=h;unfold aFl at h;exact zab
theorem aRd:FOK Tryz.prog GL 132 aBi:=fN (bCI none) (fun⟨f,u⟩ ⟨w0,g⟩ hp=>aZK f w0 hp)
def aNp:PlR:=⟨[(0,.A [0,1]),(1,.B [0,1,5]),(2,.A [1,5,20,21,22]),(3,.A [1,5,20,21,22,23]),(4,.A [1,5,6,7,20,21,22]),(5,.A [1,5,6,7,8,20,21,22]),(6,.A [1,5,6,7,8,20,21,22,27,28,29]),(7,.A [1,5,6,7,8,20,21,22,27,28,29,30]),(8,.A [1,5,6,7,8,9,10,20,21,22,27,28,29]),(9,.A [1,5,6,7,8,9,11,12,20,21,22,27,28,29]),(10,.A [1,5,6,7,8,9,11,12,20,21,22,27,28,29]),(11,.A [1,5,6,7,9,11,12,13,20,21,22,27,28,29]),(12,.A [1,5,6,7,9,11,12,20,21,22,27,28,29]),(13,.B [1,5,6,7,11,13,20,21,22,27,28,29]),(14,.A [1,5,6,7,8,20,21,22,27,28,29]),(15,.A [1,5,6,7,8,20,21,22,27,28,29]),(16,.B [1,5,20,21,22]),(17,.A [1,5,20,21,22]),(18,.B [4])],[(9,19)],[]⟩
@[go_sem]def aJq:Ty:=.pair qu vj
@[go_sem]def fD:aH:=⟨aJq,.one qu,fun x=>aSg x.1 x.2.1,fun x=>bY x.1 x.2.1⟩
def aZY(F:Md):aH:=mSpec aJq (.one qu) (fun x=>aDJ F x.1 x.2.1)
abbrev aFR(F:Md):List (FuncId×aH):=[(127,eU),(129,wJ),(130,oQ)]
theorem bCJ(F:Md):bA Tryz.prog GL (aFR F):=.cons yE xAa (.cons aK9 xAa (.nat aGd (.nil)))
attribute [go_sem] aNp
theorem aZZ(F:Md):FOK Tryz.prog GL 83 (aZY F):=by
 refine aX (aY (bCJ F)) mix Tryz.func83 rfl xAa xAb aNp (fun w0 S x Θ W h hV=>?_);obtain⟨(L:qd),(q:qd),u⟩:=x;simp only[bD,go_sem];replace h:sat (aDJ F L q) _:=h;unfold aDJ at h;refine aB h fun g0 h=>(yaB ?_);refine aB h fun g0 h=>?_;refine aB h fun g1 h=>(yaB ?_);refine aU hV (D:=Int×qd) [1,20,21] (fun d=>[(5,.own 0),(22,.val qi d.1)]) (fun d=>[.inr (.row 119 qk d.2)]) h rfl xAc ?_;rintro⟨f,I⟩ A3 T3 hA3 U h;simp only[go_sem];replace h:sat (pQ F L q f I) _:=h;unfold pQ at h;refine bP h (fun hc h=>?_) fun hc h=>?_
 ·refine aB h fun g0 h=>(yaB ?_);refine bH hV (D:=Nat×qd) (fun d=>sat (yA F f q d.1 d.2) T3) [1,6,20,21,22] (fun d=>[(5,.own 0),(8,.val qk d.1)]) (fun d=>[.inr (.row 119 qk d.2)]) ?_ ?_
  ·simp only[go_sem];refine aU hV (D:=Nat×Int×qd) [1,6,7,20,21,22,27,28] (fun d=>[(5,.own 0),(8,.val qk d.1),(29,.val qi d.2.1)]) (fun d=>[.inr (.row 119 qk d.2.2)]) h rfl xAc ?_;rintro⟨carry_64,J,g⟩ Z Y N O h;simp only[go_sem];replace h:sat (pP F q L f carry_64 J g) _:=h;unfold pP at h;refine bP h (fun hc h=>?_) fun hc h=>?_
   ·refine aB h fun g0 h=>(yaB ?_);refine aB h fun g0 h=>(yaB ?_);refine aB h fun g0 h=>(yaB ?_);refine aB h fun g0 h=>(yaB ?_);refine aB h fun g0 h=>(yaB ?_);refine aB h fun g0 h=>(yaB ?_);refine aB h fun g0 h=>(yaB ?_);refine aB h fun g0 h=>(yaB ?_);replace h:=N _ (aA h);exact zaF
   ·replace h:=yaH (O _ (aA h));exact aK (carry_64,g) h rfl xAc
  ·rintro⟨carry_62,z⟩ h;simp only[go_sem];replace h:sat (yA F f q carry_62 z) _:=h;unfold yA at h;refine aB h fun g0 h=>(yaB ?_);refine aB h fun g0 h=>(yaB ?_);refine aB h fun g0 h=>?_;(try simp only[I64,I32] at g0);(repeat (refine⟨zAB,?_⟩));exact zas
 ·replace h:=yaH (U _ (aA h));exact zaE
theorem zF:FOK Tryz.prog GL 83 fD:=fN (aZZ none) (fun⟨g,x1,u⟩ ⟨w0,f,q⟩ hp=>aXb g w0 x1 f hp)
def aRe:PlR:=⟨[(0,.A [0,1]),(1,.A [0,1,10]),(2,.A [4]),(3,.B [0,1,5]),(4,.A [1,5,18,19,20]),(5,.A [1,5,18,19,20,21]),(6,.A [1,5,6,7,18,19,20]),(7,.B [1,5,6,7,18,19,20]),(8,.B [1,5,18,19,20]),(9,.A [1,5,18,19,20]),(10,.B [4])],[],[]⟩
@[go_sem]def aMq:Ty:=.pair qu qo
@[go_sem]def aBj:aH:=⟨aMq,.one qu,fun x=>aYH x.1 x.2.1,fun x=>fR x.1 x.2.1⟩
def bCK(F:Md):aH:=mSpec aMq (.one qu) (fun x=>aFm F x.1 x.2.1)
abbrev aUX(F:Md):List (FuncId×aH):=[(127,eU)]
theorem bEA(F:Md):bA Tryz.prog GL (aUX F):=.cons yE xAa (.nil)
attribute [go_sem] aRe
theorem bCL(F:Md):FOK Tryz.prog GL 125 (bCK F):=by
 refine aX (aY (bEA F)) mix Tryz.func125 rfl xAa xAb aRe (fun w0 S x Θ J h hV=>?_);obtain⟨(q:qd),(z:Int),u⟩:=x;simp only[bD,go_sem];replace h:sat (aFm F q z) _:=h;unfold aFm at h;refine bS h (fun hc h=>?_) fun hc h=>?_
 ·exact aE hV [.tmp 4] rfl rfl rfl (aA h) xAd
 ·refine aB h fun g0 h=>?_;try simp only[I64,I32] at g0
  repeat (refine⟨zAA,?_⟩)
  refine aB h fun g0 h=>?_;try simp only[I64,I32] at g0
  repeat (refine⟨zAA,?_⟩)
  refine aB h fun g0 h=>?_;try simp only[I64,I32] at g0
  repeat (refine⟨zAA,?_⟩)
  refine aB h fun g0 h=>?_;refine aB h fun g1 h=>?_;repeat (refine⟨zAA,?_⟩)
  refine aU hV (D:=Int×qd) [1,18,19] (fun d=>[(5,.own 0),(20,.val qi d.1)]) (fun d=>[.inr (.row 119 qk d.2)]) h rfl xAc ?_;rintro⟨g,f⟩ L T5 hA5 I h;simp only[go_sem];replace h:sat (sD F q z g f) _:=h;unfold sD at h;refine bP h (fun hc h=>?_) fun hc h=>?_
  ·refine aB h fun g0 h=>?_;(repeat (refine⟨zAA,?_⟩));refine aB h fun g0 h=>?_;(try simp only[I64,I32] at g0);(repeat (refine⟨zAA,?_⟩));refine aB h fun g0 h=>?_;(try simp only[I64,I32] at g0);(repeat (refine⟨zAA,?_⟩));refine aB h fun g0 h=>?_;(repeat (refine⟨zAA,?_⟩));refine aB h fun g0 h=>?_;(repeat (refine⟨zAA,?_⟩));refine aB h fun g0 h=>?_;(try simp only[I64,I32] at g0);(repeat (refine⟨zAA,?_⟩));refine aB h fun g0 h=>?_;(try simp only[I64,I32] at g0);(repeat (refine⟨zAA,?_⟩));refine aB h fun g0 h=>?_;(try simp only[I64,I32] at g0);(repeat (refine⟨zAA,?_⟩));refine aB h fun g0 h=>?_;(repeat (refine⟨zAA,?_⟩));refine aB h fun g0 h=>?_;(try simp only[I64,I32] at g0);(repeat (refine⟨zAA,?_⟩));refine aB h fun g0 h=>?_;(repeat (refine⟨zAA,?_⟩));refine aB h fun g0 h=>?_;(try simp only[I64,I32] at g0);(repeat (refine⟨zAA,?_⟩));replace h:=hA5 _ (aA h);exact zao
  ·replace h:=yaH (I _ (aA h));exact zaE
theorem aRf:FOK Tryz.prog GL 125 aBj:=fN (bCL none) (fun⟨g,x1,u⟩ ⟨w0,f,q⟩ hp=>aZM g w0 x1 f hp)
def aNq:PlR:=⟨[(0,.A [0,1]),(1,.A [0,1,12]),(2,.A [4]),(3,.A [0,1]),(4,.B [0,1,5]),(5,.A [0,1,5,20,21,22]),(6,.A [0,1,5,20,21,22,23]),(7,.A [0,1,5,6,7,20,21,22]),(8,.B [0,1,5,6,20,21,22]),(9,.A [0,1,5,6,20,21,22,39]),(10,.C 17 [0,1,5,20,21,22]),(11,.A [0,1,5,20,21,22]),(12,.B [4])],[],[]⟩
@[go_sem]def aJr:Ty:=.pair qu qo
@[go_sem]def zG:aH:=⟨aJr,.one qu,fun x=>aZN x.1 x.2.1,fun x=>uJ x.1 x.2.1⟩
def aZ0(F:Md):aH:=mSpec aJr (.one qu) (fun x=>aDK F x.1 x.2.1)
abbrev aRg(F:Md):List (FuncId×aH):=[(127,eU)]
theorem bCM(F:Md):bA Tryz.prog GL (aRg F):=.cons yE xAa (.nil)
attribute [go_sem] aNq
theorem aZ1(F:Md):FOK Tryz.prog GL 128 (aZ0 F):=by
 refine aX (aY (bCM F)) mix Tryz.func128 rfl xAa xAb aNq (fun w0 S x Θ O h hV=>?_);obtain⟨(z:qd),(I:Int),u⟩:=x;simp only[bD,go_sem];replace h:sat (aDK F z I) _:=h;unfold aDK at h;refine aB h fun g0 h=>?_;try simp only[I64,I32] at g0
 repeat (refine⟨zAB,?_⟩)
 refine aGc h (fun hc h=>?_) fun hc h=>?_
 ·exact aE hV [.tmp 4] rfl rfl rfl (aA h) xAd
 ·refine aB h fun g0 h=>?_;refine aB h fun g1 h=>?_;try simp only[I64,I32] at g0
  repeat (refine⟨zAB,?_⟩)
  refine aB h fun g0 h=>?_;refine aB h fun g1 h=>(yaC ?_);refine aU hV (D:=Int×qd) [0,1,20,21] (fun d=>[(5,.own 0),(22,.val qi d.1)]) (fun d=>[.inr (.row 119 qk d.2)]) h rfl xAc ?_;rintro⟨f,g⟩ Y W q J h;simp only[go_sem];replace h:sat (pR F I z f g) _:=h;unfold pR at h;refine bP h (fun hc h=>?_) fun hc h=>?_
  ·refine aB h fun g0 h=>(yaC ?_);refine aB h fun g0 h=>(yaC ?_);refine aB h fun g0 h=>?_;(try simp only[I64,I32] at g0);(repeat (refine⟨zAB,?_⟩));refine⟨fun hc=>?_,fun hc=>?_⟩
   ·replace h:=cW hc h;refine⟨by kernel_rfl,?_⟩;refine aB h fun g0 h=>?_;refine aB h fun g1 h=>?_;refine aB h fun N h=>?_;refine aB h fun L h=>?_;refine aB h fun U h=>?_;(try simp only[I64,I32] at g1);(try simp only[I64,I32] at L);(repeat (refine⟨zAB,?_⟩));refine aB h fun g0 h=>?_;(try simp only[I64,I32] at g0);(repeat (refine⟨zAB,?_⟩));replace h:=q _ (aA h);exact zao
   ·replace h:=cX (by first|exact hc|omega) h;refine aB h fun g0 h=>?_;(try simp only[I64,I32] at g0);(repeat (refine⟨zAB,?_⟩));replace h:=q _ (aA h);exact zaF
  ·replace h:=yaH (J _ (aA h));exact zaE
theorem aNr:FOK Tryz.prog GL 128 zG:=fN (aZ1 none) (fun⟨g,x1,u⟩ ⟨w0,f,q⟩ hp=>aXc g w0 x1 f hp)
def aLa:PlR:=⟨[(0,.A [0,1,2]),(1,.A [0,1,2,20]),(2,.stop),(3,.A [0,1,2,24]),(4,.stop),(5,.A [0,1,2,27]),(6,.A [6,7]),(7,.A [0,1,2,8]),(8,.A [0,1,2,8]),(9,.A [0,1,2,8,9]),(10,.A [0,1,2,8,9,10]),(11,.A [1,2,8,9,10,11]),(12,.A [2,8,9,10,11,12]),(13,.A [2,8,9,10,11,12,13]),(14,.A [2,8,9,10,11,13,14]),(15,.A [2,8,9,10,11,13,14,15]),(16,.A [2,8,9,10,11,13,14,15,16]),(17,.A [2,8,9,10,11,13,14,15,16,78]),(18,.A [2,8,9,10,11,13,14,15,16]),(19,.A [2,8,9,10,11,13,14,15,16]),(20,.A [2,8,9,10,11,13,14,15,16,85]),(21,.A [2,8,9,10,14,15,17]),(22,.A [2,8,9,10,14,15,17,18]),(23,.A [2,8,9,10,14,15,16,17,18]),(24,.A [2,8,9,10,14,15,16,17,18,113]),(25,.A [2,8,9,10,14,15,16,17,18]),(26,.A [2,8,9,10,14,15,16,17,18]),(27,.A [2,8,9,10,14,15,16,17,18,120]),(28,.A [6,7])],[(20,24),(27,31)],[]⟩
@[go_sem]def aHS:Ty:=.pair qk wd
@[go_sem]def wK:aH:=⟨aHS,.tup wd,fun x=>aEo x.1 x.2.1 x.2.2.1,fun x=>oD x.1 x.2.1 x.2.2.1⟩
def aXj(F:Md):aH:=mSpec aHS (.tup wd) (fun x=>aBW F x.1 x.2.1 x.2.2.1)
abbrev aNs(F:Md):List (FuncId×aH):=[(123,dT)]
theorem aZ2(F:Md):bA Tryz.prog GL (aNs F):=.cons uW xAa (.nil)
attribute [go_sem] aLa
theorem aXk(F:Md):FOK Tryz.prog GL 166 (aXj F):=by
 refine aX (aY (aZ2 F)) mix Tryz.func166 rfl xAa xAb aLa (fun w0 S x Θ hw h hV=>?_);obtain⟨(z:Nat),(f:Nat),(J:Nat),u⟩:=x;simp only[bD,go_sem];replace h:sat (aBW F z f J) _:=h;unfold aBW at h;refine bS h (fun hc h=>?_) fun hc h=>?_
 ·exact aFc h
 ·refine bS h (fun hc h=>?_) fun hc h=>?_
  ·exact aFc h
  ·refine bS h (fun hc h=>?_) fun hc h=>?_
   ·refine aG h fun g0 h=>aG h fun g1 h=>?_;exact aE hV [.tmp 6,.tmp 7] rfl rfl rfl (aA h) xAf
   ·refine aG h fun g0 h=>?_;refine bH hV (D:=Nat) (fun d=>sat (vQ F J f z d) Θ) [2,8,9,10,11,13,14] (fun d=>[(15,.val qk d)]) (fun d=>[]) ?_ ?_
    ·simp only[go_sem,aR F,aS F,aT F];refine aU hV (D:=Nat×Nat) [2,8,9,10,11,13,14] (fun d=>[(15,.val qk d.1),(16,.val qk d.2)]) (fun d=>[]) h rfl xAe ?_;rintro⟨g,N⟩ A17 T17 Z U h;simp only[go_sem,aR F,aS F,aT F];replace h:sat (iJ F f J g N) _:=h;unfold iJ at h;refine⟨fun hc=>?_,fun hc=>?_⟩
     ·replace h:=cW hc h;refine bS h (fun hc h=>?_) fun hc h=>?_
      ·replace h:=yaH (U _ (aA h));exact aK (pN F .u64 g (1:Nat)) h rfl xAe
      ·replace h:=Z _ (aA h);exact zaK
     ·replace h:=cX hc h;replace h:=yaH (U _ (aA h));exact aK (g) h rfl xAe
    ·rintro I h;simp only[go_sem,aR F,aS F,aT F];replace h:sat (vQ F J f z I) _:=h;unfold vQ at h;refine aG h fun g0 h=>?_;refine bH hV (D:=Nat) (fun d=>sat (vP F I z J f d) Θ) [2,8,14,15,17] (fun d=>[(18,.val qk d)]) (fun d=>[]) ?_ ?_
     ·simp only[go_sem,aR F,aS F,aT F];refine aU hV (D:=Nat×Nat) [2,8,9,10,14,15,17] (fun d=>[(16,.val qk d.1),(18,.val qk d.2)]) (fun d=>[]) h rfl xAe ?_;rintro⟨L,q⟩ A24 T24 Y W h;simp only[go_sem,aR F,aS F,aT F];replace h:sat (iI F f J L q) _:=h;unfold iI at h;refine⟨fun hc=>?_,fun hc=>?_⟩
      ·replace h:=cW hc h;refine bS h (fun hc h=>?_) fun hc h=>?_
       ·replace h:=yaH (W _ (aA h));exact aK (pN F .u64 q (1:Nat)) h rfl xAe
       ·replace h:=Y _ (aA h);exact zaK
      ·replace h:=cX hc h;replace h:=yaH (W _ (aA h));exact aK (q) h rfl xAe
     ·rintro O h;simp only[go_sem,aR F,aS F,aT F];replace h:sat (vP F I z J f O) _:=h;unfold vP at h;exact aE hV [.tmp 6,.tmp 7] rfl rfl rfl (aA h) xAf
theorem aLb:FOK Tryz.prog GL 166 wK:=fN (aXk none) (fun⟨f,x1,q,u⟩ ⟨w0,z,g,I⟩ hp=>aUL f w0 x1 z q g hp)
def aNt:PlR:=⟨[(0,.stop),(1,.stop),(2,.stop),(3,.stop),(4,.stop),(5,.stop),(6,.stop),(7,.stop)],[(6,10)],[]⟩
@[go_sem]def aJs:Ty:=.pair qu (.pair qk .unit)
@[go_sem]def aEr:aH:=⟨aJs,.tup (.pair qu vj),fun x=>aJn x.1 x.2.1,fun x=>aBf x.1 x.2.1⟩
def aZ3(F:Md):aH:=mSpec aJs (.tup (.pair qu vj)) (fun x=>aDL F x.1 x.2.1)
abbrev aJt(F:Md):List (FuncId×aH):=[(127,eU),(166,wK)]
theorem bCN(F:Md):bA Tryz.prog GL (aJt F):=.cons yE xAa (.cons aLb xAa (.nil))
attribute [go_sem] aNt
theorem aZ4(F:Md):FOK Tryz.prog GL 122 (aZ3 F):=by
 refine aX (aY (bCN F)) mix Tryz.func122 rfl xAa xAb aNt (fun w0 S x Θ O h hV=>?_);obtain⟨(z:qd),(L:Nat),u⟩:=x;simp only[bD,go_sem];replace h:sat (aDL F z L) _:=h;unfold aDL at h;refine bZ hV [0,1] (yaA ?_);refine xX hV [0,1,6] (yaA ?_);refine aB h fun g0 h=>?_;refine aB h fun g1 h=>(yaB ?_);refine bZ hV [0,1,6,7] (yaA ?_);refine bH hV (D:=Nat×qd) (fun d=>sat (yB F d.1 d.2) Θ) [] (fun d=>[(6,.own 0),(7,.val qk d.1)]) (fun d=>[.inr (.row 119 qk d.2)]) ?_ ?_
 ·simp only[go_sem];refine bZ hV [0,1,6,7,8] (yaA ?_);refine aB h fun g0 h=>(yaB ?_);refine aU hV (D:=Nat×Int×qd) [0,1] (fun d=>[(6,.own 0),(7,.val qk d.1),(8,.val qi d.2.1)]) (fun d=>[.inr (.row 119 qk d.2.2)]) h rfl xAc ?_;rintro⟨f,J,q⟩ U T4 hA4 N h;simp only[go_sem];replace h:sat (pS F z L f J q) _:=h;unfold pS at h;refine bZ hV [0,1,6,7,8,16] (yaA ?_);refine aGc h (fun hc h=>?_) fun hc h=>?_
  ·refine xX hV [0,1,6,7,8] (yaA ?_);refine aB h fun g0 h=>(yaB ?_);refine aB h fun g0 h=>(yaB ?_);refine aB h fun g0 h=>(yaB ?_);refine bZ hV [0,1,6,7,8] (yaA ?_);refine aB h fun g0 h=>(yaB ?_);replace h:=hA4 _ (aA h);exact zaF
  ·replace h:=yaH (N _ (aA h));exact aK (f,q) h rfl xAc
 ·rintro⟨g,I⟩ h;simp only[go_sem];replace h:sat (yB F g I) _:=h;unfold yB at h;refine xX hV [4,5] (yaA ?_);exact zax
theorem aZ5:FOK Tryz.prog GL 122 aEr:=fN (aZ4 none) (fun⟨g,x1,u⟩ ⟨w0,f,q⟩ hp=>aXd g w0 x1 f hp)
end
end Nu
end Go.Proofs

