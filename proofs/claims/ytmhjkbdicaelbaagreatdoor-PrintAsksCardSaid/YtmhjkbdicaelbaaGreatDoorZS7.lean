import Derived.Test.YtmhjkbdicaelbaaGreatDoorZS4
import Derived.Test.YtmhjkbdicaelbaaGreatDoorZS6
import Derived.Test.YtmhjkbdicaelbaaGreatDoorZS3
import Derived.Test.YtmhjkbdicaelbaaGreatDoorZS5
set_option linter.unusedVariables false
set_option linter.unusedSimpArgs false
namespace Go.Proofs
open Go.Vc
set_option maxRecDepth 20000
namespace Nu
def Ty.bys:(t:Ty)→t.den→Prop
 | .str,s=>∀c∈s,c<256
 | .sl t,f=>∀x∈f,Ty.bys t x
 | .pair a b,x=>Ty.bys a x.1∧Ty.bys b x.2
 | _,_=>True
theorem bHS(s:ByteArray):∀c∈aI s,c<256:=by
 intro c hc;unfold aI at hc;obtain⟨b,_,rfl⟩:=List.mem_map.1 hc;exact b.toNat_lt
theorem aPk{w:World}{S:Nat→Prop}:∀(t:Ty) (x:t.den) (cs:List Value),bC w S t x cs→Ty.bys t x
 | .str,_,_,⟨s,_,he,hs⟩=>by subst he; exact bHS s
 | .sl t,J,_,⟨a,len,I,_,g,q,h3,z⟩=>by
  intro x hx;rcases z with rfl|⟨b,off,_,_,f⟩
  ·cases hx
  ·obtain⟨i,hi,rfl⟩:=List.mem_iff_getElem.1 hx;obtain⟨ds,hd,_⟩:=f i hi;exact aPk t _ _ hd
 | .pair a b,_,_,⟨c1,L,_,g,q⟩=>⟨aPk a _ _ g,aPk b _ _ q⟩
 | .u k,_,_,_=>trivial
 | .i k,_,_,_=>trivial
 | .bool,_,_,_=>trivial
 | .unit,_,_,_=>trivial
 | .arr n t,_,_,_=>trivial
 | .expr,_,_,_=>trivial
 | .rp t,_,_,_=>trivial
 | .clo _ t,_,_,_=>trivial
 | .ifc _ t,_,_,_=>trivial
 | .nili,_,_,_=>trivial
 | .nilp,_,_,_=>trivial
 | .nilf,_,_,_=>trivial
theorem bDR{w:World}{S:Nat→Prop}:∀(t:Ty) (x:t.den) (vs:List Value),qV w S t x vs→Ty.bys t x
 | .pair a r,x,vs,⟨v,q,e,f,g⟩=>⟨aPk a _ _ f.cells,bDR r _ _ g⟩
 | .unit,_,_,_=>trivial
 | .bool,_,_,h=>h.elim
 | .str,_,_,h=>h.elim
 | .sl _,_,_,h=>h.elim
 | .u _,_,_,h=>h.elim
 | .i _,_,_,h=>h.elim
 | .arr _ _,_,_,h=>h.elim
 | .expr,_,_,h=>h.elim
 | .rp _,_,_,h=>h.elim
 | .clo _ _,_,_,h=>h.elim
 | .ifc _ _,_,_,h=>h.elim
 | .nili,_,_,h=>h.elim
 | .nilp,_,_,h=>h.elim
 | .nilf,_,_,h=>h.elim
theorem bMR{P:Program}{G:Nat→AV}{f:FuncId}{a:Ty}{r:RK}{m:a.den→Option r.ty.den}{pre:a.den→Prop}{fn:a.den→r.ty.den}(h:FOK P G f (mSpec a r m))(hc:∀x,a.wf x→Ty.bys a x→m x=some (fn x)):FOK P G f ⟨a,r,pre,fn⟩:=fun w S q x g z ha hp=>by
 have hm:=hc x (aHt _ _ _ ha) (bDR _ _ _ ha);have:=h w S q x g z ha (by show (m x).isSome=true; grind);simp_all[mSpec]
theorem aY3:∀(m k:Nat) (e:Ex) (a:Nat),m<k→a+m=41→ ∃v:Nat,oP none k e (a:Int)=some (v:Int)∧1≤v∧v≤201∧(v≤200→fits m e∧nd m e=v)
 | m,0,e,a,hk,ha=>absurd hk (by omega)
 | 0,k+1,e,a,hk,ha=>by
  refine⟨201,?_,by omega,by omega,fun h=>absurd h (by omega)⟩;show mV none (oP none k) e (a:Int)=_;unfold mV;rw[if_pos (.inl (by omega))];rfl
 | m+1,k+1,e,a,hk,ha=>by
  show ∃v:Nat,mV none (oP none k) e (a:Int)=_∧_;unfold mV;by_cases ht:e.text.length≤100
  ·obtain⟨r,N,x,rfl,q1,q2,J⟩:=cO (step:=fun d:Int×Int=>nK none (oP none k) e (a:Int) d.1 d.2)
    (I:=fun d=>∃i x:Nat,d=((x:Int),(i:Int))∧i≤e.l.length∧i+1≤x∧x≤401∧(x≤200→(∀y∈e.l.take i,fits m y)∧x=1+aAE (nd m) (e.l.take i)))
    (fun d=>((e.l.length:Int)-d.2).toNat)
    (fun r=>∃x:Nat,r=(x:Int)∧1≤x∧x≤401∧(x≤200→e.l.length≤200∧(∀y∈e.l,fits m y)∧x=1+aAE (nd m) e.l))
    (by
     rintro d ⟨i,x,rfl,h1,h2,h3,q⟩;show (∃d',nK none (oP none k) e (a:Int) (x:Int) (i:Int)=_∧_)∨ ∃r,nK none (oP none k) e (a:Int) (x:Int) (i:Int)=_∧_;unfold nK;by_cases hi:i<e.l.length∧x≤200
     ·left
      obtain⟨hi,hx⟩:=hi;obtain⟨v,z,Z,p3,O⟩:=aY3 m k (e.l.getD i (Ex.mk 0 [] [])) (a+1) (by omega) (by omega);rw[show ((a+1:Nat):Int)=(a:Int)+1 from by omega] at z;rw[if_pos ⟨by omega,by omega⟩,Int.toNat_natCast,z];simp only[Option.isSome_some,Option.getD_some];refine⟨(((x+v:Nat):Int),((i+1:Nat):Int)),aC (by constructor<;>omega) (aC (by constructor<;>omega) (aC trivial (aC (by constructor<;>omega) (aC (by constructor<;>omega) rfl)))),⟨i+1,x+v,rfl,by omega,by omega,by omega,fun hv=>?_⟩,by simp only; omega⟩;obtain⟨g,f⟩:=q hx;obtain⟨W,U⟩:=O (by omega);rw[aKH (nd m) hi,U];refine⟨fun y hy=>?_,by omega⟩;rw[aTK hi,List.mem_append] at hy;rcases hy with hy|hy
      ·exact g y hy
      ·rw[List.mem_singleton.1 hy]; exact W
     ·right
      refine⟨(x:Int),if_neg (fun h=>hi ⟨by omega,by omega⟩),x,rfl,by omega,h3,fun hv=>?_⟩;obtain⟨g,f⟩:=q hv;rw[aKI (by omega)] at g f;exact⟨by omega,g,f⟩) ((1:Int),(0:Int)) ⟨0,1,rfl,by omega,by omega,by omega,fun _=>⟨by simp,by rw[bEQ]⟩⟩
   refine⟨min x 201,?_,by omega,by omega,fun hv=>?_⟩
   ·rw[if_neg (by rintro (h|h)<;>omega)];refine aJ N ?_
    congr 1
    omega
   ·obtain⟨g,f,Y⟩:=J (by omega);have L:nd (m+1) e=1+aAE (nd m) e.l:=rfl;exact⟨⟨ht,by omega,f⟩,by omega⟩
  ·refine⟨201,?_,by omega,by omega,fun h=>absurd h (by omega)⟩;rw[if_pos (.inr (by omega))];rfl
theorem aQM(e:Ex):Tot (oZ none e) (fun b=>b=true→OkE e):=by
 obtain⟨v,f,I,h3,g⟩:=aY3 40 64 e 1 (by omega) rfl;unfold oZ;refine(Tot.of f (P:=fun x=>x=(v:Int)) rfl).bind fun x hx=>.ret fun hb=>?_;obtain⟨q,z⟩:=g (by grind);exact⟨40,by omega,q,by omega⟩
theorem bBo{α:Type}(z:α){l:List α}{j:Nat}(f:j<l.length):l.getD j z=l[j]:=by simp[f]
structure ScD(s:TSc):Prop where
 e:T8 s.2.2.2.2.1
 h0:T8 s.2.2.2.2.2.1
 hm:T8 s.2.2.2.2.2.2.1
 t:T8 s.2.2.2.2.2.2.2.1
 sb:∀a∈s.2.2.2.2.2.2.2.2.1,T8 a.1∧(∀x∈a.2.1,T8 x.1∧T8 x.2.1.1∧T8 x.2.1.2.1)∧(∀x∈a.2.2.1,T8 x.1∧T8 x.2.1.1∧T8 x.2.1.2.1)∧(∀x∈a.2.2.2.1,T8 x)∧ ∀x∈a.2.2.2.2.1,T8 x.1
theorem ScD.of{s:TSc}(J:aF9.wf (s,()))(hb:Ty.bys aF9 (s,())):ScD s:=by
 obtain⟨⟨w1,w2,w3,w4,z,w6,L,g,w9,f⟩,_⟩:=J;obtain⟨⟨b1,b2,b3,b4,I,Y,b7,Z,b9,b10⟩,_⟩:=hb;refine⟨⟨z,I⟩,⟨w6,Y⟩,⟨L,b7⟩,⟨g,Z⟩,fun a ha=>?_⟩;obtain⟨v1,v2,O,N,v5,_⟩:=w9.2 a ha;obtain⟨c1,c2,U,c4,W,_⟩:=b9 a ha;refine⟨⟨v1,c1⟩,fun x hx=>?_,fun x hx=>?_,fun x hx=>⟨N.2 x hx,c4 x hx⟩,fun x hx=>⟨(v5.2 x hx).1,(W x hx).1⟩⟩
 ·have p:=v2.2 x hx;have q:=c2 x hx;exact⟨⟨p.1,q.1⟩,⟨p.2.1.1,q.2.1.1⟩,⟨p.2.1.2.1,q.2.1.2.1⟩⟩
 ·have p:=O.2 x hx;have q:=U x hx;exact⟨⟨p.1,q.1⟩,⟨p.2.1.1,q.2.1.1⟩,⟨p.2.1.2.1,q.2.1.2.1⟩⟩
theorem wrp{i:Nat}(h:i≤4000):IntKind.i64.wrap ((i:Int)+1)=(i:Int)+1:=aHi rfl (by constructor<;>simp[IntKind.min,IntKind.max,IntKind.signed,IntKind.bits]<;>omega)
theorem Tot.wrp{n:Nat}{step:Int→Option (Int⊕(Unit⊕Bool))}(Q:Nat→Prop)(h:∀i:Nat,i<n→Tot (step (i:Int)) (fun q=>match q with| .inl j=>j=(i:Int)+1∧Q i| .inr e=>e= .inr false))(he:step (n:Int)=some (.inr (.inl ()))):Tot (bO none step (0:Int)) (fun e=>match e with| .inl _=>∀i,i<n→Q i| .inr b=>b=false):=by
 refine Tot.loop (fun d=>∃i:Nat,d=(i:Int)∧i≤n∧ ∀j,j<i→Q j) (fun d=>((n:Int)-d).toNat) ?_ ⟨0,rfl,Nat.zero_le _,fun j z=>by omega⟩;rintro d ⟨i,rfl,hi,hq⟩;by_cases g:i<n
 ·refine(h i g).mono fun q f=>?_;cases q with
  | inl j =>
   obtain⟨rfl,I⟩:=f;refine⟨⟨i+1,by omega,by omega,fun j z=>?_⟩,by omega⟩;by_cases e:j=i
   ·exact e▸I
   ·exact hq j (by omega)
  | inr e =>
   have f:e= .inr false:=f;subst f;rfl
 ·obtain rfl:i=n:=by omega
  rw[he];exact .ret hq
theorem bOQ(s:TSc)(i:Nat){a:aDS}(ha:s.2.2.2.2.2.2.2.2.1.getD i ([],[],[],[],[],())=a)(hx:a.2.1.length≤10):Tot (bO none (fun d:Int=>kK none s i d) (0:Int)) (fun e=>match e with| .inl _=>∀x∈a.2.1,OkE x.2.2.1| .inr b=>b=false):=by
 refine(Tot.wrp (n:=a.2.1.length) (fun j=>OkE (a.2.1.getD j ([],([],[],()),(Ex.mk 0 [] []),())).2.2.1) (fun j g=>?_) ?_).mono fun e he=>?_
 ·show Tot (kK none s i j) _;unfold kK;simp only[Int.toNat_natCast,ha];refine .ite (fun _=>.ck ⟨by omega,by omega⟩ ((aQM _).bind fun v hv=>.ck (fun _=>⟨by omega,by omega⟩) (.ck (fun _=>⟨by omega,by omega⟩) (.ite (fun _=>.ret rfl) fun q=>.ret ⟨Nu.wrp (by omega),hv ?_⟩)))) fun h=>absurd (by omega) h;exact Classical.not_not.1 fun h=>q (.inl h)
 ·show kK none s i _=_;unfold kK;simp only[Int.toNat_natCast,ha];exact ifn (by omega) rfl
 ·cases e with
  | inl u =>
   intro x f;obtain⟨j,g,rfl⟩:=List.mem_iff_getElem.1 f;have:=he j g;rw[bBo _ g] at this;exact this
  | inr b=>exact he
theorem bOR(s:TSc)(i:Nat){a:aDS}(ha:s.2.2.2.2.2.2.2.2.1.getD i ([],[],[],[],[],())=a)(hx:a.2.2.2.2.1.length≤10):Tot (bO none (fun d:Int=>kJ none s i d) (0:Int)) (fun e=>match e with| .inl _=>∀x∈a.2.2.2.2.1,OkE x.2.1| .inr b=>b=false):=by
 refine(Tot.wrp (n:=a.2.2.2.2.1.length) (fun j=>OkE (a.2.2.2.2.1.getD j ([],(Ex.mk 0 [] []),())).2.1) (fun j g=>?_) ?_).mono fun e he=>?_
 ·show Tot (kJ none s i j) _;unfold kJ;simp only[Int.toNat_natCast,ha];refine .ite (fun _=>.ck ⟨by omega,by omega⟩ ((aQM _).bind fun v hv=>.ite (fun _=>.ret rfl) fun q=>.ret ⟨Nu.wrp (by omega),hv (Classical.not_not.1 q)⟩)) fun h=>absurd (by omega) h
 ·show kJ none s i _=_;unfold kJ;simp only[Int.toNat_natCast,ha];exact ifn (by omega) rfl
 ·cases e with
  | inl u =>
   intro x f;obtain⟨j,g,rfl⟩:=List.mem_iff_getElem.1 f;have:=he j g;rw[bBo _ g] at this;exact this
  | inr b=>exact he
theorem aY4(s:TSc)(h:ScD s):Tot (yX none s) (fun b=>b=true→bAH s):=by
 unfold yX;refine .ite (fun _=>.ret fun q=>by cases q) fun hc=>(Tot.wrp (n:=s.2.2.2.2.2.2.2.2.1.length) (fun j=>bDc (s.2.2.2.2.2.2.2.2.1.getD j ([],[],[],[],[],()))) (fun i hi=>?_) ?_).bind fun e he=>?_
 ·show Tot (qK none s i) _;unfold qK;have hm:=fK (([]:List Nat),([]:List qv),([]:List we),([]:List qd),([]:List qq),()) hi;generalize ha:s.2.2.2.2.2.2.2.2.1.getD i ([],[],[],[],[],())=a at hm;obtain⟨N,g,I,L,O⟩:=h.sb a hm;simp only[Int.toNat_natCast,ha];refine .ite (fun _=>.ck ⟨by omega,by omega⟩ (.ite (fun _=>.ret rfl) fun hl=>(bOQ s i ha (by omega)).bind fun e he=>?_)) fun hh=>absurd (by omega) hh;cases e with
  | inr b =>
   have he:b=false:=he;subst he;exact .ret rfl
  | inl u =>
   show Tot (uD none s i) _;unfold uD;refine(bOR s i ha (by omega)).bind fun J f=>?_;cases J with
   | inr b =>
    have f:b=false:=f;subst f;exact .ret rfl
   | inl u=>exact .ret ⟨Nu.wrp (by omega),N,⟨by omega,fun x hx=>⟨(g x hx).1,(g x hx).2.1,(g x hx).2.2,he x hx⟩⟩,⟨by omega,I⟩,⟨by omega,L⟩,⟨by omega,fun x hx=>⟨O x hx,f x hx⟩⟩⟩
 ·show qK none s _=_;unfold qK;exact ifn (by omega) rfl
 ·cases e with
  | inr b =>
   have he:b=false:=he;subst he;exact .ret fun q=>by cases q
  | inl u =>
   refine .ret fun _=>⟨h.e,h.h0,h.hm,h.t,⟨by omega,fun a ha=>?_⟩,by omega⟩;obtain⟨j,z,rfl⟩:=List.mem_iff_getElem.1 ha;have:=he j z;rw[bBo _ z] at this;exact this
noncomputable section
set_option maxHeartbeats 4000000
attribute [-go_sem] Ex.kind Ex.text Ex.l
def aDv(F:Md):Option qa :=
 some ((40:Int),(4:Int),(0:Int),(1:Int),(aI ⟨#[49]⟩),(aI ⟨#[48,46,53]⟩),(aI ⟨#[48,46,49,50,53]⟩),(aI ⟨#[49]⟩),([((aI ⟨#[97]⟩),([((aI ⟨#[120]⟩),((aI ⟨#[49]⟩),([]:List Nat),()),(Ex.mk (2:Int) (aI ⟨#[120]⟩) ([]:List Ex)),())]:List qv),([]:List we),([]:List qd),([((aI ⟨#[121]⟩),(Ex.mk (2:Int) (aI ⟨#[120]⟩) ([]:List Ex)),())]:List qq),())]:List qf),([]:List (qd×(qd×qm))),())
def aKl:PlR:=⟨[(0,.B [0]),(1,.B [0,1]),(2,.B [0])],[],[]⟩
def aLY:Ty:=.unit
def aCk(F:Md):aH:=mSpec aLY (.one qe) (fun x=>aDv F )
abbrev aYb(F:Md):List (FuncId×aH):=[]
theorem aYc(F:Md):bA Tryz.prog GL (aYb F):=.nil
attribute [go_sem] aLY aKl
theorem aWW(F:Md):FOK Tryz.prog GL 14 (aCk F):=by
 refine aX (aY (aYc F)) mix Tryz.func14 rfl xAa xAb aKl (fun w0 S x Θ f h hV=>?_);simp only[bD,go_sem];replace h:sat (aDv F) _:=h;unfold aDv at h;exact aE hV [.cell 0 28] rfl rfl rfl (aA h) xAd
attribute [go_sem] aCk
def aWX:ByteArray:=⟨⟨112::114::101::99::32::52::48::10::101::110::100::32::49::10::115::116::101::112::32::48::46::53::32::48::46::49::50::53::10::116::111::108::32::49::10::116::114::105::101::115::32::52::10::111::114::100::101::114::32::48::10::106::97::99::111::98::105::10::115::117::98::32::97::10::115::116::97::116::101::32::120::32::61::32::49::32::100::101::114::32::120::10::111::117::116::32::121::32::61::32::120::10:: []⟩⟩
@[go_sem]theorem aYd:(⟨⟨112::114::101::99::32::52::48::10::101::110::100::32::49::10::115::116::101::112::32::48::46::53::32::48::46::49::50::53::10::116::111::108::32::49::10::116::114::105::101::115::32::52::10::111::114::100::101::114::32::48::10::106::97::99::111::98::105::10::115::117::98::32::97::10::115::116::97::116::101::32::120::32::61::32::49::32::100::101::114::32::120::10::111::117::116::32::121::32::61::32::120::10:: []⟩⟩:ByteArray)=aWX:=rfl
def aEQ(F:Md):Option Bool :=
 (dF F 64 (Ex.mk (10:Int) ([]:List Nat) ([(Ex.mk (6:Int) ([]:List Nat) ([(Ex.mk (2:Int) (aI ⟨#[97]⟩) ([]:List Ex)),(Ex.mk (2:Int) (aI ⟨#[97]⟩) ([]:List Ex))]:List Ex))]:List Ex))).bind (fun v_5=>(aDv F).bind (fun g=>(jA F g).bind (fun f=>(jA F ((0:Int),(0:Int),(0:Int),(0:Int),([]:List Nat),([]:List Nat),([]:List Nat),([]:List Nat),([]:List qf),([]:List (qd×(qd×qm))),())).bind (fun q=>some ((((decide (v_5=(aI ⟨#[45,40,97,32,43,32,97,41]⟩)))&&(decide (f.2.1=(0:Int))))&&(decide (f.1=(aI aWX))))&&(decide (q.2.1=(1:Int))))))))
def aLZ:PlR:=⟨[(0,.A []),(1,.B [1]),(2,.A [2]),(3,.A [2,3,4]),(4,.A [2,3,4,6]),(5,.A [0])],[],[]⟩
def aIi:Ty:=.unit
def aL0(F:Md):aH:=mSpec aIi (.one .bool) (fun x=>aEQ F )
abbrev aER(F:Md):List (FuncId×aH):=[(10,(tW F)),(14,(aCk F)),(8,(oY F 64))]
theorem bBp(F:Md):bA Tryz.prog GL (aER F):=.cons (aKb F) xAa (.cons (aWW F) xAa (.cons (aDl F 64) xAa (.nil)))
attribute [go_sem] aIi aLZ
theorem aYe(F:Md):FOK Tryz.prog GL 6 (aL0 F):=by
 refine aX (aY (bBp F)) mix Tryz.func6 rfl xAa xAb aLZ (fun w0 S x Θ z h hV=>?_);simp only[bD,go_sem];replace h:sat (aEQ F) _:=h;unfold aEQ at h;refine aD h fun v_5 hv h=>?_;try simp only[hv,go_sem]
 refine aD h fun f hv h=>?_;try simp only[hv,go_sem]
 refine aD h fun q hv h=>?_;try simp only[hv,go_sem]
 refine aD h fun g hv h=>?_;try simp only[hv,go_sem]
 exact aE hV [.tmp 0] rfl rfl rfl (aA h) xAd
attribute [go_sem] aL0
theorem bN9:aEQ (some 1000)=some true:=by kernel_rfl
def aKm:Bool:=true
@[go_sem]def aDw:aH:=⟨aIi,.one .bool,fun _=>True,fun _=>aKm⟩
theorem aYf:FOK Tryz.prog GL 6 aDw:=fN (aYe (some 1000)) (fun _ _ _=>bN9)
def rX(F:Md)(q:Ex)(z:qa):Option Bool :=
 (oZ F q).bind (fun I=>ck (¬(¬(I=true))→((yX F z).isSome=true)) (if (¬(I=true))∨(¬(((yX F z).getD false)=true)) then some aKm else (iZ F 64 q (1:Int)).bind (fun f=>ck ((((f.2.2.1=true)∧(f.1≤(60:Int)))∧(f.2.1≤(30:Int)))→((dF F 64 q).isSome=true)) (ck ((((f.2.2.1=true)∧(f.1≤(60:Int)))∧(f.2.1≤(30:Int)))→((fZ F 64 q).isSome=true)) (if (((f.2.2.1=true)∧(f.1≤(60:Int)))∧(f.2.1≤(30:Int)))∧(¬(((dF F 64 q).getD ([]:List Nat))=((fZ F 64 q).getD ([]:List Nat)))) then some false else (jA F z).bind (fun g=>(aBG F z).bind (fun J=>if ¬(J=true) then some ((aKm&&(decide (g.2.1=(1:Int))))&&(decide (g.1=(aI ⟨#[]⟩)))) else ck (((aKm=true)∧(g.2.1=(0:Int)))→((vH F z).isSome=true)) (some ((aKm&&(decide (g.2.1=(0:Int))))&&(decide (g.1=((vH F z).getD ([]:List Nat)))))))))))))
def aFw:PlR:=⟨[(0,.B [2,3]),(1,.A [2,3,17]),(2,.A [4]),(3,.A [2,3,5,6,7]),(4,.A [3,40]),(5,.A [4]),(6,.A [3,8,9]),(7,.A [3,8,9,48]),(8,.A [4]),(9,.A [4])],[],[]⟩
def xO:Ty:=.pair .expr (.pair qe .unit)
def aFx(F:Md):aH:=mSpec xO (.one .bool) (fun x=>rX F x.1 x.2.1)
abbrev eL(F:Md):List (FuncId×aH):=[(10,(tW F)),(11,(aEO F)),(12,(aDj F)),(4,(uC F)),(5,(aEP F)),(6,aDw),(7,(tJ F 64)),(8,(oY F 64)),(9,(tT F 64))]
theorem aPl(F:Md):bA Tryz.prog GL (eL F):=.cons (aKb F) xAa (.cons (bBm F) xAa (.cons (aXU F) xAa (.cons (aKk F) xAa (.cons (bBn F) xAa (.cons aYf xAa (.cons (aFq F 64) xAa (.cons (aDl F 64) xAa (.cons (aFs F 64) xAa (.nil)))))))))
attribute [go_sem] xO aFw
theorem aMP(F:Md):FOK Tryz.prog GL 3 (aFx F):=by
 refine aX (aY (aPl F)) mix Tryz.func3 rfl xAa xAb aFw (fun w0 S x Θ L h hV=>?_);obtain⟨(f:Ex),(g:qa),u⟩:=x;simp only[bD,go_sem];replace h:sat (rX F f g) _:=h;unfold rX at h;refine aD h fun J hv h=>?_;try simp only[hv,go_sem]
 refine aB h fun g0 h=>(yaG ?_);refine⟨fun hc=>?_,fun hc=>?_⟩
 ·replace h:=cW zAD h;exact zaE
 ·replace h:=cX zAD h;refine aD h fun q hv h=>?_;try simp only[hv,go_sem]
  refine aB h fun g0 h=>?_;refine aB h fun g1 h=>(yaF ?_);refine⟨fun hc=>?_,fun hc=>?_⟩
  ·replace h:=cW hc h;exact zaE
  ·replace h:=cX hc h;refine aD h fun z hv h=>?_;(try simp only[hv,go_sem]);refine aD h fun I hv h=>?_;(try simp only[hv,go_sem]);refine aAn h (fun hc h=>?_) fun hc h=>?_
   ·exact aE hV [.tmp 4] rfl rfl rfl (aA h) xAd
   ·refine aB h fun g0 h=>(yaG ?_);exact zaE
attribute [go_sem] aFx
theorem aWZ(e:Ex)(s:TSc)(h:ScD s):rX none e s=some true:=by
 refine Tot.eq ?_;unfold rX;refine(aQM e).bind fun v hv=>.ck (fun _=>(aY4 s h).aOB) (.ite (fun _=>.ret rfl) fun hn=>?_);obtain⟨n,n1,O,n3⟩:=hv (Classical.not_not.1 fun q=>hn (.inl q));obtain⟨w,hw,W⟩:=aY4 s h;have ok:=W (Classical.not_not.1 fun q=>hn (.inr (by rw[hw]; exact q)));obtain⟨c,d,Y,p1,p2,p3,p4,p5,p6,p7⟩:=count_eq n 64 e 1 n1 O (by omega) (by omega);have Z:=bAF O;have g:(Y=true∧(c:Int)≤60)∧(d:Int)≤30→ ∃t,dF none 64 e=some t∧fZ none 64 e=some t:=fun q=>by
  by_cases hx:gk n e=true∧1+ht n e≤31
  ·have K:=bM3 (bKl n e O hx.1) (m:=30) (by omega);have f:=(bAI n 30 e O (by omega)).1;exact⟨tx 30 e,(aHg K xAb f).2 64 xAb,aQG K xAb f 64 xAb⟩
  ·rcases p7 hx with z|z
   ·rw[z] at q;cases q.1.1
   ·omega
 rw[show iZ none 64 e (1:Int)=_ from p1,Option.bind_some];refine .ck (fun q=>?_) (.ck (fun q=>?_) (.ite (fun q=>?_) fun _=>?_))
 ·obtain⟨t,a,b⟩:=g q;rw[a];rfl
 ·obtain⟨t,a,b⟩:=g q;rw[b];rfl
 ·obtain⟨t,a,b⟩:=g q.1;rw[a,b] at q;exact absurd rfl q.2
 ·obtain⟨b1,N,L⟩:=bMg s ok;obtain⟨b2,I,J⟩:=bKO s ok;by_cases hx:ScX s
  ·have e1:=L.2 hx;have U:=J.2 hx;subst e1;subst U;have hM:=ScM.of ok hx;rw[bKr s hM N,Option.bind_some,I,Option.bind_some];refine .ite (fun q=>absurd rfl q) fun _=>.ck (fun _=>by rw[bDA s hM]; rfl) (.ret ?_);rw[bDA s hM];show (true&&decide ((0:Int)=0)&&decide (jnP (scP s)=jnP (scP s)))=true;simp
  ·have e1:b1=false:=Bool.eq_false_iff.2 fun q=>hx (L.1 q);have U:b2=false:=Bool.eq_false_iff.2 fun q=>hx (J.1 q);subst e1;subst U;have hp:jA none s=some ([],1,()):=by
    unfold jA;rw[N,Option.bind_some];exact ify xAb rfl
   rw[hp,Option.bind_some,I,Option.bind_some];exact .ite (fun _=>.ret rfl) fun q=>absurd xAb q
end
end Nu
end Go.Proofs

