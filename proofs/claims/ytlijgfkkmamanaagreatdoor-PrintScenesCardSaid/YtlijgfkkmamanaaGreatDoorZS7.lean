import Derived.Test.YtlijgfkkmamanaaGreatDoorZS6
import Derived.Test.YtlijgfkkmamanaaGreatDoorZS4
import Derived.Test.YtlijgfkkmamanaaGreatDoorZS5
set_option linter.unusedVariables false
set_option linter.unusedSimpArgs false
namespace Go.Proofs
open Go.Vc
set_option maxRecDepth 20000
namespace Nu
def Ty.bys:(t:Ty)→t.den→Prop
 | .str,s=>∀c∈s,c<256
 | .sl t,f=>∀x∈f,Ty.bys t x
 | .pair a b,x=>Ty.bys a x.1∧Ty.bys b x.2
 | _,_=>True
theorem bFR(s:ByteArray):∀c∈aR s,c<256:=by
 intro c hc;unfold aR at hc;obtain⟨b,_,rfl⟩:=List.mem_map.1 hc;exact b.toNat_lt
theorem aQy{w:World}{S:Nat→Prop}:∀(t:Ty) (x:t.den) (cs:List Value),bB w S t x cs→Ty.bys t x
 | .str,_,_,⟨s,_,L,hs⟩=>by subst L; exact bFR s
 | .sl t,N,_,⟨a,len,I,_,g,q,U,J⟩=>by
  intro x z;rcases J with rfl|⟨b,off,_,_,f⟩
  ·cases z
  ·obtain⟨i,hi,rfl⟩:=List.mem_iff_getElem.1 z;obtain⟨ds,hd,_⟩:=f i hi;exact aQy t _ _ hd
 | .pair a b,_,_,⟨c1,O,_,g,q⟩=>⟨aQy a _ _ g,aQy b _ _ q⟩
 | .u k,_,_,_=>trivial
 | .i k,_,_,_=>trivial
 | .bool,_,_,_=>trivial
 | .unit,_,_,_=>trivial
 | .arr n t,_,_,_=>trivial
 | .expr,_,_,_=>trivial
 | .rp t,_,_,_=>trivial
 | .clo _ t,_,_,_=>trivial
 | .ifc _ t,_,_,_=>trivial
 | .nili,_,_,_=>trivial
 | .nilp,_,_,_=>trivial
 | .nilf,_,_,_=>trivial
theorem bCj{w:World}{S:Nat→Prop}:∀(t:Ty) (x:t.den) (vs:List Value),sD w S t x vs→Ty.bys t x
 | .pair a r,x,vs,⟨v,g,e,q,f⟩=>⟨aQy a _ _ q.cells,bCj r _ _ f⟩
 | .unit,_,_,_=>trivial
 | .bool,_,_,h=>h.elim
 | .str,_,_,h=>h.elim
 | .sl _,_,_,h=>h.elim
 | .u _,_,_,h=>h.elim
 | .i _,_,_,h=>h.elim
 | .arr _ _,_,_,h=>h.elim
 | .expr,_,_,h=>h.elim
 | .rp _,_,_,h=>h.elim
 | .clo _ _,_,_,h=>h.elim
 | .ifc _ _,_,_,h=>h.elim
 | .nili,_,_,h=>h.elim
 | .nilp,_,_,h=>h.elim
 | .nilf,_,_,h=>h.elim
theorem bKT{P:Program}{G:Nat→AV}{f:FuncId}{a:Ty}{r:RK}{m:a.den→Option r.ty.den}{pre:a.den→Prop}{fn:a.den→r.ty.den}(h:FOK P G f (mSpec a r m))(hc:∀x,a.wf x→Ty.bys a x→m x=some (fn x)):FOK P G f ⟨a,r,pre,fn⟩:=fun w S z x I q g hp=>by
 have hm:=hc x (aIY _ _ _ g) (bCj _ _ _ g);have:=h w S z x I q g (by show (m x).isSome=true; grind);simp_all[mSpec]
theorem aYu:∀(m k:Nat) (e:Ex) (a:Nat),m<k→a+m=41→ ∃v:Nat,rZ none k e (a:Int)=some (v:Int)∧1≤v∧v≤201∧(v≤200→fits m e∧nd m e=v)
 | m,0,e,a,q,z=>absurd q (by omega)
 | 0,k+1,e,a,q,z=>by
  refine⟨201,?_,by omega,by omega,fun h=>absurd h (by omega)⟩;show qB none (rZ none k) e (a:Int)=_;unfold qB;rw[if_pos (.inl (by omega))];rfl
 | m+1,k+1,e,a,q,z=>by
  show ∃v:Nat,qB none (rZ none k) e (a:Int)=_∧_;unfold qB;by_cases ht:e.text.length≤100
  ·obtain⟨r,hr,x,rfl,q1,q2,Y⟩:=mC (step:=fun d:Int×Int=>qR none (rZ none k) e (a:Int) d.1 d.2)
    (I:=fun d=>∃i x:Nat,d=((x:Int),(i:Int))∧i≤e.l.length∧i+1≤x∧x≤401∧(x≤200→(∀y∈e.l.take i,fits m y)∧x=1+aET (nd m) (e.l.take i)))
    (fun d=>((e.l.length:Int)-d.2).toNat)
    (fun r=>∃x:Nat,r=(x:Int)∧1≤x∧x≤401∧(x≤200→e.l.length≤200∧(∀y∈e.l,fits m y)∧x=1+aET (nd m) e.l))
    (by
     rintro d ⟨i,x,rfl,h1,h2,N,J⟩;show (∃d',qR none (rZ none k) e (a:Int) (x:Int) (i:Int)=_∧_)∨ ∃r,qR none (rZ none k) e (a:Int) (x:Int) (i:Int)=_∧_;unfold qR;by_cases hi:i<e.l.length∧x≤200
     ·left
      obtain⟨hi,hx⟩:=hi;obtain⟨v,L,p2,p3,O⟩:=aYu m k (e.l.getD i (Ex.mk 0 [] [])) (a+1) (by omega) (by omega);rw[show ((a+1:Nat):Int)=(a:Int)+1 from by omega] at L;rw[if_pos ⟨by omega,by omega⟩,Int.toNat_natCast,L];simp only[Option.isSome_some,Option.getD_some];refine⟨(((x+v:Nat):Int),((i+1:Nat):Int)),aE (by constructor<;>omega) (aE (by constructor<;>omega) (aE trivial (aE (by constructor<;>omega) (aE (by constructor<;>omega) rfl)))),⟨i+1,x+v,rfl,by omega,by omega,by omega,fun hv=>?_⟩,by simp only; omega⟩;obtain⟨f,g⟩:=J hx;obtain⟨U,Z⟩:=O (by omega);rw[aR1 (nd m) hi,Z];refine⟨fun y hy=>?_,by omega⟩;rw[aUe hi,List.mem_append] at hy;rcases hy with hy|hy
      ·exact f y hy
      ·rw[List.mem_singleton.1 hy]; exact U
     ·right
      refine⟨(x:Int),if_neg (fun h=>hi ⟨by omega,by omega⟩),x,rfl,by omega,N,fun hv=>?_⟩;obtain⟨f,g⟩:=J hv;rw[aYk (by omega)] at f g;exact⟨by omega,f,g⟩) ((1:Int),(0:Int)) ⟨0,1,rfl,by omega,by omega,by omega,fun _=>⟨by simp,by rw[bH3]⟩⟩
   refine⟨min x 201,?_,by omega,by omega,fun hv=>?_⟩
   ·rw[if_neg (by rintro (h|h)<;>omega)];refine bA hr ?_
    congr 1
    omega
   ·obtain⟨f,g,u3⟩:=Y (by omega);have hnd:nd (m+1) e=1+aET (nd m) e.l:=rfl;exact⟨⟨ht,by omega,g⟩,by omega⟩
  ·refine⟨201,?_,by omega,by omega,fun h=>absurd h (by omega)⟩;rw[if_pos (.inr (by omega))];rfl
theorem aYv(e:Ex):Tot (vR none e) (fun b=>b=true→OkE e):=by
 obtain⟨v,f,I,z,q⟩:=aYu 40 64 e 1 (by omega) rfl;unfold vR;refine(Tot.of f (P:=fun x=>x=(v:Int)) rfl).bind fun x J=>.ret fun hb=>?_;obtain⟨g,L⟩:=q (by grind);exact⟨40,by omega,g,by omega⟩
theorem bAh{α:Type}(z:α){l:List α}{j:Nat}(f:j<l.length):l.getD j z=l[j]:=by simp[f]
structure ScD(s:TSc):Prop where
 e:T8 s.2.2.2.2.1
 h0:T8 s.2.2.2.2.2.1
 hm:T8 s.2.2.2.2.2.2.1
 t:T8 s.2.2.2.2.2.2.2.1
 sb:∀a∈s.2.2.2.2.2.2.2.2.1,T8 a.1∧(∀x∈a.2.1,T8 x.1∧T8 x.2.1.1∧T8 x.2.1.2.1)∧(∀x∈a.2.2.1,T8 x.1∧T8 x.2.1.1∧T8 x.2.1.2.1)∧(∀x∈a.2.2.2.1,T8 x)∧ ∀x∈a.2.2.2.2.1,T8 x.1
theorem ScD.of{s:TSc}(N:aHn.wf (s,()))(hb:Ty.bys aHn (s,())):ScD s:=by
 obtain⟨⟨w1,w2,w3,w4,z,w6,w7,w8,I,w10⟩,_⟩:=N;obtain⟨⟨b1,b2,b3,b4,b5,b6,b7,J,b9,b10⟩,_⟩:=hb;refine⟨⟨z,b5⟩,⟨w6,b6⟩,⟨w7,b7⟩,⟨w8,J⟩,fun a g=>?_⟩;obtain⟨v1,Z,v3,L,U,_⟩:=I.2 a g;obtain⟨c1,Y,O,c4,c5,_⟩:=b9 a g;refine⟨⟨v1,c1⟩,fun x f=>?_,fun x f=>?_,fun x f=>⟨L.2 x f,c4 x f⟩,fun x f=>⟨(U.2 x f).1,(c5 x f).1⟩⟩
 ·have p:=Z.2 x f;have q:=Y x f;exact⟨⟨p.1,q.1⟩,⟨p.2.1.1,q.2.1.1⟩,⟨p.2.1.2.1,q.2.1.2.1⟩⟩
 ·have p:=v3.2 x f;have q:=O x f;exact⟨⟨p.1,q.1⟩,⟨p.2.1.1,q.2.1.1⟩,⟨p.2.1.2.1,q.2.1.2.1⟩⟩
theorem wrp{i:Nat}(h:i≤4000):IntKind.i64.wrap ((i:Int)+1)=(i:Int)+1:=aIN rfl (by constructor<;>simp[IntKind.min,IntKind.max,IntKind.signed,IntKind.bits]<;>omega)
theorem Tot.wrp{n:Nat}{step:Int→Option (Int⊕(Unit⊕Bool))}(Q:Nat→Prop)(h:∀i:Nat,i<n→Tot (step (i:Int)) (fun q=>match q with| .inl j=>j=(i:Int)+1∧Q i| .inr e=>e= .inr false))(J:step (n:Int)=some (.inr (.inl ()))):Tot (dE none step (0:Int)) (fun e=>match e with| .inl _=>∀i,i<n→Q i| .inr b=>b=false):=by
 refine Tot.loop (fun d=>∃i:Nat,d=(i:Int)∧i≤n∧ ∀j,j<i→Q j) (fun d=>((n:Int)-d).toNat) ?_ ⟨0,rfl,Nat.zero_le _,fun j I=>by omega⟩;rintro d ⟨i,rfl,hi,hq⟩;by_cases z:i<n
 ·refine(h i z).mono fun q f=>?_;cases q with
  | inl j =>
   obtain⟨rfl,g⟩:=f;refine⟨⟨i+1,by omega,by omega,fun j I=>?_⟩,by omega⟩;by_cases e:j=i
   ·exact e▸g
   ·exact hq j (by omega)
  | inr e =>
   have f:e= .inr false:=f;subst f;rfl
 ·obtain rfl:i=n:=by omega
  rw[J];exact .ret hq
theorem bM0(s:TSc)(i:Nat){a:rK}(q:s.2.2.2.2.2.2.2.2.1.getD i ([],[],[],[],[],())=a)(J:a.2.1.length≤10):Tot (dE none (fun d:Int=>oI none s i d) (0:Int)) (fun e=>match e with| .inl _=>∀x∈a.2.1,OkE x.2.2.1| .inr b=>b=false):=by
 refine(Tot.wrp (n:=a.2.1.length) (fun j=>OkE (a.2.1.getD j ([],([],[],()),(Ex.mk 0 [] []),())).2.2.1) (fun j g=>?_) ?_).mono fun e z=>?_
 ·show Tot (oI none s i j) _;unfold oI;simp only[Int.toNat_natCast,q];refine .ite (fun _=>.ck ⟨by omega,by omega⟩ ((aYv _).bind fun v hv=>.ck (fun _=>⟨by omega,by omega⟩) (.ck (fun _=>⟨by omega,by omega⟩) (.ite (fun _=>.ret rfl) fun I=>.ret ⟨Nu.wrp (by omega),hv ?_⟩)))) fun h=>absurd (by omega) h;exact Classical.not_not.1 fun h=>I (.inl h)
 ·show oI none s i _=_;unfold oI;simp only[Int.toNat_natCast,q];exact ifn (by omega) rfl
 ·cases e with
  | inl u =>
   intro x f;obtain⟨j,g,rfl⟩:=List.mem_iff_getElem.1 f;have:=z j g;rw[bAh _ g] at this;exact this
  | inr b=>exact z
theorem bM1(s:TSc)(i:Nat){a:rK}(q:s.2.2.2.2.2.2.2.2.1.getD i ([],[],[],[],[],())=a)(J:a.2.2.2.2.1.length≤10):Tot (dE none (fun d:Int=>oH none s i d) (0:Int)) (fun e=>match e with| .inl _=>∀x∈a.2.2.2.2.1,OkE x.2.1| .inr b=>b=false):=by
 refine(Tot.wrp (n:=a.2.2.2.2.1.length) (fun j=>OkE (a.2.2.2.2.1.getD j ([],(Ex.mk 0 [] []),())).2.1) (fun j g=>?_) ?_).mono fun e z=>?_
 ·show Tot (oH none s i j) _;unfold oH;simp only[Int.toNat_natCast,q];refine .ite (fun _=>.ck ⟨by omega,by omega⟩ ((aYv _).bind fun v hv=>.ite (fun _=>.ret rfl) fun I=>.ret ⟨Nu.wrp (by omega),hv (Classical.not_not.1 I)⟩)) fun h=>absurd (by omega) h
 ·show oH none s i _=_;unfold oH;simp only[Int.toNat_natCast,q];exact ifn (by omega) rfl
 ·cases e with
  | inl u =>
   intro x f;obtain⟨j,g,rfl⟩:=List.mem_iff_getElem.1 f;have:=z j g;rw[bAh _ g] at this;exact this
  | inr b=>exact z
theorem bFS(s:TSc)(h:ScD s):Tot (aCk none s) (fun b=>b=true→bDs s):=by
 unfold aCk;refine .ite (fun _=>.ret fun q=>by cases q) fun hc=>(Tot.wrp (n:=s.2.2.2.2.2.2.2.2.1.length) (fun j=>bCc (s.2.2.2.2.2.2.2.2.1.getD j ([],[],[],[],[],()))) (fun i hi=>?_) ?_).bind fun e g=>?_
 ·show Tot (tO none s i) _;unfold tO;have hm:=xU (([]:List Nat),([]:List wV),([]:List we),([]:List qd),([]:List q9),()) hi;generalize I:s.2.2.2.2.2.2.2.2.1.getD i ([],[],[],[],[],())=a at hm;obtain⟨Z,J,N,O,U⟩:=h.sb a hm;simp only[Int.toNat_natCast,I];refine .ite (fun _=>.ck ⟨by omega,by omega⟩ (.ite (fun _=>.ret rfl) fun hl=>(bM0 s i I (by omega)).bind fun e g=>?_)) fun hh=>absurd (by omega) hh;cases e with
  | inr b =>
   have g:b=false:=g;subst g;exact .ret rfl
  | inl u =>
   show Tot (wQ none s i) _;unfold wQ;refine(bM1 s i I (by omega)).bind fun Y f=>?_;cases Y with
   | inr b =>
    have f:b=false:=f;subst f;exact .ret rfl
   | inl u=>exact .ret ⟨Nu.wrp (by omega),Z,⟨by omega,fun x z=>⟨(J x z).1,(J x z).2.1,(J x z).2.2,g x z⟩⟩,⟨by omega,N⟩,⟨by omega,O⟩,⟨by omega,fun x z=>⟨U x z,f x z⟩⟩⟩
 ·show tO none s _=_;unfold tO;exact ifn (by omega) rfl
 ·cases e with
  | inr b =>
   have g:b=false:=g;subst g;exact .ret fun q=>by cases q
  | inl u =>
   refine .ret fun _=>⟨h.e,h.h0,h.hm,h.t,⟨by omega,fun a I=>?_⟩,by omega⟩;obtain⟨j,L,rfl⟩:=List.mem_iff_getElem.1 I;have:=g j L;rw[bAh _ L] at this;exact this
theorem aR8(s:TSc)(h:ScD s):rJ none s=some true:=by
 refine Tot.eq ?_;unfold rJ;refine(bFS s h).bind fun v hv=>?_;by_cases hF:v=true
 ·have ok:=hv hF;have M:=bEO s ok;refine .ck (fun _=>M.aIK) (.ite (fun _=>.ret rfl) fun z=>?_);have hm:iQ none s=some true:=by
   obtain⟨b,hb,_⟩:=M;rw[hb] at z ⊢;exact congrArg some (Classical.not_not.1 fun q=>z (.inr q))
  obtain⟨t,ht,I,hs⟩:=round ok hm;rw[ht,Option.bind_some];refine .ite (fun f=>absurd rfl f) fun _=>.ite (fun _=>.ret rfl) fun J=>?_;rw[show sM none (t,(0:Int),()).1=some (s,(0,0,()),0,()) from I (by have:=J; dsimp only at this; omega),Option.bind_some];have g:rY none (s,((0,0,()):Int×Int×Unit),(0:Int),()).1 s=some true:=hs;refine .ck (fun _=>by rw[g]; rfl) (.ite (fun f=>?_) fun _=>?_)
  ·rw[g] at f;exact f.elim (fun f=>f.elim (fun q=>absurd rfl q) fun q=>absurd rfl q) fun q=>absurd rfl q
  ·rw[show lT none (s,((0,0,()):Int×Int×Unit),(0:Int),()).1=some (t,0,()) from ht,Option.bind_some];refine .ret ?_;show (true&&decide ((0:Int)=0)&&decide (t=t))=true;simp
 ·exact .ck (fun f=>absurd hF f) (.ite (fun _=>.ret rfl) fun f=>absurd (.inl hF) f)
end Nu
end Go.Proofs

