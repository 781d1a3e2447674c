import Derived.Test.YthkfoehkabnlpaaGreatDoorZL2
import Derived.Maps.AppendAt
import Derived.Lib.AppendStr
set_option linter.unusedVariables false
set_option linter.unusedSimpArgs false
namespace Go.Vc
open Go.RowKit
structure Ent where
 i:Nat
 d:Nat
 gp:List (Nat×Bool)
 av:AV
def nX:List Ent→Nat→Option Ent
 | [],_=>none
 | e::r,j=>if e.i=j then some e else nX r j
def uM:List Ent→Nat→Option Ent
 | [],_=>none
 | e::r,t=>if e.d=t then some e else uM r t
def aIb:AV→Bool
 | .val .bool b=>b
 | _=>false
def yL:AV→Bool
 | .val .bool _=>true
 | _=>false
def xB(acc:List Ent):Option (Nat×Bool)→List (Nat×Bool)
 | none=>[]
 | some (j,p)=>match nX acc j with
  | some e=>e.gp++ [(j,p)]
  | none=>[(j,p)]
def dP(acc:List Ent):List (Nat×Bool)→Prop
 | []=>True
 | (j,p)::r=>(match nX acc j with|some e=>aIb e.av=p|none=>False)∧dP acc r
def xH(acc:List Ent):Option (Nat×Bool)→Prop
 | none=>True
 | some (j,_)=>match nX acc j with
  | some e=>yL e.av=true
  | none=>False
def aGa:List (Nat×Bool)→List (Nat×Bool)→Bool
 | [],_=>true
 | _::_,[]=>false
 | (j,p)::r,(k,q)::s=>decide (j=k)&&(p == q)&&aGa r s
def aIc(G:Nat→AV)(acc:List Ent)(env:List (Nat×AV))(gp:List (Nat×Bool)):Operand→AV
 | .tmp t=>match uM acc t with
  | some e=>if aGa e.gp gp=true then e.av else .junk
  | none=>look env t
 | x=>evA G env x
def aUt(G:Nat→AV)(acc:List Ent)(env:List (Nat×AV))(gp:List (Nat×Bool))(c a b:Operand):Prop×AV :=
 match c with
 | .tmp t=>match uM acc t with
  | some e=>match (if aGa e.gp gp=true then e.av else .junk),aIc G acc env (gp++ [(e.i,true)]) a,aIc G acc env (gp++ [(e.i,false)]) b with
   | .val .bool q,.val .bool x,.val .bool y=>(True,.val .bool (bif q then x else y))
   | _,_,_=>(False,.junk)
  | none=>(False,.junk)
 | _=>(False,.junk)
noncomputable def opA(E:Env)(h:List Obj)(env:List (Nat×AV))(acc:List Ent)(o:Oper):Prop×AV :=
 match o.op with
 | .pick c a b=>aUt E.G acc env (xB acc o.guard) c a b
 | _=>pv E h (aIc E.G acc env (xB acc o.guard)) o
def vcA(E:Env)(h:List Obj)(env:List (Nat×AV)):List Oper→Nat→List Ent→(List Ent→Prop)→Prop
 | [],_,acc,K=>K acc
 | o::r,i,acc,K=>match o.dst,opA E h env acc o with
  | some d,(p,v)=>xH acc o.guard∧(dP acc (xB acc o.guard)→p)∧vcA E h env r (i+1) (⟨i,d,xB acc o.guard,v⟩::acc) K
  | none,_=>False
def fR:List Ent→List (Nat×AV)→List (Nat×AV)
 | [],env=>env
 | e::r,env=>(e.d,match e.gp with| []=>e.av|_::_=>.junk)::fR r env
structure nT(E:Env)(h:List Obj)(env:List (Nat×AV))(ops:List Oper)(F:Nat→List Ent):Prop where
 zero:F 0= []
 step:∀i o,ops[i]? = some o→ ∃d,o.dst=some d∧xH (F i) o.guard∧(dP (F i) (xB (F i) o.guard)→(opA E h env (F i) o).1)∧F (i+1)=⟨i,d,xB (F i) o.guard,(opA E h env (F i) o).2⟩::F i
theorem zY{E:Env}{h:List Obj}{env:List (Nat×AV)}:∀(l:List Oper) (i:Nat) (acc:List Ent) (K:List Ent→Prop),vcA E h env l i acc K →
  ∃F:Nat→List Ent,F i=acc∧(∀k o,l[k]? = some o→ ∃d,o.dst=some d∧xH (F (i+k)) o.guard∧(dP (F (i+k)) (xB (F (i+k)) o.guard)→(opA E h env (F (i+k)) o).1)∧F (i+k+1)=⟨i+k,d,xB (F (i+k)) o.guard,(opA E h env (F (i+k)) o).2⟩::F (i+k))∧K (F (i+l.length))
 | [],i,acc,K,hv=>⟨fun _=>acc,rfl,fun k o Y=>by grind,hv⟩
 | o::r,i,acc,K,hv=>by
  simp only[vcA] at hv;split at hv
  ·rename_i d p v hd J;obtain⟨h1,h2,N⟩:=hv;obtain⟨F,f1,U,f3⟩:=zY r (i+1) _ K N;refine⟨fun j=>if j≤i then acc else F j,by simp,fun k o' I=>?_,?_⟩
   all_goals grind
  simp_all
section
variable {E:Env} {h:List Obj} {env:List (Nat×AV)} {ops:List Oper} {F:Nat→List Ent}
theorem fV(hF:nT E h env ops F):∀(i:Nat),i≤ops.length→ ∀j,(j<i→ ∃o d,ops[j]? = some o∧o.dst=some d∧nX (F i) j=some ⟨j,d,xB (F j) o.guard,(opA E h env (F j) o).2⟩)∧(i≤j→nX (F i) j=none)
 | 0,_,j=>⟨fun h=>absurd h (Nat.not_lt_zero j),fun _=>by rw[hF.zero]; rfl⟩
 | i+1,hi,j=>by
  have N:ops[i]? = some ops[i]:=List.getElem?_eq_getElem (by omega);obtain⟨d,h1,h2,h3,h4⟩:=hF.step i _ N;obtain⟨q1,q2⟩:=fV hF i (by omega) j;rw[h4];refine⟨fun Y=>?_,fun Y=>?_⟩
  ·by_cases e:j=i
   ·grind[nX]
   ·obtain⟨o,d',I,J,U⟩:=q1 (by omega);exact⟨o,d',I,J,by rw[nX,if_neg (fun e'=>e e'.symm)]; exact U⟩
  ·rw[nX,if_neg (by grind)];grind
theorem zZ(hF:nT E h env ops F):∀(i:Nat),i≤ops.length→ ∀t e,uM (F i) t=some e→e.i<i∧e.d=t∧nX (F i) e.i=some e∧ ∃o,ops[e.i]? = some o∧o.dst=some t
 | 0,_,t,e,I=>by rw[hF.zero] at I; cases I
 | i+1,hi,t,e,I=>by
  have J:ops[i]? = some ops[i]:=List.getElem?_eq_getElem (by omega);obtain⟨d,h1,h2,h3,Y⟩:=hF.step i _ J;rw[Y] at I ⊢;simp only[uM] at I;split at I
  ·rename_i hd;cases I;subst hd;exact⟨Nat.lt_succ_self _,rfl,by simp[nX],_,J,h1⟩
  ·obtain⟨k1,N,U,k4⟩:=zZ hF i (by omega) t e I;exact⟨by omega,N,by rw[nX,if_neg (by grind)]; exact U,k4⟩
theorem aDb(hF:nT E h env ops F):∀(i:Nat),i≤ops.length→ ∀t,uM (F i) t=none→ ∀k o,k<i→ops[k]? = some o→o.dst≠some t
 | 0,_,t,_,k,o,N,_=>absurd N (Nat.not_lt_zero k)
 | i+1,hi,t,I,k,o,N,J=>by
  have U:ops[i]? = some ops[i]:=List.getElem?_eq_getElem (by omega);obtain⟨d,h1,h2,h3,Y⟩:=hF.step i _ U;rw[Y] at I;simp only[uM] at I;split at I
  ·cases I
  ·rename_i hd;by_cases e:k=i
   ·simp_all
   ·exact aDb hF i (by omega) t I k o (by omega) J
theorem tN(hF:nT E h env ops F){i j k:Nat}{e:Ent}(hi:i≤ops.length)(J:k≤ops.length)(hik:i≤k)(I:nX (F i) j=some e):nX (F k) j=some e:=by
 have U:j<i:=by
  rcases Nat.lt_or_ge j i with h|h
  ·exact h
  ·rw[(fV hF i hi j).2 h] at I; cases I
 obtain⟨o,d,h1,h2,h3⟩:=(fV hF i hi j).1 U;obtain⟨o',d',Y,N,h3'⟩:=(fV hF k J j).1 (by omega);simp_all
def aGQ(F:List Ent):List (Nat×Bool)→Prop
 | []=>True
 | (j,_)::r=>(∃e,nX F j=some e∧yL e.av=true)∧aGQ F r
theorem aAO(hF:nT E h env ops F){i k:Nat}(hi:i≤ops.length)(U:k≤ops.length)(J:i≤k):∀ {gp:List (Nat×Bool)},aGQ (F i) gp→dP (F k) gp→dP (F i) gp
 | [],_,_=>trivial
 | (j,p)::r,I,N=>by
  simp only[dP,aGQ] at N I ⊢;obtain⟨⟨e,Y,_⟩,I⟩:=I;refine⟨?_,aAO hF hi U J I N.2⟩;grind[tN]
theorem wF{F:List Ent}:∀ {g1 I:List (Nat×Bool)},dP F (g1++I)↔dP F g1∧dP F I
 | [],I=>by simp[dP]
 | (j,p)::r,I=>by simp only[List.cons_append,dP,wF (g1:=r),and_assoc]
theorem aGb{F:List Ent}:∀ {g1 I:List (Nat×Bool)},aGQ F (g1++I)↔aGQ F g1∧aGQ F I
 | [],I=>by simp[aGQ]
 | (j,p)::r,I=>by simp only[List.cons_append,aGQ,aGb (g1:=r),and_assoc]
theorem aId(hF:nT E h env ops F){i k:Nat}(hi:i≤ops.length)(J:k≤ops.length)(I:i≤k):∀ {gp:List (Nat×Bool)},aGQ (F i) gp→aGQ (F k) gp
 | [],_=>trivial
 | (j,p)::r,N=>by
  simp only[aGQ] at N ⊢;obtain⟨⟨e,U,hb⟩,Y⟩:=N;exact⟨⟨e,tN hF hi J I U,hb⟩,aId hF hi J I Y⟩
theorem aXm(hF:nT E h env ops F):∀(i:Nat) {o:Oper},ops[i]? = some o→aGQ (F i) (xB (F i) o.guard):=by
 intro i
 induction i using Nat.strongRecOn with
 | _ i ih =>
  intro o ho;have hi:i<ops.length:=by
   grind
  obtain⟨d,h1,N,h3,h4⟩:=hF.step i o ho;cases hg:o.guard with
  | none=>trivial
  | some jp =>
   obtain⟨j,p⟩:=jp;rw[hg] at N;simp only[xH] at N;simp only[xB];cases I:nX (F i) j with
   | none=>simp_all
   | some e =>
    rw[I] at N;have J:j<i:=by
     rcases Nat.lt_or_ge j i with h|h
     ·exact h
     ·rw[(fV hF i (by omega) j).2 h] at I; cases I
    obtain⟨o',d',Y,k2,U⟩:=(fV hF i (by omega) j).1 J;rw[U] at I;cases I;rw[aGb];exact⟨aId hF (by omega) (by omega) (by omega) (ih j J Y),⟨_,U,N⟩,trivial⟩
theorem aBt{F:List Ent}:∀ {g1 J:List (Nat×Bool)},aGa g1 J=true→dP F J→dP F g1
 | [],_,_,_=>trivial
 | (j,p)::r,[],hp,_=>by grind[aGa]
 | (j,p)::r,(k,q)::s,hp,I=>by
  simp only[aGa,Bool.and_eq_true,decide_eq_true_eq,beq_iff_eq] at hp;obtain⟨⟨rfl,rfl⟩,hp⟩:=hp;simp only[dP] at I ⊢;exact⟨I.1,aBt hp I.2⟩
end
end Go.Vc
namespace Go.Vc
open Go.RowKit
structure Sim(E:Env)(M:Perm)(w0:World)(nt:Nat)(ds:List Deferred)(c:Ctx)(env:List (Nat×AV))(h:List Obj)(a:Act)(w:World):Prop where
 good:Good M w0 c h w
 glob:jM E.G c.S w
 env:aA4 c w env a.tmps
 size:a.tmps.size=nt
 defers:a.defers=ds
def dL(nt:Nat)(o:Oper):Bool :=
 o.op.operands.all iL&&(match o.dst with|some d=>decide (d<nt)|none=>true)
section
variable {P:Program} {E:Env} {M:Perm} {w0:World} {nt:Nat} {ds:List Deferred} {h:List Obj} {env:List (Nat×AV)} {ops:List Oper} {F:Nat→List Ent} {Q:Exit→Act→World→Prop}
theorem Did.wp{c:Ctx}{o:Oper}{a:Act}{w:World}{av:AV}{next:Act→World→Prop}(hd:Did P M w0 h c o a w av)(N:∀v w' c',aBk P M w0 h c w av v w' c'→next (a.put o.dst v) w'):o.wp P a w next Q:=by
 rcases hd with⟨v,w',c',I,J⟩|⟨f,args,I,hc⟩
 ·unfold Oper.wp; rw[I]; exact N v w' c' J
 ·unfold Oper.wp;rw[I];refine Calls.mono hc ?_;grind
theorem Did.wp'{c:Ctx}{o:Oper}{a:Act}{w:World}{av:AV}{next:Act→World→Prop}(hd:Did P M w0 h c o a w av)(N:∀v w' c',aBk P M w0 h c w av v w' c'→((execOp a.eval o).run P w= .ok (.value v) w'∨ ∃f args,(execOp a.eval o).run P w= .ok (.enter f args) w)→next (a.put o.dst v) w'):o.wp P a w next Q:=by
 rcases hd with⟨v,w',c',I,J⟩|⟨f,args,I,hc⟩
 ·have:=N v w' c' J (.inl I);unfold Oper.wp; rw[I]; exact this
 ·have U:=fun v w' c' J=>N v w' c' J (.inr ⟨f,args,I⟩);unfold Oper.wp;rw[I];refine Calls.mono hc ?_;grind
structure aY6(T:Tab)(o:Oper)(a:Act)(c':Ctx)(w':World)(c'':Ctx)(a'':Act)(w'':World):Prop where
 keeps:bG nothing w' w''
 new:∀b,c''.S b→c'.S b∨w'.heap.size≤b
 put:∃v,a''=a.put o.dst v∧ ∀t,o.op= .alloc t→o.guard=none→ ∃ct,T t=some ct∧v= .pointer (some ⟨w'.heap.size,0,none⟩)∧w''=w'.alloc (.cells (fU ct).cells t (0,0))∧c''=c'
structure Mid(E:Env)(M:Perm)(w0:World)(nt:Nat)(ds:List Deferred)(h:List Obj)(env:List (Nat×AV))(ops:List Oper)(F:Nat→List Ent)(c:Ctx)(w:World)(listed:Nat→Prop)(c':Ctx)(a:Act)(w':World):Prop where
 later:bW c w c' w'
 n:c'.n=c.n∧c'.bl=c.bl
 good:Good M w0 c' h w'
 size:a.tmps.size=nt
 defers:a.defers=ds
 base:∀t,(∀k o,listed k→ops[k]? = some o→o.dst≠some t)→aG c' w' (look env t) (a.tmps.getD t Go.undef)
 ent:∀i e,listed i→nX (F ops.length) i=some e→(dP (F ops.length) e.gp→aG c' w' e.av (a.tmps.getD e.d Go.undef))∧(¬dP (F ops.length) e.gp→a.tmps.getD e.d Go.undef=Go.undef)
theorem aRs{a:Act}{d t:Nat}{v:Value}(hd:d<a.tmps.size):(a.put (some d) v).tmps.getD t Go.undef=if d=t then v else a.tmps.getD t Go.undef:=by
 simp only[Act.put];by_cases e:d=t
 all_goals simp_all
theorem aRt(hF:nT E h env ops F){c c' I:Ctx}{w w' J:World}{listed:Nat→Prop}{a:Act}(N:Mid E M w0 nt ds h env ops F c w listed c' a w'){i:Nat}{o:Oper}(ho:ops[i]? = some o){d:Nat}(hd:o.dst=some d)(hdn:d<nt)
  (huniq:∀k ok,ops[k]? = some ok→ok.dst=some d→k=i) (hni:¬listed i) (hl:bW c' w' I J) (hn:I.n=c'.n∧I.bl=c'.bl) (hg:Good M w0 I h J) {v:Value}
  (hv:∀e,nX (F ops.length) i=some e→(dP (F ops.length) e.gp→aG I J e.av v)∧(¬dP (F ops.length) e.gp→v=Go.undef)) :
  Mid E M w0 nt ds h env ops F c w (fun k=>listed k∨k=i) I (a.put o.dst v) J:=by
 have hds:d<a.tmps.size:=by rw[N.size]; exact hdn
 rw[hd];refine⟨N.later.trans hl,⟨hn.1.trans N.n.1,hn.2.trans N.n.2⟩,hg,by simp[Act.put,N.size],N.defers,fun t ht=>?_,fun k e hk he=>?_⟩
 ·rw[aRs hds];have U:d≠t:=fun e=>ht i o (.inr rfl) ho (by grind);rw[if_neg U];exact hl.val (N.base t fun k ok hk hko=>ht k ok (.inl hk) hko)
 ·have hkl:k<ops.length:=by
   rcases Nat.lt_or_ge k ops.length with h|h
   ·exact h
   ·rw[(fV hF ops.length (Nat.le_refl _) k).2 h] at he; cases he
  obtain⟨ok,dk,k1,k2,k3⟩:=(fV hF ops.length (Nat.le_refl _) k).1 hkl;have hed:e.d=dk:=by grind
  rw[aRs hds];by_cases hki:k=i
  ·grind
  ·have U:d≠e.d:=fun e'=>hki (huniq k ok k1 (by simp_all));rw[if_neg U];have hk':listed k:=by
    simp_all
   exact⟨fun Y=>hl.val ((N.ent k e hk' he).1 Y),fun Y=>(N.ent k e hk' he).2 Y⟩
theorem aXn{c:Ctx}{w:World}{v:AV}{x:Value}(hb:yL v=true)(hv:aG c w v x):x= .bool (aIb v):=by
 cases v with
 | val t y =>
  cases t<;>simp[yL] at hb
  exact yH hv
 | _=>grind[yL]
theorem aIe(hE:dB P E)(hF:nT E h env ops F)(hok:∀o∈ops,dL nt o=true){c c':Ctx}{w w':World}(hglob:jM E.G c.S w){listed:Nat→Prop}{a:Act}(U:Mid E M w0 nt ds h env ops F c w listed c' a w'){i:Nat}{o:Oper}(ho:ops[i]? = some o)
  (hni:¬listed i) (hop:∀t,Operand.tmp t∈o.op.operands→ ∀k ok,ops[k]? = some ok→ok.dst=some t→(k<i→listed k)∧(i<k→ ¬listed k)) (hgd:∀j p,o.guard=some (j,p)→listed j)
  (huniq:∀k ok,ops[k]? = some ok→ok.dst=o.dst→k=i) {K:Act→World→Prop} (hK:∀J a'' I,Mid E M w0 nt ds h env ops F c w (fun k=>listed k∨k=i) J a'' I→aY6 E.T o a c' w' J a'' I→K a'' I):wpOp P ops.toArray Q i K a w':=by
 have hil:i<ops.length:=by
  grind
 have hokO:=hok o (List.mem_of_getElem? ho);simp only[dL,Bool.and_eq_true] at hokO;obtain⟨d,s1,s2,s3,s4⟩:=hF.step i o ho;have hdn:d<nt:=by simp_all
 obtain⟨o',d',k1,k2,k3⟩:=(fV hF ops.length (Nat.le_refl _) i).1 hil;rw[ho] at k1; cases k1;rw[s1] at k2; cases k2;have hu:∀k ok,ops[k]? = some ok→ok.dst=some d→k=i:=fun k ok h1 h2=>huniq k ok h1 (by grind);have hglob':jM E.G c'.S w':=hglob.mono U.later.le.S U.later.same;have hin:=aXm hF i ho;have hwant:Region.wanted o (yielded ops.toArray a.tmps)=true↔dP (F ops.length) (xB (F i) o.guard):=by
  cases hgo:o.guard with
  | none=>simp[Region.wanted,hgo,xB,dP]
  | some jp =>
   obtain⟨j,p⟩:=jp;have hjl:=hgd j p hgo;rw[hgo] at s2 hin;simp only[xH] at s2;cases Y:nX (F i) j with
   | none=>grind
   | some e =>
    rw[Y] at s2;have heF:=tN hF (by omega) (Nat.le_refl _) (by omega) Y;have hji:j<i:=by
     grind[Nat.lt_or_ge,fV]
    obtain⟨oj,dj,j1,j2,j3⟩:=(fV hF i (by omega) j).1 hji;rw[j3] at Y;cases Y;have hokJ:=hok oj (List.mem_of_getElem? j1);simp only[dL,Bool.and_eq_true,j2,decide_eq_true_eq] at hokJ;have hdj:dj<a.tmps.size:=(by rw[U.size]; grind);have hy:∀v,a.tmps.getD dj Go.undef=v→yielded ops.toArray a.tmps j=(match v with| .bool b=>some b|_=>none):=by
     intro v hv;have h1:a.tmps[dj]? = some v:=by
      rw[Array.getElem?_eq_getElem hdj];have:a.tmps[dj]=v:=(by simpa [hdj] using hv);rw[this]
     simp only[yielded,List.getElem?_toArray,j1,Option.bind_some,j2,h1];cases v<;>rfl
    have hent:=U.ent j _ hjl heF;have hgpe:xB (F i) (some (j,p))=xB (F j) oj.guard++ [(j,p)]:=by
     show (match nX (F i) j with|some e=>e.gp++ [(j,p)]|none=>[(j,p)])=_;rw[j3]
    simp only[Region.wanted,hgo];rw[hgpe,wF];by_cases N:dP (F ops.length) (xB (F j) oj.guard)
    ·have hb:=aXn s2 (hent.1 N);rw[hy _ hb];have hone:dP (F ops.length) [(j,p)]↔aIb (opA E h env (F j) oj).2=p:=(by simp only[dP,heF,and_true]);grind
    grind[undef]
 unfold wpOp;simp only[List.getElem?_toArray,ho];by_cases hw:Region.wanted o (yielded ops.toArray a.tmps)=true
 ·rw[if_pos hw]
  left
  have N:=hwant.1 hw;have hgpi:=aAO hF (by omega) (Nat.le_refl _) (by omega) hin N;have hcond:=s3 hgpi;have hlook:∀gp,dP (F ops.length) gp→ ∀x,iL x=true→x∈o.op.operands→aG c' w' (aIc E.G (F i) env gp x) (a.eval x):=by
   intro gp N x hx hxo;cases x with
   | tmp t =>
    simp only[aIc];cases Y:uM (F i) t with
    | none =>
     refine U.base t fun k ok hk hko hdk=>?_;rcases Nat.lt_trichotomy k i with hlt|heq|hgt
     ·exact aDb hF i (by omega) t Y k ok hlt hko hdk
     all_goals grind
    | some e =>
     simp only;split
     ·rename_i hp;obtain⟨e1,e2,e3,oe,e4,e5⟩:=zZ hF i (by omega) t e Y;have hle:=(hop t hxo e.i oe e4 e5).1 e1;have:=(U.ent e.i e hle (tN hF (by omega) (Nat.le_refl _) (by omega) e3)).1 (aBt hp N);rw[e2] at this;exact this
     ·trivial
   | const v=>exact wE (env:=[]) (a:=a) (c:=c') (w:=w') (G:=E.G) (fun t=>trivial) hglob' hx
   | global g=>exact wE (env:=[]) (a:=a) (c:=c') (w:=w') (G:=E.G) (fun t=>trivial) hglob' hx
   | func f=>exact wE (env:=[]) (a:=a) (c:=c') (w:=w') (G:=E.G) (fun t=>trivial) hglob' hx
  have hall:∀x∈o.op.operands,iL x=true:=Array.all_eq_true_iff_forall_mem.1 hokO.1;have hdid:Did P M w0 h c' o a w' (opA E h env (F i) o).2:=by
   by_cases hpk:∃p q r,o.op= .pick p q r
   ·obtain⟨p,q,r,hpk⟩:=hpk;simp only[opA,hpk] at hcond ⊢;unfold aUt at hcond ⊢;cases p with
    | tmp t =>
     simp only at hcond ⊢;cases Y:uM (F i) t with
     | none=>grind
     | some e =>
      simp only[Y] at hcond ⊢;split at hcond
      ·rename_i qb xb yb h1 h2 h3;have hp:aGa e.gp (xB (F i) o.guard)=true:=by
        grind
       rw[if_pos hp] at h1;obtain⟨e1,e2,e3,oe,e4,e5⟩:=zZ hF i (by omega) t e Y;have e3F:=tN hF (by omega) (Nat.le_refl _) (by omega) e3;have hle:=(hop t (by grind[Op.operands]) e.i oe e4 e5).1 e1;have hc:=(U.ent e.i e hle e3F).1 (aBt hp N);rw[e2,h1] at hc;have hcv:=yH hc;simp only[h1,if_pos hp,h2,h3];have hcb:aIb e.av=qb:=(by rw[h1]; rfl);have hq:∀pol,qb=pol→dP (F ops.length) (xB (F i) o.guard++ [(e.i,pol)]):=fun pol hpol=>by
        rw[wF];refine⟨N,?_,trivial⟩;grind
       cases qb with
       | true =>
        have hx:=hlook _ (hq true rfl) q (hall q (by grind[Op.operands])) (by grind[Op.operands]);rw[h2] at hx;refine Did.of_value (v:=a.eval q) U.good ?_ hx;have:a.eval (.tmp t)= .bool true:=hcv;simp[execOp,hpk,this,asBool]
       | false =>
        have hx:=hlook _ (hq false rfl) r (hall r (by grind[Op.operands])) (by grind[Op.operands]);rw[h3] at hx;refine Did.of_value (v:=a.eval r) U.good ?_ hx;have:a.eval (.tmp t)= .bool false:=hcv;simp[execOp,hpk,this,asBool]
      grind
    | _=>grind
   ·have e:opA E h env (F i) o=pv E h (aIc E.G (F i) env (xB (F i) o.guard)) o:=by
     grind[opA,absurd]
    rw[e] at hcond ⊢;exact aY5 hE U.good hglob' (fun x hx=>hlook _ N x (hall x hx) hx) hcond
  have hput:∀v I J,aBk P M w0 h c' w' (opA E h env (F i) o).2 v I J→Mid E M w0 nt ds h env ops F c w (fun k=>listed k∨k=i) J (a.put o.dst v) I:=fun v I J ha=>by
   refine aRt hF U ho s1 hdn hu hni ha.later ha.n ha.good fun e Y=>?_;rw[k3] at Y;cases Y;exact⟨fun _=>ha.val,fun hn=>absurd N hn⟩
  by_cases hal:∃t,o.op= .alloc t
  ·obtain⟨t,ht⟩:=hal;simp only[opA,pv,ht] at hcond;split at hcond
   ·rename_i ct hT;have hrun:=aKW (w:=w') hE.T hT hcond (o:=o) (a:=a) ht;have hav:(opA E h env (F i) o).2= .junk:=(by grind[opA,pv]);have ha:aBk P M w0 h c' w' (opA E h env (F i) o).2 _ _ c':=hav▸aF9 (P:=P) (ob:=.cells (fU ct).cells t (0,0)) U.good;unfold Oper.wp;rw[hrun];refine hK c' _ _ (hput _ _ _ ha) ⟨ha.keeps,ha.new,_,rfl,fun t' ht' _=>?_⟩;grind
   grind
  ·exact Did.wp' hdid fun v I J ha _=>hK J _ I (hput v I J ha) ⟨ha.keeps,ha.new,v,rfl,fun t ht=>absurd ⟨t,ht⟩ hal⟩
 ·rw[if_neg hw];refine hK c' _ w' ?_ ⟨.refl _ _,fun b hb=>.inl hb,Go.undef,rfl,fun t ht hgn=>absurd (by simp[Region.wanted,hgn]) hw⟩;refine aRt hF U ho s1 hdn hu hni (.refl _ _) ⟨rfl,rfl⟩ U.good fun e Y=>?_;grind
end
end Go.Vc
namespace Go.Vc
open Go.RowKit
theorem aBu:∀(acc:List Ent) (env:List (Nat×AV)) (t:Nat),look (fR acc env) t=match uM acc t with|some e=>(match e.gp with| []=>e.av|_::_=>.junk)|none=>look env t
 | [],env,t=>rfl
 | e::r,env,t=>by
  simp only[fR,look,uM];split
  ·rfl
  ·exact aBu r env t
def aAP(ops:List Oper):Bool :=
 (List.range ops.length).all fun i=>(List.range ops.length).all fun k=>decide (i=k)||(match ops[i]?,ops[k]? with|some o,some ok=>decide (o.dst≠ok.dst)||o.dst.isNone|_,_=>true)
def aLL(ops:List Oper):Bool :=
 (List.range ops.length).all fun i=>match ops[i]? with
  | none=>true
  | some o =>
   (o.after.toList.all fun e=> !Region.binds .any e||decide (e.on<i)) &&
   (match o.guard with|none=>true|some (j,_)=>o.after.toList.any fun e=>Region.binds .any e&&decide (e.on=j)) &&
   (o.op.operands.toList.all fun x=>match x with
    | .tmp t=>(List.range ops.length).all fun k=>match ops[k]? with
     | none=>true
     | some ok=>decide (ok.dst≠some t)||decide (k=i)||(decide (k<i)&&o.after.toList.any fun e=>Region.binds .any e&&decide (e.on=k))||(decide (i<k)&&ok.after.toList.any fun e=>Region.binds .any e&&decide (e.on=i))
    | _=>true)
theorem aHD{ops:List Oper}(h:aAP ops=true){i k:Nat}{o ok:Oper}(U:ops[i]? = some o)(N:ops[k]? = some ok)(hd:ok.dst=o.dst)(J:o.dst≠none):k=i:=by
 simp only[aAP,List.all_eq_true,List.mem_range] at h;have hi:i<ops.length:=by
  grind
 have I:k<ops.length:=by
  grind
 have:=h i hi k I;simp_all
section
variable {P:Program} {E:Env} {M:Perm} {w0:World} {nt:Nat} {ds:List Deferred} {h:List Obj} {env:List (Nat×AV)} {ops:List Oper} {F:Nat→List Ent} {Q:Exit→Act→World→Prop}
theorem tO{c c':Ctx}{w w':World}{l1 l2:Nat→Prop}(he:∀k,k<ops.length→(l1 k↔l2 k))(hF:nT E h env ops F){a:Act}(I:Mid E M w0 nt ds h env ops F c w l1 c' a w'):Mid E M w0 nt ds h env ops F c w l2 c' a w':=by
 have N:∀k o,ops[k]? = some o→k<ops.length:=fun k o U=>by
  grind
 refine⟨I.later,I.n,I.good,I.size,I.defers,fun t ht=>I.base t fun k o hk U=>ht k o ((he k (N k o U)).1 hk) U,fun i e hi J=>?_⟩;have Y:i<ops.length:=by
  rcases Nat.lt_or_ge i ops.length with h|h
  ·exact h
  ·rw[(fV hF ops.length (Nat.le_refl _) i).2 h] at J; cases J
 exact I.ent i e ((he i Y).2 hi) J
theorem aE5{c:Ctx}{a:Act}{w:World}(I:Sim E M w0 nt ds c env h a w):Mid E M w0 nt ds h env ops F c w (fun _=>False) c a w :=
 ⟨.refl _ _,⟨rfl,rfl⟩,I.good,I.size,I.defers,fun t _=>I.env t,fun i e hi=>hi.elim⟩
theorem aLM(hF:nT E h env ops F){c c':Ctx}{a:Act}{w w':World}(hg:jM E.G c.S w)(I:Mid E M w0 nt ds h env ops F c w (fun k=>k<ops.length) c' a w'):Sim E M w0 nt ds c' (fR (F ops.length) env) h a w':=by
 refine⟨I.good,hg.mono I.later.le.S I.later.same,fun t=>?_,I.size,I.defers⟩;rw[aBu];cases N:uM (F ops.length) t with
 | none=>exact I.base t fun k o U Y=>aDb hF _ (Nat.le_refl _) t N k o U Y
 | some e =>
  obtain⟨e1,e2,e3,_⟩:=zZ hF _ (Nat.le_refl _) t e N;simp only;split
  ·rename_i J;have:=(I.ent e.i e e1 e3).1 (by rw[J]; trivial);simp_all
  ·trivial
theorem aDW(hE:dB P E)(hF:nT E h env ops F)(I:∀o∈ops,dL nt o=true)(hu:aAP ops=true){c:Ctx}{w:World}(hglob:jM E.G c.S w)
  (hQ:∀c' a' w',Mid E M w0 nt ds h env ops F c w (fun k=>k<ops.length) c' a' w'→Q .normal a' w'):∀(m i:Nat),i+m=ops.length→ ∀(c':Ctx) (a:Act) (w':World),Mid E M w0 nt ds h env ops F c w (fun k=>k<i) c' a w'→wpOps P ops.toArray Q (List.range' i m) a w'
 | 0,i,hi,c',a,w',hm=>by
  simp only[List.range'_zero,wpOps];have:i=ops.length:=by omega
  subst this;grind
 | m+1,i,hi,c',a,w',hm=>by
  rw[List.range'_succ,wpOps_cons];have U:ops[i]? = some ops[i]:=List.getElem?_eq_getElem (by omega);obtain⟨d,s1,s2,_,_⟩:=hF.step i _ U;refine aIe hE hF I hglob hm U (Nat.lt_irrefl i) (fun t _ k ok _ _=>⟨fun h=>h,fun h1 h2=>by omega⟩) (fun j p hg=>?_) (fun k ok hk hd=>aHD hu U hk hd (by simp_all)) fun J Y w'' N _=>?_
  ·rw[hg] at s2;simp only[xH] at s2;rcases Nat.lt_or_ge j i with h|h
   ·exact h
   ·rw[(fV hF i (by omega) j).2 h] at s2; simp_all
  ·exact aDW hE hF I hu hglob hQ m (i+1) (by omega) J Y w'' (tO (fun k _=>by omega) hF N)
theorem aNR(hE:dB P E)(J:∀o∈ops,dL nt o=true)(hu:aAP ops=true){c:Ctx}{a:Act}{w:World}(U:Sim E M w0 nt ds c env h a w){K:List Ent→Prop}(hv:vcA E h env ops 0 [] K){id:Nat}
  (hQ:∀acc c' I w',K acc→bW c w c' w'→c'.n=c.n→Sim E M w0 nt ds c' (fR acc env) h I w'→Q .normal I w'):(Code.region id ops.toArray false).wp P Q a w:=by
 obtain⟨F,f1,f2,Y⟩:=zY ops 0 [] K hv;have hF:nT E h env ops F:=⟨f1,fun i o ho=>by simp_all⟩;simp only[Nat.zero_add] at Y;refine wp_region ?_;have:=aDW (Q:=Q) hE hF J hu U.glob (fun c' I w' N=>hQ _ c' I w' Y N.later N.n.1 (aLM hF U.glob N)) ops.length 0 (by omega) c a w (tO (fun k _=>by simp) hF (aE5 U));grind[List.range_eq_range']
theorem aLN(hE:dB P E)(hF:nT E h env ops F)(hok:∀o∈ops,dL nt o=true)(hu:aAP ops=true)(U:aLL ops=true){c:Ctx}{w:World}(hglob:jM E.G c.S w)
  (hQ:∀c' a' w',Mid E M w0 nt ds h env ops F c w (fun k=>k<ops.length) c' a' w'→Q .normal a' w'):∀(I:Nat) (listed:Array Bool),listed.size=ops.length→((List.range ops.length).filter fun k=> !listed.getD k false).length=I →
   (∀k o,ops[k]? = some o→listed.getD k false=true→ ∀e∈o.after,Region.binds .any e=true→listed.getD e.on false=true) →
   ∀(c':Ctx) (a:Act) (w':World),Mid E M w0 nt ds h env ops F c w (fun k=>listed.getD k false=true) c' a w'→wpAny P .any ops.toArray Q I listed a w':=by
 have hanyI:∀i o,ops[i]? = some o→(∀e∈o.after,Region.binds .any e=true→e.on<i)∧(∀j p,o.guard=some (j,p)→ ∃e∈o.after,Region.binds .any e=true∧e.on=j) ∧
   (∀t,Operand.tmp t∈o.op.operands→ ∀k ok,ops[k]? = some ok→ok.dst=some t→k=i∨(k<i∧ ∃e∈o.after,Region.binds .any e=true∧e.on=k)∨(i<k∧ ∃e∈ok.after,Region.binds .any e=true∧e.on=i)):=by
  intro i o Y;have hi:i<ops.length:=by
   grind
  simp only[aLL,List.all_eq_true,List.mem_range] at U;have:=U i hi;rw[Y] at this;simp only[Bool.and_eq_true,List.all_eq_true,Array.mem_toList_iff] at this;obtain⟨⟨h1,h2⟩,h3⟩:=this;refine⟨fun e he hb=>?_,fun j p hg=>?_,fun t ht k ok J hd=>?_⟩
  ·grind
  ·grind
  ·have:=h3 _ ht;simp only[List.all_eq_true,List.mem_range] at this;have hkl:k<ops.length:=by
    grind
   have:=this k hkl;rw[J] at this;simp only[hd,ne_eq,not_true_eq_false,decide_false,Bool.false_or,Bool.or_eq_true,decide_eq_true_eq,Bool.and_eq_true,List.any_eq_true,Array.mem_toList_iff] at this;rcases this with (h|h)|h
   all_goals simp_all
 intro I
 induction I with
 | zero =>
  intro listed hsz hcnt hcl c' a w' hm;have N:∀k,k<ops.length→listed.getD k false=true:=fun k J=>by
   simp_all
  refine⟨?_,hQ c' a w' (tO (fun k J=>⟨fun _=>J,fun _=>N k J⟩) hF hm)⟩;rw[List.eq_nil_iff_forall_not_mem];grind[mem_ready,Nat.lt_or_ge,List.getElem?_eq_none]
 | succ I ih =>
  intro listed hsz hcnt hcl c' a w' hm;refine⟨fun hr=>?_,fun i hi=>?_⟩
  ·exfalso;have hex:∃k,k<ops.length∧listed.getD k false=false:=by
    have hne:((List.range ops.length).filter fun k=> !listed.getD k false)≠ []:=fun e=>(by grind);obtain⟨k,J⟩:=List.exists_mem_of_ne_nil _ hne;grind
   have hmin:∃k,(k<ops.length∧listed.getD k false=false)∧ ∀j,j<k→ ¬(j<ops.length∧listed.getD j false=false):=by
    obtain⟨k,J⟩:=hex
    induction k using Nat.strongRecOn with
    | _ k ihk =>
     grind
   obtain⟨k,⟨J,hun⟩,hlow⟩:=hmin;have hmem:k∈Region.ready .any ops.toArray listed:=by
    rw[mem_ready];have hlt:k<listed.size:=(by omega);refine⟨by grind,ops[k],by simp[J],fun e he hb=>?_⟩;grind
   grind
  ·obtain⟨h1,o,Y,N⟩:=mem_ready.1 hi;have Y:ops[i]? = some o:=(by grind);have hil:i<ops.length:=by
    grind
   have hlt:i<listed.size:=(by omega);have hni:¬listed.getD i false=true:=(by grind);obtain⟨a1,a2,a3⟩:=hanyI i o Y;obtain⟨d,s1,_,_,_⟩:=hF.step i _ Y;refine aIe hE hF hok hglob hm Y hni (fun t ht k ok J hd=>?_) (fun j p hg=>?_) (fun k ok J hd=>aHD hu Y J hd (by grind)) fun c'' a'' w'' hm' _=>?_
   ·rcases a3 t ht k ok J hd with h|⟨h,e,he,hb,hon⟩|⟨h,e,he,hb,hon⟩
    all_goals grind
   ·grind
   ·have hset:∀k,(listed.setIfInBounds i true).getD k false=true↔(listed.getD k false=true∨k=i):=fun k=>by
     by_cases e:i=k
     ·subst e; simp[hlt]
     ·rw[getD_set_ne false e];grind
    refine ih (listed.setIfInBounds i true) (by grind) ?_ (fun k o' J hkl e he hb=>?_) c'' a'' w'' (tO (fun k _=>(hset k).symm) hF hm')
    ·have hfil:((List.range ops.length).filter fun k=> !(listed.setIfInBounds i true).getD k false)=((List.range ops.length).filter fun k=> !listed.getD k false).filter (fun k=>decide (k≠i)):=by
      rw[List.filter_filter];grind
     rw[hfil];have hnd:((List.range ops.length).filter fun k=> !listed.getD k false).Nodup:=List.nodup_range.filter _;have hmem:i∈((List.range ops.length).filter fun k=> !listed.getD k false):=by
      grind
     have:=hnd.erase_eq_filter i;grind
    grind
theorem aDX(hE:dB P E)(U:P.follows .mixedOrders=true)(hok:∀o∈ops,dL nt o=true)(hu:aAP ops=true)(Y:aLL ops=true){c:Ctx}{a:Act}{w:World}(N:Sim E M w0 nt ds c env h a w){K:List Ent→Prop}(hv:vcA E h env ops 0 [] K){id:Nat}
  (hQ:∀acc c' a' w',K acc→bW c w c' w'→c'.n=c.n→Sim E M w0 nt ds c' (fR acc env) h a' w'→Q .normal a' w'):(Code.region id ops.toArray true).wp P Q a w:=by
 obtain⟨F,f1,f2,f3⟩:=zY ops 0 [] K hv;have hF:nT E h env ops F:=⟨f1,fun i o ho=>by simp_all⟩;simp only[Nat.zero_add] at f3;refine wp_region_any U ?_;have I:bW c w c { w with drawn:=w.drawn+1 }:=⟨.refl _,fun b hb=>rfl⟩;have J:Sim E M w0 nt ds c env h a { w with drawn:=w.drawn+1 } :=
  ⟨N.good.step I rfl rfl ⟨rfl,rfl,rfl,Nat.le_refl _,fun _ _ _=>rfl⟩ (fun _ _ _ _ _=>rfl) N.good.sfin (fun _ hb=>.inl hb),jM.mono (w:=w) (w':={ w with drawn:=w.drawn+1 }) (fun _ hb=>hb) I.same N.glob,N.env.keep I,N.size,N.defers⟩
 refine aLN (Q:=Q) hE hF hok hu Y J.glob (fun c' a' w' hm=>hQ _ c' a' w' f3 (I.trans hm.later) hm.n.1 (aLM hF J.glob hm)) _ _ (by simp) ?_ (fun k o ho hl=>?_) c a _ (tO (fun k hk=>?_) hF (aE5 J))
 ·rw[List.filter_eq_self.2 (fun k hk=>by simp_all)]; simp
 ·exfalso;by_cases hk:k<ops.length<;>simp[hk] at hl
 ·simp[hk]
end
end Go.Vc
namespace Go.Vc
open Go.RowKit
def Ctx.push(c:Ctx)(v:Value):Ctx:=⟨c.S,fun i=>if i=c.n then v else c.hd i,c.n+1,c.bl⟩
theorem Ctx.le_push(c:Ctx)(v:Value):c.le (c.push v):=⟨fun _ h=>h,Nat.le_succ _,fun i hi=>by grind[push,Nat.ne_of_lt]⟩
section
variable {P:Program} {T:Tab} {M:Perm} {w0:World} {c:Ctx} {h:List Obj} {w:World}
theorem Good.push(I:Good M w0 c h w){w':World}(hk:bG nothing w w'){o:Obj}{hv:Value}(hob:zL (c.push hv) w' c.n o)(hb:∀b,cM (c.push hv) c.n o b→w.heap.size≤b∧b<w'.heap.size) :
  Good M w0 (c.push hv) (h++ [o]) w'∧bW c w (c.push hv) w':=by
 have hl:bW c w (c.push hv) w':=⟨c.le_push hv,fun b hbS=>hk.block b (I.sfin b hbS) (fun f=>f)⟩;have hcase:∀i o',(h++ [o])[i]? = some o'→(h[i]? = some o'∧i<c.n)∨(i=c.n∧o'=o):=fun i o' U=>by
  rw[I.n];grind
 refine⟨⟨by simp[Ctx.push,I.n],I.keeps.trans hk.any,fun b hbS=>Nat.lt_of_lt_of_le (I.sfin b hbS) hk.size,I.src,fun i o' U=>?_,fun i o' b U J=>?_,fun i j oi oj b hi hj N Y=>?_,sN I.root hl.le⟩,hl⟩
 ·rcases hcase i o' U with⟨U,hi⟩|⟨rfl,rfl⟩
  ·exact(I.objs i o' U).keep hl hi rfl (fun b J=>hk.block b (I.own i o' b U J).2.1 (fun f=>f))
  omega
 ·rcases hcase i o' U with⟨U,hi⟩|⟨rfl,rfl⟩
  ·rw[cX hl.le rfl hi] at J;obtain⟨h1,h2,h3⟩:=I.own i o' b U J;exact⟨h1,Nat.lt_of_lt_of_le h2 hk.size,h3⟩
  ·obtain⟨h1,h2⟩:=hb b J;exact⟨.inl (Nat.le_trans I.keeps.size h1),h2,fun hS=>by have:=I.sfin b hS; omega⟩
 ·rcases hcase i oi hi with⟨hi',hin⟩|⟨ei,eo⟩<;>rcases hcase j oj hj with⟨hj',hjn⟩|⟨ej,eo'⟩
  ·rw[cX hl.le rfl hin] at N;rw[cX hl.le rfl hjn] at Y;exact I.sep i j oi oj b hi' hj' N Y
  ·subst ej; subst eo';rw[cX hl.le rfl hin] at N;have:=(I.own i oi b hi' N).2.1;grind
  ·subst ei; subst eo;rw[cX hl.le rfl hjn] at Y;have:=(I.own j oj b hj' Y).2.1;grind
  omega
theorem Good.modifyG(I:Good M w0 c h w){i:Nat}{o o':Obj}{b:Nat}(ho:h[i]? = some o)(hb:cM c i o b){w':World}(hos:w'.os=w.os)(htp:w'.tape=w.tape)(hout:w'.output=w.output)(hsz:w'.heap.size=w.heap.size)
  (hsame:∀k,k≠b→w'.heap[k]? = w.heap[k]?) (hob:zL c w' i o') (hb':∀b',cM c i o' b'→cM c i o b') :
  Good M w0 c (h.set i o') w'∧bW c w c w':=by
 obtain⟨hB,hblt,hnS⟩:=I.own i o b ho hb;have hl:bW c w c w':=⟨.refl _,fun k hk=>hsame k (fun e=>hnS (e▸hk))⟩;have hil:i<h.length:=qJ ho;have hcase:∀j J,(h.set i o')[j]? = some J→(j≠i∧h[j]? = some J)∨(j=i∧J=o'):=fun j J U=>by
  grind
 refine⟨⟨by simp[I.n],⟨hos.trans I.keeps.os,htp.trans I.keeps.tape,hout.trans I.keeps.output,by rw[hsz]; exact I.keeps.size,fun k hk hM=>?_⟩,fun k hk=>by rw[hsz]; exact I.sfin k hk,I.src,fun j J U=>?_,fun j J b' U N=>?_,fun j k J ok b' U hk N hbk=>?_,I.root⟩,hl⟩
 ·have Y:k≠b:=by
   grind
  rw[hsame k Y]; exact I.keeps.block k hk hM
 ·rcases hcase j J U with⟨Y,U⟩|⟨rfl,rfl⟩
  ·refine(I.objs j J U).keep hl (by rw[I.n]; grind) rfl (fun b' hb''=>hsame b' (fun e=>Y ?_));subst e;exact I.sep j i J o b' U ho hb'' hb
  omega
 ·rw[hsz];rcases hcase j J U with⟨Y,U⟩|⟨rfl,rfl⟩
  ·exact I.own j J b' U N
  ·exact I.own _ _ b' ho (hb' b' N)
 ·rcases hcase j J U with⟨hnj,hj'⟩|⟨ej,eo⟩<;>rcases hcase k ok hk with⟨hnk,hk'⟩|⟨ek,eo'⟩
  ·exact I.sep j k J ok b' hj' hk' N hbk
  ·subst ek; subst eo';exact absurd (I.sep j k J o b' hj' ho N (hb' b' hbk)) hnj
  ·subst ej; subst eo;exact absurd (I.sep k j ok o b' hk' ho hbk (hb' b' N)) hnk
  omega
theorem Good.modify(hg:Good M w0 c h w){i:Nat}{o o':Obj}{b:Nat}(ho:h[i]? = some o)(hb:cM c i o b){w':World}(J:w'.os=w.os)(U:w'.tape=w.tape)(I:w'.output=w.output)(Y:w'.heap.size=w.heap.size)
  (hsame:∀k,k≠b→w'.heap[k]? = w.heap[k]?) (N:zL c w' i o') (hb':∀b',cM c i o' b'→b'=b) :
  Good M w0 c (h.set i o') w'∧bW c w c w' :=
 hg.modifyG ho hb J U I Y hsame N fun b' h'=>by grind
def freeze(i:Nat)(h:List Obj):List Obj :=
 match h[i]? with
 | some (.row _ t I)=>h.set i (.frz t I)
 | some (.tre _ _ t I)=>h.set i (.frz t I)
 | _=>h
def Ctx.moreP(c:Ctx)(p:Nat→Prop):Ctx:=⟨fun b=>c.S b∨p b,c.hd,c.n,c.bl⟩
theorem Good.giveP(N:Good M w0 c h w){i:Nat}{o:Obj}(ho:h[i]? = some o){t:Ty}{xs:List t.den}(hob:aJ w (c.moreP (cM c i o)).S (.sl t) xs [c.hd i]):∃c',bW c w c' w∧c'.n=c.n∧Good M w0 c' (h.set i (.frz t xs)) w:=by
 have hle:c.le (c.moreP (cM c i o)):=⟨fun b hb=>.inl hb,Nat.le_refl _,fun _ _=>rfl⟩;have hl:bW c w (c.moreP (cM c i o)) w:=⟨hle,.refl _ _⟩;have hil:i<h.length:=qJ ho;have hcase:∀j I,(h.set i (.frz t xs))[j]? = some I→(j≠i∧h[j]? = some I)∨(j=i∧I= .frz t xs):=fun j I J=>by
  grind
 have how:∀j I,cM (c.moreP (cM c i o)) j I=cM c j I:=fun j I=>by rfl
 refine⟨_,hl,rfl,by simp[Ctx.moreP,N.n],N.keeps,fun b hb=>?_,fun b hb hlt=>?_,fun j I J=>?_,fun j I b J hb=>?_,fun j k I ok b J hk Y U=>?_,sN N.root hle⟩
 ·rcases hb with hb|hb
  ·exact N.sfin b hb
  ·exact(N.own i _ b ho hb).2.1
 ·rcases hb with hb|hb
  ·exact N.src b hb hlt
  ·rcases (N.own i _ b ho hb).1 with h1|h1
   all_goals grind
 ·rcases hcase j I J with⟨hne,J⟩|⟨rfl,rfl⟩
  ·exact(N.objs j I J).keep hl (by rw[N.n]; grind) rfl (fun _ _=>rfl)
  ·exact hob
 ·rcases hcase j I J with⟨hne,J⟩|⟨rfl,rfl⟩
  ·rw[how] at hb;obtain⟨h1,h2,h3⟩:=N.own j I b J hb;refine⟨h1,h2,fun hS=>?_⟩;rcases hS with hS|hS
   ·grind
   ·exact hne (N.sep j i I _ b J ho hb hS)
  ·cases hb
 ·rcases hcase j I J with⟨hnj,J⟩|⟨rfl,rfl⟩
  ·rcases hcase k ok hk with⟨hnk,hk⟩|⟨rfl,rfl⟩
   ·rw[how] at Y U;exact N.sep j k I ok b J hk Y U
   ·cases U
  ·cases Y
def Ctx.more(c:Ctx)(b? : Option Nat):Ctx:=⟨fun b=>c.S b∨b? = some b,c.hd,c.n,c.bl⟩
theorem Good.freeze(J:Good M w0 c h w)(i:Nat):∃c',bW c w c' w∧c'.n=c.n∧Good M w0 c' (freeze i h) w:=by
 unfold Vc.freeze;split
 ·rename_i e t U I;exact J.giveP I (uD.toC (J.objs i _ I) (fun b hb=>.inl hb) (fun b hb=>.inr hb))
 ·rename_i e m t U I;obtain⟨B,N,_,Y⟩:=J.objs i _ I;exact J.giveP I (fQ.toC (fun b hb=>.inl hb) _ _ _ _ _ (fun b hb=>.inr (Y b hb)) N)
 ·exact⟨c,.refl _ _,rfl,J⟩
def freezeAll:List Nat→List Obj→List Obj
 | [],h=>h
 | i::r,h=>freezeAll r (freeze i h)
theorem Good.freezeAll:∀(is:List Nat) {c:Ctx} {h:List Obj},Good M w0 c h w→ ∃c',bW c w c' w∧c'.n=c.n∧Good M w0 c' (freezeAll is h) w
 | [],c,h,I=>⟨c,.refl _ _,rfl,I⟩
 | i::r,c,h,I=>by
  obtain⟨c1,h1,Y,h3⟩:=I.freeze i;obtain⟨c2,J,N,U⟩:=Good.freezeAll r h3;exact⟨c2,h1.trans J,N.trans Y,U⟩
def kY:(t:Ty)→t.den→List AV
 | .pair a r,x=>.val a x.1::kY r x.2
 | .expr,x=>[.val (.i .i64) x.kind,.val .str x.text,.val (.sl .expr) x.l]
 | _,_=>[]
def aE6(v:AV)(k:Nat)(u:AV):AV :=
 match v with
 | .val t x=>aBi t ((kY t x).set k u)
 | .agg I=>.agg (I.set k u)
 | _=>.junk
def xI(v:AV)(i:Nat)(u:AV):AV :=
 match v with
 | .val (.arr n t) I=>match AV.as [] t u with
  | some x=>.val (.arr n t) (I.set i x)
  | none=>.junk
 | _=>.junk
def tP:AV→List Step→AV→Prop×AV
 | v,[],u=>(v.solid=true∧u.solid=true∧v.nc=u.nc,u)
 | v,.fld off k::p,u=>(v.solid=true∧off=(bN v k).2∧(tP (bN v k).1 p u).1∧(tP (bN v k).1 p u).2.solid1=true∧aE6 v k (tP (bN v k).1 p u).2≠ .junk,aE6 v k (tP (bN v k).1 p u).2)
 | v,.idx s i::p,u=>((elemOf v i).1∧s=aKR v∧(tP (elemOf v i).2 p u).1∧xI v i (tP (elemOf v i).2 p u).2≠ .junk,xI v i (tP (elemOf v i).2 p u).2)
def Ty.strB:Ty→Bool
 | .unit=>true
 | .pair _ r=>r.strB
 | .expr=>true
 | _=>false
theorem aGc:∀(t:Ty) (x:t.den) (cs:List Value),t.strB=true→aJ w c.S t x cs→fP c w (kY t x) cs∧(∀v∈kY t x,v.solid1=true)
 | .unit,_,cs,_,J=>⟨J,fun v hv=>by cases hv⟩
 | .pair a r,x,cs,I,⟨c1,c2,e,h1,h2⟩=>by
  obtain⟨q1,q2⟩:=aGc r x.2 c2 I h2;refine⟨⟨c1,c2,e,h1,q1⟩,fun v hv=>?_⟩;rcases List.mem_cons.1 hv with rfl|hv
  ·rfl
  simp_all
 | .bool,_,_,I,_=>by grind[Ty.strB]
 | .u _,_,_,I,_=>by grind[Ty.strB]
 | .i _,_,_,I,_=>by grind[Ty.strB]
 | .str,_,_,I,_=>by grind[Ty.strB]
 | .sl _,_,_,I,_=>by grind[Ty.strB]
 | .arr _ _,_,_,I,_=>by grind[Ty.strB]
 | .expr,x,cs,_,J=>by
  have h0:=aDK (c:=c) .expr x 0 cs J (by simp[aA6]);refine⟨?_,fun v hv=>by simp[kY] at hv; rcases hv with rfl|rfl|rfl<;>rfl⟩;cases J with
  | mk k s l a len N U Y I hl hc hm J ha =>
   exact⟨[_],[_,_],rfl,⟨rfl,rfl,Y.1,Y.2⟩,[_],[_],rfl,⟨s,rfl,rfl,I⟩,[_],[],rfl,⟨a,len,N,rfl,hl,hc,hm,ha.imp id fun⟨b,off,e,hb,hcell⟩=>⟨b,off,e,hb,fun i hi=>⟨U i,J i hi,hcell i hi⟩⟩⟩,rfl⟩
 | .rp _,_,_,I,_=>by grind[Ty.strB]
 | .clo _ _,_,_,I,_=>by grind[Ty.strB]
theorem aAQ:∀(t:Ty) (x:t.den) (k:Nat),aA6 t x k≠ .junk→t.strB=true→k<(kY t x).length∧(bN (.agg (kY t x)) k)=(aA6 t x k,t.fieldOff k)
 | .pair a r,x,0,_,_=>⟨by simp[kY],rfl⟩
 | .pair a r,x,k+1,I,J=>by
  obtain⟨N,U⟩:=aAQ r x.2 k I J;refine⟨by simp[kY,N],?_⟩;simp only[kY,bN,U];rfl
 | .unit,x,k,I,_=>absurd rfl I
 | .expr,x,k,I,_=>by
  match k,I with
  | 0,_=>exact⟨by simp[kY],rfl⟩
  | 1,_=>exact⟨by simp[kY],rfl⟩
  | 2,_=>exact⟨by simp[kY],rfl⟩
  | k+3,I=>exact absurd rfl I
 | .bool,x,k,I,J=>absurd rfl I
 | .u _,x,k,I,J=>absurd rfl I
 | .i _,x,k,I,J=>absurd rfl I
 | .str,x,k,I,J=>absurd rfl I
 | .sl _,x,k,I,J=>absurd rfl I
 | .arr _ _,x,k,I,J=>absurd rfl I
 | .rp _,x,k,I,J=>absurd rfl I
 | .clo _ _,x,k,I,J=>absurd rfl I
theorem aHE:∀ {vs:List AV} {cs:List Value} {k:Nat},fP c w vs cs→(∀v∈vs,v.solid1=true)→k<vs.length→ ∃pre ds post,cs=pre++ds++post∧pre.length=(bN (.agg vs) k).2∧aE c w (bN (.agg vs) k).1 ds∧ ∀(u:AV) (I:List Value),aE c w u I→fP c w (vs.set k u) (pre++I++post)
 | [],_,_,_,_,hk=>by grind
 | v::r,cs,0,Y,hs,_=>by
  obtain⟨c1,c2,e,N,h2⟩:=Y;exact⟨[],c1,c2,by simp_all,rfl,N,fun u I U=>by simp only[List.set_cons_zero,fP,List.nil_append]; grind⟩
 | v::r,cs,k+1,Y,hs,hk=>by
  obtain⟨c1,c2,e,N,h2⟩:=Y;obtain⟨pre,ds,post,e2,hp,hd,J⟩:=aHE (k:=k) h2 (fun u U=>hs u (by simp[U])) (by simp_all);refine⟨c1++pre,ds,post,by simp_all,?_,hd,fun u I U=>?_⟩
  ·rw[List.length_append,aC6 (hs v (by simp)) N,hp]; rfl
  ·simp only[List.set_cons_succ,fP];exact⟨c1,pre++I++post,by simp,N,J u I U⟩
theorem aSZ{v u:AV}{k:Nat}{cs:List Value}(hs:v.solid=true)(hr:aE c w v cs)(N:∀t x,v= .val t x→t.strB=true)(hj:(bN v k).1≠ .junk) :
  ∃pre ds post,cs=pre++ds++post∧pre.length=(bN v k).2∧aE c w (bN v k).1 ds∧ ∀I,aE c w u I→aE c w (aE6 v k u) (pre++I++post):=by
 cases v with
 | val t x =>
  have J:=N t x rfl;obtain⟨q1,q2⟩:=aGc (c:=c) (w:=w) t x cs J hr;obtain⟨k1,k2⟩:=aAQ t x k (by grind[bN]) J;obtain⟨pre,ds,post,e,hp,hd,U⟩:=aHE q1 q2 k1;rw[k2] at hp hd;refine⟨pre,ds,post,e,by grind[bN],by grind[bN],fun I hu=>?_⟩;simp only[aE6];have:=zX (t:=t) (c:=c) (w:=w) (cells:=(pre++I++post).toArray) (by simpa using U u I hu);have h1:mH c w (aBi t ((kY t x).set k u)) (.agg (pre++I++post).toArray):=by
   revert this;unfold aBi;split<;>exact fun h=>h
  simpa [Value.cells] using h1.1
 | agg Y =>
  simp only[aE] at hr;simp only[AV.solid,List.all_eq_true] at hs;have hk:k<Y.length:=by
   rcases Nat.lt_or_ge k Y.length with h|h
   ·exact h
   ·exfalso; apply hj;clear hs hr hj N
    induction Y generalizing k with
    | nil=>simp[bN]
    | cons v r ih=>cases k with
     | zero=>simp at h
     | succ k=>grind[bN]
  grind[aHE,aE6,aE]
 | _=>grind[bN]
theorem aP2{v u:AV}{i:Nat}{cs:List Value}(hr:aE c w v cs)(h:(elemOf v i).1)(U:xI v i u≠ .junk) :
  ∃pre ds post,cs=pre++ds++post∧pre.length=i*aKR v∧aE c w (elemOf v i).2 ds∧ ∀J,J.length=ds.length→aE c w u J→aE c w (xI v i u) (pre++J++post):=by
 cases v with
 | val t x =>
  cases t with
  | arr n t =>
   simp only[elemOf] at h ⊢;obtain⟨hn,I,e,hl,N⟩:=hr;have Y:i<I.length:=(by omega);obtain⟨pre,post,hf,hp⟩:=gS (t:=t) (css:=I) (fun j U=>aJ.length _ _ _ (N j (by omega) U)) i Y;refine⟨pre,I[i],post,by grind,hp,?_,fun J hdl hu=>?_⟩
   ·have:=N i (by omega) (by omega);simp only[aE];rw[List.getD_eq_getElem?_getD,List.getElem?_eq_getElem (by omega)];exact this
   ·simp only[xI] at U ⊢;split at U
    ·rename_i y hy;have hyr:=(zX.as_nil t u y J hy hu).1;have hlen:((I.take i).flatten).length=i*t.cells:=by
      rw[fE (n:=t.cells) (fun j U=>?_)]
      ·rw[List.length_take,Nat.min_eq_left (by omega)]
      ·simp at U; simp only[List.getElem_take]; exact aJ.length _ _ _ (N j (by omega) (by omega))
     have hsp:I=I.take i++ [I[i]]++I.drop (i+1):=(by simp);have h3:I.flatten=(I.take i).flatten++I[i]++(I.drop (i+1)).flatten:=by
      grind
     rw[h3,List.append_assoc,List.append_assoc] at hf;obtain⟨q1,q2⟩:=List.append_inj hf (by omega);obtain⟨q3,q4⟩:=List.append_inj q2 rfl;refine⟨by grind,I.set i J,?_,by grind,fun j h1 h2=>?_⟩
     ·rw[← q1,← q4,List.set_eq_take_append_cons_drop,if_pos Y];simp
     grind[List.getElem_set_self,List.getElem_set_ne]
    simp_all
  | _=>exact h.elim
 | _=>exact h.elim
def wG:AV→List Step→Bool
 | _,[]=>true
 | .val t x,.fld _ k::p=>t.strB&&wG (bN (.val t x) k).1 p
 | v,.fld _ k::p=>wG (bN v k).1 p
 | v,.idx _ i::p=>wG (elemOf v i).2 p
theorem aDY:∀(p:List Step) (v u:AV) (cs:List Value),aE c w v cs→(tP v p u).1→wG v p=true→ ∃pre ds post,cs=pre++ds++post∧pre.length=gD p∧(∀J,aE c w u J→J.length=ds.length∧aE c w (tP v p u).2 (pre++J++post))
 | [],v,u,cs,hr,h,_=>by
  obtain⟨h1,U,h3⟩:=h;exact⟨[],cs,[],by simp,rfl,fun J hu=>⟨by grind[aHZ],by grind[tP]⟩⟩
 | .fld off k::p,v,u,cs,hr,h,hb=>by
  simp only[tP] at h ⊢;obtain⟨hs,ho,U,h3,h4⟩:=h;have hj:(bN v k).1≠ .junk:=by
   intro e;rw[e] at U;cases p with
   | nil=>obtain⟨q,_⟩:=U; simp[AV.solid,AV.solid1] at q
   | cons s p=>cases s with
    | fld _ _=>obtain⟨q,_⟩:=U; simp[AV.solid,AV.solid1] at q
    | idx _ _=>exact U.1.elim
  have hst:∀t x,v= .val t x→t.strB=true:=fun t x e=>by simp_all[wG,Bool.and_eq_true]
  have hb2:wG (bN v k).1 p=true:=by
   cases v<;>first|simp_all[wG,Bool.and_eq_true]|grind[wG]
  obtain⟨pre,ds,post,e,hp,hd,hset⟩:=aSZ (u:=(tP (bN v k).1 p u).2) hs hr hst hj;obtain⟨N,ds2,I,e2,hp2,Y⟩:=aDY p _ u ds hd U hb2;refine⟨pre++N,ds2,I++post,by simp_all,by grind[List.length_append,gD,Step.off],fun J hu=>?_⟩;grind
 | .idx s i::p,v,u,cs,hr,h,hb=>by
  simp only[tP] at h ⊢;obtain⟨hs,ho,U,h4⟩:=h;have hb2:wG (elemOf v i).2 p=true:=by grind[wG]
  obtain⟨pre,ds,post,e,hp,hd,hset⟩:=aP2 (u:=(tP (elemOf v i).2 p u).2) hr hs h4;obtain⟨N,ds2,I,e2,hp2,Y⟩:=aDY p _ u ds hd U hb2;refine⟨pre++N,ds2,I++post,by simp_all,by grind[List.length_append,gD,Step.off],fun J hu=>?_⟩;grind
end
end Go.Vc
namespace Go.Vc
open Go.RowKit
def Ctx.pushS(c:Ctx)(S':Nat→Prop)(v:Value):Ctx:=⟨S',fun i=>if i=c.n then v else c.hd i,c.n+1,c.bl⟩
section
variable {P:Program} {T:Tab} {M:Perm} {w0:World} {c:Ctx} {h:List Obj} {w:World}
theorem Good.pushS(J:Good M w0 c h w){w':World}(hk:bG nothing w w'){S':Nat→Prop}(hS:∀b,c.S b→S' b)(hSn:∀b,S' b→c.S b∨(w.heap.size≤b∧b<w'.heap.size)){o:Obj}{hv:Value}(hob:zL (c.pushS S' hv) w' c.n o)
  (hb:∀b,cM (c.pushS S' hv) c.n o b→w.heap.size≤b∧b<w'.heap.size∧ ¬S' b) :
  Good M w0 (c.pushS S' hv) (h++ [o]) w'∧bW c w (c.pushS S' hv) w':=by
 have hl:bW c w (c.pushS S' hv) w':=⟨⟨hS,Nat.le_succ _,fun i hi=>by simp[Ctx.pushS,Nat.ne_of_lt hi]⟩,fun b I=>hk.block b (J.sfin b I) (fun f=>f)⟩;have hcase:∀i o',(h++ [o])[i]? = some o'→(h[i]? = some o'∧i<c.n)∨(i=c.n∧o'=o):=fun i o' Y=>by
  rw[J.n];grind
 refine⟨⟨by simp[Ctx.pushS,J.n],J.keeps.trans hk.any,fun b I=>?_,fun b I hlt=>?_,fun i o' Y=>?_,fun i o' b Y N=>?_,fun i j oi oj b hi hj U hbj=>?_,sN J.root hl.le⟩,hl⟩
 ·rcases hSn b I with I|I
  ·exact Nat.lt_of_lt_of_le (J.sfin b I) hk.size
  omega
 ·rcases hSn b I with I|I
  ·exact J.src b I hlt
  ·have:=J.keeps.size; omega
 ·rcases hcase i o' Y with⟨Y,hi⟩|⟨rfl,rfl⟩
  ·exact(J.objs i o' Y).keep hl hi rfl (fun b N=>hk.block b (J.own i o' b Y N).2.1 (fun f=>f))
  omega
 ·rcases hcase i o' Y with⟨Y,hi⟩|⟨rfl,rfl⟩
  ·rw[cX hl.le rfl hi] at N;obtain⟨h1,h2,h3⟩:=J.own i o' b Y N;refine⟨h1,Nat.lt_of_lt_of_le h2 hk.size,fun hS'=>?_⟩;rcases hSn b hS' with hS'|hS'
   all_goals grind
  ·obtain⟨h1,h2,h3⟩:=hb b N;exact⟨.inl (Nat.le_trans J.keeps.size h1),h2,h3⟩
 ·rcases hcase i oi hi with⟨hi',hin⟩|⟨ei,eo⟩<;>rcases hcase j oj hj with⟨hj',hjn⟩|⟨ej,eo'⟩
  ·rw[cX hl.le rfl hin] at U;rw[cX hl.le rfl hjn] at hbj;exact J.sep i j oi oj b hi' hj' U hbj
  ·subst ej; subst eo';rw[cX hl.le rfl hin] at U;have:=(J.own i oi b hi' U).2.1;grind
  ·subst ei; subst eo;rw[cX hl.le rfl hjn] at hbj;have:=(J.own j oj b hj' hbj).2.1;grind
  omega
theorem Good.regrow(I:Good M w0 c h w){i:Nat}{e:TypeId}{t:Ty}{xs:List t.den}(ho:h[i]? = some (.row e t xs)){w':World}(hk:w.grownBy w' (aH (c.hd i))){v':Value}{ys:List t.den}(hrow:uD c w' e t ys v')
  (hb:∀b,aH v'=some b→aH (c.hd i)=some b∨(w.heap.size≤b∧b<w'.heap.size)):Good M w0 (c.push v') (h.set i .dead++ [.row e t ys]) w'∧bW c w (c.push v') w':=by
 have hil:i<h.length:=qJ ho;have hother:∀b,b<w.heap.size→aH (c.hd i)≠some b→w'.heap[b]? = w.heap[b]? := fun b hlt Y=>hk.block b hlt (fun e=>Y e.symm);have hiS:∀b,c.S b→aH (c.hd i)≠some b:=fun b hS e=>(I.own i _ b ho e).2.2 hS;have hl:bW c w (c.push v') w':=⟨c.le_push v',fun b hbS=>hother b (I.sfin b hbS) (hiS b hbS)⟩;have hcase:∀j o',(h.set i Obj.dead++ [Obj.row e t ys])[j]? = some o'→(h[j]? = some o'∧j<c.n∧j≠i)∨(j=c.n∧o'=Obj.row e t ys)∨o'=Obj.dead:=fun j o' hj=>by
  rw[I.n];grind
 have hpush:(c.push v').hd c.n=v':=by simp[Ctx.push]
 refine⟨⟨by simp[Ctx.push,I.n],⟨hk.os.trans I.keeps.os,hk.tape.trans I.keeps.tape,hk.output.trans I.keeps.output,Nat.le_trans I.keeps.size hk.size,fun b hlt hM=>?_⟩,fun b hbS=>Nat.lt_of_lt_of_le (I.sfin b hbS) hk.size,I.src,fun j o' hj=>?_,fun j o' b hj N=>?_,fun j k oj ok b hj hk' hbj J=>?_,sN I.root hl.le⟩,hl⟩
 ·have Y:aH (c.hd i)≠some b:=fun e'=>by
   rcases (I.own i _ b ho e').1 with h1|h1
   all_goals grind
  rw[hother b (Nat.lt_of_lt_of_le hlt I.keeps.size) Y];exact I.keeps.block b hlt hM
 ·rcases hcase j o' hj with⟨U,hjn,Y⟩|⟨ej,eo⟩|eo
  ·exact(I.objs j o' U).keep hl hjn rfl (fun b N=>hother b (I.own j o' b U N).2.1 (fun e'=>Y (I.sep j i o' _ b U ho N e')))
  ·subst ej; subst eo;obtain⟨vals,h1,h2⟩:=hrow;exact⟨vals,by simp_all,h2⟩
  ·subst eo; trivial
 ·rcases hcase j o' hj with⟨U,hjn,Y⟩|⟨ej,eo⟩|eo
  ·rw[cX hl.le rfl hjn] at N;obtain⟨h1,h2,h3⟩:=I.own j o' b U N;exact⟨h1,Nat.lt_of_lt_of_le h2 hk.size,h3⟩
  ·subst ej; subst eo;have N:aH v'=some b:=(by rw[← hpush]; exact N);rcases hb b N with h1|h1
   ·obtain⟨q1,q2,q3⟩:=I.own i _ b ho h1;exact⟨q1,Nat.lt_of_lt_of_le q2 hk.size,q3⟩
   ·exact⟨.inl (Nat.le_trans I.keeps.size h1.1),h1.2,fun hS=>by have:=I.sfin b hS; omega⟩
  ·subst eo; cases N
 ·rcases hcase j oj hj with⟨U,hjn,Y⟩|⟨ej,eo⟩|eo
  ·rw[cX hl.le rfl hjn] at hbj;rcases hcase k ok hk' with⟨hk'',hkn,hne'⟩|⟨ek,eo'⟩|eo'
   ·rw[cX hl.le rfl hkn] at J;exact I.sep j k oj ok b U hk'' hbj J
   ·subst ek; subst eo';have J:aH v'=some b:=(by rw[← hpush]; exact J);rcases hb b J with h1|h1
    ·exact absurd (I.sep j i oj _ b U ho hbj h1) Y
    ·have:=(I.own j oj b U hbj).2.1;omega
   ·subst eo'; cases J
  ·subst ej; subst eo;have hbj:aH v'=some b:=(by rw[← hpush]; exact hbj);rcases hcase k ok hk' with⟨hk'',hkn,hne'⟩|⟨ek,eo'⟩|eo'
   ·rw[cX hl.le rfl hkn] at J;rcases hb b hbj with h1|h1
    ·exact absurd (I.sep k i ok _ b hk'' ho J h1) hne'
    ·have:=(I.own k ok b hk'' J).2.1;omega
   ·omega
   ·subst eo'; cases J
  ·subst eo; cases hbj
def aIf(h:List Obj):AV→AV
 | .own i=>match h[i]? with
  | some (.frz t I)=>.val (.sl t) I
  | _=>.own i
 | v=>v
def aLO(h:List Obj):AV→AV
 | .agg I=>.agg (I.map (aIf h))
 | v=>aIf h v
theorem aNS(J:Good M w0 c h w){v:AV}{cs:List Value}(I:aE c w v cs):aE c w (aIf h v) cs:=by
 unfold aIf;split
 ·rename_i i;split
  ·rename_i t U N;have:=J.objs i _ N;simp only[aE] at I;rw[I.2.1];exact this
  omega
 omega
theorem aNT(I:Good M w0 c h w):∀ {vs:List AV} {cs:List Value},fP c w vs cs→fP c w (vs.map (aIf h)) cs
 | [],_,U=>U
 | v::r,_,⟨c1,c2,e,J,N⟩=>⟨c1,c2,e,aNS I J,aNT I N⟩
theorem aRu(hg:Good M w0 c h w){v:AV}{x:Value}(I:aG c w v x):aG c w (aLO h v) x:=by
 cases v with
 | agg vs =>
  obtain⟨N,Y,U⟩:=I;exact⟨aNT hg (by grind[aE]),Y,U⟩
 | own i =>
  simp only[aLO,aIf];split
  ·rename_i t xs ho;have:=hg.objs i _ ho;have J:=I;obtain⟨N,Y,U⟩:=I;simp only[aE] at N;have hx:=(sO J).2;refine⟨?_,fun h=>by simp[AV.isAgg,Ty.isAgg] at h,fun _=>U rfl⟩;simp only[aE];rw[N.2.1];exact this
  omega
 | _=>exact I
def aAa(T:Tab)(h:List Obj)(t:TypeId)(a x:AV):Prop×AV×List Obj :=
 match a with
 | .ptr i p=>match h[i]? with
  | some (.box n .junk)=>match p with
   | []=>(n=x.nc∧n<4294967296∧x.solid=true∧ ∃I,T t=some I∧I.cells=x.nc,.junk,h.set i (.box n x))
   | _=>(False,.junk,h)
  | some (.box n v)=>((tP v p x).1∧wG v p=true∧x.solid=true∧ ∃I,T t=some I∧I.cells=x.nc,.junk,h.set i (.box n (tP v p x).2))
  | some (.row e I J)=>match p with
   | .idx s k::p=>match AV.as [] I (tP (.val I (J.getD k I.zero)) p x).2 with
    | some y=>(k<J.length∧s=I.cells∧(tP (.val I (J.getD k I.zero)) p x).1∧wG (.val I (J.getD k I.zero)) p=true∧x.solid=true∧ ∃c',T t=some c'∧c'.cells=x.nc,.junk,h.set i (.row e I (J.set k y)))
    | none=>(False,.junk,h)
   | _=>(False,.junk,h)
  | some (.trh e m I J N v)=>match p with
   | .idx s k::p=>(k=N∧s=I.cells∧(tP v p x).1∧wG v p=true∧x.solid=true∧ ∃c',T t=some c'∧c'.cells=x.nc,.junk,h.set i (.trh e m I J N (tP v p x).2))
   | _=>(False,.junk,h)
  | _=>(False,.junk,h)
 | _=>(False,.junk,h)
def uN(I t:Ty)(xs:List I.den):Option (List t.den):=if e:I=t then some (e▸xs) else none
@[simp] theorem aP3{t:Ty}{xs:List t.den}:uN t t xs=some xs:=by simp[uN]
theorem wH{I t:Ty}{xs:List I.den}{ys:List t.den}(h:uN I t xs=some ys):∃e:I=t,ys=e▸xs:=by
 unfold uN at h;grind
theorem aUu(h:List Obj)(i:Nat)(t:Ty):rowOf h i t=match h[i]? with
  | some (.row _ I J)=>uN I t J
  | some (.frz I J)=>uN I t J
  | some (.tre _ _ I J)=>uN I t J
  | _=>none:=by
 rfl
def bound(I:Ty)(n:Nat):Prop:=n≤maxLen∧n*I.byt≤140737488355328
def mJ(E:Env)(h:List Obj)(t:TypeId)(s x:AV):Prop×AV×List Obj :=
 match E.T t with
 | some (.sl I)=>match AV.as (if I.scalar then h else h.map cL) (.sl I) x with
  | some N=>match s with
   | .nilS=>(bound I N.length∧I.okB=true,.own h.length,h++ [.row (E.el t) I N])
   | .own i=>match h[i]? with
    | some (.row e c' J)=>match uN c' I J with
     | some J=>(e=E.el t∧bound I (J.length+N.length)∧I.okB=true,.own h.length,h.set i .dead++ [.row (E.el t) I (J++N)])
     | none=>(False,.junk,h)
    | _=>(False,.junk,h)
   | _=>(False,.junk,h)
  | none=>(False,.junk,h)
 | _=>(False,.junk,h)
def aE7(E:Env)(h:List Obj)(t:TypeId)(l J:AV):Prop×AV×List Obj :=
 match E.T t with
 | some (.sl I)=>match tL l,tL J with
  | some n,some m=>(I.okB=true∧0≤n∧n≤m∧(I.byt:Int)*m≤281474976710656∧m≤maxLen,.own h.length,h++ [.row (E.el t) I (List.replicate n.toNat I.zero)])
  | _,_=>(False,.junk,h)
 | _=>(False,.junk,h)
def aCi(Γ:FuncId→List AV→Option aF)(h:List Obj)(f:FuncId)(vs:List AV):Prop×AV×List Obj :=
 match Γ f vs with
 | some sp=>match sp with
  | ⟨a,.own e t,pre,fn⟩=>match sC (if t.scalar then h else h.map cL) a vs with
   | some x=>(pre x,.own h.length,h++ [.row e t (fn x)])
   | none=>(False,.junk,h)
  | _=>(False,.junk,h)
 | none=>(False,.junk,h)
theorem aUv{t:Ty}{css:List (List Value)}(Y:∀j (U:j<css.length),(css[j]).length=t.cells){k:Nat}(I:k<css.length){pre post ds:List Value}(N:css.flatten=pre++css[k]++post)(hp:pre.length=k*t.cells):(css.set k ds).flatten=pre++ds++post:=by
 have h1:css=css.take k++css[k]::css.drop (k+1):=by simp_all
 have h2:(css.take k).flatten.length=k*t.cells:=by
  rw[fE (n:=t.cells) (fun i hi=>by grind),List.length_take,Nat.min_eq_left (Nat.le_of_lt I)]
 have h3:css.flatten=(css.take k).flatten++css[k]++(css.drop (k+1)).flatten:=by
  grind
 have J:pre=(css.take k).flatten∧css[k]++post=css[k]++(css.drop (k+1)).flatten:=by
  grind[List.append_assoc,List.append_inj]
 have h5:post=(css.drop (k+1)).flatten:=List.append_cancel_left J.2;grind
theorem xJ{t:TypeId}{Y:Ty}(U:uT P T t Y){x:AV}{u:Value}(hs:x.solid=true)(hx:aG c w x u)(hn:Y.cells=x.nc){b off:Nat}{cells:Array Value}{e:TypeId}(hb:w.heap[b]? = some (.cells cells e (0,0)))
  {pre ds post:List Value} (hc:cells.toList=pre++ds++post) (hp:pre.length=off) (hl:ds.length=x.nc) :
  aE c w x u.cells.toList∧u.cells.toList.length=ds.length∧(storeVar t ⟨b,off,none⟩ u).run P w= .ok () (w.setRow b (pre++u.cells.toList++post).toArray):=by
 have I:mH c w x u:=by cases x<;>first|exact hx|grind[AV.solid,AV.solid1]
 have hul:=aHZ hs I.1;refine⟨I.1,by omega,?_⟩;have J:=aEZ hs I.1;have hcs:cells.size=(pre++ds++post).length:=by grind
 have N:=run_storeCells_at P b off e u.cells.toList 0 cells w hb (by
  simp_all) (fun v hv=>by
   have:=J v hv;cases v<;>first|rfl|exact this.elim)
 have e1:cells.toList.take (off+0)=pre:=by simp_all
 have e2:cells.toList.drop (off+0+u.cells.toList.length)=post:=by
  grind
 rw[e1,e2] at N;have hsz:u.cells.size=Y.cells:=by simp_all
 simp only[storeVar,Sem.run_bind,cE U,Result.andThen_ok,hsz,ne_eq,not_true_eq_false,if_false,Sem.run_ite];omega
theorem aUw(hT:eO P T)(hg:Good M w0 c h w){t:TypeId}{a x:AV}{av u:Value}(ha:aG c w a av)(hx:aG c w x u)(hc:(aAa T h t a x).1) :
  ∃w',(Instr.storeAt t av u).run P w= .ok () w'∧bW c w c w'∧Good M w0 c (aAa T h t a x).2.2 w':=by
 cases a with
 | ptr i p =>
  obtain⟨hi,b,hb,rfl⟩:=zT ha;simp only[aAa] at hc ⊢;split at hc
  ·rename_i n ho;cases p with
   | cons _ _=>simp_all
   | nil =>
   obtain⟨h1,hbn,h3,J,h4,h5⟩:=hc;obtain⟨b',cells,e,q1,q2,q3,q4⟩:=hg.objs i _ ho;have hbb:b=b':=(by grind[aH]);subst hbb;have hx1:mH c w x u:=(by cases x<;>first|exact hx|grind[AV.solid,AV.solid1]);obtain⟨s1,s2,s3⟩:=xJ (P:=P) (hT _ _ h4) h3 hx h5 q2 (pre:=[]) (ds:=cells.toList) (post:=[]) (by simp) (off:=0) rfl (by rcases q3 with q3|⟨_,q3⟩<;>(simp only[Array.length_toList]; omega));simp only[List.nil_append,List.append_nil] at s3;refine⟨w.setRow b u.cells.toList.toArray,by simp[Instr.storeAt,Instr.sureAddr,gD,s3],?_⟩;have hsame:∀k,k≠b→(w.setRow b u.cells.toList.toArray).heap[k]? = w.heap[k]? := fun k hk=>setRow_other w b k _ hk;have U:cM c i (.box n .junk) b:=(by simp[cM,q1,aH]);have hnS:=(hg.own i _ b ho U).2.2;have:=hg.modify (o':=.box n x) ho U (w':=w.setRow b u.cells.toList.toArray) rfl rfl rfl (by simp_all) hsame ?_ ?_
   ·simp_all
   ·refine⟨b,_,e,q1,setRow_heap w b cells _ e _ q2,?_,?_⟩
    ·simp_all
    ·have:=aE.keep (c':=c) (.refl c) (fun k hk=>hsame k (fun e=>hnS (e▸hk))) _ _ s1;omega
   grind[cM,aH]
  ·rename_i n v _ ho;obtain⟨h1,h2,h3,J,h4,h5⟩:=hc;obtain⟨b',cells,e,q1,q2,q3,q4⟩:=hg.objs i _ ho;have hbb:b=b':=(by grind[aH]);subst hbb;obtain⟨pre,ds,post,r1,r2,r3⟩:=aDY p v x cells.toList q4 h1 h2;have hul:=r3 u.cells.toList;have hx1:mH c w x u:=(by cases x<;>first|exact hx|grind[AV.solid,AV.solid1]);obtain⟨k1,k2⟩:=r3 _ hx1.1;obtain⟨s1,s2,s3⟩:=xJ (P:=P) (hT _ _ h4) h3 hx h5 q2 r1 r2 (by rw[← k1,aHZ h3 hx1.1]);refine⟨w.setRow b (pre++u.cells.toList++post).toArray,by simp[Instr.storeAt,Instr.sureAddr,s3],?_⟩;have hsame:∀k,k≠b→(w.setRow b (pre++u.cells.toList++post).toArray).heap[k]? = w.heap[k]? := fun k hk=>setRow_other w b k _ hk;have U:cM c i (.box n v) b:=(by simp[cM,q1,aH]);have hnS:=(hg.own i _ b ho U).2.2;have:=hg.modify (o':=.box n (tP v p x).2) ho U (w':=w.setRow b (pre++u.cells.toList++post).toArray) rfl rfl rfl (by simp_all) hsame ?_ ?_
   ·simp_all
   ·refine⟨b,_,e,q1,setRow_heap w b cells _ e _ q2,?_,?_⟩
    ·have:cells.size=(pre++ds++post).length:=(by grind);simp_all
    ·have:=aE.keep (c':=c) (.refl c) (fun k hk=>hsame k (fun e=>hnS (e▸hk))) _ _ k2;omega
   grind[cM,aH]
  ·rename_i e J N ho;cases p with
   | nil=>simp_all
   | cons st p =>
    cases st with
    | fld _ _=>simp_all
    | idx s k =>
     simp only at hc ⊢;split at hc
     ·rename_i y hy;obtain⟨h1,h2,h3,h4,h5,c',h6,h7⟩:=hc;simp only[hy];obtain⟨vals,hown,hrep⟩:=hg.objs i _ ho;obtain⟨hvl,hv⟩:=hown;rcases hv with⟨_,h0⟩|⟨g,cap,I,hhd,_,hheap,hle,hcap,hsz,htake⟩
      ·omega
      have hbb:b=g:=(by grind[aH]);subst hbb;have hset:xI (.val (.arr N.length J) N) k (tP (.val J (N.getD k J.zero)) p x).2= .val (.arr N.length J) (N.set k y):=by
       grind[xI]
      obtain⟨pre,ds,post,r1,r2,r3⟩:=aDY (.idx s k::p) (.val (.arr N.length J) N) x vals (show aJ w c.S _ _ _ from hrep) (by
       simp only[tP];refine⟨h1,h2,h3,?_⟩;grind[elemOf]) (by grind[wG,elemOf])
      have hcur:I.toList=pre++ds++(post++I.toList.drop (N.length*J.cells)):=by
       grind[List.append_assoc,List.take_append_drop]
      have hx1:mH c w x u:=(by cases x<;>first|exact hx|grind[AV.solid,AV.solid1]);obtain⟨k1,k2⟩:=r3 _ hx1.1;obtain⟨s1,s2,s3⟩:=xJ (P:=P) (hT _ _ h6) h5 hx h7 hheap hcur r2 (by rw[← k1,aHZ h5 hx1.1]);refine⟨_,by simp only[Instr.storeAt,Instr.sureAddr,Sem.run_bind,Sem.run_pure,Result.andThen_ok]; exact s3,?_⟩;have hsame:∀k',k'≠b→(w.setRow b (pre++u.cells.toList++(post++I.toList.drop (N.length*J.cells))).toArray).heap[k']? = w.heap[k']? := fun k' hk=>setRow_other w b k' _ hk;have U:cM c i (.row e J N) b:=(by simp[cM,hhd,aH]);have hnS:=(hg.own i _ b ho U).2.2;have hS:pZ c.S w (w.setRow b (pre++u.cells.toList++(post++I.toList.drop (N.length*J.cells))).toArray):=fun k' hk=>hsame k' (fun e=>hnS (e▸hk));have hnew:aJ w c.S (.arr N.length J) (N.set k y) (pre++u.cells.toList++post):=by
       have:=k2;simp only[tP,elemOf] at this;rw[hset] at this;exact this
      have hlen:(pre++u.cells.toList++post).length=vals.length:=(by grind);have:=hg.modify (o':=.row e J (N.set k y)) ho U (w':=w.setRow b (pre++u.cells.toList++(post++I.toList.drop (N.length*J.cells))).toArray) rfl rfl rfl (by simp[World.setRow]) hsame ?_ ?_
      ·grind
      ·have hl':(N.set k y).length=N.length:=(by simp);refine⟨pre++u.cells.toList++post,⟨by grind,.inr ⟨b,cap,_,by grind,Nat.zero_le _,setRow_heap w b I _ e _ hheap,by omega,hcap,?_,?_⟩⟩,?_⟩
       all_goals grind[List.append_assoc,List.take_left,aJ.keep]
      grind[cM,aH]
     simp_all
  ·rename_i e m J N kk v ho;cases p with
   | nil=>simp_all
   | cons st p =>
    cases st with
    | fld _ _=>simp_all
    | idx s k =>
     simp only at hc ⊢;obtain⟨rfl,h2,h3,h4,h5,c',h6,h7⟩:=hc;obtain⟨css,Bs,q⟩:=hg.objs i _ ho;have hk:=q.kl;have hlc:=q.lc;have hlb:=q.lb;obtain⟨hvl,hv⟩:=q.row;rcases hv with⟨_,h0⟩|⟨g,cap,I,hhd,_,hheap,hle,hcap,hsz,htake⟩
     ·omega
     have hbb:b=g:=(by grind[aH]);subst hbb;obtain⟨hv1,hv2⟩:=q.hv (by omega);have hcl:∀j (hj:j<css.length),(css[j]).length=J.cells:=fun j hj=>by
      by_cases e:j=k
      ·simp_all
      ·exact fQ.length _ _ _ _ _ (q.el j (by omega) hj (by omega) e)
     obtain⟨pre0,Y,hf,hp0⟩:=gS (t:=J) (css:=css) hcl k (by omega);obtain⟨pre,ds,post,r1,r2,r3⟩:=aDY p v x css[k] hv1 h3 h4;have hx1:mH c w x u:=(by cases x<;>first|exact hx|grind[AV.solid,AV.solid1]);obtain⟨k1,k2⟩:=r3 _ hx1.1;have hcur:I.toList=(pre0++pre)++ds++(post++Y++I.toList.drop (N.length*J.cells)):=by
      grind[List.take_append_drop,List.append_assoc]
     obtain⟨s1,s2,s3⟩:=xJ (P:=P) (off:=k*J.cells+gD p) (hT _ _ h6) h5 hx h7 hheap hcur (by grind) (by rw[← k1,aHZ h5 hx1.1]);refine⟨_,by simp only[Instr.storeAt,Instr.sureAddr,Sem.run_bind,Sem.run_pure,Result.andThen_ok,gD,Step.off,h2]; exact s3,?_⟩;have hsame:∀k',k'≠b→(w.setRow b ((pre0++pre)++u.cells.toList++(post++Y++I.toList.drop (N.length*J.cells))).toArray).heap[k']? = w.heap[k']? := fun k' hk=>setRow_other w b k' _ hk;have hbl:c.bl i b:=q.bl b (by simp[hdB,hhd,aH]);have U:cM c i (.trh e m J N k v) b:=hbl;have hnS:=(hg.own i _ b ho U).2.2;have hS:pZ c.S w (w.setRow b ((pre0++pre)++u.cells.toList++(post++Y++I.toList.drop (N.length*J.cells))).toArray):=fun k' hk=>hsame k' (fun e=>hnS (e▸hk));have hset:(css.set k (pre++u.cells.toList++post)).flatten=pre0++(pre++u.cells.toList++post)++Y:=aUv hcl (by omega) hf hp0;have hlen:(pre++u.cells.toList++post).length=J.cells:=(by grind);have:=hg.modifyG (o':=.trh e m J N k (tP v p x).2) ho U (w':=w.setRow b ((pre0++pre)++u.cells.toList++(post++Y++I.toList.drop (N.length*J.cells))).toArray) rfl rfl rfl (by simp[World.setRow]) hsame ?_ (fun _ h=>h)
     ·grind
     ·refine⟨css.set k (pre++u.cells.toList++post),Bs,⟨?_,by grind,hlb,hk,fun j hj h1 h2 hne=>?_,q.hb,fun h1=>?_,q.nd,q.bl⟩⟩
      ·refine⟨by grind,.inr ⟨b,cap,_,hhd,Nat.zero_le _,setRow_heap w b I _ e _ hheap,hle,hcap,?_,?_⟩⟩
       all_goals grind[List.append_assoc,List.length_append,List.take_left]
      ·rw[List.getElem_set_ne (fun e=>hne e.symm)];simp only[List.length_set] at h1;exact fQ.keep (fun _ h=>h) hS _ _ _ _ _ (fun b' hb'=>hsame b' (fun e=>by
        subst e;have:=q.nd;rw[hhd] at this;simp only[hdB,aH,List.singleton_append,List.nodup_cons] at this;grind[List.mem_flatten,List.getElem_mem])) (q.el j hj h1 h2 hne)
      ·rw[List.getElem_set_self];exact⟨aE.keep (c':=c) (.refl c) hS _ _ k2,hlen⟩
  simp_all
 | _=>exact hc.elim
theorem SlR.flat{S:Nat→Prop}{t:Ty}{xs:List t.den}{a:Option Addr}{len cap:Nat}(hs:SlR w S (aJ w S t) t.cells xs a len cap):∃css:List (List Value),css.length=xs.length∧css.flatten.length=xs.length*t.cells∧aJ w S (.arr xs.length t) xs css.flatten∧(xs= []∨ ∃b off,a=some ⟨b,off,none⟩∧aY w b off css.flatten):=by
 obtain⟨h1,h2,h3,h4⟩:=hs;rcases h4 with rfl|⟨b,off,rfl,hb,U⟩
 ·exact⟨[],rfl,by simp,⟨rfl,[],rfl,rfl,fun i h=>by simp at h⟩,.inl rfl⟩
 ·have N:∃css:List (List Value),css.length=xs.length∧ ∀i (h:i<xs.length) (h':i<css.length),aJ w S t xs[i] css[i]∧aY w b (off+i*t.cells) css[i]:=by
   have:∀n,n≤xs.length→ ∃css:List (List Value),css.length=n∧ ∀i (h:i<xs.length) (h':i<css.length),aJ w S t xs[i] css[i]∧aY w b (off+i*t.cells) css[i]:=by
    intro n
    induction n with
    | zero=>simp_all
    | succ n ih =>
     intro hn;obtain⟨css,J,hc⟩:=ih (by omega);obtain⟨ds,hd,hcell⟩:=U n (by omega);refine⟨css++ [ds],by simp[J],fun i hi hi'=>?_⟩;grind
   simp_all
  obtain⟨css,J,hc⟩:=N;have I:∀j (hj:j<css.length),(css[j]).length=t.cells:=fun j hj=>aJ.length _ _ _ (hc j (by omega) hj).1;have Y:css.flatten.length=xs.length*t.cells:=by rw[fE I,J]
  refine⟨css,J,Y,⟨rfl,css,rfl,J,fun i h h'=>(hc i h h').1⟩,.inr ⟨b,off,rfl,?_⟩⟩;intro j v hj;have hjl:j<css.length*t.cells:=by
   grind
  have htp:0<t.cells:=by
   grind
  have hi:j/t.cells<css.length:=Nat.div_lt_of_lt_mul (by grind);obtain⟨pre,post,hf,hp⟩:=gS (t:=t) (css:=css) I (j/t.cells) hi;have hdm:=Nat.div_add_mod j t.cells;have hml:=Nat.mod_lt j htp;have:(css[j/t.cells])[j%t.cells]? = some v:=by
   grind
  have:=(hc (j/t.cells) (by omega) hi).2 _ _ this;grind
end
end Go.Vc
namespace Go.Vc
open Go.RowKit
section
variable {P:Program} {E:Env} {T:Tab} {M:Perm} {w0:World} {c:Ctx} {h:List Obj} {w:World}
theorem sE(w:World)(o:Go.Obj):(w.alloc o).heap[w.heap.size]? = some o:=by
 show (w.heap.push o)[w.heap.size]? = some o;simp
theorem oX{I:Ty}(J:I.okB=true):(fU I).cells=(bH I).toArray:=by
 have w:World:=default;have Y:(fU I).cells.toList=bH I:=by
  unfold fU;split
  ·rfl
  ·have U:(bH I).length=1:=by
    rw[aJ.length _ _ _ (cR w (fun _=>False) I J)];rename_i ha;cases I<;>simp_all[Ty.isAgg,Ty.cells]
   match hzz:bH I,U with
   | [v],_ =>
    have N:=aJ.one I _ _ (cR w (fun _=>False) I J) v (by simp_all);simp only[List.headD_cons];cases v<;>first|rfl|exact N.elim
 grind
theorem fB{I:Ty}(J:I.okB=true):(bH I).length=I.cells:=aJ.length _ _ _ (cR (default:World) (fun _=>False) I J)
theorem aDc{S:Nat→Prop}{t:Ty}{xs ys:List t.den}{vs I:List Value}(h1:aJ w S (.arr xs.length t) xs vs)(J:aJ w S (.arr ys.length t) ys I):aJ w S (.arr (xs++ys).length t) (xs++ys) (vs++I):=by
 obtain⟨_,Y,rfl,hl,hr⟩:=h1;obtain⟨_,ds,rfl,hl',U⟩:=J;refine⟨rfl,Y++ds,by simp,by simp_all,fun i hi N=>?_⟩;grind
theorem aZG(hg:Good M w0 c h w){N:Ty}{x:AV}{xv:Value}{ys:List N.den}(hx:aG c w x xv)(ha:AV.as (if N.scalar then h else h.map cL) (.sl N) x=some ys) :
  ∃a cap I,xv= .slice a ys.length cap∧ys.length≤cap∧I.length=ys.length*N.cells∧aJ w c.S (.arr ys.length N) ys I∧(ys= []∨ ∃b off,a=some ⟨b,off,none⟩∧aY w b off I):=by
 by_cases hs:N.scalar=true
 ·rw[if_pos hs] at ha;have hv:=aCf hg hx ha;obtain⟨a,len,cap,rfl,J⟩:=vR (c:=⟨xG c h,c.hd,c.n,c.bl⟩) hv;obtain⟨U,_,Y,hr,hor⟩:=J.flat;obtain⟨rfl,hle,_,_⟩:=J;exact⟨a,cap,U.flatten,rfl,hle,Y,aJ.scalar _ _ _ (by grind[Ty.scalar]) hr,hor⟩
 ·rw[if_neg hs] at ha;have hv:=nD hg hx ha;obtain⟨a,len,cap,rfl,J⟩:=vR (c:=c) hv;obtain⟨U,_,Y,hr,hor⟩:=J.flat;obtain⟨rfl,hle,_,_⟩:=J;grind
theorem aAR{t ty e:TypeId}{i:TypeInfo}(ht:P.underlying t=some (.slice e))(hi:P.info? e=some i){v:Value}{n:Nat}{xs:List Value}(I:w.ownsRow 0 e i.size v n xs){a:Option Addr}{cap:Nat}(N:0≤cap) :
  (Builtin.append_ #[t,t] ty #[v,.slice a 0 cap]).run P w= .ok v w:=by
 rcases I.2 with⟨rfl,rfl⟩|⟨g,cp,U,rfl,_,hg,J,Y,hcs,htake⟩
 ·cases a<;>simp[Builtin.append_,run_underlying ht,sizeOf,typeInfo,hi,Builtin.lenOf,Builtin.firstCells,loadCells,loadCellsFrom]
 ·cases a<;>simp[Builtin.append_,run_underlying ht,sizeOf,typeInfo,hi,Builtin.lenOf,Builtin.firstCells,loadCells,loadCellsFrom,J,storeCells]
theorem kW{v:Value}(h:∃a n m,v= .slice a n m):aH v=v.ownBlock:=by
 obtain⟨a,n,m,rfl⟩:=h;cases a<;>rfl
theorem fC{B:Nat}{e:TypeId}{sz:Nat}{v:Value}{n:Nat}{xs:List Value}(h:w.ownsRow B e sz v n xs):∃a n m,v= .slice a n m:=by
 rcases h.2 with⟨rfl,_⟩|⟨g,J,I,rfl,_⟩
 all_goals simp_all
theorem aIg(hE:dB P E){t ty:TypeId}{ct:Ty}(ht:E.T t=some (.sl ct))(hok:ct.okB=true){sv xv:Value}{xs ys:List ct.den}(hS:True)
  (hrow:uD c w (E.el t) ct xs sv) {a:Option Addr} {cap:Nat} {I:List Value} (hxv:xv= .slice a ys.length cap) (hnl:I.length=ys.length*ct.cells) (hnr:aJ w c.S (.arr ys.length ct) ys I) (hor:ys= []∨ ∃b off,a=some ⟨b,off,none⟩∧aY w b off I)
  (hb:bound ct (xs.length+ys.length)) (hSb:∀b,c.S b→b<w.heap.size∧aH sv≠some b) :
  ∃v' w',(Builtin.append_ #[t,t] ty #[sv,xv]).run P w= .ok v' w'∧w.grownBy w' (aH sv)∧uD c w' (E.el t) ct (xs++ys) v'∧(∀b,aH v'=some b→aH sv=some b∨(w.heap.size≤b∧b<w'.heap.size))∧ ∃a n m,v'= .slice a n m:=by
 have hd:=hE.el t ct ht;obtain⟨e',hd',hTe',hpos⟩:=cO (hE.T _ _ ht);have:e'=E.el t:=by simp_all
 subst this;have hTe:=hE.T _ _ hTe';obtain⟨i,hi,hsz,hz,hby⟩:=hTe.info;obtain⟨U,J,hrep⟩:=hrow;rw[← hsz] at J;subst hxv;rcases hor with rfl|⟨b,off,rfl,hcell⟩
 ·have Y:=aAR (P:=P) (ty:=ty) hd hi J (a:=a) (cap:=cap) (Nat.zero_le _);refine⟨sv,w,Y,⟨rfl,rfl,rfl,Nat.le_refl _,fun _ _ _=>rfl⟩,?_,fun b hb=>.inl hb,fC J⟩;rw[List.append_nil];exact⟨U,by simp_all,hrep⟩
 ·have hone:∀u∈I,u.oneCell'=true:=fun u hu=>by
   have:=aJ.one _ _ _ hnr u hu;cases u<;>first|rfl|exact this.elim
  obtain⟨v',w',Y,hown',hgr,_,N⟩:=run_append_own_at (P:=P) w 0 t ty (E.el t) i (fU ct) ct.cells i.bytes hd hi (hz hok) hsz rfl (by grind[oX,fB]) hpos sv xs.length U (by simp_all)
   ⟨b,off,none⟩ ys.length cap I hnl (fun j u hj=>by rw[lK]; exact hcell j u hj) hone hb.1 (Nat.le_trans (Nat.mul_le_mul_left _ hby) hb.2) (Nat.zero_le _)
  have hsl:=fC J;have hsl':=fC hown';rw[← kW hsl] at hgr N;rw[← kW hsl'] at N;have hsame:pZ c.S w w':=fun b hb=>hgr.block b (hSb b hb).1 (fun e=>(hSb b hb).2 e.symm);refine⟨v',w',Y,hgr,?_,fun b hb=>?_,hsl'⟩
  ·have:=aDc hrep hnr;exact⟨U++I,by simp_all,aJ.keep (fun _ h=>h) hsame _ _ _ this⟩
  ·rcases N with N|N
   ·simp_all
   ·right
    rw[N] at hb;cases hb;refine⟨Nat.le_refl _,?_⟩;rcases hown'.2 with⟨rfl,_⟩|⟨g,cp,cur,rfl,_,hheap,_⟩
    all_goals grind[aH,Array.getElem?_eq_some_iff]
theorem wI{v':Value}(h:∃a n m,v'= .slice a n m){w':World}{S':Nat→Prop}:aG (c.pushS S' v') w' (.own c.n) v':=by
 obtain⟨a,n,m,rfl⟩:=h;refine⟨⟨Nat.lt_succ_self c.n,?_,?_⟩,(fun h=>by cases h),(fun _ I=>by simp)⟩
 ·show [Value.slice a n m]= [if c.n=c.n then Value.slice a n m else c.hd c.n];simp_all
 ·show one (if c.n=c.n then Value.slice a n m else c.hd c.n);rw[if_pos rfl]; trivial
theorem aS0(hE:dB P E)(U:Good M w0 c h w){t ty:TypeId}{s x:AV}{sv xv:Value}(hs:aG c w s sv)(hx:aG c w x xv)(hc:(mJ E h t s x).1) :
  ∃v' w' c',(Builtin.append_ #[t,t] ty #[sv,xv]).run P w= .ok v' w'∧bW c w c' w'∧Good M w0 c' (mJ E h t s x).2.2 w'∧aG c' w' (mJ E h t s x).2.1 v':=by
 unfold mJ at hc ⊢;split at hc
 ·rename_i ct ht;split at hc
  ·rename_i ys hys;(try simp only[hys]);obtain⟨a,cap,news,hxv,hcap,hnl,hnr,hor⟩:=aZG U hx hys;split at hc
   ·
    obtain⟨hb,hok⟩:=hc;have Y:sv= .slice none 0 0:=by
     obtain⟨h1,_,h3⟩:=hs;have h3:=h3 rfl;simp_all[aE,Value.cells]
    subst Y;obtain⟨v',w',J,I,N,hbl,hsl⟩:=aIg (c:=c) (w:=w) (P:=P) (ty:=ty) (xs:=[]) hE ht hok trivial (sv:=.slice none 0 0) ⟨[],⟨by simp,.inl ⟨rfl,rfl⟩⟩,⟨rfl,[],rfl,rfl,fun i h=>by simp at h⟩⟩ hxv hnl hnr hor (by simp_all) (fun b hb=>⟨U.sfin b hb,by simp[aH]⟩);have hk:bG nothing w w':=⟨I.os,I.tape,I.output,I.size,fun b hb _=>I.block b hb (by simp[aH])⟩;have:=U.push hk (o:=.row (E.el t) ct ys) (hv:=v') (by
     show uD _ _ _ _ _ _;have e:(c.push v').hd c.n=v':=(by simp[Ctx.push]);rw[e];exact N) (fun b hb=>by
     simp_all[Ctx.push,cM,aH])
    refine⟨v',w',_,J,this.2,this.1,?_⟩;have:=wI (c:=c) hsl (w':=w') (S':=c.S);rw[← U.n];exact this
   ·rename_i i;split at hc
    ·rename_i e c' xs ho;split at hc
     ·rename_i xs' hcast;obtain⟨rfl,rfl⟩:=wH hcast;obtain⟨rfl,hb,hok⟩:=hc;have Y:=(sO hs).2;have hrow0:uD c w (E.el t) _ _ (c.hd i):=U.objs i _ ho;subst Y;obtain⟨v',w',J,I,N,hbl,hsl⟩:=aIg (c:=c) (w:=w) (P:=P) (ty:=ty) hE ht hok trivial hrow0 hxv hnl hnr hor hb (fun b hb=>⟨U.sfin b hb,fun e=>(U.own i _ b ho e).2.2 hb⟩);have:=U.regrow ho I N hbl;refine⟨v',w',_,J,this.2,this.1,?_⟩;have:=wI (c:=c) hsl (w':=w') (S':=c.S);rw[← U.n];exact this
     simp_all
    simp_all
   simp_all
  simp_all
 simp_all
theorem aXo(hE:dB P E)(hg:Good M w0 c h w){t:TypeId}{l cp:AV}{lv cv:Value}(hl:aG c w l lv)(hcp:aG c w cp cv)(hc:(aE7 E h t l cp).1) :
  ∃v' w' c',(Instr.makeSlice t lv cv).run P w= .ok v' w'∧bW c w c' w'∧Good M w0 c' (aE7 E h t l cp).2.2 w'∧aG c' w' (aE7 E h t l cp).2.1 v':=by
 unfold aE7 at hc ⊢;split at hc
 ·rename_i I ht;split at hc
  ·rename_i n m hn hm;obtain⟨J,h0,h1,h2,h3⟩:=hc;obtain⟨k1,rfl⟩:=qH hl hn;obtain⟨k2,rfl⟩:=qH hcp hm;have hd:=hE.el t I ht;obtain⟨e',hd',U,hpos⟩:=cO (hE.T _ _ ht);have:e'=E.el t:=(by simp_all);subst this;obtain⟨i,hi,N,hz,hby⟩:=(hE.T _ _ U).info;have hbytes:(i.bytes:Int)*m≤281474976710656:=by
    have:(i.bytes:Int)*m≤(I.byt:Int)*m:=Int.mul_le_mul_of_nonneg_right (by omega) (by omega);omega
   have Y:=run_make (P:=P) w t (E.el t) i (fU I) hd hi (hz J) k1 k2 n m h0 h1 hbytes (by grind[maxLen]);have hk:bG nothing w (w.alloc (.cells (madeCells (fU I).cells (m.toNat*i.size)) (E.el t) (0,0))):=bG.alloc nothing w _;have hrow:uD c (w.alloc (.cells (madeCells (fU I).cells (m.toNat*i.size)) (E.el t) (0,0))) (E.el t) I (List.replicate n.toNat I.zero) (.slice (some ⟨w.heap.size,0,none⟩) n.toNat m.toNat):=by
    have hcells:(madeCells (fU I).cells (m.toNat*i.size)).toList=(List.replicate m.toNat (bH I)).flatten:=by
     rw[N,oX J,← fB J];exact oL _ _ (by grind[fB])
    have hsplit:(List.replicate m.toNat (bH I)).flatten=(List.replicate n.toNat (bH I)).flatten++(List.replicate (m.toNat-n.toNat) (bH I)).flatten:=by
     grind[List.flatten_append,List.replicate_append_replicate]
    have hlen:(List.replicate n.toNat (bH I)).flatten.length=n.toNat*I.cells:=(by simp[fB J]);refine⟨(List.replicate n.toNat (bH I)).flatten,⟨by simp_all,.inr ⟨w.heap.size,m.toNat,_,by simp,Nat.zero_le _,sE w _,by grind,by omega,by rw[size_madeCells,N],?_⟩⟩,?_⟩
    ·simp_all
    ·have:=cR (w.alloc (.cells (madeCells (fU I).cells (m.toNat*i.size)) (E.el t) (0,0))) c.S (.arr n.toNat I) J;rw[List.length_replicate];exact this
   have:=hg.push hk (o:=.row (E.el t) I (List.replicate n.toNat I.zero)) (hv:=.slice (some ⟨w.heap.size,0,none⟩) n.toNat m.toNat) (by
    show uD _ _ _ _ _ _;have e:(c.push (.slice (some ⟨w.heap.size,0,none⟩) n.toNat m.toNat)).hd c.n= .slice (some ⟨w.heap.size,0,none⟩) n.toNat m.toNat:=(by simp[Ctx.push]);rw[e];exact hrow) (fun b hb=>by
    have e:(c.push (.slice (some ⟨w.heap.size,0,none⟩) n.toNat m.toNat)).hd c.n= .slice (some ⟨w.heap.size,0,none⟩) n.toNat m.toNat:=(by simp[Ctx.push]);simp_all[cM,aH,Option.some.injEq,Nat.le_refl])
   refine⟨_,_,_,Y,this.2,this.1,?_⟩;have:=wI (c:=c) (v':=.slice (some ⟨w.heap.size,0,none⟩) n.toNat m.toNat) ⟨_,_,_,rfl⟩ (w':=w.alloc (.cells (madeCells (fU I).cells (m.toNat*i.size)) (E.el t) (0,0))) (S':=c.S);rw[← hg.n];exact this
  simp_all
 simp_all
theorem aDZ{c:Ctx}{w:World}{I:Ty}(J:I.okB=true):aE c w (aBd I) (fU I).cells.toList∧(aBd I).solid=true∧(aBd I).nc=I.cells∧aG c w (aBd I) (fU I):=by
 unfold aBd;cases h:aHU I with
 | false =>
  cases N:aHT I with
  | true =>
   obtain⟨b,rfl⟩:=aT2 N;have hc:aE c w .nilS (fU (.sl b)).cells.toList:=rfl;exact⟨hc,rfl,rfl,hc,(fun h=>by cases h),fun _ U=>by simp[fU,bH,Ty.isAgg]⟩
  | false =>
   have:=aG.ofV (aBe w c.S I J);exact⟨this.1,rfl,rfl,this⟩
 | true =>
  obtain⟨b,rfl⟩:=aNz h;have hc:aE c w (.agg [.nilP,.nilS]) (fU (.pair .nilp (.pair (.sl b) .unit))).cells.toList:=by
   simp only[aE];exact⟨[.pointer none],[.slice none 0 0],rfl,rfl,[.slice none 0 0],[],rfl,rfl,rfl⟩
  refine⟨hc,rfl,rfl,hc,fun _=>⟨_,rfl⟩,(fun h=>by cases h)⟩
theorem aE8(J:Good M w0 c h w){t:TypeId}{x:AV}{v:Value}{n:Nat}(hn:aW8 n x.nc t)(Y:x.solid=true)(hx:aG c w x v) :
  ∃w' c',(newVar t v).run P w= .ok ⟨w.heap.size,0,none⟩ w'∧bW c w c' w'∧Good M w0 c' (h++ [.box n x]) w'∧aG c' w' (.ptr h.length []) (.pointer (some ⟨w.heap.size,0,none⟩)):=by
 have I:mH c w x v:=by cases x<;>first|exact hx|grind[AV.solid,AV.solid1]
 have U:=aHZ Y I.1;have N:bG nothing w (w.alloc (.cells v.cells t (0,0))):=bG.alloc nothing w _;have e:(c.push (.pointer (some ⟨w.heap.size,0,none⟩))).hd c.n= .pointer (some ⟨w.heap.size,0,none⟩):=by simp[Ctx.push]
 have:=J.push N (o:=.box n x) (hv:=.pointer (some ⟨w.heap.size,0,none⟩)) (by
  refine⟨w.heap.size,v.cells,t,e,sE w _,by simp_all,?_⟩;exact aE.keep (c.le_push _) (fun b hb=>N.block b (J.sfin b hb) (fun f=>f)) _ _ I.1) (fun b hb=>by
  simp_all[cM,aH,Option.some.injEq,Nat.le_refl])
 refine⟨_,_,by rfl,this.2,this.1,?_⟩;rw[← J.n];refine⟨⟨Nat.lt_succ_self c.n,w.heap.size,by rw[e]; rfl,rfl⟩,(fun h=>by cases h),(fun _ cs=>by simp)⟩
theorem aP4{G:Nat→AV}{Γ:FuncId→List AV→Option aF}{f:FuncId}{vs:List AV}{xs:Array Value}(hΓ:∀sp,Γ f vs=some sp→FOK P G f sp)(J:Good M w0 c h w)(hG:jM G c.S w)(hl:xs.size=vs.length)
  (hv:∀i (h1:i<vs.length) (h2:i<xs.size),aG c w vs[i] xs[i]) (hc:(aCi Γ h f vs).1) :
  Calls P f xs w fun e w'=>∃v c',e= .returned v∧bW c w c' w'∧Good M w0 c' (aCi Γ h f vs).2.2 w'∧aG c' w' (aCi Γ h f vs).2.1 v:=by
 unfold aCi at hc ⊢;split at hc
 ·rename_i sp hf;split at hc
  ·rename_i a e t pre fn;split at hc
   ·rename_i x ha;have hl':xs.toList.length=vs.length:=(by omega);have hv':∀i (h1:i<vs.length) (h2:i<xs.toList.length),aG c w vs[i] xs.toList[i]:=fun i h1 h2=>by
     simp_all
    have key:∃U:Nat→Prop,(∀b,U b→b<w.heap.size)∧jM G U w∧jL w U a x xs.toList∧(t.scalar=true∨ ∀b,U b→c.S b):=by
     by_cases hs:t.scalar=true
     ·rw[if_pos hs] at ha;exact⟨xG c h,aNJ J,hG.mono (fun b hb=>.inl hb) (.refl _ _),aLH J _ _ _ _ ha hl' hv',.inl hs⟩
     ·rw[if_neg hs] at ha;exact⟨c.S,J.sfin,hG,aBl J ha hl' hv',.inr fun b hb=>hb⟩
    obtain⟨U,k1,k2,k3,k4⟩:=key;refine(hΓ _ hf w U xs x k1 k2 k3 hc).mono ?_;rintro ex w' ⟨v,rfl,hk,Y,I,hrep⟩;have hsl:=fC I;have e1:(c.pushS (fun b=>c.S b∨(w.heap.size≤b∧b<w'.heap.size∧aH v≠some b)) v).hd c.n=v:=(by simp[Ctx.pushS]);have:=J.pushS hk (S':=fun b=>c.S b∨(w.heap.size≤b∧b<w'.heap.size∧aH v≠some b)) (fun b hb=>.inl hb) (fun b hb=>hb.imp id fun hb=>⟨hb.1,hb.2.1⟩) (o:=.row e t (fn x)) (hv:=v) (by
     show uD _ _ _ _ _ _;rw[e1];refine⟨Y,?_,?_⟩
     ·exact⟨I.1,I.2.imp id fun⟨g,cap,cur,h1,h2,h3⟩=>⟨g,cap,cur,h1,Nat.zero_le _,h3⟩⟩
     ·rcases k4 with hs|N
      ·grind[aJ.scalar,Ty.scalar]
      ·exact aJ.keep (fun b hb=>hb.imp (N b) id) (.refl _ _) _ _ _ hrep) (fun b hb=>by
     simp only[cM,e1] at hb;rcases I.2 with⟨rfl,_⟩|⟨g,cap,cur,rfl,hBg,hheap,_⟩
     ·cases hb
     ·simp[aH] at hb;subst hb;have hlt:=(Array.getElem?_eq_some_iff.1 hheap).1;refine⟨hBg,hlt,fun N=>?_⟩;rcases N with N|N
      ·have:=J.sfin _ N; omega
      ·exact N.2.2 rfl)
    refine⟨v,_,rfl,this.2,this.1,?_⟩;have:=wI (c:=c) hsl (w':=w') (S':=fun b=>c.S b∨(w.heap.size≤b∧b<w'.heap.size∧aH v≠some b));rw[← J.n];omega
   simp_all
  simp_all
 simp_all
end
end Go.Vc
namespace Go.Vc
open Go.RowKit
section
variable {P:Program} {E:Env} {T:Tab} {M:Perm} {w0:World} {c:Ctx} {h:List Obj} {w:World}
theorem aIh(I:List Value)(n:Nat)(J:0<I.length):(Builtin.zeroCells I.toArray n).toList=(List.replicate n I).flatten:=by
 grind[oL,Builtin.zeroCells]
theorem aGR(w:World)(base:Nat)(t tx ty e:TypeId)(k:IntKind)(i:TypeInfo)(z:Value)(size bytes:Nat)(ht:P.underlying t=some (.slice e))(hx:P.underlying tx=some (.int k))(hi:P.info? e=some i)(hz:i.zero=some z)
  (hsize:i.size=size) (hby:i.bytes=bytes) (hzs:z.cells.size=size) (hsz:0<size)
  (v:Value) (n:Nat) (xs:List Value) (U:w.ownsRow base e size v n xs)
  (k':IntKind) (m:Nat) (I:List Value) (hnews:I=(Builtin.zeroCells z.cells m).toList) (h1:∀u∈I,u.oneCell'=true)
  (h63:n+m≤maxLen) (hbytes:(n+m)*bytes≤140737488355328) (hbase:base≤w.heap.size) :
  ∃v' w',(Builtin.append_ #[t,tx] ty #[v,.int k' (m:Int)]).run P w= .ok v' w'∧w'.ownsRow base e size v' (n+m) (xs++I)∧w.grownBy w' v.ownBlock ∧
   (v'.ownBlock=v.ownBlock∨v'.ownBlock=some w.heap.size):=by
 subst hsize;subst hby;have hl:I.length=m*i.size:=by
  grind[Array.length_toList,size_zeroCells]
 have hna:(Builtin.zeroCells z.cells m)=I.toArray:=by grind
 have hsmall:n+m≤9223372036854775807:=by grind[maxLen]
 have hwrap:IntKind.i64.wrap (m:Int)=m:=by
  grind[IntKind.wrap,IntKind.signed,IntKind.bits]
 have Y:¬((m:Int)<0):=by omega
 have hmb:m*i.bytes≤(n+m)*i.bytes:=Nat.mul_le_mul_right _ (by omega);have J:¬(281474976710656<(m:Int)*(i.bytes:Int)):=by
  omega
 have hlen:(xs++I).length=(n+m)*i.size:=by rw[List.length_append,U.1,hl,Nat.add_mul]
 have grown:∀(old:Nat),old<n+m→ ∀(row:Option Nat),
   (w.drew.alloc (.cells (xs.toArray++I.toArray++Builtin.zeroCells z.cells (grownCap w (n+m) old e-(n+m))) e)).ownsRow base e i.size
    (.slice (some ⟨w.heap.size,0,none⟩) (n+m) (grownCap w (n+m) old e)) (n+m) (xs++I) ∧
   w.grownBy (w.drew.alloc (.cells (xs.toArray++I.toArray++Builtin.zeroCells z.cells (grownCap w (n+m) old e-(n+m))) e)) row:=by
  intro old ho row;have hge:=grownCap_ge w (n+m) old e;have hcm:grownCap w (n+m) old e≤maxLen:=grownCap_le_maxLen w (n+m) old e h63;refine⟨⟨hlen,.inr ⟨w.heap.size,_,_,rfl,hbase,heap_alloc_new w.drew _,hge,hcm,?_,?_⟩⟩,⟨rfl,rfl,rfl,by simp,fun k hk _=>Go.heap_alloc_old w.drew _ hk⟩⟩
  ·simp only[Array.size_append,List.size_toArray,size_zeroCells,hzs,U.1,hl,← Nat.add_mul];simp_all
  grind
 rcases U.2 with⟨rfl,rfl⟩|⟨g,N,cur,rfl,hbg,hg,hnc,hcm,hcs,htake⟩
 ·have hx0:xs= []:=List.eq_nil_of_length_eq_zero (by simp_all);subst hx0;by_cases hm:m=0
  ·subst hm;have hn:I= []:=List.eq_nil_of_length_eq_zero (by omega);subst hn;refine⟨.slice none 0 0,w,?_,World.ownsRow_nil w base e i.size,⟨rfl,rfl,rfl,Nat.le_refl _,fun _ _ _=>rfl⟩,Or.inl rfl⟩;have hw0:IntKind.i64.wrap 0=0:=(by decide);simp[Builtin.append_,run_underlying ht,run_underlying hx,sizeOf,typeInfo,hi,asInt,asIntOf,hw0]
  ·have h48':¬(281474976710656<Builtin.nextslicecap m 0*i.bytes):=(by rw[nextslicecap_zero (by omega)]; omega);have hms:¬(m*i.size=0):=by
    grind[Nat.mul_eq_zero]
   have h63':¬(9223372036854775807<(m:Int)):=(by omega);have hgr:=grown 0 (by omega) (Value.ownBlock (.slice none 0 0));simp only[Nat.zero_add,List.nil_append,Array.empty_append] at hgr ⊢;refine⟨_,_,?_,hgr.1,hgr.2,Or.inr rfl⟩;have hsz0:i.size≠0:=(by omega);simp[Builtin.append_,run_underlying ht,run_underlying hx,sizeOf,typeInfo,zeroValue,hi,hz,asInt,asIntOf,hwrap,Y,J,hm,h63',h48',hsz0,hms,Question.forced,run_firstCells_none,newRow,grownCap,hna]
 ·by_cases hroom:n+m≤N
  ·have hfit:n*i.size+I.length≤cur.size:=(by rw[hl,hcs,← Nat.add_mul]; exact Nat.mul_le_mul_right _ hroom);have hst:=run_storeCells_at P g (n*i.size) e I 0 cur w hg (by omega) h1;simp only[Nat.add_zero] at hst;refine⟨.slice (some ⟨g,0,none⟩) (n+m) N,w.setRow g (cur.toList.take (n*i.size)++I++cur.toList.drop (n*i.size+I.length)).toArray,?_,⟨hlen,.inr ⟨g,N,_,rfl,hbg,setRow_heap w g cur _ e _ hg,hroom,hcm,?_,?_⟩⟩,⟨rfl,rfl,rfl,by simp,fun k _ hk=>setRow_other w g k _ (fun e=>hk (by simp[Value.ownBlock,e]))⟩,Or.inl rfl⟩
   ·by_cases hm:m*i.size=0
    ·have hn:I= []:=List.eq_nil_of_length_eq_zero (by omega);subst hn;simp[Builtin.append_,run_underlying ht,run_underlying hx,sizeOf,typeInfo,zeroValue,hi,hz,asInt,asIntOf,hwrap,Y,J,hroom,hm,Addr.add_lit] at hst ⊢;simp[hst]
    ·have hm':¬(m=0∨i.size=0):=fun h=>hm (Nat.mul_eq_zero.2 h);simp[Builtin.append_,run_underlying ht,run_underlying hx,sizeOf,typeInfo,zeroValue,hi,hz,asInt,asIntOf,hwrap,Y,J,hroom,hm,hm',Addr.add_lit,hna,hst]
   all_goals grind
  ·have holds:∀j u,xs[j]? = some u→w.cell? ((⟨g,0,none⟩:Addr).add j)=some u:=U.cells (g:=g) rfl;have hfo:=run_firstCells_some (P:=P) w.drew i.size n ⟨g,0,none⟩ n N xs U.1 (by simp_all);have hm:¬(m*i.size=0):=by
    grind[Nat.mul_eq_zero]
   have hm':¬(m=0∨i.size=0):=fun h=>hm (Nat.mul_eq_zero.2 h);have h63':¬(9223372036854775807<((n:Int)+(m:Int))):=(by omega);have hgs:=growslice_fits (old:=N) (by omega:N<n+m) hbytes;have h48':¬(281474976710656<Builtin.nextslicecap (n+m) N*i.bytes):=(by omega);have hgr:=grown N (by omega) (Value.ownBlock (.slice (some ⟨g,0,none⟩) n N));refine⟨_,_,?_,hgr.1,hgr.2,Or.inr rfl⟩;simp[Builtin.append_,run_underlying ht,run_underlying hx,sizeOf,typeInfo,zeroValue,hi,hz,asInt,asIntOf,hwrap,Y,J,hroom,hm,hm',h63',h48',Question.forced,hfo,newRow,grownCap,hna];grind
theorem aXp{t:TypeId}{k:IntKind}(I:uT P E.T t (.i k)):P.underlying t=some (.int k):=by
 obtain⟨d,hd,hb⟩:=I.desc;cases d<;>simp[dM] at hb
 simp_all
def aCj(E:Env)(h:List Obj)(t:TypeId)(s x:AV):Prop×AV×List Obj :=
 match E.T t with
 | some (.sl I)=>match tL x with
  | some n=>match s with
   | .nilS=>(0≤n∧bound I n.toNat∧I.okB=true,.own h.length,h++ [.row (E.el t) I (List.replicate n.toNat I.zero)])
   | .own i=>match h[i]? with
    | some (.row e c' J)=>match uN c' I J with
     | some J=>(e=E.el t∧0≤n∧bound I (J.length+n.toNat)∧I.okB=true,.own h.length,h.set i .dead++ [.row (E.el t) I (J++List.replicate n.toNat I.zero)])
     | none=>(False,.junk,h)
    | _=>(False,.junk,h)
   | _=>(False,.junk,h)
  | none=>(False,.junk,h)
 | _=>(False,.junk,h)
theorem aGd(hE:dB P E){t tx ty:TypeId}{I:Ty}(ht:E.T t=some (.sl I)){k:IntKind}(htx:P.underlying tx=some (.int k))(hok:I.okB=true){sv:Value}{xs:List I.den}
  (hrow:uD c w (E.el t) I xs sv) {k':IntKind} {m:Nat}
  (hb:bound I (xs.length+m)) (hSb:∀b,c.S b→b<w.heap.size∧aH sv≠some b) :
  ∃v' w',(Builtin.append_ #[t,tx] ty #[sv,.int k' (m:Int)]).run P w= .ok v' w'∧w.grownBy w' (aH sv)∧uD c w' (E.el t) I (xs++List.replicate m I.zero) v'∧(∀b,aH v'=some b→aH sv=some b∨(w.heap.size≤b∧b<w'.heap.size))∧ ∃a n m,v'= .slice a n m:=by
 have hd:=hE.el t I ht;obtain⟨e',hd',hTe',hpos⟩:=cO (hE.T _ _ ht);have:e'=E.el t:=by simp_all
 subst this;have hTe:=hE.T _ _ hTe';obtain⟨i,hi,hsz,hz,hby⟩:=hTe.info;obtain⟨Y,U,hrep⟩:=hrow;rw[← hsz] at U;have hzl:=fB hok;have hnews:(List.replicate m (bH I)).flatten=(Builtin.zeroCells (fU I).cells m).toList:=by
  grind[oX,aIh]
 have hnr:aJ w c.S (.arr m I) (List.replicate m I.zero) (List.replicate m (bH I)).flatten:=cR w c.S (.arr m I) hok;have hone:∀u∈(List.replicate m (bH I)).flatten,u.oneCell'=true:=fun u hu=>by
  have:=aJ.one _ _ _ hnr u hu;cases u<;>first|rfl|exact this.elim
 obtain⟨v',w',hrun,J,hgr,N⟩:=aGR (P:=P) w 0 t tx ty (E.el t) k i (fU I) I.cells i.bytes hd htx hi (hz hok) hsz rfl (by grind[oX]) hpos sv xs.length Y (by simp_all)
  k' m _ hnews hone hb.1 (Nat.le_trans (Nat.mul_le_mul_left _ hby) hb.2) (Nat.zero_le _)
 have hsl:=fC U;have hsl':=fC J;rw[← kW hsl] at hgr N;rw[← kW hsl'] at N;have hsame:pZ c.S w w':=fun b hb=>hgr.block b (hSb b hb).1 (fun e=>(hSb b hb).2 e.symm);refine⟨v',w',hrun,hgr,?_,fun b hb=>?_,hsl'⟩
 ·have hnr':aJ w c.S (.arr (List.replicate m I.zero).length I) (List.replicate m I.zero) (List.replicate m (bH I)).flatten:=by
   grind
  have:=aDc hrep hnr';exact⟨Y++_,by simpa using J,aJ.keep (fun _ h=>h) hsame _ _ _ (by omega)⟩
 ·rcases N with N|N
  ·simp_all
  ·right
   rw[N] at hb;cases hb;refine⟨Nat.le_refl _,?_⟩;rcases J.2 with⟨rfl,_⟩|⟨g,cp,cur,rfl,_,hheap,_⟩
   all_goals grind[aH,Array.getElem?_eq_some_iff]
theorem aP5(hE:dB P E)(U:Good M w0 c h w){t tx ty:TypeId}{k:IntKind}(htx:P.underlying tx=some (.int k)){s x:AV}{sv xv:Value}(hs:aG c w s sv)(hx:aG c w x xv)(hc:(aCj E h t s x).1) :
  ∃v' w' c',(Builtin.append_ #[t,tx] ty #[sv,xv]).run P w= .ok v' w'∧bW c w c' w'∧Good M w0 c' (aCj E h t s x).2.2 w'∧aG c' w' (aCj E h t s x).2.1 v':=by
 unfold aCj at hc ⊢;split at hc
 ·rename_i ct ht;split at hc
  ·rename_i n hn;obtain⟨k',rfl⟩:=qH hx hn;split at hc
   ·
    obtain⟨h0,hb,hok⟩:=hc;obtain⟨m,rfl⟩:=Int.eq_ofNat_of_zero_le h0;have Y:sv= .slice none 0 0:=by
     obtain⟨h1,_,h3⟩:=hs;have h3:=h3 rfl;simp_all[aE,Value.cells]
    subst Y;simp only[Int.toNat_natCast] at hb ⊢;obtain⟨v',w',N,I,J,hbl,hsl⟩:=aGd (c:=c) (w:=w) (P:=P) (ty:=ty) (xs:=[]) (k':=k') (m:=m) hE ht htx hok (sv:=.slice none 0 0) ⟨[],⟨by simp,.inl ⟨rfl,rfl⟩⟩,⟨rfl,[],rfl,rfl,fun i h=>by simp at h⟩⟩ (by simp_all) (fun b hb=>⟨U.sfin b hb,by simp[aH]⟩);rw[List.nil_append] at J;have hk:bG nothing w w':=⟨I.os,I.tape,I.output,I.size,fun b hb _=>I.block b hb (by simp[aH])⟩;have:=U.push hk (o:=.row (E.el t) ct (List.replicate m ct.zero)) (hv:=v') (by
     show uD _ _ _ _ _ _;have e:(c.push v').hd c.n=v':=(by simp[Ctx.push]);rw[e];exact J) (fun b hb=>by
     simp_all[Ctx.push,cM,aH])
    refine⟨v',w',_,N,this.2,this.1,?_⟩;have:=wI (c:=c) hsl (w':=w') (S':=c.S);rw[← U.n];exact this
   ·rename_i i;split at hc
    ·rename_i e c' xs ho;split at hc
     ·rename_i xs' hcast;obtain⟨rfl,rfl⟩:=wH hcast;obtain⟨rfl,h0,hb,hok⟩:=hc;obtain⟨m,rfl⟩:=Int.eq_ofNat_of_zero_le h0;simp only[Int.toNat_natCast] at hb ⊢;have Y:=(sO hs).2;have hrow0:uD c w (E.el t) _ _ (c.hd i):=U.objs i _ ho;subst Y;obtain⟨v',w',N,I,J,hbl,hsl⟩:=aGd (c:=c) (w:=w) (P:=P) (ty:=ty) (k':=k') (m:=m) hE ht htx hok hrow0 hb (fun b hb=>⟨U.sfin b hb,fun e=>(U.own i _ b ho e).2.2 hb⟩);have:=U.regrow ho I J hbl;refine⟨v',w',_,N,this.2,this.1,?_⟩;have:=wI (c:=c) hsl (w':=w') (S':=c.S);rw[← U.n];exact this
     simp_all
    simp_all
   simp_all
  simp_all
 simp_all
end
end Go.Vc
namespace Go.Vc
open Go.RowKit
section
variable {P:Program} {E:Env} {T:Tab} {M:Perm} {w0:World} {c:Ctx} {h:List Obj} {w:World}
theorem aD0(w:World)(t u ty e:TypeId)(i:TypeInfo)(ht:P.underlying t=some (.slice e))(hu:P.underlying u=some .string)(hi:P.info? e=some i)(hz:i.zero=some (.int .u8 0))
  (hsize:i.size=1) (Y:i.bytes=1) (v:Value) (n:Nat) (xs:List Value) (J:w.ownsRow 0 e 1 v n xs) (s:ByteArray)
  (h63:n+s.size≤maxLen) (hbytes:n+s.size≤140737488355328) :
  ∃v' w',(Builtin.append_ #[t,u] ty #[v,.string s]).run P w= .ok v' w'∧w'.ownsRow 0 e 1 v' (n+s.size) (xs++Lib.strCells s)∧w.grownBy w' v.ownBlock∧(v'.ownBlock=v.ownBlock∨v'.ownBlock=some w.heap.size):=by
 obtain⟨v',w',hr,h2,h3,_⟩:=Lib.run_append_own_string (P:=P) w 0 t u ty e i ht hu hi hz hsize Y v n xs J s h63 hbytes (Nat.zero_le _);refine⟨v',w',hr,h2,h3,?_⟩;have hsmall:n+s.size≤9223372036854775807:=by omega
 have hxl:xs.length=n:=by simpa using J.1
 rcases J.2 with⟨rfl,rfl⟩|⟨g,N,U,rfl,hbg,hg,hnc,hcm,hcs,htake⟩
 ·by_cases hm:s.size=0
  ·simp_all
  ·have I:=run_append_nil_string (P:=P) w t u ty e i (.int .u8 0) ht hu hi hz s (by omega) (by omega) (by grind);rw[hr] at I
   injection I with q1 q2
   rw[q1]; exact .inr rfl
 ·by_cases hroom:n+s.size≤N
  ·have hcs':U.size=N:=(by omega);have I:=Lib.run_append_room_string (P:=P) w t u ty e i ht hu hi hsize g n N U hg s hroom (by omega);rw[hr] at I
   injection I with q1 q2
   rw[q1]; exact .inl rfl
  ·have holds:∀j u,xs[j]? = some u→w.cell? ((⟨g,0,none⟩:Addr).add j)=some u:=J.cells (g:=g) rfl;have I:=Lib.run_append_grow_string (P:=P) w t u ty e i (.int .u8 0) ht hu hi hz ⟨g,0,none⟩ n N xs (by simp_all) holds s (by omega) (by omega) (by rw[Y]; exact growslice_fits (by omega) (by omega));rw[hr] at I
   injection I with q1 q2
   rw[q1]; exact .inr rfl
def isStr:Option Ty→Bool
 | some .str=>true
 | _=>false
def aCk(E:Env)(h:List Obj)(t:TypeId)(s x:AV):Prop×AV×List Obj :=
 match E.T t with
 | some (.sl (.u .u8))=>match x with
  | .val .str b=>match s with
   | .nilS=>(bound (.u .u8) b.length,.own h.length,h++ [.row (E.el t) (.u .u8) b])
   | .own i=>match h[i]? with
    | some (.row e c' I)=>match uN c' (.u .u8) I with
     | some I=>(e=E.el t∧bound (.u .u8) (I.length+b.length),.own h.length,h.set i .dead++ [.row (E.el t) (.u .u8) (I++b)])
     | none=>(False,.junk,h)
    | _=>(False,.junk,h)
   | _=>(False,.junk,h)
  | _=>(False,.junk,h)
 | _=>(False,.junk,h)
theorem aLP{S:Nat→Prop}(s:ByteArray):aJ w S (.arr (eI s).length (.u .u8)) (eI s) (Lib.strCells s):=by
 refine⟨rfl,(eI s).map (fun (x:Nat)=>[Value.int .u8 (x:Int)]),?_,by simp,fun i U N=>?_⟩
 ·have I:∀l:List UInt8,(l.map fun b=>Value.int .u8 (b.toNat:Int))=((l.map (·.toNat)).map (fun (x:Nat)=>[Value.int .u8 (x:Int)])).flatten:=by
   intro l
   induction l with
   | nil=>rfl
   | cons a r J=>simp[J]
  exact I s.data.toList
 ·simp only[List.getElem_map];refine⟨rfl,rfl,?_⟩;have:(eI s)[i]=(s.data.toList[i]'(by grind[eI])).toNat:=by simp[eI]
  rw[this];generalize (s.data.toList[i]'(by grind))=q;have:=q.toNat_lt;grind[IntKind.max,IntKind.signed,IntKind.bits]
theorem aGe(hE:dB P E){t tx ty:TypeId}(ht:E.T t=some (.sl (.u .u8)))(htx:P.underlying tx=some .string){sv:Value}{xs:List Nat}
  (hrow:uD c w (E.el t) (.u .u8) xs sv) {s:ByteArray} (hb:bound (.u .u8) (xs.length+(eI s).length)) (hSb:∀b,c.S b→b<w.heap.size∧aH sv≠some b) :
  ∃v' w',(Builtin.append_ #[t,tx] ty #[sv,.string s]).run P w= .ok v' w'∧w.grownBy w' (aH sv)∧uD c w' (E.el t) (.u .u8) (xs++eI s) v'∧(∀b,aH v'=some b→aH sv=some b∨(w.heap.size≤b∧b<w'.heap.size))∧ ∃a n m,v'= .slice a n m:=by
 have hd:=hE.el t _ ht;obtain⟨e',hd',hTe',hpos⟩:=cO (hE.T _ _ ht);have:e'=E.el t:=by simp_all
 subst this;have hTe:=hE.T _ _ hTe';obtain⟨i,hi,hsz,hz,hby⟩:=hTe.info;obtain⟨U,N,hrep⟩:=hrow;have hsl0:(eI s).length=s.size:=jN s;rw[hsl0] at hb;have hb1:i.bytes=1:=hTe.byte rfl i hi;obtain⟨v',w',hrun,I,hgr,J⟩:=aD0 (P:=P) w t tx ty (E.el t) i hd htx hi (hz rfl) hsz hb1 sv xs.length U N s hb.1 (by have:=hb.2; grind[Ty.byt,IntKind.bits]);have hsl:=fC N;have Y:=fC I;rw[← kW hsl] at hgr J;rw[← kW Y] at J;have hsame:pZ c.S w w':=fun b hb=>hgr.block b (hSb b hb).1 (fun e=>(hSb b hb).2 e.symm);refine⟨v',w',hrun,hgr,?_,fun b hb=>?_,Y⟩
 ·have:=aDc (t:=.u .u8) hrep (aLP (w:=w) (S:=c.S) s);exact⟨U++_,by simpa [hsl0,Ty.cells] using I,aJ.keep (fun _ h=>h) hsame _ _ _ (by omega)⟩
 ·rcases J with J|J
  ·simp_all
  ·right
   rw[J] at hb;cases hb;refine⟨Nat.le_refl _,?_⟩;rcases I.2 with⟨rfl,_⟩|⟨g,cp,cur,rfl,_,hheap,_⟩
   all_goals grind[aH,Array.getElem?_eq_some_iff]
theorem aP6(hE:dB P E)(U:Good M w0 c h w){t tx ty:TypeId}(htx:P.underlying tx=some .string){s x:AV}{sv xv:Value}(hs:aG c w s sv)(hx:aG c w x xv)(hc:(aCk E h t s x).1) :
  ∃v' w' c',(Builtin.append_ #[t,tx] ty #[sv,xv]).run P w= .ok v' w'∧bW c w c' w'∧Good M w0 c' (aCk E h t s x).2.2 w'∧aG c' w' (aCk E h t s x).2.1 v':=by
 unfold aCk at hc ⊢;split at hc
 ·rename_i ht;split at hc
  ·rename_i b;obtain⟨st,rfl,rfl,hm⟩:=aF6 hx;split at hc
   ·
    have Y:sv= .slice none 0 0:=by
     obtain⟨h1,_,h3⟩:=hs;have h3:=h3 rfl;simp_all[aE,Value.cells]
    subst Y;obtain⟨v',w',N,I,J,hbl,hsl⟩:=aGe (c:=c) (w:=w) (P:=P) (ty:=ty) (xs:=[]) (s:=st) hE ht htx (sv:=.slice none 0 0) ⟨[],⟨by simp,.inl ⟨rfl,rfl⟩⟩,⟨rfl,[],rfl,rfl,fun i h=>by simp at h⟩⟩ (by simp_all) (fun b hb=>⟨U.sfin b hb,by simp[aH]⟩);rw[List.nil_append] at J;have hk:bG nothing w w':=⟨I.os,I.tape,I.output,I.size,fun b hb _=>I.block b hb (by simp[aH])⟩;have:=U.push hk (o:=.row (E.el t) (.u .u8) (eI st)) (hv:=v') (by
     show uD _ _ _ _ _ _;have e:(c.push v').hd c.n=v':=(by simp[Ctx.push]);rw[e];exact J) (fun b hb=>by
     simp_all[Ctx.push,cM,aH])
    refine⟨v',w',_,N,this.2,this.1,?_⟩;have:=wI (c:=c) hsl (w':=w') (S':=c.S);rw[← U.n];exact this
   ·rename_i i;split at hc
    ·rename_i e c' xs ho;split at hc
     ·rename_i xs' hcast;obtain⟨rfl,rfl⟩:=wH hcast;obtain⟨rfl,hb⟩:=hc;have Y:=(sO hs).2;have hrow0:uD c w (E.el t) _ _ (c.hd i):=U.objs i _ ho;subst Y;obtain⟨v',w',N,I,J,hbl,hsl⟩:=aGe (c:=c) (w:=w) (P:=P) (ty:=ty) (s:=st) hE ht htx hrow0 hb (fun b hb=>⟨U.sfin b hb,fun e=>(U.own i _ b ho e).2.2 hb⟩);have:=U.regrow ho I J hbl;refine⟨v',w',_,N,this.2,this.1,?_⟩;have:=wI (c:=c) hsl (w':=w') (S':=c.S);rw[← U.n];exact this
     simp_all
    simp_all
   simp_all
  simp_all
 simp_all
end
end Go.Vc
namespace Go.Vc
open Go.RowKit
structure Fr where
 P:Program
 E:Env
 M:Perm
 w0:World
 nt:Nat
 ds:List Deferred
@[reducible] def fr(P:Program)(E:Env)(S:Nat→Prop)(w0:World)(nt:Nat):Fr:=⟨P,E,top S,w0,nt,[]⟩
structure oY(F:Fr):Prop where
 env:dB F.P F.E
 mix:F.P.follows .mixedOrders=true
def dQ(nt:Nat):Code→Bool
 | .region _ ops I=>ops.toList.all (dL nt)&&aAP ops.toList&&(!I||aLL ops.toList)
 | .seq a b=>dQ nt a&&dQ nt b
 | .cond c a b=>iL c&&dQ nt a&&dQ nt b
 | .block _ a=>dQ nt a
 | .loop a=>dQ nt a
 | .scope a=>dQ nt a
 | .rangeFunc _ _ _ _=>false
 | _=>true
abbrev St:=List (Nat×AV)
def At(F:Fr)(K:Act→World→Prop)(env:St)(h:List Obj):Prop:=∀c a w,Sim F.E F.M F.w0 F.nt F.ds c env h a w→K a w
def Tri(F:Fr)(c:Code)(Q:Exit→Act→World→Prop)(env:St)(h:List Obj):Prop:=dQ F.nt c=true→At F (c.wp F.P Q) env h
section
variable {F:Fr} {Q:Exit→Act→World→Prop} {env:St} {h:List Obj}
theorem dZ(hq:At F (Q .normal) env h):Tri F .skip Q env h:=fun _ c a w I=>wp_skip (hq c a w I)
theorem aS1{l:Nat}(hq:At F (Q .normal) env h):Tri F (.label l) Q env h:=fun _ c a w I=>wp_label (hq c a w I)
theorem lM{id:Nat}(hq:At F (Q (.exit id)) env h):Tri F (.exit id) Q env h:=fun _ c a w I=>wp_exit (hq c a w I)
theorem jO(hq:At F (Q .ret) env h):Tri F .ret Q env h:=fun _ c a w I=>wp_ret (hq c a w I)
def Next(F:Fr)(y:Code)(Q:Exit→Act→World→Prop)(a:Act)(w:World):Prop:=dQ F.nt y=true→y.wp F.P Q a w
theorem aK{x y:Code}(N:Tri F x (Exit.then (Next F y Q) Q) env h):Tri F (.seq x y) Q env h:=fun I c a w J=>by
 simp only[dQ,Bool.and_eq_true] at I;refine wp_seq (wp_mono (N I.1 c a w J) fun e U w' hq=>?_);cases e<;>first|exact hq|exact hq I.2
theorem aL{y:Code}(N:Tri F y Q env h):At F (Exit.then (Next F y Q) Q .normal) env h:=fun c a w J I=>N I c a w J
theorem bY{K:Act→World→Prop}(I:At F K env h):At F (Exit.then K Q .normal) env h:=I
theorem bO{K:Act→World→Prop}{id:Nat}(hq:At F (Q (.exit id)) env h):At F (Exit.then K Q (.exit id)) env h:=hq
theorem kX{K:Act→World→Prop}(hq:At F (Q .ret) env h):At F (Exit.then K Q .ret) env h:=hq
theorem nY{id:Nat}(hq:At F (Q .normal) env h):At F (Exit.inBlock id Q .normal) env h:=hq
theorem aAb{id:Nat}(hq:At F (Q .ret) env h):At F (Exit.inBlock id Q .ret) env h:=hq
theorem dA{id:Nat}(hq:At F (Q .normal) env h):At F (Exit.inBlock id Q (.exit id)) env h:=fun c a w I=>by
 simp only[Exit.inBlock,if_true]; exact hq c a w I
theorem cS{id I:Nat}(J:I≠id)(hq:At F (Q (.exit I)) env h):At F (Exit.inBlock id Q (.exit I)) env h:=fun c a w N=>by
 simp only[Exit.inBlock,J,if_false]; exact hq c a w N
theorem iM{id:Nat}{x:Code}(N:Tri F x (Exit.inBlock id Q) env h):Tri F (.block id x) Q env h:=fun J c a w I =>
 wp_block (N (by grind[dQ]) c a w I)
theorem cW{x y:Code}{o:Operand}{b:Bool}(hb:evA F.E.G env o= .val .bool b)(ht:b=true→Tri F x Q env h)(N:b=false→Tri F y Q env h):Tri F (.cond o x y) Q env h:=fun I c a w J=>by
 simp only[dQ,Bool.and_eq_true] at I;have hv:=wE (a:=a) J.env J.glob I.1.1;rw[hb] at hv;have hv:=yH hv;exact wp_cond_split hv (fun e=>ht e I.1.2 c a w J) (fun e=>N e I.2 c a w J)
def aZH(v:AV):Option Ent→AV
 | none=>v
 | some ⟨_,_,[],av⟩=>av
 | some _=>.junk
theorem aNU(acc:List Ent)(env:St)(t:Nat):look (fR acc env) t=aZH (look env t) (uM acc t):=by
 rw[aBu];cases uM acc t with
 | none=>rfl
 | some e=>obtain⟨i,d,gp,av⟩:=e; cases gp<;>rfl
def aJ2(keep:List Nat)(acc:List Ent)(env:St):St:=keep.map fun t=>(t,aZH (look env t) (uM acc t))
theorem aS2{c:Ctx}{w:World}{a:Act}(I:aA4 c w env a.tmps)(keep:List Nat):aA4 c w (keep.map fun t=>(t,look env t)) a.tmps:=fun t=>by
 have:look (keep.map fun t=>(t,look env t)) t=look env t∨look (keep.map fun t=>(t,look env t)) t= .junk:=by
  induction keep with
  | nil=>right; rfl
  | cons k r J =>
   simp only[List.map_cons,look];grind
 rcases this with e|e
 ·rw[e]; exact I t
 ·rw[e]; trivial
theorem Sim.keep{E:Env}{M:Perm}{w0:World}{nt:Nat}{ds:List Deferred}{c:Ctx}{a:Act}{w:World}(I:Sim E M w0 nt ds c env h a w)(keep:List Nat):Sim E M w0 nt ds c (keep.map fun t=>(t,look env t)) h a w :=
 ⟨I.good,I.glob,aS2 I.env keep,I.size,I.defers⟩
theorem aP(hF:oY F){id:Nat}{ops:Array Oper}{J:Bool}(keep:List Nat)(hv:vcA F.E h env ops.toList 0 [] (fun acc=>At F (Q .normal) (aJ2 keep acc env) h)):Tri F (.region id ops J) Q env h:=fun N c a w hs=>by
 simp only[dQ,Bool.and_eq_true,Bool.or_eq_true,Bool.not_eq_true'] at N;obtain⟨⟨h1,h2⟩,h3⟩:=N;have I:∀acc c' U w',At F (Q .normal) (aJ2 keep acc env) h→bW c w c' w'→c'.n=c.n→Sim F.E F.M F.w0 F.nt F.ds c' (fR acc env) h U w'→Q .normal U w':=fun acc c' U w' hk _ _ Y=>by
  have:=Y.keep keep;refine hk c' U w' ?_;grind[aJ2,look,fR,aNU]
 cases J with
 | false=>exact aNR (ops:=ops.toList) hF.env (List.all_eq_true.1 h1) h2 hs hv I
 | true=>exact aDX (ops:=ops.toList) hF.env hF.mix (List.all_eq_true.1 h1) h2 (h3.resolve_left (by simp)) hs hv I
theorem aNV{x:Code}{D:Type}(I:D→Prop)(Y:D→Nat)(J:D→St)(N:D→List Obj)(h0:At F (fun a w=>∃d c,I d∧Sim F.E F.M F.w0 F.nt F.ds c (J d) (N d) a w) env h)
  (round:∀d,I d→Tri F x (Exit.then (fun a' w'=>∃d' c',(I d'∧Y d'<Y d)∧Sim F.E F.M F.w0 F.nt F.ds c' (J d') (N d') a' w') Q) (J d) (N d)):Tri F (.loop x) Q env h:=fun hok c a w hs=>by
 classical
 have hok:dQ F.nt x=true:=by grind[dQ]
 let good:Act→World→Nat→Prop:=fun a w n=>∃d c,I d∧Sim F.E F.M F.w0 F.nt F.ds c (J d) (N d) a w∧Y d=n
 have hleast:∀a w,(∃d c,I d∧Sim F.E F.M F.w0 F.nt F.ds c (J d) (N d) a w)→ ∃n,good a w n∧ ∀m,good a w m→n≤m:=fun a w ⟨d,c,hi,hs⟩=>by
  have hex:∃n,good a w n:=⟨Y d,d,c,hi,hs,rfl⟩;obtain⟨n,hn⟩:=hex
  induction n using Nat.strongRecOn with
  | _ n ih =>
   by_cases hh:∃m,m<n∧good a w m
   ·obtain⟨m,hm,hg⟩:=hh; grind
   grind
 let ms:Act→World→Nat:=fun a w=>if hx:∃d c,I d∧Sim F.E F.M F.w0 F.nt F.ds c (J d) (N d) a w then Classical.choose (hleast a w hx) else 0
 have hms:∀a w (hx:∃d c,I d∧Sim F.E F.M F.w0 F.nt F.ds c (J d) (N d) a w),good a w (ms a w)∧ ∀m,good a w m→ms a w≤m:=fun a w hx=>by
  grind
 refine wp_loop (fun a w=>∃d c,I d∧Sim F.E F.M F.w0 F.nt F.ds c (J d) (N d) a w) ms (h0 c a w hs) fun a w hx=>?_;obtain⟨⟨d,c,hi,hs,hμ⟩,hmin⟩:=hms a w hx;refine wp_mono (round d hi hok c a w hs) fun e a' w' hq=>?_;cases e with
 | normal =>
  obtain⟨d',c',⟨hi',hlt⟩,hs'⟩:=hq;have U:∃d c,I d∧Sim F.E F.M F.w0 F.nt F.ds c (J d) (N d) a' w':=⟨d',c',hi',hs'⟩;refine⟨U,?_⟩;have:=(hms a' w' U).2 (Y d') ⟨d',c',hi',hs',rfl⟩;omega
 | _=>exact hq
theorem aNW{x y:Code}{D:Type}(J:D→Prop)(I:D→St)(hJ:D→List Obj)(hx:Tri F x (Exit.then (fun U w'=>∃d' c',J d'∧Sim F.E F.M F.w0 F.nt F.ds c' (I d') (hJ d') U w') Q) env h)
  (hy:∀d,J d→Tri F y Q (I d) (hJ d)):Tri F (.seq x y) Q env h:=fun N c a w hs=>by
 simp only[dQ,Bool.and_eq_true] at N;refine wp_seq (wp_mono (hx N.1 c a w hs) fun e U w' hq=>?_);cases e with
 | normal =>
  obtain⟨d',c',hj,Y⟩:=hq;exact hy d' hj N.2 c' U w' Y
 | _=>exact hq
def jD(h:List Obj)(v:AV):AV→Prop
 | .val t x=>AV.as (h.map cL) t v=some x∨v= .val t x
 | .junk=>True
 | u=>v=u
def nZ(h:List Obj)(env:St):St→Prop
 | []=>True
 | (t,u)::r=>jD h (look env t) u∧nZ h env r
theorem aHF{M:Perm}{w0:World}{c:Ctx}{w:World}(J:Good M w0 c h w){v u:AV}{x:Value}(I:jD h v u)(hv:aG c w v x):aG c w u x:=by
 cases u<;>simp only[jD] at I
 case val t y =>
  rcases I with I|rfl
  all_goals grind[aG.ofV,nD]
 case junk=>trivial
 all_goals simp_all
theorem aRv{M:Perm}{w0:World}{c:Ctx}{w:World}{a:Act}(N:Good M w0 c h w)(J:aA4 c w env a.tmps):∀ {I:St},nZ h env I→aA4 c w I a.tmps
 | [],_,t=>trivial
 | (k,u)::r,U,t=>by
  simp only[look];split
  ·rename_i e; subst e; exact aHF N U.1 (J k)
  ·exact aRv N J U.2 t
theorem aR{D:Type}{J:D→Prop}{I:D→St}{U:D→List Obj}(d:D)(hj:J d)(hh:h=U d)(Y:nZ h env (I d)):At F (fun a w=>∃d' c',J d'∧Sim F.E F.M F.w0 F.nt F.ds c' (I d') (U d') a w) env h:=fun c a w N =>
 ⟨d,c,hj,⟨by rw[← hh]; exact N.good,N.glob,aRv N.good N.env Y,N.size,N.defers⟩⟩
def cC:(t:Ty)→t.den→Nat→St
 | .pair (.rp a) r,x,k=>(k,.roa a x.1)::cC r x.2 (k+1)
 | .pair a r,x,k=>(k,.val a x.1)::cC r x.2 (k+1)
 | _,_,_=>[]
end
end Go.Vc
namespace Go.Vc
open Go.RowKit
def aS3:Obj→Obj
 | .row _ t I=>.frz t I
 | .tre _ _ t I=>.frz t I
 | o=>o
def frzAll:Obj→Obj
 | .row _ t I=>.frz t I
 | .tre _ _ t I=>.frz t I
 | .frz t I=>.frz t I
 | _=>.dead
def aGf:Ty→Nat
 | .pair _ r=>aGf r+1
 | _=>0
def mC(h:List Obj):(r:RK)→r.ty.den→List AV→Prop
 | .none,_,[]=>True
 | .one t,y,[v]=>AV.as (h.map frzAll) t v=some y
 | .own e t,I,[.own i]=>h[i]? = some (.row e t I)
 | .own e t,I,[.nilS]=>I= []
 | .tup t,y,J=>J.length≠1∧sC (h.map frzAll) t J=some y
 | _,_,_=>False
section
variable {P:Program} {E:Env} {M:Perm} {w0:World} {c:Ctx} {h:List Obj} {w:World}
theorem aJ3:∀(n:Nat) (h:List Obj) (i:Nat),(freezeAll (List.range n) h)[i]? = if i<n then (h[i]?).map aS3 else h[i]? := by
 have J:∀(l r:List Nat) (h:List Obj),freezeAll (l++r) h=freezeAll r (freezeAll l h):=fun l=>by
  induction l with
  | nil=>intro r h; rfl
  | cons a l U=>intro r h; simp only[List.cons_append,freezeAll]; exact U r _
 intro n
 induction n with
 | zero=>grind[freezeAll]
 | succ n U =>
  intro h i;rw[List.range_succ,J];simp only[freezeAll,Vc.freeze];have Y:=U h n;simp only[Nat.lt_irrefl,if_false] at Y;split
  ·rename_i e t xs I;rw[Y] at I;by_cases N:n=i
   ·subst N;have hlt:n<h.length:=qJ I;have hl:n<(freezeAll (List.range n) h).length:=by
     grind
    grind[aS3]
   grind
  ·rename_i e m t xs I;rw[Y] at I;by_cases N:n=i
   ·subst N;have hlt:n<h.length:=qJ I;have hl:n<(freezeAll (List.range n) h).length:=by
     grind
    grind[aS3]
   grind
  ·rename_i hne hne2;rw[U h i];by_cases hi:i<n
   ·grind
   ·by_cases N:i=n
    ·subst N;simp only[Nat.lt_irrefl,if_false,Nat.lt_succ_self,if_true];cases I:h[i]? with
     | none=>rfl
     | some o =>
      rw[I] at Y;cases o<;>first|rfl|grind|grind
    grind
theorem Good.frzAll(I:Good M w0 c h w):∃c',bW c w c' w∧Good M w0 c' (h.map aS3) w:=by
 obtain⟨c',J,N,U⟩:=I.freezeAll (List.range h.length);have e:Vc.freezeAll (List.range h.length) h=h.map aS3:=by
  apply List.ext_getElem?;intro i;rw[aJ3,List.getElem?_map];by_cases hi:i<h.length
  ·simp[hi]
  ·simp[hi]
 grind
theorem aRw:(h.map aS3).map cL=h.map frzAll:=by
 rw[List.map_map];apply List.map_congr_left;intro o _;cases o<;>rfl
theorem aIi{S:Nat→Prop}:∀(t:Ty) (x:t.den) (k:Nat) (vs:List Value) (tmps:Array Value),jL w S t x vs→c.S=S→(∀i v,vs[i]? = some v→tmps.getD (k+i) Go.undef=v)→aA4 c w (cC t x k) tmps
 | .pair a r,x,k,vs,tmps,⟨v,N,e,J,U⟩,Y,ht=>by
  subst e;have I:=aIi r x.2 (k+1) N tmps U Y (fun i u hu=>by
   have:=ht (i+1) u (by simp_all);grind)
  have hv:=ht 0 v (by simp);simp only[Nat.add_zero] at hv;intro t;have hcase:∀u:AV,aG c w u v→aG c w (look ((k,u)::cC r x.2 (k+1)) t) (tmps.getD t Go.undef):=fun u hu=>by
   simp only[look];split
   ·simp_all
   ·exact I t
  cases a with
  | rp a =>
   simp only[cC];refine hcase _ ?_;unfold bR at J;rw[if_neg (by simp[Ty.isAgg])] at J;obtain⟨b,off,ds,e,hb,hd,hcell⟩:=J;grind[zU]
  | _ =>
   grind[cC,aG.ofV]
 | .unit,_,_,_,_,_,_,_=>fun t=>trivial
 | .bool,_,_,_,_,h,_,_=>h.elim
 | .u _,_,_,_,_,h,_,_=>h.elim
 | .i _,_,_,_,_,h,_,_=>h.elim
 | .str,_,_,_,_,h,_,_=>h.elim
 | .sl _,_,_,_,_,h,_,_=>h.elim
 | .arr _ _,_,_,_,_,h,_,_=>h.elim
 | .expr,_,_,_,_,h,_,_=>h.elim
 | .rp _,_,_,_,_,h,_,_=>h.elim
 | .clo _ _,_,_,_,_,h,_,_=>h.elim
theorem aIj{S:Nat→Prop}:∀(t:Ty) (x:t.den) (vs:List Value),jL w S t x vs→vs.length=aGf t
 | .pair a r,x,vs,⟨v,I,e,N,J⟩=>by subst e; simp[aGf,aIj r x.2 I J]
 | .unit,_,_,h=>by simp only[jL] at h; subst h; rfl
 | .bool,_,_,h=>h.elim
 | .u _,_,_,h=>h.elim
 | .i _,_,_,h=>h.elim
 | .str,_,_,h=>h.elim
 | .sl _,_,_,h=>h.elim
 | .arr _ _,_,_,h=>h.elim
 | .expr,_,_,h=>h.elim
 | .rp _,_,_,h=>h.elim
 | .clo _ _,_,_,h=>h.elim
 | .ifc _ _,_,_,h=>h.elim
 | .nili,_,_,h=>h.elim
 | .nilp,_,_,h=>h.elim
 | .nilf,_,_,h=>h.elim
theorem aS4{S S':Nat→Prop}(Y:∀b,S b→S' b):∀ {t:Ty} {x:t.den} {vs:List Value},jL w S t x vs→jL w S' t x vs:=by
 intro t
 induction t with
 | unit=>intro x vs h; exact h
 | pair a r _ J=>intro x vs ⟨v,I,e,U,N⟩; exact⟨v,I,e,U.keep Y (.refl _ _),J N⟩
 | _=>intro x vs h; exact h.elim
def Ty.wf:(t:Ty)→t.den→Prop
 | .u k,n=>(n:Int)≤k.max
 | .i k,n=>fits k n
 | .str,s=>s.length≤maxLen
 | .sl t,I=>I.length≤maxLen∧ ∀x∈I,t.wf x
 | .pair a b,x=>a.wf x.1∧b.wf x.2
 | .arr n t,I=>I.length=n∧ ∀x∈I,t.wf x
 | .rp t,x=>t.wf x
 | .clo _ t,x=>t.wf x
 | .ifc _ t,x=>t.wf x
 | _,_=>True
theorem aJ.wf{S:Nat→Prop}:∀(t:Ty) (x:t.den) (cs:List Value),aJ w S t x cs→t.wf x
 | .bool,_,_,_=>trivial
 | .u k,_,_,I=>I.2.2
 | .i k,_,_,I=>I.2.2
 | .str,_,_,⟨s,_,he,hs⟩=>by grind[Ty.wf,jN]
 | .sl t,xs,_,⟨a,len,cap,_,Y,U,h3,h4⟩=>by
  refine⟨by omega,fun x J=>?_⟩;rcases h4 with rfl|⟨b,off,_,_,N⟩
  ·cases J
  ·obtain⟨i,hi,rfl⟩:=List.mem_iff_getElem.1 J;obtain⟨ds,hd,_⟩:=N i hi;exact aJ.wf t _ _ hd
 | .unit,_,_,_=>trivial
 | .pair a b,_,_,⟨c1,c2,_,Y,U⟩=>⟨aJ.wf a _ _ Y,aJ.wf b _ _ U⟩
 | .arr n t,xs,_,⟨hn,css,_,hl,I⟩=>⟨hn,fun x J=>by
  obtain⟨i,hi,rfl⟩:=List.mem_iff_getElem.1 J;exact aJ.wf t _ _ (I i hi (by omega))⟩
 | .expr,_,_,_=>trivial
 | .rp t,_,_,⟨_,_,ds,_,_,hd,_⟩=>aJ.wf t _ _ hd
 | .clo _ t,_,_,⟨_,_,hd⟩=>aJ.wf t _ _ hd
 | .ifc _ t,_,_,⟨_,_,_,_,_,hd⟩=>aJ.wf t _ _ hd
 | .nili,_,_,_=>trivial
 | .nilp,_,_,_=>trivial
 | .nilf,_,_,_=>trivial
theorem aCl{S:Nat→Prop}:∀(t:Ty) (x:t.den) (vs:List Value),jL w S t x vs→t.wf x
 | .pair a r,x,vs,⟨v,N,e,I,J⟩=>⟨aJ.wf a _ _ I.cells,aCl r _ _ J⟩
 | .unit,_,_,_=>trivial
 | .bool,_,_,h=>h.elim
 | .u _,_,_,h=>h.elim
 | .i _,_,_,h=>h.elim
 | .str,_,_,h=>h.elim
 | .sl _,_,_,h=>h.elim
 | .arr _ _,_,_,h=>h.elim
 | .expr,_,_,h=>h.elim
 | .rp _,_,_,h=>h.elim
 | .clo _ _,_,_,h=>h.elim
 | .ifc _ _,_,_,h=>h.elim
 | .nili,_,_,h=>h.elim
 | .nilp,_,_,h=>h.elim
 | .nilf,_,_,h=>h.elim
theorem aDd{n:Int}:fits .i64 n↔ -9223372036854775808≤n∧n≤9223372036854775807:=by
 rfl
theorem aS5:maxLen=9223372036854775807:=rfl
def post(P:Program)(fn:Func)(S:Nat→Prop)(w0:World)(r:RK)(y:r.ty.den):Exit→Act→World→Prop :=
 bodyPost P fn fun e w'=>∃v,e= .returned v∧bG nothing w0 w'∧aSO w' S w0.heap.size r y v
theorem aUx{f:FuncId}{fn:Func}{I:Code}{sp:aF}(hE:dB P E)(Y:P.funcs[f]? = some fn)(hb:fn.body=some I)(J:dQ fn.ntmps I=true)(hn:aGf sp.args≤fn.ntmps)
  (ht:∀(w0:World) (S:Nat→Prop) (x:sp.args.den),sp.args.wf x→sp.pre x→Tri (fr P E S w0 fn.ntmps) I (post P fn S w0 sp.res (sp.fn x)) (cC sp.args x 0) []):FOK P E.G f sp:=by
 intro w S U x hS hG N hp;refine calls_of_wp Y hb ?_;refine ht w S x (aCl _ _ _ N) hp J ⟨S,fun _=>Go.undef,0,fun _ _=>False⟩ _ w ⟨⟨rfl,.refl _ _,hS,fun b hb _=>.inl hb,fun i o ho=>by grind,fun i o b ho=>by grind,fun i j oi oj b hi=>by grind,⟨Nat.le_refl _,fun i hi=>absurd hi (Nat.not_lt_zero i)⟩⟩,hG,?_,?_,rfl⟩
 ·refine aIi _ x 0 U.toList _ N rfl fun i v hv=>?_;have hlt:i<U.size:=by
   grind
  simp_all[Nat.zero_add,Array.getElem?_toList,Array.getElem?_append,Array.getElem?_eq_getElem]
 ·have:=aIj _ _ _ N;simp_all
def aCD:List Value→Value
 | [v]=>v
 | vs=>.tuple vs.toArray
end
end Go.Vc
namespace Go.Vc
open Go.RowKit
def yM(e:TypeId)(m:Mk)(t:Ty)(xs:List t.den):Obj:=match m with
 | .no=>.row e t xs
 | .sl I m'=>.tre e (.sl I m') t xs
 | .pair a b=>.tre e (.pair a b) t xs
section
variable {P:Program} {E:Env} {T:Tab} {M:Perm} {w0:World} {c:Ctx} {h:List Obj} {w:World}
theorem flatten_nil{α:Type}{I:List (List α)}(h:∀i (h:i<I.length),I[i]= []):I.flatten= []:=by
 induction I with
 | nil=>rfl
 | cons a r N =>
  have J:=h 0 (by simp);simp only[List.getElem_cons_zero] at J;rw[List.flatten_cons,J,N (fun i hi=>by have:=h (i+1) (by simp_all); grind)]; rfl
theorem aLQ{S:Nat→Prop}{t:Ty}{x:t.den}{cs:List Value}{B:List Nat}(h:fQ w S t .no x cs B):aJ w S t x cs∧B= []:=by cases t<;>exact h
theorem aCm{S:Nat→Prop}{t:Ty}{x:t.den}{cs:List Value}(h:aJ w S t x cs):fQ w S t .no x cs []:=by cases t<;>exact⟨h,rfl⟩
theorem aXq{S:Nat→Prop}{e:TypeId}{t:Ty}{xs:List t.den}{v:Value}{I:List Value}(J:w.ownsRow 0 e t.cells v xs.length I)(U:aJ w S (.arr xs.length t) xs I):fQ w S (.sl t) (.sl e .no) xs [v] (hdB v):=by
 obtain⟨_,N,Y,hl,U⟩:=U;subst Y;refine⟨v,N,List.replicate xs.length [],rfl,J,hl,by simp,?_,fun i h h1 h2=>?_⟩
 ·rw[flatten_nil (fun i hi=>by simp),List.append_nil]
 ·simp only[List.getElem_replicate];exact aCm (U i h h1)
theorem aRx{S:Nat→Prop}{e:TypeId}{t:Ty}{xs:List t.den}{v:Value}{B:List Nat}(h:fQ w S (.sl t) (.sl e .no) xs [v] B):(∃I,w.ownsRow 0 e t.cells v xs.length I∧aJ w S (.arr xs.length t) xs I)∧B=hdB v:=by
 obtain⟨v',J,Bs,U,h1,Y,h3,h4,N⟩:=h;obtain rfl:=(List.cons.inj U).1;refine⟨⟨J.flatten,h1,rfl,J,rfl,Y,fun i q1 q2=>(aLQ (N i q1 q2 (by omega))).1⟩,?_⟩;rw[h4,flatten_nil (fun i hi=>(aLQ (N i (by omega) (by omega) hi)).2),List.append_nil]
theorem sP{v:Value}{b:Nat}:b∈hdB v↔aH v=some b:=by
 unfold hdB;grind
theorem aKX(v:Value):(hdB v).Nodup:=by
 grind[hdB,aH]
theorem aS6{i:Nat}{e:TypeId}{m:Mk}{t:Ty}{xs:List t.den}(h:zL c w i (yM e m t xs)):∃B,fQ w c.S (.sl t) (.sl e m) xs [c.hd i] B∧B.Nodup∧ ∀b∈B,cM c i (yM e m t xs) b:=by
 cases m with
 | no =>
  obtain⟨I,N,J⟩:=h;exact⟨_,aXq N J,aKX _,fun b hb=>sP.1 hb⟩
 | sl U m'=>exact h
 | pair a b=>exact h
theorem aS7{i:Nat}{e:TypeId}{m:Mk}{t:Ty}{xs:List t.den}{B:List Nat}(h:fQ w c.S (.sl t) (.sl e m) xs [c.hd i] B)(I:B.Nodup)(hb:∀b∈B,c.bl i b):zL c w i (yM e m t xs):=by
 cases m with
 | no=>exact(aRx h).1
 | sl J m'=>exact⟨B,h,I,hb⟩
 | pair a b=>exact⟨B,h,I,hb⟩
theorem aS8{i:Nat}{e:TypeId}{m:Mk}{t:Ty}{xs:List t.den}{B:List Nat}(h:fQ w c.S (.sl t) (.sl e m) xs [c.hd i] B)(hb:∀b,c.bl i b→b∈B){b:Nat}(I:cM c i (yM e m t xs) b):b∈B:=by
 cases m with
 | no=>rw[(aRx h).2]; exact sP.2 I
 | sl N m'=>exact hb b I
 | pair a J=>exact hb b I
def aD1:(t:Ty)→Mk→t.den→Nat→List AV×List Obj
 | .pair (.sl t) r,.pair (.sl e m) I,x,n=>(.own n::(aD1 r I x.2 (n+1)).1,yM e m t x.1::(aD1 r I x.2 (n+1)).2)
 | .pair a r,.pair .no I,x,n=>(.val a x.1::(aD1 r I x.2 n).1,(aD1 r I x.2 n).2)
 | .pair a r,.no,x,n=>(.val a x.1::(aD1 r .no x.2 n).1,(aD1 r .no x.2 n).2)
 | _,_,_,_=>([],[])
def aIk:Ty→Mk→Bool
 | .pair (.sl t) r,.pair (.sl e m) I=>aIk r I
 | .pair a r,.pair .no I=>aIk r I
 | .pair a r,.no=>aIk r .no
 | .unit,.no=>true
 | _,_=>false
def bA0:(t:Ty)→Mk→t.den→Nat→AV×List Obj
 | .sl t,.sl e m,I,n=>(.own n,[yM e m t I])
 | t,m,x,n=>(.agg (aD1 t m x n).1,(aD1 t m x n).2)
def aZI:Ty→Mk→Bool
 | .sl _,.sl _ _=>true
 | t,m=>aIk t m
structure aNX(w:World)(S:Nat→Prop)(os:List Obj)(hs:List Value)(bs:List (List Nat)):Prop where
 lh:hs.length=os.length
 lb:bs.length=os.length
 ob:∀i (h1:i<os.length) (h2:i<hs.length) (h3:i<bs.length),∃e m t xs,os[i]=yM e m t xs∧fQ w S (.sl t) (.sl e m) xs [hs[i]] bs[i]
theorem aNX.nil{S:Nat→Prop}:aNX w S [] [] []:=⟨rfl,rfl,fun i h=>by simp at h⟩
theorem aNX.cons{S:Nat→Prop}{os:List Obj}{J:List Value}{bs:List (List Nat)}(I:aNX w S os J bs){e:TypeId}{m:Mk}{t:Ty}{xs:List t.den}{v:Value}{B:List Nat}(h:fQ w S (.sl t) (.sl e m) xs [v] B):aNX w S (yM e m t xs::os) (v::J) (B::bs):=by
 refine⟨by simp[I.lh],by simp[I.lb],fun i U N Y=>?_⟩;cases i with
 | zero=>grind
 | succ i=>exact I.ob i (by simp_all) (by simp_all) (by simp_all)
def qK(h:List Obj)(e:TypeId)(m:Mk)(t:Ty):AV→Option (List t.den×List Nat)
 | .nilS=>some ([],[])
 | .own j=>match h[j]? with
  | some (.row N I J)=>if m= .no∧N=e then (uN I t J).map fun U=>(U,[j]) else none
  | some (.tre N m' I J)=>if m'=m∧N=e then (uN I t J).map fun U=>(U,[j]) else none
  | _=>none
 | _=>none
def jC(h:List Obj):(t:Ty)→Mk→List AV→Option (t.den×List Nat)
 | .pair (.sl t) r,.pair (.sl e m) J,v::vs=>match qK h e m t v,jC h r J vs with
  | some (x,l),some (y,I)=>some ((x,y),l++I)
  | _,_=>none
 | .pair a r,.pair .no J,v::vs=>match AV.as (h.map cL) a v,jC h r J vs with
  | some x,some (y,I)=>some ((x,y),I)
  | _,_=>none
 | .pair a r,.no,v::vs=>match AV.as (h.map cL) a v,jC h r .no vs with
  | some x,some (y,I)=>some ((x,y),I)
  | _,_=>none
 | .unit,.no,[]=>some ((),[])
 | _,_,_=>none
def qN(h:List Obj):(t:Ty)→Mk→AV→Option (t.den×List Nat)
 | .sl t,.sl e m,v=>qK h e m t v
 | t,.no,v=>(AV.as (h.map cL) t v).map fun x=>(x,[])
 | t,m,.agg I=>jC h t m I
 | _,_,_=>none
def gN(c:Ctx)(h:List Obj)(l:List Nat)(b:Nat):Prop:=∃j o,j∈l∧h[j]? = some o∧cM c j o b
theorem aE9(hg:Good M w0 c h w){l I:List Nat}{B B':List Nat}(h1:B.Nodup)(Y:B'.Nodup)(h3:∀b∈B,gN c h l b)(h4:∀b∈B',gN c h I b)(hl:(l++I).Nodup):(B++B').Nodup:=by
 refine List.nodup_append.2 ⟨h1,Y,fun a ha b hb e=>?_⟩;subst e;obtain⟨j,o,k1,N,U⟩:=h3 a ha;obtain⟨J,o',q1,q2,q3⟩:=h4 a hb;have:=hg.sep j J o o' a N q2 U q3;grind
theorem kZ{l I:List Nat}(Y:∀j∈l,j∈I){b:Nat}(U:gN c h l b):gN c h I b:=by
 obtain⟨j,o,J,N⟩:=U;exact⟨j,o,Y j J,N⟩
theorem aDe(hg:Good M w0 c h w){e:TypeId}{m:Mk}{t:Ty}{v:AV}{x:List t.den}{l:List Nat}{cs:List Value}(I:qK h e m t v=some (x,l))(U:aE c w v cs) :
  ∃B,fQ w c.S (.sl t) (.sl e m) x cs B∧B.Nodup∧ ∀b∈B,gN c h l b:=by
 cases v with
 | nilS =>
  simp only[qK,Option.some.injEq,Prod.mk.injEq] at I;obtain⟨rfl,rfl⟩:=I;simp only[aE] at U;exact⟨[],⟨.slice none 0 0,[],[],U,World.ownsRow_nil w 0 e t.cells,rfl,rfl,rfl,fun i h=>by simp at h⟩,List.nodup_nil,fun b hb=>by cases hb⟩
 | own j =>
  simp only[aE] at U;obtain⟨_,rfl,_⟩:=U;have N:∀(xs:List t.den),h[j]? = some (yM e m t xs)→ ∃B,fQ w c.S (.sl t) (.sl e m) xs [c.hd j] B∧B.Nodup∧ ∀b∈B,gN c h [j] b:=fun xs J=>by
   obtain⟨B,h1,h2,h3⟩:=aS6 (hg.objs j _ J);exact⟨B,h1,h2,fun b hb=>⟨j,_,by simp,J,h3 b hb⟩⟩
  simp only[qK] at I;split at I
  ·rename_i e' Y xs J;split at I
   ·rename_i hc;obtain⟨rfl,rfl⟩:=hc;cases hcast:uN Y t xs with
    | none=>simp_all
    | some ys =>
     obtain⟨rfl,rfl⟩:=wH hcast;rw[hcast] at I;simp only[Option.map_some,Option.some.injEq,Prod.mk.injEq] at I;obtain⟨rfl,rfl⟩:=I;exact N _ J
   grind
  ·rename_i e' m' Y xs J;split at I
   ·rename_i hc;obtain⟨rfl,rfl⟩:=hc;cases hcast:uN Y t xs with
    | none=>simp_all
    | some ys =>
     obtain⟨rfl,rfl⟩:=wH hcast;rw[hcast] at I;simp only[Option.map_some,Option.some.injEq,Prod.mk.injEq] at I;obtain⟨rfl,rfl⟩:=I;obtain⟨B,q1,q2,q3⟩:=hg.objs j _ J;exact⟨B,q1,q2,fun b hb=>⟨j,_,by simp,J,q3 b hb⟩⟩
   grind
  grind
 | _=>grind[qK]
theorem aUy(I:Good M w0 c h w){t:Ty}{v:AV}{x:t.den}{cs:List Value}(J:AV.as (h.map cL) t v=some x)(N:aE c w v cs):aJ w c.S t x cs :=
 aJ.keep aE0 (.refl _ _) _ _ _ (aY3 I.frz t v x cs J N).1
theorem aDf(hg:Good M w0 c h w):∀(t:Ty) (m:Mk) (vs:List AV) (x:t.den) (l:List Nat) (cs:List Value),jC h t m vs=some (x,l)→l.Nodup→fP c w vs cs →
  ∃B,fQ w c.S t m x cs B∧B.Nodup∧ ∀b∈B,gN c h l b:=by
 intro t
 induction t with
 | pair a r iha ihr =>
  intro m vs x l cs I hl hr;cases vs with
  | nil=>grind[jC]
  | cons v vs =>
   simp only[fP] at hr;obtain⟨c1,c2,e1,h1,h2⟩:=hr;subst e1;have plain:∀J,(match AV.as (h.map cL) a v,jC h r J vs with|some x,some (y,U)=>some ((x,y),U)|_,_=>none)=some (x,l)→ ∃B,aJ w c.S a x.1 c1∧fQ w c.S r J x.2 c2 B∧B.Nodup∧ ∀b∈B,gN c h l b:=fun J I=>by
    split at I
    ·rename_i xa ya U k1 k2;simp only[Option.some.injEq,Prod.mk.injEq] at I;obtain⟨rfl,rfl⟩:=I;grind[aUy]
    grind
   cases m with
   | sl e m=>grind[jC]
   | no =>
    have I:(match AV.as (h.map cL) a v,jC h r .no vs with|some x,some (y,U)=>some ((x,y),U)|_,_=>none)=some (x,l):=(by cases a<;>exact I);obtain⟨B,Y,q2,N,q4⟩:=plain .no I;obtain⟨q5,e5⟩:=aLQ q2;subst e5;exact⟨[],⟨⟨c1,c2,rfl,Y,q5⟩,rfl⟩,N,q4⟩
   | pair ma J =>
    cases ma with
    | no =>
     have I:(match AV.as (h.map cL) a v,jC h r J vs with|some x,some (y,U)=>some ((x,y),U)|_,_=>none)=some (x,l):=(by cases a<;>exact I);obtain⟨B,Y,q2,N,q4⟩:=plain J I;exact⟨B,⟨c1,c2,[],B,rfl,rfl,aCm Y,q2⟩,N,q4⟩
    | pair _ _=>grind[jC]
    | sl e m =>
     cases a with
     | sl t =>
      simp only[jC] at I;split at I
      ·rename_i xa la ya lb k1 k2;simp only[Option.some.injEq,Prod.mk.injEq] at I;obtain⟨rfl,rfl⟩:=I;have hl':=List.nodup_append.1 hl;obtain⟨B1,p1,p2,p3⟩:=aDe hg k1 h1;obtain⟨B2,Y,q2,N⟩:=ihr J vs _ _ c2 k2 hl'.2.1 h2;refine⟨B1++B2,⟨c1,c2,B1,B2,rfl,rfl,p1,Y⟩,aE9 hg p2 q2 p3 N hl,fun b hb=>?_⟩;rcases List.mem_append.1 hb with hb|hb
       ·exact kZ (fun j hj=>List.mem_append_left _ hj) (p3 b hb)
       ·exact kZ (fun j hj=>List.mem_append_right _ hj) (N b hb)
      grind
     | _=>grind[jC]
 | unit =>
  intro m vs x l cs I hl hr;cases m<;>cases vs<;>simp[jC] at I
  subst I;exact⟨[],⟨hr,rfl⟩,List.nodup_nil,fun b hb=>by cases hb⟩
 | _=>grind[jC]
theorem aIl(J:Good M w0 c h w){t:Ty}{m:Mk}{v:AV}{x:t.den}{l:List Nat}{cs:List Value}(I:qN h t m v=some (x,l))(N:l.Nodup)(U:aE c w v cs) :
  ∃B,fQ w c.S t m x cs B∧B.Nodup∧ ∀b∈B,gN c h l b:=by
 cases m with
 | no =>
  have I:(AV.as (h.map cL) t v).map (fun x=>(x,([]:List Nat)))=some (x,l):=by cases t<;>exact I
  cases hx:AV.as (h.map cL) t v with
  | none=>simp_all
  | some y =>
   rw[hx] at I;simp only[Option.map_some,Option.some.injEq,Prod.mk.injEq] at I;obtain⟨rfl,rfl⟩:=I;grind[aCm,aUy,List.nodup_nil]
 | sl e m =>
  cases t with
  | sl t=>exact aDe J I U
  | pair a r=>cases v<;>first|grind[qN]|exact aDf J _ _ _ _ _ _ I N (by grind[aE])
  | unit=>cases v<;>first|grind[qN]|exact aDf J _ _ _ _ _ _ I N (by simpa [aE] using U)
  | _=>cases v<;>first|grind[qN]|grind[qN,jC]
 | pair ma mr =>
  cases t<;>cases v<;>first|grind[qN]|exact aDf J _ _ _ _ _ _ I N (by simpa [aE] using U)|(rename_i Y; cases Y<;>simp[qN,jC] at I)
end
end Go.Vc

