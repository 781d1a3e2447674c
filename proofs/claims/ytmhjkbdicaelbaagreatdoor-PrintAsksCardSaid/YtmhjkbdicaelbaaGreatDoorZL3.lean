import Derived.Test.YtmhjkbdicaelbaaGreatDoorZL2
import Derived.Maps.AppendAt
import Derived.Lib.AppendStr
set_option linter.unusedVariables false
set_option linter.unusedSimpArgs false
namespace Go.Vc
open Go.RowKit
structure Ent where
 i:Nat
 d:Nat
 gp:List (Nat×Bool)
 av:AV
def aAp:List Ent→Nat→Option Ent
 | [],_=>none
 | e::r,j=>if e.i=j then some e else aAp r j
def aEb:List Ent→Nat→Option Ent
 | [],_=>none
 | e::r,t=>if e.d=t then some e else aEb r t
def aT9:AV→Bool
 | .val .bool b=>b
 | _=>false
def aGD:AV→Bool
 | .val .bool _=>true
 | _=>false
def aFy(f:List Ent):Option (Nat×Bool)→List (Nat×Bool)
 | none=>[]
 | some (j,p)=>match aAp f j with
  | some e=>e.gp++ [(j,p)]
  | none=>[(j,p)]
def fQ(f:List Ent):List (Nat×Bool)→Prop
 | []=>True
 | (j,p)::r=>(match aAp f j with|some e=>aT9 e.av=p|none=>False)∧fQ f r
def aFK(f:List Ent):Option (Nat×Bool)→Prop
 | none=>True
 | some (j,_)=>match aAp f j with
  | some e=>aGD e.av=true
  | none=>False
def aQS:List (Nat×Bool)→List (Nat×Bool)→Bool
 | [],_=>true
 | _::_,[]=>false
 | (j,p)::r,(k,q)::s=>decide (j=k)&&(p == q)&&aQS r s
def aUa(G:Nat→AV)(f:List Ent)(env:List (Nat×AV))(gp:List (Nat×Bool)):Operand→AV
 | .tmp t=>match aEb f t with
  | some e=>if aQS e.gp gp=true then e.av else .junk
  | none=>look env t
 | x=>evA G env x
def bIm(G:Nat→AV)(f:List Ent)(env:List (Nat×AV))(gp:List (Nat×Bool))(c a b:Operand):Prop×AV :=
 match c with
 | .tmp t=>match aEb f t with
  | some e=>match (if aQS e.gp gp=true then e.av else .junk),aUa G f env (gp++ [(e.i,true)]) a,aUa G f env (gp++ [(e.i,false)]) b with
   | .val .bool q,.val .bool x,.val .bool y=>(True,.val .bool (bif q then x else y))
   | _,_,_=>(False,.junk)
  | none=>(False,.junk)
 | _=>(False,.junk)
noncomputable def opA(E:Env)(h:List Obj)(env:List (Nat×AV))(f:List Ent)(o:Oper):Prop×AV :=
 match o.op with
 | .pick c a b=>bIm E.G f env (aFy f o.guard) c a b
 | _=>pv E h (aUa E.G f env (aFy f o.guard)) o
def vcA(E:Env)(h:List Obj)(env:List (Nat×AV)):List Oper→Nat→List Ent→(List Ent→Prop)→Prop
 | [],_,f,K=>K f
 | o::r,i,f,K=>match o.dst,opA E h env f o with
  | some d,(p,v)=>aFK f o.guard∧(fQ f (aFy f o.guard)→p)∧vcA E h env r (i+1) (⟨i,d,aFy f o.guard,v⟩::f) K
  | none,_=>False
def kM:List Ent→List (Nat×AV)→List (Nat×AV)
 | [],env=>env
 | e::r,env=>(e.d,match e.gp with| []=>e.av|_::_=>.junk)::kM r env
structure aAm(E:Env)(h:List Obj)(env:List (Nat×AV))(ops:List Oper)(F:Nat→List Ent):Prop where
 zero:F 0= []
 step:∀i o,ops[i]? = some o→ ∃d,o.dst=some d∧aFK (F i) o.guard∧(fQ (F i) (aFy (F i) o.guard)→(opA E h env (F i) o).1)∧F (i+1)=⟨i,d,aFy (F i) o.guard,(opA E h env (F i) o).2⟩::F i
theorem aHq{E:Env}{h:List Obj}{env:List (Nat×AV)}:∀(l:List Oper) (i:Nat) (f:List Ent) (K:List Ent→Prop),vcA E h env l i f K →
  ∃F:Nat→List Ent,F i=f∧(∀k o,l[k]? = some o→ ∃d,o.dst=some d∧aFK (F (i+k)) o.guard∧(fQ (F (i+k)) (aFy (F (i+k)) o.guard)→(opA E h env (F (i+k)) o).1)∧F (i+k+1)=⟨i+k,d,aFy (F (i+k)) o.guard,(opA E h env (F (i+k)) o).2⟩::F (i+k))∧K (F (i+l.length))
 | [],i,f,K,hv=>⟨fun _=>f,rfl,fun k o U=>by grind,hv⟩
 | o::r,i,f,K,hv=>by
  simp only[vcA] at hv;split at hv
  ·rename_i d p v hd g;obtain⟨L,O,h3⟩:=hv;obtain⟨F,I,N,J⟩:=aHq r (i+1) _ K h3;refine⟨fun j=>if j≤i then f else F j,by simp,fun k z q=>?_,?_⟩
   all_goals grind
  simp_all
section
variable {E:Env} {h:List Obj} {env:List (Nat×AV)} {ops:List Oper} {F:Nat→List Ent}
theorem lC(hF:aAm E h env ops F):∀(i:Nat),i≤ops.length→ ∀j,(j<i→ ∃o d,ops[j]? = some o∧o.dst=some d∧aAp (F i) j=some ⟨j,d,aFy (F j) o.guard,(opA E h env (F j) o).2⟩)∧(i≤j→aAp (F i) j=none)
 | 0,_,j=>⟨fun h=>absurd h (Nat.not_lt_zero j),fun _=>by rw[hF.zero]; rfl⟩
 | i+1,hi,j=>by
  have L:ops[i]? = some ops[i]:=List.getElem?_eq_getElem (by omega);obtain⟨d,O,U,h3,J⟩:=hF.step i _ L;obtain⟨q1,W⟩:=lC hF i (by omega) j;rw[J];refine⟨fun I=>?_,fun I=>?_⟩
  ·by_cases e:j=i
   ·grind[aAp]
   ·obtain⟨o,N,g,q,z⟩:=q1 (by omega);exact⟨o,N,g,q,by rw[aAp,if_neg (fun f=>e f.symm)]; exact z⟩
  ·rw[aAp,if_neg (by grind)];grind
theorem aHr(hF:aAm E h env ops F):∀(i:Nat),i≤ops.length→ ∀t e,aEb (F i) t=some e→e.i<i∧e.d=t∧aAp (F i) e.i=some e∧ ∃o,ops[e.i]? = some o∧o.dst=some t
 | 0,_,t,e,he=>by rw[hF.zero] at he; cases he
 | i+1,hi,t,e,he=>by
  have f:ops[i]? = some ops[i]:=List.getElem?_eq_getElem (by omega);obtain⟨d,z,N,h3,I⟩:=hF.step i _ f;rw[I] at he ⊢;simp only[aEb] at he;split at he
  ·rename_i hd;cases he;subst hd;exact⟨Nat.lt_succ_self _,rfl,by simp[aAp],_,f,z⟩
  ·obtain⟨L,g,q,J⟩:=aHr hF i (by omega) t e he;exact⟨by omega,g,by rw[aAp,if_neg (by grind)]; exact q,J⟩
theorem aL5(hF:aAm E h env ops F):∀(i:Nat),i≤ops.length→ ∀t,aEb (F i) t=none→ ∀k o,k<i→ops[k]? = some o→o.dst≠some t
 | 0,_,t,_,k,o,hk,_=>absurd hk (Nat.not_lt_zero k)
 | i+1,hi,t,he,k,o,hk,f=>by
  have q:ops[i]? = some ops[i]:=List.getElem?_eq_getElem (by omega);obtain⟨d,z,I,h3,g⟩:=hF.step i _ q;rw[g] at he;simp only[aEb] at he;split at he
  ·cases he
  ·rename_i hd;by_cases e:k=i
   ·simp_all
   ·exact aL5 hF i (by omega) t he k o (by omega) f
theorem aDz(hF:aAm E h env ops F){i j k:Nat}{e:Ent}(hi:i≤ops.length)(hk:k≤ops.length)(f:i≤k)(he:aAp (F i) j=some e):aAp (F k) j=some e:=by
 have g:j<i:=by
  rcases Nat.lt_or_ge j i with h|h
  ·exact h
  ·rw[(lC hF i hi j).2 h] at he; cases he
 obtain⟨o,d,L,N,h3⟩:=(lC hF i hi j).1 g;obtain⟨J,O,I,q,z⟩:=(lC hF k hk j).1 (by omega);simp_all
def aSd(F:List Ent):List (Nat×Bool)→Prop
 | []=>True
 | (j,_)::r=>(∃e,aAp F j=some e∧aGD e.av=true)∧aSd F r
theorem aIj(hF:aAm E h env ops F){i k:Nat}(hi:i≤ops.length)(hk:k≤ops.length)(g:i≤k):∀ {gp:List (Nat×Bool)},aSd (F i) gp→fQ (F k) gp→fQ (F i) gp
 | [],_,_=>trivial
 | (j,p)::r,f,q=>by
  simp only[fQ,aSd] at q f ⊢;obtain⟨⟨e,he,_⟩,f⟩:=f;refine⟨?_,aIj hF hi hk g f q.2⟩;grind[aDz]
theorem aE4{F:List Ent}:∀ {g1 f:List (Nat×Bool)},fQ F (g1++f)↔fQ F g1∧fQ F f
 | [],f=>by simp[fQ]
 | (j,p)::r,f=>by simp only[List.cons_append,fQ,aE4 (g1:=r),and_assoc]
theorem aQT{F:List Ent}:∀ {g1 f:List (Nat×Bool)},aSd F (g1++f)↔aSd F g1∧aSd F f
 | [],f=>by simp[aSd]
 | (j,p)::r,f=>by simp only[List.cons_append,aSd,aQT (g1:=r),and_assoc]
theorem aUb(hF:aAm E h env ops F){i k:Nat}(hi:i≤ops.length)(hk:k≤ops.length)(f:i≤k):∀ {gp:List (Nat×Bool)},aSd (F i) gp→aSd (F k) gp
 | [],_=>trivial
 | (j,p)::r,g=>by
  simp only[aSd] at g ⊢;obtain⟨⟨e,he,hb⟩,q⟩:=g;exact⟨⟨e,aDz hF hi hk f he,hb⟩,aUb hF hi hk f q⟩
theorem bK4(hF:aAm E h env ops F):∀(i:Nat) {o:Oper},ops[i]? = some o→aSd (F i) (aFy (F i) o.guard):=by
 intro i
 induction i using Nat.strongRecOn with
 | _ i J =>
  intro o N;have hi:i<ops.length:=by
   grind
  obtain⟨d,W,g,h3,Y⟩:=hF.step i o N;cases L:o.guard with
  | none=>trivial
  | some I =>
   obtain⟨j,p⟩:=I;rw[L] at g;simp only[aFK] at g;simp only[aFy];cases he:aAp (F i) j with
   | none=>simp_all
   | some e =>
    rw[he] at g;have f:j<i:=by
     rcases Nat.lt_or_ge j i with h|h
     ·exact h
     ·rw[(lC hF i (by omega) j).2 h] at he; cases he
    obtain⟨O,Z,z,U,q⟩:=(lC hF i (by omega) j).1 f;rw[q] at he;cases he;rw[aQT];exact⟨aUb hF (by omega) (by omega) (by omega) (J j f z),⟨_,q,g⟩,trivial⟩
theorem aJf{F:List Ent}:∀ {g1 g:List (Nat×Bool)},aQS g1 g=true→fQ F g→fQ F g1
 | [],_,_,_=>trivial
 | (j,p)::r,[],hp,_=>by grind[aQS]
 | (j,p)::r,(k,q)::s,hp,f=>by
  simp only[aQS,Bool.and_eq_true,decide_eq_true_eq,beq_iff_eq] at hp;obtain⟨⟨rfl,rfl⟩,hp⟩:=hp;simp only[fQ] at f ⊢;exact⟨f.1,aJf hp f.2⟩
end
end Go.Vc
namespace Go.Vc
open Go.RowKit
structure Sim(E:Env)(M:Perm)(w0:World)(nt:Nat)(ds:List Deferred)(c:Ctx)(env:List (Nat×AV))(h:List Obj)(a:Act)(w:World):Prop where
 good:Good M w0 c h w
 glob:sY E.G c.S w
 env:aIM c w env a.tmps
 size:a.tmps.size=nt
 defers:a.defers=ds
def eZ(nt:Nat)(o:Oper):Bool :=
 o.op.operands.all pA&&(match o.dst with|some d=>decide (d<nt)|none=>true)
section
variable {P:Program} {E:Env} {M:Perm} {w0:World} {nt:Nat} {ds:List Deferred} {h:List Obj} {env:List (Nat×AV)} {ops:List Oper} {F:Nat→List Ent} {Q:Exit→Act→World→Prop}
theorem Did.wp{c:Ctx}{o:Oper}{a:Act}{w:World}{av:AV}{next:Act→World→Prop}(hd:Did P M w0 h c o a w av)(q:∀v w' c',aI7 P M w0 h c w av v w' c'→next (a.put o.dst v) w'):o.wp P a w next Q:=by
 rcases hd with⟨v,w',c',g,ha⟩|⟨f,args,g,hc⟩
 ·unfold Oper.wp; rw[g]; exact q v w' c' ha
 ·unfold Oper.wp;rw[g];refine Calls.mono hc ?_;grind
theorem Did.wp'{c:Ctx}{o:Oper}{a:Act}{w:World}{av:AV}{next:Act→World→Prop}(hd:Did P M w0 h c o a w av)(q:∀v w' c',aI7 P M w0 h c w av v w' c'→((execOp a.eval o).run P w= .ok (.value v) w'∨ ∃f args,(execOp a.eval o).run P w= .ok (.enter f args) w)→next (a.put o.dst v) w'):o.wp P a w next Q:=by
 rcases hd with⟨v,w',c',g,ha⟩|⟨f,args,g,hc⟩
 ·have:=q v w' c' ha (.inl g);unfold Oper.wp; rw[g]; exact this
 ·have z:=fun v w' c' ha=>q v w' c' ha (.inr ⟨f,args,g⟩);unfold Oper.wp;rw[g];refine Calls.mono hc ?_;grind
structure bMV(T:Tab)(o:Oper)(a:Act)(c':Ctx)(w':World)(c'':Ctx)(a'':Act)(w'':World):Prop where
 keeps:fB nothing w' w''
 new:∀b,c''.S b→c'.S b∨w'.heap.size≤b
 put:∃v,a''=a.put o.dst v∧ ∀t,o.op= .alloc t→o.guard=none→ ∃ct,T t=some ct∧v= .pointer (some ⟨w'.heap.size,0,none⟩)∧w''=w'.alloc (.cells (kY ct).cells t (0,0))∧c''=c'
structure Mid(E:Env)(M:Perm)(w0:World)(nt:Nat)(ds:List Deferred)(h:List Obj)(env:List (Nat×AV))(ops:List Oper)(F:Nat→List Ent)(c:Ctx)(w:World)(listed:Nat→Prop)(c':Ctx)(a:Act)(w':World):Prop where
 later:dG c w c' w'
 n:c'.n=c.n∧c'.bl=c.bl
 good:Good M w0 c' h w'
 size:a.tmps.size=nt
 defers:a.defers=ds
 base:∀t,(∀k o,listed k→ops[k]? = some o→o.dst≠some t)→aZ c' w' (look env t) (a.tmps.getD t Go.undef)
 ent:∀i e,listed i→aAp (F ops.length) i=some e→(fQ (F ops.length) e.gp→aZ c' w' e.av (a.tmps.getD e.d Go.undef))∧(¬fQ (F ops.length) e.gp→a.tmps.getD e.d Go.undef=Go.undef)
theorem bFF{a:Act}{d t:Nat}{v:Value}(hd:d<a.tmps.size):(a.put (some d) v).tmps.getD t Go.undef=if d=t then v else a.tmps.getD t Go.undef:=by
 simp only[Act.put];by_cases e:d=t
 all_goals simp_all
theorem bFG(hF:aAm E h env ops F){c c' f:Ctx}{w w' g:World}{listed:Nat→Prop}{a:Act}(hm:Mid E M w0 nt ds h env ops F c w listed c' a w'){i:Nat}{o:Oper}(Y:ops[i]? = some o){d:Nat}(hd:o.dst=some d)(O:d<nt)
  (huniq:∀k ok,ops[k]? = some ok→ok.dst=some d→k=i) (Z:¬listed i) (hl:dG c' w' f g) (W:f.n=c'.n∧f.bl=c'.bl) (hg:Good M w0 f h g) {v:Value}
  (hv:∀e,aAp (F ops.length) i=some e→(fQ (F ops.length) e.gp→aZ f g e.av v)∧(¬fQ (F ops.length) e.gp→v=Go.undef)) :
  Mid E M w0 nt ds h env ops F c w (fun k=>listed k∨k=i) f (a.put o.dst v) g:=by
 have J:d<a.tmps.size:=by rw[hm.size]; exact O
 rw[hd];refine⟨hm.later.trans hl,⟨W.1.trans hm.n.1,W.2.trans hm.n.2⟩,hg,by simp[Act.put,hm.size],hm.defers,fun t ht=>?_,fun k e hk he=>?_⟩
 ·rw[bFF J];have q:d≠t:=fun e=>ht i o (.inr rfl) Y (by grind);rw[if_neg q];exact hl.val (hm.base t fun k ok hk U=>ht k ok (.inl hk) U)
 ·have L:k<ops.length:=by
   rcases Nat.lt_or_ge k ops.length with h|h
   ·exact h
   ·rw[(lC hF ops.length (Nat.le_refl _) k).2 h] at he; cases he
  obtain⟨ok,dk,k1,k2,k3⟩:=(lC hF ops.length (Nat.le_refl _) k).1 L;have hed:e.d=dk:=by grind
  rw[bFF J];by_cases N:k=i
  ·grind
  ·have q:d≠e.d:=fun e'=>N (huniq k ok k1 (by simp_all));rw[if_neg q];have I:listed k:=by
    simp_all
   exact⟨fun z=>hl.val ((hm.ent k e I he).1 z),fun z=>(hm.ent k e I he).2 z⟩
theorem bK5{c:Ctx}{w:World}{v:AV}{x:Value}(hb:aGD v=true)(hv:aZ c w v x):x= .bool (aT9 v):=by
 cases v with
 | val t y =>
  cases t<;>simp[aGD] at hb
  exact aFG hv
 | _=>grind[aGD]
theorem aUc(hE:eQ P E)(hF:aAm E h env ops F)(hok:∀o∈ops,eZ nt o=true){c c':Ctx}{w w':World}(hglob:sY E.G c.S w){listed:Nat→Prop}{a:Act}(hm:Mid E M w0 nt ds h env ops F c w listed c' a w'){i:Nat}{o:Oper}(Z:ops[i]? = some o)
  (hni:¬listed i) (hop:∀t,Operand.tmp t∈o.op.operands→ ∀k ok,ops[k]? = some ok→ok.dst=some t→(k<i→listed k)∧(i<k→ ¬listed k)) (hgd:∀j p,o.guard=some (j,p)→listed j)
  (huniq:∀k ok,ops[k]? = some ok→ok.dst=o.dst→k=i) {K:Act→World→Prop} (hK:∀J a'' z,Mid E M w0 nt ds h env ops F c w (fun k=>listed k∨k=i) J a'' z→bMV E.T o a c' w' J a'' z→K a'' z):wpOp P ops.toArray Q i K a w':=by
 have hil:i<ops.length:=by
  grind
 have Y:=hok o (List.mem_of_getElem? Z);simp only[eZ,Bool.and_eq_true] at Y;obtain⟨d,s1,s2,s3,s4⟩:=hF.step i o Z;have hdn:d<nt:=by simp_all
 obtain⟨o',d',k1,k2,k3⟩:=(lC hF ops.length (Nat.le_refl _) i).1 hil;rw[Z] at k1; cases k1;rw[s1] at k2; cases k2;have hu:∀k ok,ops[k]? = some ok→ok.dst=some d→k=i:=fun k ok W h2=>huniq k ok W (by grind);have hglob':sY E.G c'.S w':=hglob.mono hm.later.le.S hm.later.same;have hin:=bK4 hF i Z;have hwant:Region.wanted o (yielded ops.toArray a.tmps)=true↔fQ (F ops.length) (aFy (F i) o.guard):=by
  cases O:o.guard with
  | none=>simp[Region.wanted,O,aFy,fQ]
  | some jp =>
   obtain⟨j,p⟩:=jp;have hjl:=hgd j p O;rw[O] at s2 hin;simp only[aFK] at s2;cases he:aAp (F i) j with
   | none=>grind
   | some e =>
    rw[he] at s2;have heF:=aDz hF (by omega) (Nat.le_refl _) (by omega) he;have hji:j<i:=by
     grind[Nat.lt_or_ge,lC]
    obtain⟨oj,dj,j1,j2,j3⟩:=(lC hF i (by omega) j).1 hji;rw[j3] at he;cases he;have hokJ:=hok oj (List.mem_of_getElem? j1);simp only[eZ,Bool.and_eq_true,j2,decide_eq_true_eq] at hokJ;have hdj:dj<a.tmps.size:=(by rw[hm.size]; grind);have hy:∀v,a.tmps.getD dj Go.undef=v→yielded ops.toArray a.tmps j=(match v with| .bool b=>some b|_=>none):=by
     intro v hv;have W:a.tmps[dj]? = some v:=by
      rw[Array.getElem?_eq_getElem hdj];have:a.tmps[dj]=v:=(by simpa [hdj] using hv);rw[this]
     simp only[yielded,List.getElem?_toArray,j1,Option.bind_some,j2,W];cases v<;>rfl
    have hent:=hm.ent j _ hjl heF;have hgpe:aFy (F i) (some (j,p))=aFy (F j) oj.guard++ [(j,p)]:=by
     show (match aAp (F i) j with|some e=>e.gp++ [(j,p)]|none=>[(j,p)])=_;rw[j3]
    simp only[Region.wanted,O];rw[hgpe,aE4];by_cases I:fQ (F ops.length) (aFy (F j) oj.guard)
    ·have hb:=bK5 s2 (hent.1 I);rw[hy _ hb];have hone:fQ (F ops.length) [(j,p)]↔aT9 (opA E h env (F j) oj).2=p:=(by simp only[fQ,heF,and_true]);grind
    grind[undef]
 unfold wpOp;simp only[List.getElem?_toArray,Z];by_cases hw:Region.wanted o (yielded ops.toArray a.tmps)=true
 ·rw[if_pos hw]
  left
  have I:=hwant.1 hw;have hgpi:=aIj hF (by omega) (Nat.le_refl _) (by omega) hin I;have hcond:=s3 hgpi;have hlook:∀gp,fQ (F ops.length) gp→ ∀x,pA x=true→x∈o.op.operands→aZ c' w' (aUa E.G (F i) env gp x) (a.eval x):=by
   intro gp I x hx hxo;cases x with
   | tmp t =>
    simp only[aUa];cases he:aEb (F i) t with
    | none =>
     refine hm.base t fun k ok hk hko hdk=>?_;rcases Nat.lt_trichotomy k i with hlt|heq|hgt
     ·exact aL5 hF i (by omega) t he k ok hlt hko hdk
     all_goals grind
    | some e =>
     simp only;split
     ·rename_i hp;obtain⟨e1,e2,e3,oe,e4,e5⟩:=aHr hF i (by omega) t e he;have hle:=(hop t hxo e.i oe e4 e5).1 e1;have:=(hm.ent e.i e hle (aDz hF (by omega) (Nat.le_refl _) (by omega) e3)).1 (aJf hp I);rw[e2] at this;exact this
     ·trivial
   | const v=>exact aE3 (env:=[]) (a:=a) (c:=c') (w:=w') (G:=E.G) (fun t=>trivial) hglob' hx
   | global g=>exact aE3 (env:=[]) (a:=a) (c:=c') (w:=w') (G:=E.G) (fun t=>trivial) hglob' hx
   | func f=>exact aE3 (env:=[]) (a:=a) (c:=c') (w:=w') (G:=E.G) (fun t=>trivial) hglob' hx
  have L:∀x∈o.op.operands,pA x=true:=Array.all_eq_true_iff_forall_mem.1 Y.1;have hdid:Did P M w0 h c' o a w' (opA E h env (F i) o).2:=by
   by_cases N:∃p q r,o.op= .pick p q r
   ·obtain⟨p,q,r,N⟩:=N;simp only[opA,N] at hcond ⊢;unfold bIm at hcond ⊢;cases p with
    | tmp t =>
     simp only at hcond ⊢;cases he:aEb (F i) t with
     | none=>grind
     | some e =>
      simp only[he] at hcond ⊢;split at hcond
      ·rename_i qb xb yb W h2 h3;have hp:aQS e.gp (aFy (F i) o.guard)=true:=by
        grind
       rw[if_pos hp] at W;obtain⟨e1,e2,e3,oe,e4,e5⟩:=aHr hF i (by omega) t e he;have e3F:=aDz hF (by omega) (Nat.le_refl _) (by omega) e3;have hle:=(hop t (by grind[Op.operands]) e.i oe e4 e5).1 e1;have hc:=(hm.ent e.i e hle e3F).1 (aJf hp I);rw[e2,W] at hc;have hcv:=aFG hc;simp only[W,if_pos hp,h2,h3];have hcb:aT9 e.av=qb:=(by rw[W]; rfl);have hq:∀pol,qb=pol→fQ (F ops.length) (aFy (F i) o.guard++ [(e.i,pol)]):=fun pol hpol=>by
        rw[aE4];refine⟨I,?_,trivial⟩;grind
       cases qb with
       | true =>
        have hx:=hlook _ (hq true rfl) q (L q (by grind[Op.operands])) (by grind[Op.operands]);rw[h2] at hx;refine Did.of_value (v:=a.eval q) hm.good ?_ hx;have:a.eval (.tmp t)= .bool true:=hcv;simp[execOp,N,this,asBool]
       | false =>
        have hx:=hlook _ (hq false rfl) r (L r (by grind[Op.operands])) (by grind[Op.operands]);rw[h3] at hx;refine Did.of_value (v:=a.eval r) hm.good ?_ hx;have:a.eval (.tmp t)= .bool false:=hcv;simp[execOp,N,this,asBool]
      grind
    | _=>grind
   ·have e:opA E h env (F i) o=pv E h (aUa E.G (F i) env (aFy (F i) o.guard)) o:=by
     grind[opA,absurd]
    rw[e] at hcond ⊢;exact bMU hE hm.good hglob' (fun x hx=>hlook _ I x (L x hx) hx) hcond
  have U:∀v z J,aI7 P M w0 h c' w' (opA E h env (F i) o).2 v z J→Mid E M w0 nt ds h env ops F c w (fun k=>listed k∨k=i) J (a.put o.dst v) z:=fun v z J ha=>by
   refine bFG hF hm Z s1 hdn hu hni ha.later ha.n ha.good fun e he=>?_;rw[k3] at he;cases he;exact⟨fun _=>ha.val,fun hn=>absurd I hn⟩
  by_cases hal:∃t,o.op= .alloc t
  ·obtain⟨t,ht⟩:=hal;simp only[opA,pv,ht] at hcond;split at hcond
   ·rename_i ct hT;have hrun:=aYo (w:=w') hE.T hT hcond (o:=o) (a:=a) ht;have hav:(opA E h env (F i) o).2= .junk:=(by grind[opA,pv]);have ha:aI7 P M w0 h c' w' (opA E h env (F i) o).2 _ _ c':=hav▸aQR (P:=P) (ob:=.cells (kY ct).cells t (0,0)) hm.good;unfold Oper.wp;rw[hrun];refine hK c' _ _ (U _ _ _ ha) ⟨ha.keeps,ha.new,_,rfl,fun t' ht' _=>?_⟩;grind
   grind
  ·exact Did.wp' hdid fun v z J ha _=>hK J _ z (U v z J ha) ⟨ha.keeps,ha.new,v,rfl,fun t ht=>absurd ⟨t,ht⟩ hal⟩
 ·rw[if_neg hw];refine hK c' _ w' ?_ ⟨.refl _ _,fun b hb=>.inl hb,Go.undef,rfl,fun t ht hgn=>absurd (by simp[Region.wanted,hgn]) hw⟩;refine bFG hF hm Z s1 hdn hu hni (.refl _ _) ⟨rfl,rfl⟩ hm.good fun e he=>?_;grind
end
end Go.Vc
namespace Go.Vc
open Go.RowKit
theorem aJg:∀(f:List Ent) (env:List (Nat×AV)) (t:Nat),look (kM f env) t=match aEb f t with|some e=>(match e.gp with| []=>e.av|_::_=>.junk)|none=>look env t
 | [],env,t=>rfl
 | e::r,env,t=>by
  simp only[kM,look,aEb];split
  ·rfl
  ·exact aJg r env t
def aIk(ops:List Oper):Bool :=
 (List.range ops.length).all fun i=>(List.range ops.length).all fun k=>decide (i=k)||(match ops[i]?,ops[k]? with|some o,some ok=>decide (o.dst≠ok.dst)||o.dst.isNone|_,_=>true)
def aZi(ops:List Oper):Bool :=
 (List.range ops.length).all fun i=>match ops[i]? with
  | none=>true
  | some o =>
   (o.after.toList.all fun e=> !Region.binds .any e||decide (e.on<i)) &&
   (match o.guard with|none=>true|some (j,_)=>o.after.toList.any fun e=>Region.binds .any e&&decide (e.on=j)) &&
   (o.op.operands.toList.all fun x=>match x with
    | .tmp t=>(List.range ops.length).all fun k=>match ops[k]? with
     | none=>true
     | some ok=>decide (ok.dst≠some t)||decide (k=i)||(decide (k<i)&&o.after.toList.any fun e=>Region.binds .any e&&decide (e.on=k))||(decide (i<k)&&ok.after.toList.any fun e=>Region.binds .any e&&decide (e.on=i))
    | _=>true)
theorem aTD{ops:List Oper}(h:aIk ops=true){i k:Nat}{o ok:Oper}(g:ops[i]? = some o)(hk:ops[k]? = some ok)(hd:ok.dst=o.dst)(hs:o.dst≠none):k=i:=by
 simp only[aIk,List.all_eq_true,List.mem_range] at h;have hi:i<ops.length:=by
  grind
 have f:k<ops.length:=by
  grind
 have:=h i hi k f;simp_all
section
variable {P:Program} {E:Env} {M:Perm} {w0:World} {nt:Nat} {ds:List Deferred} {h:List Obj} {env:List (Nat×AV)} {ops:List Oper} {F:Nat→List Ent} {Q:Exit→Act→World→Prop}
theorem aDA{c c':Ctx}{w w':World}{I l2:Nat→Prop}(he:∀k,k<ops.length→(I k↔l2 k))(hF:aAm E h env ops F){a:Act}(hm:Mid E M w0 nt ds h env ops F c w I c' a w'):Mid E M w0 nt ds h env ops F c w l2 c' a w':=by
 have g:∀k o,ops[k]? = some o→k<ops.length:=fun k o z=>by
  grind
 refine⟨hm.later,hm.n,hm.good,hm.size,hm.defers,fun t ht=>hm.base t fun k o hk z=>ht k o ((he k (g k o z)).1 hk) z,fun i e hi f=>?_⟩;have q:i<ops.length:=by
  rcases Nat.lt_or_ge i ops.length with h|h
  ·exact h
  ·rw[(lC hF ops.length (Nat.le_refl _) i).2 h] at f; cases f
 exact hm.ent i e ((he i q).2 hi) f
theorem aPv{c:Ctx}{a:Act}{w:World}(hs:Sim E M w0 nt ds c env h a w):Mid E M w0 nt ds h env ops F c w (fun _=>False) c a w :=
 ⟨.refl _ _,⟨rfl,rfl⟩,hs.good,hs.size,hs.defers,fun t _=>hs.env t,fun i e hi=>hi.elim⟩
theorem aZj(hF:aAm E h env ops F){c c':Ctx}{a:Act}{w w':World}(q:sY E.G c.S w)(hm:Mid E M w0 nt ds h env ops F c w (fun k=>k<ops.length) c' a w'):Sim E M w0 nt ds c' (kM (F ops.length) env) h a w':=by
 refine⟨hm.good,q.mono hm.later.le.S hm.later.same,fun t=>?_,hm.size,hm.defers⟩;rw[aJg];cases he:aEb (F ops.length) t with
 | none=>exact hm.base t fun k o hk z=>aL5 hF _ (Nat.le_refl _) t he k o hk z
 | some e =>
  obtain⟨e1,I,g,_⟩:=aHr hF _ (Nat.le_refl _) t e he;simp only;split
  ·rename_i f;have:=(hm.ent e.i e e1 g).1 (by rw[f]; trivial);simp_all
  ·trivial
theorem aM8(O:eQ P E)(hF:aAm E h env ops F)(f:∀o∈ops,eZ nt o=true)(U:aIk ops=true){c:Ctx}{w:World}(hglob:sY E.G c.S w)
  (Y:∀c' N w',Mid E M w0 nt ds h env ops F c w (fun k=>k<ops.length) c' N w'→Q .normal N w'):∀(m i:Nat),i+m=ops.length→ ∀(c':Ctx) (a:Act) (w':World),Mid E M w0 nt ds h env ops F c w (fun k=>k<i) c' a w'→wpOps P ops.toArray Q (List.range' i m) a w'
 | 0,i,hi,c',a,w',hm=>by
  simp only[List.range'_zero,wpOps];have:i=ops.length:=by omega
  subst this;grind
 | m+1,i,hi,c',a,w',hm=>by
  rw[List.range'_succ,wpOps_cons];have L:ops[i]? = some ops[i]:=List.getElem?_eq_getElem (by omega);obtain⟨d,Z,J,_,_⟩:=hF.step i _ L;refine aUc O hF f hglob hm L (Nat.lt_irrefl i) (fun t _ k ok _ _=>⟨fun h=>h,fun h1 h2=>by omega⟩) (fun j p W=>?_) (fun k ok hk hd=>aTD U L hk hd (by simp_all)) fun g q z I _=>?_
  ·rw[W] at J;simp only[aFK] at J;rcases Nat.lt_or_ge j i with h|h
   ·exact h
   ·rw[(lC hF i (by omega) j).2 h] at J; simp_all
  ·exact aM8 O hF f U hglob Y m (i+1) (by omega) g q z (aDA (fun k _=>by omega) hF I)
theorem bBJ(L:eQ P E)(q:∀o∈ops,eZ nt o=true)(N:aIk ops=true){c:Ctx}{a:Act}{w:World}(hs:Sim E M w0 nt ds c env h a w){K:List Ent→Prop}(hv:vcA E h env ops 0 [] K){id:Nat}
  (J:∀f c' g w',K f→dG c w c' w'→c'.n=c.n→Sim E M w0 nt ds c' (kM f env) h g w'→Q .normal g w'):(Code.region id ops.toArray false).wp P Q a w:=by
 obtain⟨F,I,O,z⟩:=aHq ops 0 [] K hv;have hF:aAm E h env ops F:=⟨I,fun i o U=>by simp_all⟩;simp only[Nat.zero_add] at z;refine wp_region ?_;have:=aM8 (Q:=Q) L hF q N hs.glob (fun c' g w' hm=>J _ c' g w' z hm.later hm.n.1 (aZj hF hs.glob hm)) ops.length 0 (by omega) c a w (aDA (fun k _=>by simp) hF (aPv hs));grind[List.range_eq_range']
theorem aZk(hE:eQ P E)(hF:aAm E h env ops F)(hok:∀o∈ops,eZ nt o=true)(hu:aIk ops=true)(g:aZi ops=true){c:Ctx}{w:World}(hglob:sY E.G c.S w)
  (hQ:∀c' a' w',Mid E M w0 nt ds h env ops F c w (fun k=>k<ops.length) c' a' w'→Q .normal a' w'):∀(f:Nat) (listed:Array Bool),listed.size=ops.length→((List.range ops.length).filter fun k=> !listed.getD k false).length=f →
   (∀k o,ops[k]? = some o→listed.getD k false=true→ ∀e∈o.after,Region.binds .any e=true→listed.getD e.on false=true) →
   ∀(c':Ctx) (a:Act) (w':World),Mid E M w0 nt ds h env ops F c w (fun k=>listed.getD k false=true) c' a w'→wpAny P .any ops.toArray Q f listed a w':=by
 have hanyI:∀i o,ops[i]? = some o→(∀e∈o.after,Region.binds .any e=true→e.on<i)∧(∀j p,o.guard=some (j,p)→ ∃e∈o.after,Region.binds .any e=true∧e.on=j) ∧
   (∀t,Operand.tmp t∈o.op.operands→ ∀k ok,ops[k]? = some ok→ok.dst=some t→k=i∨(k<i∧ ∃e∈o.after,Region.binds .any e=true∧e.on=k)∨(i<k∧ ∃e∈ok.after,Region.binds .any e=true∧e.on=i)):=by
  intro i o z;have hi:i<ops.length:=by
   grind
  simp only[aZi,List.all_eq_true,List.mem_range] at g;have:=g i hi;rw[z] at this;simp only[Bool.and_eq_true,List.all_eq_true,Array.mem_toList_iff] at this;obtain⟨⟨h1,h2⟩,h3⟩:=this;refine⟨fun e he hb=>?_,fun j p hg=>?_,fun t ht k ok hk hd=>?_⟩
  ·grind
  ·grind
  ·have:=h3 _ ht;simp only[List.all_eq_true,List.mem_range] at this;have J:k<ops.length:=by
    grind
   have:=this k J;rw[hk] at this;simp only[hd,ne_eq,not_true_eq_false,decide_false,Bool.false_or,Bool.or_eq_true,decide_eq_true_eq,Bool.and_eq_true,List.any_eq_true,Array.mem_toList_iff] at this;rcases this with (h|h)|h
   all_goals simp_all
 intro f
 induction f with
 | zero =>
  intro listed hsz I hcl c' a w' hm;have q:∀k,k<ops.length→listed.getD k false=true:=fun k hk=>by
   simp_all
  refine⟨?_,hQ c' a w' (aDA (fun k hk=>⟨fun _=>hk,fun _=>q k hk⟩) hF hm)⟩;rw[List.eq_nil_iff_forall_not_mem];grind[mem_ready,Nat.lt_or_ge,List.getElem?_eq_none]
 | succ f ih =>
  intro listed hsz I hcl c' a w' hm;refine⟨fun hr=>?_,fun i hi=>?_⟩
  ·exfalso;have hex:∃k,k<ops.length∧listed.getD k false=false:=by
    have Y:((List.range ops.length).filter fun k=> !listed.getD k false)≠ []:=fun e=>(by grind);obtain⟨k,hk⟩:=List.exists_mem_of_ne_nil _ Y;grind
   have W:∃k,(k<ops.length∧listed.getD k false=false)∧ ∀j,j<k→ ¬(j<ops.length∧listed.getD j false=false):=by
    obtain⟨k,hk⟩:=hex
    induction k using Nat.strongRecOn with
    | _ k ihk =>
     grind
   obtain⟨k,⟨hk,hun⟩,hlow⟩:=W;have O:k∈Region.ready .any ops.toArray listed:=by
    rw[mem_ready];have U:k<listed.size:=(by omega);refine⟨by grind,ops[k],by simp[hk],fun e he hb=>?_⟩;grind
   grind
  ·obtain⟨h1,o,z,q⟩:=mem_ready.1 hi;have z:ops[i]? = some o:=(by grind);have hil:i<ops.length:=by
    grind
   have U:i<listed.size:=(by omega);have hni:¬listed.getD i false=true:=(by grind);obtain⟨a1,a2,a3⟩:=hanyI i o z;obtain⟨d,s1,_,_,_⟩:=hF.step i _ z;refine aUc hE hF hok hglob hm z hni (fun t ht k ok hk hd=>?_) (fun j p hg=>?_) (fun k ok hk hd=>aTD hu z hk hd (by grind)) fun c'' a'' Z hm' _=>?_
   ·rcases a3 t ht k ok hk hd with h|⟨h,e,he,hb,hon⟩|⟨h,e,he,hb,hon⟩
    all_goals grind
   ·grind
   ·have N:∀k,(listed.setIfInBounds i true).getD k false=true↔(listed.getD k false=true∨k=i):=fun k=>by
     by_cases e:i=k
     ·subst e; simp[U]
     ·rw[getD_set_ne false e];grind
    refine ih (listed.setIfInBounds i true) (by grind) ?_ (fun k o' hk J e he hb=>?_) c'' a'' Z (aDA (fun k _=>(N k).symm) hF hm')
    ·have L:((List.range ops.length).filter fun k=> !(listed.setIfInBounds i true).getD k false)=((List.range ops.length).filter fun k=> !listed.getD k false).filter (fun k=>decide (k≠i)):=by
      rw[List.filter_filter];grind
     rw[L];have hnd:((List.range ops.length).filter fun k=> !listed.getD k false).Nodup:=List.nodup_range.filter _;have O:i∈((List.range ops.length).filter fun k=> !listed.getD k false):=by
      grind
     have:=hnd.erase_eq_filter i;grind
    grind
theorem aM9(W:eQ P E)(q:P.follows .mixedOrders=true)(L:∀o∈ops,eZ nt o=true)(Y:aIk ops=true)(I:aZi ops=true){c:Ctx}{a:Act}{w:World}(hs:Sim E M w0 nt ds c env h a w){K:List Ent→Prop}(hv:vcA E h env ops 0 [] K){id:Nat}
  (U:∀z c' J w',K z→dG c w c' w'→c'.n=c.n→Sim E M w0 nt ds c' (kM z env) h J w'→Q .normal J w'):(Code.region id ops.toArray true).wp P Q a w:=by
 obtain⟨F,O,f2,N⟩:=aHq ops 0 [] K hv;have hF:aAm E h env ops F:=⟨O,fun i o Z=>by simp_all⟩;simp only[Nat.zero_add] at N;refine wp_region_any q ?_;have f:dG c w c { w with drawn:=w.drawn+1 }:=⟨.refl _,fun b hb=>rfl⟩;have g:Sim E M w0 nt ds c env h a { w with drawn:=w.drawn+1 } :=
  ⟨hs.good.step f rfl rfl ⟨rfl,rfl,rfl,Nat.le_refl _,fun _ _ _=>rfl⟩ (fun _ _ _ _ _=>rfl) hs.good.sfin (fun _ hb=>.inl hb),sY.mono (w:=w) (w':={ w with drawn:=w.drawn+1 }) (fun _ hb=>hb) f.same hs.glob,hs.env.keep f,hs.size,hs.defers⟩
 refine aZk (Q:=Q) W hF L Y I g.glob (fun c' J w' hm=>U _ c' J w' N (f.trans hm.later) hm.n.1 (aZj hF g.glob hm)) _ _ (by simp) ?_ (fun k o Z hl=>?_) c a _ (aDA (fun k hk=>?_) hF (aPv g))
 ·rw[List.filter_eq_self.2 (fun k hk=>by simp_all)]; simp
 ·exfalso;by_cases hk:k<ops.length<;>simp[hk] at hl
 ·simp[hk]
end
end Go.Vc
namespace Go.Vc
open Go.RowKit
def Ctx.push(c:Ctx)(v:Value):Ctx:=⟨c.S,fun i=>if i=c.n then v else c.hd i,c.n+1,c.bl⟩
theorem Ctx.le_push(c:Ctx)(v:Value):c.le (c.push v):=⟨fun _ h=>h,Nat.le_succ _,fun i hi=>by grind[push,Nat.ne_of_lt]⟩
section
variable {P:Program} {T:Tab} {M:Perm} {w0:World} {c:Ctx} {h:List Obj} {w:World}
theorem Good.push(g:Good M w0 c h w){w':World}(hk:fB nothing w w'){o:Obj}{hv:Value}(hob:aIL (c.push hv) w' c.n o)(hb:∀b,dP (c.push hv) c.n o b→w.heap.size≤b∧b<w'.heap.size) :
  Good M w0 (c.push hv) (h++ [o]) w'∧dG c w (c.push hv) w':=by
 have hl:dG c w (c.push hv) w':=⟨c.le_push hv,fun b L=>hk.block b (g.sfin b L) (fun f=>f)⟩;have hcase:∀i o',(h++ [o])[i]? = some o'→(h[i]? = some o'∧i<c.n)∨(i=c.n∧o'=o):=fun i o' z=>by
  rw[g.n];grind
 refine⟨⟨by simp[Ctx.push,g.n],g.keeps.trans hk.any,fun b L=>Nat.lt_of_lt_of_le (g.sfin b L) hk.size,g.src,fun i o' z=>?_,fun i o' b z q=>?_,fun i j oi oj b hi hj I J=>?_,aEh g.root hl.le⟩,hl⟩
 ·rcases hcase i o' z with⟨z,hi⟩|⟨rfl,rfl⟩
  ·exact(g.objs i o' z).keep hl hi rfl (fun b q=>hk.block b (g.own i o' b z q).2.1 (fun f=>f))
  omega
 ·rcases hcase i o' z with⟨z,hi⟩|⟨rfl,rfl⟩
  ·rw[eR hl.le rfl hi] at q;obtain⟨Z,Y,h3⟩:=g.own i o' b z q;exact⟨Z,Nat.lt_of_lt_of_le Y hk.size,h3⟩
  ·obtain⟨Z,Y⟩:=hb b q;exact⟨.inl (Nat.le_trans g.keeps.size Z),Y,fun hS=>by have:=g.sfin b hS; omega⟩
 ·rcases hcase i oi hi with⟨N,O⟩|⟨ei,eo⟩<;>rcases hcase j oj hj with⟨W,U⟩|⟨ej,eo'⟩
  ·rw[eR hl.le rfl O] at I;rw[eR hl.le rfl U] at J;exact g.sep i j oi oj b N W I J
  ·subst ej; subst eo';rw[eR hl.le rfl O] at I;have:=(g.own i oi b N I).2.1;grind
  ·subst ei; subst eo;rw[eR hl.le rfl U] at J;have:=(g.own j oj b W J).2.1;grind
  omega
theorem Good.modifyG(f:Good M w0 c h w){i:Nat}{o o':Obj}{b:Nat}(O:h[i]? = some o)(hb:dP c i o b){w':World}(hos:w'.os=w.os)(htp:w'.tape=w.tape)(U:w'.output=w.output)(J:w'.heap.size=w.heap.size)
  (hsame:∀k,k≠b→w'.heap[k]? = w.heap[k]?) (hob:aIL c w' i o') (L:∀b',dP c i o' b'→dP c i o b') :
  Good M w0 c (h.set i o') w'∧dG c w c w':=by
 obtain⟨hB,hblt,hnS⟩:=f.own i o b O hb;have hl:dG c w c w':=⟨.refl _,fun k hk=>hsame k (fun e=>hnS (e▸hk))⟩;have hil:i<h.length:=aA3 O;have hcase:∀j g,(h.set i o')[j]? = some g→(j≠i∧h[j]? = some g)∨(j=i∧g=o'):=fun j g z=>by
  grind
 refine⟨⟨by simp[f.n],⟨hos.trans f.keeps.os,htp.trans f.keeps.tape,U.trans f.keeps.output,by rw[J]; exact f.keeps.size,fun k hk hM=>?_⟩,fun k hk=>by rw[J]; exact f.sfin k hk,f.src,fun j g z=>?_,fun j g b' z q=>?_,fun j k g ok b' z hk q N=>?_,f.root⟩,hl⟩
 ·have I:k≠b:=by
   grind
  rw[hsame k I]; exact f.keeps.block k hk hM
 ·rcases hcase j g z with⟨I,z⟩|⟨rfl,rfl⟩
  ·refine(f.objs j g z).keep hl (by rw[f.n]; grind) rfl (fun b' W=>hsame b' (fun e=>I ?_));subst e;exact f.sep j i g o b' z O W hb
  omega
 ·rw[J];rcases hcase j g z with⟨I,z⟩|⟨rfl,rfl⟩
  ·exact f.own j g b' z q
  ·exact f.own _ _ b' O (L b' q)
 ·rcases hcase j g z with⟨hnj,Z⟩|⟨ej,eo⟩<;>rcases hcase k ok hk with⟨hnk,Y⟩|⟨ek,eo'⟩
  ·exact f.sep j k g ok b' Z Y q N
  ·subst ek; subst eo';exact absurd (f.sep j k g o b' Z O q (L b' N)) hnj
  ·subst ej; subst eo;exact absurd (f.sep k j ok o b' Y O N (L b' q)) hnk
  omega
theorem Good.modify(L:Good M w0 c h w){i:Nat}{o o':Obj}{b:Nat}(N:h[i]? = some o)(hb:dP c i o b){w':World}(q:w'.os=w.os)(g:w'.tape=w.tape)(f:w'.output=w.output)(z:w'.heap.size=w.heap.size)
  (hsame:∀k,k≠b→w'.heap[k]? = w.heap[k]?) (I:aIL c w' i o') (J:∀b',dP c i o' b'→b'=b) :
  Good M w0 c (h.set i o') w'∧dG c w c w' :=
 L.modifyG N hb q g f z hsame I fun b' h'=>by grind
def freeze(i:Nat)(h:List Obj):List Obj :=
 match h[i]? with
 | some (.row _ t f)=>h.set i (.frz t f)
 | some (.tre _ _ t f)=>h.set i (.frz t f)
 | _=>h
def Ctx.moreP(c:Ctx)(p:Nat→Prop):Ctx:=⟨fun b=>c.S b∨p b,c.hd,c.n,c.bl⟩
theorem Good.giveP(q:Good M w0 c h w){i:Nat}{o:Obj}(U:h[i]? = some o){t:Ty}{xs:List t.den}(Z:bC w (c.moreP (dP c i o)).S (.sl t) xs [c.hd i]):∃c',dG c w c' w∧c'.n=c.n∧Good M w0 c' (h.set i (.frz t xs)) w:=by
 have J:c.le (c.moreP (dP c i o)):=⟨fun b hb=>.inl hb,Nat.le_refl _,fun _ _=>rfl⟩;have hl:dG c w (c.moreP (dP c i o)) w:=⟨J,.refl _ _⟩;have hil:i<h.length:=aA3 U;have hcase:∀j f,(h.set i (.frz t xs))[j]? = some f→(j≠i∧h[j]? = some f)∨(j=i∧f= .frz t xs):=fun j f g=>by
  grind
 have N:∀j f,dP (c.moreP (dP c i o)) j f=dP c j f:=fun j f=>by rfl
 refine⟨_,hl,rfl,by simp[Ctx.moreP,q.n],q.keeps,fun b hb=>?_,fun b hb W=>?_,fun j f g=>?_,fun j f b g hb=>?_,fun j k f ok b g hk z I=>?_,aEh q.root J⟩
 ·rcases hb with hb|hb
  ·exact q.sfin b hb
  ·exact(q.own i _ b U hb).2.1
 ·rcases hb with hb|hb
  ·exact q.src b hb W
  ·rcases (q.own i _ b U hb).1 with Y|Y
   all_goals grind
 ·rcases hcase j f g with⟨L,g⟩|⟨rfl,rfl⟩
  ·exact(q.objs j f g).keep hl (by rw[q.n]; grind) rfl (fun _ _=>rfl)
  ·exact Z
 ·rcases hcase j f g with⟨L,g⟩|⟨rfl,rfl⟩
  ·rw[N] at hb;obtain⟨Y,h2,h3⟩:=q.own j f b g hb;refine⟨Y,h2,fun O=>?_⟩;rcases O with O|O
   ·grind
   ·exact L (q.sep j i f _ b g U hb O)
  ·cases hb
 ·rcases hcase j f g with⟨hnj,g⟩|⟨rfl,rfl⟩
  ·rcases hcase k ok hk with⟨hnk,hk⟩|⟨rfl,rfl⟩
   ·rw[N] at z I;exact q.sep j k f ok b g hk z I
   ·cases I
  ·cases z
def Ctx.more(c:Ctx)(b? : Option Nat):Ctx:=⟨fun b=>c.S b∨b? = some b,c.hd,c.n,c.bl⟩
theorem Good.freeze(f:Good M w0 c h w)(i:Nat):∃c',dG c w c' w∧c'.n=c.n∧Good M w0 c' (freeze i h) w:=by
 unfold Vc.freeze;split
 ·rename_i e t z g;exact f.giveP g (aBI.toC (f.objs i _ g) (fun b hb=>.inl hb) (fun b hb=>.inr hb))
 ·rename_i e m t z g;obtain⟨B,q,_,h3⟩:=f.objs i _ g;exact f.giveP g (kT.toC (fun b hb=>.inl hb) _ _ _ _ _ (fun b hb=>.inr (h3 b hb)) q)
 ·exact⟨c,.refl _ _,rfl,f⟩
def freezeAll:List Nat→List Obj→List Obj
 | [],h=>h
 | i::r,h=>freezeAll r (freeze i h)
theorem Good.freezeAll:∀(J:List Nat) {c:Ctx} {h:List Obj},Good M w0 c h w→ ∃c',dG c w c' w∧c'.n=c.n∧Good M w0 c' (freezeAll J h) w
 | [],c,h,f=>⟨c,.refl _ _,rfl,f⟩
 | i::r,c,h,f=>by
  obtain⟨c1,I,L,h3⟩:=f.freeze i;obtain⟨N,g,q,z⟩:=Good.freezeAll r h3;exact⟨N,I.trans g,q.trans L,z⟩
def uQ:(t:Ty)→t.den→List AV
 | .pair a r,x=>.val a x.1::uQ r x.2
 | .expr,x=>[.val (.i .i64) x.kind,.val .str x.text,.val (.sl .expr) x.l]
 | _,_=>[]
def aPw(v:AV)(k:Nat)(u:AV):AV :=
 match v with
 | .val t x=>aI5 t ((uQ t x).set k u)
 | .agg f=>.agg (f.set k u)
 | _=>.junk
def aFL(v:AV)(i:Nat)(u:AV):AV :=
 match v with
 | .val (.arr n t) f=>match AV.as [] t u with
  | some x=>.val (.arr n t) (f.set i x)
  | none=>.junk
 | _=>.junk
def aDB:AV→List Step→AV→Prop×AV
 | v,[],u=>(v.solid=true∧u.solid=true∧v.nc=u.nc,u)
 | v,.fld off k::p,u=>(v.solid=true∧off=(dC v k).2∧(aDB (dC v k).1 p u).1∧(aDB (dC v k).1 p u).2.solid1=true∧aPw v k (aDB (dC v k).1 p u).2≠ .junk,aPw v k (aDB (dC v k).1 p u).2)
 | v,.idx s i::p,u=>((elemOf v i).1∧s=aYj v∧(aDB (elemOf v i).2 p u).1∧aFL v i (aDB (elemOf v i).2 p u).2≠ .junk,aFL v i (aDB (elemOf v i).2 p u).2)
def Ty.strB:Ty→Bool
 | .unit=>true
 | .pair _ r=>r.strB
 | .expr=>true
 | _=>false
theorem aQU:∀(t:Ty) (x:t.den) (cs:List Value),t.strB=true→bC w c.S t x cs→jY c w (uQ t x) cs∧(∀v∈uQ t x,v.solid1=true)
 | .unit,_,cs,_,f=>⟨f,fun v hv=>by cases hv⟩
 | .pair a r,x,cs,hs,⟨c1,z,e,I,J⟩=>by
  obtain⟨q1,L⟩:=aQU r x.2 z hs J;refine⟨⟨c1,z,e,I,q1⟩,fun v hv=>?_⟩;rcases List.mem_cons.1 hv with rfl|hv
  ·rfl
  simp_all
 | .bool,_,_,hs,_=>by grind[Ty.strB]
 | .u _,_,_,hs,_=>by grind[Ty.strB]
 | .i _,_,_,hs,_=>by grind[Ty.strB]
 | .str,_,_,hs,_=>by grind[Ty.strB]
 | .sl _,_,_,hs,_=>by grind[Ty.strB]
 | .arr _ _,_,_,hs,_=>by grind[Ty.strB]
 | .expr,x,cs,_,f=>by
  have h0:=aMU (c:=c) .expr x 0 cs f (by simp[aIO]);refine⟨?_,fun v hv=>by simp[uQ] at hv; rcases hv with rfl|rfl|rfl<;>rfl⟩;cases f with
  | mk k s l a len g q hk hs hl hc hm f ha =>
   exact⟨[_],[_,_],rfl,⟨rfl,rfl,hk.1,hk.2⟩,[_],[_],rfl,⟨s,rfl,rfl,hs⟩,[_],[],rfl,⟨a,len,g,rfl,hl,hc,hm,ha.imp id fun⟨b,off,e,hb,hcell⟩=>⟨b,off,e,hb,fun i hi=>⟨q i,f i hi,hcell i hi⟩⟩⟩,rfl⟩
 | .rp _,_,_,hs,_=>by grind[Ty.strB]
 | .clo _ _,_,_,hs,_=>by grind[Ty.strB]
theorem aIl:∀(t:Ty) (x:t.den) (k:Nat),aIO t x k≠ .junk→t.strB=true→k<(uQ t x).length∧(dC (.agg (uQ t x)) k)=(aIO t x k,t.fieldOff k)
 | .pair a r,x,0,_,_=>⟨by simp[uQ],rfl⟩
 | .pair a r,x,k+1,f,hs=>by
  obtain⟨g,q⟩:=aIl r x.2 k f hs;refine⟨by simp[uQ,g],?_⟩;simp only[uQ,dC,q];rfl
 | .unit,x,k,f,_=>absurd rfl f
 | .expr,x,k,f,_=>by
  match k,f with
  | 0,_=>exact⟨by simp[uQ],rfl⟩
  | 1,_=>exact⟨by simp[uQ],rfl⟩
  | 2,_=>exact⟨by simp[uQ],rfl⟩
  | k+3,f=>exact absurd rfl f
 | .bool,x,k,f,hs=>absurd rfl f
 | .u _,x,k,f,hs=>absurd rfl f
 | .i _,x,k,f,hs=>absurd rfl f
 | .str,x,k,f,hs=>absurd rfl f
 | .sl _,x,k,f,hs=>absurd rfl f
 | .arr _ _,x,k,f,hs=>absurd rfl f
 | .rp _,x,k,f,hs=>absurd rfl f
 | .clo _ _,x,k,f,hs=>absurd rfl f
theorem aZl:∀ {vs:List AV} {cs:List Value} {k:Nat},jY c w vs cs→(∀v∈vs,v.solid1=true)→k<vs.length→ ∃pre ds post,cs=pre++ds++post∧pre.length=(dC (.agg vs) k).2∧aN c w (dC (.agg vs) k).1 ds∧ ∀(u:AV) (f:List Value),aN c w u f→jY c w (vs.set k u) (pre++f++post)
 | [],_,_,_,_,hk=>by grind
 | v::r,cs,0,I,hs,_=>by
  obtain⟨c1,L,e,q,J⟩:=I;exact⟨[],c1,L,by simp_all,rfl,q,fun u f z=>by simp only[List.set_cons_zero,jY,List.nil_append]; grind⟩
 | v::r,cs,k+1,I,hs,hk=>by
  obtain⟨c1,L,e,q,J⟩:=I;obtain⟨pre,ds,post,N,hp,hd,g⟩:=aZl (k:=k) J (fun u z=>hs u (by simp[z])) (by simp_all);refine⟨c1++pre,ds,post,by simp_all,?_,hd,fun u f z=>?_⟩
  ·rw[List.length_append,aL1 (hs v (by simp)) q,hp]; rfl
  ·simp only[List.set_cons_succ,jY];exact⟨c1,pre++f++post,by simp,q,g u f z⟩
theorem bG0{v u:AV}{k:Nat}{cs:List Value}(hs:v.solid=true)(J:aN c w v cs)(q:∀t x,v= .val t x→t.strB=true)(L:(dC v k).1≠ .junk) :
  ∃pre ds post,cs=pre++ds++post∧pre.length=(dC v k).2∧aN c w (dC v k).1 ds∧ ∀f,aN c w u f→aN c w (aPw v k u) (pre++f++post):=by
 cases v with
 | val t x =>
  have g:=q t x rfl;obtain⟨q1,W⟩:=aQU (c:=c) (w:=w) t x cs g J;obtain⟨N,O⟩:=aIl t x k (by grind[dC]) g;obtain⟨pre,ds,post,e,hp,hd,z⟩:=aZl q1 W N;rw[O] at hp hd;refine⟨pre,ds,post,e,by grind[dC],by grind[dC],fun f Y=>?_⟩;simp only[aPw];have:=aM1 (t:=t) (c:=c) (w:=w) (cells:=(pre++f++post).toArray) (by simpa using z u f Y);have U:xQ c w (aI5 t ((uQ t x).set k u)) (.agg (pre++f++post).toArray):=by
   revert this;unfold aI5;split<;>exact fun h=>h
  simpa [Value.cells] using U.1
 | agg I =>
  simp only[aN] at J;simp only[AV.solid,List.all_eq_true] at hs;have hk:k<I.length:=by
   rcases Nat.lt_or_ge k I.length with h|h
   ·exact h
   ·exfalso; apply L;clear hs J L q
    induction I generalizing k with
    | nil=>simp[dC]
    | cons v r Z=>cases k with
     | zero=>simp at h
     | succ k=>grind[dC]
  grind[aZl,aPw,aN]
 | _=>grind[dC]
theorem bD4{v u:AV}{i:Nat}{cs:List Value}(U:aN c w v cs)(h:(elemOf v i).1)(z:aFL v i u≠ .junk) :
  ∃pre ds post,cs=pre++ds++post∧pre.length=i*aYj v∧aN c w (elemOf v i).2 ds∧ ∀g,g.length=ds.length→aN c w u g→aN c w (aFL v i u) (pre++g++post):=by
 cases v with
 | val t x =>
  cases t with
  | arr n t =>
   simp only[elemOf] at h ⊢;obtain⟨hn,f,e,hl,q⟩:=U;have I:i<f.length:=(by omega);obtain⟨pre,post,L,hp⟩:=kZ (t:=t) (css:=f) (fun j z=>bC.length _ _ _ (q j (by omega) z)) i I;refine⟨pre,f[i],post,by grind,hp,?_,fun g W hu=>?_⟩
   ·have:=q i (by omega) (by omega);simp only[aN];rw[List.getD_eq_getElem?_getD,List.getElem?_eq_getElem (by omega)];exact this
   ·simp only[aFL] at z ⊢;split at z
    ·rename_i y hy;have N:=(aM1.as_nil t u y g hy hu).1;have J:((f.take i).flatten).length=i*t.cells:=by
      rw[jC (n:=t.cells) (fun j z=>?_)]
      ·rw[List.length_take,Nat.min_eq_left (by omega)]
      ·simp at z; simp only[List.getElem_take]; exact bC.length _ _ _ (q j (by omega) (by omega))
     have O:f=f.take i++ [f[i]]++f.drop (i+1):=(by simp);have h3:f.flatten=(f.take i).flatten++f[i]++(f.drop (i+1)).flatten:=by
      grind
     rw[h3,List.append_assoc,List.append_assoc] at L;obtain⟨q1,Y⟩:=List.append_inj L (by omega);obtain⟨q3,Z⟩:=List.append_inj Y rfl;refine⟨by grind,f.set i g,?_,by grind,fun j h1 h2=>?_⟩
     ·rw[← q1,← Z,List.set_eq_take_append_cons_drop,if_pos I];simp
     grind[List.getElem_set_self,List.getElem_set_ne]
    simp_all
  | _=>exact h.elim
 | _=>exact h.elim
def aE5:AV→List Step→Bool
 | _,[]=>true
 | .val t x,.fld _ k::p=>t.strB&&aE5 (dC (.val t x) k).1 p
 | v,.fld _ k::p=>aE5 (dC v k).1 p
 | v,.idx _ i::p=>aE5 (elemOf v i).2 p
theorem aNa:∀(p:List Step) (v u:AV) (cs:List Value),aN c w v cs→(aDB v p u).1→aE5 v p=true→ ∃pre ds post,cs=pre++ds++post∧pre.length=mH p∧(∀g,aN c w u g→g.length=ds.length∧aN c w (aDB v p u).2 (pre++g++post))
 | [],v,u,cs,U,h,_=>by
  obtain⟨h1,I,h3⟩:=h;exact⟨[],cs,[],by simp,rfl,fun g hu=>⟨by grind[aTW],by grind[aDB]⟩⟩
 | .fld off k::p,v,u,cs,U,h,hb=>by
  simp only[aDB] at h ⊢;obtain⟨hs,ho,I,h3,Z⟩:=h;have hj:(dC v k).1≠ .junk:=by
   intro e;rw[e] at I;cases p with
   | nil=>obtain⟨q,_⟩:=I; simp[AV.solid,AV.solid1] at q
   | cons s p=>cases s with
    | fld _ _=>obtain⟨q,_⟩:=I; simp[AV.solid,AV.solid1] at q
    | idx _ _=>exact I.1.elim
  have W:∀t x,v= .val t x→t.strB=true:=fun t x e=>by simp_all[aE5,Bool.and_eq_true]
  have J:aE5 (dC v k).1 p=true:=by
   cases v<;>first|simp_all[aE5,Bool.and_eq_true]|grind[aE5]
  obtain⟨pre,ds,post,e,hp,hd,O⟩:=bG0 (u:=(aDB (dC v k).1 p u).2) hs U W hj;obtain⟨z,N,f,e2,Y,L⟩:=aNa p _ u ds hd I J;refine⟨pre++z,N,f++post,by simp_all,by grind[List.length_append,mH,Step.off],fun g hu=>?_⟩;grind
 | .idx s i::p,v,u,cs,U,h,hb=>by
  simp only[aDB] at h ⊢;obtain⟨hs,ho,I,Z⟩:=h;have J:aE5 (elemOf v i).2 p=true:=by grind[aE5]
  obtain⟨pre,ds,post,e,hp,hd,O⟩:=bD4 (u:=(aDB (elemOf v i).2 p u).2) U hs Z;obtain⟨z,N,f,e2,Y,L⟩:=aNa p _ u ds hd I J;refine⟨pre++z,N,f++post,by simp_all,by grind[List.length_append,mH,Step.off],fun g hu=>?_⟩;grind
end
end Go.Vc
namespace Go.Vc
open Go.RowKit
def Ctx.pushS(c:Ctx)(S':Nat→Prop)(v:Value):Ctx:=⟨S',fun i=>if i=c.n then v else c.hd i,c.n+1,c.bl⟩
section
variable {P:Program} {T:Tab} {M:Perm} {w0:World} {c:Ctx} {h:List Obj} {w:World}
theorem Good.pushS(q:Good M w0 c h w){w':World}(hk:fB nothing w w'){S':Nat→Prop}(hS:∀b,c.S b→S' b)(O:∀b,S' b→c.S b∨(w.heap.size≤b∧b<w'.heap.size)){o:Obj}{hv:Value}(hob:aIL (c.pushS S' hv) w' c.n o)
  (hb:∀b,dP (c.pushS S' hv) c.n o b→w.heap.size≤b∧b<w'.heap.size∧ ¬S' b) :
  Good M w0 (c.pushS S' hv) (h++ [o]) w'∧dG c w (c.pushS S' hv) w':=by
 have hl:dG c w (c.pushS S' hv) w':=⟨⟨hS,Nat.le_succ _,fun i hi=>by simp[Ctx.pushS,Nat.ne_of_lt hi]⟩,fun b g=>hk.block b (q.sfin b g) (fun f=>f)⟩;have hcase:∀i o',(h++ [o])[i]? = some o'→(h[i]? = some o'∧i<c.n)∨(i=c.n∧o'=o):=fun i o' I=>by
  rw[q.n];grind
 refine⟨⟨by simp[Ctx.pushS,q.n],q.keeps.trans hk.any,fun b g=>?_,fun b g hlt=>?_,fun i o' I=>?_,fun i o' b I z=>?_,fun i j oi oj b hi hj J L=>?_,aEh q.root hl.le⟩,hl⟩
 ·rcases O b g with g|g
  ·exact Nat.lt_of_lt_of_le (q.sfin b g) hk.size
  omega
 ·rcases O b g with g|g
  ·exact q.src b g hlt
  ·have:=q.keeps.size; omega
 ·rcases hcase i o' I with⟨I,hi⟩|⟨rfl,rfl⟩
  ·exact(q.objs i o' I).keep hl hi rfl (fun b z=>hk.block b (q.own i o' b I z).2.1 (fun f=>f))
  omega
 ·rcases hcase i o' I with⟨I,hi⟩|⟨rfl,rfl⟩
  ·rw[eR hl.le rfl hi] at z;obtain⟨h1,h2,h3⟩:=q.own i o' b I z;refine⟨h1,Nat.lt_of_lt_of_le h2 hk.size,fun N=>?_⟩;rcases O b N with N|N
   all_goals grind
  ·obtain⟨h1,h2,h3⟩:=hb b z;exact⟨.inl (Nat.le_trans q.keeps.size h1),h2,h3⟩
 ·rcases hcase i oi hi with⟨U,W⟩|⟨ei,eo⟩<;>rcases hcase j oj hj with⟨Z,Y⟩|⟨ej,eo'⟩
  ·rw[eR hl.le rfl W] at J;rw[eR hl.le rfl Y] at L;exact q.sep i j oi oj b U Z J L
  ·subst ej; subst eo';rw[eR hl.le rfl W] at J;have:=(q.own i oi b U J).2.1;grind
  ·subst ei; subst eo;rw[eR hl.le rfl Y] at L;have:=(q.own j oj b Z L).2.1;grind
  omega
theorem Good.regrow(f:Good M w0 c h w){i:Nat}{e:TypeId}{t:Ty}{xs:List t.den}(ho:h[i]? = some (.row e t xs)){w':World}(hk:w.grownBy w' (aW (c.hd i))){v':Value}{ys:List t.den}(hrow:aBI c w' e t ys v')
  (hb:∀b,aW v'=some b→aW (c.hd i)=some b∨(w.heap.size≤b∧b<w'.heap.size)):Good M w0 (c.push v') (h.set i .dead++ [.row e t ys]) w'∧dG c w (c.push v') w':=by
 have hil:i<h.length:=aA3 ho;have hother:∀b,b<w.heap.size→aW (c.hd i)≠some b→w'.heap[b]? = w.heap[b]? := fun b Y I=>hk.block b Y (fun e=>I e.symm);have hiS:∀b,c.S b→aW (c.hd i)≠some b:=fun b hS e=>(f.own i _ b ho e).2.2 hS;have hl:dG c w (c.push v') w':=⟨c.le_push v',fun b Z=>hother b (f.sfin b Z) (hiS b Z)⟩;have hcase:∀j o',(h.set i Obj.dead++ [Obj.row e t ys])[j]? = some o'→(h[j]? = some o'∧j<c.n∧j≠i)∨(j=c.n∧o'=Obj.row e t ys)∨o'=Obj.dead:=fun j o' hj=>by
  rw[f.n];grind
 have hpush:(c.push v').hd c.n=v':=by simp[Ctx.push]
 refine⟨⟨by simp[Ctx.push,f.n],⟨hk.os.trans f.keeps.os,hk.tape.trans f.keeps.tape,hk.output.trans f.keeps.output,Nat.le_trans f.keeps.size hk.size,fun b Y hM=>?_⟩,fun b Z=>Nat.lt_of_lt_of_le (f.sfin b Z) hk.size,f.src,fun j o' hj=>?_,fun j o' b hj q=>?_,fun j k oj ok b hj hk' J g=>?_,aEh f.root hl.le⟩,hl⟩
 ·have I:aW (c.hd i)≠some b:=fun e'=>by
   rcases (f.own i _ b ho e').1 with L|L
   all_goals grind
  rw[hother b (Nat.lt_of_lt_of_le Y f.keeps.size) I];exact f.keeps.block b Y hM
 ·rcases hcase j o' hj with⟨z,U,I⟩|⟨ej,W⟩|W
  ·exact(f.objs j o' z).keep hl U rfl (fun b q=>hother b (f.own j o' b z q).2.1 (fun e'=>I (f.sep j i o' _ b z ho q e')))
  ·subst ej; subst W;obtain⟨vals,L,h2⟩:=hrow;exact⟨vals,by simp_all,h2⟩
  ·subst W; trivial
 ·rcases hcase j o' hj with⟨z,U,I⟩|⟨ej,W⟩|W
  ·rw[eR hl.le rfl U] at q;obtain⟨L,h2,h3⟩:=f.own j o' b z q;exact⟨L,Nat.lt_of_lt_of_le h2 hk.size,h3⟩
  ·subst ej; subst W;have q:aW v'=some b:=(by rw[← hpush]; exact q);rcases hb b q with L|L
   ·obtain⟨q1,q2,q3⟩:=f.own i _ b ho L;exact⟨q1,Nat.lt_of_lt_of_le q2 hk.size,q3⟩
   ·exact⟨.inl (Nat.le_trans f.keeps.size L.1),L.2,fun hS=>by have:=f.sfin b hS; omega⟩
  ·subst W; cases q
 ·rcases hcase j oj hj with⟨z,U,I⟩|⟨ej,W⟩|W
  ·rw[eR hl.le rfl U] at J;rcases hcase k ok hk' with⟨N,hkn,hne'⟩|⟨ek,O⟩|O
   ·rw[eR hl.le rfl hkn] at g;exact f.sep j k oj ok b z N J g
   ·subst ek; subst O;have g:aW v'=some b:=(by rw[← hpush]; exact g);rcases hb b g with L|L
    ·exact absurd (f.sep j i oj _ b z ho J L) I
    ·have:=(f.own j oj b z J).2.1;omega
   ·subst O; cases g
  ·subst ej; subst W;have J:aW v'=some b:=(by rw[← hpush]; exact J);rcases hcase k ok hk' with⟨N,hkn,hne'⟩|⟨ek,O⟩|O
   ·rw[eR hl.le rfl hkn] at g;rcases hb b J with L|L
    ·exact absurd (f.sep k i ok _ b N ho g L) hne'
    ·have:=(f.own k ok b N g).2.1;omega
   ·omega
   ·subst O; cases g
  ·subst W; cases J
def aUd(h:List Obj):AV→AV
 | .own i=>match h[i]? with
  | some (.frz t f)=>.val (.sl t) f
  | _=>.own i
 | v=>v
def aZm(h:List Obj):AV→AV
 | .agg f=>.agg (f.map (aUd h))
 | v=>aUd h v
theorem bBK(g:Good M w0 c h w){v:AV}{cs:List Value}(f:aN c w v cs):aN c w (aUd h v) cs:=by
 unfold aUd;split
 ·rename_i i;split
  ·rename_i t z q;have:=g.objs i _ q;simp only[aN] at f;rw[f.2.1];exact this
  omega
 omega
theorem bBL(f:Good M w0 c h w):∀ {vs:List AV} {cs:List Value},jY c w vs cs→jY c w (vs.map (aUd h)) cs
 | [],_,g=>g
 | v::r,_,⟨c1,z,e,q,I⟩=>⟨c1,z,e,bBK f q,bBL f I⟩
theorem bFH(I:Good M w0 c h w){v:AV}{x:Value}(f:aZ c w v x):aZ c w (aZm h v) x:=by
 cases v with
 | agg L =>
  obtain⟨q,z,h3⟩:=f;exact⟨bBL I (by grind[aN]),z,h3⟩
 | own i =>
  simp only[aZm,aUd];split
  ·rename_i t N J;have:=I.objs i _ J;have g:=f;obtain⟨q,z,h3⟩:=f;simp only[aN] at q;have hx:=(aCW g).2;refine⟨?_,fun h=>by simp[AV.isAgg,Ty.isAgg] at h,fun _=>h3 rfl⟩;simp only[aN];rw[q.2.1];exact this
  omega
 | _=>exact f
def aHs(T:Tab)(h:List Obj)(t:TypeId)(a x:AV):Prop×AV×List Obj :=
 match a with
 | .ptr i p=>match h[i]? with
  | some (.box n .junk)=>match p with
   | []=>(n=x.nc∧n<4294967296∧x.solid=true∧ ∃f,T t=some f∧f.cells=x.nc,.junk,h.set i (.box n x))
   | _=>(False,.junk,h)
  | some (.box n v)=>((aDB v p x).1∧aE5 v p=true∧x.solid=true∧ ∃f,T t=some f∧f.cells=x.nc,.junk,h.set i (.box n (aDB v p x).2))
  | some (.row e f g)=>match p with
   | .idx s k::p=>match AV.as [] f (aDB (.val f (g.getD k f.zero)) p x).2 with
    | some y=>(k<g.length∧s=f.cells∧(aDB (.val f (g.getD k f.zero)) p x).1∧aE5 (.val f (g.getD k f.zero)) p=true∧x.solid=true∧ ∃c',T t=some c'∧c'.cells=x.nc,.junk,h.set i (.row e f (g.set k y)))
    | none=>(False,.junk,h)
   | _=>(False,.junk,h)
  | some (.trh e m f g q v)=>match p with
   | .idx s k::p=>(k=q∧s=f.cells∧(aDB v p x).1∧aE5 v p=true∧x.solid=true∧ ∃c',T t=some c'∧c'.cells=x.nc,.junk,h.set i (.trh e m f g q (aDB v p x).2))
   | _=>(False,.junk,h)
  | _=>(False,.junk,h)
 | _=>(False,.junk,h)
def aEc(f t:Ty)(xs:List f.den):Option (List t.den):=if e:f=t then some (e▸xs) else none
@[simp] theorem bD5{t:Ty}{xs:List t.den}:aEc t t xs=some xs:=by simp[aEc]
theorem aE6{f t:Ty}{xs:List f.den}{ys:List t.den}(h:aEc f t xs=some ys):∃e:f=t,ys=e▸xs:=by
 unfold aEc at h;grind
theorem bIn(h:List Obj)(i:Nat)(t:Ty):rowOf h i t=match h[i]? with
  | some (.row _ f g)=>aEc f t g
  | some (.frz f g)=>aEc f t g
  | some (.tre _ _ f g)=>aEc f t g
  | _=>none:=by
 rfl
def bound(f:Ty)(n:Nat):Prop:=n≤maxLen∧n*f.byt≤140737488355328
def xS(E:Env)(h:List Obj)(t:TypeId)(s x:AV):Prop×AV×List Obj :=
 match E.T t with
 | some (.sl f)=>match AV.as (if f.scalar then h else h.map dY) (.sl f) x with
  | some g=>match s with
   | .nilS=>(bound f g.length∧f.okB=true,.own h.length,h++ [.row (E.el t) f g])
   | .own i=>match h[i]? with
    | some (.row e c' q)=>match aEc c' f q with
     | some q=>(e=E.el t∧bound f (q.length+g.length)∧f.okB=true,.own h.length,h.set i .dead++ [.row (E.el t) f (q++g)])
     | none=>(False,.junk,h)
    | _=>(False,.junk,h)
   | _=>(False,.junk,h)
  | none=>(False,.junk,h)
 | _=>(False,.junk,h)
def aPx(E:Env)(h:List Obj)(t:TypeId)(l cp:AV):Prop×AV×List Obj :=
 match E.T t with
 | some (.sl f)=>match aDx l,aDx cp with
  | some n,some m=>(f.okB=true∧0≤n∧n≤m∧(f.byt:Int)*m≤281474976710656∧m≤maxLen,.own h.length,h++ [.row (E.el t) f (List.replicate n.toNat f.zero)])
  | _,_=>(False,.junk,h)
 | _=>(False,.junk,h)
def aKB(Γ:FuncId→List AV→Option aH)(h:List Obj)(f:FuncId)(vs:List AV):Prop×AV×List Obj :=
 match Γ f vs with
 | some sp=>match sp with
  | ⟨a,.own e t,pre,fn⟩=>match aCC (if t.scalar then h else h.map dY) a vs with
   | some x=>(pre x,.own h.length,h++ [.row e t (fn x)])
   | none=>(False,.junk,h)
  | _=>(False,.junk,h)
 | none=>(False,.junk,h)
theorem bIo{t:Ty}{css:List (List Value)}(hl:∀j (g:j<css.length),(css[j]).length=t.cells){k:Nat}(hk:k<css.length){pre post ds:List Value}(I:css.flatten=pre++css[k]++post)(hp:pre.length=k*t.cells):(css.set k ds).flatten=pre++ds++post:=by
 have q:css=css.take k++css[k]::css.drop (k+1):=by simp_all
 have z:(css.take k).flatten.length=k*t.cells:=by
  rw[jC (n:=t.cells) (fun i hi=>by grind),List.length_take,Nat.min_eq_left (Nat.le_of_lt hk)]
 have h3:css.flatten=(css.take k).flatten++css[k]++(css.drop (k+1)).flatten:=by
  grind
 have f:pre=(css.take k).flatten∧css[k]++post=css[k]++(css.drop (k+1)).flatten:=by
  grind[List.append_assoc,List.append_inj]
 have J:post=(css.drop (k+1)).flatten:=List.append_cancel_left f.2;grind
theorem aFM{t:TypeId}{z:Ty}(I:aEi P T t z){x:AV}{u:Value}(hs:x.solid=true)(hx:aZ c w x u)(U:z.cells=x.nc){b off:Nat}{cells:Array Value}{e:TypeId}(hb:w.heap[b]? = some (.cells cells e (0,0)))
  {pre ds post:List Value} (hc:cells.toList=pre++ds++post) (hp:pre.length=off) (hl:ds.length=x.nc) :
  aN c w x u.cells.toList∧u.cells.toList.length=ds.length∧(storeVar t ⟨b,off,none⟩ u).run P w= .ok () (w.setRow b (pre++u.cells.toList++post).toArray):=by
 have f:xQ c w x u:=by cases x<;>first|exact hx|grind[AV.solid,AV.solid1]
 have N:=aTW hs f.1;refine⟨f.1,by omega,?_⟩;have g:=aPp hs f.1;have O:cells.size=(pre++ds++post).length:=by grind
 have q:=run_storeCells_at P b off e u.cells.toList 0 cells w hb (by
  simp_all) (fun v hv=>by
   have:=g v hv;cases v<;>first|rfl|exact this.elim)
 have e1:cells.toList.take (off+0)=pre:=by simp_all
 have L:cells.toList.drop (off+0+u.cells.toList.length)=post:=by
  grind
 rw[e1,L] at q;have J:u.cells.size=z.cells:=by simp_all
 simp only[storeVar,Sem.run_bind,dQ I,Result.andThen_ok,J,ne_eq,not_true_eq_false,if_false,Sem.run_ite];omega
theorem bIp(hT:iF P T)(hg:Good M w0 c h w){t:TypeId}{a x:AV}{av u:Value}(ha:aZ c w a av)(hx:aZ c w x u)(hc:(aHs T h t a x).1) :
  ∃w',(Instr.storeAt t av u).run P w= .ok () w'∧dG c w c w'∧Good M w0 c (aHs T h t a x).2.2 w':=by
 cases a with
 | ptr i p =>
  obtain⟨hi,b,hb,rfl⟩:=aFJ ha;simp only[aHs] at hc ⊢;split at hc
  ·rename_i n W;cases p with
   | cons _ _=>simp_all
   | nil =>
   obtain⟨h1,hbn,h3,z,h4,h5⟩:=hc;obtain⟨b',cells,e,q1,q2,q3,q4⟩:=hg.objs i _ W;have Y:b=b':=(by grind[aW]);subst Y;have N:xQ c w x u:=(by cases x<;>first|exact hx|grind[AV.solid,AV.solid1]);obtain⟨s1,s2,s3⟩:=aFM (P:=P) (hT _ _ h4) h3 hx h5 q2 (pre:=[]) (ds:=cells.toList) (post:=[]) (by simp) (off:=0) rfl (by rcases q3 with q3|⟨_,q3⟩<;>(simp only[Array.length_toList]; omega));simp only[List.nil_append,List.append_nil] at s3;refine⟨w.setRow b u.cells.toList.toArray,by simp[Instr.storeAt,Instr.sureAddr,mH,s3],?_⟩;have hsame:∀k,k≠b→(w.setRow b u.cells.toList.toArray).heap[k]? = w.heap[k]? := fun k hk=>setRow_other w b k _ hk;have L:dP c i (.box n .junk) b:=(by simp[dP,q1,aW]);have Z:=(hg.own i _ b W L).2.2;have:=hg.modify (o':=.box n x) W L (w':=w.setRow b u.cells.toList.toArray) rfl rfl rfl (by simp_all) hsame ?_ ?_
   ·simp_all
   ·refine⟨b,_,e,q1,setRow_heap w b cells _ e _ q2,?_,?_⟩
    ·simp_all
    ·have:=aN.keep (c':=c) (.refl c) (fun k hk=>hsame k (fun e=>Z (e▸hk))) _ _ s1;omega
   grind[dP,aW]
  ·rename_i n v _ W;obtain⟨h1,h2,h3,z,h4,h5⟩:=hc;obtain⟨b',cells,e,q1,q2,q3,q4⟩:=hg.objs i _ W;have Y:b=b':=(by grind[aW]);subst Y;obtain⟨pre,ds,post,r1,r2,r3⟩:=aNa p v x cells.toList q4 h1 h2;have hul:=r3 u.cells.toList;have N:xQ c w x u:=(by cases x<;>first|exact hx|grind[AV.solid,AV.solid1]);obtain⟨k1,k2⟩:=r3 _ N.1;obtain⟨s1,s2,s3⟩:=aFM (P:=P) (hT _ _ h4) h3 hx h5 q2 r1 r2 (by rw[← k1,aTW h3 N.1]);refine⟨w.setRow b (pre++u.cells.toList++post).toArray,by simp[Instr.storeAt,Instr.sureAddr,s3],?_⟩;have hsame:∀k,k≠b→(w.setRow b (pre++u.cells.toList++post).toArray).heap[k]? = w.heap[k]? := fun k hk=>setRow_other w b k _ hk;have L:dP c i (.box n v) b:=(by simp[dP,q1,aW]);have Z:=(hg.own i _ b W L).2.2;have:=hg.modify (o':=.box n (aDB v p x).2) W L (w':=w.setRow b (pre++u.cells.toList++post).toArray) rfl rfl rfl (by simp_all) hsame ?_ ?_
   ·simp_all
   ·refine⟨b,_,e,q1,setRow_heap w b cells _ e _ q2,?_,?_⟩
    ·have:cells.size=(pre++ds++post).length:=(by grind);simp_all
    ·have:=aN.keep (c':=c) (.refl c) (fun k hk=>hsame k (fun e=>Z (e▸hk))) _ _ k2;omega
   grind[dP,aW]
  ·rename_i e z I W;cases p with
   | nil=>simp_all
   | cons st p =>
    cases st with
    | fld _ _=>simp_all
    | idx s k =>
     simp only at hc ⊢;split at hc
     ·rename_i y hy;obtain⟨h1,h2,h3,h4,h5,c',h6,h7⟩:=hc;simp only[hy];obtain⟨vals,hown,hrep⟩:=hg.objs i _ W;obtain⟨hvl,hv⟩:=hown;rcases hv with⟨_,h0⟩|⟨g,cap,f,hhd,_,hheap,hle,hcap,hsz,htake⟩
      ·omega
      have Y:b=g:=(by grind[aW]);subst Y;have hset:aFL (.val (.arr I.length z) I) k (aDB (.val z (I.getD k z.zero)) p x).2= .val (.arr I.length z) (I.set k y):=by
       grind[aFL]
      obtain⟨pre,ds,post,r1,r2,r3⟩:=aNa (.idx s k::p) (.val (.arr I.length z) I) x vals (show bC w c.S _ _ _ from hrep) (by
       simp only[aDB];refine⟨h1,h2,h3,?_⟩;grind[elemOf]) (by grind[aE5,elemOf])
      have hcur:f.toList=pre++ds++(post++f.toList.drop (I.length*z.cells)):=by
       grind[List.append_assoc,List.take_append_drop]
      have N:xQ c w x u:=(by cases x<;>first|exact hx|grind[AV.solid,AV.solid1]);obtain⟨k1,k2⟩:=r3 _ N.1;obtain⟨s1,s2,s3⟩:=aFM (P:=P) (hT _ _ h6) h5 hx h7 hheap hcur r2 (by rw[← k1,aTW h5 N.1]);refine⟨_,by simp only[Instr.storeAt,Instr.sureAddr,Sem.run_bind,Sem.run_pure,Result.andThen_ok]; exact s3,?_⟩;have hsame:∀k',k'≠b→(w.setRow b (pre++u.cells.toList++(post++f.toList.drop (I.length*z.cells))).toArray).heap[k']? = w.heap[k']? := fun k' hk=>setRow_other w b k' _ hk;have L:dP c i (.row e z I) b:=(by simp[dP,hhd,aW]);have Z:=(hg.own i _ b W L).2.2;have hS:aBH c.S w (w.setRow b (pre++u.cells.toList++(post++f.toList.drop (I.length*z.cells))).toArray):=fun k' hk=>hsame k' (fun e=>Z (e▸hk));have hnew:bC w c.S (.arr I.length z) (I.set k y) (pre++u.cells.toList++post):=by
       have:=k2;simp only[aDB,elemOf] at this;rw[hset] at this;exact this
      have hlen:(pre++u.cells.toList++post).length=vals.length:=(by grind);have:=hg.modify (o':=.row e z (I.set k y)) W L (w':=w.setRow b (pre++u.cells.toList++(post++f.toList.drop (I.length*z.cells))).toArray) rfl rfl rfl (by simp[World.setRow]) hsame ?_ ?_
      ·grind
      ·have hl':(I.set k y).length=I.length:=(by simp);refine⟨pre++u.cells.toList++post,⟨by grind,.inr ⟨b,cap,_,by grind,Nat.zero_le _,setRow_heap w b f _ e _ hheap,by omega,hcap,?_,?_⟩⟩,?_⟩
       all_goals grind[List.append_assoc,List.take_left,bC.keep]
      grind[dP,aW]
     simp_all
  ·rename_i e m z I kk v W;cases p with
   | nil=>simp_all
   | cons st p =>
    cases st with
    | fld _ _=>simp_all
    | idx s k =>
     simp only at hc ⊢;obtain⟨rfl,h2,h3,h4,h5,c',h6,h7⟩:=hc;obtain⟨U,Bs,q⟩:=hg.objs i _ W;have hk:=q.kl;have hlc:=q.lc;have hlb:=q.lb;obtain⟨hvl,hv⟩:=q.row;rcases hv with⟨_,h0⟩|⟨g,cap,f,hhd,_,hheap,hle,hcap,hsz,htake⟩
     ·omega
     have Y:b=g:=(by grind[aW]);subst Y;obtain⟨hv1,hv2⟩:=q.hv (by omega);have hcl:∀j (hj:j<U.length),(U[j]).length=z.cells:=fun j hj=>by
      by_cases e:j=k
      ·simp_all
      ·exact kT.length _ _ _ _ _ (q.el j (by omega) hj (by omega) e)
     obtain⟨O,J,hf,hp0⟩:=kZ (t:=z) (css:=U) hcl k (by omega);obtain⟨pre,ds,post,r1,r2,r3⟩:=aNa p v x U[k] hv1 h3 h4;have N:xQ c w x u:=(by cases x<;>first|exact hx|grind[AV.solid,AV.solid1]);obtain⟨k1,k2⟩:=r3 _ N.1;have hcur:f.toList=(O++pre)++ds++(post++J++f.toList.drop (I.length*z.cells)):=by
      grind[List.take_append_drop,List.append_assoc]
     obtain⟨s1,s2,s3⟩:=aFM (P:=P) (off:=k*z.cells+mH p) (hT _ _ h6) h5 hx h7 hheap hcur (by grind) (by rw[← k1,aTW h5 N.1]);refine⟨_,by simp only[Instr.storeAt,Instr.sureAddr,Sem.run_bind,Sem.run_pure,Result.andThen_ok,mH,Step.off,h2]; exact s3,?_⟩;have hsame:∀k',k'≠b→(w.setRow b ((O++pre)++u.cells.toList++(post++J++f.toList.drop (I.length*z.cells))).toArray).heap[k']? = w.heap[k']? := fun k' hk=>setRow_other w b k' _ hk;have hbl:c.bl i b:=q.bl b (by simp[hdB,hhd,aW]);have L:dP c i (.trh e m z I k v) b:=hbl;have Z:=(hg.own i _ b W L).2.2;have hS:aBH c.S w (w.setRow b ((O++pre)++u.cells.toList++(post++J++f.toList.drop (I.length*z.cells))).toArray):=fun k' hk=>hsame k' (fun e=>Z (e▸hk));have hset:(U.set k (pre++u.cells.toList++post)).flatten=O++(pre++u.cells.toList++post)++J:=bIo hcl (by omega) hf hp0;have hlen:(pre++u.cells.toList++post).length=z.cells:=(by grind);have:=hg.modifyG (o':=.trh e m z I k (aDB v p x).2) W L (w':=w.setRow b ((O++pre)++u.cells.toList++(post++J++f.toList.drop (I.length*z.cells))).toArray) rfl rfl rfl (by simp[World.setRow]) hsame ?_ (fun _ h=>h)
     ·grind
     ·refine⟨U.set k (pre++u.cells.toList++post),Bs,⟨?_,by grind,hlb,hk,fun j hj h1 h2 hne=>?_,q.hb,fun h1=>?_,q.nd,q.bl⟩⟩
      ·refine⟨by grind,.inr ⟨b,cap,_,hhd,Nat.zero_le _,setRow_heap w b f _ e _ hheap,hle,hcap,?_,?_⟩⟩
       all_goals grind[List.append_assoc,List.length_append,List.take_left]
      ·rw[List.getElem_set_ne (fun e=>hne e.symm)];simp only[List.length_set] at h1;exact kT.keep (fun _ h=>h) hS _ _ _ _ _ (fun b' hb'=>hsame b' (fun e=>by
        subst e;have:=q.nd;rw[hhd] at this;simp only[hdB,aW,List.singleton_append,List.nodup_cons] at this;grind[List.mem_flatten,List.getElem_mem])) (q.el j hj h1 h2 hne)
      ·rw[List.getElem_set_self];exact⟨aN.keep (c':=c) (.refl c) hS _ _ k2,hlen⟩
  simp_all
 | _=>exact hc.elim
theorem SlR.flat{S:Nat→Prop}{t:Ty}{xs:List t.den}{a:Option Addr}{len cap:Nat}(hs:SlR w S (bC w S t) t.cells xs a len cap):∃css:List (List Value),css.length=xs.length∧css.flatten.length=xs.length*t.cells∧bC w S (.arr xs.length t) xs css.flatten∧(xs= []∨ ∃b off,a=some ⟨b,off,none⟩∧jB w b off css.flatten):=by
 obtain⟨Z,h2,h3,Y⟩:=hs;rcases Y with rfl|⟨b,off,rfl,hb,J⟩
 ·exact⟨[],rfl,by simp,⟨rfl,[],rfl,rfl,fun i h=>by simp at h⟩,.inl rfl⟩
 ·have g:∃css:List (List Value),css.length=xs.length∧ ∀i (h:i<xs.length) (h':i<css.length),bC w S t xs[i] css[i]∧jB w b (off+i*t.cells) css[i]:=by
   have:∀n,n≤xs.length→ ∃css:List (List Value),css.length=n∧ ∀i (h:i<xs.length) (h':i<css.length),bC w S t xs[i] css[i]∧jB w b (off+i*t.cells) css[i]:=by
    intro n
    induction n with
    | zero=>simp_all
    | succ n W =>
     intro hn;obtain⟨css,hl,hc⟩:=W (by omega);obtain⟨ds,hd,hcell⟩:=J n (by omega);refine⟨css++ [ds],by simp[hl],fun i hi O=>?_⟩;grind
   simp_all
  obtain⟨css,hl,hc⟩:=g;have f:∀j (z:j<css.length),(css[j]).length=t.cells:=fun j z=>bC.length _ _ _ (hc j (by omega) z).1;have I:css.flatten.length=xs.length*t.cells:=by rw[jC f,hl]
  refine⟨css,hl,I,⟨rfl,css,rfl,hl,fun i h h'=>(hc i h h').1⟩,.inr ⟨b,off,rfl,?_⟩⟩;intro j v z;have U:j<css.length*t.cells:=by
   grind
  have q:0<t.cells:=by
   grind
  have hi:j/t.cells<css.length:=Nat.div_lt_of_lt_mul (by grind);obtain⟨pre,post,hf,hp⟩:=kZ (t:=t) (css:=css) f (j/t.cells) hi;have N:=Nat.div_add_mod j t.cells;have L:=Nat.mod_lt j q;have:(css[j/t.cells])[j%t.cells]? = some v:=by
   grind
  have:=(hc (j/t.cells) (by omega) hi).2 _ _ this;grind
end
end Go.Vc
namespace Go.Vc
open Go.RowKit
section
variable {P:Program} {E:Env} {T:Tab} {M:Perm} {w0:World} {c:Ctx} {h:List Obj} {w:World}
theorem aCE(w:World)(o:Go.Obj):(w.alloc o).heap[w.heap.size]? = some o:=by
 show (w.heap.push o)[w.heap.size]? = some o;simp
theorem aA4{f:Ty}(q:f.okB=true):(kY f).cells=(cF f).toArray:=by
 have w:World:=default;have I:(kY f).cells.toList=cF f:=by
  unfold kY;split
  ·rfl
  ·have z:(cF f).length=1:=by
    rw[bC.length _ _ _ (eG w (fun _=>False) f q)];rename_i ha;cases f<;>simp_all[Ty.isAgg,Ty.cells]
   match J:cF f,z with
   | [v],_ =>
    have g:=bC.one f _ _ (eG w (fun _=>False) f q) v (by simp_all);simp only[List.headD_cons];cases v<;>first|rfl|exact g.elim
 grind
theorem iX{f:Ty}(g:f.okB=true):(cF f).length=f.cells:=bC.length _ _ _ (eG (default:World) (fun _=>False) f g)
theorem aL6{S:Nat→Prop}{t:Ty}{xs ys:List t.den}{vs f:List Value}(I:bC w S (.arr xs.length t) xs vs)(J:bC w S (.arr ys.length t) ys f):bC w S (.arr (xs++ys).length t) (xs++ys) (vs++f):=by
 obtain⟨_,L,rfl,hl,N⟩:=I;obtain⟨_,ds,rfl,q,z⟩:=J;refine⟨rfl,L++ds,by simp,by simp_all,fun i hi g=>?_⟩;grind
theorem bNm(U:Good M w0 c h w){q:Ty}{x:AV}{N:Value}{ys:List q.den}(hx:aZ c w x N)(ha:AV.as (if q.scalar then h else h.map dY) (.sl q) x=some ys) :
  ∃a cap g,N= .slice a ys.length cap∧ys.length≤cap∧g.length=ys.length*q.cells∧bC w c.S (.arr ys.length q) ys g∧(ys= []∨ ∃b off,a=some ⟨b,off,none⟩∧jB w b off g):=by
 by_cases hs:q.scalar=true
 ·rw[if_pos hs] at ha;have hv:=aKy U hx ha;obtain⟨a,len,cap,rfl,f⟩:=aET (c:=⟨aFI c h,c.hd,c.n,c.bl⟩) hv;obtain⟨z,_,L,O,I⟩:=f.flat;obtain⟨rfl,J,_,_⟩:=f;exact⟨a,cap,z.flatten,rfl,J,L,bC.scalar _ _ _ (by grind[Ty.scalar]) O,I⟩
 ·rw[if_neg hs] at ha;have hv:=yY U hx ha;obtain⟨a,len,cap,rfl,f⟩:=aET (c:=c) hv;obtain⟨z,_,L,O,I⟩:=f.flat;obtain⟨rfl,J,_,_⟩:=f;grind
theorem aIm{t ty e:TypeId}{i:TypeInfo}(ht:P.underlying t=some (.slice e))(hi:P.info? e=some i){v:Value}{n:Nat}{xs:List Value}(f:w.ownsRow 0 e i.size v n xs){a:Option Addr}{cap:Nat}(z:0≤cap) :
  (Builtin.append_ #[t,t] ty #[v,.slice a 0 cap]).run P w= .ok v w:=by
 rcases f.2 with⟨rfl,rfl⟩|⟨g,cp,J,rfl,_,N,q,I,L,htake⟩
 ·cases a<;>simp[Builtin.append_,run_underlying ht,sizeOf,typeInfo,hi,Builtin.lenOf,Builtin.firstCells,loadCells,loadCellsFrom]
 ·cases a<;>simp[Builtin.append_,run_underlying ht,sizeOf,typeInfo,hi,Builtin.lenOf,Builtin.firstCells,loadCells,loadCellsFrom,q,storeCells]
theorem uG{v:Value}(h:∃a n m,v= .slice a n m):aW v=v.ownBlock:=by
 obtain⟨a,n,m,rfl⟩:=h;cases a<;>rfl
theorem gX{B:Nat}{e:TypeId}{sz:Nat}{v:Value}{n:Nat}{xs:List Value}(h:w.ownsRow B e sz v n xs):∃a n m,v= .slice a n m:=by
 rcases h.2 with⟨rfl,_⟩|⟨g,f,q,rfl,_⟩
 all_goals simp_all
theorem aUe(hE:eQ P E){t ty:TypeId}{J:Ty}(ht:E.T t=some (.sl J))(hok:J.okB=true){sv xv:Value}{xs ys:List J.den}(hS:True)
  (hrow:aBI c w (E.el t) J xs sv) {a:Option Addr} {cap:Nat} {f:List Value} (hxv:xv= .slice a ys.length cap) (hnl:f.length=ys.length*J.cells) (hnr:bC w c.S (.arr ys.length J) ys f) (hor:ys= []∨ ∃b off,a=some ⟨b,off,none⟩∧jB w b off f)
  (hb:bound J (xs.length+ys.length)) (hSb:∀b,c.S b→b<w.heap.size∧aW sv≠some b) :
  ∃v' w',(Builtin.append_ #[t,t] ty #[sv,xv]).run P w= .ok v' w'∧w.grownBy w' (aW sv)∧aBI c w' (E.el t) J (xs++ys) v'∧(∀b,aW v'=some b→aW sv=some b∨(w.heap.size≤b∧b<w'.heap.size))∧ ∃a n m,v'= .slice a n m:=by
 have hd:=hE.el t J ht;obtain⟨e',hd',Y,Z⟩:=dZ (hE.T _ _ ht);have:e'=E.el t:=by simp_all
 subst this;have hTe:=hE.T _ _ Y;obtain⟨i,hi,hsz,hz,hby⟩:=hTe.info;obtain⟨I,q,U⟩:=hrow;rw[← hsz] at q;subst hxv;rcases hor with rfl|⟨b,off,rfl,hcell⟩
 ·have N:=aIm (P:=P) (ty:=ty) hd hi q (a:=a) (cap:=cap) (Nat.zero_le _);refine⟨sv,w,N,⟨rfl,rfl,rfl,Nat.le_refl _,fun _ _ _=>rfl⟩,?_,fun b hb=>.inl hb,gX q⟩;rw[List.append_nil];exact⟨I,by simp_all,U⟩
 ·have hone:∀u∈f,u.oneCell'=true:=fun u hu=>by
   have:=bC.one _ _ _ hnr u hu;cases u<;>first|rfl|exact this.elim
  obtain⟨v',w',N,L,W,_,z⟩:=run_append_own_at (P:=P) w 0 t ty (E.el t) i (kY J) J.cells i.bytes hd hi (hz hok) hsz rfl (by grind[aA4,iX]) Z sv xs.length I (by simp_all)
   ⟨b,off,none⟩ ys.length cap f hnl (fun j u hj=>by rw[vN]; exact hcell j u hj) hone hb.1 (Nat.le_trans (Nat.mul_le_mul_left _ hby) hb.2) (Nat.zero_le _)
  have hsl:=gX q;have O:=gX L;rw[← uG hsl] at W z;rw[← uG O] at z;have hsame:aBH c.S w w':=fun b hb=>W.block b (hSb b hb).1 (fun e=>(hSb b hb).2 e.symm);refine⟨v',w',N,W,?_,fun b hb=>?_,O⟩
  ·have:=aL6 U hnr;exact⟨I++f,by simp_all,bC.keep (fun _ h=>h) hsame _ _ _ this⟩
  ·rcases z with z|z
   ·simp_all
   ·right
    rw[z] at hb;cases hb;refine⟨Nat.le_refl _,?_⟩;rcases L.2 with⟨rfl,_⟩|⟨g,cp,cur,rfl,_,hheap,_⟩
    all_goals grind[aW,Array.getElem?_eq_some_iff]
theorem aE7{v':Value}(h:∃a n m,v'= .slice a n m){w':World}{S':Nat→Prop}:aZ (c.pushS S' v') w' (.own c.n) v':=by
 obtain⟨a,n,m,rfl⟩:=h;refine⟨⟨Nat.lt_succ_self c.n,?_,?_⟩,(fun h=>by cases h),(fun _ f=>by simp)⟩
 ·show [Value.slice a n m]= [if c.n=c.n then Value.slice a n m else c.hd c.n];simp_all
 ·show one (if c.n=c.n then Value.slice a n m else c.hd c.n);rw[if_pos rfl]; trivial
theorem bG1(hE:eQ P E)(z:Good M w0 c h w){t ty:TypeId}{s x:AV}{sv xv:Value}(hs:aZ c w s sv)(hx:aZ c w x xv)(hc:(xS E h t s x).1) :
  ∃v' w' c',(Builtin.append_ #[t,t] ty #[sv,xv]).run P w= .ok v' w'∧dG c w c' w'∧Good M w0 c' (xS E h t s x).2.2 w'∧aZ c' w' (xS E h t s x).2.1 v':=by
 unfold xS at hc ⊢;split at hc
 ·rename_i ct ht;split at hc
  ·rename_i ys Y;(try simp only[Y]);obtain⟨a,cap,news,Z,hcap,U,hnr,W⟩:=bNm z hx Y;split at hc
   ·
    obtain⟨hb,L⟩:=hc;have J:sv= .slice none 0 0:=by
     obtain⟨h1,_,h3⟩:=hs;have h3:=h3 rfl;simp_all[aN,Value.cells]
    subst J;obtain⟨v',w',g,f,q,O,I⟩:=aUe (c:=c) (w:=w) (P:=P) (ty:=ty) (xs:=[]) hE ht L trivial (sv:=.slice none 0 0) ⟨[],⟨by simp,.inl ⟨rfl,rfl⟩⟩,⟨rfl,[],rfl,rfl,fun i h=>by simp at h⟩⟩ Z U hnr W (by simp_all) (fun b hb=>⟨z.sfin b hb,by simp[aW]⟩);have hk:fB nothing w w':=⟨f.os,f.tape,f.output,f.size,fun b hb _=>f.block b hb (by simp[aW])⟩;have:=z.push hk (o:=.row (E.el t) ct ys) (hv:=v') (by
     show aBI _ _ _ _ _ _;have e:(c.push v').hd c.n=v':=(by simp[Ctx.push]);rw[e];exact q) (fun b hb=>by
     simp_all[Ctx.push,dP,aW])
    refine⟨v',w',_,g,this.2,this.1,?_⟩;have:=aE7 (c:=c) I (w':=w') (S':=c.S);rw[← z.n];exact this
   ·rename_i i;split at hc
    ·rename_i e c' xs ho;split at hc
     ·rename_i xs' hcast;obtain⟨rfl,rfl⟩:=aE6 hcast;obtain⟨rfl,hb,L⟩:=hc;have J:=(aCW hs).2;have N:aBI c w (E.el t) _ _ (c.hd i):=z.objs i _ ho;subst J;obtain⟨v',w',g,f,q,O,I⟩:=aUe (c:=c) (w:=w) (P:=P) (ty:=ty) hE ht L trivial N Z U hnr W hb (fun b hb=>⟨z.sfin b hb,fun e=>(z.own i _ b ho e).2.2 hb⟩);have:=z.regrow ho f q O;refine⟨v',w',_,g,this.2,this.1,?_⟩;have:=aE7 (c:=c) I (w':=w') (S':=c.S);rw[← z.n];exact this
     simp_all
    simp_all
   simp_all
  simp_all
 simp_all
theorem bK6(N:eQ P E)(Z:Good M w0 c h w){t:TypeId}{l cp:AV}{O Y:Value}(hl:aZ c w l O)(L:aZ c w cp Y)(hc:(aPx E h t l cp).1) :
  ∃v' w' c',(Instr.makeSlice t O Y).run P w= .ok v' w'∧dG c w c' w'∧Good M w0 c' (aPx E h t l cp).2.2 w'∧aZ c' w' (aPx E h t l cp).2.1 v':=by
 unfold aPx at hc ⊢;split at hc
 ·rename_i f ht;split at hc
  ·rename_i n m hn hm;obtain⟨g,h0,h1,h2,h3⟩:=hc;obtain⟨k1,rfl⟩:=aBL hl hn;obtain⟨k2,rfl⟩:=aBL L hm;have hd:=N.el t f ht;obtain⟨e',hd',q,U⟩:=dZ (N.T _ _ ht);have:e'=E.el t:=(by simp_all);subst this;obtain⟨i,hi,z,hz,hby⟩:=(N.T _ _ q).info;have hbytes:(i.bytes:Int)*m≤281474976710656:=by
    have:(i.bytes:Int)*m≤(f.byt:Int)*m:=Int.mul_le_mul_of_nonneg_right (by omega) (by omega);omega
   have I:=run_make (P:=P) w t (E.el t) i (kY f) hd hi (hz g) k1 k2 n m h0 h1 hbytes (by grind[maxLen]);have hk:fB nothing w (w.alloc (.cells (madeCells (kY f).cells (m.toNat*i.size)) (E.el t) (0,0))):=fB.alloc nothing w _;have J:aBI c (w.alloc (.cells (madeCells (kY f).cells (m.toNat*i.size)) (E.el t) (0,0))) (E.el t) f (List.replicate n.toNat f.zero) (.slice (some ⟨w.heap.size,0,none⟩) n.toNat m.toNat):=by
    have hcells:(madeCells (kY f).cells (m.toNat*i.size)).toList=(List.replicate m.toNat (cF f)).flatten:=by
     rw[z,aA4 g,← iX g];exact aAJ _ _ (by grind[iX])
    have hsplit:(List.replicate m.toNat (cF f)).flatten=(List.replicate n.toNat (cF f)).flatten++(List.replicate (m.toNat-n.toNat) (cF f)).flatten:=by
     grind[List.flatten_append,List.replicate_append_replicate]
    have W:(List.replicate n.toNat (cF f)).flatten.length=n.toNat*f.cells:=(by simp[iX g]);refine⟨(List.replicate n.toNat (cF f)).flatten,⟨by simp_all,.inr ⟨w.heap.size,m.toNat,_,by simp,Nat.zero_le _,aCE w _,by grind,by omega,by rw[size_madeCells,z],?_⟩⟩,?_⟩
    ·simp_all
    ·have:=eG (w.alloc (.cells (madeCells (kY f).cells (m.toNat*i.size)) (E.el t) (0,0))) c.S (.arr n.toNat f) g;rw[List.length_replicate];exact this
   have:=Z.push hk (o:=.row (E.el t) f (List.replicate n.toNat f.zero)) (hv:=.slice (some ⟨w.heap.size,0,none⟩) n.toNat m.toNat) (by
    show aBI _ _ _ _ _ _;have e:(c.push (.slice (some ⟨w.heap.size,0,none⟩) n.toNat m.toNat)).hd c.n= .slice (some ⟨w.heap.size,0,none⟩) n.toNat m.toNat:=(by simp[Ctx.push]);rw[e];exact J) (fun b hb=>by
    have e:(c.push (.slice (some ⟨w.heap.size,0,none⟩) n.toNat m.toNat)).hd c.n= .slice (some ⟨w.heap.size,0,none⟩) n.toNat m.toNat:=(by simp[Ctx.push]);simp_all[dP,aW,Option.some.injEq,Nat.le_refl])
   refine⟨_,_,_,I,this.2,this.1,?_⟩;have:=aE7 (c:=c) (v':=.slice (some ⟨w.heap.size,0,none⟩) n.toNat m.toNat) ⟨_,_,_,rfl⟩ (w':=w.alloc (.cells (madeCells (kY f).cells (m.toNat*i.size)) (E.el t) (0,0))) (S':=c.S);rw[← Z.n];exact this
  simp_all
 simp_all
theorem aNb{c:Ctx}{w:World}{f:Ty}(g:f.okB=true):aN c w (aIZ f) (kY f).cells.toList∧(aIZ f).solid=true∧(aIZ f).nc=f.cells∧aZ c w (aIZ f) (kY f):=by
 unfold aIZ;cases h:aTS f with
 | false =>
  cases hs:aTR f with
  | true =>
   obtain⟨b,rfl⟩:=bHT hs;have hc:aN c w .nilS (kY (.sl b)).cells.toList:=rfl;exact⟨hc,rfl,rfl,hc,(fun h=>by cases h),fun _ q=>by simp[kY,cF,Ty.isAgg]⟩
  | false =>
   have:=aZ.ofV (aI1 w c.S f g);exact⟨this.1,rfl,rfl,this⟩
 | true =>
  obtain⟨b,rfl⟩:=bBq h;have hc:aN c w (.agg [.nilP,.nilS]) (kY (.pair .nilp (.pair (.sl b) .unit))).cells.toList:=by
   simp only[aN];exact⟨[.pointer none],[.slice none 0 0],rfl,rfl,[.slice none 0 0],[],rfl,rfl,rfl⟩
  refine⟨hc,rfl,rfl,hc,fun _=>⟨_,rfl⟩,(fun h=>by cases h)⟩
theorem aPy(q:Good M w0 c h w){t:TypeId}{x:AV}{v:Value}{n:Nat}(J:bKQ n x.nc t)(hs:x.solid=true)(hx:aZ c w x v) :
  ∃w' c',(newVar t v).run P w= .ok ⟨w.heap.size,0,none⟩ w'∧dG c w c' w'∧Good M w0 c' (h++ [.box n x]) w'∧aZ c' w' (.ptr h.length []) (.pointer (some ⟨w.heap.size,0,none⟩)):=by
 have g:xQ c w x v:=by cases x<;>first|exact hx|grind[AV.solid,AV.solid1]
 have z:=aTW hs g.1;have hk:fB nothing w (w.alloc (.cells v.cells t (0,0))):=fB.alloc nothing w _;have e:(c.push (.pointer (some ⟨w.heap.size,0,none⟩))).hd c.n= .pointer (some ⟨w.heap.size,0,none⟩):=by simp[Ctx.push]
 have:=q.push hk (o:=.box n x) (hv:=.pointer (some ⟨w.heap.size,0,none⟩)) (by
  refine⟨w.heap.size,v.cells,t,e,aCE w _,by simp_all,?_⟩;exact aN.keep (c.le_push _) (fun b hb=>hk.block b (q.sfin b hb) (fun f=>f)) _ _ g.1) (fun b hb=>by
  simp_all[dP,aW,Option.some.injEq,Nat.le_refl])
 refine⟨_,_,by rfl,this.2,this.1,?_⟩;rw[← q.n];refine⟨⟨Nat.lt_succ_self c.n,w.heap.size,by rw[e]; rfl,rfl⟩,(fun h=>by cases h),(fun _ I=>by simp)⟩
theorem bD6{G:Nat→AV}{Γ:FuncId→List AV→Option aH}{f:FuncId}{vs:List AV}{xs:Array Value}(hΓ:∀sp,Γ f vs=some sp→FOK P G f sp)(I:Good M w0 c h w)(hG:sY G c.S w)(hl:xs.size=vs.length)
  (hv:∀i (Z:i<vs.length) (h2:i<xs.size),aZ c w vs[i] xs[i]) (hc:(aKB Γ h f vs).1) :
  Calls P f xs w fun e w'=>∃v c',e= .returned v∧dG c w c' w'∧Good M w0 c' (aKB Γ h f vs).2.2 w'∧aZ c' w' (aKB Γ h f vs).2.1 v:=by
 unfold aKB at hc ⊢;split at hc
 ·rename_i sp hf;split at hc
  ·rename_i a e t pre fn;split at hc
   ·rename_i x ha;have L:xs.toList.length=vs.length:=(by omega);have W:∀i (Z:i<vs.length) (h2:i<xs.toList.length),aZ c w vs[i] xs.toList[i]:=fun i Z h2=>by
     simp_all
    have key:∃J:Nat→Prop,(∀b,J b→b<w.heap.size)∧sY G J w∧qV w J a x xs.toList∧(t.scalar=true∨ ∀b,J b→c.S b):=by
     by_cases hs:t.scalar=true
     ·rw[if_pos hs] at ha;exact⟨aFI c h,bBA I,hG.mono (fun b hb=>.inl hb) (.refl _ _),aZe I _ _ _ _ ha L W,.inl hs⟩
     ·rw[if_neg hs] at ha;exact⟨c.S,I.sfin,hG,aI8 I ha L W,.inr fun b hb=>hb⟩
    obtain⟨J,k1,k2,k3,k4⟩:=key;refine(hΓ _ hf w J xs x k1 k2 k3 hc).mono ?_;rintro ex w' ⟨v,rfl,hk,N,q,U⟩;have hsl:=gX q;have e1:(c.pushS (fun b=>c.S b∨(w.heap.size≤b∧b<w'.heap.size∧aW v≠some b)) v).hd c.n=v:=(by simp[Ctx.pushS]);have:=I.pushS hk (S':=fun b=>c.S b∨(w.heap.size≤b∧b<w'.heap.size∧aW v≠some b)) (fun b hb=>.inl hb) (fun b hb=>hb.imp id fun hb=>⟨hb.1,hb.2.1⟩) (o:=.row e t (fn x)) (hv:=v) (by
     show aBI _ _ _ _ _ _;rw[e1];refine⟨N,?_,?_⟩
     ·exact⟨q.1,q.2.imp id fun⟨g,Y,O,Z,h2,h3⟩=>⟨g,Y,O,Z,Nat.zero_le _,h3⟩⟩
     ·rcases k4 with hs|z
      ·grind[bC.scalar,Ty.scalar]
      ·exact bC.keep (fun b hb=>hb.imp (z b) id) (.refl _ _) _ _ _ U) (fun b hb=>by
     simp only[dP,e1] at hb;rcases q.2 with⟨rfl,_⟩|⟨g,Y,O,rfl,hBg,hheap,_⟩
     ·cases hb
     ·simp[aW] at hb;subst hb;have hlt:=(Array.getElem?_eq_some_iff.1 hheap).1;refine⟨hBg,hlt,fun z=>?_⟩;rcases z with z|z
      ·have:=I.sfin _ z; omega
      ·exact z.2.2 rfl)
    refine⟨v,_,rfl,this.2,this.1,?_⟩;have:=aE7 (c:=c) hsl (w':=w') (S':=fun b=>c.S b∨(w.heap.size≤b∧b<w'.heap.size∧aW v≠some b));rw[← I.n];omega
   simp_all
  simp_all
 simp_all
end
end Go.Vc
namespace Go.Vc
open Go.RowKit
section
variable {P:Program} {E:Env} {T:Tab} {M:Perm} {w0:World} {c:Ctx} {h:List Obj} {w:World}
theorem aUf(f:List Value)(n:Nat)(g:0<f.length):(Builtin.zeroCells f.toArray n).toList=(List.replicate n f).flatten:=by
 grind[aAJ,Builtin.zeroCells]
theorem aSe(w:World)(base:Nat)(t tx ty e:TypeId)(k:IntKind)(i:TypeInfo)(z:Value)(size bytes:Nat)(ht:P.underlying t=some (.slice e))(hx:P.underlying tx=some (.int k))(hi:P.info? e=some i)(hz:i.zero=some z)
  (hsize:i.size=size) (hby:i.bytes=bytes) (hzs:z.cells.size=size) (hsz:0<size)
  (v:Value) (n:Nat) (xs:List Value) (J:w.ownsRow base e size v n xs)
  (k':IntKind) (m:Nat) (f:List Value) (hnews:f=(Builtin.zeroCells z.cells m).toList) (h1:∀u∈f,u.oneCell'=true)
  (h63:n+m≤maxLen) (hbytes:(n+m)*bytes≤140737488355328) (hbase:base≤w.heap.size) :
  ∃v' w',(Builtin.append_ #[t,tx] ty #[v,.int k' (m:Int)]).run P w= .ok v' w'∧w'.ownsRow base e size v' (n+m) (xs++f)∧w.grownBy w' v.ownBlock ∧
   (v'.ownBlock=v.ownBlock∨v'.ownBlock=some w.heap.size):=by
 subst hsize;subst hby;have hl:f.length=m*i.size:=by
  grind[Array.length_toList,size_zeroCells]
 have hna:(Builtin.zeroCells z.cells m)=f.toArray:=by grind
 have hsmall:n+m≤9223372036854775807:=by grind[maxLen]
 have hwrap:IntKind.i64.wrap (m:Int)=m:=by
  grind[IntKind.wrap,IntKind.signed,IntKind.bits]
 have L:¬((m:Int)<0):=by omega
 have hmb:m*i.bytes≤(n+m)*i.bytes:=Nat.mul_le_mul_right _ (by omega);have q:¬(281474976710656<(m:Int)*(i.bytes:Int)):=by
  omega
 have Z:(xs++f).length=(n+m)*i.size:=by rw[List.length_append,J.1,hl,Nat.add_mul]
 have grown:∀(old:Nat),old<n+m→ ∀(row:Option Nat),
   (w.drew.alloc (.cells (xs.toArray++f.toArray++Builtin.zeroCells z.cells (grownCap w (n+m) old e-(n+m))) e)).ownsRow base e i.size
    (.slice (some ⟨w.heap.size,0,none⟩) (n+m) (grownCap w (n+m) old e)) (n+m) (xs++f) ∧
   w.grownBy (w.drew.alloc (.cells (xs.toArray++f.toArray++Builtin.zeroCells z.cells (grownCap w (n+m) old e-(n+m))) e)) row:=by
  intro old ho row;have hge:=grownCap_ge w (n+m) old e;have hcm:grownCap w (n+m) old e≤maxLen:=grownCap_le_maxLen w (n+m) old e h63;refine⟨⟨Z,.inr ⟨w.heap.size,_,_,rfl,hbase,heap_alloc_new w.drew _,hge,hcm,?_,?_⟩⟩,⟨rfl,rfl,rfl,by simp,fun k hk _=>Go.heap_alloc_old w.drew _ hk⟩⟩
  ·simp only[Array.size_append,List.size_toArray,size_zeroCells,hzs,J.1,hl,← Nat.add_mul];simp_all
  grind
 rcases J.2 with⟨rfl,rfl⟩|⟨g,I,O,rfl,hbg,hg,hnc,hcm,hcs,htake⟩
 ·have hx0:xs= []:=List.eq_nil_of_length_eq_zero (by simp_all);subst hx0;by_cases hm:m=0
  ·subst hm;have hn:f= []:=List.eq_nil_of_length_eq_zero (by omega);subst hn;refine⟨.slice none 0 0,w,?_,World.ownsRow_nil w base e i.size,⟨rfl,rfl,rfl,Nat.le_refl _,fun _ _ _=>rfl⟩,Or.inl rfl⟩;have hw0:IntKind.i64.wrap 0=0:=(by decide);simp[Builtin.append_,run_underlying ht,run_underlying hx,sizeOf,typeInfo,hi,asInt,asIntOf,hw0]
  ·have U:¬(281474976710656<Builtin.nextslicecap m 0*i.bytes):=(by rw[nextslicecap_zero (by omega)]; omega);have hms:¬(m*i.size=0):=by
    grind[Nat.mul_eq_zero]
   have W:¬(9223372036854775807<(m:Int)):=(by omega);have N:=grown 0 (by omega) (Value.ownBlock (.slice none 0 0));simp only[Nat.zero_add,List.nil_append,Array.empty_append] at N ⊢;refine⟨_,_,?_,N.1,N.2,Or.inr rfl⟩;have hsz0:i.size≠0:=(by omega);simp[Builtin.append_,run_underlying ht,run_underlying hx,sizeOf,typeInfo,zeroValue,hi,hz,asInt,asIntOf,hwrap,L,q,hm,W,U,hsz0,hms,Question.forced,run_firstCells_none,newRow,grownCap,hna]
 ·by_cases hroom:n+m≤I
  ·have hfit:n*i.size+f.length≤O.size:=(by rw[hl,hcs,← Nat.add_mul]; exact Nat.mul_le_mul_right _ hroom);have Y:=run_storeCells_at P g (n*i.size) e f 0 O w hg (by omega) h1;simp only[Nat.add_zero] at Y;refine⟨.slice (some ⟨g,0,none⟩) (n+m) I,w.setRow g (O.toList.take (n*i.size)++f++O.toList.drop (n*i.size+f.length)).toArray,?_,⟨Z,.inr ⟨g,I,_,rfl,hbg,setRow_heap w g O _ e _ hg,hroom,hcm,?_,?_⟩⟩,⟨rfl,rfl,rfl,by simp,fun k _ hk=>setRow_other w g k _ (fun e=>hk (by simp[Value.ownBlock,e]))⟩,Or.inl rfl⟩
   ·by_cases hm:m*i.size=0
    ·have hn:f= []:=List.eq_nil_of_length_eq_zero (by omega);subst hn;simp[Builtin.append_,run_underlying ht,run_underlying hx,sizeOf,typeInfo,zeroValue,hi,hz,asInt,asIntOf,hwrap,L,q,hroom,hm,Addr.add_lit] at Y ⊢;simp[Y]
    ·have hm':¬(m=0∨i.size=0):=fun h=>hm (Nat.mul_eq_zero.2 h);simp[Builtin.append_,run_underlying ht,run_underlying hx,sizeOf,typeInfo,zeroValue,hi,hz,asInt,asIntOf,hwrap,L,q,hroom,hm,hm',Addr.add_lit,hna,Y]
   all_goals grind
  ·have holds:∀j u,xs[j]? = some u→w.cell? ((⟨g,0,none⟩:Addr).add j)=some u:=J.cells (g:=g) rfl;have hfo:=run_firstCells_some (P:=P) w.drew i.size n ⟨g,0,none⟩ n I xs J.1 (by simp_all);have hm:¬(m*i.size=0):=by
    grind[Nat.mul_eq_zero]
   have hm':¬(m=0∨i.size=0):=fun h=>hm (Nat.mul_eq_zero.2 h);have W:¬(9223372036854775807<((n:Int)+(m:Int))):=(by omega);have hgs:=growslice_fits (old:=I) (by omega:I<n+m) hbytes;have U:¬(281474976710656<Builtin.nextslicecap (n+m) I*i.bytes):=(by omega);have N:=grown I (by omega) (Value.ownBlock (.slice (some ⟨g,0,none⟩) n I));refine⟨_,_,?_,N.1,N.2,Or.inr rfl⟩;simp[Builtin.append_,run_underlying ht,run_underlying hx,sizeOf,typeInfo,zeroValue,hi,hz,asInt,asIntOf,hwrap,L,q,hroom,hm,hm',W,U,Question.forced,hfo,newRow,grownCap,hna];grind
theorem bK7{t:TypeId}{k:IntKind}(f:aEi P E.T t (.i k)):P.underlying t=some (.int k):=by
 obtain⟨d,hd,hb⟩:=f.desc;cases d<;>simp[fM] at hb
 simp_all
def aKC(E:Env)(h:List Obj)(t:TypeId)(s x:AV):Prop×AV×List Obj :=
 match E.T t with
 | some (.sl f)=>match aDx x with
  | some n=>match s with
   | .nilS=>(0≤n∧bound f n.toNat∧f.okB=true,.own h.length,h++ [.row (E.el t) f (List.replicate n.toNat f.zero)])
   | .own i=>match h[i]? with
    | some (.row e c' g)=>match aEc c' f g with
     | some g=>(e=E.el t∧0≤n∧bound f (g.length+n.toNat)∧f.okB=true,.own h.length,h.set i .dead++ [.row (E.el t) f (g++List.replicate n.toNat f.zero)])
     | none=>(False,.junk,h)
    | _=>(False,.junk,h)
   | _=>(False,.junk,h)
  | none=>(False,.junk,h)
 | _=>(False,.junk,h)
theorem aQV(hE:eQ P E){t tx ty:TypeId}{f:Ty}(ht:E.T t=some (.sl f)){k:IntKind}(htx:P.underlying tx=some (.int k))(N:f.okB=true){sv:Value}{xs:List f.den}
  (hrow:aBI c w (E.el t) f xs sv) {k':IntKind} {m:Nat}
  (hb:bound f (xs.length+m)) (hSb:∀b,c.S b→b<w.heap.size∧aW sv≠some b) :
  ∃v' w',(Builtin.append_ #[t,tx] ty #[sv,.int k' (m:Int)]).run P w= .ok v' w'∧w.grownBy w' (aW sv)∧aBI c w' (E.el t) f (xs++List.replicate m f.zero) v'∧(∀b,aW v'=some b→aW sv=some b∨(w.heap.size≤b∧b<w'.heap.size))∧ ∃a n m,v'= .slice a n m:=by
 have hd:=hE.el t f ht;obtain⟨e',hd',U,W⟩:=dZ (hE.T _ _ ht);have:e'=E.el t:=by simp_all
 subst this;have hTe:=hE.T _ _ U;obtain⟨i,hi,hsz,hz,hby⟩:=hTe.info;obtain⟨J,L,hrep⟩:=hrow;rw[← hsz] at L;have hzl:=iX N;have hnews:(List.replicate m (cF f)).flatten=(Builtin.zeroCells (kY f).cells m).toList:=by
  grind[aA4,aUf]
 have hnr:bC w c.S (.arr m f) (List.replicate m f.zero) (List.replicate m (cF f)).flatten:=eG w c.S (.arr m f) N;have Y:∀u∈(List.replicate m (cF f)).flatten,u.oneCell'=true:=fun u hu=>by
  have:=bC.one _ _ _ hnr u hu;cases u<;>first|rfl|exact this.elim
 obtain⟨v',w',hrun,q,O,z⟩:=aSe (P:=P) w 0 t tx ty (E.el t) k i (kY f) f.cells i.bytes hd htx hi (hz N) hsz rfl (by grind[aA4]) W sv xs.length J (by simp_all)
  k' m _ hnews Y hb.1 (Nat.le_trans (Nat.mul_le_mul_left _ hby) hb.2) (Nat.zero_le _)
 have hsl:=gX L;have I:=gX q;rw[← uG hsl] at O z;rw[← uG I] at z;have hsame:aBH c.S w w':=fun b hb=>O.block b (hSb b hb).1 (fun e=>(hSb b hb).2 e.symm);refine⟨v',w',hrun,O,?_,fun b hb=>?_,I⟩
 ·have Z:bC w c.S (.arr (List.replicate m f.zero).length f) (List.replicate m f.zero) (List.replicate m (cF f)).flatten:=by
   grind
  have:=aL6 hrep Z;exact⟨J++_,by simpa using q,bC.keep (fun _ h=>h) hsame _ _ _ (by omega)⟩
 ·rcases z with z|z
  ·simp_all
  ·right
   rw[z] at hb;cases hb;refine⟨Nat.le_refl _,?_⟩;rcases q.2 with⟨rfl,_⟩|⟨g,cp,cur,rfl,_,hheap,_⟩
   all_goals grind[aW,Array.getElem?_eq_some_iff]
theorem bD7(hE:eQ P E)(z:Good M w0 c h w){t tx ty:TypeId}{k:IntKind}(U:P.underlying tx=some (.int k)){s x:AV}{sv Z:Value}(hs:aZ c w s sv)(hx:aZ c w x Z)(hc:(aKC E h t s x).1) :
  ∃v' w' c',(Builtin.append_ #[t,tx] ty #[sv,Z]).run P w= .ok v' w'∧dG c w c' w'∧Good M w0 c' (aKC E h t s x).2.2 w'∧aZ c' w' (aKC E h t s x).2.1 v':=by
 unfold aKC at hc ⊢;split at hc
 ·rename_i ct ht;split at hc
  ·rename_i n hn;obtain⟨W,rfl⟩:=aBL hx hn;split at hc
   ·
    obtain⟨h0,hb,L⟩:=hc;obtain⟨m,rfl⟩:=Int.eq_ofNat_of_zero_le h0;have J:sv= .slice none 0 0:=by
     obtain⟨h1,_,h3⟩:=hs;have h3:=h3 rfl;simp_all[aN,Value.cells]
    subst J;simp only[Int.toNat_natCast] at hb ⊢;obtain⟨v',w',q,f,g,O,I⟩:=aQV (c:=c) (w:=w) (P:=P) (ty:=ty) (xs:=[]) (k':=W) (m:=m) hE ht U L (sv:=.slice none 0 0) ⟨[],⟨by simp,.inl ⟨rfl,rfl⟩⟩,⟨rfl,[],rfl,rfl,fun i h=>by simp at h⟩⟩ (by simp_all) (fun b hb=>⟨z.sfin b hb,by simp[aW]⟩);rw[List.nil_append] at g;have hk:fB nothing w w':=⟨f.os,f.tape,f.output,f.size,fun b hb _=>f.block b hb (by simp[aW])⟩;have:=z.push hk (o:=.row (E.el t) ct (List.replicate m ct.zero)) (hv:=v') (by
     show aBI _ _ _ _ _ _;have e:(c.push v').hd c.n=v':=(by simp[Ctx.push]);rw[e];exact g) (fun b hb=>by
     simp_all[Ctx.push,dP,aW])
    refine⟨v',w',_,q,this.2,this.1,?_⟩;have:=aE7 (c:=c) I (w':=w') (S':=c.S);rw[← z.n];exact this
   ·rename_i i;split at hc
    ·rename_i e c' xs Y;split at hc
     ·rename_i xs' hcast;obtain⟨rfl,rfl⟩:=aE6 hcast;obtain⟨rfl,h0,hb,L⟩:=hc;obtain⟨m,rfl⟩:=Int.eq_ofNat_of_zero_le h0;simp only[Int.toNat_natCast] at hb ⊢;have J:=(aCW hs).2;have N:aBI c w (E.el t) _ _ (c.hd i):=z.objs i _ Y;subst J;obtain⟨v',w',q,f,g,O,I⟩:=aQV (c:=c) (w:=w) (P:=P) (ty:=ty) (k':=W) (m:=m) hE ht U L N hb (fun b hb=>⟨z.sfin b hb,fun e=>(z.own i _ b Y e).2.2 hb⟩);have:=z.regrow Y f g O;refine⟨v',w',_,q,this.2,this.1,?_⟩;have:=aE7 (c:=c) I (w':=w') (S':=c.S);rw[← z.n];exact this
     simp_all
    simp_all
   simp_all
  simp_all
 simp_all
end
end Go.Vc
namespace Go.Vc
open Go.RowKit
section
variable {P:Program} {E:Env} {T:Tab} {M:Perm} {w0:World} {c:Ctx} {h:List Obj} {w:World}
theorem aNc(w:World)(t u ty e:TypeId)(i:TypeInfo)(ht:P.underlying t=some (.slice e))(N:P.underlying u=some .string)(hi:P.info? e=some i)(O:i.zero=some (.int .u8 0))
  (hsize:i.size=1) (J:i.bytes=1) (v:Value) (n:Nat) (xs:List Value) (q:w.ownsRow 0 e 1 v n xs) (s:ByteArray)
  (U:n+s.size≤maxLen) (hbytes:n+s.size≤140737488355328) :
  ∃v' w',(Builtin.append_ #[t,u] ty #[v,.string s]).run P w= .ok v' w'∧w'.ownsRow 0 e 1 v' (n+s.size) (xs++Lib.strCells s)∧w.grownBy w' v.ownBlock∧(v'.ownBlock=v.ownBlock∨v'.ownBlock=some w.heap.size):=by
 obtain⟨v',w',L,h2,h3,_⟩:=Lib.run_append_own_string (P:=P) w 0 t u ty e i ht N hi O hsize J v n xs q s U hbytes (Nat.zero_le _);refine⟨v',w',L,h2,h3,?_⟩;have hsmall:n+s.size≤9223372036854775807:=by omega
 have hxl:xs.length=n:=by simpa using q.1
 rcases q.2 with⟨rfl,rfl⟩|⟨g,z,I,rfl,Y,hg,hnc,Z,hcs,htake⟩
 ·by_cases hm:s.size=0
  ·simp_all
  ·have f:=run_append_nil_string (P:=P) w t u ty e i (.int .u8 0) ht N hi O s (by omega) (by omega) (by grind);rw[L] at f
   injection f with q1 q2
   rw[q1]; exact .inr rfl
 ·by_cases hroom:n+s.size≤z
  ·have W:I.size=z:=(by omega);have f:=Lib.run_append_room_string (P:=P) w t u ty e i ht N hi hsize g n z I hg s hroom (by omega);rw[L] at f
   injection f with q1 q2
   rw[q1]; exact .inl rfl
  ·have holds:∀j u,xs[j]? = some u→w.cell? ((⟨g,0,none⟩:Addr).add j)=some u:=q.cells (g:=g) rfl;have f:=Lib.run_append_grow_string (P:=P) w t u ty e i (.int .u8 0) ht N hi O ⟨g,0,none⟩ n z xs (by simp_all) holds s (by omega) (by omega) (by rw[J]; exact growslice_fits (by omega) (by omega));rw[L] at f
   injection f with q1 q2
   rw[q1]; exact .inr rfl
def isStr:Option Ty→Bool
 | some .str=>true
 | _=>false
def aKD(E:Env)(h:List Obj)(t:TypeId)(s x:AV):Prop×AV×List Obj :=
 match E.T t with
 | some (.sl (.u .u8))=>match x with
  | .val .str b=>match s with
   | .nilS=>(bound (.u .u8) b.length,.own h.length,h++ [.row (E.el t) (.u .u8) b])
   | .own i=>match h[i]? with
    | some (.row e c' f)=>match aEc c' (.u .u8) f with
     | some f=>(e=E.el t∧bound (.u .u8) (f.length+b.length),.own h.length,h.set i .dead++ [.row (E.el t) (.u .u8) (f++b)])
     | none=>(False,.junk,h)
    | _=>(False,.junk,h)
   | _=>(False,.junk,h)
  | _=>(False,.junk,h)
 | _=>(False,.junk,h)
theorem aZn{S:Nat→Prop}(s:ByteArray):bC w S (.arr (aI s).length (.u .u8)) (aI s) (Lib.strCells s):=by
 refine⟨rfl,(aI s).map (fun (x:Nat)=>[Value.int .u8 (x:Int)]),?_,by simp,fun i z I=>?_⟩
 ·have f:∀l:List UInt8,(l.map fun b=>Value.int .u8 (b.toNat:Int))=((l.map (·.toNat)).map (fun (x:Nat)=>[Value.int .u8 (x:Int)])).flatten:=by
   intro l
   induction l with
   | nil=>rfl
   | cons a r g=>simp[g]
  exact f s.data.toList
 ·simp only[List.getElem_map];refine⟨rfl,rfl,?_⟩;have:(aI s)[i]=(s.data.toList[i]'(by grind[aI])).toNat:=by simp[aI]
  rw[this];generalize (s.data.toList[i]'(by grind))=q;have:=q.toNat_lt;grind[IntKind.max,IntKind.signed,IntKind.bits]
theorem aQW(hE:eQ P E){t tx ty:TypeId}(ht:E.T t=some (.sl (.u .u8)))(htx:P.underlying tx=some .string){sv:Value}{xs:List Nat}
  (hrow:aBI c w (E.el t) (.u .u8) xs sv) {s:ByteArray} (hb:bound (.u .u8) (xs.length+(aI s).length)) (Z:∀b,c.S b→b<w.heap.size∧aW sv≠some b) :
  ∃v' w',(Builtin.append_ #[t,tx] ty #[sv,.string s]).run P w= .ok v' w'∧w.grownBy w' (aW sv)∧aBI c w' (E.el t) (.u .u8) (xs++aI s) v'∧(∀b,aW v'=some b→aW sv=some b∨(w.heap.size≤b∧b<w'.heap.size))∧ ∃a n m,v'= .slice a n m:=by
 have hd:=hE.el t _ ht;obtain⟨e',hd',O,hpos⟩:=dZ (hE.T _ _ ht);have:e'=E.el t:=by simp_all
 subst this;have U:=hE.T _ _ O;obtain⟨i,hi,hsz,hz,hby⟩:=U.info;obtain⟨I,L,W⟩:=hrow;have J:(aI s).length=s.size:=rG s;rw[J] at hb;have hb1:i.bytes=1:=U.byte rfl i hi;obtain⟨v',w',Y,f,N,q⟩:=aNc (P:=P) w t tx ty (E.el t) i hd htx hi (hz rfl) hsz hb1 sv xs.length I L s hb.1 (by have:=hb.2; grind[Ty.byt,IntKind.bits]);have hsl:=gX L;have z:=gX f;rw[← uG hsl] at N q;rw[← uG z] at q;have hsame:aBH c.S w w':=fun b hb=>N.block b (Z b hb).1 (fun e=>(Z b hb).2 e.symm);refine⟨v',w',Y,N,?_,fun b hb=>?_,z⟩
 ·have:=aL6 (t:=.u .u8) W (aZn (w:=w) (S:=c.S) s);exact⟨I++_,by simpa [J,Ty.cells] using f,bC.keep (fun _ h=>h) hsame _ _ _ (by omega)⟩
 ·rcases q with q|q
  ·simp_all
  ·right
   rw[q] at hb;cases hb;refine⟨Nat.le_refl _,?_⟩;rcases f.2 with⟨rfl,_⟩|⟨g,cp,cur,rfl,_,hheap,_⟩
   all_goals grind[aW,Array.getElem?_eq_some_iff]
theorem bD8(Y:eQ P E)(z:Good M w0 c h w){t tx ty:TypeId}(N:P.underlying tx=some .string){s x:AV}{sv W:Value}(hs:aZ c w s sv)(hx:aZ c w x W)(hc:(aKD E h t s x).1) :
  ∃v' w' c',(Builtin.append_ #[t,tx] ty #[sv,W]).run P w= .ok v' w'∧dG c w c' w'∧Good M w0 c' (aKD E h t s x).2.2 w'∧aZ c' w' (aKD E h t s x).2.1 v':=by
 unfold aKD at hc ⊢;split at hc
 ·rename_i ht;split at hc
  ·rename_i b;obtain⟨st,rfl,rfl,hm⟩:=aQO hx;split at hc
   ·
    have L:sv= .slice none 0 0:=by
     obtain⟨h1,_,h3⟩:=hs;have h3:=h3 rfl;simp_all[aN,Value.cells]
    subst L;obtain⟨v',w',q,f,g,O,J⟩:=aQW (c:=c) (w:=w) (P:=P) (ty:=ty) (xs:=[]) (s:=st) Y ht N (sv:=.slice none 0 0) ⟨[],⟨by simp,.inl ⟨rfl,rfl⟩⟩,⟨rfl,[],rfl,rfl,fun i h=>by simp at h⟩⟩ (by simp_all) (fun b hb=>⟨z.sfin b hb,by simp[aW]⟩);rw[List.nil_append] at g;have hk:fB nothing w w':=⟨f.os,f.tape,f.output,f.size,fun b hb _=>f.block b hb (by simp[aW])⟩;have:=z.push hk (o:=.row (E.el t) (.u .u8) (aI st)) (hv:=v') (by
     show aBI _ _ _ _ _ _;have e:(c.push v').hd c.n=v':=(by simp[Ctx.push]);rw[e];exact g) (fun b hb=>by
     simp_all[Ctx.push,dP,aW])
    refine⟨v',w',_,q,this.2,this.1,?_⟩;have:=aE7 (c:=c) J (w':=w') (S':=c.S);rw[← z.n];exact this
   ·rename_i i;split at hc
    ·rename_i e c' Z U;split at hc
     ·rename_i xs' hcast;obtain⟨rfl,rfl⟩:=aE6 hcast;obtain⟨rfl,hb⟩:=hc;have L:=(aCW hs).2;have I:aBI c w (E.el t) _ _ (c.hd i):=z.objs i _ U;subst L;obtain⟨v',w',q,f,g,O,J⟩:=aQW (c:=c) (w:=w) (P:=P) (ty:=ty) (s:=st) Y ht N I hb (fun b hb=>⟨z.sfin b hb,fun e=>(z.own i _ b U e).2.2 hb⟩);have:=z.regrow U f g O;refine⟨v',w',_,q,this.2,this.1,?_⟩;have:=aE7 (c:=c) J (w':=w') (S':=c.S);rw[← z.n];exact this
     simp_all
    simp_all
   simp_all
  simp_all
 simp_all
end
end Go.Vc
namespace Go.Vc
open Go.RowKit
structure Fr where
 P:Program
 E:Env
 M:Perm
 w0:World
 nt:Nat
 ds:List Deferred
@[reducible] def fr(P:Program)(E:Env)(S:Nat→Prop)(w0:World)(nt:Nat):Fr:=⟨P,E,top S,w0,nt,[]⟩
structure xT(F:Fr):Prop where
 env:eQ F.P F.E
 mix:F.P.follows .mixedOrders=true
def fL(nt:Nat):Code→Bool
 | .region _ ops f=>ops.toList.all (eZ nt)&&aIk ops.toList&&(!f||aZi ops.toList)
 | .seq a b=>fL nt a&&fL nt b
 | .cond c a b=>pA c&&fL nt a&&fL nt b
 | .block _ a=>fL nt a
 | .loop a=>fL nt a
 | .scope a=>fL nt a
 | .rangeFunc _ _ _ _=>false
 | _=>true
abbrev St:=List (Nat×AV)
def At(F:Fr)(K:Act→World→Prop)(env:St)(h:List Obj):Prop:=∀c a w,Sim F.E F.M F.w0 F.nt F.ds c env h a w→K a w
def Tri(F:Fr)(c:Code)(Q:Exit→Act→World→Prop)(env:St)(h:List Obj):Prop:=fL F.nt c=true→At F (c.wp F.P Q) env h
section
variable {F:Fr} {Q:Exit→Act→World→Prop} {env:St} {h:List Obj}
theorem dA(hq:At F (Q .normal) env h):Tri F .skip Q env h:=fun _ c a w hs=>wp_skip (hq c a w hs)
theorem bG2{l:Nat}(hq:At F (Q .normal) env h):Tri F (.label l) Q env h:=fun _ c a w hs=>wp_label (hq c a w hs)
theorem aDC{id:Nat}(hq:At F (Q (.exit id)) env h):Tri F (.exit id) Q env h:=fun _ c a w hs=>wp_exit (hq c a w hs)
theorem dL(hq:At F (Q .ret) env h):Tri F .ret Q env h:=fun _ c a w hs=>wp_ret (hq c a w hs)
def Next(F:Fr)(y:Code)(Q:Exit→Act→World→Prop)(a:Act)(w:World):Prop:=fL F.nt y=true→y.wp F.P Q a w
theorem aO{x y:Code}(hx:Tri F x (Exit.then (Next F y Q) Q) env h):Tri F (.seq x y) Q env h:=fun f c a w hs=>by
 simp only[fL,Bool.and_eq_true] at f;refine wp_seq (wp_mono (hx f.1 c a w hs) fun e g w' hq=>?_);cases e<;>first|exact hq|exact hq f.2
theorem aP{y:Code}(hy:Tri F y Q env h):At F (Exit.then (Next F y Q) Q .normal) env h:=fun c a w hs f=>hy f c a w hs
theorem cD{K:Act→World→Prop}(hk:At F K env h):At F (Exit.then K Q .normal) env h:=hk
theorem fC{K:Act→World→Prop}{id:Nat}(hq:At F (Q (.exit id)) env h):At F (Exit.then K Q (.exit id)) env h:=hq
theorem bU{K:Act→World→Prop}(hq:At F (Q .ret) env h):At F (Exit.then K Q .ret) env h:=hq
theorem iY{id:Nat}(hq:At F (Q .normal) env h):At F (Exit.inBlock id Q .normal) env h:=hq
theorem eC{id:Nat}(hq:At F (Q .ret) env h):At F (Exit.inBlock id Q .ret) env h:=hq
theorem lV{id:Nat}(hq:At F (Q .normal) env h):At F (Exit.inBlock id Q (.exit id)) env h:=fun c a w hs=>by
 simp only[Exit.inBlock,if_true]; exact hq c a w hs
theorem aJh{id f:Nat}(g:f≠id)(hq:At F (Q (.exit f)) env h):At F (Exit.inBlock id Q (.exit f)) env h:=fun c a w hs=>by
 simp only[Exit.inBlock,g,if_false]; exact hq c a w hs
theorem gU{id:Nat}{x:Code}(hx:Tri F x (Exit.inBlock id Q) env h):Tri F (.block id x) Q env h:=fun f c a w hs =>
 wp_block (hx (by grind[fL]) c a w hs)
theorem cE{x y:Code}{o:Operand}{b:Bool}(hb:evA F.E.G env o= .val .bool b)(ht:b=true→Tri F x Q env h)(g:b=false→Tri F y Q env h):Tri F (.cond o x y) Q env h:=fun f c a w hs=>by
 simp only[fL,Bool.and_eq_true] at f;have hv:=aE3 (a:=a) hs.env hs.glob f.1.1;rw[hb] at hv;have hv:=aFG hv;exact wp_cond_split hv (fun e=>ht e f.1.2 c a w hs) (fun e=>g e f.2 c a w hs)
def bNn(v:AV):Option Ent→AV
 | none=>v
 | some ⟨_,_,[],av⟩=>av
 | some _=>.junk
theorem bBM(f:List Ent)(env:St)(t:Nat):look (kM f env) t=bNn (look env t) (aEb f t):=by
 rw[aJg];cases aEb f t with
 | none=>rfl
 | some e=>obtain⟨i,d,gp,av⟩:=e; cases gp<;>rfl
def aW3(keep:List Nat)(f:List Ent)(env:St):St:=keep.map fun t=>(t,bNn (look env t) (aEb f t))
theorem bG3{c:Ctx}{w:World}{a:Act}(he:aIM c w env a.tmps)(keep:List Nat):aIM c w (keep.map fun t=>(t,look env t)) a.tmps:=fun t=>by
 have:look (keep.map fun t=>(t,look env t)) t=look env t∨look (keep.map fun t=>(t,look env t)) t= .junk:=by
  induction keep with
  | nil=>right; rfl
  | cons k r f =>
   simp only[List.map_cons,look];grind
 rcases this with e|e
 ·rw[e]; exact he t
 ·rw[e]; trivial
theorem Sim.keep{E:Env}{M:Perm}{w0:World}{nt:Nat}{ds:List Deferred}{c:Ctx}{a:Act}{w:World}(hs:Sim E M w0 nt ds c env h a w)(keep:List Nat):Sim E M w0 nt ds c (keep.map fun t=>(t,look env t)) h a w :=
 ⟨hs.good,hs.glob,bG3 hs.env keep,hs.size,hs.defers⟩
theorem aM(hF:xT F){id:Nat}{ops:Array Oper}{q:Bool}(keep:List Nat)(hv:vcA F.E h env ops.toList 0 [] (fun f=>At F (Q .normal) (aW3 keep f env) h)):Tri F (.region id ops q) Q env h:=fun z c a w hs=>by
 simp only[fL,Bool.and_eq_true,Bool.or_eq_true,Bool.not_eq_true'] at z;obtain⟨⟨L,N⟩,h3⟩:=z;have g:∀f c' I w',At F (Q .normal) (aW3 keep f env) h→dG c w c' w'→c'.n=c.n→Sim F.E F.M F.w0 F.nt F.ds c' (kM f env) h I w'→Q .normal I w':=fun f c' I w' hk _ _ J=>by
  have:=J.keep keep;refine hk c' I w' ?_;grind[aW3,look,kM,bBM]
 cases q with
 | false=>exact bBJ (ops:=ops.toList) hF.env (List.all_eq_true.1 L) N hs hv g
 | true=>exact aM9 (ops:=ops.toList) hF.env hF.mix (List.all_eq_true.1 L) N (h3.resolve_left (by simp)) hs hv g
theorem bBN{x:Code}{D:Type}(I:D→Prop)(L:D→Nat)(f:D→St)(hI:D→List Obj)(h0:At F (fun a w=>∃d c,I d∧Sim F.E F.M F.w0 F.nt F.ds c (f d) (hI d) a w) env h)
  (round:∀d,I d→Tri F x (Exit.then (fun U w'=>∃g c',(I g∧L g<L d)∧Sim F.E F.M F.w0 F.nt F.ds c' (f g) (hI g) U w') Q) (f d) (hI d)):Tri F (.loop x) Q env h:=fun N c a w hs=>by
 classical
 have N:fL F.nt x=true:=by grind[fL]
 let good:Act→World→Nat→Prop:=fun a w n=>∃d c,I d∧Sim F.E F.M F.w0 F.nt F.ds c (f d) (hI d) a w∧L d=n
 have hleast:∀a w,(∃d c,I d∧Sim F.E F.M F.w0 F.nt F.ds c (f d) (hI d) a w)→ ∃n,good a w n∧ ∀m,good a w m→n≤m:=fun a w ⟨d,c,hi,hs⟩=>by
  have W:∃n,good a w n:=⟨L d,d,c,hi,hs,rfl⟩;obtain⟨n,hn⟩:=W
  induction n using Nat.strongRecOn with
  | _ n ih =>
   by_cases hh:∃m,m<n∧good a w m
   ·obtain⟨m,hm,hg⟩:=hh; grind
   grind
 let Y:Act→World→Nat:=fun a w=>if hx:∃d c,I d∧Sim F.E F.M F.w0 F.nt F.ds c (f d) (hI d) a w then Classical.choose (hleast a w hx) else 0
 have O:∀a w (hx:∃d c,I d∧Sim F.E F.M F.w0 F.nt F.ds c (f d) (hI d) a w),good a w (Y a w)∧ ∀m,good a w m→Y a w≤m:=fun a w hx=>by
  grind
 refine wp_loop (fun a w=>∃d c,I d∧Sim F.E F.M F.w0 F.nt F.ds c (f d) (hI d) a w) Y (h0 c a w hs) fun a w hx=>?_;obtain⟨⟨d,c,hi,hs,hμ⟩,Z⟩:=O a w hx;refine wp_mono (round d hi N c a w hs) fun e U w' hq=>?_;cases e with
 | normal =>
  obtain⟨g,c',⟨J,hlt⟩,q⟩:=hq;have z:∃d c,I d∧Sim F.E F.M F.w0 F.nt F.ds c (f d) (hI d) U w':=⟨g,c',J,q⟩;refine⟨z,?_⟩;have:=(O U w' z).2 (L g) ⟨g,c',J,q,rfl⟩;omega
 | _=>exact hq
theorem bBO{x y:Code}{D:Type}(J:D→Prop)(f:D→St)(hJ:D→List Obj)(hx:Tri F x (Exit.then (fun I w'=>∃q c',J q∧Sim F.E F.M F.w0 F.nt F.ds c' (f q) (hJ q) I w') Q) env h)
  (hy:∀d,J d→Tri F y Q (f d) (hJ d)):Tri F (.seq x y) Q env h:=fun g c a w hs=>by
 simp only[fL,Bool.and_eq_true] at g;refine wp_seq (wp_mono (hx g.1 c a w hs) fun e I w' hq=>?_);cases e with
 | normal =>
  obtain⟨q,c',L,z⟩:=hq;exact hy q L g.2 c' I w' z
 | _=>exact hq
def kN(h:List Obj)(v:AV):AV→Prop
 | .val t x=>AV.as (h.map dY) t v=some x∨v= .val t x
 | .junk=>True
 | u=>v=u
def rY(h:List Obj)(env:St):St→Prop
 | []=>True
 | (t,u)::r=>kN h (look env t) u∧rY h env r
theorem aTE{M:Perm}{w0:World}{c:Ctx}{w:World}(g:Good M w0 c h w){v u:AV}{x:Value}(f:kN h v u)(hv:aZ c w v x):aZ c w u x:=by
 cases u<;>simp only[kN] at f
 case val t y =>
  rcases f with f|rfl
  all_goals grind[aZ.ofV,yY]
 case junk=>trivial
 all_goals simp_all
theorem bFI{M:Perm}{w0:World}{c:Ctx}{w:World}{a:Act}(g:Good M w0 c h w)(he:aIM c w env a.tmps):∀ {f:St},rY h env f→aIM c w f a.tmps
 | [],_,t=>trivial
 | (k,u)::r,q,t=>by
  simp only[look];split
  ·rename_i e; subst e; exact aTE g q.1 (he k)
  ·exact bFI g he q.2 t
theorem aK{D:Type}{J:D→Prop}{f:D→St}{hJ:D→List Obj}(d:D)(q:J d)(hh:h=hJ d)(z:rY h env (f d)):At F (fun a w=>∃g c',J g∧Sim F.E F.M F.w0 F.nt F.ds c' (f g) (hJ g) a w) env h:=fun c a w hs =>
 ⟨d,c,q,⟨by rw[← hh]; exact hs.good,hs.glob,bFI hs.good hs.env z,hs.size,hs.defers⟩⟩
def bD:(t:Ty)→t.den→Nat→St
 | .pair (.rp a) r,x,k=>(k,.roa a x.1)::bD r x.2 (k+1)
 | .pair a r,x,k=>(k,.val a x.1)::bD r x.2 (k+1)
 | _,_,_=>[]
end
end Go.Vc
namespace Go.Vc
open Go.RowKit
def bG4:Obj→Obj
 | .row _ t f=>.frz t f
 | .tre _ _ t f=>.frz t f
 | o=>o
def frzAll:Obj→Obj
 | .row _ t f=>.frz t f
 | .tre _ _ t f=>.frz t f
 | .frz t f=>.frz t f
 | _=>.dead
def aQX:Ty→Nat
 | .pair _ r=>aQX r+1
 | _=>0
def gK(h:List Obj):(r:RK)→r.ty.den→List AV→Prop
 | .none,_,[]=>True
 | .one t,y,[v]=>AV.as (h.map frzAll) t v=some y
 | .own e t,f,[.own i]=>h[i]? = some (.row e t f)
 | .own e t,f,[.nilS]=>f= []
 | .tup t,y,g=>g.length≠1∧aCC (h.map frzAll) t g=some y
 | _,_,_=>False
section
variable {P:Program} {E:Env} {M:Perm} {w0:World} {c:Ctx} {h:List Obj} {w:World}
theorem aW4:∀(n:Nat) (h:List Obj) (i:Nat),(freezeAll (List.range n) h)[i]? = if i<n then (h[i]?).map bG4 else h[i]? := by
 have q:∀(l r:List Nat) (h:List Obj),freezeAll (l++r) h=freezeAll r (freezeAll l h):=fun l=>by
  induction l with
  | nil=>intro r h; rfl
  | cons a l z=>intro r h; simp only[List.cons_append,freezeAll]; exact z r _
 intro n
 induction n with
 | zero=>grind[freezeAll]
 | succ n z =>
  intro h i;rw[List.range_succ,q];simp only[freezeAll,Vc.freeze];have I:=z h n;simp only[Nat.lt_irrefl,if_false] at I;split
  ·rename_i e t O f;rw[I] at f;by_cases g:n=i
   ·subst g;have J:n<h.length:=aA3 f;have hl:n<(freezeAll (List.range n) h).length:=by
     grind
    grind[bG4]
   grind
  ·rename_i e m t O f;rw[I] at f;by_cases g:n=i
   ·subst g;have J:n<h.length:=aA3 f;have hl:n<(freezeAll (List.range n) h).length:=by
     grind
    grind[bG4]
   grind
  ·rename_i N L;rw[z h i];by_cases hi:i<n
   ·grind
   ·by_cases g:i=n
    ·subst g;simp only[Nat.lt_irrefl,if_false,Nat.lt_succ_self,if_true];cases f:h[i]? with
     | none=>rfl
     | some o =>
      rw[f] at I;cases o<;>first|rfl|grind|grind
    grind
theorem Good.frzAll(f:Good M w0 c h w):∃c',dG c w c' w∧Good M w0 c' (h.map bG4) w:=by
 obtain⟨c',g,q,h3⟩:=f.freezeAll (List.range h.length);have e:Vc.freezeAll (List.range h.length) h=h.map bG4:=by
  apply List.ext_getElem?;intro i;rw[aW4,List.getElem?_map];by_cases hi:i<h.length
  ·simp[hi]
  ·simp[hi]
 grind
theorem bFJ:(h.map bG4).map dY=h.map frzAll:=by
 rw[List.map_map];apply List.map_congr_left;intro o _;cases o<;>rfl
theorem aUg{S:Nat→Prop}:∀(t:Ty) (x:t.den) (k:Nat) (vs:List Value) (f:Array Value),qV w S t x vs→c.S=S→(∀i v,vs[i]? = some v→f.getD (k+i) Go.undef=v)→aIM c w (bD t x k) f
 | .pair a r,x,k,vs,f,⟨v,q,e,z,J⟩,I,ht=>by
  subst e;have g:=aUg r x.2 (k+1) q f J I (fun i u L=>by
   have:=ht (i+1) u (by simp_all);grind)
  have hv:=ht 0 v (by simp);simp only[Nat.add_zero] at hv;intro t;have hcase:∀u:AV,aZ c w u v→aZ c w (look ((k,u)::bD r x.2 (k+1)) t) (f.getD t Go.undef):=fun u L=>by
   simp only[look];split
   ·simp_all
   ·exact g t
  cases a with
  | rp a =>
   simp only[bD];refine hcase _ ?_;unfold cZ at z;rw[if_neg (by simp[Ty.isAgg])] at z;obtain⟨b,off,ds,e,hb,hd,hcell⟩:=z;grind[aHn]
  | _ =>
   grind[bD,aZ.ofV]
 | .unit,_,_,_,_,_,_,_=>fun t=>trivial
 | .bool,_,_,_,_,h,_,_=>h.elim
 | .u _,_,_,_,_,h,_,_=>h.elim
 | .i _,_,_,_,_,h,_,_=>h.elim
 | .str,_,_,_,_,h,_,_=>h.elim
 | .sl _,_,_,_,_,h,_,_=>h.elim
 | .arr _ _,_,_,_,_,h,_,_=>h.elim
 | .expr,_,_,_,_,h,_,_=>h.elim
 | .rp _,_,_,_,_,h,_,_=>h.elim
 | .clo _ _,_,_,_,_,h,_,_=>h.elim
theorem aUh{S:Nat→Prop}:∀(t:Ty) (x:t.den) (vs:List Value),qV w S t x vs→vs.length=aQX t
 | .pair a r,x,vs,⟨v,f,e,q,g⟩=>by subst e; simp[aQX,aUh r x.2 f g]
 | .unit,_,_,h=>by simp only[qV] at h; subst h; rfl
 | .bool,_,_,h=>h.elim
 | .u _,_,_,h=>h.elim
 | .i _,_,_,h=>h.elim
 | .str,_,_,h=>h.elim
 | .sl _,_,_,h=>h.elim
 | .arr _ _,_,_,h=>h.elim
 | .expr,_,_,h=>h.elim
 | .rp _,_,_,h=>h.elim
 | .clo _ _,_,_,h=>h.elim
 | .ifc _ _,_,_,h=>h.elim
 | .nili,_,_,h=>h.elim
 | .nilp,_,_,h=>h.elim
 | .nilf,_,_,h=>h.elim
theorem bG5{S S':Nat→Prop}(hs:∀b,S b→S' b):∀ {t:Ty} {x:t.den} {vs:List Value},qV w S t x vs→qV w S' t x vs:=by
 intro t
 induction t with
 | unit=>intro x vs h; exact h
 | pair a r _ q=>intro x vs ⟨v,f,e,g,z⟩; exact⟨v,f,e,g.keep hs (.refl _ _),q z⟩
 | _=>intro x vs h; exact h.elim
def Ty.wf:(t:Ty)→t.den→Prop
 | .u k,n=>(n:Int)≤k.max
 | .i k,n=>fits k n
 | .str,s=>s.length≤maxLen
 | .sl t,f=>f.length≤maxLen∧ ∀x∈f,t.wf x
 | .pair a b,x=>a.wf x.1∧b.wf x.2
 | .arr n t,f=>f.length=n∧ ∀x∈f,t.wf x
 | .rp t,x=>t.wf x
 | .clo _ t,x=>t.wf x
 | .ifc _ t,x=>t.wf x
 | _,_=>True
theorem bC.wf{S:Nat→Prop}:∀(t:Ty) (x:t.den) (cs:List Value),bC w S t x cs→t.wf x
 | .bool,_,_,_=>trivial
 | .u k,_,_,f=>f.2.2
 | .i k,_,_,f=>f.2.2
 | .str,_,_,⟨s,_,he,hs⟩=>by grind[Ty.wf,rG]
 | .sl t,L,_,⟨a,len,N,_,q,z,h3,J⟩=>by
  refine⟨by omega,fun x hx=>?_⟩;rcases J with rfl|⟨b,off,_,_,g⟩
  ·cases hx
  ·obtain⟨i,hi,rfl⟩:=List.mem_iff_getElem.1 hx;obtain⟨ds,hd,_⟩:=g i hi;exact bC.wf t _ _ hd
 | .unit,_,_,_=>trivial
 | .pair a b,_,_,⟨c1,U,_,q,z⟩=>⟨bC.wf a _ _ q,bC.wf b _ _ z⟩
 | .arr n t,L,_,⟨O,I,_,hl,f⟩=>⟨O,fun x hx=>by
  obtain⟨i,hi,rfl⟩:=List.mem_iff_getElem.1 hx;exact bC.wf t _ _ (f i hi (by omega))⟩
 | .expr,_,_,_=>trivial
 | .rp t,_,_,⟨_,_,ds,_,_,hd,_⟩=>bC.wf t _ _ hd
 | .clo _ t,_,_,⟨_,_,hd⟩=>bC.wf t _ _ hd
 | .ifc _ t,_,_,⟨_,_,_,_,_,hd⟩=>bC.wf t _ _ hd
 | .nili,_,_,_=>trivial
 | .nilp,_,_,_=>trivial
 | .nilf,_,_,_=>trivial
theorem aHt{S:Nat→Prop}:∀(t:Ty) (x:t.den) (vs:List Value),qV w S t x vs→t.wf x
 | .pair a r,x,vs,⟨v,q,e,f,g⟩=>⟨bC.wf a _ _ f.cells,aHt r _ _ g⟩
 | .unit,_,_,_=>trivial
 | .bool,_,_,h=>h.elim
 | .u _,_,_,h=>h.elim
 | .i _,_,_,h=>h.elim
 | .str,_,_,h=>h.elim
 | .sl _,_,_,h=>h.elim
 | .arr _ _,_,_,h=>h.elim
 | .expr,_,_,h=>h.elim
 | .rp _,_,_,h=>h.elim
 | .clo _ _,_,_,h=>h.elim
 | .ifc _ _,_,_,h=>h.elim
 | .nili,_,_,h=>h.elim
 | .nilp,_,_,h=>h.elim
 | .nilf,_,_,h=>h.elim
theorem aE8{n:Int}:fits .i64 n↔ -9223372036854775808≤n∧n≤9223372036854775807:=by
 rfl
theorem bG6:maxLen=9223372036854775807:=rfl
def post(P:Program)(fn:Func)(S:Nat→Prop)(w0:World)(r:RK)(y:r.ty.den):Exit→Act→World→Prop :=
 bodyPost P fn fun e w'=>∃v,e= .returned v∧fB nothing w0 w'∧bGQ w' S w0.heap.size r y v
theorem bD9{f:FuncId}{fn:Func}{g:Code}{sp:aH}(Y:eQ P E)(O:P.funcs[f]? = some fn)(hb:fn.body=some g)(q:fL fn.ntmps g=true)(U:aQX sp.args≤fn.ntmps)
  (ht:∀(w0:World) (S:Nat→Prop) (x:sp.args.den),sp.args.wf x→sp.pre x→Tri (fr P E S w0 fn.ntmps) g (post P fn S w0 sp.res (sp.fn x)) (bD sp.args x 0) []):FOK P E.G f sp:=by
 intro w S z x L J ha hp;refine calls_of_wp O hb ?_;refine ht w S x (aHt _ _ _ ha) hp q ⟨S,fun _=>Go.undef,0,fun _ _=>False⟩ _ w ⟨⟨rfl,.refl _ _,L,fun b hb _=>.inl hb,fun i o N=>by grind,fun i o b N=>by grind,fun i j W Z b hi=>by grind,⟨Nat.le_refl _,fun i hi=>absurd hi (Nat.not_lt_zero i)⟩⟩,J,?_,?_,rfl⟩
 ·refine aUg _ x 0 z.toList _ ha rfl fun i v hv=>?_;have I:i<z.size:=by
   grind
  simp_all[Nat.zero_add,Array.getElem?_toList,Array.getElem?_append,Array.getElem?_eq_getElem]
 ·have:=aUh _ _ _ ha;simp_all
def aK1:List Value→Value
 | [v]=>v
 | vs=>.tuple vs.toArray
end
end Go.Vc
namespace Go.Vc
open Go.RowKit
def aKM(e:TypeId)(m:Mk)(t:Ty)(xs:List t.den):Obj:=match m with
 | .no=>.row e t xs
 | .sl f g=>.tre e (.sl f g) t xs
 | .pair a b=>.tre e (.pair a b) t xs
section
variable {P:Program} {E:Env} {T:Tab} {M:Perm} {w0:World} {c:Ctx} {h:List Obj} {w:World}
theorem flatten_nil{α:Type}{f:List (List α)}(h:∀i (h:i<f.length),f[i]= []):f.flatten= []:=by
 induction f with
 | nil=>rfl
 | cons a r g =>
  have h0:=h 0 (by simp);simp only[List.getElem_cons_zero] at h0;rw[List.flatten_cons,h0,g (fun i hi=>by have:=h (i+1) (by simp_all); grind)]; rfl
theorem aZo{S:Nat→Prop}{t:Ty}{x:t.den}{cs:List Value}{B:List Nat}(h:kT w S t .no x cs B):bC w S t x cs∧B= []:=by cases t<;>exact h
theorem aKE{S:Nat→Prop}{t:Ty}{x:t.den}{cs:List Value}(h:bC w S t x cs):kT w S t .no x cs []:=by cases t<;>exact⟨h,rfl⟩
theorem bK8{S:Nat→Prop}{e:TypeId}{t:Ty}{xs:List t.den}{v:Value}{f:List Value}(g:w.ownsRow 0 e t.cells v xs.length f)(z:bC w S (.arr xs.length t) xs f):kT w S (.sl t) (.sl e .no) xs [v] (hdB v):=by
 obtain⟨_,q,e1,hl,z⟩:=z;subst e1;refine⟨v,q,List.replicate xs.length [],rfl,g,hl,by simp,?_,fun i h I J=>?_⟩
 ·rw[flatten_nil (fun i hi=>by simp),List.append_nil]
 ·simp only[List.getElem_replicate];exact aKE (z i h I)
theorem bFK{S:Nat→Prop}{e:TypeId}{t:Ty}{xs:List t.den}{v:Value}{B:List Nat}(h:kT w S (.sl t) (.sl e .no) xs [v] B):(∃f,w.ownsRow 0 e t.cells v xs.length f∧bC w S (.arr xs.length t) xs f)∧B=hdB v:=by
 obtain⟨O,g,N,e1,z,J,h3,I,q⟩:=h;obtain rfl:=(List.cons.inj e1).1;refine⟨⟨g.flatten,z,rfl,g,rfl,J,fun i q1 L=>(aZo (q i q1 L (by omega))).1⟩,?_⟩;rw[I,flatten_nil (fun i hi=>(aZo (q i (by omega) (by omega) hi)).2),List.append_nil]
theorem aCX{v:Value}{b:Nat}:b∈hdB v↔aW v=some b:=by
 unfold hdB;grind
theorem aYp(v:Value):(hdB v).Nodup:=by
 grind[hdB,aW]
theorem bG7{i:Nat}{e:TypeId}{m:Mk}{t:Ty}{xs:List t.den}(h:aIL c w i (aKM e m t xs)):∃B,kT w c.S (.sl t) (.sl e m) xs [c.hd i] B∧B.Nodup∧ ∀b∈B,dP c i (aKM e m t xs) b:=by
 cases m with
 | no =>
  obtain⟨f,g,q⟩:=h;exact⟨_,bK8 g q,aYp _,fun b hb=>aCX.1 hb⟩
 | sl z I=>exact h
 | pair a b=>exact h
theorem bG8{i:Nat}{e:TypeId}{m:Mk}{t:Ty}{xs:List t.den}{B:List Nat}(h:kT w c.S (.sl t) (.sl e m) xs [c.hd i] B)(f:B.Nodup)(hb:∀b∈B,c.bl i b):aIL c w i (aKM e m t xs):=by
 cases m with
 | no=>exact(bFK h).1
 | sl g q=>exact⟨B,h,f,hb⟩
 | pair a b=>exact⟨B,h,f,hb⟩
theorem bG9{i:Nat}{e:TypeId}{m:Mk}{t:Ty}{xs:List t.den}{B:List Nat}(h:kT w c.S (.sl t) (.sl e m) xs [c.hd i] B)(hb:∀b,c.bl i b→b∈B){b:Nat}(f:dP c i (aKM e m t xs) b):b∈B:=by
 cases m with
 | no=>rw[(bFK h).2]; exact aCX.2 f
 | sl g z=>exact hb b f
 | pair a q=>exact hb b f
def aNd:(t:Ty)→Mk→t.den→Nat→List AV×List Obj
 | .pair (.sl t) r,.pair (.sl e m) f,x,n=>(.own n::(aNd r f x.2 (n+1)).1,aKM e m t x.1::(aNd r f x.2 (n+1)).2)
 | .pair a r,.pair .no f,x,n=>(.val a x.1::(aNd r f x.2 n).1,(aNd r f x.2 n).2)
 | .pair a r,.no,x,n=>(.val a x.1::(aNd r .no x.2 n).1,(aNd r .no x.2 n).2)
 | _,_,_,_=>([],[])
def aUi:Ty→Mk→Bool
 | .pair (.sl t) r,.pair (.sl e m) f=>aUi r f
 | .pair a r,.pair .no f=>aUi r f
 | .pair a r,.no=>aUi r .no
 | .unit,.no=>true
 | _,_=>false
def bOc:(t:Ty)→Mk→t.den→Nat→AV×List Obj
 | .sl t,.sl e m,f,n=>(.own n,[aKM e m t f])
 | t,m,x,n=>(.agg (aNd t m x n).1,(aNd t m x n).2)
def bNo:Ty→Mk→Bool
 | .sl _,.sl _ _=>true
 | t,m=>aUi t m
structure bBP(w:World)(S:Nat→Prop)(os:List Obj)(hs:List Value)(bs:List (List Nat)):Prop where
 lh:hs.length=os.length
 lb:bs.length=os.length
 ob:∀i (h1:i<os.length) (h2:i<hs.length) (h3:i<bs.length),∃e m t xs,os[i]=aKM e m t xs∧kT w S (.sl t) (.sl e m) xs [hs[i]] bs[i]
theorem bBP.nil{S:Nat→Prop}:bBP w S [] [] []:=⟨rfl,rfl,fun i h=>by simp at h⟩
theorem bBP.cons{S:Nat→Prop}{os:List Obj}{hs:List Value}{g:List (List Nat)}(f:bBP w S os hs g){e:TypeId}{m:Mk}{t:Ty}{xs:List t.den}{v:Value}{B:List Nat}(h:kT w S (.sl t) (.sl e m) xs [v] B):bBP w S (aKM e m t xs::os) (v::hs) (B::g):=by
 refine⟨by simp[f.lh],by simp[f.lb],fun i q z h3=>?_⟩;cases i with
 | zero=>grind
 | succ i=>exact f.ob i (by simp_all) (by simp_all) (by simp_all)
def aBM(h:List Obj)(e:TypeId)(m:Mk)(t:Ty):AV→Option (List t.den×List Nat)
 | .nilS=>some ([],[])
 | .own j=>match h[j]? with
  | some (.row f z q)=>if m= .no∧f=e then (aEc z t q).map fun g=>(g,[j]) else none
  | some (.tre f I z q)=>if I=m∧f=e then (aEc z t q).map fun g=>(g,[j]) else none
  | _=>none
 | _=>none
def qL(h:List Obj):(t:Ty)→Mk→List AV→Option (t.den×List Nat)
 | .pair (.sl t) r,.pair (.sl e m) g,v::vs=>match aBM h e m t v,qL h r g vs with
  | some (x,l),some (y,f)=>some ((x,y),l++f)
  | _,_=>none
 | .pair a r,.pair .no g,v::vs=>match AV.as (h.map dY) a v,qL h r g vs with
  | some x,some (y,f)=>some ((x,y),f)
  | _,_=>none
 | .pair a r,.no,v::vs=>match AV.as (h.map dY) a v,qL h r .no vs with
  | some x,some (y,f)=>some ((x,y),f)
  | _,_=>none
 | .unit,.no,[]=>some ((),[])
 | _,_,_=>none
def aBN(h:List Obj):(t:Ty)→Mk→AV→Option (t.den×List Nat)
 | .sl t,.sl e m,v=>aBM h e m t v
 | t,.no,v=>(AV.as (h.map dY) t v).map fun x=>(x,[])
 | t,m,.agg f=>qL h t m f
 | _,_,_=>none
def mY(c:Ctx)(h:List Obj)(l:List Nat)(b:Nat):Prop:=∃j o,j∈l∧h[j]? = some o∧dP c j o b
theorem aPz(Y:Good M w0 c h w){l g:List Nat}{B f:List Nat}(N:B.Nodup)(U:f.Nodup)(h3:∀b∈B,mY c h l b)(O:∀b∈f,mY c h g b)(hl:(l++g).Nodup):(B++f).Nodup:=by
 refine List.nodup_append.2 ⟨N,U,fun a ha b hb e=>?_⟩;subst e;obtain⟨j,o,Z,J,L⟩:=h3 a ha;obtain⟨I,z,q1,W,q⟩:=O a hb;have:=Y.sep j I o z a J W L q;grind
theorem uR{l f:List Nat}(hs:∀j∈l,j∈f){b:Nat}(g:mY c h l b):mY c h f b:=by
 obtain⟨j,o,z,q⟩:=g;exact⟨j,o,hs j z,q⟩
theorem aL7(I:Good M w0 c h w){e:TypeId}{m:Mk}{t:Ty}{v:AV}{x:List t.den}{l:List Nat}{cs:List Value}(ha:aBM h e m t v=some (x,l))(q:aN c w v cs) :
  ∃B,kT w c.S (.sl t) (.sl e m) x cs B∧B.Nodup∧ ∀b∈B,mY c h l b:=by
 cases v with
 | nilS =>
  simp only[aBM,Option.some.injEq,Prod.mk.injEq] at ha;obtain⟨rfl,rfl⟩:=ha;simp only[aN] at q;exact⟨[],⟨.slice none 0 0,[],[],q,World.ownsRow_nil w 0 e t.cells,rfl,rfl,rfl,fun i h=>by simp at h⟩,List.nodup_nil,fun b hb=>by cases hb⟩
 | own j =>
  simp only[aN] at q;obtain⟨_,rfl,_⟩:=q;have g:∀(xs:List t.den),h[j]? = some (aKM e m t xs)→ ∃B,kT w c.S (.sl t) (.sl e m) xs [c.hd j] B∧B.Nodup∧ ∀b∈B,mY c h [j] b:=fun xs f=>by
   obtain⟨B,O,U,h3⟩:=bG7 (I.objs j _ f);exact⟨B,O,U,fun b hb=>⟨j,_,by simp,f,h3 b hb⟩⟩
  simp only[aBM] at ha;split at ha
  ·rename_i J z xs f;split at ha
   ·rename_i hc;obtain⟨rfl,rfl⟩:=hc;cases hcast:aEc z t xs with
    | none=>simp_all
    | some L =>
     obtain⟨rfl,rfl⟩:=aE6 hcast;rw[hcast] at ha;simp only[Option.map_some,Option.some.injEq,Prod.mk.injEq] at ha;obtain⟨rfl,rfl⟩:=ha;exact g _ f
   grind
  ·rename_i J Y z xs f;split at ha
   ·rename_i hc;obtain⟨rfl,rfl⟩:=hc;cases hcast:aEc z t xs with
    | none=>simp_all
    | some L =>
     obtain⟨rfl,rfl⟩:=aE6 hcast;rw[hcast] at ha;simp only[Option.map_some,Option.some.injEq,Prod.mk.injEq] at ha;obtain⟨rfl,rfl⟩:=ha;obtain⟨B,q1,W,N⟩:=I.objs j _ f;exact⟨B,q1,W,fun b hb=>⟨j,_,by simp,f,N b hb⟩⟩
   grind
  grind
 | _=>grind[aBM]
theorem bIq(f:Good M w0 c h w){t:Ty}{v:AV}{x:t.den}{cs:List Value}(ha:AV.as (h.map dY) t v=some x)(g:aN c w v cs):bC w c.S t x cs :=
 bC.keep aPq (.refl _ _) _ _ _ (bMS f.frz t v x cs ha g).1
theorem aL8(hg:Good M w0 c h w):∀(t:Ty) (m:Mk) (vs:List AV) (x:t.den) (l:List Nat) (cs:List Value),qL h t m vs=some (x,l)→l.Nodup→jY c w vs cs →
  ∃B,kT w c.S t m x cs B∧B.Nodup∧ ∀b∈B,mY c h l b:=by
 intro t
 induction t with
 | pair a r iha O =>
  intro m vs x l cs ha hl J;cases vs with
  | nil=>grind[qL]
  | cons v vs =>
   simp only[jY] at J;obtain⟨c1,z,e1,h1,h2⟩:=J;subst e1;have plain:∀f,(match AV.as (h.map dY) a v,qL h r f vs with|some x,some (y,q)=>some ((x,y),q)|_,_=>none)=some (x,l)→ ∃B,bC w c.S a x.1 c1∧kT w c.S r f x.2 z B∧B.Nodup∧ ∀b∈B,mY c h l b:=fun f ha=>by
    split at ha
    ·rename_i xa ya q k1 Z;simp only[Option.some.injEq,Prod.mk.injEq] at ha;obtain⟨rfl,rfl⟩:=ha;grind[bIq]
    grind
   cases m with
   | sl e m=>grind[qL]
   | no =>
    have ha:(match AV.as (h.map dY) a v,qL h r .no vs with|some x,some (y,q)=>some ((x,y),q)|_,_=>none)=some (x,l):=(by cases a<;>exact ha);obtain⟨B,q1,I,g,N⟩:=plain .no ha;obtain⟨q5,e5⟩:=aZo I;subst e5;exact⟨[],⟨⟨c1,z,rfl,q1,q5⟩,rfl⟩,g,N⟩
   | pair ma f =>
    cases ma with
    | no =>
     have ha:(match AV.as (h.map dY) a v,qL h r f vs with|some x,some (y,q)=>some ((x,y),q)|_,_=>none)=some (x,l):=(by cases a<;>exact ha);obtain⟨B,q1,I,g,N⟩:=plain f ha;exact⟨B,⟨c1,z,[],B,rfl,rfl,aKE q1,I⟩,g,N⟩
    | pair _ _=>grind[qL]
    | sl e m =>
     cases a with
     | sl t =>
      simp only[qL] at ha;split at ha
      ·rename_i xa la ya lb k1 Z;simp only[Option.some.injEq,Prod.mk.injEq] at ha;obtain⟨rfl,rfl⟩:=ha;have L:=List.nodup_append.1 hl;obtain⟨Y,p1,p2,p3⟩:=aL7 hg k1 h1;obtain⟨W,q1,I,g⟩:=O f vs _ _ z Z L.2.1 h2;refine⟨Y++W,⟨c1,z,Y,W,rfl,rfl,p1,q1⟩,aPz hg p2 I p3 g hl,fun b hb=>?_⟩;rcases List.mem_append.1 hb with hb|hb
       ·exact uR (fun j U=>List.mem_append_left _ U) (p3 b hb)
       ·exact uR (fun j U=>List.mem_append_right _ U) (g b hb)
      grind
     | _=>grind[qL]
 | unit =>
  intro m vs x l cs ha hl J;cases m<;>cases vs<;>simp[qL] at ha
  subst ha;exact⟨[],⟨J,rfl⟩,List.nodup_nil,fun b hb=>by cases hb⟩
 | _=>grind[qL]
theorem aUj(f:Good M w0 c h w){t:Ty}{m:Mk}{v:AV}{x:t.den}{l:List Nat}{cs:List Value}(ha:aBN h t m v=some (x,l))(hl:l.Nodup)(g:aN c w v cs) :
  ∃B,kT w c.S t m x cs B∧B.Nodup∧ ∀b∈B,mY c h l b:=by
 cases m with
 | no =>
  have ha:(AV.as (h.map dY) t v).map (fun x=>(x,([]:List Nat)))=some (x,l):=by cases t<;>exact ha
  cases hx:AV.as (h.map dY) t v with
  | none=>simp_all
  | some y =>
   rw[hx] at ha;simp only[Option.map_some,Option.some.injEq,Prod.mk.injEq] at ha;obtain⟨rfl,rfl⟩:=ha;grind[aKE,bIq,List.nodup_nil]
 | sl e m =>
  cases t with
  | sl t=>exact aL7 f ha g
  | pair a r=>cases v<;>first|grind[aBN]|exact aL8 f _ _ _ _ _ _ ha hl (by grind[aN])
  | unit=>cases v<;>first|grind[aBN]|exact aL8 f _ _ _ _ _ _ ha hl (by simpa [aN] using g)
  | _=>cases v<;>first|grind[aBN]|grind[aBN,qL]
 | pair I z =>
  cases t<;>cases v<;>first|grind[aBN]|exact aL8 f _ _ _ _ _ _ ha hl (by simpa [aN] using g)|(rename_i q; cases q<;>simp[aBN,qL] at ha)
end
end Go.Vc

