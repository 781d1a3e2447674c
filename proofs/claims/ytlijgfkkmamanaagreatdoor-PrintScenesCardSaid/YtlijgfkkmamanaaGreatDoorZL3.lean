import Derived.Test.YtlijgfkkmamanaaGreatDoorZL2
import Derived.Maps.AppendAt
import Derived.Lib.AppendStr
set_option linter.unusedVariables false
set_option linter.unusedSimpArgs false
namespace Go.Vc
open Go.RowKit
structure Ent where
 i:Nat
 d:Nat
 gp:List (Nat×Bool)
 av:AV
def aA8:List Ent→Nat→Option Ent
 | [],_=>none
 | e::r,j=>if e.i=j then some e else aA8 r j
def aFa:List Ent→Nat→Option Ent
 | [],_=>none
 | e::r,t=>if e.d=t then some e else aFa r t
def aUG:AV→Bool
 | .val .bool b=>b
 | _=>false
def aH2:AV→Bool
 | .val .bool _=>true
 | _=>false
def aGN(f:List Ent):Option (Nat×Bool)→List (Nat×Bool)
 | none=>[]
 | some (j,p)=>match aA8 f j with
  | some e=>e.gp++ [(j,p)]
  | none=>[(j,p)]
def jP(f:List Ent):List (Nat×Bool)→Prop
 | []=>True
 | (j,p)::r=>(match aA8 f j with|some e=>aUG e.av=p|none=>False)∧jP f r
def aG0(f:List Ent):Option (Nat×Bool)→Prop
 | none=>True
 | some (j,_)=>match aA8 f j with
  | some e=>aH2 e.av=true
  | none=>False
def aSe:List (Nat×Bool)→List (Nat×Bool)→Bool
 | [],_=>true
 | _::_,[]=>false
 | (j,p)::r,(k,q)::s=>decide (j=k)&&(p == q)&&aSe r s
def aUH(G:Nat→AV)(f:List Ent)(env:List (Nat×AV))(gp:List (Nat×Bool)):Operand→AV
 | .tmp t=>match aFa f t with
  | some e=>if aSe e.gp gp=true then e.av else .junk
  | none=>look env t
 | x=>evA G env x
def bGm(G:Nat→AV)(f:List Ent)(env:List (Nat×AV))(gp:List (Nat×Bool))(c a b:Operand):Prop×AV :=
 match c with
 | .tmp t=>match aFa f t with
  | some e=>match (if aSe e.gp gp=true then e.av else .junk),aUH G f env (gp++ [(e.i,true)]) a,aUH G f env (gp++ [(e.i,false)]) b with
   | .val .bool q,.val .bool x,.val .bool y=>(True,.val .bool (bif q then x else y))
   | _,_,_=>(False,.junk)
  | none=>(False,.junk)
 | _=>(False,.junk)
noncomputable def opA(E:Env)(h:List Obj)(env:List (Nat×AV))(f:List Ent)(o:Oper):Prop×AV :=
 match o.op with
 | .pick c a b=>bGm E.G f env (aGN f o.guard) c a b
 | _=>pv E h (aUH E.G f env (aGN f o.guard)) o
def vcA(E:Env)(h:List Obj)(env:List (Nat×AV)):List Oper→Nat→List Ent→(List Ent→Prop)→Prop
 | [],_,f,K=>K f
 | o::r,i,f,K=>match o.dst,opA E h env f o with
  | some d,(p,v)=>aG0 f o.guard∧(jP f (aGN f o.guard)→p)∧vcA E h env r (i+1) (⟨i,d,aGN f o.guard,v⟩::f) K
  | none,_=>False
def oJ:List Ent→List (Nat×AV)→List (Nat×AV)
 | [],env=>env
 | e::r,env=>(e.d,match e.gp with| []=>e.av|_::_=>.junk)::oJ r env
structure aA3(E:Env)(h:List Obj)(env:List (Nat×AV))(ops:List Oper)(F:Nat→List Ent):Prop where
 zero:F 0= []
 step:∀i o,ops[i]? = some o→ ∃d,o.dst=some d∧aG0 (F i) o.guard∧(jP (F i) (aGN (F i) o.guard)→(opA E h env (F i) o).1)∧F (i+1)=⟨i,d,aGN (F i) o.guard,(opA E h env (F i) o).2⟩::F i
theorem aIV{E:Env}{h:List Obj}{env:List (Nat×AV)}:∀(l:List Oper) (i:Nat) (f:List Ent) (K:List Ent→Prop),vcA E h env l i f K →
  ∃F:Nat→List Ent,F i=f∧(∀k o,l[k]? = some o→ ∃d,o.dst=some d∧aG0 (F (i+k)) o.guard∧(jP (F (i+k)) (aGN (F (i+k)) o.guard)→(opA E h env (F (i+k)) o).1)∧F (i+k+1)=⟨i+k,d,aGN (F (i+k)) o.guard,(opA E h env (F (i+k)) o).2⟩::F (i+k))∧K (F (i+l.length))
 | [],i,f,K,hv=>⟨fun _=>f,rfl,fun k o J=>by grind,hv⟩
 | o::r,i,f,K,hv=>by
  simp only[vcA] at hv;split at hv
  ·rename_i d p v hd z;obtain⟨Y,O,q⟩:=hv;obtain⟨F,N,I,U⟩:=aIV r (i+1) _ K q;refine⟨fun j=>if j≤i then f else F j,by simp,fun k L g=>?_,?_⟩
   all_goals grind
  simp_all
section
variable {E:Env} {h:List Obj} {env:List (Nat×AV)} {ops:List Oper} {F:Nat→List Ent}
theorem oU(hF:aA3 E h env ops F):∀(i:Nat),i≤ops.length→ ∀j,(j<i→ ∃o d,ops[j]? = some o∧o.dst=some d∧aA8 (F i) j=some ⟨j,d,aGN (F j) o.guard,(opA E h env (F j) o).2⟩)∧(i≤j→aA8 (F i) j=none)
 | 0,_,j=>⟨fun h=>absurd h (Nat.not_lt_zero j),fun _=>by rw[hF.zero]; rfl⟩
 | i+1,hi,j=>by
  have g:ops[i]? = some ops[i]:=List.getElem?_eq_getElem (by omega);obtain⟨d,h1,U,Y,z⟩:=hF.step i _ g;obtain⟨O,Z⟩:=oU hF i (by omega) j;rw[z];refine⟨fun J=>?_,fun J=>?_⟩
  ·by_cases e:j=i
   ·grind[aA8]
   ·obtain⟨o,N,L,I,q⟩:=O (by omega);exact⟨o,N,L,I,by rw[aA8,if_neg (fun f=>e f.symm)]; exact q⟩
  ·rw[aA8,if_neg (by grind)];grind
theorem aIW(hF:aA3 E h env ops F):∀(i:Nat),i≤ops.length→ ∀t e,aFa (F i) t=some e→e.i<i∧e.d=t∧aA8 (F i) e.i=some e∧ ∃o,ops[e.i]? = some o∧o.dst=some t
 | 0,_,t,e,f=>by rw[hF.zero] at f; cases f
 | i+1,hi,t,e,f=>by
  have g:ops[i]? = some ops[i]:=List.getElem?_eq_getElem (by omega);obtain⟨d,q,O,N,I⟩:=hF.step i _ g;rw[I] at f ⊢;simp only[aFa] at f;split at f
  ·rename_i hd;cases f;subst hd;exact⟨Nat.lt_succ_self _,rfl,by simp[aA8],_,g,q⟩
  ·obtain⟨U,J,L,z⟩:=aIW hF i (by omega) t e f;exact⟨by omega,J,by rw[aA8,if_neg (by grind)]; exact L,z⟩
theorem aNL(hF:aA3 E h env ops F):∀(i:Nat),i≤ops.length→ ∀t,aFa (F i) t=none→ ∀k o,k<i→ops[k]? = some o→o.dst≠some t
 | 0,_,t,_,k,o,q,_=>absurd q (Nat.not_lt_zero k)
 | i+1,hi,t,f,k,o,q,g=>by
  have I:ops[i]? = some ops[i]:=List.getElem?_eq_getElem (by omega);obtain⟨d,J,N,L,z⟩:=hF.step i _ I;rw[z] at f;simp only[aFa] at f;split at f
  ·cases f
  ·rename_i hd;by_cases e:k=i
   ·simp_all
   ·exact aNL hF i (by omega) t f k o (by omega) g
theorem aEe(hF:aA3 E h env ops F){i j k:Nat}{e:Ent}(hi:i≤ops.length)(g:k≤ops.length)(q:i≤k)(f:aA8 (F i) j=some e):aA8 (F k) j=some e:=by
 have I:j<i:=by
  rcases Nat.lt_or_ge j i with h|h
  ·exact h
  ·rw[(oU hF i hi j).2 h] at f; cases f
 obtain⟨o,d,N,Y,U⟩:=(oU hF i hi j).1 I;obtain⟨O,Z,z,L,J⟩:=(oU hF k g j).1 (by omega);simp_all
def aS2(F:List Ent):List (Nat×Bool)→Prop
 | []=>True
 | (j,_)::r=>(∃e,aA8 F j=some e∧aH2 e.av=true)∧aS2 F r
theorem aJV(hF:aA3 E h env ops F){i k:Nat}(hi:i≤ops.length)(z:k≤ops.length)(g:i≤k):∀ {gp:List (Nat×Bool)},aS2 (F i) gp→jP (F k) gp→jP (F i) gp
 | [],_,_=>trivial
 | (j,p)::r,f,q=>by
  simp only[jP,aS2] at q f ⊢;obtain⟨⟨e,I,_⟩,f⟩:=f;refine⟨?_,aJV hF hi z g f q.2⟩;grind[aEe]
theorem aF4{F:List Ent}:∀ {g1 f:List (Nat×Bool)},jP F (g1++f)↔jP F g1∧jP F f
 | [],f=>by simp[jP]
 | (j,p)::r,f=>by simp only[List.cons_append,jP,aF4 (g1:=r),and_assoc]
theorem aSf{F:List Ent}:∀ {g1 f:List (Nat×Bool)},aS2 F (g1++f)↔aS2 F g1∧aS2 F f
 | [],f=>by simp[aS2]
 | (j,p)::r,f=>by simp only[List.cons_append,aS2,aSf (g1:=r),and_assoc]
theorem aUI(hF:aA3 E h env ops F){i k:Nat}(hi:i≤ops.length)(g:k≤ops.length)(f:i≤k):∀ {gp:List (Nat×Bool)},aS2 (F i) gp→aS2 (F k) gp
 | [],_=>trivial
 | (j,p)::r,q=>by
  simp only[aS2] at q ⊢;obtain⟨⟨e,I,hb⟩,z⟩:=q;exact⟨⟨e,aEe hF hi g f I,hb⟩,aUI hF hi g f z⟩
theorem bJb(hF:aA3 E h env ops F):∀(i:Nat) {o:Oper},ops[i]? = some o→aS2 (F i) (aGN (F i) o.guard):=by
 intro i
 induction i using Nat.strongRecOn with
 | _ i I =>
  intro o J;have hi:i<ops.length:=by
   grind
  obtain⟨d,U,q,Z,h4⟩:=hF.step i o J;cases L:o.guard with
  | none=>trivial
  | some O =>
   obtain⟨j,p⟩:=O;rw[L] at q;simp only[aG0] at q;simp only[aGN];cases f:aA8 (F i) j with
   | none=>simp_all
   | some e =>
    rw[f] at q;have g:j<i:=by
     rcases Nat.lt_or_ge j i with h|h
     ·exact h
     ·rw[(oU hF i (by omega) j).2 h] at f; cases f
    obtain⟨Y,d',N,k2,z⟩:=(oU hF i (by omega) j).1 g;rw[z] at f;cases f;rw[aSf];exact⟨aUI hF (by omega) (by omega) (by omega) (I j g N),⟨_,z,q⟩,trivial⟩
theorem aK6{F:List Ent}:∀ {g1 g:List (Nat×Bool)},aSe g1 g=true→jP F g→jP F g1
 | [],_,_,_=>trivial
 | (j,p)::r,[],hp,_=>by grind[aSe]
 | (j,p)::r,(k,q)::s,hp,f=>by
  simp only[aSe,Bool.and_eq_true,decide_eq_true_eq,beq_iff_eq] at hp;obtain⟨⟨rfl,rfl⟩,hp⟩:=hp;simp only[jP] at f ⊢;exact⟨f.1,aK6 hp f.2⟩
end
end Go.Vc
namespace Go.Vc
open Go.RowKit
structure Sim(E:Env)(M:Perm)(w0:World)(nt:Nat)(ds:List Deferred)(c:Ctx)(env:List (Nat×AV))(h:List Obj)(a:Act)(w:World):Prop where
 good:Good M w0 c h w
 glob:uD E.G c.S w
 env:aKo c w env a.tmps
 size:a.tmps.size=nt
 defers:a.defers=ds
def iG(nt:Nat)(o:Oper):Bool :=
 o.op.operands.all sO&&(match o.dst with|some d=>decide (d<nt)|none=>true)
section
variable {P:Program} {E:Env} {M:Perm} {w0:World} {nt:Nat} {ds:List Deferred} {h:List Obj} {env:List (Nat×AV)} {ops:List Oper} {F:Nat→List Ent} {Q:Exit→Act→World→Prop}
theorem Did.wp{c:Ctx}{o:Oper}{a:Act}{w:World}{av:AV}{next:Act→World→Prop}(hd:Did P M w0 h c o a w av)(q:∀v w' c',aKY P M w0 h c w av v w' c'→next (a.put o.dst v) w'):o.wp P a w next Q:=by
 rcases hd with⟨v,w',c',g,z⟩|⟨f,args,g,hc⟩
 ·unfold Oper.wp; rw[g]; exact q v w' c' z
 ·unfold Oper.wp;rw[g];refine Calls.mono hc ?_;grind
theorem Did.wp'{c:Ctx}{o:Oper}{a:Act}{w:World}{av:AV}{next:Act→World→Prop}(hd:Did P M w0 h c o a w av)(z:∀v w' c',aKY P M w0 h c w av v w' c'→((execOp a.eval o).run P w= .ok (.value v) w'∨ ∃f args,(execOp a.eval o).run P w= .ok (.enter f args) w)→next (a.put o.dst v) w'):o.wp P a w next Q:=by
 rcases hd with⟨v,w',c',g,q⟩|⟨f,args,g,hc⟩
 ·have:=z v w' c' q (.inl g);unfold Oper.wp; rw[g]; exact this
 ·have I:=fun v w' c' q=>z v w' c' q (.inr ⟨f,args,g⟩);unfold Oper.wp;rw[g];refine Calls.mono hc ?_;grind
structure bKX(T:Tab)(o:Oper)(a:Act)(c':Ctx)(w':World)(c'':Ctx)(a'':Act)(w'':World):Prop where
 keeps:iL nothing w' w''
 new:∀b,c''.S b→c'.S b∨w'.heap.size≤b
 put:∃v,a''=a.put o.dst v∧ ∀t,o.op= .alloc t→o.guard=none→ ∃ct,T t=some ct∧v= .pointer (some ⟨w'.heap.size,0,none⟩)∧w''=w'.alloc (.cells (oS ct).cells t (0,0))∧c''=c'
structure Mid(E:Env)(M:Perm)(w0:World)(nt:Nat)(ds:List Deferred)(h:List Obj)(env:List (Nat×AV))(ops:List Oper)(F:Nat→List Ent)(c:Ctx)(w:World)(listed:Nat→Prop)(c':Ctx)(a:Act)(w':World):Prop where
 later:eI c w c' w'
 n:c'.n=c.n∧c'.bl=c.bl
 good:Good M w0 c' h w'
 size:a.tmps.size=nt
 defers:a.defers=ds
 base:∀t,(∀k o,listed k→ops[k]? = some o→o.dst≠some t)→aX c' w' (look env t) (a.tmps.getD t Go.undef)
 ent:∀i e,listed i→aA8 (F ops.length) i=some e→(jP (F ops.length) e.gp→aX c' w' e.av (a.tmps.getD e.d Go.undef))∧(¬jP (F ops.length) e.gp→a.tmps.getD e.d Go.undef=Go.undef)
theorem bDX{a:Act}{d t:Nat}{v:Value}(hd:d<a.tmps.size):(a.put (some d) v).tmps.getD t Go.undef=if d=t then v else a.tmps.getD t Go.undef:=by
 simp only[Act.put];by_cases e:d=t
 all_goals simp_all
theorem bDY(hF:aA3 E h env ops F){c c' f:Ctx}{w w' g:World}{listed:Nat→Prop}{a:Act}(hm:Mid E M w0 nt ds h env ops F c w listed c' a w'){i:Nat}{o:Oper}(ho:ops[i]? = some o){d:Nat}(hd:o.dst=some d)(U:d<nt)
  (huniq:∀k ok,ops[k]? = some ok→ok.dst=some d→k=i) (hni:¬listed i) (N:eI c' w' f g) (hn:f.n=c'.n∧f.bl=c'.bl) (hg:Good M w0 f h g) {v:Value}
  (hv:∀e,aA8 (F ops.length) i=some e→(jP (F ops.length) e.gp→aX f g e.av v)∧(¬jP (F ops.length) e.gp→v=Go.undef)) :
  Mid E M w0 nt ds h env ops F c w (fun k=>listed k∨k=i) f (a.put o.dst v) g:=by
 have I:d<a.tmps.size:=by rw[hm.size]; exact U
 rw[hd];refine⟨hm.later.trans N,⟨hn.1.trans hm.n.1,hn.2.trans hm.n.2⟩,hg,by simp[Act.put,hm.size],hm.defers,fun t ht=>?_,fun k e hk L=>?_⟩
 ·rw[bDX I];have z:d≠t:=fun e=>ht i o (.inr rfl) ho (by grind);rw[if_neg z];exact N.val (hm.base t fun k ok hk Z=>ht k ok (.inl hk) Z)
 ·have O:k<ops.length:=by
   rcases Nat.lt_or_ge k ops.length with h|h
   ·exact h
   ·rw[(oU hF ops.length (Nat.le_refl _) k).2 h] at L; cases L
  obtain⟨ok,dk,k1,k2,k3⟩:=(oU hF ops.length (Nat.le_refl _) k).1 O;have hed:e.d=dk:=by grind
  rw[bDX I];by_cases Y:k=i
  ·grind
  ·have z:d≠e.d:=fun e'=>Y (huniq k ok k1 (by simp_all));rw[if_neg z];have J:listed k:=by
    simp_all
   exact⟨fun q=>N.val ((hm.ent k e J L).1 q),fun q=>(hm.ent k e J L).2 q⟩
theorem bJc{c:Ctx}{w:World}{v:AV}{x:Value}(hb:aH2 v=true)(hv:aX c w v x):x= .bool (aUG v):=by
 cases v with
 | val t y =>
  cases t<;>simp[aH2] at hb
  exact aHY hv
 | _=>grind[aH2]
theorem aUJ(hE:iF P E)(hF:aA3 E h env ops F)(hok:∀o∈ops,iG nt o=true){c c':Ctx}{w w':World}(hglob:uD E.G c.S w){listed:Nat→Prop}{a:Act}(hm:Mid E M w0 nt ds h env ops F c w listed c' a w'){i:Nat}{o:Oper}(ho:ops[i]? = some o)
  (hni:¬listed i) (hop:∀t,Operand.tmp t∈o.op.operands→ ∀k ok,ops[k]? = some ok→ok.dst=some t→(k<i→listed k)∧(i<k→ ¬listed k)) (hgd:∀j p,o.guard=some (j,p)→listed j)
  (huniq:∀k ok,ops[k]? = some ok→ok.dst=o.dst→k=i) {K:Act→World→Prop} (hK:∀I a'' z,Mid E M w0 nt ds h env ops F c w (fun k=>listed k∨k=i) I a'' z→bKX E.T o a c' w' I a'' z→K a'' z):wpOp P ops.toArray Q i K a w':=by
 have hil:i<ops.length:=by
  grind
 have hokO:=hok o (List.mem_of_getElem? ho);simp only[iG,Bool.and_eq_true] at hokO;obtain⟨d,s1,s2,s3,s4⟩:=hF.step i o ho;have hdn:d<nt:=by simp_all
 obtain⟨o',d',k1,k2,k3⟩:=(oU hF ops.length (Nat.le_refl _) i).1 hil;rw[ho] at k1; cases k1;rw[s1] at k2; cases k2;have hu:∀k ok,ops[k]? = some ok→ok.dst=some d→k=i:=fun k ok h1 h2=>huniq k ok h1 (by grind);have hglob':uD E.G c'.S w':=hglob.mono hm.later.le.S hm.later.same;have hin:=bJb hF i ho;have hwant:Region.wanted o (yielded ops.toArray a.tmps)=true↔jP (F ops.length) (aGN (F i) o.guard):=by
  cases Z:o.guard with
  | none=>simp[Region.wanted,Z,aGN,jP]
  | some jp =>
   obtain⟨j,p⟩:=jp;have hjl:=hgd j p Z;rw[Z] at s2 hin;simp only[aG0] at s2;cases L:aA8 (F i) j with
   | none=>grind
   | some e =>
    rw[L] at s2;have heF:=aEe hF (by omega) (Nat.le_refl _) (by omega) L;have hji:j<i:=by
     grind[Nat.lt_or_ge,oU]
    obtain⟨oj,dj,j1,j2,j3⟩:=(oU hF i (by omega) j).1 hji;rw[j3] at L;cases L;have hokJ:=hok oj (List.mem_of_getElem? j1);simp only[iG,Bool.and_eq_true,j2,decide_eq_true_eq] at hokJ;have hdj:dj<a.tmps.size:=(by rw[hm.size]; grind);have hy:∀v,a.tmps.getD dj Go.undef=v→yielded ops.toArray a.tmps j=(match v with| .bool b=>some b|_=>none):=by
     intro v hv;have h1:a.tmps[dj]? = some v:=by
      rw[Array.getElem?_eq_getElem hdj];have:a.tmps[dj]=v:=(by simpa [hdj] using hv);rw[this]
     simp only[yielded,List.getElem?_toArray,j1,Option.bind_some,j2,h1];cases v<;>rfl
    have hent:=hm.ent j _ hjl heF;have hgpe:aGN (F i) (some (j,p))=aGN (F j) oj.guard++ [(j,p)]:=by
     show (match aA8 (F i) j with|some e=>e.gp++ [(j,p)]|none=>[(j,p)])=_;rw[j3]
    simp only[Region.wanted,Z];rw[hgpe,aF4];by_cases J:jP (F ops.length) (aGN (F j) oj.guard)
    ·have hb:=bJc s2 (hent.1 J);rw[hy _ hb];have hone:jP (F ops.length) [(j,p)]↔aUG (opA E h env (F j) oj).2=p:=(by simp only[jP,heF,and_true]);grind
    grind[undef]
 unfold wpOp;simp only[List.getElem?_toArray,ho];by_cases hw:Region.wanted o (yielded ops.toArray a.tmps)=true
 ·rw[if_pos hw]
  left
  have J:=hwant.1 hw;have hgpi:=aJV hF (by omega) (Nat.le_refl _) (by omega) hin J;have hcond:=s3 hgpi;have hlook:∀gp,jP (F ops.length) gp→ ∀x,sO x=true→x∈o.op.operands→aX c' w' (aUH E.G (F i) env gp x) (a.eval x):=by
   intro gp J x N hxo;cases x with
   | tmp t =>
    simp only[aUH];cases L:aFa (F i) t with
    | none =>
     refine hm.base t fun k ok hk hko hdk=>?_;rcases Nat.lt_trichotomy k i with hlt|heq|hgt
     ·exact aNL hF i (by omega) t L k ok hlt hko hdk
     all_goals grind
    | some e =>
     simp only;split
     ·rename_i hp;obtain⟨e1,e2,e3,oe,e4,e5⟩:=aIW hF i (by omega) t e L;have hle:=(hop t hxo e.i oe e4 e5).1 e1;have:=(hm.ent e.i e hle (aEe hF (by omega) (Nat.le_refl _) (by omega) e3)).1 (aK6 hp J);rw[e2] at this;exact this
     ·trivial
   | const v=>exact aF3 (env:=[]) (a:=a) (c:=c') (w:=w') (G:=E.G) (fun t=>trivial) hglob' N
   | global g=>exact aF3 (env:=[]) (a:=a) (c:=c') (w:=w') (G:=E.G) (fun t=>trivial) hglob' N
   | func f=>exact aF3 (env:=[]) (a:=a) (c:=c') (w:=w') (G:=E.G) (fun t=>trivial) hglob' N
  have Y:∀x∈o.op.operands,sO x=true:=Array.all_eq_true_iff_forall_mem.1 hokO.1;have hdid:Did P M w0 h c' o a w' (opA E h env (F i) o).2:=by
   by_cases U:∃p q r,o.op= .pick p q r
   ·obtain⟨p,q,r,U⟩:=U;simp only[opA,U] at hcond ⊢;unfold bGm at hcond ⊢;cases p with
    | tmp t =>
     simp only at hcond ⊢;cases L:aFa (F i) t with
     | none=>grind
     | some e =>
      simp only[L] at hcond ⊢;split at hcond
      ·rename_i qb xb yb h1 h2 h3;have hp:aSe e.gp (aGN (F i) o.guard)=true:=by
        grind
       rw[if_pos hp] at h1;obtain⟨e1,e2,e3,oe,e4,e5⟩:=aIW hF i (by omega) t e L;have e3F:=aEe hF (by omega) (Nat.le_refl _) (by omega) e3;have hle:=(hop t (by grind[Op.operands]) e.i oe e4 e5).1 e1;have hc:=(hm.ent e.i e hle e3F).1 (aK6 hp J);rw[e2,h1] at hc;have hcv:=aHY hc;simp only[h1,if_pos hp,h2,h3];have hcb:aUG e.av=qb:=(by rw[h1]; rfl);have hq:∀pol,qb=pol→jP (F ops.length) (aGN (F i) o.guard++ [(e.i,pol)]):=fun pol hpol=>by
        rw[aF4];refine⟨J,?_,trivial⟩;grind
       cases qb with
       | true =>
        have N:=hlook _ (hq true rfl) q (Y q (by grind[Op.operands])) (by grind[Op.operands]);rw[h2] at N;refine Did.of_value (v:=a.eval q) hm.good ?_ N;have:a.eval (.tmp t)= .bool true:=hcv;simp[execOp,U,this,asBool]
       | false =>
        have N:=hlook _ (hq false rfl) r (Y r (by grind[Op.operands])) (by grind[Op.operands]);rw[h3] at N;refine Did.of_value (v:=a.eval r) hm.good ?_ N;have:a.eval (.tmp t)= .bool false:=hcv;simp[execOp,U,this,asBool]
      grind
    | _=>grind
   ·have e:opA E h env (F i) o=pv E h (aUH E.G (F i) env (aGN (F i) o.guard)) o:=by
     grind[opA,absurd]
    rw[e] at hcond ⊢;exact bKW hE hm.good hglob' (fun x N=>hlook _ J x (Y x N) N) hcond
  have hput:∀v z I,aKY P M w0 h c' w' (opA E h env (F i) o).2 v z I→Mid E M w0 nt ds h env ops F c w (fun k=>listed k∨k=i) I (a.put o.dst v) z:=fun v z I O=>by
   refine bDY hF hm ho s1 hdn hu hni O.later O.n O.good fun e L=>?_;rw[k3] at L;cases L;exact⟨fun _=>O.val,fun hn=>absurd J hn⟩
  by_cases hal:∃t,o.op= .alloc t
  ·obtain⟨t,ht⟩:=hal;simp only[opA,pv,ht] at hcond;split at hcond
   ·rename_i ct hT;have hrun:=aXM (w:=w') hE.T hT hcond (o:=o) (a:=a) ht;have hav:(opA E h env (F i) o).2= .junk:=(by grind[opA,pv]);have O:aKY P M w0 h c' w' (opA E h env (F i) o).2 _ _ c':=hav▸aSd (P:=P) (ob:=.cells (oS ct).cells t (0,0)) hm.good;unfold Oper.wp;rw[hrun];refine hK c' _ _ (hput _ _ _ O) ⟨O.keeps,O.new,_,rfl,fun t' ht' _=>?_⟩;grind
   grind
  ·exact Did.wp' hdid fun v z I O _=>hK I _ z (hput v z I O) ⟨O.keeps,O.new,v,rfl,fun t ht=>absurd ⟨t,ht⟩ hal⟩
 ·rw[if_neg hw];refine hK c' _ w' ?_ ⟨.refl _ _,fun b hb=>.inl hb,Go.undef,rfl,fun t ht hgn=>absurd (by simp[Region.wanted,hgn]) hw⟩;refine bDY hF hm ho s1 hdn hu hni (.refl _ _) ⟨rfl,rfl⟩ hm.good fun e L=>?_;grind
end
end Go.Vc
namespace Go.Vc
open Go.RowKit
theorem aK7:∀(f:List Ent) (env:List (Nat×AV)) (t:Nat),look (oJ f env) t=match aFa f t with|some e=>(match e.gp with| []=>e.av|_::_=>.junk)|none=>look env t
 | [],env,t=>rfl
 | e::r,env,t=>by
  simp only[oJ,look,aFa];split
  ·rfl
  ·exact aK7 r env t
def aJW(ops:List Oper):Bool :=
 (List.range ops.length).all fun i=>(List.range ops.length).all fun k=>decide (i=k)||(match ops[i]?,ops[k]? with|some o,some ok=>decide (o.dst≠ok.dst)||o.dst.isNone|_,_=>true)
def aYK(ops:List Oper):Bool :=
 (List.range ops.length).all fun i=>match ops[i]? with
  | none=>true
  | some o =>
   (o.after.toList.all fun e=> !Region.binds .any e||decide (e.on<i)) &&
   (match o.guard with|none=>true|some (j,_)=>o.after.toList.any fun e=>Region.binds .any e&&decide (e.on=j)) &&
   (o.op.operands.toList.all fun x=>match x with
    | .tmp t=>(List.range ops.length).all fun k=>match ops[k]? with
     | none=>true
     | some ok=>decide (ok.dst≠some t)||decide (k=i)||(decide (k<i)&&o.after.toList.any fun e=>Region.binds .any e&&decide (e.on=k))||(decide (i<k)&&ok.after.toList.any fun e=>Region.binds .any e&&decide (e.on=i))
    | _=>true)
theorem aT5{ops:List Oper}(h:aJW ops=true){i k:Nat}{o ok:Oper}(q:ops[i]? = some o)(g:ops[k]? = some ok)(hd:ok.dst=o.dst)(hs:o.dst≠none):k=i:=by
 simp only[aJW,List.all_eq_true,List.mem_range] at h;have hi:i<ops.length:=by
  grind
 have f:k<ops.length:=by
  grind
 have:=h i hi k f;simp_all
section
variable {P:Program} {E:Env} {M:Perm} {w0:World} {nt:Nat} {ds:List Deferred} {h:List Obj} {env:List (Nat×AV)} {ops:List Oper} {F:Nat→List Ent} {Q:Exit→Act→World→Prop}
theorem aEf{c c':Ctx}{w w':World}{I l2:Nat→Prop}(J:∀k,k<ops.length→(I k↔l2 k))(hF:aA3 E h env ops F){a:Act}(hm:Mid E M w0 nt ds h env ops F c w I c' a w'):Mid E M w0 nt ds h env ops F c w l2 c' a w':=by
 have g:∀k o,ops[k]? = some o→k<ops.length:=fun k o q=>by
  grind
 refine⟨hm.later,hm.n,hm.good,hm.size,hm.defers,fun t ht=>hm.base t fun k o L q=>ht k o ((J k (g k o q)).1 L) q,fun i e hi f=>?_⟩;have z:i<ops.length:=by
  rcases Nat.lt_or_ge i ops.length with h|h
  ·exact h
  ·rw[(oU hF ops.length (Nat.le_refl _) i).2 h] at f; cases f
 exact hm.ent i e ((J i z).2 hi) f
theorem aQI{c:Ctx}{a:Act}{w:World}(hs:Sim E M w0 nt ds c env h a w):Mid E M w0 nt ds h env ops F c w (fun _=>False) c a w :=
 ⟨.refl _ _,⟨rfl,rfl⟩,hs.good,hs.size,hs.defers,fun t _=>hs.env t,fun i e hi=>hi.elim⟩
theorem aYL(hF:aA3 E h env ops F){c c':Ctx}{a:Act}{w w':World}(z:uD E.G c.S w)(hm:Mid E M w0 nt ds h env ops F c w (fun k=>k<ops.length) c' a w'):Sim E M w0 nt ds c' (oJ (F ops.length) env) h a w':=by
 refine⟨hm.good,z.mono hm.later.le.S hm.later.same,fun t=>?_,hm.size,hm.defers⟩;rw[aK7];cases g:aFa (F ops.length) t with
 | none=>exact hm.base t fun k o q J=>aNL hF _ (Nat.le_refl _) t g k o q J
 | some e =>
  obtain⟨e1,L,I,_⟩:=aIW hF _ (Nat.le_refl _) t e g;simp only;split
  ·rename_i f;have:=(hm.ent e.i e e1 I).1 (by rw[f]; trivial);simp_all
  ·trivial
theorem aOW(U:iF P E)(hF:aA3 E h env ops F)(f:∀o∈ops,iG nt o=true)(O:aJW ops=true){c:Ctx}{w:World}(hglob:uD E.G c.S w)
  (Y:∀c' N w',Mid E M w0 nt ds h env ops F c w (fun k=>k<ops.length) c' N w'→Q .normal N w'):∀(m i:Nat),i+m=ops.length→ ∀(c':Ctx) (a:Act) (w':World),Mid E M w0 nt ds h env ops F c w (fun k=>k<i) c' a w'→wpOps P ops.toArray Q (List.range' i m) a w'
 | 0,i,hi,c',a,w',hm=>by
  simp only[List.range'_zero,wpOps];have:i=ops.length:=by omega
  subst this;grind
 | m+1,i,hi,c',a,w',hm=>by
  rw[List.range'_succ,wpOps_cons];have q:ops[i]? = some ops[i]:=List.getElem?_eq_getElem (by omega);obtain⟨d,s1,J,_,_⟩:=hF.step i _ q;refine aUJ U hF f hglob hm q (Nat.lt_irrefl i) (fun t _ k ok _ _=>⟨fun h=>h,fun h1 h2=>by omega⟩) (fun j p hg=>?_) (fun k ok Z hd=>aT5 O q Z hd (by simp_all)) fun I L g z _=>?_
  ·rw[hg] at J;simp only[aG0] at J;rcases Nat.lt_or_ge j i with h|h
   ·exact h
   ·rw[(oU hF i (by omega) j).2 h] at J; simp_all
  ·exact aOW U hF f O hglob Y m (i+1) (by omega) I L g (aEf (fun k _=>by omega) hF z)
theorem bAB(N:iF P E)(q:∀o∈ops,iG nt o=true)(L:aJW ops=true){c:Ctx}{a:Act}{w:World}(hs:Sim E M w0 nt ds c env h a w){K:List Ent→Prop}(hv:vcA E h env ops 0 [] K){id:Nat}
  (I:∀f c' g w',K f→eI c w c' w'→c'.n=c.n→Sim E M w0 nt ds c' (oJ f env) h g w'→Q .normal g w'):(Code.region id ops.toArray false).wp P Q a w:=by
 obtain⟨F,J,O,z⟩:=aIV ops 0 [] K hv;have hF:aA3 E h env ops F:=⟨J,fun i o U=>by simp_all⟩;simp only[Nat.zero_add] at z;refine wp_region ?_;have:=aOW (Q:=Q) N hF q L hs.glob (fun c' g w' hm=>I _ c' g w' z hm.later hm.n.1 (aYL hF hs.glob hm)) ops.length 0 (by omega) c a w (aEf (fun k _=>by simp) hF (aQI hs));grind[List.range_eq_range']
theorem aYM(hE:iF P E)(hF:aA3 E h env ops F)(hok:∀o∈ops,iG nt o=true)(hu:aJW ops=true)(q:aYK ops=true){c:Ctx}{w:World}(hglob:uD E.G c.S w)
  (hQ:∀c' a' w',Mid E M w0 nt ds h env ops F c w (fun k=>k<ops.length) c' a' w'→Q .normal a' w'):∀(f:Nat) (listed:Array Bool),listed.size=ops.length→((List.range ops.length).filter fun k=> !listed.getD k false).length=f →
   (∀k o,ops[k]? = some o→listed.getD k false=true→ ∀e∈o.after,Region.binds .any e=true→listed.getD e.on false=true) →
   ∀(c':Ctx) (a:Act) (w':World),Mid E M w0 nt ds h env ops F c w (fun k=>listed.getD k false=true) c' a w'→wpAny P .any ops.toArray Q f listed a w':=by
 have hanyI:∀i o,ops[i]? = some o→(∀e∈o.after,Region.binds .any e=true→e.on<i)∧(∀j p,o.guard=some (j,p)→ ∃e∈o.after,Region.binds .any e=true∧e.on=j) ∧
   (∀t,Operand.tmp t∈o.op.operands→ ∀k ok,ops[k]? = some ok→ok.dst=some t→k=i∨(k<i∧ ∃e∈o.after,Region.binds .any e=true∧e.on=k)∨(i<k∧ ∃e∈ok.after,Region.binds .any e=true∧e.on=i)):=by
  intro i o I;have hi:i<ops.length:=by
   grind
  simp only[aYK,List.all_eq_true,List.mem_range] at q;have:=q i hi;rw[I] at this;simp only[Bool.and_eq_true,List.all_eq_true,Array.mem_toList_iff] at this;obtain⟨⟨h1,h2⟩,h3⟩:=this;refine⟨fun e he hb=>?_,fun j p hg=>?_,fun t ht k ok g hd=>?_⟩
  ·grind
  ·grind
  ·have:=h3 _ ht;simp only[List.all_eq_true,List.mem_range] at this;have O:k<ops.length:=by
    grind
   have:=this k O;rw[g] at this;simp only[hd,ne_eq,not_true_eq_false,decide_false,Bool.false_or,Bool.or_eq_true,decide_eq_true_eq,Bool.and_eq_true,List.any_eq_true,Array.mem_toList_iff] at this;rcases this with (h|h)|h
   all_goals simp_all
 intro f
 induction f with
 | zero =>
  intro listed hsz Y hcl c' a w' hm;have z:∀k,k<ops.length→listed.getD k false=true:=fun k g=>by
   simp_all
  refine⟨?_,hQ c' a w' (aEf (fun k g=>⟨fun _=>g,fun _=>z k g⟩) hF hm)⟩;rw[List.eq_nil_iff_forall_not_mem];grind[mem_ready,Nat.lt_or_ge,List.getElem?_eq_none]
 | succ f ih =>
  intro listed hsz Y hcl c' a w' hm;refine⟨fun hr=>?_,fun i hi=>?_⟩
  ·exfalso;have hex:∃k,k<ops.length∧listed.getD k false=false:=by
    have hne:((List.range ops.length).filter fun k=> !listed.getD k false)≠ []:=fun e=>(by grind);obtain⟨k,g⟩:=List.exists_mem_of_ne_nil _ hne;grind
   have J:∃k,(k<ops.length∧listed.getD k false=false)∧ ∀j,j<k→ ¬(j<ops.length∧listed.getD j false=false):=by
    obtain⟨k,g⟩:=hex
    induction k using Nat.strongRecOn with
    | _ k ihk =>
     grind
   obtain⟨k,⟨g,hun⟩,hlow⟩:=J;have L:k∈Region.ready .any ops.toArray listed:=by
    rw[mem_ready];have N:k<listed.size:=(by omega);refine⟨by grind,ops[k],by simp[g],fun e he hb=>?_⟩;grind
   grind
  ·obtain⟨h1,o,I,z⟩:=mem_ready.1 hi;have I:ops[i]? = some o:=(by grind);have hil:i<ops.length:=by
    grind
   have N:i<listed.size:=(by omega);have hni:¬listed.getD i false=true:=(by grind);obtain⟨a1,a2,a3⟩:=hanyI i o I;obtain⟨d,s1,_,_,_⟩:=hF.step i _ I;refine aUJ hE hF hok hglob hm I hni (fun t ht k ok g hd=>?_) (fun j p hg=>?_) (fun k ok g hd=>aT5 hu I g hd (by grind)) fun c'' a'' w'' hm' _=>?_
   ·rcases a3 t ht k ok g hd with h|⟨h,e,he,hb,hon⟩|⟨h,e,he,hb,hon⟩
    all_goals grind
   ·grind
   ·have U:∀k,(listed.setIfInBounds i true).getD k false=true↔(listed.getD k false=true∨k=i):=fun k=>by
     by_cases e:i=k
     ·subst e; simp[N]
     ·rw[getD_set_ne false e];grind
    refine ih (listed.setIfInBounds i true) (by grind) ?_ (fun k o' g O e he hb=>?_) c'' a'' w'' (aEf (fun k _=>(U k).symm) hF hm')
    ·have Z:((List.range ops.length).filter fun k=> !(listed.setIfInBounds i true).getD k false)=((List.range ops.length).filter fun k=> !listed.getD k false).filter (fun k=>decide (k≠i)):=by
      rw[List.filter_filter];grind
     rw[Z];have hnd:((List.range ops.length).filter fun k=> !listed.getD k false).Nodup:=List.nodup_range.filter _;have L:i∈((List.range ops.length).filter fun k=> !listed.getD k false):=by
      grind
     have:=hnd.erase_eq_filter i;grind
    grind
theorem aOX(hE:iF P E)(q:P.follows .mixedOrders=true)(N:∀o∈ops,iG nt o=true)(Z:aJW ops=true)(z:aYK ops=true){c:Ctx}{a:Act}{w:World}(hs:Sim E M w0 nt ds c env h a w){K:List Ent→Prop}(hv:vcA E h env ops 0 [] K){id:Nat}
  (U:∀I c' J w',K I→eI c w c' w'→c'.n=c.n→Sim E M w0 nt ds c' (oJ I env) h J w'→Q .normal J w'):(Code.region id ops.toArray true).wp P Q a w:=by
 obtain⟨F,Y,f2,O⟩:=aIV ops 0 [] K hv;have hF:aA3 E h env ops F:=⟨Y,fun i o ho=>by simp_all⟩;simp only[Nat.zero_add] at O;refine wp_region_any q ?_;have f:eI c w c { w with drawn:=w.drawn+1 }:=⟨.refl _,fun b hb=>rfl⟩;have g:Sim E M w0 nt ds c env h a { w with drawn:=w.drawn+1 } :=
  ⟨hs.good.step f rfl rfl ⟨rfl,rfl,rfl,Nat.le_refl _,fun _ _ _=>rfl⟩ (fun _ _ _ _ _=>rfl) hs.good.sfin (fun _ hb=>.inl hb),uD.mono (w:=w) (w':={ w with drawn:=w.drawn+1 }) (fun _ hb=>hb) f.same hs.glob,hs.env.keep f,hs.size,hs.defers⟩
 refine aYM (Q:=Q) hE hF N Z z g.glob (fun c' J w' hm=>U _ c' J w' O (f.trans hm.later) hm.n.1 (aYL hF g.glob hm)) _ _ (by simp) ?_ (fun k o ho hl=>?_) c a _ (aEf (fun k L=>?_) hF (aQI g))
 ·rw[List.filter_eq_self.2 (fun k L=>by simp_all)]; simp
 ·exfalso;by_cases L:k<ops.length<;>simp[L] at hl
 ·simp[L]
end
end Go.Vc
namespace Go.Vc
open Go.RowKit
def Ctx.push(c:Ctx)(v:Value):Ctx:=⟨c.S,fun i=>if i=c.n then v else c.hd i,c.n+1,c.bl⟩
theorem Ctx.le_push(c:Ctx)(v:Value):c.le (c.push v):=⟨fun _ h=>h,Nat.le_succ _,fun i hi=>by grind[push,Nat.ne_of_lt]⟩
section
variable {P:Program} {T:Tab} {M:Perm} {w0:World} {c:Ctx} {h:List Obj} {w:World}
theorem Good.push(g:Good M w0 c h w){w':World}(U:iL nothing w w'){o:Obj}{hv:Value}(hob:aIM (c.push hv) w' c.n o)(hb:∀b,fA (c.push hv) c.n o b→w.heap.size≤b∧b<w'.heap.size) :
  Good M w0 (c.push hv) (h++ [o]) w'∧eI c w (c.push hv) w':=by
 have L:eI c w (c.push hv) w':=⟨c.le_push hv,fun b N=>U.block b (g.sfin b N) (fun f=>f)⟩;have hcase:∀i o',(h++ [o])[i]? = some o'→(h[i]? = some o'∧i<c.n)∨(i=c.n∧o'=o):=fun i o' J=>by
  rw[g.n];grind
 refine⟨⟨by simp[Ctx.push,g.n],g.keeps.trans U.any,fun b N=>Nat.lt_of_lt_of_le (g.sfin b N) U.size,g.src,fun i o' J=>?_,fun i o' b J q=>?_,fun i j oi oj b hi hj I z=>?_,aCs g.root L.le⟩,L⟩
 ·rcases hcase i o' J with⟨J,hi⟩|⟨rfl,rfl⟩
  ·exact(g.objs i o' J).keep L hi rfl (fun b q=>U.block b (g.own i o' b J q).2.1 (fun f=>f))
  omega
 ·rcases hcase i o' J with⟨J,hi⟩|⟨rfl,rfl⟩
  ·rw[gT L.le rfl hi] at q;obtain⟨h1,h2,h3⟩:=g.own i o' b J q;exact⟨h1,Nat.lt_of_lt_of_le h2 U.size,h3⟩
  ·obtain⟨h1,h2⟩:=hb b q;exact⟨.inl (Nat.le_trans g.keeps.size h1),h2,fun hS=>by have:=g.sfin b hS; omega⟩
 ·rcases hcase i oi hi with⟨O,Y⟩|⟨ei,eo⟩<;>rcases hcase j oj hj with⟨Z,hjn⟩|⟨ej,eo'⟩
  ·rw[gT L.le rfl Y] at I;rw[gT L.le rfl hjn] at z;exact g.sep i j oi oj b O Z I z
  ·subst ej; subst eo';rw[gT L.le rfl Y] at I;have:=(g.own i oi b O I).2.1;grind
  ·subst ei; subst eo;rw[gT L.le rfl hjn] at z;have:=(g.own j oj b Z z).2.1;grind
  omega
theorem Good.modifyG(f:Good M w0 c h w){i:Nat}{o o':Obj}{b:Nat}(U:h[i]? = some o)(hb:fA c i o b){w':World}(hos:w'.os=w.os)(htp:w'.tape=w.tape)(Y:w'.output=w.output)(O:w'.heap.size=w.heap.size)
  (hsame:∀k,k≠b→w'.heap[k]? = w.heap[k]?) (hob:aIM c w' i o') (J:∀b',fA c i o' b'→fA c i o b') :
  Good M w0 c (h.set i o') w'∧eI c w c w':=by
 obtain⟨hB,hblt,hnS⟩:=f.own i o b U hb;have hl:eI c w c w':=⟨.refl _,fun k L=>hsame k (fun e=>hnS (e▸L))⟩;have hil:i<h.length:=yS U;have hcase:∀j g,(h.set i o')[j]? = some g→(j≠i∧h[j]? = some g)∨(j=i∧g=o'):=fun j g z=>by
  grind
 refine⟨⟨by simp[f.n],⟨hos.trans f.keeps.os,htp.trans f.keeps.tape,Y.trans f.keeps.output,by rw[O]; exact f.keeps.size,fun k L hM=>?_⟩,fun k L=>by rw[O]; exact f.sfin k L,f.src,fun j g z=>?_,fun j g b' z q=>?_,fun j k g ok b' z L q N=>?_,f.root⟩,hl⟩
 ·have I:k≠b:=by
   grind
  rw[hsame k I]; exact f.keeps.block k L hM
 ·rcases hcase j g z with⟨I,z⟩|⟨rfl,rfl⟩
  ·refine(f.objs j g z).keep hl (by rw[f.n]; grind) rfl (fun b' hb''=>hsame b' (fun e=>I ?_));subst e;exact f.sep j i g o b' z U hb'' hb
  omega
 ·rw[O];rcases hcase j g z with⟨I,z⟩|⟨rfl,rfl⟩
  ·exact f.own j g b' z q
  ·exact f.own _ _ b' U (J b' q)
 ·rcases hcase j g z with⟨hnj,hj'⟩|⟨ej,eo⟩<;>rcases hcase k ok L with⟨hnk,Z⟩|⟨ek,eo'⟩
  ·exact f.sep j k g ok b' hj' Z q N
  ·subst ek; subst eo';exact absurd (f.sep j k g o b' hj' U q (J b' N)) hnj
  ·subst ej; subst eo;exact absurd (f.sep k j ok o b' Z U N (J b' q)) hnk
  omega
theorem Good.modify(L:Good M w0 c h w){i:Nat}{o o':Obj}{b:Nat}(N:h[i]? = some o)(hb:fA c i o b){w':World}(z:w'.os=w.os)(g:w'.tape=w.tape)(f:w'.output=w.output)(I:w'.heap.size=w.heap.size)
  (hsame:∀k,k≠b→w'.heap[k]? = w.heap[k]?) (q:aIM c w' i o') (J:∀b',fA c i o' b'→b'=b) :
  Good M w0 c (h.set i o') w'∧eI c w c w' :=
 L.modifyG N hb z g f I hsame q fun b' h'=>by grind
def freeze(i:Nat)(h:List Obj):List Obj :=
 match h[i]? with
 | some (.row _ t f)=>h.set i (.frz t f)
 | some (.tre _ _ t f)=>h.set i (.frz t f)
 | _=>h
def Ctx.moreP(c:Ctx)(p:Nat→Prop):Ctx:=⟨fun b=>c.S b∨p b,c.hd,c.n,c.bl⟩
theorem Good.giveP(q:Good M w0 c h w){i:Nat}{o:Obj}(U:h[i]? = some o){t:Ty}{xs:List t.den}(hob:bB w (c.moreP (fA c i o)).S (.sl t) xs [c.hd i]):∃c',eI c w c' w∧c'.n=c.n∧Good M w0 c' (h.set i (.frz t xs)) w:=by
 have J:c.le (c.moreP (fA c i o)):=⟨fun b hb=>.inl hb,Nat.le_refl _,fun _ _=>rfl⟩;have hl:eI c w (c.moreP (fA c i o)) w:=⟨J,.refl _ _⟩;have hil:i<h.length:=yS U;have hcase:∀j f,(h.set i (.frz t xs))[j]? = some f→(j≠i∧h[j]? = some f)∨(j=i∧f= .frz t xs):=fun j f g=>by
  grind
 have L:∀j f,fA (c.moreP (fA c i o)) j f=fA c j f:=fun j f=>by rfl
 refine⟨_,hl,rfl,by simp[Ctx.moreP,q.n],q.keeps,fun b hb=>?_,fun b hb Z=>?_,fun j f g=>?_,fun j f b g hb=>?_,fun j k f ok b g hk z I=>?_,aCs q.root J⟩
 ·rcases hb with hb|hb
  ·exact q.sfin b hb
  ·exact(q.own i _ b U hb).2.1
 ·rcases hb with hb|hb
  ·exact q.src b hb Z
  ·rcases (q.own i _ b U hb).1 with Y|Y
   all_goals grind
 ·rcases hcase j f g with⟨N,g⟩|⟨rfl,rfl⟩
  ·exact(q.objs j f g).keep hl (by rw[q.n]; grind) rfl (fun _ _=>rfl)
  ·exact hob
 ·rcases hcase j f g with⟨N,g⟩|⟨rfl,rfl⟩
  ·rw[L] at hb;obtain⟨Y,h2,h3⟩:=q.own j f b g hb;refine⟨Y,h2,fun O=>?_⟩;rcases O with O|O
   ·grind
   ·exact N (q.sep j i f _ b g U hb O)
  ·cases hb
 ·rcases hcase j f g with⟨hnj,g⟩|⟨rfl,rfl⟩
  ·rcases hcase k ok hk with⟨hnk,hk⟩|⟨rfl,rfl⟩
   ·rw[L] at z I;exact q.sep j k f ok b g hk z I
   ·cases I
  ·cases z
def Ctx.more(c:Ctx)(b? : Option Nat):Ctx:=⟨fun b=>c.S b∨b? = some b,c.hd,c.n,c.bl⟩
theorem Good.freeze(f:Good M w0 c h w)(i:Nat):∃c',eI c w c' w∧c'.n=c.n∧Good M w0 c' (freeze i h) w:=by
 unfold Vc.freeze;split
 ·rename_i e t z g;exact f.giveP g (aCr.toC (f.objs i _ g) (fun b hb=>.inl hb) (fun b hb=>.inr hb))
 ·rename_i e m t z g;obtain⟨B,q,_,I⟩:=f.objs i _ g;exact f.giveP g (mB.toC (fun b hb=>.inl hb) _ _ _ _ _ (fun b hb=>.inr (I b hb)) q)
 ·exact⟨c,.refl _ _,rfl,f⟩
def freezeAll:List Nat→List Obj→List Obj
 | [],h=>h
 | i::r,h=>freezeAll r (freeze i h)
theorem Good.freezeAll:∀(O:List Nat) {c:Ctx} {h:List Obj},Good M w0 c h w→ ∃c',eI c w c' w∧c'.n=c.n∧Good M w0 c' (freezeAll O h) w
 | [],c,h,f=>⟨c,.refl _ _,rfl,f⟩
 | i::r,c,h,f=>by
  obtain⟨c1,L,z,q⟩:=f.freeze i;obtain⟨g,N,I,J⟩:=Good.freezeAll r q;exact⟨g,L.trans N,I.trans z,J⟩
def xA:(t:Ty)→t.den→List AV
 | .pair a r,x=>.val a x.1::xA r x.2
 | .expr,x=>[.val (.i .i64) x.kind,.val .str x.text,.val (.sl .expr) x.l]
 | _,_=>[]
def aQJ(v:AV)(k:Nat)(u:AV):AV :=
 match v with
 | .val t x=>aKW t ((xA t x).set k u)
 | .agg f=>.agg (f.set k u)
 | _=>.junk
def aG1(v:AV)(i:Nat)(u:AV):AV :=
 match v with
 | .val (.arr n t) f=>match AV.as [] t u with
  | some x=>.val (.arr n t) (f.set i x)
  | none=>.junk
 | _=>.junk
def aEg:AV→List Step→AV→Prop×AV
 | v,[],u=>(v.solid=true∧u.solid=true∧v.nc=u.nc,u)
 | v,.fld off k::p,u=>(v.solid=true∧off=(eG v k).2∧(aEg (eG v k).1 p u).1∧(aEg (eG v k).1 p u).2.solid1=true∧aQJ v k (aEg (eG v k).1 p u).2≠ .junk,aQJ v k (aEg (eG v k).1 p u).2)
 | v,.idx s i::p,u=>((elemOf v i).1∧s=aXH v∧(aEg (elemOf v i).2 p u).1∧aG1 v i (aEg (elemOf v i).2 p u).2≠ .junk,aG1 v i (aEg (elemOf v i).2 p u).2)
def Ty.strB:Ty→Bool
 | .unit=>true
 | .pair _ r=>r.strB
 | .expr=>true
 | _=>false
theorem aSg:∀(t:Ty) (x:t.den) (cs:List Value),t.strB=true→bB w c.S t x cs→nD c w (xA t x) cs∧(∀v∈xA t x,v.solid1=true)
 | .unit,_,cs,_,f=>⟨f,fun v hv=>by cases hv⟩
 | .pair a r,x,cs,hs,⟨c1,I,e,N,L⟩=>by
  obtain⟨O,Y⟩:=aSg r x.2 I hs L;refine⟨⟨c1,I,e,N,O⟩,fun v hv=>?_⟩;rcases List.mem_cons.1 hv with rfl|hv
  ·rfl
  simp_all
 | .bool,_,_,hs,_=>by grind[Ty.strB]
 | .u _,_,_,hs,_=>by grind[Ty.strB]
 | .i _,_,_,hs,_=>by grind[Ty.strB]
 | .str,_,_,hs,_=>by grind[Ty.strB]
 | .sl _,_,_,hs,_=>by grind[Ty.strB]
 | .arr _ _,_,_,hs,_=>by grind[Ty.strB]
 | .expr,x,cs,_,f=>by
  have h0:=aOJ (c:=c) .expr x 0 cs f (by simp[aKq]);refine⟨?_,fun v hv=>by simp[xA] at hv; rcases hv with rfl|rfl|rfl<;>rfl⟩;cases f with
  | mk k s l a len g q z hs U hc hm f J =>
   exact⟨[_],[_,_],rfl,⟨rfl,rfl,z.1,z.2⟩,[_],[_],rfl,⟨s,rfl,rfl,hs⟩,[_],[],rfl,⟨a,len,g,rfl,U,hc,hm,J.imp id fun⟨b,off,e,hb,hcell⟩=>⟨b,off,e,hb,fun i hi=>⟨q i,f i hi,hcell i hi⟩⟩⟩,rfl⟩
 | .rp _,_,_,hs,_=>by grind[Ty.strB]
 | .clo _ _,_,_,hs,_=>by grind[Ty.strB]
theorem aJX:∀(t:Ty) (x:t.den) (k:Nat),aKq t x k≠ .junk→t.strB=true→k<(xA t x).length∧(eG (.agg (xA t x)) k)=(aKq t x k,t.fieldOff k)
 | .pair a r,x,0,_,_=>⟨by simp[xA],rfl⟩
 | .pair a r,x,k+1,f,hs=>by
  obtain⟨q,g⟩:=aJX r x.2 k f hs;refine⟨by simp[xA,q],?_⟩;simp only[xA,eG,g];rfl
 | .unit,x,k,f,_=>absurd rfl f
 | .expr,x,k,f,_=>by
  match k,f with
  | 0,_=>exact⟨by simp[xA],rfl⟩
  | 1,_=>exact⟨by simp[xA],rfl⟩
  | 2,_=>exact⟨by simp[xA],rfl⟩
  | k+3,f=>exact absurd rfl f
 | .bool,x,k,f,hs=>absurd rfl f
 | .u _,x,k,f,hs=>absurd rfl f
 | .i _,x,k,f,hs=>absurd rfl f
 | .str,x,k,f,hs=>absurd rfl f
 | .sl _,x,k,f,hs=>absurd rfl f
 | .arr _ _,x,k,f,hs=>absurd rfl f
 | .rp _,x,k,f,hs=>absurd rfl f
 | .clo _ _,x,k,f,hs=>absurd rfl f
theorem aT6:∀ {vs:List AV} {cs:List Value} {k:Nat},nD c w vs cs→(∀v∈vs,v.solid1=true)→k<vs.length→ ∃pre ds post,cs=pre++ds++post∧pre.length=(eG (.agg vs) k).2∧aO c w (eG (.agg vs) k).1 ds∧ ∀(u:AV) (f:List Value),aO c w u f→nD c w (vs.set k u) (pre++f++post)
 | [],_,_,_,_,N=>by grind
 | v::r,cs,0,I,hs,_=>by
  obtain⟨c1,J,e,z,L⟩:=I;exact⟨[],c1,J,by simp_all,rfl,z,fun u f q=>by simp only[List.set_cons_zero,nD,List.nil_append]; grind⟩
 | v::r,cs,k+1,I,hs,N=>by
  obtain⟨c1,J,e,z,L⟩:=I;obtain⟨pre,ds,post,O,hp,hd,g⟩:=aT6 (k:=k) L (fun u q=>hs u (by simp[q])) (by simp_all);refine⟨c1++pre,ds,post,by simp_all,?_,hd,fun u f q=>?_⟩
  ·rw[List.length_append,aNH (hs v (by simp)) z,hp]; rfl
  ·simp only[List.set_cons_succ,nD];exact⟨c1,pre++f++post,by simp,z,g u f q⟩
theorem bE8{v u:AV}{k:Nat}{cs:List Value}(hs:v.solid=true)(J:aO c w v cs)(z:∀t x,v= .val t x→t.strB=true)(L:(eG v k).1≠ .junk) :
  ∃pre ds post,cs=pre++ds++post∧pre.length=(eG v k).2∧aO c w (eG v k).1 ds∧ ∀f,aO c w u f→aO c w (aQJ v k u) (pre++f++post):=by
 cases v with
 | val t x =>
  have g:=z t x rfl;obtain⟨q1,O⟩:=aSg (c:=c) (w:=w) t x cs g J;obtain⟨Z,U⟩:=aJX t x k (by grind[eG]) g;obtain⟨pre,ds,post,e,hp,hd,q⟩:=aT6 q1 O Z;rw[U] at hp hd;refine⟨pre,ds,post,e,by grind[eG],by grind[eG],fun f N=>?_⟩;simp only[aQJ];have:=aOQ (t:=t) (c:=c) (w:=w) (cells:=(pre++f++post).toArray) (by simpa using q u f N);have Y:zM c w (aKW t ((xA t x).set k u)) (.agg (pre++f++post).toArray):=by
   revert this;unfold aKW;split<;>exact fun h=>h
  simpa [Value.cells] using Y.1
 | agg I =>
  simp only[aO] at J;simp only[AV.solid,List.all_eq_true] at hs;have hk:k<I.length:=by
   rcases Nat.lt_or_ge k I.length with h|h
   ·exact h
   ·exfalso; apply L;clear hs J L z
    induction I generalizing k with
    | nil=>simp[eG]
    | cons v r ih=>cases k with
     | zero=>simp at h
     | succ k=>grind[eG]
  grind[aT6,aQJ,aO]
 | _=>grind[eG]
theorem bCw{v u:AV}{i:Nat}{cs:List Value}(Z:aO c w v cs)(h:(elemOf v i).1)(z:aG1 v i u≠ .junk) :
  ∃pre ds post,cs=pre++ds++post∧pre.length=i*aXH v∧aO c w (elemOf v i).2 ds∧ ∀g,g.length=ds.length→aO c w u g→aO c w (aG1 v i u) (pre++g++post):=by
 cases v with
 | val t x =>
  cases t with
  | arr n t =>
   simp only[elemOf] at h ⊢;obtain⟨hn,f,e,hl,q⟩:=Z;have I:i<f.length:=(by omega);obtain⟨pre,post,L,hp⟩:=oT (t:=t) (css:=f) (fun j z=>bB.length _ _ _ (q j (by omega) z)) i I;refine⟨pre,f[i],post,by grind,hp,?_,fun g hdl Y=>?_⟩
   ·have:=q i (by omega) (by omega);simp only[aO];rw[List.getD_eq_getElem?_getD,List.getElem?_eq_getElem (by omega)];exact this
   ·simp only[aG1] at z ⊢;split at z
    ·rename_i y hy;have hyr:=(aOQ.as_nil t u y g hy Y).1;have J:((f.take i).flatten).length=i*t.cells:=by
      rw[nF (n:=t.cells) (fun j z=>?_)]
      ·rw[List.length_take,Nat.min_eq_left (by omega)]
      ·simp at z; simp only[List.getElem_take]; exact bB.length _ _ _ (q j (by omega) (by omega))
     have hsp:f=f.take i++ [f[i]]++f.drop (i+1):=(by simp);have N:f.flatten=(f.take i).flatten++f[i]++(f.drop (i+1)).flatten:=by
      grind
     rw[N,List.append_assoc,List.append_assoc] at L;obtain⟨U,O⟩:=List.append_inj L (by omega);obtain⟨q3,q4⟩:=List.append_inj O rfl;refine⟨by grind,f.set i g,?_,by grind,fun j h1 h2=>?_⟩
     ·rw[← U,← q4,List.set_eq_take_append_cons_drop,if_pos I];simp
     grind[List.getElem_set_self,List.getElem_set_ne]
    simp_all
  | _=>exact h.elim
 | _=>exact h.elim
def aF5:AV→List Step→Bool
 | _,[]=>true
 | .val t x,.fld _ k::p=>t.strB&&aF5 (eG (.val t x) k).1 p
 | v,.fld _ k::p=>aF5 (eG v k).1 p
 | v,.idx _ i::p=>aF5 (elemOf v i).2 p
theorem aOY:∀(p:List Step) (v u:AV) (cs:List Value),aO c w v cs→(aEg v p u).1→aF5 v p=true→ ∃pre ds post,cs=pre++ds++post∧pre.length=pR p∧(∀g,aO c w u g→g.length=ds.length∧aO c w (aEg v p u).2 (pre++g++post))
 | [],v,u,cs,U,h,_=>by
  obtain⟨h1,I,h3⟩:=h;exact⟨[],cs,[],by simp,rfl,fun g hu=>⟨by grind[aUt],by grind[aEg]⟩⟩
 | .fld off k::p,v,u,cs,U,h,hb=>by
  simp only[aEg] at h ⊢;obtain⟨hs,ho,I,h3,h4⟩:=h;have hj:(eG v k).1≠ .junk:=by
   intro e;rw[e] at I;cases p with
   | nil=>obtain⟨q,_⟩:=I; simp[AV.solid,AV.solid1] at q
   | cons s p=>cases s with
    | fld _ _=>obtain⟨q,_⟩:=I; simp[AV.solid,AV.solid1] at q
    | idx _ _=>exact I.1.elim
  have Z:∀t x,v= .val t x→t.strB=true:=fun t x e=>by simp_all[aF5,Bool.and_eq_true]
  have L:aF5 (eG v k).1 p=true:=by
   cases v<;>first|simp_all[aF5,Bool.and_eq_true]|grind[aF5]
  obtain⟨pre,ds,post,e,hp,hd,O⟩:=bE8 (u:=(aEg (eG v k).1 p u).2) hs U Z hj;obtain⟨z,J,f,e2,Y,N⟩:=aOY p _ u ds hd I L;refine⟨pre++z,J,f++post,by simp_all,by grind[List.length_append,pR,Step.off],fun g hu=>?_⟩;grind
 | .idx s i::p,v,u,cs,U,h,hb=>by
  simp only[aEg] at h ⊢;obtain⟨hs,ho,I,h4⟩:=h;have L:aF5 (elemOf v i).2 p=true:=by grind[aF5]
  obtain⟨pre,ds,post,e,hp,hd,O⟩:=bCw (u:=(aEg (elemOf v i).2 p u).2) U hs h4;obtain⟨z,J,f,e2,Y,N⟩:=aOY p _ u ds hd I L;refine⟨pre++z,J,f++post,by simp_all,by grind[List.length_append,pR,Step.off],fun g hu=>?_⟩;grind
end
end Go.Vc
namespace Go.Vc
open Go.RowKit
def Ctx.pushS(c:Ctx)(S':Nat→Prop)(v:Value):Ctx:=⟨S',fun i=>if i=c.n then v else c.hd i,c.n+1,c.bl⟩
section
variable {P:Program} {T:Tab} {M:Perm} {w0:World} {c:Ctx} {h:List Obj} {w:World}
theorem Good.pushS(q:Good M w0 c h w){w':World}(Z:iL nothing w w'){S':Nat→Prop}(hS:∀b,c.S b→S' b)(O:∀b,S' b→c.S b∨(w.heap.size≤b∧b<w'.heap.size)){o:Obj}{hv:Value}(hob:aIM (c.pushS S' hv) w' c.n o)
  (hb:∀b,fA (c.pushS S' hv) c.n o b→w.heap.size≤b∧b<w'.heap.size∧ ¬S' b) :
  Good M w0 (c.pushS S' hv) (h++ [o]) w'∧eI c w (c.pushS S' hv) w':=by
 have N:eI c w (c.pushS S' hv) w':=⟨⟨hS,Nat.le_succ _,fun i hi=>by simp[Ctx.pushS,Nat.ne_of_lt hi]⟩,fun b g=>Z.block b (q.sfin b g) (fun f=>f)⟩;have hcase:∀i o',(h++ [o])[i]? = some o'→(h[i]? = some o'∧i<c.n)∨(i=c.n∧o'=o):=fun i o' L=>by
  rw[q.n];grind
 refine⟨⟨by simp[Ctx.pushS,q.n],q.keeps.trans Z.any,fun b g=>?_,fun b g hlt=>?_,fun i o' L=>?_,fun i o' b L z=>?_,fun i j oi oj b hi hj J I=>?_,aCs q.root N.le⟩,N⟩
 ·rcases O b g with g|g
  ·exact Nat.lt_of_lt_of_le (q.sfin b g) Z.size
  omega
 ·rcases O b g with g|g
  ·exact q.src b g hlt
  ·have:=q.keeps.size; omega
 ·rcases hcase i o' L with⟨L,hi⟩|⟨rfl,rfl⟩
  ·exact(q.objs i o' L).keep N hi rfl (fun b z=>Z.block b (q.own i o' b L z).2.1 (fun f=>f))
  omega
 ·rcases hcase i o' L with⟨L,hi⟩|⟨rfl,rfl⟩
  ·rw[gT N.le rfl hi] at z;obtain⟨h1,h2,h3⟩:=q.own i o' b L z;refine⟨h1,Nat.lt_of_lt_of_le h2 Z.size,fun U=>?_⟩;rcases O b U with U|U
   all_goals grind
  ·obtain⟨h1,h2,h3⟩:=hb b z;exact⟨.inl (Nat.le_trans q.keeps.size h1),h2,h3⟩
 ·rcases hcase i oi hi with⟨Y,hin⟩|⟨ei,eo⟩<;>rcases hcase j oj hj with⟨hj',hjn⟩|⟨ej,eo'⟩
  ·rw[gT N.le rfl hin] at J;rw[gT N.le rfl hjn] at I;exact q.sep i j oi oj b Y hj' J I
  ·subst ej; subst eo';rw[gT N.le rfl hin] at J;have:=(q.own i oi b Y J).2.1;grind
  ·subst ei; subst eo;rw[gT N.le rfl hjn] at I;have:=(q.own j oj b hj' I).2.1;grind
  omega
theorem Good.regrow(f:Good M w0 c h w){i:Nat}{e:TypeId}{t:Ty}{xs:List t.den}(ho:h[i]? = some (.row e t xs)){w':World}(hk:w.grownBy w' (aU (c.hd i))){v':Value}{ys:List t.den}(hrow:aCr c w' e t ys v')
  (hb:∀b,aU v'=some b→aU (c.hd i)=some b∨(w.heap.size≤b∧b<w'.heap.size)):Good M w0 (c.push v') (h.set i .dead++ [.row e t ys]) w'∧eI c w (c.push v') w':=by
 have hil:i<h.length:=yS ho;have hother:∀b,b<w.heap.size→aU (c.hd i)≠some b→w'.heap[b]? = w.heap[b]? := fun b hlt J=>hk.block b hlt (fun e=>J e.symm);have hiS:∀b,c.S b→aU (c.hd i)≠some b:=fun b hS e=>(f.own i _ b ho e).2.2 hS;have hl:eI c w (c.push v') w':=⟨c.le_push v',fun b Z=>hother b (f.sfin b Z) (hiS b Z)⟩;have hcase:∀j o',(h.set i Obj.dead++ [Obj.row e t ys])[j]? = some o'→(h[j]? = some o'∧j<c.n∧j≠i)∨(j=c.n∧o'=Obj.row e t ys)∨o'=Obj.dead:=fun j o' hj=>by
  rw[f.n];grind
 have hpush:(c.push v').hd c.n=v':=by simp[Ctx.push]
 refine⟨⟨by simp[Ctx.push,f.n],⟨hk.os.trans f.keeps.os,hk.tape.trans f.keeps.tape,hk.output.trans f.keeps.output,Nat.le_trans f.keeps.size hk.size,fun b hlt hM=>?_⟩,fun b Z=>Nat.lt_of_lt_of_le (f.sfin b Z) hk.size,f.src,fun j o' hj=>?_,fun j o' b hj z=>?_,fun j k oj ok b hj hk' I g=>?_,aCs f.root hl.le⟩,hl⟩
 ·have J:aU (c.hd i)≠some b:=fun e'=>by
   rcases (f.own i _ b ho e').1 with L|L
   all_goals grind
  rw[hother b (Nat.lt_of_lt_of_le hlt f.keeps.size) J];exact f.keeps.block b hlt hM
 ·rcases hcase j o' hj with⟨q,Y,J⟩|⟨ej,U⟩|U
  ·exact(f.objs j o' q).keep hl Y rfl (fun b z=>hother b (f.own j o' b q z).2.1 (fun e'=>J (f.sep j i o' _ b q ho z e')))
  ·subst ej; subst U;obtain⟨vals,L,h2⟩:=hrow;exact⟨vals,by simp_all,h2⟩
  ·subst U; trivial
 ·rcases hcase j o' hj with⟨q,Y,J⟩|⟨ej,U⟩|U
  ·rw[gT hl.le rfl Y] at z;obtain⟨L,h2,h3⟩:=f.own j o' b q z;exact⟨L,Nat.lt_of_lt_of_le h2 hk.size,h3⟩
  ·subst ej; subst U;have z:aU v'=some b:=(by rw[← hpush]; exact z);rcases hb b z with L|L
   ·obtain⟨q1,q2,q3⟩:=f.own i _ b ho L;exact⟨q1,Nat.lt_of_lt_of_le q2 hk.size,q3⟩
   ·exact⟨.inl (Nat.le_trans f.keeps.size L.1),L.2,fun hS=>by have:=f.sfin b hS; omega⟩
  ·subst U; cases z
 ·rcases hcase j oj hj with⟨q,Y,J⟩|⟨ej,U⟩|U
  ·rw[gT hl.le rfl Y] at I;rcases hcase k ok hk' with⟨N,hkn,hne'⟩|⟨ek,O⟩|O
   ·rw[gT hl.le rfl hkn] at g;exact f.sep j k oj ok b q N I g
   ·subst ek; subst O;have g:aU v'=some b:=(by rw[← hpush]; exact g);rcases hb b g with L|L
    ·exact absurd (f.sep j i oj _ b q ho I L) J
    ·have:=(f.own j oj b q I).2.1;omega
   ·subst O; cases g
  ·subst ej; subst U;have I:aU v'=some b:=(by rw[← hpush]; exact I);rcases hcase k ok hk' with⟨N,hkn,hne'⟩|⟨ek,O⟩|O
   ·rw[gT hl.le rfl hkn] at g;rcases hb b I with L|L
    ·exact absurd (f.sep k i ok _ b N ho g L) hne'
    ·have:=(f.own k ok b N g).2.1;omega
   ·omega
   ·subst O; cases g
  ·subst U; cases I
def aUK(h:List Obj):AV→AV
 | .own i=>match h[i]? with
  | some (.frz t f)=>.val (.sl t) f
  | _=>.own i
 | v=>v
def aYN(h:List Obj):AV→AV
 | .agg f=>.agg (f.map (aUK h))
 | v=>aUK h v
theorem bAC(g:Good M w0 c h w){v:AV}{cs:List Value}(f:aO c w v cs):aO c w (aUK h v) cs:=by
 unfold aUK;split
 ·rename_i i;split
  ·rename_i t z q;have:=g.objs i _ q;simp only[aO] at f;rw[f.2.1];exact this
  omega
 omega
theorem bAD(f:Good M w0 c h w):∀ {vs:List AV} {cs:List Value},nD c w vs cs→nD c w (vs.map (aUK h)) cs
 | [],_,z=>z
 | v::r,_,⟨c1,g,e,I,q⟩=>⟨c1,g,e,bAC f I,bAD f q⟩
theorem bDZ(I:Good M w0 c h w){v:AV}{x:Value}(f:aX c w v x):aX c w (aYN h v) x:=by
 cases v with
 | agg O =>
  obtain⟨g,J,q⟩:=f;exact⟨bAD I (by grind[aO]),J,q⟩
 | own i =>
  simp only[aYN,aUK];split
  ·rename_i t N L;have:=I.objs i _ L;have z:=f;obtain⟨g,J,q⟩:=f;simp only[aO] at g;have U:=(aDO z).2;refine⟨?_,fun h=>by simp[AV.isAgg,Ty.isAgg] at h,fun _=>q rfl⟩;simp only[aO];rw[g.2.1];exact this
  omega
 | _=>exact f
def aIX(T:Tab)(h:List Obj)(t:TypeId)(a x:AV):Prop×AV×List Obj :=
 match a with
 | .ptr i p=>match h[i]? with
  | some (.box n .junk)=>match p with
   | []=>(n=x.nc∧n<4294967296∧x.solid=true∧ ∃f,T t=some f∧f.cells=x.nc,.junk,h.set i (.box n x))
   | _=>(False,.junk,h)
  | some (.box n v)=>((aEg v p x).1∧aF5 v p=true∧x.solid=true∧ ∃f,T t=some f∧f.cells=x.nc,.junk,h.set i (.box n (aEg v p x).2))
  | some (.row e f g)=>match p with
   | .idx s k::p=>match AV.as [] f (aEg (.val f (g.getD k f.zero)) p x).2 with
    | some y=>(k<g.length∧s=f.cells∧(aEg (.val f (g.getD k f.zero)) p x).1∧aF5 (.val f (g.getD k f.zero)) p=true∧x.solid=true∧ ∃c',T t=some c'∧c'.cells=x.nc,.junk,h.set i (.row e f (g.set k y)))
    | none=>(False,.junk,h)
   | _=>(False,.junk,h)
  | some (.trh e m f g q v)=>match p with
   | .idx s k::p=>(k=q∧s=f.cells∧(aEg v p x).1∧aF5 v p=true∧x.solid=true∧ ∃c',T t=some c'∧c'.cells=x.nc,.junk,h.set i (.trh e m f g q (aEg v p x).2))
   | _=>(False,.junk,h)
  | _=>(False,.junk,h)
 | _=>(False,.junk,h)
def aFb(f t:Ty)(xs:List f.den):Option (List t.den):=if e:f=t then some (e▸xs) else none
@[simp] theorem bCx{t:Ty}{xs:List t.den}:aFb t t xs=some xs:=by simp[aFb]
theorem aF6{f t:Ty}{xs:List f.den}{ys:List t.den}(h:aFb f t xs=some ys):∃e:f=t,ys=e▸xs:=by
 unfold aFb at h;grind
theorem bGn(h:List Obj)(i:Nat)(t:Ty):rowOf h i t=match h[i]? with
  | some (.row _ g f)=>aFb g t f
  | some (.frz g f)=>aFb g t f
  | some (.tre _ _ g f)=>aFb g t f
  | _=>none:=by
 rfl
def bound(f:Ty)(n:Nat):Prop:=n≤maxLen∧n*f.byt≤140737488355328
def zO(E:Env)(h:List Obj)(t:TypeId)(s x:AV):Prop×AV×List Obj :=
 match E.T t with
 | some (.sl f)=>match AV.as (if f.scalar then h else h.map fX) (.sl f) x with
  | some q=>match s with
   | .nilS=>(bound f q.length∧f.okB=true,.own h.length,h++ [.row (E.el t) f q])
   | .own i=>match h[i]? with
    | some (.row e c' g)=>match aFb c' f g with
     | some g=>(e=E.el t∧bound f (g.length+q.length)∧f.okB=true,.own h.length,h.set i .dead++ [.row (E.el t) f (g++q)])
     | none=>(False,.junk,h)
    | _=>(False,.junk,h)
   | _=>(False,.junk,h)
  | none=>(False,.junk,h)
 | _=>(False,.junk,h)
def aQK(E:Env)(h:List Obj)(t:TypeId)(l cp:AV):Prop×AV×List Obj :=
 match E.T t with
 | some (.sl f)=>match aEc l,aEc cp with
  | some n,some m=>(f.okB=true∧0≤n∧n≤m∧(f.byt:Int)*m≤281474976710656∧m≤maxLen,.own h.length,h++ [.row (E.el t) f (List.replicate n.toNat f.zero)])
  | _,_=>(False,.junk,h)
 | _=>(False,.junk,h)
def aMu(Γ:FuncId→List AV→Option aF)(h:List Obj)(f:FuncId)(vs:List AV):Prop×AV×List Obj :=
 match Γ f vs with
 | some sp=>match sp with
  | ⟨a,.own e t,pre,fn⟩=>match aDy (if t.scalar then h else h.map fX) a vs with
   | some x=>(pre x,.own h.length,h++ [.row e t (fn x)])
   | none=>(False,.junk,h)
  | _=>(False,.junk,h)
 | none=>(False,.junk,h)
theorem bGo{t:Ty}{css:List (List Value)}(O:∀j (J:j<css.length),(css[j]).length=t.cells){k:Nat}(f:k<css.length){pre post ds:List Value}(N:css.flatten=pre++css[k]++post)(hp:pre.length=k*t.cells):(css.set k ds).flatten=pre++ds++post:=by
 have L:css=css.take k++css[k]::css.drop (k+1):=by simp_all
 have I:(css.take k).flatten.length=k*t.cells:=by
  rw[nF (n:=t.cells) (fun i hi=>by grind),List.length_take,Nat.min_eq_left (Nat.le_of_lt f)]
 have z:css.flatten=(css.take k).flatten++css[k]++(css.drop (k+1)).flatten:=by
  grind
 have g:pre=(css.take k).flatten∧css[k]++post=css[k]++(css.drop (k+1)).flatten:=by
  grind[List.append_assoc,List.append_inj]
 have q:post=(css.drop (k+1)).flatten:=List.append_cancel_left g.2;grind
theorem aG2{t:TypeId}{J:Ty}(q:aFo P T t J){x:AV}{u:Value}(hs:x.solid=true)(U:aX c w x u)(Y:J.cells=x.nc){b off:Nat}{cells:Array Value}{e:TypeId}(hb:w.heap[b]? = some (.cells cells e (0,0)))
  {pre ds post:List Value} (hc:cells.toList=pre++ds++post) (hp:pre.length=off) (Z:ds.length=x.nc) :
  aO c w x u.cells.toList∧u.cells.toList.length=ds.length∧(storeVar t ⟨b,off,none⟩ u).run P w= .ok () (w.setRow b (pre++u.cells.toList++post).toArray):=by
 have f:zM c w x u:=by cases x<;>first|exact U|grind[AV.solid,AV.solid1]
 have O:=aUt hs f.1;refine⟨f.1,by omega,?_⟩;have g:=aQC hs f.1;have L:cells.size=(pre++ds++post).length:=by grind
 have z:=run_storeCells_at P b off e u.cells.toList 0 cells w hb (by
  simp_all) (fun v hv=>by
   have:=g v hv;cases v<;>first|rfl|exact this.elim)
 have e1:cells.toList.take (off+0)=pre:=by simp_all
 have N:cells.toList.drop (off+0+u.cells.toList.length)=post:=by
  grind
 rw[e1,N] at z;have I:u.cells.size=J.cells:=by simp_all
 simp only[storeVar,Sem.run_bind,fW q,Result.andThen_ok,I,ne_eq,not_true_eq_false,if_false,Sem.run_ite];omega
theorem bGp(hT:lZ P T)(hg:Good M w0 c h w){t:TypeId}{a x:AV}{av u:Value}(ha:aX c w a av)(hx:aX c w x u)(hc:(aIX T h t a x).1) :
  ∃w',(Instr.storeAt t av u).run P w= .ok () w'∧eI c w c w'∧Good M w0 c (aIX T h t a x).2.2 w':=by
 cases a with
 | ptr i p =>
  obtain⟨hi,b,hb,rfl⟩:=aGY ha;simp only[aIX] at hc ⊢;split at hc
  ·rename_i n Z;cases p with
   | cons _ _=>simp_all
   | nil =>
   obtain⟨h1,hbn,h3,z,h4,h5⟩:=hc;obtain⟨b',cells,e,q1,q2,q3,q4⟩:=hg.objs i _ Z;have hbb:b=b':=(by grind[aU]);subst hbb;have N:zM c w x u:=(by cases x<;>first|exact hx|grind[AV.solid,AV.solid1]);obtain⟨s1,s2,s3⟩:=aG2 (P:=P) (hT _ _ h4) h3 hx h5 q2 (pre:=[]) (ds:=cells.toList) (post:=[]) (by simp) (off:=0) rfl (by rcases q3 with q3|⟨_,q3⟩<;>(simp only[Array.length_toList]; omega));simp only[List.nil_append,List.append_nil] at s3;refine⟨w.setRow b u.cells.toList.toArray,by simp[Instr.storeAt,Instr.sureAddr,pR,s3],?_⟩;have hsame:∀k,k≠b→(w.setRow b u.cells.toList.toArray).heap[k]? = w.heap[k]? := fun k O=>setRow_other w b k _ O;have J:fA c i (.box n .junk) b:=(by simp[fA,q1,aU]);have hnS:=(hg.own i _ b Z J).2.2;have:=hg.modify (o':=.box n x) Z J (w':=w.setRow b u.cells.toList.toArray) rfl rfl rfl (by simp_all) hsame ?_ ?_
   ·simp_all
   ·refine⟨b,_,e,q1,setRow_heap w b cells _ e _ q2,?_,?_⟩
    ·simp_all
    ·have:=aO.keep (c':=c) (.refl c) (fun k O=>hsame k (fun e=>hnS (e▸O))) _ _ s1;omega
   grind[fA,aU]
  ·rename_i n v _ Z;obtain⟨h1,h2,h3,z,h4,h5⟩:=hc;obtain⟨b',cells,e,q1,q2,q3,q4⟩:=hg.objs i _ Z;have hbb:b=b':=(by grind[aU]);subst hbb;obtain⟨pre,ds,post,r1,r2,r3⟩:=aOY p v x cells.toList q4 h1 h2;have hul:=r3 u.cells.toList;have N:zM c w x u:=(by cases x<;>first|exact hx|grind[AV.solid,AV.solid1]);obtain⟨k1,k2⟩:=r3 _ N.1;obtain⟨s1,s2,s3⟩:=aG2 (P:=P) (hT _ _ h4) h3 hx h5 q2 r1 r2 (by rw[← k1,aUt h3 N.1]);refine⟨w.setRow b (pre++u.cells.toList++post).toArray,by simp[Instr.storeAt,Instr.sureAddr,s3],?_⟩;have hsame:∀k,k≠b→(w.setRow b (pre++u.cells.toList++post).toArray).heap[k]? = w.heap[k]? := fun k O=>setRow_other w b k _ O;have J:fA c i (.box n v) b:=(by simp[fA,q1,aU]);have hnS:=(hg.own i _ b Z J).2.2;have:=hg.modify (o':=.box n (aEg v p x).2) Z J (w':=w.setRow b (pre++u.cells.toList++post).toArray) rfl rfl rfl (by simp_all) hsame ?_ ?_
   ·simp_all
   ·refine⟨b,_,e,q1,setRow_heap w b cells _ e _ q2,?_,?_⟩
    ·have:cells.size=(pre++ds++post).length:=(by grind);simp_all
    ·have:=aO.keep (c':=c) (.refl c) (fun k O=>hsame k (fun e=>hnS (e▸O))) _ _ k2;omega
   grind[fA,aU]
  ·rename_i e z I Z;cases p with
   | nil=>simp_all
   | cons st p =>
    cases st with
    | fld _ _=>simp_all
    | idx s k =>
     simp only at hc ⊢;split at hc
     ·rename_i y hy;obtain⟨h1,h2,h3,h4,h5,c',h6,h7⟩:=hc;simp only[hy];obtain⟨vals,hown,hrep⟩:=hg.objs i _ Z;obtain⟨hvl,hv⟩:=hown;rcases hv with⟨_,h0⟩|⟨g,cap,f,hhd,_,hheap,hle,hcap,hsz,htake⟩
      ·omega
      have hbb:b=g:=(by grind[aU]);subst hbb;have hset:aG1 (.val (.arr I.length z) I) k (aEg (.val z (I.getD k z.zero)) p x).2= .val (.arr I.length z) (I.set k y):=by
       grind[aG1]
      obtain⟨pre,ds,post,r1,r2,r3⟩:=aOY (.idx s k::p) (.val (.arr I.length z) I) x vals (show bB w c.S _ _ _ from hrep) (by
       simp only[aEg];refine⟨h1,h2,h3,?_⟩;grind[elemOf]) (by grind[aF5,elemOf])
      have hcur:f.toList=pre++ds++(post++f.toList.drop (I.length*z.cells)):=by
       grind[List.append_assoc,List.take_append_drop]
      have N:zM c w x u:=(by cases x<;>first|exact hx|grind[AV.solid,AV.solid1]);obtain⟨k1,k2⟩:=r3 _ N.1;obtain⟨s1,s2,s3⟩:=aG2 (P:=P) (hT _ _ h6) h5 hx h7 hheap hcur r2 (by rw[← k1,aUt h5 N.1]);refine⟨_,by simp only[Instr.storeAt,Instr.sureAddr,Sem.run_bind,Sem.run_pure,Result.andThen_ok]; exact s3,?_⟩;have hsame:∀k',k'≠b→(w.setRow b (pre++u.cells.toList++(post++f.toList.drop (I.length*z.cells))).toArray).heap[k']? = w.heap[k']? := fun k' O=>setRow_other w b k' _ O;have J:fA c i (.row e z I) b:=(by simp[fA,hhd,aU]);have hnS:=(hg.own i _ b Z J).2.2;have hS:aCq c.S w (w.setRow b (pre++u.cells.toList++(post++f.toList.drop (I.length*z.cells))).toArray):=fun k' O=>hsame k' (fun e=>hnS (e▸O));have hnew:bB w c.S (.arr I.length z) (I.set k y) (pre++u.cells.toList++post):=by
       have:=k2;simp only[aEg,elemOf] at this;rw[hset] at this;exact this
      have hlen:(pre++u.cells.toList++post).length=vals.length:=(by grind);have:=hg.modify (o':=.row e z (I.set k y)) Z J (w':=w.setRow b (pre++u.cells.toList++(post++f.toList.drop (I.length*z.cells))).toArray) rfl rfl rfl (by simp[World.setRow]) hsame ?_ ?_
      ·grind
      ·have hl':(I.set k y).length=I.length:=(by simp);refine⟨pre++u.cells.toList++post,⟨by grind,.inr ⟨b,cap,_,by grind,Nat.zero_le _,setRow_heap w b f _ e _ hheap,by omega,hcap,?_,?_⟩⟩,?_⟩
       all_goals grind[List.append_assoc,List.take_left,bB.keep]
      grind[fA,aU]
     simp_all
  ·rename_i e m z I kk v Z;cases p with
   | nil=>simp_all
   | cons st p =>
    cases st with
    | fld _ _=>simp_all
    | idx s k =>
     simp only at hc ⊢;obtain⟨rfl,h2,h3,h4,h5,c',h6,h7⟩:=hc;obtain⟨Y,Bs,q⟩:=hg.objs i _ Z;have O:=q.kl;have hlc:=q.lc;have hlb:=q.lb;obtain⟨hvl,hv⟩:=q.row;rcases hv with⟨_,h0⟩|⟨g,cap,f,hhd,_,hheap,hle,hcap,hsz,htake⟩
     ·omega
     have hbb:b=g:=(by grind[aU]);subst hbb;obtain⟨hv1,hv2⟩:=q.hv (by omega);have hcl:∀j (hj:j<Y.length),(Y[j]).length=z.cells:=fun j hj=>by
      by_cases e:j=k
      ·simp_all
      ·exact mB.length _ _ _ _ _ (q.el j (by omega) hj (by omega) e)
     obtain⟨U,L,hf,hp0⟩:=oT (t:=z) (css:=Y) hcl k (by omega);obtain⟨pre,ds,post,r1,r2,r3⟩:=aOY p v x Y[k] hv1 h3 h4;have N:zM c w x u:=(by cases x<;>first|exact hx|grind[AV.solid,AV.solid1]);obtain⟨k1,k2⟩:=r3 _ N.1;have hcur:f.toList=(U++pre)++ds++(post++L++f.toList.drop (I.length*z.cells)):=by
      grind[List.take_append_drop,List.append_assoc]
     obtain⟨s1,s2,s3⟩:=aG2 (P:=P) (off:=k*z.cells+pR p) (hT _ _ h6) h5 hx h7 hheap hcur (by grind) (by rw[← k1,aUt h5 N.1]);refine⟨_,by simp only[Instr.storeAt,Instr.sureAddr,Sem.run_bind,Sem.run_pure,Result.andThen_ok,pR,Step.off,h2]; exact s3,?_⟩;have hsame:∀k',k'≠b→(w.setRow b ((U++pre)++u.cells.toList++(post++L++f.toList.drop (I.length*z.cells))).toArray).heap[k']? = w.heap[k']? := fun k' O=>setRow_other w b k' _ O;have hbl:c.bl i b:=q.bl b (by simp[hdB,hhd,aU]);have J:fA c i (.trh e m z I k v) b:=hbl;have hnS:=(hg.own i _ b Z J).2.2;have hS:aCq c.S w (w.setRow b ((U++pre)++u.cells.toList++(post++L++f.toList.drop (I.length*z.cells))).toArray):=fun k' O=>hsame k' (fun e=>hnS (e▸O));have hset:(Y.set k (pre++u.cells.toList++post)).flatten=U++(pre++u.cells.toList++post)++L:=bGo hcl (by omega) hf hp0;have hlen:(pre++u.cells.toList++post).length=z.cells:=(by grind);have:=hg.modifyG (o':=.trh e m z I k (aEg v p x).2) Z J (w':=w.setRow b ((U++pre)++u.cells.toList++(post++L++f.toList.drop (I.length*z.cells))).toArray) rfl rfl rfl (by simp[World.setRow]) hsame ?_ (fun _ h=>h)
     ·grind
     ·refine⟨Y.set k (pre++u.cells.toList++post),Bs,⟨?_,by grind,hlb,O,fun j hj h1 h2 hne=>?_,q.hb,fun h1=>?_,q.nd,q.bl⟩⟩
      ·refine⟨by grind,.inr ⟨b,cap,_,hhd,Nat.zero_le _,setRow_heap w b f _ e _ hheap,hle,hcap,?_,?_⟩⟩
       all_goals grind[List.append_assoc,List.length_append,List.take_left]
      ·rw[List.getElem_set_ne (fun e=>hne e.symm)];simp only[List.length_set] at h1;exact mB.keep (fun _ h=>h) hS _ _ _ _ _ (fun b' hb'=>hsame b' (fun e=>by
        subst e;have:=q.nd;rw[hhd] at this;simp only[hdB,aU,List.singleton_append,List.nodup_cons] at this;grind[List.mem_flatten,List.getElem_mem])) (q.el j hj h1 h2 hne)
      ·rw[List.getElem_set_self];exact⟨aO.keep (c':=c) (.refl c) hS _ _ k2,hlen⟩
  simp_all
 | _=>exact hc.elim
theorem SlR.flat{S:Nat→Prop}{t:Ty}{xs:List t.den}{a:Option Addr}{len cap:Nat}(hs:SlR w S (bB w S t) t.cells xs a len cap):∃css:List (List Value),css.length=xs.length∧css.flatten.length=xs.length*t.cells∧bB w S (.arr xs.length t) xs css.flatten∧(xs= []∨ ∃b off,a=some ⟨b,off,none⟩∧mW w b off css.flatten):=by
 obtain⟨h1,h2,h3,Z⟩:=hs;rcases Z with rfl|⟨b,off,rfl,hb,L⟩
 ·exact⟨[],rfl,by simp,⟨rfl,[],rfl,rfl,fun i h=>by simp at h⟩,.inl rfl⟩
 ·have g:∃css:List (List Value),css.length=xs.length∧ ∀i (h:i<xs.length) (h':i<css.length),bB w S t xs[i] css[i]∧mW w b (off+i*t.cells) css[i]:=by
   have:∀n,n≤xs.length→ ∃css:List (List Value),css.length=n∧ ∀i (h:i<xs.length) (h':i<css.length),bB w S t xs[i] css[i]∧mW w b (off+i*t.cells) css[i]:=by
    intro n
    induction n with
    | zero=>simp_all
    | succ n O =>
     intro hn;obtain⟨css,q,hc⟩:=O (by omega);obtain⟨ds,hd,hcell⟩:=L n (by omega);refine⟨css++ [ds],by simp[q],fun i hi U=>?_⟩;grind
   simp_all
  obtain⟨css,q,hc⟩:=g;have f:∀j (J:j<css.length),(css[j]).length=t.cells:=fun j J=>bB.length _ _ _ (hc j (by omega) J).1;have I:css.flatten.length=xs.length*t.cells:=by rw[nF f,q]
  refine⟨css,q,I,⟨rfl,css,rfl,q,fun i h h'=>(hc i h h').1⟩,.inr ⟨b,off,rfl,?_⟩⟩;intro j v J;have Y:j<css.length*t.cells:=by
   grind
  have z:0<t.cells:=by
   grind
  have hi:j/t.cells<css.length:=Nat.div_lt_of_lt_mul (by grind);obtain⟨pre,post,hf,hp⟩:=oT (t:=t) (css:=css) f (j/t.cells) hi;have hdm:=Nat.div_add_mod j t.cells;have N:=Nat.mod_lt j z;have:(css[j/t.cells])[j%t.cells]? = some v:=by
   grind
  have:=(hc (j/t.cells) (by omega) hi).2 _ _ this;grind
end
end Go.Vc
namespace Go.Vc
open Go.RowKit
section
variable {P:Program} {E:Env} {T:Tab} {M:Perm} {w0:World} {c:Ctx} {h:List Obj} {w:World}
theorem aDA(w:World)(o:Go.Obj):(w.alloc o).heap[w.heap.size]? = some o:=by
 show (w.heap.push o)[w.heap.size]? = some o;simp
theorem aBJ{f:Ty}(q:f.okB=true):(oS f).cells=(dI f).toArray:=by
 have w:World:=default;have z:(oS f).cells.toList=dI f:=by
  unfold oS;split
  ·rfl
  ·have J:(dI f).length=1:=by
    rw[bB.length _ _ _ (gN w (fun _=>False) f q)];rename_i L;cases f<;>simp_all[Ty.isAgg,Ty.cells]
   match I:dI f,J with
   | [v],_ =>
    have g:=bB.one f _ _ (gN w (fun _=>False) f q) v (by simp_all);simp only[List.headD_cons];cases v<;>first|rfl|exact g.elim
 grind
theorem nE{f:Ty}(g:f.okB=true):(dI f).length=f.cells:=bB.length _ _ _ (gN (default:World) (fun _=>False) f g)
theorem aNM{S:Nat→Prop}{t:Ty}{xs ys:List t.den}{vs us:List Value}(J:bB w S (.arr xs.length t) xs vs)(I:bB w S (.arr ys.length t) ys us):bB w S (.arr (xs++ys).length t) (xs++ys) (vs++us):=by
 obtain⟨_,g,rfl,N,L⟩:=J;obtain⟨_,ds,rfl,q,z⟩:=I;refine⟨rfl,g++ds,by simp,by simp_all,fun i hi f=>?_⟩;grind
theorem bLv(O:Good M w0 c h w){q:Ty}{x:AV}{U:Value}{ys:List q.den}(Y:aX c w x U)(N:AV.as (if q.scalar then h else h.map fX) (.sl q) x=some ys) :
  ∃a cap g,U= .slice a ys.length cap∧ys.length≤cap∧g.length=ys.length*q.cells∧bB w c.S (.arr ys.length q) ys g∧(ys= []∨ ∃b off,a=some ⟨b,off,none⟩∧mW w b off g):=by
 by_cases hs:q.scalar=true
 ·rw[if_pos hs] at N;have hv:=aMr O Y N;obtain⟨a,len,cap,rfl,f⟩:=aFR (c:=⟨aGX c h,c.hd,c.n,c.bl⟩) hv;obtain⟨z,_,L,Z,J⟩:=f.flat;obtain⟨rfl,I,_,_⟩:=f;exact⟨a,cap,z.flatten,rfl,I,L,bB.scalar _ _ _ (by grind[Ty.scalar]) Z,J⟩
 ·rw[if_neg hs] at N;have hv:=aAo O Y N;obtain⟨a,len,cap,rfl,f⟩:=aFR (c:=c) hv;obtain⟨z,_,L,Z,J⟩:=f.flat;obtain⟨rfl,I,_,_⟩:=f;grind
theorem aJY{t ty e:TypeId}{i:TypeInfo}(ht:P.underlying t=some (.slice e))(hi:P.info? e=some i){v:Value}{n:Nat}{xs:List Value}(f:w.ownsRow 0 e i.size v n xs){a:Option Addr}{cap:Nat}(z:0≤cap) :
  (Builtin.append_ #[t,t] ty #[v,.slice a 0 cap]).run P w= .ok v w:=by
 rcases f.2 with⟨rfl,rfl⟩|⟨g,cp,I,rfl,_,N,q,L,J,htake⟩
 ·cases a<;>simp[Builtin.append_,run_underlying ht,sizeOf,typeInfo,hi,Builtin.lenOf,Builtin.firstCells,loadCells,loadCellsFrom]
 ·cases a<;>simp[Builtin.append_,run_underlying ht,sizeOf,typeInfo,hi,Builtin.lenOf,Builtin.firstCells,loadCells,loadCellsFrom,q,storeCells]
theorem wW{v:Value}(h:∃a n m,v= .slice a n m):aU v=v.ownBlock:=by
 obtain⟨a,n,m,rfl⟩:=h;cases a<;>rfl
theorem kC{B:Nat}{e:TypeId}{sz:Nat}{v:Value}{n:Nat}{xs:List Value}(h:w.ownsRow B e sz v n xs):∃a n m,v= .slice a n m:=by
 rcases h.2 with⟨rfl,_⟩|⟨g,f,q,rfl,_⟩
 all_goals simp_all
theorem aUL(hE:iF P E){t ty:TypeId}{I:Ty}(ht:E.T t=some (.sl I))(hok:I.okB=true){sv xv:Value}{xs ys:List I.den}(hS:True)
  (hrow:aCr c w (E.el t) I xs sv) {a:Option Addr} {cap:Nat} {f:List Value} (hxv:xv= .slice a ys.length cap) (hnl:f.length=ys.length*I.cells) (hnr:bB w c.S (.arr ys.length I) ys f) (hor:ys= []∨ ∃b off,a=some ⟨b,off,none⟩∧mW w b off f)
  (hb:bound I (xs.length+ys.length)) (hSb:∀b,c.S b→b<w.heap.size∧aU sv≠some b) :
  ∃v' w',(Builtin.append_ #[t,t] ty #[sv,xv]).run P w= .ok v' w'∧w.grownBy w' (aU sv)∧aCr c w' (E.el t) I (xs++ys) v'∧(∀b,aU v'=some b→aU sv=some b∨(w.heap.size≤b∧b<w'.heap.size))∧ ∃a n m,v'= .slice a n m:=by
 have hd:=hE.el t I ht;obtain⟨e',hd',hTe',hpos⟩:=gJ (hE.T _ _ ht);have:e'=E.el t:=by simp_all
 subst this;have hTe:=hE.T _ _ hTe';obtain⟨i,hi,hsz,hz,hby⟩:=hTe.info;obtain⟨J,q,O⟩:=hrow;rw[← hsz] at q;subst hxv;rcases hor with rfl|⟨b,off,rfl,hcell⟩
 ·have L:=aJY (P:=P) (ty:=ty) hd hi q (a:=a) (cap:=cap) (Nat.zero_le _);refine⟨sv,w,L,⟨rfl,rfl,rfl,Nat.le_refl _,fun _ _ _=>rfl⟩,?_,fun b hb=>.inl hb,kC q⟩;rw[List.append_nil];exact⟨J,by simp_all,O⟩
 ·have Z:∀u∈f,u.oneCell'=true:=fun u hu=>by
   have:=bB.one _ _ _ hnr u hu;cases u<;>first|rfl|exact this.elim
  obtain⟨v',w',L,N,Y,_,z⟩:=run_append_own_at (P:=P) w 0 t ty (E.el t) i (oS I) I.cells i.bytes hd hi (hz hok) hsz rfl (by grind[aBJ,nE]) hpos sv xs.length J (by simp_all)
   ⟨b,off,none⟩ ys.length cap f hnl (fun j u hj=>by rw[xV]; exact hcell j u hj) Z hb.1 (Nat.le_trans (Nat.mul_le_mul_left _ hby) hb.2) (Nat.zero_le _)
  have hsl:=kC q;have U:=kC N;rw[← wW hsl] at Y z;rw[← wW U] at z;have hsame:aCq c.S w w':=fun b hb=>Y.block b (hSb b hb).1 (fun e=>(hSb b hb).2 e.symm);refine⟨v',w',L,Y,?_,fun b hb=>?_,U⟩
  ·have:=aNM O hnr;exact⟨J++f,by simp_all,bB.keep (fun _ h=>h) hsame _ _ _ this⟩
  ·rcases z with z|z
   ·simp_all
   ·right
    rw[z] at hb;cases hb;refine⟨Nat.le_refl _,?_⟩;rcases N.2 with⟨rfl,_⟩|⟨g,cp,cur,rfl,_,hheap,_⟩
    all_goals grind[aU,Array.getElem?_eq_some_iff]
theorem aF7{v':Value}(h:∃a n m,v'= .slice a n m){w':World}{S':Nat→Prop}:aX (c.pushS S' v') w' (.own c.n) v':=by
 obtain⟨a,n,m,rfl⟩:=h;refine⟨⟨Nat.lt_succ_self c.n,?_,?_⟩,(fun h=>by cases h),(fun _ f=>by simp)⟩
 ·show [Value.slice a n m]= [if c.n=c.n then Value.slice a n m else c.hd c.n];simp_all
 ·show one (if c.n=c.n then Value.slice a n m else c.hd c.n);rw[if_pos rfl]; trivial
theorem bE9(hE:iF P E)(z:Good M w0 c h w){t ty:TypeId}{s x:AV}{sv xv:Value}(hs:aX c w s sv)(hx:aX c w x xv)(hc:(zO E h t s x).1) :
  ∃v' w' c',(Builtin.append_ #[t,t] ty #[sv,xv]).run P w= .ok v' w'∧eI c w c' w'∧Good M w0 c' (zO E h t s x).2.2 w'∧aX c' w' (zO E h t s x).2.1 v':=by
 unfold zO at hc ⊢;split at hc
 ·rename_i ct ht;split at hc
  ·rename_i ys Z;(try simp only[Z]);obtain⟨a,cap,news,U,hcap,hnl,hnr,O⟩:=bLv z hx Z;split at hc
   ·
    obtain⟨hb,L⟩:=hc;have N:sv= .slice none 0 0:=by
     obtain⟨h1,_,h3⟩:=hs;have h3:=h3 rfl;simp_all[aO,Value.cells]
    subst N;obtain⟨v',w',q,f,g,Y,I⟩:=aUL (c:=c) (w:=w) (P:=P) (ty:=ty) (xs:=[]) hE ht L trivial (sv:=.slice none 0 0) ⟨[],⟨by simp,.inl ⟨rfl,rfl⟩⟩,⟨rfl,[],rfl,rfl,fun i h=>by simp at h⟩⟩ U hnl hnr O (by simp_all) (fun b hb=>⟨z.sfin b hb,by simp[aU]⟩);have hk:iL nothing w w':=⟨f.os,f.tape,f.output,f.size,fun b hb _=>f.block b hb (by simp[aU])⟩;have:=z.push hk (o:=.row (E.el t) ct ys) (hv:=v') (by
     show aCr _ _ _ _ _ _;have e:(c.push v').hd c.n=v':=(by simp[Ctx.push]);rw[e];exact g) (fun b hb=>by
     simp_all[Ctx.push,fA,aU])
    refine⟨v',w',_,q,this.2,this.1,?_⟩;have:=aF7 (c:=c) I (w':=w') (S':=c.S);rw[← z.n];exact this
   ·rename_i i;split at hc
    ·rename_i e c' xs ho;split at hc
     ·rename_i xs' hcast;obtain⟨rfl,rfl⟩:=aF6 hcast;obtain⟨rfl,hb,L⟩:=hc;have N:=(aDO hs).2;have J:aCr c w (E.el t) _ _ (c.hd i):=z.objs i _ ho;subst N;obtain⟨v',w',q,f,g,Y,I⟩:=aUL (c:=c) (w:=w) (P:=P) (ty:=ty) hE ht L trivial J U hnl hnr O hb (fun b hb=>⟨z.sfin b hb,fun e=>(z.own i _ b ho e).2.2 hb⟩);have:=z.regrow ho f g Y;refine⟨v',w',_,q,this.2,this.1,?_⟩;have:=aF7 (c:=c) I (w':=w') (S':=c.S);rw[← z.n];exact this
     simp_all
    simp_all
   simp_all
  simp_all
 simp_all
theorem bJd(N:iF P E)(U:Good M w0 c h w){t:TypeId}{l cp:AV}{Z Y:Value}(hl:aX c w l Z)(L:aX c w cp Y)(hc:(aQK E h t l cp).1) :
  ∃v' w' c',(Instr.makeSlice t Z Y).run P w= .ok v' w'∧eI c w c' w'∧Good M w0 c' (aQK E h t l cp).2.2 w'∧aX c' w' (aQK E h t l cp).2.1 v':=by
 unfold aQK at hc ⊢;split at hc
 ·rename_i f ht;split at hc
  ·rename_i n m hn hm;obtain⟨g,h0,h1,h2,h3⟩:=hc;obtain⟨k1,rfl⟩:=aCv hl hn;obtain⟨k2,rfl⟩:=aCv L hm;have hd:=N.el t f ht;obtain⟨e',hd',I,hpos⟩:=gJ (N.T _ _ ht);have:e'=E.el t:=(by simp_all);subst this;obtain⟨i,hi,J,hz,hby⟩:=(N.T _ _ I).info;have hbytes:(i.bytes:Int)*m≤281474976710656:=by
    have:(i.bytes:Int)*m≤(f.byt:Int)*m:=Int.mul_le_mul_of_nonneg_right (by omega) (by omega);omega
   have z:=run_make (P:=P) w t (E.el t) i (oS f) hd hi (hz g) k1 k2 n m h0 h1 hbytes (by grind[maxLen]);have hk:iL nothing w (w.alloc (.cells (madeCells (oS f).cells (m.toNat*i.size)) (E.el t) (0,0))):=iL.alloc nothing w _;have q:aCr c (w.alloc (.cells (madeCells (oS f).cells (m.toNat*i.size)) (E.el t) (0,0))) (E.el t) f (List.replicate n.toNat f.zero) (.slice (some ⟨w.heap.size,0,none⟩) n.toNat m.toNat):=by
    have hcells:(madeCells (oS f).cells (m.toNat*i.size)).toList=(List.replicate m.toNat (dI f)).flatten:=by
     rw[J,aBJ g,← nE g];exact aBu _ _ (by grind[nE])
    have hsplit:(List.replicate m.toNat (dI f)).flatten=(List.replicate n.toNat (dI f)).flatten++(List.replicate (m.toNat-n.toNat) (dI f)).flatten:=by
     grind[List.flatten_append,List.replicate_append_replicate]
    have O:(List.replicate n.toNat (dI f)).flatten.length=n.toNat*f.cells:=(by simp[nE g]);refine⟨(List.replicate n.toNat (dI f)).flatten,⟨by simp_all,.inr ⟨w.heap.size,m.toNat,_,by simp,Nat.zero_le _,aDA w _,by grind,by omega,by rw[size_madeCells,J],?_⟩⟩,?_⟩
    ·simp_all
    ·have:=gN (w.alloc (.cells (madeCells (oS f).cells (m.toNat*i.size)) (E.el t) (0,0))) c.S (.arr n.toNat f) g;rw[List.length_replicate];exact this
   have:=U.push hk (o:=.row (E.el t) f (List.replicate n.toNat f.zero)) (hv:=.slice (some ⟨w.heap.size,0,none⟩) n.toNat m.toNat) (by
    show aCr _ _ _ _ _ _;have e:(c.push (.slice (some ⟨w.heap.size,0,none⟩) n.toNat m.toNat)).hd c.n= .slice (some ⟨w.heap.size,0,none⟩) n.toNat m.toNat:=(by simp[Ctx.push]);rw[e];exact q) (fun b hb=>by
    have e:(c.push (.slice (some ⟨w.heap.size,0,none⟩) n.toNat m.toNat)).hd c.n= .slice (some ⟨w.heap.size,0,none⟩) n.toNat m.toNat:=(by simp[Ctx.push]);simp_all[fA,aU,Option.some.injEq,Nat.le_refl])
   refine⟨_,_,_,z,this.2,this.1,?_⟩;have:=aF7 (c:=c) (v':=.slice (some ⟨w.heap.size,0,none⟩) n.toNat m.toNat) ⟨_,_,_,rfl⟩ (w':=w.alloc (.cells (madeCells (oS f).cells (m.toNat*i.size)) (E.el t) (0,0))) (S':=c.S);rw[← U.n];exact this
  simp_all
 simp_all
theorem aOZ{c:Ctx}{w:World}{f:Ty}(g:f.okB=true):aO c w (aKQ f) (oS f).cells.toList∧(aKQ f).solid=true∧(aKQ f).nc=f.cells∧aX c w (aKQ f) (oS f):=by
 unfold aKQ;cases h:aUp f with
 | false =>
  cases hs:aUo f with
  | true =>
   obtain⟨b,rfl⟩:=bFT hs;have hc:aO c w .nilS (oS (.sl b)).cells.toList:=rfl;exact⟨hc,rfl,rfl,hc,(fun h=>by cases h),fun _ q=>by simp[oS,dI,Ty.isAgg]⟩
  | false =>
   have:=aX.ofV (aKS w c.S f g);exact⟨this.1,rfl,rfl,this⟩
 | true =>
  obtain⟨b,rfl⟩:=bAi h;have hc:aO c w (.agg [.nilP,.nilS]) (oS (.pair .nilp (.pair (.sl b) .unit))).cells.toList:=by
   simp only[aO];exact⟨[.pointer none],[.slice none 0 0],rfl,rfl,[.slice none 0 0],[],rfl,rfl,rfl⟩
  refine⟨hc,rfl,rfl,hc,fun _=>⟨_,rfl⟩,(fun h=>by cases h)⟩
theorem aQL(q:Good M w0 c h w){t:TypeId}{x:AV}{v:Value}{n:Nat}(L:bIX n x.nc t)(hs:x.solid=true)(I:aX c w x v) :
  ∃w' c',(newVar t v).run P w= .ok ⟨w.heap.size,0,none⟩ w'∧eI c w c' w'∧Good M w0 c' (h++ [.box n x]) w'∧aX c' w' (.ptr h.length []) (.pointer (some ⟨w.heap.size,0,none⟩)):=by
 have g:zM c w x v:=by cases x<;>first|exact I|grind[AV.solid,AV.solid1]
 have J:=aUt hs g.1;have z:iL nothing w (w.alloc (.cells v.cells t (0,0))):=iL.alloc nothing w _;have e:(c.push (.pointer (some ⟨w.heap.size,0,none⟩))).hd c.n= .pointer (some ⟨w.heap.size,0,none⟩):=by simp[Ctx.push]
 have:=q.push z (o:=.box n x) (hv:=.pointer (some ⟨w.heap.size,0,none⟩)) (by
  refine⟨w.heap.size,v.cells,t,e,aDA w _,by simp_all,?_⟩;exact aO.keep (c.le_push _) (fun b hb=>z.block b (q.sfin b hb) (fun f=>f)) _ _ g.1) (fun b hb=>by
  simp_all[fA,aU,Option.some.injEq,Nat.le_refl])
 refine⟨_,_,by rfl,this.2,this.1,?_⟩;rw[← q.n];refine⟨⟨Nat.lt_succ_self c.n,w.heap.size,by rw[e]; rfl,rfl⟩,(fun h=>by cases h),(fun _ N=>by simp)⟩
theorem bCy{G:Nat→AV}{Γ:FuncId→List AV→Option aF}{f:FuncId}{vs:List AV}{xs:Array Value}(hΓ:∀sp,Γ f vs=some sp→FOK P G f sp)(z:Good M w0 c h w)(hG:uD G c.S w)(hl:xs.size=vs.length)
  (hv:∀i (h1:i<vs.length) (h2:i<xs.size),aX c w vs[i] xs[i]) (hc:(aMu Γ h f vs).1) :
  Calls P f xs w fun e w'=>∃v c',e= .returned v∧eI c w c' w'∧Good M w0 c' (aMu Γ h f vs).2.2 w'∧aX c' w' (aMu Γ h f vs).2.1 v:=by
 unfold aMu at hc ⊢;split at hc
 ·rename_i sp hf;split at hc
  ·rename_i a e t pre fn;split at hc
   ·rename_i x ha;have Z:xs.toList.length=vs.length:=(by omega);have O:∀i (h1:i<vs.length) (h2:i<xs.toList.length),aX c w vs[i] xs.toList[i]:=fun i h1 h2=>by
     simp_all
    have key:∃J:Nat→Prop,(∀b,J b→b<w.heap.size)∧uD G J w∧sD w J a x xs.toList∧(t.scalar=true∨ ∀b,J b→c.S b):=by
     by_cases hs:t.scalar=true
     ·rw[if_pos hs] at ha;exact⟨aGX c h,bAs z,hG.mono (fun b hb=>.inl hb) (.refl _ _),aYG z _ _ _ _ ha Z O,.inl hs⟩
     ·rw[if_neg hs] at ha;exact⟨c.S,z.sfin,hG,aKZ z ha Z O,.inr fun b hb=>hb⟩
    obtain⟨J,k1,k2,k3,k4⟩:=key;refine(hΓ _ hf w J xs x k1 k2 k3 hc).mono ?_;rintro ex w' ⟨v,rfl,hk,U,q,N⟩;have hsl:=kC q;have e1:(c.pushS (fun b=>c.S b∨(w.heap.size≤b∧b<w'.heap.size∧aU v≠some b)) v).hd c.n=v:=(by simp[Ctx.pushS]);have:=z.pushS hk (S':=fun b=>c.S b∨(w.heap.size≤b∧b<w'.heap.size∧aU v≠some b)) (fun b hb=>.inl hb) (fun b hb=>hb.imp id fun hb=>⟨hb.1,hb.2.1⟩) (o:=.row e t (fn x)) (hv:=v) (by
     show aCr _ _ _ _ _ _;rw[e1];refine⟨U,?_,?_⟩
     ·exact⟨q.1,q.2.imp id fun⟨g,Y,L,h1,h2,h3⟩=>⟨g,Y,L,h1,Nat.zero_le _,h3⟩⟩
     ·rcases k4 with hs|I
      ·grind[bB.scalar,Ty.scalar]
      ·exact bB.keep (fun b hb=>hb.imp (I b) id) (.refl _ _) _ _ _ N) (fun b hb=>by
     simp only[fA,e1] at hb;rcases q.2 with⟨rfl,_⟩|⟨g,Y,L,rfl,hBg,hheap,_⟩
     ·cases hb
     ·simp[aU] at hb;subst hb;have hlt:=(Array.getElem?_eq_some_iff.1 hheap).1;refine⟨hBg,hlt,fun I=>?_⟩;rcases I with I|I
      ·have:=z.sfin _ I; omega
      ·exact I.2.2 rfl)
    refine⟨v,_,rfl,this.2,this.1,?_⟩;have:=aF7 (c:=c) hsl (w':=w') (S':=fun b=>c.S b∨(w.heap.size≤b∧b<w'.heap.size∧aU v≠some b));rw[← z.n];omega
   simp_all
  simp_all
 simp_all
end
end Go.Vc
namespace Go.Vc
open Go.RowKit
section
variable {P:Program} {E:Env} {T:Tab} {M:Perm} {w0:World} {c:Ctx} {h:List Obj} {w:World}
theorem aUM(f:List Value)(n:Nat)(g:0<f.length):(Builtin.zeroCells f.toArray n).toList=(List.replicate n f).flatten:=by
 grind[aBu,Builtin.zeroCells]
theorem aS3(w:World)(base:Nat)(t tx ty e:TypeId)(k:IntKind)(i:TypeInfo)(z:Value)(size bytes:Nat)(ht:P.underlying t=some (.slice e))(hx:P.underlying tx=some (.int k))(hi:P.info? e=some i)(hz:i.zero=some z)
  (hsize:i.size=size) (hby:i.bytes=bytes) (hzs:z.cells.size=size) (hsz:0<size)
  (v:Value) (n:Nat) (xs:List Value) (J:w.ownsRow base e size v n xs)
  (k':IntKind) (m:Nat) (f:List Value) (hnews:f=(Builtin.zeroCells z.cells m).toList) (h1:∀u∈f,u.oneCell'=true)
  (h63:n+m≤maxLen) (hbytes:(n+m)*bytes≤140737488355328) (hbase:base≤w.heap.size) :
  ∃v' w',(Builtin.append_ #[t,tx] ty #[v,.int k' (m:Int)]).run P w= .ok v' w'∧w'.ownsRow base e size v' (n+m) (xs++f)∧w.grownBy w' v.ownBlock ∧
   (v'.ownBlock=v.ownBlock∨v'.ownBlock=some w.heap.size):=by
 subst hsize;subst hby;have hl:f.length=m*i.size:=by
  grind[Array.length_toList,size_zeroCells]
 have hna:(Builtin.zeroCells z.cells m)=f.toArray:=by grind
 have hsmall:n+m≤9223372036854775807:=by grind[maxLen]
 have hwrap:IntKind.i64.wrap (m:Int)=m:=by
  grind[IntKind.wrap,IntKind.signed,IntKind.bits]
 have L:¬((m:Int)<0):=by omega
 have hmb:m*i.bytes≤(n+m)*i.bytes:=Nat.mul_le_mul_right _ (by omega);have q:¬(281474976710656<(m:Int)*(i.bytes:Int)):=by
  omega
 have hlen:(xs++f).length=(n+m)*i.size:=by rw[List.length_append,J.1,hl,Nat.add_mul]
 have grown:∀(old:Nat),old<n+m→ ∀(row:Option Nat),
   (w.drew.alloc (.cells (xs.toArray++f.toArray++Builtin.zeroCells z.cells (grownCap w (n+m) old e-(n+m))) e)).ownsRow base e i.size
    (.slice (some ⟨w.heap.size,0,none⟩) (n+m) (grownCap w (n+m) old e)) (n+m) (xs++f) ∧
   w.grownBy (w.drew.alloc (.cells (xs.toArray++f.toArray++Builtin.zeroCells z.cells (grownCap w (n+m) old e-(n+m))) e)) row:=by
  intro old ho row;have hge:=grownCap_ge w (n+m) old e;have hcm:grownCap w (n+m) old e≤maxLen:=grownCap_le_maxLen w (n+m) old e h63;refine⟨⟨hlen,.inr ⟨w.heap.size,_,_,rfl,hbase,heap_alloc_new w.drew _,hge,hcm,?_,?_⟩⟩,⟨rfl,rfl,rfl,by simp,fun k hk _=>Go.heap_alloc_old w.drew _ hk⟩⟩
  ·simp only[Array.size_append,List.size_toArray,size_zeroCells,hzs,J.1,hl,← Nat.add_mul];simp_all
  grind
 rcases J.2 with⟨rfl,rfl⟩|⟨g,I,O,rfl,hbg,hg,hnc,hcm,hcs,htake⟩
 ·have hx0:xs= []:=List.eq_nil_of_length_eq_zero (by simp_all);subst hx0;by_cases hm:m=0
  ·subst hm;have hn:f= []:=List.eq_nil_of_length_eq_zero (by omega);subst hn;refine⟨.slice none 0 0,w,?_,World.ownsRow_nil w base e i.size,⟨rfl,rfl,rfl,Nat.le_refl _,fun _ _ _=>rfl⟩,Or.inl rfl⟩;have hw0:IntKind.i64.wrap 0=0:=(by decide);simp[Builtin.append_,run_underlying ht,run_underlying hx,sizeOf,typeInfo,hi,asInt,asIntOf,hw0]
  ·have Y:¬(281474976710656<Builtin.nextslicecap m 0*i.bytes):=(by rw[nextslicecap_zero (by omega)]; omega);have hms:¬(m*i.size=0):=by
    grind[Nat.mul_eq_zero]
   have U:¬(9223372036854775807<(m:Int)):=(by omega);have N:=grown 0 (by omega) (Value.ownBlock (.slice none 0 0));simp only[Nat.zero_add,List.nil_append,Array.empty_append] at N ⊢;refine⟨_,_,?_,N.1,N.2,Or.inr rfl⟩;have hsz0:i.size≠0:=(by omega);simp[Builtin.append_,run_underlying ht,run_underlying hx,sizeOf,typeInfo,zeroValue,hi,hz,asInt,asIntOf,hwrap,L,q,hm,U,Y,hsz0,hms,Question.forced,run_firstCells_none,newRow,grownCap,hna]
 ·by_cases hroom:n+m≤I
  ·have hfit:n*i.size+f.length≤O.size:=(by rw[hl,hcs,← Nat.add_mul]; exact Nat.mul_le_mul_right _ hroom);have Z:=run_storeCells_at P g (n*i.size) e f 0 O w hg (by omega) h1;simp only[Nat.add_zero] at Z;refine⟨.slice (some ⟨g,0,none⟩) (n+m) I,w.setRow g (O.toList.take (n*i.size)++f++O.toList.drop (n*i.size+f.length)).toArray,?_,⟨hlen,.inr ⟨g,I,_,rfl,hbg,setRow_heap w g O _ e _ hg,hroom,hcm,?_,?_⟩⟩,⟨rfl,rfl,rfl,by simp,fun k _ hk=>setRow_other w g k _ (fun e=>hk (by simp[Value.ownBlock,e]))⟩,Or.inl rfl⟩
   ·by_cases hm:m*i.size=0
    ·have hn:f= []:=List.eq_nil_of_length_eq_zero (by omega);subst hn;simp[Builtin.append_,run_underlying ht,run_underlying hx,sizeOf,typeInfo,zeroValue,hi,hz,asInt,asIntOf,hwrap,L,q,hroom,hm,Addr.add_lit] at Z ⊢;simp[Z]
    ·have hm':¬(m=0∨i.size=0):=fun h=>hm (Nat.mul_eq_zero.2 h);simp[Builtin.append_,run_underlying ht,run_underlying hx,sizeOf,typeInfo,zeroValue,hi,hz,asInt,asIntOf,hwrap,L,q,hroom,hm,hm',Addr.add_lit,hna,Z]
   all_goals grind
  ·have holds:∀j u,xs[j]? = some u→w.cell? ((⟨g,0,none⟩:Addr).add j)=some u:=J.cells (g:=g) rfl;have hfo:=run_firstCells_some (P:=P) w.drew i.size n ⟨g,0,none⟩ n I xs J.1 (by simp_all);have hm:¬(m*i.size=0):=by
    grind[Nat.mul_eq_zero]
   have hm':¬(m=0∨i.size=0):=fun h=>hm (Nat.mul_eq_zero.2 h);have U:¬(9223372036854775807<((n:Int)+(m:Int))):=(by omega);have hgs:=growslice_fits (old:=I) (by omega:I<n+m) hbytes;have Y:¬(281474976710656<Builtin.nextslicecap (n+m) I*i.bytes):=(by omega);have N:=grown I (by omega) (Value.ownBlock (.slice (some ⟨g,0,none⟩) n I));refine⟨_,_,?_,N.1,N.2,Or.inr rfl⟩;simp[Builtin.append_,run_underlying ht,run_underlying hx,sizeOf,typeInfo,zeroValue,hi,hz,asInt,asIntOf,hwrap,L,q,hroom,hm,hm',U,Y,Question.forced,hfo,newRow,grownCap,hna];grind
theorem bJe{t:TypeId}{k:IntKind}(f:aFo P E.T t (.i k)):P.underlying t=some (.int k):=by
 obtain⟨d,hd,hb⟩:=f.desc;cases d<;>simp[jI] at hb
 simp_all
def aMv(E:Env)(h:List Obj)(t:TypeId)(s x:AV):Prop×AV×List Obj :=
 match E.T t with
 | some (.sl f)=>match aEc x with
  | some n=>match s with
   | .nilS=>(0≤n∧bound f n.toNat∧f.okB=true,.own h.length,h++ [.row (E.el t) f (List.replicate n.toNat f.zero)])
   | .own i=>match h[i]? with
    | some (.row e c' g)=>match aFb c' f g with
     | some g=>(e=E.el t∧0≤n∧bound f (g.length+n.toNat)∧f.okB=true,.own h.length,h.set i .dead++ [.row (E.el t) f (g++List.replicate n.toNat f.zero)])
     | none=>(False,.junk,h)
    | _=>(False,.junk,h)
   | _=>(False,.junk,h)
  | none=>(False,.junk,h)
 | _=>(False,.junk,h)
theorem aSh(hE:iF P E){t tx ty:TypeId}{f:Ty}(ht:E.T t=some (.sl f)){k:IntKind}(htx:P.underlying tx=some (.int k))(O:f.okB=true){sv:Value}{xs:List f.den}
  (Z:aCr c w (E.el t) f xs sv) {k':IntKind} {m:Nat}
  (hb:bound f (xs.length+m)) (hSb:∀b,c.S b→b<w.heap.size∧aU sv≠some b) :
  ∃v' w',(Builtin.append_ #[t,tx] ty #[sv,.int k' (m:Int)]).run P w= .ok v' w'∧w.grownBy w' (aU sv)∧aCr c w' (E.el t) f (xs++List.replicate m f.zero) v'∧(∀b,aU v'=some b→aU sv=some b∨(w.heap.size≤b∧b<w'.heap.size))∧ ∃a n m,v'= .slice a n m:=by
 have hd:=hE.el t f ht;obtain⟨e',hd',hTe',hpos⟩:=gJ (hE.T _ _ ht);have:e'=E.el t:=by simp_all
 subst this;have hTe:=hE.T _ _ hTe';obtain⟨i,hi,hsz,hz,hby⟩:=hTe.info;obtain⟨J,L,U⟩:=Z;rw[← hsz] at L;have hzl:=nE O;have hnews:(List.replicate m (dI f)).flatten=(Builtin.zeroCells (oS f).cells m).toList:=by
  grind[aBJ,aUM]
 have hnr:bB w c.S (.arr m f) (List.replicate m f.zero) (List.replicate m (dI f)).flatten:=gN w c.S (.arr m f) O;have Y:∀u∈(List.replicate m (dI f)).flatten,u.oneCell'=true:=fun u hu=>by
  have:=bB.one _ _ _ hnr u hu;cases u<;>first|rfl|exact this.elim
 obtain⟨v',w',hrun,q,N,z⟩:=aS3 (P:=P) w 0 t tx ty (E.el t) k i (oS f) f.cells i.bytes hd htx hi (hz O) hsz rfl (by grind[aBJ]) hpos sv xs.length J (by simp_all)
  k' m _ hnews Y hb.1 (Nat.le_trans (Nat.mul_le_mul_left _ hby) hb.2) (Nat.zero_le _)
 have hsl:=kC L;have I:=kC q;rw[← wW hsl] at N z;rw[← wW I] at z;have hsame:aCq c.S w w':=fun b hb=>N.block b (hSb b hb).1 (fun e=>(hSb b hb).2 e.symm);refine⟨v',w',hrun,N,?_,fun b hb=>?_,I⟩
 ·have hnr':bB w c.S (.arr (List.replicate m f.zero).length f) (List.replicate m f.zero) (List.replicate m (dI f)).flatten:=by
   grind
  have:=aNM U hnr';exact⟨J++_,by simpa using q,bB.keep (fun _ h=>h) hsame _ _ _ (by omega)⟩
 ·rcases z with z|z
  ·simp_all
  ·right
   rw[z] at hb;cases hb;refine⟨Nat.le_refl _,?_⟩;rcases q.2 with⟨rfl,_⟩|⟨g,cp,cur,rfl,_,hheap,_⟩
   all_goals grind[aU,Array.getElem?_eq_some_iff]
theorem bCz(hE:iF P E)(z:Good M w0 c h w){t tx ty:TypeId}{k:IntKind}(O:P.underlying tx=some (.int k)){s x:AV}{sv xv:Value}(hs:aX c w s sv)(hx:aX c w x xv)(hc:(aMv E h t s x).1) :
  ∃v' w' c',(Builtin.append_ #[t,tx] ty #[sv,xv]).run P w= .ok v' w'∧eI c w c' w'∧Good M w0 c' (aMv E h t s x).2.2 w'∧aX c' w' (aMv E h t s x).2.1 v':=by
 unfold aMv at hc ⊢;split at hc
 ·rename_i ct ht;split at hc
  ·rename_i n hn;obtain⟨Y,rfl⟩:=aCv hx hn;split at hc
   ·
    obtain⟨h0,hb,L⟩:=hc;obtain⟨m,rfl⟩:=Int.eq_ofNat_of_zero_le h0;have N:sv= .slice none 0 0:=by
     obtain⟨h1,_,h3⟩:=hs;have h3:=h3 rfl;simp_all[aO,Value.cells]
    subst N;simp only[Int.toNat_natCast] at hb ⊢;obtain⟨v',w',q,f,g,U,I⟩:=aSh (c:=c) (w:=w) (P:=P) (ty:=ty) (xs:=[]) (k':=Y) (m:=m) hE ht O L (sv:=.slice none 0 0) ⟨[],⟨by simp,.inl ⟨rfl,rfl⟩⟩,⟨rfl,[],rfl,rfl,fun i h=>by simp at h⟩⟩ (by simp_all) (fun b hb=>⟨z.sfin b hb,by simp[aU]⟩);rw[List.nil_append] at g;have hk:iL nothing w w':=⟨f.os,f.tape,f.output,f.size,fun b hb _=>f.block b hb (by simp[aU])⟩;have:=z.push hk (o:=.row (E.el t) ct (List.replicate m ct.zero)) (hv:=v') (by
     show aCr _ _ _ _ _ _;have e:(c.push v').hd c.n=v':=(by simp[Ctx.push]);rw[e];exact g) (fun b hb=>by
     simp_all[Ctx.push,fA,aU])
    refine⟨v',w',_,q,this.2,this.1,?_⟩;have:=aF7 (c:=c) I (w':=w') (S':=c.S);rw[← z.n];exact this
   ·rename_i i;split at hc
    ·rename_i e c' xs Z;split at hc
     ·rename_i xs' hcast;obtain⟨rfl,rfl⟩:=aF6 hcast;obtain⟨rfl,h0,hb,L⟩:=hc;obtain⟨m,rfl⟩:=Int.eq_ofNat_of_zero_le h0;simp only[Int.toNat_natCast] at hb ⊢;have N:=(aDO hs).2;have J:aCr c w (E.el t) _ _ (c.hd i):=z.objs i _ Z;subst N;obtain⟨v',w',q,f,g,U,I⟩:=aSh (c:=c) (w:=w) (P:=P) (ty:=ty) (k':=Y) (m:=m) hE ht O L J hb (fun b hb=>⟨z.sfin b hb,fun e=>(z.own i _ b Z e).2.2 hb⟩);have:=z.regrow Z f g U;refine⟨v',w',_,q,this.2,this.1,?_⟩;have:=aF7 (c:=c) I (w':=w') (S':=c.S);rw[← z.n];exact this
     simp_all
    simp_all
   simp_all
  simp_all
 simp_all
end
end Go.Vc
namespace Go.Vc
open Go.RowKit
section
variable {P:Program} {E:Env} {T:Tab} {M:Perm} {w0:World} {c:Ctx} {h:List Obj} {w:World}
theorem aO0(w:World)(t u ty e:TypeId)(i:TypeInfo)(ht:P.underlying t=some (.slice e))(L:P.underlying u=some .string)(hi:P.info? e=some i)(O:i.zero=some (.int .u8 0))
  (hsize:i.size=1) (J:i.bytes=1) (v:Value) (n:Nat) (xs:List Value) (q:w.ownsRow 0 e 1 v n xs) (s:ByteArray)
  (U:n+s.size≤maxLen) (hbytes:n+s.size≤140737488355328) :
  ∃v' w',(Builtin.append_ #[t,u] ty #[v,.string s]).run P w= .ok v' w'∧w'.ownsRow 0 e 1 v' (n+s.size) (xs++Lib.strCells s)∧w.grownBy w' v.ownBlock∧(v'.ownBlock=v.ownBlock∨v'.ownBlock=some w.heap.size):=by
 obtain⟨v',w',N,h2,h3,_⟩:=Lib.run_append_own_string (P:=P) w 0 t u ty e i ht L hi O hsize J v n xs q s U hbytes (Nat.zero_le _);refine⟨v',w',N,h2,h3,?_⟩;have hsmall:n+s.size≤9223372036854775807:=by omega
 have hxl:xs.length=n:=by simpa using q.1
 rcases q.2 with⟨rfl,rfl⟩|⟨g,z,I,rfl,hbg,hg,hnc,hcm,Z,htake⟩
 ·by_cases hm:s.size=0
  ·simp_all
  ·have f:=run_append_nil_string (P:=P) w t u ty e i (.int .u8 0) ht L hi O s (by omega) (by omega) (by grind);rw[N] at f
   injection f with q1 q2
   rw[q1]; exact .inr rfl
 ·by_cases hroom:n+s.size≤z
  ·have Y:I.size=z:=(by omega);have f:=Lib.run_append_room_string (P:=P) w t u ty e i ht L hi hsize g n z I hg s hroom (by omega);rw[N] at f
   injection f with q1 q2
   rw[q1]; exact .inl rfl
  ·have holds:∀j u,xs[j]? = some u→w.cell? ((⟨g,0,none⟩:Addr).add j)=some u:=q.cells (g:=g) rfl;have f:=Lib.run_append_grow_string (P:=P) w t u ty e i (.int .u8 0) ht L hi O ⟨g,0,none⟩ n z xs (by simp_all) holds s (by omega) (by omega) (by rw[J]; exact growslice_fits (by omega) (by omega));rw[N] at f
   injection f with q1 q2
   rw[q1]; exact .inr rfl
def isStr:Option Ty→Bool
 | some .str=>true
 | _=>false
def aMw(E:Env)(h:List Obj)(t:TypeId)(s x:AV):Prop×AV×List Obj :=
 match E.T t with
 | some (.sl (.u .u8))=>match x with
  | .val .str b=>match s with
   | .nilS=>(bound (.u .u8) b.length,.own h.length,h++ [.row (E.el t) (.u .u8) b])
   | .own i=>match h[i]? with
    | some (.row e c' f)=>match aFb c' (.u .u8) f with
     | some f=>(e=E.el t∧bound (.u .u8) (f.length+b.length),.own h.length,h.set i .dead++ [.row (E.el t) (.u .u8) (f++b)])
     | none=>(False,.junk,h)
    | _=>(False,.junk,h)
   | _=>(False,.junk,h)
  | _=>(False,.junk,h)
 | _=>(False,.junk,h)
theorem aYO{S:Nat→Prop}(s:ByteArray):bB w S (.arr (aR s).length (.u .u8)) (aR s) (Lib.strCells s):=by
 refine⟨rfl,(aR s).map (fun (x:Nat)=>[Value.int .u8 (x:Int)]),?_,by simp,fun i I z=>?_⟩
 ·have f:∀l:List UInt8,(l.map fun b=>Value.int .u8 (b.toNat:Int))=((l.map (·.toNat)).map (fun (x:Nat)=>[Value.int .u8 (x:Int)])).flatten:=by
   intro l
   induction l with
   | nil=>rfl
   | cons a r g=>simp[g]
  exact f s.data.toList
 ·simp only[List.getElem_map];refine⟨rfl,rfl,?_⟩;have:(aR s)[i]=(s.data.toList[i]'(by grind[aR])).toNat:=by simp[aR]
  rw[this];generalize (s.data.toList[i]'(by grind))=q;have:=q.toNat_lt;grind[IntKind.max,IntKind.signed,IntKind.bits]
theorem aSi(hE:iF P E){t tx ty:TypeId}(ht:E.T t=some (.sl (.u .u8)))(htx:P.underlying tx=some .string){sv:Value}{xs:List Nat}
  (U:aCr c w (E.el t) (.u .u8) xs sv) {s:ByteArray} (hb:bound (.u .u8) (xs.length+(aR s).length)) (Y:∀b,c.S b→b<w.heap.size∧aU sv≠some b) :
  ∃v' w',(Builtin.append_ #[t,tx] ty #[sv,.string s]).run P w= .ok v' w'∧w.grownBy w' (aU sv)∧aCr c w' (E.el t) (.u .u8) (xs++aR s) v'∧(∀b,aU v'=some b→aU sv=some b∨(w.heap.size≤b∧b<w'.heap.size))∧ ∃a n m,v'= .slice a n m:=by
 have hd:=hE.el t _ ht;obtain⟨e',hd',hTe',hpos⟩:=gJ (hE.T _ _ ht);have:e'=E.el t:=by simp_all
 subst this;have hTe:=hE.T _ _ hTe';obtain⟨i,hi,hsz,hz,hby⟩:=hTe.info;obtain⟨I,J,O⟩:=U;have L:(aR s).length=s.size:=uN s;rw[L] at hb;have hb1:i.bytes=1:=hTe.byte rfl i hi;obtain⟨v',w',Z,f,N,q⟩:=aO0 (P:=P) w t tx ty (E.el t) i hd htx hi (hz rfl) hsz hb1 sv xs.length I J s hb.1 (by have:=hb.2; grind[Ty.byt,IntKind.bits]);have hsl:=kC J;have z:=kC f;rw[← wW hsl] at N q;rw[← wW z] at q;have hsame:aCq c.S w w':=fun b hb=>N.block b (Y b hb).1 (fun e=>(Y b hb).2 e.symm);refine⟨v',w',Z,N,?_,fun b hb=>?_,z⟩
 ·have:=aNM (t:=.u .u8) O (aYO (w:=w) (S:=c.S) s);exact⟨I++_,by simpa [L,Ty.cells] using f,bB.keep (fun _ h=>h) hsame _ _ _ (by omega)⟩
 ·rcases q with q|q
  ·simp_all
  ·right
   rw[q] at hb;cases hb;refine⟨Nat.le_refl _,?_⟩;rcases f.2 with⟨rfl,_⟩|⟨g,cp,cur,rfl,_,hheap,_⟩
   all_goals grind[aU,Array.getElem?_eq_some_iff]
theorem bCA(Z:iF P E)(z:Good M w0 c h w){t tx ty:TypeId}(N:P.underlying tx=some .string){s x:AV}{sv Y:Value}(hs:aX c w s sv)(hx:aX c w x Y)(hc:(aMw E h t s x).1) :
  ∃v' w' c',(Builtin.append_ #[t,tx] ty #[sv,Y]).run P w= .ok v' w'∧eI c w c' w'∧Good M w0 c' (aMw E h t s x).2.2 w'∧aX c' w' (aMw E h t s x).2.1 v':=by
 unfold aMw at hc ⊢;split at hc
 ·rename_i ht;split at hc
  ·rename_i b;obtain⟨st,rfl,rfl,hm⟩:=aSa hx;split at hc
   ·
    have L:sv= .slice none 0 0:=by
     obtain⟨h1,_,h3⟩:=hs;have h3:=h3 rfl;simp_all[aO,Value.cells]
    subst L;obtain⟨v',w',q,f,g,O,J⟩:=aSi (c:=c) (w:=w) (P:=P) (ty:=ty) (xs:=[]) (s:=st) Z ht N (sv:=.slice none 0 0) ⟨[],⟨by simp,.inl ⟨rfl,rfl⟩⟩,⟨rfl,[],rfl,rfl,fun i h=>by simp at h⟩⟩ (by simp_all) (fun b hb=>⟨z.sfin b hb,by simp[aU]⟩);rw[List.nil_append] at g;have hk:iL nothing w w':=⟨f.os,f.tape,f.output,f.size,fun b hb _=>f.block b hb (by simp[aU])⟩;have:=z.push hk (o:=.row (E.el t) (.u .u8) (aR st)) (hv:=v') (by
     show aCr _ _ _ _ _ _;have e:(c.push v').hd c.n=v':=(by simp[Ctx.push]);rw[e];exact g) (fun b hb=>by
     simp_all[Ctx.push,fA,aU])
    refine⟨v',w',_,q,this.2,this.1,?_⟩;have:=aF7 (c:=c) J (w':=w') (S':=c.S);rw[← z.n];exact this
   ·rename_i i;split at hc
    ·rename_i e c' xs U;split at hc
     ·rename_i xs' hcast;obtain⟨rfl,rfl⟩:=aF6 hcast;obtain⟨rfl,hb⟩:=hc;have L:=(aDO hs).2;have I:aCr c w (E.el t) _ _ (c.hd i):=z.objs i _ U;subst L;obtain⟨v',w',q,f,g,O,J⟩:=aSi (c:=c) (w:=w) (P:=P) (ty:=ty) (s:=st) Z ht N I hb (fun b hb=>⟨z.sfin b hb,fun e=>(z.own i _ b U e).2.2 hb⟩);have:=z.regrow U f g O;refine⟨v',w',_,q,this.2,this.1,?_⟩;have:=aF7 (c:=c) J (w':=w') (S':=c.S);rw[← z.n];exact this
     simp_all
    simp_all
   simp_all
  simp_all
 simp_all
end
end Go.Vc
namespace Go.Vc
open Go.RowKit
structure Fr where
 P:Program
 E:Env
 M:Perm
 w0:World
 nt:Nat
 ds:List Deferred
@[reducible] def fr(P:Program)(E:Env)(S:Nat→Prop)(w0:World)(nt:Nat):Fr:=⟨P,E,top S,w0,nt,[]⟩
structure uP(F:Fr):Prop where
 env:iF F.P F.E
 mix:F.P.follows .mixedOrders=true
def iT(nt:Nat):Code→Bool
 | .region _ ops f=>ops.toList.all (iG nt)&&aJW ops.toList&&(!f||aYK ops.toList)
 | .seq a b=>iT nt a&&iT nt b
 | .cond c a b=>sO c&&iT nt a&&iT nt b
 | .block _ a=>iT nt a
 | .loop a=>iT nt a
 | .scope a=>iT nt a
 | .rangeFunc _ _ _ _=>false
 | _=>true
abbrev St:=List (Nat×AV)
def At(F:Fr)(K:Act→World→Prop)(env:St)(h:List Obj):Prop:=∀c a w,Sim F.E F.M F.w0 F.nt F.ds c env h a w→K a w
def Tri(F:Fr)(c:Code)(Q:Exit→Act→World→Prop)(env:St)(h:List Obj):Prop:=iT F.nt c=true→At F (c.wp F.P Q) env h
section
variable {F:Fr} {Q:Exit→Act→World→Prop} {env:St} {h:List Obj}
theorem eC(hq:At F (Q .normal) env h):Tri F .skip Q env h:=fun _ c a w hs=>wp_skip (hq c a w hs)
theorem aXN{l:Nat}(hq:At F (Q .normal) env h):Tri F (.label l) Q env h:=fun _ c a w hs=>wp_label (hq c a w hs)
theorem aEh{id:Nat}(hq:At F (Q (.exit id)) env h):Tri F (.exit id) Q env h:=fun _ c a w hs=>wp_exit (hq c a w hs)
theorem gU(hq:At F (Q .ret) env h):Tri F .ret Q env h:=fun _ c a w hs=>wp_ret (hq c a w hs)
def Next(F:Fr)(y:Code)(Q:Exit→Act→World→Prop)(a:Act)(w:World):Prop:=iT F.nt y=true→y.wp F.P Q a w
theorem aL{x y:Code}(g:Tri F x (Exit.then (Next F y Q) Q) env h):Tri F (.seq x y) Q env h:=fun f c a w hs=>by
 simp only[iT,Bool.and_eq_true] at f;refine wp_seq (wp_mono (g f.1 c a w hs) fun e q w' hq=>?_);cases e<;>first|exact hq|exact hq f.2
theorem aN{y:Code}(hy:Tri F y Q env h):At F (Exit.then (Next F y Q) Q .normal) env h:=fun c a w hs f=>hy f c a w hs
theorem dQ{K:Act→World→Prop}(f:At F K env h):At F (Exit.then K Q .normal) env h:=f
theorem kJ{K:Act→World→Prop}{id:Nat}(hq:At F (Q (.exit id)) env h):At F (Exit.then K Q (.exit id)) env h:=hq
theorem eD{K:Act→World→Prop}(hq:At F (Q .ret) env h):At F (Exit.then K Q .ret) env h:=hq
theorem pJ{id:Nat}(hq:At F (Q .normal) env h):At F (Exit.inBlock id Q .normal) env h:=hq
theorem rL{id:Nat}(hq:At F (Q .ret) env h):At F (Exit.inBlock id Q .ret) env h:=hq
theorem pK{id:Nat}(hq:At F (Q .normal) env h):At F (Exit.inBlock id Q (.exit id)) env h:=fun c a w hs=>by
 simp only[Exit.inBlock,if_true]; exact hq c a w hs
theorem aK8{id f:Nat}(g:f≠id)(hq:At F (Q (.exit f)) env h):At F (Exit.inBlock id Q (.exit f)) env h:=fun c a w hs=>by
 simp only[Exit.inBlock,g,if_false]; exact hq c a w hs
theorem oV{id:Nat}{x:Code}(f:Tri F x (Exit.inBlock id Q) env h):Tri F (.block id x) Q env h:=fun g c a w hs =>
 wp_block (f (by grind[iT]) c a w hs)
theorem cS{x y:Code}{o:Operand}{b:Bool}(hb:evA F.E.G env o= .val .bool b)(ht:b=true→Tri F x Q env h)(g:b=false→Tri F y Q env h):Tri F (.cond o x y) Q env h:=fun f c a w hs=>by
 simp only[iT,Bool.and_eq_true] at f;have hv:=aF3 (a:=a) hs.env hs.glob f.1.1;rw[hb] at hv;have hv:=aHY hv;exact wp_cond_split hv (fun e=>ht e f.1.2 c a w hs) (fun e=>g e f.2 c a w hs)
def bLw(v:AV):Option Ent→AV
 | none=>v
 | some ⟨_,_,[],av⟩=>av
 | some _=>.junk
theorem bAE(f:List Ent)(env:St)(t:Nat):look (oJ f env) t=bLw (look env t) (aFa f t):=by
 rw[aK7];cases aFa f t with
 | none=>rfl
 | some e=>obtain⟨i,d,gp,av⟩:=e; cases gp<;>rfl
def aWJ(keep:List Nat)(f:List Ent)(env:St):St:=keep.map fun t=>(t,bLw (look env t) (aFa f t))
theorem bFa{c:Ctx}{w:World}{a:Act}(f:aKo c w env a.tmps)(keep:List Nat):aKo c w (keep.map fun t=>(t,look env t)) a.tmps:=fun t=>by
 have:look (keep.map fun t=>(t,look env t)) t=look env t∨look (keep.map fun t=>(t,look env t)) t= .junk:=by
  induction keep with
  | nil=>right; rfl
  | cons k r g =>
   simp only[List.map_cons,look];grind
 rcases this with e|e
 ·rw[e]; exact f t
 ·rw[e]; trivial
theorem Sim.keep{E:Env}{M:Perm}{w0:World}{nt:Nat}{ds:List Deferred}{c:Ctx}{a:Act}{w:World}(hs:Sim E M w0 nt ds c env h a w)(keep:List Nat):Sim E M w0 nt ds c (keep.map fun t=>(t,look env t)) h a w :=
 ⟨hs.good,hs.glob,bFa hs.env keep,hs.size,hs.defers⟩
theorem aQ(hF:uP F){id:Nat}{ops:Array Oper}{q:Bool}(keep:List Nat)(hv:vcA F.E h env ops.toList 0 [] (fun f=>At F (Q .normal) (aWJ keep f env) h)):Tri F (.region id ops q) Q env h:=fun z c a w hs=>by
 simp only[iT,Bool.and_eq_true,Bool.or_eq_true,Bool.not_eq_true'] at z;obtain⟨⟨N,L⟩,U⟩:=z;have g:∀f c' I w',At F (Q .normal) (aWJ keep f env) h→eI c w c' w'→c'.n=c.n→Sim F.E F.M F.w0 F.nt F.ds c' (oJ f env) h I w'→Q .normal I w':=fun f c' I w' O _ _ J=>by
  have:=J.keep keep;refine O c' I w' ?_;grind[aWJ,look,oJ,bAE]
 cases q with
 | false=>exact bAB (ops:=ops.toList) hF.env (List.all_eq_true.1 N) L hs hv g
 | true=>exact aOX (ops:=ops.toList) hF.env hF.mix (List.all_eq_true.1 N) L (U.resolve_left (by simp)) hs hv g
theorem bAF{x:Code}{D:Type}(I:D→Prop)(z:D→Nat)(f:D→St)(g:D→List Obj)(h0:At F (fun a w=>∃d c,I d∧Sim F.E F.M F.w0 F.nt F.ds c (f d) (g d) a w) env h)
  (round:∀d,I d→Tri F x (Exit.then (fun Y w'=>∃d' c',(I d'∧z d'<z d)∧Sim F.E F.M F.w0 F.nt F.ds c' (f d') (g d') Y w') Q) (f d) (g d)):Tri F (.loop x) Q env h:=fun N c a w hs=>by
 classical
 have N:iT F.nt x=true:=by grind[iT]
 let good:Act→World→Nat→Prop:=fun a w n=>∃d c,I d∧Sim F.E F.M F.w0 F.nt F.ds c (f d) (g d) a w∧z d=n
 have hleast:∀a w,(∃d c,I d∧Sim F.E F.M F.w0 F.nt F.ds c (f d) (g d) a w)→ ∃n,good a w n∧ ∀m,good a w m→n≤m:=fun a w ⟨d,c,hi,hs⟩=>by
  have Z:∃n,good a w n:=⟨z d,d,c,hi,hs,rfl⟩;obtain⟨n,hn⟩:=Z
  induction n using Nat.strongRecOn with
  | _ n ih =>
   by_cases hh:∃m,m<n∧good a w m
   ·obtain⟨m,hm,hg⟩:=hh; grind
   grind
 let ms:Act→World→Nat:=fun a w=>if L:∃d c,I d∧Sim F.E F.M F.w0 F.nt F.ds c (f d) (g d) a w then Classical.choose (hleast a w L) else 0
 have O:∀a w (L:∃d c,I d∧Sim F.E F.M F.w0 F.nt F.ds c (f d) (g d) a w),good a w (ms a w)∧ ∀m,good a w m→ms a w≤m:=fun a w L=>by
  grind
 refine wp_loop (fun a w=>∃d c,I d∧Sim F.E F.M F.w0 F.nt F.ds c (f d) (g d) a w) ms (h0 c a w hs) fun a w L=>?_;obtain⟨⟨d,c,hi,hs,hμ⟩,hmin⟩:=O a w L;refine wp_mono (round d hi N c a w hs) fun e Y w' hq=>?_;cases e with
 | normal =>
  obtain⟨d',c',⟨q,hlt⟩,U⟩:=hq;have J:∃d c,I d∧Sim F.E F.M F.w0 F.nt F.ds c (f d) (g d) Y w':=⟨d',c',q,U⟩;refine⟨J,?_⟩;have:=(O Y w' J).2 (z d') ⟨d',c',q,U,rfl⟩;omega
 | _=>exact hq
theorem bAG{x y:Code}{D:Type}(J:D→Prop)(f:D→St)(I:D→List Obj)(L:Tri F x (Exit.then (fun q w'=>∃d' c',J d'∧Sim F.E F.M F.w0 F.nt F.ds c' (f d') (I d') q w') Q) env h)
  (hy:∀d,J d→Tri F y Q (f d) (I d)):Tri F (.seq x y) Q env h:=fun g c a w hs=>by
 simp only[iT,Bool.and_eq_true] at g;refine wp_seq (wp_mono (L g.1 c a w hs) fun e q w' hq=>?_);cases e with
 | normal =>
  obtain⟨d',c',N,z⟩:=hq;exact hy d' N g.2 c' q w' z
 | _=>exact hq
def eU(h:List Obj)(v:AV):AV→Prop
 | .val t x=>AV.as (h.map fX) t v=some x∨v= .val t x
 | .junk=>True
 | u=>v=u
def wT(h:List Obj)(env:St):St→Prop
 | []=>True
 | (t,u)::r=>eU h (look env t) u∧wT h env r
theorem aT7{M:Perm}{w0:World}{c:Ctx}{w:World}(g:Good M w0 c h w){v u:AV}{x:Value}(f:eU h v u)(hv:aX c w v x):aX c w u x:=by
 cases u<;>simp only[eU] at f
 case val t y =>
  rcases f with f|rfl
  all_goals grind[aX.ofV,aAo]
 case junk=>trivial
 all_goals simp_all
theorem bD0{M:Perm}{w0:World}{c:Ctx}{w:World}{a:Act}(g:Good M w0 c h w)(z:aKo c w env a.tmps):∀ {f:St},wT h env f→aKo c w f a.tmps
 | [],_,t=>trivial
 | (k,u)::r,q,t=>by
  simp only[look];split
  ·rename_i e; subst e; exact aT7 g q.1 (z k)
  ·exact bD0 g z q.2 t
theorem aT{D:Type}{J:D→Prop}{f:D→St}{g:D→List Obj}(d:D)(q:J d)(z:h=g d)(I:wT h env (f d)):At F (fun a w=>∃d' c',J d'∧Sim F.E F.M F.w0 F.nt F.ds c' (f d') (g d') a w) env h:=fun c a w hs =>
 ⟨d,c,q,⟨by rw[← z]; exact hs.good,hs.glob,bD0 hs.good hs.env I,hs.size,hs.defers⟩⟩
def cA:(t:Ty)→t.den→Nat→St
 | .pair (.rp a) r,x,k=>(k,.roa a x.1)::cA r x.2 (k+1)
 | .pair a r,x,k=>(k,.val a x.1)::cA r x.2 (k+1)
 | _,_,_=>[]
end
end Go.Vc
namespace Go.Vc
open Go.RowKit
def bFb:Obj→Obj
 | .row _ t f=>.frz t f
 | .tre _ _ t f=>.frz t f
 | o=>o
def frzAll:Obj→Obj
 | .row _ t f=>.frz t f
 | .tre _ _ t f=>.frz t f
 | .frz t f=>.frz t f
 | _=>.dead
def aSj:Ty→Nat
 | .pair _ r=>aSj r+1
 | _=>0
def mA(h:List Obj):(r:RK)→r.ty.den→List AV→Prop
 | .none,_,[]=>True
 | .one t,y,[v]=>AV.as (h.map frzAll) t v=some y
 | .own e t,f,[.own i]=>h[i]? = some (.row e t f)
 | .own e t,f,[.nilS]=>f= []
 | .tup t,y,g=>g.length≠1∧aDy (h.map frzAll) t g=some y
 | _,_,_=>False
section
variable {P:Program} {E:Env} {M:Perm} {w0:World} {c:Ctx} {h:List Obj} {w:World}
theorem aWK:∀(n:Nat) (h:List Obj) (i:Nat),(freezeAll (List.range n) h)[i]? = if i<n then (h[i]?).map bFb else h[i]? := by
 have g:∀(l r:List Nat) (h:List Obj),freezeAll (l++r) h=freezeAll r (freezeAll l h):=fun l=>by
  induction l with
  | nil=>intro r h; rfl
  | cons a l z=>intro r h; simp only[List.cons_append,freezeAll]; exact z r _
 intro n
 induction n with
 | zero=>grind[freezeAll]
 | succ n z =>
  intro h i;rw[List.range_succ,g];simp only[freezeAll,Vc.freeze];have I:=z h n;simp only[Nat.lt_irrefl,if_false] at I;split
  ·rename_i e t N f;rw[I] at f;by_cases q:n=i
   ·subst q;have J:n<h.length:=yS f;have U:n<(freezeAll (List.range n) h).length:=by
     grind
    grind[bFb]
   grind
  ·rename_i e m t N f;rw[I] at f;by_cases q:n=i
   ·subst q;have J:n<h.length:=yS f;have U:n<(freezeAll (List.range n) h).length:=by
     grind
    grind[bFb]
   grind
  ·rename_i O L;rw[z h i];by_cases hi:i<n
   ·grind
   ·by_cases q:i=n
    ·subst q;simp only[Nat.lt_irrefl,if_false,Nat.lt_succ_self,if_true];cases f:h[i]? with
     | none=>rfl
     | some o =>
      rw[f] at I;cases o<;>first|rfl|grind|grind
    grind
theorem Good.frzAll(f:Good M w0 c h w):∃c',eI c w c' w∧Good M w0 c' (h.map bFb) w:=by
 obtain⟨c',g,z,q⟩:=f.freezeAll (List.range h.length);have e:Vc.freezeAll (List.range h.length) h=h.map bFb:=by
  apply List.ext_getElem?;intro i;rw[aWK,List.getElem?_map];by_cases hi:i<h.length
  ·simp[hi]
  ·simp[hi]
 grind
theorem bD1:(h.map bFb).map fX=h.map frzAll:=by
 rw[List.map_map];apply List.map_congr_left;intro o _;cases o<;>rfl
theorem aUN{S:Nat→Prop}:∀(t:Ty) (x:t.den) (k:Nat) (vs:List Value) (f:Array Value),sD w S t x vs→c.S=S→(∀i v,vs[i]? = some v→f.getD (k+i) Go.undef=v)→aKo c w (cA t x k) f
 | .pair a r,x,k,vs,f,⟨v,q,e,z,J⟩,L,ht=>by
  subst e;have g:=aUN r x.2 (k+1) q f J L (fun i u I=>by
   have:=ht (i+1) u (by simp_all);grind)
  have hv:=ht 0 v (by simp);simp only[Nat.add_zero] at hv;intro t;have hcase:∀u:AV,aX c w u v→aX c w (look ((k,u)::cA r x.2 (k+1)) t) (f.getD t Go.undef):=fun u I=>by
   simp only[look];split
   ·simp_all
   ·exact g t
  cases a with
  | rp a =>
   simp only[cA];refine hcase _ ?_;unfold dU at z;rw[if_neg (by simp[Ty.isAgg])] at z;obtain⟨b,off,ds,e,hb,hd,hcell⟩:=z;grind[aGZ]
  | _ =>
   grind[cA,aX.ofV]
 | .unit,_,_,_,_,_,_,_=>fun t=>trivial
 | .bool,_,_,_,_,h,_,_=>h.elim
 | .u _,_,_,_,_,h,_,_=>h.elim
 | .i _,_,_,_,_,h,_,_=>h.elim
 | .str,_,_,_,_,h,_,_=>h.elim
 | .sl _,_,_,_,_,h,_,_=>h.elim
 | .arr _ _,_,_,_,_,h,_,_=>h.elim
 | .expr,_,_,_,_,h,_,_=>h.elim
 | .rp _,_,_,_,_,h,_,_=>h.elim
 | .clo _ _,_,_,_,_,h,_,_=>h.elim
theorem aUO{S:Nat→Prop}:∀(t:Ty) (x:t.den) (vs:List Value),sD w S t x vs→vs.length=aSj t
 | .pair a r,x,vs,⟨v,f,e,q,g⟩=>by subst e; simp[aSj,aUO r x.2 f g]
 | .unit,_,_,h=>by simp only[sD] at h; subst h; rfl
 | .bool,_,_,h=>h.elim
 | .u _,_,_,h=>h.elim
 | .i _,_,_,h=>h.elim
 | .str,_,_,h=>h.elim
 | .sl _,_,_,h=>h.elim
 | .arr _ _,_,_,h=>h.elim
 | .expr,_,_,h=>h.elim
 | .rp _,_,_,h=>h.elim
 | .clo _ _,_,_,h=>h.elim
 | .ifc _ _,_,_,h=>h.elim
 | .nili,_,_,h=>h.elim
 | .nilp,_,_,h=>h.elim
 | .nilf,_,_,h=>h.elim
theorem bFc{S S':Nat→Prop}(hs:∀b,S b→S' b):∀ {t:Ty} {x:t.den} {vs:List Value},sD w S t x vs→sD w S' t x vs:=by
 intro t
 induction t with
 | unit=>intro x vs h; exact h
 | pair a r _ g=>intro x vs ⟨v,f,e,z,q⟩; exact⟨v,f,e,z.keep hs (.refl _ _),g q⟩
 | _=>intro x vs h; exact h.elim
def Ty.wf:(t:Ty)→t.den→Prop
 | .u k,n=>(n:Int)≤k.max
 | .i k,n=>fits k n
 | .str,s=>s.length≤maxLen
 | .sl t,f=>f.length≤maxLen∧ ∀x∈f,t.wf x
 | .pair a b,x=>a.wf x.1∧b.wf x.2
 | .arr n t,f=>f.length=n∧ ∀x∈f,t.wf x
 | .rp t,x=>t.wf x
 | .clo _ t,x=>t.wf x
 | .ifc _ t,x=>t.wf x
 | _,_=>True
theorem bB.wf{S:Nat→Prop}:∀(t:Ty) (x:t.den) (cs:List Value),bB w S t x cs→t.wf x
 | .bool,_,_,_=>trivial
 | .u k,_,_,f=>f.2.2
 | .i k,_,_,f=>f.2.2
 | .str,_,_,⟨s,_,he,hs⟩=>by grind[Ty.wf,uN]
 | .sl t,L,_,⟨a,len,O,_,z,I,Z,U⟩=>by
  refine⟨by omega,fun x g=>?_⟩;rcases U with rfl|⟨b,off,_,_,q⟩
  ·cases g
  ·obtain⟨i,hi,rfl⟩:=List.mem_iff_getElem.1 g;obtain⟨ds,hd,_⟩:=q i hi;exact bB.wf t _ _ hd
 | .unit,_,_,_=>trivial
 | .pair a b,_,_,⟨c1,Y,_,z,I⟩=>⟨bB.wf a _ _ z,bB.wf b _ _ I⟩
 | .arr n t,L,_,⟨N,J,_,hl,f⟩=>⟨N,fun x g=>by
  obtain⟨i,hi,rfl⟩:=List.mem_iff_getElem.1 g;exact bB.wf t _ _ (f i hi (by omega))⟩
 | .expr,_,_,_=>trivial
 | .rp t,_,_,⟨_,_,ds,_,_,hd,_⟩=>bB.wf t _ _ hd
 | .clo _ t,_,_,⟨_,_,hd⟩=>bB.wf t _ _ hd
 | .ifc _ t,_,_,⟨_,_,_,_,_,hd⟩=>bB.wf t _ _ hd
 | .nili,_,_,_=>trivial
 | .nilp,_,_,_=>trivial
 | .nilf,_,_,_=>trivial
theorem aIY{S:Nat→Prop}:∀(t:Ty) (x:t.den) (vs:List Value),sD w S t x vs→t.wf x
 | .pair a r,x,vs,⟨v,g,e,q,f⟩=>⟨bB.wf a _ _ q.cells,aIY r _ _ f⟩
 | .unit,_,_,_=>trivial
 | .bool,_,_,h=>h.elim
 | .u _,_,_,h=>h.elim
 | .i _,_,_,h=>h.elim
 | .str,_,_,h=>h.elim
 | .sl _,_,_,h=>h.elim
 | .arr _ _,_,_,h=>h.elim
 | .expr,_,_,h=>h.elim
 | .rp _,_,_,h=>h.elim
 | .clo _ _,_,_,h=>h.elim
 | .ifc _ _,_,_,h=>h.elim
 | .nili,_,_,h=>h.elim
 | .nilp,_,_,h=>h.elim
 | .nilf,_,_,h=>h.elim
theorem aF8{n:Int}:fits .i64 n↔ -9223372036854775808≤n∧n≤9223372036854775807:=by
 rfl
theorem bFd:maxLen=9223372036854775807:=rfl
def post(P:Program)(fn:Func)(S:Nat→Prop)(w0:World)(r:RK)(y:r.ty.den):Exit→Act→World→Prop :=
 bodyPost P fn fun e w'=>∃v,e= .returned v∧iL nothing w0 w'∧bEY w' S w0.heap.size r y v
theorem bCB{f:FuncId}{fn:Func}{g:Code}{sp:aF}(Z:iF P E)(O:P.funcs[f]? = some fn)(hb:fn.body=some g)(z:iT fn.ntmps g=true)(Y:aSj sp.args≤fn.ntmps)
  (ht:∀(w0:World) (S:Nat→Prop) (x:sp.args.den),sp.args.wf x→sp.pre x→Tri (fr P E S w0 fn.ntmps) g (post P fn S w0 sp.res (sp.fn x)) (cA sp.args x 0) []):FOK P E.G f sp:=by
 intro w S I x U L q hp;refine calls_of_wp O hb ?_;refine ht w S x (aIY _ _ _ q) hp z ⟨S,fun _=>Go.undef,0,fun _ _=>False⟩ _ w ⟨⟨rfl,.refl _ _,U,fun b hb _=>.inl hb,fun i o N=>by grind,fun i o b N=>by grind,fun i j oi oj b hi=>by grind,⟨Nat.le_refl _,fun i hi=>absurd hi (Nat.not_lt_zero i)⟩⟩,L,?_,?_,rfl⟩
 ·refine aUN _ x 0 I.toList _ q rfl fun i v hv=>?_;have J:i<I.size:=by
   grind
  simp_all[Nat.zero_add,Array.getElem?_toList,Array.getElem?_append,Array.getElem?_eq_getElem]
 ·have:=aUO _ _ _ q;simp_all
def aMY:List Value→Value
 | [v]=>v
 | vs=>.tuple vs.toArray
end
end Go.Vc

