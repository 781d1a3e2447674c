import Derived.Test.YtlijgfkkmamanaaGreatDoorZL2
import Derived.Maps.AppendAt
import Derived.Lib.AppendStr
set_option linter.unusedVariables false
set_option linter.unusedSimpArgs false
namespace Go.Vc
open Go.RowKit
structure Ent where
 i:Nat
 d:Nat
 gp:List (Nat×Bool)
 av:AV
def aA5:List Ent→Nat→Option Ent
 | [],_=>none
 | e::r,j=>if e.i=j then some e else aA5 r j
def aE0:List Ent→Nat→Option Ent
 | [],_=>none
 | e::r,t=>if e.d=t then some e else aE0 r t
def aUz:AV→Bool
 | .val .bool b=>b
 | _=>false
def aHX:AV→Bool
 | .val .bool _=>true
 | _=>false
def aGG(f:List Ent):Option (Nat×Bool)→List (Nat×Bool)
 | none=>[]
 | some (j,p)=>match aA5 f j with
  | some e=>e.gp++ [(j,p)]
  | none=>[(j,p)]
def kE(f:List Ent):List (Nat×Bool)→Prop
 | []=>True
 | (j,p)::r=>(match aA5 f j with|some e=>aUz e.av=p|none=>False)∧kE f r
def aGT(f:List Ent):Option (Nat×Bool)→Prop
 | none=>True
 | some (j,_)=>match aA5 f j with
  | some e=>aHX e.av=true
  | none=>False
def aR6:List (Nat×Bool)→List (Nat×Bool)→Bool
 | [],_=>true
 | _::_,[]=>false
 | (j,p)::r,(k,q)::s=>decide (j=k)&&(p == q)&&aR6 r s
def aUA(G:Nat→AV)(f:List Ent)(env:List (Nat×AV))(gp:List (Nat×Bool)):Operand→AV
 | .tmp t=>match aE0 f t with
  | some e=>if aR6 e.gp gp=true then e.av else .junk
  | none=>look env t
 | x=>evA G env x
def bGp(G:Nat→AV)(f:List Ent)(env:List (Nat×AV))(gp:List (Nat×Bool))(c a b:Operand):Prop×AV :=
 match c with
 | .tmp t=>match aE0 f t with
  | some e=>match (if aR6 e.gp gp=true then e.av else .junk),aUA G f env (gp++ [(e.i,true)]) a,aUA G f env (gp++ [(e.i,false)]) b with
   | .val .bool q,.val .bool x,.val .bool y=>(True,.val .bool (bif q then x else y))
   | _,_,_=>(False,.junk)
  | none=>(False,.junk)
 | _=>(False,.junk)
noncomputable def opA(E:Env)(h:List Obj)(env:List (Nat×AV))(f:List Ent)(o:Oper):Prop×AV :=
 match o.op with
 | .pick c a b=>bGp E.G f env (aGG f o.guard) c a b
 | _=>pv E h (aUA E.G f env (aGG f o.guard)) o
def vcA(E:Env)(h:List Obj)(env:List (Nat×AV)):List Oper→Nat→List Ent→(List Ent→Prop)→Prop
 | [],_,f,K=>K f
 | o::r,i,f,K=>match o.dst,opA E h env f o with
  | some d,(p,v)=>aGT f o.guard∧(kE f (aGG f o.guard)→p)∧vcA E h env r (i+1) (⟨i,d,aGG f o.guard,v⟩::f) K
  | none,_=>False
def oK:List Ent→List (Nat×AV)→List (Nat×AV)
 | [],env=>env
 | e::r,env=>(e.d,match e.gp with| []=>e.av|_::_=>.junk)::oK r env
structure aA0(E:Env)(h:List Obj)(env:List (Nat×AV))(ops:List Oper)(F:Nat→List Ent):Prop where
 zero:F 0= []
 step:∀i o,ops[i]? = some o→ ∃d,o.dst=some d∧aGT (F i) o.guard∧(kE (F i) (aGG (F i) o.guard)→(opA E h env (F i) o).1)∧F (i+1)=⟨i,d,aGG (F i) o.guard,(opA E h env (F i) o).2⟩::F i
theorem aIQ{E:Env}{h:List Obj}{env:List (Nat×AV)}:∀(l:List Oper) (i:Nat) (f:List Ent) (K:List Ent→Prop),vcA E h env l i f K →
  ∃F:Nat→List Ent,F i=f∧(∀k o,l[k]? = some o→ ∃d,o.dst=some d∧aGT (F (i+k)) o.guard∧(kE (F (i+k)) (aGG (F (i+k)) o.guard)→(opA E h env (F (i+k)) o).1)∧F (i+k+1)=⟨i+k,d,aGG (F (i+k)) o.guard,(opA E h env (F (i+k)) o).2⟩::F (i+k))∧K (F (i+l.length))
 | [],i,f,K,hv=>⟨fun _=>f,rfl,fun k o I=>by grind,hv⟩
 | o::r,i,f,K,hv=>by
  simp only[vcA] at hv;split at hv
  ·rename_i d p v hd q;obtain⟨U,O,g⟩:=hv;obtain⟨F,J,L,N⟩:=aIQ r (i+1) _ K g;refine⟨fun j=>if j≤i then f else F j,by simp,fun k Y z=>?_,?_⟩
   all_goals grind
  simp_all
section
variable {E:Env} {h:List Obj} {env:List (Nat×AV)} {ops:List Oper} {F:Nat→List Ent}
theorem oU(hF:aA0 E h env ops F):∀(i:Nat),i≤ops.length→ ∀j,(j<i→ ∃o d,ops[j]? = some o∧o.dst=some d∧aA5 (F i) j=some ⟨j,d,aGG (F j) o.guard,(opA E h env (F j) o).2⟩)∧(i≤j→aA5 (F i) j=none)
 | 0,_,j=>⟨fun h=>absurd h (Nat.not_lt_zero j),fun _=>by rw[hF.zero]; rfl⟩
 | i+1,hi,j=>by
  have f:ops[i]? = some ops[i]:=List.getElem?_eq_getElem (by omega);obtain⟨d,h1,Z,U,J⟩:=hF.step i _ f;obtain⟨N,Y⟩:=oU hF i (by omega) j;rw[J];refine⟨fun q=>?_,fun q=>?_⟩
  ·by_cases e:j=i
   ·grind[aA5]
   ·obtain⟨o,O,I,g,L⟩:=N (by omega);exact⟨o,O,I,g,by rw[aA5,if_neg (fun z=>e z.symm)]; exact L⟩
  ·rw[aA5,if_neg (by grind)];grind
theorem aIR(hF:aA0 E h env ops F):∀(i:Nat),i≤ops.length→ ∀t e,aE0 (F i) t=some e→e.i<i∧e.d=t∧aA5 (F i) e.i=some e∧ ∃o,ops[e.i]? = some o∧o.dst=some t
 | 0,_,t,e,f=>by rw[hF.zero] at f; cases f
 | i+1,hi,t,e,f=>by
  have g:ops[i]? = some ops[i]:=List.getElem?_eq_getElem (by omega);obtain⟨d,J,U,N,z⟩:=hF.step i _ g;rw[z] at f ⊢;simp only[aE0] at f;split at f
  ·rename_i hd;cases f;subst hd;exact⟨Nat.lt_succ_self _,rfl,by simp[aA5],_,g,J⟩
  ·obtain⟨O,q,I,L⟩:=aIR hF i (by omega) t e f;exact⟨by omega,q,by rw[aA5,if_neg (by grind)]; exact I,L⟩
theorem aNA(hF:aA0 E h env ops F):∀(i:Nat),i≤ops.length→ ∀t,aE0 (F i) t=none→ ∀k o,k<i→ops[k]? = some o→o.dst≠some t
 | 0,_,t,_,k,o,q,_=>absurd q (Nat.not_lt_zero k)
 | i+1,hi,t,f,k,o,q,g=>by
  have z:ops[i]? = some ops[i]:=List.getElem?_eq_getElem (by omega);obtain⟨d,L,N,J,I⟩:=hF.step i _ z;rw[I] at f;simp only[aE0] at f;split at f
  ·cases f
  ·rename_i hd;by_cases e:k=i
   ·simp_all
   ·exact aNA hF i (by omega) t f k o (by omega) g
theorem aD9(hF:aA0 E h env ops F){i j k:Nat}{e:Ent}(hi:i≤ops.length)(J:k≤ops.length)(z:i≤k)(f:aA5 (F i) j=some e):aA5 (F k) j=some e:=by
 have g:j<i:=by
  rcases Nat.lt_or_ge j i with h|h
  ·exact h
  ·rw[(oU hF i hi j).2 h] at f; cases f
 obtain⟨o,d,O,U,N⟩:=(oU hF i hi j).1 g;obtain⟨Y,Z,L,I,q⟩:=(oU hF k J j).1 (by omega);simp_all
def aST(F:List Ent):List (Nat×Bool)→Prop
 | []=>True
 | (j,_)::r=>(∃e,aA5 F j=some e∧aHX e.av=true)∧aST F r
theorem aJL(hF:aA0 E h env ops F){i k:Nat}(hi:i≤ops.length)(z:k≤ops.length)(g:i≤k):∀ {gp:List (Nat×Bool)},aST (F i) gp→kE (F k) gp→kE (F i) gp
 | [],_,_=>trivial
 | (j,p)::r,f,q=>by
  simp only[kE,aST] at q f ⊢;obtain⟨⟨e,I,_⟩,f⟩:=f;refine⟨?_,aJL hF hi z g f q.2⟩;grind[aD9]
theorem aFT{F:List Ent}:∀ {g1 f:List (Nat×Bool)},kE F (g1++f)↔kE F g1∧kE F f
 | [],f=>by simp[kE]
 | (j,p)::r,f=>by simp only[List.cons_append,kE,aFT (g1:=r),and_assoc]
theorem aR7{F:List Ent}:∀ {g1 f:List (Nat×Bool)},aST F (g1++f)↔aST F g1∧aST F f
 | [],f=>by simp[aST]
 | (j,p)::r,f=>by simp only[List.cons_append,aST,aR7 (g1:=r),and_assoc]
theorem aUB(hF:aA0 E h env ops F){i k:Nat}(hi:i≤ops.length)(g:k≤ops.length)(f:i≤k):∀ {gp:List (Nat×Bool)},aST (F i) gp→aST (F k) gp
 | [],_=>trivial
 | (j,p)::r,q=>by
  simp only[aST] at q ⊢;obtain⟨⟨e,I,hb⟩,z⟩:=q;exact⟨⟨e,aD9 hF hi g f I,hb⟩,aUB hF hi g f z⟩
theorem bJm(hF:aA0 E h env ops F):∀(i:Nat) {o:Oper},ops[i]? = some o→aST (F i) (aGG (F i) o.guard):=by
 intro i
 induction i using Nat.strongRecOn with
 | _ i O =>
  intro o I;have hi:i<ops.length:=by
   grind
  obtain⟨d,h1,q,U,Z⟩:=hF.step i o I;cases N:o.guard with
  | none=>trivial
  | some L =>
   obtain⟨j,p⟩:=L;rw[N] at q;simp only[aGT] at q;simp only[aGG];cases g:aA5 (F i) j with
   | none=>simp_all
   | some e =>
    rw[g] at q;have f:j<i:=by
     rcases Nat.lt_or_ge j i with h|h
     ·exact h
     ·rw[(oU hF i (by omega) j).2 h] at g; cases g
    obtain⟨o',d',J,Y,z⟩:=(oU hF i (by omega) j).1 f;rw[z] at g;cases g;rw[aR7];exact⟨aUB hF (by omega) (by omega) (by omega) (O j f J),⟨_,z,q⟩,trivial⟩
theorem aKX{F:List Ent}:∀ {g1 g:List (Nat×Bool)},aR6 g1 g=true→kE F g→kE F g1
 | [],_,_,_=>trivial
 | (j,p)::r,[],hp,_=>by grind[aR6]
 | (j,p)::r,(k,q)::s,hp,f=>by
  simp only[aR6,Bool.and_eq_true,decide_eq_true_eq,beq_iff_eq] at hp;obtain⟨⟨rfl,rfl⟩,hp⟩:=hp;simp only[kE] at f ⊢;exact⟨f.1,aKX hp f.2⟩
end
end Go.Vc
namespace Go.Vc
open Go.RowKit
structure Sim(E:Env)(M:Perm)(w0:World)(nt:Nat)(ds:List Deferred)(c:Ctx)(env:List (Nat×AV))(h:List Obj)(a:Act)(w:World):Prop where
 good:Good M w0 c h w
 glob:uB E.G c.S w
 env:aKg c w env a.tmps
 size:a.tmps.size=nt
 defers:a.defers=ds
def iU(nt:Nat)(o:Oper):Bool :=
 o.op.operands.all sO&&(match o.dst with|some d=>decide (d<nt)|none=>true)
section
variable {P:Program} {E:Env} {M:Perm} {w0:World} {nt:Nat} {ds:List Deferred} {h:List Obj} {env:List (Nat×AV)} {ops:List Oper} {F:Nat→List Ent} {Q:Exit→Act→World→Prop}
theorem Did.wp{c:Ctx}{o:Oper}{a:Act}{w:World}{av:AV}{next:Act→World→Prop}(hd:Did P M w0 h c o a w av)(z:∀v w' c',aKP P M w0 h c w av v w' c'→next (a.put o.dst v) w'):o.wp P a w next Q:=by
 rcases hd with⟨v,w',c',g,q⟩|⟨f,args,g,hc⟩
 ·unfold Oper.wp; rw[g]; exact z v w' c' q
 ·unfold Oper.wp;rw[g];refine Calls.mono hc ?_;grind
theorem Did.wp'{c:Ctx}{o:Oper}{a:Act}{w:World}{av:AV}{next:Act→World→Prop}(hd:Did P M w0 h c o a w av)(z:∀v w' c',aKP P M w0 h c w av v w' c'→((execOp a.eval o).run P w= .ok (.value v) w'∨ ∃f args,(execOp a.eval o).run P w= .ok (.enter f args) w)→next (a.put o.dst v) w'):o.wp P a w next Q:=by
 rcases hd with⟨v,w',c',g,q⟩|⟨f,args,g,hc⟩
 ·have:=z v w' c' q (.inl g);unfold Oper.wp; rw[g]; exact this
 ·have I:=fun v w' c' q=>z v w' c' q (.inr ⟨f,args,g⟩);unfold Oper.wp;rw[g];refine Calls.mono hc ?_;grind
structure bLc(T:Tab)(o:Oper)(a:Act)(c':Ctx)(w':World)(c'':Ctx)(a'':Act)(w'':World):Prop where
 keeps:jB nothing w' w''
 new:∀b,c''.S b→c'.S b∨w'.heap.size≤b
 put:∃v,a''=a.put o.dst v∧ ∀t,o.op= .alloc t→o.guard=none→ ∃ct,T t=some ct∧v= .pointer (some ⟨w'.heap.size,0,none⟩)∧w''=w'.alloc (.cells (oS ct).cells t (0,0))∧c''=c'
structure Mid(E:Env)(M:Perm)(w0:World)(nt:Nat)(ds:List Deferred)(h:List Obj)(env:List (Nat×AV))(ops:List Oper)(F:Nat→List Ent)(c:Ctx)(w:World)(listed:Nat→Prop)(c':Ctx)(a:Act)(w':World):Prop where
 later:eK c w c' w'
 n:c'.n=c.n∧c'.bl=c.bl
 good:Good M w0 c' h w'
 size:a.tmps.size=nt
 defers:a.defers=ds
 base:∀t,(∀k o,listed k→ops[k]? = some o→o.dst≠some t)→aY c' w' (look env t) (a.tmps.getD t Go.undef)
 ent:∀i e,listed i→aA5 (F ops.length) i=some e→(kE (F ops.length) e.gp→aY c' w' e.av (a.tmps.getD e.d Go.undef))∧(¬kE (F ops.length) e.gp→a.tmps.getD e.d Go.undef=Go.undef)
theorem bDY{a:Act}{d t:Nat}{v:Value}(hd:d<a.tmps.size):(a.put (some d) v).tmps.getD t Go.undef=if d=t then v else a.tmps.getD t Go.undef:=by
 simp only[Act.put];by_cases e:d=t
 all_goals simp_all
theorem bDZ(hF:aA0 E h env ops F){c c' f:Ctx}{w w' g:World}{listed:Nat→Prop}{a:Act}(hm:Mid E M w0 nt ds h env ops F c w listed c' a w'){i:Nat}{o:Oper}(ho:ops[i]? = some o){d:Nat}(hd:o.dst=some d)(O:d<nt)
  (huniq:∀k ok,ops[k]? = some ok→ok.dst=some d→k=i) (hni:¬listed i) (Z:eK c' w' f g) (hn:f.n=c'.n∧f.bl=c'.bl) (hg:Good M w0 f h g) {v:Value}
  (hv:∀e,aA5 (F ops.length) i=some e→(kE (F ops.length) e.gp→aY f g e.av v)∧(¬kE (F ops.length) e.gp→v=Go.undef)) :
  Mid E M w0 nt ds h env ops F c w (fun k=>listed k∨k=i) f (a.put o.dst v) g:=by
 have I:d<a.tmps.size:=by rw[hm.size]; exact O
 rw[hd];refine⟨hm.later.trans Z,⟨hn.1.trans hm.n.1,hn.2.trans hm.n.2⟩,hg,by simp[Act.put,hm.size],hm.defers,fun t ht=>?_,fun k e hk L=>?_⟩
 ·rw[bDY I];have q:d≠t:=fun e=>ht i o (.inr rfl) ho (by grind);rw[if_neg q];exact Z.val (hm.base t fun k ok hk N=>ht k ok (.inl hk) N)
 ·have Y:k<ops.length:=by
   rcases Nat.lt_or_ge k ops.length with h|h
   ·exact h
   ·rw[(oU hF ops.length (Nat.le_refl _) k).2 h] at L; cases L
  obtain⟨ok,dk,k1,k2,k3⟩:=(oU hF ops.length (Nat.le_refl _) k).1 Y;have hed:e.d=dk:=by grind
  rw[bDY I];by_cases U:k=i
  ·grind
  ·have q:d≠e.d:=fun e'=>U (huniq k ok k1 (by simp_all));rw[if_neg q];have J:listed k:=by
    simp_all
   exact⟨fun z=>Z.val ((hm.ent k e J L).1 z),fun z=>(hm.ent k e J L).2 z⟩
theorem bJn{c:Ctx}{w:World}{v:AV}{x:Value}(hb:aHX v=true)(hv:aY c w v x):x= .bool (aUz v):=by
 cases v with
 | val t y =>
  cases t<;>simp[aHX] at hb
  exact aHT hv
 | _=>grind[aHX]
theorem aUC(hE:jC P E)(hF:aA0 E h env ops F)(hok:∀o∈ops,iU nt o=true){c c':Ctx}{w w':World}(hglob:uB E.G c.S w){listed:Nat→Prop}{a:Act}(hm:Mid E M w0 nt ds h env ops F c w listed c' a w'){i:Nat}{o:Oper}(ho:ops[i]? = some o)
  (hni:¬listed i) (hop:∀t,Operand.tmp t∈o.op.operands→ ∀k ok,ops[k]? = some ok→ok.dst=some t→(k<i→listed k)∧(i<k→ ¬listed k)) (hgd:∀j p,o.guard=some (j,p)→listed j)
  (huniq:∀k ok,ops[k]? = some ok→ok.dst=o.dst→k=i) {K:Act→World→Prop} (hK:∀I a'' z,Mid E M w0 nt ds h env ops F c w (fun k=>listed k∨k=i) I a'' z→bLc E.T o a c' w' I a'' z→K a'' z):wpOp P ops.toArray Q i K a w':=by
 have hil:i<ops.length:=by
  grind
 have hokO:=hok o (List.mem_of_getElem? ho);simp only[iU,Bool.and_eq_true] at hokO;obtain⟨d,s1,s2,s3,s4⟩:=hF.step i o ho;have hdn:d<nt:=by simp_all
 obtain⟨o',d',k1,k2,k3⟩:=(oU hF ops.length (Nat.le_refl _) i).1 hil;rw[ho] at k1; cases k1;rw[s1] at k2; cases k2;have hu:∀k ok,ops[k]? = some ok→ok.dst=some d→k=i:=fun k ok h1 h2=>huniq k ok h1 (by grind);have hglob':uB E.G c'.S w':=hglob.mono hm.later.le.S hm.later.same;have hin:=bJm hF i ho;have hwant:Region.wanted o (yielded ops.toArray a.tmps)=true↔kE (F ops.length) (aGG (F i) o.guard):=by
  cases Z:o.guard with
  | none=>simp[Region.wanted,Z,aGG,kE]
  | some jp =>
   obtain⟨j,p⟩:=jp;have hjl:=hgd j p Z;rw[Z] at s2 hin;simp only[aGT] at s2;cases L:aA5 (F i) j with
   | none=>grind
   | some e =>
    rw[L] at s2;have heF:=aD9 hF (by omega) (Nat.le_refl _) (by omega) L;have hji:j<i:=by
     grind[Nat.lt_or_ge,oU]
    obtain⟨oj,dj,j1,j2,j3⟩:=(oU hF i (by omega) j).1 hji;rw[j3] at L;cases L;have hokJ:=hok oj (List.mem_of_getElem? j1);simp only[iU,Bool.and_eq_true,j2,decide_eq_true_eq] at hokJ;have hdj:dj<a.tmps.size:=(by rw[hm.size]; grind);have hy:∀v,a.tmps.getD dj Go.undef=v→yielded ops.toArray a.tmps j=(match v with| .bool b=>some b|_=>none):=by
     intro v hv;have h1:a.tmps[dj]? = some v:=by
      rw[Array.getElem?_eq_getElem hdj];have:a.tmps[dj]=v:=(by simpa [hdj] using hv);rw[this]
     simp only[yielded,List.getElem?_toArray,j1,Option.bind_some,j2,h1];cases v<;>rfl
    have hent:=hm.ent j _ hjl heF;have hgpe:aGG (F i) (some (j,p))=aGG (F j) oj.guard++ [(j,p)]:=by
     show (match aA5 (F i) j with|some e=>e.gp++ [(j,p)]|none=>[(j,p)])=_;rw[j3]
    simp only[Region.wanted,Z];rw[hgpe,aFT];by_cases J:kE (F ops.length) (aGG (F j) oj.guard)
    ·have hb:=bJn s2 (hent.1 J);rw[hy _ hb];have hone:kE (F ops.length) [(j,p)]↔aUz (opA E h env (F j) oj).2=p:=(by simp only[kE,heF,and_true]);grind
    grind[undef]
 unfold wpOp;simp only[List.getElem?_toArray,ho];by_cases hw:Region.wanted o (yielded ops.toArray a.tmps)=true
 ·rw[if_pos hw]
  left
  have J:=hwant.1 hw;have hgpi:=aJL hF (by omega) (Nat.le_refl _) (by omega) hin J;have hcond:=s3 hgpi;have hlook:∀gp,kE (F ops.length) gp→ ∀x,sO x=true→x∈o.op.operands→aY c' w' (aUA E.G (F i) env gp x) (a.eval x):=by
   intro gp J x N hxo;cases x with
   | tmp t =>
    simp only[aUA];cases L:aE0 (F i) t with
    | none =>
     refine hm.base t fun k ok hk hko hdk=>?_;rcases Nat.lt_trichotomy k i with hlt|heq|hgt
     ·exact aNA hF i (by omega) t L k ok hlt hko hdk
     all_goals grind
    | some e =>
     simp only;split
     ·rename_i hp;obtain⟨e1,e2,e3,oe,e4,e5⟩:=aIR hF i (by omega) t e L;have hle:=(hop t hxo e.i oe e4 e5).1 e1;have:=(hm.ent e.i e hle (aD9 hF (by omega) (Nat.le_refl _) (by omega) e3)).1 (aKX hp J);rw[e2] at this;exact this
     ·trivial
   | const v=>exact aFS (env:=[]) (a:=a) (c:=c') (w:=w') (G:=E.G) (fun t=>trivial) hglob' N
   | global g=>exact aFS (env:=[]) (a:=a) (c:=c') (w:=w') (G:=E.G) (fun t=>trivial) hglob' N
   | func f=>exact aFS (env:=[]) (a:=a) (c:=c') (w:=w') (G:=E.G) (fun t=>trivial) hglob' N
  have Y:∀x∈o.op.operands,sO x=true:=Array.all_eq_true_iff_forall_mem.1 hokO.1;have hdid:Did P M w0 h c' o a w' (opA E h env (F i) o).2:=by
   by_cases U:∃p q r,o.op= .pick p q r
   ·obtain⟨p,q,r,U⟩:=U;simp only[opA,U] at hcond ⊢;unfold bGp at hcond ⊢;cases p with
    | tmp t =>
     simp only at hcond ⊢;cases L:aE0 (F i) t with
     | none=>grind
     | some e =>
      simp only[L] at hcond ⊢;split at hcond
      ·rename_i qb xb yb h1 h2 h3;have hp:aR6 e.gp (aGG (F i) o.guard)=true:=by
        grind
       rw[if_pos hp] at h1;obtain⟨e1,e2,e3,oe,e4,e5⟩:=aIR hF i (by omega) t e L;have e3F:=aD9 hF (by omega) (Nat.le_refl _) (by omega) e3;have hle:=(hop t (by grind[Op.operands]) e.i oe e4 e5).1 e1;have hc:=(hm.ent e.i e hle e3F).1 (aKX hp J);rw[e2,h1] at hc;have hcv:=aHT hc;simp only[h1,if_pos hp,h2,h3];have hcb:aUz e.av=qb:=(by rw[h1]; rfl);have hq:∀pol,qb=pol→kE (F ops.length) (aGG (F i) o.guard++ [(e.i,pol)]):=fun pol hpol=>by
        rw[aFT];refine⟨J,?_,trivial⟩;grind
       cases qb with
       | true =>
        have N:=hlook _ (hq true rfl) q (Y q (by grind[Op.operands])) (by grind[Op.operands]);rw[h2] at N;refine Did.of_value (v:=a.eval q) hm.good ?_ N;have:a.eval (.tmp t)= .bool true:=hcv;simp[execOp,U,this,asBool]
       | false =>
        have N:=hlook _ (hq false rfl) r (Y r (by grind[Op.operands])) (by grind[Op.operands]);rw[h3] at N;refine Did.of_value (v:=a.eval r) hm.good ?_ N;have:a.eval (.tmp t)= .bool false:=hcv;simp[execOp,U,this,asBool]
      grind
    | _=>grind
   ·have e:opA E h env (F i) o=pv E h (aUA E.G (F i) env (aGG (F i) o.guard)) o:=by
     grind[opA,absurd]
    rw[e] at hcond ⊢;exact bLb hE hm.good hglob' (fun x N=>hlook _ J x (Y x N) N) hcond
  have hput:∀v z I,aKP P M w0 h c' w' (opA E h env (F i) o).2 v z I→Mid E M w0 nt ds h env ops F c w (fun k=>listed k∨k=i) I (a.put o.dst v) z:=fun v z I O=>by
   refine bDZ hF hm ho s1 hdn hu hni O.later O.n O.good fun e L=>?_;rw[k3] at L;cases L;exact⟨fun _=>O.val,fun hn=>absurd J hn⟩
  by_cases hal:∃t,o.op= .alloc t
  ·obtain⟨t,ht⟩:=hal;simp only[opA,pv,ht] at hcond;split at hcond
   ·rename_i ct hT;have hrun:=aXF (w:=w') hE.T hT hcond (o:=o) (a:=a) ht;have hav:(opA E h env (F i) o).2= .junk:=(by grind[opA,pv]);have O:aKP P M w0 h c' w' (opA E h env (F i) o).2 _ _ c':=hav▸aR5 (P:=P) (ob:=.cells (oS ct).cells t (0,0)) hm.good;unfold Oper.wp;rw[hrun];refine hK c' _ _ (hput _ _ _ O) ⟨O.keeps,O.new,_,rfl,fun t' ht' _=>?_⟩;grind
   grind
  ·exact Did.wp' hdid fun v z I O _=>hK I _ z (hput v z I O) ⟨O.keeps,O.new,v,rfl,fun t ht=>absurd ⟨t,ht⟩ hal⟩
 ·rw[if_neg hw];refine hK c' _ w' ?_ ⟨.refl _ _,fun b hb=>.inl hb,Go.undef,rfl,fun t ht hgn=>absurd (by simp[Region.wanted,hgn]) hw⟩;refine bDZ hF hm ho s1 hdn hu hni (.refl _ _) ⟨rfl,rfl⟩ hm.good fun e L=>?_;grind
end
end Go.Vc
namespace Go.Vc
open Go.RowKit
theorem aKY:∀(f:List Ent) (env:List (Nat×AV)) (t:Nat),look (oK f env) t=match aE0 f t with|some e=>(match e.gp with| []=>e.av|_::_=>.junk)|none=>look env t
 | [],env,t=>rfl
 | e::r,env,t=>by
  simp only[oK,look,aE0];split
  ·rfl
  ·exact aKY r env t
def aJM(ops:List Oper):Bool :=
 (List.range ops.length).all fun i=>(List.range ops.length).all fun k=>decide (i=k)||(match ops[i]?,ops[k]? with|some o,some ok=>decide (o.dst≠ok.dst)||o.dst.isNone|_,_=>true)
def aYB(ops:List Oper):Bool :=
 (List.range ops.length).all fun i=>match ops[i]? with
  | none=>true
  | some o =>
   (o.after.toList.all fun e=> !Region.binds .any e||decide (e.on<i)) &&
   (match o.guard with|none=>true|some (j,_)=>o.after.toList.any fun e=>Region.binds .any e&&decide (e.on=j)) &&
   (o.op.operands.toList.all fun x=>match x with
    | .tmp t=>(List.range ops.length).all fun k=>match ops[k]? with
     | none=>true
     | some ok=>decide (ok.dst≠some t)||decide (k=i)||(decide (k<i)&&o.after.toList.any fun e=>Region.binds .any e&&decide (e.on=k))||(decide (i<k)&&ok.after.toList.any fun e=>Region.binds .any e&&decide (e.on=i))
    | _=>true)
theorem aTV{ops:List Oper}(h:aJM ops=true){i k:Nat}{o ok:Oper}(g:ops[i]? = some o)(q:ops[k]? = some ok)(hd:ok.dst=o.dst)(hs:o.dst≠none):k=i:=by
 simp only[aJM,List.all_eq_true,List.mem_range] at h;have hi:i<ops.length:=by
  grind
 have f:k<ops.length:=by
  grind
 have:=h i hi k f;simp_all
section
variable {P:Program} {E:Env} {M:Perm} {w0:World} {nt:Nat} {ds:List Deferred} {h:List Obj} {env:List (Nat×AV)} {ops:List Oper} {F:Nat→List Ent} {Q:Exit→Act→World→Prop}
theorem aEa{c c':Ctx}{w w':World}{I l2:Nat→Prop}(J:∀k,k<ops.length→(I k↔l2 k))(hF:aA0 E h env ops F){a:Act}(hm:Mid E M w0 nt ds h env ops F c w I c' a w'):Mid E M w0 nt ds h env ops F c w l2 c' a w':=by
 have q:∀k o,ops[k]? = some o→k<ops.length:=fun k o g=>by
  grind
 refine⟨hm.later,hm.n,hm.good,hm.size,hm.defers,fun t ht=>hm.base t fun k o L g=>ht k o ((J k (q k o g)).1 L) g,fun i e hi f=>?_⟩;have z:i<ops.length:=by
  rcases Nat.lt_or_ge i ops.length with h|h
  ·exact h
  ·rw[(oU hF ops.length (Nat.le_refl _) i).2 h] at f; cases f
 exact hm.ent i e ((J i z).2 hi) f
theorem aQB{c:Ctx}{a:Act}{w:World}(hs:Sim E M w0 nt ds c env h a w):Mid E M w0 nt ds h env ops F c w (fun _=>False) c a w :=
 ⟨.refl _ _,⟨rfl,rfl⟩,hs.good,hs.size,hs.defers,fun t _=>hs.env t,fun i e hi=>hi.elim⟩
theorem aYC(hF:aA0 E h env ops F){c c':Ctx}{a:Act}{w w':World}(J:uB E.G c.S w)(hm:Mid E M w0 nt ds h env ops F c w (fun k=>k<ops.length) c' a w'):Sim E M w0 nt ds c' (oK (F ops.length) env) h a w':=by
 refine⟨hm.good,J.mono hm.later.le.S hm.later.same,fun t=>?_,hm.size,hm.defers⟩;rw[aKY];cases g:aE0 (F ops.length) t with
 | none=>exact hm.base t fun k o z q=>aNA hF _ (Nat.le_refl _) t g k o z q
 | some e =>
  obtain⟨e1,L,I,_⟩:=aIR hF _ (Nat.le_refl _) t e g;simp only;split
  ·rename_i f;have:=(hm.ent e.i e e1 I).1 (by rw[f]; trivial);simp_all
  ·trivial
theorem aON(N:jC P E)(hF:aA0 E h env ops F)(f:∀o∈ops,iU nt o=true)(O:aJM ops=true){c:Ctx}{w:World}(hglob:uB E.G c.S w)
  (hQ:∀c' U w',Mid E M w0 nt ds h env ops F c w (fun k=>k<ops.length) c' U w'→Q .normal U w'):∀(m i:Nat),i+m=ops.length→ ∀(c':Ctx) (a:Act) (w':World),Mid E M w0 nt ds h env ops F c w (fun k=>k<i) c' a w'→wpOps P ops.toArray Q (List.range' i m) a w'
 | 0,i,hi,c',a,w',hm=>by
  simp only[List.range'_zero,wpOps];have:i=ops.length:=by omega
  subst this;grind
 | m+1,i,hi,c',a,w',hm=>by
  rw[List.range'_succ,wpOps_cons];have g:ops[i]? = some ops[i]:=List.getElem?_eq_getElem (by omega);obtain⟨d,s1,J,_,_⟩:=hF.step i _ g;refine aUC N hF f hglob hm g (Nat.lt_irrefl i) (fun t _ k ok _ _=>⟨fun h=>h,fun h1 h2=>by omega⟩) (fun j p Z=>?_) (fun k ok Y hd=>aTV O g Y hd (by simp_all)) fun q z I L _=>?_
  ·rw[Z] at J;simp only[aGT] at J;rcases Nat.lt_or_ge j i with h|h
   ·exact h
   ·rw[(oU hF i (by omega) j).2 h] at J; simp_all
  ·exact aON N hF f O hglob hQ m (i+1) (by omega) q z I (aEa (fun k _=>by omega) hF L)
theorem bAq(I:jC P E)(q:∀o∈ops,iU nt o=true)(J:aJM ops=true){c:Ctx}{a:Act}{w:World}(hs:Sim E M w0 nt ds c env h a w){K:List Ent→Prop}(hv:vcA E h env ops 0 [] K){id:Nat}
  (N:∀f c' g w',K f→eK c w c' w'→c'.n=c.n→Sim E M w0 nt ds c' (oK f env) h g w'→Q .normal g w'):(Code.region id ops.toArray false).wp P Q a w:=by
 obtain⟨F,L,U,z⟩:=aIQ ops 0 [] K hv;have hF:aA0 E h env ops F:=⟨L,fun i o O=>by simp_all⟩;simp only[Nat.zero_add] at z;refine wp_region ?_;have:=aON (Q:=Q) I hF q J hs.glob (fun c' g w' hm=>N _ c' g w' z hm.later hm.n.1 (aYC hF hs.glob hm)) ops.length 0 (by omega) c a w (aEa (fun k _=>by simp) hF (aQB hs));grind[List.range_eq_range']
theorem aYD(hE:jC P E)(hF:aA0 E h env ops F)(hok:∀o∈ops,iU nt o=true)(hu:aJM ops=true)(z:aYB ops=true){c:Ctx}{w:World}(hglob:uB E.G c.S w)
  (hQ:∀c' a' w',Mid E M w0 nt ds h env ops F c w (fun k=>k<ops.length) c' a' w'→Q .normal a' w'):∀(f:Nat) (listed:Array Bool),listed.size=ops.length→((List.range ops.length).filter fun k=> !listed.getD k false).length=f →
   (∀k o,ops[k]? = some o→listed.getD k false=true→ ∀e∈o.after,Region.binds .any e=true→listed.getD e.on false=true) →
   ∀(c':Ctx) (a:Act) (w':World),Mid E M w0 nt ds h env ops F c w (fun k=>listed.getD k false=true) c' a w'→wpAny P .any ops.toArray Q f listed a w':=by
 have hanyI:∀i o,ops[i]? = some o→(∀e∈o.after,Region.binds .any e=true→e.on<i)∧(∀j p,o.guard=some (j,p)→ ∃e∈o.after,Region.binds .any e=true∧e.on=j) ∧
   (∀t,Operand.tmp t∈o.op.operands→ ∀k ok,ops[k]? = some ok→ok.dst=some t→k=i∨(k<i∧ ∃e∈o.after,Region.binds .any e=true∧e.on=k)∨(i<k∧ ∃e∈ok.after,Region.binds .any e=true∧e.on=i)):=by
  intro i o I;have hi:i<ops.length:=by
   grind
  simp only[aYB,List.all_eq_true,List.mem_range] at z;have:=z i hi;rw[I] at this;simp only[Bool.and_eq_true,List.all_eq_true,Array.mem_toList_iff] at this;obtain⟨⟨h1,h2⟩,h3⟩:=this;refine⟨fun e he hb=>?_,fun j p hg=>?_,fun t ht k ok g hd=>?_⟩
  ·grind
  ·grind
  ·have:=h3 _ ht;simp only[List.all_eq_true,List.mem_range] at this;have Y:k<ops.length:=by
    grind
   have:=this k Y;rw[g] at this;simp only[hd,ne_eq,not_true_eq_false,decide_false,Bool.false_or,Bool.or_eq_true,decide_eq_true_eq,Bool.and_eq_true,List.any_eq_true,Array.mem_toList_iff] at this;rcases this with (h|h)|h
   all_goals simp_all
 intro f
 induction f with
 | zero =>
  intro listed hsz Z hcl c' a w' hm;have q:∀k,k<ops.length→listed.getD k false=true:=fun k g=>by
   simp_all
  refine⟨?_,hQ c' a w' (aEa (fun k g=>⟨fun _=>g,fun _=>q k g⟩) hF hm)⟩;rw[List.eq_nil_iff_forall_not_mem];grind[mem_ready,Nat.lt_or_ge,List.getElem?_eq_none]
 | succ f ih =>
  intro listed hsz Z hcl c' a w' hm;refine⟨fun hr=>?_,fun i hi=>?_⟩
  ·exfalso;have hex:∃k,k<ops.length∧listed.getD k false=false:=by
    have hne:((List.range ops.length).filter fun k=> !listed.getD k false)≠ []:=fun e=>(by grind);obtain⟨k,g⟩:=List.exists_mem_of_ne_nil _ hne;grind
   have U:∃k,(k<ops.length∧listed.getD k false=false)∧ ∀j,j<k→ ¬(j<ops.length∧listed.getD j false=false):=by
    obtain⟨k,g⟩:=hex
    induction k using Nat.strongRecOn with
    | _ k ihk =>
     grind
   obtain⟨k,⟨g,hun⟩,hlow⟩:=U;have O:k∈Region.ready .any ops.toArray listed:=by
    rw[mem_ready];have J:k<listed.size:=(by omega);refine⟨by grind,ops[k],by simp[g],fun e he hb=>?_⟩;grind
   grind
  ·obtain⟨h1,o,I,q⟩:=mem_ready.1 hi;have I:ops[i]? = some o:=(by grind);have hil:i<ops.length:=by
    grind
   have J:i<listed.size:=(by omega);have hni:¬listed.getD i false=true:=(by grind);obtain⟨a1,a2,a3⟩:=hanyI i o I;obtain⟨d,s1,_,_,_⟩:=hF.step i _ I;refine aUC hE hF hok hglob hm I hni (fun t ht k ok g hd=>?_) (fun j p hg=>?_) (fun k ok g hd=>aTV hu I g hd (by grind)) fun c'' a'' w'' hm' _=>?_
   ·rcases a3 t ht k ok g hd with h|⟨h,e,he,hb,hon⟩|⟨h,e,he,hb,hon⟩
    all_goals grind
   ·grind
   ·have L:∀k,(listed.setIfInBounds i true).getD k false=true↔(listed.getD k false=true∨k=i):=fun k=>by
     by_cases e:i=k
     ·subst e; simp[J]
     ·rw[getD_set_ne false e];grind
    refine ih (listed.setIfInBounds i true) (by grind) ?_ (fun k o' g Y e he hb=>?_) c'' a'' w'' (aEa (fun k _=>(L k).symm) hF hm')
    ·have N:((List.range ops.length).filter fun k=> !(listed.setIfInBounds i true).getD k false)=((List.range ops.length).filter fun k=> !listed.getD k false).filter (fun k=>decide (k≠i)):=by
      rw[List.filter_filter];grind
     rw[N];have hnd:((List.range ops.length).filter fun k=> !listed.getD k false).Nodup:=List.nodup_range.filter _;have O:i∈((List.range ops.length).filter fun k=> !listed.getD k false):=by
      grind
     have:=hnd.erase_eq_filter i;grind
    grind
theorem aOO(hE:jC P E)(z:P.follows .mixedOrders=true)(N:∀o∈ops,iU nt o=true)(Y:aJM ops=true)(q:aYB ops=true){c:Ctx}{a:Act}{w:World}(hs:Sim E M w0 nt ds c env h a w){K:List Ent→Prop}(hv:vcA E h env ops 0 [] K){id:Nat}
  (hQ:∀I c' J w',K I→eK c w c' w'→c'.n=c.n→Sim E M w0 nt ds c' (oK I env) h J w'→Q .normal J w'):(Code.region id ops.toArray true).wp P Q a w:=by
 obtain⟨F,Z,f2,O⟩:=aIQ ops 0 [] K hv;have hF:aA0 E h env ops F:=⟨Z,fun i o U=>by simp_all⟩;simp only[Nat.zero_add] at O;refine wp_region_any z ?_;have f:eK c w c { w with drawn:=w.drawn+1 }:=⟨.refl _,fun b hb=>rfl⟩;have g:Sim E M w0 nt ds c env h a { w with drawn:=w.drawn+1 } :=
  ⟨hs.good.step f rfl rfl ⟨rfl,rfl,rfl,Nat.le_refl _,fun _ _ _=>rfl⟩ (fun _ _ _ _ _=>rfl) hs.good.sfin (fun _ hb=>.inl hb),uB.mono (w:=w) (w':={ w with drawn:=w.drawn+1 }) (fun _ hb=>hb) f.same hs.glob,hs.env.keep f,hs.size,hs.defers⟩
 refine aYD (Q:=Q) hE hF N Y q g.glob (fun c' J w' hm=>hQ _ c' J w' O (f.trans hm.later) hm.n.1 (aYC hF g.glob hm)) _ _ (by simp) ?_ (fun k o U hl=>?_) c a _ (aEa (fun k L=>?_) hF (aQB g))
 ·rw[List.filter_eq_self.2 (fun k L=>by simp_all)]; simp
 ·exfalso;by_cases L:k<ops.length<;>simp[L] at hl
 ·simp[L]
end
end Go.Vc
namespace Go.Vc
open Go.RowKit
def Ctx.push(c:Ctx)(v:Value):Ctx:=⟨c.S,fun i=>if i=c.n then v else c.hd i,c.n+1,c.bl⟩
theorem Ctx.le_push(c:Ctx)(v:Value):c.le (c.push v):=⟨fun _ h=>h,Nat.le_succ _,fun i hi=>by grind[push,Nat.ne_of_lt]⟩
section
variable {P:Program} {T:Tab} {M:Perm} {w0:World} {c:Ctx} {h:List Obj} {w:World}
theorem Good.push(g:Good M w0 c h w){w':World}(U:jB nothing w w'){o:Obj}{hv:Value}(hob:aII (c.push hv) w' c.n o)(hb:∀b,fI (c.push hv) c.n o b→w.heap.size≤b∧b<w'.heap.size) :
  Good M w0 (c.push hv) (h++ [o]) w'∧eK c w (c.push hv) w':=by
 have L:eK c w (c.push hv) w':=⟨c.le_push hv,fun b N=>U.block b (g.sfin b N) (fun f=>f)⟩;have hcase:∀i o',(h++ [o])[i]? = some o'→(h[i]? = some o'∧i<c.n)∨(i=c.n∧o'=o):=fun i o' J=>by
  rw[g.n];grind
 refine⟨⟨by simp[Ctx.push,g.n],g.keeps.trans U.any,fun b N=>Nat.lt_of_lt_of_le (g.sfin b N) U.size,g.src,fun i o' J=>?_,fun i o' b J q=>?_,fun i j oi oj b hi hj z I=>?_,aCm g.root L.le⟩,L⟩
 ·rcases hcase i o' J with⟨J,hi⟩|⟨rfl,rfl⟩
  ·exact(g.objs i o' J).keep L hi rfl (fun b q=>U.block b (g.own i o' b J q).2.1 (fun f=>f))
  omega
 ·rcases hcase i o' J with⟨J,hi⟩|⟨rfl,rfl⟩
  ·rw[iF L.le rfl hi] at q;obtain⟨h1,h2,h3⟩:=g.own i o' b J q;exact⟨h1,Nat.lt_of_lt_of_le h2 U.size,h3⟩
  ·obtain⟨h1,h2⟩:=hb b q;exact⟨.inl (Nat.le_trans g.keeps.size h1),h2,fun hS=>by have:=g.sfin b hS; omega⟩
 ·rcases hcase i oi hi with⟨Z,Y⟩|⟨ei,eo⟩<;>rcases hcase j oj hj with⟨hj',O⟩|⟨ej,eo'⟩
  ·rw[iF L.le rfl Y] at z;rw[iF L.le rfl O] at I;exact g.sep i j oi oj b Z hj' z I
  ·subst ej; subst eo';rw[iF L.le rfl Y] at z;have:=(g.own i oi b Z z).2.1;grind
  ·subst ei; subst eo;rw[iF L.le rfl O] at I;have:=(g.own j oj b hj' I).2.1;grind
  omega
theorem Good.modifyG(f:Good M w0 c h w){i:Nat}{o o':Obj}{b:Nat}(U:h[i]? = some o)(hb:fI c i o b){w':World}(hos:w'.os=w.os)(htp:w'.tape=w.tape)(Y:w'.output=w.output)(J:w'.heap.size=w.heap.size)
  (hsame:∀k,k≠b→w'.heap[k]? = w.heap[k]?) (hob:aII c w' i o') (N:∀b',fI c i o' b'→fI c i o b') :
  Good M w0 c (h.set i o') w'∧eK c w c w':=by
 obtain⟨hB,hblt,hnS⟩:=f.own i o b U hb;have hl:eK c w c w':=⟨.refl _,fun k L=>hsame k (fun e=>hnS (e▸L))⟩;have hil:i<h.length:=yP U;have hcase:∀j g,(h.set i o')[j]? = some g→(j≠i∧h[j]? = some g)∨(j=i∧g=o'):=fun j g z=>by
  grind
 refine⟨⟨by simp[f.n],⟨hos.trans f.keeps.os,htp.trans f.keeps.tape,Y.trans f.keeps.output,by rw[J]; exact f.keeps.size,fun k L hM=>?_⟩,fun k L=>by rw[J]; exact f.sfin k L,f.src,fun j g z=>?_,fun j g b' z q=>?_,fun j k g ok b' z L q O=>?_,f.root⟩,hl⟩
 ·have I:k≠b:=by
   grind
  rw[hsame k I]; exact f.keeps.block k L hM
 ·rcases hcase j g z with⟨I,z⟩|⟨rfl,rfl⟩
  ·refine(f.objs j g z).keep hl (by rw[f.n]; grind) rfl (fun b' hb''=>hsame b' (fun e=>I ?_));subst e;exact f.sep j i g o b' z U hb'' hb
  omega
 ·rw[J];rcases hcase j g z with⟨I,z⟩|⟨rfl,rfl⟩
  ·exact f.own j g b' z q
  ·exact f.own _ _ b' U (N b' q)
 ·rcases hcase j g z with⟨hnj,hj'⟩|⟨ej,eo⟩<;>rcases hcase k ok L with⟨hnk,Z⟩|⟨ek,eo'⟩
  ·exact f.sep j k g ok b' hj' Z q O
  ·subst ek; subst eo';exact absurd (f.sep j k g o b' hj' U q (N b' O)) hnj
  ·subst ej; subst eo;exact absurd (f.sep k j ok o b' Z U O (N b' q)) hnk
  omega
theorem Good.modify(L:Good M w0 c h w){i:Nat}{o o':Obj}{b:Nat}(J:h[i]? = some o)(hb:fI c i o b){w':World}(g:w'.os=w.os)(q:w'.tape=w.tape)(f:w'.output=w.output)(I:w'.heap.size=w.heap.size)
  (hsame:∀k,k≠b→w'.heap[k]? = w.heap[k]?) (z:aII c w' i o') (N:∀b',fI c i o' b'→b'=b) :
  Good M w0 c (h.set i o') w'∧eK c w c w' :=
 L.modifyG J hb g q f I hsame z fun b' h'=>by grind
def freeze(i:Nat)(h:List Obj):List Obj :=
 match h[i]? with
 | some (.row _ t f)=>h.set i (.frz t f)
 | some (.tre _ _ t f)=>h.set i (.frz t f)
 | _=>h
def Ctx.moreP(c:Ctx)(p:Nat→Prop):Ctx:=⟨fun b=>c.S b∨p b,c.hd,c.n,c.bl⟩
theorem Good.giveP(q:Good M w0 c h w){i:Nat}{o:Obj}(U:h[i]? = some o){t:Ty}{xs:List t.den}(Z:bB w (c.moreP (fI c i o)).S (.sl t) xs [c.hd i]):∃c',eK c w c' w∧c'.n=c.n∧Good M w0 c' (h.set i (.frz t xs)) w:=by
 have N:c.le (c.moreP (fI c i o)):=⟨fun b hb=>.inl hb,Nat.le_refl _,fun _ _=>rfl⟩;have hl:eK c w (c.moreP (fI c i o)) w:=⟨N,.refl _ _⟩;have hil:i<h.length:=yP U;have hcase:∀j f,(h.set i (.frz t xs))[j]? = some f→(j≠i∧h[j]? = some f)∨(j=i∧f= .frz t xs):=fun j f g=>by
  grind
 have J:∀j f,fI (c.moreP (fI c i o)) j f=fI c j f:=fun j f=>by rfl
 refine⟨_,hl,rfl,by simp[Ctx.moreP,q.n],q.keeps,fun b hb=>?_,fun b hb Y=>?_,fun j f g=>?_,fun j f b g hb=>?_,fun j k f ok b g hk z I=>?_,aCm q.root N⟩
 ·rcases hb with hb|hb
  ·exact q.sfin b hb
  ·exact(q.own i _ b U hb).2.1
 ·rcases hb with hb|hb
  ·exact q.src b hb Y
  ·rcases (q.own i _ b U hb).1 with h1|h1
   all_goals grind
 ·rcases hcase j f g with⟨L,g⟩|⟨rfl,rfl⟩
  ·exact(q.objs j f g).keep hl (by rw[q.n]; grind) rfl (fun _ _=>rfl)
  ·exact Z
 ·rcases hcase j f g with⟨L,g⟩|⟨rfl,rfl⟩
  ·rw[J] at hb;obtain⟨h1,h2,h3⟩:=q.own j f b g hb;refine⟨h1,h2,fun O=>?_⟩;rcases O with O|O
   ·grind
   ·exact L (q.sep j i f _ b g U hb O)
  ·cases hb
 ·rcases hcase j f g with⟨hnj,g⟩|⟨rfl,rfl⟩
  ·rcases hcase k ok hk with⟨hnk,hk⟩|⟨rfl,rfl⟩
   ·rw[J] at z I;exact q.sep j k f ok b g hk z I
   ·cases I
  ·cases z
def Ctx.more(c:Ctx)(b? : Option Nat):Ctx:=⟨fun b=>c.S b∨b? = some b,c.hd,c.n,c.bl⟩
theorem Good.freeze(g:Good M w0 c h w)(i:Nat):∃c',eK c w c' w∧c'.n=c.n∧Good M w0 c' (freeze i h) w:=by
 unfold Vc.freeze;split
 ·rename_i e t z f;exact g.giveP f (aCl.toC (g.objs i _ f) (fun b hb=>.inl hb) (fun b hb=>.inr hb))
 ·rename_i e m t z f;obtain⟨B,I,_,q⟩:=g.objs i _ f;exact g.giveP f (mD.toC (fun b hb=>.inl hb) _ _ _ _ _ (fun b hb=>.inr (q b hb)) I)
 ·exact⟨c,.refl _ _,rfl,g⟩
def freezeAll:List Nat→List Obj→List Obj
 | [],h=>h
 | i::r,h=>freezeAll r (freeze i h)
theorem Good.freezeAll:∀(I:List Nat) {c:Ctx} {h:List Obj},Good M w0 c h w→ ∃c',eK c w c' w∧c'.n=c.n∧Good M w0 c' (freezeAll I h) w
 | [],c,h,f=>⟨c,.refl _ _,rfl,f⟩
 | i::r,c,h,f=>by
  obtain⟨c1,N,L,g⟩:=f.freeze i;obtain⟨O,q,z,J⟩:=Good.freezeAll r g;exact⟨O,N.trans q,z.trans L,J⟩
def wY:(t:Ty)→t.den→List AV
 | .pair a r,x=>.val a x.1::wY r x.2
 | .expr,x=>[.val (.i .i64) x.kind,.val .str x.text,.val (.sl .expr) x.l]
 | _,_=>[]
def aQC(v:AV)(k:Nat)(u:AV):AV :=
 match v with
 | .val t x=>aKN t ((wY t x).set k u)
 | .agg f=>.agg (f.set k u)
 | _=>.junk
def aGU(v:AV)(i:Nat)(u:AV):AV :=
 match v with
 | .val (.arr n t) f=>match AV.as [] t u with
  | some x=>.val (.arr n t) (f.set i x)
  | none=>.junk
 | _=>.junk
def aEb:AV→List Step→AV→Prop×AV
 | v,[],u=>(v.solid=true∧u.solid=true∧v.nc=u.nc,u)
 | v,.fld off k::p,u=>(v.solid=true∧off=(eH v k).2∧(aEb (eH v k).1 p u).1∧(aEb (eH v k).1 p u).2.solid1=true∧aQC v k (aEb (eH v k).1 p u).2≠ .junk,aQC v k (aEb (eH v k).1 p u).2)
 | v,.idx s i::p,u=>((elemOf v i).1∧s=aXA v∧(aEb (elemOf v i).2 p u).1∧aGU v i (aEb (elemOf v i).2 p u).2≠ .junk,aGU v i (aEb (elemOf v i).2 p u).2)
def Ty.strB:Ty→Bool
 | .unit=>true
 | .pair _ r=>r.strB
 | .expr=>true
 | _=>false
theorem aR8:∀(t:Ty) (x:t.den) (cs:List Value),t.strB=true→bB w c.S t x cs→nF c w (wY t x) cs∧(∀v∈wY t x,v.solid1=true)
 | .unit,_,cs,_,f=>⟨f,fun v hv=>by cases hv⟩
 | .pair a r,x,cs,hs,⟨c1,I,e,N,L⟩=>by
  obtain⟨O,Y⟩:=aR8 r x.2 I hs L;refine⟨⟨c1,I,e,N,O⟩,fun v hv=>?_⟩;rcases List.mem_cons.1 hv with rfl|hv
  ·rfl
  simp_all
 | .bool,_,_,hs,_=>by grind[Ty.strB]
 | .u _,_,_,hs,_=>by grind[Ty.strB]
 | .i _,_,_,hs,_=>by grind[Ty.strB]
 | .str,_,_,hs,_=>by grind[Ty.strB]
 | .sl _,_,_,hs,_=>by grind[Ty.strB]
 | .arr _ _,_,_,hs,_=>by grind[Ty.strB]
 | .expr,x,cs,_,f=>by
  have h0:=aOA (c:=c) .expr x 0 cs f (by simp[aKi]);refine⟨?_,fun v hv=>by simp[wY] at hv; rcases hv with rfl|rfl|rfl<;>rfl⟩;cases f with
  | mk k s l a len q g z hs J hc hm f U =>
   exact⟨[_],[_,_],rfl,⟨rfl,rfl,z.1,z.2⟩,[_],[_],rfl,⟨s,rfl,rfl,hs⟩,[_],[],rfl,⟨a,len,q,rfl,J,hc,hm,U.imp id fun⟨b,off,e,hb,hcell⟩=>⟨b,off,e,hb,fun i hi=>⟨g i,f i hi,hcell i hi⟩⟩⟩,rfl⟩
 | .rp _,_,_,hs,_=>by grind[Ty.strB]
 | .clo _ _,_,_,hs,_=>by grind[Ty.strB]
theorem aJN:∀(t:Ty) (x:t.den) (k:Nat),aKi t x k≠ .junk→t.strB=true→k<(wY t x).length∧(eH (.agg (wY t x)) k)=(aKi t x k,t.fieldOff k)
 | .pair a r,x,0,_,_=>⟨by simp[wY],rfl⟩
 | .pair a r,x,k+1,f,hs=>by
  obtain⟨g,q⟩:=aJN r x.2 k f hs;refine⟨by simp[wY,g],?_⟩;simp only[wY,eH,q];rfl
 | .unit,x,k,f,_=>absurd rfl f
 | .expr,x,k,f,_=>by
  match k,f with
  | 0,_=>exact⟨by simp[wY],rfl⟩
  | 1,_=>exact⟨by simp[wY],rfl⟩
  | 2,_=>exact⟨by simp[wY],rfl⟩
  | k+3,f=>exact absurd rfl f
 | .bool,x,k,f,hs=>absurd rfl f
 | .u _,x,k,f,hs=>absurd rfl f
 | .i _,x,k,f,hs=>absurd rfl f
 | .str,x,k,f,hs=>absurd rfl f
 | .sl _,x,k,f,hs=>absurd rfl f
 | .arr _ _,x,k,f,hs=>absurd rfl f
 | .rp _,x,k,f,hs=>absurd rfl f
 | .clo _ _,x,k,f,hs=>absurd rfl f
theorem aTW:∀ {vs:List AV} {cs:List Value} {k:Nat},nF c w vs cs→(∀v∈vs,v.solid1=true)→k<vs.length→ ∃pre ds post,cs=pre++ds++post∧pre.length=(eH (.agg vs) k).2∧aM c w (eH (.agg vs) k).1 ds∧ ∀(u:AV) (f:List Value),aM c w u f→nF c w (vs.set k u) (pre++f++post)
 | [],_,_,_,_,N=>by grind
 | v::r,cs,0,I,hs,_=>by
  obtain⟨c1,L,e,z,J⟩:=I;exact⟨[],c1,L,by simp_all,rfl,z,fun u f q=>by simp only[List.set_cons_zero,nF,List.nil_append]; grind⟩
 | v::r,cs,k+1,I,hs,N=>by
  obtain⟨c1,L,e,z,J⟩:=I;obtain⟨pre,ds,post,O,hp,hd,g⟩:=aTW (k:=k) J (fun u q=>hs u (by simp[q])) (by simp_all);refine⟨c1++pre,ds,post,by simp_all,?_,hd,fun u f q=>?_⟩
  ·rw[List.length_append,aNw (hs v (by simp)) z,hp]; rfl
  ·simp only[List.set_cons_succ,nF];exact⟨c1,pre++f++post,by simp,z,g u f q⟩
theorem bFc{v u:AV}{k:Nat}{cs:List Value}(hs:v.solid=true)(I:aM c w v cs)(z:∀t x,v= .val t x→t.strB=true)(L:(eH v k).1≠ .junk) :
  ∃pre ds post,cs=pre++ds++post∧pre.length=(eH v k).2∧aM c w (eH v k).1 ds∧ ∀f,aM c w u f→aM c w (aQC v k u) (pre++f++post):=by
 cases v with
 | val t x =>
  have g:=z t x rfl;obtain⟨q1,Y⟩:=aR8 (c:=c) (w:=w) t x cs g I;obtain⟨O,N⟩:=aJN t x k (by grind[eH]) g;obtain⟨pre,ds,post,e,hp,hd,q⟩:=aTW q1 Y O;rw[N] at hp hd;refine⟨pre,ds,post,e,by grind[eH],by grind[eH],fun f U=>?_⟩;simp only[aQC];have:=aOH (t:=t) (c:=c) (w:=w) (cells:=(pre++f++post).toArray) (by simpa using q u f U);have Z:zK c w (aKN t ((wY t x).set k u)) (.agg (pre++f++post).toArray):=by
   revert this;unfold aKN;split<;>exact fun h=>h
  simpa [Value.cells] using Z.1
 | agg J =>
  simp only[aM] at I;simp only[AV.solid,List.all_eq_true] at hs;have hk:k<J.length:=by
   rcases Nat.lt_or_ge k J.length with h|h
   ·exact h
   ·exfalso; apply L;clear hs I L z
    induction J generalizing k with
    | nil=>simp[eH]
    | cons v r ih=>cases k with
     | zero=>simp at h
     | succ k=>grind[eH]
  grind[aTW,aQC,aM]
 | _=>grind[eH]
theorem bCv{v u:AV}{i:Nat}{cs:List Value}(Z:aM c w v cs)(h:(elemOf v i).1)(z:aGU v i u≠ .junk) :
  ∃pre ds post,cs=pre++ds++post∧pre.length=i*aXA v∧aM c w (elemOf v i).2 ds∧ ∀g,g.length=ds.length→aM c w u g→aM c w (aGU v i u) (pre++g++post):=by
 cases v with
 | val t x =>
  cases t with
  | arr n t =>
   simp only[elemOf] at h ⊢;obtain⟨hn,f,e,hl,q⟩:=Z;have I:i<f.length:=(by omega);obtain⟨pre,post,L,hp⟩:=oT (t:=t) (css:=f) (fun j z=>bB.length _ _ _ (q j (by omega) z)) i I;refine⟨pre,f[i],post,by grind,hp,?_,fun g O Y=>?_⟩
   ·have:=q i (by omega) (by omega);simp only[aM];rw[List.getD_eq_getElem?_getD,List.getElem?_eq_getElem (by omega)];exact this
   ·simp only[aGU] at z ⊢;split at z
    ·rename_i y hy;have hyr:=(aOH.as_nil t u y g hy Y).1;have J:((f.take i).flatten).length=i*t.cells:=by
      rw[nI (n:=t.cells) (fun j z=>?_)]
      ·rw[List.length_take,Nat.min_eq_left (by omega)]
      ·simp at z; simp only[List.getElem_take]; exact bB.length _ _ _ (q j (by omega) (by omega))
     have N:f=f.take i++ [f[i]]++f.drop (i+1):=(by simp);have U:f.flatten=(f.take i).flatten++f[i]++(f.drop (i+1)).flatten:=by
      grind
     rw[U,List.append_assoc,List.append_assoc] at L;obtain⟨q1,q2⟩:=List.append_inj L (by omega);obtain⟨q3,q4⟩:=List.append_inj q2 rfl;refine⟨by grind,f.set i g,?_,by grind,fun j h1 h2=>?_⟩
     ·rw[← q1,← q4,List.set_eq_take_append_cons_drop,if_pos I];simp
     grind[List.getElem_set_self,List.getElem_set_ne]
    simp_all
  | _=>exact h.elim
 | _=>exact h.elim
def aFU:AV→List Step→Bool
 | _,[]=>true
 | .val t x,.fld _ k::p=>t.strB&&aFU (eH (.val t x) k).1 p
 | v,.fld _ k::p=>aFU (eH v k).1 p
 | v,.idx _ i::p=>aFU (elemOf v i).2 p
theorem aOP:∀(p:List Step) (v u:AV) (cs:List Value),aM c w v cs→(aEb v p u).1→aFU v p=true→ ∃pre ds post,cs=pre++ds++post∧pre.length=pT p∧(∀g,aM c w u g→g.length=ds.length∧aM c w (aEb v p u).2 (pre++g++post))
 | [],v,u,cs,U,h,_=>by
  obtain⟨h1,I,h3⟩:=h;exact⟨[],cs,[],by simp,rfl,fun g hu=>⟨by grind[aUm],by grind[aEb]⟩⟩
 | .fld off k::p,v,u,cs,U,h,hb=>by
  simp only[aEb] at h ⊢;obtain⟨hs,ho,I,h3,h4⟩:=h;have hj:(eH v k).1≠ .junk:=by
   intro e;rw[e] at I;cases p with
   | nil=>obtain⟨q,_⟩:=I; simp[AV.solid,AV.solid1] at q
   | cons s p=>cases s with
    | fld _ _=>obtain⟨q,_⟩:=I; simp[AV.solid,AV.solid1] at q
    | idx _ _=>exact I.1.elim
  have Z:∀t x,v= .val t x→t.strB=true:=fun t x e=>by simp_all[aFU,Bool.and_eq_true]
  have J:aFU (eH v k).1 p=true:=by
   cases v<;>first|simp_all[aFU,Bool.and_eq_true]|grind[aFU]
  obtain⟨pre,ds,post,e,hp,hd,O⟩:=bFc (u:=(aEb (eH v k).1 p u).2) hs U Z hj;obtain⟨z,N,f,e2,Y,L⟩:=aOP p _ u ds hd I J;refine⟨pre++z,N,f++post,by simp_all,by grind[List.length_append,pT,Step.off],fun g hu=>?_⟩;grind
 | .idx s i::p,v,u,cs,U,h,hb=>by
  simp only[aEb] at h ⊢;obtain⟨hs,ho,I,h4⟩:=h;have J:aFU (elemOf v i).2 p=true:=by grind[aFU]
  obtain⟨pre,ds,post,e,hp,hd,O⟩:=bCv (u:=(aEb (elemOf v i).2 p u).2) U hs h4;obtain⟨z,N,f,e2,Y,L⟩:=aOP p _ u ds hd I J;refine⟨pre++z,N,f++post,by simp_all,by grind[List.length_append,pT,Step.off],fun g hu=>?_⟩;grind
end
end Go.Vc
namespace Go.Vc
open Go.RowKit
def Ctx.pushS(c:Ctx)(S':Nat→Prop)(v:Value):Ctx:=⟨S',fun i=>if i=c.n then v else c.hd i,c.n+1,c.bl⟩
section
variable {P:Program} {T:Tab} {M:Perm} {w0:World} {c:Ctx} {h:List Obj} {w:World}
theorem Good.pushS(q:Good M w0 c h w){w':World}(Z:jB nothing w w'){S':Nat→Prop}(hS:∀b,c.S b→S' b)(U:∀b,S' b→c.S b∨(w.heap.size≤b∧b<w'.heap.size)){o:Obj}{hv:Value}(hob:aII (c.pushS S' hv) w' c.n o)
  (hb:∀b,fI (c.pushS S' hv) c.n o b→w.heap.size≤b∧b<w'.heap.size∧ ¬S' b) :
  Good M w0 (c.pushS S' hv) (h++ [o]) w'∧eK c w (c.pushS S' hv) w':=by
 have N:eK c w (c.pushS S' hv) w':=⟨⟨hS,Nat.le_succ _,fun i hi=>by simp[Ctx.pushS,Nat.ne_of_lt hi]⟩,fun b g=>Z.block b (q.sfin b g) (fun f=>f)⟩;have hcase:∀i o',(h++ [o])[i]? = some o'→(h[i]? = some o'∧i<c.n)∨(i=c.n∧o'=o):=fun i o' L=>by
  rw[q.n];grind
 refine⟨⟨by simp[Ctx.pushS,q.n],q.keeps.trans Z.any,fun b g=>?_,fun b g hlt=>?_,fun i o' L=>?_,fun i o' b L z=>?_,fun i j oi oj b hi hj I J=>?_,aCm q.root N.le⟩,N⟩
 ·rcases U b g with g|g
  ·exact Nat.lt_of_lt_of_le (q.sfin b g) Z.size
  omega
 ·rcases U b g with g|g
  ·exact q.src b g hlt
  ·have:=q.keeps.size; omega
 ·rcases hcase i o' L with⟨L,hi⟩|⟨rfl,rfl⟩
  ·exact(q.objs i o' L).keep N hi rfl (fun b z=>Z.block b (q.own i o' b L z).2.1 (fun f=>f))
  omega
 ·rcases hcase i o' L with⟨L,hi⟩|⟨rfl,rfl⟩
  ·rw[iF N.le rfl hi] at z;obtain⟨h1,h2,h3⟩:=q.own i o' b L z;refine⟨h1,Nat.lt_of_lt_of_le h2 Z.size,fun O=>?_⟩;rcases U b O with O|O
   all_goals grind
  ·obtain⟨h1,h2,h3⟩:=hb b z;exact⟨.inl (Nat.le_trans q.keeps.size h1),h2,h3⟩
 ·rcases hcase i oi hi with⟨hi',hin⟩|⟨ei,eo⟩<;>rcases hcase j oj hj with⟨hj',Y⟩|⟨ej,eo'⟩
  ·rw[iF N.le rfl hin] at I;rw[iF N.le rfl Y] at J;exact q.sep i j oi oj b hi' hj' I J
  ·subst ej; subst eo';rw[iF N.le rfl hin] at I;have:=(q.own i oi b hi' I).2.1;grind
  ·subst ei; subst eo;rw[iF N.le rfl Y] at J;have:=(q.own j oj b hj' J).2.1;grind
  omega
theorem Good.regrow(f:Good M w0 c h w){i:Nat}{e:TypeId}{t:Ty}{xs:List t.den}(ho:h[i]? = some (.row e t xs)){w':World}(hk:w.grownBy w' (aU (c.hd i))){v':Value}{ys:List t.den}(hrow:aCl c w' e t ys v')
  (hb:∀b,aU v'=some b→aU (c.hd i)=some b∨(w.heap.size≤b∧b<w'.heap.size)):Good M w0 (c.push v') (h.set i .dead++ [.row e t ys]) w'∧eK c w (c.push v') w':=by
 have hil:i<h.length:=yP ho;have hother:∀b,b<w.heap.size→aU (c.hd i)≠some b→w'.heap[b]? = w.heap[b]? := fun b Z I=>hk.block b Z (fun e=>I e.symm);have hiS:∀b,c.S b→aU (c.hd i)≠some b:=fun b hS e=>(f.own i _ b ho e).2.2 hS;have hl:eK c w (c.push v') w':=⟨c.le_push v',fun b hbS=>hother b (f.sfin b hbS) (hiS b hbS)⟩;have hcase:∀j o',(h.set i Obj.dead++ [Obj.row e t ys])[j]? = some o'→(h[j]? = some o'∧j<c.n∧j≠i)∨(j=c.n∧o'=Obj.row e t ys)∨o'=Obj.dead:=fun j o' hj=>by
  rw[f.n];grind
 have hpush:(c.push v').hd c.n=v':=by simp[Ctx.push]
 refine⟨⟨by simp[Ctx.push,f.n],⟨hk.os.trans f.keeps.os,hk.tape.trans f.keeps.tape,hk.output.trans f.keeps.output,Nat.le_trans f.keeps.size hk.size,fun b Z hM=>?_⟩,fun b hbS=>Nat.lt_of_lt_of_le (f.sfin b hbS) hk.size,f.src,fun j o' hj=>?_,fun j o' b hj q=>?_,fun j k oj ok b hj hk' J g=>?_,aCm f.root hl.le⟩,hl⟩
 ·have I:aU (c.hd i)≠some b:=fun e'=>by
   rcases (f.own i _ b ho e').1 with L|L
   all_goals grind
  rw[hother b (Nat.lt_of_lt_of_le Z f.keeps.size) I];exact f.keeps.block b Z hM
 ·rcases hcase j o' hj with⟨z,U,I⟩|⟨ej,Y⟩|Y
  ·exact(f.objs j o' z).keep hl U rfl (fun b q=>hother b (f.own j o' b z q).2.1 (fun e'=>I (f.sep j i o' _ b z ho q e')))
  ·subst ej; subst Y;obtain⟨vals,L,h2⟩:=hrow;exact⟨vals,by simp_all,h2⟩
  ·subst Y; trivial
 ·rcases hcase j o' hj with⟨z,U,I⟩|⟨ej,Y⟩|Y
  ·rw[iF hl.le rfl U] at q;obtain⟨L,h2,h3⟩:=f.own j o' b z q;exact⟨L,Nat.lt_of_lt_of_le h2 hk.size,h3⟩
  ·subst ej; subst Y;have q:aU v'=some b:=(by rw[← hpush]; exact q);rcases hb b q with L|L
   ·obtain⟨q1,q2,q3⟩:=f.own i _ b ho L;exact⟨q1,Nat.lt_of_lt_of_le q2 hk.size,q3⟩
   ·exact⟨.inl (Nat.le_trans f.keeps.size L.1),L.2,fun hS=>by have:=f.sfin b hS; omega⟩
  ·subst Y; cases q
 ·rcases hcase j oj hj with⟨z,U,I⟩|⟨ej,Y⟩|Y
  ·rw[iF hl.le rfl U] at J;rcases hcase k ok hk' with⟨N,hkn,hne'⟩|⟨ek,O⟩|O
   ·rw[iF hl.le rfl hkn] at g;exact f.sep j k oj ok b z N J g
   ·subst ek; subst O;have g:aU v'=some b:=(by rw[← hpush]; exact g);rcases hb b g with L|L
    ·exact absurd (f.sep j i oj _ b z ho J L) I
    ·have:=(f.own j oj b z J).2.1;omega
   ·subst O; cases g
  ·subst ej; subst Y;have J:aU v'=some b:=(by rw[← hpush]; exact J);rcases hcase k ok hk' with⟨N,hkn,hne'⟩|⟨ek,O⟩|O
   ·rw[iF hl.le rfl hkn] at g;rcases hb b J with L|L
    ·exact absurd (f.sep k i ok _ b N ho g L) hne'
    ·have:=(f.own k ok b N g).2.1;omega
   ·omega
   ·subst O; cases g
  ·subst Y; cases J
def aUD(h:List Obj):AV→AV
 | .own i=>match h[i]? with
  | some (.frz t f)=>.val (.sl t) f
  | _=>.own i
 | v=>v
def aYE(h:List Obj):AV→AV
 | .agg f=>.agg (f.map (aUD h))
 | v=>aUD h v
theorem bAr(q:Good M w0 c h w){v:AV}{cs:List Value}(f:aM c w v cs):aM c w (aUD h v) cs:=by
 unfold aUD;split
 ·rename_i i;split
  ·rename_i t z g;have:=q.objs i _ g;simp only[aM] at f;rw[f.2.1];exact this
  omega
 omega
theorem bAs(f:Good M w0 c h w):∀ {vs:List AV} {cs:List Value},nF c w vs cs→nF c w (vs.map (aUD h)) cs
 | [],_,g=>g
 | v::r,_,⟨c1,I,e,z,q⟩=>⟨c1,I,e,bAr f z,bAs f q⟩
theorem bD0(J:Good M w0 c h w){v:AV}{x:Value}(f:aY c w v x):aY c w (aYE h v) x:=by
 cases v with
 | agg O =>
  obtain⟨z,I,g⟩:=f;exact⟨bAs J (by grind[aM]),I,g⟩
 | own i =>
  simp only[aYE,aUD];split
  ·rename_i t N L;have:=J.objs i _ L;have q:=f;obtain⟨z,I,g⟩:=f;simp only[aM] at z;have U:=(aDJ q).2;refine⟨?_,fun h=>by simp[AV.isAgg,Ty.isAgg] at h,fun _=>g rfl⟩;simp only[aM];rw[z.2.1];exact this
  omega
 | _=>exact f
def aIS(T:Tab)(h:List Obj)(t:TypeId)(a x:AV):Prop×AV×List Obj :=
 match a with
 | .ptr i p=>match h[i]? with
  | some (.box n .junk)=>match p with
   | []=>(n=x.nc∧n<4294967296∧x.solid=true∧ ∃f,T t=some f∧f.cells=x.nc,.junk,h.set i (.box n x))
   | _=>(False,.junk,h)
  | some (.box n v)=>((aEb v p x).1∧aFU v p=true∧x.solid=true∧ ∃f,T t=some f∧f.cells=x.nc,.junk,h.set i (.box n (aEb v p x).2))
  | some (.row e f g)=>match p with
   | .idx s k::p=>match AV.as [] f (aEb (.val f (g.getD k f.zero)) p x).2 with
    | some y=>(k<g.length∧s=f.cells∧(aEb (.val f (g.getD k f.zero)) p x).1∧aFU (.val f (g.getD k f.zero)) p=true∧x.solid=true∧ ∃c',T t=some c'∧c'.cells=x.nc,.junk,h.set i (.row e f (g.set k y)))
    | none=>(False,.junk,h)
   | _=>(False,.junk,h)
  | some (.trh e m f g q v)=>match p with
   | .idx s k::p=>(k=q∧s=f.cells∧(aEb v p x).1∧aFU v p=true∧x.solid=true∧ ∃c',T t=some c'∧c'.cells=x.nc,.junk,h.set i (.trh e m f g q (aEb v p x).2))
   | _=>(False,.junk,h)
  | _=>(False,.junk,h)
 | _=>(False,.junk,h)
def aE1(f t:Ty)(xs:List f.den):Option (List t.den):=if e:f=t then some (e▸xs) else none
@[simp] theorem bCw{t:Ty}{xs:List t.den}:aE1 t t xs=some xs:=by simp[aE1]
theorem aFV{f t:Ty}{xs:List f.den}{ys:List t.den}(h:aE1 f t xs=some ys):∃e:f=t,ys=e▸xs:=by
 unfold aE1 at h;grind
theorem bGq(h:List Obj)(i:Nat)(t:Ty):rowOf h i t=match h[i]? with
  | some (.row _ f g)=>aE1 f t g
  | some (.frz f g)=>aE1 f t g
  | some (.tre _ _ f g)=>aE1 f t g
  | _=>none:=by
 rfl
def bound(f:Ty)(n:Nat):Prop:=n≤maxLen∧n*f.byt≤140737488355328
def zM(E:Env)(h:List Obj)(t:TypeId)(s x:AV):Prop×AV×List Obj :=
 match E.T t with
 | some (.sl f)=>match AV.as (if f.scalar then h else h.map gJ) (.sl f) x with
  | some g=>match s with
   | .nilS=>(bound f g.length∧f.okB=true,.own h.length,h++ [.row (E.el t) f g])
   | .own i=>match h[i]? with
    | some (.row e c' q)=>match aE1 c' f q with
     | some q=>(e=E.el t∧bound f (q.length+g.length)∧f.okB=true,.own h.length,h.set i .dead++ [.row (E.el t) f (q++g)])
     | none=>(False,.junk,h)
    | _=>(False,.junk,h)
   | _=>(False,.junk,h)
  | none=>(False,.junk,h)
 | _=>(False,.junk,h)
def aQD(E:Env)(h:List Obj)(t:TypeId)(l cp:AV):Prop×AV×List Obj :=
 match E.T t with
 | some (.sl f)=>match aD7 l,aD7 cp with
  | some n,some m=>(f.okB=true∧0≤n∧n≤m∧(f.byt:Int)*m≤281474976710656∧m≤maxLen,.own h.length,h++ [.row (E.el t) f (List.replicate n.toNat f.zero)])
  | _,_=>(False,.junk,h)
 | _=>(False,.junk,h)
def aMl(Γ:FuncId→List AV→Option aF)(h:List Obj)(f:FuncId)(vs:List AV):Prop×AV×List Obj :=
 match Γ f vs with
 | some sp=>match sp with
  | ⟨a,.own e t,pre,fn⟩=>match aDt (if t.scalar then h else h.map gJ) a vs with
   | some x=>(pre x,.own h.length,h++ [.row e t (fn x)])
   | none=>(False,.junk,h)
  | _=>(False,.junk,h)
 | none=>(False,.junk,h)
theorem bGr{t:Ty}{css:List (List Value)}(J:∀j (z:j<css.length),(css[j]).length=t.cells){k:Nat}(g:k<css.length){pre post ds:List Value}(L:css.flatten=pre++css[k]++post)(hp:pre.length=k*t.cells):(css.set k ds).flatten=pre++ds++post:=by
 have O:css=css.take k++css[k]::css.drop (k+1):=by simp_all
 have N:(css.take k).flatten.length=k*t.cells:=by
  rw[nI (n:=t.cells) (fun i hi=>by grind),List.length_take,Nat.min_eq_left (Nat.le_of_lt g)]
 have q:css.flatten=(css.take k).flatten++css[k]++(css.drop (k+1)).flatten:=by
  grind
 have f:pre=(css.take k).flatten∧css[k]++post=css[k]++(css.drop (k+1)).flatten:=by
  grind[List.append_assoc,List.append_inj]
 have I:post=(css.drop (k+1)).flatten:=List.append_cancel_left f.2;grind
theorem aGV{t:TypeId}{z:Ty}(q:aFe P T t z){x:AV}{u:Value}(hs:x.solid=true)(U:aY c w x u)(Z:z.cells=x.nc){b off:Nat}{cells:Array Value}{e:TypeId}(hb:w.heap[b]? = some (.cells cells e (0,0)))
  {pre ds post:List Value} (hc:cells.toList=pre++ds++post) (hp:pre.length=off) (Y:ds.length=x.nc) :
  aM c w x u.cells.toList∧u.cells.toList.length=ds.length∧(storeVar t ⟨b,off,none⟩ u).run P w= .ok () (w.setRow b (pre++u.cells.toList++post).toArray):=by
 have f:zK c w x u:=by cases x<;>first|exact U|grind[AV.solid,AV.solid1]
 have L:=aUm hs f.1;refine⟨f.1,by omega,?_⟩;have g:=aQv hs f.1;have O:cells.size=(pre++ds++post).length:=by grind
 have I:=run_storeCells_at P b off e u.cells.toList 0 cells w hb (by
  simp_all) (fun v hv=>by
   have:=g v hv;cases v<;>first|rfl|exact this.elim)
 have e1:cells.toList.take (off+0)=pre:=by simp_all
 have N:cells.toList.drop (off+0+u.cells.toList.length)=post:=by
  grind
 rw[e1,N] at I;have J:u.cells.size=z.cells:=by simp_all
 simp only[storeVar,Sem.run_bind,gI q,Result.andThen_ok,J,ne_eq,not_true_eq_false,if_false,Sem.run_ite];omega
theorem bGs(hT:mJ P T)(hg:Good M w0 c h w){t:TypeId}{a x:AV}{av u:Value}(ha:aY c w a av)(hx:aY c w x u)(hc:(aIS T h t a x).1) :
  ∃w',(Instr.storeAt t av u).run P w= .ok () w'∧eK c w c w'∧Good M w0 c (aIS T h t a x).2.2 w':=by
 cases a with
 | ptr i p =>
  obtain⟨hi,b,hb,rfl⟩:=aGR ha;simp only[aIS] at hc ⊢;split at hc
  ·rename_i n ho;cases p with
   | cons _ _=>simp_all
   | nil =>
   obtain⟨h1,hbn,h3,z,h4,h5⟩:=hc;obtain⟨b',cells,e,q1,q2,q3,q4⟩:=hg.objs i _ ho;have hbb:b=b':=(by grind[aU]);subst hbb;have N:zK c w x u:=(by cases x<;>first|exact hx|grind[AV.solid,AV.solid1]);obtain⟨s1,s2,s3⟩:=aGV (P:=P) (hT _ _ h4) h3 hx h5 q2 (pre:=[]) (ds:=cells.toList) (post:=[]) (by simp) (off:=0) rfl (by rcases q3 with q3|⟨_,q3⟩<;>(simp only[Array.length_toList]; omega));simp only[List.nil_append,List.append_nil] at s3;refine⟨w.setRow b u.cells.toList.toArray,by simp[Instr.storeAt,Instr.sureAddr,pT,s3],?_⟩;have hsame:∀k,k≠b→(w.setRow b u.cells.toList.toArray).heap[k]? = w.heap[k]? := fun k O=>setRow_other w b k _ O;have L:fI c i (.box n .junk) b:=(by simp[fI,q1,aU]);have Z:=(hg.own i _ b ho L).2.2;have:=hg.modify (o':=.box n x) ho L (w':=w.setRow b u.cells.toList.toArray) rfl rfl rfl (by simp_all) hsame ?_ ?_
   ·simp_all
   ·refine⟨b,_,e,q1,setRow_heap w b cells _ e _ q2,?_,?_⟩
    ·simp_all
    ·have:=aM.keep (c':=c) (.refl c) (fun k O=>hsame k (fun e=>Z (e▸O))) _ _ s1;omega
   grind[fI,aU]
  ·rename_i n v _ ho;obtain⟨h1,h2,h3,z,h4,h5⟩:=hc;obtain⟨b',cells,e,q1,q2,q3,q4⟩:=hg.objs i _ ho;have hbb:b=b':=(by grind[aU]);subst hbb;obtain⟨pre,ds,post,r1,r2,r3⟩:=aOP p v x cells.toList q4 h1 h2;have hul:=r3 u.cells.toList;have N:zK c w x u:=(by cases x<;>first|exact hx|grind[AV.solid,AV.solid1]);obtain⟨k1,k2⟩:=r3 _ N.1;obtain⟨s1,s2,s3⟩:=aGV (P:=P) (hT _ _ h4) h3 hx h5 q2 r1 r2 (by rw[← k1,aUm h3 N.1]);refine⟨w.setRow b (pre++u.cells.toList++post).toArray,by simp[Instr.storeAt,Instr.sureAddr,s3],?_⟩;have hsame:∀k,k≠b→(w.setRow b (pre++u.cells.toList++post).toArray).heap[k]? = w.heap[k]? := fun k O=>setRow_other w b k _ O;have L:fI c i (.box n v) b:=(by simp[fI,q1,aU]);have Z:=(hg.own i _ b ho L).2.2;have:=hg.modify (o':=.box n (aEb v p x).2) ho L (w':=w.setRow b (pre++u.cells.toList++post).toArray) rfl rfl rfl (by simp_all) hsame ?_ ?_
   ·simp_all
   ·refine⟨b,_,e,q1,setRow_heap w b cells _ e _ q2,?_,?_⟩
    ·have:cells.size=(pre++ds++post).length:=(by grind);simp_all
    ·have:=aM.keep (c':=c) (.refl c) (fun k O=>hsame k (fun e=>Z (e▸O))) _ _ k2;omega
   grind[fI,aU]
  ·rename_i e z I ho;cases p with
   | nil=>simp_all
   | cons st p =>
    cases st with
    | fld _ _=>simp_all
    | idx s k =>
     simp only at hc ⊢;split at hc
     ·rename_i y hy;obtain⟨h1,h2,h3,h4,h5,c',h6,h7⟩:=hc;simp only[hy];obtain⟨vals,hown,hrep⟩:=hg.objs i _ ho;obtain⟨hvl,hv⟩:=hown;rcases hv with⟨_,h0⟩|⟨g,cap,f,hhd,_,hheap,hle,hcap,hsz,htake⟩
      ·omega
      have hbb:b=g:=(by grind[aU]);subst hbb;have hset:aGU (.val (.arr I.length z) I) k (aEb (.val z (I.getD k z.zero)) p x).2= .val (.arr I.length z) (I.set k y):=by
       grind[aGU]
      obtain⟨pre,ds,post,r1,r2,r3⟩:=aOP (.idx s k::p) (.val (.arr I.length z) I) x vals (show bB w c.S _ _ _ from hrep) (by
       simp only[aEb];refine⟨h1,h2,h3,?_⟩;grind[elemOf]) (by grind[aFU,elemOf])
      have hcur:f.toList=pre++ds++(post++f.toList.drop (I.length*z.cells)):=by
       grind[List.append_assoc,List.take_append_drop]
      have N:zK c w x u:=(by cases x<;>first|exact hx|grind[AV.solid,AV.solid1]);obtain⟨k1,k2⟩:=r3 _ N.1;obtain⟨s1,s2,s3⟩:=aGV (P:=P) (hT _ _ h6) h5 hx h7 hheap hcur r2 (by rw[← k1,aUm h5 N.1]);refine⟨_,by simp only[Instr.storeAt,Instr.sureAddr,Sem.run_bind,Sem.run_pure,Result.andThen_ok]; exact s3,?_⟩;have hsame:∀k',k'≠b→(w.setRow b (pre++u.cells.toList++(post++f.toList.drop (I.length*z.cells))).toArray).heap[k']? = w.heap[k']? := fun k' O=>setRow_other w b k' _ O;have L:fI c i (.row e z I) b:=(by simp[fI,hhd,aU]);have Z:=(hg.own i _ b ho L).2.2;have hS:aCk c.S w (w.setRow b (pre++u.cells.toList++(post++f.toList.drop (I.length*z.cells))).toArray):=fun k' O=>hsame k' (fun e=>Z (e▸O));have hnew:bB w c.S (.arr I.length z) (I.set k y) (pre++u.cells.toList++post):=by
       have:=k2;simp only[aEb,elemOf] at this;rw[hset] at this;exact this
      have hlen:(pre++u.cells.toList++post).length=vals.length:=(by grind);have:=hg.modify (o':=.row e z (I.set k y)) ho L (w':=w.setRow b (pre++u.cells.toList++(post++f.toList.drop (I.length*z.cells))).toArray) rfl rfl rfl (by simp[World.setRow]) hsame ?_ ?_
      ·grind
      ·have hl':(I.set k y).length=I.length:=(by simp);refine⟨pre++u.cells.toList++post,⟨by grind,.inr ⟨b,cap,_,by grind,Nat.zero_le _,setRow_heap w b f _ e _ hheap,by omega,hcap,?_,?_⟩⟩,?_⟩
       all_goals grind[List.append_assoc,List.take_left,bB.keep]
      grind[fI,aU]
     simp_all
  ·rename_i e m z I kk v ho;cases p with
   | nil=>simp_all
   | cons st p =>
    cases st with
    | fld _ _=>simp_all
    | idx s k =>
     simp only at hc ⊢;obtain⟨rfl,h2,h3,h4,h5,c',h6,h7⟩:=hc;obtain⟨Y,Bs,q⟩:=hg.objs i _ ho;have O:=q.kl;have hlc:=q.lc;have hlb:=q.lb;obtain⟨hvl,hv⟩:=q.row;rcases hv with⟨_,h0⟩|⟨g,cap,f,hhd,_,hheap,hle,hcap,hsz,htake⟩
     ·omega
     have hbb:b=g:=(by grind[aU]);subst hbb;obtain⟨hv1,hv2⟩:=q.hv (by omega);have hcl:∀j (hj:j<Y.length),(Y[j]).length=z.cells:=fun j hj=>by
      by_cases e:j=k
      ·simp_all
      ·exact mD.length _ _ _ _ _ (q.el j (by omega) hj (by omega) e)
     obtain⟨U,J,hf,hp0⟩:=oT (t:=z) (css:=Y) hcl k (by omega);obtain⟨pre,ds,post,r1,r2,r3⟩:=aOP p v x Y[k] hv1 h3 h4;have N:zK c w x u:=(by cases x<;>first|exact hx|grind[AV.solid,AV.solid1]);obtain⟨k1,k2⟩:=r3 _ N.1;have hcur:f.toList=(U++pre)++ds++(post++J++f.toList.drop (I.length*z.cells)):=by
      grind[List.take_append_drop,List.append_assoc]
     obtain⟨s1,s2,s3⟩:=aGV (P:=P) (off:=k*z.cells+pT p) (hT _ _ h6) h5 hx h7 hheap hcur (by grind) (by rw[← k1,aUm h5 N.1]);refine⟨_,by simp only[Instr.storeAt,Instr.sureAddr,Sem.run_bind,Sem.run_pure,Result.andThen_ok,pT,Step.off,h2]; exact s3,?_⟩;have hsame:∀k',k'≠b→(w.setRow b ((U++pre)++u.cells.toList++(post++J++f.toList.drop (I.length*z.cells))).toArray).heap[k']? = w.heap[k']? := fun k' O=>setRow_other w b k' _ O;have hbl:c.bl i b:=q.bl b (by simp[hdB,hhd,aU]);have L:fI c i (.trh e m z I k v) b:=hbl;have Z:=(hg.own i _ b ho L).2.2;have hS:aCk c.S w (w.setRow b ((U++pre)++u.cells.toList++(post++J++f.toList.drop (I.length*z.cells))).toArray):=fun k' O=>hsame k' (fun e=>Z (e▸O));have hset:(Y.set k (pre++u.cells.toList++post)).flatten=U++(pre++u.cells.toList++post)++J:=bGr hcl (by omega) hf hp0;have hlen:(pre++u.cells.toList++post).length=z.cells:=(by grind);have:=hg.modifyG (o':=.trh e m z I k (aEb v p x).2) ho L (w':=w.setRow b ((U++pre)++u.cells.toList++(post++J++f.toList.drop (I.length*z.cells))).toArray) rfl rfl rfl (by simp[World.setRow]) hsame ?_ (fun _ h=>h)
     ·grind
     ·refine⟨Y.set k (pre++u.cells.toList++post),Bs,⟨?_,by grind,hlb,O,fun j hj h1 h2 hne=>?_,q.hb,fun h1=>?_,q.nd,q.bl⟩⟩
      ·refine⟨by grind,.inr ⟨b,cap,_,hhd,Nat.zero_le _,setRow_heap w b f _ e _ hheap,hle,hcap,?_,?_⟩⟩
       all_goals grind[List.append_assoc,List.length_append,List.take_left]
      ·rw[List.getElem_set_ne (fun e=>hne e.symm)];simp only[List.length_set] at h1;exact mD.keep (fun _ h=>h) hS _ _ _ _ _ (fun b' hb'=>hsame b' (fun e=>by
        subst e;have:=q.nd;rw[hhd] at this;simp only[hdB,aU,List.singleton_append,List.nodup_cons] at this;grind[List.mem_flatten,List.getElem_mem])) (q.el j hj h1 h2 hne)
      ·rw[List.getElem_set_self];exact⟨aM.keep (c':=c) (.refl c) hS _ _ k2,hlen⟩
  simp_all
 | _=>exact hc.elim
theorem SlR.flat{S:Nat→Prop}{t:Ty}{xs:List t.den}{a:Option Addr}{len cap:Nat}(hs:SlR w S (bB w S t) t.cells xs a len cap):∃css:List (List Value),css.length=xs.length∧css.flatten.length=xs.length*t.cells∧bB w S (.arr xs.length t) xs css.flatten∧(xs= []∨ ∃b off,a=some ⟨b,off,none⟩∧mY w b off css.flatten):=by
 obtain⟨h1,h2,h3,N⟩:=hs;rcases N with rfl|⟨b,off,rfl,hb,L⟩
 ·exact⟨[],rfl,by simp,⟨rfl,[],rfl,rfl,fun i h=>by simp at h⟩,.inl rfl⟩
 ·have g:∃css:List (List Value),css.length=xs.length∧ ∀i (h:i<xs.length) (h':i<css.length),bB w S t xs[i] css[i]∧mY w b (off+i*t.cells) css[i]:=by
   have:∀n,n≤xs.length→ ∃css:List (List Value),css.length=n∧ ∀i (h:i<xs.length) (h':i<css.length),bB w S t xs[i] css[i]∧mY w b (off+i*t.cells) css[i]:=by
    intro n
    induction n with
    | zero=>simp_all
    | succ n Z =>
     intro hn;obtain⟨css,q,hc⟩:=Z (by omega);obtain⟨ds,hd,hcell⟩:=L n (by omega);refine⟨css++ [ds],by simp[q],fun i hi hi'=>?_⟩;grind
   simp_all
  obtain⟨css,q,hc⟩:=g;have f:∀j (I:j<css.length),(css[j]).length=t.cells:=fun j I=>bB.length _ _ _ (hc j (by omega) I).1;have z:css.flatten.length=xs.length*t.cells:=by rw[nI f,q]
  refine⟨css,q,z,⟨rfl,css,rfl,q,fun i h h'=>(hc i h h').1⟩,.inr ⟨b,off,rfl,?_⟩⟩;intro j v I;have O:j<css.length*t.cells:=by
   grind
  have J:0<t.cells:=by
   grind
  have hi:j/t.cells<css.length:=Nat.div_lt_of_lt_mul (by grind);obtain⟨pre,post,hf,hp⟩:=oT (t:=t) (css:=css) f (j/t.cells) hi;have Y:=Nat.div_add_mod j t.cells;have U:=Nat.mod_lt j J;have:(css[j/t.cells])[j%t.cells]? = some v:=by
   grind
  have:=(hc (j/t.cells) (by omega) hi).2 _ _ this;grind
end
end Go.Vc
namespace Go.Vc
open Go.RowKit
section
variable {P:Program} {E:Env} {T:Tab} {M:Perm} {w0:World} {c:Ctx} {h:List Obj} {w:World}
theorem aDv(w:World)(o:Go.Obj):(w.alloc o).heap[w.heap.size]? = some o:=by
 show (w.heap.push o)[w.heap.size]? = some o;simp
theorem aBE{f:Ty}(q:f.okB=true):(oS f).cells=(dI f).toArray:=by
 have w:World:=default;have z:(oS f).cells.toList=dI f:=by
  unfold oS;split
  ·rfl
  ·have I:(dI f).length=1:=by
    rw[bB.length _ _ _ (iA w (fun _=>False) f q)];rename_i L;cases f<;>simp_all[Ty.isAgg,Ty.cells]
   match J:dI f,I with
   | [v],_ =>
    have g:=bB.one f _ _ (iA w (fun _=>False) f q) v (by simp_all);simp only[List.headD_cons];cases v<;>first|rfl|exact g.elim
 grind
theorem nG{f:Ty}(g:f.okB=true):(dI f).length=f.cells:=bB.length _ _ _ (iA (default:World) (fun _=>False) f g)
theorem aNB{S:Nat→Prop}{t:Ty}{xs ys:List t.den}{vs us:List Value}(z:bB w S (.arr xs.length t) xs vs)(q:bB w S (.arr ys.length t) ys us):bB w S (.arr (xs++ys).length t) (xs++ys) (vs++us):=by
 obtain⟨_,g,rfl,L,N⟩:=z;obtain⟨_,ds,rfl,I,f⟩:=q;refine⟨rfl,g++ds,by simp,by simp_all,fun i hi J=>?_⟩;grind
theorem bLM(Y:Good M w0 c h w){q:Ty}{x:AV}{O:Value}{ys:List q.den}(Z:aY c w x O)(N:AV.as (if q.scalar then h else h.map gJ) (.sl q) x=some ys) :
  ∃a cap g,O= .slice a ys.length cap∧ys.length≤cap∧g.length=ys.length*q.cells∧bB w c.S (.arr ys.length q) ys g∧(ys= []∨ ∃b off,a=some ⟨b,off,none⟩∧mY w b off g):=by
 by_cases hs:q.scalar=true
 ·rw[if_pos hs] at N;have hv:=aMi Y Z N;obtain⟨a,len,cap,rfl,f⟩:=aFF (c:=⟨aGQ c h,c.hd,c.n,c.bl⟩) hv;obtain⟨J,_,z,U,I⟩:=f.flat;obtain⟨rfl,L,_,_⟩:=f;exact⟨a,cap,J.flatten,rfl,L,z,bB.scalar _ _ _ (by grind[Ty.scalar]) U,I⟩
 ·rw[if_neg hs] at N;have hv:=aAl Y Z N;obtain⟨a,len,cap,rfl,f⟩:=aFF (c:=c) hv;obtain⟨J,_,z,U,I⟩:=f.flat;obtain⟨rfl,L,_,_⟩:=f;grind
theorem aJO{t ty e:TypeId}{i:TypeInfo}(ht:P.underlying t=some (.slice e))(hi:P.info? e=some i){v:Value}{n:Nat}{xs:List Value}(f:w.ownsRow 0 e i.size v n xs){a:Option Addr}{cap:Nat}(z:0≤cap) :
  (Builtin.append_ #[t,t] ty #[v,.slice a 0 cap]).run P w= .ok v w:=by
 rcases f.2 with⟨rfl,rfl⟩|⟨g,cp,J,rfl,_,N,q,I,L,htake⟩
 ·cases a<;>simp[Builtin.append_,run_underlying ht,sizeOf,typeInfo,hi,Builtin.lenOf,Builtin.firstCells,loadCells,loadCellsFrom]
 ·cases a<;>simp[Builtin.append_,run_underlying ht,sizeOf,typeInfo,hi,Builtin.lenOf,Builtin.firstCells,loadCells,loadCellsFrom,q,storeCells]
theorem wU{v:Value}(h:∃a n m,v= .slice a n m):aU v=v.ownBlock:=by
 obtain⟨a,n,m,rfl⟩:=h;cases a<;>rfl
theorem kR{B:Nat}{e:TypeId}{sz:Nat}{v:Value}{n:Nat}{xs:List Value}(h:w.ownsRow B e sz v n xs):∃a n m,v= .slice a n m:=by
 rcases h.2 with⟨rfl,_⟩|⟨g,q,f,rfl,_⟩
 all_goals simp_all
theorem aUE(hE:jC P E){t ty:TypeId}{I:Ty}(ht:E.T t=some (.sl I))(hok:I.okB=true){sv xv:Value}{xs ys:List I.den}(hS:True)
  (Z:aCl c w (E.el t) I xs sv) {a:Option Addr} {cap:Nat} {f:List Value} (hxv:xv= .slice a ys.length cap) (hnl:f.length=ys.length*I.cells) (hnr:bB w c.S (.arr ys.length I) ys f) (hor:ys= []∨ ∃b off,a=some ⟨b,off,none⟩∧mY w b off f)
  (hb:bound I (xs.length+ys.length)) (hSb:∀b,c.S b→b<w.heap.size∧aU sv≠some b) :
  ∃v' w',(Builtin.append_ #[t,t] ty #[sv,xv]).run P w= .ok v' w'∧w.grownBy w' (aU sv)∧aCl c w' (E.el t) I (xs++ys) v'∧(∀b,aU v'=some b→aU sv=some b∨(w.heap.size≤b∧b<w'.heap.size))∧ ∃a n m,v'= .slice a n m:=by
 have hd:=hE.el t I ht;obtain⟨e',hd',hTe',hpos⟩:=gX (hE.T _ _ ht);have:e'=E.el t:=by simp_all
 subst this;have hTe:=hE.T _ _ hTe';obtain⟨i,hi,hsz,hz,hby⟩:=hTe.info;obtain⟨N,q,O⟩:=Z;rw[← hsz] at q;subst hxv;rcases hor with rfl|⟨b,off,rfl,hcell⟩
 ·have L:=aJO (P:=P) (ty:=ty) hd hi q (a:=a) (cap:=cap) (Nat.zero_le _);refine⟨sv,w,L,⟨rfl,rfl,rfl,Nat.le_refl _,fun _ _ _=>rfl⟩,?_,fun b hb=>.inl hb,kR q⟩;rw[List.append_nil];exact⟨N,by simp_all,O⟩
 ·have hone:∀u∈f,u.oneCell'=true:=fun u hu=>by
   have:=bB.one _ _ _ hnr u hu;cases u<;>first|rfl|exact this.elim
  obtain⟨v',w',L,J,Y,_,z⟩:=run_append_own_at (P:=P) w 0 t ty (E.el t) i (oS I) I.cells i.bytes hd hi (hz hok) hsz rfl (by grind[aBE,nG]) hpos sv xs.length N (by simp_all)
   ⟨b,off,none⟩ ys.length cap f hnl (fun j u hj=>by rw[xS]; exact hcell j u hj) hone hb.1 (Nat.le_trans (Nat.mul_le_mul_left _ hby) hb.2) (Nat.zero_le _)
  have hsl:=kR q;have U:=kR J;rw[← wU hsl] at Y z;rw[← wU U] at z;have hsame:aCk c.S w w':=fun b hb=>Y.block b (hSb b hb).1 (fun e=>(hSb b hb).2 e.symm);refine⟨v',w',L,Y,?_,fun b hb=>?_,U⟩
  ·have:=aNB O hnr;exact⟨N++f,by simp_all,bB.keep (fun _ h=>h) hsame _ _ _ this⟩
  ·rcases z with z|z
   ·simp_all
   ·right
    rw[z] at hb;cases hb;refine⟨Nat.le_refl _,?_⟩;rcases J.2 with⟨rfl,_⟩|⟨g,cp,cur,rfl,_,hheap,_⟩
    all_goals grind[aU,Array.getElem?_eq_some_iff]
theorem aFW{v':Value}(h:∃a n m,v'= .slice a n m){w':World}{S':Nat→Prop}:aY (c.pushS S' v') w' (.own c.n) v':=by
 obtain⟨a,n,m,rfl⟩:=h;refine⟨⟨Nat.lt_succ_self c.n,?_,?_⟩,(fun h=>by cases h),(fun _ f=>by simp)⟩
 ·show [Value.slice a n m]= [if c.n=c.n then Value.slice a n m else c.hd c.n];simp_all
 ·show one (if c.n=c.n then Value.slice a n m else c.hd c.n);rw[if_pos rfl]; trivial
theorem bFd(hE:jC P E)(z:Good M w0 c h w){t ty:TypeId}{s x:AV}{sv xv:Value}(hs:aY c w s sv)(hx:aY c w x xv)(hc:(zM E h t s x).1) :
  ∃v' w' c',(Builtin.append_ #[t,t] ty #[sv,xv]).run P w= .ok v' w'∧eK c w c' w'∧Good M w0 c' (zM E h t s x).2.2 w'∧aY c' w' (zM E h t s x).2.1 v':=by
 unfold zM at hc ⊢;split at hc
 ·rename_i ct ht;split at hc
  ·rename_i ys U;(try simp only[U]);obtain⟨a,cap,news,Y,hcap,O,hnr,Z⟩:=bLM z hx U;split at hc
   ·
    obtain⟨hb,I⟩:=hc;have N:sv= .slice none 0 0:=by
     obtain⟨h1,_,h3⟩:=hs;have h3:=h3 rfl;simp_all[aM,Value.cells]
    subst N;obtain⟨v',w',q,f,g,hbl,J⟩:=aUE (c:=c) (w:=w) (P:=P) (ty:=ty) (xs:=[]) hE ht I trivial (sv:=.slice none 0 0) ⟨[],⟨by simp,.inl ⟨rfl,rfl⟩⟩,⟨rfl,[],rfl,rfl,fun i h=>by simp at h⟩⟩ Y O hnr Z (by simp_all) (fun b hb=>⟨z.sfin b hb,by simp[aU]⟩);have hk:jB nothing w w':=⟨f.os,f.tape,f.output,f.size,fun b hb _=>f.block b hb (by simp[aU])⟩;have:=z.push hk (o:=.row (E.el t) ct ys) (hv:=v') (by
     show aCl _ _ _ _ _ _;have e:(c.push v').hd c.n=v':=(by simp[Ctx.push]);rw[e];exact g) (fun b hb=>by
     simp_all[Ctx.push,fI,aU])
    refine⟨v',w',_,q,this.2,this.1,?_⟩;have:=aFW (c:=c) J (w':=w') (S':=c.S);rw[← z.n];exact this
   ·rename_i i;split at hc
    ·rename_i e c' xs ho;split at hc
     ·rename_i xs' hcast;obtain⟨rfl,rfl⟩:=aFV hcast;obtain⟨rfl,hb,I⟩:=hc;have N:=(aDJ hs).2;have L:aCl c w (E.el t) _ _ (c.hd i):=z.objs i _ ho;subst N;obtain⟨v',w',q,f,g,hbl,J⟩:=aUE (c:=c) (w:=w) (P:=P) (ty:=ty) hE ht I trivial L Y O hnr Z hb (fun b hb=>⟨z.sfin b hb,fun e=>(z.own i _ b ho e).2.2 hb⟩);have:=z.regrow ho f g hbl;refine⟨v',w',_,q,this.2,this.1,?_⟩;have:=aFW (c:=c) J (w':=w') (S':=c.S);rw[← z.n];exact this
     simp_all
    simp_all
   simp_all
  simp_all
 simp_all
theorem bJo(N:jC P E)(Y:Good M w0 c h w){t:TypeId}{l cp:AV}{U cv:Value}(hl:aY c w l U)(L:aY c w cp cv)(hc:(aQD E h t l cp).1) :
  ∃v' w' c',(Instr.makeSlice t U cv).run P w= .ok v' w'∧eK c w c' w'∧Good M w0 c' (aQD E h t l cp).2.2 w'∧aY c' w' (aQD E h t l cp).2.1 v':=by
 unfold aQD at hc ⊢;split at hc
 ·rename_i f ht;split at hc
  ·rename_i n m hn hm;obtain⟨g,h0,h1,h2,h3⟩:=hc;obtain⟨k1,rfl⟩:=aCp hl hn;obtain⟨k2,rfl⟩:=aCp L hm;have hd:=N.el t f ht;obtain⟨e',hd',J,Z⟩:=gX (N.T _ _ ht);have:e'=E.el t:=(by simp_all);subst this;obtain⟨i,hi,z,hz,hby⟩:=(N.T _ _ J).info;have hbytes:(i.bytes:Int)*m≤281474976710656:=by
    have:(i.bytes:Int)*m≤(f.byt:Int)*m:=Int.mul_le_mul_of_nonneg_right (by omega) (by omega);omega
   have I:=run_make (P:=P) w t (E.el t) i (oS f) hd hi (hz g) k1 k2 n m h0 h1 hbytes (by grind[maxLen]);have hk:jB nothing w (w.alloc (.cells (madeCells (oS f).cells (m.toNat*i.size)) (E.el t) (0,0))):=jB.alloc nothing w _;have q:aCl c (w.alloc (.cells (madeCells (oS f).cells (m.toNat*i.size)) (E.el t) (0,0))) (E.el t) f (List.replicate n.toNat f.zero) (.slice (some ⟨w.heap.size,0,none⟩) n.toNat m.toNat):=by
    have hcells:(madeCells (oS f).cells (m.toNat*i.size)).toList=(List.replicate m.toNat (dI f)).flatten:=by
     rw[z,aBE g,← nG g];exact aBp _ _ (by grind[nG])
    have hsplit:(List.replicate m.toNat (dI f)).flatten=(List.replicate n.toNat (dI f)).flatten++(List.replicate (m.toNat-n.toNat) (dI f)).flatten:=by
     grind[List.flatten_append,List.replicate_append_replicate]
    have O:(List.replicate n.toNat (dI f)).flatten.length=n.toNat*f.cells:=(by simp[nG g]);refine⟨(List.replicate n.toNat (dI f)).flatten,⟨by simp_all,.inr ⟨w.heap.size,m.toNat,_,by simp,Nat.zero_le _,aDv w _,by grind,by omega,by rw[size_madeCells,z],?_⟩⟩,?_⟩
    ·simp_all
    ·have:=iA (w.alloc (.cells (madeCells (oS f).cells (m.toNat*i.size)) (E.el t) (0,0))) c.S (.arr n.toNat f) g;rw[List.length_replicate];exact this
   have:=Y.push hk (o:=.row (E.el t) f (List.replicate n.toNat f.zero)) (hv:=.slice (some ⟨w.heap.size,0,none⟩) n.toNat m.toNat) (by
    show aCl _ _ _ _ _ _;have e:(c.push (.slice (some ⟨w.heap.size,0,none⟩) n.toNat m.toNat)).hd c.n= .slice (some ⟨w.heap.size,0,none⟩) n.toNat m.toNat:=(by simp[Ctx.push]);rw[e];exact q) (fun b hb=>by
    have e:(c.push (.slice (some ⟨w.heap.size,0,none⟩) n.toNat m.toNat)).hd c.n= .slice (some ⟨w.heap.size,0,none⟩) n.toNat m.toNat:=(by simp[Ctx.push]);simp_all[fI,aU,Option.some.injEq,Nat.le_refl])
   refine⟨_,_,_,I,this.2,this.1,?_⟩;have:=aFW (c:=c) (v':=.slice (some ⟨w.heap.size,0,none⟩) n.toNat m.toNat) ⟨_,_,_,rfl⟩ (w':=w.alloc (.cells (madeCells (oS f).cells (m.toNat*i.size)) (E.el t) (0,0))) (S':=c.S);rw[← Y.n];exact this
  simp_all
 simp_all
theorem aOQ{c:Ctx}{w:World}{f:Ty}(g:f.okB=true):aM c w (aKF f) (oS f).cells.toList∧(aKF f).solid=true∧(aKF f).nc=f.cells∧aY c w (aKF f) (oS f):=by
 unfold aKF;cases h:aUi f with
 | false =>
  cases hs:aUh f with
  | true =>
   obtain⟨b,rfl⟩:=bFX hs;have hc:aM c w .nilS (oS (.sl b)).cells.toList:=rfl;exact⟨hc,rfl,rfl,hc,(fun h=>by cases h),fun _ q=>by simp[oS,dI,Ty.isAgg]⟩
  | false =>
   have:=aY.ofV (aKJ w c.S f g);exact⟨this.1,rfl,rfl,this⟩
 | true =>
  obtain⟨b,rfl⟩:=aZ8 h;have hc:aM c w (.agg [.nilP,.nilS]) (oS (.pair .nilp (.pair (.sl b) .unit))).cells.toList:=by
   simp only[aM];exact⟨[.pointer none],[.slice none 0 0],rfl,rfl,[.slice none 0 0],[],rfl,rfl,rfl⟩
  refine⟨hc,rfl,rfl,hc,fun _=>⟨_,rfl⟩,(fun h=>by cases h)⟩
theorem aQE(q:Good M w0 c h w){t:TypeId}{x:AV}{v:Value}{n:Nat}(L:bI9 n x.nc t)(hs:x.solid=true)(J:aY c w x v) :
  ∃w' c',(newVar t v).run P w= .ok ⟨w.heap.size,0,none⟩ w'∧eK c w c' w'∧Good M w0 c' (h++ [.box n x]) w'∧aY c' w' (.ptr h.length []) (.pointer (some ⟨w.heap.size,0,none⟩)):=by
 have g:zK c w x v:=by cases x<;>first|exact J|grind[AV.solid,AV.solid1]
 have I:=aUm hs g.1;have z:jB nothing w (w.alloc (.cells v.cells t (0,0))):=jB.alloc nothing w _;have e:(c.push (.pointer (some ⟨w.heap.size,0,none⟩))).hd c.n= .pointer (some ⟨w.heap.size,0,none⟩):=by simp[Ctx.push]
 have:=q.push z (o:=.box n x) (hv:=.pointer (some ⟨w.heap.size,0,none⟩)) (by
  refine⟨w.heap.size,v.cells,t,e,aDv w _,by simp_all,?_⟩;exact aM.keep (c.le_push _) (fun b hb=>z.block b (q.sfin b hb) (fun f=>f)) _ _ g.1) (fun b hb=>by
  simp_all[fI,aU,Option.some.injEq,Nat.le_refl])
 refine⟨_,_,by rfl,this.2,this.1,?_⟩;rw[← q.n];refine⟨⟨Nat.lt_succ_self c.n,w.heap.size,by rw[e]; rfl,rfl⟩,(fun h=>by cases h),(fun _ N=>by simp)⟩
theorem bCx{G:Nat→AV}{Γ:FuncId→List AV→Option aF}{f:FuncId}{vs:List AV}{xs:Array Value}(hΓ:∀sp,Γ f vs=some sp→FOK P G f sp)(z:Good M w0 c h w)(hG:uB G c.S w)(hl:xs.size=vs.length)
  (hv:∀i (h1:i<vs.length) (h2:i<xs.size),aY c w vs[i] xs[i]) (hc:(aMl Γ h f vs).1) :
  Calls P f xs w fun e w'=>∃v c',e= .returned v∧eK c w c' w'∧Good M w0 c' (aMl Γ h f vs).2.2 w'∧aY c' w' (aMl Γ h f vs).2.1 v:=by
 unfold aMl at hc ⊢;split at hc
 ·rename_i sp hf;split at hc
  ·rename_i a e t pre fn;split at hc
   ·rename_i x ha;have O:xs.toList.length=vs.length:=(by omega);have L:∀i (h1:i<vs.length) (h2:i<xs.toList.length),aY c w vs[i] xs.toList[i]:=fun i h1 h2=>by
     simp_all
    have key:∃J:Nat→Prop,(∀b,J b→b<w.heap.size)∧uB G J w∧sC w J a x xs.toList∧(t.scalar=true∨ ∀b,J b→c.S b):=by
     by_cases hs:t.scalar=true
     ·rw[if_pos hs] at ha;exact⟨aGQ c h,bAi z,hG.mono (fun b hb=>.inl hb) (.refl _ _),aYx z _ _ _ _ ha O L,.inl hs⟩
     ·rw[if_neg hs] at ha;exact⟨c.S,z.sfin,hG,aKQ z ha O L,.inr fun b hb=>hb⟩
    obtain⟨J,k1,k2,k3,k4⟩:=key;refine(hΓ _ hf w J xs x k1 k2 k3 hc).mono ?_;rintro ex w' ⟨v,rfl,hk,Z,q,N⟩;have hsl:=kR q;have e1:(c.pushS (fun b=>c.S b∨(w.heap.size≤b∧b<w'.heap.size∧aU v≠some b)) v).hd c.n=v:=(by simp[Ctx.pushS]);have:=z.pushS hk (S':=fun b=>c.S b∨(w.heap.size≤b∧b<w'.heap.size∧aU v≠some b)) (fun b hb=>.inl hb) (fun b hb=>hb.imp id fun hb=>⟨hb.1,hb.2.1⟩) (o:=.row e t (fn x)) (hv:=v) (by
     show aCl _ _ _ _ _ _;rw[e1];refine⟨Z,?_,?_⟩
     ·exact⟨q.1,q.2.imp id fun⟨g,Y,U,h1,h2,h3⟩=>⟨g,Y,U,h1,Nat.zero_le _,h3⟩⟩
     ·rcases k4 with hs|I
      ·grind[bB.scalar,Ty.scalar]
      ·exact bB.keep (fun b hb=>hb.imp (I b) id) (.refl _ _) _ _ _ N) (fun b hb=>by
     simp only[fI,e1] at hb;rcases q.2 with⟨rfl,_⟩|⟨g,Y,U,rfl,hBg,hheap,_⟩
     ·cases hb
     ·simp[aU] at hb;subst hb;have hlt:=(Array.getElem?_eq_some_iff.1 hheap).1;refine⟨hBg,hlt,fun I=>?_⟩;rcases I with I|I
      ·have:=z.sfin _ I; omega
      ·exact I.2.2 rfl)
    refine⟨v,_,rfl,this.2,this.1,?_⟩;have:=aFW (c:=c) hsl (w':=w') (S':=fun b=>c.S b∨(w.heap.size≤b∧b<w'.heap.size∧aU v≠some b));rw[← z.n];omega
   simp_all
  simp_all
 simp_all
end
end Go.Vc
namespace Go.Vc
open Go.RowKit
section
variable {P:Program} {E:Env} {T:Tab} {M:Perm} {w0:World} {c:Ctx} {h:List Obj} {w:World}
theorem aUF(f:List Value)(n:Nat)(g:0<f.length):(Builtin.zeroCells f.toArray n).toList=(List.replicate n f).flatten:=by
 grind[aBp,Builtin.zeroCells]
theorem aSU(w:World)(base:Nat)(t tx ty e:TypeId)(k:IntKind)(i:TypeInfo)(z:Value)(size bytes:Nat)(ht:P.underlying t=some (.slice e))(hx:P.underlying tx=some (.int k))(hi:P.info? e=some i)(hz:i.zero=some z)
  (hsize:i.size=size) (hby:i.bytes=bytes) (hzs:z.cells.size=size) (hsz:0<size)
  (v:Value) (n:Nat) (xs:List Value) (J:w.ownsRow base e size v n xs)
  (k':IntKind) (m:Nat) (f:List Value) (hnews:f=(Builtin.zeroCells z.cells m).toList) (h1:∀u∈f,u.oneCell'=true)
  (h63:n+m≤maxLen) (hbytes:(n+m)*bytes≤140737488355328) (hbase:base≤w.heap.size) :
  ∃v' w',(Builtin.append_ #[t,tx] ty #[v,.int k' (m:Int)]).run P w= .ok v' w'∧w'.ownsRow base e size v' (n+m) (xs++f)∧w.grownBy w' v.ownBlock ∧
   (v'.ownBlock=v.ownBlock∨v'.ownBlock=some w.heap.size):=by
 subst hsize;subst hby;have hl:f.length=m*i.size:=by
  grind[Array.length_toList,size_zeroCells]
 have hna:(Builtin.zeroCells z.cells m)=f.toArray:=by grind
 have hsmall:n+m≤9223372036854775807:=by grind[maxLen]
 have hwrap:IntKind.i64.wrap (m:Int)=m:=by
  grind[IntKind.wrap,IntKind.signed,IntKind.bits]
 have L:¬((m:Int)<0):=by omega
 have hmb:m*i.bytes≤(n+m)*i.bytes:=Nat.mul_le_mul_right _ (by omega);have q:¬(281474976710656<(m:Int)*(i.bytes:Int)):=by
  omega
 have hlen:(xs++f).length=(n+m)*i.size:=by rw[List.length_append,J.1,hl,Nat.add_mul]
 have grown:∀(old:Nat),old<n+m→ ∀(row:Option Nat),
   (w.drew.alloc (.cells (xs.toArray++f.toArray++Builtin.zeroCells z.cells (grownCap w (n+m) old e-(n+m))) e)).ownsRow base e i.size
    (.slice (some ⟨w.heap.size,0,none⟩) (n+m) (grownCap w (n+m) old e)) (n+m) (xs++f) ∧
   w.grownBy (w.drew.alloc (.cells (xs.toArray++f.toArray++Builtin.zeroCells z.cells (grownCap w (n+m) old e-(n+m))) e)) row:=by
  intro old ho row;have hge:=grownCap_ge w (n+m) old e;have hcm:grownCap w (n+m) old e≤maxLen:=grownCap_le_maxLen w (n+m) old e h63;refine⟨⟨hlen,.inr ⟨w.heap.size,_,_,rfl,hbase,heap_alloc_new w.drew _,hge,hcm,?_,?_⟩⟩,⟨rfl,rfl,rfl,by simp,fun k hk _=>Go.heap_alloc_old w.drew _ hk⟩⟩
  ·simp only[Array.size_append,List.size_toArray,size_zeroCells,hzs,J.1,hl,← Nat.add_mul];simp_all
  grind
 rcases J.2 with⟨rfl,rfl⟩|⟨g,I,O,rfl,hbg,hg,hnc,hcm,hcs,htake⟩
 ·have hx0:xs= []:=List.eq_nil_of_length_eq_zero (by simp_all);subst hx0;by_cases hm:m=0
  ·subst hm;have hn:f= []:=List.eq_nil_of_length_eq_zero (by omega);subst hn;refine⟨.slice none 0 0,w,?_,World.ownsRow_nil w base e i.size,⟨rfl,rfl,rfl,Nat.le_refl _,fun _ _ _=>rfl⟩,Or.inl rfl⟩;have hw0:IntKind.i64.wrap 0=0:=(by decide);simp[Builtin.append_,run_underlying ht,run_underlying hx,sizeOf,typeInfo,hi,asInt,asIntOf,hw0]
  ·have Y:¬(281474976710656<Builtin.nextslicecap m 0*i.bytes):=(by rw[nextslicecap_zero (by omega)]; omega);have hms:¬(m*i.size=0):=by
    grind[Nat.mul_eq_zero]
   have U:¬(9223372036854775807<(m:Int)):=(by omega);have N:=grown 0 (by omega) (Value.ownBlock (.slice none 0 0));simp only[Nat.zero_add,List.nil_append,Array.empty_append] at N ⊢;refine⟨_,_,?_,N.1,N.2,Or.inr rfl⟩;have hsz0:i.size≠0:=(by omega);simp[Builtin.append_,run_underlying ht,run_underlying hx,sizeOf,typeInfo,zeroValue,hi,hz,asInt,asIntOf,hwrap,L,q,hm,U,Y,hsz0,hms,Question.forced,run_firstCells_none,newRow,grownCap,hna]
 ·by_cases hroom:n+m≤I
  ·have hfit:n*i.size+f.length≤O.size:=(by rw[hl,hcs,← Nat.add_mul]; exact Nat.mul_le_mul_right _ hroom);have Z:=run_storeCells_at P g (n*i.size) e f 0 O w hg (by omega) h1;simp only[Nat.add_zero] at Z;refine⟨.slice (some ⟨g,0,none⟩) (n+m) I,w.setRow g (O.toList.take (n*i.size)++f++O.toList.drop (n*i.size+f.length)).toArray,?_,⟨hlen,.inr ⟨g,I,_,rfl,hbg,setRow_heap w g O _ e _ hg,hroom,hcm,?_,?_⟩⟩,⟨rfl,rfl,rfl,by simp,fun k _ hk=>setRow_other w g k _ (fun e=>hk (by simp[Value.ownBlock,e]))⟩,Or.inl rfl⟩
   ·by_cases hm:m*i.size=0
    ·have hn:f= []:=List.eq_nil_of_length_eq_zero (by omega);subst hn;simp[Builtin.append_,run_underlying ht,run_underlying hx,sizeOf,typeInfo,zeroValue,hi,hz,asInt,asIntOf,hwrap,L,q,hroom,hm,Addr.add_lit] at Z ⊢;simp[Z]
    ·have hm':¬(m=0∨i.size=0):=fun h=>hm (Nat.mul_eq_zero.2 h);simp[Builtin.append_,run_underlying ht,run_underlying hx,sizeOf,typeInfo,zeroValue,hi,hz,asInt,asIntOf,hwrap,L,q,hroom,hm,hm',Addr.add_lit,hna,Z]
   all_goals grind
  ·have holds:∀j u,xs[j]? = some u→w.cell? ((⟨g,0,none⟩:Addr).add j)=some u:=J.cells (g:=g) rfl;have hfo:=run_firstCells_some (P:=P) w.drew i.size n ⟨g,0,none⟩ n I xs J.1 (by simp_all);have hm:¬(m*i.size=0):=by
    grind[Nat.mul_eq_zero]
   have hm':¬(m=0∨i.size=0):=fun h=>hm (Nat.mul_eq_zero.2 h);have U:¬(9223372036854775807<((n:Int)+(m:Int))):=(by omega);have hgs:=growslice_fits (old:=I) (by omega:I<n+m) hbytes;have Y:¬(281474976710656<Builtin.nextslicecap (n+m) I*i.bytes):=(by omega);have N:=grown I (by omega) (Value.ownBlock (.slice (some ⟨g,0,none⟩) n I));refine⟨_,_,?_,N.1,N.2,Or.inr rfl⟩;simp[Builtin.append_,run_underlying ht,run_underlying hx,sizeOf,typeInfo,zeroValue,hi,hz,asInt,asIntOf,hwrap,L,q,hroom,hm,hm',U,Y,Question.forced,hfo,newRow,grownCap,hna];grind
theorem bJp{t:TypeId}{k:IntKind}(f:aFe P E.T t (.i k)):P.underlying t=some (.int k):=by
 obtain⟨d,hd,hb⟩:=f.desc;cases d<;>simp[jX] at hb
 simp_all
def aMm(E:Env)(h:List Obj)(t:TypeId)(s x:AV):Prop×AV×List Obj :=
 match E.T t with
 | some (.sl f)=>match aD7 x with
  | some n=>match s with
   | .nilS=>(0≤n∧bound f n.toNat∧f.okB=true,.own h.length,h++ [.row (E.el t) f (List.replicate n.toNat f.zero)])
   | .own i=>match h[i]? with
    | some (.row e c' g)=>match aE1 c' f g with
     | some g=>(e=E.el t∧0≤n∧bound f (g.length+n.toNat)∧f.okB=true,.own h.length,h.set i .dead++ [.row (E.el t) f (g++List.replicate n.toNat f.zero)])
     | none=>(False,.junk,h)
    | _=>(False,.junk,h)
   | _=>(False,.junk,h)
  | none=>(False,.junk,h)
 | _=>(False,.junk,h)
theorem aR9(hE:jC P E){t tx ty:TypeId}{f:Ty}(ht:E.T t=some (.sl f)){k:IntKind}(htx:P.underlying tx=some (.int k))(N:f.okB=true){sv:Value}{xs:List f.den}
  (U:aCl c w (E.el t) f xs sv) {k':IntKind} {m:Nat}
  (hb:bound f (xs.length+m)) (hSb:∀b,c.S b→b<w.heap.size∧aU sv≠some b) :
  ∃v' w',(Builtin.append_ #[t,tx] ty #[sv,.int k' (m:Int)]).run P w= .ok v' w'∧w.grownBy w' (aU sv)∧aCl c w' (E.el t) f (xs++List.replicate m f.zero) v'∧(∀b,aU v'=some b→aU sv=some b∨(w.heap.size≤b∧b<w'.heap.size))∧ ∃a n m,v'= .slice a n m:=by
 have hd:=hE.el t f ht;obtain⟨e',hd',hTe',hpos⟩:=gX (hE.T _ _ ht);have:e'=E.el t:=by simp_all
 subst this;have hTe:=hE.T _ _ hTe';obtain⟨i,hi,hsz,hz,hby⟩:=hTe.info;obtain⟨L,I,Y⟩:=U;rw[← hsz] at I;have hzl:=nG N;have hnews:(List.replicate m (dI f)).flatten=(Builtin.zeroCells (oS f).cells m).toList:=by
  grind[aBE,aUF]
 have hnr:bB w c.S (.arr m f) (List.replicate m f.zero) (List.replicate m (dI f)).flatten:=iA w c.S (.arr m f) N;have hone:∀u∈(List.replicate m (dI f)).flatten,u.oneCell'=true:=fun u hu=>by
  have:=bB.one _ _ _ hnr u hu;cases u<;>first|rfl|exact this.elim
 obtain⟨v',w',hrun,q,O,z⟩:=aSU (P:=P) w 0 t tx ty (E.el t) k i (oS f) f.cells i.bytes hd htx hi (hz N) hsz rfl (by grind[aBE]) hpos sv xs.length L (by simp_all)
  k' m _ hnews hone hb.1 (Nat.le_trans (Nat.mul_le_mul_left _ hby) hb.2) (Nat.zero_le _)
 have hsl:=kR I;have J:=kR q;rw[← wU hsl] at O z;rw[← wU J] at z;have hsame:aCk c.S w w':=fun b hb=>O.block b (hSb b hb).1 (fun e=>(hSb b hb).2 e.symm);refine⟨v',w',hrun,O,?_,fun b hb=>?_,J⟩
 ·have Z:bB w c.S (.arr (List.replicate m f.zero).length f) (List.replicate m f.zero) (List.replicate m (dI f)).flatten:=by
   grind
  have:=aNB Y Z;exact⟨L++_,by simpa using q,bB.keep (fun _ h=>h) hsame _ _ _ (by omega)⟩
 ·rcases z with z|z
  ·simp_all
  ·right
   rw[z] at hb;cases hb;refine⟨Nat.le_refl _,?_⟩;rcases q.2 with⟨rfl,_⟩|⟨g,cp,cur,rfl,_,hheap,_⟩
   all_goals grind[aU,Array.getElem?_eq_some_iff]
theorem bCy(hE:jC P E)(z:Good M w0 c h w){t tx ty:TypeId}{k:IntKind}(O:P.underlying tx=some (.int k)){s x:AV}{sv xv:Value}(hs:aY c w s sv)(hx:aY c w x xv)(hc:(aMm E h t s x).1) :
  ∃v' w' c',(Builtin.append_ #[t,tx] ty #[sv,xv]).run P w= .ok v' w'∧eK c w c' w'∧Good M w0 c' (aMm E h t s x).2.2 w'∧aY c' w' (aMm E h t s x).2.1 v':=by
 unfold aMm at hc ⊢;split at hc
 ·rename_i ct ht;split at hc
  ·rename_i n hn;obtain⟨Y,rfl⟩:=aCp hx hn;split at hc
   ·
    obtain⟨h0,hb,I⟩:=hc;obtain⟨m,rfl⟩:=Int.eq_ofNat_of_zero_le h0;have N:sv= .slice none 0 0:=by
     obtain⟨h1,_,h3⟩:=hs;have h3:=h3 rfl;simp_all[aM,Value.cells]
    subst N;simp only[Int.toNat_natCast] at hb ⊢;obtain⟨v',w',q,f,g,U,J⟩:=aR9 (c:=c) (w:=w) (P:=P) (ty:=ty) (xs:=[]) (k':=Y) (m:=m) hE ht O I (sv:=.slice none 0 0) ⟨[],⟨by simp,.inl ⟨rfl,rfl⟩⟩,⟨rfl,[],rfl,rfl,fun i h=>by simp at h⟩⟩ (by simp_all) (fun b hb=>⟨z.sfin b hb,by simp[aU]⟩);rw[List.nil_append] at g;have hk:jB nothing w w':=⟨f.os,f.tape,f.output,f.size,fun b hb _=>f.block b hb (by simp[aU])⟩;have:=z.push hk (o:=.row (E.el t) ct (List.replicate m ct.zero)) (hv:=v') (by
     show aCl _ _ _ _ _ _;have e:(c.push v').hd c.n=v':=(by simp[Ctx.push]);rw[e];exact g) (fun b hb=>by
     simp_all[Ctx.push,fI,aU])
    refine⟨v',w',_,q,this.2,this.1,?_⟩;have:=aFW (c:=c) J (w':=w') (S':=c.S);rw[← z.n];exact this
   ·rename_i i;split at hc
    ·rename_i e c' xs Z;split at hc
     ·rename_i xs' hcast;obtain⟨rfl,rfl⟩:=aFV hcast;obtain⟨rfl,h0,hb,I⟩:=hc;obtain⟨m,rfl⟩:=Int.eq_ofNat_of_zero_le h0;simp only[Int.toNat_natCast] at hb ⊢;have N:=(aDJ hs).2;have L:aCl c w (E.el t) _ _ (c.hd i):=z.objs i _ Z;subst N;obtain⟨v',w',q,f,g,U,J⟩:=aR9 (c:=c) (w:=w) (P:=P) (ty:=ty) (k':=Y) (m:=m) hE ht O I L hb (fun b hb=>⟨z.sfin b hb,fun e=>(z.own i _ b Z e).2.2 hb⟩);have:=z.regrow Z f g U;refine⟨v',w',_,q,this.2,this.1,?_⟩;have:=aFW (c:=c) J (w':=w') (S':=c.S);rw[← z.n];exact this
     simp_all
    simp_all
   simp_all
  simp_all
 simp_all
end
end Go.Vc
namespace Go.Vc
open Go.RowKit
section
variable {P:Program} {E:Env} {T:Tab} {M:Perm} {w0:World} {c:Ctx} {h:List Obj} {w:World}
theorem aOR(w:World)(t u ty e:TypeId)(i:TypeInfo)(ht:P.underlying t=some (.slice e))(L:P.underlying u=some .string)(hi:P.info? e=some i)(U:i.zero=some (.int .u8 0))
  (hsize:i.size=1) (I:i.bytes=1) (v:Value) (n:Nat) (xs:List Value) (q:w.ownsRow 0 e 1 v n xs) (s:ByteArray)
  (O:n+s.size≤maxLen) (hbytes:n+s.size≤140737488355328) :
  ∃v' w',(Builtin.append_ #[t,u] ty #[v,.string s]).run P w= .ok v' w'∧w'.ownsRow 0 e 1 v' (n+s.size) (xs++Lib.strCells s)∧w.grownBy w' v.ownBlock∧(v'.ownBlock=v.ownBlock∨v'.ownBlock=some w.heap.size):=by
 obtain⟨v',w',N,h2,Z,_⟩:=Lib.run_append_own_string (P:=P) w 0 t u ty e i ht L hi U hsize I v n xs q s O hbytes (Nat.zero_le _);refine⟨v',w',N,h2,Z,?_⟩;have hsmall:n+s.size≤9223372036854775807:=by omega
 have hxl:xs.length=n:=by simpa using q.1
 rcases q.2 with⟨rfl,rfl⟩|⟨g,z,J,rfl,hbg,hg,hnc,hcm,hcs,htake⟩
 ·by_cases hm:s.size=0
  ·simp_all
  ·have f:=run_append_nil_string (P:=P) w t u ty e i (.int .u8 0) ht L hi U s (by omega) (by omega) (by grind);rw[N] at f
   injection f with q1 q2
   rw[q1]; exact .inr rfl
 ·by_cases hroom:n+s.size≤z
  ·have Y:J.size=z:=(by omega);have f:=Lib.run_append_room_string (P:=P) w t u ty e i ht L hi hsize g n z J hg s hroom (by omega);rw[N] at f
   injection f with q1 q2
   rw[q1]; exact .inl rfl
  ·have holds:∀j u,xs[j]? = some u→w.cell? ((⟨g,0,none⟩:Addr).add j)=some u:=q.cells (g:=g) rfl;have f:=Lib.run_append_grow_string (P:=P) w t u ty e i (.int .u8 0) ht L hi U ⟨g,0,none⟩ n z xs (by simp_all) holds s (by omega) (by omega) (by rw[I]; exact growslice_fits (by omega) (by omega));rw[N] at f
   injection f with q1 q2
   rw[q1]; exact .inr rfl
def isStr:Option Ty→Bool
 | some .str=>true
 | _=>false
def aMn(E:Env)(h:List Obj)(t:TypeId)(s x:AV):Prop×AV×List Obj :=
 match E.T t with
 | some (.sl (.u .u8))=>match x with
  | .val .str b=>match s with
   | .nilS=>(bound (.u .u8) b.length,.own h.length,h++ [.row (E.el t) (.u .u8) b])
   | .own i=>match h[i]? with
    | some (.row e c' f)=>match aE1 c' (.u .u8) f with
     | some f=>(e=E.el t∧bound (.u .u8) (f.length+b.length),.own h.length,h.set i .dead++ [.row (E.el t) (.u .u8) (f++b)])
     | none=>(False,.junk,h)
    | _=>(False,.junk,h)
   | _=>(False,.junk,h)
  | _=>(False,.junk,h)
 | _=>(False,.junk,h)
theorem aYF{S:Nat→Prop}(s:ByteArray):bB w S (.arr (aQ s).length (.u .u8)) (aQ s) (Lib.strCells s):=by
 refine⟨rfl,(aQ s).map (fun (x:Nat)=>[Value.int .u8 (x:Int)]),?_,by simp,fun i I z=>?_⟩
 ·have f:∀l:List UInt8,(l.map fun b=>Value.int .u8 (b.toNat:Int))=((l.map (·.toNat)).map (fun (x:Nat)=>[Value.int .u8 (x:Int)])).flatten:=by
   intro l
   induction l with
   | nil=>rfl
   | cons a r g=>simp[g]
  exact f s.data.toList
 ·simp only[List.getElem_map];refine⟨rfl,rfl,?_⟩;have:(aQ s)[i]=(s.data.toList[i]'(by grind[aQ])).toNat:=by simp[aQ]
  rw[this];generalize (s.data.toList[i]'(by grind))=q;have:=q.toNat_lt;grind[IntKind.max,IntKind.signed,IntKind.bits]
theorem aSa(hE:jC P E){t tx ty:TypeId}(ht:E.T t=some (.sl (.u .u8)))(htx:P.underlying tx=some .string){sv:Value}{xs:List Nat}
  (U:aCl c w (E.el t) (.u .u8) xs sv) {s:ByteArray} (hb:bound (.u .u8) (xs.length+(aQ s).length)) (Y:∀b,c.S b→b<w.heap.size∧aU sv≠some b) :
  ∃v' w',(Builtin.append_ #[t,tx] ty #[sv,.string s]).run P w= .ok v' w'∧w.grownBy w' (aU sv)∧aCl c w' (E.el t) (.u .u8) (xs++aQ s) v'∧(∀b,aU v'=some b→aU sv=some b∨(w.heap.size≤b∧b<w'.heap.size))∧ ∃a n m,v'= .slice a n m:=by
 have hd:=hE.el t _ ht;obtain⟨e',hd',hTe',hpos⟩:=gX (hE.T _ _ ht);have:e'=E.el t:=by simp_all
 subst this;have hTe:=hE.T _ _ hTe';obtain⟨i,hi,hsz,hz,hby⟩:=hTe.info;obtain⟨L,z,O⟩:=U;have I:(aQ s).length=s.size:=uL s;rw[I] at hb;have hb1:i.bytes=1:=hTe.byte rfl i hi;obtain⟨v',w',Z,f,N,q⟩:=aOR (P:=P) w t tx ty (E.el t) i hd htx hi (hz rfl) hsz hb1 sv xs.length L z s hb.1 (by have:=hb.2; grind[Ty.byt,IntKind.bits]);have hsl:=kR z;have J:=kR f;rw[← wU hsl] at N q;rw[← wU J] at q;have hsame:aCk c.S w w':=fun b hb=>N.block b (Y b hb).1 (fun e=>(Y b hb).2 e.symm);refine⟨v',w',Z,N,?_,fun b hb=>?_,J⟩
 ·have:=aNB (t:=.u .u8) O (aYF (w:=w) (S:=c.S) s);exact⟨L++_,by simpa [I,Ty.cells] using f,bB.keep (fun _ h=>h) hsame _ _ _ (by omega)⟩
 ·rcases q with q|q
  ·simp_all
  ·right
   rw[q] at hb;cases hb;refine⟨Nat.le_refl _,?_⟩;rcases f.2 with⟨rfl,_⟩|⟨g,cp,cur,rfl,_,hheap,_⟩
   all_goals grind[aU,Array.getElem?_eq_some_iff]
theorem bCz(hE:jC P E)(z:Good M w0 c h w){t tx ty:TypeId}(N:P.underlying tx=some .string){s x:AV}{sv Z:Value}(hs:aY c w s sv)(hx:aY c w x Z)(hc:(aMn E h t s x).1) :
  ∃v' w' c',(Builtin.append_ #[t,tx] ty #[sv,Z]).run P w= .ok v' w'∧eK c w c' w'∧Good M w0 c' (aMn E h t s x).2.2 w'∧aY c' w' (aMn E h t s x).2.1 v':=by
 unfold aMn at hc ⊢;split at hc
 ·rename_i ht;split at hc
  ·rename_i b;obtain⟨st,rfl,rfl,hm⟩:=aR2 hx;split at hc
   ·
    have J:sv= .slice none 0 0:=by
     obtain⟨h1,_,Y⟩:=hs;have Y:=Y rfl;simp_all[aM,Value.cells]
    subst J;obtain⟨v',w',q,f,g,O,L⟩:=aSa (c:=c) (w:=w) (P:=P) (ty:=ty) (xs:=[]) (s:=st) hE ht N (sv:=.slice none 0 0) ⟨[],⟨by simp,.inl ⟨rfl,rfl⟩⟩,⟨rfl,[],rfl,rfl,fun i h=>by simp at h⟩⟩ (by simp_all) (fun b hb=>⟨z.sfin b hb,by simp[aU]⟩);rw[List.nil_append] at g;have hk:jB nothing w w':=⟨f.os,f.tape,f.output,f.size,fun b hb _=>f.block b hb (by simp[aU])⟩;have:=z.push hk (o:=.row (E.el t) (.u .u8) (aQ st)) (hv:=v') (by
     show aCl _ _ _ _ _ _;have e:(c.push v').hd c.n=v':=(by simp[Ctx.push]);rw[e];exact g) (fun b hb=>by
     simp_all[Ctx.push,fI,aU])
    refine⟨v',w',_,q,this.2,this.1,?_⟩;have:=aFW (c:=c) L (w':=w') (S':=c.S);rw[← z.n];exact this
   ·rename_i i;split at hc
    ·rename_i e c' xs U;split at hc
     ·rename_i xs' hcast;obtain⟨rfl,rfl⟩:=aFV hcast;obtain⟨rfl,hb⟩:=hc;have J:=(aDJ hs).2;have I:aCl c w (E.el t) _ _ (c.hd i):=z.objs i _ U;subst J;obtain⟨v',w',q,f,g,O,L⟩:=aSa (c:=c) (w:=w) (P:=P) (ty:=ty) (s:=st) hE ht N I hb (fun b hb=>⟨z.sfin b hb,fun e=>(z.own i _ b U e).2.2 hb⟩);have:=z.regrow U f g O;refine⟨v',w',_,q,this.2,this.1,?_⟩;have:=aFW (c:=c) L (w':=w') (S':=c.S);rw[← z.n];exact this
     simp_all
    simp_all
   simp_all
  simp_all
 simp_all
end
end Go.Vc
namespace Go.Vc
open Go.RowKit
structure Fr where
 P:Program
 E:Env
 M:Perm
 w0:World
 nt:Nat
 ds:List Deferred
@[reducible] def fr(P:Program)(E:Env)(S:Nat→Prop)(w0:World)(nt:Nat):Fr:=⟨P,E,top S,w0,nt,[]⟩
structure vG(F:Fr):Prop where
 env:jC F.P F.E
 mix:F.P.follows .mixedOrders=true
def jI(nt:Nat):Code→Bool
 | .region _ ops f=>ops.toList.all (iU nt)&&aJM ops.toList&&(!f||aYB ops.toList)
 | .seq a b=>jI nt a&&jI nt b
 | .cond c a b=>sO c&&jI nt a&&jI nt b
 | .block _ a=>jI nt a
 | .loop a=>jI nt a
 | .scope a=>jI nt a
 | .rangeFunc _ _ _ _=>false
 | _=>true
abbrev St:=List (Nat×AV)
def At(F:Fr)(K:Act→World→Prop)(env:St)(h:List Obj):Prop:=∀c a w,Sim F.E F.M F.w0 F.nt F.ds c env h a w→K a w
def Tri(F:Fr)(c:Code)(Q:Exit→Act→World→Prop)(env:St)(h:List Obj):Prop:=jI F.nt c=true→At F (c.wp F.P Q) env h
section
variable {F:Fr} {Q:Exit→Act→World→Prop} {env:St} {h:List Obj}
theorem eO(hq:At F (Q .normal) env h):Tri F .skip Q env h:=fun _ c a w hs=>wp_skip (hq c a w hs)
theorem aXG{l:Nat}(hq:At F (Q .normal) env h):Tri F (.label l) Q env h:=fun _ c a w hs=>wp_label (hq c a w hs)
theorem aFX{id:Nat}(hq:At F (Q (.exit id)) env h):Tri F (.exit id) Q env h:=fun _ c a w hs=>wp_exit (hq c a w hs)
theorem iW(hq:At F (Q .ret) env h):Tri F .ret Q env h:=fun _ c a w hs=>wp_ret (hq c a w hs)
def Next(F:Fr)(y:Code)(Q:Exit→Act→World→Prop)(a:Act)(w:World):Prop:=jI F.nt y=true→y.wp F.P Q a w
theorem aN{x y:Code}(g:Tri F x (Exit.then (Next F y Q) Q) env h):Tri F (.seq x y) Q env h:=fun f c a w hs=>by
 simp only[jI,Bool.and_eq_true] at f;refine wp_seq (wp_mono (g f.1 c a w hs) fun e q w' hq=>?_);cases e<;>first|exact hq|exact hq f.2
theorem aP{y:Code}(hy:Tri F y Q env h):At F (Exit.then (Next F y Q) Q .normal) env h:=fun c a w hs f=>hy f c a w hs
theorem dW{K:Act→World→Prop}(f:At F K env h):At F (Exit.then K Q .normal) env h:=f
theorem nJ{K:Act→World→Prop}{id:Nat}(hq:At F (Q (.exit id)) env h):At F (Exit.then K Q (.exit id)) env h:=hq
theorem eL{K:Act→World→Prop}(hq:At F (Q .ret) env h):At F (Exit.then K Q .ret) env h:=hq
theorem sD{id:Nat}(hq:At F (Q .normal) env h):At F (Exit.inBlock id Q .normal) env h:=hq
theorem rM{id:Nat}(hq:At F (Q .ret) env h):At F (Exit.inBlock id Q .ret) env h:=hq
theorem sE{id:Nat}(hq:At F (Q .normal) env h):At F (Exit.inBlock id Q (.exit id)) env h:=fun c a w hs=>by
 simp only[Exit.inBlock,if_true]; exact hq c a w hs
theorem aKZ{id f:Nat}(g:f≠id)(hq:At F (Q (.exit f)) env h):At F (Exit.inBlock id Q (.exit f)) env h:=fun c a w hs=>by
 simp only[Exit.inBlock,g,if_false]; exact hq c a w hs
theorem sP{id:Nat}{x:Code}(g:Tri F x (Exit.inBlock id Q) env h):Tri F (.block id x) Q env h:=fun f c a w hs =>
 wp_block (g (by grind[jI]) c a w hs)
theorem dF{x y:Code}{o:Operand}{b:Bool}(hb:evA F.E.G env o= .val .bool b)(ht:b=true→Tri F x Q env h)(g:b=false→Tri F y Q env h):Tri F (.cond o x y) Q env h:=fun f c a w hs=>by
 simp only[jI,Bool.and_eq_true] at f;have hv:=aFS (a:=a) hs.env hs.glob f.1.1;rw[hb] at hv;have hv:=aHT hv;exact wp_cond_split hv (fun e=>ht e f.1.2 c a w hs) (fun e=>g e f.2 c a w hs)
def bLN(v:AV):Option Ent→AV
 | none=>v
 | some ⟨_,_,[],av⟩=>av
 | some _=>.junk
theorem bAt(f:List Ent)(env:St)(t:Nat):look (oK f env) t=bLN (look env t) (aE0 f t):=by
 rw[aKY];cases aE0 f t with
 | none=>rfl
 | some e=>obtain⟨i,d,gp,av⟩:=e; cases gp<;>rfl
def aWC(keep:List Nat)(f:List Ent)(env:St):St:=keep.map fun t=>(t,bLN (look env t) (aE0 f t))
theorem bFe{c:Ctx}{w:World}{a:Act}(f:aKg c w env a.tmps)(keep:List Nat):aKg c w (keep.map fun t=>(t,look env t)) a.tmps:=fun t=>by
 have:look (keep.map fun t=>(t,look env t)) t=look env t∨look (keep.map fun t=>(t,look env t)) t= .junk:=by
  induction keep with
  | nil=>right; rfl
  | cons k r g =>
   simp only[List.map_cons,look];grind
 rcases this with e|e
 ·rw[e]; exact f t
 ·rw[e]; trivial
theorem Sim.keep{E:Env}{M:Perm}{w0:World}{nt:Nat}{ds:List Deferred}{c:Ctx}{a:Act}{w:World}(hs:Sim E M w0 nt ds c env h a w)(keep:List Nat):Sim E M w0 nt ds c (keep.map fun t=>(t,look env t)) h a w :=
 ⟨hs.good,hs.glob,bFe hs.env keep,hs.size,hs.defers⟩
theorem aR(hF:vG F){id:Nat}{ops:Array Oper}{q:Bool}(keep:List Nat)(hv:vcA F.E h env ops.toList 0 [] (fun f=>At F (Q .normal) (aWC keep f env) h)):Tri F (.region id ops q) Q env h:=fun z c a w hs=>by
 simp only[jI,Bool.and_eq_true,Bool.or_eq_true,Bool.not_eq_true'] at z;obtain⟨⟨L,N⟩,O⟩:=z;have g:∀f c' I w',At F (Q .normal) (aWC keep f env) h→eK c w c' w'→c'.n=c.n→Sim F.E F.M F.w0 F.nt F.ds c' (oK f env) h I w'→Q .normal I w':=fun f c' I w' U _ _ J=>by
  have:=J.keep keep;refine U c' I w' ?_;grind[aWC,look,oK,bAt]
 cases q with
 | false=>exact bAq (ops:=ops.toList) hF.env (List.all_eq_true.1 L) N hs hv g
 | true=>exact aOO (ops:=ops.toList) hF.env hF.mix (List.all_eq_true.1 L) N (O.resolve_left (by simp)) hs hv g
theorem bAu{x:Code}{D:Type}(I:D→Prop)(z:D→Nat)(f:D→St)(g:D→List Obj)(h0:At F (fun a w=>∃d c,I d∧Sim F.E F.M F.w0 F.nt F.ds c (f d) (g d) a w) env h)
  (round:∀d,I d→Tri F x (Exit.then (fun Y w'=>∃d' c',(I d'∧z d'<z d)∧Sim F.E F.M F.w0 F.nt F.ds c' (f d') (g d') Y w') Q) (f d) (g d)):Tri F (.loop x) Q env h:=fun J c a w hs=>by
 classical
 have J:jI F.nt x=true:=by grind[jI]
 let good:Act→World→Nat→Prop:=fun a w n=>∃d c,I d∧Sim F.E F.M F.w0 F.nt F.ds c (f d) (g d) a w∧z d=n
 have hleast:∀a w,(∃d c,I d∧Sim F.E F.M F.w0 F.nt F.ds c (f d) (g d) a w)→ ∃n,good a w n∧ ∀m,good a w m→n≤m:=fun a w ⟨d,c,hi,hs⟩=>by
  have Z:∃n,good a w n:=⟨z d,d,c,hi,hs,rfl⟩;obtain⟨n,hn⟩:=Z
  induction n using Nat.strongRecOn with
  | _ n ih =>
   by_cases hh:∃m,m<n∧good a w m
   ·obtain⟨m,hm,hg⟩:=hh; grind
   grind
 let ms:Act→World→Nat:=fun a w=>if L:∃d c,I d∧Sim F.E F.M F.w0 F.nt F.ds c (f d) (g d) a w then Classical.choose (hleast a w L) else 0
 have q:∀a w (L:∃d c,I d∧Sim F.E F.M F.w0 F.nt F.ds c (f d) (g d) a w),good a w (ms a w)∧ ∀m,good a w m→ms a w≤m:=fun a w L=>by
  grind
 refine wp_loop (fun a w=>∃d c,I d∧Sim F.E F.M F.w0 F.nt F.ds c (f d) (g d) a w) ms (h0 c a w hs) fun a w L=>?_;obtain⟨⟨d,c,hi,hs,hμ⟩,hmin⟩:=q a w L;refine wp_mono (round d hi J c a w hs) fun e Y w' hq=>?_;cases e with
 | normal =>
  obtain⟨d',c',⟨U,hlt⟩,O⟩:=hq;have N:∃d c,I d∧Sim F.E F.M F.w0 F.nt F.ds c (f d) (g d) Y w':=⟨d',c',U,O⟩;refine⟨N,?_⟩;have:=(q Y w' N).2 (z d') ⟨d',c',U,O,rfl⟩;omega
 | _=>exact hq
theorem bAv{x y:Code}{D:Type}(J:D→Prop)(f:D→St)(I:D→List Obj)(N:Tri F x (Exit.then (fun z w'=>∃d' c',J d'∧Sim F.E F.M F.w0 F.nt F.ds c' (f d') (I d') z w') Q) env h)
  (hy:∀d,J d→Tri F y Q (f d) (I d)):Tri F (.seq x y) Q env h:=fun g c a w hs=>by
 simp only[jI,Bool.and_eq_true] at g;refine wp_seq (wp_mono (N g.1 c a w hs) fun e z w' hq=>?_);cases e with
 | normal =>
  obtain⟨d',c',L,q⟩:=hq;exact hy d' L g.2 c' z w' q
 | _=>exact hq
def fB(h:List Obj)(v:AV):AV→Prop
 | .val t x=>AV.as (h.map gJ) t v=some x∨v= .val t x
 | .junk=>True
 | u=>v=u
def xU(h:List Obj)(env:St):St→Prop
 | []=>True
 | (t,u)::r=>fB h (look env t) u∧xU h env r
theorem aTX{M:Perm}{w0:World}{c:Ctx}{w:World}(g:Good M w0 c h w){v u:AV}{x:Value}(f:fB h v u)(hv:aY c w v x):aY c w u x:=by
 cases u<;>simp only[fB] at f
 case val t y =>
  rcases f with f|rfl
  all_goals grind[aY.ofV,aAl]
 case junk=>trivial
 all_goals simp_all
theorem bD1{M:Perm}{w0:World}{c:Ctx}{w:World}{a:Act}(z:Good M w0 c h w)(g:aKg c w env a.tmps):∀ {f:St},xU h env f→aKg c w f a.tmps
 | [],_,t=>trivial
 | (k,u)::r,q,t=>by
  simp only[look];split
  ·rename_i e; subst e; exact aTX z q.1 (g k)
  ·exact bD1 z g q.2 t
theorem aT{D:Type}{J:D→Prop}{f:D→St}{g:D→List Obj}(d:D)(q:J d)(I:h=g d)(z:xU h env (f d)):At F (fun a w=>∃d' c',J d'∧Sim F.E F.M F.w0 F.nt F.ds c' (f d') (g d') a w) env h:=fun c a w hs =>
 ⟨d,c,q,⟨by rw[← I]; exact hs.good,hs.glob,bD1 hs.good hs.env z,hs.size,hs.defers⟩⟩
def cA:(t:Ty)→t.den→Nat→St
 | .pair (.rp a) r,x,k=>(k,.roa a x.1)::cA r x.2 (k+1)
 | .pair a r,x,k=>(k,.val a x.1)::cA r x.2 (k+1)
 | _,_,_=>[]
end
end Go.Vc
namespace Go.Vc
open Go.RowKit
def bFf:Obj→Obj
 | .row _ t f=>.frz t f
 | .tre _ _ t f=>.frz t f
 | o=>o
def frzAll:Obj→Obj
 | .row _ t f=>.frz t f
 | .tre _ _ t f=>.frz t f
 | .frz t f=>.frz t f
 | _=>.dead
def aSb:Ty→Nat
 | .pair _ r=>aSb r+1
 | _=>0
def nD(h:List Obj):(r:RK)→r.ty.den→List AV→Prop
 | .none,_,[]=>True
 | .one t,y,[v]=>AV.as (h.map frzAll) t v=some y
 | .own e t,f,[.own i]=>h[i]? = some (.row e t f)
 | .own e t,f,[.nilS]=>f= []
 | .tup t,y,g=>g.length≠1∧aDt (h.map frzAll) t g=some y
 | _,_,_=>False
section
variable {P:Program} {E:Env} {M:Perm} {w0:World} {c:Ctx} {h:List Obj} {w:World}
theorem aWD:∀(n:Nat) (h:List Obj) (i:Nat),(freezeAll (List.range n) h)[i]? = if i<n then (h[i]?).map bFf else h[i]? := by
 have q:∀(l r:List Nat) (h:List Obj),freezeAll (l++r) h=freezeAll r (freezeAll l h):=fun l=>by
  induction l with
  | nil=>intro r h; rfl
  | cons a l I=>intro r h; simp only[List.cons_append,freezeAll]; exact I r _
 intro n
 induction n with
 | zero=>grind[freezeAll]
 | succ n I =>
  intro h i;rw[List.range_succ,q];simp only[freezeAll,Vc.freeze];have z:=I h n;simp only[Nat.lt_irrefl,if_false] at z;split
  ·rename_i e t O f;rw[z] at f;by_cases g:n=i
   ·subst g;have J:n<h.length:=yP f;have N:n<(freezeAll (List.range n) h).length:=by
     grind
    grind[bFf]
   grind
  ·rename_i e m t O f;rw[z] at f;by_cases g:n=i
   ·subst g;have J:n<h.length:=yP f;have N:n<(freezeAll (List.range n) h).length:=by
     grind
    grind[bFf]
   grind
  ·rename_i U L;rw[I h i];by_cases hi:i<n
   ·grind
   ·by_cases g:i=n
    ·subst g;simp only[Nat.lt_irrefl,if_false,Nat.lt_succ_self,if_true];cases f:h[i]? with
     | none=>rfl
     | some o =>
      rw[f] at z;cases o<;>first|rfl|grind|grind
    grind
theorem Good.frzAll(f:Good M w0 c h w):∃c',eK c w c' w∧Good M w0 c' (h.map bFf) w:=by
 obtain⟨c',z,q,g⟩:=f.freezeAll (List.range h.length);have e:Vc.freezeAll (List.range h.length) h=h.map bFf:=by
  apply List.ext_getElem?;intro i;rw[aWD,List.getElem?_map];by_cases hi:i<h.length
  ·simp[hi]
  ·simp[hi]
 grind
theorem bD2:(h.map bFf).map gJ=h.map frzAll:=by
 rw[List.map_map];apply List.map_congr_left;intro o _;cases o<;>rfl
theorem aUG{S:Nat→Prop}:∀(t:Ty) (x:t.den) (k:Nat) (vs:List Value) (f:Array Value),sC w S t x vs→c.S=S→(∀i v,vs[i]? = some v→f.getD (k+i) Go.undef=v)→aKg c w (cA t x k) f
 | .pair a r,x,k,vs,f,⟨v,q,e,z,L⟩,J,ht=>by
  subst e;have g:=aUG r x.2 (k+1) q f L J (fun i u I=>by
   have:=ht (i+1) u (by simp_all);grind)
  have hv:=ht 0 v (by simp);simp only[Nat.add_zero] at hv;intro t;have hcase:∀u:AV,aY c w u v→aY c w (look ((k,u)::cA r x.2 (k+1)) t) (f.getD t Go.undef):=fun u I=>by
   simp only[look];split
   ·simp_all
   ·exact g t
  cases a with
  | rp a =>
   simp only[cA];refine hcase _ ?_;unfold dV at z;rw[if_neg (by simp[Ty.isAgg])] at z;obtain⟨b,off,ds,e,hb,hd,hcell⟩:=z;grind[aGS]
  | _ =>
   grind[cA,aY.ofV]
 | .unit,_,_,_,_,_,_,_=>fun t=>trivial
 | .bool,_,_,_,_,h,_,_=>h.elim
 | .u _,_,_,_,_,h,_,_=>h.elim
 | .i _,_,_,_,_,h,_,_=>h.elim
 | .str,_,_,_,_,h,_,_=>h.elim
 | .sl _,_,_,_,_,h,_,_=>h.elim
 | .arr _ _,_,_,_,_,h,_,_=>h.elim
 | .expr,_,_,_,_,h,_,_=>h.elim
 | .rp _,_,_,_,_,h,_,_=>h.elim
 | .clo _ _,_,_,_,_,h,_,_=>h.elim
theorem aUH{S:Nat→Prop}:∀(t:Ty) (x:t.den) (vs:List Value),sC w S t x vs→vs.length=aSb t
 | .pair a r,x,vs,⟨v,f,e,q,g⟩=>by subst e; simp[aSb,aUH r x.2 f g]
 | .unit,_,_,h=>by simp only[sC] at h; subst h; rfl
 | .bool,_,_,h=>h.elim
 | .u _,_,_,h=>h.elim
 | .i _,_,_,h=>h.elim
 | .str,_,_,h=>h.elim
 | .sl _,_,_,h=>h.elim
 | .arr _ _,_,_,h=>h.elim
 | .expr,_,_,h=>h.elim
 | .rp _,_,_,h=>h.elim
 | .clo _ _,_,_,h=>h.elim
 | .ifc _ _,_,_,h=>h.elim
 | .nili,_,_,h=>h.elim
 | .nilp,_,_,h=>h.elim
 | .nilf,_,_,h=>h.elim
theorem bFg{S S':Nat→Prop}(hs:∀b,S b→S' b):∀ {t:Ty} {x:t.den} {vs:List Value},sC w S t x vs→sC w S' t x vs:=by
 intro t
 induction t with
 | unit=>intro x vs h; exact h
 | pair a r _ q=>intro x vs ⟨v,f,e,g,z⟩; exact⟨v,f,e,g.keep hs (.refl _ _),q z⟩
 | _=>intro x vs h; exact h.elim
def Ty.wf:(t:Ty)→t.den→Prop
 | .u k,n=>(n:Int)≤k.max
 | .i k,n=>fits k n
 | .str,s=>s.length≤maxLen
 | .sl t,f=>f.length≤maxLen∧ ∀x∈f,t.wf x
 | .pair a b,x=>a.wf x.1∧b.wf x.2
 | .arr n t,f=>f.length=n∧ ∀x∈f,t.wf x
 | .rp t,x=>t.wf x
 | .clo _ t,x=>t.wf x
 | .ifc _ t,x=>t.wf x
 | _,_=>True
theorem bB.wf{S:Nat→Prop}:∀(t:Ty) (x:t.den) (cs:List Value),bB w S t x cs→t.wf x
 | .bool,_,_,_=>trivial
 | .u k,_,_,f=>f.2.2
 | .i k,_,_,f=>f.2.2
 | .str,_,_,⟨s,_,he,hs⟩=>by grind[Ty.wf,uL]
 | .sl t,J,_,⟨a,len,U,_,z,I,Y,L⟩=>by
  refine⟨by omega,fun x g=>?_⟩;rcases L with rfl|⟨b,off,_,_,q⟩
  ·cases g
  ·obtain⟨i,hi,rfl⟩:=List.mem_iff_getElem.1 g;obtain⟨ds,hd,_⟩:=q i hi;exact bB.wf t _ _ hd
 | .unit,_,_,_=>trivial
 | .pair a b,_,_,⟨c1,c2,_,z,I⟩=>⟨bB.wf a _ _ z,bB.wf b _ _ I⟩
 | .arr n t,J,_,⟨O,N,_,Z,f⟩=>⟨O,fun x g=>by
  obtain⟨i,hi,rfl⟩:=List.mem_iff_getElem.1 g;exact bB.wf t _ _ (f i hi (by omega))⟩
 | .expr,_,_,_=>trivial
 | .rp t,_,_,⟨_,_,ds,_,_,hd,_⟩=>bB.wf t _ _ hd
 | .clo _ t,_,_,⟨_,_,hd⟩=>bB.wf t _ _ hd
 | .ifc _ t,_,_,⟨_,_,_,_,_,hd⟩=>bB.wf t _ _ hd
 | .nili,_,_,_=>trivial
 | .nilp,_,_,_=>trivial
 | .nilf,_,_,_=>trivial
theorem aIT{S:Nat→Prop}:∀(t:Ty) (x:t.den) (vs:List Value),sC w S t x vs→t.wf x
 | .pair a r,x,vs,⟨v,f,e,g,q⟩=>⟨bB.wf a _ _ g.cells,aIT r _ _ q⟩
 | .unit,_,_,_=>trivial
 | .bool,_,_,h=>h.elim
 | .u _,_,_,h=>h.elim
 | .i _,_,_,h=>h.elim
 | .str,_,_,h=>h.elim
 | .sl _,_,_,h=>h.elim
 | .arr _ _,_,_,h=>h.elim
 | .expr,_,_,h=>h.elim
 | .rp _,_,_,h=>h.elim
 | .clo _ _,_,_,h=>h.elim
 | .ifc _ _,_,_,h=>h.elim
 | .nili,_,_,h=>h.elim
 | .nilp,_,_,h=>h.elim
 | .nilf,_,_,h=>h.elim
theorem aHo{n:Int}:fits .i64 n↔ -9223372036854775808≤n∧n≤9223372036854775807:=by
 rfl
theorem bFh:maxLen=9223372036854775807:=rfl
def post(P:Program)(fn:Func)(S:Nat→Prop)(w0:World)(r:RK)(y:r.ty.den):Exit→Act→World→Prop :=
 bodyPost P fn fun e w'=>∃v,e= .returned v∧jB nothing w0 w'∧bE2 w' S w0.heap.size r y v
theorem bCA{f:FuncId}{fn:Func}{g:Code}{sp:aF}(hE:jC P E)(U:P.funcs[f]? = some fn)(hb:fn.body=some g)(q:jI fn.ntmps g=true)(Z:aSb sp.args≤fn.ntmps)
  (ht:∀(w0:World) (S:Nat→Prop) (x:sp.args.den),sp.args.wf x→sp.pre x→Tri (fr P E S w0 fn.ntmps) g (post P fn S w0 sp.res (sp.fn x)) (cA sp.args x 0) []):FOK P E.G f sp:=by
 intro w S I x L N z hp;refine calls_of_wp U hb ?_;refine ht w S x (aIT _ _ _ z) hp q ⟨S,fun _=>Go.undef,0,fun _ _=>False⟩ _ w ⟨⟨rfl,.refl _ _,L,fun b hb _=>.inl hb,fun i o J=>by grind,fun i o b J=>by grind,fun i j oi Y b hi=>by grind,⟨Nat.le_refl _,fun i hi=>absurd hi (Nat.not_lt_zero i)⟩⟩,N,?_,?_,rfl⟩
 ·refine aUG _ x 0 I.toList _ z rfl fun i v hv=>?_;have O:i<I.size:=by
   grind
  simp_all[Nat.zero_add,Array.getElem?_toList,Array.getElem?_append,Array.getElem?_eq_getElem]
 ·have:=aUH _ _ _ z;simp_all
def aMQ:List Value→Value
 | [v]=>v
 | vs=>.tuple vs.toArray
end
end Go.Vc

