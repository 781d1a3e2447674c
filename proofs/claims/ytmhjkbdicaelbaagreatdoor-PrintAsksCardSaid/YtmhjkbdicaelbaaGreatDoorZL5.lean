import Derived.Test.YtmhjkbdicaelbaaGreatDoorZL4
import Derived.ProofKit
import Derived.OpenShut
import Derived.Below
import Derived.Recover
set_option linter.unusedVariables false
set_option linter.unusedSimpArgs false
namespace Go.Vc
open Go.RowKit
structure Hit where
 sp:qW
 σ:List Nat
 d:sp.D
def aPE(h:List Obj)(σ:List Nat):List AV→List AV→Prop
 | [],[]=>True
 | v::r,.val t x::r'=>AV.as (h.map dY) t v=some x∧aPE h σ r r'
 | v::r,u::r'=>ren σ v=u∧aPE h σ r r'
 | _,_=>False
def bMX(n:Nat)(σ:List Nat):Bool:=σ.all fun i=>decide (i<n)
def uS:AV→Bool
 | .junk=>false
 | _=>true
def bIC(f:List Nat):AV→Bool
 | .tup g=>g.all fun u=>uS (aGF f u)
 | _=>true
def aNg(h:List Obj)(vs:List AV)(t:Hit):Prop :=
 nodupB t.σ=true∧bMX h.length t.σ=true∧t.sp.m≤t.σ.length∧aPE h t.σ vs (t.sp.av t.d)∧t.σ.map (fun i=>xV t.σ (h.getD i .dead))=t.sp.hp t.d∧t.sp.pre t.d
def bB0(o:bNq)(k:AV→List Obj→Prop)(kp:Pan→List Obj→Prop):Prop :=
 match o with
 | .ret v h=>k v h
 | .pan p h=>kp p h
theorem bB1(v:AV)(h:List Obj)(k:AV→List Obj→Prop)(kp:Pan→List Obj→Prop):bB0 (.ret v h) k kp=k v h:=rfl
theorem bB2(p:Pan)(h:List Obj)(k:AV→List Obj→Prop)(kp:Pan→List Obj→Prop):bB0 (.pan p h) k kp=kp p h:=rfl
theorem bID(c:Prop)[Decidable c](a b:bNq)(k:AV→List Obj→Prop)(kp:Pan→List Obj→Prop):bB0 (if c then a else b) k kp=((c→bB0 a k kp)∧(¬c→bB0 b k kp)):=by
 grind
def aDE(G:Nat→AV)(env:St)(h:List Obj)(o:Oper):Option (FuncId×List AV) :=
 match o.op with
 | .call c=>match c.callee with
  | .value x=>match evA G env x with
   | .fn f [] l2=>if aGa h l2=true then some (f,c.args.toList.map (evA G env)++l2.map fun i=>.ptr i []) else none
   | .fn f (i::l1) l2=>if aGa h (i::l1)=true∧aGa h l2=true then some (f,((i::l1).map fun i=>.ptr i [])++(c.args.toList.map (evA G env)++l2.map fun i=>.ptr i [])) else none
   | .val (.clo g t) y=>if vO t=true then some (g,c.args.toList.map (evA G env)++aEa t y) else none
   | _=>none
  | _=>none
 | _=>none
def bB3(Δ:FuncId→List AV→List Obj→Option Hit)(h:List Obj):Option (FuncId×List AV)→Option Hit
 | some (f,g)=>Δ f g h
 | none=>none
def aZq:Option (FuncId×List AV)→List AV
 | some (_,f)=>f
 | none=>[]
def aUt(G:Nat→AV)(env:St)(o:Oper):Option Pan :=
 match o.op with
 | .call c=>match c.callee with
  | .builtin .panic=>match c.args.toList with
   | [x]=>match evA G env x with
    | .val (.ifc k t) d=>some ⟨k,t,d⟩
    | _=>none
   | _=>none
  | _=>none
 | .panic x=>match evA G env x with
  | .val (.ifc k t) d=>some ⟨k,t,d⟩
  | _=>none
 | _=>none
def aPF(T:Tab)(h:List Obj)(t:TypeId)(x:AV)(lo hi:Option AV):Prop×AV :=
 match x with
 | .own i=>match h[i]? with
  | some (.row _ c f)=>match (lo.map aDx).getD (some 0),(hi.map aDx).getD (some (f.length:Int)) with
   | some l,some u=>(T t=some (.sl c)∧0≤l∧l<u∧u≤(f.length:Int),.sub i c.cells l.toNat (u-l).toNat)
   | _,_=>(False,.junk)
  | _=>(False,.junk)
 | .ptr i []=>match h[i]? with
  | some (.box _ (.val (.arr n c) _))=>match (lo.map aDx).getD (some 0),(hi.map aDx).getD (some (n:Int)) with
   | some l,some u=>(T t=some (.arr n c)∧0≤l∧l<u∧u≤(n:Int),.sub i c.cells l.toNat (u-l).toNat)
   | _,_=>(False,.junk)
  | _=>(False,.junk)
 | _=>(False,.junk)
noncomputable def aUu(E:Env)(sb:List Nat)(env:St)(h:List Obj)(o:Oper):Prop×AV×List Obj :=
 match o.op,o.dst with
 | .slice t x lo hi none,some d=>bif sb.contains d then ((aPF E.T h t (evA E.G env x) (lo.map (evA E.G env)) (hi.map (evA E.G env))).1,(aPF E.T h t (evA E.G env x) (lo.map (evA E.G env)) (hi.map (evA E.G env))).2,h) else xU E env h o
 | _,_=>xU E env h o
def aK2(E:Env)(Δ:FuncId→List AV→List Obj→Option Hit)(sb:List Nat)(env:St)(h:List Obj)(o:Oper)(k:AV→List Obj→Prop)(kp:Pan→List Obj→Prop):Prop :=
 match bB3 Δ h (aDE E.G env h o) with
 | some t=>aNg h (aZq (aDE E.G env h o)) t∧bB0 (t.sp.out t.d) (fun v h'=>bIC (qR t.σ t.sp.m h.length h'.length) v=true∧k (emb (qR t.σ t.sp.m h.length h'.length) v) (aFa t.σ t.sp.m h h')) (fun p h'=>kp p (aFa t.σ t.sp.m h h'))
 | none=>match aUt E.G env o with
  | some p=>kp p h
  | none=>match aUu E sb env h o with
   | (p,v,h')=>p∧k v h'
def aBO(E:Env)(Δ:FuncId→List AV→List Obj→Option Hit)(sb:List Nat)(all:List Oper):List Oper→St→List Obj→(St→List Obj→Prop)→(Pan→St→List Obj→Prop)→Prop
 | [],env,h,K,_=>K env h
 | o::r,env,h,K,Kp=>match o.guard with
  | none=>aK2 E Δ sb env h o (fun v h'=>aBO E Δ sb all r (wU o.dst v env) h' K Kp) (fun p h'=>Kp p env h')
  | some (j,f)=>match aGE all j with
   | some g=>match look env g with
    | .val .bool b=>(b=f→aK2 E Δ sb env h o (fun v h'=>aBO E Δ sb all r (wU o.dst v env) h' K Kp) (fun p h'=>Kp p env h'))∧(b= !f→aBO E Δ sb all r (wU o.dst .undef env) h K Kp)
    | .undef=>aBO E Δ sb all r (wU o.dst .undef env) h K Kp
    | _=>False
   | none=>False
structure aHx(P:Program)(G:Nat→AV)(Δ:FuncId→List AV→List Obj→Option Hit):Prop where
 ok:∀f vs h t,Δ f vs h=some t→GOK P G f t.sp
 fn:∀f vs h t,Δ f vs h=some t→ ∃fn,P.funcs[f]? = some fn∧fn.name ≠ "runtime.NumGoroutine" ∧ fn.body.isSome=true
section
variable {P:Program} {E:Env} {M:Perm} {w0:World} {c:Ctx} {h:List Obj} {w:World}
theorem bFQ:∀ {l:List Nat},nodupB l=true→l.Nodup
 | [],_=>List.nodup_nil
 | i::r,h=>by
  simp only[nodupB,Bool.and_eq_true,Bool.not_eq_true'] at h;refine List.nodup_cons.2 ⟨fun hm=>?_,bFQ h.2⟩;simp_all
theorem aYv(I:Good M w0 c h w){σ:List Nat}:∀ {vs q:List AV} {xs:List Value},aPE h σ vs q→vs.length=xs.length→(∀i (f:i<vs.length) (g:i<xs.length),aZ c w vs[i] xs[i]) →
  xs.length=q.length∧ ∀i (f:i<q.length) (g:i<xs.length),aZ (c.ren σ) w q[i] xs[i]
 | [],[],[],_,_,_=>⟨rfl,fun i f=>by grind⟩
 | v::r,u::r',x::xs,J,hl,hv=>by
  have h0:=hv 0 (by simp) (by simp);simp only[List.getElem_cons_zero] at h0;have z:aZ (c.ren σ) w u x∧aPE h σ r r':=by
   cases u with
   | val t d =>
    obtain⟨f,g⟩:=J;exact⟨aZ.ofV (yY I h0 f),g⟩
   | _ =>
    obtain⟨f,g⟩:=J;grind[aTG]
  obtain⟨q1,L⟩:=aYv I z.2 (by simpa using hl) (fun i f g=>by have:=hv (i+1) (by simp_all) (by simp_all); simp_all);grind
def bOg(M:Perm)(w0:World)(c:Ctx)(h:List Obj)(w:World)(t:Hit)(e:Ending)(w':World):Prop :=
 ∃cN,dG c w cN w'∧match t.sp.out t.d with
  | .ret v h'=>∃u,e= .returned u∧Good M w0 cN (aFa t.σ t.sp.m h h') w'∧(bIC (qR t.σ t.sp.m h.length h'.length) v=true→aZ cN w' (emb (qR t.σ t.sp.m h.length h'.length) v) u)
  | .pan p h'=>∃u,e= .panicked (aW5 p.k u)∧Good M w0 cN (aFa t.σ t.sp.m h h') w'∧cZ w' cN.S p.t p.x u
theorem aYw{C:(Ending→World→Prop)→Prop}(hC:∀R R':Ending→World→Prop,C R→(∀e w',R e w'→R' e w')→C R'){G:Nat→AV}{t:Hit}{vs:List AV}{xs:Array Value}(hok:t.sp.pre t.d→GIn G t.sp (c.ren t.σ) w t.d xs.toList→C (aMd t.sp (c.ren t.σ) w t.d))(hg:Good M w0 c h w)(hG:sY G c.S w)(hl:vs.length=xs.size)(hv:∀i (W:i<vs.length) (h2:i<xs.toList.length),aZ c w vs[i] xs.toList[i])(hh:aNg h vs t) :
  C (bOg M w0 c h w t):=by
 obtain⟨W,h2,h3,h4,h5,h6⟩:=hh;have Z:∀i∈t.σ,i<h.length:=fun i hi=>by
  have:=List.all_eq_true.1 h2 i hi;simp_all
 have g0:=hg.rebase (m:=0) (Nat.zero_le _);have g1:=g0.ren (σ:=t.σ) W (by rfl);have hcn:(c.ren t.σ).n=t.σ.length:=rfl;have g2:=g1.rebase (m:=t.sp.m) (by omega);rw[h5] at g2;obtain⟨q1,q2⟩:=aYv (xs:=xs.toList) hg h4 (by omega) hv;have L:GIn G t.sp (c.ren t.σ) w t.d xs.toList:=⟨g2,hG,q1,q2⟩;refine hC _ _ (hok h6 L) ?_;rintro e w' ⟨c',g⟩;have z:∀h',Good (GM t.sp (c.ren t.σ) t.d) w c' h' w'→Good M w0 (Vc.cN c c' t.sp.m h'.length t.σ (qR t.σ t.sp.m h.length h'.length)) (aFa t.σ t.sp.m h h') w'∧dG c w (Vc.cN c c' t.sp.m h'.length t.σ (qR t.σ t.sp.m h.length h'.length)) w'∧Emb (qR t.σ t.sp.m h.length h'.length) c' (Vc.cN c c' t.sp.m h'.length t.σ (qR t.σ t.sp.m h.length h'.length)):=fun h' q =>
  hg.frame (bFQ W) Z h3 (Ml:=GM t.sp (c.ren t.σ) t.d) rfl (fun b hb=>by
   obtain⟨j,o',I,N⟩:=hb;rw[← h5,List.getElem?_map] at I;cases J:t.σ[j]? with
   | none=>simp_all
   | some i =>
    rw[J] at I;simp only[Option.map_some,Option.some.injEq] at I;subst I;rw[aNf J] at N;grind) rfl (fun j _=>rfl) q
 cases f:t.sp.out t.d with
 | ret v h' =>
  rw[f] at g;obtain⟨u,rfl,q,Y⟩:=g;obtain⟨O,f2,U⟩:=z h' q;refine⟨_,f2,?_⟩;rw[f];refine⟨u,rfl,O,fun hb=>bLg U Y fun vs hvs a ha=>?_⟩;subst hvs;have:=List.all_eq_true.1 hb a ha;intro J;rw[J] at this;cases this
 | pan p h' =>
  rw[f] at g;obtain⟨u,rfl,q,Y⟩:=g;obtain⟨O,f2,U⟩:=z h' q;refine⟨_,f2,?_⟩;rw[f];exact⟨u,rfl,O,Y.keep U.S (.refl _ _)⟩
theorem bIE{G:Nat→AV}{f:FuncId}{t:Hit}(q:GOK P G f t.sp)(I:Good M w0 c h w)(z:sY G c.S w){vs:List AV}{xs:Array Value}(hl:vs.length=xs.size)(hv:∀i (L:i<vs.length) (N:i<xs.toList.length),aZ c w vs[i] xs.toList[i])(hh:aNg h vs t) :
  Calls P f xs w (bOg M w0 c h w t) :=
 aYw (C:=Calls P f xs w) (fun R J h k=>h.mono k) (fun hp g=>q _ _ _ _ hp g) I z hl hv hh
def AtP(F:Fr)(Q:Exit→Act→World→Prop)(p:Pan)(env:St)(h:List Obj):Prop :=
 ∀c a w u,Sim F.E F.M F.w0 F.nt F.ds c env h a w→cZ w c.S p.t p.x u→Q (.panic (aW5 p.k u)) a w
theorem bIF{f:FuncId}{q l2:List Nat}{v:Value}(hv:aZ c w (.fn f q l2) v):(∀i∈q,i<c.n)∧(∀i∈l2,i<c.n)∧v= .func (.func f) (q.map c.hd).toArray (l2.map c.hd).toArray:=by
 obtain⟨g,_,h3⟩:=hv;have h3:=h3 rfl;simp only[aN] at g;obtain⟨h0,z,g⟩:=g;refine⟨h0,z,?_⟩;cases v<;>simp[Value.cells] at g h3
 simp_all
theorem bHe(hE:eQ P E){nt:Nat}{ds:List Deferred}{env:St}{a:Act}(hs:Sim E M w0 nt ds c env h a w){o:Oper}(Z:eZ nt o=true){f:FuncId}{vs:List AV}(hc:aDE E.G env h o=some (f,vs))(hfn:∃fn,P.funcs[f]? = some fn∧fn.name ≠ "runtime.NumGoroutine" ∧ fn.body.isSome=true) :
  ∃xs:Array Value,(execOp a.eval o).run P w= .ok (.enter f xs) w∧vs.length=xs.size∧ ∀i (q:i<vs.length) (z:i<xs.toList.length),aZ c w vs[i] xs.toList[i]:=by
 obtain⟨dst,op,ty,pos,aft,gd⟩:=o;unfold aDE at hc;split at hc
 ·rename_i cl Y;simp only at Y;subst Y;obtain⟨callee,args,argTypes⟩:=cl;simp only at hc;simp only[eZ,Bool.and_eq_true] at Z;have U:∀x∈(Op.call ⟨callee,args,argTypes⟩).operands,pA x=true:=Array.all_eq_true_iff_forall_mem.1 Z.1;have hargs:∀x∈args.toList,aZ c w (evA E.G env x) (a.eval x):=fun x hx=>aE3 hs.env hs.glob (U x (by
   simp only[Op.operands,Call.operands];exact Array.mem_append.2 (.inr (by simpa using hx))))
  have hav:=aKz (ρ:=evA E.G env) (a:=a) (c:=c) (w:=w) hargs;split at hc
  ·rename_i x;have hx:=aE3 hs.env hs.glob (U x (by simp[Op.operands,Call.operands]));have fin:∀(g:FuncId) (N I:List Value) (fv W:List AV),a.eval x= .func (.func g) N.toArray I.toArray→N.length=fv.length→(∀i (q:i<fv.length) (z:i<N.length),aZ c w fv[i] N[i])→I.length=W.length→(∀i (q:i<W.length) (z:i<I.length),aZ c w W[i] I[i])→f=g→vs=fv++(args.toList.map (evA E.G env)++W) →
     ∃xs:Array Value,(execOp a.eval ⟨dst,.call ⟨.value x,args,argTypes⟩,ty,pos,aft,gd⟩).run P w= .ok (.enter f xs) w∧vs.length=xs.size∧ ∀i (q:i<vs.length) (z:i<xs.toList.length),aZ c w vs[i] xs.toList[i]:=fun g N I fv W hf hfl hfv hul huv e1 e2=>by
    subst e1;subst e2;have app:∀ {O l2:List AV} {m1 m2:List Value},m1.length=O.length→(∀i (q:i<O.length) (z:i<m1.length),aZ c w O[i] m1[i])→(∀i (q:i<l2.length) (z:i<m2.length),aZ c w l2[i] m2[i])→ ∀i (q:i<(O++l2).length) (z:i<(m1++m2).length),aZ c w (O++l2)[i] (m1++m2)[i]:=fun {O l2 m1 m2} hl k1 k2 i q z=>by
     grind
    refine⟨(N++(args.toList.map a.eval++I)).toArray,?_,by simp_all,fun i q z=>?_⟩
    ·have hrun:=aEk (P:=P) (w:=w) (args:=(N++(args.toList.map a.eval++I)).toArray) hfn;have e2:N.toArray++args.map a.eval++I.toArray=(N++(args.toList.map a.eval++I)).toArray:=(by simp_all);simp only[execOp,resolve,Deferred.ofValue,hf,pure_bind];grind[invoke]
    ·exact app hfl hfv (app (by simp) hav huv) i (by omega) (by omega)
   split at hc
   ·rename_i g l2 J;split at hc
    ·rename_i L;simp only[Option.some.injEq,Prod.mk.injEq] at hc;rw[J] at hx;obtain⟨q,z⟩:=bFE hx;exact fin g [] (l2.map c.hd) [] (l2.map fun i=>.ptr i []) z rfl (fun i q=>by cases q) (by simp) (aJe hs.good L q) hc.1.symm hc.2.symm
    grind
   ·rename_i g i0 O l2 J;split at hc
    ·rename_i L;simp only[Option.some.injEq,Prod.mk.injEq] at hc;rw[J] at hx;obtain⟨q,z,h3⟩:=bIF hx;exact fin g ((i0::O).map c.hd) (l2.map c.hd) ((i0::O).map fun i=>.ptr i []) (l2.map fun i=>.ptr i []) h3 (by simp) (aJe hs.good L.1 q) (by simp) (aJe hs.good L.2 z) hc.1.symm hc.2.symm
    grind
   ·rename_i g t y J;split at hc
    ·rename_i hcp;simp only[Option.some.injEq,Prod.mk.injEq] at hc;rw[J] at hx;obtain⟨I,q,z⟩:=bBI hx;obtain⟨k1,k2⟩:=aT6 hcp z;exact fin g [] I [] (aEa t y) q rfl (fun i q=>by cases q) k1 k2 hc.1.symm hc.2.symm
    grind
   grind
  grind
 grind
theorem bFR{nt:Nat}{ds:List Deferred}{env:St}{a:Act}(hs:Sim E M w0 nt ds c env h a w){o:Oper}(z:eZ nt o=true){p:Pan}(hc:aUt E.G env o=some p) :
  ∃u,(execOp a.eval o).run P w= .halt (.panic (.iface p.k u)) w∧cZ w c.S p.t p.x u:=by
 obtain⟨O,Z,ty,Y,N,gd⟩:=o;simp only[eZ,Bool.and_eq_true] at z;unfold aUt at hc;split at hc
 ·rename_i W g;simp only at g;subst g;obtain⟨callee,args,argTypes⟩:=W;simp only at hc;have f:∀x∈(Op.call ⟨callee,args,argTypes⟩).operands,pA x=true:=Array.all_eq_true_iff_forall_mem.1 z.1;split at hc
  ·split at hc
   ·rename_i x hx;split at hc
    ·rename_i k t d q;cases hc;have I:x∈args.toList:=(by simp_all);have hv:=aE3 hs.env hs.glob (f x (by
      simp only[Op.operands,Call.operands];exact Array.mem_append.2 (.inr (by simpa using I))))
     rw[q] at hv;obtain⟨u,L,J⟩:=aT8 hv;have U:args= #[x]:=(by grind);refine⟨u,?_,J⟩;simp[execOp,resolve,invoke,builtin,U,L,Instr.panic,goPanic]
    grind
   grind
  grind
 ·rename_i x g;simp only at g;subst g;have f:∀y∈(Op.panic x).operands,pA y=true:=Array.all_eq_true_iff_forall_mem.1 z.1;split at hc
  ·rename_i k t d q;cases hc;have hv:=aE3 hs.env hs.glob (f x (by simp[Op.operands]));rw[q] at hv;obtain⟨u,L,J⟩:=aT8 hv;simp_all[execOp,Instr.panic,goPanic]
  grind
 grind
end
end Go.Vc
namespace Go.Vc
open Go.RowKit
section
variable {P:Program} {E:Env} {M:Perm} {w0:World} {c:Ctx} {h:List Obj} {w:World}
theorem Sim.step{nt:Nat}{ds:List Deferred}{env:St}{a:Act}(hs:Sim E M w0 nt ds c env h a w){h':List Obj}{c':Ctx}{w':World}(hl:dG c w c' w')(f:Good M w0 c' h' w'):Sim E M w0 nt ds c' env h' a w' :=
 ⟨f,hs.glob.mono hl.le.S hl.same,hs.env.keep hl,hs.size,hs.defers⟩
theorem bLh(W:iF P E.T)(hg:Good M w0 c h w){t:TypeId}{x:AV}{v:Value}{lo hi:Option AV}{J hv:Option Value}(hx:aZ c w x v)(I:aW0 c w lo J)(f:aW0 c w hi hv)(hc:(aPF E.T h t x lo hi).1) :
  ∃u,(Instr.sliceAt t v J hv none).run P w= .ok u w∧aZ c w (aPF E.T h t x lo hi).2 u:=by
 unfold aPF at hc ⊢;split at hc
 ·rename_i i;split at hc
  ·rename_i e Y Z ho;split at hc
   ·rename_i l u hl q;obtain⟨ht,h0,h1,h2⟩:=hc;obtain⟨L,rfl⟩:=aCW hx;obtain⟨vals,⟨_,hv'⟩,_⟩:=hg.objs i _ ho;obtain⟨e',hd,he,O⟩:=dZ (W _ _ ht);rcases hv' with⟨_,hz⟩|⟨g,z,cur,U,_,_,hle,hcap,_⟩
    ·omega
    have hb:(Instr.sliceBounds true Z.length z J hv none).run P w= .ok (l.toNat,u.toNat,z) w:=by
     cases lo with
     | none =>
      cases J with
      | some _=>cases I
      | none =>
       simp at hl;subst hl;cases hi with
       | none =>
        cases hv with
        | some _=>cases f
        | none =>
         simp at q;subst q;rfl
       | some ha =>
        cases hv with
        | none=>cases f
        | some hv =>
         simp at q;obtain⟨k,rfl⟩:=(by cases f with|some hh=>exact aBL hh q:∃k,hv=Value.int k u);simp[Instr.sliceBounds,eS (P:=P) (w:=w) (i:=u) (y:=z) (by omega) (by omega)]
     | some la =>
      cases J with
      | none=>cases I
      | some J =>
       simp at hl;obtain⟨k,rfl⟩:=(by cases I with|some hh=>exact aBL hh hl:∃k,J=Value.int k l);cases hi with
       | none =>
        cases hv with
        | some _=>cases f
        | none =>
         simp at q;subst q;simp[Instr.sliceBounds,eS (P:=P) (w:=w) (i:=l) (y:=Z.length) (by omega) (by omega)]
       | some ha =>
        cases hv with
        | none=>cases f
        | some hv =>
         simp at q;obtain⟨k',rfl⟩:=(by cases f with|some hh=>exact aBL hh q:∃k,hv=Value.int k u);simp[Instr.sliceBounds,eS (P:=P) (w:=w) (i:=u) (y:=z) (by omega) (by omega),eS (P:=P) (w:=w) (i:=l) (y:=u.toNat) h0 (by omega)]
    have N:¬z=l.toNat:=(by omega);refine⟨.slice (some ⟨g,l.toNat*Y.cells,none⟩) (u.toNat-l.toNat) (z-l.toNat),?_,?_⟩
    ·rw[U];simp[Instr.sliceAt,Instr.slice,bB hd,hb,dQ (W _ _ he),N,Addr.add];omega
    ·refine⟨?_,(fun h=>by simp[AV.isAgg] at h),(fun _ cs=>by simp)⟩;simp only[aN];refine⟨L,by omega,g,z-l.toNat,by rw[U]; rfl,?_⟩;grind[Value.cells]
   simp_all
  simp_all
 ·rename_i i;split at hc
  ·rename_i m n Y Z ho;split at hc
   ·rename_i l u hl q;obtain⟨ht,h0,h1,h2⟩:=hc;obtain⟨L,b,hb',rfl⟩:=aFJ hx;obtain⟨e',hd,he,O,hn1,hn2⟩:=aEU (W _ _ ht);have hb:(Instr.sliceBounds false n n J hv none).run P w= .ok (l.toNat,u.toNat,n) w:=by
     cases lo with
     | none =>
      cases J with
      | some _=>cases I
      | none =>
       simp at hl;subst hl;cases hi with
       | none =>
        cases hv with
        | some _=>cases f
        | none =>
         simp at q;subst q;rfl
       | some ha =>
        cases hv with
        | none=>cases f
        | some hv =>
         simp at q;obtain⟨k,rfl⟩:=(by cases f with|some hh=>exact aBL hh q:∃k,hv=Value.int k u);simp[Instr.sliceBounds,eS (P:=P) (w:=w) (i:=u) (y:=n) (by omega) (by omega)]
     | some la =>
      cases J with
      | none=>cases I
      | some J =>
       simp at hl;obtain⟨k,rfl⟩:=(by cases I with|some hh=>exact aBL hh hl:∃k,J=Value.int k l);cases hi with
       | none =>
        cases hv with
        | some _=>cases f
        | none =>
         simp at q;subst q;simp[Instr.sliceBounds,eS (P:=P) (w:=w) (i:=l) (y:=n) (by omega) (by omega)]
       | some ha =>
        cases hv with
        | none=>cases f
        | some hv =>
         simp at q;obtain⟨k',rfl⟩:=(by cases f with|some hh=>exact aBL hh q:∃k,hv=Value.int k u);simp[Instr.sliceBounds,eS (P:=P) (w:=w) (i:=u) (y:=n) (by omega) (by omega),eS (P:=P) (w:=w) (i:=l) (y:=u.toNat) h0 (by omega)]
    have N:¬n=l.toNat:=(by omega);refine⟨.slice (some ⟨b,l.toNat*Y.cells,none⟩) (u.toNat-l.toNat) (n-l.toNat),?_,?_⟩
    ·simp[Instr.sliceAt,Instr.sureAddr,bB hd,hb,dQ (W _ _ he),N,Addr.add,mH];omega
    ·refine⟨?_,(fun h=>by simp[AV.isAgg] at h),(fun _ cs=>by simp)⟩;simp only[aN];refine⟨L,by grind[maxLen],b,n-l.toNat,hb',?_⟩;grind[Value.cells]
   simp_all
  simp_all
 simp_all
theorem bB4(N:eQ P E){sb:List Nat}{nt:Nat}{ds:List Deferred}{env:St}{a:Act}{o:Oper}(hs:Sim E M w0 nt ds c env h a w)(I:eZ nt o=true)(hc:(aUu E sb env h o).1):bEd P M w0 c o a w (aUu E sb env h o).2.2 (aUu E sb env h o).2.1:=by
 unfold aUu at hc ⊢;split at hc
 ·rename_i t x lo hi d z J;cases g:sb.contains d with
  | false =>
   simp only[g,cond_false] at hc ⊢;grind[aKF]
  | true =>
   simp only[g,cond_true] at hc ⊢;simp only[eZ,Bool.and_eq_true] at I;have q:∀x∈o.op.operands,pA x=true:=Array.all_eq_true_iff_forall_mem.1 I.1;have f:∀y∈o.op.operands,aZ c w (evA E.G env y) (a.eval y):=fun y hy=>aE3 hs.env hs.glob (q y hy);rw[z] at f;obtain⟨u,O,L⟩:=bLh (P:=P) N.T hs.good (f x (by simp[Op.operands])) (aT5 (o:=lo) fun y hy=>f y (by simp[Op.operands,hy])) (aT5 (o:=hi) fun y hy=>f y (by simp[Op.operands,hy])) hc;refine(Did.of_value (v:=u) (h:=h) hs.good ?_ L).toE;simp[execOp,z,O]
 grind[aKF]
theorem bB5(Y:eQ P E){sb:List Nat}{Δ:FuncId→List AV→List Obj→Option Hit}(N:aHx P E.G Δ){nt:Nat}{ds:List Deferred}{env:St}{a:Act}{o:Oper}(hs:Sim E M w0 nt ds c env h a w)(z:eZ nt o=true){k:AV→List Obj→Prop}{kp:Pan→List Obj→Prop}(hc:aK2 E Δ sb env h o k kp)
  {next:Act→World→Prop} {Q:Exit→Act→World→Prop} (U:∀v h' c' u w',k v h'→aMa M w0 c w h' v u w' c'→next (a.put o.dst u) w') (hp:∀p h' c' u w',kp p h'→dG c w c' w'→Good M w0 c' h' w'→cZ w' c'.S p.t p.x u→Q (.panic (aW5 p.k u)) a w'):o.wp P a w next Q:=by
 unfold aK2 at hc;cases I:aDE E.G env h o with
 | some fv =>
  obtain⟨f,W⟩:=fv;simp only[I,bB3,aZq] at hc;cases hd:Δ f W h with
  | some t =>
   simp only[hd] at hc;obtain⟨h1,L⟩:=hc;obtain⟨xs,q1,O,q3⟩:=bHe Y hs z I (N.fn f W h t hd);unfold Oper.wp;rw[q1];refine Calls.mono (bIE (N.ok f W h t hd) hs.good hs.glob O q3 h1) ?_;rintro e w' ⟨cN,hl,q⟩;cases J:t.sp.out t.d with
   | ret v h' =>
    rw[J] at q L;obtain⟨u,rfl,Z,hv⟩:=q;exact U _ _ cN u w' L.2 ⟨hl,Z,hv L.1⟩
   | pan p h' =>
    rw[J] at q L;obtain⟨u,rfl,Z,hv⟩:=q;exact hp p _ cN u w' L hl Z hv
  | none =>
   simp only[hd] at hc;cases g:aUt E.G env o with
   | some p =>
    simp only[g] at hc;obtain⟨u,q1,O⟩:=bFR (P:=P) hs z g;unfold Oper.wp;rw[q1];exact hp p h c u w hc (.refl _ _) hs.good O
   | none =>
    simp only[g] at hc;exact(bB4 Y hs z hc.1).wp fun v w' c' ha=>U _ _ c' v w' hc.2 ha
 | none =>
  simp only[I,bB3] at hc;cases g:aUt E.G env o with
  | some p =>
   simp only[g] at hc;obtain⟨u,q1,O⟩:=bFR (P:=P) hs z g;unfold Oper.wp;rw[q1];exact hp p h c u w hc (.refl _ _) hs.good O
  | none =>
   simp only[g] at hc;exact(bB4 Y hs z hc.1).wp fun v w' c' ha=>U _ _ c' v w' hc.2 ha
theorem aZr(Z:eQ P E){sb:List Nat}{Δ:FuncId→List AV→List Obj→Option Hit}(L:aHx P E.G Δ){ops:List Oper}{Q:Exit→Act→World→Prop}{nt:Nat}{ds:List Deferred}(g:∀o∈ops,eZ nt o=true){K:St→List Obj→Prop}{Kp:Pan→St→List Obj→Prop}
  (Y:∀env h c a w,K env h→Sim E M w0 nt ds c env h a w→Q .normal a w) (J:∀p env h c a w u,Kp p env h→Sim E M w0 nt ds c env h a w→cZ w c.S p.t p.x u→Q (.panic (aW5 p.k u)) a w) :
  ∀(m i:Nat),i+m=ops.length→ ∀(env:St) (h:List Obj) (c:Ctx) (a:Act) (w:World),aBO E Δ sb ops (ops.drop i) env h K Kp→Sim E M w0 nt ds c env h a w→wpOps P ops.toArray Q (List.range' i m) a w
 | 0,i,hi,env,h,c,a,w,hs,f=>by
  rw[List.drop_eq_nil_of_le (by omega)] at hs;simp only[List.range'_zero,wpOps];exact Y env h c a w hs f
 | m+1,i,hi,env,h,c,a,w,hs,f=>by
  have z:i<ops.length:=by omega
  rw[List.drop_eq_getElem_cons z] at hs;have q:=g ops[i] (List.getElem_mem z);have O:∀(v:Value) (av:AV),aZ c w av v→Sim E M w0 nt ds c (wU ops[i].dst av env) h (a.put ops[i].dst v) w:=fun v av hv=>f.after q ⟨.refl _ _,f.good,hv⟩;have hrun:aK2 E Δ sb env h ops[i] (fun v h'=>aBO E Δ sb ops (ops.drop (i+1)) (wU ops[i].dst v env) h' K Kp) (fun p h'=>Kp p env h')→Region.wanted ops[i] (yielded ops.toArray a.tmps)=true→wpOps P ops.toArray Q (List.range' i (m+1)) a w:=fun h1 W=>by
   rw[List.range'_succ];simp only[wpOps,List.getElem?_toArray,List.getElem?_eq_getElem z,W,if_true]
   left
   refine bB5 Z L f q h1 (fun v h' c' u w' hk ha=>?_) (fun p h' c' u w' hk hl hg hr=>J p env h' c' a w' u hk (f.step hl hg) hr);exact aZr Z L g Y J m (i+1) (by omega) _ _ c' _ w' hk (f.after q ha)
  have hskip:aBO E Δ sb ops (ops.drop (i+1)) (wU ops[i].dst .undef env) h K Kp→Region.wanted ops[i] (yielded ops.toArray a.tmps)=false→wpOps P ops.toArray Q (List.range' i (m+1)) a w:=fun h2 W=>by
   rw[List.range'_succ];simp only[wpOps,List.getElem?_toArray,List.getElem?_eq_getElem z,W,Bool.false_eq_true,if_false];exact aZr Z L g Y J m (i+1) (by omega) _ _ c _ w h2 (O _ _ rfl)
  simp only[aBO] at hs;cases U:ops[i].guard with
  | none =>
   grind[Region.wanted]
  | some jp =>
   obtain⟨j,N⟩:=jp;rw[U] at hs;simp only at hs;cases I:aGE ops j with
   | none=>simp_all
   | some dj =>
    rw[I] at hs;simp only at hs;have hv:=f.env dj;split at hs
    ·rename_i b hb;rw[hb] at hv;have hb':=aFG hv;have hy:=zA g f.size I hb';simp only[yb] at hy;by_cases e:b=N
     ·grind[Region.wanted]
     ·have e':b= !N:=(by cases b<;>cases N<;>simp_all);grind[Region.wanted]
    ·rename_i hb;rw[hb] at hv;have hy:=zA g f.size I (v:=Go.undef) hv;grind[Region.wanted,undef,yb]
    simp_all
theorem bFS{F:Fr}{K:Exit→St→List Obj→Prop}{Q:Exit→Act→World→Prop}{env:St}{h:List Obj}(hF:xT F)(I:∀e env h,K e env h→At F (Q e) env h){Δ:FuncId→List AV→List Obj→Option Hit}(g:aHx F.P F.E.G Δ){id:Nat}{ops:Array Oper}(keep sb:List Nat)
  (hv:aBO F.E Δ sb ops.toList ops.toList env h (fun env h=>K .normal (keep.map fun t=>(t,look env t)) h) (fun p env h=>AtP F Q p env h)):Tri F (.region id ops false) Q env h:=fun f c a w hs=>by
 simp only[fL,Bool.and_eq_true,Bool.or_eq_true,Bool.not_eq_true'] at f;obtain⟨⟨z,J⟩,h3⟩:=f;refine wp_region ?_;have:=aZr (Q:=Q) hF.env g (List.all_eq_true.1 z) (K:=fun env h=>K .normal (keep.map fun t=>(t,look env t)) h) (Kp:=fun p env h=>AtP F Q p env h) (fun env h c a w hk hs=>I _ _ _ hk c a w (hs.keep keep)) (fun p env h c a w u hk hs q=>hk c a w u hs q) ops.toList.length 0 (by simp) env h c a w (by simpa using hv) hs;simp_all[List.range_eq_range']
theorem uH{F:Fr}{Q:Exit→Act→World→Prop}{env:St}{h:List Obj}(hF:xT F){Δ:FuncId→List AV→List Obj→Option Hit}(f:aHx F.P F.E.G Δ){id:Nat}{ops:Array Oper}(keep sb:List Nat)
  (hv:aBO F.E Δ sb ops.toList ops.toList env h (fun env h=>At F (Q .normal) (keep.map fun t=>(t,look env t)) h) (fun p env h=>AtP F Q p env h)):Tri F (.region id ops false) Q env h :=
 bFS hF (K:=fun e=>At F (Q e)) (fun _ _ _ h=>h) f keep sb hv
theorem bB6{F:Fr}{K:Act→World→Prop}{Q:Exit→Act→World→Prop}{p:Pan}{env:St}{h:List Obj}(hq:AtP F Q p env h):AtP F (Exit.then K Q) p env h:=hq
def aJj:List AV→Nat→St
 | [],_=>[]
 | v::r,k=>(k,v)::aJj r (k+1)
theorem aZs{f:Array Value}:∀(g:List AV) (vs:List Value) (k:Nat),vs.length=g.length→(∀i (z:i<g.length) (I:i<vs.length),aZ c w g[i] vs[i])→(∀i v,vs[i]? = some v→f.getD (k+i) Go.undef=v)→aIM c w (aJj g k) f
 | [],_,k,_,_,_=>fun t=>trivial
 | u::g,v::vs,k,hl,hv,ht=>by
  have h0:=hv 0 (by simp) (by simp);have J:=ht 0 v (by simp);have q:=aZs g vs (k+1) (by simp_all) (fun i z I=>by have:=hv (i+1) (by simp_all) (by simp_all); simp_all) (fun i x hx=>by
   have:=ht (i+1) x (by simp_all);rw[show k+1+i=k+(i+1) from by omega]; exact this)
  intro t;simp only[aJj,look];split
  ·simp_all
  ·exact q t
def AV.wfV:AV→Prop
 | .val t x=>t.wf x
 | .full t f=>(Ty.sl t).wf f
 | _=>True
def AV.wfL:List AV→Prop
 | []=>True
 | v::r=>v.wfV∧AV.wfL r
def Obj.wfV:Obj→Prop
 | .box _ (.agg g)=>AV.wfL g
 | .box _ v=>v.wfV
 | .row _ t f=>(Ty.arr f.length t).wf f∧f.length≤maxLen
 | .frz t f=>(Ty.sl t).wf f
 | .tre _ _ t f=>(Ty.sl t).wf f
 | _=>True
def Obj.wfL:List Obj→Prop
 | []=>True
 | o::r=>o.wfV∧Obj.wfL r
theorem aUv{v:AV}{cs:List Value}(f:aN c w v cs):v.wfV:=by
 cases v<;>first|trivial|skip
 case val t x=>exact bC.wf t x cs f
 case full t xs =>
  simp only[aN] at f;obtain⟨a,n,e,hs⟩:=f;exact bC.wf (.sl t) xs cs ⟨a,n,n,e,hs⟩
theorem bIG:∀ {vs:List AV} {cs:List Value},jY c w vs cs→AV.wfL vs
 | [],_,_=>trivial
 | v::r,_,⟨c1,q,e,f,g⟩=>⟨aUv f,bIG g⟩
theorem bNs{v:AV}{x:Value}(f:aZ c w v x):v.wfV:=by
 cases v<;>first|trivial|exact aUv f.1
theorem aZt:∀ {f:List AV} {vs:List Value},vs.length=f.length→(∀i (g:i<f.length) (q:i<vs.length),aZ c w f[i] vs[i])→AV.wfL f
 | [],_,_,_=>trivial
 | u::f,v::vs,hl,hv=>⟨bNs (hv 0 (by simp) (by simp)),aZt (vs:=vs) (by simp_all) (fun i g q=>by have:=hv (i+1) (by simp_all) (by simp_all); simp_all)⟩
theorem bNt{i:Nat}{o:Obj}(q:aIL c w i o):o.wfV:=by
 cases o with
 | dead=>trivial
 | box n v =>
  obtain⟨b,cells,e,_,_,_,I⟩:=q;cases v<;>first|exact bIG I|exact aUv I|trivial
 | row e t f =>
  obtain⟨J,z,N⟩:=q;refine⟨bC.wf _ _ _ N,?_⟩;rcases z.2 with⟨_,h0⟩|⟨g,O,L,_,_,_,h3,I,_⟩
  all_goals omega
 | frz t f=>exact bC.wf (.sl t) f _ q
 | map k v m=>trivial
 | tre e m t f =>
  obtain⟨B,z,_⟩:=q;exact bC.wf (.sl t) f _ (kT.toC (S':=fun _=>True) (fun _ _=>trivial) _ _ _ _ _ (fun _ _=>trivial) z)
 | trh e m t f k v=>trivial
theorem bFT(g:Good M w0 c h w):Obj.wfL h:=by
 have:∀(l:List Obj),(∀o∈l,o.wfV)→Obj.wfL l:=fun l=>by
  induction l with
  | nil=>intro _; trivial
  | cons o r f=>intro hl; exact⟨hl o (by simp),f fun x hx=>hl x (by simp[hx])⟩
 refine this h fun o q=>?_;obtain⟨i,hi,rfl⟩:=List.mem_iff_getElem.1 q;exact bNt (g.objs i _ (List.getElem?_eq_getElem hi))
def aQ(T:Tab)(h:List Obj)(env:St):List ResultVar→Prop×List AV
 | []=>(True,[])
 | .tmp t::r=>((aQ T h env r).1,look env t::(aQ T h env r).2)
 | .cell a t::r=>((aI3 T h t (look env a)).1∧(aQ T h env r).1,(aI3 T h t (look env a)).2::(aQ T h env r).2)
theorem aUw(O:iF P E.T)(U:Good M w0 c h w){env:St}{f:Array Value}(he:aIM c w env f){g:ResultVar→Sem Value}(I:∀t,g (.tmp t)=pure (f.getD t Go.undef))(z:∀a t,g (.cell a t)=(do loadVar t (← asAddr (f.getD a Go.undef)))):∀(l:List ResultVar),(aQ E.T h env l).1 →
  ∃q:List Value,(l.mapM g).run P w= .ok q w∧q.length=(aQ E.T h env l).2.length∧ ∀i (W:i<(aQ E.T h env l).2.length) (Z:i<q.length),aZ c w (aQ E.T h env l).2[i] q[i]
 | [],_=>⟨[],by simp,rfl,fun i W=>by simp_all⟩
 | .tmp t::r,hc=>by
  simp only[aQ] at hc ⊢;obtain⟨q,q1,Y,q3⟩:=aUw O U he I z r hc;refine⟨f.getD t Go.undef::q,by simp_all,by simp[Y],fun i W Z=>?_⟩;cases i with
  | zero=>exact he t
  | succ i=>simp_all
 | .cell a t::r,hc=>by
  simp only[aQ] at hc ⊢;obtain⟨q,q1,Y,q3⟩:=aUw O U he I z r hc.2;obtain⟨u,L,hr⟩:=bFu (P:=P) O U (he a) hc.1;have J:(g (.cell a t)).run P w= .ok u w:=by
   rw[z];have hv:=he a;generalize f.getD a Go.undef=v at L hv;simp only[Instr.loadAt,Sem.run_bind] at L;simp only[Sem.run_bind];have:∃N,v= .pointer (some N):=by
    cases v with
    | pointer p =>
     cases p with
     | some N=>simp_all
     | none=>simp[Instr.sureAddr,Result.andThen] at L
    | _=>simp[Instr.sureAddr,Result.andThen] at L
   obtain⟨N,rfl⟩:=this
   simpa [Instr.sureAddr,asAddr] using L
  refine⟨u::q,by simp only[List.mapM_cons,Sem.run_bind,J,Sem.run_pure,Result.andThen_ok,q1],by simp[Y],fun i W Z=>?_⟩;grind
theorem aHy(O:iF P E.T)(hg:Good M w0 c h w){env:St}{f:Array Value}(he:aIM c w env f){fn:Func}{l:List ResultVar}(U:fn.results=l.toArray)(hc:(aQ E.T h env l).1) :
  ∃q:List Value,(results fn f).run P w= .ok (aK1 q) w∧q.length=(aQ E.T h env l).2.length∧ ∀i (W:i<(aQ E.T h env l).2.length) (Y:i<q.length),aZ c w (aQ E.T h env l).2[i] q[i]:=by
 unfold results;rw[U];simp only[Sem.run_bind];rw[List.mapM_toArray,Sem.run_map];generalize hm:(List.mapM _ l:Sem (List Value))=L;have z:∀(g:ResultVar→Sem Value),(∀t,g (.tmp t)=pure (f.getD t Go.undef))→(∀a t,g (.cell a t)=(do loadVar t (← asAddr (f.getD a Go.undef))))→List.mapM g l=L →
   ∃q:List Value,L.run P w= .ok q w∧q.length=(aQ E.T h env l).2.length∧ ∀i (W:i<(aQ E.T h env l).2.length) (Y:i<q.length),aZ c w (aQ E.T h env l).2[i] q[i]:=fun g I J e=>by
  subst e; exact aUw (P:=P) O hg he I J l hc
 obtain⟨q,q1,Z,N⟩:=z _ (fun t=>rfl) (fun a t=>rfl) hm;refine⟨q,?_,Z,N⟩;rw[q1];simp only[Result.andThen_ok,Sem.run_pure]
 congr 1
 match q with
 | []=>rfl
 | [v]=>rfl
 | a::b::r =>
  rfl
def aHz(h:List Obj):List AV→List AV→Prop
 | [],[]=>True
 | v::r,u::r'=>(kN h v u∧uS u=true)∧aHz h r r'
 | _,_=>False
def aIP(h:List Obj):AV→List AV→Prop
 | .tup g,f=>f.length≠1∧aHz h f g
 | v,[u]=>kN h u v
 | _,_=>False
theorem aZu(z:Good M w0 c h w):∀ {f vs:List AV} {xs:List Value},aHz h f vs→xs.length=f.length→(∀i (g:i<f.length) (q:i<xs.length),aZ c w f[i] xs[i])→xs.length=vs.length∧ ∀i (g:i<vs.length) (q:i<xs.length),aZ c w vs[i] xs[i]∧uS vs[i]=true
 | [],[],[],_,_,_=>⟨rfl,fun i g=>by grind⟩
 | u::f,v::vs,x::xs,I,hl,hv=>by
  obtain⟨⟨g,J⟩,q⟩:=I;obtain⟨q1,L⟩:=aZu z q (xs:=xs) (by simp_all) (fun i g q=>by have:=hv (i+1) (by simp_all) (by simp_all); simp_all);grind[aTE]
theorem bFU{v:AV}{x:Value}(hv:aZ c w v x)(g:uS v=true)(ht:∀vs,v≠ .tup vs)(f:v≠ .undef):xQ c w v x:=by
 cases v<;>first|exact hv|grind[uS]|simp_all|simp_all
def bIH:AV→Bool
 | .tup _=>false
 | .undef=>false
 | _=>true
theorem aEm{F:Fr}{fn:Func}{sp:qW}{c0:Ctx}{d:sp.D}{env:St}{h h':List Obj}{v:AV}(hF:xT F)(l:List ResultVar)(hM:F.M=GM sp c0 d)(U:F.ds= [])(hr:fn.results=l.toArray)(q:sp.out d= .ret v h')(hh:h=h')(N:(match v with| .tup L=>L.all bIH|_=>true)=true)(hy:(aQ F.E.T h env l).1∧aIP h v (aQ F.E.T h env l).2) :
  At F (bodyPost F.P fn (aMd sp c0 F.w0 d) .ret) env h:=fun c a w hs=>by
 subst hh;obtain⟨I,q1,z,J⟩:=aHy (P:=F.P) hF.env.T hs.good hs.env hr hy.1;refine⟨hs.defers.trans U,aK1 I,q1,c,?_⟩;rw[q];refine⟨aK1 I,rfl,by rw[← hM]; exact hs.good,?_⟩;have f:=hy.2;generalize (aQ F.E.T h env l).2=rs at z J f;cases v with
 | tup L =>
  obtain⟨h1,h2⟩:=f;obtain⟨Z,W⟩:=aZu hs.good h2 z J;refine⟨I,?_,Z,fun i O Y=>?_⟩
  ·match I,z with
   | [],_=>rfl
   | [x],z=>simp_all
   | a::b::r,_=>rfl
  ·have g:=List.all_eq_true.1 N L[i] (List.getElem_mem O);exact bFU (W i O Y).1 (W i O Y).2 (fun l e=>by rw[e] at g; cases g) (fun e=>by rw[e] at g; cases g)
 | _ =>
  match rs,f with
  | [u],f =>
   match I,z with
   | [x],_=>exact aTE hs.good f (J 0 (by simp) (by simp))
theorem aBP{F:Fr}{fn:Func}{sp:qW}{c0:Ctx}{d:sp.D}{env:St}{h h':List Obj}{p:Pan}(hM:F.M=GM sp c0 d)(g:F.ds= [])(f:sp.out d= .pan p h')(hh:h=h') :
  AtP F (bodyPost F.P fn (aMd sp c0 F.w0 d)) p env h:=fun c a w u hs q=>by
 subst hh;refine⟨hs.defers.trans g,c,?_⟩;rw[f];exact⟨u,rfl,by rw[← hM]; exact hs.good,q⟩
theorem aCY{F:Fr}{Q:Exit→Act→World→Prop}{p:Pan}{env:St}{h:List Obj}(σ:List Nat)(hd:nodupB σ=true)(hp:preB F.M.m σ=true)(hk:AtP F Q p (env.map fun q=>(q.1,ren σ q.2)) (σ.map fun i=>xV σ (h.getD i .dead))):AtP F Q p env h:=fun c a w u hs f =>
 hk (c.ren σ) a w u ⟨hs.good.ren hd hp,hs.glob,fun t=>by rw[aJi (ren σ) rfl]; exact aTG (hs.env t),hs.size,hs.defers⟩ f
end
end Go.Vc
namespace Go.Vc
attribute [go_sem] Int.toNat_natCast vcA opA pv aUa bIm evA aEb aAp aFy fQ aFK
attribute [go_sem] aQS aGD aT9 aMT tB bBv aW3 bNn Go.Vc.look aI3 aCo bIk
attribute [go_sem] bHW aKD isStr bxN aIZ aTS bDT bDS aTR aY5 aY7 shU
attribute [go_sem] shI gT bKS bHX bD0 aPn aDx aAI aAI.fldT aKr aMW aMX
attribute [go_sem] aI4 aMY aPu aL2 aL4 aM5 aHl aKt aBK bH2 mm2 aAo
attribute [go_sem] dC Go.Vc.elemOf aYj List.all_cons List.all_nil Int.le_refl Nat.le_refl AV.solid AV.solid1 AV.nc AV.nc1 AV.isAgg
attribute [go_sem] Ty.isAgg Ty.cells Ty.zero aE8 List.map List.append List.length Option.map decide_true decide_false Bool.and_true Bool.true_and
attribute [go_sem] true_and and_true implies_true forall_const if_true if_false IntKind.signed Ty.den Nat.succ_ne_self ne_eq not_false_eq_true not_true_eq_false
attribute [go_sem] List.getElem?_nil aKZ List.nil_append List.cons_append beq_self_eq_true Bool.and_self cond_true cond_false Bool.cond_true_left Bool.cond_false_right yZ xU
attribute [go_sem] aEd aTF aUn bOd freezeAll freeze aZm aUd aHs xS aKC bFM
attribute [go_sem] bBF bIf Ty.isNil aPx aKB bBQ bFL wU aGE aDB aPw aFL
attribute [go_sem] uQ aE5 Ty.strB bD5 bound aCC bNe bKW bKX bNf bIn frzAll
attribute [go_sem] Ty.scalar dY bH3 RK.ty AV.tags AV.tags1 List.flatMap_cons List.flatMap_nil List.getElem?_cons_zero List.getElem?_cons_succ List.set_cons_zero List.set_cons_succ
attribute [go_sem] List.length_cons List.length_nil Nat.zero_add aEa List.getD_cons_zero List.getD_cons_succ dite_true Ty.okB Ty.byt IntKind.bits vO aGa
attribute [go_sem] bOa bDZ bNg aY9 bKY bIi allTags aL3 gt_iff_lt ge_iff_le List.length_replicate List.replicate_zero
attribute [go_sem] List.length_set bIy bIz bIA bG6 bOe aMc aJc bIj aEV aEW aUm
attribute [go_sem] Ty.keyB Ty.key1 Option.some.injEq exists_eq_left' List.append_nil decide_eq_true_eq decide_eq_false_iff_not Bool.or_eq_true Bool.or_eq_false_iff Bool.and_eq_true Int.not_lt Int.not_le
attribute [go_sem] Bool.not_eq_true' Bool.not_eq_false' eB bBV kM mZ List.take_succ_cons List.take_zero List.drop_succ_cons List.drop_zero bH1 aA2
attribute [go_sem] bGR aZc aKs Ty.flds aI5 aIO Ty.fieldOff bD1 parse aHk aZa aTV
attribute [go_sem] Option.getD_some Option.getD_none Bool.not_true Bool.not_false Bool.false_eq_true Bool.true_eq_false false_implies and_false false_and or_true true_or or_false
attribute [go_sem] false_or Bool.or_true Bool.or_false Bool.true_or Bool.false_or Bool.and_false Bool.false_and Option.isSome_some Option.isSome_none Int.reduceToNat Int.reduceLE Int.reduceLT
attribute [go_sem] Nat.reduceEqDiff Nat.reduceAdd Nat.reduceMul Nat.reduceLT Nat.reduceSub Nat.reduceLeDiff Nat.reduceDiv Nat.reduceMod Nat.reducePow Nat.reduceGT Int.reduceEq Int.reduceNe
attribute [go_sem] Int.reduceAdd Int.reduceSub Int.reduceNeg Int.reduceMul reduceIte reduceCtorEq
end Go.Vc
namespace Go.Vc
open Go.RowKit
def Ty.argB:Ty→Bool
 | .bool=>true
 | .u _=>true
 | .i _=>true
 | .str=>true
 | .sl t=>t.argB
 | .unit=>true
 | .pair a b=>a.argB&&b.argB
 | .arr _ t=>t.argB
 | .expr=>true
 | _=>false
section
variable {P:Program} {T:Tab} {H:Type} {enc:TypeId×Value→H} {w:World} {spare:Nat→Bool} {held:Bool}
theorem nL{t:TypeId}{c:Ty}(h:aEi P T t c):P.cellsOf t=c.cells:=by
 obtain⟨i,hi,hs,_⟩:=h.info;simp[Program.cellsOf,hi,hs]
def aCF(w:World):Nat→Prop:=fun b=>b<w.heap.size
theorem aPG{a:Addr}{n:Nat}{ds:List Value}(h:w.cells? 0 a n=some ds):ds.length=n∧ ∀j,j<n→w.cell? (a.add j)=ds[j]? := by
 unfold World.cells? at h;rw[if_pos (Nat.zero_le _)] at h;have hl:=mapM_some_length h;have f:=mapM_some_get h;grind
theorem bFV{b off:Nat}{v:Value}(h:w.cell? ⟨b,off,none⟩=some v):b<w.heap.size:=by
 grind[Nat.lt_or_ge,World.cell?,Array.getElem?_eq_none]
theorem bNu(a:Addr)(i j:Nat)(h:a.spot=none):(a.add i).add j=⟨a.block,a.off+i+j,none⟩:=by
 obtain⟨b,o,s⟩:=a;grind[Addr.add]
theorem bII{sz:Nat}(O:0<sz){α:Type}{R:α→List Value→Prop}{a:Addr}{len:Nat}(z:∀i,i<len→ ∃ds x,w.cells? 0 (a.add (i*sz)) sz=some ds∧R x ds) :
  ∃xs:List α,xs.length=len∧(xs= []∨ ∃b off,some a=some ⟨b,off,none⟩∧aCF w b∧ ∀i (h:i<xs.length),∃ds,R xs[i] ds∧jB w b (off+i*sz) ds):=by
 classical
 by_cases h0:len=0
 ·simp_all
 have g:0<len:=by omega
 obtain⟨J,N,e0,_⟩:=z 0 g;have L:a.spot=none:=by
  obtain⟨hl,W⟩:=aPG e0;grind[List.getElem?_eq_getElem,World.cell?_spot,Addr.add]
 have I:∃f:Nat→α,∀i,i<len→ ∃ds,w.cells? 0 (a.add (i*sz)) sz=some ds∧R (f i) ds:=by
  refine⟨fun i=>if h:i<len then Classical.choose (Classical.choose_spec (z i h)) else N,fun i hi=>?_⟩;grind
 obtain⟨f,I⟩:=I;have hcell:∀i,i<len→ ∀ds,w.cells? 0 (a.add (i*sz)) sz=some ds→jB w a.block (a.off+i*sz) ds:=fun i hi ds q j v U=>by
  grind[aPG,Nat.lt_or_ge,List.getElem?_eq_none,bNu]
 refine⟨(List.range len).map f,by simp,.inr ⟨a.block,a.off,?_,?_,fun i hi=>?_⟩⟩
 ·obtain⟨b,o,s⟩:=a; simp_all
 ·obtain⟨ds,q,_⟩:=I 0 g;have:=hcell 0 g ds q 0 (ds[0]'(by grind[aPG])) (List.getElem?_eq_getElem _);exact bFV this
 grind
theorem aUx{n:Nat}(N:∀(t:TypeId) (c:Ty) (cs:List Value) (x:DataW H×List MemPlace),T t=some c→c.argB=true→DataW.trod enc P w 0 spare held n t cs=some x→ ∃y,bC w (aCF w) c y cs)(J:iF P T)(cs:List Value) :
  ∀(I:List Field) (off:Nat) (c:Ty),dB T I off c=true→c.argB=true→(cs.drop off).length=c.cells→(∀f∈I,∃x,DataW.trod enc P w 0 spare held n f.type ((cs.drop f.offset).take (P.cellsOf f.type))=some x)→ ∃y,bC w (aCF w) c y (cs.drop off)
 | [],off,c,z,ha,hl,_=>by
  cases c<;>simp[dB] at z
  exact⟨(),List.eq_nil_of_length_eq_zero hl⟩
 | f::I,off,c,z,ha,hl,hx=>by
  cases c<;>simp only[dB,Bool.false_eq_true] at z
  case pair a b =>
   simp only[Bool.and_eq_true,decide_eq_true_eq] at z;obtain⟨⟨⟨⟨L,W⟩,h3⟩,h4⟩,O⟩:=z;simp only[Ty.argB,Bool.and_eq_true] at ha;obtain⟨x,q⟩:=hx f (by simp);rw[nL (J _ _ L),W] at q;obtain⟨U,r1⟩:=N _ _ _ _ L ha.1 q;simp only[Ty.cells] at hl;obtain⟨Y,Z⟩:=aUx N J cs I (off+a.cells) b O ha.2 (by grind) (fun g hg=>hx g (by simp[hg]));refine⟨(U,Y),(cs.drop off).take a.cells,cs.drop (off+a.cells),?_,r1,Z⟩;rw[← List.drop_drop,List.take_append_drop]
theorem bB7(O:iF P T):∀(n:Nat) (t:TypeId) (c:Ty) (cs:List Value) (x:DataW H×List MemPlace),T t=some c→c.argB=true→DataW.trod enc P w 0 spare held n t cs=some x→ ∃y,bC w (aCF w) c y cs:=by
 intro n
 induction n with
 | zero=>simp_all[DataW.trod]
 | succ n ih =>
  intro t c cs x ht ha h;obtain⟨d,hd,hb⟩:=(O _ _ ht).desc;cases c with
  | bool =>
   cases d<;>simp[fM] at hb
   obtain⟨b,e,_⟩:=DataW.trod_bool hd h;exact⟨b,e⟩
  | u k =>
   cases d<;>simp[fM] at hb
   rename_i k';obtain⟨rfl,hb⟩:=hb;obtain⟨m,e,_,hw⟩:=DataW.trod_int hd h;simp only[Lit.wf,Bool.and_eq_true,decide_eq_true_eq] at hw;have hmin:IntKind.min k=0:=(by cases k<;>first|rfl|grind[IntKind.signed]);have hm:((m.toNat:Nat):Int)=m:=Int.toNat_of_nonneg (by omega);exact⟨m.toNat,by simp_all,hb,by omega⟩
  | i k =>
   cases d<;>simp[fM] at hb
   rename_i k';obtain⟨rfl,hb⟩:=hb;obtain⟨m,e,_,hw⟩:=DataW.trod_int hd h;simp only[Lit.wf,Bool.and_eq_true,decide_eq_true_eq] at hw;exact⟨m,e,hb,hw.1,hw.2⟩
  | str =>
   cases d<;>simp[fM] at hb
   obtain⟨s,e,_,hs⟩:=DataW.trod_string hd h;exact⟨aI s,s,e,rfl,hs⟩
  | sl I =>
   cases d<;>simp[fM] at hb
   obtain⟨J,hb2⟩:=hb;rcases DataW.trod_slice hd h with⟨rfl,_⟩|⟨a,len,U,elems,rest,m,hm,rfl,_,_,hl,hc,z,L,_⟩
   ·exact⟨[],none,0,0,rfl,rfl,Nat.le_refl _,Nat.zero_le _,.inl rfl⟩
   ·cases hm;rw[nL (O _ _ J)] at L;obtain⟨xs,W,Z⟩:=bII (w:=w) hb2 (R:=bC w (aCF w) I) (a:=a) (len:=len) (fun i hi=>by
     have:=L i hi;rw[List.getElem?_eq_getElem (by omega)] at this;obtain⟨ds,hds,hx⟩:=Option.bind_eq_some_iff.1 this;obtain⟨y,hy⟩:=ih _ _ _ _ J ha hx;grind)
    exact⟨xs,some a,len,U,rfl,W,hl,hc,Z⟩
  | unit =>
   cases d<;>simp[fM] at hb
   rename_i fs;obtain⟨xs,m,_,_,z,_⟩:=DataW.trod_struct hd h;rw[nL (O _ _ ht)] at z;exact⟨(),List.eq_nil_of_length_eq_zero z⟩
  | pair a b =>
   cases d<;>simp[fM] at hb
   rename_i fs;obtain⟨xs,m,hm,_,z,hxl,hf⟩:=DataW.trod_struct hd h;cases hm;rw[nL (O _ _ ht)] at z;have:=aUx ih O cs fs.toList 0 (.pair a b) hb ha (by simp_all) (fun f hf'=>by
    obtain⟨i,hi,rfl⟩:=List.mem_iff_getElem.1 hf';have hi':i<fs.size:=(by omega);have:=hf i fs[i] (Array.getElem?_eq_getElem hi');simp_all)
   simp_all
  | arr m I =>
   cases d<;>simp[fM] at hb
   obtain⟨⟨⟨rfl,J⟩,hb2⟩,_⟩:=hb;obtain⟨xs,q,hq,_,z,hxl,hf⟩:=DataW.trod_array hd h;cases hq;rw[nL (O _ _ ht)] at z;rw[nL (O _ _ J)] at hf;have hall:∀i,i<m→ ∃y,bC w (aCF w) I y ((cs.drop (i*I.cells)).take I.cells):=fun i hi=>by
    have:=hf i hi;rw[List.getElem?_eq_getElem (by omega)] at this;exact ih _ _ _ _ J ha this
   classical
   have Y:∃f:Nat→I.den,∀i,i<m→bC w (aCF w) I (f i) ((cs.drop (i*I.cells)).take I.cells):=by
    refine⟨fun i=>if h:i<m then Classical.choose (hall i h) else I.zero,fun i hi=>?_⟩;grind
   obtain⟨f,Y⟩:=Y;refine⟨(List.range m).map f,by simp,(List.range m).map fun i=>(cs.drop (i*I.cells)).take I.cells,?_,by simp,fun i W Z=>?_⟩
   ·have:∀(k:Nat) (l:List Value),l.length=k*I.cells→l=((List.range k).map fun i=>(l.drop (i*I.cells)).take I.cells).flatten:=by
     intro k
     induction k with
     | zero=>simp_all
     | succ k ihk =>
      intro l hl;rw[List.range_succ,List.map_append,List.flatten_append];have W:=ihk (l.take (k*I.cells)) (by grind);have Z:((List.range k).map fun i=>((l.take (k*I.cells)).drop (i*I.cells)).take I.cells)=((List.range k).map fun i=>(l.drop (i*I.cells)).take I.cells):=by
       apply List.map_congr_left;intro i hi;have hik:i<k:=List.mem_range.1 hi;rw[List.drop_take,List.take_take]
       congr 1
       have:(i+1)*I.cells≤k*I.cells:=Nat.mul_le_mul_right _ hik;grind
      rw[Z] at W;rw[← W];simp only[List.map_cons,List.map_nil,List.flatten_cons,List.flatten_nil,List.append_nil];rw[List.take_of_length_le (l:=l.drop (k*I.cells)) (by grind),List.take_append_drop]
    exact this m cs z
   grind
  | expr =>
   cases d<;>simp[fM] at hb
   rename_i fs;obtain⟨xs,m,hm,_,z,hxl,hf⟩:=DataW.trod_struct hd h;cases hm;rw[nL (O _ _ ht)] at z;have hfs:∃f0 f1 f2,fs.toList= [f0,f1,f2]∧(T f0.type=some (.i .i64)∧f0.offset=0∧T f1.type=some .str∧f1.offset=1∧T f2.type=some (.sl .expr)∧f2.offset=2):=by
    unfold bFp at hb;grind
   obtain⟨f0,f1,f2,hfs,t0,o0,I,o1,t2,o2⟩:=hfs;have N:∀(i:Nat) (f:Field),fs.toList[i]? = some f→ ∃x,DataW.trod enc P w 0 spare held n f.type ((cs.drop f.offset).take (P.cellsOf f.type))=some x:=fun i f hi=>by
    grind
   obtain⟨x0,h0⟩:=N 0 f0 (by simp_all);obtain⟨x1,W⟩:=N 1 f1 (by simp_all);obtain⟨x2,Z⟩:=N 2 f2 (by simp_all);rw[nL (O _ _ t0),o0] at h0;rw[nL (O _ _ I),o1] at W;rw[nL (O _ _ t2),o2] at Z;obtain⟨y0,r0⟩:=ih _ _ _ _ t0 rfl h0;obtain⟨y1,r1⟩:=ih _ _ _ _ I rfl W;obtain⟨y2,r2⟩:=ih _ _ _ _ t2 rfl Z
   match cs,z with
   | [c0,c1,c2],_ =>
    simp only[Ty.cells,List.drop_zero,List.drop_succ_cons,List.take_succ_cons,List.take_zero] at r0 r1 r2;obtain⟨e0,_,b1,b2⟩:=r0;obtain⟨s,e1,rfl,hs⟩:=r1;obtain⟨a,len,U,e2,hl1,hl2,hl3,hl4⟩:=r2;simp only[List.cons.injEq,and_true] at e0 e1 e2;subst e0; subst e1; subst e2
    classical
    refine⟨.mk y0 (aI s) y2,?_⟩;rcases hl4 with rfl|⟨b,off,ha,hb,L⟩
    ·exact RepEx.mk y0 s [] a len U (fun _=>[]) ⟨b1,b2⟩ hs hl1 hl2 hl3 (fun i h=>by simp at h) (.inl rfl)
    ·refine RepEx.mk y0 s y2 a len U (fun i=>if h:i<List.length y2 then Classical.choose (L i h) else []) ⟨b1,b2⟩ hs hl1 hl2 hl3 (fun i h=>?_) (.inr ⟨b,off,ha,hb,fun i h=>?_⟩)
     ·simp only[dif_pos h]; exact(Classical.choose_spec (L i h)).1
     grind
  | rp I=>grind[Ty.argB]
  | clo g I=>grind[Ty.argB]
  | ifc k I=>grind[Ty.argB]
  | nili=>grind[Ty.argB]
  | nilp=>grind[Ty.argB]
  | nilf=>grind[Ty.argB]
theorem bLi(g:iF P T){t:TypeId}{c:Ty}{r:Reach}{base:Nat}{v:Value}{d:DataW H}{ps:List MemPlace}(ht:T t=some c)(ha:c.argB=true)(f:Value.okWide P w r base t v)(h:DataW.Trod enc P w 0 spare held t v d ps):∃y,cZ w (aCF w) c y v:=by
 obtain⟨n,I⟩:=h;obtain⟨y,hy⟩:=bB7 g n t c _ _ ht ha I;refine⟨y,cZ.of_cells (fun q=>?_) (fun z=>?_) hy⟩
 ·obtain⟨d,hd,hb⟩:=(g _ _ ht).desc;unfold Value.okWide at f;rw[hd] at f;cases c<;>simp[Ty.isAgg] at q
  all_goals (cases d<;>first|grind[fM]|skip)
  all_goals grind
 ·intro J e;subst e;obtain⟨d,hd,hb⟩:=(g _ _ ht).desc;unfold Value.okWide at f;rw[hd] at f;cases c<;>simp[Ty.isAgg] at z
  all_goals (cases d<;>first|grind[fM]|skip)
  all_goals simp_all[Cell.okWide,Cell.ok]
def bNv(T:Tab):Ty→List TypeId→Bool
 | .unit,[]=>true
 | .pair a r,t::ts=>decide (T t=some a)&&a.argB&&bNv T r ts
 | _,_=>false
theorem bFW(g:iF P T){r:Reach}{base:Nat}:∀(c:Ty) (ts:List TypeId) (vs:List Value) (ds:List (DataW H)) (ps:List MemPlace),bNv T c ts=true→DataW.TrodAll enc P w 0 spare held ts vs ds ps→(∀(j:Nat) t v,ts[j]? = some t→vs[j]? = some v→Value.okWide P w r base t v)→ ∃x,qV w (aCF w) c x vs
 | .unit,[],vs,ds,ps,_,h,_=>by
  cases vs<;>cases ds<;>simp[DataW.TrodAll] at h
  exact⟨(),rfl⟩
 | .pair a c,t::ts,vs,ds,ps,hb,h,f=>by
  simp only[bNv,Bool.and_eq_true,decide_eq_true_eq] at hb;cases vs<;>cases ds<;>simp only[DataW.TrodAll] at h
  rename_i v vs d ds;obtain⟨p,q,z,J,_⟩:=h;obtain⟨y,hy⟩:=bLi g hb.1.1 hb.1.2 (f 0 t v rfl rfl) z;obtain⟨x,hx⟩:=bFW g c ts vs ds q hb.2 J (fun j L I e1 N=>f (j+1) L I (by simp_all) (by simp_all));exact⟨(y,x),v,vs,rfl,hy,hx⟩
end
end Go.Vc
namespace Go.Vc
attribute [go_sem] aUu aPF List.contains_cons List.contains_nil aBO aK2 bB3 aZq aDE aUt bB1 bB2
attribute [go_sem] bID aNg aPE bMX nodupB bIC uS emb aGF aSf bEf aUr
attribute [go_sem] aFa qR oA aE9 ren lW xV posOf jD aQ aHz kN
attribute [go_sem] aIP bIH aJj AV.wfL AV.wfV Obj.wfL Obj.wfV List.all_cons List.all_nil List.range'_zero List.range'_succ List.zip_cons_cons
attribute [go_sem] List.zip_nil_left List.zip_nil_right List.drop_nil List.take_nil List.map_cons List.map_nil bBE aJd
end Go.Vc
namespace Go.Vc
open Go.RowKit
section
variable {P:Program} {E:Env} {M:Perm} {w0:World} {c:Ctx} {h:List Obj} {w:World}
def bFX(P:Program)(fn:Func)(S:Nat→Prop)(w0:World)(r:RK)(y:r.ty.den):Exit→Act→World→Prop :=
 bodyPostD P fn fun e w'=>∃v,e= .returned v∧fB nothing w0 w'∧bGQ w' S w0.heap.size r y v
theorem bLj{f:FuncId}{fn:Func}{g:Code}{sp:aH}(Y:eQ P E)(O:P.funcs[f]? = some fn)(hb:fn.body=some g)(q:fL fn.ntmps g=true)(U:aQX sp.args≤fn.ntmps)
  (ht:∀(w0:World) (S:Nat→Prop) (x:sp.args.den),sp.args.wf x→sp.pre x→Tri (fr P E S w0 fn.ntmps) g (bFX P fn S w0 sp.res (sp.fn x)) (bD sp.args x 0) []):FOK P E.G f sp:=by
 intro w S z x L J ha hp;refine calls_of_wp_defers O hb ?_;refine ht w S x (aHt _ _ _ ha) hp q ⟨S,fun _=>Go.undef,0,fun _ _=>False⟩ _ w ⟨⟨rfl,.refl _ _,L,fun b hb _=>.inl hb,fun i o N=>by grind,fun i o b N=>by grind,fun i j W Z b hi=>by grind,⟨Nat.le_refl _,fun i hi=>absurd hi (Nat.not_lt_zero i)⟩⟩,J,?_,?_,rfl⟩
 ·refine aUg _ x 0 z.toList _ ha rfl fun i v hv=>?_;have I:i<z.size:=by
   grind
  simp_all[Nat.zero_add,Array.getElem?_toList,Array.getElem?_append,Array.getElem?_eq_getElem]
 ·have:=aUh _ _ _ ha;simp_all
theorem bIJ{S:Nat→Prop}(Z:M.wr=nothing)(hrd:M.rd=S)(U:Good M w0 c h w){r:RK}{y:r.ty.den}{q:List AV}{xs:List Value}(hl:xs.length=q.length)(hv:∀i (I:i<q.length) (h2:i<xs.length),aZ c w q[i] xs[i])(hy:gK h r y q):bGQ w S w0.heap.size r y (aK1 xs):=by
 have L:∀ {c':Ctx} {h':List Obj},Good M w0 c' h' w→ ∀b,c'.S b→S b∨(w0.heap.size≤b∧b<w.heap.size):=fun U b hb=>by
  rcases Nat.lt_or_ge b w0.heap.size with hlt|hge
  ·have:=U.src b hb hlt;rw[Z,hrd] at this;exact .inl (this.resolve_right (fun f=>f))
  ·exact .inr ⟨hge,U.sfin b hb⟩
 obtain⟨c',hll,N⟩:=U.frzAll;have z:∀i (I:i<q.length) (h2:i<xs.length),aZ c' w q[i] xs[i]:=fun i I h2=>hll.val (hv i I h2);cases r with
 | none =>
  match q,xs,hl,hy with
  | [],[],_,_=>rfl
 | one t =>
  match q,xs,hl,hy,z with
  | [v],[x],_,hy,z =>
   have hy:AV.as (h.map Vc.frzAll) t v=some y:=hy;rw[← bFJ] at hy;have:=yY N (z 0 (by simp) (by simp)) hy;exact cZ.keep (L N) (.refl _ _) this
 | own e t =>
  match q,xs,hl,hy,hv with
  | [.own i],[x],_,hy,hv =>
   have J:=hv 0 (by simp) (by simp);simp only[List.getElem_cons_zero] at J;have ho:h[i]? = some (.row e t y):=hy;obtain⟨hin,rfl⟩:=aCW J;obtain⟨W,O,hrep⟩:=U.objs i _ ho;refine⟨W,⟨O.1,O.2.imp id ?_⟩,bC.keep (fun b hb=>?_) (.refl _ _) _ _ _ hrep⟩
   ·rintro⟨g,cap,cur,I,h2,h3⟩;refine⟨g,cap,cur,I,?_,h3⟩;have:=(U.own i _ g ho (by simp[dP,I,aW])).1;rw[Z] at this;exact this.resolve_right (fun f=>f)
   ·rcases L U b hb with I|I
    ·simp_all
    ·exact .inr ⟨I.1,I.2,fun e'=>(U.own i _ b ho e').2.2 hb⟩
  | [.nilS],[x],_,hy,hv =>
   have J:=hv 0 (by simp) (by simp);simp only[List.getElem_cons_zero] at J;have hy:y= []:=hy;subst hy;have hsv:x= .slice none 0 0:=by
    obtain⟨I,_,h3⟩:=J;have h3:=h3 rfl;simp_all[aN,Value.cells]
   subst hsv;exact⟨[],⟨by simp,.inl ⟨rfl,rfl⟩⟩,⟨rfl,[],rfl,rfl,fun i h=>by simp at h⟩⟩
 | tup t =>
  have hy:q.length≠1∧aCC (h.map Vc.frzAll) t q=some y:=hy;obtain⟨Y,hy⟩:=hy;rw[← bFJ] at hy;have hargs:=aI8 N hy (xs:=xs) hl z;refine⟨xs,?_,bG5 (L N) hargs⟩
  match xs,hl▸Y with
  | [],_=>rfl
  | [s],Y=>simp_all
  | s::s'::l,_=>rfl
def m0:Option Pan→Value→FrameMode
 | none,_=>.returning
 | some p,u=>.panicking (aW5 p.k u)
def m1:Option Pan→Value→FrameMode
 | none,_=>.returning
 | some p,u=>.panicking [{ v:=.iface p.k u,recovered:=true,goexit:=false }]
theorem bHf(m:Option Pan)(u:Value):settle (m1 m u)= .returning:=by cases m<;>rfl
def bMY(P:Program)(g:FuncId)(vs:Array Value)(q u1:FrameMode)(w:World)(R:Ending→World→Prop):Prop:=CallsD P g vs q w fun e f w'=>f=u1∧R e w'
def DOK(P:Program)(G:Nat→AV)(g:FuncId)(mode:Option Pan)(sp:qW):Prop :=
 ∀(c:Ctx) (w:World) (d:sp.D) (vs:Array Value) (u:Value),sp.pre d→GIn G sp c w d vs.toList→(∀p,mode=some p→cZ w c.S p.t p.x u)→bMY P g vs (m0 mode u) (m1 mode u) w (aMd sp c w d)
theorem bB8{F:Fr}{fn:Func}{S:Nat→Prop}{r:RK}{y:r.ty.den}{env:St}{h:List Obj}{k:Nat}{roots:Nat→Value}{g:FuncId}{l2:List Nat}{mode:Option Pan}(hF:xT F)(hM:F.M=⟨nothing,S,k,roots⟩)(Y:F.ds= [⟨.fn (.func g) (l2.map roots).toArray,#[]⟩])(hk:∀i∈l2,i<k)(N:aGa h l2=true)
  (hfn:∃fn,F.P.funcs[g]? = some fn∧fn.name ≠ "runtime.NumGoroutine" ∧ fn.body.isSome=true) (t:Hit) (W:DOK F.P F.E.G g mode t.sp) (hh:aNg h (l2.map fun i=>.ptr i []) t) {v:AV} {h':List Obj} (J:t.sp.out t.d= .ret v h')
  (l:List ResultVar) (hr:fn.results=l.toArray) (hy:(aQ F.E.T (aFa t.σ t.sp.m h h') env l).1∧gK (aFa t.σ t.sp.m h h') r y (aQ F.E.T (aFa t.σ t.sp.m h h') env l).2) {c:Ctx} {a:Act} {w:World} {u:Value} (hs:Sim F.E F.M F.w0 F.nt F.ds c env h a w) (hu:∀p,mode=some p→cZ w c.S p.t p.x u) :
  Leaves F.P fn a.tmps (fun e w'=>∃v,e= .returned v∧fB nothing F.w0 w'∧bGQ w' S F.w0.heap.size r y v) a.defers (m0 mode u) w:=by
 have hroot:=hs.good.root;rw[hM] at hroot;have I:∀i∈l2,c.hd i=roots i∧i<c.n:=fun i hi=>⟨hroot.2 i (hk i hi),Nat.lt_of_lt_of_le (hk i hi) hroot.1⟩;have hl2:l2.map roots=l2.map c.hd:=List.map_congr_left fun i hi=>(I i hi).1.symm;have hvb:∀i (L:i<(l2.map fun i=>AV.ptr i []).length) (U:i<(l2.map roots).toArray.toList.length),aZ c w (l2.map fun i=>AV.ptr i [])[i] (l2.map roots).toArray.toList[i]:=fun i L U=>by
  have:=aJe hs.good N (fun i hi=>(I i hi).2) i L (by simp_all);simp_all
 rw[hs.defers,Y];refine leaves_cons (f:=g) (args:=(l2.map roots).toArray) ?_ ?_ ?_
 ·cases mode<;>simp[m0]
 ·grind[aEk,invoke]
 ·have hcall:=aYw (C:=bMY F.P g (l2.map roots).toArray (m0 mode u) (m1 mode u) w) (fun R R' h k=>CallsD.mono h fun e u' w' q=>⟨q.1,k _ _ q.2⟩) (fun hp O=>W _ _ _ _ _ hp O hu) hs.good hs.glob (vs:=l2.map fun i=>AV.ptr i []) (xs:=(l2.map roots).toArray) (by simp) hvb hh;refine CallsD.mono hcall ?_;rintro e u' w' ⟨rfl,cN,hl,z⟩;rw[J] at z;obtain⟨uv,rfl,Z,_⟩:=z;show Leaves F.P fn a.tmps _ [] (settle (m1 mode u)) w';rw[bHf];obtain⟨us,q1,q2,q3⟩:=aHy (P:=F.P) hF.env.T Z (hs.env.keep hl) hr hy.1;refine⟨aK1 us,q1,aK1 us,rfl,by have:=Z.keeps; simp_all,?_⟩;exact bIJ (by rw[hM]) (by rw[hM]) Z q2 (fun i L U=>q3 i L U) hy.2
theorem bFY{F:Fr}{fn:Func}{S:Nat→Prop}{r:RK}{y:r.ty.den}{env:St}{h:List Obj}{k:Nat}{roots:Nat→Value}{g:FuncId}{l2:List Nat}(hF:xT F)(hM:F.M=⟨nothing,S,k,roots⟩)(J:F.ds= [⟨.fn (.func g) (l2.map roots).toArray,#[]⟩])(hk:∀i∈l2,i<k)(z:aGa h l2=true)
  (q:∃fn,F.P.funcs[g]? = some fn∧fn.name ≠ "runtime.NumGoroutine" ∧ fn.body.isSome=true) (t:Hit) (I:DOK F.P F.E.G g none t.sp) {v:AV} {h':List Obj} (f:t.sp.out t.d= .ret v h')
  (l:List ResultVar) (L:fn.results=l.toArray) (hh:aNg h (l2.map fun i=>.ptr i []) t) (hy:(aQ F.E.T (aFa t.σ t.sp.m h h') env l).1∧gK (aFa t.σ t.sp.m h h') r y (aQ F.E.T (aFa t.σ t.sp.m h h') env l).2) :
  At F (bFX F.P fn S F.w0 r y .ret) env h:=fun c a w hs =>
 bB8 (u:=Go.undef) hF hM J hk z q t I hh f l L hy hs (fun p hp=>by cases hp)
theorem bFZ{F:Fr}{fn:Func}{S:Nat→Prop}{r:RK}{y:r.ty.den}{env:St}{h:List Obj}{k:Nat}{roots:Nat→Value}{g:FuncId}{l2:List Nat}{p:Pan}(hF:xT F)(hM:F.M=⟨nothing,S,k,roots⟩)(L:F.ds= [⟨.fn (.func g) (l2.map roots).toArray,#[]⟩])(hk:∀i∈l2,i<k)(I:aGa h l2=true)
  (z:∃fn,F.P.funcs[g]? = some fn∧fn.name ≠ "runtime.NumGoroutine" ∧ fn.body.isSome=true) (t:Hit) (J:DOK F.P F.E.G g (some p) t.sp) {v:AV} {h':List Obj} (f:t.sp.out t.d= .ret v h')
  (l:List ResultVar) (N:fn.results=l.toArray) (hh:aNg h (l2.map fun i=>.ptr i []) t) (hy:(aQ F.E.T (aFa t.σ t.sp.m h h') env l).1∧gK (aFa t.σ t.sp.m h h') r y (aQ F.E.T (aFa t.σ t.sp.m h h') env l).2) :
  AtP F (bFX F.P fn S F.w0 r y) p env h:=fun c a w u hs O =>
 bB8 hF hM L hk I z t J hh f l N hy hs (fun q hq=>by grind)
theorem aK3{F:Fr}{Q:Exit→Act→World→Prop}{env:St}{h:List Obj}{id:Nat}{ops:Array Oper}{y:Code}{g:FuncId}{t:Nat}{f:Array Operand}{N U:TypeId}{q J:String}{z I:Array Edge}(k:Nat)(l2:List Nat)
  (hops:ops= #[⟨some t,.makeFunc (.func g) #[] f,N,q,z,none⟩,⟨none,.defer ⟨.value (.tmp t),#[],#[]⟩,U,J,I,none⟩])
  (htags:allTags h (f.toList.map (evA F.E.G env))=some l2) (hm:F.M.m≤k) (hk:k≤h.length)
  (hy:∀roots:Nat→Value,(∀i,i<F.M.m→roots i=F.M.roots i)→Tri { F with M:=⟨F.M.wr,F.M.rd,k,roots⟩,ds:=⟨.fn (.func g) (l2.map roots).toArray,#[]⟩::F.ds } y Q ((t,.junk)::env) h):Tri F (.seq (.region id ops false) y) Q env h:=fun hok c a w hs=>by
 simp only[fL,Bool.and_eq_true] at hok;obtain⟨⟨⟨Y,_⟩,_⟩,hok2⟩:=hok;subst hops;have hall:=List.all_eq_true.1 Y;have L:=hall ⟨some t,.makeFunc (.func g) #[] f,N,q,z,none⟩ (by simp);simp only[eZ,Bool.and_eq_true] at L;have O:∀x∈(Op.makeFunc (.func g) #[] f).operands,pA x=true:=Array.all_eq_true_iff_forall_mem.1 L.1;have Z:t<a.tmps.size:=by
  have:=L.2;rw[hs.size];simp_all
 obtain⟨hlt,hcv⟩:=aM7 hs.good htags (vs:=f.toList.map a.eval) (by simp) (fun i h1 h2=>by
  simp only[List.getElem_map];exact aE3 hs.env hs.glob (O _ (by simp[Op.operands])))
 have W:f.map a.eval=(l2.map c.hd).toArray:=by grind
 refine wp_seq (wp_region ?_);have hy':=hy c.hd (fun i hi=>hs.good.root.2 i hi);have hgood:Good ⟨F.M.wr,F.M.rd,k,c.hd⟩ F.w0 c h w:=⟨hs.good.n,hs.good.keeps,hs.good.sfin,hs.good.src,hs.good.objs,hs.good.own,hs.good.sep,by rw[hs.good.n]; exact hk,fun _ _=>rfl⟩;have hfin:=hy' hok2 c { (a.put (some t) (.func (.func g) #[] (l2.map c.hd).toArray)) with defers:=⟨.fn (.func g) (l2.map c.hd).toArray,#[]⟩::a.defers } w ⟨hgood,hs.glob,by
  have:=hs.env.put (d:=t) (v:=.junk) (x:=.func (.func g) #[] (l2.map c.hd).toArray) Z trivial;omega,by simpa [Act.put] using hs.size,by simp[hs.defers]⟩
 have run1:(execOp a.eval ⟨some t,.makeFunc (.func g) #[] f,N,q,z,none⟩).run F.P w= .ok (.value (.func (.func g) #[] (l2.map c.hd).toArray)) w:=by
  simp[execOp,Instr.makeFunc,W]
 have hget:(a.put (some t) (.func (.func g) #[] (l2.map c.hd).toArray)).eval (.tmp t)= .func (.func g) #[] (l2.map c.hd).toArray:=by
  simp[Act.eval,Act.put,Z]
 have run2:(execOp (a.put (some t) (.func (.func g) #[] (l2.map c.hd).toArray)).eval ⟨none,.defer ⟨.value (.tmp t),#[],#[]⟩,U,J,I,none⟩).run F.P w= .ok (.defer ⟨.fn (.func g) (l2.map c.hd).toArray,#[]⟩) w:=by
  simp[execOp,resolve,Deferred.ofValue,hget]
 show wpOps F.P _ _ [0,1] a w;have w1:∀(o:Oper) (y:Nat→Option Bool),o.guard=none→Region.wanted o y=true:=fun o y h=>by simp[Region.wanted,h]
 unfold wpOps;simp only[List.getElem?_toArray,List.getElem?_cons_zero];rw[if_pos (w1 _ _ rfl)];refine .inl ?_;unfold Oper.wp;rw[run1,Oper.upon_value];unfold wpOps;simp only[List.getElem?_toArray,List.getElem?_cons_succ,List.getElem?_cons_zero];rw[if_pos (w1 _ _ rfl)];refine .inl ?_;unfold Oper.wp;rw[run2,Oper.upon_defer];exact hfin
theorem aHA{ops:Array Oper}{cs:List Frame}{Q:Exit→Act→List Frame→World→Prop}(f:¬LetsOut fun e a w=>Q e a cs w):∀(l:List Nat) (a:Act) (w:World),wpOps P ops (fun e a w=>Q e a cs w) l a w→wpOpsS P ops Q l a cs w
 | [],a,w,hh=>hh
 | i::rest,a,w,hh=>by
  unfold wpOps at hh;unfold wpOpsS;cases z:ops[i]? with
  | none=>simp only[z] at hh ⊢; exact aHA f rest a w hh
  | some o =>
   simp only[z] at hh ⊢;split
   ·rename_i g;simp only[g,if_true] at hh;have hh:=Oper.wp_mono (fun a w=>aHA f rest a w) (hh.resolve_right fun q=>f q.2);unfold Oper.wp at hh;revert hh;generalize (execOp a.eval o).run P w=r;intro hh;split
    ·exact hh.elim
    omega
   ·rename_i g;simp only[g,if_false] at hh;exact aHA f rest _ w hh
def bIK:Option Pan→AV
 | none=>.val .nili ()
 | some p=>.val (.ifc p.k p.t) p.x
theorem bIL{g:FuncId}{fn:Func}{rest:Code}{id:Nat}{ops:Array Oper}{sp:qW}{mode:Option Pan}{L:Nat}{ty:TypeId}{W:String}{U:Array Edge}(hE:eQ P E)(hf:P.funcs[g]? = some fn)(hb:fn.body=some (.seq (.region id ops false) rest))(hok:fL fn.ntmps (.seq (.region id ops false) rest)=true)(hn:∀d,(sp.av d).length≤fn.ntmps)
  (h0:ops[0]? = some ⟨some L,.call ⟨.builtin .recover,#[],#[]⟩,ty,W,U,none⟩)
  (ht:∀(c:Ctx) (w:World) (d:sp.D),AV.wfL (sp.av d)→Obj.wfL (sp.hp d)→sp.pre d→c.n=(sp.hp d).length →
   yZ E ops.toList (ops.toList.drop 1) ((L,bIK mode)::aJj (sp.av d) 0) (sp.hp d) (fun env h=>Tri ⟨P,E,GM sp c d,w,fn.ntmps,[]⟩ rest (bodyPost P fn (aMd sp c w d)) env h)):DOK P E.G g mode sp:=by
 intro c w d I u hp q hu;refine callsD_of_wpS hf hb fun f Y z=>?_;have O:=hok;simp only[fL,Bool.and_eq_true] at O;obtain⟨⟨⟨J,_⟩,_⟩,hok2⟩:=O;refine wpS_seq (wpS_region ?_);have hsz:0<ops.size:=by
  grind
 obtain⟨n,hn'⟩:∃n,ops.size=n+1:=⟨ops.size-1,by omega⟩;have hrange:List.range ops.size=0::List.range' 1 n:=by rw[hn',List.range_eq_range',List.range'_succ]
 rw[hrange];unfold wpOpsS;have w1:∀(o:Oper) (y:Nat→Option Bool),o.guard=none→Region.wanted o y=true:=fun o y h=>by simp[Region.wanted,h]
 simp only[h0];rw[if_pos (w1 _ _ rfl)];have hrun:∀ρ,(execOp ρ ⟨some L,.call ⟨.builtin .recover,#[],#[]⟩,ty,W,U,none⟩).run P w= .ok .recover w:=fun ρ=>by
  rfl
 rw[hrun];have key:∀v,aZ c w (bIK mode) v→wpOpsS P ops (Exit.thenS (rest.wpS P (bodyPostS P fn f Y fun e N w'=>N=m1 mode u∧aMd sp c w d e w')) (bodyPostS P fn f Y fun e N w'=>N=m1 mode u∧aMd sp c w d e w')) (List.range' 1 n) (({ tmps:=I++Array.replicate (fn.ntmps-I.size) undef,defers:=[] }:Act).put (some L) v) ({ f with mode:=m1 mode u }::Y) w:=fun v hv=>by
  refine aHA ?_ _ _ _ ?_
  ·rintro⟨a',w',N,_,e⟩;obtain⟨c',e⟩:=e;grind
  ·have hsim:Sim E (GM sp c d) w fn.ntmps [] c ((L,bIK mode)::aJj (sp.av d) 0) (sp.hp d) (({ tmps:=I++Array.replicate (fn.ntmps-I.size) undef,defers:=[] }:Act).put (some L) v) w:=by
    have Z:=q.len;have hnn:=hn d;simp at Z;have hsz2:(I++Array.replicate (fn.ntmps-I.size) undef).size=fn.ntmps:=(by grind);have ht5:L<fn.ntmps:=by
     have h0':ops.toList[0]? = some ⟨some L,.call ⟨.builtin .recover,#[],#[]⟩,ty,W,U,none⟩:=(by simp_all);have:=List.all_eq_true.1 J _ (List.mem_of_getElem? h0');simp_all[eZ,Bool.and_eq_true]
    refine⟨q.good,q.glob,?_,by grind[Act.put],rfl⟩;refine aIM.put (a:={ tmps:=I++Array.replicate (fn.ntmps-I.size) undef,defers:=[] }) ?_ (by simp_all) hv;refine aZs _ I.toList 0 q.len q.val fun i v hv=>?_;have hlt:i<I.size:=by
     grind
    simp_all[Nat.zero_add,Array.getElem?_toList,Array.getElem?_append,Array.getElem?_eq_getElem]
   have:=aNe (P:=P) (ops:=ops.toList) (Q:=fun e a w'=>Exit.thenS (rest.wpS P (bodyPostS P fn f Y fun e N w'=>N=m1 mode u∧aMd sp c w d e w')) (bodyPostS P fn f Y fun e N w'=>N=m1 mode u∧aMd sp c w d e w') e a ({ f with mode:=m1 mode u }::Y) w') hE (List.all_eq_true.1 J) (fun env h c' a w' hk hs=>by
    refine wpS_of_wp (wp_mono (hk hok2 c' a w' hs) fun e a w' hq=>?_);cases e with
    | normal=>obtain⟨q1,v,q2,q3⟩:=hq; exact⟨q1,_,rfl,v,q2,rfl,q3⟩
    | ret=>obtain⟨q1,v,q2,q3⟩:=hq; exact⟨q1,_,rfl,v,q2,rfl,q3⟩
    | panic ch=>obtain⟨q1,q3⟩:=hq; exact⟨q1,_,rfl,rfl,q3⟩
    | outgrown=>exact⟨_,rfl,hq⟩
    | exit id=>exact hq.elim
    | goto l=>exact hq.elim) n 1 (by grind) _ _ c _ w (ht c w d (aZt q.len q.val) (bFT q.good) hp q.good.n) hsim
   omega
 cases mode with
 | none =>
  have e:f.mode= .returning:=z;have e2:({ f with mode:=.returning }:Frame)=f:=by rw[← e]
  have:=key .nilIface (aZ.ofV (by rfl));grind[m1,recoverD]
 | some p =>
  have e:f.mode= .panicking (aW5 p.k u):=z;have:=key (.iface p.k u) (aZ.ofV (by
   unfold cZ;rw[if_neg (by simp[Ty.isAgg])];have hr:=hu p rfl;unfold cZ at hr;split at hr
   ·rename_i ha;obtain⟨ds,e1,e2⟩:=hr;exact⟨u,ds.toList,rfl,fun _=>by omega,(fun h=>by simp_all),e2⟩
   ·rename_i ha;exact⟨u,[u],rfl,fun h=>absurd h ha,fun _=>rfl,hr⟩))
  grind[m1,recoverD,aW5]
end
end Go.Vc
namespace Go.Vc
open Go.RowKit
def ck{α:Type}(p:Prop)[Decidable p](k:Option α):Option α:=if p then k else none
theorem bE{α:Type}{p:Prop}[Decidable p]{k:Option α}{r:α}(h:ck p k=some r):p∧k=some r:=by
 grind[ck]
theorem bIM{α:Type}{p:Prop}[Decidable p]{k:Option α}(hp:p):ck p k=k:=if_pos hp
theorem jZ{α:Type}{p:Prop}[Decidable p]{x y:α}{r:α}(hp:p)(h:(if p then x else y)=r):x=r:=by simp_all
theorem iW{α:Type}{p:Prop}[Decidable p]{x y:α}{r:α}(hp:¬p)(h:(if p then x else y)=r):y=r:=by simp_all
abbrev I64(x:Int):Prop:= -9223372036854775808≤x∧x≤9223372036854775807
abbrev I32(x:Int):Prop:= -2147483648≤x∧x≤2147483647
section
variable {D E R:Type} {step:D→Option (D⊕E)}
def iter(step:D→Option (D⊕E)):Nat→D→Option E
 | 0,_=>none
 | n+1,d=>match step d with
  | none=>none
  | some (.inl f)=>iter step n f
  | some (.inr e)=>some e
theorem aPH:∀ {n:Nat} {d:D} {e:E},iter step n d=some e→iter step (n+1) d=some e
 | 0,d,e,h=>by cases h
 | n+1,d,e,h=>by
  unfold iter at h ⊢;cases hs:step d with
  | none=>simp_all
  | some s =>
   rw[hs] at h;cases s with
   | inl g=>exact aPH (n:=n) h
   | inr f=>exact h
theorem bF0{n m:Nat}(hm:n≤m){d:D}{e:E}(h:iter step n d=some e):iter step m d=some e:=by
 induction hm with
 | refl=>exact h
 | step _ f=>exact aPH f
theorem aYx{n m:Nat}{d:D}{e f:E}(h:iter step n d=some e)(h':iter step m d=some f):e=f:=by
 have g:=bF0 (Nat.le_max_left n m) h;grind[bF0,Nat.le_max_right,Option.some.inj]
open Classical in
noncomputable def aYy(step:D→Option (D⊕E))(d:D):Option E:=if h:∃e,∃n,iter step n d=some e then some (Classical.choose h) else none
theorem aPI{d:D}{e:E}:aYy step d=some e↔ ∃n,iter step n d=some e:=by
 unfold aYy;constructor
 ·intro h;split at h
  all_goals grind
 ·rintro⟨n,h⟩;have hx:∃e,∃n,iter step n d=some e:=⟨e,n,h⟩;rw[dif_pos hx];grind[Classical.choose_spec,aYx]
theorem aMg{n:Nat}{d:D}{e:E}(h:iter step n d=some e):aYy step d=some e:=aPI.2 ⟨n,h⟩
theorem aJk{p:Nat→Prop}(h:∃n,p n):∃n,p n∧ ∀m,p m→n≤m:=by
 classical
 obtain⟨n,g⟩:=h
 induction n using Nat.strongRecOn with
 | _ n f =>
  grind
open Classical in
noncomputable def aHB(step:D→Option (D⊕E))(d:D):Nat:=if h:∃n,(iter step n d).isSome=true then Classical.choose (aJk h) else 0
theorem bF1{d:D}{e:E}(h:aYy step d=some e):iter step (aHB step d) d=some e∧ ∀m f,iter step m d=some f→aHB step d≤m:=by
 obtain⟨n,g⟩:=aPI.1 h;have hx:∃n,(iter step n d).isSome=true:=⟨n,by grind⟩;have hs:=Classical.choose_spec (aJk hx);have e1:aHB step d=Classical.choose (aJk hx):=by unfold aHB; simp_all
 rw[← e1] at hs;refine⟨?_,fun m f hm=>hs.2 m (by grind)⟩;cases hi:iter step (aHB step d) d with
 | none=>simp_all
 | some f=>rw[aYx hi g]
abbrev Md:=Option Nat
noncomputable def bO(F:Md)(step:D→Option (D⊕E))(d:D):Option E:=match F with
 | none=>aYy step d
 | some n=>iter step n d
noncomputable abbrev aGG(step:D→Option (D⊕E))(d:D):Option E:=bO none step d
theorem aYz{d:D}{e:E}:aGG step d=some e↔ ∃n,iter step n d=some e:=aPI
theorem aA5{n:Nat}{d:D}{e:E}(h:iter step n d=some e):aGG step d=some e:=aMg h
theorem bLk{F:Md}{d:D}{e:E}(h:bO F step d=some e):aYy step d=some e:=by
 cases F with
 | none=>exact h
 | some n=>exact aMg h
def aAq(A:D→Prop)(B:E→Prop):D⊕E→Prop
 | .inl d=>A d
 | .inr e=>B e
theorem aUy{k:E→Option R}{r:R}{F:Md}{d:D}(hd:(bO F step d).bind k=some r):∃s,step d=some s∧aAq (fun f=>(bO F step f).bind k=some r∧aHB step f<aHB step d) (fun e=>k e=some r) s:=by
 cases hl:bO F step d with
 | none=>simp_all
 | some e =>
  rw[hl] at hd;have hk:k e=some r:=hd;obtain⟨hi,q⟩:=bF1 (bLk hl);cases g:aHB step d with
  | zero=>rw[g] at hi; cases hi
  | succ n =>
   rw[g,iter] at hi;split at hi
   ·cases hi
   ·rename_i f hs;have z:=aMg hi;have I:bO F step f=some e:=by
     cases F with
     | none=>exact z
     | some m =>
      have hm:iter step m d=some e:=hl;cases m with
      | zero=>cases hm
      | succ m =>
       rw[iter,hs] at hm;exact aPH hm
    refine⟨_,hs,?_⟩;refine⟨by simp_all,?_⟩;grind[bF1,aHB,step]
   ·rename_i J hs;refine⟨_,hs,?_⟩;rw[Option.some.inj hi]; exact hk
theorem kU{I:D→Prop}(z:D→Nat)(f:D→E)(h:∀d,I d→(∃g,step d=some (.inl g)∧I g∧z g<z d∧f g=f d)∨step d=some (.inr (f d))):∀d,I d→aGG step d=some (f d):=by
 have q:∀n d,z d≤n→I d→ ∃m,iter step m d=some (f d):=by
  intro n
  induction n with
  | zero =>
   intro d O hi;rcases h d hi with⟨g,_,_,L,_⟩|hs
   ·omega
   ·exact⟨1,by rw[iter,hs]⟩
  | succ n N =>
   intro d O hi;rcases h d hi with⟨g,hs,J,L,U⟩|hs
   ·obtain⟨m,hm⟩:=N g (by omega) J;exact⟨m+1,by grind[iter]⟩
   ·exact⟨1,by rw[iter,hs]⟩
 intro d hi;obtain⟨m,hm⟩:=q (z d) d (Nat.le_refl _) hi;exact aA5 hm
theorem cO{I:D→Prop}(q:D→Nat)(Q:E→Prop)(h:∀d,I d→(∃f,step d=some (.inl f)∧I f∧q f<q d)∨ ∃e,step d=some (.inr e)∧Q e):∀d,I d→ ∃e,aGG step d=some e∧Q e:=by
 have g:∀n d,q d≤n→I d→ ∃m e,iter step m d=some e∧Q e:=by
  intro n
  induction n with
  | zero =>
   intro d N hi;rcases h d hi with⟨f,_,_,J⟩|⟨e,hs,hq⟩
   ·omega
   ·exact⟨1,e,by rw[iter,hs],hq⟩
  | succ n L =>
   intro d N hi;rcases h d hi with⟨f,hs,z,J⟩|⟨e,hs,hq⟩
   ·obtain⟨m,e,hm,hq⟩:=L f (by omega) z;exact⟨m+1,e,by grind[iter],hq⟩
   ·exact⟨1,e,by rw[iter,hs],hq⟩
 intro d hi;obtain⟨m,e,hm,hq⟩:=g (q d) d (Nat.le_refl _) hi;grind[aA5]
end
noncomputable def pN(F:Md)(k:IntKind)(a b:Nat):Nat:=match F with
 | none=>aIN k a b
 | some _=>(a+(gT k-b))%gT k
noncomputable def mulM(F:Md)(k:IntKind)(a b:Nat):Nat:=match F with
 | none=>aGz k a b
 | some _=>(a*b)%gT k
noncomputable def aKN(F:Md)(k:IntKind)(a:Nat):Nat:=match F with
 | none=>bBr k a
 | some _=>(0+(gT k-a))%gT k
theorem bF2{F:Md}{k:IntKind}{a b:Nat}:pN F k a b=aIN k a b:=by
 cases F with
 | none=>rfl
 | some _=>exact(aKq k a b).symm
theorem bLl{F:Md}{k:IntKind}{a b:Nat}:mulM F k a b=aGz k a b:=by
 cases F with
 | none=>rfl
 | some _=>exact(aTA k a b).symm
theorem bLm{F:Md}{k:IntKind}{a:Nat}:aKN F k a=bBr k a:=by
 cases F with
 | none=>rfl
 | some _=>exact(aY6 k a).symm
theorem aR(F:Md){k:IntKind}{a b:Nat}:aIN k a b=pN F k a b:=bF2.symm
theorem aS(F:Md){k:IntKind}{a b:Nat}:aGz k a b=mulM F k a b:=bLl.symm
theorem aT(F:Md){k:IntKind}{a:Nat}:bBr k a=aKN F k a:=bLm.symm
def xW(h:List Obj):List (Nat⊕Obj)→List Obj
 | []=>[]
 | .inl i::r=>h.getD i .dead::xW h r
 | .inr o::r=>o::xW h r
section
variable {F:Fr} {Q:Exit→Act→World→Prop} {env:St} {h:List Obj}
theorem zD{x y:Code}{D:Type}(J:D→Prop)(keep:List Nat)(q:D→St)(g:D→List (Nat⊕Obj))
  (hx:Tri F x (Exit.then (fun z w'=>∃f c',J f∧Sim F.E F.M F.w0 F.nt F.ds c' (aMc env keep (q f)) (xW h (g f)) z w') Q) env h)
  (hy:∀d,J d→Tri F y Q (aMc env keep (q d)) (xW h (g d))):Tri F (.seq x y) Q env h :=
 bBO J (fun d=>aMc env keep (q d)) (fun d=>xW h (g d)) hx hy
theorem aCG{x:Code}{D E R:Type}{G:Md}{step:D→Option (D⊕E)}{k:E→Option R}{r:R}{d0:D}(keep:List Nat)(g:D→St)(q:D→List (Nat⊕Obj))
  (hd:(bO G step d0).bind k=some r) (hh:h=xW h (q d0)) (I:rY h env (aMc env keep (g d0)))
  (round:∀d s,step d=some s→aAq (fun f=>(bO G step f).bind k=some r∧aHB step f<aHB step d) (fun e=>k e=some r) s→Tri F x (Exit.then (fun z w'=>∃f c',((bO G step f).bind k=some r∧aHB step f<aHB step d)∧Sim F.E F.M F.w0 F.nt F.ds c' (aMc env keep (g f)) (xW h (q f)) z w') Q) (aMc env keep (g d)) (xW h (q d))):Tri F (.loop x) Q env h :=
 bBN (fun d=>(bO G step d).bind k=some r) (aHB step) (fun d=>aMc env keep (g d)) (fun d=>xW h (q d)) (aK d0 hd hh I) fun d hi=>by
  obtain⟨s,J,L⟩:=aUy hi;grind
end
theorem aYA{F:Fr}{Q:Exit→Act→World→Prop}{env:St}{h:List Obj}{id:Nat}{ops:Array Oper}{z q t4:Nat}{O Z Y W:TypeId}{I N:String}{L J:Array Edge}{ct:Ty}{xs:List ct.den}(hF:xT F)
  (hops:ops= #[⟨some q,.move (.tmp z),Y,I,L,none⟩,⟨some t4,.binOp .eql O (.tmp q) (.const (.slice none 0 0)) Z,W,N,J,none⟩])
  (hT:F.E.T O=some (.sl ct)) (hv:look env z= .val (.sl ct) xs)
  (hq:∀b:Bool,(b=true→xs= [])→At F (Q .normal) ((t4,.val .bool b)::(q,.val (.sl ct) xs)::env) h):Tri F (.region id ops false) Q env h:=fun hok c a w hs=>by
 simp only[fL,Bool.and_eq_true] at hok;obtain⟨⟨hok1,_⟩,_⟩:=hok;subst hops;have U:=List.all_eq_true.1 hok1;have hk1:=U ⟨some q,.move (.tmp z),Y,I,L,none⟩ (by simp);have hk2:=U ⟨some t4,.binOp .eql O (.tmp q) (.const (.slice none 0 0)) Z,W,N,J,none⟩ (by simp);have h0:=hs.env z;rw[hv] at h0;obtain⟨⟨f,len,g,e1,e2⟩,_,e3⟩:=h0;have hval:a.tmps.getD z Go.undef= .slice f len g:=by
  have e3:=e3 rfl;simp_all[undef,Value.cells]
 have h0:=hs.env z;rw[hv] at h0;have s1:=hs.after hk1 (v:=a.tmps.getD z Go.undef) (av:=.val (.sl ct) xs) ⟨.refl _ _,hs.good,h0⟩;have ht3:q<a.tmps.size:=by
  simp only[eZ,Bool.and_eq_true] at hk1;rw[hs.size]; simp_all
 have s2:=s1.after hk2 (v:=.bool f.isNone) (av:=.val .bool f.isNone) ⟨.refl _ _,s1.good,aE0 _⟩;refine wp_region ?_;have run1:(execOp a.eval ⟨some q,.move (.tmp z),Y,I,L,none⟩).run F.P w= .ok (.value (a.tmps.getD z Go.undef)) w:=by
  rfl
 have hget:(a.put (some q) (a.tmps.getD z Go.undef)).eval (.tmp q)= .slice f len g:=by
  simp_all[Act.eval,Act.put]
 obtain⟨_,hd,_⟩:=dZ (hF.env.T _ _ hT);have run2:(execOp (a.put (some q) (a.tmps.getD z Go.undef)).eval ⟨some t4,.binOp .eql O (.tmp q) (.const (.slice none 0 0)) Z,W,N,J,none⟩).run F.P w= .ok (.value (.bool f.isNone)) w:=by
  have hc:(a.put (some q) (a.tmps.getD z Go.undef)).eval (.const (.slice none 0 0))= .slice none 0 0:=rfl;have hq:∀d,(Op.equalIn (d+1) O (.slice f len g) (.slice none 0 0)).run F.P w= .ok f.isNone w:=fun d=>by
   unfold Op.equalIn;rw[Sem.run_bind,bB hd];cases f<;>rfl
  have hb:(binOp .eql O (.slice f len g) (.slice none 0 0)).run F.P w= .ok (.bool f.isNone) w:=by
   have e:binOp .eql O (.slice f len g) (.slice none 0 0)=(do pure (.bool (← Op.equal O (.slice f len g) (.slice none 0 0)))):=(by rfl);rw[e,Sem.run_bind,Op.equal,show Op.maxDepth=(Op.maxDepth-1)+1 from rfl,hq];rfl
  simp_all[eqGuard,undef,execOp]
 have w1:∀(o:Oper) (y:Nat→Option Bool),o.guard=none→Region.wanted o y=true:=fun o y h=>by simp[Region.wanted,h]
 show wpOps F.P _ _ [0,1] a w;unfold wpOps;simp only[List.getElem?_toArray,List.getElem?_cons_zero];rw[if_pos (w1 _ _ rfl)];refine .inl ?_;unfold Oper.wp;rw[run1,Oper.upon_value];unfold wpOps;simp only[List.getElem?_toArray,List.getElem?_cons_succ,List.getElem?_cons_zero];rw[if_pos (w1 _ _ rfl)];refine .inl ?_;unfold Oper.wp;rw[run2,Oper.upon_value];refine hq f.isNone (fun hn=>?_) c _ w s2;obtain⟨_,_,_,e4⟩:=e2;simp_all
theorem dR{F:Fr}{fn:Func}{S:Nat→Prop}{r:RK}{y:r.ty.den}{env:St}{h:List Obj}(hF:xT F)(l:List ResultVar)(hM:F.M=top S)(f:F.ds= [])(z:fn.results=l.toArray)(hy:(aQ F.E.T h env l).1∧gK h r y (aQ F.E.T h env l).2):At F (post F.P fn S F.w0 r y .ret) env h:=fun c a w hs=>by
 obtain⟨g,q1,L,q⟩:=aHy (P:=F.P) hF.env.T hs.good hs.env z hy.1;refine⟨hs.defers.trans f,aK1 g,q1,aK1 g,rfl,by have:=hs.good.keeps; simp_all,?_⟩;exact bIJ (by rw[hM]) (by rw[hM]) hs.good L (fun i I J=>q i I J) hy.2
def aUz(i:Nat)(t:Ty)(x:t.den):AV→AV
 | .ptr j []=>if j=i then .roa t x else .ptr j []
 | .ptr j p=>if j=i then .junk else .ptr j p
 | .agg _=>.junk
 | .tup _=>.junk
 | .fn f g l2=>if g.contains i||l2.contains i then .junk else .fn f g l2
 | v=>v
theorem Good.shut{M:Perm}{w0:World}{c:Ctx}{h:List Obj}{w:World}(q:Good M w0 c h w){i n:Nat}{t:Ty}{x:t.den}(L:h[i]? = some (.box n (.val t x))) :
  ∃c',dG c w c' w∧c'.n=c.n∧Good M w0 c' (h.set i .dead) w∧ ∀v,aZ c w (.ptr i []) v→aZ c' w (.roa t x) v:=by
 have Z:=q.objs i _ L;have O:c.le (c.more (aW (c.hd i))):=⟨fun b hb=>.inl hb,Nat.le_refl _,fun _ _=>rfl⟩;have hl:dG c w (c.more (aW (c.hd i))) w:=⟨O,.refl _ _⟩;have hil:i<h.length:=aA3 L;have hcase:∀j f,(h.set i .dead)[j]? = some f→(j≠i∧h[j]? = some f)∨(j=i∧f= .dead):=fun j f g=>by
  grind
 refine⟨_,hl,rfl,⟨by simp[Ctx.more,q.n],q.keeps,fun b hb=>?_,fun b hb hlt=>?_,fun j f g=>?_,fun j f b g hb=>?_,fun j k f ok b g hk N U=>?_,aEh q.root O⟩,fun v hv=>?_⟩
 ·rcases hb with hb|hb
  ·exact q.sfin b hb
  ·exact(q.own i _ b L hb).2.1
 ·rcases hb with hb|hb
  ·exact q.src b hb hlt
  ·rcases (q.own i _ b L hb).1 with I|I
   all_goals grind
 ·rcases hcase j f g with⟨J,g⟩|⟨rfl,rfl⟩
  ·exact(q.objs j f g).keep hl (by rw[q.n]; grind) rfl (fun _ _=>rfl)
  ·trivial
 ·rcases hcase j f g with⟨J,g⟩|⟨rfl,rfl⟩
  ·obtain⟨I,h2,h3⟩:=q.own j f b g (by cases f<;>exact hb);refine⟨I,h2,fun W=>?_⟩;rcases W with W|W
   ·grind
   ·exact J (q.sep j i f _ b g L (by cases f<;>exact hb) W)
  ·cases hb
 ·rcases hcase j f g with⟨hnj,g⟩|⟨rfl,rfl⟩
  ·rcases hcase k ok hk with⟨hnk,hk⟩|⟨rfl,rfl⟩
   ·exact q.sep j k f ok b g hk (by cases f<;>exact N) (by cases ok<;>exact U)
   ·cases U
  ·cases N
 ·obtain⟨b,cells,e,I,h2,h3,Y⟩:=Z;obtain⟨⟨_,b',z,e1⟩,_,e3⟩:=hv;have e3:=e3 rfl;rw[I] at z;simp only[aW,Option.some.injEq] at z;subst z;have ev:v= .pointer (some ⟨b,0,none⟩):=by
   simp_all[Value.cells,mH]
  rw[ev];have Y:bC w c.S t x cells.toList:=Y;refine aHn (ds:=cells.toList) (.inr (by rw[I]; rfl)) (bC.keep (fun b hb=>.inl hb) (.refl _ _) _ _ _ Y) fun j u g=>?_;simp_all[Nat.zero_add,World.cell?]
theorem bLn{F:Fr}{K:Act→World→Prop}{env:St}{h:List Obj}(i:Nat){n:Nat}{t:Ty}{x:t.den}(z:h[i]? = some (.box n (.val t x)))(hk:At F K (env.map fun p=>(p.1,aUz i t x p.2)) (h.set i .dead)):At F K env h:=fun c a w hs=>by
 obtain⟨c',hl,I,q,hv⟩:=hs.good.shut z;refine hk c' a w ⟨q,hs.glob.mono hl.le.S hl.same,fun s=>?_,hs.size,hs.defers⟩;rw[aJi (aUz i t x) rfl];have h0:=hs.env s;generalize look env s=v at h0;generalize a.tmps.getD s Go.undef=u at h0;cases v with
 | ptr j p =>
  cases p with
  | nil =>
   simp only[aUz];split
   ·simp_all
   ·exact hl.val h0
  | cons _ _ =>
   simp only[aUz];split
   ·trivial
   ·exact hl.val h0
 | fn f J l2 =>
  simp only[aUz];split
  ·trivial
  ·exact hl.val h0
 | agg g=>trivial
 | tup g=>trivial
 | _=>exact hl.val h0
theorem aDF{F:Fr}{x:Code}{Q:Exit→Act→World→Prop}{env:St}{h:List Obj}(i:Nat){n:Nat}{t:Ty}{y:t.den}(g:h[i]? = some (.box n (.val t y)))(hk:Tri F x Q (env.map fun p=>(p.1,aUz i t y p.2)) (h.set i .dead)):Tri F x Q env h:=fun f=>bLn i g (hk f)
def mSpec(a:Ty)(r:RK)(m:a.den→Option r.ty.den):aH:=⟨a,r,fun x=>(m x).isSome=true,fun x=>(m x).getD r.ty.zero⟩
section
variable {P:Program} {E:Env}
theorem wH{f:FuncId}{fn:Func}{g:Code}{a:Ty}{r:RK}{m:a.den→Option r.ty.den}(z:eQ P E)(J:P.funcs[f]? = some fn)(hb:fn.body=some g)(q:fL fn.ntmps g=true)(I:aQX a≤fn.ntmps)
  (ht:∀(w0:World) (S:Nat→Prop) (x:a.den) (y:r.ty.den),a.wf x→m x=some y→Tri (fr P E S w0 fn.ntmps) g (post P fn S w0 r y) (bD a x 0) []):FOK P E.G f (mSpec a r m) :=
 bD9 z J hb q I fun w0 S x L hp=>by
  grind[Option.isSome_iff_exists,mSpec]
theorem fN{G:Nat→AV}{f:FuncId}{a:Ty}{r:RK}{m:a.den→Option r.ty.den}{pre:a.den→Prop}{fn:a.den→r.ty.den}(h:FOK P G f (mSpec a r m))(hc:∀x,a.wf x→pre x→m x=some (fn x)):FOK P G f ⟨a,r,pre,fn⟩:=fun w S q x g z ha hp=>by
 have hm:=hc x (aHt _ _ _ ha) hp;have:=h w S q x g z ha (by show (m x).isSome=true; grind);simp_all[mSpec]
end
attribute [go_sem] xW aUz
end Go.Vc
namespace Go.Vc
open Go.RowKit
def bIN:List (FuncId×Hit)→FuncId→List AV→List Obj→Option Hit
 | [],_,_,_=>none
 | (k,t)::r,f,g,h=>if k=f then some t else bIN r f g h
structure aPJ(P:Program)(G:Nat→AV)(l:List (FuncId×Hit)):Prop where
 ok:∀p∈l,GOK P G p.1 p.2.sp∧fnB P p.1=true
theorem aPJ.nil{P:Program}{G:Nat→AV}:aPJ P G []:=⟨fun p hp=>by cases hp⟩
theorem aPJ.cons{P:Program}{G:Nat→AV}{l:List (FuncId×Hit)}{f:FuncId}{t:Hit}(h:GOK P G f t.sp)(g:fnB P f=true)(hl:aPJ P G l):aPJ P G ((f,t)::l):=by
 refine⟨fun p hp=>?_⟩;rcases List.mem_cons.1 hp with rfl|hp
 ·simp_all
 ·exact hl.ok p hp
theorem aUA:∀ {l:List (FuncId×Hit)} {f:FuncId} {vs:List AV} {h:List Obj} {t:Hit},bIN l f vs h=some t→(f,t)∈l
 | (k,s)::r,f,vs,h,t,e=>by
  simp only[bIN] at e;split at e
  ·simp_all
  ·exact List.mem_cons_of_mem _ (aUA e)
theorem aKG{P:Program}{f:FuncId}(h:fnB P f=true):∃fn,P.funcs[f]? = some fn∧fn.name ≠ "runtime.NumGoroutine" ∧ fn.body.isSome=true:=by
 unfold fnB at h;grind
theorem aFN{P:Program}{G:Nat→AV}{l:List (FuncId×Hit)}(h:aPJ P G l):aHx P G (bIN l) :=
 ⟨fun f g hh t e=>(h.ok _ (aUA e)).1,fun f g hh t e=>aKG (h.ok _ (aUA e)).2⟩
theorem bind_some{α β:Type}{x:Option α}{k:α→Option β}{r:β}(h:x.bind k=some r):∃e,x=some e∧k e=some r:=by
 cases x with
 | none=>cases h
 | some e=>simp_all
def rpV:AV→AV
 | .val (.rp t) x=>.roa t x
 | v=>v
theorem bNw{c:Ctx}{w:World}{v:AV}{x:Value}(hv:aZ c w v x):aZ c w (rpV v) x:=by
 cases v with
 | val t y =>
  cases t with
  | rp t =>
   obtain⟨⟨b,off,ds,e,hb,hd,hc⟩,_,h3⟩:=hv;have h3:=h3 rfl;have f:x= .pointer (some ⟨b,off,none⟩):=by
    simp_all[Value.cells]
   rw[f];exact aHn hb hd hc
  | _=>exact hv
 | _=>exact hv
section
variable {P:Program} {E:Env}
theorem bIO{f:FuncId}{fn:Func}{q:Code}{sp:qW}(W:eQ P E)(O:P.funcs[f]? = some fn)(hb:fn.body=some q)(z:fL fn.ntmps q=true)(U:∀d,(sp.av d).length≤fn.ntmps)
  (ht:∀(c:Ctx) (w:World) (d:sp.D),AV.wfL (sp.av d)→Obj.wfL (sp.hp d)→sp.pre d→c.n=(sp.hp d).length→Tri ⟨P,E,GM sp c d,w,fn.ntmps,[]⟩ q (bodyPost P fn (aMd sp c w d)) (aJj ((sp.av d).map rpV) 0) (sp.hp d)):GOK P E.G f sp:=by
 intro c w d I hp g;refine calls_of_wp O hb ?_;refine ht c w d (aZt g.len g.val) (bFT g.good) hp g.good.n z c _ w ⟨g.good,g.glob,?_,?_,rfl⟩
 ·refine aZs _ I.toList 0 (by rw[List.length_map]; exact g.len) (fun i L N=>?_) fun i v hv=>?_
  ·rw[List.getElem_map]; exact bNw (g.val i (by simp_all) N)
  ·have J:i<I.size:=by
    grind
   simp_all[Nat.zero_add,Array.getElem?_toList,Array.getElem?_append,Array.getElem?_eq_getElem]
 ·have L:=g.len;simp_all
end
section
variable {P:Program} {E:Env} {M:Perm} {w0:World} {nt:Nat} {ds:List Deferred} {h:List Obj} {env:St}
theorem bLo(hE:eQ P E){sb:List Nat}{Δ:FuncId→List AV→List Obj→Option Hit}(Z:aHx P E.G Δ){ops:List Oper}{Q:Exit→Act→World→Prop}(J:∀o∈ops,eZ nt o=true){K:St→List Obj→Prop}{Kp:Pan→St→List Obj→Prop}
  (W:∀p env h c a w u,Kp p env h→Sim E M w0 nt ds c env h a w→cZ w c.S p.t p.x u→Q (.panic (aW5 p.k u)) a w) {i:Nat} (I:i<ops.length) {env:St} {h:List Obj} {c:Ctx} {a:Act} {w:World} (hs:aBO E Δ sb ops (ops.drop i) env h K Kp) (f:Sim E M w0 nt ds c env h a w)
  {N:Act→World→Prop} (hn:∀q h' c' a' w',aBO E Δ sb ops (ops.drop (i+1)) q h' K Kp→Sim E M w0 nt ds c' q h' a' w'→N a' w'):wpOp P ops.toArray Q i N a w:=by
 rw[List.drop_eq_getElem_cons I] at hs;have g:=J ops[i] (List.getElem_mem I);have O:∀(v:Value) (av:AV),aZ c w av v→Sim E M w0 nt ds c (wU ops[i].dst av env) h (a.put ops[i].dst v) w:=fun v av hv=>f.after g ⟨.refl _ _,f.good,hv⟩;unfold wpOp;simp only[List.getElem?_toArray,List.getElem?_eq_getElem I];have hrun:aK2 E Δ sb env h ops[i] (fun v h'=>aBO E Δ sb ops (ops.drop (i+1)) (wU ops[i].dst v env) h' K Kp) (fun p h'=>Kp p env h')→Region.wanted ops[i] (yielded ops.toArray a.tmps)=true→(if Region.wanted ops[i] (yielded ops.toArray a.tmps)=true then Oper.wp P ops[i] a w N Q∨(ops[i].asks P a w∧LetsOut Q) else N (a.put ops[i].dst Go.undef) w):=fun h1 hw=>by
  rw[if_pos hw]
  left
  refine bB5 hE Z f g h1 (fun v h' c' u w' hk ha=>hn _ _ c' _ w' hk (f.after g ha)) (fun p h' c' u w' hk hl hg hr=>W p env h' c' a w' u hk (f.step hl hg) hr)
 have hskip:aBO E Δ sb ops (ops.drop (i+1)) (wU ops[i].dst .undef env) h K Kp→Region.wanted ops[i] (yielded ops.toArray a.tmps)=false→(if Region.wanted ops[i] (yielded ops.toArray a.tmps)=true then Oper.wp P ops[i] a w N Q∨(ops[i].asks P a w∧LetsOut Q) else N (a.put ops[i].dst Go.undef) w):=fun h2 hw=>by
  rw[if_neg (by simp_all)];exact hn _ _ c _ w h2 (O _ _ rfl)
 simp only[aBO] at hs;cases U:ops[i].guard with
 | none =>
  grind[Region.wanted]
 | some jp =>
  obtain⟨j,L⟩:=jp;rw[U] at hs;simp only at hs;cases z:aGE ops j with
  | none=>simp_all
  | some dj =>
   rw[z] at hs;simp only at hs;have hv:=f.env dj;split at hs
   ·rename_i b hb;rw[hb] at hv;have Y:=aFG hv;have hy:=zA J f.size z Y;simp only[yb] at hy;by_cases e:b=L
    ·grind[Region.wanted]
    ·have e':b= !L:=(by cases b<;>cases L<;>simp_all);grind[Region.wanted]
   ·rename_i hb;rw[hb] at hv;have hy:=zA J f.size z (v:=Go.undef) hv;grind[Region.wanted,undef,yb]
   simp_all
theorem aYB(hE:eQ P E){sb:List Nat}{Δ:FuncId→List AV→List Obj→Option Hit}(L:aHx P E.G Δ){ops:List Oper}{Q:Exit→Act→World→Prop}(N:∀o∈ops,eZ nt o=true){K:St→List Obj→Prop}{Kp:Pan→St→List Obj→Prop}(hK:∀env h c a w,K env h→Sim E M w0 nt ds c env h a w→Q .normal a w)
  (J:∀p env h c a w u,Kp p env h→Sim E M w0 nt ds c env h a w→cZ w c.S p.t p.x u→Q (.panic (aW5 p.k u)) a w) {n:Nat} (ht:aQZ n ops=true) :
  ∀(m i:Nat),i+m=ops.length→n≤i→ ∀(listed:Array Bool),listed.size=ops.length→(∀k,k<ops.length→(listed.getD k false=true↔k<i))→ ∀(env:St) (h:List Obj) (c:Ctx) (a:Act) (w:World),aBO E Δ sb ops (ops.drop i) env h K Kp→Sim E M w0 nt ds c env h a w→wpAny P .any ops.toArray Q m listed a w
 | 0,i,hi,hni,listed,hsz,hl,env,h,c,a,w,hs,f=>by
  rw[List.drop_eq_nil_of_le (by omega)] at hs;refine⟨?_,hK env h c a w hs f⟩;rw[List.eq_nil_iff_forall_not_mem];grind[mem_ready,jE.get_lt']
 | m+1,i,hi,hni,listed,hsz,hl,env,h,c,a,w,hs,f=>by
  have g:i<ops.length:=by omega
  have hio:ops[i]? = some ops[i]:=List.getElem?_eq_getElem g;refine⟨fun hr=>?_,fun j hj=>?_⟩
  ·exfalso;have hmem:i∈Region.ready .any ops.toArray listed:=by
    grind[mem_ready,jE]
   simp_all
  ·obtain⟨h1,o,U,O⟩:=mem_ready.1 hj;have U:ops[j]? = some o:=(by simp_all);have hjl:=jE.get_lt' U;have Y:j=i:=by
    rcases Nat.lt_trichotomy j i with hlt|heq|Z
    ·grind
    ·exact heq
    ·have:=(jE ht U).2 (by omega) (fun k=>k<ops.length→listed.getD k false=true) (fun k o' I hk e he hb=>fun hlt=>by
      have hkl:=jE.get_lt' I;have h3:=(jE ht I).1 e he hb;grind) (fun e he hb _=>O e he hb) i Z g
     simp_all
   subst Y;refine bLo hE L N J g hs f fun z h' c' a' w' W q=>?_;refine aYB hE L N hK J ht m (j+1) (by omega) (by omega) (listed.setIfInBounds j true) (by grind) (fun k hk=>?_) z h' c' a' w' W q;by_cases e:j=k
   ·simp_all
   ·rw[getD_set_ne false e,hl k hk];omega
def aPK(ops:List Oper)(done:List Nat):List Nat:=(List.range ops.length).filter fun i=> !done.contains i&&(match ops[i]? with
 | some o=>o.after.toList.all fun e=> !Region.binds .any e||done.contains e.on
 | none=>false)
def anyS(E:Env)(ops:List Oper)(K:St→List Obj→Prop):Nat→List Nat→St→List Obj→Prop
 | 0,_,env,h=>K env h
 | n+1,done,env,h=>∀i,i∈aPK ops done→match ops[i]? with
  | some o=>o.guard=none∧(match xU E env h o with
   | (p,v,h')=>p∧anyS E ops K n (i::done) (wU o.dst v env) h')
  | none=>False
def bF3(ops:List Oper):Bool:=ops.zipIdx.all fun p=>p.1.after.toList.all fun e=> !Region.binds .any e||decide (e.on<p.2)
theorem aNh:∀ {l m:List Nat},l.Nodup→(∀x∈l,x∈m)→l.length≤m.length∧(l.length=m.length→ ∀x∈m,x∈l)
 | [],m,_,_=>⟨by simp,fun h x hx=>by
  grind⟩
 | a::l,m,I,hs=>by
  have ha:a∈m:=hs a (by simp);have f:=List.nodup_cons.1 I;have g:=List.length_erase_of_mem ha;have q:0<m.length:=List.length_pos_of_mem ha;have z:=aNh (l:=l) (m:=m.erase a) f.2 (fun x hx=>by
   grind)
  grind
theorem bF4(hE:eQ P E){ops:List Oper}{Q:Exit→Act→World→Prop}(O:∀o∈ops,eZ nt o=true){K:St→List Obj→Prop}(hK:∀env h c a w,K env h→Sim E M w0 nt ds c env h a w→Q .normal a w)(hb:bF3 ops=true) :
  ∀(n:Nat) (done:List Nat) (listed:Array Bool),listed.size=ops.length→(∀k,k<ops.length→(listed.getD k false=true↔k∈done))→done.length+n=ops.length→done.Nodup→(∀k∈done,k<ops.length)→ ∀(env:St) (h:List Obj) (c:Ctx) (a:Act) (w:World),anyS E ops K n done env h→Sim E M w0 nt ds c env h a w→wpAny P .any ops.toArray Q n listed a w
 | 0,done,listed,Z,hl,hn,hd,L,env,h,c,a,w,hs,f=>by
  refine⟨?_,hK env h c a w hs f⟩;rw[List.eq_nil_iff_forall_not_mem];intro j N;obtain⟨h1,o,I,_⟩:=mem_ready.1 N;have I:ops[j]? = some o:=by simp_all
  have z:=jE.get_lt' I;have U:j∈done:=by
   exact(aNh hd (m:=List.range ops.length) (fun k hk=>List.mem_range.2 (L k hk))).2 (by grind) j (List.mem_range.2 z)
  grind
 | n+1,done,listed,Z,hl,hn,hd,L,env,h,c,a,w,hs,f=>by
  have hrd:∀j,j∈Region.ready .any ops.toArray listed→j∈aPK ops done∧j∉done∧j<ops.length:=fun j N=>by
   obtain⟨h1,o,I,U⟩:=mem_ready.1 N;have I:ops[j]? = some o:=(by simp_all);have z:=jE.get_lt' I;have Y:j<listed.size:=(by omega);have hnd:j∉done:=fun hm=>by
    grind
   refine⟨?_,hnd,z⟩;simp only[aPK,List.mem_filter,List.mem_range,I,Bool.and_eq_true,Bool.not_eq_true',List.contains_eq_mem,decide_eq_false_iff_not,List.all_eq_true,Bool.or_eq_true,decide_eq_true_eq];grind
  refine⟨fun hr=>?_,fun j N=>?_⟩
  ·exfalso;have q:∃k,(k<ops.length∧k∉done)∧ ∀j,j<k→ ¬(j<ops.length∧j∉done):=by
    have q:∃k,k<ops.length∧k∉done:=by
     apply Classical.byContradiction;intro hc;have W:List.range ops.length ⊆ done:=fun k hk=>Classical.byContradiction fun hk2=>hc ⟨k,List.mem_range.1 hk,hk2⟩;have:=(aNh (List.nodup_range (n:=ops.length)) (fun k hk=>W hk)).1;grind
    obtain⟨n,h1,h2⟩:=aJk q;grind
   obtain⟨k,⟨hk,hkd⟩,hlow⟩:=q;have hmem:k∈Region.ready .any ops.toArray listed:=by
    rw[mem_ready];have Y:k<listed.size:=(by omega);have hun:¬listed.getD k false=true:=fun h=>hkd ((hl k hk).1 h);refine⟨by grind,ops[k],by simp[hk],fun e he hbe=>?_⟩;have hbk:=List.all_eq_true.1 hb (ops[k],k) (by grind);grind
   simp_all
  ·obtain⟨r1,r2,r3⟩:=hrd j N;have hs:=hs j r1;have J:ops[j]? = some ops[j]:=List.getElem?_eq_getElem r3;rw[J] at hs;obtain⟨hg,hp,hrest⟩:=hs;have g:=O ops[j] (List.getElem_mem r3);have hw:Region.wanted ops[j] (yielded ops.toArray a.tmps)=true:=(by simp[Region.wanted,hg]);unfold wpOp;simp only[List.getElem?_toArray,J];rw[if_pos hw]
   left
   refine(aKF hE f g hp).wp fun v w' c' ha=>?_;refine bF4 hE O hK hb n (j::done) (listed.setIfInBounds j true) (by grind) (fun k hk=>?_) (by grind) (List.nodup_cons.2 ⟨r2,hd⟩) (fun k hk=>?_) _ _ c' _ w' hrest (f.after g ha)
   ·by_cases e:j=k
    ·simp_all
    ·rw[getD_set_ne false e,hl k hk];grind
   grind
theorem aQ0{F:Fr}{Q:Exit→Act→World→Prop}{env:St}{h:List Obj}(hF:xT F){id:Nat}{ops:Array Oper}(keep:List Nat)(g:St)(h':List Obj)(hb:bF3 ops.toList=true)
  (hv:anyS F.E ops.toList (fun e o=>keep.map (fun t=>(t,look e t))=g∧o=h') ops.toList.length [] env h) (hk:At F (Q .normal) g h'):Tri F (.region id ops true) Q env h:=fun q c a w hs=>by
 simp only[fL,Bool.and_eq_true,Bool.or_eq_true,Bool.not_eq_true'] at q;obtain⟨⟨J,L⟩,h3⟩:=q;refine wp_region_any hF.mix ?_;have f:dG c w c { w with drawn:=w.drawn+1 }:=⟨.refl _,fun b hb=>rfl⟩;have z:Sim F.E F.M F.w0 F.nt F.ds c env h a { w with drawn:=w.drawn+1 } :=
  ⟨hs.good.step f rfl rfl ⟨rfl,rfl,rfl,Nat.le_refl _,fun _ _ _=>rfl⟩ (fun _ _ _ _ _=>rfl) hs.good.sfin (fun _ hb=>.inl hb),sY.mono (w:=w) (w':={ w with drawn:=w.drawn+1 }) (fun _ hb=>hb) f.same hs.glob,hs.env.keep f,hs.size,hs.defers⟩
 have:=bF4 (Q:=Q) hF.env (List.all_eq_true.1 J) (K:=fun e o=>keep.map (fun t=>(t,look e t))=g∧o=h') (fun e o c a w I hs=>by
  obtain⟨rfl,rfl⟩:=I;exact hk c a w (hs.keep keep)) hb ops.toList.length [] (Array.replicate ops.size false) (by simp) (fun k hk=>by simp_all) (by simp) List.nodup_nil (fun k hk=>by cases hk) env h c a _ hv z
 omega
theorem bLp{F:Fr}{K:Exit→St→List Obj→Prop}{Q:Exit→Act→World→Prop}{env:St}{h:List Obj}(hF:xT F)(Y:∀e env h,K e env h→At F (Q e) env h){Δ:FuncId→List AV→List Obj→Option Hit}(J:aHx F.P F.E.G Δ){id:Nat}{ops:Array Oper}(n:Nat)(f:(aZi (ops.toList.take n)&&aIk (ops.toList.take n)&&aQZ (ops.toList.take n).length ops.toList)=true)(keep sb:List Nat)
  (hv:vcA F.E h env (ops.toList.take n) 0 [] (fun g=>aBO F.E Δ sb ops.toList (ops.toList.drop n) (mZ F.E.T (eB (ops.toList.take n) 0) (kM g env) h).1 (mZ F.E.T (eB (ops.toList.take n) 0) (kM g env) h).2 (fun env h=>K .normal (keep.map fun t=>(t,look env t)) h) (fun p env h=>AtP F Q p env h))):Tri F (.region id ops true) Q env h:=fun z c a w hs=>by
 simp only[fL,Bool.and_eq_true,Bool.or_eq_true,Bool.not_eq_true'] at z;obtain⟨⟨O,h2⟩,h3⟩:=z;simp only[Bool.and_eq_true] at f;obtain⟨⟨W,U⟩,Z⟩:=f;have e:ops.toList.take n++ops.toList.drop n=ops.toList:=List.take_append_drop n ops.toList;have:=aYs (id:=id) (pre:=ops.toList.take n) (tail:=ops.toList.drop n) (Q:=Q) hF.env hF.mix (by grind) U W (by simp_all) hs (K':=fun env h=>aBO F.E Δ sb ops.toList (ops.toList.drop n) env h (fun env h=>K .normal (keep.map fun t=>(t,look env t)) h) (fun p env h=>AtP F Q p env h)) hv
  (fun env h c a w listed q hl hk I=>by
   rw[e] at q hl ⊢;exact aYB (K:=fun env h=>K .normal (keep.map fun t=>(t,look env t)) h) (Kp:=fun p env h=>AtP F Q p env h) hF.env J (List.all_eq_true.1 O) (fun env h c a w hk hs=>Y _ _ _ hk c a w (hs.keep keep)) (fun p env h c a w u hk hs N=>hk c a w u hs N) Z (ops.toList.drop n).length (ops.toList.take n).length (by grind) (Nat.le_refl _) listed q hl env h c a w (by
    have L:ops.toList.drop (ops.toList.take n).length=ops.toList.drop n:=by
     simp_all
    rw[L]; exact hk) I)
 simp_all
theorem aUB{f:FuncId}{fn:Func}{g:Code}{a:Ty}{r:RK}{m:a.den→Option r.ty.den}(z:eQ P E)(J:P.funcs[f]? = some fn)(hb:fn.body=some g)(q:fL fn.ntmps g=true)(I:aQX a≤fn.ntmps)
  (ht:∀(w0:World) (S:Nat→Prop) (x:a.den) (y:r.ty.den),a.wf x→m x=some y→Tri (fr P E S w0 fn.ntmps) g (bFX P fn S w0 r y) (bD a x 0) []):FOK P E.G f (mSpec a r m) :=
 bLj z J hb q I fun w0 S x L hp=>by
  grind[Option.isSome_iff_exists,mSpec]
def bEg:AV→Bool
 | .val _ _=>true
 | .tup f=>f.all fun v=>match v with| .val _ _=>true|_=>false
 | _=>false
theorem bHg{c:Ctx}{w:World}{σ:List Nat}{v:AV}{x:Value}(hp:bEg v=true)(hv:aZ c w v x):aZ (c.ren σ) w v x:=by
 cases v with
 | val t y=>exact aTG (σ:=σ) hv
 | tup g =>
  obtain⟨z,e,hl,hi⟩:=hv;refine⟨z,e,hl,fun i f q=>?_⟩;have hq:=List.all_eq_true.1 hp g[i] (List.getElem_mem f);have:=hi i f q;revert hq this;generalize g[i]=u;intro hq this;cases u<;>first|exact this|simp_all
 | _=>grind[bEg]
theorem aGH{F:Fr}{fn:Func}{sp:qW}{c0:Ctx}{d:sp.D}{env:St}{h h':List Obj}{v:AV}(hF:xT F)(l:List ResultVar)(σ:List Nat)(hM:F.M=GM sp c0 d)(U:F.ds= [])(hr:fn.results=l.toArray)(W:nodupB σ=true)(N:preB F.M.m σ=true)(q:sp.out d= .ret v h')(hh:(σ.map fun i=>xV σ (h.getD i .dead))=h')(O:(match v with| .tup J=>J.all bIH|_=>true)=true)(Y:bEg v=true)(hy:(aQ F.E.T h env l).1∧aIP h v (aQ F.E.T h env l).2) :
  At F (bodyPost F.P fn (aMd sp c0 F.w0 d) .ret) env h:=fun c a w hs=>by
 subst hh;obtain⟨z,q1,I,L⟩:=aHy (P:=F.P) hF.env.T hs.good hs.env hr hy.1;refine⟨hs.defers.trans U,aK1 z,q1,c.ren σ,?_⟩;rw[q];refine⟨aK1 z,rfl,by rw[← hM]; exact hs.good.ren W N,bHg Y ?_⟩;have f:=hy.2;generalize (aQ F.E.T h env l).2=rs at I L f;cases v with
 | tup J =>
  obtain⟨h1,h2⟩:=f;obtain⟨k1,k2⟩:=aZu hs.good h2 I L;refine⟨z,?_,k1,fun i Z p2=>?_⟩
  ·match z,I with
   | [],_=>rfl
   | [x],I=>simp_all
   | a::b::r,_=>rfl
  ·have g:=List.all_eq_true.1 O J[i] (List.getElem_mem Z);exact bFU (k2 i Z p2).1 (k2 i Z p2).2 (fun l e=>by rw[e] at g; cases g) (fun e=>by rw[e] at g; cases g)
 | _ =>
  match rs,f with
  | [u],f =>
   match z,I with
   | [x],_=>exact aTE hs.good f (L 0 (by simp) (by simp))
theorem aNi{F:Fr}{fn:Func}{R:Ending→World→Prop}{env:St}{h:List Obj}(hk:At F (bodyPost F.P fn R .ret) env h):At F (bodyPost F.P fn R .normal) env h:=hk
end
attribute [go_sem] bIN rpV
end Go.Vc
namespace Go.Vc
open Go.RowKit
theorem bIP(n:Nat):((no_index (OfNat.ofNat n):Nat):Int)=OfNat.ofNat n:=rfl
def sat{α:Type}(o:Option α)(Θ:α→Prop):Prop:=∃x,o=some x∧Θ x
section
variable {α β:Type} {p:Prop} [Decidable p] {k x y:Option α} {Θ:α→Prop} {a:α}
theorem aUC(h:sat (ck p k) Θ):p∧sat k Θ:=by
 obtain⟨z,f,g⟩:=h;obtain⟨hp,hk⟩:=bE f;exact⟨hp,z,hk,g⟩
theorem cW(hp:p)(h:sat (if p then x else y) Θ):sat x Θ:=by simp_all
theorem cX(hp:¬p)(h:sat (if p then x else y) Θ):sat y Θ:=by simp_all
theorem aG{G:Prop}(h:sat (ck p k) Θ)(f:p→sat k Θ→G):p∧G:=⟨(aUC h).1,f (aUC h).1 (aUC h).2⟩
theorem bS{f g:Prop}(h:sat (if p then x else y) Θ)(q:p→sat x Θ→f)(z:¬p→sat y Θ→g):(p→f)∧(¬p→g):=⟨fun c=>q c (cW c h),fun c=>z c (cX c h)⟩
theorem bP{f g:Prop}{m n:Int}(h:sat (if m<n then x else y) Θ)(q:m<n→sat x Θ→f)(z:n≤m→sat y Θ→g):(m<n→f)∧(n≤m→g):=⟨fun c=>q c (cW c h),fun c=>z c (cX (Int.not_lt.2 c) h)⟩
theorem aGc{f g:Prop}{m n:Int}(h:sat (if m≤n then x else y) Θ)(q:m≤n→sat x Θ→f)(z:n<m→sat y Θ→g):(m≤n→f)∧(n<m→g):=⟨fun c=>q c (cW c h),fun c=>z c (cX (Int.not_le.2 c) h)⟩
theorem aFb{f g:Prop}{b:Bool}(h:sat (if b=true then x else y) Θ)(q:b=true→sat x Θ→f)(z:¬b=true→sat y Θ→g):(b=true→f)∧(¬b=true→g):=bS h q z
theorem aAn{f g:Prop}{b:Bool}(h:sat (if ¬b=true then x else y) Θ)(q:b=false→sat x Θ→f)(z:¬b=false→sat y Θ→g):(b=false→f)∧(¬b=false→g) :=
 ⟨fun c=>q c (cW (by simp_all) h),fun c=>z c (cX (fun n=>c (by simp_all)) h)⟩
theorem aA(h:sat (some a) Θ):Θ a:=by
 obtain⟨z,f,g⟩:=h;simp_all
theorem aFc{P:Prop}(h:sat none Θ):P:=by
 obtain⟨z,f,g⟩:=h;cases f
theorem aD{o:Option β}{f:β→Option α}(h:sat (o.bind f) Θ){G:Prop}(q:∀z,o=some z→sat (f z) Θ→G):G:=by
 obtain⟨r,g,I⟩:=h;cases o with
 | none=>cases g
 | some z=>exact q z rfl ⟨r,g,I⟩
theorem aB(h:sat (ck p k) Θ){G:Prop}(f:p→sat k Θ→G):G:=f (aUC h).1 (aUC h).2
end
def aZv(n:Nat)(ops:List Oper):Bool:=aZi (ops.take n)&&aIk (ops.take n)&&aQZ (ops.take n).length ops
inductive Pl where
 | A (keep:List Nat)
 | B (keep:List Nat)
 | C (n:Nat) (keep:List Nat)
 | P (keep sb:List Nat)
 | Q (n:Nat) (keep sb:List Nat)
 | stop
def aZw:List (FuncId×(List AV→List Obj→Hit))→FuncId→List AV→List Obj→Option Hit
 | [],_,_,_=>none
 | (k,t)::r,f,g,h=>match decide (k=f) with
  | true=>some (t g h)
  | false=>aZw r f g h
structure aHC(P:Program)(G:Nat→AV)(l:List (FuncId×(List AV→List Obj→Hit))):Prop where
 ok:∀p∈l,(∀vs h,GOK P G p.1 (p.2 vs h).sp)∧fnB P p.1=true
theorem aHC.nil{P:Program}{G:Nat→AV}:aHC P G []:=⟨fun p hp=>by cases hp⟩
theorem aHC.cons{P:Program}{G:Nat→AV}{l:List (FuncId×(List AV→List Obj→Hit))}{f:FuncId}{t:List AV→List Obj→Hit}(h:∀vs x,GOK P G f (t vs x).sp)(g:fnB P f=true)(hl:aHC P G l):aHC P G ((f,t)::l):=by
 refine⟨fun p hp=>?_⟩;rcases List.mem_cons.1 hp with rfl|hp
 ·exact⟨h,g⟩
 ·exact hl.ok p hp
theorem bB9:∀ {l:List (FuncId×(List AV→List Obj→Hit))} {f:FuncId} {vs:List AV} {h:List Obj} {t:Hit},aZw l f vs h=some t→ ∃s,(f,s)∈l∧t=s vs h
 | (k,s)::r,f,vs,h,t,e=>by
  simp only[aZw] at e;split at e
  ·simp_all
  ·obtain⟨u,g,q⟩:=bB9 e;grind
theorem bCa{P:Program}{G:Nat→AV}{l:List (FuncId×(List AV→List Obj→Hit))}(h:aHC P G l):aHx P G (aZw l):=by
 refine⟨fun f q hh t e=>?_,fun f q hh t e=>?_⟩<;>obtain⟨s,g,rfl⟩:=bB9 e
 ·exact(h.ok _ g).1 q hh
 ·exact aKG (h.ok _ g).2
def aCH:List Obj→Nat→(t:Ty)→t.den
 | .box _ (.val s x)::_,0,t=>if e:s=t then e▸x else t.zero
 | _::h,i+1,t=>aCH h i t
 | _,_,t=>t.zero
@[go_sem] theorem bNx{n:Nat}{t:Ty}{x:t.den}{h:List Obj}:aCH (.box n (.val t x)::h) 0 t=x:=by simp[aCH]
@[go_sem] theorem bMZ{o:Obj}{h:List Obj}{i:Nat}{t:Ty}:aCH (o::h) (i+1) t=aCH h i t:=by
 cases o<;>try rfl
 rename_i n v;cases v<;>rfl
def aBQ(h:List Obj)(vs:List AV)(i:Nat)(t:Ty):t.den:=match AV.as (h.map dY) t (vs.getD i .junk) with
 | some x=>x
 | none=>t.zero
def mkH{R:Type}(o:Option R)(z:R)(f:R→Hit):Hit:=f (o.getD z)
theorem bIQ{R:Type}{r z:R}{f:R→Hit}:mkH (some r) z f=f r:=rfl
structure PlR where
 reg:List (Nat×Pl)
 stops:List (Nat×Nat)
 dl:List (FuncId×(List AV→List Obj→Hit))
def bLq:List (Nat×Pl)→Nat→Pl
 | [],_=>.stop
 | (i,p)::r,f=>match decide (i=f) with
  | true=>p
  | false=>bLq r f
def first:Code→Nat
 | .region f _ _=>f+3
 | .seq x _=>first x
 | .block _ x=>first x
 | .loop x=>first x
 | .scope x=>first x
 | .skip=>1
 | .label _=>1
 | .ret=>0
 | _=>2
def bCb:List (Nat×Nat)→Code→Code→Bool
 | [],_,_=>false
 | (a,b)::r,x,y=>match decide (a=first x) with
  | true=>match decide (b=first y) with
   | true=>true
   | false=>bCb r x y
  | false=>bCb r x y
def bNy(V:St→List Obj→Prop)(K:Exit→St→List Obj→Prop):Exit→St→List Obj→Prop:=fun e env h=>match e with
 | .normal=>V env h
 | e=>K e env h
def bLr(id:Nat)(K:Exit→St→List Obj→Prop):Exit→St→List Obj→Prop:=fun e env h=>match e with
 | .normal=>K .normal env h
 | .exit j=>match decide (j=id) with
  | true=>K .normal env h
  | false=>K (.exit j) env h
 | .ret=>K .ret env h
 | _=>False
def bOh(K:Exit→St→List Obj→Prop):Exit→St→List Obj→Prop:=fun e env h=>match e with
 | .normal=>K .normal env h
 | .exit j=>K (.exit j) env h
 | .ret=>K .ret env h
 | _=>False
def vcC(F:Fr)(p:PlR):Code→(Exit→St→List Obj→Prop)→(Exit→Act→World→Prop)→St→List Obj→Prop
 | .skip,K,_,env,h=>K .normal env h
 | .label _,K,_,env,h=>K .normal env h
 | .exit q,K,_,env,h=>K (.exit q) env h
 | .ret,K,_,env,h=>K .ret env h
 | .seq x y,K,Q,env,h=>match bCb p.stops x y with
  | true=>Tri F (.seq x y) Q env h
  | false=>vcC F p x (bNy (vcC F p y K Q) K) (Exit.then (Next F y Q) Q) env h
 | .cond o x y,K,Q,env,h=>match evA F.E.G env o with
  | .val .bool b=>(b=true→vcC F p x K Q env h)∧(¬b=true→vcC F p y K Q env h)
  | _=>False
 | .block q x,K,Q,env,h=>vcC F p x (bLr q K) (Exit.inBlock q Q) env h
 | .scope x,K,Q,env,h=>vcC F p x (bOh K) (Exit.noGoto Q) env h
 | .region q ops f,K,Q,env,h=>match bLq p.reg q with
  | .A keep=>vcA F.E h env ops.toList 0 [] (fun g=>K .normal (aW3 keep g env) h)
  | .B keep=>f=false∧yZ F.E ops.toList ops.toList env h (fun env h=>K .normal (keep.map fun t=>(t,look env t)) h)
  | .C n keep=>(f=true∧aZv n ops.toList=true) ∧
    vcA F.E h env (ops.toList.take n) 0 [] (fun g=>yZ F.E ops.toList (ops.toList.drop n) (mZ F.E.T (eB (ops.toList.take n) 0) (kM g env) h).1 (mZ F.E.T (eB (ops.toList.take n) 0) (kM g env) h).2 (fun env h=>K .normal (keep.map fun t=>(t,look env t)) h))
  | .P keep sb=>f=false∧aBO F.E (aZw p.dl) sb ops.toList ops.toList env h (fun env h=>K .normal (keep.map fun t=>(t,look env t)) h) (fun e env h=>AtP F Q e env h)
  | .Q n keep sb=>(f=true∧aZv n ops.toList=true) ∧
    vcA F.E h env (ops.toList.take n) 0 [] (fun g=>aBO F.E (aZw p.dl) sb ops.toList (ops.toList.drop n) (mZ F.E.T (eB (ops.toList.take n) 0) (kM g env) h).1 (mZ F.E.T (eB (ops.toList.take n) 0) (kM g env) h).2 (fun env h=>K .normal (keep.map fun t=>(t,look env t)) h) (fun e env h=>AtP F Q e env h))
  | .stop=>Tri F (.region q ops f) Q env h
 | c,_,Q,env,h=>Tri F c Q env h
structure VOK(F:Fr)(p:PlR):Prop where
 fr:xT F
 hits:aHC F.P F.E.G p.dl
section
variable {F:Fr} {p:PlR}
theorem bF5(hF:xT F){K:Exit→St→List Obj→Prop}{Q:Exit→Act→World→Prop}(O:∀e env h,K e env h→At F (Q e) env h){id:Nat}{ops:Array Oper}{q:Bool}{keep:List Nat}{env:St}{h:List Obj}
  (hv:vcA F.E h env ops.toList 0 [] (fun f=>K .normal (aW3 keep f env) h)):Tri F (.region id ops q) Q env h:=fun z c a w hs=>by
 simp only[fL,Bool.and_eq_true,Bool.or_eq_true,Bool.not_eq_true'] at z;obtain⟨⟨L,N⟩,h3⟩:=z;have g:∀f c' I w',K .normal (aW3 keep f env) h→dG c w c' w'→c'.n=c.n→Sim F.E F.M F.w0 F.nt F.ds c' (kM f env) h I w'→Q .normal I w':=fun f c' I w' hk _ _ J=>by
  have:=J.keep keep;refine O _ _ _ hk c' I w' ?_;grind[aW3,look,kM,bBM]
 cases q with
 | false=>exact bBJ (ops:=ops.toList) hF.env (List.all_eq_true.1 L) N hs hv g
 | true=>exact aM9 (ops:=ops.toList) hF.env hF.mix (List.all_eq_true.1 L) N (h3.resolve_left (by simp)) hs hv g
theorem bF6(hF:xT F){K:Exit→St→List Obj→Prop}{Q:Exit→Act→World→Prop}(q:∀e env h,K e env h→At F (Q e) env h){id:Nat}{ops:Array Oper}{keep:List Nat}{env:St}{h:List Obj}
  (hv:yZ F.E ops.toList ops.toList env h (fun env h=>K .normal (keep.map fun t=>(t,look env t)) h)):Tri F (.region id ops false) Q env h:=fun f c a w hs=>by
 simp only[fL,Bool.and_eq_true,Bool.or_eq_true,Bool.not_eq_true'] at f;obtain⟨⟨g,z⟩,h3⟩:=f;refine wp_region ?_;have:=aNe (Q:=Q) hF.env (List.all_eq_true.1 g) (K:=fun env h=>K .normal (keep.map fun t=>(t,look env t)) h) (fun env h c a w hk hs=>q _ _ _ hk c a w (hs.keep keep)) ops.toList.length 0 (by simp) env h c a w (by simp_all) hs;simp_all[List.range_eq_range']
theorem bLs(hF:xT F){K:Exit→St→List Obj→Prop}{Q:Exit→Act→World→Prop}(J:∀e env h,K e env h→At F (Q e) env h){id:Nat}{ops:Array Oper}(n:Nat)(f:aZv n ops.toList=true){keep:List Nat}{env:St}{h:List Obj}
  (hv:vcA F.E h env (ops.toList.take n) 0 [] (fun g=>yZ F.E ops.toList (ops.toList.drop n) (mZ F.E.T (eB (ops.toList.take n) 0) (kM g env) h).1 (mZ F.E.T (eB (ops.toList.take n) 0) (kM g env) h).2 (fun env h=>K .normal (keep.map fun t=>(t,look env t)) h))) :
  Tri F (.region id ops true) Q env h:=fun q c a w hs=>by
 simp only[fL,Bool.and_eq_true,Bool.or_eq_true,Bool.not_eq_true'] at q;obtain⟨⟨L,N⟩,h3⟩:=q;simp only[aZv,Bool.and_eq_true] at f;obtain⟨⟨I,z⟩,O⟩:=f;have e:ops.toList.take n++ops.toList.drop n=ops.toList:=List.take_append_drop n ops.toList;have:=bIx (id:=id) (pre:=ops.toList.take n) (tail:=ops.toList.drop n) (Q:=Q) hF.env hF.mix (by grind) z I (by simp_all) hs (K':=fun env h=>K .normal (keep.map fun t=>(t,look env t)) h) (by simp_all) (fun env h c a w hk hs=>J _ _ _ hk c a w (hs.keep keep));simp_all
theorem aJl(hF:VOK F p):∀(c:Code) (K:Exit→St→List Obj→Prop) (Q:Exit→Act→World→Prop),(∀e env h,K e env h→At F (Q e) env h)→ ∀env h,vcC F p c K Q env h→Tri F c Q env h
 | .skip,K,Q,f,env,h,hv=>dA (f _ _ _ hv)
 | .label _,K,Q,f,env,h,hv=>bG2 (f _ _ _ hv)
 | .exit _,K,Q,f,env,h,hv=>aDC (f _ _ _ hv)
 | .ret,K,Q,f,env,h,hv=>dL (f _ _ _ hv)
 | .seq x y,K,Q,f,env,h,hv=>by
  unfold vcC at hv;split at hv
  ·exact hv
  ·refine aO (aJl hF x _ _ (fun e env h hk=>?_) env h hv);cases e with
   | normal=>exact aP (aJl hF y K Q f env h hk)
   | _=>exact f _ env h hk
 | .cond o x y,K,Q,f,env,h,hv=>by
  unfold vcC at hv;split at hv
  ·rename_i b hb;exact cE hb (fun e=>aJl hF x K Q f env h (hv.1 e)) (fun e=>aJl hF y K Q f env h (hv.2 (by simp_all)))
  simp_all
 | .block z x,K,Q,f,env,h,hv=>by
  refine gU (aJl hF x _ _ (fun e env h hk=>?_) env h hv);cases e with
  | normal=>exact f .normal env h hk
  | ret=>exact f .ret env h hk
  | exit j =>
   simp only[bLr] at hk;split at hk
   ·rename_i hd;obtain rfl:=of_decide_eq_true hd;grind[lV]
   grind[aJh,of_decide_eq_false]
  | _=>exact hk.elim
 | .scope x,K,Q,f,env,h,hv=>by
  refine bHd (aJl hF x _ _ (fun e env h hk=>?_) env h hv);cases e with
  | normal=>exact f .normal env h hk
  | ret=>exact f .ret env h hk
  | exit j=>exact f (.exit j) env h hk
  | _=>exact hk.elim
 | .region z ops q,K,Q,f,env,h,hv=>by
  unfold vcC at hv;split at hv
  ·exact bF5 hF.fr f hv
  ·obtain⟨rfl,hv⟩:=hv; exact bF6 hF.fr f hv
  ·obtain⟨⟨rfl,g⟩,hv⟩:=hv; exact bLs hF.fr f _ g hv
  ·obtain⟨rfl,hv⟩:=hv; exact bFS hF.fr f (bCa hF.hits) _ _ hv
  ·obtain⟨⟨rfl,g⟩,hv⟩:=hv; exact bLp hF.fr f (bCa hF.hits) _ g _ _ hv
  omega
 | .loop x,K,Q,f,env,h,hv=>hv
 | .rangeFunc _ _ _ _,K,Q,f,env,h,hv=>hv
 | .goto _,K,Q,f,env,h,hv=>hv
 | .refuse _,K,Q,f,env,h,hv=>hv
end
inductive Kt where
 | fin (Q:Exit→Act→World→Prop)
 | seq (y:Code) (k:Kt)
 | blk (id:Nat) (k:Kt)
 | scp (k:Kt)
 | stp (K:Act→World→Prop) (k:Kt)
def aCm(F:Fr):Kt→Exit→Act→World→Prop
 | .fin Q=>Q
 | .seq y k=>Exit.then (Next F y (aCm F k)) (aCm F k)
 | .blk f k=>Exit.inBlock f (aCm F k)
 | .scp k=>Exit.noGoto (aCm F k)
 | .stp K k=>Exit.then K (aCm F k)
def den(F:Fr)(p:PlR):Kt→Exit→St→List Obj→Prop
 | .fin Q=>fun e env h=>At F (Q e) env h
 | .seq y k=>bNy (vcC F p y (den F p k) (aCm F k)) (den F p k)
 | .blk f k=>bLr f (den F p k)
 | .scp k=>bOh (den F p k)
 | .stp K k=>bNy (fun env h=>At F K env h) (den F p k)
def vcT(F:Fr)(p:PlR)(c:Code)(k:Kt)(env:St)(h:List Obj):Prop:=vcC F p c (den F p k) (aCm F k) env h
section
variable {F:Fr} {p:PlR} {k:Kt} {env:St} {h:List Obj}
theorem aBR(hF:VOK F p):∀(k:Kt) (e:Exit) (env:St) (h:List Obj),den F p k e env h→At F (aCm F k e) env h
 | .fin Q,e,env,h,hk=>hk
 | .seq y k,e,env,h,hk=>by
  cases e with
  | normal=>exact aP (aJl hF y _ _ (aBR hF k) env h hk)
  | _=>exact aBR hF k _ env h hk
 | .blk f k,e,env,h,hk=>by
  cases e with
  | normal=>exact aBR hF k .normal env h hk
  | ret=>exact aBR hF k .ret env h hk
  | exit j =>
   simp only[den,bLr] at hk;split at hk
   ·rename_i hd;obtain rfl:=of_decide_eq_true hd;exact lV (aBR hF k .normal env h hk)
   ·rename_i hd;exact aJh (of_decide_eq_false hd) (aBR hF k (.exit j) env h hk)
  | _=>exact hk.elim
 | .scp k,e,env,h,hk=>by
  cases e with
  | normal=>exact aBR hF k .normal env h hk
  | ret=>exact aBR hF k .ret env h hk
  | exit j=>exact aBR hF k (.exit j) env h hk
  | _=>exact hk.elim
 | .stp K k,e,env,h,hk=>by
  cases e with
  | normal=>exact hk
  | _=>exact aBR hF k _ env h hk
theorem aUD(hF:VOK F p){c:Code}(hv:vcT F p c k env h):Tri F c (aCm F k) env h:=aJl hF c _ _ (aBR hF k) env h hv
theorem bIR(hF:VOK F p){e:Exit}(hv:den F p k e env h):At F (aCm F k e) env h:=aBR hF k e env h hv
theorem bIS:vcT F p .skip k env h=den F p k .normal env h:=propext Iff.rfl
theorem bHh{l:Nat}:vcT F p (.label l) k env h=den F p k .normal env h:=propext Iff.rfl
theorem bIT{id:Nat}:vcT F p (.exit id) k env h=den F p k (.exit id) env h:=propext Iff.rfl
theorem bLt:vcT F p .ret k env h=den F p k .ret env h:=propext Iff.rfl
theorem bLu{x y:Code}:vcT F p (.seq x y) k env h=match bCb p.stops x y with
  | true=>Tri F (.seq x y) (aCm F k) env h
  | false=>vcT F p x (.seq y k) env h:=propext Iff.rfl
theorem bIU{o:Operand}{x y:Code}:vcT F p (.cond o x y) k env h=match evA F.E.G env o with
  | .val .bool b=>(b=true→vcT F p x k env h)∧(¬b=true→vcT F p y k env h)
  | _=>False:=propext Iff.rfl
theorem bHi{id:Nat}{x:Code}:vcT F p (.block id x) k env h=vcT F p x (.blk id k) env h:=propext Iff.rfl
theorem bHj{x:Code}:vcT F p (.scope x) k env h=vcT F p x (.scp k) env h:=propext Iff.rfl
theorem bIV{x:Code}:vcT F p (.loop x) k env h=Tri F (.loop x) (aCm F k) env h:=propext Iff.rfl
theorem bEh{id:Nat}{ops:Array Oper}{f:Bool}:vcT F p (.region id ops f) k env h=match bLq p.reg id with
  | .A keep=>vcA F.E h env ops.toList 0 [] (fun g=>den F p k .normal (aW3 keep g env) h)
  | .B keep=>f=false∧yZ F.E ops.toList ops.toList env h (fun env h=>den F p k .normal (keep.map fun t=>(t,look env t)) h)
  | .C n keep=>(f=true∧aZv n ops.toList=true) ∧
    vcA F.E h env (ops.toList.take n) 0 [] (fun g=>yZ F.E ops.toList (ops.toList.drop n) (mZ F.E.T (eB (ops.toList.take n) 0) (kM g env) h).1 (mZ F.E.T (eB (ops.toList.take n) 0) (kM g env) h).2 (fun env h=>den F p k .normal (keep.map fun t=>(t,look env t)) h))
  | .P keep sb=>f=false∧aBO F.E (aZw p.dl) sb ops.toList ops.toList env h (fun env h=>den F p k .normal (keep.map fun t=>(t,look env t)) h) (fun e env h=>AtP F (aCm F k) e env h)
  | .Q n keep sb=>(f=true∧aZv n ops.toList=true) ∧
    vcA F.E h env (ops.toList.take n) 0 [] (fun g=>aBO F.E (aZw p.dl) sb ops.toList (ops.toList.drop n) (mZ F.E.T (eB (ops.toList.take n) 0) (kM g env) h).1 (mZ F.E.T (eB (ops.toList.take n) 0) (kM g env) h).2 (fun env h=>den F p k .normal (keep.map fun t=>(t,look env t)) h) (fun e env h=>AtP F (aCm F k) e env h))
  | .stop=>Tri F (.region id ops f) (aCm F k) env h:=propext Iff.rfl
theorem bLv{Q:Exit→Act→World→Prop}{e:Exit}:den F p (.fin Q) e env h=At F (Q e) env h:=propext Iff.rfl
theorem bIW{y:Code}:den F p (.seq y k) .normal env h=vcT F p y k env h:=propext Iff.rfl
theorem bIX{y:Code}{id:Nat}:den F p (.seq y k) (.exit id) env h=den F p k (.exit id) env h:=propext Iff.rfl
theorem bIY{y:Code}:den F p (.seq y k) .ret env h=den F p k .ret env h:=propext Iff.rfl
theorem bIZ{id:Nat}:den F p (.blk id k) .normal env h=den F p k .normal env h:=propext Iff.rfl
theorem bI0{id j:Nat}:den F p (.blk id k) (.exit j) env h=match decide (j=id) with
  | true=>den F p k .normal env h
  | false=>den F p k (.exit j) env h:=propext Iff.rfl
theorem bI1{id:Nat}:den F p (.blk id k) .ret env h=den F p k .ret env h:=propext Iff.rfl
theorem bI2:den F p (.scp k) .normal env h=den F p k .normal env h:=propext Iff.rfl
theorem bI3{j:Nat}:den F p (.scp k) (.exit j) env h=den F p k (.exit j) env h:=propext Iff.rfl
theorem bI4:den F p (.scp k) .ret env h=den F p k .ret env h:=propext Iff.rfl
theorem bI5{K:Act→World→Prop}:den F p (.stp K k) .normal env h=At F K env h:=propext Iff.rfl
theorem bI6{K:Act→World→Prop}{j:Nat}:den F p (.stp K k) (.exit j) env h=den F p k (.exit j) env h:=propext Iff.rfl
theorem bI7{K:Act→World→Prop}:den F p (.stp K k) .ret env h=den F p k .ret env h:=propext Iff.rfl
theorem bLw{E:Env}{i:Nat}{f:List Ent}{K:List Ent→Prop}:vcA E h env [] i f K=K f:=propext Iff.rfl
theorem bI8{E:Env}{o:Oper}{r:List Oper}{i:Nat}{f:List Ent}{K:List Ent→Prop}:vcA E h env (o::r) i f K=match o.dst,opA E h env f o with
  | some d,(p,v)=>aFK f o.guard∧(fQ f (aFy f o.guard)→p)∧vcA E h env r (i+1) (⟨i,d,aFy f o.guard,v⟩::f) K
  | none,_=>False:=propext (by rfl)
theorem bI9{E:Env}{all:List Oper}{K:St→List Obj→Prop}:yZ E all [] env h K=K env h:=propext Iff.rfl
theorem bHk{E:Env}{all:List Oper}{o:Oper}{r:List Oper}{K:St→List Obj→Prop}:yZ E all (o::r) env h K=match o.guard with
  | none=>match xU E env h o with
   | (p,v,h')=>p∧yZ E all r (wU o.dst v env) h' K
  | some (j,f)=>match aGE all j with
   | some g=>match look env g with
    | .val .bool b=>(b=f→match xU E env h o with
      | (p,v,h')=>p∧yZ E all r (wU o.dst v env) h' K)∧(b= !f→yZ E all r (wU o.dst .undef env) h K)
    | .undef=>yZ E all r (wU o.dst .undef env) h K
    | _=>False
   | none=>False:=propext (by rfl)
theorem bH(hF:VOK F p){x y:Code}{D:Type}(J:D→Prop)(keep:List Nat)(q:D→St)(g:D→List (Nat⊕Obj))
  (hx:vcT F p x (.stp (fun z w'=>∃f c',J f∧Sim F.E F.M F.w0 F.nt F.ds c' (aMc env keep (q f)) (xW h (g f)) z w') k) env h)
  (hy:∀d,J d→vcT F p y k (aMc env keep (q d)) (xW h (g d))):Tri F (.seq x y) (aCm F k) env h :=
 bBO J (fun d=>aMc env keep (q d)) (fun d=>xW h (g d)) (aUD hF hx) (fun d hd=>aUD hF (hy d hd))
theorem aU(hF:VOK F p){x:Code}{D E R:Type}{G:Md}{step:D→Option (D⊕E)}{g:E→Option R}{Θ:R→Prop}{d0:D}(keep:List Nat)(q:D→St)(z:D→List (Nat⊕Obj))
  (hd:sat ((bO G step d0).bind g) Θ) (hh:h=xW h (z d0)) (U:rY h env (aMc env keep (q d0)))
  (round:∀d (A:D→Prop) (B:D⊕E→Prop),(∀x,B (.inl x)→A x)→(∀e,B (.inr e)→sat (g e) Θ)→sat (step d) B→vcT F p x (.stp (fun L w'=>∃f c',A f∧Sim F.E F.M F.w0 F.nt F.ds c' (aMc env keep (q f)) (xW h (z f)) L w') k) (aMc env keep (q d)) (xW h (z d))):Tri F (.loop x) (aCm F k) env h:=by
 obtain⟨r,J,I⟩:=hd;refine bBN (fun d=>(bO G step d).bind g=some r) (aHB step) (fun d=>aMc env keep (q d)) (fun d=>xW h (z d)) (aK d0 J hh U) fun d hi=>?_;obtain⟨s,N,O⟩:=aUy hi;refine aUD hF (k:=.stp _ k) (round d (fun f=>(bO G step f).bind g=some r∧aHB step f<aHB step d) (aAq (fun f=>(bO G step f).bind g=some r∧aHB step f<aHB step d) (fun e=>g e=some r)) (fun _ hx=>hx) (fun e he=>⟨r,he,I⟩) ⟨s,N,O⟩)
theorem bZ(hF:VOK F p){id:Nat}{ops:Array Oper}{f:Bool}(keep:List Nat)(hv:vcA F.E h env ops.toList 0 [] (fun g=>den F p k .normal (aW3 keep g env) h)):Tri F (.region id ops f) (aCm F k) env h :=
 bF5 hF.fr (aBR hF k) hv
theorem xX(hF:VOK F p){id:Nat}{ops:Array Oper}(keep:List Nat)(hv:yZ F.E ops.toList ops.toList env h (fun env h=>den F p k .normal (keep.map fun t=>(t,look env t)) h)):Tri F (.region id ops false) (aCm F k) env h :=
 bF6 hF.fr (aBR hF k) hv
def bM0(P:Program)(fn:Func)(S:Nat→Prop)(w0:World)(r:RK)(Θ:r.ty.den→Prop):Exit→Act→World→Prop:=fun e a w=>∃y,Θ y∧post P fn S w0 r y e a w
theorem aE{F:Fr}{fn:Func}{S:Nat→Prop}{r:RK}{Θ:r.ty.den→Prop}{env:St}{h:List Obj}{p:PlR}(hF:VOK F p)(l:List ResultVar)(hM:F.M=top S)(f:F.ds= [])(g:fn.results=l.toArray){y:r.ty.den}(hy:Θ y)(hq:(aQ F.E.T h env l).1∧gK h r y (aQ F.E.T h env l).2):At F (bM0 F.P fn S F.w0 r Θ .ret) env h :=
 fun c a w hs=>⟨y,hy,dR hF.fr l hM f g hq c a w hs⟩
theorem aX{P:Program}{E:Env}{f:FuncId}{fn:Func}{g:Code}{a:Ty}{r:RK}{m:a.den→Option r.ty.den}(I:eQ P E)(hm:P.follows .mixedOrders=true)(O:P.funcs[f]? = some fn)(hb:fn.body=some g)(q:fL fn.ntmps g=true)(L:aQX a≤fn.ntmps)(p:PlR)
  (ht:∀(w0:World) (S:Nat→Prop) (x:a.den) (Θ:r.ty.den→Prop),a.wf x→sat (m x) Θ→VOK (fr P E S w0 fn.ntmps) p→vcT (fr P E S w0 fn.ntmps) p g (.fin (bM0 P fn S w0 r Θ)) (bD a x 0) []) (hd:aHC P E.G p.dl:=by exact .nil):FOK P E.G f (mSpec a r m) :=
 wH I O hb q L fun w0 S x y N hx=>by
  have hF:VOK (fr P E S w0 fn.ntmps) p:=⟨⟨I,hm⟩,hd⟩;have:=aUD hF (ht w0 S x (fun z=>z=y) N ⟨y,hx,rfl⟩ hF);intro q c a w hs;refine wp_mono (this q c a w hs) fun e U w' hq=>?_;obtain⟨z,rfl,J⟩:=hq;exact J
theorem aHD{P:Program}{E:Env}{f:FuncId}{fn:Func}{g:Code}{sp:qW}(z:eQ P E)(hm:P.follows .mixedOrders=true)(N:P.funcs[f]? = some fn)(hb:fn.body=some g)(q:fL fn.ntmps g=true)(I:∀d,(sp.av d).length≤fn.ntmps)(p:PlR)
  (ht:∀(c:Ctx) (w:World) (d:sp.D),AV.wfL (sp.av d)→Obj.wfL (sp.hp d)→sp.pre d→VOK ⟨P,E,GM sp c d,w,fn.ntmps,[]⟩ p→vcT ⟨P,E,GM sp c d,w,fn.ntmps,[]⟩ p g (.fin (bodyPost P fn (aMd sp c w d))) (aJj ((sp.av d).map rpV) 0) (sp.hp d)) (hd:aHC P E.G p.dl:=by exact .nil):GOK P E.G f sp :=
 bIO z N hb q I fun c w d J L h3 _ =>
  have hF:VOK ⟨P,E,GM sp c d,w,fn.ntmps,[]⟩ p:=⟨⟨z,hm⟩,hd⟩
  aUD hF (ht c w d J L h3 hF)
theorem aHE{α:Type}{o:Option α}{r:α}(h:o=some r):sat o (fun z=>z=r):=⟨r,h,rfl⟩
theorem iT{α:Type}{a r:α}(h:sat (some a) (fun z=>z=r)):a=r:=by
 obtain⟨x,f,g⟩:=h;cases f;exact g
theorem aZx{α:Type}{o:Option α}{Θ:α→Prop}{x:α}(h:o=some x)(hq:Θ x):sat o Θ:=⟨x,h,hq⟩
def aA6(vs:List AV)(i:Nat):Nat:=match vs.getD i .junk with| .ptr j _=>j|_=>0
def bOY(vs:List AV)(i j:Nat):Nat:=match vs.getD i .junk with| .fn _ l _=>l.getD j 0|_=>0
def bOZ(h:List Obj)(i j:Nat):Nat:=match h.getD i .dead with| .box _ (.fn _ _ l)=>l.getD j 0|_=>0
end
section
variable {F:Fr} {p:PlR} {k:Kt} {env:St} {h:List Obj} {e:Pan}
theorem bLx{Q:Exit→Act→World→Prop}:AtP F (aCm F (.fin Q)) e env h=AtP F Q e env h:=rfl
theorem bLy{y:Code}:AtP F (aCm F (.seq y k)) e env h=AtP F (aCm F k) e env h:=rfl
theorem bLz{id:Nat}:AtP F (aCm F (.blk id k)) e env h=AtP F (aCm F k) e env h:=rfl
theorem bLA:AtP F (aCm F (.scp k)) e env h=AtP F (aCm F k) e env h:=rfl
theorem bLB{K:Act→World→Prop}:AtP F (aCm F (.stp K k)) e env h=AtP F (aCm F k) e env h:=rfl
variable {E:Env} {Δ:FuncId→List AV→List Obj→Option Hit} {sb:List Nat} {all:List Oper} {K:St→List Obj→Prop} {Kp:Pan→St→List Obj→Prop}
theorem bJa:aBO E Δ sb all [] env h K Kp=K env h:=rfl
theorem bHl{o:Oper}{r:List Oper}:aBO E Δ sb all (o::r) env h K Kp=match o.guard with
  | none=>aK2 E Δ sb env h o (fun v h'=>aBO E Δ sb all r (wU o.dst v env) h' K Kp) (fun p h'=>Kp p env h')
  | some (j,f)=>match aGE all j with
   | some g=>match look env g with
    | .val .bool b=>(b=f→aK2 E Δ sb env h o (fun v h'=>aBO E Δ sb all r (wU o.dst v env) h' K Kp) (fun p h'=>Kp p env h'))∧(b= !f→aBO E Δ sb all r (wU o.dst .undef env) h K Kp)
    | .undef=>aBO E Δ sb all r (wU o.dst .undef env) h K Kp
    | _=>False
   | none=>False:=propext (by rfl)
class KGo where
 k:AV→List Obj→Prop
 kp:Pan→List Obj→Prop
def goH(h:List Obj)(vs:List AV)(t:Hit)[w:KGo]:Prop :=
 aNg h vs t∧bB0 (t.sp.out t.d) (fun v h'=>bIC (qR t.σ t.sp.m h.length h'.length) v=true∧w.k (emb (qR t.σ t.sp.m h.length h'.length) v) (aFa t.σ t.sp.m h h')) (fun p h'=>w.kp p (aFa t.σ t.sp.m h h'))
theorem bNz{vs:List AV}{sp:qW}{σ:List Nat}{d:sp.D}{k:AV→List Obj→Prop}{kp:Pan→List Obj→Prop}: @goH h vs ⟨sp,σ,d⟩ ⟨k,kp⟩=(aNg h vs ⟨sp,σ,d⟩∧bB0 (sp.out d) (fun v h'=>bIC (qR σ sp.m h.length h'.length) v=true∧k (emb (qR σ sp.m h.length h'.length) v) (aFa σ sp.m h h')) (fun p h'=>kp p (aFa σ sp.m h h'))):=rfl
theorem bJb{o:Oper}{k:AV→List Obj→Prop}{kp:Pan→List Obj→Prop}:aK2 E Δ sb env h o k kp=match bB3 Δ h (aDE E.G env h o) with
  | some t=> @goH h (aZq (aDE E.G env h o)) t ⟨k,kp⟩
  | none=>match aUt E.G env o with
   | some p=>kp p h
   | none=>match aUu E sb env h o with
    | (p,v,h')=>p∧k v h':=propext (by rfl)
end
attribute [go_sem ↓] bLx bLy bLz bLA bLB bJa bHl bJb bB1 bB2
attribute [go_sem] aZw aBQ aA6 bOZ bOY bIQ bNz
attribute [go_sem ↓] bIS bHh bIT bLt bLu bIU bHi bHj bIV bEh
attribute [go_sem ↓] bLv bIW bIX bIY bIZ bI0 bI1 bI2 bI3 bI4 bI5 bI6 bI7
attribute [go_sem ↓] bLw bI8 bI9 bHk
attribute [go_sem] bLq first bCb rY kN gK eq_self bIP
end Go.Vc
namespace Go.Vc
open Go.RowKit
end Go.Vc
namespace Go.Vc
open Go.RowKit
end Go.Vc
namespace Go.Vc
open Go.RowKit
def bitsOf(n:Nat)(done:List Nat):List Bool:=(List.range n).map fun i=>done.contains i
def bOi(F:Fr)(g:List Bool→St×List Obj)(downs:List (List Bool))(f:List Bool)(d:Option Nat)(env:St)(r:Prop×AV×List Obj):Prop:=match r with
 | (p,v,h')=>p∧f∈downs∧ ∃σ,nodupB σ=true∧preB F.M.m σ=true∧((g f).1.map fun q=>(q.1,ren σ (look (wU d v env) q.1)))=(g f).1∧(σ.map fun j=>xV σ (h'.getD j .dead))=(g f).2
def stT(F:Fr)(ops:List Oper)(f:List Bool→St×List Obj)(downs:List (List Bool))(g:List Bool)(i:Nat):Prop :=
 match ops[i]? with
 | some o=>o.guard=none∧bOi F f downs (g.set i true) o.dst (f g).1 (xU F.E (f g).1 (f g).2 o)
 | none=>False
inductive Dk where
 | v (t:Nat) (x:AV)
 | mk (t:Nat) (o:Obj)
 | cp (t j:Nat)
 | st (i:Nat) (o:Obj)
def bJc:List Dk→List Bool→Nat→Nat
 | _,_,0=>0
 | .mk _ _::r,true::bs,j+1=>bJc r bs j+1
 | _::r,_::bs,j+1=>bJc r bs j
 | _,_,_+1=>0
def bOj(ds:List Dk)(f:List Bool)(n i:Nat):Dk→Nat×AV
 | .v t x=>(t,x)
 | .mk t _=>(t,.own (n+bJc ds f i))
 | .cp t j=>(t,.own (n+bJc ds f j))
 | .st _ _=>(0,.junk)
def bJd(ds:List Dk)(f:List Bool)(n:Nat):List Dk→List Bool→Nat→St
 | _,[],_=>[]
 | [],_::_,_=>[]
 | .st _ _::r,true::b,i=>bJd ds f n r b (i+1)
 | d::r,true::b,i=>bOj ds f n i d::bJd ds f n r b (i+1)
 | _::r,false::b,i=>bJd ds f n r b (i+1)
def bLC:List Dk→List Bool→List Obj
 | .mk _ o::r,true::b=>o::bLC r b
 | _::r,_::b=>bLC r b
 | _,_=>[]
def bLD:List Dk→List Bool→List Obj→List Obj
 | .st i o::r,true::b,h=>bLD r b (h.set i o)
 | _::r,_::b,h=>bLD r b h
 | _,_,h=>h
def bO0(env:St)(h:List Obj)(ds:List Dk)(f:List Bool):St×List Obj:=(bJd ds f h.length ds f 0++env,bLD ds f h++bLC ds f)
def stL(F:Fr)(ops:List Oper)(f:List Bool→St×List Obj)(downs:List (List Bool))(g:List Bool):List Nat→Prop
 | []=>True
 | i::r=>stT F ops f downs g i∧stL F ops f downs g r
def stM(F:Fr)(ops:List Oper)(f:List Bool→St×List Obj)(downs:List (List Bool)):List (List Bool×List Nat)→Prop
 | []=>True
 | p::r=>stL F ops f downs p.1 p.2∧stM F ops f downs r
attribute [go_sem] stM stL stT bOi bO0 bJd bOj bLC bLD bJc bitsOf
end Go.Vc

