import Derived.Test.YthkfoehkabnlpaaGreatDoorZL4
import Derived.ProofKit
import Derived.OpenShut
import Derived.Below
import Derived.Recover
set_option linter.unusedVariables false
set_option linter.unusedSimpArgs false
namespace Go.Vc
open Go.RowKit
structure Hit where
 sp:iJ
 σ:List Nat
 d:sp.D
def aFe(h:List Obj)(σ:List Nat):List AV→List AV→Prop
 | [],[]=>True
 | v::r,.val t x::r'=>AV.as (h.map cL) t v=some x∧aFe h σ r r'
 | v::r,u::r'=>ren σ v=u∧aFe h σ r r'
 | _,_=>False
def aY8(n:Nat)(σ:List Nat):Bool:=σ.all fun i=>decide (i<n)
def lB:AV→Bool
 | .junk=>false
 | _=>true
def aUK(I:List Nat):AV→Bool
 | .tup J=>J.all fun u=>lB (yN I u)
 | _=>true
def aD5(h:List Obj)(vs:List AV)(t:Hit):Prop :=
 nodupB t.σ=true∧aY8 h.length t.σ=true∧t.sp.m≤t.σ.length∧aFe h t.σ vs (t.sp.av t.d)∧t.σ.map (fun i=>mG t.σ (h.getD i .dead))=t.sp.hp t.d∧t.sp.pre t.d
def aN8(o:aZK)(k:AV→List Obj→Prop)(kp:Pan→List Obj→Prop):Prop :=
 match o with
 | .ret v h=>k v h
 | .pan p h=>kp p h
theorem aN9(v:AV)(h:List Obj)(k:AV→List Obj→Prop)(kp:Pan→List Obj→Prop):aN8 (.ret v h) k kp=k v h:=rfl
theorem aOa(p:Pan)(h:List Obj)(k:AV→List Obj→Prop)(kp:Pan→List Obj→Prop):aN8 (.pan p h) k kp=kp p h:=rfl
theorem aUL(c:Prop)[Decidable c](a b:aZK)(k:AV→List Obj→Prop)(kp:Pan→List Obj→Prop):aN8 (if c then a else b) k kp=((c→aN8 a k kp)∧(¬c→aN8 b k kp)):=by
 grind
def tS(G:Nat→AV)(env:St)(h:List Obj)(o:Oper):Option (FuncId×List AV) :=
 match o.op with
 | .call c=>match c.callee with
  | .value x=>match evA G env x with
   | .fn f [] I=>if xU h I=true then some (f,c.args.toList.map (evA G env)++I.map fun i=>.ptr i []) else none
   | .fn f (i::l1) I=>if xU h (i::l1)=true∧xU h I=true then some (f,((i::l1).map fun i=>.ptr i [])++(c.args.toList.map (evA G env)++I.map fun i=>.ptr i [])) else none
   | .val (.clo g t) y=>if lL t=true then some (g,c.args.toList.map (evA G env)++uL t y) else none
   | _=>none
  | _=>none
 | _=>none
def aOb(Δ:FuncId→List AV→List Obj→Option Hit)(h:List Obj):Option (FuncId×List AV)→Option Hit
 | some (f,I)=>Δ f I h
 | none=>none
def aLT:Option (FuncId×List AV)→List AV
 | some (_,I)=>I
 | none=>[]
def aIv(G:Nat→AV)(env:St)(o:Oper):Option Pan :=
 match o.op with
 | .call c=>match c.callee with
  | .builtin .panic=>match c.args.toList with
   | [x]=>match evA G env x with
    | .val (.ifc k t) d=>some ⟨k,t,d⟩
    | _=>none
   | _=>none
  | _=>none
 | .panic x=>match evA G env x with
  | .val (.ifc k t) d=>some ⟨k,t,d⟩
  | _=>none
 | _=>none
def aFf(T:Tab)(h:List Obj)(t:TypeId)(x:AV)(lo hi:Option AV):Prop×AV :=
 match x with
 | .own i=>match h[i]? with
  | some (.row _ c I)=>match (lo.map tL).getD (some 0),(hi.map tL).getD (some (I.length:Int)) with
   | some l,some u=>(T t=some (.sl c)∧0≤l∧l<u∧u≤(I.length:Int),.sub i c.cells l.toNat (u-l).toNat)
   | _,_=>(False,.junk)
  | _=>(False,.junk)
 | .ptr i []=>match h[i]? with
  | some (.box _ (.val (.arr n c) _))=>match (lo.map tL).getD (some 0),(hi.map tL).getD (some (n:Int)) with
   | some l,some u=>(T t=some (.arr n c)∧0≤l∧l<u∧u≤(n:Int),.sub i c.cells l.toNat (u-l).toNat)
   | _,_=>(False,.junk)
  | _=>(False,.junk)
 | _=>(False,.junk)
noncomputable def aIw(E:Env)(sb:List Nat)(env:St)(h:List Obj)(o:Oper):Prop×AV×List Obj :=
 match o.op,o.dst with
 | .slice t x lo hi none,some d=>bif sb.contains d then ((aFf E.T h t (evA E.G env x) (lo.map (evA E.G env)) (hi.map (evA E.G env))).1,(aFf E.T h t (evA E.G env x) (lo.map (evA E.G env)) (hi.map (evA E.G env))).2,h) else tR E env h o
 | _,_=>tR E env h o
def aCE(E:Env)(Δ:FuncId→List AV→List Obj→Option Hit)(sb:List Nat)(env:St)(h:List Obj)(o:Oper)(k:AV→List Obj→Prop)(kp:Pan→List Obj→Prop):Prop :=
 match aOb Δ h (tS E.G env h o) with
 | some t=>aD5 h (aLT (tS E.G env h o)) t∧aN8 (t.sp.out t.d) (fun v h'=>aUK (jE t.σ t.sp.m h.length h'.length) v=true∧k (emb (jE t.σ t.sp.m h.length h'.length) v) (wK t.σ t.sp.m h h')) (fun p h'=>kp p (wK t.σ t.sp.m h h'))
 | none=>match aIv E.G env o with
  | some p=>kp p h
  | none=>match aIw E sb env h o with
   | (p,v,h')=>p∧k v h'
def qO(E:Env)(Δ:FuncId→List AV→List Obj→Option Hit)(sb:List Nat)(all:List Oper):List Oper→St→List Obj→(St→List Obj→Prop)→(Pan→St→List Obj→Prop)→Prop
 | [],env,h,K,_=>K env h
 | o::r,env,h,K,Kp=>match o.guard with
  | none=>aCE E Δ sb env h o (fun v h'=>qO E Δ sb all r (oZ o.dst v env) h' K Kp) (fun p h'=>Kp p env h')
  | some (j,I)=>match aBv all j with
   | some J=>match look env J with
    | .val .bool b=>(b=I→aCE E Δ sb env h o (fun v h'=>qO E Δ sb all r (oZ o.dst v env) h' K Kp) (fun p h'=>Kp p env h'))∧(b= !I→qO E Δ sb all r (oZ o.dst .undef env) h K Kp)
    | .undef=>qO E Δ sb all r (oZ o.dst .undef env) h K Kp
    | _=>False
   | none=>False
structure aAf(P:Program)(G:Nat→AV)(Δ:FuncId→List AV→List Obj→Option Hit):Prop where
 ok:∀f vs h t,Δ f vs h=some t→GOK P G f t.sp
 fn:∀f vs h t,Δ f vs h=some t→ ∃fn,P.funcs[f]? = some fn∧fn.name ≠ "runtime.NumGoroutine" ∧ fn.body.isSome=true
section
variable {P:Program} {E:Env} {M:Perm} {w0:World} {c:Ctx} {h:List Obj} {w:World}
theorem aRD:∀ {l:List Nat},nodupB l=true→l.Nodup
 | [],_=>List.nodup_nil
 | i::r,h=>by
  simp only[nodupB,Bool.and_eq_true,Bool.not_eq_true'] at h;refine List.nodup_cons.2 ⟨fun I=>?_,aRD h.2⟩;simp_all
theorem aK3(hg:Good M w0 c h w){σ:List Nat}:∀ {vs N:List AV} {xs:List Value},aFe h σ vs N→vs.length=xs.length→(∀i (I:i<vs.length) (J:i<xs.length),aG c w vs[i] xs[i]) →
  xs.length=N.length∧ ∀i (I:i<N.length) (J:i<xs.length),aG (c.ren σ) w N[i] xs[i]
 | [],[],[],_,_,_=>⟨rfl,fun i I=>by grind⟩
 | v::r,u::r',x::xs,Y,hl,hv=>by
  have h0:=hv 0 (by simp) (by simp);simp only[List.getElem_cons_zero] at h0;have U:aG (c.ren σ) w u x∧aFe h σ r r':=by
   cases u with
   | val t d =>
    obtain⟨I,J⟩:=Y;exact⟨aG.ofV (nD hg h0 I),J⟩
   | _ =>
    obtain⟨I,J⟩:=Y;grind[aHH]
  obtain⟨q1,q2⟩:=aK3 hg U.2 (by simpa using hl) (fun i I J=>by have:=hv (i+1) (by simp_all) (by simp_all); simp_all);grind
def aGS(M:Perm)(w0:World)(c:Ctx)(h:List Obj)(w:World)(t:Hit)(e:Ending)(w':World):Prop :=
 ∃cN,bW c w cN w'∧match t.sp.out t.d with
  | .ret v h'=>∃u,e= .returned u∧Good M w0 cN (wK t.σ t.sp.m h h') w'∧(aUK (jE t.σ t.sp.m h.length h'.length) v=true→aG cN w' (emb (jE t.σ t.sp.m h.length h'.length) v) u)
  | .pan p h'=>∃u,e= .panicked (aJ4 p.k u)∧Good M w0 cN (wK t.σ t.sp.m h h') w'∧bR w' cN.S p.t p.x u
theorem aK4{C:(Ending→World→Prop)→Prop}(hC:∀R R':Ending→World→Prop,C R→(∀e w',R e w'→R' e w')→C R'){G:Nat→AV}{t:Hit}{vs:List AV}{xs:Array Value}(hok:t.sp.pre t.d→GIn G t.sp (c.ren t.σ) w t.d xs.toList→C (aD4 t.sp (c.ren t.σ) w t.d))(hg:Good M w0 c h w)(hG:jM G c.S w)(hl:vs.length=xs.size)(hv:∀i (h1:i<vs.length) (h2:i<xs.toList.length),aG c w vs[i] xs.toList[i])(hh:aD5 h vs t) :
  C (aGS M w0 c h w t):=by
 obtain⟨h1,h2,h3,h4,h5,h6⟩:=hh;have hσ:∀i∈t.σ,i<h.length:=fun i hi=>by
  have:=List.all_eq_true.1 h2 i hi;simp_all
 have g0:=hg.rebase (m:=0) (Nat.zero_le _);have g1:=g0.ren (σ:=t.σ) h1 (by rfl);have hcn:(c.ren t.σ).n=t.σ.length:=rfl;have g2:=g1.rebase (m:=t.sp.m) (by omega);rw[h5] at g2;obtain⟨q1,q2⟩:=aK3 (xs:=xs.toList) hg h4 (by omega) hv;have hin:GIn G t.sp (c.ren t.σ) w t.d xs.toList:=⟨g2,hG,q1,q2⟩;refine hC _ _ (hok h6 hin) ?_;rintro e w' ⟨c',I⟩;have U:∀h',Good (GM t.sp (c.ren t.σ) t.d) w c' h' w'→Good M w0 (Vc.cN c c' t.sp.m h'.length t.σ (jE t.σ t.sp.m h.length h'.length)) (wK t.σ t.sp.m h h') w'∧bW c w (Vc.cN c c' t.sp.m h'.length t.σ (jE t.σ t.sp.m h.length h'.length)) w'∧Emb (jE t.σ t.sp.m h.length h'.length) c' (Vc.cN c c' t.sp.m h'.length t.σ (jE t.σ t.sp.m h.length h'.length)):=fun h' N =>
  hg.frame (aRD h1) hσ h3 (Ml:=GM t.sp (c.ren t.σ) t.d) rfl (fun b hb=>by
   obtain⟨j,o',Y,hob⟩:=hb;rw[← h5,List.getElem?_map] at Y;cases hj:t.σ[j]? with
   | none=>simp_all
   | some i =>
    rw[hj] at Y;simp only[Option.map_some,Option.some.injEq] at Y;subst Y;rw[aD3 hj] at hob;grind) rfl (fun j _=>rfl) N
 cases J:t.sp.out t.d with
 | ret v h' =>
  rw[J] at I;obtain⟨u,rfl,N,hu⟩:=I;obtain⟨f1,f2,f3⟩:=U h' N;refine⟨_,f2,?_⟩;rw[J];refine⟨u,rfl,f1,fun hb=>aXy f3 hu fun vs hvs a ha=>?_⟩;subst hvs;have:=List.all_eq_true.1 hb a ha;intro hj;rw[hj] at this;cases this
 | pan p h' =>
  rw[J] at I;obtain⟨u,rfl,N,hu⟩:=I;obtain⟨f1,f2,f3⟩:=U h' N;refine⟨_,f2,?_⟩;rw[J];exact⟨u,rfl,f1,hu.keep f3.S (.refl _ _)⟩
theorem aUM{G:Nat→AV}{f:FuncId}{t:Hit}(I:GOK P G f t.sp)(Y:Good M w0 c h w)(hG:jM G c.S w){vs:List AV}{xs:Array Value}(N:vs.length=xs.size)(hv:∀i (h1:i<vs.length) (h2:i<xs.toList.length),aG c w vs[i] xs.toList[i])(U:aD5 h vs t) :
  Calls P f xs w (aGS M w0 c h w t) :=
 aK4 (C:=Calls P f xs w) (fun R R' h k=>h.mono k) (fun hp J=>I _ _ _ _ hp J) Y hG N hv U
def AtP(F:Fr)(Q:Exit→Act→World→Prop)(p:Pan)(env:St)(h:List Obj):Prop :=
 ∀c a w u,Sim F.E F.M F.w0 F.nt F.ds c env h a w→bR w c.S p.t p.x u→Q (.panic (aJ4 p.k u)) a w
theorem aUN{f:FuncId}{J l2:List Nat}{v:Value}(hv:aG c w (.fn f J l2) v):(∀i∈J,i<c.n)∧(∀i∈l2,i<c.n)∧v= .func (.func f) (J.map c.hd).toArray (l2.map c.hd).toArray:=by
 obtain⟨I,_,N⟩:=hv;have N:=N rfl;simp only[aE] at I;obtain⟨Y,U,I⟩:=I;refine⟨Y,U,?_⟩;cases v<;>simp[Value.cells] at I N
 simp_all
theorem aTd(hE:dB P E){nt:Nat}{ds:List Deferred}{env:St}{a:Act}(hs:Sim E M w0 nt ds c env h a w){o:Oper}(hok:dL nt o=true){f:FuncId}{vs:List AV}(hc:tS E.G env h o=some (f,vs))(hfn:∃fn,P.funcs[f]? = some fn∧fn.name ≠ "runtime.NumGoroutine" ∧ fn.body.isSome=true) :
  ∃xs:Array Value,(execOp a.eval o).run P w= .ok (.enter f xs) w∧vs.length=xs.size∧ ∀i (I:i<vs.length) (J:i<xs.toList.length),aG c w vs[i] xs.toList[i]:=by
 obtain⟨dst,op,ty,pos,aft,gd⟩:=o;unfold tS at hc;split at hc
 ·rename_i cl hop;simp only at hop;subst hop;obtain⟨callee,args,argTypes⟩:=cl;simp only at hc;simp only[dL,Bool.and_eq_true] at hok;have hall:∀x∈(Op.call ⟨callee,args,argTypes⟩).operands,iL x=true:=Array.all_eq_true_iff_forall_mem.1 hok.1;have hargs:∀x∈args.toList,aG c w (evA E.G env x) (a.eval x):=fun x hx=>wE hs.env hs.glob (hall x (by
   simp only[Op.operands,Call.operands];exact Array.mem_append.2 (.inr (by simpa using hx))))
  have hav:=aCg (ρ:=evA E.G env) (a:=a) (c:=c) (w:=w) hargs;split at hc
  ·rename_i x;have hx:=wE hs.env hs.glob (hall x (by simp[Op.operands,Call.operands]));have fin:∀(g:FuncId) (fs U:List Value) (fv cv:List AV),a.eval x= .func (.func g) fs.toArray U.toArray→fs.length=fv.length→(∀i (I:i<fv.length) (J:i<fs.length),aG c w fv[i] fs[i])→U.length=cv.length→(∀i (I:i<cv.length) (J:i<U.length),aG c w cv[i] U[i])→f=g→vs=fv++(args.toList.map (evA E.G env)++cv) →
     ∃xs:Array Value,(execOp a.eval ⟨dst,.call ⟨.value x,args,argTypes⟩,ty,pos,aft,gd⟩).run P w= .ok (.enter f xs) w∧vs.length=xs.size∧ ∀i (I:i<vs.length) (J:i<xs.toList.length),aG c w vs[i] xs.toList[i]:=fun g fs U fv cv hf hfl hfv hul huv e1 e2=>by
    subst e1;subst e2;have app:∀ {l1 l2:List AV} {m1 m2:List Value},m1.length=l1.length→(∀i (I:i<l1.length) (J:i<m1.length),aG c w l1[i] m1[i])→(∀i (I:i<l2.length) (J:i<m2.length),aG c w l2[i] m2[i])→ ∀i (I:i<(l1++l2).length) (J:i<(m1++m2).length),aG c w (l1++l2)[i] (m1++m2)[i]:=fun {l1 l2 m1 m2} hl k1 k2 i I J=>by
     grind
    refine⟨(fs++(args.toList.map a.eval++U)).toArray,?_,by simp_all,fun i I J=>?_⟩
    ·have hrun:=uW (P:=P) (w:=w) (args:=(fs++(args.toList.map a.eval++U)).toArray) hfn;have e2:fs.toArray++args.map a.eval++U.toArray=(fs++(args.toList.map a.eval++U)).toArray:=(by simp_all);simp only[execOp,resolve,Deferred.ofValue,hf,pure_bind];grind[invoke]
    ·exact app hfl hfv (app (by simp) hav huv) i (by omega) (by omega)
   split at hc
   ·rename_i g l2 N;split at hc
    ·rename_i Y;simp only[Option.some.injEq,Prod.mk.injEq] at hc;rw[N] at hx;obtain⟨I,J⟩:=aRr hx;exact fin g [] (l2.map c.hd) [] (l2.map fun i=>.ptr i []) J rfl (fun i I=>by cases I) (by simp) (aBs hs.good Y I) hc.1.symm hc.2.symm
    grind
   ·rename_i g i0 l1 l2 N;split at hc
    ·rename_i Y;simp only[Option.some.injEq,Prod.mk.injEq] at hc;rw[N] at hx;obtain⟨I,J,h3⟩:=aUN hx;exact fin g ((i0::l1).map c.hd) (l2.map c.hd) ((i0::l1).map fun i=>.ptr i []) (l2.map fun i=>.ptr i []) h3 (by simp) (aBs hs.good Y.1 I) (by simp) (aBs hs.good Y.2 J) hc.1.symm hc.2.symm
    grind
   ·rename_i g t y N;split at hc
    ·rename_i hcp;simp only[Option.some.injEq,Prod.mk.injEq] at hc;rw[N] at hx;obtain⟨U,I,J⟩:=aNQ hx;obtain⟨k1,k2⟩:=aH8 hcp J;exact fin g [] U [] (uL t y) I rfl (fun i I=>by cases I) k1 k2 hc.1.symm hc.2.symm
    grind
   grind
  grind
 grind
theorem aRE{nt:Nat}{ds:List Deferred}{env:St}{a:Act}(Y:Sim E M w0 nt ds c env h a w){o:Oper}(N:dL nt o=true){p:Pan}(hc:aIv E.G env o=some p) :
  ∃u,(execOp a.eval o).run P w= .halt (.panic (.iface p.k u)) w∧bR w c.S p.t p.x u:=by
 obtain⟨dst,op,ty,pos,aft,gd⟩:=o;simp only[dL,Bool.and_eq_true] at N;unfold aIv at hc;split at hc
 ·rename_i cl J;simp only at J;subst J;obtain⟨callee,args,argTypes⟩:=cl;simp only at hc;have I:∀x∈(Op.call ⟨callee,args,argTypes⟩).operands,iL x=true:=Array.all_eq_true_iff_forall_mem.1 N.1;split at hc
  ·split at hc
   ·rename_i x hx;split at hc
    ·rename_i k t d U;cases hc;have hxm:x∈args.toList:=(by simp_all);have hv:=wE Y.env Y.glob (I x (by
      simp only[Op.operands,Call.operands];exact Array.mem_append.2 (.inr (by simpa using hxm))))
     rw[U] at hv;obtain⟨u,hu,hr⟩:=aIa hv;have e3:args= #[x]:=(by grind);refine⟨u,?_,hr⟩;simp[execOp,resolve,invoke,builtin,e3,hu,Instr.panic,goPanic]
    grind
   grind
  grind
 ·rename_i x J;simp only at J;subst J;have I:∀y∈(Op.panic x).operands,iL y=true:=Array.all_eq_true_iff_forall_mem.1 N.1;split at hc
  ·rename_i k t d U;cases hc;have hv:=wE Y.env Y.glob (I x (by simp[Op.operands]));rw[U] at hv;obtain⟨u,hu,hr⟩:=aIa hv;simp_all[execOp,Instr.panic,goPanic]
  grind
 grind
end
end Go.Vc
namespace Go.Vc
open Go.RowKit
section
variable {P:Program} {E:Env} {M:Perm} {w0:World} {c:Ctx} {h:List Obj} {w:World}
theorem Sim.step{nt:Nat}{ds:List Deferred}{env:St}{a:Act}(I:Sim E M w0 nt ds c env h a w){h':List Obj}{c':Ctx}{w':World}(J:bW c w c' w')(N:Good M w0 c' h' w'):Sim E M w0 nt ds c' env h' a w' :=
 ⟨N,I.glob.mono J.le.S J.same,I.env.keep J,I.size,I.defers⟩
theorem aXz(hT:eO P E.T)(hg:Good M w0 c h w){t:TypeId}{x:AV}{v:Value}{lo hi:Option AV}{Y hv:Option Value}(hx:aG c w x v)(U:aC7 c w lo Y)(I:aC7 c w hi hv)(hc:(aFf E.T h t x lo hi).1) :
  ∃u,(Instr.sliceAt t v Y hv none).run P w= .ok u w∧aG c w (aFf E.T h t x lo hi).2 u:=by
 unfold aFf at hc ⊢;split at hc
 ·rename_i i;split at hc
  ·rename_i e ct xs ho;split at hc
   ·rename_i l u hl J;obtain⟨ht,h0,h1,h2⟩:=hc;obtain⟨hi',rfl⟩:=sO hx;obtain⟨vals,⟨_,hv'⟩,_⟩:=hg.objs i _ ho;obtain⟨e',hd,he,hpos⟩:=cO (hT _ _ ht);rcases hv' with⟨_,hz⟩|⟨g,N,cur,hv0,_,_,hle,hcap,_⟩
    ·omega
    have hb:(Instr.sliceBounds true xs.length N Y hv none).run P w= .ok (l.toNat,u.toNat,N) w:=by
     cases lo with
     | none =>
      cases Y with
      | some _=>cases U
      | none =>
       simp at hl;subst hl;cases hi with
       | none =>
        cases hv with
        | some _=>cases I
        | none =>
         simp at J;subst J;rfl
       | some ha =>
        cases hv with
        | none=>cases I
        | some hv =>
         simp at J;obtain⟨k,rfl⟩:=(by cases I with|some hh=>exact qH hh J:∃k,hv=Value.int k u);simp[Instr.sliceBounds,cZ (P:=P) (w:=w) (i:=u) (y:=N) (by omega) (by omega)]
     | some la =>
      cases Y with
      | none=>cases U
      | some Y =>
       simp at hl;obtain⟨k,rfl⟩:=(by cases U with|some hh=>exact qH hh hl:∃k,Y=Value.int k l);cases hi with
       | none =>
        cases hv with
        | some _=>cases I
        | none =>
         simp at J;subst J;simp[Instr.sliceBounds,cZ (P:=P) (w:=w) (i:=l) (y:=xs.length) (by omega) (by omega)]
       | some ha =>
        cases hv with
        | none=>cases I
        | some hv =>
         simp at J;obtain⟨k',rfl⟩:=(by cases I with|some hh=>exact qH hh J:∃k,hv=Value.int k u);simp[Instr.sliceBounds,cZ (P:=P) (w:=w) (i:=u) (y:=N) (by omega) (by omega),cZ (P:=P) (w:=w) (i:=l) (y:=u.toNat) h0 (by omega)]
    have hne:¬N=l.toNat:=(by omega);refine⟨.slice (some ⟨g,l.toNat*ct.cells,none⟩) (u.toNat-l.toNat) (N-l.toNat),?_,?_⟩
    ·rw[hv0];simp[Instr.sliceAt,Instr.slice,aI hd,hb,cE (hT _ _ he),hne,Addr.add];omega
    ·refine⟨?_,(fun h=>by simp[AV.isAgg] at h),(fun _ cs=>by simp)⟩;simp only[aE];refine⟨hi',by omega,g,N-l.toNat,by rw[hv0]; rfl,?_⟩;grind[Value.cells]
   simp_all
  simp_all
 ·rename_i i;split at hc
  ·rename_i m n ct xs ho;split at hc
   ·rename_i l u hl J;obtain⟨ht,h0,h1,h2⟩:=hc;obtain⟨hi',b,hb',rfl⟩:=zT hx;obtain⟨e',hd,he,hpos,hn1,hn2⟩:=vS (hT _ _ ht);have hb:(Instr.sliceBounds false n n Y hv none).run P w= .ok (l.toNat,u.toNat,n) w:=by
     cases lo with
     | none =>
      cases Y with
      | some _=>cases U
      | none =>
       simp at hl;subst hl;cases hi with
       | none =>
        cases hv with
        | some _=>cases I
        | none =>
         simp at J;subst J;rfl
       | some ha =>
        cases hv with
        | none=>cases I
        | some hv =>
         simp at J;obtain⟨k,rfl⟩:=(by cases I with|some hh=>exact qH hh J:∃k,hv=Value.int k u);simp[Instr.sliceBounds,cZ (P:=P) (w:=w) (i:=u) (y:=n) (by omega) (by omega)]
     | some la =>
      cases Y with
      | none=>cases U
      | some Y =>
       simp at hl;obtain⟨k,rfl⟩:=(by cases U with|some hh=>exact qH hh hl:∃k,Y=Value.int k l);cases hi with
       | none =>
        cases hv with
        | some _=>cases I
        | none =>
         simp at J;subst J;simp[Instr.sliceBounds,cZ (P:=P) (w:=w) (i:=l) (y:=n) (by omega) (by omega)]
       | some ha =>
        cases hv with
        | none=>cases I
        | some hv =>
         simp at J;obtain⟨k',rfl⟩:=(by cases I with|some hh=>exact qH hh J:∃k,hv=Value.int k u);simp[Instr.sliceBounds,cZ (P:=P) (w:=w) (i:=u) (y:=n) (by omega) (by omega),cZ (P:=P) (w:=w) (i:=l) (y:=u.toNat) h0 (by omega)]
    have hne:¬n=l.toNat:=(by omega);refine⟨.slice (some ⟨b,l.toNat*ct.cells,none⟩) (u.toNat-l.toNat) (n-l.toNat),?_,?_⟩
    ·simp[Instr.sliceAt,Instr.sureAddr,aI hd,hb,cE (hT _ _ he),hne,Addr.add,gD];omega
    ·refine⟨?_,(fun h=>by simp[AV.isAgg] at h),(fun _ cs=>by simp)⟩;simp only[aE];refine⟨hi',by grind[maxLen],b,n-l.toNat,hb',?_⟩;grind[Value.cells]
   simp_all
  simp_all
 simp_all
theorem aOc(hE:dB P E){sb:List Nat}{nt:Nat}{ds:List Deferred}{env:St}{a:Act}{o:Oper}(hs:Sim E M w0 nt ds c env h a w)(J:dL nt o=true)(hc:(aIw E sb env h o).1):aQa P M w0 c o a w (aIw E sb env h o).2.2 (aIw E sb env h o).2.1:=by
 unfold aIw at hc ⊢;split at hc
 ·rename_i t x lo hi d hop hdst;cases Y:sb.contains d with
  | false =>
   simp only[Y,cond_false] at hc ⊢;grind[xK]
  | true =>
   simp only[Y,cond_true] at hc ⊢;simp only[dL,Bool.and_eq_true] at J;have N:∀x∈o.op.operands,iL x=true:=Array.all_eq_true_iff_forall_mem.1 J.1;have I:∀y∈o.op.operands,aG c w (evA E.G env y) (a.eval y):=fun y U=>wE hs.env hs.glob (N y U);rw[hop] at I;obtain⟨u,hu,hr⟩:=aXz (P:=P) hE.T hs.good (I x (by simp[Op.operands])) (aH7 (o:=lo) fun y U=>I y (by simp[Op.operands,U])) (aH7 (o:=hi) fun y U=>I y (by simp[Op.operands,U])) hc;refine(Did.of_value (v:=u) (h:=h) hs.good ?_ hr).toE;simp[execOp,hop,hu]
 grind[xK]
theorem aOd(hE:dB P E){sb:List Nat}{Δ:FuncId→List AV→List Obj→Option Hit}(hΔ:aAf P E.G Δ){nt:Nat}{ds:List Deferred}{env:St}{a:Act}{o:Oper}(Y:Sim E M w0 nt ds c env h a w)(U:dL nt o=true){k:AV→List Obj→Prop}{kp:Pan→List Obj→Prop}(hc:aCE E Δ sb env h o k kp)
  {next:Act→World→Prop} {Q:Exit→Act→World→Prop} (hn:∀v h' c' u w',k v h'→aDh M w0 c w h' v u w' c'→next (a.put o.dst u) w') (hp:∀p h' c' u w',kp p h'→bW c w c' w'→Good M w0 c' h' w'→bR w' c'.S p.t p.x u→Q (.panic (aJ4 p.k u)) a w'):o.wp P a w next Q:=by
 unfold aCE at hc;cases N:tS E.G env h o with
 | some fv =>
  obtain⟨f,vs⟩:=fv;simp only[N,aOb,aLT] at hc;cases hd:Δ f vs h with
  | some t =>
   simp only[hd] at hc;obtain⟨h1,h2⟩:=hc;obtain⟨xs,q1,q2,q3⟩:=aTd hE Y U N (hΔ.fn f vs h t hd);unfold Oper.wp;rw[q1];refine Calls.mono (aUM (hΔ.ok f vs h t hd) Y.good Y.glob q2 q3 h1) ?_;rintro e w' ⟨cN,hl,J⟩;cases hout:t.sp.out t.d with
   | ret v h' =>
    rw[hout] at J h2;obtain⟨u,rfl,hg,hv⟩:=J;exact hn _ _ cN u w' h2.2 ⟨hl,hg,hv h2.1⟩
   | pan p h' =>
    rw[hout] at J h2;obtain⟨u,rfl,hg,hv⟩:=J;exact hp p _ cN u w' h2 hl hg hv
  | none =>
   simp only[hd] at hc;cases I:aIv E.G env o with
   | some p =>
    simp only[I] at hc;obtain⟨u,q1,q2⟩:=aRE (P:=P) Y U I;unfold Oper.wp;rw[q1];exact hp p h c u w hc (.refl _ _) Y.good q2
   | none =>
    simp only[I] at hc;exact(aOc hE Y U hc.1).wp fun v w' c' ha=>hn _ _ c' v w' hc.2 ha
 | none =>
  simp only[N,aOb] at hc;cases I:aIv E.G env o with
  | some p =>
   simp only[I] at hc;obtain⟨u,q1,q2⟩:=aRE (P:=P) Y U I;unfold Oper.wp;rw[q1];exact hp p h c u w hc (.refl _ _) Y.good q2
  | none =>
   simp only[I] at hc;exact(aOc hE Y U hc.1).wp fun v w' c' ha=>hn _ _ c' v w' hc.2 ha
theorem aLU(hE:dB P E){sb:List Nat}{Δ:FuncId→List AV→List Obj→Option Hit}(hΔ:aAf P E.G Δ){ops:List Oper}{Q:Exit→Act→World→Prop}{nt:Nat}{ds:List Deferred}(J:∀o∈ops,dL nt o=true){K:St→List Obj→Prop}{Kp:Pan→St→List Obj→Prop}
  (hK:∀env h c a w,K env h→Sim E M w0 nt ds c env h a w→Q .normal a w) (hKp:∀p env h c a w u,Kp p env h→Sim E M w0 nt ds c env h a w→bR w c.S p.t p.x u→Q (.panic (aJ4 p.k u)) a w) :
  ∀(m i:Nat),i+m=ops.length→ ∀(env:St) (h:List Obj) (c:Ctx) (a:Act) (w:World),qO E Δ sb ops (ops.drop i) env h K Kp→Sim E M w0 nt ds c env h a w→wpOps P ops.toArray Q (List.range' i m) a w
 | 0,i,hi,env,h,c,a,w,U,I=>by
  rw[List.drop_eq_nil_of_le (by omega)] at U;simp only[List.range'_zero,wpOps];exact hK env h c a w U I
 | m+1,i,hi,env,h,c,a,w,U,I=>by
  have Y:i<ops.length:=by omega
  rw[List.drop_eq_getElem_cons Y] at U;have N:=J ops[i] (List.getElem_mem Y);have hput:∀(v:Value) (av:AV),aG c w av v→Sim E M w0 nt ds c (oZ ops[i].dst av env) h (a.put ops[i].dst v) w:=fun v av hv=>I.after N ⟨.refl _ _,I.good,hv⟩;have hrun:aCE E Δ sb env h ops[i] (fun v h'=>qO E Δ sb ops (ops.drop (i+1)) (oZ ops[i].dst v env) h' K Kp) (fun p h'=>Kp p env h')→Region.wanted ops[i] (yielded ops.toArray a.tmps)=true→wpOps P ops.toArray Q (List.range' i (m+1)) a w:=fun h1 hw=>by
   rw[List.range'_succ];simp only[wpOps,List.getElem?_toArray,List.getElem?_eq_getElem Y,hw,if_true]
   left
   refine aOd hE hΔ I N h1 (fun v h' c' u w' hk ha=>?_) (fun p h' c' u w' hk hl hg hr=>hKp p env h' c' a w' u hk (I.step hl hg) hr);exact aLU hE hΔ J hK hKp m (i+1) (by omega) _ _ c' _ w' hk (I.after N ha)
  have hskip:qO E Δ sb ops (ops.drop (i+1)) (oZ ops[i].dst .undef env) h K Kp→Region.wanted ops[i] (yielded ops.toArray a.tmps)=false→wpOps P ops.toArray Q (List.range' i (m+1)) a w:=fun h2 hw=>by
   rw[List.range'_succ];simp only[wpOps,List.getElem?_toArray,List.getElem?_eq_getElem Y,hw,Bool.false_eq_true,if_false];exact aLU hE hΔ J hK hKp m (i+1) (by omega) _ _ c _ w h2 (hput _ _ rfl)
  simp only[qO] at U;cases hgd:ops[i].guard with
  | none =>
   grind[Region.wanted]
  | some jp =>
   obtain⟨j,pol⟩:=jp;rw[hgd] at U;simp only at U;cases hdj:aBv ops j with
   | none=>simp_all
   | some dj =>
    rw[hdj] at U;simp only at U;have hv:=I.env dj;split at U
    ·rename_i b hb;rw[hb] at hv;have hb':=yH hv;have hy:=pJ J I.size hdj hb';simp only[yb] at hy;by_cases e:b=pol
     ·grind[Region.wanted]
     ·have e':b= !pol:=(by cases b<;>cases pol<;>simp_all);grind[Region.wanted]
    ·rename_i hb;rw[hb] at hv;have hy:=pJ J I.size hdj (v:=Go.undef) hv;grind[Region.wanted,undef,yb]
    simp_all
theorem aRF{F:Fr}{K:Exit→St→List Obj→Prop}{Q:Exit→Act→World→Prop}{env:St}{h:List Obj}(hF:oY F)(hK:∀e env h,K e env h→At F (Q e) env h){Δ:FuncId→List AV→List Obj→Option Hit}(U:aAf F.P F.E.G Δ){id:Nat}{ops:Array Oper}(keep sb:List Nat)
  (hv:qO F.E Δ sb ops.toList ops.toList env h (fun env h=>K .normal (keep.map fun t=>(t,look env t)) h) (fun p env h=>AtP F Q p env h)):Tri F (.region id ops false) Q env h:=fun I c a w J=>by
 simp only[dQ,Bool.and_eq_true,Bool.or_eq_true,Bool.not_eq_true'] at I;obtain⟨⟨h1,h2⟩,h3⟩:=I;refine wp_region ?_;have:=aLU (Q:=Q) hF.env U (List.all_eq_true.1 h1) (K:=fun env h=>K .normal (keep.map fun t=>(t,look env t)) h) (Kp:=fun p env h=>AtP F Q p env h) (fun env h c a w N J=>hK _ _ _ N c a w (J.keep keep)) (fun p env h c a w u N J Y=>N c a w u J Y) ops.toList.length 0 (by simp) env h c a w (by simpa using hv) J;simp_all[List.range_eq_range']
theorem mK{F:Fr}{Q:Exit→Act→World→Prop}{env:St}{h:List Obj}(hF:oY F){Δ:FuncId→List AV→List Obj→Option Hit}(I:aAf F.P F.E.G Δ){id:Nat}{ops:Array Oper}(keep sb:List Nat)
  (hv:qO F.E Δ sb ops.toList ops.toList env h (fun env h=>At F (Q .normal) (keep.map fun t=>(t,look env t)) h) (fun p env h=>AtP F Q p env h)):Tri F (.region id ops false) Q env h :=
 aRF hF (K:=fun e=>At F (Q e)) (fun _ _ _ h=>h) I keep sb hv
theorem aOe{F:Fr}{K:Act→World→Prop}{Q:Exit→Act→World→Prop}{p:Pan}{env:St}{h:List Obj}(hq:AtP F Q p env h):AtP F (Exit.then K Q) p env h:=hq
def aBx:List AV→Nat→St
 | [],_=>[]
 | v::r,k=>(k,v)::aBx r (k+1)
theorem aLV{tmps:Array Value}:∀(I:List AV) (vs:List Value) (k:Nat),vs.length=I.length→(∀i (U:i<I.length) (N:i<vs.length),aG c w I[i] vs[i])→(∀i v,vs[i]? = some v→tmps.getD (k+i) Go.undef=v)→aA4 c w (aBx I k) tmps
 | [],_,k,_,_,_=>fun t=>trivial
 | u::I,v::vs,k,Y,hv,ht=>by
  have h0:=hv 0 (by simp) (by simp);have t0:=ht 0 v (by simp);have J:=aLV I vs (k+1) (by simp_all) (fun i U N=>by have:=hv (i+1) (by simp_all) (by simp_all); simp_all) (fun i x hx=>by
   have:=ht (i+1) x (by simp_all);rw[show k+1+i=k+(i+1) from by omega]; exact this)
  intro t;simp only[aBx,look];split
  ·simp_all
  ·exact J t
def AV.wfV:AV→Prop
 | .val t x=>t.wf x
 | .full t I=>(Ty.sl t).wf I
 | _=>True
def AV.wfL:List AV→Prop
 | []=>True
 | v::r=>v.wfV∧AV.wfL r
def Obj.wfV:Obj→Prop
 | .box _ (.agg J)=>AV.wfL J
 | .box _ v=>v.wfV
 | .row _ t I=>(Ty.arr I.length t).wf I∧I.length≤maxLen
 | .frz t I=>(Ty.sl t).wf I
 | .tre _ _ t I=>(Ty.sl t).wf I
 | _=>True
def Obj.wfL:List Obj→Prop
 | []=>True
 | o::r=>o.wfV∧Obj.wfL r
theorem aIx{v:AV}{cs:List Value}(I:aE c w v cs):v.wfV:=by
 cases v<;>first|trivial|skip
 case val t x=>exact aJ.wf t x cs I
 case full t xs =>
  simp only[aE] at I;obtain⟨a,n,e,J⟩:=I;exact aJ.wf (.sl t) xs cs ⟨a,n,n,e,J⟩
theorem aUO:∀ {vs:List AV} {cs:List Value},fP c w vs cs→AV.wfL vs
 | [],_,_=>trivial
 | v::r,_,⟨c1,c2,e,I,J⟩=>⟨aIx I,aUO J⟩
theorem aZM{v:AV}{x:Value}(I:aG c w v x):v.wfV:=by
 cases v<;>first|trivial|exact aIx I.1
theorem aLW:∀ {I:List AV} {vs:List Value},vs.length=I.length→(∀i (J:i<I.length) (N:i<vs.length),aG c w I[i] vs[i])→AV.wfL I
 | [],_,_,_=>trivial
 | u::I,v::vs,U,hv=>⟨aZM (hv 0 (by simp) (by simp)),aLW (vs:=vs) (by simp_all) (fun i J N=>by have:=hv (i+1) (by simp_all) (by simp_all); simp_all)⟩
theorem aZN{i:Nat}{o:Obj}(J:zL c w i o):o.wfV:=by
 cases o with
 | dead=>trivial
 | box n v =>
  obtain⟨b,cells,e,_,_,_,N⟩:=J;cases v<;>first|exact aUO N|exact aIx N|trivial
 | row e t I =>
  obtain⟨Y,U,h2⟩:=J;refine⟨aJ.wf _ _ _ h2,?_⟩;rcases U.2 with⟨_,h0⟩|⟨g,cap,cur,_,_,_,h3,N,_⟩
  all_goals omega
 | frz t I=>exact aJ.wf (.sl t) I _ J
 | map k v m=>trivial
 | tre e m t I =>
  obtain⟨B,U,_⟩:=J;exact aJ.wf (.sl t) I _ (fQ.toC (S':=fun _=>True) (fun _ _=>trivial) _ _ _ _ _ (fun _ _=>trivial) U)
 | trh e m t I k v=>trivial
theorem aRG(U:Good M w0 c h w):Obj.wfL h:=by
 have:∀(l:List Obj),(∀o∈l,o.wfV)→Obj.wfL l:=fun l=>by
  induction l with
  | nil=>intro _; trivial
  | cons o r N=>intro I; exact⟨I o (by simp),N fun x Y=>I x (by simp[Y])⟩
 refine this h fun o J=>?_;obtain⟨i,hi,rfl⟩:=List.mem_iff_getElem.1 J;exact aZN (U.objs i _ (List.getElem?_eq_getElem hi))
def bD(T:Tab)(h:List Obj)(env:St):List ResultVar→Prop×List AV
 | []=>(True,[])
 | .tmp t::r=>((bD T h env r).1,look env t::(bD T h env r).2)
 | .cell a t::r=>((aBg T h t (look env a)).1∧(bD T h env r).1,(aBg T h t (look env a)).2::(bD T h env r).2)
theorem aIy(hT:eO P E.T)(hg:Good M w0 c h w){env:St}{tmps:Array Value}(U:aA4 c w env tmps){g:ResultVar→Sem Value}(hg1:∀t,g (.tmp t)=pure (tmps.getD t Go.undef))(J:∀a t,g (.cell a t)=(do loadVar t (← asAddr (tmps.getD a Go.undef)))):∀(l:List ResultVar),(bD E.T h env l).1 →
  ∃I:List Value,(l.mapM g).run P w= .ok I w∧I.length=(bD E.T h env l).2.length∧ ∀i (h1:i<(bD E.T h env l).2.length) (h2:i<I.length),aG c w (bD E.T h env l).2[i] I[i]
 | [],_=>⟨[],by simp,rfl,fun i h1=>by simp_all⟩
 | .tmp t::r,hc=>by
  simp only[bD] at hc ⊢;obtain⟨I,q1,q2,q3⟩:=aIy hT hg U hg1 J r hc;refine⟨tmps.getD t Go.undef::I,by simp_all,by simp[q2],fun i h1 h2=>?_⟩;cases i with
  | zero=>exact U t
  | succ i=>simp_all
 | .cell a t::r,hc=>by
  simp only[bD] at hc ⊢;obtain⟨I,q1,q2,q3⟩:=aIy hT hg U hg1 J r hc.2;obtain⟨u,Y,hr⟩:=aRh (P:=P) hT hg (U a) hc.1;have N:(g (.cell a t)).run P w= .ok u w:=by
   rw[J];have hv:=U a;generalize tmps.getD a Go.undef=v at Y hv;simp only[Instr.loadAt,Sem.run_bind] at Y;simp only[Sem.run_bind];have:∃ad,v= .pointer (some ad):=by
    cases v with
    | pointer p =>
     cases p with
     | some ad=>simp_all
     | none=>simp[Instr.sureAddr,Result.andThen] at Y
    | _=>simp[Instr.sureAddr,Result.andThen] at Y
   obtain⟨ad,rfl⟩:=this
   simpa [Instr.sureAddr,asAddr] using Y
  refine⟨u::I,by simp only[List.mapM_cons,Sem.run_bind,N,Sem.run_pure,Result.andThen_ok,q1],by simp[q2],fun i h1 h2=>?_⟩;grind
theorem aAg(hT:eO P E.T)(hg:Good M w0 c h w){env:St}{tmps:Array Value}(he:aA4 c w env tmps){fn:Func}{l:List ResultVar}(hr:fn.results=l.toArray)(hc:(bD E.T h env l).1) :
  ∃I:List Value,(results fn tmps).run P w= .ok (aCD I) w∧I.length=(bD E.T h env l).2.length∧ ∀i (h1:i<(bD E.T h env l).2.length) (h2:i<I.length),aG c w (bD E.T h env l).2[i] I[i]:=by
 unfold results;rw[hr];simp only[Sem.run_bind];rw[List.mapM_toArray,Sem.run_map];generalize hm:(List.mapM _ l:Sem (List Value))=Y;have J:∀(g:ResultVar→Sem Value),(∀t,g (.tmp t)=pure (tmps.getD t Go.undef))→(∀a t,g (.cell a t)=(do loadVar t (← asAddr (tmps.getD a Go.undef))))→List.mapM g l=Y →
   ∃I:List Value,Y.run P w= .ok I w∧I.length=(bD E.T h env l).2.length∧ ∀i (h1:i<(bD E.T h env l).2.length) (h2:i<I.length),aG c w (bD E.T h env l).2[i] I[i]:=fun g N U e=>by
  subst e; exact aIy (P:=P) hT hg he N U l hc
 obtain⟨I,q1,q2,q3⟩:=J _ (fun t=>rfl) (fun a t=>rfl) hm;refine⟨I,?_,q2,q3⟩;rw[q1];simp only[Result.andThen_ok,Sem.run_pure]
 congr 1
 match I with
 | []=>rfl
 | [v]=>rfl
 | a::b::r =>
  rfl
def xW(h:List Obj):List AV→List AV→Prop
 | [],[]=>True
 | v::r,u::r'=>(jD h v u∧lB u=true)∧xW h r r'
 | _,_=>False
def yO(h:List Obj):AV→List AV→Prop
 | .tup J,I=>I.length≠1∧xW h I J
 | v,[u]=>jD h u v
 | _,_=>False
theorem aLX(Y:Good M w0 c h w):∀ {I vs:List AV} {xs:List Value},xW h I vs→xs.length=I.length→(∀i (N:i<I.length) (J:i<xs.length),aG c w I[i] xs[i])→xs.length=vs.length∧ ∀i (N:i<vs.length) (J:i<xs.length),aG c w vs[i] xs[i]∧lB vs[i]=true
 | [],[],[],_,_,_=>⟨rfl,fun i N=>by grind⟩
 | u::I,v::vs,x::xs,U,hl,hv=>by
  obtain⟨⟨N,hj⟩,J⟩:=U;obtain⟨q1,q2⟩:=aLX Y J (xs:=xs) (by simp_all) (fun i N J=>by have:=hv (i+1) (by simp_all) (by simp_all); simp_all);grind[aHF]
theorem aRH{v:AV}{x:Value}(hv:aG c w v x)(I:lB v=true)(ht:∀vs,v≠ .tup vs)(J:v≠ .undef):mH c w v x:=by
 cases v<;>first|exact hv|grind[lB]|simp_all|simp_all
def aUP:AV→Bool
 | .tup _=>false
 | .undef=>false
 | _=>true
theorem oM{F:Fr}{fn:Func}{sp:iJ}{c0:Ctx}{d:sp.D}{env:St}{h h':List Obj}{v:AV}(hF:oY F)(l:List ResultVar)(hM:F.M=GM sp c0 d)(hds:F.ds= [])(hr:fn.results=l.toArray)(U:sp.out d= .ret v h')(hh:h=h')(hfl:(match v with| .tup vs=>vs.all aUP|_=>true)=true)(hy:(bD F.E.T h env l).1∧yO h v (bD F.E.T h env l).2) :
  At F (bodyPost F.P fn (aD4 sp c0 F.w0 d) .ret) env h:=fun c a w N=>by
 subst hh;obtain⟨Y,q1,q2,q3⟩:=aAg (P:=F.P) hF.env.T N.good N.env hr hy.1;refine⟨N.defers.trans hds,aCD Y,q1,c,?_⟩;rw[U];refine⟨aCD Y,rfl,by rw[← hM]; exact N.good,?_⟩;have I:=hy.2;generalize (bD F.E.T h env l).2=rs at q2 q3 I;cases v with
 | tup vs =>
  obtain⟨h1,h2⟩:=I;obtain⟨k1,k2⟩:=aLX N.good h2 q2 q3;refine⟨Y,?_,k1,fun i p1 p2=>?_⟩
  ·match Y,q2 with
   | [],_=>rfl
   | [x],q2=>simp_all
   | a::b::r,_=>rfl
  ·have J:=List.all_eq_true.1 hfl vs[i] (List.getElem_mem p1);exact aRH (k2 i p1 p2).1 (k2 i p1 p2).2 (fun l e=>by rw[e] at J; cases J) (fun e=>by rw[e] at J; cases J)
 | _ =>
  match rs,I with
  | [u],I =>
   match Y,q2 with
   | [x],_=>exact aHF N.good I (q3 0 (by simp) (by simp))
theorem mD{F:Fr}{fn:Func}{sp:iJ}{U:Ctx}{d:sp.D}{env:St}{h h':List Obj}{p:Pan}(hM:F.M=GM sp U d)(J:F.ds= [])(I:sp.out d= .pan p h')(Y:h=h') :
  AtP F (bodyPost F.P fn (aD4 sp U F.w0 d)) p env h:=fun c a w u N hr=>by
 subst Y;refine⟨N.defers.trans J,c,?_⟩;rw[I];exact⟨u,rfl,by rw[← hM]; exact N.good,hr⟩
theorem sQ{F:Fr}{Q:Exit→Act→World→Prop}{p:Pan}{env:St}{h:List Obj}(σ:List Nat)(hd:nodupB σ=true)(hp:preB F.M.m σ=true)(J:AtP F Q p (env.map fun q=>(q.1,ren σ q.2)) (σ.map fun i=>mG σ (h.getD i .dead))):AtP F Q p env h:=fun c a w u I N =>
 J (c.ren σ) a w u ⟨I.good.ren hd hp,I.glob,fun t=>by rw[aBw (ren σ) rfl]; exact aHH (I.env t),I.size,I.defers⟩ N
end
end Go.Vc
namespace Go.Vc
attribute [go_sem] Int.toNat_natCast vcA opA pv aIc aUt evA uM nX xB dP xH
attribute [go_sem] aGa yL aIb aDJ kG aNE aJ2 aZH Go.Vc.look aBg rW aUr
attribute [go_sem] aHV aCk isStr bxN aBd aHU aPR aPQ aHT aLv aLy shU
attribute [go_sem] shI eM aXa aLz aPY aEX tL oJ oJ.fldT aB8 aDM aDN
attribute [go_sem] aBh aDO aE4 aC8 aDa aDT zQ aCa qD aT9 mm2 nW
attribute [go_sem] bN Go.Vc.elemOf aKR List.all_cons List.all_nil Int.le_refl Nat.le_refl AV.solid AV.solid1 AV.nc AV.nc1 AV.isAgg
attribute [go_sem] Ty.isAgg Ty.cells Ty.zero aDd List.map List.append List.length Option.map decide_true decide_false Bool.and_true Bool.true_and
attribute [go_sem] true_and and_true implies_true forall_const if_true if_false IntKind.signed Ty.den Nat.succ_ne_self ne_eq not_false_eq_true not_true_eq_false
attribute [go_sem] List.getElem?_nil aCB List.nil_append List.cons_append beq_self_eq_true Bool.and_self cond_true cond_false Bool.cond_true_left Bool.cond_false_right mF tR
attribute [go_sem] uP aHG aIp bA1 freezeAll freeze aLO aIf aAa mJ aCj aRz
attribute [go_sem] aNO aUm Ty.isNil aE7 aCi aNY aRy oZ aBv tP aE6 xI
attribute [go_sem] kY wG Ty.strB aP3 bound sC aZy aXe aXf aZz aUu frzAll
attribute [go_sem] Ty.scalar cL aUa RK.ty AV.tags AV.tags1 List.flatMap_cons List.flatMap_nil List.getElem?_cons_zero List.getElem?_cons_succ List.set_cons_zero List.set_cons_succ
attribute [go_sem] List.length_cons List.length_nil Nat.zero_add uL List.getD_cons_zero List.getD_cons_succ dite_true Ty.okB Ty.byt IntKind.bits lL xU
attribute [go_sem] bAY aPX aZA aLB aXg aUp allTags aC9 gt_iff_lt ge_iff_le List.length_replicate List.replicate_zero
attribute [go_sem] List.length_set aUG aUH aUI aS5 bA2 aDj aBp aUq vT vU aIo
attribute [go_sem] Ty.keyB Ty.key1 Option.some.injEq exists_eq_left' List.append_nil decide_eq_true_eq decide_eq_false_iff_not Bool.or_eq_true Bool.or_eq_false_iff Bool.and_eq_true Int.not_lt Int.not_le
attribute [go_sem] Bool.not_eq_true' Bool.not_eq_false' cP aN3 fR gO List.take_succ_cons List.take_zero List.drop_succ_cons List.drop_zero aT8 oV
attribute [go_sem] aSP aLE aB9 Ty.flds aBi aA6 Ty.fieldOff aPZ parse zP aLC aHY
attribute [go_sem] Option.getD_some Option.getD_none Bool.not_true Bool.not_false Bool.false_eq_true Bool.true_eq_false false_implies and_false false_and or_true true_or or_false
attribute [go_sem] false_or Bool.or_true Bool.or_false Bool.true_or Bool.false_or Bool.and_false Bool.false_and Option.isSome_some Option.isSome_none Int.reduceToNat Int.reduceLE Int.reduceLT
attribute [go_sem] Nat.reduceEqDiff Nat.reduceAdd Nat.reduceMul Nat.reduceLT Nat.reduceSub Nat.reduceLeDiff Nat.reduceDiv Nat.reduceMod Nat.reducePow Nat.reduceGT Int.reduceEq Int.reduceNe
attribute [go_sem] Int.reduceAdd Int.reduceSub Int.reduceNeg Int.reduceMul reduceIte reduceCtorEq
end Go.Vc
namespace Go.Vc
open Go.RowKit
def Ty.argB:Ty→Bool
 | .bool=>true
 | .u _=>true
 | .i _=>true
 | .str=>true
 | .sl t=>t.argB
 | .unit=>true
 | .pair a b=>a.argB&&b.argB
 | .arr _ t=>t.argB
 | .expr=>true
 | _=>false
section
variable {P:Program} {T:Tab} {H:Type} {enc:TypeId×Value→H} {w:World} {spare:Nat→Bool} {held:Bool}
theorem gT{t:TypeId}{c:Ty}(h:uT P T t c):P.cellsOf t=c.cells:=by
 obtain⟨i,hi,I,_⟩:=h.info;simp[Program.cellsOf,hi,I]
def sF(w:World):Nat→Prop:=fun b=>b<w.heap.size
theorem aFg{a:Addr}{n:Nat}{ds:List Value}(h:w.cells? 0 a n=some ds):ds.length=n∧ ∀j,j<n→w.cell? (a.add j)=ds[j]? := by
 unfold World.cells? at h;rw[if_pos (Nat.zero_le _)] at h;have J:=mapM_some_length h;have I:=mapM_some_get h;grind
theorem aRI{b off:Nat}{v:Value}(h:w.cell? ⟨b,off,none⟩=some v):b<w.heap.size:=by
 grind[Nat.lt_or_ge,World.cell?,Array.getElem?_eq_none]
theorem aZO(a:Addr)(i j:Nat)(h:a.spot=none):(a.add i).add j=⟨a.block,a.off+i+j,none⟩:=by
 obtain⟨b,o,s⟩:=a;grind[Addr.add]
theorem aUQ{sz:Nat}(hsz:0<sz){α:Type}{R:α→List Value→Prop}{a:Addr}{len:Nat}(J:∀i,i<len→ ∃ds x,w.cells? 0 (a.add (i*sz)) sz=some ds∧R x ds) :
  ∃xs:List α,xs.length=len∧(xs= []∨ ∃b off,some a=some ⟨b,off,none⟩∧sF w b∧ ∀i (h:i<xs.length),∃ds,R xs[i] ds∧aY w b (off+i*sz) ds):=by
 classical
 by_cases h0:len=0
 ·simp_all
 have I:0<len:=by omega
 obtain⟨ds0,Y,e0,_⟩:=J 0 I;have hsp:a.spot=none:=by
  obtain⟨hl,hg⟩:=aFg e0;grind[List.getElem?_eq_getElem,World.cell?_spot,Addr.add]
 have U:∃f:Nat→α,∀i,i<len→ ∃ds,w.cells? 0 (a.add (i*sz)) sz=some ds∧R (f i) ds:=by
  refine⟨fun i=>if h:i<len then Classical.choose (Classical.choose_spec (J i h)) else Y,fun i hi=>?_⟩;grind
 obtain⟨f,U⟩:=U;have hcell:∀i,i<len→ ∀ds,w.cells? 0 (a.add (i*sz)) sz=some ds→aY w a.block (a.off+i*sz) ds:=fun i hi ds N j v hj=>by
  grind[aFg,Nat.lt_or_ge,List.getElem?_eq_none,aZO]
 refine⟨(List.range len).map f,by simp,.inr ⟨a.block,a.off,?_,?_,fun i hi=>?_⟩⟩
 ·obtain⟨b,o,s⟩:=a; simp_all
 ·obtain⟨ds,N,_⟩:=U 0 I;have:=hcell 0 I ds N 0 (ds[0]'(by grind[aFg])) (List.getElem?_eq_getElem _);exact aRI this
 grind
theorem aIz{n:Nat}(ih:∀(t:TypeId) (c:Ty) (cs:List Value) (x:DataW H×List MemPlace),T t=some c→c.argB=true→DataW.trod enc P w 0 spare held n t cs=some x→ ∃y,aJ w (sF w) c y cs)(hT:eO P T)(cs:List Value) :
  ∀(U:List Field) (off:Nat) (c:Ty),bS T U off c=true→c.argB=true→(cs.drop off).length=c.cells→(∀f∈U,∃x,DataW.trod enc P w 0 spare held n f.type ((cs.drop f.offset).take (P.cellsOf f.type))=some x)→ ∃y,aJ w (sF w) c y (cs.drop off)
 | [],off,c,I,N,Y,_=>by
  cases c<;>simp[bS] at I
  exact⟨(),List.eq_nil_of_length_eq_zero Y⟩
 | f::U,off,c,I,N,Y,hx=>by
  cases c<;>simp only[bS,Bool.false_eq_true] at I
  case pair a b =>
   simp only[Bool.and_eq_true,decide_eq_true_eq] at I;obtain⟨⟨⟨⟨h1,h2⟩,h3⟩,h4⟩,h5⟩:=I;simp only[Ty.argB,Bool.and_eq_true] at N;obtain⟨x,J⟩:=hx f (by simp);rw[gT (hT _ _ h1),h2] at J;obtain⟨y1,r1⟩:=ih _ _ _ _ h1 N.1 J;simp only[Ty.cells] at Y;obtain⟨y2,r2⟩:=aIz ih hT cs U (off+a.cells) b h5 N.2 (by grind) (fun g hg=>hx g (by simp[hg]));refine⟨(y1,y2),(cs.drop off).take a.cells,cs.drop (off+a.cells),?_,r1,r2⟩;rw[← List.drop_drop,List.take_append_drop]
theorem aOf(U:eO P T):∀(n:Nat) (t:TypeId) (c:Ty) (cs:List Value) (x:DataW H×List MemPlace),T t=some c→c.argB=true→DataW.trod enc P w 0 spare held n t cs=some x→ ∃y,aJ w (sF w) c y cs:=by
 intro n
 induction n with
 | zero=>simp_all[DataW.trod]
 | succ n ih =>
  intro t c cs x ht ha h;obtain⟨d,hd,hb⟩:=(U _ _ ht).desc;cases c with
  | bool =>
   cases d<;>simp[dM] at hb
   obtain⟨b,e,_⟩:=DataW.trod_bool hd h;exact⟨b,e⟩
  | u k =>
   cases d<;>simp[dM] at hb
   rename_i k';obtain⟨rfl,hb⟩:=hb;obtain⟨m,e,_,hw⟩:=DataW.trod_int hd h;simp only[Lit.wf,Bool.and_eq_true,decide_eq_true_eq] at hw;have hmin:IntKind.min k=0:=(by cases k<;>first|rfl|grind[IntKind.signed]);have hm:((m.toNat:Nat):Int)=m:=Int.toNat_of_nonneg (by omega);exact⟨m.toNat,by simp_all,hb,by omega⟩
  | i k =>
   cases d<;>simp[dM] at hb
   rename_i k';obtain⟨rfl,hb⟩:=hb;obtain⟨m,e,_,hw⟩:=DataW.trod_int hd h;simp only[Lit.wf,Bool.and_eq_true,decide_eq_true_eq] at hw;exact⟨m,e,hb,hw.1,hw.2⟩
  | str =>
   cases d<;>simp[dM] at hb
   obtain⟨s,e,_,hs⟩:=DataW.trod_string hd h;exact⟨eI s,s,e,rfl,hs⟩
  | sl J =>
   cases d<;>simp[dM] at hb
   obtain⟨Y,hb2⟩:=hb;rcases DataW.trod_slice hd h with⟨rfl,_⟩|⟨a,len,cap,elems,rest,m,hm,rfl,_,_,hl,hc,I,N,_⟩
   ·exact⟨[],none,0,0,rfl,rfl,Nat.le_refl _,Nat.zero_le _,.inl rfl⟩
   ·cases hm;rw[gT (U _ _ Y)] at N;obtain⟨xs,h1,h2⟩:=aUQ (w:=w) hb2 (R:=aJ w (sF w) J) (a:=a) (len:=len) (fun i hi=>by
     have:=N i hi;rw[List.getElem?_eq_getElem (by omega)] at this;obtain⟨ds,hds,hx⟩:=Option.bind_eq_some_iff.1 this;obtain⟨y,hy⟩:=ih _ _ _ _ Y ha hx;grind)
    exact⟨xs,some a,len,cap,rfl,h1,hl,hc,h2⟩
  | unit =>
   cases d<;>simp[dM] at hb
   rename_i fs;obtain⟨xs,m,_,_,I,_⟩:=DataW.trod_struct hd h;rw[gT (U _ _ ht)] at I;exact⟨(),List.eq_nil_of_length_eq_zero I⟩
  | pair a b =>
   cases d<;>simp[dM] at hb
   rename_i fs;obtain⟨xs,m,hm,_,I,hxl,hf⟩:=DataW.trod_struct hd h;cases hm;rw[gT (U _ _ ht)] at I;have:=aIz ih U cs fs.toList 0 (.pair a b) hb ha (by simp_all) (fun f hf'=>by
    obtain⟨i,hi,rfl⟩:=List.mem_iff_getElem.1 hf';have hi':i<fs.size:=(by omega);have:=hf i fs[i] (Array.getElem?_eq_getElem hi');simp_all)
   simp_all
  | arr m J =>
   cases d<;>simp[dM] at hb
   obtain⟨⟨⟨rfl,Y⟩,hb2⟩,_⟩:=hb;obtain⟨xs,q,hq,_,I,hxl,hf⟩:=DataW.trod_array hd h;cases hq;rw[gT (U _ _ ht)] at I;rw[gT (U _ _ Y)] at hf;have hall:∀i,i<m→ ∃y,aJ w (sF w) J y ((cs.drop (i*J.cells)).take J.cells):=fun i hi=>by
    have:=hf i hi;rw[List.getElem?_eq_getElem (by omega)] at this;exact ih _ _ _ _ Y ha this
   classical
   have hfun:∃f:Nat→J.den,∀i,i<m→aJ w (sF w) J (f i) ((cs.drop (i*J.cells)).take J.cells):=by
    refine⟨fun i=>if h:i<m then Classical.choose (hall i h) else J.zero,fun i hi=>?_⟩;grind
   obtain⟨f,hfun⟩:=hfun;refine⟨(List.range m).map f,by simp,(List.range m).map fun i=>(cs.drop (i*J.cells)).take J.cells,?_,by simp,fun i h1 h2=>?_⟩
   ·have:∀(k:Nat) (l:List Value),l.length=k*J.cells→l=((List.range k).map fun i=>(l.drop (i*J.cells)).take J.cells).flatten:=by
     intro k
     induction k with
     | zero=>simp_all
     | succ k ihk =>
      intro l hl;rw[List.range_succ,List.map_append,List.flatten_append];have h1:=ihk (l.take (k*J.cells)) (by grind);have h2:((List.range k).map fun i=>((l.take (k*J.cells)).drop (i*J.cells)).take J.cells)=((List.range k).map fun i=>(l.drop (i*J.cells)).take J.cells):=by
       apply List.map_congr_left;intro i hi;have hik:i<k:=List.mem_range.1 hi;rw[List.drop_take,List.take_take]
       congr 1
       have:(i+1)*J.cells≤k*J.cells:=Nat.mul_le_mul_right _ hik;grind
      rw[h2] at h1;rw[← h1];simp only[List.map_cons,List.map_nil,List.flatten_cons,List.flatten_nil,List.append_nil];rw[List.take_of_length_le (l:=l.drop (k*J.cells)) (by grind),List.take_append_drop]
    exact this m cs I
   grind
  | expr =>
   cases d<;>simp[dM] at hb
   rename_i fs;obtain⟨xs,m,hm,_,I,hxl,hf⟩:=DataW.trod_struct hd h;cases hm;rw[gT (U _ _ ht)] at I;have hfs:∃f0 f1 f2,fs.toList= [f0,f1,f2]∧(T f0.type=some (.i .i64)∧f0.offset=0∧T f1.type=some .str∧f1.offset=1∧T f2.type=some (.sl .expr)∧f2.offset=2):=by
    unfold aRc at hb;grind
   obtain⟨f0,f1,f2,hfs,t0,o0,J,o1,t2,o2⟩:=hfs;have hget:∀(i:Nat) (f:Field),fs.toList[i]? = some f→ ∃x,DataW.trod enc P w 0 spare held n f.type ((cs.drop f.offset).take (P.cellsOf f.type))=some x:=fun i f hi=>by
    grind
   obtain⟨x0,h0⟩:=hget 0 f0 (by simp_all);obtain⟨x1,h1⟩:=hget 1 f1 (by simp_all);obtain⟨x2,h2⟩:=hget 2 f2 (by simp_all);rw[gT (U _ _ t0),o0] at h0;rw[gT (U _ _ J),o1] at h1;rw[gT (U _ _ t2),o2] at h2;obtain⟨y0,r0⟩:=ih _ _ _ _ t0 rfl h0;obtain⟨y1,r1⟩:=ih _ _ _ _ J rfl h1;obtain⟨y2,r2⟩:=ih _ _ _ _ t2 rfl h2
   match cs,I with
   | [c0,c1,c2],_ =>
    simp only[Ty.cells,List.drop_zero,List.drop_succ_cons,List.take_succ_cons,List.take_zero] at r0 r1 r2;obtain⟨e0,_,b1,b2⟩:=r0;obtain⟨s,e1,rfl,hs⟩:=r1;obtain⟨a,len,cap,e2,hl1,hl2,hl3,hl4⟩:=r2;simp only[List.cons.injEq,and_true] at e0 e1 e2;subst e0; subst e1; subst e2
    classical
    refine⟨.mk y0 (eI s) y2,?_⟩;rcases hl4 with rfl|⟨b,off,ha,hb,N⟩
    ·exact RepEx.mk y0 s [] a len cap (fun _=>[]) ⟨b1,b2⟩ hs hl1 hl2 hl3 (fun i h=>by simp at h) (.inl rfl)
    ·refine RepEx.mk y0 s y2 a len cap (fun i=>if h:i<List.length y2 then Classical.choose (N i h) else []) ⟨b1,b2⟩ hs hl1 hl2 hl3 (fun i h=>?_) (.inr ⟨b,off,ha,hb,fun i h=>?_⟩)
     ·simp only[dif_pos h]; exact(Classical.choose_spec (N i h)).1
     grind
  | rp J=>grind[Ty.argB]
  | clo g J=>grind[Ty.argB]
  | ifc k J=>grind[Ty.argB]
  | nili=>grind[Ty.argB]
  | nilp=>grind[Ty.argB]
  | nilf=>grind[Ty.argB]
theorem aXA(N:eO P T){t:TypeId}{c:Ty}{r:Reach}{base:Nat}{v:Value}{d:DataW H}{ps:List MemPlace}(ht:T t=some c)(Y:c.argB=true)(I:Value.okWide P w r base t v)(h:DataW.Trod enc P w 0 spare held t v d ps):∃y,bR w (sF w) c y v:=by
 obtain⟨n,hn⟩:=h;obtain⟨y,hy⟩:=aOf N n t c _ _ ht Y hn;refine⟨y,bR.of_cells (fun U=>?_) (fun J=>?_) hy⟩
 ·obtain⟨d,hd,hb⟩:=(N _ _ ht).desc;unfold Value.okWide at I;rw[hd] at I;cases c<;>simp[Ty.isAgg] at U
  all_goals (cases d<;>first|grind[dM]|skip)
  all_goals grind
 ·intro cs e;subst e;obtain⟨d,hd,hb⟩:=(N _ _ ht).desc;unfold Value.okWide at I;rw[hd] at I;cases c<;>simp[Ty.isAgg] at J
  all_goals (cases d<;>first|grind[dM]|skip)
  all_goals simp_all[Cell.okWide,Cell.ok]
def aZP(T:Tab):Ty→List TypeId→Bool
 | .unit,[]=>true
 | .pair a r,t::ts=>decide (T t=some a)&&a.argB&&aZP T r ts
 | _,_=>false
theorem aRJ(J:eO P T){r:Reach}{base:Nat}:∀(c:Ty) (ts:List TypeId) (vs:List Value) (ds:List (DataW H)) (ps:List MemPlace),aZP T c ts=true→DataW.TrodAll enc P w 0 spare held ts vs ds ps→(∀(j:Nat) t v,ts[j]? = some t→vs[j]? = some v→Value.okWide P w r base t v)→ ∃x,jL w (sF w) c x vs
 | .unit,[],vs,ds,ps,_,h,_=>by
  cases vs<;>cases ds<;>simp[DataW.TrodAll] at h
  exact⟨(),rfl⟩
 | .pair a c,t::ts,vs,ds,ps,hb,h,I=>by
  simp only[aZP,Bool.and_eq_true,decide_eq_true_eq] at hb;cases vs<;>cases ds<;>simp only[DataW.TrodAll] at h
  rename_i v vs d ds;obtain⟨p,q,h1,U,_⟩:=h;obtain⟨y,Y⟩:=aXA J hb.1.1 hb.1.2 (I 0 t v rfl rfl) h1;obtain⟨x,hx⟩:=aRJ J c ts vs ds q hb.2 U (fun j t' N e1 e2=>I (j+1) t' N (by simp_all) (by simp_all));exact⟨(y,x),v,vs,rfl,Y,hx⟩
end
end Go.Vc
namespace Go.Vc
attribute [go_sem] aIw aFf List.contains_cons List.contains_nil qO aCE aOb aLT tS aIv aN9 aOa
attribute [go_sem] aUL aD5 aFe aY8 nodupB aUK lB emb yN aLS aQd aIt
attribute [go_sem] wK jE iD wJ ren gE mG posOf eP bD xW jD
attribute [go_sem] yO aUP aBx AV.wfL AV.wfV Obj.wfL Obj.wfV List.all_cons List.all_nil List.range'_zero List.range'_succ List.zip_cons_cons
attribute [go_sem] List.zip_nil_left List.zip_nil_right List.drop_nil List.take_nil List.map_cons List.map_nil aNN aBq
end Go.Vc
namespace Go.Vc
open Go.RowKit
section
variable {P:Program} {E:Env} {M:Perm} {w0:World} {c:Ctx} {h:List Obj} {w:World}
def aRK(P:Program)(fn:Func)(S:Nat→Prop)(w0:World)(r:RK)(y:r.ty.den):Exit→Act→World→Prop :=
 bodyPostD P fn fun e w'=>∃v,e= .returned v∧bG nothing w0 w'∧aSO w' S w0.heap.size r y v
theorem aXB{f:FuncId}{fn:Func}{I:Code}{sp:aF}(hE:dB P E)(Y:P.funcs[f]? = some fn)(hb:fn.body=some I)(J:dQ fn.ntmps I=true)(hn:aGf sp.args≤fn.ntmps)
  (ht:∀(w0:World) (S:Nat→Prop) (x:sp.args.den),sp.args.wf x→sp.pre x→Tri (fr P E S w0 fn.ntmps) I (aRK P fn S w0 sp.res (sp.fn x)) (cC sp.args x 0) []):FOK P E.G f sp:=by
 intro w S U x hS hG N hp;refine calls_of_wp_defers Y hb ?_;refine ht w S x (aCl _ _ _ N) hp J ⟨S,fun _=>Go.undef,0,fun _ _=>False⟩ _ w ⟨⟨rfl,.refl _ _,hS,fun b hb _=>.inl hb,fun i o ho=>by grind,fun i o b ho=>by grind,fun i j oi oj b hi=>by grind,⟨Nat.le_refl _,fun i hi=>absurd hi (Nat.not_lt_zero i)⟩⟩,hG,?_,?_,rfl⟩
 ·refine aIi _ x 0 U.toList _ N rfl fun i v hv=>?_;have hlt:i<U.size:=by
   grind
  simp_all[Nat.zero_add,Array.getElem?_toList,Array.getElem?_append,Array.getElem?_eq_getElem]
 ·have:=aIj _ _ _ N;simp_all
theorem aUR{S:Nat→Prop}(hwr:M.wr=nothing)(hrd:M.rd=S)(hg:Good M w0 c h w){r:RK}{y:r.ty.den}{I:List AV}{xs:List Value}(hl:xs.length=I.length)(hv:∀i (U:i<I.length) (h2:i<xs.length),aG c w I[i] xs[i])(J:mC h r y I):aSO w S w0.heap.size r y (aCD xs):=by
 have hsrc:∀ {c':Ctx} {h':List Obj},Good M w0 c' h' w→ ∀b,c'.S b→S b∨(w0.heap.size≤b∧b<w.heap.size):=fun hg b hb=>by
  rcases Nat.lt_or_ge b w0.heap.size with hlt|hge
  ·have:=hg.src b hb hlt;rw[hwr,hrd] at this;exact .inl (this.resolve_right (fun f=>f))
  ·exact .inr ⟨hge,hg.sfin b hb⟩
 obtain⟨c',hll,hg'⟩:=hg.frzAll;have N:∀i (U:i<I.length) (h2:i<xs.length),aG c' w I[i] xs[i]:=fun i U h2=>hll.val (hv i U h2);cases r with
 | none =>
  match I,xs,hl,J with
  | [],[],_,_=>rfl
 | one t =>
  match I,xs,hl,J,N with
  | [v],[x],_,J,N =>
   have J:AV.as (h.map Vc.frzAll) t v=some y:=J;rw[← aRw] at J;have:=nD hg' (N 0 (by simp) (by simp)) J;exact bR.keep (hsrc hg') (.refl _ _) this
 | own e t =>
  match I,xs,hl,J,hv with
  | [.own i],[x],_,J,hv =>
   have Y:=hv 0 (by simp) (by simp);simp only[List.getElem_cons_zero] at Y;have ho:h[i]? = some (.row e t y):=J;obtain⟨hin,rfl⟩:=sO Y;obtain⟨vals,hown,hrep⟩:=hg.objs i _ ho;refine⟨vals,⟨hown.1,hown.2.imp id ?_⟩,aJ.keep (fun b hb=>?_) (.refl _ _) _ _ _ hrep⟩
   ·rintro⟨g,cap,cur,U,h2,h3⟩;refine⟨g,cap,cur,U,?_,h3⟩;have:=(hg.own i _ g ho (by simp[cM,U,aH])).1;rw[hwr] at this;exact this.resolve_right (fun f=>f)
   ·rcases hsrc hg b hb with U|U
    ·simp_all
    ·exact .inr ⟨U.1,U.2,fun e'=>(hg.own i _ b ho e').2.2 hb⟩
  | [.nilS],[x],_,J,hv =>
   have Y:=hv 0 (by simp) (by simp);simp only[List.getElem_cons_zero] at Y;have J:y= []:=J;subst J;have hsv:x= .slice none 0 0:=by
    obtain⟨U,_,h3⟩:=Y;have h3:=h3 rfl;simp_all[aE,Value.cells]
   subst hsv;exact⟨[],⟨by simp,.inl ⟨rfl,rfl⟩⟩,⟨rfl,[],rfl,rfl,fun i h=>by simp at h⟩⟩
 | tup t =>
  have J:I.length≠1∧sC (h.map Vc.frzAll) t I=some y:=J;obtain⟨hne,J⟩:=J;rw[← aRw] at J;have hargs:=aBl hg' J (xs:=xs) hl N;refine⟨xs,?_,aS4 (hsrc hg') hargs⟩
  match xs,hl▸hne with
  | [],_=>rfl
  | [s],hne=>simp_all
  | s::s'::l,_=>rfl
def m0:Option Pan→Value→FrameMode
 | none,_=>.returning
 | some p,u=>.panicking (aJ4 p.k u)
def m1:Option Pan→Value→FrameMode
 | none,_=>.returning
 | some p,u=>.panicking [{ v:=.iface p.k u,recovered:=true,goexit:=false }]
theorem aTe(m:Option Pan)(u:Value):settle (m1 m u)= .returning:=by cases m<;>rfl
def aY9(P:Program)(g:FuncId)(vs:Array Value)(I u1:FrameMode)(w:World)(R:Ending→World→Prop):Prop:=CallsD P g vs I w fun e J w'=>J=u1∧R e w'
def DOK(P:Program)(G:Nat→AV)(g:FuncId)(I:Option Pan)(sp:iJ):Prop :=
 ∀(c:Ctx) (w:World) (d:sp.D) (vs:Array Value) (u:Value),sp.pre d→GIn G sp c w d vs.toList→(∀p,I=some p→bR w c.S p.t p.x u)→aY9 P g vs (m0 I u) (m1 I u) w (aD4 sp c w d)
theorem aOg{F:Fr}{fn:Func}{S:Nat→Prop}{r:RK}{y:r.ty.den}{env:St}{h:List Obj}{k:Nat}{roots:Nat→Value}{g:FuncId}{l2:List Nat}{I:Option Pan}(hF:oY F)(hM:F.M=⟨nothing,S,k,roots⟩)(hds:F.ds= [⟨.fn (.func g) (l2.map roots).toArray,#[]⟩])(hk:∀i∈l2,i<k)(hbx:xU h l2=true)
  (hfn:∃fn,F.P.funcs[g]? = some fn∧fn.name ≠ "runtime.NumGoroutine" ∧ fn.body.isSome=true) (t:Hit) (hok:DOK F.P F.E.G g I t.sp) (hh:aD5 h (l2.map fun i=>.ptr i []) t) {v:AV} {h':List Obj} (Y:t.sp.out t.d= .ret v h')
  (l:List ResultVar) (hr:fn.results=l.toArray) (hy:(bD F.E.T (wK t.σ t.sp.m h h') env l).1∧mC (wK t.σ t.sp.m h h') r y (bD F.E.T (wK t.σ t.sp.m h h') env l).2) {c:Ctx} {a:Act} {w:World} {u:Value} (N:Sim F.E F.M F.w0 F.nt F.ds c env h a w) (hu:∀p,I=some p→bR w c.S p.t p.x u) :
  Leaves F.P fn a.tmps (fun e w'=>∃v,e= .returned v∧bG nothing F.w0 w'∧aSO w' S F.w0.heap.size r y v) a.defers (m0 I u) w:=by
 have hroot:=N.good.root;rw[hM] at hroot;have U:∀i∈l2,c.hd i=roots i∧i<c.n:=fun i hi=>⟨hroot.2 i (hk i hi),Nat.lt_of_lt_of_le (hk i hi) hroot.1⟩;have hl2:l2.map roots=l2.map c.hd:=List.map_congr_left fun i hi=>(U i hi).1.symm;have hvb:∀i (h1:i<(l2.map fun i=>AV.ptr i []).length) (h2:i<(l2.map roots).toArray.toList.length),aG c w (l2.map fun i=>AV.ptr i [])[i] (l2.map roots).toArray.toList[i]:=fun i h1 h2=>by
  have:=aBs N.good hbx (fun i hi=>(U i hi).2) i h1 (by simp_all);simp_all
 rw[N.defers,hds];refine leaves_cons (f:=g) (args:=(l2.map roots).toArray) ?_ ?_ ?_
 ·cases I<;>simp[m0]
 ·grind[uW,invoke]
 ·have hcall:=aK4 (C:=aY9 F.P g (l2.map roots).toArray (m0 I u) (m1 I u) w) (fun R R' h k=>CallsD.mono h fun e u' w' q=>⟨q.1,k _ _ q.2⟩) (fun hp hin=>hok _ _ _ _ _ hp hin hu) N.good N.glob (vs:=l2.map fun i=>AV.ptr i []) (xs:=(l2.map roots).toArray) (by simp) hvb hh;refine CallsD.mono hcall ?_;rintro e u' w' ⟨rfl,cN,hl,J⟩;rw[Y] at J;obtain⟨uv,rfl,hg,_⟩:=J;show Leaves F.P fn a.tmps _ [] (settle (m1 I u)) w';rw[aTe];obtain⟨us,q1,q2,q3⟩:=aAg (P:=F.P) hF.env.T hg (N.env.keep hl) hr hy.1;refine⟨aCD us,q1,aCD us,rfl,by have:=hg.keeps; simp_all,?_⟩;exact aUR (by rw[hM]) (by rw[hM]) hg q2 (fun i h1 h2=>q3 i h1 h2) hy.2
theorem aRL{F:Fr}{fn:Func}{S:Nat→Prop}{r:RK}{y:r.ty.den}{env:St}{h:List Obj}{k:Nat}{roots:Nat→Value}{g:FuncId}{l2:List Nat}(hF:oY F)(hM:F.M=⟨nothing,S,k,roots⟩)(Y:F.ds= [⟨.fn (.func g) (l2.map roots).toArray,#[]⟩])(hk:∀i∈l2,i<k)(N:xU h l2=true)
  (U:∃fn,F.P.funcs[g]? = some fn∧fn.name ≠ "runtime.NumGoroutine" ∧ fn.body.isSome=true) (t:Hit) (J:DOK F.P F.E.G g none t.sp) {v:AV} {h':List Obj} (I:t.sp.out t.d= .ret v h')
  (l:List ResultVar) (hr:fn.results=l.toArray) (hh:aD5 h (l2.map fun i=>.ptr i []) t) (hy:(bD F.E.T (wK t.σ t.sp.m h h') env l).1∧mC (wK t.σ t.sp.m h h') r y (bD F.E.T (wK t.σ t.sp.m h h') env l).2) :
  At F (aRK F.P fn S F.w0 r y .ret) env h:=fun c a w hs =>
 aOg (u:=Go.undef) hF hM Y hk N U t J hh I l hr hy hs (fun p hp=>by cases hp)
theorem aRM{F:Fr}{fn:Func}{S:Nat→Prop}{r:RK}{y:r.ty.den}{env:St}{h:List Obj}{k:Nat}{roots:Nat→Value}{g:FuncId}{l2:List Nat}{p:Pan}(hF:oY F)(hM:F.M=⟨nothing,S,k,roots⟩)(Y:F.ds= [⟨.fn (.func g) (l2.map roots).toArray,#[]⟩])(hk:∀i∈l2,i<k)(N:xU h l2=true)
  (U:∃fn,F.P.funcs[g]? = some fn∧fn.name ≠ "runtime.NumGoroutine" ∧ fn.body.isSome=true) (t:Hit) (J:DOK F.P F.E.G g (some p) t.sp) {v:AV} {h':List Obj} (I:t.sp.out t.d= .ret v h')
  (l:List ResultVar) (hr:fn.results=l.toArray) (hh:aD5 h (l2.map fun i=>.ptr i []) t) (hy:(bD F.E.T (wK t.σ t.sp.m h h') env l).1∧mC (wK t.σ t.sp.m h h') r y (bD F.E.T (wK t.σ t.sp.m h h') env l).2) :
  AtP F (aRK F.P fn S F.w0 r y) p env h:=fun c a w u hs hu =>
 aOg hF hM Y hk N U t J hh I l hr hy hs (fun q hq=>by grind)
theorem aCF{F:Fr}{Q:Exit→Act→World→Prop}{env:St}{h:List Obj}{id:Nat}{ops:Array Oper}{y:Code}{g:FuncId}{t:Nat}{I:Array Operand}{ty1 ty2:TypeId}{N Y:String}{U aft2:Array Edge}(k:Nat)(l2:List Nat)
  (hops:ops= #[⟨some t,.makeFunc (.func g) #[] I,ty1,N,U,none⟩,⟨none,.defer ⟨.value (.tmp t),#[],#[]⟩,ty2,Y,aft2,none⟩])
  (htags:allTags h (I.toList.map (evA F.E.G env))=some l2) (hm:F.M.m≤k) (hk:k≤h.length)
  (hy:∀roots:Nat→Value,(∀i,i<F.M.m→roots i=F.M.roots i)→Tri { F with M:=⟨F.M.wr,F.M.rd,k,roots⟩,ds:=⟨.fn (.func g) (l2.map roots).toArray,#[]⟩::F.ds } y Q ((t,.junk)::env) h):Tri F (.seq (.region id ops false) y) Q env h:=fun hok c a w J=>by
 simp only[dQ,Bool.and_eq_true] at hok;obtain⟨⟨⟨hok1,_⟩,_⟩,hok2⟩:=hok;subst hops;have hall:=List.all_eq_true.1 hok1;have hk1:=hall ⟨some t,.makeFunc (.func g) #[] I,ty1,N,U,none⟩ (by simp);simp only[dL,Bool.and_eq_true] at hk1;have hops1:∀x∈(Op.makeFunc (.func g) #[] I).operands,iL x=true:=Array.all_eq_true_iff_forall_mem.1 hk1.1;have htn:t<a.tmps.size:=by
  have:=hk1.2;rw[J.size];simp_all
 obtain⟨hlt,hcv⟩:=aDV J.good htags (vs:=I.toList.map a.eval) (by simp) (fun i h1 h2=>by
  simp only[List.getElem_map];exact wE J.env J.glob (hops1 _ (by simp[Op.operands])))
 have hcv':I.map a.eval=(l2.map c.hd).toArray:=by grind
 refine wp_seq (wp_region ?_);have hy':=hy c.hd (fun i hi=>J.good.root.2 i hi);have hgood:Good ⟨F.M.wr,F.M.rd,k,c.hd⟩ F.w0 c h w:=⟨J.good.n,J.good.keeps,J.good.sfin,J.good.src,J.good.objs,J.good.own,J.good.sep,by rw[J.good.n]; exact hk,fun _ _=>rfl⟩;have hfin:=hy' hok2 c { (a.put (some t) (.func (.func g) #[] (l2.map c.hd).toArray)) with defers:=⟨.fn (.func g) (l2.map c.hd).toArray,#[]⟩::a.defers } w ⟨hgood,J.glob,by
  have:=J.env.put (d:=t) (v:=.junk) (x:=.func (.func g) #[] (l2.map c.hd).toArray) htn trivial;omega,by simpa [Act.put] using J.size,by simp[J.defers]⟩
 have run1:(execOp a.eval ⟨some t,.makeFunc (.func g) #[] I,ty1,N,U,none⟩).run F.P w= .ok (.value (.func (.func g) #[] (l2.map c.hd).toArray)) w:=by
  simp[execOp,Instr.makeFunc,hcv']
 have hget:(a.put (some t) (.func (.func g) #[] (l2.map c.hd).toArray)).eval (.tmp t)= .func (.func g) #[] (l2.map c.hd).toArray:=by
  simp[Act.eval,Act.put,htn]
 have run2:(execOp (a.put (some t) (.func (.func g) #[] (l2.map c.hd).toArray)).eval ⟨none,.defer ⟨.value (.tmp t),#[],#[]⟩,ty2,Y,aft2,none⟩).run F.P w= .ok (.defer ⟨.fn (.func g) (l2.map c.hd).toArray,#[]⟩) w:=by
  simp[execOp,resolve,Deferred.ofValue,hget]
 show wpOps F.P _ _ [0,1] a w;have w1:∀(o:Oper) (y:Nat→Option Bool),o.guard=none→Region.wanted o y=true:=fun o y h=>by simp[Region.wanted,h]
 unfold wpOps;simp only[List.getElem?_toArray,List.getElem?_cons_zero];rw[if_pos (w1 _ _ rfl)];refine .inl ?_;unfold Oper.wp;rw[run1,Oper.upon_value];unfold wpOps;simp only[List.getElem?_toArray,List.getElem?_cons_succ,List.getElem?_cons_zero];rw[if_pos (w1 _ _ rfl)];refine .inl ?_;unfold Oper.wp;rw[run2,Oper.upon_defer];exact hfin
theorem aAh{ops:Array Oper}{cs:List Frame}{Q:Exit→Act→List Frame→World→Prop}(J:¬LetsOut fun e a w=>Q e a cs w):∀(l:List Nat) (a:Act) (w:World),wpOps P ops (fun e a w=>Q e a cs w) l a w→wpOpsS P ops Q l a cs w
 | [],a,w,I=>I
 | i::rest,a,w,I=>by
  unfold wpOps at I;unfold wpOpsS;cases U:ops[i]? with
  | none=>simp only[U] at I ⊢; exact aAh J rest a w I
  | some o =>
   simp only[U] at I ⊢;split
   ·rename_i N;simp only[N,if_true] at I;have I:=Oper.wp_mono (fun a w=>aAh J rest a w) (I.resolve_right fun q=>J q.2);unfold Oper.wp at I;revert I;generalize (execOp a.eval o).run P w=r;intro I;split
    ·exact I.elim
    omega
   ·rename_i N;simp only[N,if_false] at I;exact aAh J rest _ w I
def aUS:Option Pan→AV
 | none=>.val .nili ()
 | some p=>.val (.ifc p.k p.t) p.x
theorem aLY{g:FuncId}{fn:Func}{rest:Code}{id:Nat}{ops:Array Oper}{sp:iJ}{mode:Option Pan}{t5:Nat}{ty:TypeId}{pos:String}{aft:Array Edge}(hE:dB P E)(hf:P.funcs[g]? = some fn)(hb:fn.body=some (.seq (.region id ops false) rest))(hok:dQ fn.ntmps (.seq (.region id ops false) rest)=true)(hn:∀d,(sp.av d).length≤fn.ntmps)
  (h0:ops[0]? = some ⟨some t5,.call ⟨.builtin .recover,#[],#[]⟩,ty,pos,aft,none⟩)
  (ht:∀(c:Ctx) (w:World) (d:sp.D),AV.wfL (sp.av d)→Obj.wfL (sp.hp d)→sp.pre d→c.n=(sp.hp d).length →
   mF E ops.toList (ops.toList.drop 1) ((t5,aUS mode)::aBx (sp.av d) 0) (sp.hp d) (fun env h=>Tri ⟨P,E,GM sp c d,w,fn.ntmps,[]⟩ rest (bodyPost P fn (aD4 sp c w d)) env h)):DOK P E.G g mode sp:=by
 intro c w d U u hp J hu;refine callsD_of_wpS hf hb fun I cs N=>?_;have Y:=hok;simp only[dQ,Bool.and_eq_true] at Y;obtain⟨⟨⟨hok1,_⟩,_⟩,hok2⟩:=Y;refine wpS_seq (wpS_region ?_);have hsz:0<ops.size:=by
  grind
 obtain⟨n,hn'⟩:∃n,ops.size=n+1:=⟨ops.size-1,by omega⟩;have hrange:List.range ops.size=0::List.range' 1 n:=by rw[hn',List.range_eq_range',List.range'_succ]
 rw[hrange];unfold wpOpsS;have w1:∀(o:Oper) (y:Nat→Option Bool),o.guard=none→Region.wanted o y=true:=fun o y h=>by simp[Region.wanted,h]
 simp only[h0];rw[if_pos (w1 _ _ rfl)];have hrun:∀ρ,(execOp ρ ⟨some t5,.call ⟨.builtin .recover,#[],#[]⟩,ty,pos,aft,none⟩).run P w= .ok .recover w:=fun ρ=>by
  rfl
 rw[hrun];have key:∀v,aG c w (aUS mode) v→wpOpsS P ops (Exit.thenS (rest.wpS P (bodyPostS P fn I cs fun e u' w'=>u'=m1 mode u∧aD4 sp c w d e w')) (bodyPostS P fn I cs fun e u' w'=>u'=m1 mode u∧aD4 sp c w d e w')) (List.range' 1 n) (({ tmps:=U++Array.replicate (fn.ntmps-U.size) undef,defers:=[] }:Act).put (some t5) v) ({ I with mode:=m1 mode u }::cs) w:=fun v hv=>by
  refine aAh ?_ _ _ _ ?_
  ·rintro⟨a',w',u',_,e⟩;obtain⟨c',e⟩:=e;grind
  ·have hsim:Sim E (GM sp c d) w fn.ntmps [] c ((t5,aUS mode)::aBx (sp.av d) 0) (sp.hp d) (({ tmps:=U++Array.replicate (fn.ntmps-U.size) undef,defers:=[] }:Act).put (some t5) v) w:=by
    have hlen:=J.len;have hnn:=hn d;simp at hlen;have hsz2:(U++Array.replicate (fn.ntmps-U.size) undef).size=fn.ntmps:=(by grind);have ht5:t5<fn.ntmps:=by
     have h0':ops.toList[0]? = some ⟨some t5,.call ⟨.builtin .recover,#[],#[]⟩,ty,pos,aft,none⟩:=(by simp_all);have:=List.all_eq_true.1 hok1 _ (List.mem_of_getElem? h0');simp_all[dL,Bool.and_eq_true]
    refine⟨J.good,J.glob,?_,by grind[Act.put],rfl⟩;refine aA4.put (a:={ tmps:=U++Array.replicate (fn.ntmps-U.size) undef,defers:=[] }) ?_ (by simp_all) hv;refine aLV _ U.toList 0 J.len J.val fun i v hv=>?_;have hlt:i<U.size:=by
     grind
    simp_all[Nat.zero_add,Array.getElem?_toList,Array.getElem?_append,Array.getElem?_eq_getElem]
   have:=aD2 (P:=P) (ops:=ops.toList) (Q:=fun e a w'=>Exit.thenS (rest.wpS P (bodyPostS P fn I cs fun e u' w'=>u'=m1 mode u∧aD4 sp c w d e w')) (bodyPostS P fn I cs fun e u' w'=>u'=m1 mode u∧aD4 sp c w d e w') e a ({ I with mode:=m1 mode u }::cs) w') hE (List.all_eq_true.1 hok1) (fun env h c' a w' hk hs=>by
    refine wpS_of_wp (wp_mono (hk hok2 c' a w' hs) fun e a w' hq=>?_);cases e with
    | normal=>obtain⟨q1,v,q2,q3⟩:=hq; exact⟨q1,_,rfl,v,q2,rfl,q3⟩
    | ret=>obtain⟨q1,v,q2,q3⟩:=hq; exact⟨q1,_,rfl,v,q2,rfl,q3⟩
    | panic ch=>obtain⟨q1,q3⟩:=hq; exact⟨q1,_,rfl,rfl,q3⟩
    | outgrown=>exact⟨_,rfl,hq⟩
    | exit id=>exact hq.elim
    | goto l=>exact hq.elim) n 1 (by grind) _ _ c _ w (ht c w d (aLW J.len J.val) (aRG J.good) hp J.good.n) hsim
   omega
 cases mode with
 | none =>
  have e:I.mode= .returning:=N;have e2:({ I with mode:=.returning }:Frame)=I:=by rw[← e]
  have:=key .nilIface (aG.ofV (by rfl));grind[m1,recoverD]
 | some p =>
  have e:I.mode= .panicking (aJ4 p.k u):=N;have:=key (.iface p.k u) (aG.ofV (by
   unfold bR;rw[if_neg (by simp[Ty.isAgg])];have hr:=hu p rfl;unfold bR at hr;split at hr
   ·rename_i ha;obtain⟨ds,e1,e2⟩:=hr;exact⟨u,ds.toList,rfl,fun _=>by omega,(fun h=>by simp_all),e2⟩
   ·rename_i ha;exact⟨u,[u],rfl,fun h=>absurd h ha,fun _=>rfl,hr⟩))
  grind[m1,recoverD,aJ4]
end
end Go.Vc
namespace Go.Vc
open Go.RowKit
def ck{α:Type}(p:Prop)[Decidable p](k:Option α):Option α:=if p then k else none
theorem bV{α:Type}{p:Prop}[Decidable p]{k:Option α}{r:α}(h:ck p k=some r):p∧k=some r:=by
 grind[ck]
theorem aUT{α:Type}{p:Prop}[Decidable p]{k:Option α}(hp:p):ck p k=k:=if_pos hp
theorem pK{α:Type}{p:Prop}[Decidable p]{x y:α}{r:α}(hp:p)(h:(if p then x else y)=r):x=r:=by simp_all
theorem pL{α:Type}{p:Prop}[Decidable p]{x y:α}{r:α}(hp:¬p)(h:(if p then x else y)=r):y=r:=by simp_all
abbrev I64(x:Int):Prop:= -9223372036854775808≤x∧x≤9223372036854775807
abbrev I32(x:Int):Prop:= -2147483648≤x∧x≤2147483647
section
variable {D E R:Type} {step:D→Option (D⊕E)}
def iter(step:D→Option (D⊕E)):Nat→D→Option E
 | 0,_=>none
 | n+1,d=>match step d with
  | none=>none
  | some (.inl I)=>iter step n I
  | some (.inr e)=>some e
theorem aFh:∀ {n:Nat} {d:D} {e:E},iter step n d=some e→iter step (n+1) d=some e
 | 0,d,e,h=>by cases h
 | n+1,d,e,h=>by
  unfold iter at h ⊢;cases I:step d with
  | none=>simp_all
  | some s =>
   rw[I] at h;cases s with
   | inl N=>exact aFh (n:=n) h
   | inr J=>exact h
theorem aRN{n m:Nat}(J:n≤m){d:D}{e:E}(h:iter step n d=some e):iter step m d=some e:=by
 induction J with
 | refl=>exact h
 | step _ I=>exact aFh I
theorem aK5{n m:Nat}{d:D}{e I:E}(h:iter step n d=some e)(h':iter step m d=some I):e=I:=by
 have J:=aRN (Nat.le_max_left n m) h;grind[aRN,Nat.le_max_right,Option.some.inj]
open Classical in
noncomputable def aK6(step:D→Option (D⊕E))(d:D):Option E:=if h:∃e,∃n,iter step n d=some e then some (Classical.choose h) else none
theorem aFi{d:D}{e:E}:aK6 step d=some e↔ ∃n,iter step n d=some e:=by
 unfold aK6;constructor
 ·intro h;split at h
  all_goals grind
 ·rintro⟨n,h⟩;have I:∃e,∃n,iter step n d=some e:=⟨e,n,h⟩;rw[dif_pos I];grind[Classical.choose_spec,aK5]
theorem aDm{n:Nat}{d:D}{e:E}(h:iter step n d=some e):aK6 step d=some e:=aFi.2 ⟨n,h⟩
theorem aD6{p:Nat→Prop}(h:∃n,p n):∃n,p n∧ ∀m,p m→n≤m:=by
 classical
 obtain⟨n,J⟩:=h
 induction n using Nat.strongRecOn with
 | _ n I =>
  grind
open Classical in
noncomputable def aAi(step:D→Option (D⊕E))(d:D):Nat:=if h:∃n,(iter step n d).isSome=true then Classical.choose (aD6 h) else 0
theorem aRO{d:D}{e:E}(h:aK6 step d=some e):iter step (aAi step d) d=some e∧ ∀m I,iter step m d=some I→aAi step d≤m:=by
 obtain⟨n,Y⟩:=aFi.1 h;have N:∃n,(iter step n d).isSome=true:=⟨n,by grind⟩;have J:=Classical.choose_spec (aD6 N);have U:aAi step d=Classical.choose (aD6 N):=by unfold aAi; simp_all
 rw[← U] at J;refine⟨?_,fun m I hm=>J.2 m (by grind)⟩;cases hi:iter step (aAi step d) d with
 | none=>simp_all
 | some I=>rw[aK5 hi Y]
abbrev Md:=Option Nat
noncomputable def dC(F:Md)(step:D→Option (D⊕E))(d:D):Option E:=match F with
 | none=>aK6 step d
 | some n=>iter step n d
noncomputable abbrev aCG(step:D→Option (D⊕E))(d:D):Option E:=dC none step d
theorem aTf{d:D}{e:E}:aCG step d=some e↔ ∃n,iter step n d=some e:=aFi
theorem aAj{n:Nat}{d:D}{e:E}(h:iter step n d=some e):aCG step d=some e:=aDm h
theorem aXC{F:Md}{d:D}{e:E}(h:dC F step d=some e):aK6 step d=some e:=by
 cases F with
 | none=>exact h
 | some n=>exact aDm h
def aD7(A:D→Prop)(B:E→Prop):D⊕E→Prop
 | .inl d=>A d
 | .inr e=>B e
theorem aIA{k:E→Option R}{r:R}{F:Md}{d:D}(hd:(dC F step d).bind k=some r):∃s,step d=some s∧aD7 (fun I=>(dC F step I).bind k=some r∧aAi step I<aAi step d) (fun e=>k e=some r) s:=by
 cases U:dC F step d with
 | none=>simp_all
 | some e =>
  rw[U] at hd;have hk:k e=some r:=hd;obtain⟨hi,Y⟩:=aRO (aXC U);cases hn:aAi step d with
  | zero=>rw[hn] at hi; cases hi
  | succ n =>
   rw[hn,iter] at hi;split at hi
   ·cases hi
   ·rename_i I J;have hz:=aDm hi;have hl':dC F step I=some e:=by
     cases F with
     | none=>exact hz
     | some m =>
      have N:iter step m d=some e:=U;cases m with
      | zero=>cases N
      | succ m =>
       rw[iter,J] at N;exact aFh N
    refine⟨_,J,?_⟩;refine⟨by simp_all,?_⟩;grind[aRO,aAi,step]
   ·rename_i e' J;refine⟨_,J,?_⟩;rw[Option.some.inj hi]; exact hk
theorem oA{I:D→Prop}(N:D→Nat)(f:D→E)(h:∀d,I d→(∃d',step d=some (.inl d')∧I d'∧N d'<N d∧f d'=f d)∨step d=some (.inr (f d))):∀d,I d→aCG step d=some (f d):=by
 have J:∀n d,N d≤n→I d→ ∃m,iter step m d=some (f d):=by
  intro n
  induction n with
  | zero =>
   intro d hn hi;rcases h d hi with⟨d',_,_,Y,_⟩|U
   ·omega
   ·exact⟨1,by rw[iter,U]⟩
  | succ n ih =>
   intro d hn hi;rcases h d hi with⟨d',U,hi',Y,hf⟩|U
   ·obtain⟨m,hm⟩:=ih d' (by omega) hi';exact⟨m+1,by grind[iter]⟩
   ·exact⟨1,by rw[iter,U]⟩
 intro d hi;obtain⟨m,hm⟩:=J (N d) d (Nat.le_refl _) hi;exact aAj hm
theorem eQ{I:D→Prop}(N:D→Nat)(Q:E→Prop)(h:∀d,I d→(∃d',step d=some (.inl d')∧I d'∧N d'<N d)∨ ∃e,step d=some (.inr e)∧Q e):∀d,I d→ ∃e,aCG step d=some e∧Q e:=by
 have J:∀n d,N d≤n→I d→ ∃m e,iter step m d=some e∧Q e:=by
  intro n
  induction n with
  | zero =>
   intro d hn hi;rcases h d hi with⟨d',_,_,Y⟩|⟨e,U,hq⟩
   ·omega
   ·exact⟨1,e,by rw[iter,U],hq⟩
  | succ n ih =>
   intro d hn hi;rcases h d hi with⟨d',U,hi',Y⟩|⟨e,U,hq⟩
   ·obtain⟨m,e,hm,hq⟩:=ih d' (by omega) hi';exact⟨m+1,e,by grind[iter],hq⟩
   ·exact⟨1,e,by rw[iter,U],hq⟩
 intro d hi;obtain⟨m,e,hm,hq⟩:=J (N d) d (Nat.le_refl _) hi;grind[aAj]
end
noncomputable def kV(F:Md)(k:IntKind)(a b:Nat):Nat:=match F with
 | none=>aA5 k a b
 | some _=>(a+(eM k-b))%eM k
noncomputable def mulM(F:Md)(k:IntKind)(a b:Nat):Nat:=match F with
 | none=>zN k a b
 | some _=>(a*b)%eM k
noncomputable def aGT(F:Md)(k:IntKind)(a:Nat):Nat:=match F with
 | none=>aNA k a
 | some _=>(0+(eM k-a))%eM k
theorem aRP{F:Md}{k:IntKind}{a b:Nat}:kV F k a b=aA5 k a b:=by
 cases F with
 | none=>rfl
 | some _=>exact(aB7 k a b).symm
theorem aXD{F:Md}{k:IntKind}{a b:Nat}:mulM F k a b=zN k a b:=by
 cases F with
 | none=>rfl
 | some _=>exact(aLw k a b).symm
theorem aXE{F:Md}{k:IntKind}{a:Nat}:aGT F k a=aNA k a:=by
 cases F with
 | none=>rfl
 | some _=>exact(aLx k a).symm
theorem bA(F:Md){k:IntKind}{a b:Nat}:aA5 k a b=kV F k a b:=aRP.symm
theorem bB(F:Md){k:IntKind}{a b:Nat}:zN k a b=mulM F k a b:=aXD.symm
theorem bC(F:Md){k:IntKind}{a:Nat}:aNA k a=aGT F k a:=aXE.symm
def mL(h:List Obj):List (Nat⊕Obj)→List Obj
 | []=>[]
 | .inl i::r=>h.getD i .dead::mL h r
 | .inr o::r=>o::mL h r
section
variable {F:Fr} {Q:Exit→Act→World→Prop} {env:St} {h:List Obj}
theorem vW{x y:Code}{D:Type}(J:D→Prop)(keep:List Nat)(N:D→St)(I:D→List (Nat⊕Obj))
  (hx:Tri F x (Exit.then (fun Y w'=>∃d' c',J d'∧Sim F.E F.M F.w0 F.nt F.ds c' (aDj env keep (N d')) (mL h (I d')) Y w') Q) env h)
  (U:∀d,J d→Tri F y Q (aDj env keep (N d)) (mL h (I d))):Tri F (.seq x y) Q env h :=
 aNW J (fun d=>aDj env keep (N d)) (fun d=>mL h (I d)) hx U
theorem aFj{x:Code}{D E R:Type}{G:Md}{step:D→Option (D⊕E)}{k:E→Option R}{r:R}{d0:D}(keep:List Nat)(J:D→St)(I:D→List (Nat⊕Obj))
  (hd:(dC G step d0).bind k=some r) (Y:h=mL h (I d0)) (N:nZ h env (aDj env keep (J d0)))
  (round:∀d s,step d=some s→aD7 (fun d'=>(dC G step d').bind k=some r∧aAi step d'<aAi step d) (fun e=>k e=some r) s→Tri F x (Exit.then (fun U w'=>∃d' c',((dC G step d').bind k=some r∧aAi step d'<aAi step d)∧Sim F.E F.M F.w0 F.nt F.ds c' (aDj env keep (J d')) (mL h (I d')) U w') Q) (aDj env keep (J d)) (mL h (I d))):Tri F (.loop x) Q env h :=
 aNV (fun d=>(dC G step d).bind k=some r) (aAi step) (fun d=>aDj env keep (J d)) (fun d=>mL h (I d)) (aR d0 hd Y N) fun d hi=>by
  obtain⟨s,h1,h2⟩:=aIA hi;grind
end
theorem aTg{F:Fr}{Q:Exit→Act→World→Prop}{env:St}{h:List Obj}{id:Nat}{ops:Array Oper}{U N t4:Nat}{tt ty0 ty1 ty2:TypeId}{pos1 Y:String}{aft1 aft2:Array Edge}{ct:Ty}{xs:List ct.den}(hF:oY F)
  (hops:ops= #[⟨some N,.move (.tmp U),ty1,pos1,aft1,none⟩,⟨some t4,.binOp .eql tt (.tmp N) (.const (.slice none 0 0)) ty0,ty2,Y,aft2,none⟩])
  (hT:F.E.T tt=some (.sl ct)) (hv:look env U= .val (.sl ct) xs)
  (hq:∀b:Bool,(b=true→xs= [])→At F (Q .normal) ((t4,.val .bool b)::(N,.val (.sl ct) xs)::env) h):Tri F (.region id ops false) Q env h:=fun hok c a w hs=>by
 simp only[dQ,Bool.and_eq_true] at hok;obtain⟨⟨hok1,_⟩,_⟩:=hok;subst hops;have hall:=List.all_eq_true.1 hok1;have hk1:=hall ⟨some N,.move (.tmp U),ty1,pos1,aft1,none⟩ (by simp);have hk2:=hall ⟨some t4,.binOp .eql tt (.tmp N) (.const (.slice none 0 0)) ty0,ty2,Y,aft2,none⟩ (by simp);have h0:=hs.env U;rw[hv] at h0;obtain⟨⟨J,len,I,e1,e2⟩,_,e3⟩:=h0;have hval:a.tmps.getD U Go.undef= .slice J len I:=by
  have e3:=e3 rfl;simp_all[undef,Value.cells]
 have h0:=hs.env U;rw[hv] at h0;have s1:=hs.after hk1 (v:=a.tmps.getD U Go.undef) (av:=.val (.sl ct) xs) ⟨.refl _ _,hs.good,h0⟩;have ht3:N<a.tmps.size:=by
  simp only[dL,Bool.and_eq_true] at hk1;rw[hs.size]; simp_all
 have s2:=s1.after hk2 (v:=.bool J.isNone) (av:=.val .bool J.isNone) ⟨.refl _ _,s1.good,wA _⟩;refine wp_region ?_;have run1:(execOp a.eval ⟨some N,.move (.tmp U),ty1,pos1,aft1,none⟩).run F.P w= .ok (.value (a.tmps.getD U Go.undef)) w:=by
  rfl
 have hget:(a.put (some N) (a.tmps.getD U Go.undef)).eval (.tmp N)= .slice J len I:=by
  simp_all[Act.eval,Act.put]
 obtain⟨_,hd,_⟩:=cO (hF.env.T _ _ hT);have run2:(execOp (a.put (some N) (a.tmps.getD U Go.undef)).eval ⟨some t4,.binOp .eql tt (.tmp N) (.const (.slice none 0 0)) ty0,ty2,Y,aft2,none⟩).run F.P w= .ok (.value (.bool J.isNone)) w:=by
  have hc:(a.put (some N) (a.tmps.getD U Go.undef)).eval (.const (.slice none 0 0))= .slice none 0 0:=rfl;have hq:∀d,(Op.equalIn (d+1) tt (.slice J len I) (.slice none 0 0)).run F.P w= .ok J.isNone w:=fun d=>by
   unfold Op.equalIn;rw[Sem.run_bind,aI hd];cases J<;>rfl
  have hb:(binOp .eql tt (.slice J len I) (.slice none 0 0)).run F.P w= .ok (.bool J.isNone) w:=by
   have e:binOp .eql tt (.slice J len I) (.slice none 0 0)=(do pure (.bool (← Op.equal tt (.slice J len I) (.slice none 0 0)))):=(by rfl);rw[e,Sem.run_bind,Op.equal,show Op.maxDepth=(Op.maxDepth-1)+1 from rfl,hq];rfl
  simp_all[eqGuard,undef,execOp]
 have w1:∀(o:Oper) (y:Nat→Option Bool),o.guard=none→Region.wanted o y=true:=fun o y h=>by simp[Region.wanted,h]
 show wpOps F.P _ _ [0,1] a w;unfold wpOps;simp only[List.getElem?_toArray,List.getElem?_cons_zero];rw[if_pos (w1 _ _ rfl)];refine .inl ?_;unfold Oper.wp;rw[run1,Oper.upon_value];unfold wpOps;simp only[List.getElem?_toArray,List.getElem?_cons_succ,List.getElem?_cons_zero];rw[if_pos (w1 _ _ rfl)];refine .inl ?_;unfold Oper.wp;rw[run2,Oper.upon_value];refine hq J.isNone (fun hn=>?_) c _ w s2;obtain⟨_,_,_,e4⟩:=e2;simp_all
theorem mE{F:Fr}{fn:Func}{S:Nat→Prop}{r:RK}{y:r.ty.den}{env:St}{h:List Obj}(hF:oY F)(l:List ResultVar)(Y:F.M=top S)(J:F.ds= [])(hr:fn.results=l.toArray)(U:(bD F.E.T h env l).1∧mC h r y (bD F.E.T h env l).2):At F (post F.P fn S F.w0 r y .ret) env h:=fun c a w I=>by
 obtain⟨N,q1,q2,q3⟩:=aAg (P:=F.P) hF.env.T I.good I.env hr U.1;refine⟨I.defers.trans J,aCD N,q1,aCD N,rfl,by have:=I.good.keeps; simp_all,?_⟩;exact aUR (by rw[Y]) (by rw[Y]) I.good q2 (fun i h1 h2=>q3 i h1 h2) U.2
def aIB(i:Nat)(t:Ty)(x:t.den):AV→AV
 | .ptr j []=>if j=i then .roa t x else .ptr j []
 | .ptr j p=>if j=i then .junk else .ptr j p
 | .agg _=>.junk
 | .tup _=>.junk
 | .fn f I J=>if I.contains i||J.contains i then .junk else .fn f I J
 | v=>v
theorem Good.shut{M:Perm}{w0:World}{c:Ctx}{h:List Obj}{w:World}(N:Good M w0 c h w){i n:Nat}{t:Ty}{x:t.den}(ho:h[i]? = some (.box n (.val t x))) :
  ∃c',bW c w c' w∧c'.n=c.n∧Good M w0 c' (h.set i .dead) w∧ ∀v,aG c w (.ptr i []) v→aG c' w (.roa t x) v:=by
 have hob:=N.objs i _ ho;have hle:c.le (c.more (aH (c.hd i))):=⟨fun b hb=>.inl hb,Nat.le_refl _,fun _ _=>rfl⟩;have hl:bW c w (c.more (aH (c.hd i))) w:=⟨hle,.refl _ _⟩;have hil:i<h.length:=qJ ho;have hcase:∀j I,(h.set i .dead)[j]? = some I→(j≠i∧h[j]? = some I)∨(j=i∧I= .dead):=fun j I J=>by
  grind
 refine⟨_,hl,rfl,⟨by simp[Ctx.more,N.n],N.keeps,fun b hb=>?_,fun b hb hlt=>?_,fun j I J=>?_,fun j I b J hb=>?_,fun j k I ok b J hk hbj hbk=>?_,sN N.root hle⟩,fun v hv=>?_⟩
 ·rcases hb with hb|hb
  ·exact N.sfin b hb
  ·exact(N.own i _ b ho hb).2.1
 ·rcases hb with hb|hb
  ·exact N.src b hb hlt
  ·rcases (N.own i _ b ho hb).1 with Y|Y
   all_goals grind
 ·rcases hcase j I J with⟨hne,J⟩|⟨rfl,rfl⟩
  ·exact(N.objs j I J).keep hl (by rw[N.n]; grind) rfl (fun _ _=>rfl)
  ·trivial
 ·rcases hcase j I J with⟨hne,J⟩|⟨rfl,rfl⟩
  ·obtain⟨Y,h2,h3⟩:=N.own j I b J (by cases I<;>exact hb);refine⟨Y,h2,fun hS=>?_⟩;rcases hS with hS|hS
   ·grind
   ·exact hne (N.sep j i I _ b J ho (by cases I<;>exact hb) hS)
  ·cases hb
 ·rcases hcase j I J with⟨hnj,J⟩|⟨rfl,rfl⟩
  ·rcases hcase k ok hk with⟨hnk,hk⟩|⟨rfl,rfl⟩
   ·exact N.sep j k I ok b J hk (by cases I<;>exact hbj) (by cases ok<;>exact hbk)
   ·cases hbk
  ·cases hbj
 ·obtain⟨b,cells,e,Y,h2,h3,h4⟩:=hob;obtain⟨⟨_,b',U,e1⟩,_,e3⟩:=hv;have e3:=e3 rfl;rw[Y] at U;simp only[aH,Option.some.injEq] at U;subst U;have ev:v= .pointer (some ⟨b,0,none⟩):=by
   simp_all[Value.cells,gD]
  rw[ev];have h4:aJ w c.S t x cells.toList:=h4;refine zU (ds:=cells.toList) (.inr (by rw[Y]; rfl)) (aJ.keep (fun b hb=>.inl hb) (.refl _ _) _ _ _ h4) fun j u J=>?_;simp_all[Nat.zero_add,World.cell?]
theorem aXF{F:Fr}{K:Act→World→Prop}{env:St}{h:List Obj}(i:Nat){n:Nat}{t:Ty}{x:t.den}(Y:h[i]? = some (.box n (.val t x)))(U:At F K (env.map fun p=>(p.1,aIB i t x p.2)) (h.set i .dead)):At F K env h:=fun c a w N=>by
 obtain⟨c',I,hn,hg,hv⟩:=N.good.shut Y;refine U c' a w ⟨hg,N.glob.mono I.le.S I.same,fun s=>?_,N.size,N.defers⟩;rw[aBw (aIB i t x) rfl];have J:=N.env s;generalize look env s=v at J;generalize a.tmps.getD s Go.undef=u at J;cases v with
 | ptr j p =>
  cases p with
  | nil =>
   simp only[aIB];split
   ·simp_all
   ·exact I.val J
  | cons _ _ =>
   simp only[aIB];split
   ·trivial
   ·exact I.val J
 | fn f l1 l2 =>
  simp only[aIB];split
  ·trivial
  ·exact I.val J
 | agg vs=>trivial
 | tup vs=>trivial
 | _=>exact I.val J
theorem tT{F:Fr}{x:Code}{Q:Exit→Act→World→Prop}{env:St}{h:List Obj}(i:Nat){n:Nat}{t:Ty}{y:t.den}(N:h[i]? = some (.box n (.val t y)))(J:Tri F x Q (env.map fun p=>(p.1,aIB i t y p.2)) (h.set i .dead)):Tri F x Q env h:=fun I=>aXF i N (J I)
def mSpec(a:Ty)(r:RK)(m:a.den→Option r.ty.den):aF:=⟨a,r,fun x=>(m x).isSome=true,fun x=>(m x).getD r.ty.zero⟩
section
variable {P:Program} {E:Env}
theorem yP{f:FuncId}{fn:Func}{I:Code}{a:Ty}{r:RK}{m:a.den→Option r.ty.den}(U:dB P E)(N:P.funcs[f]? = some fn)(hb:fn.body=some I)(J:dQ fn.ntmps I=true)(Y:aGf a≤fn.ntmps)
  (ht:∀(w0:World) (S:Nat→Prop) (x:a.den) (y:r.ty.den),a.wf x→m x=some y→Tri (fr P E S w0 fn.ntmps) I (post P fn S w0 r y) (cC a x 0) []):FOK P E.G f (mSpec a r m) :=
 aUx U N hb J Y fun w0 S x hw hp=>by
  grind[Option.isSome_iff_exists,mSpec]
theorem dN{G:Nat→AV}{f:FuncId}{a:Ty}{r:RK}{m:a.den→Option r.ty.den}{pre:a.den→Prop}{fn:a.den→r.ty.den}(h:FOK P G f (mSpec a r m))(hc:∀x,a.wf x→pre x→m x=some (fn x)):FOK P G f ⟨a,r,pre,fn⟩:=fun w S J x N U I hp=>by
 have Y:=hc x (aCl _ _ _ I) hp;have:=h w S J x N U I (by show (m x).isSome=true; grind);simp_all[mSpec]
end
attribute [go_sem] mL aIB
end Go.Vc
namespace Go.Vc
open Go.RowKit
def aUU:List (FuncId×Hit)→FuncId→List AV→List Obj→Option Hit
 | [],_,_,_=>none
 | (k,t)::r,f,I,h=>if k=f then some t else aUU r f I h
structure aFk(P:Program)(G:Nat→AV)(l:List (FuncId×Hit)):Prop where
 ok:∀p∈l,GOK P G p.1 p.2.sp∧fnB P p.1=true
theorem aFk.nil{P:Program}{G:Nat→AV}:aFk P G []:=⟨fun p hp=>by cases hp⟩
theorem aFk.cons{P:Program}{G:Nat→AV}{l:List (FuncId×Hit)}{f:FuncId}{t:Hit}(h:GOK P G f t.sp)(J:fnB P f=true)(I:aFk P G l):aFk P G ((f,t)::l):=by
 refine⟨fun p hp=>?_⟩;rcases List.mem_cons.1 hp with rfl|hp
 ·simp_all
 ·exact I.ok p hp
theorem aIC:∀ {l:List (FuncId×Hit)} {f:FuncId} {vs:List AV} {h:List Obj} {t:Hit},aUU l f vs h=some t→(f,t)∈l
 | (k,s)::r,f,vs,h,t,e=>by
  simp only[aUU] at e;split at e
  ·simp_all
  ·exact List.mem_cons_of_mem _ (aIC e)
theorem aCn{P:Program}{f:FuncId}(h:fnB P f=true):∃fn,P.funcs[f]? = some fn∧fn.name ≠ "runtime.NumGoroutine" ∧ fn.body.isSome=true:=by
 unfold fnB at h;grind
theorem aAk{P:Program}{G:Nat→AV}{l:List (FuncId×Hit)}(h:aFk P G l):aAf P G (aUU l) :=
 ⟨fun f J I t e=>(h.ok _ (aIC e)).1,fun f J I t e=>aCn (h.ok _ (aIC e)).2⟩
theorem bind_some{α β:Type}{x:Option α}{k:α→Option β}{r:β}(h:x.bind k=some r):∃e,x=some e∧k e=some r:=by
 cases x with
 | none=>cases h
 | some e=>simp_all
def rpV:AV→AV
 | .val (.rp t) x=>.roa t x
 | v=>v
theorem aZQ{c:Ctx}{w:World}{v:AV}{x:Value}(hv:aG c w v x):aG c w (rpV v) x:=by
 cases v with
 | val t y =>
  cases t with
  | rp t =>
   obtain⟨⟨b,off,ds,e,hb,hd,hc⟩,_,I⟩:=hv;have I:=I rfl;have ex:x= .pointer (some ⟨b,off,none⟩):=by
    simp_all[Value.cells]
   rw[ex];exact zU hb hd hc
  | _=>exact hv
 | _=>exact hv
section
variable {P:Program} {E:Env}
theorem aOh{f:FuncId}{fn:Func}{J:Code}{sp:iJ}(hE:dB P E)(Y:P.funcs[f]? = some fn)(hb:fn.body=some J)(N:dQ fn.ntmps J=true)(hn:∀d,(sp.av d).length≤fn.ntmps)
  (ht:∀(c:Ctx) (w:World) (d:sp.D),AV.wfL (sp.av d)→Obj.wfL (sp.hp d)→sp.pre d→c.n=(sp.hp d).length→Tri ⟨P,E,GM sp c d,w,fn.ntmps,[]⟩ J (bodyPost P fn (aD4 sp c w d)) (aBx ((sp.av d).map rpV) 0) (sp.hp d)):GOK P E.G f sp:=by
 intro c w d U hp I;refine calls_of_wp Y hb ?_;refine ht c w d (aLW I.len I.val) (aRG I.good) hp I.good.n N c _ w ⟨I.good,I.glob,?_,?_,rfl⟩
 ·refine aLV _ U.toList 0 (by rw[List.length_map]; exact I.len) (fun i h1 h2=>?_) fun i v hv=>?_
  ·rw[List.getElem_map]; exact aZQ (I.val i (by simp_all) h2)
  ·have hlt:i<U.size:=by
    grind
   simp_all[Nat.zero_add,Array.getElem?_toList,Array.getElem?_append,Array.getElem?_eq_getElem]
 ·have h1:=I.len;simp_all
end
section
variable {P:Program} {E:Env} {M:Perm} {w0:World} {nt:Nat} {ds:List Deferred} {h:List Obj} {env:St}
theorem aXG(hE:dB P E){sb:List Nat}{Δ:FuncId→List AV→List Obj→Option Hit}(hΔ:aAf P E.G Δ){ops:List Oper}{Q:Exit→Act→World→Prop}(hok:∀o∈ops,dL nt o=true){K:St→List Obj→Prop}{Kp:Pan→St→List Obj→Prop}
  (hKp:∀p env h c a w u,Kp p env h→Sim E M w0 nt ds c env h a w→bR w c.S p.t p.x u→Q (.panic (aJ4 p.k u)) a w) {i:Nat} (Y:i<ops.length) {env:St} {h:List Obj} {c:Ctx} {a:Act} {w:World} (hs:qO E Δ sb ops (ops.drop i) env h K Kp) (I:Sim E M w0 nt ds c env h a w)
  {Kn:Act→World→Prop} (hn:∀N h' c' a' w',qO E Δ sb ops (ops.drop (i+1)) N h' K Kp→Sim E M w0 nt ds c' N h' a' w'→Kn a' w'):wpOp P ops.toArray Q i Kn a w:=by
 rw[List.drop_eq_getElem_cons Y] at hs;have J:=hok ops[i] (List.getElem_mem Y);have hput:∀(v:Value) (av:AV),aG c w av v→Sim E M w0 nt ds c (oZ ops[i].dst av env) h (a.put ops[i].dst v) w:=fun v av hv=>I.after J ⟨.refl _ _,I.good,hv⟩;unfold wpOp;simp only[List.getElem?_toArray,List.getElem?_eq_getElem Y];have hrun:aCE E Δ sb env h ops[i] (fun v h'=>qO E Δ sb ops (ops.drop (i+1)) (oZ ops[i].dst v env) h' K Kp) (fun p h'=>Kp p env h')→Region.wanted ops[i] (yielded ops.toArray a.tmps)=true→(if Region.wanted ops[i] (yielded ops.toArray a.tmps)=true then Oper.wp P ops[i] a w Kn Q∨(ops[i].asks P a w∧LetsOut Q) else Kn (a.put ops[i].dst Go.undef) w):=fun h1 hw=>by
  rw[if_pos hw]
  left
  refine aOd hE hΔ I J h1 (fun v h' c' u w' hk ha=>hn _ _ c' _ w' hk (I.after J ha)) (fun p h' c' u w' hk hl hg hr=>hKp p env h' c' a w' u hk (I.step hl hg) hr)
 have hskip:qO E Δ sb ops (ops.drop (i+1)) (oZ ops[i].dst .undef env) h K Kp→Region.wanted ops[i] (yielded ops.toArray a.tmps)=false→(if Region.wanted ops[i] (yielded ops.toArray a.tmps)=true then Oper.wp P ops[i] a w Kn Q∨(ops[i].asks P a w∧LetsOut Q) else Kn (a.put ops[i].dst Go.undef) w):=fun h2 hw=>by
  rw[if_neg (by simp_all)];exact hn _ _ c _ w h2 (hput _ _ rfl)
 simp only[qO] at hs;cases hgd:ops[i].guard with
 | none =>
  grind[Region.wanted]
 | some jp =>
  obtain⟨j,U⟩:=jp;rw[hgd] at hs;simp only at hs;cases hdj:aBv ops j with
  | none=>simp_all
  | some dj =>
   rw[hdj] at hs;simp only at hs;have hv:=I.env dj;split at hs
   ·rename_i b hb;rw[hb] at hv;have hb':=yH hv;have hy:=pJ hok I.size hdj hb';simp only[yb] at hy;by_cases e:b=U
    ·grind[Region.wanted]
    ·have e':b= !U:=(by cases b<;>cases U<;>simp_all);grind[Region.wanted]
   ·rename_i hb;rw[hb] at hv;have hy:=pJ hok I.size hdj (v:=Go.undef) hv;grind[Region.wanted,undef,yb]
   simp_all
theorem aK7(hE:dB P E){sb:List Nat}{Δ:FuncId→List AV→List Obj→Option Hit}(hΔ:aAf P E.G Δ){ops:List Oper}{Q:Exit→Act→World→Prop}(hok:∀o∈ops,dL nt o=true){K:St→List Obj→Prop}{Kp:Pan→St→List Obj→Prop}(hK:∀env h c a w,K env h→Sim E M w0 nt ds c env h a w→Q .normal a w)
  (Y:∀p env h c a w u,Kp p env h→Sim E M w0 nt ds c env h a w→bR w c.S p.t p.x u→Q (.panic (aJ4 p.k u)) a w) {n:Nat} (ht:aGh n ops=true) :
  ∀(m i:Nat),i+m=ops.length→n≤i→ ∀(listed:Array Bool),listed.size=ops.length→(∀k,k<ops.length→(listed.getD k false=true↔k<i))→ ∀(env:St) (h:List Obj) (c:Ctx) (a:Act) (w:World),qO E Δ sb ops (ops.drop i) env h K Kp→Sim E M w0 nt ds c env h a w→wpAny P .any ops.toArray Q m listed a w
 | 0,i,hi,hni,listed,hsz,hl,env,h,c,a,w,hs,I=>by
  rw[List.drop_eq_nil_of_le (by omega)] at hs;refine⟨?_,hK env h c a w hs I⟩;rw[List.eq_nil_iff_forall_not_mem];grind[mem_ready,gA.get_lt']
 | m+1,i,hi,hni,listed,hsz,hl,env,h,c,a,w,hs,I=>by
  have N:i<ops.length:=by omega
  have hio:ops[i]? = some ops[i]:=List.getElem?_eq_getElem N;refine⟨fun hr=>?_,fun j hj=>?_⟩
  ·exfalso;have hmem:i∈Region.ready .any ops.toArray listed:=by
    grind[mem_ready,gA]
   simp_all
  ·obtain⟨h1,o,ho,hall⟩:=mem_ready.1 hj;have ho:ops[j]? = some o:=(by simp_all);have hjl:=gA.get_lt' ho;have hji:j=i:=by
    rcases Nat.lt_trichotomy j i with hlt|heq|hgt
    ·grind
    ·exact heq
    ·have:=(gA ht ho).2 (by omega) (fun k=>k<ops.length→listed.getD k false=true) (fun k o' ho' hk e he hb=>fun hlt=>by
      have hkl:=gA.get_lt' ho';have h3:=(gA ht ho').1 e he hb;grind) (fun e he hb _=>hall e he hb) i hgt N
     simp_all
   subst hji;refine aXG hE hΔ hok Y N hs I fun U h' c' a' w' hs' J=>?_;refine aK7 hE hΔ hok hK Y ht m (j+1) (by omega) (by omega) (listed.setIfInBounds j true) (by grind) (fun k hk=>?_) U h' c' a' w' hs' J;by_cases e:j=k
   ·simp_all
   ·rw[getD_set_ne false e,hl k hk];omega
def aQe(ops:List Oper)(done:List Nat):List Nat:=(List.range ops.length).filter fun i=> !done.contains i&&(match ops[i]? with
 | some o=>o.after.toList.all fun e=> !Region.binds .any e||done.contains e.on
 | none=>false)
def anyS(E:Env)(ops:List Oper)(K:St→List Obj→Prop):Nat→List Nat→St→List Obj→Prop
 | 0,_,env,h=>K env h
 | n+1,done,env,h=>∀i,i∈aQe ops done→match ops[i]? with
  | some o=>o.guard=none∧(match tR E env h o with
   | (p,v,h')=>p∧anyS E ops K n (i::done) (oZ o.dst v env) h')
  | none=>False
def aUV(ops:List Oper):Bool:=ops.zipIdx.all fun p=>p.1.after.toList.all fun e=> !Region.binds .any e||decide (e.on<p.2)
theorem aLZ:∀ {l m:List Nat},l.Nodup→(∀x∈l,x∈m)→l.length≤m.length∧(l.length=m.length→ ∀x∈m,x∈l)
 | [],m,_,_=>⟨by simp,fun h x hx=>by
  grind⟩
 | a::l,m,hn,hs=>by
  have N:a∈m:=hs a (by simp);have I:=List.nodup_cons.1 hn;have Y:=List.length_erase_of_mem N;have U:0<m.length:=List.length_pos_of_mem N;have J:=aLZ (l:=l) (m:=m.erase a) I.2 (fun x hx=>by
   grind)
  grind
theorem aRQ(hE:dB P E){ops:List Oper}{Q:Exit→Act→World→Prop}(hok:∀o∈ops,dL nt o=true){K:St→List Obj→Prop}(hK:∀env h c a w,K env h→Sim E M w0 nt ds c env h a w→Q .normal a w)(hb:aUV ops=true) :
  ∀(n:Nat) (done:List Nat) (listed:Array Bool),listed.size=ops.length→(∀k,k<ops.length→(listed.getD k false=true↔k∈done))→done.length+n=ops.length→done.Nodup→(∀k∈done,k<ops.length)→ ∀(env:St) (h:List Obj) (c:Ctx) (a:Act) (w:World),anyS E ops K n done env h→Sim E M w0 nt ds c env h a w→wpAny P .any ops.toArray Q n listed a w
 | 0,done,listed,hsz,hl,hn,hd,hlt,env,h,c,a,w,hs,I=>by
  refine⟨?_,hK env h c a w hs I⟩;rw[List.eq_nil_iff_forall_not_mem];intro j hj;obtain⟨h1,o,ho,_⟩:=mem_ready.1 hj;have ho:ops[j]? = some o:=by simp_all
  have U:=gA.get_lt' ho;have hall:j∈done:=by
   exact(aLZ hd (m:=List.range ops.length) (fun k J=>List.mem_range.2 (hlt k J))).2 (by grind) j (List.mem_range.2 U)
  grind
 | n+1,done,listed,hsz,hl,hn,hd,hlt,env,h,c,a,w,hs,I=>by
  have hrd:∀j,j∈Region.ready .any ops.toArray listed→j∈aQe ops done∧j∉done∧j<ops.length:=fun j hj=>by
   obtain⟨h1,o,ho,hall⟩:=mem_ready.1 hj;have ho:ops[j]? = some o:=(by simp_all);have U:=gA.get_lt' ho;have hlt':j<listed.size:=(by omega);have hnd:j∉done:=fun hm=>by
    grind
   refine⟨?_,hnd,U⟩;simp only[aQe,List.mem_filter,List.mem_range,ho,Bool.and_eq_true,Bool.not_eq_true',List.contains_eq_mem,decide_eq_false_iff_not,List.all_eq_true,Bool.or_eq_true,decide_eq_true_eq];grind
  refine⟨fun hr=>?_,fun j hj=>?_⟩
  ·exfalso;have Y:∃k,(k<ops.length∧k∉done)∧ ∀j,j<k→ ¬(j<ops.length∧j∉done):=by
    have Y:∃k,k<ops.length∧k∉done:=by
     apply Classical.byContradiction;intro hc;have hsub:List.range ops.length ⊆ done:=fun k J=>Classical.byContradiction fun hk2=>hc ⟨k,List.mem_range.1 J,hk2⟩;have:=(aLZ (List.nodup_range (n:=ops.length)) (fun k J=>hsub J)).1;grind
    obtain⟨n,h1,h2⟩:=aD6 Y;grind
   obtain⟨k,⟨J,hkd⟩,hlow⟩:=Y;have hmem:k∈Region.ready .any ops.toArray listed:=by
    rw[mem_ready];have hlt':k<listed.size:=(by omega);have hun:¬listed.getD k false=true:=fun h=>hkd ((hl k J).1 h);refine⟨by grind,ops[k],by simp[J],fun e he hbe=>?_⟩;have hbk:=List.all_eq_true.1 hb (ops[k],k) (by grind);grind
   simp_all
  ·obtain⟨r1,r2,r3⟩:=hrd j hj;have hs:=hs j r1;have hjo:ops[j]? = some ops[j]:=List.getElem?_eq_getElem r3;rw[hjo] at hs;obtain⟨hg,hp,hrest⟩:=hs;have N:=hok ops[j] (List.getElem_mem r3);have hw:Region.wanted ops[j] (yielded ops.toArray a.tmps)=true:=(by simp[Region.wanted,hg]);unfold wpOp;simp only[List.getElem?_toArray,hjo];rw[if_pos hw]
   left
   refine(xK hE I N hp).wp fun v w' c' ha=>?_;refine aRQ hE hok hK hb n (j::done) (listed.setIfInBounds j true) (by grind) (fun k J=>?_) (by grind) (List.nodup_cons.2 ⟨r2,hd⟩) (fun k J=>?_) _ _ c' _ w' hrest (I.after N ha)
   ·by_cases e:j=k
    ·simp_all
    ·rw[getD_set_ne false e,hl k J];grind
   grind
theorem aBy{F:Fr}{Q:Exit→Act→World→Prop}{env:St}{h:List Obj}(hF:oY F){id:Nat}{ops:Array Oper}(keep:List Nat)(J:St)(h':List Obj)(hb:aUV ops.toList=true)
  (hv:anyS F.E ops.toList (fun e o=>keep.map (fun t=>(t,look e t))=J∧o=h') ops.toList.length [] env h) (Y:At F (Q .normal) J h'):Tri F (.region id ops true) Q env h:=fun U c a w N=>by
 simp only[dQ,Bool.and_eq_true,Bool.or_eq_true,Bool.not_eq_true'] at U;obtain⟨⟨h1,h2⟩,h3⟩:=U;refine wp_region_any hF.mix ?_;have I:bW c w c { w with drawn:=w.drawn+1 }:=⟨.refl _,fun b hb=>rfl⟩;have hdr:Sim F.E F.M F.w0 F.nt F.ds c env h a { w with drawn:=w.drawn+1 } :=
  ⟨N.good.step I rfl rfl ⟨rfl,rfl,rfl,Nat.le_refl _,fun _ _ _=>rfl⟩ (fun _ _ _ _ _=>rfl) N.good.sfin (fun _ hb=>.inl hb),jM.mono (w:=w) (w':={ w with drawn:=w.drawn+1 }) (fun _ hb=>hb) I.same N.glob,N.env.keep I,N.size,N.defers⟩
 have:=aRQ (Q:=Q) hF.env (List.all_eq_true.1 h1) (K:=fun e o=>keep.map (fun t=>(t,look e t))=J∧o=h') (fun e o c a w hkk N=>by
  obtain⟨rfl,rfl⟩:=hkk;exact Y c a w (N.keep keep)) hb ops.toList.length [] (Array.replicate ops.size false) (by simp) (fun k Y=>by simp_all) (by simp) List.nodup_nil (fun k Y=>by cases Y) env h c a _ hv hdr
 omega
theorem aXH{F:Fr}{K:Exit→St→List Obj→Prop}{Q:Exit→Act→World→Prop}{env:St}{h:List Obj}(hF:oY F)(hK:∀e env h,K e env h→At F (Q e) env h){Δ:FuncId→List AV→List Obj→Option Hit}(hΔ:aAf F.P F.E.G Δ){id:Nat}{ops:Array Oper}(n:Nat)(I:(aLL (ops.toList.take n)&&aAP (ops.toList.take n)&&aGh (ops.toList.take n).length ops.toList)=true)(keep sb:List Nat)
  (hv:vcA F.E h env (ops.toList.take n) 0 [] (fun acc=>qO F.E Δ sb ops.toList (ops.toList.drop n) (gO F.E.T (cP (ops.toList.take n) 0) (fR acc env) h).1 (gO F.E.T (cP (ops.toList.take n) 0) (fR acc env) h).2 (fun env h=>K .normal (keep.map fun t=>(t,look env t)) h) (fun p env h=>AtP F Q p env h))):Tri F (.region id ops true) Q env h:=fun J c a w U=>by
 simp only[dQ,Bool.and_eq_true,Bool.or_eq_true,Bool.not_eq_true'] at J;obtain⟨⟨h1,h2⟩,h3⟩:=J;simp only[Bool.and_eq_true] at I;obtain⟨⟨t1,t2⟩,t3⟩:=I;have e:ops.toList.take n++ops.toList.drop n=ops.toList:=List.take_append_drop n ops.toList;have:=aK0 (id:=id) (pre:=ops.toList.take n) (tail:=ops.toList.drop n) (Q:=Q) hF.env hF.mix (by grind) t2 t1 (by simp_all) U (K':=fun env h=>qO F.E Δ sb ops.toList (ops.toList.drop n) env h (fun env h=>K .normal (keep.map fun t=>(t,look env t)) h) (fun p env h=>AtP F Q p env h)) hv
  (fun env h c a w listed hsz hl N Y=>by
   rw[e] at hsz hl ⊢;exact aK7 (K:=fun env h=>K .normal (keep.map fun t=>(t,look env t)) h) (Kp:=fun p env h=>AtP F Q p env h) hF.env hΔ (List.all_eq_true.1 h1) (fun env h c a w N U=>hK _ _ _ N c a w (U.keep keep)) (fun p env h c a w u N U hr=>N c a w u U hr) t3 (ops.toList.drop n).length (ops.toList.take n).length (by grind) (Nat.le_refl _) listed hsz hl env h c a w (by
    have e2:ops.toList.drop (ops.toList.take n).length=ops.toList.drop n:=by
     simp_all
    rw[e2]; exact N) Y)
 simp_all
theorem aID{f:FuncId}{fn:Func}{I:Code}{a:Ty}{r:RK}{m:a.den→Option r.ty.den}(U:dB P E)(N:P.funcs[f]? = some fn)(hb:fn.body=some I)(J:dQ fn.ntmps I=true)(Y:aGf a≤fn.ntmps)
  (ht:∀(w0:World) (S:Nat→Prop) (x:a.den) (y:r.ty.den),a.wf x→m x=some y→Tri (fr P E S w0 fn.ntmps) I (aRK P fn S w0 r y) (cC a x 0) []):FOK P E.G f (mSpec a r m) :=
 aXB U N hb J Y fun w0 S x hw hp=>by
  grind[Option.isSome_iff_exists,mSpec]
def aFl:AV→Bool
 | .val _ _=>true
 | .tup I=>I.all fun v=>match v with| .val _ _=>true|_=>false
 | _=>false
theorem aTh{c:Ctx}{w:World}{σ:List Nat}{v:AV}{x:Value}(hp:aFl v=true)(hv:aG c w v x):aG (c.ren σ) w v x:=by
 cases v with
 | val t y=>exact aHH (σ:=σ) hv
 | tup I =>
  obtain⟨Y,e,N,hi⟩:=hv;refine⟨Y,e,N,fun i J U=>?_⟩;have hq:=List.all_eq_true.1 hp I[i] (List.getElem_mem J);have:=hi i J U;revert hq this;generalize I[i]=u;intro hq this;cases u<;>first|exact this|simp_all
 | _=>grind[aFl]
theorem aBz{F:Fr}{fn:Func}{sp:iJ}{c0:Ctx}{d:sp.D}{env:St}{h h':List Obj}{v:AV}(hF:oY F)(l:List ResultVar)(σ:List Nat)(hM:F.M=GM sp c0 d)(hds:F.ds= [])(hr:fn.results=l.toArray)(hnd:nodupB σ=true)(hpr:preB F.M.m σ=true)(U:sp.out d= .ret v h')(hh:(σ.map fun i=>mG σ (h.getD i .dead))=h')(hfl:(match v with| .tup vs=>vs.all aUP|_=>true)=true)(hpl:aFl v=true)(hy:(bD F.E.T h env l).1∧yO h v (bD F.E.T h env l).2) :
  At F (bodyPost F.P fn (aD4 sp c0 F.w0 d) .ret) env h:=fun c a w N=>by
 subst hh;obtain⟨Y,q1,q2,q3⟩:=aAg (P:=F.P) hF.env.T N.good N.env hr hy.1;refine⟨N.defers.trans hds,aCD Y,q1,c.ren σ,?_⟩;rw[U];refine⟨aCD Y,rfl,by rw[← hM]; exact N.good.ren hnd hpr,aTh hpl ?_⟩;have I:=hy.2;generalize (bD F.E.T h env l).2=rs at q2 q3 I;cases v with
 | tup vs =>
  obtain⟨h1,h2⟩:=I;obtain⟨k1,k2⟩:=aLX N.good h2 q2 q3;refine⟨Y,?_,k1,fun i p1 p2=>?_⟩
  ·match Y,q2 with
   | [],_=>rfl
   | [x],q2=>simp_all
   | a::b::r,_=>rfl
  ·have J:=List.all_eq_true.1 hfl vs[i] (List.getElem_mem p1);exact aRH (k2 i p1 p2).1 (k2 i p1 p2).2 (fun l e=>by rw[e] at J; cases J) (fun e=>by rw[e] at J; cases J)
 | _ =>
  match rs,I with
  | [u],I =>
   match Y,q2 with
   | [x],_=>exact aHF N.good I (q3 0 (by simp) (by simp))
theorem xL{F:Fr}{fn:Func}{R:Ending→World→Prop}{env:St}{h:List Obj}(I:At F (bodyPost F.P fn R .ret) env h):At F (bodyPost F.P fn R .normal) env h:=I
end
attribute [go_sem] aUU rpV
end Go.Vc
namespace Go.Vc
open Go.RowKit
theorem aUW(n:Nat):((no_index (OfNat.ofNat n):Nat):Int)=OfNat.ofNat n:=rfl
def sat{α:Type}(o:Option α)(Θ:α→Prop):Prop:=∃x,o=some x∧Θ x
section
variable {α β:Type} {p:Prop} [Decidable p] {k x y:Option α} {Θ:α→Prop} {a:α}
theorem aIE(h:sat (ck p k) Θ):p∧sat k Θ:=by
 obtain⟨z,I,J⟩:=h;obtain⟨hp,N⟩:=bV I;exact⟨hp,z,N,J⟩
theorem kJ(hp:p)(h:sat (if p then x else y) Θ):sat x Θ:=by simp_all
theorem kK(hp:¬p)(h:sat (if p then x else y) Θ):sat y Θ:=by simp_all
theorem aZ{G:Prop}(h:sat (ck p k) Θ)(I:p→sat k Θ→G):p∧G:=⟨(aIE h).1,I (aIE h).1 (aIE h).2⟩
theorem cY{I J:Prop}(h:sat (if p then x else y) Θ)(N:p→sat x Θ→I)(U:¬p→sat y Θ→J):(p→I)∧(¬p→J):=⟨fun c=>N c (kJ c h),fun c=>U c (kK c h)⟩
theorem gF{I J:Prop}{m n:Int}(h:sat (if m<n then x else y) Θ)(N:m<n→sat x Θ→I)(U:n≤m→sat y Θ→J):(m<n→I)∧(n≤m→J):=⟨fun c=>N c (kJ c h),fun c=>U c (kK (Int.not_lt.2 c) h)⟩
theorem aL0{I J:Prop}{m n:Int}(h:sat (if m≤n then x else y) Θ)(N:m≤n→sat x Θ→I)(U:n<m→sat y Θ→J):(m≤n→I)∧(n<m→J):=⟨fun c=>N c (kJ c h),fun c=>U c (kK (Int.not_le.2 c) h)⟩
theorem aZa{I J:Prop}{b:Bool}(h:sat (if b=true then x else y) Θ)(N:b=true→sat x Θ→I)(U:¬b=true→sat y Θ→J):(b=true→I)∧(¬b=true→J):=cY h N U
theorem aL1{I J:Prop}{b:Bool}(h:sat (if ¬b=true then x else y) Θ)(N:b=false→sat x Θ→I)(U:¬b=false→sat y Θ→J):(b=false→I)∧(¬b=false→J) :=
 ⟨fun c=>N c (kJ (by simp_all) h),fun c=>U c (kK (fun n=>c (by simp_all)) h)⟩
theorem aC(h:sat (some a) Θ):Θ a:=by
 obtain⟨z,I,J⟩:=h;simp_all
theorem yQ{P:Prop}(h:sat none Θ):P:=by
 obtain⟨z,I,J⟩:=h;cases I
theorem aW{o:Option β}{f:β→Option α}(h:sat (o.bind f) Θ){G:Prop}(J:∀z,o=some z→sat (f z) Θ→G):G:=by
 obtain⟨r,I,N⟩:=h;cases o with
 | none=>cases I
 | some z=>exact J z rfl ⟨r,I,N⟩
theorem aD(h:sat (ck p k) Θ){G:Prop}(I:p→sat k Θ→G):G:=I (aIE h).1 (aIE h).2
end
def aTi(n:Nat)(ops:List Oper):Bool:=aLL (ops.take n)&&aAP (ops.take n)&&aGh (ops.take n).length ops
inductive Pl where
 | A (keep:List Nat)
 | B (keep:List Nat)
 | C (n:Nat) (keep:List Nat)
 | P (keep sb:List Nat)
 | Q (n:Nat) (keep sb:List Nat)
 | stop
def aL2:List (FuncId×(List AV→List Obj→Hit))→FuncId→List AV→List Obj→Option Hit
 | [],_,_,_=>none
 | (k,t)::r,f,I,h=>match decide (k=f) with
  | true=>some (t I h)
  | false=>aL2 r f I h
structure aAl(P:Program)(G:Nat→AV)(l:List (FuncId×(List AV→List Obj→Hit))):Prop where
 ok:∀p∈l,(∀vs h,GOK P G p.1 (p.2 vs h).sp)∧fnB P p.1=true
theorem aAl.nil{P:Program}{G:Nat→AV}:aAl P G []:=⟨fun p hp=>by cases hp⟩
theorem aAl.cons{P:Program}{G:Nat→AV}{l:List (FuncId×(List AV→List Obj→Hit))}{f:FuncId}{t:List AV→List Obj→Hit}(h:∀vs x,GOK P G f (t vs x).sp)(J:fnB P f=true)(I:aAl P G l):aAl P G ((f,t)::l):=by
 refine⟨fun p hp=>?_⟩;rcases List.mem_cons.1 hp with rfl|hp
 ·exact⟨h,J⟩
 ·exact I.ok p hp
theorem aOi:∀ {l:List (FuncId×(List AV→List Obj→Hit))} {f:FuncId} {vs:List AV} {h:List Obj} {t:Hit},aL2 l f vs h=some t→ ∃s,(f,s)∈l∧t=s vs h
 | (k,s)::r,f,vs,h,t,e=>by
  simp only[aL2] at e;split at e
  ·simp_all
  ·obtain⟨u,I,J⟩:=aOi e;grind
theorem aOj{P:Program}{G:Nat→AV}{l:List (FuncId×(List AV→List Obj→Hit))}(h:aAl P G l):aAf P G (aL2 l):=by
 refine⟨fun f N J t e=>?_,fun f N J t e=>?_⟩<;>obtain⟨s,I,rfl⟩:=aOi e
 ·exact(h.ok _ I).1 N J
 ·exact aCn (h.ok _ I).2
def sG:List Obj→Nat→(t:Ty)→t.den
 | .box _ (.val s x)::_,0,t=>if e:s=t then e▸x else t.zero
 | _::h,i+1,t=>sG h i t
 | _,_,t=>t.zero
@[go_sem] theorem aZR{n:Nat}{t:Ty}{x:t.den}{h:List Obj}:sG (.box n (.val t x)::h) 0 t=x:=by simp[sG]
@[go_sem] theorem aZb{o:Obj}{h:List Obj}{i:Nat}{t:Ty}:sG (o::h) (i+1) t=sG h i t:=by
 cases o<;>try rfl
 rename_i n v;cases v<;>rfl
def kL(h:List Obj)(vs:List AV)(i:Nat)(t:Ty):t.den:=match AV.as (h.map cL) t (vs.getD i .junk) with
 | some x=>x
 | none=>t.zero
def mkH{R:Type}(o:Option R)(z:R)(f:R→Hit):Hit:=f (o.getD z)
theorem aUX{R:Type}{r z:R}{f:R→Hit}:mkH (some r) z f=f r:=rfl
structure PlR where
 reg:List (Nat×Pl)
 stops:List (Nat×Nat)
 dl:List (FuncId×(List AV→List Obj→Hit))
def aXI:List (Nat×Pl)→Nat→Pl
 | [],_=>.stop
 | (i,p)::r,I=>match decide (i=I) with
  | true=>p
  | false=>aXI r I
def first:Code→Nat
 | .region I _ _=>I+3
 | .seq x _=>first x
 | .block _ x=>first x
 | .loop x=>first x
 | .scope x=>first x
 | .skip=>1
 | .label _=>1
 | .ret=>0
 | _=>2
def aOk:List (Nat×Nat)→Code→Code→Bool
 | [],_,_=>false
 | (a,b)::r,x,y=>match decide (a=first x) with
  | true=>match decide (b=first y) with
   | true=>true
   | false=>aOk r x y
  | false=>aOk r x y
def aZS(V:St→List Obj→Prop)(K:Exit→St→List Obj→Prop):Exit→St→List Obj→Prop:=fun e env h=>match e with
 | .normal=>V env h
 | e=>K e env h
def aXJ(id:Nat)(K:Exit→St→List Obj→Prop):Exit→St→List Obj→Prop:=fun e env h=>match e with
 | .normal=>K .normal env h
 | .exit j=>match decide (j=id) with
  | true=>K .normal env h
  | false=>K (.exit j) env h
 | .ret=>K .ret env h
 | _=>False
def bA4(K:Exit→St→List Obj→Prop):Exit→St→List Obj→Prop:=fun e env h=>match e with
 | .normal=>K .normal env h
 | .exit j=>K (.exit j) env h
 | .ret=>K .ret env h
 | _=>False
def vcC(F:Fr)(p:PlR):Code→(Exit→St→List Obj→Prop)→(Exit→Act→World→Prop)→St→List Obj→Prop
 | .skip,K,_,env,h=>K .normal env h
 | .label _,K,_,env,h=>K .normal env h
 | .exit J,K,_,env,h=>K (.exit J) env h
 | .ret,K,_,env,h=>K .ret env h
 | .seq x y,K,Q,env,h=>match aOk p.stops x y with
  | true=>Tri F (.seq x y) Q env h
  | false=>vcC F p x (aZS (vcC F p y K Q) K) (Exit.then (Next F y Q) Q) env h
 | .cond o x y,K,Q,env,h=>match evA F.E.G env o with
  | .val .bool b=>(b=true→vcC F p x K Q env h)∧(¬b=true→vcC F p y K Q env h)
  | _=>False
 | .block J x,K,Q,env,h=>vcC F p x (aXJ J K) (Exit.inBlock J Q) env h
 | .scope x,K,Q,env,h=>vcC F p x (bA4 K) (Exit.noGoto Q) env h
 | .region J ops I,K,Q,env,h=>match aXI p.reg J with
  | .A keep=>vcA F.E h env ops.toList 0 [] (fun acc=>K .normal (aJ2 keep acc env) h)
  | .B keep=>I=false∧mF F.E ops.toList ops.toList env h (fun env h=>K .normal (keep.map fun t=>(t,look env t)) h)
  | .C n keep=>(I=true∧aTi n ops.toList=true) ∧
    vcA F.E h env (ops.toList.take n) 0 [] (fun acc=>mF F.E ops.toList (ops.toList.drop n) (gO F.E.T (cP (ops.toList.take n) 0) (fR acc env) h).1 (gO F.E.T (cP (ops.toList.take n) 0) (fR acc env) h).2 (fun env h=>K .normal (keep.map fun t=>(t,look env t)) h))
  | .P keep sb=>I=false∧qO F.E (aL2 p.dl) sb ops.toList ops.toList env h (fun env h=>K .normal (keep.map fun t=>(t,look env t)) h) (fun e env h=>AtP F Q e env h)
  | .Q n keep sb=>(I=true∧aTi n ops.toList=true) ∧
    vcA F.E h env (ops.toList.take n) 0 [] (fun acc=>qO F.E (aL2 p.dl) sb ops.toList (ops.toList.drop n) (gO F.E.T (cP (ops.toList.take n) 0) (fR acc env) h).1 (gO F.E.T (cP (ops.toList.take n) 0) (fR acc env) h).2 (fun env h=>K .normal (keep.map fun t=>(t,look env t)) h) (fun e env h=>AtP F Q e env h))
  | .stop=>Tri F (.region J ops I) Q env h
 | c,_,Q,env,h=>Tri F c Q env h
structure VOK(F:Fr)(p:PlR):Prop where
 fr:oY F
 hits:aAl F.P F.E.G p.dl
section
variable {F:Fr} {p:PlR}
theorem aRR(hF:oY F){K:Exit→St→List Obj→Prop}{Q:Exit→Act→World→Prop}(hK:∀e env h,K e env h→At F (Q e) env h){id:Nat}{ops:Array Oper}{J:Bool}{keep:List Nat}{env:St}{h:List Obj}
  (hv:vcA F.E h env ops.toList 0 [] (fun acc=>K .normal (aJ2 keep acc env) h)):Tri F (.region id ops J) Q env h:=fun N c a w hs=>by
 simp only[dQ,Bool.and_eq_true,Bool.or_eq_true,Bool.not_eq_true'] at N;obtain⟨⟨h1,h2⟩,h3⟩:=N;have I:∀acc c' U w',K .normal (aJ2 keep acc env) h→bW c w c' w'→c'.n=c.n→Sim F.E F.M F.w0 F.nt F.ds c' (fR acc env) h U w'→Q .normal U w':=fun acc c' U w' hk _ _ Y=>by
  have:=Y.keep keep;refine hK _ _ _ hk c' U w' ?_;grind[aJ2,look,fR,aNU]
 cases J with
 | false=>exact aNR (ops:=ops.toList) hF.env (List.all_eq_true.1 h1) h2 hs hv I
 | true=>exact aDX (ops:=ops.toList) hF.env hF.mix (List.all_eq_true.1 h1) h2 (h3.resolve_left (by simp)) hs hv I
theorem aRS(hF:oY F){K:Exit→St→List Obj→Prop}{Q:Exit→Act→World→Prop}(U:∀e env h,K e env h→At F (Q e) env h){id:Nat}{ops:Array Oper}{keep:List Nat}{env:St}{h:List Obj}
  (hv:mF F.E ops.toList ops.toList env h (fun env h=>K .normal (keep.map fun t=>(t,look env t)) h)):Tri F (.region id ops false) Q env h:=fun I c a w J=>by
 simp only[dQ,Bool.and_eq_true,Bool.or_eq_true,Bool.not_eq_true'] at I;obtain⟨⟨Y,h2⟩,h3⟩:=I;refine wp_region ?_;have:=aD2 (Q:=Q) hF.env (List.all_eq_true.1 Y) (K:=fun env h=>K .normal (keep.map fun t=>(t,look env t)) h) (fun env h c a w N J=>U _ _ _ N c a w (J.keep keep)) ops.toList.length 0 (by simp) env h c a w (by simp_all) J;simp_all[List.range_eq_range']
theorem aXK(hF:oY F){K:Exit→St→List Obj→Prop}{Q:Exit→Act→World→Prop}(hK:∀e env h,K e env h→At F (Q e) env h){id:Nat}{ops:Array Oper}(n:Nat)(I:aTi n ops.toList=true){keep:List Nat}{env:St}{h:List Obj}
  (hv:vcA F.E h env (ops.toList.take n) 0 [] (fun acc=>mF F.E ops.toList (ops.toList.drop n) (gO F.E.T (cP (ops.toList.take n) 0) (fR acc env) h).1 (gO F.E.T (cP (ops.toList.take n) 0) (fR acc env) h).2 (fun env h=>K .normal (keep.map fun t=>(t,look env t)) h))) :
  Tri F (.region id ops true) Q env h:=fun J c a w N=>by
 simp only[dQ,Bool.and_eq_true,Bool.or_eq_true,Bool.not_eq_true'] at J;obtain⟨⟨h1,h2⟩,h3⟩:=J;simp only[aTi,Bool.and_eq_true] at I;obtain⟨⟨t1,U⟩,t3⟩:=I;have e:ops.toList.take n++ops.toList.drop n=ops.toList:=List.take_append_drop n ops.toList;have:=aUF (id:=id) (pre:=ops.toList.take n) (tail:=ops.toList.drop n) (Q:=Q) hF.env hF.mix (by grind) U t1 (by simp_all) N (K':=fun env h=>K .normal (keep.map fun t=>(t,look env t)) h) (by simp_all) (fun env h c a w Y N=>hK _ _ _ Y c a w (N.keep keep));simp_all
theorem aBA(hF:VOK F p):∀(c:Code) (K:Exit→St→List Obj→Prop) (Q:Exit→Act→World→Prop),(∀e env h,K e env h→At F (Q e) env h)→ ∀env h,vcC F p c K Q env h→Tri F c Q env h
 | .skip,K,Q,I,env,h,hv=>dZ (I _ _ _ hv)
 | .label _,K,Q,I,env,h,hv=>aS1 (I _ _ _ hv)
 | .exit _,K,Q,I,env,h,hv=>lM (I _ _ _ hv)
 | .ret,K,Q,I,env,h,hv=>jO (I _ _ _ hv)
 | .seq x y,K,Q,I,env,h,hv=>by
  unfold vcC at hv;split at hv
  ·exact hv
  ·refine aK (aBA hF x _ _ (fun e env h J=>?_) env h hv);cases e with
   | normal=>exact aL (aBA hF y K Q I env h J)
   | _=>exact I _ env h J
 | .cond o x y,K,Q,I,env,h,hv=>by
  unfold vcC at hv;split at hv
  ·rename_i b hb;exact cW hb (fun e=>aBA hF x K Q I env h (hv.1 e)) (fun e=>aBA hF y K Q I env h (hv.2 (by simp_all)))
  simp_all
 | .block Y x,K,Q,I,env,h,hv=>by
  refine iM (aBA hF x _ _ (fun e env h J=>?_) env h hv);cases e with
  | normal=>exact I .normal env h J
  | ret=>exact I .ret env h J
  | exit j =>
   simp only[aXJ] at J;split at J
   ·rename_i hd;obtain rfl:=of_decide_eq_true hd;grind[dA]
   grind[cS,of_decide_eq_false]
  | _=>exact J.elim
 | .scope x,K,Q,I,env,h,hv=>by
  refine aTc (aBA hF x _ _ (fun e env h J=>?_) env h hv);cases e with
  | normal=>exact I .normal env h J
  | ret=>exact I .ret env h J
  | exit j=>exact I (.exit j) env h J
  | _=>exact J.elim
 | .region Y ops U,K,Q,I,env,h,hv=>by
  unfold vcC at hv;split at hv
  ·exact aRR hF.fr I hv
  ·obtain⟨rfl,hv⟩:=hv; exact aRS hF.fr I hv
  ·obtain⟨⟨rfl,N⟩,hv⟩:=hv; exact aXK hF.fr I _ N hv
  ·obtain⟨rfl,hv⟩:=hv; exact aRF hF.fr I (aOj hF.hits) _ _ hv
  ·obtain⟨⟨rfl,N⟩,hv⟩:=hv; exact aXH hF.fr I (aOj hF.hits) _ N _ _ hv
  omega
 | .loop x,K,Q,I,env,h,hv=>hv
 | .rangeFunc _ _ _ _,K,Q,I,env,h,hv=>hv
 | .goto _,K,Q,I,env,h,hv=>hv
 | .refuse _,K,Q,I,env,h,hv=>hv
end
inductive Kt where
 | fin (Q:Exit→Act→World→Prop)
 | seq (y:Code) (k:Kt)
 | blk (id:Nat) (k:Kt)
 | scp (k:Kt)
 | stp (K:Act→World→Prop) (k:Kt)
def rU(F:Fr):Kt→Exit→Act→World→Prop
 | .fin Q=>Q
 | .seq y k=>Exit.then (Next F y (rU F k)) (rU F k)
 | .blk I k=>Exit.inBlock I (rU F k)
 | .scp k=>Exit.noGoto (rU F k)
 | .stp K k=>Exit.then K (rU F k)
def den(F:Fr)(p:PlR):Kt→Exit→St→List Obj→Prop
 | .fin Q=>fun e env h=>At F (Q e) env h
 | .seq y k=>aZS (vcC F p y (den F p k) (rU F k)) (den F p k)
 | .blk I k=>aXJ I (den F p k)
 | .scp k=>bA4 (den F p k)
 | .stp K k=>aZS (fun env h=>At F K env h) (den F p k)
def vcT(F:Fr)(p:PlR)(c:Code)(k:Kt)(env:St)(h:List Obj):Prop:=vcC F p c (den F p k) (rU F k) env h
section
variable {F:Fr} {p:PlR} {k:Kt} {env:St} {h:List Obj}
theorem qQ(hF:VOK F p):∀(k:Kt) (e:Exit) (env:St) (h:List Obj),den F p k e env h→At F (rU F k e) env h
 | .fin Q,e,env,h,I=>I
 | .seq y k,e,env,h,I=>by
  cases e with
  | normal=>exact aL (aBA hF y _ _ (qQ hF k) env h I)
  | _=>exact qQ hF k _ env h I
 | .blk J k,e,env,h,I=>by
  cases e with
  | normal=>exact qQ hF k .normal env h I
  | ret=>exact qQ hF k .ret env h I
  | exit j =>
   simp only[den,aXJ] at I;split at I
   ·rename_i hd;obtain rfl:=of_decide_eq_true hd;exact dA (qQ hF k .normal env h I)
   ·rename_i hd;exact cS (of_decide_eq_false hd) (qQ hF k (.exit j) env h I)
  | _=>exact I.elim
 | .scp k,e,env,h,I=>by
  cases e with
  | normal=>exact qQ hF k .normal env h I
  | ret=>exact qQ hF k .ret env h I
  | exit j=>exact qQ hF k (.exit j) env h I
  | _=>exact I.elim
 | .stp K k,e,env,h,I=>by
  cases e with
  | normal=>exact I
  | _=>exact qQ hF k _ env h I
theorem aIF(hF:VOK F p){c:Code}(hv:vcT F p c k env h):Tri F c (rU F k) env h:=aBA hF c _ _ (qQ hF k) env h hv
theorem aZT(hF:VOK F p){e:Exit}(hv:den F p k e env h):At F (rU F k e) env h:=qQ hF k e env h hv
theorem aUY:vcT F p .skip k env h=den F p k .normal env h:=propext Iff.rfl
theorem aTj{l:Nat}:vcT F p (.label l) k env h=den F p k .normal env h:=propext Iff.rfl
theorem aUZ{id:Nat}:vcT F p (.exit id) k env h=den F p k (.exit id) env h:=propext Iff.rfl
theorem aXL:vcT F p .ret k env h=den F p k .ret env h:=propext Iff.rfl
theorem aXM{x y:Code}:vcT F p (.seq x y) k env h=match aOk p.stops x y with
  | true=>Tri F (.seq x y) (rU F k) env h
  | false=>vcT F p x (.seq y k) env h:=propext Iff.rfl
theorem aU0{o:Operand}{x y:Code}:vcT F p (.cond o x y) k env h=match evA F.E.G env o with
  | .val .bool b=>(b=true→vcT F p x k env h)∧(¬b=true→vcT F p y k env h)
  | _=>False:=propext Iff.rfl
theorem aTk{id:Nat}{x:Code}:vcT F p (.block id x) k env h=vcT F p x (.blk id k) env h:=propext Iff.rfl
theorem aTl{x:Code}:vcT F p (.scope x) k env h=vcT F p x (.scp k) env h:=propext Iff.rfl
theorem aU1{x:Code}:vcT F p (.loop x) k env h=Tri F (.loop x) (rU F k) env h:=propext Iff.rfl
theorem aQf{id:Nat}{ops:Array Oper}{I:Bool}:vcT F p (.region id ops I) k env h=match aXI p.reg id with
  | .A keep=>vcA F.E h env ops.toList 0 [] (fun acc=>den F p k .normal (aJ2 keep acc env) h)
  | .B keep=>I=false∧mF F.E ops.toList ops.toList env h (fun env h=>den F p k .normal (keep.map fun t=>(t,look env t)) h)
  | .C n keep=>(I=true∧aTi n ops.toList=true) ∧
    vcA F.E h env (ops.toList.take n) 0 [] (fun acc=>mF F.E ops.toList (ops.toList.drop n) (gO F.E.T (cP (ops.toList.take n) 0) (fR acc env) h).1 (gO F.E.T (cP (ops.toList.take n) 0) (fR acc env) h).2 (fun env h=>den F p k .normal (keep.map fun t=>(t,look env t)) h))
  | .P keep sb=>I=false∧qO F.E (aL2 p.dl) sb ops.toList ops.toList env h (fun env h=>den F p k .normal (keep.map fun t=>(t,look env t)) h) (fun e env h=>AtP F (rU F k) e env h)
  | .Q n keep sb=>(I=true∧aTi n ops.toList=true) ∧
    vcA F.E h env (ops.toList.take n) 0 [] (fun acc=>qO F.E (aL2 p.dl) sb ops.toList (ops.toList.drop n) (gO F.E.T (cP (ops.toList.take n) 0) (fR acc env) h).1 (gO F.E.T (cP (ops.toList.take n) 0) (fR acc env) h).2 (fun env h=>den F p k .normal (keep.map fun t=>(t,look env t)) h) (fun e env h=>AtP F (rU F k) e env h))
  | .stop=>Tri F (.region id ops I) (rU F k) env h:=propext Iff.rfl
theorem aXN{Q:Exit→Act→World→Prop}{e:Exit}:den F p (.fin Q) e env h=At F (Q e) env h:=propext Iff.rfl
theorem aU2{y:Code}:den F p (.seq y k) .normal env h=vcT F p y k env h:=propext Iff.rfl
theorem aU3{y:Code}{id:Nat}:den F p (.seq y k) (.exit id) env h=den F p k (.exit id) env h:=propext Iff.rfl
theorem aU4{y:Code}:den F p (.seq y k) .ret env h=den F p k .ret env h:=propext Iff.rfl
theorem aU5{id:Nat}:den F p (.blk id k) .normal env h=den F p k .normal env h:=propext Iff.rfl
theorem aU6{id j:Nat}:den F p (.blk id k) (.exit j) env h=match decide (j=id) with
  | true=>den F p k .normal env h
  | false=>den F p k (.exit j) env h:=propext Iff.rfl
theorem aU7{id:Nat}:den F p (.blk id k) .ret env h=den F p k .ret env h:=propext Iff.rfl
theorem aU8:den F p (.scp k) .normal env h=den F p k .normal env h:=propext Iff.rfl
theorem aU9{j:Nat}:den F p (.scp k) (.exit j) env h=den F p k (.exit j) env h:=propext Iff.rfl
theorem aVa:den F p (.scp k) .ret env h=den F p k .ret env h:=propext Iff.rfl
theorem aVb{K:Act→World→Prop}:den F p (.stp K k) .normal env h=At F K env h:=propext Iff.rfl
theorem aVc{K:Act→World→Prop}{j:Nat}:den F p (.stp K k) (.exit j) env h=den F p k (.exit j) env h:=propext Iff.rfl
theorem aVd{K:Act→World→Prop}:den F p (.stp K k) .ret env h=den F p k .ret env h:=propext Iff.rfl
theorem aXO{E:Env}{i:Nat}{acc:List Ent}{K:List Ent→Prop}:vcA E h env [] i acc K=K acc:=propext Iff.rfl
theorem aVe{E:Env}{o:Oper}{r:List Oper}{i:Nat}{acc:List Ent}{K:List Ent→Prop}:vcA E h env (o::r) i acc K=match o.dst,opA E h env acc o with
  | some d,(p,v)=>xH acc o.guard∧(dP acc (xB acc o.guard)→p)∧vcA E h env r (i+1) (⟨i,d,xB acc o.guard,v⟩::acc) K
  | none,_=>False:=propext (by rfl)
theorem aVf{E:Env}{all:List Oper}{K:St→List Obj→Prop}:mF E all [] env h K=K env h:=propext Iff.rfl
theorem aTm{E:Env}{all:List Oper}{o:Oper}{r:List Oper}{K:St→List Obj→Prop}:mF E all (o::r) env h K=match o.guard with
  | none=>match tR E env h o with
   | (p,v,h')=>p∧mF E all r (oZ o.dst v env) h' K
  | some (j,I)=>match aBv all j with
   | some J=>match look env J with
    | .val .bool b=>(b=I→match tR E env h o with
      | (p,v,h')=>p∧mF E all r (oZ o.dst v env) h' K)∧(b= !I→mF E all r (oZ o.dst .undef env) h K)
    | .undef=>mF E all r (oZ o.dst .undef env) h K
    | _=>False
   | none=>False:=propext (by rfl)
theorem cD(hF:VOK F p){x y:Code}{D:Type}(J:D→Prop)(keep:List Nat)(N:D→St)(I:D→List (Nat⊕Obj))
  (hx:vcT F p x (.stp (fun Y w'=>∃d' c',J d'∧Sim F.E F.M F.w0 F.nt F.ds c' (aDj env keep (N d')) (mL h (I d')) Y w') k) env h)
  (U:∀d,J d→vcT F p y k (aDj env keep (N d)) (mL h (I d))):Tri F (.seq x y) (rU F k) env h :=
 aNW J (fun d=>aDj env keep (N d)) (fun d=>mL h (I d)) (aIF hF hx) (fun d hd=>aIF hF (U d hd))
theorem bZ(hF:VOK F p){x:Code}{D E R:Type}{G:Md}{step:D→Option (D⊕E)}{I:E→Option R}{Θ:R→Prop}{d0:D}(keep:List Nat)(N:D→St)(J:D→List (Nat⊕Obj))
  (hd:sat ((dC G step d0).bind I) Θ) (hh:h=mL h (J d0)) (Y:nZ h env (aDj env keep (N d0)))
  (round:∀d (A:D→Prop) (B:D⊕E→Prop),(∀x,B (.inl x)→A x)→(∀e,B (.inr e)→sat (I e) Θ)→sat (step d) B→vcT F p x (.stp (fun a' w'=>∃d' c',A d'∧Sim F.E F.M F.w0 F.nt F.ds c' (aDj env keep (N d')) (mL h (J d')) a' w') k) (aDj env keep (N d)) (mL h (J d))):Tri F (.loop x) (rU F k) env h:=by
 obtain⟨r,hr,U⟩:=hd;refine aNV (fun d=>(dC G step d).bind I=some r) (aAi step) (fun d=>aDj env keep (N d)) (fun d=>mL h (J d)) (aR d0 hr hh Y) fun d hi=>?_;obtain⟨s,h1,h2⟩:=aIA hi;refine aIF hF (k:=.stp _ k) (round d (fun d'=>(dC G step d').bind I=some r∧aAi step d'<aAi step d) (aD7 (fun d'=>(dC G step d').bind I=some r∧aAi step d'<aAi step d) (fun e=>I e=some r)) (fun _ hx=>hx) (fun e he=>⟨r,he,U⟩) ⟨s,h1,h2⟩)
theorem jT(hF:VOK F p){id:Nat}{ops:Array Oper}{I:Bool}(keep:List Nat)(hv:vcA F.E h env ops.toList 0 [] (fun acc=>den F p k .normal (aJ2 keep acc env) h)):Tri F (.region id ops I) (rU F k) env h :=
 aRR hF.fr (qQ hF k) hv
theorem aIG(hF:VOK F p){id:Nat}{ops:Array Oper}(keep:List Nat)(hv:mF F.E ops.toList ops.toList env h (fun env h=>den F p k .normal (keep.map fun t=>(t,look env t)) h)):Tri F (.region id ops false) (rU F k) env h :=
 aRS hF.fr (qQ hF k) hv
def aZc(P:Program)(fn:Func)(S:Nat→Prop)(w0:World)(r:RK)(Θ:r.ty.den→Prop):Exit→Act→World→Prop:=fun e a w=>∃y,Θ y∧post P fn S w0 r y e a w
theorem aQ{F:Fr}{fn:Func}{S:Nat→Prop}{r:RK}{Θ:r.ty.den→Prop}{env:St}{h:List Obj}{p:PlR}(hF:VOK F p)(l:List ResultVar)(U:F.M=top S)(I:F.ds= [])(N:fn.results=l.toArray){y:r.ty.den}(J:Θ y)(hq:(bD F.E.T h env l).1∧mC h r y (bD F.E.T h env l).2):At F (aZc F.P fn S F.w0 r Θ .ret) env h :=
 fun c a w Y=>⟨y,J,mE hF.fr l U I N hq c a w Y⟩
theorem cF{P:Program}{E:Env}{f:FuncId}{fn:Func}{I:Code}{a:Ty}{r:RK}{m:a.den→Option r.ty.den}(N:dB P E)(Y:P.follows .mixedOrders=true)(hf:P.funcs[f]? = some fn)(hb:fn.body=some I)(J:dQ fn.ntmps I=true)(hn:aGf a≤fn.ntmps)(p:PlR)
  (ht:∀(w0:World) (S:Nat→Prop) (x:a.den) (Θ:r.ty.den→Prop),a.wf x→sat (m x) Θ→VOK (fr P E S w0 fn.ntmps) p→vcT (fr P E S w0 fn.ntmps) p I (.fin (aZc P fn S w0 r Θ)) (cC a x 0) []) (hd:aAl P E.G p.dl:=by exact .nil):FOK P E.G f (mSpec a r m) :=
 yP N hf hb J hn fun w0 S x y U hx=>by
  have hF:VOK (fr P E S w0 fn.ntmps) p:=⟨⟨N,Y⟩,hd⟩;have:=aIF hF (ht w0 S x (fun z=>z=y) U ⟨y,hx,rfl⟩ hF);intro J c a w hs;refine wp_mono (this J c a w hs) fun e a' w' hq=>?_;obtain⟨z,rfl,hz⟩:=hq;exact hz
theorem aAm{P:Program}{E:Env}{f:FuncId}{fn:Func}{I:Code}{sp:iJ}(N:dB P E)(U:P.follows .mixedOrders=true)(Y:P.funcs[f]? = some fn)(hb:fn.body=some I)(J:dQ fn.ntmps I=true)(hn:∀d,(sp.av d).length≤fn.ntmps)(p:PlR)
  (ht:∀(c:Ctx) (w:World) (d:sp.D),AV.wfL (sp.av d)→Obj.wfL (sp.hp d)→sp.pre d→VOK ⟨P,E,GM sp c d,w,fn.ntmps,[]⟩ p→vcT ⟨P,E,GM sp c d,w,fn.ntmps,[]⟩ p I (.fin (bodyPost P fn (aD4 sp c w d))) (aBx ((sp.av d).map rpV) 0) (sp.hp d)) (hd:aAl P E.G p.dl:=by exact .nil):GOK P E.G f sp :=
 aOh N Y hb J hn fun c w d h1 h2 h3 _ =>
  have hF:VOK ⟨P,E,GM sp c d,w,fn.ntmps,[]⟩ p:=⟨⟨N,U⟩,hd⟩
  aIF hF (ht c w d h1 h2 h3 hF)
theorem aAn{α:Type}{o:Option α}{r:α}(h:o=some r):sat o (fun z=>z=r):=⟨r,h,rfl⟩
theorem eG{α:Type}{a r:α}(h:sat (some a) (fun z=>z=r)):a=r:=by
 obtain⟨x,I,J⟩:=h;cases I;exact J
theorem aVg{α:Type}{o:Option α}{Θ:α→Prop}{x:α}(h:o=some x)(hq:Θ x):sat o Θ:=⟨x,h,hq⟩
def aDn(vs:List AV)(i:Nat):Nat:=match vs.getD i .junk with| .ptr j _=>j|_=>0
def bBW(vs:List AV)(i j:Nat):Nat:=match vs.getD i .junk with| .fn _ l _=>l.getD j 0|_=>0
def bBX(h:List Obj)(i j:Nat):Nat:=match h.getD i .dead with| .box _ (.fn _ _ l)=>l.getD j 0|_=>0
end
section
variable {F:Fr} {p:PlR} {k:Kt} {env:St} {h:List Obj} {e:Pan}
theorem aXP{Q:Exit→Act→World→Prop}:AtP F (rU F (.fin Q)) e env h=AtP F Q e env h:=rfl
theorem aXQ{y:Code}:AtP F (rU F (.seq y k)) e env h=AtP F (rU F k) e env h:=rfl
theorem aXR{id:Nat}:AtP F (rU F (.blk id k)) e env h=AtP F (rU F k) e env h:=rfl
theorem aXS:AtP F (rU F (.scp k)) e env h=AtP F (rU F k) e env h:=rfl
theorem aXT{K:Act→World→Prop}:AtP F (rU F (.stp K k)) e env h=AtP F (rU F k) e env h:=rfl
variable {E:Env} {Δ:FuncId→List AV→List Obj→Option Hit} {sb:List Nat} {all:List Oper} {K:St→List Obj→Prop} {Kp:Pan→St→List Obj→Prop}
theorem aVh:qO E Δ sb all [] env h K Kp=K env h:=rfl
theorem aTn{o:Oper}{r:List Oper}:qO E Δ sb all (o::r) env h K Kp=match o.guard with
  | none=>aCE E Δ sb env h o (fun v h'=>qO E Δ sb all r (oZ o.dst v env) h' K Kp) (fun p h'=>Kp p env h')
  | some (j,I)=>match aBv all j with
   | some J=>match look env J with
    | .val .bool b=>(b=I→aCE E Δ sb env h o (fun v h'=>qO E Δ sb all r (oZ o.dst v env) h' K Kp) (fun p h'=>Kp p env h'))∧(b= !I→qO E Δ sb all r (oZ o.dst .undef env) h K Kp)
    | .undef=>qO E Δ sb all r (oZ o.dst .undef env) h K Kp
    | _=>False
   | none=>False:=propext (by rfl)
class KGo where
 k:AV→List Obj→Prop
 kp:Pan→List Obj→Prop
def goH(h:List Obj)(vs:List AV)(t:Hit)[w:KGo]:Prop :=
 aD5 h vs t∧aN8 (t.sp.out t.d) (fun v h'=>aUK (jE t.σ t.sp.m h.length h'.length) v=true∧w.k (emb (jE t.σ t.sp.m h.length h'.length) v) (wK t.σ t.sp.m h h')) (fun p h'=>w.kp p (wK t.σ t.sp.m h h'))
theorem aZU{vs:List AV}{sp:iJ}{σ:List Nat}{d:sp.D}{k:AV→List Obj→Prop}{kp:Pan→List Obj→Prop}: @goH h vs ⟨sp,σ,d⟩ ⟨k,kp⟩=(aD5 h vs ⟨sp,σ,d⟩∧aN8 (sp.out d) (fun v h'=>aUK (jE σ sp.m h.length h'.length) v=true∧k (emb (jE σ sp.m h.length h'.length) v) (wK σ sp.m h h')) (fun p h'=>kp p (wK σ sp.m h h'))):=rfl
theorem aVi{o:Oper}{k:AV→List Obj→Prop}{kp:Pan→List Obj→Prop}:aCE E Δ sb env h o k kp=match aOb Δ h (tS E.G env h o) with
  | some t=> @goH h (aLT (tS E.G env h o)) t ⟨k,kp⟩
  | none=>match aIv E.G env o with
   | some p=>kp p h
   | none=>match aIw E sb env h o with
    | (p,v,h')=>p∧k v h':=propext (by rfl)
end
attribute [go_sem ↓] aXP aXQ aXR aXS aXT aVh aTn aVi aN9 aOa
attribute [go_sem] aL2 kL aDn bBX bBW aUX aZU
attribute [go_sem ↓] aUY aTj aUZ aXL aXM aU0 aTk aTl aU1 aQf
attribute [go_sem ↓] aXN aU2 aU3 aU4 aU5 aU6 aU7 aU8 aU9 aVa aVb aVc aVd
attribute [go_sem ↓] aXO aVe aVf aTm
attribute [go_sem] aXI first aOk nZ jD mC eq_self aUW
end Go.Vc
namespace Go.Vc
open Go.RowKit
section
variable {F:Fr} {K:Act→World→Prop} {env:St} {h:List Obj}
theorem aTo(i q:Nat)(e:TypeId)(m:Mk)(t:Ty){n:Nat}{vs:List AV}(ho:h[i]? = some (.box n (.agg vs)))(hq:vs[q]? = some .nilS)(hs1:vs.all AV.solid1=true)(hk:At F K env (h.set i (.box n (.agg (vs.set q (.own h.length))))++ [yM e m t []])):At F K env h:=fun c a w N=>by
 have hil:i<h.length:=qJ ho;have hin:i<c.n:=by rw[N.good.n]; exact hil
 have hrep:fQ w c.S (.sl t) (.sl e m) [] [.slice none 0 0] []:=⟨.slice none 0 0,[],[],rfl,World.ownsRow_nil w 0 e t.cells,rfl,rfl,rfl,fun i h=>by simp at h⟩;obtain⟨c',hl,Y,hv⟩:=N.good.taken [] (w':=w) rfl rfl rfl (Nat.le_refl _) (fun _ _ _=>rfl) hrep List.nodup_nil (fun b hb=>by cases hb) ⟨_,_,_,rfl⟩;have Y:Good F.M F.w0 c' (h++ [yM e m t []]) w:=Y;have J:(h++ [yM e m t []])[i]? = some (.box n (.agg vs)):=by grind
 obtain⟨b,cells,e',q1,q2,q3,q4⟩:=Y.objs i _ J;simp only[aE] at q4;obtain⟨hql,hqe⟩:=List.getElem?_eq_some_iff.1 hq;obtain⟨pre,ds,post,e1,hp,hd,hset⟩:=aHE q4 (fun v hv=>List.all_eq_true.1 hs1 v hv) hql;have hfo:∀(vs:List AV) (q:Nat) (hq:q<vs.length),(bN (.agg vs) q).1=vs[q]:=by
  intro vs
  induction vs with
  | nil=>simp_all
  | cons v r ih=>intro q hq; cases q with
   | zero=>rfl
   | succ q=>simp only[bN,List.getElem_cons_succ]; exact ih q (by simpa using hq)
 rw[hfo vs q hql,hqe] at hd;have hd:ds= [.slice none 0 0]:=hd;subst hd;have U:aE c' w (.own h.length) [.slice none 0 0]:=by
  obtain⟨hh,_⟩:=hv;exact hh
 have hnew:=hset (.own h.length) _ U;rw[← e1] at hnew;have key:=Y.retell J (o':=.box n (.agg (vs.set q (.own h.length)))) (S':=c'.S) (B':=c'.bl i) (fun b hb=>.inl hb) (fun b hb=>hb) ⟨b,cells,e',q1,q2,q3,by
  have hle:c'.le ⟨c'.S,c'.hd,c'.n,fun j=>if j=i then c'.bl i else c'.bl j⟩:=⟨fun _ h=>h,Nat.le_refl _,fun _ _=>rfl⟩;have:aE c' w (.agg (vs.set q (.own h.length))) cells.toList:=by grind[aE]
  exact aE.keep hle (.refl _ _) _ _ this⟩ (fun b hb=>⟨hb,(Y.own i _ b J hb).2.2⟩)
 obtain⟨c2,hl2,hg2⟩:=key;rw[List.set_append_left _ _ hil] at hg2;have I:=hl.trans hl2;exact hk c2 a w ⟨hg2,N.glob.mono I.le.S I.same,fun s=>I.val (N.env s),N.size,N.defers⟩
theorem aIH{x:Code}{Q:Exit→Act→World→Prop}(i q:Nat)(e:TypeId)(m:Mk)(t:Ty){n:Nat}{vs:List AV}(U:h[i]? = some (.box n (.agg vs)))(hq:vs[q]? = some .nilS)(I:vs.all AV.solid1=true)(N:Tri F x Q env (h.set i (.box n (.agg (vs.set q (.own h.length))))++ [yM e m t []])):Tri F x Q env h:=fun J=>aTo i q e m t U hq I (N J)
end
end Go.Vc

