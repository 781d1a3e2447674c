import Derived.Test.YtmhjkbdicaelbaaGreatDoorZL3
import Derived.Scope
set_option linter.unusedVariables false
set_option linter.unusedSimpArgs false
namespace Go.Vc
open Go.RowKit
def oA:List Nat→List Obj→List Obj
 | [],h=>h
 | i::r,h=>oA r (h.set i .dead)
theorem pL:∀(l:List Nat) (h:List Obj),(oA l h).length=h.length
 | [],h=>rfl
 | i::r,h=>by rw[oA,pL r]; simp
theorem aDD:∀(l:List Nat) (h:List Obj) (i:Nat),i∉l→(oA l h)[i]? = h[i]?
 | [],h,i,_=>rfl
 | j::r,h,i,f=>by
  simp only[List.mem_cons,not_or] at f;rw[oA,aDD r _ i f.2,List.getElem?_set_ne (fun e=>f.1 e.symm)]
theorem aEl:∀(l:List Nat) (h:List Obj) (i:Nat) (o:Obj),i∈l→(oA l h)[i]? = some o→o= .dead
 | [],h,i,o,hi,_=>by cases hi
 | j::r,h,i,o,hi,f=>by
  rw[oA] at f;by_cases g:i∈r
  ·exact aEl r _ i o g f
  ·rw[aDD r _ i g] at f;have:i=j:=(by rcases List.mem_cons.1 hi with h|h; exact h; exact absurd h g);subst this;by_cases hl:i<h.length
   ·simp[hl] at f; exact f.symm
   ·rw[List.getElem?_eq_none (by simp; omega)] at f; cases f
section
variable {P:Program} {E:Env} {T:Tab} {M:Perm} {w0:World} {c:Ctx} {h:List Obj} {w:World}
def Ctx.pushB(c:Ctx)(v:Value)(B:Nat→Prop):Ctx:=⟨c.S,fun i=>if i=c.n then v else c.hd i,c.n+1,fun i=>if i=c.n then B else c.bl i⟩
theorem Ctx.le_pushB(c:Ctx)(v:Value)(B:Nat→Prop):c.le (c.pushB v B):=⟨fun _ h=>h,Nat.le_succ _,fun i hi=>by grind[pushB,Nat.ne_of_lt]⟩
theorem Good.remake(f:Good M w0 c h w)(l:List Nat){w':World}{o:Obj}{v':Value}{B:Nat→Prop}(hos:w'.os=w.os)(htp:w'.tape=w.tape)(hout:w'.output=w.output)(hsz:w.heap.size≤w'.heap.size)
  (hsame:∀b,b<w.heap.size→ ¬mY c h l b→w'.heap[b]? = w.heap[b]?) (hob:aIL (c.pushB v' B) w' c.n o)
  (U:∀b,dP (c.pushB v' B) c.n o b→mY c h l b∨(w.heap.size≤b∧b<w'.heap.size)) :
  Good M w0 (c.pushB v' B) (oA l h++ [o]) w'∧dG c w (c.pushB v' B) w':=by
 have hany:∀b,mY c h l b→(w0.heap.size≤b∨M.wr b)∧b<w.heap.size∧ ¬c.S b:=fun b ⟨j,q,_,h2,h3⟩=>f.own j q b h2 h3;have hl:dG c w (c.pushB v' B) w':=⟨c.le_pushB v' B,fun b hb=>hsame b (f.sfin b hb) (fun ha=>(hany b ha).2.2 hb)⟩;have hcase:∀j o',(oA l h++ [o])[j]? = some o'→(h[j]? = some o'∧j<c.n∧j∉l)∨(j=c.n∧o'=o)∨o'= .dead:=fun j o' Y=>by
  have hkl:=pL l h;rw[f.n];rcases Nat.lt_trichotomy j h.length with hlt|heq|hgt
  ·grind[List.getElem?_append_left,aEl,aDD]
  all_goals grind
 have J:∀j q,j<c.n→dP (c.pushB v' B) j q=dP c j q:=fun j q Y=>eR hl.le (by simp[Ctx.pushB,Nat.ne_of_lt Y]) Y q;have hfar:∀j q b,h[j]? = some q→j∉l→dP c j q b→ ¬mY c h l b:=fun j q b Y hn hb ⟨j',o',O,h2,h3⟩=>hn (f.sep j j' q o' b Y h2 hb h3▸O);refine⟨⟨by simp[Ctx.pushB,f.n,pL],⟨hos.trans f.keeps.os,htp.trans f.keeps.tape,hout.trans f.keeps.output,Nat.le_trans f.keeps.size hsz,fun b hlt hM=>?_⟩,fun b hb=>Nat.lt_of_lt_of_le (f.sfin b hb) hsz,f.src,fun j o' Y=>?_,fun j o' b Y z=>?_,fun j k q ok b Y hk' W I=>?_,aEh f.root hl.le⟩,hl⟩
 ·rw[hsame b (Nat.lt_of_lt_of_le hlt f.keeps.size) (fun ha=>?_)]
  ·exact f.keeps.block b hlt hM
  grind
 ·rcases hcase j o' Y with⟨g,L,hne⟩|⟨ej,eo⟩|eo
  ·exact(f.objs j o' g).keep hl L (by simp[Ctx.pushB,Nat.ne_of_lt L]) (fun b z=>hsame b (f.own j o' b g z).2.1 (hfar j o' b g hne z))
  ·simp_all
  ·subst eo; trivial
 ·rcases hcase j o' Y with⟨g,L,hne⟩|⟨ej,eo⟩|eo
  ·rw[J j o' L] at z;obtain⟨O,h2,h3⟩:=f.own j o' b g z;exact⟨O,Nat.lt_of_lt_of_le h2 hsz,h3⟩
  ·subst ej; subst eo;rcases U b z with O|O
   ·obtain⟨q1,q2,q3⟩:=hany b O;exact⟨q1,Nat.lt_of_lt_of_le q2 hsz,q3⟩
   ·exact⟨.inl (Nat.le_trans f.keeps.size O.1),O.2,fun hS=>by have:=f.sfin b hS; omega⟩
  ·subst eo; cases z
 ·rcases hcase j q Y with⟨g,L,hne⟩|⟨ej,eo⟩|eo
  ·rw[J j q L] at W;rcases hcase k ok hk' with⟨Z,hkn,hne'⟩|⟨ek,N⟩|N
   ·rw[J k ok hkn] at I;exact f.sep j k q ok b g Z W I
   ·subst ek; subst N;rcases U b I with O|O
    ·grind
    ·have:=(f.own j q b g W).2.1;omega
   ·subst N; cases I
  ·subst ej; subst eo;rcases hcase k ok hk' with⟨Z,hkn,hne'⟩|⟨ek,N⟩|N
   ·rw[J k ok hkn] at I;rcases U b W with O|O
    ·grind
    ·have:=(f.own k ok b Z I).2.1;omega
   ·omega
   ·subst N; cases I
  ·subst eo; cases W
theorem bEa{α:Type}{l:List (List α)}{i:Nat}(h:i<l.length){a:α}(ha:a∈l[i]):a∈l.flatten:=List.mem_flatten.2 ⟨_,List.getElem_mem h,ha⟩
theorem Good.closed(N:Good M w0 c h w){i:Nat}{e:TypeId}{m:Mk}{t:Ty}{xs:List t.den}{k:Nat}{v:AV}(ho:h[i]? = some (.trh e m t xs k v)){x:t.den}{l:List Nat}(ha:aBN h t m v=some (x,l))(hnl:l.Nodup)(hil:i∉l) :
  ∃c',dG c w c' w∧Good M w0 c' ((oA l h).set i (.tre e m t (xs.set k x))) w:=by
 obtain⟨css,Z,q⟩:=N.objs i _ ho;have hlc:=q.lc;have hlb:=q.lb;have hk:=q.kl;have hlt:=aA3 ho;have hin:i<c.n:=by rw[N.n]; exact hlt
 obtain⟨hv1,hv2⟩:=q.hv (by omega);obtain⟨B,r1,r2,r3⟩:=aUj N ha hnl hv1
 let c':Ctx:=⟨c.S,c.hd,c.n,fun j b=>if j=i then c.bl i b∨mY c h l b else c.bl j b⟩
 have hle:c.le c':=⟨fun _ h=>h,Nat.le_refl _,fun _ _=>rfl⟩;have hl:dG c w c' w:=⟨hle,.refl _ _⟩;have hcase:∀j g,((oA l h).set i (.tre e m t (xs.set k x)))[j]? = some g→(h[j]? = some g∧j<c.n∧j≠i∧j∉l)∨(j=i∧g= .tre e m t (xs.set k x))∨g= .dead:=fun j g I=>by
  by_cases e':i=j
  ·grind
  ·rw[List.getElem?_set_ne e'] at I;by_cases hm:j∈l
   ·grind[aEl]
   ·rw[aDD l h j hm] at I;exact .inl ⟨I,by rw[N.n]; grind,fun e=>e' e.symm,hm⟩
 have O:∀j g,j<c.n→j≠i→dP c' j g=dP c j g:=fun j g I hne=>eR hle (by grind) I g;have hfar:∀j g b,h[j]? = some g→j∉l→dP c j g b→ ¬mY c h l b:=fun j g b I hn hb ⟨j',o',W,h2,h3⟩=>hn (N.sep j j' g o' b I h2 hb h3▸W);have hsets:∀j (I:j<css.length),(css[j]).length=t.cells:=fun j I=>by
  by_cases e:j=k
  ·simp_all
  ·exact kT.length _ _ _ _ _ (q.el j (by omega) I (by omega) e)
 refine⟨c',hl,⟨by simp[c',N.n,pL],N.keeps,N.sfin,N.src,fun j g I=>?_,fun j g b I hb=>?_,fun j j' g U b I hj' J f=>?_,N.root⟩⟩
 ·rcases hcase j g I with⟨I,hjn,hne,_⟩|⟨rfl,rfl⟩|rfl
  ·exact(N.objs j g I).keep hl hjn (by grind) (fun _ _=>rfl)
  ·refine⟨hdB (c.hd j)++(Z.set k B).flatten,⟨c.hd j,css,Z.set k B,rfl,?_,by grind,by grind,rfl,fun z z1 z2 z3=>?_⟩,?_,fun b hb=>?_⟩
   ·rw[List.length_set]; exact q.row
   ·by_cases ez:k=z
    ·grind
    ·rw[List.getElem_set_ne ez,List.getElem_set_ne ez];exact q.el z (by omega) z2 (by omega) (fun e=>ez e.symm)
   ·have hd:=q.nd;have e3:Z.set k B=Z.take k++B::Z.drop (k+1):=(by simp_all[List.set_eq_take_append_cons_drop,if_pos]);have e4:Z=Z.take k++ []::Z.drop (k+1):=by
     have:=q.hb (by omega);grind[List.take_append_drop,List.drop_eq_getElem_cons]
    rw[e3];rw[e4] at hd;simp only[List.flatten_append,List.flatten_cons,List.nil_append] at hd ⊢;have hp:(hdB (c.hd j)++((Z.take k).flatten++(B++(Z.drop (k+1)).flatten))).Perm ((hdB (c.hd j)++((Z.take k).flatten++(Z.drop (k+1)).flatten))++B):=by
     grind
    refine hp.nodup_iff.2 (List.nodup_append.2 ⟨hd,r2,fun a ha b hb e=>?_⟩);subst e;have:c.bl j a:=q.bl a (by
     grind)
    exact hfar j _ a ho hil this (r3 a hb)
   ·simp only[c',if_true];rcases List.mem_append.1 hb with hb|hb
    ·exact .inl (q.bl b (List.mem_append_left _ hb))
    ·obtain⟨L,W,h2⟩:=List.mem_flatten.1 hb;rcases List.mem_or_eq_of_mem_set W with W|W
     ·exact .inl (q.bl b (List.mem_append_right _ (List.mem_flatten.2 ⟨L,W,h2⟩)))
     simp_all
  ·trivial
 ·rcases hcase j g I with⟨I,hjn,hne,_⟩|⟨rfl,rfl⟩|rfl
  ·rw[O j g hjn hne] at hb; exact N.own j g b I hb
  ·have hb:c'.bl j b:=hb;simp only[c',if_true] at hb;rcases hb with hb|⟨j',o',W,h2,h3⟩
   ·exact N.own j _ b ho hb
   ·exact N.own j' o' b h2 h3
  ·cases hb
 ·rcases hcase j g I with⟨hj1,hjn,hne,hnl1⟩|⟨ej,eo⟩|eo
  ·rw[O j g hjn hne] at J;rcases hcase j' U hj' with⟨hk',hkn,hne',hnl2⟩|⟨ek,Y⟩|Y
   ·rw[O j' U hkn hne'] at f;exact N.sep j j' g U b hj1 hk' J f
   ·subst ek; subst Y;have f:c'.bl j' b:=f;simp only[c',if_true] at f;rcases f with W|W
    ·exact N.sep j j' g _ b hj1 ho J W
    grind
   ·subst Y; cases f
  ·subst ej; subst eo;have J:c'.bl j b:=J;simp only[c',if_true] at J;rcases hcase j' U hj' with⟨hk',hkn,hne',hnl2⟩|⟨ek,Y⟩|Y
   ·rw[O j' U hkn hne'] at f;rcases J with W|W
    ·exact(N.sep j' j U _ b hk' ho f W).symm
    grind
   ·omega
   ·subst Y; cases f
  ·subst eo; cases J
end
end Go.Vc
namespace Go.Vc
open Go.RowKit
def okM:Ty→Mk→Bool
 | .sl t,.sl _ m=>true
 | .pair a r,.pair g f=>okM a g&&okM r f
 | _,.no=>true
 | _,_=>false
def ownRow(h:List Obj)(e:TypeId)(m:Mk)(f:Ty)(j:Nat):Option (List f.den):=(aBM h e m f (.own j)).map (·.1)
def aL9(h:List Obj)(i:Nat):Mk:=match h[i]? with
 | some (.tre _ m _ _)=>m
 | _=>.no
def aHu(E:Env)(h:List Obj)(t:TypeId)(s x:AV):Prop×AV×List Obj :=
 match E.T t with
 | some (.sl f)=>bif f.scalar then xS E h t s x else match x with
  | .own j=>match s with
   | .own i=>match ownRow h (E.el t) (aL9 h i) f i,ownRow h (E.el t) (aL9 h i) f j with
    | some q,some g=>(i≠j∧bound f (q.length+g.length)∧f.okB=true,.own h.length,oA [i,j] h++ [aKM (E.el t) (aL9 h i) f (q++g)])
    | _,_=>xS E h t s x
   | .nilS=>match ownRow h (E.el t) (aL9 h j) f j with
    | some g=>(bound f g.length∧f.okB=true,.own h.length,oA [j] h++ [aKM (E.el t) (aL9 h j) f g])
    | none=>xS E h t s x
   | _=>xS E h t s x
  | _=>xS E h t s x
 | _=>xS E h t s x
def aYq(E:Env)(h:List Obj)(t:TypeId)(l cp:AV):Prop×AV×List Obj :=
 match E.dm t with
 | none=>aPx E h t l cp
 | some m=>match E.T t with
  | some (.sl f)=>match aDx l,aDx cp with
   | some n,some k=>(f.okB=true∧okM f m=true∧0≤n∧n≤k∧(f.byt:Int)*k≤281474976710656∧k≤maxLen,.own h.length,h++ [aKM (E.el t) m f (List.replicate n.toNat f.zero)])
   | _,_=>(False,.junk,h)
  | _=>(False,.junk,h)
def aHv(h:List Obj)(m:Mk)(f:Ty):Nat→List (Nat×AV)→Option (List f.den×List Nat)
 | _,[]=>some ([],[])
 | k,(i,v)::r=>if i=k then match aBN h f m v,aHv h m f (k+1) r with
   | some (x,l),some (g,q)=>some (x::g,l++q)
   | _,_=>none
  else none
def aHw(E:Env)(h:List Obj)(t:TypeId)(m:Mk)(n:Nat)(ps:List (Nat×AV)):Prop×AV×List Obj :=
 match E.T t with
 | some (.sl f)=>match aHv h m f 0 ps with
  | some (g,l)=>(f.okB=true∧nodupN l=true∧ps.length=n∧n*f.cells≤16777216∧n≤maxLen,.own h.length,oA l h++ [aKM (E.el t) m f g])
  | none=>(False,.junk,h)
 | _=>(False,.junk,h)
where
 nodupN:List Nat→Bool
  | []=>true
  | i::r=> !r.contains i&&nodupN r
def okD(E:Env)(h:List Obj)(t:TypeId)(m:Mk)(ps:List (Nat×AV)):Bool :=
 match E.T t with
 | some (.sl f)=>(aHv h m f 0 ps).isSome
 | _=>false
section
variable {P:Program} {E:Env} {T:Tab} {M:Perm} {w0:World} {c:Ctx} {h:List Obj} {w:World}
theorem aYr:∀ {l:List Nat},aHw.nodupN l=true→l.Nodup
 | [],_=>List.nodup_nil
 | i::r,hd=>by
  simp only[aHw.nodupN,Bool.and_eq_true,Bool.not_eq_true',List.contains_eq_mem,decide_eq_false_iff_not] at hd;exact List.nodup_cons.2 ⟨hd.1,aYr hd.2⟩
theorem aPA(N:Good M w0 c h w){e:TypeId}{m:Mk}{f:Ty}{j:Nat}{xs:List f.den}(I:j<c.n)(J:one (c.hd j))(ha:ownRow h e m f j=some xs) :
  ∃B,kT w c.S (.sl f) (.sl e m) xs [c.hd j] B∧B.Nodup∧ ∀b∈B,mY c h [j] b:=by
 unfold ownRow at ha;cases hx:aBM h e m f (.own j) with
 | none=>simp_all
 | some p =>
  obtain⟨O,l⟩:=p;rw[hx] at ha;cases ha;obtain⟨B,q1,L,U⟩:=aL7 N hx (cs:=[c.hd j]) (show aN c w (.own j) [c.hd j] from⟨I,rfl,J⟩);refine⟨B,q1,L,fun b hb=>?_⟩;have hl:∀z∈l,z=j:=fun z g=>by
   simp only[aBM] at hx;split at hx
   ·split at hx
    ·rename_i q _ _;cases hc:aEc _ f _ with
     | none=>rw[hc] at hx; cases hx
     | some y=>rw[hc] at hx; simp only[Option.map_some,Option.some.injEq,Prod.mk.injEq] at hx; rw[← hx.2] at g; simpa using g
    ·cases hx
   ·split at hx
    ·cases hc:aEc _ f _ with
     | none=>rw[hc] at hx; cases hx
     | some y=>rw[hc] at hx; simp only[Option.map_some,Option.some.injEq,Prod.mk.injEq] at hx; rw[← hx.2] at g; simpa using g
    ·cases hx
   ·cases hx
  grind[uR]
theorem aUk(hE:eQ P E){t ty:TypeId}{O:Ty}(ht:E.T t=some (.sl O))(hok:O.okB=true){m:Mk}{S:Nat→Prop}{sv xv:Value}{xs ys:List O.den}{B1 B2:List Nat}
  (h1:kT w S (.sl O) (.sl (E.el t) m) xs [sv] B1) (h2:kT w S (.sl O) (.sl (E.el t) m) ys [xv] B2) (hnd:(B1++B2).Nodup) (hlt:∀b∈B1++B2,b<w.heap.size) (hS:∀b,S b→b<w.heap.size∧b∉B1)
  (hb:bound O (xs.length+ys.length)) :
  ∃v' w' B',(Builtin.append_ #[t,t] ty #[sv,xv]).run P w= .ok v' w'∧w.grownBy w' (aW sv)∧kT w' S (.sl O) (.sl (E.el t) m) (xs++ys) [v'] B'∧B'.Nodup∧(∀b∈B',b∈B1++B2∨(w.heap.size≤b∧b<w'.heap.size))∧ ∃a n k,v'= .slice a n k:=by
 have hd:=hE.el t O ht;obtain⟨e',hd',hTe',hpos⟩:=dZ (hE.T _ _ ht);have:e'=E.el t:=by simp_all
 subst this;have hTe:=hE.T _ _ hTe';obtain⟨i,hi,hsz,hz,hby⟩:=hTe.info;obtain⟨_,Z,z,e1,o1,l1,b1,rfl,r1⟩:=h1;obtain rfl:=(List.cons.inj e1).1;obtain⟨_,I,f,e2,o2,l2,b2,rfl,r2⟩:=h2;obtain rfl:=(List.cons.inj e2).1;have hsl:=gX o1;have W:=List.nodup_append.1 hnd;have Y:=List.nodup_append.1 W.1;have hd12:=List.nodup_append.1 W.2.1;have keep:∀(w':World) (v':Value),w.grownBy w' (aW sv)→w'.ownsRow 0 (E.el t) O.cells v' (xs.length+ys.length) (Z.flatten++I.flatten)→(∀b,aW v'=some b→aW sv=some b∨(w.heap.size≤b∧b<w'.heap.size)) →
   ∃B',kT w' S (.sl O) (.sl (E.el t) m) (xs++ys) [v'] B'∧B'.Nodup∧ ∀b∈B',b∈(hdB sv++z.flatten)++(hdB xv++f.flatten)∨(w.heap.size≤b∧b<w'.heap.size):=fun w' v' U hown J=>by
  have hsame:∀b,b<w.heap.size→aW sv≠some b→w'.heap[b]? = w.heap[b]? := fun b hb hne=>U.block b hb (fun e=>hne e.symm);have hin1:∀q (hq:q<z.length) b,b∈z[q]→b∈z.flatten:=fun q hq b hb=>bEa hq hb;have hin2:∀q (hq:q<f.length) b,b∈f[q]→b∈f.flatten:=fun q hq b hb=>bEa hq hb;have hSs:aBH S w w':=fun b hb=>hsame b (hS b hb).1 (fun e=>(hS b hb).2 (List.mem_append_left _ (aCX.2 e)));have k1:∀b∈z.flatten,w'.heap[b]? = w.heap[b]? := fun b hb=>hsame b (hlt b (List.mem_append_left _ (List.mem_append_right _ hb))) (fun e=>Y.2.2 b (aCX.2 e) b hb rfl);have k2:∀b∈f.flatten,w'.heap[b]? = w.heap[b]? := fun b hb=>hsame b (hlt b (List.mem_append_right _ (List.mem_append_right _ hb))) (fun e=>W.2.2 b (List.mem_append_left _ (aCX.2 e)) b (List.mem_append_right _ hb) rfl);refine⟨hdB v'++(z++f).flatten,⟨v',Z++I,z++f,rfl,by grind,by grind,by grind,rfl,fun q q1 q2 q3=>?_⟩,?_,fun b hb=>?_⟩
  ·by_cases hlt':q<xs.length
   ·rw[List.getElem_append_left hlt',List.getElem_append_left (by omega),List.getElem_append_left (by omega)];exact kT.keep (fun _ h=>h) hSs _ _ _ _ _ (fun b hb=>k1 b (hin1 q (by omega) b hb)) (r1 q hlt' (by omega) (by omega))
   ·have hq:q-xs.length<ys.length:=(by grind);rw[List.getElem_append_right (by omega),List.getElem_append_right (by omega),List.getElem_append_right (by omega)];have:=r2 (q-xs.length) hq (by omega) (by omega);have e1:I[q-Z.length]'(by omega)=I[q-xs.length]'(by omega):=(by grind);have e2:f[q-z.length]'(by omega)=f[q-xs.length]'(by omega):=(by grind);rw[e1,e2];exact kT.keep (fun _ h=>h) hSs _ _ _ _ _ (fun b hb=>k2 b (hin2 (q-xs.length) (by omega) b hb)) this
  ·rw[List.flatten_append];refine List.nodup_append.2 ⟨aYp _,List.nodup_append.2 ⟨Y.2.1,hd12.2.1,fun a ha b hb=>W.2.2 a (List.mem_append_right _ ha) b (List.mem_append_right _ hb)⟩,fun a ha b hb e=>?_⟩;subst e;have hm:a∈(hdB sv++z.flatten)++(hdB xv++f.flatten):=by
    grind
   rcases J a (aCX.1 ha) with h1|h1
   ·rcases List.mem_append.1 hb with hb|hb
    ·exact Y.2.2 a (aCX.2 h1) a hb rfl
    ·exact W.2.2 a (List.mem_append_left _ (aCX.2 h1)) a (List.mem_append_right _ hb) rfl
   grind
  ·rcases List.mem_append.1 hb with hb|hb
   ·grind[aCX,List.mem_append_left]
   grind
 have o1':=o1;rw[← hsz] at o1;have hnl:I.flatten.length=ys.length*O.cells:=by grind[jC,kT.length]
 rcases o2.2 with⟨rfl,h0⟩|⟨g2,cap2,cur2,rfl,_,hheap2,hle2,hcap2,hsz2,htake2⟩
 ·have hy:ys= []:=List.eq_nil_of_length_eq_zero h0;subst hy;have hc2:I= []:=List.eq_nil_of_length_eq_zero (by omega);subst hc2;have hrun:=aIm (P:=P) (ty:=ty) hd hi o1 (a:=none) (cap:=0) (Nat.zero_le _);have U:w.grownBy w (aW sv):=⟨rfl,rfl,rfl,Nat.le_refl _,fun _ _ _=>rfl⟩;grind
 ·have hone:∀u∈I.flatten,u.oneCell'=true:=fun u hu=>by
   obtain⟨L,hL1,hL2⟩:=List.mem_flatten.1 hu;obtain⟨q,hq,rfl⟩:=List.mem_iff_getElem.1 hL1;have:=bC.one _ _ _ (kT.toC (S':=fun _=>True) (fun _ _=>trivial) _ _ _ _ _ (fun _ _=>trivial) (r2 q (by omega) hq (by omega))) u hL2;cases u<;>first|rfl|exact this.elim
  have hcell:∀j u,I.flatten[j]? = some u→w.cell? ((⟨g2,0,none⟩:Addr).add j)=some u:=fun j u hj=>by
   rw[vN];simp only[World.cell?,hheap2,Nat.zero_add];grind
  obtain⟨v',w',hrun,N,U,_,J⟩:=run_append_own_at (P:=P) w 0 t ty (E.el t) i (kY O) O.cells i.bytes hd hi (hz hok) hsz rfl (by grind[aA4,iX]) hpos sv xs.length Z.flatten o1'
   ⟨g2,0,none⟩ ys.length cap2 I.flatten hnl hcell hone hb.1 (Nat.le_trans (Nat.mul_le_mul_left _ hby) hb.2) (Nat.zero_le _)
  have hsl':=gX N;rw[← uG hsl] at U J;rw[← uG hsl'] at J;obtain⟨B',q1,q2,q3⟩:=keep w' v' U N (fun b hb=>by
   rcases J with J|J
   ·grind
   ·right
    rw[J] at hb;cases hb;refine⟨Nat.le_refl _,?_⟩;rcases N.2 with⟨rfl,_⟩|⟨g,cp,cur,rfl,_,hheap,_⟩
    all_goals grind[aW,Array.getElem?_eq_some_iff])
  exact⟨v',w',B',hrun,U,q1,q2,q3,hsl'⟩
theorem bK9{v':Value}(h:∃a n m,v'= .slice a n m){w':World}{B:Nat→Prop}:aZ (c.pushB v' B) w' (.own c.n) v':=by
 obtain⟨a,n,m,rfl⟩:=h;refine⟨⟨Nat.lt_succ_self c.n,?_,?_⟩,(fun h=>by cases h),(fun _ f=>by simp)⟩
 ·show [Value.slice a n m]= [if c.n=c.n then Value.slice a n m else c.hd c.n];simp_all
 ·show one (if c.n=c.n then Value.slice a n m else c.hd c.n);rw[if_pos rfl]; trivial
theorem Good.taken(N:Good M w0 c h w)(l:List Nat){w':World}{e:TypeId}{m:Mk}{t:Ty}{xs:List t.den}{v':Value}{f:List Nat}(J:w'.os=w.os)(I:w'.tape=w.tape)(q:w'.output=w.output)(L:w.heap.size≤w'.heap.size)
  (hsame:∀b,b<w.heap.size→ ¬mY c h l b→w'.heap[b]? = w.heap[b]?) (U:kT w' c.S (.sl t) (.sl e m) xs [v'] f) (z:f.Nodup) (W:∀b∈f,mY c h l b∨(w.heap.size≤b∧b<w'.heap.size)) (hv:∃a n k,v'= .slice a n k) :
  ∃c',dG c w c' w'∧Good M w0 c' (oA l h++ [aKM e m t xs]) w'∧aZ c' w' (.own h.length) v':=by
 have e1:(c.pushB v' (· ∈ f)).hd c.n=v':=by simp[Ctx.pushB]
 have Y:(c.pushB v' (· ∈ f)).bl c.n=(· ∈ f):=by simp[Ctx.pushB]
 have g:kT w' (c.pushB v' (· ∈ f)).S (.sl t) (.sl e m) xs [(c.pushB v' (· ∈ f)).hd c.n] f:=by rw[e1]; exact U
 obtain⟨g1,O⟩:=N.remake l (o:=aKM e m t xs) (v':=v') (B:=(· ∈ f)) J I q L hsame (bG8 g z (fun b hb=>by simp_all)) (fun b hb=>W b (bG9 g (fun b hb=>by simp_all) hb));exact⟨_,O,g1,by rw[← N.n]; exact bK9 hv⟩
theorem bEb(hE:eQ P E)(g:Good M w0 c h w){t ty:TypeId}{s x:AV}{sv xv:Value}(hs:aZ c w s sv)(hx:aZ c w x xv)(hc:(aHu E h t s x).1) :
  ∃v' w' c',(Builtin.append_ #[t,t] ty #[sv,xv]).run P w= .ok v' w'∧dG c w c' w'∧Good M w0 c' (aHu E h t s x).2.2 w'∧aZ c' w' (aHu E h t s x).2.1 v':=by
 have old:=fun hc=>bG1 (P:=P) (t:=t) (ty:=ty) hE g hs hx hc;unfold aHu at hc ⊢;cases ht:E.T t with
 | none=>simp_all
 | some tt =>
  cases tt with
  | sl ct =>
   simp only[ht] at hc ⊢;cases hsc:ct.scalar with
   | true=>simp_all
   | false =>
    simp only[hsc,cond_false] at hc ⊢;cases x with
    | own j =>
     obtain⟨hj,rfl⟩:=aCW hx;have O:one (c.hd j):=(by obtain⟨hh,_⟩:=hx; grind[aN]);cases s with
     | own i =>
      obtain⟨hi,rfl⟩:=aCW hs;have hi1:one (c.hd i):=(by obtain⟨hh,_⟩:=hs; grind[aN]);simp only at hc ⊢;split at hc
      ·rename_i xs ys hxs I;obtain⟨hne,hb,J⟩:=hc;obtain⟨B1,p1,p2,p3⟩:=aPA g hi hi1 hxs;obtain⟨B2,q1,q2,W⟩:=aPA g hj O I;have hnd:=aPz g p2 q2 p3 W (by grind);have q:∀b∈B1++B2,mY c h [i,j] b:=fun b hb=>by
        rcases List.mem_append.1 hb with hb|hb
        ·exact uR (fun z L=>by simp at L; simp[L]) (p3 b hb)
        ·exact uR (fun z L=>by simp at L; simp[L]) (W b hb)
       obtain⟨v',w',B',Y,f,r1,r2,r3,r4⟩:=aUk (P:=P) (ty:=ty) hE ht J p1 q1 hnd (fun b hb=>by obtain⟨Z,U,_,N,h3⟩:=q b hb; exact(g.own Z U b N h3).2.1)
        (fun b hS=>⟨g.sfin b hS,fun hB=>by obtain⟨Z,U,_,N,h3⟩:=p3 b hB; exact(g.own Z U b N h3).2.2 hS⟩) hb
       have p1':=p1;obtain⟨_,_,Bs1,e1,_,_,_,e4,_⟩:=p1';obtain⟨c',k1,k2,k3⟩:=g.taken [i,j] f.os f.tape f.output f.size (fun b hb hn=>f.block b hb (fun e=>hn (q b (List.mem_append_left _ (by
        rw[e4];obtain rfl:=(List.cons.inj e1).1;grind[List.mem_append_left,aCX]))))) r1 r2 (fun b hb=>(r3 b hb).imp (q b) id) r4
       grind
      simp_all
     | nilS =>
      have hsv:sv= .slice none 0 0:=by
       obtain⟨h1,_,h3⟩:=hs;have h3:=h3 rfl;simp_all[aN,Value.cells]
      subst hsv;simp only at hc ⊢;split at hc
      ·rename_i ys I;obtain⟨hb,J⟩:=hc;obtain⟨B2,q1,q2,W⟩:=aPA g hj O I;have p1:kT w c.S (.sl ct) (.sl (E.el t) (aL9 h j)) [] [.slice none 0 0] []:=⟨.slice none 0 0,[],[],rfl,World.ownsRow_nil w 0 _ _,rfl,rfl,rfl,fun i h=>by simp at h⟩;obtain⟨v',w',B',Y,f,r1,r2,r3,r4⟩:=aUk (P:=P) (ty:=ty) hE ht J p1 q1 (by simp_all) (fun b hb=>by obtain⟨Z,U,_,N,h3⟩:=W b (by simp_all); exact(g.own Z U b N h3).2.1)
        (fun b hS=>⟨g.sfin b hS,by simp⟩) (by simp_all)
       obtain⟨c',k1,k2,k3⟩:=g.taken [j] f.os f.tape f.output f.size (fun b hb hn=>f.block b hb (fun e=>by simp[aW] at e)) r1 r2 (fun b hb=>(r3 b hb).imp (fun hb=>W b (by simp_all)) id) r4;grind
      simp_all
     | _=>grind
    | _=>grind
  | _=>simp_all
theorem bIr:∀(t:Ty) (m:Mk),t.okB=true→okM t m=true→kT w c.S t m t.zero (cF t) []:=by
 intro t
 induction t with
 | sl t J =>
  intro m f hm;cases m with
  | no=>grind[aKE,eG]
  | sl e m=>exact⟨.slice none 0 0,[],[],rfl,World.ownsRow_nil w 0 e t.cells,rfl,rfl,rfl,fun i h=>by simp_all⟩
  | pair _ _=>grind[okM]
 | pair a r g q =>
  intro m f hm;cases m with
  | no=>grind[aKE,eG]
  | sl e m=>grind[okM]
  | pair I z =>
   simp only[okM,Bool.and_eq_true] at hm;simp only[Ty.okB,Bool.and_eq_true] at f;exact⟨cF a,cF r,[],[],rfl,rfl,g I f.1 hm.1,q z f.2 hm.2⟩
 | _ =>
  grind[aKE,eG,okM]
theorem bIs(O:eQ P E)(hg:Good M w0 c h w){t:TypeId}{l cp:AV}{U Z:Value}(hl:aZ c w l U)(N:aZ c w cp Z)(hc:(aYq E h t l cp).1) :
  ∃v' w' c',(Instr.makeSlice t U Z).run P w= .ok v' w'∧dG c w c' w'∧Good M w0 c' (aYq E h t l cp).2.2 w'∧aZ c' w' (aYq E h t l cp).2.1 v':=by
 unfold aYq at hc ⊢;split at hc
 ·grind[bK6]
 ·rename_i m hm0;split at hc
  ·rename_i f ht;split at hc
   ·rename_i n k hn hk;obtain⟨g,hm,h0,h1,h2,h3⟩:=hc;obtain⟨k1,rfl⟩:=aBL hl hn;obtain⟨k2,rfl⟩:=aBL N hk;have hd:=O.el t f ht;obtain⟨e',hd',z,W⟩:=dZ (O.T _ _ ht);have:e'=E.el t:=(by simp_all);subst this;obtain⟨i,hi,I,hz,hby⟩:=(O.T _ _ z).info;have hbytes:(i.bytes:Int)*k≤281474976710656:=by
     have:(i.bytes:Int)*k≤(f.byt:Int)*k:=Int.mul_le_mul_of_nonneg_right (by omega) (by omega);omega
    have L:=run_make (P:=P) w t (E.el t) i (kY f) hd hi (hz g) k1 k2 n k h0 h1 hbytes (by grind[maxLen]);have hcells:(madeCells (kY f).cells (k.toNat*i.size)).toList=(List.replicate k.toNat (cF f)).flatten:=by
     rw[I,aA4 g,← iX g];exact aAJ _ _ (by grind[iX])
    have hsplit:(List.replicate k.toNat (cF f)).flatten=(List.replicate n.toNat (cF f)).flatten++(List.replicate (k.toNat-n.toNat) (cF f)).flatten:=by
     grind[List.flatten_append,List.replicate_append_replicate]
    have Y:(List.replicate n.toNat (cF f)).flatten.length=n.toNat*f.cells:=(by simp[iX g]);have J:kT (w.alloc (.cells (madeCells (kY f).cells (k.toNat*i.size)) (E.el t) (0,0))) c.S (.sl f) (.sl (E.el t) m) (List.replicate n.toNat f.zero) [.slice (some ⟨w.heap.size,0,none⟩) n.toNat k.toNat] [w.heap.size]:=by
     refine⟨_,List.replicate n.toNat (cF f),List.replicate n.toNat [],rfl,⟨by simp_all,.inr ⟨w.heap.size,k.toNat,_,by simp,Nat.zero_le _,aCE w _,by grind,by omega,by rw[size_madeCells,I],?_⟩⟩,by simp,by simp,?_,fun q q1 q2 q3=>?_⟩
     ·simp_all
     ·rw[flatten_nil (fun i hi=>by simp)]; rfl
     ·simp only[List.getElem_replicate];exact bIr (c:=c) f m g hm
    obtain⟨c',q1,q2,q3⟩:=hg.taken [] (w':=w.alloc (.cells (madeCells (kY f).cells (k.toNat*i.size)) (E.el t) (0,0))) rfl rfl rfl (by simp) (fun b hb _=>by show (w.heap.push _)[b]? = _; grind) J (by simp) (fun b hb=>.inr (by simp_all)) ⟨_,_,_,rfl⟩;exact⟨_,_,c',L,q1,q2,q3⟩
   simp_all
  simp_all
theorem bMW{sz:Nat}:∀(vs:List (Nat×Value)) (k:Nat) (cells:Array Value) (pre rest:List Value),cells.toList=pre++rest→pre.length=k*sz→rest.length=vs.length*sz →
  (∀i (h:i<vs.length),(vs[i]).1=k+i∧(vs[i]).2.cells.size=sz)→ ∃cells',Instr.fill (fun i=>some (i*sz,sz)) cells vs=some cells'∧cells'.toList=pre++(vs.map fun p=>p.2.cells.toList).flatten
 | [],k,cells,pre,rest,L,g,h3,_=>by
  have:rest= []:=List.eq_nil_of_length_eq_zero (by simp_all);subst this;exact⟨cells,rfl,by simp_all⟩
 | (i,v)::vs,k,cells,pre,rest,L,g,h3,f=>by
  obtain⟨e1,z⟩:=f 0 (by simp);simp only[List.getElem_cons_zero,Nat.add_zero] at e1 z;subst e1;have hsplit:rest=rest.take sz++rest.drop sz:=(List.take_append_drop _ _).symm;have I:(rest.take sz).length=sz:=by grind[List.length_take,List.length_cons,Nat.add_mul]
  have hc:cells.toList=pre++rest.take sz++rest.drop sz:=by grind
  have hstep:=aPr (v:=v) hc (by omega);obtain⟨cells',q1,N⟩:=bMW (sz:=sz) vs (i+1) _ (pre++v.cells.toList) (rest.drop sz) hstep (by grind) (by grind) (fun q hq=>by
   have:=f (q+1) (by grind);grind)
  refine⟨cells',?_,by grind⟩;have J:cells.size=(pre++rest).length:=by grind
  have hcond:¬(v.cells.size≠sz∨i*sz+v.cells.size>cells.size):=by
   grind
  simp only[Instr.fill];rw[if_neg (by grind),← g];exact q1
theorem aUl(N:Good M w0 c h w){m:Mk}{q:Ty}:∀(ps:List (Nat×AV)) (vs:List (Nat×Value)) (k:Nat) (xs:List q.den) (l:List Nat),aD1 c w ps vs→aHv h m q k ps=some (xs,l)→l.Nodup →
  xs.length=vs.length∧ ∃f:List (List Nat),f.length=xs.length∧f.flatten.Nodup∧(∀b∈f.flatten,mY c h l b)∧ ∀i (h1:i<xs.length) (h2:i<vs.length) (h3:i<f.length),(vs[i]).1=k+i∧kT w c.S q m xs[i] (vs[i]).2.cells.toList f[i]
 | [],_,k,xs,l,.nil,ha,_=>by
  simp only[aHv,Option.some.injEq,Prod.mk.injEq] at ha;simp_all
 | _,_,k,xs,l,.cons (k:=i) (a:=a) (v:=v) (ps:=ps) (vs:=vs) hv r,ha,hl=>by
  simp only[aHv] at ha;split at ha
  ·rename_i e;subst e;split at ha
   ·rename_i x l1 U l2 L W;simp only[Option.some.injEq,Prod.mk.injEq] at ha;obtain⟨rfl,rfl⟩:=ha;have g:=List.nodup_append.1 hl;obtain⟨q1,f,Z,q3,O,q5⟩:=aUl N ps vs (i+1) U l2 r W g.2.1;have J:aN c w a v.cells.toList:=by
     cases a<;>first|exact hv.1|(cases m<;>cases q<;>simp[aBN,aBM,AV.as] at L)
    obtain⟨B,r1,r2,Y⟩:=aUj N L g.1 J;refine⟨by simp[q1],B::f,by simp[Z],?_,fun b hb=>?_,fun z z1 z2 z3=>?_⟩
    ·grind[List.flatten_cons,aPz]
    ·rw[List.flatten_cons] at hb;rcases List.mem_append.1 hb with hb|hb
     ·exact uR (fun j I=>List.mem_append_left _ I) (Y b hb)
     ·exact uR (fun j I=>List.mem_append_right _ I) (O b hb)
    grind
   grind
  grind
theorem bHa(hE:eQ P E)(W:Good M w0 c h w){t:TypeId}{m:Mk}{n:Nat}{ps:List (Nat×AV)}{vs:List (Nat×Value)}(hp:aD1 c w ps vs)(hc:(aHw E h t m n ps).1) :
  ∃v' w' c',(Instr.buildSlice t n vs.toArray).run P w= .ok v' w'∧dG c w c' w'∧Good M w0 c' (aHw E h t m n ps).2.2 w'∧aZ c' w' (aHw E h t m n ps).2.1 v':=by
 unfold aHw at hc ⊢;split at hc
 ·rename_i f ht;split at hc
  ·rename_i xs l hab;obtain⟨hok,z,hn,hc1,hc2⟩:=hc;have hd:=hE.el t f ht;obtain⟨e',hd',J,hpos⟩:=dZ (hE.T _ _ ht);have:e'=E.el t:=(by simp_all);subst this;have q:=hE.T _ _ J;have hz:=tA q hok w;have z:=aYr z;have hpl:ps.length=vs.length:=parts_len hp;obtain⟨q1,Z,q2,q3,q4,q5⟩:=aUl W ps vs 0 xs l hp hab z;have Y:vs.length=n:=(by omega);have L:∀i (h:i<vs.length),(vs[i]).1=0+i∧(vs[i]).2.cells.size=f.cells:=fun i hi=>by
    grind[Array.length_toList,kT.length]
   have hfl:(vs.map fun p=>p.2.cells.toList).flatten.length=n*f.cells:=by
    rw[jC (n:=f.cells) (fun i hi=>by simp only[List.length_map] at hi; simp only[List.getElem_map]; rw[Array.length_toList]; exact(L i hi).2),List.length_map,Y]
   have U:¬(n*f.cells>2^24):=(by omega);have N:∀g:Array Value,(if n*f.cells=0 then (#[]:Array Value) else (kY f).cells)=g→ ∃cells',Instr.fill (fun i=>some (i*f.cells,f.cells)) ((Array.range (n*f.cells)).map (fun i=>g[i%g.size]!)) vs=some cells'∧cells'.toList=(vs.map fun p=>p.2.cells.toList).flatten:=fun g _=>by
    obtain⟨cells',I,k2⟩:=bMW (sz:=f.cells) vs 0 ((Array.range (n*f.cells)).map (fun i=>g[i%g.size]!)) [] ((Array.range (n*f.cells)).map (fun i=>g[i%g.size]!)).toList (by simp) (by simp) (by grind) L;simp_all
   obtain⟨cells',I,k2⟩:=N _ rfl;have hrun:(Instr.buildSlice t n vs.toArray).run P w= .ok (.slice (some ⟨w.heap.size,0,none⟩) n n) (w.alloc (.cells cells' (E.el t) (0,0))):=by
    by_cases h0:n*f.cells=0
    ·rw[if_pos h0] at I;simp only[Instr.buildSlice,Sem.run_bind,bB hd,Result.andThen_ok,dQ q,U,if_false,h0,if_true,Sem.run_ite,Sem.run_pure];rw[h0] at I;rw[if_neg (by decide),I];rfl
    ·rw[if_neg h0] at I;simp only[Instr.buildSlice,Sem.run_bind,bB hd,Result.andThen_ok,dQ q,U,if_false,h0,hz,Sem.run_ite,Sem.run_pure,I];rfl
   have hsame:∀b,b<w.heap.size→(w.alloc (.cells cells' (E.el t) (0,0))).heap[b]? = w.heap[b]? := fun b hb=>(by show (w.heap.push _)[b]? = _; grind);have hbs:∀b∈Z.flatten,b<w.heap.size:=fun b hb=>(by obtain⟨j',o',_,h2,h3⟩:=q4 b hb; exact(W.own j' o' b h2 h3).2.1);have O:kT (w.alloc (.cells cells' (E.el t) (0,0))) c.S (.sl f) (.sl (E.el t) m) xs [.slice (some ⟨w.heap.size,0,none⟩) n n] (w.heap.size::Z.flatten):=by
    have hxn:xs.length=n:=(by omega);refine⟨_,vs.map fun p=>p.2.cells.toList,Z,rfl,⟨by simp_all,.inr ⟨w.heap.size,n,cells',by rw[hxn],Nat.zero_le _,aCE w _,by omega,hc2,?_,?_⟩⟩,by simp_all,q2,rfl,fun i z1 z2 z3=>?_⟩
    ·grind
    ·grind
    ·simp only[List.getElem_map];exact kT.keep (fun _ h=>h) (fun b hb=>hsame b (W.sfin b hb)) _ _ _ _ _ (fun b hb=>hsame b (hbs b (bEa z3 hb))) (q5 i z1 (by omega) z3).2
   obtain⟨c',r1,r2,r3⟩:=W.taken l (w':=w.alloc (.cells cells' (E.el t) (0,0))) rfl rfl rfl (by simp) (fun b hb _=>hsame b hb) O (List.nodup_cons.2 ⟨fun hm=>by grind,q3⟩) (fun b hb=>by
    rcases List.mem_cons.1 hb with rfl|hb
    ·simp_all
    grind) ⟨_,_,_,rfl⟩
   grind
  simp_all
 simp_all
where
 parts_len {ps:List (Nat×AV)} {vs:List (Nat×Value)} (h:aD1 c w ps vs):ps.length=vs.length:=by
  induction h with
  | nil=>rfl
  | cons _ _ ih=>simp[ih]
theorem bEc:∀(t:Ty),t.okB=true→aKu t=true→jY c w (iV t) (cF t)∧(iV t).all AV.solid1=true∧aL (iV t)=t.cells:=by
 intro t
 induction t with
 | pair a r _ z =>
  intro f hb;simp only[Ty.okB,Bool.and_eq_true] at f;obtain⟨g,q,h3⟩:=z f.2 hb;cases a with
  | sl a=>exact⟨⟨[.slice none 0 0],cF r,rfl,rfl,g⟩,by simp only[iV,List.all_cons,q]; rfl,by simp only[iV,aL,h3]; rfl⟩
  | _=>exact⟨⟨cF _,cF r,rfl,eG w c.S _ f.1,g⟩,by simp only[iV,List.all_cons,q]; rfl,by simp only[iV,aL,h3]; rfl⟩
 | unit=>intro _ _; exact⟨rfl,rfl,rfl⟩
 | _=>grind[aKu]
end
end Go.Vc
namespace Go.Vc
open Go.RowKit
def bFL(c x y:AV):Prop×AV :=
 match c,x,y with
 | .val .bool q,.val .bool a,.val .bool b=>(True,.val .bool (bif q then a else b))
 | .val .bool q,.undef,.val .bool b=>(q=false,.val .bool b)
 | .val .bool q,.val .bool a,.undef=>(q=true,.val .bool a)
 | _,_,_=>(False,.junk)
def bBQ(Γ:FuncId→List AV→Option aH)(f:FuncId)(vs:List AV):Bool :=
 match Γ f vs with
 | some ⟨_,.own _ _,_,_⟩=>true
 | _=>false
def bFM:Option Ty→Bool
 | some (.i .i64)=>true
 | _=>false
noncomputable def aTF(E:Env)(h:List Obj)(ρ:Operand→AV)(o:Oper)(c:Call):Prop×AV×List Obj :=
 match c.callee with
 | .builtin .append=>match c.args.toList.map ρ,c.argTypes.toList with
  | [s,x],[t,g]=>bif bFM (E.T g) then aKC E h t s x else bif isStr (E.T g) then aKD E h t s x else ((aHu E h t s x).1∧g=t,(aHu E h t s x).2)
  | _,_=>(False,.junk,h)
 | .value (.func f)=>bif bBQ E.Γ f (c.args.toList.map ρ) then aKB E.Γ h f (c.args.toList.map ρ) else ((pv E h ρ o).1,(pv E h ρ o).2,h)
 | _=>((pv E h ρ o).1,(pv E h ρ o).2,h)
def aEV(E:Env)(h:List Obj)(t:TypeId):Prop×AV×List Obj :=
 match E.mp t with
 | some (k,e)=>match E.T k,E.T e with
  | some g,some f=>(True,.mp h.length,h++ [.map g f []])
  | _,_=>(False,.junk,h)
 | none=>(False,.junk,h)
def aUm(E:Env)(h:List Obj)(t:TypeId)(m k v:AV):Prop×AV×List Obj :=
 match m with
 | .mp i=>match h[i]? with
  | some (.map f g l)=>match AV.as (h.map dY) f k,AV.as (h.map dY) g v with
   | some x,some y=>(f.keyB=true∧bIj E t f g,.junk,h.set i (.map f g (aM2 f l x y)))
   | _,_=>(False,.junk,h)
  | _=>(False,.junk,h)
 | _=>(False,.junk,h)
def aEW(E:Env)(h:List Obj)(t:TypeId):Prop×AV×List Obj :=
 match E.T t with
 | some (.sl f)=>(f.okB=true,.own h.length,h++ [.row (E.el t) f []])
 | _=>(False,.junk,h)
noncomputable def aEd(E:Env)(h:List Obj)(ρ:Operand→AV)(o:Oper):Prop×AV×List Obj :=
 match o.op with
 | .alloc t=>match E.T t with
  | some f=>bif E.dz t then (f.okB=true∧aKu f=true,.ptr h.length [],h++ [.box f.cells (.agg (iV f))]) else (f.okB=true,.ptr h.length [],h++ [.box (bxN t f) (aIZ f)])
  | none=>(False,.junk,h)
 | .box t x=>((ρ x).solid=true,.ptr h.length [],h++ [.box (ρ x).nc (ρ x)])
 | .store t a x=>aHs E.T h t (ρ a) (ρ x)
 | .makeSlice t l cp=>aYq E h t (ρ l) (ρ cp)
 | .makeMap t none=>aEV E h t
 | .buildSlice t n ps=>match E.dm t with
  | some m=>bif okD E h t m (ps.toList.map fun p=>(p.1,ρ p.2)) then aHw E h t m n (ps.toList.map fun p=>(p.1,ρ p.2)) else ((pv E h ρ o).1,(pv E h ρ o).2,h)
  | none=>match n,ps.toList with
   | 0,[]=>aEW E h t
   | _,_=>((pv E h ρ o).1,(pv E h ρ o).2,h)
 | .mapUpdate t m k v=>aUm E h t (ρ m) (ρ k) (ρ v)
 | .insert t m k v=>aUm E h t (ρ m) (ρ k) (ρ v)
 | .pick c x y=>((bFL (ρ c) (ρ x) (ρ y)).1,(bFL (ρ c) (ρ x) (ρ y)).2,h)
 | .call c=>aTF E h ρ o c
 | _=>((pv E h ρ o).1,(pv E h ρ o).2,h)
def bOd:Option Ty→Bool
 | some (.sl (.u .u8))=>true
 | _=>false
def aUn(E:Env)(ρ:Operand→AV)(o:Oper):List Nat :=
 match o.op with
 | .call c=>match c.callee with
  | .value (.func f)=>match E.Γ f (c.args.toList.map ρ) with
   | some sp=>bif sp.res.ty.scalar then [] else (c.args.toList.map ρ).flatMap AV.tags
   | none=>[]
  | _=>[]
 | .slice _ x _ _ _=>(ρ x).tags
 | .buildSlice t _ ps=>match E.dm t with
  | some _=>[]
  | none=>ps.toList.flatMap fun p=>(ρ p.2).tags
 | .store t a x=>match ρ a with
  | .ptr _ (_::_)=>bif bOd (E.T t)||(E.dm t).isSome then [] else (ρ x).tags
  | _=>[]
 | .mapUpdate _ _ _ v=>(ρ v).tags
 | .insert _ _ _ v=>(ρ v).tags
 | _=>[]
noncomputable def xU(E:Env)(env:St)(h:List Obj)(o:Oper):Prop×AV×List Obj :=
 aEd E (freezeAll (aUn E (evA E.G env) o) h) (fun x=>aZm (freezeAll (aUn E (evA E.G env) o) h) (evA E.G env x)) o
def wU(d:Option Nat)(v:AV)(env:St):St :=
 match d with
 | some d=>(d,v)::env
 | none=>env
def aGE(ops:List Oper)(j:Nat):Option Nat:=match ops[j]? with
 | some o=>o.dst
 | none=>none
def yZ(E:Env)(all:List Oper):List Oper→St→List Obj→(St→List Obj→Prop)→Prop
 | [],env,h,K=>K env h
 | o::r,env,h,K=>match o.guard with
  | none=>match xU E env h o with
   | (p,v,h')=>p∧yZ E all r (wU o.dst v env) h' K
  | some (j,f)=>match aGE all j with
   | some g=>match look env g with
    | .val .bool b=>(b=f→match xU E env h o with
      | (p,v,h')=>p∧yZ E all r (wU o.dst v env) h' K)∧(b= !f→yZ E all r (wU o.dst .undef env) h K)
    | .undef=>yZ E all r (wU o.dst .undef env) h K
    | _=>False
   | none=>False
section
variable {P:Program} {E:Env} {M:Perm} {w0:World} {c:Ctx} {h:List Obj} {w:World}
structure aMa(M:Perm)(w0:World)(c:Ctx)(w:World)(h':List Obj)(av:AV)(v:Value)(w':World)(c':Ctx):Prop where
 later:dG c w c' w'
 good:Good M w0 c' h' w'
 val:aZ c' w' av v
def bEd(P:Program)(M:Perm)(w0:World)(c:Ctx)(o:Oper)(a:Act)(w:World)(h':List Obj)(av:AV):Prop :=
 (∃v w' c',(execOp a.eval o).run P w= .ok (.value v) w'∧aMa M w0 c w h' av v w' c') ∨
 (∃w' c',(execOp a.eval o).run P w= .ok .skip w'∧aMa M w0 c w h' av Go.undef w' c') ∨
 (∃f args,(execOp a.eval o).run P w= .ok (.enter f args) w∧Calls P f args w fun e w'=>∃v c',e= .returned v∧aMa M w0 c w h' av v w' c')
theorem Did.toE{o:Oper}{a:Act}{av:AV}(hd:Did P M w0 h c o a w av):bEd P M w0 c o a w h av:=by
 rcases hd with⟨v,w',c',g,ha⟩|⟨f,args,g,hc⟩
 ·exact .inl ⟨v,w',c',g,ha.later,ha.good,ha.val⟩
 ·refine .inr (.inr ⟨f,args,g,hc.mono ?_⟩);rintro e w' ⟨v,c',he,ha⟩;exact⟨v,c',he,ha.later,ha.good,ha.val⟩
theorem bEd.wp{o:Oper}{a:Act}{av:AV}{h':List Obj}{next:Act→World→Prop}{Q:Exit→Act→World→Prop}(hd:bEd P M w0 c o a w h' av)(q:∀v w' c',aMa M w0 c w h' av v w' c'→next (a.put o.dst v) w'):o.wp P a w next Q:=by
 rcases hd with⟨v,w',c',g,ha⟩|⟨w',c',g,ha⟩|⟨f,args,g,hc⟩
 ·unfold Oper.wp; rw[g]; exact q v w' c' ha
 ·unfold Oper.wp; rw[g]; exact q _ w' c' ha
 ·unfold Oper.wp;rw[g];refine Calls.mono hc ?_;grind
theorem bEe(f:Good M w0 c h w){t:TypeId}(hc:(aEV E h t).1) :
  ∃v w' c',(Instr.makeMap t none).run P w= .ok v w'∧aMa M w0 c w (aEV E h t).2.2 (aEV E h t).2.1 v w' c':=by
 unfold aEV at hc ⊢;split at hc
 ·rename_i k e he;split at hc
  ·rename_i q g hk hv;simp only[hk,hv];have hkeep:fB nothing w (w.alloc (.map #[] 0)):=fB.alloc nothing w _;have e1:(c.push (.map (some w.heap.size))).hd c.n= .map (some w.heap.size):=(by simp[Ctx.push]);have:=f.push hkeep (o:=.map q g []) (hv:=.map (some w.heap.size)) (by
    refine⟨w.heap.size,#[],0,e1,aCE w _,rfl,fun j h=>by simp at h⟩) (fun b hb=>by
    simp_all[dP,aW,Option.some.injEq,Nat.le_refl])
   refine⟨.map (some w.heap.size),_,_,rfl,this.2,this.1,?_⟩;rw[← f.n];exact⟨⟨Nat.lt_succ_self c.n,by rw[e1]; rfl,by rw[e1]; trivial⟩,(fun h=>by cases h),(fun _ z=>by simp)⟩
  simp_all
 simp_all
theorem bIt(hE:eQ P E)(O:Good M w0 c h w){t:TypeId}{m k v:AV}{mv kv vv:Value}(hm:aZ c w m mv)(hk:aZ c w k kv)(hv:aZ c w v vv)(hc:(aUm E h t m k v).1) :
  ∃w',(Instr.mapUpdate t mv kv vv).run P w= .ok () w'∧dG c w c w'∧Good M w0 c (aUm E h t m k v).2.2 w'∧(aUm E h t m k v).2.1= .junk:=by
 unfold aUm at hc ⊢;split at hc
 ·rename_i i;split at hc
  ·rename_i J Z l W;split at hc
   ·rename_i x y hx hy;obtain⟨h1,h3⟩:=hc;simp only[W,hx,hy];obtain⟨b,z,clock,q1,q2,q3,q4⟩:=O.objs i _ W;have hmv:mv= .map (some b):=by
     obtain⟨r1,_,r3⟩:=hm;simp only[aN] at r1;have r3:=r3 rfl;simp_all[Value.cells]
    subst hmv;unfold bIj at h3;split at h3
    ·rename_i kt et he;have g:=yY O hk hx;have hvy:=yY O hv hy;have hu:=hE.mp _ _ _ he;have hgo:(getObj b).run P w= .ok (.map z clock) w:=(by simp[getObj,Sem.run,q2]);have hl:z.toList.length=l.length:=(by omega);have hf:=aM4 (P:=P) hE.T h3.1 h1 g w l z.toList hl (fun j h h'=>by simp_all);have hck:=aK0 (P:=P) false 9998 hE.T h3.1 h1 g w;have q:=aPt (c:=J) (w:=w) (S:=c.S) (x:=x) l z.toList 0 hl;have L:dP c i (.map J Z l) b:=(by simp[dP,q1,aW]);have hblt:b<w.heap.size:=(O.own i _ b W L).2.1;have hnS:=(O.own i _ b W L).2.2;have I:∀(f:Array MapEntry) (clock':Nat) (N:List (J.den×Z.den)),f.size=N.length→(∀j (h:j<N.length) (h':j<f.size),cZ w c.S J N[j].1 f[j].key∧cZ w c.S Z N[j].2 f[j].val) →
       ∃w',(setObj b (.map f clock')).run P w= .ok () w'∧dG c w c w'∧Good M w0 c (h.set i (.map J Z N)) w':=fun f clock' N hs hr=>by
      have hsame:∀k,k≠b→(w.heap.setIfInBounds b (Go.Obj.map f clock'))[k]? = w.heap[k]? := fun k hk=>(by grind);have U:aBH c.S w { w with heap:=w.heap.setIfInBounds b (.map f clock') }:=fun k hk=>hsame k (fun e=>hnS (e▸hk));refine⟨{ w with heap:=w.heap.setIfInBounds b (.map f clock') },by simp[setObj,Sem.run,q2],?_⟩;have:=O.modify (o':=.map J Z N) W L (w':={ w with heap:=w.heap.setIfInBounds b (.map f clock') }) rfl rfl rfl (by simp) hsame ?_ ?_
      ·simp_all
      ·exact⟨b,f,clock',q1,by grind,hs,fun j h h'=>⟨(hr j h h').1.keep (fun _ h=>h) U,(hr j h h').2.keep (fun _ h=>h) U⟩⟩
      grind[dP,aW]
     cases Y:uF J l x with
     | some y0 =>
      rw[Y] at q;obtain⟨j,e,k1,r1,r2,r3,r4,r5⟩:=q;rw[r1] at hf;simp only[Nat.zero_add] at hf;have hjl:j<l.length:=by
       grind
      have hje:j<z.size:=(by omega);have e1:z[j]=e:=by
       simp_all
      have e2:l[j]=(k1,y0):=(by simp_all);have hkk:=(q4 j hjl hje).1;rw[e1,e2] at hkk;have hkey:e.key=kv:=((bIg h1 g hkk).1 r4).symm;obtain⟨w',s1,s2,s3⟩:=I (z.modify j fun e=>{ e with key:=kv,val:=vv }) clock (l.set j (k1,y)) (by simp[q3]) (fun j' h h'=>by
       grind)
      refine⟨w',?_,s2,by simp_all,trivial⟩;have hst:=bGX (P:=P) h1 g w;simp_all[Instr.mapUpdate,bB,Result.andThen,Array.getElem?_eq_getElem]
     | none =>
      rw[Y] at q;rw[q.1] at hf;obtain⟨w',s1,s2,s3⟩:=I (z.push { key:=kv,val:=vv,born:=clock }) (clock+1) (l++ [(x,y)]) (by simp[q3]) (fun j' h h'=>by
       grind)
      simp_all[trivial,Instr.mapUpdate,bB,Result.andThen]
    simp_all
   simp_all
  simp_all
 simp_all
theorem aZp(z:eQ P E)(L:Good M w0 c h w){t:TypeId}(hc:(aEW E h t).1) :
  ∃v' w' c',(Instr.buildSlice t 0 #[]).run P w= .ok v' w'∧dG c w c' w'∧Good M w0 c' (aEW E h t).2.2 w'∧aZ c' w' (aEW E h t).2.1 v':=by
 unfold aEW at hc ⊢;split at hc
 ·rename_i g ht;have hd:=z.el t g ht;obtain⟨N,O,f,J⟩:=dZ (z.T _ _ ht);have:N=E.el t:=by simp_all
  subst this;have I:=z.T _ _ f;have hk:fB nothing w (w.alloc (.cells #[] (E.el t) (0,0))):=fB.alloc nothing w _;have e:(c.push (.slice (some ⟨w.heap.size,0,none⟩) 0 0)).hd c.n= .slice (some ⟨w.heap.size,0,none⟩) 0 0:=by simp[Ctx.push]
  have:=L.push hk (o:=.row (E.el t) g []) (hv:=.slice (some ⟨w.heap.size,0,none⟩) 0 0) (by
   show aBI _ _ _ _ _ _;rw[e];exact⟨[],⟨by simp,.inr ⟨w.heap.size,0,#[],rfl,Nat.zero_le _,aCE w _,Nat.le_refl _,Nat.zero_le _,by simp,by simp⟩⟩,⟨rfl,[],rfl,rfl,fun i hi=>by grind⟩⟩) (fun b hb=>by
   simp_all[dP,aW,Option.some.injEq,Nat.le_refl])
  refine⟨.slice (some ⟨w.heap.size,0,none⟩) 0 0,_,_,?_,this.2,this.1,?_⟩
  ·have e1:(Array.range (0*g.cells)).map (fun x=>(#[]:Array Value)[x%(#[]:Array Value).size]!)= #[]:=(by simp);have q:¬(0*g.cells>2^24):=(by omega);simp only[Instr.buildSlice,Sem.run_bind,bB hd,Result.andThen_ok,dQ I,q,if_false,Nat.zero_mul,if_true,Sem.run_ite,Sem.run_pure];rw[if_neg (by decide)];simp only[Nat.zero_mul] at e1;rw[e1];rfl
  ·have:=aE7 (c:=c) (v':=.slice (some ⟨w.heap.size,0,none⟩) 0 0) ⟨_,_,_,rfl⟩ (w':=w.alloc (.cells #[] (E.el t) (0,0))) (S':=c.S);rw[← L.n];exact this
 simp_all
theorem bNp(N:eQ P E)(L:Good M w0 c h w)(hG:sY E.G c.S w){o:Oper}{a:Act}{ρ:Operand→AV}(g:∀x∈o.op.operands,aZ c w (ρ x) (a.eval x))(hc:(aEd E h ρ o).1):bEd P M w0 c o a w (aEd E h ρ o).2.2 (aEd E h ρ o).2.1:=by
 have O:(pv E h ρ o).1→bEd P M w0 c o a w h (pv E h ρ o).2:=fun hc=>(bMU N L hG g hc).toE;obtain⟨dst,op,ty,pos,aft,gd⟩:=o;cases op
 case alloc t =>
  simp only[aEd] at hc ⊢;split at hc
  ·rename_i Y ht;cases hdz:E.dz t with
   | true =>
    simp only[hdz,cond_true] at hc ⊢;obtain⟨hok,hzb⟩:=hc;have hz:=tA (N.T _ _ ht) hok w;obtain⟨k1,k2,k3⟩:=bEc (c:=c) (w:=w) Y hok hzb;have hag:Y.isAgg=true:=(by cases Y<;>first|rfl|grind[aKu]);have hzv:kY Y= .agg (cF Y).toArray:=(by simp_all[kY,if_pos]);obtain⟨w',c',I,z,h3,J⟩:=aPy L (t:=t) (P:=P) (x:=.agg (iV Y)) (v:=kY Y) (n:=Y.cells) (.inl k3) k2 (by
     rw[hzv];exact⟨by grind[aN,Value.cells],fun _=>⟨_,rfl⟩,fun h=>by cases h⟩)
    refine .inl ⟨_,w',c',?_,z,h3,J⟩;simp[execOp,Instr.alloc,hz,I]
   | false =>
   simp only[hdz,cond_false] at hc ⊢;have hz:=tA (N.T _ _ ht) hc w;obtain⟨w',c',I,z,h3,J⟩:=aPy L (t:=t) (P:=P) (x:=aIZ Y) (by rw[(aNb (c:=c) (w:=w) hc).2.2.1]; exact bHU t Y) (aNb (c:=c) (w:=w) hc).2.1 (aNb hc).2.2.2;refine .inl ⟨_,w',c',?_,z,h3,J⟩;simp[execOp,Instr.alloc,hz,I]
  simp_all
 case box t x =>
  simp only[aEd] at hc ⊢;obtain⟨w',c',I,z,h3,J⟩:=aPy L (t:=t) (P:=P) (.inl rfl) hc (g x (by simp[Op.operands]));exact .inl ⟨_,w',c',by simp[execOp,Instr.box,I],z,h3,J⟩
 case store t p x =>
  simp only[aEd] at hc ⊢;obtain⟨w',I,z,h3⟩:=bIp (P:=P) N.T L (g p (by simp[Op.operands])) (g x (by simp[Op.operands])) hc;refine .inr (.inl ⟨w',c,by simp[execOp,I],z,h3,?_⟩);have:(aHs E.T h t (ρ p) (ρ x)).2.1= .junk:=by
   unfold aHs;split<;>(try rfl)
   grind
  rw[this]; trivial
 case makeMap t r =>
  cases r with
  | none =>
   simp only[aEd] at hc ⊢;obtain⟨v,w',c',I,z⟩:=bEe (P:=P) L hc;exact .inl ⟨v,w',c',by simp[execOp,I],z⟩
  | some _=>exact O hc
 case buildSlice t n ps =>
  simp only[aEd] at hc ⊢;split at hc
  ·rename_i m hm;cases hokd:okD E h t m (ps.toList.map fun p=>(p.1,ρ p.2)) with
   | false=>simp_all
   | true =>
   simp only[hokd,cond_true] at hc ⊢;have hp:=aM6 (l:=ps.toList) (ρ:=ρ) (a:=a) (c:=c) (w:=w) (fun p hp=>g p.2 (List.mem_toArray.2 (List.mem_map_of_mem hp)));obtain⟨U,w',c',I,z,h3,J⟩:=bHa (P:=P) N L hp hc;refine .inl ⟨U,w',c',?_,z,h3,J⟩;have e:(ps.map fun p=>(p.1,a.eval p.2))=(ps.toList.map fun p=>(p.1,a.eval p.2)).toArray:=(by grind);simp[execOp,e,I]
  rename_i hm;split at hc
  ·rename_i hps;obtain rfl:ps= #[]:=(by simp_all);obtain⟨U,w',c',I,z,h3,J⟩:=aZp (P:=P) N L hc;exact .inl ⟨U,w',c',by simp[execOp,I],z,h3,J⟩
  simp_all
 case mapUpdate t m k v =>
  simp only[aEd] at hc ⊢;obtain⟨w',I,z,h3,J⟩:=bIt (P:=P) N L (g m (by simp[Op.operands])) (g k (by simp[Op.operands])) (g v (by simp[Op.operands])) hc;exact .inr (.inl ⟨w',c,by simp[execOp,I],z,h3,by rw[J]; trivial⟩)
 case insert t m k v =>
  simp only[aEd] at hc ⊢;obtain⟨w',I,z,h3,J⟩:=bIt (P:=P) N L (g m (by simp[Op.operands])) (g k (by simp[Op.operands])) (g v (by simp[Op.operands])) hc;exact .inr (.inl ⟨w',c,by simp[execOp,I],z,h3,by rw[J]; trivial⟩)
 case makeSlice t l cp =>
  simp only[aEd] at hc ⊢;obtain⟨U,w',c',I,z,h3,J⟩:=bIs (P:=P) N L (g l (by simp[Op.operands])) (g cp (by simp[Op.operands])) hc;exact .inl ⟨U,w',c',by simp[execOp,I],z,h3,J⟩
 case pick p x y =>
  simp only[aEd] at hc ⊢;have hp:=g p (by simp[Op.operands]);have hx:=g x (by simp[Op.operands]);have hy:=g y (by simp[Op.operands]);unfold bFL at hc ⊢;split at hc
  ·rename_i q u v e1 e2 W;rw[e1] at hp;rw[e2] at hx;rw[W] at hy;have hb:=aFG hp;cases q
   ·exact(Did.of_value (v:=a.eval y) (h:=h) L (by simp[execOp,hb,asBool]) hy).toE
   ·exact(Did.of_value (v:=a.eval x) (h:=h) L (by simp[execOp,hb,asBool]) hx).toE
  ·rename_i q v e1 e2 W;rw[e1] at hp;rw[W] at hy;have hb:=aFG hp;have hc:q=false:=hc;subst hc;exact(Did.of_value (v:=a.eval y) (h:=h) L (by simp[execOp,hb,asBool]) hy).toE
  ·rename_i q u e1 e2 W;rw[e1] at hp;rw[e2] at hx;have hb:=aFG hp;have hc:q=true:=hc;subst hc;exact(Did.of_value (v:=a.eval x) (h:=h) L (by simp[execOp,hb,asBool]) hx).toE
  simp_all
 case call cl =>
  obtain⟨callee,args,argTypes⟩:=cl;have hargs:∀x∈args.toList,aZ c w (ρ x) (a.eval x):=fun x hx=>g x (by
   simp only[Op.operands,Call.operands];exact Array.mem_append.2 (.inr (by simpa using hx)))
  cases callee with
  | builtin b =>
   cases b
   case append =>
    simp only[aEd,aTF] at hc ⊢;split at hc
    ·rename_i s x t t' e1 e2;obtain⟨p,q,epq,rfl,rfl⟩:∃p q,args.toList= [p,q]∧ρ p=s∧ρ q=x:=by
      match hl:args.toList,e1 with
      | [p,q],ex=>grind
     cases hz:bFM (E.T t') with
     | true =>
      simp only[hz,cond_true] at hc ⊢;have htx:P.underlying t'=some (.int .i64):=by
       unfold bFM at hz;split at hz
       ·rename_i hT;exact bK7 (N.T _ _ hT)
       grind
      obtain⟨U,w',c',I,z,h3,J⟩:=bD7 (P:=P) (ty:=ty) N L htx (hargs p (by simp_all)) (hargs q (by simp_all)) hc;have W:args= #[p,q]:=(by grind);have e4:argTypes= #[t,t']:=(by grind);exact .inl ⟨U,w',c',by rw[W,e4]; simp[execOp,resolve,invoke,builtin,I],z,h3,J⟩
     | false =>
     simp only[hz,cond_false] at hc ⊢;cases hq:isStr (E.T t') with
     | true =>
      simp only[hq,cond_true] at hc ⊢;have htx:P.underlying t'=some .string:=by
       unfold isStr at hq;split at hq
       ·rename_i hT;exact aBd (N.T _ _ hT)
       grind
      obtain⟨U,w',c',I,z,h3,J⟩:=bD8 (P:=P) (ty:=ty) N L htx (hargs p (by simp_all)) (hargs q (by simp_all)) hc;have W:args= #[p,q]:=(by grind);have e4:argTypes= #[t,t']:=(by grind);exact .inl ⟨U,w',c',by rw[W,e4]; simp[execOp,resolve,invoke,builtin,I],z,h3,J⟩
     | false =>
     simp only[hq,cond_false] at hc ⊢;obtain⟨hc,rfl⟩:=hc;obtain⟨U,w',c',I,z,h3,J⟩:=bEb (P:=P) (ty:=ty) N L (hargs p (by simp_all)) (hargs q (by simp_all)) hc;have W:args= #[p,q]:=(by grind);have e4:argTypes= #[t',t']:=(by grind);exact .inl ⟨U,w',c',by rw[W,e4]; simp[execOp,resolve,invoke,builtin,I],z,h3,J⟩
    simp_all
   all_goals exact O hc
  | value f =>
   cases f with
   | func f =>
    simp only[aEd,aTF] at hc ⊢;cases ho:bBQ E.Γ f (args.toList.map ρ) with
    | false =>
     simp_all
    | true =>
     simp only[ho,cond_true] at hc ⊢;have hfok:∀sp,E.Γ f (args.toList.map ρ)=some sp→FOK P E.G f sp∧ ∃fn,P.funcs[f]? = some fn∧fn.name ≠ "runtime.NumGoroutine" ∧ fn.body.isSome=true:=fun sp Z=>by
      rcases N.Γ f _ sp Z with h|h
      ·exact h
      ·unfold bBQ at ho;rw[Z] at ho;obtain⟨a1,r1,p1,f1⟩:=sp;cases r1 with
       | own e t=>exact absurd rfl (h.1 e t)
       | _=>grind
     have hcall:=bD6 (P:=P) (Γ:=E.Γ) (fun sp Z=>(hfok sp Z).1) L hG (f:=f) (vs:=args.toList.map ρ) (xs:=(args.toList.map a.eval).toArray) (by simp) (fun i I z=>by
      simp_all) hc
     have hfn:∃fn,P.funcs[f]? = some fn∧fn.name ≠ "runtime.NumGoroutine" ∧ fn.body.isSome=true:=by
      grind[bBQ]
     refine .inr (.inr ⟨f,(args.toList.map a.eval).toArray,?_,?_⟩)
     ·have hrun:=aEk (w:=w) (args:=(args.map a.eval)) hfn;have e2:(args.toList.map a.eval).toArray=args.map a.eval:=(by grind);rw[e2];simp[execOp,resolve,Deferred.ofValue,Act.eval,invoke,hrun]
     ·refine hcall.mono ?_;rintro e w' ⟨v,c',he,I,z,h3⟩;exact⟨v,c',he,I,z,h3⟩
   | _=>exact O hc
  | _=>exact O hc
 all_goals exact O hc
theorem bIu(f:Good M w0 c h w){G:Nat→AV}{env:St}{a:Act}(he:aIM c w env a.tmps)(g:sY G c.S w){x:Operand}(hx:pA x=true):aZ c w (aZm h (evA G env x)) (a.eval x):=bFH f (aE3 he g hx)
theorem aKF(N:eQ P E){nt:Nat}{ds:List Deferred}{env:St}{a:Act}{o:Oper}(hs:Sim E M w0 nt ds c env h a w)(J:eZ nt o=true)(hc:(xU E env h o).1):bEd P M w0 c o a w (xU E env h o).2.2 (xU E env h o).2.1:=by
 obtain⟨c1,hl,O,g⟩:=hs.good.freezeAll (aUn E (evA E.G env) o);simp only[eZ,Bool.and_eq_true] at J;have I:∀x∈o.op.operands,pA x=true:=Array.all_eq_true_iff_forall_mem.1 J.1;have q:sY E.G c1.S w:=hs.glob.mono hl.le.S hl.same;have:=bNp N g q (o:=o) (a:=a) (ρ:=fun x=>aZm (freezeAll (aUn E (evA E.G env) o) h) (evA E.G env x)) (fun x hx=>bIu g (hs.env.keep hl) q (I x hx)) hc;rcases this with⟨v,w',c',z,ha⟩|⟨w',c',z,ha⟩|⟨f,args,z,L⟩
 ·exact .inl ⟨v,w',c',z,hl.trans ha.later,ha.good,ha.val⟩
 ·exact .inr (.inl ⟨w',c',z,hl.trans ha.later,ha.good,ha.val⟩)
 ·refine .inr (.inr ⟨f,args,z,L.mono ?_⟩);rintro e w' ⟨v,c',he,ha⟩;exact⟨v,c',he,hl.trans ha.later,ha.good,ha.val⟩
theorem Sim.after{nt:Nat}{ds:List Deferred}{env:St}{a:Act}{o:Oper}(hs:Sim E M w0 nt ds c env h a w)(f:eZ nt o=true){h':List Obj}{av:AV}{v:Value}{w':World}{c':Ctx}(ha:aMa M w0 c w h' av v w' c'):Sim E M w0 nt ds c' (wU o.dst av env) h' (a.put o.dst v) w':=by
 simp only[eZ,Bool.and_eq_true] at f;refine⟨ha.good,hs.glob.mono ha.later.le.S ha.later.same,?_,?_,?_⟩
 ·cases hd:o.dst with
  | none=>exact hs.env.keep ha.later
  | some d =>
   have g:d<nt:=(by simp_all);exact(hs.env.keep ha.later).put (by rw[hs.size]; exact g) ha.val
 ·cases hd:o.dst with
  | none=>exact hs.size
  | some d=>simp[Act.put,hs.size]
 ·cases hd:o.dst with
  | none=>exact hs.defers
  | some d=>exact hs.defers
def yb:Value→Option Bool
 | .bool b=>some b
 | _=>none
theorem zA{nt:Nat}{ops:List Oper}(q:∀o∈ops,eZ nt o=true){a:Act}(J:a.tmps.size=nt){j g:Nat}(hd:aGE ops j=some g){v:Value}(hv:a.tmps.getD g Go.undef=v):yielded ops.toArray a.tmps j=yb v:=by
 unfold aGE at hd;split at hd
 ·rename_i N z;have f:=q N (List.mem_of_getElem? z);simp only[eZ,Bool.and_eq_true,hd,decide_eq_true_eq] at f;have L:g<a.tmps.size:=by simp_all
  have I:a.tmps[g]? = some v:=by
   simp_all
  simp only[yielded,List.getElem?_toArray,z,Option.bind_some,hd,I];cases v<;>rfl
 grind
theorem aNe(U:eQ P E){ops:List Oper}{Q:Exit→Act→World→Prop}{nt:Nat}{ds:List Deferred}(g:∀o∈ops,eZ nt o=true){K:St→List Obj→Prop}(Z:∀env h c a w,K env h→Sim E M w0 nt ds c env h a w→Q .normal a w) :
  ∀(m i:Nat),i+m=ops.length→ ∀(env:St) (h:List Obj) (c:Ctx) (a:Act) (w:World),yZ E ops (ops.drop i) env h K→Sim E M w0 nt ds c env h a w→wpOps P ops.toArray Q (List.range' i m) a w
 | 0,i,hi,env,h,c,a,w,hs,f=>by
  rw[List.drop_eq_nil_of_le (by omega)] at hs;simp only[List.range'_zero,wpOps];exact Z env h c a w hs f
 | m+1,i,hi,env,h,c,a,w,hs,f=>by
  have z:i<ops.length:=by omega
  rw[List.drop_eq_getElem_cons z] at hs;have q:=g ops[i] (List.getElem_mem z);have L:∀(v:Value) (av:AV),aZ c w av v→Sim E M w0 nt ds c (wU ops[i].dst av env) h (a.put ops[i].dst v) w:=fun v av hv=>f.after q ⟨.refl _ _,f.good,hv⟩;have hrun:((xU E env h ops[i]).1∧yZ E ops (ops.drop (i+1)) (wU ops[i].dst (xU E env h ops[i]).2.1 env) (xU E env h ops[i]).2.2 K)→Region.wanted ops[i] (yielded ops.toArray a.tmps)=true→wpOps P ops.toArray Q (List.range' i (m+1)) a w:=fun⟨h1,Y⟩ O=>by
   rw[List.range'_succ];simp only[wpOps,List.getElem?_toArray,List.getElem?_eq_getElem z,O,if_true]
   left
   refine(aKF U f q h1).wp fun v w' c' ha=>?_;exact aNe U g Z m (i+1) (by omega) _ _ c' _ w' Y (f.after q ha)
  have hskip:yZ E ops (ops.drop (i+1)) (wU ops[i].dst .undef env) h K→Region.wanted ops[i] (yielded ops.toArray a.tmps)=false→wpOps P ops.toArray Q (List.range' i (m+1)) a w:=fun Y O=>by
   rw[List.range'_succ];simp only[wpOps,List.getElem?_toArray,List.getElem?_eq_getElem z,O,Bool.false_eq_true,if_false];exact aNe U g Z m (i+1) (by omega) _ _ c _ w Y (L _ _ rfl)
  simp only[yZ] at hs;cases N:ops[i].guard with
  | none =>
   grind[Region.wanted]
  | some jp =>
   obtain⟨j,J⟩:=jp;rw[N] at hs;simp only at hs;cases I:aGE ops j with
   | none=>simp_all
   | some dj =>
    rw[I] at hs;simp only at hs;have hv:=f.env dj;split at hs
    ·rename_i b hb;rw[hb] at hv;have W:=aFG hv;have hy:=zA g f.size I W;simp only[yb] at hy;by_cases e:b=J
     ·grind[Region.wanted]
     ·have e':b= !J:=(by cases b<;>cases J<;>simp_all);grind[Region.wanted]
    ·rename_i hb;rw[hb] at hv;have hy:=zA g f.size I (v:=Go.undef) hv;grind[Region.wanted,undef,yb]
    simp_all
theorem dI{F:Fr}{Q:Exit→Act→World→Prop}{env:St}{h:List Obj}(hF:xT F){id:Nat}{ops:Array Oper}(keep:List Nat)(hv:yZ F.E ops.toList ops.toList env h (fun env h=>At F (Q .normal) (keep.map fun t=>(t,look env t)) h)):Tri F (.region id ops false) Q env h:=fun f c a w hs=>by
 simp only[fL,Bool.and_eq_true,Bool.or_eq_true,Bool.not_eq_true'] at f;obtain⟨⟨g,q⟩,h3⟩:=f;refine wp_region ?_;have:=aNe (Q:=Q) hF.env (List.all_eq_true.1 g) (K:=fun env h=>At F (Q .normal) (keep.map fun t=>(t,look env t)) h) (fun env h c a w hk hs=>hk c a w (hs.keep keep)) ops.toList.length 0 (by simp) env h c a w (by simp_all) hs;simp_all[List.range_eq_range']
end
end Go.Vc
namespace Go.Vc
open Go.RowKit
def posOf(i:Nat):List Nat→Option Nat
 | []=>none
 | k::r=>if k=i then some 0 else match posOf i r with
  | some j=>some (j+1)
  | none=>none
def jD(σ:List Nat):List Nat→Option (List Nat)
 | []=>some []
 | i::r=>match posOf i σ,jD σ r with
  | some j,some l=>some (j::l)
  | _,_=>none
def lW(σ:List Nat):AV→AV
 | .own i=>match posOf i σ with
  | some j=>.own j
  | none=>.junk
 | .ptr i p=>match posOf i σ with
  | some j=>.ptr j p
  | none=>.junk
 | .sub i s off n=>match posOf i σ with
  | some j=>.sub j s off n
  | none=>.junk
 | .mp i=>match posOf i σ with
  | some j=>.mp j
  | none=>.junk
 | .fn f g l2=>match jD σ g,jD σ l2 with
  | some g,some l2=>.fn f g l2
  | _,_=>.junk
 | .agg _=>.junk
 | .flat _=>.junk
 | .tup _=>.junk
 | v=>v
def ren(σ:List Nat):AV→AV
 | .agg f=>.agg (f.map (lW σ))
 | .tup _=>.junk
 | .flat _=>.junk
 | v=>lW σ v
def xV(σ:List Nat):Obj→Obj
 | .box n v=>.box n (ren σ v)
 | .trh e m t f k v=>.trh e m t f k (ren σ v)
 | o=>o
def nodupB:List Nat→Bool
 | []=>true
 | i::r=> !r.contains i&&nodupB r
def preB(m:Nat)(σ:List Nat):Bool:=(List.range m).all fun i=>decide (σ[i]? = some i)
theorem bBR{m:Nat}{σ:List Nat}(h:preB m σ=true){i:Nat}(hi:i<m):σ[i]? = some i:=by
 have:=List.all_eq_true.1 h i (List.mem_range.2 hi);simp_all
section
variable {F:Fr} {M:Perm} {w0:World} {c:Ctx} {h:List Obj} {w:World} {env:St} {K:Act→World→Prop}
theorem bBS{i:Nat}:∀ {σ:List Nat} {j:Nat},posOf i σ=some j→σ[j]? = some i
 | k::r,j,hp=>by
  simp only[posOf] at hp;split at hp
  ·grind
  ·split at hp
   ·rename_i g f; cases hp; simp[bBS f]
   grind
 | [],_,hp=>by cases hp
def Ctx.ren(c:Ctx)(σ:List Nat):Ctx:=⟨c.S,fun j=>c.hd (σ.getD j 0),σ.length,fun j=>c.bl (σ.getD j 0)⟩
theorem aUo{σ:List Nat}{i j:Nat}(hp:posOf i σ=some j):j<σ.length∧(c.ren σ).hd j=c.hd i:=by
 have:=bBS hp;have f:j<σ.length:=by
  rcases Nat.lt_or_ge j σ.length with hh|hh
  ·exact hh
  ·rw[List.getElem?_eq_none hh] at this; cases this
 refine⟨f,?_⟩;simp[Ctx.ren,List.getD_eq_getElem?_getD,this]
theorem aPB{σ:List Nat}:∀ {l f:List Nat},jD σ l=some f→(∀j∈f,j<σ.length)∧f.map (c.ren σ).hd=l.map c.hd
 | [],f,hp=>by simp[jD] at hp; simp_all
 | i::r,f,hp=>by
  simp only[jD] at hp;split at hp
  ·rename_i j l g q;cases hp;obtain⟨q1,J⟩:=aUo (c:=c) g;obtain⟨z,I⟩:=aPB q;simp_all
  grind
theorem aUp{σ:List Nat}:∀ {v:AV} {cs:List Value},aN c w v cs→aN (c.ren σ) w (lW σ v) cs:=by
 intro v cs g;cases v<;>simp only[lW]<;>(try trivial)
 case own i =>
  split
  ·rename_i j hp;obtain⟨q1,q⟩:=aUo (c:=c) hp;simp only[aN] at g ⊢;rw[q];exact⟨q1,g.2⟩
  ·trivial
 case ptr i p =>
  split
  ·rename_i j hp;obtain⟨q1,q⟩:=aUo (c:=c) hp;simp only[aN] at g ⊢;rw[q];exact⟨q1,g.2⟩
  ·trivial
 case sub i s off n =>
  split
  ·rename_i j hp;obtain⟨q1,q⟩:=aUo (c:=c) hp;simp only[aN] at g ⊢;rw[q];exact⟨q1,g.2⟩
  ·trivial
 case mp i =>
  split
  ·rename_i j hp;obtain⟨q1,q⟩:=aUo (c:=c) hp;simp only[aN] at g ⊢;rw[q];exact⟨q1,g.2⟩
  ·trivial
 case fn f l1 l2 =>
  split
  ·rename_i O L J N;obtain⟨q1,q⟩:=aPB (c:=c) J;obtain⟨z,I⟩:=aPB (c:=c) N;simp only[aN] at g ⊢;rw[q,I];exact⟨q1,z,g.2.2⟩
  ·trivial
 all_goals exact g
theorem bFN{σ:List Nat}:∀ {vs:List AV} {cs:List Value},jY c w vs cs→jY (c.ren σ) w (vs.map (lW σ)) cs
 | [],_,q=>q
 | v::r,_,⟨c1,g,e,f,z⟩=>⟨c1,g,e,aUp f,bFN z⟩
theorem aPC{σ:List Nat}{v:AV}{cs:List Value}(f:aN c w v cs):aN (c.ren σ) w (ren σ v) cs:=by
 cases v
 case agg vs=>exact bFN f
 case tup=>trivial
 case flat=>trivial
 all_goals exact aUp f
theorem aTG{σ:List Nat}{v:AV}{x:Value}(q:aZ c w v x):aZ (c.ren σ) w (ren σ v) x:=by
 have g:xQ c w v x→(ren σ v= .junk∨(ren σ v).isAgg=v.isAgg)→(∀vs,ren σ v≠ .tup vs)→(ren σ v≠ .undef∨v= .undef)→aZ (c.ren σ) w (ren σ v) x:=fun z ha ht L=>by
  rcases ha with ha|ha
  ·rw[ha]; trivial
  ·have I:=aPC (σ:=σ) z.1;generalize ren σ v=u at I ha ht L;have h3:xQ (c.ren σ) w u x:=⟨I,by rw[ha]; exact z.2.1,by rw[ha]; exact z.2.2⟩;cases u<;>first|exact h3|trivial|exact absurd rfl (ht _)|skip
   have I:x.cells.toList= [Go.undef]:=I;have J:=z.2.2;rw[← ha] at J;have J:=J rfl;show x=Go.undef;simp_all[Value.cells]
 cases v
 case junk=>trivial
 case undef=>exact q
 case tup=>trivial
 case flat=>trivial
 case agg vs=>exact g q (.inr rfl) (fun _ h=>by simp[ren] at h) (.inl (by simp[ren]))
 case val=>exact g q (.inr rfl) (fun _ h=>by simp[ren,lW] at h) (.inl (by simp[ren,lW]))
 case nilS=>exact g q (.inr rfl) (fun _ h=>by simp[ren,lW] at h) (.inl (by simp[ren,lW]))
 case nilP=>exact g q (.inr rfl) (fun _ h=>by simp[ren,lW] at h) (.inl (by simp[ren,lW]))
 case full=>exact g q (.inr rfl) (fun _ h=>by simp[ren,lW] at h) (.inl (by simp[ren,lW]))
 case roa=>exact g q (.inr rfl) (fun _ h=>by simp[ren,lW] at h) (.inl (by simp[ren,lW]))
 case own i=>cases hp:posOf i σ<;>exact g q (by simp[ren,lW,hp,AV.isAgg]) (fun _ h=>by grind[ren,lW]) (.inl (by simp[ren,lW,hp]))
 case ptr i p=>cases hp:posOf i σ<;>exact g q (by simp[ren,lW,hp,AV.isAgg]) (fun _ h=>by grind[ren,lW]) (.inl (by simp[ren,lW,hp]))
 case sub i s off n=>cases hp:posOf i σ<;>exact g q (by simp[ren,lW,hp,AV.isAgg]) (fun _ h=>by grind[ren,lW]) (.inl (by simp[ren,lW,hp]))
 case mp i=>cases hp:posOf i σ<;>exact g q (by simp[ren,lW,hp,AV.isAgg]) (fun _ h=>by grind[ren,lW]) (.inl (by simp[ren,lW,hp]))
 case fn f l1 l2=>cases hp:jD σ l1<;>cases hq:jD σ l2<;>exact g q (by grind[ren,lW,AV.isAgg]) (fun _ h=>by grind[ren,lW]) (.inl (by grind[ren,lW]))
theorem bBT:∀ {σ:List Nat},nodupB σ=true→ ∀i j:Nat,∀k,σ[i]? = some k→σ[j]? = some k→i=j
 | [],_,i,j,k,hi,_=>by grind
 | a::r,hd,i,j,k,hi,f=>by
  simp only[nodupB,Bool.and_eq_true,Bool.not_eq_true',List.contains_eq_mem,decide_eq_false_iff_not] at hd;cases i with
  | zero =>
   grind
  | succ i =>
   cases j with
   | zero =>
    grind
   | succ j =>
    simp at hi f;rw[bBT hd.2 i j k hi f]
theorem aNf{σ:List Nat}{i j:Nat}(f:σ[j]? = some i)(o:Obj):dP (c.ren σ) j (xV σ o)=dP c i o:=by
 have:(c.ren σ).hd j=c.hd i:=by simp[Ctx.ren,List.getD_eq_getElem?_getD,f]
 have g:(c.ren σ).bl j=c.bl i:=by simp[Ctx.ren,List.getD_eq_getElem?_getD,f]
 funext b;cases o<;>simp[dP,xV,this,g]
theorem Good.ren(O:Good M w0 c h w){σ:List Nat}(hd:nodupB σ=true)(hp:preB M.m σ=true):Good M w0 (c.ren σ) (σ.map fun i=>xV σ (h.getD i .dead)) w:=by
 have hcase:∀j o',(σ.map fun i=>xV σ (h.getD i .dead))[j]? = some o'→ ∃i,σ[j]? = some i∧o'=xV σ (h.getD i .dead):=fun j o' z=>by
  rw[List.getElem?_map] at z;cases hs:σ[j]? with
  | none=>simp[hs] at z
  | some i=>simp[hs] at z; exact⟨i,hs,z.symm⟩
 have f:∀i,h.getD i .dead= .dead∨h[i]? = some (h.getD i .dead):=fun i=>by
  grind
 refine⟨by simp[Ctx.ren],O.keeps,O.sfin,O.src,fun j o' z=>?_,fun j o' b z hb=>?_,fun j k oj ok b z hk I J=>?_,?_,fun i hi=>?_⟩
 ·obtain⟨i,hi,rfl⟩:=hcase j o' z;have g:(c.ren σ).hd j=c.hd i:=by simp[Ctx.ren,List.getD_eq_getElem?_getD,hi]
  have U:(c.ren σ).bl j=c.bl i:=by simp[Ctx.ren,List.getD_eq_getElem?_getD,hi]
  rcases f i with e|e
  ·rw[e]; trivial
  ·have:=O.objs i _ e;revert this;generalize h.getD i .dead=o;intro this;cases o with
   | dead=>trivial
   | box n v =>
    obtain⟨b,cells,L,q1,q2,q3,q4⟩:=this;exact⟨b,cells,L,by grind,q2,q3,aPC q4⟩
   | row L t Y=>simp only[aIL,xV] at *; rw[g]; exact this
   | frz t Y=>simp only[aIL,xV] at *; rw[g]; exact this
   | map k v m =>
    obtain⟨b,es,clock,q1,q2⟩:=this;exact⟨b,es,clock,by grind,q2⟩
   | tre L m t Y=>simp only[aIL,xV] at *; rw[g,U]; exact this
   | trh L m t Y k v =>
    obtain⟨W,Bs,q⟩:=this;exact⟨W,Bs,⟨by rw[g]; exact q.row,q.lc,q.lb,q.kl,q.el,q.hb,fun h1=>⟨aPC (q.hv h1).1,(q.hv h1).2⟩,by rw[g]; exact q.nd,by rw[g,U]; exact q.bl⟩⟩
 ·obtain⟨i,hi,rfl⟩:=hcase j o' z;rw[aNf hi] at hb;rcases f i with e|e
  ·rw[e] at hb; cases hb
  ·exact O.own i _ b e hb
 ·obtain⟨i,hi,rfl⟩:=hcase j oj z;obtain⟨i',N,rfl⟩:=hcase k ok hk;rw[aNf hi] at I;rw[aNf N] at J;rcases f i with e|e
  ·rw[e] at I; cases I
  ·rcases f i' with L|L
   ·rw[L] at J; cases J
   ·have:=O.sep i i' _ _ b e L I J;grind[bBT]
 ·rcases Nat.lt_or_ge σ.length M.m with Z|hge
  ·have:=bBR hp Z;simp_all
  ·exact hge
 ·have N:=bBR hp hi;have e:(c.ren σ).hd i=c.hd i:=by simp[Ctx.ren,List.getD_eq_getElem?_getD,N]
  rw[e]; exact O.root.2 i hi
theorem aJi(f:AV→AV)(g:f .junk= .junk):∀(env:St) (t:Nat),look (env.map fun p=>(p.1,f p.2)) t=f (look env t)
 | [],t=>by simp only[List.map_nil,look]; exact g.symm
 | (k,v)::r,t=>by
  simp only[List.map_cons,look];split
  ·rfl
  ·exact aJi f g r t
theorem fA(σ:List Nat)(hd:nodupB σ=true)(hp:preB F.M.m σ=true)(hk:At F K (env.map fun p=>(p.1,ren σ p.2)) (σ.map fun i=>xV σ (h.getD i .dead))):At F K env h:=fun c a w hs =>
 hk (c.ren σ) a w ⟨hs.good.ren hd hp,hs.glob,fun t=>by rw[aJi (ren σ) rfl]; exact aTG (hs.env t),hs.size,hs.defers⟩
theorem zB{x:Code}{Q:Exit→Act→World→Prop}(σ:List Nat)(hd:nodupB σ=true)(hp:preB F.M.m σ=true)(hk:Tri F x Q (env.map fun p=>(p.1,ren σ p.2)) (σ.map fun i=>xV σ (h.getD i .dead))):Tri F x Q env h:=fun f=>fA σ hd hp (hk f)
theorem bHb(s:Nat)(e:TypeId)(t:Ty)(q:look env s= .nilS)(hk:At F K ((s,.own h.length)::env) (h++ [.row e t []])):At F K env h:=fun c a w hs=>by
 have hv:=hs.env s;rw[q] at hv;have f:a.tmps.getD s Go.undef= .slice none 0 0:=by
  obtain⟨z,_,h3⟩:=hv;have h3:=h3 rfl;simp_all[aN,undef,Value.cells]
 have e1:(c.push (.slice none 0 0)).hd c.n= .slice none 0 0:=by simp[Ctx.push]
 have:=hs.good.push (.refl nothing w) (o:=.row e t []) (hv:=.slice none 0 0) (by
  show aBI _ _ _ _ _ _;rw[e1];exact⟨[],⟨by simp,.inl ⟨rfl,rfl⟩⟩,⟨rfl,[],rfl,rfl,fun i h=>by simp at h⟩⟩) (fun b hb=>by grind[dP,aW])
 refine hk _ a w ⟨this.1,hs.glob.mono (fun _ h=>h) (.refl _ _),fun t=>?_,hs.size,hs.defers⟩;simp only[look];split
 ·rename_i g;subst g;rw[f,← hs.good.n];exact aE7 (c:=c) ⟨_,_,_,rfl⟩ (w':=w) (S':=c.S)
 ·exact this.2.val (hs.env t)
theorem bHc(i:Nat)(hk:At F K (env.map fun p=>(p.1,aZm (freeze i h) p.2)) (freeze i h)):At F K env h:=fun c a w hs=>by
 obtain⟨c',hl,g,f⟩:=hs.good.freeze i;refine hk c' a w ⟨f,hs.glob.mono hl.le.S hl.same,fun t=>?_,hs.size,hs.defers⟩;rw[aJi (aZm (freeze i h)) rfl];exact bFH f (hl.val (hs.env t))
theorem pM{x:Code}{Q:Exit→Act→World→Prop}(s:Nat)(e:TypeId)(t:Ty)(g:look env s= .nilS)(hk:Tri F x Q ((s,.own h.length)::env) (h++ [.row e t []])):Tri F x Q env h:=fun f=>bHb s e t g (hk f)
theorem aMb{x:Code}{Q:Exit→Act→World→Prop}(i:Nat)(hk:Tri F x Q (env.map fun p=>(p.1,aZm (freeze i h) p.2)) (freeze i h)):Tri F x Q env h:=fun f=>bHc i (hk f)
end
end Go.Vc
namespace Go.Vc
open Go.RowKit
section
variable {F:Fr} {M:Perm} {w0:World} {c:Ctx} {h:List Obj} {w:World} {env:St} {K:Act→World→Prop}
end
attribute [go_sem] asX bH0 bNc bNd okD Ex.kind Ex.text Ex.l aZb iV aKu aPo aHw aHw.nodupN aHv aBN qL aBM aHu aYq okM ownRow aL9 aKM bOc aNd bNo aUi Ty.fldTy
end Go.Vc
namespace Go.Vc
open Go.RowKit
def gam:List (FuncId×aH)→FuncId→Option aH
 | [],_=>none
 | (k,sp)::r,f=>if k=f then some sp else gam r f
theorem bLa{l:List (FuncId×aH)}{f:FuncId}{sp:aH}(h:gam l f=some sp):(f,sp)∈l:=by
 induction l with
 | nil=>cases h
 | cons p r g =>
  grind[gam,List.mem_cons_self,List.mem_cons_of_mem]
def fnB(P:Program)(f:FuncId):Bool:=match P.funcs[f]? with
 | some fn=>decide (fn.name ≠ "runtime.NumGoroutine")&&fn.body.isSome
 | none=>false
structure bA(P:Program)(G:Nat→AV)(l:List (FuncId×aH)):Prop where
 ok:∀p∈l,(FOK P G p.1 p.2∧fnB P p.1=true)∨NOK P G p.1 p.2
theorem bA.nil{P:Program}{G:Nat→AV}:bA P G []:=⟨fun p hp=>by cases hp⟩
theorem bA.cons{P:Program}{G:Nat→AV}{l:List (FuncId×aH)}{f:FuncId}{sp:aH}(h:FOK P G f sp)(g:fnB P f=true)(hl:bA P G l):bA P G ((f,sp)::l):=by
 refine⟨fun p hp=>?_⟩;rcases List.mem_cons.1 hp with rfl|hp
 ·simp_all
 ·exact hl.ok p hp
theorem bA.nat{P:Program}{G:Nat→AV}{l:List (FuncId×aH)}{f:FuncId}{sp:aH}(h:NOK P G f sp)(hl:bA P G l):bA P G ((f,sp)::l):=by
 refine⟨fun p hp=>?_⟩;rcases List.mem_cons.1 hp with rfl|hp
 ·grind
 ·exact hl.ok p hp
theorem bBU{P:Program}{T:Tab}{G:Nat→AV}{l:List (FuncId×aH)}{el:TypeId→TypeId}(I:iF P T)(g:∀t z,T t=some (.sl z)→P.underlying t=some (.slice (el t))){mp:TypeId→Option (TypeId×TypeId)}(q:∀t k e,mp t=some (k,e)→P.underlying t=some (.map k e)){dm:TypeId→Option Mk}{dz:TypeId→Bool}{wr:Bool}(hl:bA P G l):eQ P ⟨T,G,fun f _=>gam l f,el,mp,dm,dz,wr⟩ :=
 ⟨I,fun f _ sp h=>by
  rcases hl.ok _ (bLa h) with⟨h,this⟩|h
  ·refine .inl ⟨h,?_⟩;unfold fnB at this;grind
  simp_all,g,q⟩
theorem bIv{P:Program}{G:Nat→AV}{f:FuncId}{a t:Ty}{pre:a.den→Prop}{fn:a.den→t.den}(h:∀(w:World) (S:Nat→Prop) (vs:List Value) (x:a.den),qV w S a x vs→pre x→ ∃g:List Value,(callFunc f vs.toArray).run P w= .ok (.value (.tuple g.toArray)) w∧qV w S t (fn x) g):NOK P G f ⟨a,.tup t,pre,fn⟩:=by
 refine⟨(fun e t h=>by cases h),fun w vs S x N L ha hp=>?_⟩;obtain⟨g,z,I⟩:=h w S vs.toList x ha hp;refine⟨_,w,by omega,_,rfl,.refl _ _,g,rfl,?_⟩;have hmono:∀(t:Ty) (x:t.den) (xs:List Value),qV w S t x xs→qV w (fun b=>S b∨(w.heap.size≤b∧b<w.heap.size)) t x xs:=by
  intro t
  induction t with
  | unit=>intro x xs h; exact h
  | pair a r _ J=>intro x xs ⟨v,q,e,z,I⟩; exact⟨v,q,e,z.keep (fun b hb=>.inl hb) (.refl _ _),J _ _ I⟩
  | _=>intro x xs h; exact h.elim
 simp_all
end Go.Vc
namespace Go.Vc
open Go.RowKit
def eB:List Oper→Nat→List (Nat×TypeId×Nat)
 | [],_=>[]
 | o::r,i=>match o.op,o.guard,o.dst with
  | .alloc t,none,some d=>(i,t,d)::eB r (i+1)
  | _,_,_=>eB r (i+1)
def bBV(T:Tab)(t:TypeId):Obj:=match T t with
 | some f=>.box (bxN t f) (aIZ f)
 | none=>.dead
def mZ(T:Tab):List (Nat×TypeId×Nat)→St→List Obj→St×List Obj
 | [],env,h=>(env,h)
 | (_,t,d)::r,env,h=>mZ T r ((d,.ptr h.length [])::env) (h++ [bBV T t])
theorem zC:∀ {l:List Oper} {i:Nat} {p:Nat×TypeId×Nat},p∈eB l i→ ∃o,l[p.1-i]? = some o∧i≤p.1∧o.op= .alloc p.2.1∧o.guard=none∧o.dst=some p.2.2
 | [],i,p,hp=>by cases hp
 | o::r,i,p,hp=>by
  have f:p∈eB r (i+1)→ ∃o',(o::r)[p.1-i]? = some o'∧i≤p.1∧o'.op= .alloc p.2.1∧o'.guard=none∧o'.dst=some p.2.2:=fun hp=>by
   obtain⟨o',g,q,h3⟩:=zC hp;grind
  simp only[eB] at hp;grind
section
variable {P:Program} {E:Env} {M:Perm} {w0:World} {nt:Nat} {ds:List Deferred} {h:List Obj} {env:St} {pre:List Oper}
structure bFO(T:Tab)(al:List (Nat×TypeId×Nat))(w:World)(listed:Nat→Prop)(c':Ctx)(a:Act)(w':World)(B:Nat→Nat):Prop where
 size:w.heap.size≤w'.heap.size
 at_:∀p∈al,listed p.1→ ∃ct,T p.2.1=some ct∧a.tmps.getD p.2.2 Go.undef= .pointer (some ⟨B p.1,0,none⟩)∧w.heap.size≤B p.1∧B p.1<w'.heap.size∧ ¬c'.S (B p.1)∧w'.heap[B p.1]? = some (.cells (kY ct).cells p.2.1 (0,0))
 inj:∀p∈al,∀q∈al,listed p.1→listed q.1→B p.1=B q.1→p.1=q.1
theorem bFO.step{T:Tab}{w:World}{listed:Nat→Prop}{c' W:Ctx}{a g:Act}{w' J:World}{B:Nat→Nat}(z:bFO T (eB pre 0) w listed c' a w' B){i:Nat}{o:Oper}(ho:pre[i]? = some o)(hok:eZ a.tmps.size o=true)(hu:aIk pre=true)(hni:¬listed i)(hd:o.dst≠none)(hsf:∀b,c'.S b→b<w'.heap.size)
  (hs:bMV T o a c' w' W g J):∃B',bFO T (eB pre 0) w (fun k=>listed k∨k=i) W g J B':=by
 obtain⟨v,hv,hal⟩:=hs.put;have hget:∀d,o.dst≠some d→g.tmps.getD d Go.undef=a.tmps.getD d Go.undef:=fun d hne=>by
  rw[hv];cases hdd:o.dst with
  | none=>rfl
  | some d0 =>
   simp_all[Act.put,Array.getElem?_setIfInBounds_ne]
 refine⟨fun k=>if k=i then w'.heap.size else B k,Nat.le_trans z.size hs.keeps.size,fun p hp hl=>?_,fun p hp q hq N O Z=>?_⟩
 ·obtain⟨op,Y,_,h2,h3,h4⟩:=zC hp;simp only[Nat.sub_zero] at Y;by_cases e:p.1=i
  ·rw[e] at Y;rw[ho] at Y;cases Y;obtain⟨L,q1,q2,q3,I⟩:=hal _ h2 h3;simp only[e,if_true];refine⟨L,q1,?_,z.size,by simp_all,fun hS=>?_,by grind[aCE]⟩
   ·simp_all[eZ,Bool.and_eq_true,decide_eq_true_eq,Act.put]
   grind
  ·have hl:listed p.1:=hl.resolve_right e;obtain⟨L,q1,q2,q3,I,q5,q6⟩:=z.at_ p hp hl;simp only[e,if_false];refine⟨L,q1,?_,q3,Nat.lt_of_lt_of_le I hs.keeps.size,fun hS=>?_,by rw[hs.keeps.block _ I (fun f=>f)]; exact q6⟩
   ·grind[aTD]
   ·rcases hs.new _ hS with h|h
    all_goals grind
 ·by_cases U:p.1=i<;>by_cases eq:q.1=i
  ·omega
  ·simp only[U,eq,if_true,if_false] at Z;obtain⟨L,q1,q2,q3,I,_⟩:=z.at_ q hq (O.resolve_right eq);omega
  ·simp only[U,eq,if_true,if_false] at Z;obtain⟨L,q1,q2,q3,I,_⟩:=z.at_ p hp (N.resolve_right U);omega
  ·simp only[U,eq,if_false] at Z;exact z.inj p hp q hq (N.resolve_right U) (O.resolve_right eq) Z
theorem Good.adopt{c:Ctx}{w:World}(g:Good M w0 c h w){b:Nat}{cells:Array Value}{e:TypeId}{v:AV}{n:Nat}(hb:w.heap[b]? = some (.cells cells e (0,0)))(hn:bKQ n cells.size e)(hv:aN c w v cells.toList)(hB:w0.heap.size≤b)(hS:¬c.S b)
  (hown:∀i o,h[i]? = some o→ ¬dP c i o b):Good M w0 (c.push (.pointer (some ⟨b,0,none⟩))) (h++ [.box n v]) w∧dG c w (c.push (.pointer (some ⟨b,0,none⟩))) w:=by
 have hl:dG c w (c.push (.pointer (some ⟨b,0,none⟩))) w:=⟨c.le_push _,.refl _ _⟩;have U:b<w.heap.size:=(Array.getElem?_eq_some_iff.1 hb).1;have J:(c.push (.pointer (some ⟨b,0,none⟩))).hd c.n= .pointer (some ⟨b,0,none⟩):=by simp[Ctx.push]
 have hcase:∀i o',(h++ [Obj.box n v])[i]? = some o'→(h[i]? = some o'∧i<c.n)∨(i=c.n∧o'=Obj.box n v):=fun i o' q=>by
  rw[g.n];grind
 refine⟨⟨by simp[Ctx.push,g.n],g.keeps,g.sfin,g.src,fun i o' q=>?_,fun i o' W q f=>?_,fun i j oi oj W hi hj z I=>?_,aEh g.root hl.le⟩,hl⟩
 ·rcases hcase i o' q with⟨q,hi⟩|⟨rfl,rfl⟩
  ·exact(g.objs i o' q).keep hl hi rfl (fun _ _=>rfl)
  ·exact⟨b,cells,e,J,hb,hn,aN.keep hl.le hl.same _ _ hv⟩
 ·rcases hcase i o' q with⟨q,hi⟩|⟨rfl,rfl⟩
  ·rw[eR hl.le rfl hi] at f;exact g.own i o' W q f
  ·simp only[dP,J,aW,Option.some.injEq] at f;subst f;exact⟨.inl hB,U,hS⟩
 ·rcases hcase i oi hi with⟨O,L⟩|⟨ei,eo⟩<;>rcases hcase j oj hj with⟨Z,N⟩|⟨ej,Y⟩
  ·rw[eR hl.le rfl L] at z;rw[eR hl.le rfl N] at I;exact g.sep i j oi oj W O Z z I
  ·subst ej; subst Y;rw[eR hl.le rfl L] at z;grind[dP,aW,Option.some.injEq,absurd]
  ·subst ei; subst eo;rw[eR hl.le rfl N] at I;grind[dP,aW,Option.some.injEq,absurd]
  omega
theorem bLb{c:Ctx}{w:World}{f:Ty}(g:f.okB=true):aN c w (aIZ f) (kY f).cells.toList∧(kY f).cells.size=f.cells:=by
 grind[aNb,aA4,iX]
theorem aUq(hE:eQ P E){a:Act}{w:World}:∀(L:List (Nat×TypeId×Nat)) (env:St) (h:List Obj) (c:Ctx) (B:Nat→Nat),Sim E M w0 nt ds c env h a w →
  (∀p∈L,∃f,E.T p.2.1=some f∧f.okB=true∧a.tmps.getD p.2.2 Go.undef= .pointer (some ⟨B p.1,0,none⟩)∧w0.heap.size≤B p.1∧ ¬c.S (B p.1)∧w.heap[B p.1]? = some (.cells (kY f).cells p.2.1 (0,0))∧ ∀i o,h[i]? = some o→ ¬dP c i o (B p.1)) →
  L.Pairwise (fun p q=>B p.1≠B q.1)→ ∃c',Sim E M w0 nt ds c' (mZ E.T L env h).1 (mZ E.T L env h).2 a w
 | [],env,h,c,B,hs,_,_=>⟨c,hs⟩
 | (i,t,d)::r,env,h,c,B,hs,I,g=>by
  obtain⟨f,q1,q2,q3,Y,q5,q6,q7⟩:=I (i,t,d) (by simp);simp only at q1 q3 Y q5 q6 q7;obtain⟨z1,z2⟩:=bLb (c:=c) (w:=w) q2;obtain⟨g1,Z⟩:=hs.good.adopt q6 (n:=bxN t f) (by grind[bHU]) z1 Y q5 q7;have z:bBV E.T t= .box (bxN t f) (aIZ f):=by simp[bBV,q1]
  rw[List.pairwise_cons] at g;have e1:(c.push (.pointer (some ⟨B i,0,none⟩))).hd c.n= .pointer (some ⟨B i,0,none⟩):=by simp[Ctx.push]
  have O:Sim E M w0 nt ds (c.push (.pointer (some ⟨B i,0,none⟩))) ((d,.ptr h.length [])::env) (h++ [bBV E.T t]) a w:=by
   refine⟨by simp_all,hs.glob.mono (fun _ h=>h) (.refl _ _),fun t'=>?_,hs.size,hs.defers⟩;simp only[look];split
   ·rename_i e;subst e;rw[q3,← hs.good.n];exact⟨⟨Nat.lt_succ_self c.n,B i,by rw[e1]; rfl,rfl⟩,(fun h=>by cases h),(fun _ cs=>by simp)⟩
   ·exact Z.val (hs.env t')
  refine aUq hE r _ _ _ B O (fun p hp=>?_) g.2;obtain⟨U,p1,p2,p3,p4,p5,p6,p7⟩:=I p (by simp[hp]);refine⟨U,p1,p2,p3,p4,p5,p6,fun k o N=>?_⟩;rcases Nat.lt_trichotomy k h.length with J|W|hgt
  ·rw[List.getElem?_append_left J] at N;rw[eR Z.le rfl (by rw[hs.good.n]; exact J)];simp_all
  ·subst W;simp at N;subst N;rw[z,← hs.good.n];simp only[dP,e1,aW,ne_eq,Option.some.injEq];grind
  grind
theorem bLc(hE:eQ P E){ops:List Oper}{Q:Exit→Act→World→Prop}(J:∀o∈ops,eZ nt o=true){K:St→List Obj→Prop}{i:Nat}(I:i<ops.length){env:St}{h:List Obj}{c:Ctx}{a:Act}{w:World}(hs:yZ E ops (ops.drop i) env h K)(f:Sim E M w0 nt ds c env h a w)
  {N:Act→World→Prop} (hn:∀q h' c' a' w',yZ E ops (ops.drop (i+1)) q h' K→Sim E M w0 nt ds c' q h' a' w'→N a' w'):wpOp P ops.toArray Q i N a w:=by
 rw[List.drop_eq_getElem_cons I] at hs;have g:=J ops[i] (List.getElem_mem I);have O:∀(v:Value) (av:AV),aZ c w av v→Sim E M w0 nt ds c (wU ops[i].dst av env) h (a.put ops[i].dst v) w:=fun v av hv=>f.after g ⟨.refl _ _,f.good,hv⟩;unfold wpOp;simp only[List.getElem?_toArray,List.getElem?_eq_getElem I];have hrun:((xU E env h ops[i]).1∧yZ E ops (ops.drop (i+1)) (wU ops[i].dst (xU E env h ops[i]).2.1 env) (xU E env h ops[i]).2.2 K)→Region.wanted ops[i] (yielded ops.toArray a.tmps)=true→(if Region.wanted ops[i] (yielded ops.toArray a.tmps)=true then Oper.wp P ops[i] a w N Q∨(ops[i].asks P a w∧LetsOut Q) else N (a.put ops[i].dst Go.undef) w):=fun⟨h1,U⟩ Z=>by
  rw[if_pos Z]
  left
  refine(aKF hE f g h1).wp fun v w' c' ha=>?_;exact hn _ _ c' _ w' U (f.after g ha)
 have hskip:yZ E ops (ops.drop (i+1)) (wU ops[i].dst .undef env) h K→Region.wanted ops[i] (yielded ops.toArray a.tmps)=false→(if Region.wanted ops[i] (yielded ops.toArray a.tmps)=true then Oper.wp P ops[i] a w N Q∨(ops[i].asks P a w∧LetsOut Q) else N (a.put ops[i].dst Go.undef) w):=fun U Z=>by
  rw[if_neg (by simp_all)];exact hn _ _ c _ w U (O _ _ rfl)
 simp only[yZ] at hs;cases W:ops[i].guard with
 | none =>
  grind[Region.wanted]
 | some jp =>
  obtain⟨j,L⟩:=jp;rw[W] at hs;simp only at hs;cases z:aGE ops j with
  | none=>simp_all
  | some dj =>
   rw[z] at hs;simp only at hs;have hv:=f.env dj;split at hs
   ·rename_i b hb;rw[hb] at hv;have Y:=aFG hv;have hy:=zA J f.size z Y;simp only[yb] at hy;by_cases e:b=L
    ·grind[Region.wanted]
    ·have e':b= !L:=(by cases b<;>cases L<;>simp_all);grind[Region.wanted]
   ·rename_i hb;rw[hb] at hv;have hy:=zA J f.size z (v:=Go.undef) hv;grind[Region.wanted,undef,yb]
   simp_all
def bLd(o:Oper)(k:Nat):Bool:=o.after.toList.any fun e=>Region.binds .any e&&decide (e.on=k)
def aQY:List Oper→List (List Nat)→List (List Nat)
 | [],f=>f
 | o::r,f=>aQY r (f++ [(List.range f.length).filter fun k=>bLd o k||(List.range f.length).any fun j=>bLd o j&&(f.getD j []).contains k])
def aQZ(n:Nat)(ops:List Oper):Bool :=
 (ops.zipIdx.all fun p=>p.1.after.toList.all fun e=> !Region.binds .any e||decide (e.on<p.2)) &&
 ((aQY ops []).zipIdx.all fun p=>decide (p.2<n)||(List.range p.2).all fun k=>p.1.contains k)
theorem bBW{o:Oper}{k:Nat}:bLd o k=true↔ ∃e∈o.after,Region.binds .any e=true∧e.on=k:=by
 simp only[bLd,List.any_eq_true,Bool.and_eq_true,decide_eq_true_eq,Array.mem_toList_iff]
theorem bBX{ops:List Oper}:∀(r:List Oper) (f:List (List Nat)),f.length+r.length=ops.length→(∀j,ops[f.length+j]? = r[j]?) →
  (∀(i:Nat) (S:List Nat),f[i]? = some S→ ∀k∈S,∀L:Nat→Prop,(∀j o,ops[j]? = some o→L j→ ∀e∈o.after,Region.binds .any e=true→L e.on)→(∀o,ops[i]? = some o→ ∀e∈o.after,Region.binds .any e=true→L e.on)→L k) →
  (aQY r f).length=ops.length∧ ∀(i:Nat) (S:List Nat),(aQY r f)[i]? = some S→ ∀k∈S,∀L:Nat→Prop,(∀j o,ops[j]? = some o→L j→ ∀e∈o.after,Region.binds .any e=true→L e.on)→(∀o,ops[i]? = some o→ ∀e∈o.after,Region.binds .any e=true→L e.on)→L k
 | [],f,hl,_,h=>⟨by grind[aQY],h⟩
 | o::r,f,hl,Z,h=>by
  simp only[aQY];have ho:ops[f.length]? = some o:=by have:=Z 0; simp_all
  refine bBX r _ (by grind) (fun j=>by have:=Z (j+1); grind) fun i S g k hk L O hi=>?_;rcases Nat.lt_trichotomy i f.length with q|W|hgt
  ·rw[List.getElem?_append_left q] at g;exact h i S g k hk L O hi
  ·subst W;simp only[List.getElem?_concat_length,Option.some.injEq] at g;subst g;simp only[List.mem_filter,List.mem_range,Bool.or_eq_true,List.any_eq_true,Bool.and_eq_true] at hk;obtain⟨_,hk⟩:=hk;rcases hk with hk|⟨j,Y,hd,hc⟩
   ·obtain⟨e,he,hb,rfl⟩:=bBW.1 hk;simp_all
   ·obtain⟨e,he,hb,rfl⟩:=bBW.1 hd;have U:=hi o ho e he hb;have Y:e.on<f.length:=Y;have J:f[e.on]? = some (f.getD e.on []):=(by simp_all);exact h e.on _ J k (by simp_all) L O (fun o' I e' z N=>O e.on o' I U e' z N)
  grind
theorem jE{n:Nat}{ops:List Oper}(h:aQZ n ops=true){i:Nat}{o:Oper}(g:ops[i]? = some o):(∀e∈o.after,Region.binds .any e=true→e.on<i) ∧
  (n≤i→ ∀L:Nat→Prop,(∀j o,ops[j]? = some o→L j→ ∀e∈o.after,Region.binds .any e=true→L e.on)→(∀e∈o.after,Region.binds .any e=true→L e.on)→ ∀k,k<i→L k):=by
 simp only[aQZ,Bool.and_eq_true] at h;obtain⟨z,I⟩:=h;refine⟨fun e he hb=>?_,fun W L O hi k hk=>?_⟩
 ·have:=List.all_eq_true.1 z (o,i) (by grind);grind
 ·obtain⟨q1,J⟩:=bBX (ops:=ops) ops [] (by simp) (fun j=>by simp) (fun i S f=>by grind);have N:i<ops.length:=jE.get_lt' g;have f:(aQY ops [])[i]? = some ((aQY ops [])[i]'(by omega)):=List.getElem?_eq_getElem _;have:=List.all_eq_true.1 I (_,i) (by rw[List.mem_zipIdx_iff_getElem?]; exact f);simp only[Bool.or_eq_true,decide_eq_true_eq] at this;have:=List.all_eq_true.1 (this.resolve_left (by omega)) k (List.mem_range.2 hk);exact J i _ f k (by simp_all) L O (fun U q=>by simp_all)
where
 get_lt' {ops:List Oper} {i:Nat} {o:Oper} (g:ops[i]? = some o):i<ops.length:=by
  grind
theorem bBY(hE:eQ P E){ops:List Oper}{Q:Exit→Act→World→Prop}(J:∀o∈ops,eZ nt o=true){K:St→List Obj→Prop}(hK:∀env h c a w,K env h→Sim E M w0 nt ds c env h a w→Q .normal a w){n:Nat}(ht:aQZ n ops=true) :
  ∀(m i:Nat),i+m=ops.length→n≤i→ ∀(listed:Array Bool),listed.size=ops.length→(∀k,k<ops.length→(listed.getD k false=true↔k<i))→ ∀(env:St) (h:List Obj) (c:Ctx) (a:Act) (w:World),yZ E ops (ops.drop i) env h K→Sim E M w0 nt ds c env h a w→wpAny P .any ops.toArray Q m listed a w
 | 0,i,hi,Z,listed,Y,hl,env,h,c,a,w,hs,f=>by
  rw[List.drop_eq_nil_of_le (by omega)] at hs;refine⟨?_,hK env h c a w hs f⟩;rw[List.eq_nil_iff_forall_not_mem];grind[mem_ready,jE.get_lt']
 | m+1,i,hi,Z,listed,Y,hl,env,h,c,a,w,hs,f=>by
  have g:i<ops.length:=by omega
  have hio:ops[i]? = some ops[i]:=List.getElem?_eq_getElem g;refine⟨fun hr=>?_,fun j hj=>?_⟩
  ·exfalso;have hmem:i∈Region.ready .any ops.toArray listed:=by
    grind[mem_ready,jE]
   simp_all
  ·obtain⟨h1,o,N,L⟩:=mem_ready.1 hj;have N:ops[j]? = some o:=(by simp_all);have hjl:=jE.get_lt' N;have U:j=i:=by
    rcases Nat.lt_trichotomy j i with hlt|heq|W
    ·grind
    ·exact heq
    ·have:=(jE ht N).2 (by omega) (fun k=>k<ops.length→listed.getD k false=true) (fun k o' I hk e he hb=>fun hlt=>by
      have hkl:=jE.get_lt' I;have h3:=(jE ht I).1 e he hb;grind) (fun e he hb _=>L e he hb) i W g
     simp_all
   subst U;refine bLc hE J g hs f fun z h' c' a' w' O q=>?_;refine bBY hE J hK ht m (j+1) (by omega) (by omega) (listed.setIfInBounds j true) (by grind) (fun k hk=>?_) z h' c' a' w' O q;by_cases e:j=k
   ·simp_all
   ·rw[getD_set_ne false e,hl k hk];omega
theorem bIw{pre tail:List Oper}{Q:Exit→Act→World→Prop}{i:Nat}{o:Oper}(q:pre[i]? = some o)(L:∀j p,o.guard=some (j,p)→j<pre.length){K:Act→World→Prop}{a:Act}{w:World}(h:wpOp P pre.toArray Q i K a w):wpOp P (pre++tail).toArray Q i K a w:=by
 have J:i<pre.length:=jE.get_lt' q;have g:(pre++tail)[i]? = some o:=by grind
 have z:Region.wanted o (yielded (pre++tail).toArray a.tmps)=Region.wanted o (yielded pre.toArray a.tmps):=by
  cases f:o.guard with
  | none=>simp[Region.wanted,f]
  | some I =>
   obtain⟨j,p⟩:=I;have:=L j p f;simp only[Region.wanted,f,yielded,List.getElem?_toArray,List.getElem?_append_left this]
 unfold wpOp at h ⊢;simp only[List.getElem?_toArray,q,g] at h ⊢;rw[z]; exact h
theorem aPD:∀(l:List Oper) (i:Nat),(eB l i).Pairwise (fun p q=>p.1<q.1)
 | [],i=>List.Pairwise.nil
 | o::r,i=>by
  simp only[eB];split
  ·refine List.pairwise_cons.2 ⟨fun p hp=>?_,aPD r (i+1)⟩;grind[zC]
  ·exact aPD r (i+1)
theorem aEX(n k:Nat):(Array.replicate n false).getD k false=false:=by
 by_cases h:k<n<;>simp[h]
theorem aYs(hE:eQ P E)(hmix:P.follows .mixedOrders=true){pre tail:List Oper}{Q:Exit→Act→World→Prop}(hok:∀o∈pre++tail,eZ nt o=true)(hu:aIk pre=true)(U:aZi pre=true)(ht:aQZ pre.length (pre++tail)=true){c:Ctx}{a:Act}{w:World}(hs:Sim E M w0 nt ds c env h a w){K':St→List Obj→Prop}
  (hv:vcA E h env pre 0 [] (fun acc=>K' (mZ E.T (eB pre 0) (kM acc env) h).1 (mZ E.T (eB pre 0) (kM acc env) h).2))
  (htail:∀env h c a w (listed:Array Bool),listed.size=(pre++tail).length→(∀k,k<(pre++tail).length→(listed.getD k false=true↔k<pre.length))→K' env h→Sim E M w0 nt ds c env h a w→wpAny P .any (pre++tail).toArray Q tail.length listed a w) {id:Nat}:(Code.region id (pre++tail).toArray true).wp P Q a w:=by
 obtain⟨F,f1,f2,f3⟩:=aHq pre 0 [] _ hv;have hF:aAm E h env pre F:=⟨f1,fun i o g=>by simp_all⟩;simp only[Nat.zero_add] at f3;refine wp_region_any hmix ?_;have L:dG c w c { w with drawn:=w.drawn+1 }:=⟨.refl _,fun b hb=>rfl⟩;have z:Sim E M w0 nt ds c env h a { w with drawn:=w.drawn+1 } :=
  ⟨hs.good.step L rfl rfl ⟨rfl,rfl,rfl,Nat.le_refl _,fun _ _ _=>rfl⟩ (fun _ _ _ _ _=>rfl) hs.good.sfin (fun _ hb=>.inl hb),sY.mono (w:=w) (w':={ w with drawn:=w.drawn+1 }) (fun _ hb=>hb) L.same hs.glob,hs.env.keep L,hs.size,hs.defers⟩
 generalize ({ w with drawn:=w.drawn+1 }:World)=w at z;clear hs L hv;have Y:∀o∈pre,eZ nt o=true:=fun o g=>hok o (by simp[g]);have hanyI:∀i o,pre[i]? = some o→(∀e∈o.after,Region.binds .any e=true→e.on<i)∧(∀j p,o.guard=some (j,p)→ ∃e∈o.after,Region.binds .any e=true∧e.on=j) ∧
   (∀t,Operand.tmp t∈o.op.operands→ ∀k ok,pre[k]? = some ok→ok.dst=some t→k=i∨(k<i∧ ∃e∈o.after,Region.binds .any e=true∧e.on=k)∨(i<k∧ ∃e∈ok.after,Region.binds .any e=true∧e.on=i)):=by
  intro i o g;have hi:i<pre.length:=by
   grind
  simp only[aZi,List.all_eq_true,List.mem_range] at U;have:=U i hi;rw[g] at this;simp only[Bool.and_eq_true,List.all_eq_true,Array.mem_toList_iff] at this;obtain⟨⟨h1,h2⟩,h3⟩:=this;refine⟨fun e he hb=>?_,fun j p hg=>?_,fun t ht k ok hk hd=>?_⟩
  ·grind
  ·grind
  ·have:=h3 _ ht;simp only[List.all_eq_true,List.mem_range] at this;have hkl:k<pre.length:=by
    grind
   have:=this k hkl;rw[hk] at this;simp only[hd,ne_eq,not_true_eq_false,decide_false,Bool.false_or,Bool.or_eq_true,decide_eq_true_eq,Bool.and_eq_true,List.any_eq_true,Array.mem_toList_iff] at this;rcases this with (h|h)|h
   all_goals simp_all
 have main:∀(I:Nat) (listed:Array Bool),listed.size=(pre++tail).length→((List.range pre.length).filter fun k=> !listed.getD k false).length=I→(∀k,pre.length≤k→listed.getD k false=false) →
   (∀k o,pre[k]? = some o→listed.getD k false=true→ ∀e∈o.after,Region.binds .any e=true→listed.getD e.on false=true) →
   ∀(c':Ctx) (a:Act) (w':World) (B:Nat→Nat),Mid E M w0 nt ds h env pre F c w (fun k=>listed.getD k false=true) c' a w'→bFO E.T (eB pre 0) w (fun k=>listed.getD k false=true) c' a w' B→wpAny P .any (pre++tail).toArray Q (I+tail.length) listed a w':=by
  intro I
  induction I with
  | zero =>
   intro listed hsz W hlate hcl c' a w' B hm hf;have f:∀k,k<pre.length→listed.getD k false=true:=fun k hk=>by
    have:=List.eq_nil_of_length_eq_zero W;rw[List.filter_eq_nil_iff] at this;have:=this k (List.mem_range.2 hk)
    simpa using this
   have hsim:=aZj hF z.glob (aDA (l2:=fun k=>k<pre.length) (fun k hk=>⟨fun _=>hk,fun _=>f k hk⟩) hF hm);obtain⟨c2,hsim2⟩:=aUq hE (eB pre 0) _ _ _ B hsim (fun p hp=>by
    obtain⟨o,q1,_,q2,q3,q4⟩:=zC hp;simp only[Nat.sub_zero] at q1;have O:p.1<pre.length:=jE.get_lt' q1;obtain⟨ct,r1,r2,r3,r4,r5,r6⟩:=hf.at_ p hp (f _ O);obtain⟨d,s1,s2,s3,s4⟩:=hF.step p.1 o q1;have hcond:=s3 (by rw[q3]; trivial);simp only[opA,pv,q2,r1] at hcond;refine⟨ct,r1,hcond,r2,Nat.le_trans z.good.keeps.size r3,r5,r6,fun i o' ho' e=>?_⟩;rw[eR hm.later.le (congrFun hm.n.2 _) (by rw[z.good.n]; grind)] at e;have:=(z.good.own i o' _ ho' e).2.1;omega) ((aPD pre 0).imp_of_mem fun {p q} hp hq N e=>by
    obtain⟨o,q1,_⟩:=zC hp;obtain⟨o',q1',_⟩:=zC hq;simp only[Nat.sub_zero] at q1 q1';have:=hf.inj p hp q hq (f _ (jE.get_lt' q1)) (f _ (jE.get_lt' q1')) e;omega)
   grind
  | succ I ih =>
   intro listed hsz W hlate hcl c' a w' B hm hf;rw[show I+1+tail.length=(I+tail.length)+1 from by omega];have O:∀k,k<pre.length→(pre++tail)[k]? = pre[k]? := fun k hk=>List.getElem?_append_left hk;refine⟨fun hr=>?_,fun i hi=>?_⟩
   ·exfalso;have hex:∃k,k<pre.length∧listed.getD k false=false:=by
     have hne:((List.range pre.length).filter fun k=> !listed.getD k false)≠ []:=fun e=>(by grind);obtain⟨k,hk⟩:=List.exists_mem_of_ne_nil _ hne;grind
    have hmin:∃k,(k<pre.length∧listed.getD k false=false)∧ ∀j,j<k→ ¬(j<pre.length∧listed.getD j false=false):=by
     obtain⟨k,hk⟩:=hex
     induction k using Nat.strongRecOn with
     | _ k ihk =>
      by_cases hh:∃j,j<k∧(j<pre.length∧listed.getD j false=false)
      ·obtain⟨j,hj,hp⟩:=hh; exact ihk j hj hp
      grind
    obtain⟨k,⟨hk,Z⟩,hlow⟩:=hmin;have hmem:k∈Region.ready .any (pre++tail).toArray listed:=by
     rw[mem_ready];have N:k<listed.size:=(by rw[hsz]; simp; omega);refine⟨by simp[N] at Z ⊢; exact Z,pre[k],by rw[List.getElem?_toArray,O k hk]; exact List.getElem?_eq_getElem hk,fun e he hb=>?_⟩;have:=(hanyI k _ (List.getElem?_eq_getElem hk)).1 e he hb;have hn:=hlow e.on this;by_cases hh:listed.getD e.on false=true
     ·exact hh
     ·exact absurd ⟨by omega,by simpa using hh⟩ hn
    grind
   ·obtain⟨h1,o,g,f⟩:=mem_ready.1 hi;have g:(pre++tail)[i]? = some o:=(by grind);have hil0:=jE.get_lt' g;have hex:∃k,k<pre.length∧listed.getD k false=false:=by
     have hne:((List.range pre.length).filter fun k=> !listed.getD k false)≠ []:=fun e=>(by grind);obtain⟨k,hk⟩:=List.exists_mem_of_ne_nil _ hne;grind
    have hil:i<pre.length:=by
     rcases Nat.lt_or_ge i pre.length with h|h
     ·exact h
     ·obtain⟨k,hk,Z⟩:=hex;have hk2:=(jE ht g).2 h (fun k=>listed.getD k false=true) (fun j o' ho' hj e he hb=>by
       grind) (fun e he hb=>f e he hb) k (by omega)
      grind
    rw[O i hil] at g;have N:i<listed.size:=(by omega);have hni:¬listed.getD i false=true:=(by grind);obtain⟨a1,a2,a3⟩:=hanyI i o g;obtain⟨d,s1,_,_,_⟩:=hF.step i _ g;have hokO:=Y o (List.mem_of_getElem? g);refine bIw g (fun j p hg=>?_) ?_
    ·obtain⟨e,he,hb,hon⟩:=a2 j p hg;grind
    refine aUc hE hF Y z.glob hm g hni (fun t ht k ok hk hd=>?_) (fun j p hg=>?_) (fun k ok hk hd=>aTD hu g hk hd (by grind)) fun c'' a'' w'' hm' hx=>?_
    ·rcases a3 t ht k ok hk hd with h|⟨h,e,he,hb,hon⟩|⟨h,e,he,hb,hon⟩
     all_goals grind
    ·obtain⟨e,he,hb,hon⟩:=a2 j p hg;grind
    ·have J:∀k,(listed.setIfInBounds i true).getD k false=true↔(listed.getD k false=true∨k=i):=fun k=>by
      by_cases e:i=k
      ·subst e; simp[N]
      ·rw[getD_set_ne false e];exact⟨.inl,fun h=>h.resolve_right (fun h=>e h.symm)⟩
     obtain⟨B',hf'⟩:=hf.step g (by rw[hm.size]; omega) hu hni (by grind) hm.good.sfin hx;refine ih (listed.setIfInBounds i true) (by grind) ?_ (fun k hk=>?_) (fun k o' hk hkl e he hb=>?_) c'' a'' w'' B' (aDA (fun k _=>(J k).symm) hF hm') ⟨hf'.size,fun p hp hl=>hf'.at_ p hp ((J _).1 hl),fun p hp q hq hl1 hl2=>hf'.inj p hp q hq ((J _).1 hl1) ((J _).1 hl2)⟩
     ·have hfil:((List.range pre.length).filter fun k=> !(listed.setIfInBounds i true).getD k false)=((List.range pre.length).filter fun k=> !listed.getD k false).filter (fun k=>decide (k≠i)):=by
       rw[List.filter_filter];apply List.filter_congr;intro k _;rw[Bool.eq_iff_iff];by_cases e:k=i
       ·grind
       ·have h2:(listed.setIfInBounds i true).getD k false=listed.getD k false:=getD_set_ne false (fun h=>e h.symm);rw[h2];simp[e]
      rw[hfil];have hnd:((List.range pre.length).filter fun k=> !listed.getD k false).Nodup:=List.nodup_range.filter _;have hmem:i∈((List.range pre.length).filter fun k=> !listed.getD k false):=by
       grind
      have:=hnd.erase_eq_filter i;grind
     all_goals grind
 have hstart:=main pre.length (Array.replicate (pre++tail).length false) (by simp) (by
   grind[List.filter_eq_self,aEX]) (fun k _=>aEX _ _) (fun k o g hl=>by grind[aEX]) c a w (fun _=>0) (aDA (fun k hk=>⟨False.elim,fun h=>by grind[aEX]⟩) hF (aPv z)) ⟨Nat.le_refl _,(fun p hp hl=>by grind[aEX]),(fun p hp q hq hl=>by grind[aEX])⟩
 grind
theorem bIx(L:eQ P E)(f:P.follows .mixedOrders=true){pre tail:List Oper}{Q:Exit→Act→World→Prop}(z:∀o∈pre++tail,eZ nt o=true)(O:aIk pre=true)(q:aZi pre=true)(ht:aQZ pre.length (pre++tail)=true){c:Ctx}{a:Act}{w:World}(hs:Sim E M w0 nt ds c env h a w){K':St→List Obj→Prop}
  (hv:vcA E h env pre 0 [] (fun g=>yZ E (pre++tail) tail (mZ E.T (eB pre 0) (kM g env) h).1 (mZ E.T (eB pre 0) (kM g env) h).2 K')) (N:∀env h c a w,K' env h→Sim E M w0 nt ds c env h a w→Q .normal a w) {id:Nat}:(Code.region id (pre++tail).toArray true).wp P Q a w :=
 aYs L f z O q ht hs (K':=fun env h=>yZ E (pre++tail) tail env h K') hv fun env h c a w listed J hl hk I =>
  bBY L z N ht tail.length pre.length (by simp) (Nat.le_refl _) listed J hl env h c a w (by simp_all) I
end
end Go.Vc
namespace Go.Vc
open Go.RowKit
def bOe:List Obj→List (Nat×Obj)→List Obj
 | h,[]=>h
 | h,(i,o)::r=>bOe (h.set i o) r
def aMc(env:St)(keep:List Nat)(u:St):St:=u++keep.map fun t=>(t,look env t)
theorem bIy{α:Type}(a s:α):(List.replicate 1 a).set 0 s= [s]:=rfl
theorem bIz{α:Type}(a s k:α):((List.replicate 2 a).set 0 s).set 1 k= [s,k]:=rfl
theorem bIA{α:Type}(a s k m:α):(((List.replicate 3 a).set 0 s).set 1 k).set 2 m= [s,k,m]:=rfl
def elB(P:Program)(l:List (TypeId×Ty))(el:TypeId→TypeId):Bool:=l.all fun p=>match p.2 with
 | .sl _=>match P.underlying p.1 with
  | some (.slice e)=>decide (e=el p.1)
  | _=>false
 | _=>true
theorem bLe{P:Program}{l:List (TypeId×Ty)}{el:TypeId→TypeId}(h:elB P l el=true):∀t f,aKZ l t=some (.sl f)→P.underlying t=some (.slice (el t)):=fun t f ht=>by
 have:=List.all_eq_true.1 h _ (aYg ht);grind
section
variable {F:Fr} {Q:Exit→Act→World→Prop} {env:St} {h:List Obj}
theorem bHd{x:Code}(hx:Tri F x (Exit.noGoto Q) env h):Tri F (.scope x) Q env h:=fun f c a w hs =>
 wp_scope_straight (hx (by grind[fL]) c a w hs)
end
end Go.Vc
namespace Go.Vc
open Go.RowKit
structure Pan where
 k:TypeId
 t:Ty
 x:t.den
inductive bNq where
 | ret (v:AV) (h:List Obj)
 | pan (p:Pan) (h:List Obj)
structure qW where
 D:Type
 av:D→List AV
 hp:D→List Obj
 m:Nat
 pre:D→Prop
 out:D→bNq
def GM(sp:qW)(c:Ctx)(d:sp.D):Perm:=⟨fun b=>∃i o,(sp.hp d)[i]? = some o∧dP c i o b,c.S,sp.m,c.hd⟩
structure GIn(G:Nat→AV)(sp:qW)(c:Ctx)(w:World)(d:sp.D)(vs:List Value):Prop where
 good:Good (GM sp c d) w c (sp.hp d) w
 glob:sY G c.S w
 len:vs.length=(sp.av d).length
 val:∀i (h1:i<(sp.av d).length) (h2:i<vs.length),aZ c w (sp.av d)[i] vs[i]
def aW5(k:TypeId)(u:Value):List PanicEntry:=[{ v:=.iface k u,recovered:=false,goexit:=false }]
def aMd(sp:qW)(c:Ctx)(w:World)(d:sp.D)(e:Ending)(w':World):Prop :=
 ∃c',match sp.out d with
  | .ret v h'=>∃u,e= .returned u∧Good (GM sp c d) w c' h' w'∧aZ c' w' v u
  | .pan p h'=>∃u,e= .panicked (aW5 p.k u)∧Good (GM sp c d) w c' h' w'∧cZ w' c'.S p.t p.x u
def GOK(P:Program)(G:Nat→AV)(f:FuncId)(sp:qW):Prop :=
 ∀(c:Ctx) (w:World) (d:sp.D) (vs:Array Value),sp.pre d→GIn G sp c w d vs.toList→Calls P f vs w (aMd sp c w d)
def bEf(f:List Nat):List Nat→Option (List Nat)
 | []=>some []
 | i::r=>match f[i]?,bEf f r with
  | some j,some l=>some (j::l)
  | _,_=>none
def aSf(g:List Nat):AV→AV
 | .own i=>match g[i]? with
  | some j=>.own j
  | none=>.junk
 | .ptr i p=>match g[i]? with
  | some j=>.ptr j p
  | none=>.junk
 | .sub i s off n=>match g[i]? with
  | some j=>.sub j s off n
  | none=>.junk
 | .mp i=>match g[i]? with
  | some j=>.mp j
  | none=>.junk
 | .fn f q l2=>match bEf g q,bEf g l2 with
  | some q,some l2=>.fn f q l2
  | _,_=>.junk
 | .agg _=>.junk
 | .flat _=>.junk
 | .tup _=>.junk
 | v=>v
def aGF(f:List Nat):AV→AV
 | .agg g=>.agg (g.map (aSf f))
 | v=>aSf f v
def emb(f:List Nat):AV→AV
 | .tup g=>.tup (g.map (aGF f))
 | v=>aGF f v
def aUr(f:List Nat):Obj→Obj
 | .box n v=>.box n (aGF f v)
 | .trh e m t g k v=>.trh e m t g k (aGF f v)
 | o=>o
def aE9:List (Nat×Obj)→List Obj→List Obj
 | [],h=>h
 | (i,o)::r,h=>aE9 r (h.set i o)
def qR(σ:List Nat)(m n k:Nat):List Nat:=σ.take m++List.range' n (k-m)
def aFa(σ:List Nat)(m:Nat)(h h':List Obj):List Obj :=
 aE9 ((σ.take m).zip ((h'.take m).map (aUr (qR σ m h.length h'.length)))) (oA (σ.drop m) h)++(h'.drop m).map (aUr (qR σ m h.length h'.length))
section
variable {P:Program} {E:Env} {M:Perm} {w0:World} {c c':Ctx} {h:List Obj} {w w':World}
structure Emb(μ:List Nat)(c' cN:Ctx):Prop where
 S:∀b,c'.S b→cN.S b
 hd:∀i j,μ[i]? = some j→j<cN.n∧cN.hd j=c'.hd i
theorem bFP{g:List Nat}{cN:Ctx}(he:Emb g c' cN):∀ {l f:List Nat},bEf g l=some f→(∀j∈f,j<cN.n)∧f.map cN.hd=l.map c'.hd
 | [],f,h=>by simp[bEf] at h; simp_all
 | i::r,f,h=>by
  simp only[bEf] at h;split at h
  ·rename_i j l q z;cases h;obtain⟨q1,L⟩:=he.hd i j q;obtain⟨I,J⟩:=bFP he z;simp_all
  grind
theorem aUs{z:List Nat}{cN:Ctx}(he:Emb z c' cN):∀ {v:AV} {cs:List Value},aN c' w v cs→aN cN w (aSf z v) cs:=by
 intro v cs g;have I:c'.le ⟨cN.S,c'.hd,c'.n,c'.bl⟩:=⟨he.S,Nat.le_refl _,fun _ _=>rfl⟩;cases v<;>simp only[aSf]<;>(try trivial)
 case own i =>
  split
  ·rename_i j hp;obtain⟨q1,q⟩:=he.hd i j hp;grind[aN]
  ·trivial
 case ptr i p =>
  split
  ·rename_i j hp;obtain⟨q1,q⟩:=he.hd i j hp;grind[aN]
  ·trivial
 case sub i s off n =>
  split
  ·rename_i j hp;obtain⟨q1,q⟩:=he.hd i j hp;grind[aN]
  ·trivial
 case mp i =>
  split
  ·rename_i j hp;obtain⟨q1,q⟩:=he.hd i j hp;grind[aN]
  ·trivial
 case fn f l1 l2 =>
  grind[bFP,aN]
 case val t x=>exact bC.keep he.S (.refl _ _) t x cs g
 case full t xs =>
  simp only[aN] at g ⊢;obtain⟨a,n,e,hs⟩:=g;exact⟨a,n,e,hs.keep he.S (.refl _ _) (fun x cs=>bC.keep he.S (.refl _ _) t x cs)⟩
 case roa t x =>
  simp only[aN] at g ⊢;obtain⟨b,off,ds,e,hb,hd,hc⟩:=g;exact⟨b,off,ds,e,he.S b hb,bC.keep he.S (.refl _ _) t x ds hd,hc⟩
 all_goals exact g
theorem bBZ{f:List Nat}{cN:Ctx}(he:Emb f c' cN):∀ {vs:List AV} {cs:List Value},jY c' w vs cs→jY cN w (vs.map (aSf f)) cs
 | [],_,g=>g
 | v::r,_,⟨c1,I,e,q,z⟩=>⟨c1,I,e,aUs he q,bBZ he z⟩
theorem aMe{f:List Nat}{cN:Ctx}(he:Emb f c' cN){v:AV}{cs:List Value}(g:aN c' w v cs):aN cN w (aGF f v) cs:=by
 cases v
 case agg vs=>exact bBZ he g
 all_goals exact aUs he g
theorem bIB(f:List Nat)(v:AV):aGF f v= .junk∨(aGF f v).isAgg=v.isAgg:=by
 cases v<;>simp only[aGF,aSf]<;>first|exact .inr trivial|exact .inl trivial|exact .inr rfl|exact .inl rfl|grind[AV.isAgg]
theorem aYt{f:List Nat}{cN:Ctx}(he:Emb f c' cN){v:AV}{x:Value}(g:xQ c' w v x)(q:aGF f v≠ .junk):xQ cN w (aGF f v) x:=by
 have ha:=(bIB f v).resolve_left q;exact⟨aMe he g.1,by rw[ha]; exact g.2.1,by rw[ha]; exact g.2.2⟩
theorem bNr(f:List Nat)(v:AV):aGF f v= .undef→v= .undef:=by
 cases v<;>simp only[aGF,aSf]<;>first|exact fun _=>trivial|(intro h; cases h; done)|grind|grind
theorem bLf(f:List Nat)(v:AV)(vs:List AV):aGF f v≠ .tup vs:=by
 cases v<;>simp only[aGF,aSf]<;>first|(intro h; cases h; done)|grind
theorem bLg{f:List Nat}{cN:Ctx}(he:Emb f c' cN){v:AV}{x:Value}(I:aZ c' w v x)(L:∀vs,v= .tup vs→ ∀u∈vs,aGF f u≠ .junk):aZ cN w (emb f v) x:=by
 have z:∀v,(∀vs,v≠ .tup vs)→v≠ .junk→v≠ .undef→xQ c' w v x→aZ cN w (aGF f v) x:=fun v ht U W q=>by
  by_cases g:aGF f v= .junk
  ·rw[g]; trivial
  ·have:=aYt he q g;have e1:=bNr f v;have J:=bLf f v;generalize aGF f v=u at this e1 J g;cases u<;>first|exact this|simp_all|simp_all|simp_all
 cases v
 case junk=>trivial
 case undef=>exact I
 case tup vs =>
  obtain⟨N,hx,hl,hv⟩:=I;refine⟨N,hx,by simp_all,fun i q O=>?_⟩;simp only[List.length_map] at q;simp only[List.getElem_map];exact aYt he (hv i q O) (L vs rfl _ (List.getElem_mem q))
 all_goals exact z _ (by simp) (by simp) (by simp) I
theorem Good.rebase(f:Good M w0 c h w){m:Nat}(hm:m≤c.n):Good ⟨fun b=>∃i o,h[i]? = some o∧dP c i o b,c.S,m,c.hd⟩ w c h w :=
 ⟨f.n,.refl _ _,f.sfin,fun b hb _=>.inl hb,f.objs,fun i o b g hb=>⟨.inr ⟨i,o,g,hb⟩,(f.own i o b g hb).2⟩,f.sep,hm,fun _ _=>rfl⟩
end
end Go.Vc
namespace Go.Vc
open Go.RowKit
theorem aGb:∀(l:List (Nat×Obj)) (h:List Obj),(aE9 l h).length=h.length
 | [],h=>rfl
 | (i,o)::r,h=>by rw[aE9,aGb r]; simp
theorem aMf:∀(l:List (Nat×Obj)) (h:List Obj) (i:Nat),(∀p∈l,p.1≠i)→(aE9 l h)[i]? = h[i]?
 | [],h,i,_=>rfl
 | (j,o)::r,h,i,f=>by
  rw[aE9,aMf r _ i (fun p hp=>f p (by simp[hp])),List.getElem?_set_ne (f (j,o) (by simp))]
theorem aYu:∀(l:List (Nat×Obj)) (h:List Obj),(l.map (·.1)).Nodup→(∀p∈l,p.1<h.length)→ ∀p∈l,(aE9 l h)[p.1]? = some p.2
 | [],h,_,_,p,hp=>by cases hp
 | (j,o)::r,h,hd,hl,p,hp=>by
  simp only[List.map_cons,List.nodup_cons] at hd;rcases List.mem_cons.1 hp with rfl|hp
  ·have:j<h.length:=hl (j,o) (by simp);rw[aE9,aMf r _ j (fun q hq e=>hd.1 (List.mem_map.2 ⟨q,hq,e⟩))];simp[this]
  ·rw[aE9];exact aYu r _ hd.2 (fun q hq=>by grind) p hp
section
variable {P:Program} {E:Env} {M:Perm} {w0:World} {c c':Ctx} {h h':List Obj} {w w':World}
def cN(c c':Ctx)(m g:Nat)(σ f:List Nat):Ctx:=⟨fun b=>c.S b∨c'.S b,fun i=>if i<c.n then c.hd i else c'.hd (m+(i-c.n)),c.n+(g-m),fun i b=>(i<c.n∧i∉σ∧c.bl i b)∨ ∃j:Nat,f[j]? = some i∧c'.bl j b⟩
theorem bOf(c c':Ctx)(m g:Nat)(σ f:List Nat):c.le (cN c c' m g σ f):=⟨fun b hb=>.inl hb,Nat.le_add_right _ _,fun i hi=>by simp[cN,hi]⟩
theorem Good.frame(f:Good M w0 c h w){σ:List Nat}{m:Nat}(hd:σ.Nodup)(hσ:∀i∈σ,i<h.length)(hm:m≤σ.length){Ml:Perm}(hMr:Ml.rd=c.S)(hMw:∀b,Ml.wr b→ ∃i o,i∈σ∧h[i]? = some o∧dP c i o b)(hMm:Ml.m=m)(hMd:∀j,j<m→Ml.roots j=c.hd (σ.getD j 0))
  (O:Good Ml w c' h' w'):Good M w0 (cN c c' m h'.length σ (qR σ m h.length h'.length)) (aFa σ m h h') w'∧dG c w (cN c c' m h'.length σ (qR σ m h.length h'.length)) w'∧Emb (qR σ m h.length h'.length) c' (cN c c' m h'.length σ (qR σ m h.length h'.length)):=by
 have hk:=O.keeps;have hroot:=O.root;rw[hMm] at hroot;have hmn:m≤h'.length:=by rw[← O.n]; omega
 have hwrS:∀b,Ml.wr b→b<w.heap.size∧ ¬c.S b∧(w0.heap.size≤b∨M.wr b):=fun b hb=>by
  obtain⟨i,o,hi,z,hob⟩:=hMw b hb;obtain⟨I,U,h3⟩:=f.own i o b z hob;simp_all
 have hlS:aBH c.S w w':=fun b hb=>hk.block b (f.sfin b hb) (fun hw=>(hwrS b hw).2.1 hb);have hl:dG c w (cN c c' m h'.length σ (qR σ m h.length h'.length)) w':=⟨bOf _ _ _ _ _ _,hlS⟩;have hmu:∀j i,(qR σ m h.length h'.length)[j]? = some i→(j<m∧i=σ.getD j 0∧i<h.length∧i∈σ)∨(m≤j∧i=h.length+(j-m)∧j<h'.length):=fun j i N=>by
  unfold qR at N;grind
 have hhd:∀j i,(qR σ m h.length h'.length)[j]? = some i→i<(cN c c' m h'.length σ (qR σ m h.length h'.length)).n∧(cN c c' m h'.length σ (qR σ m h.length h'.length)).hd i=c'.hd j:=fun j i N=>by
  rcases hmu j i N with⟨I,U,h3,_⟩|⟨I,U,h3⟩
  ·refine⟨by simp only[cN]; rw[f.n]; omega,?_⟩;simp only[cN,f.n,h3,if_true];simp_all
  ·refine⟨by simp only[cN]; rw[f.n]; omega,?_⟩;simp only[cN,f.n];grind
 have W:∀i,i<h.length→i∉σ→(cN c c' m h'.length σ (qR σ m h.length h'.length)).bl i=c.bl i:=fun i hi hn=>by
  funext b;refine propext ⟨?_,fun hb=>.inl ⟨by rw[f.n]; exact hi,hn,hb⟩⟩;rintro (⟨_,_,hb⟩|⟨j,N,_⟩)
  all_goals grind
 have hnd:∀i j k:Nat,i<m→j<m→σ[i]? = some k→σ[j]? = some k→i=j:=fun i j k hi N I U=>by
  grind[List.getElem?_eq_some_iff,List.getElem?_inj]
 have hblj:∀j i,(qR σ m h.length h'.length)[j]? = some i→(cN c c' m h'.length σ (qR σ m h.length h'.length)).bl i=c'.bl j:=fun j i N=>by
  funext b;refine propext ⟨?_,fun hb=>.inr ⟨j,N,hb⟩⟩;rintro (⟨q1,q2,_⟩|⟨j2,hj2,hb⟩)
  ·rcases hmu j i N with⟨_,_,_,q⟩|⟨_,q,_⟩
   ·grind
   ·rw[f.n] at q1; omega
  grind
 have g:Emb (qR σ m h.length h'.length) c' (cN c c' m h'.length σ (qR σ m h.length h'.length)):=⟨fun b hb=>.inr hb,hhd⟩;have hcase:∀i o,(aFa σ m h h')[i]? = some o→(i∉σ∧h[i]? = some o)∨o= .dead∨ ∃j J,h'[j]? = some J∧(qR σ m h.length h'.length)[j]? = some i∧o=aUr (qR σ m h.length h'.length) J:=fun i o z=>by
  unfold aFa at z;have hlen:(aE9 ((σ.take m).zip ((h'.take m).map (aUr (qR σ m h.length h'.length)))) (oA (σ.drop m) h)).length=h.length:=by rw[aGb,pL]
  have hmul:(qR σ m h.length h'.length).length=h'.length:=by
   grind[qR,List.length_take]
  rcases Nat.lt_or_ge i h.length with hi|hi
  ·rw[List.getElem?_append_left (by omega)] at z;by_cases hin:∃j,j<m∧σ[j]? = some i
   ·obtain⟨j,N,hji⟩:=hin;have hjh:j<h'.length:=(by omega);have L:(i,aUr (qR σ m h.length h'.length) h'[j])∈(σ.take m).zip ((h'.take m).map (aUr (qR σ m h.length h'.length))):=by
     refine List.mem_iff_getElem?.2 ⟨j,?_⟩;grind
    have:=aYu _ (oA (σ.drop m) h) (by
     have:((σ.take m).zip ((h'.take m).map (aUr (qR σ m h.length h'.length)))).map (·.1)=σ.take m:=by
      grind[List.map_fst_zip,List.length_take]
     grind) (fun p hp=>by
     rw[pL];have:=(List.of_mem_zip hp).1;grind) _ L
    simp only at this;rw[this] at z;cases z;refine .inr (.inr ⟨j,h'[j],List.getElem?_eq_getElem hjh,?_,rfl⟩);unfold qR;rw[List.getElem?_append_left (by grind),List.getElem?_take,if_pos N]; exact hji
   ·rw[aMf _ _ i (fun p hp e=>by
     have:=(List.of_mem_zip hp).1;grind[List.mem_take_iff_getElem,List.getElem?_eq_getElem])] at z
    by_cases hdrop:i∈σ.drop m
    ·grind[aEl]
    ·rw[aDD _ _ i hdrop] at z;refine .inl ⟨fun L=>?_,z⟩;rw[← List.take_append_drop m σ] at L;rcases List.mem_append.1 L with L|L
     ·obtain⟨j,N,hji⟩:=List.mem_take_iff_getElem.1 L;exact hin ⟨j,by omega,by rw[List.getElem?_eq_getElem (by omega),hji]⟩
     ·exact hdrop L
  grind
 have hobj:∀j J i,h'[j]? = some J→(qR σ m h.length h'.length)[j]? = some i→aIL (cN c c' m h'.length σ (qR σ m h.length h'.length)) w' i (aUr (qR σ m h.length h'.length) J):=fun j J i N hi=>by
  have hr:=O.objs j J N;have hS:c'.le ⟨(cN c c' m h'.length σ (qR σ m h.length h'.length)).S,c'.hd,c'.n,c'.bl⟩:=⟨g.S,Nat.le_refl _,fun _ _=>rfl⟩;have e:=(hhd j i hi).2;cases J with
  | dead=>trivial
  | box n v =>
   obtain⟨b,cells,et,q1,q2,q3,q4⟩:=hr;exact⟨b,cells,et,by grind,q2,q3,aMe g q4⟩
  | row et t xs =>
   obtain⟨vals,q1,q2⟩:=hr;exact⟨vals,by grind,bC.keep g.S (.refl _ _) _ _ _ q2⟩
  | frz t xs =>
   show bC _ _ _ _ _;rw[e];exact bC.keep g.S (.refl _ _) _ _ _ hr
  | map k v mm =>
   obtain⟨b,es,clock,q1,q2,q3,q4⟩:=hr;exact⟨b,es,clock,by grind,q2,q3,fun x I U=>⟨(q4 x I U).1.keep g.S (.refl _ _),(q4 x I U).2.keep g.S (.refl _ _)⟩⟩
  | tre et mk t xs =>
   obtain⟨B,q1,q2,q3⟩:=hr;exact⟨B,by rw[e]; exact kT.keep g.S (.refl _ _) _ _ _ _ _ (fun _ _=>rfl) q1,q2,by grind⟩
  | trh et mk t xs k v =>
   obtain⟨css,Bs,q⟩:=hr;exact⟨css,Bs,⟨by rw[e]; exact q.row,q.lc,q.lb,q.kl,fun x h I U hne=>kT.keep g.S (.refl _ _) _ _ _ _ _ (fun _ _=>rfl) (q.el x h I U hne),q.hb,fun I=>⟨aMe g (q.hv I).1,(q.hv I).2⟩,by rw[e]; exact q.nd,by rw[e,hblj j i hi]; exact q.bl⟩⟩
 have hown:∀j J i b,h'[j]? = some J→(qR σ m h.length h'.length)[j]? = some i→dP (cN c c' m h'.length σ (qR σ m h.length h'.length)) i (aUr (qR σ m h.length h'.length) J) b→dP c' j J b:=fun j J i b N hi hb=>by
  have e:=(hhd j i hi).2;have e2:=hblj j i hi;cases J<;>simp only[dP,aUr,e,e2] at hb ⊢ <;> exact hb
 have hfar:∀i o b j J,i∉σ→h[i]? = some o→dP c i o b→h'[j]? = some J→ ¬dP c' j J b:=fun i o b j J hi z hb N e=>by
  have I:=(f.own i o b z hb).2.1;rcases (O.own j J b N e).1 with U|U
  ·omega
  ·obtain⟨i',o',hi',ho',hb'⟩:=hMw b U;exact hi (f.sep i i' o o' b z ho' hb hb'▸hi')
 have hfarS:∀i o b,i∉σ→h[i]? = some o→dP c i o b→ ¬c'.S b:=fun i o b hi z hb hS=>by
  have I:=(f.own i o b z hb).2;rcases O.src b hS I.1 with U|U
  ·grind
  ·obtain⟨i',o',hi',ho',hb'⟩:=hMw b U;exact hi (f.sep i i' o o' b z ho' hb hb'▸hi')
 refine⟨⟨?_,⟨hk.os.trans f.keeps.os,hk.tape.trans f.keeps.tape,hk.output.trans f.keeps.output,Nat.le_trans f.keeps.size hk.size,fun b hb hM=>?_⟩,fun b hb=>?_,fun b hb hlt=>?_,fun i o z=>?_,fun i o b z hb=>?_,fun i k oi ok b hi hk' Z Y=>?_,aEh f.root hl.le⟩,hl,g⟩
 ·unfold aFa cN;simp only[List.length_append,aGb,pL,List.length_map,List.length_drop,f.n]
 ·have hbw:b<w.heap.size:=Nat.lt_of_lt_of_le hb f.keeps.size;rw[hk.block b hbw (fun hw=>?_)]
  ·exact f.keeps.block b hb hM
  grind
 ·rcases hb with hb|hb
  ·exact Nat.lt_of_lt_of_le (f.sfin b hb) hk.size
  ·exact O.sfin b hb
 ·rcases hb with hb|hb
  ·exact f.src b hb hlt
  ·rcases O.src b hb (Nat.lt_of_lt_of_le hlt f.keeps.size) with I|I
   ·rw[hMr] at I; exact f.src b I hlt
   grind
 ·rcases hcase i o z with⟨hi,z⟩|rfl|⟨j,J,N,hij,rfl⟩
  ·exact(f.objs i o z).keep hl (by rw[f.n]; grind) (W i (aA3 z) hi) (fun b hb=>hk.block b (f.own i o b z hb).2.1 (fun hw=>by
    obtain⟨i',o',hi',ho',hb'⟩:=hMw b hw;exact hi (f.sep i i' o o' b z ho' hb hb'▸hi')))
  ·trivial
  grind
 ·rcases hcase i o z with⟨hi,z⟩|rfl|⟨j,J,N,hij,rfl⟩
  ·rw[eR hl.le (W i (aA3 z) hi) (by rw[f.n]; grind)] at hb;obtain⟨I,U,h3⟩:=f.own i o b z hb;refine⟨I,Nat.lt_of_lt_of_le U hk.size,fun hS=>?_⟩;rcases hS with hS|hS
   all_goals grind
  ·cases hb
  ·have hb:=hown j J i b N hij hb;obtain⟨I,U,h3⟩:=O.own j J b N hb;refine⟨?_,U,fun hS=>?_⟩
   ·rcases I with I|I
    ·exact .inl (Nat.le_trans f.keeps.size I)
    grind
   ·rcases hS with hS|hS
    ·rcases I with I|I
     ·have:=f.sfin b hS; omega
     grind
    grind
 ·rcases hcase i oi hi with⟨hi,z⟩|rfl|⟨j,J,N,hij,rfl⟩
  ·rw[eR hl.le (W i (aA3 z) hi) (by rw[f.n]; grind)] at Z;rcases hcase k ok hk' with⟨hk2,ho2⟩|rfl|⟨j2,oj2,hj2,hij2,rfl⟩
   ·rw[eR hl.le (W k (aA3 ho2) hk2) (by rw[f.n]; grind)] at Y;exact f.sep i k oi ok b z ho2 Z Y
   ·cases Y
   grind
  ·cases Z
  ·have Z:=hown j J i b N hij Z;rcases hcase k ok hk' with⟨hk2,ho2⟩|rfl|⟨j2,oj2,hj2,hij2,rfl⟩
   ·rw[eR hl.le (W k (aA3 ho2) hk2) (by rw[f.n]; grind)] at Y;grind
   ·cases Y
   ·have Y:=hown j2 oj2 k b hj2 hij2 Y;have:=O.sep j j2 J oj2 b N hj2 Z Y;grind
end
end Go.Vc

