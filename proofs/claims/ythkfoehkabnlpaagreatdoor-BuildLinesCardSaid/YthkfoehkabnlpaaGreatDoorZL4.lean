import Derived.Test.YthkfoehkabnlpaaGreatDoorZL3
import Derived.Scope
set_option linter.unusedVariables false
set_option linter.unusedSimpArgs false
namespace Go.Vc
open Go.RowKit
def iD:List Nat→List Obj→List Obj
 | [],h=>h
 | i::r,h=>iD r (h.set i .dead)
theorem iO:∀(l:List Nat) (h:List Obj),(iD l h).length=h.length
 | [],h=>rfl
 | i::r,h=>by rw[iD,iO r]; simp
theorem tQ:∀(l:List Nat) (h:List Obj) (i:Nat),i∉l→(iD l h)[i]? = h[i]?
 | [],h,i,_=>rfl
 | j::r,h,i,I=>by
  simp only[List.mem_cons,not_or] at I;rw[iD,tQ r _ i I.2,List.getElem?_set_ne (fun e=>I.1 e.symm)]
theorem uX:∀(l:List Nat) (h:List Obj) (i:Nat) (o:Obj),i∈l→(iD l h)[i]? = some o→o= .dead
 | [],h,i,o,hi,_=>by cases hi
 | j::r,h,i,o,hi,I=>by
  rw[iD] at I;by_cases J:i∈r
  ·exact uX r _ i o J I
  ·rw[tQ r _ i J] at I;have:i=j:=(by rcases List.mem_cons.1 hi with h|h; exact h; exact absurd h J);subst this;by_cases N:i<h.length
   ·simp[N] at I; exact I.symm
   ·rw[List.getElem?_eq_none (by simp; omega)] at I; cases I
section
variable {P:Program} {E:Env} {T:Tab} {M:Perm} {w0:World} {c:Ctx} {h:List Obj} {w:World}
def Ctx.pushB(c:Ctx)(v:Value)(B:Nat→Prop):Ctx:=⟨c.S,fun i=>if i=c.n then v else c.hd i,c.n+1,fun i=>if i=c.n then B else c.bl i⟩
theorem Ctx.le_pushB(c:Ctx)(v:Value)(B:Nat→Prop):c.le (c.pushB v B):=⟨fun _ h=>h,Nat.le_succ _,fun i hi=>by grind[pushB,Nat.ne_of_lt]⟩
theorem Good.remake(I:Good M w0 c h w)(l:List Nat){w':World}{o:Obj}{v':Value}{B:Nat→Prop}(hos:w'.os=w.os)(htp:w'.tape=w.tape)(hout:w'.output=w.output)(hsz:w.heap.size≤w'.heap.size)
  (hsame:∀b,b<w.heap.size→ ¬gN c h l b→w'.heap[b]? = w.heap[b]?) (hob:zL (c.pushB v' B) w' c.n o)
  (hown:∀b,cM (c.pushB v' B) c.n o b→gN c h l b∨(w.heap.size≤b∧b<w'.heap.size)) :
  Good M w0 (c.pushB v' B) (iD l h++ [o]) w'∧bW c w (c.pushB v' B) w':=by
 have hany:∀b,gN c h l b→(w0.heap.size≤b∨M.wr b)∧b<w.heap.size∧ ¬c.S b:=fun b ⟨j,N,_,h2,h3⟩=>I.own j N b h2 h3;have hl:bW c w (c.pushB v' B) w':=⟨c.le_pushB v' B,fun b hb=>hsame b (I.sfin b hb) (fun ha=>(hany b ha).2.2 hb)⟩;have hcase:∀j o',(iD l h++ [o])[j]? = some o'→(h[j]? = some o'∧j<c.n∧j∉l)∨(j=c.n∧o'=o)∨o'= .dead:=fun j o' hj=>by
  have hkl:=iO l h;rw[I.n];rcases Nat.lt_trichotomy j h.length with hlt|heq|hgt
  ·grind[List.getElem?_append_left,uX,tQ]
  all_goals grind
 have hold:∀j N,j<c.n→cM (c.pushB v' B) j N=cM c j N:=fun j N hj=>cX hl.le (by simp[Ctx.pushB,Nat.ne_of_lt hj]) hj N;have hfar:∀j N b,h[j]? = some N→j∉l→cM c j N b→ ¬gN c h l b:=fun j N b hj hn hb ⟨j',o',h1,h2,h3⟩=>hn (I.sep j j' N o' b hj h2 hb h3▸h1);refine⟨⟨by simp[Ctx.pushB,I.n,iO],⟨hos.trans I.keeps.os,htp.trans I.keeps.tape,hout.trans I.keeps.output,Nat.le_trans I.keeps.size hsz,fun b hlt hM=>?_⟩,fun b hb=>Nat.lt_of_lt_of_le (I.sfin b hb) hsz,I.src,fun j o' hj=>?_,fun j o' b hj U=>?_,fun j k N ok b hj hk' hbj Y=>?_,sN I.root hl.le⟩,hl⟩
 ·rw[hsame b (Nat.lt_of_lt_of_le hlt I.keeps.size) (fun ha=>?_)]
  ·exact I.keeps.block b hlt hM
  grind
 ·rcases hcase j o' hj with⟨J,hjn,hne⟩|⟨ej,eo⟩|eo
  ·exact(I.objs j o' J).keep hl hjn (by simp[Ctx.pushB,Nat.ne_of_lt hjn]) (fun b U=>hsame b (I.own j o' b J U).2.1 (hfar j o' b J hne U))
  ·simp_all
  ·subst eo; trivial
 ·rcases hcase j o' hj with⟨J,hjn,hne⟩|⟨ej,eo⟩|eo
  ·rw[hold j o' hjn] at U;obtain⟨h1,h2,h3⟩:=I.own j o' b J U;exact⟨h1,Nat.lt_of_lt_of_le h2 hsz,h3⟩
  ·subst ej; subst eo;rcases hown b U with h1|h1
   ·obtain⟨q1,q2,q3⟩:=hany b h1;exact⟨q1,Nat.lt_of_lt_of_le q2 hsz,q3⟩
   ·exact⟨.inl (Nat.le_trans I.keeps.size h1.1),h1.2,fun hS=>by have:=I.sfin b hS; omega⟩
  ·subst eo; cases U
 ·rcases hcase j N hj with⟨J,hjn,hne⟩|⟨ej,eo⟩|eo
  ·rw[hold j N hjn] at hbj;rcases hcase k ok hk' with⟨hk'',hkn,hne'⟩|⟨ek,eo'⟩|eo'
   ·rw[hold k ok hkn] at Y;exact I.sep j k N ok b J hk'' hbj Y
   ·subst ek; subst eo';rcases hown b Y with h1|h1
    ·grind
    ·have:=(I.own j N b J hbj).2.1;omega
   ·subst eo'; cases Y
  ·subst ej; subst eo;rcases hcase k ok hk' with⟨hk'',hkn,hne'⟩|⟨ek,eo'⟩|eo'
   ·rw[hold k ok hkn] at Y;rcases hown b hbj with h1|h1
    ·grind
    ·have:=(I.own k ok b hk'' Y).2.1;omega
   ·omega
   ·subst eo'; cases Y
  ·subst eo; cases hbj
theorem aP7{α:Type}{l:List (List α)}{i:Nat}(h:i<l.length){a:α}(I:a∈l[i]):a∈l.flatten:=List.mem_flatten.2 ⟨_,List.getElem_mem h,I⟩
theorem Good.closed(U:Good M w0 c h w){i:Nat}{e:TypeId}{m:Mk}{t:Ty}{xs:List t.den}{k:Nat}{v:AV}(ho:h[i]? = some (.trh e m t xs k v)){x:t.den}{l:List Nat}(ha:qN h t m v=some (x,l))(hnl:l.Nodup)(hil:i∉l) :
  ∃c',bW c w c' w∧Good M w0 c' ((iD l h).set i (.tre e m t (xs.set k x))) w:=by
 obtain⟨css,Bs,q⟩:=U.objs i _ ho;have hlc:=q.lc;have hlb:=q.lb;have hk:=q.kl;have hlt:=qJ ho;have hin:i<c.n:=by rw[U.n]; exact hlt
 obtain⟨hv1,hv2⟩:=q.hv (by omega);obtain⟨B,r1,r2,r3⟩:=aIl U ha hnl hv1
 let c':Ctx:=⟨c.S,c.hd,c.n,fun j b=>if j=i then c.bl i b∨gN c h l b else c.bl j b⟩
 have hle:c.le c':=⟨fun _ h=>h,Nat.le_refl _,fun _ _=>rfl⟩;have hl:bW c w c' w:=⟨hle,.refl _ _⟩;have hcase:∀j J,((iD l h).set i (.tre e m t (xs.set k x)))[j]? = some J→(h[j]? = some J∧j<c.n∧j≠i∧j∉l)∨(j=i∧J= .tre e m t (xs.set k x))∨J= .dead:=fun j J N=>by
  by_cases e':i=j
  ·grind
  ·rw[List.getElem?_set_ne e'] at N;by_cases hm:j∈l
   ·grind[uX]
   ·rw[tQ l h j hm] at N;exact .inl ⟨N,by rw[U.n]; grind,fun e=>e' e.symm,hm⟩
 have hold:∀j J,j<c.n→j≠i→cM c' j J=cM c j J:=fun j J N hne=>cX hle (by grind) N J;have hfar:∀j J b,h[j]? = some J→j∉l→cM c j J b→ ¬gN c h l b:=fun j J b N hn hb ⟨j',o',h1,h2,h3⟩=>hn (U.sep j j' J o' b N h2 hb h3▸h1);have hsets:∀j (N:j<css.length),(css[j]).length=t.cells:=fun j N=>by
  by_cases e:j=k
  ·simp_all
  ·exact fQ.length _ _ _ _ _ (q.el j (by omega) N (by omega) e)
 refine⟨c',hl,⟨by simp[c',U.n,iO],U.keeps,U.sfin,U.src,fun j J N=>?_,fun j J b N hb=>?_,fun j j' J oj' b N hj' Y I=>?_,U.root⟩⟩
 ·rcases hcase j J N with⟨N,hjn,hne,_⟩|⟨rfl,rfl⟩|rfl
  ·exact(U.objs j J N).keep hl hjn (by grind) (fun _ _=>rfl)
  ·refine⟨hdB (c.hd j)++(Bs.set k B).flatten,⟨c.hd j,css,Bs.set k B,rfl,?_,by grind,by grind,rfl,fun z z1 z2 z3=>?_⟩,?_,fun b hb=>?_⟩
   ·rw[List.length_set]; exact q.row
   ·by_cases ez:k=z
    ·grind
    ·rw[List.getElem_set_ne ez,List.getElem_set_ne ez];exact q.el z (by omega) z2 (by omega) (fun e=>ez e.symm)
   ·have hd:=q.nd;have e3:Bs.set k B=Bs.take k++B::Bs.drop (k+1):=(by simp_all[List.set_eq_take_append_cons_drop,if_pos]);have e4:Bs=Bs.take k++ []::Bs.drop (k+1):=by
     have:=q.hb (by omega);grind[List.take_append_drop,List.drop_eq_getElem_cons]
    rw[e3];rw[e4] at hd;simp only[List.flatten_append,List.flatten_cons,List.nil_append] at hd ⊢;have hp:(hdB (c.hd j)++((Bs.take k).flatten++(B++(Bs.drop (k+1)).flatten))).Perm ((hdB (c.hd j)++((Bs.take k).flatten++(Bs.drop (k+1)).flatten))++B):=by
     grind
    refine hp.nodup_iff.2 (List.nodup_append.2 ⟨hd,r2,fun a ha b hb e=>?_⟩);subst e;have:c.bl j a:=q.bl a (by
     grind)
    exact hfar j _ a ho hil this (r3 a hb)
   ·simp only[c',if_true];rcases List.mem_append.1 hb with hb|hb
    ·exact .inl (q.bl b (List.mem_append_left _ hb))
    ·obtain⟨L,h1,h2⟩:=List.mem_flatten.1 hb;rcases List.mem_or_eq_of_mem_set h1 with h1|h1
     ·exact .inl (q.bl b (List.mem_append_right _ (List.mem_flatten.2 ⟨L,h1,h2⟩)))
     simp_all
  ·trivial
 ·rcases hcase j J N with⟨N,hjn,hne,_⟩|⟨rfl,rfl⟩|rfl
  ·rw[hold j J hjn hne] at hb; exact U.own j J b N hb
  ·have hb:c'.bl j b:=hb;simp only[c',if_true] at hb;rcases hb with hb|⟨j',o',h1,h2,h3⟩
   ·exact U.own j _ b ho hb
   ·exact U.own j' o' b h2 h3
  ·cases hb
 ·rcases hcase j J N with⟨hj1,hjn,hne,hnl1⟩|⟨ej,eo⟩|eo
  ·rw[hold j J hjn hne] at Y;rcases hcase j' oj' hj' with⟨hk',hkn,hne',hnl2⟩|⟨ek,eo'⟩|eo'
   ·rw[hold j' oj' hkn hne'] at I;exact U.sep j j' J oj' b hj1 hk' Y I
   ·subst ek; subst eo';have I:c'.bl j' b:=I;simp only[c',if_true] at I;rcases I with h1|h1
    ·exact U.sep j j' J _ b hj1 ho Y h1
    grind
   ·subst eo'; cases I
  ·subst ej; subst eo;have Y:c'.bl j b:=Y;simp only[c',if_true] at Y;rcases hcase j' oj' hj' with⟨hk',hkn,hne',hnl2⟩|⟨ek,eo'⟩|eo'
   ·rw[hold j' oj' hkn hne'] at I;rcases Y with h1|h1
    ·exact(U.sep j' j oj' _ b hk' ho I h1).symm
    grind
   ·omega
   ·subst eo'; cases I
  ·subst eo; cases Y
end
end Go.Vc
namespace Go.Vc
open Go.RowKit
def okM:Ty→Mk→Bool
 | .sl t,.sl _ m=>true
 | .pair a r,.pair I J=>okM a I&&okM r J
 | _,.no=>true
 | _,_=>false
def ownRow(h:List Obj)(e:TypeId)(m:Mk)(I:Ty)(j:Nat):Option (List I.den):=(qK h e m I (.own j)).map (·.1)
def aDg(h:List Obj)(i:Nat):Mk:=match h[i]? with
 | some (.tre _ m _ _)=>m
 | _=>.no
def aAc(E:Env)(h:List Obj)(t:TypeId)(s x:AV):Prop×AV×List Obj :=
 match E.T t with
 | some (.sl I)=>bif I.scalar then mJ E h t s x else match x with
  | .own j=>match s with
   | .own i=>match ownRow h (E.el t) (aDg h i) I i,ownRow h (E.el t) (aDg h i) I j with
    | some N,some J=>(i≠j∧bound I (N.length+J.length)∧I.okB=true,.own h.length,iD [i,j] h++ [yM (E.el t) (aDg h i) I (N++J)])
    | _,_=>mJ E h t s x
   | .nilS=>match ownRow h (E.el t) (aDg h j) I j with
    | some J=>(bound I J.length∧I.okB=true,.own h.length,iD [j] h++ [yM (E.el t) (aDg h j) I J])
    | none=>mJ E h t s x
   | _=>mJ E h t s x
  | _=>mJ E h t s x
 | _=>mJ E h t s x
def aKY(E:Env)(h:List Obj)(t:TypeId)(l J:AV):Prop×AV×List Obj :=
 match E.dm t with
 | none=>aE7 E h t l J
 | some m=>match E.T t with
  | some (.sl I)=>match tL l,tL J with
   | some n,some k=>(I.okB=true∧okM I m=true∧0≤n∧n≤k∧(I.byt:Int)*k≤281474976710656∧k≤maxLen,.own h.length,h++ [yM (E.el t) m I (List.replicate n.toNat I.zero)])
   | _,_=>(False,.junk,h)
  | _=>(False,.junk,h)
def aAd(h:List Obj)(m:Mk)(I:Ty):Nat→List (Nat×AV)→Option (List I.den×List Nat)
 | _,[]=>some ([],[])
 | k,(i,v)::r=>if i=k then match qN h I m v,aAd h m I (k+1) r with
   | some (x,l),some (J,N)=>some (x::J,l++N)
   | _,_=>none
  else none
def aAe(E:Env)(h:List Obj)(t:TypeId)(m:Mk)(n:Nat)(ps:List (Nat×AV)):Prop×AV×List Obj :=
 match E.T t with
 | some (.sl I)=>match aAd h m I 0 ps with
  | some (J,l)=>(I.okB=true∧nodupN l=true∧ps.length=n∧n*I.cells≤16777216∧n≤maxLen,.own h.length,iD l h++ [yM (E.el t) m I J])
  | none=>(False,.junk,h)
 | _=>(False,.junk,h)
where
 nodupN:List Nat→Bool
  | []=>true
  | i::r=> !r.contains i&&nodupN r
def okD(E:Env)(h:List Obj)(t:TypeId)(m:Mk)(ps:List (Nat×AV)):Bool :=
 match E.T t with
 | some (.sl I)=>(aAd h m I 0 ps).isSome
 | _=>false
section
variable {P:Program} {E:Env} {T:Tab} {M:Perm} {w0:World} {c:Ctx} {h:List Obj} {w:World}
theorem aKZ:∀ {l:List Nat},aAe.nodupN l=true→l.Nodup
 | [],_=>List.nodup_nil
 | i::r,hd=>by
  simp only[aAe.nodupN,Bool.and_eq_true,Bool.not_eq_true',List.contains_eq_mem,decide_eq_false_iff_not] at hd;exact List.nodup_cons.2 ⟨hd.1,aKZ hd.2⟩
theorem aFa(hg:Good M w0 c h w){e:TypeId}{m:Mk}{J:Ty}{j:Nat}{xs:List J.den}(Y:j<c.n)(h1:one (c.hd j))(U:ownRow h e m J j=some xs) :
  ∃B,fQ w c.S (.sl J) (.sl e m) xs [c.hd j] B∧B.Nodup∧ ∀b∈B,gN c h [j] b:=by
 unfold ownRow at U;cases I:qK h e m J (.own j) with
 | none=>simp_all
 | some p =>
  obtain⟨ys,l⟩:=p;rw[I] at U;cases U;obtain⟨B,q1,q2,q3⟩:=aDe hg I (cs:=[c.hd j]) (show aE c w (.own j) [c.hd j] from⟨Y,rfl,h1⟩);refine⟨B,q1,q2,fun b hb=>?_⟩;have hl:∀z∈l,z=j:=fun z N=>by
   simp only[qK] at I;split at I
   ·split at I
    ·rename_i q _ _;cases hc:uN _ J _ with
     | none=>rw[hc] at I; cases I
     | some y=>rw[hc] at I; simp only[Option.map_some,Option.some.injEq,Prod.mk.injEq] at I; rw[← I.2] at N; simpa using N
    ·cases I
   ·split at I
    ·cases hc:uN _ J _ with
     | none=>rw[hc] at I; cases I
     | some y=>rw[hc] at I; simp only[Option.map_some,Option.some.injEq,Prod.mk.injEq] at I; rw[← I.2] at N; simpa using N
    ·cases I
   ·cases I
  grind[kZ]
theorem aIm(hE:dB P E){t ty:TypeId}{ct:Ty}(ht:E.T t=some (.sl ct))(hok:ct.okB=true){m:Mk}{S:Nat→Prop}{sv xv:Value}{xs ys:List ct.den}{B1 B2:List Nat}
  (h1:fQ w S (.sl ct) (.sl (E.el t) m) xs [sv] B1) (h2:fQ w S (.sl ct) (.sl (E.el t) m) ys [xv] B2) (hnd:(B1++B2).Nodup) (hlt:∀b∈B1++B2,b<w.heap.size) (hS:∀b,S b→b<w.heap.size∧b∉B1)
  (hb:bound ct (xs.length+ys.length)) :
  ∃v' w' B',(Builtin.append_ #[t,t] ty #[sv,xv]).run P w= .ok v' w'∧w.grownBy w' (aH sv)∧fQ w' S (.sl ct) (.sl (E.el t) m) (xs++ys) [v'] B'∧B'.Nodup∧(∀b∈B',b∈B1++B2∨(w.heap.size≤b∧b<w'.heap.size))∧ ∃a n k,v'= .slice a n k:=by
 have hd:=hE.el t ct ht;obtain⟨e',hd',hTe',hpos⟩:=cO (hE.T _ _ ht);have:e'=E.el t:=by simp_all
 subst this;have hTe:=hE.T _ _ hTe';obtain⟨i,hi,hsz,hz,hby⟩:=hTe.info;obtain⟨_,cs1,N,e1,o1,l1,b1,rfl,r1⟩:=h1;obtain rfl:=(List.cons.inj e1).1;obtain⟨_,J,I,e2,o2,l2,b2,rfl,r2⟩:=h2;obtain rfl:=(List.cons.inj e2).1;have hsl:=fC o1;have hd1:=List.nodup_append.1 hnd;have hd11:=List.nodup_append.1 hd1.1;have hd12:=List.nodup_append.1 hd1.2.1;have keep:∀(w':World) (v':Value),w.grownBy w' (aH sv)→w'.ownsRow 0 (E.el t) ct.cells v' (xs.length+ys.length) (cs1.flatten++J.flatten)→(∀b,aH v'=some b→aH sv=some b∨(w.heap.size≤b∧b<w'.heap.size)) →
   ∃B',fQ w' S (.sl ct) (.sl (E.el t) m) (xs++ys) [v'] B'∧B'.Nodup∧ ∀b∈B',b∈(hdB sv++N.flatten)++(hdB xv++I.flatten)∨(w.heap.size≤b∧b<w'.heap.size):=fun w' v' hgr hown U=>by
  have hsame:∀b,b<w.heap.size→aH sv≠some b→w'.heap[b]? = w.heap[b]? := fun b hb hne=>hgr.block b hb (fun e=>hne e.symm);have hin1:∀q (hq:q<N.length) b,b∈N[q]→b∈N.flatten:=fun q hq b hb=>aP7 hq hb;have hin2:∀q (hq:q<I.length) b,b∈I[q]→b∈I.flatten:=fun q hq b hb=>aP7 hq hb;have hSs:pZ S w w':=fun b hb=>hsame b (hS b hb).1 (fun e=>(hS b hb).2 (List.mem_append_left _ (sP.2 e)));have k1:∀b∈N.flatten,w'.heap[b]? = w.heap[b]? := fun b hb=>hsame b (hlt b (List.mem_append_left _ (List.mem_append_right _ hb))) (fun e=>hd11.2.2 b (sP.2 e) b hb rfl);have k2:∀b∈I.flatten,w'.heap[b]? = w.heap[b]? := fun b hb=>hsame b (hlt b (List.mem_append_right _ (List.mem_append_right _ hb))) (fun e=>hd1.2.2 b (List.mem_append_left _ (sP.2 e)) b (List.mem_append_right _ hb) rfl);refine⟨hdB v'++(N++I).flatten,⟨v',cs1++J,N++I,rfl,by grind,by grind,by grind,rfl,fun q q1 q2 q3=>?_⟩,?_,fun b hb=>?_⟩
  ·by_cases hlt':q<xs.length
   ·rw[List.getElem_append_left hlt',List.getElem_append_left (by omega),List.getElem_append_left (by omega)];exact fQ.keep (fun _ h=>h) hSs _ _ _ _ _ (fun b hb=>k1 b (hin1 q (by omega) b hb)) (r1 q hlt' (by omega) (by omega))
   ·have hq:q-xs.length<ys.length:=(by grind);rw[List.getElem_append_right (by omega),List.getElem_append_right (by omega),List.getElem_append_right (by omega)];have:=r2 (q-xs.length) hq (by omega) (by omega);have e1:J[q-cs1.length]'(by omega)=J[q-xs.length]'(by omega):=(by grind);have e2:I[q-N.length]'(by omega)=I[q-xs.length]'(by omega):=(by grind);rw[e1,e2];exact fQ.keep (fun _ h=>h) hSs _ _ _ _ _ (fun b hb=>k2 b (hin2 (q-xs.length) (by omega) b hb)) this
  ·rw[List.flatten_append];refine List.nodup_append.2 ⟨aKX _,List.nodup_append.2 ⟨hd11.2.1,hd12.2.1,fun a ha b hb=>hd1.2.2 a (List.mem_append_right _ ha) b (List.mem_append_right _ hb)⟩,fun a ha b hb e=>?_⟩;subst e;have hm:a∈(hdB sv++N.flatten)++(hdB xv++I.flatten):=by
    grind
   rcases U a (sP.1 ha) with h1|h1
   ·rcases List.mem_append.1 hb with hb|hb
    ·exact hd11.2.2 a (sP.2 h1) a hb rfl
    ·exact hd1.2.2 a (List.mem_append_left _ (sP.2 h1)) a (List.mem_append_right _ hb) rfl
   grind
  ·rcases List.mem_append.1 hb with hb|hb
   ·grind[sP,List.mem_append_left]
   grind
 have o1':=o1;rw[← hsz] at o1;have hnl:J.flatten.length=ys.length*ct.cells:=by grind[fE,fQ.length]
 rcases o2.2 with⟨rfl,h0⟩|⟨g2,cap2,cur2,rfl,_,hheap2,hle2,hcap2,hsz2,htake2⟩
 ·have hy:ys= []:=List.eq_nil_of_length_eq_zero h0;subst hy;have hc2:J= []:=List.eq_nil_of_length_eq_zero (by omega);subst hc2;have hrun:=aAR (P:=P) (ty:=ty) hd hi o1 (a:=none) (cap:=0) (Nat.zero_le _);have hgr:w.grownBy w (aH sv):=⟨rfl,rfl,rfl,Nat.le_refl _,fun _ _ _=>rfl⟩;grind
 ·have hone:∀u∈J.flatten,u.oneCell'=true:=fun u hu=>by
   obtain⟨L,hL1,hL2⟩:=List.mem_flatten.1 hu;obtain⟨q,hq,rfl⟩:=List.mem_iff_getElem.1 hL1;have:=aJ.one _ _ _ (fQ.toC (S':=fun _=>True) (fun _ _=>trivial) _ _ _ _ _ (fun _ _=>trivial) (r2 q (by omega) hq (by omega))) u hL2;cases u<;>first|rfl|exact this.elim
  have hcell:∀j u,J.flatten[j]? = some u→w.cell? ((⟨g2,0,none⟩:Addr).add j)=some u:=fun j u hj=>by
   rw[lK];simp only[World.cell?,hheap2,Nat.zero_add];grind
  obtain⟨v',w',hrun,Y,hgr,_,U⟩:=run_append_own_at (P:=P) w 0 t ty (E.el t) i (fU ct) ct.cells i.bytes hd hi (hz hok) hsz rfl (by grind[oX,fB]) hpos sv xs.length cs1.flatten o1'
   ⟨g2,0,none⟩ ys.length cap2 J.flatten hnl hcell hone hb.1 (Nat.le_trans (Nat.mul_le_mul_left _ hby) hb.2) (Nat.zero_le _)
  have hsl':=fC Y;rw[← kW hsl] at hgr U;rw[← kW hsl'] at U;obtain⟨B',q1,q2,q3⟩:=keep w' v' hgr Y (fun b hb=>by
   rcases U with U|U
   ·grind
   ·right
    rw[U] at hb;cases hb;refine⟨Nat.le_refl _,?_⟩;rcases Y.2 with⟨rfl,_⟩|⟨g,cp,cur,rfl,_,hheap,_⟩
    all_goals grind[aH,Array.getElem?_eq_some_iff])
  exact⟨v',w',B',hrun,hgr,q1,q2,q3,hsl'⟩
theorem aXr{v':Value}(h:∃a n m,v'= .slice a n m){w':World}{B:Nat→Prop}:aG (c.pushB v' B) w' (.own c.n) v':=by
 obtain⟨a,n,m,rfl⟩:=h;refine⟨⟨Nat.lt_succ_self c.n,?_,?_⟩,(fun h=>by cases h),(fun _ I=>by simp)⟩
 ·show [Value.slice a n m]= [if c.n=c.n then Value.slice a n m else c.hd c.n];simp_all
 ·show one (if c.n=c.n then Value.slice a n m else c.hd c.n);rw[if_pos rfl]; trivial
theorem Good.taken(hg:Good M w0 c h w)(l:List Nat){w':World}{e:TypeId}{m:Mk}{t:Ty}{xs:List t.den}{v':Value}{B':List Nat}(N:w'.os=w.os)(Y:w'.tape=w.tape)(I:w'.output=w.output)(hsz:w.heap.size≤w'.heap.size)
  (hsame:∀b,b<w.heap.size→ ¬gN c h l b→w'.heap[b]? = w.heap[b]?) (hr:fQ w' c.S (.sl t) (.sl e m) xs [v'] B') (U:B'.Nodup) (hB:∀b∈B',gN c h l b∨(w.heap.size≤b∧b<w'.heap.size)) (hv:∃a n k,v'= .slice a n k) :
  ∃c',bW c w c' w'∧Good M w0 c' (iD l h++ [yM e m t xs]) w'∧aG c' w' (.own h.length) v':=by
 have e1:(c.pushB v' (· ∈ B')).hd c.n=v':=by simp[Ctx.pushB]
 have e2:(c.pushB v' (· ∈ B')).bl c.n=(· ∈ B'):=by simp[Ctx.pushB]
 have J:fQ w' (c.pushB v' (· ∈ B')).S (.sl t) (.sl e m) xs [(c.pushB v' (· ∈ B')).hd c.n] B':=by rw[e1]; exact hr
 obtain⟨g1,g2⟩:=hg.remake l (o:=yM e m t xs) (v':=v') (B:=(· ∈ B')) N Y I hsz hsame (aS7 J U (fun b hb=>by simp_all)) (fun b hb=>hB b (aS8 J (fun b hb=>by simp_all) hb));exact⟨_,g2,g1,by rw[← hg.n]; exact aXr hv⟩
theorem aP8(hE:dB P E)(J:Good M w0 c h w){t ty:TypeId}{s x:AV}{sv xv:Value}(hs:aG c w s sv)(hx:aG c w x xv)(hc:(aAc E h t s x).1) :
  ∃v' w' c',(Builtin.append_ #[t,t] ty #[sv,xv]).run P w= .ok v' w'∧bW c w c' w'∧Good M w0 c' (aAc E h t s x).2.2 w'∧aG c' w' (aAc E h t s x).2.1 v':=by
 have old:=fun hc=>aS0 (P:=P) (t:=t) (ty:=ty) hE J hs hx hc;unfold aAc at hc ⊢;cases ht:E.T t with
 | none=>simp_all
 | some tt =>
  cases tt with
  | sl ct =>
   simp only[ht] at hc ⊢;cases hsc:ct.scalar with
   | true=>simp_all
   | false =>
    simp only[hsc,cond_false] at hc ⊢;cases x with
    | own j =>
     obtain⟨hj,rfl⟩:=sO hx;have hj1:one (c.hd j):=(by obtain⟨hh,_⟩:=hx; grind[aE]);cases s with
     | own i =>
      obtain⟨hi,rfl⟩:=sO hs;have hi1:one (c.hd i):=(by obtain⟨hh,_⟩:=hs; grind[aE]);simp only at hc ⊢;split at hc
      ·rename_i xs ys hxs Y;obtain⟨hne,hb,hok⟩:=hc;obtain⟨B1,p1,p2,p3⟩:=aFa J hi hi1 hxs;obtain⟨B2,q1,q2,q3⟩:=aFa J hj hj1 Y;have hnd:=aE9 J p2 q2 p3 q3 (by grind);have N:∀b∈B1++B2,gN c h [i,j] b:=fun b hb=>by
        rcases List.mem_append.1 hb with hb|hb
        ·exact kZ (fun z hz=>by simp at hz; simp[hz]) (p3 b hb)
        ·exact kZ (fun z hz=>by simp at hz; simp[hz]) (q3 b hb)
       obtain⟨v',w',B',hrun,I,r1,r2,r3,r4⟩:=aIm (P:=P) (ty:=ty) hE ht hok p1 q1 hnd (fun b hb=>by obtain⟨j',o',_,h2,U⟩:=N b hb; exact(J.own j' o' b h2 U).2.1)
        (fun b hS=>⟨J.sfin b hS,fun hB=>by obtain⟨j',o',_,h2,U⟩:=p3 b hB; exact(J.own j' o' b h2 U).2.2 hS⟩) hb
       have p1':=p1;obtain⟨_,_,Bs1,e1,_,_,_,e4,_⟩:=p1';obtain⟨c',k1,k2,k3⟩:=J.taken [i,j] I.os I.tape I.output I.size (fun b hb hn=>I.block b hb (fun e=>hn (N b (List.mem_append_left _ (by
        rw[e4];obtain rfl:=(List.cons.inj e1).1;grind[List.mem_append_left,sP]))))) r1 r2 (fun b hb=>(r3 b hb).imp (N b) id) r4
       grind
      simp_all
     | nilS =>
      have hsv:sv= .slice none 0 0:=by
       obtain⟨h1,_,U⟩:=hs;have U:=U rfl;simp_all[aE,Value.cells]
      subst hsv;simp only at hc ⊢;split at hc
      ·rename_i ys Y;obtain⟨hb,hok⟩:=hc;obtain⟨B2,q1,q2,q3⟩:=aFa J hj hj1 Y;have p1:fQ w c.S (.sl ct) (.sl (E.el t) (aDg h j)) [] [.slice none 0 0] []:=⟨.slice none 0 0,[],[],rfl,World.ownsRow_nil w 0 _ _,rfl,rfl,rfl,fun i h=>by simp at h⟩;obtain⟨v',w',B',hrun,I,r1,r2,r3,r4⟩:=aIm (P:=P) (ty:=ty) hE ht hok p1 q1 (by simp_all) (fun b hb=>by obtain⟨j',o',_,h2,U⟩:=q3 b (by simp_all); exact(J.own j' o' b h2 U).2.1)
        (fun b hS=>⟨J.sfin b hS,by simp⟩) (by simp_all)
       obtain⟨c',k1,k2,k3⟩:=J.taken [j] I.os I.tape I.output I.size (fun b hb hn=>I.block b hb (fun e=>by simp[aH] at e)) r1 r2 (fun b hb=>(r3 b hb).imp (fun hb=>q3 b (by simp_all)) id) r4;grind
      simp_all
     | _=>grind
    | _=>grind
  | _=>simp_all
theorem aUz:∀(t:Ty) (m:Mk),t.okB=true→okM t m=true→fQ w c.S t m t.zero (bH t) []:=by
 intro t
 induction t with
 | sl t ih =>
  intro m I J;cases m with
  | no=>grind[aCm,cR]
  | sl e m=>exact⟨.slice none 0 0,[],[],rfl,World.ownsRow_nil w 0 e t.cells,rfl,rfl,rfl,fun i h=>by simp_all⟩
  | pair _ _=>grind[okM]
 | pair a r U N =>
  intro m I J;cases m with
  | no=>grind[aCm,cR]
  | sl e m=>grind[okM]
  | pair Y mr =>
   simp only[okM,Bool.and_eq_true] at J;simp only[Ty.okB,Bool.and_eq_true] at I;exact⟨bH a,bH r,[],[],rfl,rfl,U Y I.1 J.1,N mr I.2 J.2⟩
 | _ =>
  grind[aCm,cR,okM]
theorem aUA(hE:dB P E)(hg:Good M w0 c h w){t:TypeId}{l cp:AV}{lv cv:Value}(hl:aG c w l lv)(hcp:aG c w cp cv)(hc:(aKY E h t l cp).1) :
  ∃v' w' c',(Instr.makeSlice t lv cv).run P w= .ok v' w'∧bW c w c' w'∧Good M w0 c' (aKY E h t l cp).2.2 w'∧aG c' w' (aKY E h t l cp).2.1 v':=by
 unfold aKY at hc ⊢;split at hc
 ·grind[aXo]
 ·rename_i m hm0;split at hc
  ·rename_i I ht;split at hc
   ·rename_i n k hn hk;obtain⟨J,hm,h0,h1,h2,h3⟩:=hc;obtain⟨k1,rfl⟩:=qH hl hn;obtain⟨k2,rfl⟩:=qH hcp hk;have hd:=hE.el t I ht;obtain⟨e',hd',U,hpos⟩:=cO (hE.T _ _ ht);have:e'=E.el t:=(by simp_all);subst this;obtain⟨i,hi,N,hz,hby⟩:=(hE.T _ _ U).info;have hbytes:(i.bytes:Int)*k≤281474976710656:=by
     have:(i.bytes:Int)*k≤(I.byt:Int)*k:=Int.mul_le_mul_of_nonneg_right (by omega) (by omega);omega
    have Y:=run_make (P:=P) w t (E.el t) i (fU I) hd hi (hz J) k1 k2 n k h0 h1 hbytes (by grind[maxLen]);have hcells:(madeCells (fU I).cells (k.toNat*i.size)).toList=(List.replicate k.toNat (bH I)).flatten:=by
     rw[N,oX J,← fB J];exact oL _ _ (by grind[fB])
    have hsplit:(List.replicate k.toNat (bH I)).flatten=(List.replicate n.toNat (bH I)).flatten++(List.replicate (k.toNat-n.toNat) (bH I)).flatten:=by
     grind[List.flatten_append,List.replicate_append_replicate]
    have hlen:(List.replicate n.toNat (bH I)).flatten.length=n.toNat*I.cells:=(by simp[fB J]);have hrep:fQ (w.alloc (.cells (madeCells (fU I).cells (k.toNat*i.size)) (E.el t) (0,0))) c.S (.sl I) (.sl (E.el t) m) (List.replicate n.toNat I.zero) [.slice (some ⟨w.heap.size,0,none⟩) n.toNat k.toNat] [w.heap.size]:=by
     refine⟨_,List.replicate n.toNat (bH I),List.replicate n.toNat [],rfl,⟨by simp_all,.inr ⟨w.heap.size,k.toNat,_,by simp,Nat.zero_le _,sE w _,by grind,by omega,by rw[size_madeCells,N],?_⟩⟩,by simp,by simp,?_,fun q q1 q2 q3=>?_⟩
     ·simp_all
     ·rw[flatten_nil (fun i hi=>by simp)]; rfl
     ·simp only[List.getElem_replicate];exact aUz (c:=c) I m J hm
    obtain⟨c',q1,q2,q3⟩:=hg.taken [] (w':=w.alloc (.cells (madeCells (fU I).cells (k.toNat*i.size)) (E.el t) (0,0))) rfl rfl rfl (by simp) (fun b hb _=>by show (w.heap.push _)[b]? = _; grind) hrep (by simp) (fun b hb=>.inr (by simp_all)) ⟨_,_,_,rfl⟩;exact⟨_,_,c',Y,q1,q2,q3⟩
   simp_all
  simp_all
theorem aY7{sz:Nat}:∀(vs:List (Nat×Value)) (k:Nat) (cells:Array Value) (pre rest:List Value),cells.toList=pre++rest→pre.length=k*sz→rest.length=vs.length*sz →
  (∀i (h:i<vs.length),(vs[i]).1=k+i∧(vs[i]).2.cells.size=sz)→ ∃cells',Instr.fill (fun i=>some (i*sz,sz)) cells vs=some cells'∧cells'.toList=pre++(vs.map fun p=>p.2.cells.toList).flatten
 | [],k,cells,pre,rest,h1,J,h3,_=>by
  have:rest= []:=List.eq_nil_of_length_eq_zero (by simp_all);subst this;exact⟨cells,rfl,by simp_all⟩
 | (i,v)::vs,k,cells,pre,rest,h1,J,h3,N=>by
  obtain⟨I,e2⟩:=N 0 (by simp);simp only[List.getElem_cons_zero,Nat.add_zero] at I e2;subst I;have hsplit:rest=rest.take sz++rest.drop sz:=(List.take_append_drop _ _).symm;have U:(rest.take sz).length=sz:=by grind[List.length_take,List.length_cons,Nat.add_mul]
  have hc:cells.toList=pre++rest.take sz++rest.drop sz:=by grind
  have hstep:=aE1 (v:=v) hc (by omega);obtain⟨cells',Y,q2⟩:=aY7 (sz:=sz) vs (i+1) _ (pre++v.cells.toList) (rest.drop sz) hstep (by grind) (by grind) (fun q hq=>by
   have:=N (q+1) (by grind);grind)
  refine⟨cells',?_,by grind⟩;have hcs:cells.size=(pre++rest).length:=by grind
  have hcond:¬(v.cells.size≠sz∨i*sz+v.cells.size>cells.size):=by
   grind
  simp only[Instr.fill];rw[if_neg (by grind),← J];exact Y
theorem aIn(hg:Good M w0 c h w){m:Mk}{U:Ty}:∀(ps:List (Nat×AV)) (vs:List (Nat×Value)) (k:Nat) (xs:List U.den) (l:List Nat),uF c w ps vs→aAd h m U k ps=some (xs,l)→l.Nodup →
  xs.length=vs.length∧ ∃I:List (List Nat),I.length=xs.length∧I.flatten.Nodup∧(∀b∈I.flatten,gN c h l b)∧ ∀i (h1:i<xs.length) (h2:i<vs.length) (h3:i<I.length),(vs[i]).1=k+i∧fQ w c.S U m xs[i] (vs[i]).2.cells.toList I[i]
 | [],_,k,xs,l,.nil,J,_=>by
  simp only[aAd,Option.some.injEq,Prod.mk.injEq] at J;simp_all
 | _,_,k,xs,l,.cons (k:=i) (a:=a) (v:=v) (ps:=ps) (vs:=vs) hv r,J,hl=>by
  simp only[aAd] at J;split at J
  ·rename_i e;subst e;split at J
   ·rename_i x l1 ys l2 k1 k2;simp only[Option.some.injEq,Prod.mk.injEq] at J;obtain⟨rfl,rfl⟩:=J;have N:=List.nodup_append.1 hl;obtain⟨q1,I,q2,q3,q4,q5⟩:=aIn hg ps vs (i+1) ys l2 r k2 N.2.1;have Y:aE c w a v.cells.toList:=by
     cases a<;>first|exact hv.1|(cases m<;>cases U<;>simp[qN,qK,AV.as] at k1)
    obtain⟨B,r1,r2,r3⟩:=aIl hg k1 N.1 Y;refine⟨by simp[q1],B::I,by simp[q2],?_,fun b hb=>?_,fun z z1 z2 z3=>?_⟩
    ·grind[List.flatten_cons,aE9]
    ·rw[List.flatten_cons] at hb;rcases List.mem_append.1 hb with hb|hb
     ·exact kZ (fun j hj=>List.mem_append_left _ hj) (r3 b hb)
     ·exact kZ (fun j hj=>List.mem_append_right _ hj) (q4 b hb)
    grind
   grind
  grind
theorem aS9(hE:dB P E)(hg:Good M w0 c h w){t:TypeId}{m:Mk}{n:Nat}{ps:List (Nat×AV)}{vs:List (Nat×Value)}(hp:uF c w ps vs)(hc:(aAe E h t m n ps).1) :
  ∃v' w' c',(Instr.buildSlice t n vs.toArray).run P w= .ok v' w'∧bW c w c' w'∧Good M w0 c' (aAe E h t m n ps).2.2 w'∧aG c' w' (aAe E h t m n ps).2.1 v':=by
 unfold aAe at hc ⊢;split at hc
 ·rename_i I ht;split at hc
  ·rename_i xs l hab;obtain⟨hok,U,hn,hc1,hc2⟩:=hc;have hd:=hE.el t I ht;obtain⟨e',hd',hTe',hpos⟩:=cO (hE.T _ _ ht);have:e'=E.el t:=(by simp_all);subst this;have N:=hE.T _ _ hTe';have hz:=kF N hok w;have U:=aKZ U;have hpl:ps.length=vs.length:=parts_len hp;obtain⟨q1,Bs,q2,q3,q4,q5⟩:=aIn hg ps vs 0 xs l hp hab U;have hnv:vs.length=n:=(by omega);have hsz:∀i (h:i<vs.length),(vs[i]).1=0+i∧(vs[i]).2.cells.size=I.cells:=fun i hi=>by
    grind[Array.length_toList,fQ.length]
   have hfl:(vs.map fun p=>p.2.cells.toList).flatten.length=n*I.cells:=by
    rw[fE (n:=I.cells) (fun i hi=>by simp only[List.length_map] at hi; simp only[List.getElem_map]; rw[Array.length_toList]; exact(hsz i hi).2),List.length_map,hnv]
   have hle:¬(n*I.cells>2^24):=(by omega);have main:∀J:Array Value,(if n*I.cells=0 then (#[]:Array Value) else (fU I).cells)=J→ ∃cells',Instr.fill (fun i=>some (i*I.cells,I.cells)) ((Array.range (n*I.cells)).map (fun i=>J[i%J.size]!)) vs=some cells'∧cells'.toList=(vs.map fun p=>p.2.cells.toList).flatten:=fun J _=>by
    obtain⟨cells',Y,k2⟩:=aY7 (sz:=I.cells) vs 0 ((Array.range (n*I.cells)).map (fun i=>J[i%J.size]!)) [] ((Array.range (n*I.cells)).map (fun i=>J[i%J.size]!)).toList (by simp) (by simp) (by grind) hsz;simp_all
   obtain⟨cells',Y,k2⟩:=main _ rfl;have hrun:(Instr.buildSlice t n vs.toArray).run P w= .ok (.slice (some ⟨w.heap.size,0,none⟩) n n) (w.alloc (.cells cells' (E.el t) (0,0))):=by
    by_cases h0:n*I.cells=0
    ·rw[if_pos h0] at Y;simp only[Instr.buildSlice,Sem.run_bind,aI hd,Result.andThen_ok,cE N,hle,if_false,h0,if_true,Sem.run_ite,Sem.run_pure];rw[h0] at Y;rw[if_neg (by decide),Y];rfl
    ·rw[if_neg h0] at Y;simp only[Instr.buildSlice,Sem.run_bind,aI hd,Result.andThen_ok,cE N,hle,if_false,h0,hz,Sem.run_ite,Sem.run_pure,Y];rfl
   have hsame:∀b,b<w.heap.size→(w.alloc (.cells cells' (E.el t) (0,0))).heap[b]? = w.heap[b]? := fun b hb=>(by show (w.heap.push _)[b]? = _; grind);have hbs:∀b∈Bs.flatten,b<w.heap.size:=fun b hb=>(by obtain⟨j',o',_,h2,h3⟩:=q4 b hb; exact(hg.own j' o' b h2 h3).2.1);have hrep:fQ (w.alloc (.cells cells' (E.el t) (0,0))) c.S (.sl I) (.sl (E.el t) m) xs [.slice (some ⟨w.heap.size,0,none⟩) n n] (w.heap.size::Bs.flatten):=by
    have hxn:xs.length=n:=(by omega);refine⟨_,vs.map fun p=>p.2.cells.toList,Bs,rfl,⟨by simp_all,.inr ⟨w.heap.size,n,cells',by rw[hxn],Nat.zero_le _,sE w _,by omega,hc2,?_,?_⟩⟩,by simp_all,q2,rfl,fun i z1 z2 z3=>?_⟩
    ·grind
    ·grind
    ·simp only[List.getElem_map];exact fQ.keep (fun _ h=>h) (fun b hb=>hsame b (hg.sfin b hb)) _ _ _ _ _ (fun b hb=>hsame b (hbs b (aP7 z3 hb))) (q5 i z1 (by omega) z3).2
   obtain⟨c',r1,r2,r3⟩:=hg.taken l (w':=w.alloc (.cells cells' (E.el t) (0,0))) rfl rfl rfl (by simp) (fun b hb _=>hsame b hb) hrep (List.nodup_cons.2 ⟨fun hm=>by grind,q3⟩) (fun b hb=>by
    rcases List.mem_cons.1 hb with rfl|hb
    ·simp_all
    grind) ⟨_,_,_,rfl⟩
   grind
  simp_all
 simp_all
where
 parts_len {ps:List (Nat×AV)} {vs:List (Nat×Value)} (h:uF c w ps vs):ps.length=vs.length:=by
  induction h with
  | nil=>rfl
  | cons _ _ ih=>simp[ih]
theorem aP9:∀(t:Ty),t.okB=true→aCb t=true→fP c w (eZ t) (bH t)∧(eZ t).all AV.solid1=true∧aM (eZ t)=t.cells:=by
 intro t
 induction t with
 | pair a r _ Y =>
  intro I hb;simp only[Ty.okB,Bool.and_eq_true] at I;obtain⟨N,J,U⟩:=Y I.2 hb;cases a with
  | sl a=>exact⟨⟨[.slice none 0 0],bH r,rfl,rfl,N⟩,by simp only[eZ,List.all_cons,J]; rfl,by simp only[eZ,aM,U]; rfl⟩
  | _=>exact⟨⟨bH _,bH r,rfl,cR w c.S _ I.1,N⟩,by simp only[eZ,List.all_cons,J]; rfl,by simp only[eZ,aM,U]; rfl⟩
 | unit=>intro _ _; exact⟨rfl,rfl,rfl⟩
 | _=>grind[aCb]
end
end Go.Vc
namespace Go.Vc
open Go.RowKit
def aRy(c x y:AV):Prop×AV :=
 match c,x,y with
 | .val .bool q,.val .bool a,.val .bool b=>(True,.val .bool (bif q then a else b))
 | .val .bool q,.undef,.val .bool b=>(q=false,.val .bool b)
 | .val .bool q,.val .bool a,.undef=>(q=true,.val .bool a)
 | _,_,_=>(False,.junk)
def aNY(Γ:FuncId→List AV→Option aF)(f:FuncId)(vs:List AV):Bool :=
 match Γ f vs with
 | some ⟨_,.own _ _,_,_⟩=>true
 | _=>false
def aRz:Option Ty→Bool
 | some (.i .i64)=>true
 | _=>false
noncomputable def aHG(E:Env)(h:List Obj)(ρ:Operand→AV)(o:Oper)(c:Call):Prop×AV×List Obj :=
 match c.callee with
 | .builtin .append=>match c.args.toList.map ρ,c.argTypes.toList with
  | [s,x],[t,I]=>bif aRz (E.T I) then aCj E h t s x else bif isStr (E.T I) then aCk E h t s x else ((aAc E h t s x).1∧I=t,(aAc E h t s x).2)
  | _,_=>(False,.junk,h)
 | .value (.func f)=>bif aNY E.Γ f (c.args.toList.map ρ) then aCi E.Γ h f (c.args.toList.map ρ) else ((pv E h ρ o).1,(pv E h ρ o).2,h)
 | _=>((pv E h ρ o).1,(pv E h ρ o).2,h)
def vT(E:Env)(h:List Obj)(t:TypeId):Prop×AV×List Obj :=
 match E.mp t with
 | some (k,e)=>match E.T k,E.T e with
  | some I,some J=>(True,.mp h.length,h++ [.map I J []])
  | _,_=>(False,.junk,h)
 | none=>(False,.junk,h)
def aIo(E:Env)(h:List Obj)(t:TypeId)(m k v:AV):Prop×AV×List Obj :=
 match m with
 | .mp i=>match h[i]? with
  | some (.map I J l)=>match AV.as (h.map cL) I k,AV.as (h.map cL) J v with
   | some x,some y=>(I.keyB=true∧aUq E t I J,.junk,h.set i (.map I J (aSV I l x y)))
   | _,_=>(False,.junk,h)
  | _=>(False,.junk,h)
 | _=>(False,.junk,h)
def vU(E:Env)(h:List Obj)(t:TypeId):Prop×AV×List Obj :=
 match E.T t with
 | some (.sl I)=>(I.okB=true,.own h.length,h++ [.row (E.el t) I []])
 | _=>(False,.junk,h)
noncomputable def uP(E:Env)(h:List Obj)(ρ:Operand→AV)(o:Oper):Prop×AV×List Obj :=
 match o.op with
 | .alloc t=>match E.T t with
  | some I=>bif E.dz t then (I.okB=true∧aCb I=true,.ptr h.length [],h++ [.box I.cells (.agg (eZ I))]) else (I.okB=true,.ptr h.length [],h++ [.box (bxN t I) (aBd I)])
  | none=>(False,.junk,h)
 | .box t x=>((ρ x).solid=true,.ptr h.length [],h++ [.box (ρ x).nc (ρ x)])
 | .store t a x=>aAa E.T h t (ρ a) (ρ x)
 | .makeSlice t l N=>aKY E h t (ρ l) (ρ N)
 | .makeMap t none=>vT E h t
 | .buildSlice t n J=>match E.dm t with
  | some m=>bif okD E h t m (J.toList.map fun p=>(p.1,ρ p.2)) then aAe E h t m n (J.toList.map fun p=>(p.1,ρ p.2)) else ((pv E h ρ o).1,(pv E h ρ o).2,h)
  | none=>match n,J.toList with
   | 0,[]=>vU E h t
   | _,_=>((pv E h ρ o).1,(pv E h ρ o).2,h)
 | .mapUpdate t m k v=>aIo E h t (ρ m) (ρ k) (ρ v)
 | .insert t m k v=>aIo E h t (ρ m) (ρ k) (ρ v)
 | .pick c x y=>((aRy (ρ c) (ρ x) (ρ y)).1,(aRy (ρ c) (ρ x) (ρ y)).2,h)
 | .call c=>aHG E h ρ o c
 | _=>((pv E h ρ o).1,(pv E h ρ o).2,h)
def bA1:Option Ty→Bool
 | some (.sl (.u .u8))=>true
 | _=>false
def aIp(E:Env)(ρ:Operand→AV)(o:Oper):List Nat :=
 match o.op with
 | .call c=>match c.callee with
  | .value (.func f)=>match E.Γ f (c.args.toList.map ρ) with
   | some sp=>bif sp.res.ty.scalar then [] else (c.args.toList.map ρ).flatMap AV.tags
   | none=>[]
  | _=>[]
 | .slice _ x _ _ _=>(ρ x).tags
 | .buildSlice t _ I=>match E.dm t with
  | some _=>[]
  | none=>I.toList.flatMap fun p=>(ρ p.2).tags
 | .store t a x=>match ρ a with
  | .ptr _ (_::_)=>bif bA1 (E.T t)||(E.dm t).isSome then [] else (ρ x).tags
  | _=>[]
 | .mapUpdate _ _ _ v=>(ρ v).tags
 | .insert _ _ _ v=>(ρ v).tags
 | _=>[]
noncomputable def tR(E:Env)(env:St)(h:List Obj)(o:Oper):Prop×AV×List Obj :=
 uP E (freezeAll (aIp E (evA E.G env) o) h) (fun x=>aLO (freezeAll (aIp E (evA E.G env) o) h) (evA E.G env x)) o
def oZ(d:Option Nat)(v:AV)(env:St):St :=
 match d with
 | some d=>(d,v)::env
 | none=>env
def aBv(ops:List Oper)(j:Nat):Option Nat:=match ops[j]? with
 | some o=>o.dst
 | none=>none
def mF(E:Env)(all:List Oper):List Oper→St→List Obj→(St→List Obj→Prop)→Prop
 | [],env,h,K=>K env h
 | o::r,env,h,K=>match o.guard with
  | none=>match tR E env h o with
   | (p,v,h')=>p∧mF E all r (oZ o.dst v env) h' K
  | some (j,I)=>match aBv all j with
   | some J=>match look env J with
    | .val .bool b=>(b=I→match tR E env h o with
      | (p,v,h')=>p∧mF E all r (oZ o.dst v env) h' K)∧(b= !I→mF E all r (oZ o.dst .undef env) h K)
    | .undef=>mF E all r (oZ o.dst .undef env) h K
    | _=>False
   | none=>False
section
variable {P:Program} {E:Env} {M:Perm} {w0:World} {c:Ctx} {h:List Obj} {w:World}
structure aDh(M:Perm)(w0:World)(c:Ctx)(w:World)(h':List Obj)(av:AV)(v:Value)(w':World)(c':Ctx):Prop where
 later:bW c w c' w'
 good:Good M w0 c' h' w'
 val:aG c' w' av v
def aQa(P:Program)(M:Perm)(w0:World)(c:Ctx)(o:Oper)(a:Act)(w:World)(h':List Obj)(av:AV):Prop :=
 (∃v w' c',(execOp a.eval o).run P w= .ok (.value v) w'∧aDh M w0 c w h' av v w' c') ∨
 (∃w' c',(execOp a.eval o).run P w= .ok .skip w'∧aDh M w0 c w h' av Go.undef w' c') ∨
 (∃f args,(execOp a.eval o).run P w= .ok (.enter f args) w∧Calls P f args w fun e w'=>∃v c',e= .returned v∧aDh M w0 c w h' av v w' c')
theorem Did.toE{o:Oper}{a:Act}{av:AV}(hd:Did P M w0 h c o a w av):aQa P M w0 c o a w h av:=by
 rcases hd with⟨v,w',c',J,I⟩|⟨f,args,J,hc⟩
 ·exact .inl ⟨v,w',c',J,I.later,I.good,I.val⟩
 ·refine .inr (.inr ⟨f,args,J,hc.mono ?_⟩);rintro e w' ⟨v,c',N,I⟩;exact⟨v,c',N,I.later,I.good,I.val⟩
theorem aQa.wp{o:Oper}{a:Act}{av:AV}{h':List Obj}{next:Act→World→Prop}{Q:Exit→Act→World→Prop}(hd:aQa P M w0 c o a w h' av)(N:∀v w' c',aDh M w0 c w h' av v w' c'→next (a.put o.dst v) w'):o.wp P a w next Q:=by
 rcases hd with⟨v,w',c',I,J⟩|⟨w',c',I,J⟩|⟨f,args,I,hc⟩
 ·unfold Oper.wp; rw[I]; exact N v w' c' J
 ·unfold Oper.wp; rw[I]; exact N _ w' c' J
 ·unfold Oper.wp;rw[I];refine Calls.mono hc ?_;grind
theorem aQb(J:Good M w0 c h w){t:TypeId}(hc:(vT E h t).1) :
  ∃v w' c',(Instr.makeMap t none).run P w= .ok v w'∧aDh M w0 c w (vT E h t).2.2 (vT E h t).2.1 v w' c':=by
 unfold vT at hc ⊢;split at hc
 ·rename_i k e he;split at hc
  ·rename_i N Y U hv;simp only[U,hv];have hkeep:bG nothing w (w.alloc (.map #[] 0)):=bG.alloc nothing w _;have I:(c.push (.map (some w.heap.size))).hd c.n= .map (some w.heap.size):=(by simp[Ctx.push]);have:=J.push hkeep (o:=.map N Y []) (hv:=.map (some w.heap.size)) (by
    refine⟨w.heap.size,#[],0,I,sE w _,rfl,fun j h=>by simp at h⟩) (fun b hb=>by
    simp_all[cM,aH,Option.some.injEq,Nat.le_refl])
   refine⟨.map (some w.heap.size),_,_,rfl,this.2,this.1,?_⟩;rw[← J.n];exact⟨⟨Nat.lt_succ_self c.n,by rw[I]; rfl,by rw[I]; trivial⟩,(fun h=>by cases h),(fun _ cs=>by simp)⟩
  simp_all
 simp_all
theorem aUB(hE:dB P E)(hg:Good M w0 c h w){t:TypeId}{m k v:AV}{mv kv vv:Value}(hm:aG c w m mv)(hk:aG c w k kv)(hv:aG c w v vv)(hc:(aIo E h t m k v).1) :
  ∃w',(Instr.mapUpdate t mv kv vv).run P w= .ok () w'∧bW c w c w'∧Good M w0 c (aIo E h t m k v).2.2 w'∧(aIo E h t m k v).2.1= .junk:=by
 unfold aIo at hc ⊢;split at hc
 ·rename_i i;split at hc
  ·rename_i kc vc l ho;split at hc
   ·rename_i x y hx hy;obtain⟨h1,h3⟩:=hc;simp only[ho,hx,hy];obtain⟨b,U,clock,q1,q2,q3,q4⟩:=hg.objs i _ ho;have hmv:mv= .map (some b):=by
     obtain⟨r1,_,r3⟩:=hm;simp only[aE] at r1;have r3:=r3 rfl;simp_all[Value.cells]
    subst hmv;unfold aUq at h3;split at h3
    ·rename_i kt et he;have J:=nD hg hk hx;have hvy:=nD hg hv hy;have hu:=hE.mp _ _ _ he;have hgo:(getObj b).run P w= .ok (.map U clock) w:=(by simp[getObj,Sem.run,q2]);have hl:U.toList.length=l.length:=(by omega);have hf:=aDS (P:=P) hE.T h3.1 h1 J w l U.toList hl (fun j h h'=>by simp_all);have hck:=aCC (P:=P) false 9998 hE.T h3.1 h1 J w;have N:=aE3 (c:=kc) (w:=w) (S:=c.S) (x:=x) l U.toList 0 hl;have hob:cM c i (.map kc vc l) b:=(by simp[cM,q1,aH]);have hblt:b<w.heap.size:=(hg.own i _ b ho hob).2.1;have hnS:=(hg.own i _ b ho hob).2.2;have Y:∀(I:Array MapEntry) (clock':Nat) (l':List (kc.den×vc.den)),I.size=l'.length→(∀j (h:j<l'.length) (h':j<I.size),bR w c.S kc l'[j].1 I[j].key∧bR w c.S vc l'[j].2 I[j].val) →
       ∃w',(setObj b (.map I clock')).run P w= .ok () w'∧bW c w c w'∧Good M w0 c (h.set i (.map kc vc l')) w':=fun I clock' l' hs hr=>by
      have hsame:∀k,k≠b→(w.heap.setIfInBounds b (Go.Obj.map I clock'))[k]? = w.heap[k]? := fun k hk=>(by grind);have hkS:pZ c.S w { w with heap:=w.heap.setIfInBounds b (.map I clock') }:=fun k hk=>hsame k (fun e=>hnS (e▸hk));refine⟨{ w with heap:=w.heap.setIfInBounds b (.map I clock') },by simp[setObj,Sem.run,q2],?_⟩;have:=hg.modify (o':=.map kc vc l') ho hob (w':={ w with heap:=w.heap.setIfInBounds b (.map I clock') }) rfl rfl rfl (by simp) hsame ?_ ?_
      ·simp_all
      ·exact⟨b,I,clock',q1,by grind,hs,fun j h h'=>⟨(hr j h h').1.keep (fun _ h=>h) hkS,(hr j h h').2.keep (fun _ h=>h) hkS⟩⟩
      grind[cM,aH]
     cases hgt:aCx kc l x with
     | some y0 =>
      rw[hgt] at N;obtain⟨j,e,k1,r1,r2,r3,r4,r5⟩:=N;rw[r1] at hf;simp only[Nat.zero_add] at hf;have hjl:j<l.length:=by
       grind
      have hje:j<U.size:=(by omega);have e1:U[j]=e:=by
       simp_all
      have e2:l[j]=(k1,y0):=(by simp_all);have hkk:=(q4 j hjl hje).1;rw[e1,e2] at hkk;have hkey:e.key=kv:=((aUn h1 J hkk).1 r4).symm;obtain⟨w',s1,s2,s3⟩:=Y (U.modify j fun e=>{ e with key:=kv,val:=vv }) clock (l.set j (k1,y)) (by simp[q3]) (fun j' h h'=>by
       grind)
      refine⟨w',?_,s2,by simp_all,trivial⟩;have hst:=aSW (P:=P) h1 J w;simp_all[Instr.mapUpdate,aI,Result.andThen,Array.getElem?_eq_getElem]
     | none =>
      rw[hgt] at N;rw[N.1] at hf;obtain⟨w',s1,s2,s3⟩:=Y (U.push { key:=kv,val:=vv,born:=clock }) (clock+1) (l++ [(x,y)]) (by simp[q3]) (fun j' h h'=>by
       grind)
      simp_all[trivial,Instr.mapUpdate,aI,Result.andThen]
    simp_all
   simp_all
  simp_all
 simp_all
theorem aLR(N:dB P E)(hg:Good M w0 c h w){t:TypeId}(hc:(vU E h t).1) :
  ∃v' w' c',(Instr.buildSlice t 0 #[]).run P w= .ok v' w'∧bW c w c' w'∧Good M w0 c' (vU E h t).2.2 w'∧aG c' w' (vU E h t).2.1 v':=by
 unfold vU at hc ⊢;split at hc
 ·rename_i J ht;have hd:=N.el t J ht;obtain⟨e',hd',I,hpos⟩:=cO (N.T _ _ ht);have:e'=E.el t:=by simp_all
  subst this;have U:=N.T _ _ I;have hk:bG nothing w (w.alloc (.cells #[] (E.el t) (0,0))):=bG.alloc nothing w _;have e:(c.push (.slice (some ⟨w.heap.size,0,none⟩) 0 0)).hd c.n= .slice (some ⟨w.heap.size,0,none⟩) 0 0:=by simp[Ctx.push]
  have:=hg.push hk (o:=.row (E.el t) J []) (hv:=.slice (some ⟨w.heap.size,0,none⟩) 0 0) (by
   show uD _ _ _ _ _ _;rw[e];exact⟨[],⟨by simp,.inr ⟨w.heap.size,0,#[],rfl,Nat.zero_le _,sE w _,Nat.le_refl _,Nat.zero_le _,by simp,by simp⟩⟩,⟨rfl,[],rfl,rfl,fun i hi=>by grind⟩⟩) (fun b hb=>by
   simp_all[cM,aH,Option.some.injEq,Nat.le_refl])
  refine⟨.slice (some ⟨w.heap.size,0,none⟩) 0 0,_,_,?_,this.2,this.1,?_⟩
  ·have e1:(Array.range (0*J.cells)).map (fun x=>(#[]:Array Value)[x%(#[]:Array Value).size]!)= #[]:=(by simp);have Y:¬(0*J.cells>2^24):=(by omega);simp only[Instr.buildSlice,Sem.run_bind,aI hd,Result.andThen_ok,cE U,Y,if_false,Nat.zero_mul,if_true,Sem.run_ite,Sem.run_pure];rw[if_neg (by decide)];simp only[Nat.zero_mul] at e1;rw[e1];rfl
  ·have:=wI (c:=c) (v':=.slice (some ⟨w.heap.size,0,none⟩) 0 0) ⟨_,_,_,rfl⟩ (w':=w.alloc (.cells #[] (E.el t) (0,0))) (S':=c.S);rw[← hg.n];exact this
 simp_all
theorem aZJ(hE:dB P E)(hg:Good M w0 c h w)(hG:jM E.G c.S w){o:Oper}{a:Act}{ρ:Operand→AV}(I:∀x∈o.op.operands,aG c w (ρ x) (a.eval x))(hc:(uP E h ρ o).1):aQa P M w0 c o a w (uP E h ρ o).2.2 (uP E h ρ o).2.1:=by
 have hpv:(pv E h ρ o).1→aQa P M w0 c o a w h (pv E h ρ o).2:=fun hc=>(aY5 hE hg hG I hc).toE;obtain⟨dst,op,ty,pos,aft,gd⟩:=o;cases op
 case alloc t =>
  simp only[uP] at hc ⊢;split at hc
  ·rename_i ct ht;cases hdz:E.dz t with
   | true =>
    simp only[hdz,cond_true] at hc ⊢;obtain⟨hok,hzb⟩:=hc;have hz:=kF (hE.T _ _ ht) hok w;obtain⟨k1,k2,k3⟩:=aP9 (c:=c) (w:=w) ct hok hzb;have hag:ct.isAgg=true:=(by cases ct<;>first|rfl|grind[aCb]);have hzv:fU ct= .agg (bH ct).toArray:=(by simp_all[fU,if_pos]);obtain⟨w',c',N,J,U,Y⟩:=aE8 hg (t:=t) (P:=P) (x:=.agg (eZ ct)) (v:=fU ct) (n:=ct.cells) (.inl k3) k2 (by
     rw[hzv];exact⟨by grind[aE,Value.cells],fun _=>⟨_,rfl⟩,fun h=>by cases h⟩)
    refine .inl ⟨_,w',c',?_,J,U,Y⟩;simp[execOp,Instr.alloc,hz,N]
   | false =>
   simp only[hdz,cond_false] at hc ⊢;have hz:=kF (hE.T _ _ ht) hc w;obtain⟨w',c',N,J,U,Y⟩:=aE8 hg (t:=t) (P:=P) (x:=aBd ct) (by rw[(aDZ (c:=c) (w:=w) hc).2.2.1]; exact aT3 t ct) (aDZ (c:=c) (w:=w) hc).2.1 (aDZ hc).2.2.2;refine .inl ⟨_,w',c',?_,J,U,Y⟩;simp[execOp,Instr.alloc,hz,N]
  simp_all
 case box t x =>
  simp only[uP] at hc ⊢;obtain⟨w',c',N,J,U,Y⟩:=aE8 hg (t:=t) (P:=P) (.inl rfl) hc (I x (by simp[Op.operands]));exact .inl ⟨_,w',c',by simp[execOp,Instr.box,N],J,U,Y⟩
 case store t p x =>
  simp only[uP] at hc ⊢;obtain⟨w',N,J,U⟩:=aUw (P:=P) hE.T hg (I p (by simp[Op.operands])) (I x (by simp[Op.operands])) hc;refine .inr (.inl ⟨w',c,by simp[execOp,N],J,U,?_⟩);have:(aAa E.T h t (ρ p) (ρ x)).2.1= .junk:=by
   unfold aAa;split<;>(try rfl)
   grind
  rw[this]; trivial
 case makeMap t r =>
  cases r with
  | none =>
   simp only[uP] at hc ⊢;obtain⟨v,w',c',N,J⟩:=aQb (P:=P) hg hc;exact .inl ⟨v,w',c',by simp[execOp,N],J⟩
  | some _=>exact hpv hc
 case buildSlice t n ps =>
  simp only[uP] at hc ⊢;split at hc
  ·rename_i m hm;cases hokd:okD E h t m (ps.toList.map fun p=>(p.1,ρ p.2)) with
   | false=>simp_all
   | true =>
   simp only[hokd,cond_true] at hc ⊢;have hp:=aDU (l:=ps.toList) (ρ:=ρ) (a:=a) (c:=c) (w:=w) (fun p hp=>I p.2 (List.mem_toArray.2 (List.mem_map_of_mem hp)));obtain⟨v',w',c',N,J,U,Y⟩:=aS9 (P:=P) hE hg hp hc;refine .inl ⟨v',w',c',?_,J,U,Y⟩;have e:(ps.map fun p=>(p.1,a.eval p.2))=(ps.toList.map fun p=>(p.1,a.eval p.2)).toArray:=(by grind);simp[execOp,e,N]
  rename_i hm;split at hc
  ·rename_i hps;obtain rfl:ps= #[]:=(by simp_all);obtain⟨v',w',c',N,J,U,Y⟩:=aLR (P:=P) hE hg hc;exact .inl ⟨v',w',c',by simp[execOp,N],J,U,Y⟩
  simp_all
 case mapUpdate t m k v =>
  simp only[uP] at hc ⊢;obtain⟨w',N,J,U,Y⟩:=aUB (P:=P) hE hg (I m (by simp[Op.operands])) (I k (by simp[Op.operands])) (I v (by simp[Op.operands])) hc;exact .inr (.inl ⟨w',c,by simp[execOp,N],J,U,by rw[Y]; trivial⟩)
 case insert t m k v =>
  simp only[uP] at hc ⊢;obtain⟨w',N,J,U,Y⟩:=aUB (P:=P) hE hg (I m (by simp[Op.operands])) (I k (by simp[Op.operands])) (I v (by simp[Op.operands])) hc;exact .inr (.inl ⟨w',c,by simp[execOp,N],J,U,by rw[Y]; trivial⟩)
 case makeSlice t l cp =>
  simp only[uP] at hc ⊢;obtain⟨v',w',c',N,J,U,Y⟩:=aUA (P:=P) hE hg (I l (by simp[Op.operands])) (I cp (by simp[Op.operands])) hc;exact .inl ⟨v',w',c',by simp[execOp,N],J,U,Y⟩
 case pick p x y =>
  simp only[uP] at hc ⊢;have hp:=I p (by simp[Op.operands]);have hx:=I x (by simp[Op.operands]);have hy:=I y (by simp[Op.operands]);unfold aRy at hc ⊢;split at hc
  ·rename_i q u v e1 e2 e3;rw[e1] at hp;rw[e2] at hx;rw[e3] at hy;have hb:=yH hp;cases q
   ·exact(Did.of_value (v:=a.eval y) (h:=h) hg (by simp[execOp,hb,asBool]) hy).toE
   ·exact(Did.of_value (v:=a.eval x) (h:=h) hg (by simp[execOp,hb,asBool]) hx).toE
  ·rename_i q v e1 e2 e3;rw[e1] at hp;rw[e3] at hy;have hb:=yH hp;have hc:q=false:=hc;subst hc;exact(Did.of_value (v:=a.eval y) (h:=h) hg (by simp[execOp,hb,asBool]) hy).toE
  ·rename_i q u e1 e2 e3;rw[e1] at hp;rw[e2] at hx;have hb:=yH hp;have hc:q=true:=hc;subst hc;exact(Did.of_value (v:=a.eval x) (h:=h) hg (by simp[execOp,hb,asBool]) hx).toE
  simp_all
 case call cl =>
  obtain⟨callee,args,argTypes⟩:=cl;have hargs:∀x∈args.toList,aG c w (ρ x) (a.eval x):=fun x hx=>I x (by
   simp only[Op.operands,Call.operands];exact Array.mem_append.2 (.inr (by simpa using hx)))
  cases callee with
  | builtin b =>
   cases b
   case append =>
    simp only[uP,aHG] at hc ⊢;split at hc
    ·rename_i s x t t' e1 e2;obtain⟨p,q,epq,rfl,rfl⟩:∃p q,args.toList= [p,q]∧ρ p=s∧ρ q=x:=by
      match hl:args.toList,e1 with
      | [p,q],ex=>grind
     cases hz:aRz (E.T t') with
     | true =>
      simp only[hz,cond_true] at hc ⊢;have htx:P.underlying t'=some (.int .i64):=by
       unfold aRz at hz;split at hz
       ·rename_i hT;exact aXp (hE.T _ _ hT)
       grind
      obtain⟨v',w',c',N,J,U,Y⟩:=aP5 (P:=P) (ty:=ty) hE hg htx (hargs p (by simp_all)) (hargs q (by simp_all)) hc;have e3:args= #[p,q]:=(by grind);have e4:argTypes= #[t,t']:=(by grind);exact .inl ⟨v',w',c',by rw[e3,e4]; simp[execOp,resolve,invoke,builtin,N],J,U,Y⟩
     | false =>
     simp only[hz,cond_false] at hc ⊢;cases hq:isStr (E.T t') with
     | true =>
      simp only[hq,cond_true] at hc ⊢;have htx:P.underlying t'=some .string:=by
       unfold isStr at hq;split at hq
       ·rename_i hT;exact pI (hE.T _ _ hT)
       grind
      obtain⟨v',w',c',N,J,U,Y⟩:=aP6 (P:=P) (ty:=ty) hE hg htx (hargs p (by simp_all)) (hargs q (by simp_all)) hc;have e3:args= #[p,q]:=(by grind);have e4:argTypes= #[t,t']:=(by grind);exact .inl ⟨v',w',c',by rw[e3,e4]; simp[execOp,resolve,invoke,builtin,N],J,U,Y⟩
     | false =>
     simp only[hq,cond_false] at hc ⊢;obtain⟨hc,rfl⟩:=hc;obtain⟨v',w',c',N,J,U,Y⟩:=aP8 (P:=P) (ty:=ty) hE hg (hargs p (by simp_all)) (hargs q (by simp_all)) hc;have e3:args= #[p,q]:=(by grind);have e4:argTypes= #[t',t']:=(by grind);exact .inl ⟨v',w',c',by rw[e3,e4]; simp[execOp,resolve,invoke,builtin,N],J,U,Y⟩
    simp_all
   all_goals exact hpv hc
  | value f =>
   cases f with
   | func f =>
    simp only[uP,aHG] at hc ⊢;cases ho:aNY E.Γ f (args.toList.map ρ) with
    | false =>
     simp_all
    | true =>
     simp only[ho,cond_true] at hc ⊢;have hfok:∀sp,E.Γ f (args.toList.map ρ)=some sp→FOK P E.G f sp∧ ∃fn,P.funcs[f]? = some fn∧fn.name ≠ "runtime.NumGoroutine" ∧ fn.body.isSome=true:=fun sp hsp=>by
      rcases hE.Γ f _ sp hsp with h|h
      ·exact h
      ·unfold aNY at ho;rw[hsp] at ho;obtain⟨a1,r1,p1,f1⟩:=sp;cases r1 with
       | own e t=>exact absurd rfl (h.1 e t)
       | _=>grind
     have hcall:=aP4 (P:=P) (Γ:=E.Γ) (fun sp hsp=>(hfok sp hsp).1) hg hG (f:=f) (vs:=args.toList.map ρ) (xs:=(args.toList.map a.eval).toArray) (by simp) (fun i N J=>by
      simp_all) hc
     have hfn:∃fn,P.funcs[f]? = some fn∧fn.name ≠ "runtime.NumGoroutine" ∧ fn.body.isSome=true:=by
      grind[aNY]
     refine .inr (.inr ⟨f,(args.toList.map a.eval).toArray,?_,?_⟩)
     ·have hrun:=uW (w:=w) (args:=(args.map a.eval)) hfn;have e2:(args.toList.map a.eval).toArray=args.map a.eval:=(by grind);rw[e2];simp[execOp,resolve,Deferred.ofValue,Act.eval,invoke,hrun]
     ·refine hcall.mono ?_;rintro e w' ⟨v,c',he,N,J,U⟩;exact⟨v,c',he,N,J,U⟩
   | _=>exact hpv hc
  | _=>exact hpv hc
 all_goals exact hpv hc
theorem aUC(J:Good M w0 c h w){G:Nat→AV}{env:St}{a:Act}(I:aA4 c w env a.tmps)(N:jM G c.S w){x:Operand}(U:iL x=true):aG c w (aLO h (evA G env x)) (a.eval x):=aRu J (wE I N U)
theorem xK(hE:dB P E){nt:Nat}{ds:List Deferred}{env:St}{a:Act}{o:Oper}(hs:Sim E M w0 nt ds c env h a w)(N:dL nt o=true)(hc:(tR E env h o).1):aQa P M w0 c o a w (tR E env h o).2.2 (tR E env h o).2.1:=by
 obtain⟨c1,J,hn,hg1⟩:=hs.good.freezeAll (aIp E (evA E.G env) o);simp only[dL,Bool.and_eq_true] at N;have U:∀x∈o.op.operands,iL x=true:=Array.all_eq_true_iff_forall_mem.1 N.1;have hG1:jM E.G c1.S w:=hs.glob.mono J.le.S J.same;have:=aZJ hE hg1 hG1 (o:=o) (a:=a) (ρ:=fun x=>aLO (freezeAll (aIp E (evA E.G env) o) h) (evA E.G env x)) (fun x hx=>aUC hg1 (hs.env.keep J) hG1 (U x hx)) hc;rcases this with⟨v,w',c',Y,I⟩|⟨w',c',Y,I⟩|⟨f,args,Y,hcl⟩
 ·exact .inl ⟨v,w',c',Y,J.trans I.later,I.good,I.val⟩
 ·exact .inr (.inl ⟨w',c',Y,J.trans I.later,I.good,I.val⟩)
 ·refine .inr (.inr ⟨f,args,Y,hcl.mono ?_⟩);rintro e w' ⟨v,c',he,I⟩;exact⟨v,c',he,J.trans I.later,I.good,I.val⟩
theorem Sim.after{nt:Nat}{ds:List Deferred}{env:St}{a:Act}{o:Oper}(I:Sim E M w0 nt ds c env h a w)(N:dL nt o=true){h':List Obj}{av:AV}{v:Value}{w':World}{c':Ctx}(J:aDh M w0 c w h' av v w' c'):Sim E M w0 nt ds c' (oZ o.dst av env) h' (a.put o.dst v) w':=by
 simp only[dL,Bool.and_eq_true] at N;refine⟨J.good,I.glob.mono J.later.le.S J.later.same,?_,?_,?_⟩
 ·cases hd:o.dst with
  | none=>exact I.env.keep J.later
  | some d =>
   have U:d<nt:=(by simp_all);exact(I.env.keep J.later).put (by rw[I.size]; exact U) J.val
 ·cases hd:o.dst with
  | none=>exact I.size
  | some d=>simp[Act.put,I.size]
 ·cases hd:o.dst with
  | none=>exact I.defers
  | some d=>exact I.defers
def yb:Value→Option Bool
 | .bool b=>some b
 | _=>none
theorem pJ{nt:Nat}{ops:List Oper}(N:∀o∈ops,dL nt o=true){a:Act}(hsz:a.tmps.size=nt){j J:Nat}(hd:aBv ops j=some J){v:Value}(hv:a.tmps.getD J Go.undef=v):yielded ops.toArray a.tmps j=yb v:=by
 unfold aBv at hd;split at hd
 ·rename_i oj U;have I:=N oj (List.mem_of_getElem? U);simp only[dL,Bool.and_eq_true,hd,decide_eq_true_eq] at I;have Y:J<a.tmps.size:=by simp_all
  have h1:a.tmps[J]? = some v:=by
   simp_all
  simp only[yielded,List.getElem?_toArray,U,Option.bind_some,hd,h1];cases v<;>rfl
 grind
theorem aD2(hE:dB P E){ops:List Oper}{Q:Exit→Act→World→Prop}{nt:Nat}{ds:List Deferred}(J:∀o∈ops,dL nt o=true){K:St→List Obj→Prop}(hK:∀env h c a w,K env h→Sim E M w0 nt ds c env h a w→Q .normal a w) :
  ∀(m i:Nat),i+m=ops.length→ ∀(env:St) (h:List Obj) (c:Ctx) (a:Act) (w:World),mF E ops (ops.drop i) env h K→Sim E M w0 nt ds c env h a w→wpOps P ops.toArray Q (List.range' i m) a w
 | 0,i,hi,env,h,c,a,w,U,I=>by
  rw[List.drop_eq_nil_of_le (by omega)] at U;simp only[List.range'_zero,wpOps];exact hK env h c a w U I
 | m+1,i,hi,env,h,c,a,w,U,I=>by
  have Y:i<ops.length:=by omega
  rw[List.drop_eq_getElem_cons Y] at U;have N:=J ops[i] (List.getElem_mem Y);have hput:∀(v:Value) (av:AV),aG c w av v→Sim E M w0 nt ds c (oZ ops[i].dst av env) h (a.put ops[i].dst v) w:=fun v av hv=>I.after N ⟨.refl _ _,I.good,hv⟩;have hrun:((tR E env h ops[i]).1∧mF E ops (ops.drop (i+1)) (oZ ops[i].dst (tR E env h ops[i]).2.1 env) (tR E env h ops[i]).2.2 K)→Region.wanted ops[i] (yielded ops.toArray a.tmps)=true→wpOps P ops.toArray Q (List.range' i (m+1)) a w:=fun⟨h1,h2⟩ hw=>by
   rw[List.range'_succ];simp only[wpOps,List.getElem?_toArray,List.getElem?_eq_getElem Y,hw,if_true]
   left
   refine(xK hE I N h1).wp fun v w' c' ha=>?_;exact aD2 hE J hK m (i+1) (by omega) _ _ c' _ w' h2 (I.after N ha)
  have hskip:mF E ops (ops.drop (i+1)) (oZ ops[i].dst .undef env) h K→Region.wanted ops[i] (yielded ops.toArray a.tmps)=false→wpOps P ops.toArray Q (List.range' i (m+1)) a w:=fun h2 hw=>by
   rw[List.range'_succ];simp only[wpOps,List.getElem?_toArray,List.getElem?_eq_getElem Y,hw,Bool.false_eq_true,if_false];exact aD2 hE J hK m (i+1) (by omega) _ _ c _ w h2 (hput _ _ rfl)
  simp only[mF] at U;cases hgd:ops[i].guard with
  | none =>
   grind[Region.wanted]
  | some jp =>
   obtain⟨j,pol⟩:=jp;rw[hgd] at U;simp only at U;cases hdj:aBv ops j with
   | none=>simp_all
   | some dj =>
    rw[hdj] at U;simp only at U;have hv:=I.env dj;split at U
    ·rename_i b hb;rw[hb] at hv;have hb':=yH hv;have hy:=pJ J I.size hdj hb';simp only[yb] at hy;by_cases e:b=pol
     ·grind[Region.wanted]
     ·have e':b= !pol:=(by cases b<;>cases pol<;>simp_all);grind[Region.wanted]
    ·rename_i hb;rw[hb] at hv;have hy:=pJ J I.size hdj (v:=Go.undef) hv;grind[Region.wanted,undef,yb]
    simp_all
theorem bT{F:Fr}{Q:Exit→Act→World→Prop}{env:St}{h:List Obj}(hF:oY F){id:Nat}{ops:Array Oper}(keep:List Nat)(hv:mF F.E ops.toList ops.toList env h (fun env h=>At F (Q .normal) (keep.map fun t=>(t,look env t)) h)):Tri F (.region id ops false) Q env h:=fun I c a w J=>by
 simp only[dQ,Bool.and_eq_true,Bool.or_eq_true,Bool.not_eq_true'] at I;obtain⟨⟨U,Y⟩,h3⟩:=I;refine wp_region ?_;have:=aD2 (Q:=Q) hF.env (List.all_eq_true.1 U) (K:=fun env h=>At F (Q .normal) (keep.map fun t=>(t,look env t)) h) (fun env h c a w N J=>N c a w (J.keep keep)) ops.toList.length 0 (by simp) env h c a w (by simp_all) J;simp_all[List.range_eq_range']
end
end Go.Vc
namespace Go.Vc
open Go.RowKit
def posOf(i:Nat):List Nat→Option Nat
 | []=>none
 | k::r=>if k=i then some 0 else match posOf i r with
  | some j=>some (j+1)
  | none=>none
def eP(σ:List Nat):List Nat→Option (List Nat)
 | []=>some []
 | i::r=>match posOf i σ,eP σ r with
  | some j,some l=>some (j::l)
  | _,_=>none
def gE(σ:List Nat):AV→AV
 | .own i=>match posOf i σ with
  | some j=>.own j
  | none=>.junk
 | .ptr i p=>match posOf i σ with
  | some j=>.ptr j p
  | none=>.junk
 | .sub i s off n=>match posOf i σ with
  | some j=>.sub j s off n
  | none=>.junk
 | .mp i=>match posOf i σ with
  | some j=>.mp j
  | none=>.junk
 | .fn f I J=>match eP σ I,eP σ J with
  | some I,some J=>.fn f I J
  | _,_=>.junk
 | .agg _=>.junk
 | .flat _=>.junk
 | .tup _=>.junk
 | v=>v
def ren(σ:List Nat):AV→AV
 | .agg I=>.agg (I.map (gE σ))
 | .tup _=>.junk
 | .flat _=>.junk
 | v=>gE σ v
def mG(σ:List Nat):Obj→Obj
 | .box n v=>.box n (ren σ v)
 | .trh e m t I k v=>.trh e m t I k (ren σ v)
 | o=>o
def nodupB:List Nat→Bool
 | []=>true
 | i::r=> !r.contains i&&nodupB r
def preB(m:Nat)(σ:List Nat):Bool:=(List.range m).all fun i=>decide (σ[i]? = some i)
theorem aNZ{m:Nat}{σ:List Nat}(h:preB m σ=true){i:Nat}(hi:i<m):σ[i]? = some i:=by
 have:=List.all_eq_true.1 h i (List.mem_range.2 hi);simp_all
section
variable {F:Fr} {M:Perm} {w0:World} {c:Ctx} {h:List Obj} {w:World} {env:St} {K:Act→World→Prop}
theorem aN0{i:Nat}:∀ {σ:List Nat} {j:Nat},posOf i σ=some j→σ[j]? = some i
 | k::r,j,hp=>by
  simp only[posOf] at hp;split at hp
  ·grind
  ·split at hp
   ·rename_i J I; cases hp; simp[aN0 I]
   grind
 | [],_,hp=>by cases hp
def Ctx.ren(c:Ctx)(σ:List Nat):Ctx:=⟨c.S,fun j=>c.hd (σ.getD j 0),σ.length,fun j=>c.bl (σ.getD j 0)⟩
theorem aIq{σ:List Nat}{i j:Nat}(hp:posOf i σ=some j):j<σ.length∧(c.ren σ).hd j=c.hd i:=by
 have:=aN0 hp;have J:j<σ.length:=by
  rcases Nat.lt_or_ge j σ.length with I|I
  ·exact I
  ·rw[List.getElem?_eq_none I] at this; cases this
 refine⟨J,?_⟩;simp[Ctx.ren,List.getD_eq_getElem?_getD,this]
theorem aFb{σ:List Nat}:∀ {l I:List Nat},eP σ l=some I→(∀j∈I,j<σ.length)∧I.map (c.ren σ).hd=l.map c.hd
 | [],I,hp=>by simp[eP] at hp; simp_all
 | i::r,I,hp=>by
  simp only[eP] at hp;split at hp
  ·rename_i j l N J;cases hp;obtain⟨q1,q2⟩:=aIq (c:=c) N;obtain⟨U,Y⟩:=aFb J;simp_all
  grind
theorem aIr{σ:List Nat}:∀ {v:AV} {cs:List Value},aE c w v cs→aE (c.ren σ) w (gE σ v) cs:=by
 intro v cs I;cases v<;>simp only[gE]<;>(try trivial)
 case own i =>
  split
  ·rename_i j hp;obtain⟨J,N⟩:=aIq (c:=c) hp;simp only[aE] at I ⊢;rw[N];exact⟨J,I.2⟩
  ·trivial
 case ptr i p =>
  split
  ·rename_i j hp;obtain⟨J,N⟩:=aIq (c:=c) hp;simp only[aE] at I ⊢;rw[N];exact⟨J,I.2⟩
  ·trivial
 case sub i s off n =>
  split
  ·rename_i j hp;obtain⟨J,N⟩:=aIq (c:=c) hp;simp only[aE] at I ⊢;rw[N];exact⟨J,I.2⟩
  ·trivial
 case mp i =>
  split
  ·rename_i j hp;obtain⟨J,N⟩:=aIq (c:=c) hp;simp only[aE] at I ⊢;rw[N];exact⟨J,I.2⟩
  ·trivial
 case fn f l1 l2 =>
  split
  ·rename_i l1' l2' h1 h2;obtain⟨J,N⟩:=aFb (c:=c) h1;obtain⟨U,Y⟩:=aFb (c:=c) h2;simp only[aE] at I ⊢;rw[N,Y];exact⟨J,U,I.2.2⟩
  ·trivial
 all_goals exact I
theorem aRA{σ:List Nat}:∀ {vs:List AV} {cs:List Value},fP c w vs cs→fP (c.ren σ) w (vs.map (gE σ)) cs
 | [],_,N=>N
 | v::r,_,⟨c1,c2,e,I,J⟩=>⟨c1,c2,e,aIr I,aRA J⟩
theorem aFc{σ:List Nat}{v:AV}{cs:List Value}(I:aE c w v cs):aE (c.ren σ) w (ren σ v) cs:=by
 cases v
 case agg vs=>exact aRA I
 case tup=>trivial
 case flat=>trivial
 all_goals exact aIr I
theorem aHH{σ:List Nat}{v:AV}{x:Value}(J:aG c w v x):aG (c.ren σ) w (ren σ v) x:=by
 have I:mH c w v x→(ren σ v= .junk∨(ren σ v).isAgg=v.isAgg)→(∀vs,ren σ v≠ .tup vs)→(ren σ v≠ .undef∨v= .undef)→aG (c.ren σ) w (ren σ v) x:=fun Y N ht hu=>by
  rcases N with N|N
  ·rw[N]; trivial
  ·have U:=aFc (σ:=σ) Y.1;generalize ren σ v=u at U N ht hu;have h3:mH (c.ren σ) w u x:=⟨U,by rw[N]; exact Y.2.1,by rw[N]; exact Y.2.2⟩;cases u<;>first|exact h3|trivial|exact absurd rfl (ht _)|skip
   have U:x.cells.toList= [Go.undef]:=U;have h4:=Y.2.2;rw[← N] at h4;have h4:=h4 rfl;show x=Go.undef;simp_all[Value.cells]
 cases v
 case junk=>trivial
 case undef=>exact J
 case tup=>trivial
 case flat=>trivial
 case agg vs=>exact I J (.inr rfl) (fun _ h=>by simp[ren] at h) (.inl (by simp[ren]))
 case val=>exact I J (.inr rfl) (fun _ h=>by simp[ren,gE] at h) (.inl (by simp[ren,gE]))
 case nilS=>exact I J (.inr rfl) (fun _ h=>by simp[ren,gE] at h) (.inl (by simp[ren,gE]))
 case nilP=>exact I J (.inr rfl) (fun _ h=>by simp[ren,gE] at h) (.inl (by simp[ren,gE]))
 case full=>exact I J (.inr rfl) (fun _ h=>by simp[ren,gE] at h) (.inl (by simp[ren,gE]))
 case roa=>exact I J (.inr rfl) (fun _ h=>by simp[ren,gE] at h) (.inl (by simp[ren,gE]))
 case own i=>cases hp:posOf i σ<;>exact I J (by simp[ren,gE,hp,AV.isAgg]) (fun _ h=>by grind[ren,gE]) (.inl (by simp[ren,gE,hp]))
 case ptr i p=>cases hp:posOf i σ<;>exact I J (by simp[ren,gE,hp,AV.isAgg]) (fun _ h=>by grind[ren,gE]) (.inl (by simp[ren,gE,hp]))
 case sub i s off n=>cases hp:posOf i σ<;>exact I J (by simp[ren,gE,hp,AV.isAgg]) (fun _ h=>by grind[ren,gE]) (.inl (by simp[ren,gE,hp]))
 case mp i=>cases hp:posOf i σ<;>exact I J (by simp[ren,gE,hp,AV.isAgg]) (fun _ h=>by grind[ren,gE]) (.inl (by simp[ren,gE,hp]))
 case fn f l1 l2=>cases hp:eP σ l1<;>cases hq:eP σ l2<;>exact I J (by grind[ren,gE,AV.isAgg]) (fun _ h=>by grind[ren,gE]) (.inl (by grind[ren,gE]))
theorem aN1:∀ {σ:List Nat},nodupB σ=true→ ∀i j:Nat,∀k,σ[i]? = some k→σ[j]? = some k→i=j
 | [],_,i,j,k,hi,_=>by grind
 | a::r,hd,i,j,k,hi,I=>by
  simp only[nodupB,Bool.and_eq_true,Bool.not_eq_true',List.contains_eq_mem,decide_eq_false_iff_not] at hd;cases i with
  | zero =>
   grind
  | succ i =>
   cases j with
   | zero =>
    grind
   | succ j =>
    simp at hi I;rw[aN1 hd.2 i j k hi I]
theorem aD3{σ:List Nat}{i j:Nat}(I:σ[j]? = some i)(o:Obj):cM (c.ren σ) j (mG σ o)=cM c i o:=by
 have:(c.ren σ).hd j=c.hd i:=by simp[Ctx.ren,List.getD_eq_getElem?_getD,I]
 have J:(c.ren σ).bl j=c.bl i:=by simp[Ctx.ren,List.getD_eq_getElem?_getD,I]
 funext b;cases o<;>simp[cM,mG,this,J]
theorem Good.ren(hg:Good M w0 c h w){σ:List Nat}(hd:nodupB σ=true)(hp:preB M.m σ=true):Good M w0 (c.ren σ) (σ.map fun i=>mG σ (h.getD i .dead)) w:=by
 have hcase:∀j o',(σ.map fun i=>mG σ (h.getD i .dead))[j]? = some o'→ ∃i,σ[j]? = some i∧o'=mG σ (h.getD i .dead):=fun j o' N=>by
  rw[List.getElem?_map] at N;cases hs:σ[j]? with
  | none=>simp[hs] at N
  | some i=>simp[hs] at N; exact⟨i,hs,N.symm⟩
 have I:∀i,h.getD i .dead= .dead∨h[i]? = some (h.getD i .dead):=fun i=>by
  grind
 refine⟨by simp[Ctx.ren],hg.keeps,hg.sfin,hg.src,fun j o' N=>?_,fun j o' b N hb=>?_,fun j k oj ok b N hk Y U=>?_,?_,fun i hi=>?_⟩
 ·obtain⟨i,hi,rfl⟩:=hcase j o' N;have J:(c.ren σ).hd j=c.hd i:=by simp[Ctx.ren,List.getD_eq_getElem?_getD,hi]
  have hbl:(c.ren σ).bl j=c.bl i:=by simp[Ctx.ren,List.getD_eq_getElem?_getD,hi]
  rcases I i with e|e
  ·rw[e]; trivial
  ·have:=hg.objs i _ e;revert this;generalize h.getD i .dead=o;intro this;cases o with
   | dead=>trivial
   | box n v =>
    obtain⟨b,cells,e',q1,q2,q3,q4⟩:=this;exact⟨b,cells,e',by grind,q2,q3,aFc q4⟩
   | row e' t xs=>simp only[zL,mG] at *; rw[J]; exact this
   | frz t xs=>simp only[zL,mG] at *; rw[J]; exact this
   | map k v m =>
    obtain⟨b,es,clock,q1,q2⟩:=this;exact⟨b,es,clock,by grind,q2⟩
   | tre e' m t xs=>simp only[zL,mG] at *; rw[J,hbl]; exact this
   | trh e' m t xs k v =>
    obtain⟨css,Bs,q⟩:=this;exact⟨css,Bs,⟨by rw[J]; exact q.row,q.lc,q.lb,q.kl,q.el,q.hb,fun h1=>⟨aFc (q.hv h1).1,(q.hv h1).2⟩,by rw[J]; exact q.nd,by rw[J,hbl]; exact q.bl⟩⟩
 ·obtain⟨i,hi,rfl⟩:=hcase j o' N;rw[aD3 hi] at hb;rcases I i with e|e
  ·rw[e] at hb; cases hb
  ·exact hg.own i _ b e hb
 ·obtain⟨i,hi,rfl⟩:=hcase j oj N;obtain⟨i',hi',rfl⟩:=hcase k ok hk;rw[aD3 hi] at Y;rw[aD3 hi'] at U;rcases I i with e|e
  ·rw[e] at Y; cases Y
  ·rcases I i' with e'|e'
   ·rw[e'] at U; cases U
   ·have:=hg.sep i i' _ _ b e e' Y U;grind[aN1]
 ·rcases Nat.lt_or_ge σ.length M.m with hlt|hge
  ·have:=aNZ hp hlt;simp_all
  ·exact hge
 ·have hi':=aNZ hp hi;have e:(c.ren σ).hd i=c.hd i:=by simp[Ctx.ren,List.getD_eq_getElem?_getD,hi']
  rw[e]; exact hg.root.2 i hi
theorem aBw(f:AV→AV)(I:f .junk= .junk):∀(env:St) (t:Nat),look (env.map fun p=>(p.1,f p.2)) t=f (look env t)
 | [],t=>by simp only[List.map_nil,look]; exact I.symm
 | (k,v)::r,t=>by
  simp only[List.map_cons,look];split
  ·rfl
  ·exact aBw f I r t
theorem nU(σ:List Nat)(hd:nodupB σ=true)(hp:preB F.M.m σ=true)(J:At F K (env.map fun p=>(p.1,ren σ p.2)) (σ.map fun i=>mG σ (h.getD i .dead))):At F K env h:=fun c a w I =>
 J (c.ren σ) a w ⟨I.good.ren hd hp,I.glob,fun t=>by rw[aBw (ren σ) rfl]; exact aHH (I.env t),I.size,I.defers⟩
theorem aHI{x:Code}{Q:Exit→Act→World→Prop}(σ:List Nat)(hd:nodupB σ=true)(hp:preB F.M.m σ=true)(J:Tri F x Q (env.map fun p=>(p.1,ren σ p.2)) (σ.map fun i=>mG σ (h.getD i .dead))):Tri F x Q env h:=fun I=>nU σ hd hp (J I)
theorem aTa(s:Nat)(e:TypeId)(t:Ty)(hn:look env s= .nilS)(U:At F K ((s,.own h.length)::env) (h++ [.row e t []])):At F K env h:=fun c a w I=>by
 have hv:=I.env s;rw[hn] at hv;have J:a.tmps.getD s Go.undef= .slice none 0 0:=by
  obtain⟨h1,_,N⟩:=hv;have N:=N rfl;simp_all[aE,undef,Value.cells]
 have Y:(c.push (.slice none 0 0)).hd c.n= .slice none 0 0:=by simp[Ctx.push]
 have:=I.good.push (.refl nothing w) (o:=.row e t []) (hv:=.slice none 0 0) (by
  show uD _ _ _ _ _ _;rw[Y];exact⟨[],⟨by simp,.inl ⟨rfl,rfl⟩⟩,⟨rfl,[],rfl,rfl,fun i h=>by simp at h⟩⟩) (fun b hb=>by grind[cM,aH])
 refine U _ a w ⟨this.1,I.glob.mono (fun _ h=>h) (.refl _ _),fun t=>?_,I.size,I.defers⟩;simp only[look];split
 ·rename_i e';subst e';rw[J,← I.good.n];exact wI (c:=c) ⟨_,_,_,rfl⟩ (w':=w) (S':=c.S)
 ·exact this.2.val (I.env t)
theorem aTb(i:Nat)(U:At F K (env.map fun p=>(p.1,aLO (freeze i h) p.2)) (freeze i h)):At F K env h:=fun c a w I=>by
 obtain⟨c',J,Y,N⟩:=I.good.freeze i;refine U c' a w ⟨N,I.glob.mono J.le.S J.same,fun t=>?_,I.size,I.defers⟩;rw[aBw (aLO (freeze i h)) rfl];exact aRu N (J.val (I.env t))
theorem aQc{x:Code}{Q:Exit→Act→World→Prop}(s:Nat)(e:TypeId)(t:Ty)(N:look env s= .nilS)(J:Tri F x Q ((s,.own h.length)::env) (h++ [.row e t []])):Tri F x Q env h:=fun I=>aTa s e t N (J I)
theorem aDi{x:Code}{Q:Exit→Act→World→Prop}(i:Nat)(J:Tri F x Q (env.map fun p=>(p.1,aLO (freeze i h) p.2)) (freeze i h)):Tri F x Q env h:=fun I=>aTb i (J I)
end
end Go.Vc
namespace Go.Vc
open Go.RowKit
section
variable {F:Fr} {M:Perm} {w0:World} {c:Ctx} {h:List Obj} {w:World} {env:St} {K:Act→World→Prop}
theorem Good.retell(U:Good M w0 c h w){i:Nat}{o o':Obj}(ho:h[i]? = some o){S' B':Nat→Prop}(hS:∀b,S' b→c.S b∨cM c i o b)(hS1:∀b,c.S b→S' b)(hob:zL ⟨S',c.hd,c.n,fun j=>if j=i then B' else c.bl j⟩ w i o')
  (hown:∀b,cM ⟨S',c.hd,c.n,fun j=>if j=i then B' else c.bl j⟩ i o' b→cM c i o b∧ ¬S' b):∃c',bW c w c' w∧Good M w0 c' (h.set i o') w:=by
 have hil:=qJ ho;have hle:c.le ⟨S',c.hd,c.n,fun j=>if j=i then B' else c.bl j⟩:=⟨hS1,Nat.le_refl _,fun _ _=>rfl⟩;have hl:bW c w ⟨S',c.hd,c.n,fun j=>if j=i then B' else c.bl j⟩ w:=⟨hle,.refl _ _⟩;have hcase:∀j I,(h.set i o')[j]? = some I→(j≠i∧h[j]? = some I)∨(j=i∧I=o'):=fun j I N=>by
  grind
 have J:∀j I,j<c.n→j≠i→cM ⟨S',c.hd,c.n,fun j=>if j=i then B' else c.bl j⟩ j I=cM c j I:=fun j I N hne=>cX hle (by grind) N I;have Y:∀j I,h[j]? = some I→j<c.n:=fun j I N=>by rw[U.n]; grind
 refine⟨_,hl,⟨by simp[U.n],U.keeps,fun b hb=>?_,fun b hb hb0=>?_,fun j I N=>?_,fun j I b N hb=>?_,fun j k I ok b N hk hbj hbk=>?_,sN U.root hle⟩⟩
 ·rcases hS b hb with hb|hb
  ·exact U.sfin b hb
  ·exact(U.own i _ b ho hb).2.1
 ·rcases hS b hb with hb|hb
  ·exact U.src b hb hb0
  ·rcases (U.own i _ b ho hb).1 with h1|h1
   all_goals grind
 ·rcases hcase j I N with⟨hne,N⟩|⟨rfl,rfl⟩
  ·exact(U.objs j I N).keep hl (Y j I N) (by grind) (fun _ _=>rfl)
  omega
 ·rcases hcase j I N with⟨hne,N⟩|⟨rfl,rfl⟩
  ·rw[J j I (Y j I N) hne] at hb;obtain⟨h1,h2,h3⟩:=U.own j I b N hb;refine⟨h1,h2,fun hb'=>?_⟩;rcases hS b hb' with hb'|hb'
   ·grind
   ·exact hne (U.sep j i I _ b N ho hb hb')
  ·obtain⟨h1,h2⟩:=hown b hb;obtain⟨q1,q2,_⟩:=U.own j _ b ho h1;simp_all
 ·rcases hcase j I N with⟨hnj,hj1⟩|⟨ej,eo⟩<;>rcases hcase k ok hk with⟨hnk,hk1⟩|⟨ek,eo'⟩
  ·rw[J j I (Y j I hj1) hnj] at hbj;rw[J k ok (Y k ok hk1) hnk] at hbk;exact U.sep j k I ok b hj1 hk1 hbj hbk
  ·subst ek; subst eo';rw[J j I (Y j I hj1) hnj] at hbj;exact U.sep j k I _ b hj1 ho hbj (hown b hbk).1
  ·subst ej; subst eo;rw[J k ok (Y k ok hk1) hnk] at hbk;exact U.sep j k _ ok b ho hk1 (hown b hbj).1 hbk
  omega
end
attribute [go_sem] asX aT7 aZw aZx okD Ex.kind Ex.text Ex.l aLD eZ aCb aEY aAe aAe.nodupN aAd qN jC qK aAc aKY okM ownRow aDg yM bA0 aD1 aZI aIk Ty.fldTy
end Go.Vc
namespace Go.Vc
open Go.RowKit
def gam:List (FuncId×aF)→FuncId→Option aF
 | [],_=>none
 | (k,sp)::r,f=>if k=f then some sp else gam r f
theorem aXs{l:List (FuncId×aF)}{f:FuncId}{sp:aF}(h:gam l f=some sp):(f,sp)∈l:=by
 induction l with
 | nil=>cases h
 | cons p r I =>
  grind[gam,List.mem_cons_self,List.mem_cons_of_mem]
def fnB(P:Program)(f:FuncId):Bool:=match P.funcs[f]? with
 | some fn=>decide (fn.name ≠ "runtime.NumGoroutine")&&fn.body.isSome
 | none=>false
structure bU(P:Program)(G:Nat→AV)(l:List (FuncId×aF)):Prop where
 ok:∀p∈l,(FOK P G p.1 p.2∧fnB P p.1=true)∨NOK P G p.1 p.2
theorem bU.nil{P:Program}{G:Nat→AV}:bU P G []:=⟨fun p hp=>by cases hp⟩
theorem bU.cons{P:Program}{G:Nat→AV}{l:List (FuncId×aF)}{f:FuncId}{sp:aF}(h:FOK P G f sp)(J:fnB P f=true)(I:bU P G l):bU P G ((f,sp)::l):=by
 refine⟨fun p hp=>?_⟩;rcases List.mem_cons.1 hp with rfl|hp
 ·simp_all
 ·exact I.ok p hp
theorem bU.nat{P:Program}{G:Nat→AV}{l:List (FuncId×aF)}{f:FuncId}{sp:aF}(h:NOK P G f sp)(I:bU P G l):bU P G ((f,sp)::l):=by
 refine⟨fun p hp=>?_⟩;rcases List.mem_cons.1 hp with rfl|hp
 ·grind
 ·exact I.ok p hp
theorem aN2{P:Program}{T:Tab}{G:Nat→AV}{l:List (FuncId×aF)}{el:TypeId→TypeId}(U:eO P T)(I:∀t Y,T t=some (.sl Y)→P.underlying t=some (.slice (el t))){mp:TypeId→Option (TypeId×TypeId)}(J:∀t k e,mp t=some (k,e)→P.underlying t=some (.map k e)){dm:TypeId→Option Mk}{dz:TypeId→Bool}{wr:Bool}(N:bU P G l):dB P ⟨T,G,fun f _=>gam l f,el,mp,dm,dz,wr⟩ :=
 ⟨U,fun f _ sp h=>by
  rcases N.ok _ (aXs h) with⟨h,this⟩|h
  ·refine .inl ⟨h,?_⟩;unfold fnB at this;grind
  simp_all,I,J⟩
theorem aUD{P:Program}{G:Nat→AV}{f:FuncId}{a t:Ty}{pre:a.den→Prop}{fn:a.den→t.den}(h:∀(w:World) (S:Nat→Prop) (vs:List Value) (x:a.den),jL w S a x vs→pre x→ ∃I:List Value,(callFunc f vs.toArray).run P w= .ok (.value (.tuple I.toArray)) w∧jL w S t (fn x) I):NOK P G f ⟨a,.tup t,pre,fn⟩:=by
 refine⟨(fun e t h=>by cases h),fun w vs S x hS hG ha hp=>?_⟩;obtain⟨I,U,N⟩:=h w S vs.toList x ha hp;refine⟨_,w,by omega,_,rfl,.refl _ _,I,rfl,?_⟩;have hmono:∀(t:Ty) (x:t.den) (xs:List Value),jL w S t x xs→jL w (fun b=>S b∨(w.heap.size≤b∧b<w.heap.size)) t x xs:=by
  intro t
  induction t with
  | unit=>intro x xs h; exact h
  | pair a r _ Y=>intro x xs ⟨v,J,e,U,N⟩; exact⟨v,J,e,U.keep (fun b hb=>.inl hb) (.refl _ _),Y _ _ N⟩
  | _=>intro x xs h; exact h.elim
 simp_all
end Go.Vc
namespace Go.Vc
open Go.RowKit
def cP:List Oper→Nat→List (Nat×TypeId×Nat)
 | [],_=>[]
 | o::r,i=>match o.op,o.guard,o.dst with
  | .alloc t,none,some d=>(i,t,d)::cP r (i+1)
  | _,_,_=>cP r (i+1)
def aN3(T:Tab)(t:TypeId):Obj:=match T t with
 | some I=>.box (bxN t I) (aBd I)
 | none=>.dead
def gO(T:Tab):List (Nat×TypeId×Nat)→St→List Obj→St×List Obj
 | [],env,h=>(env,h)
 | (_,t,d)::r,env,h=>gO T r ((d,.ptr h.length [])::env) (h++ [aN3 T t])
theorem nE:∀ {l:List Oper} {i:Nat} {p:Nat×TypeId×Nat},p∈cP l i→ ∃o,l[p.1-i]? = some o∧i≤p.1∧o.op= .alloc p.2.1∧o.guard=none∧o.dst=some p.2.2
 | [],i,p,hp=>by cases hp
 | o::r,i,p,hp=>by
  have I:p∈cP r (i+1)→ ∃o',(o::r)[p.1-i]? = some o'∧i≤p.1∧o'.op= .alloc p.2.1∧o'.guard=none∧o'.dst=some p.2.2:=fun hp=>by
   obtain⟨o',J,N,U⟩:=nE hp;grind
  simp only[cP] at hp;grind
section
variable {P:Program} {E:Env} {M:Perm} {w0:World} {nt:Nat} {ds:List Deferred} {h:List Obj} {env:St} {pre:List Oper}
structure aRB(T:Tab)(al:List (Nat×TypeId×Nat))(w:World)(listed:Nat→Prop)(c':Ctx)(a:Act)(w':World)(B:Nat→Nat):Prop where
 size:w.heap.size≤w'.heap.size
 at_:∀p∈al,listed p.1→ ∃ct,T p.2.1=some ct∧a.tmps.getD p.2.2 Go.undef= .pointer (some ⟨B p.1,0,none⟩)∧w.heap.size≤B p.1∧B p.1<w'.heap.size∧ ¬c'.S (B p.1)∧w'.heap[B p.1]? = some (.cells (fU ct).cells p.2.1 (0,0))
 inj:∀p∈al,∀q∈al,listed p.1→listed q.1→B p.1=B q.1→p.1=q.1
theorem aRB.step{T:Tab}{w:World}{listed:Nat→Prop}{c' c'':Ctx}{a I:Act}{w' w'':World}{B:Nat→Nat}(J:aRB T (cP pre 0) w listed c' a w' B){i:Nat}{o:Oper}(ho:pre[i]? = some o)(hok:dL a.tmps.size o=true)(hu:aAP pre=true)(hni:¬listed i)(hd:o.dst≠none)(hsf:∀b,c'.S b→b<w'.heap.size)
  (hs:aY6 T o a c' w' c'' I w''):∃B',aRB T (cP pre 0) w (fun k=>listed k∨k=i) c'' I w'' B':=by
 obtain⟨v,hv,hal⟩:=hs.put;have hget:∀d,o.dst≠some d→I.tmps.getD d Go.undef=a.tmps.getD d Go.undef:=fun d hne=>by
  rw[hv];cases hdd:o.dst with
  | none=>rfl
  | some d0 =>
   simp_all[Act.put,Array.getElem?_setIfInBounds_ne]
 refine⟨fun k=>if k=i then w'.heap.size else B k,Nat.le_trans J.size hs.keeps.size,fun p hp hl=>?_,fun p hp q hq hlp N hB=>?_⟩
 ·obtain⟨op,h1,_,h2,h3,h4⟩:=nE hp;simp only[Nat.sub_zero] at h1;by_cases e:p.1=i
  ·rw[e] at h1;rw[ho] at h1;cases h1;obtain⟨ct,U,q2,q3,Y⟩:=hal _ h2 h3;simp only[e,if_true];refine⟨ct,U,?_,J.size,by simp_all,fun hS=>?_,by grind[sE]⟩
   ·simp_all[dL,Bool.and_eq_true,decide_eq_true_eq,Act.put]
   grind
  ·have hl:listed p.1:=hl.resolve_right e;obtain⟨ct,U,q2,q3,Y,q5,q6⟩:=J.at_ p hp hl;simp only[e,if_false];refine⟨ct,U,?_,q3,Nat.lt_of_lt_of_le Y hs.keeps.size,fun hS=>?_,by rw[hs.keeps.block _ Y (fun f=>f)]; exact q6⟩
   ·grind[aHD]
   ·rcases hs.new _ hS with h|h
    all_goals grind
 ·by_cases ep:p.1=i<;>by_cases eq:q.1=i
  ·omega
  ·simp only[ep,eq,if_true,if_false] at hB;obtain⟨ct,U,q2,q3,Y,_⟩:=J.at_ q hq (N.resolve_right eq);omega
  ·simp only[ep,eq,if_true,if_false] at hB;obtain⟨ct,U,q2,q3,Y,_⟩:=J.at_ p hp (hlp.resolve_right ep);omega
  ·simp only[ep,eq,if_false] at hB;exact J.inj p hp q hq (hlp.resolve_right ep) (N.resolve_right eq) hB
theorem Good.adopt{c:Ctx}{w:World}(J:Good M w0 c h w){b:Nat}{cells:Array Value}{e:TypeId}{v:AV}{n:Nat}(hb:w.heap[b]? = some (.cells cells e (0,0)))(hn:aW8 n cells.size e)(hv:aE c w v cells.toList)(hB:w0.heap.size≤b)(hS:¬c.S b)
  (hown:∀i o,h[i]? = some o→ ¬cM c i o b):Good M w0 (c.push (.pointer (some ⟨b,0,none⟩))) (h++ [.box n v]) w∧bW c w (c.push (.pointer (some ⟨b,0,none⟩))) w:=by
 have I:bW c w (c.push (.pointer (some ⟨b,0,none⟩))) w:=⟨c.le_push _,.refl _ _⟩;have hbl:b<w.heap.size:=(Array.getElem?_eq_some_iff.1 hb).1;have hhd:(c.push (.pointer (some ⟨b,0,none⟩))).hd c.n= .pointer (some ⟨b,0,none⟩):=by simp[Ctx.push]
 have hcase:∀i o',(h++ [Obj.box n v])[i]? = some o'→(h[i]? = some o'∧i<c.n)∨(i=c.n∧o'=Obj.box n v):=fun i o' U=>by
  rw[J.n];grind
 refine⟨⟨by simp[Ctx.push,J.n],J.keeps,J.sfin,J.src,fun i o' U=>?_,fun i o' b' U N=>?_,fun i j oi oj b' hi hj Y hbj=>?_,sN J.root I.le⟩,I⟩
 ·rcases hcase i o' U with⟨U,hi⟩|⟨rfl,rfl⟩
  ·exact(J.objs i o' U).keep I hi rfl (fun _ _=>rfl)
  ·exact⟨b,cells,e,hhd,hb,hn,aE.keep I.le I.same _ _ hv⟩
 ·rcases hcase i o' U with⟨U,hi⟩|⟨rfl,rfl⟩
  ·rw[cX I.le rfl hi] at N;exact J.own i o' b' U N
  ·simp only[cM,hhd,aH,Option.some.injEq] at N;subst N;exact⟨.inl hB,hbl,hS⟩
 ·rcases hcase i oi hi with⟨hi',hin⟩|⟨ei,eo⟩<;>rcases hcase j oj hj with⟨hj',hjn⟩|⟨ej,eo'⟩
  ·rw[cX I.le rfl hin] at Y;rw[cX I.le rfl hjn] at hbj;exact J.sep i j oi oj b' hi' hj' Y hbj
  ·subst ej; subst eo';rw[cX I.le rfl hin] at Y;grind[cM,aH,Option.some.injEq,absurd]
  ·subst ei; subst eo;rw[cX I.le rfl hjn] at hbj;grind[cM,aH,Option.some.injEq,absurd]
  omega
theorem aXt{c:Ctx}{w:World}{I:Ty}(J:I.okB=true):aE c w (aBd I) (fU I).cells.toList∧(fU I).cells.size=I.cells:=by
 grind[aDZ,oX,fB]
theorem aIs(hE:dB P E){a:Act}{w:World}:∀(al:List (Nat×TypeId×Nat)) (env:St) (h:List Obj) (c:Ctx) (B:Nat→Nat),Sim E M w0 nt ds c env h a w →
  (∀p∈al,∃J,E.T p.2.1=some J∧J.okB=true∧a.tmps.getD p.2.2 Go.undef= .pointer (some ⟨B p.1,0,none⟩)∧w0.heap.size≤B p.1∧ ¬c.S (B p.1)∧w.heap[B p.1]? = some (.cells (fU J).cells p.2.1 (0,0))∧ ∀i o,h[i]? = some o→ ¬cM c i o (B p.1)) →
  al.Pairwise (fun p q=>B p.1≠B q.1)→ ∃c',Sim E M w0 nt ds c' (gO E.T al env h).1 (gO E.T al env h).2 a w
 | [],env,h,c,B,I,_,_=>⟨c,I⟩
 | (i,t,d)::r,env,h,c,B,I,hal,U=>by
  obtain⟨J,q1,q2,q3,q4,q5,q6,q7⟩:=hal (i,t,d) (by simp);simp only at q1 q3 q4 q5 q6 q7;obtain⟨z1,z2⟩:=aXt (c:=c) (w:=w) q2;obtain⟨g1,g2⟩:=I.good.adopt q6 (n:=bxN t J) (by grind[aT3]) z1 q4 q5 q7;have Y:aN3 E.T t= .box (bxN t J) (aBd J):=by simp[aN3,q1]
  rw[List.pairwise_cons] at U;have e1:(c.push (.pointer (some ⟨B i,0,none⟩))).hd c.n= .pointer (some ⟨B i,0,none⟩):=by simp[Ctx.push]
  have hs':Sim E M w0 nt ds (c.push (.pointer (some ⟨B i,0,none⟩))) ((d,.ptr h.length [])::env) (h++ [aN3 E.T t]) a w:=by
   refine⟨by simp_all,I.glob.mono (fun _ h=>h) (.refl _ _),fun t'=>?_,I.size,I.defers⟩;simp only[look];split
   ·rename_i e;subst e;rw[q3,← I.good.n];exact⟨⟨Nat.lt_succ_self c.n,B i,by rw[e1]; rfl,rfl⟩,(fun h=>by cases h),(fun _ cs=>by simp)⟩
   ·exact g2.val (I.env t')
  refine aIs hE r _ _ _ B hs' (fun p hp=>?_) U.2;obtain⟨ct',p1,p2,p3,p4,p5,p6,p7⟩:=hal p (by simp[hp]);refine⟨ct',p1,p2,p3,p4,p5,p6,fun k o ho=>?_⟩;rcases Nat.lt_trichotomy k h.length with N|heq|hgt
  ·rw[List.getElem?_append_left N] at ho;rw[cX g2.le rfl (by rw[I.good.n]; exact N)];simp_all
  ·subst heq;simp at ho;subst ho;rw[Y,← I.good.n];simp only[cM,e1,aH,ne_eq,Option.some.injEq];grind
  grind
theorem aXu(hE:dB P E){ops:List Oper}{Q:Exit→Act→World→Prop}(hok:∀o∈ops,dL nt o=true){K:St→List Obj→Prop}{i:Nat}(hil:i<ops.length){env:St}{h:List Obj}{c:Ctx}{a:Act}{w:World}(Y:mF E ops (ops.drop i) env h K)(I:Sim E M w0 nt ds c env h a w)
  {Kn:Act→World→Prop} (hn:∀N h' c' a' w',mF E ops (ops.drop (i+1)) N h' K→Sim E M w0 nt ds c' N h' a' w'→Kn a' w'):wpOp P ops.toArray Q i Kn a w:=by
 rw[List.drop_eq_getElem_cons hil] at Y;have J:=hok ops[i] (List.getElem_mem hil);have hput:∀(v:Value) (av:AV),aG c w av v→Sim E M w0 nt ds c (oZ ops[i].dst av env) h (a.put ops[i].dst v) w:=fun v av hv=>I.after J ⟨.refl _ _,I.good,hv⟩;unfold wpOp;simp only[List.getElem?_toArray,List.getElem?_eq_getElem hil];have hrun:((tR E env h ops[i]).1∧mF E ops (ops.drop (i+1)) (oZ ops[i].dst (tR E env h ops[i]).2.1 env) (tR E env h ops[i]).2.2 K)→Region.wanted ops[i] (yielded ops.toArray a.tmps)=true→(if Region.wanted ops[i] (yielded ops.toArray a.tmps)=true then Oper.wp P ops[i] a w Kn Q∨(ops[i].asks P a w∧LetsOut Q) else Kn (a.put ops[i].dst Go.undef) w):=fun⟨h1,h2⟩ hw=>by
  rw[if_pos hw]
  left
  refine(xK hE I J h1).wp fun v w' c' ha=>?_;exact hn _ _ c' _ w' h2 (I.after J ha)
 have hskip:mF E ops (ops.drop (i+1)) (oZ ops[i].dst .undef env) h K→Region.wanted ops[i] (yielded ops.toArray a.tmps)=false→(if Region.wanted ops[i] (yielded ops.toArray a.tmps)=true then Oper.wp P ops[i] a w Kn Q∨(ops[i].asks P a w∧LetsOut Q) else Kn (a.put ops[i].dst Go.undef) w):=fun h2 hw=>by
  rw[if_neg (by simp_all)];exact hn _ _ c _ w h2 (hput _ _ rfl)
 simp only[mF] at Y;cases hgd:ops[i].guard with
 | none =>
  grind[Region.wanted]
 | some jp =>
  obtain⟨j,U⟩:=jp;rw[hgd] at Y;simp only at Y;cases hdj:aBv ops j with
  | none=>simp_all
  | some dj =>
   rw[hdj] at Y;simp only at Y;have hv:=I.env dj;split at Y
   ·rename_i b hb;rw[hb] at hv;have hb':=yH hv;have hy:=pJ hok I.size hdj hb';simp only[yb] at hy;by_cases e:b=U
    ·grind[Region.wanted]
    ·have e':b= !U:=(by cases b<;>cases U<;>simp_all);grind[Region.wanted]
   ·rename_i hb;rw[hb] at hv;have hy:=pJ hok I.size hdj (v:=Go.undef) hv;grind[Region.wanted,undef,yb]
   simp_all
def aXv(o:Oper)(k:Nat):Bool:=o.after.toList.any fun e=>Region.binds .any e&&decide (e.on=k)
def aGg:List Oper→List (List Nat)→List (List Nat)
 | [],acc=>acc
 | o::r,acc=>aGg r (acc++ [(List.range acc.length).filter fun k=>aXv o k||(List.range acc.length).any fun j=>aXv o j&&(acc.getD j []).contains k])
def aGh(n:Nat)(ops:List Oper):Bool :=
 (ops.zipIdx.all fun p=>p.1.after.toList.all fun e=> !Region.binds .any e||decide (e.on<p.2)) &&
 ((aGg ops []).zipIdx.all fun p=>decide (p.2<n)||(List.range p.2).all fun k=>p.1.contains k)
theorem aN4{o:Oper}{k:Nat}:aXv o k=true↔ ∃e∈o.after,Region.binds .any e=true∧e.on=k:=by
 simp only[aXv,List.any_eq_true,Bool.and_eq_true,decide_eq_true_eq,Array.mem_toList_iff]
theorem aN5{ops:List Oper}:∀(r:List Oper) (acc:List (List Nat)),acc.length+r.length=ops.length→(∀j,ops[acc.length+j]? = r[j]?) →
  (∀(i:Nat) (S:List Nat),acc[i]? = some S→ ∀k∈S,∀L:Nat→Prop,(∀j o,ops[j]? = some o→L j→ ∀e∈o.after,Region.binds .any e=true→L e.on)→(∀o,ops[i]? = some o→ ∀e∈o.after,Region.binds .any e=true→L e.on)→L k) →
  (aGg r acc).length=ops.length∧ ∀(i:Nat) (S:List Nat),(aGg r acc)[i]? = some S→ ∀k∈S,∀L:Nat→Prop,(∀j o,ops[j]? = some o→L j→ ∀e∈o.after,Region.binds .any e=true→L e.on)→(∀o,ops[i]? = some o→ ∀e∈o.after,Region.binds .any e=true→L e.on)→L k
 | [],acc,hl,_,h=>⟨by grind[aGg],h⟩
 | o::r,acc,hl,hr,h=>by
  simp only[aGg];have ho:ops[acc.length]? = some o:=by have:=hr 0; simp_all
  refine aN5 r _ (by grind) (fun j=>by have:=hr (j+1); grind) fun i S J k I L hL hi=>?_;rcases Nat.lt_trichotomy i acc.length with U|heq|hgt
  ·rw[List.getElem?_append_left U] at J;exact h i S J k I L hL hi
  ·subst heq;simp only[List.getElem?_concat_length,Option.some.injEq] at J;subst J;simp only[List.mem_filter,List.mem_range,Bool.or_eq_true,List.any_eq_true,Bool.and_eq_true] at I;obtain⟨_,I⟩:=I;rcases I with I|⟨j,hj,hd,hc⟩
   ·obtain⟨e,he,hb,rfl⟩:=aN4.1 I;simp_all
   ·obtain⟨e,he,hb,rfl⟩:=aN4.1 hd;have N:=hi o ho e he hb;have hj:e.on<acc.length:=hj;have hS':acc[e.on]? = some (acc.getD e.on []):=(by simp_all);exact h e.on _ hS' k (by simp_all) L hL (fun o' ho' e' he' Y=>hL e.on o' ho' N e' he' Y)
  grind
theorem gA{n:Nat}{ops:List Oper}(h:aGh n ops=true){i:Nat}{o:Oper}(J:ops[i]? = some o):(∀e∈o.after,Region.binds .any e=true→e.on<i) ∧
  (n≤i→ ∀L:Nat→Prop,(∀j o,ops[j]? = some o→L j→ ∀e∈o.after,Region.binds .any e=true→L e.on)→(∀e∈o.after,Region.binds .any e=true→L e.on)→ ∀k,k<i→L k):=by
 simp only[aGh,Bool.and_eq_true] at h;obtain⟨Y,U⟩:=h;refine⟨fun e he hb=>?_,fun hn L hL hi k N=>?_⟩
 ·have:=List.all_eq_true.1 Y (o,i) (by grind);grind
 ·obtain⟨q1,q2⟩:=aN5 (ops:=ops) ops [] (by simp) (fun j=>by simp) (fun i S I=>by grind);have hil:i<ops.length:=gA.get_lt' J;have I:(aGg ops [])[i]? = some ((aGg ops [])[i]'(by omega)):=List.getElem?_eq_getElem _;have:=List.all_eq_true.1 U (_,i) (by rw[List.mem_zipIdx_iff_getElem?]; exact I);simp only[Bool.or_eq_true,decide_eq_true_eq] at this;have:=List.all_eq_true.1 (this.resolve_left (by omega)) k (List.mem_range.2 N);exact q2 i _ I k (by simp_all) L hL (fun o' ho'=>by simp_all)
where
 get_lt' {ops:List Oper} {i:Nat} {o:Oper} (J:ops[i]? = some o):i<ops.length:=by
  grind
theorem aN6(hE:dB P E){ops:List Oper}{Q:Exit→Act→World→Prop}(hok:∀o∈ops,dL nt o=true){K:St→List Obj→Prop}(hK:∀env h c a w,K env h→Sim E M w0 nt ds c env h a w→Q .normal a w){n:Nat}(ht:aGh n ops=true) :
  ∀(m i:Nat),i+m=ops.length→n≤i→ ∀(listed:Array Bool),listed.size=ops.length→(∀k,k<ops.length→(listed.getD k false=true↔k<i))→ ∀(env:St) (h:List Obj) (c:Ctx) (a:Act) (w:World),mF E ops (ops.drop i) env h K→Sim E M w0 nt ds c env h a w→wpAny P .any ops.toArray Q m listed a w
 | 0,i,hi,hni,listed,hsz,hl,env,h,c,a,w,hs,I=>by
  rw[List.drop_eq_nil_of_le (by omega)] at hs;refine⟨?_,hK env h c a w hs I⟩;rw[List.eq_nil_iff_forall_not_mem];grind[mem_ready,gA.get_lt']
 | m+1,i,hi,hni,listed,hsz,hl,env,h,c,a,w,hs,I=>by
  have N:i<ops.length:=by omega
  have hio:ops[i]? = some ops[i]:=List.getElem?_eq_getElem N;refine⟨fun hr=>?_,fun j hj=>?_⟩
  ·exfalso;have hmem:i∈Region.ready .any ops.toArray listed:=by
    grind[mem_ready,gA]
   simp_all
  ·obtain⟨h1,o,ho,hall⟩:=mem_ready.1 hj;have ho:ops[j]? = some o:=(by simp_all);have hjl:=gA.get_lt' ho;have hji:j=i:=by
    rcases Nat.lt_trichotomy j i with hlt|heq|hgt
    ·grind
    ·exact heq
    ·have:=(gA ht ho).2 (by omega) (fun k=>k<ops.length→listed.getD k false=true) (fun k o' Y hk e he hb=>fun hlt=>by
      have hkl:=gA.get_lt' Y;have h3:=(gA ht Y).1 e he hb;grind) (fun e he hb _=>hall e he hb) i hgt N
     simp_all
   subst hji;refine aXu hE hok N hs I fun U h' c' a' w' hs' J=>?_;refine aN6 hE hok hK ht m (j+1) (by omega) (by omega) (listed.setIfInBounds j true) (by grind) (fun k hk=>?_) U h' c' a' w' hs' J;by_cases e:j=k
   ·simp_all
   ·rw[getD_set_ne false e,hl k hk];omega
theorem aUE{pre tail:List Oper}{Q:Exit→Act→World→Prop}{i:Nat}{o:Oper}(N:pre[i]? = some o)(hg:∀j p,o.guard=some (j,p)→j<pre.length){K:Act→World→Prop}{a:Act}{w:World}(h:wpOp P pre.toArray Q i K a w):wpOp P (pre++tail).toArray Q i K a w:=by
 have hil:i<pre.length:=gA.get_lt' N;have J:(pre++tail)[i]? = some o:=by grind
 have U:Region.wanted o (yielded (pre++tail).toArray a.tmps)=Region.wanted o (yielded pre.toArray a.tmps):=by
  cases I:o.guard with
  | none=>simp[Region.wanted,I]
  | some Y =>
   obtain⟨j,p⟩:=Y;have:=hg j p I;simp only[Region.wanted,I,yielded,List.getElem?_toArray,List.getElem?_append_left this]
 unfold wpOp at h ⊢;simp only[List.getElem?_toArray,N,J] at h ⊢;rw[U]; exact h
theorem aFd:∀(l:List Oper) (i:Nat),(cP l i).Pairwise (fun p q=>p.1<q.1)
 | [],i=>List.Pairwise.nil
 | o::r,i=>by
  simp only[cP];split
  ·refine List.pairwise_cons.2 ⟨fun p hp=>?_,aFd r (i+1)⟩;grind[nE]
  ·exact aFd r (i+1)
theorem vV(n k:Nat):(Array.replicate n false).getD k false=false:=by
 by_cases h:k<n<;>simp[h]
theorem aK0(hE:dB P E)(hmix:P.follows .mixedOrders=true){pre tail:List Oper}{Q:Exit→Act→World→Prop}(hok:∀o∈pre++tail,dL nt o=true)(hu:aAP pre=true)(hany:aLL pre=true)(ht:aGh pre.length (pre++tail)=true){c:Ctx}{a:Act}{w:World}(hs:Sim E M w0 nt ds c env h a w){K':St→List Obj→Prop}
  (hv:vcA E h env pre 0 [] (fun acc=>K' (gO E.T (cP pre 0) (fR acc env) h).1 (gO E.T (cP pre 0) (fR acc env) h).2))
  (htail:∀env h c a w (listed:Array Bool),listed.size=(pre++tail).length→(∀k,k<(pre++tail).length→(listed.getD k false=true↔k<pre.length))→K' env h→Sim E M w0 nt ds c env h a w→wpAny P .any (pre++tail).toArray Q tail.length listed a w) {id:Nat}:(Code.region id (pre++tail).toArray true).wp P Q a w:=by
 obtain⟨F,f1,f2,f3⟩:=zY pre 0 [] _ hv;have hF:nT E h env pre F:=⟨f1,fun i o N=>by simp_all⟩;simp only[Nat.zero_add] at f3;refine wp_region_any hmix ?_;have hlat:bW c w c { w with drawn:=w.drawn+1 }:=⟨.refl _,fun b hb=>rfl⟩;have Y:Sim E M w0 nt ds c env h a { w with drawn:=w.drawn+1 } :=
  ⟨hs.good.step hlat rfl rfl ⟨rfl,rfl,rfl,Nat.le_refl _,fun _ _ _=>rfl⟩ (fun _ _ _ _ _=>rfl) hs.good.sfin (fun _ hb=>.inl hb),jM.mono (w:=w) (w':={ w with drawn:=w.drawn+1 }) (fun _ hb=>hb) hlat.same hs.glob,hs.env.keep hlat,hs.size,hs.defers⟩
 generalize ({ w with drawn:=w.drawn+1 }:World)=w at Y;clear hs hlat hv;have hokp:∀o∈pre,dL nt o=true:=fun o N=>hok o (by simp[N]);have hanyI:∀i o,pre[i]? = some o→(∀e∈o.after,Region.binds .any e=true→e.on<i)∧(∀j p,o.guard=some (j,p)→ ∃e∈o.after,Region.binds .any e=true∧e.on=j) ∧
   (∀t,Operand.tmp t∈o.op.operands→ ∀k ok,pre[k]? = some ok→ok.dst=some t→k=i∨(k<i∧ ∃e∈o.after,Region.binds .any e=true∧e.on=k)∨(i<k∧ ∃e∈ok.after,Region.binds .any e=true∧e.on=i)):=by
  intro i o N;have hi:i<pre.length:=by
   grind
  simp only[aLL,List.all_eq_true,List.mem_range] at hany;have:=hany i hi;rw[N] at this;simp only[Bool.and_eq_true,List.all_eq_true,Array.mem_toList_iff] at this;obtain⟨⟨h1,h2⟩,h3⟩:=this;refine⟨fun e he hb=>?_,fun j p hg=>?_,fun t ht k ok I hd=>?_⟩
  ·grind
  ·grind
  ·have:=h3 _ ht;simp only[List.all_eq_true,List.mem_range] at this;have hkl:k<pre.length:=by
    grind
   have:=this k hkl;rw[I] at this;simp only[hd,ne_eq,not_true_eq_false,decide_false,Bool.false_or,Bool.or_eq_true,decide_eq_true_eq,Bool.and_eq_true,List.any_eq_true,Array.mem_toList_iff] at this;rcases this with (h|h)|h
   all_goals simp_all
 have main:∀(U:Nat) (listed:Array Bool),listed.size=(pre++tail).length→((List.range pre.length).filter fun k=> !listed.getD k false).length=U→(∀k,pre.length≤k→listed.getD k false=false) →
   (∀k o,pre[k]? = some o→listed.getD k false=true→ ∀e∈o.after,Region.binds .any e=true→listed.getD e.on false=true) →
   ∀(c':Ctx) (a:Act) (w':World) (B:Nat→Nat),Mid E M w0 nt ds h env pre F c w (fun k=>listed.getD k false=true) c' a w'→aRB E.T (cP pre 0) w (fun k=>listed.getD k false=true) c' a w' B→wpAny P .any (pre++tail).toArray Q (U+tail.length) listed a w':=by
  intro U
  induction U with
  | zero =>
   intro listed hsz hcnt hlate hcl c' a w' B hm hf;have J:∀k,k<pre.length→listed.getD k false=true:=fun k I=>by
    have:=List.eq_nil_of_length_eq_zero hcnt;rw[List.filter_eq_nil_iff] at this;have:=this k (List.mem_range.2 I)
    simpa using this
   have hsim:=aLM hF Y.glob (tO (l2:=fun k=>k<pre.length) (fun k I=>⟨fun _=>I,fun _=>J k I⟩) hF hm);obtain⟨c2,hsim2⟩:=aIs hE (cP pre 0) _ _ _ B hsim (fun p hp=>by
    obtain⟨o,q1,_,q2,q3,q4⟩:=nE hp;simp only[Nat.sub_zero] at q1;have hpl:p.1<pre.length:=gA.get_lt' q1;obtain⟨ct,r1,r2,r3,r4,r5,r6⟩:=hf.at_ p hp (J _ hpl);obtain⟨d,s1,s2,s3,s4⟩:=hF.step p.1 o q1;have hcond:=s3 (by rw[q3]; trivial);simp only[opA,pv,q2,r1] at hcond;refine⟨ct,r1,hcond,r2,Nat.le_trans Y.good.keeps.size r3,r5,r6,fun i o' ho' e=>?_⟩;rw[cX hm.later.le (congrFun hm.n.2 _) (by rw[Y.good.n]; grind)] at e;have:=(Y.good.own i o' _ ho' e).2.1;omega) ((aFd pre 0).imp_of_mem fun {p q} hp hq hlt e=>by
    obtain⟨o,q1,_⟩:=nE hp;obtain⟨o',q1',_⟩:=nE hq;simp only[Nat.sub_zero] at q1 q1';have:=hf.inj p hp q hq (J _ (gA.get_lt' q1)) (J _ (gA.get_lt' q1')) e;omega)
   grind
  | succ U ih =>
   intro listed hsz hcnt hlate hcl c' a w' B hm hf;rw[show U+1+tail.length=(U+tail.length)+1 from by omega];have hpl:∀k,k<pre.length→(pre++tail)[k]? = pre[k]? := fun k I=>List.getElem?_append_left I;refine⟨fun hr=>?_,fun i hi=>?_⟩
   ·exfalso;have hex:∃k,k<pre.length∧listed.getD k false=false:=by
     have hne:((List.range pre.length).filter fun k=> !listed.getD k false)≠ []:=fun e=>(by grind);obtain⟨k,I⟩:=List.exists_mem_of_ne_nil _ hne;grind
    have hmin:∃k,(k<pre.length∧listed.getD k false=false)∧ ∀j,j<k→ ¬(j<pre.length∧listed.getD j false=false):=by
     obtain⟨k,I⟩:=hex
     induction k using Nat.strongRecOn with
     | _ k ihk =>
      by_cases hh:∃j,j<k∧(j<pre.length∧listed.getD j false=false)
      ·obtain⟨j,hj,hp⟩:=hh; exact ihk j hj hp
      grind
    obtain⟨k,⟨I,hun⟩,hlow⟩:=hmin;have hmem:k∈Region.ready .any (pre++tail).toArray listed:=by
     rw[mem_ready];have hlt:k<listed.size:=(by rw[hsz]; simp; omega);refine⟨by simp[hlt] at hun ⊢; exact hun,pre[k],by rw[List.getElem?_toArray,hpl k I]; exact List.getElem?_eq_getElem I,fun e he hb=>?_⟩;have:=(hanyI k _ (List.getElem?_eq_getElem I)).1 e he hb;have hn:=hlow e.on this;by_cases hh:listed.getD e.on false=true
     ·exact hh
     ·exact absurd ⟨by omega,by simpa using hh⟩ hn
    grind
   ·obtain⟨h1,o,N,J⟩:=mem_ready.1 hi;have N:(pre++tail)[i]? = some o:=(by grind);have hil0:=gA.get_lt' N;have hex:∃k,k<pre.length∧listed.getD k false=false:=by
     have hne:((List.range pre.length).filter fun k=> !listed.getD k false)≠ []:=fun e=>(by grind);obtain⟨k,I⟩:=List.exists_mem_of_ne_nil _ hne;grind
    have hil:i<pre.length:=by
     rcases Nat.lt_or_ge i pre.length with h|h
     ·exact h
     ·obtain⟨k,I,hun⟩:=hex;have hk2:=(gA ht N).2 h (fun k=>listed.getD k false=true) (fun j o' ho' hj e he hb=>by
       grind) (fun e he hb=>J e he hb) k (by omega)
      grind
    rw[hpl i hil] at N;have hlt:i<listed.size:=(by omega);have hni:¬listed.getD i false=true:=(by grind);obtain⟨a1,a2,a3⟩:=hanyI i o N;obtain⟨d,s1,_,_,_⟩:=hF.step i _ N;have hokO:=hokp o (List.mem_of_getElem? N);refine aUE N (fun j p hg=>?_) ?_
    ·obtain⟨e,he,hb,hon⟩:=a2 j p hg;grind
    refine aIe hE hF hokp Y.glob hm N hni (fun t ht k ok I hd=>?_) (fun j p hg=>?_) (fun k ok I hd=>aHD hu N I hd (by grind)) fun c'' a'' w'' hm' hx=>?_
    ·rcases a3 t ht k ok I hd with h|⟨h,e,he,hb,hon⟩|⟨h,e,he,hb,hon⟩
     all_goals grind
    ·obtain⟨e,he,hb,hon⟩:=a2 j p hg;grind
    ·have hset:∀k,(listed.setIfInBounds i true).getD k false=true↔(listed.getD k false=true∨k=i):=fun k=>by
      by_cases e:i=k
      ·subst e; simp[hlt]
      ·rw[getD_set_ne false e];exact⟨.inl,fun h=>h.resolve_right (fun h=>e h.symm)⟩
     obtain⟨B',hf'⟩:=hf.step N (by rw[hm.size]; omega) hu hni (by grind) hm.good.sfin hx;refine ih (listed.setIfInBounds i true) (by grind) ?_ (fun k I=>?_) (fun k o' I hkl e he hb=>?_) c'' a'' w'' B' (tO (fun k _=>(hset k).symm) hF hm') ⟨hf'.size,fun p hp hl=>hf'.at_ p hp ((hset _).1 hl),fun p hp q hq hl1 hl2=>hf'.inj p hp q hq ((hset _).1 hl1) ((hset _).1 hl2)⟩
     ·have hfil:((List.range pre.length).filter fun k=> !(listed.setIfInBounds i true).getD k false)=((List.range pre.length).filter fun k=> !listed.getD k false).filter (fun k=>decide (k≠i)):=by
       rw[List.filter_filter];apply List.filter_congr;intro k _;rw[Bool.eq_iff_iff];by_cases e:k=i
       ·grind
       ·have h2:(listed.setIfInBounds i true).getD k false=listed.getD k false:=getD_set_ne false (fun h=>e h.symm);rw[h2];simp[e]
      rw[hfil];have hnd:((List.range pre.length).filter fun k=> !listed.getD k false).Nodup:=List.nodup_range.filter _;have hmem:i∈((List.range pre.length).filter fun k=> !listed.getD k false):=by
       grind
      have:=hnd.erase_eq_filter i;grind
     all_goals grind
 have hstart:=main pre.length (Array.replicate (pre++tail).length false) (by simp) (by
   grind[List.filter_eq_self,vV]) (fun k _=>vV _ _) (fun k o N hl=>by grind[vV]) c a w (fun _=>0) (tO (fun k I=>⟨False.elim,fun h=>by grind[vV]⟩) hF (aE5 Y)) ⟨Nat.le_refl _,(fun p hp hl=>by grind[vV]),(fun p hp q hq hl=>by grind[vV])⟩
 grind
theorem aUF(hE:dB P E)(I:P.follows .mixedOrders=true){pre tail:List Oper}{Q:Exit→Act→World→Prop}(J:∀o∈pre++tail,dL nt o=true)(hu:aAP pre=true)(N:aLL pre=true)(ht:aGh pre.length (pre++tail)=true){c:Ctx}{a:Act}{w:World}(hs:Sim E M w0 nt ds c env h a w){K':St→List Obj→Prop}
  (hv:vcA E h env pre 0 [] (fun acc=>mF E (pre++tail) tail (gO E.T (cP pre 0) (fR acc env) h).1 (gO E.T (cP pre 0) (fR acc env) h).2 K')) (hK:∀env h c a w,K' env h→Sim E M w0 nt ds c env h a w→Q .normal a w) {id:Nat}:(Code.region id (pre++tail).toArray true).wp P Q a w :=
 aK0 hE I J hu N ht hs (K':=fun env h=>mF E (pre++tail) tail env h K') hv fun env h c a w listed Y hl hk U =>
  aN6 hE J hK ht tail.length pre.length (by simp) (Nat.le_refl _) listed Y hl env h c a w (by simp_all) U
end
end Go.Vc
namespace Go.Vc
open Go.RowKit
def bA2:List Obj→List (Nat×Obj)→List Obj
 | h,[]=>h
 | h,(i,o)::r=>bA2 (h.set i o) r
def aDj(env:St)(keep:List Nat)(u:St):St:=u++keep.map fun t=>(t,look env t)
theorem aUG{α:Type}(a s:α):(List.replicate 1 a).set 0 s= [s]:=rfl
theorem aUH{α:Type}(a s k:α):((List.replicate 2 a).set 0 s).set 1 k= [s,k]:=rfl
theorem aUI{α:Type}(a s k m:α):(((List.replicate 3 a).set 0 s).set 1 k).set 2 m= [s,k,m]:=rfl
def elB(P:Program)(l:List (TypeId×Ty))(el:TypeId→TypeId):Bool:=l.all fun p=>match p.2 with
 | .sl _=>match P.underlying p.1 with
  | some (.slice e)=>decide (e=el p.1)
  | _=>false
 | _=>true
theorem aXw{P:Program}{l:List (TypeId×Ty)}{el:TypeId→TypeId}(h:elB P l el=true):∀t I,aCB l t=some (.sl I)→P.underlying t=some (.slice (el t)):=fun t I ht=>by
 have:=List.all_eq_true.1 h _ (aKO ht);grind
section
variable {F:Fr} {Q:Exit→Act→World→Prop} {env:St} {h:List Obj}
theorem aTc{x:Code}(N:Tri F x (Exit.noGoto Q) env h):Tri F (.scope x) Q env h:=fun J c a w I =>
 wp_scope_straight (N (by grind[dQ]) c a w I)
end
end Go.Vc
namespace Go.Vc
open Go.RowKit
structure Pan where
 k:TypeId
 t:Ty
 x:t.den
inductive aZK where
 | ret (v:AV) (h:List Obj)
 | pan (p:Pan) (h:List Obj)
structure iJ where
 D:Type
 av:D→List AV
 hp:D→List Obj
 m:Nat
 pre:D→Prop
 out:D→aZK
def GM(sp:iJ)(c:Ctx)(d:sp.D):Perm:=⟨fun b=>∃i o,(sp.hp d)[i]? = some o∧cM c i o b,c.S,sp.m,c.hd⟩
structure GIn(G:Nat→AV)(sp:iJ)(c:Ctx)(w:World)(d:sp.D)(vs:List Value):Prop where
 good:Good (GM sp c d) w c (sp.hp d) w
 glob:jM G c.S w
 len:vs.length=(sp.av d).length
 val:∀i (h1:i<(sp.av d).length) (h2:i<vs.length),aG c w (sp.av d)[i] vs[i]
def aJ4(k:TypeId)(u:Value):List PanicEntry:=[{ v:=.iface k u,recovered:=false,goexit:=false }]
def aD4(sp:iJ)(c:Ctx)(w:World)(d:sp.D)(e:Ending)(w':World):Prop :=
 ∃c',match sp.out d with
  | .ret v h'=>∃u,e= .returned u∧Good (GM sp c d) w c' h' w'∧aG c' w' v u
  | .pan p h'=>∃u,e= .panicked (aJ4 p.k u)∧Good (GM sp c d) w c' h' w'∧bR w' c'.S p.t p.x u
def GOK(P:Program)(G:Nat→AV)(f:FuncId)(sp:iJ):Prop :=
 ∀(c:Ctx) (w:World) (d:sp.D) (vs:Array Value),sp.pre d→GIn G sp c w d vs.toList→Calls P f vs w (aD4 sp c w d)
def aQd(I:List Nat):List Nat→Option (List Nat)
 | []=>some []
 | i::r=>match I[i]?,aQd I r with
  | some j,some l=>some (j::l)
  | _,_=>none
def aLS(I:List Nat):AV→AV
 | .own i=>match I[i]? with
  | some j=>.own j
  | none=>.junk
 | .ptr i p=>match I[i]? with
  | some j=>.ptr j p
  | none=>.junk
 | .sub i s off n=>match I[i]? with
  | some j=>.sub j s off n
  | none=>.junk
 | .mp i=>match I[i]? with
  | some j=>.mp j
  | none=>.junk
 | .fn f J N=>match aQd I J,aQd I N with
  | some J,some N=>.fn f J N
  | _,_=>.junk
 | .agg _=>.junk
 | .flat _=>.junk
 | .tup _=>.junk
 | v=>v
def yN(I:List Nat):AV→AV
 | .agg J=>.agg (J.map (aLS I))
 | v=>aLS I v
def emb(I:List Nat):AV→AV
 | .tup J=>.tup (J.map (yN I))
 | v=>yN I v
def aIt(I:List Nat):Obj→Obj
 | .box n v=>.box n (yN I v)
 | .trh e m t J k v=>.trh e m t J k (yN I v)
 | o=>o
def wJ:List (Nat×Obj)→List Obj→List Obj
 | [],h=>h
 | (i,o)::r,h=>wJ r (h.set i o)
def jE(σ:List Nat)(m n k:Nat):List Nat:=σ.take m++List.range' n (k-m)
def wK(σ:List Nat)(m:Nat)(h h':List Obj):List Obj :=
 wJ ((σ.take m).zip ((h'.take m).map (aIt (jE σ m h.length h'.length)))) (iD (σ.drop m) h)++(h'.drop m).map (aIt (jE σ m h.length h'.length))
section
variable {P:Program} {E:Env} {M:Perm} {w0:World} {c c':Ctx} {h:List Obj} {w w':World}
structure Emb(μ:List Nat)(c' cN:Ctx):Prop where
 S:∀b,c'.S b→cN.S b
 hd:∀i j,μ[i]? = some j→j<cN.n∧cN.hd j=c'.hd i
theorem aRC{J:List Nat}{cN:Ctx}(N:Emb J c' cN):∀ {l I:List Nat},aQd J l=some I→(∀j∈I,j<cN.n)∧I.map cN.hd=l.map c'.hd
 | [],I,h=>by simp[aQd] at h; simp_all
 | i::r,I,h=>by
  simp only[aQd] at h;split at h
  ·rename_i j l Y U;cases h;obtain⟨q1,q2⟩:=N.hd i j Y;obtain⟨k1,k2⟩:=aRC N U;simp_all
  grind
theorem aIu{Y:List Nat}{cN:Ctx}(I:Emb Y c' cN):∀ {v:AV} {cs:List Value},aE c' w v cs→aE cN w (aLS Y v) cs:=by
 intro v cs J;have hS:c'.le ⟨cN.S,c'.hd,c'.n,c'.bl⟩:=⟨I.S,Nat.le_refl _,fun _ _=>rfl⟩;cases v<;>simp only[aLS]<;>(try trivial)
 case own i =>
  split
  ·rename_i j hp;obtain⟨N,U⟩:=I.hd i j hp;grind[aE]
  ·trivial
 case ptr i p =>
  split
  ·rename_i j hp;obtain⟨N,U⟩:=I.hd i j hp;grind[aE]
  ·trivial
 case sub i s off n =>
  split
  ·rename_i j hp;obtain⟨N,U⟩:=I.hd i j hp;grind[aE]
  ·trivial
 case mp i =>
  split
  ·rename_i j hp;obtain⟨N,U⟩:=I.hd i j hp;grind[aE]
  ·trivial
 case fn f l1 l2 =>
  grind[aRC,aE]
 case val t x=>exact aJ.keep I.S (.refl _ _) t x cs J
 case full t xs =>
  simp only[aE] at J ⊢;obtain⟨a,n,e,hs⟩:=J;exact⟨a,n,e,hs.keep I.S (.refl _ _) (fun x cs=>aJ.keep I.S (.refl _ _) t x cs)⟩
 case roa t x =>
  simp only[aE] at J ⊢;obtain⟨b,off,ds,e,hb,hd,hc⟩:=J;exact⟨b,off,ds,e,I.S b hb,aJ.keep I.S (.refl _ _) t x ds hd,hc⟩
 all_goals exact J
theorem aN7{I:List Nat}{cN:Ctx}(J:Emb I c' cN):∀ {vs:List AV} {cs:List Value},fP c' w vs cs→fP cN w (vs.map (aLS I)) cs
 | [],_,U=>U
 | v::r,_,⟨c1,c2,e,Y,N⟩=>⟨c1,c2,e,aIu J Y,aN7 J N⟩
theorem aDk{N:List Nat}{cN:Ctx}(I:Emb N c' cN){v:AV}{cs:List Value}(J:aE c' w v cs):aE cN w (yN N v) cs:=by
 cases v
 case agg vs=>exact aN7 I J
 all_goals exact aIu I J
theorem aUJ(I:List Nat)(v:AV):yN I v= .junk∨(yN I v).isAgg=v.isAgg:=by
 cases v<;>simp only[yN,aLS]<;>first|exact .inr trivial|exact .inl trivial|exact .inr rfl|exact .inl rfl|grind[AV.isAgg]
theorem aK1{I:List Nat}{cN:Ctx}(U:Emb I c' cN){v:AV}{x:Value}(J:mH c' w v x)(Y:yN I v≠ .junk):mH cN w (yN I v) x:=by
 have N:=(aUJ I v).resolve_left Y;exact⟨aDk U J.1,by rw[N]; exact J.2.1,by rw[N]; exact J.2.2⟩
theorem aZL(I:List Nat)(v:AV):yN I v= .undef→v= .undef:=by
 cases v<;>simp only[yN,aLS]<;>first|exact fun _=>trivial|(intro h; cases h; done)|grind|grind
theorem aXx(I:List Nat)(v:AV)(vs:List AV):yN I v≠ .tup vs:=by
 cases v<;>simp only[yN,aLS]<;>first|(intro h; cases h; done)|grind
theorem aXy{I:List Nat}{cN:Ctx}(he:Emb I c' cN){v:AV}{x:Value}(Y:aG c' w v x)(hj:∀vs,v= .tup vs→ ∀u∈vs,yN I u≠ .junk):aG cN w (emb I v) x:=by
 have N:∀v,(∀vs,v≠ .tup vs)→v≠ .junk→v≠ .undef→mH c' w v x→aG cN w (yN I v) x:=fun v ht hn hu U=>by
  by_cases J:yN I v= .junk
  ·rw[J]; trivial
  ·have:=aK1 he U J;have e1:=aZL I v;have e2:=aXx I v;generalize yN I v=u at this e1 e2 J;cases u<;>first|exact this|simp_all|simp_all|simp_all
 cases v
 case junk=>trivial
 case undef=>exact Y
 case tup vs =>
  obtain⟨xs,hx,hl,hv⟩:=Y;refine⟨xs,hx,by simp_all,fun i U h2=>?_⟩;simp only[List.length_map] at U;simp only[List.getElem_map];exact aK1 he (hv i U h2) (hj vs rfl _ (List.getElem_mem U))
 all_goals exact N _ (by simp) (by simp) (by simp) Y
theorem Good.rebase(I:Good M w0 c h w){m:Nat}(N:m≤c.n):Good ⟨fun b=>∃i o,h[i]? = some o∧cM c i o b,c.S,m,c.hd⟩ w c h w :=
 ⟨I.n,.refl _ _,I.sfin,fun b hb _=>.inl hb,I.objs,fun i o b J hb=>⟨.inr ⟨i,o,J,hb⟩,(I.own i o b J hb).2⟩,I.sep,N,fun _ _=>rfl⟩
end
end Go.Vc
namespace Go.Vc
open Go.RowKit
theorem xV:∀(l:List (Nat×Obj)) (h:List Obj),(wJ l h).length=h.length
 | [],h=>rfl
 | (i,o)::r,h=>by rw[wJ,xV r]; simp
theorem aDl:∀(l:List (Nat×Obj)) (h:List Obj) (i:Nat),(∀p∈l,p.1≠i)→(wJ l h)[i]? = h[i]?
 | [],h,i,_=>rfl
 | (j,o)::r,h,i,I=>by
  rw[wJ,aDl r _ i (fun p hp=>I p (by simp[hp])),List.getElem?_set_ne (I (j,o) (by simp))]
theorem aK2:∀(l:List (Nat×Obj)) (h:List Obj),(l.map (·.1)).Nodup→(∀p∈l,p.1<h.length)→ ∀p∈l,(wJ l h)[p.1]? = some p.2
 | [],h,_,_,p,hp=>by cases hp
 | (j,o)::r,h,hd,I,p,hp=>by
  simp only[List.map_cons,List.nodup_cons] at hd;rcases List.mem_cons.1 hp with rfl|hp
  ·have:j<h.length:=I (j,o) (by simp);rw[wJ,aDl r _ j (fun q hq e=>hd.1 (List.mem_map.2 ⟨q,hq,e⟩))];simp[this]
  ·rw[wJ];exact aK2 r _ hd.2 (fun q hq=>by grind) p hp
section
variable {P:Program} {E:Env} {M:Perm} {w0:World} {c c':Ctx} {h h':List Obj} {w w':World}
def cN(c c':Ctx)(m I:Nat)(σ J:List Nat):Ctx:=⟨fun b=>c.S b∨c'.S b,fun i=>if i<c.n then c.hd i else c'.hd (m+(i-c.n)),c.n+(I-m),fun i b=>(i<c.n∧i∉σ∧c.bl i b)∨ ∃j:Nat,J[j]? = some i∧c'.bl j b⟩
theorem bA3(c c':Ctx)(m I:Nat)(σ J:List Nat):c.le (cN c c' m I σ J):=⟨fun b hb=>.inl hb,Nat.le_add_right _ _,fun i hi=>by simp[cN,hi]⟩
theorem Good.frame(I:Good M w0 c h w){σ:List Nat}{m:Nat}(hd:σ.Nodup)(hσ:∀i∈σ,i<h.length)(hm:m≤σ.length){Ml:Perm}(hMr:Ml.rd=c.S)(hMw:∀b,Ml.wr b→ ∃i o,i∈σ∧h[i]? = some o∧cM c i o b)(hMm:Ml.m=m)(hMd:∀j,j<m→Ml.roots j=c.hd (σ.getD j 0))
  (hg':Good Ml w c' h' w'):Good M w0 (cN c c' m h'.length σ (jE σ m h.length h'.length)) (wK σ m h h') w'∧bW c w (cN c c' m h'.length σ (jE σ m h.length h'.length)) w'∧Emb (jE σ m h.length h'.length) c' (cN c c' m h'.length σ (jE σ m h.length h'.length)):=by
 have hk:=hg'.keeps;have hroot:=hg'.root;rw[hMm] at hroot;have hmn:m≤h'.length:=by rw[← hg'.n]; omega
 have hwrS:∀b,Ml.wr b→b<w.heap.size∧ ¬c.S b∧(w0.heap.size≤b∨M.wr b):=fun b hb=>by
  obtain⟨i,o,hi,N,hob⟩:=hMw b hb;obtain⟨U,h2,h3⟩:=I.own i o b N hob;simp_all
 have hlS:pZ c.S w w':=fun b hb=>hk.block b (I.sfin b hb) (fun hw=>(hwrS b hw).2.1 hb);have hl:bW c w (cN c c' m h'.length σ (jE σ m h.length h'.length)) w':=⟨bA3 _ _ _ _ _ _,hlS⟩;have hmu:∀j i,(jE σ m h.length h'.length)[j]? = some i→(j<m∧i=σ.getD j 0∧i<h.length∧i∈σ)∨(m≤j∧i=h.length+(j-m)∧j<h'.length):=fun j i hj=>by
  unfold jE at hj;grind
 have hhd:∀j i,(jE σ m h.length h'.length)[j]? = some i→i<(cN c c' m h'.length σ (jE σ m h.length h'.length)).n∧(cN c c' m h'.length σ (jE σ m h.length h'.length)).hd i=c'.hd j:=fun j i hj=>by
  rcases hmu j i hj with⟨U,h2,h3,_⟩|⟨U,h2,h3⟩
  ·refine⟨by simp only[cN]; rw[I.n]; omega,?_⟩;simp only[cN,I.n,h3,if_true];simp_all
  ·refine⟨by simp only[cN]; rw[I.n]; omega,?_⟩;simp only[cN,I.n];grind
 have hbli:∀i,i<h.length→i∉σ→(cN c c' m h'.length σ (jE σ m h.length h'.length)).bl i=c.bl i:=fun i hi hn=>by
  funext b;refine propext ⟨?_,fun hb=>.inl ⟨by rw[I.n]; exact hi,hn,hb⟩⟩;rintro (⟨_,_,hb⟩|⟨j,hj,_⟩)
  all_goals grind
 have hnd:∀i j k:Nat,i<m→j<m→σ[i]? = some k→σ[j]? = some k→i=j:=fun i j k hi hj U h2=>by
  grind[List.getElem?_eq_some_iff,List.getElem?_inj]
 have hblj:∀j i,(jE σ m h.length h'.length)[j]? = some i→(cN c c' m h'.length σ (jE σ m h.length h'.length)).bl i=c'.bl j:=fun j i hj=>by
  funext b;refine propext ⟨?_,fun hb=>.inr ⟨j,hj,hb⟩⟩;rintro (⟨q1,q2,_⟩|⟨j2,hj2,hb⟩)
  ·rcases hmu j i hj with⟨_,_,_,q⟩|⟨_,q,_⟩
   ·grind
   ·rw[I.n] at q1; omega
  grind
 have J:Emb (jE σ m h.length h'.length) c' (cN c c' m h'.length σ (jE σ m h.length h'.length)):=⟨fun b hb=>.inr hb,hhd⟩;have hcase:∀i o,(wK σ m h h')[i]? = some o→(i∉σ∧h[i]? = some o)∨o= .dead∨ ∃j oj,h'[j]? = some oj∧(jE σ m h.length h'.length)[j]? = some i∧o=aIt (jE σ m h.length h'.length) oj:=fun i o N=>by
  unfold wK at N;have hlen:(wJ ((σ.take m).zip ((h'.take m).map (aIt (jE σ m h.length h'.length)))) (iD (σ.drop m) h)).length=h.length:=by rw[xV,iO]
  have hmul:(jE σ m h.length h'.length).length=h'.length:=by
   grind[jE,List.length_take]
  rcases Nat.lt_or_ge i h.length with hi|hi
  ·rw[List.getElem?_append_left (by omega)] at N;by_cases hin:∃j,j<m∧σ[j]? = some i
   ·obtain⟨j,hj,hji⟩:=hin;have hjh:j<h'.length:=(by omega);have Y:(i,aIt (jE σ m h.length h'.length) h'[j])∈(σ.take m).zip ((h'.take m).map (aIt (jE σ m h.length h'.length))):=by
     refine List.mem_iff_getElem?.2 ⟨j,?_⟩;grind
    have:=aK2 _ (iD (σ.drop m) h) (by
     have:((σ.take m).zip ((h'.take m).map (aIt (jE σ m h.length h'.length)))).map (·.1)=σ.take m:=by
      grind[List.map_fst_zip,List.length_take]
     grind) (fun p hp=>by
     rw[iO];have:=(List.of_mem_zip hp).1;grind) _ Y
    simp only at this;rw[this] at N;cases N;refine .inr (.inr ⟨j,h'[j],List.getElem?_eq_getElem hjh,?_,rfl⟩);unfold jE;rw[List.getElem?_append_left (by grind),List.getElem?_take,if_pos hj]; exact hji
   ·rw[aDl _ _ i (fun p hp e=>by
     have:=(List.of_mem_zip hp).1;grind[List.mem_take_iff_getElem,List.getElem?_eq_getElem])] at N
    by_cases hdrop:i∈σ.drop m
    ·grind[uX]
    ·rw[tQ _ _ i hdrop] at N;refine .inl ⟨fun Y=>?_,N⟩;rw[← List.take_append_drop m σ] at Y;rcases List.mem_append.1 Y with Y|Y
     ·obtain⟨j,hj,hji⟩:=List.mem_take_iff_getElem.1 Y;exact hin ⟨j,by omega,by rw[List.getElem?_eq_getElem (by omega),hji]⟩
     ·exact hdrop Y
  grind
 have hobj:∀j oj i,h'[j]? = some oj→(jE σ m h.length h'.length)[j]? = some i→zL (cN c c' m h'.length σ (jE σ m h.length h'.length)) w' i (aIt (jE σ m h.length h'.length) oj):=fun j oj i hj hi=>by
  have hr:=hg'.objs j oj hj;have hS:c'.le ⟨(cN c c' m h'.length σ (jE σ m h.length h'.length)).S,c'.hd,c'.n,c'.bl⟩:=⟨J.S,Nat.le_refl _,fun _ _=>rfl⟩;have e:=(hhd j i hi).2;cases oj with
  | dead=>trivial
  | box n v =>
   obtain⟨b,cells,et,q1,q2,q3,q4⟩:=hr;exact⟨b,cells,et,by grind,q2,q3,aDk J q4⟩
  | row et t xs =>
   obtain⟨vals,q1,q2⟩:=hr;exact⟨vals,by grind,aJ.keep J.S (.refl _ _) _ _ _ q2⟩
  | frz t xs =>
   show aJ _ _ _ _ _;rw[e];exact aJ.keep J.S (.refl _ _) _ _ _ hr
  | map k v mm =>
   obtain⟨b,es,clock,q1,q2,q3,q4⟩:=hr;exact⟨b,es,clock,by grind,q2,q3,fun x U h2=>⟨(q4 x U h2).1.keep J.S (.refl _ _),(q4 x U h2).2.keep J.S (.refl _ _)⟩⟩
  | tre et mk t xs =>
   obtain⟨B,q1,q2,q3⟩:=hr;exact⟨B,by rw[e]; exact fQ.keep J.S (.refl _ _) _ _ _ _ _ (fun _ _=>rfl) q1,q2,by grind⟩
  | trh et mk t xs k v =>
   obtain⟨css,Bs,q⟩:=hr;exact⟨css,Bs,⟨by rw[e]; exact q.row,q.lc,q.lb,q.kl,fun x h U h2 hne=>fQ.keep J.S (.refl _ _) _ _ _ _ _ (fun _ _=>rfl) (q.el x h U h2 hne),q.hb,fun U=>⟨aDk J (q.hv U).1,(q.hv U).2⟩,by rw[e]; exact q.nd,by rw[e,hblj j i hi]; exact q.bl⟩⟩
 have hown:∀j oj i b,h'[j]? = some oj→(jE σ m h.length h'.length)[j]? = some i→cM (cN c c' m h'.length σ (jE σ m h.length h'.length)) i (aIt (jE σ m h.length h'.length) oj) b→cM c' j oj b:=fun j oj i b hj hi hb=>by
  have e:=(hhd j i hi).2;have e2:=hblj j i hi;cases oj<;>simp only[cM,aIt,e,e2] at hb ⊢ <;> exact hb
 have hfar:∀i o b j oj,i∉σ→h[i]? = some o→cM c i o b→h'[j]? = some oj→ ¬cM c' j oj b:=fun i o b j oj hi N hb hj e=>by
  have U:=(I.own i o b N hb).2.1;rcases (hg'.own j oj b hj e).1 with h2|h2
  ·omega
  ·obtain⟨i',o',hi',ho',hb'⟩:=hMw b h2;exact hi (I.sep i i' o o' b N ho' hb hb'▸hi')
 have hfarS:∀i o b,i∉σ→h[i]? = some o→cM c i o b→ ¬c'.S b:=fun i o b hi N hb hS=>by
  have U:=(I.own i o b N hb).2;rcases hg'.src b hS U.1 with h2|h2
  ·grind
  ·obtain⟨i',o',hi',ho',hb'⟩:=hMw b h2;exact hi (I.sep i i' o o' b N ho' hb hb'▸hi')
 refine⟨⟨?_,⟨hk.os.trans I.keeps.os,hk.tape.trans I.keeps.tape,hk.output.trans I.keeps.output,Nat.le_trans I.keeps.size hk.size,fun b hb hM=>?_⟩,fun b hb=>?_,fun b hb hlt=>?_,fun i o N=>?_,fun i o b N hb=>?_,fun i k oi ok b hi hk' hbi hbk=>?_,sN I.root hl.le⟩,hl,J⟩
 ·unfold wK cN;simp only[List.length_append,xV,iO,List.length_map,List.length_drop,I.n]
 ·have hbw:b<w.heap.size:=Nat.lt_of_lt_of_le hb I.keeps.size;rw[hk.block b hbw (fun hw=>?_)]
  ·exact I.keeps.block b hb hM
  grind
 ·rcases hb with hb|hb
  ·exact Nat.lt_of_lt_of_le (I.sfin b hb) hk.size
  ·exact hg'.sfin b hb
 ·rcases hb with hb|hb
  ·exact I.src b hb hlt
  ·rcases hg'.src b hb (Nat.lt_of_lt_of_le hlt I.keeps.size) with U|U
   ·rw[hMr] at U; exact I.src b U hlt
   grind
 ·rcases hcase i o N with⟨hi,N⟩|rfl|⟨j,oj,hj,hij,rfl⟩
  ·exact(I.objs i o N).keep hl (by rw[I.n]; grind) (hbli i (qJ N) hi) (fun b hb=>hk.block b (I.own i o b N hb).2.1 (fun hw=>by
    obtain⟨i',o',hi',ho',hb'⟩:=hMw b hw;exact hi (I.sep i i' o o' b N ho' hb hb'▸hi')))
  ·trivial
  grind
 ·rcases hcase i o N with⟨hi,N⟩|rfl|⟨j,oj,hj,hij,rfl⟩
  ·rw[cX hl.le (hbli i (qJ N) hi) (by rw[I.n]; grind)] at hb;obtain⟨U,h2,h3⟩:=I.own i o b N hb;refine⟨U,Nat.lt_of_lt_of_le h2 hk.size,fun hS=>?_⟩;rcases hS with hS|hS
   all_goals grind
  ·cases hb
  ·have hb:=hown j oj i b hj hij hb;obtain⟨U,h2,h3⟩:=hg'.own j oj b hj hb;refine⟨?_,h2,fun hS=>?_⟩
   ·rcases U with U|U
    ·exact .inl (Nat.le_trans I.keeps.size U)
    grind
   ·rcases hS with hS|hS
    ·rcases U with U|U
     ·have:=I.sfin b hS; omega
     grind
    grind
 ·rcases hcase i oi hi with⟨hi,N⟩|rfl|⟨j,oj,hj,hij,rfl⟩
  ·rw[cX hl.le (hbli i (qJ N) hi) (by rw[I.n]; grind)] at hbi;rcases hcase k ok hk' with⟨hk2,ho2⟩|rfl|⟨j2,oj2,hj2,hij2,rfl⟩
   ·rw[cX hl.le (hbli k (qJ ho2) hk2) (by rw[I.n]; grind)] at hbk;exact I.sep i k oi ok b N ho2 hbi hbk
   ·cases hbk
   grind
  ·cases hbi
  ·have hbi:=hown j oj i b hj hij hbi;rcases hcase k ok hk' with⟨hk2,ho2⟩|rfl|⟨j2,oj2,hj2,hij2,rfl⟩
   ·rw[cX hl.le (hbli k (qJ ho2) hk2) (by rw[I.n]; grind)] at hbk;grind
   ·cases hbk
   ·have hbk:=hown j2 oj2 k b hj2 hij2 hbk;have:=hg'.sep j j2 oj oj2 b hj hj2 hbi hbk;grind
end
end Go.Vc

