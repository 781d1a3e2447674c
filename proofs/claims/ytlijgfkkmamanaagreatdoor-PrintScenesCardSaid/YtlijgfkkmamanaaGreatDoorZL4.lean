import Derived.Test.YtlijgfkkmamanaaGreatDoorZL3
import Derived.Scope
set_option linter.unusedVariables false
set_option linter.unusedSimpArgs false
namespace Go.Vc
open Go.RowKit
def aH3(e:TypeId)(m:Mk)(t:Ty)(xs:List t.den):Obj:=match m with
 | .no=>.row e t xs
 | .sl f g=>.tre e (.sl f g) t xs
 | .pair a b=>.tre e (.pair a b) t xs
section
variable {P:Program} {E:Env} {T:Tab} {M:Perm} {w0:World} {c:Ctx} {h:List Obj} {w:World}
theorem flatten_nil{α:Type}{f:List (List α)}(h:∀i (h:i<f.length),f[i]= []):f.flatten= []:=by
 induction f with
 | nil=>rfl
 | cons a r g =>
  have h0:=h 0 (by simp);simp only[List.getElem_cons_zero] at h0;rw[List.flatten_cons,h0,g (fun i hi=>by have:=h (i+1) (by simp_all); grind)]; rfl
theorem aO1{S:Nat→Prop}{t:Ty}{x:t.den}{cs:List Value}{B:List Nat}(h:mB w S t .no x cs B):bB w S t x cs∧B= []:=by cases t<;>exact h
theorem aIZ{S:Nat→Prop}{t:Ty}{x:t.den}{cs:List Value}(h:bB w S t x cs):mB w S t .no x cs []:=by cases t<;>exact⟨h,rfl⟩
theorem bJf{S:Nat→Prop}{e:TypeId}{t:Ty}{xs:List t.den}{v:Value}{f:List Value}(g:w.ownsRow 0 e t.cells v xs.length f)(z:bB w S (.arr xs.length t) xs f):mB w S (.sl t) (.sl e .no) xs [v] (hdB v):=by
 obtain⟨_,q,e1,J,z⟩:=z;subst e1;refine⟨v,q,List.replicate xs.length [],rfl,g,J,by simp,?_,fun i h I L=>?_⟩
 ·rw[flatten_nil (fun i hi=>by simp),List.append_nil]
 ·simp only[List.getElem_replicate];exact aIZ (z i h I)
theorem bD2{S:Nat→Prop}{e:TypeId}{t:Ty}{xs:List t.den}{v:Value}{B:List Nat}(h:mB w S (.sl t) (.sl e .no) xs [v] B):(∃f,w.ownsRow 0 e t.cells v xs.length f∧bB w S (.arr xs.length t) xs f)∧B=hdB v:=by
 obtain⟨O,g,Y,e1,L,z,U,I,q⟩:=h;obtain rfl:=(List.cons.inj e1).1;refine⟨⟨g.flatten,L,rfl,g,rfl,z,fun i N J=>(aO1 (q i N J (by omega))).1⟩,?_⟩;rw[I,flatten_nil (fun i hi=>(aO1 (q i (by omega) (by omega) hi)).2),List.append_nil]
theorem aDP{v:Value}{b:Nat}:b∈hdB v↔aU v=some b:=by
 unfold hdB;grind
theorem aXO(v:Value):(hdB v).Nodup:=by
 grind[hdB,aU]
theorem bFe{i:Nat}{e:TypeId}{m:Mk}{t:Ty}{xs:List t.den}(h:aIM c w i (aH3 e m t xs)):∃B,mB w c.S (.sl t) (.sl e m) xs [c.hd i] B∧B.Nodup∧ ∀b∈B,fA c i (aH3 e m t xs) b:=by
 cases m with
 | no =>
  obtain⟨f,q,g⟩:=h;exact⟨_,bJf q g,aXO _,fun b hb=>aDP.1 hb⟩
 | sl z I=>exact h
 | pair a b=>exact h
theorem aXP{i:Nat}{e:TypeId}{m:Mk}{t:Ty}{xs:List t.den}{B:List Nat}(h:mB w c.S (.sl t) (.sl e m) xs [c.hd i] B)(f:B.Nodup)(hb:∀b∈B,c.bl i b):aIM c w i (aH3 e m t xs):=by
 cases m with
 | no=>exact(bD2 h).1
 | sl g q=>exact⟨B,h,f,hb⟩
 | pair a b=>exact⟨B,h,f,hb⟩
theorem aXQ{i:Nat}{e:TypeId}{m:Mk}{t:Ty}{xs:List t.den}{B:List Nat}(h:mB w c.S (.sl t) (.sl e m) xs [c.hd i] B)(hb:∀b,c.bl i b→b∈B){b:Nat}(f:fA c i (aH3 e m t xs) b):b∈B:=by
 cases m with
 | no=>rw[(bD2 h).2]; exact aDP.2 f
 | sl g q=>exact hb b f
 | pair a z=>exact hb b f
def aF9:(t:Ty)→Mk→t.den→Nat→List AV×List Obj
 | .pair (.sl t) r,.pair (.sl e m) f,x,n=>(.own n::(aF9 r f x.2 (n+1)).1,aH3 e m t x.1::(aF9 r f x.2 (n+1)).2)
 | .pair a r,.pair .no f,x,n=>(.val a x.1::(aF9 r f x.2 n).1,(aF9 r f x.2 n).2)
 | .pair a r,.no,x,n=>(.val a x.1::(aF9 r .no x.2 n).1,(aF9 r .no x.2 n).2)
 | _,_,_,_=>([],[])
def zP:Ty→Mk→Bool
 | .pair (.sl t) r,.pair (.sl e m) f=>zP r f
 | .pair a r,.pair .no f=>zP r f
 | .pair a r,.no=>zP r .no
 | .unit,.no=>true
 | _,_=>false
def aG3:(t:Ty)→Mk→t.den→Nat→AV×List Obj
 | .sl t,.sl e m,f,n=>(.own n,[aH3 e m t f])
 | t,m,x,n=>(.agg (aF9 t m x n).1,(aF9 t m x n).2)
def aQM:Ty→Mk→Bool
 | .sl _,.sl _ _=>true
 | t,m=>zP t m
structure aK9(w:World)(S:Nat→Prop)(os:List Obj)(hs:List Value)(bs:List (List Nat)):Prop where
 lh:hs.length=os.length
 lb:bs.length=os.length
 ob:∀i (h1:i<os.length) (h2:i<hs.length) (h3:i<bs.length),∃e m t xs,os[i]=aH3 e m t xs∧mB w S (.sl t) (.sl e m) xs [hs[i]] bs[i]
theorem aK9.nil{S:Nat→Prop}:aK9 w S [] [] []:=⟨rfl,rfl,fun i h=>by simp at h⟩
theorem aK9.cons{S:Nat→Prop}{os:List Obj}{hs:List Value}{g:List (List Nat)}(f:aK9 w S os hs g){e:TypeId}{m:Mk}{t:Ty}{xs:List t.den}{v:Value}{B:List Nat}(h:mB w S (.sl t) (.sl e m) xs [v] B):aK9 w S (aH3 e m t xs::os) (v::hs) (B::g):=by
 refine⟨by simp[f.lh],by simp[f.lb],fun i I z q=>?_⟩;cases i with
 | zero=>grind
 | succ i=>exact f.ob i (by simp_all) (by simp_all) (by simp_all)
def bGq(c:Ctx)(n:Nat)(hs:List Value):Prop:=∀i (h:i<hs.length),n+i<c.n∧c.hd (n+i)=hs[i]
theorem aXR{w':World}{c':Ctx}{e:TypeId}{m:Mk}{t:Ty}{xs:List t.den}{v:Value}{B:List Nat}{S:Nat→Prop}(h:mB w S (.sl t) (.sl e m) xs [v] B){n:Nat}(g:n<c'.n)(hd:c'.hd n=v):aO c' w' (.own n) [v]:=by
 obtain⟨J,f,L,e1,I,_⟩:=h;obtain rfl:=(List.cons.inj e1).1;obtain⟨a,k,q,z⟩:=kC I;exact⟨g,by rw[hd],by rw[hd,z]; trivial⟩
theorem bGr{S:Nat→Prop}:∀(t:Ty) (m:Mk) (x:t.den) (cs:List Value) (B:List Nat) (n:Nat),zP t m=true→mB w S t m x cs B →
  ∃hs q,aK9 w S (aF9 t m x n).2 hs q∧B=q.flatten∧ ∀c':Ctx,(∀b,S b→c'.S b)→bGq c' n hs→nD c' w (aF9 t m x n).1 cs:=by
 intro t
 induction t with
 | pair a r iha O =>
  intro m x cs B n hb L;have plain:∀g,zP r g=true→(∃c1 f I,cs=c1++f∧B=I∧bB w S a x.1 c1∧mB w S r g x.2 f I) →
    ∃hs q,aK9 w S (aF9 r g x.2 n).2 hs q∧B=q.flatten∧ ∀c':Ctx,(∀b,S b→c'.S b)→bGq c' n hs→nD c' w (.val a x.1::(aF9 r g x.2 n).1) cs:=by
   rintro g hb ⟨c1,f,I,e1,e2,z,J⟩;obtain⟨hs,q,Y,k2,Z⟩:=O g x.2 f I n hb J;exact⟨hs,q,Y,by grind,fun c' U N=>⟨c1,f,e1,bB.keep U (.refl _ _) _ _ _ z,Z c' U N⟩⟩
  have noP:∀ {w:World} {S:Nat→Prop} {x:(Ty.pair a r).den} {cs:List Value} {B:List Nat},mB w S (.pair a r) .no x cs B→bB w S (.pair a r) x cs∧B= []:=fun h=>h;cases m with
  | sl e m=>grind[zP]
  | no =>
   have hb:zP r .no=true:=(by cases a<;>exact hb);obtain⟨⟨c1,f,e1,z,J⟩,e2⟩:=L;have:=plain .no hb ⟨c1,f,[],e1,e2,z,aIZ J⟩;cases a<;>exact this
  | pair ma g =>
   obtain⟨c1,f,B1,I,e1,e2,z,J⟩:=L;cases ma with
   | no =>
    have hb:zP r g=true:=(by cases a<;>exact hb);obtain⟨q3,e3⟩:=aO1 z;have:=plain g hb ⟨c1,f,I,e1,by simp_all,q3,J⟩;cases a<;>exact this
   | pair _ _=>grind[zP]
   | sl e m =>
    cases a with
    | sl t =>
     have hb:zP r g=true:=hb;obtain⟨hs,q,Y,k2,Z⟩:=O g x.2 f I (n+1) hb J;have q1':=z;obtain⟨v,css,Bs,e3,_⟩:=q1';subst e3;refine⟨v::hs,B1::q,Y.cons z,by grind,fun c' U N=>⟨[v],f,e1,aXR z (N 0 (by simp)).1 (N 0 (by simp)).2,Z c' U fun i hi=>?_⟩⟩;have:=N (i+1) (by grind);grind
    | _=>grind[zP]
 | unit =>
  intro m x cs B n hb L;cases m<;>simp[zP] at hb
  obtain⟨L,e⟩:=aO1 L;exact⟨[],[],aK9.nil,by grind,fun c' _ _=>L⟩
 | _=>grind[zP]
theorem bGs{S:Nat→Prop}{t:Ty}{m:Mk}{x:t.den}{cs:List Value}{B:List Nat}{n:Nat}(hb:aQM t m=true)(z:mB w S t m x cs B) :
  ∃hs f,aK9 w S (aG3 t m x n).2 hs f∧B=f.flatten∧ ∀c':Ctx,(∀b,S b→c'.S b)→bGq c' n hs→aO c' w (aG3 t m x n).1 cs:=by
 have g:zP t m=true→(aG3 t m x n)=(.agg (aF9 t m x n).1,(aF9 t m x n).2)→ ∃hs f,aK9 w S (aG3 t m x n).2 hs f∧B=f.flatten∧ ∀c':Ctx,(∀b,S b→c'.S b)→bGq c' n hs→aO c' w (aG3 t m x n).1 cs:=fun hb e=>by
  simp_all[bGr,aO]
 cases t with
 | sl t =>
  cases m with
  | sl e m =>
   have q:=z;obtain⟨v,J,N,L,_⟩:=q;subst L;exact⟨[v],[B],aK9.nil.cons z,by simp,fun c' O I=>aXR z (I 0 (by simp)).1 (I 0 (by simp)).2⟩
  | _=>grind[aQM,zP]
 | _=>exact g (by cases m<;>exact hb) (by rfl)
def aCx(h:List Obj)(e:TypeId)(m:Mk)(t:Ty):AV→Option (List t.den×List Nat)
 | .nilS=>some ([],[])
 | .own j=>match h[j]? with
  | some (.row g z f)=>if m= .no∧g=e then (aFb z t f).map fun q=>(q,[j]) else none
  | some (.tre g I z f)=>if I=m∧g=e then (aFb z t f).map fun q=>(q,[j]) else none
  | _=>none
 | _=>none
def tT(h:List Obj):(t:Ty)→Mk→List AV→Option (t.den×List Nat)
 | .pair (.sl t) r,.pair (.sl e m) g,v::vs=>match aCx h e m t v,tT h r g vs with
  | some (x,l),some (y,f)=>some ((x,y),l++f)
  | _,_=>none
 | .pair a r,.pair .no g,v::vs=>match AV.as (h.map fX) a v,tT h r g vs with
  | some x,some (y,f)=>some ((x,y),f)
  | _,_=>none
 | .pair a r,.no,v::vs=>match AV.as (h.map fX) a v,tT h r .no vs with
  | some x,some (y,f)=>some ((x,y),f)
  | _,_=>none
 | .unit,.no,[]=>some ((),[])
 | _,_,_=>none
def aBv(h:List Obj):(t:Ty)→Mk→AV→Option (t.den×List Nat)
 | .sl t,.sl e m,v=>aCx h e m t v
 | t,.no,v=>(AV.as (h.map fX) t v).map fun x=>(x,[])
 | t,m,.agg f=>tT h t m f
 | _,_,_=>none
def qI(c:Ctx)(h:List Obj)(l:List Nat)(b:Nat):Prop:=∃j o,j∈l∧h[j]? = some o∧fA c j o b
theorem aQN(I:Good M w0 c h w){l f:List Nat}{B B':List Nat}(h1:B.Nodup)(O:B'.Nodup)(L:∀b∈B,qI c h l b)(Y:∀b∈B',qI c h f b)(hl:(l++f).Nodup):(B++B').Nodup:=by
 refine List.nodup_append.2 ⟨h1,O,fun a q b hb e=>?_⟩;subst e;obtain⟨j,o,k1,Z,N⟩:=L a q;obtain⟨g,z,q1,U,J⟩:=Y a hb;have:=I.sep j g o z a Z U N J;grind
theorem xB{l f:List Nat}(hs:∀j∈l,j∈f){b:Nat}(z:qI c h l b):qI c h f b:=by
 obtain⟨j,o,q,g⟩:=z;exact⟨j,o,hs j q,g⟩
theorem aNN(J:Good M w0 c h w){e:TypeId}{m:Mk}{t:Ty}{v:AV}{x:List t.den}{l:List Nat}{cs:List Value}(f:aCx h e m t v=some (x,l))(z:aO c w v cs) :
  ∃B,mB w c.S (.sl t) (.sl e m) x cs B∧B.Nodup∧ ∀b∈B,qI c h l b:=by
 cases v with
 | nilS =>
  simp only[aCx,Option.some.injEq,Prod.mk.injEq] at f;obtain⟨rfl,rfl⟩:=f;simp only[aO] at z;exact⟨[],⟨.slice none 0 0,[],[],z,World.ownsRow_nil w 0 e t.cells,rfl,rfl,rfl,fun i h=>by simp at h⟩,List.nodup_nil,fun b hb=>by cases hb⟩
 | own j =>
  simp only[aO] at z;obtain⟨_,rfl,_⟩:=z;have q:∀(xs:List t.den),h[j]? = some (aH3 e m t xs)→ ∃B,mB w c.S (.sl t) (.sl e m) xs [c.hd j] B∧B.Nodup∧ ∀b∈B,qI c h [j] b:=fun xs g=>by
   obtain⟨B,h1,U,O⟩:=bFe (J.objs j _ g);exact⟨B,h1,U,fun b hb=>⟨j,_,by simp,g,O b hb⟩⟩
  simp only[aCx] at f;split at f
  ·rename_i L I xs g;split at f
   ·rename_i hc;obtain⟨rfl,rfl⟩:=hc;cases hcast:aFb I t xs with
    | none=>simp_all
    | some Y =>
     obtain⟨rfl,rfl⟩:=aF6 hcast;rw[hcast] at f;simp only[Option.map_some,Option.some.injEq,Prod.mk.injEq] at f;obtain⟨rfl,rfl⟩:=f;exact q _ g
   grind
  ·rename_i L m' I xs g;split at f
   ·rename_i hc;obtain⟨rfl,rfl⟩:=hc;cases hcast:aFb I t xs with
    | none=>simp_all
    | some Y =>
     obtain⟨rfl,rfl⟩:=aF6 hcast;rw[hcast] at f;simp only[Option.map_some,Option.some.injEq,Prod.mk.injEq] at f;obtain⟨rfl,rfl⟩:=f;obtain⟨B,q1,Z,N⟩:=J.objs j _ g;exact⟨B,q1,Z,fun b hb=>⟨j,_,by simp,g,N b hb⟩⟩
   grind
  grind
 | _=>grind[aCx]
theorem bCC(f:Good M w0 c h w){t:Ty}{v:AV}{x:t.den}{cs:List Value}(q:AV.as (h.map fX) t v=some x)(g:aO c w v cs):bB w c.S t x cs :=
 bB.keep aQD (.refl _ _) _ _ _ (bKU f.frz t v x cs q g).1
theorem aNO(hg:Good M w0 c h w):∀(t:Ty) (m:Mk) (vs:List AV) (x:t.den) (l:List Nat) (cs:List Value),tT h t m vs=some (x,l)→l.Nodup→nD c w vs cs →
  ∃B,mB w c.S t m x cs B∧B.Nodup∧ ∀b∈B,qI c h l b:=by
 intro t
 induction t with
 | pair a r iha U =>
  intro m vs x l cs f O N;cases vs with
  | nil=>grind[tT]
  | cons v vs =>
   simp only[nD] at N;obtain⟨c1,L,e1,h1,h2⟩:=N;subst e1;have plain:∀g,(match AV.as (h.map fX) a v,tT h r g vs with|some x,some (y,q)=>some ((x,y),q)|_,_=>none)=some (x,l)→ ∃B,bB w c.S a x.1 c1∧mB w c.S r g x.2 L B∧B.Nodup∧ ∀b∈B,qI c h l b:=fun g f=>by
    split at f
    ·rename_i xa ya q k1 k2;simp only[Option.some.injEq,Prod.mk.injEq] at f;obtain⟨rfl,rfl⟩:=f;grind[bCC]
    grind
   cases m with
   | sl e m=>grind[tT]
   | no =>
    have f:(match AV.as (h.map fX) a v,tT h r .no vs with|some x,some (y,q)=>some ((x,y),q)|_,_=>none)=some (x,l):=(by cases a<;>exact f);obtain⟨B,J,I,z,q4⟩:=plain .no f;obtain⟨q5,e5⟩:=aO1 I;subst e5;exact⟨[],⟨⟨c1,L,rfl,J,q5⟩,rfl⟩,z,q4⟩
   | pair ma g =>
    cases ma with
    | no =>
     have f:(match AV.as (h.map fX) a v,tT h r g vs with|some x,some (y,q)=>some ((x,y),q)|_,_=>none)=some (x,l):=(by cases a<;>exact f);obtain⟨B,J,I,z,q4⟩:=plain g f;exact⟨B,⟨c1,L,[],B,rfl,rfl,aIZ J,I⟩,z,q4⟩
    | pair _ _=>grind[tT]
    | sl e m =>
     cases a with
     | sl t =>
      simp only[tT] at f;split at f
      ·rename_i xa la ya lb k1 k2;simp only[Option.some.injEq,Prod.mk.injEq] at f;obtain⟨rfl,rfl⟩:=f;have Z:=List.nodup_append.1 O;obtain⟨B1,p1,p2,p3⟩:=aNN hg k1 h1;obtain⟨B2,J,I,z⟩:=U g vs _ _ L k2 Z.2.1 h2;refine⟨B1++B2,⟨c1,L,B1,B2,rfl,rfl,p1,J⟩,aQN hg p2 I p3 z O,fun b hb=>?_⟩;rcases List.mem_append.1 hb with hb|hb
       ·exact xB (fun j Y=>List.mem_append_left _ Y) (p3 b hb)
       ·exact xB (fun j Y=>List.mem_append_right _ Y) (z b hb)
      grind
     | _=>grind[tT]
 | unit =>
  intro m vs x l cs f O N;cases m<;>cases vs<;>simp[tT] at f
  subst f;exact⟨[],⟨N,rfl⟩,List.nodup_nil,fun b hb=>by cases hb⟩
 | _=>grind[tT]
theorem aUP(g:Good M w0 c h w){t:Ty}{m:Mk}{v:AV}{x:t.den}{l:List Nat}{cs:List Value}(f:aBv h t m v=some (x,l))(z:l.Nodup)(q:aO c w v cs) :
  ∃B,mB w c.S t m x cs B∧B.Nodup∧ ∀b∈B,qI c h l b:=by
 cases m with
 | no =>
  have f:(AV.as (h.map fX) t v).map (fun x=>(x,([]:List Nat)))=some (x,l):=by cases t<;>exact f
  cases I:AV.as (h.map fX) t v with
  | none=>simp_all
  | some y =>
   rw[I] at f;simp only[Option.map_some,Option.some.injEq,Prod.mk.injEq] at f;obtain⟨rfl,rfl⟩:=f;grind[aIZ,bCC,List.nodup_nil]
 | sl e m =>
  cases t with
  | sl t=>exact aNN g f q
  | pair a r=>cases v<;>first|grind[aBv]|exact aNO g _ _ _ _ _ _ f z (by grind[aO])
  | unit=>cases v<;>first|grind[aBv]|exact aNO g _ _ _ _ _ _ f z (by simpa [aO] using q)
  | _=>cases v<;>first|grind[aBv]|grind[aBv,tT]
 | pair N L =>
  cases t<;>cases v<;>first|grind[aBv]|exact aNO g _ _ _ _ _ _ f z (by simpa [aO] using q)|(rename_i J; cases J<;>simp[aBv,tT] at f)
end
end Go.Vc
namespace Go.Vc
open Go.RowKit
def qJ:List Nat→List Obj→List Obj
 | [],h=>h
 | i::r,h=>qJ r (h.set i .dead)
theorem sW:∀(l:List Nat) (h:List Obj),(qJ l h).length=h.length
 | [],h=>rfl
 | i::r,h=>by rw[qJ,sW r]; simp
theorem aEi:∀(l:List Nat) (h:List Obj) (i:Nat),i∉l→(qJ l h)[i]? = h[i]?
 | [],h,i,_=>rfl
 | j::r,h,i,f=>by
  simp only[List.mem_cons,not_or] at f;rw[qJ,aEi r _ i f.2,List.getElem?_set_ne (fun e=>f.1 e.symm)]
theorem aFr:∀(l:List Nat) (h:List Obj) (i:Nat) (o:Obj),i∈l→(qJ l h)[i]? = some o→o= .dead
 | [],h,i,o,hi,_=>by cases hi
 | j::r,h,i,o,hi,f=>by
  rw[qJ] at f;by_cases g:i∈r
  ·exact aFr r _ i o g f
  ·rw[aEi r _ i g] at f;have:i=j:=(by rcases List.mem_cons.1 hi with h|h; exact h; exact absurd h g);subst this;by_cases q:i<h.length
   ·simp[q] at f; exact f.symm
   ·rw[List.getElem?_eq_none (by simp; omega)] at f; cases f
section
variable {P:Program} {E:Env} {T:Tab} {M:Perm} {w0:World} {c:Ctx} {h:List Obj} {w:World}
def Ctx.pushB(c:Ctx)(v:Value)(B:Nat→Prop):Ctx:=⟨c.S,fun i=>if i=c.n then v else c.hd i,c.n+1,fun i=>if i=c.n then B else c.bl i⟩
theorem Ctx.le_pushB(c:Ctx)(v:Value)(B:Nat→Prop):c.le (c.pushB v B):=⟨fun _ h=>h,Nat.le_succ _,fun i hi=>by grind[pushB,Nat.ne_of_lt]⟩
theorem Good.remake(f:Good M w0 c h w)(l:List Nat){w':World}{o:Obj}{v':Value}{B:Nat→Prop}(hos:w'.os=w.os)(htp:w'.tape=w.tape)(hout:w'.output=w.output)(hsz:w.heap.size≤w'.heap.size)
  (hsame:∀b,b<w.heap.size→ ¬qI c h l b→w'.heap[b]? = w.heap[b]?) (hob:aIM (c.pushB v' B) w' c.n o)
  (Z:∀b,fA (c.pushB v' B) c.n o b→qI c h l b∨(w.heap.size≤b∧b<w'.heap.size)) :
  Good M w0 (c.pushB v' B) (qJ l h++ [o]) w'∧eI c w (c.pushB v' B) w':=by
 have hany:∀b,qI c h l b→(w0.heap.size≤b∨M.wr b)∧b<w.heap.size∧ ¬c.S b:=fun b ⟨j,q,_,h2,h3⟩=>f.own j q b h2 h3;have hl:eI c w (c.pushB v' B) w':=⟨c.le_pushB v' B,fun b hb=>hsame b (f.sfin b hb) (fun ha=>(hany b ha).2.2 hb)⟩;have hcase:∀j o',(qJ l h++ [o])[j]? = some o'→(h[j]? = some o'∧j<c.n∧j∉l)∨(j=c.n∧o'=o)∨o'= .dead:=fun j o' hj=>by
  have hkl:=sW l h;rw[f.n];rcases Nat.lt_trichotomy j h.length with hlt|heq|hgt
  ·grind[List.getElem?_append_left,aFr,aEi]
  all_goals grind
 have J:∀j q,j<c.n→fA (c.pushB v' B) j q=fA c j q:=fun j q hj=>gT hl.le (by simp[Ctx.pushB,Nat.ne_of_lt hj]) hj q;have hfar:∀j q b,h[j]? = some q→j∉l→fA c j q b→ ¬qI c h l b:=fun j q b hj hn hb ⟨j',o',O,h2,h3⟩=>hn (f.sep j j' q o' b hj h2 hb h3▸O);refine⟨⟨by simp[Ctx.pushB,f.n,sW],⟨hos.trans f.keeps.os,htp.trans f.keeps.tape,hout.trans f.keeps.output,Nat.le_trans f.keeps.size hsz,fun b hlt hM=>?_⟩,fun b hb=>Nat.lt_of_lt_of_le (f.sfin b hb) hsz,f.src,fun j o' hj=>?_,fun j o' b hj I=>?_,fun j k q ok b hj hk' Y z=>?_,aCs f.root hl.le⟩,hl⟩
 ·rw[hsame b (Nat.lt_of_lt_of_le hlt f.keeps.size) (fun ha=>?_)]
  ·exact f.keeps.block b hlt hM
  grind
 ·rcases hcase j o' hj with⟨g,N,hne⟩|⟨ej,eo⟩|eo
  ·exact(f.objs j o' g).keep hl N (by simp[Ctx.pushB,Nat.ne_of_lt N]) (fun b I=>hsame b (f.own j o' b g I).2.1 (hfar j o' b g hne I))
  ·simp_all
  ·subst eo; trivial
 ·rcases hcase j o' hj with⟨g,N,hne⟩|⟨ej,eo⟩|eo
  ·rw[J j o' N] at I;obtain⟨O,h2,h3⟩:=f.own j o' b g I;exact⟨O,Nat.lt_of_lt_of_le h2 hsz,h3⟩
  ·subst ej; subst eo;rcases Z b I with O|O
   ·obtain⟨q1,q2,q3⟩:=hany b O;exact⟨q1,Nat.lt_of_lt_of_le q2 hsz,q3⟩
   ·exact⟨.inl (Nat.le_trans f.keeps.size O.1),O.2,fun hS=>by have:=f.sfin b hS; omega⟩
  ·subst eo; cases I
 ·rcases hcase j q hj with⟨g,N,hne⟩|⟨ej,eo⟩|eo
  ·rw[J j q N] at Y;rcases hcase k ok hk' with⟨U,hkn,hne'⟩|⟨ek,L⟩|L
   ·rw[J k ok hkn] at z;exact f.sep j k q ok b g U Y z
   ·subst ek; subst L;rcases Z b z with O|O
    ·grind
    ·have:=(f.own j q b g Y).2.1;omega
   ·subst L; cases z
  ·subst ej; subst eo;rcases hcase k ok hk' with⟨U,hkn,hne'⟩|⟨ek,L⟩|L
   ·rw[J k ok hkn] at z;rcases Z b Y with O|O
    ·grind
    ·have:=(f.own k ok b U z).2.1;omega
   ·omega
   ·subst L; cases z
  ·subst eo; cases Y
theorem aYP{α:Type}{l:List α}{i:Nat}(h:i<l.length)(d:α):l.getD i d=l[i]:=by simp_all
theorem aLa{α:Type}{l:List (List α)}{i:Nat}(h:i<l.length){a:α}(f:a∈l[i]):a∈l.flatten:=List.mem_flatten.2 ⟨_,List.getElem_mem h,f⟩
theorem aLb{α:Type}:∀ {l:List (List α)},l.flatten.Nodup→(∀i (h:i<l.length),(l[i]).Nodup)∧ ∀i j (h:i<l.length) (h':j<l.length) a,a∈l[i]→a∈l[j]→i=j
 | [],_=>⟨fun i h=>by simp at h,fun i j h=>by simp at h⟩
 | x::r,f=>by
  rw[List.flatten_cons,List.nodup_append] at f;obtain⟨J,z,g⟩:=f;obtain⟨L,I⟩:=aLb z;refine⟨fun i h=>?_,fun i j h h' a q hb=>?_⟩
  ·grind
  ·cases i with
   | zero =>
    cases j with
    | zero=>rfl
    | succ j=>exact absurd rfl (g a q a (aLa (by simpa using h') (by simp_all)))
   | succ i =>
    cases j with
    | zero=>exact absurd rfl (g a hb a (aLa (by simpa using h) (by simp_all)))
    | succ j=>grind
theorem aJZ{α:Type}{l:List (List α)}{k:Nat}{x:List α}:(l.set k []).flatten.Sublist l.flatten:=by
 induction l generalizing k with
 | nil=>simp
 | cons a r f =>
  cases k with
  | zero=>simp
  | succ k=>simp_all
theorem Good.opened(J:Good M w0 c h w){i:Nat}{e:TypeId}{m:Mk}{t:Ty}{xs:List t.den}(ho:h[i]? = some (.tre e m t xs)){k:Nat}(hk:k<xs.length)(hb:aQM t m=true) :
  ∃c',eI c w c' w∧Good M w0 c' (h.set i (.trh e m t xs k (aG3 t m (xs.getD k t.zero) h.length).1)++(aG3 t m (xs.getD k t.zero) h.length).2) w:=by
 obtain⟨B,⟨v,css,Bs,e1,h1,h2,h3,h4,h5⟩,hnd,hbl⟩:=J.objs i _ ho;obtain rfl:c.hd i=v:=(List.cons.inj e1).1;have hil:=yS ho;have Y:i<c.n:=by rw[J.n]; exact hil
 subst h4;have hkB:k<Bs.length:=by omega
 have hkc:k<css.length:=by omega
 rw[aYP hk];obtain⟨hs,bs,k1,k2,k3⟩:=bGs (n:=h.length) hb (h5 k hk hkc hkB);generalize (aG3 t m xs[k] h.length).1=av at k3 ⊢;generalize (aG3 t m xs[k] h.length).2=os at k1 ⊢;have hndB:=(List.nodup_append.1 hnd);obtain⟨np1,np2⟩:=aLb hndB.2.1;obtain⟨nq1,nq2⟩:=aLb (l:=bs) (k2▸np1 k hkB)
 let c':Ctx:=⟨c.S,fun j=>if j<c.n then c.hd j else hs.getD (j-c.n) Go.undef,c.n+os.length,fun j b=>if j<c.n then (if j=i then c.bl i b∧b∉Bs[k] else c.bl j b) else b∈bs.getD (j-c.n) []⟩
 have hhd:∀j,j<c.n→c'.hd j=c.hd j:=fun j Z=>by grind
 have hle:c.le c':=⟨fun _ h=>h,Nat.le_add_right _ _,hhd⟩;have hl:eI c w c' w:=⟨hle,.refl _ _⟩;have hH:bGq c' h.length hs:=fun q hq=>by
  have:=k1.lh;refine⟨by simp only[c']; rw[J.n]; omega,?_⟩;simp only[c'];rw[if_neg (by rw[J.n]; omega),J.n,Nat.add_sub_cancel_left,aYP hq]
 have hcase:∀j z,(h.set i (.trh e m t xs k av)++os)[j]? = some z→(h[j]? = some z∧j<c.n∧j≠i)∨(j=i∧z= .trh e m t xs k av)∨ ∃q,∃hq:q<os.length,j=c.n+q∧z=os[q]:=fun j z Z=>by
  rw[J.n];grind
 have I:∀j z,j<c.n→j≠i→fA c' j z=fA c j z:=fun j z Z L=>gT hle (by grind) Z z;have hnew:∀q (hq:q<os.length) (hq3:q<bs.length) b,fA c' (c.n+q) os[q] b→b∈bs[q]:=fun q hq hq3 b hob=>by
  have hqh:q<hs.length:=by rw[k1.lh]; exact hq
  obtain⟨e',m',t',ys,r1,r2⟩:=k1.ob q hq hqh hq3;rw[r1] at hob;have hh:=(hH q hqh).2;rw[← J.n] at hh;have hB:∀b,c'.bl (c.n+q) b→b∈bs[q]:=fun b hb=>by
   grind
  exact aXQ (c:=c') (w:=w) (by grind) hB hob
 have hBk:∀q (hq:q<bs.length) b,b∈bs[q]→b∈Bs[k]:=fun q hq b hb=>by grind[aLa]
 have hBi:∀b,b∈Bs[k]→c.bl i b:=fun b hb=>hbl b (List.mem_append_right _ (aLa hkB hb));have hlb:=k1.lb;refine⟨c',hl,⟨by simp[c',J.n],J.keeps,J.sfin,J.src,fun j z Z=>?_,fun j z b Z hb=>?_,fun j j' z N b Z hj' g f=>?_,aCs J.root hle⟩⟩
 ·rcases hcase j z Z with⟨Z,O,L⟩|⟨rfl,rfl⟩|⟨q,hq,rfl,rfl⟩
  ·exact(J.objs j z Z).keep hl O (by grind) (fun _ _=>rfl)
  ·refine⟨css,Bs.set k [],⟨by grind,h2,by simp[h3],hk,fun x hx q1 q2 L=>?_,fun q=>by simp,fun q=>⟨k3 c' (fun _ h=>h) hH,mB.length _ _ _ _ _ (h5 k hk hkc hkB)⟩,?_,fun b hb=>?_⟩⟩
   ·grind
   ·rw[hhd j Y];exact hnd.sublist (List.Sublist.append (List.Sublist.refl _) (aJZ (x:=[])))
   ·rw[hhd j Y] at hb;have hin':b∈hdB (c.hd j)++Bs.flatten:=by
     rcases List.mem_append.1 hb with hb|hb
     ·grind
     ·exact List.mem_append_right _ ((aJZ (x:=[])).subset hb)
    simp only[c',Y,if_true];refine⟨hbl b hin',fun hk'=>?_⟩;rcases List.mem_append.1 hb with hb|hb
    ·exact hndB.2.2 b hb b (aLa hkB hk') rfl
    ·obtain⟨l,hl1,hl2⟩:=List.mem_flatten.1 hb;obtain⟨x,hx,rfl⟩:=List.mem_iff_getElem.1 hl1;grind
  ·have hqh:q<hs.length:=(by rw[k1.lh]; exact hq);obtain⟨e',m',t',ys,r1,r2⟩:=k1.ob q hq hqh (by omega);have hh:=(hH q hqh).2;rw[← J.n] at hh;rw[r1];refine aXP (B:=bs[q]'(by omega)) (by grind) (nq1 q (by omega)) fun b hb=>?_;simp only[c'];rw[if_neg (by omega),Nat.add_sub_cancel_left,aYP (by omega)];exact hb
 ·rcases hcase j z Z with⟨Z,O,L⟩|⟨rfl,rfl⟩|⟨q,hq,rfl,rfl⟩
  ·rw[I j z O L] at hb; exact J.own j z b Z hb
  ·have hb:c'.bl j b:=hb;simp only[c',Y,if_true] at hb;exact J.own j _ b ho hb.1
  ·exact J.own i _ b ho (hBi b (hBk q (by omega) b (hnew q hq (by omega) b hb)))
 ·rcases hcase j z Z with⟨hj1,O,L⟩|⟨ej,eo⟩|⟨q,hq,ej,eo⟩<;>rcases hcase j' N hj' with⟨hk',hkn,U⟩|⟨ek,eo'⟩|⟨q',hq',ek,eo'⟩
  ·rw[I j z O L] at g;rw[I j' N hkn U] at f;exact J.sep j j' z N b hj1 hk' g f
  ·subst ek; subst eo';rw[I j z O L] at g;have f:c'.bl j' b:=f;simp only[c',Y,if_true] at f;exact J.sep j j' z _ b hj1 ho g f.1
  ·subst ek; subst eo';rw[I j z O L] at g;exact absurd (J.sep j i z _ b hj1 ho g (hBi b (hBk q' (by omega) b (hnew q' hq' (by omega) b f)))) L
  ·subst ej; subst eo;rw[I j' N hkn U] at f;have g:c'.bl j b:=g;simp only[c',Y,if_true] at g;exact(J.sep j' j N _ b hk' ho f g.1).symm
  ·omega
  ·subst ej; subst eo; subst ek; subst eo';have g:c'.bl j b:=g;grind
  ·subst ej; subst eo;rw[I j' N hkn U] at f;exact absurd (J.sep j' i N _ b hk' ho f (hBi b (hBk q (by omega) b (hnew q hq (by omega) b g)))) U
  ·subst ej; subst eo; subst ek; subst eo';have f:c'.bl j' b:=f;grind
  grind
theorem Good.closed(J:Good M w0 c h w){i:Nat}{e:TypeId}{m:Mk}{t:Ty}{xs:List t.den}{k:Nat}{v:AV}(ho:h[i]? = some (.trh e m t xs k v)){x:t.den}{l:List Nat}(ha:aBv h t m v=some (x,l))(hnl:l.Nodup)(hil:i∉l) :
  ∃c',eI c w c' w∧Good M w0 c' ((qJ l h).set i (.tre e m t (xs.set k x))) w:=by
 obtain⟨css,Bs,q⟩:=J.objs i _ ho;have hlc:=q.lc;have hlb:=q.lb;have hk:=q.kl;have hlt:=yS ho;have hin:i<c.n:=by rw[J.n]; exact hlt
 obtain⟨hv1,hv2⟩:=q.hv (by omega);obtain⟨B,r1,r2,r3⟩:=aUP J ha hnl hv1
 let c':Ctx:=⟨c.S,c.hd,c.n,fun j b=>if j=i then c.bl i b∨qI c h l b else c.bl j b⟩
 have hle:c.le c':=⟨fun _ h=>h,Nat.le_refl _,fun _ _=>rfl⟩;have hl:eI c w c' w:=⟨hle,.refl _ _⟩;have hcase:∀j g,((qJ l h).set i (.tre e m t (xs.set k x)))[j]? = some g→(h[j]? = some g∧j<c.n∧j≠i∧j∉l)∨(j=i∧g= .tre e m t (xs.set k x))∨g= .dead:=fun j g I=>by
  by_cases e':i=j
  ·grind
  ·rw[List.getElem?_set_ne e'] at I;by_cases hm:j∈l
   ·grind[aFr]
   ·rw[aEi l h j hm] at I;exact .inl ⟨I,by rw[J.n]; grind,fun e=>e' e.symm,hm⟩
 have O:∀j g,j<c.n→j≠i→fA c' j g=fA c j g:=fun j g I hne=>gT hle (by grind) I g;have hfar:∀j g b,h[j]? = some g→j∉l→fA c j g b→ ¬qI c h l b:=fun j g b I hn hb ⟨j',o',Y,h2,h3⟩=>hn (J.sep j j' g o' b I h2 hb h3▸Y);have hsets:∀j (I:j<css.length),(css[j]).length=t.cells:=fun j I=>by
  by_cases e:j=k
  ·simp_all
  ·exact mB.length _ _ _ _ _ (q.el j (by omega) I (by omega) e)
 refine⟨c',hl,⟨by simp[c',J.n,sW],J.keeps,J.sfin,J.src,fun j g I=>?_,fun j g b I hb=>?_,fun j j' g Z b I hj' N f=>?_,J.root⟩⟩
 ·rcases hcase j g I with⟨I,hjn,hne,_⟩|⟨rfl,rfl⟩|rfl
  ·exact(J.objs j g I).keep hl hjn (by grind) (fun _ _=>rfl)
  ·refine⟨hdB (c.hd j)++(Bs.set k B).flatten,⟨c.hd j,css,Bs.set k B,rfl,?_,by grind,by grind,rfl,fun z z1 z2 z3=>?_⟩,?_,fun b hb=>?_⟩
   ·rw[List.length_set]; exact q.row
   ·by_cases ez:k=z
    ·grind
    ·rw[List.getElem_set_ne ez,List.getElem_set_ne ez];exact q.el z (by omega) z2 (by omega) (fun e=>ez e.symm)
   ·have hd:=q.nd;have e3:Bs.set k B=Bs.take k++B::Bs.drop (k+1):=(by simp_all[List.set_eq_take_append_cons_drop,if_pos]);have e4:Bs=Bs.take k++ []::Bs.drop (k+1):=by
     have:=q.hb (by omega);grind[List.take_append_drop,List.drop_eq_getElem_cons]
    rw[e3];rw[e4] at hd;simp only[List.flatten_append,List.flatten_cons,List.nil_append] at hd ⊢;have hp:(hdB (c.hd j)++((Bs.take k).flatten++(B++(Bs.drop (k+1)).flatten))).Perm ((hdB (c.hd j)++((Bs.take k).flatten++(Bs.drop (k+1)).flatten))++B):=by
     grind
    refine hp.nodup_iff.2 (List.nodup_append.2 ⟨hd,r2,fun a ha b hb e=>?_⟩);subst e;have:c.bl j a:=q.bl a (by
     grind)
    exact hfar j _ a ho hil this (r3 a hb)
   ·simp only[c',if_true];rcases List.mem_append.1 hb with hb|hb
    ·exact .inl (q.bl b (List.mem_append_left _ hb))
    ·obtain⟨L,Y,h2⟩:=List.mem_flatten.1 hb;rcases List.mem_or_eq_of_mem_set Y with Y|Y
     ·exact .inl (q.bl b (List.mem_append_right _ (List.mem_flatten.2 ⟨L,Y,h2⟩)))
     simp_all
  ·trivial
 ·rcases hcase j g I with⟨I,hjn,hne,_⟩|⟨rfl,rfl⟩|rfl
  ·rw[O j g hjn hne] at hb; exact J.own j g b I hb
  ·have hb:c'.bl j b:=hb;simp only[c',if_true] at hb;rcases hb with hb|⟨j',o',Y,h2,h3⟩
   ·exact J.own j _ b ho hb
   ·exact J.own j' o' b h2 h3
  ·cases hb
 ·rcases hcase j g I with⟨hj1,hjn,hne,hnl1⟩|⟨ej,eo⟩|eo
  ·rw[O j g hjn hne] at N;rcases hcase j' Z hj' with⟨hk',hkn,hne',hnl2⟩|⟨ek,U⟩|U
   ·rw[O j' Z hkn hne'] at f;exact J.sep j j' g Z b hj1 hk' N f
   ·subst ek; subst U;have f:c'.bl j' b:=f;simp only[c',if_true] at f;rcases f with Y|Y
    ·exact J.sep j j' g _ b hj1 ho N Y
    grind
   ·subst U; cases f
  ·subst ej; subst eo;have N:c'.bl j b:=N;simp only[c',if_true] at N;rcases hcase j' Z hj' with⟨hk',hkn,hne',hnl2⟩|⟨ek,U⟩|U
   ·rw[O j' Z hkn hne'] at f;rcases N with Y|Y
    ·exact(J.sep j' j Z _ b hk' ho f Y).symm
    grind
   ·omega
   ·subst U; cases f
  ·subst eo; cases N
end
end Go.Vc
namespace Go.Vc
open Go.RowKit
def okM:Ty→Mk→Bool
 | .sl t,.sl _ m=>true
 | .pair a r,.pair g f=>okM a g&&okM r f
 | _,.no=>true
 | _,_=>false
def ownRow(h:List Obj)(e:TypeId)(m:Mk)(f:Ty)(j:Nat):Option (List f.den):=(aCx h e m f (.own j)).map (·.1)
def aNP(h:List Obj)(i:Nat):Mk:=match h[i]? with
 | some (.tre _ m _ _)=>m
 | _=>.no
def aI0(E:Env)(h:List Obj)(t:TypeId)(s x:AV):Prop×AV×List Obj :=
 match E.T t with
 | some (.sl f)=>bif f.scalar then zO E h t s x else match x with
  | .own j=>match s with
   | .own i=>match ownRow h (E.el t) (aNP h i) f i,ownRow h (E.el t) (aNP h i) f j with
    | some q,some g=>(i≠j∧bound f (q.length+g.length)∧f.okB=true,.own h.length,qJ [i,j] h++ [aH3 (E.el t) (aNP h i) f (q++g)])
    | _,_=>zO E h t s x
   | .nilS=>match ownRow h (E.el t) (aNP h j) f j with
    | some g=>(bound f g.length∧f.okB=true,.own h.length,qJ [j] h++ [aH3 (E.el t) (aNP h j) f g])
    | none=>zO E h t s x
   | _=>zO E h t s x
  | _=>zO E h t s x
 | _=>zO E h t s x
def aXS(E:Env)(h:List Obj)(t:TypeId)(l cp:AV):Prop×AV×List Obj :=
 match E.dm t with
 | none=>aQK E h t l cp
 | some m=>match E.T t with
  | some (.sl f)=>match aEc l,aEc cp with
   | some n,some k=>(f.okB=true∧okM f m=true∧0≤n∧n≤k∧(f.byt:Int)*k≤281474976710656∧k≤maxLen,.own h.length,h++ [aH3 (E.el t) m f (List.replicate n.toNat f.zero)])
   | _,_=>(False,.junk,h)
  | _=>(False,.junk,h)
def aI1(h:List Obj)(m:Mk)(f:Ty):Nat→List (Nat×AV)→Option (List f.den×List Nat)
 | _,[]=>some ([],[])
 | k,(i,v)::r=>if i=k then match aBv h f m v,aI1 h m f (k+1) r with
   | some (x,l),some (q,g)=>some (x::q,l++g)
   | _,_=>none
  else none
def aHv(E:Env)(h:List Obj)(t:TypeId)(m:Mk)(n:Nat)(ps:List (Nat×AV)):Prop×AV×List Obj :=
 match E.T t with
 | some (.sl f)=>match aI1 h m f 0 ps with
  | some (g,l)=>(f.okB=true∧nodupN l=true∧ps.length=n∧n*f.cells≤16777216∧n≤maxLen,.own h.length,qJ l h++ [aH3 (E.el t) m f g])
  | none=>(False,.junk,h)
 | _=>(False,.junk,h)
where
 nodupN:List Nat→Bool
  | []=>true
  | i::r=> !r.contains i&&nodupN r
def okD(E:Env)(h:List Obj)(t:TypeId)(m:Mk)(ps:List (Nat×AV)):Bool :=
 match E.T t with
 | some (.sl f)=>(aI1 h m f 0 ps).isSome
 | _=>false
section
variable {P:Program} {E:Env} {T:Tab} {M:Perm} {w0:World} {c:Ctx} {h:List Obj} {w:World}
theorem aQO:∀ {l:List Nat},aHv.nodupN l=true→l.Nodup
 | [],_=>List.nodup_nil
 | i::r,hd=>by
  simp only[aHv.nodupN,Bool.and_eq_true,Bool.not_eq_true',List.contains_eq_mem,decide_eq_false_iff_not] at hd;exact List.nodup_cons.2 ⟨hd.1,aQO hd.2⟩
theorem aQP(L:Good M w0 c h w){e:TypeId}{m:Mk}{g:Ty}{j:Nat}{xs:List g.den}(O:j<c.n)(U:one (c.hd j))(J:ownRow h e m g j=some xs) :
  ∃B,mB w c.S (.sl g) (.sl e m) xs [c.hd j] B∧B.Nodup∧ ∀b∈B,qI c h [j] b:=by
 unfold ownRow at J;cases f:aCx h e m g (.own j) with
 | none=>simp_all
 | some p =>
  obtain⟨ys,l⟩:=p;rw[f] at J;cases J;obtain⟨B,Y,N,Z⟩:=aNN L f (cs:=[c.hd j]) (show aO c w (.own j) [c.hd j] from⟨O,rfl,U⟩);refine⟨B,Y,N,fun b hb=>?_⟩;have hl:∀z∈l,z=j:=fun z I=>by
   simp only[aCx] at f;split at f
   ·split at f
    ·rename_i q _ _;cases hc:aFb _ g _ with
     | none=>rw[hc] at f; cases f
     | some y=>rw[hc] at f; simp only[Option.map_some,Option.some.injEq,Prod.mk.injEq] at f; rw[← f.2] at I; simpa using I
    ·cases f
   ·split at f
    ·cases hc:aFb _ g _ with
     | none=>rw[hc] at f; cases f
     | some y=>rw[hc] at f; simp only[Option.map_some,Option.some.injEq,Prod.mk.injEq] at f; rw[← f.2] at I; simpa using I
    ·cases f
   ·cases f
  grind[xB]
theorem aUQ(hE:iF P E){t ty:TypeId}{U:Ty}(ht:E.T t=some (.sl U))(hok:U.okB=true){m:Mk}{S:Nat→Prop}{sv xv:Value}{xs ys:List U.den}{B1 B2:List Nat}
  (h1:mB w S (.sl U) (.sl (E.el t) m) xs [sv] B1) (h2:mB w S (.sl U) (.sl (E.el t) m) ys [xv] B2) (hnd:(B1++B2).Nodup) (hlt:∀b∈B1++B2,b<w.heap.size) (hS:∀b,S b→b<w.heap.size∧b∉B1)
  (hb:bound U (xs.length+ys.length)) :
  ∃v' w' B',(Builtin.append_ #[t,t] ty #[sv,xv]).run P w= .ok v' w'∧w.grownBy w' (aU sv)∧mB w' S (.sl U) (.sl (E.el t) m) (xs++ys) [v'] B'∧B'.Nodup∧(∀b∈B',b∈B1++B2∨(w.heap.size≤b∧b<w'.heap.size))∧ ∃a n k,v'= .slice a n k:=by
 have hd:=hE.el t U ht;obtain⟨e',hd',hTe',hpos⟩:=gJ (hE.T _ _ ht);have:e'=E.el t:=by simp_all
 subst this;have hTe:=hE.T _ _ hTe';obtain⟨i,hi,hsz,hz,hby⟩:=hTe.info;obtain⟨_,cs1,z,e1,o1,l1,b1,rfl,r1⟩:=h1;obtain rfl:=(List.cons.inj e1).1;obtain⟨_,I,f,e2,o2,l2,b2,rfl,r2⟩:=h2;obtain rfl:=(List.cons.inj e2).1;have hsl:=kC o1;have Z:=List.nodup_append.1 hnd;have Y:=List.nodup_append.1 Z.1;have hd12:=List.nodup_append.1 Z.2.1;have keep:∀(w':World) (v':Value),w.grownBy w' (aU sv)→w'.ownsRow 0 (E.el t) U.cells v' (xs.length+ys.length) (cs1.flatten++I.flatten)→(∀b,aU v'=some b→aU sv=some b∨(w.heap.size≤b∧b<w'.heap.size)) →
   ∃B',mB w' S (.sl U) (.sl (E.el t) m) (xs++ys) [v'] B'∧B'.Nodup∧ ∀b∈B',b∈(hdB sv++z.flatten)++(hdB xv++f.flatten)∨(w.heap.size≤b∧b<w'.heap.size):=fun w' v' O hown J=>by
  have hsame:∀b,b<w.heap.size→aU sv≠some b→w'.heap[b]? = w.heap[b]? := fun b hb hne=>O.block b hb (fun e=>hne e.symm);have hin1:∀q (hq:q<z.length) b,b∈z[q]→b∈z.flatten:=fun q hq b hb=>aLa hq hb;have hin2:∀q (hq:q<f.length) b,b∈f[q]→b∈f.flatten:=fun q hq b hb=>aLa hq hb;have hSs:aCq S w w':=fun b hb=>hsame b (hS b hb).1 (fun e=>(hS b hb).2 (List.mem_append_left _ (aDP.2 e)));have k1:∀b∈z.flatten,w'.heap[b]? = w.heap[b]? := fun b hb=>hsame b (hlt b (List.mem_append_left _ (List.mem_append_right _ hb))) (fun e=>Y.2.2 b (aDP.2 e) b hb rfl);have k2:∀b∈f.flatten,w'.heap[b]? = w.heap[b]? := fun b hb=>hsame b (hlt b (List.mem_append_right _ (List.mem_append_right _ hb))) (fun e=>Z.2.2 b (List.mem_append_left _ (aDP.2 e)) b (List.mem_append_right _ hb) rfl);refine⟨hdB v'++(z++f).flatten,⟨v',cs1++I,z++f,rfl,by grind,by grind,by grind,rfl,fun q q1 q2 q3=>?_⟩,?_,fun b hb=>?_⟩
  ·by_cases hlt':q<xs.length
   ·rw[List.getElem_append_left hlt',List.getElem_append_left (by omega),List.getElem_append_left (by omega)];exact mB.keep (fun _ h=>h) hSs _ _ _ _ _ (fun b hb=>k1 b (hin1 q (by omega) b hb)) (r1 q hlt' (by omega) (by omega))
   ·have hq:q-xs.length<ys.length:=(by grind);rw[List.getElem_append_right (by omega),List.getElem_append_right (by omega),List.getElem_append_right (by omega)];have:=r2 (q-xs.length) hq (by omega) (by omega);have e1:I[q-cs1.length]'(by omega)=I[q-xs.length]'(by omega):=(by grind);have e2:f[q-z.length]'(by omega)=f[q-xs.length]'(by omega):=(by grind);rw[e1,e2];exact mB.keep (fun _ h=>h) hSs _ _ _ _ _ (fun b hb=>k2 b (hin2 (q-xs.length) (by omega) b hb)) this
  ·rw[List.flatten_append];refine List.nodup_append.2 ⟨aXO _,List.nodup_append.2 ⟨Y.2.1,hd12.2.1,fun a ha b hb=>Z.2.2 a (List.mem_append_right _ ha) b (List.mem_append_right _ hb)⟩,fun a ha b hb e=>?_⟩;subst e;have hm:a∈(hdB sv++z.flatten)++(hdB xv++f.flatten):=by
    grind
   rcases J a (aDP.1 ha) with h1|h1
   ·rcases List.mem_append.1 hb with hb|hb
    ·exact Y.2.2 a (aDP.2 h1) a hb rfl
    ·exact Z.2.2 a (List.mem_append_left _ (aDP.2 h1)) a (List.mem_append_right _ hb) rfl
   grind
  ·rcases List.mem_append.1 hb with hb|hb
   ·grind[aDP,List.mem_append_left]
   grind
 have o1':=o1;rw[← hsz] at o1;have hnl:I.flatten.length=ys.length*U.cells:=by grind[nF,mB.length]
 rcases o2.2 with⟨rfl,h0⟩|⟨g2,cap2,cur2,rfl,_,hheap2,hle2,hcap2,hsz2,htake2⟩
 ·have hy:ys= []:=List.eq_nil_of_length_eq_zero h0;subst hy;have hc2:I= []:=List.eq_nil_of_length_eq_zero (by omega);subst hc2;have hrun:=aJY (P:=P) (ty:=ty) hd hi o1 (a:=none) (cap:=0) (Nat.zero_le _);have O:w.grownBy w (aU sv):=⟨rfl,rfl,rfl,Nat.le_refl _,fun _ _ _=>rfl⟩;grind
 ·have hone:∀u∈I.flatten,u.oneCell'=true:=fun u hu=>by
   obtain⟨L,hL1,hL2⟩:=List.mem_flatten.1 hu;obtain⟨q,hq,rfl⟩:=List.mem_iff_getElem.1 hL1;have:=bB.one _ _ _ (mB.toC (S':=fun _=>True) (fun _ _=>trivial) _ _ _ _ _ (fun _ _=>trivial) (r2 q (by omega) hq (by omega))) u hL2;cases u<;>first|rfl|exact this.elim
  have hcell:∀j u,I.flatten[j]? = some u→w.cell? ((⟨g2,0,none⟩:Addr).add j)=some u:=fun j u hj=>by
   rw[xV];simp only[World.cell?,hheap2,Nat.zero_add];grind
  obtain⟨v',w',hrun,N,O,_,J⟩:=run_append_own_at (P:=P) w 0 t ty (E.el t) i (oS U) U.cells i.bytes hd hi (hz hok) hsz rfl (by grind[aBJ,nE]) hpos sv xs.length cs1.flatten o1'
   ⟨g2,0,none⟩ ys.length cap2 I.flatten hnl hcell hone hb.1 (Nat.le_trans (Nat.mul_le_mul_left _ hby) hb.2) (Nat.zero_le _)
  have hsl':=kC N;rw[← wW hsl] at O J;rw[← wW hsl'] at J;obtain⟨B',q1,q2,q3⟩:=keep w' v' O N (fun b hb=>by
   rcases J with J|J
   ·grind
   ·right
    rw[J] at hb;cases hb;refine⟨Nat.le_refl _,?_⟩;rcases N.2 with⟨rfl,_⟩|⟨g,cp,cur,rfl,_,hheap,_⟩
    all_goals grind[aU,Array.getElem?_eq_some_iff])
  exact⟨v',w',B',hrun,O,q1,q2,q3,hsl'⟩
theorem bJg{v':Value}(h:∃a n m,v'= .slice a n m){w':World}{B:Nat→Prop}:aX (c.pushB v' B) w' (.own c.n) v':=by
 obtain⟨a,n,m,rfl⟩:=h;refine⟨⟨Nat.lt_succ_self c.n,?_,?_⟩,(fun h=>by cases h),(fun _ f=>by simp)⟩
 ·show [Value.slice a n m]= [if c.n=c.n then Value.slice a n m else c.hd c.n];simp_all
 ·show one (if c.n=c.n then Value.slice a n m else c.hd c.n);rw[if_pos rfl]; trivial
theorem Good.taken(L:Good M w0 c h w)(l:List Nat){w':World}{e:TypeId}{m:Mk}{t:Ty}{xs:List t.den}{v':Value}{B':List Nat}(I:w'.os=w.os)(q:w'.tape=w.tape)(g:w'.output=w.output)(J:w.heap.size≤w'.heap.size)
  (hsame:∀b,b<w.heap.size→ ¬qI c h l b→w'.heap[b]? = w.heap[b]?) (O:mB w' c.S (.sl t) (.sl e m) xs [v'] B') (z:B'.Nodup) (N:∀b∈B',qI c h l b∨(w.heap.size≤b∧b<w'.heap.size)) (hv:∃a n k,v'= .slice a n k) :
  ∃c',eI c w c' w'∧Good M w0 c' (qJ l h++ [aH3 e m t xs]) w'∧aX c' w' (.own h.length) v':=by
 have e1:(c.pushB v' (· ∈ B')).hd c.n=v':=by simp[Ctx.pushB]
 have Y:(c.pushB v' (· ∈ B')).bl c.n=(· ∈ B'):=by simp[Ctx.pushB]
 have f:mB w' (c.pushB v' (· ∈ B')).S (.sl t) (.sl e m) xs [(c.pushB v' (· ∈ B')).hd c.n] B':=by rw[e1]; exact O
 obtain⟨g1,U⟩:=L.remake l (o:=aH3 e m t xs) (v':=v') (B:=(· ∈ B')) I q g J hsame (aXP f z (fun b hb=>by simp_all)) (fun b hb=>N b (aXQ f (fun b hb=>by simp_all) hb));exact⟨_,U,g1,by rw[← L.n]; exact bJg hv⟩
theorem bCD(hE:iF P E)(g:Good M w0 c h w){t ty:TypeId}{s x:AV}{sv xv:Value}(hs:aX c w s sv)(hx:aX c w x xv)(hc:(aI0 E h t s x).1) :
  ∃v' w' c',(Builtin.append_ #[t,t] ty #[sv,xv]).run P w= .ok v' w'∧eI c w c' w'∧Good M w0 c' (aI0 E h t s x).2.2 w'∧aX c' w' (aI0 E h t s x).2.1 v':=by
 have old:=fun hc=>bE9 (P:=P) (t:=t) (ty:=ty) hE g hs hx hc;unfold aI0 at hc ⊢;cases ht:E.T t with
 | none=>simp_all
 | some tt =>
  cases tt with
  | sl ct =>
   simp only[ht] at hc ⊢;cases hsc:ct.scalar with
   | true=>simp_all
   | false =>
    simp only[hsc,cond_false] at hc ⊢;cases x with
    | own j =>
     obtain⟨hj,rfl⟩:=aDO hx;have hj1:one (c.hd j):=(by obtain⟨hh,_⟩:=hx; grind[aO]);cases s with
     | own i =>
      obtain⟨hi,rfl⟩:=aDO hs;have hi1:one (c.hd i):=(by obtain⟨hh,_⟩:=hs; grind[aO]);simp only at hc ⊢;split at hc
      ·rename_i xs ys hxs L;obtain⟨hne,hb,J⟩:=hc;obtain⟨B1,p1,p2,p3⟩:=aQP g hi hi1 hxs;obtain⟨B2,q1,q2,O⟩:=aQP g hj hj1 L;have hnd:=aQN g p2 q2 p3 O (by grind);have q:∀b∈B1++B2,qI c h [i,j] b:=fun b hb=>by
        rcases List.mem_append.1 hb with hb|hb
        ·exact xB (fun z hz=>by simp at hz; simp[hz]) (p3 b hb)
        ·exact xB (fun z hz=>by simp at hz; simp[hz]) (O b hb)
       obtain⟨v',w',B',Y,f,r1,r2,r3,r4⟩:=aUQ (P:=P) (ty:=ty) hE ht J p1 q1 hnd (fun b hb=>by obtain⟨N,Z,_,U,I⟩:=q b hb; exact(g.own N Z b U I).2.1)
        (fun b hS=>⟨g.sfin b hS,fun hB=>by obtain⟨N,Z,_,U,I⟩:=p3 b hB; exact(g.own N Z b U I).2.2 hS⟩) hb
       have p1':=p1;obtain⟨_,_,Bs1,e1,_,_,_,e4,_⟩:=p1';obtain⟨c',k1,k2,k3⟩:=g.taken [i,j] f.os f.tape f.output f.size (fun b hb hn=>f.block b hb (fun e=>hn (q b (List.mem_append_left _ (by
        rw[e4];obtain rfl:=(List.cons.inj e1).1;grind[List.mem_append_left,aDP]))))) r1 r2 (fun b hb=>(r3 b hb).imp (q b) id) r4
       grind
      simp_all
     | nilS =>
      have hsv:sv= .slice none 0 0:=by
       obtain⟨h1,_,I⟩:=hs;have I:=I rfl;simp_all[aO,Value.cells]
      subst hsv;simp only at hc ⊢;split at hc
      ·rename_i ys L;obtain⟨hb,J⟩:=hc;obtain⟨B2,q1,q2,O⟩:=aQP g hj hj1 L;have p1:mB w c.S (.sl ct) (.sl (E.el t) (aNP h j)) [] [.slice none 0 0] []:=⟨.slice none 0 0,[],[],rfl,World.ownsRow_nil w 0 _ _,rfl,rfl,rfl,fun i h=>by simp at h⟩;obtain⟨v',w',B',Y,f,r1,r2,r3,r4⟩:=aUQ (P:=P) (ty:=ty) hE ht J p1 q1 (by simp_all) (fun b hb=>by obtain⟨N,Z,_,U,I⟩:=O b (by simp_all); exact(g.own N Z b U I).2.1)
        (fun b hS=>⟨g.sfin b hS,by simp⟩) (by simp_all)
       obtain⟨c',k1,k2,k3⟩:=g.taken [j] f.os f.tape f.output f.size (fun b hb hn=>f.block b hb (fun e=>by simp[aU] at e)) r1 r2 (fun b hb=>(r3 b hb).imp (fun hb=>O b (by simp_all)) id) r4;grind
      simp_all
     | _=>grind
    | _=>grind
  | _=>simp_all
theorem bGt:∀(t:Ty) (m:Mk),t.okB=true→okM t m=true→mB w c.S t m t.zero (dI t) []:=by
 intro t
 induction t with
 | sl t J =>
  intro m f hm;cases m with
  | no=>grind[aIZ,gN]
  | sl e m=>exact⟨.slice none 0 0,[],[],rfl,World.ownsRow_nil w 0 e t.cells,rfl,rfl,rfl,fun i h=>by simp_all⟩
  | pair _ _=>grind[okM]
 | pair a r g q =>
  intro m f hm;cases m with
  | no=>grind[aIZ,gN]
  | sl e m=>grind[okM]
  | pair I z =>
   simp only[okM,Bool.and_eq_true] at hm;simp only[Ty.okB,Bool.and_eq_true] at f;exact⟨dI a,dI r,[],[],rfl,rfl,g I f.1 hm.1,q z f.2 hm.2⟩
 | _ =>
  grind[aIZ,gN,okM]
theorem bGu(O:iF P E)(hg:Good M w0 c h w){t:TypeId}{l cp:AV}{lv cv:Value}(hl:aX c w l lv)(N:aX c w cp cv)(hc:(aXS E h t l cp).1) :
  ∃v' w' c',(Instr.makeSlice t lv cv).run P w= .ok v' w'∧eI c w c' w'∧Good M w0 c' (aXS E h t l cp).2.2 w'∧aX c' w' (aXS E h t l cp).2.1 v':=by
 unfold aXS at hc ⊢;split at hc
 ·grind[bJd]
 ·rename_i m hm0;split at hc
  ·rename_i f ht;split at hc
   ·rename_i n k hn hk;obtain⟨g,hm,h0,h1,h2,h3⟩:=hc;obtain⟨k1,rfl⟩:=aCv hl hn;obtain⟨k2,rfl⟩:=aCv N hk;have hd:=O.el t f ht;obtain⟨e',hd',J,hpos⟩:=gJ (O.T _ _ ht);have:e'=E.el t:=(by simp_all);subst this;obtain⟨i,hi,L,hz,hby⟩:=(O.T _ _ J).info;have hbytes:(i.bytes:Int)*k≤281474976710656:=by
     have:(i.bytes:Int)*k≤(f.byt:Int)*k:=Int.mul_le_mul_of_nonneg_right (by omega) (by omega);omega
    have I:=run_make (P:=P) w t (E.el t) i (oS f) hd hi (hz g) k1 k2 n k h0 h1 hbytes (by grind[maxLen]);have hcells:(madeCells (oS f).cells (k.toNat*i.size)).toList=(List.replicate k.toNat (dI f)).flatten:=by
     rw[L,aBJ g,← nE g];exact aBu _ _ (by grind[nE])
    have hsplit:(List.replicate k.toNat (dI f)).flatten=(List.replicate n.toNat (dI f)).flatten++(List.replicate (k.toNat-n.toNat) (dI f)).flatten:=by
     grind[List.flatten_append,List.replicate_append_replicate]
    have U:(List.replicate n.toNat (dI f)).flatten.length=n.toNat*f.cells:=(by simp[nE g]);have z:mB (w.alloc (.cells (madeCells (oS f).cells (k.toNat*i.size)) (E.el t) (0,0))) c.S (.sl f) (.sl (E.el t) m) (List.replicate n.toNat f.zero) [.slice (some ⟨w.heap.size,0,none⟩) n.toNat k.toNat] [w.heap.size]:=by
     refine⟨_,List.replicate n.toNat (dI f),List.replicate n.toNat [],rfl,⟨by simp_all,.inr ⟨w.heap.size,k.toNat,_,by simp,Nat.zero_le _,aDA w _,by grind,by omega,by rw[size_madeCells,L],?_⟩⟩,by simp,by simp,?_,fun q Z Y q3=>?_⟩
     ·simp_all
     ·rw[flatten_nil (fun i hi=>by simp)]; rfl
     ·simp only[List.getElem_replicate];exact bGt (c:=c) f m g hm
    obtain⟨c',Z,Y,q3⟩:=hg.taken [] (w':=w.alloc (.cells (madeCells (oS f).cells (k.toNat*i.size)) (E.el t) (0,0))) rfl rfl rfl (by simp) (fun b hb _=>by show (w.heap.push _)[b]? = _; grind) z (by simp) (fun b hb=>.inr (by simp_all)) ⟨_,_,_,rfl⟩;exact⟨_,_,c',I,Z,Y,q3⟩
   simp_all
  simp_all
theorem bKY{sz:Nat}:∀(vs:List (Nat×Value)) (k:Nat) (cells:Array Value) (pre rest:List Value),cells.toList=pre++rest→pre.length=k*sz→rest.length=vs.length*sz →
  (∀i (h:i<vs.length),(vs[i]).1=k+i∧(vs[i]).2.cells.size=sz)→ ∃cells',Instr.fill (fun i=>some (i*sz,sz)) cells vs=some cells'∧cells'.toList=pre++(vs.map fun p=>p.2.cells.toList).flatten
 | [],k,cells,pre,rest,N,f,L,_=>by
  have:rest= []:=List.eq_nil_of_length_eq_zero (by simp_all);subst this;exact⟨cells,rfl,by simp_all⟩
 | (i,v)::vs,k,cells,pre,rest,N,f,L,g=>by
  obtain⟨e1,J⟩:=g 0 (by simp);simp only[List.getElem_cons_zero,Nat.add_zero] at e1 J;subst e1;have hsplit:rest=rest.take sz++rest.drop sz:=(List.take_append_drop _ _).symm;have z:(rest.take sz).length=sz:=by grind[List.length_take,List.length_cons,Nat.add_mul]
  have hc:cells.toList=pre++rest.take sz++rest.drop sz:=by grind
  have hstep:=aQE (v:=v) hc (by omega);obtain⟨cells',O,U⟩:=bKY (sz:=sz) vs (i+1) _ (pre++v.cells.toList) (rest.drop sz) hstep (by grind) (by grind) (fun q hq=>by
   have:=g (q+1) (by grind);grind)
  refine⟨cells',?_,by grind⟩;have I:cells.size=(pre++rest).length:=by grind
  have hcond:¬(v.cells.size≠sz∨i*sz+v.cells.size>cells.size):=by
   grind
  simp only[Instr.fill];rw[if_neg (by grind),← f];exact O
theorem aUR(N:Good M w0 c h w){m:Mk}{I:Ty}:∀(ps:List (Nat×AV)) (vs:List (Nat×Value)) (k:Nat) (xs:List I.den) (l:List Nat),aEX c w ps vs→aI1 h m I k ps=some (xs,l)→l.Nodup →
  xs.length=vs.length∧ ∃g:List (List Nat),g.length=xs.length∧g.flatten.Nodup∧(∀b∈g.flatten,qI c h l b)∧ ∀i (h1:i<xs.length) (h2:i<vs.length) (h3:i<g.length),(vs[i]).1=k+i∧mB w c.S I m xs[i] (vs[i]).2.cells.toList g[i]
 | [],_,k,xs,l,.nil,f,_=>by
  simp only[aI1,Option.some.injEq,Prod.mk.injEq] at f;simp_all
 | _,_,k,xs,l,.cons (k:=i) (a:=a) (v:=v) (ps:=ps) (vs:=vs) hv r,f,hl=>by
  simp only[aI1] at f;split at f
  ·rename_i e;subst e;split at f
   ·rename_i x l1 U l2 O k2;simp only[Option.some.injEq,Prod.mk.injEq] at f;obtain⟨rfl,rfl⟩:=f;have q:=List.nodup_append.1 hl;obtain⟨Z,g,Y,q3,q4,q5⟩:=aUR N ps vs (i+1) U l2 r k2 q.2.1;have J:aO c w a v.cells.toList:=by
     cases a<;>first|exact hv.1|(cases m<;>cases I<;>simp[aBv,aCx,AV.as] at O)
    obtain⟨B,r1,r2,r3⟩:=aUP N O q.1 J;refine⟨by simp[Z],B::g,by simp[Y],?_,fun b hb=>?_,fun z z1 z2 z3=>?_⟩
    ·grind[List.flatten_cons,aQN]
    ·rw[List.flatten_cons] at hb;rcases List.mem_append.1 hb with hb|hb
     ·exact xB (fun j L=>List.mem_append_left _ L) (r3 b hb)
     ·exact xB (fun j L=>List.mem_append_right _ L) (q4 b hb)
    grind
   grind
  grind
theorem bFf(hE:iF P E)(Y:Good M w0 c h w){t:TypeId}{m:Mk}{n:Nat}{ps:List (Nat×AV)}{vs:List (Nat×Value)}(hp:aEX c w ps vs)(hc:(aHv E h t m n ps).1) :
  ∃v' w' c',(Instr.buildSlice t n vs.toArray).run P w= .ok v' w'∧eI c w c' w'∧Good M w0 c' (aHv E h t m n ps).2.2 w'∧aX c' w' (aHv E h t m n ps).2.1 v':=by
 unfold aHv at hc ⊢;split at hc
 ·rename_i f ht;split at hc
  ·rename_i xs l hab;obtain⟨hok,q,hn,hc1,hc2⟩:=hc;have hd:=hE.el t f ht;obtain⟨e',hd',O,hpos⟩:=gJ (hE.T _ _ ht);have:e'=E.el t:=(by simp_all);subst this;have z:=hE.T _ _ O;have hz:=vX z hok w;have q:=aQO q;have hpl:ps.length=vs.length:=parts_len hp;obtain⟨q1,Bs,q2,q3,q4,q5⟩:=aUR Y ps vs 0 xs l hp hab q;have hnv:vs.length=n:=(by omega);have U:∀i (h:i<vs.length),(vs[i]).1=0+i∧(vs[i]).2.cells.size=f.cells:=fun i hi=>by
    grind[Array.length_toList,mB.length]
   have hfl:(vs.map fun p=>p.2.cells.toList).flatten.length=n*f.cells:=by
    rw[nF (n:=f.cells) (fun i hi=>by simp only[List.length_map] at hi; simp only[List.getElem_map]; rw[Array.length_toList]; exact(U i hi).2),List.length_map,hnv]
   have N:¬(n*f.cells>2^24):=(by omega);have L:∀g:Array Value,(if n*f.cells=0 then (#[]:Array Value) else (oS f).cells)=g→ ∃cells',Instr.fill (fun i=>some (i*f.cells,f.cells)) ((Array.range (n*f.cells)).map (fun i=>g[i%g.size]!)) vs=some cells'∧cells'.toList=(vs.map fun p=>p.2.cells.toList).flatten:=fun g _=>by
    obtain⟨cells',I,k2⟩:=bKY (sz:=f.cells) vs 0 ((Array.range (n*f.cells)).map (fun i=>g[i%g.size]!)) [] ((Array.range (n*f.cells)).map (fun i=>g[i%g.size]!)).toList (by simp) (by simp) (by grind) U;simp_all
   obtain⟨cells',I,k2⟩:=L _ rfl;have hrun:(Instr.buildSlice t n vs.toArray).run P w= .ok (.slice (some ⟨w.heap.size,0,none⟩) n n) (w.alloc (.cells cells' (E.el t) (0,0))):=by
    by_cases h0:n*f.cells=0
    ·rw[if_pos h0] at I;simp only[Instr.buildSlice,Sem.run_bind,bG hd,Result.andThen_ok,fW z,N,if_false,h0,if_true,Sem.run_ite,Sem.run_pure];rw[h0] at I;rw[if_neg (by decide),I];rfl
    ·rw[if_neg h0] at I;simp only[Instr.buildSlice,Sem.run_bind,bG hd,Result.andThen_ok,fW z,N,if_false,h0,hz,Sem.run_ite,Sem.run_pure,I];rfl
   have hsame:∀b,b<w.heap.size→(w.alloc (.cells cells' (E.el t) (0,0))).heap[b]? = w.heap[b]? := fun b hb=>(by show (w.heap.push _)[b]? = _; grind);have hbs:∀b∈Bs.flatten,b<w.heap.size:=fun b hb=>(by obtain⟨j',o',_,h2,h3⟩:=q4 b hb; exact(Y.own j' o' b h2 h3).2.1);have J:mB (w.alloc (.cells cells' (E.el t) (0,0))) c.S (.sl f) (.sl (E.el t) m) xs [.slice (some ⟨w.heap.size,0,none⟩) n n] (w.heap.size::Bs.flatten):=by
    have Z:xs.length=n:=(by omega);refine⟨_,vs.map fun p=>p.2.cells.toList,Bs,rfl,⟨by simp_all,.inr ⟨w.heap.size,n,cells',by rw[Z],Nat.zero_le _,aDA w _,by omega,hc2,?_,?_⟩⟩,by simp_all,q2,rfl,fun i z1 z2 z3=>?_⟩
    ·grind
    ·grind
    ·simp only[List.getElem_map];exact mB.keep (fun _ h=>h) (fun b hb=>hsame b (Y.sfin b hb)) _ _ _ _ _ (fun b hb=>hsame b (hbs b (aLa z3 hb))) (q5 i z1 (by omega) z3).2
   obtain⟨c',r1,r2,r3⟩:=Y.taken l (w':=w.alloc (.cells cells' (E.el t) (0,0))) rfl rfl rfl (by simp) (fun b hb _=>hsame b hb) J (List.nodup_cons.2 ⟨fun hm=>by grind,q3⟩) (fun b hb=>by
    rcases List.mem_cons.1 hb with rfl|hb
    ·simp_all
    grind) ⟨_,_,_,rfl⟩
   grind
  simp_all
 simp_all
where
 parts_len {ps:List (Nat×AV)} {vs:List (Nat×Value)} (h:aEX c w ps vs):ps.length=vs.length:=by
  induction h with
  | nil=>rfl
  | cons _ _ ih=>simp[ih]
theorem bCE:∀(t:Ty),t.okB=true→aMn t=true→nD c w (mZ t) (dI t)∧(mZ t).all AV.solid1=true∧aI (mZ t)=t.cells:=by
 intro t
 induction t with
 | pair a r _ I =>
  intro f hb;simp only[Ty.okB,Bool.and_eq_true] at f;obtain⟨z,q,g⟩:=I f.2 hb;cases a with
  | sl a=>exact⟨⟨[.slice none 0 0],dI r,rfl,rfl,z⟩,by simp only[mZ,List.all_cons,q]; rfl,by simp only[mZ,aI,g]; rfl⟩
  | _=>exact⟨⟨dI _,dI r,rfl,gN w c.S _ f.1,z⟩,by simp only[mZ,List.all_cons,q]; rfl,by simp only[mZ,aI,g]; rfl⟩
 | unit=>intro _ _; exact⟨rfl,rfl,rfl⟩
 | _=>grind[aMn]
end
end Go.Vc
namespace Go.Vc
open Go.RowKit
def bD3(c x y:AV):Prop×AV :=
 match c,x,y with
 | .val .bool q,.val .bool a,.val .bool b=>(True,.val .bool (bif q then a else b))
 | .val .bool q,.undef,.val .bool b=>(q=false,.val .bool b)
 | .val .bool q,.val .bool a,.undef=>(q=true,.val .bool a)
 | _,_,_=>(False,.junk)
def bAH(Γ:FuncId→List AV→Option aF)(f:FuncId)(vs:List AV):Bool :=
 match Γ f vs with
 | some ⟨_,.own _ _,_,_⟩=>true
 | _=>false
def bD4:Option Ty→Bool
 | some (.i .i64)=>true
 | _=>false
noncomputable def aT8(E:Env)(h:List Obj)(ρ:Operand→AV)(o:Oper)(c:Call):Prop×AV×List Obj :=
 match c.callee with
 | .builtin .append=>match c.args.toList.map ρ,c.argTypes.toList with
  | [s,x],[t,g]=>bif bD4 (E.T g) then aMv E h t s x else bif isStr (E.T g) then aMw E h t s x else ((aI0 E h t s x).1∧g=t,(aI0 E h t s x).2)
  | _,_=>(False,.junk,h)
 | .value (.func f)=>bif bAH E.Γ f (c.args.toList.map ρ) then aMu E.Γ h f (c.args.toList.map ρ) else ((pv E h ρ o).1,(pv E h ρ o).2,h)
 | _=>((pv E h ρ o).1,(pv E h ρ o).2,h)
def aFT(E:Env)(h:List Obj)(t:TypeId):Prop×AV×List Obj :=
 match E.mp t with
 | some (k,e)=>match E.T k,E.T e with
  | some f,some g=>(True,.mp h.length,h++ [.map f g []])
  | _,_=>(False,.junk,h)
 | none=>(False,.junk,h)
def aUS(E:Env)(h:List Obj)(t:TypeId)(m k v:AV):Prop×AV×List Obj :=
 match m with
 | .mp i=>match h[i]? with
  | some (.map f g l)=>match AV.as (h.map fX) f k,AV.as (h.map fX) g v with
   | some x,some y=>(f.keyB=true∧bGj E t f g,.junk,h.set i (.map f g (aCw f l x y)))
   | _,_=>(False,.junk,h)
  | _=>(False,.junk,h)
 | _=>(False,.junk,h)
def aFU(E:Env)(h:List Obj)(t:TypeId):Prop×AV×List Obj :=
 match E.T t with
 | some (.sl f)=>(f.okB=true,.own h.length,h++ [.row (E.el t) f []])
 | _=>(False,.junk,h)
noncomputable def aFc(E:Env)(h:List Obj)(ρ:Operand→AV)(o:Oper):Prop×AV×List Obj :=
 match o.op with
 | .alloc t=>match E.T t with
  | some f=>bif E.dz t then (f.okB=true∧aMn f=true,.ptr h.length [],h++ [.box f.cells (.agg (mZ f))]) else (f.okB=true,.ptr h.length [],h++ [.box (bxN t f) (aKQ f)])
  | none=>(False,.junk,h)
 | .box t x=>((ρ x).solid=true,.ptr h.length [],h++ [.box (ρ x).nc (ρ x)])
 | .store t a x=>aIX E.T h t (ρ a) (ρ x)
 | .makeSlice t l cp=>aXS E h t (ρ l) (ρ cp)
 | .makeMap t none=>aFT E h t
 | .buildSlice t n g=>match E.dm t with
  | some m=>bif okD E h t m (g.toList.map fun p=>(p.1,ρ p.2)) then aHv E h t m n (g.toList.map fun p=>(p.1,ρ p.2)) else ((pv E h ρ o).1,(pv E h ρ o).2,h)
  | none=>match n,g.toList with
   | 0,[]=>aFU E h t
   | _,_=>((pv E h ρ o).1,(pv E h ρ o).2,h)
 | .mapUpdate t m k v=>aUS E h t (ρ m) (ρ k) (ρ v)
 | .insert t m k v=>aUS E h t (ρ m) (ρ k) (ρ v)
 | .pick c x y=>((bD3 (ρ c) (ρ x) (ρ y)).1,(bD3 (ρ c) (ρ x) (ρ y)).2,h)
 | .call c=>aT8 E h ρ o c
 | _=>((pv E h ρ o).1,(pv E h ρ o).2,h)
def bMr:Option Ty→Bool
 | some (.sl (.u .u8))=>true
 | _=>false
def aUT(E:Env)(ρ:Operand→AV)(o:Oper):List Nat :=
 match o.op with
 | .call c=>match c.callee with
  | .value (.func f)=>match E.Γ f (c.args.toList.map ρ) with
   | some sp=>bif sp.res.ty.scalar then [] else (c.args.toList.map ρ).flatMap AV.tags
   | none=>[]
  | _=>[]
 | .slice _ x _ _ _=>(ρ x).tags
 | .buildSlice t _ g=>match E.dm t with
  | some _=>[]
  | none=>g.toList.flatMap fun p=>(ρ p.2).tags
 | .store t a x=>match ρ a with
  | .ptr _ (_::_)=>bif bMr (E.T t)||(E.dm t).isSome then [] else (ρ x).tags
  | _=>[]
 | .mapUpdate _ _ _ v=>(ρ v).tags
 | .insert _ _ _ v=>(ρ v).tags
 | _=>[]
noncomputable def aAR(E:Env)(env:St)(h:List Obj)(o:Oper):Prop×AV×List Obj :=
 aFc E (freezeAll (aUT E (evA E.G env) o) h) (fun x=>aYN (freezeAll (aUT E (evA E.G env) o) h) (evA E.G env x)) o
def zQ(d:Option Nat)(v:AV)(env:St):St :=
 match d with
 | some d=>(d,v)::env
 | none=>env
def aLc(ops:List Oper)(j:Nat):Option Nat:=match ops[j]? with
 | some o=>o.dst
 | none=>none
def xX(E:Env)(all:List Oper):List Oper→St→List Obj→(St→List Obj→Prop)→Prop
 | [],env,h,K=>K env h
 | o::r,env,h,K=>match o.guard with
  | none=>match aAR E env h o with
   | (p,v,h')=>p∧xX E all r (zQ o.dst v env) h' K
  | some (j,f)=>match aLc all j with
   | some g=>match look env g with
    | .val .bool b=>(b=f→match aAR E env h o with
      | (p,v,h')=>p∧xX E all r (zQ o.dst v env) h' K)∧(b= !f→xX E all r (zQ o.dst .undef env) h K)
    | .undef=>xX E all r (zQ o.dst .undef env) h K
    | _=>False
   | none=>False
section
variable {P:Program} {E:Env} {M:Perm} {w0:World} {c:Ctx} {h:List Obj} {w:World}
structure aNQ(M:Perm)(w0:World)(c:Ctx)(w:World)(h':List Obj)(av:AV)(v:Value)(w':World)(c':Ctx):Prop where
 later:eI c w c' w'
 good:Good M w0 c' h' w'
 val:aX c' w' av v
def bCF(P:Program)(M:Perm)(w0:World)(c:Ctx)(o:Oper)(a:Act)(w:World)(h':List Obj)(av:AV):Prop :=
 (∃v w' c',(execOp a.eval o).run P w= .ok (.value v) w'∧aNQ M w0 c w h' av v w' c') ∨
 (∃w' c',(execOp a.eval o).run P w= .ok .skip w'∧aNQ M w0 c w h' av Go.undef w' c') ∨
 (∃f args,(execOp a.eval o).run P w= .ok (.enter f args) w∧Calls P f args w fun e w'=>∃v c',e= .returned v∧aNQ M w0 c w h' av v w' c')
theorem Did.toE{o:Oper}{a:Act}{av:AV}(hd:Did P M w0 h c o a w av):bCF P M w0 c o a w h av:=by
 rcases hd with⟨v,w',c',q,g⟩|⟨f,args,q,hc⟩
 ·exact .inl ⟨v,w',c',q,g.later,g.good,g.val⟩
 ·refine .inr (.inr ⟨f,args,q,hc.mono ?_⟩);rintro e w' ⟨v,c',z,g⟩;exact⟨v,c',z,g.later,g.good,g.val⟩
theorem bCF.wp{o:Oper}{a:Act}{av:AV}{h':List Obj}{next:Act→World→Prop}{Q:Exit→Act→World→Prop}(hd:bCF P M w0 c o a w h' av)(z:∀v w' c',aNQ M w0 c w h' av v w' c'→next (a.put o.dst v) w'):o.wp P a w next Q:=by
 rcases hd with⟨v,w',c',g,q⟩|⟨w',c',g,q⟩|⟨f,args,g,hc⟩
 ·unfold Oper.wp; rw[g]; exact z v w' c' q
 ·unfold Oper.wp; rw[g]; exact z _ w' c' q
 ·unfold Oper.wp;rw[g];refine Calls.mono hc ?_;grind
theorem bCG(f:Good M w0 c h w){t:TypeId}(hc:(aFT E h t).1) :
  ∃v w' c',(Instr.makeMap t none).run P w= .ok v w'∧aNQ M w0 c w (aFT E h t).2.2 (aFT E h t).2.1 v w' c':=by
 unfold aFT at hc ⊢;split at hc
 ·rename_i k e J;split at hc
  ·rename_i g q z hv;simp only[z,hv];have hkeep:iL nothing w (w.alloc (.map #[] 0)):=iL.alloc nothing w _;have e1:(c.push (.map (some w.heap.size))).hd c.n= .map (some w.heap.size):=(by simp[Ctx.push]);have:=f.push hkeep (o:=.map g q []) (hv:=.map (some w.heap.size)) (by
    refine⟨w.heap.size,#[],0,e1,aDA w _,rfl,fun j h=>by simp at h⟩) (fun b hb=>by
    simp_all[fA,aU,Option.some.injEq,Nat.le_refl])
   refine⟨.map (some w.heap.size),_,_,rfl,this.2,this.1,?_⟩;rw[← f.n];exact⟨⟨Nat.lt_succ_self c.n,by rw[e1]; rfl,by rw[e1]; trivial⟩,(fun h=>by cases h),(fun _ I=>by simp)⟩
  simp_all
 simp_all
theorem bGv(hE:iF P E)(O:Good M w0 c h w){t:TypeId}{m k v:AV}{mv U vv:Value}(hm:aX c w m mv)(hk:aX c w k U)(hv:aX c w v vv)(hc:(aUS E h t m k v).1) :
  ∃w',(Instr.mapUpdate t mv U vv).run P w= .ok () w'∧eI c w c w'∧Good M w0 c (aUS E h t m k v).2.2 w'∧(aUS E h t m k v).2.1= .junk:=by
 unfold aUS at hc ⊢;split at hc
 ·rename_i i;split at hc
  ·rename_i N Z l Y;split at hc
   ·rename_i x y hx hy;obtain⟨h1,h3⟩:=hc;simp only[Y,hx,hy];obtain⟨b,I,clock,q1,q2,q3,q4⟩:=O.objs i _ Y;have hmv:mv= .map (some b):=by
     obtain⟨r1,_,r3⟩:=hm;simp only[aO] at r1;have r3:=r3 rfl;simp_all[Value.cells]
    subst hmv;unfold bGj at h3;split at h3
    ·rename_i kt et he;have g:=aAo O hk hx;have hvy:=aAo O hv hy;have hu:=hE.mp _ _ _ he;have hgo:(getObj b).run P w= .ok (.map I clock) w:=(by simp[getObj,Sem.run,q2]);have hl:I.toList.length=l.length:=(by omega);have hf:=aOS (P:=P) hE.T h3.1 h1 g w l I.toList hl (fun j h h'=>by simp_all);have hck:=aMX (P:=P) false 9998 hE.T h3.1 h1 g w;have q:=aQG (c:=N) (w:=w) (S:=c.S) (x:=x) l I.toList 0 hl;have L:fA c i (.map N Z l) b:=(by simp[fA,q1,aU]);have hblt:b<w.heap.size:=(O.own i _ b Y L).2.1;have hnS:=(O.own i _ b Y L).2.2;have z:∀(f:Array MapEntry) (clock':Nat) (J:List (N.den×Z.den)),f.size=J.length→(∀j (h:j<J.length) (h':j<f.size),dU w c.S N J[j].1 f[j].key∧dU w c.S Z J[j].2 f[j].val) →
       ∃w',(setObj b (.map f clock')).run P w= .ok () w'∧eI c w c w'∧Good M w0 c (h.set i (.map N Z J)) w':=fun f clock' J hs hr=>by
      have hsame:∀k,k≠b→(w.heap.setIfInBounds b (Go.Obj.map f clock'))[k]? = w.heap[k]? := fun k hk=>(by grind);have hkS:aCq c.S w { w with heap:=w.heap.setIfInBounds b (.map f clock') }:=fun k hk=>hsame k (fun e=>hnS (e▸hk));refine⟨{ w with heap:=w.heap.setIfInBounds b (.map f clock') },by simp[setObj,Sem.run,q2],?_⟩;have:=O.modify (o':=.map N Z J) Y L (w':={ w with heap:=w.heap.setIfInBounds b (.map f clock') }) rfl rfl rfl (by simp) hsame ?_ ?_
      ·simp_all
      ·exact⟨b,f,clock',q1,by grind,hs,fun j h h'=>⟨(hr j h h').1.keep (fun _ h=>h) hkS,(hr j h h').2.keep (fun _ h=>h) hkS⟩⟩
      grind[fA,aU]
     cases hgt:aAp N l x with
     | some y0 =>
      rw[hgt] at q;obtain⟨j,e,k1,r1,r2,r3,r4,r5⟩:=q;rw[r1] at hf;simp only[Nat.zero_add] at hf;have hjl:j<l.length:=by
       grind
      have hje:j<I.size:=(by omega);have e1:I[j]=e:=by
       simp_all
      have e2:l[j]=(k1,y0):=(by simp_all);have hkk:=(q4 j hjl hje).1;rw[e1,e2] at hkk;have hkey:e.key=U:=((bGg h1 g hkk).1 r4).symm;obtain⟨w',s1,s2,s3⟩:=z (I.modify j fun e=>{ e with key:=U,val:=vv }) clock (l.set j (k1,y)) (by simp[q3]) (fun j' h h'=>by
       grind)
      refine⟨w',?_,s2,by simp_all,trivial⟩;have hst:=bE5 (P:=P) h1 g w;simp_all[Instr.mapUpdate,bG,Result.andThen,Array.getElem?_eq_getElem]
     | none =>
      rw[hgt] at q;rw[q.1] at hf;obtain⟨w',s1,s2,s3⟩:=z (I.push { key:=U,val:=vv,born:=clock }) (clock+1) (l++ [(x,y)]) (by simp[q3]) (fun j' h h'=>by
       grind)
      simp_all[trivial,Instr.mapUpdate,bG,Result.andThen]
    simp_all
   simp_all
  simp_all
 simp_all
theorem aYQ(I:iF P E)(J:Good M w0 c h w){t:TypeId}(hc:(aFU E h t).1) :
  ∃v' w' c',(Instr.buildSlice t 0 #[]).run P w= .ok v' w'∧eI c w c' w'∧Good M w0 c' (aFU E h t).2.2 w'∧aX c' w' (aFU E h t).2.1 v':=by
 unfold aFU at hc ⊢;split at hc
 ·rename_i g ht;have hd:=I.el t g ht;obtain⟨N,U,f,L⟩:=gJ (I.T _ _ ht);have:N=E.el t:=by simp_all
  subst this;have z:=I.T _ _ f;have O:iL nothing w (w.alloc (.cells #[] (E.el t) (0,0))):=iL.alloc nothing w _;have e:(c.push (.slice (some ⟨w.heap.size,0,none⟩) 0 0)).hd c.n= .slice (some ⟨w.heap.size,0,none⟩) 0 0:=by simp[Ctx.push]
  have:=J.push O (o:=.row (E.el t) g []) (hv:=.slice (some ⟨w.heap.size,0,none⟩) 0 0) (by
   show aCr _ _ _ _ _ _;rw[e];exact⟨[],⟨by simp,.inr ⟨w.heap.size,0,#[],rfl,Nat.zero_le _,aDA w _,Nat.le_refl _,Nat.zero_le _,by simp,by simp⟩⟩,⟨rfl,[],rfl,rfl,fun i hi=>by grind⟩⟩) (fun b hb=>by
   simp_all[fA,aU,Option.some.injEq,Nat.le_refl])
  refine⟨.slice (some ⟨w.heap.size,0,none⟩) 0 0,_,_,?_,this.2,this.1,?_⟩
  ·have e1:(Array.range (0*g.cells)).map (fun x=>(#[]:Array Value)[x%(#[]:Array Value).size]!)= #[]:=(by simp);have q:¬(0*g.cells>2^24):=(by omega);simp only[Instr.buildSlice,Sem.run_bind,bG hd,Result.andThen_ok,fW z,q,if_false,Nat.zero_mul,if_true,Sem.run_ite,Sem.run_pure];rw[if_neg (by decide)];simp only[Nat.zero_mul] at e1;rw[e1];rfl
  ·have:=aF7 (c:=c) (v':=.slice (some ⟨w.heap.size,0,none⟩) 0 0) ⟨_,_,_,rfl⟩ (w':=w.alloc (.cells #[] (E.el t) (0,0))) (S':=c.S);rw[← J.n];exact this
 simp_all
theorem bLx(O:iF P E)(N:Good M w0 c h w)(hG:uD E.G c.S w){o:Oper}{a:Act}{ρ:Operand→AV}(g:∀x∈o.op.operands,aX c w (ρ x) (a.eval x))(hc:(aFc E h ρ o).1):bCF P M w0 c o a w (aFc E h ρ o).2.2 (aFc E h ρ o).2.1:=by
 have U:(pv E h ρ o).1→bCF P M w0 c o a w h (pv E h ρ o).2:=fun hc=>(bKW O N hG g hc).toE;obtain⟨dst,op,ty,pos,aft,gd⟩:=o;cases op
 case alloc t =>
  simp only[aFc] at hc ⊢;split at hc
  ·rename_i Z ht;cases hdz:E.dz t with
   | true =>
    simp only[hdz,cond_true] at hc ⊢;obtain⟨hok,hzb⟩:=hc;have hz:=vX (O.T _ _ ht) hok w;obtain⟨k1,k2,k3⟩:=bCE (c:=c) (w:=w) Z hok hzb;have hag:Z.isAgg=true:=(by cases Z<;>first|rfl|grind[aMn]);have hzv:oS Z= .agg (dI Z).toArray:=(by simp_all[oS,if_pos]);obtain⟨w',c',z,I,J,L⟩:=aQL N (t:=t) (P:=P) (x:=.agg (mZ Z)) (v:=oS Z) (n:=Z.cells) (.inl k3) k2 (by
     rw[hzv];exact⟨by grind[aO,Value.cells],fun _=>⟨_,rfl⟩,fun h=>by cases h⟩)
    refine .inl ⟨_,w',c',?_,I,J,L⟩;simp[execOp,Instr.alloc,hz,z]
   | false =>
   simp only[hdz,cond_false] at hc ⊢;have hz:=vX (O.T _ _ ht) hc w;obtain⟨w',c',z,I,J,L⟩:=aQL N (t:=t) (P:=P) (x:=aKQ Z) (by rw[(aOZ (c:=c) (w:=w) hc).2.2.1]; exact bFU t Z) (aOZ (c:=c) (w:=w) hc).2.1 (aOZ hc).2.2.2;refine .inl ⟨_,w',c',?_,I,J,L⟩;simp[execOp,Instr.alloc,hz,z]
  simp_all
 case box t x =>
  simp only[aFc] at hc ⊢;obtain⟨w',c',z,I,J,L⟩:=aQL N (t:=t) (P:=P) (.inl rfl) hc (g x (by simp[Op.operands]));exact .inl ⟨_,w',c',by simp[execOp,Instr.box,z],I,J,L⟩
 case store t p x =>
  simp only[aFc] at hc ⊢;obtain⟨w',z,I,J⟩:=bGp (P:=P) O.T N (g p (by simp[Op.operands])) (g x (by simp[Op.operands])) hc;refine .inr (.inl ⟨w',c,by simp[execOp,z],I,J,?_⟩);have:(aIX E.T h t (ρ p) (ρ x)).2.1= .junk:=by
   unfold aIX;split<;>(try rfl)
   grind
  rw[this]; trivial
 case makeMap t r =>
  cases r with
  | none =>
   simp only[aFc] at hc ⊢;obtain⟨v,w',c',z,I⟩:=bCG (P:=P) N hc;exact .inl ⟨v,w',c',by simp[execOp,z],I⟩
  | some _=>exact U hc
 case buildSlice t n ps =>
  simp only[aFc] at hc ⊢;split at hc
  ·rename_i m hm;cases hokd:okD E h t m (ps.toList.map fun p=>(p.1,ρ p.2)) with
   | false=>simp_all
   | true =>
   simp only[hokd,cond_true] at hc ⊢;have hp:=aOU (l:=ps.toList) (ρ:=ρ) (a:=a) (c:=c) (w:=w) (fun p hp=>g p.2 (List.mem_toArray.2 (List.mem_map_of_mem hp)));obtain⟨Y,w',c',z,I,J,L⟩:=bFf (P:=P) O N hp hc;refine .inl ⟨Y,w',c',?_,I,J,L⟩;have e:(ps.map fun p=>(p.1,a.eval p.2))=(ps.toList.map fun p=>(p.1,a.eval p.2)).toArray:=(by grind);simp[execOp,e,z]
  rename_i hm;split at hc
  ·rename_i hps;obtain rfl:ps= #[]:=(by simp_all);obtain⟨Y,w',c',z,I,J,L⟩:=aYQ (P:=P) O N hc;exact .inl ⟨Y,w',c',by simp[execOp,z],I,J,L⟩
  simp_all
 case mapUpdate t m k v =>
  simp only[aFc] at hc ⊢;obtain⟨w',z,I,J,L⟩:=bGv (P:=P) O N (g m (by simp[Op.operands])) (g k (by simp[Op.operands])) (g v (by simp[Op.operands])) hc;exact .inr (.inl ⟨w',c,by simp[execOp,z],I,J,by rw[L]; trivial⟩)
 case insert t m k v =>
  simp only[aFc] at hc ⊢;obtain⟨w',z,I,J,L⟩:=bGv (P:=P) O N (g m (by simp[Op.operands])) (g k (by simp[Op.operands])) (g v (by simp[Op.operands])) hc;exact .inr (.inl ⟨w',c,by simp[execOp,z],I,J,by rw[L]; trivial⟩)
 case makeSlice t l cp =>
  simp only[aFc] at hc ⊢;obtain⟨Y,w',c',z,I,J,L⟩:=bGu (P:=P) O N (g l (by simp[Op.operands])) (g cp (by simp[Op.operands])) hc;exact .inl ⟨Y,w',c',by simp[execOp,z],I,J,L⟩
 case pick p x y =>
  simp only[aFc] at hc ⊢;have hp:=g p (by simp[Op.operands]);have hx:=g x (by simp[Op.operands]);have hy:=g y (by simp[Op.operands]);unfold bD3 at hc ⊢;split at hc
  ·rename_i q u v e1 e2 e3;rw[e1] at hp;rw[e2] at hx;rw[e3] at hy;have hb:=aHY hp;cases q
   ·exact(Did.of_value (v:=a.eval y) (h:=h) N (by simp[execOp,hb,asBool]) hy).toE
   ·exact(Did.of_value (v:=a.eval x) (h:=h) N (by simp[execOp,hb,asBool]) hx).toE
  ·rename_i q v e1 e2 e3;rw[e1] at hp;rw[e3] at hy;have hb:=aHY hp;have hc:q=false:=hc;subst hc;exact(Did.of_value (v:=a.eval y) (h:=h) N (by simp[execOp,hb,asBool]) hy).toE
  ·rename_i q u e1 e2 e3;rw[e1] at hp;rw[e2] at hx;have hb:=aHY hp;have hc:q=true:=hc;subst hc;exact(Did.of_value (v:=a.eval x) (h:=h) N (by simp[execOp,hb,asBool]) hx).toE
  simp_all
 case call cl =>
  obtain⟨callee,args,argTypes⟩:=cl;have hargs:∀x∈args.toList,aX c w (ρ x) (a.eval x):=fun x hx=>g x (by
   simp only[Op.operands,Call.operands];exact Array.mem_append.2 (.inr (by simpa using hx)))
  cases callee with
  | builtin b =>
   cases b
   case append =>
    simp only[aFc,aT8] at hc ⊢;split at hc
    ·rename_i s x t t' e1 e2;obtain⟨p,q,epq,rfl,rfl⟩:∃p q,args.toList= [p,q]∧ρ p=s∧ρ q=x:=by
      match hl:args.toList,e1 with
      | [p,q],ex=>grind
     cases hz:bD4 (E.T t') with
     | true =>
      simp only[hz,cond_true] at hc ⊢;have htx:P.underlying t'=some (.int .i64):=by
       unfold bD4 at hz;split at hz
       ·rename_i hT;exact bJe (O.T _ _ hT)
       grind
      obtain⟨Y,w',c',z,I,J,L⟩:=bCz (P:=P) (ty:=ty) O N htx (hargs p (by simp_all)) (hargs q (by simp_all)) hc;have e3:args= #[p,q]:=(by grind);have e4:argTypes= #[t,t']:=(by grind);exact .inl ⟨Y,w',c',by rw[e3,e4]; simp[execOp,resolve,invoke,builtin,z],I,J,L⟩
     | false =>
     simp only[hz,cond_false] at hc ⊢;cases hq:isStr (E.T t') with
     | true =>
      simp only[hq,cond_true] at hc ⊢;have htx:P.underlying t'=some .string:=by
       unfold isStr at hq;split at hq
       ·rename_i hT;exact aBX (O.T _ _ hT)
       grind
      obtain⟨Y,w',c',z,I,J,L⟩:=bCA (P:=P) (ty:=ty) O N htx (hargs p (by simp_all)) (hargs q (by simp_all)) hc;have e3:args= #[p,q]:=(by grind);have e4:argTypes= #[t,t']:=(by grind);exact .inl ⟨Y,w',c',by rw[e3,e4]; simp[execOp,resolve,invoke,builtin,z],I,J,L⟩
     | false =>
     simp only[hq,cond_false] at hc ⊢;obtain⟨hc,rfl⟩:=hc;obtain⟨Y,w',c',z,I,J,L⟩:=bCD (P:=P) (ty:=ty) O N (hargs p (by simp_all)) (hargs q (by simp_all)) hc;have e3:args= #[p,q]:=(by grind);have e4:argTypes= #[t',t']:=(by grind);exact .inl ⟨Y,w',c',by rw[e3,e4]; simp[execOp,resolve,invoke,builtin,z],I,J,L⟩
    simp_all
   all_goals exact U hc
  | value f =>
   cases f with
   | func f =>
    simp only[aFc,aT8] at hc ⊢;cases ho:bAH E.Γ f (args.toList.map ρ) with
    | false =>
     simp_all
    | true =>
     simp only[ho,cond_true] at hc ⊢;have hfok:∀sp,E.Γ f (args.toList.map ρ)=some sp→FOK P E.G f sp∧ ∃fn,P.funcs[f]? = some fn∧fn.name ≠ "runtime.NumGoroutine" ∧ fn.body.isSome=true:=fun sp hsp=>by
      rcases O.Γ f _ sp hsp with h|h
      ·exact h
      ·unfold bAH at ho;rw[hsp] at ho;obtain⟨a1,r1,p1,f1⟩:=sp;cases r1 with
       | own e t=>exact absurd rfl (h.1 e t)
       | _=>grind
     have hcall:=bCy (P:=P) (Γ:=E.Γ) (fun sp hsp=>(hfok sp hsp).1) N hG (f:=f) (vs:=args.toList.map ρ) (xs:=(args.toList.map a.eval).toArray) (by simp) (fun i z I=>by
      simp_all) hc
     have hfn:∃fn,P.funcs[f]? = some fn∧fn.name ≠ "runtime.NumGoroutine" ∧ fn.body.isSome=true:=by
      grind[bAH]
     refine .inr (.inr ⟨f,(args.toList.map a.eval).toArray,?_,?_⟩)
     ·have hrun:=aFq (w:=w) (args:=(args.map a.eval)) hfn;have e2:(args.toList.map a.eval).toArray=args.map a.eval:=(by grind);rw[e2];simp[execOp,resolve,Deferred.ofValue,Act.eval,invoke,hrun]
     ·refine hcall.mono ?_;rintro e w' ⟨v,c',he,z,I,J⟩;exact⟨v,c',he,z,I,J⟩
   | _=>exact U hc
  | _=>exact U hc
 all_goals exact U hc
theorem bGw(g:Good M w0 c h w){G:Nat→AV}{env:St}{a:Act}(z:aKo c w env a.tmps)(f:uD G c.S w){x:Operand}(q:sO x=true):aX c w (aYN h (evA G env x)) (a.eval x):=bDZ g (aF3 z f q)
theorem aMx(Z:iF P E){nt:Nat}{ds:List Deferred}{env:St}{a:Act}{o:Oper}(hs:Sim E M w0 nt ds c env h a w)(N:iG nt o=true)(hc:(aAR E env h o).1):bCF P M w0 c o a w (aAR E env h o).2.2 (aAR E env h o).2.1:=by
 obtain⟨c1,q,hn,I⟩:=hs.good.freezeAll (aUT E (evA E.G env) o);simp only[iG,Bool.and_eq_true] at N;have z:∀x∈o.op.operands,sO x=true:=Array.all_eq_true_iff_forall_mem.1 N.1;have J:uD E.G c1.S w:=hs.glob.mono q.le.S q.same;have:=bLx Z I J (o:=o) (a:=a) (ρ:=fun x=>aYN (freezeAll (aUT E (evA E.G env) o) h) (evA E.G env x)) (fun x U=>bGw I (hs.env.keep q) J (z x U)) hc;rcases this with⟨v,w',c',L,g⟩|⟨w',c',L,g⟩|⟨f,args,L,O⟩
 ·exact .inl ⟨v,w',c',L,q.trans g.later,g.good,g.val⟩
 ·exact .inr (.inl ⟨w',c',L,q.trans g.later,g.good,g.val⟩)
 ·refine .inr (.inr ⟨f,args,L,O.mono ?_⟩);rintro e w' ⟨v,c',Y,g⟩;exact⟨v,c',Y,q.trans g.later,g.good,g.val⟩
theorem Sim.after{nt:Nat}{ds:List Deferred}{env:St}{a:Act}{o:Oper}(hs:Sim E M w0 nt ds c env h a w)(q:iG nt o=true){h':List Obj}{av:AV}{v:Value}{w':World}{c':Ctx}(f:aNQ M w0 c w h' av v w' c'):Sim E M w0 nt ds c' (zQ o.dst av env) h' (a.put o.dst v) w':=by
 simp only[iG,Bool.and_eq_true] at q;refine⟨f.good,hs.glob.mono f.later.le.S f.later.same,?_,?_,?_⟩
 ·cases hd:o.dst with
  | none=>exact hs.env.keep f.later
  | some d =>
   have g:d<nt:=(by simp_all);exact(hs.env.keep f.later).put (by rw[hs.size]; exact g) f.val
 ·cases hd:o.dst with
  | none=>exact hs.size
  | some d=>simp[Act.put,hs.size]
 ·cases hd:o.dst with
  | none=>exact hs.defers
  | some d=>exact hs.defers
def yb:Value→Option Bool
 | .bool b=>some b
 | _=>none
theorem aBY{nt:Nat}{ops:List Oper}(q:∀o∈ops,iG nt o=true){a:Act}(L:a.tmps.size=nt){j g:Nat}(hd:aLc ops j=some g){v:Value}(hv:a.tmps.getD g Go.undef=v):yielded ops.toArray a.tmps j=yb v:=by
 unfold aLc at hd;split at hd
 ·rename_i I z;have f:=q I (List.mem_of_getElem? z);simp only[iG,Bool.and_eq_true,hd,decide_eq_true_eq] at f;have J:g<a.tmps.size:=by simp_all
  have N:a.tmps[g]? = some v:=by
   simp_all
  simp only[yielded,List.getElem?_toArray,z,Option.bind_some,hd,N];cases v<;>rfl
 grind
theorem aO2(hE:iF P E){ops:List Oper}{Q:Exit→Act→World→Prop}{nt:Nat}{ds:List Deferred}(q:∀o∈ops,iG nt o=true){K:St→List Obj→Prop}(Z:∀env h c a w,K env h→Sim E M w0 nt ds c env h a w→Q .normal a w) :
  ∀(m i:Nat),i+m=ops.length→ ∀(env:St) (h:List Obj) (c:Ctx) (a:Act) (w:World),xX E ops (ops.drop i) env h K→Sim E M w0 nt ds c env h a w→wpOps P ops.toArray Q (List.range' i m) a w
 | 0,i,hi,env,h,c,a,w,hs,f=>by
  rw[List.drop_eq_nil_of_le (by omega)] at hs;simp only[List.range'_zero,wpOps];exact Z env h c a w hs f
 | m+1,i,hi,env,h,c,a,w,hs,f=>by
  have z:i<ops.length:=by omega
  rw[List.drop_eq_getElem_cons z] at hs;have g:=q ops[i] (List.getElem_mem z);have L:∀(v:Value) (av:AV),aX c w av v→Sim E M w0 nt ds c (zQ ops[i].dst av env) h (a.put ops[i].dst v) w:=fun v av hv=>f.after g ⟨.refl _ _,f.good,hv⟩;have hrun:((aAR E env h ops[i]).1∧xX E ops (ops.drop (i+1)) (zQ ops[i].dst (aAR E env h ops[i]).2.1 env) (aAR E env h ops[i]).2.2 K)→Region.wanted ops[i] (yielded ops.toArray a.tmps)=true→wpOps P ops.toArray Q (List.range' i (m+1)) a w:=fun⟨h1,Y⟩ O=>by
   rw[List.range'_succ];simp only[wpOps,List.getElem?_toArray,List.getElem?_eq_getElem z,O,if_true]
   left
   refine(aMx hE f g h1).wp fun v w' c' ha=>?_;exact aO2 hE q Z m (i+1) (by omega) _ _ c' _ w' Y (f.after g ha)
  have hskip:xX E ops (ops.drop (i+1)) (zQ ops[i].dst .undef env) h K→Region.wanted ops[i] (yielded ops.toArray a.tmps)=false→wpOps P ops.toArray Q (List.range' i (m+1)) a w:=fun Y O=>by
   rw[List.range'_succ];simp only[wpOps,List.getElem?_toArray,List.getElem?_eq_getElem z,O,Bool.false_eq_true,if_false];exact aO2 hE q Z m (i+1) (by omega) _ _ c _ w Y (L _ _ rfl)
  simp only[xX] at hs;cases U:ops[i].guard with
  | none =>
   grind[Region.wanted]
  | some jp =>
   obtain⟨j,I⟩:=jp;rw[U] at hs;simp only at hs;cases J:aLc ops j with
   | none=>simp_all
   | some dj =>
    rw[J] at hs;simp only at hs;have hv:=f.env dj;split at hs
    ·rename_i b hb;rw[hb] at hv;have N:=aHY hv;have hy:=aBY q f.size J N;simp only[yb] at hy;by_cases e:b=I
     ·grind[Region.wanted]
     ·have e':b= !I:=(by cases b<;>cases I<;>simp_all);grind[Region.wanted]
    ·rename_i hb;rw[hb] at hv;have hy:=aBY q f.size J (v:=Go.undef) hv;grind[Region.wanted,undef,yb]
    simp_all
theorem dH{F:Fr}{Q:Exit→Act→World→Prop}{env:St}{h:List Obj}(hF:uP F){id:Nat}{ops:Array Oper}(keep:List Nat)(hv:xX F.E ops.toList ops.toList env h (fun env h=>At F (Q .normal) (keep.map fun t=>(t,look env t)) h)):Tri F (.region id ops false) Q env h:=fun f c a w hs=>by
 simp only[iT,Bool.and_eq_true,Bool.or_eq_true,Bool.not_eq_true'] at f;obtain⟨⟨q,I⟩,z⟩:=f;refine wp_region ?_;have:=aO2 (Q:=Q) hF.env (List.all_eq_true.1 q) (K:=fun env h=>At F (Q .normal) (keep.map fun t=>(t,look env t)) h) (fun env h c a w g hs=>g c a w (hs.keep keep)) ops.toList.length 0 (by simp) env h c a w (by simp_all) hs;simp_all[List.range_eq_range']
end
end Go.Vc
namespace Go.Vc
open Go.RowKit
def posOf(i:Nat):List Nat→Option Nat
 | []=>none
 | k::r=>if k=i then some 0 else match posOf i r with
  | some j=>some (j+1)
  | none=>none
def bI(σ:List Nat):List Nat→Option (List Nat)
 | []=>some []
 | i::r=>match posOf i σ,bI σ r with
  | some j,some l=>some (j::l)
  | _,_=>none
def cX(σ:List Nat):AV→AV
 | .own i=>match posOf i σ with
  | some j=>.own j
  | none=>.junk
 | .ptr i p=>match posOf i σ with
  | some j=>.ptr j p
  | none=>.junk
 | .sub i s off n=>match posOf i σ with
  | some j=>.sub j s off n
  | none=>.junk
 | .mp i=>match posOf i σ with
  | some j=>.mp j
  | none=>.junk
 | .fn f g l2=>match bI σ g,bI σ l2 with
  | some g,some l2=>.fn f g l2
  | _,_=>.junk
 | .agg _=>.junk
 | .flat _=>.junk
 | .tup _=>.junk
 | v=>v
def ren(σ:List Nat):AV→AV
 | .agg f=>.agg (f.map (cX σ))
 | .tup _=>.junk
 | .flat _=>.junk
 | v=>cX σ v
def dT(σ:List Nat):Obj→Obj
 | .box n v=>.box n (ren σ v)
 | .trh e m t f k v=>.trh e m t f k (ren σ v)
 | o=>o
def nodupB:List Nat→Bool
 | []=>true
 | i::r=> !r.contains i&&nodupB r
def preB(m:Nat)(σ:List Nat):Bool:=(List.range m).all fun i=>decide (σ[i]? = some i)
theorem bAI{m:Nat}{σ:List Nat}(h:preB m σ=true){i:Nat}(hi:i<m):σ[i]? = some i:=by
 have:=List.all_eq_true.1 h i (List.mem_range.2 hi);simp_all
section
variable {F:Fr} {M:Perm} {w0:World} {c:Ctx} {h:List Obj} {w:World} {env:St} {K:Act→World→Prop}
theorem bAJ{i:Nat}:∀ {σ:List Nat} {j:Nat},posOf i σ=some j→σ[j]? = some i
 | k::r,j,hp=>by
  simp only[posOf] at hp;split at hp
  ·grind
  ·split at hp
   ·rename_i g f; cases hp; simp[bAJ f]
   grind
 | [],_,hp=>by cases hp
def Ctx.ren(c:Ctx)(σ:List Nat):Ctx:=⟨c.S,fun j=>c.hd (σ.getD j 0),σ.length,fun j=>c.bl (σ.getD j 0)⟩
theorem aUU{σ:List Nat}{i j:Nat}(hp:posOf i σ=some j):j<σ.length∧(c.ren σ).hd j=c.hd i:=by
 have:=bAJ hp;have f:j<σ.length:=by
  rcases Nat.lt_or_ge j σ.length with g|g
  ·exact g
  ·rw[List.getElem?_eq_none g] at this; cases this
 refine⟨f,?_⟩;simp[Ctx.ren,List.getD_eq_getElem?_getD,this]
theorem aQQ{σ:List Nat}:∀ {l f:List Nat},bI σ l=some f→(∀j∈f,j<σ.length)∧f.map (c.ren σ).hd=l.map c.hd
 | [],f,hp=>by simp[bI] at hp; simp_all
 | i::r,f,hp=>by
  simp only[bI] at hp;split at hp
  ·rename_i j l q g;cases hp;obtain⟨L,I⟩:=aUU (c:=c) q;obtain⟨J,z⟩:=aQQ g;simp_all
  grind
theorem aUV{σ:List Nat}:∀ {v:AV} {cs:List Value},aO c w v cs→aO (c.ren σ) w (cX σ v) cs:=by
 intro v cs g;cases v<;>simp only[cX]<;>(try trivial)
 case own i =>
  split
  ·rename_i j hp;obtain⟨z,q⟩:=aUU (c:=c) hp;simp only[aO] at g ⊢;rw[q];exact⟨z,g.2⟩
  ·trivial
 case ptr i p =>
  split
  ·rename_i j hp;obtain⟨z,q⟩:=aUU (c:=c) hp;simp only[aO] at g ⊢;rw[q];exact⟨z,g.2⟩
  ·trivial
 case sub i s off n =>
  split
  ·rename_i j hp;obtain⟨z,q⟩:=aUU (c:=c) hp;simp only[aO] at g ⊢;rw[q];exact⟨z,g.2⟩
  ·trivial
 case mp i =>
  split
  ·rename_i j hp;obtain⟨z,q⟩:=aUU (c:=c) hp;simp only[aO] at g ⊢;rw[q];exact⟨z,g.2⟩
  ·trivial
 case fn f l1 l2 =>
  split
  ·rename_i J I O L;obtain⟨z,q⟩:=aQQ (c:=c) O;obtain⟨U,N⟩:=aQQ (c:=c) L;simp only[aO] at g ⊢;rw[q,N];exact⟨z,U,g.2.2⟩
  ·trivial
 all_goals exact g
theorem bD5{σ:List Nat}:∀ {vs:List AV} {cs:List Value},nD c w vs cs→nD (c.ren σ) w (vs.map (cX σ)) cs
 | [],_,q=>q
 | v::r,_,⟨c1,g,e,z,f⟩=>⟨c1,g,e,aUV z,bD5 f⟩
theorem aQR{σ:List Nat}{v:AV}{cs:List Value}(f:aO c w v cs):aO (c.ren σ) w (ren σ v) cs:=by
 cases v
 case agg vs=>exact bD5 f
 case tup=>trivial
 case flat=>trivial
 all_goals exact aUV f
theorem aT9{σ:List Nat}{v:AV}{x:Value}(q:aX c w v x):aX (c.ren σ) w (ren σ v) x:=by
 have g:zM c w v x→(ren σ v= .junk∨(ren σ v).isAgg=v.isAgg)→(∀vs,ren σ v≠ .tup vs)→(ren σ v≠ .undef∨v= .undef)→aX (c.ren σ) w (ren σ v) x:=fun J z ht N=>by
  rcases z with z|z
  ·rw[z]; trivial
  ·have I:=aQR (σ:=σ) J.1;generalize ren σ v=u at I z ht N;have O:zM (c.ren σ) w u x:=⟨I,by rw[z]; exact J.2.1,by rw[z]; exact J.2.2⟩;cases u<;>first|exact O|trivial|exact absurd rfl (ht _)|skip
   have I:x.cells.toList= [Go.undef]:=I;have L:=J.2.2;rw[← z] at L;have L:=L rfl;show x=Go.undef;simp_all[Value.cells]
 cases v
 case junk=>trivial
 case undef=>exact q
 case tup=>trivial
 case flat=>trivial
 case agg vs=>exact g q (.inr rfl) (fun _ h=>by simp[ren] at h) (.inl (by simp[ren]))
 case val=>exact g q (.inr rfl) (fun _ h=>by simp[ren,cX] at h) (.inl (by simp[ren,cX]))
 case nilS=>exact g q (.inr rfl) (fun _ h=>by simp[ren,cX] at h) (.inl (by simp[ren,cX]))
 case nilP=>exact g q (.inr rfl) (fun _ h=>by simp[ren,cX] at h) (.inl (by simp[ren,cX]))
 case full=>exact g q (.inr rfl) (fun _ h=>by simp[ren,cX] at h) (.inl (by simp[ren,cX]))
 case roa=>exact g q (.inr rfl) (fun _ h=>by simp[ren,cX] at h) (.inl (by simp[ren,cX]))
 case own i=>cases hp:posOf i σ<;>exact g q (by simp[ren,cX,hp,AV.isAgg]) (fun _ h=>by grind[ren,cX]) (.inl (by simp[ren,cX,hp]))
 case ptr i p=>cases hp:posOf i σ<;>exact g q (by simp[ren,cX,hp,AV.isAgg]) (fun _ h=>by grind[ren,cX]) (.inl (by simp[ren,cX,hp]))
 case sub i s off n=>cases hp:posOf i σ<;>exact g q (by simp[ren,cX,hp,AV.isAgg]) (fun _ h=>by grind[ren,cX]) (.inl (by simp[ren,cX,hp]))
 case mp i=>cases hp:posOf i σ<;>exact g q (by simp[ren,cX,hp,AV.isAgg]) (fun _ h=>by grind[ren,cX]) (.inl (by simp[ren,cX,hp]))
 case fn f l1 l2=>cases hp:bI σ l1<;>cases hq:bI σ l2<;>exact g q (by grind[ren,cX,AV.isAgg]) (fun _ h=>by grind[ren,cX]) (.inl (by grind[ren,cX]))
theorem bAK:∀ {σ:List Nat},nodupB σ=true→ ∀i j:Nat,∀k,σ[i]? = some k→σ[j]? = some k→i=j
 | [],_,i,j,k,hi,_=>by grind
 | a::r,hd,i,j,k,hi,f=>by
  simp only[nodupB,Bool.and_eq_true,Bool.not_eq_true',List.contains_eq_mem,decide_eq_false_iff_not] at hd;cases i with
  | zero =>
   grind
  | succ i =>
   cases j with
   | zero =>
    grind
   | succ j =>
    simp at hi f;rw[bAK hd.2 i j k hi f]
theorem aO3{σ:List Nat}{i j:Nat}(f:σ[j]? = some i)(o:Obj):fA (c.ren σ) j (dT σ o)=fA c i o:=by
 have:(c.ren σ).hd j=c.hd i:=by simp[Ctx.ren,List.getD_eq_getElem?_getD,f]
 have g:(c.ren σ).bl j=c.bl i:=by simp[Ctx.ren,List.getD_eq_getElem?_getD,f]
 funext b;cases o<;>simp[fA,dT,this,g]
theorem Good.ren(O:Good M w0 c h w){σ:List Nat}(hd:nodupB σ=true)(hp:preB M.m σ=true):Good M w0 (c.ren σ) (σ.map fun i=>dT σ (h.getD i .dead)) w:=by
 have hcase:∀j o',(σ.map fun i=>dT σ (h.getD i .dead))[j]? = some o'→ ∃i,σ[j]? = some i∧o'=dT σ (h.getD i .dead):=fun j o' z=>by
  rw[List.getElem?_map] at z;cases hs:σ[j]? with
  | none=>simp[hs] at z
  | some i=>simp[hs] at z; exact⟨i,hs,z.symm⟩
 have f:∀i,h.getD i .dead= .dead∨h[i]? = some (h.getD i .dead):=fun i=>by
  grind
 refine⟨by simp[Ctx.ren],O.keeps,O.sfin,O.src,fun j o' z=>?_,fun j o' b z hb=>?_,fun j k oj ok b z hk I J=>?_,?_,fun i hi=>?_⟩
 ·obtain⟨i,hi,rfl⟩:=hcase j o' z;have g:(c.ren σ).hd j=c.hd i:=by simp[Ctx.ren,List.getD_eq_getElem?_getD,hi]
  have U:(c.ren σ).bl j=c.bl i:=by simp[Ctx.ren,List.getD_eq_getElem?_getD,hi]
  rcases f i with e|e
  ·rw[e]; trivial
  ·have:=O.objs i _ e;revert this;generalize h.getD i .dead=o;intro this;cases o with
   | dead=>trivial
   | box n v =>
    obtain⟨b,cells,L,q1,Y,q3,q4⟩:=this;exact⟨b,cells,L,by grind,Y,q3,aQR q4⟩
   | row L t xs=>simp only[aIM,dT] at *; rw[g]; exact this
   | frz t xs=>simp only[aIM,dT] at *; rw[g]; exact this
   | map k v m =>
    obtain⟨b,es,clock,q1,Y⟩:=this;exact⟨b,es,clock,by grind,Y⟩
   | tre L m t xs=>simp only[aIM,dT] at *; rw[g,U]; exact this
   | trh L m t xs k v =>
    obtain⟨Z,Bs,q⟩:=this;exact⟨Z,Bs,⟨by rw[g]; exact q.row,q.lc,q.lb,q.kl,q.el,q.hb,fun h1=>⟨aQR (q.hv h1).1,(q.hv h1).2⟩,by rw[g]; exact q.nd,by rw[g,U]; exact q.bl⟩⟩
 ·obtain⟨i,hi,rfl⟩:=hcase j o' z;rw[aO3 hi] at hb;rcases f i with e|e
  ·rw[e] at hb; cases hb
  ·exact O.own i _ b e hb
 ·obtain⟨i,hi,rfl⟩:=hcase j oj z;obtain⟨i',N,rfl⟩:=hcase k ok hk;rw[aO3 hi] at I;rw[aO3 N] at J;rcases f i with e|e
  ·rw[e] at I; cases I
  ·rcases f i' with L|L
   ·rw[L] at J; cases J
   ·have:=O.sep i i' _ _ b e L I J;grind[bAK]
 ·rcases Nat.lt_or_ge σ.length M.m with hlt|hge
  ·have:=bAI hp hlt;simp_all
  ·exact hge
 ·have N:=bAI hp hi;have e:(c.ren σ).hd i=c.hd i:=by simp[Ctx.ren,List.getD_eq_getElem?_getD,N]
  rw[e]; exact O.root.2 i hi
theorem aLd(f:AV→AV)(g:f .junk= .junk):∀(env:St) (t:Nat),look (env.map fun p=>(p.1,f p.2)) t=f (look env t)
 | [],t=>by simp only[List.map_nil,look]; exact g.symm
 | (k,v)::r,t=>by
  simp only[List.map_cons,look];split
  ·rfl
  ·exact aLd f g r t
theorem fU(σ:List Nat)(hd:nodupB σ=true)(hp:preB F.M.m σ=true)(f:At F K (env.map fun p=>(p.1,ren σ p.2)) (σ.map fun i=>dT σ (h.getD i .dead))):At F K env h:=fun c a w hs =>
 f (c.ren σ) a w ⟨hs.good.ren hd hp,hs.glob,fun t=>by rw[aLd (ren σ) rfl]; exact aT9 (hs.env t),hs.size,hs.defers⟩
theorem aDQ{x:Code}{Q:Exit→Act→World→Prop}(σ:List Nat)(hd:nodupB σ=true)(hp:preB F.M.m σ=true)(g:Tri F x Q (env.map fun p=>(p.1,ren σ p.2)) (σ.map fun i=>dT σ (h.getD i .dead))):Tri F x Q env h:=fun f=>fU σ hd hp (g f)
theorem bFg(s:Nat)(e:TypeId)(t:Ty)(z:look env s= .nilS)(I:At F K ((s,.own h.length)::env) (h++ [.row e t []])):At F K env h:=fun c a w hs=>by
 have hv:=hs.env s;rw[z] at hv;have f:a.tmps.getD s Go.undef= .slice none 0 0:=by
  obtain⟨J,_,g⟩:=hv;have g:=g rfl;simp_all[aO,undef,Value.cells]
 have e1:(c.push (.slice none 0 0)).hd c.n= .slice none 0 0:=by simp[Ctx.push]
 have:=hs.good.push (.refl nothing w) (o:=.row e t []) (hv:=.slice none 0 0) (by
  show aCr _ _ _ _ _ _;rw[e1];exact⟨[],⟨by simp,.inl ⟨rfl,rfl⟩⟩,⟨rfl,[],rfl,rfl,fun i h=>by simp at h⟩⟩) (fun b hb=>by grind[fA,aU])
 refine I _ a w ⟨this.1,hs.glob.mono (fun _ h=>h) (.refl _ _),fun t=>?_,hs.size,hs.defers⟩;simp only[look];split
 ·rename_i q;subst q;rw[f,← hs.good.n];exact aF7 (c:=c) ⟨_,_,_,rfl⟩ (w':=w) (S':=c.S)
 ·exact this.2.val (hs.env t)
theorem bFh(i:Nat)(q:At F K (env.map fun p=>(p.1,aYN (freeze i h) p.2)) (freeze i h)):At F K env h:=fun c a w hs=>by
 obtain⟨c',f,z,g⟩:=hs.good.freeze i;refine q c' a w ⟨g,hs.glob.mono f.le.S f.same,fun t=>?_,hs.size,hs.defers⟩;rw[aLd (aYN (freeze i h)) rfl];exact bDZ g (f.val (hs.env t))
theorem aGa{x:Code}{Q:Exit→Act→World→Prop}(s:Nat)(e:TypeId)(t:Ty)(q:look env s= .nilS)(g:Tri F x Q ((s,.own h.length)::env) (h++ [.row e t []])):Tri F x Q env h:=fun f=>bFg s e t q (g f)
theorem aNR{x:Code}{Q:Exit→Act→World→Prop}(i:Nat)(g:Tri F x Q (env.map fun p=>(p.1,aYN (freeze i h) p.2)) (freeze i h)):Tri F x Q env h:=fun f=>bFh i (g f)
end
end Go.Vc
namespace Go.Vc
open Go.RowKit
section
variable {F:Fr} {M:Perm} {w0:World} {c:Ctx} {h:List Obj} {w:World} {env:St} {K:Act→World→Prop}
theorem bJh(i k:Nat){e:TypeId}{m:Mk}{t:Ty}{xs:List t.den}(z:h[i]? = some (.tre e m t xs))(g:k<xs.length)(hb:aQM t m=true)
  (I:At F K env (h.set i (.trh e m t xs k (aG3 t m (xs.getD k t.zero) h.length).1)++(aG3 t m (xs.getD k t.zero) h.length).2)):At F K env h:=fun c a w hs=>by
 obtain⟨c',f,q⟩:=hs.good.opened z g hb;exact I c' a w ⟨q,hs.glob.mono f.le.S f.same,fun s=>f.val (hs.env s),hs.size,hs.defers⟩
theorem bGx(i:Nat){e:TypeId}{m:Mk}{t:Ty}{xs:List t.den}{k:Nat}{v:AV}(x:t.den)(l:List Nat)(J:h[i]? = some (.trh e m t xs k v))(q:aBv h t m v=some (x,l))(g:aHv.nodupN l=true)(hi:l.contains i=false)
  (z:At F K env ((qJ l h).set i (.tre e m t (xs.set k x)))):At F K env h:=fun c a w hs=>by
 obtain⟨c',f,I⟩:=hs.good.closed J q (aQO g) (by simp_all);exact z c' a w ⟨I,hs.glob.mono f.le.S f.same,fun s=>f.val (hs.env s),hs.size,hs.defers⟩
theorem Good.retell(z:Good M w0 c h w){i:Nat}{o o':Obj}(ho:h[i]? = some o){S' B':Nat→Prop}(hS:∀b,S' b→c.S b∨fA c i o b)(hS1:∀b,c.S b→S' b)(hob:aIM ⟨S',c.hd,c.n,fun j=>if j=i then B' else c.bl j⟩ w i o')
  (N:∀b,fA ⟨S',c.hd,c.n,fun j=>if j=i then B' else c.bl j⟩ i o' b→fA c i o b∧ ¬S' b):∃c',eI c w c' w∧Good M w0 c' (h.set i o') w:=by
 have hil:=yS ho;have hle:c.le ⟨S',c.hd,c.n,fun j=>if j=i then B' else c.bl j⟩:=⟨hS1,Nat.le_refl _,fun _ _=>rfl⟩;have hl:eI c w ⟨S',c.hd,c.n,fun j=>if j=i then B' else c.bl j⟩ w:=⟨hle,.refl _ _⟩;have hcase:∀j f,(h.set i o')[j]? = some f→(j≠i∧h[j]? = some f)∨(j=i∧f=o'):=fun j f q=>by
  grind
 have g:∀j f,j<c.n→j≠i→fA ⟨S',c.hd,c.n,fun j=>if j=i then B' else c.bl j⟩ j f=fA c j f:=fun j f q Z=>gT hle (by grind) q f;have I:∀j f,h[j]? = some f→j<c.n:=fun j f q=>by rw[z.n]; grind
 refine⟨_,hl,⟨by simp[z.n],z.keeps,fun b hb=>?_,fun b hb hb0=>?_,fun j f q=>?_,fun j f b q hb=>?_,fun j k f ok b q hk J L=>?_,aCs z.root hle⟩⟩
 ·rcases hS b hb with hb|hb
  ·exact z.sfin b hb
  ·exact(z.own i _ b ho hb).2.1
 ·rcases hS b hb with hb|hb
  ·exact z.src b hb hb0
  ·rcases (z.own i _ b ho hb).1 with h1|h1
   all_goals grind
 ·rcases hcase j f q with⟨Z,q⟩|⟨rfl,rfl⟩
  ·exact(z.objs j f q).keep hl (I j f q) (by grind) (fun _ _=>rfl)
  omega
 ·rcases hcase j f q with⟨Z,q⟩|⟨rfl,rfl⟩
  ·rw[g j f (I j f q) Z] at hb;obtain⟨h1,h2,h3⟩:=z.own j f b q hb;refine⟨h1,h2,fun O=>?_⟩;rcases hS b O with O|O
   ·grind
   ·exact Z (z.sep j i f _ b q ho hb O)
  ·obtain⟨h1,h2⟩:=N b hb;obtain⟨q1,q2,_⟩:=z.own j _ b ho h1;simp_all
 ·rcases hcase j f q with⟨hnj,Y⟩|⟨ej,eo⟩<;>rcases hcase k ok hk with⟨hnk,U⟩|⟨ek,eo'⟩
  ·rw[g j f (I j f Y) hnj] at J;rw[g k ok (I k ok U) hnk] at L;exact z.sep j k f ok b Y U J L
  ·subst ek; subst eo';rw[g j f (I j f Y) hnj] at J;exact z.sep j k f _ b Y ho J (N b L).1
  ·subst ej; subst eo;rw[g k ok (I k ok U) hnk] at L;exact z.sep j k _ ok b ho U (N b J).1 L
  omega
section
variable {x:Code} {Q:Exit→Act→World→Prop}
theorem bGy(i k:Nat){e:TypeId}{m:Mk}{t:Ty}{xs:List t.den}(g:h[i]? = some (.tre e m t xs))(q:k<xs.length)(hb:aQM t m=true)
  (z:Tri F x Q env (h.set i (.trh e m t xs k (aG3 t m (xs.getD k t.zero) h.length).1)++(aG3 t m (xs.getD k t.zero) h.length).2)):Tri F x Q env h:=fun f=>bJh i k g q hb (z f)
end
end
attribute [go_sem] asX bF0 bLl bLm okD Ex.kind Ex.text Ex.l aYD mZ aMn aQB aHv aHv.nodupN aI1 aBv tT aCx aI0 aXS okM ownRow aNP aH3 aG3 aF9 aQM zP Ty.fldTy
end Go.Vc
namespace Go.Vc
open Go.RowKit
def gam:List (FuncId×aF)→FuncId→Option aF
 | [],_=>none
 | (k,sp)::r,f=>if k=f then some sp else gam r f
theorem bJi{l:List (FuncId×aF)}{f:FuncId}{sp:aF}(h:gam l f=some sp):(f,sp)∈l:=by
 induction l with
 | nil=>cases h
 | cons p r g =>
  grind[gam,List.mem_cons_self,List.mem_cons_of_mem]
def fnB(P:Program)(f:FuncId):Bool:=match P.funcs[f]? with
 | some fn=>decide (fn.name ≠ "runtime.NumGoroutine")&&fn.body.isSome
 | none=>false
structure bF(P:Program)(G:Nat→AV)(l:List (FuncId×aF)):Prop where
 ok:∀p∈l,(FOK P G p.1 p.2∧fnB P p.1=true)∨NOK P G p.1 p.2
theorem bF.nil{P:Program}{G:Nat→AV}:bF P G []:=⟨fun p hp=>by cases hp⟩
theorem bF.cons{P:Program}{G:Nat→AV}{l:List (FuncId×aF)}{f:FuncId}{sp:aF}(h:FOK P G f sp)(q:fnB P f=true)(g:bF P G l):bF P G ((f,sp)::l):=by
 refine⟨fun p hp=>?_⟩;rcases List.mem_cons.1 hp with rfl|hp
 ·simp_all
 ·exact g.ok p hp
theorem bF.nat{P:Program}{G:Nat→AV}{l:List (FuncId×aF)}{f:FuncId}{sp:aF}(h:NOK P G f sp)(g:bF P G l):bF P G ((f,sp)::l):=by
 refine⟨fun p hp=>?_⟩;rcases List.mem_cons.1 hp with rfl|hp
 ·grind
 ·exact g.ok p hp
theorem aUW{P:Program}{T:Tab}{G:Nat→AV}{l:List (FuncId×aF)}{el:TypeId→TypeId}(z:lZ P T)(q:∀t I,T t=some (.sl I)→P.underlying t=some (.slice (el t))){mp:TypeId→Option (TypeId×TypeId)}(g:∀t k e,mp t=some (k,e)→P.underlying t=some (.map k e)){dm:TypeId→Option Mk}{dz:TypeId→Bool}{wr:Bool}(J:bF P G l):iF P ⟨T,G,fun f _=>gam l f,el,mp,dm,dz,wr⟩ :=
 ⟨z,fun f _ sp h=>by
  rcases J.ok _ (bJi h) with⟨h,this⟩|h
  ·refine .inl ⟨h,?_⟩;unfold fnB at this;grind
  simp_all,q,g⟩
theorem bGz{P:Program}{G:Nat→AV}{f:FuncId}{a t:Ty}{pre:a.den→Prop}{fn:a.den→t.den}(h:∀(w:World) (S:Nat→Prop) (vs:List Value) (x:a.den),sD w S a x vs→pre x→ ∃us:List Value,(callFunc f vs.toArray).run P w= .ok (.value (.tuple us.toArray)) w∧sD w S t (fn x) us):NOK P G f ⟨a,.tup t,pre,fn⟩:=by
 refine⟨(fun e t h=>by cases h),fun w vs S x N L J hp=>?_⟩;obtain⟨us,z,q⟩:=h w S vs.toList x J hp;refine⟨_,w,by omega,_,rfl,.refl _ _,us,rfl,?_⟩;have hmono:∀(t:Ty) (x:t.den) (xs:List Value),sD w S t x xs→sD w (fun b=>S b∨(w.heap.size≤b∧b<w.heap.size)) t x xs:=by
  intro t
  induction t with
  | unit=>intro x xs h; exact h
  | pair a r _ I=>intro x xs ⟨v,g,e,z,q⟩; exact⟨v,g,e,z.keep (fun b hb=>.inl hb) (.refl _ _),I _ _ q⟩
  | _=>intro x xs h; exact h.elim
 simp_all
end Go.Vc
namespace Go.Vc
open Go.RowKit
def gK:List Oper→Nat→List (Nat×TypeId×Nat)
 | [],_=>[]
 | o::r,i=>match o.op,o.guard,o.dst with
  | .alloc t,none,some d=>(i,t,d)::gK r (i+1)
  | _,_,_=>gK r (i+1)
def bAL(T:Tab)(t:TypeId):Obj:=match T t with
 | some f=>.box (bxN t f) (aKQ f)
 | none=>.dead
def qK(T:Tab):List (Nat×TypeId×Nat)→St→List Obj→St×List Obj
 | [],env,h=>(env,h)
 | (_,t,d)::r,env,h=>qK T r ((d,.ptr h.length [])::env) (h++ [bAL T t])
theorem aAq:∀ {l:List Oper} {i:Nat} {p:Nat×TypeId×Nat},p∈gK l i→ ∃o,l[p.1-i]? = some o∧i≤p.1∧o.op= .alloc p.2.1∧o.guard=none∧o.dst=some p.2.2
 | [],i,p,hp=>by cases hp
 | o::r,i,p,hp=>by
  have f:p∈gK r (i+1)→ ∃o',(o::r)[p.1-i]? = some o'∧i≤p.1∧o'.op= .alloc p.2.1∧o'.guard=none∧o'.dst=some p.2.2:=fun hp=>by
   obtain⟨o',z,q,g⟩:=aAq hp;grind
  simp only[gK] at hp;grind
section
variable {P:Program} {E:Env} {M:Perm} {w0:World} {nt:Nat} {ds:List Deferred} {h:List Obj} {env:St} {pre:List Oper}
structure bD6(T:Tab)(al:List (Nat×TypeId×Nat))(w:World)(listed:Nat→Prop)(c':Ctx)(a:Act)(w':World)(B:Nat→Nat):Prop where
 size:w.heap.size≤w'.heap.size
 at_:∀p∈al,listed p.1→ ∃ct,T p.2.1=some ct∧a.tmps.getD p.2.2 Go.undef= .pointer (some ⟨B p.1,0,none⟩)∧w.heap.size≤B p.1∧B p.1<w'.heap.size∧ ¬c'.S (B p.1)∧w'.heap[B p.1]? = some (.cells (oS ct).cells p.2.1 (0,0))
 inj:∀p∈al,∀q∈al,listed p.1→listed q.1→B p.1=B q.1→p.1=q.1
theorem bD6.step{T:Tab}{w:World}{listed:Nat→Prop}{c' I:Ctx}{a g:Act}{w' L:World}{B:Nat→Nat}(z:bD6 T (gK pre 0) w listed c' a w' B){i:Nat}{o:Oper}(ho:pre[i]? = some o)(hok:iG a.tmps.size o=true)(hu:aJW pre=true)(hni:¬listed i)(hd:o.dst≠none)(hsf:∀b,c'.S b→b<w'.heap.size)
  (hs:bKX T o a c' w' I g L):∃B',bD6 T (gK pre 0) w (fun k=>listed k∨k=i) I g L B':=by
 obtain⟨v,hv,hal⟩:=hs.put;have hget:∀d,o.dst≠some d→g.tmps.getD d Go.undef=a.tmps.getD d Go.undef:=fun d hne=>by
  rw[hv];cases hdd:o.dst with
  | none=>rfl
  | some d0 =>
   simp_all[Act.put,Array.getElem?_setIfInBounds_ne]
 refine⟨fun k=>if k=i then w'.heap.size else B k,Nat.le_trans z.size hs.keeps.size,fun p hp hl=>?_,fun p hp q hq U O hB=>?_⟩
 ·obtain⟨op,h1,_,h2,h3,h4⟩:=aAq hp;simp only[Nat.sub_zero] at h1;by_cases e:p.1=i
  ·rw[e] at h1;rw[ho] at h1;cases h1;obtain⟨Y,J,q2,q3,Z⟩:=hal _ h2 h3;simp only[e,if_true];refine⟨Y,J,?_,z.size,by simp_all,fun hS=>?_,by grind[aDA]⟩
   ·simp_all[iG,Bool.and_eq_true,decide_eq_true_eq,Act.put]
   grind
  ·have hl:listed p.1:=hl.resolve_right e;obtain⟨Y,J,q2,q3,Z,q5,q6⟩:=z.at_ p hp hl;simp only[e,if_false];refine⟨Y,J,?_,q3,Nat.lt_of_lt_of_le Z hs.keeps.size,fun hS=>?_,by rw[hs.keeps.block _ Z (fun f=>f)]; exact q6⟩
   ·grind[aT5]
   ·rcases hs.new _ hS with h|h
    all_goals grind
 ·by_cases N:p.1=i<;>by_cases eq:q.1=i
  ·omega
  ·simp only[N,eq,if_true,if_false] at hB;obtain⟨Y,J,q2,q3,Z,_⟩:=z.at_ q hq (O.resolve_right eq);omega
  ·simp only[N,eq,if_true,if_false] at hB;obtain⟨Y,J,q2,q3,Z,_⟩:=z.at_ p hp (U.resolve_right N);omega
  ·simp only[N,eq,if_false] at hB;exact z.inj p hp q hq (U.resolve_right N) (O.resolve_right eq) hB
theorem Good.adopt{c:Ctx}{w:World}(g:Good M w0 c h w){b:Nat}{cells:Array Value}{e:TypeId}{v:AV}{n:Nat}(hb:w.heap[b]? = some (.cells cells e (0,0)))(hn:bIX n cells.size e)(hv:aO c w v cells.toList)(hB:w0.heap.size≤b)(hS:¬c.S b)
  (hown:∀i o,h[i]? = some o→ ¬fA c i o b):Good M w0 (c.push (.pointer (some ⟨b,0,none⟩))) (h++ [.box n v]) w∧eI c w (c.push (.pointer (some ⟨b,0,none⟩))) w:=by
 have f:eI c w (c.push (.pointer (some ⟨b,0,none⟩))) w:=⟨c.le_push _,.refl _ _⟩;have hbl:b<w.heap.size:=(Array.getElem?_eq_some_iff.1 hb).1;have L:(c.push (.pointer (some ⟨b,0,none⟩))).hd c.n= .pointer (some ⟨b,0,none⟩):=by simp[Ctx.push]
 have hcase:∀i o',(h++ [Obj.box n v])[i]? = some o'→(h[i]? = some o'∧i<c.n)∨(i=c.n∧o'=Obj.box n v):=fun i o' z=>by
  rw[g.n];grind
 refine⟨⟨by simp[Ctx.push,g.n],g.keeps,g.sfin,g.src,fun i o' z=>?_,fun i o' Z z q=>?_,fun i j oi oj Z hi hj J I=>?_,aCs g.root f.le⟩,f⟩
 ·rcases hcase i o' z with⟨z,hi⟩|⟨rfl,rfl⟩
  ·exact(g.objs i o' z).keep f hi rfl (fun _ _=>rfl)
  ·exact⟨b,cells,e,L,hb,hn,aO.keep f.le f.same _ _ hv⟩
 ·rcases hcase i o' z with⟨z,hi⟩|⟨rfl,rfl⟩
  ·rw[gT f.le rfl hi] at q;exact g.own i o' Z z q
  ·simp only[fA,L,aU,Option.some.injEq] at q;subst q;exact⟨.inl hB,hbl,hS⟩
 ·rcases hcase i oi hi with⟨U,N⟩|⟨ei,eo⟩<;>rcases hcase j oj hj with⟨hj',O⟩|⟨ej,Y⟩
  ·rw[gT f.le rfl N] at J;rw[gT f.le rfl O] at I;exact g.sep i j oi oj Z U hj' J I
  ·subst ej; subst Y;rw[gT f.le rfl N] at J;grind[fA,aU,Option.some.injEq,absurd]
  ·subst ei; subst eo;rw[gT f.le rfl O] at I;grind[fA,aU,Option.some.injEq,absurd]
  omega
theorem bJj{c:Ctx}{w:World}{f:Ty}(g:f.okB=true):aO c w (aKQ f) (oS f).cells.toList∧(oS f).cells.size=f.cells:=by
 grind[aOZ,aBJ,nE]
theorem aUX(hE:iF P E){a:Act}{w:World}:∀(L:List (Nat×TypeId×Nat)) (env:St) (h:List Obj) (c:Ctx) (B:Nat→Nat),Sim E M w0 nt ds c env h a w →
  (∀p∈L,∃f,E.T p.2.1=some f∧f.okB=true∧a.tmps.getD p.2.2 Go.undef= .pointer (some ⟨B p.1,0,none⟩)∧w0.heap.size≤B p.1∧ ¬c.S (B p.1)∧w.heap[B p.1]? = some (.cells (oS f).cells p.2.1 (0,0))∧ ∀i o,h[i]? = some o→ ¬fA c i o (B p.1)) →
  L.Pairwise (fun p q=>B p.1≠B q.1)→ ∃c',Sim E M w0 nt ds c' (qK E.T L env h).1 (qK E.T L env h).2 a w
 | [],env,h,c,B,hs,_,_=>⟨c,hs⟩
 | (i,t,d)::r,env,h,c,B,hs,J,z=>by
  obtain⟨f,q1,q2,q3,q4,Z,q6,q7⟩:=J (i,t,d) (by simp);simp only at q1 q3 q4 Z q6 q7;obtain⟨z1,z2⟩:=bJj (c:=c) (w:=w) q2;obtain⟨g1,g2⟩:=hs.good.adopt q6 (n:=bxN t f) (by grind[bFU]) z1 q4 Z q7;have g:bAL E.T t= .box (bxN t f) (aKQ f):=by simp[bAL,q1]
  rw[List.pairwise_cons] at z;have e1:(c.push (.pointer (some ⟨B i,0,none⟩))).hd c.n= .pointer (some ⟨B i,0,none⟩):=by simp[Ctx.push]
  have Y:Sim E M w0 nt ds (c.push (.pointer (some ⟨B i,0,none⟩))) ((d,.ptr h.length [])::env) (h++ [bAL E.T t]) a w:=by
   refine⟨by simp_all,hs.glob.mono (fun _ h=>h) (.refl _ _),fun t'=>?_,hs.size,hs.defers⟩;simp only[look];split
   ·rename_i e;subst e;rw[q3,← hs.good.n];exact⟨⟨Nat.lt_succ_self c.n,B i,by rw[e1]; rfl,rfl⟩,(fun h=>by cases h),(fun _ cs=>by simp)⟩
   ·exact g2.val (hs.env t')
  refine aUX hE r _ _ _ B Y (fun p hp=>?_) z.2;obtain⟨N,p1,p2,p3,p4,p5,p6,p7⟩:=J p (by simp[hp]);refine⟨N,p1,p2,p3,p4,p5,p6,fun k o O=>?_⟩;rcases Nat.lt_trichotomy k h.length with I|U|hgt
  ·rw[List.getElem?_append_left I] at O;rw[gT g2.le rfl (by rw[hs.good.n]; exact I)];simp_all
  ·subst U;simp at O;subst O;rw[g,← hs.good.n];simp only[fA,e1,aU,ne_eq,Option.some.injEq];grind
  grind
theorem bJk(hE:iF P E){ops:List Oper}{Q:Exit→Act→World→Prop}(L:∀o∈ops,iG nt o=true){K:St→List Obj→Prop}{i:Nat}(I:i<ops.length){env:St}{h:List Obj}{c:Ctx}{a:Act}{w:World}(hs:xX E ops (ops.drop i) env h K)(f:Sim E M w0 nt ds c env h a w)
  {N:Act→World→Prop} (hn:∀q h' c' a' w',xX E ops (ops.drop (i+1)) q h' K→Sim E M w0 nt ds c' q h' a' w'→N a' w'):wpOp P ops.toArray Q i N a w:=by
 rw[List.drop_eq_getElem_cons I] at hs;have g:=L ops[i] (List.getElem_mem I);have O:∀(v:Value) (av:AV),aX c w av v→Sim E M w0 nt ds c (zQ ops[i].dst av env) h (a.put ops[i].dst v) w:=fun v av hv=>f.after g ⟨.refl _ _,f.good,hv⟩;unfold wpOp;simp only[List.getElem?_toArray,List.getElem?_eq_getElem I];have hrun:((aAR E env h ops[i]).1∧xX E ops (ops.drop (i+1)) (zQ ops[i].dst (aAR E env h ops[i]).2.1 env) (aAR E env h ops[i]).2.2 K)→Region.wanted ops[i] (yielded ops.toArray a.tmps)=true→(if Region.wanted ops[i] (yielded ops.toArray a.tmps)=true then Oper.wp P ops[i] a w N Q∨(ops[i].asks P a w∧LetsOut Q) else N (a.put ops[i].dst Go.undef) w):=fun⟨h1,Z⟩ hw=>by
  rw[if_pos hw]
  left
  refine(aMx hE f g h1).wp fun v w' c' ha=>?_;exact hn _ _ c' _ w' Z (f.after g ha)
 have hskip:xX E ops (ops.drop (i+1)) (zQ ops[i].dst .undef env) h K→Region.wanted ops[i] (yielded ops.toArray a.tmps)=false→(if Region.wanted ops[i] (yielded ops.toArray a.tmps)=true then Oper.wp P ops[i] a w N Q∨(ops[i].asks P a w∧LetsOut Q) else N (a.put ops[i].dst Go.undef) w):=fun Z hw=>by
  rw[if_neg (by simp_all)];exact hn _ _ c _ w Z (O _ _ rfl)
 simp only[xX] at hs;cases Y:ops[i].guard with
 | none =>
  grind[Region.wanted]
 | some jp =>
  obtain⟨j,z⟩:=jp;rw[Y] at hs;simp only at hs;cases J:aLc ops j with
  | none=>simp_all
  | some dj =>
   rw[J] at hs;simp only at hs;have hv:=f.env dj;split at hs
   ·rename_i b hb;rw[hb] at hv;have U:=aHY hv;have hy:=aBY L f.size J U;simp only[yb] at hy;by_cases e:b=z
    ·grind[Region.wanted]
    ·have e':b= !z:=(by cases b<;>cases z<;>simp_all);grind[Region.wanted]
   ·rename_i hb;rw[hb] at hv;have hy:=aBY L f.size J (v:=Go.undef) hv;grind[Region.wanted,undef,yb]
   simp_all
def bJl(o:Oper)(k:Nat):Bool:=o.after.toList.any fun e=>Region.binds .any e&&decide (e.on=k)
def aSk:List Oper→List (List Nat)→List (List Nat)
 | [],f=>f
 | o::r,f=>aSk r (f++ [(List.range f.length).filter fun k=>bJl o k||(List.range f.length).any fun j=>bJl o j&&(f.getD j []).contains k])
def aSl(n:Nat)(ops:List Oper):Bool :=
 (ops.zipIdx.all fun p=>p.1.after.toList.all fun e=> !Region.binds .any e||decide (e.on<p.2)) &&
 ((aSk ops []).zipIdx.all fun p=>decide (p.2<n)||(List.range p.2).all fun k=>p.1.contains k)
theorem bAM{o:Oper}{k:Nat}:bJl o k=true↔ ∃e∈o.after,Region.binds .any e=true∧e.on=k:=by
 simp only[bJl,List.any_eq_true,Bool.and_eq_true,decide_eq_true_eq,Array.mem_toList_iff]
theorem bAN{ops:List Oper}:∀(r:List Oper) (f:List (List Nat)),f.length+r.length=ops.length→(∀j,ops[f.length+j]? = r[j]?) →
  (∀(i:Nat) (S:List Nat),f[i]? = some S→ ∀k∈S,∀L:Nat→Prop,(∀j o,ops[j]? = some o→L j→ ∀e∈o.after,Region.binds .any e=true→L e.on)→(∀o,ops[i]? = some o→ ∀e∈o.after,Region.binds .any e=true→L e.on)→L k) →
  (aSk r f).length=ops.length∧ ∀(i:Nat) (S:List Nat),(aSk r f)[i]? = some S→ ∀k∈S,∀L:Nat→Prop,(∀j o,ops[j]? = some o→L j→ ∀e∈o.after,Region.binds .any e=true→L e.on)→(∀o,ops[i]? = some o→ ∀e∈o.after,Region.binds .any e=true→L e.on)→L k
 | [],f,hl,_,h=>⟨by grind[aSk],h⟩
 | o::r,f,hl,hr,h=>by
  simp only[aSk];have ho:ops[f.length]? = some o:=by have:=hr 0; simp_all
  refine bAN r _ (by grind) (fun j=>by have:=hr (j+1); grind) fun i S q k g L N hi=>?_;rcases Nat.lt_trichotomy i f.length with J|Y|hgt
  ·rw[List.getElem?_append_left J] at q;exact h i S q k g L N hi
  ·subst Y;simp only[List.getElem?_concat_length,Option.some.injEq] at q;subst q;simp only[List.mem_filter,List.mem_range,Bool.or_eq_true,List.any_eq_true,Bool.and_eq_true] at g;obtain⟨_,g⟩:=g;rcases g with g|⟨j,hj,hd,hc⟩
   ·obtain⟨e,he,hb,rfl⟩:=bAM.1 g;simp_all
   ·obtain⟨e,he,hb,rfl⟩:=bAM.1 hd;have I:=hi o ho e he hb;have hj:e.on<f.length:=hj;have O:f[e.on]? = some (f.getD e.on []):=(by simp_all);exact h e.on _ O k (by simp_all) L N (fun o' U e' Z z=>N e.on o' U I e' Z z)
  grind
theorem lV{n:Nat}{ops:List Oper}(h:aSl n ops=true){i:Nat}{o:Oper}(g:ops[i]? = some o):(∀e∈o.after,Region.binds .any e=true→e.on<i) ∧
  (n≤i→ ∀L:Nat→Prop,(∀j o,ops[j]? = some o→L j→ ∀e∈o.after,Region.binds .any e=true→L e.on)→(∀e∈o.after,Region.binds .any e=true→L e.on)→ ∀k,k<i→L k):=by
 simp only[aSl,Bool.and_eq_true] at h;obtain⟨O,J⟩:=h;refine⟨fun e he hb=>?_,fun Y L U hi k z=>?_⟩
 ·have:=List.all_eq_true.1 O (o,i) (by grind);grind
 ·obtain⟨q1,N⟩:=bAN (ops:=ops) ops [] (by simp) (fun j=>by simp) (fun i S f=>by grind);have I:i<ops.length:=lV.get_lt' g;have f:(aSk ops [])[i]? = some ((aSk ops [])[i]'(by omega)):=List.getElem?_eq_getElem _;have:=List.all_eq_true.1 J (_,i) (by rw[List.mem_zipIdx_iff_getElem?]; exact f);simp only[Bool.or_eq_true,decide_eq_true_eq] at this;have:=List.all_eq_true.1 (this.resolve_left (by omega)) k (List.mem_range.2 z);exact N i _ f k (by simp_all) L U (fun Z q=>by simp_all)
where
 get_lt' {ops:List Oper} {i:Nat} {o:Oper} (g:ops[i]? = some o):i<ops.length:=by
  grind
theorem bAO(hE:iF P E){ops:List Oper}{Q:Exit→Act→World→Prop}(I:∀o∈ops,iG nt o=true){K:St→List Obj→Prop}(hK:∀env h c a w,K env h→Sim E M w0 nt ds c env h a w→Q .normal a w){n:Nat}(ht:aSl n ops=true) :
  ∀(m i:Nat),i+m=ops.length→n≤i→ ∀(listed:Array Bool),listed.size=ops.length→(∀k,k<ops.length→(listed.getD k false=true↔k<i))→ ∀(env:St) (h:List Obj) (c:Ctx) (a:Act) (w:World),xX E ops (ops.drop i) env h K→Sim E M w0 nt ds c env h a w→wpAny P .any ops.toArray Q m listed a w
 | 0,i,hi,O,listed,hsz,hl,env,h,c,a,w,hs,f=>by
  rw[List.drop_eq_nil_of_le (by omega)] at hs;refine⟨?_,hK env h c a w hs f⟩;rw[List.eq_nil_iff_forall_not_mem];grind[mem_ready,lV.get_lt']
 | m+1,i,hi,O,listed,hsz,hl,env,h,c,a,w,hs,f=>by
  have g:i<ops.length:=by omega
  have hio:ops[i]? = some ops[i]:=List.getElem?_eq_getElem g;refine⟨fun hr=>?_,fun j hj=>?_⟩
  ·exfalso;have hmem:i∈Region.ready .any ops.toArray listed:=by
    grind[mem_ready,lV]
   simp_all
  ·obtain⟨h1,o,Z,z⟩:=mem_ready.1 hj;have Z:ops[j]? = some o:=(by simp_all);have hjl:=lV.get_lt' Z;have Y:j=i:=by
    rcases Nat.lt_trichotomy j i with U|heq|hgt
    ·grind
    ·exact heq
    ·have:=(lV ht Z).2 (by omega) (fun k=>k<ops.length→listed.getD k false=true) (fun k o' J hk e N hb=>fun U=>by
      have hkl:=lV.get_lt' J;have h3:=(lV ht J).1 e N hb;grind) (fun e N hb _=>z e N hb) i hgt g
     simp_all
   subst Y;refine bJk hE I g hs f fun L h' c' a' w' hs' q=>?_;refine bAO hE I hK ht m (j+1) (by omega) (by omega) (listed.setIfInBounds j true) (by grind) (fun k hk=>?_) L h' c' a' w' hs' q;by_cases e:j=k
   ·simp_all
   ·rw[getD_set_ne false e,hl k hk];omega
theorem bGA{pre tail:List Oper}{Q:Exit→Act→World→Prop}{i:Nat}{o:Oper}(q:pre[i]? = some o)(I:∀j p,o.guard=some (j,p)→j<pre.length){K:Act→World→Prop}{a:Act}{w:World}(h:wpOp P pre.toArray Q i K a w):wpOp P (pre++tail).toArray Q i K a w:=by
 have J:i<pre.length:=lV.get_lt' q;have g:(pre++tail)[i]? = some o:=by grind
 have z:Region.wanted o (yielded (pre++tail).toArray a.tmps)=Region.wanted o (yielded pre.toArray a.tmps):=by
  cases f:o.guard with
  | none=>simp[Region.wanted,f]
  | some L =>
   obtain⟨j,p⟩:=L;have:=I j p f;simp only[Region.wanted,f,yielded,List.getElem?_toArray,List.getElem?_append_left this]
 unfold wpOp at h ⊢;simp only[List.getElem?_toArray,q,g] at h ⊢;rw[z]; exact h
theorem aQS:∀(l:List Oper) (i:Nat),(gK l i).Pairwise (fun p q=>p.1<q.1)
 | [],i=>List.Pairwise.nil
 | o::r,i=>by
  simp only[gK];split
  ·refine List.pairwise_cons.2 ⟨fun p hp=>?_,aQS r (i+1)⟩;grind[aAq]
  ·exact aQS r (i+1)
theorem aFV(n k:Nat):(Array.replicate n false).getD k false=false:=by
 by_cases h:k<n<;>simp[h]
theorem aXT(hE:iF P E)(hmix:P.follows .mixedOrders=true){pre tail:List Oper}{Q:Exit→Act→World→Prop}(hok:∀o∈pre++tail,iG nt o=true)(hu:aJW pre=true)(hany:aYK pre=true)(ht:aSl pre.length (pre++tail)=true){c:Ctx}{a:Act}{w:World}(hs:Sim E M w0 nt ds c env h a w){K':St→List Obj→Prop}
  (hv:vcA E h env pre 0 [] (fun acc=>K' (qK E.T (gK pre 0) (oJ acc env) h).1 (qK E.T (gK pre 0) (oJ acc env) h).2))
  (htail:∀env h c a w (listed:Array Bool),listed.size=(pre++tail).length→(∀k,k<(pre++tail).length→(listed.getD k false=true↔k<pre.length))→K' env h→Sim E M w0 nt ds c env h a w→wpAny P .any (pre++tail).toArray Q tail.length listed a w) {id:Nat}:(Code.region id (pre++tail).toArray true).wp P Q a w:=by
 obtain⟨F,f1,f2,f3⟩:=aIV pre 0 [] _ hv;have hF:aA3 E h env pre F:=⟨f1,fun i o z=>by simp_all⟩;simp only[Nat.zero_add] at f3;refine wp_region_any hmix ?_;have N:eI c w c { w with drawn:=w.drawn+1 }:=⟨.refl _,fun b hb=>rfl⟩;have J:Sim E M w0 nt ds c env h a { w with drawn:=w.drawn+1 } :=
  ⟨hs.good.step N rfl rfl ⟨rfl,rfl,rfl,Nat.le_refl _,fun _ _ _=>rfl⟩ (fun _ _ _ _ _=>rfl) hs.good.sfin (fun _ hb=>.inl hb),uD.mono (w:=w) (w':={ w with drawn:=w.drawn+1 }) (fun _ hb=>hb) N.same hs.glob,hs.env.keep N,hs.size,hs.defers⟩
 generalize ({ w with drawn:=w.drawn+1 }:World)=w at J;clear hs N hv;have Z:∀o∈pre,iG nt o=true:=fun o z=>hok o (by simp[z]);have hanyI:∀i o,pre[i]? = some o→(∀e∈o.after,Region.binds .any e=true→e.on<i)∧(∀j p,o.guard=some (j,p)→ ∃e∈o.after,Region.binds .any e=true∧e.on=j) ∧
   (∀t,Operand.tmp t∈o.op.operands→ ∀k ok,pre[k]? = some ok→ok.dst=some t→k=i∨(k<i∧ ∃e∈o.after,Region.binds .any e=true∧e.on=k)∨(i<k∧ ∃e∈ok.after,Region.binds .any e=true∧e.on=i)):=by
  intro i o z;have hi:i<pre.length:=by
   grind
  simp only[aYK,List.all_eq_true,List.mem_range] at hany;have:=hany i hi;rw[z] at this;simp only[Bool.and_eq_true,List.all_eq_true,Array.mem_toList_iff] at this;obtain⟨⟨h1,h2⟩,h3⟩:=this;refine⟨fun e O hb=>?_,fun j p hg=>?_,fun t ht k ok f hd=>?_⟩
  ·grind
  ·grind
  ·have:=h3 _ ht;simp only[List.all_eq_true,List.mem_range] at this;have hkl:k<pre.length:=by
    grind
   have:=this k hkl;rw[f] at this;simp only[hd,ne_eq,not_true_eq_false,decide_false,Bool.false_or,Bool.or_eq_true,decide_eq_true_eq,Bool.and_eq_true,List.any_eq_true,Array.mem_toList_iff] at this;rcases this with (h|h)|h
   all_goals simp_all
 have main:∀(I:Nat) (listed:Array Bool),listed.size=(pre++tail).length→((List.range pre.length).filter fun k=> !listed.getD k false).length=I→(∀k,pre.length≤k→listed.getD k false=false) →
   (∀k o,pre[k]? = some o→listed.getD k false=true→ ∀e∈o.after,Region.binds .any e=true→listed.getD e.on false=true) →
   ∀(c':Ctx) (a:Act) (w':World) (B:Nat→Nat),Mid E M w0 nt ds h env pre F c w (fun k=>listed.getD k false=true) c' a w'→bD6 E.T (gK pre 0) w (fun k=>listed.getD k false=true) c' a w' B→wpAny P .any (pre++tail).toArray Q (I+tail.length) listed a w':=by
  intro I
  induction I with
  | zero =>
   intro listed hsz hcnt hlate hcl c' a w' B hm hf;have g:∀k,k<pre.length→listed.getD k false=true:=fun k f=>by
    have:=List.eq_nil_of_length_eq_zero hcnt;rw[List.filter_eq_nil_iff] at this;have:=this k (List.mem_range.2 f)
    simpa using this
   have hsim:=aYL hF J.glob (aEf (l2:=fun k=>k<pre.length) (fun k f=>⟨fun _=>f,fun _=>g k f⟩) hF hm);obtain⟨c2,hsim2⟩:=aUX hE (gK pre 0) _ _ _ B hsim (fun p hp=>by
    obtain⟨o,q1,_,q2,q3,q4⟩:=aAq hp;simp only[Nat.sub_zero] at q1;have Y:p.1<pre.length:=lV.get_lt' q1;obtain⟨ct,r1,r2,r3,r4,r5,r6⟩:=hf.at_ p hp (g _ Y);obtain⟨d,s1,s2,s3,s4⟩:=hF.step p.1 o q1;have hcond:=s3 (by rw[q3]; trivial);simp only[opA,pv,q2,r1] at hcond;refine⟨ct,r1,hcond,r2,Nat.le_trans J.good.keeps.size r3,r5,r6,fun i o' ho' e=>?_⟩;rw[gT hm.later.le (congrFun hm.n.2 _) (by rw[J.good.n]; grind)] at e;have:=(J.good.own i o' _ ho' e).2.1;omega) ((aQS pre 0).imp_of_mem fun {p q} hp hq U e=>by
    obtain⟨o,q1,_⟩:=aAq hp;obtain⟨o',q1',_⟩:=aAq hq;simp only[Nat.sub_zero] at q1 q1';have:=hf.inj p hp q hq (g _ (lV.get_lt' q1)) (g _ (lV.get_lt' q1')) e;omega)
   grind
  | succ I ih =>
   intro listed hsz hcnt hlate hcl c' a w' B hm hf;rw[show I+1+tail.length=(I+tail.length)+1 from by omega];have Y:∀k,k<pre.length→(pre++tail)[k]? = pre[k]? := fun k f=>List.getElem?_append_left f;refine⟨fun hr=>?_,fun i hi=>?_⟩
   ·exfalso;have hex:∃k,k<pre.length∧listed.getD k false=false:=by
     have hne:((List.range pre.length).filter fun k=> !listed.getD k false)≠ []:=fun e=>(by grind);obtain⟨k,f⟩:=List.exists_mem_of_ne_nil _ hne;grind
    have hmin:∃k,(k<pre.length∧listed.getD k false=false)∧ ∀j,j<k→ ¬(j<pre.length∧listed.getD j false=false):=by
     obtain⟨k,f⟩:=hex
     induction k using Nat.strongRecOn with
     | _ k ihk =>
      by_cases hh:∃j,j<k∧(j<pre.length∧listed.getD j false=false)
      ·obtain⟨j,hj,hp⟩:=hh; exact ihk j hj hp
      grind
    obtain⟨k,⟨f,hun⟩,hlow⟩:=hmin;have hmem:k∈Region.ready .any (pre++tail).toArray listed:=by
     rw[mem_ready];have U:k<listed.size:=(by rw[hsz]; simp; omega);refine⟨by simp[U] at hun ⊢; exact hun,pre[k],by rw[List.getElem?_toArray,Y k f]; exact List.getElem?_eq_getElem f,fun e O hb=>?_⟩;have:=(hanyI k _ (List.getElem?_eq_getElem f)).1 e O hb;have hn:=hlow e.on this;by_cases hh:listed.getD e.on false=true
     ·exact hh
     ·exact absurd ⟨by omega,by simpa using hh⟩ hn
    grind
   ·obtain⟨h1,o,z,g⟩:=mem_ready.1 hi;have z:(pre++tail)[i]? = some o:=(by grind);have hil0:=lV.get_lt' z;have hex:∃k,k<pre.length∧listed.getD k false=false:=by
     have hne:((List.range pre.length).filter fun k=> !listed.getD k false)≠ []:=fun e=>(by grind);obtain⟨k,f⟩:=List.exists_mem_of_ne_nil _ hne;grind
    have hil:i<pre.length:=by
     rcases Nat.lt_or_ge i pre.length with h|h
     ·exact h
     ·obtain⟨k,f,hun⟩:=hex;have hk2:=(lV ht z).2 h (fun k=>listed.getD k false=true) (fun j o' ho' hj e O hb=>by
       grind) (fun e O hb=>g e O hb) k (by omega)
      grind
    rw[Y i hil] at z;have U:i<listed.size:=(by omega);have hni:¬listed.getD i false=true:=(by grind);obtain⟨a1,a2,a3⟩:=hanyI i o z;obtain⟨d,s1,_,_,_⟩:=hF.step i _ z;have hokO:=Z o (List.mem_of_getElem? z);refine bGA z (fun j p hg=>?_) ?_
    ·obtain⟨e,O,hb,hon⟩:=a2 j p hg;grind
    refine aUJ hE hF Z J.glob hm z hni (fun t ht k ok f hd=>?_) (fun j p hg=>?_) (fun k ok f hd=>aT5 hu z f hd (by grind)) fun c'' a'' w'' hm' hx=>?_
    ·rcases a3 t ht k ok f hd with h|⟨h,e,O,hb,hon⟩|⟨h,e,O,hb,hon⟩
     all_goals grind
    ·obtain⟨e,O,hb,hon⟩:=a2 j p hg;grind
    ·have L:∀k,(listed.setIfInBounds i true).getD k false=true↔(listed.getD k false=true∨k=i):=fun k=>by
      by_cases e:i=k
      ·subst e; simp[U]
      ·rw[getD_set_ne false e];exact⟨.inl,fun h=>h.resolve_right (fun h=>e h.symm)⟩
     obtain⟨B',hf'⟩:=hf.step z (by rw[hm.size]; omega) hu hni (by grind) hm.good.sfin hx;refine ih (listed.setIfInBounds i true) (by grind) ?_ (fun k f=>?_) (fun k o' f hkl e O hb=>?_) c'' a'' w'' B' (aEf (fun k _=>(L k).symm) hF hm') ⟨hf'.size,fun p hp hl=>hf'.at_ p hp ((L _).1 hl),fun p hp q hq hl1 hl2=>hf'.inj p hp q hq ((L _).1 hl1) ((L _).1 hl2)⟩
     ·have hfil:((List.range pre.length).filter fun k=> !(listed.setIfInBounds i true).getD k false)=((List.range pre.length).filter fun k=> !listed.getD k false).filter (fun k=>decide (k≠i)):=by
       rw[List.filter_filter];apply List.filter_congr;intro k _;rw[Bool.eq_iff_iff];by_cases e:k=i
       ·grind
       ·have h2:(listed.setIfInBounds i true).getD k false=listed.getD k false:=getD_set_ne false (fun h=>e h.symm);rw[h2];simp[e]
      rw[hfil];have hnd:((List.range pre.length).filter fun k=> !listed.getD k false).Nodup:=List.nodup_range.filter _;have hmem:i∈((List.range pre.length).filter fun k=> !listed.getD k false):=by
       grind
      have:=hnd.erase_eq_filter i;grind
     all_goals grind
 have hstart:=main pre.length (Array.replicate (pre++tail).length false) (by simp) (by
   grind[List.filter_eq_self,aFV]) (fun k _=>aFV _ _) (fun k o z hl=>by grind[aFV]) c a w (fun _=>0) (aEf (fun k f=>⟨False.elim,fun h=>by grind[aFV]⟩) hF (aQI J)) ⟨Nat.le_refl _,(fun p hp hl=>by grind[aFV]),(fun p hp q hq hl=>by grind[aFV])⟩
 grind
theorem bGB(L:iF P E)(f:P.follows .mixedOrders=true){pre tail:List Oper}{Q:Exit→Act→World→Prop}(z:∀o∈pre++tail,iG nt o=true)(O:aJW pre=true)(I:aYK pre=true)(ht:aSl pre.length (pre++tail)=true){c:Ctx}{a:Act}{w:World}(hs:Sim E M w0 nt ds c env h a w){K':St→List Obj→Prop}
  (hv:vcA E h env pre 0 [] (fun q=>xX E (pre++tail) tail (qK E.T (gK pre 0) (oJ q env) h).1 (qK E.T (gK pre 0) (oJ q env) h).2 K')) (N:∀env h c a w,K' env h→Sim E M w0 nt ds c env h a w→Q .normal a w) {id:Nat}:(Code.region id (pre++tail).toArray true).wp P Q a w :=
 aXT L f z O I ht hs (K':=fun env h=>xX E (pre++tail) tail env h K') hv fun env h c a w listed J U Y g =>
  bAO L z N ht tail.length pre.length (by simp) (Nat.le_refl _) listed J U env h c a w (by simp_all) g
end
end Go.Vc
namespace Go.Vc
open Go.RowKit
def bMs:List Obj→List (Nat×Obj)→List Obj
 | h,[]=>h
 | h,(i,o)::r=>bMs (h.set i o) r
def aNS(env:St)(keep:List Nat)(u:St):St:=u++keep.map fun t=>(t,look env t)
theorem bGC{α:Type}(a s:α):(List.replicate 1 a).set 0 s= [s]:=rfl
theorem bGD{α:Type}(a s k:α):((List.replicate 2 a).set 0 s).set 1 k= [s,k]:=rfl
theorem bGE{α:Type}(a s k m:α):(((List.replicate 3 a).set 0 s).set 1 k).set 2 m= [s,k,m]:=rfl
def elB(P:Program)(l:List (TypeId×Ty))(el:TypeId→TypeId):Bool:=l.all fun p=>match p.2 with
 | .sl _=>match P.underlying p.1 with
  | some (.slice e)=>decide (e=el p.1)
  | _=>false
 | _=>true
theorem bJm{P:Program}{l:List (TypeId×Ty)}{el:TypeId→TypeId}(h:elB P l el=true):∀t f,aMW l t=some (.sl f)→P.underlying t=some (.slice (el t)):=fun t f ht=>by
 have:=List.all_eq_true.1 h _ (aXE ht);grind
section
variable {F:Fr} {Q:Exit→Act→World→Prop} {env:St} {h:List Obj}
theorem aXU{x:Code}(f:Tri F x (Exit.noGoto Q) env h):Tri F (.scope x) Q env h:=fun g c a w hs =>
 wp_scope_straight (f (by grind[iT]) c a w hs)
theorem aYR(hq:At F (Q .ret) env h):At F (Exit.noGoto Q .ret) env h:=hq
end
end Go.Vc

