import Derived.Test.YtlijgfkkmamanaaGreatDoorZS5
import Derived.Test.YtlijgfkkmamanaaGreatDoorZS2
import Derived.Test.YtlijgfkkmamanaaGreatDoorZS3
import Derived.Test.YtlijgfkkmamanaaGreatDoorZS4
set_option linter.unusedVariables false
set_option linter.unusedSimpArgs false
namespace Go.Proofs
open Go.Vc
set_option maxRecDepth 20000
namespace Nu
theorem bM6(w:List Nat):aAm .str (aCq .str (aCq .str (aCq .str ([]:List vm) (aQ ⟨#[115,113,114]⟩) (11:Int)) (aQ ⟨#[115,113,114,116]⟩) (12:Int)) (aQ ⟨#[101,120,112]⟩) (13:Int)) w=bDi w:=by
 have e:aCq .str (aCq .str (aCq .str ([]:List vm) (aQ ⟨#[115,113,114]⟩) (11:Int)) (aQ ⟨#[115,113,114,116]⟩) (12:Int)) (aQ ⟨#[101,120,112]⟩) (13:Int)= [([115,113,114],11),([115,113,114,116],12),([101,120,112],13)]:=by decide
 simp_all[aAm,bDi,Ty.eqb,decide_eq_true_eq]
theorem aL7{s:List Nat}{p n:Nat}{x y:Option CR}{r:PR}(h:x=y)(c:Cor s p n y r):Cor s p n x r:=by simp_all
theorem bBT{s:List Nat}{p n:Nat}{x:Option CR}{f:CR→Option CR}{r:PR}(c:Cor s p n x r)(g:∀y,f y=some y):Cor s p n (x.bind f) r:=by
 cases r with
 | inl z =>
  obtain⟨N,O⟩:=z;obtain⟨b1,J,I,q,L⟩:=c;exact⟨b1,J,I,q,aZ L (g _)⟩
 | inr z=>exact⟨c.1,aZ c.2 (g _)⟩
theorem bDk{s:List Nat}(hs:s.length≤1099511627776):∀n,Gd s (hZ none n) (wT s n)
 | 0=>fun p n r hp hn f=>by cases f
 | k+1=>fun p n r hp hn f=>by
  have Y:=bDk hs k;have O:=aEY s p hp;show Cor s p n (kB none (hZ none k) (st s p n)) r;generalize hg:hZ none k=g at Y;rw[wT] at f;unfold kB;have Z:aQ ⟨#[45]⟩= [45]:=rfl;rw[Z];by_cases h:aL5 s [45] (skp s p)
  ·rw[if_pos h] at f;have U:=h.1;refine aL7 (aZ (bDh hs hp h) (ify rfl rfl)) ?_;refine aQd (p:=skp s p+1) f (fun r' h=>Y _ n r' (by omega) (by omega) h) (fun e q L U N J I=>?_) (fun z=>rfl);obtain rfl:=Option.some.inj I;exact⟨by omega,N,L+1,by omega,aZ (aL6 _ _ _ s q L (by omega)) rfl⟩
  ·rw[if_neg h] at f;refine aL7 (aZ (bH8 hs hp h) (ifn xAf rfl)) ?_;generalize hq:skp s p=q at O f;refine Cor.mv (n':=n) O.1 (by omega) ?_;unfold aWf at f;by_cases U:s.length≤q
   ·rw[if_pos U] at f;obtain rfl:=Option.some.inj f;exact⟨O.2,ify (by grind) rfl⟩
   ·rw[if_neg U] at f;refine aL7 (ifn (by grind) (aE (by simp_all) rfl)) ?_;have hc:(q:Int).toNat=q:=(by omega);by_cases N:s.getD q 0=40
    ·rw[if_pos N] at f;refine aL7 (ify (by simp_all) rfl) ?_;exact bBT (bLm hs Y q n r O.2 (by omega) f) (fun y=>by grind)
    ·rw[if_neg N] at f;refine aL7 (ifn (by simp_all) (aE (by simp_all) (aE rfl rfl))) ?_;by_cases J:aKd (s.getD q 0)=true
     ·rw[if_pos J] at f;have I:¬aKu (aQ aBJ) (s.getD q 0)<0:=fun e=>(bIc _).1 e J;refine aL7 (ifn (by simp only[aMs,hc,Option.getD_some]; exact I) (aZ (bKw hs O.2) rfl)) ?_;unfold bBR at f;simp only[bM6];have hw:=aWe gW s q;have hw1:1≤run gW s q:=(by grind[aRU,gW]);cases hf:bDi (aHR s q) with
      | none =>
       rw[hf] at f;obtain rfl:=Option.some.inj f;exact⟨by omega,by omega,n+1,by omega,(ifn xAf (aZ (aL6 _ _ _ s _ n (by omega)) rfl))⟩
      | some kd =>
       rw[hf] at f;refine aL7 (ify rfl rfl) ?_;have f:aDq (pIn (wT s k) s (q+run gW s q)) (fun e z=>some (.inl (Ex.mk kd [] [e],z)))=some r:=f;refine aQd (p:=q+run gW s q) f (fun r' h=>bLm hs Y _ n r' (by omega) (by omega) h) (fun e q' L U N J I=>?_) (fun z=>rfl);obtain rfl:=Option.some.inj I;exact⟨by omega,N,L+1,by omega,aZ (aL6 _ _ _ s q' L (by omega)) rfl⟩
     ·rw[if_neg J] at f;have I:aKu (aQ aBJ) (s.getD q 0)<0:=(bIc _).2 J;refine aL7 (ify (by simp only[aMs,hc,Option.getD_some]; exact I) rfl) ?_;grind[bBT,bMg]
theorem bKx{s:List Nat}(hs:s.length≤1099511627776){e:Ex}{q:Nat}(h:aZT (wT s 1100) s 0=some (.inl (e,q)))(hq:skp s q=s.length)(I:oJ none e=some true):iR none s=some (e,0,0,()):=by
 have:=bDj hs (bDk hs 1100) 0 0 _ (by omega) (by omega) h;obtain⟨J,g,f,L,z⟩:=this;unfold iR;refine aZ z ?_;refine aZ (aT7 s hs _ q f rfl g) (ifn (by simp_all) ?_);exact aE (by simp_all) (ifn (by simp_all) rfl)
def Tx(s:List Nat)(p:Nat)(x r:List Nat):Prop:=p≤s.length∧s.drop p=x++r
theorem Tx.len{s x r:List Nat}{p:Nat}(h:Tx s p x r):s.length=p+x.length+r.length:=by
 have:=congrArg List.length h.2;rw[List.length_drop,List.length_append] at this;have:=h.1;omega
theorem Tx.get{s x r:List Nat}{p:Nat}(h:Tx s p x r)(j:Nat):s.getD (p+j) 0=(x++r).getD j 0:=by
 rw[← h.2];simp_all
theorem Tx.app{s x y r:List Nat}{p:Nat}(h:Tx s p (x++y) r):Tx s p x (y++r)∧Tx s (p+x.length) y r:=by
 have f:=h.len;rw[List.length_append] at f;refine⟨⟨h.1,by rw[h.2,List.append_assoc]⟩,⟨by omega,?_⟩⟩;rw[← List.drop_drop,h.2,List.append_assoc,List.drop_left]
theorem Tx.head{s x r:List Nat}{p c:Nat}(h:Tx s p (c::x) r):p<s.length∧s.getD p 0=c:=by
 have f:=h.len;have:=h.get 0;grind
theorem Tx.run{s x r:List Nat}{p:Nat}{q:Nat→Bool}(h:Tx s p x r):run q s p=((x++r).takeWhile q).length:=by
 unfold Nu.run; rw[h.2]
theorem aDH{s:List Nat}{p:Nat}(h:p<s.length→s.getD p 0≠32):skp s p=p:=by
 grind[skp,aT6,aZS,beq_eq_false_iff_ne]
theorem aT9{s:List Nat}{p:Nat}(h:p<s.length)(f:s.getD p 0=32):skp s p=skp s (p+1):=by
 unfold skp;rw[aRU h (by rw[f]; rfl)];omega
theorem bEH(s:List Nat)(p:Nat):skp s (skp s p)=skp s p:=by
 refine aDH fun q f=>?_;have hd:aZS (s.getD (skp s p) 0)=true:=by rw[f]; rfl
 have g:∀k p,k=s.length-p→skp s p<s.length→aZS (s.getD (skp s p) 0)=true→False:=by
  intro k
  induction k with
  | zero=>grind[skp]
  | succ k L =>
   intro p z I J;by_cases hb:aZS (s.getD p 0)=true
   ·have e:skp s p=skp s (p+1):=(by grind[skp,aRU]);grind
   grind[skp,aT6]
 grind
theorem bEI{one:Nat→Option PR}{s:List Nat}{a b:Nat}{ka kb:Int}(f:Nat)(e:Ex){p q:Nat}(h:skp s p=skp s q):aDG one s a b ka kb f e p=aDG one s a b ka kb f e q:=by
 cases f with
 | zero=>rfl
 | succ f=>grind[aDG]
theorem aUa{one:Nat→Option PR}{s:List Nat}{a b:Nat}{ka kb:Int}(f:Nat)(e:Ex){p:Nat}(h:¬aL5 s [a,b] (skp s p)):aDG one s a b ka kb (f+1) e p=some (.inl (e,skp s p)):=by
 rw[aDG,if_neg h]
theorem row_one{one:Nat→Option PR}{s:List Nat}{a b:Nat}{ka kb:Int}(f:Nat)(e r:Ex){p q c:Nat}{k:Int}(J:skp s p<s.length)(I:s.getD (skp s p) 0=c)(hc:c=a∨c=b)(z:(if c=a then ka else kb)=k)(g:one (skp s p+1)=some (.inl (r,q))) :
  aDG one s a b ka kb (f+1) e p=aDG one s a b ka kb f (Ex.mk k [] [e,r]) q:=by
 rw[aDG,if_pos ⟨J,by simp_all⟩,g,I,z];rfl
def Bd:List Nat→Prop
 | []=>True
 | c::_=>c=32∨c=41
def aWg(t:List Nat):Prop:=(∃c r,t=c::r∧aKd c=true)∧(∀c∈t,gW c=true)∧bDi t=none
def bId(t:List Nat):Prop:=t.length≤60∧(∃c r,t=c::r∧oB c=true)∧ ∀s p r,Tx s p t r→Bd r→aCj s p=t.length
inductive W:Nat→Ex→Prop
 | num (n:Nat) (t:List Nat):bId t→W (n+1) (Ex.mk 1 t [])
 | name (n:Nat) (t:List Nat):aWg t→W (n+1) (Ex.mk 2 t [])
 | two (n:Nat) (k:Int) (a b:Ex):6≤k→k≤9→W n a→W n b→W (n+1) (Ex.mk k [] [a,b])
 | neg (n:Nat) (a:Ex):W n a→W (n+1) (Ex.mk 10 [] [a])
 | fn (n:Nat) (k:Int) (a:Ex):11≤k→k≤13→W n a→W (n+1) (Ex.mk k [] [a])
def par(b:Prop)[Decidable b](t:List Nat):List Nat:=if b then [40]++(t++ [41]) else t
abbrev nE(e:Ex):Prop:=e.kind=6∨e.kind=7
abbrev qH(e:Ex):Prop:=6≤e.kind∧e.kind≤9
abbrev kid(e:Ex)(i:Nat):Ex:=e.l.getD i (Ex.mk 0 [] [])
def fnT(k:Int):List Nat:=if k=11 then [115,113,114] else if k=12 then [115,113,114,116] else [101,120,112]
def sgT(k:Int):Nat:=if k=6 then 43 else if k=7 then 45 else if k=8 then 42 else 47
def tx:Nat→Ex→List Nat
 | 0,_=>[]
 | n+1,e =>
  if e.kind=6∨e.kind=7 then tx n (kid e 0)++([32,sgT e.kind,32]++par (nE (kid e 1)) (tx n (kid e 1)))
  else if e.kind=8∨e.kind=9 then par (nE (kid e 0)) (tx n (kid e 0))++([32,sgT e.kind,32]++par (qH (kid e 1)) (tx n (kid e 1)))
  else if e.kind=10 then [45]++par (qH (kid e 0)) (tx n (kid e 0))
  else if 11≤e.kind∧e.kind≤13 then fnT e.kind++par True (tx n (kid e 0))
  else e.text
theorem aRV{n:Nat}{k:Int}{a b:Ex}(h:k=6∨k=7):tx (n+1) (Ex.mk k [] [a,b])=tx n a++([32,sgT k,32]++par (nE b) (tx n b)):=by
 rw[tx]; exact ify h rfl
theorem aMt{n:Nat}{k:Int}{a b:Ex}(h:k=8∨k=9):tx (n+1) (Ex.mk k [] [a,b])=par (nE a) (tx n a)++([32,sgT k,32]++par (qH b) (tx n b)):=by
 rw[tx]; exact ifn (by grind[Ex.kind]) (ify h rfl)
theorem bDl{n:Nat}{a:Ex}:tx (n+1) (Ex.mk 10 [] [a])= [45]++par (qH a) (tx n a):=rfl
theorem bEJ{n:Nat}{k:Int}{a:Ex}(g:11≤k)(f:k≤13):tx (n+1) (Ex.mk k [] [a])=fnT k++par True (tx n a):=by
 rw[tx]; exact ifn (by grind[Ex.kind]) (ifn (by grind[Ex.kind]) (ifn (by grind[Ex.kind]) (ify ⟨g,f⟩ rfl)))
theorem aQe{b:Prop}[Decidable b]{t:List Nat}(h:∃c r,t=c::r∧c≠32)(u:List Nat):∃c r,par b t++u=c::r∧c≠32:=by
 obtain⟨c,r,rfl,hc⟩:=h;unfold par;split
 all_goals simp_all
theorem aMu:∀ {n:Nat} {e:Ex},W n e→ ∃c r,tx n e=c::r∧c≠32:=by
 intro n e h
 induction h with
 | num n t h=>obtain⟨_,⟨c,r,rfl,hc⟩,_⟩:=h; exact⟨c,r,rfl,fun e=>by subst e; cases hc⟩
 | name n t h=>obtain⟨⟨c,r,rfl,hc⟩,_⟩:=h; exact⟨c,r,rfl,fun e=>by subst e; cases hc⟩
 | two n k a b q g z hb f I =>
  by_cases J:k=6∨k=7
  ·rw[aRV J];grind
  ·rw[aMt (by omega)];exact aQe f _
 | neg n a z f=>exact⟨45,_,rfl,by decide⟩
 | fn n k a q g z f =>
  rw[bEJ q g];unfold fnT;grind
def so:Nat→Ex→Nat
 | 0,_=>0
 | n+1,e=>if e.kind=6∨e.kind=7 then so n (kid e 0)+1 else 0
def po:Nat→Ex→Nat
 | 0,_=>0
 | n+1,e=>if e.kind=8∨e.kind=9 then (if nE (kid e 0) then 0 else po n (kid e 0))+1 else 0
theorem bIe:∀n e,so n e≤(tx n e).length
 | 0,_=>Nat.le_refl _
 | n+1,e=>by
  have:=bIe n (kid e 0);grind[so,tx,List.length_append,List.length_cons]
theorem bLn:∀n e,po n e≤(tx n e).length
 | 0,_=>Nat.le_refl _
 | n+1,e=>by
  have:=bLn n (kid e 0);rw[po,tx];split
  ·rename_i h;have f:¬(e.kind=6∨e.kind=7):=(by omega);rw[if_neg f];simp only[List.length_append,List.length_cons];split
   ·omega
   ·rename_i g;rw[par,if_neg g]; omega
  ·omega
def bBU(s:List Nat)(q:Nat):Prop:=¬aL5 s [42,47] (skp s q)
structure Rd(s:List Nat)(k p n:Nat)(e:Ex)(p0:Nat):Prop where
 S:bBU s (p0+(tx n e).length)→ ∀f,aDq (aKe (wT s k) s p) (aDG (aKe (wT s k) s) s 43 45 6 7 (f+so n e))=aDG (aKe (wT s k) s) s 43 45 6 7 f e (p0+(tx n e).length)
 P:¬nE e→ ∀f,aDq (wT s k p) (aDG (wT s k) s 42 47 8 9 (f+po n e))=aDG (wT s k) s 42 47 8 9 f e (p0+(tx n e).length)
 F:¬qH e→wT s k p=some (.inl (e,p0+(tx n e).length))
def bBV(n:Nat):Prop:=∀e,W n e→ ∀s k p p0 r,2*n≤k+1→skp s p=p0→Tx s p0 (tx n e) r→Bd r→Rd s k p n e p0
section
variable {s:List Nat} {k p n p0:Nat} {e:Ex} {r:List Nat}
theorem bEK(g:Tx s p0 (tx n e) r)(hP:∀f,aDq (wT s k p) (aDG (wT s k) s 42 47 8 9 (f+po n e))=aDG (wT s k) s 42 47 8 9 f e (p0+(tx n e).length))(hm:bBU s (p0+(tx n e).length)) :
  aKe (wT s k) s p=some (.inl (e,skp s (p0+(tx n e).length))):=by
 have q:=g.len;have hp:=bLn n e;have:=hP (s.length-po n e+1);rw[show s.length-po n e+1+po n e=s.length+1 from by omega] at this;unfold aKe;rw[this,aUa _ _ hm]
theorem Rd.ofP(q:Tx s p0 (tx n e) r)(hs:so n e=0)(hP:¬nE e→ ∀f,aDq (wT s k p) (aDG (wT s k) s 42 47 8 9 (f+po n e))=aDG (wT s k) s 42 47 8 9 f e (p0+(tx n e).length))
  (g:¬nE e) (hF:¬qH e→wT s k p=some (.inl (e,p0+(tx n e).length))):Rd s k p n e p0 where
 S hm f:=by
  rw[bEK q (hP g) hm,hs];exact bEI _ _ (bEH _ _)
 P:=hP
 F:=hF
theorem Rd.ofF(g:Tx s p0 (tx n e) r)(hs:so n e=0)(hp:po n e=0)(q:¬qH e)(hF:wT s k p=some (.inl (e,p0+(tx n e).length))):Rd s k p n e p0 :=
 Rd.ofP g hs (fun _ f=>by rw[hF,hp]; rfl) (fun h=>q (by omega)) (fun _=>hF)
theorem bBW(t:List Nat):par True t= [40]++(t++ [41]):=if_pos trivial
theorem bLo(Z:bBV n)(z:W n e)(N:2*n≤k+1)(hp:skp s p=p0)(g:Tx s p0 (par True (tx n e)) r):pIn (wT s k) s p=some (.inl (e,p0+(par True (tx n e)).length)):=by
 rw[bBW] at g;obtain⟨h1,U⟩:=g.app;obtain⟨q,I⟩:=U.app;obtain⟨c,u,hc,O⟩:=aMu z;have Y:=g.head;have hl:=g.len;have hh:skp s (p0+1)=p0+1:=aDH fun _=>by
  have:=q.get 0;simp_all
 have L:=I.head;have rd:=Z e z s k (p0+1) (p0+1) ([41]++r) N hh q (.inr rfl);have hq:skp s (p0+1+(tx n e).length)=p0+1+(tx n e).length:=aDH fun _=>by
  grind
 have hm:bBU s (p0+1+(tx n e).length):=by
  unfold bBU;rw[hq];rintro⟨_,h⟩;grind
 have J:=bIe n e;have f:aZT (wT s k) s (p0+1)=some (.inl (e,p0+1+(tx n e).length)):=by
  unfold aZT;have:=rd.S hm (s.length-so n e+1);rw[show s.length-so n e+1+so n e=s.length+1 from by omega] at this;rw[this,aUa,hq];rw[hq];rintro⟨_,h⟩;grind
 unfold pIn;rw[hp,if_pos ⟨Y.1,by grind⟩,f];show (if aL5 s [41] (skp s (p0+1+(tx n e).length)) then _ else _)=_;rw[hq,if_pos ⟨L.1,by
  grind⟩,bBW]
 grind
theorem bIf(J:bBV n)(N:W n e)(L:2*n≤k)(z:1≤k)(hp:skp s p=p0)(I:Tx s p0 (par True (tx n e)) r):wT s k p=some (.inl (e,p0+(par True (tx n e)).length)):=by
 obtain⟨k,rfl⟩:∃j,k=j+1:=⟨k-1,by omega⟩;have f:=I;rw[bBW] at f;have q:=f.head;have g:skp s p0=p0:=aDH fun _=>by omega
 rw[wT,hp,if_neg (fun h=>by have:=h.2; grind),aWf,if_neg (by omega),if_pos q.2];grind[bLo]
theorem bIg(z:bBV n)(g:W n e)(I:2*n≤k)(q:1≤k)(hp:skp s p=p0){c:Prop}[Decidable c](hc:¬c→ ¬qH e)(f:Tx s p0 (par c (tx n e)) r)(hb:Bd r):wT s k p=some (.inl (e,p0+(par c (tx n e)).length)):=by
 by_cases h:c
 ·have e1:par c (tx n e)=par True (tx n e):=by simp_all
  grind[bIf]
 ·have e1:par c (tx n e)=tx n e:=if_neg h;rw[e1] at f ⊢;exact(z e g s k p p0 r (by omega) hp f hb).F (hc h)
theorem bIh(z:bBV n)(q:W n e)(I:2*n≤k)(g:1≤k)(hp:skp s p=p0)(f:Tx s p0 (par (nE e) (tx n e)) r)(hb:Bd r)(hm:bBU s (p0+(par (nE e) (tx n e)).length)) :
  aKe (wT s k) s p=some (.inl (e,skp s (p0+(par (nE e) (tx n e)).length))):=by
 by_cases h:nE e
 ·have e1:par (nE e) (tx n e)=par True (tx n e):=by simp_all
  rw[e1] at f hm ⊢;unfold aKe;rw[bIf z q I g hp f];exact aUa _ _ hm
 ·have e1:par (nE e) (tx n e)=tx n e:=if_neg h;rw[e1] at f hm ⊢;exact bEK f ((z e q s k p p0 r (by omega) hp f hb).P h) hm
end
theorem W.pos{n:Nat}{e:Ex}(h:W n e):1≤n:=by cases h<;>omega
theorem bMh{n:Nat}{e:Ex}(h:¬(6≤e.kind∧e.kind≤9)):so n e=0∧po n e=0:=by
 cases n with
 | zero=>exact⟨rfl,rfl⟩
 | succ n=>exact⟨if_neg (by omega),if_neg (by omega)⟩
theorem bIi:∀n,bBV n
 | 0=>fun e hw=>by cases hw
 | n+1=>fun e hw s k p p0 r hk hp g hb=>by
  have ih:=bIi n;obtain⟨k,rfl⟩:∃j,k=j+1:=⟨k-1,by omega⟩;have hl:=g.len;cases hw with
  | num _ t ht =>
   obtain⟨h60,⟨c,u,rfl,hc⟩,hlong⟩:=ht;have htx:tx (n+1) (Ex.mk 1 (c::u) [])=c::u:=rfl;refine Rd.ofF g rfl rfl (fun h=>absurd h.1 (by show ¬(6:Int)≤1; decide)) ?_;rw[htx] at g ⊢;have a1:=g.head;have hlo:=hlong s p0 r g hb;have hd:p0+(c::u).length≤s.length:=(by simp_all);have hne:aKd c=false:=by
    simp only[oB,decide_eq_true_eq] at hc;grind[aKd,decide_eq_false_iff_not]
   have hc':48≤c∧c≤57:=(by grind[oB]);rw[wT,hp,if_neg (fun h=>by have:=h.2; grind),aWf,if_neg (by omega),if_neg (by omega),if_neg (by grind),bIa,hlo,if_neg (by simp_all)];have:(s.drop p0).take (c::u).length=c::u:=(by rw[g.2,List.take_left]);rw[this]
  | name _ t ht =>
   obtain⟨⟨c,u,rfl,hc⟩,hall,hfn⟩:=ht;have htx:tx (n+1) (Ex.mk 2 (c::u) [])=c::u:=rfl;refine Rd.ofF g rfl rfl (fun h=>absurd h.1 (by show ¬(6:Int)≤2; decide)) ?_;rw[htx] at g ⊢;have a1:=g.head;have I:Nu.run gW s p0=(c::u).length:=by
    rw[g.run];have:((c::u)++r).takeWhile gW=c::u:=by
     rw[List.takeWhile_append_of_pos hall];cases r with
     | nil=>simp
     | cons d v =>
      have hd:gW d=false:=by
       rcases hb with rfl|rfl<;>decide
      simp_all
    rw[this]
   have hw:aHR s p0=c::u:=(by unfold aHR; rw[I,g.2,List.take_left]);have hc':97≤c∧c≤122:=(by grind[aKd]);rw[wT,hp,if_neg (fun h=>by have:=h.2; grind),aWf,if_neg (by omega),if_neg (by omega),if_pos (by grind),bBR,hw,hfn,I]
  | two _ kd a b h1 h2 ha hb' =>
   have hn1:=ha.pos;by_cases hs:kd=6∨kd=7
   ·rw[aRV hs] at g;have hlt:tx (n+1) (Ex.mk kd [] [a,b])=tx n a++([32,sgT kd,32]++par (nE b) (tx n b)):=aRV hs;obtain⟨L,t2⟩:=g.app;obtain⟨t3,t4⟩:=t2.app;have g0:=t3.head;have g1:=t3.get 1;have g2:=t3.get 2;have hl3:=t3.len;have hsg:sgT kd=43∨sgT kd=45:=(by rcases hs with rfl|rfl<;>decide);have q:skp s (p0+(tx n a).length)=p0+(tx n a).length+1:=by
     grind[aT9,aDH,tx,sgT]
    have hc:s.getD (p0+(tx n a).length+1) 0=sgT kd:=(by simp_all);have hc2:s.getD (p0+(tx n a).length+2) 0=32:=(by simp_all);have hlt1:p0+(tx n a).length+3≤s.length:=by
     grind
    have rda:=ih a ha s (k+1) p p0 ([32,sgT kd,32]++par (nE b) (tx n b)++r) (by omega) hp L (.inl rfl);have hma:bBU s (p0+(tx n a).length):=by
     unfold bBU;rw[q];rintro⟨_,h⟩;grind
    have Z:Tx s (p0+(tx n a).length+3) (par (nE b) (tx n b)) r:=t4;obtain⟨cb,ub,z,hcb2⟩:=aQe (b:=nE b) (aMu hb') [];rw[List.append_nil] at z;have Y:skp s (p0+(tx n a).length+1+1)=p0+(tx n a).length+3:=by
     rw[aT9 (by omega) hc2];exact aDH fun _=>by
      have:=Z;rw[z] at this;rw[this.head.2]; omega
    have U:(tx (n+1) (Ex.mk kd [] [a,b])).length=(tx n a).length+3+(par (nE b) (tx n b)).length:=by
     grind
    refine⟨fun hm f=>?_,fun h=>absurd hs h,fun h=>absurd ⟨h1,h2⟩ h⟩;rw[U] at hm ⊢;have hm':bBU s (p0+(tx n a).length+3+(par (nE b) (tx n b)).length):=by
     grind
    have hso:so (n+1) (Ex.mk kd [] [a,b])=so n a+1:=if_pos hs;have step:=rda.S hma (f+1);rw[hso,show f+(so n a+1)=f+1+so n a from by omega,step];rw[row_one (k:=kd) (c:=sgT kd) f a b (by omega) (by simp_all) hsg (by rcases hs with rfl|rfl<;>rfl) (by rw[q]; exact bIh ih hb' (by omega) (by omega) Y Z hb hm')];grind[bEI,bEH]
   ·have N:kd=8∨kd=9:=(by omega);rw[aMt N] at g;have hlt:tx (n+1) (Ex.mk kd [] [a,b])=par (nE a) (tx n a)++([32,sgT kd,32]++par (qH b) (tx n b)):=aMt N;obtain⟨L,t2⟩:=g.app;obtain⟨t3,t4⟩:=t2.app;generalize hA:(par (nE a) (tx n a)).length=J at *;have g0:=t3.head;have g1:=t3.get 1;have g2:=t3.get 2;have hl3:=t3.len;have hsg:sgT kd=42∨sgT kd=47:=(by rcases N with rfl|rfl<;>decide);have hc:s.getD (p0+J+1) 0=sgT kd:=(by simp_all);have hc2:s.getD (p0+J+2) 0=32:=(by simp_all);have q:skp s (p0+J)=p0+J+1:=by
     grind[aT9,aDH]
    have hlt1:p0+J+3≤s.length:=by
     grind
    have Z:Tx s (p0+J+3) (par (qH b) (tx n b)) r:=t4;obtain⟨cb,ub,z,hcb2⟩:=aQe (b:=qH b) (aMu hb') [];rw[List.append_nil] at z;have Y:skp s (p0+J+1+1)=p0+J+3:=by
     rw[aT9 (by omega) hc2];exact aDH fun _=>by
      have:=Z;rw[z] at this;rw[this.head.2]; omega
    have U:(tx (n+1) (Ex.mk kd [] [a,b])).length=J+3+(par (qH b) (tx n b)).length:=by
     grind
    have hT':Tx s p0 (tx (n+1) (Ex.mk kd [] [a,b])) r:=(by simp_all);have hns:¬nE (Ex.mk kd [] [a,b]):=hs;refine Rd.ofP hT' (if_neg hs) (fun _ f=>?_) hns (fun h=>absurd ⟨h1,h2⟩ h);rw[U];have hb2:wT s (k+1) (p0+J+1+1)=some (.inl (b,p0+J+3+(par (qH b) (tx n b)).length)):=bIg ih hb' (by omega) (by omega) Y (fun h=>h) Z hb;have hpo:po (n+1) (Ex.mk kd [] [a,b])=(if nE a then 0 else po n a)+1:=if_pos N;have hfirst:∀f,aDq (wT s (k+1) p) (aDG (wT s (k+1)) s 42 47 8 9 (f+(if nE a then 0 else po n a)))=aDG (wT s (k+1)) s 42 47 8 9 f a (p0+J):=fun f=>by
     by_cases ha2:nE a
     ·have e1:par (nE a) (tx n a)=par True (tx n a):=(by simp_all);rw[e1] at L hA;rw[bIf ih ha (by omega) (by omega) hp L,if_pos ha2,hA];rfl
     ·have e1:par (nE a) (tx n a)=tx n a:=if_neg ha2;rw[e1] at L hA;have:=(ih a ha s (k+1) p p0 ([32,sgT kd,32]++par (qH b) (tx n b)++r) (by omega) hp L (.inl rfl)).P ha2 f;grind
    rw[hpo,show f+((if nE a then 0 else po n a)+1)=f+1+(if nE a then 0 else po n a) from by omega,hfirst (f+1)];rw[row_one (k:=kd) (c:=sgT kd) f a b (by omega) (by simp_all) hsg (by rcases N with rfl|rfl<;>rfl) (by rw[q]; exact hb2)];grind
  | neg _ a ha =>
   have hn1:=ha.pos;refine Rd.ofF g rfl rfl (fun h=>absurd h.2 (by show ¬(10:Int)≤9; decide)) ?_;rw[bDl] at g ⊢;have a1:=g.head;obtain⟨L,t2⟩:=g.app;have O:Tx s (p0+1) (par (qH a) (tx n a)) r:=t2;obtain⟨cb,ub,z,hcb2⟩:=aQe (b:=qH a) (aMu ha) [];rw[List.append_nil] at z;have q:skp s (p0+1)=p0+1:=aDH fun _=>by
    have:=O;rw[z] at this;rw[this.head.2]; omega
   rw[wT,hp,if_pos ⟨a1.1,by grind⟩,bIg ih ha (by omega) (by omega) q (fun h=>h) O hb];show some (Sum.inl (Ex.mk 10 [] [a],p0+1+(par (qH a) (tx n a)).length))=_;grind
  | fn _ kd a h1 h2 ha =>
   have hn1:=ha.pos;have hnf:¬qH (Ex.mk kd [] [a]):=fun h=>(by have h:6≤kd∧kd≤9:=h; omega);obtain⟨q1,q2⟩:=bMh (n:=n+1) hnf;refine Rd.ofF g q1 q2 hnf ?_;rw[bEJ h1 h2] at g ⊢;obtain⟨L,t2⟩:=g.app;have O:=t2;rw[bBW] at O;have b1:=O.head;have hfn:bDi (fnT kd)=some kd∧(∀c∈fnT kd,gW c=true)∧ ∃c u,fnT kd=c::u∧aKd c=true:=by
    obtain rfl|rfl|rfl:kd=11∨kd=12∨kd=13:=by omega
    ·exact⟨rfl,by decide,115,[113,114],rfl,rfl⟩
    ·exact⟨rfl,by decide,115,[113,114,116],rfl,rfl⟩
    ·exact⟨rfl,by decide,101,[120,112],rfl,rfl⟩
   obtain⟨f1,f2,c,u,f3,f4⟩:=hfn;have a1:p0<s.length∧s.getD p0 0=c:=(by rw[f3] at L; exact L.head);have I:Nu.run gW s p0=(fnT kd).length:=by
    rw[L.run,List.takeWhile_append_of_pos f2,bBW];have:(([40]++(tx n a++ [41]))++r).takeWhile gW= []:=by
     rfl
    simp_all
   have hw:aHR s p0=fnT kd:=(by unfold aHR; rw[I,L.2,List.take_left]);have hc':97≤c∧c≤122:=(by grind[aKd]);have q:skp s (p0+(fnT kd).length)=p0+(fnT kd).length:=aDH fun _=>(by omega);rw[wT,hp,if_neg (fun h=>by have:=h.2; grind),aWf,if_neg (by omega),if_neg (by omega),if_pos (by grind),bBR,hw,f1,I];show aDq (pIn (wT s k) s (p0+(fnT kd).length)) _=_;rw[bLo ih ha (by omega) q t2];show some (Sum.inl (Ex.mk kd [] [a],p0+(fnT kd).length+(par True (tx n a)).length))=_;grind
theorem back_eq{n k:Nat}{e:Ex}(g:W n e)(N:2*n≤k+1):aZT (wT (tx n e) k) (tx n e) 0=some (.inl (e,(tx n e).length)):=by
 obtain⟨c,u,hc,J⟩:=aMu g;have L:Tx (tx n e) 0 (tx n e) []:=⟨Nat.zero_le _,by simp⟩;have I:skp (tx n e) 0=0:=aDH fun _=>by simp_all
 have rd:=bIi n e g (tx n e) k 0 0 [] (by omega) I L trivial;have q:skp (tx n e) (0+(tx n e).length)=(tx n e).length:=by
  simp_all[Nat.zero_add,aDH,absurd,Nat.lt_irrefl]
 have f:∀l,¬aL5 (tx n e) l (skp (tx n e) (0+(tx n e).length)):=fun l h=>by
  have:=h.1; omega
 have:=rd.S (f _) ((tx n e).length-so n e+1);have z:=bIe n e;grind[tx,so,aZT,aUa]
end Nu
end Go.Proofs
namespace Go.Proofs
open Go.Vc
set_option maxRecDepth 20000
namespace Nu
def gk:Nat→Ex→Bool
 | 0,_=>true
 | n+1,e=>decide (prt e.kind=(e.l.length:Int))&&e.l.all (gk n)
theorem bIj{f:Ex→Bool}{l:List Ex}{k:Nat}(h:k<l.length):(l.take (k+1)).all f=((l.take k).all f&&f (l.getD k (Ex.mk 0 [] []))):=by
 rw[aZQ h,List.all_append]; simp
theorem qS{α:Type}(z:α){l:List α}{k:Nat}(h:k<l.length):l.take (k+1)=l.take k++ [l.getD k z]:=by
 simp_all
theorem aBB{α:Type}(z:α){l:List α}{k:Nat}(h:k<l.length):l.getD k z∈l:=by
 simp_all
theorem bIk(l:List qc)(v:List Nat)(z:l.length≤1000):∃r:Int,lO none l v=some r∧((0:Int)≤r↔v∈l):=by
 obtain⟨e,J,q⟩:=mF (step:=fun d:Int=>gR none l v d) (I:=fun d=>∃j:Nat,d=(j:Int)∧j≤l.length∧v∉l.take j) (fun d=>((l.length:Int)-d).toNat)
  (fun e=>(e= .inl ()∧v∉l)∨ ∃j:Nat,e= .inr (j:Int)∧v∈l)
  (by
   rintro d ⟨j,rfl,L,g⟩;show (∃d',gR none l v (j:Int)=_∧_)∨ ∃e,gR none l v (j:Int)=_∧_;unfold gR;by_cases f:j<l.length
   ·rw[if_pos (by omega),Int.toNat_natCast];by_cases hv:v=l.getD j []
    ·right
     exact⟨_,aE (by omega) (if_pos hv),.inr ⟨j,rfl,by simp_all⟩⟩
    ·left
     refine⟨((j+1:Nat):Int),aE (by omega) ((if_neg hv).trans (aE (by omega) rfl)),⟨j+1,rfl,by omega,?_⟩,by omega⟩;rw[qS [] f,List.mem_append];rintro (h|h)
     ·exact g h
     ·exact hv (List.mem_singleton.1 h)
   grind) (0:Int) ⟨0,rfl,by omega,by simp⟩
 unfold lO;rcases q with⟨rfl,h⟩|⟨j,rfl,h⟩
 all_goals simp_all
theorem contains_eq(l:List qc)(v:List Nat)(f:l.length≤1000):eR none l v=some (decide (v∈l)):=by
 obtain⟨r,g,q⟩:=bIk l v f;simp_all[eR,aZ,congrArg,decide_eq_decide]
def fm(s:List Nat):Bool:=(rG s).2.2.1
theorem aQf(s:List Nat)(hs:s.length≤9223372036854775807):rC none s=some (fm s):=by
 unfold rC;exact aZ (bDg s (by omega)) rfl
def lvs(names:List qc):Nat→Ex→Bool
 | 0,_=>true
 | n+1,e=>if e.kind=1 then fm e.text else if e.kind=2 then (decide (e.text=aQ ⟨#[116]⟩)||decide (e.text∈names)) else (decide (e.text=aQ ⟨#[]⟩)&&e.l.all (lvs names n))
theorem bKy(p q:Ex→Bool):∀l:List Ex,l.all (fun x=>p x&&q x)=(l.all p&&l.all q)
 | []=>rfl
 | x::r=>by
  grind
theorem aZU{b:Ex→Bool}{l:List Ex}{j:Nat}(f:j<l.length)(h:b (l.getD j (Ex.mk 0 [] []))=false):l.all b=false:=by
 grind
theorem bIl(g:Ex→List qc→Option Bool)(names:List qc)(b:Ex→Bool)(l:List Ex)(L:l.length≤1000)(z:∀x∈l,g x names=some (b x)) :
  bV none g l (names,())=some (!(l.all b)):=by
 obtain⟨e,N,J⟩:=mF (step:=fun d:Int=>bU none g l (names,()) d) (I:=fun d=>∃j:Nat,d=(j:Int)∧j≤l.length∧(l.take j).all b=true) (fun d=>((l.length:Int)-d).toNat)
  (fun e=>(e= .inl ()∧l.all b=true)∨ ∃j:Nat,e= .inr (j:Int)∧l.all b=false)
  (by
   rintro d ⟨j,rfl,O,U⟩;show (∃d',bU none g l (names,()) (j:Int)=_∧_)∨ ∃e,bU none g l (names,()) (j:Int)=_∧_;unfold bU aAd;by_cases q:j<l.length
   ·rw[if_pos (by omega),Int.toNat_natCast];have f:=z _ (aQc q);cases hb:b (l.getD j (Ex.mk 0 [] [])) with
    | false =>
     right
     rw[hb] at f;exact⟨_,aE (by omega) (aZ (aZ f rfl) (if_pos rfl)),.inr ⟨j,rfl,aZU q hb⟩⟩
    | true =>
     left
     rw[hb] at f;refine⟨((j+1:Nat):Int),aE (by omega) (aZ (aZ f rfl) ((if_neg xAa).trans (aE (by omega) rfl))),⟨j+1,rfl,by omega,?_⟩,by omega⟩;grind[bIj]
   grind) (0:Int) ⟨0,rfl,by omega,by simp⟩
 unfold bV dA;rcases J with⟨rfl,h⟩|⟨j,rfl,h⟩
 all_goals simp_all
theorem aZV(names:List qc)(g:names.length≤1000):∀(n k:Nat) (e:Ex),n≤k→fits n e→xG none k e names=some (gk n e&&lvs names n e)
 | 0,k,e,O,J=>J.elim
 | n+1,0,e,O,J=>absurd O (by omega)
 | n+1,k+1,e,O,J=>by
  obtain⟨Y,U,N⟩:=J;have f:gk (n+1) e=(decide (prt e.kind=(e.l.length:Int))&&e.l.all (gk n)):=rfl;have z:lvs names (n+1) e=if e.kind=1 then fm e.text else if e.kind=2 then (decide (e.text=aQ ⟨#[116]⟩)||decide (e.text∈names)) else (decide (e.text=aQ ⟨#[]⟩)&&e.l.all (lvs names n)):=rfl
  have q:=bIl (xG none k) names (fun x=>gk n x&&lvs names n x) e.l U fun x Z=>aZV names g n k x (by omega) (N x Z);show wG none (xG none k) e names=_;unfold wG;rw[bKt,q,aQf _ (by omega),contains_eq _ _ g,bKy];simp only[Option.isSome_some,Option.getD_some,Option.bind_some];by_cases hp:prt e.kind=(e.l.length:Int)
  ·rw[if_neg (fun h=>h hp)];by_cases L:e.kind=1
   ·have h0:e.l= []:=List.eq_nil_of_length_eq_zero (by rw[L] at hp; have:prt 1=0:=rfl; omega);simp_all
   ·rw[if_neg L];by_cases I:e.kind=2
    ·have h0:e.l= []:=List.eq_nil_of_length_eq_zero (by rw[I] at hp; have:prt 2=0:=rfl; omega);rw[if_pos I,f,z,if_neg L,if_pos I,decide_eq_true hp,h0];exact aE xAf rfl
    ·rw[if_neg I,f,z,if_neg L,if_neg I,decide_eq_true hp];refine aE xAf ?_;grind
  simp_all
theorem bBX{D E:Type}{step:D→Option (D⊕E)}{I:D→Prop}{Q:E→Prop}(q:∀d d',I d→step d=some (.inl d')→I d')(g:∀d e,I d→step d=some (.inr e)→Q e){d:D}{e:E}(hi:I d)(h:aGX step d=some e):Q e:=by
 obtain⟨n,f⟩:=aXU.1 h;clear h
 induction n generalizing d with
 | zero=>cases f
 | succ n z =>
  rw[iter] at f;grind
theorem bMi:∃A:List Bool,cT none (aQ tE)=some (A,true,())∧ ∀c,A.getD c false=true→gW c=true:=by
 refine⟨(List.range 256).map gW,?_,fun c hc=>?_⟩
 ·unfold cT;refine aZ (a:=.inl ((List.range 256).map gW)) (aDx (n:=100) (by rfl)) rfl
 grind
theorem aSQ{A:List Bool}{c:Nat}{v:Bool}(h:dH none A c=some v):v=A.getD c false:=by
 grind[dH,Option.some.inj,bG]
theorem bIm{s:List Nat}(hs:s≠ [])(h:gN none s (aQ tE)=some []):∀c∈s,gW c=true:=by
 obtain⟨A,hA,hm⟩:=bMi;unfold gN at h;have h:=oF (by
  grind) h
 obtain⟨_,h⟩:=bG h;have h:=oF xAa h;rw[hA] at h;have h:(cS none s A).bind (fun z=>(cV none z A).bind (fun q=>some q))=some []:=h;obtain⟨v1,e1,h⟩:=bind_some h;obtain⟨v2,N,h⟩:=bind_some h;obtain rfl:=Option.some.inj h;unfold cS at e1;obtain⟨g,O,h1⟩:=bind_some e1;obtain rfl:=Option.some.inj h1;unfold cV at N;obtain⟨w2,Y,h2⟩:=bind_some N;obtain rfl:=Option.some.inj h2;have a1:∃t,s=g++t∧ ∀c∈t,gW c=true:=by
  refine bBX (I:=fun d=>∃t,s=d++t∧ ∀c∈t,gW c=true) (Q:=fun d=>∃t,s=d++t∧ ∀c∈t,gW c=true) ?_ ?_ ⟨[],by simp,fun c hc=>by cases hc⟩ O
  ·rintro d L ⟨t,rfl,ht⟩ hd;have hd:cF none A d=some (.inl L):=hd;unfold cF at hd;split at hd
   ·rename_i h0;obtain⟨_,hd⟩:=bG hd;obtain⟨_,hd⟩:=bG hd;obtain⟨v,hv,hd⟩:=bind_some hd;split at hd
    ·simp_all
    ·rename_i f;obtain⟨_,hd⟩:=bG hd;obtain⟨_,hd⟩:=bG hd;have hd:=Option.some.inj hd
     injection hd with hd
     subst hd;have e:(d.length:Int)-(1:Int)=((d.length-1:Nat):Int):=(by omega);rw[e,Int.toNat_natCast] at hv ⊢;have hv:=aSQ hv;have f:v=true:=Classical.not_not.1 f;rw[f] at hv;have U:=hm _ hv.symm;have Z:d=d.take (d.length-1)++ [d.getD (d.length-1) 0]:=by
      have:=take_succ (show d.length-1<d.length by omega);grind
     refine⟨d.getD (d.length-1) 0::t,?_,fun c hc=>?_⟩
     ·conv=>lhs; rw[Z]
      simp
     grind
   simp_all
  ·rintro d e ⟨t,rfl,ht⟩ hd;have hd:cF none A d=some (.inr e):=hd;have:e=d:=by
    unfold cF at hd;split at hd
    ·obtain⟨_,hd⟩:=bG hd;obtain⟨_,hd⟩:=bG hd;obtain⟨v,hv,hd⟩:=bind_some hd;split at hd
     all_goals grind[Option.some.inj,bG]
    simp_all
   simp_all
 have a2:∀c∈g,gW c=true:=by
  have:∃t,g=t++ []∧ ∀c∈t,gW c=true:=by
   refine bBX (I:=fun d=>∃t,g=t++d∧ ∀c∈t,gW c=true) (Q:=fun d=>∃t,g=t++d∧ ∀c∈t,gW c=true) ?_ ?_ ⟨[],rfl,fun c hc=>by cases hc⟩ Y
   ·rintro d L ⟨t,J,ht⟩ hd;have hd:cJ none A d=some (.inl L):=hd;unfold cJ at hd;split at hd
    ·rename_i h0;obtain⟨_,hd⟩:=bG hd;obtain⟨v,hv,hd⟩:=bind_some hd;split at hd
     ·simp_all
     ·rename_i f;obtain⟨_,hd⟩:=bG hd;have hd:=Option.some.inj hd
      injection hd with hd
      subst hd;have hv:=aSQ hv;have f:v=true:=Classical.not_not.1 f;rw[f] at hv;have U:=hm _ hv.symm;cases d with
      | nil=>grind
      | cons x u =>
       refine⟨t++ [x],by grind,fun c hc=>?_⟩;grind
    simp_all
   ·rintro d e ⟨t,J,ht⟩ hd;have hd:cJ none A d=some (.inr e):=hd;have:e=d:=by
     unfold cJ at hd;split at hd
     ·obtain⟨_,hd⟩:=bG hd;obtain⟨v,hv,hd⟩:=bind_some hd;grind[Option.some.inj,bG]
     simp_all
    simp_all
  simp_all
 grind
theorem bKz{w:List Nat}(h:cW none w=some true):aWg w:=by
 unfold cW at h;obtain⟨_,h⟩:=bG h;obtain⟨_,h⟩:=bG h;split at h
 ·simp_all
 ·rename_i z;obtain⟨v,hv,h⟩:=bind_some h;obtain⟨_,h⟩:=bG h;obtain⟨_,h⟩:=bG h;have h:=Option.some.inj h;rw[Bool.and_eq_true] at h;obtain⟨f,g⟩:=h;obtain rfl:v= []:=of_decide_eq_true f;cases w with
  | nil=>simp_all
  | cons c u =>
   have hc:97≤c∧c≤122:=by
    simp_all
   refine⟨⟨c,u,rfl,decide_eq_true hc⟩,bIm (List.cons_ne_nil _ _) hv,?_⟩;have q:mO none=some [[116],[115,113,114],[115,113,114,116],[101,120,112],[112,114,101,99],[101,110,100],[115,116,101,112],[116,111,108],[116,114,105,101,115],[111,114,100,101,114],[106,97,99,111,98,105],[115,101,105,100,101,108],[115,117,98],[115,116,97,116,101],[112,97,114],[105,110],[111,117,116],[100,101,114],[108,105,110,107]]:=(by rfl);rw[q,Option.getD_some,contains_eq _ _ xAa,Option.getD_some,Bool.not_eq_true',decide_eq_false_iff_not] at g;simp_all[bDi,if_neg]
theorem aZW{s t r:List Nat}{p i:Nat}(h:Tx s p t r)(hb:Bd r)(hi:i≤t.length):cR s (p+i)=cR t i:=by
 unfold cR;rw[← List.drop_drop,h.2,List.drop_append_of_le_length hi];rcases Nat.lt_or_ge ((t.drop i).takeWhile oB).length (t.drop i).length with f|f
 ·rw[List.takeWhile_append,if_neg (by omega)]
 ·rw[List.takeWhile_append,if_pos (by grind[List.takeWhile_prefix,oB])];have:r.takeWhile oB= []:=by
   cases r with
   | nil=>rfl
   | cons d v=>exact List.takeWhile_cons_of_neg (by rcases hb with rfl|rfl<;>decide)
  rw[this,List.append_nil]
  congr 1
  exact((List.takeWhile_prefix (p:=oB) (l:=t.drop i)).eq_of_length (by have:=(List.takeWhile_prefix (p:=oB) (l:=t.drop i)).length_le; omega)).symm
theorem aQg{s t r:List Nat}{p i c:Nat}(h:Tx s p t r)(hb:Bd r)(hi:i≤t.length)(hc:c≠32∧c≠41):jV s (p+i) c↔jV t i c:=by
 have z:=h.len;have q:=h.get i;show (p+i<s.length∧s.getD (p+i) 0=c)↔(i<t.length∧t.getD i 0=c);rw[q];rcases Nat.lt_or_ge i t.length with g|g
 ·grind
 ·obtain rfl:i=t.length:=by omega
  constructor
  ·rintro⟨I,f⟩;exfalso;cases r with
   | nil=>simp_all
   | cons d v =>
    have:(t++d::v).getD t.length 0=d:=(by simp_all);rw[this] at f;rcases hb with rfl|rfl
    all_goals omega
  omega
theorem bKA{s t r:List Nat}{p i k:Nat}(h:Tx s p t r)(hi:i+k≤t.length):(s.drop (p+i)).take k=(t.drop i).take k:=by
 rw[← List.drop_drop,h.2,List.drop_append_of_le_length (by omega),List.take_append_of_le_length (by grind)]
theorem bBY{s t r:List Nat}{p i:Nat}(h:Tx s p t r)(hb:Bd r)(hi:i≤t.length):aGD s (p+i)=p+aGD t i:=by
 unfold aGD;by_cases f:jV t i 101
 ·have J:i<t.length:=f.1;rw[if_pos ((aQg h hb hi xAa).2 f),if_pos f];have e1:=aQg (c:=43) h hb (i:=i+1) (by omega) xAa;have L:=aQg (c:=45) h hb (i:=i+1) (by omega) xAa;have I:∀k,k≤t.length→(if 1≤cR s (p+k)∧cR s (p+k)≤3∧uF ((s.drop (p+k)).take (cR s (p+k)))≤100 then p+k+cR s (p+k) else p+i)=p+(if 1≤cR t k∧cR t k≤3∧uF ((t.drop k).take (cR t k))≤100 then k+cR t k else i):=fun k N=>by
   grind[vU,aZW,bKA]
  by_cases z:jV t (i+1) 43∨jV t (i+1) 45
  ·have g:i+1<t.length:=(by rcases z with q|q<;>exact q.1);grind
  grind
 ·rw[if_neg (fun q=>f ((aQg h hb hi xAa).1 q)),if_neg f]
theorem aWh{t:List Nat}{i:Nat}{all:List Nat}{f:Int}(h:(bBN t i all f).2.2.1=true):aGD t i=t.length:=by
 unfold bBN at h;unfold aGD;by_cases z:jV t i 101
 ·rw[if_pos z] at h ⊢;have I:∀k q,(aOr t k all f q).2.2.1=true→(if 1≤cR t k∧cR t k≤3∧uF ((t.drop k).take (cR t k))≤100 then k+cR t k else i)=t.length:=fun k q g=>by
   unfold aOr at g;split at g
   ·cases g
   ·split at g
    ·cases g
    simp_all
  grind
 simp_all
theorem bDm{t:List Nat}(h:fm t=true):bId t:=by
 unfold fm rG at h;split at h
 ·cases h
 ·rename_i h0;have f:cR t 0≠0:=fun q=>h0 (.inr q);have I:t.length≤60:=Nat.le_of_not_lt fun q=>h0 (.inl q);have N:=vU t 0;refine⟨I,?_,fun s p r g hb=>?_⟩
  ·cases t with
   | nil=>simp_all
   | cons c u =>
    refine⟨c,u,rfl,?_⟩;by_cases hc:oB c=true
    ·exact hc
    ·exfalso; apply f;unfold cR;rw[List.drop_zero,List.takeWhile_cons_of_neg hc]; rfl
  ·have e0:=aZW g hb (i:=0) (Nat.zero_le _);rw[Nat.add_zero] at e0;have J:=aQg (c:=46) g hb (i:=cR t 0) (by omega) xAa;unfold aCj;rw[e0,if_neg f];split at h
   ·rename_i z;have O:cR t 0<t.length:=z.1;split at h
    ·cases h
    ·rename_i U;have e1:=aZW g hb (i:=cR t 0+1) (by omega);rw[← Nat.add_assoc] at e1;have L:=vU t (cR t 0+1);rw[e1,if_pos ⟨J.2 z,by omega⟩];have:=bBY g hb (i:=cR t 0+1+cR t (cR t 0+1)) (by omega);grind[cR,aWh]
   ·rename_i z;rw[if_neg (fun q=>z (J.1 q.1)),bBY g hb (by omega),aWh h];omega
theorem bM7{names:List qc}(Z:∀x∈names,aWg x):∀ {n:Nat} {e:Ex},fits n e→gk n e=true→lvs names n e=true→W n e
 | 0,e,O,_,_=>O.elim
 | n+1,.mk k t l,O,L,q=>by
  have L:(decide (prt k=(l.length:Int))&&l.all (gk n))=true:=L;rw[Bool.and_eq_true] at L;obtain⟨g1,g2⟩:=L;have g1:=of_decide_eq_true g1;have N:∀x∈l,fits n x:=O.2.2;unfold lvs at q;have f:∀x∈l,lvs names n x=true→W n x:=fun x z hv=>bM7 Z (N x z) (List.all_eq_true.1 g2 x z) hv;split at q
  ·rename_i I;obtain rfl:k=1:=I;have:l= []:=List.eq_nil_of_length_eq_zero (by have:prt 1=0:=rfl; omega);subst this;exact .num n t (bDm q)
  ·rename_i I;split at q
   ·rename_i J;obtain rfl:k=2:=J;have:l= []:=List.eq_nil_of_length_eq_zero (by have:prt 2=0:=rfl; omega);subst this;refine .name n t ?_;rw[Bool.or_eq_true] at q;rcases q with h|h
    ·obtain rfl:t= [116]:=of_decide_eq_true h;exact⟨⟨116,[],rfl,rfl⟩,by decide,rfl⟩
    ·exact Z t (of_decide_eq_true h)
   ·rename_i J;rw[Bool.and_eq_true] at q;obtain⟨h3,h4⟩:=q;obtain rfl:t= []:=of_decide_eq_true h3;have f:=fun x z=>f x z (List.all_eq_true.1 h4 x z);have I:¬k=1:=I;have J:¬k=2:=J;have hp:prt k=if 6≤k∧k≤9 then 2 else if 10≤k∧k≤13 then 1 else -1:=by
     simp_all[prt,if_neg]
    rw[hp] at g1;split at g1
    ·rename_i Y
     match l,g1,f with
     | [a,b],_,f=>exact .two n k a b Y.1 Y.2 (f a xAf) (f b xAf)
     | [],g,_=>simp at g
     | [_],g,_=>simp at g
     | _::_::_::_,g,_=>grind
    ·split at g1
     ·rename_i U
      match l,g1,f with
      | [a],_,f =>
       rcases Int.lt_or_le 10 k with h|h
       ·exact .fn n k a (by omega) U.2 (f a xAf)
       ·obtain rfl:k=10:=(by omega);exact .neg n a (f a xAf)
      | [],g,_=>simp at g
      | _::_::_,g,_=>grind
     ·omega
theorem p2m(n m:Nat)(h:n≤m):2^n≤2^m:=Nat.pow_le_pow_right xAa h
theorem bBZ(m:Nat){x n:Nat}(h:x<2^n)(f:n≤m):x<2^m:=Nat.lt_of_lt_of_le h (p2m n m f)
theorem aWi(m:Nat){x n:Nat}(h:x≤2^n)(f:n<m):x<2^m:=Nat.lt_of_le_of_lt h (Nat.pow_lt_pow_right xAa f)
theorem bLp(k:Nat){x n:Nat}(h:x<2^n)(f:n≤64*k):x<18446744073709551616^k:=by grind[aI4,bBZ]
abbrev Dy:Type:=Bool×List Nat×Int×Unit
def d0:Dy:=(false,[],0,())
def aRW(d:Dy):Bool :=
 if d.2.1.length=0 then !d.1&&decide (d.2.2.1=0)
 else decide (d.2.1.length≤64∧Nrm d.2.1)&&decide (d.2.1.getD 0 0%2=1)&&decide (-1048576≤d.2.2.1)&&decide (d.2.2.1≤1048576)
theorem and_one(x:Nat):x&&&1=x%2:=Nat.and_two_pow_sub_one_eq_mod x 1
theorem aRX(d:Dy):nM none d=some (aRW d):=by
 unfold nM aRW;by_cases h:d.2.1.length=0
 ·simp_all
 ·rw[if_neg (by omega),if_neg h];refine aE (fun _=>by omega) ?_;rw[and_one];rfl
theorem aWj(e:Int):mM none false e=some (.inr (e,())):=rfl
theorem aUb{b:Bool}{e:Int}(h:b=true):mM none b e=some (.inl ()):=by rw[h]; rfl
theorem aQh{b:Bool}{e:Int}(h:b=false):mM none b e=some (.inr (e,())):=by rw[h]; rfl
def aXv(neg:Bool)(m:Nat)(e:Int):Dy⊕qp :=
 if m=0 then .inl d0
 else if 64<(lb (m/2^tzn m)).length then .inr (2,())
 else if ¬(e≤1048576∧ -1048576-(tzn m:Int)≤e) then .inr (3,())
 else if 1048576<e+(tzn m:Int) then .inr (3,())
 else .inl (neg,lb (m/2^tzn m),e+(tzn m:Int),())
theorem bMj{m k:Nat}(h0:m≠0)(h:m<18446744073709551616^k):tzn m<64*k:=by
 obtain⟨q,hq⟩:=aK7 h0;rw[aI4] at h;refine(Nat.pow_lt_pow_iff_right (show 1<2 by decide)).1 (Nat.lt_of_le_of_lt ?_ h);grind
theorem bIn(neg:Bool)(m:List Nat)(e:Int)(lm:Lm m)(L:Nrm m)(g:m.length≤1099511627776):zY none neg m e=some (aXv neg (nv m) e):=by
 unfold zY aXv;by_cases h0:m.length=0
 ·have hm:m= []:=List.eq_nil_of_length_eq_zero h0;subst hm;rfl
 ·have hm:nv m≠0:=by have:=aQV L (fun e=>h0 (by grind)); omega
  have I:lK m=(tzn (nv m):Int):=by grind[lK]
  have J:=bMj hm (uC lm);have f:wV m (tzn (nv m):Int)=lb (nv m/2^tzn (nv m)):=by rfl
  rw[if_neg (by omega),if_neg hm,I,f];refine aE g (aE ⟨g,by omega⟩ ?_);by_cases z:64<(lb (nv m/2^tzn (nv m))).length
  ·rw[aQh (by grind),if_pos z]; rfl
  ·rw[aUb (by grind),if_neg z];simp only[Option.bind_some];by_cases q:e≤1048576
   ·rw[if_pos q];refine aE (by omega) ?_;by_cases N: -1048576-(tzn (nv m):Int)≤e
    ·rw[aUb (by grind),if_neg (by omega)];simp only[Option.bind_some];unfold yL;rw[I,f];refine aE (by omega) ?_;by_cases O:e+(tzn (nv m):Int)≤1048576
     ·rw[aUb (by grind),if_neg (by omega)];simp only[Option.bind_some];exact aE (by omega) rfl
     simp_all[aQh,if_pos]
    simp_all[aQh,if_pos]
   ·rw[if_neg q,aWj,if_pos (by omega)]; rfl
def told{α:Type}(z:α):α⊕qp→α×Int×Unit
 | .inl r=>(r,0,())
 | .inr p=>(z,p.1,())
def bDn(neg:Bool)(m:Nat)(e:Int):Dy×Int×Unit:=told d0 (aXv neg m e)
theorem bIo(neg:Bool)(m:List Nat)(e:Int)(lm:Lm m)(q:Nrm m)(f:m.length≤1099511627776):zZ none neg m e=some (bDn neg (nv m) e):=by
 have g:aAr none neg m e=some (aXv neg (nv m) e):=by
  unfold aAr;rw[bIn neg m e lm q f];simp only[Option.bind_some];cases aXv neg (nv m) e<;>rfl
 have z:jZ none neg m e=some (bDn neg (nv m) e):=by
  unfold jZ bDn;rw[g];simp only[Option.bind_some];cases aXv neg (nv m) e<;>rfl
 grind[zZ]
theorem bM8{x k:Nat}(a:List Nat)(g:Lm a)(h:x≤nv a)(f:a.length≤k):(lb x).length≤k :=
 Nat.le_trans (aEO.2 (Nat.lt_of_le_of_lt h (uC g))) f
theorem bIp{b i:Nat}(h:b<18446744073709551616):(lb (b^i)).length≤i+1 :=
 aEO.2 (Nat.lt_of_le_of_lt (Nat.pow_le_pow_left (Nat.le_of_lt h) i) (Nat.pow_lt_pow_right xAa (by omega)))
theorem aQi(b n:Nat)(hb:b<18446744073709551616)(q:n≤100000):uR none b (n:Int)=some (lb (b^n)):=by
 unfold uR;refine aZ (aCu (step:=fun d:qc×Int=>tG none (n:Int) b d.1 d.2) (I:=fun d=>0≤d.2∧d.2≤n∧d.1=lb (b^d.2.toNat)) (fun d=>((n:Int)-d.2).toNat) (fun _=>lb (b^n)) ?_ ([1],0) ⟨by simp,by simp,?_⟩) rfl
 ·rintro⟨m,i⟩ ⟨i0,i1,f⟩;have f:m=lb (b^i.toNat):=f;have i0:0≤i:=i0;have i1:i≤n:=i1;show (∃d',tG none (n:Int) b m i=_∧_)∨tG none (n:Int) b m i=_;unfold tG;have g:=bIp (i:=i.toNat) hb;by_cases hi:i<n
  ·left
   have ht:dE m [b]=lb (b^(i+1).toNat):=by
    unfold dE;rw[f,aCx,show (i+1).toNat=i.toNat+1 from by omega,Nat.pow_succ];rfl
   refine⟨(lb (b^(i+1).toNat),i+1),?_,⟨by (try simp only); omega,by (try simp only); omega,rfl⟩,by (try simp only); omega,rfl⟩;rw[if_pos hi];refine aE ⟨by show m.length≤_; rw[f]; omega,by show (1:Nat)≤_; decide⟩ (aE (by constructor<;>omega) ?_);rw[ht]
  ·right
   rw[if_neg hi,f,show i.toNat=n from by omega]
 ·show [1]=lb (b^0);rw[Nat.pow_zero,aQU xAa];rw[show 1/18446744073709551616=0 from by decide,aDO]
theorem aYd(s:List Nat)(hd:∀c∈s,oB c=true)(hs:s.length≤100000):xF none s=some (lb (uF s)):=by
 unfold xF;refine aZ (aCu (step:=fun d:qc×Int=>rB none s d.1 d.2) (I:=fun d=>0≤d.2∧d.2≤s.length∧d.1=lb (uF (s.take d.2.toNat))) (fun d=>((s.length:Int)-d.2).toNat) (fun _=>lb (uF s)) ?_ ([],0) ⟨by simp,by simp,?_⟩) rfl
 ·rintro⟨m,i⟩ ⟨i0,i1,f⟩;have f:m=lb (uF (s.take i.toNat)):=f;have i0:0≤i:=i0;have i1:i≤s.length:=i1;show (∃d',rB none s m i=_∧_)∨rB none s m i=_;unfold rB;have O:m.length≤100001:=by
   rw[f];have z:=aMr (s:=s.take i.toNat) (fun c hc=>hd c (List.mem_of_mem_take hc));have Y:(s.take i.toNat).length≤100000:=(by rw[List.length_take]; omega);have J:=bIp (b:=10) (i:=(s.take i.toNat).length) xAa;have U:=bM8 (x:=uF (s.take i.toNat)) (lb (10^(s.take i.toNat).length)) (aMR _) (by rw[aCx]; omega) J;omega
  by_cases hi:i<s.length
  ·left
   have q:i.toNat<s.length:=(by omega);have N:s.getD i.toNat 0∈s:=(by rw[List.getD_eq_getElem?_getD,List.getElem?_eq_getElem q]; exact List.getElem_mem q);have hc:=hd _ N;simp only[oB,decide_eq_true_iff] at hc;have g:wQ none .u8 (s.getD i.toNat 0) 48=s.getD i.toNat 0-48:=bM5 (by omega) hc.1;have L:qZ [s.getD i.toNat 0-48]=lb (s.getD i.toNat 0-48):=by
    show lb (nv [s.getD i.toNat 0-48])=_;simp[nv]
   have ht:aDA (dE m [10]) (lb (s.getD i.toNat 0-48))=lb (uF (s.take (i+1).toNat)):=by
    unfold aDA dE;rw[f,aCx,aCx,aCx,show (i+1).toNat=i.toNat+1 from by omega,take_succ q,aYa];rfl
   have Z:(dE m [10]).length≤100002:=by
    unfold dE;refine Nat.le_trans (aEO (k:=m.length+1).2 ?_) (by omega);rw[f,aCx,Nat.pow_succ,← f];have z:=uC (a:=m) (by rw[f]; exact aMR _);rw[f,aCx,← f] at z;exact Nat.mul_lt_mul'' z xAa
   refine⟨(lb (uF (s.take (i+1).toNat)),i+1),?_,⟨by (try simp only); omega,by (try simp only); omega,rfl⟩,by (try simp only); omega,by first|rfl|trivial⟩;rw[if_pos hi];simp only[g,L,ht];refine aE (by constructor<;>omega) (aE ⟨by show m.length≤_; omega,by show (1:Nat)≤_; decide⟩ (aE (by show (1:Nat)≤_; decide) (aE ⟨by show (dE m [10]).length≤_; omega,?_⟩ (aE (by constructor<;>omega) rfl))));show (lb (s.getD i.toNat 0-48)).length≤_;have:=aEO (n:=s.getD i.toNat 0-48) (k:=1).2 (by omega);omega
  ·right
   rw[if_neg hi,f,List.take_of_length_le (by omega)]
 ·show []=lb (uF []);rw[show uF []=0 from rfl,aDO]
def aYe(M:Nat)(e:Int):Dy:=if M=0 then d0 else (false,lb (M/2^tzn M),e+(tzn M:Int),())
theorem bMk{M K:Nat}(h0:M≠0)(h:M<2^K):tzn M<K:=by
 obtain⟨q,hq⟩:=aK7 h0;refine(Nat.pow_lt_pow_iff_right (show 1<2 by decide)).1 (Nat.lt_of_le_of_lt ?_ h);grind
theorem bKB{M K:Nat}{e:Int}(f:M<2^K)(q:K≤4096)(z: -1000000≤e∧e≤1000000):bDn false M e=(aYe M e,0,()):=by
 unfold bDn aXv aYe;by_cases h0:M=0
 ·rw[if_pos h0,if_pos h0]; rfl
 ·have I:=bMk h0 f;have g:(lb (M/2^tzn M)).length≤64:=by
   exact aEO.2 (bLp 64 (Nat.lt_of_le_of_lt (Nat.div_le_self _ _) f) (by omega))
  rw[if_neg h0,if_neg h0,if_neg (by omega),if_neg (by omega),if_neg (by omega)];rfl
def bKC(r:bHZ):Prop:=(∀c∈r.1,oB c=true)∧r.1.length≤60∧ -160≤r.2.1∧r.2.1≤160
theorem aL8:bKC litNo:=⟨(fun c hc=>by cases hc),by decide,by decide,by decide⟩
theorem aZX{s:List Nat}{i:Nat}{all:List Nat}{f:Int}{neg:Bool}(q:∀c∈all,oB c=true)(g:all.length≤60)(z: -60≤f∧f≤0):bKC (aOr s i all f neg):=by
 unfold aOr;split
 ·exact aL8
 ·split
  ·exact aL8
  ·refine⟨q,g,?_,?_⟩
   all_goals grind
theorem bDo{s:List Nat}{i:Nat}{all:List Nat}{f:Int}(q:∀c∈all,oB c=true)(g:all.length≤60)(z: -60≤f∧f≤0):bKC (bBN s i all f):=by
 unfold bBN;split
 ·grind[aZX]
 ·exact⟨q,g,by grind,by grind⟩
theorem aGE(s:List Nat):bKC (rG s):=by
 have g:=vU s 0;have q:=vU s (cR s 0+1);have f:=aL4 s 0;rw[List.drop_zero] at f;have z:=aL4 s (cR s 0+1);grind[rG,aL8,bDo,List.length_take]
def bIq(s:List Nat):Nat:=uF (rG s).1*10^(max (rG s).2.1 0).toNat
def bMl(s:List Nat):Nat:=10^(max (-(rG s).2.1) 0).toNat
theorem aEL(n:Nat):10^n≤2^(4*n):=by
 simp_all[Nat.pow_mul,Nat.pow_le_pow_left]
theorem bKD(s:List Nat):bIq s<2^900:=by
 obtain⟨f,z,g,q⟩:=aGE s;have a:=aMr f;have b:=aEL (rG s).1.length;have c:=aEL (max (rG s).2.1 0).toNat;unfold bIq;have d:=Nat.mul_lt_mul_of_lt_of_le (Nat.lt_of_lt_of_le a b) c (Nat.pow_pos xAa);rw[← Nat.pow_add] at d;exact bBZ 900 d (by omega)
theorem bKE(s:List Nat):bMl s<2^900:=by
 obtain⟨z,q,f,g⟩:=aGE s;have c:=aEL (max (-(rG s).2.1) 0).toNat;unfold bMl;exact aWi 900 c (by omega)
def bKF(s:List Nat):List Nat×List Nat×Bool×Unit:=if (rG s).2.2.1=true then (lb (bIq s),lb (bMl s),true,()) else ([],[],false,())
theorem aOs{x:Nat}(h:x<2^900):(lb x).length≤15:=by
 exact aEO.2 (bLp 15 h xAa)
theorem bIr(s:List Nat)(hs:s.length≤9223372036854775807):aCb none s=some (bKF s):=by
 obtain⟨g,N,I,J⟩:=aGE s;unfold aCb bKF;refine aZ (bDg s hs) ?_;by_cases h:(rG s).2.2.1=true
 ·rw[if_neg (fun z=>z h),if_pos h];have e1:=aYd (rG s).1 g (by omega);have f:=aQi 10 (max (rG s).2.1 0).toNat xAa (by omega);have q:=aQi 10 (max (-(rG s).2.1) 0).toNat xAa (by omega);rw[show (((max (rG s).2.1 0).toNat:Nat):Int)=max (rG s).2.1 0 from by omega] at f;rw[show (((max (-(rG s).2.1) 0).toNat:Nat):Int)=max (0-(rG s).2.1) 0 from by omega] at q;have L:(lb (uF (rG s).1)).length≤15:=aOs (by
   have a:=aMr g;have b:=aEL (rG s).1.length;exact bBZ 900 (Nat.lt_of_lt_of_le a b) (by omega))
  have l2:(lb (10^(max (rG s).2.1 0).toNat)).length≤15:=aOs (aWi 900 (aEL _) (by omega));refine aZ e1 (aZ f (aE ⟨?_,?_⟩ (aE (by omega) (aZ q ?_))))
  ·omega
  ·omega
  ·have ht:dE (lb (uF (rG s).1)) (lb (10^(max (rG s).2.1 0).toNat))=lb (bIq s):=by
    grind[dE,bIq,aCx]
   rw[ht]; rfl
 simp_all
def exN(s:List Nat):Nat:=uF (rG s).1*5^(max (rG s).2.1 0).toNat
def exD(s:List Nat):Nat:=5^(max (-(rG s).2.1) 0).toNat
def bDp(s:List Nat):Dy×Int×Unit :=
 if ¬(rG s).2.2.1=true then (d0,6,())
 else if exN s%exD s≠0 then (d0,6,())
 else (aYe (exN s/exD s) (rG s).2.1,0,())
theorem bB0(n:Nat):5^n≤2^(4*n):=Nat.le_trans (Nat.pow_le_pow_left xAa n) (aEL n)
theorem bMm(s:List Nat):exN s<2^900:=by
 obtain⟨f,z,g,q⟩:=aGE s;have a:=aMr f;have b:=aEL (rG s).1.length;have c:=bB0 (max (rG s).2.1 0).toNat;unfold exN;have d:=Nat.mul_lt_mul_of_lt_of_le (Nat.lt_of_lt_of_le a b) c (Nat.pow_pos xAa);rw[← Nat.pow_add] at d;exact bBZ 900 d (by omega)
theorem bKG(s:List Nat):exD s≠0:=by
 grind[exD,Nat.pow_pos,Max.max,rG]
theorem bIs(s:List Nat)(hs:s.length≤9223372036854775807):aAb none s=some (bDp s):=by
 obtain⟨I,h2,O,Y⟩:=aGE s;unfold aAb bDp;refine aZ (bDg s hs) ?_;by_cases h:(rG s).2.2.1=true
 ·rw[if_neg (fun N=>N h)];simp only[h,not_true,if_false];have e1:=aYd (rG s).1 I (by omega);have z:=aQi 5 (max (rG s).2.1 0).toNat xAa (by omega);have q:=aQi 5 (max (-(rG s).2.1) 0).toNat xAa (by omega);rw[show (((max (rG s).2.1 0).toNat:Nat):Int)=max (rG s).2.1 0 from by omega] at z;rw[show (((max (-(rG s).2.1) 0).toNat:Nat):Int)=max (0-(rG s).2.1) 0 from by omega] at q;have Z:(lb (uF (rG s).1)).length≤15:=aOs (by
   have a:=aMr I;have b:=aEL (rG s).1.length;exact bBZ 900 (Nat.lt_of_lt_of_le a b) (by omega))
  have l2:(lb (5^(max (rG s).2.1 0).toNat)).length≤15:=aOs (aWi 900 (bB0 _) (by omega));have ht:dE (lb (uF (rG s).1)) (lb (5^(max (rG s).2.1 0).toNat))=lb (exN s):=by
   grind[dE,exN,aCx]
  have hq:rQ (lb (exN s)) (lb (exD s))=(lb (exN s/exD s),lb (exN s%exD s),()):=by
   grind[rQ,aCx]
  have J:=bMm s;have g:exN s/exD s<2^900:=Nat.lt_of_le_of_lt (Nat.div_le_self _ _) J;have hF:zZ none false (lb (exN s/exD s)) (rG s).2.1=some (aYe (exN s/exD s) (rG s).2.1,0,()):=by
   rw[bIo false _ _ (aMR _) (aHs _) (by grind[aOs]),aCx,bKB g xAa (by omega)]
  have L:lb (5^(max (-(rG s).2.1) 0).toNat)=lb (exD s):=rfl;rw[L] at q;refine aZ e1 (aZ z (aE ⟨?_,?_⟩ (aE (by omega) (aZ q ?_))));rotate_left 2
  ·simp only[ht,hq];refine aE ⟨aHs _,aHs _,by grind[aCx,bKG],?_⟩ (aZ hF ?_)
   ·grind[aOs]
   ·by_cases f:exN s%exD s=0
    ·rw[if_neg (by rw[f,aDO]; simp),if_neg (fun h=>h f)]
    ·have U:=List.length_pos_iff.2 (fun e=>f (bCO.1 e));rw[if_pos (.inl (by omega)),if_pos f]; rfl
  all_goals omega
 ·rw[if_pos h,if_pos h]; rfl
def Tot{α:Type}(o:Option α)(P:α→Prop):Prop:=∃r,o=some r∧P r
namespace Tot
variable {α β:Type} {P:α→Prop} {o:Option α} {R:β→Prop}
theorem ret{r:α}(h:P r):Tot (some r) P:=⟨r,rfl,h⟩
theorem of{r:α}(e:o=some r)(h:P r):Tot o P:=⟨r,e,h⟩
theorem ck{p:Prop}[Decidable p](hp:p)(h:Tot o P):Tot (Go.Vc.ck p o) P:=by grind[bGS]
theorem bind{f:α→Option β}(h:Tot o P)(q:∀r,P r→Tot (f r) R):Tot (o.bind f) R:=by
 obtain⟨r,rfl,g⟩:=h;simp_all
theorem ite{p:Prop}{i:Decidable p}{x y:Option α}(g:p→Tot x P)(f:¬p→Tot y P):Tot (@_root_.ite _ p i x y) P:=by
 grind
theorem mono{Q:α→Prop}(h:Tot o P)(hq:∀r,P r→Q r):Tot o Q:=by
 obtain⟨r,e,f⟩:=h;exact⟨r,e,hq r f⟩
theorem wP(h:Tot o P):o.isSome=true:=by
 obtain⟨r,rfl,f⟩:=h;rfl
theorem get(h:Tot o P)(z:α):P (o.getD z):=by
 obtain⟨r,rfl,f⟩:=h;exact f
end Tot
theorem aMv{d:Dy}(h:aRW d=true):d.2.1.length≤64∧Nrm d.2.1∧ -1048576≤d.2.2.1∧d.2.2.1≤1048576:=by
 grind[aRW,List.eq_nil_of_length_eq_zero,bEn]
theorem aWk(d:Dy):Tot (uP none d) (fun r=> -1≤r∧r≤1):=by
 unfold uP;exact(Tot.of (P:=fun _=>True) (aRX d) trivial).bind fun v _=>.ite (fun _=>.ret xAa) fun _=>.ite (fun _=>.ret xAa) fun _=>.ret xAa
def bB1(a b:Dy):Int :=
 let x:=(bl (nv a.2.1):Int)+a.2.2.1
 let y:=(bl (nv b.2.1):Int)+b.2.2.1
 let f:=min a.2.2.1 b.2.2.1
 if x<y then -1 else if y<x then 1 else bCS (nv a.2.1*2^(a.2.2.1-f).toNat) (nv b.2.1*2^(b.2.2.1-f).toNat)
theorem size_eq(a b:Dy)(Y:Lm a.2.1)(z:Lm b.2.1)(O:aRW a=true)(hb:aRW b=true):aB2 none a b=some (bB1 a b):=by
 obtain⟨a1,J,a3,Z⟩:=aMv O;obtain⟨b1,N,U,b4⟩:=aMv hb;have I:bl (nv a.2.1)≤64*a.2.1.length:=aXZ (by grind[aI4,uC]);have L:bl (nv b.2.1)≤64*b.2.1.length:=aXZ (by grind[aI4,uC]);have e1:sX a.2.1=(bl (nv a.2.1):Int):=rfl;have q:sX b.2.1=(bl (nv b.2.1):Int):=rfl;unfold aB2 bB1;rw[e1,q];refine aE ⟨J,by omega⟩ (aE (by omega) (aE ⟨N,by omega⟩ (aE (by omega) ?_)));simp only;by_cases g:(bl (nv a.2.1):Int)+a.2.2.1<(bl (nv b.2.1):Int)+b.2.2.1
 ·simp_all
 ·rw[if_neg g,if_neg g];by_cases f:(bl (nv b.2.1):Int)+b.2.2.1<(bl (nv a.2.1):Int)+a.2.2.1
  ·simp_all
  ·rw[if_neg f,if_neg f];refine aE (by omega) (aE ⟨by omega,by omega,by omega⟩ (aE (by omega) (aE ⟨by omega,by omega,by omega⟩ (aE ⟨aHs _,aHs _⟩ ?_))));grind[sG,kI,aCx]
theorem bB2(a b:Dy): -1≤bB1 a b∧bB1 a b≤1:=by
 grind[bB1,bCS]
theorem bEL(a b:Dy)(z:Lm a.2.1)(f:Lm b.2.1):Tot (aAa none a b) (fun _=>True):=by
 unfold aAa;refine(aWk a).bind fun v hv=>(aWk b).bind fun w J=>(Tot.of (P:=fun x=>aRW a=x) (aRX a) rfl).bind fun x N=>.ck (fun _=>by rw[aRX]; rfl) (.ite (fun _=>.ret trivial) fun h=>.ite (fun _=>.ret trivial) fun _=>.ite (fun _=>.ret trivial) fun _=>.ite (fun _=>.ret trivial) fun _=>?_);rw[aRX] at h;have g:aRW a=true∧aRW b=true:=by
  simp_all
 refine(Tot.of (P:=fun r=> -1≤r∧r≤1) (size_eq a b z f g.1 g.2) (bB2 a b)).bind fun r q=>.ck ?_ (.ret trivial);have: -1≤v*r∧v*r≤1:=by
  obtain⟨v1,I⟩:=hv;obtain⟨r1,L⟩:=q;have e1:v= -1∨v=0∨v=1:=by omega
  grind
 omega
theorem bEM(n:Bool)(m:Nat)(e:Int):match aXv n m e with| .inl d=>Lm d.2.1| .inr _=>True:=by
 unfold aXv;split
 ·rename_i h;split at h
  ·cases h; exact fun x f=>by cases f
  grind[aMR]
 grind
theorem bIt(a b:Dy)(g:Lm a.2.1)(f:Lm b.2.1)(L:aRW a=true)(hb:aRW b=true):Tot (uQ none a b) (fun q=>match q with| .inl d=>Lm d.2.1| .inr _=>True):=by
 obtain⟨I,U,a3,Y⟩:=aMv L;obtain⟨b1,b2,N,Z⟩:=aMv hb;unfold uQ;refine .ck ⟨by omega,by omega⟩ (.ck (by omega) ?_);have O:(dE a.2.1 b.2.1).length≤128:=by
  refine aEO.2 ?_;have J:=Nat.lt_of_lt_of_le (uC g) (Nat.pow_le_pow_right (show 0<18446744073709551616 by decide) I);have z:=Nat.lt_of_lt_of_le (uC f) (Nat.pow_le_pow_right (show 0<18446744073709551616 by decide) b1);have:=Nat.mul_lt_mul'' J z;omega
 refine(Tot.of (P:=fun q=>match q with| .inl d=>Lm d.2.1| .inr _=>True) (bIn _ _ _ (show Lm (dE a.2.1 b.2.1) from aMR _) (aHs _) (by omega)) (bEM _ _ _)).bind fun q hq=>?_;cases q with
 | inl d=>exact .ret hq
 | inr p=>exact .ret trivial
theorem bKH(a b:Dy)(z:Lm a.2.1)(f:Lm b.2.1):Tot (iB none a b ()) (fun q=>match q with| .inl d=>Lm d.2.1| .inr _=>True):=by
 unfold iB;rw[aRX,aRX];refine .ck rfl (.ite (fun h=>.ck rfl ?_) fun h=>?_)
 ·cases hb:aRW b with
  | false =>
   rw[aQh xAf];exact .ret trivial
  | true =>
   have g:aRW a=true:=h;rw[aUb (by simp[g])];refine(bIt a b z f g hb).bind fun q hq=>?_;cases q with
   | inl d=>exact .ret hq
   | inr p=>exact .ret trivial
 ·rw[aWj];exact .ret trivial
theorem bKI(a b:Dy)(I:Lm a.2.1)(f:Lm b.2.1):Tot (aDB none a b) (fun r=>Lm r.1.2.1):=by
 unfold aDB oP dL;have h:Tot ((iB none a b ()).bind fun q=>some (match q with| .inl r=>(r,(0:Int),())| .inr p=>((false,([]:List Nat),(0:Int),()),p.1,()))) (fun r=>Lm r.1.2.1):=(bKH a b I f).bind fun q hq=>.ret (by
  cases q with
  | inl d=>exact hq
  | inr p=>exact fun x g=>by cases g)
 exact(Tot.ck h.wP (.ret (P:=fun r=>Lm r.1.2.1) (h.get _))).bind fun r z=>.ret z
theorem bMn(n e:Int)(z:0≤n∧n<9223372036854775808)(I:e=0):Tot (aFM none n e) (fun r=>Lm r.1.2.1):=by
 unfold aFM;refine .ite (fun h=>by omega) fun _=>?_;unfold aAt;refine .ck (by simp_all) ?_;have q:(qZ [(n%18446744073709551616).toNat]).length≤1:=by
  refine aEO.2 ?_;have hb:18446744073709551616=18446744073709551616:=by decide
  have:nv [(n%18446744073709551616).toNat]=(n%18446744073709551616).toNat:=by simp[nv]
  omega
 have hF:Lm (bDn (decide (n<0)) (nv (qZ [(n%18446744073709551616).toNat])) e).1.2.1:=by
  have:=bEM (decide (n<0)) (nv (qZ [(n%18446744073709551616).toNat])) e;unfold bDn;revert this;cases aXv (decide (n<0)) (nv (qZ [(n%18446744073709551616).toNat])) e with
  | inl d=>exact fun h=>h
  | inr p=>exact fun h x g=>by cases g
 exact(Tot.of (P:=fun r=>Lm r.1.2.1) (bIo _ _ _ (show Lm (qZ [(n%18446744073709551616).toNat]) from aMR _) (aHs _) (by omega)) hF).bind fun r f=>.ret f
end Nu
end Go.Proofs
namespace Go.Proofs
open Go.Vc
set_option maxRecDepth 20000
namespace Nu
theorem Tot.loop{D E:Type}{step:D→Option (D⊕E)}{P:E→Prop}(I:D→Prop)(f:D→Nat)(h:∀d,I d→Tot (step d) (fun q=>match q with| .inl g=>I g∧f g<f d| .inr e=>P e)){d:D}(h0:I d):Tot (dK none step d) P :=
 mF f P (fun d hd=>by
  obtain⟨q,e,hq⟩:=h d hd;grind) d h0
theorem bB3(a b:Dy)(n:Int)(q:Lm a.2.1)(f:Lm b.2.1)(z:0≤n∧n<9223372036854775808):Tot (mA none a b n) (fun _=>True):=by
 unfold mA;exact(bMn n 0 z rfl).bind fun v hv=>(bKI b v.1 f hv).bind fun w g=>.ck (fun _=>(bEL a w.1 q g).wP) (.ret trivial)
theorem bFO(s:List Nat)(hs:s.length≤9223372036854775807):Tot (aAb none s) (fun r=>Lm r.1.2.1∧(r.2.1=0→fm s=true)):=by
 refine .of (bIs s hs) ?_;unfold bDp;split
 ·exact⟨fun x f=>(by cases f),fun h=>absurd (show (6:Int)=0 from h) xAa⟩
 ·rename_i g;split
  ·exact⟨fun x f=>(by cases f),fun h=>absurd (show (6:Int)=0 from h) xAa⟩
  ·refine⟨?_,fun _=>Classical.not_not.1 g⟩;show Lm (aYe _ _).2.1;unfold aYe;split
   ·exact fun x f=>by cases f
   ·exact aMR _
abbrev qI:Type:=List Nat×List (List Nat×(List Nat×List Nat×Unit)×Ex×Unit)×List (List Nat×(List Nat×List Nat×Unit)×Unit)×List qc×List (List Nat×Ex×Unit)×Unit
abbrev TSc:Type:=Int×Int×Int×Int×List Nat×List Nat×List Nat×List Nat×List qI×List (List Nat×List Nat×List Nat×List Nat×Unit)×Unit
def bKJ(s:TSc):Prop:=(8≤s.1∧s.1≤200)∧(1≤s.2.1∧s.2.1≤20)∧(0≤s.2.2.1∧s.2.2.1≤3)∧(s.2.2.2.1=1∨s.2.2.2.1=2)∧fm s.2.2.2.2.1=true∧fm s.2.2.2.2.2.1=true∧fm s.2.2.2.2.2.2.1=true∧fm s.2.2.2.2.2.2.2.1=true
theorem bB4(s:TSc)(h1:s.2.2.2.2.1.length≤9223372036854775807)(h2:s.2.2.2.2.2.1.length≤9223372036854775807)(Y:s.2.2.2.2.2.2.1.length≤9223372036854775807)(h4:s.2.2.2.2.2.2.2.1.length≤9223372036854775807):Tot (uJ none s) (fun b=>b=true→bKJ s):=by
 unfold uJ;refine .ite (fun _=>.ret fun h=>by cases h) fun hn=>?_;refine Tot.bind (P:=fun e=>match e with| .inl l=>(l.length=4∧ ∀d∈l,Lm (d:Dy).2.1)∧ ∀k:Nat,k<4→fm (([s.2.2.2.2.1,s.2.2.2.2.2.1,s.2.2.2.2.2.2.1,s.2.2.2.2.2.2.2.1]:List qc).getD k [])=true| .inr b=>b=true→bKJ s) ?_ fun e J=>?_
 ·refine Tot.loop (fun d:Int×List Dy=>0≤d.1∧d.1≤4∧d.2.length=d.1.toNat∧(∀x∈d.2,Lm x.2.1)∧ ∀k:Nat,k<d.1.toNat→fm (([s.2.2.2.2.1,s.2.2.2.2.2.1,s.2.2.2.2.2.2.1,s.2.2.2.2.2.2.2.1]:List qc).getD k [])=true) (fun d=>(4-d.1).toNat) ?_ ⟨by decide,by decide,rfl,(fun x I=>by cases I),fun k q=>absurd q (Nat.not_lt_zero k)⟩;rintro⟨i,l⟩ ⟨i0,i1,L,O,z⟩;have i0:0≤i:=i0;have i1:i≤4:=i1;have L:l.length=i.toNat:=L;have z:∀k:Nat,k<i.toNat→fm (([s.2.2.2.2.1,s.2.2.2.2.2.1,s.2.2.2.2.2.2.1,s.2.2.2.2.2.2.2.1]:List qc).getD k [])=true:=z;show Tot (tH none s i l) _;unfold tH;refine .ite (fun hi=>.ck ⟨i0,hi⟩ ?_) fun hi=>.ret ⟨⟨by omega,O⟩,fun k q=>z k (by omega)⟩;have I:(([s.2.2.2.2.1,s.2.2.2.2.2.1,s.2.2.2.2.2.2.1,s.2.2.2.2.2.2.2.1]:List qc).getD i.toNat []).length≤9223372036854775807:=by
   grind
  refine(bFO _ I).bind fun v hv=>.ck (fun _=>(aWk _).wP) (.ite (fun _=>.ret fun h=>by cases h) fun U=>.ck (by omega) (.ck (by omega) (.ret ⟨⟨by omega,by omega,?_,?_,fun k q=>?_⟩,?_⟩)))
  all_goals grind
 ·cases e with
  | inr b=>exact .ret J
  | inl l =>
   obtain⟨⟨Z,hd⟩,f⟩:=J;have g:∀k,k<4→Lm (l.getD k (false,[],0,())).2.1:=fun k q=>by
    grind
   show Tot (pA none l) _;unfold pA;have N:bKJ s:=⟨by omega,by omega,by omega,by omega,f 0 xAa,f 1 xAa,f 2 xAa,f 3 xAa⟩;exact .ck (by omega) (.ck (by omega) ((bEL _ _ (g 2 xAa) (g 1 xAa)).bind fun v _=>.ck (fun _=>by omega) (.ck (fun _=>by omega) (.ck (fun _=>(bB3 _ _ _ (g 0 xAa) (g 1 xAa) xAa).wP) (.ck (fun _=>by omega) (.ck (fun _=>by omega) (.ck (fun _=>(bB3 _ _ _ (g 1 xAa) (g 2 xAa) xAa).wP) (.ret fun _=>N))))))))
def sg(w:List Nat):List Nat:=if ([45]:List Nat).isPrefixOf w then w.drop 1 else w
theorem bIu(w:List Nat):(sg w).length≤w.length:=by
 unfold sg;grind
theorem bLq(w:List Nat)(h:w.length≤9223372036854775807):Tot (fM none w (aQ ⟨#[45]⟩)) (fun b=>b=([45]:List Nat).isPrefixOf w):=by
 unfold fM;rw[show aQ ⟨#[45]⟩= [45] from rfl];refine .ck (fun h=>⟨by omega,h⟩) (.ret ?_);cases w with
 | nil=>rfl
 | cons a r =>
  grind
theorem aXw(s:List Nat)(hs:s.length≤9223372036854775807):Tot (oC none s (aQ ⟨#[45]⟩)) (fun r=>r.1=sg s):=by
 unfold oC lU;refine Tot.bind (P:=fun r=>r.1=sg s) ?_ fun r f=>.ret f;refine(bLq s hs).bind fun b hb=>?_;subst hb;refine .ite (fun h=>.ret ?_) fun h=>.ck ?_ (.ret ?_)
 ·simp_all[sg,if_neg]
 ·have:=(List.isPrefixOf_iff_prefix.1 (Classical.not_not.1 h)).length_le;simp at this;exact⟨by decide,by show (1:Int)≤_; omega⟩
 ·unfold sg;rw[if_pos (Classical.not_not.1 h)];rfl
theorem aYf(s:List Nat)(hs:s.length≤9223372036854775807):Tot (vN none s) (fun r=>(r.2.1.length≤15∧r.2.2.1.length≤15)∧(r.2.2.2.1=true→fm (sg s)=true)):=by
 unfold vN;refine(aXw s hs).bind fun v hv=>Tot.bind (P:=fun r=>(r.1.length≤15∧r.2.1.length≤15)∧(r.2.2.1=true→fm (sg s)=true)) (.of (bIr v.1 (by grind[Nat.le_trans,bIu])) ?_) fun r f=>.ret f;rw[hv];refine⟨by grind[bKF,aOs,bKD,bKE],fun h=>?_⟩;unfold bKF at h;split at h
 ·assumption
 grind
theorem aWl(r:List Nat×List Nat×Unit)(g:r.1.length≤9223372036854775807)(q:r.2.1.length≤9223372036854775807):Tot (lV none r) (fun b=>b=true→fm (sg r.1)=true∧(r.2.1= []∨fm (sg r.2.1)=true)):=by
 have j:∀hi:List Nat,hi.length≤9223372036854775807→Tot (nO none r hi) (fun b=>b=true→fm (sg r.1)=true∧fm (sg hi)=true):=fun hi I=>by
  unfold nO;refine(aYf _ g).bind fun v hv=>(aYf _ I).bind fun w z=>.ck ⟨by omega,by omega⟩ (.ck ⟨by omega,by omega⟩ (.ck ⟨aHs _,aHs _⟩ (.ite (fun _=>.ret fun h=>by cases h) fun f=>?_)));have K:fm (sg r.1)=true∧fm (sg hi)=true:=⟨hv.2 (Classical.not_not.1 fun h=>f (.inl h)),z.2 (Classical.not_not.1 fun h=>f (.inr h))⟩;exact .ite (fun _=>.ret fun _=>K) fun _=>.ite (fun _=>.ret fun _=>K) fun _=>.ret fun _=>K
 unfold lV;exact .ite (fun h=>(j _ g).mono fun b hb ht=>⟨(hb ht).1,.inl h⟩) fun _=>(j _ q).mono fun b hb ht=>⟨(hb ht).1,.inr (hb ht).2⟩
def T8(w:List Nat):Prop:=w.length≤9223372036854775807∧ ∀c∈w,c<256
theorem T8.take{w:List Nat}(h:T8 w)(k:Nat):T8 (w.take k):=⟨by rw[List.length_take]; have:=h.1; omega,fun c hc=>h.2 c (List.mem_of_mem_take hc)⟩
theorem T8.drop{w:List Nat}(h:T8 w)(k:Nat):T8 (w.drop k):=⟨by rw[List.length_drop]; have:=h.1; omega,fun c hc=>h.2 c (List.mem_of_mem_drop hc)⟩
theorem T8.nil:T8 []:=⟨by decide,fun c hc=>by cases hc⟩
theorem qT{α:Type}(z:α){l:List α}{k:Nat}(h:k<l.length):l.getD k z∈l:=by
 simp_all
theorem Tot.imp{α:Type}{o:Option α}{P:α→Prop}(h:Tot o P):Tot o (fun _=>True):=h.mono fun _ _=>trivial
theorem bKK(s:List Nat)(c:Nat):Tot (fJ none s c) (fun v=>∃k,k≤s.length∧v=s.drop k):=by
 unfold fJ;refine Tot.bind (Tot.loop (fun d=>∃k,k≤s.length∧d=s.drop k) (fun d=>d.length) ?_ ⟨0,Nat.zero_le _,rfl⟩) fun e g=>.ret g;rintro d ⟨k,f,rfl⟩;show Tot (gG none c (s.drop k)) _;unfold gG;refine .ck (fun h=>h) (.ite (fun h=>.ck (by omega) (.ret ⟨⟨k+1,?_,by simp_all⟩,?_⟩)) fun h=>.ret ⟨k,f,rfl⟩)
 all_goals grind
theorem bKL(s:List Nat)(c:Nat)(hs:s.length≤1000):Tot (eY none s c) (fun v=>∃k,k≤s.length∧v=s.take k):=by
 unfold eY;refine Tot.bind (Tot.loop (fun d=>∃k,k≤s.length∧d=s.take k) (fun d=>d.length) ?_ ⟨s.length,Nat.le_refl _,(List.take_length).symm⟩) fun e q=>.ret q;rintro d ⟨k,g,rfl⟩;have f:(s.take k).length=k:=by simp_all
 show Tot (fS none c (s.take k)) _;unfold fS;rw[f];refine .ck (fun h=>by omega) (.ck (fun h=>by omega) (.ite (fun h=>.ck (by omega) (.ck (by omega) (.ret ⟨⟨k-1,by omega,?_⟩,?_⟩))) fun h=>.ret ⟨k,g,rfl⟩))
 ·simp_all[List.take_take]
 ·have:=h.1;show (List.take _ (s.take k)).length<k;rw[List.length_take,f];omega
theorem bEN{A:List Bool}{c:Nat}(hc:c<256):Tot (dH none A c) (fun _=>True):=by
 unfold dH;exact .ck (by omega) (.ret trivial)
theorem bKM(cs:List Nat)(h:∀c∈cs,c<128)(g:cs.length≤1000):Tot (cT none cs) (fun r=>r.2.1=true):=by
 unfold cT;refine Tot.bind (P:=fun e=>match e with| .inl _=>True| .inr r=>r.2.1=true) (Tot.loop (fun d:Int×List Bool=>0≤d.1∧d.1≤cs.length) (fun d=>((cs.length:Int)-d.1).toNat) ?_ ⟨by decide,by omega⟩) fun e f=>?_
 ·rintro⟨i,A⟩ ⟨i0,i1⟩;have i0:0≤i:=i0;have i1:i≤cs.length:=i1;show Tot (eJ none cs i A) _;unfold eJ;refine .ite (fun hi=>.ck ⟨i0,hi⟩ ?_) fun _=>.ret trivial;have hc:=h _ (qT 0 (l:=cs) (k:=i.toNat) (by omega));refine .ite (fun q=>by omega) fun _=>.ck (by omega) (.ck (by omega) (.ret ⟨⟨by omega,by omega⟩,by omega⟩))
 ·cases e with
  | inl A=>exact .ret rfl
  | inr r=>exact .ret f
theorem bKN(s:List Nat)(A:List Bool)(hs:T8 s):Tot (cS none s A) T8:=by
 unfold cS;refine Tot.bind (Tot.loop T8 (fun d=>d.length) ?_ hs) fun e f=>.ret f;intro d hd;show Tot (cF none A d) _;unfold cF;have g:=hd.1;refine .ite (fun h=>.ck (by omega) (.ck (by omega) ((bEN (hd.2 _ (qT 0 (by omega)))).bind fun v _=>.ite (fun _=>.ret hd) fun _=>.ck (by omega) (.ck (by omega) (.ret ⟨hd.take _,?_⟩))))) fun _=>.ret hd;grind
theorem bKO(s:List Nat)(A:List Bool)(hs:T8 s):Tot (cV none s A) T8:=by
 unfold cV;refine Tot.bind (Tot.loop T8 (fun d=>d.length) ?_ hs) fun e f=>.ret f;intro d hd;show Tot (cJ none A d) _;unfold cJ;refine .ite (fun h=>.ck h ((bEN (hd.2 _ (qT 0 (by omega)))).bind fun v _=>.ite (fun _=>.ret hd) fun _=>.ck (by omega) (.ret ⟨hd.drop _,?_⟩))) fun _=>.ret hd;grind
theorem bIv(s cs:List Nat)(hs:T8 s)(h:∀c∈cs,c<128)(z:2≤cs.length)(f:cs.length≤1000):Tot (gN none s cs) (fun _=>True):=by
 unfold gN;refine .ite (fun _=>.ret trivial) fun _=>.ck (fun h=>by omega) (.ite (fun h=>absurd h.1 (by omega)) fun _=>(bKM cs h f).bind fun v hv=>.ite (fun _=>(bKN s _ hs).bind fun a g=>(bKO a _ g).bind fun b _=>.ret trivial) fun q=>absurd hv q)
theorem aQj(w:List Nat)(f:T8 w):Tot (cW none w) (fun _=>True):=by
 unfold cW;refine .ck (fun h=>by omega) (.ck (fun h=>by omega) (.ite (fun _=>.ret trivial) fun _=>(bIv w _ f xAa xAa xAa).bind fun v _=>.ck (fun _=>rfl) (.ck (fun _=>?_) (.ret trivial))));simp_all[mO,Option.getD_some,contains_eq]
theorem bEO(x:List Nat):∀A:List (List Nat×Bool),aAm .str (aCq .str A x true) x=some true
 | []=>if_pos (decide_eq_true rfl)
 | (k,v)::A=>by
  show aAm .str (if Ty.eqb .str x k=true then _ else _) x=_;split
  ·rename_i h;exact if_pos h
  ·rename_i h;exact(if_neg h).trans (bEO x A)
theorem bEP(x y:List Nat):∀A:List (List Nat×Bool),aAm .str A y=some true→aAm .str (aCq .str A x true) y=some true
 | [],h=>by cases h
 | (k,v)::A,h=>by
  have h:(if Ty.eqb .str y k=true then some v else aAm .str A y)=some true:=h;show aAm .str (if Ty.eqb .str x k=true then _ else _) y=_;split
  ·show (if Ty.eqb .str y k=true then some true else aAm .str A y)=_;grind
  ·show (if Ty.eqb .str y k=true then some v else aAm .str (aCq .str A x true) y)=_;split
   ·simp_all
   ·rename_i f;rw[if_neg f] at h;exact bEP x y A h
theorem Tot.self{α:Type}{o:Option α}{P:α→Prop}(h:Tot o P):Tot o (fun r=>o=some r∧P r):=by
 obtain⟨r,e,f⟩:=h;exact⟨r,e,e,f⟩
theorem aYg(l:List qc)(h:∀x∈l,T8 x)(N:l.length≤100000):Tot (sM none l) (fun b=>b=true→(∀x∈l,cW none x=some true)∧l.Nodup):=by
 unfold sM;refine Tot.bind (P:=fun e=>match e with| .inl _=>(∀x∈l,cW none x=some true)∧l.Nodup| .inr b=>b=false) (Tot.loop (fun d:Int×List (List Nat×Bool)=>0≤d.1∧d.1≤l.length∧(∀x∈l.take d.1.toNat,cW none x=some true∧aAm .str d.2 x=some true)∧(l.take d.1.toNat).Nodup) (fun d=>((l.length:Int)-d.1).toNat) ?_ ⟨by decide,by omega,(fun x f=>by cases f),List.nodup_nil⟩) fun e L=>?_
 ·rintro⟨i,A⟩ ⟨i0,i1,g,I⟩;have i0:0≤i:=i0;have i1:i≤l.length:=i1;have g:∀x∈l.take i.toNat,cW none x=some true∧aAm .str A x=some true:=g;have I:(l.take i.toNat).Nodup:=I;show Tot (wD none l i A) _;unfold wD;refine .ite (fun hi=>.ck ⟨i0,hi⟩ ((aQj _ (h _ (qT [] (by omega)))).self.bind fun v hv=>.ite (fun _=>.ret rfl) fun J=>.ck (by omega) (.ret ⟨⟨by omega,by omega,?_,?_⟩,by omega⟩))) fun hi=>.ret ?_
  ·have z:v=true:=Classical.not_not.1 fun q=>J (.inl q);have hv:=hv.1;rw[z] at hv;intro x f;rw[show (i+1).toNat=i.toNat+1 from by omega,qS [] (show i.toNat<l.length by omega)] at f;rcases List.mem_append.1 f with f|f
   ·exact⟨(g x f).1,bEP _ _ _ (g x f).2⟩
   ·rw[List.mem_singleton.1 f];exact⟨hv,bEO _ _⟩
  ·show (l.take (i+1).toNat).Nodup;rw[show (i+1).toNat=i.toNat+1 from by omega,qS [] (show i.toNat<l.length by omega),List.nodup_append];grind
  grind[List.take_of_length_le]
 ·cases e with
  | inl u=>exact .ret fun _=>L
  | inr b=>exact .ret fun h=>by simp_all
theorem Tot.idx{X E:Type}(n:Nat)(I:X→Nat→Prop){step:Int×X→Option ((Int×X)⊕E)}{P:E→Prop}(z:n≤1000000)
  (h:∀(i:Int) (x:X),0≤i→i<n→I64 (i+1)→I x i.toNat→Tot (step (i,x)) (fun q=>match q with| .inl d=>d.1=i+1∧I d.2 (i.toNat+1)| .inr e=>P e))
  (f:∀(x:X),I x n→Tot (step ((n:Int),x)) (fun q=>match q with| .inl d=>False| .inr e=>P e)) {x:X} (h0:I x 0):Tot (dK none step ((0:Int),x)) P:=by
 refine Tot.loop (fun d:Int×X=>(0:Int)≤d.1∧d.1≤(n:Int)∧I d.2 d.1.toNat) (fun d=>((n:Int)-d.1).toNat) ?_ ⟨Int.le_refl 0,by omega,h0⟩;rintro⟨i,x⟩ ⟨i0,i1,g⟩;have i0:0≤i:=i0;have i1:i≤n:=i1;rcases Int.lt_or_le i n with hi|hi
 ·refine(h i x i0 hi (by omega) g).mono fun q hq=>?_;grind
 ·have:i=n:=by omega
  subst this;grind[mono]
theorem Tot.idx1{E:Type}(n:Nat){step:Int→Option (Int⊕E)}{P:E→Prop}(g:n≤1000000)
  (h:∀(i:Int),0≤i→i<n→I64 (i+1)→Tot (step i) (fun q=>match q with| .inl d=>d=i+1| .inr e=>P e))
  (f:Tot (step (n:Int)) (fun q=>match q with| .inl d=>False| .inr e=>P e)):Tot (dK none step (0:Int)) P:=by
 refine Tot.loop (fun d:Int=>(0:Int)≤d∧d≤(n:Int)) (fun d=>((n:Int)-d).toNat) ?_ ⟨Int.le_refl 0,by omega⟩;grind[Int.lt_or_le,mono]
def OkE(e:Ex):Prop:=∃n,n≤64∧fits n e∧nd n e≤1000
theorem aSR(e:Ex)(names:List qc)(I:OkE e)(z:names.length≤1000):Tot (cX none e names) (fun _=>True):=by
 obtain⟨n,f,g,q⟩:=I;unfold cX;exact(Tot.of (P:=fun _=>True) (bH6 g f q) trivial).bind fun v _=>.ck (fun _=>by rw[aZV names z n 64 e f g]; rfl) (.ret trivial)
theorem bKP(l:List (List Nat×Ex×Unit))(names:List qc)(z:∀x∈l,OkE x.2.1)(g:names.length≤1000)(I:l.length≤1000):Tot (bW none l (names,())) (fun b=>b=false→ ∀x∈l,cX none x.2.1 names=some true):=by
 unfold bW dB;refine Tot.bind (P:=fun r:Int=>r<0→ ∀x∈l,cX none x.2.1 names=some true) (Tot.bind (P:=fun e=>match e with| .inl _=>∀x∈l,cX none x.2.1 names=some true| .inr r=>0≤r) (Tot.loop (fun i:Int=>0≤i∧i≤l.length∧ ∀x∈l.take i.toNat,cX none x.2.1 names=some true) (fun i=>((l.length:Int)-i).toNat) ?_ ⟨Int.le_refl 0,by omega,fun x f=>by cases f⟩) fun e q=>?_) fun v hv=>.ret fun h=>hv (by simp_all)
 ·rintro i ⟨i0,i1,J⟩;unfold dS;refine .ite (fun hi=>.ck ⟨i0,hi⟩ ?_) fun hi=>.ret ?_
  ·refine Tot.bind (P:=fun b=>cX none (l.getD i.toNat ([],(Ex.mk 0 [] []),())).2.1 names=some (!b)) ?_ fun v hv=>.ite (fun _=>.ret i0) fun g=>.ck (by omega) (.ret ⟨⟨by omega,by omega,fun x f=>?_⟩,by omega⟩)
   ·unfold wH;exact(aSR _ names (z _ (qT _ (by omega))) g).self.bind fun v hv=>.ret (by simp_all)
   ·rw[show (i+1).toNat=i.toNat+1 from by omega,qS (([]:List Nat),(Ex.mk 0 [] []),()) (show i.toNat<l.length by omega)] at f;grind
  grind[List.take_of_length_le]
 ·cases e with
  | inl u=>exact .ret fun _=>q
  | inr r=>exact .ret fun h=>absurd q (by omega)
def TL(n:Nat)(l:List qc):Prop:=l.length≤n∧ ∀x∈l,T8 x
theorem TL.app{n m:Nat}{a b:List qc}(h:TL n a)(k:TL m b):TL (n+m) (a++b):=⟨by rw[List.length_append]; have:=h.1; have:=k.1; omega,fun x f=>(List.mem_append.1 f).elim (h.2 x) (k.2 x)⟩
theorem TL.one{w:List Nat}(h:T8 w):TL 1 [w]:=⟨Nat.le_refl 1,fun x f=>by simp_all⟩
theorem TL.up{n m:Nat}{a:List qc}(h:TL n a)(k:n≤m):TL m a:=⟨Nat.le_trans h.1 k,h.2⟩
structure bEQ(s:qI):Prop where
 n:T8 s.1
 x:s.2.1.length≤4000∧ ∀a∈s.2.1,T8 a.1∧T8 a.2.1.1∧T8 a.2.1.2.1∧OkE a.2.2.1
 p:s.2.2.1.length≤4000∧ ∀a∈s.2.2.1,T8 a.1∧T8 a.2.1.1∧T8 a.2.1.2.1
 u:TL 4000 s.2.2.2.1
 o:s.2.2.2.2.1.length≤4000∧ ∀a∈s.2.2.2.2.1,T8 a.1∧OkE a.2.1
theorem Tot.eq{α:Type}{o:Option α}{r:α}(h:Tot o (fun x=>x=r)):o=some r:=by
 obtain⟨x,e,rfl⟩:=h;exact e
theorem bIw(s:qI)(J:s.2.1.length≤1000)(hp:s.2.2.1.length≤1000):bH none s=some (s.2.1.map (·.1),s.2.2.1.map (·.1),s.2.2.2.1,()):=by
 refine Tot.eq ?_;unfold bH;refine Tot.bind (P:=fun l=>l=s.2.1.map (·.1)) (Tot.idx s.2.1.length (fun l i=>l=(s.2.1.take i).map (·.1)) (by omega) (fun i l i0 hi g f=>?_) (fun l f=>?_) rfl) fun l I=>?_
 ·show Tot (pC none s i l) _;unfold pC;have I:l.length≤1000:=by grind
  refine .ite (fun _=>.ck ⟨i0,hi⟩ (.ck (by omega) (.ck g (.ret ⟨rfl,?_⟩)))) fun z=>absurd hi z;rw[qS (([]:List Nat),(([]:List Nat),([]:List Nat),()),(Ex.mk 0 [] []),()) (show i.toNat<s.2.1.length by omega),List.map_append,← f];rfl
 ·show Tot (pC none s _ l) _;unfold pC;rw[List.take_length] at f;exact .ite (fun z=>absurd z (by omega)) fun _=>.ret f
 ·subst I;unfold wC;refine Tot.bind (P:=fun l=>l=s.2.2.1.map (·.1)) (Tot.idx s.2.2.1.length (fun l i=>l=(s.2.2.1.take i).map (·.1)) (by omega) (fun i l i0 hi g f=>?_) (fun l f=>?_) rfl) fun q hq=>?_
  ·show Tot (pB none s i l) _;unfold pB;have I:l.length≤1000:=(by grind);refine .ite (fun _=>.ck ⟨i0,hi⟩ (.ck (by omega) (.ck g (.ret ⟨rfl,?_⟩)))) fun z=>absurd hi z;rw[qS (([]:List Nat),(([]:List Nat),([]:List Nat),()),()) (show i.toNat<s.2.2.1.length by omega),List.map_append,← f];rfl
  ·show Tot (pB none s _ l) _;unfold pB;rw[List.take_length] at f;exact .ite (fun z=>absurd z (by omega)) fun _=>.ret f
  ·subst hq;exact .ret rfl
theorem bFP(a b c:List qc)(ha:a.length≤1000)(hb:b.length≤1000)(hc:c.length≤1000):cC none [a,b,c]=some (a++(b++c)):=by
 refine Tot.eq ?_;have g:∀i:Int,0≤i→i<(3:Nat)→(([a,b,c]:List q8).getD i.toNat []).length≤1000:=fun i N Y=>by
  grind
 unfold cC;refine Tot.bind (P:=fun k:Int=>0≤k∧k≤3000) ?_ fun k Z=>?_
 ·refine Tot.loop (fun d:Int×Int=>0≤d.2∧d.2≤3∧0≤d.1∧d.1≤1000*d.2) (fun d=>(3-d.2).toNat) ?_ ⟨by decide,by decide,by decide,by decide⟩;rintro⟨k,i⟩ ⟨i0,i1,q,J⟩;have i0:0≤i:=i0;have i1:i≤3:=i1;have q:0≤k:=q;have J:k≤1000*i:=J;show Tot (lF none [a,b,c] k i) _;unfold lF;refine .ite (fun hi=>?_) fun _=>.ret ⟨q,by omega⟩;have I:i<(3:Nat):=hi;have:=g i i0 I;exact .ck ⟨i0,hi⟩ (.ck (by omega) (.ite (fun f=>by omega) fun _=>.ck (by omega) (.ret ⟨⟨by omega,by omega,by omega,by omega⟩,by omega⟩)))
 ·unfold lE mP;refine Tot.bind (P:=fun r=>r= []) (.ck (by omega) (.ret rfl)) fun r U=>?_;subst U;refine Tot.bind (P:=fun l=>l=a++(b++c)) (Tot.idx 3 (fun l i=>l=((([a,b,c]:List q8).take i).flatten)) xAa (fun i l i0 hi z L=>?_) (fun l L=>?_) rfl) fun l O=>.ret O
  ·show Tot (iC none [a,b,c] i l) _;unfold iC;have Y:=g i i0 hi;have N:l.length≤2000∧l++([a,b,c]:List q8).getD i.toNat []=(([a,b,c]:List q8).take (i.toNat+1)).flatten:=by
    rw[L];rcases (by omega:i=0∨i=1∨i=2) with rfl|rfl|rfl
    all_goals grind
   exact .ite (fun f=>.ck ⟨i0,f⟩ (.ck (by omega) (.ck z (.ret ⟨rfl,N.2⟩)))) fun f=>absurd hi f
  simp_all[Tot,iC,ite,absurd]
def nmS(s:qI):List qc:=s.2.1.map (·.1)++(s.2.2.1.map (·.1)++s.2.2.2.1)
def RgF(r:List Nat×List Nat×Unit):Prop:=fm (sg r.1)=true∧(r.2.1= []∨fm (sg r.2.1)=true)
structure bFQ(s:qI):Prop where
 b:s.2.1.length≤6∧s.2.2.1.length≤6∧s.2.2.2.1.length≤4∧s.2.2.2.2.1.length≤4
 n:(∀x∈nmS s++s.2.2.2.2.1.map (·.1),cW none x=some true)∧(nmS s++s.2.2.2.2.1.map (·.1)).Nodup
 x:∀a∈s.2.1,RgF a.2.1∧cX none a.2.2.1 (nmS s)=some true
 p:∀a∈s.2.2.1,RgF a.2.1
 o:∀a∈s.2.2.2.2.1,cX none a.2.1 (nmS s)=some true
theorem bDq(s:qI)(h:bEQ s):Tot (wI none s) (fun b=>b=true→bFQ s):=by
 unfold wI;refine .ite (fun _=>.ret fun h=>by cases h) fun hb=>?_;have f:=h.x.1;have hx6:s.2.1.length≤6:=by omega
 have hp6:s.2.2.1.length≤6:=by omega
 have O:s.2.2.2.1.length≤4:=by omega
 have ho6:s.2.2.2.2.1.length≤4:=by omega
 have N:=bIw s (by omega) (by omega);have C:=bFP (s.2.1.map (·.1)) (s.2.2.1.map (·.1)) s.2.2.2.1 (by grind) (by grind) (by omega);have nl:(nmS s).length≤16:=by
  grind[nmS]
 have n8:∀x∈nmS s,T8 x:=fun x f=>by
  unfold nmS at f;rcases List.mem_append.1 f with f|f
  ·obtain⟨a,z,rfl⟩:=List.mem_map.1 f;exact(h.x.2 a z).1
  ·rcases List.mem_append.1 f with f|f
   ·obtain⟨a,z,rfl⟩:=List.mem_map.1 f;exact(h.p.2 a z).1
   ·exact h.u.2 x f
 simp only[N,Option.getD_some,Option.isSome_some,C];refine .ck trivial (.ck trivial (.ck (show bHX (nmS s) from by omega) ?_));refine Tot.bind (P:=fun l=>l=nmS s++s.2.2.2.2.1.map (·.1)) (Tot.idx s.2.2.2.2.1.length (fun l i=>l=nmS s++(s.2.2.2.2.1.take i).map (·.1)) (by omega) (fun i l i0 hi h64 L=>?_) (fun l L=>?_) (show id (nmS s)=nmS s++ [] by simp_all)) fun all I=>?_
 ·show Tot (qO none s i l) _;unfold qO;have hl:l.length≤1000:=by
   grind
  refine .ite (fun _=>.ck ⟨i0,hi⟩ (.ck (by omega) (.ck h64 (.ret ⟨rfl,?_⟩)))) fun Y=>absurd hi Y;rw[qS (([]:List Nat),(Ex.mk 0 [] []),()) (show i.toNat<s.2.2.2.2.1.length by omega),List.map_append,← List.append_assoc,← L];rfl
 ·show Tot (qO none s _ l) _;unfold qO;rw[List.take_length] at L;exact .ite (fun Y=>absurd Y (by omega)) fun _=>.ret L
 ·subst I;unfold zA;have J:=aYg (nmS s++s.2.2.2.2.1.map (·.1)) (fun x f=>by
   rcases List.mem_append.1 f with f|f
   ·simp_all
   ·obtain⟨a,z,rfl⟩:=List.mem_map.1 f;exact(h.o.2 a z).1) (by grind)
  refine .ck J.wP (.ite (fun _=>.ret fun h=>by cases h) fun g=>?_);have J:=J.get false (Classical.not_not.1 g);refine Tot.bind (P:=fun e=>match e with| .inl _=>∀a∈s.2.1,RgF a.2.1∧cX none a.2.2.1 (nmS s)=some true| .inr b=>b=false) (Tot.loop (fun i:Int=>0≤i∧i≤s.2.1.length∧ ∀a∈s.2.1.take i.toNat,RgF a.2.1∧cX none a.2.2.1 (nmS s)=some true) (fun i=>((s.2.1.length:Int)-i).toNat) ?_ ⟨Int.le_refl 0,by omega,fun x f=>by cases f⟩) fun e he=>?_
  ·rintro i ⟨i0,i1,i2⟩;unfold aBI;simp only[N,Option.getD_some,C];refine .ite (fun hi=>.ck ⟨i0,hi⟩ ?_) fun hi=>.ret (by grind[List.take_of_length_le]);obtain⟨q1,Z,U,q4⟩:=h.x.2 _ (qT (([]:List Nat),(([]:List Nat),([]:List Nat),()),(Ex.mk 0 [] []),()) (l:=s.2.1) (k:=i.toNat) (by omega));have R:=aWl _ Z.1 U.1;have M:=(aSR _ (nmS s) q4 (by omega)).self;refine .ck R.wP (.ck (fun _=>M.wP) (.ite (fun _=>.ret rfl) fun g=>.ck (by omega) (.ret ⟨⟨by omega,by omega,fun x f=>?_⟩,by omega⟩)));rw[show (i+1).toNat=i.toNat+1 from by omega,qS (([]:List Nat),(([]:List Nat),([]:List Nat),()),(Ex.mk 0 [] []),()) (show i.toNat<s.2.1.length by omega)] at f;rcases List.mem_append.1 f with f|f
   ·grind
   ·rw[List.mem_singleton.1 f];have r:=R.get false (Classical.not_not.1 fun q=>g (.inl q));obtain⟨v,hv,hv2,_⟩:=M;have:v=true:=by
     have q:(cX none (s.2.1.getD i.toNat ([],([],[],()),(Ex.mk 0 [] []),())).2.2.1 (nmS s)).getD false=true:=Classical.not_not.1 fun q=>g (.inr q);simp_all
    exact⟨r,by simp_all⟩
  ·cases e with
   | inr b=>exact .ret fun h=>by simp_all
   | inl u =>
    show Tot (uT none s) _;unfold uT;simp only[N,Option.getD_some,C];refine Tot.bind (P:=fun e=>match e with| .inl _=>∀a∈s.2.2.1,RgF a.2.1| .inr b=>b=false) (Tot.loop (fun i:Int=>0≤i∧i≤s.2.2.1.length∧ ∀a∈s.2.2.1.take i.toNat,RgF a.2.1) (fun i=>((s.2.2.1.length:Int)-i).toNat) ?_ ⟨Int.le_refl 0,by omega,fun x f=>by cases f⟩) fun e hp=>?_
    ·rintro i ⟨i0,i1,i2⟩;unfold aBH;refine .ite (fun hi=>.ck ⟨i0,hi⟩ ?_) fun hi=>.ret (by grind[List.take_of_length_le]);obtain⟨q1,Z,U⟩:=h.p.2 _ (qT (([]:List Nat),(([]:List Nat),([]:List Nat),()),()) (l:=s.2.2.1) (k:=i.toNat) (by omega));have R:=aWl _ Z.1 U.1;refine .ck R.wP (.ite (fun _=>.ret rfl) fun g=>.ck (by omega) (.ret ⟨⟨by omega,by omega,fun x f=>?_⟩,by omega⟩));rw[show (i+1).toNat=i.toNat+1 from by omega,qS (([]:List Nat),(([]:List Nat),([]:List Nat),()),()) (show i.toNat<s.2.2.1.length by omega)] at f;rcases List.mem_append.1 f with f|f
     ·grind
     ·rw[List.mem_singleton.1 f];exact R.get false (Classical.not_not.1 g)
    ·cases e with
     | inr b=>exact .ret fun h=>by simp_all
     | inl u =>
      have Q:=bKP s.2.2.2.2.1 (nmS s) (fun x f=>(h.o.2 x f).2) (by omega) (by omega);refine .ck Q.wP (.ret fun hq=>⟨⟨hx6,hp6,O,ho6⟩,J,he,hp,Q.get false ?_⟩);have:=hq;simp at this;exact this
abbrev TLk:Type:=List Nat×List Nat×List Nat×List Nat×Unit
structure bB5(s:TSc):Prop where
 e:T8 s.2.2.2.2.1
 h0:T8 s.2.2.2.2.2.1
 hm:T8 s.2.2.2.2.2.2.1
 t:T8 s.2.2.2.2.2.2.2.1
 sb:s.2.2.2.2.2.2.2.2.1.length≤4000∧ ∀a∈s.2.2.2.2.2.2.2.2.1,bEQ a
 l:s.2.2.2.2.2.2.2.2.2.1.length≤4000
theorem bIx(s:TSc)(h:bB5 s)(w:List Nat):Tot (aAC none s w) (fun r=>r<0∨((0≤r∧r<s.2.2.2.2.2.2.2.2.1.length)∧(s.2.2.2.2.2.2.2.2.1.getD r.toNat ([],[],[],[],[],())).1=w)):=by
 unfold aAC;refine Tot.bind (P:=fun e=>match e with| .inl _=>True| .inr r=>(0≤r∧r<s.2.2.2.2.2.2.2.2.1.length)∧(s.2.2.2.2.2.2.2.2.1.getD r.toNat ([],[],[],[],[],())).1=w) (Tot.idx1 s.2.2.2.2.2.2.2.2.1.length (by have:=h.sb.1; omega) (fun i i0 hi f=>?_) ?_) fun e q=>?_
 ·unfold yC;exact .ite (fun _=>.ck ⟨i0,hi⟩ (.ite (fun z=>.ret ⟨⟨i0,hi⟩,z⟩) fun _=>.ck f (.ret rfl))) fun g=>absurd hi g
 ·unfold yC;exact .ite (fun g=>absurd g (by omega)) fun _=>.ret trivial
 ·cases e with
  | inl u=>exact .ret (.inl xAa)
  | inr r=>exact .ret (.inr q)
theorem bKQ(l:List (List Nat×Ex×Unit))(k:List TLk)(z:0<k.length)(q:l.length≤4000):Tot (bM none l (k,())) (fun b=>b=true→ ∃o∈l,o.1=(k.getD 0 ([],[],[],[],())).2.2.2.1):=by
 unfold bM dC;refine Tot.bind (P:=fun r:Int=>0≤r→ ∃o∈l,o.1=(k.getD 0 ([],[],[],[],())).2.2.2.1) (Tot.bind (P:=fun e=>match e with| .inl _=>True| .inr r=>∃o∈l,o.1=(k.getD 0 ([],[],[],[],())).2.2.2.1) (Tot.idx1 l.length (by omega) (fun i i0 hi f=>?_) ?_) fun e g=>?_) fun v hv=>.ret fun h=>hv (of_decide_eq_true h)
 ·unfold cU;refine .ite (fun _=>.ck ⟨i0,hi⟩ ?_) fun h=>absurd hi h;refine Tot.bind (P:=fun b=>b=true→(l.getD i.toNat ([],(Ex.mk 0 [] []),())).1=(k.getD 0 ([],[],[],[],())).2.2.2.1) ?_ fun v hv=>.ite (fun ht=>.ret ⟨_,qT _ (by omega),hv ht⟩) fun _=>.ck f (.ret rfl);unfold wJ;exact .ck (by simp_all) (.ret fun h=>of_decide_eq_true h)
 ·unfold cU;exact .ite (fun h=>absurd h (by omega)) fun _=>.ret trivial
 ·cases e with
  | inl u=>exact .ret fun h=>absurd h xAa
  | inr r=>exact .ret fun _=>g
def kS(x:qI):List (List Nat×List Nat):=x.2.2.2.1.map fun u=>(x.1,u)
def kL(l:TLk):List Nat×List Nat:=(l.1,l.2.1)
def GdL(s:TSc)(a:TLk):Prop:=∃y∈s.2.2.2.2.2.2.2.2.1,a.2.2.1=y.1∧ ∃o∈y.2.2.2.2.1,o.1=a.2.2.2.1
def Met(s:TSc)(l:List TLk)(f:List (List Nat×List Nat)):Prop:=∃d,s.2.2.2.2.2.2.2.2.2.1=d++l∧d.map kL=f∧ ∀a∈d,GdL s a
theorem Met.step{s:TSc}{l:List TLk}{f:List (List Nat×List Nat)}(h:Met s l f)(J:0<l.length){w u:List Nat}(z:(l.getD 0 ([],[],[],[],())).1=w)(q:(l.getD 0 ([],[],[],[],())).2.1=u)(I:GdL s (l.getD 0 ([],[],[],[],()))):Met s (l.drop 1) (f++ [(w,u)]):=by
 obtain⟨d,e1,g,L⟩:=h;cases l with
 | nil=>simp_all
 | cons a l =>
  refine⟨d++ [a],by simp_all,?_,fun b hb=>?_⟩
  ·rw[List.map_append,g,← z,← q];rfl
  grind
theorem aWm(s:TSc)(h:bB5 s):Tot (tL none s) (fun b=>b=true→s.2.2.2.2.2.2.2.2.2.1.map kL=s.2.2.2.2.2.2.2.2.1.flatMap kS∧ ∀a∈s.2.2.2.2.2.2.2.2.2.1,GdL s a):=by
 have hs:=h.sb.1;unfold tL;refine Tot.bind (P:=fun e=>match e with| .inl l=>Met s l (s.2.2.2.2.2.2.2.2.1.flatMap kS)| .inr b=>b=false) (Tot.idx s.2.2.2.2.2.2.2.2.1.length (fun l i=>Met s l ((s.2.2.2.2.2.2.2.2.1.take i).flatMap kS)) (by omega) (fun i l i0 hi Y U=>?_) (fun l U=>?_) ⟨[],rfl,rfl,fun a ha=>by cases ha⟩) fun e J=>?_
 ·show Tot (nS none s i l) _;unfold nS;refine .ite (fun _=>.ck ⟨i0,hi⟩ ?_) fun g=>absurd hi g;have z:i.toNat<s.2.2.2.2.2.2.2.2.1.length:=by omega
  have I:=h.sb.2 _ (qT (([]:List Nat),([]:List wR),([]:List we),([]:List qc),([]:List q9),()) z);have hu:=I.u.1;refine Tot.bind (P:=fun e=>match e with| .inl l=>Met s l ((s.2.2.2.2.2.2.2.2.1.take (i.toNat+1)).flatMap kS)| .inr b=>b=false) (Tot.idx (s.2.2.2.2.2.2.2.2.1.getD i.toNat ([],[],[],[],[],())).2.2.2.1.length (fun k j=>Met s k ((s.2.2.2.2.2.2.2.2.1.take i.toNat).flatMap kS++((s.2.2.2.2.2.2.2.2.1.getD i.toNat ([],[],[],[],[],())).2.2.2.1.take j).map fun u=>((s.2.2.2.2.2.2.2.2.1.getD i.toNat ([],[],[],[],[],())).1,u))) (Nat.le_trans hu xAa) (fun j k j0 Z O L=>?_) (fun k L=>?_) (by simp_all)) fun e J=>?_
  ·show Tot (nR none s i j k) _;unfold nR;refine .ite (fun _=>.ck ⟨j0,Z⟩ (.ck (fun _=>by omega) (.ck (fun _=>by omega) (.ite (fun _=>.ret rfl) fun hn=>?_)))) fun g=>absurd Z g;have hk:0<k.length:=by
    omega
   have w1:(k.getD 0 ([],[],[],[],())).1=_:=Classical.not_not.1 fun q=>hn (.inl (.inr q));have w2:(k.getD 0 ([],[],[],[],())).2.1=_:=Classical.not_not.1 fun q=>hn (.inr q);refine .ck (by omega) ((bIx s h _).bind fun v hv=>?_);have cf:¬v<0→Tot (bM none (s.2.2.2.2.2.2.2.2.1.getD v.toNat ([],[],[],[],[],())).2.2.2.2.1 (k,())) (fun b=>b=true→ ∃o∈(s.2.2.2.2.2.2.2.2.1.getD v.toNat ([],[],[],[],[],())).2.2.2.2.1,o.1=(k.getD 0 ([],[],[],[],())).2.2.2.1):=fun f=>bKQ _ k hk (h.sb.2 _ (qT _ (by omega))).o.1;refine .ck (fun _=>by omega) (.ck (fun f=>(cf f).wP) (.ite (fun _=>.ret rfl) fun hq=>.ck (by omega) (.ck O (.ret ⟨rfl,?_⟩))));have f:¬v<0:=fun q=>hq (.inl q);have N:=hv.resolve_left f;have hg:GdL s (k.getD 0 ([],[],[],[],())):=⟨_,qT (([]:List Nat),([]:List wR),([]:List we),([]:List qc),([]:List q9),()) (show v.toNat<_ by omega),N.2.symm,(cf f).get false (Classical.not_not.1 fun q=>hq (.inr q))⟩;have:=L.step hk w1 w2 hg;rw[qS ([]:List Nat) (show j.toNat<_ by omega),List.map_append,← List.append_assoc];exact this
  ·show Tot (nR none s i _ k) _;unfold nR;refine .ite (fun g=>absurd g (Int.lt_irrefl _)) fun _=>.ret ?_;rw[List.take_length] at L;show Met s k ((s.2.2.2.2.2.2.2.2.1.take (i.toNat+1)).flatMap kS);rw[qS (([]:List Nat),([]:List wR),([]:List we),([]:List qc),([]:List q9),()) z,List.flatMap_append,List.flatMap_singleton];exact L
  ·cases e with
   | inl k=>exact .ck Y (.ret ⟨rfl,J⟩)
   | inr b=>exact .ret J
 ·show Tot (nS none s _ l) _;unfold nS;rw[List.take_length] at U;exact .ite (fun g=>absurd g (Int.lt_irrefl _)) fun _=>.ret U
 ·cases e with
  | inl l =>
   refine .ret fun hb=>?_;obtain⟨d,e1,e2,e3⟩:=J;simp_all
  | inr b=>exact .ret fun h=>by simp_all
structure ScF(s:TSc):Prop where
 n:bKJ s
 r:s.2.2.2.2.2.2.2.2.1.length≤4∧ ∀x∈s.2.2.2.2.2.2.2.2.1,bFQ x
 w:(∀x∈s.2.2.2.2.2.2.2.2.1,cW none x.1=some true)∧(s.2.2.2.2.2.2.2.2.1.map (·.1)).Nodup
 l:s.2.2.2.2.2.2.2.2.2.1.map kL=s.2.2.2.2.2.2.2.2.1.flatMap kS∧ ∀a∈s.2.2.2.2.2.2.2.2.2.1,GdL s a
theorem bER(s:TSc)(h:bB5 s):Tot (lL none s) (fun b=>b=true→ScF s):=by
 have hs:=h.sb.1;unfold lL;refine(bB4 s h.e.1 h.h0.1 h.hm.1 h.t.1).bind fun v hv=>.ite (fun _=>.ret fun h=>by cases h) fun O=>?_;have hv:=hv (Classical.not_not.1 fun q=>O (.inl (.inl q)));refine Tot.bind (P:=fun e=>match e with| .inl l=>l=s.2.2.2.2.2.2.2.2.1.map (·.1)∧ ∀x∈s.2.2.2.2.2.2.2.2.1,bFQ x| .inr b=>b=false) (Tot.idx s.2.2.2.2.2.2.2.2.1.length (fun l i=>l=(s.2.2.2.2.2.2.2.2.1.take i).map (·.1)∧ ∀x∈s.2.2.2.2.2.2.2.2.1.take i,bFQ x) (by omega) (fun i l i0 hi L I=>?_) (fun l I=>?_) ⟨rfl,fun x g=>by cases g⟩) fun e Y=>?_
 ·show Tot (tM none s i l) _;unfold tM;have f:i.toNat<s.2.2.2.2.2.2.2.2.1.length:=by omega
  have z:=h.sb.2 _ (qT (([]:List Nat),([]:List wR),([]:List we),([]:List qc),([]:List q9),()) f);have hl:l.length≤4000:=by grind
  refine .ite (fun _=>.ck ⟨i0,hi⟩ ((bDq _ z).bind fun v hv=>.ite (fun _=>.ret rfl) fun O=>.ck (by omega) (.ck L (.ret ⟨rfl,?_,fun x g=>?_⟩)))) fun N=>absurd hi N
  ·rw[qS (([]:List Nat),([]:List wR),([]:List we),([]:List qc),([]:List q9),()) f,List.map_append,← I.1];rfl
  ·rw[qS (([]:List Nat),([]:List wR),([]:List we),([]:List qc),([]:List q9),()) f] at g;grind
 ·show Tot (tM none s _ l) _;unfold tM;rw[List.take_length] at I;exact .ite (fun N=>absurd N (Int.lt_irrefl _)) fun _=>.ret I
 ·cases e with
  | inr b=>exact .ret fun h=>by simp_all
  | inl l =>
   obtain⟨e,U⟩:=Y;subst e;show Tot (wK none s _) _;unfold wK;refine(aYg _ (fun x g=>?_) (by grind)).bind fun v J=>.ck (fun _=>(aWm s h).wP) (.ret fun hb=>?_)
   ·obtain⟨a,Z,rfl⟩:=List.mem_map.1 g;exact(h.sb.2 a Z).n
   ·rw[Bool.and_eq_true] at hb;have J:=J hb.1;exact⟨hv,⟨by omega,U⟩,⟨fun x g=>J.1 _ (List.mem_map_of_mem g),J.2⟩,(aWm s h).get false hb.2⟩
theorem bB6:∀(n k:Nat) (e:Ex) (a f d0:Nat),(n≤k∨(a≤31∧32≤a+k))→fits n e→a+n≤1000→f+nd n e≤100000→d0≤100000 →
  ∃n' d':Nat,gO none k e (a:Int) (f:Int) (d0:Int)=some ((n':Int),(d':Int))∧f<n'∧n'≤f+nd n e∧d0≤d'∧a≤d'∧d'≤max d0 (a+ht n e-1)∧(n'≤60→d'≤30→n'=f+nd n e∧d'=max d0 (a+ht n e-1))
 | 0,k,e,a,f,d0,J,q,Z,N,hd=>q.elim
 | n+1,0,e,a,f,d0,J,q,Z,N,hd=>absurd J (by omega)
 | n+1,k+1,e,a,f,d0,J,q,Z,N,hd=>by
  obtain⟨hf1,hf2,z⟩:=q;have hnd:nd (n+1) e=1+aC6 (nd n) e.l:=rfl;have hht:ht (n+1) e=1+mxN (ht n) e.l:=rfl;show ∃n' d':Nat,mQ none (gO none k) e (a:Int) (f:Int) (d0:Int)=_∧_;unfold mQ;by_cases hc:(60:Int)<(f:Int)+1∨(30:Int)<(a:Int)
  ·refine⟨f+1,max d0 a,?_,by omega,by omega,by omega,by omega,by omega,fun _ _=>by omega⟩;refine aE (by omega) ?_;grind
  ·obtain⟨r,hr,x,y,rfl,q1,q2,q3,q4,q5⟩:=mF (step:=fun d:Int×Int×Int=>fC none (gO none k) e (a:Int) d.1 d.2.1 d.2.2)
    (I:=fun d=>∃i x y:Nat,d=((i:Int),(x:Int),(y:Int))∧i≤e.l.length∧f+1≤x∧x≤f+1+aC6 (nd n) (e.l.take i)∧max d0 a≤y∧y≤max (max d0 a) (a+mxN (ht n) (e.l.take i))∧(x≤60→y≤30→x=f+1+aC6 (nd n) (e.l.take i)∧y=max (max d0 a) (a+mxN (ht n) (e.l.take i))))
    (fun d=>((e.l.length:Int)-d.1).toNat)
    (fun r=>∃x y:Nat,r=((x:Int),(y:Int))∧f+1≤x∧x≤f+1+aC6 (nd n) e.l∧max d0 a≤y∧y≤max (max d0 a) (a+mxN (ht n) e.l)∧(x≤60→y≤30→x=f+1+aC6 (nd n) e.l∧y=max (max d0 a) (a+mxN (ht n) e.l)))
    (by
     rintro d ⟨i,x,y,rfl,h1,h2,O,h4,h5,L⟩;show (∃d',fC none (gO none k) e (a:Int) (i:Int) (x:Int) (y:Int)=_∧_)∨ ∃r,fC none (gO none k) e (a:Int) (i:Int) (x:Int) (y:Int)=_∧_;unfold fC;by_cases hi:i<e.l.length
     ·left
      have s1:=bBP (nd n) hi;have s2:=aRT (nd n) hi;have s3:=bBO (ht n) hi;have g:=z _ (aQc hi);have hm:=aZR (bEA n) (e.l.take i);have hy:y≤100000:=by omega
      ·obtain⟨U,y',Y,p2,p3,p4,p5,p6,p7⟩:=bB6 n k (e.l.getD i (Ex.mk 0 [] [])) (a+1) x y (by omega) g (by omega) (by omega) hy;rw[show ((a+1:Nat):Int)=(a:Int)+1 from by omega] at Y;refine⟨(((i+1:Nat):Int),(U:Int),(y':Int)),?_,⟨i+1,U,y',rfl,by omega,by omega,by omega,by omega,by omega,fun c1 c2=>?_⟩,by omega⟩
       ·rw[if_pos (by omega),Int.toNat_natCast];refine aE (by omega) (aE (by omega) (aZ Y (aE (by omega) ?_)))
        congr 3
       omega
     ·right
      have e1:e.l.take i=e.l:=aYc (by omega);rw[e1] at O h5 L;refine⟨((x:Int),(y:Int)),?_,x,y,rfl,h2,O,h4,h5,L⟩;grind)
    ((0:Int),(f:Int)+1,max (d0:Int) (a:Int)) ⟨0,f+1,max d0 a,by grind,by omega,by omega,by omega,by omega,by omega,fun _ _=>by rw[bH4,bLl]; omega⟩
   refine⟨x,y,?_,by omega,by omega,by omega,by omega,by omega,fun c1 c2=>by omega⟩;refine aE (by omega) ?_;grind
theorem bKR{n:Nat}{e:Ex}(f:fits n e)(L:n≤900)(hd:nd n e≤10000):oJ none e=some (decide (nd n e≤60∧ht n e≤30)):=by
 obtain⟨x,y,O,N,g,J,z,q,I⟩:=bB6 n 64 e 1 0 0 (.inr xAa) f (by omega) (by omega) (by omega);have hp:=bH5 f;unfold oJ aAz;grind
theorem bES(f:Ex→Nat):∀ {l:List Ex} {x:Ex},x∈l→f x≤mxN f l
 | y::l,x,h=>by
  show f x≤max (f y) (mxN f l);rcases List.mem_cons.1 h with rfl|h
  ·omega
  ·exact Nat.le_trans (bES f h) (Nat.le_max_right _ _)
theorem aYh{f g:Ex→Nat}:∀ {l:List Ex},(∀x∈l,f x=g x)→aC6 f l=aC6 g l
 | [],_=>rfl
 | y::l,h=>by
  show f y+aC6 f l=g y+aC6 g l;rw[h y (.head _),aYh fun x q=>h x (.tail _ q)]
theorem aUc:∀(n m:Nat) (e:Ex),fits n e→ht n e≤m→fits m e∧nd m e=nd n e
 | 0,m,e,q,_=>q.elim
 | n+1,0,e,q,h=>by
  have:ht (n+1) e=1+mxN (ht n) e.l:=rfl;omega
 | n+1,m+1,e,⟨J,I,z⟩,h=>by
  have L:ht (n+1) e=1+mxN (ht n) e.l:=rfl;have f:∀x∈e.l,fits m x∧nd m x=nd n x:=fun x g=>aUc n m x (z x g) (by grind[bES,ht]);refine⟨⟨J,I,fun x g=>(f x g).1⟩,?_⟩;grind[aC6,nd,aYh]
theorem bKS{n:Nat}{e:Ex}(f:fits n e)(q:n≤900)(hd:nd n e≤10000):Tot (oJ none e) (fun b=>b=true→OkE e):=by
 refine .of (bKR f q hd) fun h=>?_;have h:=of_decide_eq_true h;obtain⟨g,z⟩:=aUc n 30 e f h.2;exact⟨30,by decide,g,by omega⟩
theorem W.kinds{n:Nat}{e:Ex}(h:W n e):e.kind=1∨e.kind=2∨e.kind=6∨e.kind=7∨e.kind=8∨e.kind=9∨e.kind=10∨e.kind=11∨e.kind=12∨e.kind=13:=by
 cases h with
 | num n t h=>exact .inl rfl
 | name n t h=>exact .inr (.inl rfl)
 | two n k a b g f _ _=>show k=1∨k=2∨k=6∨k=7∨k=8∨k=9∨k=10∨k=11∨k=12∨k=13; omega
 | neg n a _=>exact .inr (.inr (.inr (.inr (.inr (.inr (.inl rfl))))))
 | fn n k a g f _=>show k=1∨k=2∨k=6∨k=7∨k=8∨k=9∨k=10∨k=11∨k=12∨k=13; omega
abbrev bFR(f k:Int):Prop:=((0:Int)≤k∧k<(60:Int))∧((IntKind.i64.wrap ((BitVec.ofInt 64 (Int.fdiv f (2^(k%(18446744073709551616:Int)).toNat))&&&BitVec.ofInt 64 (1:Int)).toNat:Int))=(1:Int))
theorem aUd{n:Nat}{e:Ex}(h:W n e):bFR 192 e.kind↔nE e:=by
 rcases h.kinds with h|h|h|h|h|h|h|h|h|h<;>simp only[nE,h]<;>decide
theorem aWn{n:Nat}{e:Ex}(h:W n e):bFR 960 e.kind↔qH e:=by
 rcases h.kinds with h|h|h|h|h|h|h|h|h|h<;>simp only[qH,h]<;>decide
theorem bDr{n:Nat}{e:Ex}(h:W n e):bFR 0 e.kind↔False:=by
 rcases h.kinds with h|h|h|h|h|h|h|h|h|h<;>simp only[h]<;>decide
theorem bET{g:Ex→Option qc}{e x:Ex}{i:Nat}{k:Int}(f:k=(i:Int)){s:Int}{p:Prop}[Decidable p](hi:i<e.l.length)(q:e.l.getD i (Ex.mk 0 [] [])=x){t:List Nat}(z:g x=some t)(hp:bFR s x.kind↔p)(I:t.length≤1099511627776):iE none g e k s=some (par p t):=by
 subst f;unfold iE;refine ifn (by omega) (aE (by omega) ?_);simp only[Int.toNat_natCast];rw[q];by_cases h:p
 ·refine ify (hp.2 h) (aZ z (aE (by show 1+t.length≤_; omega) (aE (by show ([40]++t).length+1≤_; grind) ?_)));unfold par; rw[if_pos h];rfl
 simp_all[ifn,aZ,par,if_neg]
theorem aBC{p:Prop}[Decidable p](t:List Nat):(par p t).length≤t.length+2:=by
 grind[par]
theorem nk{k j:Int}(h:decide (k=j)=false):¬k=j:=of_decide_eq_false h
theorem bB7:∀ {n:Nat} {e:Ex},W n e→n≤32→fits n e→(tx n e).length+8≤2^n*64∧ ∀k,n≤k→fZ none k e=some (tx n e):=by
 intro n e hw;have pw:∀n,n≤32→2^n*64≤274877906944:=fun n O=>by
  have:2^n≤2^32:=Nat.pow_le_pow_right xAa O;omega
 induction hw with
 | num n t h =>
  intro O L;have h1:1≤2^n:=Nat.one_le_two_pow;have h2:t.length≤60:=h.1;refine⟨by rw[show tx (n+1) (Ex.mk 1 t [])=t from rfl,Nat.pow_succ]; omega,fun k g=>?_⟩;cases k with
  | zero=>omega
  | succ k=>rfl
 | name n t h =>
  intro O L;have h1:1≤2^n:=Nat.one_le_two_pow;have h2:t.length≤100:=L.1;refine⟨by rw[show tx (n+1) (Ex.mk 2 t [])=t from rfl,Nat.pow_succ]; omega,fun k g=>?_⟩;cases k with
  | zero=>omega
  | succ k=>rfl
 | two n kd a b h1 h2 N hb I ihb =>
  intro O L;obtain⟨_,_,U⟩:=L;obtain⟨la,pa⟩:=I (by omega) (U a (.head _));obtain⟨lb,pb⟩:=ihb (by omega) (U b (.tail _ (.head _)));have q:=pw n (by omega);have two:2^(n+1)=2^n+2^n:=by omega
  have f:∀(Z Y:Prop) [Decidable Z] [Decidable Y] (m1 m2:Int) (sg:List Nat) (k:Nat),n≤k→sg.length=3→(bFR m1 a.kind↔Z)→(bFR m2 b.kind↔Y)→(iE none (fZ none k) (Ex.mk kd [] [a,b]) 0 m1).bind (fun z=>ck ((z.length)+(sg.length)≤9223372036854775807) ((iE none (fZ none k) (Ex.mk kd [] [a,b]) 1 m2).bind (fun J=>ck ((z++sg).length+(J.length)≤9223372036854775807) (some ((z++sg)++J)))))=some (par Z (tx n a)++(sg++par Y (tx n b))):=fun Z Y _ _ m1 m2 sg k g hs c1 c2=>by
   have l1:=aBC (p:=Z) (tx n a);have l2:=aBC (p:=Y) (tx n b);refine aZ (bET (i:=0) rfl (by show 0<2; decide) rfl (pa k g) c1 (by omega)) (aE (by omega) (aZ (bET (i:=1) rfl (by show 1<2; decide) rfl (pb k g) c2 (by omega)) (aE (by grind) ?_)));simp_all
  have pf:∀t:List Nat,par False t=t:=fun t=>if_neg id;rcases (by omega:kd=6∨kd=7∨kd=8∨kd=9) with rfl|rfl|rfl|rfl
  ·rw[aRV (.inl rfl)];have l2:=aBC (p:=nE b) (tx n b);refine⟨by grind,fun k g=>?_⟩;obtain⟨k,rfl⟩:∃j,k=j+1:=⟨k-1,by omega⟩;have:=f False (nE b) 0 192 [32,43,32] k (by omega) rfl (bDr N) (aUd hb);rw[pf] at this;show dR none (fZ none k) _=_;unfold dR;exact(ify rfl this)
  ·rw[aRV (.inr rfl)];have l2:=aBC (p:=nE b) (tx n b);refine⟨by grind,fun k g=>?_⟩;obtain⟨k,rfl⟩:∃j,k=j+1:=⟨k-1,by omega⟩;have:=f False (nE b) 0 192 [32,45,32] k (by omega) rfl (bDr N) (aUd hb);rw[pf] at this;show dR none (fZ none k) _=_;unfold dR;exact(ifn (nk rfl) (ify rfl this))
  ·rw[aMt (.inl rfl)];have l1:=aBC (p:=nE a) (tx n a);have l2:=aBC (p:=qH b) (tx n b);refine⟨by grind,fun k g=>?_⟩;obtain⟨k,rfl⟩:∃j,k=j+1:=⟨k-1,by omega⟩;show dR none (fZ none k) _=_;unfold dR;exact(ifn (nk rfl) (ifn (nk rfl) (ify rfl (f (nE a) (qH b) 192 960 [32,42,32] k (by omega) rfl (aUd N) (aWn hb)))))
  ·rw[aMt (.inr rfl)];have l1:=aBC (p:=nE a) (tx n a);have l2:=aBC (p:=qH b) (tx n b);refine⟨by grind,fun k g=>?_⟩;obtain⟨k,rfl⟩:∃j,k=j+1:=⟨k-1,by omega⟩;show dR none (fZ none k) _=_;unfold dR;exact(ifn (nk rfl) (ifn (nk rfl) (ifn (nk rfl) (ify rfl (f (nE a) (qH b) 192 960 [32,47,32] k (by omega) rfl (aUd N) (aWn hb))))))
 | neg n a N I =>
  intro O L;obtain⟨la,pa⟩:=I (by omega) (L.2.2 a (.head _));have q:=pw n (by omega);have two:2^(n+1)=2^n+2^n:=by omega
  have l1:=aBC (p:=qH a) (tx n a);rw[bDl];refine⟨by grind,fun k g=>?_⟩;obtain⟨k,rfl⟩:∃j,k=j+1:=⟨k-1,by omega⟩;show dR none (fZ none k) _=_;unfold dR;exact(ifn (nk rfl) (ifn (nk rfl) (ifn (nk rfl) (ifn (nk rfl) (ify rfl (aZ (bET (p:=qH a) (x:=a) (i:=0) rfl (by show 0<1; decide) rfl (pa k (by omega)) (aWn N) (by omega)) (aE (by show 1+_≤_; omega) rfl)))))))
 | fn n kd a h1 h2 N I =>
  intro O L;obtain⟨la,pa⟩:=I (by omega) (L.2.2 a (.head _));have q:=pw n (by omega);have two:2^(n+1)=2^n+2^n:=by omega
  have pf:∀t:List Nat,par False t=t:=fun t=>if_neg id;have f:∀(hd:List Nat) (k:Nat),n≤k→hd.length≤5→(iE none (fZ none k) (Ex.mk kd [] [a]) 0 0).bind (fun v=>ck (hd.length+v.length≤9223372036854775807) (ck ((hd++v).length+(aQ ⟨#[41]⟩).length≤9223372036854775807) (some ((hd++v)++aQ ⟨#[41]⟩))))=some (hd++(tx n a++ [41])):=fun hd k g hl=>by
   refine aZ (bET (i:=0) rfl (by show 0<1; decide) rfl (pa k g) (bDr N) (by omega)) ?_;rw[pf];refine aE (by omega) (aE (by rw[List.length_append,show (aQ ⟨#[41]⟩).length=1 from rfl]; omega) ?_);rw[List.append_assoc]; rfl
  rw[bEJ h1 h2];rcases (by omega:kd=11∨kd=12∨kd=13) with rfl|rfl|rfl
  ·refine⟨by rw[show fnT 11= [115,113,114] from rfl]; have:=aBC (p:=True) (tx n a); grind,fun k g=>?_⟩;obtain⟨k,rfl⟩:∃j,k=j+1:=⟨k-1,by omega⟩;show dR none (fZ none k) _=_;unfold dR;exact(ifn (nk rfl) (ifn (nk rfl) (ifn (nk rfl) (ifn (nk rfl) (ifn (nk rfl) (ify rfl (f [115,113,114,40] k (by omega) xAa)))))))
  ·refine⟨by rw[show fnT 12= [115,113,114,116] from rfl]; have:=aBC (p:=True) (tx n a); grind,fun k g=>?_⟩;obtain⟨k,rfl⟩:∃j,k=j+1:=⟨k-1,by omega⟩;show dR none (fZ none k) _=_;unfold dR;exact(ifn (nk rfl) (ifn (nk rfl) (ifn (nk rfl) (ifn (nk rfl) (ifn (nk rfl) (ifn (nk rfl) (ify rfl (f [115,113,114,116,40] k (by omega) xAa))))))))
  ·refine⟨by rw[show fnT 13= [101,120,112] from rfl]; have:=aBC (p:=True) (tx n a); grind,fun k g=>?_⟩;obtain⟨k,rfl⟩:∃j,k=j+1:=⟨k-1,by omega⟩;show dR none (fZ none k) _=_;unfold dR;exact(ifn (nk rfl) (ifn (nk rfl) (ifn (nk rfl) (ifn (nk rfl) (ifn (nk rfl) (ifn (nk rfl) (ifn (nk rfl) (ify rfl (f [101,120,112,40] k (by omega) xAa)))))))))
theorem bNO:∀ {n:Nat} {e:Ex},W n e→ ∀ {m:Nat},ht n e≤m→W m e:=by
 intro n e J
 induction J with
 | num n t h=>intro m hm; obtain⟨m,rfl⟩:∃j,m=j+1:=⟨m-1,by have:ht (n+1) (Ex.mk 1 t [])=1+0:=rfl; omega⟩; exact .num m t h
 | name n t h=>intro m hm; obtain⟨m,rfl⟩:∃j,m=j+1:=⟨m-1,by have:ht (n+1) (Ex.mk 2 t [])=1+0:=rfl; omega⟩; exact .name m t h
 | two n k a b z q I hb f g =>
  intro m hm;have e1:ht (n+1) (Ex.mk k [] [a,b])=1+max (ht n a) (max (ht n b) 0):=rfl;obtain⟨m,rfl⟩:∃j,m=j+1:=⟨m-1,by omega⟩;exact .two m k a b z q (f (by omega)) (g (by omega))
 | neg n a I f =>
  intro m hm;have e1:ht (n+1) (Ex.mk 10 [] [a])=1+max (ht n a) 0:=rfl;obtain⟨m,rfl⟩:∃j,m=j+1:=⟨m-1,by omega⟩;exact .neg m a (f (by omega))
 | fn n k a z q I f =>
  intro m hm;have e1:ht (n+1) (Ex.mk k [] [a])=1+max (ht n a) 0:=rfl;obtain⟨m,rfl⟩:∃j,m=j+1:=⟨m-1,by omega⟩;exact .fn m k a z q (f (by omega))
def Szd(k:Nat)(e:Ex):Prop:=fits k e∧nd k e≤k
theorem Szd.up{k m:Nat}{e:Ex}(h:Szd k e)(hm:k≤m):fits m e∧nd m e≤k:=by
 obtain⟨g,f⟩:=aUc k m e h.1 (Nat.le_trans (bEA k e) hm);exact⟨g,by rw[f]; exact h.2⟩
theorem Szd.le{k m:Nat}{e:Ex}(h:Szd k e)(hm:k≤m):Szd m e:=⟨(h.up hm).1,Nat.le_trans (h.up hm).2 hm⟩
theorem Szd.leaf{k:Int}{t:List Nat}(h:t.length≤100):Szd 1 (Ex.mk k t []):=⟨⟨h,Nat.zero_le _,fun x f=>by cases f⟩,Nat.le_refl 1⟩
theorem Szd.one{n:Nat}{k:Int}{e:Ex}(h:Szd n e):Szd (n+1) (Ex.mk k [] [e]) :=
 ⟨⟨Nat.zero_le _,by show 1≤1000; decide,fun x f=>by rw[List.mem_singleton.1 f]; exact h.1⟩,by
  show 1+(nd n e+0)≤n+1;have:=h.2;omega⟩
theorem Szd.two{n m:Nat}{k:Int}{e r:Ex}(h:Szd n e)(g:Szd m r):Szd (n+m+1) (Ex.mk k [] [e,r]):=by
 obtain⟨z,q⟩:=h.up (m:=n+m) (by omega);obtain⟨b1,I⟩:=g.up (m:=n+m) (by omega);refine⟨⟨Nat.zero_le _,by show 2≤1000; decide,fun x f=>?_⟩,by
  show 1+(nd (n+m) e+(nd (n+m) r+0))≤n+m+1;omega⟩
 rcases List.mem_cons.1 f with rfl|f
 all_goals simp_all
def PT(s:List Nat)(p:Nat):PR→Prop
 | .inl (e,q)=>p<q∧q≤s.length∧Szd (q-p) e
 | .inr q=>q≤s.length
def GT(s:List Nat)(one:Nat→Option PR)(n:Nat):Prop:=∀p,p≤s.length→s.length<p+n→Tot (one p) (PT s p)
theorem aFN{s:List Nat}{o:Option PR}{k:Ex→Nat→Option PR}{p p0:Nat}(h:Tot o (PT s p))(g:∀e q,PT s p (.inl (e,q))→Tot (k e q) (PT s p0)):Tot (aDq o k) (PT s p0):=by
 obtain⟨r,rfl,f⟩:=h;cases r with
 | inl x=>exact g x.1 x.2 f
 | inr q=>exact .ret (show q≤s.length from f)
theorem aZY{s:List Nat}{one:Nat→Option PR}{n:Nat}(I:GT s one n)(a b:Nat)(ka kb:Int){p0:Nat}:∀(f:Nat) (e:Ex) (p:Nat),s.length<p+f→p≤s.length→s.length<p+n→p0<p→Szd (p-p0) e→Tot (aDG one s a b ka kb f e p) (PT s p0)
 | 0,e,p,L,hp,O,h0,q=>absurd hp (by omega)
 | f+1,e,p,L,hp,O,h0,q=>by
  have hs:=aEY s p hp;unfold aDG;refine .ite (fun h=>?_) fun _=>.ret ⟨by omega,hs.2,q.le (by omega)⟩;have J:skp s p<s.length:=h.1;refine aFN (I (skp s p+1) (by omega) (by omega)) fun r z g=>?_;obtain⟨Y,U,N⟩:=g;exact aZY I a b ka kb f _ z (by omega) U (by omega) (by omega) ((q.two N).le (by omega))
theorem bB8{s:List Nat}{one:Nat→Option PR}{n:Nat}(g:GT s one n):GT s (aKe one s) n:=fun p hp f=>by
 unfold aKe;refine aFN (g p hp f) fun e q h=>?_;obtain⟨I,z,J⟩:=h;grind[aZY]
theorem bEU{s:List Nat}{one:Nat→Option PR}{n:Nat}(f:GT s one n):GT s (aZT one s) n:=fun p hp z=>by
 unfold aZT;refine aFN (bB8 f p hp z) fun e q h=>?_;obtain⟨I,g,J⟩:=h;exact aZY (bB8 f) _ _ _ _ _ e q (by omega) g (by omega) I J
theorem bIy{s:List Nat}{one:Nat→Option PR}{n:Nat}(J:GT s one n)(p:Nat)(hp:p≤s.length)(L:s.length<p+1+n):Tot (pIn one s p) (PT s p):=by
 have hs:=aEY s p hp;unfold pIn;refine .ite (fun h=>?_) fun _=>.ret hs.2;have z:skp s p<s.length:=h.1;refine aFN (bEU J (skp s p+1) (by omega) (by omega)) fun e q h=>?_;obtain⟨N,g,I⟩:=h;have hq:=aEY s q g;refine .ite (fun h=>?_) fun _=>.ret hq.2;have f:skp s q<s.length:=h.1;exact .ret ⟨by omega,by omega,I.le (by omega)⟩
theorem aUe{s:List Nat}(hs:s.length≤100):∀n,GT s (wT s n) n
 | 0,p,hp,U=>absurd hp (by omega)
 | n+1,p,hp,U=>by
  have f:=aEY s p hp;unfold wT;refine .ite (fun h=>?_) fun _=>?_
  ·have g:skp s p<s.length:=h.1;refine aFN (aUe hs n (skp s p+1) (by omega) (by omega)) fun e q h=>?_;obtain⟨q1,N,Z⟩:=h;exact .ret ⟨by omega,N,Z.one.le (by omega)⟩
  ·unfold aWf;refine .ite (fun _=>.ret f.2) fun hq=>?_;have g:skp s p<s.length:=(by omega);have mv:∀ {o:Option PR} {q:Nat},skp s p≤q→Tot o (PT s q)→Tot o (PT s p):=fun {o q} hq h=>h.mono fun r J=>by
    cases r with
    | inl x=>obtain⟨a,b,c⟩:=J; exact⟨by omega,b,c.le (by omega)⟩
    | inr z=>exact J
   refine .ite (fun _=>mv (Nat.le_refl _) (bIy (aUe hs n) _ f.2 (by omega))) fun _=>.ite (fun I=>?_) fun _=>?_
   ·have hw:=aWe gW s (skp s p);have L:1≤run gW s (skp s p):=(by grind[aRU,gW]);unfold bBR;split
    ·refine aFN (bIy (aUe hs n) (skp s p+run gW s (skp s p)) (by omega) (by omega)) fun e z h=>?_;obtain⟨z1,Y,O⟩:=h;exact .ret ⟨by omega,Y,O.one.le (by omega)⟩
    ·refine .ret ⟨by omega,by omega,(Szd.leaf ?_).le (by omega)⟩;show ((s.drop _).take _).length≤100;grind
   ·have I:=(bEE s (by omega) (skp s p) f.2).2;unfold bIa;refine .ite (fun _=>.ret f.2) fun h=>.ret ⟨by omega,I,(Szd.leaf ?_).le (by omega)⟩;grind
theorem bIz(s:List Nat)(hs:s.length≤100):Tot (iR none s) (fun r=>(0≤r.2.1∧r.2.1≤s.length)∧(r.2.2.1=0∨r.2.2.1=6)∧(r.2.2.1=0→OkE r.1)):=by
 obtain⟨r,J,hp⟩:=bEU (aUe hs 1100) 0 (Nat.zero_le _) (by omega);have:=bDj (by omega) (bDk (by omega) 1100) 0 0 r (by omega) (by omega) J;unfold iR;cases r with
 | inr q =>
  obtain⟨N,f⟩:=this;refine .of (aZ f rfl) ⟨⟨by simp_all,by simp_all⟩,.inr rfl,fun h=>by cases h⟩
 | inl x =>
  obtain⟨e,q⟩:=x;obtain⟨N,f,g,Z,L⟩:=this;obtain⟨U,p2,O⟩:=hp;have Y:=aEY s q f;refine Tot.bind (P:=fun y=>y= .inl (e,st s q g)) (.of L rfl) fun y hy=>?_;subst hy;refine Tot.bind (P:=fun y=>y=st s (skp s q) g) (.of (aT7 s (by omega) _ q g rfl f) rfl) fun y hy=>?_;subst hy;have I:=O.le (m:=100) (by omega);have z:=bKS I.1 xAa (by have:=I.2; omega);refine .ite (fun _=>.ret ⟨⟨by simp_all,by simp_all⟩,.inr rfl,fun h=>by cases h⟩) fun _=>.ck z.wP (.ite (fun _=>.ret ⟨⟨Int.le_refl 0,by simp_all⟩,.inr rfl,fun h=>by cases h⟩) fun h=>.ret ⟨⟨Int.le_refl 0,by simp_all⟩,.inl rfl,fun _=>z.get false (Classical.not_not.1 h)⟩)
abbrev TLn:Type:=Int×Int×List Nat×Unit
abbrev TSp:Type:=(Int×Int×Unit)×Unit
def LN(n:Int)(S:List Nat)(l:TLn):Prop:=l.1=n∧l.2.2.1=S∧0≤l.2.1∧l.2.1≤S.length
def SP(n:Int)(p:TSp):Prop:=p.1.1=n∧1≤p.1.2.1∧p.1.2.1≤91
def PU(n:Int)(S:List Nat):TLn⊕TSp→Prop
 | .inl l=>LN n S l
 | .inr p=>SP n p
def PO{α:Type}(n:Int)(S:List Nat)(Q:α→Prop):(α×TLn)⊕TSp→Prop
 | .inl x=>Q x.1∧LN n S x.2
 | .inr p=>SP n p
theorem aYi(s:List Nat):Tot (cD none s (aQ ⟨#[32]⟩)) (fun v=>∃k,k≤s.length∧v=s.drop k):=by
 unfold cD;exact .ite (fun _=>.ret ⟨0,Nat.zero_le _,rfl⟩) fun _=>.ck (fun _=>by decide) (.ite (fun _=>.ck xAa ((bKK s _).bind fun v hv=>.ret hv)) fun h=>absurd ⟨by decide,by decide⟩ h)
theorem bFS(s:List Nat)(hs:s.length≤1000):Tot (gD none s (aQ ⟨#[32]⟩)) (fun v=>∃k,k≤s.length∧v=s.take k):=by
 unfold gD;exact .ite (fun _=>.ret ⟨s.length,Nat.le_refl _,(List.take_length).symm⟩) fun _=>.ck (fun _=>by decide) (.ite (fun _=>.ck xAa ((bKL s _ hs).bind fun v hv=>.ret hv)) fun h=>absurd ⟨by decide,by decide⟩ h)
theorem bEV{w:List Nat}:∀ {d:List Nat} {k:Nat},k≤d.length→w.isPrefixOf (d.drop k)=true→ ∃i,aGk w d=some i∧i≤k
 | [],k,f,h=>by
  have hd:([]:List Nat).drop k= []:=List.drop_nil;rw[hd] at h;cases w with
  | nil=>exact⟨0,rfl,Nat.zero_le _⟩
  | cons a l=>cases h
 | b::l,k,f,h=>by
  by_cases hp:w.isPrefixOf (b::l)=true
  ·simp_all[aGk,if_pos,Nat.zero_le]
  ·cases k with
   | zero=>simp_all
   | succ k =>
    obtain⟨i,q,g⟩:=bEV (d:=l) (k:=k) (by simp_all) h;simp_all[aGk,if_neg]
theorem bDs(d:List Nat)(n:Nat):(d.take n).isPrefixOf d=true:=List.isPrefixOf_iff_prefix.2 (List.take_prefix n d)
def Wd(S:List Nat)(l:TLn)(w:List Nat):Prop:=∃k,l.2.1.toNat+k+w.length≤S.length∧w=(S.drop (l.2.1.toNat+k)).take w.length
theorem Wd.t8{S:List Nat}{l:TLn}{w:List Nat}(g:T8 S)(h:Wd S l w):T8 w:=by
 obtain⟨k,q,f⟩:=h;rw[f];exact(g.drop _).take _
theorem Wd.len{S:List Nat}{l:TLn}{w:List Nat}(h:Wd S l w):w.length≤S.length:=by
 obtain⟨k,g,f⟩:=h;omega
variable {n:Int} {S:List Nat} {l:TLn}
theorem aL9(I:S.length≤90)(h:LN n S l):Tot (dP none l) (fun r=>r.2=l∧Wd S l r.1):=by
 obtain⟨J,z,f,g⟩:=h;unfold dP;rw[z];have T:=aYi (S.drop l.2.1.toNat);refine .ck ⟨f,g⟩ (.ck T.wP ?_);obtain⟨k,q,hv⟩:=T.get ([]:List Nat);rw[hv];rw[List.length_drop] at q;refine .ck ⟨by grind,by decide⟩ (.ret ⟨rfl,?_⟩);grind[List.drop_drop,Wd,wS]
theorem bIA(b:Bool)(h:LN n S l):Tot (cG none b l) (fun q=>match q with| .inl f=>b=true∧f=l| .inr p=>SP n p):=by
 unfold cG iI;refine .ite (fun _=>.ret ⟨h.1,by simp_all,by simp_all⟩) fun hb=>.ret ⟨Classical.not_not.1 hb,rfl⟩
theorem aKf{β:Type}{b:Bool}(h:LN n S l){f:TLn⊕TSp→Option β}{P:β→Prop}(z:b=true→Tot (f (.inl l)) P)(g:∀p,SP n p→Tot (f (.inr p)) P):Tot ((cG none b l).bind f) P :=
 (bIA b h).bind fun q hq=>by
  grind
theorem bB9(N:S.length≤90)(h:LN n S l):Tot (cK none l) (PO n S (fun w=>(∃J,Wd S J w)∧0<w.length)):=by
 unfold cK;refine(aL9 N h).bind fun r I=>?_;obtain⟨w,l2⟩:=r;obtain⟨e,g⟩:=I;have e:l2=l:=e;subst e;have g:Wd S l2 w:=g;refine aKf h (fun hb=>?_) fun p hp=>.ret hp;have hb:(!decide (w=aQ ⟨#[]⟩))=true:=hb;obtain⟨Y,U,z,O⟩:=h;have L:w≠ []:=fun e=>by
  rw[e] at hb;exact absurd hb xAa
 have f:1≤w.length:=by
  grind
 obtain⟨k,Z,k2⟩:=id g;obtain⟨i,i1,i2⟩:=bEV (w:=w) (d:=S.drop l2.2.1.toNat) (k:=k) (by grind) (by grind[List.drop_drop,bDs]);have q:aHO (S.drop l2.2.1.toNat) w=(i:Int):=by grind[aHO]
 show Tot (ck _ _) _;simp only[U];rw[q];refine .ck ⟨z,O⟩ (.ck ⟨by grind,f⟩ (.ck (by omega) (.ck (by omega) (.ret ⟨⟨⟨l2,g⟩,f⟩,Y,rfl,?_,?_⟩))))
 all_goals grind
theorem aNv{β:Type}(z:S.length≤90)(O:T8 S)(h:LN n S l){f:(List Nat×TLn)⊕TSp→Option β}{P:β→Prop}(N:∀w g,T8 w→w.length≤90→LN n S g→Tot (f (.inl (w,g))) P)(L:∀p,SP n p→Tot (f (.inr p)) P):Tot ((cK none l).bind f) P :=
 (bB9 z h).bind fun q hq=>by
  cases q with
  | inl x =>
   obtain⟨⟨⟨g,I⟩,_⟩,J⟩:=hq;exact N x.1 x.2 (I.t8 O) (Nat.le_trans I.len z) J
  | inr p=>exact L p hq
theorem aGF(q:S.length≤90)(g:T8 S)(h:LN n S l)(w:List Nat):Tot (dJ none w l) (PU n S):=by
 unfold dJ;exact aNv q g h (fun v z _ _ f=>aKf f (fun _=>.ret f) fun p hp=>.ret hp) fun p hp=>.ret hp
theorem aAN(g:S.length≤90)(h:LN n S l):Tot (cO none l) (PU n S):=by
 unfold cO;refine(aL9 g h).bind fun r f=>?_;obtain⟨w,l2⟩:=r;obtain⟨e,q⟩:=f;have e:l2=l:=e;subst e;exact aKf h (fun _=>.ret h) fun p hp=>.ret hp
theorem aHm(g:S.length≤90)(q:T8 S)(h:LN n S l):Tot (eF none l) (PO n S T8):=by
 unfold eF;refine aNv g q h (fun v I hv z f=>?_) fun p hp=>.ret hp;have F:Tot (rC none v) (fun _=>True):=.of (aQf v (by omega)) trivial;exact .ck F.wP (aKf f (fun _=>.ret ⟨hv,f⟩) fun p hp=>.ret hp)
theorem aIG(g:S.length≤90)(q:T8 S)(h:LN n S l):Tot (eZ none l) (PO n S T8):=by
 unfold eZ;refine aNv g q h (fun v I hv z f=>?_) fun p hp=>.ret hp;exact .ck (aQj v hv).wP (aKf f (fun _=>.ret ⟨hv,f⟩) fun p hp=>.ret hp)
end Nu
end Go.Proofs
namespace Go.Proofs
open Go.Vc
set_option maxRecDepth 20000
namespace Nu
theorem bMo(cs:List Nat)(h:∀c∈cs,c<128)(I:cs.length≤1000):Tot (cT none cs) (fun r=>r.2.1=true∧ ∀c,r.1.getD c false=true→c∈cs):=by
 unfold cT;refine Tot.bind (P:=fun e=>match e with| .inl A=>∀c,A.getD c false=true→c∈cs| .inr r=>False) (Tot.idx cs.length (fun A _=>∀c,A.getD c false=true→c∈cs) (by omega) (fun i A i0 hi g q=>?_) (fun A q=>?_) ?_) fun e z=>?_
 ·show Tot (eJ none cs i A) _;unfold eJ;refine .ite (fun _=>.ck ⟨i0,hi⟩ ?_) fun f=>absurd hi f;have hm:cs.getD i.toNat 0∈cs:=qT 0 (by omega);have hc:=h _ hm;refine .ite (fun f=>by omega) fun _=>.ck (by omega) (.ck g (.ret ⟨rfl,fun c hc=>?_⟩));grind
 ·show Tot (eJ none cs _ A) _;unfold eJ;exact .ite (fun f=>absurd f (Int.lt_irrefl _)) fun _=>.ret q
 ·grind
 ·cases e with
  | inl A=>exact .ret ⟨rfl,z⟩
  | inr r=>simp_all
theorem bMp(s:List Nat)(A:List Bool)(hs:T8 s):Tot (cS none s A) (fun v=>T8 v∧ ∀c∈s,c∈v∨A.getD c false=true):=by
 unfold cS;refine Tot.bind (Tot.loop (fun d=>T8 d∧ ∀c∈s,c∈d∨A.getD c false=true) (fun d=>d.length) ?_ ⟨hs,fun c hc=>.inl hc⟩) fun e z=>.ret z;rintro d ⟨hd,f⟩;show Tot (cF none A d) _;unfold cF;have L:=hd.1;refine .ite (fun h=>.ck (by omega) (.ck (by omega) ?_)) fun _=>.ret ⟨hd,f⟩;have hb:=hd.2 _ (qT 0 (l:=d) (k:=((d.length:Int)-1).toNat) (by omega));refine Tot.bind (P:=fun v=>v=A.getD (d.getD ((d.length:Int)-1).toNat 0) false) (.ck (by omega) (.ret rfl)) fun v hv=>.ite (fun _=>.ret ⟨hd,f⟩) fun J=>.ck (by omega) (.ck (by omega) (.ret ⟨⟨hd.take _,fun c hc=>?_⟩,?_⟩))
 ·rcases f c hc with g|g
  ·have q:d.length-1<d.length:=(by omega);have e:d=d.take (d.length-1)++ [d.getD (d.length-1) 0]:=by
    rw[← take_succ q,show d.length-1+1=d.length from by omega,List.take_length]
   rw[e] at g;have I:((d.length:Int)-1).toNat=d.length-1:=(by omega);rcases List.mem_append.1 g with g|g
   all_goals grind
  simp_all
 ·show (List.take _ d).length<d.length;rw[List.length_take];omega
theorem bMq(s:List Nat)(A:List Bool)(hs:T8 s):Tot (cV none s A) (fun v=>∀c∈s,c∈v∨A.getD c false=true):=by
 unfold cV;refine Tot.bind (Tot.loop (fun d=>T8 d∧ ∀c∈s,c∈d∨A.getD c false=true) (fun d=>d.length) ?_ ⟨hs,fun c hc=>.inl hc⟩) fun e q=>.ret q;rintro d ⟨hd,f⟩;show Tot (cJ none A d) _;unfold cJ;refine .ite (fun h=>.ck h ?_) fun _=>.ret f;have hb:=hd.2 _ (qT 0 (l:=d) (k:=0) (by omega));refine Tot.bind (P:=fun v=>v=A.getD (d.getD 0 0) false) (.ck (by omega) (.ret rfl)) fun v hv=>.ite (fun _=>.ret f) fun z=>.ck (by omega) (.ret ⟨⟨hd.drop _,fun c hc=>?_⟩,?_⟩)
 ·rcases f c hc with g|g
  ·cases d with
   | nil=>cases g
   | cons a t =>
    grind
  simp_all
 grind
theorem bKT(s cs:List Nat)(hs:T8 s)(h:∀c∈cs,c<128)(z:2≤cs.length)(f:cs.length≤1000):Tot (gN none s cs) (fun v=>v= []→ ∀c∈s,c∈cs):=by
 unfold gN;refine .ite (fun I=>.ret fun e c hc=>by simp_all) fun _=>.ck (fun h=>by omega) (.ite (fun h=>absurd h.1 (by omega)) fun _=>(bMo cs h f).bind fun v hv=>.ite (fun _=>(bMp s _ hs).bind fun a q=>(bMq a _ q.1).bind fun b hb=>.ret fun e c hc=>?_) fun g=>absurd hv.1 g);grind
variable {n:Int} {S:List Nat} {l:TLn}
theorem aOt(O:S.length≤90)(Y:T8 S)(h:LN n S l):Tot (fF none l) (PO n S (fun _=>True)):=by
 unfold fF;refine(bB9 O h).bind fun q hq=>?_;cases q with
 | inr p=>exact .ret hq
 | inl x =>
  obtain⟨w,J⟩:=x;obtain⟨⟨⟨Z,L⟩,g⟩,f⟩:=hq;have I:T8 w:=L.t8 Y;have U:=L.len;refine .ite (fun h4=>?_) fun _=>aKf f (fun hb=>by cases hb) fun p hp=>.ret hp;have N:=bKT w (aQ ⟨#[48,49,50,51,52,53,54,55,56,57]⟩) I xAa xAa xAa;refine .ck N.wP (aKf f (fun hb=>?_) fun p hp=>.ret hp);rw[Bool.and_eq_true] at hb;have hd:=N.get ([]:List Nat) (of_decide_eq_true hb.2);have z:∀c∈w,oB c=true:=fun c hc=>by
   have:=hd c hc;have hx:∀c∈aQ ⟨#[48,49,50,51,52,53,54,55,56,57]⟩,oB c=true:=(by decide);simp_all
  show Tot (fL none (w,J) J) _;unfold fL;have A:Tot (lT none w) (fun _=>True):=.of (aT4 w z g (by grind)) trivial;exact .ck A.wP (.ret ⟨trivial,f⟩)
theorem aWo(w:List Nat)(f:w.length≤1000):Tot (iV none w) (fun _=>True):=by
 unfold iV mW iP fM;refine Tot.bind (P:=fun v=>v.length≤1000) ?_ fun v hv=>(Tot.of (P:=fun _=>True) (aQf v (by omega)) trivial).bind fun _ _=>.ret trivial;refine Tot.bind (P:=fun v=>v.length≤1000) ?_ fun v hv=>.ret hv;refine Tot.bind (P:=fun b=>b=true→(aQ ⟨#[45]⟩).length≤w.length) (.ck (fun h=>⟨by omega,h⟩) (.ret fun h=>?_)) fun b hb=>.ite (fun h=>.ck ?_ (.ret ?_)) fun _=>.ret f
 all_goals grind
theorem bCa(g:S.length≤90)(I:T8 S)(h:LN n S l):Tot (fA none l) (PO n S (fun r=>T8 r.1∧T8 r.2.1)):=by
 unfold fA;refine aNv g I h (fun v N hv O f=>.ck (aWo v (by omega)).wP (aKf f (fun _=>?_) fun p hp=>.ret hp)) fun p hp=>.ret hp;refine(aL9 g f).bind fun r L=>?_;obtain⟨w,l2⟩:=r;obtain⟨e,z⟩:=L;have e:l2=N:=e;subst e;have z:Wd S l2 w:=z;refine .ck (aWo w (by have:=z.len; omega)).wP (.ite (fun _=>?_) fun _=>.ret ⟨⟨hv,T8.nil⟩,f⟩);exact aNv g I f (fun u U J _ q=>.ret ⟨⟨hv,J⟩,q⟩) fun p hp=>.ret hp
end Nu
end Go.Proofs
namespace Go.Proofs
open Go.Vc
set_option maxRecDepth 20000
namespace Nu
theorem bMr(s:List Nat)(c:Nat):Tot (fJ none s c) (fun v=>v=s.dropWhile (· == c)):=by
 unfold fJ;refine Tot.bind (Tot.loop (fun d=>d.dropWhile (· == c)=s.dropWhile (· == c)) (fun d=>d.length) ?_ rfl) fun e f=>.ret f;intro d hd;show Tot (gG none c d) _;unfold gG;cases d with
 | nil=>exact .ck (fun h=>h) (.ite (fun h=>absurd h.1 xAa) fun _=>.ret hd)
 | cons a t =>
  refine .ck (fun h=>h) (.ite (fun h=>.ck (by omega) (.ret ⟨?_,by simp⟩)) fun h=>.ret ?_)
  all_goals simp_all
theorem bMs(s:List Nat)(c:Nat)(hs:s= []∨s.getLast? ≠ some c)(q:s.length≤9223372036854775807):Tot (eY none s c) (fun v=>v=s):=by
 unfold eY;refine Tot.bind (P:=fun v=>v=s) (Tot.loop (fun d=>d=s) (fun d=>d.length) ?_ rfl) fun e f=>.ret f;rintro d rfl;show Tot (fS none c d) _;unfold fS;refine .ck (fun h=>by omega) (.ck (fun h=>by omega) (.ite (fun h=>?_) fun h=>.ret rfl));exfalso;obtain⟨g,z⟩:=h;rcases hs with rfl|hs
 ·simp_all
 ·apply hs;rw[List.getLast?_eq_getElem?];have e:((d.length:Int)-1).toNat=d.length-1:=by omega
  grind
theorem aWp(s:List Nat):Tot (cD none s (aQ ⟨#[32]⟩)) (fun v=>v=s.dropWhile (· == 32)):=by
 unfold cD;refine .ite (fun h=>.ret ?_) fun _=>.ck (fun _=>by decide) (.ite (fun h=>.ck xAa ((bMr s _).bind fun v hv=>.ret hv)) fun h=>absurd ⟨by decide,by decide⟩ h);rcases h with h|h
 ·rw[h]; rfl
 ·exact absurd h xAa
theorem bCb(s:List Nat)(hs:s= []∨s.getLast? ≠ some 32)(f:s.length≤9223372036854775807):Tot (gD none s (aQ ⟨#[32]⟩)) (fun v=>v=s):=by
 unfold gD;exact .ite (fun h=>.ret rfl) fun _=>.ck (fun _=>by decide) (.ite (fun h=>.ck xAa ((bMs s _ hs f).bind fun v hv=>.ret hv)) fun h=>absurd ⟨by decide,by decide⟩ h)
theorem bIB(c:Nat):∀w:List Nat,(∀b∈w,b≠c)→aGk [c] w=none
 | [],_=>rfl
 | b::l,h=>by
  have hb:([c]:List Nat).isPrefixOf (b::l)=false:=by
   grind
  rw[aGk,hb,bIB c l fun x f=>h x (.tail _ f)];rfl
theorem bIC(c:Nat)(r:List Nat):∀w:List Nat,(∀b∈w,b≠c)→aGk [c] (w++c::r)=some w.length
 | [],_=>by simp[aGk,List.isPrefixOf]
 | b::l,h=>by
  have hb:([c]:List Nat).isPrefixOf (b::(l++c::r))=false:=by
   grind
  rw[List.cons_append,aGk,hb,bIC c r l fun x f=>h x (.tail _ f)];rfl
theorem bCc{c:Nat}{w:List Nat}(h:∀b∈w,b≠c):wS w [c]=(w,[],false,()):=by
 grind[wS,bIB]
theorem bID{c:Nat}{w r:List Nat}(h:∀b∈w,b≠c):wS (w++c::r) [c]=(w,r,true,()):=by
 simp_all[wS,bIC]
def okW(w:List Nat):Prop:=w≠ []∧ ∀c∈w,c≠32
def tl(ws:List qc):List Nat:=ws.flatMap (32:: ·)
theorem zG(w:List Nat)(ws:List qc):tl (w::ws)=32::(w++tl ws):=by simp[tl]
def Lft(R:List Nat)(ws:List qc):Prop:=R=tl ws∨32::R=tl ws
theorem Lft.nil{R:List Nat}(h:Lft R []):R= []:=by
 rcases h with h|h
 ·exact h
 ·cases h
theorem Lft.cons{R w:List Nat}{ws:List qc}(h:Lft R (w::ws)):R=32::(w++tl ws)∨R=w++tl ws:=by
 unfold Lft at h;grind[Go.Proofs.Nu.zG,List.cons.inj]
theorem bKU(ws:List qc):tl ws= []∨ ∃r,tl ws=32::r:=by
 cases ws with
 | nil=>exact .inl rfl
 | cons w ws=>grind[zG]
theorem bKV{w t:List Nat}(h:w≠ [])(f:w.head? ≠ some 32):(w++t).dropWhile (· == 32)=w++t:=by
 cases w with
 | nil=>simp_all
 | cons a r =>
  simp_all
theorem Lft.trim{R w:List Nat}{ws:List qc}(h:Lft R (w::ws))(g:w≠ [])(f:w.head? ≠ some 32):R.dropWhile (· == 32)=w++tl ws:=by
 rcases h.cons with rfl|rfl
 all_goals simp_all[List.dropWhile_cons,if_pos,Go.Proofs.Nu.bKV]
theorem okW.head{w:List Nat}(h:okW w):w.head? ≠ some 32:=by
 intro e;cases w with
 | nil=>cases e
 | cons a r =>
  simp at e;exact h.2 a (.head _) e
theorem bMt{w:List Nat}(h:okW w)(ws:List qc):(wS (w++tl ws) [32]).1=w:=by
 rcases bKU ws with e|⟨r,e⟩
 ·rw[e,List.append_nil,bCc h.2]
 ·rw[e,bID h.2]
theorem bCd(w t:List Nat)(h:w≠ []):aGk w (w++t)=some 0:=by
 cases w with
 | nil=>simp_all
 | cons a r =>
  rw[List.cons_append,aGk,if_pos];simp_all
def At(n:Int)(S:List Nat)(ws:List qc)(l:TLn):Prop:=l.1=n∧l.2.2.1=S∧0≤l.2.1∧l.2.1≤S.length∧Lft (S.drop l.2.1.toNat) ws
variable {n:Int} {S:List Nat} {l:TLn} {w:List Nat} {ws:List qc}
theorem aJJ(J:S.length≤4000000000)(h:At n S (w::ws) l)(f:okW w):Tot (dP none l) (fun r=>r=(w,l)):=by
 obtain⟨L,I,q,z,g⟩:=h;unfold dP;rw[I];have T:=(aWp (S.drop l.2.1.toNat)).eq;rw[g.trim f.1 f.head] at T;refine .ck ⟨q,z⟩ (.ck (by grind) ?_);rw[T];refine .ck ⟨?_,by decide⟩ (.ret ?_)
 ·show (w++tl ws).length<_;have:(w++tl ws).length≤(S.drop l.2.1.toNat).length:=by
   rcases g.cons with e|e<;>rw[e]<;>simp
  grind
 ·show ((wS (w++tl ws) [32]).1,l)=(w,l);rw[bMt f]
theorem aZZ(h:At n S [] l):Tot (dP none l) (fun r=>r=([],l)):=by
 obtain⟨I,z,g,q,f⟩:=h;unfold dP;rw[z];have T:=(aWp (S.drop l.2.1.toNat)).eq;rw[f.nil] at T;rw[f.nil,T];exact .ck ⟨g,q⟩ (.ck rfl (.ck ⟨by decide,by decide⟩ (.ret rfl)))
theorem bEW{b:Bool}(hb:b=true):cG none b l=some (.inl l):=by
 subst hb;rfl
theorem bKW(Z:S.length≤4000000000)(h:At n S (w::ws) l)(f:okW w):Tot (cK none l) (fun q=>∃J,q= .inl (w,J)∧At n S ws J):=by
 unfold cK;refine(aJJ Z h f).bind fun r U=>?_;subst U;show Tot (Option.bind (cG none (!decide (w=aQ ⟨#[]⟩)) l) _) _;rw[bEW (by rw[Bool.not_eq_true',decide_eq_false_iff_not]; exact f.1)];obtain⟨h1,h2,N,h4,Y⟩:=h;show Tot (ck _ _) _;simp only[h2];have L:(S.drop l.2.1.toNat).length=S.length-l.2.1.toNat:=List.length_drop;have I:∃k:Nat,aGk w (S.drop l.2.1.toNat)=some k∧(S.drop l.2.1.toNat).length=k+w.length+(tl ws).length∧(S.drop l.2.1.toNat).drop (k+w.length)=tl ws:=by
  rcases Y.cons with e|e
  ·refine⟨1,?_,by grind,by grind⟩;rw[e,aGk,if_neg,bCd _ _ f.1];intro hp;obtain⟨t,ht⟩:=List.isPrefixOf_iff_prefix.1 hp;cases w with
   | nil=>exact f.1 rfl
   | cons a r =>
    rw[List.cons_append] at ht;exact f.2 a (.head _) (List.cons.inj ht).1
  ·exact⟨0,by rw[e]; exact bCd _ _ f.1,by grind,by grind⟩
 obtain⟨k,O,k2,k3⟩:=I;have z:aHO (S.drop l.2.1.toNat) w=(k:Int):=by rw[aHO,O]
 rw[z];have g:1≤w.length:=List.length_pos_iff.2 f.1;refine .ck ⟨N,h4⟩ (.ck ⟨by omega,g⟩ (.ck (by omega) (.ck (by omega) (.ret ⟨_,rfl,h1,rfl,by grind,by grind,.inl ?_⟩))));grind[List.drop_drop]
theorem wE{β:Type}{f:(List Nat×TLn)⊕TSp→Option β}{P:β→Prop}(z:S.length≤4000000000)(h:At n S (w::ws) l)(I:okW w)(L:∀g,At n S ws g→Tot (f (.inl (w,g))) P):Tot ((cK none l).bind f) P :=
 (bKW z h I).bind fun q ⟨g,e,J⟩=>by
  simp_all
theorem mE{β:Type}{b:Bool}{f:TLn⊕TSp→Option β}{P:β→Prop}(hb:b=true)(g:Tot (f (.inl l)) P):Tot ((cG none b l).bind f) P:=by
 grind[bEW]
theorem isE{β:Type}{f:TLn⊕TSp→Option β}{P:β→Prop}(I:S.length≤4000000000)(h:At n S (w::ws) l)(J:okW w)(L:∀g,At n S ws g→Tot (f (.inl g)) P):Tot ((dJ none w l).bind f) P:=by
 refine Tot.bind (P:=fun q=>∃g,q= .inl g∧At n S ws g) ?_ fun q ⟨g,e,z⟩=>by
  simp_all
 unfold dJ;exact wE I h J fun g z=>mE (decide_eq_true rfl) (.ret ⟨g,rfl,z⟩)
theorem aQk{β:Type}{f:TLn⊕TSp→Option β}{P:β→Prop}(h:At n S [] l)(z:Tot (f (.inl l)) P):Tot ((cO none l).bind f) P:=by
 refine Tot.bind (P:=fun q=>q= .inl l) ?_ fun q e=>by
  simp_all
 unfold cO;exact(aZZ h).bind fun r g=>by
  subst g;exact mE rfl (.ret rfl)
theorem bEX{β:Type}{f:(List Nat×TLn)⊕TSp→Option β}{P:β→Prop}(I:S.length≤4000000000)(h:At n S (w::ws) l)(J:okW w)(hF:rC none w=some true)(L:∀g,At n S ws g→Tot (f (.inl (w,g))) P):Tot ((eF none l).bind f) P:=by
 refine Tot.bind (P:=fun q=>∃g,q= .inl (w,g)∧At n S ws g) ?_ fun q ⟨g,e,z⟩=>by
  simp_all
 unfold eF;refine wE I h J fun g z=>?_;show Tot (ck _ _) _;rw[show (w,g).1=w from rfl,hF];exact .ck rfl (mE rfl (.ret ⟨g,rfl,z⟩))
theorem nmE{β:Type}{f:(List Nat×TLn)⊕TSp→Option β}{P:β→Prop}(I:S.length≤4000000000)(h:At n S (w::ws) l)(J:okW w)(hF:cW none w=some true)(L:∀g,At n S ws g→Tot (f (.inl (w,g))) P):Tot ((eZ none l).bind f) P:=by
 refine Tot.bind (P:=fun q=>∃g,q= .inl (w,g)∧At n S ws g) ?_ fun q ⟨g,e,z⟩=>by
  simp_all
 unfold eZ;refine wE I h J fun g z=>?_;show Tot (ck _ _) _;rw[show (w,g).1=w from rfl,hF];exact .ck rfl (mE rfl (.ret ⟨g,rfl,z⟩))
end Nu
end Go.Proofs
namespace Go.Proofs
open Go.Vc
set_option maxRecDepth 20000
namespace Nu
theorem bKX:∃A:List Bool,cT none (aQ ⟨#[48,49,50,51,52,53,54,55,56,57]⟩)=some (A,true,())∧ ∀c,oB c=true→A.getD c false=true:=by
 refine⟨(List.range 256).map oB,?_,fun c hc=>?_⟩
 ·unfold cT;exact aZ (a:=.inl ((List.range 256).map oB)) (aDx (n:=100) (by rfl)) rfl
 ·have h:c<256:=by
   have:=of_decide_eq_true hc;omega
  simp_all
theorem bKY(s:List Nat)(A:List Bool)(g:s.length≤100)(hs:∀c∈s,c<256∧A.getD c false=true):Tot (cS none s A) (fun v=>v= []):=by
 unfold cS;refine Tot.bind (P:=fun v=>v= []) (Tot.loop (fun d=>d.length≤100∧ ∀c∈d,c<256∧A.getD c false=true) (fun d=>d.length) ?_ ⟨g,hs⟩) fun e q=>.ret q;rintro d ⟨hd,f⟩;show Tot (cF none A d) _;unfold cF;refine .ite (fun h=>.ck (by omega) (.ck (by omega) ?_)) fun h=>.ret (List.eq_nil_of_length_eq_zero (by omega));have hb:=f _ (qT 0 (l:=d) (k:=((d.length:Int)-1).toNat) (by omega));refine Tot.bind (P:=fun v=>v=true) ?_ fun v hv=>.ite (fun z=>absurd hv z) fun _=>.ck (by omega) (.ck (by omega) (.ret ⟨⟨?_,fun c hc=>f c (List.mem_of_mem_take hc)⟩,?_⟩))
 ·unfold dH;exact .ck (by omega) (.ret hb.2)
 ·rw[List.length_take];omega
 ·show (List.take _ d).length<d.length;rw[List.length_take];omega
theorem bIE{w:List Nat}(f:∀c∈w,oB c=true)(g:w.length≤100):Tot (gN none w (aQ ⟨#[48,49,50,51,52,53,54,55,56,57]⟩)) (fun v=>v= []):=by
 obtain⟨A,J,hc⟩:=bKX;unfold gN;refine .ite (fun h=>.ret ?_) fun _=>.ck (fun h=>by cases h) (.ite (fun h=>absurd h.1 xAa) fun _=>?_)
 ·rcases h with h|h
  ·exact h
  ·exact absurd h xAa
 ·rw[J,Option.bind_some];refine .ite (fun _=>(bKY w A g fun c h=>⟨?_,hc c (f c h)⟩).bind fun a I=>?_) fun q=>absurd rfl q
  ·have:=of_decide_eq_true (f c h);omega
  ·subst I;have:Tot (cV none [] A) (fun v=>v= []):=by
    unfold cV;refine Tot.bind (P:=fun v=>v= []) (Tot.loop (fun d=>d= []) (fun d=>d.length) ?_ rfl) fun e z=>.ret z;rintro d rfl;show Tot (cJ none A []) _;unfold cJ;exact .ite (fun h=>absurd h xAa) fun _=>.ret rfl
   simp_all
variable {n:Int} {S:List Nat} {l:TLn} {w:List Nat} {ws:List qc}
theorem bMu{β:Type}{f:(Int×TLn)⊕TSp→Option β}{P:β→Prop}(J:S.length≤4000000000)(h:At n S (w::ws) l)(hd:∀c∈w,oB c=true)(I:0<w.length)(O:w.length≤4)(U:∀g,At n S ws g→Tot (f (.inl ((uF w:Int),g))) P):Tot ((fF none l).bind f) P:=by
 refine Tot.bind (P:=fun q=>∃g,q= .inl ((uF w:Int),g)∧At n S ws g) ?_ fun q ⟨g,e,z⟩=>by
  simp_all
 have N:okW w:=⟨List.length_pos_iff.1 I,fun c hc e=>by subst e; exact absurd (hd _ hc) xAa⟩;unfold fF;refine wE J h N fun g z=>?_;have T:=(bIE hd (by omega)).eq;refine .ite (fun _=>?_) fun L=>absurd (show (w.length:Int)≤4 by omega) L;show Tot (ck _ _) _;rw[show (w,g).1=w from rfl,T];refine .ck rfl (mE ?_ ?_)
 ·rw[Bool.and_eq_true];exact⟨decide_eq_true (by omega),rfl⟩
 ·show Tot (fL none (w,g) g) _;unfold fL;rw[show (w,g).1=w from rfl,aT4 w hd I (by omega)];exact .ck rfl (.ret ⟨g,rfl,z⟩)
theorem aZ0{s:List Nat}(h:fm s=true):s.length≤60:=by
 unfold fm rG at h;split at h
 ·cases h
 omega
theorem aIH(w:List Nat)(f:w.length≤1000):iV none w=some (fm (sg w)):=by
 refine Tot.eq ?_;have hs:=bIu w;unfold iV mW iP;refine Tot.bind (P:=fun v=>v=sg w) ?_ fun v hv=>(Tot.of (P:=fun x=>x=fm (sg w)) (by grind[aQf,sg]) rfl).bind fun _ h=>.ret h;refine Tot.bind (P:=fun v=>v=sg w) ((bLq w (by omega)).bind fun b hb=>?_) fun v hv=>.ret hv;subst hb;refine .ite (fun h=>.ck ?_ (.ret ?_)) fun h=>.ret ?_
 ·have:=(List.isPrefixOf_iff_prefix.1 h).length_le;simp at this;exact⟨by decide,by show (1:Int)≤_; omega⟩
 ·unfold sg;rw[if_pos h];rfl
 simp_all[sg,if_neg]
theorem bMv{β:Type}{a b:List Nat}{f:((List Nat×List Nat×Unit)×TLn)⊕TSp→Option β}{P:β→Prop}(z:S.length≤4000000000)(h:At n S (a::b::ws) l)(ha:okW a)(hb:okW b)(Z:fm (sg a)=true)(fb:fm (sg b)=true)(la:a.length≤100)(O:b.length≤100)(hf:∀g,At n S ws g→Tot (f (.inl ((a,b,()),g))) P):Tot ((fA none l).bind f) P:=by
 refine Tot.bind (P:=fun q=>∃g,q= .inl ((a,b,()),g)∧At n S ws g) ?_ fun q ⟨g,e,hl⟩=>by
  simp_all
 unfold fA;refine wE z h ha fun I J=>?_;have L:=aIH a (by omega);rw[Z] at L;have sb:=aIH b (by omega);rw[fb] at sb;show Tot (ck _ _) _;rw[show (a,I).1=a from rfl,L];refine .ck rfl (mE rfl ((aJJ z J hb).bind fun r N=>?_));subst N;show Tot (ck _ _) _;rw[show (b,I).1=b from rfl,sb];exact .ck rfl (.ite (fun _=>wE z J hb fun l2 Y=>.ret ⟨l2,rfl,Y⟩) fun U=>absurd rfl U)
theorem bMw{β:Type}{a:List Nat}{f:((List Nat×List Nat×Unit)×TLn)⊕TSp→Option β}{P:β→Prop}(L:S.length≤4000000000)(h:At n S (a::ws) l)(Z:okW a)(Y:fm (sg a)=true)(la:a.length≤100)(U:ws= []∨ ∃u,ws= [100,101,114]::u)(hf:∀g,At n S ws g→Tot (f (.inl ((a,[],()),g))) P):Tot ((fA none l).bind f) P:=by
 refine Tot.bind (P:=fun q=>∃g,q= .inl ((a,[],()),g)∧At n S ws g) ?_ fun q ⟨g,e,hl⟩=>by
  simp_all
 unfold fA;refine wE L h Z fun z J=>?_;have N:=aIH a (by omega);rw[Y] at N;show Tot (ck _ _) _;rw[show (a,z).1=a from rfl,N];refine .ck rfl (mE rfl ?_);have I:∃b:List Nat,Tot (dP none z) (fun r=>r=(b,z))∧iV none b=some false:=by
  rcases U with rfl|⟨u,rfl⟩
  ·exact⟨[],aZZ J,aIH [] xAa⟩
  ·exact⟨[100,101,114],aJJ L J (by grind[okW]),aIH _ xAa⟩
 obtain⟨b,hp,sb⟩:=I;refine hp.bind fun r O=>?_;subst O;show Tot (ck _ _) _;rw[show (b,z).1=b from rfl,sb];exact .ck rfl (.ite (fun hh=>absurd hh xAa) fun _=>.ret ⟨z,rfl,J⟩)
theorem bLr{β:Type}{t:List Nat}{e:Ex}{f:(Ex×TLn)⊕TSp→Option β}{P:β→Prop}(hS:S.length≤4000000000)(h:At n S [t] l)(ht:t≠ [])(z:t.head? ≠ some 32)(U:iR none t=some (e,0,0,()))(hf:∀g,At n S [] g→Tot (f (.inl (e,g))) P):Tot ((iJ none l).bind f) P:=by
 refine Tot.bind (P:=fun q=>∃g,q= .inl (e,g)∧At n S [] g) ?_ fun q ⟨g,e,hl⟩=>by
  simp_all
 obtain⟨Y,Z,L,N,I⟩:=h;unfold iJ;rw[Z];have T:=(aWp (S.drop l.2.1.toNat)).eq;rw[I.trim ht z,show tl []= [] from rfl,List.append_nil] at T;rw[T];simp only[Option.getD_some,Option.isSome_some,U];have J:t.length≤S.length:=by
  rcases I.cons with q|q
  ·have:=congrArg List.length q;grind
  ·have:=congrArg List.length q;grind
 refine .ck ⟨L,N⟩ (.ck trivial (.ck (by omega) (.ck trivial (.ite (fun O=>absurd trivial O) fun _=>.ret ⟨_,rfl,Y,rfl,by simp_all,Int.le_refl _,.inl ?_⟩))));grind[tl,Int.toNat_natCast,List.drop_length]
theorem bLs{β:Type}{a b:List Nat}{f:((List Nat×List Nat×Unit)×TLn)⊕TSp→Option β}{P:β→Prop}(N:S.length≤4000000000)(h:At n S ((a++46::b)::ws) l)(U:okW (a++46::b))(Y:∀c∈a,c≠46)(Z:cW none a=some true)(J:cW none b=some true)(L:(a++46::b).length≤1000)(hf:∀g,At n S ws g→Tot (f (.inl ((a,b,()),g))) P):Tot ((iK none l).bind f) P:=by
 refine Tot.bind (P:=fun q=>∃g,q= .inl ((a,b,()),g)∧At n S ws g) ?_ fun q ⟨g,e,L⟩=>by
  simp_all
 unfold iK;refine wE N h U fun I O=>?_;show Tot (ck _ _) _;have hc:wS (a++46::b,I).1 (aQ ⟨#[46]⟩)=(a,b,true,()):=bID Y;simp only[hc,Z,J];exact .ck ⟨by omega,by decide⟩ (.ite (fun _=>.ck rfl (.ite (fun _=>.ck rfl (mE rfl (.ret ⟨I,rfl,O⟩))) fun z=>absurd ⟨trivial,rfl⟩ z)) fun z=>absurd trivial z)
end Nu
end Go.Proofs
namespace Go.Proofs
open Go.Vc
set_option maxRecDepth 20000
namespace Nu
abbrev TRg:Type:=List Nat×List Nat×Unit
abbrev TSt:Type:=List Nat×TRg×Ex×Unit
abbrev TPa:Type:=List Nat×TRg×Unit
abbrev TOu:Type:=List Nat×Ex×Unit
inductive PL
 | prec (n:Nat)|fin (t:List Nat)|step (a b:List Nat)|tol (t:List Nat)|tries (n:Nat)|order (n:Nat)|mode (m:Int)
 | sub (t:List Nat)|state (a:TSt)|par (a:TPa)|inn (t:List Nat)|out (a:TOu)|link (a:TLk)
def dg(n:Nat):List Nat:=if n<10 then [48+n] else if n<100 then [48+n/10,48+n%10] else [48+n/100,48+n/10%10,48+n%10]
theorem aRY:∀n,n<1000→(dg n).all oB=true∧0<(dg n).length∧(dg n).length≤4∧uF (dg n)=n:=by decide +kernel
def rgW(r:TRg):List qc:=if r.2.1= [] then [r.1] else [r.1,r.2.1]
def wds:PL→List qc
 | .prec n=>[[112,114,101,99],dg n]
 | .fin t=>[[101,110,100],t]
 | .step a b=>[[115,116,101,112],a,b]
 | .tol t=>[[116,111,108],t]
 | .tries n=>[[116,114,105,101,115],dg n]
 | .order n=>[[111,114,100,101,114],dg n]
 | .mode m=>[if m=2 then [115,101,105,100,101,108] else [106,97,99,111,98,105]]
 | .sub t=>[[115,117,98],t]
 | .state a=>[115,116,97,116,101]::a.1:: [61]::(rgW a.2.1++ [[100,101,114],tx 30 a.2.2.1])
 | .par a=>[112,97,114]::a.1:: [61]::rgW a.2.1
 | .inn t=>[[105,110],t]
 | .out a=>[[111,117,116],a.1,[61],tx 30 a.2.1]
 | .link a=>[[108,105,110,107],a.1++46::a.2.1,[61],a.2.2.1++46::a.2.2.2.1]
def zS:qI:=([],[],[],[],[],())
def last(x:List qI)(f:qI→qI):List qI:=x.set (x.length-1) (f (x.getD (x.length-1) zS))
def aTS:PL→qI→qI
 | .state a,s=>(s.1,s.2.1++ [a],s.2.2)
 | .par a,s=>(s.1,s.2.1,s.2.2.1++ [a],s.2.2.2)
 | .inn t,s=>(s.1,s.2.1,s.2.2.1,s.2.2.2.1++ [t],s.2.2.2.2)
 | .out a,s=>(s.1,s.2.1,s.2.2.1,s.2.2.2.1,s.2.2.2.2.1++ [a],())
 | _,s=>s
def add:PL→TSc→TSc
 | .prec n,s=>((n:Int),s.2)
 | .fin t,s=>(s.1,s.2.1,s.2.2.1,s.2.2.2.1,t,s.2.2.2.2.2)
 | .step a b,s=>(s.1,s.2.1,s.2.2.1,s.2.2.2.1,s.2.2.2.2.1,a,b,s.2.2.2.2.2.2.2)
 | .tol t,s=>(s.1,s.2.1,s.2.2.1,s.2.2.2.1,s.2.2.2.2.1,s.2.2.2.2.2.1,s.2.2.2.2.2.2.1,t,s.2.2.2.2.2.2.2.2)
 | .tries n,s=>(s.1,(n:Int),s.2.2)
 | .order n,s=>(s.1,s.2.1,(n:Int),s.2.2.2)
 | .mode m,s=>(s.1,s.2.1,s.2.2.1,m,s.2.2.2.2)
 | .sub t,s=>(s.1,s.2.1,s.2.2.1,s.2.2.2.1,s.2.2.2.2.1,s.2.2.2.2.2.1,s.2.2.2.2.2.2.1,s.2.2.2.2.2.2.2.1,s.2.2.2.2.2.2.2.2.1++ [(t,[],[],[],[],())],s.2.2.2.2.2.2.2.2.2)
 | .link a,s=>(s.1,s.2.1,s.2.2.1,s.2.2.2.1,s.2.2.2.2.1,s.2.2.2.2.2.1,s.2.2.2.2.2.2.1,s.2.2.2.2.2.2.2.1,s.2.2.2.2.2.2.2.2.1,s.2.2.2.2.2.2.2.2.2.1++ [a],())
 | p,s=>(s.1,s.2.1,s.2.2.1,s.2.2.2.1,s.2.2.2.2.1,s.2.2.2.2.2.1,s.2.2.2.2.2.2.1,s.2.2.2.2.2.2.2.1,last s.2.2.2.2.2.2.2.2.1 (aTS p),s.2.2.2.2.2.2.2.2.2)
def bIF:PL→Bool
 | .state _| .par _| .inn _| .out _=>true
 | _=>false
def NmK(t:List Nat):Prop:=cW none t=some true∧aWg t
def RgK(r:TRg):Prop:=okW r.1∧fm (sg r.1)=true∧r.1.length≤100∧(r.2.1= []∨okW r.2.1∧fm (sg r.2.1)=true∧r.2.1.length≤100)
def ExK(e:Ex):Prop:=W 30 e∧iR none (tx 30 e)=some (e,0,0,())∧fits 30 e
def LiK(t:List Nat):Prop:=okW t∧rC none t=some true∧(∀c∈t,c≠35∧c≠10)∧t.length≤100
def okP:PL→Int→TSc→Prop
 | .prec n,k,_=>k=0∧n<1000
 | .fin t,k,_=>k=1∧LiK t
 | .step a b,k,_=>k=2∧LiK a∧LiK b
 | .tol t,k,_=>k=3∧LiK t
 | .tries n,k,_=>k=4∧n<1000
 | .order n,k,_=>k=5∧n<1000
 | .mode m,k,_=>k=6∧(m=1∨m=2)
 | .sub t,k,s=>7≤k∧s.2.2.2.2.2.2.2.2.2.1= []∧s.2.2.2.2.2.2.2.2.1.length≤1000∧NmK t
 | .link a,k,s=>7≤k∧s.2.2.2.2.2.2.2.2.2.1.length≤1000∧NmK a.1∧NmK a.2.1∧NmK a.2.2.1∧NmK a.2.2.2.1
 | .state a,k,s=>7≤k∧s.2.2.2.2.2.2.2.2.2.1= []∧0<s.2.2.2.2.2.2.2.2.1.length∧s.2.2.2.2.2.2.2.2.1.length≤1000∧(s.2.2.2.2.2.2.2.2.1.getD (s.2.2.2.2.2.2.2.2.1.length-1) zS).2.1.length≤1000∧NmK a.1∧RgK a.2.1∧ExK a.2.2.1
 | .par a,k,s=>7≤k∧s.2.2.2.2.2.2.2.2.2.1= []∧0<s.2.2.2.2.2.2.2.2.1.length∧s.2.2.2.2.2.2.2.2.1.length≤1000∧(s.2.2.2.2.2.2.2.2.1.getD (s.2.2.2.2.2.2.2.2.1.length-1) zS).2.2.1.length≤1000∧NmK a.1∧RgK a.2.1
 | .inn a,k,s=>7≤k∧s.2.2.2.2.2.2.2.2.2.1= []∧0<s.2.2.2.2.2.2.2.2.1.length∧s.2.2.2.2.2.2.2.2.1.length≤1000∧(s.2.2.2.2.2.2.2.2.1.getD (s.2.2.2.2.2.2.2.2.1.length-1) zS).2.2.2.1.length≤1000∧NmK a
 | .out a,k,s=>7≤k∧s.2.2.2.2.2.2.2.2.2.1= []∧0<s.2.2.2.2.2.2.2.2.1.length∧s.2.2.2.2.2.2.2.2.1.length≤1000∧(s.2.2.2.2.2.2.2.2.1.getD (s.2.2.2.2.2.2.2.2.1.length-1) zS).2.2.2.2.1.length≤1000∧NmK a.1∧ExK a.2.1
theorem aQl{c:Nat}(h:gW c=true):c≠32∧c≠46∧c≠35∧c≠10:=by
 refine⟨?_,?_,?_,?_⟩<;>(rintro rfl; exact absurd h xAa)
theorem NmK.w{t:List Nat}(h:NmK t):okW t:=by
 obtain⟨⟨c,r,rfl,_⟩,f,_⟩:=h.2;exact⟨by simp,fun c hc=>(aQl (f c hc)).1⟩
theorem NmK.len{t:List Nat}(h:NmK t):t.length≤20:=by
 have:=h.1;grind[Go.Proofs.Nu.cW,bG]
theorem NmK.dot{t:List Nat}(h:NmK t):∀c∈t,c≠46:=fun c hc=>(aQl (h.2.2.1 c hc)).2.1
theorem bKZ{n:Nat}(h:n<1000):∀c∈dg n,oB c=true:=List.all_eq_true.1 (aRY n h).1
variable {n:Int} {S:List Nat} {l:TLn} {w:List Nat} {ws:List qc}
def Got(n:Int)(S:List Nat)(s:TSc)(q:(TSc×TLn)⊕TSp):Prop:=∃f,q= .inl (s,f)
theorem bK0(g:S.length≤4000000000){k:Int}{s:TSc}{p:PL}(U:k<7)(hp:okP p k s)(h:At n S (wds p) l):Tot (vC none k s l) (Got n S (add p s)):=by
 unfold vC;cases p with
 | prec m =>
  obtain⟨rfl,hm⟩:=hp;obtain⟨_,N,J,L⟩:=aRY m hm;refine .ite (fun _=>isE g h (by unfold okW; decide) fun I q=>bMu g q (bKZ hm) N J fun l2 z=>aQk z (.ret ⟨l2,by rw[L]; rfl⟩)) fun f=>absurd rfl f
 | fin t =>
  obtain⟨rfl,ht⟩:=hp;exact .ite (fun f=>absurd f xAa) fun _=>.ite (fun _=>isE g h (by unfold okW; decide) fun I q=>bEX g q ht.1 ht.2.1 fun l2 z=>aQk z (.ret ⟨_,rfl⟩)) fun f=>absurd rfl f
 | step a b =>
  obtain⟨rfl,O,hb⟩:=hp;exact .ite (fun f=>absurd f xAa) fun _=>.ite (fun f=>absurd f xAa) fun _=>.ite (fun _=>isE g h (by unfold okW; decide) fun I q=>bEX g q O.1 O.2.1 fun l2 z=>bEX g z hb.1 hb.2.1 fun l2 z=>aQk z (.ret ⟨_,rfl⟩)) fun f=>absurd rfl f
 | tol t =>
  obtain⟨rfl,ht⟩:=hp;exact .ite (fun f=>absurd f xAa) fun _=>.ite (fun f=>absurd f xAa) fun _=>.ite (fun f=>absurd f xAa) fun _=>.ite (fun _=>isE g h (by unfold okW; decide) fun I q=>bEX g q ht.1 ht.2.1 fun l2 z=>aQk z (.ret ⟨_,rfl⟩)) fun f=>absurd rfl f
 | tries m =>
  obtain⟨rfl,hm⟩:=hp;obtain⟨_,N,J,L⟩:=aRY m hm;refine .ite (fun f=>absurd f xAa) fun _=>.ite (fun f=>absurd f xAa) fun _=>.ite (fun f=>absurd f xAa) fun _=>.ite (fun f=>absurd f xAa) fun _=>.ite (fun _=>isE g h (by unfold okW; decide) fun I q=>bMu g q (bKZ hm) N J fun l2 z=>aQk z (.ret ⟨l2,by rw[L]; rfl⟩)) fun f=>absurd rfl f
 | order m =>
  obtain⟨rfl,hm⟩:=hp;obtain⟨_,N,J,L⟩:=aRY m hm;refine .ite (fun f=>absurd f xAa) fun _=>.ite (fun f=>absurd f xAa) fun _=>.ite (fun f=>absurd f xAa) fun _=>.ite (fun f=>absurd f xAa) fun _=>.ite (fun f=>absurd f xAa) fun _=>.ite (fun _=>isE g h (by unfold okW; decide) fun I q=>bMu g q (bKZ hm) N J fun l2 z=>aQk z (.ret ⟨l2,by rw[L]; rfl⟩)) fun f=>absurd rfl f
 | mode m =>
  obtain⟨rfl,hm⟩:=hp;refine .ite (fun f=>absurd f xAa) fun _=>.ite (fun f=>absurd f xAa) fun _=>.ite (fun f=>absurd f xAa) fun _=>.ite (fun f=>absurd f xAa) fun _=>.ite (fun f=>absurd f xAa) fun _=>.ite (fun f=>absurd f xAa) fun _=>?_;rcases hm with rfl|rfl
  ·exact wE g h (by grind[okW]) fun I q=>mE rfl (aQk q (.ret ⟨_,rfl⟩))
  ·exact wE g h (by grind[okW]) fun I q=>mE rfl (aQk q (.ret ⟨_,rfl⟩))
 | _=>exact absurd hp.1 (by omega)
theorem bLt{β:Type}{r:TRg}{f:(TRg×TLn)⊕TSp→Option β}{P:β→Prop}(I:S.length≤4000000000)(z:RgK r)(h:At n S (rgW r++ws) l)(L:ws= []∨ ∃u,ws= [100,101,114]::u)(U:∀g,At n S ws g→Tot (f (.inl (r,g))) P):Tot ((fA none l).bind f) P:=by
 obtain⟨lo,hi,u⟩:=r;obtain⟨r1,N,J,Y⟩:=z;unfold rgW at h;by_cases q:hi= []
 ·rw[if_pos q] at h;exact bMw I h r1 N J L fun g O=>by simp_all
 ·rw[if_neg q] at h;grind[bMv]
theorem ExK.e{e:Ex}(h:ExK e):tx 30 e≠ []∧(tx 30 e).head? ≠ some 32:=by
 obtain⟨c,r,e,hc⟩:=aMu h.1;simp_all
theorem Tot.no{β:Type}{a b:List Nat}{l:TLn}{x y:Option β}{P:β→Prop}(h:decide (a=b)=false)(f:Tot y P):Tot (if (a,l).1=b then x else y) P:=.ite (fun g=>absurd g (of_decide_eq_false h)) fun _=>f
theorem bK1(f:S.length≤4000000000){k:Int}{s:TSc}{p:PL}(hk:bIF p=true)(hp:okP p k s)(h:At n S (wds p) l)(x:List qI)(y:Nat):Tot (vD none x y (s.2.2.2.2.2.2.2.2.1.getD (s.2.2.2.2.2.2.2.2.1.length-1) zS) l) (fun q=>∃l',q= .inl (aTS p (s.2.2.2.2.2.2.2.2.1.getD (s.2.2.2.2.2.2.2.2.1.length-1) zS),l')):=by
 unfold vD;cases p with
 | state a =>
  obtain⟨_,_,_,_,hb,g,Y,I⟩:=hp;exact wE f h (by grind[okW]) fun Z J=>.ite (fun _=>nmE f J g.w g.1 fun l2 L=>isE f L (by unfold okW; decide) fun l3 N=>bLt f Y N (.inr ⟨_,rfl⟩) fun U O=>isE f O (by unfold okW; decide) fun l5 h5=>bLr f h5 I.e.1 I.e.2 I.2.1 fun l6 h6=>.ck (by omega) (aQk h6 (.ret ⟨l6,rfl⟩))) fun z=>absurd rfl z
 | par a =>
  obtain⟨_,_,_,_,hb,g,Y⟩:=hp;have h:At n S ([112,97,114]::a.1:: [61]::(rgW a.2.1++ [])) l:=by rw[List.append_nil]; exact h
  exact wE f h (by grind[okW]) fun Z J=>.no rfl <| .ite (fun _=>nmE f J g.w g.1 fun l2 L=>isE f L (by unfold okW; decide) fun l3 N=>bLt f Y N (.inl rfl) fun U O=>.ck (by omega) (aQk O (.ret ⟨U,rfl⟩))) fun z=>absurd rfl z
 | inn a =>
  obtain⟨_,_,_,_,hb,g⟩:=hp;exact wE f h (by grind[okW]) fun Z J=>.no rfl <| .no rfl <| .ite (fun _=>nmE f J g.w g.1 fun l2 L=>.ck (by omega) (aQk L (.ret ⟨l2,rfl⟩))) fun z=>absurd rfl z
 | out a =>
  obtain⟨_,_,_,_,hb,g,I⟩:=hp;exact wE f h (by grind[okW]) fun Z J=>.no rfl <| .no rfl <| .no rfl <| .ite (fun _=>nmE f J g.w g.1 fun l2 L=>isE f L (by unfold okW; decide) fun l3 N=>bLr f N I.e.1 I.e.2 I.2.1 fun U O=>.ck (by omega) (aQk O (.ret ⟨U,rfl⟩))) fun z=>absurd rfl z
 | _=>cases hk
theorem bFT(z:S.length≤4000000000){k:Int}{s:TSc}{p:PL}(hk:7≤k)(hp:okP p k s)(h:At n S (wds p) l):Tot (lY none s l) (Got n S (add p s)):=by
 unfold lY;have f:∀w ws,At n S (w::ws) l→okW w→w≠ [108,105,110,107]→w≠ [115,117,98]→bIF p=true→s.2.2.2.2.2.2.2.2.2.1= []→0<s.2.2.2.2.2.2.2.2.1.length→s.2.2.2.2.2.2.2.2.1.length≤1000→Tot (lY none s l) (Got n S (add p s)):=fun w ws hA hw n1 n2 J hl h0 hx=>by
  unfold lY;refine(aJJ z hA hw).bind fun r L=>?_;subst L;refine .ite (fun g=>absurd g n1) fun _=>.ite (fun g=>absurd g (by simp_all)) fun _=>.ite (fun g=>absurd g n2) fun _=>.ite (fun _=>.ck (by omega) (.ck (by omega) (.ck (by omega) ?_))) fun g=>absurd (show (0:Int)<(s.2.2.2.2.2.2.2.2.1.length:Int) by omega) g;have e:((s.2.2.2.2.2.2.2.2.1.length:Int)-1).toNat=s.2.2.2.2.2.2.2.2.1.length-1:=by omega
  have Q:=bK1 z J hp h s.2.2.2.2.2.2.2.2.1 (s.2.2.2.2.2.2.2.2.1.length-1);simp only[e];refine Tot.bind Q fun q hq=>?_;obtain⟨l',rfl⟩:=hq;refine .ret ⟨l',?_⟩;cases p with
  | state a=>rfl
  | par a=>rfl
  | inn a=>rfl
  | out a=>rfl
  | _=>cases J
 cases p with
 | sub t =>
  obtain⟨_,hl,hx,ht⟩:=hp;refine(aJJ z h (by grind[okW])).bind fun r L=>?_;subst L;exact .no rfl <| .ite (fun g=>absurd g (by simp_all)) fun _=>.ite (fun _=>wE z h (by grind[okW]) fun l1 I=>nmE z I ht.w ht.1 fun l2 N=>.ck (by omega) (aQk N (.ret ⟨l2,rfl⟩))) fun g=>absurd rfl g
 | link a =>
  obtain⟨_,hl,I,N,U,Y⟩:=hp;obtain⟨b1,b2,b3,b4,_⟩:=a;refine(aJJ z h (by grind[okW])).bind fun r L=>?_;subst L;have O:∀ {a b:List Nat},NmK a→NmK b→okW (a++46::b)∧(a++46::b).length≤1000:=fun {a b} Z hb=>by
   exact⟨⟨by simp,fun c hc=>by
    rcases List.mem_append.1 hc with q|q
    ·exact Z.w.2 c q
    ·rcases List.mem_cons.1 q with rfl|q
     ·decide
     ·exact hb.w.2 c q⟩,by have:=Z.len; have:=hb.len; grind⟩
  exact .ite (fun _=>wE z h (by grind[okW]) fun l1 g1=>bLs z g1 (O I N).1 I.dot I.1 N.1 (O I N).2 fun l2 g2=>isE z g2 (by unfold okW; decide) fun l3 g3=>bLs z g3 (O U Y).1 U.dot U.1 Y.1 (O U Y).2 fun l4 g4=>aQk g4 (.ck (by omega) (.ret ⟨l4,rfl⟩))) fun g=>absurd rfl g
 | state a=>exact f _ _ h (by grind[okW]) xAa xAa rfl hp.2.1 hp.2.2.1 hp.2.2.2.1
 | par a=>exact f _ _ h (by grind[okW]) xAa xAa rfl hp.2.1 hp.2.2.1 hp.2.2.2.1
 | inn a=>exact f _ _ h (by grind[okW]) xAa xAa rfl hp.2.1 hp.2.2.1 hp.2.2.2.1
 | out a=>exact f _ _ h (by grind[okW]) xAa xAa rfl hp.2.1 hp.2.2.1 hp.2.2.2.1
 | _=>exact absurd hp.1 (by omega)
end Nu
end Go.Proofs
namespace Go.Proofs
open Go.Vc
set_option maxRecDepth 20000
namespace Nu
variable {n:Int} {S:List Nat} {l:TLn}
theorem aYj(Y:S.length≤90)(h:LN n S l):Tot (iJ none l) (PO n S OkE):=by
 obtain⟨q,N,z,I⟩:=h;unfold iJ;rw[N];have T:=aYi (S.drop l.2.1.toNat);refine .ck ⟨z,I⟩ (.ck T.wP ?_);obtain⟨k,L,hv⟩:=T.get ([]:List Nat);rw[hv];rw[List.length_drop] at L;have f:((S.drop l.2.1.toNat).drop k).length=S.length-l.2.1.toNat-k:=by grind
 have X:=bIz ((S.drop l.2.1.toNat).drop k) (by omega);obtain⟨⟨x1,O⟩,U,J⟩:=X.get ((Ex.mk 0 [] []),(0:Int),(0:Int),());rw[f] at O;refine .ck (by omega) (.ck X.wP (.ite (fun g=>.ck (by omega) (.ck (by omega) (.ret ⟨q,?_,?_⟩))) fun g=>.ret ⟨J (Classical.not_not.1 g),q,rfl,?_,?_⟩))
 all_goals grind
theorem bIG{w sep:List Nat}(h:T8 w):T8 (wS w sep).1∧T8 (wS w sep).2.1:=by
 unfold wS;split
 ·grind[T8.nil]
 ·exact⟨h.take _,h.drop _⟩
theorem bCe(q:S.length≤90)(z:T8 S)(h:LN n S l):Tot (iK none l) (PO n S (fun r=>T8 r.1∧T8 r.2.1)):=by
 unfold iK;refine aNv q z h (fun v J hv I f=>?_) fun p hp=>.ret hp;obtain⟨c1,g⟩:=bIG (sep:=aQ ⟨#[46]⟩) hv;refine .ck ⟨by grind,by decide⟩ (.ite (fun _=>.ck (aQj _ c1).wP (.ite (fun _=>.ck (aQj _ g).wP (aKf f (fun _=>.ret ⟨⟨c1,g⟩,f⟩) fun p hp=>.ret hp)) fun _=>aKf f (fun _=>.ret ⟨⟨c1,g⟩,f⟩) fun p hp=>.ret hp)) fun _=>aKf f (fun _=>.ret ⟨⟨c1,g⟩,f⟩) fun p hp=>.ret hp)
structure aZ1(k:Nat)(s:qI):Prop where
 n:T8 s.1
 x:s.2.1.length≤k∧ ∀a∈s.2.1,T8 a.1∧T8 a.2.1.1∧T8 a.2.1.2.1∧OkE a.2.2.1
 p:s.2.2.1.length≤k∧ ∀a∈s.2.2.1,T8 a.1∧T8 a.2.1.1∧T8 a.2.1.2.1
 u:TL k s.2.2.2.1
 o:s.2.2.2.2.1.length≤k∧ ∀a∈s.2.2.2.2.1,T8 a.1∧OkE a.2.1
theorem aZ1.ok{k:Nat}{s:qI}(h:aZ1 k s)(f:k≤4000):bEQ s:=⟨h.n,⟨Nat.le_trans h.x.1 f,h.x.2⟩,⟨Nat.le_trans h.p.1 f,h.p.2⟩,h.u.up f,⟨Nat.le_trans h.o.1 f,h.o.2⟩⟩
theorem aZ1.up{k m:Nat}{s:qI}(h:aZ1 k s)(f:k≤m):aZ1 m s:=⟨h.n,⟨Nat.le_trans h.x.1 f,h.x.2⟩,⟨Nat.le_trans h.p.1 f,h.p.2⟩,h.u.up f,⟨Nat.le_trans h.o.1 f,h.o.2⟩⟩
structure ScK(k:Nat)(s:TSc):Prop where
 e:T8 s.2.2.2.2.1
 h0:T8 s.2.2.2.2.2.1
 hm:T8 s.2.2.2.2.2.2.1
 t:T8 s.2.2.2.2.2.2.2.1
 sb:s.2.2.2.2.2.2.2.2.1.length≤k∧ ∀a∈s.2.2.2.2.2.2.2.2.1,aZ1 k a
 l:s.2.2.2.2.2.2.2.2.2.1.length≤k
theorem ScK.ok{k:Nat}{s:TSc}(h:ScK k s)(f:k≤4000):bB5 s:=⟨h.e,h.h0,h.hm,h.t,⟨Nat.le_trans h.sb.1 f,fun a g=>(h.sb.2 a g).ok f⟩,Nat.le_trans h.l f⟩
theorem ScK.up{k m:Nat}{s:TSc}(h:ScK k s)(f:k≤m):ScK m s:=⟨h.e,h.h0,h.hm,h.t,⟨Nat.le_trans h.sb.1 f,fun a g=>(h.sb.2 a g).up f⟩,Nat.le_trans h.l f⟩
theorem aDr{α β:Type}{o:Option ((α×TLn)⊕TSp)}{Q:α→Prop}(h:Tot o (PO n S Q)){f:(α×TLn)⊕TSp→Option β}{P:β→Prop}(I:∀a g,Q a→LN n S g→Tot (f (.inl (a,g))) P)(z:∀p,SP n p→Tot (f (.inr p)) P):Tot (o.bind f) P :=
 h.bind fun q hq=>by
  cases q with
  | inl x=>exact I x.1 x.2 hq.1 hq.2
  | inr p=>exact z p hq
theorem zH{β:Type}{o:Option (TLn⊕TSp)}(h:Tot o (PU n S)){f:TLn⊕TSp→Option β}{P:β→Prop}(I:∀g,LN n S g→Tot (f (.inl g)) P)(z:∀p,SP n p→Tot (f (.inr p)) P):Tot (o.bind f) P :=
 h.bind fun q hq=>by
  cases q with
  | inl x=>exact I x hq
  | inr p=>exact z p hq
theorem bIH{α:Type}{P:α→Prop}{k:Nat}{a:List α}{x:α}(h:a.length≤k∧ ∀y∈a,P y)(f:P x):(a++ [x]).length≤k+1∧ ∀y∈a++ [x],P y:=by
 grind
end Nu
end Go.Proofs
namespace Go.Proofs
open Go.Vc
set_option maxRecDepth 20000
namespace Nu
variable {n:Int} {S:List Nat} {l:TLn}
theorem aWq{β:Type}(h:LN n S l){f:TLn⊕TSp→Option β}{P:β→Prop}(g:∀p,SP n p→Tot (f (.inr p)) P):Tot ((iI none l).bind f) P :=
 g _ ⟨h.1,by simp_all,by simp_all⟩
theorem bII(f:S.length≤90)(q:T8 S)(L:LN n S l){k:Int}{m:Nat}{s:TSc}(h:ScK m s):Tot (vC none k s l) (PO n S (ScK m)):=by
 unfold vC;refine .ite (fun _=>zH (aGF f q L _) (fun O g=>aDr (aOt f q g) (fun a l2 J I=>zH (aAN f I) (fun N z=>.ret ⟨⟨h.e,h.h0,h.hm,h.t,h.sb,h.l⟩,z⟩) fun p hp=>.ret hp) fun p hp=>.ret hp) fun p hp=>.ret hp) fun _=>?_;refine .ite (fun _=>zH (aGF f q L _) (fun O g=>aDr (aHm f q g) (fun a l2 J I=>zH (aAN f I) (fun N z=>.ret ⟨⟨J,h.h0,h.hm,h.t,h.sb,h.l⟩,z⟩) fun p hp=>.ret hp) fun p hp=>.ret hp) fun p hp=>.ret hp) fun _=>?_;refine .ite (fun _=>zH (aGF f q L _) (fun O g=>aDr (aHm f q g) (fun a l2 J I=>aDr (aHm f q I) (fun b l2 hb I=>zH (aAN f I) (fun N z=>.ret ⟨⟨h.e,J,hb,h.t,h.sb,h.l⟩,z⟩) fun p hp=>.ret hp) fun p hp=>.ret hp) fun p hp=>.ret hp) fun p hp=>.ret hp) fun _=>?_;refine .ite (fun _=>zH (aGF f q L _) (fun O g=>aDr (aHm f q g) (fun a l2 J I=>zH (aAN f I) (fun N z=>.ret ⟨⟨h.e,h.h0,h.hm,J,h.sb,h.l⟩,z⟩) fun p hp=>.ret hp) fun p hp=>.ret hp) fun p hp=>.ret hp) fun _=>?_;refine .ite (fun _=>zH (aGF f q L _) (fun O g=>aDr (aOt f q g) (fun a l2 J I=>zH (aAN f I) (fun N z=>.ret ⟨⟨h.e,h.h0,h.hm,h.t,h.sb,h.l⟩,z⟩) fun p hp=>.ret hp) fun p hp=>.ret hp) fun p hp=>.ret hp) fun _=>?_;refine .ite (fun _=>zH (aGF f q L _) (fun O g=>aDr (aOt f q g) (fun a l2 J I=>zH (aAN f I) (fun N z=>.ret ⟨⟨h.e,h.h0,h.hm,h.t,h.sb,h.l⟩,z⟩) fun p hp=>.ret hp) fun p hp=>.ret hp) fun p hp=>.ret hp) fun _=>?_;exact aNv f q L (fun v O hv _ g=>aKf g (fun _=>zH (aAN f g) (fun N z=>.ret ⟨⟨h.e,h.h0,h.hm,h.t,h.sb,h.l⟩,z⟩) fun p hp=>.ret hp) fun p hp=>.ret hp) fun p hp=>.ret hp
theorem bIJ(f:S.length≤90)(g:T8 S)(hl:LN n S l){m:Nat}(hm:m≤3900){s:qI}(h:aZ1 m s)(x:List qI)(y:Nat):Tot (vD none x y s l) (PO n S (aZ1 (m+1))):=by
 have h':=h.up (Nat.le_succ m);have b1:=h.x.1;have b2:=h.p.1;have b3:=h.u.1;have b4:=h.o.1;unfold vD;refine aNv f g hl (fun v l0 hv _ h0=>?_) fun p hp=>.ret hp;refine .ite (fun _=>?_) fun _=>.ite (fun _=>?_) fun _=>.ite (fun _=>?_) fun _=>.ite (fun _=>?_) fun _=>aWq h0 fun p hp=>.ret hp
 ·refine aDr (aIG f g h0) (fun a N I z=>zH (aGF f g z _) (fun l2 J=>aDr (bCa f g J) (fun b l3 hb L=>zH (aGF f g L _) (fun l4 Y=>aDr (aYj f Y) (fun c Z hc U=>.ck (by omega) (zH (aAN f U) (fun O q=>.ret ⟨⟨h.n,bIH h.x ⟨I,hb.1,hb.2,hc⟩,h'.p,h'.u,h'.o⟩,q⟩) fun p hp=>.ret hp)) fun p hp=>.ret hp) fun p hp=>.ret hp) fun p hp=>.ret hp) fun p hp=>.ret hp) fun p hp=>.ret hp
 ·refine aDr (aIG f g h0) (fun a N I z=>zH (aGF f g z _) (fun l2 J=>aDr (bCa f g J) (fun b l3 hb L=>.ck (by omega) (zH (aAN f L) (fun O q=>.ret ⟨⟨h.n,h'.x,bIH h.p ⟨I,hb.1,hb.2⟩,h'.u,h'.o⟩,q⟩) fun p hp=>.ret hp)) fun p hp=>.ret hp) fun p hp=>.ret hp) fun p hp=>.ret hp
 ·refine aDr (aIG f g h0) (fun a N I z=>.ck (by omega) (zH (aAN f z) (fun O q=>.ret ⟨⟨h.n,h'.x,h'.p,bIH h.u I,h'.o⟩,q⟩) fun p hp=>.ret hp)) fun p hp=>.ret hp
 ·refine aDr (aIG f g h0) (fun a N I z=>zH (aGF f g z _) (fun l2 J=>aDr (aYj f J) (fun c Z hc U=>.ck (by omega) (zH (aAN f U) (fun O q=>.ret ⟨⟨h.n,h'.x,h'.p,h'.u,bIH h.o ⟨I,hc⟩⟩,q⟩) fun p hp=>.ret hp)) fun p hp=>.ret hp) fun p hp=>.ret hp) fun p hp=>.ret hp
end Nu
end Go.Proofs
namespace Go.Proofs
open Go.Vc
set_option maxRecDepth 20000
namespace Nu
variable {n:Int} {S:List Nat} {l:TLn}
theorem bNP{α:Type}{P:α→Prop}{a:List α}{i:Nat}{x:α}(h:∀y∈a,P y)(f:P x):∀y∈a.set i x,P y:=fun y hy=>by
 grind
theorem bDt(f:S.length≤90)(g:T8 S)(I:LN n S l){m:Nat}(hm:m≤3900){s:TSc}(h:ScK m s):Tot (lY none s l) (PO n S (ScK (m+1))):=by
 have h':=h.up (Nat.le_succ m);have b1:=h.sb.1;have b2:=h.l;unfold lY;refine(aL9 f I).bind fun r Y=>?_;obtain⟨w,L⟩:=r;obtain⟨e,hw⟩:=Y;have e:L=l:=e;subst e;refine .ite (fun _=>?_) fun _=>.ite (fun _=>aWq I fun p hp=>.ret hp) fun _=>.ite (fun _=>?_) fun _=>.ite (fun hk=>?_) fun _=>aWq I fun p hp=>.ret hp
 ·refine aNv f g I (fun v L hv _ h0=>?_) fun p hp=>.ret hp;refine aDr (bCe f g h0) (fun a Z O N=>zH (aGF f g N _) (fun l2 h2=>aDr (bCe f g h2) (fun b l3 hb U=>zH (aAN f U) (fun l6 J=>.ck (by omega) (.ret ⟨⟨h.e,h.h0,h.hm,h.t,h'.sb,?_⟩,J⟩)) fun p hp=>.ret hp) fun p hp=>.ret hp) fun p hp=>.ret hp) fun p hp=>.ret hp;simp_all
 ·refine aNv f g I (fun v L hv _ h0=>?_) fun p hp=>.ret hp;refine aDr (aIG f g h0) (fun a Z O N=>.ck (by omega) (zH (aAN f N) (fun l6 J=>.ret ⟨⟨h.e,h.h0,h.hm,h.t,bIH (P:=aZ1 (m+1)) ⟨h.sb.1,h'.sb.2⟩ ⟨O,⟨Nat.zero_le _,fun x z=>absurd z List.not_mem_nil⟩,⟨Nat.zero_le _,fun x z=>absurd z List.not_mem_nil⟩,⟨Nat.zero_le _,fun x z=>absurd z List.not_mem_nil⟩,⟨Nat.zero_le _,fun x z=>absurd z List.not_mem_nil⟩⟩,h'.l⟩,J⟩) fun p hp=>.ret hp)) fun p hp=>.ret hp
 ·have hk:0<s.2.2.2.2.2.2.2.2.1.length:=by omega
  have hi:((s.2.2.2.2.2.2.2.2.1.length:Int)-1).toNat<s.2.2.2.2.2.2.2.2.1.length:=by omega
  refine .ck hi (.ck (by omega) (.ck (by omega) ?_));have hp:=h.sb.2 _ (qT (([],[],[],[],[],()):qI) hi);refine(bIJ f g I hm hp _ _).bind fun q hq=>?_;cases q with
  | inl x=>exact .ret ⟨⟨h.e,h.h0,h.hm,h.t,⟨Nat.le_trans (Nat.le_of_eq List.length_set) h'.sb.1,bNP h'.sb.2 hq.1⟩,h'.l⟩,hq.2⟩
  | inr p=>exact .ret hq
theorem bCf(s:TSc)(h:ScK 4000 s):Tot (eG none s) (fun r=>r.length≤4000):=by
 have b1:=h.sb.1;have O:=h.l;unfold eG;refine Tot.bind (P:=fun _=>True) (Tot.idx s.2.2.2.2.2.2.2.2.1.length (fun x i=>x.length≤i*16000000) (by omega) (fun i x i0 hi q U=>?_) (fun x U=>?_) (Nat.zero_le _)) fun v _=>?_
 ·show Tot (fX none s i x) _;unfold fX;refine .ite (fun _=>.ck ⟨i0,hi⟩ ?_) fun h=>absurd hi h;have hs:=h.sb.2 _ (qT (([],[],[],[],[],()):qI) (show i.toNat<s.2.2.2.2.2.2.2.2.1.length by omega));have Y:=hs.u.1;refine Tot.bind (P:=fun y=>y.length≤x.length+16000000) (Tot.idx (s.2.2.2.2.2.2.2.2.1.getD i.toNat ([],[],[],[],[],())).2.2.2.1.length (fun y j=>y.length≤x.length+j*4000) (by omega) (fun j y j0 I g hy=>?_) (fun y hy=>?_) (Nat.le_add_right _ _)) fun y hy=>.ck q (.ret ⟨rfl,?_⟩)
  ·show Tot (fW none s i j y) _;unfold fW;refine .ite (fun _=>.ck ⟨j0,I⟩ ?_) fun h=>absurd I h;refine Tot.bind (P:=fun z=>z.length≤y.length+4000) (Tot.idx s.2.2.2.2.2.2.2.2.2.1.length (fun z k=>z.length≤y.length+k) (by omega) (fun k z N J f L=>?_) (fun z L=>?_) (Nat.le_refl _)) fun z L=>.ck g (.ret ⟨rfl,?_⟩)
   ·show Tot (fV none s i j k z) _;unfold fV;refine .ite (fun _=>.ck ⟨N,J⟩ (.ite (fun _=>.ck f (.ret ⟨rfl,?_⟩)) fun _=>.ck ?_ (.ck f (.ret ⟨rfl,?_⟩)))) fun h=>absurd J h
    all_goals grind
   ·show Tot (fV none s i j _ z) _;unfold fV;exact .ite (fun h=>absurd h (by omega)) fun _=>.ret (by omega)
   grind
  ·show Tot (fW none s i _ y) _;unfold fW;exact .ite (fun h=>absurd h (by omega)) fun _=>.ret (by omega)
  grind
 ·show Tot (fX none s _ x) _;unfold fX;exact .ite (fun h=>absurd h (by omega)) fun _=>.ret trivial
 ·unfold pG;exact .ite (fun _=>.ret O) fun hv=>.ret (by omega)
end Nu
end Go.Proofs
namespace Go.Proofs
open Go.Vc
set_option maxRecDepth 20000
namespace Nu
def sc0:TSc:=(0,0,0,0,[],[],[],[],[],[],())
def bIK(N:Nat)(r:TSc×(Int×Int×Unit)×Int×Unit):Prop :=
 (r.2.2.1=6∧r.1=sc0∧(r.2.1=(0,0,())∨1≤r.2.1.1∧r.2.1.1≤(N:Int)∧1≤r.2.1.2.1∧r.2.1.2.1≤91))∨(r.2.2.1=0∧r.2.1=(0,0,())∧lL none r.1=some true∧bB5 r.1)
theorem bMx(N:Nat)(k:Int)(I q U z:Int)(L J g f:List Nat)(x:List qI)(Y:List (List Nat×List Nat×List Nat×List Nat×Unit))(h:ScK 3900 (I,q,U,z,L,J,g,f,x,Y,())):Tot (pH none k I q U z L J g f x Y) (bIK N):=by
 have O:=bCf _ (h.up (by omega:3900≤4000));unfold pH;refine .ck O.wP ?_;have Z:=O.get ([]:List (List Nat×List Nat×List Nat×List Nat×Unit));have ok:bB5 (I,q,U,z,L,J,g,f,x,(eG none (I,q,U,z,L,J,g,f,x,Y,())).getD [],()):=⟨h.e,h.h0,h.hm,h.t,(h.ok (by omega)).sb,Z⟩;have M:=bER _ ok;refine .ck (fun _=>M.wP) (.ite (fun _=>.ret (.inl ⟨rfl,rfl,.inl rfl⟩)) fun hc=>.ret (.inr ⟨rfl,rfl,?_,ok⟩));have hc:=Classical.not_not.1 (fun h=>hc (.inr h));obtain⟨v,hv,_⟩:=M;simp_all
theorem bFU(text:List Nat)(N:Nat)(hN:(tN text (aQ ⟨#[10]⟩)).length=N)(hN9:N≤3900)(hp:∀p∈tN text (aQ ⟨#[10]⟩),T8 p∧p.length≤90):Tot (gV none text) (bIK N):=by
 unfold gV;refine .ite (fun _=>.ret (.inl ⟨rfl,rfl,.inl rfl⟩)) fun ht=>.ck ⟨by omega,by decide⟩ ?_;refine Tot.bind (P:=fun q=>match q with| .inl e=>ScK 3900 (e.2.1,e.2.2.1,e.2.2.2.1,e.2.2.2.2.1,e.2.2.2.2.2.1,e.2.2.2.2.2.2.1,e.2.2.2.2.2.2.2.1,e.2.2.2.2.2.2.2.2.1,e.2.2.2.2.2.2.2.2.2.1,e.2.2.2.2.2.2.2.2.2.2,())| .inr p=>1≤p.1.1∧p.1.1≤(N:Int)∧1≤p.1.2.1∧p.1.2.1≤91) (Tot.loop (fun d=>0≤d.1∧d.1≤d.2.1∧d.2.1≤(N:Int)∧ScK d.2.1.toNat (d.2.2.1,d.2.2.2.1,d.2.2.2.2.1,d.2.2.2.2.2.1,d.2.2.2.2.2.2.1,d.2.2.2.2.2.2.2.1,d.2.2.2.2.2.2.2.2.1,d.2.2.2.2.2.2.2.2.2.1,d.2.2.2.2.2.2.2.2.2.2.1,d.2.2.2.2.2.2.2.2.2.2.2,())) (fun d=>((N:Int)-d.2.1).toNat) ?_ ?_) fun q hq=>?_
 ·rintro⟨k,i,Z,O,a3,U,t1,t2,L,t4,x,lk⟩ ⟨I,k1,Y,hs⟩;have I:0≤k:=I;have k1:k≤i:=k1;have Y:i≤N:=Y;have hs:ScK i.toNat (Z,O,a3,U,t1,t2,L,t4,x,lk,()):=hs;show Tot (jA none text k i Z O a3 U t1 t2 L t4 x lk) _;unfold jA;refine .ite (fun hi=>?_) fun hi=>.ret (hs.up (by omega));have hi:i<N:=by omega
  obtain⟨p8,pl⟩:=hp _ (qT ([]:List Nat) (show i.toNat<(tN text (aQ ⟨#[10]⟩)).length by omega));generalize (tN text (aQ ⟨#[10]⟩)).getD i.toNat []=w at p8 pl;have c8:=(bIG (sep:=aQ ⟨#[35]⟩) p8).1;have cl:(wS w (aQ ⟨#[35]⟩)).1.length≤90:=by
   grind[wS,Nat.le_trans,List.length_take_le']
  generalize (wS w (aQ ⟨#[35]⟩)).1=u at c8 cl;have R:=bFS u (by omega);refine .ck (by omega) (.ck ⟨by omega,by decide⟩ (.ck (by omega) (.ck R.wP ?_)));obtain⟨j,hj,hv⟩:=R.get ([]:List Nat);rw[hv];have z:(u.take j).length≤90:=Nat.le_trans (List.length_take_le' _ _) cl;have J:T8 (u.take j):=c8.take _;generalize u.take j=S at z J;have g:LN (i+1) S (i+1,0,S,()):=⟨rfl,rfl,Int.le_refl 0,by simp_all⟩;refine(aL9 z g).bind fun r hr=>?_;obtain⟨v,l0⟩:=r;obtain⟨e,_⟩:=hr;have e:l0=(i+1,0,S,()):=e;subst e;have f:∀p,SP (i+1) p→(1≤p.1.1∧p.1.1≤(N:Int)∧1≤p.1.2.1∧p.1.2.1≤91):=fun p hp=>⟨by have:=hp.1; omega,by have:=hp.1; omega,hp.2.1,hp.2.2⟩;refine .ite (fun _=>.ck (by omega) (.ret ⟨⟨I,by grind,by grind,hs.up (by grind)⟩,by grind⟩)) fun _=>.ite (fun _=>?_) fun _=>?_
  ·refine(bII z J g hs).bind fun q hq=>?_;cases q with
   | inl y=>exact .ck (by omega) (.ck (by omega) (.ret ⟨⟨by omega,by simp_all,by grind,hq.1.up (by grind)⟩,by grind⟩))
   | inr p=>exact .ret (f p hq)
  ·refine(bDt z J g (by omega) hs).bind fun q hq=>?_;cases q with
   | inl y=>exact .ck (by omega) (.ck (by omega) (.ret ⟨⟨by omega,by simp_all,by grind,hq.1.up (by grind)⟩,by grind⟩))
   | inr p=>exact .ret (f p hq)
 ·exact⟨Int.le_refl 0,Int.le_refl 0,by simp_all,⟨T8.nil,T8.nil,T8.nil,T8.nil,⟨Nat.zero_le _,fun a ha=>absurd ha List.not_mem_nil⟩,Nat.zero_le _⟩⟩
 ·cases q with
  | inl e=>grind[bMx]
  | inr p=>exact .ret (.inl ⟨rfl,rfl,.inr hq⟩)
theorem bLu(r:List Nat):∀w:List Nat,(∀b∈w,¬b=10)→aGk [10] (w++10::r)=some w.length
 | [],_=>by rfl
 | b::l,h=>by
  have hb:([10]:List Nat).isPrefixOf (b::(l++10::r))=false:=by
   grind
  rw[List.cons_append,aGk,hb,bLu r l fun x f=>h x (List.mem_cons_of_mem _ f)];rfl
def jn(f:List qc):List Nat:=f.flatMap (· ++ [10])
theorem bK2(f:List qc)(w:List Nat):jn (f++ [w])=jn f++w++ [10]:=by
 unfold jn;rw[List.flatMap_append,List.flatMap_singleton,List.append_assoc]
theorem bDu:∀f:List qc,f.length≤(jn f).length
 | []=>Nat.le_refl 0
 | w::f=>by
  have:=bDu f;grind[jn,List.length_append,List.length_singleton]
theorem aZ2:∀(f:List qc) (k:Nat),f.length≤k→(∀w∈f,∀b∈w,¬b=10)→aZL [10] k (jn f)=f++ [[]]
 | [],0,_,_=>rfl
 | [],k+1,_,_=>rfl
 | w::f,0,h,_=>absurd h (by simp_all)
 | w::f,k+1,h,g=>by
  have e:jn (w::f)=w++10::jn f:=by
   grind[jn,List.append_assoc]
  rw[e,aZL,bLu _ _ (g w List.mem_cons_self)];show (w++10::jn f).take w.length::aZL [10] k ((w++10::jn f).drop (w.length+1))=_;have d:(w++10::jn f).drop (w.length+1)=jn f:=by simp_all
  rw[List.take_left,d,aZ2 f k (by simp_all) fun x q=>g x (List.mem_cons_of_mem _ q)];rfl
theorem bIL(f:List qc)(q:f.length≤3890)(h:∀w∈f,T8 w∧w.length≤90∧ ∀b∈w,¬b=10):Tot (gV none (jn f)) (bIK (f.length+1)):=by
 have e:tN (jn f) (aQ ⟨#[10]⟩)=f++ [[]]:=aZ2 f _ (bDu f) fun w g=>(h w g).2.2;refine bFU _ _ (by simp_all) (by omega) fun p hp=>?_;rw[e] at hp;rcases List.mem_append.1 hp with hp|hp
 all_goals simp_all[List.mem_singleton,T8.nil,Nat.zero_le]
def okc(c:Nat):Prop:=c≠35∧c≠10
def lic(c:Nat):Prop:=c≠32∧okc c
theorem bEY{c:Nat}(h:oB c=true):lic c:=by
 have:=of_decide_eq_true h;grind[lic,okc]
theorem aWr{P:Nat→Prop}{s:List Nat}{i k:Nat}(g:∀c∈(s.drop i).take k,P c)(f:∀c∈s.drop (i+k),P c):∀c∈s.drop i,P c:=fun c hc=>by
 rw[← List.take_append_drop k (s.drop i),List.drop_drop] at hc;exact(List.mem_append.1 hc).elim (g c) (f c)
theorem drop_one{P:Nat→Prop}{s:List Nat}{i a:Nat}(h:jV s i a)(g:P a)(q:∀c∈s.drop (i+1),P c):∀c∈s.drop i,P c:=fun c hc=>by
 obtain⟨f,e⟩:=h;rw[List.drop_eq_getElem_cons f] at hc;grind
theorem bIM{P:Nat→Prop}{s:List Nat}{i:Nat}(h:s.length≤i):∀c∈s.drop i,P c:=fun c hc=>by
 grind[List.drop_eq_nil_of_le]
theorem aWs(s:List Nat)(i:Nat):∀c∈(s.drop i).take (cR s i),lic c:=fun c hc=>bEY (aL4 s i c hc)
theorem aYk{s:List Nat}{i:Nat}(h:aGD s i=s.length)(hi:i≤s.length):∀c∈s.drop i,lic c:=by
 unfold aGD at h;have le:lic 101:=by grind[lic,okc]
 split at h
 ·rename_i q;refine drop_one q le ?_;dsimp only at h;have g:∀k,k+cR s k=s.length→ ∀c∈s.drop k,lic c:=fun k f=>aWr (aWs s k) (bIM (by omega));have z:=q.1;generalize f:(if jV s (i+1) 43∨jV s (i+1) 45 then i+2 else i+1)=k at h;split at h
  ·have:=g k h;split at f
   ·rename_i hs;subst f;rcases hs with hs|hs
    ·exact drop_one hs (by grind[lic,okc]) this
    ·exact drop_one hs (by grind[lic,okc]) this
   simp_all
  ·omega
 simp_all
theorem bEZ{t:List Nat}(h:bId t):∀c∈t,lic c:=by
 obtain⟨_,⟨c,r,ht,hc⟩,g⟩:=h;have f:=g t 0 [] ⟨Nat.zero_le _,by simp⟩ trivial;unfold aCj at f;have h0:cR t 0≠0:=by
  grind
 have hd:=vU t 0;rw[if_neg h0,Nat.zero_add] at f;have:∀c∈t.drop 0,lic c:=by
  refine aWr (aWs t 0) ?_;rw[Nat.zero_add];split at f
  ·rename_i hs;have q:cR t 0<t.length:=hs.1.1;have z:=vU t (cR t 0+1);refine drop_one hs.1 (by grind[lic,okc]) (aWr (aWs t _) (aYk (by omega) (by omega)))
  grind[aYk]
 grind
theorem aZ3{t:List Nat}(h:fm t=true):∀c∈t,lic c:=bEZ (bDm h)
theorem bM9{t:List Nat}(h:fm t=true):okW t:=by
 obtain⟨_,⟨c,r,ht,_⟩,_⟩:=bDm h;exact⟨by simp_all,fun c hc=>(aZ3 h c hc).1⟩
theorem aWt{t:List Nat}(h:fm (sg t)=true):okW t∧t.length≤100∧ ∀c∈t,lic c:=by
 unfold sg at h;split at h
 ·rename_i hp;obtain⟨r,rfl⟩:=List.isPrefixOf_iff_prefix.1 hp;have g:=aZ3 h;have f:=aZ0 h;have hc:∀c∈ [45]++r,lic c:=fun c hc=>by
   rcases List.mem_cons.1 hc with rfl|hc
   all_goals grind[lic,okc]
  exact⟨⟨by simp,fun c h=>(hc c h).1⟩,by grind,hc⟩
 grind[bM9,Nat.le_trans,aZ0,aZ3]
def Wk(w:List Nat):Prop:=(∀c∈w,okc c)∧ ∃r c,w=r++ [c]∧c≠32
theorem Wk.of{w:List Nat}(h:w≠ [])(f:∀c∈w,lic c):Wk w:=by
 refine⟨fun c hc=>(f c hc).2,w.dropLast,w.getLast h,(List.dropLast_concat_getLast h).symm,(f _ (List.getLast_mem h)).1⟩
theorem Wk.app{a b:List Nat}(q:∀c∈a,okc c)(h:Wk b):Wk (a++b):=by
 obtain⟨f,r,c,rfl,hc⟩:=h;exact⟨fun x g=>(List.mem_append.1 g).elim (q x) (f x),a++r,c,by simp_all,hc⟩
theorem Wk.par{p:Prop}[Decidable p]{t:List Nat}(h:Wk t):Wk (par p t):=by
 unfold Nu.par;split
 ·exact .app (by unfold okc; decide) (.app h.1 ⟨by unfold okc; decide,[],41,rfl,by decide⟩)
 omega
theorem bLv:∀ {n:Nat} {e:Ex},W n e→Wk (tx n e):=by
 intro n e L
 induction L with
 | num n t h=>exact .of (by obtain⟨_,⟨c,r,rfl,_⟩,_⟩:=h; exact List.cons_ne_nil c r) (bEZ h)
 | name n t h =>
  obtain⟨⟨c,r,rfl,_⟩,g,_⟩:=h;exact .of (List.cons_ne_nil c r) fun c hc=>⟨(aQl (g c hc)).1,(aQl (g c hc)).2.2⟩
 | two n k a b I g J hb q f =>
  rcases (by omega:(k=6∨k=7)∨(k=8∨k=9)) with h|h
  ·rw[aRV h];refine .app q.1 (.app ?_ f.par);rcases h with rfl|rfl<;>(grind[okc,sgT])
  ·rw[aMt h];refine .app q.par.1 (.app ?_ f.par);rcases h with rfl|rfl<;>(grind[okc,sgT])
 | neg n a J z =>
  rw[bDl];exact .app (by grind[okc]) z.par
 | fn n k a I g J z =>
  rw[bEJ I g];refine .app ?_ z.par;rcases (by omega:k=11∨k=12∨k=13) with rfl|rfl|rfl<;>(grind[okc,fnT])
theorem NmK.wk{t:List Nat}(h:NmK t):Wk t:=.of h.w.1 fun c hc=>⟨h.w.2 c hc,(aQl (h.2.2.1 c hc)).2.2⟩
theorem bMy{p:PL}{k:Int}{s:TSc}(h:okP p k s):∀w∈wds p,Wk w:=by
 have f:∀w:List Nat,(w≠ []∧ ∀c∈w,c≠32∧c≠35∧c≠10)→Wk w:=fun w g=>.of g.1 g.2;have num:∀n,n<1000→Wk (dg n):=fun n N=>.of (List.length_pos_iff.1 (aRY n N).2.1) fun c hc=>bEY (bKZ N c hc);have rg:∀r:TRg,RgK r→ ∀w∈rgW r,Wk w:=fun r I w g=>by
  obtain⟨lo,hi,u⟩:=r;obtain⟨r1,r2,r3,Y⟩:=I;have a:=aWt r2;unfold rgW at g;split at g
  ·obtain rfl:=List.mem_singleton.1 g;exact .of a.1.1 a.2.2
  ·rename_i hh;have b:=aWt (Y.resolve_left hh).2.1;rcases List.mem_cons.1 g with rfl|g
   ·exact .of a.1.1 a.2.2
   ·obtain rfl:=List.mem_singleton.1 g;exact .of b.1.1 b.2.2
 have one:∀ {u:List Nat} {ws:List qc},Wk u→(∀w∈ws,Wk w)→ ∀w∈u::ws,Wk w:=fun hu hs w g=>by
  grind
 have no:∀w∈([]:List qc),Wk w:=fun w g=>by cases g
 have J:∀t,LiK t→Wk t:=fun t ht=>.of ht.1.1 fun c hc=>⟨ht.1.2 c hc,ht.2.2.1 c hc⟩;have z:∀ {a b:List Nat},NmK a→NmK b→Wk (a++46::b):=fun {a b} q hb=>.app q.wk.1 (.app (a:=[46]) (by grind[okc]) hb.wk);cases p with
 | prec m=>exact one (f _ xAa) (one (num m h.2) no)
 | fin t=>exact one (f _ xAa) (one (J _ h.2) no)
 | step a b=>exact one (f _ xAa) (one (J _ h.2.1) (one (J _ h.2.2) no))
 | tol t=>exact one (f _ xAa) (one (J _ h.2) no)
 | tries m=>exact one (f _ xAa) (one (num m h.2) no)
 | order m=>exact one (f _ xAa) (one (num m h.2) no)
 | mode m =>
  refine one ?_ no;grind
 | sub t=>exact one (f _ xAa) (one h.2.2.2.wk no)
 | link a =>
  obtain⟨_,_,Z,h2,O,U⟩:=h;exact one (f _ xAa) (one (z Z h2) (one (f _ xAa) (one (z O U) no)))
 | state a =>
  obtain⟨_,_,_,_,_,q,I,L⟩:=h;refine one (f _ xAa) (one q.wk (one (f _ xAa) fun w g=>?_));rcases List.mem_append.1 g with g|g
  ·grind
  ·exact one (f _ xAa) (one (bLv L.1) no) w g
 | par a =>
  obtain⟨_,_,_,_,_,q,I⟩:=h;exact one (f _ xAa) (one q.wk (one (f _ xAa) (rg _ I)))
 | inn a =>
  obtain⟨_,_,_,_,_,q⟩:=h;exact one (f _ xAa) (one q.wk no)
 | out a =>
  obtain⟨_,_,_,_,_,q,L⟩:=h;exact one (f _ xAa) (one q.wk (one (f _ xAa) (one (bLv L.1) no)))
def jw:List qc→List Nat
 | []=>[]
 | w::ws=>w++tl ws
theorem bLw:∀ {ws:List qc},ws≠ []→(∀w∈ws,Wk w)→Wk (jw ws)
 | [w],_,h=>by
  show Wk (w++ []);simp_all
 | w::v::ws,_,h=>by
  have g:=bLw (ws:=v::ws) xAf fun x f=>h x (.tail _ f);show Wk (w++tl (v::ws));rw[zG];exact .app (h w (.head _)).1 (.app (a:=[32]) (by grind[okc]) g)
theorem bMz:∀ws:List qc,ws≠ []→Lft (jw ws) ws
 | [],h=>absurd rfl h
 | w::ws,_=>.inr (zG w ws).symm
def ln(p:PL):List Nat:=jw (wds p)
theorem bDv(p:PL):∃w ws,wds p=w::ws∧okW w:=by
 cases p with
 | mode m =>
  refine⟨_,_,rfl,?_⟩;grind[okW]
 | _=>exact⟨_,_,rfl,by grind[okW]⟩
theorem bNa(n:Int)(p:PL):At n (ln p) (wds p) (n,0,ln p,()):=⟨rfl,rfl,Int.le_refl 0,by simp_all,by
 obtain⟨w,ws,e,_⟩:=bDv p;exact bMz _ (by grind)⟩
theorem bLx{p:PL}{k:Int}{s:TSc}(h:okP p k s):Wk (ln p):=by
 obtain⟨w,ws,e,_⟩:=bDv p;exact bLw (by grind) (bMy h)
def aEM(s:TSc)(ps:List PL):TSc:=ps.foldl (fun s p=>add p s) s
def okR:List PL→Int→TSc→Prop
 | [],_,_=>True
 | p::ps,k,s=>okP p k s∧okR ps (k+1) (add p s)
theorem aQm:∀ {ps f:List PL} {k:Int} {s:TSc},okR ps k s→okR f (k+ps.length) (aEM s ps)→okR (ps++f) k s
 | [],f,k,s,_,h=>by
  have e:k+(([]:List PL).length:Int)=k:=by simp
  rw[e] at h;exact h
 | p::ps,f,k,s,h,g=>⟨h.1,aQm h.2 (by
  have e:k+((p::ps).length:Int)=k+1+(ps.length:Int):=by grind
  rw[e] at g;exact g)⟩
theorem aZ4:∀ {ps:List PL} {k:Int} {s:TSc},okR ps k s→ ∀(i:Nat) (hi:i<ps.length),okP ps[i] (k+i) (aEM s (ps.take i))
 | p::ps,k,s,h,0,_=>by
  have e:k+((0:Nat):Int)=k:=by omega
  rw[e];exact h.1
 | p::ps,k,s,h,i+1,hi=>by
  have:=aZ4 h.2 i (by simp_all);have e:k+((i+1:Nat):Int)=k+1+(i:Int):=by omega
  rw[e];exact this
theorem bIN(s:TSc)(ps:List PL)(i:Nat)(hi:i<ps.length):aEM s (ps.take (i+1))=add ps[i] (aEM s (ps.take i)):=by
 unfold aEM;rw[List.take_succ_eq_append_getElem hi,List.foldl_append];rfl
abbrev TD:Type:=Int×Int×Int×Int×Int×Int×List Nat×List Nat×List Nat×List Nat×List qI×List TLk
def tup(k i:Int)(s:TSc):TD:=(k,i,s.1,s.2.1,s.2.2.1,s.2.2.2.1,s.2.2.2.2.1,s.2.2.2.2.2.1,s.2.2.2.2.2.2.1,s.2.2.2.2.2.2.2.1,s.2.2.2.2.2.2.2.2.1,s.2.2.2.2.2.2.2.2.2.1)
def bNQ(k:Int)(s:TSc):Int×Int×Int×Int×Int×List Nat×List Nat×List Nat×List Nat×List qI×List TLk:=(k,s.1,s.2.1,s.2.2.1,s.2.2.2.1,s.2.2.2.2.1,s.2.2.2.2.2.1,s.2.2.2.2.2.2.1,s.2.2.2.2.2.2.2.1,s.2.2.2.2.2.2.2.2.1,s.2.2.2.2.2.2.2.2.2.1)
theorem bK3{text:List Nat}{i:Nat}{s:TSc}{p:PL}(hi:(i:Int)<((tN text (aQ ⟨#[10]⟩)).length:Int))(Y:i<1000000)(U:(tN text (aQ ⟨#[10]⟩)).getD i []=ln p)(hp:okP p (i:Int) s)(f:(ln p).length≤4000000000):Tot (jA none text i i s.1 s.2.1 s.2.2.1 s.2.2.2.1 s.2.2.2.2.1 s.2.2.2.2.2.1 s.2.2.2.2.2.2.1 s.2.2.2.2.2.2.2.1 s.2.2.2.2.2.2.2.2.1 s.2.2.2.2.2.2.2.2.2.1) (fun q=>q= .inl (tup ((i+1:Nat):Int) ((i+1:Nat):Int) (add p s))):=by
 have N:=bLx hp;obtain⟨w,ws,e,ok⟩:=bDv p;unfold jA;rw[show (i:Int).toNat=i from rfl,U];have c1:(wS (ln p) (aQ ⟨#[35]⟩)).1=ln p:=by
  show (wS (ln p) [35]).1=_;rw[bCc fun c hc=>(N.1 c hc).1]
 rw[c1];have T:=(bCb (ln p) (by
  obtain⟨_,r,c,L,hc⟩:=N;simp_all) (by omega)).eq
 have J:=bNa ((i:Int)+1) p;have g:=J;rw[e] at g;refine .ite (fun _=>.ck (by omega) (.ck ⟨by omega,by decide⟩ (.ck (by omega) (.ck (by grind) ?_)))) fun z=>absurd hi z;rw[T];refine(aJJ f g ok).bind fun r L=>?_;subst L;refine .ite (fun z=>absurd z ok.1) fun _=>.ite (fun I=>?_) fun I=>?_
 ·refine(bK0 (s:=s) f I hp J).bind fun q hq=>?_;obtain⟨O,rfl⟩:=hq;exact .ck (by omega) (.ck (by omega) (.ret (by rfl)))
 ·refine(bFT (s:=s) f (Int.not_lt.1 I) hp J).bind fun q hq=>?_;obtain⟨O,rfl⟩:=hq;exact .ck (by omega) (.ck (by omega) (.ret (by rfl)))
theorem bK4{text:List Nat}{i:Nat}{s:TSc}(hi:(i:Int)<((tN text (aQ ⟨#[10]⟩)).length:Int))(I:i<1000000)(z:(tN text (aQ ⟨#[10]⟩)).getD i []= []):Tot (jA none text i i s.1 s.2.1 s.2.2.1 s.2.2.2.1 s.2.2.2.2.1 s.2.2.2.2.2.1 s.2.2.2.2.2.2.1 s.2.2.2.2.2.2.2.1 s.2.2.2.2.2.2.2.2.1 s.2.2.2.2.2.2.2.2.2.1) (fun q=>q= .inl (tup (i:Int) ((i+1:Nat):Int) s)):=by
 unfold jA;rw[show (i:Int).toNat=i from rfl,z];have c1:(wS [] (aQ ⟨#[35]⟩)).1= []:=rfl;rw[c1];have T:=(bCb [] (.inl rfl) xAa).eq;refine .ite (fun _=>.ck (by omega) (.ck ⟨by decide,by decide⟩ (.ck (by omega) (.ck (by rfl) ?_)))) fun f=>absurd hi f;rw[T];refine(aZZ (n:=(i:Int)+1) (S:=[]) ⟨rfl,rfl,Int.le_refl 0,Int.le_refl 0,.inl rfl⟩).bind fun r g=>?_;subst g;exact .ite (fun _=>.ck (by omega) (.ret (by rfl))) fun f=>absurd rfl f
theorem bMA(n:Nat)(Y:7≤n)(s:TSc)(f:eG none s=some s.2.2.2.2.2.2.2.2.2.1)(hm:lL none s=some true):Tot (pH none (n:Int) s.1 s.2.1 s.2.2.1 s.2.2.2.1 s.2.2.2.2.1 s.2.2.2.2.2.1 s.2.2.2.2.2.2.1 s.2.2.2.2.2.2.2.1 s.2.2.2.2.2.2.2.2.1 s.2.2.2.2.2.2.2.2.2.1) (fun x=>x=(s,(0,0,()),0,())):=by
 obtain⟨L,I,U,J,O,N,z,q,x,g,u⟩:=s;have f:eG none (L,I,U,J,O,N,z,q,x,g,())=some g:=f;have hm:lL none (L,I,U,J,O,N,z,q,x,g,())=some true:=hm;unfold pH;simp only[f,hm,Option.getD_some,Option.isSome_some];exact .ck trivial (.ck (fun _=>trivial) (.ite (fun h=>absurd h (by grind)) fun _=>.ret rfl))
theorem bIO(ps:List PL)(Z:7≤ps.length)(hn:ps.length≤900000)(g:okR ps 0 sc0)(N:(jn (ps.map ln)).length≤20000)(O:eG none (aEM sc0 ps)=some (aEM sc0 ps).2.2.2.2.2.2.2.2.2.1)(hm:lL none (aEM sc0 ps)=some true):gV none (jn (ps.map ln))=some (aEM sc0 ps,(0,0,()),0,()):=by
 refine Tot.eq ?_;have hw:∀i (hi:i<ps.length),Wk (ln ps[i]):=fun i hi=>bLx (aZ4 g i hi);have Y:tN (jn (ps.map ln)) (aQ ⟨#[10]⟩)=ps.map ln++ [[]]:=aZ2 _ _ (bDu _) fun w J b hb=>by
  obtain⟨p,hp,rfl⟩:=List.mem_map.1 J;obtain⟨i,hi,rfl⟩:=List.mem_iff_getElem.1 hp;exact((hw i hi).1 b hb).2
 have z:∀p∈ps,(ln p).length≤20000:=by
  intro p hp;have key:∀(I:List qc) (w:List Nat),w∈I→w.length≤(jn I).length:=fun I w=>by
   induction I with
   | nil=>simp_all
   | cons x r ih =>
    intro h;have e:jn (x::r)=x++10::jn r:=(by simp[jn]);grind
  grind[Nat.le_trans,List.mem_map_of_mem]
 have hL:(tN (jn (ps.map ln)) (aQ ⟨#[10]⟩)).length=ps.length+1:=by simp_all
 unfold gV;refine .ite (fun h=>absurd h (by omega)) fun _=>.ck ⟨by omega,by decide⟩ ?_;refine Tot.bind (P:=fun q=>q= .inl (bNQ (ps.length:Int) (aEM sc0 ps))) (Tot.loop (fun d=>(∃i:Nat,i≤ps.length∧d=tup i i (aEM sc0 (ps.take i)))∨d=tup (ps.length:Int) ((ps.length+1:Nat):Int) (aEM sc0 ps)) (fun d=>(((ps.length+1:Nat):Int)-d.2.1).toNat) ?_ (.inl ⟨0,Nat.zero_le _,rfl⟩)) fun q hq=>?_
 ·rintro d (⟨i,hi,rfl⟩|rfl)
  ·rcases Nat.lt_or_ge i ps.length with f|U
   ·have L:(tN (jn (ps.map ln)) (aQ ⟨#[10]⟩)).getD i []=ln ps[i]:=by
     grind
    have hp:=aZ4 g i f;rw[Int.zero_add] at hp;refine(bK3 (s:=aEM sc0 (ps.take i)) (by omega) (by omega) L hp (Nat.le_trans (z _ (List.getElem_mem f)) xAa)).mono fun q hq=>?_;subst hq;refine⟨.inl ⟨i+1,f,by grind[bIN]⟩,?_⟩;show (((ps.length+1:Nat):Int)-((i+1:Nat):Int)).toNat<(((ps.length+1:Nat):Int)-(i:Int)).toNat;omega
   ·obtain rfl:i=ps.length:=(by omega);have L:(tN (jn (ps.map ln)) (aQ ⟨#[10]⟩)).getD ps.length []= []:=by
     simp_all
    refine(bK4 (s:=aEM sc0 (ps.take ps.length)) (by omega) (by omega) L).mono fun q hq=>?_;subst hq;rw[List.take_length];refine⟨.inr rfl,?_⟩;show (((ps.length+1:Nat):Int)-((ps.length+1:Nat):Int)).toNat<(((ps.length+1:Nat):Int)-(ps.length:Int)).toNat;omega
  ·show Tot (jA none _ _ _ _ _ _ _ _ _ _ _ _ _) _;unfold jA;refine .ite (fun h=>absurd h ?_) fun _=>.ret rfl;show ¬((ps.length+1:Nat):Int)<_;omega
 ·subst hq;exact bMA ps.length Z _ O hm
end Nu
end Go.Proofs

