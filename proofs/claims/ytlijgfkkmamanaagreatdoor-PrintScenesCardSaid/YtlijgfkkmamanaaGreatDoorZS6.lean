import Derived.Test.YtlijgfkkmamanaaGreatDoorZS5
import Derived.Test.YtlijgfkkmamanaaGreatDoorZS2
import Derived.Test.YtlijgfkkmamanaaGreatDoorZS3
import Derived.Test.YtlijgfkkmamanaaGreatDoorZS4
set_option linter.unusedVariables false
set_option linter.unusedSimpArgs false
namespace Go.Proofs
open Go.Vc
set_option maxRecDepth 20000
namespace Nu
def Tx(s:List Nat)(p:Nat)(x r:List Nat):Prop:=p≤s.length∧s.drop p=x++r
theorem Tx.len{s x r:List Nat}{p:Nat}(h:Tx s p x r):s.length=p+x.length+r.length:=by
 have:=congrArg List.length h.2;rw[List.length_drop,List.length_append] at this;have:=h.1;omega
theorem Tx.get{s x r:List Nat}{p:Nat}(h:Tx s p x r)(j:Nat):s.getD (p+j) 0=(x++r).getD j 0:=by
 rw[← h.2];simp_all
theorem Tx.app{s x y r:List Nat}{p:Nat}(h:Tx s p (x++y) r):Tx s p x (y++r)∧Tx s (p+x.length) y r:=by
 have f:=h.len;rw[List.length_append] at f;refine⟨⟨h.1,by rw[h.2,List.append_assoc]⟩,⟨by omega,?_⟩⟩;rw[← List.drop_drop,h.2,List.append_assoc,List.drop_left]
theorem Tx.head{s x r:List Nat}{p c:Nat}(h:Tx s p (c::x) r):p<s.length∧s.getD p 0=c:=by
 have f:=h.len;have:=h.get 0;grind
theorem Tx.run{s x r:List Nat}{p:Nat}{q:Nat→Bool}(h:Tx s p x r):run q s p=((x++r).takeWhile q).length:=by
 unfold Nu.run; rw[h.2]
theorem aDM{s:List Nat}{p:Nat}(h:p<s.length→s.getD p 0≠32):skp s p=p:=by
 grind[skp,aUg,aZ1,beq_eq_false_iff_ne]
theorem aUi{s:List Nat}{p:Nat}(h:p<s.length)(f:s.getD p 0=32):skp s p=skp s (p+1):=by
 unfold skp;rw[aWp h (by rw[f]; rfl)];omega
theorem bEF(s:List Nat)(p:Nat):skp s (skp s p)=skp s p:=by
 refine aDM fun L g=>?_;have hd:aZ1 (s.getD (skp s p) 0)=true:=by rw[g]; rfl
 have f:∀k p,k=s.length-p→skp s p<s.length→aZ1 (s.getD (skp s p) 0)=true→False:=by
  intro k
  induction k with
  | zero=>grind[skp]
  | succ k q =>
   intro p z J I;by_cases hb:aZ1 (s.getD p 0)=true
   ·have e:skp s p=skp s (p+1):=(by grind[skp,aWp]);grind
   grind[skp,aUg]
 grind
theorem bEG{one:Nat→Option PR}{s:List Nat}{a b:Nat}{ka kb:Int}(f:Nat)(e:Ex){p q:Nat}(h:skp s p=skp s q):aE8 one s a b ka kb f e p=aE8 one s a b ka kb f e q:=by
 cases f with
 | zero=>rfl
 | succ f=>grind[aE8]
theorem aUj{one:Nat→Option PR}{s:List Nat}{a b:Nat}{ka kb:Int}(f:Nat)(e:Ex){p:Nat}(h:¬aMf s [a,b] (skp s p)):aE8 one s a b ka kb (f+1) e p=some (.inl (e,skp s p)):=by
 rw[aE8,if_neg h]
theorem row_one{one:Nat→Option PR}{s:List Nat}{a b:Nat}{ka kb:Int}(f:Nat)(e r:Ex){p q c:Nat}{k:Int}(J:skp s p<s.length)(g:s.getD (skp s p) 0=c)(hc:c=a∨c=b)(I:(if c=a then ka else kb)=k)(z:one (skp s p+1)=some (.inl (r,q))) :
  aE8 one s a b ka kb (f+1) e p=aE8 one s a b ka kb f (Ex.mk k [] [e,r]) q:=by
 rw[aE8,if_pos ⟨J,by simp_all⟩,z,g,I];rfl
def Bd:List Nat→Prop
 | []=>True
 | c::_=>c=32∨c=41
def aWq(t:List Nat):Prop:=(∃c r,t=c::r∧aKn c=true)∧(∀c∈t,iE c=true)∧bDl t=none
def bId(t:List Nat):Prop:=t.length≤60∧(∃c r,t=c::r∧oR c=true)∧ ∀s p r,Tx s p t r→Bd r→aCp s p=t.length
inductive W:Nat→Ex→Prop
 | num (n:Nat) (t:List Nat):bId t→W (n+1) (Ex.mk 1 t [])
 | name (n:Nat) (t:List Nat):aWq t→W (n+1) (Ex.mk 2 t [])
 | two (n:Nat) (k:Int) (a b:Ex):6≤k→k≤9→W n a→W n b→W (n+1) (Ex.mk k [] [a,b])
 | neg (n:Nat) (a:Ex):W n a→W (n+1) (Ex.mk 10 [] [a])
 | fn (n:Nat) (k:Int) (a:Ex):11≤k→k≤13→W n a→W (n+1) (Ex.mk k [] [a])
def par(b:Prop)[Decidable b](t:List Nat):List Nat:=if b then [40]++(t++ [41]) else t
abbrev nC(e:Ex):Prop:=e.kind=6∨e.kind=7
abbrev qH(e:Ex):Prop:=6≤e.kind∧e.kind≤9
abbrev kid(e:Ex)(i:Nat):Ex:=e.l.getD i (Ex.mk 0 [] [])
def fnT(k:Int):List Nat:=if k=11 then [115,113,114] else if k=12 then [115,113,114,116] else [101,120,112]
def sgT(k:Int):Nat:=if k=6 then 43 else if k=7 then 45 else if k=8 then 42 else 47
def tx:Nat→Ex→List Nat
 | 0,_=>[]
 | n+1,e =>
  if e.kind=6∨e.kind=7 then tx n (kid e 0)++([32,sgT e.kind,32]++par (nC (kid e 1)) (tx n (kid e 1)))
  else if e.kind=8∨e.kind=9 then par (nC (kid e 0)) (tx n (kid e 0))++([32,sgT e.kind,32]++par (qH (kid e 1)) (tx n (kid e 1)))
  else if e.kind=10 then [45]++par (qH (kid e 0)) (tx n (kid e 0))
  else if 11≤e.kind∧e.kind≤13 then fnT e.kind++par True (tx n (kid e 0))
  else e.text
theorem aR2{n:Nat}{k:Int}{a b:Ex}(h:k=6∨k=7):tx (n+1) (Ex.mk k [] [a,b])=tx n a++([32,sgT k,32]++par (nC b) (tx n b)):=by
 rw[tx]; exact ify h rfl
theorem aMC{n:Nat}{k:Int}{a b:Ex}(h:k=8∨k=9):tx (n+1) (Ex.mk k [] [a,b])=par (nC a) (tx n a)++([32,sgT k,32]++par (qH b) (tx n b)):=by
 rw[tx]; exact ifn (by grind[Ex.kind]) (ify h rfl)
theorem bDm{n:Nat}{a:Ex}:tx (n+1) (Ex.mk 10 [] [a])= [45]++par (qH a) (tx n a):=rfl
theorem bEH{n:Nat}{k:Int}{a:Ex}(g:11≤k)(f:k≤13):tx (n+1) (Ex.mk k [] [a])=fnT k++par True (tx n a):=by
 rw[tx]; exact ifn (by grind[Ex.kind]) (ifn (by grind[Ex.kind]) (ifn (by grind[Ex.kind]) (ify ⟨g,f⟩ rfl)))
theorem aQn{b:Prop}[Decidable b]{t:List Nat}(h:∃c r,t=c::r∧c≠32)(u:List Nat):∃c r,par b t++u=c::r∧c≠32:=by
 obtain⟨c,r,rfl,hc⟩:=h;unfold par;split
 all_goals simp_all
theorem aMD:∀ {n:Nat} {e:Ex},W n e→ ∃c r,tx n e=c::r∧c≠32:=by
 intro n e h
 induction h with
 | num n t h=>obtain⟨_,⟨c,r,rfl,hc⟩,_⟩:=h; exact⟨c,r,rfl,fun e=>by subst e; cases hc⟩
 | name n t h=>obtain⟨⟨c,r,rfl,hc⟩,_⟩:=h; exact⟨c,r,rfl,fun e=>by subst e; cases hc⟩
 | two n k a b z q g hb f J =>
  by_cases I:k=6∨k=7
  ·rw[aR2 I];grind
  ·rw[aMC (by omega)];exact aQn f _
 | neg n a g f=>exact⟨45,_,rfl,by decide⟩
 | fn n k a z q g f =>
  rw[bEH z q];unfold fnT;grind
def so:Nat→Ex→Nat
 | 0,_=>0
 | n+1,e=>if e.kind=6∨e.kind=7 then so n (kid e 0)+1 else 0
def po:Nat→Ex→Nat
 | 0,_=>0
 | n+1,e=>if e.kind=8∨e.kind=9 then (if nC (kid e 0) then 0 else po n (kid e 0))+1 else 0
theorem bIe:∀n e,so n e≤(tx n e).length
 | 0,_=>Nat.le_refl _
 | n+1,e=>by
  have:=bIe n (kid e 0);grind[so,tx,List.length_append,List.length_cons]
theorem bK7:∀n e,po n e≤(tx n e).length
 | 0,_=>Nat.le_refl _
 | n+1,e=>by
  have:=bK7 n (kid e 0);rw[po,tx];split
  ·rename_i h;have f:¬(e.kind=6∨e.kind=7):=(by omega);rw[if_neg f];simp only[List.length_append,List.length_cons];split
   ·omega
   ·rename_i g;rw[par,if_neg g]; omega
  ·omega
def bB1(s:List Nat)(q:Nat):Prop:=¬aMf s [42,47] (skp s q)
structure Rd(s:List Nat)(k p n:Nat)(e:Ex)(p0:Nat):Prop where
 S:bB1 s (p0+(tx n e).length)→ ∀f,aEU (aNG (yJ s k) s p) (aE8 (aNG (yJ s k) s) s 43 45 6 7 (f+so n e))=aE8 (aNG (yJ s k) s) s 43 45 6 7 f e (p0+(tx n e).length)
 P:¬nC e→ ∀f,aEU (yJ s k p) (aE8 (yJ s k) s 42 47 8 9 (f+po n e))=aE8 (yJ s k) s 42 47 8 9 f e (p0+(tx n e).length)
 F:¬qH e→yJ s k p=some (.inl (e,p0+(tx n e).length))
def bB2(n:Nat):Prop:=∀e,W n e→ ∀s k p p0 r,2*n≤k+1→skp s p=p0→Tx s p0 (tx n e) r→Bd r→Rd s k p n e p0
section
variable {s:List Nat} {k p n p0:Nat} {e:Ex} {r:List Nat}
theorem bEI(g:Tx s p0 (tx n e) r)(hP:∀f,aEU (yJ s k p) (aE8 (yJ s k) s 42 47 8 9 (f+po n e))=aE8 (yJ s k) s 42 47 8 9 f e (p0+(tx n e).length))(hm:bB1 s (p0+(tx n e).length)) :
  aNG (yJ s k) s p=some (.inl (e,skp s (p0+(tx n e).length))):=by
 have q:=g.len;have hp:=bK7 n e;have:=hP (s.length-po n e+1);rw[show s.length-po n e+1+po n e=s.length+1 from by omega] at this;unfold aNG;rw[this,aUj _ _ hm]
theorem Rd.ofP(q:Tx s p0 (tx n e) r)(hs:so n e=0)(hP:¬nC e→ ∀f,aEU (yJ s k p) (aE8 (yJ s k) s 42 47 8 9 (f+po n e))=aE8 (yJ s k) s 42 47 8 9 f e (p0+(tx n e).length))
  (g:¬nC e) (hF:¬qH e→yJ s k p=some (.inl (e,p0+(tx n e).length))):Rd s k p n e p0 where
 S hm f:=by
  rw[bEI q (hP g) hm,hs];exact bEG _ _ (bEF _ _)
 P:=hP
 F:=hF
theorem Rd.ofF(g:Tx s p0 (tx n e) r)(hs:so n e=0)(hp:po n e=0)(q:¬qH e)(hF:yJ s k p=some (.inl (e,p0+(tx n e).length))):Rd s k p n e p0 :=
 Rd.ofP g hs (fun _ f=>by rw[hF,hp]; rfl) (fun h=>q (by omega)) (fun _=>hF)
theorem bB3(t:List Nat):par True t= [40]++(t++ [41]):=if_pos trivial
theorem bK8(I:bB2 n)(q:W n e)(J:2*n≤k+1)(hp:skp s p=p0)(g:Tx s p0 (par True (tx n e)) r):pIn (yJ s k) s p=some (.inl (e,p0+(par True (tx n e)).length)):=by
 rw[bB3] at g;obtain⟨h1,U⟩:=g.app;obtain⟨z,Y⟩:=U.app;obtain⟨c,u,hc,Z⟩:=aMD q;have N:=g.head;have hl:=g.len;have hh:skp s (p0+1)=p0+1:=aDM fun _=>by
  have:=z.get 0;simp_all
 have L:=Y.head;have rd:=I e q s k (p0+1) (p0+1) ([41]++r) J hh z (.inr rfl);have hq:skp s (p0+1+(tx n e).length)=p0+1+(tx n e).length:=aDM fun _=>by
  grind
 have hm:bB1 s (p0+1+(tx n e).length):=by
  unfold bB1;rw[hq];rintro⟨_,h⟩;grind
 have O:=bIe n e;have f:bDk (yJ s k) s (p0+1)=some (.inl (e,p0+1+(tx n e).length)):=by
  unfold bDk;have:=rd.S hm (s.length-so n e+1);rw[show s.length-so n e+1+so n e=s.length+1 from by omega] at this;rw[this,aUj,hq];rw[hq];rintro⟨_,h⟩;grind
 unfold pIn;rw[hp,if_pos ⟨N.1,by grind⟩,f];show (if aMf s [41] (skp s (p0+1+(tx n e).length)) then _ else _)=_;rw[hq,if_pos ⟨L.1,by
  grind⟩,bB3]
 grind
theorem bIf(J:bB2 n)(N:W n e)(L:2*n≤k)(I:1≤k)(hp:skp s p=p0)(q:Tx s p0 (par True (tx n e)) r):yJ s k p=some (.inl (e,p0+(par True (tx n e)).length)):=by
 obtain⟨k,rfl⟩:∃j,k=j+1:=⟨k-1,by omega⟩;have f:=q;rw[bB3] at f;have z:=f.head;have g:skp s p0=p0:=aDM fun _=>by omega
 rw[yJ,hp,if_neg (fun h=>by have:=h.2; grind),aYl,if_neg (by omega),if_pos z.2];grind[bK8]
theorem bIg(g:bB2 n)(q:W n e)(I:2*n≤k)(z:1≤k)(hp:skp s p=p0){c:Prop}[Decidable c](hc:¬c→ ¬qH e)(f:Tx s p0 (par c (tx n e)) r)(hb:Bd r):yJ s k p=some (.inl (e,p0+(par c (tx n e)).length)):=by
 by_cases h:c
 ·have e1:par c (tx n e)=par True (tx n e):=by simp_all
  grind[bIf]
 ·have e1:par c (tx n e)=tx n e:=if_neg h;rw[e1] at f ⊢;exact(g e q s k p p0 r (by omega) hp f hb).F (hc h)
theorem bIh(q:bB2 n)(z:W n e)(I:2*n≤k)(g:1≤k)(hp:skp s p=p0)(f:Tx s p0 (par (nC e) (tx n e)) r)(hb:Bd r)(hm:bB1 s (p0+(par (nC e) (tx n e)).length)) :
  aNG (yJ s k) s p=some (.inl (e,skp s (p0+(par (nC e) (tx n e)).length))):=by
 by_cases h:nC e
 ·have e1:par (nC e) (tx n e)=par True (tx n e):=by simp_all
  rw[e1] at f hm ⊢;unfold aNG;rw[bIf q z I g hp f];exact aUj _ _ hm
 ·have e1:par (nC e) (tx n e)=tx n e:=if_neg h;rw[e1] at f hm ⊢;exact bEI f ((q e z s k p p0 r (by omega) hp f hb).P h) hm
end
theorem W.pos{n:Nat}{e:Ex}(h:W n e):1≤n:=by cases h<;>omega
theorem bL3{n:Nat}{e:Ex}(h:¬(6≤e.kind∧e.kind≤9)):so n e=0∧po n e=0:=by
 cases n with
 | zero=>exact⟨rfl,rfl⟩
 | succ n=>exact⟨if_neg (by omega),if_neg (by omega)⟩
theorem bIi:∀n,bB2 n
 | 0=>fun e hw=>by cases hw
 | n+1=>fun e hw s k p p0 r hk hp g hb=>by
  have ih:=bIi n;obtain⟨k,rfl⟩:∃j,k=j+1:=⟨k-1,by omega⟩;have hl:=g.len;cases hw with
  | num _ t ht =>
   obtain⟨h60,⟨c,u,rfl,hc⟩,hlong⟩:=ht;have htx:tx (n+1) (Ex.mk 1 (c::u) [])=c::u:=rfl;refine Rd.ofF g rfl rfl (fun h=>absurd h.1 (by show ¬(6:Int)≤1; decide)) ?_;rw[htx] at g ⊢;have a1:=g.head;have hlo:=hlong s p0 r g hb;have hd:p0+(c::u).length≤s.length:=(by simp_all);have hne:aKn c=false:=by
    simp only[oR,decide_eq_true_eq] at hc;grind[aKn,decide_eq_false_iff_not]
   have hc':48≤c∧c≤57:=(by grind[oR]);rw[yJ,hp,if_neg (fun h=>by have:=h.2; grind),aYl,if_neg (by omega),if_neg (by omega),if_neg (by grind),bKl,hlo,if_neg (by simp_all)];have:(s.drop p0).take (c::u).length=c::u:=(by rw[g.2,List.take_left]);rw[this]
  | name _ t ht =>
   obtain⟨⟨c,u,rfl,hc⟩,hall,hfn⟩:=ht;have htx:tx (n+1) (Ex.mk 2 (c::u) [])=c::u:=rfl;refine Rd.ofF g rfl rfl (fun h=>absurd h.1 (by show ¬(6:Int)≤2; decide)) ?_;rw[htx] at g ⊢;have a1:=g.head;have I:Nu.run iE s p0=(c::u).length:=by
    rw[g.run];have:((c::u)++r).takeWhile iE=c::u:=by
     rw[List.takeWhile_append_of_pos hall];cases r with
     | nil=>simp
     | cons d v =>
      have hd:iE d=false:=by
       rcases hb with rfl|rfl<;>decide
      simp_all
    rw[this]
   have hw:aHW s p0=c::u:=(by unfold aHW; rw[I,g.2,List.take_left]);have hc':97≤c∧c≤122:=(by grind[aKn]);rw[yJ,hp,if_neg (fun h=>by have:=h.2; grind),aYl,if_neg (by omega),if_neg (by omega),if_pos (by grind),bEC,hw,hfn,I]
  | two _ kd a b h1 h2 Y hb' =>
   have hn1:=Y.pos;by_cases hs:kd=6∨kd=7
   ·rw[aR2 hs] at g;have hlt:tx (n+1) (Ex.mk kd [] [a,b])=tx n a++([32,sgT kd,32]++par (nC b) (tx n b)):=aR2 hs;obtain⟨L,t2⟩:=g.app;obtain⟨t3,t4⟩:=t2.app;have g0:=t3.head;have g1:=t3.get 1;have g2:=t3.get 2;have hl3:=t3.len;have hsg:sgT kd=43∨sgT kd=45:=(by rcases hs with rfl|rfl<;>decide);have q:skp s (p0+(tx n a).length)=p0+(tx n a).length+1:=by
     grind[aUi,aDM,tx,sgT]
    have hc:s.getD (p0+(tx n a).length+1) 0=sgT kd:=(by simp_all);have hc2:s.getD (p0+(tx n a).length+2) 0=32:=(by simp_all);have hlt1:p0+(tx n a).length+3≤s.length:=by
     grind
    have rda:=ih a Y s (k+1) p p0 ([32,sgT kd,32]++par (nC b) (tx n b)++r) (by omega) hp L (.inl rfl);have hma:bB1 s (p0+(tx n a).length):=by
     unfold bB1;rw[q];rintro⟨_,h⟩;grind
    have Z:Tx s (p0+(tx n a).length+3) (par (nC b) (tx n b)) r:=t4;obtain⟨cb,ub,z,hcb2⟩:=aQn (b:=nC b) (aMD hb') [];rw[List.append_nil] at z;have U:skp s (p0+(tx n a).length+1+1)=p0+(tx n a).length+3:=by
     rw[aUi (by omega) hc2];exact aDM fun _=>by
      have:=Z;rw[z] at this;rw[this.head.2]; omega
    have N:(tx (n+1) (Ex.mk kd [] [a,b])).length=(tx n a).length+3+(par (nC b) (tx n b)).length:=by
     grind
    refine⟨fun hm f=>?_,fun h=>absurd hs h,fun h=>absurd ⟨h1,h2⟩ h⟩;rw[N] at hm ⊢;have hm':bB1 s (p0+(tx n a).length+3+(par (nC b) (tx n b)).length):=by
     grind
    have hso:so (n+1) (Ex.mk kd [] [a,b])=so n a+1:=if_pos hs;have step:=rda.S hma (f+1);rw[hso,show f+(so n a+1)=f+1+so n a from by omega,step];rw[row_one (k:=kd) (c:=sgT kd) f a b (by omega) (by simp_all) hsg (by rcases hs with rfl|rfl<;>rfl) (by rw[q]; exact bIh ih hb' (by omega) (by omega) U Z hb hm')];grind[bEG,bEF]
   ·have hs2:kd=8∨kd=9:=(by omega);rw[aMC hs2] at g;have hlt:tx (n+1) (Ex.mk kd [] [a,b])=par (nC a) (tx n a)++([32,sgT kd,32]++par (qH b) (tx n b)):=aMC hs2;obtain⟨L,t2⟩:=g.app;obtain⟨t3,t4⟩:=t2.app;generalize hA:(par (nC a) (tx n a)).length=J at *;have g0:=t3.head;have g1:=t3.get 1;have g2:=t3.get 2;have hl3:=t3.len;have hsg:sgT kd=42∨sgT kd=47:=(by rcases hs2 with rfl|rfl<;>decide);have hc:s.getD (p0+J+1) 0=sgT kd:=(by simp_all);have hc2:s.getD (p0+J+2) 0=32:=(by simp_all);have q:skp s (p0+J)=p0+J+1:=by
     grind[aUi,aDM]
    have hlt1:p0+J+3≤s.length:=by
     grind
    have Z:Tx s (p0+J+3) (par (qH b) (tx n b)) r:=t4;obtain⟨cb,ub,z,hcb2⟩:=aQn (b:=qH b) (aMD hb') [];rw[List.append_nil] at z;have U:skp s (p0+J+1+1)=p0+J+3:=by
     rw[aUi (by omega) hc2];exact aDM fun _=>by
      have:=Z;rw[z] at this;rw[this.head.2]; omega
    have N:(tx (n+1) (Ex.mk kd [] [a,b])).length=J+3+(par (qH b) (tx n b)).length:=by
     grind
    have hT':Tx s p0 (tx (n+1) (Ex.mk kd [] [a,b])) r:=(by simp_all);have hns:¬nC (Ex.mk kd [] [a,b]):=hs;refine Rd.ofP hT' (if_neg hs) (fun _ f=>?_) hns (fun h=>absurd ⟨h1,h2⟩ h);rw[N];have hb2:yJ s (k+1) (p0+J+1+1)=some (.inl (b,p0+J+3+(par (qH b) (tx n b)).length)):=bIg ih hb' (by omega) (by omega) U (fun h=>h) Z hb;have hpo:po (n+1) (Ex.mk kd [] [a,b])=(if nC a then 0 else po n a)+1:=if_pos hs2;have hfirst:∀f,aEU (yJ s (k+1) p) (aE8 (yJ s (k+1)) s 42 47 8 9 (f+(if nC a then 0 else po n a)))=aE8 (yJ s (k+1)) s 42 47 8 9 f a (p0+J):=fun f=>by
     by_cases ha2:nC a
     ·have e1:par (nC a) (tx n a)=par True (tx n a):=(by simp_all);rw[e1] at L hA;rw[bIf ih Y (by omega) (by omega) hp L,if_pos ha2,hA];rfl
     ·have e1:par (nC a) (tx n a)=tx n a:=if_neg ha2;rw[e1] at L hA;have:=(ih a Y s (k+1) p p0 ([32,sgT kd,32]++par (qH b) (tx n b)++r) (by omega) hp L (.inl rfl)).P ha2 f;grind
    rw[hpo,show f+((if nC a then 0 else po n a)+1)=f+1+(if nC a then 0 else po n a) from by omega,hfirst (f+1)];rw[row_one (k:=kd) (c:=sgT kd) f a b (by omega) (by simp_all) hsg (by rcases hs2 with rfl|rfl<;>rfl) (by rw[q]; exact hb2)];grind
  | neg _ a Y =>
   have hn1:=Y.pos;refine Rd.ofF g rfl rfl (fun h=>absurd h.2 (by show ¬(10:Int)≤9; decide)) ?_;rw[bDm] at g ⊢;have a1:=g.head;obtain⟨L,t2⟩:=g.app;have O:Tx s (p0+1) (par (qH a) (tx n a)) r:=t2;obtain⟨cb,ub,z,hcb2⟩:=aQn (b:=qH a) (aMD Y) [];rw[List.append_nil] at z;have q:skp s (p0+1)=p0+1:=aDM fun _=>by
    have:=O;rw[z] at this;rw[this.head.2]; omega
   rw[yJ,hp,if_pos ⟨a1.1,by grind⟩,bIg ih Y (by omega) (by omega) q (fun h=>h) O hb];show some (Sum.inl (Ex.mk 10 [] [a],p0+1+(par (qH a) (tx n a)).length))=_;grind
  | fn _ kd a h1 h2 Y =>
   have hn1:=Y.pos;have hnf:¬qH (Ex.mk kd [] [a]):=fun h=>(by have h:6≤kd∧kd≤9:=h; omega);obtain⟨q1,q2⟩:=bL3 (n:=n+1) hnf;refine Rd.ofF g q1 q2 hnf ?_;rw[bEH h1 h2] at g ⊢;obtain⟨L,t2⟩:=g.app;have O:=t2;rw[bB3] at O;have b1:=O.head;have hfn:bDl (fnT kd)=some kd∧(∀c∈fnT kd,iE c=true)∧ ∃c u,fnT kd=c::u∧aKn c=true:=by
    obtain rfl|rfl|rfl:kd=11∨kd=12∨kd=13:=by omega
    ·exact⟨rfl,by decide,115,[113,114],rfl,rfl⟩
    ·exact⟨rfl,by decide,115,[113,114,116],rfl,rfl⟩
    ·exact⟨rfl,by decide,101,[120,112],rfl,rfl⟩
   obtain⟨f1,f2,c,u,f3,f4⟩:=hfn;have a1:p0<s.length∧s.getD p0 0=c:=(by rw[f3] at L; exact L.head);have I:Nu.run iE s p0=(fnT kd).length:=by
    rw[L.run,List.takeWhile_append_of_pos f2,bB3];have:(([40]++(tx n a++ [41]))++r).takeWhile iE= []:=by
     rfl
    simp_all
   have hw:aHW s p0=fnT kd:=(by unfold aHW; rw[I,L.2,List.take_left]);have hc':97≤c∧c≤122:=(by grind[aKn]);have q:skp s (p0+(fnT kd).length)=p0+(fnT kd).length:=aDM fun _=>(by omega);rw[yJ,hp,if_neg (fun h=>by have:=h.2; grind),aYl,if_neg (by omega),if_neg (by omega),if_pos (by grind),bEC,hw,f1,I];show aEU (pIn (yJ s k) s (p0+(fnT kd).length)) _=_;rw[bK8 ih Y (by omega) q t2];show some (Sum.inl (Ex.mk kd [] [a],p0+(fnT kd).length+(par True (tx n a)).length))=_;grind
theorem back_eq{n k:Nat}{e:Ex}(g:W n e)(N:2*n≤k+1):bDk (yJ (tx n e) k) (tx n e) 0=some (.inl (e,(tx n e).length)):=by
 obtain⟨c,u,hc,L⟩:=aMD g;have z:Tx (tx n e) 0 (tx n e) []:=⟨Nat.zero_le _,by simp⟩;have I:skp (tx n e) 0=0:=aDM fun _=>by simp_all
 have rd:=bIi n e g (tx n e) k 0 0 [] (by omega) I z trivial;have q:skp (tx n e) (0+(tx n e).length)=(tx n e).length:=by
  simp_all[Nat.zero_add,aDM,absurd,Nat.lt_irrefl]
 have f:∀l,¬aMf (tx n e) l (skp (tx n e) (0+(tx n e).length)):=fun l h=>by
  have:=h.1; omega
 have:=rd.S (f _) ((tx n e).length-so n e+1);have J:=bIe n e;grind[tx,so,bDk,aUj]
end Nu
end Go.Proofs
namespace Go.Proofs
open Go.Vc
set_option maxRecDepth 20000
namespace Nu
def gk:Nat→Ex→Bool
 | 0,_=>true
 | n+1,e=>decide (prt e.kind=(e.l.length:Int))&&e.l.all (gk n)
theorem bIj{f:Ex→Bool}{l:List Ex}{k:Nat}(h:k<l.length):(l.take (k+1)).all f=((l.take k).all f&&f (l.getD k (Ex.mk 0 [] []))):=by
 rw[aUe h,List.all_append]; simp
theorem sC{α:Type}(z:α){l:List α}{k:Nat}(h:k<l.length):l.take (k+1)=l.take k++ [l.getD k z]:=by
 simp_all
theorem aBG{α:Type}(z:α){l:List α}{k:Nat}(h:k<l.length):l.getD k z∈l:=by
 simp_all
theorem bIk(l:List qd)(v:List Nat)(L:l.length≤1000):∃r:Int,lJ none l v=some r∧((0:Int)≤r↔v∈l):=by
 obtain⟨e,J,f⟩:=mC (step:=fun d:Int=>gE none l v d) (I:=fun d=>∃j:Nat,d=(j:Int)∧j≤l.length∧v∉l.take j) (fun d=>((l.length:Int)-d).toNat)
  (fun e=>(e= .inl ()∧v∉l)∨ ∃j:Nat,e= .inr (j:Int)∧v∈l)
  (by
   rintro d ⟨j,rfl,z,g⟩;show (∃d',gE none l v (j:Int)=_∧_)∨ ∃e,gE none l v (j:Int)=_∧_;unfold gE;by_cases q:j<l.length
   ·rw[if_pos (by omega),Int.toNat_natCast];by_cases hv:v=l.getD j []
    ·right
     exact⟨_,aE (by omega) (if_pos hv),.inr ⟨j,rfl,by simp_all⟩⟩
    ·left
     refine⟨((j+1:Nat):Int),aE (by omega) ((if_neg hv).trans (aE (by omega) rfl)),⟨j+1,rfl,by omega,?_⟩,by omega⟩;rw[sC [] q,List.mem_append];rintro (h|h)
     ·exact g h
     ·exact hv (List.mem_singleton.1 h)
   grind) (0:Int) ⟨0,rfl,by omega,by simp⟩
 unfold lJ;rcases f with⟨rfl,h⟩|⟨j,rfl,h⟩
 all_goals simp_all
theorem contains_eq(l:List qd)(v:List Nat)(f:l.length≤1000):eO none l v=some (decide (v∈l)):=by
 obtain⟨r,q,g⟩:=bIk l v f;simp_all[eO,bA,congrArg,decide_eq_decide]
def fm(s:List Nat):Bool:=(rD s).2.2.1
theorem aZ4(s:List Nat)(hs:s.length≤9223372036854775807):tH none s=some (fm s):=by
 unfold tH;exact bA (bDh s (by omega)) rfl
def lvs(names:List qd):Nat→Ex→Bool
 | 0,_=>true
 | n+1,e=>if e.kind=1 then fm e.text else if e.kind=2 then (decide (e.text=aR ⟨#[116]⟩)||decide (e.text∈names)) else (decide (e.text=aR ⟨#[]⟩)&&e.l.all (lvs names n))
theorem bKp(p q:Ex→Bool):∀l:List Ex,l.all (fun x=>p x&&q x)=(l.all p&&l.all q)
 | []=>rfl
 | x::r=>by
  grind
theorem aZ5{b:Ex→Bool}{l:List Ex}{j:Nat}(f:j<l.length)(h:b (l.getD j (Ex.mk 0 [] []))=false):l.all b=false:=by
 grind
theorem bIl(g:Ex→List qd→Option Bool)(names:List qd)(b:Ex→Bool)(l:List Ex)(U:l.length≤1000)(J:∀x∈l,g x names=some (b x)) :
  bV none g l (names,())=some (!(l.all b)):=by
 obtain⟨e,O,z⟩:=mC (step:=fun d:Int=>bU none g l (names,()) d) (I:=fun d=>∃j:Nat,d=(j:Int)∧j≤l.length∧(l.take j).all b=true) (fun d=>((l.length:Int)-d).toNat)
  (fun e=>(e= .inl ()∧l.all b=true)∨ ∃j:Nat,e= .inr (j:Int)∧l.all b=false)
  (by
   rintro d ⟨j,rfl,L,N⟩;show (∃d',bU none g l (names,()) (j:Int)=_∧_)∨ ∃e,bU none g l (names,()) (j:Int)=_∧_;unfold bU aAg;by_cases q:j<l.length
   ·rw[if_pos (by omega),Int.toNat_natCast];have f:=J _ (aWo q);cases hb:b (l.getD j (Ex.mk 0 [] [])) with
    | false =>
     right
     rw[hb] at f;exact⟨_,aE (by omega) (bA (bA f rfl) (if_pos rfl)),.inr ⟨j,rfl,aZ5 q hb⟩⟩
    | true =>
     left
     rw[hb] at f;refine⟨((j+1:Nat):Int),aE (by omega) (bA (bA f rfl) ((if_neg xAa).trans (aE (by omega) rfl))),⟨j+1,rfl,by omega,?_⟩,by omega⟩;grind[bIj]
   grind) (0:Int) ⟨0,rfl,by omega,by simp⟩
 unfold bV cY;rcases z with⟨rfl,h⟩|⟨j,rfl,h⟩
 all_goals simp_all
theorem aZ6(names:List qd)(f:names.length≤1000):∀(n k:Nat) (e:Ex),n≤k→fits n e→xI none k e names=some (gk n e&&lvs names n e)
 | 0,k,e,N,J=>J.elim
 | n+1,0,e,N,J=>absurd N (by omega)
 | n+1,k+1,e,N,J=>by
  obtain⟨Y,U,O⟩:=J;have q:gk (n+1) e=(decide (prt e.kind=(e.l.length:Int))&&e.l.all (gk n)):=rfl;have g:lvs names (n+1) e=if e.kind=1 then fm e.text else if e.kind=2 then (decide (e.text=aR ⟨#[116]⟩)||decide (e.text∈names)) else (decide (e.text=aR ⟨#[]⟩)&&e.l.all (lvs names n)):=rfl
  have I:=bIl (xI none k) names (fun x=>gk n x&&lvs names n x) e.l U fun x Z=>aZ6 names f n k x (by omega) (O x Z);show wI none (xI none k) e names=_;unfold wI;rw[bKi,I,aZ4 _ (by omega),contains_eq _ _ f,bKp];simp only[Option.isSome_some,Option.getD_some,Option.bind_some];by_cases hp:prt e.kind=(e.l.length:Int)
  ·rw[if_neg (fun h=>h hp)];by_cases L:e.kind=1
   ·have h0:e.l= []:=List.eq_nil_of_length_eq_zero (by rw[L] at hp; have:prt 1=0:=rfl; omega);simp_all
   ·rw[if_neg L];by_cases z:e.kind=2
    ·have h0:e.l= []:=List.eq_nil_of_length_eq_zero (by rw[z] at hp; have:prt 2=0:=rfl; omega);rw[if_pos z,q,g,if_neg L,if_pos z,decide_eq_true hp,h0];exact aE xAf rfl
    ·rw[if_neg z,q,g,if_neg L,if_neg z,decide_eq_true hp];refine aE xAf ?_;grind
  simp_all
theorem bB4{D E:Type}{step:D→Option (D⊕E)}{I:D→Prop}{Q:E→Prop}(z:∀d d',I d→step d=some (.inl d')→I d')(q:∀d e,I d→step d=some (.inr e)→Q e){d:D}{e:E}(hi:I d)(h:aG4 step d=some e):Q e:=by
 obtain⟨n,f⟩:=aX1.1 h;clear h
 induction n generalizing d with
 | zero=>cases f
 | succ n g =>
  rw[iter] at f;grind
theorem bL4:∃A:List Bool,dJ none (aR tE)=some (A,true,())∧ ∀c,A.getD c false=true→iE c=true:=by
 refine⟨(List.range 256).map iE,?_,fun c hc=>?_⟩
 ·unfold dJ;refine bA (a:=.inl ((List.range 256).map iE)) (aDC (n:=100) (by rfl)) rfl
 grind
theorem aSZ{A:List Bool}{c:Nat}{v:Bool}(h:dF none A c=some v):v=A.getD c false:=by
 grind[dF,Option.some.inj,bD]
theorem bIm{s:List Nat}(hs:s≠ [])(h:iH none s (aR tE)=some []):∀c∈s,iE c=true:=by
 obtain⟨A,U,hm⟩:=bL4;unfold iH at h;have h:=nB (by
  grind) h
 obtain⟨_,h⟩:=bD h;have h:=nB xAa h;rw[U] at h;have h:(dG none s A).bind (fun z=>(dO none z A).bind (fun g=>some g))=some []:=h;obtain⟨v1,e1,h⟩:=bind_some h;obtain⟨v2,N,h⟩:=bind_some h;obtain rfl:=Option.some.inj h;unfold dG at e1;obtain⟨q,Y,h1⟩:=bind_some e1;obtain rfl:=Option.some.inj h1;unfold dO at N;obtain⟨w2,O,Z⟩:=bind_some N;obtain rfl:=Option.some.inj Z;have a1:∃t,s=q++t∧ ∀c∈t,iE c=true:=by
  refine bB4 (I:=fun d=>∃t,s=d++t∧ ∀c∈t,iE c=true) (Q:=fun d=>∃t,s=d++t∧ ∀c∈t,iE c=true) ?_ ?_ ⟨[],by simp,fun c hc=>by cases hc⟩ Y
  ·rintro d L ⟨t,rfl,ht⟩ hd;have hd:cM none A d=some (.inl L):=hd;unfold cM at hd;split at hd
   ·rename_i h0;obtain⟨_,hd⟩:=bD hd;obtain⟨_,hd⟩:=bD hd;obtain⟨v,hv,hd⟩:=bind_some hd;split at hd
    ·simp_all
    ·rename_i f;obtain⟨_,hd⟩:=bD hd;obtain⟨_,hd⟩:=bD hd;have hd:=Option.some.inj hd
     injection hd with hd
     subst hd;have e:(d.length:Int)-(1:Int)=((d.length-1:Nat):Int):=(by omega);rw[e,Int.toNat_natCast] at hv ⊢;have hv:=aSZ hv;have f:v=true:=Classical.not_not.1 f;rw[f] at hv;have hx:=hm _ hv.symm;have hl:d=d.take (d.length-1)++ [d.getD (d.length-1) 0]:=by
      have:=take_succ (show d.length-1<d.length by omega);grind
     refine⟨d.getD (d.length-1) 0::t,?_,fun c hc=>?_⟩
     ·conv=>lhs; rw[hl]
      simp
     grind
   simp_all
  ·rintro d e ⟨t,rfl,ht⟩ hd;have hd:cM none A d=some (.inr e):=hd;have:e=d:=by
    unfold cM at hd;split at hd
    ·obtain⟨_,hd⟩:=bD hd;obtain⟨_,hd⟩:=bD hd;obtain⟨v,hv,hd⟩:=bind_some hd;split at hd
     all_goals grind[Option.some.inj,bD]
    simp_all
   simp_all
 have a2:∀c∈q,iE c=true:=by
  have:∃t,q=t++ []∧ ∀c∈t,iE c=true:=by
   refine bB4 (I:=fun d=>∃t,q=t++d∧ ∀c∈t,iE c=true) (Q:=fun d=>∃t,q=t++d∧ ∀c∈t,iE c=true) ?_ ?_ ⟨[],rfl,fun c hc=>by cases hc⟩ O
   ·rintro d L ⟨t,J,ht⟩ hd;have hd:cT none A d=some (.inl L):=hd;unfold cT at hd;split at hd
    ·rename_i h0;obtain⟨_,hd⟩:=bD hd;obtain⟨v,hv,hd⟩:=bind_some hd;split at hd
     ·simp_all
     ·rename_i f;obtain⟨_,hd⟩:=bD hd;have hd:=Option.some.inj hd
      injection hd with hd
      subst hd;have hv:=aSZ hv;have f:v=true:=Classical.not_not.1 f;rw[f] at hv;have hx:=hm _ hv.symm;cases d with
      | nil=>grind
      | cons x u =>
       refine⟨t++ [x],by grind,fun c hc=>?_⟩;grind
    simp_all
   ·rintro d e ⟨t,J,ht⟩ hd;have hd:cT none A d=some (.inr e):=hd;have:e=d:=by
     unfold cT at hd;split at hd
     ·obtain⟨_,hd⟩:=bD hd;obtain⟨v,hv,hd⟩:=bind_some hd;grind[Option.some.inj,bD]
     simp_all
    simp_all
  simp_all
 grind
theorem bKq{w:List Nat}(h:cR none w=some true):aWq w:=by
 unfold cR at h;obtain⟨_,h⟩:=bD h;obtain⟨_,h⟩:=bD h;split at h
 ·simp_all
 ·rename_i z;obtain⟨v,hv,h⟩:=bind_some h;obtain⟨_,h⟩:=bD h;obtain⟨_,h⟩:=bD h;have h:=Option.some.inj h;rw[Bool.and_eq_true] at h;obtain⟨q,f⟩:=h;obtain rfl:v= []:=of_decide_eq_true q;cases w with
  | nil=>simp_all
  | cons c u =>
   have hc:97≤c∧c≤122:=by
    simp_all
   refine⟨⟨c,u,rfl,decide_eq_true hc⟩,bIm (List.cons_ne_nil _ _) hv,?_⟩;have g:mO none=some [[116],[115,113,114],[115,113,114,116],[101,120,112],[112,114,101,99],[101,110,100],[115,116,101,112],[116,111,108],[116,114,105,101,115],[111,114,100,101,114],[106,97,99,111,98,105],[115,101,105,100,101,108],[115,117,98],[115,116,97,116,101],[112,97,114],[105,110],[111,117,116],[100,101,114],[108,105,110,107]]:=(by rfl);rw[g,Option.getD_some,contains_eq _ _ xAa,Option.getD_some,Bool.not_eq_true',decide_eq_false_iff_not] at f;simp_all[bDl,if_neg]
theorem aZ7{s t r:List Nat}{p i:Nat}(h:Tx s p t r)(hb:Bd r)(hi:i≤t.length):cL s (p+i)=cL t i:=by
 unfold cL;rw[← List.drop_drop,h.2,List.drop_append_of_le_length hi];rcases Nat.lt_or_ge ((t.drop i).takeWhile oR).length (t.drop i).length with f|f
 ·rw[List.takeWhile_append,if_neg (by omega)]
 ·rw[List.takeWhile_append,if_pos (by grind[List.takeWhile_prefix,oR])];have:r.takeWhile oR= []:=by
   cases r with
   | nil=>rfl
   | cons d v=>exact List.takeWhile_cons_of_neg (by rcases hb with rfl|rfl<;>decide)
  rw[this,List.append_nil]
  congr 1
  exact((List.takeWhile_prefix (p:=oR) (l:=t.drop i)).eq_of_length (by have:=(List.takeWhile_prefix (p:=oR) (l:=t.drop i)).length_le; omega)).symm
theorem aQo{s t r:List Nat}{p i c:Nat}(h:Tx s p t r)(hb:Bd r)(hi:i≤t.length)(hc:c≠32∧c≠41):jG s (p+i) c↔jG t i c:=by
 have I:=h.len;have f:=h.get i;show (p+i<s.length∧s.getD (p+i) 0=c)↔(i<t.length∧t.getD i 0=c);rw[f];rcases Nat.lt_or_ge i t.length with q|q
 ·grind
 ·obtain rfl:i=t.length:=by omega
  constructor
  ·rintro⟨z,g⟩;exfalso;cases r with
   | nil=>simp_all
   | cons d v =>
    have:(t++d::v).getD t.length 0=d:=(by simp_all);rw[this] at g;rcases hb with rfl|rfl
    all_goals omega
  omega
theorem bKr{s t r:List Nat}{p i k:Nat}(h:Tx s p t r)(hi:i+k≤t.length):(s.drop (p+i)).take k=(t.drop i).take k:=by
 rw[← List.drop_drop,h.2,List.drop_append_of_le_length (by omega),List.take_append_of_le_length (by grind)]
theorem bB5{s t r:List Nat}{p i:Nat}(h:Tx s p t r)(hb:Bd r)(hi:i≤t.length):aGL s (p+i)=p+aGL t i:=by
 unfold aGL;by_cases f:jG t i 101
 ·have I:i<t.length:=f.1;rw[if_pos ((aQo h hb hi xAa).2 f),if_pos f];have e1:=aQo (c:=43) h hb (i:=i+1) (by omega) xAa;have N:=aQo (c:=45) h hb (i:=i+1) (by omega) xAa;have g:∀k,k≤t.length→(if 1≤cL s (p+k)∧cL s (p+k)≤3∧uH ((s.drop (p+k)).take (cL s (p+k)))≤100 then p+k+cL s (p+k) else p+i)=p+(if 1≤cL t k∧cL t k≤3∧uH ((t.drop k).take (cL t k))≤100 then k+cL t k else i):=fun k L=>by
   grind[vW,aZ7,bKr]
  by_cases z:jG t (i+1) 43∨jG t (i+1) 45
  ·have J:i+1<t.length:=(by rcases z with q|q<;>exact q.1);grind
  grind
 ·rw[if_neg (fun q=>f ((aQo h hb hi xAa).1 q)),if_neg f]
theorem aWr{t:List Nat}{i:Nat}{all:List Nat}{g:Int}(h:(bBX t i all g).2.2.1=true):aGL t i=t.length:=by
 unfold bBX at h;unfold aGL;by_cases I:jG t i 101
 ·rw[if_pos I] at h ⊢;have z:∀k q,(aOB t k all g q).2.2.1=true→(if 1≤cL t k∧cL t k≤3∧uH ((t.drop k).take (cL t k))≤100 then k+cL t k else i)=t.length:=fun k q f=>by
   unfold aOB at f;split at f
   ·cases f
   ·split at f
    ·cases f
    simp_all
  grind
 simp_all
theorem bDn{t:List Nat}(h:fm t=true):bId t:=by
 unfold fm rD at h;split at h
 ·cases h
 ·rename_i h0;have g:cL t 0≠0:=fun q=>h0 (.inr q);have I:t.length≤60:=Nat.le_of_not_lt fun q=>h0 (.inl q);have O:=vW t 0;refine⟨I,?_,fun s p r f hb=>?_⟩
  ·cases t with
   | nil=>simp_all
   | cons c u =>
    refine⟨c,u,rfl,?_⟩;by_cases hc:oR c=true
    ·exact hc
    ·exfalso; apply g;unfold cL;rw[List.drop_zero,List.takeWhile_cons_of_neg hc]; rfl
  ·have e0:=aZ7 f hb (i:=0) (Nat.zero_le _);rw[Nat.add_zero] at e0;have J:=aQo (c:=46) f hb (i:=cL t 0) (by omega) xAa;unfold aCp;rw[e0,if_neg g];split at h
   ·rename_i z;have N:cL t 0<t.length:=z.1;split at h
    ·cases h
    ·rename_i U;have e1:=aZ7 f hb (i:=cL t 0+1) (by omega);rw[← Nat.add_assoc] at e1;have L:=vW t (cL t 0+1);rw[e1,if_pos ⟨J.2 z,by omega⟩];have:=bB5 f hb (i:=cL t 0+1+cL t (cL t 0+1)) (by omega);grind[cL,aWr]
   ·rename_i z;rw[if_neg (fun q=>z (J.1 q.1)),bB5 f hb (by omega),aWr h];omega
theorem bMU{names:List qd}(Y:∀x∈names,aWq x):∀ {n:Nat} {e:Ex},fits n e→gk n e=true→lvs names n e=true→W n e
 | 0,e,U,_,_=>U.elim
 | n+1,.mk k t l,U,I,q=>by
  have I:(decide (prt k=(l.length:Int))&&l.all (gk n))=true:=I;rw[Bool.and_eq_true] at I;obtain⟨g1,g2⟩:=I;have g1:=of_decide_eq_true g1;have O:∀x∈l,fits n x:=U.2.2;unfold lvs at q;have f:∀x∈l,lvs names n x=true→W n x:=fun x z hv=>bMU Y (O x z) (List.all_eq_true.1 g2 x z) hv;split at q
  ·rename_i L;obtain rfl:k=1:=L;have:l= []:=List.eq_nil_of_length_eq_zero (by have:prt 1=0:=rfl; omega);subst this;exact .num n t (bDn q)
  ·rename_i L;split at q
   ·rename_i J;obtain rfl:k=2:=J;have:l= []:=List.eq_nil_of_length_eq_zero (by have:prt 2=0:=rfl; omega);subst this;refine .name n t ?_;rw[Bool.or_eq_true] at q;rcases q with h|h
    ·obtain rfl:t= [116]:=of_decide_eq_true h;exact⟨⟨116,[],rfl,rfl⟩,by decide,rfl⟩
    ·exact Y t (of_decide_eq_true h)
   ·rename_i J;rw[Bool.and_eq_true] at q;obtain⟨h3,h4⟩:=q;obtain rfl:t= []:=of_decide_eq_true h3;have f:=fun x z=>f x z (List.all_eq_true.1 h4 x z);have L:¬k=1:=L;have J:¬k=2:=J;have hp:prt k=if 6≤k∧k≤9 then 2 else if 10≤k∧k≤13 then 1 else -1:=by
     simp_all[prt,if_neg]
    rw[hp] at g1;split at g1
    ·rename_i Z
     match l,g1,f with
     | [a,b],_,f=>exact .two n k a b Z.1 Z.2 (f a xAf) (f b xAf)
     | [],g,_=>simp at g
     | [_],g,_=>simp at g
     | _::_::_::_,g,_=>grind
    ·split at g1
     ·rename_i N
      match l,g1,f with
      | [a],_,f =>
       rcases Int.lt_or_le 10 k with h|h
       ·exact .fn n k a (by omega) N.2 (f a xAf)
       ·obtain rfl:k=10:=(by omega);exact .neg n a (f a xAf)
      | [],g,_=>simp at g
      | _::_::_,g,_=>grind
     ·omega
theorem p2m(n m:Nat)(h:n≤m):2^n≤2^m:=Nat.pow_le_pow_right xAa h
theorem bB6(m:Nat){x n:Nat}(h:x<2^n)(f:n≤m):x<2^m:=Nat.lt_of_lt_of_le h (p2m n m f)
theorem aWs(m:Nat){x n:Nat}(h:x≤2^n)(f:n<m):x<2^m:=Nat.lt_of_le_of_lt h (Nat.pow_lt_pow_right xAa f)
theorem bK9(k:Nat){x n:Nat}(h:x<2^n)(f:n≤64*k):x<18446744073709551616^k:=by grind[aI9,bB6]
abbrev Dy:Type:=Bool×List Nat×Int×Unit
def d0:Dy:=(false,[],0,())
def aR3(d:Dy):Bool :=
 if d.2.1.length=0 then !d.1&&decide (d.2.2.1=0)
 else decide (d.2.1.length≤64∧Nrm d.2.1)&&decide (d.2.1.getD 0 0%2=1)&&decide (-1048576≤d.2.2.1)&&decide (d.2.2.1≤1048576)
theorem and_one(x:Nat):x&&&1=x%2:=Nat.and_two_pow_sub_one_eq_mod x 1
theorem aR4(d:Dy):nJ none d=some (aR3 d):=by
 unfold nJ aR3;by_cases h:d.2.1.length=0
 ·simp_all
 ·rw[if_neg (by omega),if_neg h];refine aE (fun _=>by omega) ?_;rw[and_one];rfl
theorem aWt(e:Int):mM none false e=some (.inr (e,())):=rfl
theorem aUk{b:Bool}{e:Int}(h:b=true):mM none b e=some (.inl ()):=by rw[h]; rfl
theorem aQp{b:Bool}{e:Int}(h:b=false):mM none b e=some (.inr (e,())):=by rw[h]; rfl
def aXC(neg:Bool)(m:Nat)(e:Int):Dy⊕qp :=
 if m=0 then .inl d0
 else if 64<(lb (m/2^tzn m)).length then .inr (2,())
 else if ¬(e≤1048576∧ -1048576-(tzn m:Int)≤e) then .inr (3,())
 else if 1048576<e+(tzn m:Int) then .inr (3,())
 else .inl (neg,lb (m/2^tzn m),e+(tzn m:Int),())
theorem bL5{m k:Nat}(h0:m≠0)(h:m<18446744073709551616^k):tzn m<64*k:=by
 obtain⟨q,hq⟩:=aLg h0;rw[aI9] at h;refine(Nat.pow_lt_pow_iff_right (show 1<2 by decide)).1 (Nat.lt_of_le_of_lt ?_ h);grind
theorem bIn(neg:Bool)(m:List Nat)(e:Int)(lm:Lm m)(L:Nrm m)(I:m.length≤1099511627776):aAb none neg m e=some (aXC neg (nv m) e):=by
 unfold aAb aXC;by_cases h0:m.length=0
 ·have hm:m= []:=List.eq_nil_of_length_eq_zero h0;subst hm;rfl
 ·have hm:nv m≠0:=by have:=aQ2 L (fun e=>h0 (by grind)); omega
  have z:lD m=(tzn (nv m):Int):=by grind[lD]
  have J:=bL5 hm (uF lm);have q:wX m (tzn (nv m):Int)=lb (nv m/2^tzn (nv m)):=by rfl
  rw[if_neg (by omega),if_neg hm,z,q];refine aE I (aE ⟨I,by omega⟩ ?_);by_cases g:64<(lb (nv m/2^tzn (nv m))).length
  ·rw[aQp (by grind),if_pos g]; rfl
  ·rw[aUk (by grind),if_neg g];simp only[Option.bind_some];by_cases f:e≤1048576
   ·rw[if_pos f];refine aE (by omega) ?_;by_cases N: -1048576-(tzn (nv m):Int)≤e
    ·rw[aUk (by grind),if_neg (by omega)];simp only[Option.bind_some];unfold yO;rw[z,q];refine aE (by omega) ?_;by_cases O:e+(tzn (nv m):Int)≤1048576
     ·rw[aUk (by grind),if_neg (by omega)];simp only[Option.bind_some];exact aE (by omega) rfl
     simp_all[aQp,if_pos]
    simp_all[aQp,if_pos]
   ·rw[if_neg f,aWt,if_pos (by omega)]; rfl
def told{α:Type}(z:α):α⊕qp→α×Int×Unit
 | .inl r=>(r,0,())
 | .inr p=>(z,p.1,())
def bDo(neg:Bool)(m:Nat)(e:Int):Dy×Int×Unit:=told d0 (aXC neg m e)
theorem bIo(neg:Bool)(m:List Nat)(e:Int)(lm:Lm m)(f:Nrm m)(g:m.length≤1099511627776):aAc none neg m e=some (bDo neg (nv m) e):=by
 have q:aAu none neg m e=some (aXC neg (nv m) e):=by
  unfold aAu;rw[bIn neg m e lm f g];simp only[Option.bind_some];cases aXC neg (nv m) e<;>rfl
 have z:jK none neg m e=some (bDo neg (nv m) e):=by
  unfold jK bDo;rw[q];simp only[Option.bind_some];cases aXC neg (nv m) e<;>rfl
 grind[aAc]
theorem bMV{x k:Nat}(a:List Nat)(f:Lm a)(h:x≤nv a)(g:a.length≤k):(lb x).length≤k :=
 Nat.le_trans (aEY.2 (Nat.lt_of_le_of_lt h (uF f))) g
theorem bIp{b i:Nat}(h:b<18446744073709551616):(lb (b^i)).length≤i+1 :=
 aEY.2 (Nat.lt_of_le_of_lt (Nat.pow_le_pow_left (Nat.le_of_lt h) i) (Nat.pow_lt_pow_right xAa (by omega)))
theorem aQq(b n:Nat)(hb:b<18446744073709551616)(g:n≤100000):uU none b (n:Int)=some (lb (b^n)):=by
 unfold uU;refine bA (aCz (step:=fun d:qd×Int=>tG none (n:Int) b d.1 d.2) (I:=fun d=>0≤d.2∧d.2≤n∧d.1=lb (b^d.2.toNat)) (fun d=>((n:Int)-d.2).toNat) (fun _=>lb (b^n)) ?_ ([1],0) ⟨by simp,by simp,?_⟩) rfl
 ·rintro⟨m,i⟩ ⟨i0,i1,f⟩;have f:m=lb (b^i.toNat):=f;have i0:0≤i:=i0;have i1:i≤n:=i1;show (∃d',tG none (n:Int) b m i=_∧_)∨tG none (n:Int) b m i=_;unfold tG;have q:=bIp (i:=i.toNat) hb;by_cases hi:i<n
  ·left
   have ht:dC m [b]=lb (b^(i+1).toNat):=by
    unfold dC;rw[f,aCC,show (i+1).toNat=i.toNat+1 from by omega,Nat.pow_succ];rfl
   refine⟨(lb (b^(i+1).toNat),i+1),?_,⟨by (try simp only); omega,by (try simp only); omega,rfl⟩,by (try simp only); omega,rfl⟩;rw[if_pos hi];refine aE ⟨by show m.length≤_; rw[f]; omega,by show (1:Nat)≤_; decide⟩ (aE (by constructor<;>omega) ?_);rw[ht]
  ·right
   rw[if_neg hi,f,show i.toNat=n from by omega]
 ·show [1]=lb (b^0);rw[Nat.pow_zero,aQ1 xAa];rw[show 1/18446744073709551616=0 from by decide,aDT]
theorem aYm(s:List Nat)(hd:∀c∈s,oR c=true)(hs:s.length≤100000):xH none s=some (lb (uH s)):=by
 unfold xH;refine bA (aCz (step:=fun d:qd×Int=>qZ none s d.1 d.2) (I:=fun d=>0≤d.2∧d.2≤s.length∧d.1=lb (uH (s.take d.2.toNat))) (fun d=>((s.length:Int)-d.2).toNat) (fun _=>lb (uH s)) ?_ ([],0) ⟨by simp,by simp,?_⟩) rfl
 ·rintro⟨m,i⟩ ⟨i0,i1,f⟩;have f:m=lb (uH (s.take i.toNat)):=f;have i0:0≤i:=i0;have i1:i≤s.length:=i1;show (∃d',qZ none s m i=_∧_)∨qZ none s m i=_;unfold qZ;have J:m.length≤100001:=by
   rw[f];have z:=aMA (s:=s.take i.toNat) (fun c hc=>hd c (List.mem_of_mem_take hc));have Y:(s.take i.toNat).length≤100000:=(by rw[List.length_take]; omega);have O:=bIp (b:=10) (i:=(s.take i.toNat).length) xAa;have Z:=bMV (x:=uH (s.take i.toNat)) (lb (10^(s.take i.toNat).length)) (aMZ _) (by rw[aCC]; omega) O;omega
  by_cases hi:i<s.length
  ·left
   have q:i.toNat<s.length:=(by omega);have N:s.getD i.toNat 0∈s:=(by rw[List.getD_eq_getElem?_getD,List.getElem?_eq_getElem q]; exact List.getElem_mem q);have hc:=hd _ N;simp only[oR,decide_eq_true_iff] at hc;have g:wU none .u8 (s.getD i.toNat 0) 48=s.getD i.toNat 0-48:=bMR (by omega) hc.1;have L:qX [s.getD i.toNat 0-48]=lb (s.getD i.toNat 0-48):=by
    show lb (nv [s.getD i.toNat 0-48])=_;simp[nv]
   have ht:aDG (dC m [10]) (lb (s.getD i.toNat 0-48))=lb (uH (s.take (i+1).toNat)):=by
    unfold aDG dC;rw[f,aCC,aCC,aCC,show (i+1).toNat=i.toNat+1 from by omega,take_succ q,aYi];rfl
   have U:(dC m [10]).length≤100002:=by
    unfold dC;refine Nat.le_trans (aEY (k:=m.length+1).2 ?_) (by omega);rw[f,aCC,Nat.pow_succ,← f];have z:=uF (a:=m) (by rw[f]; exact aMZ _);rw[f,aCC,← f] at z;exact Nat.mul_lt_mul'' z xAa
   refine⟨(lb (uH (s.take (i+1).toNat)),i+1),?_,⟨by (try simp only); omega,by (try simp only); omega,rfl⟩,by (try simp only); omega,by first|rfl|trivial⟩;rw[if_pos hi];simp only[g,L,ht];refine aE (by constructor<;>omega) (aE ⟨by show m.length≤_; omega,by show (1:Nat)≤_; decide⟩ (aE (by show (1:Nat)≤_; decide) (aE ⟨by show (dC m [10]).length≤_; omega,?_⟩ (aE (by constructor<;>omega) rfl))));show (lb (s.getD i.toNat 0-48)).length≤_;have:=aEY (n:=s.getD i.toNat 0-48) (k:=1).2 (by omega);omega
  ·right
   rw[if_neg hi,f,List.take_of_length_le (by omega)]
 ·show []=lb (uH []);rw[show uH []=0 from rfl,aDT]
def aYn(M:Nat)(e:Int):Dy:=if M=0 then d0 else (false,lb (M/2^tzn M),e+(tzn M:Int),())
theorem bL6{M K:Nat}(h0:M≠0)(h:M<2^K):tzn M<K:=by
 obtain⟨q,hq⟩:=aLg h0;refine(Nat.pow_lt_pow_iff_right (show 1<2 by decide)).1 (Nat.lt_of_le_of_lt ?_ h);grind
theorem bKs{M K:Nat}{e:Int}(f:M<2^K)(g:K≤4096)(q: -1000000≤e∧e≤1000000):bDo false M e=(aYn M e,0,()):=by
 unfold bDo aXC aYn;by_cases h0:M=0
 ·rw[if_pos h0,if_pos h0]; rfl
 ·have z:=bL6 h0 f;have I:(lb (M/2^tzn M)).length≤64:=by
   exact aEY.2 (bK9 64 (Nat.lt_of_le_of_lt (Nat.div_le_self _ _) f) (by omega))
  rw[if_neg h0,if_neg h0,if_neg (by omega),if_neg (by omega),if_neg (by omega)];rfl
def bKt(r:bHW):Prop:=(∀c∈r.1,oR c=true)∧r.1.length≤60∧ -160≤r.2.1∧r.2.1≤160
theorem aMi:bKt litNo:=⟨(fun c hc=>by cases hc),by decide,by decide,by decide⟩
theorem aZ8{s:List Nat}{i:Nat}{all:List Nat}{f:Int}{neg:Bool}(q:∀c∈all,oR c=true)(g:all.length≤60)(z: -60≤f∧f≤0):bKt (aOB s i all f neg):=by
 unfold aOB;split
 ·exact aMi
 ·split
  ·exact aMi
  ·refine⟨q,g,?_,?_⟩
   all_goals grind
theorem bDp{s:List Nat}{i:Nat}{all:List Nat}{f:Int}(q:∀c∈all,oR c=true)(g:all.length≤60)(z: -60≤f∧f≤0):bKt (bBX s i all f):=by
 unfold bBX;split
 ·grind[aZ8]
 ·exact⟨q,g,by grind,by grind⟩
theorem aGM(s:List Nat):bKt (rD s):=by
 have g:=vW s 0;have q:=vW s (cL s 0+1);have f:=aMe s 0;rw[List.drop_zero] at f;have z:=aMe s (cL s 0+1);grind[rD,aMi,bDp,List.length_take]
def bIq(s:List Nat):Nat:=uH (rD s).1*10^(max (rD s).2.1 0).toNat
def bL7(s:List Nat):Nat:=10^(max (-(rD s).2.1) 0).toNat
theorem aEV(n:Nat):10^n≤2^(4*n):=by
 simp_all[Nat.pow_mul,Nat.pow_le_pow_left]
theorem bKu(s:List Nat):bIq s<2^900:=by
 obtain⟨f,q,g,z⟩:=aGM s;have a:=aMA f;have b:=aEV (rD s).1.length;have c:=aEV (max (rD s).2.1 0).toNat;unfold bIq;have d:=Nat.mul_lt_mul_of_lt_of_le (Nat.lt_of_lt_of_le a b) c (Nat.pow_pos xAa);rw[← Nat.pow_add] at d;exact bB6 900 d (by omega)
theorem bKv(s:List Nat):bL7 s<2^900:=by
 obtain⟨z,g,f,q⟩:=aGM s;have c:=aEV (max (-(rD s).2.1) 0).toNat;unfold bL7;exact aWs 900 c (by omega)
def bKw(s:List Nat):List Nat×List Nat×Bool×Unit:=if (rD s).2.2.1=true then (lb (bIq s),lb (bL7 s),true,()) else ([],[],false,())
theorem aOD{x:Nat}(h:x<2^900):(lb x).length≤15:=by
 exact aEY.2 (bK9 15 h xAa)
theorem bIr(s:List Nat)(hs:s.length≤9223372036854775807):aCg none s=some (bKw s):=by
 obtain⟨q,L,J,N⟩:=aGM s;unfold aCg bKw;refine bA (bDh s hs) ?_;by_cases h:(rD s).2.2.1=true
 ·rw[if_neg (fun z=>z h),if_pos h];have e1:=aYm (rD s).1 q (by omega);have f:=aQq 10 (max (rD s).2.1 0).toNat xAa (by omega);have g:=aQq 10 (max (-(rD s).2.1) 0).toNat xAa (by omega);rw[show (((max (rD s).2.1 0).toNat:Nat):Int)=max (rD s).2.1 0 from by omega] at f;rw[show (((max (-(rD s).2.1) 0).toNat:Nat):Int)=max (0-(rD s).2.1) 0 from by omega] at g;have I:(lb (uH (rD s).1)).length≤15:=aOD (by
   have a:=aMA q;have b:=aEV (rD s).1.length;exact bB6 900 (Nat.lt_of_lt_of_le a b) (by omega))
  have l2:(lb (10^(max (rD s).2.1 0).toNat)).length≤15:=aOD (aWs 900 (aEV _) (by omega));refine bA e1 (bA f (aE ⟨?_,?_⟩ (aE (by omega) (bA g ?_))))
  ·omega
  ·omega
  ·have ht:dC (lb (uH (rD s).1)) (lb (10^(max (rD s).2.1 0).toNat))=lb (bIq s):=by
    grind[dC,bIq,aCC]
   rw[ht]; rfl
 simp_all
def exN(s:List Nat):Nat:=uH (rD s).1*5^(max (rD s).2.1 0).toNat
def exD(s:List Nat):Nat:=5^(max (-(rD s).2.1) 0).toNat
def bDq(s:List Nat):Dy×Int×Unit :=
 if ¬(rD s).2.2.1=true then (d0,6,())
 else if exN s%exD s≠0 then (d0,6,())
 else (aYn (exN s/exD s) (rD s).2.1,0,())
theorem bB7(n:Nat):5^n≤2^(4*n):=Nat.le_trans (Nat.pow_le_pow_left xAa n) (aEV n)
theorem bL8(s:List Nat):exN s<2^900:=by
 obtain⟨f,q,g,z⟩:=aGM s;have a:=aMA f;have b:=aEV (rD s).1.length;have c:=bB7 (max (rD s).2.1 0).toNat;unfold exN;have d:=Nat.mul_lt_mul_of_lt_of_le (Nat.lt_of_lt_of_le a b) c (Nat.pow_pos xAa);rw[← Nat.pow_add] at d;exact bB6 900 d (by omega)
theorem bKx(s:List Nat):exD s≠0:=by
 grind[exD,Nat.pow_pos,Max.max,rD]
theorem bIs(s:List Nat)(hs:s.length≤9223372036854775807):aAe none s=some (bDq s):=by
 obtain⟨I,Y,U,Z⟩:=aGM s;unfold aAe bDq;refine bA (bDh s hs) ?_;by_cases h:(rD s).2.2.1=true
 ·rw[if_neg (fun L=>L h)];simp only[h,not_true,if_false];have e1:=aYm (rD s).1 I (by omega);have z:=aQq 5 (max (rD s).2.1 0).toNat xAa (by omega);have q:=aQq 5 (max (-(rD s).2.1) 0).toNat xAa (by omega);rw[show (((max (rD s).2.1 0).toNat:Nat):Int)=max (rD s).2.1 0 from by omega] at z;rw[show (((max (-(rD s).2.1) 0).toNat:Nat):Int)=max (0-(rD s).2.1) 0 from by omega] at q;have O:(lb (uH (rD s).1)).length≤15:=aOD (by
   have a:=aMA I;have b:=aEV (rD s).1.length;exact bB6 900 (Nat.lt_of_lt_of_le a b) (by omega))
  have l2:(lb (5^(max (rD s).2.1 0).toNat)).length≤15:=aOD (aWs 900 (bB7 _) (by omega));have ht:dC (lb (uH (rD s).1)) (lb (5^(max (rD s).2.1 0).toNat))=lb (exN s):=by
   grind[dC,exN,aCC]
  have hq:rP (lb (exN s)) (lb (exD s))=(lb (exN s/exD s),lb (exN s%exD s),()):=by
   grind[rP,aCC]
  have J:=bL8 s;have g:exN s/exD s<2^900:=Nat.lt_of_le_of_lt (Nat.div_le_self _ _) J;have hF:aAc none false (lb (exN s/exD s)) (rD s).2.1=some (aYn (exN s/exD s) (rD s).2.1,0,()):=by
   rw[bIo false _ _ (aMZ _) (aHy _) (by grind[aOD]),aCC,bKs g xAa (by omega)]
  have N:lb (5^(max (-(rD s).2.1) 0).toNat)=lb (exD s):=rfl;rw[N] at q;refine bA e1 (bA z (aE ⟨?_,?_⟩ (aE (by omega) (bA q ?_))));rotate_left 2
  ·simp only[ht,hq];refine aE ⟨aHy _,aHy _,by grind[aCC,bKx],?_⟩ (bA hF ?_)
   ·grind[aOD]
   ·by_cases f:exN s%exD s=0
    ·rw[if_neg (by rw[f,aDT]; simp),if_neg (fun h=>h f)]
    ·have hl:=List.length_pos_iff.2 (fun e=>f (bCP.1 e));rw[if_pos (.inl (by omega)),if_pos f]; rfl
  all_goals omega
 ·rw[if_pos h,if_pos h]; rfl
def Tot{α:Type}(o:Option α)(P:α→Prop):Prop:=∃r,o=some r∧P r
namespace Tot
variable {α β:Type} {P:α→Prop} {o:Option α} {R:β→Prop}
theorem ret{r:α}(h:P r):Tot (some r) P:=⟨r,rfl,h⟩
theorem of{r:α}(e:o=some r)(h:P r):Tot o P:=⟨r,e,h⟩
theorem ck{p:Prop}[Decidable p](hp:p)(h:Tot o P):Tot (Go.Vc.ck p o) P:=by grind[bGP]
theorem bind{f:α→Option β}(h:Tot o P)(g:∀r,P r→Tot (f r) R):Tot (o.bind f) R:=by
 obtain⟨r,rfl,q⟩:=h;simp_all
theorem ite{p:Prop}{i:Decidable p}{x y:Option α}(g:p→Tot x P)(f:¬p→Tot y P):Tot (@_root_.ite _ p i x y) P:=by
 grind
theorem mono{Q:α→Prop}(h:Tot o P)(hq:∀r,P r→Q r):Tot o Q:=by
 obtain⟨r,e,f⟩:=h;exact⟨r,e,hq r f⟩
theorem aIK(h:Tot o P):o.isSome=true:=by
 obtain⟨r,rfl,f⟩:=h;rfl
theorem get(h:Tot o P)(z:α):P (o.getD z):=by
 obtain⟨r,rfl,f⟩:=h;exact f
end Tot
theorem aME{d:Dy}(h:aR3 d=true):d.2.1.length≤64∧Nrm d.2.1∧ -1048576≤d.2.2.1∧d.2.2.1≤1048576:=by
 grind[aR3,List.eq_nil_of_length_eq_zero,bEm]
theorem aWu(d:Dy):Tot (uS none d) (fun r=> -1≤r∧r≤1):=by
 unfold uS;exact(Tot.of (P:=fun _=>True) (aR4 d) trivial).bind fun v _=>.ite (fun _=>.ret xAa) fun _=>.ite (fun _=>.ret xAa) fun _=>.ret xAa
def bB8(a b:Dy):Int :=
 let x:=(bl (nv a.2.1):Int)+a.2.2.1
 let y:=(bl (nv b.2.1):Int)+b.2.2.1
 let f:=min a.2.2.1 b.2.2.1
 if x<y then -1 else if y<x then 1 else bCT (nv a.2.1*2^(a.2.2.1-f).toNat) (nv b.2.1*2^(b.2.2.1-f).toNat)
theorem size_eq(a b:Dy)(la:Lm a.2.1)(O:Lm b.2.1)(z:aR3 a=true)(hb:aR3 b=true):aB7 none a b=some (bB8 a b):=by
 obtain⟨Z,J,a3,U⟩:=aME z;obtain⟨b1,L,b3,Y⟩:=aME hb;have N:bl (nv a.2.1)≤64*a.2.1.length:=aX7 (by grind[aI9,uF]);have q:bl (nv b.2.1)≤64*b.2.1.length:=aX7 (by grind[aI9,uF]);have e1:sX a.2.1=(bl (nv a.2.1):Int):=rfl;have I:sX b.2.1=(bl (nv b.2.1):Int):=rfl;unfold aB7 bB8;rw[e1,I];refine aE ⟨J,by omega⟩ (aE (by omega) (aE ⟨L,by omega⟩ (aE (by omega) ?_)));simp only;by_cases g:(bl (nv a.2.1):Int)+a.2.2.1<(bl (nv b.2.1):Int)+b.2.2.1
 ·simp_all
 ·rw[if_neg g,if_neg g];by_cases f:(bl (nv b.2.1):Int)+b.2.2.1<(bl (nv a.2.1):Int)+a.2.2.1
  ·simp_all
  ·rw[if_neg f,if_neg f];refine aE (by omega) (aE ⟨by omega,by omega,by omega⟩ (aE (by omega) (aE ⟨by omega,by omega,by omega⟩ (aE ⟨aHy _,aHy _⟩ ?_))));grind[sF,jT,aCC]
theorem bB9(a b:Dy): -1≤bB8 a b∧bB8 a b≤1:=by
 grind[bB8,bCT]
theorem bEJ(a b:Dy)(z:Lm a.2.1)(f:Lm b.2.1):Tot (aAd none a b) (fun _=>True):=by
 unfold aAd;refine(aWu a).bind fun v hv=>(aWu b).bind fun w I=>(Tot.of (P:=fun x=>aR3 a=x) (aR4 a) rfl).bind fun x L=>.ck (fun _=>by rw[aR4]; rfl) (.ite (fun _=>.ret trivial) fun h=>.ite (fun _=>.ret trivial) fun _=>.ite (fun _=>.ret trivial) fun _=>.ite (fun _=>.ret trivial) fun _=>?_);rw[aR4] at h;have g:aR3 a=true∧aR3 b=true:=by
  simp_all
 refine(Tot.of (P:=fun r=> -1≤r∧r≤1) (size_eq a b z f g.1 g.2) (bB9 a b)).bind fun r q=>.ck ?_ (.ret trivial);have: -1≤v*r∧v*r≤1:=by
  obtain⟨v1,J⟩:=hv;obtain⟨r1,N⟩:=q;have e1:v= -1∨v=0∨v=1:=by omega
  grind
 omega
theorem bEK(n:Bool)(m:Nat)(e:Int):match aXC n m e with| .inl d=>Lm d.2.1| .inr _=>True:=by
 unfold aXC;split
 ·rename_i h;split at h
  ·cases h; exact fun x f=>by cases f
  grind[aMZ]
 grind
theorem bIt(a b:Dy)(L:Lm a.2.1)(f:Lm b.2.1)(g:aR3 a=true)(hb:aR3 b=true):Tot (uT none a b) (fun q=>match q with| .inl d=>Lm d.2.1| .inr _=>True):=by
 obtain⟨z,U,a3,N⟩:=aME g;obtain⟨b1,Y,Z,O⟩:=aME hb;unfold uT;refine .ck ⟨by omega,by omega⟩ (.ck (by omega) ?_);have hl:(dC a.2.1 b.2.1).length≤128:=by
  refine aEY.2 ?_;have J:=Nat.lt_of_lt_of_le (uF L) (Nat.pow_le_pow_right (show 0<18446744073709551616 by decide) z);have I:=Nat.lt_of_lt_of_le (uF f) (Nat.pow_le_pow_right (show 0<18446744073709551616 by decide) b1);have:=Nat.mul_lt_mul'' J I;omega
 refine(Tot.of (P:=fun q=>match q with| .inl d=>Lm d.2.1| .inr _=>True) (bIn _ _ _ (show Lm (dC a.2.1 b.2.1) from aMZ _) (aHy _) (by omega)) (bEK _ _ _)).bind fun q hq=>?_;cases q with
 | inl d=>exact .ret hq
 | inr p=>exact .ret trivial
theorem bKy(a b:Dy)(z:Lm a.2.1)(f:Lm b.2.1):Tot (gO none a b ()) (fun q=>match q with| .inl d=>Lm d.2.1| .inr _=>True):=by
 unfold gO;rw[aR4,aR4];refine .ck rfl (.ite (fun h=>.ck rfl ?_) fun h=>?_)
 ·cases hb:aR3 b with
  | false =>
   rw[aQp xAf];exact .ret trivial
  | true =>
   have g:aR3 a=true:=h;rw[aUk (by simp[g])];refine(bIt a b z f g hb).bind fun q hq=>?_;cases q with
   | inl d=>exact .ret hq
   | inr p=>exact .ret trivial
 ·rw[aWt];exact .ret trivial
theorem bKz(a b:Dy)(I:Lm a.2.1)(f:Lm b.2.1):Tot (aDH none a b) (fun r=>Lm r.1.2.1):=by
 unfold aDH oO dK;have h:Tot ((gO none a b ()).bind fun q=>some (match q with| .inl r=>(r,(0:Int),())| .inr p=>((false,([]:List Nat),(0:Int),()),p.1,()))) (fun r=>Lm r.1.2.1):=(bKy a b I f).bind fun q hq=>.ret (by
  cases q with
  | inl d=>exact hq
  | inr p=>exact fun x g=>by cases g)
 exact(Tot.ck h.aIK (.ret (P:=fun r=>Lm r.1.2.1) (h.get _))).bind fun r z=>.ret z
theorem bL9(n e:Int)(q:0≤n∧n<9223372036854775808)(z:e=0):Tot (aFY none n e) (fun r=>Lm r.1.2.1):=by
 unfold aFY;refine .ite (fun h=>by omega) fun _=>?_;unfold aAw;refine .ck (by simp_all) ?_;have I:(qX [(n%18446744073709551616).toNat]).length≤1:=by
  refine aEY.2 ?_;have hb:18446744073709551616=18446744073709551616:=by decide
  have:nv [(n%18446744073709551616).toNat]=(n%18446744073709551616).toNat:=by simp[nv]
  omega
 have hF:Lm (bDo (decide (n<0)) (nv (qX [(n%18446744073709551616).toNat])) e).1.2.1:=by
  have:=bEK (decide (n<0)) (nv (qX [(n%18446744073709551616).toNat])) e;unfold bDo;revert this;cases aXC (decide (n<0)) (nv (qX [(n%18446744073709551616).toNat])) e with
  | inl d=>exact fun h=>h
  | inr p=>exact fun h x f=>by cases f
 exact(Tot.of (P:=fun r=>Lm r.1.2.1) (bIo _ _ _ (show Lm (qX [(n%18446744073709551616).toNat]) from aMZ _) (aHy _) (by omega)) hF).bind fun r g=>.ret g
end Nu
end Go.Proofs
namespace Go.Proofs
open Go.Vc
set_option maxRecDepth 20000
namespace Nu
theorem Tot.loop{D E:Type}{step:D→Option (D⊕E)}{P:E→Prop}(I:D→Prop)(f:D→Nat)(h:∀d,I d→Tot (step d) (fun q=>match q with| .inl g=>I g∧f g<f d| .inr e=>P e)){d:D}(h0:I d):Tot (dE none step d) P :=
 mC f P (fun d hd=>by
  obtain⟨q,e,hq⟩:=h d hd;grind) d h0
theorem bCa(a b:Dy)(n:Int)(q:Lm a.2.1)(f:Lm b.2.1)(z:0≤n∧n<9223372036854775808):Tot (lW none a b n) (fun _=>True):=by
 unfold lW;exact(bL9 n 0 z rfl).bind fun v hv=>(bKz b v.1 f hv).bind fun w g=>.ck (fun _=>(bEJ a w.1 q g).aIK) (.ret trivial)
theorem bFK(s:List Nat)(hs:s.length≤9223372036854775807):Tot (aAe none s) (fun r=>Lm r.1.2.1∧(r.2.1=0→fm s=true)):=by
 refine .of (bIs s hs) ?_;unfold bDq;split
 ·exact⟨fun x f=>(by cases f),fun h=>absurd (show (6:Int)=0 from h) xAa⟩
 ·rename_i g;split
  ·exact⟨fun x f=>(by cases f),fun h=>absurd (show (6:Int)=0 from h) xAa⟩
  ·refine⟨?_,fun _=>Classical.not_not.1 g⟩;show Lm (aYn _ _).2.1;unfold aYn;split
   ·exact fun x f=>by cases f
   ·exact aMZ _
abbrev rK:Type:=List Nat×List (List Nat×(List Nat×List Nat×Unit)×Ex×Unit)×List (List Nat×(List Nat×List Nat×Unit)×Unit)×List qd×List (List Nat×Ex×Unit)×Unit
abbrev TSc:Type:=Int×Int×Int×Int×List Nat×List Nat×List Nat×List Nat×List rK×List (List Nat×List Nat×List Nat×List Nat×Unit)×Unit
def bKA(s:TSc):Prop:=(8≤s.1∧s.1≤200)∧(1≤s.2.1∧s.2.1≤20)∧(0≤s.2.2.1∧s.2.2.1≤3)∧(s.2.2.2.1=1∨s.2.2.2.1=2)∧fm s.2.2.2.2.1=true∧fm s.2.2.2.2.2.1=true∧fm s.2.2.2.2.2.2.1=true∧fm s.2.2.2.2.2.2.2.1=true
theorem bCb(s:TSc)(h1:s.2.2.2.2.1.length≤9223372036854775807)(h2:s.2.2.2.2.2.1.length≤9223372036854775807)(Z:s.2.2.2.2.2.2.1.length≤9223372036854775807)(h4:s.2.2.2.2.2.2.2.1.length≤9223372036854775807):Tot (uL none s) (fun b=>b=true→bKA s):=by
 unfold uL;refine .ite (fun _=>.ret fun h=>by cases h) fun Y=>?_;refine Tot.bind (P:=fun e=>match e with| .inl l=>(l.length=4∧ ∀d∈l,Lm (d:Dy).2.1)∧ ∀k:Nat,k<4→fm (([s.2.2.2.2.1,s.2.2.2.2.2.1,s.2.2.2.2.2.2.1,s.2.2.2.2.2.2.2.1]:List qd).getD k [])=true| .inr b=>b=true→bKA s) ?_ fun e L=>?_
 ·refine Tot.loop (fun d:Int×List Dy=>0≤d.1∧d.1≤4∧d.2.length=d.1.toNat∧(∀x∈d.2,Lm x.2.1)∧ ∀k:Nat,k<d.1.toNat→fm (([s.2.2.2.2.1,s.2.2.2.2.2.1,s.2.2.2.2.2.2.1,s.2.2.2.2.2.2.2.1]:List qd).getD k [])=true) (fun d=>(4-d.1).toNat) ?_ ⟨by decide,by decide,rfl,(fun x I=>by cases I),fun k f=>absurd f (Nat.not_lt_zero k)⟩;rintro⟨i,l⟩ ⟨i0,i1,J,U,z⟩;have i0:0≤i:=i0;have i1:i≤4:=i1;have J:l.length=i.toNat:=J;have z:∀k:Nat,k<i.toNat→fm (([s.2.2.2.2.1,s.2.2.2.2.2.1,s.2.2.2.2.2.2.1,s.2.2.2.2.2.2.2.1]:List qd).getD k [])=true:=z;show Tot (tI none s i l) _;unfold tI;refine .ite (fun hi=>.ck ⟨i0,hi⟩ ?_) fun hi=>.ret ⟨⟨by omega,U⟩,fun k f=>z k (by omega)⟩;have I:(([s.2.2.2.2.1,s.2.2.2.2.2.1,s.2.2.2.2.2.2.1,s.2.2.2.2.2.2.2.1]:List qd).getD i.toNat []).length≤9223372036854775807:=by
   grind
  refine(bFK _ I).bind fun v hv=>.ck (fun _=>(aWu _).aIK) (.ite (fun _=>.ret fun h=>by cases h) fun O=>.ck (by omega) (.ck (by omega) (.ret ⟨⟨by omega,by omega,?_,?_,fun k f=>?_⟩,?_⟩)))
  all_goals grind
 ·cases e with
  | inr b=>exact .ret L
  | inl l =>
   obtain⟨⟨hl,hd⟩,q⟩:=L;have g:∀k,k<4→Lm (l.getD k (false,[],0,())).2.1:=fun k f=>by
    grind
   show Tot (pA none l) _;unfold pA;have N:bKA s:=⟨by omega,by omega,by omega,by omega,q 0 xAa,q 1 xAa,q 2 xAa,q 3 xAa⟩;exact .ck (by omega) (.ck (by omega) ((bEJ _ _ (g 2 xAa) (g 1 xAa)).bind fun v _=>.ck (fun _=>by omega) (.ck (fun _=>by omega) (.ck (fun _=>(bCa _ _ _ (g 0 xAa) (g 1 xAa) xAa).aIK) (.ck (fun _=>by omega) (.ck (fun _=>by omega) (.ck (fun _=>(bCa _ _ _ (g 1 xAa) (g 2 xAa) xAa).aIK) (.ret fun _=>N))))))))
def sg(w:List Nat):List Nat:=if ([45]:List Nat).isPrefixOf w then w.drop 1 else w
theorem bIu(w:List Nat):(sg w).length≤w.length:=by
 unfold sg;grind
theorem bLa(w:List Nat)(h:w.length≤9223372036854775807):Tot (gF none w (aR ⟨#[45]⟩)) (fun b=>b=([45]:List Nat).isPrefixOf w):=by
 unfold gF;rw[show aR ⟨#[45]⟩= [45] from rfl];refine .ck (fun h=>⟨by omega,h⟩) (.ret ?_);cases w with
 | nil=>rfl
 | cons a r =>
  grind
theorem aXD(s:List Nat)(hs:s.length≤9223372036854775807):Tot (oA none s (aR ⟨#[45]⟩)) (fun r=>r.1=sg s):=by
 unfold oA lP;refine Tot.bind (P:=fun r=>r.1=sg s) ?_ fun r f=>.ret f;refine(bLa s hs).bind fun b hb=>?_;subst hb;refine .ite (fun h=>.ret ?_) fun h=>.ck ?_ (.ret ?_)
 ·simp_all[sg,if_neg]
 ·have:=(List.isPrefixOf_iff_prefix.1 (Classical.not_not.1 h)).length_le;simp at this;exact⟨by decide,by show (1:Int)≤_; omega⟩
 ·unfold sg;rw[if_pos (Classical.not_not.1 h)];rfl
theorem aYo(s:List Nat)(hs:s.length≤9223372036854775807):Tot (vN none s) (fun r=>(r.2.1.length≤15∧r.2.2.1.length≤15)∧(r.2.2.2.1=true→fm (sg s)=true)):=by
 unfold vN;refine(aXD s hs).bind fun v hv=>Tot.bind (P:=fun r=>(r.1.length≤15∧r.2.1.length≤15)∧(r.2.2.1=true→fm (sg s)=true)) (.of (bIr v.1 (by grind[Nat.le_trans,bIu])) ?_) fun r f=>.ret f;rw[hv];refine⟨by grind[bKw,aOD,bKu,bKv],fun h=>?_⟩;unfold bKw at h;split at h
 ·assumption
 grind
theorem aWv(r:List Nat×List Nat×Unit)(g:r.1.length≤9223372036854775807)(z:r.2.1.length≤9223372036854775807):Tot (lQ none r) (fun b=>b=true→fm (sg r.1)=true∧(r.2.1= []∨fm (sg r.2.1)=true)):=by
 have j:∀hi:List Nat,hi.length≤9223372036854775807→Tot (nM none r hi) (fun b=>b=true→fm (sg r.1)=true∧fm (sg hi)=true):=fun hi I=>by
  unfold nM;refine(aYo _ g).bind fun v hv=>(aYo _ I).bind fun w q=>.ck ⟨by omega,by omega⟩ (.ck ⟨by omega,by omega⟩ (.ck ⟨aHy _,aHy _⟩ (.ite (fun _=>.ret fun h=>by cases h) fun f=>?_)));have K:fm (sg r.1)=true∧fm (sg hi)=true:=⟨hv.2 (Classical.not_not.1 fun h=>f (.inl h)),q.2 (Classical.not_not.1 fun h=>f (.inr h))⟩;exact .ite (fun _=>.ret fun _=>K) fun _=>.ite (fun _=>.ret fun _=>K) fun _=>.ret fun _=>K
 unfold lQ;exact .ite (fun h=>(j _ g).mono fun b hb ht=>⟨(hb ht).1,.inl h⟩) fun _=>(j _ z).mono fun b hb ht=>⟨(hb ht).1,.inr (hb ht).2⟩
def T8(w:List Nat):Prop:=w.length≤9223372036854775807∧ ∀c∈w,c<256
theorem T8.take{w:List Nat}(h:T8 w)(k:Nat):T8 (w.take k):=⟨by rw[List.length_take]; have:=h.1; omega,fun c hc=>h.2 c (List.mem_of_mem_take hc)⟩
theorem T8.drop{w:List Nat}(h:T8 w)(k:Nat):T8 (w.drop k):=⟨by rw[List.length_drop]; have:=h.1; omega,fun c hc=>h.2 c (List.mem_of_mem_drop hc)⟩
theorem T8.nil:T8 []:=⟨by decide,fun c hc=>by cases hc⟩
theorem xU{α:Type}(z:α){l:List α}{k:Nat}(h:k<l.length):l.getD k z∈l:=by
 simp_all
theorem Tot.imp{α:Type}{o:Option α}{P:α→Prop}(h:Tot o P):Tot o (fun _=>True):=h.mono fun _ _=>trivial
theorem bEL{A:List Bool}{c:Nat}(hc:c<256):Tot (dF none A c) (fun _=>True):=by
 unfold dF;exact .ck (by omega) (.ret trivial)
theorem bKB(cs:List Nat)(h:∀c∈cs,c<128)(q:cs.length≤1000):Tot (dJ none cs) (fun r=>r.2.1=true):=by
 unfold dJ;refine Tot.bind (P:=fun e=>match e with| .inl _=>True| .inr r=>r.2.1=true) (Tot.loop (fun d:Int×List Bool=>0≤d.1∧d.1≤cs.length) (fun d=>((cs.length:Int)-d.1).toNat) ?_ ⟨by decide,by omega⟩) fun e f=>?_
 ·rintro⟨i,A⟩ ⟨i0,i1⟩;have i0:0≤i:=i0;have i1:i≤cs.length:=i1;show Tot (kR none cs i A) _;unfold kR;refine .ite (fun hi=>.ck ⟨i0,hi⟩ ?_) fun _=>.ret trivial;have hc:=h _ (xU 0 (l:=cs) (k:=i.toNat) (by omega));refine .ite (fun g=>by omega) fun _=>.ck (by omega) (.ck (by omega) (.ret ⟨⟨by omega,by omega⟩,by omega⟩))
 ·cases e with
  | inl A=>exact .ret rfl
  | inr r=>exact .ret f
theorem bKC(s:List Nat)(A:List Bool)(hs:T8 s):Tot (dG none s A) T8:=by
 unfold dG;refine Tot.bind (Tot.loop T8 (fun d=>d.length) ?_ hs) fun e f=>.ret f;intro d hd;show Tot (cM none A d) _;unfold cM;have g:=hd.1;refine .ite (fun h=>.ck (by omega) (.ck (by omega) ((bEL (hd.2 _ (xU 0 (by omega)))).bind fun v _=>.ite (fun _=>.ret hd) fun _=>.ck (by omega) (.ck (by omega) (.ret ⟨hd.take _,?_⟩))))) fun _=>.ret hd;grind
theorem bKD(s:List Nat)(A:List Bool)(hs:T8 s):Tot (dO none s A) T8:=by
 unfold dO;refine Tot.bind (Tot.loop T8 (fun d=>d.length) ?_ hs) fun e f=>.ret f;intro d hd;show Tot (cT none A d) _;unfold cT;refine .ite (fun h=>.ck h ((bEL (hd.2 _ (xU 0 (by omega)))).bind fun v _=>.ite (fun _=>.ret hd) fun _=>.ck (by omega) (.ret ⟨hd.drop _,?_⟩))) fun _=>.ret hd;grind
theorem bIv(s cs:List Nat)(hs:T8 s)(h:∀c∈cs,c<128)(z:2≤cs.length)(f:cs.length≤1000):Tot (iH none s cs) (fun _=>True):=by
 unfold iH;refine .ite (fun _=>.ret trivial) fun _=>.ck (fun h=>by omega) (.ite (fun h=>absurd h.1 (by omega)) fun _=>(bKB cs h f).bind fun v hv=>.ite (fun _=>(bKC s _ hs).bind fun a q=>(bKD a _ q).bind fun b _=>.ret trivial) fun g=>absurd hv g)
theorem bIw(w:List Nat)(f:T8 w):Tot (cR none w) (fun _=>True):=by
 unfold cR;refine .ck (fun h=>by omega) (.ck (fun h=>by omega) (.ite (fun _=>.ret trivial) fun _=>(bIv w _ f xAa xAa xAa).bind fun v _=>.ck (fun _=>rfl) (.ck (fun _=>?_) (.ret trivial))));simp_all[mO,Option.getD_some,contains_eq]
theorem bEM(x:List Nat):∀A:List (List Nat×Bool),aAp .str (aCw .str A x true) x=some true
 | []=>if_pos (decide_eq_true rfl)
 | (k,v)::A=>by
  show aAp .str (if Ty.eqb .str x k=true then _ else _) x=_;split
  ·rename_i h;exact if_pos h
  ·rename_i h;exact(if_neg h).trans (bEM x A)
theorem bEN(x y:List Nat):∀A:List (List Nat×Bool),aAp .str A y=some true→aAp .str (aCw .str A x true) y=some true
 | [],h=>by cases h
 | (k,v)::A,h=>by
  have h:(if Ty.eqb .str y k=true then some v else aAp .str A y)=some true:=h;show aAp .str (if Ty.eqb .str x k=true then _ else _) y=_;split
  ·show (if Ty.eqb .str y k=true then some true else aAp .str A y)=_;grind
  ·show (if Ty.eqb .str y k=true then some v else aAp .str (aCw .str A x true) y)=_;split
   ·simp_all
   ·rename_i f;rw[if_neg f] at h;exact bEN x y A h
theorem Tot.self{α:Type}{o:Option α}{P:α→Prop}(h:Tot o P):Tot o (fun r=>o=some r∧P r):=by
 obtain⟨r,e,f⟩:=h;exact⟨r,e,e,f⟩
theorem aYp(l:List qd)(h:∀x∈l,T8 x)(N:l.length≤100000):Tot (sL none l) (fun b=>b=true→(∀x∈l,cR none x=some true)∧l.Nodup):=by
 unfold sL;refine Tot.bind (P:=fun e=>match e with| .inl _=>(∀x∈l,cR none x=some true)∧l.Nodup| .inr b=>b=false) (Tot.loop (fun d:Int×List (List Nat×Bool)=>0≤d.1∧d.1≤l.length∧(∀x∈l.take d.1.toNat,cR none x=some true∧aAp .str d.2 x=some true)∧(l.take d.1.toNat).Nodup) (fun d=>((l.length:Int)-d.1).toNat) ?_ ⟨by decide,by omega,(fun x f=>by cases f),List.nodup_nil⟩) fun e L=>?_
 ·rintro⟨i,A⟩ ⟨i0,i1,g,I⟩;have i0:0≤i:=i0;have i1:i≤l.length:=i1;have g:∀x∈l.take i.toNat,cR none x=some true∧aAp .str A x=some true:=g;have I:(l.take i.toNat).Nodup:=I;show Tot (wG none l i A) _;unfold wG;refine .ite (fun hi=>.ck ⟨i0,hi⟩ ((bIw _ (h _ (xU [] (by omega)))).self.bind fun v hv=>.ite (fun _=>.ret rfl) fun J=>.ck (by omega) (.ret ⟨⟨by omega,by omega,?_,?_⟩,by omega⟩))) fun hi=>.ret ?_
  ·have z:v=true:=Classical.not_not.1 fun q=>J (.inl q);have hv:=hv.1;rw[z] at hv;intro x f;rw[show (i+1).toNat=i.toNat+1 from by omega,sC [] (show i.toNat<l.length by omega)] at f;rcases List.mem_append.1 f with f|f
   ·exact⟨(g x f).1,bEN _ _ _ (g x f).2⟩
   ·rw[List.mem_singleton.1 f];exact⟨hv,bEM _ _⟩
  ·show (l.take (i+1).toNat).Nodup;rw[show (i+1).toNat=i.toNat+1 from by omega,sC [] (show i.toNat<l.length by omega),List.nodup_append];grind
  grind[List.take_of_length_le]
 ·cases e with
  | inl u=>exact .ret fun _=>L
  | inr b=>exact .ret fun h=>by simp_all
theorem Tot.idx{X E:Type}(n:Nat)(I:X→Nat→Prop){step:Int×X→Option ((Int×X)⊕E)}{P:E→Prop}(z:n≤1000000)
  (h:∀(i:Int) (x:X),0≤i→i<n→I64 (i+1)→I x i.toNat→Tot (step (i,x)) (fun q=>match q with| .inl d=>d.1=i+1∧I d.2 (i.toNat+1)| .inr e=>P e))
  (f:∀(x:X),I x n→Tot (step ((n:Int),x)) (fun q=>match q with| .inl d=>False| .inr e=>P e)) {x:X} (h0:I x 0):Tot (dE none step ((0:Int),x)) P:=by
 refine Tot.loop (fun d:Int×X=>(0:Int)≤d.1∧d.1≤(n:Int)∧I d.2 d.1.toNat) (fun d=>((n:Int)-d.1).toNat) ?_ ⟨Int.le_refl 0,by omega,h0⟩;rintro⟨i,x⟩ ⟨i0,i1,g⟩;have i0:0≤i:=i0;have i1:i≤n:=i1;rcases Int.lt_or_le i n with hi|hi
 ·refine(h i x i0 hi (by omega) g).mono fun q hq=>?_;grind
 ·have:i=n:=by omega
  subst this;grind[mono]
theorem Tot.idx1{E:Type}(n:Nat){step:Int→Option (Int⊕E)}{P:E→Prop}(g:n≤1000000)
  (h:∀(i:Int),0≤i→i<n→I64 (i+1)→Tot (step i) (fun q=>match q with| .inl d=>d=i+1| .inr e=>P e))
  (f:Tot (step (n:Int)) (fun q=>match q with| .inl d=>False| .inr e=>P e)):Tot (dE none step (0:Int)) P:=by
 refine Tot.loop (fun d:Int=>(0:Int)≤d∧d≤(n:Int)) (fun d=>((n:Int)-d).toNat) ?_ ⟨Int.le_refl 0,by omega⟩;grind[Int.lt_or_le,mono]
def OkE(e:Ex):Prop:=∃n,n≤64∧fits n e∧nd n e≤1000
theorem aS0(e:Ex)(names:List qd)(I:OkE e)(q:names.length≤1000):Tot (cU none e names) (fun _=>True):=by
 obtain⟨n,f,g,z⟩:=I;unfold cU;exact(Tot.of (P:=fun _=>True) (bH5 g f z) trivial).bind fun v _=>.ck (fun _=>by rw[aZ6 names q n 64 e f g]; rfl) (.ret trivial)
theorem bKE(l:List (List Nat×Ex×Unit))(names:List qd)(I:∀x∈l,OkE x.2.1)(g:names.length≤1000)(z:l.length≤1000):Tot (bW none l (names,())) (fun b=>b=false→ ∀x∈l,cU none x.2.1 names=some true):=by
 unfold bW cZ;refine Tot.bind (P:=fun r:Int=>r<0→ ∀x∈l,cU none x.2.1 names=some true) (Tot.bind (P:=fun e=>match e with| .inl _=>∀x∈l,cU none x.2.1 names=some true| .inr r=>0≤r) (Tot.loop (fun i:Int=>0≤i∧i≤l.length∧ ∀x∈l.take i.toNat,cU none x.2.1 names=some true) (fun i=>((l.length:Int)-i).toNat) ?_ ⟨Int.le_refl 0,by omega,fun x f=>by cases f⟩) fun e q=>?_) fun v hv=>.ret fun h=>hv (by simp_all)
 ·rintro i ⟨i0,i1,J⟩;unfold dR;refine .ite (fun hi=>.ck ⟨i0,hi⟩ ?_) fun hi=>.ret ?_
  ·refine Tot.bind (P:=fun b=>cU none (l.getD i.toNat ([],(Ex.mk 0 [] []),())).2.1 names=some (!b)) ?_ fun v hv=>.ite (fun _=>.ret i0) fun g=>.ck (by omega) (.ret ⟨⟨by omega,by omega,fun x f=>?_⟩,by omega⟩)
   ·unfold wJ;exact(aS0 _ names (I _ (xU _ (by omega))) g).self.bind fun v hv=>.ret (by simp_all)
   ·rw[show (i+1).toNat=i.toNat+1 from by omega,sC (([]:List Nat),(Ex.mk 0 [] []),()) (show i.toNat<l.length by omega)] at f;grind
  grind[List.take_of_length_le]
 ·cases e with
  | inl u=>exact .ret fun _=>q
  | inr r=>exact .ret fun h=>absurd q (by omega)
def TL(n:Nat)(l:List qd):Prop:=l.length≤n∧ ∀x∈l,T8 x
theorem TL.app{n m:Nat}{a b:List qd}(h:TL n a)(k:TL m b):TL (n+m) (a++b):=⟨by rw[List.length_append]; have:=h.1; have:=k.1; omega,fun x f=>(List.mem_append.1 f).elim (h.2 x) (k.2 x)⟩
theorem TL.one{w:List Nat}(h:T8 w):TL 1 [w]:=⟨Nat.le_refl 1,fun x f=>by simp_all⟩
theorem TL.up{n m:Nat}{a:List qd}(h:TL n a)(k:n≤m):TL m a:=⟨Nat.le_trans h.1 k,h.2⟩
structure bCc(s:rK):Prop where
 n:T8 s.1
 x:s.2.1.length≤4000∧ ∀a∈s.2.1,T8 a.1∧T8 a.2.1.1∧T8 a.2.1.2.1∧OkE a.2.2.1
 p:s.2.2.1.length≤4000∧ ∀a∈s.2.2.1,T8 a.1∧T8 a.2.1.1∧T8 a.2.1.2.1
 u:TL 4000 s.2.2.2.1
 o:s.2.2.2.2.1.length≤4000∧ ∀a∈s.2.2.2.2.1,T8 a.1∧OkE a.2.1
theorem Tot.eq{α:Type}{o:Option α}{r:α}(h:Tot o (fun x=>x=r)):o=some r:=by
 obtain⟨x,e,rfl⟩:=h;exact e
theorem bIx(s:rK)(J:s.2.1.length≤1000)(hp:s.2.2.1.length≤1000):bH none s=some (s.2.1.map (·.1),s.2.2.1.map (·.1),s.2.2.2.1,()):=by
 refine Tot.eq ?_;unfold bH;refine Tot.bind (P:=fun l=>l=s.2.1.map (·.1)) (Tot.idx s.2.1.length (fun l i=>l=(s.2.1.take i).map (·.1)) (by omega) (fun i l i0 hi g f=>?_) (fun l f=>?_) rfl) fun l I=>?_
 ·show Tot (pC none s i l) _;unfold pC;have I:l.length≤1000:=by grind
  refine .ite (fun _=>.ck ⟨i0,hi⟩ (.ck (by omega) (.ck g (.ret ⟨rfl,?_⟩)))) fun z=>absurd hi z;rw[sC (([]:List Nat),(([]:List Nat),([]:List Nat),()),(Ex.mk 0 [] []),()) (show i.toNat<s.2.1.length by omega),List.map_append,← f];rfl
 ·show Tot (pC none s _ l) _;unfold pC;rw[List.take_length] at f;exact .ite (fun z=>absurd z (by omega)) fun _=>.ret f
 ·subst I;unfold wF;refine Tot.bind (P:=fun l=>l=s.2.2.1.map (·.1)) (Tot.idx s.2.2.1.length (fun l i=>l=(s.2.2.1.take i).map (·.1)) (by omega) (fun i l i0 hi g f=>?_) (fun l f=>?_) rfl) fun q hq=>?_
  ·show Tot (pB none s i l) _;unfold pB;have I:l.length≤1000:=(by grind);refine .ite (fun _=>.ck ⟨i0,hi⟩ (.ck (by omega) (.ck g (.ret ⟨rfl,?_⟩)))) fun z=>absurd hi z;rw[sC (([]:List Nat),(([]:List Nat),([]:List Nat),()),()) (show i.toNat<s.2.2.1.length by omega),List.map_append,← f];rfl
  ·show Tot (pB none s _ l) _;unfold pB;rw[List.take_length] at f;exact .ite (fun z=>absurd z (by omega)) fun _=>.ret f
  ·subst hq;exact .ret rfl
theorem bFL(a b c:List qd)(ha:a.length≤1000)(hb:b.length≤1000)(hc:c.length≤1000):cC none [a,b,c]=some (a++(b++c)):=by
 refine Tot.eq ?_;have g:∀i:Int,0≤i→i<(3:Nat)→(([a,b,c]:List q8).getD i.toNat []).length≤1000:=fun i N O=>by
  grind
 unfold cC;refine Tot.bind (P:=fun k:Int=>0≤k∧k≤3000) ?_ fun k Z=>?_
 ·refine Tot.loop (fun d:Int×Int=>0≤d.2∧d.2≤3∧0≤d.1∧d.1≤1000*d.2) (fun d=>(3-d.2).toNat) ?_ ⟨by decide,by decide,by decide,by decide⟩;rintro⟨k,i⟩ ⟨i0,i1,I,L⟩;have i0:0≤i:=i0;have i1:i≤3:=i1;have I:0≤k:=I;have L:k≤1000*i:=L;show Tot (kU none [a,b,c] k i) _;unfold kU;refine .ite (fun hi=>?_) fun _=>.ret ⟨I,by omega⟩;have q:i<(3:Nat):=hi;have:=g i i0 q;exact .ck ⟨i0,hi⟩ (.ck (by omega) (.ite (fun f=>by omega) fun _=>.ck (by omega) (.ret ⟨⟨by omega,by omega,by omega,by omega⟩,by omega⟩)))
 ·unfold kT mP;refine Tot.bind (P:=fun r=>r= []) (.ck (by omega) (.ret rfl)) fun r U=>?_;subst U;refine Tot.bind (P:=fun l=>l=a++(b++c)) (Tot.idx 3 (fun l i=>l=((([a,b,c]:List q8).take i).flatten)) xAa (fun i l i0 hi z J=>?_) (fun l J=>?_) rfl) fun l Y=>.ret Y
  ·show Tot (gQ none [a,b,c] i l) _;unfold gQ;have O:=g i i0 hi;have N:l.length≤2000∧l++([a,b,c]:List q8).getD i.toNat []=(([a,b,c]:List q8).take (i.toNat+1)).flatten:=by
    rw[J];rcases (by omega:i=0∨i=1∨i=2) with rfl|rfl|rfl
    all_goals grind
   exact .ite (fun f=>.ck ⟨i0,f⟩ (.ck (by omega) (.ck z (.ret ⟨rfl,N.2⟩)))) fun f=>absurd hi f
  simp_all[Tot,gQ,ite,absurd]
def nmS(s:rK):List qd:=s.2.1.map (·.1)++(s.2.2.1.map (·.1)++s.2.2.2.1)
def RgF(r:List Nat×List Nat×Unit):Prop:=fm (sg r.1)=true∧(r.2.1= []∨fm (sg r.2.1)=true)
structure bFM(s:rK):Prop where
 b:s.2.1.length≤6∧s.2.2.1.length≤6∧s.2.2.2.1.length≤4∧s.2.2.2.2.1.length≤4
 n:(∀x∈nmS s++s.2.2.2.2.1.map (·.1),cR none x=some true)∧(nmS s++s.2.2.2.2.1.map (·.1)).Nodup
 x:∀a∈s.2.1,RgF a.2.1∧cU none a.2.2.1 (nmS s)=some true
 p:∀a∈s.2.2.1,RgF a.2.1
 o:∀a∈s.2.2.2.2.1,cU none a.2.1 (nmS s)=some true
theorem bDr(s:rK)(h:bCc s):Tot (wK none s) (fun b=>b=true→bFM s):=by
 unfold wK;refine .ite (fun _=>.ret fun h=>by cases h) fun hb=>?_;have f:=h.x.1;have hx6:s.2.1.length≤6:=by omega
 have hp6:s.2.2.1.length≤6:=by omega
 have Y:s.2.2.2.1.length≤4:=by omega
 have U:s.2.2.2.2.1.length≤4:=by omega
 have N:=bIx s (by omega) (by omega);have C:=bFL (s.2.1.map (·.1)) (s.2.2.1.map (·.1)) s.2.2.2.1 (by grind) (by grind) (by omega);have nl:(nmS s).length≤16:=by
  grind[nmS]
 have n8:∀x∈nmS s,T8 x:=fun x f=>by
  unfold nmS at f;rcases List.mem_append.1 f with f|f
  ·obtain⟨a,z,rfl⟩:=List.mem_map.1 f;exact(h.x.2 a z).1
  ·rcases List.mem_append.1 f with f|f
   ·obtain⟨a,z,rfl⟩:=List.mem_map.1 f;exact(h.p.2 a z).1
   ·exact h.u.2 x f
 simp only[N,Option.getD_some,Option.isSome_some,C];refine .ck trivial (.ck trivial (.ck (show bHU (nmS s) from by omega) ?_));refine Tot.bind (P:=fun l=>l=nmS s++s.2.2.2.2.1.map (·.1)) (Tot.idx s.2.2.2.2.1.length (fun l i=>l=nmS s++(s.2.2.2.2.1.take i).map (·.1)) (by omega) (fun i l i0 hi O J=>?_) (fun l J=>?_) (show id (nmS s)=nmS s++ [] by simp_all)) fun all I=>?_
 ·show Tot (qN none s i l) _;unfold qN;have hl:l.length≤1000:=by
   grind
  refine .ite (fun _=>.ck ⟨i0,hi⟩ (.ck (by omega) (.ck O (.ret ⟨rfl,?_⟩)))) fun hh=>absurd hi hh;rw[sC (([]:List Nat),(Ex.mk 0 [] []),()) (show i.toNat<s.2.2.2.2.1.length by omega),List.map_append,← List.append_assoc,← J];rfl
 ·show Tot (qN none s _ l) _;unfold qN;rw[List.take_length] at J;exact .ite (fun hh=>absurd hh (by omega)) fun _=>.ret J
 ·subst I;unfold zE;have L:=aYp (nmS s++s.2.2.2.2.1.map (·.1)) (fun x f=>by
   rcases List.mem_append.1 f with f|f
   ·simp_all
   ·obtain⟨a,z,rfl⟩:=List.mem_map.1 f;exact(h.o.2 a z).1) (by grind)
  refine .ck L.aIK (.ite (fun _=>.ret fun h=>by cases h) fun g=>?_);have L:=L.get false (Classical.not_not.1 g);refine Tot.bind (P:=fun e=>match e with| .inl _=>∀a∈s.2.1,RgF a.2.1∧cU none a.2.2.1 (nmS s)=some true| .inr b=>b=false) (Tot.loop (fun i:Int=>0≤i∧i≤s.2.1.length∧ ∀a∈s.2.1.take i.toNat,RgF a.2.1∧cU none a.2.2.1 (nmS s)=some true) (fun i=>((s.2.1.length:Int)-i).toNat) ?_ ⟨Int.le_refl 0,by omega,fun x f=>by cases f⟩) fun e he=>?_
  ·rintro i ⟨i0,i1,i2⟩;unfold aBN;simp only[N,Option.getD_some,C];refine .ite (fun hi=>.ck ⟨i0,hi⟩ ?_) fun hi=>.ret (by grind[List.take_of_length_le]);obtain⟨q1,Z,q3,q4⟩:=h.x.2 _ (xU (([]:List Nat),(([]:List Nat),([]:List Nat),()),(Ex.mk 0 [] []),()) (l:=s.2.1) (k:=i.toNat) (by omega));have R:=aWv _ Z.1 q3.1;have M:=(aS0 _ (nmS s) q4 (by omega)).self;refine .ck R.aIK (.ck (fun _=>M.aIK) (.ite (fun _=>.ret rfl) fun g=>.ck (by omega) (.ret ⟨⟨by omega,by omega,fun x f=>?_⟩,by omega⟩)));rw[show (i+1).toNat=i.toNat+1 from by omega,sC (([]:List Nat),(([]:List Nat),([]:List Nat),()),(Ex.mk 0 [] []),()) (show i.toNat<s.2.1.length by omega)] at f;rcases List.mem_append.1 f with f|f
   ·grind
   ·rw[List.mem_singleton.1 f];have r:=R.get false (Classical.not_not.1 fun q=>g (.inl q));obtain⟨v,hv,hv2,_⟩:=M;have:v=true:=by
     have q:(cU none (s.2.1.getD i.toNat ([],([],[],()),(Ex.mk 0 [] []),())).2.2.1 (nmS s)).getD false=true:=Classical.not_not.1 fun q=>g (.inr q);simp_all
    exact⟨r,by simp_all⟩
  ·cases e with
   | inr b=>exact .ret fun h=>by simp_all
   | inl u =>
    show Tot (uY none s) _;unfold uY;simp only[N,Option.getD_some,C];refine Tot.bind (P:=fun e=>match e with| .inl _=>∀a∈s.2.2.1,RgF a.2.1| .inr b=>b=false) (Tot.loop (fun i:Int=>0≤i∧i≤s.2.2.1.length∧ ∀a∈s.2.2.1.take i.toNat,RgF a.2.1) (fun i=>((s.2.2.1.length:Int)-i).toNat) ?_ ⟨Int.le_refl 0,by omega,fun x f=>by cases f⟩) fun e hp=>?_
    ·rintro i ⟨i0,i1,i2⟩;unfold aBM;refine .ite (fun hi=>.ck ⟨i0,hi⟩ ?_) fun hi=>.ret (by grind[List.take_of_length_le]);obtain⟨q1,Z,q3⟩:=h.p.2 _ (xU (([]:List Nat),(([]:List Nat),([]:List Nat),()),()) (l:=s.2.2.1) (k:=i.toNat) (by omega));have R:=aWv _ Z.1 q3.1;refine .ck R.aIK (.ite (fun _=>.ret rfl) fun g=>.ck (by omega) (.ret ⟨⟨by omega,by omega,fun x f=>?_⟩,by omega⟩));rw[show (i+1).toNat=i.toNat+1 from by omega,sC (([]:List Nat),(([]:List Nat),([]:List Nat),()),()) (show i.toNat<s.2.2.1.length by omega)] at f;rcases List.mem_append.1 f with f|f
     ·grind
     ·rw[List.mem_singleton.1 f];exact R.get false (Classical.not_not.1 g)
    ·cases e with
     | inr b=>exact .ret fun h=>by simp_all
     | inl u =>
      have Q:=bKE s.2.2.2.2.1 (nmS s) (fun x f=>(h.o.2 x f).2) (by omega) (by omega);refine .ck Q.aIK (.ret fun hq=>⟨⟨hx6,hp6,Y,U⟩,L,he,hp,Q.get false ?_⟩);have:=hq;simp at this;exact this
abbrev TLk:Type:=List Nat×List Nat×List Nat×List Nat×Unit
structure bDs(s:TSc):Prop where
 e:T8 s.2.2.2.2.1
 h0:T8 s.2.2.2.2.2.1
 hm:T8 s.2.2.2.2.2.2.1
 t:T8 s.2.2.2.2.2.2.2.1
 sb:s.2.2.2.2.2.2.2.2.1.length≤4000∧ ∀a∈s.2.2.2.2.2.2.2.2.1,bCc a
 l:s.2.2.2.2.2.2.2.2.2.1.length≤4000
theorem bIy(s:TSc)(h:bDs s)(w:List Nat):Tot (aAE none s w) (fun r=>r<0∨((0≤r∧r<s.2.2.2.2.2.2.2.2.1.length)∧(s.2.2.2.2.2.2.2.2.1.getD r.toNat ([],[],[],[],[],())).1=w)):=by
 unfold aAE;refine Tot.bind (P:=fun e=>match e with| .inl _=>True| .inr r=>(0≤r∧r<s.2.2.2.2.2.2.2.2.1.length)∧(s.2.2.2.2.2.2.2.2.1.getD r.toNat ([],[],[],[],[],())).1=w) (Tot.idx1 s.2.2.2.2.2.2.2.2.1.length (by have:=h.sb.1; omega) (fun i i0 hi f=>?_) ?_) fun e z=>?_
 ·unfold yE;exact .ite (fun _=>.ck ⟨i0,hi⟩ (.ite (fun q=>.ret ⟨⟨i0,hi⟩,q⟩) fun _=>.ck f (.ret rfl))) fun g=>absurd hi g
 ·unfold yE;exact .ite (fun g=>absurd g (by omega)) fun _=>.ret trivial
 ·cases e with
  | inl u=>exact .ret (.inl xAa)
  | inr r=>exact .ret (.inr z)
theorem bKF(l:List (List Nat×Ex×Unit))(k:List TLk)(z:0<k.length)(q:l.length≤4000):Tot (bM none l (k,())) (fun b=>b=true→ ∃o∈l,o.1=(k.getD 0 ([],[],[],[],())).2.2.2.1):=by
 unfold bM dA;refine Tot.bind (P:=fun r:Int=>0≤r→ ∃o∈l,o.1=(k.getD 0 ([],[],[],[],())).2.2.2.1) (Tot.bind (P:=fun e=>match e with| .inl _=>True| .inr r=>∃o∈l,o.1=(k.getD 0 ([],[],[],[],())).2.2.2.1) (Tot.idx1 l.length (by omega) (fun i i0 hi f=>?_) ?_) fun e g=>?_) fun v hv=>.ret fun h=>hv (of_decide_eq_true h)
 ·unfold cO;refine .ite (fun _=>.ck ⟨i0,hi⟩ ?_) fun h=>absurd hi h;refine Tot.bind (P:=fun b=>b=true→(l.getD i.toNat ([],(Ex.mk 0 [] []),())).1=(k.getD 0 ([],[],[],[],())).2.2.2.1) ?_ fun v hv=>.ite (fun ht=>.ret ⟨_,xU _ (by omega),hv ht⟩) fun _=>.ck f (.ret rfl);unfold wL;exact .ck (by simp_all) (.ret fun h=>of_decide_eq_true h)
 ·unfold cO;exact .ite (fun h=>absurd h (by omega)) fun _=>.ret trivial
 ·cases e with
  | inl u=>exact .ret fun h=>absurd h xAa
  | inr r=>exact .ret fun _=>g
def kS(x:rK):List (List Nat×List Nat):=x.2.2.2.1.map fun u=>(x.1,u)
def kL(l:TLk):List Nat×List Nat:=(l.1,l.2.1)
def GdL(s:TSc)(a:TLk):Prop:=∃y∈s.2.2.2.2.2.2.2.2.1,a.2.2.1=y.1∧ ∃o∈y.2.2.2.2.1,o.1=a.2.2.2.1
def Met(s:TSc)(l:List TLk)(f:List (List Nat×List Nat)):Prop:=∃d,s.2.2.2.2.2.2.2.2.2.1=d++l∧d.map kL=f∧ ∀a∈d,GdL s a
theorem Met.step{s:TSc}{l:List TLk}{f:List (List Nat×List Nat)}(h:Met s l f)(L:0<l.length){w u:List Nat}(z:(l.getD 0 ([],[],[],[],())).1=w)(q:(l.getD 0 ([],[],[],[],())).2.1=u)(J:GdL s (l.getD 0 ([],[],[],[],()))):Met s (l.drop 1) (f++ [(w,u)]):=by
 obtain⟨d,e1,g,I⟩:=h;cases l with
 | nil=>simp_all
 | cons a l =>
  refine⟨d++ [a],by simp_all,?_,fun b hb=>?_⟩
  ·rw[List.map_append,g,← z,← q];rfl
  grind
theorem aWw(s:TSc)(h:bDs s):Tot (tM none s) (fun b=>b=true→s.2.2.2.2.2.2.2.2.2.1.map kL=s.2.2.2.2.2.2.2.2.1.flatMap kS∧ ∀a∈s.2.2.2.2.2.2.2.2.2.1,GdL s a):=by
 have hs:=h.sb.1;unfold tM;refine Tot.bind (P:=fun e=>match e with| .inl l=>Met s l (s.2.2.2.2.2.2.2.2.1.flatMap kS)| .inr b=>b=false) (Tot.idx s.2.2.2.2.2.2.2.2.1.length (fun l i=>Met s l ((s.2.2.2.2.2.2.2.2.1.take i).flatMap kS)) (by omega) (fun i l i0 hi N Y=>?_) (fun l Y=>?_) ⟨[],rfl,rfl,fun a ha=>by cases ha⟩) fun e J=>?_
 ·show Tot (nR none s i l) _;unfold nR;refine .ite (fun _=>.ck ⟨i0,hi⟩ ?_) fun g=>absurd hi g;have z:i.toNat<s.2.2.2.2.2.2.2.2.1.length:=by omega
  have I:=h.sb.2 _ (xU (([]:List Nat),([]:List wV),([]:List we),([]:List qd),([]:List q9),()) z);have hu:=I.u.1;refine Tot.bind (P:=fun e=>match e with| .inl l=>Met s l ((s.2.2.2.2.2.2.2.2.1.take (i.toNat+1)).flatMap kS)| .inr b=>b=false) (Tot.idx (s.2.2.2.2.2.2.2.2.1.getD i.toNat ([],[],[],[],[],())).2.2.2.1.length (fun k j=>Met s k ((s.2.2.2.2.2.2.2.2.1.take i.toNat).flatMap kS++((s.2.2.2.2.2.2.2.2.1.getD i.toNat ([],[],[],[],[],())).2.2.2.1.take j).map fun u=>((s.2.2.2.2.2.2.2.2.1.getD i.toNat ([],[],[],[],[],())).1,u))) (Nat.le_trans hu xAa) (fun j k j0 hj U L=>?_) (fun k L=>?_) (by simp_all)) fun e J=>?_
  ·show Tot (nQ none s i j k) _;unfold nQ;refine .ite (fun _=>.ck ⟨j0,hj⟩ (.ck (fun _=>by omega) (.ck (fun _=>by omega) (.ite (fun _=>.ret rfl) fun hn=>?_)))) fun g=>absurd hj g;have hk:0<k.length:=by
    omega
   have w1:(k.getD 0 ([],[],[],[],())).1=_:=Classical.not_not.1 fun q=>hn (.inl (.inr q));have w2:(k.getD 0 ([],[],[],[],())).2.1=_:=Classical.not_not.1 fun q=>hn (.inr q);refine .ck (by omega) ((bIy s h _).bind fun v hv=>?_);have Z:¬v<0→Tot (bM none (s.2.2.2.2.2.2.2.2.1.getD v.toNat ([],[],[],[],[],())).2.2.2.2.1 (k,())) (fun b=>b=true→ ∃o∈(s.2.2.2.2.2.2.2.2.1.getD v.toNat ([],[],[],[],[],())).2.2.2.2.1,o.1=(k.getD 0 ([],[],[],[],())).2.2.2.1):=fun f=>bKF _ k hk (h.sb.2 _ (xU _ (by omega))).o.1;refine .ck (fun _=>by omega) (.ck (fun f=>(Z f).aIK) (.ite (fun _=>.ret rfl) fun hq=>.ck (by omega) (.ck U (.ret ⟨rfl,?_⟩))));have f:¬v<0:=fun q=>hq (.inl q);have O:=hv.resolve_left f;have hg:GdL s (k.getD 0 ([],[],[],[],())):=⟨_,xU (([]:List Nat),([]:List wV),([]:List we),([]:List qd),([]:List q9),()) (show v.toNat<_ by omega),O.2.symm,(Z f).get false (Classical.not_not.1 fun q=>hq (.inr q))⟩;have:=L.step hk w1 w2 hg;rw[sC ([]:List Nat) (show j.toNat<_ by omega),List.map_append,← List.append_assoc];exact this
  ·show Tot (nQ none s i _ k) _;unfold nQ;refine .ite (fun g=>absurd g (Int.lt_irrefl _)) fun _=>.ret ?_;rw[List.take_length] at L;show Met s k ((s.2.2.2.2.2.2.2.2.1.take (i.toNat+1)).flatMap kS);rw[sC (([]:List Nat),([]:List wV),([]:List we),([]:List qd),([]:List q9),()) z,List.flatMap_append,List.flatMap_singleton];exact L
  ·cases e with
   | inl k=>exact .ck N (.ret ⟨rfl,J⟩)
   | inr b=>exact .ret J
 ·show Tot (nR none s _ l) _;unfold nR;rw[List.take_length] at Y;exact .ite (fun g=>absurd g (Int.lt_irrefl _)) fun _=>.ret Y
 ·cases e with
  | inl l =>
   refine .ret fun hb=>?_;obtain⟨d,e1,e2,e3⟩:=J;simp_all
  | inr b=>exact .ret fun h=>by simp_all
structure ScF(s:TSc):Prop where
 n:bKA s
 r:s.2.2.2.2.2.2.2.2.1.length≤4∧ ∀x∈s.2.2.2.2.2.2.2.2.1,bFM x
 w:(∀x∈s.2.2.2.2.2.2.2.2.1,cR none x.1=some true)∧(s.2.2.2.2.2.2.2.2.1.map (·.1)).Nodup
 l:s.2.2.2.2.2.2.2.2.2.1.map kL=s.2.2.2.2.2.2.2.2.1.flatMap kS∧ ∀a∈s.2.2.2.2.2.2.2.2.2.1,GdL s a
theorem bEO(s:TSc)(h:bDs s):Tot (iQ none s) (fun b=>b=true→ScF s):=by
 have hs:=h.sb.1;unfold iQ;refine(bCb s h.e.1 h.h0.1 h.hm.1 h.t.1).bind fun v hv=>.ite (fun _=>.ret fun h=>by cases h) fun O=>?_;have hv:=hv (Classical.not_not.1 fun q=>O (.inl (.inl q)));refine Tot.bind (P:=fun e=>match e with| .inl l=>l=s.2.2.2.2.2.2.2.2.1.map (·.1)∧ ∀x∈s.2.2.2.2.2.2.2.2.1,bFM x| .inr b=>b=false) (Tot.idx s.2.2.2.2.2.2.2.2.1.length (fun l i=>l=(s.2.2.2.2.2.2.2.2.1.take i).map (·.1)∧ ∀x∈s.2.2.2.2.2.2.2.2.1.take i,bFM x) (by omega) (fun i l i0 hi L J=>?_) (fun l J=>?_) ⟨rfl,fun x g=>by cases g⟩) fun e Y=>?_
 ·show Tot (tN none s i l) _;unfold tN;have f:i.toNat<s.2.2.2.2.2.2.2.2.1.length:=by omega
  have z:=h.sb.2 _ (xU (([]:List Nat),([]:List wV),([]:List we),([]:List qd),([]:List q9),()) f);have hl:l.length≤4000:=by grind
  refine .ite (fun _=>.ck ⟨i0,hi⟩ ((bDr _ z).bind fun v hv=>.ite (fun _=>.ret rfl) fun O=>.ck (by omega) (.ck L (.ret ⟨rfl,?_,fun x g=>?_⟩)))) fun N=>absurd hi N
  ·rw[sC (([]:List Nat),([]:List wV),([]:List we),([]:List qd),([]:List q9),()) f,List.map_append,← J.1];rfl
  ·rw[sC (([]:List Nat),([]:List wV),([]:List we),([]:List qd),([]:List q9),()) f] at g;grind
 ·show Tot (tN none s _ l) _;unfold tN;rw[List.take_length] at J;exact .ite (fun N=>absurd N (Int.lt_irrefl _)) fun _=>.ret J
 ·cases e with
  | inr b=>exact .ret fun h=>by simp_all
  | inl l =>
   obtain⟨e,Z⟩:=Y;subst e;show Tot (wM none s _) _;unfold wM;refine(aYp _ (fun x g=>?_) (by grind)).bind fun v I=>.ck (fun _=>(aWw s h).aIK) (.ret fun hb=>?_)
   ·obtain⟨a,U,rfl⟩:=List.mem_map.1 g;exact(h.sb.2 a U).n
   ·rw[Bool.and_eq_true] at hb;have I:=I hb.1;exact⟨hv,⟨by omega,Z⟩,⟨fun x g=>I.1 _ (List.mem_map_of_mem g),I.2⟩,(aWw s h).get false hb.2⟩
theorem bEP(f:Ex→Nat):∀ {l:List Ex} {x:Ex},x∈l→f x≤mxN f l
 | y::l,x,h=>by
  show f x≤max (f y) (mxN f l);rcases List.mem_cons.1 h with rfl|h
  ·omega
  ·exact Nat.le_trans (bEP f h) (Nat.le_max_right _ _)
theorem aYq{f g:Ex→Nat}:∀ {l:List Ex},(∀x∈l,f x=g x)→aET f l=aET g l
 | [],_=>rfl
 | y::l,h=>by
  show f y+aET f l=g y+aET g l;rw[h y (.head _),aYq fun x q=>h x (.tail _ q)]
theorem aZ9:∀(n m:Nat) (e:Ex),fits n e→ht n e≤m→fits m e∧nd m e=nd n e
 | 0,m,e,q,_=>q.elim
 | n+1,0,e,q,h=>by
  have:ht (n+1) e=1+mxN (ht n) e.l:=rfl;omega
 | n+1,m+1,e,⟨J,I,z⟩,h=>by
  have L:ht (n+1) e=1+mxN (ht n) e.l:=rfl;have f:∀x∈e.l,fits m x∧nd m x=nd n x:=fun x g=>aZ9 n m x (z x g) (by grind[bEP,ht]);refine⟨⟨J,I,fun x g=>(f x g).1⟩,?_⟩;grind[aET,nd,aYq]
theorem W.kinds{n:Nat}{e:Ex}(h:W n e):e.kind=1∨e.kind=2∨e.kind=6∨e.kind=7∨e.kind=8∨e.kind=9∨e.kind=10∨e.kind=11∨e.kind=12∨e.kind=13:=by
 cases h with
 | num n t h=>exact .inl rfl
 | name n t h=>exact .inr (.inl rfl)
 | two n k a b g f _ _=>show k=1∨k=2∨k=6∨k=7∨k=8∨k=9∨k=10∨k=11∨k=12∨k=13; omega
 | neg n a _=>exact .inr (.inr (.inr (.inr (.inr (.inr (.inl rfl))))))
 | fn n k a g f _=>show k=1∨k=2∨k=6∨k=7∨k=8∨k=9∨k=10∨k=11∨k=12∨k=13; omega
abbrev bFN(f k:Int):Prop:=((0:Int)≤k∧k<(60:Int))∧((IntKind.i64.wrap ((BitVec.ofInt 64 (Int.fdiv f (2^(k%(18446744073709551616:Int)).toNat))&&&BitVec.ofInt 64 (1:Int)).toNat:Int))=(1:Int))
theorem aUl{n:Nat}{e:Ex}(h:W n e):bFN 192 e.kind↔nC e:=by
 rcases h.kinds with h|h|h|h|h|h|h|h|h|h<;>simp only[nC,h]<;>decide
theorem aWx{n:Nat}{e:Ex}(h:W n e):bFN 960 e.kind↔qH e:=by
 rcases h.kinds with h|h|h|h|h|h|h|h|h|h<;>simp only[qH,h]<;>decide
theorem bDt{n:Nat}{e:Ex}(h:W n e):bFN 0 e.kind↔False:=by
 rcases h.kinds with h|h|h|h|h|h|h|h|h|h<;>simp only[h]<;>decide
theorem bEQ{g:Ex→Option qd}{e x:Ex}{i:Nat}{k:Int}(z:k=(i:Int)){s:Int}{p:Prop}[Decidable p](hi:i<e.l.length)(q:e.l.getD i (Ex.mk 0 [] [])=x){t:List Nat}(f:g x=some t)(hp:bFN s x.kind↔p)(I:t.length≤1099511627776):gS none g e k s=some (par p t):=by
 subst z;unfold gS;refine ifn (by omega) (aE (by omega) ?_);simp only[Int.toNat_natCast];rw[q];by_cases h:p
 ·refine ify (hp.2 h) (bA f (aE (by show 1+t.length≤_; omega) (aE (by show ([40]++t).length+1≤_; grind) ?_)));unfold par; rw[if_pos h];rfl
 simp_all[ifn,bA,par,if_neg]
theorem aBH{p:Prop}[Decidable p](t:List Nat):(par p t).length≤t.length+2:=by
 grind[par]
theorem nk{k j:Int}(h:decide (k=j)=false):¬k=j:=of_decide_eq_false h
theorem bCd:∀ {n:Nat} {e:Ex},W n e→n≤32→fits n e→(tx n e).length+8≤2^n*64∧ ∀k,n≤k→fM none k e=some (tx n e):=by
 intro n e hw;have pw:∀n,n≤32→2^n*64≤274877906944:=fun n O=>by
  have:2^n≤2^32:=Nat.pow_le_pow_right xAa O;omega
 induction hw with
 | num n t h =>
  intro O N;have h1:1≤2^n:=Nat.one_le_two_pow;have h2:t.length≤60:=h.1;refine⟨by rw[show tx (n+1) (Ex.mk 1 t [])=t from rfl,Nat.pow_succ]; omega,fun k g=>?_⟩;cases k with
  | zero=>omega
  | succ k=>rfl
 | name n t h =>
  intro O N;have h1:1≤2^n:=Nat.one_le_two_pow;have h2:t.length≤100:=N.1;refine⟨by rw[show tx (n+1) (Ex.mk 2 t [])=t from rfl,Nat.pow_succ]; omega,fun k g=>?_⟩;cases k with
  | zero=>omega
  | succ k=>rfl
 | two n kd a b h1 h2 L hb I ihb =>
  intro O N;obtain⟨_,_,U⟩:=N;obtain⟨la,pa⟩:=I (by omega) (U a (.head _));obtain⟨lb,pb⟩:=ihb (by omega) (U b (.tail _ (.head _)));have q:=pw n (by omega);have two:2^(n+1)=2^n+2^n:=by omega
  have f:∀(Y Z:Prop) [Decidable Y] [Decidable Z] (m1 m2:Int) (sg:List Nat) (k:Nat),n≤k→sg.length=3→(bFN m1 a.kind↔Y)→(bFN m2 b.kind↔Z)→(gS none (fM none k) (Ex.mk kd [] [a,b]) 0 m1).bind (fun z=>ck ((z.length)+(sg.length)≤9223372036854775807) ((gS none (fM none k) (Ex.mk kd [] [a,b]) 1 m2).bind (fun J=>ck ((z++sg).length+(J.length)≤9223372036854775807) (some ((z++sg)++J)))))=some (par Y (tx n a)++(sg++par Z (tx n b))):=fun Y Z _ _ m1 m2 sg k g hs c1 c2=>by
   have l1:=aBH (p:=Y) (tx n a);have l2:=aBH (p:=Z) (tx n b);refine bA (bEQ (i:=0) rfl (by show 0<2; decide) rfl (pa k g) c1 (by omega)) (aE (by omega) (bA (bEQ (i:=1) rfl (by show 1<2; decide) rfl (pb k g) c2 (by omega)) (aE (by grind) ?_)));simp_all
  have pf:∀t:List Nat,par False t=t:=fun t=>if_neg id;rcases (by omega:kd=6∨kd=7∨kd=8∨kd=9) with rfl|rfl|rfl|rfl
  ·rw[aR2 (.inl rfl)];have l2:=aBH (p:=nC b) (tx n b);refine⟨by grind,fun k g=>?_⟩;obtain⟨k,rfl⟩:∃j,k=j+1:=⟨k-1,by omega⟩;have:=f False (nC b) 0 192 [32,43,32] k (by omega) rfl (bDt L) (aUl hb);rw[pf] at this;show dP none (fM none k) _=_;unfold dP;exact(ify rfl this)
  ·rw[aR2 (.inr rfl)];have l2:=aBH (p:=nC b) (tx n b);refine⟨by grind,fun k g=>?_⟩;obtain⟨k,rfl⟩:∃j,k=j+1:=⟨k-1,by omega⟩;have:=f False (nC b) 0 192 [32,45,32] k (by omega) rfl (bDt L) (aUl hb);rw[pf] at this;show dP none (fM none k) _=_;unfold dP;exact(ifn (nk rfl) (ify rfl this))
  ·rw[aMC (.inl rfl)];have l1:=aBH (p:=nC a) (tx n a);have l2:=aBH (p:=qH b) (tx n b);refine⟨by grind,fun k g=>?_⟩;obtain⟨k,rfl⟩:∃j,k=j+1:=⟨k-1,by omega⟩;show dP none (fM none k) _=_;unfold dP;exact(ifn (nk rfl) (ifn (nk rfl) (ify rfl (f (nC a) (qH b) 192 960 [32,42,32] k (by omega) rfl (aUl L) (aWx hb)))))
  ·rw[aMC (.inr rfl)];have l1:=aBH (p:=nC a) (tx n a);have l2:=aBH (p:=qH b) (tx n b);refine⟨by grind,fun k g=>?_⟩;obtain⟨k,rfl⟩:∃j,k=j+1:=⟨k-1,by omega⟩;show dP none (fM none k) _=_;unfold dP;exact(ifn (nk rfl) (ifn (nk rfl) (ifn (nk rfl) (ify rfl (f (nC a) (qH b) 192 960 [32,47,32] k (by omega) rfl (aUl L) (aWx hb))))))
 | neg n a L I =>
  intro O N;obtain⟨la,pa⟩:=I (by omega) (N.2.2 a (.head _));have q:=pw n (by omega);have two:2^(n+1)=2^n+2^n:=by omega
  have l1:=aBH (p:=qH a) (tx n a);rw[bDm];refine⟨by grind,fun k g=>?_⟩;obtain⟨k,rfl⟩:∃j,k=j+1:=⟨k-1,by omega⟩;show dP none (fM none k) _=_;unfold dP;exact(ifn (nk rfl) (ifn (nk rfl) (ifn (nk rfl) (ifn (nk rfl) (ify rfl (bA (bEQ (p:=qH a) (x:=a) (i:=0) rfl (by show 0<1; decide) rfl (pa k (by omega)) (aWx L) (by omega)) (aE (by show 1+_≤_; omega) rfl)))))))
 | fn n kd a h1 h2 L I =>
  intro O N;obtain⟨la,pa⟩:=I (by omega) (N.2.2 a (.head _));have q:=pw n (by omega);have two:2^(n+1)=2^n+2^n:=by omega
  have pf:∀t:List Nat,par False t=t:=fun t=>if_neg id;have f:∀(hd:List Nat) (k:Nat),n≤k→hd.length≤5→(gS none (fM none k) (Ex.mk kd [] [a]) 0 0).bind (fun v=>ck (hd.length+v.length≤9223372036854775807) (ck ((hd++v).length+(aR ⟨#[41]⟩).length≤9223372036854775807) (some ((hd++v)++aR ⟨#[41]⟩))))=some (hd++(tx n a++ [41])):=fun hd k g hl=>by
   refine bA (bEQ (i:=0) rfl (by show 0<1; decide) rfl (pa k g) (bDt L) (by omega)) ?_;rw[pf];refine aE (by omega) (aE (by rw[List.length_append,show (aR ⟨#[41]⟩).length=1 from rfl]; omega) ?_);rw[List.append_assoc]; rfl
  rw[bEH h1 h2];rcases (by omega:kd=11∨kd=12∨kd=13) with rfl|rfl|rfl
  ·refine⟨by rw[show fnT 11= [115,113,114] from rfl]; have:=aBH (p:=True) (tx n a); grind,fun k g=>?_⟩;obtain⟨k,rfl⟩:∃j,k=j+1:=⟨k-1,by omega⟩;show dP none (fM none k) _=_;unfold dP;exact(ifn (nk rfl) (ifn (nk rfl) (ifn (nk rfl) (ifn (nk rfl) (ifn (nk rfl) (ify rfl (f [115,113,114,40] k (by omega) xAa)))))))
  ·refine⟨by rw[show fnT 12= [115,113,114,116] from rfl]; have:=aBH (p:=True) (tx n a); grind,fun k g=>?_⟩;obtain⟨k,rfl⟩:∃j,k=j+1:=⟨k-1,by omega⟩;show dP none (fM none k) _=_;unfold dP;exact(ifn (nk rfl) (ifn (nk rfl) (ifn (nk rfl) (ifn (nk rfl) (ifn (nk rfl) (ifn (nk rfl) (ify rfl (f [115,113,114,116,40] k (by omega) xAa))))))))
  ·refine⟨by rw[show fnT 13= [101,120,112] from rfl]; have:=aBH (p:=True) (tx n a); grind,fun k g=>?_⟩;obtain⟨k,rfl⟩:∃j,k=j+1:=⟨k-1,by omega⟩;show dP none (fM none k) _=_;unfold dP;exact(ifn (nk rfl) (ifn (nk rfl) (ifn (nk rfl) (ifn (nk rfl) (ifn (nk rfl) (ifn (nk rfl) (ifn (nk rfl) (ify rfl (f [101,120,112,40] k (by omega) xAa)))))))))
theorem bNJ:∀ {n:Nat} {e:Ex},W n e→ ∀ {m:Nat},ht n e≤m→W m e:=by
 intro n e J
 induction J with
 | num n t h=>intro m hm; obtain⟨m,rfl⟩:∃j,m=j+1:=⟨m-1,by have:ht (n+1) (Ex.mk 1 t [])=1+0:=rfl; omega⟩; exact .num m t h
 | name n t h=>intro m hm; obtain⟨m,rfl⟩:∃j,m=j+1:=⟨m-1,by have:ht (n+1) (Ex.mk 2 t [])=1+0:=rfl; omega⟩; exact .name m t h
 | two n k a b q g I hb f z =>
  intro m hm;have e1:ht (n+1) (Ex.mk k [] [a,b])=1+max (ht n a) (max (ht n b) 0):=rfl;obtain⟨m,rfl⟩:∃j,m=j+1:=⟨m-1,by omega⟩;exact .two m k a b q g (f (by omega)) (z (by omega))
 | neg n a I f =>
  intro m hm;have e1:ht (n+1) (Ex.mk 10 [] [a])=1+max (ht n a) 0:=rfl;obtain⟨m,rfl⟩:∃j,m=j+1:=⟨m-1,by omega⟩;exact .neg m a (f (by omega))
 | fn n k a q g I f =>
  intro m hm;have e1:ht (n+1) (Ex.mk k [] [a])=1+max (ht n a) 0:=rfl;obtain⟨m,rfl⟩:∃j,m=j+1:=⟨m-1,by omega⟩;exact .fn m k a q g (f (by omega))
def Szd(k:Nat)(e:Ex):Prop:=fits k e∧nd k e≤k
theorem Szd.up{k m:Nat}{e:Ex}(h:Szd k e)(hm:k≤m):fits m e∧nd m e≤k:=by
 obtain⟨g,f⟩:=aZ9 k m e h.1 (Nat.le_trans (bH4 k e) hm);exact⟨g,by rw[f]; exact h.2⟩
theorem Szd.le{k m:Nat}{e:Ex}(h:Szd k e)(hm:k≤m):Szd m e:=⟨(h.up hm).1,Nat.le_trans (h.up hm).2 hm⟩
theorem Szd.one{n:Nat}{k:Int}{e:Ex}(h:Szd n e):Szd (n+1) (Ex.mk k [] [e]) :=
 ⟨⟨Nat.zero_le _,by show 1≤1000; decide,fun x f=>by rw[List.mem_singleton.1 f]; exact h.1⟩,by
  show 1+(nd n e+0)≤n+1;have:=h.2;omega⟩
theorem Szd.two{n m:Nat}{k:Int}{e r:Ex}(h:Szd n e)(g:Szd m r):Szd (n+m+1) (Ex.mk k [] [e,r]):=by
 obtain⟨z,q⟩:=h.up (m:=n+m) (by omega);obtain⟨b1,I⟩:=g.up (m:=n+m) (by omega);refine⟨⟨Nat.zero_le _,by show 2≤1000; decide,fun x f=>?_⟩,by
  show 1+(nd (n+m) e+(nd (n+m) r+0))≤n+m+1;omega⟩
 rcases List.mem_cons.1 f with rfl|f
 all_goals simp_all
abbrev TLn:Type:=Int×Int×List Nat×Unit
abbrev TSp:Type:=(Int×Int×Unit)×Unit
def Wd(S:List Nat)(l:TLn)(w:List Nat):Prop:=∃k,l.2.1.toNat+k+w.length≤S.length∧w=(S.drop (l.2.1.toNat+k)).take w.length
theorem Wd.len{S:List Nat}{l:TLn}{w:List Nat}(h:Wd S l w):w.length≤S.length:=by
 obtain⟨k,g,f⟩:=h;omega
variable {n:Int} {S:List Nat} {l:TLn}
end Nu
end Go.Proofs
namespace Go.Proofs
open Go.Vc
set_option maxRecDepth 20000
namespace Nu
variable {n:Int} {S:List Nat} {l:TLn}
end Nu
end Go.Proofs
namespace Go.Proofs
open Go.Vc
set_option maxRecDepth 20000
namespace Nu
theorem bMa(s:List Nat)(c:Nat):Tot (hZ none s c) (fun v=>v=s.dropWhile (· == c)):=by
 unfold hZ;refine Tot.bind (Tot.loop (fun d=>d.dropWhile (· == c)=s.dropWhile (· == c)) (fun d=>d.length) ?_ rfl) fun e f=>.ret f;intro d hd;show Tot (kQ none c d) _;unfold kQ;cases d with
 | nil=>exact .ck (fun h=>h) (.ite (fun h=>absurd h.1 xAa) fun _=>.ret hd)
 | cons a t =>
  refine .ck (fun h=>h) (.ite (fun h=>.ck (by omega) (.ret ⟨?_,by simp⟩)) fun h=>.ret ?_)
  all_goals simp_all
theorem bMb(s:List Nat)(c:Nat)(hs:s= []∨s.getLast? ≠ some c)(g:s.length≤9223372036854775807):Tot (gP none s c) (fun v=>v=s):=by
 unfold gP;refine Tot.bind (P:=fun v=>v=s) (Tot.loop (fun d=>d=s) (fun d=>d.length) ?_ rfl) fun e f=>.ret f;rintro d rfl;show Tot (jU none c d) _;unfold jU;refine .ck (fun h=>by omega) (.ck (fun h=>by omega) (.ite (fun h=>?_) fun h=>.ret rfl));exfalso;obtain⟨z,q⟩:=h;rcases hs with rfl|hs
 ·simp_all
 ·apply hs;rw[List.getLast?_eq_getElem?];have e:((d.length:Int)-1).toNat=d.length-1:=by omega
  grind
theorem aWy(s:List Nat):Tot (cI none s (aR ⟨#[32]⟩)) (fun v=>v=s.dropWhile (· == 32)):=by
 unfold cI;refine .ite (fun h=>.ret ?_) fun _=>.ck (fun _=>by decide) (.ite (fun h=>.ck xAa ((bMa s _).bind fun v hv=>.ret hv)) fun h=>absurd ⟨by decide,by decide⟩ h);rcases h with h|h
 ·rw[h]; rfl
 ·exact absurd h xAa
theorem bCe(s:List Nat)(hs:s= []∨s.getLast? ≠ some 32)(f:s.length≤9223372036854775807):Tot (iS none s (aR ⟨#[32]⟩)) (fun v=>v=s):=by
 unfold iS;exact .ite (fun h=>.ret rfl) fun _=>.ck (fun _=>by decide) (.ite (fun h=>.ck xAa ((bMb s _ hs f).bind fun v hv=>.ret hv)) fun h=>absurd ⟨by decide,by decide⟩ h)
theorem bIz(c:Nat):∀w:List Nat,(∀b∈w,b≠c)→aIG [c] w=none
 | [],_=>rfl
 | b::l,h=>by
  have hb:([c]:List Nat).isPrefixOf (b::l)=false:=by
   grind
  rw[aIG,hb,bIz c l fun x f=>h x (.tail _ f)];rfl
theorem bIA(c:Nat)(r:List Nat):∀w:List Nat,(∀b∈w,b≠c)→aIG [c] (w++c::r)=some w.length
 | [],_=>by simp[aIG,List.isPrefixOf]
 | b::l,h=>by
  have hb:([c]:List Nat).isPrefixOf (b::(l++c::r))=false:=by
   grind
  rw[List.cons_append,aIG,hb,bIA c r l fun x f=>h x (.tail _ f)];rfl
theorem bCf{c:Nat}{w:List Nat}(h:∀b∈w,b≠c):aA5 w [c]=(w,[],false,()):=by
 grind[aA5,bIz]
theorem bIB{c:Nat}{w r:List Nat}(h:∀b∈w,b≠c):aA5 (w++c::r) [c]=(w,r,true,()):=by
 simp_all[aA5,bIA]
def okW(w:List Nat):Prop:=w≠ []∧ ∀c∈w,c≠32
def tl(ws:List qd):List Nat:=ws.flatMap (32:: ·)
theorem zJ(w:List Nat)(ws:List qd):tl (w::ws)=32::(w++tl ws):=by simp[tl]
def Lft(R:List Nat)(ws:List qd):Prop:=R=tl ws∨32::R=tl ws
theorem Lft.nil{R:List Nat}(h:Lft R []):R= []:=by
 rcases h with h|h
 ·exact h
 ·cases h
theorem Lft.cons{R w:List Nat}{ws:List qd}(h:Lft R (w::ws)):R=32::(w++tl ws)∨R=w++tl ws:=by
 unfold Lft at h;grind[Go.Proofs.Nu.zJ,List.cons.inj]
theorem bKG(ws:List qd):tl ws= []∨ ∃r,tl ws=32::r:=by
 cases ws with
 | nil=>exact .inl rfl
 | cons w ws=>grind[zJ]
theorem bKH{w t:List Nat}(h:w≠ [])(f:w.head? ≠ some 32):(w++t).dropWhile (· == 32)=w++t:=by
 cases w with
 | nil=>simp_all
 | cons a r =>
  simp_all
theorem Lft.trim{R w:List Nat}{ws:List qd}(h:Lft R (w::ws))(g:w≠ [])(f:w.head? ≠ some 32):R.dropWhile (· == 32)=w++tl ws:=by
 rcases h.cons with rfl|rfl
 all_goals simp_all[List.dropWhile_cons,if_pos,Go.Proofs.Nu.bKH]
theorem okW.head{w:List Nat}(h:okW w):w.head? ≠ some 32:=by
 intro e;cases w with
 | nil=>cases e
 | cons a r =>
  simp at e;exact h.2 a (.head _) e
theorem bMc{w:List Nat}(h:okW w)(ws:List qd):(aA5 (w++tl ws) [32]).1=w:=by
 rcases bKG ws with e|⟨r,e⟩
 ·rw[e,List.append_nil,bCf h.2]
 ·rw[e,bIB h.2]
theorem bCg(w t:List Nat)(h:w≠ []):aIG w (w++t)=some 0:=by
 cases w with
 | nil=>simp_all
 | cons a r =>
  rw[List.cons_append,aIG,if_pos];simp_all
def At(n:Int)(S:List Nat)(ws:List qd)(l:TLn):Prop:=l.1=n∧l.2.2.1=S∧0≤l.2.1∧l.2.1≤S.length∧Lft (S.drop l.2.1.toNat) ws
variable {n:Int} {S:List Nat} {l:TLn} {w:List Nat} {ws:List qd}
theorem aJT(L:S.length≤4000000000)(h:At n S (w::ws) l)(f:okW w):Tot (eJ none l) (fun r=>r=(w,l)):=by
 obtain⟨J,z,q,I,g⟩:=h;unfold eJ;rw[z];have T:=(aWy (S.drop l.2.1.toNat)).eq;rw[g.trim f.1 f.head] at T;refine .ck ⟨q,I⟩ (.ck (by grind) ?_);rw[T];refine .ck ⟨?_,by decide⟩ (.ret ?_)
 ·show (w++tl ws).length<_;have:(w++tl ws).length≤(S.drop l.2.1.toNat).length:=by
   rcases g.cons with e|e<;>rw[e]<;>simp
  grind
 ·show ((aA5 (w++tl ws) [32]).1,l)=(w,l);rw[bMc f]
theorem bAa(h:At n S [] l):Tot (eJ none l) (fun r=>r=([],l)):=by
 obtain⟨I,q,g,z,f⟩:=h;unfold eJ;rw[q];have T:=(aWy (S.drop l.2.1.toNat)).eq;rw[f.nil] at T;rw[f.nil,T];exact .ck ⟨g,z⟩ (.ck rfl (.ck ⟨by decide,by decide⟩ (.ret rfl)))
theorem bER{b:Bool}(hb:b=true):cP none b l=some (.inl l):=by
 subst hb;rfl
theorem bKI(hS:S.length≤4000000000)(h:At n S (w::ws) l)(f:okW w):Tot (cW none l) (fun q=>∃L,q= .inl (w,L)∧At n S ws L):=by
 unfold cW;refine(aJT hS h f).bind fun r Y=>?_;subst Y;show Tot (Option.bind (cP none (!decide (w=aR ⟨#[]⟩)) l) _) _;rw[bER (by rw[Bool.not_eq_true',decide_eq_false_iff_not]; exact f.1)];obtain⟨h1,U,O,Z,N⟩:=h;show Tot (ck _ _) _;simp only[U];have J:(S.drop l.2.1.toNat).length=S.length-l.2.1.toNat:=List.length_drop;have g:∃k:Nat,aIG w (S.drop l.2.1.toNat)=some k∧(S.drop l.2.1.toNat).length=k+w.length+(tl ws).length∧(S.drop l.2.1.toNat).drop (k+w.length)=tl ws:=by
  rcases N.cons with e|e
  ·refine⟨1,?_,by grind,by grind⟩;rw[e,aIG,if_neg,bCg _ _ f.1];intro hp;obtain⟨t,ht⟩:=List.isPrefixOf_iff_prefix.1 hp;cases w with
   | nil=>exact f.1 rfl
   | cons a r =>
    rw[List.cons_append] at ht;exact f.2 a (.head _) (List.cons.inj ht).1
  ·exact⟨0,by rw[e]; exact bCg _ _ f.1,by grind,by grind⟩
 obtain⟨k,k1,k2,k3⟩:=g;have z:aLZ (S.drop l.2.1.toNat) w=(k:Int):=by rw[aLZ,k1]
 rw[z];have I:1≤w.length:=List.length_pos_iff.2 f.1;refine .ck ⟨O,Z⟩ (.ck ⟨by omega,I⟩ (.ck (by omega) (.ck (by omega) (.ret ⟨_,rfl,h1,rfl,by grind,by grind,.inl ?_⟩))));grind[List.drop_drop]
theorem wE{β:Type}{f:(List Nat×TLn)⊕TSp→Option β}{P:β→Prop}(I:S.length≤4000000000)(h:At n S (w::ws) l)(z:okW w)(J:∀g,At n S ws g→Tot (f (.inl (w,g))) P):Tot ((cW none l).bind f) P :=
 (bKI I h z).bind fun q ⟨g,e,L⟩=>by
  simp_all
theorem mE{β:Type}{b:Bool}{f:TLn⊕TSp→Option β}{P:β→Prop}(hb:b=true)(g:Tot (f (.inl l)) P):Tot ((cP none b l).bind f) P:=by
 grind[bER]
theorem isE{β:Type}{f:TLn⊕TSp→Option β}{P:β→Prop}(J:S.length≤4000000000)(h:At n S (w::ws) l)(I:okW w)(L:∀g,At n S ws g→Tot (f (.inl g)) P):Tot ((eF none w l).bind f) P:=by
 refine Tot.bind (P:=fun q=>∃g,q= .inl g∧At n S ws g) ?_ fun q ⟨g,e,z⟩=>by
  simp_all
 unfold eF;exact wE J h I fun g z=>mE (decide_eq_true rfl) (.ret ⟨g,rfl,z⟩)
theorem aQr{β:Type}{f:TLn⊕TSp→Option β}{P:β→Prop}(h:At n S [] l)(z:Tot (f (.inl l)) P):Tot ((cQ none l).bind f) P:=by
 refine Tot.bind (P:=fun q=>q= .inl l) ?_ fun q e=>by
  simp_all
 unfold cQ;exact(bAa h).bind fun r g=>by
  subst g;exact mE rfl (.ret rfl)
theorem bES{β:Type}{f:(List Nat×TLn)⊕TSp→Option β}{P:β→Prop}(J:S.length≤4000000000)(h:At n S (w::ws) l)(I:okW w)(hF:tH none w=some true)(L:∀g,At n S ws g→Tot (f (.inl (w,g))) P):Tot ((fC none l).bind f) P:=by
 refine Tot.bind (P:=fun q=>∃g,q= .inl (w,g)∧At n S ws g) ?_ fun q ⟨g,e,z⟩=>by
  simp_all
 unfold fC;refine wE J h I fun g z=>?_;show Tot (ck _ _) _;rw[show (w,g).1=w from rfl,hF];exact .ck rfl (mE rfl (.ret ⟨g,rfl,z⟩))
theorem nmE{β:Type}{f:(List Nat×TLn)⊕TSp→Option β}{P:β→Prop}(J:S.length≤4000000000)(h:At n S (w::ws) l)(I:okW w)(hF:cR none w=some true)(L:∀g,At n S ws g→Tot (f (.inl (w,g))) P):Tot ((gC none l).bind f) P:=by
 refine Tot.bind (P:=fun q=>∃g,q= .inl (w,g)∧At n S ws g) ?_ fun q ⟨g,e,z⟩=>by
  simp_all
 unfold gC;refine wE J h I fun g z=>?_;show Tot (ck _ _) _;rw[show (w,g).1=w from rfl,hF];exact .ck rfl (mE rfl (.ret ⟨g,rfl,z⟩))
end Nu
end Go.Proofs
namespace Go.Proofs
open Go.Vc
set_option maxRecDepth 20000
namespace Nu
theorem bKJ:∃A:List Bool,dJ none (aR ⟨#[48,49,50,51,52,53,54,55,56,57]⟩)=some (A,true,())∧ ∀c,oR c=true→A.getD c false=true:=by
 refine⟨(List.range 256).map oR,?_,fun c hc=>?_⟩
 ·unfold dJ;exact bA (a:=.inl ((List.range 256).map oR)) (aDC (n:=100) (by rfl)) rfl
 ·have h:c<256:=by
   have:=of_decide_eq_true hc;omega
  simp_all
theorem bKK(s:List Nat)(A:List Bool)(g:s.length≤100)(hs:∀c∈s,c<256∧A.getD c false=true):Tot (dG none s A) (fun v=>v= []):=by
 unfold dG;refine Tot.bind (P:=fun v=>v= []) (Tot.loop (fun d=>d.length≤100∧ ∀c∈d,c<256∧A.getD c false=true) (fun d=>d.length) ?_ ⟨g,hs⟩) fun e z=>.ret z;rintro d ⟨hd,f⟩;show Tot (cM none A d) _;unfold cM;refine .ite (fun h=>.ck (by omega) (.ck (by omega) ?_)) fun h=>.ret (List.eq_nil_of_length_eq_zero (by omega));have hb:=f _ (xU 0 (l:=d) (k:=((d.length:Int)-1).toNat) (by omega));refine Tot.bind (P:=fun v=>v=true) ?_ fun v hv=>.ite (fun q=>absurd hv q) fun _=>.ck (by omega) (.ck (by omega) (.ret ⟨⟨?_,fun c hc=>f c (List.mem_of_mem_take hc)⟩,?_⟩))
 ·unfold dF;exact .ck (by omega) (.ret hb.2)
 ·rw[List.length_take];omega
 ·show (List.take _ d).length<d.length;rw[List.length_take];omega
theorem bIC{w:List Nat}(f:∀c∈w,oR c=true)(z:w.length≤100):Tot (iH none w (aR ⟨#[48,49,50,51,52,53,54,55,56,57]⟩)) (fun v=>v= []):=by
 obtain⟨A,J,hc⟩:=bKJ;unfold iH;refine .ite (fun h=>.ret ?_) fun _=>.ck (fun h=>by cases h) (.ite (fun h=>absurd h.1 xAa) fun _=>?_)
 ·rcases h with h|h
  ·exact h
  ·exact absurd h xAa
 ·rw[J,Option.bind_some];refine .ite (fun _=>(bKK w A z fun c h=>⟨?_,hc c (f c h)⟩).bind fun a q=>?_) fun g=>absurd rfl g
  ·have:=of_decide_eq_true (f c h);omega
  ·subst q;have:Tot (dO none [] A) (fun v=>v= []):=by
    unfold dO;refine Tot.bind (P:=fun v=>v= []) (Tot.loop (fun d=>d= []) (fun d=>d.length) ?_ rfl) fun e I=>.ret I;rintro d rfl;show Tot (cT none A []) _;unfold cT;exact .ite (fun h=>absurd h xAa) fun _=>.ret rfl
   simp_all
variable {n:Int} {S:List Nat} {l:TLn} {w:List Nat} {ws:List qd}
theorem bMd{β:Type}{f:(Int×TLn)⊕TSp→Option β}{P:β→Prop}(N:S.length≤4000000000)(h:At n S (w::ws) l)(hd:∀c∈w,oR c=true)(z:0<w.length)(O:w.length≤4)(U:∀g,At n S ws g→Tot (f (.inl ((uH w:Int),g))) P):Tot ((gM none l).bind f) P:=by
 refine Tot.bind (P:=fun q=>∃g,q= .inl ((uH w:Int),g)∧At n S ws g) ?_ fun q ⟨g,e,I⟩=>by
  simp_all
 have L:okW w:=⟨List.length_pos_iff.1 z,fun c hc e=>by subst e; exact absurd (hd _ hc) xAa⟩;unfold gM;refine wE N h L fun g I=>?_;have T:=(bIC hd (by omega)).eq;refine .ite (fun _=>?_) fun J=>absurd (show (w.length:Int)≤4 by omega) J;show Tot (ck _ _) _;rw[show (w,g).1=w from rfl,T];refine .ck rfl (mE ?_ ?_)
 ·rw[Bool.and_eq_true];exact⟨decide_eq_true (by omega),rfl⟩
 ·show Tot (iD none (w,g) g) _;unfold iD;rw[show (w,g).1=w from rfl,aZ0 w hd z (by omega)];exact .ck rfl (.ret ⟨g,rfl,I⟩)
theorem bAb{s:List Nat}(h:fm s=true):s.length≤60:=by
 unfold fm rD at h;split at h
 ·cases h
 omega
theorem aIL(w:List Nat)(f:w.length≤1000):lU none w=some (fm (sg w)):=by
 refine Tot.eq ?_;have hs:=bIu w;unfold lU qF kW;refine Tot.bind (P:=fun v=>v=sg w) ?_ fun v hv=>(Tot.of (P:=fun x=>x=fm (sg w)) (by grind[aZ4,sg]) rfl).bind fun _ h=>.ret h;refine Tot.bind (P:=fun v=>v=sg w) ((bLa w (by omega)).bind fun b hb=>?_) fun v hv=>.ret hv;subst hb;refine .ite (fun h=>.ck ?_ (.ret ?_)) fun h=>.ret ?_
 ·have:=(List.isPrefixOf_iff_prefix.1 h).length_le;simp at this;exact⟨by decide,by show (1:Int)≤_; omega⟩
 ·unfold sg;rw[if_pos h];rfl
 simp_all[sg,if_neg]
theorem bMe{β:Type}{a b:List Nat}{f:((List Nat×List Nat×Unit)×TLn)⊕TSp→Option β}{P:β→Prop}(z:S.length≤4000000000)(h:At n S (a::b::ws) l)(Y:okW a)(hb:okW b)(Z:fm (sg a)=true)(U:fm (sg b)=true)(la:a.length≤100)(N:b.length≤100)(hf:∀g,At n S ws g→Tot (f (.inl ((a,b,()),g))) P):Tot ((gD none l).bind f) P:=by
 refine Tot.bind (P:=fun q=>∃g,q= .inl ((a,b,()),g)∧At n S ws g) ?_ fun q ⟨g,e,hl⟩=>by
  simp_all
 unfold gD;refine wE z h Y fun I J=>?_;have L:=aIL a (by omega);rw[Z] at L;have sb:=aIL b (by omega);rw[U] at sb;show Tot (ck _ _) _;rw[show (a,I).1=a from rfl,L];refine .ck rfl (mE rfl ((aJT z J hb).bind fun r hr=>?_));subst hr;show Tot (ck _ _) _;rw[show (b,I).1=b from rfl,sb];exact .ck rfl (.ite (fun _=>wE z J hb fun l2 h2=>.ret ⟨l2,rfl,h2⟩) fun O=>absurd rfl O)
theorem bMf{β:Type}{a:List Nat}{f:((List Nat×List Nat×Unit)×TLn)⊕TSp→Option β}{P:β→Prop}(N:S.length≤4000000000)(h:At n S (a::ws) l)(U:okW a)(Y:fm (sg a)=true)(la:a.length≤100)(O:ws= []∨ ∃u,ws= [100,101,114]::u)(hf:∀g,At n S ws g→Tot (f (.inl ((a,[],()),g))) P):Tot ((gD none l).bind f) P:=by
 refine Tot.bind (P:=fun q=>∃g,q= .inl ((a,[],()),g)∧At n S ws g) ?_ fun q ⟨g,e,hl⟩=>by
  simp_all
 unfold gD;refine wE N h U fun z J=>?_;have L:=aIL a (by omega);rw[Y] at L;show Tot (ck _ _) _;rw[show (a,z).1=a from rfl,L];refine .ck rfl (mE rfl ?_);have I:∃b:List Nat,Tot (eJ none z) (fun r=>r=(b,z))∧lU none b=some false:=by
  rcases O with rfl|⟨u,rfl⟩
  ·exact⟨[],bAa J,aIL [] xAa⟩
  ·exact⟨[100,101,114],aJT N J (by grind[okW]),aIL _ xAa⟩
 obtain⟨b,hp,sb⟩:=I;refine hp.bind fun r Z=>?_;subst Z;show Tot (ck _ _) _;rw[show (b,z).1=b from rfl,sb];exact .ck rfl (.ite (fun hh=>absurd hh xAa) fun _=>.ret ⟨z,rfl,J⟩)
theorem bLb{β:Type}{t:List Nat}{e:Ex}{f:(Ex×TLn)⊕TSp→Option β}{P:β→Prop}(hS:S.length≤4000000000)(h:At n S [t] l)(ht:t≠ [])(z:t.head? ≠ some 32)(N:kP none t=some (e,0,0,()))(hf:∀g,At n S [] g→Tot (f (.inl (e,g))) P):Tot ((lF none l).bind f) P:=by
 refine Tot.bind (P:=fun q=>∃g,q= .inl (e,g)∧At n S [] g) ?_ fun q ⟨g,e,hl⟩=>by
  simp_all
 obtain⟨Z,U,O,Y,I⟩:=h;unfold lF;rw[U];have T:=(aWy (S.drop l.2.1.toNat)).eq;rw[I.trim ht z,show tl []= [] from rfl,List.append_nil] at T;rw[T];simp only[Option.getD_some,Option.isSome_some,N];have J:t.length≤S.length:=by
  rcases I.cons with q|q
  ·have:=congrArg List.length q;grind
  ·have:=congrArg List.length q;grind
 refine .ck ⟨O,Y⟩ (.ck trivial (.ck (by omega) (.ck trivial (.ite (fun L=>absurd trivial L) fun _=>.ret ⟨_,rfl,Z,rfl,by simp_all,Int.le_refl _,.inl ?_⟩))));grind[tl,Int.toNat_natCast,List.drop_length]
theorem bLc{β:Type}{a b:List Nat}{f:((List Nat×List Nat×Unit)×TLn)⊕TSp→Option β}{P:β→Prop}(Y:S.length≤4000000000)(h:At n S ((a++46::b)::ws) l)(L:okW (a++46::b))(J:∀c∈a,c≠46)(O:cR none a=some true)(N:cR none b=some true)(Z:(a++46::b).length≤1000)(hf:∀g,At n S ws g→Tot (f (.inl ((a,b,()),g))) P):Tot ((lG none l).bind f) P:=by
 refine Tot.bind (P:=fun q=>∃g,q= .inl ((a,b,()),g)∧At n S ws g) ?_ fun q ⟨g,e,Z⟩=>by
  simp_all
 unfold lG;refine wE Y h L fun I U=>?_;show Tot (ck _ _) _;have hc:aA5 (a++46::b,I).1 (aR ⟨#[46]⟩)=(a,b,true,()):=bIB J;simp only[hc,O,N];exact .ck ⟨by omega,by decide⟩ (.ite (fun _=>.ck rfl (.ite (fun _=>.ck rfl (mE rfl (.ret ⟨I,rfl,U⟩))) fun z=>absurd ⟨trivial,rfl⟩ z)) fun z=>absurd trivial z)
end Nu
end Go.Proofs
namespace Go.Proofs
open Go.Vc
set_option maxRecDepth 20000
namespace Nu
abbrev TRg:Type:=List Nat×List Nat×Unit
abbrev TSt:Type:=List Nat×TRg×Ex×Unit
abbrev TPa:Type:=List Nat×TRg×Unit
abbrev TOu:Type:=List Nat×Ex×Unit
inductive PL
 | prec (n:Nat)|fin (t:List Nat)|step (a b:List Nat)|tol (t:List Nat)|tries (n:Nat)|order (n:Nat)|mode (m:Int)
 | sub (t:List Nat)|state (a:TSt)|par (a:TPa)|inn (t:List Nat)|out (a:TOu)|link (a:TLk)
def dg(n:Nat):List Nat:=if n<10 then [48+n] else if n<100 then [48+n/10,48+n%10] else [48+n/100,48+n/10%10,48+n%10]
theorem aR5:∀n,n<1000→(dg n).all oR=true∧0<(dg n).length∧(dg n).length≤4∧uH (dg n)=n:=by decide +kernel
def rgW(r:TRg):List qd:=if r.2.1= [] then [r.1] else [r.1,r.2.1]
def wds:PL→List qd
 | .prec n=>[[112,114,101,99],dg n]
 | .fin t=>[[101,110,100],t]
 | .step a b=>[[115,116,101,112],a,b]
 | .tol t=>[[116,111,108],t]
 | .tries n=>[[116,114,105,101,115],dg n]
 | .order n=>[[111,114,100,101,114],dg n]
 | .mode m=>[if m=2 then [115,101,105,100,101,108] else [106,97,99,111,98,105]]
 | .sub t=>[[115,117,98],t]
 | .state a=>[115,116,97,116,101]::a.1:: [61]::(rgW a.2.1++ [[100,101,114],tx 30 a.2.2.1])
 | .par a=>[112,97,114]::a.1:: [61]::rgW a.2.1
 | .inn t=>[[105,110],t]
 | .out a=>[[111,117,116],a.1,[61],tx 30 a.2.1]
 | .link a=>[[108,105,110,107],a.1++46::a.2.1,[61],a.2.2.1++46::a.2.2.2.1]
def zS:rK:=([],[],[],[],[],())
def last(x:List rK)(f:rK→rK):List rK:=x.set (x.length-1) (f (x.getD (x.length-1) zS))
def aT2:PL→rK→rK
 | .state a,s=>(s.1,s.2.1++ [a],s.2.2)
 | .par a,s=>(s.1,s.2.1,s.2.2.1++ [a],s.2.2.2)
 | .inn t,s=>(s.1,s.2.1,s.2.2.1,s.2.2.2.1++ [t],s.2.2.2.2)
 | .out a,s=>(s.1,s.2.1,s.2.2.1,s.2.2.2.1,s.2.2.2.2.1++ [a],())
 | _,s=>s
def add:PL→TSc→TSc
 | .prec n,s=>((n:Int),s.2)
 | .fin t,s=>(s.1,s.2.1,s.2.2.1,s.2.2.2.1,t,s.2.2.2.2.2)
 | .step a b,s=>(s.1,s.2.1,s.2.2.1,s.2.2.2.1,s.2.2.2.2.1,a,b,s.2.2.2.2.2.2.2)
 | .tol t,s=>(s.1,s.2.1,s.2.2.1,s.2.2.2.1,s.2.2.2.2.1,s.2.2.2.2.2.1,s.2.2.2.2.2.2.1,t,s.2.2.2.2.2.2.2.2)
 | .tries n,s=>(s.1,(n:Int),s.2.2)
 | .order n,s=>(s.1,s.2.1,(n:Int),s.2.2.2)
 | .mode m,s=>(s.1,s.2.1,s.2.2.1,m,s.2.2.2.2)
 | .sub t,s=>(s.1,s.2.1,s.2.2.1,s.2.2.2.1,s.2.2.2.2.1,s.2.2.2.2.2.1,s.2.2.2.2.2.2.1,s.2.2.2.2.2.2.2.1,s.2.2.2.2.2.2.2.2.1++ [(t,[],[],[],[],())],s.2.2.2.2.2.2.2.2.2)
 | .link a,s=>(s.1,s.2.1,s.2.2.1,s.2.2.2.1,s.2.2.2.2.1,s.2.2.2.2.2.1,s.2.2.2.2.2.2.1,s.2.2.2.2.2.2.2.1,s.2.2.2.2.2.2.2.2.1,s.2.2.2.2.2.2.2.2.2.1++ [a],())
 | p,s=>(s.1,s.2.1,s.2.2.1,s.2.2.2.1,s.2.2.2.2.1,s.2.2.2.2.2.1,s.2.2.2.2.2.2.1,s.2.2.2.2.2.2.2.1,last s.2.2.2.2.2.2.2.2.1 (aT2 p),s.2.2.2.2.2.2.2.2.2)
def bID:PL→Bool
 | .state _| .par _| .inn _| .out _=>true
 | _=>false
def NmK(t:List Nat):Prop:=cR none t=some true∧aWq t
def RgK(r:TRg):Prop:=okW r.1∧fm (sg r.1)=true∧r.1.length≤100∧(r.2.1= []∨okW r.2.1∧fm (sg r.2.1)=true∧r.2.1.length≤100)
def ExK(e:Ex):Prop:=W 30 e∧kP none (tx 30 e)=some (e,0,0,())∧fits 30 e
def LiK(t:List Nat):Prop:=okW t∧tH none t=some true∧(∀c∈t,c≠35∧c≠10)∧t.length≤100
def okP:PL→Int→TSc→Prop
 | .prec n,k,_=>k=0∧n<1000
 | .fin t,k,_=>k=1∧LiK t
 | .step a b,k,_=>k=2∧LiK a∧LiK b
 | .tol t,k,_=>k=3∧LiK t
 | .tries n,k,_=>k=4∧n<1000
 | .order n,k,_=>k=5∧n<1000
 | .mode m,k,_=>k=6∧(m=1∨m=2)
 | .sub t,k,s=>7≤k∧s.2.2.2.2.2.2.2.2.2.1= []∧s.2.2.2.2.2.2.2.2.1.length≤1000∧NmK t
 | .link a,k,s=>7≤k∧s.2.2.2.2.2.2.2.2.2.1.length≤1000∧NmK a.1∧NmK a.2.1∧NmK a.2.2.1∧NmK a.2.2.2.1
 | .state a,k,s=>7≤k∧s.2.2.2.2.2.2.2.2.2.1= []∧0<s.2.2.2.2.2.2.2.2.1.length∧s.2.2.2.2.2.2.2.2.1.length≤1000∧(s.2.2.2.2.2.2.2.2.1.getD (s.2.2.2.2.2.2.2.2.1.length-1) zS).2.1.length≤1000∧NmK a.1∧RgK a.2.1∧ExK a.2.2.1
 | .par a,k,s=>7≤k∧s.2.2.2.2.2.2.2.2.2.1= []∧0<s.2.2.2.2.2.2.2.2.1.length∧s.2.2.2.2.2.2.2.2.1.length≤1000∧(s.2.2.2.2.2.2.2.2.1.getD (s.2.2.2.2.2.2.2.2.1.length-1) zS).2.2.1.length≤1000∧NmK a.1∧RgK a.2.1
 | .inn a,k,s=>7≤k∧s.2.2.2.2.2.2.2.2.2.1= []∧0<s.2.2.2.2.2.2.2.2.1.length∧s.2.2.2.2.2.2.2.2.1.length≤1000∧(s.2.2.2.2.2.2.2.2.1.getD (s.2.2.2.2.2.2.2.2.1.length-1) zS).2.2.2.1.length≤1000∧NmK a
 | .out a,k,s=>7≤k∧s.2.2.2.2.2.2.2.2.2.1= []∧0<s.2.2.2.2.2.2.2.2.1.length∧s.2.2.2.2.2.2.2.2.1.length≤1000∧(s.2.2.2.2.2.2.2.2.1.getD (s.2.2.2.2.2.2.2.2.1.length-1) zS).2.2.2.2.1.length≤1000∧NmK a.1∧ExK a.2.1
theorem aQs{c:Nat}(h:iE c=true):c≠32∧c≠46∧c≠35∧c≠10:=by
 refine⟨?_,?_,?_,?_⟩<;>(rintro rfl; exact absurd h xAa)
theorem NmK.w{t:List Nat}(h:NmK t):okW t:=by
 obtain⟨⟨c,r,rfl,_⟩,f,_⟩:=h.2;exact⟨by simp,fun c hc=>(aQs (f c hc)).1⟩
theorem NmK.len{t:List Nat}(h:NmK t):t.length≤20:=by
 have:=h.1;grind[Go.Proofs.Nu.cR,bD]
theorem NmK.dot{t:List Nat}(h:NmK t):∀c∈t,c≠46:=fun c hc=>(aQs (h.2.2.1 c hc)).2.1
theorem bKL{n:Nat}(h:n<1000):∀c∈dg n,oR c=true:=List.all_eq_true.1 (aR5 n h).1
variable {n:Int} {S:List Nat} {l:TLn} {w:List Nat} {ws:List qd}
def Got(n:Int)(S:List Nat)(s:TSc)(q:(TSc×TLn)⊕TSp):Prop:=∃f,q= .inl (s,f)
theorem bKM(q:S.length≤4000000000){k:Int}{s:TSc}{p:PL}(U:k<7)(hp:okP p k s)(h:At n S (wds p) l):Tot (aAM none k s l) (Got n S (add p s)):=by
 unfold aAM;cases p with
 | prec m =>
  obtain⟨rfl,hm⟩:=hp;obtain⟨_,L,N,J⟩:=aR5 m hm;refine .ite (fun _=>isE q h (by unfold okW; decide) fun I g=>bMd q g (bKL hm) L N fun l2 z=>aQr z (.ret ⟨l2,by rw[J]; rfl⟩)) fun f=>absurd rfl f
 | fin t =>
  obtain⟨rfl,ht⟩:=hp;exact .ite (fun f=>absurd f xAa) fun _=>.ite (fun _=>isE q h (by unfold okW; decide) fun I g=>bES q g ht.1 ht.2.1 fun l2 z=>aQr z (.ret ⟨_,rfl⟩)) fun f=>absurd rfl f
 | step a b =>
  obtain⟨rfl,O,hb⟩:=hp;exact .ite (fun f=>absurd f xAa) fun _=>.ite (fun f=>absurd f xAa) fun _=>.ite (fun _=>isE q h (by unfold okW; decide) fun I g=>bES q g O.1 O.2.1 fun l2 z=>bES q z hb.1 hb.2.1 fun l2 z=>aQr z (.ret ⟨_,rfl⟩)) fun f=>absurd rfl f
 | tol t =>
  obtain⟨rfl,ht⟩:=hp;exact .ite (fun f=>absurd f xAa) fun _=>.ite (fun f=>absurd f xAa) fun _=>.ite (fun f=>absurd f xAa) fun _=>.ite (fun _=>isE q h (by unfold okW; decide) fun I g=>bES q g ht.1 ht.2.1 fun l2 z=>aQr z (.ret ⟨_,rfl⟩)) fun f=>absurd rfl f
 | tries m =>
  obtain⟨rfl,hm⟩:=hp;obtain⟨_,L,N,J⟩:=aR5 m hm;refine .ite (fun f=>absurd f xAa) fun _=>.ite (fun f=>absurd f xAa) fun _=>.ite (fun f=>absurd f xAa) fun _=>.ite (fun f=>absurd f xAa) fun _=>.ite (fun _=>isE q h (by unfold okW; decide) fun I g=>bMd q g (bKL hm) L N fun l2 z=>aQr z (.ret ⟨l2,by rw[J]; rfl⟩)) fun f=>absurd rfl f
 | order m =>
  obtain⟨rfl,hm⟩:=hp;obtain⟨_,L,N,J⟩:=aR5 m hm;refine .ite (fun f=>absurd f xAa) fun _=>.ite (fun f=>absurd f xAa) fun _=>.ite (fun f=>absurd f xAa) fun _=>.ite (fun f=>absurd f xAa) fun _=>.ite (fun f=>absurd f xAa) fun _=>.ite (fun _=>isE q h (by unfold okW; decide) fun I g=>bMd q g (bKL hm) L N fun l2 z=>aQr z (.ret ⟨l2,by rw[J]; rfl⟩)) fun f=>absurd rfl f
 | mode m =>
  obtain⟨rfl,hm⟩:=hp;refine .ite (fun f=>absurd f xAa) fun _=>.ite (fun f=>absurd f xAa) fun _=>.ite (fun f=>absurd f xAa) fun _=>.ite (fun f=>absurd f xAa) fun _=>.ite (fun f=>absurd f xAa) fun _=>.ite (fun f=>absurd f xAa) fun _=>?_;rcases hm with rfl|rfl
  ·exact wE q h (by grind[okW]) fun I g=>mE rfl (aQr g (.ret ⟨_,rfl⟩))
  ·exact wE q h (by grind[okW]) fun I g=>mE rfl (aQr g (.ret ⟨_,rfl⟩))
 | _=>exact absurd hp.1 (by omega)
theorem bLd{β:Type}{r:TRg}{f:(TRg×TLn)⊕TSp→Option β}{P:β→Prop}(N:S.length≤4000000000)(I:RgK r)(h:At n S (rgW r++ws) l)(z:ws= []∨ ∃u,ws= [100,101,114]::u)(U:∀g,At n S ws g→Tot (f (.inl (r,g))) P):Tot ((gD none l).bind f) P:=by
 obtain⟨lo,hi,u⟩:=r;obtain⟨r1,L,J,O⟩:=I;unfold rgW at h;by_cases q:hi= []
 ·rw[if_pos q] at h;exact bMf N h r1 L J z fun g Y=>by simp_all
 ·rw[if_neg q] at h;grind[bMe]
theorem ExK.e{e:Ex}(h:ExK e):tx 30 e≠ []∧(tx 30 e).head? ≠ some 32:=by
 obtain⟨c,r,e,hc⟩:=aMD h.1;simp_all
theorem Tot.no{β:Type}{a b:List Nat}{l:TLn}{x y:Option β}{P:β→Prop}(h:decide (a=b)=false)(f:Tot y P):Tot (if (a,l).1=b then x else y) P:=.ite (fun g=>absurd g (of_decide_eq_false h)) fun _=>f
theorem bKN(f:S.length≤4000000000){k:Int}{s:TSc}{p:PL}(hk:bID p=true)(hp:okP p k s)(h:At n S (wds p) l)(x:List rK)(y:Nat):Tot (aAN none x y (s.2.2.2.2.2.2.2.2.1.getD (s.2.2.2.2.2.2.2.2.1.length-1) zS) l) (fun q=>∃l',q= .inl (aT2 p (s.2.2.2.2.2.2.2.2.1.getD (s.2.2.2.2.2.2.2.2.1.length-1) zS),l')):=by
 unfold aAN;cases p with
 | state a =>
  obtain⟨_,_,_,_,hb,g,Z,I⟩:=hp;exact wE f h (by grind[okW]) fun Y L=>.ite (fun _=>nmE f L g.w g.1 fun l2 J=>isE f J (by unfold okW; decide) fun l3 N=>bLd f Z N (.inr ⟨_,rfl⟩) fun U O=>isE f O (by unfold okW; decide) fun l5 h5=>bLb f h5 I.e.1 I.e.2 I.2.1 fun l6 h6=>.ck (by omega) (aQr h6 (.ret ⟨l6,rfl⟩))) fun z=>absurd rfl z
 | par a =>
  obtain⟨_,_,_,_,hb,g,Z⟩:=hp;have h:At n S ([112,97,114]::a.1:: [61]::(rgW a.2.1++ [])) l:=by rw[List.append_nil]; exact h
  exact wE f h (by grind[okW]) fun Y L=>.no rfl <| .ite (fun _=>nmE f L g.w g.1 fun l2 J=>isE f J (by unfold okW; decide) fun l3 N=>bLd f Z N (.inl rfl) fun U O=>.ck (by omega) (aQr O (.ret ⟨U,rfl⟩))) fun z=>absurd rfl z
 | inn a =>
  obtain⟨_,_,_,_,hb,g⟩:=hp;exact wE f h (by grind[okW]) fun Y L=>.no rfl <| .no rfl <| .ite (fun _=>nmE f L g.w g.1 fun l2 J=>.ck (by omega) (aQr J (.ret ⟨l2,rfl⟩))) fun z=>absurd rfl z
 | out a =>
  obtain⟨_,_,_,_,hb,g,I⟩:=hp;exact wE f h (by grind[okW]) fun Y L=>.no rfl <| .no rfl <| .no rfl <| .ite (fun _=>nmE f L g.w g.1 fun l2 J=>isE f J (by unfold okW; decide) fun l3 N=>bLb f N I.e.1 I.e.2 I.2.1 fun U O=>.ck (by omega) (aQr O (.ret ⟨U,rfl⟩))) fun z=>absurd rfl z
 | _=>cases hk
theorem bFO(z:S.length≤4000000000){k:Int}{s:TSc}{p:PL}(hk:7≤k)(hp:okP p k s)(h:At n S (wds p) l):Tot (qG none s l) (Got n S (add p s)):=by
 unfold qG;have f:∀w ws,At n S (w::ws) l→okW w→w≠ [108,105,110,107]→w≠ [115,117,98]→bID p=true→s.2.2.2.2.2.2.2.2.2.1= []→0<s.2.2.2.2.2.2.2.2.1.length→s.2.2.2.2.2.2.2.2.1.length≤1000→Tot (qG none s l) (Got n S (add p s)):=fun w ws hA hw n1 n2 N Z h0 hx=>by
  unfold qG;refine(aJT z hA hw).bind fun r L=>?_;subst L;refine .ite (fun g=>absurd g n1) fun _=>.ite (fun g=>absurd g (by simp_all)) fun _=>.ite (fun g=>absurd g n2) fun _=>.ite (fun _=>.ck (by omega) (.ck (by omega) (.ck (by omega) ?_))) fun g=>absurd (show (0:Int)<(s.2.2.2.2.2.2.2.2.1.length:Int) by omega) g;have e:((s.2.2.2.2.2.2.2.2.1.length:Int)-1).toNat=s.2.2.2.2.2.2.2.2.1.length-1:=by omega
  have Q:=bKN z N hp h s.2.2.2.2.2.2.2.2.1 (s.2.2.2.2.2.2.2.2.1.length-1);simp only[e];refine Tot.bind Q fun q hq=>?_;obtain⟨l',rfl⟩:=hq;refine .ret ⟨l',?_⟩;cases p with
  | state a=>rfl
  | par a=>rfl
  | inn a=>rfl
  | out a=>rfl
  | _=>cases N
 cases p with
 | sub t =>
  obtain⟨_,Z,hx,ht⟩:=hp;refine(aJT z h (by grind[okW])).bind fun r L=>?_;subst L;exact .no rfl <| .ite (fun g=>absurd g (by simp_all)) fun _=>.ite (fun _=>wE z h (by grind[okW]) fun l1 I=>nmE z I ht.w ht.1 fun l2 J=>.ck (by omega) (aQr J (.ret ⟨l2,rfl⟩))) fun g=>absurd rfl g
 | link a =>
  obtain⟨_,Z,I,J,O,Y⟩:=hp;obtain⟨b1,b2,b3,b4,_⟩:=a;refine(aJT z h (by grind[okW])).bind fun r L=>?_;subst L;have U:∀ {a b:List Nat},NmK a→NmK b→okW (a++46::b)∧(a++46::b).length≤1000:=fun {a b} ha hb=>by
   exact⟨⟨by simp,fun c hc=>by
    rcases List.mem_append.1 hc with q|q
    ·exact ha.w.2 c q
    ·rcases List.mem_cons.1 q with rfl|q
     ·decide
     ·exact hb.w.2 c q⟩,by have:=ha.len; have:=hb.len; grind⟩
  exact .ite (fun _=>wE z h (by grind[okW]) fun l1 g1=>bLc z g1 (U I J).1 I.dot I.1 J.1 (U I J).2 fun l2 g2=>isE z g2 (by unfold okW; decide) fun l3 g3=>bLc z g3 (U O Y).1 O.dot O.1 Y.1 (U O Y).2 fun l4 g4=>aQr g4 (.ck (by omega) (.ret ⟨l4,rfl⟩))) fun g=>absurd rfl g
 | state a=>exact f _ _ h (by grind[okW]) xAa xAa rfl hp.2.1 hp.2.2.1 hp.2.2.2.1
 | par a=>exact f _ _ h (by grind[okW]) xAa xAa rfl hp.2.1 hp.2.2.1 hp.2.2.2.1
 | inn a=>exact f _ _ h (by grind[okW]) xAa xAa rfl hp.2.1 hp.2.2.1 hp.2.2.2.1
 | out a=>exact f _ _ h (by grind[okW]) xAa xAa rfl hp.2.1 hp.2.2.1 hp.2.2.2.1
 | _=>exact absurd hp.1 (by omega)
end Nu
end Go.Proofs
namespace Go.Proofs
open Go.Vc
set_option maxRecDepth 20000
namespace Nu
variable {n:Int} {S:List Nat} {l:TLn}
structure bFP(k:Nat)(s:rK):Prop where
 n:T8 s.1
 x:s.2.1.length≤k∧ ∀a∈s.2.1,T8 a.1∧T8 a.2.1.1∧T8 a.2.1.2.1∧OkE a.2.2.1
 p:s.2.2.1.length≤k∧ ∀a∈s.2.2.1,T8 a.1∧T8 a.2.1.1∧T8 a.2.1.2.1
 u:TL k s.2.2.2.1
 o:s.2.2.2.2.1.length≤k∧ ∀a∈s.2.2.2.2.1,T8 a.1∧OkE a.2.1
theorem bFP.ok{k:Nat}{s:rK}(h:bFP k s)(f:k≤4000):bCc s:=⟨h.n,⟨Nat.le_trans h.x.1 f,h.x.2⟩,⟨Nat.le_trans h.p.1 f,h.p.2⟩,h.u.up f,⟨Nat.le_trans h.o.1 f,h.o.2⟩⟩
theorem bFP.up{k m:Nat}{s:rK}(h:bFP k s)(f:k≤m):bFP m s:=⟨h.n,⟨Nat.le_trans h.x.1 f,h.x.2⟩,⟨Nat.le_trans h.p.1 f,h.p.2⟩,h.u.up f,⟨Nat.le_trans h.o.1 f,h.o.2⟩⟩
structure ScK(k:Nat)(s:TSc):Prop where
 e:T8 s.2.2.2.2.1
 h0:T8 s.2.2.2.2.2.1
 hm:T8 s.2.2.2.2.2.2.1
 t:T8 s.2.2.2.2.2.2.2.1
 sb:s.2.2.2.2.2.2.2.2.1.length≤k∧ ∀a∈s.2.2.2.2.2.2.2.2.1,bFP k a
 l:s.2.2.2.2.2.2.2.2.2.1.length≤k
theorem ScK.ok{k:Nat}{s:TSc}(h:ScK k s)(f:k≤4000):bDs s:=⟨h.e,h.h0,h.hm,h.t,⟨Nat.le_trans h.sb.1 f,fun a g=>(h.sb.2 a g).ok f⟩,Nat.le_trans h.l f⟩
theorem ScK.up{k m:Nat}{s:TSc}(h:ScK k s)(f:k≤m):ScK m s:=⟨h.e,h.h0,h.hm,h.t,⟨Nat.le_trans h.sb.1 f,fun a g=>(h.sb.2 a g).up f⟩,Nat.le_trans h.l f⟩
end Nu
end Go.Proofs
namespace Go.Proofs
open Go.Vc
set_option maxRecDepth 20000
namespace Nu
variable {n:Int} {S:List Nat} {l:TLn}
end Nu
end Go.Proofs
namespace Go.Proofs
open Go.Vc
set_option maxRecDepth 20000
namespace Nu
variable {n:Int} {S:List Nat} {l:TLn}
end Nu
end Go.Proofs
namespace Go.Proofs
open Go.Vc
set_option maxRecDepth 20000
namespace Nu
def sc0:TSc:=(0,0,0,0,[],[],[],[],[],[],())
theorem bLe(r:List Nat):∀w:List Nat,(∀b∈w,¬b=10)→aIG [10] (w++10::r)=some w.length
 | [],_=>by rfl
 | b::l,h=>by
  have hb:([10]:List Nat).isPrefixOf (b::(l++10::r))=false:=by
   grind
  rw[List.cons_append,aIG,hb,bLe r l fun x f=>h x (List.mem_cons_of_mem _ f)];rfl
def jn(f:List qd):List Nat:=f.flatMap (· ++ [10])
theorem bIE:∀f:List qd,f.length≤(jn f).length
 | []=>Nat.le_refl 0
 | w::f=>by
  have:=bIE f;grind[jn,List.length_append,List.length_singleton]
theorem bET:∀(f:List qd) (k:Nat),f.length≤k→(∀w∈f,∀b∈w,¬b=10)→aZV [10] k (jn f)=f++ [[]]
 | [],0,_,_=>rfl
 | [],k+1,_,_=>rfl
 | w::f,0,h,_=>absurd h (by simp_all)
 | w::f,k+1,h,g=>by
  have e:jn (w::f)=w++10::jn f:=by
   grind[jn,List.append_assoc]
  rw[e,aZV,bLe _ _ (g w List.mem_cons_self)];show (w++10::jn f).take w.length::aZV [10] k ((w++10::jn f).drop (w.length+1))=_;have d:(w++10::jn f).drop (w.length+1)=jn f:=by simp_all
  rw[List.take_left,d,bET f k (by simp_all) fun x q=>g x (List.mem_cons_of_mem _ q)];rfl
def okc(c:Nat):Prop:=c≠35∧c≠10
def lic(c:Nat):Prop:=c≠32∧okc c
theorem bEU{c:Nat}(h:oR c=true):lic c:=by
 have:=of_decide_eq_true h;grind[lic,okc]
theorem aWz{P:Nat→Prop}{s:List Nat}{i k:Nat}(g:∀c∈(s.drop i).take k,P c)(f:∀c∈s.drop (i+k),P c):∀c∈s.drop i,P c:=fun c hc=>by
 rw[← List.take_append_drop k (s.drop i),List.drop_drop] at hc;exact(List.mem_append.1 hc).elim (g c) (f c)
theorem drop_one{P:Nat→Prop}{s:List Nat}{i a:Nat}(h:jG s i a)(g:P a)(q:∀c∈s.drop (i+1),P c):∀c∈s.drop i,P c:=fun c hc=>by
 obtain⟨f,e⟩:=h;rw[List.drop_eq_getElem_cons f] at hc;grind
theorem bIF{P:Nat→Prop}{s:List Nat}{i:Nat}(h:s.length≤i):∀c∈s.drop i,P c:=fun c hc=>by
 grind[List.drop_eq_nil_of_le]
theorem aWA(s:List Nat)(i:Nat):∀c∈(s.drop i).take (cL s i),lic c:=fun c hc=>bEU (aMe s i c hc)
theorem aYr{s:List Nat}{i:Nat}(h:aGL s i=s.length)(hi:i≤s.length):∀c∈s.drop i,lic c:=by
 unfold aGL at h;have le:lic 101:=by grind[lic,okc]
 split at h
 ·rename_i q;refine drop_one q le ?_;dsimp only at h;have f:∀k,k+cL s k=s.length→ ∀c∈s.drop k,lic c:=fun k g=>aWz (aWA s k) (bIF (by omega));have z:=q.1;generalize g:(if jG s (i+1) 43∨jG s (i+1) 45 then i+2 else i+1)=k at h;split at h
  ·have:=f k h;split at g
   ·rename_i hs;subst g;rcases hs with hs|hs
    ·exact drop_one hs (by grind[lic,okc]) this
    ·exact drop_one hs (by grind[lic,okc]) this
   simp_all
  ·omega
 simp_all
theorem bEV{t:List Nat}(h:bId t):∀c∈t,lic c:=by
 obtain⟨_,⟨c,r,ht,hc⟩,g⟩:=h;have f:=g t 0 [] ⟨Nat.zero_le _,by simp⟩ trivial;unfold aCp at f;have h0:cL t 0≠0:=by
  grind
 have hd:=vW t 0;rw[if_neg h0,Nat.zero_add] at f;have:∀c∈t.drop 0,lic c:=by
  refine aWz (aWA t 0) ?_;rw[Nat.zero_add];split at f
  ·rename_i hs;have q:cL t 0<t.length:=hs.1.1;have z:=vW t (cL t 0+1);refine drop_one hs.1 (by grind[lic,okc]) (aWz (aWA t _) (aYr (by omega) (by omega)))
  grind[aYr]
 grind
theorem bAc{t:List Nat}(h:fm t=true):∀c∈t,lic c:=bEV (bDn h)
theorem bMW{t:List Nat}(h:fm t=true):okW t:=by
 obtain⟨_,⟨c,r,ht,_⟩,_⟩:=bDn h;exact⟨by simp_all,fun c hc=>(bAc h c hc).1⟩
theorem aWB{t:List Nat}(h:fm (sg t)=true):okW t∧t.length≤100∧ ∀c∈t,lic c:=by
 unfold sg at h;split at h
 ·rename_i hp;obtain⟨r,rfl⟩:=List.isPrefixOf_iff_prefix.1 hp;have f:=bAc h;have g:=bAb h;have hc:∀c∈ [45]++r,lic c:=fun c hc=>by
   rcases List.mem_cons.1 hc with rfl|hc
   all_goals grind[lic,okc]
  exact⟨⟨by simp,fun c h=>(hc c h).1⟩,by grind,hc⟩
 grind[bMW,Nat.le_trans,bAb,bAc]
def Wk(w:List Nat):Prop:=(∀c∈w,okc c)∧ ∃r c,w=r++ [c]∧c≠32
theorem Wk.of{w:List Nat}(h:w≠ [])(f:∀c∈w,lic c):Wk w:=by
 refine⟨fun c hc=>(f c hc).2,w.dropLast,w.getLast h,(List.dropLast_concat_getLast h).symm,(f _ (List.getLast_mem h)).1⟩
theorem Wk.app{a b:List Nat}(f:∀c∈a,okc c)(h:Wk b):Wk (a++b):=by
 obtain⟨q,r,c,rfl,hc⟩:=h;exact⟨fun x g=>(List.mem_append.1 g).elim (f x) (q x),a++r,c,by simp_all,hc⟩
theorem Wk.par{p:Prop}[Decidable p]{t:List Nat}(h:Wk t):Wk (par p t):=by
 unfold Nu.par;split
 ·exact .app (by unfold okc; decide) (.app h.1 ⟨by unfold okc; decide,[],41,rfl,by decide⟩)
 omega
theorem bLf:∀ {n:Nat} {e:Ex},W n e→Wk (tx n e):=by
 intro n e L
 induction L with
 | num n t h=>exact .of (by obtain⟨_,⟨c,r,rfl,_⟩,_⟩:=h; exact List.cons_ne_nil c r) (bEV h)
 | name n t h =>
  obtain⟨⟨c,r,rfl,_⟩,f,_⟩:=h;exact .of (List.cons_ne_nil c r) fun c hc=>⟨(aQs (f c hc)).1,(aQs (f c hc)).2.2⟩
 | two n k a b J f I hb g q =>
  rcases (by omega:(k=6∨k=7)∨(k=8∨k=9)) with h|h
  ·rw[aR2 h];refine .app g.1 (.app ?_ q.par);rcases h with rfl|rfl<;>(grind[okc,sgT])
  ·rw[aMC h];refine .app g.par.1 (.app ?_ q.par);rcases h with rfl|rfl<;>(grind[okc,sgT])
 | neg n a I z =>
  rw[bDm];exact .app (by grind[okc]) z.par
 | fn n k a J f I z =>
  rw[bEH J f];refine .app ?_ z.par;rcases (by omega:k=11∨k=12∨k=13) with rfl|rfl|rfl<;>(grind[okc,fnT])
theorem NmK.wk{t:List Nat}(h:NmK t):Wk t:=.of h.w.1 fun c hc=>⟨h.w.2 c hc,(aQs (h.2.2.1 c hc)).2.2⟩
theorem bMg{p:PL}{k:Int}{s:TSc}(h:okP p k s):∀w∈wds p,Wk w:=by
 have f:∀w:List Nat,(w≠ []∧ ∀c∈w,c≠32∧c≠35∧c≠10)→Wk w:=fun w g=>.of g.1 g.2;have num:∀n,n<1000→Wk (dg n):=fun n N=>.of (List.length_pos_iff.1 (aR5 n N).2.1) fun c hc=>bEU (bKL N c hc);have rg:∀r:TRg,RgK r→ ∀w∈rgW r,Wk w:=fun r I w g=>by
  obtain⟨lo,hi,u⟩:=r;obtain⟨r1,r2,r3,O⟩:=I;have a:=aWB r2;unfold rgW at g;split at g
  ·obtain rfl:=List.mem_singleton.1 g;exact .of a.1.1 a.2.2
  ·rename_i U;have b:=aWB (O.resolve_left U).2.1;rcases List.mem_cons.1 g with rfl|g
   ·exact .of a.1.1 a.2.2
   ·obtain rfl:=List.mem_singleton.1 g;exact .of b.1.1 b.2.2
 have one:∀ {u:List Nat} {ws:List qd},Wk u→(∀w∈ws,Wk w)→ ∀w∈u::ws,Wk w:=fun hu hs w g=>by
  grind
 have no:∀w∈([]:List qd),Wk w:=fun w g=>by cases g
 have J:∀t,LiK t→Wk t:=fun t ht=>.of ht.1.1 fun c hc=>⟨ht.1.2 c hc,ht.2.2.1 c hc⟩;have z:∀ {a b:List Nat},NmK a→NmK b→Wk (a++46::b):=fun {a b} q hb=>.app q.wk.1 (.app (a:=[46]) (by grind[okc]) hb.wk);cases p with
 | prec m=>exact one (f _ xAa) (one (num m h.2) no)
 | fin t=>exact one (f _ xAa) (one (J _ h.2) no)
 | step a b=>exact one (f _ xAa) (one (J _ h.2.1) (one (J _ h.2.2) no))
 | tol t=>exact one (f _ xAa) (one (J _ h.2) no)
 | tries m=>exact one (f _ xAa) (one (num m h.2) no)
 | order m=>exact one (f _ xAa) (one (num m h.2) no)
 | mode m =>
  refine one ?_ no;grind
 | sub t=>exact one (f _ xAa) (one h.2.2.2.wk no)
 | link a =>
  obtain⟨_,_,h1,Z,Y,h4⟩:=h;exact one (f _ xAa) (one (z h1 Z) (one (f _ xAa) (one (z Y h4) no)))
 | state a =>
  obtain⟨_,_,_,_,_,q,I,L⟩:=h;refine one (f _ xAa) (one q.wk (one (f _ xAa) fun w g=>?_));rcases List.mem_append.1 g with g|g
  ·grind
  ·exact one (f _ xAa) (one (bLf L.1) no) w g
 | par a =>
  obtain⟨_,_,_,_,_,q,I⟩:=h;exact one (f _ xAa) (one q.wk (one (f _ xAa) (rg _ I)))
 | inn a =>
  obtain⟨_,_,_,_,_,q⟩:=h;exact one (f _ xAa) (one q.wk no)
 | out a =>
  obtain⟨_,_,_,_,_,q,L⟩:=h;exact one (f _ xAa) (one q.wk (one (f _ xAa) (one (bLf L.1) no)))
def jw:List qd→List Nat
 | []=>[]
 | w::ws=>w++tl ws
theorem bLg:∀ {ws:List qd},ws≠ []→(∀w∈ws,Wk w)→Wk (jw ws)
 | [w],_,h=>by
  show Wk (w++ []);simp_all
 | w::v::ws,_,h=>by
  have f:=bLg (ws:=v::ws) xAf fun x g=>h x (.tail _ g);show Wk (w++tl (v::ws));rw[zJ];exact .app (h w (.head _)).1 (.app (a:=[32]) (by grind[okc]) f)
theorem bMh:∀ws:List qd,ws≠ []→Lft (jw ws) ws
 | [],h=>absurd rfl h
 | w::ws,_=>.inr (zJ w ws).symm
def ln(p:PL):List Nat:=jw (wds p)
theorem bDu(p:PL):∃w ws,wds p=w::ws∧okW w:=by
 cases p with
 | mode m =>
  refine⟨_,_,rfl,?_⟩;grind[okW]
 | _=>exact⟨_,_,rfl,by grind[okW]⟩
theorem bMX(n:Int)(p:PL):At n (ln p) (wds p) (n,0,ln p,()):=⟨rfl,rfl,Int.le_refl 0,by simp_all,by
 obtain⟨w,ws,e,_⟩:=bDu p;exact bMh _ (by grind)⟩
theorem bLh{p:PL}{k:Int}{s:TSc}(h:okP p k s):Wk (ln p):=by
 obtain⟨w,ws,e,_⟩:=bDu p;exact bLg (by grind) (bMg h)
def aEW(s:TSc)(ps:List PL):TSc:=ps.foldl (fun s p=>add p s) s
def okR:List PL→Int→TSc→Prop
 | [],_,_=>True
 | p::ps,k,s=>okP p k s∧okR ps (k+1) (add p s)
theorem aQt:∀ {ps f:List PL} {k:Int} {s:TSc},okR ps k s→okR f (k+ps.length) (aEW s ps)→okR (ps++f) k s
 | [],f,k,s,_,h=>by
  have e:k+(([]:List PL).length:Int)=k:=by simp
  rw[e] at h;exact h
 | p::ps,f,k,s,h,g=>⟨h.1,aQt h.2 (by
  have e:k+((p::ps).length:Int)=k+1+(ps.length:Int):=by grind
  rw[e] at g;exact g)⟩
theorem bAd:∀ {ps:List PL} {k:Int} {s:TSc},okR ps k s→ ∀(i:Nat) (hi:i<ps.length),okP ps[i] (k+i) (aEW s (ps.take i))
 | p::ps,k,s,h,0,_=>by
  have e:k+((0:Nat):Int)=k:=by omega
  rw[e];exact h.1
 | p::ps,k,s,h,i+1,hi=>by
  have:=bAd h.2 i (by simp_all);have e:k+((i+1:Nat):Int)=k+1+(i:Int):=by omega
  rw[e];exact this
theorem bIG(s:TSc)(ps:List PL)(i:Nat)(hi:i<ps.length):aEW s (ps.take (i+1))=add ps[i] (aEW s (ps.take i)):=by
 unfold aEW;rw[List.take_succ_eq_append_getElem hi,List.foldl_append];rfl
abbrev TD:Type:=Int×Int×Int×Int×Int×Int×List Nat×List Nat×List Nat×List Nat×List rK×List TLk
def tup(k i:Int)(s:TSc):TD:=(k,i,s.1,s.2.1,s.2.2.1,s.2.2.2.1,s.2.2.2.2.1,s.2.2.2.2.2.1,s.2.2.2.2.2.2.1,s.2.2.2.2.2.2.2.1,s.2.2.2.2.2.2.2.2.1,s.2.2.2.2.2.2.2.2.2.1)
def bNK(k:Int)(s:TSc):Int×Int×Int×Int×Int×List Nat×List Nat×List Nat×List Nat×List rK×List TLk:=(k,s.1,s.2.1,s.2.2.1,s.2.2.2.1,s.2.2.2.2.1,s.2.2.2.2.2.1,s.2.2.2.2.2.2.1,s.2.2.2.2.2.2.2.1,s.2.2.2.2.2.2.2.2.1,s.2.2.2.2.2.2.2.2.2.1)
theorem bKO{text:List Nat}{i:Nat}{s:TSc}{p:PL}(hi:(i:Int)<((yY text (aR ⟨#[10]⟩)).length:Int))(Y:i<1000000)(U:(yY text (aR ⟨#[10]⟩)).getD i []=ln p)(hp:okP p (i:Int) s)(f:(ln p).length≤4000000000):Tot (mV none text i i s.1 s.2.1 s.2.2.1 s.2.2.2.1 s.2.2.2.2.1 s.2.2.2.2.2.1 s.2.2.2.2.2.2.1 s.2.2.2.2.2.2.2.1 s.2.2.2.2.2.2.2.2.1 s.2.2.2.2.2.2.2.2.2.1) (fun q=>q= .inl (tup ((i+1:Nat):Int) ((i+1:Nat):Int) (add p s))):=by
 have L:=bLh hp;obtain⟨w,ws,e,ok⟩:=bDu p;unfold mV;rw[show (i:Int).toNat=i from rfl,U];have c1:(aA5 (ln p) (aR ⟨#[35]⟩)).1=ln p:=by
  show (aA5 (ln p) [35]).1=_;rw[bCf fun c hc=>(L.1 c hc).1]
 rw[c1];have T:=(bCe (ln p) (by
  obtain⟨_,r,c,N,hc⟩:=L;simp_all) (by omega)).eq
 have z:=bMX ((i:Int)+1) p;have g:=z;rw[e] at g;refine .ite (fun _=>.ck (by omega) (.ck ⟨by omega,by decide⟩ (.ck (by omega) (.ck (by grind) ?_)))) fun J=>absurd hi J;rw[T];refine(aJT f g ok).bind fun r N=>?_;subst N;refine .ite (fun J=>absurd J ok.1) fun _=>.ite (fun I=>?_) fun I=>?_
 ·refine(bKM (s:=s) f I hp z).bind fun q hq=>?_;obtain⟨O,rfl⟩:=hq;exact .ck (by omega) (.ck (by omega) (.ret (by rfl)))
 ·refine(bFO (s:=s) f (Int.not_lt.1 I) hp z).bind fun q hq=>?_;obtain⟨O,rfl⟩:=hq;exact .ck (by omega) (.ck (by omega) (.ret (by rfl)))
theorem bKP{text:List Nat}{i:Nat}{s:TSc}(hi:(i:Int)<((yY text (aR ⟨#[10]⟩)).length:Int))(I:i<1000000)(g:(yY text (aR ⟨#[10]⟩)).getD i []= []):Tot (mV none text i i s.1 s.2.1 s.2.2.1 s.2.2.2.1 s.2.2.2.2.1 s.2.2.2.2.2.1 s.2.2.2.2.2.2.1 s.2.2.2.2.2.2.2.1 s.2.2.2.2.2.2.2.2.1 s.2.2.2.2.2.2.2.2.2.1) (fun q=>q= .inl (tup (i:Int) ((i+1:Nat):Int) s)):=by
 unfold mV;rw[show (i:Int).toNat=i from rfl,g];have c1:(aA5 [] (aR ⟨#[35]⟩)).1= []:=rfl;rw[c1];have T:=(bCe [] (.inl rfl) xAa).eq;refine .ite (fun _=>.ck (by omega) (.ck ⟨by decide,by decide⟩ (.ck (by omega) (.ck (by rfl) ?_)))) fun f=>absurd hi f;rw[T];refine(bAa (n:=(i:Int)+1) (S:=[]) ⟨rfl,rfl,Int.le_refl 0,Int.le_refl 0,.inl rfl⟩).bind fun r z=>?_;subst z;exact .ite (fun _=>.ck (by omega) (.ret (by rfl))) fun f=>absurd rfl f
theorem bMi(n:Nat)(Y:7≤n)(s:TSc)(g:fF none s=some s.2.2.2.2.2.2.2.2.2.1)(hm:iQ none s=some true):Tot (wS none (n:Int) s.1 s.2.1 s.2.2.1 s.2.2.2.1 s.2.2.2.2.1 s.2.2.2.2.2.1 s.2.2.2.2.2.2.1 s.2.2.2.2.2.2.2.1 s.2.2.2.2.2.2.2.2.1 s.2.2.2.2.2.2.2.2.2.1) (fun x=>x=(s,(0,0,()),0,())):=by
 obtain⟨J,I,U,q,z,N,O,L,x,f,u⟩:=s;have g:fF none (J,I,U,q,z,N,O,L,x,f,())=some f:=g;have hm:iQ none (J,I,U,q,z,N,O,L,x,f,())=some true:=hm;unfold wS;simp only[g,hm,Option.getD_some,Option.isSome_some];exact .ck trivial (.ck (fun _=>trivial) (.ite (fun h=>absurd h (by grind)) fun _=>.ret rfl))
theorem bIH(ps:List PL)(U:7≤ps.length)(hn:ps.length≤900000)(z:okR ps 0 sc0)(N:(jn (ps.map ln)).length≤20000)(ho:fF none (aEW sc0 ps)=some (aEW sc0 ps).2.2.2.2.2.2.2.2.2.1)(hm:iQ none (aEW sc0 ps)=some true):sM none (jn (ps.map ln))=some (aEW sc0 ps,(0,0,()),0,()):=by
 refine Tot.eq ?_;have Y:∀i (hi:i<ps.length),Wk (ln ps[i]):=fun i hi=>bLh (bAd z i hi);have hsp:yY (jn (ps.map ln)) (aR ⟨#[10]⟩)=ps.map ln++ [[]]:=bET _ _ (bIE _) fun w L b hb=>by
  obtain⟨p,hp,rfl⟩:=List.mem_map.1 L;obtain⟨i,hi,rfl⟩:=List.mem_iff_getElem.1 hp;exact((Y i hi).1 b hb).2
 have g:∀p∈ps,(ln p).length≤20000:=by
  intro p hp;have O:∀(I:List qd) (w:List Nat),w∈I→w.length≤(jn I).length:=fun I w=>by
   induction I with
   | nil=>simp_all
   | cons x r ih =>
    intro h;have e:jn (x::r)=x++10::jn r:=(by simp[jn]);grind
  grind[Nat.le_trans,List.mem_map_of_mem]
 have hL:(yY (jn (ps.map ln)) (aR ⟨#[10]⟩)).length=ps.length+1:=by simp_all
 unfold sM;refine .ite (fun h=>absurd h (by omega)) fun _=>.ck ⟨by omega,by decide⟩ ?_;refine Tot.bind (P:=fun q=>q= .inl (bNK (ps.length:Int) (aEW sc0 ps))) (Tot.loop (fun d=>(∃i:Nat,i≤ps.length∧d=tup i i (aEW sc0 (ps.take i)))∨d=tup (ps.length:Int) ((ps.length+1:Nat):Int) (aEW sc0 ps)) (fun d=>(((ps.length+1:Nat):Int)-d.2.1).toNat) ?_ (.inl ⟨0,Nat.zero_le _,rfl⟩)) fun q hq=>?_
 ·rintro d (⟨i,hi,rfl⟩|rfl)
  ·rcases Nat.lt_or_ge i ps.length with f|Z
   ·have J:(yY (jn (ps.map ln)) (aR ⟨#[10]⟩)).getD i []=ln ps[i]:=by
     grind
    have hp:=bAd z i f;rw[Int.zero_add] at hp;refine(bKO (s:=aEW sc0 (ps.take i)) (by omega) (by omega) J hp (Nat.le_trans (g _ (List.getElem_mem f)) xAa)).mono fun q hq=>?_;subst hq;refine⟨.inl ⟨i+1,f,by grind[bIG]⟩,?_⟩;show (((ps.length+1:Nat):Int)-((i+1:Nat):Int)).toNat<(((ps.length+1:Nat):Int)-(i:Int)).toNat;omega
   ·obtain rfl:i=ps.length:=(by omega);have J:(yY (jn (ps.map ln)) (aR ⟨#[10]⟩)).getD ps.length []= []:=by
     simp_all
    refine(bKP (s:=aEW sc0 (ps.take ps.length)) (by omega) (by omega) J).mono fun q hq=>?_;subst hq;rw[List.take_length];refine⟨.inr rfl,?_⟩;show (((ps.length+1:Nat):Int)-((ps.length+1:Nat):Int)).toNat<(((ps.length+1:Nat):Int)-(ps.length:Int)).toNat;omega
  ·show Tot (mV none _ _ _ _ _ _ _ _ _ _ _ _ _) _;unfold mV;refine .ite (fun h=>absurd h ?_) fun _=>.ret rfl;show ¬((ps.length+1:Nat):Int)<_;omega
 ·subst hq;exact bMi ps.length U _ ho hm
def aJU(x:rK):List PL:=.sub x.1::(x.2.1.map .state++(x.2.2.1.map .par++(x.2.2.2.1.map .inn++x.2.2.2.2.1.map .out)))
def heP(s:TSc):List PL:=[.prec s.1.toNat,.fin s.2.2.2.2.1,.step s.2.2.2.2.2.1 s.2.2.2.2.2.2.1,.tol s.2.2.2.2.2.2.2.1,.tries s.2.1.toNat,.order s.2.2.1.toNat,.mode s.2.2.2.1]
def scP(s:TSc):List PL:=heP s++(s.2.2.2.2.2.2.2.2.1.flatMap aJU++s.2.2.2.2.2.2.2.2.2.1.map .link)
structure bDv(s:rK):Prop where
 n:NmK s.1
 x:s.2.1.length≤1000∧ ∀a∈s.2.1,NmK a.1∧RgK a.2.1∧ExK a.2.2.1
 p:s.2.2.1.length≤1000∧ ∀a∈s.2.2.1,NmK a.1∧RgK a.2.1
 u:s.2.2.2.1.length≤1000∧ ∀a∈s.2.2.2.1,NmK a
 o:s.2.2.2.2.1.length≤1000∧ ∀a∈s.2.2.2.2.1,NmK a.1∧ExK a.2.1
structure ScM(s:TSc):Prop where
 n:(0≤s.1∧s.1<1000)∧(0≤s.2.1∧s.2.1<1000)∧(0≤s.2.2.1∧s.2.2.1<1000)∧(s.2.2.2.1=1∨s.2.2.2.1=2)
 t:LiK s.2.2.2.2.1∧LiK s.2.2.2.2.2.1∧LiK s.2.2.2.2.2.2.1∧LiK s.2.2.2.2.2.2.2.1
 sb:s.2.2.2.2.2.2.2.2.1.length≤1000∧ ∀a∈s.2.2.2.2.2.2.2.2.1,bDv a
 l:s.2.2.2.2.2.2.2.2.2.1.length≤1000∧ ∀a∈s.2.2.2.2.2.2.2.2.2.1,NmK a.1∧NmK a.2.1∧NmK a.2.2.1∧NmK a.2.2.2.1
def F_(s:TSc)(x:List rK)(l:List TLk):TSc:=(s.1,s.2.1,s.2.2.1,s.2.2.2.1,s.2.2.2.2.1,s.2.2.2.2.2.1,s.2.2.2.2.2.2.1,s.2.2.2.2.2.2.2.1,x,l,())
theorem bII(xs:List rK)(y:rK)(f:rK→rK):last (xs++ [y]) f=xs++ [f y]:=by
 grind[last]
theorem aQu(xs:List rK)(y:rK):(xs++ [y]).getD ((xs++ [y]).length-1) zS=y:=by simp
theorem aUm(s:TSc)(a b:List PL):aEW s (a++b)=aEW (aEW s a) b:=List.foldl_append
theorem parts{α:Type}(c:α→PL)(hc:∀a s,add (c a) s=F_ s (last s.2.2.2.2.2.2.2.2.1 (aT2 (c a))) s.2.2.2.2.2.2.2.2.2.1)(s:TSc)(xs:List rK):∀(L:List α) (y:rK) (k:Int),(∀pre a post k',L=pre++a::post→7≤k'→okP (c a) k' (F_ s (xs++ [pre.foldl (fun y a=>aT2 (c a) y) y]) []))→7≤k →
  okR (L.map c) k (F_ s (xs++ [y]) [])∧aEW (F_ s (xs++ [y]) []) (L.map c)=F_ s (xs++ [L.foldl (fun y a=>aT2 (c a) y) y]) []
 | [],y,k,_,_=>⟨trivial,rfl⟩
 | a::L,y,k,h,g=>by
  have e:add (c a) (F_ s (xs++ [y]) [])=F_ s (xs++ [aT2 (c a) y]) []:=by
   grind[F_,last,aT2,bII]
  have q:=parts c hc s xs L (aT2 (c a) y) (k+1) (fun pre b post k' z f=>h (a::pre) b post k' (by grind) f) (by omega);refine⟨⟨h [] a L k rfl g,?_⟩,?_⟩
  all_goals grind[aEW,add]
theorem aWC:∀(L:List TSt) (y:rK),L.foldl (fun y a=>aT2 (.state a) y) y=(y.1,y.2.1++L,y.2.2)
 | [],y=>by simp_all
 | a::L,y=>by
  rw[List.foldl_cons,aWC L];show (y.1,(y.2.1++ [a])++L,y.2.2)=_;simp_all
theorem bDw:∀(L:List TPa) (y:rK),L.foldl (fun y a=>aT2 (.par a) y) y=(y.1,y.2.1,y.2.2.1++L,y.2.2.2)
 | [],y=>by simp_all
 | a::L,y=>by
  rw[List.foldl_cons,bDw L];show (y.1,y.2.1,(y.2.2.1++ [a])++L,y.2.2.2)=_;simp_all
theorem bDx:∀(L:List qd) (y:rK),L.foldl (fun y a=>aT2 (.inn a) y) y=(y.1,y.2.1,y.2.2.1,y.2.2.2.1++L,y.2.2.2.2)
 | [],y=>by simp_all
 | a::L,y=>by
  rw[List.foldl_cons,bDx L];show (y.1,y.2.1,y.2.2.1,(y.2.2.2.1++ [a])++L,y.2.2.2.2)=_;simp_all
theorem bDy:∀(L:List TOu) (y:rK),L.foldl (fun y a=>aT2 (.out a) y) y=(y.1,y.2.1,y.2.2.1,y.2.2.2.1,y.2.2.2.2.1++L,())
 | [],y=>by simp_all
 | a::L,y=>by
  rw[List.foldl_cons,bDy L];show (y.1,y.2.1,y.2.2.1,y.2.2.2.1,(y.2.2.2.2.1++ [a])++L,())=_;simp_all
theorem aUn{α:Type}{L pre post:List α}{a:α}{k:Nat}(h:L=pre++a::post)(f:L.length≤k):pre.length≤k:=by
 grind
theorem bKQ(s:TSc)(xs:List rK)(x:rK)(q:bDv x)(N:xs.length<1000)(k:Int)(L:7≤k):okR (aJU x) k (F_ s xs [])∧aEW (F_ s xs []) (aJU x)=F_ s (xs++ [x]) []:=by
 have f:∀y:rK,(xs++ [y]).length≤1000∧0<(xs++ [y]).length:=fun y=>by grind
 obtain⟨n,X,P,U,O,u⟩:=x;have A:=parts .state (fun _ _=>rfl) s xs X (n,[],[],[],[],()) (k+1) (fun pre a post J I g=>by
  have z:=q.x.2 a (by simp_all);rw[aWC];refine⟨g,rfl,(f _).2,(f _).1,?_,z⟩;show ((xs++ [_]).getD ((xs++ [_]).length-1) zS).2.1.length≤_;rw[aQu];show ([]++pre).length≤_;exact aUn I q.x.1) (by omega)
 rw[aWC] at A;have B:=parts .par (fun _ _=>rfl) s xs P (n,[]++X,[],[],[],()) (k+1+((X.map PL.state).length:Int)) (fun pre a post J I g=>by
  have z:=q.p.2 a (by simp_all);rw[bDw];refine⟨g,rfl,(f _).2,(f _).1,?_,z⟩;show ((xs++ [_]).getD ((xs++ [_]).length-1) zS).2.2.1.length≤_;rw[aQu];show ([]++pre).length≤_;exact aUn I q.p.1) (by omega)
 rw[bDw] at B;have C:=parts .inn (fun _ _=>rfl) s xs U (n,[]++X,[]++P,[],[],()) (k+1+((X.map PL.state).length:Int)+((P.map PL.par).length:Int)) (fun pre a post J I g=>by
  have z:=q.u.2 a (by simp_all);rw[bDx];refine⟨g,rfl,(f _).2,(f _).1,?_,z⟩;show ((xs++ [_]).getD ((xs++ [_]).length-1) zS).2.2.2.1.length≤_;rw[aQu];show ([]++pre).length≤_;exact aUn I q.u.1) (by omega)
 rw[bDx] at C;have D:=parts .out (fun _ _=>rfl) s xs O (n,[]++X,[]++P,[]++U,[],()) (k+1+((X.map PL.state).length:Int)+((P.map PL.par).length:Int)+((U.map PL.inn).length:Int)) (fun pre a post J I g=>by
  have z:=q.o.2 a (by simp_all);rw[bDy];refine⟨g,rfl,(f _).2,(f _).1,?_,z⟩;show ((xs++ [_]).getD ((xs++ [_]).length-1) zS).2.2.2.2.1.length≤_;rw[aQu];show ([]++pre).length≤_;exact aUn I q.o.1) (by omega)
 rw[bDy] at D;have e:add (.sub n) (F_ s xs [])=F_ s (xs++ [(n,[],[],[],[],())]) []:=rfl;unfold aJU;refine⟨⟨⟨L,rfl,by show xs.length≤1000; omega,q.n⟩,?_⟩,?_⟩
 ·rw[e];grind[aQt]
 simp_all[aEW,add,F_,aUm]
theorem bCh(s:TSc):∀(L xs:List rK) (k:Int),(∀x∈L,bDv x)→xs.length+L.length≤1000→7≤k→okR (L.flatMap aJU) k (F_ s xs [])∧aEW (F_ s xs []) (L.flatMap aJU)=F_ s (xs++L) []
 | [],xs,k,_,_,_=>⟨trivial,by rw[List.append_nil]; rfl⟩
 | x::L,xs,k,h,q,g=>by
  have A:=bKQ s xs x (h x (.head _)) (by grind) k g;have f:=bCh s L (xs++ [x]) (k+((aJU x).length:Int)) (fun y hy=>h y (.tail _ hy)) (by grind) (by omega);rw[List.flatMap_cons];refine⟨aQt A.1 ?_,?_⟩
  ·rw[A.2];exact f.1
  ·rw[aUm,A.2,f.2,List.append_assoc];rfl
theorem aYs(s:TSc)(xs:List rK):∀(L f:List TLk) (k:Int),(∀a∈L,NmK a.1∧NmK a.2.1∧NmK a.2.2.1∧NmK a.2.2.2.1)→f.length+L.length≤1000→7≤k→okR (L.map .link) k (F_ s xs f)∧aEW (F_ s xs f) (L.map .link)=F_ s xs (f++L)
 | [],f,k,_,_,_=>⟨trivial,by rw[List.append_nil]; rfl⟩
 | a::L,f,k,h,z,q=>by
  have g:=aYs s xs L (f++ [a]) (k+1) (fun y hy=>h y (.tail _ hy)) (by grind) (by omega);refine⟨⟨⟨q,by show f.length≤1000; omega,h a (.head _)⟩,g.1⟩,?_⟩;show aEW (F_ s xs (f++ [a])) (L.map .link)=_;simp_all
theorem bIJ(s:TSc)(h:ScM s):okR (scP s) 0 sc0∧aEW sc0 (scP s)=s:=by
 obtain⟨⟨N,I,z,J⟩,⟨f,q,L,g⟩,hs,U⟩:=h;have O:okR (heP s) 0 sc0:=⟨⟨rfl,by omega⟩,⟨rfl,f⟩,⟨rfl,q,L⟩,⟨rfl,g⟩,⟨rfl,by omega⟩,⟨rfl,by omega⟩,⟨rfl,J⟩,trivial⟩;have e:aEW sc0 (heP s)=F_ s [] []:=by
  show ((s.1.toNat:Int),(s.2.1.toNat:Int),(s.2.2.1.toNat:Int),_)=_;rw[Int.toNat_of_nonneg N.1,Int.toNat_of_nonneg I.1,Int.toNat_of_nonneg z.1];rfl
 have A:=bCh s s.2.2.2.2.2.2.2.2.1 [] 7 hs.2 (by simp_all) xAa;have B:=aYs s ([]++s.2.2.2.2.2.2.2.2.1) s.2.2.2.2.2.2.2.2.2.1 [] (7+((s.2.2.2.2.2.2.2.2.1.flatMap aJU).length:Int)) U.2 (by simp_all) (by omega);unfold scP;refine⟨aQt O ?_,?_⟩
 ·rw[e];refine aQt A.1 ?_;rw[A.2];exact B.1
 ·rw[aUm,e,aUm,A.2,B.2];rfl
theorem join_cons(w:List Nat):∀ws:List qd,aGt (w::ws) [32]=w++tl ws
 | []=>by rfl
 | v::ws=>by
  have f:=join_cons v ws;simp_all[aGt,List.intercalate,zJ]
theorem bIK:∀n:Nat,n<100→sR none (n:Int)=some (dg n):=by decide +kernel
theorem bMY:∀n:Nat,100≤n→n<1000→bY none n=some 3:=by
 unfold bY;rw[bHr];intro n q g;have:∀n:Nat,n<1000→(100≤n→(pY none (rN n)).bind (fun v_5=>ck (0≤v_5∧v_5<(20:Int)) ((pX none (decide ((([1,10,100,1000,10000,100000,1000000,10000000,100000000,1000000000,10000000000,100000000000,1000000000000,10000000000000,100000000000000,1000000000000000,10000000000000000,100000000000000000,1000000000000000000,10000000000000000000]:List Nat).getD (v_5.toNat) (0:Nat))≤n))).bind (fun f=>ck (I64 (v_5+f)) (some (v_5+f)))))=some 3):=by decide +kernel
 simp_all
theorem bMZ:∀n:Nat,n<1000→100≤n→dgs 3 n=dg n:=by decide +kernel
theorem bAe(n:Nat)(h:n<1000):qA none (n:Int)=some (dg n):=by
 unfold qA yG pZ;refine bA (bA (ify rfl ?_) rfl) rfl;rcases Nat.lt_or_ge n 100 with f|f
 ·rw[if_pos (by omega),bIK n f];rfl
 ·rw[if_neg (by omega),if_neg (by omega),show ((n:Int)%18446744073709551616).toNat=n from by omega];unfold mS mR;rw[bMY n f h];simp only[Option.getD_some];refine aE rfl (aE xAa (aE xAa (bA (aE xAa (aE (show n<10^3 by omega) rfl)) (ifn (by omega) (aE xAa (aE xAa (aE xAa ?_)))))));rw[show (((1:Int)+3)-1).toNat=3 from rfl,bMZ n h f];have g:(dgs 3 n).length=3:=aJF 3 n;rw[bMZ n h f] at g;simp_all
theorem pr1{ws:List qd}{t:List Nat}(b:Bool)(x:List Nat)(h:aGt ws [32]=t)(g:ws.length≤100)(ht:t.length≤137438953472)(f:x.length≤70368744177664):cV none ws (b,x)=some (false,x++(t++ [10])):=by
 unfold cV fP mX;rw[show aR ⟨#[32]⟩= [32] from rfl,show aR ⟨#[10]⟩= [10] from rfl,h];exact aE ⟨by omega,by grind⟩ (aE (by grind) (bA (bA rfl (aE (by grind) rfl)) rfl))
def jnP(ps:List PL):List Nat:=jn (ps.map ln)
theorem bMj(a b:List qd):jn (a++b)=jn a++jn b:=List.flatMap_append
theorem bAf(a b:List PL):jnP (a++b)=jnP a++jnP b:=by rw[jnP,List.map_append,bMj]; rfl
theorem bAg(p:PL):jnP [p]=ln p++ [10]:=by simp[jnP,jn]
theorem bIL(p:PL)(ps:List PL):jnP (p::ps)=(ln p++ [10])++jnP ps:=by rfl
def LnB(ps:List PL):Prop:=∀p∈ps,(ln p).length≤137438953000
theorem aQv:∀ {ps:List PL},LnB ps→(jnP ps).length≤ps.length*137438953472
 | [],_=>Nat.le_refl 0
 | p::ps,h=>by
  have f:=aQv fun q hq=>h q (.tail _ hq);have:=h p (.head _);grind[bIL,List.length_append,List.length_cons,List.length_nil]
theorem aWD{α:Type}(L:List α)(z:α)(c:α→PL){step:Int×Bool×List Nat→Option ((Int×Bool×List Nat)⊕(Bool×List Nat))}(pre:List PL)(J:Bool)(hp:LnB (pre++L.map c))(I:(pre++L.map c).length≤500)
  (hs:∀(i:Nat) (b:Bool) (x:List Nat),i<L.length→x.length≤70368744177664→ ∃b',step ((i:Int),b,x)=some (.inl ((i:Int)+1,b',x++(ln (c (L.getD i z))++ [10]))))
  (O:∀(b:Bool) (x:List Nat),step ((L.length:Int),b,x)=some (.inr (b,x))):Tot (dE none step ((0:Int),J,jnP pre)) (fun e=>e.2=jnP (pre++L.map c)):=by
 rw[List.length_append,List.length_map] at I;refine Tot.idx (X:=Bool×List Nat) L.length (fun x i=>x.2=jnP (pre++(L.take i).map c)) (by omega) (fun i x i0 hi q f=>?_) (fun x f=>?_) xAf
 ·obtain⟨i,rfl⟩:∃j:Nat,i=j:=⟨i.toNat,by omega⟩;have hi:i<L.length:=by omega
  rw[Int.toNat_natCast] at f ⊢;obtain⟨b,x⟩:=x;have f:x=jnP (pre++(L.take i).map c):=f;have hb:LnB (pre++(L.take i).map c):=fun p g=>hp p (by
   grind)
  have N:=aQv hb;rw[← f,List.length_append,List.length_map,List.length_take] at N;obtain⟨b',h⟩:=hs i b x hi (by omega);refine .of h ⟨rfl,?_⟩;show x++(ln (c (L.getD i z))++ [10])=jnP (pre++(L.take (i+1)).map c);rw[sC z hi,List.map_append,show pre++((L.take i).map c++ [L.getD i z].map c)=(pre++(L.take i).map c)++ [L.getD i z].map c from (List.append_assoc _ _ _).symm,bAf,← f,List.map_cons,List.map_nil,bAg]
 ·obtain⟨b,x⟩:=x;refine .of (O b x) ?_;simp_all
theorem aDN(w:List Nat)(ws:List qd):(jw (w::ws)).length=w.length+(tl ws).length:=List.length_append
theorem zA(w:List Nat)(ws:List qd):(tl (w::ws)).length=1+w.length+(tl ws).length:=by
 grind[zJ]
theorem bIM(a b:List qd):tl (a++b)=tl a++tl b:=List.flatMap_append
theorem ExK.pr{e:Ex}(h:ExK e):fM none 64 e=some (tx 30 e)∧(tx 30 e).length≤137438950000:=by
 obtain⟨a,b⟩:=bCd h.1 xAa h.2.2;grind
theorem bIN{r:TRg}(h:RgK r):(tl (rgW r)).length≤202:=by
 obtain⟨lo,hi,u⟩:=r;obtain⟨_,_,q,g⟩:=h;unfold rgW;split
 ·rw[zA];show 1+lo.length+0≤202;grind
 ·rename_i f;have:lo.length≤100:=q;have:hi.length≤100:=(g.resolve_left f).2.2;rw[zA,zA];show 1+lo.length+(1+hi.length+0)≤202;omega
theorem bMk{p:PL}{k:Int}{s:TSc}(h:okP p k s):(ln p).length≤137438953000:=by
 have z:(tl []).length=0:=rfl;have num:∀m,m<1000→(dg m).length≤4:=fun m hm=>(aR5 m hm).2.2.1;unfold ln;cases p with
 | prec m=>have:=num m h.2; grind[wds,aDN,zA]
 | fin t=>have:=h.2.2.2.2; grind[wds,aDN,zA]
 | step a b=>have:=h.2.1.2.2.2; have:=h.2.2.2.2.2; grind[wds,aDN,zA]
 | tol t=>have:=h.2.2.2.2; grind[wds,aDN,zA]
 | tries m=>have:=num m h.2; grind[wds,aDN,zA]
 | order m=>have:=num m h.2; grind[wds,aDN,zA]
 | mode m=>rw[wds,aDN,z]; split<;>simp
 | sub t=>have:=h.2.2.2.len; grind[wds,aDN,zA]
 | link a =>
  obtain⟨_,_,I,L,J,N⟩:=h;have:=I.len; have:=L.len; have:=J.len; have:=N.len;grind[wds,aDN,zA]
 | state a =>
  obtain⟨_,_,_,_,_,f,q,g⟩:=h;have:=f.len; have:=bIN q; have:=g.pr.2;rw[wds,aDN,zA,zA,bIM,List.length_append,zA,zA,z]; grind
 | par a =>
  obtain⟨_,_,_,_,_,f,q⟩:=h;have:=f.len; grind[bIN,wds,aDN,zA]
 | inn a =>
  obtain⟨_,_,_,_,_,f⟩:=h;have:=f.len;grind[wds,aDN,zA]
 | out a =>
  obtain⟨_,_,_,_,_,f,g⟩:=h;have:=f.len; have:=g.pr.2;grind[wds,aDN,zA]
structure ScB(s:TSc):Prop where
 r:s.2.2.2.2.2.2.2.2.1.length≤8∧ ∀a∈s.2.2.2.2.2.2.2.2.1,a.2.1.length≤10∧a.2.2.1.length≤10∧a.2.2.2.1.length≤10∧a.2.2.2.2.1.length≤10
 l:s.2.2.2.2.2.2.2.2.2.1.length≤100
theorem LnB.app{a b:List PL}(f:LnB a)(hb:LnB b):LnB (a++b):=fun p hp=>(List.mem_append.1 hp).elim (f p) (hb p)
theorem bIO{s:TSc}(h:ScM s):LnB (scP s):=fun p hp=>by
 obtain⟨i,hi,rfl⟩:=List.mem_iff_getElem.1 hp;exact bMk (bAd (bIJ s h).1 i hi)
theorem spn(r:TRg)(h:RgK r):∃t,xL none r=some t∧tl [t]=tl (rgW r):=by
 obtain⟨lo,hi,u⟩:=r;obtain⟨_,_,g,q⟩:=h;have g:lo.length≤100:=g;unfold xL rgW;by_cases f:hi= []
 ·exact⟨lo,ify f rfl,by simp_all⟩
 ·have:hi.length≤100:=(q.resolve_left f).2.2;refine⟨lo++ [32]++hi,ifn f (aE (by show lo.length+1≤_; omega) (aE ?_ rfl)),?_⟩
  ·show (lo++ [32]).length+hi.length≤_;grind
  simp_all[if_neg,tl]
theorem bLi{w:List Nat}{a b:List qd}(h:tl a=tl b):w++tl a=jw (w::b):=by
 rw[h];rfl
theorem bIP(x:rK)(h:x.2.1.length≤10∧x.2.2.1.length≤10∧x.2.2.2.1.length≤10∧x.2.2.2.2.1.length≤10):(aJU x).length≤41:=by
 grind[aJU]
theorem aQw:∀L:List rK,(∀a∈L,a.2.1.length≤10∧a.2.2.1.length≤10∧a.2.2.2.1.length≤10∧a.2.2.2.2.1.length≤10)→(L.flatMap aJU).length≤L.length*41
 | [],_=>Nat.le_refl 0
 | x::L,h=>by
  have:=aQw L fun a f=>h a (.tail _ f);have:=bIP x (h x (.head _));rw[List.flatMap_cons,List.length_append,List.length_cons];omega
section
variable {s:TSc} {i j:Nat} {b:Bool} {y:List Nat} {x:rK} (hX:s.2.2.2.2.2.2.2.2.1.getD i ([],[],[],[],[],())=x) (hy:y.length≤70368744177664)
include hX hy
theorem bIQ{a:TSt}(L:j<x.2.1.length)(J:j<1000)(g:x.2.1.getD j ([],([],[],()),(Ex.mk 0 [] []),())=a)(q:RgK a.2.1)(z:ExK a.2.2.1)(I:(ln (.state a)).length≤137438953000):nX none s (i:Int) (j:Int) b y=some (.inl ((j:Int)+1,false,y++(ln (.state a)++ [10]))):=by
 obtain⟨t,ht,f⟩:=spn _ q;unfold nX;simp only[Int.toNat_natCast,hX,g,ht,z.pr.1,Option.bind_some];refine ify (by omega) (aE ⟨by omega,by omega⟩ (bA (pr1 b y ?_ xAf (Nat.le_trans I xAa) hy) (aE (by omega) rfl)));rw[join_cons];refine bLi ?_;have e:tl ([t]++ [[100,101,114],tx 30 a.2.2.1])=tl (rgW a.2.1++ [[100,101,114],tx 30 a.2.2.1]):=by grind[bIM]
 rw[zJ,zJ,zJ a.1,zJ [61],← e];rfl
theorem bMl{a:TPa}(J:j<x.2.2.1.length)(I:j<1000)(g:x.2.2.1.getD j ([],([],[],()),())=a)(q:RgK a.2.1)(z:(ln (.par a)).length≤137438953000):nW none s (i:Int) (j:Int) b y=some (.inl ((j:Int)+1,false,y++(ln (.par a)++ [10]))):=by
 obtain⟨t,ht,f⟩:=spn _ q;unfold nW;simp only[Int.toNat_natCast,hX,g,ht,Option.bind_some];refine ify (by omega) (aE ⟨by omega,by omega⟩ (bA (pr1 b y ?_ xAf (Nat.le_trans z xAa) hy) (aE (by omega) rfl)));rw[join_cons];refine bLi ?_;rw[zJ,zJ,zJ a.1,zJ [61],← f];rfl
theorem bMm{a:List Nat}(z:j<x.2.2.2.1.length)(q:j<1000)(g:x.2.2.2.1.getD j []=a)(f:(ln (.inn a)).length≤137438953000):nV none s (i:Int) (j:Int) b y=some (.inl ((j:Int)+1,false,y++(ln (.inn a)++ [10]))):=by
 unfold nV;simp only[Int.toNat_natCast,hX,g];exact ify (by omega) (aE ⟨by omega,by omega⟩ (bA (pr1 b y (join_cons _ _) xAf (Nat.le_trans f xAa) hy) (aE (by omega) rfl)))
theorem bMn{a:TOu}(I:j<x.2.2.2.2.1.length)(z:j<1000)(f:x.2.2.2.2.1.getD j ([],(Ex.mk 0 [] []),())=a)(g:ExK a.2.1)(q:(ln (.out a)).length≤137438953000):nU none s (i:Int) (j:Int) b y=some (.inl ((j:Int)+1,false,y++(ln (.out a)++ [10]))):=by
 unfold nU;simp only[Int.toNat_natCast,hX,f,g.pr.1,Option.bind_some];exact ify (by omega) (aE ⟨by omega,by omega⟩ (bA (pr1 b y (join_cons _ _) xAf (Nat.le_trans q xAa) hy) (aE (by omega) rfl)))
end
theorem aQx{α:Type}{L:List α}{c:α→PL}(h:LnB (L.map c)){j:Nat}(z:α)(f:j<L.length):(ln (c (L.getD j z))).length≤137438953000:=h _ (List.mem_map_of_mem (aBG z f))
theorem bKR{s:TSc}{a:TLk}{j:Nat}{b:Bool}{y:List Nat}(L:s.2.2.2.2.2.2.2.2.2.1.getD j ([],[],[],[],())=a)(I:NmK a.1∧NmK a.2.1∧NmK a.2.2.1∧NmK a.2.2.2.1)(U:j<s.2.2.2.2.2.2.2.2.2.1.length)(N:j<1000)(hy:y.length≤70368744177664)(f:(ln (.link a)).length≤137438953000):nT none s (j:Int) b y=some (.inl ((j:Int)+1,false,y++(ln (.link a)++ [10]))):=by
 obtain⟨q,z,J,g⟩:=I;have m1:=q.len;have Z:=z.len;have O:=J.len;have Y:=g.len;have e1:∀u:List Nat,(u++aR ⟨#[46]⟩).length=u.length+1:=fun u=>by rw[List.length_append]; rfl
 unfold nT;simp only[Int.toNat_natCast,L];refine ify (by omega) (aE ⟨by omega,by omega⟩ (aE (by grind) (aE (by grind) (aE (by grind) (aE (by grind) (bA (pr1 b y ?_ xAf (Nat.le_trans f xAa) hy) (aE (by omega) rfl)))))));rw[join_cons];show _=jw _;rw[wds,show a.1++46::a.2.1=a.1++aR ⟨#[46]⟩++a.2.1 from by rw[List.append_assoc]; rfl,show a.2.2.1++46::a.2.2.2.1=a.2.2.1++aR ⟨#[46]⟩++a.2.2.2.1 from by rw[List.append_assoc]; rfl];rfl
theorem bMo(s:TSc)(hM:ScM s)(hB:ScB s)(i:Nat)(hi:i<s.2.2.2.2.2.2.2.2.1.length)(pre:List PL)(b:Bool)(hp:LnB pre)(hn:pre.length≤335) :
  Tot (qQ none s (i:Int) b (jnP pre)) (fun q=>match q with| .inl d=>d.1=(i:Int)+1∧d.2.2=jnP (pre++aJU (s.2.2.2.2.2.2.2.2.1.getD i zS))| .inr _=>False):=by
 have O:=hM.sb.2 _ (aBG zS hi);have hb:=hB.r.2 _ (aBG zS hi);have hs8:=hB.r.1;have I:LnB (aJU (s.2.2.2.2.2.2.2.2.1.getD i zS)):=fun p hq=>bIO hM p (List.mem_append_right _ (List.mem_append_left _ (List.mem_flatMap.2 ⟨_,aBG zS hi,hq⟩)));have jl:∀Z:List PL,LnB Z→Z.length≤376→(jnP Z).length≤70368744177664:=fun Z h1 h2=>by
  grind[aQv]
 generalize hX:s.2.2.2.2.2.2.2.2.1.getD i zS=x at O hb I;obtain⟨b1,b2,b3,b4⟩:=hb;have J:LnB [PL.sub x.1]:=fun p hq=>I p (by rw[List.mem_singleton.1 hq]; exact .head _);have L:LnB (x.2.1.map PL.state):=fun p hq=>I p (.tail _ (List.mem_append_left _ hq));have l2:LnB (x.2.2.1.map PL.par):=fun p hq=>I p (.tail _ (List.mem_append_right _ (List.mem_append_left _ hq)));have l3:LnB (x.2.2.2.1.map PL.inn):=fun p hq=>I p (.tail _ (List.mem_append_right _ (List.mem_append_right _ (List.mem_append_left _ hq))));have l4:LnB (x.2.2.2.2.1.map PL.out):=fun p hq=>I p (.tail _ (List.mem_append_right _ (List.mem_append_right _ (List.mem_append_right _ hq))));unfold qQ;refine .ite (fun _=>.ck (by omega) ?_) fun hn=>absurd (by omega) hn;rw[Int.toNat_natCast];show Tot (Option.bind (cV none [[115,117,98],(s.2.2.2.2.2.2.2.2.1.getD i zS).1] (b,jnP pre)) _) _;rw[hX,pr1 (t:=ln (.sub x.1)) b (jnP pre) (join_cons _ _) xAf (Nat.le_trans (J _ (.head _)) xAa) (jl _ hp (by omega)),← bAg,← bAf,Option.bind_some];refine Tot.bind (aWD x.2.1 (([]:List Nat),(([]:List Nat),([]:List Nat),()),(Ex.mk 0 [] []),()) .state (pre++ [PL.sub x.1]) false ((hp.app J).app L) (by grind) (fun j z y g hy=>⟨_,bIQ hX hy g (by omega) rfl (O.x.2 _ (aBG _ g)).2.1 (O.x.2 _ (aBG _ g)).2.2 (aQx L _ g)⟩) (fun z y=>?_)) fun e f=>?_
 ·show nX none s (i:Int) (x.2.1.length:Int) z y=_;unfold nX;simp_all
 obtain⟨U,y⟩:=e;have f:y=_:=f;subst f;show Tot (sV none s (i:Int) U _) _;unfold sV;refine Tot.bind (aWD x.2.2.1 (([]:List Nat),(([]:List Nat),([]:List Nat),()),()) .par _ U (((hp.app J).app L).app l2) (by grind) (fun j z y g hy=>⟨_,bMl hX hy g (by omega) rfl (O.p.2 _ (aBG _ g)).2 (aQx l2 _ g)⟩) (fun z y=>?_)) fun e f=>?_
 ·show nW none s (i:Int) (x.2.2.1.length:Int) z y=_;unfold nW;simp_all
 obtain⟨N,y⟩:=e;have f:y=_:=f;subst f;show Tot (sU none s (i:Int) N _) _;unfold sU;refine Tot.bind (aWD x.2.2.2.1 ([]:List Nat) .inn _ N ((((hp.app J).app L).app l2).app l3) (by grind) (fun j z y g hy=>⟨_,bMm hX hy g (by omega) rfl (aQx l3 _ g)⟩) (fun z y=>?_)) fun e f=>?_
 ·show nV none s (i:Int) (x.2.2.2.1.length:Int) z y=_;unfold nV;simp_all
 obtain⟨Y,y⟩:=e;have f:y=_:=f;subst f;show Tot (sT none s (i:Int) Y _) _;unfold sT;refine Tot.bind (aWD x.2.2.2.2.1 (([]:List Nat),(Ex.mk 0 [] []),()) .out _ Y (((((hp.app J).app L).app l2).app l3).app l4) (by grind) (fun j z y g hy=>⟨_,bMn hX hy g (by omega) rfl (O.o.2 _ (aBG _ g)).2 (aQx l4 _ g)⟩) (fun z y=>?_)) fun e f=>?_
 ·show nU none s (i:Int) (x.2.2.2.2.1.length:Int) z y=_;unfold nU;simp_all
 obtain⟨b4',y⟩:=e;have f:y=_:=f;subst f;refine .ck (by omega) (.ret ⟨rfl,?_⟩);show jnP _=jnP _;simp only[aJU,List.append_assoc,List.singleton_append,List.cons_append,List.nil_append]
theorem prT{β:Type}{f:Bool×List Nat→Option β}{P:β→Prop}{ws:List qd}{p:PL}{ps:List PL}{b:Bool}(h:aGt ws [32]=ln p)(z:ws.length≤100)(hp:LnB (ps++ [p]))(I:ps.length≤476)(g:Tot (f (false,jnP (ps++ [p]))) P):Tot ((cV none ws (b,jnP ps)).bind f) P:=by
 have a:=aQv fun q hq=>hp q (List.mem_append_left _ hq);have c:=hp p (List.mem_append_right _ (.head _));rw[pr1 b (jnP ps) h z (Nat.le_trans c xAa) (by omega),← bAg,← bAf];exact g
theorem bIR(s:TSc)(L:ScM s)(I:ScB s)(hm:iQ none s=some true):lT none s=some (jnP (scP s),0,()):=by
 obtain⟨⟨h1,h2,h3,h4⟩,_,_,_⟩:=id L;have hL:=bIO L;have lh:LnB (heP s):=fun p hp=>hL p (List.mem_append_left _ hp);have ls:LnB (s.2.2.2.2.2.2.2.2.1.flatMap aJU):=fun p hp=>hL p (List.mem_append_right _ (List.mem_append_left _ hp));have ll:LnB (s.2.2.2.2.2.2.2.2.2.1.map PL.link):=fun p hp=>hL p (List.mem_append_right _ (List.mem_append_right _ hp));have hs8:=I.r.1;have fl:=aQw _ I.r.2;have i1:=bAe s.1.toNat (by omega);have i2:=bAe s.2.1.toNat (by omega);have i3:=bAe s.2.2.1.toNat (by omega);rw[Int.toNat_of_nonneg (by omega)] at i1 i2 i3;have jl:∀N:List PL,LnB N→N.length≤476→(jnP N).length≤70368744177664:=fun N h1 h2=>by
  grind[aQv]
 have B:∀p∈heP s,(ln p).length≤137438953472:=fun p hp=>Nat.le_trans (lh p hp) xAa;have J:∀O:List Nat,jw (wds (.mode s.2.2.2.1))=O→Tot (pF none s O) (fun r=>r=(jnP (scP s),0,())):=fun O Y=>by
  unfold pF;simp only[i1,i2,i3,Option.bind_some];have z:∀k,LnB ((heP s).take k):=fun k p hp=>lh p (List.mem_of_mem_take hp);refine(prT (ps:=[]) (p:=.prec s.1.toNat) (join_cons _ _) xAf (z 1) xAf (prT (p:=.fin s.2.2.2.2.1) (join_cons _ _) xAf (z 2) xAf (prT (p:=.step s.2.2.2.2.2.1 s.2.2.2.2.2.2.1) (join_cons _ _) xAf (z 3) xAf (prT (p:=.tol s.2.2.2.2.2.2.2.1) (join_cons _ _) xAf (z 4) xAf (prT (p:=.tries s.2.1.toNat) (join_cons _ _) xAf (z 5) xAf (prT (p:=.order s.2.2.1.toNat) (join_cons _ _) xAf (z 6) xAf (prT (p:=.mode s.2.2.2.1) (by rw[join_cons]; show O++ []=_; rw[List.append_nil]; exact Y.symm) xAf (z 7) xAf ?_)))))));refine Tot.bind (P:=fun e=>e.2=jnP (heP s++s.2.2.2.2.2.2.2.2.1.flatMap aJU)) (Tot.idx (X:=Bool×List Nat) s.2.2.2.2.2.2.2.2.1.length (fun x i=>x.2=jnP (heP s++(s.2.2.2.2.2.2.2.2.1.take i).flatMap aJU)) (by omega) (fun i x i0 hi h64 f=>?_) (fun x f=>?_) ?_) fun e g=>?_
  ·obtain⟨i,rfl⟩:∃j:Nat,i=j:=⟨i.toNat,by omega⟩;have hi:i<s.2.2.2.2.2.2.2.2.1.length:=(by omega);rw[Int.toNat_natCast] at f ⊢;obtain⟨b,x⟩:=x;have f:x=_:=f;subst f;have hl:((s.2.2.2.2.2.2.2.2.1.take i).flatMap aJU).length≤328:=by
    have:=aQw (s.2.2.2.2.2.2.2.2.1.take i) fun a U=>I.r.2 a (List.mem_of_mem_take U);grind
   have hp:LnB (heP s++(s.2.2.2.2.2.2.2.2.1.take i).flatMap aJU):=lh.app fun p hp=>by
    obtain⟨a,U,Z⟩:=List.mem_flatMap.1 hp;exact ls p (List.mem_flatMap.2 ⟨a,List.mem_of_mem_take U,Z⟩)
   refine(bMo s L I i hi _ b hp (by rw[List.length_append]; show 7+_≤335; omega)).mono fun q hq=>?_;cases q with
   | inr _=>simp_all
   | inl d =>
    refine⟨hq.1,hq.2.trans ?_⟩;rw[sC zS hi,List.flatMap_append,List.flatMap_singleton,List.append_assoc]
  ·obtain⟨b,x⟩:=x;have f:x=_:=f;rw[List.take_length] at f;simp_all[Tot,qQ,ite,absurd]
  ·rfl
  ·obtain⟨b,x⟩:=e;have g:x=_:=g;subst g;show Tot (sS none s b _) _;unfold sS;refine Tot.bind (aWD s.2.2.2.2.2.2.2.2.2.1 (([]:List Nat),([]:List Nat),([]:List Nat),([]:List Nat),()) .link _ b ((lh.app ls).app ll) ?_ (fun j b' y hj hy=>?_) (fun b' y=>?_)) fun e g=>?_
   ·have:=I.l;rw[List.length_append,List.length_append,List.length_map];show 7+_+_≤500;omega
   ·have:=I.l;exact⟨false,bKR rfl (L.l.2 _ (aBG (([]:List Nat),([]:List Nat),([]:List Nat),([]:List Nat),()) hj)) hj (by omega) hy (aQx ll (([]:List Nat),([]:List Nat),([]:List Nat),([]:List Nat),()) hj)⟩
   ·show nT none s _ b' y=_;unfold nT;simp_all
   ·obtain⟨b4,y⟩:=e;have g:y=_:=g;subst g;refine .ret ?_;rfl
 refine Tot.eq ?_;unfold lT;rw[hm,Option.bind_some];refine(.ite (fun h=>absurd rfl h) fun _=>.ite (fun h=>J _ ?_) fun h=>J _ ?_)
 ·have h:s.2.2.2.1=2:=h;rw[h];rfl
 ·have h:¬s.2.2.2.1=2:=h;show (if s.2.2.2.1=2 then _ else _)++tl []=_;rw[if_neg h];rfl
end Nu
end Go.Proofs
namespace Go.Proofs
open Go.Vc
set_option maxRecDepth 20000
namespace Nu
theorem ExK.of{e:Ex}{names:List qd}(O:OkE e)(Z:names.length≤1000)(L:∀x∈names,aWq x)(hm:cU none e names=some true):ExK e:=by
 obtain⟨n,I,g,U⟩:=O;have z:=bH5 g I U;have e1:cU none e names=some (decide (nd n e≤60∧ht n e≤30)&&(gk n e&&lvs names n e)):=by
  unfold cU;rw[aZ6 names Z n 64 e I g];exact bA z (aE (fun _=>rfl) rfl)
 rw[e1] at hm;have hm:=Option.some.inj hm;rw[Bool.and_eq_true,Bool.and_eq_true] at hm;obtain⟨m1,Y,N⟩:=hm;have m1:=of_decide_eq_true m1;have q:=bNJ (bMU L g Y N) m1.2;have J:=(aZ9 n 30 e g m1.2).1;have f:(tx 30 e).length≤1099511627776:=by
  have:=(bCd q xAa J).1;omega
 exact⟨q,bKo f (back_eq q xAa) (aDM fun h=>absurd h (Nat.lt_irrefl _)) (by simp_all),J⟩
theorem LiK.of{t:List Nat}(h:fm t=true):LiK t:=⟨bMW h,by rw[aZ4 t (Nat.le_trans (bAb h) xAa),h],fun c hc=>(bAc h c hc).2,Nat.le_trans (bAb h) xAa⟩
theorem RgK.of{r:TRg}(h:RgF r):RgK r:=by
 obtain⟨f,g⟩:=h;have a:=aWB f;exact⟨a.1,f,a.2.1,g.imp id fun h=>⟨(aWB h).1,h,(aWB h).2.1⟩⟩
theorem NmK.of{t:List Nat}(h:cR none t=some true):NmK t:=⟨h,bKq h⟩
theorem bKS{s:rK}(h:bFM s):(nmS s).length≤16:=by
 obtain⟨b1,q,f,g⟩:=h.b;grind[nmS]
theorem bDv.of{s:rK}(z:cR none s.1=some true)(ok:bCc s)(h:bFM s):bDv s:=by
 obtain⟨b1,J,L,I⟩:=h.b;have g:∀x∈nmS s,NmK x:=fun x q=>.of (h.n.1 x (List.mem_append_left _ q));have N:=bKS h;exact⟨.of z,
  ⟨by omega,fun a f=>⟨g _ (List.mem_append_left _ (List.mem_map_of_mem f)),.of (h.x a f).1,.of (ok.x.2 a f).2.2.2 (by omega) (fun x q=>(g x q).2) (h.x a f).2⟩⟩,
  ⟨by omega,fun a f=>⟨g _ (List.mem_append_right _ (List.mem_append_left _ (List.mem_map_of_mem f))),.of (h.p a f)⟩⟩,
  ⟨by omega,fun a f=>g _ (List.mem_append_right _ (List.mem_append_right _ f))⟩,
  ⟨by omega,fun a f=>⟨.of (h.n.1 _ (List.mem_append_right _ (List.mem_map_of_mem f))),.of (ok.o.2 a f).2 (by omega) (fun x q=>(g x q).2) (h.o a f)⟩⟩⟩
theorem bCi:∀L:List rK,(∀x∈L,x.2.2.2.1.length≤4)→(L.flatMap kS).length≤L.length*4
 | [],_=>Nat.le_refl 0
 | x::L,h=>by
  have:=bCi L fun y hy=>h y (.tail _ hy);have:=h x (.head _);rw[List.flatMap_cons,List.length_append,List.length_cons,kS,List.length_map];omega
theorem aR6{s:TSc}(h:ScF s):s.2.2.2.2.2.2.2.2.2.1.length≤16:=by
 have:=bCi _ fun x f=>(h.r.2 x f).b.2.2.1;rw[← h.l.1,List.length_map] at this;have:=h.r.1;omega
theorem ScM.of{s:TSc}(ok:bDs s)(h:ScF s):ScM s:=by
 obtain⟨n1,n2,n3,z,n5,U,O,I⟩:=h.n;have sb:∀x∈s.2.2.2.2.2.2.2.2.1,bDv x:=fun x f=>.of (h.w.1 x f) (ok.sb.2 x f) (h.r.2 x f);refine⟨⟨by omega,by omega,by omega,z⟩,⟨.of n5,.of U,.of O,.of I⟩,⟨by have:=h.r.1; omega,sb⟩,⟨by have:=aR6 h; omega,fun a J=>?_⟩⟩;have L:kL a∈s.2.2.2.2.2.2.2.2.1.flatMap kS:=by
  rw[← h.l.1];grind
 obtain⟨x,f,q⟩:=List.mem_flatMap.1 L;obtain⟨u,Y,g⟩:=List.mem_map.1 q;obtain⟨y,hy,e1,o,ho,N⟩:=h.l.2 a J;have k1:x.1=a.1:=congrArg Prod.fst g;have Z:u=a.2.1:=congrArg Prod.snd g;exact⟨k1▸(sb x f).n,Z▸(sb x f).u.2 u Y,e1.symm▸(sb y hy).n,N▸((sb y hy).o.2 o ho).1⟩
theorem ScB.of{s:TSc}(h:ScF s):ScB s:=⟨⟨by have:=h.r.1; omega,fun a f=>by have:=(h.r.2 a f).b; omega⟩,by have:=aR6 h; omega⟩
theorem aYt:∀(L:List TLk),(L.map kL).Nodup→ ∀M:List TLk,(∀a∈L,M.filter (fun b=>kL b == kL a)= [a])→(L.map kL).flatMap (fun k=>M.filter (fun b=>kL b == k))=L
 | [],_,_,_=>rfl
 | a::L,f,M,h=>by
  rw[List.map_cons,List.flatMap_cons,h a (.head _),aYt L (List.nodup_cons.1 (by rw[List.map_cons] at f; exact f)).2 M fun b hb=>h b (.tail _ hb)];rfl
theorem aWE:∀(L:List TLk),(L.map kL).Nodup→ ∀a∈L,L.filter (fun b=>kL b == kL a)= [a]
 | [],_,a,f=>by cases f
 | b::L,g,a,f=>by
  rw[List.map_cons,List.nodup_cons] at g;rcases List.mem_cons.1 f with rfl|f
  ·simp_all
  ·rw[List.filter_cons_of_neg]
   ·exact aWE L g.2 a f
   grind
theorem aWF:∀L:List rK,(L.map (·.1)).Nodup→(∀x∈L,x.2.2.2.1.Nodup)→(L.flatMap kS).Nodup
 | [],_,_=>List.nodup_nil
 | x::L,q,h=>by
  rw[List.map_cons,List.nodup_cons] at q;rw[List.flatMap_cons,List.nodup_append];refine⟨?_,aWF L q.2 fun y hy=>h y (.tail _ hy),fun a z b hb e=>?_⟩
  ·exact List.pairwise_map.2 ((h x (.head _)).imp fun f e=>f (congrArg Prod.snd e))
  ·subst e;obtain⟨u,_,I⟩:=List.mem_map.1 z;obtain⟨y,hy,g⟩:=List.mem_flatMap.1 hb;obtain⟨v,_,hv⟩:=List.mem_map.1 g;grind
theorem bDz(s:TSc)(h:ScF s):fF none s=some s.2.2.2.2.2.2.2.2.2.1:=by
 have b1:=h.r.1;have b2:=aR6 h;have nd:(s.2.2.2.2.2.2.2.2.2.1.map kL).Nodup:=by
  rw[h.l.1];refine aWF _ h.w.2 fun x I=>?_;have:=(h.r.2 x I).n.2;grind[nmS,List.nodup_append]
 have fin:s.2.2.2.2.2.2.2.2.1.flatMap (fun x=>x.2.2.2.1.flatMap fun u=>s.2.2.2.2.2.2.2.2.2.1.filter fun b=>kL b == (x.1,u))=s.2.2.2.2.2.2.2.2.2.1:=by
  have e:=aYt _ nd _ (aWE _ nd);rw[h.l.1,List.flatMap_assoc] at e;refine Eq.trans (congrArg (fun f=>List.flatMap f _) (funext fun x=>?_)) e;grind[kS,List.flatMap_map]
 unfold fF;refine Tot.eq (Tot.bind (P:=fun v=>v=s.2.2.2.2.2.2.2.2.2.1) (Tot.idx s.2.2.2.2.2.2.2.2.1.length (fun x i=>x=(s.2.2.2.2.2.2.2.2.1.take i).flatMap (fun x=>x.2.2.2.1.flatMap fun u=>s.2.2.2.2.2.2.2.2.2.1.filter fun b=>kL b == (x.1,u))∧x.length≤i*1000000) (by omega) (fun i x i0 hi U I=>?_) (fun x I=>?_) ⟨rfl,Nat.zero_le _⟩) fun v hv=>?_)
 ·show Tot (mJ none s i x) _;unfold mJ;refine .ite (fun _=>.ck ⟨i0,hi⟩ ?_) fun h=>absurd hi h;have L:i.toNat<s.2.2.2.2.2.2.2.2.1.length:=by omega
  have b3:=(h.r.2 _ (xU (([]:List Nat),([]:List TSt),([]:List TPa),([]:List qd),([]:List TOu),()) L)).b.2.2.1;refine Tot.bind (P:=fun y=>y=x++(s.2.2.2.2.2.2.2.2.1.getD i.toNat ([],[],[],[],[],())).2.2.2.1.flatMap (fun u=>s.2.2.2.2.2.2.2.2.2.1.filter fun b=>kL b == ((s.2.2.2.2.2.2.2.2.1.getD i.toNat ([],[],[],[],[],())).1,u))∧y.length≤x.length+1000000) (Tot.idx (s.2.2.2.2.2.2.2.2.1.getD i.toNat ([],[],[],[],[],())).2.2.2.1.length (fun y j=>y=x++((s.2.2.2.2.2.2.2.2.1.getD i.toNat ([],[],[],[],[],())).2.2.2.1.take j).flatMap (fun u=>s.2.2.2.2.2.2.2.2.2.1.filter fun b=>kL b == ((s.2.2.2.2.2.2.2.2.1.getD i.toNat ([],[],[],[],[],())).1,u))∧y.length≤x.length+j*1000) (by omega) (fun j y j0 hj Z hy=>?_) (fun y hy=>?_) ⟨(List.append_nil _).symm,Nat.le_add_right _ _⟩) fun y hy=>.ck U (.ret ⟨rfl,?_,?_⟩)
  ·show Tot (mI none s i j y) _;unfold mI;refine .ite (fun _=>.ck ⟨j0,hj⟩ ?_) fun h=>absurd hj h;have Y:j.toNat<(s.2.2.2.2.2.2.2.2.1.getD i.toNat ([],[],[],[],[],())).2.2.2.1.length:=(by omega);refine Tot.bind (P:=fun z=>z=y++(s.2.2.2.2.2.2.2.2.2.1.filter fun b=>kL b == ((s.2.2.2.2.2.2.2.2.1.getD i.toNat ([],[],[],[],[],())).1,(s.2.2.2.2.2.2.2.2.1.getD i.toNat ([],[],[],[],[],())).2.2.2.1.getD j.toNat []))∧z.length≤y.length+1000) (Tot.idx s.2.2.2.2.2.2.2.2.2.1.length (fun z k=>z=y++((s.2.2.2.2.2.2.2.2.2.1.take k).filter fun b=>kL b == ((s.2.2.2.2.2.2.2.2.1.getD i.toNat ([],[],[],[],[],())).1,(s.2.2.2.2.2.2.2.2.1.getD i.toNat ([],[],[],[],[],())).2.2.2.1.getD j.toNat []))∧z.length≤y.length+k) (by omega) (fun k z k0 hk O N=>?_) (fun z N=>?_) ⟨(List.append_nil _).symm,Nat.le_refl _⟩) fun z N=>.ck Z (.ret ⟨rfl,?_,?_⟩)
   ·show Tot (mH none s i j k z) _;unfold mH;have J:k.toNat<s.2.2.2.2.2.2.2.2.2.1.length:=(by omega);obtain⟨z1,z2⟩:=N;refine .ite (fun _=>.ck ⟨k0,hk⟩ (.ite (fun g=>.ck O (.ret ⟨rfl,?_,by grind⟩)) fun g=>.ck ?_ (.ck O (.ret ⟨rfl,?_,?_⟩)))) fun h=>absurd hk h
    ·rw[sC (([]:List Nat),([]:List Nat),([]:List Nat),([]:List Nat),()) J,List.filter_append,List.filter_cons_of_neg,List.filter_nil,List.append_nil]
     ·exact z1
     ·intro q;have q:=eq_of_beq q;rcases g with g|g
      ·exact g (congrArg Prod.fst q)
      ·exact g (congrArg Prod.snd q)
    ·omega
    ·rw[sC (([]:List Nat),([]:List Nat),([]:List Nat),([]:List Nat),()) J,List.filter_append,List.filter_cons_of_pos,List.filter_nil,← List.append_assoc,← z1];simp_all[Classical.not_not,kL,beq_self_eq_true]
    grind
   ·show Tot (mH none s i j _ z) _;unfold mH;rw[List.take_length] at N;exact .ite (fun h=>absurd h (by omega)) fun _=>.ret ⟨N.1,by omega⟩
   ·rw[sC [] Y,List.flatMap_append,List.flatMap_singleton,← List.append_assoc,← hy.1];grind
   grind
  ·show Tot (mI none s i _ y) _;unfold mI;rw[List.take_length] at hy;exact .ite (fun h=>absurd h (by omega)) fun _=>.ret ⟨hy.1,by omega⟩
  ·rw[sC (([]:List Nat),([]:List TSt),([]:List TPa),([]:List qd),([]:List TOu),()) L,List.flatMap_append,List.flatMap_singleton,← I.1];grind
  grind
 ·show Tot (mJ none s _ x) _;unfold mJ;rw[List.take_length,fin] at I;exact .ite (fun h=>absurd h (by omega)) fun _=>.ret I.1
 ·subst hv;unfold tS;exact .ite (fun _=>.ret rfl) fun _=>.ret rfl
theorem aOE{n:Nat}{step:Int→Option (Int⊕(Unit⊕Bool))}(q:n≤1000)(h:∀i:Nat,i<n→step (i:Int)=some (.inl ((i:Int)+1)))(g:step (n:Int)=some (.inr (.inl ()))):dE none step (0:Int)=some (.inl ()):=by
 refine Tot.eq (Tot.idx1 n (by omega) (fun i i0 hi f=>?_) (.of g rfl));obtain⟨j,rfl⟩:∃j:Nat,i=j:=⟨i.toNat,by omega⟩;exact .of (h j (by omega)) rfl
theorem bIS(l:List TPa)(h:l.length≤1000):gA none l l=some true:=by
 unfold gA;refine ifn (fun q=>q rfl) (bA (aOE h (fun i hi=>?_) ?_) rfl)
 ·unfold kV;exact ify (by omega) (aE (by omega) (aE (by omega) (ifn (fun q=>q (by simp[Ty.eqb])) (aE (by omega) rfl))))
 ·unfold kV;simp_all
theorem bIT(l:List qd)(h:l.length≤1000):iU none l l=some true:=by
 unfold iU;refine ifn (fun q=>q rfl) (bA (aOE h (fun i hi=>?_) ?_) rfl)
 ·unfold lS;exact ify (by omega) (aE (by omega) (aE (by omega) (ifn (fun q=>q rfl) (aE (by omega) rfl))))
 ·unfold lS;simp_all
theorem bFQ(l:List TLk)(h:l.length≤1000):gR none l l=some true:=by
 unfold gR;refine ifn (fun q=>q rfl) (bA (aOE h (fun i hi=>?_) ?_) rfl)
 ·unfold jY;exact ify (by omega) (aE (by omega) (aE (by omega) (ifn (fun q=>q (by simp[Ty.eqb])) (aE (by omega) rfl))))
 ·unfold jY;simp_all
theorem aR7:∀(n k:Nat) (e:Ex),n≤k→fits n e→kN none k e e=some true
 | 0,k,e,g,f=>f.elim
 | n+1,0,e,g,f=>absurd g (by omega)
 | n+1,k+1,e,g,f=>by
  obtain⟨J,z,I⟩:=f;have L:aY none (kN none k) e.l e.l ()=some true:=by
   unfold aY;refine ifn (fun q=>q rfl) (bA (aOE z (fun i hi=>?_) ?_) rfl)
   ·unfold bR;exact ify (by omega) (aE (by omega) (aE (by omega) (bA (aR7 n k _ (by omega) (I _ (aWo hi))) (ifn (fun q=>q rfl) (aE (by omega) rfl)))))
   ·unfold bR;simp_all
  show pD none (kN none k) e e=_;unfold pD;rw[L];exact aE (fun _=>rfl) xAf
theorem bDA(l:List TSt)(h:l.length≤1000∧ ∀a∈l,fits 30 a.2.2.1):bE none l l ()=some true:=by
 unfold bE;have f:=h.1;refine ifn (fun q=>q rfl) (bA (aOE h.1 (fun i hi=>?_) ?_) rfl)
 ·unfold bN vA;have e:=aR7 30 64 _ xAa (h.2 _ (aBG (([]:List Nat),(([]:List Nat),([]:List Nat),()),(Ex.mk 0 [] []),()) hi));refine ify (by omega) (aE (by omega) (aE (by omega) (bA (a:=true) (aE (fun _=>?_) ?_) (ifn (fun q=>q rfl) (aE (by omega) rfl)))))
  all_goals grind[Int.toNat_natCast,Ty.eqb]
 ·unfold bN;simp_all
theorem bIU(l:List TOu)(h:l.length≤1000∧ ∀a∈l,fits 30 a.2.1):bO none l l ()=some true:=by
 unfold bO;have f:=h.1;refine ifn (fun q=>q rfl) (bA (aOE h.1 (fun i hi=>?_) ?_) rfl)
 ·unfold bT vB;have e:=aR7 30 64 _ xAa (h.2 _ (aBG (([]:List Nat),(Ex.mk 0 [] []),()) hi));refine ify (by omega) (aE (by omega) (aE (by omega) (bA (a:=true) (aE (fun _=>?_) ?_) (ifn (fun q=>q rfl) (aE (by omega) rfl)))))
  all_goals simp_all
 ·unfold bT;simp_all
theorem bIV{x:rK}(h:bDv x):uM none x x=some true:=by
 unfold uM;refine bA (bDA _ ⟨h.x.1,fun a f=>(h.x.2 a f).2.2.2.2⟩) (bA (bIU _ ⟨h.o.1,fun a f=>(h.o.2 a f).2.2.2⟩) ?_);rw[bIS _ h.p.1,bIT _ h.u.1];exact aE (fun _=>rfl) (aE (fun _=>rfl) xAf)
theorem bDB{s:TSc}(h:ScM s):rY none s s=some true:=by
 have a:aW none s.2.2.2.2.2.2.2.2.1 s.2.2.2.2.2.2.2.2.1 ()=some true:=by
  unfold aW;have f:=h.sb.1;refine ifn (fun q=>q rfl) (bA (aOE h.sb.1 (fun i hi=>?_) ?_) rfl)
  ·unfold bZ;exact ify (by omega) (aE (by omega) (aE (by omega) (bA (bIV (h.sb.2 _ (aBG _ hi))) (ifn (fun q=>q rfl) (aE (by omega) rfl)))))
  ·unfold bZ;simp_all
 unfold rY;rw[a,bFQ _ h.l.1];exact aE (fun _=>rfl) (aE (fun _=>rfl) xAf)
theorem round{s:TSc}(ok:bDs s)(hm:iQ none s=some true):∃t,lT none s=some (t,0,())∧(t.length≤20000→sM none t=some (s,(0,0,()),0,()))∧rY none s s=some true:=by
 obtain⟨v,hv,hF⟩:=bEO s ok;have hF:=hF (by simp_all);have g:=ScM.of ok hF;obtain⟨r1,q⟩:=bIJ s g;refine⟨jnP (scP s),bIR s g (.of hF) hm,fun I=>?_,bDB g⟩;have f:=ScB.of hF;have J:=aQw _ f.r.2;have L:=f.r.1;have z:=f.l;have:=bIH (scP s) (by unfold scP; rw[List.length_append]; show 7≤7+_; omega) (by unfold scP; rw[List.length_append,List.length_append,List.length_map]; show 7+_≤_; omega) r1 I (by grind[bDz]) (by simp_all);rw[q] at this;exact this
end Nu
end Go.Proofs

