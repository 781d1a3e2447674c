import Derived.Test.YtmhjkbdicaelbaaGreatDoorZS3
import Derived.Test.YtmhjkbdicaelbaaGreatDoorZS2
import Derived.Test.YtmhjkbdicaelbaaGreatDoorZS1
import Derived.Test.YtmhjkbdicaelbaaGreatDoorZL5
import Derived.Shelf.Strconv.Itoa2
import Derived.Test.YtmhjkbdicaelbaaGreatDoorZL6
import Derived.Shelf.Strings.OnBuilder
set_option linter.unusedVariables false
set_option linter.unusedSimpArgs false
namespace Go.Proofs
open Go.Vc
set_option maxRecDepth 20000
namespace Nu
def eI(M:Nat)(e:Int):Dy:=if M=0 then d0 else (false,lb (M/2^tzn M),e+(tzn M:Int),())
theorem aJZ{M K:Nat}(h0:M≠0)(h:M<2^K):tzn M<K:=by
 obtain⟨q,hq⟩:=aDH h0;refine(Nat.pow_lt_pow_iff_right (show 1<2 by decide)).1 (Nat.lt_of_le_of_lt ?_ h);grind
theorem bGj{M K:Nat}{e:Int}(hM:M<2^K)(f:K≤4096)(he: -1000000≤e∧e≤1000000):bJW false M e=(eI M e,0,()):=by
 unfold bJW bAB eI;by_cases h0:M=0
 ·rw[if_pos h0,if_pos h0]; rfl
 ·have g:=aJZ h0 hM;have hl:(lb (M/2^tzn M)).length≤64:=by
   exact aBS.2 (bC7 64 (Nat.lt_of_le_of_lt (Nat.div_le_self _ _) hM) (by omega))
  rw[if_neg h0,if_neg h0,if_neg (by omega),if_neg (by omega),if_neg (by omega)];rfl
theorem aIb{M:Nat}(h0:M≠0):M/2^tzn M*2^tzn M=M∧M/2^tzn M%2=1:=by
 obtain⟨q,hq⟩:=aDH h0;grind[tzn,Nat.mul_div_cancel_left,Nat.two_pow_pos,Nat.mul_comm]
theorem bJZ{M K:Nat}{e:Int}(hM:M<2^K)(I:K≤4096)(he: -1000000≤e∧e≤1000000):aIa (eI M e)=true:=by
 unfold eI;by_cases h0:M=0
 ·rw[if_pos h0]; rfl
 ·have q:=aJZ h0 hM;obtain⟨z,J⟩:=aIb h0;have f:M/2^tzn M≠0:=by omega
  have hl:(lb (M/2^tzn M)).length≤64:=by
   exact aBS.2 (bC7 64 (Nat.lt_of_le_of_lt (Nat.div_le_self _ _) hM) (by omega))
  have g:(lb (M/2^tzn M)).length≠0:=fun h=>f (aPM.1 (List.eq_nil_of_length_eq_zero h));have L:(lb (M/2^tzn M)).getD 0 0%2=1:=by
   rw[xA (aK4 _),uI,Nat.pow_zero,Nat.div_one];omega
  rw[if_neg h0];unfold aIa;simp only;rw[if_neg g];simp only[Bool.and_eq_true,decide_eq_true_iff];grind[aFe]
def bJ0(r:bJQ):Prop:=(∀c∈r.1,oX c=true)∧r.1.length≤60∧ -160≤r.2.1∧r.2.1≤160
theorem aJ0:bJ0 litNo:=⟨(fun c hc=>by cases hc),by decide,by decide,by decide⟩
theorem bAC{s:List Nat}{i:Nat}{all:List Nat}{f:Int}{neg:Bool}(g:∀c∈all,oX c=true)(q:all.length≤60)(h3: -60≤f∧f≤0):bJ0 (aH9 s i all f neg):=by
 unfold aH9;split
 ·exact aJ0
 ·split
  ·exact aJ0
  ·refine⟨g,q,?_,?_⟩
   all_goals grind
theorem bEP{s:List Nat}{i:Nat}{all:List Nat}{f:Int}(g:∀c∈all,oX c=true)(q:all.length≤60)(h3: -60≤f∧f≤0):bJ0 (aVV s i all f):=by
 unfold aVV;split
 ·grind[bAC]
 ·exact⟨g,q,by grind,by grind⟩
theorem sN(s:List Nat):bJ0 (cK s):=by
 have g:=xK s 0;have f:=xK s (bN s 0+1);have q:=aDQ s 0;rw[List.drop_zero] at q;have z:=aDQ s (bN s 0+1);grind[cK,aJ0,bEP,List.length_take]
def aCn(s:List Nat):Nat:=dW (cK s).1*10^(max (cK s).2.1 0).toNat
def aOA(s:List Nat):Nat:=10^(max (-(cK s).2.1) 0).toNat
theorem rR(n:Nat):10^n≤2^(4*n):=by
 simp_all[Nat.pow_mul,Nat.pow_le_pow_left]
theorem bAD(s:List Nat):aCn s<2^900:=by
 obtain⟨f,q,h3,g⟩:=sN s;have a:=aDk f;have b:=rR (cK s).1.length;have c:=rR (max (cK s).2.1 0).toNat;unfold aCn;have d:=Nat.mul_lt_mul_of_lt_of_le (Nat.lt_of_lt_of_le a b) c (Nat.pow_pos xAb);rw[← Nat.pow_add] at d;exact aHb 900 d (by omega)
theorem bGk(s:List Nat):aOA s<2^900:=by
 obtain⟨f,q,h3,g⟩:=sN s;have c:=rR (max (-(cK s).2.1) 0).toNat;unfold aOA;exact aDR 900 c (by omega)
def bL2(s:List Nat):List Nat×List Nat×Bool×Unit:=if (cK s).2.2.1=true then (lb (aCn s),lb (aOA s),true,()) else ([],[],false,())
theorem aGr{x:Nat}(h:x<2^900):(lb x).length≤15:=by
 exact aBS.2 (bC7 15 h xAb)
theorem bJ1(s:List Nat)(hs:s.length≤9223372036854775807):aBu none s=some (bL2 s):=by
 obtain⟨q,J,h3,I⟩:=sN s;unfold aBu bL2;refine aJ (bEN s hs) ?_;by_cases h:(cK s).2.2.1=true
 ·rw[if_neg (fun z=>z h),if_pos h];have e1:=aYM (cK s).1 q (by omega);have f:=aOz 10 (max (cK s).2.1 0).toNat xAb (by omega);have g:=aOz 10 (max (-(cK s).2.1) 0).toNat xAb (by omega);rw[show (((max (cK s).2.1 0).toNat:Nat):Int)=max (cK s).2.1 0 from by omega] at f;rw[show (((max (-(cK s).2.1) 0).toNat:Nat):Int)=max (0-(cK s).2.1) 0 from by omega] at g;have L:(lb (dW (cK s).1)).length≤15:=aGr (by
   have a:=aDk q;have b:=rR (cK s).1.length;exact aHb 900 (Nat.lt_of_lt_of_le a b) (by omega))
  have l2:(lb (10^(max (cK s).2.1 0).toNat)).length≤15:=aGr (aDR 900 (rR _) (by omega));refine aJ e1 (aJ f (aC ⟨?_,?_⟩ (aC (by omega) (aJ g ?_))))
  ·omega
  ·omega
  ·have ht:bY (lb (dW (cK s).1)) (lb (10^(max (cK s).2.1 0).toNat))=lb (aCn s):=by
    grind[bY,aCn,uI]
   rw[ht]; rfl
 simp_all
def exN(s:List Nat):Nat:=dW (cK s).1*5^(max (cK s).2.1 0).toNat
def exD(s:List Nat):Nat:=5^(max (-(cK s).2.1) 0).toNat
def yQ(s:List Nat):Dy×Int×Unit :=
 if ¬(cK s).2.2.1=true then (d0,6,())
 else if exN s%exD s≠0 then (d0,6,())
 else (eI (exN s/exD s) (cK s).2.1,0,())
theorem aVX(n:Nat):5^n≤2^(4*n):=Nat.le_trans (Nat.pow_le_pow_left xAb n) (rR n)
theorem bJ2(s:List Nat):exN s<2^900:=by
 obtain⟨f,q,h3,g⟩:=sN s;have a:=aDk f;have b:=rR (cK s).1.length;have c:=aVX (max (cK s).2.1 0).toNat;unfold exN;have d:=Nat.mul_lt_mul_of_lt_of_le (Nat.lt_of_lt_of_le a b) c (Nat.pow_pos xAb);rw[← Nat.pow_add] at d;exact aHb 900 d (by omega)
theorem bGl(s:List Nat):exD s≠0:=by
 grind[exD,Nat.pow_pos,Max.max,cK]
theorem bJ3(s:List Nat)(hs:s.length≤9223372036854775807):aBv none s=some (yQ s):=by
 obtain⟨I,U,h3,O⟩:=sN s;unfold aBv yQ;refine aJ (bEN s hs) ?_;by_cases h:(cK s).2.2.1=true
 ·rw[if_neg (fun N=>N h)];simp only[h,not_true,if_false];have e1:=aYM (cK s).1 I (by omega);have z:=aOz 5 (max (cK s).2.1 0).toNat xAb (by omega);have q:=aOz 5 (max (-(cK s).2.1) 0).toNat xAb (by omega);rw[show (((max (cK s).2.1 0).toNat:Nat):Int)=max (cK s).2.1 0 from by omega] at z;rw[show (((max (-(cK s).2.1) 0).toNat:Nat):Int)=max (0-(cK s).2.1) 0 from by omega] at q;have W:(lb (dW (cK s).1)).length≤15:=aGr (by
   have a:=aDk I;have b:=rR (cK s).1.length;exact aHb 900 (Nat.lt_of_lt_of_le a b) (by omega))
  have l2:(lb (5^(max (cK s).2.1 0).toNat)).length≤15:=aGr (aDR 900 (aVX _) (by omega));have ht:bY (lb (dW (cK s).1)) (lb (5^(max (cK s).2.1 0).toNat))=lb (exN s):=by
   grind[bY,exN,uI]
  have hq:oE (lb (exN s)) (lb (exD s))=(lb (exN s/exD s),lb (exN s%exD s),()):=by
   grind[oE,uI]
  have L:=bJ2 s;have g:exN s/exD s<2^900:=Nat.lt_of_le_of_lt (Nat.div_le_self _ _) L;have hF:yG none false (lb (exN s/exD s)) (cK s).2.1=some (eI (exN s/exD s) (cK s).2.1,0,()):=by
   rw[bJX false _ _ (aK4 _) (aFe _) (by grind[aGr]),uI,bGj g xAb (by omega)]
  have J:lb (5^(max (-(cK s).2.1) 0).toNat)=lb (exD s):=rfl;rw[J] at q;refine aJ e1 (aJ z (aC ⟨?_,?_⟩ (aC (by omega) (aJ q ?_))));rotate_left 2
  ·simp only[ht,hq];refine aC ⟨aFe _,aFe _,by grind[uI,bGl],?_⟩ (aJ hF ?_)
   ·grind[aGr]
   ·by_cases f:exN s%exD s=0
    ·rw[if_neg (by rw[f,zE]; simp),if_neg (fun h=>h f)]
    ·have hl:=List.length_pos_iff.2 (fun e=>f (aPM.1 e));rw[if_pos (.inl (by omega)),if_pos f]; rfl
  all_goals omega
 ·rw[if_pos h,if_pos h]; rfl
def Tot{α:Type}(o:Option α)(P:α→Prop):Prop:=∃r,o=some r∧P r
namespace Tot
variable {α β:Type} {P:α→Prop} {o:Option α} {R:β→Prop}
theorem ret{r:α}(h:P r):Tot (some r) P:=⟨r,rfl,h⟩
theorem of{r:α}(e:o=some r)(h:P r):Tot o P:=⟨r,e,h⟩
theorem ck{p:Prop}[Decidable p](hp:p)(h:Tot o P):Tot (Go.Vc.ck p o) P:=by grind[bIM]
theorem bind{f:α→Option β}(h:Tot o P)(q:∀r,P r→Tot (f r) R):Tot (o.bind f) R:=by
 obtain⟨r,rfl,g⟩:=h;simp_all
theorem ite{p:Prop}{i:Decidable p}{x y:Option α}(f:p→Tot x P)(g:¬p→Tot y P):Tot (@_root_.ite _ p i x y) P:=by
 grind
theorem mono{Q:α→Prop}(h:Tot o P)(hq:∀r,P r→Q r):Tot o Q:=by
 obtain⟨r,e,f⟩:=h;exact⟨r,e,hq r f⟩
theorem aOB(h:Tot o P):o.isSome=true:=by
 obtain⟨r,rfl,f⟩:=h;rfl
theorem get(h:Tot o P)(z:α):P (o.getD z):=by
 obtain⟨r,rfl,f⟩:=h;exact f
end Tot
theorem pF{d:Dy}(h:aIa d=true):d.2.1.length≤64∧Nrm d.2.1∧ -1048576≤d.2.2.1∧d.2.2.1≤1048576:=by
 grind[aIa,List.eq_nil_of_length_eq_zero,aZD]
theorem bC8(d:Dy):Tot (gS none d) (fun r=> -1≤r∧r≤1):=by
 unfold gS;exact(Tot.of (P:=fun _=>True) (aMG d) trivial).bind fun v _=>.ite (fun _=>.ret xAb) fun _=>.ite (fun _=>.ret xAb) fun _=>.ret xAb
def aYN(a b:Dy):Int :=
 let x:=(bl (nv a.2.1):Int)+a.2.2.1
 let y:=(bl (nv b.2.1):Int)+b.2.2.1
 let f:=min a.2.2.1 b.2.2.1
 if x<y then -1 else if y<x then 1 else xP (nv a.2.1*2^(a.2.2.1-f).toNat) (nv b.2.1*2^(b.2.2.1-f).toNat)
theorem size_eq(a b:Dy)(U:Lm a.2.1)(L:Lm b.2.1)(ha:aIa a=true)(hb:aIa b=true):aBm none a b=some (aYN a b):=by
 obtain⟨a1,q,W,Z⟩:=pF ha;obtain⟨b1,J,O,Y⟩:=pF hb;have N:bl (nv a.2.1)≤64*a.2.1.length:=aK5 (by grind[aGf,qX]);have z:bl (nv b.2.1)≤64*b.2.1.length:=aK5 (by grind[aGf,qX]);have e1:pO a.2.1=(bl (nv a.2.1):Int):=rfl;have I:pO b.2.1=(bl (nv b.2.1):Int):=rfl;unfold aBm aYN;rw[e1,I];refine aC ⟨q,by omega⟩ (aC (by omega) (aC ⟨J,by omega⟩ (aC (by omega) ?_)));simp only;by_cases f:(bl (nv a.2.1):Int)+a.2.2.1<(bl (nv b.2.1):Int)+b.2.2.1
 ·simp_all
 ·rw[if_neg f,if_neg f];by_cases g:(bl (nv b.2.1):Int)+b.2.2.1<(bl (nv a.2.1):Int)+a.2.2.1
  ·simp_all
  ·rw[if_neg g,if_neg g];refine aC (by omega) (aC ⟨by omega,by omega,by omega⟩ (aC (by omega) (aC ⟨by omega,by omega,by omega⟩ (aC ⟨aFe _,aFe _⟩ ?_))));grind[gQ,fR,uI]
theorem bC9(a b:Dy): -1≤aYN a b∧aYN a b≤1:=by
 grind[aYN,xP]
end Nu
end Go.Proofs
namespace Go.Proofs
open Go.Vc
set_option maxRecDepth 20000
namespace Nu
def mx(l:List Nat):Nat:=l.foldr max 0
theorem bL3(l:List Nat)(b:Nat):mx (l++ [b])=max (mx l) b:=by
 induction l with
 | nil=>simp[mx]
 | cons a r f =>
  simp only[mx,List.cons_append,List.foldr_cons] at f ⊢;rw[f,Nat.max_assoc]
theorem bNP(l m:List Nat):mx (l++m)=max (mx l) (mx m):=by
 induction l with
 | nil=>simp[mx]
 | cons a r f =>
  simp only[mx,List.cons_append,List.foldr_cons] at f ⊢;rw[f,Nat.max_assoc]
theorem aTK{l:List Ex}{k:Nat}(h:k<l.length):l.take (k+1)=l.take k++ [l.getD k (Ex.mk 0 [] [])]:=by
 simp_all
theorem aJ1{l:List Ex}{k:Nat}(h:k<l.length):l.getD k (Ex.mk 0 [] [])∈l:=by
 simp_all
def aAE(f:Ex→Nat)(l:List Ex):Nat:=(l.map f).sum
def mxN(f:Ex→Nat)(l:List Ex):Nat:=mx (l.map f)
theorem aKH(f:Ex→Nat){l:List Ex}{k:Nat}(h:k<l.length):aAE f (l.take (k+1))=aAE f (l.take k)+f (l.getD k (Ex.mk 0 [] [])):=by
 grind[aTK,aAE]
theorem bDa(f:Ex→Nat){l:List Ex}{k:Nat}(h:k<l.length):mxN f (l.take (k+1))=max (mxN f (l.take k)) (f (l.getD k (Ex.mk 0 [] []))):=by
 rw[aTK h,mxN,List.map_append]; exact bL3 _ _
theorem bGm(f:Ex→Nat)(l:List Ex)(k:Nat):aAE f (l.take k)≤aAE f l:=by
 have:aAE f l=aAE f (l.take k++l.drop k):=by simp_all
 rw[this,aAE,aAE,List.map_append,List.sum_append];omega
theorem bJ4(f:Ex→Nat){l:List Ex}{k:Nat}(h:k<l.length):aAE f (l.take k)+f (l.getD k (Ex.mk 0 [] []))≤aAE f l:=by
 rw[← aKH f h]; exact bGm f l _
theorem bEQ(f:Ex→Nat)(l:List Ex):aAE f (l.take 0)=0:=by rfl
theorem bJ5(f:Ex→Nat)(l:List Ex):mxN f (l.take 0)=0:=by rfl
theorem aKI{l:List Ex}{k:Nat}(h:l.length≤k):l.take k=l:=List.take_of_length_le h
def fits:Nat→Ex→Prop
 | 0,_=>False
 | n+1,e=>e.text.length≤100∧e.l.length≤1000∧ ∀x∈e.l,fits n x
def nd:Nat→Ex→Nat
 | 0,_=>0
 | n+1,e=>1+aAE (nd n) e.l
def ht:Nat→Ex→Nat
 | 0,_=>0
 | n+1,e=>1+mxN (ht n) e.l
theorem bAE{f:Ex→Nat}{b:Nat}(h:∀x,f x≤b):∀l:List Ex,mxN f l≤b
 | []=>by simp[mxN,mx]
 | x::r=>by
  have g:=h x;have q:=bAE h r;have:mxN f (x::r)=max (f x) (mxN f r):=rfl;omega
theorem bJ6:∀(n:Nat) (e:Ex),ht n e≤n
 | 0,e=>Nat.le_refl 0
 | n+1,e=>by
  have:=bAE (bJ6 n) e.l;have h:ht (n+1) e=1+mxN (ht n) e.l:=rfl;omega
theorem bAF{n:Nat}{e:Ex}(h:fits n e):1≤ht n e:=by
 cases n with
 | zero=>exact h.elim
 | succ n=>have:ht (n+1) e=1+mxN (ht n) e.l:=rfl; omega
theorem bNQ{n:Nat}{e:Ex}(h:fits n e):1≤nd n e:=by
 cases n with
 | zero=>exact h.elim
 | succ n=>have:nd (n+1) e=1+aAE (nd n) e.l:=rfl; omega
def prt(k:Int):Int:=if k=1∨k=2 then 0 else if 6≤k∧k≤9 then 2 else if 10≤k∧k≤13 then 1 else -1
theorem bL4(k:Int):zP none k=some (prt k):=by
 by_cases h:1≤k∧k≤13
 ·have:k=1∨k=2∨k=3∨k=4∨k=5∨k=6∨k=7∨k=8∨k=9∨k=10∨k=11∨k=12∨k=13:=by omega
  rcases this with h|h|h|h|h|h|h|h|h|h|h|h|h<;>subst h<;>rfl
 ·unfold zP vT nS nR prt;have e:∀j:Int,1≤j→j≤13→ ¬k=j:=fun j f g h3=>h (by omega);rw[if_neg (e 1 xAb xAb),decide_eq_false (e 2 xAb xAb),if_neg xAb,if_neg (e 6 xAb xAb),if_neg (e 7 xAb xAb),if_neg (e 8 xAb xAb),
   decide_eq_false (e 9 xAb xAb),if_neg xAb,if_neg (e 10 xAb xAb),if_neg (e 11 xAb xAb),if_neg (e 12 xAb xAb),decide_eq_false (e 13 xAb xAb),if_neg xAb,
   if_neg (by omega),if_neg (by omega),if_neg (by omega)]
theorem bGn:∀(n k:Nat) (e:Ex) (a f d0:Nat),n≤k→fits n e→a+n≤1000→f+nd n e≤100000→d0≤100000 →
  ∃q g:Nat,jH none k e (a:Int) (f:Int) (d0:Int)=some ((q:Int),(g:Int))∧f<q∧q≤f+nd n e∧d0≤g∧a≤g∧g≤max d0 (a+ht n e-1)∧(q≤60→g≤30→q=f+nd n e∧g=max d0 (a+ht n e-1))
 | 0,k,e,a,f,d0,hk,J,ha,O,hd=>J.elim
 | n+1,0,e,a,f,d0,hk,J,ha,O,hd=>absurd hk (by omega)
 | n+1,k+1,e,a,f,d0,hk,J,ha,O,hd=>by
  obtain⟨hf1,hf2,L⟩:=J;have hnd:nd (n+1) e=1+aAE (nd n) e.l:=rfl;have hht:ht (n+1) e=1+mxN (ht n) e.l:=rfl;show ∃q g:Nat,pB none (jH none k) e (a:Int) (f:Int) (d0:Int)=_∧_;unfold pB;by_cases hc:(60:Int)<(f:Int)+1∨(30:Int)<(a:Int)
  ·refine⟨f+1,max d0 a,?_,by omega,by omega,by omega,by omega,by omega,fun _ _=>by omega⟩;refine aC (by omega) ?_;grind
  ·obtain⟨r,hr,x,y,rfl,q1,q2,q3,q4,q5⟩:=cO (step:=fun d:Int×Int×Int=>gP none (jH none k) e (a:Int) d.1 d.2.1 d.2.2)
    (I:=fun d=>∃i x y:Nat,d=((i:Int),(x:Int),(y:Int))∧i≤e.l.length∧f+1≤x∧x≤f+1+aAE (nd n) (e.l.take i)∧max d0 a≤y∧y≤max (max d0 a) (a+mxN (ht n) (e.l.take i))∧(x≤60→y≤30→x=f+1+aAE (nd n) (e.l.take i)∧y=max (max d0 a) (a+mxN (ht n) (e.l.take i))))
    (fun d=>((e.l.length:Int)-d.1).toNat)
    (fun r=>∃x y:Nat,r=((x:Int),(y:Int))∧f+1≤x∧x≤f+1+aAE (nd n) e.l∧max d0 a≤y∧y≤max (max d0 a) (a+mxN (ht n) e.l)∧(x≤60→y≤30→x=f+1+aAE (nd n) e.l∧y=max (max d0 a) (a+mxN (ht n) e.l)))
    (by
     rintro d ⟨i,x,y,rfl,h1,h2,h3,h4,W,N⟩;show (∃g,gP none (jH none k) e (a:Int) (i:Int) (x:Int) (y:Int)=_∧_)∨ ∃r,gP none (jH none k) e (a:Int) (i:Int) (x:Int) (y:Int)=_∧_;unfold gP;by_cases hi:i<e.l.length
     ·left
      have s1:=bJ4 (nd n) hi;have s2:=aKH (nd n) hi;have s3:=bDa (ht n) hi;have z:=L _ (aJ1 hi);have hm:=bAE (bJ6 n) (e.l.take i);have hy:y≤100000:=by omega
      ·obtain⟨U,Y,Z,p2,p3,p4,p5,p6,p7⟩:=bGn n k (e.l.getD i (Ex.mk 0 [] [])) (a+1) x y (by omega) z (by omega) (by omega) hy;rw[show ((a+1:Nat):Int)=(a:Int)+1 from by omega] at Z;refine⟨(((i+1:Nat):Int),(U:Int),(Y:Int)),?_,⟨i+1,U,Y,rfl,by omega,by omega,by omega,by omega,by omega,fun c1 c2=>?_⟩,by omega⟩
       ·rw[if_pos (by omega),Int.toNat_natCast];refine aC (by omega) (aC (by omega) (aJ Z (aC (by omega) ?_)))
        congr 3
       omega
     ·right
      have e1:e.l.take i=e.l:=aKI (by omega);rw[e1] at h3 W N;refine⟨((x:Int),(y:Int)),?_,x,y,rfl,h2,h3,h4,W,N⟩;grind)
    ((0:Int),(f:Int)+1,max (d0:Int) (a:Int)) ⟨0,f+1,max d0 a,by grind,by omega,by omega,by omega,by omega,by omega,fun _ _=>by rw[bEQ,bJ5]; omega⟩
   refine⟨x,y,?_,by omega,by omega,by omega,by omega,by omega,fun c1 c2=>by omega⟩;refine aC (by omega) ?_;grind
theorem bJ7{n:Nat}{e:Ex}(g:fits n e)(f:n≤64)(hd:nd n e≤1000):aBw none e=some (decide (nd n e≤60∧ht n e≤30)):=by
 obtain⟨x,y,I,L,h3,J,q,N,z⟩:=bGn n 64 e 1 0 0 f g (by omega) (by omega) (by omega);grind[bAF,aBw,aB5]
def gk:Nat→Ex→Bool
 | 0,_=>true
 | n+1,e=>decide (prt e.kind=(e.l.length:Int))&&e.l.all (gk n)
theorem aVY{f:Ex→Bool}{l:List Ex}{k:Nat}(h:k<l.length):(l.take (k+1)).all f=((l.take k).all f&&f (l.getD k (Ex.mk 0 [] []))):=by
 rw[aTK h,List.all_append]; simp
theorem eP{α:Type}(z:α){l:List α}{k:Nat}(h:k<l.length):l.take (k+1)=l.take k++ [l.getD k z]:=by
 simp_all
theorem mF{α:Type}(z:α){l:List α}{k:Nat}(h:k<l.length):l.getD k z∈l:=by
 simp_all
theorem bJ8(l:List qd)(v:List Nat)(hl:l.length≤1000):∃r:Int,gV none l v=some r∧((0:Int)≤r↔v∈l):=by
 obtain⟨e,he,g⟩:=cO (step:=fun d:Int=>dX none l v d) (I:=fun d=>∃j:Nat,d=(j:Int)∧j≤l.length∧v∉l.take j) (fun d=>((l.length:Int)-d).toNat)
  (fun e=>(e= .inl ()∧v∉l)∨ ∃j:Nat,e= .inr (j:Int)∧v∈l)
  (by
   rintro d ⟨j,rfl,z,q⟩;show (∃J,dX none l v (j:Int)=_∧_)∨ ∃e,dX none l v (j:Int)=_∧_;unfold dX;by_cases f:j<l.length
   ·rw[if_pos (by omega),Int.toNat_natCast];by_cases hv:v=l.getD j []
    ·right
     exact⟨_,aC (by omega) (if_pos hv),.inr ⟨j,rfl,by simp_all⟩⟩
    ·left
     refine⟨((j+1:Nat):Int),aC (by omega) ((if_neg hv).trans (aC (by omega) rfl)),⟨j+1,rfl,by omega,?_⟩,by omega⟩;rw[eP [] f,List.mem_append];rintro (h|h)
     ·exact q h
     ·exact hv (List.mem_singleton.1 h)
   grind) (0:Int) ⟨0,rfl,by omega,by simp⟩
 unfold gV;rcases g with⟨rfl,h⟩|⟨j,rfl,h⟩
 all_goals simp_all
theorem contains_eq(l:List qd)(v:List Nat)(hl:l.length≤1000):dE none l v=some (decide (v∈l)):=by
 obtain⟨r,f,g⟩:=bJ8 l v hl;simp_all[dE,aJ,congrArg,decide_eq_decide]
def fm(s:List Nat):Bool:=(cK s).2.2.1
theorem bL5(s:List Nat)(hs:s.length≤9223372036854775807):aCN none s=some (fm s):=by
 unfold aCN;exact aJ (bEN s (by omega)) rfl
def lvs(names:List qd):Nat→Ex→Bool
 | 0,_=>true
 | n+1,e=>if e.kind=1 then fm e.text else if e.kind=2 then (decide (e.text=aI ⟨#[116]⟩)||decide (e.text∈names)) else (decide (e.text=aI ⟨#[]⟩)&&e.l.all (lvs names n))
theorem bL6(p q:Ex→Bool):∀l:List Ex,l.all (fun x=>p x&&q x)=(l.all p&&l.all q)
 | []=>rfl
 | x::r=>by
  grind
theorem aOC{b:Ex→Bool}{l:List Ex}{j:Nat}(f:j<l.length)(h:b (l.getD j (Ex.mk 0 [] []))=false):l.all b=false:=by
 grind
theorem bJ9(g:Ex→List qd→Option Bool)(names:List qd)(b:Ex→Bool)(l:List Ex)(hl:l.length≤1000)(z:∀x∈l,g x names=some (b x)) :
  bJ none g l (names,())=some (!(l.all b)):=by
 obtain⟨e,he,q⟩:=cO (step:=fun d:Int=>bI none g l (names,()) d) (I:=fun d=>∃j:Nat,d=(j:Int)∧j≤l.length∧(l.take j).all b=true) (fun d=>((l.length:Int)-d).toNat)
  (fun e=>(e= .inl ()∧l.all b=true)∨ ∃j:Nat,e= .inr (j:Int)∧l.all b=false)
  (by
   rintro d ⟨j,rfl,J,L⟩;show (∃N,bI none g l (names,()) (j:Int)=_∧_)∨ ∃e,bI none g l (names,()) (j:Int)=_∧_;unfold bI yI;by_cases f:j<l.length
   ·rw[if_pos (by omega),Int.toNat_natCast];have hx:=z _ (aJ1 f);cases hb:b (l.getD j (Ex.mk 0 [] [])) with
    | false =>
     right
     rw[hb] at hx;exact⟨_,aC (by omega) (aJ (aJ hx rfl) (if_pos rfl)),.inr ⟨j,rfl,aOC f hb⟩⟩
    | true =>
     left
     rw[hb] at hx;refine⟨((j+1:Nat):Int),aC (by omega) (aJ (aJ hx rfl) ((if_neg xAb).trans (aC (by omega) rfl))),⟨j+1,rfl,by omega,?_⟩,by omega⟩;grind[aVY]
   grind) (0:Int) ⟨0,rfl,by omega,by simp⟩
 unfold bJ cB;rcases q with⟨rfl,h⟩|⟨j,rfl,h⟩
 all_goals simp_all
theorem bAG(names:List qd)(q:names.length≤1000):∀(n k:Nat) (e:Ex),n≤k→fits n e→vB none k e names=some (gk n e&&lvs names n e)
 | 0,k,e,hk,L=>L.elim
 | n+1,0,e,hk,L=>absurd hk (by omega)
 | n+1,k+1,e,hk,L=>by
  obtain⟨U,O,N⟩:=L;have I:gk (n+1) e=(decide (prt e.kind=(e.l.length:Int))&&e.l.all (gk n)):=rfl;have f:lvs names (n+1) e=if e.kind=1 then fm e.text else if e.kind=2 then (decide (e.text=aI ⟨#[116]⟩)||decide (e.text∈names)) else (decide (e.text=aI ⟨#[]⟩)&&e.l.all (lvs names n)):=rfl
  have g:=bJ9 (vB none k) names (fun x=>gk n x&&lvs names n x) e.l O fun x hx=>bAG names q n k x (by omega) (N x hx);show tH none (vB none k) e names=_;unfold tH;rw[bL4,g,bL5 _ (by omega),contains_eq _ _ q,bL6];simp only[Option.isSome_some,Option.getD_some,Option.bind_some];by_cases hp:prt e.kind=(e.l.length:Int)
  ·rw[if_neg (fun h=>h hp)];by_cases J:e.kind=1
   ·have h0:e.l= []:=List.eq_nil_of_length_eq_zero (by rw[J] at hp; have:prt 1=0:=rfl; omega);simp_all
   ·rw[if_neg J];by_cases z:e.kind=2
    ·have h0:e.l= []:=List.eq_nil_of_length_eq_zero (by rw[z] at hp; have:prt 2=0:=rfl; omega);rw[if_pos z,I,f,if_neg J,if_pos z,decide_eq_true hp,h0];exact aC xAg rfl
    ·rw[if_neg z,I,f,if_neg J,if_neg z,decide_eq_true hp];refine aC xAg ?_;grind
  simp_all
theorem Tot.loop{D E:Type}{step:D→Option (D⊕E)}{P:E→Prop}(I:D→Prop)(f:D→Nat)(h:∀d,I d→Tot (step d) (fun q=>match q with| .inl g=>I g∧f g<f d| .inr e=>P e)){d:D}(h0:I d):Tot (bO none step d) P :=
 cO f P (fun d hd=>by
  obtain⟨q,e,hq⟩:=h d hd;grind) d h0
abbrev aDS:Type:=List Nat×List (List Nat×(List Nat×List Nat×Unit)×Ex×Unit)×List (List Nat×(List Nat×List Nat×Unit)×Unit)×List qd×List (List Nat×Ex×Unit)×Unit
abbrev TSc:Type:=Int×Int×Int×Int×List Nat×List Nat×List Nat×List Nat×List aDS×List (List Nat×List Nat×List Nat×List Nat×Unit)×Unit
def sg(w:List Nat):List Nat:=if ([45]:List Nat).isPrefixOf w then w.drop 1 else w
theorem bNR(w:List Nat):(sg w).length≤w.length:=by
 unfold sg;grind
theorem bOy(w:List Nat)(h:w.length≤9223372036854775807):Tot (eT none w (aI ⟨#[45]⟩)) (fun b=>b=([45]:List Nat).isPrefixOf w):=by
 unfold eT;rw[show aI ⟨#[45]⟩= [45] from rfl];refine .ck (fun h=>⟨by omega,h⟩) (.ret ?_);cases w with
 | nil=>rfl
 | cons a r =>
  grind
def T8(w:List Nat):Prop:=w.length≤9223372036854775807∧ ∀c∈w,c<256
theorem T8.take{w:List Nat}(h:T8 w)(k:Nat):T8 (w.take k):=⟨by rw[List.length_take]; have:=h.1; omega,fun c hc=>h.2 c (List.mem_of_mem_take hc)⟩
theorem T8.drop{w:List Nat}(h:T8 w)(k:Nat):T8 (w.drop k):=⟨by rw[List.length_drop]; have:=h.1; omega,fun c hc=>h.2 c (List.mem_of_mem_drop hc)⟩
theorem T8.nil:T8 []:=⟨by decide,fun c hc=>by cases hc⟩
theorem fK{α:Type}(z:α){l:List α}{k:Nat}(h:k<l.length):l.getD k z∈l:=by
 simp_all
theorem Tot.imp{α:Type}{o:Option α}{P:α→Prop}(h:Tot o P):Tot o (fun _=>True):=h.mono fun _ _=>trivial
theorem bGo{A:List Bool}{c:Nat}(hc:c<256):Tot (bV none A c) (fun _=>True):=by
 unfold bV;exact .ck (by omega) (.ret trivial)
theorem bL7(cs:List Nat)(h:∀c∈cs,c<128)(hl:cs.length≤1000):Tot (dD none cs) (fun r=>r.2.1=true):=by
 unfold dD;refine Tot.bind (P:=fun e=>match e with| .inl _=>True| .inr r=>r.2.1=true) (Tot.loop (fun d:Int×List Bool=>0≤d.1∧d.1≤cs.length) (fun d=>((cs.length:Int)-d.1).toNat) ?_ ⟨by decide,by omega⟩) fun e he=>?_
 ·rintro⟨i,A⟩ ⟨i0,i1⟩;have i0:0≤i:=i0;have i1:i≤cs.length:=i1;show Tot (gL none cs i A) _;unfold gL;refine .ite (fun hi=>.ck ⟨i0,hi⟩ ?_) fun _=>.ret trivial;have hc:=h _ (fK 0 (l:=cs) (k:=i.toNat) (by omega));refine .ite (fun hh=>by omega) fun _=>.ck (by omega) (.ck (by omega) (.ret ⟨⟨by omega,by omega⟩,by omega⟩))
 ·cases e with
  | inl A=>exact .ret rfl
  | inr r=>exact .ret he
theorem bL8(s:List Nat)(A:List Bool)(hs:T8 s):Tot (cM none s A) T8:=by
 unfold cM;refine Tot.bind (Tot.loop T8 (fun d=>d.length) ?_ hs) fun e he=>.ret he;intro d hd;show Tot (bW none A d) _;unfold bW;have f:=hd.1;refine .ite (fun h=>.ck (by omega) (.ck (by omega) ((bGo (hd.2 _ (fK 0 (by omega)))).bind fun v _=>.ite (fun _=>.ret hd) fun _=>.ck (by omega) (.ck (by omega) (.ret ⟨hd.take _,?_⟩))))) fun _=>.ret hd;grind
theorem bL9(s:List Nat)(A:List Bool)(hs:T8 s):Tot (dH none s A) T8:=by
 unfold dH;refine Tot.bind (Tot.loop T8 (fun d=>d.length) ?_ hs) fun e he=>.ret he;intro d hd;show Tot (cQ none A d) _;unfold cQ;refine .ite (fun h=>.ck h ((bGo (hd.2 _ (fK 0 (by omega)))).bind fun v _=>.ite (fun _=>.ret hd) fun _=>.ck (by omega) (.ret ⟨hd.drop _,?_⟩))) fun _=>.ret hd;grind
theorem bKa(s cs:List Nat)(hs:T8 s)(h:∀c∈cs,c<128)(g:2≤cs.length)(hl:cs.length≤1000):Tot (gY none s cs) (fun _=>True):=by
 unfold gY;refine .ite (fun _=>.ret trivial) fun _=>.ck (fun h=>by omega) (.ite (fun h=>absurd h.1 (by omega)) fun _=>(bL7 cs h hl).bind fun v hv=>.ite (fun _=>(bL8 s _ hs).bind fun a ha=>(bL9 a _ ha).bind fun b _=>.ret trivial) fun f=>absurd hv f)
theorem bDb(w:List Nat)(f:T8 w):Tot (cR none w) (fun _=>True):=by
 unfold cR;refine .ck (fun h=>by omega) (.ck (fun h=>by omega) (.ite (fun _=>.ret trivial) fun _=>(bKa w _ f xAb xAb xAb).bind fun v _=>.ck (fun _=>rfl) (.ck (fun _=>?_) (.ret trivial))));simp_all[gI,Option.getD_some,contains_eq]
theorem bGp(x:List Nat):∀A:List (List Nat×Bool),uF .str (aM2 .str A x true) x=some true
 | []=>if_pos (decide_eq_true rfl)
 | (k,v)::A=>by
  show uF .str (if Ty.eqb .str x k=true then _ else _) x=_;split
  ·rename_i h;exact if_pos h
  ·rename_i h;exact(if_neg h).trans (bGp x A)
theorem bGq(x y:List Nat):∀A:List (List Nat×Bool),uF .str A y=some true→uF .str (aM2 .str A x true) y=some true
 | [],h=>by cases h
 | (k,v)::A,h=>by
  have h:(if Ty.eqb .str y k=true then some v else uF .str A y)=some true:=h;show uF .str (if Ty.eqb .str x k=true then _ else _) y=_;split
  ·show (if Ty.eqb .str y k=true then some true else uF .str A y)=_;grind
  ·show (if Ty.eqb .str y k=true then some v else uF .str (aM2 .str A x true) y)=_;split
   ·simp_all
   ·rename_i f;rw[if_neg f] at h;exact bGq x y A h
theorem Tot.self{α:Type}{o:Option α}{P:α→Prop}(h:Tot o P):Tot o (fun r=>o=some r∧P r):=by
 obtain⟨r,e,f⟩:=h;exact⟨r,e,e,f⟩
theorem Tot.idx{X E:Type}(n:Nat)(I:X→Nat→Prop){step:Int×X→Option ((Int×X)⊕E)}{P:E→Prop}(z:n≤1000000)
  (h:∀(i:Int) (x:X),0≤i→i<n→I64 (i+1)→I x i.toNat→Tot (step (i,x)) (fun q=>match q with| .inl d=>d.1=i+1∧I d.2 (i.toNat+1)| .inr e=>P e))
  (f:∀(x:X),I x n→Tot (step ((n:Int),x)) (fun q=>match q with| .inl d=>False| .inr e=>P e)) {x:X} (h0:I x 0):Tot (bO none step ((0:Int),x)) P:=by
 refine Tot.loop (fun d:Int×X=>(0:Int)≤d.1∧d.1≤(n:Int)∧I d.2 d.1.toNat) (fun d=>((n:Int)-d.1).toNat) ?_ ⟨Int.le_refl 0,by omega,h0⟩;rintro⟨i,x⟩ ⟨i0,i1,g⟩;have i0:0≤i:=i0;have i1:i≤n:=i1;rcases Int.lt_or_le i n with hi|hi
 ·refine(h i x i0 hi (by omega) g).mono fun q hq=>?_;grind
 ·have:i=n:=by omega
  subst this;grind[mono]
theorem Tot.idx1{E:Type}(n:Nat){step:Int→Option (Int⊕E)}{P:E→Prop}(g:n≤1000000)
  (h:∀(i:Int),0≤i→i<n→I64 (i+1)→Tot (step i) (fun q=>match q with| .inl d=>d=i+1| .inr e=>P e))
  (f:Tot (step (n:Int)) (fun q=>match q with| .inl d=>False| .inr e=>P e)):Tot (bO none step (0:Int)) P:=by
 refine Tot.loop (fun d:Int=>(0:Int)≤d∧d≤(n:Int)) (fun d=>((n:Int)-d).toNat) ?_ ⟨Int.le_refl 0,by omega⟩;grind[Int.lt_or_le,mono]
def OkE(e:Ex):Prop:=∃n,n≤64∧fits n e∧nd n e≤1000
theorem aF1(e:Ex)(names:List qd)(he:OkE e)(q:names.length≤1000):Tot (bQ none e names) (fun _=>True):=by
 obtain⟨n,f,g,h3⟩:=he;unfold bQ;exact(Tot.of (P:=fun _=>True) (bJ7 g f h3) trivial).bind fun v _=>.ck (fun _=>by rw[bAG names q n 64 e f g]; rfl) (.ret trivial)
def TL(n:Nat)(l:List qd):Prop:=l.length≤n∧ ∀x∈l,T8 x
theorem TL.app{n m:Nat}{a b:List qd}(h:TL n a)(k:TL m b):TL (n+m) (a++b):=⟨by rw[List.length_append]; have:=h.1; have:=k.1; omega,fun x hx=>(List.mem_append.1 hx).elim (h.2 x) (k.2 x)⟩
theorem TL.one{w:List Nat}(h:T8 w):TL 1 [w]:=⟨Nat.le_refl 1,fun x hx=>by simp_all⟩
structure bDc(s:aDS):Prop where
 n:T8 s.1
 x:s.2.1.length≤4000∧ ∀a∈s.2.1,T8 a.1∧T8 a.2.1.1∧T8 a.2.1.2.1∧OkE a.2.2.1
 p:s.2.2.1.length≤4000∧ ∀a∈s.2.2.1,T8 a.1∧T8 a.2.1.1∧T8 a.2.1.2.1
 u:TL 4000 s.2.2.2.1
 o:s.2.2.2.2.1.length≤4000∧ ∀a∈s.2.2.2.2.1,T8 a.1∧OkE a.2.1
theorem Tot.eq{α:Type}{o:Option α}{r:α}(h:Tot o (fun x=>x=r)):o=some r:=by
 obtain⟨x,e,rfl⟩:=h;exact e
theorem bKb(s:aDS)(hx:s.2.1.length≤1000)(hp:s.2.2.1.length≤1000):bF none s=some (s.2.1.map (·.1),s.2.2.1.map (·.1),s.2.2.2.1,()):=by
 refine Tot.eq ?_;unfold bF;refine Tot.bind (P:=fun l=>l=s.2.1.map (·.1)) (Tot.idx s.2.1.length (fun l i=>l=(s.2.1.take i).map (·.1)) (by omega) (fun i l i0 hi h64 hI=>?_) (fun l hI=>?_) rfl) fun l hl=>?_
 ·show Tot (lP none s i l) _;unfold lP;exact zaj
 ·show Tot (lP none s _ l) _;unfold lP;exact zaX
 ·subst hl;unfold tL;refine Tot.bind (P:=fun l=>l=s.2.2.1.map (·.1)) (Tot.idx s.2.2.1.length (fun l i=>l=(s.2.2.1.take i).map (·.1)) (by omega) (fun i l i0 hi h64 hI=>?_) (fun l hI=>?_) rfl) fun q hq=>?_
  ·show Tot (lO none s i l) _;unfold lO;exact zal
  ·show Tot (lO none s _ l) _;unfold lO;exact zaX
  ·subst hq;exact .ret rfl
theorem bHD(a b c:List qd)(ha:a.length≤1000)(hb:b.length≤1000)(hc:c.length≤1000):bR none [a,b,c]=some (a++(b++c)):=by
 refine Tot.eq ?_;have g:∀i:Int,0≤i→i<(3:Nat)→(([a,b,c]:List qj).getD i.toNat []).length≤1000:=fun i z L=>by
  grind
 unfold bR;refine Tot.bind (P:=fun k:Int=>0≤k∧k≤3000) ?_ fun k hk=>?_
 ·refine Tot.loop (fun d:Int×Int=>0≤d.2∧d.2≤3∧0≤d.1∧d.1≤1000*d.2) (fun d=>(3-d.2).toNat) ?_ ⟨by decide,by decide,by decide,by decide⟩;rintro⟨k,i⟩ ⟨i0,i1,q,I⟩;have i0:0≤i:=i0;have i1:i≤3:=i1;have q:0≤k:=q;have I:k≤1000*i:=I;show Tot (gN none [a,b,c] k i) _;unfold gN;refine .ite (fun hi=>?_) fun _=>.ret ⟨q,by omega⟩;have f:i<(3:Nat):=hi;have:=g i i0 f;exact .ck ⟨i0,hi⟩ (.ck (by omega) (.ite (fun hh=>by omega) fun _=>.ck (by omega) (.ret ⟨⟨by omega,by omega,by omega,by omega⟩,by omega⟩)))
 ·unfold gM iM;refine Tot.bind (P:=fun r=>r= []) (.ck (by omega) (.ret rfl)) fun r J=>?_;subst J;refine Tot.bind (P:=fun l=>l=a++(b++c)) (Tot.idx 3 (fun l i=>l=((([a,b,c]:List qj).take i).flatten)) xAb (fun i l i0 hi h64 hI=>?_) (fun l hI=>?_) rfl) fun l hl=>.ret hl
  ·show Tot (eH none [a,b,c] i l) _;unfold eH;have L:=g i i0 hi;have z:l.length≤2000∧l++([a,b,c]:List qj).getD i.toNat []=(([a,b,c]:List qj).take (i.toNat+1)).flatten:=by
    rw[hI];rcases (by omega:i=0∨i=1∨i=2) with rfl|rfl|rfl
    all_goals grind
   exact .ite (fun hh=>.ck ⟨i0,hh⟩ (.ck (by omega) (.ck h64 (.ret ⟨rfl,z.2⟩)))) fun hh=>absurd hi hh
  simp_all[Tot,eH,ite,absurd]
def nmS(s:aDS):List qd:=s.2.1.map (·.1)++(s.2.2.1.map (·.1)++s.2.2.2.1)
abbrev TLk:Type:=List Nat×List Nat×List Nat×List Nat×Unit
structure bAH(s:TSc):Prop where
 e:T8 s.2.2.2.2.1
 h0:T8 s.2.2.2.2.2.1
 hm:T8 s.2.2.2.2.2.2.1
 t:T8 s.2.2.2.2.2.2.2.1
 sb:s.2.2.2.2.2.2.2.2.1.length≤4000∧ ∀a∈s.2.2.2.2.2.2.2.2.1,bDc a
 l:s.2.2.2.2.2.2.2.2.2.1.length≤4000
theorem bKc(s:TSc)(h:bAH s)(w:List Nat):Tot (rQ none s w) (fun r=>r<0∨((0≤r∧r<s.2.2.2.2.2.2.2.2.1.length)∧(s.2.2.2.2.2.2.2.2.1.getD r.toNat ([],[],[],[],[],())).1=w)):=by
 unfold rQ;refine Tot.bind (P:=fun e=>match e with| .inl _=>True| .inr r=>(0≤r∧r<s.2.2.2.2.2.2.2.2.1.length)∧(s.2.2.2.2.2.2.2.2.1.getD r.toNat ([],[],[],[],[],())).1=w) (Tot.idx1 s.2.2.2.2.2.2.2.2.1.length (by have:=h.sb.1; omega) (fun i i0 hi h64=>?_) ?_) fun e he=>?_
 ·unfold rE;exact .ite (fun _=>.ck ⟨i0,hi⟩ (.ite (fun f=>.ret ⟨⟨i0,hi⟩,f⟩) fun _=>.ck h64 (.ret rfl))) fun hh=>absurd hi hh
 ·unfold rE;exact zac
 ·cases e with
  | inl u=>exact .ret (.inl xAb)
  | inr r=>exact .ret (.inr he)
theorem bMa(l:List (List Nat×Ex×Unit))(k:List TLk)(hk:0<k.length)(f:l.length≤4000):Tot (aV none l (k,())) (fun b=>b=true→ ∃o∈l,o.1=(k.getD 0 ([],[],[],[],())).2.2.2.1):=by
 unfold aV bT;refine Tot.bind (P:=fun r:Int=>0≤r→ ∃o∈l,o.1=(k.getD 0 ([],[],[],[],())).2.2.2.1) (Tot.bind (P:=fun e=>match e with| .inl _=>True| .inr r=>∃o∈l,o.1=(k.getD 0 ([],[],[],[],())).2.2.2.1) (Tot.idx1 l.length (by omega) (fun i i0 hi h64=>?_) ?_) fun e he=>?_) fun v hv=>.ret fun h=>hv (of_decide_eq_true h)
 ·unfold bL;refine .ite (fun _=>.ck ⟨i0,hi⟩ ?_) fun h=>absurd hi h;refine Tot.bind (P:=fun b=>b=true→(l.getD i.toNat ([],(Ex.mk 0 [] []),())).1=(k.getD 0 ([],[],[],[],())).2.2.2.1) ?_ fun v hv=>.ite (fun ht=>.ret ⟨_,fK _ (by omega),hv ht⟩) fun _=>.ck h64 (.ret rfl);unfold pE;exact .ck (by simp_all) (.ret fun h=>of_decide_eq_true h)
 ·unfold bL;exact .ite (fun h=>absurd h (by omega)) fun _=>.ret trivial
 ·cases e with
  | inl u=>exact .ret fun h=>absurd h xAb
  | inr r=>exact .ret fun _=>he
def kS(x:aDS):List wv:=x.2.2.2.1.map fun u=>(x.1,u)
def kL(l:TLk):List Nat×List Nat:=(l.1,l.2.1)
def GdL(s:TSc)(a:TLk):Prop:=∃y∈s.2.2.2.2.2.2.2.2.1,a.2.2.1=y.1∧ ∃o∈y.2.2.2.2.1,o.1=a.2.2.2.1
def Met(s:TSc)(l:List TLk)(f:List wv):Prop:=∃d,s.2.2.2.2.2.2.2.2.2.1=d++l∧d.map kL=f∧ ∀a∈d,GdL s a
theorem Met.step{s:TSc}{l:List TLk}{f:List wv}(h:Met s l f)(hl:0<l.length){w u:List Nat}(q:(l.getD 0 ([],[],[],[],())).1=w)(z:(l.getD 0 ([],[],[],[],())).2.1=u)(h3:GdL s (l.getD 0 ([],[],[],[],()))):Met s (l.drop 1) (f++ [(w,u)]):=by
 obtain⟨d,e1,g,I⟩:=h;cases l with
 | nil=>simp_all
 | cons a l =>
  refine⟨d++ [a],by simp_all,?_,fun b hb=>?_⟩
  ·rw[List.map_append,g,← q,← z];rfl
  grind
theorem bER(s:TSc)(h:bAH s):Tot (iC none s) (fun b=>b=true→s.2.2.2.2.2.2.2.2.2.1.map kL=s.2.2.2.2.2.2.2.2.1.flatMap kS∧ ∀a∈s.2.2.2.2.2.2.2.2.2.1,GdL s a):=by
 have hs:=h.sb.1;unfold iC;refine Tot.bind (P:=fun e=>match e with| .inl l=>Met s l (s.2.2.2.2.2.2.2.2.1.flatMap kS)| .inr b=>b=false) (Tot.idx s.2.2.2.2.2.2.2.2.1.length (fun l i=>Met s l ((s.2.2.2.2.2.2.2.2.1.take i).flatMap kS)) (by omega) (fun i l i0 hi h64 hI=>?_) (fun l hI=>?_) ⟨[],rfl,rfl,fun a ha=>by cases ha⟩) fun e he=>?_
 ·show Tot (dV none s i l) _;unfold dV;refine .ite (fun _=>.ck ⟨i0,hi⟩ ?_) fun hh=>absurd hi hh;have hiN:i.toNat<s.2.2.2.2.2.2.2.2.1.length:=by omega
  have g:=h.sb.2 _ (fK (([]:List Nat),([]:List qv),([]:List we),([]:List qd),([]:List qq),()) hiN);have Y:=g.u.1;refine Tot.bind (P:=fun e=>match e with| .inl l=>Met s l ((s.2.2.2.2.2.2.2.2.1.take (i.toNat+1)).flatMap kS)| .inr b=>b=false) (Tot.idx (s.2.2.2.2.2.2.2.2.1.getD i.toNat ([],[],[],[],[],())).2.2.2.1.length (fun k j=>Met s k ((s.2.2.2.2.2.2.2.2.1.take i.toNat).flatMap kS++((s.2.2.2.2.2.2.2.2.1.getD i.toNat ([],[],[],[],[],())).2.2.2.1.take j).map fun u=>((s.2.2.2.2.2.2.2.2.1.getD i.toNat ([],[],[],[],[],())).1,u))) (Nat.le_trans Y xAb) (fun j k j0 L I hJ=>?_) (fun k hJ=>?_) (by simp_all)) fun e he=>?_
  ·show Tot (dU none s i j k) _;unfold dU;refine .ite (fun _=>.ck ⟨j0,L⟩ (.ck (fun _=>by omega) (.ck (fun _=>by omega) (.ite (fun _=>.ret rfl) fun J=>?_)))) fun hh=>absurd L hh;have hk:0<k.length:=by
    omega
   have W:(k.getD 0 ([],[],[],[],())).1=_:=Classical.not_not.1 fun q=>J (.inl (.inr q));have U:(k.getD 0 ([],[],[],[],())).2.1=_:=Classical.not_not.1 fun q=>J (.inr q);refine .ck (by omega) ((bKc s h _).bind fun v hv=>?_);have N:¬v<0→Tot (aV none (s.2.2.2.2.2.2.2.2.1.getD v.toNat ([],[],[],[],[],())).2.2.2.2.1 (k,())) (fun b=>b=true→ ∃o∈(s.2.2.2.2.2.2.2.2.1.getD v.toNat ([],[],[],[],[],())).2.2.2.2.1,o.1=(k.getD 0 ([],[],[],[],())).2.2.2.1):=fun f=>bMa _ k hk (h.sb.2 _ (fK _ (by omega))).o.1;refine .ck (fun _=>by omega) (.ck (fun f=>(N f).aOB) (.ite (fun _=>.ret rfl) fun hq=>.ck (by omega) (.ck I (.ret ⟨rfl,?_⟩))));have f:¬v<0:=fun q=>hq (.inl q);have z:=hv.resolve_left f;have O:GdL s (k.getD 0 ([],[],[],[],())):=⟨_,fK (([]:List Nat),([]:List qv),([]:List we),([]:List qd),([]:List qq),()) (show v.toNat<_ by omega),z.2.symm,(N f).get false (Classical.not_not.1 fun q=>hq (.inr q))⟩;have:=hJ.step hk W U O;rw[eP ([]:List Nat) (show j.toNat<_ by omega),List.map_append,← List.append_assoc];exact this
  ·show Tot (dU none s i _ k) _;exact zad
  ·cases e with
   | inl k=>exact .ck h64 (.ret ⟨rfl,he⟩)
   | inr b=>exact .ret he
 ·show Tot (dV none s _ l) _;unfold dV;exact za0
 ·cases e with
  | inl l =>
   refine .ret fun hb=>?_;obtain⟨d,e1,Z,e3⟩:=he;simp_all
  | inr b=>exact .ret fun h=>by simp_all
theorem bGr(f:Ex→Nat):∀ {l:List Ex} {x:Ex},x∈l→f x≤mxN f l
 | y::l,x,h=>by
  show f x≤max (f y) (mxN f l);rcases List.mem_cons.1 h with rfl|h
  ·omega
  ·exact Nat.le_trans (bGr f h) (Nat.le_max_right _ _)
theorem aYO{f g:Ex→Nat}:∀ {l:List Ex},(∀x∈l,f x=g x)→aAE f l=aAE g l
 | [],_=>rfl
 | y::l,h=>by
  show f y+aAE f l=g y+aAE g l;rw[h y (.head _),aYO fun x hx=>h x (.tail _ hx)]
theorem bAI:∀(n m:Nat) (e:Ex),fits n e→ht n e≤m→fits m e∧nd m e=nd n e
 | 0,m,e,g,_=>g.elim
 | n+1,0,e,g,h=>by
  have:ht (n+1) e=1+mxN (ht n) e.l:=rfl;omega
 | n+1,m+1,e,⟨q,z,h3⟩,h=>by
  have hh:ht (n+1) e=1+mxN (ht n) e.l:=rfl;have f:∀x∈e.l,fits m x∧nd m x=nd n x:=fun x hx=>bAI n m x (h3 x hx) (by grind[bGr,ht]);refine⟨⟨q,z,fun x hx=>(f x hx).1⟩,?_⟩;grind[aAE,nd,aYO]
theorem bAJ{D E:Type}{step:D→Option (D⊕E)}{d f:D}{r:E}(h:step d=some (.inl f))(g:aGG step f=some r):aGG step d=some r:=by
 obtain⟨n,q⟩:=aYz.1 g;exact aA5 (n:=n+1) (by grind[iter])
theorem aVZ{D E:Type}{step:D→Option (D⊕E)}{d:D}{r:E}(h:step d=some (.inr r)):aGG step d=some r:=aA5 (n:=1) (by rw[iter,h])
theorem ify{α:Type}{p:Prop}{i:Decidable p}{x y r:α}(hp:p)(h:x=r): @ite α p i x y=r:=(if_pos hp).trans h
theorem ifn{α:Type}{p:Prop}{i:Decidable p}{x y r:α}(hp:¬p)(h:y=r): @ite α p i x y=r:=(if_neg hp).trans h
def aYP(c:Nat):Bool:=decide (97≤c∧c≤122)
def mP(c:Nat):Bool:=aYP c||oX c||c == 95
def bOz(w:List Nat):Option Int:=if w= [115,113,114] then some 11 else if w= [115,113,114,116] then some 12 else if w= [101,120,112] then some 13 else none
def bNS(t:List Nat):Prop:=(∃c r,t=c::r∧aYP c=true)∧(∀c∈t,mP c=true)∧bOz t=none
def par(b:Prop)[Decidable b](t:List Nat):List Nat:=if b then [40]++(t++ [41]) else t
abbrev aCe(e:Ex):Prop:=e.kind=6∨e.kind=7
abbrev wY(e:Ex):Prop:=6≤e.kind∧e.kind≤9
abbrev kid(e:Ex)(i:Nat):Ex:=e.l.getD i (Ex.mk 0 [] [])
def fnT(k:Int):List Nat:=if k=11 then [115,113,114] else if k=12 then [115,113,114,116] else [101,120,112]
def sgT(k:Int):Nat:=if k=6 then 43 else if k=7 then 45 else if k=8 then 42 else 47
def tx:Nat→Ex→List Nat
 | 0,_=>[]
 | n+1,e =>
  if e.kind=6∨e.kind=7 then tx n (kid e 0)++([32,sgT e.kind,32]++par (aCe (kid e 1)) (tx n (kid e 1)))
  else if e.kind=8∨e.kind=9 then par (aCe (kid e 0)) (tx n (kid e 0))++([32,sgT e.kind,32]++par (wY (kid e 1)) (tx n (kid e 1)))
  else if e.kind=10 then [45]++par (wY (kid e 0)) (tx n (kid e 0))
  else if 11≤e.kind∧e.kind≤13 then fnT e.kind++par True (tx n (kid e 0))
  else e.text
theorem bDd{D E:Type}{step:D→Option (D⊕E)}{I:D→Prop}{Q:E→Prop}(q:∀d g,I d→step d=some (.inl g)→I g)(J:∀d e,I d→step d=some (.inr e)→Q e){d:D}{e:E}(hi:I d)(h:aGG step d=some e):Q e:=by
 obtain⟨n,f⟩:=aYz.1 h;clear h
 induction n generalizing d with
 | zero=>cases f
 | succ n z =>
  rw[iter] at f;grind
theorem bNT:∃A:List Bool,dD none (aI aA8)=some (A,true,())∧ ∀c,A.getD c false=true→mP c=true:=by
 refine⟨(List.range 256).map mP,?_,fun c hc=>?_⟩
 ·unfold dD;refine aJ (a:=.inl ((List.range 256).map mP)) (aA5 (n:=100) (by rfl)) rfl
 grind
theorem aRM{A:List Bool}{c:Nat}{v:Bool}(h:bV none A c=some v):v=A.getD c false:=by
 grind[bV,Option.some.inj,bE]
theorem bKd{s:List Nat}(hs:s≠ [])(h:gY none s (aI aA8)=some []):∀c∈s,mP c=true:=by
 obtain⟨A,Z,hm⟩:=bNT;unfold gY at h;have h:=iW (by
  grind) h
 obtain⟨_,h⟩:=bE h;have h:=iW xAb h;rw[Z] at h;have h:(cM none s A).bind (fun g=>(dH none g A).bind (fun q=>some q))=some []:=h;obtain⟨v1,e1,h⟩:=bind_some h;obtain⟨v2,N,h⟩:=bind_some h;obtain rfl:=Option.some.inj h;unfold cM at e1;obtain⟨z,O,U⟩:=bind_some e1;obtain rfl:=Option.some.inj U;unfold dH at N;obtain⟨w2,W,Y⟩:=bind_some N;obtain rfl:=Option.some.inj Y;have a1:∃t,s=z++t∧ ∀c∈t,mP c=true:=by
  refine bDd (I:=fun d=>∃t,s=d++t∧ ∀c∈t,mP c=true) (Q:=fun d=>∃t,s=d++t∧ ∀c∈t,mP c=true) ?_ ?_ ⟨[],by simp,fun c hc=>by cases hc⟩ O
  ·rintro d L ⟨t,rfl,ht⟩ hd;have hd:bW none A d=some (.inl L):=hd;unfold bW at hd;split at hd
   ·rename_i h0;obtain⟨_,hd⟩:=bE hd;obtain⟨_,hd⟩:=bE hd;obtain⟨v,hv,hd⟩:=bind_some hd;split at hd
    ·simp_all
    ·rename_i f;obtain⟨_,hd⟩:=bE hd;obtain⟨_,hd⟩:=bE hd;have hd:=Option.some.inj hd
     injection hd with hd
     subst hd;have e:(d.length:Int)-(1:Int)=((d.length-1:Nat):Int):=(by omega);rw[e,Int.toNat_natCast] at hv ⊢;have hv:=aRM hv;have f:v=true:=Classical.not_not.1 f;rw[f] at hv;have hx:=hm _ hv.symm;have hl:d=d.take (d.length-1)++ [d.getD (d.length-1) 0]:=by
      have:=take_succ (show d.length-1<d.length by omega);grind
     refine⟨d.getD (d.length-1) 0::t,?_,fun c hc=>?_⟩
     ·conv=>lhs; rw[hl]
      simp
     grind
   simp_all
  ·rintro d e ⟨t,rfl,ht⟩ hd;have hd:bW none A d=some (.inr e):=hd;have:e=d:=by
    unfold bW at hd;split at hd
    ·obtain⟨_,hd⟩:=bE hd;obtain⟨_,hd⟩:=bE hd;obtain⟨v,hv,hd⟩:=bind_some hd;split at hd
     all_goals grind[Option.some.inj,bE]
    simp_all
   simp_all
 have a2:∀c∈z,mP c=true:=by
  have:∃t,z=t++ []∧ ∀c∈t,mP c=true:=by
   refine bDd (I:=fun d=>∃t,z=t++d∧ ∀c∈t,mP c=true) (Q:=fun d=>∃t,z=t++d∧ ∀c∈t,mP c=true) ?_ ?_ ⟨[],rfl,fun c hc=>by cases hc⟩ W
   ·rintro d L ⟨t,J,ht⟩ hd;have hd:cQ none A d=some (.inl L):=hd;unfold cQ at hd;split at hd
    ·rename_i h0;obtain⟨_,hd⟩:=bE hd;obtain⟨v,hv,hd⟩:=bind_some hd;split at hd
     ·simp_all
     ·rename_i f;obtain⟨_,hd⟩:=bE hd;have hd:=Option.some.inj hd
      injection hd with hd
      subst hd;have hv:=aRM hv;have f:v=true:=Classical.not_not.1 f;rw[f] at hv;have hx:=hm _ hv.symm;cases d with
      | nil=>grind
      | cons x u =>
       refine⟨t++ [x],by grind,fun c hc=>?_⟩;grind
    simp_all
   ·rintro d e ⟨t,J,ht⟩ hd;have hd:cQ none A d=some (.inr e):=hd;have:e=d:=by
     unfold cQ at hd;split at hd
     ·obtain⟨_,hd⟩:=bE hd;obtain⟨v,hv,hd⟩:=bind_some hd;grind[Option.some.inj,bE]
     simp_all
    simp_all
  simp_all
 grind
theorem bMb{w:List Nat}(h:cR none w=some true):bNS w:=by
 unfold cR at h;obtain⟨_,h⟩:=bE h;obtain⟨_,h⟩:=bE h;split at h
 ·simp_all
 ·rename_i z;obtain⟨v,hv,h⟩:=bind_some h;obtain⟨_,h⟩:=bE h;obtain⟨_,h⟩:=bE h;have h:=Option.some.inj h;rw[Bool.and_eq_true] at h;obtain⟨f,q⟩:=h;obtain rfl:v= []:=of_decide_eq_true f;cases w with
  | nil=>simp_all
  | cons c u =>
   have hc:97≤c∧c≤122:=by
    simp_all
   refine⟨⟨c,u,rfl,decide_eq_true hc⟩,bKd (List.cons_ne_nil _ _) hv,?_⟩;have g:gI none=some [[116],[115,113,114],[115,113,114,116],[101,120,112],[112,114,101,99],[101,110,100],[115,116,101,112],[116,111,108],[116,114,105,101,115],[111,114,100,101,114],[106,97,99,111,98,105],[115,101,105,100,101,108],[115,117,98],[115,116,97,116,101],[112,97,114],[105,110],[111,117,116],[100,101,114],[108,105,110,107]]:=(by rfl);rw[g,Option.getD_some,contains_eq _ _ xAb,Option.getD_some,Bool.not_eq_true',decide_eq_false_iff_not] at q;simp_all[bOz,if_neg]
theorem aTL{x y i j:Nat}(hy:y≠0)(h:bl x+i<bl y+j):x*2^i<y*2^j:=by
 have f:=aZF hy;have g:=aYC x;have I:=aZE hy;have e1:x*2^i<2^(bl x+i):=by
  rw[Nat.pow_add]; exact Nat.mul_lt_mul_of_pos_right g (Nat.two_pow_pos _)
 have q:2^(bl y-1+j)≤y*2^j:=by
  rw[Nat.pow_add]; exact Nat.mul_le_mul_right _ f
 have z:=p2m (bl x+i) (bl y-1+j) (by omega);omega
theorem bDe(x y:Nat){c:Nat}(h:0<c):xP (x*c) (y*c)=xP x y:=by
 unfold xP;by_cases f:x<y
 ·rw[if_pos f,if_pos (Nat.mul_lt_mul_of_pos_right f h)]
 ·rw[if_neg f,if_neg (fun hh=>f (Nat.lt_of_mul_lt_mul_right hh))];by_cases g:x=y
  ·rw[if_pos g,if_pos (by rw[g])]
  ·rw[if_neg g,if_neg (fun hh=>g (Nat.eq_of_mul_eq_mul_right h hh))]
theorem bGs{x y:Nat}(h:x<y):xP x y= -1:=by unfold xP; rw[if_pos h]
theorem bGt{x y:Nat}(h:y<x):xP x y=1:=by unfold xP; rw[if_neg (by omega),if_neg (by omega)]
theorem bAK{x y:Nat}:xP x y≤0↔x≤y:=by
 unfold xP;grind
structure Vl(d:Dy)(M:Nat)(e:Int):Prop where
 may:aIa d=true
 neg:d.1=false
 ne:d.2.1.length≠0
 lm:Lm d.2.1
 lo: -400≤d.2.2.1
 v:nv d.2.1*2^(d.2.2.1+400).toNat=M*2^(e+400).toNat
theorem bAL{M:Nat}{e:Int}(h0:M≠0)(hM:M<2^2000)(he: -400≤e∧e≤9000):Vl (eI M e) M e:=by
 obtain⟨q,I⟩:=aIb h0;have z:=aJZ h0 hM;have hm:=bJZ hM xAb (show -1000000≤e∧e≤1000000 by omega);have g:eI M e=(false,lb (M/2^tzn M),e+(tzn M:Int),()):=if_neg h0;rw[g] at hm ⊢;have f:M/2^tzn M≠0:=by omega
 refine⟨hm,rfl,fun h=>f (aPM.1 (List.eq_nil_of_length_eq_zero h)),aK4 _,by show -400≤e+(tzn M:Int); omega,?_⟩;show nv (lb (M/2^tzn M))*2^(e+(tzn M:Int)+400).toNat=_;rw[uI,show (e+(tzn M:Int)+400).toNat=tzn M+(e+400).toNat from by omega,Nat.pow_add,← Nat.mul_assoc,q]
theorem sign_eq{d:Dy}(hm:aIa d=true)(f:d.1=false):gS none d=some (if d.2.1.length=0 then 0 else 1):=by
 unfold gS;refine aJ (aMG d) ?_;by_cases h:d.2.1.length=0
 ·rw[if_pos (.inr (by omega)),if_pos h]
 ·rw[if_neg (by rw[hm]; rintro (hh|hh); exact hh rfl; omega),if_neg (by rw[f]; decide),if_neg h]
theorem bKe{a b:Dy}{M N:Nat}{i j:Int}(ha:Vl a M i)(hb:Vl b N j):uY none a b=some (xP (M*2^(i+400).toNat) (N*2^(j+400).toNat)):=by
 obtain⟨f,I,q,Z,a5,J⟩:=ha;obtain⟨b1,U,g,W,b5,b6⟩:=hb;have z:=sign_eq f I;have sb:=sign_eq b1 U;rw[if_neg q] at z;rw[if_neg g] at sb;have Y:nv a.2.1≠0:=by
  have:=aBe (pF f).2.1 fun h=>q (by rw[h]; rfl);omega
 have O:nv b.2.1≠0:=by
  have:=aBe (pF b1).2.1 fun h=>g (by rw[h]; rfl);omega
 rw[← J,← b6];unfold uY;refine aJ z (aJ sb (aJ (aMG a) (aC (fun _=>by rw[aMG]; rfl) ?_)));rw[aMG,Option.getD_some,f,b1];refine ifn xAg (ifn xAg (ifn xAg (ifn xAb (aJ (size_eq a b Z W f b1) ?_))));have hr:=bC9 a b;refine aC (by rw[Int.one_mul]; omega) (congrArg some ?_);rw[Int.one_mul];unfold aYN;simp only;by_cases hx:(bl (nv a.2.1):Int)+a.2.2.1<(bl (nv b.2.1):Int)+b.2.2.1
 ·rw[if_pos hx,bGs (aTL O (by omega))]
 ·rw[if_neg hx];by_cases hy:(bl (nv b.2.1):Int)+b.2.2.1<(bl (nv a.2.1):Int)+a.2.2.1
  ·rw[if_pos hy,bGt (aTL Y (by omega))]
  ·rw[if_neg hy];have e1:(a.2.2.1+400).toNat=(a.2.2.1-min a.2.2.1 b.2.2.1).toNat+(min a.2.2.1 b.2.2.1+400).toNat:=(by omega);have L:(b.2.2.1+400).toNat=(b.2.2.1-min a.2.2.1 b.2.2.1).toNat+(min a.2.2.1 b.2.2.1+400).toNat:=(by omega);rw[e1,L,Nat.pow_add,Nat.pow_add,← Nat.mul_assoc,← Nat.mul_assoc,bDe _ _ (Nat.two_pow_pos _)]
theorem bMc{M K:Nat}{e:Int}(hM:M<2^K)(f:K≤4096)(he: -1000000≤e∧e≤1000000):bAB false M e= .inl (eI M e):=by
 unfold bAB eI;by_cases h0:M=0
 ·rw[if_pos h0,if_pos h0]
 ·have g:=aJZ h0 hM;have hl:(lb (M/2^tzn M)).length≤64:=by
   exact aBS.2 (bC7 64 (Nat.lt_of_le_of_lt (Nat.div_le_self _ _) hM) (by omega))
  rw[if_neg h0,if_neg h0,if_neg (by omega),if_neg (by omega),if_neg (by omega)]
theorem of_eq(n:Nat)(h:n<2^60):aEY none (n:Int) 0=some (eI n 0,0,()):=by
 unfold aEY;refine ifn (by omega) ?_;unfold zJ;have e:((n:Int)%18446744073709551616).toNat=n:=by omega
 have hl:(sC [n]).length≤1:=by
  refine aBS.2 ?_;have:nv [n]=n:=by simp[nv]
  omega
 have f:nv (sC [n])=n:=by
  show nv (lb (nv [n]))=n;rw[uI];simp[nv]
 rw[e];refine aC (by simp_all) ?_;rw[bJX _ _ _ (show Lm (sC [n]) from aK4 _) (aFe _) (by omega),f,decide_eq_false (by omega:¬(n:Int)<0),bGj (K:=60) h xAb xAb];rfl
theorem mul_eq{a b:Dy}(ha:aIa a=true)(hb:aIa b=true)(q:a.1=false)(g:b.1=false)(L:Lm a.2.1)(z:Lm b.2.1)(hM:nv a.2.1*nv b.2.1<2^2000)(he: -3000≤a.2.2.1∧a.2.2.1≤3000)(Z: -3000≤b.2.2.1∧b.2.2.1≤3000):aCM none a b=some (eI (nv a.2.1*nv b.2.1) (a.2.2.1+b.2.2.1),0,()):=by
 obtain⟨Y,I,N,W⟩:=pF ha;obtain⟨b1,O,J,U⟩:=pF hb;have e1:rI none a b=some (.inl (eI (nv a.2.1*nv b.2.1) (a.2.2.1+b.2.2.1))):=by
  unfold rI;have ht:bY a.2.1 b.2.1=lb (nv a.2.1*nv b.2.1):=rfl;have hl:(lb (nv a.2.1*nv b.2.1)).length≤64:=aBS.2 (bC7 64 hM xAb);refine aC ⟨by omega,by omega⟩ (aC (by omega) (aJ (a:=.inl (eI (nv a.2.1*nv b.2.1) (a.2.2.1+b.2.2.1))) ?_ rfl));rw[ht,bJV _ _ _ (aK4 _) (aFe _) (by omega),uI,q,g];exact congrArg some (bMc hM xAb (by omega))
 have f:fP none a b ()=some (.inl (eI (nv a.2.1*nv b.2.1) (a.2.2.1+b.2.2.1))):=by
  unfold fP;rw[aMG,aMG];refine aC rfl (ify ha (aC rfl ?_));rw[aTJ (by simp[ha,hb])];exact aJ rfl (aJ e1 rfl)
 unfold aCM kW cG;refine aJ (a:=(eI (nv a.2.1*nv b.2.1) (a.2.2.1+b.2.2.1),(0:Int),())) (aC (by rw[f]; rfl) (congrArg some ?_)) rfl;rw[f];rfl
theorem bKf(k:Nat){a b m n:Nat}(f:a<2^m)(g:b<2^n)(h:m+n≤k):a*b<2^k:=by
 refine Nat.lt_of_lt_of_le ?_ (p2m (m+n) k h);rw[Nat.pow_add];exact Nat.mul_lt_mul'' f g
structure Vs(d:Dy)(M:Nat)(e:Int):Prop extends Vl d M e where
 hM:nv d.2.1<2^1000
 hi:d.2.2.1≤2000
theorem bMd{M:Nat}{e:Int}(h0:M≠0)(hM:M<2^900)(he: -400≤e∧e≤1000):Vs (eI M e) M e:=by
 have g:M<2^1000:=aHb 1000 hM xAb;refine⟨bAL h0 (aHb 2000 hM xAb) (by omega),?_,?_⟩
 ·have f:eI M e=(false,lb (M/2^tzn M),e+(tzn M:Int),()):=if_neg h0;rw[f];show nv (lb _)<_;rw[uI];exact Nat.lt_of_le_of_lt (Nat.div_le_self _ _) g
 ·have f:eI M e=(false,lb (M/2^tzn M),e+(tzn M:Int),()):=if_neg h0;have q:=aJZ h0 hM;rw[f];show e+(tzn M:Int)≤2000;omega
theorem bGu{a b:Dy}{M N:Nat}{i j:Int}(ha:Vs a M i)(hb:Vs b N j)(n:Nat)(h0:n≠0)(I:n<2^60):eE none a b (n:Int)=some (decide (M*2^(i+400).toNat≤N*n*2^(j+400).toNat)):=by
 have hk:=bAL (M:=n) (e:=0) h0 (aHb 2000 I xAb) xAb;have z:eI n 0=(false,lb (n/2^tzn n),0+(tzn n:Int),()):=if_neg h0;have Z:=aJZ h0 I;obtain⟨W,p2⟩:=aIb h0;have f:nv (eI n 0).2.1=n/2^tzn n:=by rw[z]; exact uI _
 have L:(eI n 0).2.2.1=(tzn n:Int):=by rw[z]; show 0+(tzn n:Int)=_; omega
 have q:n/2^tzn n<2^60:=Nat.lt_of_le_of_lt (Nat.div_le_self _ _) I;have hprod:nv b.2.1*nv (eI n 0).2.1<2^1060:=by
  rw[f];exact bKf 1060 hb.hM q xAb
 have J:nv b.2.1≠0:=by
  have:=aBe (pF hb.may).2.1 fun h=>hb.ne (by rw[h]; rfl);omega
 have U:=hb.lo;have Y:=hb.hi;have g:=mul_eq hb.may hk.may hb.neg hk.neg hb.lm hk.lm (aHb 2000 hprod xAb) (by omega) (by omega);unfold eE;refine aJ (of_eq n I) (aJ g ?_);have O:nv b.2.1*nv (eI n 0).2.1≠0:=Nat.mul_ne_zero J (by rw[f]; omega);have hx:=bAL (M:=nv b.2.1*nv (eI n 0).2.1) (e:=b.2.2.1+(eI n 0).2.2.1) O (aHb 2000 hprod xAb) (by omega);have hy:Vl (eI (nv b.2.1*nv (eI n 0).2.1) (b.2.2.1+(eI n 0).2.2.1)) (N*n) j:=by
  refine⟨hx.may,hx.neg,hx.ne,hx.lm,hx.lo,hx.v.trans ?_⟩;rw[L,f,show (b.2.2.1+(tzn n:Int)+400).toNat=(b.2.2.1+400).toNat+tzn n from by omega,Nat.pow_add,Nat.mul_mul_mul_comm,hb.v,W,Nat.mul_right_comm]
 have hc:=bKe ha.toVl hy;refine aC (fun _=>by rw[hc]; rfl) ?_;rw[hc];show some (decide ((0:Int)=0)&&decide (xP _ _≤0))=_;simp[bAK]
def exM(w:List Nat):Nat:=exN w/exD w
def exE(w:List Nat):Int:=(cK w).2.1
def aKS(w:List Nat):Prop:=fm w=true∧exN w%exD w=0∧exM w≠0
def mag(w:List Nat):Nat:=exM w*2^(exE w+400).toNat
theorem aCf{w:List Nat}(h:aKS w):yQ w=(eI (exM w) (exE w),0,())∧Vs (eI (exM w) (exE w)) (exM w) (exE w):=by
 obtain⟨g,q,h3⟩:=h;refine⟨?_,bMd h3 (Nat.lt_of_le_of_lt (Nat.div_le_self _ _) (bJ2 w)) ?_⟩
 ·unfold yQ;rw[if_neg (fun f=>f g),if_neg (fun f=>f q)];rfl
 ·have:=sN w;unfold bJ0 at this;unfold exE;omega
theorem bHE(w:List Nat):((yQ w).2.1=0∧ ∃v,gS none (yQ w).1=some v∧0<v)↔aKS w:=by
 constructor
 ·rintro⟨g,v,f,h3⟩;unfold yQ at g f;split at g
  ·exact absurd (show (6:Int)=0 from g) xAb
  ·rename_i z;rw[if_neg z] at f;split at g
   ·exact absurd (show (6:Int)=0 from g) xAb
   ·rename_i q;rw[if_neg q] at f;refine⟨Classical.not_not.1 z,Classical.not_not.1 q,fun h0=>?_⟩;have e:gS none (eI (exN w/exD w) (cK w).2.1)=some 0:=by
     rw[show exN w/exD w=0 from h0,show eI 0 (cK w).2.1=d0 from if_pos rfl];exact sign_eq (d:=d0) rfl rfl
    have f:gS none (eI (exN w/exD w) (cK w).2.1)=some v:=f;rw[e] at f;have:=Option.some.inj f;omega
 ·intro h;obtain⟨g,f⟩:=aCf h;rw[g];refine⟨rfl,1,?_,by decide⟩;have:=sign_eq f.may f.neg;rw[if_neg f.ne] at this;exact this
def bKg(s:TSc):Prop:=((8≤s.1∧s.1≤200)∧(1≤s.2.1∧s.2.1≤20)∧(0≤s.2.2.1∧s.2.2.1≤3)∧(s.2.2.2.1=1∨s.2.2.2.1=2))∧(aKS s.2.2.2.2.1∧aKS s.2.2.2.2.2.1∧aKS s.2.2.2.2.2.2.1∧aKS s.2.2.2.2.2.2.2.1) ∧
 mag s.2.2.2.2.2.2.1≤mag s.2.2.2.2.2.1∧mag s.2.2.2.2.1≤256*mag s.2.2.2.2.2.1∧mag s.2.2.2.2.2.1≤4096*mag s.2.2.2.2.2.2.1
theorem bDf(s:TSc)(h1:s.2.2.2.2.1.length≤9223372036854775807)(h2:s.2.2.2.2.2.1.length≤9223372036854775807)(h3:s.2.2.2.2.2.2.1.length≤9223372036854775807)(h4:s.2.2.2.2.2.2.2.1.length≤9223372036854775807):Tot (rD none s) (fun b=>b=true↔bKg s):=by
 unfold rD;refine .ite (fun Z=>.ret ⟨fun h=>(by cases h),fun h=>(by have:=h.1; omega)⟩) fun Z=>?_;generalize ht:([s.2.2.2.2.1,s.2.2.2.2.2.1,s.2.2.2.2.2.2.1,s.2.2.2.2.2.2.2.1]:List qd)=T;have hT:T.length=4:=by rw[← ht]; rfl
 refine Tot.bind (P:=fun e=>match e with| .inl l=>l=T.map (fun w=>eI (exM w) (exE w))∧ ∀w∈T,aKS w| .inr b=>b=false∧ ¬ ∀w∈T,aKS w) ?_ fun e he=>?_
 ·refine Tot.loop (fun d:Int×List Dy=>0≤d.1∧d.1≤4∧d.2=(T.take d.1.toNat).map (fun w=>eI (exM w) (exE w))∧ ∀w∈T.take d.1.toNat,aKS w) (fun d=>(4-d.1).toNat) ?_ ⟨by decide,by decide,rfl,fun w J=>by cases J⟩;rintro⟨i,l⟩ ⟨i0,i1,I,L⟩;have i0:0≤i:=i0;have i1:i≤4:=i1;have ej:(i+1).toNat=i.toNat+1:=by omega
  have I:l=(T.take i.toNat).map (fun w=>eI (exM w) (exE w)):=I;have L:∀w∈T.take i.toNat,aKS w:=L;have hl:l.length=i.toNat:=by rw[I,List.length_map,List.length_take]; omega
  show Tot (qC none s i l) _;unfold qC;rw[ht];refine .ite (fun hi=>.ck ⟨i0,hi⟩ ?_) fun hi=>.ret ?_
  ·have hiN:i.toNat<T.length:=(by omega);have hx:(T.getD i.toNat []).length≤9223372036854775807:=by
    rw[← ht];grind
   have f:=fK ([]:List Nat) hiN;have z:=eP ([]:List Nat) hiN;generalize J:T.getD i.toNat []=w at hx f z;refine(Tot.of (P:=fun r=>r=yQ w) (bJ3 w hx) rfl).bind fun v hv=>?_;subst hv;refine .ck (fun _=>(bC8 _).aOB) ?_;obtain⟨sv,hs,_⟩:=bC8 (yQ w).1;rw[hs,Option.getD_some];have g:=bHE w;refine .ite (fun hh=>.ret ⟨rfl,fun N=>?_⟩) fun hh=>?_
   ·obtain⟨a1,v,a2,a3⟩:=g.2 (N w f);rw[hs] at a2;have:=Option.some.inj a2;exact hh.elim (fun q=>q a1) fun q=>by omega
   ·have ok:aKS w:=g.1 ⟨Classical.not_not.1 fun q=>hh (.inl q),sv,hs,by
     have:¬sv≤0:=fun q=>hh (.inr q);omega⟩
    refine .ck (by omega) (.ck (by omega) (.ret ⟨⟨by omega,by omega,?_,?_⟩,by show (4-(i+1)).toNat<(4-i).toNat; omega⟩))
    ·show l++ [(yQ w).1]=(T.take (i+1).toNat).map _;rw[ej,z,List.map_append,← I,(aCf ok).1];rfl
    ·show ∀x∈T.take (i+1).toNat,aKS x;rw[ej,z];intro x hx;rcases List.mem_append.1 hx with hx|hx
     ·exact L x hx
     ·rw[List.mem_singleton.1 hx];exact ok
  ·have e:i=4:=(by omega);subst e;rw[show (4:Int).toNat=4 from rfl,List.take_of_length_le (by omega)] at I L;exact⟨I,L⟩
 ·cases e with
  | inr b =>
   obtain⟨rfl,Z⟩:=he;refine .ret ⟨fun h=>(by cases h),fun h=>absurd (fun w J=>?_) Z⟩;obtain⟨o1,Y,U,o4⟩:=h.2.1;rw[← ht] at J;simp only[List.mem_cons,List.not_mem_nil,or_false] at J;rcases J with rfl|rfl|rfl|rfl<;>assumption
  | inl l =>
   obtain⟨hl,O⟩:=he;have o1:=O s.2.2.2.2.1 (by rw[← ht]; simp);have Y:=O s.2.2.2.2.2.1 (by rw[← ht]; simp);have U:=O s.2.2.2.2.2.2.1 (by rw[← ht]; simp);have o4:=O s.2.2.2.2.2.2.2.1 (by rw[← ht]; simp);have v1:=(aCf o1).2;have W:=(aCf Y).2;have v3:=(aCf U).2;rw[← ht] at hl;subst hl;have hc:=bKe v3.toVl W.toVl;have n1:=bGu v1 W 256 xAb xAb;have n2:=bGu W v3 4096 xAb xAb;show Tot (lN none [eI (exM s.2.2.2.2.1) (exE s.2.2.2.2.1),eI (exM s.2.2.2.2.2.1) (exE s.2.2.2.2.2.1),eI (exM s.2.2.2.2.2.2.1) (exE s.2.2.2.2.2.2.1),eI (exM s.2.2.2.2.2.2.2.1) (exE s.2.2.2.2.2.2.2.1)]) _;unfold lN;refine .ck xAg (.ck xAg ?_);show Tot ((uY none (eI (exM s.2.2.2.2.2.2.1) (exE s.2.2.2.2.2.2.1)) (eI (exM s.2.2.2.2.2.1) (exE s.2.2.2.2.2.1))).bind _) _;rw[hc,Option.bind_some];refine .ck (fun _=>by simp) (.ck (fun _=>by simp) (.ck (fun _=>?_) (.ck (fun _=>by simp) (.ck (fun _=>by simp) (.ck (fun _=>?_) (.ret ?_))))))
   ·show (eE none (eI (exM s.2.2.2.2.1) (exE s.2.2.2.2.1)) (eI (exM s.2.2.2.2.2.1) (exE s.2.2.2.2.2.1)) ((256:Nat):Int)).isSome=true;rw[n1]; rfl
   ·show (eE none (eI (exM s.2.2.2.2.2.1) (exE s.2.2.2.2.2.1)) (eI (exM s.2.2.2.2.2.2.1) (exE s.2.2.2.2.2.2.1)) ((4096:Nat):Int)).isSome=true;rw[n2]; rfl
   ·show ((decide (xP _ _≤0)&&(eE none (eI (exM s.2.2.2.2.1) (exE s.2.2.2.2.1)) (eI (exM s.2.2.2.2.2.1) (exE s.2.2.2.2.2.1)) ((256:Nat):Int)).getD false)&&(eE none (eI (exM s.2.2.2.2.2.1) (exE s.2.2.2.2.2.1)) (eI (exM s.2.2.2.2.2.2.1) (exE s.2.2.2.2.2.2.1)) ((4096:Nat):Int)).getD false)=true↔bKg s;rw[n1,n2,Option.getD_some,Option.getD_some,Bool.and_eq_true,Bool.and_eq_true,decide_eq_true_iff,decide_eq_true_iff,decide_eq_true_iff,bAK];unfold bKg mag;rw[Nat.mul_comm 256,Nat.mul_comm 4096,Nat.mul_right_comm _ _ 256,Nat.mul_right_comm _ _ 4096];exact⟨fun h=>⟨⟨by omega,by omega,by omega,by omega⟩,⟨o1,Y,U,o4⟩,h.1.1,h.1.2,h.2⟩,fun h=>⟨⟨h.2.2.1,h.2.2.2.1⟩,h.2.2.2.2⟩⟩
def aOD(w:List Nat):Bool:=([45]:List Nat).isPrefixOf w&&decide (aCn (sg w)≠0)
def VLe(lo hi:List Nat):Prop:=if aOD lo≠aOD hi then aOD lo=true else if aOD lo=true then aCn (sg hi)*aOA (sg lo)≤aCn (sg lo)*aOA (sg hi) else aCn (sg lo)*aOA (sg hi)≤aCn (sg hi)*aOA (sg lo)
def bKh(r:List Nat×List Nat×Unit):List Nat:=if r.2.1= [] then r.1 else r.2.1
def aMH(r:List Nat×List Nat×Unit):Prop:=fm (sg r.1)=true∧fm (sg (bKh r))=true∧VLe r.1 (bKh r)
theorem bAM(s:List Nat)(hs:s.length≤9223372036854775807):Tot (jX none s (aI ⟨#[45]⟩)) (fun r=>r.1=sg s∧r.2.1=([45]:List Nat).isPrefixOf s):=by
 unfold jX iA;refine Tot.bind (P:=fun r=>r.1=sg s∧r.2.1=([45]:List Nat).isPrefixOf s) ?_ fun r f=>.ret f;refine(bOy s hs).bind fun b hb=>?_;subst hb;refine .ite (fun h=>.ret ?_) fun h=>.ck ?_ (.ret ?_)
 ·have h:([45]:List Nat).isPrefixOf s=false:=Bool.eq_false_iff.2 h;exact⟨by unfold sg; rw[if_neg (by rw[h]; decide)],h.symm⟩
 ·have:=(List.isPrefixOf_iff_prefix.1 (Classical.not_not.1 h)).length_le;simp at this;exact⟨by decide,by show (1:Int)≤_; omega⟩
 ·unfold sg;rw[if_pos (Classical.not_not.1 h)];exact⟨rfl,(Classical.not_not.1 h).symm⟩
theorem bDg(s:List Nat)(hs:s.length≤9223372036854775807):Tot (sM none s) (fun r=>r=if fm (sg s)=true then (aOD s,lb (aCn (sg s)),lb (aOA (sg s)),true,()) else (false,[],[],false,())):=by
 unfold sM;refine(bAM s hs).bind fun v hv=>?_;obtain⟨v1,z,u⟩:=v;obtain⟨rfl,rfl⟩:=hv;refine(Tot.of (P:=fun r=>r=bL2 (sg s)) (bJ1 (sg s) (Nat.le_trans (bNR s) hs)) rfl).bind fun r g=>?_;subst g;refine .ret ?_;unfold bL2 fm;by_cases h:(cK (sg s)).2.2.1=true
 ·rw[if_pos h,if_pos h];have:decide ((0:Int)<(((lb (aCn (sg s))).length:Nat):Int))=decide (aCn (sg s)≠0):=by
   refine decide_eq_decide.2 ⟨fun f q=>?_,fun f=>?_⟩
   ·rw[q,zE] at f;exact absurd f xAb
   ·have:=List.length_pos_iff.2 (fun e=>f (aPM.1 e));omega
  show (([45]:List Nat).isPrefixOf s&&decide ((0:Int)<(((lb (aCn (sg s))).length:Nat):Int)),_)=_;rw[this];rfl
 ·rw[if_neg h,if_neg h];show (([45]:List Nat).isPrefixOf s&&decide ((0:Int)<((([]:List Nat).length:Nat):Int)),_)=_;rw[show decide ((0:Int)<((([]:List Nat).length:Nat):Int))=false from by decide,Bool.and_false]
theorem aV0(r:List Nat×List Nat×Unit)(L:r.1.length≤9223372036854775807)(U:r.2.1.length≤9223372036854775807):Tot (iB none r) (fun b=>b=true↔aMH r):=by
 have j:∀hi:List Nat,hi.length≤9223372036854775807→Tot (jM none r hi) (fun b=>b=true↔fm (sg r.1)=true∧fm (sg hi)=true∧VLe r.1 hi):=fun hi hh=>by
  unfold jM;refine(bDg _ L).bind fun v hv=>(bDg _ hh).bind fun w I=>?_;have O:=aGr (bAD (sg r.1));have W:=aGr (bGk (sg r.1));have N:=aGr (bAD (sg hi));have Y:=aGr (bGk (sg hi));have Z:v.2.1.length≤15∧v.2.2.1.length≤15:=by
   subst hv;split
   ·exact⟨O,W⟩
   ·exact⟨by decide,by decide⟩
  have bw:w.2.1.length≤15∧w.2.2.1.length≤15:=by
   subst I;split
   ·exact⟨N,Y⟩
   ·exact⟨by decide,by decide⟩
  refine .ck ⟨by omega,by omega⟩ (.ck ⟨by omega,by omega⟩ (.ck ⟨aFe _,aFe _⟩ ?_));by_cases g:fm (sg r.1)=true
  ·by_cases z:fm (sg hi)=true
   ·rw[if_pos g] at hv;rw[if_pos z] at I;subst hv;subst I;have J:gQ (bY (lb (aCn (sg r.1))) (lb (aOA (sg hi)))) (bY (lb (aCn (sg hi))) (lb (aOA (sg r.1))))=xP (aCn (sg r.1)*aOA (sg hi)) (aCn (sg hi)*aOA (sg r.1)):=by
     simp[gQ,bY,uI]
    refine .ite (fun hh=>absurd hh xAg) fun _=>.ite (fun f=>.ret ?_) fun f=>.ite (fun hp=>.ret ?_) fun hp=>.ret ?_
    ·have f:¬aOD r.1=aOD hi:=bne_iff_ne.1 f;unfold VLe;rw[if_pos f];exact⟨fun h=>⟨g,z,h⟩,fun h=>h.2.2⟩
    ·have f:¬ ¬aOD r.1=aOD hi:=fun q=>f (bne_iff_ne.2 q);have hp:aOD r.1=true:=hp;unfold VLe;rw[if_neg f,if_pos hp];show decide ((0:Int)≤gQ _ _)=true↔_;rw[J,decide_eq_true_iff];refine⟨fun h=>⟨g,z,?_⟩,fun h=>?_⟩
     ·unfold xP at h;grind
     ·have:=h.2.2;unfold xP;grind
    ·have f:¬ ¬aOD r.1=aOD hi:=fun q=>f (bne_iff_ne.2 q);have hp:¬aOD r.1=true:=hp;unfold VLe;rw[if_neg f,if_neg hp];show decide (gQ _ _≤(0:Int))=true↔_;rw[J,decide_eq_true_iff,bAK];exact⟨fun h=>⟨g,z,h⟩,fun h=>h.2.2⟩
   ·rw[if_neg z] at I;subst I;exact .ite (fun _=>.ret ⟨fun h=>(by cases h),fun h=>absurd h.2.1 z⟩) fun hh=>absurd (Or.inr xAg) hh
  ·rw[if_neg g] at hv;subst hv;exact .ite (fun _=>.ret ⟨fun h=>(by cases h),fun h=>absurd h.1 g⟩) fun hh=>absurd (Or.inl xAg) hh
 unfold iB aMH bKh;refine .ite (fun h=>?_) fun h=>?_
 ·have h:r.2.1= []:=h;rw[if_pos h];exact j _ L
 ·have h:¬r.2.1= []:=h;rw[if_neg h];exact j _ U
theorem bKi(x y:List Nat):∀A:List (List Nat×Bool),uF .str (aM2 .str A x true) y=some true→y=x∨uF .str A y=some true
 | [],h=>by
  have h:(if Ty.eqb .str y x=true then some true else uF .str ([]:List (List Nat×Bool)) y)=some true:=h;split at h
  ·rename_i q;exact .inl (of_decide_eq_true q)
  ·cases h
 | (k,v)::A,h=>by
  have h:uF .str (if Ty.eqb .str x k=true then (k,true)::A else (k,v)::aM2 .str A x true) y=some true:=h;show y=x∨(if Ty.eqb .str y k=true then some v else uF .str A y)=some true;split at h
  ·rename_i q;have h:(if Ty.eqb .str y k=true then some true else uF .str A y)=some true:=h;split at h
   ·rename_i p;exact .inl ((of_decide_eq_true p:y=k).trans (of_decide_eq_true q:x=k).symm)
   ·rename_i p;rw[if_neg p];exact .inr h
  ·have h:(if Ty.eqb .str y k=true then some v else uF .str (aM2 .str A x true) y)=some true:=h;split at h
   ·rename_i p;rw[if_pos p];exact .inr h
   ·rename_i p;rw[if_neg p];exact bKi x y A h
def Apt(l:List qd):Prop:=(∀x∈l,cR none x=some true)∧l.Nodup
theorem aYQ(l:List qd)(h:∀x∈l,T8 x)(hl:l.length≤100000):Tot (oW none l) (fun b=>b=true↔Apt l):=by
 unfold oW;refine Tot.bind (P:=fun e=>match e with| .inl _=>Apt l| .inr b=>b=false∧ ¬Apt l) (Tot.loop (fun d:Int×List (List Nat×Bool)=>0≤d.1∧d.1≤l.length∧(∀x∈l.take d.1.toNat,cR none x=some true∧uF .str d.2 x=some true)∧(l.take d.1.toNat).Nodup∧ ∀y,uF .str d.2 y=some true→y∈l.take d.1.toNat) (fun d=>((l.length:Int)-d.1).toNat) ?_ ⟨by decide,by omega,(fun x hx=>by cases hx),List.nodup_nil,fun y hy=>by cases hy⟩) fun e he=>?_
 ·rintro⟨i,A⟩ ⟨i0,i1,g,z,I⟩;have i0:0≤i:=i0;have i1:i≤l.length:=i1;have g:∀x∈l.take i.toNat,cR none x=some true∧uF .str A x=some true:=g;have z:(l.take i.toNat).Nodup:=z;have I:∀y,uF .str A y=some true→y∈l.take i.toNat:=I;have O:(i+1).toNat=i.toNat+1:=by omega
  show Tot (tM none l i A) _;unfold tM;refine .ite (fun hi=>.ck ⟨i0,hi⟩ ?_) fun hi=>.ret ?_
  ·have hiN:i.toNat<l.length:=(by omega);have hm:=fK ([]:List Nat) hiN;have hk:=eP ([]:List Nat) hiN;generalize l.getD i.toNat []=w at hm hk;refine(bDb _ (h _ hm)).self.bind fun v hv=>.ite (fun hh=>.ret ⟨rfl,fun U=>?_⟩) fun J=>?_
   ·have f:=U.1 w hm;rw[hv.1] at f;refine hh.elim (fun q=>q (Option.some.inj f)) fun q=>?_;have L:uF .str A w=some true:=by
     cases L:uF .str A w with
     | none=>rw[L] at q; cases q
     | some b=>rw[L] at q; exact congrArg some q
    have nd:(l.take (i.toNat+1)).Nodup:=U.2.sublist (List.take_sublist _ _);rw[hk,List.nodup_append] at nd;exact nd.2.2 w (I w L) w (List.mem_singleton.2 rfl) rfl
   ·have f:v=true:=Classical.not_not.1 fun q=>J (.inl q);have hv:=hv.1;rw[f] at hv;have N:¬uF .str A w=some true:=fun q=>J (.inr (by rw[q]; rfl));refine .ck (by omega) (.ret ⟨⟨by omega,by omega,?_,?_,?_⟩,by omega⟩)
    ·show ∀x∈l.take (i+1).toNat,_;rw[O,hk];intro x hx;rcases List.mem_append.1 hx with hx|hx
     ·exact⟨(g x hx).1,bGq _ _ _ (g x hx).2⟩
     ·rw[List.mem_singleton.1 hx];exact⟨hv,bGp _ _⟩
    ·show (l.take (i+1).toNat).Nodup;rw[O,hk,List.nodup_append];refine⟨z,by simp,fun a ha b hb=>?_⟩;rw[List.mem_singleton.1 hb];intro e;exact N (e▸(g a ha).2)
    ·show ∀y,uF .str (aM2 .str A w true) y=some true→y∈l.take (i+1).toNat;rw[O,hk];intro y hy;rcases bKi w y A hy with rfl|hy
     ·simp
     ·exact List.mem_append_left _ (I y hy)
  ·show Apt l;rw[List.take_of_length_le (by omega)] at g z;exact⟨fun x hx=>(g x hx).1,z⟩
 ·cases e with
  | inl u=>exact .ret ⟨fun _=>he,fun _=>rfl⟩
  | inr b =>
   obtain⟨rfl,J⟩:=he;exact .ret ⟨fun h=>(by cases h),fun h=>absurd h J⟩
def bDh{α β:Type}(l:List α)(Q:α→Prop)(B:β→Prop):Unit⊕β→Prop
 | .inl _=>∀a∈l,Q a
 | .inr b=>B b∧ ¬ ∀a∈l,Q a
theorem Tot.all{α β:Type}(z:α)(l:List α)(Q:α→Prop)(B:β→Prop){step:Int→Option (Int⊕(Unit⊕β))}(h:∀i:Int,0≤i→i<l.length→Tot (step i) (fun q=>match q with| .inl j=>j=i+1∧Q (l.getD i.toNat z)| .inr (.inl _)=>False| .inr (.inr b)=>B b∧ ¬Q (l.getD i.toNat z)))(he:Tot (step (l.length:Int)) (fun q=>match q with| .inr (.inl _)=>True|_=>False)):Tot (bO none step (0:Int)) (bDh l Q B):=by
 refine Tot.loop (fun d:Int=>0≤d∧d≤l.length∧ ∀a∈l.take d.toNat,Q a) (fun d:Int=>((l.length:Int)-d).toNat) ?_ ⟨Int.le_refl 0,by omega,fun x hx=>by cases hx⟩;rintro i ⟨i0,i1,f⟩;by_cases hi:i<l.length
 ·refine(h i i0 hi).mono fun q hq=>?_;have hiN:i.toNat<l.length:=by omega
  match q,hq with
  | .inl j,hq =>
   obtain⟨rfl,hq⟩:=hq;refine⟨⟨by omega,by omega,fun x hx=>?_⟩,by omega⟩;rw[show (i+1).toNat=i.toNat+1 from by omega,eP z hiN] at hx;rcases List.mem_append.1 hx with hx|hx
   ·exact f x hx
   ·rw[List.mem_singleton.1 hx];exact hq
  | .inr (.inl _),hq=>exact hq.elim
  | .inr (.inr b),hq=>exact⟨hq.1,fun ha=>hq.2 (ha _ (fK z hiN))⟩
 ·obtain rfl:i=(l.length:Int):=by omega
  refine he.mono fun q hq=>?_;rw[show (l.length:Int).toNat=l.length from rfl,List.take_length] at f
  match q,hq with
  | .inr (.inl _),_=>exact f
theorem bMe(l:List (List Nat×Ex×Unit))(names:List qd)(hl:∀x∈l,OkE x.2.1)(f:names.length≤1000)(g:l.length≤1000):Tot (bK none l (names,())) (fun b=>b=false↔ ∀x∈l,bQ none x.2.1 names=some true):=by
 unfold bK cC;refine Tot.bind (P:=fun r:Int=>r<0↔ ∀x∈l,bQ none x.2.1 names=some true) ((Tot.all (([]:List Nat),(Ex.mk 0 [] []),()) l (fun x=>bQ none x.2.1 names=some true) (fun r:Int=>0≤r) (fun i i0 hi=>?_) ?_).bind fun e he=>?_) fun v hv=>.ret ⟨fun h=>hv.1 (by simpa using h),fun h=>by
  have:=hv.2 h;simp;omega⟩
 ·unfold bX;refine .ite (fun _=>.ck ⟨i0,hi⟩ ?_) fun hh=>absurd hi hh;refine Tot.bind (P:=fun b=>bQ none (l.getD i.toNat ([],(Ex.mk 0 [] []),())).2.1 names=some (!b)) ?_ fun v hv=>.ite (fun hh=>.ret ⟨i0,fun q=>?_⟩) fun f=>.ck (by omega) (.ret ⟨rfl,?_⟩)
  ·unfold tO;exact(aF1 _ names (hl _ (fK _ (by omega))) f).self.bind fun v hv=>.ret (by simp_all)
  ·rw[hv,hh] at q;exact absurd q xAb
  ·rw[hv];simp_all
 ·unfold bX;exact zac
 ·cases e with
  | inl u=>exact .ret ⟨fun _=>he,fun _=>by decide⟩
  | inr r=>exact .ret ⟨fun h=>absurd he.1 (by omega),fun h=>absurd h he.2⟩
structure aXV(s:aDS):Prop where
 b:(1≤s.2.1.length∧s.2.1.length≤6)∧s.2.2.1.length≤6∧s.2.2.2.1.length≤4∧s.2.2.2.2.1.length≤4
 n:Apt (nmS s++s.2.2.2.2.1.map (·.1))
 x:∀a∈s.2.1,aMH a.2.1∧bQ none a.2.2.1 (nmS s)=some true
 p:∀a∈s.2.2.1,aMH a.2.1
 o:∀a∈s.2.2.2.2.1,bQ none a.2.1 (nmS s)=some true
theorem bES(s:aDS)(h:bDc s):Tot (tP none s) (fun b=>b=true↔aXV s):=by
 unfold tP;refine .ite (fun hb=>.ret ⟨fun h=>(by cases h),fun h=>(by have:=h.b; omega)⟩) fun hb=>?_;have hx:=h.x.1;have hx6:s.2.1.length≤6:=by omega
 have Y:s.2.2.1.length≤6:=by omega
 have hu6:s.2.2.2.1.length≤4:=by omega
 have Z:s.2.2.2.2.1.length≤4:=by omega
 have N:=bKb s (by omega) (by omega);have C:=bHD (s.2.1.map (·.1)) (s.2.2.1.map (·.1)) s.2.2.2.1 (by grind) (by grind) (by omega);have nl:(nmS s).length≤16:=by
  grind[nmS]
 have n8:∀x∈nmS s,T8 x:=fun x hx=>by
  exact zam
 simp only[N,Option.getD_some,Option.isSome_some,C];refine .ck trivial (.ck trivial (.ck (show bJN (nmS s) from by omega) ?_));refine Tot.bind (P:=fun l=>l=nmS s++s.2.2.2.2.1.map (·.1)) (Tot.idx s.2.2.2.2.1.length (fun l i=>l=nmS s++(s.2.2.2.2.1.take i).map (·.1)) (by omega) (fun i l i0 hi h64 hI=>?_) (fun l hI=>?_) (show id (nmS s)=nmS s++ [] by simp_all)) fun all g=>?_
 ·show Tot (nF none s i l) _;unfold nF;exact zak
 ·show Tot (nF none s _ l) _;unfold nF;exact zaX
 ·subst g;unfold xI;have L:=aYQ (nmS s++s.2.2.2.2.1.map (·.1)) (fun x hx=>by
   rcases List.mem_append.1 hx with hx|hx
   ·exact n8 x hx
   ·obtain⟨a,ha,rfl⟩:=List.mem_map.1 hx;exact(h.o.2 a ha).1) (by grind)
  refine .ck L.aOB ?_;have I:=L.get false;refine .ite (fun W=>.ret ⟨fun h=>(by cases h),fun h=>absurd (I.2 h.n) W⟩) fun W=>?_;have L:=I.1 (Classical.not_not.1 W);refine Tot.bind (P:=bDh s.2.1 (fun a=>aMH a.2.1∧bQ none a.2.2.1 (nmS s)=some true) (fun b:Bool=>b=false)) (Tot.all (([]:List Nat),(([]:List Nat),([]:List Nat),()),(Ex.mk 0 [] []),()) s.2.1 (fun a=>aMH a.2.1∧bQ none a.2.2.1 (nmS s)=some true) (fun b=>b=false) (fun i i0 hi=>?_) ?_) fun e he=>?_
  ·unfold vF;simp only[N,Option.getD_some,C];refine .ite (fun _=>.ck ⟨i0,hi⟩ ?_) fun hh=>absurd hi hh;obtain⟨q1,U,O,q4⟩:=h.x.2 _ (fK (([]:List Nat),(([]:List Nat),([]:List Nat),()),(Ex.mk 0 [] []),()) (l:=s.2.1) (k:=i.toNat) (by omega));have R:=aV0 _ U.1 O.1;have M:=(aF1 _ (nmS s) q4 (by omega)).self;have J:=R.get false;obtain⟨v,hv,hv2,_⟩:=M;have Mg:(bQ none (s.2.1.getD i.toNat ([],([],[],()),(Ex.mk 0 [] []),())).2.2.1 (nmS s)).getD false=true↔bQ none (s.2.1.getD i.toNat ([],([],[],()),(Ex.mk 0 [] []),())).2.2.1 (nmS s)=some true:=by
    rw[hv];simp
   exact .ck R.aOB (.ck (fun _=>by show (bQ none _ (nmS s)).isSome=true; rw[hv]; rfl) (.ite (fun hh=>.ret ⟨rfl,fun q=>hh.elim (fun z=>z (J.2 q.1)) fun z=>z (Mg.2 q.2)⟩) fun hh=>.ck (by omega) (.ret ⟨rfl,J.1 (Classical.not_not.1 fun q=>hh (.inl q)),Mg.1 (Classical.not_not.1 fun q=>hh (.inr q))⟩)))
  ·unfold vF;exact zac
  ·cases e with
   | inr b =>
    obtain⟨rfl,f⟩:=he;exact .ret ⟨fun h=>(by cases h),fun h=>absurd h.x f⟩
   | inl u =>
    show Tot (rP none s) _;unfold rP;simp only[N,Option.getD_some,C];refine Tot.bind (P:=bDh s.2.2.1 (fun a=>aMH a.2.1) (fun b:Bool=>b=false)) (Tot.all (([]:List Nat),(([]:List Nat),([]:List Nat),()),()) s.2.2.1 (fun a=>aMH a.2.1) (fun b=>b=false) (fun i i0 hi=>?_) ?_) fun e hp=>?_
    ·unfold vE;refine .ite (fun _=>.ck ⟨i0,hi⟩ ?_) fun hh=>absurd hi hh;obtain⟨q1,U,O⟩:=h.p.2 _ (fK (([]:List Nat),(([]:List Nat),([]:List Nat),()),()) (l:=s.2.2.1) (k:=i.toNat) (by omega));have R:=aV0 _ U.1 O.1;have J:=R.get false;exact .ck R.aOB (.ite (fun hh=>.ret ⟨rfl,fun q=>hh (J.2 q)⟩) fun hh=>.ck (by omega) (.ret ⟨rfl,J.1 (Classical.not_not.1 hh)⟩))
    ·unfold vE;exact zac
    ·cases e with
     | inr b =>
      obtain⟨rfl,f⟩:=hp;exact .ret ⟨fun h=>(by cases h),fun h=>absurd h.p f⟩
     | inl u =>
      have Q:=bMe s.2.2.2.2.1 (nmS s) (fun x hx=>(h.o.2 x hx).2) (by omega) (by omega);have Qg:=Q.get false;refine .ck Q.aOB (.ret ⟨fun hq=>⟨⟨⟨by omega,hx6⟩,Y,hu6,Z⟩,L,he,hp,Qg.1 (by
       have:=hq;simp at this;exact this)⟩,fun hq=>?_⟩)
      have:=Qg.2 hq.o;simp;exact this
theorem bET{α β:Type}(f:α→β):∀ {L:List α},(L.map f).Nodup→ ∀ {a b:α},a∈L→b∈L→f a=f b→a=b
 | [],_,a,b,ha,_,_=>by cases ha
 | x::L,h,a,b,ha,hb,e=>by
  rw[List.map_cons,List.nodup_cons] at h;rcases List.mem_cons.1 ha with p|p
  ·rcases List.mem_cons.1 hb with q|q
   ·rw[p,q]
   ·exact absurd (by rw[← p,e]; exact List.mem_map_of_mem q) h.1
  ·rcases List.mem_cons.1 hb with q|q
   ·exact absurd (by rw[← q,← e]; exact List.mem_map_of_mem p) h.1
   ·exact bET f h.2 p q e
theorem bKj(s:TSc)(h:bAH s)(w:List Nat):Tot (rQ none s w) (fun r=>(r<0∧ ∀y∈s.2.2.2.2.2.2.2.2.1,y.1≠w)∨((0≤r∧r<s.2.2.2.2.2.2.2.2.1.length)∧(s.2.2.2.2.2.2.2.2.1.getD r.toNat ([],[],[],[],[],())).1=w)):=by
 unfold rQ;refine Tot.bind (P:=fun e=>match e with| .inl _=>∀y∈s.2.2.2.2.2.2.2.2.1,y.1≠w| .inr r=>(0≤r∧r<s.2.2.2.2.2.2.2.2.1.length)∧(s.2.2.2.2.2.2.2.2.1.getD r.toNat ([],[],[],[],[],())).1=w) (Tot.loop (fun d:Int=>0≤d∧d≤s.2.2.2.2.2.2.2.2.1.length∧ ∀y∈s.2.2.2.2.2.2.2.2.1.take d.toNat,y.1≠w) (fun d:Int=>((s.2.2.2.2.2.2.2.2.1.length:Int)-d).toNat) ?_ ⟨Int.le_refl 0,by omega,fun x hx=>by cases hx⟩) fun e he=>?_
 ·rintro i ⟨i0,i1,g⟩;have hs:=h.sb.1;unfold rE;refine .ite (fun hi=>.ck ⟨i0,hi⟩ (.ite (fun f=>.ret ⟨⟨i0,hi⟩,f⟩) fun f=>.ck (by omega) (.ret ⟨⟨by omega,by omega,?_⟩,by omega⟩))) fun hi=>.ret ?_
  ·rw[show (i+1).toNat=i.toNat+1 from by omega,eP (([]:List Nat),([]:List qv),([]:List we),([]:List qd),([]:List qq),()) (show i.toNat<s.2.2.2.2.2.2.2.2.1.length by omega)];intro y hy;rcases List.mem_append.1 hy with hy|hy
   ·exact g y hy
   ·rw[List.mem_singleton.1 hy];exact f
  ·show ∀y∈s.2.2.2.2.2.2.2.2.1,y.1≠w;rw[List.take_of_length_le (by omega)] at g;exact g
 ·cases e with
  | inl u=>exact .ret (.inl ⟨by decide,he⟩)
  | inr r=>exact .ret (.inr he)
theorem bMf(l:List (List Nat×Ex×Unit))(k:List TLk)(hk:0<k.length)(I:l.length≤4000):Tot (aV none l (k,())) (fun b=>b=true↔ ∃o∈l,o.1=(k.getD 0 ([],[],[],[],())).2.2.2.1):=by
 unfold aV bT;refine Tot.bind (P:=fun r:Int=>0≤r↔ ∃o∈l,o.1=(k.getD 0 ([],[],[],[],())).2.2.2.1) ((Tot.all (([]:List Nat),(Ex.mk 0 [] []),()) l (fun o=>¬o.1=(k.getD 0 ([],[],[],[],())).2.2.2.1) (fun r:Int=>0≤r) (fun i i0 hi=>?_) ?_).bind fun e he=>?_) fun v hv=>.ret ⟨fun h=>hv.1 (of_decide_eq_true h),fun h=>decide_eq_true (hv.2 h)⟩
 ·unfold bL;refine .ite (fun _=>.ck ⟨i0,hi⟩ ?_) fun h=>absurd hi h;refine Tot.bind (P:=fun b=>b=true↔(l.getD i.toNat ([],(Ex.mk 0 [] []),())).1=(k.getD 0 ([],[],[],[],())).2.2.2.1) ?_ fun v hv=>.ite (fun ht=>.ret ⟨i0,fun q=>q (hv.1 ht)⟩) fun ht=>.ck (by omega) (.ret ⟨rfl,fun q=>ht (hv.2 q)⟩);unfold pE;exact .ck (by simp_all) (.ret ⟨fun h=>of_decide_eq_true h,fun h=>decide_eq_true h⟩)
 ·unfold bL;exact .ite (fun h=>absurd h (by omega)) fun _=>.ret trivial
 ·cases e with
  | inl u=>exact .ret ⟨fun h=>absurd h xAb,fun⟨o,f,g⟩=>absurd g (he o f)⟩
  | inr r=>exact .ret ⟨fun _=>Classical.byContradiction fun z=>he.2 fun a ha q=>z ⟨a,ha,q⟩,fun _=>he.1⟩
def aYR(s:TSc):Prop:=s.2.2.2.2.2.2.2.2.2.1.map kL=s.2.2.2.2.2.2.2.2.1.flatMap kS∧ ∀a∈s.2.2.2.2.2.2.2.2.2.1,GdL s a
theorem Met.no{s:TSc}{k:List TLk}{f rest:List wv}{w u:List Nat}(h:Met s k f)(hp:s.2.2.2.2.2.2.2.2.1.flatMap kS=f++(w,u)::rest)(hx:aYR s):0<k.length∧(k.getD 0 (([],[],[],[],()):TLk)).1=w∧(k.getD 0 (([],[],[],[],()):TLk)).2.1=u∧GdL s (k.getD 0 (([],[],[],[],()):TLk)):=by
 obtain⟨d,e1,g,z⟩:=h;obtain⟨x1,q⟩:=hx;rw[hp,e1,List.map_append,g] at x1;have x1:=List.append_cancel_left x1;cases k with
 | nil=>cases x1
 | cons a k =>
  rw[List.map_cons,List.cons.injEq] at x1;have e:=x1.1;unfold kL at e;rw[Prod.mk.injEq] at e;exact⟨Nat.succ_pos _,e.1,e.2,q a (by rw[e1]; simp)⟩
theorem bDi{L:List aDS}{i j:Nat}(hi:i<L.length)(q:j<(L.getD i ([],[],[],[],[],())).2.2.2.1.length):∃rest,L.flatMap kS=((L.take i).flatMap kS++((L.getD i ([],[],[],[],[],())).2.2.2.1.take j).map fun u=>((L.getD i ([],[],[],[],[],())).1,u))++((L.getD i ([],[],[],[],[],())).1,(L.getD i ([],[],[],[],[],())).2.2.2.1.getD j [])::rest:=by
 have e1:L=L.take (i+1)++L.drop (i+1):=(List.take_append_drop _ _).symm;have f:=eP (([]:List Nat),([]:List qv),([]:List we),([]:List qd),([]:List qq),()) hi;have z:(L.getD i ([],[],[],[],[],())).2.2.2.1=(L.getD i ([],[],[],[],[],())).2.2.2.1.take (j+1)++(L.getD i ([],[],[],[],[],())).2.2.2.1.drop (j+1):=(List.take_append_drop _ _).symm;have g:=eP ([]:List Nat) q;have I:kS (L.getD i ([],[],[],[],[],()))=(((L.getD i ([],[],[],[],[],())).2.2.2.1.take j).map fun u=>((L.getD i ([],[],[],[],[],())).1,u))++((L.getD i ([],[],[],[],[],())).1,(L.getD i ([],[],[],[],[],())).2.2.2.1.getD j [])::(((L.getD i ([],[],[],[],[],())).2.2.2.1.drop (j+1)).map fun u=>((L.getD i ([],[],[],[],[],())).1,u)):=by
  have:kS (L.getD i ([],[],[],[],[],()))=(L.getD i ([],[],[],[],[],())).2.2.2.1.map fun u=>((L.getD i ([],[],[],[],[],())).1,u):=rfl;rw[this]
  conv=>lhs; rw[z,g]
  simp
 refine⟨(((L.getD i ([],[],[],[],[],())).2.2.2.1.drop (j+1)).map fun u=>((L.getD i ([],[],[],[],[],())).1,u))++(L.drop (i+1)).flatMap kS,?_⟩
 conv=>lhs; rw[e1,f,List.flatMap_append,List.flatMap_append,List.flatMap_singleton,I]
 simp
theorem aV1(s:TSc)(h:bAH s)(O:(s.2.2.2.2.2.2.2.2.1.map (·.1)).Nodup):Tot (iC none s) (fun b=>b=true↔aYR s):=by
 have hs:=h.sb.1;unfold iC;refine Tot.bind (P:=fun e=>match e with| .inl l=>Met s l (s.2.2.2.2.2.2.2.2.1.flatMap kS)| .inr b=>b=false∧ ¬aYR s) (Tot.idx s.2.2.2.2.2.2.2.2.1.length (fun l i=>Met s l ((s.2.2.2.2.2.2.2.2.1.take i).flatMap kS)) (by omega) (fun i l i0 hi h64 hI=>?_) (fun l hI=>?_) ⟨[],rfl,rfl,fun a ha=>by cases ha⟩) fun e he=>?_
 ·show Tot (dV none s i l) _;unfold dV;refine .ite (fun _=>.ck ⟨i0,hi⟩ ?_) fun hh=>absurd hi hh;have hiN:i.toNat<s.2.2.2.2.2.2.2.2.1.length:=by omega
  have I:=h.sb.2 _ (fK (([]:List Nat),([]:List qv),([]:List we),([]:List qd),([]:List qq),()) hiN);have hu:=I.u.1;refine Tot.bind (P:=fun e=>match e with| .inl l=>Met s l ((s.2.2.2.2.2.2.2.2.1.take (i.toNat+1)).flatMap kS)| .inr b=>b=false∧ ¬aYR s) (Tot.idx (s.2.2.2.2.2.2.2.2.1.getD i.toNat ([],[],[],[],[],())).2.2.2.1.length (fun k j=>Met s k ((s.2.2.2.2.2.2.2.2.1.take i.toNat).flatMap kS++((s.2.2.2.2.2.2.2.2.1.getD i.toNat ([],[],[],[],[],())).2.2.2.1.take j).map fun u=>((s.2.2.2.2.2.2.2.2.1.getD i.toNat ([],[],[],[],[],())).1,u))) (Nat.le_trans hu xAb) (fun j k j0 hj Y hJ=>?_) (fun k hJ=>?_) (by simp_all)) fun e he=>?_
  ·show Tot (dU none s i j k) _;unfold dU;obtain⟨rest,g⟩:=bDi hiN (show j.toNat<_ by omega);have z:=fun hx=>hJ.no g hx;refine .ite (fun _=>.ck ⟨j0,hj⟩ (.ck (fun _=>by omega) (.ck (fun _=>by omega) (.ite (fun hh=>.ret ⟨rfl,fun hx=>?_⟩) fun J=>?_)))) fun hh=>absurd hj hh
   ·obtain⟨n1,n2,n3,W⟩:=z hx;exact hh.elim (fun q=>q.elim (fun q=>absurd q (by omega)) fun q=>q n2) fun q=>q n3
   have hk:0<k.length:=by
    omega
   have w1:(k.getD 0 ([],[],[],[],())).1=_:=Classical.not_not.1 fun q=>J (.inl (.inr q));have w2:(k.getD 0 ([],[],[],[],())).2.1=_:=Classical.not_not.1 fun q=>J (.inr q);refine .ck (by omega) ((bKj s h _).bind fun v hv=>?_);have N:¬v<0→Tot (aV none (s.2.2.2.2.2.2.2.2.1.getD v.toNat ([],[],[],[],[],())).2.2.2.2.1 (k,())) (fun b=>b=true↔ ∃o∈(s.2.2.2.2.2.2.2.2.1.getD v.toNat ([],[],[],[],[],())).2.2.2.2.1,o.1=(k.getD 0 ([],[],[],[],())).2.2.2.1):=fun f=>bMf _ k hk (h.sb.2 _ (fK _ (by omega))).o.1;refine .ck (fun _=>by omega) (.ck (fun f=>(N f).aOB) (.ite (fun hq=>.ret ⟨rfl,fun hx=>?_⟩) fun hq=>.ck (by omega) (.ck Y (.ret ⟨rfl,?_⟩))))
   ·obtain⟨n1,n2,n3,y,hy,W,n5⟩:=z hx;rcases hv with⟨v0,hv⟩|⟨⟨v0,v1⟩,hv⟩
    ·exact hv y hy W.symm
    ·have f:¬v<0:=(by omega);have L:=(N f).get false;have ey:s.2.2.2.2.2.2.2.2.1.getD v.toNat ([],[],[],[],[],())=y:=bET (·.1) O (fK (([]:List Nat),([]:List qv),([]:List we),([]:List qd),([]:List qq),()) (by omega)) hy (hv.trans W);rw[ey] at L;refine hq.elim (fun q=>f q) fun q=>q ?_;rw[ey];exact L.2 n5
   have f:¬v<0:=fun q=>hq (.inl q);have U:=hv.resolve_left fun q=>f q.1;have L:GdL s (k.getD 0 ([],[],[],[],())):=⟨_,fK (([]:List Nat),([]:List qv),([]:List we),([]:List qd),([]:List qq),()) (show v.toNat<_ by omega),U.2.symm,((N f).get false).1 (Classical.not_not.1 fun q=>hq (.inr q))⟩;have:=hJ.step hk w1 w2 L;rw[eP ([]:List Nat) (show j.toNat<_ by omega),List.map_append,← List.append_assoc];exact this
  ·show Tot (dU none s i _ k) _;exact zad
  ·cases e with
   | inl k=>exact .ck h64 (.ret ⟨rfl,he⟩)
   | inr b=>exact .ret he
 ·show Tot (dV none s _ l) _;unfold dV;exact za0
 ·cases e with
  | inl l =>
   obtain⟨d,e1,Z,e3⟩:=he;refine .ret ⟨fun hb=>?_,fun hx=>?_⟩
   ·have hl:l= []:=List.eq_nil_of_length_eq_zero (by
     have:=of_decide_eq_true hb;omega)
    subst hl;rw[List.append_nil] at e1;exact⟨by rw[e1]; exact Z,by rw[e1]; exact e3⟩
   ·have x1:=hx.1;rw[e1,List.map_append,Z] at x1;have:l.map kL= []:=List.append_right_eq_self.1 x1;rw[List.map_eq_nil_iff] at this;subst this;rfl
  | inr b =>
   obtain⟨rfl,J⟩:=he;exact .ret ⟨fun h=>(by cases h),fun h=>absurd h J⟩
structure ScX(s:TSc):Prop where
 n:bKg s
 r:(1≤s.2.2.2.2.2.2.2.2.1.length∧s.2.2.2.2.2.2.2.2.1.length≤4)∧ ∀x∈s.2.2.2.2.2.2.2.2.1,aXV x
 w:Apt (s.2.2.2.2.2.2.2.2.1.map (·.1))
 l:aYR s
theorem bMg(s:TSc)(h:bAH s):Tot (yO none s) (fun b=>b=true↔ScX s):=by
 have hs:=h.sb.1;unfold yO;refine(bDf s h.e.1 h.h0.1 h.hm.1 h.t.1).bind fun v hv=>.ite (fun hh=>.ret ⟨fun h=>(by cases h),fun x=>?_⟩) fun g=>?_
 ·rcases hh with (hh|hh)|hh
  ·exact absurd (hv.2 x.n) hh
  ·have:=x.r.1.1;omega
  ·have:=x.r.1.2;omega
 have hv:=hv.1 (Classical.not_not.1 fun q=>g (.inl (.inl q)));refine Tot.bind (P:=fun e=>match e with| .inl l=>l=s.2.2.2.2.2.2.2.2.1.map (·.1)∧ ∀x∈s.2.2.2.2.2.2.2.2.1,aXV x| .inr b=>b=false∧ ¬ ∀x∈s.2.2.2.2.2.2.2.2.1,aXV x) (Tot.idx s.2.2.2.2.2.2.2.2.1.length (fun l i=>l=(s.2.2.2.2.2.2.2.2.1.take i).map (·.1)∧ ∀x∈s.2.2.2.2.2.2.2.2.1.take i,aXV x) (by omega) (fun i l i0 hi h64 hI=>?_) (fun l hI=>?_) ⟨rfl,fun x hx=>by cases hx⟩) fun e he=>?_
 ·show Tot (qF none s i l) _;unfold qF;have hiN:i.toNat<s.2.2.2.2.2.2.2.2.1.length:=by omega
  have hm:=fK (([]:List Nat),([]:List qv),([]:List we),([]:List qd),([]:List qq),()) hiN;have f:=h.sb.2 _ hm;have hl:l.length≤4000:=by grind
  refine .ite (fun _=>.ck ⟨i0,hi⟩ ((bES _ f).bind fun v hv=>.ite (fun hh=>.ret ⟨rfl,fun ha=>hh (hv.2 (ha _ hm))⟩) fun g=>.ck (by omega) (.ck h64 (.ret ⟨rfl,?_,fun x hx=>?_⟩)))) fun hh=>absurd hi hh
  ·rw[eP (([]:List Nat),([]:List qv),([]:List we),([]:List qd),([]:List qq),()) hiN,List.map_append,← hI.1];rfl
  ·rw[eP (([]:List Nat),([]:List qv),([]:List we),([]:List qd),([]:List qq),()) hiN] at hx;rcases List.mem_append.1 hx with hx|hx
   ·exact hI.2 x hx
   ·rw[List.mem_singleton.1 hx];exact hv.1 (Classical.not_not.1 g)
 ·show Tot (qF none s _ l) _;unfold qF;exact za0
 ·cases e with
  | inr b =>
   obtain⟨rfl,hb⟩:=he;exact .ret ⟨fun h=>(by cases h),fun x=>absurd x.r.2 hb⟩
  | inl l =>
   obtain⟨e,J⟩:=he;subst e;show Tot (tQ none s _) _;unfold tQ;have L:=bER s h;refine(aYQ _ (fun x hx=>?_) (by grind)).bind fun v z=>.ck (fun _=>L.aOB) (.ret ?_)
   ·obtain⟨a,ha,rfl⟩:=List.mem_map.1 hx;exact(h.sb.2 a ha).n
   ·show (v&&(iC none s).getD false)=true↔ScX s;rw[Bool.and_eq_true];refine⟨fun hb=>?_,fun x=>⟨z.2 x.w,((aV1 s h x.w.2).get false).2 x.l⟩⟩;have I:=z.1 hb.1;exact⟨hv,⟨⟨by omega,by omega⟩,J⟩,I,((aV1 s h I.2).get false).1 hb.2⟩
end Nu
end Go.Proofs
namespace Go.Proofs
open Go.Shelf
def Tryz.lays285_ren:Go.Shelf.Ren:=⟨fun|285=>103|n=>n,fun|37=>56|53=>119|3=>3|4=>4|51=>115|9=>9|5=>5|0=>0|n=>n,fun|n=>n⟩
theorem Tryz.lays285:Go.Proofs.Lays.n285 Tryz.prog Tryz.lays285_ren:={
 mixed:=by kernel_rfl
 f285:=Tryz.func103.trans (congrArg some (by kernel_rfl))
 t0:=Tryz.underlying0
 a0:=Tryz.isAgg0
 z0:=Tryz.sizeOf0
 v0:=Tryz.zeroValue0
 t3:=Tryz.underlying3
 a3:=Tryz.isAgg3
 z3:=Tryz.sizeOf3
 v3:=Tryz.zeroValue3
 t4:=Tryz.underlying4
 a4:=Tryz.isAgg4
 z4:=Tryz.sizeOf4
 v4:=Tryz.zeroValue4
 t5:=Tryz.underlying5
 a5:=Tryz.isAgg5
 z5:=Tryz.sizeOf5
 v5:=Tryz.zeroValue5
 t9:=Tryz.underlying9
 a9:=Tryz.isAgg9
 z9:=Tryz.sizeOf9
 v9:=Tryz.zeroValue9
 t37:=Tryz.underlying56
 a37:=Tryz.isAgg56
 z37:=Tryz.sizeOf56
 v37:=Tryz.zeroValue56
 t51:=Tryz.underlying115
 a51:=Tryz.isAgg115
 z51:=Tryz.sizeOf115
 v51:=Tryz.zeroValue115
 t53:=Tryz.underlying119
 a53:=Tryz.isAgg119
 z53:=Tryz.sizeOf119
 v53:=Tryz.zeroValue119 }
open Go.Vc
set_option maxRecDepth 20000
namespace Nu
noncomputable section
def dgs(n u:Nat):List Nat:=(List.range n).map fun t=>48+u/10^(n-1-t)%10
theorem aIc(n u:Nat):(dgs n u).length=n:=by simp[dgs]
def iR(F:Md)(uo un u:Nat)(xs:List Nat):Option qd :=
 ck (uo+un≤24) (ck (u<10^un) (some (xs.take uo++dgs un u++xs.drop (uo+un))))
@[go_sem]def sO(F:Md):qW where
 D:=Nat×Nat×Nat×qd×qd
 av:=fun d=>[.sub 0 1 d.1 d.2.1,.val qk d.2.2.1]
 hp:=fun d=>[.box 24 (.val (.arr 24 qw) d.2.2.2.1)]
 m:=1
 pre:=fun d=>iR F d.1 d.2.1 d.2.2.1 d.2.2.2.1=some d.2.2.2.2
 out:=fun d=>(fun r:qd=>.ret (.tup []) [.box 24 (.val (.arr 24 qw) (r))]) d.2.2.2.2
theorem aRN(xs:List Nat):(xs.map (fun (x:Nat)=>[Value.int .u8 (x:Int)])).flatten=xs.map (fun (x:Nat)=>Value.int .u8 (x:Int)):=by
 induction xs with
 | nil=>rfl
 | cons x r f=>simp[f]
theorem bMh{w:World}{S:Nat→Prop}{m:Nat}{xs:List Nat}{cs:List Value}(h:bC w S (.arr m qw) xs cs):xs.length=m∧cs=xs.map (fun (x:Nat)=>Value.int .u8 (x:Int))∧ ∀x∈xs,x<256:=by
 obtain⟨hl,f,rfl,q,I⟩:=h;have hl:xs.length=m:=hl;have g:∀i (h:i<xs.length) (h':i<f.length),f[i]= [Value.int .u8 (xs[i]:Int)]∧xs[i]<256:=fun i h h'=>by
  obtain⟨z,_,h3⟩:=I i h h';refine⟨z,?_⟩;simp only[IntKind.max,IntKind.signed,IntKind.bits] at h3;simp at h3;omega
 refine⟨hl,?_,fun x hx=>?_⟩
 ·have e:f=xs.map (fun (x:Nat)=>[Value.int .u8 (x:Int)]):=by
   apply List.ext_getElem
   ·simp; exact q
   ·intro i z J;have:=(g i (by simpa using J) z).1
    simpa using this
  rw[e,aRN]
 ·obtain⟨i,hi,rfl⟩:=List.getElem_of_mem hx;exact(g i hi (by have:f.length=xs.length:=q; omega)).2
theorem bOA{w:World}{S:Nat→Prop}{m:Nat}{xs:List Nat}(hl:xs.length=m)(hx:∀x∈xs,x<256):bC w S (.arr m qw) xs (xs.map (fun (x:Nat)=>Value.int .u8 (x:Int))):=by
 refine⟨hl,xs.map (fun (x:Nat)=>[Value.int .u8 (x:Int)]),(aRN xs).symm,by simp,fun i h h'=>?_⟩
 ·have:=hx xs[i] (List.getElem_mem h);refine⟨by simp,rfl,?_⟩;simp only[IntKind.max,IntKind.signed,IntKind.bits];simp;omega
open Go.Sort in
theorem bHF{cells:Array Value}{xs:List Nat}{uo un u v':Nat}{dk:Array UInt8}(hc:cells.toList=xs.map (fun (x:Nat)=>Value.int .u8 (x:Int)))(I:uo+un≤xs.length)(hF:Lib.FmtInv un u 0 v' dk) :
  (putCells (fun (b:UInt8)=>Value.int .u8 (b.toNat:Int)) uo dk cells).toList=(xs.take uo++dgs un u++xs.drop (uo+un)).map (fun (x:Nat)=>Value.int .u8 (x:Int)):=by
 have f:cells.size=xs.length:=by rw[← Array.length_toList,hc,List.length_map]
 have z:=hF.size;apply List.ext_getElem
 ·simp[putCells,aIc,f]; omega
 ·intro i J L;have hi:i<xs.length:=by simpa [putCells,f] using J
  have g:cells[i]'(by omega)=Value.int .u8 (xs[i]:Int):=by
   have:cells.toList[i]'(by rw[Array.length_toList]; omega)=Value.int .u8 (xs[i]:Int):=by simp[hc]
   simpa using this
  simp only[putCells,Array.toList_mapIdx,List.getElem_mapIdx,Array.getElem_toList,List.getElem_map];by_cases q:uo≤i∧i<uo+dk.size
  ·rw[if_pos q,hF.done (i-uo) (Nat.zero_le _) (by omega)];have:(xs.take uo++dgs un u++xs.drop (uo+un))[i]'(by simpa using L)=48+u/10^(un-1-(i-uo))%10:=by
    rw[List.getElem_append_left (by simp[aIc]; omega),List.getElem_append_right (by simp; omega)];simp[dgs,Nat.min_eq_left (show uo≤xs.length by omega)]
   rw[this];have hm:=Nat.mod_lt (u/10^(un-1-(i-uo))) (show 0<10 by decide);simp only[Lib.dg,UInt8.toNat_ofNat'];rw[Nat.mod_eq_of_lt (by omega)]
  ·rw[if_neg q,g];rcases Nat.lt_or_ge i uo with h|h
   ·rw[List.getElem_append_left (by simp[aIc]; omega),List.getElem_append_left (by simp; omega)];simp
   ·rw[List.getElem_append_right (by simp[aIc]; omega)];simp only[List.length_append,List.length_take,aIc,List.getElem_drop]
    congr 3
    omega
open Go.Sort in
theorem aGs(F:Md):GOK Tryz.prog GL 103 (sO F):=by
 rintro c w ⟨I,L,u,J,r⟩ vs g ⟨good,glob,len,val⟩;have g:iR F I L u J=some r:=g;unfold iR at g;obtain⟨h1,g⟩:=bE g;obtain⟨h2,g⟩:=bE g;have hr:J.take I++dgs L u++J.drop (I+L)=r:=Option.some.inj g;obtain⟨b,cells,e,N,hheap,Y,hcl⟩:=good.objs 0 _ rfl;obtain⟨hl,U,hx⟩:=bMh hcl;have hl:J.length=24:=hl;have U:cells.toList=J.map (fun (x:Nat)=>Value.int .u8 (x:Int)):=U;have hx:∀x∈J,x<256:=hx;have Y:cells.size=24:=by
  rcases Y with h|⟨_,h⟩
  ·exact h
  ·exact absurd h (by omega)
 have hv0:=val 0 (by show 0<2; decide) (by rw[len]; show 0<2; decide);have hv1:=val 1 (by show 1<2; decide) (by rw[len]; show 1<2; decide);obtain⟨_,hn,b',cap,Z,e0⟩:=aTC (i:=0) (s:=1) (off:=I) (n:=L) hv0;obtain⟨e1,_,hu⟩:=aI0 (k:=.u64) (n:=u) hv1;rw[N] at Z;simp only[aW,Option.some.injEq] at Z;subst Z;have hvs:vs= #[.slice (some ⟨b,I*1,none⟩) L cap,.int .u64 (u:Int)]:=by
  have hlen:vs.toList.length=2:=len;rw[← Array.toList_inj];apply List.ext_getElem
  ·exact hlen
  ·intro i a1 a2
   match i,a2 with
   | 0,_=>exact e0
   | 1,_=>exact e1
 have hd:(((J.drop I).take L).map UInt8.ofNat).toArray.size=L:=by simp; omega
 have hcell:∀j (W:j<J.length),w.cell? ⟨b,j,none⟩=some (.int .u8 (J[j]:Int)):=fun j W=>by
  have O:j<cells.size:=by omega
  have:cells[j]=Value.int .u8 (J[j]:Int):=by
   have:cells.toList[j]'(by rw[Array.length_toList]; omega)=Value.int .u8 (J[j]:Int):=by simp[U]
   simpa using this
  simp[World.cell?,hheap,O,this]
 have hH:Holds (fun (b:UInt8)=>Value.int .u8 (b.toNat:Int)) w b I (((J.drop I).take L).map UInt8.ofNat).toArray:=fun j W=>by
  rw[hd] at W;have O:I+j<J.length:=by omega
  refine⟨?_,?_⟩
  ·rw[hcell _ O];have hlt:=hx J[I+j] (List.getElem_mem O);have:(((J.drop I).take L).map UInt8.ofNat).toArray[j]! = UInt8.ofNat J[I+j]:=by
    rw[getElem!_pos _ j (by rw[hd]; exact W)];simp
   rw[this];simp only[UInt8.toNat_ofNat'];rw[Nat.mod_eq_of_lt (by omega)]
  ·simp[World.frozen?,hheap]
 have hB:gT .u64=18446744073709551616:=by decide +kernel
 have key:=Any.internal_strconv_formatBase10 Tryz.lays285 b I cap u _ w hH (by rw[hd]; exact h2) (by omega) (by rw[hd]; omega);rw[hd] at key;rw[hvs,Nat.mul_one];refine Calls.mono (f:=103) key ?_;rintro e w' ⟨rfl,n,v',dk,rfl,hF⟩;refine⟨c,.tuple #[],rfl,?_,?_⟩
 ·have hbl:b<w.heap.size:=(Array.getElem?_eq_some_iff.1 hheap).1;have hpc:=bHF (uo:=I) (xs:=J) (u:=u) (dk:=dk) (un:=L) U (by omega) hF;have hheap':((putRow (fun (b:UInt8)=>Value.int .u8 (b.toNat:Int)) w b I dk).drewN n).heap[b]? = some (.cells (putCells (fun (b:UInt8)=>Value.int .u8 (b.toNat:Int)) I dk cells) e (0,0)):=by
   show (w.heap.modify b (onCells _))[b]? = _;rw[Array.getElem?_modify,if_pos rfl,hheap];rfl
  have hoth:∀k,k≠b→((putRow (fun (b:UInt8)=>Value.int .u8 (b.toNat:Int)) w b I dk).drewN n).heap[k]? = w.heap[k]? := fun k hk=>by
   show (w.heap.modify b (onCells _))[k]? = _;rw[Array.getElem?_modify,if_neg (fun h=>hk h.symm)]
  have hsize:((putRow (fun (b:UInt8)=>Value.int .u8 (b.toNat:Int)) w b I dk).drewN n).heap.size=w.heap.size:=by
   show (w.heap.modify b (onCells _)).size=_;simp
  have hnS:¬c.S b:=(good.own 0 _ b rfl (by show aW (c.hd 0)=some b; rw[N]; rfl)).2.2;refine⟨good.n,⟨rfl,rfl,rfl,Nat.le_of_eq hsize.symm,fun k hk hM=>hoth k (fun hkb=>hM ?_)⟩,fun k hk=>by rw[hsize]; exact good.sfin k hk,good.src,fun i o q=>?_,fun i o k q hk=>?_,fun i j oi oj k hi W hbi hbj=>?_,good.root⟩
  ·subst hkb;exact⟨0,_,rfl,by show aW (c.hd 0)=some k; rw[N]; rfl⟩
  ·match i,q with
   | 0,q =>
    cases q;refine⟨b,_,e,N,hheap',?_,?_⟩
    ·exact .inl (by (simp[putCells,Y])<;>rfl)
    ·show bC _ c.S (.arr 24 qw) r _;rw[hpc,hr];have hrl:r.length=24:=(by rw[← hr]; simp[aIc]; omega);refine bOA hrl (fun x z=>?_);rw[← hr] at z;rcases List.mem_append.1 z with z|z
     ·rcases List.mem_append.1 z with z|z
      ·exact hx x (List.mem_of_mem_take z)
      ·obtain⟨t,_,rfl⟩:=List.mem_map.1 z;have:=Nat.mod_lt (u/10^(L-1-t)) (show 0<10 by decide);omega
     ·exact hx x (List.mem_of_mem_drop z)
   | i+1,q=>cases q
  ·match i,q with
   | 0,q =>
    cases q;have:=good.own 0 _ k rfl hk;rw[hsize]; exact this
   | i+1,q=>cases q
  ·match i,j,hi,W with
   | 0,0,_,_=>rfl
   | 0,j+1,_,W=>cases W
   | i+1,_,hi,_=>cases hi
 ·exact⟨[],rfl,rfl,fun i h1 _=>by cases h1⟩
set_option maxHeartbeats 4000000
def aMI:ByteArray:=⟨⟨48::48::48::49::48::50::48::51::48::52::48::53::48::54::48::55::48::56::48::57::49::48::49::49::49::50::49::51::49::52::49::53::49::54::49::55::49::56::49::57::50::48::50::49::50::50::50::51::50::52::50::53::50::54::50::55::50::56::50::57::51::48::51::49::51::50::51::51::51::52::51::53::51::54::51::55::51::56::51::57::52::48::52::49::52::50::52::51::52::52::52::53::52::54::52::55::52::56::52::57::53::48::53::49::53::50::53::51::53::52::53::53::53::54::53::55::53::56::53::57::54::48::54::49::54::50::54::51::54::52::54::53::54::54::54::55::54::56::54::57::55::48::55::49::55::50::55::51::55::52::55::53::55::54::55::55::55::56::55::57::56::48::56::49::56::50::56::51::56::52::56::53::56::54::56::55::56::56::56::57::57::48::57::49::57::50::57::51::57::52::57::53::57::54::57::55::57::56::57::57:: []⟩⟩
@[go_sem]theorem aXW:(⟨⟨48::48::48::49::48::50::48::51::48::52::48::53::48::54::48::55::48::56::48::57::49::48::49::49::49::50::49::51::49::52::49::53::49::54::49::55::49::56::49::57::50::48::50::49::50::50::50::51::50::52::50::53::50::54::50::55::50::56::50::57::51::48::51::49::51::50::51::51::51::52::51::53::51::54::51::55::51::56::51::57::52::48::52::49::52::50::52::51::52::52::52::53::52::54::52::55::52::56::52::57::53::48::53::49::53::50::53::51::53::52::53::53::53::54::53::55::53::56::53::57::54::48::54::49::54::50::54::51::54::52::54::53::54::54::54::55::54::56::54::57::55::48::55::49::55::50::55::51::55::52::55::53::55::54::55::55::55::56::55::57::56::48::56::49::56::50::56::51::56::52::56::53::56::54::56::55::56::56::56::57::57::48::57::49::57::50::57::51::57::52::57::53::57::54::57::55::57::56::57::57:: []⟩⟩:ByteArray)=aMI:=rfl
def aMJ:ByteArray:=⟨⟨48::49::50::51::52::53::54::55::56::57::97::98::99::100::101::102::103::104::105::106::107::108::109::110::111::112::113::114::115::116::117::118::119::120::121::122:: []⟩⟩
@[go_sem]theorem aXX:(⟨⟨48::49::50::51::52::53::54::55::56::57::97::98::99::100::101::102::103::104::105::106::107::108::109::110::111::112::113::114::115::116::117::118::119::120::121::122:: []⟩⟩:ByteArray)=aMJ:=rfl
def mQ(F:Md)(f:Bool):Option Int :=
 if f=true then some (1:Int) else some (0:Int)
def aCy:PlR:=⟨[(0,.A [0]),(1,.A [3]),(2,.A [2]),(3,.A [2])],[],[]⟩
def aDT:Ty:=.pair .bool .unit
def qM(F:Md):aH:=mSpec aDT (.one qi) (fun x=>mQ F x.1)
abbrev aJ2(F:Md):List (FuncId×aH):=[]
theorem aJ3(F:Md):bA Tryz.prog GL (aJ2 F):=.nil
attribute [go_sem] aDT aCy
theorem aIV(F:Md):FOK Tryz.prog GL 158 (qM F):=by
 refine aX (aY (aJ3 F)) mix Tryz.func158 rfl xAa xAb aCy (fun w0 S x Θ g h hV=>?_);obtain⟨(f:Bool),u⟩:=x;simp only[bD,go_sem];replace h:sat (mQ F f) _:=h;unfold mQ at h;exact zaT
attribute [go_sem] qM
def mR(F:Md)(f:Int):Option Int :=
 ck (I64 (f*(78913:Int))) (some (Int.fdiv (f*(78913:Int)) (2^(18:Nat))))
def aCz:PlR:=⟨[(0,.A [0]),(1,.A [2])],[],[]⟩
def aDU:Ty:=.pair qi .unit
def qN(F:Md):aH:=mSpec aDU (.one qi) (fun x=>mR F x.1)
abbrev aJ4(F:Md):List (FuncId×aH):=[]
theorem aJ5(F:Md):bA Tryz.prog GL (aJ4 F):=.nil
attribute [go_sem] aDU aCz
theorem aIW(F:Md):FOK Tryz.prog GL 156 (qN F):=by
 refine aX (aY (aJ5 F)) mix Tryz.func156 rfl xAa xAb aCz (fun w0 S x Θ g h hV=>?_);obtain⟨(f:Int),u⟩:=x;simp only[bD,go_sem];replace h:sat (mR F f) _:=h;unfold mR at h;exact zab
attribute [go_sem] qN
def bM(F:Md)(f:Nat):Option Int :=
 (mR F (oC f)).bind (fun v_5=>ck (0≤v_5∧v_5<(20:Int)) ((mQ F (decide ((p10.getD (v_5.toNat) (0:Nat))≤f))).bind (fun g=>ck (I64 (v_5+g)) (some (v_5+g)))))
def aCA:PlR:=⟨[(0,.A [0]),(1,.A [0,3]),(2,.A [2])],[],[]⟩
def aDV:Ty:=.pair qk .unit
def qO(F:Md):aH:=mSpec aDV (.one qi) (fun x=>bM F x.1)
abbrev rS(F:Md):List (FuncId×aH):=[(156,(qN F)),(157,wI),(158,(qM F))]
theorem aJ6(F:Md):bA Tryz.prog GL (rS F):=.cons (aIW F) xAa (.cons aK7 xAa (.cons (aIV F) xAa (.nil)))
attribute [go_sem] aDV aCA
theorem aIX(F:Md):FOK Tryz.prog GL 102 (qO F):=by
 refine aX (aY (aJ6 F)) mix Tryz.func102 rfl xAa xAb aCA (fun w0 S x Θ q h hV=>?_);obtain⟨(f:Nat),u⟩:=x;simp only[bD,go_sem];replace h:sat (bM F f) _:=h;unfold bM at h;refine aD h fun v_5 hv h=>?_;try simp only[hv,go_sem]
 refine aG h fun g0 h=>?_;refine aD h fun g hv h=>?_;exact za1
attribute [go_sem] qO
def pG(F:Md)(f:Int):Option qd :=
 if f<(10:Int) then ck (I64 (f+(1:Int))) (ck (0≤f∧f≤(f+(1:Int))∧(f+(1:Int))≤(((aI aMJ).length:Nat):Int)) (some (List.drop (f.toNat) (List.take (f+(1:Int)).toNat (aI aMJ))))) else ck (I64 (f*(2:Int))) (ck (I64 (f*(2:Int))) (ck (I64 ((f*(2:Int))+(2:Int))) (ck (0≤(f*(2:Int))∧(f*(2:Int))≤((f*(2:Int))+(2:Int))∧((f*(2:Int))+(2:Int))≤(((aI aMI).length:Nat):Int)) (some (List.drop (f*(2:Int)).toNat (List.take ((f*(2:Int))+(2:Int)).toNat (aI aMI)))))))
def aF2:PlR:=⟨[(0,.A [0]),(1,.A [0,4]),(2,.A [2]),(3,.A [2])],[],[]⟩
def aHc:Ty:=.pair qi .unit
def xL(F:Md):aH:=mSpec aHc (.one .str) (fun x=>pG F x.1)
abbrev aQv(F:Md):List (FuncId×aH):=[]
theorem aQw(F:Md):bA Tryz.prog GL (aQv F):=.nil
attribute [go_sem] aHc aF2
theorem aOE(F:Md):FOK Tryz.prog GL 101 (xL F):=by
 refine aX (aY (aQw F)) mix Tryz.func101 rfl xAa xAb aF2 (fun w0 S x Θ g h hV=>?_);obtain⟨(f:Int),u⟩:=x;simp only[bD,go_sem];replace h:sat (pG F f) _:=h;unfold pG at h;refine bP h (fun hc h=>?_) fun hc h=>?_
 ·refine aG h fun g0 h=>aG h fun g1 h=>?_;exact zaB
 ·refine aG h fun g0 h=>aG h fun g1 h=>aG h fun q h=>aG h fun z h=>?_;exact zaB
attribute [go_sem] xL
def iS(F:Md)(q:Int)(f:Nat):Option qd :=
 ck ((bM F f).isSome=true) (ck (I64 ((1:Int)+((bM F f).getD (0:Int)))) (ck ((1:Int)<((1:Int)+((bM F f).getD (0:Int)))∧((1:Int)+((bM F f).getD (0:Int)))≤24) ((iR F (1:Nat) (((1:Int)+((bM F f).getD (0:Int)))-(1:Int)).toNat f (List.replicate 24 (0:Nat))).bind (fun g=>if q<(0:Int) then ck (I64 ((1:Int)+((bM F f).getD (0:Int)))) (ck ((0:Int)<((1:Int)+((bM F f).getD (0:Int)))∧((1:Int)+((bM F f).getD (0:Int)))≤24) (ck ((0:Nat)+(((1:Int)+((bM F f).getD (0:Int)))-(0:Int)).toNat≤24) (some (List.take (((1:Int)+((bM F f).getD (0:Int)))-(0:Int)).toNat (List.drop (0:Nat) (g.set (0:Nat) (45:Nat))))))) else ck (I64 ((1:Int)+((bM F f).getD (0:Int)))) (ck ((1:Int)<((1:Int)+((bM F f).getD (0:Int)))∧((1:Int)+((bM F f).getD (0:Int)))≤24) (ck ((1:Nat)+(((1:Int)+((bM F f).getD (0:Int)))-(1:Int)).toNat≤24) (some (List.take (((1:Int)+((bM F f).getD (0:Int)))-(1:Int)).toNat (List.drop (1:Nat) g)))))))))
def mS(F:Md)(f:Int)(g:Int):Option qd :=
 if g=(10:Int) then if ((0:Int)≤f)∧(f<(100:Int)) then ck ((pG F f).isSome=true) (some ((pG F f).getD ([]:List Nat))) else if f<(0:Int) then iS F f (aKN F .u64 (f%(18446744073709551616:Int)).toNat) else iS F f (f%(18446744073709551616:Int)).toNat else none
@[go_sem]def rT:Ty:=.pair qi qo
def qP(F:Md):aH:=mSpec rT (.one .str) (fun x=>mS F x.1 x.2.1)
abbrev rU(F:Md):List (FuncId×aH):=[(101,(xL F)),(102,(qO F))]
theorem aDW(F:Md):bA Tryz.prog GL (rU F):=.cons (aOE F) xAa (.cons (aIX F) xAa (.nil))
theorem aIY(F:Md):FOK Tryz.prog GL 65 (qP F):=by
 refine wH (aY (aDW F)) Tryz.func65 rfl xAa xAb fun w0 S x r J h=>?_;have hF:xT (fr Tryz.prog (EM (rU F)) S w0 Tryz.f65.ntmps):=⟨aY (aDW F),mix⟩;obtain⟨(g:Int),(f:Int),u⟩:=x;simp only[rT,Ty.wf,aE8] at J;simp only[bD,rT];try dsimp only at h
 replace h:mS F g f=some r:=h;unfold mS at h;refine aO (aM hF [0,1] ?_);simp only[go_sem,aR F,aS F,aT F];refine aP (aO (aO (aM hF [0,1,11] ?_)));simp only[go_sem,aR F,aS F,aT F];refine aP (cE rfl (fun hc=>?_) (fun hc=>?_))
 ·try simp only[go_sem,aR F,aS F,aT F] at hc
  have h:=jZ zAD h;refine aO (aO (aM hF [0,17] ?_));simp only[go_sem,aR F,aS F,aT F];refine aP (cE rfl (fun hc=>?_) (fun hc=>?_))
  ·(try simp only[go_sem,aR F,aS F,aT F] at hc);have h:=jZ zAD h;refine aO (aM hF [4] ?_);simp only[go_sem,aR F,aS F,aT F];obtain⟨g0,h⟩:=bE h;exact zav
  ·(try simp only[go_sem,aR F,aS F,aT F] at hc);have h:=iW zAD h;refine dA (aP (aO (dI hF [0,5] ?_)));simp only[go_sem,aR F,aS F,aT F];refine aP (aO (aM hF [0,5,6] ?_));simp only[go_sem,aR F,aS F,aT F];refine aP (zD (D:=Nat) (fun d=>iS F g d=some r) [0] (fun d=>[(5,.ptr 0 []),(6,.val qk d)]) (fun d=>[.inr (.box 24 (.val (.arr 24 qw) (List.replicate 24 (0:Nat))))]) ?_ ?_)
   ·refine aO (aM hF [0,5,6,23] ?_);simp only[go_sem,aR F,aS F,aT F];refine aP (cE rfl (fun hc=>?_) (fun hc=>?_))
    ·(try simp only[go_sem,aR F,aS F,aT F] at hc);have h:=jZ zAD h;refine aM hF [0,5,6] ?_;simp only[go_sem,aR F,aS F,aT F];refine cD (aK (aKN F .u64 (g%(18446744073709551616:Int)).toNat) h rfl ?_)
     ·(try simp only[rY,kN,true_or,and_self,go_sem,aR F,aS F,aT F])<;>(repeat' apply And.intro)<;>first|rfl|(left; rfl)|(right; rfl)|(left; simp only[go_sem,aR F,aS F,aT F]; done)|(right; simp only[go_sem,aR F,aS F,aT F]; done)|(simp; done)|(simp only[*]; done)|omega
    ·(try simp only[go_sem,aR F,aS F,aT F] at hc);have h:=iW zAD h;refine dA (cD (aK (g%(18446744073709551616:Int)).toNat h rfl ?_))
     ·(try simp only[rY,kN,true_or,and_self,go_sem,aR F,aS F,aT F])<;>(repeat' apply And.intro)<;>first|rfl|(left; rfl)|(right; rfl)|(left; simp only[go_sem,aR F,aS F,aT F]; done)|(right; simp only[go_sem,aR F,aS F,aT F]; done)|(simp; done)|(simp only[*]; done)|omega
   ·rintro q h;(try dsimp only at h);simp only[go_sem,aR F,aS F,aT F];unfold iS at h;refine aO (aM hF [0,5,6,7] ?_);simp only[go_sem,aR F,aS F,aT F];obtain⟨g0,h⟩:=bE h;(repeat (refine⟨zAH,?_⟩));obtain⟨g0,h⟩:=bE h;(try simp only[I64,I32] at g0);obtain⟨g1,h⟩:=bE h;obtain⟨z,L,h⟩:=bind_some h;(try dsimp only at h);refine aP (aO (uH hF (aFN (l:=[(103,⟨sO F,[0],((1:Nat),(((1:Int)+((bM F q).getD (0:Int)))-(1:Int)).toNat,q,(List.replicate 24 (0:Nat)),z)⟩)]) (.cons (aGs F) xAa (.nil))) [0,5,7] [30] ?_));simp only[go_sem,aR F,aS F,aT F];(repeat (refine⟨zAH,?_⟩));refine aP (aO (aO (aM hF [5,7,34] ?_)));simp only[go_sem,aR F,aS F,aT F];refine aP (cE rfl (fun hc=>?_) (fun hc=>?_))
    ·(try simp only[go_sem,aR F,aS F,aT F] at hc);have h:=jZ zAD h;refine aO (dI hF [5,7] ?_);simp only[go_sem,aR F,aS F,aT F];obtain⟨g0,h⟩:=bE h;(try simp only[I64,I32] at g0);obtain⟨g1,h⟩:=bE h;obtain⟨I,h⟩:=bE h;refine aP (aO (uH hF (aFN (l:=[]) (.nil)) [4] [38] ?_));simp only[go_sem,aR F,aS F,aT F];exact zav
    ·(try simp only[go_sem,aR F,aS F,aT F] at hc);have h:=iW zAD h;obtain⟨g0,h⟩:=bE h;(try simp only[I64,I32] at g0);obtain⟨g1,h⟩:=bE h;obtain⟨I,h⟩:=bE h;refine dA (aP (aO (uH hF (aFN (l:=[]) (.nil)) [4] [42] ?_)));simp only[go_sem,aR F,aS F,aT F];(repeat (refine⟨zAH,?_⟩));obtain rfl:=Option.some.inj h;refine aP (dL (bU (dR hF [.tmp 4] rfl rfl rfl ?_)))
     (try simp only[gK,aQ,go_sem,aR F,aS F,aT F])<;>first|rfl|(simp; done)
 ·try simp only[go_sem,aR F,aS F,aT F] at hc
  have h:=iW zAD h;cases h
attribute [go_sem] qP
def wC(F:Md)(f:Int):Option qd :=
 (mS F f (10:Int)).bind (fun v_5=>some v_5)
def aHd:PlR:=⟨[(0,.A [0]),(1,.A [2])],[],[]⟩
def aID:Ty:=.pair qi .unit
def zY(F:Md):aH:=mSpec aID (.one .str) (fun x=>wC F x.1)
abbrev aIE(F:Md):List (FuncId×aH):=[(65,(qP F))]
theorem aS7(F:Md):bA Tryz.prog GL (aIE F):=.cons (aIY F) xAa (.nil)
attribute [go_sem] aID aHd
theorem aQx(F:Md):FOK Tryz.prog GL 39 (zY F):=by
 refine aX (aY (aS7 F)) mix Tryz.func39 rfl xAa xAb aHd (fun w0 S x Θ g h hV=>?_);obtain⟨(f:Int),u⟩:=x;simp only[bD,go_sem];replace h:sat (wC F f) _:=h;unfold wC at h;exact zaU
attribute [go_sem] zY
def mT(F:Md)(f:Int):Option qd :=
 (wC F f).bind (fun v_5=>some v_5)
def aIF:PlR:=⟨[(0,.A [0]),(1,.A [2])],[],[]⟩
def aJ7:Ty:=.pair qi .unit
def aAV(F:Md):aH:=mSpec aJ7 (.one .str) (fun x=>mT F x.1)
abbrev aJ8(F:Md):List (FuncId×aH):=[(39,(zY F))]
theorem aV2(F:Md):bA Tryz.prog GL (aJ8 F):=.cons (aQx F) xAa (.nil)
attribute [go_sem] aJ7 aIF
theorem aS8(F:Md):FOK Tryz.prog GL 22 (aAV F):=by
 refine aX (aY (aV2 F)) mix Tryz.func22 rfl xAa xAb aIF (fun w0 S x Θ g h hV=>?_);obtain⟨(f:Int),u⟩:=x;simp only[bD,go_sem];replace h:sat (mT F f) _:=h;unfold mT at h;exact zaU
attribute [go_sem] aAV
attribute [-go_sem] Ex.kind Ex.text Ex.l
@[go_sem]def aEI:Ty:=.pair .expr .unit
@[go_sem]def sP(g:Ex→Option qd):aH:=mSpec aEI (.one .str) (fun x=>g x.1)
def eJ(F:Md)(g:Ex→Option qd)(q:Ex)(f:Int)(z:Int):Option qd :=
 if (((q.l).length:Nat):Int)≤f then some (aI ⟨#[]⟩) else ck (0≤f∧f<(((q.l).length:Nat):Int)) (if (((0:Int)≤((q.l).getD (f.toNat) (Ex.mk 0 [] [])).kind)∧(((q.l).getD (f.toNat) (Ex.mk 0 [] [])).kind<(60:Int)))∧((IntKind.i64.wrap ((BitVec.ofInt 64 (Int.fdiv z (2^(((q.l).getD (f.toNat) (Ex.mk 0 [] [])).kind%(18446744073709551616:Int)).toNat))&&&BitVec.ofInt 64 (1:Int)).toNat:Int))=(1:Int)) then (g ((q.l).getD (f.toNat) (Ex.mk 0 [] []))).bind (fun I=>ck ((aI ⟨#[40]⟩).length+(I.length)≤9223372036854775807) (ck (((aI ⟨#[40]⟩)++I).length+(aI ⟨#[41]⟩).length≤9223372036854775807) (some (((aI ⟨#[40]⟩)++I)++(aI ⟨#[41]⟩))))) else (g ((q.l).getD (f.toNat) (Ex.mk 0 [] []))).bind (fun J=>some J))
def aRO:PlR:=⟨[(0,.B [1,2,3]),(1,.A [1,2,3,12]),(2,.A [6]),(3,.B [2,7]),(4,.A [7,34]),(5,.A [6]),(6,.A [6])],[],[]⟩
def aV3:Ty:=.pair .expr (.pair qi qo)
def aF3(F:Md)(g:Ex→Option qd):aH:=mSpec aV3 (.one .str) (fun x=>eJ F g x.1 x.2.1 x.2.2.1)
abbrev aV4(F:Md)(g:Ex→Option qd):List (FuncId×aH):=[(8,(sP g))]
theorem bEU(F:Md)(g:Ex→Option qd)(f:FOK Tryz.prog GL 8 (sP g)):bA Tryz.prog GL (aV4 F g):=.cons f xAa (.nil)
attribute [go_sem] aV3 aRO
theorem bDj(F:Md)(g:Ex→Option qd)(L:FOK Tryz.prog GL 8 (sP g)):FOK Tryz.prog GL 16 (aF3 F g):=by
 refine aX (aY (bEU F g L)) mix Tryz.func16 rfl xAa xAb aRO (fun w0 S x Θ N h hV=>?_);obtain⟨(q:Ex),(z:Int),(f:Int),u⟩:=x;simp only[bD,go_sem];replace h:sat (eJ F g q z f) _:=h;unfold eJ at h;refine aGc h (fun hc h=>?_) fun hc h=>?_
 ·exact aE hV [.tmp 6] rfl rfl rfl (aA h) xAd
 ·refine aG h fun g0 h=>?_;refine⟨fun hc=>?_,fun hc=>?_⟩
  ·replace h:=cW hc h;refine aD h fun J hv h=>?_;(try simp only[hv,go_sem]);refine aG h fun g0 h=>aG h fun g1 h=>?_;exact aE hV [.tmp 6] rfl rfl rfl (aA h) xAd
  ·replace h:=cX hc h;refine aD h fun I hv h=>?_;(try simp only[hv,go_sem]);exact aE hV [.tmp 6] rfl rfl rfl (aA h) xAd
attribute [go_sem] aF3
def cL(F:Md)(g:Ex→Option qd)(f:Ex):Option qd :=
 if (f.kind)=(6:Int) then (eJ F g f (0:Int) (0:Int)).bind (fun N=>ck ((N.length)+(aI ⟨#[32,43,32]⟩).length≤9223372036854775807) ((eJ F g f (1:Int) (192:Int)).bind (fun U=>ck ((N++(aI ⟨#[32,43,32]⟩)).length+(U.length)≤9223372036854775807) (some ((N++(aI ⟨#[32,43,32]⟩))++U))))) else if (f.kind)=(7:Int) then (eJ F g f (0:Int) (0:Int)).bind (fun L=>ck ((L.length)+(aI ⟨#[32,45,32]⟩).length≤9223372036854775807) ((eJ F g f (1:Int) (192:Int)).bind (fun Y=>ck ((L++(aI ⟨#[32,45,32]⟩)).length+(Y.length)≤9223372036854775807) (some ((L++(aI ⟨#[32,45,32]⟩))++Y))))) else if (f.kind)=(8:Int) then (eJ F g f (0:Int) (192:Int)).bind (fun I=>ck ((I.length)+(aI ⟨#[32,42,32]⟩).length≤9223372036854775807) ((eJ F g f (1:Int) (960:Int)).bind (fun Z=>ck ((I++(aI ⟨#[32,42,32]⟩)).length+(Z.length)≤9223372036854775807) (some ((I++(aI ⟨#[32,42,32]⟩))++Z))))) else if (f.kind)=(9:Int) then (eJ F g f (0:Int) (192:Int)).bind (fun J=>ck ((J.length)+(aI ⟨#[32,47,32]⟩).length≤9223372036854775807) ((eJ F g f (1:Int) (960:Int)).bind (fun v_81=>ck ((J++(aI ⟨#[32,47,32]⟩)).length+(v_81.length)≤9223372036854775807) (some ((J++(aI ⟨#[32,47,32]⟩))++v_81))))) else if (f.kind)=(10:Int) then (eJ F g f (0:Int) (960:Int)).bind (fun W=>ck ((aI ⟨#[45]⟩).length+(W.length)≤9223372036854775807) (some ((aI ⟨#[45]⟩)++W))) else if (f.kind)=(11:Int) then (eJ F g f (0:Int) (0:Int)).bind (fun O=>ck ((aI ⟨#[115,113,114,40]⟩).length+(O.length)≤9223372036854775807) (ck (((aI ⟨#[115,113,114,40]⟩)++O).length+(aI ⟨#[41]⟩).length≤9223372036854775807) (some (((aI ⟨#[115,113,114,40]⟩)++O)++(aI ⟨#[41]⟩))))) else if (f.kind)=(12:Int) then (eJ F g f (0:Int) (0:Int)).bind (fun z=>ck ((aI ⟨#[115,113,114,116,40]⟩).length+(z.length)≤9223372036854775807) (ck (((aI ⟨#[115,113,114,116,40]⟩)++z).length+(aI ⟨#[41]⟩).length≤9223372036854775807) (some (((aI ⟨#[115,113,114,116,40]⟩)++z)++(aI ⟨#[41]⟩))))) else if (f.kind)=(13:Int) then (eJ F g f (0:Int) (0:Int)).bind (fun q=>ck ((aI ⟨#[101,120,112,40]⟩).length+(q.length)≤9223372036854775807) (ck (((aI ⟨#[101,120,112,40]⟩)++q).length+(aI ⟨#[41]⟩).length≤9223372036854775807) (some (((aI ⟨#[101,120,112,40]⟩)++q)++(aI ⟨#[41]⟩))))) else some (f.text)
def aLL:PlR:=⟨[(0,.B [1]),(1,.A [1,4]),(2,.A [1,4,5]),(3,.A [2]),(4,.A [1,4,13]),(5,.A [2]),(6,.A [1,4,21]),(7,.A [2]),(8,.A [1,4,29]),(9,.A [2]),(10,.A [1,4,37]),(11,.A [2]),(12,.A [1,4,42]),(13,.A [2]),(14,.A [1,4,48]),(15,.A [2]),(16,.A [1,54]),(17,.A [2]),(18,.A [2])],[],[]⟩
abbrev aOG(F:Md)(g:Ex→Option qd):List (FuncId×aH):=[(16,(aF3 F g))]
theorem bAO(F:Md)(g:Ex→Option qd)(f:FOK Tryz.prog GL 8 (sP g)):bA Tryz.prog GL (aOG F g):=.cons (bDj F g f) xAa (.nil)
attribute [go_sem] aLL
theorem aV5(F:Md)(g:Ex→Option qd)(hg:FOK Tryz.prog GL 8 (sP g)):FOK Tryz.prog GL 8 (mSpec aEI (.one .str) (fun x=>cL F g x.1)):=by
 refine aX (aY (bAO F g hg)) mix Tryz.func8 rfl xAa xAb aLL (fun w0 S x Θ hw h hV=>?_);obtain⟨(f:Ex),u⟩:=x;simp only[bD,go_sem];replace h:sat (cL F g f) _:=h;unfold cL at h;refine bS h (fun hc h=>?_) fun hc h=>?_
 ·refine aD h fun Z hv h=>?_;try simp only[hv,go_sem]
  refine aG h fun g0 h=>?_;refine aD h fun q hv h=>?_;exact za1
 ·refine bS h (fun hc h=>?_) fun hc h=>?_
  ·refine aD h fun Y hv h=>?_;(try simp only[hv,go_sem]);refine aG h fun g0 h=>?_;refine aD h fun J hv h=>?_;exact za1
  ·refine bS h (fun hc h=>?_) fun hc h=>?_
   ·refine aD h fun O hv h=>?_;(try simp only[hv,go_sem]);refine aG h fun g0 h=>?_;refine aD h fun L hv h=>?_;exact za1
   ·refine bS h (fun hc h=>?_) fun hc h=>?_
    ·refine aD h fun U hv h=>?_;(try simp only[hv,go_sem]);refine aG h fun g0 h=>?_;refine aD h fun W hv h=>?_;exact za1
    ·refine bS h (fun hc h=>?_) fun hc h=>?_
     ·refine aD h fun I hv h=>?_;exact za1
     ·refine bS h (fun hc h=>?_) fun hc h=>?_
      ·refine aD h fun v_89 hv h=>?_;(try simp only[hv,go_sem]);refine aG h fun g0 h=>aG h fun g1 h=>?_;exact zaB
      ·refine bS h (fun hc h=>?_) fun hc h=>?_
       ·refine aD h fun N hv h=>?_;(try simp only[hv,go_sem]);refine aG h fun g0 h=>aG h fun g1 h=>?_;exact zaB
       ·refine bS h (fun hc h=>?_) fun hc h=>?_
        ·refine aD h fun z hv h=>?_;(try simp only[hv,go_sem]);refine aG h fun g0 h=>aG h fun g1 h=>?_;exact zaB
        ·exact aE hV [.tmp 2] rfl rfl rfl (aA h) xAd
def dF(F:Md):Nat→Ex→Option qd
 | 0=>fun _=>none
 | n+1=>cL F (dF F n)
def oY(F:Md)(n:Nat):aH:=mSpec aEI (.one .str) (fun x=>dF F n x.1)
theorem aDl(F:Md):∀n,FOK Tryz.prog GL 8 (oY F n)
 | 0=>fun _ _ _ _ _ _ _ hp=>Bool.noConfusion (show false=true from hp)
 | n+1=>aV5 F _ (aDl F n)
attribute [go_sem] oY
def vI(F:Md)(f:qm):Option qd :=
 if f.2.1=(aI ⟨#[]⟩) then some f.1 else ck ((f.1.length)+(aI ⟨#[32]⟩).length≤9223372036854775807) (ck ((f.1++(aI ⟨#[32]⟩)).length+(f.2.1.length)≤9223372036854775807) (some ((f.1++(aI ⟨#[32]⟩))++f.2.1)))
def aLM:PlR:=⟨[(0,.B [1]),(1,.A [1,5]),(2,.A [2]),(3,.A [2])],[],[]⟩
def aOH:Ty:=.pair qn .unit
def aDm(F:Md):aH:=mSpec aOH (.one .str) (fun x=>vI F x.1)
abbrev bAP(F:Md):List (FuncId×aH):=[]
theorem bAQ(F:Md):bA Tryz.prog GL (bAP F):=.nil
attribute [go_sem] aOH aLM
theorem aXY(F:Md):FOK Tryz.prog GL 23 (aDm F):=by
 refine aX (aY (bAQ F)) mix Tryz.func23 rfl xAa xAb aLM (fun w0 S x Θ g h hV=>?_);obtain⟨(f:qm),u⟩:=x;simp only[bD,go_sem];replace h:sat (vI F f) _:=h;unfold vI at h;exact za2
attribute [go_sem] aDm
end
end Nu
end Go.Proofs
namespace Go.Proofs
open Go.Shelf
def Tryz.lays156_ren:Go.Shelf.Ren:=⟨fun|156=>21|165=>38|166=>20|169=>24|240=>37|241=>64|276=>63|277=>100|n=>n,fun|31=>42|9=>9|3=>3|4=>4|0=>0|20=>20|72=>58|76=>61|70=>55|37=>56|75=>60|127=>86|164=>103|5=>5|80=>71|n=>n,fun|n=>n⟩
theorem Tryz.lays156:Go.Proofs.Lays.n156 Tryz.prog Tryz.lays156_ren:={
 mixed:=by kernel_rfl
 f156:=Tryz.func21.trans (congrArg some (by kernel_rfl))
 f165:=Tryz.func38.trans (congrArg some (by kernel_rfl))
 f166:=Tryz.func20.trans (congrArg some (by kernel_rfl))
 f169:=Tryz.func24.trans (congrArg some (by kernel_rfl))
 f240:=Tryz.func37.trans (congrArg some (by kernel_rfl))
 f241:=Tryz.func64.trans (congrArg some (by kernel_rfl))
 f276:=Tryz.func63.trans (congrArg some (by kernel_rfl))
 f277:=Tryz.func100.trans (congrArg some (by kernel_rfl))
 t0:=Tryz.underlying0
 a0:=Tryz.isAgg0
 z0:=Tryz.sizeOf0
 v0:=Tryz.zeroValue0
 t3:=Tryz.underlying3
 a3:=Tryz.isAgg3
 z3:=Tryz.sizeOf3
 v3:=Tryz.zeroValue3
 t4:=Tryz.underlying4
 a4:=Tryz.isAgg4
 z4:=Tryz.sizeOf4
 v4:=Tryz.zeroValue4
 t9:=Tryz.underlying9
 a9:=Tryz.isAgg9
 z9:=Tryz.sizeOf9
 v9:=Tryz.zeroValue9
 t20:=Tryz.underlying20
 a20:=Tryz.isAgg20
 z20:=Tryz.sizeOf20
 v20:=Tryz.zeroValue20
 t31:=Tryz.underlying42
 a31:=Tryz.isAgg42
 z31:=Tryz.sizeOf42
 v31:=Tryz.zeroValue42
 t37:=Tryz.underlying56
 a37:=Tryz.isAgg56
 z37:=Tryz.sizeOf56
 v37:=Tryz.zeroValue56
 t70:=Tryz.underlying55
 a70:=Tryz.isAgg55
 z70:=Tryz.sizeOf55
 v70:=Tryz.zeroValue55
 t72:=Tryz.underlying58
 a72:=Tryz.isAgg58
 z72:=Tryz.sizeOf58
 v72:=Tryz.zeroValue58
 t75:=Tryz.underlying60
 a75:=Tryz.isAgg60
 z75:=Tryz.sizeOf60
 v75:=Tryz.zeroValue60
 t76:=Tryz.underlying61
 a76:=Tryz.isAgg61
 z76:=Tryz.sizeOf61
 v76:=Tryz.zeroValue61
 t127:=Tryz.underlying86
 a127:=Tryz.isAgg86
 z127:=Tryz.sizeOf86
 v127:=Tryz.zeroValue86
 t164:=Tryz.underlying103
 a164:=Tryz.isAgg103
 z164:=Tryz.sizeOf103
 v164:=Tryz.zeroValue103 }
theorem Tryz.bx156:Builder.Extra Tryz.prog Tryz.lays156_ren where
 sizeBuilder:=by kernel_rfl
 liesBuilder:=by kernel_rfl
 t5:=Tryz.underlying5
 a5:=Tryz.isAgg5
 z5:=Tryz.sizeOf5
 v5:=Tryz.zeroValue5
 infoByte:=by kernel_rfl
 cellsByte:=by kernel_rfl
 sizeByte:=by kernel_rfl
 neB5:=by decide
open Go.Vc
set_option maxRecDepth 20000
namespace Nu
noncomputable section
def iU(F:Md)(o:Bool×List Nat):Option (Bool×List Nat):=some (false,o.2)
@[go_sem]def nT(F:Md):qW where
 D:=wc×wc
 av:=fun d=>[.ptr 0 []]
 hp:=fun d=>[.box 4294967354 (.agg [pk d.1.1 0,.own 1]),.row 5 qw d.1.2]
 m:=1
 pre:=fun d=>iU F d.1=some d.2
 out:=fun d=>(fun r:wc=>.ret (.tup []) [.box 4294967354 (.agg [pk (r).1 0,.own 1]),.row 5 qw (r).2]) d.2
@[go_sem]def wD(F:Md)(vs:List AV)(h:List Vc.Obj):Hit:=mkH (iU F (aNj h (aA6 vs 0))) (false,([]:List Nat)) fun r=>⟨(nT F),[(aA6 vs 0),(bHo h (aA6 vs 0) 1)],((aNj h (aA6 vs 0)),r)⟩
def sQ(F:Md)(o:Bool×List Nat):Option qd:=some o.2
@[go_sem]def kR(F:Md):qW where
 D:=wc×qd
 av:=fun d=>[.ptr 0 []]
 hp:=fun d=>[.box 4294967354 (.agg [pk d.1.1 0,.own 1]),.row 5 qw d.1.2]
 m:=1
 pre:=fun d=>sQ F d.1=some d.2
 out:=fun d=>(fun r:qd=>.ret (.val .str r) [.dead]) d.2
@[go_sem]def aAl(F:Md)(vs:List AV)(h:List Vc.Obj):Hit:=mkH (sQ F (aNj h (aA6 vs 0))) ([]:List Nat) fun r=>⟨(kR F),[(aA6 vs 0),(bHo h (aA6 vs 0) 1)],((aNj h (aA6 vs 0)),r)⟩
theorem bDk{b:Nat}{c:Ctx}{w:World}{vs:Array Value}(hl:vs.toList.length=1)(hb:c.hd 0= .pointer (some ⟨b,0,none⟩))(hv:∀(q:0<vs.toList.length),aZ c w (.ptr 0 []) vs.toList[0]):vs= #[.pointer (some ⟨b,0,none⟩)]:=by
 obtain⟨_,I,f,e⟩:=aFJ (hv (by omega));rw[hb] at f;simp only[aW,Option.some.injEq] at f;subst f;rw[← Array.toList_inj];refine List.ext_getElem hl fun i z g=>?_
 match i,g with
 | 0,_=>exact e
theorem aD8(F:Md):GOK Tryz.prog GL 37 (nT F):=by
 rintro c w ⟨⟨b,L⟩,r⟩ U g ⟨good,glob,len,val⟩;obtain rfl:(false,L)=r:=Option.some.inj g;obtain⟨B,q1,q,O⟩:=aUE good (i:=0) (j:=1) (tb:=58) rfl rfl;have z:=bDk len q1 (fun N=>val 0 (by show 0<1; decide) N);rw[z];have J:aZ c w (.tup []) (.tuple #[]):=⟨[],rfl,rfl,fun i I _=>by cases I⟩;cases b with
 | true =>
  refine Calls.mono (f:=37) (Any.Builder_copyCheck_fresh { Tryz.lays156 with } Tryz.bx156.toX72 B w (by rw[Lib.cell_of_heap q]; rfl) (by simp[World.shape?,q]; rfl) (Lib.frozen_of_heap q 0)) ?_;rintro e w' ⟨rfl,rfl⟩;exact⟨c,.tuple #[],rfl,bJf good (i:=0) (j:=1) (tb:=58) rfl rfl q1,⟨[],rfl,rfl,fun i I _=>by cases I⟩⟩
 | false =>
  refine Calls.mono (f:=37) (Any.Builder_copyCheck_used { Tryz.lays156 with } Tryz.bx156.toX72 B w (by rw[Lib.cell_of_heap q]; rfl)) ?_;rintro e w' ⟨rfl,rfl⟩;exact⟨c,.tuple #[],rfl,good,J⟩
theorem aFE(F:Md):GOK Tryz.prog GL 24 (kR F):=by
 rintro c w ⟨⟨b,U⟩,r⟩ vs N ⟨good,glob,len,val⟩;obtain rfl:U=r:=Option.some.inj N;obtain⟨B,q1,L,q3⟩:=aUE good (i:=0) (j:=1) (tb:=58) rfl rfl;have hvs:=bDk len q1 (fun Z=>val 0 (by show 0<1; decide) Z);rw[hvs];obtain⟨l,hx,hl⟩:=bHn q3;have hlm:l.length≤maxLen:=by
  rcases hl with⟨_,rfl⟩|⟨g,I,J,_,_,h1,Z,_⟩
  ·exact Nat.zero_le _
  ·exact Nat.le_trans h1 Z
 have z:∀(g:Option Nat) (w':World),(∀b',g=some b'→aW (c.hd 1)=some b')→w.grownBy w' g→aMd (kR F) c w ((b,U),U) (.returned (.string ⟨l.toArray⟩)) w':=fun g w' W q=>by
  refine⟨⟨c.S,c.hd,1,c.bl⟩,.string ⟨l.toArray⟩,rfl,bJg good (i:=0) (j:=1) rfl rfl rfl q W,?_,(fun h=>by cases h),fun _ cs=>by simp⟩;show bC w' c.S .str U [.string ⟨l.toArray⟩];exact⟨_,rfl,(by simp only[aI]; exact hx.symm),hlm⟩
 rcases hl with⟨e1,rfl⟩|⟨g,I,J,e1,W,Y,hcm,hcs,hcell⟩
 ·rw[e1] at L;refine Calls.mono (f:=24) (bEj { Tryz.lays156 with } Tryz.bx156 B _ w L) ?_;rintro e w' ⟨rfl,q⟩;exact z _ _ (fun _ h=>by cases h) q
 ·rw[e1] at L;by_cases h0:l= []
  ·subst h0;by_cases O:I=0
   ·subst O;refine Calls.mono (f:=24) (aW6 { Tryz.lays156 with } Tryz.bx156 B g _ J w L W) ?_;rintro e w' ⟨rfl,q⟩;exact z _ _ (fun _ h=>by cases h) q
   ·refine Calls.mono (f:=24) (bCd { Tryz.lays156 with } Tryz.bx156 B g I _ w O L) ?_;rintro e w' ⟨rfl,q⟩;exact z _ _ (fun _ h=>by cases h) q
  ·refine Calls.mono (f:=24) (bCc { Tryz.lays156 with } Tryz.bx156 B g I _ J l w h0 L W Y hcm hcs hcell) ?_;rintro e w' ⟨rfl,q⟩;exact z _ _ (fun b' h=>by cases h; rw[e1]; rfl) q
def aFt(xs:List qd)(sep:List Nat):List Nat:=sep.intercalate xs
def bGv(xs:List qd)(sep:List Nat):Prop:=xs.length≤140737488355328∧(aFt xs sep).length≤140737488355328
instance (xs:List qd) (sep:List Nat):Decidable (bGv xs sep):=by unfold bGv; infer_instance
theorem aYS{s:ByteArray}{x:List Nat}(h:aI s=x):s.data.toList=x.map UInt8.ofNat:=by
 subst h;simp[aI,List.map_map,Function.comp_def]
theorem bDl{α β:Type}(f:α→β)(sep:List α):∀xs:List (List α),(sep.intercalate xs).map f=(sep.map f).intercalate (xs.map (List.map f))
 | []=>rfl
 | [x]=>by simp[List.intercalate]
 | x::y::r=>by
  have:=bDl f sep (y::r);simp only[List.intercalate,List.intersperse,List.flatten_cons,List.map_append,List.map_cons] at this ⊢;rw[this]
@[go_sem]def aJ9:Ty:=.pair qx wi
@[go_sem]def aAW:aH:=⟨aJ9,.one .str,fun x=>bGv x.1 x.2.1,fun x=>aFt x.1 x.2.1⟩
theorem aTa:FOK Tryz.prog GL 21 aAW:=by
 rintro w S vs ⟨g,sep,u⟩ hS hG ⟨v,vs',e1,N,v2,vs2,e2,Y,Z⟩ ⟨p1,p2⟩;have N:bC w S qx g [v]:=N;obtain⟨a,len,J,ev,hl,hlc,hcm,W⟩:=N;have Y:bC w S .str sep [v2]:=Y;obtain⟨s,es,hs,hsz⟩:=Y;have hl:g.length=len:=hl;have Z:vs2= []:=Z;have hvs:vs= #[.slice a len J,.string s]:=by
  rw[← Array.toList_inj,e1,e2,Z,(List.cons.inj ev).1,(List.cons.inj es).1]
 rw[hvs];have z:∀(t:List UInt8) (w':World),t.map (·.toNat)=aFt g sep→cZ w' (fun b=>S b∨(w.heap.size≤b∧b<w'.heap.size)) .str (aFt g sep) (.string ⟨t.toArray⟩):=fun t w' ht=>by
  show bC w' (fun b=>S b∨(w.heap.size≤b∧b<w'.heap.size)) .str (aFt g sep) [.string ⟨t.toArray⟩];refine⟨_,rfl,by simp[aI,ht],?_⟩;have:t.length=(aFt g sep).length:=by rw[← ht,List.length_map]
  have hp:(aFt g sep).length≤140737488355328:=p2;show t.length≤maxLen;unfold maxLen;omega
 rcases W with W|⟨b,off,ea,hb,hc⟩
 ·have W:g= []:=W;subst W;have hl0:len=0:=hl.symm;subst hl0;refine Calls.mono (f:=21) (Any.strings_Join_none Tryz.lays156 Tryz.bx156 a J s w) ?_;rintro e w' ⟨rfl,rfl⟩;exact⟨.string ⟨#[]⟩,rfl,.refl _ _,z [] w' rfl⟩
 ·have ex:g=(g.map (fun l=>(⟨(l.map UInt8.ofNat).toArray⟩:ByteArray))).map aI:=by
   rw[List.map_map];apply List.ext_getElem
   ·simp
   ·intro i N Y;obtain⟨ds,hd,_⟩:=hc i N;obtain⟨s',_,q,_⟩:=hd;have hb:=aYS q;simp only[List.getElem_map,Function.comp];show g[i]=List.map _ ((g[i]).map UInt8.ofNat);rw[← hb]; exact q.symm
  subst ea;have hcells:∀(j:Nat) x,(g.map (fun l=>(⟨(l.map UInt8.ofNat).toArray⟩:ByteArray)))[j]? = some x→w.cell? ⟨b,off+j,none⟩=some (.string x):=fun j x hx=>by
   have U:j<g.length:=by
    rcases Nat.lt_or_ge j g.length with h|h
    ·exact h
    ·rw[List.getElem?_eq_none (by simpa using h)] at hx; cases hx
   obtain⟨ds,hd,hcell⟩:=hc j U;obtain⟨s',I,q,_⟩:=hd;have I:ds= [.string s']:=I;have:=hcell 0 (.string s') (by rw[I]; rfl);rw[List.getElem?_map,List.getElem?_eq_getElem U] at hx;have hx:(⟨((g[j]).map UInt8.ofNat).toArray⟩:ByteArray)=x:=Option.some.inj hx;rw[← hx,← aYS q]
   simpa [Ty.cells] using this
  have hsd:s.data.toList.map (·.toNat)=sep:=hs;have U:(Lib.join ((g.map (fun l=>(⟨(l.map UInt8.ofNat).toArray⟩:ByteArray))).map (·.data.toList)) s.data.toList).map (·.toNat)=aFt g sep:=by
   unfold Lib.join aFt;rw[bDl,hsd]
   congr 1
   conv=>rhs; rw[ex]
   simp only[List.map_map];rfl
  have O:=Any.strings_Join Tryz.lays156 Tryz.bx156 b off J (g.map (fun l=>(⟨(l.map UInt8.ofNat).toArray⟩:ByteArray))) s w hcells (hS b hb) (by rw[List.length_map]; exact p1) (by rw[List.length_map,hl]; exact hlc) (by
   have:=congrArg List.length U;rw[List.length_map] at this;rw[this]; exact p2)
  rw[List.length_map,hl] at O;refine Calls.mono (f:=21) O ?_;rintro e w' ⟨rfl,L⟩;exact⟨_,rfl,fB.of_below L,z _ w' U⟩
set_option maxHeartbeats 4000000
attribute [-go_sem] Ex.kind Ex.text Ex.l
def dM(F:Md)(q:qd)(f:wc):Option (wk×wc) :=
 (iU F (f.1,f.2)).bind (fun g=>ck (((g.2.length)+(q.length))*1≤140737488355328) (some (((q.length:Int),(),()),g.1,(g.2++q))))
def lQ(F:Md):qW where
 D:=qd×wc×(wk×wc)
 av:=fun d=>[.ptr 0 [],.val .str d.1]
 hp:=fun d=>[.box 4294967354 (.agg [pk d.2.1.1 0,.own 1]),.row 5 qw d.2.1.2]
 m:=1
 pre:=fun d=>dM F d.1 d.2.1=some d.2.2
 out:=fun d=>(fun r:(wk×wc)=>.ret (.tup [.val qi r.1.1,.val .nili r.1.2.1]) [.box 4294967354 (.agg [pk r.2.1 0,.own 1]),.row 5 qw r.2.2]) d.2.2
@[go_sem]def tU(F:Md)(vs:List AV)(h:List Vc.Obj):Hit:=mkH (dM F (aBQ h vs 1 .str) (aNj h (aA6 vs 0))) (((0:Int),(),()),false,([]:List Nat)) fun r=>⟨(lQ F),[(aA6 vs 0),(bHo h (aA6 vs 0) 1)],((aBQ h vs 1 .str),(aNj h (aA6 vs 0)),r)⟩
def tV(F:Md):PlR:=⟨[(0,.A [0,1]),(1,.P [0,1] []),(2,.B [1]),(3,.A [4,5])],[],[(37,wD F)]⟩
abbrev aDX(F:Md):List (FuncId×aH):=[]
theorem aDY(F:Md):bA Tryz.prog GL (aDX F):=.nil
attribute [go_sem] tV lQ
theorem aCP(F:Md):GOK Tryz.prog GL 20 (lQ F):=by
 refine aHD (aY (aDY F)) mix Tryz.func20 rfl xAa (fun _=>Nat.le_of_ble_eq_true rfl) (tV F) (fun c0 w0 d I z h hV=>?_) (.cons (fun _ _=>(aD8 F)) xAa (.nil));obtain⟨(g:qd),(f:wc),r⟩:=d;have hF:=hV.fr;replace h:=aHE (show dM F g f=some r from h);simp only[aJj,List.map_cons,List.map_nil,go_sem];unfold dM at h;refine aD h fun q hv h=>?_;simp only[hv,go_sem];repeat (refine⟨zAB,?_⟩)
 refine aB h fun g0 h=>(yaB ?_);obtain rfl:=iT h;refine fA [0,3] rfl rfl (yaE ?_);refine aEm hF [.tmp 4,.tmp 5] rfl rfl rfl rfl rfl rfl ?_;exact zaL
def cA(F:Md)(words_0:qj)(f:wc):Option wc :=
 ck (bGv words_0 (aI ⟨#[32]⟩)) (ck ((aFt words_0 (aI ⟨#[32]⟩)).length+(aI ⟨#[10]⟩).length≤9223372036854775807) ((dM F ((aFt words_0 (aI ⟨#[32]⟩))++(aI ⟨#[10]⟩)) (f.1,f.2)).bind (fun g=>some (g.2.1,g.2.2))))
def aCQ(F:Md):qW where
 D:=qj×wc×wc
 av:=fun d=>[.val qx d.1,.ptr 0 []]
 hp:=fun d=>[.box 4294967354 (.agg [pk d.2.1.1 0,.own 1]),.row 5 qw d.2.1.2]
 m:=1
 pre:=fun d=>cA F d.1 d.2.1=some d.2.2
 out:=fun d=>(fun r:wc=>.ret (.tup []) [.box 4294967354 (.agg [pk (r).1 0,.own 1]),.row 5 qw (r).2]) d.2.2
@[go_sem]def aHe(F:Md)(vs:List AV)(h:List Vc.Obj):Hit:=mkH (cA F (aBQ h vs 0 qx) (aNj h (aA6 vs 1))) (false,([]:List Nat)) fun r=>⟨(aCQ F),[(aA6 vs 1),(bHo h (aA6 vs 1) 1)],((aBQ h vs 0 qx),(aNj h (aA6 vs 1)),r)⟩
def aHf(F:Md):PlR:=⟨[(0,.P [] [])],[],[(20,tU F)]⟩
abbrev aIG(F:Md):List (FuncId×aH):=[(21,aAW)]
theorem aTb(F:Md):bA Tryz.prog GL (aIG F):=.cons aTa xAa (.nil)
attribute [go_sem] aHf aCQ
theorem aQy(F:Md):GOK Tryz.prog GL 19 (aCQ F):=by
 refine aHD (aY (aTb F)) mix Tryz.func19 rfl xAa (fun _=>Nat.le_of_ble_eq_true rfl) (aHf F) (fun c0 w0 d z q h hV=>?_) (.cons (fun _ _=>(aCP F)) xAa (.nil));obtain⟨(words_0:qj),(f:wc),r⟩:=d;have hF:=hV.fr;replace h:=aHE (show cA F words_0 f=some r from h);simp only[aJj,List.map_cons,List.map_nil,go_sem];unfold cA at h;refine aG h fun g0 h=>?_;refine aG h fun g0 h=>?_;refine aD h fun g hv h=>?_;simp only[hv,go_sem];repeat (refine⟨zAB,?_⟩)
 obtain rfl:=iT h;refine aNi (fA [0,2] rfl rfl (yaE ?_));refine aEm hF [] rfl rfl rfl rfl rfl rfl ?_;exact zaL
def jQ(F:Md)(g:qa)(f:Int)(I:Bool)(z:qd):Option (wq⊕wc) :=
 if f<(g.2.2.2.2.2.2.2.2.2.1.length:Int) then ck (0≤f∧f<(g.2.2.2.2.2.2.2.2.2.1.length:Int)) (ck ((g.2.2.2.2.2.2.2.2.2.1.getD (f.toNat) ([],[],[],[],())).1.length+(aI ⟨#[46]⟩).length≤9223372036854775807) (ck (((g.2.2.2.2.2.2.2.2.2.1.getD (f.toNat) ([],[],[],[],())).1++(aI ⟨#[46]⟩)).length+(g.2.2.2.2.2.2.2.2.2.1.getD (f.toNat) ([],[],[],[],())).2.1.length≤9223372036854775807) (ck ((g.2.2.2.2.2.2.2.2.2.1.getD (f.toNat) ([],[],[],[],())).2.2.1.length+(aI ⟨#[46]⟩).length≤9223372036854775807) (ck (((g.2.2.2.2.2.2.2.2.2.1.getD (f.toNat) ([],[],[],[],())).2.2.1++(aI ⟨#[46]⟩)).length+(g.2.2.2.2.2.2.2.2.2.1.getD (f.toNat) ([],[],[],[],())).2.2.2.1.length≤9223372036854775807) ((cA F ([(aI ⟨#[108,105,110,107]⟩),(((g.2.2.2.2.2.2.2.2.2.1.getD (f.toNat) ([],[],[],[],())).1++(aI ⟨#[46]⟩))++(g.2.2.2.2.2.2.2.2.2.1.getD (f.toNat) ([],[],[],[],())).2.1),(aI ⟨#[61]⟩),(((g.2.2.2.2.2.2.2.2.2.1.getD (f.toNat) ([],[],[],[],())).2.2.1++(aI ⟨#[46]⟩))++(g.2.2.2.2.2.2.2.2.2.1.getD (f.toNat) ([],[],[],[],())).2.2.2.1)]:List qd) (I,z)).bind (fun q=>ck (I64 (f+(1:Int))) (some (.inl ((f+(1:Int)),q.1,q.2))))))))) else some (.inr (I,z))
def pH(F:Md)(z:qa)(q:Bool)(g:qd):Option (qd×qt) :=
 (bO F (fun d:Int×Bool×qd=>jQ F z d.1 d.2.1 d.2.2) ((0:Int),q,g)).bind (fun e=>(sQ F (e.1,e.2)).bind (fun f=>some (f,(0:Int),())))
def jR(F:Md)(J:qa)(g:Int)(f:Int)(q:Bool)(z:qd):Option (wq⊕wc) :=
 if f<(((J.2.2.2.2.2.2.2.2.1.getD (g.toNat) ([],[],[],[],[],())).2.2.2.2.1.length:Nat):Int) then ck (0≤f∧f<(((J.2.2.2.2.2.2.2.2.1.getD (g.toNat) ([],[],[],[],[],())).2.2.2.2.1.length:Nat):Int)) ((dF F 64 ((J.2.2.2.2.2.2.2.2.1.getD (g.toNat) ([],[],[],[],[],())).2.2.2.2.1.getD (f.toNat) ([],(Ex.mk 0 [] []),())).2.1).bind (fun L=>(cA F ([(aI ⟨#[111,117,116]⟩),((J.2.2.2.2.2.2.2.2.1.getD (g.toNat) ([],[],[],[],[],())).2.2.2.2.1.getD (f.toNat) ([],(Ex.mk 0 [] []),())).1,(aI ⟨#[61]⟩),L]:List qd) (q,z)).bind (fun I=>ck (I64 (f+(1:Int))) (some (.inl ((f+(1:Int)),I.1,I.2)))))) else some (.inr (q,z))
def pI(F:Md)(z:qa)(f:Int)(g:Bool)(q:qd):Option (wq⊕wc) :=
 (bO F (fun d:Int×Bool×qd=>jR F z f d.1 d.2.1 d.2.2) ((0:Int),g,q)).bind (fun e=>ck (I64 (f+(1:Int))) (some (.inl ((f+(1:Int)),e.1,e.2))))
def jS(F:Md)(J:qa)(g:Int)(f:Int)(I:Bool)(q:qd):Option (wq⊕wc) :=
 if f<(((J.2.2.2.2.2.2.2.2.1.getD (g.toNat) ([],[],[],[],[],())).2.2.2.1.length:Nat):Int) then ck (0≤f∧f<(((J.2.2.2.2.2.2.2.2.1.getD (g.toNat) ([],[],[],[],[],())).2.2.2.1.length:Nat):Int)) ((cA F ([(aI ⟨#[105,110]⟩),((J.2.2.2.2.2.2.2.2.1.getD (g.toNat) ([],[],[],[],[],())).2.2.2.1.getD (f.toNat) ([]:List Nat))]:List qd) (I,q)).bind (fun z=>ck (I64 (f+(1:Int))) (some (.inl ((f+(1:Int)),z.1,z.2))))) else some (.inr (I,q))
def pJ(F:Md)(z:qa)(f:Int)(g:Bool)(q:qd):Option (wq⊕wc) :=
 (bO F (fun d:Int×Bool×qd=>jS F z f d.1 d.2.1 d.2.2) ((0:Int),g,q)).bind (fun e=>pI F z f e.1 e.2)
def jT(F:Md)(J:qa)(g:Int)(f:Int)(I:Bool)(z:qd):Option (wq⊕wc) :=
 if f<(((J.2.2.2.2.2.2.2.2.1.getD (g.toNat) ([],[],[],[],[],())).2.2.1.length:Nat):Int) then ck (0≤f∧f<(((J.2.2.2.2.2.2.2.2.1.getD (g.toNat) ([],[],[],[],[],())).2.2.1.length:Nat):Int)) ((vI F ((J.2.2.2.2.2.2.2.2.1.getD (g.toNat) ([],[],[],[],[],())).2.2.1.getD (f.toNat) ([],([],[],()),())).2.1).bind (fun L=>(cA F ([(aI ⟨#[112,97,114]⟩),((J.2.2.2.2.2.2.2.2.1.getD (g.toNat) ([],[],[],[],[],())).2.2.1.getD (f.toNat) ([],([],[],()),())).1,(aI ⟨#[61]⟩),L]:List qd) (I,z)).bind (fun q=>ck (I64 (f+(1:Int))) (some (.inl ((f+(1:Int)),q.1,q.2)))))) else some (.inr (I,z))
def pK(F:Md)(z:qa)(f:Int)(q:Bool)(g:qd):Option (wq⊕wc) :=
 (bO F (fun d:Int×Bool×qd=>jT F z f d.1 d.2.1 d.2.2) ((0:Int),q,g)).bind (fun e=>pJ F z f e.1 e.2)
def jU(F:Md)(z:qa)(g:Int)(f:Int)(q:Bool)(I:qd):Option (wq⊕wc) :=
 if f<(((z.2.2.2.2.2.2.2.2.1.getD (g.toNat) ([],[],[],[],[],())).2.1.length:Nat):Int) then ck (0≤f∧f<(((z.2.2.2.2.2.2.2.2.1.getD (g.toNat) ([],[],[],[],[],())).2.1.length:Nat):Int)) ((vI F ((z.2.2.2.2.2.2.2.2.1.getD (g.toNat) ([],[],[],[],[],())).2.1.getD (f.toNat) ([],([],[],()),(Ex.mk 0 [] []),())).2.1).bind (fun N=>(dF F 64 ((z.2.2.2.2.2.2.2.2.1.getD (g.toNat) ([],[],[],[],[],())).2.1.getD (f.toNat) ([],([],[],()),(Ex.mk 0 [] []),())).2.2.1).bind (fun L=>(cA F ([(aI ⟨#[115,116,97,116,101]⟩),((z.2.2.2.2.2.2.2.2.1.getD (g.toNat) ([],[],[],[],[],())).2.1.getD (f.toNat) ([],([],[],()),(Ex.mk 0 [] []),())).1,(aI ⟨#[61]⟩),N,(aI ⟨#[100,101,114]⟩),L]:List qd) (q,I)).bind (fun J=>ck (I64 (f+(1:Int))) (some (.inl ((f+(1:Int)),J.1,J.2))))))) else some (.inr (q,I))
def nH(F:Md)(g:qa)(f:Int)(q:Bool)(I:qd):Option (wq⊕wc) :=
 if f<(g.2.2.2.2.2.2.2.2.1.length:Int) then ck (0≤f∧f<(g.2.2.2.2.2.2.2.2.1.length:Int)) ((cA F ([(aI ⟨#[115,117,98]⟩),(g.2.2.2.2.2.2.2.2.1.getD (f.toNat) ([],[],[],[],[],())).1]:List qd) (q,I)).bind (fun z=>(bO F (fun d:Int×Bool×qd=>jU F g f d.1 d.2.1 d.2.2) ((0:Int),z.1,z.2)).bind (fun e=>pK F g f e.1 e.2))) else some (.inr (q,I))
def lR(F:Md)(f:qa)(g:qd):Option (qd×qt) :=
 (mT F f.1).bind (fun W=>(cA F ([(aI ⟨#[112,114,101,99]⟩),W]:List qd) (true,([]:List Nat))).bind (fun q=>(cA F ([(aI ⟨#[101,110,100]⟩),f.2.2.2.2.1]:List qd) (q.1,q.2)).bind (fun L=>(cA F ([(aI ⟨#[115,116,101,112]⟩),f.2.2.2.2.2.1,f.2.2.2.2.2.2.1]:List qd) (L.1,L.2)).bind (fun I=>(cA F ([(aI ⟨#[116,111,108]⟩),f.2.2.2.2.2.2.2.1]:List qd) (I.1,I.2)).bind (fun J=>(mT F f.2.1).bind (fun U=>(cA F ([(aI ⟨#[116,114,105,101,115]⟩),U]:List qd) (J.1,J.2)).bind (fun N=>(mT F f.2.2.1).bind (fun Y=>(cA F ([(aI ⟨#[111,114,100,101,114]⟩),Y]:List qd) (N.1,N.2)).bind (fun O=>(cA F ([g]:List qd) (O.1,O.2)).bind (fun z=>(bO F (fun d:Int×Bool×qd=>nH F f d.1 d.2.1 d.2.2) ((0:Int),z.1,z.2)).bind (fun e=>pH F f e.1 e.2)))))))))))
def jA(F:Md)(f:qa):Option (qd×qt) :=
 (yO F f).bind (fun v_7=>if ¬(v_7=true) then some ((aI ⟨#[]⟩),(1:Int),()) else if f.2.2.2.1=(2:Int) then lR F f (aI ⟨#[115,101,105,100,101,108]⟩) else lR F f (aI ⟨#[106,97,99,111,98,105]⟩))
def aKa(F:Md):PlR:=⟨[(0,.B [1]),(1,.A [1,21]),(2,.A [2,3]),(3,.stop),(4,.A [1,4,5]),(5,.A [1,4,5,6]),(6,.A [1,4,5,6,25]),(7,.A [1,4,5,6]),(8,.P [1,4,5,6] []),(9,.P [1,4,5,6] []),(10,.P [1,4,5,6] []),(11,.P [1,4,5,6] []),(12,.P [1,4,5,6] []),(13,.P [1,4,5,6] []),(14,.P [1,4,5] []),(15,.A [1,4,5,66,67,68]),(16,.A [1,4,5,66,67,68,69]),(17,.B [1,4,5,8,66,67,68]),(18,.P [1,4,5,8,66,67,68] []),(19,.A [1,4,5,8,66,67,68,78,79,80]),(20,.A [1,4,5,8,66,67,68,78,79,80,81]),(21,.B [1,4,5,8,10,66,67,68,78,79,80]),(22,.Q 10 [1,4,5,8,66,67,68,78,79,80] []),(23,.A [1,4,5,8,66,67,68,78,79,80]),(24,.A [1,4,5,8,66,67,68,97,98,99]),(25,.A [1,4,5,8,66,67,68,97,98,99,100]),(26,.B [1,4,5,8,12,66,67,68,97,98,99]),(27,.Q 7 [1,4,5,8,66,67,68,97,98,99] []),(28,.A [1,4,5,8,66,67,68,97,98,99]),(29,.A [1,4,5,8,66,67,68,113,114,115]),(30,.A [1,4,5,8,66,67,68,113,114,115,116]),(31,.A [1,4,5,8,14,66,67,68,113,114,115]),(32,.P [1,4,5,8,66,67,68,113,114,115] []),(33,.A [1,4,5,8,66,67,68,113,114,115]),(34,.A [1,4,5,66,67,68,125,126,127]),(35,.A [1,4,5,66,67,68,125,126,127,128]),(36,.B [1,4,5,16,66,67,68,125,126,127]),(37,.Q 7 [1,4,5,66,67,68,125,126,127] []),(38,.A [1,4,5,66,67,68,125,126,127]),(39,.A [1,4,5,66,67,68]),(40,.A [4,5,142,143,144]),(41,.A [4,5,142,143,144,145]),(42,.B [4,5,18,142,143,144]),(43,.P [4,5,142,143,144] []),(44,.A [4,5,142,143,144]),(45,.P [2,3] [])],[(9,11),(18,43),(22,27),(27,32),(32,37)],[(19,aHe F),(24,aAl F)]⟩
def aLN:Ty:=.pair qe .unit
def tW(F:Md):aH:=mSpec aLN (.tup (.pair .str qo)) (fun x=>jA F x.1)
abbrev aAF(F:Md):List (FuncId×aH):=[(18,(aEG F)),(22,(aAV F)),(23,(aDm F)),(8,(oY F 64))]
theorem aXZ(F:Md):bA Tryz.prog GL (aAF F):=.cons (bAw F) xAa (.cons (aS8 F) xAa (.cons (aXY F) xAa (.cons (aDl F 64) xAa (.nil))))
attribute [go_sem] aLN aKa
theorem aKb(F:Md):FOK Tryz.prog GL 10 (tW F):=by
 refine aX (aY (aXZ F)) mix Tryz.func10 rfl xAa xAb (aKa F) (fun w0 S x Θ hw h hV=>?_) (.cons (fun _ _=>(aQy F)) xAa (.cons (fun _ _=>(aFE F)) xAa (.nil)));have hF:=hV.fr;obtain⟨(g:qa),u⟩:=x;simp only[bD,go_sem];replace h:sat (jA F g) _:=h;unfold jA at h;refine aD h fun v_7 hv h=>?_;try simp only[hv,go_sem]
 refine aAn h (fun hc h=>?_) fun hc h=>?_
 ·exact aE hV [.tmp 2,.tmp 3] rfl rfl rfl (aA h) xAd
 ·obtain⟨q0,h,hq⟩:=h;refine dI hF [1,4] (yaA ?_);refine bNB 1 4294967354 5 rfl (yaA ?_);first|replace h:=aZx h hq|replace h:=aZx (Θ:=(· = r)) h hq
  refine bIR hV (yaA ?_);refine bH hV (D:=qd) (fun d=>sat (lR F g d) Θ) [] (fun d=>[(1,.ptr 0 []),(4,.ptr 1 []),(5,.fn 19 [] [1]),(6,.val .str d)]) (fun d=>[.inr (.box 10 (.val qe g)),.inr (.box 4294967354 (.agg [pk true 1,.own 2])),.inr (.row 5 qw ([]:List Nat))]) ?_ ?_
  ·simp only[go_sem];refine bS h (fun hc h=>?_) fun hc h=>?_
   ·exact aK (aI ⟨#[115,101,105,100,101,108]⟩) h rfl xAc
   ·exact aK (aI ⟨#[106,97,99,111,98,105]⟩) h rfl xAc
  ·rintro mode_8 h;simp only[go_sem];replace h:sat (lR F g mode_8) _:=h;unfold lR at h;refine aD h fun v_13 hv h=>?_;(try simp only[hv,go_sem]);refine aD h fun r_14 hv h=>?_;simp only[List.replicate,List.set,hv,go_sem];refine aD h fun r_16 hv h=>?_;simp only[List.replicate,List.set,hv,go_sem];refine aD h fun r_18 hv h=>?_;simp only[List.replicate,List.set,hv,go_sem];refine aD h fun r_20 hv h=>?_;simp only[List.replicate,List.set,hv,go_sem];refine aD h fun v_25 hv h=>?_;(try simp only[hv,go_sem]);refine aD h fun r_26 hv h=>?_;simp only[List.replicate,List.set,hv,go_sem];refine aD h fun v_31 hv h=>?_;(try simp only[hv,go_sem]);refine aD h fun r_32 hv h=>?_;simp only[List.replicate,List.set,hv,go_sem];refine aD h fun r_34 hv h=>?_;simp only[List.replicate,List.set,hv,go_sem];(repeat (refine⟨zAB,?_⟩));refine bH hV (D:=Bool×qd) (fun d=>sat (pH F g d.1 d.2) Θ) [] (fun d=>[(1,.ptr 0 []),(4,.ptr 1 []),(5,.fn 19 [] [1])]) (fun d=>[.inr (.box 10 (.val qe g)),.inr (.box 4294967354 (.agg [pk d.1 1,.own 2])),.inr (.row 5 qw d.2)]) ?_ ?_
   ·simp only[go_sem];refine zB [0,1,9] rfl rfl (yaA ?_);refine aU hV (D:=Int×Bool×qd) [66,67] (fun d=>[(1,.ptr 0 []),(4,.ptr 1 []),(5,.fn 19 [] [1]),(68,.val qi d.1)]) (fun d=>[.inr (.box 10 (.val qe g)),.inr (.box 4294967354 (.agg [pk d.2.1 1,.own 2])),.inr (.row 5 qw d.2.2)]) h rfl xAc ?_;rintro⟨f,W,L⟩ A16 T16 hA16 hE16 h;simp only[go_sem];replace h:sat (nH F g f W L) _:=h;unfold nH at h;refine bP h (fun hc h=>?_) fun hc h=>?_
    ·refine aB h fun g0 h=>(yaC ?_);refine aD h fun r_439 hv h=>?_;simp only[List.replicate,List.set,hv,go_sem];(repeat (refine⟨zAB,?_⟩));refine bH hV (D:=Bool×qd) (fun d=>sat (pK F g f d.1 d.2) T16) [66,67,68] (fun d=>[(1,.ptr 0 []),(4,.ptr 1 []),(5,.fn 19 [] [1]),(8,.ptr 3 [])]) (fun d=>[.inr (.box 10 (.val qe g)),.inr (.box 4294967354 (.agg [pk d.1 1,.own 2])),.inr (.row 5 qw d.2),.inr (.box 5 (.val qc (g.2.2.2.2.2.2.2.2.1.getD (f.toNat) ([],[],[],[],[],()))))]) ?_ ?_
     ·simp only[go_sem];refine zB [0,1,4,3] rfl rfl (yaA ?_);refine aU hV (D:=Int×Bool×qd) [66,67,68,78,79] (fun d=>[(1,.ptr 0 []),(4,.ptr 1 []),(5,.fn 19 [] [1]),(8,.ptr 3 []),(80,.val qi d.1)]) (fun d=>[.inr (.box 10 (.val qe g)),.inr (.box 4294967354 (.agg [pk d.2.1 1,.own 2])),.inr (.row 5 qw d.2.2),.inr (.box 5 (.val qc (g.2.2.2.2.2.2.2.2.1.getD (f.toNat) ([],[],[],[],[],()))))]) h rfl xAc ?_;rintro⟨O,J,Y⟩ A20 T20 hA20 hE20 h;simp only[go_sem];replace h:sat (jU F g f O J Y) _:=h;unfold jU at h;refine bP h (fun hc h=>?_) fun hc h=>?_
      ·refine aB h fun g0 h=>(yaC ?_);(try refine⟨(by kernel_rfl:aZv _ _=true),?_⟩);refine aD h fun v_603 hv h=>?_;(try simp only[hv,go_sem]);refine aD h fun v_604 hv h=>?_;(try simp only[hv,go_sem]);refine aD h fun r_605 hv h=>?_;simp only[List.replicate,List.set,hv,go_sem];(repeat (refine⟨zAB,?_⟩));refine aB h fun g0 h=>?_;(try simp only[I64,I32] at g0);(repeat (refine⟨zAB,?_⟩));replace h:=hA20 _ (aA h);refine fA [0,1,5,3] rfl rfl (yaA ?_);exact zaF
      ·replace h:=yaH (hE20 _ (aA h));exact aK (J,Y) h rfl xAc
     ·rintro⟨b_464,x_465⟩ h;simp only[go_sem];replace h:sat (pK F g f b_464 x_465) _:=h;unfold pK at h;refine bH hV (D:=Bool×qd) (fun d=>sat (pJ F g f d.1 d.2) T16) [66,67,68] (fun d=>[(1,.ptr 0 []),(4,.ptr 1 []),(5,.fn 19 [] [1]),(8,.ptr 3 [])]) (fun d=>[.inr (.box 10 (.val qe g)),.inr (.box 4294967354 (.agg [pk d.1 1,.own 2])),.inr (.row 5 qw d.2),.inr (.box 5 (.val qc (g.2.2.2.2.2.2.2.2.1.getD (f.toNat) ([],[],[],[],[],()))))]) ?_ ?_
      ·simp only[go_sem];refine aU hV (D:=Int×Bool×qd) [66,67,68,97,98] (fun d=>[(1,.ptr 0 []),(4,.ptr 1 []),(5,.fn 19 [] [1]),(8,.ptr 3 []),(99,.val qi d.1)]) (fun d=>[.inr (.box 10 (.val qe g)),.inr (.box 4294967354 (.agg [pk d.2.1 1,.own 2])),.inr (.row 5 qw d.2.2),.inr (.box 5 (.val qc (g.2.2.2.2.2.2.2.2.1.getD (f.toNat) ([],[],[],[],[],()))))]) h rfl xAc ?_;rintro⟨Z,b_540,x_541⟩ A25 T25 hA25 hE25 h;simp only[go_sem];replace h:sat (jT F g f Z b_540 x_541) _:=h;unfold jT at h;refine bP h (fun hc h=>?_) fun hc h=>?_
       ·refine aB h fun g0 h=>(yaC ?_);(try refine⟨(by kernel_rfl:aZv _ _=true),?_⟩);refine aD h fun v_560 hv h=>?_;(try simp only[hv,go_sem]);refine aD h fun r_561 hv h=>?_;simp only[List.replicate,List.set,hv,go_sem];(repeat (refine⟨zAB,?_⟩));refine aB h fun g0 h=>?_;(try simp only[I64,I32] at g0);(repeat (refine⟨zAB,?_⟩));replace h:=hA25 _ (aA h);refine fA [0,1,5,3] rfl rfl (yaA ?_);exact zaF
       ·replace h:=yaH (hE25 _ (aA h));exact aK (b_540,x_541) h rfl xAc
      ·rintro⟨b_482,x_483⟩ h;simp only[go_sem];replace h:sat (pJ F g f b_482 x_483) _:=h;unfold pJ at h;refine bH hV (D:=Bool×qd) (fun d=>sat (pI F g f d.1 d.2) T16) [66,67,68] (fun d=>[(1,.ptr 0 []),(4,.ptr 1 []),(5,.fn 19 [] [1]),(8,.ptr 3 [])]) (fun d=>[.inr (.box 10 (.val qe g)),.inr (.box 4294967354 (.agg [pk d.1 1,.own 2])),.inr (.row 5 qw d.2),.inr (.box 5 (.val qc (g.2.2.2.2.2.2.2.2.1.getD (f.toNat) ([],[],[],[],[],()))))]) ?_ ?_
       ·simp only[go_sem];refine aU hV (D:=Int×Bool×qd) [66,67,68,113,114] (fun d=>[(1,.ptr 0 []),(4,.ptr 1 []),(5,.fn 19 [] [1]),(8,.ptr 3 []),(115,.val qi d.1)]) (fun d=>[.inr (.box 10 (.val qe g)),.inr (.box 4294967354 (.agg [pk d.2.1 1,.own 2])),.inr (.row 5 qw d.2.2),.inr (.box 5 (.val qc (g.2.2.2.2.2.2.2.2.1.getD (f.toNat) ([],[],[],[],[],()))))]) h rfl xAc ?_;rintro⟨I,U,N⟩ A30 T30 hA30 hE30 h;simp only[go_sem];replace h:sat (jS F g f I U N) _:=h;unfold jS at h;refine bP h (fun hc h=>?_) fun hc h=>?_
        ·refine aB h fun g0 h=>(yaC ?_);refine aD h fun r_533 hv h=>?_;simp only[List.replicate,List.set,hv,go_sem];refine aB h fun g0 h=>?_;(try simp only[I64,I32] at g0);(repeat (refine⟨zAB,?_⟩));replace h:=hA30 _ (aA h);refine fA [0,1,4,3] rfl rfl (yaA ?_);exact zaF
        ·replace h:=yaH (hE30 _ (aA h));exact aK (U,N) h rfl xAc
       ·rintro⟨b_492,x_493⟩ h;simp only[go_sem];replace h:sat (pI F g f b_492 x_493) _:=h;unfold pI at h;refine zB [0,1,2] rfl rfl (yaA ?_);refine aU hV (D:=Int×Bool×qd) [66,67,68,125,126] (fun d=>[(1,.ptr 0 []),(4,.ptr 1 []),(5,.fn 19 [] [1]),(127,.val qi d.1)]) (fun d=>[.inr (.box 10 (.val qe g)),.inr (.box 4294967354 (.agg [pk d.2.1 1,.own 2])),.inr (.row 5 qw d.2.2)]) h rfl xAc ?_;rintro⟨z,b_500,x_501⟩ A35 T35 hA35 hE35 h;simp only[go_sem];replace h:sat (jR F g f z b_500 x_501) _:=h;unfold jR at h;refine bP h (fun hc h=>?_) fun hc h=>?_
        ·refine aB h fun g0 h=>(yaC ?_);(try refine⟨(by kernel_rfl:aZv _ _=true),?_⟩);refine aD h fun v_520 hv h=>?_;(try simp only[hv,go_sem]);refine aD h fun r_521 hv h=>?_;simp only[List.replicate,List.set,hv,go_sem];(repeat (refine⟨zAB,?_⟩));refine aB h fun g0 h=>?_;(try simp only[I64,I32] at g0);(repeat (refine⟨zAB,?_⟩));replace h:=hA35 _ (aA h);refine fA [0,1,4] rfl rfl (yaA ?_);exact zaF
        ·replace h:=yaH (hE35 _ (aA h));refine aB h fun g0 h=>?_;(try simp only[I64,I32] at g0);(repeat (refine⟨zAB,?_⟩));replace h:=hA16 _ (aA h);exact zaF
    ·replace h:=yaH (hE16 _ (aA h));exact aK (W,L) h rfl xAc
   ·rintro⟨b_187,x_188⟩ h;simp only[go_sem];replace h:sat (pH F g b_187 x_188) _:=h;unfold pH at h;refine zB [1,2] rfl rfl (yaA ?_);refine aU hV (D:=Int×Bool×qd) [142,143] (fun d=>[(4,.ptr 0 []),(5,.fn 19 [] [0]),(144,.val qi d.1)]) (fun d=>[.inr (.box 4294967354 (.agg [pk d.2.1 0,.own 1])),.inr (.row 5 qw d.2.2)]) h rfl xAc ?_;rintro⟨q,b_199,x_200⟩ A41 T41 hA41 hE41 h;simp only[go_sem];replace h:sat (jQ F g q b_199 x_200) _:=h;unfold jQ at h;refine bP h (fun hc h=>?_) fun hc h=>?_
    ·refine aB h fun g0 h=>(yaC ?_);refine aB h fun g0 h=>(yaC ?_);refine aB h fun g0 h=>(yaC ?_);refine aB h fun g0 h=>(yaC ?_);refine aB h fun g0 h=>(yaC ?_);refine aD h fun r_208 hv h=>?_;simp only[List.replicate,List.set,hv,go_sem];(repeat (refine⟨zAB,?_⟩));refine aB h fun g0 h=>?_;(try simp only[I64,I32] at g0);(repeat (refine⟨zAB,?_⟩));replace h:=hA41 _ (aA h);refine fA [0,3] rfl rfl (yaA ?_);exact zaF
    ·replace h:=yaH (hE41 _ (aA h));refine aD h fun r_210 hv h=>?_;simp only[hv,go_sem];(repeat (refine⟨zAB,?_⟩));exact aE hV [.tmp 2,.tmp 3] rfl rfl rfl (aA h) (by (simp only[aQ,go_sem])<;>first|rfl|(simp; done))
attribute [go_sem] tW
abbrev bHG(f k:Int):Prop:=((0:Int)≤k∧k<(60:Int))∧((IntKind.i64.wrap ((BitVec.ofInt 64 (Int.fdiv f (2^(k%(18446744073709551616:Int)).toNat))&&&BitVec.ofInt 64 (1:Int)).toNat:Int))=(1:Int))
theorem bGw{g:Ex→Option qd}{e x:Ex}{i:Nat}{k:Int}(hk:k=(i:Int)){s:Int}{p:Prop}[Decidable p](hi:i<e.l.length)(hx:e.l.getD i (Ex.mk 0 [] [])=x){t:List Nat}(f:g x=some t)(hp:bHG s x.kind↔p)(hl:t.length≤1099511627776):eJ none g e k s=some (par p t):=by
 subst hk;unfold eJ;refine ifn (by omega) (aC (by omega) ?_);simp only[Int.toNat_natCast];rw[hx];by_cases h:p
 ·refine ify (hp.2 h) (aJ f (aC (by show 1+t.length≤_; omega) (aC (by show ([40]++t).length+1≤_; grind) ?_)));unfold par; rw[if_pos h];rfl
 simp_all[ifn,aJ,par,if_neg]
theorem zZ{p:Prop}[Decidable p](t:List Nat):(par p t).length≤t.length+2:=by
 grind[par]
theorem nk{k j:Int}(h:decide (k=j)=false):¬k=j:=of_decide_eq_false h
inductive KE:Nat→Ex→Prop
 | leaf (n:Nat) (k:Int) (t:List Nat):k=1∨k=2→KE (n+1) (Ex.mk k t [])
 | two (n:Nat) (k:Int) (t:List Nat) (a b:Ex):6≤k→k≤9→KE n a→KE n b→KE (n+1) (Ex.mk k t [a,b])
 | neg (n:Nat) (t:List Nat) (a:Ex):KE n a→KE (n+1) (Ex.mk 10 t [a])
 | fn (n:Nat) (k:Int) (t:List Nat) (a:Ex):11≤k→k≤13→KE n a→KE (n+1) (Ex.mk k t [a])
theorem KE.kinds{n:Nat}{e:Ex}(h:KE n e):e.kind=1∨e.kind=2∨e.kind=6∨e.kind=7∨e.kind=8∨e.kind=9∨e.kind=10∨e.kind=11∨e.kind=12∨e.kind=13:=by
 cases h with
 | leaf n k t h=>show k=1∨k=2∨k=6∨k=7∨k=8∨k=9∨k=10∨k=11∨k=12∨k=13; omega
 | two n k t a b f g _ _=>show k=1∨k=2∨k=6∨k=7∨k=8∨k=9∨k=10∨k=11∨k=12∨k=13; omega
 | neg n t a _=>exact .inr (.inr (.inr (.inr (.inr (.inr (.inl rfl))))))
 | fn n k t a f g _=>show k=1∨k=2∨k=6∨k=7∨k=8∨k=9∨k=10∨k=11∨k=12∨k=13; omega
theorem aOI{n:Nat}{e:Ex}(h:KE n e):bHG 192 e.kind↔aCe e:=by
 rcases h.kinds with h|h|h|h|h|h|h|h|h|h<;>simp only[aCe,h]<;>decide
theorem aQC{n:Nat}{e:Ex}(h:KE n e):bHG 960 e.kind↔wY e:=by
 rcases h.kinds with h|h|h|h|h|h|h|h|h|h<;>simp only[wY,h]<;>decide
theorem bAR{n:Nat}{e:Ex}(h:KE n e):bHG 0 e.kind↔False:=by
 rcases h.kinds with h|h|h|h|h|h|h|h|h|h<;>simp only[h]<;>decide
theorem bAS{n:Nat}{k:Int}{t:List Nat}(h:k=1∨k=2):tx (n+1) (Ex.mk k t [])=t:=by
 rcases h with rfl|rfl<;>rfl
theorem bAT{n:Nat}{k:Int}{t:List Nat}{a b:Ex}(h:k=6∨k=7):tx (n+1) (Ex.mk k t [a,b])=tx n a++([32,sgT k,32]++par (aCe b) (tx n b)):=by
 rw[tx]; exact ify h rfl
theorem aV6{n:Nat}{k:Int}{t:List Nat}{a b:Ex}(h:k=8∨k=9):tx (n+1) (Ex.mk k t [a,b])=par (aCe a) (tx n a)++([32,sgT k,32]++par (wY b) (tx n b)):=by
 rw[tx]; exact ifn (by grind[Ex.kind]) (ify h rfl)
theorem bGx{n:Nat}{t:List Nat}{a:Ex}:tx (n+1) (Ex.mk 10 t [a])= [45]++par (wY a) (tx n a):=rfl
theorem bKk{n:Nat}{k:Int}{t:List Nat}{a:Ex}(f:11≤k)(g:k≤13):tx (n+1) (Ex.mk k t [a])=fnT k++par True (tx n a):=by
 rw[tx]; exact ifn (by grind[Ex.kind]) (ifn (by grind[Ex.kind]) (ifn (by grind[Ex.kind]) (ify ⟨f,g⟩ rfl)))
theorem aHg:∀ {n:Nat} {e:Ex},KE n e→n≤32→fits n e→(tx n e).length+8≤2^n*64∧ ∀k,n≤k→dF none k e=some (tx n e):=by
 intro n e hw;have pw:∀n,n≤32→2^n*64≤274877906944:=fun n N=>by
  have:2^n≤2^32:=Nat.pow_le_pow_right xAb N;omega
 induction hw with
 | leaf n k0 t h =>
  intro N L;have h1:1≤2^n:=Nat.one_le_two_pow;have h2:t.length≤100:=L.1;refine⟨by rw[bAS h,Nat.pow_succ]; omega,fun k hk=>?_⟩;cases k with
  | zero=>omega
  | succ k=>rw[bAS h]; rcases h with rfl|rfl<;>rfl
 | two n g O a b h1 h2 ha hb z ihb =>
  intro N L;obtain⟨_,_,U⟩:=L;obtain⟨la,Y⟩:=z (by omega) (U a (.head _));obtain⟨lb,pb⟩:=ihb (by omega) (U b (.tail _ (.head _)));have q:=pw n (by omega);have two:2^(n+1)=2^n+2^n:=by omega
  have f:∀(W Z:Prop) [Decidable W] [Decidable Z] (m1 m2:Int) (sg:List Nat) (k:Nat),n≤k→sg.length=3→(bHG m1 a.kind↔W)→(bHG m2 b.kind↔Z)→(eJ none (dF none k) (Ex.mk g O [a,b]) 0 m1).bind (fun I=>ck ((I.length)+(sg.length)≤9223372036854775807) ((eJ none (dF none k) (Ex.mk g O [a,b]) 1 m2).bind (fun J=>ck ((I++sg).length+(J.length)≤9223372036854775807) (some ((I++sg)++J)))))=some (par W (tx n a)++(sg++par Z (tx n b))):=fun W Z _ _ m1 m2 sg k hk hs c1 c2=>by
   have l1:=zZ (p:=W) (tx n a);have l2:=zZ (p:=Z) (tx n b);refine aJ (bGw (i:=0) rfl (by show 0<2; decide) rfl (Y k hk) c1 (by omega)) (aC (by omega) (aJ (bGw (i:=1) rfl (by show 1<2; decide) rfl (pb k hk) c2 (by omega)) (aC (by grind) ?_)));simp_all
  have pf:∀t:List Nat,par False t=t:=fun t=>if_neg id;rcases (by omega:g=6∨g=7∨g=8∨g=9) with rfl|rfl|rfl|rfl
  ·rw[bAT (.inl rfl)];have l2:=zZ (p:=aCe b) (tx n b);refine⟨by grind,fun k hk=>?_⟩;obtain⟨k,rfl⟩:∃j,k=j+1:=⟨k-1,by omega⟩;have:=f False (aCe b) 0 192 [32,43,32] k (by omega) rfl (bAR ha) (aOI hb);rw[pf] at this;show cL none (dF none k) _=_;unfold cL;exact(ify rfl this)
  ·rw[bAT (.inr rfl)];have l2:=zZ (p:=aCe b) (tx n b);refine⟨by grind,fun k hk=>?_⟩;obtain⟨k,rfl⟩:∃j,k=j+1:=⟨k-1,by omega⟩;have:=f False (aCe b) 0 192 [32,45,32] k (by omega) rfl (bAR ha) (aOI hb);rw[pf] at this;show cL none (dF none k) _=_;unfold cL;exact(ifn (nk rfl) (ify rfl this))
  ·rw[aV6 (.inl rfl)];have l1:=zZ (p:=aCe a) (tx n a);have l2:=zZ (p:=wY b) (tx n b);refine⟨by grind,fun k hk=>?_⟩;obtain⟨k,rfl⟩:∃j,k=j+1:=⟨k-1,by omega⟩;show cL none (dF none k) _=_;unfold cL;exact(ifn (nk rfl) (ifn (nk rfl) (ify rfl (f (aCe a) (wY b) 192 960 [32,42,32] k (by omega) rfl (aOI ha) (aQC hb)))))
  ·rw[aV6 (.inr rfl)];have l1:=zZ (p:=aCe a) (tx n a);have l2:=zZ (p:=wY b) (tx n b);refine⟨by grind,fun k hk=>?_⟩;obtain⟨k,rfl⟩:∃j,k=j+1:=⟨k-1,by omega⟩;show cL none (dF none k) _=_;unfold cL;exact(ifn (nk rfl) (ifn (nk rfl) (ifn (nk rfl) (ify rfl (f (aCe a) (wY b) 192 960 [32,47,32] k (by omega) rfl (aOI ha) (aQC hb))))))
 | neg n O a ha z =>
  intro N L;obtain⟨la,Y⟩:=z (by omega) (L.2.2 a (.head _));have q:=pw n (by omega);have two:2^(n+1)=2^n+2^n:=by omega
  have l1:=zZ (p:=wY a) (tx n a);rw[bGx];refine⟨by grind,fun k hk=>?_⟩;obtain⟨k,rfl⟩:∃j,k=j+1:=⟨k-1,by omega⟩;show cL none (dF none k) _=_;unfold cL;exact(ifn (nk rfl) (ifn (nk rfl) (ifn (nk rfl) (ifn (nk rfl) (ify rfl (aJ (bGw (p:=wY a) (x:=a) (i:=0) rfl (by show 0<1; decide) rfl (Y k (by omega)) (aQC ha) (by omega)) (aC (by show 1+_≤_; omega) rfl)))))))
 | fn n g O a h1 h2 ha z =>
  intro N L;obtain⟨la,Y⟩:=z (by omega) (L.2.2 a (.head _));have q:=pw n (by omega);have two:2^(n+1)=2^n+2^n:=by omega
  have pf:∀t:List Nat,par False t=t:=fun t=>if_neg id;have f:∀(hd:List Nat) (k:Nat),n≤k→hd.length≤5→(eJ none (dF none k) (Ex.mk g O [a]) 0 0).bind (fun v=>ck (hd.length+v.length≤9223372036854775807) (ck ((hd++v).length+(aI ⟨#[41]⟩).length≤9223372036854775807) (some ((hd++v)++aI ⟨#[41]⟩))))=some (hd++(tx n a++ [41])):=fun hd k hk hl=>by
   refine aJ (bGw (i:=0) rfl (by show 0<1; decide) rfl (Y k hk) (bAR ha) (by omega)) ?_;rw[pf];refine aC (by omega) (aC (by rw[List.length_append,show (aI ⟨#[41]⟩).length=1 from rfl]; omega) ?_);rw[List.append_assoc]; rfl
  rw[bKk h1 h2];rcases (by omega:g=11∨g=12∨g=13) with rfl|rfl|rfl
  ·refine⟨by rw[show fnT 11= [115,113,114] from rfl]; have:=zZ (p:=True) (tx n a); grind,fun k hk=>?_⟩;obtain⟨k,rfl⟩:∃j,k=j+1:=⟨k-1,by omega⟩;show cL none (dF none k) _=_;unfold cL;exact(ifn (nk rfl) (ifn (nk rfl) (ifn (nk rfl) (ifn (nk rfl) (ifn (nk rfl) (ify rfl (f [115,113,114,40] k (by omega) xAb)))))))
  ·refine⟨by rw[show fnT 12= [115,113,114,116] from rfl]; have:=zZ (p:=True) (tx n a); grind,fun k hk=>?_⟩;obtain⟨k,rfl⟩:∃j,k=j+1:=⟨k-1,by omega⟩;show cL none (dF none k) _=_;unfold cL;exact(ifn (nk rfl) (ifn (nk rfl) (ifn (nk rfl) (ifn (nk rfl) (ifn (nk rfl) (ifn (nk rfl) (ify rfl (f [115,113,114,116,40] k (by omega) xAb))))))))
  ·refine⟨by rw[show fnT 13= [101,120,112] from rfl]; have:=zZ (p:=True) (tx n a); grind,fun k hk=>?_⟩;obtain⟨k,rfl⟩:∃j,k=j+1:=⟨k-1,by omega⟩;show cL none (dF none k) _=_;unfold cL;exact(ifn (nk rfl) (ifn (nk rfl) (ifn (nk rfl) (ifn (nk rfl) (ifn (nk rfl) (ifn (nk rfl) (ifn (nk rfl) (ify rfl (f [101,120,112,40] k (by omega) xAb)))))))))
theorem bKl:∀(n:Nat) (e:Ex),fits n e→gk n e=true→KE n e
 | 0,e,z,_=>z.elim
 | n+1,e,z,g=>by
  obtain⟨k,t,l⟩:=e;have g:(decide (prt k=(l.length:Int))&&l.all (gk n))=true:=g;rw[Bool.and_eq_true,decide_eq_true_iff,List.all_eq_true] at g;obtain⟨f,I⟩:=g;have h3:∀x∈l,fits n x:=z.2.2;have K:∀x∈l,KE n x:=fun x hx=>bKl n x (h3 x hx) (I x hx);unfold prt at f
  match l,f,K with
  | [],f,K =>
   refine .leaf n k t ?_;have f:(if k=1∨k=2 then (0:Int) else if 6≤k∧k≤9 then 2 else if 10≤k∧k≤13 then 1 else -1)=0:=f;grind
  | [a],f,K =>
   have f:(if k=1∨k=2 then (0:Int) else if 6≤k∧k≤9 then 2 else if 10≤k∧k≤13 then 1 else -1)=1:=f;have hk:10≤k∧k≤13:=(by grind);by_cases q:k=10
   ·subst q;exact .neg n t a (K a (.head _))
   ·exact .fn n k t a (by omega) (by omega) (K a (.head _))
  | [a,b],f,K =>
   have f:(if k=1∨k=2 then (0:Int) else if 6≤k∧k≤9 then 2 else if 10≤k∧k≤13 then 1 else -1)=2:=f;have hk:6≤k∧k≤9:=(by grind);exact .two n k t a b hk.1 hk.2 (K a (.head _)) (K b (.tail _ (.head _)))
  | a::b::c::r,f,K =>
   exfalso;have f:(if k=1∨k=2 then (0:Int) else if 6≤k∧k≤9 then 2 else if 10≤k∧k≤13 then 1 else -1)=((a::b::c::r).length:Int):=f;have:((a::b::c::r).length:Int)=(r.length:Int)+3:=(by simp; omega);grind
end
end Nu
end Go.Proofs

