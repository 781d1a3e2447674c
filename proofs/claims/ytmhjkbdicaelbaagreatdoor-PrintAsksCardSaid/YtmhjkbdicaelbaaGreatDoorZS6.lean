import Derived.Test.YtmhjkbdicaelbaaGreatDoorZS5
import Derived.Test.YtmhjkbdicaelbaaGreatDoorZS4
import Derived.Test.YtmhjkbdicaelbaaGreatDoorZS3
import Derived.Test.YtmhjkbdicaelbaaGreatDoorZL6
set_option linter.unusedVariables false
set_option linter.unusedSimpArgs false
namespace Go.Proofs
open Go.Vc
set_option maxRecDepth 20000
namespace Nu
noncomputable section
set_option maxHeartbeats 4000000
attribute [-go_sem] Ex.kind Ex.text Ex.l
def aCT(F:Md)(f:qd):Option Bool :=
 ck (((f.length:Int)≤(64:Int))→ ¬((f.length:Int)=(0:Int))→(I64 ((f.length:Int)-(1:Int)))) (ck (((f.length:Int)≤(64:Int))→ ¬((f.length:Int)=(0:Int))→(0≤((f.length:Int)-(1:Int))∧((f.length:Int)-(1:Int))<(f.length:Int))) (some ((decide ((f.length:Int)≤(64:Int)))&&((decide ((f.length:Int)=(0:Int)))||(!(decide ((f.getD ((f.length:Int)-(1:Int)).toNat (0:Nat))=(0:Nat))))))))
def aR3:PlR:=⟨[(0,.A [0]),(1,.A [2])],[],[]⟩
def aWB:Ty:=.pair qu .unit
def aF7(F:Md):aH:=mSpec aWB (.one .bool) (fun x=>aCT F x.1)
abbrev bFe(F:Md):List (FuncId×aH):=[]
theorem bFf(F:Md):bA Tryz.prog GL (bFe F):=.nil
attribute [go_sem] aWB aR3
theorem bDE(F:Md):FOK Tryz.prog GL 72 (aF7 F):=by
 refine aX (aY (bFf F)) mix Tryz.func72 rfl xAa xAb aR3 (fun w0 S x Θ g h hV=>?_);obtain⟨(f:qd),u⟩:=x;simp only[bD,go_sem];replace h:sat (aCT F f) _:=h;unfold aCT at h;exact zaO
attribute [go_sem] aF7
def iD(F:Md)(f:qh):Option Bool :=
 (aCT F f.2.1).bind (fun v_7=>if ((¬(v_7=true))∨(f.2.2.1<(-1048576:Int)))∨((1048576:Int)<f.2.2.1) then some false else if (f.2.1.length:Int)=(0:Int) then some ((!f.1)&&(decide (f.2.2.1=(0:Int)))) else ck ((0:Int)<(f.2.1.length:Int)) (some (decide (((f.2.1.getD (0:Nat) (0:Nat))&&&(1:Nat))=(1:Nat)))))
def aIH:PlR:=⟨[(0,.B [1]),(1,.A [1,16]),(2,.A [2]),(3,.A [1,20]),(4,.A [2]),(5,.A [2])],[],[]⟩
def aKd:Ty:=.pair qg .unit
def kH(F:Md):aH:=mSpec aKd (.one .bool) (fun x=>iD F x.1)
abbrev aKe(F:Md):List (FuncId×aH):=[(72,(aF7 F))]
theorem aWC(F:Md):bA Tryz.prog GL (aKe F):=.cons (bDE F) xAa (.nil)
attribute [go_sem] aKd aIH
theorem aD9(F:Md):FOK Tryz.prog GL 42 (kH F):=by
 refine aX (aY (aWC F)) mix Tryz.func42 rfl xAa xAb aIH (fun w0 S x Θ g h hV=>?_);obtain⟨(f:qh),u⟩:=x;simp only[bD,go_sem];replace h:sat (iD F f) _:=h;unfold iD at h;refine aD h fun v_7 hv h=>?_;try simp only[hv,go_sem]
 refine⟨fun hc=>?_,fun hc=>?_⟩
 ·replace h:=cW zAD h;exact zaB
 ·replace h:=cX zAD h;refine bS h (fun hc h=>?_) fun hc h=>?_
  ·exact aE hV [.tmp 2] rfl rfl rfl (aA h) xAd
  ·refine aG h fun g0 h=>?_;exact zaB
attribute [go_sem] kH
def kI(F:Md)(f:qh):Option Int :=
 (iD F f).bind (fun v_7=>if (¬(v_7=true))∨((f.2.1.length:Int)=(0:Int)) then some (0:Int) else if f.1=true then some (-1:Int) else some (1:Int))
def aOW:PlR:=⟨[(0,.B [1]),(1,.A [1,3]),(2,.A [2]),(3,.A [13]),(4,.A [2]),(5,.A [2])],[],[]⟩
def aR4:Ty:=.pair qg .unit
def aAd(F:Md):aH:=mSpec aR4 (.one qi) (fun x=>kI F x.1)
abbrev aR5(F:Md):List (FuncId×aH):=[(42,(kH F))]
theorem bDF(F:Md):bA Tryz.prog GL (aR5 F):=.cons (aD9 F) xAa (.nil)
attribute [go_sem] aR4 aOW
theorem aOX(F:Md):FOK Tryz.prog GL 41 (aAd F):=by
 refine aX (aY (bDF F)) mix Tryz.func41 rfl xAa xAb aOW (fun w0 S x Θ g h hV=>?_);obtain⟨(f:qh),u⟩:=x;simp only[bD,go_sem];replace h:sat (kI F f) _:=h;unfold kI at h;exact zaz
attribute [go_sem] aAd
def aCU(F:Md)(f:qh):Option qh :=
 (yJ F f.2.1).bind (fun g=>some (f.1,g,f.2.2.1,()))
def aWE:PlR:=⟨[(0,.B [1,2]),(1,.C 8 [2])],[],[]⟩
def aYZ:Ty:=.pair qg .unit
def aIf(F:Md):aH:=mSpec aYZ (.one wz) (fun x=>aCU F x.1)
abbrev aY0(F:Md):List (FuncId×aH):=[(117,(zQ F))]
theorem bHM(F:Md):bA Tryz.prog GL (aY0 F):=.cons (aNX F) xAa (.nil)
attribute [go_sem] aYZ aWE
theorem bFg(F:Md):FOK Tryz.prog GL 74 (aIf F):=by
 refine aX (aY (bHM F)) mix Tryz.func74 rfl xAa xAb aWE (fun w0 S x Θ q h hV=>?_);obtain⟨(f:qh),u⟩:=x;simp only[bD,go_sem];replace h:sat (aCU F f) _:=h;unfold aCU at h;refine⟨by kernel_rfl,?_⟩;refine aD h fun g hv h=>?_;try simp only[hv,go_sem]
 exact aE hV [.cell 2 114] rfl rfl rfl (aA h) xAd
attribute [go_sem] aIf
def aBF(F:Md)(f:qh)(g:qh):Option Int :=
 (uN F f.2.1).bind (fun q=>ck (I64 (q+f.2.2.1)) ((uN F g.2.1).bind (fun z=>ck (I64 (z+g.2.2.1)) (if ¬((q+f.2.2.1)=(z+g.2.2.1)) then if (q+f.2.2.1)<(z+g.2.2.1) then some (-1:Int) else some (1:Int) else ck (I64 (f.2.2.1-(min f.2.2.1 g.2.2.1))) ((vJ F f.2.1 (f.2.2.1-(min f.2.2.1 g.2.2.1))).bind (fun I=>ck (I64 (g.2.2.1-(min f.2.2.1 g.2.2.1))) ((vJ F g.2.1 (g.2.2.1-(min f.2.2.1 g.2.2.1))).bind (fun J=>(sK F I J).bind (fun L=>some L)))))))))
def aOY:PlR:=⟨[(0,.B [2,3]),(1,.A [2,3,5,6]),(2,.A [2,3,5,6,22]),(3,.A [25]),(4,.A [4]),(5,.A [4]),(6,.A [2,3,7]),(7,.A [4])],[],[]⟩
def aR6:Ty:=.pair wz (.pair wz .unit)
def aEL(F:Md):aH:=mSpec aR6 (.one qi) (fun x=>aBF F x.1 x.2.1)
abbrev aF8(F:Md):List (FuncId×aH):=[(112,(aAa F)),(113,(aBA F)),(115,(uL F))]
theorem bDG(F:Md):bA Tryz.prog GL (aF8 F):=.cons (aON F) xAa (.cons (aRR F) xAa (.cons (aJH F) xAa (.nil)))
attribute [go_sem] aR6 aOY
theorem bBe(F:Md):FOK Tryz.prog GL 73 (aEL F):=by
 refine aX (aY (bDG F)) mix Tryz.func73 rfl xAa xAb aOY (fun w0 S x Θ N h hV=>?_);obtain⟨(f:qh),(g:qh),u⟩:=x;simp only[bD,go_sem];replace h:sat (aBF F f g) _:=h;unfold aBF at h;refine aD h fun I hv h=>?_;try simp only[hv,go_sem]
 refine aG h fun g0 h=>?_;refine aD h fun L hv h=>?_;try simp only[hv,go_sem]
 refine aG h fun g0 h=>?_;refine bS h (fun hc h=>?_) fun hc h=>?_
 ·refine bP h (fun hc h=>?_) fun hc h=>?_
  ·exact aE hV [.tmp 4] rfl rfl rfl (aA h) xAd
  ·exact aE hV [.tmp 4] rfl rfl rfl (aA h) xAd
 ·refine aG h fun g0 h=>?_;refine aD h fun q hv h=>?_;try simp only[hv,go_sem]
  refine aG h fun g0 h=>?_;refine aD h fun z hv h=>?_;try simp only[hv,go_sem]
  refine aD h fun J hv h=>?_;exact zaW
attribute [go_sem] aEL
def tX(F:Md)(I:qh)(q:qh):Option Int :=
 (iD F I).bind (fun L=>ck (¬(¬(L=true))→((iD F q).isSome=true)) (if (¬(L=true))∨(¬(((iD F q).getD false)=true)) then some (0:Int) else (kI F I).bind (fun f=>(kI F q).bind (fun g=>if (¬(f=g))∨(f=(0:Int)) then if f<g then some (-1:Int) else if g<f then some (1:Int) else some (0:Int) else (aCU F I).bind (fun J=>(aCU F q).bind (fun N=>(aBF F J N).bind (fun z=>ck (I64 (f*z)) (some (f*z)))))))))
def aII:PlR:=⟨[(0,.B [2,3]),(1,.A [2,3,14]),(2,.A [4]),(3,.A [2,3,5,6]),(4,.A [2,3,5,6,25]),(5,.A [5,6,28]),(6,.A [4]),(7,.A [31]),(8,.A [4]),(9,.A [4]),(10,.A [4])],[],[]⟩
def aKf:Ty:=.pair qg (.pair qg .unit)
def aAY(F:Md):aH:=mSpec aKf (.one qi) (fun x=>tX F x.1 x.2.1)
abbrev yU(F:Md):List (FuncId×aH):=[(41,(aAd F)),(42,(kH F)),(73,(aEL F)),(74,(aIf F))]
theorem aWF(F:Md):bA Tryz.prog GL (yU F):=.cons (aOX F) xAa (.cons (aD9 F) xAa (.cons (bBe F) xAa (.cons (bFg F) xAa (.nil))))
attribute [go_sem] aKf aII
theorem aTt(F:Md):FOK Tryz.prog GL 43 (aAY F):=by
 refine aX (aY (aWF F)) mix Tryz.func43 rfl xAa xAb aII (fun w0 S x Θ O h hV=>?_);obtain⟨(f:qh),(g:qh),u⟩:=x;simp only[bD,go_sem];replace h:sat (tX F f g) _:=h;unfold tX at h;refine aD h fun N hv h=>?_;try simp only[hv,go_sem]
 refine aB h fun g0 h=>(yaG ?_);refine⟨fun hc=>?_,fun hc=>?_⟩
 ·replace h:=cW zAD h;exact zaE
 ·replace h:=cX zAD h;refine aD h fun q hv h=>?_;try simp only[hv,go_sem]
  refine aD h fun z hv h=>?_;try simp only[hv,go_sem]
  refine⟨fun hc=>?_,fun hc=>?_⟩
  ·replace h:=cW hc h;refine bP h (fun hc h=>?_) fun hc h=>?_
   ·exact aE hV [.tmp 4] rfl rfl rfl (aA h) xAd
   ·refine bP h (fun hc h=>?_) fun hc h=>?_
    ·exact aE hV [.tmp 4] rfl rfl rfl (aA h) xAd
    ·exact aE hV [.tmp 4] rfl rfl rfl (aA h) xAd
  ·replace h:=cX hc h;refine aD h fun I hv h=>?_;(try simp only[hv,go_sem]);refine aD h fun L hv h=>?_;(try simp only[hv,go_sem]);refine aD h fun J hv h=>?_;(try simp only[hv,go_sem]);refine aB h fun g0 h=>?_;(try simp only[I64,I32] at g0);(repeat (refine⟨zAB,?_⟩));exact zaE
attribute [go_sem] aAY
def vM(F:Md)(g:qh)(f:Int):Option vm :=
 (iD F g).bind (fun q=>if ¬(q=true) then some ((false,([]:List Nat),(0:Int),()),(1:Int),()) else if (g.2.1.length:Int)=(0:Int) then some (g,(0:Int),()) else ck (¬(((4194304:Int)<f)∨(f<(-4194304:Int)))→(I64 (g.2.2.1+f))) (ck (¬((((4194304:Int)<f)∨(f<(-4194304:Int)))∨((1048576:Int)<(g.2.2.1+f)))→(I64 (g.2.2.1+f))) (if ((((4194304:Int)<f)∨(f<(-4194304:Int)))∨((1048576:Int)<(g.2.2.1+f)))∨((g.2.2.1+f)<(-1048576:Int)) then some ((false,([]:List Nat),(0:Int),()),(3:Int),()) else ck (I64 (g.2.2.1+f)) (some ((g.1,g.2.1,(g.2.2.1+f),()),(0:Int),())))))
def aLR:PlR:=⟨[(0,.B [1,2,4]),(1,.A [1,2,4,8]),(2,.B [4,5]),(3,.A [1,2,4,13]),(4,.B [4,5]),(5,.A [1,2,4,34]),(6,.B [4,5]),(7,.B [2,4]),(8,.B [4,5])],[],[]⟩
def aO3:Ty:=.pair qg qo
def aDq(F:Md):aH:=mSpec aO3 (.tup ve) (fun x=>vM F x.1 x.2.1)
abbrev aO4(F:Md):List (FuncId×aH):=[(42,(kH F))]
theorem bBf(F:Md):bA Tryz.prog GL (aO4 F):=.cons (aD9 F) xAa (.nil)
attribute [go_sem] aO3 aLR
theorem aX4(F:Md):FOK Tryz.prog GL 26 (aDq F):=by
 refine aX (aY (bBf F)) mix Tryz.func26 rfl xAa xAb aLR (fun w0 S x Θ z h hV=>?_);obtain⟨(f:qh),(g:Int),u⟩:=x;simp only[bD,go_sem];replace h:sat (vM F f g) _:=h;unfold vM at h;refine aD h fun q hv h=>?_;try simp only[hv,go_sem]
 refine aAn h (fun hc h=>?_) fun hc h=>?_
 ·exact aE hV [.cell 4 74,.tmp 5] rfl rfl rfl (aA h) xAd
 ·refine bS h (fun hc h=>?_) fun hc h=>?_
  ·exact aE hV [.cell 4 74,.tmp 5] rfl rfl rfl (aA h) xAd
  ·refine aB h fun g0 h=>?_;refine aB h fun g1 h=>(yaB ?_);refine⟨fun hc=>?_,fun hc=>?_⟩
   ·replace h:=cW hc h;exact aE hV [.cell 4 74,.tmp 5] rfl rfl rfl (aA h) xAd
   ·replace h:=cX hc h;refine aB h fun g0 h=>(yaB ?_);exact aE hV [.cell 4 74,.tmp 5] rfl rfl rfl (aA h) xAd
attribute [go_sem] aDq
def mU(F:Md)(q:qh)(g:qh):Option Bool :=
 (tX F q g).bind (fun f=>some (decide (f<(0:Int))))
def aO5:PlR:=⟨[(0,.B [2,3]),(1,.A [4])],[],[]⟩
def aR7:Ty:=.pair qg (.pair qg .unit)
def aEM(F:Md):aH:=mSpec aR7 (.one .bool) (fun x=>mU F x.1 x.2.1)
abbrev aR8(F:Md):List (FuncId×aH):=[(43,(aAY F))]
theorem bDH(F:Md):bA Tryz.prog GL (aR8 F):=.cons (aTt F) xAa (.nil)
attribute [go_sem] aR7 aO5
theorem bBg(F:Md):FOK Tryz.prog GL 27 (aEM F):=by
 refine aX (aY (bDH F)) mix Tryz.func27 rfl xAa xAb aO5 (fun w0 S x Θ z h hV=>?_);obtain⟨(g:qh),(f:qh),u⟩:=x;simp only[bD,go_sem];replace h:sat (mU F g f) _:=h;unfold mU at h;refine aD h fun q hv h=>?_;exact zaW
attribute [go_sem] aEM
theorem bMO(a:List Nat)(hl:a.length≤4611686018427387904):aCT none a=some (decide (a.length≤64∧Nrm a)):=by
 unfold aCT;refine aC (fun _ _=>by constructor<;>omega) (aC (fun _ _=>by constructor<;>omega) ?_)
 congr 1
 have e1:((a.length:Int)-1).toNat=a.length-1:=by omega
 rw[e1];by_cases h0:a.length=0
 ·have e:a= []:=List.eq_nil_of_length_eq_zero h0;subst e; decide
 ·have q:=aHG (a:=a) (by omega);by_cases g:a.getD (a.length-1) 0=0
  ·have:¬Nrm a:=fun h=>q.1 h g;have f:¬(a.length≤64∧Nrm a):=fun h=>this h.2;rw[decide_eq_true g,decide_eq_false (show ¬(a.length:Int)=0 by omega),decide_eq_false f];simp
  ·have:Nrm a:=q.2 g;rw[decide_eq_false g];by_cases h64:a.length≤64
   ·have f:a.length≤64∧Nrm a:=⟨h64,this⟩;rw[decide_eq_true f,decide_eq_true (show (a.length:Int)≤64 by omega)]; simp
   ·have f:¬(a.length≤64∧Nrm a):=fun h=>h64 h.1;rw[decide_eq_false f,decide_eq_false (show ¬(a.length:Int)≤64 by omega)]; simp
theorem aO6(d:Dy)(hl:d.2.1.length≤4611686018427387904):iD none d=some (aIa d):=by
 unfold iD aIa;refine aJ (bMO d.2.1 hl) ?_;by_cases h0:d.2.1.length=0
 ·rw[if_pos h0];have e:d.2.1= []:=List.eq_nil_of_length_eq_zero h0;have ht:decide (d.2.1.length≤64∧Nrm d.2.1)=true:=by rw[e]; decide
  rw[ht];by_cases f:d.2.2.1< -1048576∨1048576<d.2.2.1
  ·rw[if_pos (by rcases f with h|h; exact .inl (.inr h); exact .inr h),decide_eq_false (show ¬d.2.2.1=0 by omega),Bool.and_false]
  ·rw[if_neg (by rintro ((h|h)|h); exact h rfl; omega; omega),if_pos (by omega)]
 ·rw[if_neg h0];by_cases g:d.2.1.length≤64∧Nrm d.2.1
  ·rw[decide_eq_true g];by_cases f:d.2.2.1< -1048576∨1048576<d.2.2.1
   ·rw[if_pos (by rcases f with h|h; exact .inl (.inr h); exact .inr h)];rcases f with h|h
    ·rw[decide_eq_false (show ¬ -1048576≤d.2.2.1 by omega)]; simp
    ·rw[decide_eq_false (show ¬d.2.2.1≤1048576 by omega)]; simp
   ·rw[if_neg (by rintro ((h|h)|h); exact h rfl; omega; omega),if_neg (by omega)];refine aC (by omega) ?_;rw[bAA,decide_eq_true (show -1048576≤d.2.2.1 by omega),decide_eq_true (show d.2.2.1≤1048576 by omega)];simp
  ·rw[decide_eq_false g,if_pos (.inl (.inl xAb))];simp
theorem bKH:hb 10= [10]:=bDC xAb xAb
theorem aQH(s:List Nat):iL none s=some (fm s):=by
 by_cases hl:s.length≤60
 ·exact bDq s (by omega)
 ·have e:fm s=false:=by
   unfold fm cK;rw[if_pos (.inl (by omega))];rfl
  rw[e];unfold iL;refine aC (fun h=>absurd h (by omega)) ?_;simp;omega
abbrev VS:Type:=Nat×Int×Nat×Bool×Bool×Bool
def dJ(t:VS)(c:Nat):VS :=
 if c=46 then (t.1,t.2.1,t.2.2.1,t.2.2.2.1,true,t.2.2.2.2.2)
 else if c=101 then (t.1,t.2.1,t.2.2.1,t.2.2.2.1,t.2.2.2.2.1,true)
 else if c=45 then (t.1,t.2.1,t.2.2.1,true,t.2.2.2.2.1,t.2.2.2.2.2)
 else if c=43 then t
 else if t.2.2.2.2.2=true then (t.1,t.2.1,t.2.2.1*10+(c-48),t.2.2.2.1,t.2.2.2.2.1,t.2.2.2.2.2)
 else (t.1*10+(c-48),(if t.2.2.2.2.1=true then t.2.1-1 else t.2.1),t.2.2.1,t.2.2.2.1,t.2.2.2.2.1,t.2.2.2.2.2)
def v0:VS:=(0,0,0,false,false,false)
def vOK(c:Nat):Prop:=oX c=true∨c=46∨c=101∨c=45∨c=43
theorem bFh(t:VS)(c:Nat):t.1≤(dJ t c).1∧t.2.2.1≤(dJ t c).2.2.1∧t.2.1-1≤(dJ t c).2.1∧(dJ t c).2.1≤t.2.1:=by
 unfold dJ;split
 ·simp only; omega
 ·split
  ·simp only; omega
  ·split
   ·simp only; omega
   ·split
    ·omega
    ·split
     ·simp only; omega
     ·simp only; split<;>omega
theorem aIg:∀(l:List Nat) (t:VS),t.1≤(l.foldl dJ t).1∧t.2.2.1≤(l.foldl dJ t).2.2.1∧t.2.1-l.length≤(l.foldl dJ t).2.1∧(l.foldl dJ t).2.1≤t.2.1
 | [],t=>by simp
 | c::l,t=>by
  obtain⟨L,f,q,J⟩:=bFh t c;obtain⟨b1,z,g,I⟩:=aIg l (dJ t c);rw[List.foldl_cons,List.length_cons];exact⟨by omega,by omega,by omega,by omega⟩
theorem bHN(s:List Nat)(i:Int)(t:VS)(hs:s.length≤60)(i0:0≤i)(hi:i<s.length)(N:vOK (s.getD i.toNat 0))(hm:(dJ t (s.getD i.toNat 0)).1<2^900)(he:(dJ t (s.getD i.toNat 0)).2.2.1≤10000)(hk: -100≤t.2.1∧t.2.1≤100) :
  fX none s (hb t.1) t.2.1 (t.2.2.1:Int) t.2.2.2.1 t.2.2.2.2.1 t.2.2.2.2.2 i=some (.inl (hb (dJ t (s.getD i.toNat 0)).1,(dJ t (s.getD i.toNat 0)).2.1,((dJ t (s.getD i.toNat 0)).2.2.1:Int),(dJ t (s.getD i.toNat 0)).2.2.2.1,(dJ t (s.getD i.toNat 0)).2.2.2.2.1,(dJ t (s.getD i.toNat 0)).2.2.2.2.2,i+1)):=by
 obtain⟨m,k,e,Z,W,U⟩:=t;have hk: -100≤k∧k≤100:=hk;have f:I64 (i+1):=by constructor<;>omega
 show fX none s (hb m) k (e:Int) Z W U i=_;unfold fX;generalize hc:s.getD i.toNat 0=c at *;rw[if_pos hi];refine aC ⟨i0,hi⟩ ?_;unfold dJ at hm he ⊢;by_cases q:c=46
 ·rw[if_pos q,if_pos q]; exact aC f rfl
 ·rw[if_neg q] at hm he;rw[if_neg q,if_neg q];refine aC ⟨i0,hi⟩ ?_;by_cases I:c=101
  ·rw[if_pos I,if_pos I]; exact aC f rfl
  ·rw[if_neg I] at hm he;rw[if_neg I,if_neg I];refine aC ⟨i0,hi⟩ ?_;by_cases h3:c=45
   ·rw[if_pos h3,if_pos h3]; exact aC f rfl
   ·rw[if_neg h3] at hm he;rw[if_neg h3,if_neg h3];refine aC ⟨i0,hi⟩ ?_;by_cases z:c=43
    ·rw[if_pos z,if_pos z]; exact aC f rfl
    ·rw[if_neg z] at hm he;rw[if_neg z,if_neg z];have O:48≤c∧c≤57:=by
      rcases N with h|h|h|h|h
      ·simpa only[oX,decide_eq_true_iff] using h
      ·exact absurd h q
      ·exact absurd h I
      ·exact absurd h h3
      ·exact absurd h z
     have J:pN none .u8 c 48=c-48:=bL0 (by omega) O.1;rw[J];by_cases g:U=true
     ·rw[if_pos g] at he;rw[if_pos g,if_pos g];have he:e*10+(c-48)≤10000:=he;refine aC (by constructor<;>omega) (aC ⟨i0,hi⟩ (aC (by constructor<;>omega) (aC f ?_)));simp only[Option.some.injEq,Sum.inl.injEq,Prod.mk.injEq,true_and,and_true];omega
     ·rw[if_neg g] at hm;rw[if_neg g,if_neg g];have hm:m*10+(c-48)<2^900:=hm;have l1:(hb m).length≤60:=gJ 60 (Nat.lt_of_le_of_lt (show m≤m*10+(c-48) by omega) hm) xAb;have l2:(hb (m*10)).length≤60:=gJ 60 (Nat.lt_of_le_of_lt (show m*10≤m*10+(c-48) by omega) hm) xAb;have hM:=aOU m 10 (by omega) (by rw[bKH]; decide);rw[bKH] at hM;have Y:=bKw (c-48) (by omega);have l3:(hb (c-48)).length≤1:=gJ 1 (m:=4) (by omega) xAb;have hA:=bGI (m*10) (c-48) (by omega) (by omega);refine aJ hM (aC ⟨i0,hi⟩ (aJ Y (aJ hA ?_)));by_cases L:W=true
      ·rw[if_pos L];simp only[L,if_true];exact aC (by constructor<;>omega) (aC f rfl)
      ·rw[if_neg L];simp only[L,if_false,Bool.false_eq_true];exact aC f rfl
theorem bDI(s:List Nat)(hs:s.length≤60)(z:∀c∈s,vOK c)(hm:(s.foldl dJ v0).1<2^900)(he:(s.foldl dJ v0).2.2.1≤10000) :
  oJ none s=some (hb (s.foldl dJ v0).1,(s.foldl dJ v0).2.1+(if (s.foldl dJ v0).2.2.2.1=true then -((s.foldl dJ v0).2.2.1:Int) else ((s.foldl dJ v0).2.2.1:Int)),()):=by
 have L:=aIg s v0;have O:(0:Int)-s.length≤(s.foldl dJ v0).2.1:=L.2.2.1;have N:(s.foldl dJ v0).2.1≤0:=L.2.2.2;unfold oJ;refine aJ (a:=(hb (s.foldl dJ v0).1,(s.foldl dJ v0).2.1,((s.foldl dJ v0).2.2.1:Int),(s.foldl dJ v0).2.2.2.1)) (kU (step:=fun d:qd×Int×Int×Bool×Bool×Bool×Int=>fX none s d.1 d.2.1 d.2.2.1 d.2.2.2.1 d.2.2.2.2.1 d.2.2.2.2.2.1 d.2.2.2.2.2.2)
  (I:=fun d=>∃(i:Nat) (t:VS),i≤s.length∧t=(s.take i).foldl dJ v0∧d=(hb t.1,t.2.1,(t.2.2.1:Int),t.2.2.2.1,t.2.2.2.2.1,t.2.2.2.2.2,(i:Int))) (fun d=>((s.length:Int)-d.2.2.2.2.2.2).toNat) (fun _=>(hb (s.foldl dJ v0).1,(s.foldl dJ v0).2.1,((s.foldl dJ v0).2.2.1:Int),(s.foldl dJ v0).2.2.2.1)) ?_ ([],0,0,false,false,false,0) ⟨0,v0,Nat.zero_le _,rfl,by simp[v0,qQ]⟩) ?_
 ·rintro d ⟨i,t,i0,i1,rfl⟩;show (∃W,fX none s (hb t.1) t.2.1 (t.2.2.1:Int) t.2.2.2.1 t.2.2.2.2.1 t.2.2.2.2.2 (i:Int)=_∧_)∨fX none s (hb t.1) t.2.1 (t.2.2.1:Int) t.2.2.2.1 t.2.2.2.2.1 t.2.2.2.2.2 (i:Int)=_;by_cases hi:i<s.length
  ·left
   have hnext:dJ t (s.getD i 0)=(s.take (i+1)).foldl dJ v0:=by
    rw[take_succ hi,List.foldl_append,← i1]; rfl
   have hsplit:s.foldl dJ v0=(s.drop (i+1)).foldl dJ (dJ t (s.getD i 0)):=by
    rw[hnext,← List.foldl_append,List.take_append_drop]
   have mono:=aIg (s.drop (i+1)) (dJ t (s.getD i 0));rw[← hsplit] at mono;have q:=aIg (s.take i) v0;rw[← i1] at q;have J:(0:Int)-(s.take i).length≤t.2.1:=q.2.2.1;have U:t.2.1≤0:=q.2.2.2;rw[List.length_take] at J;have f:=bHN s (i:Int) t hs (by omega) (by omega) (by rw[Int.toNat_natCast]; exact z _ (by rw[List.getD_eq_getElem?_getD,List.getElem?_eq_getElem hi]; exact List.getElem_mem hi)) (by rw[Int.toNat_natCast]; exact Nat.lt_of_le_of_lt mono.1 hm) (by rw[Int.toNat_natCast]; omega) (by constructor<;>omega);rw[Int.toNat_natCast] at f;refine⟨_,f,⟨i+1,dJ t (s.getD i 0),hi,hnext,?_⟩,?_,rfl⟩
   ·rfl
   ·simp only; omega
  ·right
   have e:i=s.length:=(by omega);rw[e,List.take_length] at i1;unfold fX;rw[if_neg (by omega),i1]
 ·unfold vU;simp only;by_cases g:(s.foldl dJ v0).2.2.2.1=true
  ·rw[if_pos g,if_pos g];refine aC (by constructor<;>omega) (aC (by constructor<;>omega) ?_);rw[show (0:Int)-((s.foldl dJ v0).2.2.1:Int)= -((s.foldl dJ v0).2.2.1:Int) from by omega]
  ·rw[if_neg g,if_neg g];exact aC (by constructor<;>omega) rfl
theorem bMP:∀(l:List Nat) (t:VS),(∀c∈l,oX c=true)→l.foldl dJ t=if t.2.2.2.2.2=true then (t.1,t.2.1,l.foldl (fun m c=>m*10+(c-48)) t.2.2.1,t.2.2.2.1,t.2.2.2.2.1,t.2.2.2.2.2) else (l.foldl (fun m c=>m*10+(c-48)) t.1,(if t.2.2.2.2.1=true then t.2.1-l.length else t.2.1),t.2.2.1,t.2.2.2.1,t.2.2.2.2.1,t.2.2.2.2.2)
 | [],t,_=>by
  obtain⟨m,k,e,q,g,f⟩:=t;cases f<;>cases g<;>simp
 | c::l,t,h=>by
  have hc:=h c xAg;simp only[oX,decide_eq_true_iff] at hc;have z:=bMP l (dJ t c) (fun x hx=>h x (by simp[hx]));rw[List.foldl_cons,z];obtain⟨m,k,e,q,g,f⟩:=t;have hs:dJ (m,k,e,q,g,f) c=if f=true then (m,k,e*10+(c-48),q,g,f) else (m*10+(c-48),(if g=true then k-1 else k),e,q,g,f):=by
   unfold dJ;rw[if_neg (by omega),if_neg (by omega),if_neg (by omega),if_neg (by omega)]
  rw[hs];cases f<;>cases g<;>simp<;>omega
theorem aKJ(s:List Nat)(i:Nat):s.drop i=(s.drop i).take (bN s i)++s.drop (i+bN s i):=by
 conv=>lhs; rw[← List.take_append_drop (bN s i) (s.drop i)]
 rw[List.drop_drop]
theorem aCV{s:List Nat}{i c:Nat}(h:cV s i c):s.drop i=c::s.drop (i+1):=by
 have f:i<s.length:=h.1;have g:s.getD i 0=c:=h.2;rw[List.drop_eq_getElem_cons f,← g,List.getD_eq_getElem?_getD,List.getElem?_eq_getElem f]; rfl
theorem aWH{s:List Nat}{i:Nat}(h:∀c∈s.drop (i+bN s i),vOK c):∀c∈s.drop i,vOK c:=by
 rw[aKJ];intro c hc;rcases List.mem_append.1 hc with hc|hc
 ·exact .inl (aDQ s i c hc)
 ·exact h c hc
theorem aHh{s:List Nat}{i c:Nat}(hs:cV s i c)(hc:vOK c)(h:∀c∈s.drop (i+1),vOK c):∀c∈s.drop i,vOK c:=by
 rw[aCV hs];intro x hx;rcases List.mem_cons.1 hx with rfl|hx
 ·exact hc
 ·exact h x hx
theorem bBh{s:List Nat}{i:Nat}{all:List Nat}{g:Int}{neg:Bool}{m:Nat}{k:Int}{pt:Bool}(h:(aH9 s i all g neg).2.2.1=true) :
  (∀c∈s.drop i,vOK c)∧(s.drop i).foldl dJ (m,k,0,neg,pt,true)=(m,k,dW ((s.drop i).take (bN s i)),neg,pt,true)∧dW ((s.drop i).take (bN s i))≤10000∧aH9 s i all g neg=(all,g+(if neg then -(dW ((s.drop i).take (bN s i)):Int) else dW ((s.drop i).take (bN s i))),true,()):=by
 unfold aH9 at h ⊢;by_cases z:bN s i<1∨3<bN s i
 ·rw[if_pos z] at h; cases h
 ·rw[if_neg z] at h ⊢;by_cases I:100<dW ((s.drop i).take (bN s i))
  ·rw[if_pos I] at h; cases h
  ·rw[if_neg I] at h ⊢;have h:decide (i+bN s i=s.length)=true:=h;have hl:=of_decide_eq_true h;have f:s.drop (i+bN s i)= []:=List.drop_eq_nil_of_le (by omega);have q:=aDQ s i;refine⟨aWH (by rw[f]; intro c hc; cases hc),?_,by omega,by rw[h]⟩;have hd:=aKJ s i;rw[f,List.append_nil] at hd;have hv:=bMP ((s.drop i).take (bN s i)) (m,k,0,neg,pt,true) q;rw[← hd] at hv ⊢;rw[hv]; rfl
theorem bM9{s:List Nat}{i:Nat}{all:List Nat}{f:Int}{m:Nat}{pt:Bool}(h:(aVV s i all f).2.2.1=true) :
  (∀c∈s.drop i,vOK c)∧ ∃e Z pw,(s.drop i).foldl dJ (m,f,0,false,pt,false)=(m,f,e,Z,pt,pw)∧e≤10000∧aVV s i all f=(all,f+(if Z=true then -(e:Int) else (e:Int)),true,()):=by
 unfold aVV at h ⊢;by_cases I:cV s i 101
 ·rw[if_pos I] at h ⊢;have q:dJ (m,f,0,false,pt,false) 101=(m,f,0,false,pt,true):=by unfold dJ; rw[if_neg xAb,if_pos rfl]
  by_cases J:cV s (i+1) 45
  ·have g:cV s (i+1) 45∨cV s (i+1) 43:=.inl J;rw[if_pos g,decide_eq_true J] at h ⊢;obtain⟨O,U,L,N⟩:=bBh (m:=m) (k:=f) (pt:=pt) h;refine⟨aHh I (.inr (.inr (.inl rfl))) (aHh J (.inr (.inr (.inr (.inl rfl)))) O),dW ((s.drop (i+2)).take (bN s (i+2))),true,true,?_,L,N⟩;rw[aCV I,aCV J,List.foldl_cons,List.foldl_cons,q];have W:dJ (m,f,0,false,pt,true) 45=(m,f,0,true,pt,true):=(by unfold dJ; rw[if_neg xAb,if_neg xAb,if_pos rfl]);rw[W]; exact U
  ·rw[decide_eq_false J] at h ⊢;by_cases h3:cV s (i+1) 43
   ·have g:cV s (i+1) 45∨cV s (i+1) 43:=.inr h3;rw[if_pos g] at h ⊢;obtain⟨O,U,L,N⟩:=bBh (m:=m) (k:=f) (pt:=pt) h;refine⟨aHh I (.inr (.inr (.inl rfl))) (aHh h3 (.inr (.inr (.inr (.inr rfl)))) O),dW ((s.drop (i+2)).take (bN s (i+2))),false,true,?_,L,N⟩;rw[aCV I,aCV h3,List.foldl_cons,List.foldl_cons,q];have Y:dJ (m,f,0,false,pt,true) 43=(m,f,0,false,pt,true):=(by unfold dJ; rw[if_neg xAb,if_neg xAb,if_neg xAb,if_pos rfl]);rw[Y]; exact U
   ·have g:¬(cV s (i+1) 45∨cV s (i+1) 43):=(by rintro (h|h); exact J h; exact h3 h);rw[if_neg g] at h ⊢;obtain⟨O,U,L,N⟩:=bBh (m:=m) (k:=f) (pt:=pt) h;refine⟨aHh I (.inr (.inr (.inl rfl))) O,dW ((s.drop (i+1)).take (bN s (i+1))),false,true,?_,L,N⟩;rw[aCV I,List.foldl_cons,q]; exact U
 ·rw[if_neg I] at h ⊢;have h:decide (i=s.length)=true:=h;have hl:=of_decide_eq_true h;have z:s.drop i= []:=List.drop_eq_nil_of_le (by omega);refine⟨(by rw[z]; intro c hc; cases hc),0,false,false,(by rw[z]; rfl),by decide,?_⟩;rw[h]; simp
theorem bKI(a b:List Nat):dW (a++b)=b.foldl (fun m c=>m*10+(c-48)) (dW a):=by unfold dW; rw[List.foldl_append]
theorem aQI(s:List Nat)(h:(cK s).2.2.1=true):oJ none s=some (hb (dW (cK s).1),(cK s).2.1,()):=by
 obtain⟨g1,g2,g3,g4⟩:=sN s;have hmS:dW (cK s).1<2^900:=by
  have a:=aDk g1;have b:=rR (cK s).1.length;exact aHb 900 (Nat.lt_of_lt_of_le a b) (by omega)
 have key:s.length≤60∧(∀c∈s,vOK c)∧ ∃e q pt I k,s.foldl dJ v0=(dW (cK s).1,k,e,q,pt,I)∧e≤10000∧(cK s).2.1=k+(if q=true then -(e:Int) else (e:Int)):=by
  unfold cK at h ⊢;by_cases h0:60<s.length∨bN s 0=0
  ·rw[if_pos h0] at h; cases h
  ·rw[if_neg h0] at h ⊢;have O:=aKJ s 0;rw[List.drop_zero,Nat.zero_add] at O;have f:=aDQ s 0;rw[List.drop_zero] at f;have Z:=bMP (s.take (bN s 0)) v0 f;have U:(s.take (bN s 0)).foldl dJ v0=(dW (s.take (bN s 0)),0,0,false,false,false):=(by rw[Z]; rfl);have g:(∀c∈s.drop (bN s 0),vOK c)→ ∀c∈s,vOK c:=fun hh=>by
    have:=aWH (s:=s) (i:=0) (by rw[Nat.zero_add]; exact hh)
    rwa [List.drop_zero] at this
   have hf:s.foldl dJ v0=(s.drop (bN s 0)).foldl dJ (dW (s.take (bN s 0)),0,0,false,false,false):=by
    conv=>lhs; rw[O]
    rw[List.foldl_append,U]
   by_cases W:cV s (bN s 0) 46
   ·rw[if_pos W] at h ⊢;by_cases h2:bN s (bN s 0+1)=0
    ·rw[if_pos h2] at h; cases h
    ·rw[if_neg h2] at h ⊢;have z:=aDQ s (bN s 0+1);have Y:=aKJ s (bN s 0+1);have hle:=xK s (bN s 0+1);obtain⟨p1,e,q,I,p2,p3,L⟩:=bM9 (m:=dW (s.take (bN s 0)++(s.drop (bN s 0+1)).take (bN s (bN s 0+1)))) (pt:=true) h;refine⟨by omega,g (aHh W (.inr (.inl rfl)) (aWH p1)),e,q,true,I,-(bN s (bN s 0+1):Int),?_,p3,by rw[L]⟩;have e46:dJ (dW (s.take (bN s 0)),0,0,false,false,false) 46=(dW (s.take (bN s 0)),0,0,false,true,false):=(by unfold dJ; rw[if_pos rfl]);rw[L,hf,aCV W,List.foldl_cons,e46];have hv1:=bMP ((s.drop (bN s 0+1)).take (bN s (bN s 0+1))) (dW (s.take (bN s 0)),0,0,false,true,false) z;have N:((s.drop (bN s 0+1)).take (bN s (bN s 0+1))).length=bN s (bN s 0+1):=(by rw[List.length_take,List.length_drop]; omega);have J:((s.drop (bN s 0+1)).take (bN s (bN s 0+1))).foldl dJ (dW (s.take (bN s 0)),0,0,false,true,false)=(dW (s.take (bN s 0)++(s.drop (bN s 0+1)).take (bN s (bN s 0+1))),-(bN s (bN s 0+1):Int),0,false,true,false):=by
      rw[hv1,bKI,N];simp
     conv=>lhs; rw[Y,List.foldl_append,J,p2]
   ·rw[if_neg W] at h ⊢;obtain⟨p1,e,q,I,p2,p3,L⟩:=bM9 (m:=dW (s.take (bN s 0))) (pt:=false) h;refine⟨by omega,g p1,e,q,false,I,_,?_,p3,by rw[L]⟩;rw[hf,p2,L]
 obtain⟨k1,k2,e,q,pt,I,k,k3,k4,k5⟩:=key;have hV:=bDI s k1 k2 (by rw[k3]; exact hmS) (by rw[k3]; exact k4);rw[k3] at hV;rw[hV,k5]
theorem bHO(s:List Nat):iE none s=some (yQ s):=by
 unfold iE yQ;refine aJ (a:=(cK s).2.2.1) (aQH s) ?_;by_cases h:(cK s).2.2.1=true
 ·have z:¬ ¬(cK s).2.2.1=true:=fun hn=>hn h;rw[if_neg z,if_neg z];obtain⟨g1,g2,g3,g4⟩:=sN s;refine aJ (aQI s h) ?_;simp only;have J:dW (cK s).1<2^900:=by
   have a:=aDk g1;have b:=rR (cK s).1.length;exact aHb 900 (Nat.lt_of_lt_of_le a b) (by omega)
  have lm:=gJ 60 J xAb;by_cases h3:0≤(cK s).2.1
  ·rw[if_pos h3];have lT:=gJ 60 (aDR 900 (rR (cK s).2.1.toNat) (by omega)) xAb;have hM:=aOU (dW (cK s).1) (10^(cK s).2.1.toNat) (by omega) (by omega);have Z:dW (cK s).1*10^(cK s).2.1.toNat=aCn s:=(by unfold aCn; rw[show (max (cK s).2.1 0).toNat=(cK s).2.1.toNat from by omega]);rw[Z] at hM;have U:=bDD false (aCn s) 900 0 (bAD s) xAb xAb;refine aJ (bBb _ h3 (by omega)) (aJ hM (aJ U ?_));have N:exD s=1:=(by unfold exD; rw[show (max (-(cK s).2.1) 0).toNat=0 from by omega,Nat.pow_zero]);have g:aCn s=exN s*2^(cK s).2.1.toNat:=by
    rw[← Z]; unfold exN;rw[show (max (cK s).2.1 0).toNat=(cK s).2.1.toNat from by omega,Nat.mul_assoc,← Nat.mul_pow]
   rw[if_neg (show ¬exN s%exD s≠0 by rw[N,Nat.mod_one]; simp),N,Nat.div_one];simp only[Option.some.injEq,Prod.mk.injEq,and_true];unfold eI;by_cases q:exN s=0
   ·rw[if_pos q,g,q,Nat.zero_mul,if_pos rfl]
   ·have Y:aCn s≠0:=(by rw[g]; exact Nat.mul_ne_zero q (Nat.pos_iff_ne_zero.1 (Nat.two_pow_pos _)));rw[if_neg q,if_neg Y];have ht:tzn (aCn s)=(cK s).2.1.toNat+tzn (exN s):=(by rw[g,Nat.mul_comm]; exact bGc _ q);have hq:aCn s/2^tzn (aCn s)=exN s/2^tzn (exN s):=by
     rw[ht,Nat.pow_add,g,Nat.mul_comm (exN s),Nat.mul_div_mul_left _ _ (Nat.two_pow_pos _)]
    rw[hq,ht];simp only[Prod.mk.injEq,true_and,and_true];omega
  ·rw[if_neg h3];have g:exN s=dW (cK s).1:=(by unfold exN; rw[show (max (cK s).2.1 0).toNat=0 from by omega,Nat.pow_zero,Nat.mul_one]);have N:exD s=5^(0-(cK s).2.1).toNat:=(by unfold exD; rw[show (max (-(cK s).2.1) 0).toNat=(0-(cK s).2.1).toNat from by omega]);have hloop:bO none (fun d:List Nat×Int=>kG none (hb (dW (cK s).1),(cK s).2.1,()) d.1 d.2) ([1],0)=some (hb (exD s)):=by
    refine kU (step:=fun d:List Nat×Int=>kG none (hb (dW (cK s).1),(cK s).2.1,()) d.1 d.2) (I:=fun d=>0≤d.2∧d.2≤0-(cK s).2.1∧d.1=hb (5^d.2.toNat)) (fun d=>(0-(cK s).2.1-d.2).toNat) (fun _=>hb (exD s)) ?_ ([1],0) ⟨by simp,by (try simp only); omega,by simp[bBa]⟩;rintro⟨f,i⟩ ⟨i0,i1,O⟩;have i0:0≤i:=i0;have i1:i≤0-(cK s).2.1:=i1;have O:f=hb (5^i.toNat):=O;show (∃d',kG none (hb (dW (cK s).1),(cK s).2.1,()) f i=_∧_)∨kG none (hb (dW (cK s).1),(cK s).2.1,()) f i=_;unfold kG;simp only;by_cases hi:i<0-(cK s).2.1
    ·left
     have hp:=bKE (b:=5) xAb xAb i.toNat (by omega);rw[← O] at hp;refine⟨(hb (5^(i.toNat+1)),i+1),aC (by constructor<;>omega) ?_,⟨by (try simp only); omega,by (try simp only); omega,?_⟩,by (try simp only); omega,trivial⟩
     ·rw[if_pos hi];exact aJ hp (aC (by constructor<;>omega) rfl)
     ·simp only; rw[show (i+1).toNat=i.toNat+1 from by omega]
    ·right
     refine aC (by constructor<;>omega) ?_;rw[if_neg hi,O,N,show i=0-(cK s).2.1 from by omega]
   refine aJ hloop ?_;have lD:(hb (exD s)).length≤60:=gJ 60 (aDR 900 (aVX (max (-(cK s).2.1) 0).toNat) (by omega)) xAb;have W:=bMM (dW (cK s).1) (exD s) (bGl s) (by omega) (by omega);have hq:dW (cK s).1/exD s<2^900:=Nat.lt_of_le_of_lt (Nat.div_le_self _ _) J;have U:=bDD false (dW (cK s).1/exD s) 900 (cK s).2.1 hq xAb (by constructor<;>omega);unfold wE;refine aJ W ?_;rw[g];by_cases L:dW (cK s).1%exD s=0
   ·rw[if_neg (by simp only[L,qQ]; simp),if_neg (fun h=>h L)];refine aJ U ?_;unfold eI; rfl
   ·have:(hb (dW (cK s).1%exD s)).length≠0:=fun e=>L (aTP.1 e);rw[if_pos (by (try simp only); omega),if_pos L]; rfl
 ·rw[if_pos h,if_pos h]; rfl
theorem bGM(c:Nat):uM none c=some (aYP c):=by
 unfold uM aYP;rw[Bool.decide_and]
theorem bKJ(c:Nat):zU none c=some (mP c):=by
 unfold zU mP oX;rw[bGM,Option.bind_some,Bool.decide_and];rfl
theorem aY1(w:List Nat):Tot (vD none w) (fun b=>b=true↔bN1 w):=by
 unfold vD;rw[bGM];refine .ck (fun _=>by omega) (.ck (fun _=>rfl) (.ite (fun h=>.ret ⟨fun q=>(by cases q),fun q=>?_⟩) fun h=>?_))
 ·obtain⟨⟨a,b⟩,c,_⟩:=q;rcases h with h|h
  ·omega
  ·exact absurd (decide_eq_true c) h
 ·have g:aYP (w.getD 0 0)=true:=Classical.not_not.1 fun q=>h (.inr q);have hl:w.length≤20:=by omega
  refine Tot.bind (P:=bDh w (fun c=>mP c=true) (fun b:Bool=>b=false)) (Tot.all 0 w (fun c=>mP c=true) (fun b:Bool=>b=false) (fun i i0 hi=>?_) ?_) fun e he=>?_
  ·unfold vV;rw[bKJ];exact .ite (fun _=>.ck ⟨i0,hi⟩ (.ite (fun q=>.ret ⟨rfl,q⟩) fun q=>.ck (by omega) (.ret ⟨rfl,Classical.not_not.1 q⟩))) fun q=>absurd hi q
  ·unfold vV;exact .ite (fun q=>absurd q (by omega)) fun _=>.ret trivial
  ·cases e with
   | inr b =>
    obtain⟨rfl,z⟩:=he;exact .ret ⟨fun q=>(by cases q),fun x=>absurd x.2.2.1 z⟩
   | inl u =>
    obtain⟨r,I,f⟩:=aWa bMk w xAb;show Tot ((hZ none bMk w).bind _) _;rw[I,Option.bind_some];refine .ret ⟨fun q=>⟨⟨by omega,by omega⟩,of_decide_eq_true g,he,fun m=>?_⟩,fun x=>decide_eq_true ?_⟩
    ·have:=f.2 m;have:=of_decide_eq_true q;omega
    ·have:=mt f.1 x.2.2.2;omega
theorem p45(s:List Nat):((0:Int)<(s.length:Int)∧s.getD 0 0=45)↔([45]:List Nat).isPrefixOf s=true:=by
 cases s with
 | nil=>simp
 | cons c r =>
  simp[List.isPrefixOf];omega
theorem aWI(s:List Nat):jL none s=some (fm (sg s)):=by
 have hp:=p45 s;unfold jL sg;refine aC (fun h=>h) ?_;by_cases h:([45]:List Nat).isPrefixOf s=true
 ·have f:=hp.2 h;rw[if_pos h];exact ify f (aC (by have:=f.1; omega) (aJ (aQH _) rfl))
 ·rw[if_neg h];exact ifn (fun q=>h (hp.1 q)) (aJ (aQH _) rfl)
theorem bGN(s:List Nat):lL none s=some (sg s,([45]:List Nat).isPrefixOf s,()):=by
 have hp:=p45 s;unfold lL sg;refine aC (fun h=>h) ?_;by_cases h:([45]:List Nat).isPrefixOf s=true
 ·have f:=hp.2 h;rw[if_pos h,h];exact ify f (aC (by have:=f.1; omega) rfl)
 ·rw[if_neg h,Bool.eq_false_iff.2 h];exact ifn (fun q=>h (hp.1 q)) rfl
theorem bx{x y:Bool}(h:¬x=y):y=true↔ ¬x=true:=by cases x<;>cases y<;>simp_all
theorem aTQ(a b:Nat):10^a*10^b=10^(a+b):=(Nat.pow_add 10 a b).symm
theorem bMQ(n:Nat):((0:Int)<(((hb n).length:Nat):Int))↔n≠0:=by
 have:=aTP (M:=n);omega
theorem bFi{a b:List Nat}(ha:fm (sg a)=true)(g:fm (sg b)=true):Tot (sL none a b) (fun r=>r=true↔ ¬VLe a b):=by
 obtain⟨g1,g2,g3,g4⟩:=sN (sg a);obtain⟨k1,k2,k3,k4⟩:=sN (sg b);have L:∀ {l:List Nat},(∀c∈l,oX c=true)→l.length≤60→dW l<2^240:=fun {l} h1 f=>by
  have a:=aDk h1;have b:=rR l.length;exact Nat.lt_of_lt_of_le a (Nat.le_trans b (p2m _ _ (by omega)))
 have J:=L g1 g2;have N:=L k1 k2;have Y:=aQI (sg a) ha;have V2:=aQI (sg b) g;have A1:aCn (sg a)=dW (cK (sg a)).1*10^(max (cK (sg a)).2.1 0).toNat:=rfl;have A2:aCn (sg b)=dW (cK (sg b)).1*10^(max (cK (sg b)).2.1 0).toNat:=rfl;have C1:aOA (sg a)=10^(max (-(cK (sg a)).2.1) 0).toNat:=rfl;have Z:aOA (sg b)=10^(max (-(cK (sg b)).2.1) 0).toNat:=rfl;unfold sL VLe aOD;rw[bGN,bGN,Option.bind_some,Option.bind_some];simp only[Y,V2,Option.bind_some];rw[A1,A2,C1,Z];generalize (cK (sg a)).2.1=i at *;generalize (cK (sg b)).2.1=k at *;generalize dW (cK (sg a)).1=m at *;generalize dW (cK (sg b)).1=n at *;generalize ([45]:List Nat).isPrefixOf a=p;generalize ([45]:List Nat).isPrefixOf b=q;have T1:=bBb (i-min i k) (by omega) (by omega);have T2:=bBb (k-min i k) (by omega) (by omega);have I:10^(i-min i k).toNat<2^1300:=aDR 1300 (rR _) (by omega);have O:10^(k-min i k).toNat<2^1300:=aDR 1300 (rR _) (by omega);have L1:=gJ 1000 J xAb;have L2:=gJ 1000 N xAb;have L3:=gJ 1000 I xAb;have L4:=gJ 1000 O xAb;have M1:=aOU m (10^(i-min i k).toNat) (by omega) (by omega);have M2:=aOU n (10^(k-min i k).toNat) (by omega) (by omega);have hU:m*10^(i-min i k).toNat<2^1540:=bKf 1540 J I xAb;have L5:=gJ 1000 hU xAb;have hC:=aTO (m*10^(i-min i k).toNat) (n*10^(k-min i k).toNat) (by omega);have W:m*10^(max i 0).toNat*10^(max (-k) 0).toNat=m*10^(i-min i k).toNat*10^(max (-i) 0+max (-k) 0+min i k).toNat:=by
  rw[Nat.mul_assoc,Nat.mul_assoc,aTQ,aTQ]
  congr 2
  omega
 have D2:n*10^(max k 0).toNat*10^(max (-i) 0).toNat=n*10^(k-min i k).toNat*10^(max (-i) 0+max (-k) 0+min i k).toNat:=by
  rw[Nat.mul_assoc,Nat.mul_assoc,aTQ,aTQ]
  congr 2
  omega
 have P:∀j:Nat,0<10^j:=fun j=>Nat.pow_pos xAb;have Z1:m*10^(max i 0).toNat≠0↔m*10^(i-min i k).toNat≠0:=by
  simp only[ne_eq,Nat.mul_eq_zero,Nat.ne_of_gt (P _),or_false]
 have Z2:n*10^(max k 0).toNat≠0↔n*10^(k-min i k).toNat≠0:=by
  simp only[ne_eq,Nat.mul_eq_zero,Nat.ne_of_gt (P _),or_false]
 rw[W,D2,decide_eq_decide.2 Z1,decide_eq_decide.2 Z2];simp only[Nat.mul_le_mul_right_iff (P _)];refine .ck (by omega) ?_;rw[T1,Option.bind_some,M1,Option.bind_some];refine .ck (by omega) ?_;rw[T2,Option.bind_some,M2,Option.bind_some,hC];simp only[bMQ,Option.bind_some];refine .ite (fun h=>.ret ?_) fun h=>.ite (fun f=>.ret ?_) fun f=>.ret ?_
 ·have h:¬(p&&decide (m*10^(i-min i k).toNat≠0))=(q&&decide (n*10^(k-min i k).toNat≠0)):=bne_iff_ne.1 h;rw[if_pos h];exact bx h
 ·have h:¬ ¬(p&&decide (m*10^(i-min i k).toNat≠0))=(q&&decide (n*10^(k-min i k).toNat≠0)):=fun z=>h (bne_iff_ne.2 z);rw[if_neg h,if_pos (by rw[Bool.and_eq_true,decide_eq_true_iff]; exact f),decide_eq_true_iff];clear h f;generalize m*10^(i-min i k).toNat=U;generalize n*10^(k-min i k).toNat=V;unfold xP;grind
 ·have h:¬ ¬(p&&decide (m*10^(i-min i k).toNat≠0))=(q&&decide (n*10^(k-min i k).toNat≠0)):=fun z=>h (bne_iff_ne.2 z);rw[if_neg h,if_neg (by rw[Bool.and_eq_true,decide_eq_true_iff]; exact f),decide_eq_true_iff];clear h f;generalize m*10^(i-min i k).toNat=U;generalize n*10^(k-min i k).toNat=V;unfold xP;grind
theorem bKK(w:List Nat):VLe w w:=by
 unfold VLe;rw[if_neg (fun q=>q rfl)];split<;>exact Nat.le_refl _
theorem aWJ(r:List Nat×List Nat×Unit):Tot (lM none r) (fun b=>b=true↔aMH r):=by
 unfold lM aMH bKh;rw[aWI,aWI,Option.bind_some];by_cases f:fm (sg r.1)=true
 ·by_cases g:r.2.1= []
  ·rw[if_pos g];refine .ck (fun _ q=>absurd g q) (.ck (fun _ q=>absurd g q) (.ret ⟨fun _=>⟨f,f,bKK _⟩,fun _=>?_⟩));rw[f,decide_eq_true (show r.2.1=aI ⟨#[]⟩ from g)];rfl
  ·rw[if_neg g];by_cases h3:fm (sg r.2.1)=true
   ·obtain⟨v,hv,hi⟩:=bFi f h3;rw[hv];refine .ck (fun _ _=>rfl) (.ck (fun _ _ _=>rfl) (.ret ?_));rw[f,decide_eq_false (show ¬r.2.1=aI ⟨#[]⟩ from g),Option.getD_some,Option.getD_some,h3];simp only[Bool.true_and,Bool.false_or,Bool.not_eq_true'];rw[← Bool.not_eq_true,hi];exact⟨fun q=>⟨trivial,trivial,Classical.not_not.1 q⟩,fun q=>fun z=>z q.2.2⟩
   ·refine .ck (fun _ _=>rfl) (.ck (fun _ _ q=>absurd q h3) (.ret ⟨fun q=>?_,fun q=>absurd q.2.1 h3⟩));rw[decide_eq_false (show ¬r.2.1=aI ⟨#[]⟩ from g),Option.getD_some,Bool.eq_false_iff.2 h3] at q;simp at q
 ·refine .ck (fun q=>absurd q f) (.ck (fun q=>absurd q f) (.ret ⟨fun q=>?_,fun q=>absurd q.1 f⟩));rw[Bool.eq_false_iff.2 f] at q;cases q
def aAe(F:Md)(q:qj)(g:qf)(f:qj):Option qz :=
 some (q,f,g.2.2.2.1,())
def lS(F:Md)(q:qf)(f:Int)(g:qj):Option ((Int×qj)⊕qj) :=
 if f<(q.2.2.1.length:Int) then ck (0≤f∧f<(q.2.2.1.length:Int)) (ck (((g.length)+(1:Nat))*16≤140737488355328) (ck (I64 (f+(1:Int))) (some (.inl ((f+(1:Int)),(g++([(q.2.2.1.getD (f.toNat) ([],([],[],()),())).1]:List qd))))))) else some (.inr g)
def tY(F:Md)(f:qf)(g:qj):Option qz :=
 (bO F (fun d:Int×qj=>lS F f d.1 d.2) ((0:Int),([]:List qd))).bind (fun e=>aAe F g f e)
def lU(F:Md)(q:qf)(f:Int)(g:qj):Option ((Int×qj)⊕qj) :=
 if f<(q.2.1.length:Int) then ck (0≤f∧f<(q.2.1.length:Int)) (ck (((g.length)+(1:Nat))*16≤140737488355328) (ck (I64 (f+(1:Int))) (some (.inl ((f+(1:Int)),(g++([(q.2.1.getD (f.toNat) ([],([],[],()),(Ex.mk 0 [] []),())).1]:List qd))))))) else some (.inr g)
def wT(F:Md)(f:qf):Option qz :=
 (bO F (fun d:Int×qj=>lU F f d.1 d.2) ((0:Int),([]:List qd))).bind (fun e=>tY F f e)
def aKg:PlR:=⟨[(0,.B [1]),(1,.A [1,5,6]),(2,.A [1,5,6,7]),(3,.A [1,5,6,7,13]),(4,.A [1,5,6,7]),(5,.B [1,5,6,7]),(6,.A [1,5,6,8]),(7,.A [1,5,6,8,29]),(8,.A [1,5,6,8]),(9,.B [1,5,6,8]),(10,.A [2,3,4])],[(5,9),(9,13)],[]⟩
def aLS:Ty:=.pair qc .unit
def aCi(F:Md):aH:=mSpec aLS (.tup (.pair qx (.pair qx (.pair qx .unit)))) (fun x=>wT F x.1)
abbrev aX5(F:Md):List (FuncId×aH):=[]
theorem aX6(F:Md):bA Tryz.prog GL (aX5 F):=.nil
attribute [go_sem] aLS aKg
theorem aWK(F:Md):FOK Tryz.prog GL 45 (aCi F):=by
 refine aX (aY (aX6 F)) mix Tryz.func45 rfl xAa xAb aKg (fun w0 S x Θ W h hV=>?_);obtain⟨(f:qf),u⟩:=x;simp only[bD,go_sem];replace h:sat (wT F f) _:=h;unfold wT at h;refine bH hV (D:=qj) (fun d=>sat (tY F f d) Θ) [6] (fun d=>[(1,.ptr 0 []),(5,.own 1)]) (fun d=>[.inr (.box 5 (.val qc f)),.inr (.row 9 .str d)]) ?_ ?_
 ·simp only[go_sem];refine pM 5 9 .str rfl (yaA ?_);refine aU hV (D:=Int×qj) [6] (fun d=>[(1,.ptr 0 []),(5,.own 1),(7,.val qi d.1)]) (fun d=>[.inr (.box 5 (.val qc f)),.inr (.row 9 .str d.2)]) h rfl xAc ?_;rintro⟨J,z⟩ A3 T3 hA3 U h;simp only[go_sem];replace h:sat (lU F f J z) _:=h;unfold lU at h;refine bP h (fun hc h=>?_) fun hc h=>?_
  ·refine aB h fun g0 h=>(yaB ?_);refine aB h fun g0 h=>(yaB ?_);refine aG h fun g0 h=>?_;replace h:=hA3 _ (aA h);refine fA [0,2] rfl rfl (yaA ?_);exact zaF
  ·replace h:=yaH (U _ (aA h));exact aK (z) h rfl xAc
 ·rintro g h;simp only[go_sem];replace h:sat (tY F f g) _:=h;unfold tY at h;refine bH hV (D:=qj) (fun d=>sat (aAe F g f d) Θ) [] (fun d=>[(1,.ptr 0 []),(5,.own 1),(6,.own 2)]) (fun d=>[.inr (.box 5 (.val qc f)),.inr (.row 9 .str g),.inr (.row 9 .str d)]) ?_ ?_
  ·simp only[go_sem];refine pM 6 9 .str rfl (yaA ?_);refine aU hV (D:=Int×qj) [] (fun d=>[(1,.ptr 0 []),(5,.own 1),(6,.own 2),(8,.val qi d.1)]) (fun d=>[.inr (.box 5 (.val qc f)),.inr (.row 9 .str g),.inr (.row 9 .str d.2)]) h rfl xAc ?_;rintro⟨L,q⟩ Z Y N O h;simp only[go_sem];replace h:sat (lS F f L q) _:=h;unfold lS at h;refine bP h (fun hc h=>?_) fun hc h=>?_
   ·refine aB h fun g0 h=>(yaB ?_);refine aB h fun g0 h=>(yaB ?_);refine aG h fun g0 h=>?_;replace h:=N _ (aA h);refine fA [0,1,3] rfl rfl (yaA ?_);exact zaF
   ·replace h:=yaH (O _ (aA h));exact aK (q) h rfl xAc
  ·rintro I h;simp only[go_sem];replace h:sat (aAe F g f I) _:=h;unfold aAe at h;exact zaZ
attribute [go_sem] aCi
def rV(F:Md)(g:qj)(f:Int):Option ((Int)⊕((Unit)⊕Bool)) :=
 if f<(g.length:Int) then ck (0≤f∧f<(g.length:Int)) ((vD F (g.getD (f.toNat) ([]:List Nat))).bind (fun q=>ck (¬(¬(q=true))→(0≤f∧f≤(g.length:Int))) (ck (¬(¬(q=true))→(0≤f∧f<(g.length:Int))) (ck (¬(¬(q=true))→((hZ F (List.take (f.toNat) g) (g.getD (f.toNat) ([]:List Nat))).isSome=true)) (if (¬(q=true))∨((0:Int)≤((hZ F (List.take (f.toNat) g) (g.getD (f.toNat) ([]:List Nat))).getD (0:Int))) then some (.inr (.inr false)) else ck (I64 (f+(1:Int))) (some (.inl (f+(1:Int))))))))) else some (.inr (.inl ()))
def tZ(F:Md)(f:qj):Option Bool :=
 (bO F (fun d:Int=>rV F f d) (0:Int)).bind (fun e=>match e with|(.inl e)=>some true|(.inr e)=>some e)
def aIJ:PlR:=⟨[(0,.A [0]),(1,.A [0,3]),(2,.A [0,3,7]),(3,.A [0,3]),(4,.A [0,3,26]),(5,.A [2]),(6,.A [2])],[],[]⟩
def aKh:Ty:=.pair qx .unit
def aAZ(F:Md):aH:=mSpec aKh (.one .bool) (fun x=>tZ F x.1)
abbrev aFv(F:Md):List (FuncId×aH):=[(44,(wP F)),(77,(mM F))]
theorem aWL(F:Md):bA Tryz.prog GL (aFv F):=.cons (aLy F) xAa (.cons (aFp F) xAa (.nil))
attribute [go_sem] aKh aIJ
theorem aTv(F:Md):FOK Tryz.prog GL 46 (aAZ F):=by
 refine aX (aY (aWL F)) mix Tryz.func46 rfl xAa xAb aIJ (fun w0 S x Θ J h hV=>?_);obtain⟨(g:qj),u⟩:=x;simp only[bD,go_sem];replace h:sat (tZ F g) _:=h;unfold tZ at h;refine aU hV (D:=Int) [0] (fun d=>[(3,.val qi d)]) (fun d=>[]) h rfl xAc ?_;rintro f L T2 hA2 hE2 h;simp only[go_sem];replace h:sat (rV F g f) _:=h;unfold rV at h;refine bP h (fun hc h=>?_) fun hc h=>?_
 ·refine aB h fun g0 h=>(yaC ?_);refine aD h fun q hv h=>?_;try simp only[hv,go_sem]
  refine aB h fun g0 h=>?_;refine aB h fun g1 h=>?_;refine aB h fun z h=>?_;repeat (refine⟨by first|with_reducible assumption|omega|(intros; first|with_reducible assumption|omega)|(intro _; exact⟨rfl,by decide⟩)|(intro _; refine(?_:_=aL _); rfl)|(refine(?_:_=aL _); rfl)|exact⟨rfl,rfl⟩|(intro q0; (try have e0:=g0 zAI); (try have e1:=g1 zAI); (try have I:=z zAI); first|assumption|omega)|decide,?_⟩)
  refine⟨fun hc=>?_,fun hc=>?_⟩
  ·replace h:=cW zAD h;replace h:=yaH (hE2 _ (aA h));exact zaB
  ·replace h:=cX zAD h;refine aB h fun g0 h=>?_;(try simp only[I64,I32] at g0);(repeat (refine⟨zAB,?_⟩));exact zar
 ·replace h:=yaH (hE2 _ (aA h));exact zaB
attribute [go_sem] aAZ
def qH(F:Md)(q:qf)(g:qz)(f:Int):Option ((Int)⊕((Unit)⊕Bool)) :=
 if f<(q.2.2.2.2.1.length:Int) then ck (0≤f∧f<(q.2.2.2.2.1.length:Int)) ((kD F (q.2.2.2.2.1.getD (f.toNat) ([],(Ex.mk 0 [] []),())).2.1 (((([]:List qd)++g.1)++g.2.1)++g.2.2.1)).bind (fun z=>if ¬(z=true) then some (.inr (.inr false)) else ck (I64 (f+(1:Int))) (some (.inl (f+(1:Int)))))) else some (.inr (.inl ()))
def nI(F:Md)(g:qf)(f:qz):Option (Bool) :=
 (bO F (fun d:Int=>qH F g f d) (0:Int)).bind (fun e=>match e with|(.inl e)=>some true|(.inr e)=>some e)
def qI(F:Md)(g:qf)(f:Int):Option ((Int)⊕((Unit)⊕Bool)) :=
 if f<(g.2.2.1.length:Int) then ck (0≤f∧f<(g.2.2.1.length:Int)) ((lM F (g.2.2.1.getD (f.toNat) ([],([],[],()),())).2.1).bind (fun q=>if ¬(q=true) then some (.inr (.inr false)) else ck (I64 (f+(1:Int))) (some (.inl (f+(1:Int)))))) else some (.inr (.inl ()))
def nJ(F:Md)(g:qf)(f:qz):Option (Bool) :=
 (bO F (fun d:Int=>qI F g d) (0:Int)).bind (fun e=>match e with|(.inl e)=>nI F g f|(.inr e)=>some e)
def qJ(F:Md)(q:qf)(g:qz)(f:Int):Option ((Int)⊕((Unit)⊕Bool)) :=
 if f<(q.2.1.length:Int) then ck (0≤f∧f<(q.2.1.length:Int)) ((lM F (q.2.1.getD (f.toNat) ([],([],[],()),(Ex.mk 0 [] []),())).2.1).bind (fun z=>ck (¬(¬(z=true))→(0≤f∧f<(q.2.1.length:Int))) (ck (¬(¬(z=true))→((kD F (q.2.1.getD (f.toNat) ([],([],[],()),(Ex.mk 0 [] []),())).2.2.1 (((([]:List qd)++g.1)++g.2.1)++g.2.2.1)).isSome=true)) (if (¬(z=true))∨(¬(((kD F (q.2.1.getD (f.toNat) ([],([],[],()),(Ex.mk 0 [] []),())).2.2.1 (((([]:List qd)++g.1)++g.2.1)++g.2.2.1)).getD false)=true)) then some (.inr (.inr false)) else ck (I64 (f+(1:Int))) (some (.inl (f+(1:Int)))))))) else some (.inr (.inl ()))
def rW(F:Md)(q:qf)(f:qz)(every_16:qj):Option (Bool) :=
 (tZ F every_16).bind (fun g=>if ¬(g=true) then some false else (bO F (fun d:Int=>qJ F q f d) (0:Int)).bind (fun e=>match e with|(.inl e)=>nJ F q f|(.inr e)=>some e))
def jV(F:Md)(g:qf)(f:Int)(every_81:qj):Option ((Int×qj)⊕qj) :=
 if f<(g.2.2.2.2.1.length:Int) then ck (0≤f∧f<(g.2.2.2.2.1.length:Int)) (ck (((every_81.length)+(1:Nat))*16≤140737488355328) (ck (I64 (f+(1:Int))) (some (.inl ((f+(1:Int)),(every_81++([(g.2.2.2.2.1.getD (f.toNat) ([],(Ex.mk 0 [] []),())).1]:List qd))))))) else some (.inr every_81)
def uA(F:Md)(g:qf):Option Bool :=
 (vD F g.1).bind (fun v_7=>if (((((¬(v_7=true))∨((g.2.1.length:Int)<(1:Int)))∨((6:Int)<(g.2.1.length:Int)))∨((6:Int)<(g.2.2.1.length:Int)))∨((4:Int)<(g.2.2.2.1.length:Int)))∨((4:Int)<(g.2.2.2.2.1.length:Int)) then some false else (wT F g).bind (fun f=>ck (((0:Nat)+(f.1.length))*16≤140737488355328) (ck (((([]:List qd)++f.1).length+(f.2.1.length))*16≤140737488355328) (ck ((((([]:List qd)++f.1)++f.2.1).length+(f.2.2.1.length))*16≤140737488355328) (ck (((0:Nat)+(((([]:List qd)++f.1)++f.2.1)++f.2.2.1).length)*16≤140737488355328) ((bO F (fun d:Int×qj=>jV F g d.1 d.2) ((0:Int),(([]:List qd)++(((([]:List qd)++f.1)++f.2.1)++f.2.2.1)))).bind (fun e=>rW F g f e)))))))
def aIK:PlR:=⟨[(0,.B [1]),(1,.A [1,45]),(2,.A [2]),(3,.A [1,3,4,5]),(4,.B [1,6]),(5,.B [1,6,7]),(6,.A [1,6,7,8]),(7,.A [1,6,7,8,66]),(8,.A [1,6,7,8]),(9,.B [1,6,7,8]),(10,.A [1,6,80]),(11,.A [2]),(12,.A [1,6,9]),(13,.A [1,6,9,85]),(14,.A [1,6,9]),(15,.A [1,6,9,106]),(16,.A [2]),(17,.A [1,6,10]),(18,.A [1,6,10,111]),(19,.A [1,6,10]),(20,.A [1,6,10,121]),(21,.A [2]),(22,.A [1,6,11]),(23,.A [1,6,11,126]),(24,.A [1,6,11]),(25,.A [1,6,11,137]),(26,.A [2]),(27,.A [2])],[(9,13),(15,20),(20,25)],[]⟩
def aKi:Ty:=.pair qc .unit
def aA0(F:Md):aH:=mSpec aKi (.one .bool) (fun x=>uA F x.1)
abbrev uB(F:Md):List (FuncId×aH):=[(44,(wP F)),(45,(aCi F)),(46,(aAZ F)),(47,(xG F)),(48,(zV F))]
theorem aWM(F:Md):bA Tryz.prog GL (uB F):=.cons (aLy F) xAa (.cons (aWK F) xAa (.cons (aTv F) xAa (.cons (aOe F) xAa (.cons (aQf F) xAa (.nil)))))
attribute [go_sem] aKi aIK
theorem aTw(F:Md):FOK Tryz.prog GL 28 (aA0 F):=by
 refine aX (aY (aWM F)) mix Tryz.func28 rfl xAa xAb aIK (fun w0 S x Θ hw h hV=>?_);obtain⟨(g:qf),u⟩:=x;simp only[bD,go_sem];replace h:sat (uA F g) _:=h;unfold uA at h;refine aD h fun v_7 hv h=>?_;try simp only[List.nil_append] at hv
 try simp only[hv,go_sem]
 try simp only[List.replicate,List.set,hv,go_sem]
 refine⟨fun hc=>?_,fun hc=>?_⟩
 ·replace h:=cW zAD h;exact zaB
 ·replace h:=cX zAD h;refine aD h fun f hv h=>?_;try simp only[List.nil_append] at hv
  try simp only[hv,go_sem]
  try simp only[List.replicate,List.set,hv,go_sem]
  refine aB h fun g0 h=>?_;try simp only[List.replicate,List.set,go_sem]
  repeat (refine⟨zAA,?_⟩)
  refine aB h fun g0 h=>?_;try simp only[List.replicate,List.set,go_sem]
  repeat (refine⟨zAA,?_⟩)
  refine aB h fun g0 h=>?_;try simp only[List.replicate,List.set,go_sem]
  repeat (refine⟨zAA,?_⟩)
  refine aB h fun g0 h=>?_;try simp only[List.replicate,List.set,go_sem]
  repeat (refine⟨zAA,?_⟩)
  refine bH hV (D:=qj) (fun d=>sat (rW F g f d) Θ) [] (fun d=>[(1,.ptr 0 []),(6,.own 1),(7,.own 2)]) (fun d=>[.inr (.box 5 (.val qc g)),.inr (.row 9 .str (((([]:List qd)++f.1)++f.2.1)++f.2.2.1)),.inr (.row 9 .str d)]) ?_ ?_
  ·simp only[go_sem];refine zB [0,4,6] rfl rfl (yaA ?_);refine aU hV (D:=Int×qj) [] (fun d=>[(1,.ptr 0 []),(6,.own 1),(7,.own 2),(8,.val qi d.1)]) (fun d=>[.inr (.box 5 (.val qc g)),.inr (.row 9 .str (((([]:List qd)++f.1)++f.2.1)++f.2.2.1)),.inr (.row 9 .str d.2)]) h rfl xAc ?_;rintro⟨J,every_81⟩ A7 T7 Z hE7 h;simp only[go_sem];replace h:sat (jV F g J every_81) _:=h;unfold jV at h;refine bP h (fun hc h=>?_) fun hc h=>?_
   ·refine aB h fun g0 h=>?_;(try simp only[List.replicate,List.set,go_sem]);(repeat (refine⟨zAA,?_⟩));refine aB h fun g0 h=>?_;(try simp only[List.replicate,List.set,go_sem]);(repeat (refine⟨zAA,?_⟩));refine aB h fun g0 h=>?_;(try simp only[I64,I32] at g0);(try simp only[List.replicate,List.set,go_sem]);(repeat (refine⟨zAA,?_⟩));replace h:=Z _ (aA h);refine fA [0,1,3] rfl rfl (yaA ?_);exact zaF
   ·replace h:=yaH (hE7 _ (aA h));exact aK (every_81) h rfl xAc
  ·rintro every_16 h;simp only[go_sem];replace h:sat (rW F g f every_16) _:=h;unfold rW at h;refine aD h fun v_22 hv h=>?_;(try simp only[List.nil_append] at hv);(try simp only[hv,go_sem]);(try simp only[List.replicate,List.set,hv,go_sem]);refine aAn h (fun hc h=>?_) fun hc h=>?_
   ·exact aE hV [.tmp 2] rfl rfl rfl (aA h) xAd
   ·refine bH hV (D:=Unit) (fun d=>sat (nJ F g f) Θ) [] (fun d=>[(1,.ptr 0 []),(6,.own 1)]) (fun d=>[.inr (.box 5 (.val qc g)),.inr (.row 9 .str (((([]:List qd)++f.1)++f.2.1)++f.2.2.1))]) ?_ ?_
    ·simp only[go_sem];refine zB [0,1] rfl rfl (yaA ?_);refine aU hV (D:=Int) [] (fun d=>[(1,.ptr 0 []),(6,.own 1),(9,.val qi d)]) (fun d=>[.inr (.box 5 (.val qc g)),.inr (.row 9 .str (((([]:List qd)++f.1)++f.2.1)++f.2.2.1))]) h rfl xAc ?_;rintro N A13 T13 U q h;simp only[go_sem];replace h:sat (qJ F g f N) _:=h;unfold qJ at h;refine bP h (fun hc h=>?_) fun hc h=>?_
     ·refine aB h fun g0 h=>?_;(try simp only[List.replicate,List.set,go_sem]);(repeat (refine⟨zAA,?_⟩));refine aD h fun v_78 hv h=>?_;(try simp only[List.nil_append] at hv);(try simp only[hv,go_sem]);(try simp only[List.replicate,List.set,hv,go_sem]);refine aB h fun g0 h=>?_;refine aB h fun g1 h=>?_;(try simp only[List.replicate,List.set,go_sem]);(repeat (refine⟨by first|with_reducible assumption|omega|(intros; first|with_reducible assumption|omega)|(simp only[go_sem] at *; first|with_reducible assumption|omega)|(intro _; exact⟨rfl,by decide⟩)|(intro _; refine(?_:_=aL _); rfl)|(refine(?_:_=aL _); rfl)|exact⟨rfl,rfl⟩|(intro q0; (try have e0:=g0 zAI); (try have e1:=g1 zAI); first|assumption|omega)|decide,?_⟩));refine⟨fun hc=>?_,fun hc=>?_⟩
      ·replace h:=cW zAD h;replace h:=yaH (q _ (aA h));exact zaB
      ·replace h:=cX zAD h;refine aB h fun g0 h=>?_;(try simp only[I64,I32] at g0);(try simp only[List.replicate,List.set,go_sem]);(repeat (refine⟨zAA,?_⟩));replace h:=U _ (aA h);exact zaF
     ·replace h:=yaH (q _ (aA h));exact aK () h rfl xAc
    ·rintro u h;simp only[go_sem];replace h:sat (nJ F g f) _:=h;unfold nJ at h;refine bH hV (D:=Unit) (fun d=>sat (nI F g f) Θ) [] (fun d=>[(1,.ptr 0 []),(6,.own 1)]) (fun d=>[.inr (.box 5 (.val qc g)),.inr (.row 9 .str (((([]:List qd)++f.1)++f.2.1)++f.2.2.1))]) ?_ ?_
     ·simp only[go_sem];refine aU hV (D:=Int) [] (fun d=>[(1,.ptr 0 []),(6,.own 1),(10,.val qi d)]) (fun d=>[.inr (.box 5 (.val qc g)),.inr (.row 9 .str (((([]:List qd)++f.1)++f.2.1)++f.2.2.1))]) h rfl xAc ?_;rintro L A18 T18 O I h;simp only[go_sem];replace h:sat (qI F g L) _:=h;unfold qI at h;refine bP h (fun hc h=>?_) fun hc h=>?_
      ·refine aB h fun g0 h=>?_;(try simp only[List.replicate,List.set,go_sem]);(repeat (refine⟨zAA,?_⟩));refine aD h fun v_65 hv h=>?_;(try simp only[List.nil_append] at hv);(try simp only[hv,go_sem]);(try simp only[List.replicate,List.set,hv,go_sem]);refine aAn h (fun hc h=>?_) fun hc h=>?_
       ·replace h:=yaH (I _ (aA h));exact zaB
       ·refine aB h fun g0 h=>?_;(try simp only[I64,I32] at g0);(try simp only[List.replicate,List.set,go_sem]);(repeat (refine⟨zAA,?_⟩));replace h:=O _ (aA h);exact zaF
      ·replace h:=yaH (I _ (aA h));exact aK () h rfl xAc
     ·rintro u h;simp only[go_sem];replace h:sat (nI F g f) _:=h;unfold nI at h;refine aU hV (D:=Int) [] (fun d=>[(1,.ptr 0 []),(6,.own 1),(11,.val qi d)]) (fun d=>[.inr (.box 5 (.val qc g)),.inr (.row 9 .str (((([]:List qd)++f.1)++f.2.1)++f.2.2.1))]) h rfl xAc ?_;rintro Y A23 T23 W z h;simp only[go_sem];replace h:sat (qH F g f Y) _:=h;unfold qH at h;refine bP h (fun hc h=>?_) fun hc h=>?_
      ·refine aB h fun g0 h=>?_;(try simp only[List.replicate,List.set,go_sem]);(repeat (refine⟨zAA,?_⟩));refine aD h fun v_52 hv h=>?_;(try simp only[List.nil_append] at hv);(try simp only[hv,go_sem]);(try simp only[List.replicate,List.set,hv,go_sem]);refine aAn h (fun hc h=>?_) fun hc h=>?_
       ·replace h:=yaH (z _ (aA h));exact zaB
       ·refine aB h fun g0 h=>?_;(try simp only[I64,I32] at g0);(try simp only[List.replicate,List.set,go_sem]);(repeat (refine⟨zAA,?_⟩));replace h:=W _ (aA h);exact zaF
      ·replace h:=yaH (z _ (aA h));exact zaB
attribute [go_sem] aA0
def aA1(F:Md)(g:qa)(q:qd)(f:Int):Option ((Int)⊕((Unit)⊕Int)) :=
 if f<(g.2.2.2.2.2.2.2.2.1.length:Int) then ck (0≤f∧f<(g.2.2.2.2.2.2.2.2.1.length:Int)) (if (g.2.2.2.2.2.2.2.2.1.getD (f.toNat) ([],[],[],[],[],())).1=q then some (.inr (.inr f)) else ck (I64 (f+(1:Int))) (some (.inl (f+(1:Int))))) else some (.inr (.inl ()))
def oO(F:Md)(g:qa)(f:qd):Option Int :=
 (bO F (fun d:Int=>aA1 F g f d) (0:Int)).bind (fun e=>match e with|(.inl e)=>some (-1:Int)|(.inr e)=>some e)
def aLT:PlR:=⟨[(0,.B [1,2]),(1,.A [1,2,5]),(2,.A [1,2,5,10]),(3,.A [1,2,5]),(4,.A [1,2,5,20]),(5,.A [4]),(6,.A [4])],[],[]⟩
def aPe:Ty:=.pair qe wi
def aDr(F:Md):aH:=mSpec aPe (.one qi) (fun x=>oO F x.1 x.2.1)
abbrev bBi(F:Md):List (FuncId×aH):=[]
theorem bBj(F:Md):bA Tryz.prog GL (bBi F):=.nil
attribute [go_sem] aPe aLT
theorem aX7(F:Md):FOK Tryz.prog GL 29 (aDr F):=by
 refine aX (aY (bBj F)) mix Tryz.func29 rfl xAa xAb aLT (fun w0 S x Θ z h hV=>?_);obtain⟨(g:qa),(f:qd),u⟩:=x;simp only[bD,go_sem];replace h:sat (oO F g f) _:=h;unfold oO at h;refine aU hV (D:=Int) [1] (fun d=>[(2,.ptr 0 []),(5,.val qi d)]) (fun d=>[.inr (.box 10 (.val qe g))]) h rfl xAc ?_;rintro q I T2 hA2 hE2 h;simp only[go_sem];replace h:sat (aA1 F g f q) _:=h;unfold aA1 at h;exact zaJ
attribute [go_sem] aDr
def yV(F:Md)(q:qf)(g:qd)(f:Int):Option ((Int)⊕((Unit)⊕Int)) :=
 if f<(q.2.2.2.2.1.length:Int) then ck (0≤f∧f<(q.2.2.2.2.1.length:Int)) (if (q.2.2.2.2.1.getD (f.toNat) ([],(Ex.mk 0 [] []),())).1=g then some (.inr (.inr f)) else ck (I64 (f+(1:Int))) (some (.inl (f+(1:Int))))) else some (.inr (.inl ()))
def uP(F:Md)(g:qf)(f:qd):Option Int :=
 (bO F (fun d:Int=>yV F g f d) (0:Int)).bind (fun e=>match e with|(.inl e)=>some (-1:Int)|(.inr e)=>some e)
def aPf:PlR:=⟨[(0,.B [1,2]),(1,.A [1,2,5]),(2,.A [1,2,5,10]),(3,.A [1,2,5]),(4,.A [1,2,5,20]),(5,.A [4]),(6,.A [4])],[],[]⟩
def aR9:Ty:=.pair qc wi
def aEN(F:Md):aH:=mSpec aR9 (.one qi) (fun x=>uP F x.1 x.2.1)
abbrev bDJ(F:Md):List (FuncId×aH):=[]
theorem bDK(F:Md):bA Tryz.prog GL (bDJ F):=.nil
attribute [go_sem] aR9 aPf
theorem bBk(F:Md):FOK Tryz.prog GL 30 (aEN F):=by
 refine aX (aY (bDK F)) mix Tryz.func30 rfl xAa xAb aPf (fun w0 S x Θ z h hV=>?_);obtain⟨(g:qf),(f:qd),u⟩:=x;simp only[bD,go_sem];replace h:sat (uP F g f) _:=h;unfold uP at h;refine aU hV (D:=Int) [1] (fun d=>[(2,.ptr 0 []),(5,.val qi d)]) (fun d=>[.inr (.box 5 (.val qc g))]) h rfl xAc ?_;rintro q I T2 hA2 hE2 h;simp only[go_sem];replace h:sat (yV F g f q) _:=h;unfold yV at h;exact zaJ
attribute [go_sem] aEN
theorem bBl{w:List Nat}(f:T8 w):cR none w=some true↔bN1 w:=by
 obtain⟨b,hb,hi⟩:=bDm w f;rw[hb,← hi];exact⟨Option.some.inj,congrArg some⟩
theorem bHP(s:aDS)(hx:s.2.1.length≤1000)(hp:s.2.2.1.length≤1000):wT none s=some (s.2.1.map (·.1),s.2.2.1.map (·.1),s.2.2.2.1,()):=by
 refine Tot.eq ?_;unfold wT;refine Tot.bind (P:=fun l=>l=s.2.1.map (·.1)) (Tot.idx s.2.1.length (fun l i=>l=(s.2.1.take i).map (·.1)) (by omega) (fun i l i0 hi h64 hI=>?_) (fun l hI=>?_) rfl) fun l hl=>?_
 ·show Tot (lU none s i l) _;unfold lU;exact zaj
 ·show Tot (lU none s _ l) _;unfold lU;exact zaX
 ·subst hl;unfold tY;refine Tot.bind (P:=fun l=>l=s.2.2.1.map (·.1)) (Tot.idx s.2.2.1.length (fun l i=>l=(s.2.2.1.take i).map (·.1)) (by omega) (fun i l i0 hi h64 hI=>?_) (fun l hI=>?_) rfl) fun q hq=>?_
  ·show Tot (lS none s i l) _;unfold lS;exact zal
  ·show Tot (lS none s _ l) _;unfold lS;exact zaX
  ·subst hq;exact .ret rfl
theorem bDL(l:List qd)(h:∀x∈l,T8 x)(hl:l.length≤1000):Tot (tZ none l) (fun b=>b=true↔Apt l):=by
 unfold tZ;refine Tot.bind (P:=fun e=>match e with| .inl _=>Apt l| .inr b=>b=false∧ ¬Apt l) (Tot.loop (fun d:Int=>0≤d∧d≤l.length∧(∀x∈l.take d.toNat,cR none x=some true)∧(l.take d.toNat).Nodup) (fun d=>((l.length:Int)-d).toNat) ?_ ⟨by decide,by omega,(fun x hx=>by cases hx),List.nodup_nil⟩) fun e he=>?_
 ·rintro i ⟨i0,i1,I,J⟩;have O:(i+1).toNat=i.toNat+1:=by omega
  show Tot (rV none l i) _;unfold rV;refine .ite (fun hi=>.ck ⟨i0,hi⟩ ?_) fun hi=>.ret ?_
  ·have hiN:i.toNat<l.length:=(by omega);have hm:=fK ([]:List Nat) hiN;have hk:=eP ([]:List Nat) hiN;generalize l.getD i.toNat []=w at hm hk;obtain⟨r,W,f⟩:=aWa (l.take i.toNat) w (by rw[List.length_take]; omega);rw[W];refine(aY1 w).bind fun v hv=>.ck (fun _=>⟨i0,by omega⟩) (.ck (fun _=>⟨i0,hi⟩) (.ck (fun _=>rfl) (.ite (fun hh=>.ret ⟨rfl,fun N=>?_⟩) fun g=>?_)))
   ·rcases hh with hh|hh
    ·exact hh (hv.2 ((bBl (h w hm)).1 (N.1 w hm)))
    ·have nd:(l.take (i.toNat+1)).Nodup:=N.2.sublist (List.take_sublist _ _);rw[hk,List.nodup_append] at nd;exact nd.2.2 w (f.1 hh) w (List.mem_singleton.2 rfl) rfl
   ·have z:v=true:=Classical.not_not.1 fun q=>g (.inl q);have U:=(bBl (h w hm)).2 (hv.1 z);have L:w∉l.take i.toNat:=fun q=>g (.inr (f.2 q));refine .ck (by omega) (.ret ⟨⟨by omega,by omega,?_,?_⟩,by omega⟩)
    ·rw[O,hk];intro x hx;rcases List.mem_append.1 hx with hx|hx
     ·exact I x hx
     ·rw[List.mem_singleton.1 hx];exact U
    ·rw[O,hk,List.nodup_append];refine⟨J,by simp,fun a ha b hb=>?_⟩;rw[List.mem_singleton.1 hb];intro e;exact L (e▸ha)
  ·show Apt l;rw[List.take_of_length_le (by omega)] at I J;exact⟨I,J⟩
 ·cases e with
  | inl u=>exact .ret ⟨fun _=>he,fun _=>rfl⟩
  | inr b =>
   obtain⟨rfl,g⟩:=he;exact .ret ⟨fun h=>(by cases h),fun h=>absurd h g⟩
theorem bDM{e:Ex}{names:List qd}(he:OkE e)(hl:names.length≤1000):kD none e names=bQ none e names:=by
 obtain⟨n,g,f,h3⟩:=he;obtain⟨c,d,ok,Z,p2,p3,p4,p5,N,U⟩:=count_eq n 64 e 1 g f (by omega) (by omega);have L:=bAF f;rw[bM4 e names g f h3 hl];unfold kD;rw[aYT names hl n 64 e g f];refine aJ Z (aC (fun _=>rfl) (congrArg some ?_));have Y:((ok&&decide ((c:Int)≤60))&&decide ((d:Int)≤30))=(decide (nd n e≤60∧ht n e≤30)&&gk n e):=by
  rw[Bool.eq_iff_iff];simp only[Bool.and_eq_true,decide_eq_true_eq];constructor
  ·rintro⟨⟨z,O⟩,J⟩;by_cases hx:gk n e=true∧1+ht n e≤31
   ·obtain⟨b1,W,I⟩:=N hx;exact⟨⟨by omega,by omega⟩,hx.1⟩
   ·rcases U hx with q|q
    ·rw[q] at z; cases z
    ·omega
  ·rintro⟨⟨z,O⟩,J⟩;obtain⟨b1,W,I⟩:=N ⟨J,by omega⟩;exact⟨⟨I,by omega⟩,by omega⟩
 show (((ok&&decide ((c:Int)≤60))&&decide ((d:Int)≤30))&&lvs names n e)=_;rw[Y,Bool.and_assoc]
theorem bDN(s:aDS)(h:bDc s):Tot (uA none s) (fun b=>b=true↔cR none s.1=some true∧aXV s):=by
 unfold uA;refine(aY1 s.1).bind fun v hv=>.ite (fun hb=>.ret ⟨fun h=>(by cases h),fun q=>?_⟩) fun hb=>?_
 ·have g:=hv.2 ((bBl h.n).1 q.1);have:=q.2.b;rcases hb with ((((hb|hb)|hb)|hb)|hb)|hb
  ·exact absurd g hb
  all_goals omega
 ·have g:v=true:=Classical.not_not.1 fun q=>hb (.inl (.inl (.inl (.inl (.inl q)))));have Z:=(bBl h.n).2 (hv.1 g);have hx1:1≤s.2.1.length:=by have:=fun q=>hb (.inl (.inl (.inl (.inl (.inr q))))); omega
  have hx6:s.2.1.length≤6:=by have:=fun q=>hb (.inl (.inl (.inl (.inr q)))); omega
  have W:s.2.2.1.length≤6:=by have:=fun q=>hb (.inl (.inl (.inr q))); omega
  have O:s.2.2.2.1.length≤4:=by have:=fun q=>hb (.inl (.inr q)); omega
  have Y:s.2.2.2.2.1.length≤4:=by have:=fun q=>hb (.inr q); omega
  clear hb;have nl:(nmS s).length≤16:=by
   grind[nmS]
  have n8:∀x∈nmS s,T8 x:=fun x hx=>by
   exact zam
  have U:(([]:List qd)++s.2.1.map (·.1))++s.2.2.1.map (·.1)++s.2.2.2.1=nmS s:=by
   rw[List.nil_append,List.append_assoc];rfl
  rw[bHP s (by omega) (by omega),Option.bind_some];refine .ck (by simp only[List.length_map]; omega) (.ck (by simp only[List.length_map,List.length_append,List.length_nil]; omega) (.ck (by simp only[List.length_map,List.length_append,List.length_nil]; omega) (.ck (by simp only[List.length_map,List.length_append,List.length_nil]; omega) ?_)));show Tot (Option.bind (bO none _ ((0:Int),([]:List qd)++((([]:List qd)++s.2.1.map (·.1))++s.2.2.1.map (·.1)++s.2.2.2.1))) _) _;rw[U];refine Tot.bind (P:=fun l=>l=nmS s++s.2.2.2.2.1.map (·.1)) (Tot.idx s.2.2.2.2.1.length (fun l i=>l=nmS s++(s.2.2.2.2.1.take i).map (·.1)) (by omega) (fun i l i0 hi h64 hI=>?_) (fun l hI=>?_) (show ([]:List qd)++nmS s=nmS s++ [] by simp)) fun all N=>?_
  ·show Tot (jV none s i l) _;unfold jV;exact zak
  ·show Tot (jV none s _ l) _;unfold jV;exact zaX
  ·subst N;unfold rW;refine(bDL (nmS s++s.2.2.2.2.1.map (·.1)) (fun x hx=>?_) (by grind)).bind fun v2 J=>.ite (fun hn=>.ret ⟨fun h=>(by cases h),fun q=>absurd (J.2 q.2.n) hn⟩) fun hn=>?_
   ·rcases List.mem_append.1 hx with hx|hx
    ·exact n8 x hx
    ·obtain⟨a,ha,rfl⟩:=List.mem_map.1 hx;exact(h.o.2 a ha).1
   have ap:=J.1 (Classical.not_not.1 hn);refine Tot.bind (P:=bDh s.2.1 (fun a=>aMH a.2.1∧bQ none a.2.2.1 (nmS s)=some true) (fun b:Bool=>b=false)) (Tot.all (([]:List Nat),(([]:List Nat),([]:List Nat),()),(Ex.mk 0 [] []),()) s.2.1 (fun a=>aMH a.2.1∧bQ none a.2.2.1 (nmS s)=some true) (fun b=>b=false) (fun i i0 hi=>?_) ?_) fun e he=>?_
   ·unfold qJ;simp only[U];refine .ite (fun _=>.ck ⟨i0,hi⟩ ?_) fun hh=>absurd hi hh;obtain⟨q1,q2,q3,I⟩:=h.x.2 _ (fK (([]:List Nat),(([]:List Nat),([]:List Nat),()),(Ex.mk 0 [] []),()) (l:=s.2.1) (k:=i.toNat) (by omega));rw[bDM I (by omega)];obtain⟨v,hv,_⟩:=(aF1 _ (nmS s) I (by omega)).self;rw[hv,Option.getD_some];refine(aWJ _).bind fun r L=>.ck (fun _=>⟨i0,hi⟩) (.ck (fun _=>rfl) (.ite (fun hh=>.ret ⟨rfl,fun q=>?_⟩) fun hh=>.ck (by omega) (.ret ⟨rfl,L.1 (Classical.not_not.1 fun q=>hh (.inl q)),?_⟩)))
    ·have q2:=q.2;exact hh.elim (fun z=>z (L.2 q.1)) fun z=>z (Option.some.inj q2)
    ·exact congrArg some (Classical.not_not.1 fun q=>hh (.inr q))
   ·unfold qJ;exact zac
   ·cases e with
    | inr b =>
     obtain⟨rfl,f⟩:=he;exact .ret ⟨fun h=>(by cases h),fun q=>absurd q.2.x f⟩
    | inl u =>
     show Tot (nJ none s _) _;unfold nJ;refine Tot.bind (P:=bDh s.2.2.1 (fun a=>aMH a.2.1) (fun b:Bool=>b=false)) (Tot.all (([]:List Nat),(([]:List Nat),([]:List Nat),()),()) s.2.2.1 (fun a=>aMH a.2.1) (fun b=>b=false) (fun i i0 hi=>?_) ?_) fun e hp=>?_
     ·unfold qI;refine .ite (fun _=>.ck ⟨i0,hi⟩ ?_) fun hh=>absurd hi hh;exact(aWJ _).bind fun r L=>.ite (fun hh=>.ret ⟨rfl,fun q=>hh (L.2 q)⟩) fun hh=>.ck (by omega) (.ret ⟨rfl,L.1 (Classical.not_not.1 hh)⟩)
     ·unfold qI;exact zac
     ·cases e with
      | inr b =>
       obtain⟨rfl,f⟩:=hp;exact .ret ⟨fun h=>(by cases h),fun q=>absurd q.2.p f⟩
      | inl u =>
       show Tot (nI none s _) _;unfold nI;refine Tot.bind (P:=bDh s.2.2.2.2.1 (fun a=>bQ none a.2.1 (nmS s)=some true) (fun b:Bool=>b=false)) (Tot.all (([]:List Nat),(Ex.mk 0 [] []),()) s.2.2.2.2.1 (fun a=>bQ none a.2.1 (nmS s)=some true) (fun b=>b=false) (fun i i0 hi=>?_) ?_) fun e ho=>?_
       ·unfold qH;simp only[U];refine .ite (fun _=>.ck ⟨i0,hi⟩ ?_) fun hh=>absurd hi hh;have I:=(h.o.2 _ (fK (([]:List Nat),(Ex.mk 0 [] []),()) (l:=s.2.2.2.2.1) (k:=i.toNat) (by omega))).2;rw[bDM I (by omega)];obtain⟨v,hv,_⟩:=(aF1 _ (nmS s) I (by omega)).self;rw[hv,Option.bind_some];exact .ite (fun hh=>.ret ⟨rfl,fun q=>hh (Option.some.inj q)⟩) fun hh=>.ck (by omega) (.ret ⟨rfl,congrArg some (Classical.not_not.1 hh)⟩)
       ·unfold qH;exact zac
       ·cases e with
        | inr b =>
         obtain⟨rfl,f⟩:=ho;exact .ret ⟨fun h=>(by cases h),fun q=>absurd q.2.o f⟩
        | inl u=>exact .ret ⟨fun _=>⟨Z,⟨⟨by omega,hx6⟩,W,O,Y⟩,ap,he,hp,ho⟩,fun _=>rfl⟩
def mG(F:Md)(f:qd):Option (qh×vl) :=
 ck ((iE F f).isSome=true) (ck (((iE F f).getD ((false,([]:List Nat),(0:Int),()),(0:Int),())).2.1=(0:Int)→(kI F ((iE F f).getD ((false,([]:List Nat),(0:Int),()),(0:Int),())).1).isSome=true) (some (((iE F f).getD ((false,([]:List Nat),(0:Int),()),(0:Int),())).1,(decide (((iE F f).getD ((false,([]:List Nat),(0:Int),()),(0:Int),())).2.1=(0:Int))&&decide ((0:Int)<(kI F ((iE F f).getD ((false,([]:List Nat),(0:Int),()),(0:Int),())).1).getD (0:Int))),())))
@[go_sem]def aDs:Ty:=.pair .str .unit
def aCj(F:Md):aH:=mSpec aDs (.tup (.pair qg wo)) (fun x=>mG F x.1)
abbrev aDt(F:Md):List (FuncId×aH):=[(40,(aDp F)),(41,(aAd F))]
theorem aLU(F:Md):bA Tryz.prog GL (aDt F):=.cons (aX2 F) xAa (.cons (aOX F) xAa (.nil))
theorem aWN(F:Md):FOK Tryz.prog GL 25 (aCj F):=by
 refine wH (aY (aLU F)) Tryz.func25 rfl xAa xAb fun w0 S x r g h=>?_;have hF:xT (fr Tryz.prog (EM (aDt F)) S w0 Tryz.f25.ntmps):=⟨aY (aLU F),mix⟩;obtain⟨(f:qd),u⟩:=x;simp only[aDs,Ty.wf,aE8] at g;simp only[bD,aDs];try dsimp only at h
 replace h:mG F f=some r:=h;unfold mG at h;refine aO (dI hF [0,2] (yaA ?_));refine aP (aO (dI hF [2,4,5] (yaA ?_)));obtain⟨g0,h⟩:=bE h;repeat (refine⟨by first|with_reducible assumption|omega|exact⟨rfl,rfl⟩|decide,?_⟩)
 obtain⟨g0,h⟩:=bE h;obtain rfl:=Option.some.inj h;generalize (iE F f).getD ((false,([]:List Nat),(0:Int),()),(0:Int),())=v at *;refine aP ?_;by_cases hc:v.2.1=(0:Int)
 ·have g1:=g0 hc;refine aO (aQ1 hF [2,3] [(2,.ptr 0 []),(3,.val .bool (decide (v.2.1=(0:Int))&&decide ((0:Int)<(kI F v.1).getD (0:Int))))] [.box 3 (.val qg v.1),.box 3 (.val qg v.1)] xAb ?_ ?_)
  ·simp only[go_sem];unfold bG;intro i hi;have hi:i=0∨i=1:=(by revert hi; revert i; decide);rcases hi with rfl|rfl
   ·simp only[go_sem];(repeat (refine⟨zAC,?_⟩));unfold bG;intro i hi;have hi:i=1:=(by revert hi; revert i; decide);subst hi;simp only[go_sem];(repeat (refine⟨zAC,?_⟩));unfold bG;intro i hi;have hi:i=2:=(by revert hi; revert i; decide);subst hi;simp only[go_sem];exact zae
   ·simp only[go_sem];(repeat (refine⟨zAC,?_⟩));unfold bG;intro i hi;have hi:i=0∨i=2:=(by revert hi; revert i; decide);rcases hi with rfl|rfl
    ·simp only[go_sem];(repeat (refine⟨zAC,?_⟩));unfold bG;intro i hi;have hi:i=2:=(by revert hi; revert i; decide);subst hi;simp only[go_sem];exact zae
    ·simp only[go_sem];(repeat (refine⟨zAC,?_⟩));unfold bG;intro i hi;have hi:i=0∨i=3:=(by revert hi; revert i; decide);rcases hi with rfl|rfl
     ·simp only[go_sem];exact zae
     ·simp only[go_sem];(repeat (refine⟨zAC,?_⟩));unfold bG;intro i hi;have hi:i=0∨i=4:=(by revert hi; revert i; decide);rcases hi with rfl|rfl
      ·simp only[go_sem];exact zaG
      ·simp only[go_sem];refine⟨fun _=>(yaD ?_),fun q=>absurd q (by simp[hc])⟩;unfold bG;intro i hi;have hi:i=0∨i=5:=(by revert hi; revert i; decide);rcases hi with rfl|rfl
       ·simp only[go_sem];(repeat (refine⟨zAC,?_⟩));unfold bG;intro i hi;have hi:i=5:=(by revert hi; revert i; decide);subst hi;simp only[go_sem];refine⟨fun _=>(yaD ?_),fun q=>absurd q (by simp[hc])⟩;exact zaC
       ·simp only[go_sem];refine⟨fun _=>(yaD ?_),fun q=>absurd q (by simp[hc])⟩;unfold bG;intro i hi;have hi:i=0∨i=6:=(by revert hi; revert i; decide);rcases hi with rfl|rfl
        ·simp only[go_sem];(repeat (refine⟨zAC,?_⟩));exact zaC
        ·simp only[go_sem];refine⟨fun _=>(yaD ?_),fun q=>absurd q (by simp[hc])⟩;exact zaM
  ·refine aP (dL (dR hF [.cell 2 74,.tmp 3] rfl rfl rfl ?_))
   (try simp only[gK,aQ,go_sem])<;>first|rfl|(simp[hc]; done)|(try simp[hc])
 ·skip;refine aO (aQ1 hF [2,3] [(2,.ptr 0 []),(3,.val .bool false)] [.box 3 (.val qg v.1),.box 3 (.val qg v.1)] xAb ?_ ?_)
  ·simp only[go_sem];unfold bG;intro i hi;have hi:i=0∨i=1:=(by revert hi; revert i; decide);rcases hi with rfl|rfl
   ·simp only[go_sem];(repeat (refine⟨zAC,?_⟩));unfold bG;intro i hi;have hi:i=1:=(by revert hi; revert i; decide);subst hi;simp only[go_sem];(repeat (refine⟨zAC,?_⟩));unfold bG;intro i hi;have hi:i=2:=(by revert hi; revert i; decide);subst hi;simp only[go_sem];exact zaf
   ·simp only[go_sem];(repeat (refine⟨zAC,?_⟩));unfold bG;intro i hi;have hi:i=0∨i=2:=(by revert hi; revert i; decide);rcases hi with rfl|rfl
    ·simp only[go_sem];(repeat (refine⟨zAC,?_⟩));unfold bG;intro i hi;have hi:i=2:=(by revert hi; revert i; decide);subst hi;simp only[go_sem];exact zaf
    ·simp only[go_sem];(repeat (refine⟨zAC,?_⟩));unfold bG;intro i hi;have hi:i=0∨i=3:=(by revert hi; revert i; decide);rcases hi with rfl|rfl
     ·simp only[go_sem];exact zaf
     ·simp only[go_sem];(repeat (refine⟨zAC,?_⟩));unfold bG;intro i hi;have hi:i=0∨i=4:=(by revert hi; revert i; decide);rcases hi with rfl|rfl
      ·simp only[go_sem];exact zaI
      ·simp only[go_sem];refine⟨fun q=>absurd q (by simp[hc]),fun _=>?_⟩;unfold bG;intro i hi;have hi:i=0∨i=5:=(by revert hi; revert i; decide);rcases hi with rfl|rfl
       ·simp only[go_sem];(repeat (refine⟨zAC,?_⟩));unfold bG;intro i hi;have hi:i=5:=(by revert hi; revert i; decide);subst hi;simp only[go_sem];refine⟨fun q=>absurd q (by simp[hc]),fun _=>?_⟩;exact zaD
       ·simp only[go_sem];refine⟨fun q=>absurd q (by simp[hc]),fun _=>?_⟩;unfold bG;intro i hi;have hi:i=0∨i=6:=(by revert hi; revert i; decide);rcases hi with rfl|rfl
        ·simp only[go_sem];(repeat (refine⟨zAC,?_⟩));exact zaD
        ·simp only[go_sem];refine⟨fun q=>absurd q (by simp[hc]),fun _=>?_⟩;exact zaM
  ·refine aP (dL (dR hF [.cell 2 74,.tmp 3] rfl rfl rfl ?_))
   (try simp only[gK,aQ,go_sem])<;>first|rfl|(simp[hc]; done)|(try simp[hc])
attribute [go_sem] aCj
theorem aPg{d:Dy}(hm:aIa d=true)(f:d.1=false):kI none d=some (if d.2.1.length=0 then 0 else 1):=by
 have hl:=(pF hm).1;unfold kI;refine aJ (aO6 d (by omega)) ?_;rw[hm];by_cases h:d.2.1.length=0
 ·exact ify (.inr (by omega)) (by rw[if_pos h])
 ·exact ifn (by rintro (q|q); exact q rfl; omega) (ifn (by rw[f]; decide) (by rw[if_neg h]))
theorem aKK(w:List Nat):Tot (mG none w) (fun r=>(r.2.1=true↔aKS w)∧(aKS w→r.1=eI (exM w) (exE w))):=by
 unfold mG;rw[bHO w,Option.getD_some];by_cases h:aKS w
 ·obtain⟨z,f⟩:=aCf h;rw[z];have hs:=aPg f.may f.neg;rw[if_neg f.ne] at hs;refine .ck rfl (.ck (fun _=>by rw[hs]; rfl) (.ret ⟨⟨fun _=>h,fun _=>?_⟩,fun _=>rfl⟩));rw[hs];rfl
 ·have g:((yQ w).2.1=0→(kI none (yQ w).1).isSome=true)∧(decide ((yQ w).2.1=0)&&decide ((0:Int)<(kI none (yQ w).1).getD 0))=false:=by
   unfold yQ;by_cases z:fm w=true
   ·rw[if_neg (fun q:¬(cK w).2.2.1=true=>q z)];by_cases f:exN w%exD w=0
    ·rw[if_neg (fun q=>q f)];have h0:exN w/exD w=0:=Classical.byContradiction fun q=>h ⟨z,f,q⟩;rw[h0,show eI 0 (cK w).2.1=d0 from if_pos rfl];have hs:=aPg (d:=d0) rfl rfl;rw[if_pos (show d0.2.1.length=0 from rfl)] at hs;rw[hs];exact⟨fun _=>rfl,rfl⟩
    ·rw[if_pos f];exact⟨fun q=>absurd q xAb,rfl⟩
   ·rw[if_pos (show ¬(cK w).2.2.1=true from z)];exact⟨fun q=>absurd q xAb,rfl⟩
  refine .ck rfl (.ck g.1 (.ret ⟨⟨fun q=>?_,fun q=>absurd q h⟩,fun q=>absurd q h⟩));rw[g.2] at q;cases q
structure Ps(d:Dy):Prop where
 may:aIa d=true
 neg:d.1=false
 ne:d.2.1.length≠0
 lm:Lm d.2.1
 lo: -3000≤d.2.2.1
 hi:d.2.2.1≤3000
theorem Vs.ps{d:Dy}{M:Nat}{e:Int}(h:Vs d M e):Ps d:=⟨h.may,h.neg,h.ne,h.lm,by have:=h.lo; omega,by have:=h.hi; omega⟩
def wgt(d:Dy):Nat:=nv d.2.1*2^(d.2.2.1+5000).toNat
theorem lim{a:List Nat}(h:Lm a)(hl:a.length≤64):nv a<2^4096:=by
 have f:=qX h;rw[aGf] at f;exact aHb 4096 f (by omega)
theorem mpl{A K:Nat}(h:A<2^K)(k:Nat):A*2^k<2^(K+k):=by rw[Nat.pow_add]; exact Nat.mul_lt_mul_of_pos_right h (Nat.two_pow_pos _)
theorem bKL{a b:Dy}(I:Ps a)(z:Ps b):aBF none (a.1,hb (nv a.2.1),a.2.2.1,()) (b.1,hb (nv b.2.1),b.2.2.1,())=some (xP (wgt a) (wgt b)):=by
 obtain⟨L,J,a3,a4⟩:=pF I.may;obtain⟨b1,O,Y,b4⟩:=pF z.may;have g:nv a.2.1<2^4096:=lim I.lm L;have f:nv b.2.1<2^4096:=lim z.lm b1;have l1:=gJ 256 g xAb;have l2:=gJ 256 f xAb;have c1:=aK5 g;have c2:=aK5 f;have W:nv a.2.1≠0:=by
  have:=aBe J fun h=>I.ne (by rw[h]; rfl);omega
 have U:nv b.2.1≠0:=by
  have:=aBe O fun h=>z.ne (by rw[h]; rfl);omega
 have q1:=I.lo;have q2:=I.hi;have q3:=z.lo;have Z:=z.hi;unfold aBF;simp only;refine aJ (aWz _ (by omega)) (aC (by omega) (aJ (aWz _ (by omega)) (aC (by omega) ?_)));unfold wgt;by_cases hx:(bl (nv a.2.1):Int)+a.2.2.1=(bl (nv b.2.1):Int)+b.2.2.1
 ·have e1:(a.2.2.1+5000).toNat=(a.2.2.1-min a.2.2.1 b.2.2.1).toNat+(min a.2.2.1 b.2.2.1+5000).toNat:=by omega
  have N:(b.2.2.1+5000).toNat=(b.2.2.1-min a.2.2.1 b.2.2.1).toNat+(min a.2.2.1 b.2.2.1+5000).toNat:=by omega
  have m1:=mpl g (a.2.2.1-min a.2.2.1 b.2.2.1).toNat;have m2:=mpl f (b.2.2.1-min a.2.2.1 b.2.2.1).toNat;have l3:=gJ 1000 m1 (by omega);refine ifn (fun q=>q hx) (aC (by omega) (aJ (bBc _ _ (by omega) (by omega) (by omega)) (aC (by omega) (aJ (bBc _ _ (by omega) (by omega) (by omega)) (aJ (aTO _ _ (by omega)) ?_)))));rw[e1,N,Nat.pow_add,Nat.pow_add,← Nat.mul_assoc,← Nat.mul_assoc,bDe _ _ (Nat.two_pow_pos _)]
 ·refine ify hx ?_;by_cases hy:(bl (nv a.2.1):Int)+a.2.2.1<(bl (nv b.2.1):Int)+b.2.2.1
  ·exact ify hy (by rw[bGs (aTL U (by omega))])
  ·exact ifn hy (by rw[bGt (aTL W (by omega))])
theorem aWO{a b:Dy}(f:Ps a)(g:Ps b):mU none a b=some (decide (wgt a<wgt b)):=by
 have L:=(pF f.may).1;have J:=(pF g.may).1;have q:=aPg f.may f.neg;have sb:=aPg g.may g.neg;rw[if_neg f.ne] at q;rw[if_neg g.ne] at sb;have z:=aO6 b (by omega);have I:aCU none a=some (a.1,hb (nv a.2.1),a.2.2.1,()):=aJ (bA7 _ f.lm (by omega)) rfl;have ob:aCU none b=some (b.1,hb (nv b.2.1),b.2.2.1,()):=aJ (bA7 _ g.lm (by omega)) rfl;have hc:tX none a b=some (xP (wgt a) (wgt b)):=by
  unfold tX;rw[z];refine aJ (aO6 a (by omega)) (aC (fun _=>rfl) ?_);rw[f.may,g.may,Option.getD_some];refine ifn xAg (aJ q (aJ sb (ifn xAg (aJ I (aJ ob (aJ (bKL f g) ?_))))));have: -1≤xP (wgt a) (wgt b)∧xP (wgt a) (wgt b)≤1:=by unfold xP; grind
  rw[Int.one_mul];exact aC (by omega) rfl
 unfold mU;refine aJ hc (congrArg some (decide_eq_decide.2 ?_));unfold xP;grind
theorem aY2{d:Dy}(h:Ps d)(n:Int)(f: -100≤n)(g:n≤100):vM none d n=some ((d.1,d.2.1,d.2.2.1+n,()),0,()):=by
 have l:=(pF h.may).1;have q1:=h.lo;have z:=h.hi;have:=h.ne;unfold vM;refine aJ (aO6 d (by omega)) ?_;rw[h.may];exact ifn (fun q=>q rfl) (ifn (by omega) (aC (fun _=>by omega) (aC (fun _=>by omega) (ifn (by omega) (aC (by omega) rfl)))))
theorem bHQ{d:Dy}{n:Int}(h:aIa d=true)(f:d.2.1.length≠0)(g: -1048576≤d.2.2.1+n)(q:d.2.2.1+n≤1048576):aIa (d.1,d.2.1,d.2.2.1+n,())=true:=by
 unfold aIa at h ⊢;simp only;rw[if_neg f] at h ⊢;simp only[Bool.and_eq_true,decide_eq_true_iff] at h ⊢;exact⟨⟨h.1.1,g⟩,q⟩
theorem bFj{d:Dy}{M:Nat}{e:Int}(h:Vs d M e):wgt d=M*2^(e+400).toNat*2^4600:=by
 have:=h.lo;unfold wgt;rw[show (d.2.2.1+5000).toNat=(d.2.2.1+400).toNat+4600 from by omega,Nat.pow_add,← Nat.mul_assoc,h.v]
def rF(F:Md)(q:Int)(g:qa)(f:Int)(I:Int):Option (q9⊕((Int)⊕Bool)) :=
 ck (0≤q∧q<(g.2.2.2.2.2.2.2.2.1.length:Int)) (if I<(((g.2.2.2.2.2.2.2.2.1.getD (q.toNat) ([],[],[],[],[],())).2.2.2.1.length:Nat):Int) then ck (¬((g.2.2.2.2.2.2.2.2.2.1.length:Int)≤f)→(0≤f∧f<(g.2.2.2.2.2.2.2.2.2.1.length:Int))) (ck (¬((g.2.2.2.2.2.2.2.2.2.1.length:Int)≤f)→(0≤q∧q<(g.2.2.2.2.2.2.2.2.1.length:Int))) (ck (¬(((g.2.2.2.2.2.2.2.2.2.1.length:Int)≤f)∨(¬((g.2.2.2.2.2.2.2.2.2.1.getD (f.toNat) ([],[],[],[],())).1=(g.2.2.2.2.2.2.2.2.1.getD (q.toNat) ([],[],[],[],[],())).1)))→(0≤f∧f<(g.2.2.2.2.2.2.2.2.2.1.length:Int))) (ck (¬(((g.2.2.2.2.2.2.2.2.2.1.length:Int)≤f)∨(¬((g.2.2.2.2.2.2.2.2.2.1.getD (f.toNat) ([],[],[],[],())).1=(g.2.2.2.2.2.2.2.2.1.getD (q.toNat) ([],[],[],[],[],())).1)))→(0≤q∧q<(g.2.2.2.2.2.2.2.2.1.length:Int))) (ck (¬(((g.2.2.2.2.2.2.2.2.2.1.length:Int)≤f)∨(¬((g.2.2.2.2.2.2.2.2.2.1.getD (f.toNat) ([],[],[],[],())).1=(g.2.2.2.2.2.2.2.2.1.getD (q.toNat) ([],[],[],[],[],())).1)))→(0≤I∧I<(((g.2.2.2.2.2.2.2.2.1.getD (q.toNat) ([],[],[],[],[],())).2.2.2.1.length:Nat):Int))) (if (((g.2.2.2.2.2.2.2.2.2.1.length:Int)≤f)∨(¬((g.2.2.2.2.2.2.2.2.2.1.getD (f.toNat) ([],[],[],[],())).1=(g.2.2.2.2.2.2.2.2.1.getD (q.toNat) ([],[],[],[],[],())).1)))∨(¬((g.2.2.2.2.2.2.2.2.2.1.getD (f.toNat) ([],[],[],[],())).2.1=((g.2.2.2.2.2.2.2.2.1.getD (q.toNat) ([],[],[],[],[],())).2.2.2.1.getD (I.toNat) ([]:List Nat)))) then some (.inr (.inr false)) else ck (0≤f∧f<(g.2.2.2.2.2.2.2.2.2.1.length:Int)) ((oO F g (g.2.2.2.2.2.2.2.2.2.1.getD (f.toNat) ([],[],[],[],())).2.2.1).bind (fun z=>ck (¬(z<(0:Int))→(0≤z∧z<(g.2.2.2.2.2.2.2.2.1.length:Int))) (ck (¬(z<(0:Int))→(0≤f∧f<(g.2.2.2.2.2.2.2.2.2.1.length:Int))) (ck (¬(z<(0:Int))→((uP F (g.2.2.2.2.2.2.2.2.1.getD (z.toNat) ([],[],[],[],[],())) (g.2.2.2.2.2.2.2.2.2.1.getD (f.toNat) ([],[],[],[],())).2.2.2.1).isSome=true)) (if (z<(0:Int))∨(((uP F (g.2.2.2.2.2.2.2.2.1.getD (z.toNat) ([],[],[],[],[],())) (g.2.2.2.2.2.2.2.2.2.1.getD (f.toNat) ([],[],[],[],())).2.2.2.1).getD (0:Int))<(0:Int)) then some (.inr (.inr false)) else ck (I64 (f+(1:Int))) (ck (I64 (I+(1:Int))) (some (.inl ((f+(1:Int)),(I+(1:Int)))))))))))))))) else some (.inr (.inl f)))
def wF(F:Md)(g:qa)(z:Int)(f:Int):Option (q9⊕((Int)⊕Bool)) :=
 if f<(g.2.2.2.2.2.2.2.2.1.length:Int) then ck (0≤f∧f<(g.2.2.2.2.2.2.2.2.1.length:Int)) ((uA F (g.2.2.2.2.2.2.2.2.1.getD (f.toNat) ([],[],[],[],[],()))).bind (fun q=>ck (¬(¬(q=true))→(0≤f∧f<(g.2.2.2.2.2.2.2.2.1.length:Int))) (ck (¬(¬(q=true))→((oO F g (g.2.2.2.2.2.2.2.2.1.getD (f.toNat) ([],[],[],[],[],())).1).isSome=true)) (if (¬(q=true))∨(¬(((oO F g (g.2.2.2.2.2.2.2.2.1.getD (f.toNat) ([],[],[],[],[],())).1).getD (0:Int))=f)) then some (.inr (.inr false)) else (bO F (fun d:Int×Int=>rF F f g d.1 d.2) (z,(0:Int))).bind (fun e=>match e with|(.inl e)=>ck (I64 (f+(1:Int))) (some (.inl (e,(f+(1:Int)))))|(.inr e)=>some (.inr (.inr e))))))) else some (.inr (.inl z))
def aBG(F:Md)(f:qa):Option Bool :=
 if ((((((((f.1<(8:Int))∨((200:Int)<f.1))∨(f.2.1<(1:Int)))∨((20:Int)<f.2.1))∨(f.2.2.1<(0:Int)))∨((3:Int)<f.2.2.1))∨((¬(f.2.2.2.1=(1:Int)))∧(¬(f.2.2.2.1=(2:Int)))))∨((f.2.2.2.2.2.2.2.2.1.length:Int)<(1:Int)))∨((4:Int)<(f.2.2.2.2.2.2.2.2.1.length:Int)) then some false else (mG F f.2.2.2.2.1).bind (fun I=>(mG F f.2.2.2.2.2.1).bind (fun v_5=>(mG F f.2.2.2.2.2.2.1).bind (fun v_7=>(mG F f.2.2.2.2.2.2.2.1).bind (fun J=>if (((¬(I.2.1=true))∨(¬(v_5.2.1=true)))∨(¬(v_7.2.1=true)))∨(¬(J.2.1=true)) then some false else (vM F v_5.1 (8:Int)).bind (fun z=>(vM F v_5.1 (-12:Int)).bind (fun q=>(mU F v_5.1 v_7.1).bind (fun g=>ck (¬(g=true)→((mU F v_7.1 q.1).isSome=true)) (ck (¬((g=true)∨(((mU F v_7.1 q.1).getD false)=true))→((mU F z.1 I.1).isSome=true)) (if ((g=true)∨(((mU F v_7.1 q.1).getD false)=true))∨(((mU F z.1 I.1).getD false)=true) then some false else (bO F (fun d:Int×Int=>wF F f d.1 d.2) ((0:Int),(0:Int))).bind (fun e=>match e with|(.inl e)=>some (decide (e=(f.2.2.2.2.2.2.2.2.2.1.length:Int)))|(.inr e)=>some e))))))))))
def aPh:PlR:=⟨[(0,.stop),(1,.stop),(2,.stop),(3,.stop),(4,.stop),(5,.stop),(6,.stop),(7,.stop),(8,.stop),(9,.stop),(10,.stop),(11,.stop),(12,.stop),(13,.stop),(14,.stop),(15,.stop),(16,.stop),(17,.stop),(18,.stop),(19,.stop),(20,.stop),(21,.stop),(22,.stop),(23,.stop),(24,.stop),(25,.stop),(26,.stop),(27,.stop),(28,.stop)],[],[]⟩
def aSa:Ty:=.pair qe .unit
def aEO(F:Md):aH:=mSpec aSa (.one .bool) (fun x=>aBG F x.1)
abbrev yW(F:Md):List (FuncId×aH):=[(25,(aCj F)),(26,(aDq F)),(27,(aEM F)),(28,(aA0 F)),(29,(aDr F)),(30,(aEN F))]
theorem bDO(F:Md):bA Tryz.prog GL (yW F):=.cons (aWN F) xAa (.cons (aX4 F) xAa (.cons (bBg F) xAa (.cons (aTw F) xAa (.cons (aX7 F) xAa (.cons (bBk F) xAa (.nil))))))
attribute [go_sem] aSa aPh
theorem bBm(F:Md):FOK Tryz.prog GL 11 (aEO F):=by
 refine aX (aY (bDO F)) mix Tryz.func11 rfl xAa xAb aPh (fun w0 S x Θ hw h hV=>?_);obtain⟨(q:qa),u⟩:=x;simp only[bD,go_sem];replace h:sat (aBG F q) _:=h;unfold aBG at h;refine xX hV [1] (yaA ?_);refine bZ hV [1,68] (yaA ?_);refine⟨fun hc=>?_,fun hc=>?_⟩
 ·replace h:=cW hc h;refine bZ hV [2] (yaA ?_);exact zaB
 ·replace h:=cX hc h;refine xX hV [1,3,4] (yaA ?_);refine aD h fun v_3 hv h=>?_;try simp only[hv,go_sem]
  refine xX hV [1,3,4,5,6] (yaA ?_);refine aD h fun v_5 hv h=>?_;try simp only[hv,go_sem]
  refine xX hV [1,3,4,5,6,7,8] (yaA ?_);refine aD h fun v_7 hv h=>?_;try simp only[hv,go_sem]
  refine xX hV [1,3,4,5,6,7,8,10] (yaA ?_);refine aD h fun v_9 hv h=>?_;try simp only[hv,go_sem]
  refine bZ hV [1,3,5,7,106] (yaA ?_);refine⟨fun hc=>?_,fun hc=>?_⟩
  ·replace h:=cW zAD h;refine bZ hV [2] (yaA ?_);exact zaB
  ·replace h:=cX zAD h;refine xX hV [1,3,5,7,11] (yaA ?_);refine aD h fun v_11 hv h=>?_;(try simp only[hv,go_sem]);refine xX hV [1,3,5,7,11,13] (yaA ?_);refine aD h fun v_13 hv h=>?_;(try simp only[hv,go_sem]);refine bZ hV [1,129] (yaA ?_);refine aD h fun Z hv h=>?_;(try simp only[hv,go_sem]);refine aB h fun g0 h=>?_;refine aB h fun g1 h=>(yaF ?_);refine⟨fun hc=>?_,fun hc=>?_⟩
   ·replace h:=cW zAD h;refine bZ hV [2] (yaA ?_);exact zaB
   ·replace h:=cX zAD h;refine bZ hV [1,15] (yaA ?_);refine bZ hV [1,15,16] (yaA ?_);refine zB [0] rfl rfl (yaA ?_);refine aU hV (D:=Int×Int) [] (fun d=>[(1,.ptr 0 []),(15,.val qi d.1),(16,.val qi d.2)]) (fun d=>[.inr (.box 10 (.val qe q))]) h rfl xAc ?_;rintro⟨N,z⟩ A15 T15 O f h;simp only[go_sem];replace h:sat (wF F q N z) _:=h;unfold wF at h;refine bZ hV [1,15,16,134] (yaA ?_);refine bP h (fun hc h=>?_) fun hc h=>?_
    ·refine bZ hV [1,15,16,155] (yaA ?_);refine aB h fun g0 h=>(yaC ?_);refine aD h fun Y hv h=>?_;(try simp only[hv,go_sem]);refine aB h fun g0 h=>?_;refine aB h fun g1 h=>(yaF ?_);refine⟨fun hc=>?_,fun hc=>?_⟩
     ·replace h:=cW zAD h;refine bZ hV [2] (yaA ?_);replace h:=yaH (f _ (aA h));exact zaB
     ·replace h:=cX zAD h;refine bZ hV [1,15,16,17] (yaA ?_);refine aU hV (D:=Int×Int) [16] (fun d=>[(1,.ptr 0 []),(15,.val qi d.1),(17,.val qi d.2)]) (fun d=>[.inr (.box 10 (.val qe q))]) h rfl xAc ?_;rintro⟨J,I⟩ A20 T20 L g h;simp only[go_sem];replace h:sat (rF F z q J I) _:=h;unfold rF at h;refine bZ hV [1,15,16,17,164] (yaA ?_);refine aB h fun g0 h=>(yaC ?_);refine bP h (fun hc h=>?_) fun hc h=>?_
      ·refine bZ hV [1,15,16,17,204] (yaA ?_);refine aB h fun g0 h=>?_;refine aB h fun g1 h=>?_;refine aB h fun U h=>?_;refine aB h fun g3 h=>?_;refine aB h fun g4 h=>?_;(repeat (refine⟨by first|with_reducible assumption|omega|(intros; first|with_reducible assumption|omega)|(intro _; exact⟨rfl,by decide⟩)|(intro _; refine(?_:_=aL _); rfl)|(refine(?_:_=aL _); rfl)|exact⟨rfl,rfl⟩|(intro q0; (try have e0:=g0 zAI); (try have e1:=g1 zAI); (try have e2:=U zAI); (try have e3:=g3 zAI); (try have e4:=g4 zAI); first|assumption|omega)|decide,?_⟩));refine⟨fun hc=>?_,fun hc=>?_⟩
       ·replace h:=cW hc h;refine bZ hV [2] (yaA ?_);replace h:=yaH (g _ (aA h));replace h:=yaH (f _ (aA h));exact zaB
       ·replace h:=cX hc h;refine bZ hV [1,15,16,17,18] (yaA ?_);refine aB h fun g0 h=>(yaC ?_);refine aD h fun W hv h=>?_;(try simp only[hv,go_sem]);refine bZ hV [1,15,16,17,229] (yaA ?_);refine aB h fun g0 h=>?_;refine aB h fun g1 h=>?_;refine aB h fun U h=>?_;(repeat (refine⟨by first|with_reducible assumption|omega|(intros; first|with_reducible assumption|omega)|(intro _; exact⟨rfl,by decide⟩)|(intro _; refine(?_:_=aL _); rfl)|(refine(?_:_=aL _); rfl)|exact⟨rfl,rfl⟩|(intro q0; (try have e0:=g0 zAI); (try have e1:=g1 zAI); (try have e2:=U zAI); first|assumption|omega)|decide,?_⟩));refine⟨fun hc=>?_,fun hc=>?_⟩
        ·replace h:=cW hc h;refine bZ hV [2] (yaA ?_);replace h:=yaH (g _ (aA h));replace h:=yaH (f _ (aA h));exact zaB
        ·replace h:=cX hc h;refine bZ hV [1,15,16,17] (yaA ?_);refine aB h fun g0 h=>?_;(try simp only[I64,I32] at g0);(repeat (refine⟨zAB,?_⟩));refine bZ hV [1,15,16,17] (yaA ?_);refine aB h fun g0 h=>?_;(try simp only[I64,I32] at g0);(repeat (refine⟨zAB,?_⟩));replace h:=L _ (aA h);exact zaF
      ·replace h:=yaH (g _ (aA h));refine bZ hV [1,15,16] (yaA ?_);refine aB h fun g0 h=>?_;(try simp only[I64,I32] at g0);(repeat (refine⟨zAB,?_⟩));replace h:=O _ (aA h);exact zaF
    ·replace h:=yaH (f _ (aA h));refine bZ hV [2] (yaA ?_);exact zaB
attribute [go_sem] aEO
abbrev zL:aDS:=([],[],[],[],[],())
abbrev zK:TLk:=([],[],[],[],())
theorem bKM{α:Type}(z:α){l:List α}{i j:Nat}(h:i<j)(hi:i<l.length):l.getD i z∈l.take j:=by
 have e:(l.take j).getD i z=l.getD i z:=by simp[List.getD_eq_getElem?_getD,List.getElem?_take,h]
 rw[← e];exact fK z (by rw[List.length_take]; omega)
theorem bDP(s:TSc)(hs:s.2.2.2.2.2.2.2.2.1.length≤4000)(w:List Nat):Tot (oO none s w) (fun r=>(r= -1∧ ∀y∈s.2.2.2.2.2.2.2.2.1,y.1≠w)∨ ∃j:Nat,r=(j:Int)∧j<s.2.2.2.2.2.2.2.2.1.length∧(s.2.2.2.2.2.2.2.2.1.getD j zL).1=w∧ ∀y∈s.2.2.2.2.2.2.2.2.1.take j,y.1≠w):=by
 unfold oO;refine Tot.bind (P:=fun e=>match e with| .inl _=>∀y∈s.2.2.2.2.2.2.2.2.1,y.1≠w| .inr r=>∃j:Nat,r=(j:Int)∧j<s.2.2.2.2.2.2.2.2.1.length∧(s.2.2.2.2.2.2.2.2.1.getD j zL).1=w∧ ∀y∈s.2.2.2.2.2.2.2.2.1.take j,y.1≠w) (Tot.loop (fun d:Int=>∃j:Nat,d=(j:Int)∧j≤s.2.2.2.2.2.2.2.2.1.length∧ ∀y∈s.2.2.2.2.2.2.2.2.1.take j,y.1≠w) (fun d:Int=>((s.2.2.2.2.2.2.2.2.1.length:Int)-d).toNat) ?_ ⟨0,rfl,Nat.zero_le _,fun x hx=>by cases hx⟩) fun e he=>?_
 ·rintro d ⟨j,rfl,q,f⟩;unfold aA1;refine .ite (fun hi=>.ck ⟨by omega,hi⟩ (.ite (fun g=>.ret ⟨j,rfl,by omega,g,f⟩) fun g=>.ck (by omega) (.ret ⟨⟨j+1,by omega,by omega,?_⟩,by omega⟩))) fun hi=>.ret ?_
  ·rw[eP zL (show j<s.2.2.2.2.2.2.2.2.1.length by omega)];intro y hy;rcases List.mem_append.1 hy with hy|hy
   ·exact f y hy
   ·rw[List.mem_singleton.1 hy];exact g
  ·show ∀y∈s.2.2.2.2.2.2.2.2.1,y.1≠w;rw[List.take_of_length_le (by omega)] at f;exact f
 ·cases e with
  | inl u=>exact .ret (.inl ⟨rfl,he⟩)
  | inr r=>exact .ret (.inr he)
theorem bKN(x:aDS)(hl:x.2.2.2.2.1.length≤4000)(w:List Nat):Tot (uP none x w) (fun r=>0≤r↔ ∃o∈x.2.2.2.2.1,o.1=w):=by
 unfold uP;refine Tot.bind (P:=bDh x.2.2.2.2.1 (fun o=>¬o.1=w) (fun r:Int=>0≤r)) (Tot.all (([]:List Nat),(Ex.mk 0 [] []),()) x.2.2.2.2.1 (fun o=>¬o.1=w) (fun r:Int=>0≤r) (fun i i0 hi=>?_) ?_) fun e he=>?_
 ·unfold yV;exact .ite (fun _=>.ck ⟨i0,hi⟩ (.ite (fun h=>.ret ⟨i0,fun q=>q h⟩) fun h=>.ck (by omega) (.ret ⟨rfl,h⟩))) fun h=>absurd hi h
 ·unfold yV;exact .ite (fun h=>absurd h (by omega)) fun _=>.ret trivial
 ·cases e with
  | inl u=>exact .ret ⟨fun h=>absurd h xAb,fun⟨o,f,z⟩=>absurd z (he o f)⟩
  | inr r=>exact .ret ⟨fun _=>Classical.byContradiction fun g=>he.2 fun a ha q=>g ⟨a,ha,q⟩,fun _=>he.1⟩
def aX8(s:TSc)(n:Nat)(f:List wv):Prop:=n≤s.2.2.2.2.2.2.2.2.2.1.length∧(s.2.2.2.2.2.2.2.2.2.1.take n).map kL=f∧ ∀a∈s.2.2.2.2.2.2.2.2.2.1.take n,GdL s a
theorem aX8.step{s:TSc}{n:Nat}{f:List wv}(h:aX8 s n f)(hl:n<s.2.2.2.2.2.2.2.2.2.1.length){w u:List Nat}(q:(s.2.2.2.2.2.2.2.2.2.1.getD n zK).1=w)(I:(s.2.2.2.2.2.2.2.2.2.1.getD n zK).2.1=u)(h3:GdL s (s.2.2.2.2.2.2.2.2.2.1.getD n zK)):aX8 s (n+1) (f++ [(w,u)]):=by
 obtain⟨e1,g,z⟩:=h;refine⟨hl,?_,?_⟩
 ·rw[eP zK hl,List.map_append,g,← q,← I];rfl
 ·rw[eP zK hl];intro a ha;rcases List.mem_append.1 ha with ha|ha
  ·exact z a ha
  ·rw[List.mem_singleton.1 ha];exact h3
theorem aX8.no{s:TSc}{n:Nat}{g rest:List wv}{w u:List Nat}(h:aX8 s n g)(hp:s.2.2.2.2.2.2.2.2.1.flatMap kS=g++(w,u)::rest)(hx:aYR s):n<s.2.2.2.2.2.2.2.2.2.1.length∧(s.2.2.2.2.2.2.2.2.2.1.getD n zK).1=w∧(s.2.2.2.2.2.2.2.2.2.1.getD n zK).2.1=u∧GdL s (s.2.2.2.2.2.2.2.2.2.1.getD n zK):=by
 obtain⟨e1,q,I⟩:=h;obtain⟨x1,z⟩:=hx;have hd:s.2.2.2.2.2.2.2.2.2.1=s.2.2.2.2.2.2.2.2.2.1.take n++s.2.2.2.2.2.2.2.2.2.1.drop n:=(List.take_append_drop _ _).symm;have hm:=x1;rw[hd,List.map_append,q,hp] at hm;have hm:=List.append_cancel_left hm;cases hk:s.2.2.2.2.2.2.2.2.2.1.drop n with
 | nil=>rw[hk] at hm; cases hm
 | cons a k =>
  rw[hk,List.map_cons,List.cons.injEq] at hm;have f:n<s.2.2.2.2.2.2.2.2.2.1.length:=by
   have:=congrArg List.length hk;rw[List.length_drop,List.length_cons] at this;omega
  have ha:s.2.2.2.2.2.2.2.2.2.1.getD n zK=a:=by
   have:=List.drop_eq_getElem_cons f;rw[hk] at this;rw[List.getD_eq_getElem?_getD,List.getElem?_eq_getElem f,(List.cons.inj this).1];rfl
  have e:=hm.1;unfold kL at e;rw[Prod.mk.injEq] at e;rw[ha];exact⟨f,e.1,e.2,z a (by rw[hd,hk]; simp)⟩
theorem bHR(s:TSc)(h:bAH s)(i:Nat)(hi:i<s.2.2.2.2.2.2.2.2.1.length){x:aDS}(hX:s.2.2.2.2.2.2.2.2.1.getD i zL=x)(n0:Nat)(hM:aX8 s n0 ((s.2.2.2.2.2.2.2.2.1.take i).flatMap kS)) :
  Tot (bO none (fun d:Int×Int=>rF none (i:Int) s d.1 d.2) ((n0:Int),(0:Int))) (fun e=>match e with| .inl m=>∃n:Nat,m=(n:Int)∧aX8 s n ((s.2.2.2.2.2.2.2.2.1.take (i+1)).flatMap kS)| .inr b=>b=false∧ ¬ScX s):=by
 have g:=h.sb.2 _ (fK zL hi);rw[hX] at g;have hu:=g.u.1;have hs:=h.sb.1;have hk4:=h.l;refine Tot.loop (fun d:Int×Int=>∃n k:Nat,d=((n:Int),(k:Int))∧k≤x.2.2.2.1.length∧aX8 s n ((s.2.2.2.2.2.2.2.2.1.take i).flatMap kS++(x.2.2.2.1.take k).map fun u=>(x.1,u))) (fun d=>((x.2.2.2.1.length:Int)-d.2).toNat) ?_ ⟨n0,0,rfl,Nat.zero_le _,by simpa using hM⟩;rintro d ⟨n,k,rfl,hk,L⟩;have hn:=L.1;show Tot (rF none (i:Int) s (n:Int) (k:Int)) _;unfold rF;simp only[Int.toNat_natCast,hX];refine .ck ⟨by omega,by omega⟩ (.ite (fun hk2=>?_) fun hk2=>.ret ⟨n,rfl,?_⟩)
 ·have N:k<x.2.2.2.1.length:=by omega
  obtain⟨rest,f⟩:=bDi hi (show k<(s.2.2.2.2.2.2.2.2.1.getD i zL).2.2.2.1.length by rw[hX]; exact N);rw[hX] at f;have I:=fun hx=>L.no f hx;refine .ck (fun _=>by omega) (.ck (fun _=>by omega) (.ck (fun _=>by omega) (.ck (fun _=>by omega) (.ck (fun _=>by omega) (.ite (fun hh=>.ret ⟨rfl,fun J=>?_⟩) fun hh=>?_)))))
  ·obtain⟨m1,m2,Z,U⟩:=I J.l;rcases hh with (hh|hh)|hh
   ·omega
   ·exact hh m2
   ·exact hh Z
  ·have Y:n<s.2.2.2.2.2.2.2.2.2.1.length:=by
    have:=fun q=>hh (.inl (.inl q));omega
   have w1:(s.2.2.2.2.2.2.2.2.2.1.getD n zK).1=x.1:=Classical.not_not.1 fun q=>hh (.inl (.inr q));have w2:(s.2.2.2.2.2.2.2.2.2.1.getD n zK).2.1=x.2.2.2.1.getD k []:=Classical.not_not.1 fun q=>hh (.inr q);refine .ck ⟨by omega,by omega⟩ ((bDP s hs _).bind fun v hv=>?_);rcases hv with⟨rfl,hv⟩|⟨j,rfl,j1,j2,j3⟩
   ·refine .ck (fun q=>absurd xAb q) (.ck (fun q=>absurd xAb q) (.ck (fun q=>absurd xAb q) (.ite (fun _=>.ret ⟨rfl,fun J=>?_⟩) fun q=>absurd (.inl xAb) q)));obtain⟨m1,m2,Z,y,U,W,m6⟩:=I J.l;exact hv y U W.symm
   ·have hy:=h.sb.2 _ (fK zL j1);obtain⟨r,hr,O⟩:=bKN (s.2.2.2.2.2.2.2.2.1.getD j zL) hy.o.1 (s.2.2.2.2.2.2.2.2.2.1.getD n zK).2.2.2.1;have hr2:uP none (s.2.2.2.2.2.2.2.2.1.getD j ([],[],[],[],[],())) (s.2.2.2.2.2.2.2.2.2.1.getD n ([],[],[],[],())).2.2.2.1=some r:=hr;simp only[Int.toNat_natCast,hr2,Option.getD_some,Option.isSome_some];refine .ck (fun _=>by omega) (.ck (fun _=>by omega) (.ck (fun _=>trivial) (.ite (fun q=>.ret ⟨rfl,fun J=>?_⟩) fun q=>.ck (by omega) (.ck (by omega) (.ret ⟨⟨n+1,k+1,rfl,by omega,?_⟩,by simp only; omega⟩)))))
    ·obtain⟨m1,m2,Z,y,U,W,o,m6,m7⟩:=I J.l;have e:=bET (fun y:aDS=>y.1) J.w.2 (fK zL j1) U (j2.trans W);rcases q with q|q
     ·omega
     ·have:=O.2 ⟨o,by rw[e]; exact m6,m7⟩;have q:r<0:=q;omega
    ·have hr0:0≤r:=by
      have:¬r<0:=fun z=>q (.inr z);omega
     obtain⟨o,o1,o2⟩:=O.1 hr0;have:=L.step Y w1 w2 ⟨_,fK zL j1,j2.symm,o,o1,o2⟩;rw[eP ([]:List Nat) N,List.map_append,← List.append_assoc];exact this
 ·have e:k=x.2.2.2.1.length:=by omega
  rw[e,List.take_length] at L;rw[eP zL hi,List.flatMap_append,List.flatMap_singleton,hX];exact L
theorem bN7{d:Dy}(h:Ps d)(n:Nat):wgt (d.1,d.2.1,d.2.2.1+(n:Int),())=wgt d*2^n:=by
 have:=h.lo;unfold wgt;simp only;rw[show (d.2.2.1+(n:Int)+5000).toNat=(d.2.2.1+5000).toNat+n from by omega,Nat.pow_add,Nat.mul_assoc]
theorem bN8{d:Dy}(h:Ps d):wgt (d.1,d.2.1,d.2.2.1+ -12,())*4096=wgt d:=by
 have:=h.lo;unfold wgt;simp only;rw[show (d.2.2.1+5000).toNat=(d.2.2.1+ -12+5000).toNat+12 from by omega,Nat.pow_add,Nat.mul_assoc]
theorem Ps.sh{d:Dy}(h:Ps d)(n:Int)(f: -3000≤d.2.2.1+n)(g:d.2.2.1+n≤3000):Ps (d.1,d.2.1,d.2.2.1+n,()) :=
 ⟨bHQ h.may h.ne (by omega) (by omega),h.neg,h.ne,h.lm,f,g⟩
theorem bKO(s:TSc)(h:bAH s):Tot (aBG none s) (fun b=>b=true↔ScX s):=by
 have hs:=h.sb.1;have hl4:=h.l;unfold aBG;refine .ite (fun hh=>.ret ⟨fun q=>(by cases q),fun f=>?_⟩) fun hh=>?_
 ·obtain⟨n1,n2,n3,n4⟩:=f.n.1;have:=f.r.1;omega
 refine(aKK _).bind fun v3 h3=>(aKK _).bind fun I h5=>(aKK _).bind fun v7 h7=>(aKK _).bind fun v9 h9=>.ite (fun hx=>.ret ⟨fun q=>(by cases q),fun f=>?_⟩) fun hx=>?_
 ·obtain⟨o1,Z,O,o4⟩:=f.n.2.1;rcases hx with ((hx|hx)|hx)|hx
  ·exact absurd (h3.1.2 o1) hx
  ·exact absurd (h5.1.2 Z) hx
  ·exact absurd (h7.1.2 O) hx
  ·exact absurd (h9.1.2 o4) hx
 have o1:=h3.1.1 (Classical.not_not.1 fun q=>hx (.inl (.inl (.inl q))));have Z:=h5.1.1 (Classical.not_not.1 fun q=>hx (.inl (.inl (.inr q))));have O:=h7.1.1 (Classical.not_not.1 fun q=>hx (.inl (.inr q)));have o4:=h9.1.1 (Classical.not_not.1 fun q=>hx (.inr q));have e3:=h3.2 o1;have e5:=h5.2 Z;have e7:=h7.2 O;have V3:=(aCf o1).2;have U:=(aCf Z).2;have V7:=(aCf O).2;rw[← e3] at V3;rw[← e5] at U;rw[← e7] at V7;have P3:=V3.ps;have L:=U.ps;have P7:=V7.ps;have b1:=U.lo;have b2:=U.hi;have S8:=aY2 L 8 (by omega) (by omega);have S12:=aY2 L (-12) (by omega) (by omega);have Q8:=L.sh 8 (by omega) (by omega);have Q12:=L.sh (-12) (by omega) (by omega);have L1:=aWO L P7;have L2:=aWO P7 Q12;have L3:=aWO Q8 P3;rw[S8,Option.bind_some,S12,Option.bind_some,L1,Option.bind_some];simp only[L2,L3,Option.getD_some,Option.isSome_some];have g3:=bFj V3;have g5:=bFj U;have g7:=bFj V7;have u8:wgt (I.1.1,I.1.2.1,I.1.2.2.1+8,())=wgt I.1*2^8:=bN7 L 8;have u12:=bN8 L;have g:0<2^4600:=Nat.two_pow_pos 4600;generalize hc:2^4600=c at g3 g5 g7 g;have m3:wgt v3.1=mag s.2.2.2.2.1*c:=g3;have m5:wgt I.1=mag s.2.2.2.2.2.1*c:=g5;have m7:wgt v7.1=mag s.2.2.2.2.2.2.1*c:=g7;have c1:wgt I.1<wgt v7.1↔ ¬mag s.2.2.2.2.2.2.1≤mag s.2.2.2.2.2.1:=by
  rw[m5,m7,Nat.mul_lt_mul_right g];omega
 have c2:wgt v7.1<wgt (I.1.1,I.1.2.1,I.1.2.2.1+ -12,())↔ ¬mag s.2.2.2.2.2.1≤4096*mag s.2.2.2.2.2.2.1:=by
  have:wgt v7.1*4096<wgt I.1↔ ¬mag s.2.2.2.2.2.1≤4096*mag s.2.2.2.2.2.2.1:=by
   rw[m5,m7,Nat.mul_right_comm,Nat.mul_lt_mul_right g];omega
  omega
 have c3:wgt (I.1.1,I.1.2.1,I.1.2.2.1+8,())<wgt v3.1↔ ¬mag s.2.2.2.2.1≤256*mag s.2.2.2.2.2.1:=by
  rw[u8,m3,m5,Nat.mul_right_comm,Nat.mul_lt_mul_right g];omega
 refine .ck (fun _=>trivial) (.ck (fun _=>trivial) (.ite (fun q=>.ret ⟨fun z=>(by cases z),fun f=>?_⟩) fun q=>?_))
 ·obtain⟨y1,y2,y3⟩:=f.n.2.2;rcases q with (q|q)|q
  ·exact absurd y1 (c1.1 (of_decide_eq_true q))
  ·exact absurd y3 (c2.1 (of_decide_eq_true q))
  ·exact absurd y2 (c3.1 (of_decide_eq_true q))
 have y1:mag s.2.2.2.2.2.2.1≤mag s.2.2.2.2.2.1:=Classical.not_not.1 fun z=>q (.inl (.inl (decide_eq_true (c1.2 z))));have y3:mag s.2.2.2.2.2.1≤4096*mag s.2.2.2.2.2.2.1:=Classical.not_not.1 fun z=>q (.inl (.inr (decide_eq_true (c2.2 z))));have y2:mag s.2.2.2.2.1≤256*mag s.2.2.2.2.2.1:=Classical.not_not.1 fun z=>q (.inr (decide_eq_true (c3.2 z)));have NX:bKg s:=⟨⟨by omega,by omega,by omega,by omega⟩,⟨o1,Z,O,o4⟩,y1,y2,y3⟩;have hb:1≤s.2.2.2.2.2.2.2.2.1.length∧s.2.2.2.2.2.2.2.2.1.length≤4:=by omega
 refine Tot.bind (P:=fun e=>match e with| .inl m=>∃n:Nat,m=(n:Int)∧aX8 s n (s.2.2.2.2.2.2.2.2.1.flatMap kS)∧(∀x∈s.2.2.2.2.2.2.2.2.1,cR none x.1=some true∧aXV x)∧(s.2.2.2.2.2.2.2.2.1.map (·.1)).Nodup| .inr b=>b=false∧ ¬ScX s)
  (Tot.loop (fun d:Int×Int=>∃n i:Nat,d=((n:Int),(i:Int))∧i≤s.2.2.2.2.2.2.2.2.1.length∧aX8 s n ((s.2.2.2.2.2.2.2.2.1.take i).flatMap kS)∧(∀x∈s.2.2.2.2.2.2.2.2.1.take i,cR none x.1=some true∧aXV x)∧((s.2.2.2.2.2.2.2.2.1.take i).map (·.1)).Nodup) (fun d=>((s.2.2.2.2.2.2.2.2.1.length:Int)-d.2).toNat) ?_ ⟨0,0,rfl,Nat.zero_le _,⟨Nat.zero_le _,rfl,fun a ha=>by cases ha⟩,(fun x hx=>by cases hx),List.nodup_nil⟩) fun e he=>?_
 ·rintro d ⟨n,i,rfl,hi,hM,N,W⟩;show Tot (wF none s (n:Int) (i:Int)) _;unfold wF;simp only[Int.toNat_natCast];refine .ite (fun Y=>.ck ⟨by omega,Y⟩ ?_) fun Y=>.ret ⟨n,rfl,?_⟩
  ·have hiN:i<s.2.2.2.2.2.2.2.2.1.length:=(by omega);have hm:=fK zL hiN;have hk:=eP zL hiN;refine(bDN _ (h.sb.2 _ hm)).bind fun v hv=>?_;obtain⟨r,hr,J⟩:=bDP s hs (s.2.2.2.2.2.2.2.2.1.getD i zL).1;have hr2:oO none s (s.2.2.2.2.2.2.2.2.1.getD i ([],[],[],[],[],())).1=some r:=hr;simp only[hr2,Option.getD_some,Option.isSome_some];refine .ck (fun _=>by omega) (.ck (fun _=>trivial) (.ite (fun q=>.ret ⟨rfl,fun f=>?_⟩) fun q=>?_))
   ·rcases q with q|q
    ·exact q (hv.2 ⟨f.w.1 _ (List.mem_map_of_mem hm),f.r.2 _ hm⟩)
    ·rcases J with⟨_,J⟩|⟨j,rfl,j1,j2,j3⟩
     ·exact J _ hm rfl
     ·have hj:j<i:=by
       rcases Nat.lt_trichotomy j i with z|z|z
       ·exact z
       ·exact absurd (by rw[z]) q
       ·exact absurd rfl (j3 (s.2.2.2.2.2.2.2.2.1.getD i zL) (bKM zL z hiN))
      have nd:((s.2.2.2.2.2.2.2.2.1.take (i+1)).map (·.1)).Nodup:=f.w.2.sublist ((List.take_sublist _ _).map _);rw[hk,List.map_append,List.nodup_append] at nd;have hj2:s.2.2.2.2.2.2.2.2.1.getD j zL∈s.2.2.2.2.2.2.2.2.1.take i:=bKM zL hj j1;exact nd.2.2 _ (List.mem_map_of_mem hj2) _ xAg j2
   ·have hvt:=hv.1 (Classical.not_not.1 fun z=>q (.inl z));have hri:r=(i:Int):=Classical.not_not.1 fun z=>q (.inr z);have hfirst:∀y∈s.2.2.2.2.2.2.2.2.1.take i,y.1≠(s.2.2.2.2.2.2.2.2.1.getD i zL).1:=by
     rcases J with⟨z,_⟩|⟨j,z,j1,j2,j3⟩
     ·omega
     ·have:j=i:=(by omega);rw[this] at j3;exact j3
    refine(bHR s h i hiN rfl n hM).bind fun e he=>?_;cases e with
    | inr b =>
     obtain⟨rfl,hb⟩:=he;exact .ret ⟨rfl,hb⟩
    | inl m =>
     obtain⟨n2,rfl,hM2⟩:=he;refine .ck (by omega) (.ret ⟨⟨n2,i+1,rfl,by omega,hM2,?_,?_⟩,by simp only; omega⟩)
     ·rw[hk];intro x hx;rcases List.mem_append.1 hx with hx|hx
      ·exact N x hx
      ·rw[List.mem_singleton.1 hx];exact hvt
     ·rw[hk,List.map_append,List.nodup_append];refine⟨W,by simp,fun a ha b hb=>?_⟩;obtain⟨y,hy,rfl⟩:=List.mem_map.1 ha;rw[List.map_cons,List.map_nil,List.mem_singleton] at hb;rw[hb];exact hfirst y hy
  ·rw[List.take_of_length_le (by omega)] at hM N W;exact⟨hM,N,W⟩
 ·cases e with
  | inr b =>
   obtain⟨rfl,hb⟩:=he;exact .ret ⟨fun z=>(by cases z),fun f=>absurd f hb⟩
  | inl m =>
   obtain⟨n,rfl,hM,N,W⟩:=he;have hn:=hM.1;refine .ret ⟨fun z=>?_,fun f=>decide_eq_true ?_⟩
   ·have z:=of_decide_eq_true z;have e:n=s.2.2.2.2.2.2.2.2.2.1.length:=(by omega);obtain⟨_,k1,k2⟩:=hM;rw[e,List.take_length] at k1 k2;exact⟨NX,⟨hb,fun x hx=>(N x hx).2⟩,⟨fun w hw=>by obtain⟨x,hx,rfl⟩:=List.mem_map.1 hw; exact(N x hx).1,W⟩,k1,k2⟩
   ·have k1:=congrArg List.length (hM.2.1.trans f.l.1.symm);rw[List.length_map,List.length_map,List.length_take] at k1;omega
@[go_sem]def aAf:Ty:=.pair .expr qo
@[go_sem]def aAH(g:Ex→Int→Option (Int)):aH:=mSpec aAf (.one qi) (fun x=>g x.1 x.2.1)
def nK(F:Md)(g:Ex→Int→Option (Int))(z:Ex)(f:Int)(I:Int)(q:Int):Option (q9⊕(Int)) :=
 if (q<(((z.l).length:Nat):Int))∧(I≤(200:Int)) then ck (0≤q∧q<(((z.l).length:Nat):Int)) (ck (I64 (f+(1:Int))) (ck ((g ((z.l).getD (q.toNat) (Ex.mk 0 [] [])) (f+(1:Int))).isSome=true) (ck (I64 (I+((g ((z.l).getD (q.toNat) (Ex.mk 0 [] [])) (f+(1:Int))).getD (0:Int)))) (ck (I64 (q+(1:Int))) (some (.inl ((I+((g ((z.l).getD (q.toNat) (Ex.mk 0 [] [])) (f+(1:Int))).getD (0:Int))),(q+(1:Int))))))))) else some (.inr I)
def mV(F:Md)(g:Ex→Int→Option (Int))(q:Ex)(f:Int):Option Int :=
 if ((40:Int)<f)∨((100:Int)<(((q.text).length:Nat):Int)) then some (201:Int) else (bO F (fun d:Int×Int=>nK F g q f d.1 d.2) ((1:Int),(0:Int))).bind (fun e=>some (min e (201:Int)))
abbrev aIh(F:Md)(g:Ex→Int→Option (Int)):List (FuncId×aH):=[(13,(aAH g))]
theorem aPi(F:Md)(g:Ex→Int→Option (Int))(f:FOK Tryz.prog GL 13 (aAH g)):bA Tryz.prog GL (aIh F g):=.cons f xAa (.nil)
theorem aWV(F:Md)(g:Ex→Int→Option (Int))(L:FOK Tryz.prog GL 13 (aAH g)):FOK Tryz.prog GL 13 (mSpec aAf (.one qi) (fun x=>mV F g x.1 x.2.1)):=by
 refine wH (aY (aPi F g L)) Tryz.func13 rfl xAa xAb fun w0 S x r N h=>?_;have hF:xT (fr Tryz.prog (EM (aIh F g)) S w0 Tryz.f13.ntmps):=⟨aY (aPi F g L),mix⟩;obtain⟨(z:Ex),(f:Int),u⟩:=x;simp only[aAf,Ty.wf,aE8] at N;simp only[bD,aAf];try dsimp only at h
 replace h:mV F g z f=some r:=h;unfold mV at h;refine aO (dI hF [1,2] (yaA ?_));refine aP (aO (aM hF [1,2,5] (yaA ?_)));refine aP (aO (aO (aM hF [1,2,5,14] (yaA ?_))));refine aP (cE rfl (fun hc=>?_) (fun hc=>?_))
 ·try simp only[go_sem] at hc
  have h:=jZ zAD h;refine aO (aM hF [4] (yaA ?_));obtain rfl:=Option.some.inj h;refine aP (dL (bU (dR hF [.tmp 4] rfl rfl rfl ?_)));exact zAK
 ·try simp only[go_sem] at hc
  have h:=iW zAD h;refine dA (aP (aO (aO (aM hF [1,2,5,6] (yaA ?_)))));refine aP (gU (aCG (D:=Int×Int) [1] (fun d=>[(2,.ptr 0 []),(5,.val qi d.1),(6,.val qi d.2)]) (fun d=>[.inr (.box 3 (.val .expr z))]) h ?_ ?_ ?_))
  ·first|rfl|(simp only[go_sem]; done)
  ·exact zAJ
  rintro⟨J,I⟩ W h q;simp only[go_sem];try dsimp only at h
  unfold nK at h;refine aO (aO (aM hF [1,2,5,6,23] (yaA ?_)));refine aP (cE rfl (fun hc=>?_) (fun hc=>?_))
  ·(try simp only[go_sem] at hc);have h:=jZ zAD h;refine dA (aP (aO (gU (aM hF [1,2,5,6] (yaA ?_)))));obtain⟨g0,h⟩:=bE h;obtain⟨g1,h⟩:=bE h;obtain⟨U,h⟩:=bE h;obtain⟨O,h⟩:=bE h;(try simp only[I64,I32] at g1);(try simp only[I64,I32] at O);(repeat (refine⟨zAA,?_⟩));refine iY (aP (aM hF [1,2,5,6] (yaA ?_)));obtain⟨g0,h⟩:=bE h;(try simp only[I64,I32] at g0);(repeat (refine⟨zAA,?_⟩));obtain rfl:=Option.some.inj h;dsimp only[aAq] at q;refine cD (aK ((J+((g ((z.l).getD (I.toNat) (Ex.mk 0 [] [])) (f+(1:Int))).getD (0:Int))),(I+(1:Int))) q rfl ?_)
   ·exact zAJ
  ·(try simp only[go_sem] at hc);have h:=iW zAD h;obtain rfl:=Option.some.inj h;dsimp only[aAq] at q;have h:=yaH (q);refine aDC (fC (fC (lV (aP (aO (aM hF [4] (yaA ?_)))))));obtain rfl:=Option.some.inj h;refine aP (dL (dR hF [.tmp 4] rfl rfl rfl ?_));exact zAK
def oP(F:Md):Nat→Ex→Int→Option (Int)
 | 0=>fun _ _=>none
 | n+1=>mV F (oP F n)
def aDu(F:Md)(n:Nat):aH:=mSpec aAf (.one qi) (fun x=>oP F n x.1 x.2.1)
theorem aLV(F:Md):∀n,FOK Tryz.prog GL 13 (aDu F n)
 | 0=>fun _ _ _ _ _ _ _ hp=>Bool.noConfusion (show false=true from hp)
 | n+1=>aWV F _ (aLV F n)
attribute [go_sem] aDu
def oZ(F:Md)(f:Ex):Option Bool :=
 (oP F 64 f (1:Int)).bind (fun v_5=>some (decide (v_5≤(200:Int))))
def aKj:PlR:=⟨[(0,.B [1]),(1,.A [2])],[],[]⟩
def aLW:Ty:=.pair .expr .unit
def uC(F:Md):aH:=mSpec aLW (.one .bool) (fun x=>oZ F x.1)
abbrev aLX(F:Md):List (FuncId×aH):=[(13,(aDu F 64))]
theorem aX9(F:Md):bA Tryz.prog GL (aLX F):=.cons (aLV F 64) xAa (.nil)
attribute [go_sem] aLW aKj
theorem aKk(F:Md):FOK Tryz.prog GL 4 (uC F):=by
 refine aX (aY (aX9 F)) mix Tryz.func4 rfl xAa xAb aKj (fun w0 S x Θ g h hV=>?_);obtain⟨(f:Ex),u⟩:=x;simp only[bD,go_sem];replace h:sat (oZ F f) _:=h;unfold oZ at h;exact zaU
attribute [go_sem] uC
def kJ(F:Md)(q:qa)(g:Int)(f:Int):Option ((Int)⊕((Unit)⊕Bool)) :=
 if f<(((q.2.2.2.2.2.2.2.2.1.getD (g.toNat) ([],[],[],[],[],())).2.2.2.2.1.length:Nat):Int) then ck (0≤f∧f<(((q.2.2.2.2.2.2.2.2.1.getD (g.toNat) ([],[],[],[],[],())).2.2.2.2.1.length:Nat):Int)) ((oZ F ((q.2.2.2.2.2.2.2.2.1.getD (g.toNat) ([],[],[],[],[],())).2.2.2.2.1.getD (f.toNat) ([],(Ex.mk 0 [] []),())).2.1).bind (fun z=>if ¬(z=true) then some (.inr (.inr false)) else some (.inl (IntKind.i64.wrap (f+(1:Int)))))) else some (.inr (.inl ()))
def uD(F:Md)(g:qa)(f:Int):Option ((Int)⊕((Unit)⊕Bool)) :=
 (bO F (fun d:Int=>kJ F g f d) (0:Int)).bind (fun e=>match e with|(.inl e)=>some (.inl (IntKind.i64.wrap (f+(1:Int))))|(.inr e)=>some (.inr (.inr e)))
def kK(F:Md)(z:qa)(g:Int)(f:Int):Option ((Int)⊕((Unit)⊕Bool)) :=
 if f<(((z.2.2.2.2.2.2.2.2.1.getD (g.toNat) ([],[],[],[],[],())).2.1.length:Nat):Int) then ck (0≤f∧f<(((z.2.2.2.2.2.2.2.2.1.getD (g.toNat) ([],[],[],[],[],())).2.1.length:Nat):Int)) ((oZ F ((z.2.2.2.2.2.2.2.2.1.getD (g.toNat) ([],[],[],[],[],())).2.1.getD (f.toNat) ([],([],[],()),(Ex.mk 0 [] []),())).2.2.1).bind (fun q=>ck (¬(¬(q=true))→(0≤f∧f<(((z.2.2.2.2.2.2.2.2.1.getD (g.toNat) ([],[],[],[],[],())).2.1.length:Nat):Int))) (ck (¬(¬(q=true))→(0≤f∧f<(((z.2.2.2.2.2.2.2.2.1.getD (g.toNat) ([],[],[],[],[],())).2.1.length:Nat):Int))) (if (¬(q=true))∨((200:Int)<(IntKind.i64.wrap (((((z.2.2.2.2.2.2.2.2.1.getD (g.toNat) ([],[],[],[],[],())).2.1.getD (f.toNat) ([],([],[],()),(Ex.mk 0 [] []),())).2.1.1.length:Nat):Int)+((((z.2.2.2.2.2.2.2.2.1.getD (g.toNat) ([],[],[],[],[],())).2.1.getD (f.toNat) ([],([],[],()),(Ex.mk 0 [] []),())).2.1.2.1.length:Nat):Int)))) then some (.inr (.inr false)) else some (.inl (IntKind.i64.wrap (f+(1:Int)))))))) else some (.inr (.inl ()))
def qK(F:Md)(g:qa)(f:Int):Option ((Int)⊕((Unit)⊕Bool)) :=
 if f<(g.2.2.2.2.2.2.2.2.1.length:Int) then ck (0≤f∧f<(g.2.2.2.2.2.2.2.2.1.length:Int)) (if (((((10:Int)<(((g.2.2.2.2.2.2.2.2.1.getD (f.toNat) ([],[],[],[],[],())).2.1.length:Nat):Int))∨((10:Int)<(((g.2.2.2.2.2.2.2.2.1.getD (f.toNat) ([],[],[],[],[],())).2.2.1.length:Nat):Int)))∨((10:Int)<(((g.2.2.2.2.2.2.2.2.1.getD (f.toNat) ([],[],[],[],[],())).2.2.2.1.length:Nat):Int)))∨((10:Int)<(((g.2.2.2.2.2.2.2.2.1.getD (f.toNat) ([],[],[],[],[],())).2.2.2.2.1.length:Nat):Int)))∨((100:Int)<(((g.2.2.2.2.2.2.2.2.1.getD (f.toNat) ([],[],[],[],[],())).1.length:Nat):Int)) then some (.inr (.inr false)) else (bO F (fun d:Int=>kK F g f d) (0:Int)).bind (fun e=>match e with|(.inl e)=>uD F g f|(.inr e)=>some (.inr (.inr e)))) else some (.inr (.inl ()))
def yX(F:Md)(f:qa):Option Bool :=
 if (((8:Int)<(f.2.2.2.2.2.2.2.2.1.length:Int))∨((20:Int)<(f.2.2.2.2.2.2.2.2.2.1.length:Int)))∨((400:Int)<(IntKind.i64.wrap ((IntKind.i64.wrap ((IntKind.i64.wrap ((f.2.2.2.2.1.length:Int)+(f.2.2.2.2.2.1.length:Int)))+(f.2.2.2.2.2.2.1.length:Int)))+(f.2.2.2.2.2.2.2.1.length:Int)))) then some false else (bO F (fun d:Int=>qK F f d) (0:Int)).bind (fun e=>match e with|(.inl e)=>some true|(.inr e)=>some e)
def aPj:PlR:=⟨[(0,.B [1]),(1,.A [1,34]),(2,.A [2]),(3,.A [1,3]),(4,.A [1,3,39]),(5,.A [1,3]),(6,.B [1,3,4]),(7,.A [1,3,4,74]),(8,.A [2]),(9,.A [1,3,4,5]),(10,.A [1,3,4,5,79]),(11,.A [1,3,4,5]),(12,.A [1,3,4,5,109]),(13,.A [2]),(14,.A [1,3,4,6]),(15,.A [1,3,4,6,114]),(16,.A [1,3,4,6]),(17,.A [1,3,4,6,124]),(18,.A [2]),(19,.A [2])],[(12,17)],[]⟩
def aF9:Ty:=.pair qe .unit
def aEP(F:Md):aH:=mSpec aF9 (.one .bool) (fun x=>yX F x.1)
abbrev aSb(F:Md):List (FuncId×aH):=[(4,(uC F))]
theorem bDQ(F:Md):bA Tryz.prog GL (aSb F):=.cons (aKk F) xAa (.nil)
attribute [go_sem] aF9 aPj
theorem bBn(F:Md):FOK Tryz.prog GL 5 (aEP F):=by
 refine aX (bOu (bDQ F)) mix Tryz.func5 rfl xAa xAb aPj (fun w0 S x Θ hw h hV=>?_);obtain⟨(f:qa),u⟩:=x;simp only[bD,go_sem];replace h:sat (yX F f) _:=h;unfold yX at h;refine⟨fun hc=>?_,fun hc=>?_⟩
 ·replace h:=cW hc h;exact zaB
 ·replace h:=cX hc h;refine aU hV (D:=Int) [] (fun d=>[(1,.ptr 0 []),(3,.val qi d)]) (fun d=>[.inr (.box 10 (.val qe f))]) h rfl xAc ?_;rintro g A4 T4 hA4 q h;simp only[go_sem];replace h:sat (qK F f g) _:=h;unfold qK at h;refine bP h (fun hc h=>?_) fun hc h=>?_
  ·refine aB h fun g0 h=>(yaC ?_);refine⟨fun hc=>?_,fun hc=>?_⟩
   ·replace h:=cW hc h;replace h:=yaH (q _ (aA h));exact zaB
   ·replace h:=cX hc h;refine bH hV (D:=Unit) (fun d=>sat (uD F f g) T4) [3] (fun d=>[(1,.ptr 0 []),(4,.ptr 1 [])]) (fun d=>[.inr (.box 10 (.val qe f)),.inr (.box 5 (.val qc (f.2.2.2.2.2.2.2.2.1.getD (g.toNat) ([],[],[],[],[],()))))]) ?_ ?_
    ·simp only[go_sem];refine aU hV (D:=Int) [3] (fun d=>[(1,.ptr 0 []),(4,.ptr 1 []),(5,.val qi d)]) (fun d=>[.inr (.box 10 (.val qe f)),.inr (.box 5 (.val qc (f.2.2.2.2.2.2.2.2.1.getD (g.toNat) ([],[],[],[],[],()))))]) h rfl xAc ?_;rintro J A10 Y N I h;simp only[go_sem];replace h:sat (kK F f g J) _:=h;unfold kK at h;refine bP h (fun hc h=>?_) fun hc h=>?_
     ·refine aB h fun g0 h=>(yaC ?_);refine aD h fun U hv h=>?_;(try simp only[hv,go_sem]);refine aB h fun g0 h=>?_;refine aB h fun g1 h=>(yaF ?_);refine⟨fun hc=>?_,fun hc=>?_⟩
      ·replace h:=cW zAD h;replace h:=yaH (I _ (aA h));replace h:=yaH (q _ (aA h));exact zaB
      ·replace h:=cX zAD h;replace h:=N _ (aA h);exact zaF
     ·replace h:=yaH (I _ (aA h));exact aK () h rfl xAc
    ·rintro u h;simp only[go_sem];replace h:sat (uD F f g) _:=h;unfold uD at h;refine aU hV (D:=Int) [3] (fun d=>[(1,.ptr 0 []),(4,.ptr 1 []),(6,.val qi d)]) (fun d=>[.inr (.box 10 (.val qe f)),.inr (.box 5 (.val qc (f.2.2.2.2.2.2.2.2.1.getD (g.toNat) ([],[],[],[],[],()))))]) h rfl xAc ?_;rintro L A15 Z O z h;simp only[go_sem];replace h:sat (kJ F f g L) _:=h;unfold kJ at h;refine bP h (fun hc h=>?_) fun hc h=>?_
     ·refine aB h fun g0 h=>(yaC ?_);refine aD h fun W hv h=>?_;(try simp only[hv,go_sem]);refine aAn h (fun hc h=>?_) fun hc h=>?_
      ·replace h:=yaH (z _ (aA h));replace h:=yaH (q _ (aA h));exact zaB
      ·replace h:=O _ (aA h);exact zaF
     ·replace h:=yaH (z _ (aA h));replace h:=hA4 _ (aA h);refine fA [0] rfl rfl (yaA ?_);exact zaF
  ·replace h:=yaH (q _ (aA h));exact zaB
attribute [go_sem] aEP
end
end Nu
end Go.Proofs

