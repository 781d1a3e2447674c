import Derived.WalkKit
import Derived.Below
set_option linter.unusedVariables false
set_option linter.unusedSimpArgs false
namespace Go.Vc
open Go.RowKit
inductive Ex where
 | mk (kind:Int) (text:List Nat) (l:List Ex)
def Ex.kind:Ex→Int| .mk k _ _=>k
def Ex.text:Ex→List Nat| .mk _ t _=>t
def Ex.l:Ex→List Ex| .mk _ _ l=>l
inductive Ty where
 | bool|u (k:IntKind)|i (k:IntKind)|str|sl (t:Ty)|unit|pair (a b:Ty)|arr (n:Nat) (t:Ty)|expr|rp (t:Ty)|clo (g:FuncId) (t:Ty)|ifc (k:TypeId) (t:Ty)|nili|nilp|nilf
 deriving DecidableEq
@[reducible] def Ty.den:Ty→Type
 | .bool=>Bool
 | .u _=>Nat
 | .i _=>Int
 | .str=>List Nat
 | .sl t=>List t.den
 | .unit=>Unit
 | .pair a b=>a.den×b.den
 | .arr _ t=>List t.den
 | .expr=>Ex
 | .rp t=>t.den
 | .clo _ t=>t.den
 | .ifc _ t=>t.den
 | .nili=>Unit
 | .nilp=>Unit
 | .nilf=>Unit
def Ty.cells:Ty→Nat
 | .bool=>1
 | .u _=>1
 | .i _=>1
 | .str=>1
 | .sl _=>1
 | .unit=>0
 | .pair a b=>a.cells+b.cells
 | .arr n t=>n*t.cells
 | .expr=>3
 | .rp _=>1
 | .clo _ _=>1
 | .ifc _ _=>1
 | .nili=>1
 | .nilp=>1
 | .nilf=>1
def Ty.isAgg:Ty→Bool
 | .unit=>true
 | .pair _ _=>true
 | .arr _ _=>true
 | .expr=>true
 | _=>false
def Ty.zero:(t:Ty)→t.den
 | .bool=>false
 | .u _=>0
 | .i _=>0
 | .str=>[]
 | .sl _=>[]
 | .unit=>()
 | .pair a b=>(a.zero,b.zero)
 | .arr n t=>List.replicate n t.zero
 | .expr=>.mk 0 [] []
 | .rp t=>t.zero
 | .clo _ t=>t.zero
 | .ifc _ t=>t.zero
 | .nili=>()
 | .nilp=>()
 | .nilf=>()
def aI(s:ByteArray):List Nat:=s.data.toList.map (·.toNat)
def jB(w:World)(b off:Nat)(ds:List Value):Prop:=∀j v,ds[j]? = some v→w.cell? ⟨b,off+j,none⟩=some v
def SlR{α:Type}(w:World)(S:Nat→Prop)(R:α→List Value→Prop)(sz:Nat)(xs:List α)(a:Option Addr)(len cap:Nat):Prop :=
 xs.length=len∧len≤cap∧cap≤maxLen ∧
  (xs= []∨ ∃b off,a=some ⟨b,off,none⟩∧S b∧ ∀i (h:i<xs.length),∃ds,R xs[i] ds∧jB w b (off+i*sz) ds)
inductive RepEx(w:World)(S:Nat→Prop):Ex→List Value→Prop where
 | mk (k:Int) (s:ByteArray) (l:List Ex) (a:Option Addr) (len cap:Nat) (dss:Nat→List Value)
   (hk:IntKind.min .i64≤k∧k≤IntKind.max .i64) (hs:s.size≤maxLen) (hl:l.length=len) (hc:len≤cap) (hm:cap≤maxLen)
   (hr:∀i (h:i<l.length),RepEx w S l[i] (dss i))
   (ha:l= []∨ ∃b off,a=some ⟨b,off,none⟩∧S b∧ ∀i,i<l.length→jB w b (off+i*3) (dss i)) :
   RepEx w S (.mk k (aI s) l) [.int .i64 k,.string s,.slice a len cap]
def bC(w:World)(S:Nat→Prop):(t:Ty)→t.den→List Value→Prop
 | .bool,x,f=>f= [.bool x]
 | .u k,x,f=>f= [.int k (x:Int)]∧k.signed=false∧(x:Int)≤k.max
 | .i k,x,f=>f= [.int k x]∧k.signed=true∧k.min≤x∧x≤k.max
 | .str,x,f=>∃s,f= [.string s]∧aI s=x∧s.size≤maxLen
 | .sl t,q,f=>∃a len cap,f= [.slice a len cap]∧SlR w S (bC w S t) t.cells q a len cap
 | .unit,_,f=>f= []
 | .pair a b,x,f=>∃c1 z,f=c1++z∧bC w S a x.1 c1∧bC w S b x.2 z
 | .arr n t,q,f=>q.length=n∧ ∃css:List (List Value),f=css.flatten∧css.length=q.length∧ ∀i (h:i<q.length) (h':i<css.length),bC w S t q[i] css[i]
 | .expr,x,f=>RepEx w S x f
 | .rp t,x,f=>∃b off ds,f= [.pointer (some ⟨b,off,none⟩)]∧S b∧bC w S t x ds∧jB w b off ds
 | .clo g t,x,f=>∃vs:List Value,f= [.func (.func g) #[] vs.toArray]∧bC w S t x vs
 | .ifc k t,x,f=>∃v ds,f= [.iface k v]∧(t.isAgg=true→v= .agg ds.toArray)∧(t.isAgg=false→ds= [v])∧bC w S t x ds
 | .nili,_,f=>f= [.nilIface]
 | .nilp,_,f=>f= [.pointer none]
 | .nilf,_,f=>f= [.nilFunc]
def cZ(w:World)(S:Nat→Prop)(t:Ty)(x:t.den)(v:Value):Prop :=
 if t.isAgg=true then ∃cs,v= .agg cs∧bC w S t x cs.toList else bC w S t x [v]
def aBH(S:Nat→Prop)(w w':World):Prop:=∀b,S b→w'.heap[b]? = w.heap[b]?
theorem aBH.refl(S:Nat→Prop)(w:World):aBH S w w:=fun _ _=>rfl
theorem aBH.trans{S:Nat→Prop}{a b c:World}(h:aBH S a b)(k:aBH S b c):aBH S a c:=fun x hx=>(k x hx).trans (h x hx)
theorem aBH.mono{S S':Nat→Prop}{w w':World}(h:aBH S w w')(hs:∀b,S' b→S b):aBH S' w w':=fun b hb=>h b (hs b hb)
theorem aEg{S:Nat→Prop}{w w':World}(h:aBH S w w'){b off:Nat}(hb:S b){ds:List Value}(hc:jB w b off ds):jB w' b off ds:=fun j v f=>by
 rw[World.cell?_of_block (w:=w) (w':=w') (h b hb)]; exact hc j v f
theorem SlR.keep{α:Type}{w w':World}{S S':Nat→Prop}(hs:∀b,S b→S' b)(h:aBH S w w'){R f:α→List Value→Prop}(J:∀x cs,R x cs→f x cs)
  {sz:Nat} {xs:List α} {a:Option Addr} {len cap:Nat} (g:SlR w S R sz xs a len cap):SlR w' S' f sz xs a len cap:=by
 obtain⟨q,I,h3,z⟩:=g;refine⟨q,I,h3,z.imp id ?_⟩;grind[aEg]
theorem RepEx.keep{w w':World}{S S':Nat→Prop}(hs:∀b,S b→S' b)(h:aBH S w w'){e:Ex}{cs:List Value}(z:RepEx w S e cs):RepEx w' S' e cs:=by
 induction z with
 | mk k s l a len g q hk f hl hc hm z ha I =>
  refine .mk k s l a len g q hk f hl hc hm I (ha.imp id ?_);grind[aEg]
theorem bC.keep{w w':World}{S S':Nat→Prop}(hs:∀b,S b→S' b)(h:aBH S w w'):∀(t:Ty) (x:t.den) (cs:List Value),bC w S t x cs→bC w' S' t x cs
 | .bool,_,_,f=>f
 | .u _,_,_,f=>f
 | .i _,_,_,f=>f
 | .str,_,_,f=>f
 | .sl t,_,_,⟨a,len,I,hv,f⟩=>⟨a,len,I,hv,f.keep hs h (fun x cs=>bC.keep hs h t x cs)⟩
 | .unit,_,_,f=>f
 | .pair a b,_,_,⟨c1,L,hc,g,q⟩=>⟨c1,L,hc,bC.keep hs h a _ _ g,bC.keep hs h b _ _ q⟩
 | .arr _ t,_,_,⟨N,z,hc,hl,f⟩=>⟨N,z,hc,hl,fun i g q=>bC.keep hs h t _ _ (f i g q)⟩
 | .expr,_,_,f=>RepEx.keep hs h f
 | .rp t,_,_,⟨b,off,ds,hc,hb,hd,hcell⟩=>⟨b,off,ds,hc,hs b hb,bC.keep hs h t _ _ hd,aEg h hb hcell⟩
 | .clo _ t,_,_,⟨J,hc,hd⟩=>⟨J,hc,bC.keep hs h t _ _ hd⟩
 | .ifc _ t,_,_,⟨v,ds,hc,g,q,hd⟩=>⟨v,ds,hc,g,q,bC.keep hs h t _ _ hd⟩
 | .nili,_,_,f=>f
 | .nilp,_,_,f=>f
 | .nilf,_,_,f=>f
theorem cZ.keep{w w':World}{S S':Nat→Prop}(hs:∀b,S b→S' b)(h:aBH S w w'){t:Ty}{x:t.den}{v:Value}(f:cZ w S t x v):cZ w' S' t x v:=by
 unfold cZ at *;split
 ·rename_i ha; simp only[ha,if_true] at f; obtain⟨g,hv,hc⟩:=f; exact⟨g,hv,hc.keep hs h⟩
 ·rename_i ha; simp only[ha] at f; exact f.keep hs h
theorem jC{css:List (List Value)}{n:Nat}(h:∀i (h:i<css.length),(css[i]).length=n):css.flatten.length=css.length*n:=by
 induction css with
 | nil=>simp
 | cons c r f =>
  have h0:=h 0 (by simp);have:=f (fun i hi=>by have:=h (i+1) (by simp_all); simp_all);grind
theorem bC.length{w:World}{S:Nat→Prop}:∀(t:Ty) (x:t.den) (cs:List Value),bC w S t x cs→cs.length=t.cells
 | .bool,_,_,f=>by cases f; rfl
 | .u _,_,_,f=>by cases f.1; rfl
 | .i _,_,_,f=>by cases f.1; rfl
 | .str,_,_,⟨s,hv,_⟩=>by subst hv; rfl
 | .sl t,_,_,⟨a,len,I,hv,_⟩=>by subst hv; rfl
 | .unit,_,_,f=>by cases f; rfl
 | .pair a b,_,_,⟨c1,O,hc,q,z⟩=>by subst hc; simp only[List.length_append,bC.length a _ _ q,bC.length b _ _ z,Ty.cells]
 | .arr n t,N,_,⟨J,g,hc,hl,f⟩=>by
  subst hc;rw[jC (n:=t.cells) (fun i hi=>bC.length t _ _ (f i (by omega) hi)),hl,J];rfl
 | .expr,_,_,f=>by cases f; rfl
 | .rp t,_,_,⟨b,off,ds,hc,_⟩=>by subst hc; rfl
 | .clo _ t,_,_,⟨L,hc,_⟩=>by subst hc; rfl
 | .ifc _ t,_,_,⟨v,ds,hc,_⟩=>by subst hc; rfl
 | .nili,_,_,f=>by cases f; rfl
 | .nilp,_,_,f=>by cases f; rfl
 | .nilf,_,_,f=>by cases f; rfl
def one(v:Value):Prop:=match v with| .agg _| .tuple _=>False|_=>True
theorem bC.one{w:World}{S:Nat→Prop}:∀(t:Ty) (x:t.den) (cs:List Value),bC w S t x cs→ ∀v∈cs,one v
 | .bool,_,_,f=>by cases f; intro v hv; simp at hv; subst hv; trivial
 | .u _,_,_,f=>by cases f.1; intro v hv; simp at hv; subst hv; trivial
 | .i _,_,_,f=>by cases f.1; intro v hv; simp at hv; subst hv; trivial
 | .str,_,_,⟨s,hv,_⟩=>by subst hv; intro v hv; simp at hv; subst hv; trivial
 | .sl t,_,_,⟨a,len,J,hv,_⟩=>by subst hv; intro v hv; simp at hv; subst hv; trivial
 | .unit,_,_,f=>by cases f; simp_all
 | .pair a b,_,_,⟨c1,O,hc,z,I⟩=>by
  subst hc;intro v hv;rcases List.mem_append.1 hv with hv|hv
  ·exact bC.one a _ _ z v hv
  ·exact bC.one b _ _ I v hv
 | .arr n t,N,_,⟨U,q,hc,hl,f⟩=>by
  subst hc;intro v hv;obtain⟨c,g,hv⟩:=List.mem_flatten.1 hv;obtain⟨i,hi,rfl⟩:=List.mem_iff_getElem.1 g;exact bC.one t _ _ (f i (by omega) hi) v hv
 | .expr,_,_,f=>by
  cases f;intro v hv;simp only[List.mem_cons,List.not_mem_nil,or_false] at hv;rcases hv with rfl|rfl|rfl<;>trivial
 | .rp t,_,_,⟨b,off,ds,hc,_⟩=>by subst hc; intro v hv; simp at hv; subst hv; trivial
 | .clo _ t,_,_,⟨L,hc,_⟩=>by subst hc; intro v hv; simp at hv; subst hv; trivial
 | .ifc _ t,_,_,⟨v,ds,hc,_⟩=>by subst hc; intro v hv; simp at hv; subst hv; trivial
 | .nili,_,_,f=>by cases f; intro v hv; simp at hv; subst hv; trivial
 | .nilp,_,_,f=>by cases f; intro v hv; simp at hv; subst hv; trivial
 | .nilf,_,_,f=>by cases f; intro v hv; simp at hv; subst hv; trivial
theorem cZ.cells{w:World}{S:Nat→Prop}{t:Ty}{x:t.den}{v:Value}(f:cZ w S t x v):bC w S t x v.cells.toList:=by
 unfold cZ at f;split at f
 ·obtain⟨q,rfl,hc⟩:=f; exact hc
 ·have g:=bC.one t x _ f v (by simp);cases v<;>first|exact g.elim|exact f
theorem cZ.of_cells{w:World}{S:Nat→Prop}{t:Ty}{x:t.den}{v:Value}(hs:t.isAgg=true→ ∃cs,v= .agg cs)(g:t.isAgg=false→ ∀cs,v≠ .agg cs)(f:bC w S t x v.cells.toList):cZ w S t x v:=by
 unfold cZ;split
 ·rename_i ha; obtain⟨cs,rfl⟩:=hs ha; exact⟨cs,rfl,f⟩
 ·rename_i ha;have:=g (by simp_all);cases v<;>first|exact absurd rfl (this _)|exact f
end Go.Vc
namespace Go.Vc
open Go.RowKit
inductive Step where
 | fld (off k:Nat)
 | idx (size i:Nat)
def Step.off:Step→Nat
 | .fld o _=>o
 | .idx s i=>i*s
def mH:List Step→Nat
 | []=>0
 | s::r=>s.off+mH r
inductive AV where
 | junk
 | undef
 | val (t:Ty) (x:t.den)
 | nilS
 | nilP
 | full (t:Ty) (xs:List t.den)
 | own (i:Nat)
 | ptr (i:Nat) (p:List Step)
 | sub (i s off n:Nat)
 | roa (t:Ty) (x:t.den)
 | fn (f:FuncId) (first caps:List Nat)
 | mp (i:Nat)
 | flat (vs:List AV)
 | agg (vs:List AV)
 | tup (vs:List AV)
inductive Mk where
 | no
 | sl (e:TypeId) (m:Mk)
 | pair (a b:Mk)
 deriving DecidableEq
inductive Obj where
 | dead
 | box (n:Nat) (v:AV)
 | row (e:TypeId) (t:Ty) (xs:List t.den)
 | frz (t:Ty) (xs:List t.den)
 | map (k v:Ty) (m:List (k.den×v.den))
 | tre (e:TypeId) (m:Mk) (t:Ty) (xs:List t.den)
 | trh (e:TypeId) (m:Mk) (t:Ty) (xs:List t.den) (k:Nat) (v:AV)
structure Ctx where
 S:Nat→Prop
 hd:Nat→Value
 n:Nat
 bl:Nat→Nat→Prop
structure Ctx.le(c c':Ctx):Prop where
 S:∀b,c.S b→c'.S b
 n:c.n≤c'.n
 hd:∀i,i<c.n→c'.hd i=c.hd i
theorem Ctx.le.refl(c:Ctx):c.le c:=⟨fun _ h=>h,Nat.le_refl _,fun _ _=>rfl⟩
theorem Ctx.le.trans{a b c:Ctx}(h:a.le b)(k:b.le c):a.le c :=
 ⟨fun x hx=>k.S x (h.S x hx),Nat.le_trans h.n k.n,fun i hi=>(k.hd i (Nat.lt_of_lt_of_le hi h.n)).trans (h.hd i hi)⟩
def aW:Value→Option Nat
 | .pointer (some a)=>some a.block
 | .slice (some a) _ _=>some a.block
 | .map (some b)=>some b
 | _=>none
def AV.isAgg:AV→Bool
 | .val t _=>t.isAgg
 | .agg _=>true
 | .flat _=>true
 | _=>false
mutual
def aN(c:Ctx)(w:World):AV→List Value→Prop
 | .junk,_=>True
 | .undef,cs=>cs= [Go.undef]
 | .val t x,cs=>bC w c.S t x cs
 | .nilS,cs=>cs= [.slice none 0 0]
 | .nilP,cs=>cs= [.pointer none]
 | .full t xs,cs=>∃a n,cs= [.slice a n n]∧SlR w c.S (bC w c.S t) t.cells xs a n n
 | .own i,cs=>i<c.n∧cs= [c.hd i]∧one (c.hd i)
 | .ptr i p,cs=>i<c.n∧ ∃b,aW (c.hd i)=some b∧cs= [.pointer (some ⟨b,mH p,none⟩)]
 | .sub i s off n,cs=>i<c.n∧n≤maxLen∧ ∃b cap,aW (c.hd i)=some b∧cs= [.slice (some ⟨b,off*s,none⟩) n cap]
 | .roa t x,cs=>∃b off ds,cs= [.pointer (some ⟨b,off,none⟩)]∧c.S b∧bC w c.S t x ds∧jB w b off ds
 | .fn f l1 l2,cs=>(∀i∈l1,i<c.n)∧(∀i∈l2,i<c.n)∧cs= [.func (.func f) (l1.map c.hd).toArray (l2.map c.hd).toArray]
 | .mp i,cs=>i<c.n∧cs= [c.hd i]∧one (c.hd i)
 | .flat vs,cs=>jY c w vs cs
 | .agg vs,cs=>jY c w vs cs
 | .tup _,_=>False
def jY(c:Ctx)(w:World):List AV→List Value→Prop
 | [],cs=>cs= []
 | v::r,cs=>∃c1 c2,cs=c1++c2∧aN c w v c1∧jY c w r c2
end
def xQ(c:Ctx)(w:World)(v:AV)(x:Value):Prop :=
 aN c w v x.cells.toList∧(v.isAgg=true→ ∃cs,x= .agg cs)∧(v.isAgg=false→ ∀cs,x≠ .agg cs)
def aZ(c:Ctx)(w:World):AV→Value→Prop
 | .junk,_=>True
 | .undef,x=>x=Go.undef
 | .tup f,x=>∃xs:List Value,x= .tuple xs.toArray∧xs.length=f.length∧ ∀i (h:i<f.length) (h':i<xs.length),xQ c w f[i] xs[i]
 | v,x=>xQ c w v x
mutual
theorem aN.keep{c c':Ctx}{w w':World}(hc:c.le c')(h:aBH c.S w w'):∀(v:AV) (cs:List Value),aN c w v cs→aN c' w' v cs
 | .junk,_,_=>by simp[aN]
 | .undef,_,hr=>by grind[aN]
 | .val t x,_,hr=>by simp only[aN] at *; exact bC.keep hc.S h t x _ hr
 | .nilS,_,hr=>by grind[aN]
 | .nilP,_,hr=>by grind[aN]
 | .full t xs,_,hr=>by
  simp only[aN] at *;obtain⟨a,n,hv,hr⟩:=hr;exact⟨a,n,hv,hr.keep hc.S h (fun x cs=>bC.keep hc.S h t x cs)⟩
 | .own i,_,hr=>by simp only[aN] at *; exact⟨Nat.lt_of_lt_of_le hr.1 hc.n,by rw[hc.hd i hr.1]; grind⟩
 | .ptr i p,_,hr=>by
  simp only[aN] at *;obtain⟨hi,b,hb,hv⟩:=hr;exact⟨Nat.lt_of_lt_of_le hi hc.n,b,by rw[hc.hd i hi]; exact hb,hv⟩
 | .sub i s off n,_,hr=>by
  simp only[aN] at *;obtain⟨hi,hn,b,cap,hb,hv⟩:=hr;exact⟨Nat.lt_of_lt_of_le hi hc.n,hn,b,cap,by rw[hc.hd i hi]; exact hb,hv⟩
 | .roa t x,_,hr=>by
  simp only[aN] at *;obtain⟨b,off,ds,hv,hb,hd,hcell⟩:=hr;exact⟨b,off,ds,hv,hc.S b hb,bC.keep hc.S h t x _ hd,aEg h hb hcell⟩
 | .fn f l1 l2,_,hr=>by
  simp only[aN] at *;obtain⟨h1,h2,hv⟩:=hr;refine⟨fun i hi=>Nat.lt_of_lt_of_le (h1 i hi) hc.n,fun i hi=>Nat.lt_of_lt_of_le (h2 i hi) hc.n,?_⟩;rw[List.map_congr_left (fun i hi=>hc.hd i (h1 i hi)),List.map_congr_left (fun i hi=>hc.hd i (h2 i hi))];exact hv
 | .mp i,_,hr=>by simp only[aN] at *; exact⟨Nat.lt_of_lt_of_le hr.1 hc.n,by rw[hc.hd i hr.1]; grind⟩
 | .flat vs,_,hr=>by simp only[aN] at *; exact jY.keep hc h vs _ hr
 | .agg vs,_,hr=>by simp only[aN] at *; exact jY.keep hc h vs _ hr
 | .tup _,_,hr=>by grind[aN]
theorem jY.keep{c c':Ctx}{w w':World}(hc:c.le c')(h:aBH c.S w w'):∀(vs:List AV) (cs:List Value),jY c w vs cs→jY c' w' vs cs
 | [],_,hr=>by grind[jY]
 | v::r,_,hr=>by
  simp only[jY] at *;obtain⟨c1,c2,hcs,h1,h2⟩:=hr;exact⟨c1,c2,hcs,aN.keep hc h v _ h1,jY.keep hc h r _ h2⟩
end
theorem xQ.keep{c c':Ctx}{w w':World}(hc:c.le c')(h:aBH c.S w w'){v:AV}{x:Value}(f:xQ c w v x):xQ c' w' v x :=
 ⟨aN.keep hc h _ _ f.1,f.2⟩
theorem aZ.keep{c c':Ctx}{w w':World}(hc:c.le c')(h:aBH c.S w w'){v:AV}{x:Value}(f:aZ c w v x):aZ c' w' v x:=by
 cases v<;>simp only[aZ] at *
 case tup vs =>
  obtain⟨q,hx,hl,hv⟩:=f;exact⟨q,hx,hl,fun i g z=>(hv i g z).keep hc h⟩
 all_goals first|exact f|exact f.keep hc h
def aBI(c:Ctx)(w:World)(e:TypeId)(t:Ty)(xs:List t.den)(v:Value):Prop :=
 ∃f:List Value,w.ownsRow 0 e t.cells v xs.length f∧bC w c.S (.arr xs.length t) xs f
def bKQ(n s:Nat)(e:TypeId):Prop:=s=n∨(s=2∧n=4294967296+e)
def bDS:Ty→Bool
 | .nilp=>true
 | _=>false
def aTR:Ty→Bool
 | .sl _=>true
 | _=>false
def aY5:Ty→Bool
 | .unit=>true
 | _=>false
def bDT:Ty→Bool
 | .pair b u=>aTR b&&aY5 u
 | _=>false
def aTS:Ty→Bool
 | .pair a r=>bDS a&&bDT r
 | _=>false
def bxN(t:TypeId)(f:Ty):Nat:=bif aTS f then 4294967296+t else f.cells
def aIZ(f:Ty):AV:=bif aTS f then .agg [.nilP,.nilS] else bif aTR f then .nilS else .val f f.zero
theorem bHT{f:Ty}(h:aTR f=true):∃b,f= .sl b:=by
 unfold aTR at h;grind
theorem bBq{z:Ty}(h:aTS z=true):∃b,z= .pair .nilp (.pair (.sl b) .unit):=by
 unfold aTS at h;split at h
 ·rename_i a r;simp only[Bool.and_eq_true] at h;obtain⟨g,f⟩:=h;unfold bDS at g;split at g
  ·unfold bDT at f;split at f
   ·rename_i b u;simp only[Bool.and_eq_true] at f;obtain⟨h3,q⟩:=f;unfold aTR at h3;split at h3
    ·unfold aY5 at q;split at q
     all_goals simp_all
    grind
   grind
  grind
 grind
theorem bHU(t:TypeId)(f:Ty):bKQ (bxN t f) f.cells t:=by
 unfold bxN;cases h:aTS f with
 | false=>exact .inl rfl
 | true =>
  obtain⟨b,rfl⟩:=bBq h;exact .inr ⟨rfl,rfl⟩
def hdB(v:Value):List Nat:=match aW v with
 | some b=>[b]
 | none=>[]
def kT(w:World)(S:Nat→Prop):(t:Ty)→Mk→t.den→List Value→List Nat→Prop
 | .sl t,.sl e m,f,g,B=>∃(v:Value) (css:List (List Value)) (q:List (List Nat)),g= [v]∧w.ownsRow 0 e t.cells v f.length css.flatten∧css.length=f.length∧q.length=f.length∧B=hdB v++q.flatten∧ ∀i (h:i<f.length) (O:i<css.length) (U:i<q.length),kT w S t m f[i] css[i] q[i]
 | .pair a r,.pair N L,x,g,B=>∃(c1 I:List Value) (J z:List Nat),g=c1++I∧B=J++z∧kT w S a N x.1 c1 J∧kT w S r L x.2 I z
 | t,.no,x,g,B=>bC w S t x g∧B= []
 | _,_,_,_,_=>False
structure bFk(c:Ctx)(w:World)(i:Nat)(e:TypeId)(m:Mk)(t:Ty)(xs:List t.den)(k:Nat)(v:AV)(css:List (List Value))(Bs:List (List Nat)):Prop where
 row:w.ownsRow 0 e t.cells (c.hd i) xs.length css.flatten
 lc:css.length=xs.length
 lb:Bs.length=xs.length
 kl:k<xs.length
 el:∀j (h:j<xs.length) (h1:j<css.length) (h2:j<Bs.length),j≠k→kT w c.S t m xs[j] css[j] Bs[j]
 hb:∀(h2:k<Bs.length),Bs[k]= []
 hv:∀(h1:k<css.length),aN c w v css[k]∧css[k].length=t.cells
 nd:(hdB (c.hd i)++Bs.flatten).Nodup
 bl:∀b∈hdB (c.hd i)++Bs.flatten,c.bl i b
def aIL(c:Ctx)(w:World)(i:Nat):Obj→Prop
 | .dead=>True
 | .box n v=>∃b cells e,c.hd i= .pointer (some ⟨b,0,none⟩)∧w.heap[b]? = some (.cells cells e (0,0))∧bKQ n cells.size e∧aN c w v cells.toList
 | .row e t f=>aBI c w e t f (c.hd i)
 | .frz t f=>bC w c.S (.sl t) f [c.hd i]
 | .map k v m=>∃b g clock,c.hd i= .map (some b)∧w.heap[b]? = some (.map g clock)∧g.size=m.length ∧
   ∀j (h:j<m.length) (h':j<g.size),cZ w c.S k m[j].1 g[j].key∧cZ w c.S v m[j].2 g[j].val
 | .tre e m t f=>∃B,kT w c.S (.sl t) (.sl e m) f [c.hd i] B∧B.Nodup∧ ∀b∈B,c.bl i b
 | .trh e m t f k v=>∃css q,bFk c w i e m t f k v css q
def dP(c:Ctx)(i:Nat):Obj→Nat→Prop
 | .dead,_=>False
 | .frz _ _,_=>False
 | .box _ _,b=>aW (c.hd i)=some b
 | .row _ _ _,b=>aW (c.hd i)=some b
 | .map _ _ _,b=>aW (c.hd i)=some b
 | .tre _ _ _ _,b=>c.bl i b
 | .trh _ _ _ _ _ _,b=>c.bl i b
structure fB(M:Nat→Prop)(w0 w:World):Prop where
 os:w.os=w0.os
 tape:w.tape=w0.tape
 output:w.output=w0.output
 size:w0.heap.size≤w.heap.size
 block:∀b,b<w0.heap.size→ ¬M b→w.heap[b]? = w0.heap[b]?
theorem fB.refl(M:Nat→Prop)(w:World):fB M w w:=⟨rfl,rfl,rfl,Nat.le_refl _,fun _ _ _=>rfl⟩
theorem fB.trans{M:Nat→Prop}{a b c:World}(h:fB M a b)(k:fB M b c):fB M a c :=
 ⟨k.os.trans h.os,k.tape.trans h.tape,k.output.trans h.output,Nat.le_trans h.size k.size,fun i hi hM=>(k.block i (Nat.lt_of_lt_of_le hi h.size) hM).trans (h.block i hi hM)⟩
theorem fB.below{w0 w:World}(h:fB (fun _=>False) w0 w):Below w0.heap.size w0 w:=⟨h.os,h.tape,h.output,h.size,fun k hk=>h.block k hk (fun f=>f)⟩
theorem fB.of_below{M:Nat→Prop}{w0 w:World}(h:Below w0.heap.size w0 w):fB M w0 w:=⟨h.os,h.tape,h.output,h.size,fun k hk _=>h.block k hk⟩
structure Perm where
 wr:Nat→Prop
 rd:Nat→Prop
 m:Nat
 roots:Nat→Value
structure Good(M:Perm)(w0:World)(c:Ctx)(h:List Obj)(w:World):Prop where
 n:c.n=h.length
 keeps:fB M.wr w0 w
 sfin:∀b,c.S b→b<w.heap.size
 src:∀b,c.S b→b<w0.heap.size→M.rd b∨M.wr b
 objs:∀i o,h[i]? = some o→aIL c w i o
 own:∀i o b,h[i]? = some o→dP c i o b→(w0.heap.size≤b∨M.wr b)∧b<w.heap.size∧ ¬c.S b
 sep:∀i j oi oj b,h[i]? = some oi→h[j]? = some oj→dP c i oi b→dP c j oj b→i=j
 root:M.m≤c.n∧ ∀i,i<M.m→c.hd i=M.roots i
theorem aEh{M:Perm}{c c':Ctx}(h:M.m≤c.n∧ ∀i,i<M.m→c.hd i=M.roots i)(hl:c.le c'):M.m≤c'.n∧ ∀i,i<M.m→c'.hd i=M.roots i :=
 ⟨Nat.le_trans h.1 hl.n,fun i hi=>(hl.hd i (Nat.lt_of_lt_of_le hi h.1)).trans (h.2 i hi)⟩
structure dG(c:Ctx)(w:World)(c':Ctx)(w':World):Prop where
 le:c.le c'
 same:aBH c.S w w'
theorem dG.refl(c:Ctx)(w:World):dG c w c w:=⟨.refl _,.refl _ _⟩
theorem dG.trans{c1 q g:Ctx}{I f z:World}(h:dG c1 I q f)(k:dG q f g z):dG c1 I g z :=
 ⟨h.le.trans k.le,h.same.trans (k.same.mono h.le.S)⟩
theorem dG.val{c c':Ctx}{w w':World}(h:dG c w c' w'){v:AV}{x:Value}(f:aZ c w v x):aZ c' w' v x:=f.keep h.le h.same
def look:List (Nat×AV)→Nat→AV
 | [],_=>.junk
 | (k,v)::r,t=>if k=t then v else look r t
def aIM(c:Ctx)(w:World)(env:List (Nat×AV))(f:Array Value):Prop:=∀t,aZ c w (look env t) (f.getD t Go.undef)
theorem aIM.keep{c c':Ctx}{w w':World}(h:dG c w c' w'){env:List (Nat×AV)}{f:Array Value}(g:aIM c w env f):aIM c' w' env f :=
 fun t=>h.val (g t)
theorem aIM.put{c:Ctx}{w:World}{env:List (Nat×AV)}{a:Act}{d:Nat}{v:AV}{x:Value}(f:aIM c w env a.tmps)(hd:d<a.tmps.size)(hx:aZ c w v x) :
  aIM c w ((d,v)::env) (a.put (some d) x).tmps:=by
 intro t;simp only[look,Act.put];by_cases h:d=t
 ·simp_all
 ·rw[if_neg h];have:=f t;simp_all
def rowOf(h:List Obj)(i:Nat)(t:Ty):Option (List t.den) :=
 match h[i]? with
 | some (.row _ f g)=>if e:f=t then some (e▸g) else none
 | some (.frz f g)=>if e:f=t then some (e▸g) else none
 | some (.tre _ _ f g)=>if e:f=t then some (e▸g) else none
 | _=>none
end Go.Vc
namespace Go.Vc
open Go.RowKit
def gT(k:IntKind):Nat:=2^k.bits
def fits(k:IntKind)(x:Int):Prop:=k.min≤x∧x≤k.max
theorem bDU{k:IntKind}(hk:k.signed=false)(n:Int):k.wrap n=n%(gT k:Int):=by
 grind[IntKind.signed,IntKind.wrap,IntKind.bits,gT]
theorem aBJ{k:IntKind}(hk:k.signed=false)(n:Nat):k.wrap (n:Int)=((n%gT k:Nat):Int):=by
 grind[bDU]
theorem bFl{k:IntKind}(hk:k.signed=false):k.max=(gT k:Int)-1:=by
 grind[IntKind.signed,IntKind.max,IntKind.bits,gT]
theorem aEZ(k:IntKind):0<gT k:=by grind[gT,Nat.two_pow_pos]
theorem bHV{k:IntKind}(hk:k.signed=false){n:Nat}(h:n<gT k):(n:Int)≤k.max:=by grind[bFl]
theorem aQN{k:IntKind}(hk:k.signed=false){n:Nat}(h:(n:Int)≤k.max):n<gT k:=by grind[bFl]
theorem aHi{k:IntKind}(hk:k.signed=true){n:Int}(h:fits k n):k.wrap n=n:=by
 obtain⟨f,g⟩:=h;cases k<;>simp[IntKind.signed] at hk<;>simp[IntKind.min,IntKind.max,IntKind.signed,IntKind.bits] at f g<;>simp[IntKind.wrap,IntKind.signed,IntKind.bits]<;>split<;>omega
theorem aES{k:IntKind}(hk:k.signed=true)(n:Int):fits k (k.wrap n):=by
 cases k<;>simp[IntKind.signed] at hk<;>simp[fits,IntKind.min,IntKind.max,IntKind.wrap,IntKind.signed,IntKind.bits]<;>split<;>omega
section
variable {w:World} {S:Nat→Prop} {c:Ctx}
theorem aKL{k:IntKind}(hk:k.signed=false){n:Nat}(h:n<gT k):aZ c w (.val (.u k) n) (.int k n) :=
 ⟨⟨rfl,hk,bHV hk h⟩,(fun h=>by cases h),(fun _ f=>by simp)⟩
theorem aCl{k:IntKind}(hk:k.signed=true){n:Int}(h:fits k n):aZ c w (.val (.i k) n) (.int k n) :=
 ⟨⟨rfl,hk,h.1,h.2⟩,(fun h=>by cases h),(fun _ f=>by simp)⟩
theorem aE0(b:Bool):aZ c w (.val .bool b) (.bool b):=⟨rfl,(fun h=>by cases h),(fun _ f=>by simp)⟩
theorem bKR{s:ByteArray}(h:s.size≤maxLen):aZ c w (.val .str (aI s)) (.string s):=⟨⟨s,rfl,rfl,h⟩,(fun h=>by cases h),(fun _ f=>by simp)⟩
theorem aI0{k:IntKind}{n:Nat}{v:Value}(h:aZ c w (.val (.u k) n) v):v= .int k n∧k.signed=false∧n<gT k:=by
 obtain⟨⟨g,q,h3⟩,_,f⟩:=h;have f:=f rfl;cases v<;>simp[Value.cells] at g f
 obtain⟨rfl,rfl⟩:=g;exact⟨rfl,q,aQN q h3⟩
theorem aGy{k:IntKind}{n:Int}{v:Value}(h:aZ c w (.val (.i k) n) v):v= .int k n∧k.signed=true∧fits k n:=by
 obtain⟨⟨g,q,h3⟩,_,f⟩:=h;have f:=f rfl;cases v<;>simp[Value.cells] at g f
 obtain⟨rfl,rfl⟩:=g;exact⟨rfl,q,h3⟩
theorem aFG{b:Bool}{v:Value}(h:aZ c w (.val .bool b) v):v= .bool b:=by
 obtain⟨g,_,f⟩:=h;have f:=f rfl;simp_all[aN,bC,Value.cells]
theorem aQO{x:List Nat}{v:Value}(h:aZ c w (.val .str x) v):∃s,v= .string s∧aI s=x∧s.size≤maxLen:=by
 obtain⟨⟨s,g,q⟩,_,f⟩:=h;have f:=f rfl;cases v<;>simp[Value.cells] at g f
 simp_all
end
theorem bFm:∃f:IntKind→Nat→Nat→Nat,∀k a b,f k a b=(a+(gT k-b))%gT k:=⟨_,fun _ _ _=>rfl⟩
noncomputable def aIN:IntKind→Nat→Nat→Nat:=Classical.choose bFm
theorem aKq(k:IntKind)(a b:Nat):aIN k a b=(a+(gT k-b))%gT k:=Classical.choose_spec bFm k a b
theorem bFn:∃f:IntKind→Nat→Nat→Nat,∀k a b,f k a b=(a*b)%gT k:=⟨_,fun _ _ _=>rfl⟩
noncomputable def aGz:IntKind→Nat→Nat→Nat:=Classical.choose bFn
theorem aTA(k:IntKind)(a b:Nat):aGz k a b=(a*b)%gT k:=Classical.choose_spec bFn k a b
theorem bFo:∃f:IntKind→Nat→Nat,∀k a,f k a=(0+(gT k-a))%gT k:=⟨_,fun _ _=>rfl⟩
noncomputable def bBr:IntKind→Nat→Nat:=Classical.choose bFo
theorem aY6(k:IntKind)(a:Nat):bBr k a=(0+(gT k-a))%gT k:=Classical.choose_spec bFo k a
noncomputable def aY7(f:BinOp)(k:IntKind)(a b:Nat):Prop×AV :=
 match f with
 | .add=>(True,.val (.u k) ((a+b)%gT k))
 | .sub=>(True,.val (.u k) (aIN k a b))
 | .mul=>(True,.val (.u k) (aGz k a b))
 | .quo=>(b≠0,.val (.u k) (a/b))
 | .rem=>(b≠0,.val (.u k) (a%b))
 | .and=>(True,.val (.u k) (a&&&b))
 | .or=>(True,.val (.u k) (a|||b))
 | .xor=>(True,.val (.u k) (a^^^b))
 | .andNot=>(True,.val (.u k) (a&&&(gT k-1-b)))
 | .eql=>(True,.val .bool (decide (a=b)))
 | .neq=>(True,.val .bool (!decide (a=b)))
 | .lss=>(True,.val .bool (decide (a<b)))
 | .leq=>(True,.val .bool (decide (a≤b)))
 | .gtr=>(True,.val .bool (decide (b<a)))
 | .geq=>(True,.val .bool (decide (b≤a)))
 | _=>(False,.junk)
def bHW(f:BinOp)(k:IntKind)(a b:Int):Prop×AV :=
 match f with
 | .add=>(fits k (a+b),.val (.i k) (a+b))
 | .sub=>(fits k (a-b),.val (.i k) (a-b))
 | .mul=>(fits k (a*b),.val (.i k) (a*b))
 | .quo=>(b≠0∧fits k (a.tdiv b),.val (.i k) (a.tdiv b))
 | .rem=>(b≠0,.val (.i k) (a.tmod b))
 | .and=>(True,.val (.i k) (k.wrap ((BitVec.ofInt k.bits a&&&BitVec.ofInt k.bits b).toNat:Int)))
 | .or=>(True,.val (.i k) (k.wrap ((BitVec.ofInt k.bits a|||BitVec.ofInt k.bits b).toNat:Int)))
 | .xor=>(True,.val (.i k) (k.wrap ((BitVec.ofInt k.bits a^^^BitVec.ofInt k.bits b).toNat:Int)))
 | .eql=>(True,.val .bool (decide (a=b)))
 | .neq=>(True,.val .bool (!decide (a=b)))
 | .lss=>(True,.val .bool (decide (a<b)))
 | .leq=>(True,.val .bool (decide (a≤b)))
 | .gtr=>(True,.val .bool (decide (b<a)))
 | .geq=>(True,.val .bool (decide (b≤a)))
 | _=>(False,.junk)
def aMQ:List Nat→List Nat→Bool
 | _,[]=>false
 | [],_::_=>true
 | a::x,b::y=>decide (a<b)||(decide (a=b)&&aMQ x y)
def bHX(f:BinOp)(a b:List Nat):Prop×AV :=
 match f with
 | .add=>(a.length+b.length≤maxLen,.val .str (a++b))
 | .eql=>(True,.val .bool (decide (a=b)))
 | .neq=>(True,.val .bool (!decide (a=b)))
 | .lss=>(True,.val .bool (aMQ a b))
 | .leq=>(True,.val .bool (aMQ a b||decide (a=b)))
 | .gtr=>(True,.val .bool (!(aMQ a b||decide (a=b))))
 | .geq=>(True,.val .bool (!aMQ a b))
 | _=>(False,.junk)
def bKS(f:BinOp)(a b:Bool):Prop×AV :=
 match f with
 | .eql=>(True,.val .bool (a == b))
 | .neq=>(True,.val .bool (a != b))
 | _=>(False,.junk)
def shU(f:BinOp)(k:IntKind)(a n:Nat):Prop×AV :=
 match f with
 | .shl=>(True,.val (.u k) ((a*2^n)%gT k))
 | .shr=>(True,.val (.u k) (a/2^n))
 | _=>(False,.junk)
def shI(f:BinOp)(k:IntKind)(a:Int)(n:Nat):Prop×AV :=
 match f with
 | .shl=>(fits k (a*2^n),.val (.i k) (a*2^n))
 | .shr=>(True,.val (.i k) (a.fdiv (2^n)))
 | _=>(False,.junk)
section
variable {P:Program} {w:World} {c:Ctx}
theorem aBc{k:IntKind}{a:Nat}(ha:a<gT k):(BitVec.ofInt k.bits (a:Int)).toNat=a:=by
 simp only[BitVec.ofInt_natCast,BitVec.toNat_ofNat];exact Nat.mod_eq_of_lt ha
theorem aY8(g:BinOp)(t:TypeId){k:IntKind}{a b:Nat}(hk:k.signed=false)(ha:a<gT k)(hb:b<gT k)(h:(aY7 g k a b).1) :
  ∃v,(binOp g t (.int k a) (.int k b)).run P w= .ok v w∧aZ c w (aY7 g k a b).2 v:=by
 have hp:=aEZ k;cases g<;>simp only[aY7] at h ⊢
 case add=>exact⟨.int k (((a+b)%gT k:Nat):Int),by simp only[binOp,Op.intArith,ne_eq,not_true_eq_false,if_false]; rw[← aBJ hk]; rfl,aKL hk (Nat.mod_lt _ hp)⟩
 case sub =>
  rw[aKq];refine⟨_,by simp only[binOp,Op.intArith,ne_eq,not_true_eq_false,if_false]; rfl,?_⟩;rw[bDU hk,show ((a:Int)-b)%(gT k:Int)=(((a+(gT k-b))%gT k:Nat):Int) from by
   rw[Int.natCast_emod,Int.natCast_add,Int.ofNat_sub (by omega),show (a:Int)+((gT k:Int)-b)=(a-b)+gT k from by omega,Int.add_emod_right]]
  exact aKL hk (Nat.mod_lt _ hp)
 case mul=>rw[aTA]; exact⟨.int k (((a*b)%gT k:Nat):Int),by simp only[binOp,Op.intArith,ne_eq,not_true_eq_false,if_false]; rw[← aBJ hk,Int.natCast_mul]; rfl,aKL hk (Nat.mod_lt _ hp)⟩
 case quo =>
  have f:¬(b:Int)=0:=by omega
  refine⟨.int k ((a/b:Nat):Int),?_,aKL hk (Nat.lt_of_le_of_lt (Nat.div_le_self _ _) ha)⟩;have e:k.wrap ((a:Int).tdiv b)=((a/b:Nat):Int):=by
   rw[show (a:Int).tdiv b=((a/b:Nat):Int) from by rfl,aBJ hk,Nat.mod_eq_of_lt (Nat.lt_of_le_of_lt (Nat.div_le_self _ _) ha)]
  simp only[binOp,Op.intDiv,f,e,ne_eq,not_true_eq_false,if_false]; rfl
 case rem =>
  have f:¬(b:Int)=0:=by omega
  refine⟨.int k ((a%b:Nat):Int),?_,aKL hk (Nat.lt_of_le_of_lt (Nat.mod_le _ _) ha)⟩;have e:(a:Int).tmod b=((a%b:Nat):Int):=by rfl
  simp only[binOp,Op.intDiv,f,e,ne_eq,not_true_eq_false,if_false]; rfl
 case and =>
  have e:k.wrap ((BitVec.ofInt k.bits (a:Int)&&&BitVec.ofInt k.bits (b:Int)).toNat:Int)=((a&&&b:Nat):Int):=by
   rw[BitVec.toNat_and,aBc ha,aBc hb,aBJ hk,Nat.mod_eq_of_lt (Nat.lt_of_le_of_lt Nat.and_le_left ha)]
  exact⟨_,by simp only[binOp,Op.intBits,ne_eq,not_true_eq_false,if_false,e]; rfl,aKL hk (Nat.lt_of_le_of_lt Nat.and_le_left ha)⟩
 case or =>
  have hl:a|||b<gT k:=Nat.or_lt_two_pow ha hb
  have e:k.wrap ((BitVec.ofInt k.bits (a:Int)|||BitVec.ofInt k.bits (b:Int)).toNat:Int)=((a|||b:Nat):Int):=by
   grind[BitVec.toNat_or,aBc,aBJ,Nat.mod_eq_of_lt]
  exact⟨_,by simp only[binOp,Op.intBits,ne_eq,not_true_eq_false,if_false,e]; rfl,aKL hk hl⟩
 case xor =>
  have hl:a^^^b<gT k:=Nat.xor_lt_two_pow ha hb;have e:k.wrap ((BitVec.ofInt k.bits (a:Int)^^^BitVec.ofInt k.bits (b:Int)).toNat:Int)=((a^^^b:Nat):Int):=by
   grind[BitVec.toNat_xor,aBc,aBJ,Nat.mod_eq_of_lt]
  exact⟨_,by simp only[binOp,Op.intBits,ne_eq,not_true_eq_false,if_false,e]; rfl,aKL hk hl⟩
 case andNot =>
  have e:k.wrap ((BitVec.ofInt k.bits (a:Int)&&& ~~~ BitVec.ofInt k.bits (b:Int)).toNat:Int)=((a&&&(gT k-1-b):Nat):Int):=by
   rw[BitVec.toNat_and,BitVec.toNat_not,aBc ha,aBc hb,aBJ hk];rw[Nat.mod_eq_of_lt (Nat.lt_of_le_of_lt Nat.and_le_left ha)];rfl
  exact⟨_,by simp only[binOp,Op.intBits,ne_eq,not_true_eq_false,if_false,e]; rfl,aKL hk (Nat.lt_of_le_of_lt Nat.and_le_left ha)⟩
 case eql=>exact⟨.bool (decide (a=b)),by simp[binOp,Op.intCmp]; grind,aE0 _⟩
 case neq=>exact⟨.bool (!decide (a=b)),by simp[binOp,Op.intCmp]; grind,aE0 _⟩
 case lss=>exact⟨.bool (decide (a<b)),by simp[binOp,Op.intCmp],aE0 _⟩
 case leq=>exact⟨.bool (decide (a≤b)),by simp[binOp,Op.intCmp],aE0 _⟩
 case gtr=>exact⟨.bool (decide (b<a)),by simp[binOp,Op.intCmp],aE0 _⟩
 case geq=>exact⟨.bool (decide (b≤a)),by simp[binOp,Op.intCmp],aE0 _⟩
theorem bKT(f:BinOp)(t:TypeId){k:IntKind}{a b:Int}(hk:k.signed=true)(ha:fits k a)(hb:fits k b)(h:(bHW f k a b).1) :
  ∃v,(binOp f t (.int k a) (.int k b)).run P w= .ok v w∧aZ c w (bHW f k a b).2 v:=by
 cases f<;>simp only[bHW] at h ⊢
 case add=>exact⟨_,by simp only[binOp,Op.intArith,ne_eq,not_true_eq_false,if_false,aHi hk h]; rfl,aCl hk h⟩
 case sub=>exact⟨_,by simp only[binOp,Op.intArith,ne_eq,not_true_eq_false,if_false,aHi hk h]; rfl,aCl hk h⟩
 case mul=>exact⟨_,by simp only[binOp,Op.intArith,ne_eq,not_true_eq_false,if_false,aHi hk h]; rfl,aCl hk h⟩
 case quo=>exact⟨_,by simp only[binOp,Op.intDiv,ne_eq,not_true_eq_false,if_false,h.1,aHi hk h.2]; rfl,aCl hk h.2⟩
 case rem =>
  refine⟨_,by simp only[binOp,Op.intDiv,ne_eq,not_true_eq_false,if_false,h]; rfl,aCl hk ?_⟩;obtain⟨q,z⟩:=ha;have hl:((a.tmod b).natAbs)≤a.natAbs:=by rw[Int.natAbs_tmod]; exact Nat.mod_le _ _
  have hs:0≤a→0≤a.tmod b:=fun h=>Int.tmod_nonneg _ h;have g:a≤0→a.tmod b≤0:=fun h=>by
   have:=Int.tmod_nonneg b (show 0≤ -a by omega);simp_all
  have hm:k.min≤0∧0≤k.max:=by cases k<;>simp[IntKind.min,IntKind.max,IntKind.signed,IntKind.bits]
  constructor<;>omega
 case and=>exact⟨_,by simp only[binOp,Op.intBits,ne_eq,not_true_eq_false,if_false]; rfl,aCl hk (aES hk _)⟩
 case or=>exact⟨_,by simp only[binOp,Op.intBits,ne_eq,not_true_eq_false,if_false]; rfl,aCl hk (aES hk _)⟩
 case xor=>exact⟨_,by simp only[binOp,Op.intBits,ne_eq,not_true_eq_false,if_false]; rfl,aCl hk (aES hk _)⟩
 case eql=>exact⟨.bool (decide (a=b)),by simp[binOp,Op.intCmp]; rfl,aE0 _⟩
 case neq=>exact⟨.bool (!decide (a=b)),by simp[binOp,Op.intCmp]; rfl,aE0 _⟩
 case lss=>exact⟨.bool (decide (a<b)),by simp[binOp,Op.intCmp],aE0 _⟩
 case leq=>exact⟨.bool (decide (a≤b)),by simp[binOp,Op.intCmp],aE0 _⟩
 case gtr=>exact⟨.bool (decide (b<a)),by simp[binOp,Op.intCmp],aE0 _⟩
 case geq=>exact⟨.bool (decide (b≤a)),by simp[binOp,Op.intCmp],aE0 _⟩
theorem bDV(f:BinOp)(t:TypeId){k k':IntKind}{a n:Nat}(hk:k.signed=false)(ha:a<gT k)(h:(shU f k a n).1) :
  ∃v,(binOp f t (.int k a) (.int k' n)).run P w= .ok v w∧aZ c w (shU f k a n).2 v:=by
 cases f<;>simp only[shU] at h ⊢
 case shl =>
  refine⟨_,by simp only[binOp,Op.shift,show ¬((n:Int)<0) from by omega,if_false]; rfl,?_⟩;have e:k.wrap ((a:Int)*2^min (n:Int).toNat k.bits)=(((a*2^n)%gT k:Nat):Int):=by
   rw[show ((a:Int)*2^min (n:Int).toNat k.bits)=((a*2^min n k.bits:Nat):Int) from by simp,aBJ hk]
   congr 1
   by_cases g:n≤k.bits
   ·simp_all
   ·rw[Nat.min_eq_right (by omega)];have e1:a*2^n=a*2^(n-k.bits)*gT k:=by
     rw[gT,Nat.mul_assoc,← Nat.pow_add]; grind
    rw[e1,show a*2^k.bits=a*gT k from rfl,Nat.mul_mod_left,Nat.mul_mod_left]
  rw[e];exact aKL hk (Nat.mod_lt _ (aEZ k))
 case shr =>
  refine⟨_,by simp only[binOp,Op.shift,show ¬((n:Int)<0) from by omega,if_false]; rfl,?_⟩;have e:(a:Int).fdiv (2^min (n:Int).toNat k.bits)=((a/2^n:Nat):Int):=by
   rw[Int.fdiv_eq_ediv_of_nonneg _ (by grind),show ((2:Int)^min (n:Int).toNat k.bits)=((2^min n k.bits:Nat):Int) from by simp,← Int.natCast_ediv]
   congr 1
   by_cases g:n≤k.bits
   ·simp_all
   ·rw[Nat.min_eq_right (by omega),Nat.div_eq_of_lt (show a<2^k.bits from ha),Nat.div_eq_of_lt (Nat.lt_of_lt_of_le ha (Nat.pow_le_pow_right (by omega) (by omega)))]
  rw[e];exact aKL hk (Nat.lt_of_le_of_lt (Nat.div_le_self _ _) ha)
theorem bDW(g:BinOp)(t:TypeId){k k':IntKind}{a:Int}{n:Nat}(hk:k.signed=true)(ha:fits k a)(L:g= .shl→n≤k.bits)(h:(shI g k a n).1) :
  ∃v,(binOp g t (.int k a) (.int k' n)).run P w= .ok v w∧aZ c w (shI g k a n).2 v:=by
 cases g<;>simp only[shI] at h ⊢
 case shl =>
  refine⟨_,by simp only[binOp,Op.shift,show ¬((n:Int)<0) from by omega,if_false]; rfl,?_⟩;rw[show min (n:Int).toNat k.bits=n from by simp_all,aHi hk h];exact aCl hk h
 case shr =>
  refine⟨_,by simp only[binOp,Op.shift,show ¬((n:Int)<0) from by omega,if_false]; rfl,?_⟩;have hb: -(2^k.bits:Int)≤a∧a<2^k.bits:=by
   obtain⟨z,I⟩:=ha;cases k<;>simp[IntKind.signed] at hk<;>simp[IntKind.min,IntKind.max,IntKind.signed,IntKind.bits] at z I ⊢ <;> omega
  have f:∀m:Nat,(0:Int)<2^m:=fun m=>Int.pow_pos (by omega);have e:a.fdiv (2^min (n:Int).toNat k.bits)=a.fdiv (2^n):=by
   by_cases L:n≤k.bits
   ·simp_all
   ·rw[show min (n:Int).toNat k.bits=k.bits from by omega];have J:(2:Int)^k.bits≤2^n:=by
     have:=Nat.pow_le_pow_right (n:=2) (by omega) (show k.bits≤n by omega);grind
    rw[Int.fdiv_eq_ediv_of_nonneg _ (Int.le_of_lt (f _)),Int.fdiv_eq_ediv_of_nonneg _ (Int.le_of_lt (f _))];by_cases h0:0≤a
    ·rw[Int.ediv_eq_zero_of_lt h0 hb.2,Int.ediv_eq_zero_of_lt h0 (by omega)]
    ·have q1:a/(2^k.bits:Int)= -1:=by
      grind[Int.ediv_eq_neg_one_of_neg_of_le]
     have N:a/(2^n:Int)= -1:=Int.ediv_eq_neg_one_of_neg_of_le (by omega) (by omega);omega
  rw[e];refine aCl hk ?_;obtain⟨z,I⟩:=ha;rw[Int.fdiv_eq_ediv_of_nonneg _ (Int.le_of_lt (f _))];have hm:k.min≤0∧0≤k.max:=by cases k<;>simp[IntKind.min,IntKind.max,IntKind.signed,IntKind.bits]
  have q:(1:Int)≤2^n:=by grind
  constructor
  ·by_cases h0:0≤a
   ·have:=Int.ediv_nonneg h0 (Int.le_of_lt (f n)); omega
   ·have:a≤a/2^n:=by
     rw[Int.le_ediv_iff_mul_le (f n)];have:=Int.mul_le_mul_of_nonpos_left (a:=a) (b:=2^n) (c:=1) (by omega) q;omega
    omega
  ·by_cases h0:0≤a
   ·have:=Int.ediv_le_self (2^n) h0; omega
   ·have:=Int.ediv_neg_of_neg_of_pos (show a<0 by omega) (f n); omega
end
end Go.Vc
namespace Go.Vc
open Go.RowKit
def Tab:=TypeId→Option Ty
def dB(T:Tab):List Field→Nat→Ty→Bool
 | [],_,.unit=>true
 | f::fs,off,.pair a r=>decide (T f.type=some a)&&decide (f.offset=off)&&decide (f.name ≠ "_")&&decide (0<a.cells)&&dB T fs (off+a.cells) r
 | _,_,_=>false
def bFp(T:Tab):List Field→Bool
 | [q,g,f]=>decide (T q.type=some (.i .i64))&&decide (q.offset=0)&&decide (T g.type=some .str)&&decide (g.offset=1)&&decide (T f.type=some (.sl .expr))&&decide (f.offset=2)
 | _=>false
def fM(T:Tab)(d:TypeDesc)(c:Ty):Bool :=
 match c,d with
 | .bool,.bool=>true
 | .u k,.int g=>decide (k=g)&& !k.signed
 | .i k,.int g=>decide (k=g)&&k.signed
 | .str,.string=>true
 | .sl c,.slice e=>decide (T e=some c)&&decide (0<c.cells)
 | .unit,.struct f=>dB T f.toList 0 .unit
 | .pair a b,.struct f=>dB T f.toList 0 (.pair a b)
 | .arr n c,.array q e=>decide (n=q)&&decide (T e=some c)&&decide (0<c.cells)&&decide (1<n∧n≤1048576)
 | .expr,.struct f=>bFp T f.toList
 | .rp c,.pointer e=>decide (T e=some c)
 | .clo _ _,.func _ _ _=>true
 | .nili,.interface _=>true
 | .nilp,.pointer _=>true
 | .nilf,.func _ _ _=>true
 | _,_=>false
def cF:Ty→List Value
 | .bool=>[.bool false]
 | .u k=>[.int k 0]
 | .i k=>[.int k 0]
 | .str=>[.string ⟨#[]⟩]
 | .sl _=>[.slice none 0 0]
 | .unit=>[]
 | .pair a b=>cF a++cF b
 | .arr n t=>(List.replicate n (cF t)).flatten
 | .expr=>[.int .i64 0,.string ⟨#[]⟩,.slice none 0 0]
 | .rp _=>[.pointer none]
 | .clo _ _=>[.nilFunc]
 | .ifc _ _=>[.nilIface]
 | .nili=>[.nilIface]
 | .nilp=>[.pointer none]
 | .nilf=>[.nilFunc]
def Ty.okB:Ty→Bool
 | .u k=> !k.signed
 | .i k=>k.signed
 | .sl t=>t.okB
 | .pair a b=>a.okB&&b.okB
 | .arr _ t=>t.okB
 | .rp _=>false
 | .clo _ _=>false
 | .ifc _ _=>false
 | .nili=>false
 | _=>true
def kY(c:Ty):Value:=if c.isAgg then .agg (cF c).toArray else (cF c).headD Go.undef
def bKU:Value→Value→Bool
 | .bool a,.bool b=>a == b
 | .int k a,.int f b=>decide (k=f)&&decide (a=b)
 | .string a,.string b=>decide (a.data.toList=b.data.toList)
 | .slice none 0 0,.slice none 0 0=>true
 | .pointer none,.pointer none=>true
 | .nilFunc,.nilFunc=>true
 | _,_=>false
def bGO:List Value→List Value→Bool
 | [],[]=>true
 | a::r,b::s=>bKU a b&&bGO r s
 | _,_=>false
def veq:Value→Value→Bool
 | .agg g,.agg f=>bGO g.toList f.toList
 | a,b=>bKU a b
theorem bFq{a b:Value}(h:bKU a b=true):a=b:=by
 unfold bKU at h;split at h<;>simp at h
 ·rw[h]
 ·simp_all
 ·rename_i x y; obtain⟨⟨x⟩⟩:=x; simp_all
 all_goals rfl
theorem bFr:∀ {a b:List Value},bGO a b=true→a=b
 | [],[],_=>rfl
 | [],_::_,h=>by simp[bGO] at h
 | _::_,[],h=>by simp[bGO] at h
 | a::r,b::s,h=>by simp only[bGO,Bool.and_eq_true] at h; rw[bFq h.1,bFr h.2]
theorem bNa{a b:Value}(h:veq a b=true):a=b:=by
 unfold veq at h;split at h
 ·rename_i x y; have:=bFr h; simp_all
 ·exact bFq h
def Ty.byt:Ty→Nat
 | .bool=>1
 | .u k=>k.bits/8
 | .i k=>k.bits/8
 | .str=>16
 | .sl _=>24
 | c=>24*c.cells+1
def tyB(P:Program)(T:Tab)(t:TypeId)(c:Ty):Bool :=
 match P.info? t,P.underlying t with
 | some i,some d=>decide (i.size=c.cells)&&(!c.okB||(match i.zero with|some z=>veq z (kY c)|none=>false))&&decide (i.bytes≤c.byt∧(c= .u .u8→i.bytes=1))&&fM T d c&& !P.stoodInHeld t&&(!c.isAgg|| !P.eqGuardType P.depth t)
 | _,_=>false
def aKZ:List (TypeId×Ty)→Tab
 | [],_=>none
 | (k,v)::r,t=>if k=t then some v else aKZ r t
def bOX(P:Program)(l:List (TypeId×Ty)):Bool:=l.all fun p=>tyB P (aKZ l) p.1 p.2
structure aEi(P:Program)(T:Tab)(t:TypeId)(c:Ty):Prop where
 info:∃i,P.info? t=some i∧i.size=c.cells∧(c.okB=true→i.zero=some (kY c))∧i.bytes≤c.byt
 desc:∃d,P.underlying t=some d∧fM T d c=true
 held:P.stoodInHeld t=false
 guard:c.isAgg=true→P.eqGuardType P.depth t=false
 byte:c= .u .u8→ ∀i,P.info? t=some i→i.bytes=1
def iF(P:Program)(T:Tab):Prop:=∀t c,T t=some c→aEi P T t c
theorem bKV{P:Program}{T:Tab}{t:TypeId}{c:Ty}(h:tyB P T t c=true):aEi P T t c:=by
 unfold tyB at h;split at h
 ·rename_i i d hi hd;simp only[Bool.and_eq_true,decide_eq_true_eq,Bool.not_eq_true'] at h;obtain⟨⟨⟨⟨⟨z,g⟩,h3⟩,I⟩,J⟩,N⟩:=h;refine⟨⟨i,hi,z,fun f=>?_,h3.1⟩,⟨d,hd,I⟩,J,fun ha=>by simp_all,fun e L q=>by simp_all⟩;rw[f] at g;simp only[Bool.not_true,Bool.false_or] at g;grind[bNa]
 grind
theorem aYg{l:List (TypeId×Ty)}{t:TypeId}{c:Ty}(h:aKZ l t=some c):(t,c)∈l:=by
 induction l with
 | nil=>cases h
 | cons p r f =>
  grind[aKZ]
theorem bHY{P:Program}{l:List (TypeId×Ty)}(h:bOX P l=true):iF P (aKZ l):=fun t c hc=>by
 have:=List.all_eq_true.1 h _ (aYg hc);exact bKV this
section
variable {P:Program} {T:Tab}
theorem aEi.agg{t:TypeId}{c:Ty}(h:aEi P T t c):(match P.underlying t with|some (.struct _)|some (.array _ _)=>true|_=>false)=c.isAgg:=by
 obtain⟨d,hd,hb⟩:=h.desc;rw[hd];cases c<;>cases d<;>simp_all[fM,Ty.isAgg]
theorem aGA{t:TypeId}{c:Ty}(h:aEi P T t c)(w:World):(isAgg t).run P w= .ok c.isAgg w:=by
 have ha:=h.agg;obtain⟨d,hd,hb⟩:=h.desc;rw[hd] at ha;rw[← ha];simp[isAgg,underlying,hd];split<;>simp_all
theorem dQ{t:TypeId}{c:Ty}(h:aEi P T t c)(w:World):(sizeOf t).run P w= .ok c.cells w:=by
 obtain⟨i,hi,hs,_,_⟩:=h.info;simp[sizeOf,typeInfo,hi,hs]
theorem bB{t:TypeId}{d:TypeDesc}(h:P.underlying t=some d)(w:World):(underlying t).run P w= .ok d w:=by
 simp[underlying,h]
theorem tA{t:TypeId}{c:Ty}(h:aEi P T t c)(f:c.okB=true)(w:World):(zeroValue t).run P w= .ok (kY c) w:=by
 obtain⟨i,hi,_,g,_⟩:=h.info;simp[zeroValue,typeInfo,hi,g f]
end
theorem eG(w:World)(S:Nat→Prop):∀c:Ty,c.okB=true→bC w S c c.zero (cF c)
 | .bool,_=>rfl
 | .nilp,_=>rfl
 | .nilf,_=>rfl
 | .u k,h=>⟨rfl,by grind[Ty.okB],by rw[bFl (by grind[Ty.okB])]; have:=aEZ k; show ((0:Nat):Int)≤_; omega⟩
 | .i k,h=>⟨rfl,by grind[Ty.okB],by cases k<;>simp[IntKind.min,IntKind.max,IntKind.signed,IntKind.bits,Ty.zero]⟩
 | .str,_=>⟨⟨#[]⟩,rfl,rfl,Nat.zero_le _⟩
 | .sl t,_=>⟨none,0,0,rfl,rfl,Nat.le_refl _,by omega,.inl rfl⟩
 | .unit,_=>rfl
 | .pair a b,h=>by
  simp only[Ty.okB,Bool.and_eq_true] at h;exact⟨cF a,cF b,rfl,eG w S a h.1,eG w S b h.2⟩
 | .arr n t,h=>by
  refine⟨by simp[Ty.zero],List.replicate n (cF t),rfl,by simp[Ty.zero],fun i f g=>?_⟩;simp only[Ty.zero,List.getElem_replicate];exact eG w S t (by grind[Ty.okB])
 | .expr,_=>RepEx.mk 0 ⟨#[]⟩ [] none 0 0 (fun _=>[]) (by simp[IntKind.min,IntKind.max,IntKind.signed,IntKind.bits]) (Nat.zero_le _) rfl (Nat.le_refl _) (Nat.zero_le _) (fun i h=>by cases h) (.inl rfl)
theorem aI1(w:World)(S:Nat→Prop)(c:Ty)(h:c.okB=true):cZ w S c c.zero (kY c):=by
 have f:=eG w S c h;unfold cZ kY;split
 ·simp_all
 ·have hl:=bC.length _ _ _ f;cases c<;>simp_all[Ty.isAgg,cF]
theorem aZ.toV{c:Ctx}{w:World}{t:Ty}{x:t.den}{v:Value}(h:aZ c w (.val t x) v):cZ w c.S t x v:=by
 obtain⟨f,g,h3⟩:=h;exact cZ.of_cells g h3 f
theorem aZ.ofV{c:Ctx}{w:World}{t:Ty}{x:t.den}{v:Value}(h:cZ w c.S t x v):aZ c w (.val t x) v:=by
 refine⟨h.cells,?_,?_⟩
 ·intro ha; unfold cZ at h; rw[if_pos (show t.isAgg=true from ha)] at h; grind
 ·intro ha f hv;unfold cZ at h;rw[if_neg (by simpa using (show t.isAgg=false from ha))] at h;have:=bC.one t x _ h v (by simp);subst hv; exact this
theorem bDX{cs:Array Value}{pre ds post:List Value}(h:cs.toList=pre++ds++post):(cs.extract pre.length (pre.length+ds.length)).toList=ds:=by
 simp_all
theorem aI2{cs:Array Value}{pre ds post:List Value}(h:cs.toList=pre++ds++post)(j:Nat){v:Value}(f:ds[j]? = some v):cs[pre.length+j]? = some v:=by
 rw[← Array.getElem?_toList,h,List.append_assoc,List.getElem?_append_right (by omega)];grind
section
variable {P:Program} {T:Tab}
theorem aE1{t:TypeId}{c:Ty}(f:aEi P T t c){cs:Array Value}{pre ds post:List Value}(g:cs.toList=pre++ds++post){w:World}{S:Nat→Prop}{x:c.den}(hd:bC w S c x ds)(w':World) :
  ∃v,(part t cs pre.length).run P w'= .ok v w'∧cZ w S c x v:=by
 have hl:=bC.length _ _ _ hd;by_cases ha:c.isAgg=true
 ·refine⟨.agg (cs.extract pre.length (pre.length+c.cells)),?_,?_⟩
  ·simp[part,aGA f,ha,dQ f,Result.andThen]
  ·unfold cZ;simp_all
 ·have q:c.cells=1:=by cases c<;>simp_all[Ty.isAgg,Ty.cells]
  obtain⟨v,rfl⟩:∃v,ds= [v]:=by
   match ds,hl.trans q with
   | [v],_=>simp_all
  refine⟨v,?_,?_⟩
  ·have:=aI2 g 0 (v:=v) rfl;simp only[Nat.add_zero] at this;simp[part,aGA f,ha,this,Result.andThen]
  simp_all[cZ,if_neg]
def Ty.cmpB:Ty→Bool
 | .bool=>true
 | .u _=>true
 | .i _=>true
 | .str=>true
 | .unit=>true
 | .pair a b=>a.cmpB&&b.cmpB
 | .arr _ t=>t.cmpB
 | _=>false
def Ty.eqb:(t:Ty)→t.den→t.den→Bool
 | .bool,x,y=>x == y
 | .u _,x,y=>decide (x=y)
 | .i _,x,y=>decide (x=y)
 | .str,x,y=>decide (x=y)
 | .unit,_,_=>true
 | .pair a b,x,y=>a.eqb x.1 y.1&&b.eqb x.2 y.2
 | .arr _ t,x,y=>(List.zipWith t.eqb x y).all id
 | _,_,_=>false
def Ty.deep:Ty→Nat
 | .pair a b=>max (a.deep+1) b.deep
 | .arr _ t=>t.deep+1
 | _=>0
theorem aTT{a b:ByteArray}(h:aI a=aI b):a=b:=by
 obtain⟨⟨a⟩⟩:=a;simp_all[aI,Function.Injective,UInt8.toNat_inj,List.map_inj_right]
theorem bNb(a b:ByteArray):(a.toList == b.toList)=decide (aI a=aI b):=by
 rw[Bool.eq_iff_iff,ByteArray.toList_eq,ByteArray.toList_eq];simp only[beq_iff_eq,decide_eq_true_eq];grind[aI,aTT]
theorem aMR(hT:iF P T)(d:Nat){w:World}{S:Nat→Prop}(ih:∀(t:TypeId) (c:Ty) (x y:c.den) (v u:Value) (w':World),T t=some c→c.cmpB=true→c.deep≤d→cZ w S c x v→cZ w S c y u→(Op.equalIn (d+1) t v u).run P w'= .ok (c.eqb x y) w')
  {xs ys:Array Value}:∀(Z:List Field) (off:Nat) (c:Ty) (x y:c.den) (pre ds q z post g:List Value) (w':World),dB T Z off c=true→c.cmpB=true→c.deep≤d+1 →
   xs.toList=pre++ds++post→pre.length=off→bC w S c x ds→ys.toList=q++z++g→q.length=off→bC w S c y z →
   (Op.eqFields (d+1) xs ys Z).run P w'= .ok (c.eqb x y) w'
 | [],off,c,x,y,pre,ds,q,z,post,g,w',Y,hc,N,hx,hp,U,hy,O,I=>by
  cases c<;>simp[dB] at Y
  rfl
 | f::Z,off,c,x,y,pre,ds,q,z,post,g,w',Y,hc,N,hx,hp,U,hy,O,I=>by
  cases c<;>simp only[dB,Bool.false_eq_true] at Y
  case pair a b =>
   simp only[Bool.and_eq_true,decide_eq_true_eq] at Y;obtain⟨⟨⟨⟨h1,h2⟩,h3⟩,h4⟩,h5⟩:=Y;simp only[Ty.cmpB,Bool.and_eq_true] at hc;simp only[Ty.deep] at N;obtain⟨c1,c2,rfl,r1,r2⟩:=U;obtain⟨J,L,rfl,W,r2'⟩:=I;subst h2;have hl:=bC.length _ _ _ r1;have hl':=bC.length _ _ _ W;obtain⟨va,e1,q1⟩:=aE1 (hT _ _ h1) (cs:=xs) (pre:=pre) (ds:=c1) (post:=c2++post) (by simp_all) r1 w';obtain⟨vb,e2,q2⟩:=aE1 (hT _ _ h1) (cs:=ys) (pre:=q) (ds:=J) (post:=L++g) (by simp_all) W w';have e3:=ih f.type a x.1 y.1 va vb w' h1 hc.1 (by omega) q1 q2;rw[hp] at e1;rw[O] at e2;have rec_:=aMR hT d ih (xs:=xs) (ys:=ys) Z (f.offset+a.cells) b x.2 y.2 (pre++c1) c2 (q++J) L post g w' h5 hc.2 (by omega) (by simp_all) (by simp_all) r2 (by simp_all) (by simp_all) r2';simp only[Op.eqFields,Sem.run_ite,Sem.run_bind,h3,ne_eq,not_false_eq_true,if_true,e1,e2,e3,Result.andThen_ok];cases hq:a.eqb x.1 y.1
   all_goals simp_all[Ty.eqb]
def aMS(d:Nat)(e:TypeId)(n:Nat)(xs ys:Array Value):List Nat→Sem Bool
 | []=>pure true
 | i::r=>do
  let a ← part e xs (i*n)
  let b ← part e ys (i*n)
  let q ← Op.equalIn d e a b
  if (!q)=true then pure false else aMS d e n xs ys r
theorem run_equalIn_array(d:Nat)(t e:TypeId)(len n:Nat)(xs ys:Array Value)(w:World)(ht:P.underlying t=some (.array len e))(z:(sizeOf e).run P w= .ok n w) :
  (Op.equalIn (d+1) t (.agg xs) (.agg ys)).run P w=(aMS d e n xs ys (List.range' 0 len)).run P w:=by
 simp only[Op.equalIn,Sem.run_bind,bB ht,Result.andThen_ok,z];simp only[Std.Legacy.Range.forIn_eq_forIn_range',Std.Legacy.Range.size];simp only[Nat.sub_zero,Nat.add_sub_cancel,Nat.div_one];generalize List.range' 0 len=L;clear ht z
 induction L generalizing w with
 | nil=>rfl
 | cons i r O =>
  simp only[List.forIn_cons,aMS,Sem.run_bind];generalize (part e xs (i*n)).run P w=r1;cases r1 with
  | ok a f =>
   simp only[Result.andThen_ok];generalize (part e ys (i*n)).run P f=I;cases I with
   | ok b g =>
    simp only[Result.andThen_ok];generalize (Op.equalIn d e a b).run P g=J;cases J with
    | ok q N =>
     simp_all
    | halt x N=>rfl
   | halt x g=>rfl
  | halt x f=>rfl
theorem kZ{t:Ty}{css:List (List Value)}(hl:∀i (h:i<css.length),(css[i]).length=t.cells):∀(i:Nat) (h:i<css.length),∃pre post,css.flatten=pre++css[i]++post∧pre.length=i*t.cells
 | 0,h=>by
  cases css with
  | nil=>simp at h
  | cons c r=>simp_all
 | i+1,h=>by
  cases css with
  | nil=>simp at h
  | cons c r =>
   obtain⟨pre,post,f,q⟩:=kZ (t:=t) (css:=r) (fun j g=>by have:=hl (j+1) (by simp_all); simp_all) i (by simp_all);refine⟨c++pre,post,by simp[f],?_⟩;have h0:=hl 0 (by simp);grind
theorem aQP(J:iF P T)(d:Nat){w:World}{S:Nat→Prop}{e:TypeId}{t:Ty}(he:T e=some t)
  (W:∀(x y:t.den) (v u:Value) (w':World),cZ w S t x v→cZ w S t y u→(Op.equalIn d e v u).run P w'= .ok (t.eqb x y) w')
  {xs ys:Array Value}:∀(k i:Nat) (X Y:List t.den) (pre g:List Value) (css f:List (List Value)) (w':World),
   X.length=k→Y.length=k→css.length=k→f.length=k→(∀j (h:j<X.length) (h':j<css.length),bC w S t X[j] css[j])→(∀j (h:j<Y.length) (h':j<f.length),bC w S t Y[j] f[j]) →
   xs.toList=pre++css.flatten→ys.toList=g++f.flatten→pre.length=i*t.cells→g.length=i*t.cells →
   (aMS d e t.cells xs ys (List.range' i k)).run P w'= .ok ((List.zipWith t.eqb X Y).all id) w'
 | 0,i,X,Y,_,_,_,_,w',hX,N,_,_,_,_,_,_,_,_=>by
  obtain rfl:=List.eq_nil_of_length_eq_zero hX;rfl
 | k+1,i,X,Y,pre,g,css,f,w',hX,N,hc,I,U,z,hx,hy,hp,L=>by
  match X,Y,css,f,hX,N,hc,I with
  | x::X,y::Y,c::cs,c'::cs',hX,N,hc,I =>
   have r0:=U 0 (by simp) (by simp);have q:=z 0 (by simp) (by simp);simp only[List.getElem_cons_zero] at r0 q;obtain⟨va,e1,q1⟩:=aE1 (J _ _ he) (cs:=xs) (pre:=pre) (ds:=c) (post:=cs.flatten) (by simp_all) r0 w';obtain⟨vb,O,q2⟩:=aE1 (J _ _ he) (cs:=ys) (pre:=g) (ds:=c') (post:=cs'.flatten) (by simp_all) q w';rw[hp] at e1;rw[L] at O;have l1:=bC.length _ _ _ r0;have l2:=bC.length _ _ _ q;have e3:=W x y va vb w' q1 q2;have Z:=aQP J d he W (xs:=xs) (ys:=ys) k (i+1) X Y (pre++c) (g++c') cs cs' w' (by simp_all) (by simp_all) (by simp_all) (by simp_all)
    (fun j h h'=>by have:=U (j+1) (by simp_all) (by simp_all); simp_all) (fun j h h'=>by have:=z (j+1) (by simp_all) (by simp_all); simp_all)
    (by simp_all) (by simp_all) (by grind) (by grind)
   simp only[List.range'_succ,aMS,Sem.run_bind,e1,O,e3,Result.andThen_ok,Sem.run_ite];cases hq:t.eqb x y
   all_goals simp_all
theorem aTU(z:iF P T){w:World}{S:Nat→Prop}:∀(d:Nat) (t:TypeId) (c:Ty) (x y:c.den) (v u:Value) (w':World),T t=some c→c.cmpB=true→c.deep≤d →
  cZ w S c x v→cZ w S c y u→(Op.equalIn (d+1) t v u).run P w'= .ok (c.eqb x y) w':=by
 intro d
 induction d with
 | zero =>
  intro t c x y v u w' ht hc hd hx hy;obtain⟨ds,g,hb⟩:=(z t c ht).desc;cases c<;>simp only[Ty.cmpB,Bool.false_eq_true] at hc<;>(try (simp only[Ty.deep] at hd; omega))
  case bool=>simp only[cZ,Ty.isAgg,bC,Bool.false_eq_true,if_false] at hx hy; cases ds<;>simp[fM] at hb; simp at hx hy; subst hx; subst hy; simp[Op.equalIn,bB g,Ty.eqb]
  case u k=>simp only[cZ,Ty.isAgg,bC,Bool.false_eq_true,if_false] at hx hy; cases ds<;>simp[fM] at hb; obtain⟨hx,_⟩:=hx; obtain⟨hy,_⟩:=hy; simp at hx hy; subst hx; subst hy; simp[Op.equalIn,bB g,Ty.eqb]; grind
  case i k=>simp only[cZ,Ty.isAgg,bC,Bool.false_eq_true,if_false] at hx hy; cases ds<;>simp[fM] at hb; obtain⟨hx,_⟩:=hx; obtain⟨hy,_⟩:=hy; simp at hx hy; subst hx; subst hy; simp[Op.equalIn,bB g,Ty.eqb]; rfl
  case str =>
   simp only[cZ,Ty.isAgg,bC,Bool.false_eq_true,if_false] at hx hy; grind[fM,run_equalIn_string,Ty.eqb,bNb]
  case unit =>
   simp only[cZ,Ty.isAgg,if_true] at hx hy;obtain⟨a,rfl,_⟩:=hx; obtain⟨b,rfl,_⟩:=hy;cases ds<;>simp[fM] at hb
   rename_i I;have q:P.fieldsOf t=I:=(by simp[Program.fieldsOf,g]);rw[run_equalIn_struct w' 0 t a b (by simp_all) (z t _ ht).held,q];cases Y:I.toList with
   | nil=>rfl
   | cons f r=>grind[dB]
 | succ d ih =>
  intro t c x y v u w' ht hc hd hx hy;obtain⟨ds,g,hb⟩:=(z t c ht).desc;cases c<;>simp only[Ty.cmpB,Bool.false_eq_true] at hc
  case bool=>simp only[cZ,Ty.isAgg,bC,Bool.false_eq_true,if_false] at hx hy; cases ds<;>simp[fM] at hb; simp at hx hy; subst hx; subst hy; simp[Op.equalIn,bB g,Ty.eqb]
  case u k=>simp only[cZ,Ty.isAgg,bC,Bool.false_eq_true,if_false] at hx hy; cases ds<;>simp[fM] at hb; obtain⟨hx,_⟩:=hx; obtain⟨hy,_⟩:=hy; simp at hx hy; subst hx; subst hy; simp[Op.equalIn,bB g,Ty.eqb]; grind
  case i k=>simp only[cZ,Ty.isAgg,bC,Bool.false_eq_true,if_false] at hx hy; cases ds<;>simp[fM] at hb; obtain⟨hx,_⟩:=hx; obtain⟨hy,_⟩:=hy; simp at hx hy; subst hx; subst hy; simp[Op.equalIn,bB g,Ty.eqb]; rfl
  case str =>
   simp only[cZ,Ty.isAgg,bC,Bool.false_eq_true,if_false] at hx hy; grind[fM,run_equalIn_string,Ty.eqb,bNb]
  case unit =>
   simp only[cZ,Ty.isAgg,if_true] at hx hy;obtain⟨a,rfl,_⟩:=hx; obtain⟨b,rfl,_⟩:=hy;cases ds<;>simp[fM] at hb
   rename_i I;have q:P.fieldsOf t=I:=(by simp[Program.fieldsOf,g]);rw[run_equalIn_struct w' _ t a b (by simp_all) (z t _ ht).held,q];cases Y:I.toList with
   | nil=>rfl
   | cons f r=>grind[dB]
  case pair a b =>
   simp only[cZ,Ty.isAgg,if_true] at hx hy;obtain⟨N,rfl,hx⟩:=hx; obtain⟨L,rfl,hy⟩:=hy;cases ds<;>simp[fM] at hb
   rename_i I;have q:P.fieldsOf t=I:=(by simp[Program.fieldsOf,g]);rw[run_equalIn_struct w' _ t N L (by simp_all) (z t _ ht).held,q];exact aMR z d ih I.toList 0 (.pair a b) x y [] N.toList [] L.toList [] [] w' hb (by grind[Ty.cmpB]) hd (by simp) rfl hx (by simp) rfl hy
  case arr n c =>
   simp only[cZ,Ty.isAgg,if_true] at hx hy;obtain⟨N,rfl,hx⟩:=hx; obtain⟨L,rfl,hy⟩:=hy;cases ds<;>simp[fM] at hb
   rename_i n' e;obtain⟨⟨⟨rfl,he⟩,_⟩,_⟩:=hb;obtain⟨lx,O,hcx,U,Z⟩:=hx;obtain⟨ly,J,hcy,hly,W⟩:=hy;rw[run_equalIn_array _ t e n c.cells N L w' g (dQ (z _ _ he) w')];simp only[Ty.deep] at hd;exact aQP z (d+1) he (fun x y v u w' h1 h2=>ih e c x y v u w' he hc (by omega) h1 h2) n 0 x y [] [] O J w' lx ly (U.trans lx) (hly.trans ly) Z W (by simp_all) (by simp_all) (by simp) (by simp)
theorem aHj(f:iF P T){w:World}{S:Nat→Prop}{t:TypeId}{c:Ty}{x y:c.den}{v u:Value}(w':World)(ht:T t=some c)(hc:c.cmpB=true)(hd:c.deep≤100)(hx:cZ w S c x v)(hy:cZ w S c y u) :
  (Op.equal t v u).run P w'= .ok (c.eqb x y) w':=aTU f 9999 t c x y v u w' ht hc (by omega) hx hy
end
end Go.Vc
namespace Go.Vc
open Go.RowKit
def tB:Value→AV
 | .bool b=>.val .bool b
 | .int k n=>if k.signed then .val (.i k) n else .val (.u k) n.toNat
 | .string s=>.val .str (aI s)
 | .slice none 0 0=>.nilS
 | .pointer none=>.nilP
 | .nilIface=>.val .nili ()
 | _=>.junk
def aMT:Value→AV
 | .agg f=>.flat (f.toList.map tB)
 | v=>tB v
def aFH:Value→Bool
 | .int k n=>decide (k.min≤n)&&decide (n≤k.max)
 | .string s=>decide (s.size≤maxLen)
 | .slice none 0 0=>true
 | .pointer none=>true
 | .nilIface=>true
 | .bool _=>true
 | _=>false
def bDY:Value→Bool
 | .agg f=>f.toList.all aFH
 | .func _ _ _=>true
 | .map none=>true
 | v=>aFH v
theorem aYh{c:Ctx}{w:World}{v:Value}(h:aFH v=true):xQ c w (tB v) v:=by
 unfold aFH at h;split at h
 ·simp only[Bool.and_eq_true,decide_eq_true_eq] at h;simp only[tB];split
  ·rename_i hs; exact aCl hs h
  ·rename_i k n hs;have hs:k.signed=false:=(by simp_all);have g:0≤n:=(by grind[IntKind.signed,IntKind.min]);have hv:=aKL (c:=c) (w:=w) (n:=n.toNat) hs (aQN hs (by omega));rw[show ((n.toNat:Nat):Int)=n from by omega] at hv;exact hv
 ·exact bKR (by simp_all)
 ·exact⟨rfl,(fun h=>by cases h),(fun _ f=>by simp)⟩
 ·exact⟨rfl,(fun h=>by cases h),(fun _ f=>by simp)⟩
 ·exact⟨rfl,(fun h=>by cases h),(fun _ f=>by simp)⟩
 ·exact aE0 _
 grind
theorem aYi{c:Ctx}{w:World}:∀ {l:List Value},l.all aFH=true→jY c w (l.map tB) l
 | [],_=>rfl
 | v::r,h=>by
  simp only[List.all_cons,Bool.and_eq_true] at h;have hv:=aYh (c:=c) (w:=w) h.1;refine⟨[v],r,rfl,?_,aYi h.2⟩;have f:=hv.1;have:v.cells.toList= [v]:=by
   have hb:=h.1;cases v<;>first|rfl|grind[aFH]
  simp_all
theorem bHZ{c:Ctx}{w:World}{v:Value}(h:bDY v=true)(O:∀f a b,v≠ .func f a b):aZ c w (aMT v) v:=by
 unfold bDY at h;split at h
 ·rename_i N;exact⟨by simpa [aMT,aN,Value.cells] using aYi h,fun _=>⟨_,rfl⟩,fun h=>by cases h⟩
 ·simp_all
 ·trivial
 ·rename_i L I J;have hv:=aYh (c:=c) (w:=w) h;have e:aMT v=tB v:=by cases v<;>first|rfl|simp_all
  rw[e];have z:tB v≠ .junk∧tB v≠ .undef∧ ∀vs,tB v≠ .tup vs:=by
   cases v<;>first|grind[tB]|(simp[aFH] at h; done)|skip
   all_goals grind[tB,aFH]
  obtain⟨g,q,h3⟩:=z;generalize tB v=u at hv g q h3;cases u<;>first|exact absurd rfl g|exact absurd rfl q|exact absurd rfl (h3 _)|exact hv
def parse:(t:Ty)→List AV→Option (t.den×List AV)
 | .bool,.val .bool b::r=>some (b,r)
 | .u k,.val (.u f) n::r=>if f=k then some (n,r) else none
 | .i k,.val (.i f) n::r=>if f=k then some (n,r) else none
 | .str,.val .str s::r=>some (s,r)
 | .sl _,.nilS::r=>some ([],r)
 | .unit,l=>some ((),l)
 | .pair a b,l=>match parse a l with
  | some (x,r)=>match parse b r with
   | some (y,g)=>some ((x,y),g)
   | none=>none
  | none=>none
 | _,_=>none
theorem bBs{c:Ctx}{w:World}:∀(t:Ty) (l:List AV) (x:t.den) (r:List AV) (cs:List Value),parse t l=some (x,r)→jY c w l cs→ ∃c1 f,cs=c1++f∧bC w c.S t x c1∧jY c w r f:=by
 intro t
 induction t with
 | bool =>
  intro l x r cs h g;cases l with
  | nil=>simp[parse] at h
  | cons v l =>
   cases v<;>first|grind[parse]|skip
   rename_i I y;cases I<;>simp[parse] at h
   obtain⟨rfl,rfl⟩:=h;obtain⟨c1,f,z,q,h3⟩:=g;exact⟨c1,f,z,q,h3⟩
 | str =>
  intro l x r cs h g;cases l with
  | nil=>simp[parse] at h
  | cons v l =>
   cases v<;>first|grind[parse]|skip
   rename_i I y;cases I<;>simp[parse] at h
   obtain⟨rfl,rfl⟩:=h;obtain⟨c1,f,z,q,h3⟩:=g;exact⟨c1,f,z,q,h3⟩
 | u k =>
  intro l x r cs h g;cases l with
  | nil=>simp[parse] at h
  | cons v l =>
   cases v<;>first|grind[parse]|skip
   rename_i I y;cases I<;>simp[parse] at h
   obtain⟨rfl,rfl,rfl⟩:=h;obtain⟨c1,f,z,q,h3⟩:=g;exact⟨c1,f,z,q,h3⟩
 | i k =>
  intro l x r cs h g;cases l with
  | nil=>simp[parse] at h
  | cons v l =>
   cases v<;>first|grind[parse]|skip
   rename_i I y;cases I<;>simp[parse] at h
   obtain⟨rfl,rfl,rfl⟩:=h;obtain⟨c1,f,z,q,h3⟩:=g;exact⟨c1,f,z,q,h3⟩
 | sl t ih =>
  intro l x r cs h g;cases l with
  | nil=>simp[parse] at h
  | cons v l =>
   cases v<;>first|grind[parse]|skip
   simp[parse] at h;obtain⟨rfl,rfl⟩:=h;obtain⟨c1,f,z,q,h3⟩:=g;simp only[aN] at q;exact⟨c1,f,z,⟨none,0,0,q,rfl,Nat.le_refl _,Nat.zero_le _,.inl rfl⟩,h3⟩
 | unit =>
  intro l x r cs h g;simp[parse] at h;subst h;exact⟨[],cs,rfl,rfl,g⟩
 | pair a b J L =>
  intro l x r cs h g;simp only[parse] at h;split at h
  ·rename_i Z N ha;split at h
   ·rename_i yb rb hb;cases h;obtain⟨c1,f,e1,r1,U⟩:=J l Z N cs ha g;obtain⟨O,W,e2,r2,Y⟩:=L N yb _ f hb U;exact⟨c1++O,W,by simp_all,⟨c1,O,rfl,r1,r2⟩,Y⟩
   grind
  grind
 | arr _ _ _=>grind[parse]
 | expr=>grind[parse]
 | rp _ _=>grind[parse]
 | clo _ _ _=>grind[parse]
 | ifc _ _ _=>grind[parse]
 | nili=>grind[parse]
 | nilp=>grind[parse]
 | nilf=>grind[parse]
def aHk(t:Ty)(l:List AV):Option t.den:=match parse t l with
 | some (x,[])=>some x
 | _=>none
def bH0:AV→Option Int
 | .val (.i .i64) n=>some n
 | _=>none
def bNc:AV→Option (List Nat)
 | .val .str s=>some s
 | _=>none
def bNd(h:List Obj):AV→Option (List Ex)
 | .val (.sl .expr) l=>some l
 | .full .expr l=>some l
 | .nilS=>some []
 | .own i=>rowOf h i .expr
 | _=>none
def asX(h:List Obj)(a b v:AV):Option Ex:=match bH0 a,bNc b,bNd h v with
 | some x,some y,some z=>some (.mk x y z)
 | _,_,_=>none
def AV.as(h:List Obj):(t:Ty)→AV→Option t.den
 | t,.val f x=>if e:f=t then some (e▸x) else none
 | .sl t,.nilS=>some []
 | .sl t,.full f z=>if e:f=t then some (e▸z) else none
 | .sl t,.own i=>rowOf h i t
 | .pair a r,.agg (v::vs)=>match AV.as h a v,AV.as h r (.agg vs) with
  | some x,some y=>some (x,y)
  | _,_=>none
 | .unit,.agg []=>some ()
 | .expr,.agg [a,b,v]=>asX h a b v
 | .pair a r,.flat l=>aHk (.pair a r) l
 | .unit,.flat l=>aHk .unit l
 | .rp t,.roa f x=>if e:f=t then some (e▸x) else none
 | .rp t,.ptr i []=>match h[i]? with
  | some (.box _ v)=>AV.as h t v
  | _=>none
 | .clo g t,.fn q [] l2=>if q=g then AV.as h t (.agg (l2.map fun i=>.ptr i [])) else none
 | _,_=>none
@[simp] theorem bNe{h:List Obj}{t:Ty}{x:t.den}:AV.as h t (.val t x)=some x:=by cases t<;>simp[AV.as]
@[simp] theorem bKW{h:List Obj}{t:Ty}:AV.as h (.sl t) .nilS=some []:=by rfl
@[simp] theorem bKX{h:List Obj}{t:Ty}{xs:List t.den}:AV.as h (.sl t) (.full t xs)=some xs:=by simp[AV.as]
@[simp] theorem bNf{h:List Obj}{t:Ty}{i:Nat}:AV.as h (.sl t) (.own i)=rowOf h i t:=by rfl
@[simp] theorem bKY{h:List Obj}:AV.as h .unit (.agg [])=some ():=by rfl
@[simp] theorem aY9{h:List Obj}{a r:Ty}{v:AV}{vs:List AV}:AV.as h (.pair a r) (.agg (v::vs))=match AV.as h a v,AV.as h r (.agg vs) with|some x,some y=>some (x,y)|_,_=>none:=by rfl
@[simp] theorem aZa{h:List Obj}{a r:Ty}{l:List AV}:AV.as h (.pair a r) (.flat l)=aHk (.pair a r) l:=by rfl
@[simp] theorem bNg{h:List Obj}{t:Ty}{x:t.den}:AV.as h (.rp t) (.roa t x)=some x:=by simp[AV.as]
@[simp] theorem bDZ{h:List Obj}{t:Ty}{i:Nat}:AV.as h (.rp t) (.ptr i [])=match h[i]? with|some (.box _ v)=>AV.as h t v|_=>none:=by rfl
@[simp] theorem bOa{h:List Obj}{t:Ty}{g:FuncId}{l2:List Nat}:AV.as h (.clo g t) (.fn g [] l2)=AV.as h t (.agg (l2.map fun i=>.ptr i [])):=by simp[AV.as]
@[simp] theorem aZb{h:List Obj}{a b v:AV}:AV.as h .expr (.agg [a,b,v])=asX h a b v:=by rfl
@[simp] theorem aTV{h:List Obj}{l:List AV}:AV.as h .unit (.flat l)=aHk .unit l:=by rfl
def AV.tags1:AV→List Nat
 | .own i=>[i]
 | _=>[]
def AV.tags:AV→List Nat
 | .own i=>[i]
 | .agg f=>f.flatMap AV.tags1
 | _=>[]
def aFI(c:Ctx)(h:List Obj)(b:Nat):Prop:=c.S b∨ ∃i o,h[i]? = some o∧dP c i o b
theorem aBI.toC{c:Ctx}{w:World}{e:TypeId}{t:Ty}{xs:List t.den}{v:Value}{S':Nat→Prop}(h:aBI c w e t xs v)(hs:∀b,c.S b→S' b)(hb:∀b,aW v=some b→S' b):bC w S' (.sl t) xs [v]:=by
 obtain⟨Y,z,_,f,J,hl,W⟩:=h;obtain⟨O,hv⟩:=z;rcases hv with⟨rfl,h0⟩|⟨g,N,q,rfl,_,hheap,L,I,Z,htake⟩
 ·refine⟨none,0,0,rfl,?_,Nat.le_refl _,Nat.zero_le _,.inl ?_⟩
  all_goals simp_all
 ·refine⟨some ⟨g,0,none⟩,xs.length,N,rfl,rfl,L,I,.inr ⟨g,0,rfl,hb g rfl,fun i hi=>?_⟩⟩;refine⟨f[i],bC.keep hs (.refl _ _) t _ _ (W i hi (by omega)),?_⟩;obtain⟨pre,post,hf,hp⟩:=kZ (t:=t) (css:=f) (fun j U=>bC.length _ _ _ (W j (by omega) U)) i (by omega);intro j v U;have hcell:q[i*t.cells+j]? = some v:=by
   rw[← Array.getElem?_toList];have h1:(q.toList.take (xs.length*t.cells))[i*t.cells+j]? = some v:=by
    rw[htake,J,hf,← hp,List.append_assoc,List.getElem?_append_right (by omega),Nat.add_sub_cancel_left];grind
   grind
  simp_all[World.cell?,Nat.zero_add]
theorem kT.length{w:World}{S:Nat→Prop}:∀(t:Ty) (m:Mk) (x:t.den) (cs:List Value) (B:List Nat),kT w S t m x cs B→cs.length=t.cells:=by
 intro t
 induction t with
 | sl t U =>
  intro m Z cs B f;cases m with
  | no=>exact bC.length _ _ _ f.1
  | sl e m=>obtain⟨v,I,O,q,_⟩:=f; rw[q]; rfl
  | pair a b=>exact f.elim
 | pair a r g z =>
  intro m x cs B f;cases m with
  | no=>exact bC.length _ _ _ f.1
  | sl e m=>exact f.elim
  | pair W L =>
   obtain⟨c1,c2,B1,N,q,Y,h3,J⟩:=f;rw[q,List.length_append,g _ _ _ _ h3,z _ _ _ _ J]; rfl
 | _ =>
  intro m x cs B f;cases m<;>first|exact bC.length _ _ _ f.1|exact f.elim
theorem bBt{w:World}{S':Nat→Prop}{e:TypeId}{t:Ty}{xs:List t.den}{v:Value}{css:List (List Value)}(q:w.ownsRow 0 e t.cells v xs.length css.flatten)(hl:css.length=xs.length)(J:∀i (U:i<css.length),(css[i]).length=t.cells)
  (W:∀i (h:i<xs.length) (U:i<css.length),bC w S' t xs[i] css[i]) (hb:∀b,aW v=some b→S' b):bC w S' (.sl t) xs [v]:=by
 obtain⟨N,hv⟩:=q;rcases hv with⟨rfl,h0⟩|⟨g,L,f,rfl,_,hheap,I,z,Y,htake⟩
 ·refine⟨none,0,0,rfl,?_,Nat.le_refl _,Nat.zero_le _,.inl ?_⟩
  all_goals simp_all
 ·refine⟨some ⟨g,0,none⟩,xs.length,L,rfl,rfl,I,z,.inr ⟨g,0,rfl,hb g rfl,fun i hi=>?_⟩⟩;refine⟨css[i],W i hi (by omega),?_⟩;obtain⟨pre,post,Z,hp⟩:=kZ (t:=t) (css:=css) (fun j O=>J j O) i (by omega);intro j v O;have hcell:f[i*t.cells+j]? = some v:=by
   rw[← Array.getElem?_toList];have U:(f.toList.take (xs.length*t.cells))[i*t.cells+j]? = some v:=by
    rw[htake,Z,← hp,List.append_assoc,List.getElem?_append_right (by omega),Nat.add_sub_cancel_left];grind
   grind
  simp_all[World.cell?,Nat.zero_add]
theorem kT.toC{w:World}{S S':Nat→Prop}(hs:∀b,S b→S' b):∀(t:Ty) (m:Mk) (x:t.den) (cs:List Value) (B:List Nat),(∀b∈B,S' b)→kT w S t m x cs B→bC w S' t x cs:=by
 intro t
 induction t with
 | sl t Z =>
  intro m xs cs B g f;cases m with
  | no=>exact bC.keep hs (.refl _ _) _ _ _ f.1
  | sl e m =>
   obtain⟨v,U,W,J,I,h3,N,Y,O⟩:=f;subst J; subst Y;refine bBt I h3 (fun i q=>kT.length _ _ _ _ _ (O i (by omega) q (by omega))) (fun i q1 q2=>Z m _ _ (W[i]'(by omega)) (fun b hb=>g b ?_) (O i q1 q2 (by omega))) (fun b hb=>g b (by simp[hdB,hb]));grind[List.mem_append_right,List.mem_flatten,List.getElem_mem]
  | pair a b=>exact f.elim
 | pair a r z L =>
  intro m x cs B g f;cases m with
  | no=>exact bC.keep hs (.refl _ _) _ _ _ f.1
  | sl e m=>exact f.elim
  | pair ma mr =>
   obtain⟨c1,c2,B1,B2,J,I,h3,N⟩:=f;subst I;exact⟨c1,c2,J,z _ _ _ _ (fun b hb=>g b (List.mem_append_left _ hb)) h3,L _ _ _ _ (fun b hb=>g b (List.mem_append_right _ hb)) N⟩
 | _ =>
  intro m x cs B g f;cases m<;>first|exact bC.keep hs (.refl _ _) _ _ _ f.1|exact f.elim
theorem bBu{M:Perm}{w0:World}{c:Ctx}{h:List Obj}{w:World}(z:Good M w0 c h w){i:Nat}{t:Ty}{xs:List t.den}(f:rowOf h i t=some xs):bC w (aFI c h) (.sl t) xs [c.hd i]:=by
 unfold rowOf at f;split at f
 ·rename_i e J I g;split at f
  ·rename_i q; subst q; cases f;have:=z.objs i _ g;exact aBI.toC this (fun b hb=>.inl hb) (fun b hb=>.inr ⟨i,_,g,hb⟩)
  grind
 ·rename_i J I g;split at f
  ·rename_i q; subst q; cases f;have:=z.objs i _ g;exact bC.keep (fun b hb=>.inl hb) (.refl _ _) _ _ _ this
  grind
 ·rename_i e m J I g;split at f
  ·rename_i q; subst q; cases f;obtain⟨B,L,_,h3⟩:=z.objs i _ g;exact kT.toC (fun b hb=>.inl hb) _ _ _ _ _ (fun b hb=>.inr ⟨i,_,g,h3 b hb⟩) L
  grind
 grind
theorem bFs{c:Ctx}{w:World}{h:List Obj}{S':Nat→Prop}(W:∀b,c.S b→S' b)(hrow:∀i xs cs,rowOf h i .expr=some xs→aN c w (.own i) cs→bC w S' (.sl .expr) xs cs){a b v:AV}{x:Ex}{cs:List Value}(ha:asX h a b v=some x)(Z:jY c w [a,b,v] cs):bC w S' .expr x cs:=by
 unfold asX at ha;split at ha
 ·rename_i k s l J z h3;cases ha;simp only[jY] at Z;obtain⟨c1,c2,e,r1,c3,c4,e2,r2,c5,c6,e3,q,e4⟩:=Z;subst e4; subst e3; subst e2; subst e;have q1:bC w c.S (.i .i64) k c1:=by
   unfold bH0 at J;split at J
   ·cases J; exact r1
   grind
  have q2:bC w c.S .str s c3:=by
   unfold bNc at z;split at z
   ·cases z; exact r2
   grind
  have q3:bC w S' (.sl .expr) l c5:=by
   unfold bNd at h3;split at h3
   ·cases h3; exact bC.keep W (.refl _ _) (.sl .expr) _ _ q
   ·cases h3;simp only[aN] at q;obtain⟨p,n,e,I⟩:=q;exact⟨p,n,n,e,I.keep W (.refl _ _) (fun x cs=>bC.keep W (.refl _ _) .expr x cs)⟩
   ·cases h3;simp only[aN] at q;exact⟨none,0,0,q,rfl,Nat.le_refl _,Nat.zero_le _,.inl rfl⟩
   all_goals grind
  obtain⟨rfl,_,L,N⟩:=q1;obtain⟨s',rfl,rfl,U⟩:=q2;obtain⟨p,len,Y,rfl,z1,z2,z3,z4⟩:=q3;show RepEx w S' _ _;have O:∃f:Nat→List Value,(∀i (h':i<l.length),RepEx w S' l[i] (f i))∧(l= []∨ ∃b off,p=some ⟨b,off,none⟩∧S' b∧ ∀i,i<l.length→jB w b (off+i*3) (f i)):=by
   rcases z4 with rfl|⟨b,off,rfl,hb,g⟩
   ·exact⟨fun _=>[],fun i h'=>by grind,.inl rfl⟩
   ·refine⟨fun i=>if h':i<l.length then Classical.choose (g i h') else [],fun i h'=>?_,.inr ⟨b,off,rfl,hb,fun i h'=>?_⟩⟩
    ·simp only[h',dite_true]; exact(Classical.choose_spec (g i h')).1
    ·simp only[h',dite_true]; exact(Classical.choose_spec (g i h')).2
  obtain⟨f,k1,k2⟩:=O;exact .mk k s' l p len Y f ⟨L,N⟩ U z1 z2 z3 k1 k2
 grind
theorem bKZ{M:Perm}{w0:World}{c:Ctx}{h:List Obj}{w:World}(I:Good M w0 c h w):∀(t:Ty) (l:List Nat) (x:t.den),(∀i∈l,i<c.n)→AV.as h t (.agg (l.map fun i=>.ptr i []))=some x→jY c w (l.map fun i=>.ptr i []) (l.map c.hd):=by
 intro t
 induction t with
 | pair a r _ q =>
  intro l x hl ha;cases l with
  | nil=>rfl
  | cons i l =>
   simp only[List.map_cons,aY9] at ha;split at ha
   ·rename_i L f g z;have hb:∃n v,h[i]? = some (.box n v):=by
     cases a<;>first|(simp[AV.as] at g; done)|skip
     grind[bDZ]
    obtain⟨n,v,J⟩:=hb;obtain⟨b,cells,e,q1,_⟩:=I.objs i _ J;refine⟨[c.hd i],l.map c.hd,rfl,?_,q l f (fun k hk=>hl k (by simp[hk])) z⟩;refine⟨hl i (by simp),b,by rw[q1]; rfl,by rw[q1]; rfl⟩
   grind
 | unit =>
  intro l x hl ha;cases l with
  | nil=>exact rfl
  | cons i l=>grind[AV.as]
 | expr =>
  intro l x hl ha
  match l,ha with
  | [],ha=>rfl
  | [_],ha=>simp[AV.as] at ha
  | [_,_],ha=>simp[AV.as] at ha
  | [_,_,_],ha=>simp[AV.as,asX,bH0] at ha
  | _::_::_::_::_,ha=>simp[AV.as] at ha
 | _=>grind[AV.as]
theorem bMS{M:Perm}{w0:World}{c:Ctx}{h:List Obj}{w:World}(hg:Good M w0 c h w):∀(t:Ty) (v:AV) (x:t.den) (cs:List Value),AV.as h t v=some x→aN c w v cs→bC w (aFI c h) t x cs∧t.isAgg=v.isAgg:=by
 have J:∀b,c.S b→aFI c h b:=fun b hb=>.inl hb;have hval:∀(t q:Ty) (y:q.den) (x:t.den) (cs:List Value),AV.as h t (.val q y)=some x→aN c w (.val q y) cs→bC w (aFI c h) t x cs∧t.isAgg=AV.isAgg (.val q y):=by
  intro t q y x cs ha f;have:∃e:q=t,x=e▸y:=by
   have z:(if e:q=t then some (e▸y) else none)=some x:=(by grind[AV.as]);grind
  obtain⟨rfl,rfl⟩:=this;exact⟨bC.keep J (.refl _ _) _ _ _ f,rfl⟩
 have hflat:∀(t:Ty) (l:List AV) (x:t.den) (cs:List Value),aHk t l=some x→jY c w l cs→bC w (aFI c h) t x cs:=by
  intro t l x cs ha f;unfold aHk at ha;split at ha
  ·rename_i y hp;cases ha;obtain⟨c1,Z,e,r1,U⟩:=bBs t l _ _ cs hp f;simp only[jY] at U;subst U;rw[e,List.append_nil];exact bC.keep J (.refl _ _) _ _ _ r1
  grind
 intro t
 induction t with
 | pair a b N Y =>
  intro v x cs ha f;cases v with
  | val q y=>grind
  | agg I =>
   cases I with
   | nil=>grind[AV.as]
   | cons v I =>
    simp only[aY9] at ha;split at ha
    ·rename_i xa xb h1 z;cases ha;simp only[aN,jY] at f;obtain⟨c1,Z,e,r1,U⟩:=f;have q1:=N v xa c1 h1 r1;have q2:=Y (.agg I) xb Z z (by grind[aN]);exact⟨⟨c1,Z,e,q1.1,q2.1⟩,rfl⟩
    grind
  | flat l=>simp only[aZa] at ha; exact⟨hflat _ _ _ _ ha (by grind[aN]),rfl⟩
  | _=>grind[AV.as]
 | sl t L =>
  intro v x cs ha f;cases v with
  | val q y=>grind
  | nilS=>simp at ha; subst ha; simp only[aN] at f; exact⟨⟨none,0,0,f,rfl,Nat.le_refl _,Nat.zero_le _,.inl rfl⟩,rfl⟩
  | full q xs =>
   have z:(if e:q=t then some (e▸xs) else none)=some x:=(by grind[AV.as]);split at z
   ·rename_i e;subst e;cases z;simp only[aN] at f;obtain⟨p,n,e,O⟩:=f;exact⟨⟨p,n,n,e,O.keep J (.refl _ _) (fun x cs=>bC.keep J (.refl _ _) _ x cs)⟩,rfl⟩
   grind
  | own i=>simp at ha; simp only[aN] at f; rw[f.2.1]; exact⟨bBu hg ha,rfl⟩
  | _=>grind[AV.as]
 | unit =>
  intro v x cs ha f;cases v with
  | val q y=>grind
  | agg I=>cases I with
   | nil=>simp only[aN,jY] at f; exact⟨f,rfl⟩
   | cons v I=>grind[AV.as]
  | flat l=>simp only[aTV] at ha; exact⟨hflat _ _ _ _ ha (by grind[aN]),rfl⟩
  | _=>grind[AV.as]
 | rp t L =>
  intro v x cs ha f;cases v with
  | val q y=>grind
  | roa q y =>
   have z:(if e:q=t then some (e▸y) else none)=some x:=(by grind[AV.as]);split at z
   ·rename_i e;subst e;cases z;simp only[aN] at f;obtain⟨b,off,ds,e,hb,hd,hcell⟩:=f;exact⟨⟨b,off,ds,e,J b hb,bC.keep J (.refl _ _) _ _ _ hd,hcell⟩,rfl⟩
   grind
  | ptr i p =>
   cases p with
   | nil =>
    simp only[bDZ] at ha;split at ha
    ·rename_i n u ho;simp only[aN] at f;obtain⟨hi,b,hb,e⟩:=f;obtain⟨b',cells,e',q1,q2,q3,q4⟩:=hg.objs i _ ho;have W:b=b':=(by grind[aW]);subst W;refine⟨⟨b,0,cells.toList,e,.inr ⟨i,_,ho,by simp[dP,q1,aW]⟩,(L u x cells.toList ha q4).1,?_⟩,rfl⟩;intro j u hj;simp_all[World.cell?,Nat.zero_add]
    grind
   | cons s p=>grind[AV.as]
  | _=>grind[AV.as]
 | clo g t L =>
  intro v x cs ha f;cases v with
  | val q y=>grind
  | fn g' l1 l2 =>
   cases l1 with
   | nil =>
    have z:g'=g∧AV.as h t (.agg (l2.map fun i=>.ptr i []))=some x:=(by grind[AV.as]);obtain⟨rfl,ha⟩:=z;simp only[aN] at f;obtain⟨_,z,e⟩:=f;have:=L _ x (l2.map c.hd) ha (by grind[aN,bKZ]);exact⟨⟨l2.map c.hd,by simp_all,this.1⟩,rfl⟩
   | cons i l1=>grind[AV.as]
  | _=>grind[AV.as]
 | expr =>
  intro v x cs ha f;cases v with
  | val q y=>grind
  | agg I =>
   match I,ha,f with
   | [a,b,v],ha,f =>
    simp only[aZb] at ha;exact⟨bFs J (fun i xs cs h1 z=>by grind[aN,bBu]) ha (by grind[aN]),rfl⟩
   | [],ha,_=>grind[AV.as]
   | [_],ha,_=>grind[AV.as]
   | [_,_],ha,_=>grind[AV.as]
   | _::_::_::_::_,ha,_=>grind[AV.as]
  | _=>grind[AV.as]
 | _ =>
  intro v x cs ha f;cases v with
  | val q y=>grind
  | _=>grind[AV.as]
def Ty.fieldOff:Ty→Nat→Nat
 | .pair _ _,0=>0
 | .pair a r,k+1=>a.cells+r.fieldOff k
 | .expr,k=>k
 | _,_=>0
def aIO:(t:Ty)→t.den→Nat→AV
 | .pair a _,x,0=>.val a x.1
 | .pair _ r,x,k+1=>aIO r x.2 k
 | .expr,x,0=>.val (.i .i64) x.kind
 | .expr,x,1=>.val .str x.text
 | .expr,x,2=>.val (.sl .expr) x.l
 | _,_,_=>.junk
def AV.solid1:AV→Bool
 | .val _ _=>true
 | .nilS=>true
 | .nilP=>true
 | .full _ _=>true
 | .own _=>true
 | .ptr _ _=>true
 | .roa _ _=>true
 | .fn _ _ _=>true
 | .mp _=>true
 | _=>false
def AV.solid:AV→Bool
 | .agg f=>f.all AV.solid1
 | v=>v.solid1
def AV.nc1:AV→Nat
 | .val t _=>t.cells
 | _=>1
def aL:List AV→Nat
 | []=>0
 | v::r=>v.nc1+aL r
def AV.nc:AV→Nat
 | .agg f=>aL f
 | v=>v.nc1
theorem aL1{c:Ctx}{w:World}{v:AV}{cs:List Value}(hs:v.solid1=true)(f:aN c w v cs):cs.length=v.nc1:=by
 cases v<;>simp[AV.solid1] at hs<;>simp only[aN] at f<;>simp only[AV.nc1]
 all_goals grind[bC.length]
theorem bFt{c:Ctx}{w:World}:∀ {vs:List AV} {cs:List Value},vs.all AV.solid1=true→jY c w vs cs→cs.length=aL vs
 | [],_,_,f=>by simp only[jY] at f; rw[f]; rfl
 | v::r,_,hs,f=>by
  simp only[List.all_cons,Bool.and_eq_true] at hs;simp only[jY] at f;obtain⟨c1,z,e,g,q⟩:=f;rw[e,List.length_append,aL1 hs.1 g,bFt hs.2 q]; rfl
theorem aTW{c:Ctx}{w:World}{v:AV}{cs:List Value}(hs:v.solid=true)(f:aN c w v cs):cs.length=v.nc:=by
 cases v
 case agg vs=>exact bFt hs (by simpa [aN] using f)
 all_goals grind[AV.solid,AV.nc,aL1]
def dC:AV→Nat→AV×Nat
 | .val t x,k=>(aIO t x k,t.fieldOff k)
 | .agg [],_=>(.junk,0)
 | .agg (v::_),0=>(v,0)
 | .agg (v::vs),k+1=>((dC (.agg vs) k).1,v.nc1+(dC (.agg vs) k).2)
 | _,_=>(.junk,0)
def elemOf:AV→Nat→Prop×AV
 | .val (.arr n t) f,i=>(i<n,.val t (f.getD i t.zero))
 | _,_=>(False,.junk)
def aYj:AV→Nat
 | .val (.arr _ t) _=>t.cells
 | _=>0
theorem aMU{w:World}{c:Ctx}:∀(t:Ty) (x:t.den) (k:Nat) (cs:List Value),bC w c.S t x cs→aIO t x k≠ .junk→ ∃pre ds post,cs=pre++ds++post∧pre.length=t.fieldOff k∧aN c w (aIO t x k) ds
 | .pair a r,x,0,cs,f,_=>by
  obtain⟨c1,J,e,I,L⟩:=f;exact⟨[],c1,J,by simp_all,rfl,I⟩
 | .pair a r,x,k+1,cs,f,g=>by
  obtain⟨c1,J,e,I,L⟩:=f;obtain⟨pre,ds,post,N,hp,hd⟩:=aMU r x.2 k J L g;refine⟨c1++pre,ds,post,by simp_all,?_,hd⟩;rw[List.length_append,bC.length _ _ _ I,hp]; rfl
 | .expr,x,0,cs,f,_=>by
  cases f with
  | mk k s l a len q z hk hs hl hc hm f ha=>exact⟨[],[_],_,rfl,rfl,⟨rfl,rfl,hk.1,hk.2⟩⟩
 | .expr,x,1,cs,f,_=>by
  cases f with
  | mk k s l a len q z hk hs hl hc hm f ha=>exact⟨[_],[_],[_],rfl,rfl,⟨s,rfl,rfl,hs⟩⟩
 | .expr,x,2,cs,f,_=>by
  cases f with
  | mk k s l a len q z hk hs hl hc hm f ha =>
   refine⟨[_,_],[_],[],rfl,rfl,⟨a,len,q,rfl,hl,hc,hm,ha.imp id ?_⟩⟩;rintro⟨b,off,e,hb,hcell⟩;exact⟨b,off,e,hb,fun i hi=>⟨z i,f i hi,hcell i hi⟩⟩
 | .expr,x,k+3,cs,f,g=>absurd rfl g
 | .bool,x,k,cs,f,g=>absurd rfl g
 | .u _,x,k,cs,f,g=>absurd rfl g
 | .i _,x,k,cs,f,g=>absurd rfl g
 | .str,x,k,cs,f,g=>absurd rfl g
 | .sl _,x,k,cs,f,g=>absurd rfl g
 | .unit,x,k,cs,f,g=>absurd rfl g
 | .arr _ _,x,k,cs,f,g=>absurd rfl g
 | .rp _,x,k,cs,f,g=>absurd rfl g
 | .clo _ _,x,k,cs,f,g=>absurd rfl g
theorem aTX{w:World}{c:Ctx}:∀(v:AV) (k:Nat) (cs:List Value),v.solid=true→aN c w v cs→(dC v k).1≠ .junk→ ∃pre ds post,cs=pre++ds++post∧pre.length=(dC v k).2∧aN c w (dC v k).1 ds:=by
 intro v k cs hs f I;cases v with
 | val t x=>grind[dC,aMU,aN]
 | agg g =>
  simp only[aN] at f;simp only[AV.solid] at hs
  induction g generalizing k cs with
  | nil=>grind[dC]
  | cons v g J =>
   simp only[jY] at f;simp only[List.all_cons,Bool.and_eq_true] at hs;obtain⟨c1,z,e,q,L⟩:=f;cases k with
   | zero=>exact⟨[],c1,z,by simp_all,rfl,q⟩
   | succ k =>
    grind[dC,List.length_append,aL1]
 | _=>grind[dC]
theorem aPm{w:World}{c:Ctx}(v:AV)(i:Nat)(cs:List Value)(z:aN c w v cs)(h:(elemOf v i).1):∃pre ds post,cs=pre++ds++post∧pre.length=i*aYj v∧aN c w (elemOf v i).2 ds:=by
 cases v with
 | val t x =>
  cases t with
  | arr n t =>
   simp only[elemOf] at h ⊢;obtain⟨I,g,e,hl,f⟩:=z;obtain⟨pre,post,J,hp⟩:=kZ (t:=t) (css:=g) (fun j q=>bC.length _ _ _ (f j (by omega) q)) i (by omega);refine⟨pre,g[i],post,by grind,hp,?_⟩;have:=f i (by omega) (by omega);simp only[aN];rw[List.getD_eq_getElem?_getD,List.getElem?_eq_getElem (by omega)];exact this
  | _=>exact h.elim
 | _=>exact h.elim
def aAo:AV→List Step→Prop×AV
 | v,[]=>(True,v)
 | v,.fld off k::p=>(v.solid=true∧off=(dC v k).2∧(aAo (dC v k).1 p).1,(aAo (dC v k).1 p).2)
 | v,.idx s i::p=>((elemOf v i).1∧s=aYj v∧(aAo (elemOf v i).2 p).1,(aAo (elemOf v i).2 p).2)
theorem bGP:∀(p:List Step),(aAo .junk p).1→(aAo .junk p).2= .junk
 | [],_=>rfl
 | .fld off k::p,h=>by simp[aAo,AV.solid,AV.solid1] at h
 | .idx s i::p,h=>by simp[aAo,elemOf] at h
theorem aMV{w:World}{c:Ctx}:∀(p:List Step) (v:AV) (cs:List Value),aN c w v cs→(aAo v p).1→(aAo v p).2≠ .junk→ ∃pre ds post,cs=pre++ds++post∧pre.length=mH p∧aN c w (aAo v p).2 ds
 | [],v,cs,q,_,_=>⟨[],cs,[],by simp,rfl,q⟩
 | .fld off k::p,v,cs,q,h,g=>by
  simp only[aAo] at h g ⊢;obtain⟨hs,W,L⟩:=h;have I:(dC v k).1≠ .junk:=fun e=>by grind[bGP]
  obtain⟨pre,ds,post,e,hp,hd⟩:=aTX v k cs hs q I;obtain⟨z,O,f,U,J,N⟩:=aMV p _ ds hd L g;grind[List.length_append,mH,Step.off]
 | .idx s i::p,v,cs,q,h,g=>by
  simp only[aAo] at h g ⊢;obtain⟨hs,W,L⟩:=h;obtain⟨pre,ds,post,e,hp,hd⟩:=aPm v i cs q hs;obtain⟨z,O,f,U,J,N⟩:=aMV p _ ds hd L g;grind[List.length_append,mH,Step.off]
end Go.Vc
namespace Go.Vc
open Go.RowKit
inductive RK where
 | none
 | one (t:Ty)
 | own (e:TypeId) (t:Ty)
 | tup (t:Ty)
def RK.ty:RK→Ty
 | .none=>.unit
 | .one t=>t
 | .own _ t=>.sl t
 | .tup t=>t
structure aH where
 args:Ty
 res:RK
 pre:args.den→Prop
 fn:args.den→res.ty.den
def qV(w:World)(S:Nat→Prop):(t:Ty)→t.den→List Value→Prop
 | .unit,_,g=>g= []
 | .pair a r,x,g=>∃v f,g=v::f∧cZ w S a x.1 v∧qV w S r x.2 f
 | _,_,_=>False
def bGQ(w:World)(S:Nat→Prop)(B:Nat):(r:RK)→r.ty.den→Value→Prop
 | .none,_,v=>v= .tuple #[]
 | .one t,x,v=>cZ w (fun b=>S b∨(B≤b∧b<w.heap.size)) t x v
 | .own e t,g,v=>∃f:List Value,w.ownsRow B e t.cells v g.length f∧bC w (fun b=>S b∨(B≤b∧b<w.heap.size∧aW v≠some b)) (.arr g.length t) g f
 | .tup t,x,v=>∃vs:List Value,v= .tuple vs.toArray∧qV w (fun b=>S b∨(B≤b∧b<w.heap.size)) t x vs
def nothing:Nat→Prop:=fun _=>False
@[reducible] def top(S:Nat→Prop):Perm:=⟨nothing,S,0,fun _=>Go.undef⟩
def sY(G:Nat→AV)(S:Nat→Prop)(w:World):Prop:=∀g,aZ ⟨S,fun _=>Go.undef,0,fun _ _=>False⟩ w (G g) (.pointer (some ⟨g,0,none⟩))
def FOK(P:Program)(G:Nat→AV)(f:FuncId)(sp:aH):Prop :=
 ∀(w:World) (S:Nat→Prop) (vs:Array Value) (x:sp.args.den),(∀b,S b→b<w.heap.size)→sY G S w→qV w S sp.args x vs.toList→sp.pre x →
  Calls P f vs w fun e w'=>∃v,e= .returned v∧fB nothing w w'∧bGQ w' S w.heap.size sp.res (sp.fn x) v
structure Env where
 T:Tab
 G:Nat→AV
 Γ:FuncId→List AV→Option aH
 el:TypeId→TypeId
 mp:TypeId→Option (TypeId×TypeId)
 dm:TypeId→Option Mk:=fun _=>none
 dz:TypeId→Bool:=fun _=>false
 w:Bool:=false
def bBv(T:Tab)(t:TypeId):AV→AV
 | .flat l=>match T t with
  | some c=>match AV.as [] c (.flat l) with
   | some x=>.val c x
   | none=>.flat l
  | none=>.flat l
 | v=>v
def aI3(T:Tab)(h:List Obj)(t:TypeId):AV→Prop×AV
 | .roa c x=>(T t=some c,.val c x)
 | .ptr i p=>match h[i]? with
  | some (.box _ v)=>((aAo v p).1∧(aAo v p).2.solid=true∧ ∃c,T t=some c∧c.isAgg=(aAo v p).2.isAgg∧c.cells=(aAo v p).2.nc,(aAo v p).2)
  | some (.row _ c f)=>match p with
   | .idx s k::p=>(k<f.length∧s=c.cells∧(aAo (.val c (f.getD k c.zero)) p).1∧(aAo (.val c (f.getD k c.zero)) p).2.solid=true ∧
     ∃c',T t=some c'∧c'.isAgg=(aAo (.val c (f.getD k c.zero)) p).2.isAgg∧c'.cells=(aAo (.val c (f.getD k c.zero)) p).2.nc,(aAo (.val c (f.getD k c.zero)) p).2)
   | _=>(False,.junk)
  | some (.trh _ _ c f k v)=>match p with
   | .idx s g::p=>(g=k∧s=c.cells∧(aAo v p).1∧(aAo v p).2.solid=true∧ ∃c',T t=some c'∧c'.isAgg=(aAo v p).2.isAgg∧c'.cells=(aAo v p).2.nc,(aAo v p).2)
   | _=>(False,.junk)
  | _=>(False,.junk)
 | _=>(False,.junk)
noncomputable def aCo(T:Tab)(op:BinOp)(t:TypeId):AV→AV→Prop×AV
 | .val (.u k) a,.val (.u f) b=>match op with
  | .shl=>shU .shl k a b
  | .shr=>shU .shr k a b
  | op=>if f=k then aY7 op k a b else (False,.junk)
 | .val (.i k) a,.val (.i f) b=>match op with
  | .shl=>(0≤b∧b≤k.bits∧(shI .shl k a b.toNat).1,(shI .shl k a b.toNat).2)
  | .shr=>(0≤b,(shI .shr k a b.toNat).2)
  | op=>if f=k then bHW op k a b else (False,.junk)
 | .val (.u k) a,.val (.i _) b=>match op with
  | .shl=>(0≤b,(shU .shl k a b.toNat).2)
  | .shr=>(0≤b,(shU .shr k a b.toNat).2)
  | _=>(False,.junk)
 | .val (.i k) a,.val (.u _) b=>match op with
  | .shl=>(b≤k.bits∧(shI .shl k a b).1,(shI .shl k a b).2)
  | .shr=>(True,(shI .shr k a b).2)
  | _=>(False,.junk)
 | .val .str a,.val .str b=>bHX op a b
 | .val .bool a,.val .bool b=>(T t=some .bool∧(bKS op a b).1,(bKS op a b).2)
 | .val (.pair p q) a,.val g b=>if e:g= .pair p q then (match op with
   | .eql=>(T t=some (.pair p q)∧(Ty.pair p q).cmpB=true∧(Ty.pair p q).deep≤100,.val .bool ((Ty.pair p q).eqb a (e▸b)))
   | .neq=>(T t=some (.pair p q)∧(Ty.pair p q).cmpB=true∧(Ty.pair p q).deep≤100,.val .bool (!(Ty.pair p q).eqb a (e▸b)))
   | _=>(False,.junk)) else (False,.junk)
 | .val (.arr n q) a,.val g b=>if e:g= .arr n q then (match op with
   | .eql=>(T t=some (.arr n q)∧(Ty.arr n q).cmpB=true∧(Ty.arr n q).deep≤100,.val .bool ((Ty.arr n q).eqb a (e▸b)))
   | .neq=>(T t=some (.arr n q)∧(Ty.arr n q).cmpB=true∧(Ty.arr n q).deep≤100,.val .bool (!(Ty.arr n q).eqb a (e▸b)))
   | _=>(False,.junk)) else (False,.junk)
 | _,_=>(False,.junk)
noncomputable def bD0(f:UnOp):AV→Prop×AV
 | .val .bool b=>match f with
  | .not=>(True,.val .bool (!b))
  | _=>(False,.junk)
 | .val (.i k) a=>match f with
  | .neg=>(fits k (0-a),.val (.i k) (0-a))
  | _=>(False,.junk)
 | .val (.u k) a=>match f with
  | .neg=>(True,.val (.u k) (bBr k a))
  | .xor=>(True,.val (.u k) ((gT k-1)^^^a))
  | _=>(False,.junk)
 | _=>(False,.junk)
def aPn(T:Tab)(src g:TypeId)(x:AV):Prop×AV :=
 match T g,x with
 | some (.u k),.val (.u f) n=>((T src).isSome=true,.val (.u k) (if f.bits≤k.bits then n else n%gT k))
 | some (.u k),.val (.i _) n=>((T src).isSome=true,.val (.u k) (n%(gT k:Int)).toNat)
 | some (.i k),.val (.u f) n=>((T src).isSome=true,.val (.i k) (if f.bits<k.bits then (n:Int) else k.wrap n))
 | some (.i k),.val (.i f) n=>((T src).isSome=true,.val (.i k) (if f.bits≤k.bits then n else k.wrap n))
 | some .str,.val .str s=>(T src=some .str,.val .str s)
 | _,_=>(False,.junk)
def aDx:AV→Option Int
 | .val (.i _) n=>some n
 | .val (.u _) n=>some n
 | _=>none
def aAI(T:Tab)(s:TypeId)(x:AV)(k:Nat):Prop×AV :=
 match x with
 | .ptr i p=>match T s with
  | some c=>(c.isAgg=true∧fldT c k,.ptr i (p++ [.fld (c.fieldOff k) k]))
  | none=>(False,.junk)
 | .roa c x=>match aIO c x k with
  | .val f y=>(T s=some c,.roa f y)
  | _=>(False,.junk)
 | _=>(False,.junk)
where
 fldT:Ty→Nat→Prop
 | .pair _ _,0=>True
 | .pair _ r,k+1=>fldT r k
 | .expr,k=>k<3
 | _,_=>False
def Ty.fldTy:Ty→Nat→Option Ty
 | .pair a _,0=>some a
 | .pair _ r,k+1=>r.fldTy k
 | _,_=>none
def aKr(T:Tab)(s:TypeId)(x:AV)(k:Nat):Prop×AV :=
 match x with
 | .val c y=>(T s=some c∧aIO c y k≠ .junk,aIO c y k)
 | .agg f=>(∃g,T s=some g∧f.all AV.solid1=true∧(dC (.agg f) k).1.solid1=true∧(dC (.agg f) k).2=g.fieldOff k∧ ∃c',g.fldTy k=some c'∧c'.isAgg=(dC (.agg f) k).1.isAgg∧c'.cells=(dC (.agg f) k).1.nc1,(dC (.agg f) k).1)
 | _=>(False,.junk)
def aMW(T:Tab)(h:List Obj)(t:TypeId)(x g:AV):Prop×AV :=
 match aDx g with
 | none=>(False,.junk)
 | some i =>
  match x with
  | .val (.sl c) f=>(T t=some (.sl c)∧0≤i∧i<(f.length:Int),.roa c (f.getD i.toNat c.zero))
  | .full c f=>(T t=some (.sl c)∧0≤i∧i<(f.length:Int),.roa c (f.getD i.toNat c.zero))
  | .own k=>match h[k]? with
   | some (.row _ c f)=>(T t=some (.sl c)∧0≤i∧i<(f.length:Int),.ptr k [.idx c.cells i.toNat])
   | some (.frz c f)=>(T t=some (.sl c)∧0≤i∧i<(f.length:Int),.roa c (f.getD i.toNat c.zero))
   | some (.tre _ _ c f)=>(T t=some (.sl c)∧0≤i∧i<(f.length:Int),.ptr k [.idx c.cells i.toNat])
   | some (.trh _ _ c f _ _)=>(T t=some (.sl c)∧0≤i∧i<(f.length:Int),.ptr k [.idx c.cells i.toNat])
   | _=>(False,.junk)
  | .sub k s off n=>match h[k]? with
   | some (.row _ c f)=>(T t=some (.sl c)∧s=c.cells∧0≤i∧i<(n:Int),.ptr k [.idx c.cells (off+i.toNat)])
   | _=>(False,.junk)
  | .ptr k p=>match T t with
   | some (.arr n c)=>(0≤i∧i<(n:Int),.ptr k (p++ [.idx c.cells i.toNat]))
   | _=>(False,.junk)
  | .roa (.arr n c) f=>(T t=some (.arr n c)∧0≤i∧i<(n:Int),.roa c (f.getD i.toNat c.zero))
  | _=>(False,.junk)
def aMX(T:Tab)(t:TypeId)(x f:AV):Prop×AV :=
 match aDx f with
 | none=>(False,.junk)
 | some i =>
  match x with
  | .val (.arr n c) g=>(T t=some (.arr n c)∧0≤i∧i<(n:Int),.val c (g.getD i.toNat c.zero))
  | .val .str s=>(T t=some .str∧0≤i∧i<(s.length:Int),.val (.u .u8) (s.getD i.toNat 0))
  | _=>(False,.junk)
def aI4(T:Tab)(h:List Obj)(t:TypeId)(x:AV):Prop×AV :=
 match x with
 | .val .str s=>(T t=some .str,.val (.i .i64) (s.length:Int))
 | .val (.sl c) f=>(T t=some (.sl c),.val (.i .i64) (f.length:Int))
 | .full c f=>(T t=some (.sl c),.val (.i .i64) (f.length:Int))
 | .nilS=>(∃c,T t=some (.sl c),.val (.i .i64) 0)
 | .own k=>match h[k]? with
  | some (.row _ c f)=>(T t=some (.sl c),.val (.i .i64) (f.length:Int))
  | some (.frz c f)=>(T t=some (.sl c),.val (.i .i64) (f.length:Int))
  | some (.tre _ _ c f)=>(T t=some (.sl c),.val (.i .i64) (f.length:Int))
  | some (.trh _ _ c f _ _)=>(T t=some (.sl c),.val (.i .i64) (f.length:Int))
  | _=>(False,.junk)
 | .sub _ _ _ n=>(∃c,T t=some (.sl c),.val (.i .i64) (n:Int))
 | .val (.arr n c) _=>(T t=some (.arr n c),.val (.i .i64) (n:Int))
 | _=>(False,.junk)
def dY:Obj→Obj
 | .frz t f=>.frz t f
 | _=>.dead
def bD1(h:List Obj)(c:Ty)(x:AV):Option (List c.den):=AV.as (h.map dY) (.sl c) x
def aMY(T:Tab)(h:List Obj)(t:TypeId)(x:AV)(lo hi mx:Option AV):Prop×AV :=
 match T t with
 | some .str=>match x,mx with
  | .val .str s,none=>match lo.map aDx,hi.map aDx with
   | none,none=>(True,.val .str s)
   | some (some l),none=>(0≤l∧l≤(s.length:Int),.val .str (s.drop l.toNat))
   | none,some (some u)=>(0≤u∧u≤(s.length:Int),.val .str (s.take u.toNat))
   | some (some l),some (some u)=>(0≤l∧l≤u∧u≤(s.length:Int),.val .str ((s.take u.toNat).drop l.toNat))
   | _,_=>(False,.junk)
  | _,_=>(False,.junk)
 | some (.sl c)=>match bD1 h c x with
  | some f=>match lo.map aDx,hi.map aDx,mx.map aDx with
   | none,none,none=>(True,.val (.sl c) f)
   | some (some l),none,none=>(0≤l∧l≤(f.length:Int),.val (.sl c) (f.drop l.toNat))
   | none,some (some u),none=>(0≤u∧u≤(f.length:Int),.val (.sl c) (f.take u.toNat))
   | some (some l),some (some u),none=>(0≤l∧l≤u∧u≤(f.length:Int),.val (.sl c) ((f.take u.toNat).drop l.toNat))
   | none,some (some u),some (some m)=>(0≤u∧u≤(f.length:Int)∧m=u,.full c (f.take u.toNat))
   | some (some l),some (some u),some (some m)=>(0≤l∧l≤u∧u≤(f.length:Int)∧m=u,.full c ((f.take u.toNat).drop l.toNat))
   | _,_,_=>(False,.junk)
  | none=>(False,.junk)
 | _=>(False,.junk)
def bH1(c:Ty):AV:=.val c c.zero
def aA2:Ty→List AV
 | .pair a r=>bH1 a::aA2 r
 | _=>[]
def bGR:List AV→List (Nat×AV)→List AV
 | l,[]=>l
 | l,(k,v)::r=>bGR (l.set k v) r
def Ty.flds:Ty→List Ty
 | .pair a r=>a::r.flds
 | _=>[]
def aKs(ts:List Ty):List (Nat×AV)→Prop
 | []=>True
 | (k,v)::r=>(v.solid1=true∧ ∃t,ts[k]? = some t∧v.nc1=t.cells)∧aKs ts r
def aZc(c:Ty):List c.den→List (Nat×AV)→Option (List c.den)
 | l,[]=>some l
 | l,(k,v)::r=>match AV.as [] c v with
  | some x=>if k<l.length then aZc c (l.set k x) r else none
  | none=>none
def aI5(c:Ty)(l:List AV):AV :=
 match AV.as [] c (.agg l) with
 | some x=>.val c x
 | none=>.agg l
def aKt(T:Tab)(t:TypeId)(ps:List (Nat×AV)):Prop×AV :=
 match T t with
 | some (.pair a r)=>((Ty.pair a r).okB=true∧aKs (Ty.pair a r).flds ps,aI5 (.pair a r) (bGR (aA2 (.pair a r)) ps))
 | some .unit=>(ps= [],.val .unit ())
 | some .expr=>(aKs [.i .i64,.str,.sl .expr] ps,aI5 .expr (bGR [.val (.i .i64) 0,.val .str [],.nilS] ps))
 | some (.arr n c)=>match aZc c (List.replicate n c.zero) ps with
  | some l=>(c.okB=true,.val (.arr n c) l)
  | none=>(False,.junk)
 | _=>(False,.junk)
def iV:Ty→List AV
 | .pair (.sl _) r=>.nilS::iV r
 | .pair a r=>.val a a.zero::iV r
 | _=>[]
def aKu:Ty→Bool
 | .pair _ r=>aKu r
 | .unit=>true
 | _=>false
def aPo(T:Tab)(t:TypeId)(ps:List (Nat×AV)):Prop×AV :=
 match T t with
 | some (.pair a r)=>((Ty.pair a r).okB=true∧aKs (Ty.pair a r).flds ps,.agg (bGR (iV (.pair a r)) ps))
 | _=>(False,.junk)
def aBK(T:Tab)(t:TypeId)(n:Nat)(ps:List (Nat×AV)):Prop×AV :=
 match T t with
 | some (.sl c)=>match aZc c (List.replicate n c.zero) ps with
  | some l=>(c.okB=true∧n*c.cells≤16777216∧n≤maxLen,.full c l)
  | none=>(False,.junk)
 | _=>(False,.junk)
def mm2(mx:Bool):AV→AV→Prop×AV
 | .val (.i k) a,.val (.i f) b=>if f=k then (True,.val (.i k) (if mx then max a b else min a b)) else (False,.junk)
 | .val (.u k) a,.val (.u f) b=>if f=k then (True,.val (.u k) (if mx then max a b else min a b)) else (False,.junk)
 | _,_=>(False,.junk)
def bH2(mx:Bool):List AV→Prop×AV
 | [x,y]=>mm2 mx x y
 | [x,y,z]=>((mm2 mx x y).1∧(mm2 mx (mm2 mx x y).2 z).1,(mm2 mx (mm2 mx x y).2 z).2)
 | _=>(False,.junk)
def aEa:(t:Ty)→t.den→List AV
 | .pair a r,x=>.val a x.1::aEa r x.2
 | _,_=>[]
def bH3:(r:RK)→r.ty.den→AV
 | .one t,x=>.val t x
 | .tup t,x=>.tup (aEa t x)
 | _,_=>.junk
def Ty.scalar:Ty→Bool
 | .bool=>true
 | .u _=>true
 | .i _=>true
 | .str=>true
 | .unit=>true
 | .pair a b=>a.scalar&&b.scalar
 | .arr _ t=>t.scalar
 | _=>false
def aCC(h:List Obj):(t:Ty)→List AV→Option t.den
 | .unit,[]=>some ()
 | .pair a r,v::vs=>match AV.as h a v,aCC h r vs with
  | some x,some y=>some (x,y)
  | _,_=>none
 | _,_=>none
def aHl(Γ:FuncId→List AV→Option aH)(h:List Obj)(f:FuncId)(vs:List AV):Prop×AV :=
 match Γ f vs with
 | some sp=>match sp.res with
  | .own _ _=>(False,.junk)
  | _=>match aCC (if sp.res.ty.scalar then h else h.map dY) sp.args vs with
   | some x=>(sp.pre x,bH3 sp.res (sp.fn x))
   | none=>(False,.junk)
 | none=>(False,.junk)
end Go.Vc
namespace Go.Vc
open Go.RowKit
theorem vN(b off j:Nat):(Addr.mk b off none).add j=⟨b,off+j,none⟩:=by
 grind[Addr.add]
theorem aTY{c:Ctx}{w:World}{v:AV}{cs:List Value}(hs:v.solid1=true)(q:aN c w v cs):∀u∈cs,one u:=by
 cases v<;>simp[AV.solid1] at hs<;>simp only[aN] at q
 case val t x=>grind[bC.one]
 case full t xs=>obtain⟨a,n,e,_⟩:=q; subst e; intro u g; simp at g; subst g; trivial
 case ptr i p=>obtain⟨_,b,_,e⟩:=q; subst e; intro u g; simp at g; subst g; trivial
 case roa t x=>obtain⟨b,off,ds,e,_⟩:=q; subst e; intro u g; simp at g; subst g; trivial
 case fn f a b=>rw[q.2.2]; intro u g; simp at g; subst g; trivial
 case own i=>simp_all
 case mp i=>simp_all
 all_goals (rw[q]; intro u g; simp at g; subst g; trivial)
theorem aPp{c:Ctx}{w:World}{v:AV}{cs:List Value}(hs:v.solid=true)(g:aN c w v cs):∀u∈cs,one u:=by
 cases v
 case agg vs =>
  simp only[aN] at g;simp only[AV.solid] at hs
  induction vs generalizing cs with
  | nil=>grind[jY]
  | cons v r z =>
   simp only[List.all_cons,Bool.and_eq_true] at hs;simp only[jY] at g;obtain⟨c1,L,e,q,J⟩:=g;intro u f;rw[e] at f;rcases List.mem_append.1 f with f|f
   ·exact aTY hs.1 q u f
   ·have I:=hs.2; exact z (by assumption) (by assumption) u f
 all_goals grind[AV.solid,aTY]
def mkV(agg:Bool)(ds:List Value):Value:=if agg then .agg ds.toArray else ds.headD Go.undef
theorem bNh{c:Ctx}{w:World}{v:AV}{ds:List Value}(hs:v.solid=true)(z:aN c w v ds)(q:v.isAgg=false→ds.length=1):aZ c w v (mkV v.isAgg ds):=by
 have I:=aPp hs z;have f:xQ c w v (mkV v.isAgg ds):=by
  unfold mkV;cases ha:v.isAgg
  ·have hl:=q ha
   match ds,hl with
   | [u],_ =>
    have g:=I u (by simp);simp only[Bool.false_eq_true,if_false,List.headD_cons];refine⟨?_,(fun h=>by simp_all),(fun _ J e=>by subst e; exact g)⟩;have:u.cells.toList= [u]:=(by cases u<;>first|rfl|exact g.elim);simp_all
  ·simp only[if_true];exact⟨by grind[Value.cells],fun _=>⟨_,rfl⟩,fun h=>by simp_all⟩
 cases v<;>first|exact f|grind[AV.solid,AV.solid1]
section
variable {P:Program} {T:Tab} {M:Perm} {w0:World} {c:Ctx} {h:List Obj} {w:World}
theorem aHm{t:TypeId}{q:Ty}(g:aEi P T t q){v:AV}{ds:List Value}{b off:Nat}(hs:v.solid=true)(ha:q.isAgg=v.isAgg)(J:q.cells=v.nc)(z:aN c w v ds)(hc:jB w b off ds) :
  ∃u,(loadVar t ⟨b,off,none⟩).run P w= .ok u w∧aZ c w v u:=by
 have hl:=aTW hs z;have I:v.isAgg=false→ds.length=1:=fun h0=>by
  rw[hl,← J]; rw[h0] at ha;cases q<;>simp_all[Ty.isAgg,Ty.cells]
 refine⟨mkV v.isAgg ds,?_,bNh hs z I⟩;unfold loadVar;rw[Sem.run_bind,aGA g,Result.andThen_ok,ha];cases hb:v.isAgg
 ·match ds,I hb with
  | [u],_ =>
   have:=hc 0 u rfl;simp_all[Nat.add_zero,mkV,load,Sem.run]
 ·have f:=run_loadCells_list (P:=P) w ⟨b,off,none⟩ ds (fun j u L=>by rw[vN]; exact hc j u L);rw[hl,← J] at f;simp[dQ g,f,mkV]
theorem wG{b:Nat}{cells:Array Value}{e:TypeId}{fz:Nat×Nat}(hb:w.heap[b]? = some (.cells cells e fz)){pre ds post:List Value}(hc:cells.toList=pre++ds++post):jB w b pre.length ds:=by
 intro j v f;grind[World.cell?,aI2]
theorem aEj{b off:Nat}{cs pre ds post:List Value}(hc:jB w b off cs)(he:cs=pre++ds++post):jB w b (off+pre.length) ds:=by
 intro j v g;have f:j<ds.length:=by
  grind
 have:cs[pre.length+j]? = some v:=by
  grind
 have:=hc _ _ this;grind
theorem aTZ:∀(t:Ty) (x:t.den) (k:Nat),aIO t x k= .junk∨ ∃f y,aIO t x k= .val f y
 | .pair a _,x,0=>.inr ⟨a,x.1,rfl⟩
 | .pair _ r,x,k+1=>aTZ r x.2 k
 | .expr,x,0=>.inr ⟨_,_,rfl⟩
 | .expr,x,1=>.inr ⟨_,_,rfl⟩
 | .expr,x,2=>.inr ⟨_,_,rfl⟩
 | .expr,x,k+3=>.inl rfl
 | .bool,_,_=>.inl rfl
 | .u _,_,_=>.inl rfl
 | .i _,_,_=>.inl rfl
 | .str,_,_=>.inl rfl
 | .sl _,_,_=>.inl rfl
 | .unit,_,_=>.inl rfl
 | .arr _ _,_,_=>.inl rfl
 | .rp _,_,_=>.inl rfl
 | .clo _ _,_,_=>.inl rfl
 | .ifc _ _,_,_=>.inl rfl
 | .nili,_,_=>.inl rfl
 | .nilp,_,_=>.inl rfl
 | .nilf,_,_=>.inl rfl
theorem aFJ{i:Nat}{p:List Step}{v:Value}(hv:aZ c w (.ptr i p) v):i<c.n∧ ∃b,aW (c.hd i)=some b∧v= .pointer (some ⟨b,mH p,none⟩):=by
 obtain⟨f,_,h3⟩:=hv;simp only[aN] at f;obtain⟨hi,b,hb,hc⟩:=f;refine⟨hi,b,hb,?_⟩;have h3:=h3 rfl;simp_all[Value.cells,congrArg]
theorem aTB{t:Ty}{x:t.den}{v:Value}(hv:aZ c w (.roa t x) v):∃b off ds,v= .pointer (some ⟨b,off,none⟩)∧c.S b∧bC w c.S t x ds∧jB w b off ds:=by
 obtain⟨f,_,h3⟩:=hv;simp only[aN] at f;obtain⟨b,off,ds,hc,h⟩:=f;refine⟨b,off,ds,?_,h⟩;have h3:=h3 rfl;simp_all[Value.cells,congrArg]
theorem aKv{i:Nat}{p:List Step}{b:Nat}(hi:i<c.n)(hb:aW (c.hd i)=some b):aZ c w (.ptr i p) (.pointer (some ⟨b,mH p,none⟩)) :=
 ⟨⟨hi,b,hb,rfl⟩,(fun h=>by cases h),(fun _ f=>by simp)⟩
theorem aHn{t:Ty}{x:t.den}{b off:Nat}{ds:List Value}(hb:c.S b)(hd:bC w c.S t x ds)(hc:jB w b off ds):aZ c w (.roa t x) (.pointer (some ⟨b,off,none⟩)) :=
 ⟨⟨b,off,ds,rfl,hb,hd,hc⟩,(fun h=>by cases h),(fun _ f=>by simp)⟩
theorem bH4{e:TypeId}{t:Ty}{xs:List t.den}{v:Value}{b:Nat}(U:aBI c w e t xs v)(hb:aW v=some b){k:Nat}(hk:k<xs.length) :
  ∃ds,bC w c.S t (xs.getD k t.zero) ds∧jB w b (k*t.cells) ds:=by
 obtain⟨J,q,_,f,W,hl,z⟩:=U;obtain⟨I,hv⟩:=q;rcases hv with⟨rfl,h0⟩|⟨g,cap,N,rfl,_,hheap,Y,L,Z,htake⟩
 ·omega
 ·simp[aW] at hb;subst hb;refine⟨f[k],?_,?_⟩
  ·simp_all
  ·obtain⟨pre,post,hf,hp⟩:=kZ (t:=t) (css:=f) (fun j O=>bC.length _ _ _ (z j (by omega) O)) k (by omega);grind[List.append_assoc,List.take_append_drop,wG]
theorem bGS{i b k:Nat}{e:TypeId}{m:Mk}{t:Ty}{xs:List t.den}{v:AV}(J:aIL c w i (.trh e m t xs k v))(hb:aW (c.hd i)=some b):∃ds,aN c w v ds∧jB w b (k*t.cells) ds:=by
 obtain⟨f,Bs,q⟩:=J;have hk:=q.kl;have N:=q.lc;have Z:=q.lb;rcases q.row.2 with⟨_,h0⟩|⟨g,cap,O,z,_,hheap,Y,L,hsz,htake⟩
 ·omega
 ·rw[z] at hb;simp[aW] at hb;subst hb;obtain⟨I,U⟩:=q.hv (by omega);refine⟨f[k],I,?_⟩;obtain⟨pre,post,hf,hp⟩:=kZ (t:=t) (css:=f) (fun j W=>by
   by_cases e:j=k
   ·simp_all
   ·exact kT.length _ _ _ _ _ (q.el j (by omega) W (by omega) e)) k (by omega)
  grind[List.append_assoc,List.take_append_drop,wG]
theorem bFu(U:iF P T)(hg:Good M w0 c h w){t:TypeId}{av:AV}{v:Value}(hv:aZ c w av v)(hc:(aI3 T h t av).1) :
  ∃u,(Instr.loadAt t v).run P w= .ok u w∧aZ c w (aI3 T h t av).2 u:=by
 cases av with
 | roa g x =>
  simp only[aI3] at hc ⊢;obtain⟨b,off,ds,rfl,hb,hd,hcell⟩:=aTB hv;have Y:=U _ _ hc;obtain⟨u,hu,hr⟩:=aHm (v:=.val g x) (c:=c) Y rfl rfl rfl hd hcell;grind[Instr.loadAt,Instr.sureAddr]
 | ptr i p =>
  obtain⟨hi,b,hb,rfl⟩:=aFJ hv;simp only[aI3] at hc ⊢;cases O:h[i]? with
  | none=>simp_all
  | some o =>
   have q:=hg.objs i o O;cases o with
   | box nb v =>
    simp only[O] at hc ⊢;obtain⟨J,f,g,h3,I,N⟩:=hc;obtain⟨b',cells,e,W,hheap,hsz,hcr⟩:=q;rw[W] at hb;simp[aW] at hb;subst hb;have L:(aAo v p).2≠ .junk:=fun e=>(by rw[e] at f; cases f);obtain⟨pre,ds,post,e1,hp,hd⟩:=aMV p v _ hcr J L;obtain⟨u,hu,hr⟩:=aHm (U _ _ h3) f I N hd (wG hheap e1);grind[Instr.loadAt,Instr.sureAddr]
   | row e g Z =>
    simp only[O] at hc ⊢;cases p with
    | nil=>simp_all
    | cons s p =>
     cases s with
     | fld _ _=>simp_all
     | idx s k =>
      simp only at hc ⊢;obtain⟨hk,hs,J,f,c',h3,I,N⟩:=hc;obtain⟨ds,z,hcell⟩:=bH4 q hb hk;have L:(aAo (.val g (Z.getD k g.zero)) p).2≠ .junk:=fun e=>(by rw[e] at f; cases f);obtain⟨pre,ds',post,e1,hp,hd⟩:=aMV p (.val g (Z.getD k g.zero)) ds z J L;obtain⟨u,hu,hr⟩:=aHm (U _ _ h3) f I N hd (aEj hcell e1);grind[Instr.loadAt,Instr.sureAddr,mH,Step.off]
   | trh e m g Z kk v =>
    simp only[O] at hc ⊢;cases p with
    | nil=>simp_all
    | cons s p =>
     cases s with
     | fld _ _=>simp_all
     | idx s k =>
      simp only at hc ⊢;obtain⟨rfl,hs,J,f,c',h3,I,N⟩:=hc;obtain⟨ds,z,hcell⟩:=bGS q hb;have L:(aAo v p).2≠ .junk:=fun e=>(by rw[e] at f; cases f);obtain⟨pre,ds',post,e1,hp,hd⟩:=aMV p v ds z J L;obtain⟨u,hu,hr⟩:=aHm (U _ _ h3) f I N hd (aEj hcell e1);grind[Instr.loadAt,Instr.sureAddr,mH,Step.off]
   | _=>simp_all
 | _=>exact hc.elim
theorem aT0:∀ {z:List Field} {off:Nat} {t:Ty} {k:Nat},dB T z off t=true→aAI.fldT t k→ ∃f,z[k]? = some f∧f.offset=off+t.fieldOff k∧ ∃q,T f.type=some q∧0<q.cells∧(∀x,∃y,aIO t x k= .val q y)
 | [],off,.unit,k,_,hk=>hk.elim
 | f::z,off,.pair a r,0,g,_=>by
  simp only[dB,Bool.and_eq_true,decide_eq_true_eq] at g;exact⟨f,rfl,by rw[g.1.1.1.2]; rfl,a,g.1.1.1.1,g.1.2,fun x=>⟨x.1,rfl⟩⟩
 | f::z,off,.pair a r,k+1,g,hk=>by
  simp only[dB,Bool.and_eq_true,decide_eq_true_eq] at g;obtain⟨I,J,L,q,h3⟩:=aT0 g.2 (show aAI.fldT r k from hk);exact⟨I,by simp_all,by grind[Ty.fieldOff],q,h3.1,h3.2.1,fun x=>h3.2.2 x.2⟩
 | [],_,.pair _ _,_,g,_=>by grind[dB]
 | _::_,_,.unit,_,g,_=>by grind[dB]
theorem aKw{s:TypeId}{q:Ty}(z:aEi P T s q){k:Nat}(ha:q.isAgg=true)(hk:aAI.fldT q k) :
  ∃g f,P.underlying s=some (.struct g)∧g[k]? = some f∧f.offset=q.fieldOff k∧ ∃c',T f.type=some c'∧0<c'.cells∧(∀x,∃y,aIO q x k= .val c' y):=by
 obtain⟨d,hd,hb⟩:=z.desc;cases q<;>first|grind[Ty.isAgg]|skip
 all_goals (cases d<;>first|grind[fM]|simp only[fM] at hb)
 case unit.struct g=>exact hk.elim
 case pair.struct a r g =>
  obtain⟨f,N,W,h3⟩:=aT0 hb hk;simp_all
 case arr.array=>exact hk.elim
 case expr.struct g =>
  unfold bFp at hb;split at hb
  ·rename_i J L O I;simp only[Bool.and_eq_true,decide_eq_true_eq] at hb;obtain⟨⟨⟨⟨⟨N,W⟩,h3⟩,Y⟩,h5⟩,Z⟩:=hb;have hk:k<3:=hk;have U:∀j,g[j]? = [J,L,O][j]? := fun j=>by rw[← I,Array.getElem?_toList]
   match k,hk with
   | 0,_=>exact⟨g,J,hd,by simp_all,W,.i .i64,N,Nat.one_pos,fun x=>⟨_,rfl⟩⟩
   | 1,_=>exact⟨g,L,hd,by simp_all,Y,.str,h3,Nat.one_pos,fun x=>⟨_,rfl⟩⟩
   | 2,_=>exact⟨g,O,hd,by simp_all,Z,.sl .expr,h5,Nat.one_pos,fun x=>⟨_,rfl⟩⟩
  grind
theorem bFv{t:Ty}:∀ {x:t.den} {k:Nat},aIO t x k≠ .junk→aAI.fldT t k:=by
 induction t with
 | pair a r _ f=>intro x k h; cases k with
  | zero=>trivial
  | succ k=>exact f h
 | expr=>intro x k h; match k with
  | 0=>exact(by omega:0<3)
  | 1=>exact(by omega:1<3)
  | 2=>exact(by omega:2<3)
  | k+3=>exact absurd rfl h
 | _=>intro x k h; exact absurd rfl h
theorem aI6{f:Field}{q:Ty}(g:aEi P T f.type q)(z:0<q.cells)(b off:Nat):(fieldPlace ⟨b,off,none⟩ f).run P w= .ok ⟨b,off+f.offset,none⟩ w:=by
 have:¬q.cells=0:=by omega
 simp[fieldPlace,dQ g,this,Result.andThen,vN]
theorem aHo:∀(p q:List Step),mH (p++q)=mH p+mH q
 | [],q=>by simp[mH]
 | s::p,q=>by simp[mH,aHo p q]; omega
theorem bH5(J:iF P T){s:TypeId}{av:AV}{v:Value}{k:Nat}(hv:aZ c w av v)(hc:(aAI T s av k).1) :
  ∃u,(Instr.fieldAt s v k).run P w= .ok u w∧aZ c w (aAI T s av k).2 u:=by
 cases av with
 | ptr i p =>
  obtain⟨hi,b,hb,rfl⟩:=aFJ hv;simp only[aAI] at hc ⊢;cases ht:T s with
  | none=>simp_all
  | some q =>
   simp only[ht] at hc ⊢;obtain⟨Z,f,L,U,h3,c',N,W,_⟩:=aKw (J _ _ ht) hc.1 hc.2;refine⟨.pointer (some ⟨b,mH (p++ [.fld (q.fieldOff k) k]),none⟩),?_,aKv hi hb⟩;have g:=aI6 (w:=w) (J _ _ N) W b (mH p);simp[Instr.fieldAt,bB L,U,Instr.sureAddr,g,Result.andThen,aHo,mH,Step.off,h3]
 | roa q x =>
  obtain⟨b,off,ds,rfl,hb,hd,hcell⟩:=aTB hv;simp only[aAI] at hc ⊢;rcases aTZ q x k with hj|⟨f,y,Y⟩
  ·simp_all
  ·simp only[Y] at hc ⊢;have z:aIO q x k≠ .junk:=(by simp_all);have O:q.isAgg=true:=by
    cases q<;>first|rfl|exact absurd rfl z
   obtain⟨Z,fd,L,U,h3,c',N,W,h6⟩:=aKw (J _ _ hc) O (bFv z);obtain⟨pre,ds',post,e,hp,I⟩:=aMU (c:=c) q x k ds hd z;rw[Y] at I;have hcell':=aEj hcell e;rw[hp] at hcell';refine⟨.pointer (some ⟨b,off+q.fieldOff k,none⟩),?_,aHn hb I hcell'⟩;have g:=aI6 (w:=w) (J _ _ N) W b off;simp[Instr.fieldAt,bB L,U,Instr.sureAddr,g,Result.andThen,h3]
 | _=>exact hc.elim
theorem bH6:∀ {t:Ty} {k:Nat} {c':Ty},t.fldTy k=some c'→aAI.fldT t k∧ ∀x:t.den,∃y,aIO t x k= .val c' y:=by
 intro t
 induction t with
 | pair a r _ g =>
  intro k c' h;cases k with
  | zero=>simp only[Ty.fldTy,Option.some.injEq] at h; subst h; exact⟨trivial,fun x=>⟨x.1,rfl⟩⟩
  | succ k=>obtain⟨f,q⟩:=g (show r.fldTy k=some c' from h); exact⟨f,fun x=>q x.2⟩
 | _=>grind[Ty.fldTy]
theorem bGT{t:TypeId}{g:Ty}(q:aEi P T t g){cs:Array Value}{pre ds post:List Value}(J:cs.toList=pre++ds++post){v:AV}(hs:v.solid1=true)(ha:g.isAgg=v.isAgg)(O:g.cells=v.nc1)(hd:aN c w v ds)(w':World) :
  ∃u,(part t cs pre.length).run P w'= .ok u w'∧aZ c w v u:=by
 have hl:=aL1 hs hd;have I:∀u:Value,xQ c w v u→aZ c w v u:=fun u h=>by cases v<;>first|exact h|grind[AV.solid1]
 by_cases z:g.isAgg=true
 ·refine⟨.agg (cs.extract pre.length (pre.length+g.cells)),?_,I _ ⟨?_,fun _=>⟨_,rfl⟩,fun h=>by simp_all⟩⟩
  ·simp[part,aGA q,z,dQ q,Result.andThen]
  simp_all[Value.cells,bDX]
 ·have N:g.cells=1:=by cases g<;>simp_all[Ty.isAgg,Ty.cells]
  obtain⟨u,rfl⟩:∃u,ds= [u]:=by
   match ds,hl.trans (O.symm.trans N) with
   | [u],_=>simp_all
  have f:=aPp (v:=v) (c:=c) (w:=w) (by cases v<;>first|exact hs|grind[AV.solid1]) hd u (by simp);refine⟨u,?_,I _ ⟨?_,fun h=>absurd (ha.trans h) z,fun _ L e=>by subst e; exact f.elim⟩⟩
  ·have:=aI2 J 0 (v:=u) rfl;simp only[Nat.add_zero] at this;simp[part,aGA q,z,this]
  ·cases u<;>first|exact hd|exact f.elim
theorem bH7(N:iF P T){s:TypeId}{av:AV}{v:Value}{k:Nat}(hv:aZ c w av v)(hc:(aKr T s av k).1) :
  ∃u,(Instr.field s v k).run P w= .ok u w∧aZ c w (aKr T s av k).2 u:=by
 cases av with
 | val z x =>
  simp only[aKr] at hc ⊢;obtain⟨ht,L⟩:=hc;have q:z.isAgg=true:=by cases z<;>first|rfl|exact absurd rfl L
  obtain⟨fs,fd,h1,h2,h3,c',O,h5,U⟩:=aKw (N _ _ ht) q (bFv L);obtain⟨y,hy⟩:=U x;obtain⟨g,I,_⟩:=hv;obtain⟨cs,rfl⟩:=I q;simp only[aN,Value.cells] at g;obtain⟨pre,W,post,e,hp,f⟩:=aMU (c:=c) z x k _ g L;rw[hy] at f ⊢;obtain⟨u,hu,hr⟩:=aE1 (N _ _ O) e f w;simp_all[Instr.field,bB,asAgg,aZ.ofV]
 | agg vs =>
  simp only[aKr] at hc ⊢;obtain⟨z,ht,hs,J,hoff,c',hf,ha,hn⟩:=hc;obtain⟨Y,hfv⟩:=bH6 hf;have q:z.isAgg=true:=by cases z<;>first|rfl|grind[Ty.fldTy]
  obtain⟨fs,fd,h1,h2,h3,Z,O,h5,U⟩:=aKw (N _ _ ht) q Y;obtain⟨y,hy⟩:=U z.zero;obtain⟨y',hy'⟩:=hfv z.zero;have ec:Z=c':=by simp_all
  subst ec;obtain⟨g,I,_⟩:=hv;obtain⟨cs,rfl⟩:=I rfl;have L:(dC (.agg vs) k).1≠ .junk:=fun e=>by rw[e] at J; cases J
  obtain⟨pre,W,post,e,hp,f⟩:=aTX (c:=c) (.agg vs) k _ hs g L;simp only[Value.cells] at e;obtain⟨u,hu,hr⟩:=bGT (N _ _ O) e J ha hn f w;simp_all[Instr.field,bB,asAgg]
 | _=>exact hc.elim
end
end Go.Vc

