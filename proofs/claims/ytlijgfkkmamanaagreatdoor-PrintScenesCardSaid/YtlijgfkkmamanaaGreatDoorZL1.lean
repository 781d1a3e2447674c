import Derived.WalkKit
import Derived.Below
set_option linter.unusedVariables false
set_option linter.unusedSimpArgs false
namespace Go.Vc
open Go.RowKit
inductive Ex where
 | mk (kind:Int) (text:List Nat) (l:List Ex)
def Ex.kind:Ex→Int| .mk k _ _=>k
def Ex.text:Ex→List Nat| .mk _ t _=>t
def Ex.l:Ex→List Ex| .mk _ _ l=>l
inductive Ty where
 | bool|u (k:IntKind)|i (k:IntKind)|str|sl (t:Ty)|unit|pair (a b:Ty)|arr (n:Nat) (t:Ty)|expr|rp (t:Ty)|clo (g:FuncId) (t:Ty)|ifc (k:TypeId) (t:Ty)|nili|nilp|nilf
 deriving DecidableEq
@[reducible] def Ty.den:Ty→Type
 | .bool=>Bool
 | .u _=>Nat
 | .i _=>Int
 | .str=>List Nat
 | .sl t=>List t.den
 | .unit=>Unit
 | .pair a b=>a.den×b.den
 | .arr _ t=>List t.den
 | .expr=>Ex
 | .rp t=>t.den
 | .clo _ t=>t.den
 | .ifc _ t=>t.den
 | .nili=>Unit
 | .nilp=>Unit
 | .nilf=>Unit
def Ty.cells:Ty→Nat
 | .bool=>1
 | .u _=>1
 | .i _=>1
 | .str=>1
 | .sl _=>1
 | .unit=>0
 | .pair a b=>a.cells+b.cells
 | .arr n t=>n*t.cells
 | .expr=>3
 | .rp _=>1
 | .clo _ _=>1
 | .ifc _ _=>1
 | .nili=>1
 | .nilp=>1
 | .nilf=>1
def Ty.isAgg:Ty→Bool
 | .unit=>true
 | .pair _ _=>true
 | .arr _ _=>true
 | .expr=>true
 | _=>false
def Ty.zero:(t:Ty)→t.den
 | .bool=>false
 | .u _=>0
 | .i _=>0
 | .str=>[]
 | .sl _=>[]
 | .unit=>()
 | .pair a b=>(a.zero,b.zero)
 | .arr n t=>List.replicate n t.zero
 | .expr=>.mk 0 [] []
 | .rp t=>t.zero
 | .clo _ t=>t.zero
 | .ifc _ t=>t.zero
 | .nili=>()
 | .nilp=>()
 | .nilf=>()
def aR(s:ByteArray):List Nat:=s.data.toList.map (·.toNat)
def mW(w:World)(b off:Nat)(ds:List Value):Prop:=∀j v,ds[j]? = some v→w.cell? ⟨b,off+j,none⟩=some v
def SlR{α:Type}(w:World)(S:Nat→Prop)(R:α→List Value→Prop)(sz:Nat)(xs:List α)(a:Option Addr)(len cap:Nat):Prop :=
 xs.length=len∧len≤cap∧cap≤maxLen ∧
  (xs= []∨ ∃b off,a=some ⟨b,off,none⟩∧S b∧ ∀i (h:i<xs.length),∃ds,R xs[i] ds∧mW w b (off+i*sz) ds)
inductive RepEx(w:World)(S:Nat→Prop):Ex→List Value→Prop where
 | mk (k:Int) (s:ByteArray) (l:List Ex) (a:Option Addr) (len cap:Nat) (dss:Nat→List Value)
   (hk:IntKind.min .i64≤k∧k≤IntKind.max .i64) (hs:s.size≤maxLen) (hl:l.length=len) (hc:len≤cap) (hm:cap≤maxLen)
   (hr:∀i (h:i<l.length),RepEx w S l[i] (dss i))
   (ha:l= []∨ ∃b off,a=some ⟨b,off,none⟩∧S b∧ ∀i,i<l.length→mW w b (off+i*3) (dss i)) :
   RepEx w S (.mk k (aR s) l) [.int .i64 k,.string s,.slice a len cap]
def bB(w:World)(S:Nat→Prop):(t:Ty)→t.den→List Value→Prop
 | .bool,x,f=>f= [.bool x]
 | .u k,x,f=>f= [.int k (x:Int)]∧k.signed=false∧(x:Int)≤k.max
 | .i k,x,f=>f= [.int k x]∧k.signed=true∧k.min≤x∧x≤k.max
 | .str,x,f=>∃s,f= [.string s]∧aR s=x∧s.size≤maxLen
 | .sl t,q,f=>∃a len cap,f= [.slice a len cap]∧SlR w S (bB w S t) t.cells q a len cap
 | .unit,_,f=>f= []
 | .pair a b,x,f=>∃c1 z,f=c1++z∧bB w S a x.1 c1∧bB w S b x.2 z
 | .arr n t,q,f=>q.length=n∧ ∃css:List (List Value),f=css.flatten∧css.length=q.length∧ ∀i (h:i<q.length) (h':i<css.length),bB w S t q[i] css[i]
 | .expr,x,f=>RepEx w S x f
 | .rp t,x,f=>∃b off ds,f= [.pointer (some ⟨b,off,none⟩)]∧S b∧bB w S t x ds∧mW w b off ds
 | .clo g t,x,f=>∃vs:List Value,f= [.func (.func g) #[] vs.toArray]∧bB w S t x vs
 | .ifc k t,x,f=>∃v ds,f= [.iface k v]∧(t.isAgg=true→v= .agg ds.toArray)∧(t.isAgg=false→ds= [v])∧bB w S t x ds
 | .nili,_,f=>f= [.nilIface]
 | .nilp,_,f=>f= [.pointer none]
 | .nilf,_,f=>f= [.nilFunc]
def dU(w:World)(S:Nat→Prop)(t:Ty)(x:t.den)(v:Value):Prop :=
 if t.isAgg=true then ∃cs,v= .agg cs∧bB w S t x cs.toList else bB w S t x [v]
def aCq(S:Nat→Prop)(w w':World):Prop:=∀b,S b→w'.heap[b]? = w.heap[b]?
theorem aCq.refl(S:Nat→Prop)(w:World):aCq S w w:=fun _ _=>rfl
theorem aCq.trans{S:Nat→Prop}{a b c:World}(h:aCq S a b)(k:aCq S b c):aCq S a c:=fun x f=>(k x f).trans (h x f)
theorem aCq.mono{S S':Nat→Prop}{w w':World}(h:aCq S w w')(hs:∀b,S' b→S b):aCq S' w w':=fun b hb=>h b (hs b hb)
theorem aFn{S:Nat→Prop}{w w':World}(h:aCq S w w'){b off:Nat}(hb:S b){ds:List Value}(hc:mW w b off ds):mW w' b off ds:=fun j v f=>by
 rw[World.cell?_of_block (w:=w) (w':=w') (h b hb)]; exact hc j v f
theorem SlR.keep{α:Type}{w w':World}{S S':Nat→Prop}(hs:∀b,S b→S' b)(h:aCq S w w'){R f:α→List Value→Prop}(L:∀x cs,R x cs→f x cs)
  {sz:Nat} {xs:List α} {a:Option Addr} {len cap:Nat} (I:SlR w S R sz xs a len cap):SlR w' S' f sz xs a len cap:=by
 obtain⟨J,q,g,z⟩:=I;refine⟨J,q,g,z.imp id ?_⟩;grind[aFn]
theorem RepEx.keep{w w':World}{S S':Nat→Prop}(hs:∀b,S b→S' b)(h:aCq S w w'){e:Ex}{cs:List Value}(z:RepEx w S e cs):RepEx w' S' e cs:=by
 induction z with
 | mk k s l a len g q J f N hc hm z L I =>
  refine .mk k s l a len g q J f N hc hm I (L.imp id ?_);grind[aFn]
theorem bB.keep{w w':World}{S S':Nat→Prop}(hs:∀b,S b→S' b)(h:aCq S w w'):∀(t:Ty) (x:t.den) (cs:List Value),bB w S t x cs→bB w' S' t x cs
 | .bool,_,_,f=>f
 | .u _,_,_,f=>f
 | .i _,_,_,f=>f
 | .str,_,_,f=>f
 | .sl t,_,_,⟨a,len,I,hv,f⟩=>⟨a,len,I,hv,f.keep hs h (fun x cs=>bB.keep hs h t x cs)⟩
 | .unit,_,_,f=>f
 | .pair a b,_,_,⟨c1,L,hc,q,g⟩=>⟨c1,L,hc,bB.keep hs h a _ _ q,bB.keep hs h b _ _ g⟩
 | .arr _ t,_,_,⟨J,z,hc,O,f⟩=>⟨J,z,hc,O,fun i q g=>bB.keep hs h t _ _ (f i q g)⟩
 | .expr,_,_,f=>RepEx.keep hs h f
 | .rp t,_,_,⟨b,off,ds,hc,hb,hd,hcell⟩=>⟨b,off,ds,hc,hs b hb,bB.keep hs h t _ _ hd,aFn h hb hcell⟩
 | .clo _ t,_,_,⟨N,hc,hd⟩=>⟨N,hc,bB.keep hs h t _ _ hd⟩
 | .ifc _ t,_,_,⟨v,ds,hc,q,g,hd⟩=>⟨v,ds,hc,q,g,bB.keep hs h t _ _ hd⟩
 | .nili,_,_,f=>f
 | .nilp,_,_,f=>f
 | .nilf,_,_,f=>f
theorem dU.keep{w w':World}{S S':Nat→Prop}(hs:∀b,S b→S' b)(h:aCq S w w'){t:Ty}{x:t.den}{v:Value}(f:dU w S t x v):dU w' S' t x v:=by
 unfold dU at *;split
 ·rename_i g; simp only[g,if_true] at f; obtain⟨q,hv,hc⟩:=f; exact⟨q,hv,hc.keep hs h⟩
 ·rename_i g; simp only[g] at f; exact f.keep hs h
theorem nF{css:List (List Value)}{n:Nat}(h:∀i (h:i<css.length),(css[i]).length=n):css.flatten.length=css.length*n:=by
 induction css with
 | nil=>simp
 | cons c r f =>
  have h0:=h 0 (by simp);have:=f (fun i hi=>by have:=h (i+1) (by simp_all); simp_all);grind
theorem bB.length{w:World}{S:Nat→Prop}:∀(t:Ty) (x:t.den) (cs:List Value),bB w S t x cs→cs.length=t.cells
 | .bool,_,_,f=>by cases f; rfl
 | .u _,_,_,f=>by cases f.1; rfl
 | .i _,_,_,f=>by cases f.1; rfl
 | .str,_,_,⟨s,hv,_⟩=>by subst hv; rfl
 | .sl t,_,_,⟨a,len,z,hv,_⟩=>by subst hv; rfl
 | .unit,_,_,f=>by cases f; rfl
 | .pair a b,_,_,⟨c1,O,hc,J,I⟩=>by subst hc; simp only[List.length_append,bB.length a _ _ J,bB.length b _ _ I,Ty.cells]
 | .arr n t,N,_,⟨q,g,hc,L,f⟩=>by
  subst hc;rw[nF (n:=t.cells) (fun i hi=>bB.length t _ _ (f i (by omega) hi)),L,q];rfl
 | .expr,_,_,f=>by cases f; rfl
 | .rp t,_,_,⟨b,off,ds,hc,_⟩=>by subst hc; rfl
 | .clo _ t,_,_,⟨U,hc,_⟩=>by subst hc; rfl
 | .ifc _ t,_,_,⟨v,ds,hc,_⟩=>by subst hc; rfl
 | .nili,_,_,f=>by cases f; rfl
 | .nilp,_,_,f=>by cases f; rfl
 | .nilf,_,_,f=>by cases f; rfl
def one(v:Value):Prop:=match v with| .agg _| .tuple _=>False|_=>True
theorem bB.one{w:World}{S:Nat→Prop}:∀(t:Ty) (x:t.den) (cs:List Value),bB w S t x cs→ ∀v∈cs,one v
 | .bool,_,_,f=>by cases f; intro v hv; simp at hv; subst hv; trivial
 | .u _,_,_,f=>by cases f.1; intro v hv; simp at hv; subst hv; trivial
 | .i _,_,_,f=>by cases f.1; intro v hv; simp at hv; subst hv; trivial
 | .str,_,_,⟨s,hv,_⟩=>by subst hv; intro v hv; simp at hv; subst hv; trivial
 | .sl t,_,_,⟨a,len,z,hv,_⟩=>by subst hv; intro v hv; simp at hv; subst hv; trivial
 | .unit,_,_,f=>by cases f; simp_all
 | .pair a b,_,_,⟨c1,O,hc,J,I⟩=>by
  subst hc;intro v hv;rcases List.mem_append.1 hv with hv|hv
  ·exact bB.one a _ _ J v hv
  ·exact bB.one b _ _ I v hv
 | .arr n t,L,_,⟨N,q,hc,Y,f⟩=>by
  subst hc;intro v hv;obtain⟨c,g,hv⟩:=List.mem_flatten.1 hv;obtain⟨i,hi,rfl⟩:=List.mem_iff_getElem.1 g;exact bB.one t _ _ (f i (by omega) hi) v hv
 | .expr,_,_,f=>by
  cases f;intro v hv;simp only[List.mem_cons,List.not_mem_nil,or_false] at hv;rcases hv with rfl|rfl|rfl<;>trivial
 | .rp t,_,_,⟨b,off,ds,hc,_⟩=>by subst hc; intro v hv; simp at hv; subst hv; trivial
 | .clo _ t,_,_,⟨U,hc,_⟩=>by subst hc; intro v hv; simp at hv; subst hv; trivial
 | .ifc _ t,_,_,⟨v,ds,hc,_⟩=>by subst hc; intro v hv; simp at hv; subst hv; trivial
 | .nili,_,_,f=>by cases f; intro v hv; simp at hv; subst hv; trivial
 | .nilp,_,_,f=>by cases f; intro v hv; simp at hv; subst hv; trivial
 | .nilf,_,_,f=>by cases f; intro v hv; simp at hv; subst hv; trivial
theorem dU.cells{w:World}{S:Nat→Prop}{t:Ty}{x:t.den}{v:Value}(f:dU w S t x v):bB w S t x v.cells.toList:=by
 unfold dU at f;split at f
 ·obtain⟨q,rfl,hc⟩:=f; exact hc
 ·have g:=bB.one t x _ f v (by simp);cases v<;>first|exact g.elim|exact f
theorem dU.of_cells{w:World}{S:Nat→Prop}{t:Ty}{x:t.den}{v:Value}(hs:t.isAgg=true→ ∃cs,v= .agg cs)(q:t.isAgg=false→ ∀cs,v≠ .agg cs)(f:bB w S t x v.cells.toList):dU w S t x v:=by
 unfold dU;split
 ·rename_i g; obtain⟨cs,rfl⟩:=hs g; exact⟨cs,rfl,f⟩
 ·rename_i g;have:=q (by simp_all);cases v<;>first|exact absurd rfl (this _)|exact f
end Go.Vc
namespace Go.Vc
open Go.RowKit
inductive Step where
 | fld (off k:Nat)
 | idx (size i:Nat)
def Step.off:Step→Nat
 | .fld o _=>o
 | .idx s i=>i*s
def pR:List Step→Nat
 | []=>0
 | s::r=>s.off+pR r
inductive AV where
 | junk
 | undef
 | val (t:Ty) (x:t.den)
 | nilS
 | nilP
 | full (t:Ty) (xs:List t.den)
 | own (i:Nat)
 | ptr (i:Nat) (p:List Step)
 | sub (i s off n:Nat)
 | roa (t:Ty) (x:t.den)
 | fn (f:FuncId) (first caps:List Nat)
 | mp (i:Nat)
 | flat (vs:List AV)
 | agg (vs:List AV)
 | tup (vs:List AV)
inductive Mk where
 | no
 | sl (e:TypeId) (m:Mk)
 | pair (a b:Mk)
 deriving DecidableEq
inductive Obj where
 | dead
 | box (n:Nat) (v:AV)
 | row (e:TypeId) (t:Ty) (xs:List t.den)
 | frz (t:Ty) (xs:List t.den)
 | map (k v:Ty) (m:List (k.den×v.den))
 | tre (e:TypeId) (m:Mk) (t:Ty) (xs:List t.den)
 | trh (e:TypeId) (m:Mk) (t:Ty) (xs:List t.den) (k:Nat) (v:AV)
structure Ctx where
 S:Nat→Prop
 hd:Nat→Value
 n:Nat
 bl:Nat→Nat→Prop
structure Ctx.le(c c':Ctx):Prop where
 S:∀b,c.S b→c'.S b
 n:c.n≤c'.n
 hd:∀i,i<c.n→c'.hd i=c.hd i
theorem Ctx.le.refl(c:Ctx):c.le c:=⟨fun _ h=>h,Nat.le_refl _,fun _ _=>rfl⟩
theorem Ctx.le.trans{a b c:Ctx}(h:a.le b)(k:b.le c):a.le c :=
 ⟨fun x f=>k.S x (h.S x f),Nat.le_trans h.n k.n,fun i hi=>(k.hd i (Nat.lt_of_lt_of_le hi h.n)).trans (h.hd i hi)⟩
def aU:Value→Option Nat
 | .pointer (some a)=>some a.block
 | .slice (some a) _ _=>some a.block
 | .map (some b)=>some b
 | _=>none
def AV.isAgg:AV→Bool
 | .val t _=>t.isAgg
 | .agg _=>true
 | .flat _=>true
 | _=>false
mutual
def aO(c:Ctx)(w:World):AV→List Value→Prop
 | .junk,_=>True
 | .undef,cs=>cs= [Go.undef]
 | .val t x,cs=>bB w c.S t x cs
 | .nilS,cs=>cs= [.slice none 0 0]
 | .nilP,cs=>cs= [.pointer none]
 | .full t xs,cs=>∃a n,cs= [.slice a n n]∧SlR w c.S (bB w c.S t) t.cells xs a n n
 | .own i,cs=>i<c.n∧cs= [c.hd i]∧one (c.hd i)
 | .ptr i p,cs=>i<c.n∧ ∃b,aU (c.hd i)=some b∧cs= [.pointer (some ⟨b,pR p,none⟩)]
 | .sub i s off n,cs=>i<c.n∧n≤maxLen∧ ∃b cap,aU (c.hd i)=some b∧cs= [.slice (some ⟨b,off*s,none⟩) n cap]
 | .roa t x,cs=>∃b off ds,cs= [.pointer (some ⟨b,off,none⟩)]∧c.S b∧bB w c.S t x ds∧mW w b off ds
 | .fn f l1 l2,cs=>(∀i∈l1,i<c.n)∧(∀i∈l2,i<c.n)∧cs= [.func (.func f) (l1.map c.hd).toArray (l2.map c.hd).toArray]
 | .mp i,cs=>i<c.n∧cs= [c.hd i]∧one (c.hd i)
 | .flat vs,cs=>nD c w vs cs
 | .agg vs,cs=>nD c w vs cs
 | .tup _,_=>False
def nD(c:Ctx)(w:World):List AV→List Value→Prop
 | [],cs=>cs= []
 | v::r,cs=>∃c1 c2,cs=c1++c2∧aO c w v c1∧nD c w r c2
end
def zM(c:Ctx)(w:World)(v:AV)(x:Value):Prop :=
 aO c w v x.cells.toList∧(v.isAgg=true→ ∃cs,x= .agg cs)∧(v.isAgg=false→ ∀cs,x≠ .agg cs)
def aX(c:Ctx)(w:World):AV→Value→Prop
 | .junk,_=>True
 | .undef,x=>x=Go.undef
 | .tup f,x=>∃xs:List Value,x= .tuple xs.toArray∧xs.length=f.length∧ ∀i (h:i<f.length) (h':i<xs.length),zM c w f[i] xs[i]
 | v,x=>zM c w v x
mutual
theorem aO.keep{c c':Ctx}{w w':World}(hc:c.le c')(h:aCq c.S w w'):∀(v:AV) (cs:List Value),aO c w v cs→aO c' w' v cs
 | .junk,_,_=>by simp[aO]
 | .undef,_,hr=>by grind[aO]
 | .val t x,_,hr=>by simp only[aO] at *; exact bB.keep hc.S h t x _ hr
 | .nilS,_,hr=>by grind[aO]
 | .nilP,_,hr=>by grind[aO]
 | .full t xs,_,hr=>by
  simp only[aO] at *;obtain⟨a,n,hv,hr⟩:=hr;exact⟨a,n,hv,hr.keep hc.S h (fun x cs=>bB.keep hc.S h t x cs)⟩
 | .own i,_,hr=>by simp only[aO] at *; exact⟨Nat.lt_of_lt_of_le hr.1 hc.n,by rw[hc.hd i hr.1]; grind⟩
 | .ptr i p,_,hr=>by
  simp only[aO] at *;obtain⟨hi,b,hb,hv⟩:=hr;exact⟨Nat.lt_of_lt_of_le hi hc.n,b,by rw[hc.hd i hi]; exact hb,hv⟩
 | .sub i s off n,_,hr=>by
  simp only[aO] at *;obtain⟨hi,hn,b,cap,hb,hv⟩:=hr;exact⟨Nat.lt_of_lt_of_le hi hc.n,hn,b,cap,by rw[hc.hd i hi]; exact hb,hv⟩
 | .roa t x,_,hr=>by
  simp only[aO] at *;obtain⟨b,off,ds,hv,hb,hd,hcell⟩:=hr;exact⟨b,off,ds,hv,hc.S b hb,bB.keep hc.S h t x _ hd,aFn h hb hcell⟩
 | .fn f l1 l2,_,hr=>by
  simp only[aO] at *;obtain⟨h1,h2,hv⟩:=hr;refine⟨fun i hi=>Nat.lt_of_lt_of_le (h1 i hi) hc.n,fun i hi=>Nat.lt_of_lt_of_le (h2 i hi) hc.n,?_⟩;rw[List.map_congr_left (fun i hi=>hc.hd i (h1 i hi)),List.map_congr_left (fun i hi=>hc.hd i (h2 i hi))];exact hv
 | .mp i,_,hr=>by simp only[aO] at *; exact⟨Nat.lt_of_lt_of_le hr.1 hc.n,by rw[hc.hd i hr.1]; grind⟩
 | .flat vs,_,hr=>by simp only[aO] at *; exact nD.keep hc h vs _ hr
 | .agg vs,_,hr=>by simp only[aO] at *; exact nD.keep hc h vs _ hr
 | .tup _,_,hr=>by grind[aO]
theorem nD.keep{c c':Ctx}{w w':World}(hc:c.le c')(h:aCq c.S w w'):∀(vs:List AV) (cs:List Value),nD c w vs cs→nD c' w' vs cs
 | [],_,hr=>by grind[nD]
 | v::r,_,hr=>by
  simp only[nD] at *;obtain⟨c1,c2,hcs,h1,h2⟩:=hr;exact⟨c1,c2,hcs,aO.keep hc h v _ h1,nD.keep hc h r _ h2⟩
end
theorem zM.keep{c c':Ctx}{w w':World}(hc:c.le c')(h:aCq c.S w w'){v:AV}{x:Value}(f:zM c w v x):zM c' w' v x :=
 ⟨aO.keep hc h _ _ f.1,f.2⟩
theorem aX.keep{c c':Ctx}{w w':World}(hc:c.le c')(h:aCq c.S w w'){v:AV}{x:Value}(f:aX c w v x):aX c' w' v x:=by
 cases v<;>simp only[aX] at *
 case tup vs =>
  obtain⟨g,z,J,hv⟩:=f;exact⟨g,z,J,fun i I q=>(hv i I q).keep hc h⟩
 all_goals first|exact f|exact f.keep hc h
def aCr(c:Ctx)(w:World)(e:TypeId)(t:Ty)(xs:List t.den)(v:Value):Prop :=
 ∃f:List Value,w.ownsRow 0 e t.cells v xs.length f∧bB w c.S (.arr xs.length t) xs f
def bIX(n s:Nat)(e:TypeId):Prop:=s=n∨(s=2∧n=4294967296+e)
def bCk:Ty→Bool
 | .nilp=>true
 | _=>false
def aUo:Ty→Bool
 | .sl _=>true
 | _=>false
def aYw:Ty→Bool
 | .unit=>true
 | _=>false
def bCl:Ty→Bool
 | .pair b u=>aUo b&&aYw u
 | _=>false
def aUp:Ty→Bool
 | .pair a r=>bCk a&&bCl r
 | _=>false
def bxN(t:TypeId)(f:Ty):Nat:=bif aUp f then 4294967296+t else f.cells
def aKQ(f:Ty):AV:=bif aUp f then .agg [.nilP,.nilS] else bif aUo f then .nilS else .val f f.zero
theorem bFT{f:Ty}(h:aUo f=true):∃b,f= .sl b:=by
 unfold aUo at h;grind
theorem bAi{I:Ty}(h:aUp I=true):∃b,I= .pair .nilp (.pair (.sl b) .unit):=by
 unfold aUp at h;split at h
 ·rename_i a r;simp only[Bool.and_eq_true] at h;obtain⟨z,f⟩:=h;unfold bCk at z;split at z
  ·unfold bCl at f;split at f
   ·rename_i b u;simp only[Bool.and_eq_true] at f;obtain⟨g,q⟩:=f;unfold aUo at g;split at g
    ·unfold aYw at q;split at q
     all_goals simp_all
    grind
   grind
  grind
 grind
theorem bFU(t:TypeId)(f:Ty):bIX (bxN t f) f.cells t:=by
 unfold bxN;cases h:aUp f with
 | false=>exact .inl rfl
 | true =>
  obtain⟨b,rfl⟩:=bAi h;exact .inr ⟨rfl,rfl⟩
def hdB(v:Value):List Nat:=match aU v with
 | some b=>[b]
 | none=>[]
def mB(w:World)(S:Nat→Prop):(t:Ty)→Mk→t.den→List Value→List Nat→Prop
 | .sl t,.sl e m,f,g,B=>∃(v:Value) (css:List (List Value)) (q:List (List Nat)),g= [v]∧w.ownsRow 0 e t.cells v f.length css.flatten∧css.length=f.length∧q.length=f.length∧B=hdB v++q.flatten∧ ∀i (h:i<f.length) (U:i<css.length) (O:i<q.length),mB w S t m f[i] css[i] q[i]
 | .pair a r,.pair N L,x,g,B=>∃(c1 I:List Value) (z J:List Nat),g=c1++I∧B=z++J∧mB w S a N x.1 c1 z∧mB w S r L x.2 I J
 | t,.no,x,g,B=>bB w S t x g∧B= []
 | _,_,_,_,_=>False
structure bDC(c:Ctx)(w:World)(i:Nat)(e:TypeId)(m:Mk)(t:Ty)(xs:List t.den)(k:Nat)(v:AV)(css:List (List Value))(Bs:List (List Nat)):Prop where
 row:w.ownsRow 0 e t.cells (c.hd i) xs.length css.flatten
 lc:css.length=xs.length
 lb:Bs.length=xs.length
 kl:k<xs.length
 el:∀j (h:j<xs.length) (h1:j<css.length) (h2:j<Bs.length),j≠k→mB w c.S t m xs[j] css[j] Bs[j]
 hb:∀(h2:k<Bs.length),Bs[k]= []
 hv:∀(h1:k<css.length),aO c w v css[k]∧css[k].length=t.cells
 nd:(hdB (c.hd i)++Bs.flatten).Nodup
 bl:∀b∈hdB (c.hd i)++Bs.flatten,c.bl i b
def aIM(c:Ctx)(w:World)(i:Nat):Obj→Prop
 | .dead=>True
 | .box n v=>∃b cells e,c.hd i= .pointer (some ⟨b,0,none⟩)∧w.heap[b]? = some (.cells cells e (0,0))∧bIX n cells.size e∧aO c w v cells.toList
 | .row e t f=>aCr c w e t f (c.hd i)
 | .frz t f=>bB w c.S (.sl t) f [c.hd i]
 | .map k v m=>∃b g clock,c.hd i= .map (some b)∧w.heap[b]? = some (.map g clock)∧g.size=m.length ∧
   ∀j (h:j<m.length) (h':j<g.size),dU w c.S k m[j].1 g[j].key∧dU w c.S v m[j].2 g[j].val
 | .tre e m t f=>∃B,mB w c.S (.sl t) (.sl e m) f [c.hd i] B∧B.Nodup∧ ∀b∈B,c.bl i b
 | .trh e m t f k v=>∃css q,bDC c w i e m t f k v css q
def fA(c:Ctx)(i:Nat):Obj→Nat→Prop
 | .dead,_=>False
 | .frz _ _,_=>False
 | .box _ _,b=>aU (c.hd i)=some b
 | .row _ _ _,b=>aU (c.hd i)=some b
 | .map _ _ _,b=>aU (c.hd i)=some b
 | .tre _ _ _ _,b=>c.bl i b
 | .trh _ _ _ _ _ _,b=>c.bl i b
structure iL(M:Nat→Prop)(w0 w:World):Prop where
 os:w.os=w0.os
 tape:w.tape=w0.tape
 output:w.output=w0.output
 size:w0.heap.size≤w.heap.size
 block:∀b,b<w0.heap.size→ ¬M b→w.heap[b]? = w0.heap[b]?
theorem iL.refl(M:Nat→Prop)(w:World):iL M w w:=⟨rfl,rfl,rfl,Nat.le_refl _,fun _ _ _=>rfl⟩
theorem iL.trans{M:Nat→Prop}{a b c:World}(h:iL M a b)(k:iL M b c):iL M a c :=
 ⟨k.os.trans h.os,k.tape.trans h.tape,k.output.trans h.output,Nat.le_trans h.size k.size,fun i hi f=>(k.block i (Nat.lt_of_lt_of_le hi h.size) f).trans (h.block i hi f)⟩
theorem iL.below{w0 w:World}(h:iL (fun _=>False) w0 w):Below w0.heap.size w0 w:=⟨h.os,h.tape,h.output,h.size,fun k g=>h.block k g (fun f=>f)⟩
theorem iL.of_below{M:Nat→Prop}{w0 w:World}(h:Below w0.heap.size w0 w):iL M w0 w:=⟨h.os,h.tape,h.output,h.size,fun k f _=>h.block k f⟩
structure Perm where
 wr:Nat→Prop
 rd:Nat→Prop
 m:Nat
 roots:Nat→Value
structure Good(M:Perm)(w0:World)(c:Ctx)(h:List Obj)(w:World):Prop where
 n:c.n=h.length
 keeps:iL M.wr w0 w
 sfin:∀b,c.S b→b<w.heap.size
 src:∀b,c.S b→b<w0.heap.size→M.rd b∨M.wr b
 objs:∀i o,h[i]? = some o→aIM c w i o
 own:∀i o b,h[i]? = some o→fA c i o b→(w0.heap.size≤b∨M.wr b)∧b<w.heap.size∧ ¬c.S b
 sep:∀i j oi oj b,h[i]? = some oi→h[j]? = some oj→fA c i oi b→fA c j oj b→i=j
 root:M.m≤c.n∧ ∀i,i<M.m→c.hd i=M.roots i
theorem aCs{M:Perm}{c c':Ctx}(h:M.m≤c.n∧ ∀i,i<M.m→c.hd i=M.roots i)(f:c.le c'):M.m≤c'.n∧ ∀i,i<M.m→c'.hd i=M.roots i :=
 ⟨Nat.le_trans h.1 f.n,fun i hi=>(f.hd i (Nat.lt_of_lt_of_le hi h.1)).trans (h.2 i hi)⟩
structure eI(c:Ctx)(w:World)(c':Ctx)(w':World):Prop where
 le:c.le c'
 same:aCq c.S w w'
theorem eI.refl(c:Ctx)(w:World):eI c w c w:=⟨.refl _,.refl _ _⟩
theorem eI.trans{c1 z I:Ctx}{f q g:World}(h:eI c1 f z q)(k:eI z q I g):eI c1 f I g :=
 ⟨h.le.trans k.le,h.same.trans (k.same.mono h.le.S)⟩
theorem eI.val{c c':Ctx}{w w':World}(h:eI c w c' w'){v:AV}{x:Value}(f:aX c w v x):aX c' w' v x:=f.keep h.le h.same
def look:List (Nat×AV)→Nat→AV
 | [],_=>.junk
 | (k,v)::r,t=>if k=t then v else look r t
def aKo(c:Ctx)(w:World)(env:List (Nat×AV))(f:Array Value):Prop:=∀t,aX c w (look env t) (f.getD t Go.undef)
theorem aKo.keep{c c':Ctx}{w w':World}(h:eI c w c' w'){env:List (Nat×AV)}{f:Array Value}(g:aKo c w env f):aKo c' w' env f :=
 fun t=>h.val (g t)
theorem aKo.put{c:Ctx}{w:World}{env:List (Nat×AV)}{a:Act}{d:Nat}{v:AV}{x:Value}(f:aKo c w env a.tmps)(hd:d<a.tmps.size)(g:aX c w v x) :
  aKo c w ((d,v)::env) (a.put (some d) x).tmps:=by
 intro t;simp only[look,Act.put];by_cases h:d=t
 ·simp_all
 ·rw[if_neg h];have:=f t;simp_all
def rowOf(h:List Obj)(i:Nat)(t:Ty):Option (List t.den) :=
 match h[i]? with
 | some (.row _ g f)=>if e:g=t then some (e▸f) else none
 | some (.frz g f)=>if e:g=t then some (e▸f) else none
 | some (.tre _ _ g f)=>if e:g=t then some (e▸f) else none
 | _=>none
end Go.Vc
namespace Go.Vc
open Go.RowKit
def lM(k:IntKind):Nat:=2^k.bits
def fits(k:IntKind)(x:Int):Prop:=k.min≤x∧x≤k.max
theorem bCm{k:IntKind}(f:k.signed=false)(n:Int):k.wrap n=n%(lM k:Int):=by
 grind[IntKind.signed,IntKind.wrap,IntKind.bits,lM]
theorem aCt{k:IntKind}(f:k.signed=false)(n:Nat):k.wrap (n:Int)=((n%lM k:Nat):Int):=by
 grind[bCm]
theorem bDD{k:IntKind}(f:k.signed=false):k.max=(lM k:Int)-1:=by
 grind[IntKind.signed,IntKind.max,IntKind.bits,lM]
theorem aFZ(k:IntKind):0<lM k:=by grind[lM,Nat.two_pow_pos]
theorem bFV{k:IntKind}(f:k.signed=false){n:Nat}(h:n<lM k):(n:Int)≤k.max:=by grind[bDD]
theorem aR9{k:IntKind}(f:k.signed=false){n:Nat}(h:(n:Int)≤k.max):n<lM k:=by grind[bDD]
theorem aIN{k:IntKind}(g:k.signed=true){n:Int}(h:fits k n):k.wrap n=n:=by
 obtain⟨q,f⟩:=h;cases k<;>simp[IntKind.signed] at g<;>simp[IntKind.min,IntKind.max,IntKind.signed,IntKind.bits] at q f<;>simp[IntKind.wrap,IntKind.signed,IntKind.bits]<;>split<;>omega
theorem aFQ{k:IntKind}(f:k.signed=true)(n:Int):fits k (k.wrap n):=by
 cases k<;>simp[IntKind.signed] at f<;>simp[fits,IntKind.min,IntKind.max,IntKind.wrap,IntKind.signed,IntKind.bits]<;>split<;>omega
section
variable {w:World} {S:Nat→Prop} {c:Ctx}
theorem aMF{k:IntKind}(f:k.signed=false){n:Nat}(h:n<lM k):aX c w (.val (.u k) n) (.int k n) :=
 ⟨⟨rfl,f,bFV f h⟩,(fun h=>by cases h),(fun _ g=>by simp)⟩
theorem aDc{k:IntKind}(f:k.signed=true){n:Int}(h:fits k n):aX c w (.val (.i k) n) (.int k n) :=
 ⟨⟨rfl,f,h.1,h.2⟩,(fun h=>by cases h),(fun _ g=>by simp)⟩
theorem aF0(b:Bool):aX c w (.val .bool b) (.bool b):=⟨rfl,(fun h=>by cases h),(fun _ f=>by simp)⟩
theorem bIY{s:ByteArray}(h:s.size≤maxLen):aX c w (.val .str (aR s)) (.string s):=⟨⟨s,rfl,rfl,h⟩,(fun h=>by cases h),(fun _ f=>by simp)⟩
theorem aKR{k:IntKind}{n:Nat}{v:Value}(h:aX c w (.val (.u k) n) v):v= .int k n∧k.signed=false∧n<lM k:=by
 obtain⟨⟨q,g,z⟩,_,f⟩:=h;have f:=f rfl;cases v<;>simp[Value.cells] at q f
 obtain⟨rfl,rfl⟩:=q;exact⟨rfl,g,aR9 g z⟩
theorem aHX{k:IntKind}{n:Int}{v:Value}(h:aX c w (.val (.i k) n) v):v= .int k n∧k.signed=true∧fits k n:=by
 obtain⟨⟨g,z,q⟩,_,f⟩:=h;have f:=f rfl;cases v<;>simp[Value.cells] at g f
 obtain⟨rfl,rfl⟩:=g;exact⟨rfl,z,q⟩
theorem aHY{b:Bool}{v:Value}(h:aX c w (.val .bool b) v):v= .bool b:=by
 obtain⟨g,_,f⟩:=h;have f:=f rfl;simp_all[aO,bB,Value.cells]
theorem aSa{x:List Nat}{v:Value}(h:aX c w (.val .str x) v):∃s,v= .string s∧aR s=x∧s.size≤maxLen:=by
 obtain⟨⟨s,g,q⟩,_,f⟩:=h;have f:=f rfl;cases v<;>simp[Value.cells] at g f
 simp_all
end
theorem bDE:∃f:IntKind→Nat→Nat→Nat,∀k a b,f k a b=(a+(lM k-b))%lM k:=⟨_,fun _ _ _=>rfl⟩
noncomputable def aKp:IntKind→Nat→Nat→Nat:=Classical.choose bDE
theorem aMj(k:IntKind)(a b:Nat):aKp k a b=(a+(lM k-b))%lM k:=Classical.choose_spec bDE k a b
theorem bDF:∃f:IntKind→Nat→Nat→Nat,∀k a b,f k a b=(a*b)%lM k:=⟨_,fun _ _ _=>rfl⟩
noncomputable def aIO:IntKind→Nat→Nat→Nat:=Classical.choose bDF
theorem aYx(k:IntKind)(a b:Nat):aIO k a b=(a*b)%lM k:=Classical.choose_spec bDF k a b
theorem bDG:∃f:IntKind→Nat→Nat,∀k a,f k a=(0+(lM k-a))%lM k:=⟨_,fun _ _=>rfl⟩
noncomputable def bAj:IntKind→Nat→Nat:=Classical.choose bDG
theorem aYy(k:IntKind)(a:Nat):bAj k a=(0+(lM k-a))%lM k:=Classical.choose_spec bDG k a
noncomputable def aYz(f:BinOp)(k:IntKind)(a b:Nat):Prop×AV :=
 match f with
 | .add=>(True,.val (.u k) ((a+b)%lM k))
 | .sub=>(True,.val (.u k) (aKp k a b))
 | .mul=>(True,.val (.u k) (aIO k a b))
 | .quo=>(b≠0,.val (.u k) (a/b))
 | .rem=>(b≠0,.val (.u k) (a%b))
 | .and=>(True,.val (.u k) (a&&&b))
 | .or=>(True,.val (.u k) (a|||b))
 | .xor=>(True,.val (.u k) (a^^^b))
 | .andNot=>(True,.val (.u k) (a&&&(lM k-1-b)))
 | .eql=>(True,.val .bool (decide (a=b)))
 | .neq=>(True,.val .bool (!decide (a=b)))
 | .lss=>(True,.val .bool (decide (a<b)))
 | .leq=>(True,.val .bool (decide (a≤b)))
 | .gtr=>(True,.val .bool (decide (b<a)))
 | .geq=>(True,.val .bool (decide (b≤a)))
 | _=>(False,.junk)
def bFW(f:BinOp)(k:IntKind)(a b:Int):Prop×AV :=
 match f with
 | .add=>(fits k (a+b),.val (.i k) (a+b))
 | .sub=>(fits k (a-b),.val (.i k) (a-b))
 | .mul=>(fits k (a*b),.val (.i k) (a*b))
 | .quo=>(b≠0∧fits k (a.tdiv b),.val (.i k) (a.tdiv b))
 | .rem=>(b≠0,.val (.i k) (a.tmod b))
 | .and=>(True,.val (.i k) (k.wrap ((BitVec.ofInt k.bits a&&&BitVec.ofInt k.bits b).toNat:Int)))
 | .or=>(True,.val (.i k) (k.wrap ((BitVec.ofInt k.bits a|||BitVec.ofInt k.bits b).toNat:Int)))
 | .xor=>(True,.val (.i k) (k.wrap ((BitVec.ofInt k.bits a^^^BitVec.ofInt k.bits b).toNat:Int)))
 | .eql=>(True,.val .bool (decide (a=b)))
 | .neq=>(True,.val .bool (!decide (a=b)))
 | .lss=>(True,.val .bool (decide (a<b)))
 | .leq=>(True,.val .bool (decide (a≤b)))
 | .gtr=>(True,.val .bool (decide (b<a)))
 | .geq=>(True,.val .bool (decide (b≤a)))
 | _=>(False,.junk)
def aOF:List Nat→List Nat→Bool
 | _,[]=>false
 | [],_::_=>true
 | a::x,b::y=>decide (a<b)||(decide (a=b)&&aOF x y)
def bFX(f:BinOp)(a b:List Nat):Prop×AV :=
 match f with
 | .add=>(a.length+b.length≤maxLen,.val .str (a++b))
 | .eql=>(True,.val .bool (decide (a=b)))
 | .neq=>(True,.val .bool (!decide (a=b)))
 | .lss=>(True,.val .bool (aOF a b))
 | .leq=>(True,.val .bool (aOF a b||decide (a=b)))
 | .gtr=>(True,.val .bool (!(aOF a b||decide (a=b))))
 | .geq=>(True,.val .bool (!aOF a b))
 | _=>(False,.junk)
def bIZ(f:BinOp)(a b:Bool):Prop×AV :=
 match f with
 | .eql=>(True,.val .bool (a == b))
 | .neq=>(True,.val .bool (a != b))
 | _=>(False,.junk)
def shU(f:BinOp)(k:IntKind)(a n:Nat):Prop×AV :=
 match f with
 | .shl=>(True,.val (.u k) ((a*2^n)%lM k))
 | .shr=>(True,.val (.u k) (a/2^n))
 | _=>(False,.junk)
def shI(f:BinOp)(k:IntKind)(a:Int)(n:Nat):Prop×AV :=
 match f with
 | .shl=>(fits k (a*2^n),.val (.i k) (a*2^n))
 | .shr=>(True,.val (.i k) (a.fdiv (2^n)))
 | _=>(False,.junk)
section
variable {P:Program} {w:World} {c:Ctx}
theorem aBW{k:IntKind}{a:Nat}(f:a<lM k):(BitVec.ofInt k.bits (a:Int)).toNat=a:=by
 simp only[BitVec.ofInt_natCast,BitVec.toNat_ofNat];exact Nat.mod_eq_of_lt f
theorem aYA(z:BinOp)(t:TypeId){k:IntKind}{a b:Nat}(f:k.signed=false)(g:a<lM k)(hb:b<lM k)(h:(aYz z k a b).1) :
  ∃v,(binOp z t (.int k a) (.int k b)).run P w= .ok v w∧aX c w (aYz z k a b).2 v:=by
 have hp:=aFZ k;cases z<;>simp only[aYz] at h ⊢
 case add=>exact⟨.int k (((a+b)%lM k:Nat):Int),by simp only[binOp,Op.intArith,ne_eq,not_true_eq_false,if_false]; rw[← aCt f]; rfl,aMF f (Nat.mod_lt _ hp)⟩
 case sub =>
  rw[aMj];refine⟨_,by simp only[binOp,Op.intArith,ne_eq,not_true_eq_false,if_false]; rfl,?_⟩;rw[bCm f,show ((a:Int)-b)%(lM k:Int)=(((a+(lM k-b))%lM k:Nat):Int) from by
   rw[Int.natCast_emod,Int.natCast_add,Int.ofNat_sub (by omega),show (a:Int)+((lM k:Int)-b)=(a-b)+lM k from by omega,Int.add_emod_right]]
  exact aMF f (Nat.mod_lt _ hp)
 case mul=>rw[aYx]; exact⟨.int k (((a*b)%lM k:Nat):Int),by simp only[binOp,Op.intArith,ne_eq,not_true_eq_false,if_false]; rw[← aCt f,Int.natCast_mul]; rfl,aMF f (Nat.mod_lt _ hp)⟩
 case quo =>
  have q:¬(b:Int)=0:=by omega
  refine⟨.int k ((a/b:Nat):Int),?_,aMF f (Nat.lt_of_le_of_lt (Nat.div_le_self _ _) g)⟩;have e:k.wrap ((a:Int).tdiv b)=((a/b:Nat):Int):=by
   rw[show (a:Int).tdiv b=((a/b:Nat):Int) from by rfl,aCt f,Nat.mod_eq_of_lt (Nat.lt_of_le_of_lt (Nat.div_le_self _ _) g)]
  simp only[binOp,Op.intDiv,q,e,ne_eq,not_true_eq_false,if_false]; rfl
 case rem =>
  have q:¬(b:Int)=0:=by omega
  refine⟨.int k ((a%b:Nat):Int),?_,aMF f (Nat.lt_of_le_of_lt (Nat.mod_le _ _) g)⟩;have e:(a:Int).tmod b=((a%b:Nat):Int):=by rfl
  simp only[binOp,Op.intDiv,q,e,ne_eq,not_true_eq_false,if_false]; rfl
 case and =>
  have e:k.wrap ((BitVec.ofInt k.bits (a:Int)&&&BitVec.ofInt k.bits (b:Int)).toNat:Int)=((a&&&b:Nat):Int):=by
   rw[BitVec.toNat_and,aBW g,aBW hb,aCt f,Nat.mod_eq_of_lt (Nat.lt_of_le_of_lt Nat.and_le_left g)]
  exact⟨_,by simp only[binOp,Op.intBits,ne_eq,not_true_eq_false,if_false,e]; rfl,aMF f (Nat.lt_of_le_of_lt Nat.and_le_left g)⟩
 case or =>
  have I:a|||b<lM k:=Nat.or_lt_two_pow g hb
  have e:k.wrap ((BitVec.ofInt k.bits (a:Int)|||BitVec.ofInt k.bits (b:Int)).toNat:Int)=((a|||b:Nat):Int):=by
   grind[BitVec.toNat_or,aBW,aCt,Nat.mod_eq_of_lt]
  exact⟨_,by simp only[binOp,Op.intBits,ne_eq,not_true_eq_false,if_false,e]; rfl,aMF f I⟩
 case xor =>
  have I:a^^^b<lM k:=Nat.xor_lt_two_pow g hb;have e:k.wrap ((BitVec.ofInt k.bits (a:Int)^^^BitVec.ofInt k.bits (b:Int)).toNat:Int)=((a^^^b:Nat):Int):=by
   grind[BitVec.toNat_xor,aBW,aCt,Nat.mod_eq_of_lt]
  exact⟨_,by simp only[binOp,Op.intBits,ne_eq,not_true_eq_false,if_false,e]; rfl,aMF f I⟩
 case andNot =>
  have e:k.wrap ((BitVec.ofInt k.bits (a:Int)&&& ~~~ BitVec.ofInt k.bits (b:Int)).toNat:Int)=((a&&&(lM k-1-b):Nat):Int):=by
   rw[BitVec.toNat_and,BitVec.toNat_not,aBW g,aBW hb,aCt f];rw[Nat.mod_eq_of_lt (Nat.lt_of_le_of_lt Nat.and_le_left g)];rfl
  exact⟨_,by simp only[binOp,Op.intBits,ne_eq,not_true_eq_false,if_false,e]; rfl,aMF f (Nat.lt_of_le_of_lt Nat.and_le_left g)⟩
 case eql=>exact⟨.bool (decide (a=b)),by simp[binOp,Op.intCmp]; grind,aF0 _⟩
 case neq=>exact⟨.bool (!decide (a=b)),by simp[binOp,Op.intCmp]; grind,aF0 _⟩
 case lss=>exact⟨.bool (decide (a<b)),by simp[binOp,Op.intCmp],aF0 _⟩
 case leq=>exact⟨.bool (decide (a≤b)),by simp[binOp,Op.intCmp],aF0 _⟩
 case gtr=>exact⟨.bool (decide (b<a)),by simp[binOp,Op.intCmp],aF0 _⟩
 case geq=>exact⟨.bool (decide (b≤a)),by simp[binOp,Op.intCmp],aF0 _⟩
theorem bI0(g:BinOp)(t:TypeId){k:IntKind}{a b:Int}(f:k.signed=true)(q:fits k a)(hb:fits k b)(h:(bFW g k a b).1) :
  ∃v,(binOp g t (.int k a) (.int k b)).run P w= .ok v w∧aX c w (bFW g k a b).2 v:=by
 cases g<;>simp only[bFW] at h ⊢
 case add=>exact⟨_,by simp only[binOp,Op.intArith,ne_eq,not_true_eq_false,if_false,aIN f h]; rfl,aDc f h⟩
 case sub=>exact⟨_,by simp only[binOp,Op.intArith,ne_eq,not_true_eq_false,if_false,aIN f h]; rfl,aDc f h⟩
 case mul=>exact⟨_,by simp only[binOp,Op.intArith,ne_eq,not_true_eq_false,if_false,aIN f h]; rfl,aDc f h⟩
 case quo=>exact⟨_,by simp only[binOp,Op.intDiv,ne_eq,not_true_eq_false,if_false,h.1,aIN f h.2]; rfl,aDc f h.2⟩
 case rem =>
  refine⟨_,by simp only[binOp,Op.intDiv,ne_eq,not_true_eq_false,if_false,h]; rfl,aDc f ?_⟩;obtain⟨J,I⟩:=q;have L:((a.tmod b).natAbs)≤a.natAbs:=by rw[Int.natAbs_tmod]; exact Nat.mod_le _ _
  have hs:0≤a→0≤a.tmod b:=fun h=>Int.tmod_nonneg _ h;have z:a≤0→a.tmod b≤0:=fun h=>by
   have:=Int.tmod_nonneg b (show 0≤ -a by omega);simp_all
  have hm:k.min≤0∧0≤k.max:=by cases k<;>simp[IntKind.min,IntKind.max,IntKind.signed,IntKind.bits]
  constructor<;>omega
 case and=>exact⟨_,by simp only[binOp,Op.intBits,ne_eq,not_true_eq_false,if_false]; rfl,aDc f (aFQ f _)⟩
 case or=>exact⟨_,by simp only[binOp,Op.intBits,ne_eq,not_true_eq_false,if_false]; rfl,aDc f (aFQ f _)⟩
 case xor=>exact⟨_,by simp only[binOp,Op.intBits,ne_eq,not_true_eq_false,if_false]; rfl,aDc f (aFQ f _)⟩
 case eql=>exact⟨.bool (decide (a=b)),by simp[binOp,Op.intCmp]; rfl,aF0 _⟩
 case neq=>exact⟨.bool (!decide (a=b)),by simp[binOp,Op.intCmp]; rfl,aF0 _⟩
 case lss=>exact⟨.bool (decide (a<b)),by simp[binOp,Op.intCmp],aF0 _⟩
 case leq=>exact⟨.bool (decide (a≤b)),by simp[binOp,Op.intCmp],aF0 _⟩
 case gtr=>exact⟨.bool (decide (b<a)),by simp[binOp,Op.intCmp],aF0 _⟩
 case geq=>exact⟨.bool (decide (b≤a)),by simp[binOp,Op.intCmp],aF0 _⟩
theorem bCn(f:BinOp)(t:TypeId){k k':IntKind}{a n:Nat}(g:k.signed=false)(q:a<lM k)(h:(shU f k a n).1) :
  ∃v,(binOp f t (.int k a) (.int k' n)).run P w= .ok v w∧aX c w (shU f k a n).2 v:=by
 cases f<;>simp only[shU] at h ⊢
 case shl =>
  refine⟨_,by simp only[binOp,Op.shift,show ¬((n:Int)<0) from by omega,if_false]; rfl,?_⟩;have e:k.wrap ((a:Int)*2^min (n:Int).toNat k.bits)=(((a*2^n)%lM k:Nat):Int):=by
   rw[show ((a:Int)*2^min (n:Int).toNat k.bits)=((a*2^min n k.bits:Nat):Int) from by simp,aCt g]
   congr 1
   by_cases z:n≤k.bits
   ·simp_all
   ·rw[Nat.min_eq_right (by omega)];have e1:a*2^n=a*2^(n-k.bits)*lM k:=by
     rw[lM,Nat.mul_assoc,← Nat.pow_add]; grind
    rw[e1,show a*2^k.bits=a*lM k from rfl,Nat.mul_mod_left,Nat.mul_mod_left]
  rw[e];exact aMF g (Nat.mod_lt _ (aFZ k))
 case shr =>
  refine⟨_,by simp only[binOp,Op.shift,show ¬((n:Int)<0) from by omega,if_false]; rfl,?_⟩;have e:(a:Int).fdiv (2^min (n:Int).toNat k.bits)=((a/2^n:Nat):Int):=by
   rw[Int.fdiv_eq_ediv_of_nonneg _ (by grind),show ((2:Int)^min (n:Int).toNat k.bits)=((2^min n k.bits:Nat):Int) from by simp,← Int.natCast_ediv]
   congr 1
   by_cases z:n≤k.bits
   ·simp_all
   ·rw[Nat.min_eq_right (by omega),Nat.div_eq_of_lt (show a<2^k.bits from q),Nat.div_eq_of_lt (Nat.lt_of_lt_of_le q (Nat.pow_le_pow_right (by omega) (by omega)))]
  rw[e];exact aMF g (Nat.lt_of_le_of_lt (Nat.div_le_self _ _) q)
theorem bCo(g:BinOp)(t:TypeId){k k':IntKind}{a:Int}{n:Nat}(q:k.signed=true)(I:fits k a)(O:g= .shl→n≤k.bits)(h:(shI g k a n).1) :
  ∃v,(binOp g t (.int k a) (.int k' n)).run P w= .ok v w∧aX c w (shI g k a n).2 v:=by
 cases g<;>simp only[shI] at h ⊢
 case shl =>
  refine⟨_,by simp only[binOp,Op.shift,show ¬((n:Int)<0) from by omega,if_false]; rfl,?_⟩;rw[show min (n:Int).toNat k.bits=n from by simp_all,aIN q h];exact aDc q h
 case shr =>
  refine⟨_,by simp only[binOp,Op.shift,show ¬((n:Int)<0) from by omega,if_false]; rfl,?_⟩;have hb: -(2^k.bits:Int)≤a∧a<2^k.bits:=by
   obtain⟨L,J⟩:=I;cases k<;>simp[IntKind.signed] at q<;>simp[IntKind.min,IntKind.max,IntKind.signed,IntKind.bits] at L J ⊢ <;> omega
  have f:∀m:Nat,(0:Int)<2^m:=fun m=>Int.pow_pos (by omega);have e:a.fdiv (2^min (n:Int).toNat k.bits)=a.fdiv (2^n):=by
   by_cases O:n≤k.bits
   ·simp_all
   ·rw[show min (n:Int).toNat k.bits=k.bits from by omega];have N:(2:Int)^k.bits≤2^n:=by
     have:=Nat.pow_le_pow_right (n:=2) (by omega) (show k.bits≤n by omega);grind
    rw[Int.fdiv_eq_ediv_of_nonneg _ (Int.le_of_lt (f _)),Int.fdiv_eq_ediv_of_nonneg _ (Int.le_of_lt (f _))];by_cases h0:0≤a
    ·rw[Int.ediv_eq_zero_of_lt h0 hb.2,Int.ediv_eq_zero_of_lt h0 (by omega)]
    ·have Y:a/(2^k.bits:Int)= -1:=by
      grind[Int.ediv_eq_neg_one_of_neg_of_le]
     have U:a/(2^n:Int)= -1:=Int.ediv_eq_neg_one_of_neg_of_le (by omega) (by omega);omega
  rw[e];refine aDc q ?_;obtain⟨L,J⟩:=I;rw[Int.fdiv_eq_ediv_of_nonneg _ (Int.le_of_lt (f _))];have hm:k.min≤0∧0≤k.max:=by cases k<;>simp[IntKind.min,IntKind.max,IntKind.signed,IntKind.bits]
  have z:(1:Int)≤2^n:=by grind
  constructor
  ·by_cases h0:0≤a
   ·have:=Int.ediv_nonneg h0 (Int.le_of_lt (f n)); omega
   ·have:a≤a/2^n:=by
     rw[Int.le_ediv_iff_mul_le (f n)];have:=Int.mul_le_mul_of_nonpos_left (a:=a) (b:=2^n) (c:=1) (by omega) z;omega
    omega
  ·by_cases h0:0≤a
   ·have:=Int.ediv_le_self (2^n) h0; omega
   ·have:=Int.ediv_neg_of_neg_of_pos (show a<0 by omega) (f n); omega
end
end Go.Vc
namespace Go.Vc
open Go.RowKit
def Tab:=TypeId→Option Ty
def eM(T:Tab):List Field→Nat→Ty→Bool
 | [],_,.unit=>true
 | f::fs,off,.pair a r=>decide (T f.type=some a)&&decide (f.offset=off)&&decide (f.name ≠ "_")&&decide (0<a.cells)&&eM T fs (off+a.cells) r
 | _,_,_=>false
def bDH(T:Tab):List Field→Bool
 | [f,q,g]=>decide (T f.type=some (.i .i64))&&decide (f.offset=0)&&decide (T q.type=some .str)&&decide (q.offset=1)&&decide (T g.type=some (.sl .expr))&&decide (g.offset=2)
 | _=>false
def jI(T:Tab)(d:TypeDesc)(c:Ty):Bool :=
 match c,d with
 | .bool,.bool=>true
 | .u k,.int g=>decide (k=g)&& !k.signed
 | .i k,.int g=>decide (k=g)&&k.signed
 | .str,.string=>true
 | .sl c,.slice e=>decide (T e=some c)&&decide (0<c.cells)
 | .unit,.struct f=>eM T f.toList 0 .unit
 | .pair a b,.struct f=>eM T f.toList 0 (.pair a b)
 | .arr n c,.array q e=>decide (n=q)&&decide (T e=some c)&&decide (0<c.cells)&&decide (1<n∧n≤1048576)
 | .expr,.struct f=>bDH T f.toList
 | .rp c,.pointer e=>decide (T e=some c)
 | .clo _ _,.func _ _ _=>true
 | .nili,.interface _=>true
 | .nilp,.pointer _=>true
 | .nilf,.func _ _ _=>true
 | _,_=>false
def dI:Ty→List Value
 | .bool=>[.bool false]
 | .u k=>[.int k 0]
 | .i k=>[.int k 0]
 | .str=>[.string ⟨#[]⟩]
 | .sl _=>[.slice none 0 0]
 | .unit=>[]
 | .pair a b=>dI a++dI b
 | .arr n t=>(List.replicate n (dI t)).flatten
 | .expr=>[.int .i64 0,.string ⟨#[]⟩,.slice none 0 0]
 | .rp _=>[.pointer none]
 | .clo _ _=>[.nilFunc]
 | .ifc _ _=>[.nilIface]
 | .nili=>[.nilIface]
 | .nilp=>[.pointer none]
 | .nilf=>[.nilFunc]
def Ty.okB:Ty→Bool
 | .u k=> !k.signed
 | .i k=>k.signed
 | .sl t=>t.okB
 | .pair a b=>a.okB&&b.okB
 | .arr _ t=>t.okB
 | .rp _=>false
 | .clo _ _=>false
 | .ifc _ _=>false
 | .nili=>false
 | _=>true
def oS(c:Ty):Value:=if c.isAgg then .agg (dI c).toArray else (dI c).headD Go.undef
def bI1:Value→Value→Bool
 | .bool a,.bool b=>a == b
 | .int k a,.int f b=>decide (k=f)&&decide (a=b)
 | .string a,.string b=>decide (a.data.toList=b.data.toList)
 | .slice none 0 0,.slice none 0 0=>true
 | .pointer none,.pointer none=>true
 | .nilFunc,.nilFunc=>true
 | _,_=>false
def bEW:List Value→List Value→Bool
 | [],[]=>true
 | a::r,b::s=>bI1 a b&&bEW r s
 | _,_=>false
def veq:Value→Value→Bool
 | .agg f,.agg g=>bEW f.toList g.toList
 | a,b=>bI1 a b
theorem bDI{a b:Value}(h:bI1 a b=true):a=b:=by
 unfold bI1 at h;split at h<;>simp at h
 ·rw[h]
 ·simp_all
 ·rename_i x y; obtain⟨⟨x⟩⟩:=x; simp_all
 all_goals rfl
theorem bDJ:∀ {a b:List Value},bEW a b=true→a=b
 | [],[],_=>rfl
 | [],_::_,h=>by simp[bEW] at h
 | _::_,[],h=>by simp[bEW] at h
 | a::r,b::s,h=>by simp only[bEW,Bool.and_eq_true] at h; rw[bDI h.1,bDJ h.2]
theorem bLj{a b:Value}(h:veq a b=true):a=b:=by
 unfold veq at h;split at h
 ·rename_i x y; have:=bDJ h; simp_all
 ·exact bDI h
def Ty.byt:Ty→Nat
 | .bool=>1
 | .u k=>k.bits/8
 | .i k=>k.bits/8
 | .str=>16
 | .sl _=>24
 | c=>24*c.cells+1
def tyB(P:Program)(T:Tab)(t:TypeId)(c:Ty):Bool :=
 match P.info? t,P.underlying t with
 | some i,some d=>decide (i.size=c.cells)&&(!c.okB||(match i.zero with|some z=>veq z (oS c)|none=>false))&&decide (i.bytes≤c.byt∧(c= .u .u8→i.bytes=1))&&jI T d c&& !P.stoodInHeld t&&(!c.isAgg|| !P.eqGuardType P.depth t)
 | _,_=>false
def aMW:List (TypeId×Ty)→Tab
 | [],_=>none
 | (k,v)::r,t=>if k=t then some v else aMW r t
def bM7(P:Program)(l:List (TypeId×Ty)):Bool:=l.all fun p=>tyB P (aMW l) p.1 p.2
structure aFo(P:Program)(T:Tab)(t:TypeId)(c:Ty):Prop where
 info:∃i,P.info? t=some i∧i.size=c.cells∧(c.okB=true→i.zero=some (oS c))∧i.bytes≤c.byt
 desc:∃d,P.underlying t=some d∧jI T d c=true
 held:P.stoodInHeld t=false
 guard:c.isAgg=true→P.eqGuardType P.depth t=false
 byte:c= .u .u8→ ∀i,P.info? t=some i→i.bytes=1
def lZ(P:Program)(T:Tab):Prop:=∀t c,T t=some c→aFo P T t c
theorem bI2{P:Program}{T:Tab}{t:TypeId}{c:Ty}(h:tyB P T t c=true):aFo P T t c:=by
 unfold tyB at h;split at h
 ·rename_i i d hi hd;simp only[Bool.and_eq_true,decide_eq_true_eq,Bool.not_eq_true'] at h;obtain⟨⟨⟨⟨⟨L,g⟩,I⟩,J⟩,z⟩,O⟩:=h;refine⟨⟨i,hi,L,fun f=>?_,I.1⟩,⟨d,hd,J⟩,z,fun N=>by simp_all,fun e U q=>by simp_all⟩;rw[f] at g;simp only[Bool.not_true,Bool.false_or] at g;grind[bLj]
 grind
theorem aXE{l:List (TypeId×Ty)}{t:TypeId}{c:Ty}(h:aMW l t=some c):(t,c)∈l:=by
 induction l with
 | nil=>cases h
 | cons p r f =>
  grind[aMW]
theorem bFY{P:Program}{l:List (TypeId×Ty)}(h:bM7 P l=true):lZ P (aMW l):=fun t c hc=>by
 have:=List.all_eq_true.1 h _ (aXE hc);exact bI2 this
section
variable {P:Program} {T:Tab}
theorem aFo.agg{t:TypeId}{c:Ty}(h:aFo P T t c):(match P.underlying t with|some (.struct _)|some (.array _ _)=>true|_=>false)=c.isAgg:=by
 obtain⟨d,hd,hb⟩:=h.desc;rw[hd];cases c<;>cases d<;>simp_all[jI,Ty.isAgg]
theorem aHZ{t:TypeId}{c:Ty}(h:aFo P T t c)(w:World):(isAgg t).run P w= .ok c.isAgg w:=by
 have f:=h.agg;obtain⟨d,hd,hb⟩:=h.desc;rw[hd] at f;rw[← f];simp[isAgg,underlying,hd];split<;>simp_all
theorem fW{t:TypeId}{c:Ty}(h:aFo P T t c)(w:World):(sizeOf t).run P w= .ok c.cells w:=by
 obtain⟨i,hi,hs,_,_⟩:=h.info;simp[sizeOf,typeInfo,hi,hs]
theorem bG{t:TypeId}{d:TypeDesc}(h:P.underlying t=some d)(w:World):(underlying t).run P w= .ok d w:=by
 simp[underlying,h]
theorem vX{t:TypeId}{c:Ty}(h:aFo P T t c)(f:c.okB=true)(w:World):(zeroValue t).run P w= .ok (oS c) w:=by
 obtain⟨i,hi,_,g,_⟩:=h.info;simp[zeroValue,typeInfo,hi,g f]
end
theorem gN(w:World)(S:Nat→Prop):∀c:Ty,c.okB=true→bB w S c c.zero (dI c)
 | .bool,_=>rfl
 | .nilp,_=>rfl
 | .nilf,_=>rfl
 | .u k,h=>⟨rfl,by grind[Ty.okB],by rw[bDD (by grind[Ty.okB])]; have:=aFZ k; show ((0:Nat):Int)≤_; omega⟩
 | .i k,h=>⟨rfl,by grind[Ty.okB],by cases k<;>simp[IntKind.min,IntKind.max,IntKind.signed,IntKind.bits,Ty.zero]⟩
 | .str,_=>⟨⟨#[]⟩,rfl,rfl,Nat.zero_le _⟩
 | .sl t,_=>⟨none,0,0,rfl,rfl,Nat.le_refl _,by omega,.inl rfl⟩
 | .unit,_=>rfl
 | .pair a b,h=>by
  simp only[Ty.okB,Bool.and_eq_true] at h;exact⟨dI a,dI b,rfl,gN w S a h.1,gN w S b h.2⟩
 | .arr n t,h=>by
  refine⟨by simp[Ty.zero],List.replicate n (dI t),rfl,by simp[Ty.zero],fun i g f=>?_⟩;simp only[Ty.zero,List.getElem_replicate];exact gN w S t (by grind[Ty.okB])
 | .expr,_=>RepEx.mk 0 ⟨#[]⟩ [] none 0 0 (fun _=>[]) (by simp[IntKind.min,IntKind.max,IntKind.signed,IntKind.bits]) (Nat.zero_le _) rfl (Nat.le_refl _) (Nat.zero_le _) (fun i h=>by cases h) (.inl rfl)
theorem aKS(w:World)(S:Nat→Prop)(c:Ty)(h:c.okB=true):dU w S c c.zero (oS c):=by
 have f:=gN w S c h;unfold dU oS;split
 ·simp_all
 ·have g:=bB.length _ _ _ f;cases c<;>simp_all[Ty.isAgg,dI]
theorem aX.toV{c:Ctx}{w:World}{t:Ty}{x:t.den}{v:Value}(h:aX c w (.val t x) v):dU w c.S t x v:=by
 obtain⟨q,g,f⟩:=h;exact dU.of_cells g f q
theorem aX.ofV{c:Ctx}{w:World}{t:Ty}{x:t.den}{v:Value}(h:dU w c.S t x v):aX c w (.val t x) v:=by
 refine⟨h.cells,?_,?_⟩
 ·intro f; unfold dU at h; rw[if_pos (show t.isAgg=true from f)] at h; grind
 ·intro f g hv;unfold dU at h;rw[if_neg (by simpa using (show t.isAgg=false from f))] at h;have:=bB.one t x _ h v (by simp);subst hv; exact this
theorem bCp{cs:Array Value}{pre ds post:List Value}(h:cs.toList=pre++ds++post):(cs.extract pre.length (pre.length+ds.length)).toList=ds:=by
 simp_all
theorem aKT{cs:Array Value}{pre ds post:List Value}(h:cs.toList=pre++ds++post)(j:Nat){v:Value}(f:ds[j]? = some v):cs[pre.length+j]? = some v:=by
 rw[← Array.getElem?_toList,h,List.append_assoc,List.getElem?_append_right (by omega)];grind
section
variable {P:Program} {T:Tab}
theorem aF1{t:TypeId}{c:Ty}(f:aFo P T t c){cs:Array Value}{pre ds post:List Value}(g:cs.toList=pre++ds++post){w:World}{S:Nat→Prop}{x:c.den}(hd:bB w S c x ds)(w':World) :
  ∃v,(part t cs pre.length).run P w'= .ok v w'∧dU w S c x v:=by
 have I:=bB.length _ _ _ hd;by_cases q:c.isAgg=true
 ·refine⟨.agg (cs.extract pre.length (pre.length+c.cells)),?_,?_⟩
  ·simp[part,aHZ f,q,fW f,Result.andThen]
  ·unfold dU;simp_all
 ·have z:c.cells=1:=by cases c<;>simp_all[Ty.isAgg,Ty.cells]
  obtain⟨v,rfl⟩:∃v,ds= [v]:=by
   match ds,I.trans z with
   | [v],_=>simp_all
  refine⟨v,?_,?_⟩
  ·have:=aKT g 0 (v:=v) rfl;simp only[Nat.add_zero] at this;simp[part,aHZ f,q,this,Result.andThen]
  simp_all[dU,if_neg]
def Ty.cmpB:Ty→Bool
 | .bool=>true
 | .u _=>true
 | .i _=>true
 | .str=>true
 | .unit=>true
 | .pair a b=>a.cmpB&&b.cmpB
 | .arr _ t=>t.cmpB
 | _=>false
def Ty.eqb:(t:Ty)→t.den→t.den→Bool
 | .bool,x,y=>x == y
 | .u _,x,y=>decide (x=y)
 | .i _,x,y=>decide (x=y)
 | .str,x,y=>decide (x=y)
 | .unit,_,_=>true
 | .pair a b,x,y=>a.eqb x.1 y.1&&b.eqb x.2 y.2
 | .arr _ t,x,y=>(List.zipWith t.eqb x y).all id
 | _,_,_=>false
def Ty.deep:Ty→Nat
 | .pair a b=>max (a.deep+1) b.deep
 | .arr _ t=>t.deep+1
 | _=>0
theorem aUq{a b:ByteArray}(h:aR a=aR b):a=b:=by
 obtain⟨⟨a⟩⟩:=a;simp_all[aR,Function.Injective,UInt8.toNat_inj,List.map_inj_right]
theorem bLk(a b:ByteArray):(a.toList == b.toList)=decide (aR a=aR b):=by
 rw[Bool.eq_iff_iff,ByteArray.toList_eq,ByteArray.toList_eq];simp only[beq_iff_eq,decide_eq_true_eq];grind[aR,aUq]
theorem aOG(hT:lZ P T)(d:Nat){w:World}{S:Nat→Prop}(ih:∀(t:TypeId) (c:Ty) (x y:c.den) (v u:Value) (w':World),T t=some c→c.cmpB=true→c.deep≤d→dU w S c x v→dU w S c y u→(Op.equalIn (d+1) t v u).run P w'= .ok (c.eqb x y) w')
  {xs ys:Array Value}:∀(fs:List Field) (off:Nat) (c:Ty) (x y:c.den) (pre ds q z post g:List Value) (w':World),eM T fs off c=true→c.cmpB=true→c.deep≤d+1 →
   xs.toList=pre++ds++post→pre.length=off→bB w S c x ds→ys.toList=q++z++g→q.length=off→bB w S c y z →
   (Op.eqFields (d+1) xs ys fs).run P w'= .ok (c.eqb x y) w'
 | [],off,c,x,y,pre,ds,q,z,post,g,w',O,hc,L,hx,hp,U,hy,I,N=>by
  cases c<;>simp[eM] at O
  rfl
 | f::fs,off,c,x,y,pre,ds,q,z,post,g,w',O,hc,L,hx,hp,U,hy,I,N=>by
  cases c<;>simp only[eM,Bool.false_eq_true] at O
  case pair a b =>
   simp only[Bool.and_eq_true,decide_eq_true_eq] at O;obtain⟨⟨⟨⟨h1,h2⟩,h3⟩,h4⟩,h5⟩:=O;simp only[Ty.cmpB,Bool.and_eq_true] at hc;simp only[Ty.deep] at L;obtain⟨c1,c2,rfl,r1,r2⟩:=U;obtain⟨Z,Y,rfl,J,r2'⟩:=N;subst h2;have hl:=bB.length _ _ _ r1;have hl':=bB.length _ _ _ J;obtain⟨va,e1,q1⟩:=aF1 (hT _ _ h1) (cs:=xs) (pre:=pre) (ds:=c1) (post:=c2++post) (by simp_all) r1 w';obtain⟨vb,e2,q2⟩:=aF1 (hT _ _ h1) (cs:=ys) (pre:=q) (ds:=Z) (post:=Y++g) (by simp_all) J w';have e3:=ih f.type a x.1 y.1 va vb w' h1 hc.1 (by omega) q1 q2;rw[hp] at e1;rw[I] at e2;have rec_:=aOG hT d ih (xs:=xs) (ys:=ys) fs (f.offset+a.cells) b x.2 y.2 (pre++c1) c2 (q++Z) Y post g w' h5 hc.2 (by omega) (by simp_all) (by simp_all) r2 (by simp_all) (by simp_all) r2';simp only[Op.eqFields,Sem.run_ite,Sem.run_bind,h3,ne_eq,not_false_eq_true,if_true,e1,e2,e3,Result.andThen_ok];cases hq:a.eqb x.1 y.1
   all_goals simp_all[Ty.eqb]
def aOH(d:Nat)(e:TypeId)(n:Nat)(xs ys:Array Value):List Nat→Sem Bool
 | []=>pure true
 | i::r=>do
  let a ← part e xs (i*n)
  let b ← part e ys (i*n)
  let q ← Op.equalIn d e a b
  if (!q)=true then pure false else aOH d e n xs ys r
theorem run_equalIn_array(d:Nat)(t e:TypeId)(len n:Nat)(xs ys:Array Value)(w:World)(ht:P.underlying t=some (.array len e))(g:(sizeOf e).run P w= .ok n w) :
  (Op.equalIn (d+1) t (.agg xs) (.agg ys)).run P w=(aOH d e n xs ys (List.range' 0 len)).run P w:=by
 simp only[Op.equalIn,Sem.run_bind,bG ht,Result.andThen_ok,g];simp only[Std.Legacy.Range.forIn_eq_forIn_range',Std.Legacy.Range.size];simp only[Nat.sub_zero,Nat.add_sub_cancel,Nat.div_one];generalize List.range' 0 len=N;clear ht g
 induction N generalizing w with
 | nil=>rfl
 | cons i r O =>
  simp only[List.forIn_cons,aOH,Sem.run_bind];generalize (part e xs (i*n)).run P w=r1;cases r1 with
  | ok a f =>
   simp only[Result.andThen_ok];generalize (part e ys (i*n)).run P f=L;cases L with
   | ok b z =>
    simp only[Result.andThen_ok];generalize (Op.equalIn d e a b).run P z=J;cases J with
    | ok q I =>
     simp_all
    | halt x I=>rfl
   | halt x z=>rfl
  | halt x f=>rfl
theorem oT{t:Ty}{css:List (List Value)}(f:∀i (h:i<css.length),(css[i]).length=t.cells):∀(i:Nat) (h:i<css.length),∃pre post,css.flatten=pre++css[i]++post∧pre.length=i*t.cells
 | 0,h=>by
  cases css with
  | nil=>simp at h
  | cons c r=>simp_all
 | i+1,h=>by
  cases css with
  | nil=>simp at h
  | cons c r =>
   obtain⟨pre,post,g,q⟩:=oT (t:=t) (css:=r) (fun j z=>by have:=f (j+1) (by simp_all); simp_all) i (by simp_all);refine⟨c++pre,post,by simp[g],?_⟩;have h0:=f 0 (by simp);grind
theorem aSb(J:lZ P T)(d:Nat){w:World}{S:Nat→Prop}{e:TypeId}{t:Ty}(N:T e=some t)
  (ih:∀(x y:t.den) (v u:Value) (w':World),dU w S t x v→dU w S t y u→(Op.equalIn d e v u).run P w'= .ok (t.eqb x y) w')
  {xs ys:Array Value}:∀(k i:Nat) (X Y:List t.den) (pre g:List Value) (css f:List (List Value)) (w':World),
   X.length=k→Y.length=k→css.length=k→f.length=k→(∀j (h:j<X.length) (h':j<css.length),bB w S t X[j] css[j])→(∀j (h:j<Y.length) (h':j<f.length),bB w S t Y[j] f[j]) →
   xs.toList=pre++css.flatten→ys.toList=g++f.flatten→pre.length=i*t.cells→g.length=i*t.cells →
   (aOH d e t.cells xs ys (List.range' i k)).run P w'= .ok ((List.zipWith t.eqb X Y).all id) w'
 | 0,i,X,Y,_,_,_,_,w',hX,L,_,_,_,_,_,_,_,_=>by
  obtain rfl:=List.eq_nil_of_length_eq_zero hX;rfl
 | k+1,i,X,Y,pre,g,css,f,w',hX,L,hc,z,hr,I,hx,hy,hp,O=>by
  match X,Y,css,f,hX,L,hc,z with
  | x::X,y::Y,c::cs,c'::cs',hX,L,hc,z =>
   have U:=hr 0 (by simp) (by simp);have q:=I 0 (by simp) (by simp);simp only[List.getElem_cons_zero] at U q;obtain⟨va,e1,q1⟩:=aF1 (J _ _ N) (cs:=xs) (pre:=pre) (ds:=c) (post:=cs.flatten) (by simp_all) U w';obtain⟨vb,e2,q2⟩:=aF1 (J _ _ N) (cs:=ys) (pre:=g) (ds:=c') (post:=cs'.flatten) (by simp_all) q w';rw[hp] at e1;rw[O] at e2;have l1:=bB.length _ _ _ U;have l2:=bB.length _ _ _ q;have e3:=ih x y va vb w' q1 q2;have Z:=aSb J d N ih (xs:=xs) (ys:=ys) k (i+1) X Y (pre++c) (g++c') cs cs' w' (by simp_all) (by simp_all) (by simp_all) (by simp_all)
    (fun j h h'=>by have:=hr (j+1) (by simp_all) (by simp_all); simp_all) (fun j h h'=>by have:=I (j+1) (by simp_all) (by simp_all); simp_all)
    (by simp_all) (by simp_all) (by grind) (by grind)
   simp only[List.range'_succ,aOH,Sem.run_bind,e1,e2,e3,Result.andThen_ok,Sem.run_ite];cases hq:t.eqb x y
   all_goals simp_all
theorem aUr(I:lZ P T){w:World}{S:Nat→Prop}:∀(d:Nat) (t:TypeId) (c:Ty) (x y:c.den) (v u:Value) (w':World),T t=some c→c.cmpB=true→c.deep≤d →
  dU w S c x v→dU w S c y u→(Op.equalIn (d+1) t v u).run P w'= .ok (c.eqb x y) w':=by
 intro d
 induction d with
 | zero =>
  intro t c x y v u w' ht hc hd g hy;obtain⟨ds,q,hb⟩:=(I t c ht).desc;cases c<;>simp only[Ty.cmpB,Bool.false_eq_true] at hc<;>(try (simp only[Ty.deep] at hd; omega))
  case bool=>simp only[dU,Ty.isAgg,bB,Bool.false_eq_true,if_false] at g hy; cases ds<;>simp[jI] at hb; simp at g hy; subst g; subst hy; simp[Op.equalIn,bG q,Ty.eqb]
  case u k=>simp only[dU,Ty.isAgg,bB,Bool.false_eq_true,if_false] at g hy; cases ds<;>simp[jI] at hb; obtain⟨g,_⟩:=g; obtain⟨hy,_⟩:=hy; simp at g hy; subst g; subst hy; simp[Op.equalIn,bG q,Ty.eqb]; grind
  case i k=>simp only[dU,Ty.isAgg,bB,Bool.false_eq_true,if_false] at g hy; cases ds<;>simp[jI] at hb; obtain⟨g,_⟩:=g; obtain⟨hy,_⟩:=hy; simp at g hy; subst g; subst hy; simp[Op.equalIn,bG q,Ty.eqb]; rfl
  case str =>
   simp only[dU,Ty.isAgg,bB,Bool.false_eq_true,if_false] at g hy; grind[jI,run_equalIn_string,Ty.eqb,bLk]
  case unit =>
   simp only[dU,Ty.isAgg,if_true] at g hy;obtain⟨a,rfl,_⟩:=g; obtain⟨b,rfl,_⟩:=hy;cases ds<;>simp[jI] at hb
   rename_i J;have z:P.fieldsOf t=J:=(by simp[Program.fieldsOf,q]);rw[run_equalIn_struct w' 0 t a b (by simp_all) (I t _ ht).held,z];cases Z:J.toList with
   | nil=>rfl
   | cons f r=>grind[eM]
 | succ d ih =>
  intro t c x y v u w' ht hc hd g hy;obtain⟨ds,q,hb⟩:=(I t c ht).desc;cases c<;>simp only[Ty.cmpB,Bool.false_eq_true] at hc
  case bool=>simp only[dU,Ty.isAgg,bB,Bool.false_eq_true,if_false] at g hy; cases ds<;>simp[jI] at hb; simp at g hy; subst g; subst hy; simp[Op.equalIn,bG q,Ty.eqb]
  case u k=>simp only[dU,Ty.isAgg,bB,Bool.false_eq_true,if_false] at g hy; cases ds<;>simp[jI] at hb; obtain⟨g,_⟩:=g; obtain⟨hy,_⟩:=hy; simp at g hy; subst g; subst hy; simp[Op.equalIn,bG q,Ty.eqb]; grind
  case i k=>simp only[dU,Ty.isAgg,bB,Bool.false_eq_true,if_false] at g hy; cases ds<;>simp[jI] at hb; obtain⟨g,_⟩:=g; obtain⟨hy,_⟩:=hy; simp at g hy; subst g; subst hy; simp[Op.equalIn,bG q,Ty.eqb]; rfl
  case str =>
   simp only[dU,Ty.isAgg,bB,Bool.false_eq_true,if_false] at g hy; grind[jI,run_equalIn_string,Ty.eqb,bLk]
  case unit =>
   simp only[dU,Ty.isAgg,if_true] at g hy;obtain⟨a,rfl,_⟩:=g; obtain⟨b,rfl,_⟩:=hy;cases ds<;>simp[jI] at hb
   rename_i J;have z:P.fieldsOf t=J:=(by simp[Program.fieldsOf,q]);rw[run_equalIn_struct w' _ t a b (by simp_all) (I t _ ht).held,z];cases Z:J.toList with
   | nil=>rfl
   | cons f r=>grind[eM]
  case pair a b =>
   simp only[dU,Ty.isAgg,if_true] at g hy;obtain⟨O,rfl,g⟩:=g; obtain⟨N,rfl,hy⟩:=hy;cases ds<;>simp[jI] at hb
   rename_i J;have z:P.fieldsOf t=J:=(by simp[Program.fieldsOf,q]);rw[run_equalIn_struct w' _ t O N (by simp_all) (I t _ ht).held,z];exact aOG I d ih J.toList 0 (.pair a b) x y [] O.toList [] N.toList [] [] w' hb (by grind[Ty.cmpB]) hd (by simp) rfl g (by simp) rfl hy
  case arr n c =>
   simp only[dU,Ty.isAgg,if_true] at g hy;obtain⟨O,rfl,g⟩:=g; obtain⟨N,rfl,hy⟩:=hy;cases ds<;>simp[jI] at hb
   rename_i n' e;obtain⟨⟨⟨rfl,U⟩,_⟩,_⟩:=hb;obtain⟨lx,Y,hcx,hlx,hrx⟩:=g;obtain⟨ly,L,hcy,hly,hry⟩:=hy;rw[run_equalIn_array _ t e n c.cells O N w' q (fW (I _ _ U) w')];simp only[Ty.deep] at hd;exact aSb I (d+1) U (fun x y v u w' h1 h2=>ih e c x y v u w' U hc (by omega) h1 h2) n 0 x y [] [] Y L w' lx ly (hlx.trans lx) (hly.trans ly) hrx hry (by simp_all) (by simp_all) (by simp) (by simp)
theorem aIP(g:lZ P T){w:World}{S:Nat→Prop}{t:TypeId}{c:Ty}{x y:c.den}{v u:Value}(w':World)(ht:T t=some c)(hc:c.cmpB=true)(hd:c.deep≤100)(f:dU w S c x v)(hy:dU w S c y u) :
  (Op.equal t v u).run P w'= .ok (c.eqb x y) w':=aUr g 9999 t c x y v u w' ht hc (by omega) f hy
end
end Go.Vc
namespace Go.Vc
open Go.RowKit
def vY:Value→AV
 | .bool b=>.val .bool b
 | .int k n=>if k.signed then .val (.i k) n else .val (.u k) n.toNat
 | .string s=>.val .str (aR s)
 | .slice none 0 0=>.nilS
 | .pointer none=>.nilP
 | .nilIface=>.val .nili ()
 | _=>.junk
def aOI:Value→AV
 | .agg f=>.flat (f.toList.map vY)
 | v=>vY v
def aGW:Value→Bool
 | .int k n=>decide (k.min≤n)&&decide (n≤k.max)
 | .string s=>decide (s.size≤maxLen)
 | .slice none 0 0=>true
 | .pointer none=>true
 | .nilIface=>true
 | .bool _=>true
 | _=>false
def bCq:Value→Bool
 | .agg f=>f.toList.all aGW
 | .func _ _ _=>true
 | .map none=>true
 | v=>aGW v
theorem aXF{c:Ctx}{w:World}{v:Value}(h:aGW v=true):zM c w (vY v) v:=by
 unfold aGW at h;split at h
 ·simp only[Bool.and_eq_true,decide_eq_true_eq] at h;simp only[vY];split
  ·rename_i hs; exact aDc hs h
  ·rename_i k n hs;have hs:k.signed=false:=(by simp_all);have g:0≤n:=(by grind[IntKind.signed,IntKind.min]);have hv:=aMF (c:=c) (w:=w) (n:=n.toNat) hs (aR9 hs (by omega));rw[show ((n.toNat:Nat):Int)=n from by omega] at hv;exact hv
 ·exact bIY (by simp_all)
 ·exact⟨rfl,(fun h=>by cases h),(fun _ f=>by simp)⟩
 ·exact⟨rfl,(fun h=>by cases h),(fun _ f=>by simp)⟩
 ·exact⟨rfl,(fun h=>by cases h),(fun _ f=>by simp)⟩
 ·exact aF0 _
 grind
theorem aXG{c:Ctx}{w:World}:∀ {l:List Value},l.all aGW=true→nD c w (l.map vY) l
 | [],_=>rfl
 | v::r,h=>by
  simp only[List.all_cons,Bool.and_eq_true] at h;have hv:=aXF (c:=c) (w:=w) h.1;refine⟨[v],r,rfl,?_,aXG h.2⟩;have f:=hv.1;have:v.cells.toList= [v]:=by
   have hb:=h.1;cases v<;>first|rfl|grind[aGW]
  simp_all
theorem bFZ{c:Ctx}{w:World}{v:Value}(h:bCq v=true)(U:∀f a b,v≠ .func f a b):aX c w (aOI v) v:=by
 unfold bCq at h;split at h
 ·rename_i O;exact⟨by simpa [aOI,aO,Value.cells] using aXG h,fun _=>⟨_,rfl⟩,fun h=>by cases h⟩
 ·simp_all
 ·trivial
 ·rename_i I N J;have hv:=aXF (c:=c) (w:=w) h;have e:aOI v=vY v:=by cases v<;>first|rfl|simp_all
  rw[e];have L:vY v≠ .junk∧vY v≠ .undef∧ ∀vs,vY v≠ .tup vs:=by
   cases v<;>first|grind[vY]|(simp[aGW] at h; done)|skip
   all_goals grind[vY,aGW]
  obtain⟨z,q,g⟩:=L;generalize vY v=u at hv z q g;cases u<;>first|exact absurd rfl z|exact absurd rfl q|exact absurd rfl (g _)|exact hv
def parse:(t:Ty)→List AV→Option (t.den×List AV)
 | .bool,.val .bool b::r=>some (b,r)
 | .u k,.val (.u f) n::r=>if f=k then some (n,r) else none
 | .i k,.val (.i f) n::r=>if f=k then some (n,r) else none
 | .str,.val .str s::r=>some (s,r)
 | .sl _,.nilS::r=>some ([],r)
 | .unit,l=>some ((),l)
 | .pair a b,l=>match parse a l with
  | some (x,r)=>match parse b r with
   | some (y,g)=>some ((x,y),g)
   | none=>none
  | none=>none
 | _,_=>none
theorem bAk{c:Ctx}{w:World}:∀(t:Ty) (l:List AV) (x:t.den) (r:List AV) (cs:List Value),parse t l=some (x,r)→nD c w l cs→ ∃c1 f,cs=c1++f∧bB w c.S t x c1∧nD c w r f:=by
 intro t
 induction t with
 | bool =>
  intro l x r cs h g;cases l with
  | nil=>simp[parse] at h
  | cons v l =>
   cases v<;>first|grind[parse]|skip
   rename_i J y;cases J<;>simp[parse] at h
   obtain⟨rfl,rfl⟩:=h;obtain⟨c1,f,I,q,z⟩:=g;exact⟨c1,f,I,q,z⟩
 | str =>
  intro l x r cs h g;cases l with
  | nil=>simp[parse] at h
  | cons v l =>
   cases v<;>first|grind[parse]|skip
   rename_i J y;cases J<;>simp[parse] at h
   obtain⟨rfl,rfl⟩:=h;obtain⟨c1,f,I,q,z⟩:=g;exact⟨c1,f,I,q,z⟩
 | u k =>
  intro l x r cs h g;cases l with
  | nil=>simp[parse] at h
  | cons v l =>
   cases v<;>first|grind[parse]|skip
   rename_i J y;cases J<;>simp[parse] at h
   obtain⟨rfl,rfl,rfl⟩:=h;obtain⟨c1,f,I,q,z⟩:=g;exact⟨c1,f,I,q,z⟩
 | i k =>
  intro l x r cs h g;cases l with
  | nil=>simp[parse] at h
  | cons v l =>
   cases v<;>first|grind[parse]|skip
   rename_i J y;cases J<;>simp[parse] at h
   obtain⟨rfl,rfl,rfl⟩:=h;obtain⟨c1,f,I,q,z⟩:=g;exact⟨c1,f,I,q,z⟩
 | sl t ih =>
  intro l x r cs h g;cases l with
  | nil=>simp[parse] at h
  | cons v l =>
   cases v<;>first|grind[parse]|skip
   simp[parse] at h;obtain⟨rfl,rfl⟩:=h;obtain⟨c1,f,I,q,z⟩:=g;simp only[aO] at q;exact⟨c1,f,I,⟨none,0,0,q,rfl,Nat.le_refl _,Nat.zero_le _,.inl rfl⟩,z⟩
 | unit =>
  intro l x r cs h g;simp[parse] at h;subst h;exact⟨[],cs,rfl,rfl,g⟩
 | pair a b N L =>
  intro l x r cs h g;simp only[parse] at h;split at h
  ·rename_i Z O ha;split at h
   ·rename_i yb rb hb;cases h;obtain⟨c1,f,e1,r1,Y⟩:=N l Z O cs ha g;obtain⟨U,d2,e2,r2,k2⟩:=L O yb _ f hb Y;exact⟨c1++U,d2,by simp_all,⟨c1,U,rfl,r1,r2⟩,k2⟩
   grind
  grind
 | arr _ _ _=>grind[parse]
 | expr=>grind[parse]
 | rp _ _=>grind[parse]
 | clo _ _ _=>grind[parse]
 | ifc _ _ _=>grind[parse]
 | nili=>grind[parse]
 | nilp=>grind[parse]
 | nilf=>grind[parse]
def aIQ(t:Ty)(l:List AV):Option t.den:=match parse t l with
 | some (x,[])=>some x
 | _=>none
def bF0:AV→Option Int
 | .val (.i .i64) n=>some n
 | _=>none
def bLl:AV→Option (List Nat)
 | .val .str s=>some s
 | _=>none
def bLm(h:List Obj):AV→Option (List Ex)
 | .val (.sl .expr) l=>some l
 | .full .expr l=>some l
 | .nilS=>some []
 | .own i=>rowOf h i .expr
 | _=>none
def asX(h:List Obj)(a b v:AV):Option Ex:=match bF0 a,bLl b,bLm h v with
 | some x,some y,some z=>some (.mk x y z)
 | _,_,_=>none
def AV.as(h:List Obj):(t:Ty)→AV→Option t.den
 | t,.val f x=>if e:f=t then some (e▸x) else none
 | .sl t,.nilS=>some []
 | .sl t,.full f z=>if e:f=t then some (e▸z) else none
 | .sl t,.own i=>rowOf h i t
 | .pair a r,.agg (v::vs)=>match AV.as h a v,AV.as h r (.agg vs) with
  | some x,some y=>some (x,y)
  | _,_=>none
 | .unit,.agg []=>some ()
 | .expr,.agg [a,b,v]=>asX h a b v
 | .pair a r,.flat l=>aIQ (.pair a r) l
 | .unit,.flat l=>aIQ .unit l
 | .rp t,.roa f x=>if e:f=t then some (e▸x) else none
 | .rp t,.ptr i []=>match h[i]? with
  | some (.box _ v)=>AV.as h t v
  | _=>none
 | .clo g t,.fn q [] l2=>if q=g then AV.as h t (.agg (l2.map fun i=>.ptr i [])) else none
 | _,_=>none
@[simp] theorem bLn{h:List Obj}{t:Ty}{x:t.den}:AV.as h t (.val t x)=some x:=by cases t<;>simp[AV.as]
@[simp] theorem bI3{h:List Obj}{t:Ty}:AV.as h (.sl t) .nilS=some []:=by rfl
@[simp] theorem bI4{h:List Obj}{t:Ty}{xs:List t.den}:AV.as h (.sl t) (.full t xs)=some xs:=by simp[AV.as]
@[simp] theorem bLo{h:List Obj}{t:Ty}{i:Nat}:AV.as h (.sl t) (.own i)=rowOf h i t:=by rfl
@[simp] theorem bI5{h:List Obj}:AV.as h .unit (.agg [])=some ():=by rfl
@[simp] theorem aYB{h:List Obj}{a r:Ty}{v:AV}{vs:List AV}:AV.as h (.pair a r) (.agg (v::vs))=match AV.as h a v,AV.as h r (.agg vs) with|some x,some y=>some (x,y)|_,_=>none:=by rfl
@[simp] theorem aYC{h:List Obj}{a r:Ty}{l:List AV}:AV.as h (.pair a r) (.flat l)=aIQ (.pair a r) l:=by rfl
@[simp] theorem bLp{h:List Obj}{t:Ty}{x:t.den}:AV.as h (.rp t) (.roa t x)=some x:=by simp[AV.as]
@[simp] theorem bCr{h:List Obj}{t:Ty}{i:Nat}:AV.as h (.rp t) (.ptr i [])=match h[i]? with|some (.box _ v)=>AV.as h t v|_=>none:=by rfl
@[simp] theorem bMp{h:List Obj}{t:Ty}{g:FuncId}{l2:List Nat}:AV.as h (.clo g t) (.fn g [] l2)=AV.as h t (.agg (l2.map fun i=>.ptr i [])):=by simp[AV.as]
@[simp] theorem aYD{h:List Obj}{a b v:AV}:AV.as h .expr (.agg [a,b,v])=asX h a b v:=by rfl
@[simp] theorem aUs{h:List Obj}{l:List AV}:AV.as h .unit (.flat l)=aIQ .unit l:=by rfl
def AV.tags1:AV→List Nat
 | .own i=>[i]
 | _=>[]
def AV.tags:AV→List Nat
 | .own i=>[i]
 | .agg f=>f.flatMap AV.tags1
 | _=>[]
def aGX(c:Ctx)(h:List Obj)(b:Nat):Prop:=c.S b∨ ∃i o,h[i]? = some o∧fA c i o b
theorem aCr.toC{c:Ctx}{w:World}{e:TypeId}{t:Ty}{xs:List t.den}{v:Value}{S':Nat→Prop}(h:aCr c w e t xs v)(hs:∀b,c.S b→S' b)(hb:∀b,aU v=some b→S' b):bB w S' (.sl t) xs [v]:=by
 obtain⟨U,I,_,f,L,hl,Z⟩:=h;obtain⟨O,hv⟩:=I;rcases hv with⟨rfl,h0⟩|⟨g,N,q,rfl,_,hheap,J,z,hsz,htake⟩
 ·refine⟨none,0,0,rfl,?_,Nat.le_refl _,Nat.zero_le _,.inl ?_⟩
  all_goals simp_all
 ·refine⟨some ⟨g,0,none⟩,xs.length,N,rfl,rfl,J,z,.inr ⟨g,0,rfl,hb g rfl,fun i hi=>?_⟩⟩;refine⟨f[i],bB.keep hs (.refl _ _) t _ _ (Z i hi (by omega)),?_⟩;obtain⟨pre,post,hf,hp⟩:=oT (t:=t) (css:=f) (fun j Y=>bB.length _ _ _ (Z j (by omega) Y)) i (by omega);intro j v Y;have hcell:q[i*t.cells+j]? = some v:=by
   rw[← Array.getElem?_toList];have h1:(q.toList.take (xs.length*t.cells))[i*t.cells+j]? = some v:=by
    rw[htake,L,hf,← hp,List.append_assoc,List.getElem?_append_right (by omega),Nat.add_sub_cancel_left];grind
   grind
  simp_all[World.cell?,Nat.zero_add]
theorem mB.length{w:World}{S:Nat→Prop}:∀(t:Ty) (m:Mk) (x:t.den) (cs:List Value) (B:List Nat),mB w S t m x cs B→cs.length=t.cells:=by
 intro t
 induction t with
 | sl t N =>
  intro m O cs B f;cases m with
  | no=>exact bB.length _ _ _ f.1
  | sl e m=>obtain⟨v,I,Bs,q,_⟩:=f; rw[q]; rfl
  | pair a b=>exact f.elim
 | pair a r g z =>
  intro m x cs B f;cases m with
  | no=>exact bB.length _ _ _ f.1
  | sl e m=>exact f.elim
  | pair ma mr =>
   obtain⟨c1,Y,U,Z,q,h2,J,L⟩:=f;rw[q,List.length_append,g _ _ _ _ J,z _ _ _ _ L]; rfl
 | _ =>
  intro m x cs B f;cases m<;>first|exact bB.length _ _ _ f.1|exact f.elim
theorem bAl{w:World}{S':Nat→Prop}{e:TypeId}{t:Ty}{xs:List t.den}{v:Value}{css:List (List Value)}(z:w.ownsRow 0 e t.cells v xs.length css.flatten)(hl:css.length=xs.length)(L:∀i (U:i<css.length),(css[i]).length=t.cells)
  (Y:∀i (h:i<xs.length) (U:i<css.length),bB w S' t xs[i] css[i]) (hb:∀b,aU v=some b→S' b):bB w S' (.sl t) xs [v]:=by
 obtain⟨N,hv⟩:=z;rcases hv with⟨rfl,h0⟩|⟨g,J,f,rfl,_,hheap,I,q,Z,htake⟩
 ·refine⟨none,0,0,rfl,?_,Nat.le_refl _,Nat.zero_le _,.inl ?_⟩
  all_goals simp_all
 ·refine⟨some ⟨g,0,none⟩,xs.length,J,rfl,rfl,I,q,.inr ⟨g,0,rfl,hb g rfl,fun i hi=>?_⟩⟩;refine⟨css[i],Y i hi (by omega),?_⟩;obtain⟨pre,post,hf,hp⟩:=oT (t:=t) (css:=css) (fun j O=>L j O) i (by omega);intro j v O;have hcell:f[i*t.cells+j]? = some v:=by
   rw[← Array.getElem?_toList];have U:(f.toList.take (xs.length*t.cells))[i*t.cells+j]? = some v:=by
    rw[htake,hf,← hp,List.append_assoc,List.getElem?_append_right (by omega),Nat.add_sub_cancel_left];grind
   grind
  simp_all[World.cell?,Nat.zero_add]
theorem mB.toC{w:World}{S S':Nat→Prop}(hs:∀b,S b→S' b):∀(t:Ty) (m:Mk) (x:t.den) (cs:List Value) (B:List Nat),(∀b∈B,S' b)→mB w S t m x cs B→bB w S' t x cs:=by
 intro t
 induction t with
 | sl t ih =>
  intro m xs cs B g f;cases m with
  | no=>exact bB.keep hs (.refl _ _) _ _ _ f.1
  | sl e m =>
   obtain⟨v,css,Bs,I,J,z,U,h5,O⟩:=f;subst I; subst h5;refine bAl J z (fun i q=>mB.length _ _ _ _ _ (O i (by omega) q (by omega))) (fun i Z Y=>ih m _ _ (Bs[i]'(by omega)) (fun b hb=>g b ?_) (O i Z Y (by omega))) (fun b hb=>g b (by simp[hdB,hb]));grind[List.mem_append_right,List.mem_flatten,List.getElem_mem]
  | pair a b=>exact f.elim
 | pair a r N L =>
  intro m x cs B g f;cases m with
  | no=>exact bB.keep hs (.refl _ _) _ _ _ f.1
  | sl e m=>exact f.elim
  | pair ma mr =>
   obtain⟨c1,c2,B1,B2,I,J,z,U⟩:=f;subst J;exact⟨c1,c2,I,N _ _ _ _ (fun b hb=>g b (List.mem_append_left _ hb)) z,L _ _ _ _ (fun b hb=>g b (List.mem_append_right _ hb)) U⟩
 | _ =>
  intro m x cs B g f;cases m<;>first|exact bB.keep hs (.refl _ _) _ _ _ f.1|exact f.elim
theorem bAm{M:Perm}{w0:World}{c:Ctx}{h:List Obj}{w:World}(z:Good M w0 c h w){i:Nat}{t:Ty}{xs:List t.den}(f:rowOf h i t=some xs):bB w (aGX c h) (.sl t) xs [c.hd i]:=by
 unfold rowOf at f;split at f
 ·rename_i e J I g;split at f
  ·rename_i q; subst q; cases f;have:=z.objs i _ g;exact aCr.toC this (fun b hb=>.inl hb) (fun b hb=>.inr ⟨i,_,g,hb⟩)
  grind
 ·rename_i J I g;split at f
  ·rename_i q; subst q; cases f;have:=z.objs i _ g;exact bB.keep (fun b hb=>.inl hb) (.refl _ _) _ _ _ this
  grind
 ·rename_i e m J I g;split at f
  ·rename_i q; subst q; cases f;obtain⟨B,N,_,L⟩:=z.objs i _ g;exact mB.toC (fun b hb=>.inl hb) _ _ _ _ _ (fun b hb=>.inr ⟨i,_,g,L b hb⟩) N
  grind
 grind
theorem bDK{c:Ctx}{w:World}{h:List Obj}{S':Nat→Prop}(L:∀b,c.S b→S' b)(hrow:∀i xs cs,rowOf h i .expr=some xs→aO c w (.own i) cs→bB w S' (.sl .expr) xs cs){a b v:AV}{x:Ex}{cs:List Value}(O:asX h a b v=some x)(hr:nD c w [a,b,v] cs):bB w S' .expr x cs:=by
 unfold asX at O;split at O
 ·rename_i k s l J h2 q;cases O;simp only[nD] at hr;obtain⟨c1,c2,e,r1,c3,c4,e2,r2,c5,c6,e3,z,e4⟩:=hr;subst e4; subst e3; subst e2; subst e;have q1:bB w c.S (.i .i64) k c1:=by
   unfold bF0 at J;split at J
   ·cases J; exact r1
   grind
  have q2:bB w c.S .str s c3:=by
   unfold bLl at h2;split at h2
   ·cases h2; exact r2
   grind
  have q3:bB w S' (.sl .expr) l c5:=by
   unfold bLm at q;split at q
   ·cases q; exact bB.keep L (.refl _ _) (.sl .expr) _ _ z
   ·cases q;simp only[aO] at z;obtain⟨p,n,e,Y⟩:=z;exact⟨p,n,n,e,Y.keep L (.refl _ _) (fun x cs=>bB.keep L (.refl _ _) .expr x cs)⟩
   ·cases q;simp only[aO] at z;exact⟨none,0,0,z,rfl,Nat.le_refl _,Nat.zero_le _,.inl rfl⟩
   all_goals grind
  obtain⟨rfl,_,Z,N⟩:=q1;obtain⟨s',rfl,rfl,U⟩:=q2;obtain⟨p,len,cap,rfl,z1,z2,z3,z4⟩:=q3;show RepEx w S' _ _;have I:∃f:Nat→List Value,(∀i (h':i<l.length),RepEx w S' l[i] (f i))∧(l= []∨ ∃b off,p=some ⟨b,off,none⟩∧S' b∧ ∀i,i<l.length→mW w b (off+i*3) (f i)):=by
   rcases z4 with rfl|⟨b,off,rfl,hb,g⟩
   ·exact⟨fun _=>[],fun i h'=>by grind,.inl rfl⟩
   ·refine⟨fun i=>if h':i<l.length then Classical.choose (g i h') else [],fun i h'=>?_,.inr ⟨b,off,rfl,hb,fun i h'=>?_⟩⟩
    ·simp only[h',dite_true]; exact(Classical.choose_spec (g i h')).1
    ·simp only[h',dite_true]; exact(Classical.choose_spec (g i h')).2
  obtain⟨f,k1,k2⟩:=I;exact .mk k s' l p len cap f ⟨Z,N⟩ U z1 z2 z3 k1 k2
 grind
theorem bI6{M:Perm}{w0:World}{c:Ctx}{h:List Obj}{w:World}(N:Good M w0 c h w):∀(t:Ty) (l:List Nat) (x:t.den),(∀i∈l,i<c.n)→AV.as h t (.agg (l.map fun i=>.ptr i []))=some x→nD c w (l.map fun i=>.ptr i []) (l.map c.hd):=by
 intro t
 induction t with
 | pair a r _ z =>
  intro l x g f;cases l with
  | nil=>rfl
  | cons i l =>
   simp only[List.map_cons,aYB] at f;split at f
   ·rename_i Y I U O;have hb:∃n v,h[i]? = some (.box n v):=by
     cases a<;>first|(simp[AV.as] at U; done)|skip
     grind[bCr]
    obtain⟨n,v,L⟩:=hb;obtain⟨b,cells,e,q,_⟩:=N.objs i _ L;refine⟨[c.hd i],l.map c.hd,rfl,?_,z l I (fun k J=>g k (by simp[J])) O⟩;refine⟨g i (by simp),b,by rw[q]; rfl,by rw[q]; rfl⟩
   grind
 | unit =>
  intro l x g f;cases l with
  | nil=>exact rfl
  | cons i l=>grind[AV.as]
 | expr =>
  intro l x g f
  match l,f with
  | [],f=>rfl
  | [_],f=>simp[AV.as] at f
  | [_,_],f=>simp[AV.as] at f
  | [_,_,_],f=>simp[AV.as,asX,bF0] at f
  | _::_::_::_::_,f=>simp[AV.as] at f
 | _=>grind[AV.as]
theorem bKU{M:Perm}{w0:World}{c:Ctx}{h:List Obj}{w:World}(hg:Good M w0 c h w):∀(t:Ty) (v:AV) (x:t.den) (cs:List Value),AV.as h t v=some x→aO c w v cs→bB w (aGX c h) t x cs∧t.isAgg=v.isAgg:=by
 have L:∀b,c.S b→aGX c h b:=fun b hb=>.inl hb;have hval:∀(t z:Ty) (y:z.den) (x:t.den) (cs:List Value),AV.as h t (.val z y)=some x→aO c w (.val z y) cs→bB w (aGX c h) t x cs∧t.isAgg=AV.isAgg (.val z y):=by
  intro t z y x cs f q;have:∃e:z=t,x=e▸y:=by
   have I:(if e:z=t then some (e▸y) else none)=some x:=(by grind[AV.as]);grind
  obtain⟨rfl,rfl⟩:=this;exact⟨bB.keep L (.refl _ _) _ _ _ q,rfl⟩
 have hflat:∀(t:Ty) (l:List AV) (x:t.den) (cs:List Value),aIQ t l=some x→nD c w l cs→bB w (aGX c h) t x cs:=by
  intro t l x cs f q;unfold aIQ at f;split at f
  ·rename_i y hp;cases f;obtain⟨c1,Z,e,r1,r2⟩:=bAk t l _ _ cs hp q;simp only[nD] at r2;subst r2;rw[e,List.append_nil];exact bB.keep L (.refl _ _) _ _ _ r1
  grind
 intro t
 induction t with
 | pair a b iha U =>
  intro v x cs f q;cases v with
  | val z y=>grind
  | agg J =>
   cases J with
   | nil=>grind[AV.as]
   | cons v J =>
    simp only[aYB] at f;split at f
    ·rename_i xa xb h1 I;cases f;simp only[aO,nD] at q;obtain⟨c1,Z,e,r1,r2⟩:=q;have O:=iha v xa c1 h1 r1;have q2:=U (.agg J) xb Z I (by grind[aO]);exact⟨⟨c1,Z,e,O.1,q2.1⟩,rfl⟩
    grind
  | flat l=>simp only[aYC] at f; exact⟨hflat _ _ _ _ f (by grind[aO]),rfl⟩
  | _=>grind[AV.as]
 | sl t N =>
  intro v x cs f q;cases v with
  | val z y=>grind
  | nilS=>simp at f; subst f; simp only[aO] at q; exact⟨⟨none,0,0,q,rfl,Nat.le_refl _,Nat.zero_le _,.inl rfl⟩,rfl⟩
  | full z xs =>
   have I:(if e:z=t then some (e▸xs) else none)=some x:=(by grind[AV.as]);split at I
   ·rename_i e;subst e;cases I;simp only[aO] at q;obtain⟨p,n,e,Y⟩:=q;exact⟨⟨p,n,n,e,Y.keep L (.refl _ _) (fun x cs=>bB.keep L (.refl _ _) _ x cs)⟩,rfl⟩
   grind
  | own i=>simp at f; simp only[aO] at q; rw[q.2.1]; exact⟨bAm hg f,rfl⟩
  | _=>grind[AV.as]
 | unit =>
  intro v x cs f q;cases v with
  | val z y=>grind
  | agg J=>cases J with
   | nil=>simp only[aO,nD] at q; exact⟨q,rfl⟩
   | cons v J=>grind[AV.as]
  | flat l=>simp only[aUs] at f; exact⟨hflat _ _ _ _ f (by grind[aO]),rfl⟩
  | _=>grind[AV.as]
 | rp t N =>
  intro v x cs f q;cases v with
  | val z y=>grind
  | roa z y =>
   have I:(if e:z=t then some (e▸y) else none)=some x:=(by grind[AV.as]);split at I
   ·rename_i e;subst e;cases I;simp only[aO] at q;obtain⟨b,off,ds,e,hb,hd,hcell⟩:=q;exact⟨⟨b,off,ds,e,L b hb,bB.keep L (.refl _ _) _ _ _ hd,hcell⟩,rfl⟩
   grind
  | ptr i p =>
   cases p with
   | nil =>
    simp only[bCr] at f;split at f
    ·rename_i n u ho;simp only[aO] at q;obtain⟨hi,b,hb,e⟩:=q;obtain⟨b',cells,e',O,q2,q3,q4⟩:=hg.objs i _ ho;have hbb:b=b':=(by grind[aU]);subst hbb;refine⟨⟨b,0,cells.toList,e,.inr ⟨i,_,ho,by simp[fA,O,aU]⟩,(N u x cells.toList f q4).1,?_⟩,rfl⟩;intro j u hj;simp_all[World.cell?,Nat.zero_add]
    grind
   | cons s p=>grind[AV.as]
  | _=>grind[AV.as]
 | clo g t N =>
  intro v x cs f q;cases v with
  | val z y=>grind
  | fn g' l1 l2 =>
   cases l1 with
   | nil =>
    have I:g'=g∧AV.as h t (.agg (l2.map fun i=>.ptr i []))=some x:=(by grind[AV.as]);obtain⟨rfl,f⟩:=I;simp only[aO] at q;obtain⟨_,I,e⟩:=q;have:=N _ x (l2.map c.hd) f (by grind[aO,bI6]);exact⟨⟨l2.map c.hd,by simp_all,this.1⟩,rfl⟩
   | cons i l1=>grind[AV.as]
  | _=>grind[AV.as]
 | expr =>
  intro v x cs f q;cases v with
  | val z y=>grind
  | agg J =>
   match J,f,q with
   | [a,b,v],f,q =>
    simp only[aYD] at f;exact⟨bDK L (fun i xs cs h1 I=>by grind[aO,bAm]) f (by grind[aO]),rfl⟩
   | [],f,_=>grind[AV.as]
   | [_],f,_=>grind[AV.as]
   | [_,_],f,_=>grind[AV.as]
   | _::_::_::_::_,f,_=>grind[AV.as]
  | _=>grind[AV.as]
 | _ =>
  intro v x cs f q;cases v with
  | val z y=>grind
  | _=>grind[AV.as]
def Ty.fieldOff:Ty→Nat→Nat
 | .pair _ _,0=>0
 | .pair a r,k+1=>a.cells+r.fieldOff k
 | .expr,k=>k
 | _,_=>0
def aKq:(t:Ty)→t.den→Nat→AV
 | .pair a _,x,0=>.val a x.1
 | .pair _ r,x,k+1=>aKq r x.2 k
 | .expr,x,0=>.val (.i .i64) x.kind
 | .expr,x,1=>.val .str x.text
 | .expr,x,2=>.val (.sl .expr) x.l
 | _,_,_=>.junk
def AV.solid1:AV→Bool
 | .val _ _=>true
 | .nilS=>true
 | .nilP=>true
 | .full _ _=>true
 | .own _=>true
 | .ptr _ _=>true
 | .roa _ _=>true
 | .fn _ _ _=>true
 | .mp _=>true
 | _=>false
def AV.solid:AV→Bool
 | .agg f=>f.all AV.solid1
 | v=>v.solid1
def AV.nc1:AV→Nat
 | .val t _=>t.cells
 | _=>1
def aI:List AV→Nat
 | []=>0
 | v::r=>v.nc1+aI r
def AV.nc:AV→Nat
 | .agg f=>aI f
 | v=>v.nc1
theorem aNH{c:Ctx}{w:World}{v:AV}{cs:List Value}(hs:v.solid1=true)(f:aO c w v cs):cs.length=v.nc1:=by
 cases v<;>simp[AV.solid1] at hs<;>simp only[aO] at f<;>simp only[AV.nc1]
 all_goals grind[bB.length]
theorem bDL{c:Ctx}{w:World}:∀ {vs:List AV} {cs:List Value},vs.all AV.solid1=true→nD c w vs cs→cs.length=aI vs
 | [],_,_,f=>by simp only[nD] at f; rw[f]; rfl
 | v::r,_,hs,f=>by
  simp only[List.all_cons,Bool.and_eq_true] at hs;simp only[nD] at f;obtain⟨c1,z,e,q,g⟩:=f;rw[e,List.length_append,aNH hs.1 q,bDL hs.2 g]; rfl
theorem aUt{c:Ctx}{w:World}{v:AV}{cs:List Value}(hs:v.solid=true)(f:aO c w v cs):cs.length=v.nc:=by
 cases v
 case agg vs=>exact bDL hs (by simpa [aO] using f)
 all_goals grind[AV.solid,AV.nc,aNH]
def eG:AV→Nat→AV×Nat
 | .val t x,k=>(aKq t x k,t.fieldOff k)
 | .agg [],_=>(.junk,0)
 | .agg (v::_),0=>(v,0)
 | .agg (v::vs),k+1=>((eG (.agg vs) k).1,v.nc1+(eG (.agg vs) k).2)
 | _,_=>(.junk,0)
def elemOf:AV→Nat→Prop×AV
 | .val (.arr n t) f,i=>(i<n,.val t (f.getD i t.zero))
 | _,_=>(False,.junk)
def aXH:AV→Nat
 | .val (.arr _ t) _=>t.cells
 | _=>0
theorem aOJ{w:World}{c:Ctx}:∀(t:Ty) (x:t.den) (k:Nat) (cs:List Value),bB w c.S t x cs→aKq t x k≠ .junk→ ∃pre ds post,cs=pre++ds++post∧pre.length=t.fieldOff k∧aO c w (aKq t x k) ds
 | .pair a r,x,0,cs,f,_=>by
  obtain⟨c1,L,e,N,U⟩:=f;exact⟨[],c1,L,by simp_all,rfl,N⟩
 | .pair a r,x,k+1,cs,f,g=>by
  obtain⟨c1,L,e,N,U⟩:=f;obtain⟨pre,ds,post,Y,hp,hd⟩:=aOJ r x.2 k L U g;refine⟨c1++pre,ds,post,by simp_all,?_,hd⟩;rw[List.length_append,bB.length _ _ _ N,hp]; rfl
 | .expr,x,0,cs,f,_=>by
  cases f with
  | mk k s l a len q z I hs O hc hm f J=>exact⟨[],[_],_,rfl,rfl,⟨rfl,rfl,I.1,I.2⟩⟩
 | .expr,x,1,cs,f,_=>by
  cases f with
  | mk k s l a len q z I hs O hc hm f J=>exact⟨[_],[_],[_],rfl,rfl,⟨s,rfl,rfl,hs⟩⟩
 | .expr,x,2,cs,f,_=>by
  cases f with
  | mk k s l a len q z I hs O hc hm f J =>
   refine⟨[_,_],[_],[],rfl,rfl,⟨a,len,q,rfl,O,hc,hm,J.imp id ?_⟩⟩;rintro⟨b,off,e,hb,hcell⟩;exact⟨b,off,e,hb,fun i hi=>⟨z i,f i hi,hcell i hi⟩⟩
 | .expr,x,k+3,cs,f,g=>absurd rfl g
 | .bool,x,k,cs,f,g=>absurd rfl g
 | .u _,x,k,cs,f,g=>absurd rfl g
 | .i _,x,k,cs,f,g=>absurd rfl g
 | .str,x,k,cs,f,g=>absurd rfl g
 | .sl _,x,k,cs,f,g=>absurd rfl g
 | .unit,x,k,cs,f,g=>absurd rfl g
 | .arr _ _,x,k,cs,f,g=>absurd rfl g
 | .rp _,x,k,cs,f,g=>absurd rfl g
 | .clo _ _,x,k,cs,f,g=>absurd rfl g
theorem aUu{w:World}{c:Ctx}:∀(v:AV) (k:Nat) (cs:List Value),v.solid=true→aO c w v cs→(eG v k).1≠ .junk→ ∃pre ds post,cs=pre++ds++post∧pre.length=(eG v k).2∧aO c w (eG v k).1 ds:=by
 intro v k cs hs f L;cases v with
 | val t x=>grind[eG,aOJ,aO]
 | agg g =>
  simp only[aO] at f;simp only[AV.solid] at hs
  induction g generalizing k cs with
  | nil=>grind[eG]
  | cons v g I =>
   simp only[nD] at f;simp only[List.all_cons,Bool.and_eq_true] at hs;obtain⟨c1,q,e,z,J⟩:=f;cases k with
   | zero=>exact⟨[],c1,q,by simp_all,rfl,z⟩
   | succ k =>
    grind[eG,List.length_append,aNH]
 | _=>grind[eG]
theorem aQz{w:World}{c:Ctx}(v:AV)(i:Nat)(cs:List Value)(z:aO c w v cs)(h:(elemOf v i).1):∃pre ds post,cs=pre++ds++post∧pre.length=i*aXH v∧aO c w (elemOf v i).2 ds:=by
 cases v with
 | val t x =>
  cases t with
  | arr n t =>
   simp only[elemOf] at h ⊢;obtain⟨I,g,e,L,f⟩:=z;obtain⟨pre,post,J,hp⟩:=oT (t:=t) (css:=g) (fun j q=>bB.length _ _ _ (f j (by omega) q)) i (by omega);refine⟨pre,g[i],post,by grind,hp,?_⟩;have:=f i (by omega) (by omega);simp only[aO];rw[List.getD_eq_getElem?_getD,List.getElem?_eq_getElem (by omega)];exact this
  | _=>exact h.elim
 | _=>exact h.elim
def aA7:AV→List Step→Prop×AV
 | v,[]=>(True,v)
 | v,.fld off k::p=>(v.solid=true∧off=(eG v k).2∧(aA7 (eG v k).1 p).1,(aA7 (eG v k).1 p).2)
 | v,.idx s i::p=>((elemOf v i).1∧s=aXH v∧(aA7 (elemOf v i).2 p).1,(aA7 (elemOf v i).2 p).2)
theorem bEX:∀(p:List Step),(aA7 .junk p).1→(aA7 .junk p).2= .junk
 | [],_=>rfl
 | .fld off k::p,h=>by simp[aA7,AV.solid,AV.solid1] at h
 | .idx s i::p,h=>by simp[aA7,elemOf] at h
theorem aOK{w:World}{c:Ctx}:∀(p:List Step) (v:AV) (cs:List Value),aO c w v cs→(aA7 v p).1→(aA7 v p).2≠ .junk→ ∃pre ds post,cs=pre++ds++post∧pre.length=pR p∧aO c w (aA7 v p).2 ds
 | [],v,cs,z,_,_=>⟨[],cs,[],by simp,rfl,z⟩
 | .fld off k::p,v,cs,z,h,q=>by
  simp only[aA7] at h q ⊢;obtain⟨hs,Y,O⟩:=h;have L:(eG v k).1≠ .junk:=fun e=>by grind[bEX]
  obtain⟨pre,ds,post,e,hp,hd⟩:=aUu v k cs hs z L;obtain⟨g,N,f,U,J,I⟩:=aOK p _ ds hd O q;grind[List.length_append,pR,Step.off]
 | .idx s i::p,v,cs,z,h,q=>by
  simp only[aA7] at h q ⊢;obtain⟨hs,Y,O⟩:=h;obtain⟨pre,ds,post,e,hp,hd⟩:=aQz v i cs z hs;obtain⟨g,N,f,U,J,I⟩:=aOK p _ ds hd O q;grind[List.length_append,pR,Step.off]
end Go.Vc
namespace Go.Vc
open Go.RowKit
inductive RK where
 | none
 | one (t:Ty)
 | own (e:TypeId) (t:Ty)
 | tup (t:Ty)
def RK.ty:RK→Ty
 | .none=>.unit
 | .one t=>t
 | .own _ t=>.sl t
 | .tup t=>t
structure aF where
 args:Ty
 res:RK
 pre:args.den→Prop
 fn:args.den→res.ty.den
def sD(w:World)(S:Nat→Prop):(t:Ty)→t.den→List Value→Prop
 | .unit,_,g=>g= []
 | .pair a r,x,g=>∃v f,g=v::f∧dU w S a x.1 v∧sD w S r x.2 f
 | _,_,_=>False
def bEY(w:World)(S:Nat→Prop)(B:Nat):(r:RK)→r.ty.den→Value→Prop
 | .none,_,v=>v= .tuple #[]
 | .one t,x,v=>dU w (fun b=>S b∨(B≤b∧b<w.heap.size)) t x v
 | .own e t,g,v=>∃f:List Value,w.ownsRow B e t.cells v g.length f∧bB w (fun b=>S b∨(B≤b∧b<w.heap.size∧aU v≠some b)) (.arr g.length t) g f
 | .tup t,x,v=>∃vs:List Value,v= .tuple vs.toArray∧sD w (fun b=>S b∨(B≤b∧b<w.heap.size)) t x vs
def nothing:Nat→Prop:=fun _=>False
@[reducible] def top(S:Nat→Prop):Perm:=⟨nothing,S,0,fun _=>Go.undef⟩
def uD(G:Nat→AV)(S:Nat→Prop)(w:World):Prop:=∀g,aX ⟨S,fun _=>Go.undef,0,fun _ _=>False⟩ w (G g) (.pointer (some ⟨g,0,none⟩))
def FOK(P:Program)(G:Nat→AV)(f:FuncId)(sp:aF):Prop :=
 ∀(w:World) (S:Nat→Prop) (vs:Array Value) (x:sp.args.den),(∀b,S b→b<w.heap.size)→uD G S w→sD w S sp.args x vs.toList→sp.pre x →
  Calls P f vs w fun e w'=>∃v,e= .returned v∧iL nothing w w'∧bEY w' S w.heap.size sp.res (sp.fn x) v
structure Env where
 T:Tab
 G:Nat→AV
 Γ:FuncId→List AV→Option aF
 el:TypeId→TypeId
 mp:TypeId→Option (TypeId×TypeId)
 dm:TypeId→Option Mk:=fun _=>none
 dz:TypeId→Bool:=fun _=>false
 w:Bool:=false
def bAn(T:Tab)(t:TypeId):AV→AV
 | .flat l=>match T t with
  | some c=>match AV.as [] c (.flat l) with
   | some x=>.val c x
   | none=>.flat l
  | none=>.flat l
 | v=>v
def aKU(T:Tab)(h:List Obj)(t:TypeId):AV→Prop×AV
 | .roa c x=>(T t=some c,.val c x)
 | .ptr i p=>match h[i]? with
  | some (.box _ v)=>((aA7 v p).1∧(aA7 v p).2.solid=true∧ ∃c,T t=some c∧c.isAgg=(aA7 v p).2.isAgg∧c.cells=(aA7 v p).2.nc,(aA7 v p).2)
  | some (.row _ c f)=>match p with
   | .idx s k::p=>(k<f.length∧s=c.cells∧(aA7 (.val c (f.getD k c.zero)) p).1∧(aA7 (.val c (f.getD k c.zero)) p).2.solid=true ∧
     ∃c',T t=some c'∧c'.isAgg=(aA7 (.val c (f.getD k c.zero)) p).2.isAgg∧c'.cells=(aA7 (.val c (f.getD k c.zero)) p).2.nc,(aA7 (.val c (f.getD k c.zero)) p).2)
   | _=>(False,.junk)
  | some (.trh _ _ c f k v)=>match p with
   | .idx s g::p=>(g=k∧s=c.cells∧(aA7 v p).1∧(aA7 v p).2.solid=true∧ ∃c',T t=some c'∧c'.isAgg=(aA7 v p).2.isAgg∧c'.cells=(aA7 v p).2.nc,(aA7 v p).2)
   | _=>(False,.junk)
  | _=>(False,.junk)
 | _=>(False,.junk)
noncomputable def aDe(T:Tab)(op:BinOp)(t:TypeId):AV→AV→Prop×AV
 | .val (.u k) a,.val (.u f) b=>match op with
  | .shl=>shU .shl k a b
  | .shr=>shU .shr k a b
  | op=>if f=k then aYz op k a b else (False,.junk)
 | .val (.i k) a,.val (.i f) b=>match op with
  | .shl=>(0≤b∧b≤k.bits∧(shI .shl k a b.toNat).1,(shI .shl k a b.toNat).2)
  | .shr=>(0≤b,(shI .shr k a b.toNat).2)
  | op=>if f=k then bFW op k a b else (False,.junk)
 | .val (.u k) a,.val (.i _) b=>match op with
  | .shl=>(0≤b,(shU .shl k a b.toNat).2)
  | .shr=>(0≤b,(shU .shr k a b.toNat).2)
  | _=>(False,.junk)
 | .val (.i k) a,.val (.u _) b=>match op with
  | .shl=>(b≤k.bits∧(shI .shl k a b).1,(shI .shl k a b).2)
  | .shr=>(True,(shI .shr k a b).2)
  | _=>(False,.junk)
 | .val .str a,.val .str b=>bFX op a b
 | .val .bool a,.val .bool b=>(T t=some .bool∧(bIZ op a b).1,(bIZ op a b).2)
 | .val (.pair p q) a,.val g b=>if e:g= .pair p q then (match op with
   | .eql=>(T t=some (.pair p q)∧(Ty.pair p q).cmpB=true∧(Ty.pair p q).deep≤100,.val .bool ((Ty.pair p q).eqb a (e▸b)))
   | .neq=>(T t=some (.pair p q)∧(Ty.pair p q).cmpB=true∧(Ty.pair p q).deep≤100,.val .bool (!(Ty.pair p q).eqb a (e▸b)))
   | _=>(False,.junk)) else (False,.junk)
 | .val (.arr n q) a,.val g b=>if e:g= .arr n q then (match op with
   | .eql=>(T t=some (.arr n q)∧(Ty.arr n q).cmpB=true∧(Ty.arr n q).deep≤100,.val .bool ((Ty.arr n q).eqb a (e▸b)))
   | .neq=>(T t=some (.arr n q)∧(Ty.arr n q).cmpB=true∧(Ty.arr n q).deep≤100,.val .bool (!(Ty.arr n q).eqb a (e▸b)))
   | _=>(False,.junk)) else (False,.junk)
 | _,_=>(False,.junk)
noncomputable def bCs(f:UnOp):AV→Prop×AV
 | .val .bool b=>match f with
  | .not=>(True,.val .bool (!b))
  | _=>(False,.junk)
 | .val (.i k) a=>match f with
  | .neg=>(fits k (0-a),.val (.i k) (0-a))
  | _=>(False,.junk)
 | .val (.u k) a=>match f with
  | .neg=>(True,.val (.u k) (bAj k a))
  | .xor=>(True,.val (.u k) ((lM k-1)^^^a))
  | _=>(False,.junk)
 | _=>(False,.junk)
def aQA(T:Tab)(src dst:TypeId)(x:AV):Prop×AV :=
 match T dst,x with
 | some (.u k),.val (.u f) n=>((T src).isSome=true,.val (.u k) (if f.bits≤k.bits then n else n%lM k))
 | some (.u k),.val (.i _) n=>((T src).isSome=true,.val (.u k) (n%(lM k:Int)).toNat)
 | some (.i k),.val (.u f) n=>((T src).isSome=true,.val (.i k) (if f.bits<k.bits then (n:Int) else k.wrap n))
 | some (.i k),.val (.i f) n=>((T src).isSome=true,.val (.i k) (if f.bits≤k.bits then n else k.wrap n))
 | some .str,.val .str s=>(T src=some .str,.val .str s)
 | _,_=>(False,.junk)
def aEc:AV→Option Int
 | .val (.i _) n=>some n
 | .val (.u _) n=>some n
 | _=>none
def aBt(T:Tab)(s:TypeId)(x:AV)(k:Nat):Prop×AV :=
 match x with
 | .ptr i p=>match T s with
  | some c=>(c.isAgg=true∧fldT c k,.ptr i (p++ [.fld (c.fieldOff k) k]))
  | none=>(False,.junk)
 | .roa c x=>match aKq c x k with
  | .val f y=>(T s=some c,.roa f y)
  | _=>(False,.junk)
 | _=>(False,.junk)
where
 fldT:Ty→Nat→Prop
 | .pair _ _,0=>True
 | .pair _ r,k+1=>fldT r k
 | .expr,k=>k<3
 | _,_=>False
def Ty.fldTy:Ty→Nat→Option Ty
 | .pair a _,0=>some a
 | .pair _ r,k+1=>r.fldTy k
 | _,_=>none
def aMk(T:Tab)(s:TypeId)(x:AV)(k:Nat):Prop×AV :=
 match x with
 | .val c y=>(T s=some c∧aKq c y k≠ .junk,aKq c y k)
 | .agg f=>(∃g,T s=some g∧f.all AV.solid1=true∧(eG (.agg f) k).1.solid1=true∧(eG (.agg f) k).2=g.fieldOff k∧ ∃c',g.fldTy k=some c'∧c'.isAgg=(eG (.agg f) k).1.isAgg∧c'.cells=(eG (.agg f) k).1.nc1,(eG (.agg f) k).1)
 | _=>(False,.junk)
def aOL(T:Tab)(h:List Obj)(t:TypeId)(x g:AV):Prop×AV :=
 match aEc g with
 | none=>(False,.junk)
 | some i =>
  match x with
  | .val (.sl c) f=>(T t=some (.sl c)∧0≤i∧i<(f.length:Int),.roa c (f.getD i.toNat c.zero))
  | .full c f=>(T t=some (.sl c)∧0≤i∧i<(f.length:Int),.roa c (f.getD i.toNat c.zero))
  | .own k=>match h[k]? with
   | some (.row _ c f)=>(T t=some (.sl c)∧0≤i∧i<(f.length:Int),.ptr k [.idx c.cells i.toNat])
   | some (.frz c f)=>(T t=some (.sl c)∧0≤i∧i<(f.length:Int),.roa c (f.getD i.toNat c.zero))
   | some (.tre _ _ c f)=>(T t=some (.sl c)∧0≤i∧i<(f.length:Int),.ptr k [.idx c.cells i.toNat])
   | some (.trh _ _ c f _ _)=>(T t=some (.sl c)∧0≤i∧i<(f.length:Int),.ptr k [.idx c.cells i.toNat])
   | _=>(False,.junk)
  | .sub k s off n=>match h[k]? with
   | some (.row _ c f)=>(T t=some (.sl c)∧s=c.cells∧0≤i∧i<(n:Int),.ptr k [.idx c.cells (off+i.toNat)])
   | _=>(False,.junk)
  | .ptr k p=>match T t with
   | some (.arr n c)=>(0≤i∧i<(n:Int),.ptr k (p++ [.idx c.cells i.toNat]))
   | _=>(False,.junk)
  | .roa (.arr n c) f=>(T t=some (.arr n c)∧0≤i∧i<(n:Int),.roa c (f.getD i.toNat c.zero))
  | _=>(False,.junk)
def aOM(T:Tab)(t:TypeId)(x g:AV):Prop×AV :=
 match aEc g with
 | none=>(False,.junk)
 | some i =>
  match x with
  | .val (.arr n c) f=>(T t=some (.arr n c)∧0≤i∧i<(n:Int),.val c (f.getD i.toNat c.zero))
  | .val .str s=>(T t=some .str∧0≤i∧i<(s.length:Int),.val (.u .u8) (s.getD i.toNat 0))
  | _=>(False,.junk)
def aKV(T:Tab)(h:List Obj)(t:TypeId)(x:AV):Prop×AV :=
 match x with
 | .val .str s=>(T t=some .str,.val (.i .i64) (s.length:Int))
 | .val (.sl c) f=>(T t=some (.sl c),.val (.i .i64) (f.length:Int))
 | .full c f=>(T t=some (.sl c),.val (.i .i64) (f.length:Int))
 | .nilS=>(∃c,T t=some (.sl c),.val (.i .i64) 0)
 | .own k=>match h[k]? with
  | some (.row _ c f)=>(T t=some (.sl c),.val (.i .i64) (f.length:Int))
  | some (.frz c f)=>(T t=some (.sl c),.val (.i .i64) (f.length:Int))
  | some (.tre _ _ c f)=>(T t=some (.sl c),.val (.i .i64) (f.length:Int))
  | some (.trh _ _ c f _ _)=>(T t=some (.sl c),.val (.i .i64) (f.length:Int))
  | _=>(False,.junk)
 | .sub _ _ _ n=>(∃c,T t=some (.sl c),.val (.i .i64) (n:Int))
 | .val (.arr n c) _=>(T t=some (.arr n c),.val (.i .i64) (n:Int))
 | _=>(False,.junk)
def fX:Obj→Obj
 | .frz t f=>.frz t f
 | _=>.dead
def bCt(h:List Obj)(c:Ty)(x:AV):Option (List c.den):=AV.as (h.map fX) (.sl c) x
def aON(T:Tab)(h:List Obj)(t:TypeId)(x:AV)(lo hi mx:Option AV):Prop×AV :=
 match T t with
 | some .str=>match x,mx with
  | .val .str s,none=>match lo.map aEc,hi.map aEc with
   | none,none=>(True,.val .str s)
   | some (some l),none=>(0≤l∧l≤(s.length:Int),.val .str (s.drop l.toNat))
   | none,some (some u)=>(0≤u∧u≤(s.length:Int),.val .str (s.take u.toNat))
   | some (some l),some (some u)=>(0≤l∧l≤u∧u≤(s.length:Int),.val .str ((s.take u.toNat).drop l.toNat))
   | _,_=>(False,.junk)
  | _,_=>(False,.junk)
 | some (.sl c)=>match bCt h c x with
  | some f=>match lo.map aEc,hi.map aEc,mx.map aEc with
   | none,none,none=>(True,.val (.sl c) f)
   | some (some l),none,none=>(0≤l∧l≤(f.length:Int),.val (.sl c) (f.drop l.toNat))
   | none,some (some u),none=>(0≤u∧u≤(f.length:Int),.val (.sl c) (f.take u.toNat))
   | some (some l),some (some u),none=>(0≤l∧l≤u∧u≤(f.length:Int),.val (.sl c) ((f.take u.toNat).drop l.toNat))
   | none,some (some u),some (some m)=>(0≤u∧u≤(f.length:Int)∧m=u,.full c (f.take u.toNat))
   | some (some l),some (some u),some (some m)=>(0≤l∧l≤u∧u≤(f.length:Int)∧m=u,.full c ((f.take u.toNat).drop l.toNat))
   | _,_,_=>(False,.junk)
  | none=>(False,.junk)
 | _=>(False,.junk)
def bF1(c:Ty):AV:=.val c c.zero
def aBI:Ty→List AV
 | .pair a r=>bF1 a::aBI r
 | _=>[]
def bEZ:List AV→List (Nat×AV)→List AV
 | l,[]=>l
 | l,(k,v)::r=>bEZ (l.set k v) r
def Ty.flds:Ty→List Ty
 | .pair a r=>a::r.flds
 | _=>[]
def aMl(ts:List Ty):List (Nat×AV)→Prop
 | []=>True
 | (k,v)::r=>(v.solid1=true∧ ∃t,ts[k]? = some t∧v.nc1=t.cells)∧aMl ts r
def aYE(c:Ty):List c.den→List (Nat×AV)→Option (List c.den)
 | l,[]=>some l
 | l,(k,v)::r=>match AV.as [] c v with
  | some x=>if k<l.length then aYE c (l.set k x) r else none
  | none=>none
def aKW(c:Ty)(l:List AV):AV :=
 match AV.as [] c (.agg l) with
 | some x=>.val c x
 | none=>.agg l
def aMm(T:Tab)(t:TypeId)(ps:List (Nat×AV)):Prop×AV :=
 match T t with
 | some (.pair a r)=>((Ty.pair a r).okB=true∧aMl (Ty.pair a r).flds ps,aKW (.pair a r) (bEZ (aBI (.pair a r)) ps))
 | some .unit=>(ps= [],.val .unit ())
 | some .expr=>(aMl [.i .i64,.str,.sl .expr] ps,aKW .expr (bEZ [.val (.i .i64) 0,.val .str [],.nilS] ps))
 | some (.arr n c)=>match aYE c (List.replicate n c.zero) ps with
  | some l=>(c.okB=true,.val (.arr n c) l)
  | none=>(False,.junk)
 | _=>(False,.junk)
def mZ:Ty→List AV
 | .pair (.sl _) r=>.nilS::mZ r
 | .pair a r=>.val a a.zero::mZ r
 | _=>[]
def aMn:Ty→Bool
 | .pair _ r=>aMn r
 | .unit=>true
 | _=>false
def aQB(T:Tab)(t:TypeId)(ps:List (Nat×AV)):Prop×AV :=
 match T t with
 | some (.pair a r)=>((Ty.pair a r).okB=true∧aMl (Ty.pair a r).flds ps,.agg (bEZ (mZ (.pair a r)) ps))
 | _=>(False,.junk)
def aCu(T:Tab)(t:TypeId)(n:Nat)(ps:List (Nat×AV)):Prop×AV :=
 match T t with
 | some (.sl c)=>match aYE c (List.replicate n c.zero) ps with
  | some l=>(c.okB=true∧n*c.cells≤16777216∧n≤maxLen,.full c l)
  | none=>(False,.junk)
 | _=>(False,.junk)
def mm2(mx:Bool):AV→AV→Prop×AV
 | .val (.i k) a,.val (.i f) b=>if f=k then (True,.val (.i k) (if mx then max a b else min a b)) else (False,.junk)
 | .val (.u k) a,.val (.u f) b=>if f=k then (True,.val (.u k) (if mx then max a b else min a b)) else (False,.junk)
 | _,_=>(False,.junk)
def bF2(mx:Bool):List AV→Prop×AV
 | [x,y]=>mm2 mx x y
 | [x,y,z]=>((mm2 mx x y).1∧(mm2 mx (mm2 mx x y).2 z).1,(mm2 mx (mm2 mx x y).2 z).2)
 | _=>(False,.junk)
def aE9:(t:Ty)→t.den→List AV
 | .pair a r,x=>.val a x.1::aE9 r x.2
 | _,_=>[]
def bF3:(r:RK)→r.ty.den→AV
 | .one t,x=>.val t x
 | .tup t,x=>.tup (aE9 t x)
 | _,_=>.junk
def Ty.scalar:Ty→Bool
 | .bool=>true
 | .u _=>true
 | .i _=>true
 | .str=>true
 | .unit=>true
 | .pair a b=>a.scalar&&b.scalar
 | .arr _ t=>t.scalar
 | _=>false
def aDy(h:List Obj):(t:Ty)→List AV→Option t.den
 | .unit,[]=>some ()
 | .pair a r,v::vs=>match AV.as h a v,aDy h r vs with
  | some x,some y=>some (x,y)
  | _,_=>none
 | _,_=>none
def aIR(Γ:FuncId→List AV→Option aF)(h:List Obj)(f:FuncId)(vs:List AV):Prop×AV :=
 match Γ f vs with
 | some sp=>match sp.res with
  | .own _ _=>(False,.junk)
  | _=>match aDy (if sp.res.ty.scalar then h else h.map fX) sp.args vs with
   | some x=>(sp.pre x,bF3 sp.res (sp.fn x))
   | none=>(False,.junk)
 | none=>(False,.junk)
end Go.Vc
namespace Go.Vc
open Go.RowKit
theorem xV(b off j:Nat):(Addr.mk b off none).add j=⟨b,off+j,none⟩:=by
 grind[Addr.add]
theorem aUv{c:Ctx}{w:World}{v:AV}{cs:List Value}(hs:v.solid1=true)(q:aO c w v cs):∀u∈cs,one u:=by
 cases v<;>simp[AV.solid1] at hs<;>simp only[aO] at q
 case val t x=>grind[bB.one]
 case full t xs=>obtain⟨a,n,e,_⟩:=q; subst e; intro u g; simp at g; subst g; trivial
 case ptr i p=>obtain⟨_,b,_,e⟩:=q; subst e; intro u g; simp at g; subst g; trivial
 case roa t x=>obtain⟨b,off,ds,e,_⟩:=q; subst e; intro u g; simp at g; subst g; trivial
 case fn f a b=>rw[q.2.2]; intro u g; simp at g; subst g; trivial
 case own i=>simp_all
 case mp i=>simp_all
 all_goals (rw[q]; intro u g; simp at g; subst g; trivial)
theorem aQC{c:Ctx}{w:World}{v:AV}{cs:List Value}(hs:v.solid=true)(g:aO c w v cs):∀u∈cs,one u:=by
 cases v
 case agg vs =>
  simp only[aO] at g;simp only[AV.solid] at hs
  induction vs generalizing cs with
  | nil=>grind[nD]
  | cons v r q =>
   simp only[List.all_cons,Bool.and_eq_true] at hs;simp only[nD] at g;obtain⟨c1,J,e,z,L⟩:=g;intro u f;rw[e] at f;rcases List.mem_append.1 f with f|f
   ·exact aUv hs.1 z u f
   ·have I:=hs.2; exact q (by assumption) (by assumption) u f
 all_goals grind[AV.solid,aUv]
def mkV(agg:Bool)(ds:List Value):Value:=if agg then .agg ds.toArray else ds.headD Go.undef
theorem bLq{c:Ctx}{w:World}{v:AV}{ds:List Value}(hs:v.solid=true)(I:aO c w v ds)(q:v.isAgg=false→ds.length=1):aX c w v (mkV v.isAgg ds):=by
 have J:=aQC hs I;have f:zM c w v (mkV v.isAgg ds):=by
  unfold mkV;cases z:v.isAgg
  ·have L:=q z
   match ds,L with
   | [u],_ =>
    have g:=J u (by simp);simp only[Bool.false_eq_true,if_false,List.headD_cons];refine⟨?_,(fun h=>by simp_all),(fun _ N e=>by subst e; exact g)⟩;have:u.cells.toList= [u]:=(by cases u<;>first|rfl|exact g.elim);simp_all
  ·simp only[if_true];exact⟨by grind[Value.cells],fun _=>⟨_,rfl⟩,fun h=>by simp_all⟩
 cases v<;>first|exact f|grind[AV.solid,AV.solid1]
section
variable {P:Program} {T:Tab} {M:Perm} {w0:World} {c:Ctx} {h:List Obj} {w:World}
theorem aIS{t:TypeId}{q:Ty}(g:aFo P T t q){v:AV}{ds:List Value}{b off:Nat}(hs:v.solid=true)(I:q.isAgg=v.isAgg)(z:q.cells=v.nc)(J:aO c w v ds)(hc:mW w b off ds) :
  ∃u,(loadVar t ⟨b,off,none⟩).run P w= .ok u w∧aX c w v u:=by
 have N:=aUt hs J;have L:v.isAgg=false→ds.length=1:=fun h0=>by
  rw[N,← z]; rw[h0] at I;cases q<;>simp_all[Ty.isAgg,Ty.cells]
 refine⟨mkV v.isAgg ds,?_,bLq hs J L⟩;unfold loadVar;rw[Sem.run_bind,aHZ g,Result.andThen_ok,I];cases hb:v.isAgg
 ·match ds,L hb with
  | [u],_ =>
   have:=hc 0 u rfl;simp_all[Nat.add_zero,mkV,load,Sem.run]
 ·have f:=run_loadCells_list (P:=P) w ⟨b,off,none⟩ ds (fun j u O=>by rw[xV]; exact hc j u O);rw[N,← z] at f;simp[fW g,f,mkV]
theorem yK{b:Nat}{cells:Array Value}{e:TypeId}{fz:Nat×Nat}(hb:w.heap[b]? = some (.cells cells e fz)){pre ds post:List Value}(hc:cells.toList=pre++ds++post):mW w b pre.length ds:=by
 intro j v f;grind[World.cell?,aKT]
theorem aFp{b off:Nat}{cs pre ds post:List Value}(hc:mW w b off cs)(q:cs=pre++ds++post):mW w b (off+pre.length) ds:=by
 intro j v g;have f:j<ds.length:=by
  grind
 have:cs[pre.length+j]? = some v:=by
  grind
 have:=hc _ _ this;grind
theorem aUw:∀(t:Ty) (x:t.den) (k:Nat),aKq t x k= .junk∨ ∃f y,aKq t x k= .val f y
 | .pair a _,x,0=>.inr ⟨a,x.1,rfl⟩
 | .pair _ r,x,k+1=>aUw r x.2 k
 | .expr,x,0=>.inr ⟨_,_,rfl⟩
 | .expr,x,1=>.inr ⟨_,_,rfl⟩
 | .expr,x,2=>.inr ⟨_,_,rfl⟩
 | .expr,x,k+3=>.inl rfl
 | .bool,_,_=>.inl rfl
 | .u _,_,_=>.inl rfl
 | .i _,_,_=>.inl rfl
 | .str,_,_=>.inl rfl
 | .sl _,_,_=>.inl rfl
 | .unit,_,_=>.inl rfl
 | .arr _ _,_,_=>.inl rfl
 | .rp _,_,_=>.inl rfl
 | .clo _ _,_,_=>.inl rfl
 | .ifc _ _,_,_=>.inl rfl
 | .nili,_,_=>.inl rfl
 | .nilp,_,_=>.inl rfl
 | .nilf,_,_=>.inl rfl
theorem aGY{i:Nat}{p:List Step}{v:Value}(hv:aX c w (.ptr i p) v):i<c.n∧ ∃b,aU (c.hd i)=some b∧v= .pointer (some ⟨b,pR p,none⟩):=by
 obtain⟨g,_,f⟩:=hv;simp only[aO] at g;obtain⟨hi,b,hb,hc⟩:=g;refine⟨hi,b,hb,?_⟩;have f:=f rfl;simp_all[Value.cells,congrArg]
theorem aT3{t:Ty}{x:t.den}{v:Value}(hv:aX c w (.roa t x) v):∃b off ds,v= .pointer (some ⟨b,off,none⟩)∧c.S b∧bB w c.S t x ds∧mW w b off ds:=by
 obtain⟨g,_,f⟩:=hv;simp only[aO] at g;obtain⟨b,off,ds,hc,h⟩:=g;refine⟨b,off,ds,?_,h⟩;have f:=f rfl;simp_all[Value.cells,congrArg]
theorem aMo{i:Nat}{p:List Step}{b:Nat}(hi:i<c.n)(hb:aU (c.hd i)=some b):aX c w (.ptr i p) (.pointer (some ⟨b,pR p,none⟩)) :=
 ⟨⟨hi,b,hb,rfl⟩,(fun h=>by cases h),(fun _ f=>by simp)⟩
theorem aGZ{t:Ty}{x:t.den}{b off:Nat}{ds:List Value}(hb:c.S b)(hd:bB w c.S t x ds)(hc:mW w b off ds):aX c w (.roa t x) (.pointer (some ⟨b,off,none⟩)) :=
 ⟨⟨b,off,ds,rfl,hb,hd,hc⟩,(fun h=>by cases h),(fun _ f=>by simp)⟩
theorem bF4{e:TypeId}{t:Ty}{xs:List t.den}{v:Value}{b:Nat}(hr:aCr c w e t xs v)(hb:aU v=some b){k:Nat}(hk:k<xs.length) :
  ∃ds,bB w c.S t (xs.getD k t.zero) ds∧mW w b (k*t.cells) ds:=by
 obtain⟨L,z,_,f,U,hl,q⟩:=hr;obtain⟨I,hv⟩:=z;rcases hv with⟨rfl,h0⟩|⟨g,Y,O,rfl,_,hheap,N,J,hsz,htake⟩
 ·omega
 ·simp[aU] at hb;subst hb;refine⟨f[k],?_,?_⟩
  ·simp_all
  ·obtain⟨pre,post,hf,hp⟩:=oT (t:=t) (css:=f) (fun j Z=>bB.length _ _ _ (q j (by omega) Z)) k (by omega);grind[List.append_assoc,List.take_append_drop,yK]
theorem bE0{i b k:Nat}{e:TypeId}{m:Mk}{t:Ty}{xs:List t.den}{v:AV}(I:aIM c w i (.trh e m t xs k v))(hb:aU (c.hd i)=some b):∃ds,aO c w v ds∧mW w b (k*t.cells) ds:=by
 obtain⟨f,Bs,q⟩:=I;have hk:=q.kl;have hlc:=q.lc;have U:=q.lb;rcases q.row.2 with⟨_,h0⟩|⟨g,Y,O,z,_,hheap,N,L,hsz,htake⟩
 ·omega
 ·rw[z] at hb;simp[aU] at hb;subst hb;obtain⟨J,Z⟩:=q.hv (by omega);refine⟨f[k],J,?_⟩;obtain⟨pre,post,hf,hp⟩:=oT (t:=t) (css:=f) (fun j hj=>by
   by_cases e:j=k
   ·simp_all
   ·exact mB.length _ _ _ _ _ (q.el j (by omega) hj (by omega) e)) k (by omega)
  grind[List.append_assoc,List.take_append_drop,yK]
theorem bDM(U:lZ P T)(hg:Good M w0 c h w){t:TypeId}{av:AV}{v:Value}(hv:aX c w av v)(hc:(aKU T h t av).1) :
  ∃u,(Instr.loadAt t v).run P w= .ok u w∧aX c w (aKU T h t av).2 u:=by
 cases av with
 | roa g x =>
  simp only[aKU] at hc ⊢;obtain⟨b,off,ds,rfl,hb,hd,hcell⟩:=aT3 hv;have hTy:=U _ _ hc;obtain⟨u,hu,hr⟩:=aIS (v:=.val g x) (c:=c) hTy rfl rfl rfl hd hcell;grind[Instr.loadAt,Instr.sureAddr]
 | ptr i p =>
  obtain⟨hi,b,hb,rfl⟩:=aGY hv;simp only[aKU] at hc ⊢;cases Y:h[i]? with
  | none=>simp_all
  | some o =>
   have z:=hg.objs i o Y;cases o with
   | box nb v =>
    simp only[Y] at hc ⊢;obtain⟨J,f,g,I,N,L⟩:=hc;obtain⟨b',cells,e,hhd,hheap,hsz,hcr⟩:=z;rw[hhd] at hb;simp[aU] at hb;subst hb;have O:(aA7 v p).2≠ .junk:=fun e=>(by rw[e] at f; cases f);obtain⟨pre,ds,post,e1,hp,hd⟩:=aOK p v _ hcr J O;obtain⟨u,hu,hr⟩:=aIS (U _ _ I) f N L hd (yK hheap e1);grind[Instr.loadAt,Instr.sureAddr]
   | row e g xs =>
    simp only[Y] at hc ⊢;cases p with
    | nil=>simp_all
    | cons s p =>
     cases s with
     | fld _ _=>simp_all
     | idx s k =>
      simp only at hc ⊢;obtain⟨hk,hs,J,f,c',I,N,L⟩:=hc;obtain⟨ds,q,hcell⟩:=bF4 z hb hk;have O:(aA7 (.val g (xs.getD k g.zero)) p).2≠ .junk:=fun e=>(by rw[e] at f; cases f);obtain⟨pre,Z,post,e1,hp,hd⟩:=aOK p (.val g (xs.getD k g.zero)) ds q J O;obtain⟨u,hu,hr⟩:=aIS (U _ _ I) f N L hd (aFp hcell e1);grind[Instr.loadAt,Instr.sureAddr,pR,Step.off]
   | trh e m g xs kk v =>
    simp only[Y] at hc ⊢;cases p with
    | nil=>simp_all
    | cons s p =>
     cases s with
     | fld _ _=>simp_all
     | idx s k =>
      simp only at hc ⊢;obtain⟨rfl,hs,J,f,c',I,N,L⟩:=hc;obtain⟨ds,q,hcell⟩:=bE0 z hb;have O:(aA7 v p).2≠ .junk:=fun e=>(by rw[e] at f; cases f);obtain⟨pre,Z,post,e1,hp,hd⟩:=aOK p v ds q J O;obtain⟨u,hu,hr⟩:=aIS (U _ _ I) f N L hd (aFp hcell e1);grind[Instr.loadAt,Instr.sureAddr,pR,Step.off]
   | _=>simp_all
 | _=>exact hc.elim
theorem aUx:∀ {z:List Field} {off:Nat} {t:Ty} {k:Nat},eM T z off t=true→aBt.fldT t k→ ∃f,z[k]? = some f∧f.offset=off+t.fieldOff k∧ ∃q,T f.type=some q∧0<q.cells∧(∀x,∃y,aKq t x k= .val q y)
 | [],off,.unit,k,_,I=>I.elim
 | f::z,off,.pair a r,0,g,_=>by
  simp only[eM,Bool.and_eq_true,decide_eq_true_eq] at g;exact⟨f,rfl,by rw[g.1.1.1.2]; rfl,a,g.1.1.1.1,g.1.2,fun x=>⟨x.1,rfl⟩⟩
 | f::z,off,.pair a r,k+1,g,I=>by
  simp only[eM,Bool.and_eq_true,decide_eq_true_eq] at g;obtain⟨L,O,N,q,J⟩:=aUx g.2 (show aBt.fldT r k from I);exact⟨L,by simp_all,by grind[Ty.fieldOff],q,J.1,J.2.1,fun x=>J.2.2 x.2⟩
 | [],_,.pair _ _,_,g,_=>by grind[eM]
 | _::_,_,.unit,_,g,_=>by grind[eM]
theorem aMp{s:TypeId}{z:Ty}(J:aFo P T s z){k:Nat}(ha:z.isAgg=true)(q:aBt.fldT z k) :
  ∃g f,P.underlying s=some (.struct g)∧g[k]? = some f∧f.offset=z.fieldOff k∧ ∃c',T f.type=some c'∧0<c'.cells∧(∀x,∃y,aKq z x k= .val c' y):=by
 obtain⟨d,hd,hb⟩:=J.desc;cases z<;>first|grind[Ty.isAgg]|skip
 all_goals (cases d<;>first|grind[jI]|simp only[jI] at hb)
 case unit.struct g=>exact q.elim
 case pair.struct a r g =>
  obtain⟨f,Z,Y,U⟩:=aUx hb q;simp_all
 case arr.array=>exact q.elim
 case expr.struct g =>
  unfold bDH at hb;split at hb
  ·rename_i f0 O L I;simp only[Bool.and_eq_true,decide_eq_true_eq] at hb;obtain⟨⟨⟨⟨⟨Z,Y⟩,U⟩,h4⟩,h5⟩,h6⟩:=hb;have q:k<3:=q;have N:∀j,g[j]? = [f0,O,L][j]? := fun j=>by rw[← I,Array.getElem?_toList]
   match k,q with
   | 0,_=>exact⟨g,f0,hd,by simp_all,Y,.i .i64,Z,Nat.one_pos,fun x=>⟨_,rfl⟩⟩
   | 1,_=>exact⟨g,O,hd,by simp_all,h4,.str,U,Nat.one_pos,fun x=>⟨_,rfl⟩⟩
   | 2,_=>exact⟨g,L,hd,by simp_all,h6,.sl .expr,h5,Nat.one_pos,fun x=>⟨_,rfl⟩⟩
  grind
theorem bDN{t:Ty}:∀ {x:t.den} {k:Nat},aKq t x k≠ .junk→aBt.fldT t k:=by
 induction t with
 | pair a r _ f=>intro x k h; cases k with
  | zero=>trivial
  | succ k=>exact f h
 | expr=>intro x k h; match k with
  | 0=>exact(by omega:0<3)
  | 1=>exact(by omega:1<3)
  | 2=>exact(by omega:2<3)
  | k+3=>exact absurd rfl h
 | _=>intro x k h; exact absurd rfl h
theorem aKX{f:Field}{q:Ty}(g:aFo P T f.type q)(z:0<q.cells)(b off:Nat):(fieldPlace ⟨b,off,none⟩ f).run P w= .ok ⟨b,off+f.offset,none⟩ w:=by
 have:¬q.cells=0:=by omega
 simp[fieldPlace,fW g,this,Result.andThen,xV]
theorem aIT:∀(p q:List Step),pR (p++q)=pR p+pR q
 | [],q=>by simp[pR]
 | s::p,q=>by simp[pR,aIT p q]; omega
theorem bF5(J:lZ P T){s:TypeId}{av:AV}{v:Value}{k:Nat}(hv:aX c w av v)(hc:(aBt T s av k).1) :
  ∃u,(Instr.fieldAt s v k).run P w= .ok u w∧aX c w (aBt T s av k).2 u:=by
 cases av with
 | ptr i p =>
  obtain⟨hi,b,hb,rfl⟩:=aGY hv;simp only[aBt] at hc ⊢;cases ht:T s with
  | none=>simp_all
  | some q =>
   simp only[ht] at hc ⊢;obtain⟨fs,f,Z,O,N,c',U,L,_⟩:=aMp (J _ _ ht) hc.1 hc.2;refine⟨.pointer (some ⟨b,pR (p++ [.fld (q.fieldOff k) k]),none⟩),?_,aMo hi hb⟩;have g:=aKX (w:=w) (J _ _ U) L b (pR p);simp[Instr.fieldAt,bG Z,O,Instr.sureAddr,g,Result.andThen,aIT,pR,Step.off,N]
 | roa q x =>
  obtain⟨b,off,ds,rfl,hb,hd,hcell⟩:=aT3 hv;simp only[aBt] at hc ⊢;rcases aUw q x k with hj|⟨f,y,hf⟩
  ·simp_all
  ·simp only[hf] at hc ⊢;have z:aKq q x k≠ .junk:=(by simp_all);have Y:q.isAgg=true:=by
    cases q<;>first|rfl|exact absurd rfl z
   obtain⟨fs,fd,Z,O,N,c',U,L,h6⟩:=aMp (J _ _ hc) Y (bDN z);obtain⟨pre,ds',post,e,hp,I⟩:=aOJ (c:=c) q x k ds hd z;rw[hf] at I;have hcell':=aFp hcell e;rw[hp] at hcell';refine⟨.pointer (some ⟨b,off+q.fieldOff k,none⟩),?_,aGZ hb I hcell'⟩;have g:=aKX (w:=w) (J _ _ U) L b off;simp[Instr.fieldAt,bG Z,O,Instr.sureAddr,g,Result.andThen,N]
 | _=>exact hc.elim
theorem bF6:∀ {t:Ty} {k:Nat} {c':Ty},t.fldTy k=some c'→aBt.fldT t k∧ ∀x:t.den,∃y,aKq t x k= .val c' y:=by
 intro t
 induction t with
 | pair a r _ f =>
  intro k c' h;cases k with
  | zero=>simp only[Ty.fldTy,Option.some.injEq] at h; subst h; exact⟨trivial,fun x=>⟨x.1,rfl⟩⟩
  | succ k=>obtain⟨q,g⟩:=f (show r.fldTy k=some c' from h); exact⟨q,fun x=>g x.2⟩
 | _=>grind[Ty.fldTy]
theorem bE1{t:TypeId}{z:Ty}(g:aFo P T t z){cs:Array Value}{pre ds post:List Value}(J:cs.toList=pre++ds++post){v:AV}(hs:v.solid1=true)(N:z.isAgg=v.isAgg)(L:z.cells=v.nc1)(hd:aO c w v ds)(w':World) :
  ∃u,(part t cs pre.length).run P w'= .ok u w'∧aX c w v u:=by
 have Y:=aNH hs hd;have I:∀u:Value,zM c w v u→aX c w v u:=fun u h=>by cases v<;>first|exact h|grind[AV.solid1]
 by_cases q:z.isAgg=true
 ·refine⟨.agg (cs.extract pre.length (pre.length+z.cells)),?_,I _ ⟨?_,fun _=>⟨_,rfl⟩,fun h=>by simp_all⟩⟩
  ·simp[part,aHZ g,q,fW g,Result.andThen]
  simp_all[Value.cells,bCp]
 ·have U:z.cells=1:=by cases z<;>simp_all[Ty.isAgg,Ty.cells]
  obtain⟨u,rfl⟩:∃u,ds= [u]:=by
   match ds,Y.trans (L.symm.trans U) with
   | [u],_=>simp_all
  have f:=aQC (v:=v) (c:=c) (w:=w) (by cases v<;>first|exact hs|grind[AV.solid1]) hd u (by simp);refine⟨u,?_,I _ ⟨?_,fun h=>absurd (N.trans h) q,fun _ O e=>by subst e; exact f.elim⟩⟩
  ·have:=aKT J 0 (v:=u) rfl;simp only[Nat.add_zero] at this;simp[part,aHZ g,q,this]
  ·cases u<;>first|exact hd|exact f.elim
theorem bF7(N:lZ P T){s:TypeId}{av:AV}{v:Value}{k:Nat}(hv:aX c w av v)(hc:(aMk T s av k).1) :
  ∃u,(Instr.field s v k).run P w= .ok u w∧aX c w (aMk T s av k).2 u:=by
 cases av with
 | val z x =>
  simp only[aMk] at hc ⊢;obtain⟨ht,L⟩:=hc;have f:z.isAgg=true:=by cases z<;>first|rfl|exact absurd rfl L
  obtain⟨fs,fd,h1,h2,h3,c',h4,h5,Y⟩:=aMp (N _ _ ht) f (bDN L);obtain⟨y,hy⟩:=Y x;obtain⟨q,J,_⟩:=hv;obtain⟨cs,rfl⟩:=J f;simp only[aO,Value.cells] at q;obtain⟨pre,Z,post,e,hp,g⟩:=aOJ (c:=c) z x k _ q L;rw[hy] at g ⊢;obtain⟨u,hu,hr⟩:=aF1 (N _ _ h4) e g w;simp_all[Instr.field,bG,asAgg,aX.ofV]
 | agg vs =>
  simp only[aMk] at hc ⊢;obtain⟨z,ht,hs,I,hoff,c',hf,ha,hn⟩:=hc;obtain⟨hft,O⟩:=bF6 hf;have f:z.isAgg=true:=by cases z<;>first|rfl|grind[Ty.fldTy]
  obtain⟨fs,fd,h1,h2,h3,U,h4,h5,Y⟩:=aMp (N _ _ ht) f hft;obtain⟨y,hy⟩:=Y z.zero;obtain⟨y',hy'⟩:=O z.zero;have ec:U=c':=by simp_all
  subst ec;obtain⟨q,J,_⟩:=hv;obtain⟨cs,rfl⟩:=J rfl;have L:(eG (.agg vs) k).1≠ .junk:=fun e=>by rw[e] at I; cases I
  obtain⟨pre,Z,post,e,hp,g⟩:=aUu (c:=c) (.agg vs) k _ hs q L;simp only[Value.cells] at e;obtain⟨u,hu,hr⟩:=bE1 (N _ _ h4) e I ha hn g w;simp_all[Instr.field,bG,asAgg]
 | _=>exact hc.elim
end
end Go.Vc

