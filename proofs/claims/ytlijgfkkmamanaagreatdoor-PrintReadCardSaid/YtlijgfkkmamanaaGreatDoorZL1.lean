import Derived.WalkKit
import Derived.Below
set_option linter.unusedVariables false
set_option linter.unusedSimpArgs false
namespace Go.Vc
open Go.RowKit
inductive Ex where
 | mk (kind:Int) (text:List Nat) (l:List Ex)
def Ex.kind:Ex→Int| .mk k _ _=>k
def Ex.text:Ex→List Nat| .mk _ t _=>t
def Ex.l:Ex→List Ex| .mk _ _ l=>l
inductive Ty where
 | bool|u (k:IntKind)|i (k:IntKind)|str|sl (t:Ty)|unit|pair (a b:Ty)|arr (n:Nat) (t:Ty)|expr|rp (t:Ty)|clo (g:FuncId) (t:Ty)|ifc (k:TypeId) (t:Ty)|nili|nilp|nilf
 deriving DecidableEq
@[reducible] def Ty.den:Ty→Type
 | .bool=>Bool
 | .u _=>Nat
 | .i _=>Int
 | .str=>List Nat
 | .sl t=>List t.den
 | .unit=>Unit
 | .pair a b=>a.den×b.den
 | .arr _ t=>List t.den
 | .expr=>Ex
 | .rp t=>t.den
 | .clo _ t=>t.den
 | .ifc _ t=>t.den
 | .nili=>Unit
 | .nilp=>Unit
 | .nilf=>Unit
def Ty.cells:Ty→Nat
 | .bool=>1
 | .u _=>1
 | .i _=>1
 | .str=>1
 | .sl _=>1
 | .unit=>0
 | .pair a b=>a.cells+b.cells
 | .arr n t=>n*t.cells
 | .expr=>3
 | .rp _=>1
 | .clo _ _=>1
 | .ifc _ _=>1
 | .nili=>1
 | .nilp=>1
 | .nilf=>1
def Ty.isAgg:Ty→Bool
 | .unit=>true
 | .pair _ _=>true
 | .arr _ _=>true
 | .expr=>true
 | _=>false
def Ty.zero:(t:Ty)→t.den
 | .bool=>false
 | .u _=>0
 | .i _=>0
 | .str=>[]
 | .sl _=>[]
 | .unit=>()
 | .pair a b=>(a.zero,b.zero)
 | .arr n t=>List.replicate n t.zero
 | .expr=>.mk 0 [] []
 | .rp t=>t.zero
 | .clo _ t=>t.zero
 | .ifc _ t=>t.zero
 | .nili=>()
 | .nilp=>()
 | .nilf=>()
def aQ(s:ByteArray):List Nat:=s.data.toList.map (·.toNat)
def mY(w:World)(b off:Nat)(ds:List Value):Prop:=∀j v,ds[j]? = some v→w.cell? ⟨b,off+j,none⟩=some v
def SlR{α:Type}(w:World)(S:Nat→Prop)(R:α→List Value→Prop)(sz:Nat)(xs:List α)(a:Option Addr)(len cap:Nat):Prop :=
 xs.length=len∧len≤cap∧cap≤maxLen ∧
  (xs= []∨ ∃b off,a=some ⟨b,off,none⟩∧S b∧ ∀i (h:i<xs.length),∃ds,R xs[i] ds∧mY w b (off+i*sz) ds)
inductive RepEx(w:World)(S:Nat→Prop):Ex→List Value→Prop where
 | mk (k:Int) (s:ByteArray) (l:List Ex) (a:Option Addr) (len cap:Nat) (dss:Nat→List Value)
   (hk:IntKind.min .i64≤k∧k≤IntKind.max .i64) (hs:s.size≤maxLen) (hl:l.length=len) (hc:len≤cap) (hm:cap≤maxLen)
   (hr:∀i (h:i<l.length),RepEx w S l[i] (dss i))
   (ha:l= []∨ ∃b off,a=some ⟨b,off,none⟩∧S b∧ ∀i,i<l.length→mY w b (off+i*3) (dss i)) :
   RepEx w S (.mk k (aQ s) l) [.int .i64 k,.string s,.slice a len cap]
def bB(w:World)(S:Nat→Prop):(t:Ty)→t.den→List Value→Prop
 | .bool,x,f=>f= [.bool x]
 | .u k,x,f=>f= [.int k (x:Int)]∧k.signed=false∧(x:Int)≤k.max
 | .i k,x,f=>f= [.int k x]∧k.signed=true∧k.min≤x∧x≤k.max
 | .str,x,f=>∃s,f= [.string s]∧aQ s=x∧s.size≤maxLen
 | .sl t,q,f=>∃a len cap,f= [.slice a len cap]∧SlR w S (bB w S t) t.cells q a len cap
 | .unit,_,f=>f= []
 | .pair a b,x,f=>∃c1 z,f=c1++z∧bB w S a x.1 c1∧bB w S b x.2 z
 | .arr n t,q,f=>q.length=n∧ ∃css:List (List Value),f=css.flatten∧css.length=q.length∧ ∀i (h:i<q.length) (h':i<css.length),bB w S t q[i] css[i]
 | .expr,x,f=>RepEx w S x f
 | .rp t,x,f=>∃b off ds,f= [.pointer (some ⟨b,off,none⟩)]∧S b∧bB w S t x ds∧mY w b off ds
 | .clo g t,x,f=>∃vs:List Value,f= [.func (.func g) #[] vs.toArray]∧bB w S t x vs
 | .ifc k t,x,f=>∃v ds,f= [.iface k v]∧(t.isAgg=true→v= .agg ds.toArray)∧(t.isAgg=false→ds= [v])∧bB w S t x ds
 | .nili,_,f=>f= [.nilIface]
 | .nilp,_,f=>f= [.pointer none]
 | .nilf,_,f=>f= [.nilFunc]
def dV(w:World)(S:Nat→Prop)(t:Ty)(x:t.den)(v:Value):Prop :=
 if t.isAgg=true then ∃cs,v= .agg cs∧bB w S t x cs.toList else bB w S t x [v]
def aCk(S:Nat→Prop)(w w':World):Prop:=∀b,S b→w'.heap[b]? = w.heap[b]?
theorem aCk.refl(S:Nat→Prop)(w:World):aCk S w w:=fun _ _=>rfl
theorem aCk.trans{S:Nat→Prop}{a b c:World}(h:aCk S a b)(k:aCk S b c):aCk S a c:=fun x f=>(k x f).trans (h x f)
theorem aCk.mono{S S':Nat→Prop}{w w':World}(h:aCk S w w')(hs:∀b,S' b→S b):aCk S' w w':=fun b hb=>h b (hs b hb)
theorem aFd{S:Nat→Prop}{w w':World}(h:aCk S w w'){b off:Nat}(hb:S b){ds:List Value}(hc:mY w b off ds):mY w' b off ds:=fun j v f=>by
 rw[World.cell?_of_block (w:=w) (w':=w') (h b hb)]; exact hc j v f
theorem SlR.keep{α:Type}{w w':World}{S S':Nat→Prop}(hs:∀b,S b→S' b)(h:aCk S w w'){R f:α→List Value→Prop}(L:∀x cs,R x cs→f x cs)
  {sz:Nat} {xs:List α} {a:Option Addr} {len cap:Nat} (q:SlR w S R sz xs a len cap):SlR w' S' f sz xs a len cap:=by
 obtain⟨J,I,g,z⟩:=q;refine⟨J,I,g,z.imp id ?_⟩;grind[aFd]
theorem RepEx.keep{w w':World}{S S':Nat→Prop}(hs:∀b,S b→S' b)(h:aCk S w w'){e:Ex}{cs:List Value}(z:RepEx w S e cs):RepEx w' S' e cs:=by
 induction z with
 | mk k s l a len g f J q I hc hm z L N =>
  refine .mk k s l a len g f J q I hc hm N (L.imp id ?_);grind[aFd]
theorem bB.keep{w w':World}{S S':Nat→Prop}(hs:∀b,S b→S' b)(h:aCk S w w'):∀(t:Ty) (x:t.den) (cs:List Value),bB w S t x cs→bB w' S' t x cs
 | .bool,_,_,f=>f
 | .u _,_,_,f=>f
 | .i _,_,_,f=>f
 | .str,_,_,f=>f
 | .sl t,_,_,⟨a,len,I,hv,f⟩=>⟨a,len,I,hv,f.keep hs h (fun x cs=>bB.keep hs h t x cs)⟩
 | .unit,_,_,f=>f
 | .pair a b,_,_,⟨c1,O,hc,q,g⟩=>⟨c1,O,hc,bB.keep hs h a _ _ q,bB.keep hs h b _ _ g⟩
 | .arr _ t,_,_,⟨N,z,hc,J,f⟩=>⟨N,z,hc,J,fun i q g=>bB.keep hs h t _ _ (f i q g)⟩
 | .expr,_,_,f=>RepEx.keep hs h f
 | .rp t,_,_,⟨b,off,ds,hc,hb,hd,hcell⟩=>⟨b,off,ds,hc,hs b hb,bB.keep hs h t _ _ hd,aFd h hb hcell⟩
 | .clo _ t,_,_,⟨L,hc,hd⟩=>⟨L,hc,bB.keep hs h t _ _ hd⟩
 | .ifc _ t,_,_,⟨v,ds,hc,q,g,hd⟩=>⟨v,ds,hc,q,g,bB.keep hs h t _ _ hd⟩
 | .nili,_,_,f=>f
 | .nilp,_,_,f=>f
 | .nilf,_,_,f=>f
theorem dV.keep{w w':World}{S S':Nat→Prop}(hs:∀b,S b→S' b)(h:aCk S w w'){t:Ty}{x:t.den}{v:Value}(f:dV w S t x v):dV w' S' t x v:=by
 unfold dV at *;split
 ·rename_i g; simp only[g,if_true] at f; obtain⟨q,hv,hc⟩:=f; exact⟨q,hv,hc.keep hs h⟩
 ·rename_i g; simp only[g] at f; exact f.keep hs h
theorem nI{css:List (List Value)}{n:Nat}(h:∀i (h:i<css.length),(css[i]).length=n):css.flatten.length=css.length*n:=by
 induction css with
 | nil=>simp
 | cons c r f =>
  have h0:=h 0 (by simp);have:=f (fun i hi=>by have:=h (i+1) (by simp_all); simp_all);grind
theorem bB.length{w:World}{S:Nat→Prop}:∀(t:Ty) (x:t.den) (cs:List Value),bB w S t x cs→cs.length=t.cells
 | .bool,_,_,f=>by cases f; rfl
 | .u _,_,_,f=>by cases f.1; rfl
 | .i _,_,_,f=>by cases f.1; rfl
 | .str,_,_,⟨s,hv,_⟩=>by subst hv; rfl
 | .sl t,_,_,⟨a,len,I,hv,_⟩=>by subst hv; rfl
 | .unit,_,_,f=>by cases f; rfl
 | .pair a b,_,_,⟨c1,U,hc,L,J⟩=>by subst hc; simp only[List.length_append,bB.length a _ _ L,bB.length b _ _ J,Ty.cells]
 | .arr n t,N,_,⟨z,q,hc,g,f⟩=>by
  subst hc;rw[nI (n:=t.cells) (fun i hi=>bB.length t _ _ (f i (by omega) hi)),g,z];rfl
 | .expr,_,_,f=>by cases f; rfl
 | .rp t,_,_,⟨b,off,ds,hc,_⟩=>by subst hc; rfl
 | .clo _ t,_,_,⟨O,hc,_⟩=>by subst hc; rfl
 | .ifc _ t,_,_,⟨v,ds,hc,_⟩=>by subst hc; rfl
 | .nili,_,_,f=>by cases f; rfl
 | .nilp,_,_,f=>by cases f; rfl
 | .nilf,_,_,f=>by cases f; rfl
def one(v:Value):Prop:=match v with| .agg _| .tuple _=>False|_=>True
theorem bB.one{w:World}{S:Nat→Prop}:∀(t:Ty) (x:t.den) (cs:List Value),bB w S t x cs→ ∀v∈cs,one v
 | .bool,_,_,f=>by cases f; intro v hv; simp at hv; subst hv; trivial
 | .u _,_,_,f=>by cases f.1; intro v hv; simp at hv; subst hv; trivial
 | .i _,_,_,f=>by cases f.1; intro v hv; simp at hv; subst hv; trivial
 | .str,_,_,⟨s,hv,_⟩=>by subst hv; intro v hv; simp at hv; subst hv; trivial
 | .sl t,_,_,⟨a,len,z,hv,_⟩=>by subst hv; intro v hv; simp at hv; subst hv; trivial
 | .unit,_,_,f=>by cases f; simp_all
 | .pair a b,_,_,⟨c1,Y,hc,J,I⟩=>by
  subst hc;intro v hv;rcases List.mem_append.1 hv with hv|hv
  ·exact bB.one a _ _ J v hv
  ·exact bB.one b _ _ I v hv
 | .arr n t,N,_,⟨U,q,hc,L,f⟩=>by
  subst hc;intro v hv;obtain⟨c,g,hv⟩:=List.mem_flatten.1 hv;obtain⟨i,hi,rfl⟩:=List.mem_iff_getElem.1 g;exact bB.one t _ _ (f i (by omega) hi) v hv
 | .expr,_,_,f=>by
  cases f;intro v hv;simp only[List.mem_cons,List.not_mem_nil,or_false] at hv;rcases hv with rfl|rfl|rfl<;>trivial
 | .rp t,_,_,⟨b,off,ds,hc,_⟩=>by subst hc; intro v hv; simp at hv; subst hv; trivial
 | .clo _ t,_,_,⟨O,hc,_⟩=>by subst hc; intro v hv; simp at hv; subst hv; trivial
 | .ifc _ t,_,_,⟨v,ds,hc,_⟩=>by subst hc; intro v hv; simp at hv; subst hv; trivial
 | .nili,_,_,f=>by cases f; intro v hv; simp at hv; subst hv; trivial
 | .nilp,_,_,f=>by cases f; intro v hv; simp at hv; subst hv; trivial
 | .nilf,_,_,f=>by cases f; intro v hv; simp at hv; subst hv; trivial
theorem dV.cells{w:World}{S:Nat→Prop}{t:Ty}{x:t.den}{v:Value}(f:dV w S t x v):bB w S t x v.cells.toList:=by
 unfold dV at f;split at f
 ·obtain⟨q,rfl,hc⟩:=f; exact hc
 ·have g:=bB.one t x _ f v (by simp);cases v<;>first|exact g.elim|exact f
theorem dV.of_cells{w:World}{S:Nat→Prop}{t:Ty}{x:t.den}{v:Value}(hs:t.isAgg=true→ ∃cs,v= .agg cs)(q:t.isAgg=false→ ∀cs,v≠ .agg cs)(f:bB w S t x v.cells.toList):dV w S t x v:=by
 unfold dV;split
 ·rename_i g; obtain⟨cs,rfl⟩:=hs g; exact⟨cs,rfl,f⟩
 ·rename_i g;have:=q (by simp_all);cases v<;>first|exact absurd rfl (this _)|exact f
end Go.Vc
namespace Go.Vc
open Go.RowKit
inductive Step where
 | fld (off k:Nat)
 | idx (size i:Nat)
def Step.off:Step→Nat
 | .fld o _=>o
 | .idx s i=>i*s
def pT:List Step→Nat
 | []=>0
 | s::r=>s.off+pT r
inductive AV where
 | junk
 | undef
 | val (t:Ty) (x:t.den)
 | nilS
 | nilP
 | full (t:Ty) (xs:List t.den)
 | own (i:Nat)
 | ptr (i:Nat) (p:List Step)
 | sub (i s off n:Nat)
 | roa (t:Ty) (x:t.den)
 | fn (f:FuncId) (first caps:List Nat)
 | mp (i:Nat)
 | flat (vs:List AV)
 | agg (vs:List AV)
 | tup (vs:List AV)
inductive Mk where
 | no
 | sl (e:TypeId) (m:Mk)
 | pair (a b:Mk)
 deriving DecidableEq
inductive Obj where
 | dead
 | box (n:Nat) (v:AV)
 | row (e:TypeId) (t:Ty) (xs:List t.den)
 | frz (t:Ty) (xs:List t.den)
 | map (k v:Ty) (m:List (k.den×v.den))
 | tre (e:TypeId) (m:Mk) (t:Ty) (xs:List t.den)
 | trh (e:TypeId) (m:Mk) (t:Ty) (xs:List t.den) (k:Nat) (v:AV)
structure Ctx where
 S:Nat→Prop
 hd:Nat→Value
 n:Nat
 bl:Nat→Nat→Prop
structure Ctx.le(c c':Ctx):Prop where
 S:∀b,c.S b→c'.S b
 n:c.n≤c'.n
 hd:∀i,i<c.n→c'.hd i=c.hd i
theorem Ctx.le.refl(c:Ctx):c.le c:=⟨fun _ h=>h,Nat.le_refl _,fun _ _=>rfl⟩
theorem Ctx.le.trans{a b c:Ctx}(h:a.le b)(k:b.le c):a.le c :=
 ⟨fun x f=>k.S x (h.S x f),Nat.le_trans h.n k.n,fun i hi=>(k.hd i (Nat.lt_of_lt_of_le hi h.n)).trans (h.hd i hi)⟩
def aU:Value→Option Nat
 | .pointer (some a)=>some a.block
 | .slice (some a) _ _=>some a.block
 | .map (some b)=>some b
 | _=>none
def AV.isAgg:AV→Bool
 | .val t _=>t.isAgg
 | .agg _=>true
 | .flat _=>true
 | _=>false
mutual
def aM(c:Ctx)(w:World):AV→List Value→Prop
 | .junk,_=>True
 | .undef,cs=>cs= [Go.undef]
 | .val t x,cs=>bB w c.S t x cs
 | .nilS,cs=>cs= [.slice none 0 0]
 | .nilP,cs=>cs= [.pointer none]
 | .full t xs,cs=>∃a n,cs= [.slice a n n]∧SlR w c.S (bB w c.S t) t.cells xs a n n
 | .own i,cs=>i<c.n∧cs= [c.hd i]∧one (c.hd i)
 | .ptr i p,cs=>i<c.n∧ ∃b,aU (c.hd i)=some b∧cs= [.pointer (some ⟨b,pT p,none⟩)]
 | .sub i s off n,cs=>i<c.n∧n≤maxLen∧ ∃b cap,aU (c.hd i)=some b∧cs= [.slice (some ⟨b,off*s,none⟩) n cap]
 | .roa t x,cs=>∃b off ds,cs= [.pointer (some ⟨b,off,none⟩)]∧c.S b∧bB w c.S t x ds∧mY w b off ds
 | .fn f l1 l2,cs=>(∀i∈l1,i<c.n)∧(∀i∈l2,i<c.n)∧cs= [.func (.func f) (l1.map c.hd).toArray (l2.map c.hd).toArray]
 | .mp i,cs=>i<c.n∧cs= [c.hd i]∧one (c.hd i)
 | .flat vs,cs=>nF c w vs cs
 | .agg vs,cs=>nF c w vs cs
 | .tup _,_=>False
def nF(c:Ctx)(w:World):List AV→List Value→Prop
 | [],cs=>cs= []
 | v::r,cs=>∃c1 c2,cs=c1++c2∧aM c w v c1∧nF c w r c2
end
def zK(c:Ctx)(w:World)(v:AV)(x:Value):Prop :=
 aM c w v x.cells.toList∧(v.isAgg=true→ ∃cs,x= .agg cs)∧(v.isAgg=false→ ∀cs,x≠ .agg cs)
def aY(c:Ctx)(w:World):AV→Value→Prop
 | .junk,_=>True
 | .undef,x=>x=Go.undef
 | .tup f,x=>∃xs:List Value,x= .tuple xs.toArray∧xs.length=f.length∧ ∀i (h:i<f.length) (h':i<xs.length),zK c w f[i] xs[i]
 | v,x=>zK c w v x
mutual
theorem aM.keep{c c':Ctx}{w w':World}(hc:c.le c')(h:aCk c.S w w'):∀(v:AV) (cs:List Value),aM c w v cs→aM c' w' v cs
 | .junk,_,_=>by simp[aM]
 | .undef,_,hr=>by grind[aM]
 | .val t x,_,hr=>by simp only[aM] at *; exact bB.keep hc.S h t x _ hr
 | .nilS,_,hr=>by grind[aM]
 | .nilP,_,hr=>by grind[aM]
 | .full t xs,_,hr=>by
  simp only[aM] at *;obtain⟨a,n,hv,hr⟩:=hr;exact⟨a,n,hv,hr.keep hc.S h (fun x cs=>bB.keep hc.S h t x cs)⟩
 | .own i,_,hr=>by simp only[aM] at *; exact⟨Nat.lt_of_lt_of_le hr.1 hc.n,by rw[hc.hd i hr.1]; grind⟩
 | .ptr i p,_,hr=>by
  simp only[aM] at *;obtain⟨hi,b,hb,hv⟩:=hr;exact⟨Nat.lt_of_lt_of_le hi hc.n,b,by rw[hc.hd i hi]; exact hb,hv⟩
 | .sub i s off n,_,hr=>by
  simp only[aM] at *;obtain⟨hi,hn,b,cap,hb,hv⟩:=hr;exact⟨Nat.lt_of_lt_of_le hi hc.n,hn,b,cap,by rw[hc.hd i hi]; exact hb,hv⟩
 | .roa t x,_,hr=>by
  simp only[aM] at *;obtain⟨b,off,ds,hv,hb,hd,hcell⟩:=hr;exact⟨b,off,ds,hv,hc.S b hb,bB.keep hc.S h t x _ hd,aFd h hb hcell⟩
 | .fn f l1 l2,_,hr=>by
  simp only[aM] at *;obtain⟨h1,h2,hv⟩:=hr;refine⟨fun i hi=>Nat.lt_of_lt_of_le (h1 i hi) hc.n,fun i hi=>Nat.lt_of_lt_of_le (h2 i hi) hc.n,?_⟩;rw[List.map_congr_left (fun i hi=>hc.hd i (h1 i hi)),List.map_congr_left (fun i hi=>hc.hd i (h2 i hi))];exact hv
 | .mp i,_,hr=>by simp only[aM] at *; exact⟨Nat.lt_of_lt_of_le hr.1 hc.n,by rw[hc.hd i hr.1]; grind⟩
 | .flat vs,_,hr=>by simp only[aM] at *; exact nF.keep hc h vs _ hr
 | .agg vs,_,hr=>by simp only[aM] at *; exact nF.keep hc h vs _ hr
 | .tup _,_,hr=>by grind[aM]
theorem nF.keep{c c':Ctx}{w w':World}(hc:c.le c')(h:aCk c.S w w'):∀(vs:List AV) (cs:List Value),nF c w vs cs→nF c' w' vs cs
 | [],_,hr=>by grind[nF]
 | v::r,_,hr=>by
  simp only[nF] at *;obtain⟨c1,c2,hcs,h1,h2⟩:=hr;exact⟨c1,c2,hcs,aM.keep hc h v _ h1,nF.keep hc h r _ h2⟩
end
theorem zK.keep{c c':Ctx}{w w':World}(hc:c.le c')(h:aCk c.S w w'){v:AV}{x:Value}(f:zK c w v x):zK c' w' v x :=
 ⟨aM.keep hc h _ _ f.1,f.2⟩
theorem aY.keep{c c':Ctx}{w w':World}(hc:c.le c')(h:aCk c.S w w'){v:AV}{x:Value}(f:aY c w v x):aY c' w' v x:=by
 cases v<;>simp only[aY] at *
 case tup vs =>
  obtain⟨q,J,g,hv⟩:=f;exact⟨q,J,g,fun i I z=>(hv i I z).keep hc h⟩
 all_goals first|exact f|exact f.keep hc h
def aCl(c:Ctx)(w:World)(e:TypeId)(t:Ty)(xs:List t.den)(v:Value):Prop :=
 ∃f:List Value,w.ownsRow 0 e t.cells v xs.length f∧bB w c.S (.arr xs.length t) xs f
def bI9(n s:Nat)(e:TypeId):Prop:=s=n∨(s=2∧n=4294967296+e)
def bCj:Ty→Bool
 | .nilp=>true
 | _=>false
def aUh:Ty→Bool
 | .sl _=>true
 | _=>false
def aYn:Ty→Bool
 | .unit=>true
 | _=>false
def bCk:Ty→Bool
 | .pair b u=>aUh b&&aYn u
 | _=>false
def aUi:Ty→Bool
 | .pair a r=>bCj a&&bCk r
 | _=>false
def bxN(t:TypeId)(f:Ty):Nat:=bif aUi f then 4294967296+t else f.cells
def aKF(f:Ty):AV:=bif aUi f then .agg [.nilP,.nilS] else bif aUh f then .nilS else .val f f.zero
theorem bFX{f:Ty}(h:aUh f=true):∃b,f= .sl b:=by
 unfold aUh at h;grind
theorem aZ8{q:Ty}(h:aUi q=true):∃b,q= .pair .nilp (.pair (.sl b) .unit):=by
 unfold aUi at h;split at h
 ·rename_i a r;simp only[Bool.and_eq_true] at h;obtain⟨I,f⟩:=h;unfold bCj at I;split at I
  ·unfold bCk at f;split at f
   ·rename_i b u;simp only[Bool.and_eq_true] at f;obtain⟨g,z⟩:=f;unfold aUh at g;split at g
    ·unfold aYn at z;split at z
     all_goals simp_all
    grind
   grind
  grind
 grind
theorem bFY(t:TypeId)(f:Ty):bI9 (bxN t f) f.cells t:=by
 unfold bxN;cases h:aUi f with
 | false=>exact .inl rfl
 | true =>
  obtain⟨b,rfl⟩:=aZ8 h;exact .inr ⟨rfl,rfl⟩
def hdB(v:Value):List Nat:=match aU v with
 | some b=>[b]
 | none=>[]
def mD(w:World)(S:Nat→Prop):(t:Ty)→Mk→t.den→List Value→List Nat→Prop
 | .sl t,.sl e m,f,g,B=>∃(v:Value) (css:List (List Value)) (q:List (List Nat)),g= [v]∧w.ownsRow 0 e t.cells v f.length css.flatten∧css.length=f.length∧q.length=f.length∧B=hdB v++q.flatten∧ ∀i (h:i<f.length) (U:i<css.length) (O:i<q.length),mD w S t m f[i] css[i] q[i]
 | .pair a r,.pair N L,x,g,B=>∃(c1 I:List Value) (J z:List Nat),g=c1++I∧B=J++z∧mD w S a N x.1 c1 J∧mD w S r L x.2 I z
 | t,.no,x,g,B=>bB w S t x g∧B= []
 | _,_,_,_,_=>False
structure bDD(c:Ctx)(w:World)(i:Nat)(e:TypeId)(m:Mk)(t:Ty)(xs:List t.den)(k:Nat)(v:AV)(css:List (List Value))(Bs:List (List Nat)):Prop where
 row:w.ownsRow 0 e t.cells (c.hd i) xs.length css.flatten
 lc:css.length=xs.length
 lb:Bs.length=xs.length
 kl:k<xs.length
 el:∀j (h:j<xs.length) (h1:j<css.length) (h2:j<Bs.length),j≠k→mD w c.S t m xs[j] css[j] Bs[j]
 hb:∀(h2:k<Bs.length),Bs[k]= []
 hv:∀(h1:k<css.length),aM c w v css[k]∧css[k].length=t.cells
 nd:(hdB (c.hd i)++Bs.flatten).Nodup
 bl:∀b∈hdB (c.hd i)++Bs.flatten,c.bl i b
def aII(c:Ctx)(w:World)(i:Nat):Obj→Prop
 | .dead=>True
 | .box n v=>∃b cells e,c.hd i= .pointer (some ⟨b,0,none⟩)∧w.heap[b]? = some (.cells cells e (0,0))∧bI9 n cells.size e∧aM c w v cells.toList
 | .row e t f=>aCl c w e t f (c.hd i)
 | .frz t f=>bB w c.S (.sl t) f [c.hd i]
 | .map k v m=>∃b g clock,c.hd i= .map (some b)∧w.heap[b]? = some (.map g clock)∧g.size=m.length ∧
   ∀j (h:j<m.length) (h':j<g.size),dV w c.S k m[j].1 g[j].key∧dV w c.S v m[j].2 g[j].val
 | .tre e m t f=>∃B,mD w c.S (.sl t) (.sl e m) f [c.hd i] B∧B.Nodup∧ ∀b∈B,c.bl i b
 | .trh e m t f k v=>∃css q,bDD c w i e m t f k v css q
def fI(c:Ctx)(i:Nat):Obj→Nat→Prop
 | .dead,_=>False
 | .frz _ _,_=>False
 | .box _ _,b=>aU (c.hd i)=some b
 | .row _ _ _,b=>aU (c.hd i)=some b
 | .map _ _ _,b=>aU (c.hd i)=some b
 | .tre _ _ _ _,b=>c.bl i b
 | .trh _ _ _ _ _ _,b=>c.bl i b
structure jB(M:Nat→Prop)(w0 w:World):Prop where
 os:w.os=w0.os
 tape:w.tape=w0.tape
 output:w.output=w0.output
 size:w0.heap.size≤w.heap.size
 block:∀b,b<w0.heap.size→ ¬M b→w.heap[b]? = w0.heap[b]?
theorem jB.refl(M:Nat→Prop)(w:World):jB M w w:=⟨rfl,rfl,rfl,Nat.le_refl _,fun _ _ _=>rfl⟩
theorem jB.trans{M:Nat→Prop}{a b c:World}(h:jB M a b)(k:jB M b c):jB M a c :=
 ⟨k.os.trans h.os,k.tape.trans h.tape,k.output.trans h.output,Nat.le_trans h.size k.size,fun i hi f=>(k.block i (Nat.lt_of_lt_of_le hi h.size) f).trans (h.block i hi f)⟩
theorem jB.below{w0 w:World}(h:jB (fun _=>False) w0 w):Below w0.heap.size w0 w:=⟨h.os,h.tape,h.output,h.size,fun k g=>h.block k g (fun f=>f)⟩
theorem jB.of_below{M:Nat→Prop}{w0 w:World}(h:Below w0.heap.size w0 w):jB M w0 w:=⟨h.os,h.tape,h.output,h.size,fun k f _=>h.block k f⟩
structure Perm where
 wr:Nat→Prop
 rd:Nat→Prop
 m:Nat
 roots:Nat→Value
structure Good(M:Perm)(w0:World)(c:Ctx)(h:List Obj)(w:World):Prop where
 n:c.n=h.length
 keeps:jB M.wr w0 w
 sfin:∀b,c.S b→b<w.heap.size
 src:∀b,c.S b→b<w0.heap.size→M.rd b∨M.wr b
 objs:∀i o,h[i]? = some o→aII c w i o
 own:∀i o b,h[i]? = some o→fI c i o b→(w0.heap.size≤b∨M.wr b)∧b<w.heap.size∧ ¬c.S b
 sep:∀i j oi oj b,h[i]? = some oi→h[j]? = some oj→fI c i oi b→fI c j oj b→i=j
 root:M.m≤c.n∧ ∀i,i<M.m→c.hd i=M.roots i
theorem aCm{M:Perm}{c c':Ctx}(h:M.m≤c.n∧ ∀i,i<M.m→c.hd i=M.roots i)(f:c.le c'):M.m≤c'.n∧ ∀i,i<M.m→c'.hd i=M.roots i :=
 ⟨Nat.le_trans h.1 f.n,fun i hi=>(f.hd i (Nat.lt_of_lt_of_le hi h.1)).trans (h.2 i hi)⟩
structure eK(c:Ctx)(w:World)(c':Ctx)(w':World):Prop where
 le:c.le c'
 same:aCk c.S w w'
theorem eK.refl(c:Ctx)(w:World):eK c w c w:=⟨.refl _,.refl _ _⟩
theorem eK.trans{c1 z f:Ctx}{g q I:World}(h:eK c1 g z q)(k:eK z q f I):eK c1 g f I :=
 ⟨h.le.trans k.le,h.same.trans (k.same.mono h.le.S)⟩
theorem eK.val{c c':Ctx}{w w':World}(h:eK c w c' w'){v:AV}{x:Value}(f:aY c w v x):aY c' w' v x:=f.keep h.le h.same
def look:List (Nat×AV)→Nat→AV
 | [],_=>.junk
 | (k,v)::r,t=>if k=t then v else look r t
def aKg(c:Ctx)(w:World)(env:List (Nat×AV))(f:Array Value):Prop:=∀t,aY c w (look env t) (f.getD t Go.undef)
theorem aKg.keep{c c':Ctx}{w w':World}(h:eK c w c' w'){env:List (Nat×AV)}{f:Array Value}(g:aKg c w env f):aKg c' w' env f :=
 fun t=>h.val (g t)
theorem aKg.put{c:Ctx}{w:World}{env:List (Nat×AV)}{a:Act}{d:Nat}{v:AV}{x:Value}(f:aKg c w env a.tmps)(hd:d<a.tmps.size)(g:aY c w v x) :
  aKg c w ((d,v)::env) (a.put (some d) x).tmps:=by
 intro t;simp only[look,Act.put];by_cases h:d=t
 ·simp_all
 ·rw[if_neg h];have:=f t;simp_all
def rowOf(h:List Obj)(i:Nat)(t:Ty):Option (List t.den) :=
 match h[i]? with
 | some (.row _ f g)=>if e:f=t then some (e▸g) else none
 | some (.frz f g)=>if e:f=t then some (e▸g) else none
 | some (.tre _ _ f g)=>if e:f=t then some (e▸g) else none
 | _=>none
end Go.Vc
namespace Go.Vc
open Go.RowKit
def lR(k:IntKind):Nat:=2^k.bits
def fits(k:IntKind)(x:Int):Prop:=k.min≤x∧x≤k.max
theorem bCl{k:IntKind}(f:k.signed=false)(n:Int):k.wrap n=n%(lR k:Int):=by
 grind[IntKind.signed,IntKind.wrap,IntKind.bits,lR]
theorem aCn{k:IntKind}(f:k.signed=false)(n:Nat):k.wrap (n:Int)=((n%lR k:Nat):Int):=by
 grind[bCl]
theorem bDE{k:IntKind}(f:k.signed=false):k.max=(lR k:Int)-1:=by
 grind[IntKind.signed,IntKind.max,IntKind.bits,lR]
theorem aFO(k:IntKind):0<lR k:=by grind[lR,Nat.two_pow_pos]
theorem bFZ{k:IntKind}(f:k.signed=false){n:Nat}(h:n<lR k):(n:Int)≤k.max:=by grind[bDE]
theorem aR1{k:IntKind}(f:k.signed=false){n:Nat}(h:(n:Int)≤k.max):n<lR k:=by grind[bDE]
theorem aKG{k:IntKind}(f:k.signed=true){n:Int}(h:fits k n):k.wrap n=n:=by
 obtain⟨q,g⟩:=h;cases k<;>simp[IntKind.signed] at f<;>simp[IntKind.min,IntKind.max,IntKind.signed,IntKind.bits] at q g<;>simp[IntKind.wrap,IntKind.signed,IntKind.bits]<;>split<;>omega
theorem aHS{k:IntKind}(f:k.signed=true)(n:Int):fits k (k.wrap n):=by
 cases k<;>simp[IntKind.signed] at f<;>simp[fits,IntKind.min,IntKind.max,IntKind.wrap,IntKind.signed,IntKind.bits]<;>split<;>omega
section
variable {w:World} {S:Nat→Prop} {c:Ctx}
theorem aMw{k:IntKind}(f:k.signed=false){n:Nat}(h:n<lR k):aY c w (.val (.u k) n) (.int k n) :=
 ⟨⟨rfl,f,bFZ f h⟩,(fun h=>by cases h),(fun _ g=>by simp)⟩
theorem aDs{k:IntKind}(f:k.signed=true){n:Int}(h:fits k n):aY c w (.val (.i k) n) (.int k n) :=
 ⟨⟨rfl,f,h.1,h.2⟩,(fun h=>by cases h),(fun _ g=>by simp)⟩
theorem aFP(b:Bool):aY c w (.val .bool b) (.bool b):=⟨rfl,(fun h=>by cases h),(fun _ f=>by simp)⟩
theorem bJa{s:ByteArray}(h:s.size≤maxLen):aY c w (.val .str (aQ s)) (.string s):=⟨⟨s,rfl,rfl,h⟩,(fun h=>by cases h),(fun _ f=>by simp)⟩
theorem aKH{k:IntKind}{n:Nat}{v:Value}(h:aY c w (.val (.u k) n) v):v= .int k n∧k.signed=false∧n<lR k:=by
 obtain⟨⟨q,g,z⟩,_,f⟩:=h;have f:=f rfl;cases v<;>simp[Value.cells] at q f
 obtain⟨rfl,rfl⟩:=q;exact⟨rfl,g,aR1 g z⟩
theorem aKI{k:IntKind}{n:Int}{v:Value}(h:aY c w (.val (.i k) n) v):v= .int k n∧k.signed=true∧fits k n:=by
 obtain⟨⟨g,z,q⟩,_,f⟩:=h;have f:=f rfl;cases v<;>simp[Value.cells] at g f
 obtain⟨rfl,rfl⟩:=g;exact⟨rfl,z,q⟩
theorem aHT{b:Bool}{v:Value}(h:aY c w (.val .bool b) v):v= .bool b:=by
 obtain⟨g,_,f⟩:=h;have f:=f rfl;simp_all[aM,bB,Value.cells]
theorem aR2{x:List Nat}{v:Value}(h:aY c w (.val .str x) v):∃s,v= .string s∧aQ s=x∧s.size≤maxLen:=by
 obtain⟨⟨s,g,q⟩,_,f⟩:=h;have f:=f rfl;cases v<;>simp[Value.cells] at g f
 simp_all
end
theorem bDF:∃f:IntKind→Nat→Nat→Nat,∀k a b,f k a b=(a+(lR k-b))%lR k:=⟨_,fun _ _ _=>rfl⟩
noncomputable def aKh:IntKind→Nat→Nat→Nat:=Classical.choose bDF
theorem aMa(k:IntKind)(a b:Nat):aKh k a b=(a+(lR k-b))%lR k:=Classical.choose_spec bDF k a b
theorem bDG:∃f:IntKind→Nat→Nat→Nat,∀k a b,f k a b=(a*b)%lR k:=⟨_,fun _ _ _=>rfl⟩
noncomputable def aIJ:IntKind→Nat→Nat→Nat:=Classical.choose bDG
theorem aYo(k:IntKind)(a b:Nat):aIJ k a b=(a*b)%lR k:=Classical.choose_spec bDG k a b
theorem bDH:∃f:IntKind→Nat→Nat,∀k a,f k a=(0+(lR k-a))%lR k:=⟨_,fun _ _=>rfl⟩
noncomputable def aZ9:IntKind→Nat→Nat:=Classical.choose bDH
theorem aYp(k:IntKind)(a:Nat):aZ9 k a=(0+(lR k-a))%lR k:=Classical.choose_spec bDH k a
noncomputable def aYq(f:BinOp)(k:IntKind)(a b:Nat):Prop×AV :=
 match f with
 | .add=>(True,.val (.u k) ((a+b)%lR k))
 | .sub=>(True,.val (.u k) (aKh k a b))
 | .mul=>(True,.val (.u k) (aIJ k a b))
 | .quo=>(b≠0,.val (.u k) (a/b))
 | .rem=>(b≠0,.val (.u k) (a%b))
 | .and=>(True,.val (.u k) (a&&&b))
 | .or=>(True,.val (.u k) (a|||b))
 | .xor=>(True,.val (.u k) (a^^^b))
 | .andNot=>(True,.val (.u k) (a&&&(lR k-1-b)))
 | .eql=>(True,.val .bool (decide (a=b)))
 | .neq=>(True,.val .bool (!decide (a=b)))
 | .lss=>(True,.val .bool (decide (a<b)))
 | .leq=>(True,.val .bool (decide (a≤b)))
 | .gtr=>(True,.val .bool (decide (b<a)))
 | .geq=>(True,.val .bool (decide (b≤a)))
 | _=>(False,.junk)
def bF0(f:BinOp)(k:IntKind)(a b:Int):Prop×AV :=
 match f with
 | .add=>(fits k (a+b),.val (.i k) (a+b))
 | .sub=>(fits k (a-b),.val (.i k) (a-b))
 | .mul=>(fits k (a*b),.val (.i k) (a*b))
 | .quo=>(b≠0∧fits k (a.tdiv b),.val (.i k) (a.tdiv b))
 | .rem=>(b≠0,.val (.i k) (a.tmod b))
 | .and=>(True,.val (.i k) (k.wrap ((BitVec.ofInt k.bits a&&&BitVec.ofInt k.bits b).toNat:Int)))
 | .or=>(True,.val (.i k) (k.wrap ((BitVec.ofInt k.bits a|||BitVec.ofInt k.bits b).toNat:Int)))
 | .xor=>(True,.val (.i k) (k.wrap ((BitVec.ofInt k.bits a^^^BitVec.ofInt k.bits b).toNat:Int)))
 | .eql=>(True,.val .bool (decide (a=b)))
 | .neq=>(True,.val .bool (!decide (a=b)))
 | .lss=>(True,.val .bool (decide (a<b)))
 | .leq=>(True,.val .bool (decide (a≤b)))
 | .gtr=>(True,.val .bool (decide (b<a)))
 | .geq=>(True,.val .bool (decide (b≤a)))
 | _=>(False,.junk)
def aOw:List Nat→List Nat→Bool
 | _,[]=>false
 | [],_::_=>true
 | a::x,b::y=>decide (a<b)||(decide (a=b)&&aOw x y)
def bF1(f:BinOp)(a b:List Nat):Prop×AV :=
 match f with
 | .add=>(a.length+b.length≤maxLen,.val .str (a++b))
 | .eql=>(True,.val .bool (decide (a=b)))
 | .neq=>(True,.val .bool (!decide (a=b)))
 | .lss=>(True,.val .bool (aOw a b))
 | .leq=>(True,.val .bool (aOw a b||decide (a=b)))
 | .gtr=>(True,.val .bool (!(aOw a b||decide (a=b))))
 | .geq=>(True,.val .bool (!aOw a b))
 | _=>(False,.junk)
def bJb(f:BinOp)(a b:Bool):Prop×AV :=
 match f with
 | .eql=>(True,.val .bool (a == b))
 | .neq=>(True,.val .bool (a != b))
 | _=>(False,.junk)
def shU(f:BinOp)(k:IntKind)(a n:Nat):Prop×AV :=
 match f with
 | .shl=>(True,.val (.u k) ((a*2^n)%lR k))
 | .shr=>(True,.val (.u k) (a/2^n))
 | _=>(False,.junk)
def shI(f:BinOp)(k:IntKind)(a:Int)(n:Nat):Prop×AV :=
 match f with
 | .shl=>(fits k (a*2^n),.val (.i k) (a*2^n))
 | .shr=>(True,.val (.i k) (a.fdiv (2^n)))
 | _=>(False,.junk)
section
variable {P:Program} {w:World} {c:Ctx}
theorem aBR{k:IntKind}{a:Nat}(f:a<lR k):(BitVec.ofInt k.bits (a:Int)).toNat=a:=by
 simp only[BitVec.ofInt_natCast,BitVec.toNat_ofNat];exact Nat.mod_eq_of_lt f
theorem aYr(z:BinOp)(t:TypeId){k:IntKind}{a b:Nat}(f:k.signed=false)(g:a<lR k)(hb:b<lR k)(h:(aYq z k a b).1) :
  ∃v,(binOp z t (.int k a) (.int k b)).run P w= .ok v w∧aY c w (aYq z k a b).2 v:=by
 have hp:=aFO k;cases z<;>simp only[aYq] at h ⊢
 case add=>exact⟨.int k (((a+b)%lR k:Nat):Int),by simp only[binOp,Op.intArith,ne_eq,not_true_eq_false,if_false]; rw[← aCn f]; rfl,aMw f (Nat.mod_lt _ hp)⟩
 case sub =>
  rw[aMa];refine⟨_,by simp only[binOp,Op.intArith,ne_eq,not_true_eq_false,if_false]; rfl,?_⟩;rw[bCl f,show ((a:Int)-b)%(lR k:Int)=(((a+(lR k-b))%lR k:Nat):Int) from by
   rw[Int.natCast_emod,Int.natCast_add,Int.ofNat_sub (by omega),show (a:Int)+((lR k:Int)-b)=(a-b)+lR k from by omega,Int.add_emod_right]]
  exact aMw f (Nat.mod_lt _ hp)
 case mul=>rw[aYo]; exact⟨.int k (((a*b)%lR k:Nat):Int),by simp only[binOp,Op.intArith,ne_eq,not_true_eq_false,if_false]; rw[← aCn f,Int.natCast_mul]; rfl,aMw f (Nat.mod_lt _ hp)⟩
 case quo =>
  have q:¬(b:Int)=0:=by omega
  refine⟨.int k ((a/b:Nat):Int),?_,aMw f (Nat.lt_of_le_of_lt (Nat.div_le_self _ _) g)⟩;have e:k.wrap ((a:Int).tdiv b)=((a/b:Nat):Int):=by
   rw[show (a:Int).tdiv b=((a/b:Nat):Int) from by rfl,aCn f,Nat.mod_eq_of_lt (Nat.lt_of_le_of_lt (Nat.div_le_self _ _) g)]
  simp only[binOp,Op.intDiv,q,e,ne_eq,not_true_eq_false,if_false]; rfl
 case rem =>
  have q:¬(b:Int)=0:=by omega
  refine⟨.int k ((a%b:Nat):Int),?_,aMw f (Nat.lt_of_le_of_lt (Nat.mod_le _ _) g)⟩;have e:(a:Int).tmod b=((a%b:Nat):Int):=by rfl
  simp only[binOp,Op.intDiv,q,e,ne_eq,not_true_eq_false,if_false]; rfl
 case and =>
  have e:k.wrap ((BitVec.ofInt k.bits (a:Int)&&&BitVec.ofInt k.bits (b:Int)).toNat:Int)=((a&&&b:Nat):Int):=by
   rw[BitVec.toNat_and,aBR g,aBR hb,aCn f,Nat.mod_eq_of_lt (Nat.lt_of_le_of_lt Nat.and_le_left g)]
  exact⟨_,by simp only[binOp,Op.intBits,ne_eq,not_true_eq_false,if_false,e]; rfl,aMw f (Nat.lt_of_le_of_lt Nat.and_le_left g)⟩
 case or =>
  have I:a|||b<lR k:=Nat.or_lt_two_pow g hb
  have e:k.wrap ((BitVec.ofInt k.bits (a:Int)|||BitVec.ofInt k.bits (b:Int)).toNat:Int)=((a|||b:Nat):Int):=by
   grind[BitVec.toNat_or,aBR,aCn,Nat.mod_eq_of_lt]
  exact⟨_,by simp only[binOp,Op.intBits,ne_eq,not_true_eq_false,if_false,e]; rfl,aMw f I⟩
 case xor =>
  have I:a^^^b<lR k:=Nat.xor_lt_two_pow g hb;have e:k.wrap ((BitVec.ofInt k.bits (a:Int)^^^BitVec.ofInt k.bits (b:Int)).toNat:Int)=((a^^^b:Nat):Int):=by
   grind[BitVec.toNat_xor,aBR,aCn,Nat.mod_eq_of_lt]
  exact⟨_,by simp only[binOp,Op.intBits,ne_eq,not_true_eq_false,if_false,e]; rfl,aMw f I⟩
 case andNot =>
  have e:k.wrap ((BitVec.ofInt k.bits (a:Int)&&& ~~~ BitVec.ofInt k.bits (b:Int)).toNat:Int)=((a&&&(lR k-1-b):Nat):Int):=by
   rw[BitVec.toNat_and,BitVec.toNat_not,aBR g,aBR hb,aCn f];rw[Nat.mod_eq_of_lt (Nat.lt_of_le_of_lt Nat.and_le_left g)];rfl
  exact⟨_,by simp only[binOp,Op.intBits,ne_eq,not_true_eq_false,if_false,e]; rfl,aMw f (Nat.lt_of_le_of_lt Nat.and_le_left g)⟩
 case eql=>exact⟨.bool (decide (a=b)),by simp[binOp,Op.intCmp]; grind,aFP _⟩
 case neq=>exact⟨.bool (!decide (a=b)),by simp[binOp,Op.intCmp]; grind,aFP _⟩
 case lss=>exact⟨.bool (decide (a<b)),by simp[binOp,Op.intCmp],aFP _⟩
 case leq=>exact⟨.bool (decide (a≤b)),by simp[binOp,Op.intCmp],aFP _⟩
 case gtr=>exact⟨.bool (decide (b<a)),by simp[binOp,Op.intCmp],aFP _⟩
 case geq=>exact⟨.bool (decide (b≤a)),by simp[binOp,Op.intCmp],aFP _⟩
theorem bJc(g:BinOp)(t:TypeId){k:IntKind}{a b:Int}(f:k.signed=true)(z:fits k a)(hb:fits k b)(h:(bF0 g k a b).1) :
  ∃v,(binOp g t (.int k a) (.int k b)).run P w= .ok v w∧aY c w (bF0 g k a b).2 v:=by
 cases g<;>simp only[bF0] at h ⊢
 case add=>exact⟨_,by simp only[binOp,Op.intArith,ne_eq,not_true_eq_false,if_false,aKG f h]; rfl,aDs f h⟩
 case sub=>exact⟨_,by simp only[binOp,Op.intArith,ne_eq,not_true_eq_false,if_false,aKG f h]; rfl,aDs f h⟩
 case mul=>exact⟨_,by simp only[binOp,Op.intArith,ne_eq,not_true_eq_false,if_false,aKG f h]; rfl,aDs f h⟩
 case quo=>exact⟨_,by simp only[binOp,Op.intDiv,ne_eq,not_true_eq_false,if_false,h.1,aKG f h.2]; rfl,aDs f h.2⟩
 case rem =>
  refine⟨_,by simp only[binOp,Op.intDiv,ne_eq,not_true_eq_false,if_false,h]; rfl,aDs f ?_⟩;obtain⟨L,J⟩:=z;have I:((a.tmod b).natAbs)≤a.natAbs:=by rw[Int.natAbs_tmod]; exact Nat.mod_le _ _
  have hs:0≤a→0≤a.tmod b:=fun h=>Int.tmod_nonneg _ h;have q:a≤0→a.tmod b≤0:=fun h=>by
   have:=Int.tmod_nonneg b (show 0≤ -a by omega);simp_all
  have hm:k.min≤0∧0≤k.max:=by cases k<;>simp[IntKind.min,IntKind.max,IntKind.signed,IntKind.bits]
  constructor<;>omega
 case and=>exact⟨_,by simp only[binOp,Op.intBits,ne_eq,not_true_eq_false,if_false]; rfl,aDs f (aHS f _)⟩
 case or=>exact⟨_,by simp only[binOp,Op.intBits,ne_eq,not_true_eq_false,if_false]; rfl,aDs f (aHS f _)⟩
 case xor=>exact⟨_,by simp only[binOp,Op.intBits,ne_eq,not_true_eq_false,if_false]; rfl,aDs f (aHS f _)⟩
 case eql=>exact⟨.bool (decide (a=b)),by simp[binOp,Op.intCmp]; rfl,aFP _⟩
 case neq=>exact⟨.bool (!decide (a=b)),by simp[binOp,Op.intCmp]; rfl,aFP _⟩
 case lss=>exact⟨.bool (decide (a<b)),by simp[binOp,Op.intCmp],aFP _⟩
 case leq=>exact⟨.bool (decide (a≤b)),by simp[binOp,Op.intCmp],aFP _⟩
 case gtr=>exact⟨.bool (decide (b<a)),by simp[binOp,Op.intCmp],aFP _⟩
 case geq=>exact⟨.bool (decide (b≤a)),by simp[binOp,Op.intCmp],aFP _⟩
theorem bCm(f:BinOp)(t:TypeId){k k':IntKind}{a n:Nat}(g:k.signed=false)(q:a<lR k)(h:(shU f k a n).1) :
  ∃v,(binOp f t (.int k a) (.int k' n)).run P w= .ok v w∧aY c w (shU f k a n).2 v:=by
 cases f<;>simp only[shU] at h ⊢
 case shl =>
  refine⟨_,by simp only[binOp,Op.shift,show ¬((n:Int)<0) from by omega,if_false]; rfl,?_⟩;have e:k.wrap ((a:Int)*2^min (n:Int).toNat k.bits)=(((a*2^n)%lR k:Nat):Int):=by
   rw[show ((a:Int)*2^min (n:Int).toNat k.bits)=((a*2^min n k.bits:Nat):Int) from by simp,aCn g]
   congr 1
   by_cases z:n≤k.bits
   ·simp_all
   ·rw[Nat.min_eq_right (by omega)];have e1:a*2^n=a*2^(n-k.bits)*lR k:=by
     rw[lR,Nat.mul_assoc,← Nat.pow_add]; grind
    rw[e1,show a*2^k.bits=a*lR k from rfl,Nat.mul_mod_left,Nat.mul_mod_left]
  rw[e];exact aMw g (Nat.mod_lt _ (aFO k))
 case shr =>
  refine⟨_,by simp only[binOp,Op.shift,show ¬((n:Int)<0) from by omega,if_false]; rfl,?_⟩;have e:(a:Int).fdiv (2^min (n:Int).toNat k.bits)=((a/2^n:Nat):Int):=by
   rw[Int.fdiv_eq_ediv_of_nonneg _ (by grind),show ((2:Int)^min (n:Int).toNat k.bits)=((2^min n k.bits:Nat):Int) from by simp,← Int.natCast_ediv]
   congr 1
   by_cases z:n≤k.bits
   ·simp_all
   ·rw[Nat.min_eq_right (by omega),Nat.div_eq_of_lt (show a<2^k.bits from q),Nat.div_eq_of_lt (Nat.lt_of_lt_of_le q (Nat.pow_le_pow_right (by omega) (by omega)))]
  rw[e];exact aMw g (Nat.lt_of_le_of_lt (Nat.div_le_self _ _) q)
theorem bCn(g:BinOp)(t:TypeId){k k':IntKind}{a:Int}{n:Nat}(q:k.signed=true)(L:fits k a)(O:g= .shl→n≤k.bits)(h:(shI g k a n).1) :
  ∃v,(binOp g t (.int k a) (.int k' n)).run P w= .ok v w∧aY c w (shI g k a n).2 v:=by
 cases g<;>simp only[shI] at h ⊢
 case shl =>
  refine⟨_,by simp only[binOp,Op.shift,show ¬((n:Int)<0) from by omega,if_false]; rfl,?_⟩;rw[show min (n:Int).toNat k.bits=n from by simp_all,aKG q h];exact aDs q h
 case shr =>
  refine⟨_,by simp only[binOp,Op.shift,show ¬((n:Int)<0) from by omega,if_false]; rfl,?_⟩;have hb: -(2^k.bits:Int)≤a∧a<2^k.bits:=by
   obtain⟨J,I⟩:=L;cases k<;>simp[IntKind.signed] at q<;>simp[IntKind.min,IntKind.max,IntKind.signed,IntKind.bits] at J I ⊢ <;> omega
  have f:∀m:Nat,(0:Int)<2^m:=fun m=>Int.pow_pos (by omega);have e:a.fdiv (2^min (n:Int).toNat k.bits)=a.fdiv (2^n):=by
   by_cases O:n≤k.bits
   ·simp_all
   ·rw[show min (n:Int).toNat k.bits=k.bits from by omega];have N:(2:Int)^k.bits≤2^n:=by
     have:=Nat.pow_le_pow_right (n:=2) (by omega) (show k.bits≤n by omega);grind
    rw[Int.fdiv_eq_ediv_of_nonneg _ (Int.le_of_lt (f _)),Int.fdiv_eq_ediv_of_nonneg _ (Int.le_of_lt (f _))];by_cases h0:0≤a
    ·rw[Int.ediv_eq_zero_of_lt h0 hb.2,Int.ediv_eq_zero_of_lt h0 (by omega)]
    ·have Y:a/(2^k.bits:Int)= -1:=by
      grind[Int.ediv_eq_neg_one_of_neg_of_le]
     have U:a/(2^n:Int)= -1:=Int.ediv_eq_neg_one_of_neg_of_le (by omega) (by omega);omega
  rw[e];refine aDs q ?_;obtain⟨J,I⟩:=L;rw[Int.fdiv_eq_ediv_of_nonneg _ (Int.le_of_lt (f _))];have hm:k.min≤0∧0≤k.max:=by cases k<;>simp[IntKind.min,IntKind.max,IntKind.signed,IntKind.bits]
  have z:(1:Int)≤2^n:=by grind
  constructor
  ·by_cases h0:0≤a
   ·have:=Int.ediv_nonneg h0 (Int.le_of_lt (f n)); omega
   ·have:a≤a/2^n:=by
     rw[Int.le_ediv_iff_mul_le (f n)];have:=Int.mul_le_mul_of_nonpos_left (a:=a) (b:=2^n) (c:=1) (by omega) z;omega
    omega
  ·by_cases h0:0≤a
   ·have:=Int.ediv_le_self (2^n) h0; omega
   ·have:=Int.ediv_neg_of_neg_of_pos (show a<0 by omega) (f n); omega
end
end Go.Vc
namespace Go.Vc
open Go.RowKit
def Tab:=TypeId→Option Ty
def eQ(T:Tab):List Field→Nat→Ty→Bool
 | [],_,.unit=>true
 | f::fs,off,.pair a r=>decide (T f.type=some a)&&decide (f.offset=off)&&decide (f.name ≠ "_")&&decide (0<a.cells)&&eQ T fs (off+a.cells) r
 | _,_,_=>false
def bDI(T:Tab):List Field→Bool
 | [g,f,q]=>decide (T g.type=some (.i .i64))&&decide (g.offset=0)&&decide (T f.type=some .str)&&decide (f.offset=1)&&decide (T q.type=some (.sl .expr))&&decide (q.offset=2)
 | _=>false
def jX(T:Tab)(d:TypeDesc)(c:Ty):Bool :=
 match c,d with
 | .bool,.bool=>true
 | .u k,.int g=>decide (k=g)&& !k.signed
 | .i k,.int g=>decide (k=g)&&k.signed
 | .str,.string=>true
 | .sl c,.slice e=>decide (T e=some c)&&decide (0<c.cells)
 | .unit,.struct f=>eQ T f.toList 0 .unit
 | .pair a b,.struct f=>eQ T f.toList 0 (.pair a b)
 | .arr n c,.array q e=>decide (n=q)&&decide (T e=some c)&&decide (0<c.cells)&&decide (1<n∧n≤1048576)
 | .expr,.struct f=>bDI T f.toList
 | .rp c,.pointer e=>decide (T e=some c)
 | .clo _ _,.func _ _ _=>true
 | .nili,.interface _=>true
 | .nilp,.pointer _=>true
 | .nilf,.func _ _ _=>true
 | _,_=>false
def dI:Ty→List Value
 | .bool=>[.bool false]
 | .u k=>[.int k 0]
 | .i k=>[.int k 0]
 | .str=>[.string ⟨#[]⟩]
 | .sl _=>[.slice none 0 0]
 | .unit=>[]
 | .pair a b=>dI a++dI b
 | .arr n t=>(List.replicate n (dI t)).flatten
 | .expr=>[.int .i64 0,.string ⟨#[]⟩,.slice none 0 0]
 | .rp _=>[.pointer none]
 | .clo _ _=>[.nilFunc]
 | .ifc _ _=>[.nilIface]
 | .nili=>[.nilIface]
 | .nilp=>[.pointer none]
 | .nilf=>[.nilFunc]
def Ty.okB:Ty→Bool
 | .u k=> !k.signed
 | .i k=>k.signed
 | .sl t=>t.okB
 | .pair a b=>a.okB&&b.okB
 | .arr _ t=>t.okB
 | .rp _=>false
 | .clo _ _=>false
 | .ifc _ _=>false
 | .nili=>false
 | _=>true
def oS(c:Ty):Value:=if c.isAgg then .agg (dI c).toArray else (dI c).headD Go.undef
def bJd:Value→Value→Bool
 | .bool a,.bool b=>a == b
 | .int k a,.int f b=>decide (k=f)&&decide (a=b)
 | .string a,.string b=>decide (a.data.toList=b.data.toList)
 | .slice none 0 0,.slice none 0 0=>true
 | .pointer none,.pointer none=>true
 | .nilFunc,.nilFunc=>true
 | _,_=>false
def bE0:List Value→List Value→Bool
 | [],[]=>true
 | a::r,b::s=>bJd a b&&bE0 r s
 | _,_=>false
def veq:Value→Value→Bool
 | .agg g,.agg f=>bE0 g.toList f.toList
 | a,b=>bJd a b
theorem bDJ{a b:Value}(h:bJd a b=true):a=b:=by
 unfold bJd at h;split at h<;>simp at h
 ·rw[h]
 ·simp_all
 ·rename_i x y; obtain⟨⟨x⟩⟩:=x; simp_all
 all_goals rfl
theorem bDK:∀ {a b:List Value},bE0 a b=true→a=b
 | [],[],_=>rfl
 | [],_::_,h=>by simp[bE0] at h
 | _::_,[],h=>by simp[bE0] at h
 | a::r,b::s,h=>by simp only[bE0,Bool.and_eq_true] at h; rw[bDJ h.1,bDK h.2]
theorem bLz{a b:Value}(h:veq a b=true):a=b:=by
 unfold veq at h;split at h
 ·rename_i x y; have:=bDK h; simp_all
 ·exact bDJ h
def Ty.byt:Ty→Nat
 | .bool=>1
 | .u k=>k.bits/8
 | .i k=>k.bits/8
 | .str=>16
 | .sl _=>24
 | c=>24*c.cells+1
def tyB(P:Program)(T:Tab)(t:TypeId)(c:Ty):Bool :=
 match P.info? t,P.underlying t with
 | some i,some d=>decide (i.size=c.cells)&&(!c.okB||(match i.zero with|some z=>veq z (oS c)|none=>false))&&decide (i.bytes≤c.byt∧(c= .u .u8→i.bytes=1))&&jX T d c&& !P.stoodInHeld t&&(!c.isAgg|| !P.eqGuardType P.depth t)
 | _,_=>false
def aMO:List (TypeId×Ty)→Tab
 | [],_=>none
 | (k,v)::r,t=>if k=t then some v else aMO r t
def bNi(P:Program)(l:List (TypeId×Ty)):Bool:=l.all fun p=>tyB P (aMO l) p.1 p.2
structure aFe(P:Program)(T:Tab)(t:TypeId)(c:Ty):Prop where
 info:∃i,P.info? t=some i∧i.size=c.cells∧(c.okB=true→i.zero=some (oS c))∧i.bytes≤c.byt
 desc:∃d,P.underlying t=some d∧jX T d c=true
 held:P.stoodInHeld t=false
 guard:c.isAgg=true→P.eqGuardType P.depth t=false
 byte:c= .u .u8→ ∀i,P.info? t=some i→i.bytes=1
def mJ(P:Program)(T:Tab):Prop:=∀t c,T t=some c→aFe P T t c
theorem bJe{P:Program}{T:Tab}{t:TypeId}{c:Ty}(h:tyB P T t c=true):aFe P T t c:=by
 unfold tyB at h;split at h
 ·rename_i i d hi hd;simp only[Bool.and_eq_true,decide_eq_true_eq,Bool.not_eq_true'] at h;obtain⟨⟨⟨⟨⟨J,g⟩,q⟩,I⟩,z⟩,N⟩:=h;refine⟨⟨i,hi,J,fun f=>?_,q.1⟩,⟨d,hd,I⟩,z,fun O=>by simp_all,fun e U L=>by simp_all⟩;rw[f] at g;simp only[Bool.not_true,Bool.false_or] at g;grind[bLz]
 grind
theorem aXx{l:List (TypeId×Ty)}{t:TypeId}{c:Ty}(h:aMO l t=some c):(t,c)∈l:=by
 induction l with
 | nil=>cases h
 | cons p r f =>
  grind[aMO]
theorem bF2{P:Program}{l:List (TypeId×Ty)}(h:bNi P l=true):mJ P (aMO l):=fun t c hc=>by
 have:=List.all_eq_true.1 h _ (aXx hc);exact bJe this
section
variable {P:Program} {T:Tab}
theorem aFe.agg{t:TypeId}{c:Ty}(h:aFe P T t c):(match P.underlying t with|some (.struct _)|some (.array _ _)=>true|_=>false)=c.isAgg:=by
 obtain⟨d,hd,hb⟩:=h.desc;rw[hd];cases c<;>cases d<;>simp_all[jX,Ty.isAgg]
theorem aHU{t:TypeId}{c:Ty}(h:aFe P T t c)(w:World):(isAgg t).run P w= .ok c.isAgg w:=by
 have f:=h.agg;obtain⟨d,hd,hb⟩:=h.desc;rw[hd] at f;rw[← f];simp[isAgg,underlying,hd];split<;>simp_all
theorem gI{t:TypeId}{c:Ty}(h:aFe P T t c)(w:World):(sizeOf t).run P w= .ok c.cells w:=by
 obtain⟨i,hi,hs,_,_⟩:=h.info;simp[sizeOf,typeInfo,hi,hs]
theorem bE{t:TypeId}{d:TypeDesc}(h:P.underlying t=some d)(w:World):(underlying t).run P w= .ok d w:=by
 simp[underlying,h]
theorem vV{t:TypeId}{c:Ty}(h:aFe P T t c)(f:c.okB=true)(w:World):(zeroValue t).run P w= .ok (oS c) w:=by
 obtain⟨i,hi,_,g,_⟩:=h.info;simp[zeroValue,typeInfo,hi,g f]
end
theorem iA(w:World)(S:Nat→Prop):∀c:Ty,c.okB=true→bB w S c c.zero (dI c)
 | .bool,_=>rfl
 | .nilp,_=>rfl
 | .nilf,_=>rfl
 | .u k,h=>⟨rfl,by grind[Ty.okB],by rw[bDE (by grind[Ty.okB])]; have:=aFO k; show ((0:Nat):Int)≤_; omega⟩
 | .i k,h=>⟨rfl,by grind[Ty.okB],by cases k<;>simp[IntKind.min,IntKind.max,IntKind.signed,IntKind.bits,Ty.zero]⟩
 | .str,_=>⟨⟨#[]⟩,rfl,rfl,Nat.zero_le _⟩
 | .sl t,_=>⟨none,0,0,rfl,rfl,Nat.le_refl _,by omega,.inl rfl⟩
 | .unit,_=>rfl
 | .pair a b,h=>by
  simp only[Ty.okB,Bool.and_eq_true] at h;exact⟨dI a,dI b,rfl,iA w S a h.1,iA w S b h.2⟩
 | .arr n t,h=>by
  refine⟨by simp[Ty.zero],List.replicate n (dI t),rfl,by simp[Ty.zero],fun i g f=>?_⟩;simp only[Ty.zero,List.getElem_replicate];exact iA w S t (by grind[Ty.okB])
 | .expr,_=>RepEx.mk 0 ⟨#[]⟩ [] none 0 0 (fun _=>[]) (by simp[IntKind.min,IntKind.max,IntKind.signed,IntKind.bits]) (Nat.zero_le _) rfl (Nat.le_refl _) (Nat.zero_le _) (fun i h=>by cases h) (.inl rfl)
theorem aKJ(w:World)(S:Nat→Prop)(c:Ty)(h:c.okB=true):dV w S c c.zero (oS c):=by
 have f:=iA w S c h;unfold dV oS;split
 ·simp_all
 ·have g:=bB.length _ _ _ f;cases c<;>simp_all[Ty.isAgg,dI]
theorem aY.toV{c:Ctx}{w:World}{t:Ty}{x:t.den}{v:Value}(h:aY c w (.val t x) v):dV w c.S t x v:=by
 obtain⟨q,g,f⟩:=h;exact dV.of_cells g f q
theorem aY.ofV{c:Ctx}{w:World}{t:Ty}{x:t.den}{v:Value}(h:dV w c.S t x v):aY c w (.val t x) v:=by
 refine⟨h.cells,?_,?_⟩
 ·intro f; unfold dV at h; rw[if_pos (show t.isAgg=true from f)] at h; grind
 ·intro f g hv;unfold dV at h;rw[if_neg (by simpa using (show t.isAgg=false from f))] at h;have:=bB.one t x _ h v (by simp);subst hv; exact this
theorem bCo{cs:Array Value}{pre ds post:List Value}(h:cs.toList=pre++ds++post):(cs.extract pre.length (pre.length+ds.length)).toList=ds:=by
 simp_all
theorem aKK{cs:Array Value}{pre ds post:List Value}(h:cs.toList=pre++ds++post)(j:Nat){v:Value}(f:ds[j]? = some v):cs[pre.length+j]? = some v:=by
 rw[← Array.getElem?_toList,h,List.append_assoc,List.getElem?_append_right (by omega)];grind
section
variable {P:Program} {T:Tab}
theorem aFQ{t:TypeId}{c:Ty}(g:aFe P T t c){cs:Array Value}{pre ds post:List Value}(f:cs.toList=pre++ds++post){w:World}{S:Nat→Prop}{x:c.den}(hd:bB w S c x ds)(w':World) :
  ∃v,(part t cs pre.length).run P w'= .ok v w'∧dV w S c x v:=by
 have z:=bB.length _ _ _ hd;by_cases q:c.isAgg=true
 ·refine⟨.agg (cs.extract pre.length (pre.length+c.cells)),?_,?_⟩
  ·simp[part,aHU g,q,gI g,Result.andThen]
  ·unfold dV;simp_all
 ·have I:c.cells=1:=by cases c<;>simp_all[Ty.isAgg,Ty.cells]
  obtain⟨v,rfl⟩:∃v,ds= [v]:=by
   match ds,z.trans I with
   | [v],_=>simp_all
  refine⟨v,?_,?_⟩
  ·have:=aKK f 0 (v:=v) rfl;simp only[Nat.add_zero] at this;simp[part,aHU g,q,this,Result.andThen]
  simp_all[dV,if_neg]
def Ty.cmpB:Ty→Bool
 | .bool=>true
 | .u _=>true
 | .i _=>true
 | .str=>true
 | .unit=>true
 | .pair a b=>a.cmpB&&b.cmpB
 | .arr _ t=>t.cmpB
 | _=>false
def Ty.eqb:(t:Ty)→t.den→t.den→Bool
 | .bool,x,y=>x == y
 | .u _,x,y=>decide (x=y)
 | .i _,x,y=>decide (x=y)
 | .str,x,y=>decide (x=y)
 | .unit,_,_=>true
 | .pair a b,x,y=>a.eqb x.1 y.1&&b.eqb x.2 y.2
 | .arr _ t,x,y=>(List.zipWith t.eqb x y).all id
 | _,_,_=>false
def Ty.deep:Ty→Nat
 | .pair a b=>max (a.deep+1) b.deep
 | .arr _ t=>t.deep+1
 | _=>0
theorem aUj{a b:ByteArray}(h:aQ a=aQ b):a=b:=by
 obtain⟨⟨a⟩⟩:=a;simp_all[aQ,Function.Injective,UInt8.toNat_inj,List.map_inj_right]
theorem bLA(a b:ByteArray):(a.toList == b.toList)=decide (aQ a=aQ b):=by
 rw[Bool.eq_iff_iff,ByteArray.toList_eq,ByteArray.toList_eq];simp only[beq_iff_eq,decide_eq_true_eq];grind[aQ,aUj]
theorem aOx(hT:mJ P T)(d:Nat){w:World}{S:Nat→Prop}(ih:∀(t:TypeId) (c:Ty) (x y:c.den) (v u:Value) (w':World),T t=some c→c.cmpB=true→c.deep≤d→dV w S c x v→dV w S c y u→(Op.equalIn (d+1) t v u).run P w'= .ok (c.eqb x y) w')
  {xs ys:Array Value}:∀(fs:List Field) (off:Nat) (c:Ty) (x y:c.den) (pre ds q z post g:List Value) (w':World),eQ T fs off c=true→c.cmpB=true→c.deep≤d+1 →
   xs.toList=pre++ds++post→pre.length=off→bB w S c x ds→ys.toList=q++z++g→q.length=off→bB w S c y z →
   (Op.eqFields (d+1) xs ys fs).run P w'= .ok (c.eqb x y) w'
 | [],off,c,x,y,pre,ds,q,z,post,g,w',O,hc,J,hx,hp,N,hy,Y,L=>by
  cases c<;>simp[eQ] at O
  rfl
 | f::fs,off,c,x,y,pre,ds,q,z,post,g,w',O,hc,J,hx,hp,N,hy,Y,L=>by
  cases c<;>simp only[eQ,Bool.false_eq_true] at O
  case pair a b =>
   simp only[Bool.and_eq_true,decide_eq_true_eq] at O;obtain⟨⟨⟨⟨h1,h2⟩,h3⟩,h4⟩,h5⟩:=O;simp only[Ty.cmpB,Bool.and_eq_true] at hc;simp only[Ty.deep] at J;obtain⟨c1,c2,rfl,r1,r2⟩:=N;obtain⟨U,I,rfl,Z,r2'⟩:=L;subst h2;have hl:=bB.length _ _ _ r1;have hl':=bB.length _ _ _ Z;obtain⟨va,e1,q1⟩:=aFQ (hT _ _ h1) (cs:=xs) (pre:=pre) (ds:=c1) (post:=c2++post) (by simp_all) r1 w';obtain⟨vb,e2,q2⟩:=aFQ (hT _ _ h1) (cs:=ys) (pre:=q) (ds:=U) (post:=I++g) (by simp_all) Z w';have e3:=ih f.type a x.1 y.1 va vb w' h1 hc.1 (by omega) q1 q2;rw[hp] at e1;rw[Y] at e2;have rec_:=aOx hT d ih (xs:=xs) (ys:=ys) fs (f.offset+a.cells) b x.2 y.2 (pre++c1) c2 (q++U) I post g w' h5 hc.2 (by omega) (by simp_all) (by simp_all) r2 (by simp_all) (by simp_all) r2';simp only[Op.eqFields,Sem.run_ite,Sem.run_bind,h3,ne_eq,not_false_eq_true,if_true,e1,e2,e3,Result.andThen_ok];cases hq:a.eqb x.1 y.1
   all_goals simp_all[Ty.eqb]
def aOy(d:Nat)(e:TypeId)(n:Nat)(xs ys:Array Value):List Nat→Sem Bool
 | []=>pure true
 | i::r=>do
  let a ← part e xs (i*n)
  let b ← part e ys (i*n)
  let q ← Op.equalIn d e a b
  if (!q)=true then pure false else aOy d e n xs ys r
theorem run_equalIn_array(d:Nat)(t e:TypeId)(len n:Nat)(xs ys:Array Value)(w:World)(ht:P.underlying t=some (.array len e))(z:(sizeOf e).run P w= .ok n w) :
  (Op.equalIn (d+1) t (.agg xs) (.agg ys)).run P w=(aOy d e n xs ys (List.range' 0 len)).run P w:=by
 simp only[Op.equalIn,Sem.run_bind,bE ht,Result.andThen_ok,z];simp only[Std.Legacy.Range.forIn_eq_forIn_range',Std.Legacy.Range.size];simp only[Nat.sub_zero,Nat.add_sub_cancel,Nat.div_one];generalize List.range' 0 len=I;clear ht z
 induction I generalizing w with
 | nil=>rfl
 | cons i r O =>
  simp only[List.forIn_cons,aOy,Sem.run_bind];generalize (part e xs (i*n)).run P w=r1;cases r1 with
  | ok a f =>
   simp only[Result.andThen_ok];generalize (part e ys (i*n)).run P f=L;cases L with
   | ok b g =>
    simp only[Result.andThen_ok];generalize (Op.equalIn d e a b).run P g=J;cases J with
    | ok q N =>
     simp_all
    | halt x N=>rfl
   | halt x g=>rfl
  | halt x f=>rfl
theorem oT{t:Ty}{css:List (List Value)}(f:∀i (h:i<css.length),(css[i]).length=t.cells):∀(i:Nat) (h:i<css.length),∃pre post,css.flatten=pre++css[i]++post∧pre.length=i*t.cells
 | 0,h=>by
  cases css with
  | nil=>simp at h
  | cons c r=>simp_all
 | i+1,h=>by
  cases css with
  | nil=>simp at h
  | cons c r =>
   obtain⟨pre,post,g,z⟩:=oT (t:=t) (css:=r) (fun j q=>by have:=f (j+1) (by simp_all); simp_all) i (by simp_all);refine⟨c++pre,post,by simp[g],?_⟩;have h0:=f 0 (by simp);grind
theorem aR3(U:mJ P T)(d:Nat){w:World}{S:Nat→Prop}{e:TypeId}{t:Ty}(J:T e=some t)
  (Z:∀(x y:t.den) (v u:Value) (w':World),dV w S t x v→dV w S t y u→(Op.equalIn d e v u).run P w'= .ok (t.eqb x y) w')
  {xs ys:Array Value}:∀(k i:Nat) (X Y:List t.den) (pre g:List Value) (css f:List (List Value)) (w':World),
   X.length=k→Y.length=k→css.length=k→f.length=k→(∀j (h:j<X.length) (h':j<css.length),bB w S t X[j] css[j])→(∀j (h:j<Y.length) (h':j<f.length),bB w S t Y[j] f[j]) →
   xs.toList=pre++css.flatten→ys.toList=g++f.flatten→pre.length=i*t.cells→g.length=i*t.cells →
   (aOy d e t.cells xs ys (List.range' i k)).run P w'= .ok ((List.zipWith t.eqb X Y).all id) w'
 | 0,i,X,Y,_,_,_,_,w',hX,N,_,_,_,_,_,_,_,_=>by
  obtain rfl:=List.eq_nil_of_length_eq_zero hX;rfl
 | k+1,i,X,Y,pre,g,css,f,w',hX,N,hc,I,hr,z,hx,hy,hp,L=>by
  match X,Y,css,f,hX,N,hc,I with
  | x::X,y::Y,c::cs,c'::cs',hX,N,hc,I =>
   have O:=hr 0 (by simp) (by simp);have q:=z 0 (by simp) (by simp);simp only[List.getElem_cons_zero] at O q;obtain⟨va,e1,q1⟩:=aFQ (U _ _ J) (cs:=xs) (pre:=pre) (ds:=c) (post:=cs.flatten) (by simp_all) O w';obtain⟨vb,e2,q2⟩:=aFQ (U _ _ J) (cs:=ys) (pre:=g) (ds:=c') (post:=cs'.flatten) (by simp_all) q w';rw[hp] at e1;rw[L] at e2;have l1:=bB.length _ _ _ O;have l2:=bB.length _ _ _ q;have e3:=Z x y va vb w' q1 q2;have rec_:=aR3 U d J Z (xs:=xs) (ys:=ys) k (i+1) X Y (pre++c) (g++c') cs cs' w' (by simp_all) (by simp_all) (by simp_all) (by simp_all)
    (fun j h h'=>by have:=hr (j+1) (by simp_all) (by simp_all); simp_all) (fun j h h'=>by have:=z (j+1) (by simp_all) (by simp_all); simp_all)
    (by simp_all) (by simp_all) (by grind) (by grind)
   simp only[List.range'_succ,aOy,Sem.run_bind,e1,e2,e3,Result.andThen_ok,Sem.run_ite];cases hq:t.eqb x y
   all_goals simp_all
theorem aUk(J:mJ P T){w:World}{S:Nat→Prop}:∀(d:Nat) (t:TypeId) (c:Ty) (x y:c.den) (v u:Value) (w':World),T t=some c→c.cmpB=true→c.deep≤d →
  dV w S c x v→dV w S c y u→(Op.equalIn (d+1) t v u).run P w'= .ok (c.eqb x y) w':=by
 intro d
 induction d with
 | zero =>
  intro t c x y v u w' ht hc hd g hy;obtain⟨ds,q,hb⟩:=(J t c ht).desc;cases c<;>simp only[Ty.cmpB,Bool.false_eq_true] at hc<;>(try (simp only[Ty.deep] at hd; omega))
  case bool=>simp only[dV,Ty.isAgg,bB,Bool.false_eq_true,if_false] at g hy; cases ds<;>simp[jX] at hb; simp at g hy; subst g; subst hy; simp[Op.equalIn,bE q,Ty.eqb]
  case u k=>simp only[dV,Ty.isAgg,bB,Bool.false_eq_true,if_false] at g hy; cases ds<;>simp[jX] at hb; obtain⟨g,_⟩:=g; obtain⟨hy,_⟩:=hy; simp at g hy; subst g; subst hy; simp[Op.equalIn,bE q,Ty.eqb]; grind
  case i k=>simp only[dV,Ty.isAgg,bB,Bool.false_eq_true,if_false] at g hy; cases ds<;>simp[jX] at hb; obtain⟨g,_⟩:=g; obtain⟨hy,_⟩:=hy; simp at g hy; subst g; subst hy; simp[Op.equalIn,bE q,Ty.eqb]; rfl
  case str =>
   simp only[dV,Ty.isAgg,bB,Bool.false_eq_true,if_false] at g hy; grind[jX,run_equalIn_string,Ty.eqb,bLA]
  case unit =>
   simp only[dV,Ty.isAgg,if_true] at g hy;obtain⟨a,rfl,_⟩:=g; obtain⟨b,rfl,_⟩:=hy;cases ds<;>simp[jX] at hb
   rename_i I;have z:P.fieldsOf t=I:=(by simp[Program.fieldsOf,q]);rw[run_equalIn_struct w' 0 t a b (by simp_all) (J t _ ht).held,z];cases hfl:I.toList with
   | nil=>rfl
   | cons f r=>grind[eQ]
 | succ d ih =>
  intro t c x y v u w' ht hc hd g hy;obtain⟨ds,q,hb⟩:=(J t c ht).desc;cases c<;>simp only[Ty.cmpB,Bool.false_eq_true] at hc
  case bool=>simp only[dV,Ty.isAgg,bB,Bool.false_eq_true,if_false] at g hy; cases ds<;>simp[jX] at hb; simp at g hy; subst g; subst hy; simp[Op.equalIn,bE q,Ty.eqb]
  case u k=>simp only[dV,Ty.isAgg,bB,Bool.false_eq_true,if_false] at g hy; cases ds<;>simp[jX] at hb; obtain⟨g,_⟩:=g; obtain⟨hy,_⟩:=hy; simp at g hy; subst g; subst hy; simp[Op.equalIn,bE q,Ty.eqb]; grind
  case i k=>simp only[dV,Ty.isAgg,bB,Bool.false_eq_true,if_false] at g hy; cases ds<;>simp[jX] at hb; obtain⟨g,_⟩:=g; obtain⟨hy,_⟩:=hy; simp at g hy; subst g; subst hy; simp[Op.equalIn,bE q,Ty.eqb]; rfl
  case str =>
   simp only[dV,Ty.isAgg,bB,Bool.false_eq_true,if_false] at g hy; grind[jX,run_equalIn_string,Ty.eqb,bLA]
  case unit =>
   simp only[dV,Ty.isAgg,if_true] at g hy;obtain⟨a,rfl,_⟩:=g; obtain⟨b,rfl,_⟩:=hy;cases ds<;>simp[jX] at hb
   rename_i I;have z:P.fieldsOf t=I:=(by simp[Program.fieldsOf,q]);rw[run_equalIn_struct w' _ t a b (by simp_all) (J t _ ht).held,z];cases hfl:I.toList with
   | nil=>rfl
   | cons f r=>grind[eQ]
  case pair a b =>
   simp only[dV,Ty.isAgg,if_true] at g hy;obtain⟨O,rfl,g⟩:=g; obtain⟨N,rfl,hy⟩:=hy;cases ds<;>simp[jX] at hb
   rename_i I;have z:P.fieldsOf t=I:=(by simp[Program.fieldsOf,q]);rw[run_equalIn_struct w' _ t O N (by simp_all) (J t _ ht).held,z];exact aOx J d ih I.toList 0 (.pair a b) x y [] O.toList [] N.toList [] [] w' hb (by grind[Ty.cmpB]) hd (by simp) rfl g (by simp) rfl hy
  case arr n c =>
   simp only[dV,Ty.isAgg,if_true] at g hy;obtain⟨O,rfl,g⟩:=g; obtain⟨N,rfl,hy⟩:=hy;cases ds<;>simp[jX] at hb
   rename_i n' e;obtain⟨⟨⟨rfl,Y⟩,_⟩,_⟩:=hb;obtain⟨lx,U,hcx,hlx,hrx⟩:=g;obtain⟨ly,L,hcy,hly,Z⟩:=hy;rw[run_equalIn_array _ t e n c.cells O N w' q (gI (J _ _ Y) w')];simp only[Ty.deep] at hd;exact aR3 J (d+1) Y (fun x y v u w' h1 h2=>ih e c x y v u w' Y hc (by omega) h1 h2) n 0 x y [] [] U L w' lx ly (hlx.trans lx) (hly.trans ly) hrx Z (by simp_all) (by simp_all) (by simp) (by simp)
theorem aIK(g:mJ P T){w:World}{S:Nat→Prop}{t:TypeId}{c:Ty}{x y:c.den}{v u:Value}(w':World)(ht:T t=some c)(hc:c.cmpB=true)(hd:c.deep≤100)(f:dV w S c x v)(hy:dV w S c y u) :
  (Op.equal t v u).run P w'= .ok (c.eqb x y) w':=aUk g 9999 t c x y v u w' ht hc (by omega) f hy
end
end Go.Vc
namespace Go.Vc
open Go.RowKit
def vW:Value→AV
 | .bool b=>.val .bool b
 | .int k n=>if k.signed then .val (.i k) n else .val (.u k) n.toNat
 | .string s=>.val .str (aQ s)
 | .slice none 0 0=>.nilS
 | .pointer none=>.nilP
 | .nilIface=>.val .nili ()
 | _=>.junk
def aOz:Value→AV
 | .agg f=>.flat (f.toList.map vW)
 | v=>vW v
def aGP:Value→Bool
 | .int k n=>decide (k.min≤n)&&decide (n≤k.max)
 | .string s=>decide (s.size≤maxLen)
 | .slice none 0 0=>true
 | .pointer none=>true
 | .nilIface=>true
 | .bool _=>true
 | _=>false
def bCp:Value→Bool
 | .agg f=>f.toList.all aGP
 | .func _ _ _=>true
 | .map none=>true
 | v=>aGP v
theorem aXy{c:Ctx}{w:World}{v:Value}(h:aGP v=true):zK c w (vW v) v:=by
 unfold aGP at h;split at h
 ·simp only[Bool.and_eq_true,decide_eq_true_eq] at h;simp only[vW];split
  ·rename_i hs; exact aDs hs h
  ·rename_i k n hs;have hs:k.signed=false:=(by simp_all);have g:0≤n:=(by grind[IntKind.signed,IntKind.min]);have hv:=aMw (c:=c) (w:=w) (n:=n.toNat) hs (aR1 hs (by omega));rw[show ((n.toNat:Nat):Int)=n from by omega] at hv;exact hv
 ·exact bJa (by simp_all)
 ·exact⟨rfl,(fun h=>by cases h),(fun _ f=>by simp)⟩
 ·exact⟨rfl,(fun h=>by cases h),(fun _ f=>by simp)⟩
 ·exact⟨rfl,(fun h=>by cases h),(fun _ f=>by simp)⟩
 ·exact aFP _
 grind
theorem aXz{c:Ctx}{w:World}:∀ {l:List Value},l.all aGP=true→nF c w (l.map vW) l
 | [],_=>rfl
 | v::r,h=>by
  simp only[List.all_cons,Bool.and_eq_true] at h;have hv:=aXy (c:=c) (w:=w) h.1;refine⟨[v],r,rfl,?_,aXz h.2⟩;have f:=hv.1;have:v.cells.toList= [v]:=by
   have hb:=h.1;cases v<;>first|rfl|grind[aGP]
  simp_all
theorem bF3{c:Ctx}{w:World}{v:Value}(h:bCp v=true)(O:∀f a b,v≠ .func f a b):aY c w (aOz v) v:=by
 unfold bCp at h;split at h
 ·rename_i U;exact⟨by simpa [aOz,aM,Value.cells] using aXz h,fun _=>⟨_,rfl⟩,fun h=>by cases h⟩
 ·simp_all
 ·trivial
 ·rename_i L N J;have hv:=aXy (c:=c) (w:=w) h;have e:aOz v=vW v:=by cases v<;>first|rfl|simp_all
  rw[e];have I:vW v≠ .junk∧vW v≠ .undef∧ ∀vs,vW v≠ .tup vs:=by
   cases v<;>first|grind[vW]|(simp[aGP] at h; done)|skip
   all_goals grind[vW,aGP]
  obtain⟨z,q,g⟩:=I;generalize vW v=u at hv z q g;cases u<;>first|exact absurd rfl z|exact absurd rfl q|exact absurd rfl (g _)|exact hv
def parse:(t:Ty)→List AV→Option (t.den×List AV)
 | .bool,.val .bool b::r=>some (b,r)
 | .u k,.val (.u f) n::r=>if f=k then some (n,r) else none
 | .i k,.val (.i f) n::r=>if f=k then some (n,r) else none
 | .str,.val .str s::r=>some (s,r)
 | .sl _,.nilS::r=>some ([],r)
 | .unit,l=>some ((),l)
 | .pair a b,l=>match parse a l with
  | some (x,r)=>match parse b r with
   | some (y,g)=>some ((x,y),g)
   | none=>none
  | none=>none
 | _,_=>none
theorem bAa{c:Ctx}{w:World}:∀(t:Ty) (l:List AV) (x:t.den) (r:List AV) (cs:List Value),parse t l=some (x,r)→nF c w l cs→ ∃c1 f,cs=c1++f∧bB w c.S t x c1∧nF c w r f:=by
 intro t
 induction t with
 | bool =>
  intro l x r cs h g;cases l with
  | nil=>simp[parse] at h
  | cons v l =>
   cases v<;>first|grind[parse]|skip
   rename_i J y;cases J<;>simp[parse] at h
   obtain⟨rfl,rfl⟩:=h;obtain⟨c1,f,I,q,z⟩:=g;exact⟨c1,f,I,q,z⟩
 | str =>
  intro l x r cs h g;cases l with
  | nil=>simp[parse] at h
  | cons v l =>
   cases v<;>first|grind[parse]|skip
   rename_i J y;cases J<;>simp[parse] at h
   obtain⟨rfl,rfl⟩:=h;obtain⟨c1,f,I,q,z⟩:=g;exact⟨c1,f,I,q,z⟩
 | u k =>
  intro l x r cs h g;cases l with
  | nil=>simp[parse] at h
  | cons v l =>
   cases v<;>first|grind[parse]|skip
   rename_i J y;cases J<;>simp[parse] at h
   obtain⟨rfl,rfl,rfl⟩:=h;obtain⟨c1,f,I,q,z⟩:=g;exact⟨c1,f,I,q,z⟩
 | i k =>
  intro l x r cs h g;cases l with
  | nil=>simp[parse] at h
  | cons v l =>
   cases v<;>first|grind[parse]|skip
   rename_i J y;cases J<;>simp[parse] at h
   obtain⟨rfl,rfl,rfl⟩:=h;obtain⟨c1,f,I,q,z⟩:=g;exact⟨c1,f,I,q,z⟩
 | sl t ih =>
  intro l x r cs h g;cases l with
  | nil=>simp[parse] at h
  | cons v l =>
   cases v<;>first|grind[parse]|skip
   simp[parse] at h;obtain⟨rfl,rfl⟩:=h;obtain⟨c1,f,I,q,z⟩:=g;simp only[aM] at q;exact⟨c1,f,I,⟨none,0,0,q,rfl,Nat.le_refl _,Nat.zero_le _,.inl rfl⟩,z⟩
 | unit =>
  intro l x r cs h g;simp[parse] at h;subst h;exact⟨[],cs,rfl,rfl,g⟩
 | pair a b N L =>
  intro l x r cs h g;simp only[parse] at h;split at h
  ·rename_i xa O ha;split at h
   ·rename_i yb rb hb;cases h;obtain⟨c1,f,e1,r1,k1⟩:=N l xa O cs ha g;obtain⟨U,Z,e2,r2,Y⟩:=L O yb _ f hb k1;exact⟨c1++U,Z,by simp_all,⟨c1,U,rfl,r1,r2⟩,Y⟩
   grind
  grind
 | arr _ _ _=>grind[parse]
 | expr=>grind[parse]
 | rp _ _=>grind[parse]
 | clo _ _ _=>grind[parse]
 | ifc _ _ _=>grind[parse]
 | nili=>grind[parse]
 | nilp=>grind[parse]
 | nilf=>grind[parse]
def aIL(t:Ty)(l:List AV):Option t.den:=match parse t l with
 | some (x,[])=>some x
 | _=>none
def bF4:AV→Option Int
 | .val (.i .i64) n=>some n
 | _=>none
def bLB:AV→Option (List Nat)
 | .val .str s=>some s
 | _=>none
def bLC(h:List Obj):AV→Option (List Ex)
 | .val (.sl .expr) l=>some l
 | .full .expr l=>some l
 | .nilS=>some []
 | .own i=>rowOf h i .expr
 | _=>none
def asX(h:List Obj)(a b v:AV):Option Ex:=match bF4 a,bLB b,bLC h v with
 | some x,some y,some z=>some (.mk x y z)
 | _,_,_=>none
def AV.as(h:List Obj):(t:Ty)→AV→Option t.den
 | t,.val f x=>if e:f=t then some (e▸x) else none
 | .sl t,.nilS=>some []
 | .sl t,.full f z=>if e:f=t then some (e▸z) else none
 | .sl t,.own i=>rowOf h i t
 | .pair a r,.agg (v::vs)=>match AV.as h a v,AV.as h r (.agg vs) with
  | some x,some y=>some (x,y)
  | _,_=>none
 | .unit,.agg []=>some ()
 | .expr,.agg [a,b,v]=>asX h a b v
 | .pair a r,.flat l=>aIL (.pair a r) l
 | .unit,.flat l=>aIL .unit l
 | .rp t,.roa f x=>if e:f=t then some (e▸x) else none
 | .rp t,.ptr i []=>match h[i]? with
  | some (.box _ v)=>AV.as h t v
  | _=>none
 | .clo g t,.fn q [] l2=>if q=g then AV.as h t (.agg (l2.map fun i=>.ptr i [])) else none
 | _,_=>none
@[simp] theorem bLD{h:List Obj}{t:Ty}{x:t.den}:AV.as h t (.val t x)=some x:=by cases t<;>simp[AV.as]
@[simp] theorem bJf{h:List Obj}{t:Ty}:AV.as h (.sl t) .nilS=some []:=by rfl
@[simp] theorem bJg{h:List Obj}{t:Ty}{xs:List t.den}:AV.as h (.sl t) (.full t xs)=some xs:=by simp[AV.as]
@[simp] theorem bLE{h:List Obj}{t:Ty}{i:Nat}:AV.as h (.sl t) (.own i)=rowOf h i t:=by rfl
@[simp] theorem bJh{h:List Obj}:AV.as h .unit (.agg [])=some ():=by rfl
@[simp] theorem aYs{h:List Obj}{a r:Ty}{v:AV}{vs:List AV}:AV.as h (.pair a r) (.agg (v::vs))=match AV.as h a v,AV.as h r (.agg vs) with|some x,some y=>some (x,y)|_,_=>none:=by rfl
@[simp] theorem aYt{h:List Obj}{a r:Ty}{l:List AV}:AV.as h (.pair a r) (.flat l)=aIL (.pair a r) l:=by rfl
@[simp] theorem bLF{h:List Obj}{t:Ty}{x:t.den}:AV.as h (.rp t) (.roa t x)=some x:=by simp[AV.as]
@[simp] theorem bCq{h:List Obj}{t:Ty}{i:Nat}:AV.as h (.rp t) (.ptr i [])=match h[i]? with|some (.box _ v)=>AV.as h t v|_=>none:=by rfl
@[simp] theorem bMG{h:List Obj}{t:Ty}{g:FuncId}{l2:List Nat}:AV.as h (.clo g t) (.fn g [] l2)=AV.as h t (.agg (l2.map fun i=>.ptr i [])):=by simp[AV.as]
@[simp] theorem aYu{h:List Obj}{a b v:AV}:AV.as h .expr (.agg [a,b,v])=asX h a b v:=by rfl
@[simp] theorem aUl{h:List Obj}{l:List AV}:AV.as h .unit (.flat l)=aIL .unit l:=by rfl
def AV.tags1:AV→List Nat
 | .own i=>[i]
 | _=>[]
def AV.tags:AV→List Nat
 | .own i=>[i]
 | .agg f=>f.flatMap AV.tags1
 | _=>[]
def aGQ(c:Ctx)(h:List Obj)(b:Nat):Prop:=c.S b∨ ∃i o,h[i]? = some o∧fI c i o b
theorem aCl.toC{c:Ctx}{w:World}{e:TypeId}{t:Ty}{xs:List t.den}{v:Value}{S':Nat→Prop}(h:aCl c w e t xs v)(hs:∀b,c.S b→S' b)(hb:∀b,aU v=some b→S' b):bB w S' (.sl t) xs [v]:=by
 obtain⟨O,z,_,f,J,hl,Y⟩:=h;obtain⟨Z,hv⟩:=z;rcases hv with⟨rfl,h0⟩|⟨g,L,q,rfl,_,hheap,N,I,hsz,htake⟩
 ·refine⟨none,0,0,rfl,?_,Nat.le_refl _,Nat.zero_le _,.inl ?_⟩
  all_goals simp_all
 ·refine⟨some ⟨g,0,none⟩,xs.length,L,rfl,rfl,N,I,.inr ⟨g,0,rfl,hb g rfl,fun i hi=>?_⟩⟩;refine⟨f[i],bB.keep hs (.refl _ _) t _ _ (Y i hi (by omega)),?_⟩;obtain⟨pre,post,hf,hp⟩:=oT (t:=t) (css:=f) (fun j U=>bB.length _ _ _ (Y j (by omega) U)) i (by omega);intro j v U;have hcell:q[i*t.cells+j]? = some v:=by
   rw[← Array.getElem?_toList];have h1:(q.toList.take (xs.length*t.cells))[i*t.cells+j]? = some v:=by
    rw[htake,J,hf,← hp,List.append_assoc,List.getElem?_append_right (by omega),Nat.add_sub_cancel_left];grind
   grind
  simp_all[World.cell?,Nat.zero_add]
theorem mD.length{w:World}{S:Nat→Prop}:∀(t:Ty) (m:Mk) (x:t.den) (cs:List Value) (B:List Nat),mD w S t m x cs B→cs.length=t.cells:=by
 intro t
 induction t with
 | sl t ih =>
  intro m N cs B f;cases m with
  | no=>exact bB.length _ _ _ f.1
  | sl e m=>obtain⟨v,J,O,q,_⟩:=f; rw[q]; rfl
  | pair a b=>exact f.elim
 | pair a r z g =>
  intro m x cs B f;cases m with
  | no=>exact bB.length _ _ _ f.1
  | sl e m=>exact f.elim
  | pair ma mr =>
   obtain⟨c1,Y,B1,U,q,Z,I,L⟩:=f;rw[q,List.length_append,z _ _ _ _ I,g _ _ _ _ L]; rfl
 | _ =>
  intro m x cs B f;cases m<;>first|exact bB.length _ _ _ f.1|exact f.elim
theorem bAb{w:World}{S':Nat→Prop}{e:TypeId}{t:Ty}{xs:List t.den}{v:Value}{css:List (List Value)}(q:w.ownsRow 0 e t.cells v xs.length css.flatten)(hl:css.length=xs.length)(L:∀i (O:i<css.length),(css[i]).length=t.cells)
  (Y:∀i (h:i<xs.length) (O:i<css.length),bB w S' t xs[i] css[i]) (hb:∀b,aU v=some b→S' b):bB w S' (.sl t) xs [v]:=by
 obtain⟨U,hv⟩:=q;rcases hv with⟨rfl,h0⟩|⟨g,I,f,rfl,_,hheap,J,z,hsz,htake⟩
 ·refine⟨none,0,0,rfl,?_,Nat.le_refl _,Nat.zero_le _,.inl ?_⟩
  all_goals simp_all
 ·refine⟨some ⟨g,0,none⟩,xs.length,I,rfl,rfl,J,z,.inr ⟨g,0,rfl,hb g rfl,fun i hi=>?_⟩⟩;refine⟨css[i],Y i hi (by omega),?_⟩;obtain⟨pre,post,Z,hp⟩:=oT (t:=t) (css:=css) (fun j N=>L j N) i (by omega);intro j v N;have hcell:f[i*t.cells+j]? = some v:=by
   rw[← Array.getElem?_toList];have O:(f.toList.take (xs.length*t.cells))[i*t.cells+j]? = some v:=by
    rw[htake,Z,← hp,List.append_assoc,List.getElem?_append_right (by omega),Nat.add_sub_cancel_left];grind
   grind
  simp_all[World.cell?,Nat.zero_add]
theorem mD.toC{w:World}{S S':Nat→Prop}(hs:∀b,S b→S' b):∀(t:Ty) (m:Mk) (x:t.den) (cs:List Value) (B:List Nat),(∀b∈B,S' b)→mD w S t m x cs B→bB w S' t x cs:=by
 intro t
 induction t with
 | sl t ih =>
  intro m xs cs B g f;cases m with
  | no=>exact bB.keep hs (.refl _ _) _ _ _ f.1
  | sl e m =>
   obtain⟨v,Y,Bs,I,L,z,U,h5,O⟩:=f;subst I; subst h5;refine bAb L z (fun i q=>mD.length _ _ _ _ _ (O i (by omega) q (by omega))) (fun i q1 q2=>ih m _ _ (Bs[i]'(by omega)) (fun b hb=>g b ?_) (O i q1 q2 (by omega))) (fun b hb=>g b (by simp[hdB,hb]));grind[List.mem_append_right,List.mem_flatten,List.getElem_mem]
  | pair a b=>exact f.elim
 | pair a r N J =>
  intro m x cs B g f;cases m with
  | no=>exact bB.keep hs (.refl _ _) _ _ _ f.1
  | sl e m=>exact f.elim
  | pair ma mr =>
   obtain⟨c1,Z,B1,B2,I,L,z,U⟩:=f;subst L;exact⟨c1,Z,I,N _ _ _ _ (fun b hb=>g b (List.mem_append_left _ hb)) z,J _ _ _ _ (fun b hb=>g b (List.mem_append_right _ hb)) U⟩
 | _ =>
  intro m x cs B g f;cases m<;>first|exact bB.keep hs (.refl _ _) _ _ _ f.1|exact f.elim
theorem bAc{M:Perm}{w0:World}{c:Ctx}{h:List Obj}{w:World}(z:Good M w0 c h w){i:Nat}{t:Ty}{xs:List t.den}(f:rowOf h i t=some xs):bB w (aGQ c h) (.sl t) xs [c.hd i]:=by
 unfold rowOf at f;split at f
 ·rename_i e J I g;split at f
  ·rename_i q; subst q; cases f;have:=z.objs i _ g;exact aCl.toC this (fun b hb=>.inl hb) (fun b hb=>.inr ⟨i,_,g,hb⟩)
  grind
 ·rename_i J I g;split at f
  ·rename_i q; subst q; cases f;have:=z.objs i _ g;exact bB.keep (fun b hb=>.inl hb) (.refl _ _) _ _ _ this
  grind
 ·rename_i e m J I g;split at f
  ·rename_i q; subst q; cases f;obtain⟨B,N,_,L⟩:=z.objs i _ g;exact mD.toC (fun b hb=>.inl hb) _ _ _ _ _ (fun b hb=>.inr ⟨i,_,g,L b hb⟩) N
  grind
 grind
theorem bDL{c:Ctx}{w:World}{h:List Obj}{S':Nat→Prop}(Y:∀b,c.S b→S' b)(hrow:∀i xs cs,rowOf h i .expr=some xs→aM c w (.own i) cs→bB w S' (.sl .expr) xs cs){a b v:AV}{x:Ex}{cs:List Value}(Z:asX h a b v=some x)(hr:nF c w [a,b,v] cs):bB w S' .expr x cs:=by
 unfold asX at Z;split at Z
 ·rename_i k s l O h2 q;cases Z;simp only[nF] at hr;obtain⟨c1,c2,e,r1,c3,c4,e2,r2,c5,c6,e3,z,e4⟩:=hr;subst e4; subst e3; subst e2; subst e;have q1:bB w c.S (.i .i64) k c1:=by
   unfold bF4 at O;split at O
   ·cases O; exact r1
   grind
  have q2:bB w c.S .str s c3:=by
   unfold bLB at h2;split at h2
   ·cases h2; exact r2
   grind
  have q3:bB w S' (.sl .expr) l c5:=by
   unfold bLC at q;split at q
   ·cases q; exact bB.keep Y (.refl _ _) (.sl .expr) _ _ z
   ·cases q;simp only[aM] at z;obtain⟨p,n,e,U⟩:=z;exact⟨p,n,n,e,U.keep Y (.refl _ _) (fun x cs=>bB.keep Y (.refl _ _) .expr x cs)⟩
   ·cases q;simp only[aM] at z;exact⟨none,0,0,z,rfl,Nat.le_refl _,Nat.zero_le _,.inl rfl⟩
   all_goals grind
  obtain⟨rfl,_,N,q12⟩:=q1;obtain⟨s',rfl,rfl,J⟩:=q2;obtain⟨p,len,L,rfl,z1,z2,z3,z4⟩:=q3;show RepEx w S' _ _;have I:∃f:Nat→List Value,(∀i (h':i<l.length),RepEx w S' l[i] (f i))∧(l= []∨ ∃b off,p=some ⟨b,off,none⟩∧S' b∧ ∀i,i<l.length→mY w b (off+i*3) (f i)):=by
   rcases z4 with rfl|⟨b,off,rfl,hb,g⟩
   ·exact⟨fun _=>[],fun i h'=>by grind,.inl rfl⟩
   ·refine⟨fun i=>if h':i<l.length then Classical.choose (g i h') else [],fun i h'=>?_,.inr ⟨b,off,rfl,hb,fun i h'=>?_⟩⟩
    ·simp only[h',dite_true]; exact(Classical.choose_spec (g i h')).1
    ·simp only[h',dite_true]; exact(Classical.choose_spec (g i h')).2
  obtain⟨f,k1,k2⟩:=I;exact .mk k s' l p len L f ⟨N,q12⟩ J z1 z2 z3 k1 k2
 grind
theorem bJi{M:Perm}{w0:World}{c:Ctx}{h:List Obj}{w:World}(N:Good M w0 c h w):∀(t:Ty) (l:List Nat) (x:t.den),(∀i∈l,i<c.n)→AV.as h t (.agg (l.map fun i=>.ptr i []))=some x→nF c w (l.map fun i=>.ptr i []) (l.map c.hd):=by
 intro t
 induction t with
 | pair a r _ U =>
  intro l x g f;cases l with
  | nil=>rfl
  | cons i l =>
   simp only[List.map_cons,aYs] at f;split at f
   ·rename_i Y O L J;have hb:∃n v,h[i]? = some (.box n v):=by
     cases a<;>first|(simp[AV.as] at L; done)|skip
     grind[bCq]
    obtain⟨n,v,z⟩:=hb;obtain⟨b,cells,e,q,_⟩:=N.objs i _ z;refine⟨[c.hd i],l.map c.hd,rfl,?_,U l O (fun k I=>g k (by simp[I])) J⟩;refine⟨g i (by simp),b,by rw[q]; rfl,by rw[q]; rfl⟩
   grind
 | unit =>
  intro l x g f;cases l with
  | nil=>exact rfl
  | cons i l=>grind[AV.as]
 | expr =>
  intro l x g f
  match l,f with
  | [],f=>rfl
  | [_],f=>simp[AV.as] at f
  | [_,_],f=>simp[AV.as] at f
  | [_,_,_],f=>simp[AV.as,asX,bF4] at f
  | _::_::_::_::_,f=>simp[AV.as] at f
 | _=>grind[AV.as]
theorem bK9{M:Perm}{w0:World}{c:Ctx}{h:List Obj}{w:World}(hg:Good M w0 c h w):∀(t:Ty) (v:AV) (x:t.den) (cs:List Value),AV.as h t v=some x→aM c w v cs→bB w (aGQ c h) t x cs∧t.isAgg=v.isAgg:=by
 have L:∀b,c.S b→aGQ c h b:=fun b hb=>.inl hb;have hval:∀(t z:Ty) (y:z.den) (x:t.den) (cs:List Value),AV.as h t (.val z y)=some x→aM c w (.val z y) cs→bB w (aGQ c h) t x cs∧t.isAgg=AV.isAgg (.val z y):=by
  intro t z y x cs f q;have:∃e:z=t,x=e▸y:=by
   have I:(if e:z=t then some (e▸y) else none)=some x:=(by grind[AV.as]);grind
  obtain⟨rfl,rfl⟩:=this;exact⟨bB.keep L (.refl _ _) _ _ _ q,rfl⟩
 have hflat:∀(t:Ty) (l:List AV) (x:t.den) (cs:List Value),aIL t l=some x→nF c w l cs→bB w (aGQ c h) t x cs:=by
  intro t l x cs f q;unfold aIL at f;split at f
  ·rename_i y hp;cases f;obtain⟨c1,U,e,r1,r2⟩:=bAa t l _ _ cs hp q;simp only[nF] at r2;subst r2;rw[e,List.append_nil];exact bB.keep L (.refl _ _) _ _ _ r1
  grind
 intro t
 induction t with
 | pair a b iha O =>
  intro v x cs f q;cases v with
  | val z y=>grind
  | agg J =>
   cases J with
   | nil=>grind[AV.as]
   | cons v J =>
    simp only[aYs] at f;split at f
    ·rename_i xa xb h1 I;cases f;simp only[aM,nF] at q;obtain⟨c1,U,e,r1,r2⟩:=q;have q1:=iha v xa c1 h1 r1;have q2:=O (.agg J) xb U I (by grind[aM]);exact⟨⟨c1,U,e,q1.1,q2.1⟩,rfl⟩
    grind
  | flat l=>simp only[aYt] at f; exact⟨hflat _ _ _ _ f (by grind[aM]),rfl⟩
  | _=>grind[AV.as]
 | sl t N =>
  intro v x cs f q;cases v with
  | val z y=>grind
  | nilS=>simp at f; subst f; simp only[aM] at q; exact⟨⟨none,0,0,q,rfl,Nat.le_refl _,Nat.zero_le _,.inl rfl⟩,rfl⟩
  | full z xs =>
   have I:(if e:z=t then some (e▸xs) else none)=some x:=(by grind[AV.as]);split at I
   ·rename_i e;subst e;cases I;simp only[aM] at q;obtain⟨p,n,e,Y⟩:=q;exact⟨⟨p,n,n,e,Y.keep L (.refl _ _) (fun x cs=>bB.keep L (.refl _ _) _ x cs)⟩,rfl⟩
   grind
  | own i=>simp at f; simp only[aM] at q; rw[q.2.1]; exact⟨bAc hg f,rfl⟩
  | _=>grind[AV.as]
 | unit =>
  intro v x cs f q;cases v with
  | val z y=>grind
  | agg J=>cases J with
   | nil=>simp only[aM,nF] at q; exact⟨q,rfl⟩
   | cons v J=>grind[AV.as]
  | flat l=>simp only[aUl] at f; exact⟨hflat _ _ _ _ f (by grind[aM]),rfl⟩
  | _=>grind[AV.as]
 | rp t N =>
  intro v x cs f q;cases v with
  | val z y=>grind
  | roa z y =>
   have I:(if e:z=t then some (e▸y) else none)=some x:=(by grind[AV.as]);split at I
   ·rename_i e;subst e;cases I;simp only[aM] at q;obtain⟨b,off,ds,e,hb,hd,hcell⟩:=q;exact⟨⟨b,off,ds,e,L b hb,bB.keep L (.refl _ _) _ _ _ hd,hcell⟩,rfl⟩
   grind
  | ptr i p =>
   cases p with
   | nil =>
    simp only[bCq] at f;split at f
    ·rename_i n u ho;simp only[aM] at q;obtain⟨hi,b,hb,e⟩:=q;obtain⟨b',cells,e',q1,q2,q3,q4⟩:=hg.objs i _ ho;have Z:b=b':=(by grind[aU]);subst Z;refine⟨⟨b,0,cells.toList,e,.inr ⟨i,_,ho,by simp[fI,q1,aU]⟩,(N u x cells.toList f q4).1,?_⟩,rfl⟩;intro j u hj;simp_all[World.cell?,Nat.zero_add]
    grind
   | cons s p=>grind[AV.as]
  | _=>grind[AV.as]
 | clo g t N =>
  intro v x cs f q;cases v with
  | val z y=>grind
  | fn g' l1 l2 =>
   cases l1 with
   | nil =>
    have I:g'=g∧AV.as h t (.agg (l2.map fun i=>.ptr i []))=some x:=(by grind[AV.as]);obtain⟨rfl,f⟩:=I;simp only[aM] at q;obtain⟨_,I,e⟩:=q;have:=N _ x (l2.map c.hd) f (by grind[aM,bJi]);exact⟨⟨l2.map c.hd,by simp_all,this.1⟩,rfl⟩
   | cons i l1=>grind[AV.as]
  | _=>grind[AV.as]
 | expr =>
  intro v x cs f q;cases v with
  | val z y=>grind
  | agg J =>
   match J,f,q with
   | [a,b,v],f,q =>
    simp only[aYu] at f;exact⟨bDL L (fun i xs cs h1 I=>by grind[aM,bAc]) f (by grind[aM]),rfl⟩
   | [],f,_=>grind[AV.as]
   | [_],f,_=>grind[AV.as]
   | [_,_],f,_=>grind[AV.as]
   | _::_::_::_::_,f,_=>grind[AV.as]
  | _=>grind[AV.as]
 | _ =>
  intro v x cs f q;cases v with
  | val z y=>grind
  | _=>grind[AV.as]
def Ty.fieldOff:Ty→Nat→Nat
 | .pair _ _,0=>0
 | .pair a r,k+1=>a.cells+r.fieldOff k
 | .expr,k=>k
 | _,_=>0
def aKi:(t:Ty)→t.den→Nat→AV
 | .pair a _,x,0=>.val a x.1
 | .pair _ r,x,k+1=>aKi r x.2 k
 | .expr,x,0=>.val (.i .i64) x.kind
 | .expr,x,1=>.val .str x.text
 | .expr,x,2=>.val (.sl .expr) x.l
 | _,_,_=>.junk
def AV.solid1:AV→Bool
 | .val _ _=>true
 | .nilS=>true
 | .nilP=>true
 | .full _ _=>true
 | .own _=>true
 | .ptr _ _=>true
 | .roa _ _=>true
 | .fn _ _ _=>true
 | .mp _=>true
 | _=>false
def AV.solid:AV→Bool
 | .agg f=>f.all AV.solid1
 | v=>v.solid1
def AV.nc1:AV→Nat
 | .val t _=>t.cells
 | _=>1
def aI:List AV→Nat
 | []=>0
 | v::r=>v.nc1+aI r
def AV.nc:AV→Nat
 | .agg f=>aI f
 | v=>v.nc1
theorem aNw{c:Ctx}{w:World}{v:AV}{cs:List Value}(hs:v.solid1=true)(f:aM c w v cs):cs.length=v.nc1:=by
 cases v<;>simp[AV.solid1] at hs<;>simp only[aM] at f<;>simp only[AV.nc1]
 all_goals grind[bB.length]
theorem bDM{c:Ctx}{w:World}:∀ {vs:List AV} {cs:List Value},vs.all AV.solid1=true→nF c w vs cs→cs.length=aI vs
 | [],_,_,f=>by simp only[nF] at f; rw[f]; rfl
 | v::r,_,hs,f=>by
  simp only[List.all_cons,Bool.and_eq_true] at hs;simp only[nF] at f;obtain⟨c1,z,e,g,q⟩:=f;rw[e,List.length_append,aNw hs.1 g,bDM hs.2 q]; rfl
theorem aUm{c:Ctx}{w:World}{v:AV}{cs:List Value}(hs:v.solid=true)(f:aM c w v cs):cs.length=v.nc:=by
 cases v
 case agg vs=>exact bDM hs (by simpa [aM] using f)
 all_goals grind[AV.solid,AV.nc,aNw]
def eH:AV→Nat→AV×Nat
 | .val t x,k=>(aKi t x k,t.fieldOff k)
 | .agg [],_=>(.junk,0)
 | .agg (v::_),0=>(v,0)
 | .agg (v::vs),k+1=>((eH (.agg vs) k).1,v.nc1+(eH (.agg vs) k).2)
 | _,_=>(.junk,0)
def elemOf:AV→Nat→Prop×AV
 | .val (.arr n t) f,i=>(i<n,.val t (f.getD i t.zero))
 | _,_=>(False,.junk)
def aXA:AV→Nat
 | .val (.arr _ t) _=>t.cells
 | _=>0
theorem aOA{w:World}{c:Ctx}:∀(t:Ty) (x:t.den) (k:Nat) (cs:List Value),bB w c.S t x cs→aKi t x k≠ .junk→ ∃pre ds post,cs=pre++ds++post∧pre.length=t.fieldOff k∧aM c w (aKi t x k) ds
 | .pair a r,x,0,cs,f,_=>by
  obtain⟨c1,L,e,N,U⟩:=f;exact⟨[],c1,L,by simp_all,rfl,N⟩
 | .pair a r,x,k+1,cs,f,g=>by
  obtain⟨c1,L,e,N,U⟩:=f;obtain⟨pre,ds,post,Y,hp,hd⟩:=aOA r x.2 k L U g;refine⟨c1++pre,ds,post,by simp_all,?_,hd⟩;rw[List.length_append,bB.length _ _ _ N,hp]; rfl
 | .expr,x,0,cs,f,_=>by
  cases f with
  | mk k s l a len z q I hs J hc hm f O=>exact⟨[],[_],_,rfl,rfl,⟨rfl,rfl,I.1,I.2⟩⟩
 | .expr,x,1,cs,f,_=>by
  cases f with
  | mk k s l a len z q I hs J hc hm f O=>exact⟨[_],[_],[_],rfl,rfl,⟨s,rfl,rfl,hs⟩⟩
 | .expr,x,2,cs,f,_=>by
  cases f with
  | mk k s l a len z q I hs J hc hm f O =>
   refine⟨[_,_],[_],[],rfl,rfl,⟨a,len,z,rfl,J,hc,hm,O.imp id ?_⟩⟩;rintro⟨b,off,e,hb,hcell⟩;exact⟨b,off,e,hb,fun i hi=>⟨q i,f i hi,hcell i hi⟩⟩
 | .expr,x,k+3,cs,f,g=>absurd rfl g
 | .bool,x,k,cs,f,g=>absurd rfl g
 | .u _,x,k,cs,f,g=>absurd rfl g
 | .i _,x,k,cs,f,g=>absurd rfl g
 | .str,x,k,cs,f,g=>absurd rfl g
 | .sl _,x,k,cs,f,g=>absurd rfl g
 | .unit,x,k,cs,f,g=>absurd rfl g
 | .arr _ _,x,k,cs,f,g=>absurd rfl g
 | .rp _,x,k,cs,f,g=>absurd rfl g
 | .clo _ _,x,k,cs,f,g=>absurd rfl g
theorem aUn{w:World}{c:Ctx}:∀(v:AV) (k:Nat) (cs:List Value),v.solid=true→aM c w v cs→(eH v k).1≠ .junk→ ∃pre ds post,cs=pre++ds++post∧pre.length=(eH v k).2∧aM c w (eH v k).1 ds:=by
 intro v k cs hs f I;cases v with
 | val t x=>grind[eH,aOA,aM]
 | agg g =>
  simp only[aM] at f;simp only[AV.solid] at hs
  induction g generalizing k cs with
  | nil=>grind[eH]
  | cons v g L =>
   simp only[nF] at f;simp only[List.all_cons,Bool.and_eq_true] at hs;obtain⟨c1,q,e,z,J⟩:=f;cases k with
   | zero=>exact⟨[],c1,q,by simp_all,rfl,z⟩
   | succ k =>
    grind[eH,List.length_append,aNw]
 | _=>grind[eH]
theorem aQs{w:World}{c:Ctx}(v:AV)(i:Nat)(cs:List Value)(z:aM c w v cs)(h:(elemOf v i).1):∃pre ds post,cs=pre++ds++post∧pre.length=i*aXA v∧aM c w (elemOf v i).2 ds:=by
 cases v with
 | val t x =>
  cases t with
  | arr n t =>
   simp only[elemOf] at h ⊢;obtain⟨L,g,e,I,f⟩:=z;obtain⟨pre,post,J,hp⟩:=oT (t:=t) (css:=g) (fun j q=>bB.length _ _ _ (f j (by omega) q)) i (by omega);refine⟨pre,g[i],post,by grind,hp,?_⟩;have:=f i (by omega) (by omega);simp only[aM];rw[List.getD_eq_getElem?_getD,List.getElem?_eq_getElem (by omega)];exact this
  | _=>exact h.elim
 | _=>exact h.elim
def aA4:AV→List Step→Prop×AV
 | v,[]=>(True,v)
 | v,.fld off k::p=>(v.solid=true∧off=(eH v k).2∧(aA4 (eH v k).1 p).1,(aA4 (eH v k).1 p).2)
 | v,.idx s i::p=>((elemOf v i).1∧s=aXA v∧(aA4 (elemOf v i).2 p).1,(aA4 (elemOf v i).2 p).2)
theorem bE1:∀(p:List Step),(aA4 .junk p).1→(aA4 .junk p).2= .junk
 | [],_=>rfl
 | .fld off k::p,h=>by simp[aA4,AV.solid,AV.solid1] at h
 | .idx s i::p,h=>by simp[aA4,elemOf] at h
theorem aOB{w:World}{c:Ctx}:∀(p:List Step) (v:AV) (cs:List Value),aM c w v cs→(aA4 v p).1→(aA4 v p).2≠ .junk→ ∃pre ds post,cs=pre++ds++post∧pre.length=pT p∧aM c w (aA4 v p).2 ds
 | [],v,cs,q,_,_=>⟨[],cs,[],by simp,rfl,q⟩
 | .fld off k::p,v,cs,q,h,g=>by
  simp only[aA4] at h g ⊢;obtain⟨hs,U,N⟩:=h;have L:(eH v k).1≠ .junk:=fun e=>by grind[bE1]
  obtain⟨pre,ds,post,e,hp,hd⟩:=aUn v k cs hs q L;obtain⟨z,O,f,Y,I,J⟩:=aOB p _ ds hd N g;grind[List.length_append,pT,Step.off]
 | .idx s i::p,v,cs,q,h,g=>by
  simp only[aA4] at h g ⊢;obtain⟨hs,U,N⟩:=h;obtain⟨pre,ds,post,e,hp,hd⟩:=aQs v i cs q hs;obtain⟨z,O,f,Y,I,J⟩:=aOB p _ ds hd N g;grind[List.length_append,pT,Step.off]
end Go.Vc
namespace Go.Vc
open Go.RowKit
inductive RK where
 | none
 | one (t:Ty)
 | own (e:TypeId) (t:Ty)
 | tup (t:Ty)
def RK.ty:RK→Ty
 | .none=>.unit
 | .one t=>t
 | .own _ t=>.sl t
 | .tup t=>t
structure aF where
 args:Ty
 res:RK
 pre:args.den→Prop
 fn:args.den→res.ty.den
def sC(w:World)(S:Nat→Prop):(t:Ty)→t.den→List Value→Prop
 | .unit,_,g=>g= []
 | .pair a r,x,g=>∃v f,g=v::f∧dV w S a x.1 v∧sC w S r x.2 f
 | _,_,_=>False
def bE2(w:World)(S:Nat→Prop)(B:Nat):(r:RK)→r.ty.den→Value→Prop
 | .none,_,v=>v= .tuple #[]
 | .one t,x,v=>dV w (fun b=>S b∨(B≤b∧b<w.heap.size)) t x v
 | .own e t,g,v=>∃f:List Value,w.ownsRow B e t.cells v g.length f∧bB w (fun b=>S b∨(B≤b∧b<w.heap.size∧aU v≠some b)) (.arr g.length t) g f
 | .tup t,x,v=>∃vs:List Value,v= .tuple vs.toArray∧sC w (fun b=>S b∨(B≤b∧b<w.heap.size)) t x vs
def nothing:Nat→Prop:=fun _=>False
@[reducible] def top(S:Nat→Prop):Perm:=⟨nothing,S,0,fun _=>Go.undef⟩
def uB(G:Nat→AV)(S:Nat→Prop)(w:World):Prop:=∀g,aY ⟨S,fun _=>Go.undef,0,fun _ _=>False⟩ w (G g) (.pointer (some ⟨g,0,none⟩))
def FOK(P:Program)(G:Nat→AV)(f:FuncId)(sp:aF):Prop :=
 ∀(w:World) (S:Nat→Prop) (vs:Array Value) (x:sp.args.den),(∀b,S b→b<w.heap.size)→uB G S w→sC w S sp.args x vs.toList→sp.pre x →
  Calls P f vs w fun e w'=>∃v,e= .returned v∧jB nothing w w'∧bE2 w' S w.heap.size sp.res (sp.fn x) v
structure Env where
 T:Tab
 G:Nat→AV
 Γ:FuncId→List AV→Option aF
 el:TypeId→TypeId
 mp:TypeId→Option (TypeId×TypeId)
 dm:TypeId→Option Mk:=fun _=>none
 dz:TypeId→Bool:=fun _=>false
def bAd(T:Tab)(t:TypeId):AV→AV
 | .flat l=>match T t with
  | some c=>match AV.as [] c (.flat l) with
   | some x=>.val c x
   | none=>.flat l
  | none=>.flat l
 | v=>v
def aKL(T:Tab)(h:List Obj)(t:TypeId):AV→Prop×AV
 | .roa c x=>(T t=some c,.val c x)
 | .ptr i p=>match h[i]? with
  | some (.box _ v)=>((aA4 v p).1∧(aA4 v p).2.solid=true∧ ∃c,T t=some c∧c.isAgg=(aA4 v p).2.isAgg∧c.cells=(aA4 v p).2.nc,(aA4 v p).2)
  | some (.row _ c f)=>match p with
   | .idx s k::p=>(k<f.length∧s=c.cells∧(aA4 (.val c (f.getD k c.zero)) p).1∧(aA4 (.val c (f.getD k c.zero)) p).2.solid=true ∧
     ∃c',T t=some c'∧c'.isAgg=(aA4 (.val c (f.getD k c.zero)) p).2.isAgg∧c'.cells=(aA4 (.val c (f.getD k c.zero)) p).2.nc,(aA4 (.val c (f.getD k c.zero)) p).2)
   | _=>(False,.junk)
  | some (.trh _ _ c f k v)=>match p with
   | .idx s g::p=>(g=k∧s=c.cells∧(aA4 v p).1∧(aA4 v p).2.solid=true∧ ∃c',T t=some c'∧c'.isAgg=(aA4 v p).2.isAgg∧c'.cells=(aA4 v p).2.nc,(aA4 v p).2)
   | _=>(False,.junk)
  | _=>(False,.junk)
 | _=>(False,.junk)
noncomputable def aD6(T:Tab)(op:BinOp)(t:TypeId):AV→AV→Prop×AV
 | .val (.u k) a,.val (.u g) b=>match op with
  | .shl=>shU .shl k a b
  | .shr=>shU .shr k a b
  | op=>if g=k then aYq op k a b else (False,.junk)
 | .val (.i k) a,.val (.i g) b=>match op with
  | .shl=>(0≤b∧b≤k.bits∧(shI .shl k a b.toNat).1,(shI .shl k a b.toNat).2)
  | .shr=>(0≤b,(shI .shr k a b.toNat).2)
  | op=>if g=k then bF0 op k a b else (False,.junk)
 | .val (.u k) a,.val (.i _) b=>match op with
  | .shl=>(0≤b,(shU .shl k a b.toNat).2)
  | .shr=>(0≤b,(shU .shr k a b.toNat).2)
  | _=>(False,.junk)
 | .val (.i k) a,.val (.u _) b=>match op with
  | .shl=>(b≤k.bits∧(shI .shl k a b).1,(shI .shl k a b).2)
  | .shr=>(True,(shI .shr k a b).2)
  | _=>(False,.junk)
 | .val .str a,.val .str b=>bF1 op a b
 | .val .bool a,.val .bool b=>(T t=some .bool∧(bJb op a b).1,(bJb op a b).2)
 | .val (.pair p q) a,.val f b=>if e:f= .pair p q then (match op with
   | .eql=>(T t=some (.pair p q)∧(Ty.pair p q).cmpB=true∧(Ty.pair p q).deep≤100,.val .bool ((Ty.pair p q).eqb a (e▸b)))
   | .neq=>(T t=some (.pair p q)∧(Ty.pair p q).cmpB=true∧(Ty.pair p q).deep≤100,.val .bool (!(Ty.pair p q).eqb a (e▸b)))
   | _=>(False,.junk)) else (False,.junk)
 | .val (.arr n q) a,.val f b=>if e:f= .arr n q then (match op with
   | .eql=>(T t=some (.arr n q)∧(Ty.arr n q).cmpB=true∧(Ty.arr n q).deep≤100,.val .bool ((Ty.arr n q).eqb a (e▸b)))
   | .neq=>(T t=some (.arr n q)∧(Ty.arr n q).cmpB=true∧(Ty.arr n q).deep≤100,.val .bool (!(Ty.arr n q).eqb a (e▸b)))
   | _=>(False,.junk)) else (False,.junk)
 | _,_=>(False,.junk)
noncomputable def bCr(f:UnOp):AV→Prop×AV
 | .val .bool b=>match f with
  | .not=>(True,.val .bool (!b))
  | _=>(False,.junk)
 | .val (.i k) a=>match f with
  | .neg=>(fits k (0-a),.val (.i k) (0-a))
  | _=>(False,.junk)
 | .val (.u k) a=>match f with
  | .neg=>(True,.val (.u k) (aZ9 k a))
  | .xor=>(True,.val (.u k) ((lR k-1)^^^a))
  | _=>(False,.junk)
 | _=>(False,.junk)
def aQt(T:Tab)(src dst:TypeId)(x:AV):Prop×AV :=
 match T dst,x with
 | some (.u k),.val (.u f) n=>((T src).isSome=true,.val (.u k) (if f.bits≤k.bits then n else n%lR k))
 | some (.u k),.val (.i _) n=>((T src).isSome=true,.val (.u k) (n%(lR k:Int)).toNat)
 | some (.i k),.val (.u f) n=>((T src).isSome=true,.val (.i k) (if f.bits<k.bits then (n:Int) else k.wrap n))
 | some (.i k),.val (.i f) n=>((T src).isSome=true,.val (.i k) (if f.bits≤k.bits then n else k.wrap n))
 | some .str,.val .str s=>(T src=some .str,.val .str s)
 | _,_=>(False,.junk)
def aD7:AV→Option Int
 | .val (.i _) n=>some n
 | .val (.u _) n=>some n
 | _=>none
def aBo(T:Tab)(s:TypeId)(x:AV)(k:Nat):Prop×AV :=
 match x with
 | .ptr i p=>match T s with
  | some c=>(c.isAgg=true∧fldT c k,.ptr i (p++ [.fld (c.fieldOff k) k]))
  | none=>(False,.junk)
 | .roa c x=>match aKi c x k with
  | .val f y=>(T s=some c,.roa f y)
  | _=>(False,.junk)
 | _=>(False,.junk)
where
 fldT:Ty→Nat→Prop
 | .pair _ _,0=>True
 | .pair _ r,k+1=>fldT r k
 | .expr,k=>k<3
 | _,_=>False
def Ty.fldTy:Ty→Nat→Option Ty
 | .pair a _,0=>some a
 | .pair _ r,k+1=>r.fldTy k
 | _,_=>none
def aMb(T:Tab)(s:TypeId)(x:AV)(k:Nat):Prop×AV :=
 match x with
 | .val c y=>(T s=some c∧aKi c y k≠ .junk,aKi c y k)
 | .agg f=>(∃g,T s=some g∧f.all AV.solid1=true∧(eH (.agg f) k).1.solid1=true∧(eH (.agg f) k).2=g.fieldOff k∧ ∃c',g.fldTy k=some c'∧c'.isAgg=(eH (.agg f) k).1.isAgg∧c'.cells=(eH (.agg f) k).1.nc1,(eH (.agg f) k).1)
 | _=>(False,.junk)
def aOC(T:Tab)(h:List Obj)(t:TypeId)(x g:AV):Prop×AV :=
 match aD7 g with
 | none=>(False,.junk)
 | some i =>
  match x with
  | .val (.sl c) f=>(T t=some (.sl c)∧0≤i∧i<(f.length:Int),.roa c (f.getD i.toNat c.zero))
  | .full c f=>(T t=some (.sl c)∧0≤i∧i<(f.length:Int),.roa c (f.getD i.toNat c.zero))
  | .own k=>match h[k]? with
   | some (.row _ c f)=>(T t=some (.sl c)∧0≤i∧i<(f.length:Int),.ptr k [.idx c.cells i.toNat])
   | some (.frz c f)=>(T t=some (.sl c)∧0≤i∧i<(f.length:Int),.roa c (f.getD i.toNat c.zero))
   | some (.tre _ _ c f)=>(T t=some (.sl c)∧0≤i∧i<(f.length:Int),.ptr k [.idx c.cells i.toNat])
   | some (.trh _ _ c f _ _)=>(T t=some (.sl c)∧0≤i∧i<(f.length:Int),.ptr k [.idx c.cells i.toNat])
   | _=>(False,.junk)
  | .sub k s off n=>match h[k]? with
   | some (.row _ c f)=>(T t=some (.sl c)∧s=c.cells∧0≤i∧i<(n:Int),.ptr k [.idx c.cells (off+i.toNat)])
   | _=>(False,.junk)
  | .ptr k p=>match T t with
   | some (.arr n c)=>(0≤i∧i<(n:Int),.ptr k (p++ [.idx c.cells i.toNat]))
   | _=>(False,.junk)
  | .roa (.arr n c) f=>(T t=some (.arr n c)∧0≤i∧i<(n:Int),.roa c (f.getD i.toNat c.zero))
  | _=>(False,.junk)
def aOD(T:Tab)(t:TypeId)(x f:AV):Prop×AV :=
 match aD7 f with
 | none=>(False,.junk)
 | some i =>
  match x with
  | .val (.arr n c) g=>(T t=some (.arr n c)∧0≤i∧i<(n:Int),.val c (g.getD i.toNat c.zero))
  | .val .str s=>(T t=some .str∧0≤i∧i<(s.length:Int),.val (.u .u8) (s.getD i.toNat 0))
  | _=>(False,.junk)
def aKM(T:Tab)(h:List Obj)(t:TypeId)(x:AV):Prop×AV :=
 match x with
 | .val .str s=>(T t=some .str,.val (.i .i64) (s.length:Int))
 | .val (.sl c) f=>(T t=some (.sl c),.val (.i .i64) (f.length:Int))
 | .full c f=>(T t=some (.sl c),.val (.i .i64) (f.length:Int))
 | .nilS=>(∃c,T t=some (.sl c),.val (.i .i64) 0)
 | .own k=>match h[k]? with
  | some (.row _ c f)=>(T t=some (.sl c),.val (.i .i64) (f.length:Int))
  | some (.frz c f)=>(T t=some (.sl c),.val (.i .i64) (f.length:Int))
  | some (.tre _ _ c f)=>(T t=some (.sl c),.val (.i .i64) (f.length:Int))
  | some (.trh _ _ c f _ _)=>(T t=some (.sl c),.val (.i .i64) (f.length:Int))
  | _=>(False,.junk)
 | .sub _ _ _ n=>(∃c,T t=some (.sl c),.val (.i .i64) (n:Int))
 | .val (.arr n c) _=>(T t=some (.arr n c),.val (.i .i64) (n:Int))
 | _=>(False,.junk)
def gJ:Obj→Obj
 | .frz t f=>.frz t f
 | _=>.dead
def bCs(h:List Obj)(c:Ty)(x:AV):Option (List c.den):=AV.as (h.map gJ) (.sl c) x
def aOE(T:Tab)(h:List Obj)(t:TypeId)(x:AV)(lo hi mx:Option AV):Prop×AV :=
 match T t with
 | some .str=>match x,mx with
  | .val .str s,none=>match lo.map aD7,hi.map aD7 with
   | none,none=>(True,.val .str s)
   | some (some l),none=>(0≤l∧l≤(s.length:Int),.val .str (s.drop l.toNat))
   | none,some (some u)=>(0≤u∧u≤(s.length:Int),.val .str (s.take u.toNat))
   | some (some l),some (some u)=>(0≤l∧l≤u∧u≤(s.length:Int),.val .str ((s.take u.toNat).drop l.toNat))
   | _,_=>(False,.junk)
  | _,_=>(False,.junk)
 | some (.sl c)=>match bCs h c x with
  | some f=>match lo.map aD7,hi.map aD7,mx.map aD7 with
   | none,none,none=>(True,.val (.sl c) f)
   | some (some l),none,none=>(0≤l∧l≤(f.length:Int),.val (.sl c) (f.drop l.toNat))
   | none,some (some u),none=>(0≤u∧u≤(f.length:Int),.val (.sl c) (f.take u.toNat))
   | some (some l),some (some u),none=>(0≤l∧l≤u∧u≤(f.length:Int),.val (.sl c) ((f.take u.toNat).drop l.toNat))
   | none,some (some u),some (some m)=>(0≤u∧u≤(f.length:Int)∧m=u,.full c (f.take u.toNat))
   | some (some l),some (some u),some (some m)=>(0≤l∧l≤u∧u≤(f.length:Int)∧m=u,.full c ((f.take u.toNat).drop l.toNat))
   | _,_,_=>(False,.junk)
  | none=>(False,.junk)
 | _=>(False,.junk)
def bF5(c:Ty):AV:=.val c c.zero
def aBD:Ty→List AV
 | .pair a r=>bF5 a::aBD r
 | _=>[]
def bE3:List AV→List (Nat×AV)→List AV
 | l,[]=>l
 | l,(k,v)::r=>bE3 (l.set k v) r
def Ty.flds:Ty→List Ty
 | .pair a r=>a::r.flds
 | _=>[]
def aMc(ts:List Ty):List (Nat×AV)→Prop
 | []=>True
 | (k,v)::r=>(v.solid1=true∧ ∃t,ts[k]? = some t∧v.nc1=t.cells)∧aMc ts r
def aYv(c:Ty):List c.den→List (Nat×AV)→Option (List c.den)
 | l,[]=>some l
 | l,(k,v)::r=>match AV.as [] c v with
  | some x=>if k<l.length then aYv c (l.set k x) r else none
  | none=>none
def aKN(c:Ty)(l:List AV):AV :=
 match AV.as [] c (.agg l) with
 | some x=>.val c x
 | none=>.agg l
def aMd(T:Tab)(t:TypeId)(ps:List (Nat×AV)):Prop×AV :=
 match T t with
 | some (.pair a r)=>((Ty.pair a r).okB=true∧aMc (Ty.pair a r).flds ps,aKN (.pair a r) (bE3 (aBD (.pair a r)) ps))
 | some .unit=>(ps= [],.val .unit ())
 | some .expr=>(aMc [.i .i64,.str,.sl .expr] ps,aKN .expr (bE3 [.val (.i .i64) 0,.val .str [],.nilS] ps))
 | some (.arr n c)=>match aYv c (List.replicate n c.zero) ps with
  | some l=>(c.okB=true,.val (.arr n c) l)
  | none=>(False,.junk)
 | _=>(False,.junk)
def nB:Ty→List AV
 | .pair (.sl _) r=>.nilS::nB r
 | .pair a r=>.val a a.zero::nB r
 | _=>[]
def aMe:Ty→Bool
 | .pair _ r=>aMe r
 | .unit=>true
 | _=>false
def aQu(T:Tab)(t:TypeId)(ps:List (Nat×AV)):Prop×AV :=
 match T t with
 | some (.pair a r)=>((Ty.pair a r).okB=true∧aMc (Ty.pair a r).flds ps,.agg (bE3 (nB (.pair a r)) ps))
 | _=>(False,.junk)
def aCo(T:Tab)(t:TypeId)(n:Nat)(ps:List (Nat×AV)):Prop×AV :=
 match T t with
 | some (.sl c)=>match aYv c (List.replicate n c.zero) ps with
  | some l=>(c.okB=true∧n*c.cells≤16777216∧n≤maxLen,.full c l)
  | none=>(False,.junk)
 | _=>(False,.junk)
def mm2(mx:Bool):AV→AV→Prop×AV
 | .val (.i k) a,.val (.i f) b=>if f=k then (True,.val (.i k) (if mx then max a b else min a b)) else (False,.junk)
 | .val (.u k) a,.val (.u f) b=>if f=k then (True,.val (.u k) (if mx then max a b else min a b)) else (False,.junk)
 | _,_=>(False,.junk)
def bF6(mx:Bool):List AV→Prop×AV
 | [x,y]=>mm2 mx x y
 | [x,y,z]=>((mm2 mx x y).1∧(mm2 mx (mm2 mx x y).2 z).1,(mm2 mx (mm2 mx x y).2 z).2)
 | _=>(False,.junk)
def aEZ:(t:Ty)→t.den→List AV
 | .pair a r,x=>.val a x.1::aEZ r x.2
 | _,_=>[]
def bF7:(r:RK)→r.ty.den→AV
 | .one t,x=>.val t x
 | .tup t,x=>.tup (aEZ t x)
 | _,_=>.junk
def Ty.scalar:Ty→Bool
 | .bool=>true
 | .u _=>true
 | .i _=>true
 | .str=>true
 | .unit=>true
 | .pair a b=>a.scalar&&b.scalar
 | .arr _ t=>t.scalar
 | _=>false
def aDt(h:List Obj):(t:Ty)→List AV→Option t.den
 | .unit,[]=>some ()
 | .pair a r,v::vs=>match AV.as h a v,aDt h r vs with
  | some x,some y=>some (x,y)
  | _,_=>none
 | _,_=>none
def aIM(Γ:FuncId→List AV→Option aF)(h:List Obj)(f:FuncId)(vs:List AV):Prop×AV :=
 match Γ f vs with
 | some sp=>match sp.res with
  | .own _ _=>(False,.junk)
  | _=>match aDt (if sp.res.ty.scalar then h else h.map gJ) sp.args vs with
   | some x=>(sp.pre x,bF7 sp.res (sp.fn x))
   | none=>(False,.junk)
 | none=>(False,.junk)
end Go.Vc
namespace Go.Vc
open Go.RowKit
theorem xS(b off j:Nat):(Addr.mk b off none).add j=⟨b,off+j,none⟩:=by
 grind[Addr.add]
theorem aUo{c:Ctx}{w:World}{v:AV}{cs:List Value}(hs:v.solid1=true)(q:aM c w v cs):∀u∈cs,one u:=by
 cases v<;>simp[AV.solid1] at hs<;>simp only[aM] at q
 case val t x=>grind[bB.one]
 case full t xs=>obtain⟨a,n,e,_⟩:=q; subst e; intro u g; simp at g; subst g; trivial
 case ptr i p=>obtain⟨_,b,_,e⟩:=q; subst e; intro u g; simp at g; subst g; trivial
 case roa t x=>obtain⟨b,off,ds,e,_⟩:=q; subst e; intro u g; simp at g; subst g; trivial
 case fn f a b=>rw[q.2.2]; intro u g; simp at g; subst g; trivial
 case own i=>simp_all
 case mp i=>simp_all
 all_goals (rw[q]; intro u g; simp at g; subst g; trivial)
theorem aQv{c:Ctx}{w:World}{v:AV}{cs:List Value}(hs:v.solid=true)(g:aM c w v cs):∀u∈cs,one u:=by
 cases v
 case agg vs =>
  simp only[aM] at g;simp only[AV.solid] at hs
  induction vs generalizing cs with
  | nil=>grind[nF]
  | cons v r I =>
   simp only[List.all_cons,Bool.and_eq_true] at hs;simp only[nF] at g;obtain⟨c1,L,e,z,J⟩:=g;intro u f;rw[e] at f;rcases List.mem_append.1 f with f|f
   ·exact aUo hs.1 z u f
   ·have q:=hs.2; exact I (by assumption) (by assumption) u f
 all_goals grind[AV.solid,aUo]
def mkV(agg:Bool)(ds:List Value):Value:=if agg then .agg ds.toArray else ds.headD Go.undef
theorem bLG{c:Ctx}{w:World}{v:AV}{ds:List Value}(hs:v.solid=true)(z:aM c w v ds)(I:v.isAgg=false→ds.length=1):aY c w v (mkV v.isAgg ds):=by
 have J:=aQv hs z;have f:zK c w v (mkV v.isAgg ds):=by
  unfold mkV;cases L:v.isAgg
  ·have q:=I L
   match ds,q with
   | [u],_ =>
    have g:=J u (by simp);simp only[Bool.false_eq_true,if_false,List.headD_cons];refine⟨?_,(fun h=>by simp_all),(fun _ N e=>by subst e; exact g)⟩;have:u.cells.toList= [u]:=(by cases u<;>first|rfl|exact g.elim);simp_all
  ·simp only[if_true];exact⟨by grind[Value.cells],fun _=>⟨_,rfl⟩,fun h=>by simp_all⟩
 cases v<;>first|exact f|grind[AV.solid,AV.solid1]
section
variable {P:Program} {T:Tab} {M:Perm} {w0:World} {c:Ctx} {h:List Obj} {w:World}
theorem aIN{t:TypeId}{q:Ty}(g:aFe P T t q){v:AV}{ds:List Value}{b off:Nat}(hs:v.solid=true)(N:q.isAgg=v.isAgg)(J:q.cells=v.nc)(z:aM c w v ds)(hc:mY w b off ds) :
  ∃u,(loadVar t ⟨b,off,none⟩).run P w= .ok u w∧aY c w v u:=by
 have I:=aUm hs z;have L:v.isAgg=false→ds.length=1:=fun h0=>by
  rw[I,← J]; rw[h0] at N;cases q<;>simp_all[Ty.isAgg,Ty.cells]
 refine⟨mkV v.isAgg ds,?_,bLG hs z L⟩;unfold loadVar;rw[Sem.run_bind,aHU g,Result.andThen_ok,N];cases hb:v.isAgg
 ·match ds,L hb with
  | [u],_ =>
   have:=hc 0 u rfl;simp_all[Nat.add_zero,mkV,load,Sem.run]
 ·have f:=run_loadCells_list (P:=P) w ⟨b,off,none⟩ ds (fun j u O=>by rw[xS]; exact hc j u O);rw[I,← J] at f;simp[gI g,f,mkV]
theorem yH{b:Nat}{cells:Array Value}{e:TypeId}{fz:Nat×Nat}(hb:w.heap[b]? = some (.cells cells e fz)){pre ds post:List Value}(hc:cells.toList=pre++ds++post):mY w b pre.length ds:=by
 intro j v f;grind[World.cell?,aKK]
theorem aFf{b off:Nat}{cs pre ds post:List Value}(hc:mY w b off cs)(q:cs=pre++ds++post):mY w b (off+pre.length) ds:=by
 intro j v g;have f:j<ds.length:=by
  grind
 have:cs[pre.length+j]? = some v:=by
  grind
 have:=hc _ _ this;grind
theorem aUp:∀(t:Ty) (x:t.den) (k:Nat),aKi t x k= .junk∨ ∃f y,aKi t x k= .val f y
 | .pair a _,x,0=>.inr ⟨a,x.1,rfl⟩
 | .pair _ r,x,k+1=>aUp r x.2 k
 | .expr,x,0=>.inr ⟨_,_,rfl⟩
 | .expr,x,1=>.inr ⟨_,_,rfl⟩
 | .expr,x,2=>.inr ⟨_,_,rfl⟩
 | .expr,x,k+3=>.inl rfl
 | .bool,_,_=>.inl rfl
 | .u _,_,_=>.inl rfl
 | .i _,_,_=>.inl rfl
 | .str,_,_=>.inl rfl
 | .sl _,_,_=>.inl rfl
 | .unit,_,_=>.inl rfl
 | .arr _ _,_,_=>.inl rfl
 | .rp _,_,_=>.inl rfl
 | .clo _ _,_,_=>.inl rfl
 | .ifc _ _,_,_=>.inl rfl
 | .nili,_,_=>.inl rfl
 | .nilp,_,_=>.inl rfl
 | .nilf,_,_=>.inl rfl
theorem aGR{i:Nat}{p:List Step}{v:Value}(hv:aY c w (.ptr i p) v):i<c.n∧ ∃b,aU (c.hd i)=some b∧v= .pointer (some ⟨b,pT p,none⟩):=by
 obtain⟨g,_,f⟩:=hv;simp only[aM] at g;obtain⟨hi,b,hb,hc⟩:=g;refine⟨hi,b,hb,?_⟩;have f:=f rfl;simp_all[Value.cells,congrArg]
theorem aTT{t:Ty}{x:t.den}{v:Value}(hv:aY c w (.roa t x) v):∃b off ds,v= .pointer (some ⟨b,off,none⟩)∧c.S b∧bB w c.S t x ds∧mY w b off ds:=by
 obtain⟨g,_,f⟩:=hv;simp only[aM] at g;obtain⟨b,off,ds,hc,h⟩:=g;refine⟨b,off,ds,?_,h⟩;have f:=f rfl;simp_all[Value.cells,congrArg]
theorem aMf{i:Nat}{p:List Step}{b:Nat}(hi:i<c.n)(hb:aU (c.hd i)=some b):aY c w (.ptr i p) (.pointer (some ⟨b,pT p,none⟩)) :=
 ⟨⟨hi,b,hb,rfl⟩,(fun h=>by cases h),(fun _ f=>by simp)⟩
theorem aGS{t:Ty}{x:t.den}{b off:Nat}{ds:List Value}(hb:c.S b)(hd:bB w c.S t x ds)(hc:mY w b off ds):aY c w (.roa t x) (.pointer (some ⟨b,off,none⟩)) :=
 ⟨⟨b,off,ds,rfl,hb,hd,hc⟩,(fun h=>by cases h),(fun _ f=>by simp)⟩
theorem bF8{e:TypeId}{t:Ty}{xs:List t.den}{v:Value}{b:Nat}(O:aCl c w e t xs v)(hb:aU v=some b){k:Nat}(hk:k<xs.length) :
  ∃ds,bB w c.S t (xs.getD k t.zero) ds∧mY w b (k*t.cells) ds:=by
 obtain⟨I,z,_,f,Y,hl,q⟩:=O;obtain⟨L,hv⟩:=z;rcases hv with⟨rfl,h0⟩|⟨g,Z,U,rfl,_,hheap,hle,J,hsz,htake⟩
 ·omega
 ·simp[aU] at hb;subst hb;refine⟨f[k],?_,?_⟩
  ·simp_all
  ·obtain⟨pre,post,hf,hp⟩:=oT (t:=t) (css:=f) (fun j N=>bB.length _ _ _ (q j (by omega) N)) k (by omega);grind[List.append_assoc,List.take_append_drop,yH]
theorem bE4{i b k:Nat}{e:TypeId}{m:Mk}{t:Ty}{xs:List t.den}{v:AV}(I:aII c w i (.trh e m t xs k v))(hb:aU (c.hd i)=some b):∃ds,aM c w v ds∧mY w b (k*t.cells) ds:=by
 obtain⟨f,Bs,q⟩:=I;have hk:=q.kl;have hlc:=q.lc;have O:=q.lb;rcases q.row.2 with⟨_,h0⟩|⟨g,Z,Y,z,_,hheap,hle,L,hsz,htake⟩
 ·omega
 ·rw[z] at hb;simp[aU] at hb;subst hb;obtain⟨J,U⟩:=q.hv (by omega);refine⟨f[k],J,?_⟩;obtain⟨pre,post,hf,hp⟩:=oT (t:=t) (css:=f) (fun j N=>by
   by_cases e:j=k
   ·simp_all
   ·exact mD.length _ _ _ _ _ (q.el j (by omega) N (by omega) e)) k (by omega)
  grind[List.append_assoc,List.take_append_drop,yH]
theorem bDN(Y:mJ P T)(hg:Good M w0 c h w){t:TypeId}{av:AV}{v:Value}(hv:aY c w av v)(hc:(aKL T h t av).1) :
  ∃u,(Instr.loadAt t v).run P w= .ok u w∧aY c w (aKL T h t av).2 u:=by
 cases av with
 | roa g x =>
  simp only[aKL] at hc ⊢;obtain⟨b,off,ds,rfl,hb,hd,hcell⟩:=aTT hv;have hTy:=Y _ _ hc;obtain⟨u,hu,hr⟩:=aIN (v:=.val g x) (c:=c) hTy rfl rfl rfl hd hcell;grind[Instr.loadAt,Instr.sureAddr]
 | ptr i p =>
  obtain⟨hi,b,hb,rfl⟩:=aGR hv;simp only[aKL] at hc ⊢;cases U:h[i]? with
  | none=>simp_all
  | some o =>
   have q:=hg.objs i o U;cases o with
   | box nb v =>
    simp only[U] at hc ⊢;obtain⟨N,f,g,L,J,O⟩:=hc;obtain⟨b',cells,e,Z,hheap,hsz,hcr⟩:=q;rw[Z] at hb;simp[aU] at hb;subst hb;have I:(aA4 v p).2≠ .junk:=fun e=>(by rw[e] at f; cases f);obtain⟨pre,ds,post,e1,hp,hd⟩:=aOB p v _ hcr N I;obtain⟨u,hu,hr⟩:=aIN (Y _ _ L) f J O hd (yH hheap e1);grind[Instr.loadAt,Instr.sureAddr]
   | row e g xs =>
    simp only[U] at hc ⊢;cases p with
    | nil=>simp_all
    | cons s p =>
     cases s with
     | fld _ _=>simp_all
     | idx s k =>
      simp only at hc ⊢;obtain⟨hk,hs,N,f,c',L,J,O⟩:=hc;obtain⟨ds,z,hcell⟩:=bF8 q hb hk;have I:(aA4 (.val g (xs.getD k g.zero)) p).2≠ .junk:=fun e=>(by rw[e] at f; cases f);obtain⟨pre,ds',post,e1,hp,hd⟩:=aOB p (.val g (xs.getD k g.zero)) ds z N I;obtain⟨u,hu,hr⟩:=aIN (Y _ _ L) f J O hd (aFf hcell e1);grind[Instr.loadAt,Instr.sureAddr,pT,Step.off]
   | trh e m g xs kk v =>
    simp only[U] at hc ⊢;cases p with
    | nil=>simp_all
    | cons s p =>
     cases s with
     | fld _ _=>simp_all
     | idx s k =>
      simp only at hc ⊢;obtain⟨rfl,hs,N,f,c',L,J,O⟩:=hc;obtain⟨ds,z,hcell⟩:=bE4 q hb;have I:(aA4 v p).2≠ .junk:=fun e=>(by rw[e] at f; cases f);obtain⟨pre,ds',post,e1,hp,hd⟩:=aOB p v ds z N I;obtain⟨u,hu,hr⟩:=aIN (Y _ _ L) f J O hd (aFf hcell e1);grind[Instr.loadAt,Instr.sureAddr,pT,Step.off]
   | _=>simp_all
 | _=>exact hc.elim
theorem aUq:∀ {z:List Field} {off:Nat} {t:Ty} {k:Nat},eQ T z off t=true→aBo.fldT t k→ ∃f,z[k]? = some f∧f.offset=off+t.fieldOff k∧ ∃q,T f.type=some q∧0<q.cells∧(∀x,∃y,aKi t x k= .val q y)
 | [],off,.unit,k,_,J=>J.elim
 | f::z,off,.pair a r,0,g,_=>by
  simp only[eQ,Bool.and_eq_true,decide_eq_true_eq] at g;exact⟨f,rfl,by rw[g.1.1.1.2]; rfl,a,g.1.1.1.1,g.1.2,fun x=>⟨x.1,rfl⟩⟩
 | f::z,off,.pair a r,k+1,g,J=>by
  simp only[eQ,Bool.and_eq_true,decide_eq_true_eq] at g;obtain⟨L,O,N,q,I⟩:=aUq g.2 (show aBo.fldT r k from J);exact⟨L,by simp_all,by grind[Ty.fieldOff],q,I.1,I.2.1,fun x=>I.2.2 x.2⟩
 | [],_,.pair _ _,_,g,_=>by grind[eQ]
 | _::_,_,.unit,_,g,_=>by grind[eQ]
theorem aMg{s:TypeId}{q:Ty}(J:aFe P T s q){k:Nat}(ha:q.isAgg=true)(z:aBo.fldT q k) :
  ∃g f,P.underlying s=some (.struct g)∧g[k]? = some f∧f.offset=q.fieldOff k∧ ∃c',T f.type=some c'∧0<c'.cells∧(∀x,∃y,aKi q x k= .val c' y):=by
 obtain⟨d,hd,hb⟩:=J.desc;cases q<;>first|grind[Ty.isAgg]|skip
 all_goals (cases d<;>first|grind[jX]|simp only[jX] at hb)
 case unit.struct g=>exact z.elim
 case pair.struct a r g =>
  obtain⟨f,Z,Y,L⟩:=aUq hb z;simp_all
 case arr.array=>exact z.elim
 case expr.struct g =>
  unfold bDI at hb;split at hb
  ·rename_i U N O I;simp only[Bool.and_eq_true,decide_eq_true_eq] at hb;obtain⟨⟨⟨⟨⟨Z,Y⟩,L⟩,h4⟩,h5⟩,h6⟩:=hb;have z:k<3:=z;have hget:∀j,g[j]? = [U,N,O][j]? := fun j=>by rw[← I,Array.getElem?_toList]
   match k,z with
   | 0,_=>exact⟨g,U,hd,by simp_all,Y,.i .i64,Z,Nat.one_pos,fun x=>⟨_,rfl⟩⟩
   | 1,_=>exact⟨g,N,hd,by simp_all,h4,.str,L,Nat.one_pos,fun x=>⟨_,rfl⟩⟩
   | 2,_=>exact⟨g,O,hd,by simp_all,h6,.sl .expr,h5,Nat.one_pos,fun x=>⟨_,rfl⟩⟩
  grind
theorem bDO{t:Ty}:∀ {x:t.den} {k:Nat},aKi t x k≠ .junk→aBo.fldT t k:=by
 induction t with
 | pair a r _ f=>intro x k h; cases k with
  | zero=>trivial
  | succ k=>exact f h
 | expr=>intro x k h; match k with
  | 0=>exact(by omega:0<3)
  | 1=>exact(by omega:1<3)
  | 2=>exact(by omega:2<3)
  | k+3=>exact absurd rfl h
 | _=>intro x k h; exact absurd rfl h
theorem aKO{f:Field}{q:Ty}(g:aFe P T f.type q)(z:0<q.cells)(b off:Nat):(fieldPlace ⟨b,off,none⟩ f).run P w= .ok ⟨b,off+f.offset,none⟩ w:=by
 have:¬q.cells=0:=by omega
 simp[fieldPlace,gI g,this,Result.andThen,xS]
theorem aIO:∀(p q:List Step),pT (p++q)=pT p+pT q
 | [],q=>by simp[pT]
 | s::p,q=>by simp[pT,aIO p q]; omega
theorem bF9(J:mJ P T){s:TypeId}{av:AV}{v:Value}{k:Nat}(hv:aY c w av v)(hc:(aBo T s av k).1) :
  ∃u,(Instr.fieldAt s v k).run P w= .ok u w∧aY c w (aBo T s av k).2 u:=by
 cases av with
 | ptr i p =>
  obtain⟨hi,b,hb,rfl⟩:=aGR hv;simp only[aBo] at hc ⊢;cases ht:T s with
  | none=>simp_all
  | some q =>
   simp only[ht] at hc ⊢;obtain⟨fs,f,Z,Y,L,c',O,N,_⟩:=aMg (J _ _ ht) hc.1 hc.2;refine⟨.pointer (some ⟨b,pT (p++ [.fld (q.fieldOff k) k]),none⟩),?_,aMf hi hb⟩;have g:=aKO (w:=w) (J _ _ O) N b (pT p);simp[Instr.fieldAt,bE Z,Y,Instr.sureAddr,g,Result.andThen,aIO,pT,Step.off,L]
 | roa q x =>
  obtain⟨b,off,ds,rfl,hb,hd,hcell⟩:=aTT hv;simp only[aBo] at hc ⊢;rcases aUp q x k with hj|⟨f,y,hf⟩
  ·simp_all
  ·simp only[hf] at hc ⊢;have z:aKi q x k≠ .junk:=(by simp_all);have U:q.isAgg=true:=by
    cases q<;>first|rfl|exact absurd rfl z
   obtain⟨fs,fd,Z,Y,L,c',O,N,h6⟩:=aMg (J _ _ hc) U (bDO z);obtain⟨pre,ds',post,e,hp,I⟩:=aOA (c:=c) q x k ds hd z;rw[hf] at I;have hcell':=aFf hcell e;rw[hp] at hcell';refine⟨.pointer (some ⟨b,off+q.fieldOff k,none⟩),?_,aGS hb I hcell'⟩;have g:=aKO (w:=w) (J _ _ O) N b off;simp[Instr.fieldAt,bE Z,Y,Instr.sureAddr,g,Result.andThen,L]
 | _=>exact hc.elim
theorem bGa:∀ {t:Ty} {k:Nat} {c':Ty},t.fldTy k=some c'→aBo.fldT t k∧ ∀x:t.den,∃y,aKi t x k= .val c' y:=by
 intro t
 induction t with
 | pair a r _ q =>
  intro k c' h;cases k with
  | zero=>simp only[Ty.fldTy,Option.some.injEq] at h; subst h; exact⟨trivial,fun x=>⟨x.1,rfl⟩⟩
  | succ k=>obtain⟨g,f⟩:=q (show r.fldTy k=some c' from h); exact⟨g,fun x=>f x.2⟩
 | _=>grind[Ty.fldTy]
theorem bE5{t:TypeId}{q:Ty}(g:aFe P T t q){cs:Array Value}{pre ds post:List Value}(J:cs.toList=pre++ds++post){v:AV}(hs:v.solid1=true)(U:q.isAgg=v.isAgg)(N:q.cells=v.nc1)(hd:aM c w v ds)(w':World) :
  ∃u,(part t cs pre.length).run P w'= .ok u w'∧aY c w v u:=by
 have L:=aNw hs hd;have I:∀u:Value,zK c w v u→aY c w v u:=fun u h=>by cases v<;>first|exact h|grind[AV.solid1]
 by_cases z:q.isAgg=true
 ·refine⟨.agg (cs.extract pre.length (pre.length+q.cells)),?_,I _ ⟨?_,fun _=>⟨_,rfl⟩,fun h=>by simp_all⟩⟩
  ·simp[part,aHU g,z,gI g,Result.andThen]
  simp_all[Value.cells,bCo]
 ·have O:q.cells=1:=by cases q<;>simp_all[Ty.isAgg,Ty.cells]
  obtain⟨u,rfl⟩:∃u,ds= [u]:=by
   match ds,L.trans (N.symm.trans O) with
   | [u],_=>simp_all
  have f:=aQv (v:=v) (c:=c) (w:=w) (by cases v<;>first|exact hs|grind[AV.solid1]) hd u (by simp);refine⟨u,?_,I _ ⟨?_,fun h=>absurd (U.trans h) z,fun _ Y e=>by subst e; exact f.elim⟩⟩
  ·have:=aKK J 0 (v:=u) rfl;simp only[Nat.add_zero] at this;simp[part,aHU g,z,this]
  ·cases u<;>first|exact hd|exact f.elim
theorem bGb(N:mJ P T){s:TypeId}{av:AV}{v:Value}{k:Nat}(hv:aY c w av v)(hc:(aMb T s av k).1) :
  ∃u,(Instr.field s v k).run P w= .ok u w∧aY c w (aMb T s av k).2 u:=by
 cases av with
 | val z x =>
  simp only[aMb] at hc ⊢;obtain⟨ht,L⟩:=hc;have q:z.isAgg=true:=by cases z<;>first|rfl|exact absurd rfl L
  obtain⟨fs,fd,h1,h2,h3,c',Y,h5,O⟩:=aMg (N _ _ ht) q (bDO L);obtain⟨y,hy⟩:=O x;obtain⟨f,J,_⟩:=hv;obtain⟨cs,rfl⟩:=J q;simp only[aM,Value.cells] at f;obtain⟨pre,ds',post,e,hp,g⟩:=aOA (c:=c) z x k _ f L;rw[hy] at g ⊢;obtain⟨u,hu,hr⟩:=aFQ (N _ _ Y) e g w;simp_all[Instr.field,bE,asAgg,aY.ofV]
 | agg vs =>
  simp only[aMb] at hc ⊢;obtain⟨z,ht,hs,I,hoff,c',hf,ha,hn⟩:=hc;obtain⟨Z,U⟩:=bGa hf;have q:z.isAgg=true:=by cases z<;>first|rfl|grind[Ty.fldTy]
  obtain⟨fs,fd,h1,h2,h3,c'',Y,h5,O⟩:=aMg (N _ _ ht) q Z;obtain⟨y,hy⟩:=O z.zero;obtain⟨y',hy'⟩:=U z.zero;have ec:c''=c':=by simp_all
  subst ec;obtain⟨f,J,_⟩:=hv;obtain⟨cs,rfl⟩:=J rfl;have L:(eH (.agg vs) k).1≠ .junk:=fun e=>by rw[e] at I; cases I
  obtain⟨pre,ds',post,e,hp,g⟩:=aUn (c:=c) (.agg vs) k _ hs f L;simp only[Value.cells] at e;obtain⟨u,hu,hr⟩:=bE5 (N _ _ Y) e I ha hn g w;simp_all[Instr.field,bE,asAgg]
 | _=>exact hc.elim
end
end Go.Vc

