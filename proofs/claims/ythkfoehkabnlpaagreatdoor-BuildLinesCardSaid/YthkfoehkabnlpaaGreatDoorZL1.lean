import Derived.WalkKit
import Derived.Below
set_option linter.unusedVariables false
set_option linter.unusedSimpArgs false
namespace Go.Vc
open Go.RowKit
inductive Ex where
 | mk (kind:Int) (text:List Nat) (l:List Ex)
def Ex.kind:Ex→Int| .mk k _ _=>k
def Ex.text:Ex→List Nat| .mk _ t _=>t
def Ex.l:Ex→List Ex| .mk _ _ l=>l
inductive Ty where
 | bool|u (k:IntKind)|i (k:IntKind)|str|sl (t:Ty)|unit|pair (a b:Ty)|arr (n:Nat) (t:Ty)|expr|rp (t:Ty)|clo (g:FuncId) (t:Ty)|ifc (k:TypeId) (t:Ty)|nili|nilp|nilf
 deriving DecidableEq
@[reducible] def Ty.den:Ty→Type
 | .bool=>Bool
 | .u _=>Nat
 | .i _=>Int
 | .str=>List Nat
 | .sl t=>List t.den
 | .unit=>Unit
 | .pair a b=>a.den×b.den
 | .arr _ t=>List t.den
 | .expr=>Ex
 | .rp t=>t.den
 | .clo _ t=>t.den
 | .ifc _ t=>t.den
 | .nili=>Unit
 | .nilp=>Unit
 | .nilf=>Unit
def Ty.cells:Ty→Nat
 | .bool=>1
 | .u _=>1
 | .i _=>1
 | .str=>1
 | .sl _=>1
 | .unit=>0
 | .pair a b=>a.cells+b.cells
 | .arr n t=>n*t.cells
 | .expr=>3
 | .rp _=>1
 | .clo _ _=>1
 | .ifc _ _=>1
 | .nili=>1
 | .nilp=>1
 | .nilf=>1
def Ty.isAgg:Ty→Bool
 | .unit=>true
 | .pair _ _=>true
 | .arr _ _=>true
 | .expr=>true
 | _=>false
def Ty.zero:(t:Ty)→t.den
 | .bool=>false
 | .u _=>0
 | .i _=>0
 | .str=>[]
 | .sl _=>[]
 | .unit=>()
 | .pair a b=>(a.zero,b.zero)
 | .arr n t=>List.replicate n t.zero
 | .expr=>.mk 0 [] []
 | .rp t=>t.zero
 | .clo _ t=>t.zero
 | .ifc _ t=>t.zero
 | .nili=>()
 | .nilp=>()
 | .nilf=>()
def eI(s:ByteArray):List Nat:=s.data.toList.map (·.toNat)
def aY(w:World)(b off:Nat)(ds:List Value):Prop:=∀j v,ds[j]? = some v→w.cell? ⟨b,off+j,none⟩=some v
def SlR{α:Type}(w:World)(S:Nat→Prop)(R:α→List Value→Prop)(sz:Nat)(xs:List α)(a:Option Addr)(len cap:Nat):Prop :=
 xs.length=len∧len≤cap∧cap≤maxLen ∧
  (xs= []∨ ∃b off,a=some ⟨b,off,none⟩∧S b∧ ∀i (h:i<xs.length),∃ds,R xs[i] ds∧aY w b (off+i*sz) ds)
inductive RepEx(w:World)(S:Nat→Prop):Ex→List Value→Prop where
 | mk (k:Int) (s:ByteArray) (l:List Ex) (a:Option Addr) (len cap:Nat) (dss:Nat→List Value)
   (hk:IntKind.min .i64≤k∧k≤IntKind.max .i64) (hs:s.size≤maxLen) (hl:l.length=len) (hc:len≤cap) (hm:cap≤maxLen)
   (hr:∀i (h:i<l.length),RepEx w S l[i] (dss i))
   (ha:l= []∨ ∃b off,a=some ⟨b,off,none⟩∧S b∧ ∀i,i<l.length→aY w b (off+i*3) (dss i)) :
   RepEx w S (.mk k (eI s) l) [.int .i64 k,.string s,.slice a len cap]
def aJ(w:World)(S:Nat→Prop):(t:Ty)→t.den→List Value→Prop
 | .bool,x,I=>I= [.bool x]
 | .u k,x,I=>I= [.int k (x:Int)]∧k.signed=false∧(x:Int)≤k.max
 | .i k,x,I=>I= [.int k x]∧k.signed=true∧k.min≤x∧x≤k.max
 | .str,x,I=>∃s,I= [.string s]∧eI s=x∧s.size≤maxLen
 | .sl t,J,I=>∃a len cap,I= [.slice a len cap]∧SlR w S (aJ w S t) t.cells J a len cap
 | .unit,_,I=>I= []
 | .pair a b,x,I=>∃c1 c2,I=c1++c2∧aJ w S a x.1 c1∧aJ w S b x.2 c2
 | .arr n t,J,I=>J.length=n∧ ∃css:List (List Value),I=css.flatten∧css.length=J.length∧ ∀i (h:i<J.length) (h':i<css.length),aJ w S t J[i] css[i]
 | .expr,x,I=>RepEx w S x I
 | .rp t,x,I=>∃b off ds,I= [.pointer (some ⟨b,off,none⟩)]∧S b∧aJ w S t x ds∧aY w b off ds
 | .clo g t,x,I=>∃vs:List Value,I= [.func (.func g) #[] vs.toArray]∧aJ w S t x vs
 | .ifc k t,x,I=>∃v ds,I= [.iface k v]∧(t.isAgg=true→v= .agg ds.toArray)∧(t.isAgg=false→ds= [v])∧aJ w S t x ds
 | .nili,_,I=>I= [.nilIface]
 | .nilp,_,I=>I= [.pointer none]
 | .nilf,_,I=>I= [.nilFunc]
def bR(w:World)(S:Nat→Prop)(t:Ty)(x:t.den)(v:Value):Prop :=
 if t.isAgg=true then ∃cs,v= .agg cs∧aJ w S t x cs.toList else aJ w S t x [v]
def pZ(S:Nat→Prop)(w w':World):Prop:=∀b,S b→w'.heap[b]? = w.heap[b]?
theorem pZ.refl(S:Nat→Prop)(w:World):pZ S w w:=fun _ _=>rfl
theorem pZ.trans{S:Nat→Prop}{a b c:World}(h:pZ S a b)(k:pZ S b c):pZ S a c:=fun x I=>(k x I).trans (h x I)
theorem pZ.mono{S S':Nat→Prop}{w w':World}(h:pZ S w w')(I:∀b,S' b→S b):pZ S' w w':=fun b hb=>h b (I b hb)
theorem uS{S:Nat→Prop}{w w':World}(h:pZ S w w'){b off:Nat}(hb:S b){ds:List Value}(hc:aY w b off ds):aY w' b off ds:=fun j v I=>by
 rw[World.cell?_of_block (w:=w) (w':=w') (h b hb)]; exact hc j v I
theorem SlR.keep{α:Type}{w w':World}{S S':Nat→Prop}(hs:∀b,S b→S' b)(h:pZ S w w'){R I:α→List Value→Prop}(hR:∀x cs,R x cs→I x cs)
  {sz:Nat} {xs:List α} {a:Option Addr} {len cap:Nat} (U:SlR w S R sz xs a len cap):SlR w' S' I sz xs a len cap:=by
 obtain⟨Y,J,h3,N⟩:=U;refine⟨Y,J,h3,N.imp id ?_⟩;grind[uS]
theorem RepEx.keep{w w':World}{S S':Nat→Prop}(hs:∀b,S b→S' b)(h:pZ S w w'){e:Ex}{cs:List Value}(U:RepEx w S e cs):RepEx w' S' e cs:=by
 induction U with
 | mk k s l a len J N hk I hl hc Y U ha ih =>
  refine .mk k s l a len J N hk I hl hc Y ih (ha.imp id ?_);grind[uS]
theorem aJ.keep{w w':World}{S S':Nat→Prop}(J:∀b,S b→S' b)(h:pZ S w w'):∀(t:Ty) (x:t.den) (cs:List Value),aJ w S t x cs→aJ w' S' t x cs
 | .bool,_,_,I=>I
 | .u _,_,_,I=>I
 | .i _,_,_,I=>I
 | .str,_,_,I=>I
 | .sl t,_,_,⟨a,len,cap,hv,I⟩=>⟨a,len,cap,hv,I.keep J h (fun x cs=>aJ.keep J h t x cs)⟩
 | .unit,_,_,I=>I
 | .pair a b,_,_,⟨c1,c2,hc,U,N⟩=>⟨c1,c2,hc,aJ.keep J h a _ _ U,aJ.keep J h b _ _ N⟩
 | .arr _ t,_,_,⟨hn,Y,hc,hl,I⟩=>⟨hn,Y,hc,hl,fun i U N=>aJ.keep J h t _ _ (I i U N)⟩
 | .expr,_,_,I=>RepEx.keep J h I
 | .rp t,_,_,⟨b,off,ds,hc,hb,hd,hcell⟩=>⟨b,off,ds,hc,J b hb,aJ.keep J h t _ _ hd,uS h hb hcell⟩
 | .clo _ t,_,_,⟨vs,hc,hd⟩=>⟨vs,hc,aJ.keep J h t _ _ hd⟩
 | .ifc _ t,_,_,⟨v,ds,hc,U,N,hd⟩=>⟨v,ds,hc,U,N,aJ.keep J h t _ _ hd⟩
 | .nili,_,_,I=>I
 | .nilp,_,_,I=>I
 | .nilf,_,_,I=>I
theorem bR.keep{w w':World}{S S':Nat→Prop}(N:∀b,S b→S' b)(h:pZ S w w'){t:Ty}{x:t.den}{v:Value}(I:bR w S t x v):bR w' S' t x v:=by
 unfold bR at *;split
 ·rename_i J; simp only[J,if_true] at I; obtain⟨U,hv,hc⟩:=I; exact⟨U,hv,hc.keep N h⟩
 ·rename_i J; simp only[J] at I; exact I.keep N h
theorem fE{css:List (List Value)}{n:Nat}(h:∀i (h:i<css.length),(css[i]).length=n):css.flatten.length=css.length*n:=by
 induction css with
 | nil=>simp
 | cons c r I =>
  have J:=h 0 (by simp);have:=I (fun i hi=>by have:=h (i+1) (by simp_all); simp_all);grind
theorem aJ.length{w:World}{S:Nat→Prop}:∀(t:Ty) (x:t.den) (cs:List Value),aJ w S t x cs→cs.length=t.cells
 | .bool,_,_,I=>by cases I; rfl
 | .u _,_,_,I=>by cases I.1; rfl
 | .i _,_,_,I=>by cases I.1; rfl
 | .str,_,_,⟨s,hv,_⟩=>by subst hv; rfl
 | .sl t,_,_,⟨a,len,cap,hv,_⟩=>by subst hv; rfl
 | .unit,_,_,I=>by cases I; rfl
 | .pair a b,_,_,⟨c1,c2,hc,Y,U⟩=>by subst hc; simp only[List.length_append,aJ.length a _ _ Y,aJ.length b _ _ U,Ty.cells]
 | .arr n t,xs,_,⟨hn,J,hc,N,I⟩=>by
  subst hc;rw[fE (n:=t.cells) (fun i hi=>aJ.length t _ _ (I i (by omega) hi)),N,hn];rfl
 | .expr,_,_,I=>by cases I; rfl
 | .rp t,_,_,⟨b,off,ds,hc,_⟩=>by subst hc; rfl
 | .clo _ t,_,_,⟨vs,hc,_⟩=>by subst hc; rfl
 | .ifc _ t,_,_,⟨v,ds,hc,_⟩=>by subst hc; rfl
 | .nili,_,_,I=>by cases I; rfl
 | .nilp,_,_,I=>by cases I; rfl
 | .nilf,_,_,I=>by cases I; rfl
def one(v:Value):Prop:=match v with| .agg _| .tuple _=>False|_=>True
theorem aJ.one{w:World}{S:Nat→Prop}:∀(t:Ty) (x:t.den) (cs:List Value),aJ w S t x cs→ ∀v∈cs,one v
 | .bool,_,_,I=>by cases I; intro v hv; simp at hv; subst hv; trivial
 | .u _,_,_,I=>by cases I.1; intro v hv; simp at hv; subst hv; trivial
 | .i _,_,_,I=>by cases I.1; intro v hv; simp at hv; subst hv; trivial
 | .str,_,_,⟨s,hv,_⟩=>by subst hv; intro v hv; simp at hv; subst hv; trivial
 | .sl t,_,_,⟨a,len,cap,hv,_⟩=>by subst hv; intro v hv; simp at hv; subst hv; trivial
 | .unit,_,_,I=>by cases I; simp_all
 | .pair a b,_,_,⟨c1,c2,hc,Y,U⟩=>by
  subst hc;intro v hv;rcases List.mem_append.1 hv with hv|hv
  ·exact aJ.one a _ _ Y v hv
  ·exact aJ.one b _ _ U v hv
 | .arr n t,xs,_,⟨hn,N,hc,hl,I⟩=>by
  subst hc;intro v hv;obtain⟨c,J,hv⟩:=List.mem_flatten.1 hv;obtain⟨i,hi,rfl⟩:=List.mem_iff_getElem.1 J;exact aJ.one t _ _ (I i (by omega) hi) v hv
 | .expr,_,_,I=>by
  cases I;intro v hv;simp only[List.mem_cons,List.not_mem_nil,or_false] at hv;rcases hv with rfl|rfl|rfl<;>trivial
 | .rp t,_,_,⟨b,off,ds,hc,_⟩=>by subst hc; intro v hv; simp at hv; subst hv; trivial
 | .clo _ t,_,_,⟨vs,hc,_⟩=>by subst hc; intro v hv; simp at hv; subst hv; trivial
 | .ifc _ t,_,_,⟨v,ds,hc,_⟩=>by subst hc; intro v hv; simp at hv; subst hv; trivial
 | .nili,_,_,I=>by cases I; intro v hv; simp at hv; subst hv; trivial
 | .nilp,_,_,I=>by cases I; intro v hv; simp at hv; subst hv; trivial
 | .nilf,_,_,I=>by cases I; intro v hv; simp at hv; subst hv; trivial
theorem bR.cells{w:World}{S:Nat→Prop}{t:Ty}{x:t.den}{v:Value}(I:bR w S t x v):aJ w S t x v.cells.toList:=by
 unfold bR at I;split at I
 ·obtain⟨N,rfl,hc⟩:=I; exact hc
 ·have J:=aJ.one t x _ I v (by simp);cases v<;>first|exact J.elim|exact I
theorem bR.of_cells{w:World}{S:Nat→Prop}{t:Ty}{x:t.den}{v:Value}(N:t.isAgg=true→ ∃cs,v= .agg cs)(U:t.isAgg=false→ ∀cs,v≠ .agg cs)(J:aJ w S t x v.cells.toList):bR w S t x v:=by
 unfold bR;split
 ·rename_i I; obtain⟨cs,rfl⟩:=N I; exact⟨cs,rfl,J⟩
 ·rename_i I;have:=U (by simp_all);cases v<;>first|exact absurd rfl (this _)|exact J
end Go.Vc
namespace Go.Vc
open Go.RowKit
inductive Step where
 | fld (off k:Nat)
 | idx (size i:Nat)
def Step.off:Step→Nat
 | .fld o _=>o
 | .idx s i=>i*s
def gD:List Step→Nat
 | []=>0
 | s::r=>s.off+gD r
inductive AV where
 | junk
 | undef
 | val (t:Ty) (x:t.den)
 | nilS
 | nilP
 | full (t:Ty) (xs:List t.den)
 | own (i:Nat)
 | ptr (i:Nat) (p:List Step)
 | sub (i s off n:Nat)
 | roa (t:Ty) (x:t.den)
 | fn (f:FuncId) (first caps:List Nat)
 | mp (i:Nat)
 | flat (vs:List AV)
 | agg (vs:List AV)
 | tup (vs:List AV)
inductive Mk where
 | no
 | sl (e:TypeId) (m:Mk)
 | pair (a b:Mk)
 deriving DecidableEq
inductive Obj where
 | dead
 | box (n:Nat) (v:AV)
 | row (e:TypeId) (t:Ty) (xs:List t.den)
 | frz (t:Ty) (xs:List t.den)
 | map (k v:Ty) (m:List (k.den×v.den))
 | tre (e:TypeId) (m:Mk) (t:Ty) (xs:List t.den)
 | trh (e:TypeId) (m:Mk) (t:Ty) (xs:List t.den) (k:Nat) (v:AV)
structure Ctx where
 S:Nat→Prop
 hd:Nat→Value
 n:Nat
 bl:Nat→Nat→Prop
structure Ctx.le(c c':Ctx):Prop where
 S:∀b,c.S b→c'.S b
 n:c.n≤c'.n
 hd:∀i,i<c.n→c'.hd i=c.hd i
theorem Ctx.le.refl(c:Ctx):c.le c:=⟨fun _ h=>h,Nat.le_refl _,fun _ _=>rfl⟩
theorem Ctx.le.trans{a b c:Ctx}(h:a.le b)(k:b.le c):a.le c :=
 ⟨fun x I=>k.S x (h.S x I),Nat.le_trans h.n k.n,fun i hi=>(k.hd i (Nat.lt_of_lt_of_le hi h.n)).trans (h.hd i hi)⟩
def aH:Value→Option Nat
 | .pointer (some a)=>some a.block
 | .slice (some a) _ _=>some a.block
 | .map (some b)=>some b
 | _=>none
def AV.isAgg:AV→Bool
 | .val t _=>t.isAgg
 | .agg _=>true
 | .flat _=>true
 | _=>false
mutual
def aE(c:Ctx)(w:World):AV→List Value→Prop
 | .junk,_=>True
 | .undef,cs=>cs= [Go.undef]
 | .val t x,cs=>aJ w c.S t x cs
 | .nilS,cs=>cs= [.slice none 0 0]
 | .nilP,cs=>cs= [.pointer none]
 | .full t xs,cs=>∃a n,cs= [.slice a n n]∧SlR w c.S (aJ w c.S t) t.cells xs a n n
 | .own i,cs=>i<c.n∧cs= [c.hd i]∧one (c.hd i)
 | .ptr i p,cs=>i<c.n∧ ∃b,aH (c.hd i)=some b∧cs= [.pointer (some ⟨b,gD p,none⟩)]
 | .sub i s off n,cs=>i<c.n∧n≤maxLen∧ ∃b cap,aH (c.hd i)=some b∧cs= [.slice (some ⟨b,off*s,none⟩) n cap]
 | .roa t x,cs=>∃b off ds,cs= [.pointer (some ⟨b,off,none⟩)]∧c.S b∧aJ w c.S t x ds∧aY w b off ds
 | .fn f l1 l2,cs=>(∀i∈l1,i<c.n)∧(∀i∈l2,i<c.n)∧cs= [.func (.func f) (l1.map c.hd).toArray (l2.map c.hd).toArray]
 | .mp i,cs=>i<c.n∧cs= [c.hd i]∧one (c.hd i)
 | .flat vs,cs=>fP c w vs cs
 | .agg vs,cs=>fP c w vs cs
 | .tup _,_=>False
def fP(c:Ctx)(w:World):List AV→List Value→Prop
 | [],cs=>cs= []
 | v::r,cs=>∃c1 c2,cs=c1++c2∧aE c w v c1∧fP c w r c2
end
def mH(c:Ctx)(w:World)(v:AV)(x:Value):Prop :=
 aE c w v x.cells.toList∧(v.isAgg=true→ ∃cs,x= .agg cs)∧(v.isAgg=false→ ∀cs,x≠ .agg cs)
def aG(c:Ctx)(w:World):AV→Value→Prop
 | .junk,_=>True
 | .undef,x=>x=Go.undef
 | .tup I,x=>∃xs:List Value,x= .tuple xs.toArray∧xs.length=I.length∧ ∀i (h:i<I.length) (h':i<xs.length),mH c w I[i] xs[i]
 | v,x=>mH c w v x
mutual
theorem aE.keep{c c':Ctx}{w w':World}(hc:c.le c')(h:pZ c.S w w'):∀(v:AV) (cs:List Value),aE c w v cs→aE c' w' v cs
 | .junk,_,_=>by simp[aE]
 | .undef,_,hr=>by grind[aE]
 | .val t x,_,hr=>by simp only[aE] at *; exact aJ.keep hc.S h t x _ hr
 | .nilS,_,hr=>by grind[aE]
 | .nilP,_,hr=>by grind[aE]
 | .full t xs,_,hr=>by
  simp only[aE] at *;obtain⟨a,n,hv,hr⟩:=hr;exact⟨a,n,hv,hr.keep hc.S h (fun x cs=>aJ.keep hc.S h t x cs)⟩
 | .own i,_,hr=>by simp only[aE] at *; exact⟨Nat.lt_of_lt_of_le hr.1 hc.n,by rw[hc.hd i hr.1]; grind⟩
 | .ptr i p,_,hr=>by
  simp only[aE] at *;obtain⟨hi,b,hb,hv⟩:=hr;exact⟨Nat.lt_of_lt_of_le hi hc.n,b,by rw[hc.hd i hi]; exact hb,hv⟩
 | .sub i s off n,_,hr=>by
  simp only[aE] at *;obtain⟨hi,hn,b,cap,hb,hv⟩:=hr;exact⟨Nat.lt_of_lt_of_le hi hc.n,hn,b,cap,by rw[hc.hd i hi]; exact hb,hv⟩
 | .roa t x,_,hr=>by
  simp only[aE] at *;obtain⟨b,off,ds,hv,hb,hd,hcell⟩:=hr;exact⟨b,off,ds,hv,hc.S b hb,aJ.keep hc.S h t x _ hd,uS h hb hcell⟩
 | .fn f l1 l2,_,hr=>by
  simp only[aE] at *;obtain⟨h1,h2,hv⟩:=hr;refine⟨fun i hi=>Nat.lt_of_lt_of_le (h1 i hi) hc.n,fun i hi=>Nat.lt_of_lt_of_le (h2 i hi) hc.n,?_⟩;rw[List.map_congr_left (fun i hi=>hc.hd i (h1 i hi)),List.map_congr_left (fun i hi=>hc.hd i (h2 i hi))];exact hv
 | .mp i,_,hr=>by simp only[aE] at *; exact⟨Nat.lt_of_lt_of_le hr.1 hc.n,by rw[hc.hd i hr.1]; grind⟩
 | .flat vs,_,hr=>by simp only[aE] at *; exact fP.keep hc h vs _ hr
 | .agg vs,_,hr=>by simp only[aE] at *; exact fP.keep hc h vs _ hr
 | .tup _,_,hr=>by grind[aE]
theorem fP.keep{c c':Ctx}{w w':World}(hc:c.le c')(h:pZ c.S w w'):∀(vs:List AV) (cs:List Value),fP c w vs cs→fP c' w' vs cs
 | [],_,hr=>by grind[fP]
 | v::r,_,hr=>by
  simp only[fP] at *;obtain⟨c1,c2,hcs,h1,h2⟩:=hr;exact⟨c1,c2,hcs,aE.keep hc h v _ h1,fP.keep hc h r _ h2⟩
end
theorem mH.keep{c c':Ctx}{w w':World}(hc:c.le c')(h:pZ c.S w w'){v:AV}{x:Value}(I:mH c w v x):mH c' w' v x :=
 ⟨aE.keep hc h _ _ I.1,I.2⟩
theorem aG.keep{c c':Ctx}{w w':World}(hc:c.le c')(h:pZ c.S w w'){v:AV}{x:Value}(I:aG c w v x):aG c' w' v x:=by
 cases v<;>simp only[aG] at *
 case tup vs =>
  obtain⟨Y,hx,J,hv⟩:=I;exact⟨Y,hx,J,fun i U N=>(hv i U N).keep hc h⟩
 all_goals first|exact I|exact I.keep hc h
def uD(c:Ctx)(w:World)(e:TypeId)(t:Ty)(xs:List t.den)(v:Value):Prop :=
 ∃I:List Value,w.ownsRow 0 e t.cells v xs.length I∧aJ w c.S (.arr xs.length t) xs I
def aW8(n s:Nat)(e:TypeId):Prop:=s=n∨(s=2∧n=4294967296+e)
def aPQ:Ty→Bool
 | .nilp=>true
 | _=>false
def aHT:Ty→Bool
 | .sl _=>true
 | _=>false
def aLv:Ty→Bool
 | .unit=>true
 | _=>false
def aPR:Ty→Bool
 | .pair b u=>aHT b&&aLv u
 | _=>false
def aHU:Ty→Bool
 | .pair a r=>aPQ a&&aPR r
 | _=>false
def bxN(t:TypeId)(I:Ty):Nat:=bif aHU I then 4294967296+t else I.cells
def aBd(I:Ty):AV:=bif aHU I then .agg [.nilP,.nilS] else bif aHT I then .nilS else .val I I.zero
theorem aT2{I:Ty}(h:aHT I=true):∃b,I= .sl b:=by
 unfold aHT at h;grind
theorem aNz{Y:Ty}(h:aHU Y=true):∃b,Y= .pair .nilp (.pair (.sl b) .unit):=by
 unfold aHU at h;split at h
 ·rename_i a r;simp only[Bool.and_eq_true] at h;obtain⟨N,I⟩:=h;unfold aPQ at N;split at N
  ·unfold aPR at I;split at I
   ·rename_i b u;simp only[Bool.and_eq_true] at I;obtain⟨U,J⟩:=I;unfold aHT at U;split at U
    ·unfold aLv at J;split at J
     all_goals simp_all
    grind
   grind
  grind
 grind
theorem aT3(t:TypeId)(I:Ty):aW8 (bxN t I) I.cells t:=by
 unfold bxN;cases h:aHU I with
 | false=>exact .inl rfl
 | true =>
  obtain⟨b,rfl⟩:=aNz h;exact .inr ⟨rfl,rfl⟩
def hdB(v:Value):List Nat:=match aH v with
 | some b=>[b]
 | none=>[]
def fQ(w:World)(S:Nat→Prop):(t:Ty)→Mk→t.den→List Value→List Nat→Prop
 | .sl t,.sl e m,J,I,B=>∃(v:Value) (css:List (List Value)) (N:List (List Nat)),I= [v]∧w.ownsRow 0 e t.cells v J.length css.flatten∧css.length=J.length∧N.length=J.length∧B=hdB v++N.flatten∧ ∀i (h:i<J.length) (h1:i<css.length) (h2:i<N.length),fQ w S t m J[i] css[i] N[i]
 | .pair a r,.pair Y mr,x,I,B=>∃(c1 c2:List Value) (B1 U:List Nat),I=c1++c2∧B=B1++U∧fQ w S a Y x.1 c1 B1∧fQ w S r mr x.2 c2 U
 | t,.no,x,I,B=>aJ w S t x I∧B= []
 | _,_,_,_,_=>False
structure aQ7(c:Ctx)(w:World)(i:Nat)(e:TypeId)(m:Mk)(t:Ty)(xs:List t.den)(k:Nat)(v:AV)(css:List (List Value))(Bs:List (List Nat)):Prop where
 row:w.ownsRow 0 e t.cells (c.hd i) xs.length css.flatten
 lc:css.length=xs.length
 lb:Bs.length=xs.length
 kl:k<xs.length
 el:∀j (h:j<xs.length) (h1:j<css.length) (h2:j<Bs.length),j≠k→fQ w c.S t m xs[j] css[j] Bs[j]
 hb:∀(h2:k<Bs.length),Bs[k]= []
 hv:∀(h1:k<css.length),aE c w v css[k]∧css[k].length=t.cells
 nd:(hdB (c.hd i)++Bs.flatten).Nodup
 bl:∀b∈hdB (c.hd i)++Bs.flatten,c.bl i b
def zL(c:Ctx)(w:World)(i:Nat):Obj→Prop
 | .dead=>True
 | .box n v=>∃b cells e,c.hd i= .pointer (some ⟨b,0,none⟩)∧w.heap[b]? = some (.cells cells e (0,0))∧aW8 n cells.size e∧aE c w v cells.toList
 | .row e t I=>uD c w e t I (c.hd i)
 | .frz t I=>aJ w c.S (.sl t) I [c.hd i]
 | .map k v m=>∃b J clock,c.hd i= .map (some b)∧w.heap[b]? = some (.map J clock)∧J.size=m.length ∧
   ∀j (h:j<m.length) (h':j<J.size),bR w c.S k m[j].1 J[j].key∧bR w c.S v m[j].2 J[j].val
 | .tre e m t I=>∃B,fQ w c.S (.sl t) (.sl e m) I [c.hd i] B∧B.Nodup∧ ∀b∈B,c.bl i b
 | .trh e m t I k v=>∃css N,aQ7 c w i e m t I k v css N
def cM(c:Ctx)(i:Nat):Obj→Nat→Prop
 | .dead,_=>False
 | .frz _ _,_=>False
 | .box _ _,b=>aH (c.hd i)=some b
 | .row _ _ _,b=>aH (c.hd i)=some b
 | .map _ _ _,b=>aH (c.hd i)=some b
 | .tre _ _ _ _,b=>c.bl i b
 | .trh _ _ _ _ _ _,b=>c.bl i b
structure bG(M:Nat→Prop)(w0 w:World):Prop where
 os:w.os=w0.os
 tape:w.tape=w0.tape
 output:w.output=w0.output
 size:w0.heap.size≤w.heap.size
 block:∀b,b<w0.heap.size→ ¬M b→w.heap[b]? = w0.heap[b]?
theorem bG.refl(M:Nat→Prop)(w:World):bG M w w:=⟨rfl,rfl,rfl,Nat.le_refl _,fun _ _ _=>rfl⟩
theorem bG.trans{M:Nat→Prop}{a b c:World}(h:bG M a b)(k:bG M b c):bG M a c :=
 ⟨k.os.trans h.os,k.tape.trans h.tape,k.output.trans h.output,Nat.le_trans h.size k.size,fun i hi I=>(k.block i (Nat.lt_of_lt_of_le hi h.size) I).trans (h.block i hi I)⟩
theorem bG.below{w0 w:World}(h:bG (fun _=>False) w0 w):Below w0.heap.size w0 w:=⟨h.os,h.tape,h.output,h.size,fun k I=>h.block k I (fun f=>f)⟩
structure Perm where
 wr:Nat→Prop
 rd:Nat→Prop
 m:Nat
 roots:Nat→Value
structure Good(M:Perm)(w0:World)(c:Ctx)(h:List Obj)(w:World):Prop where
 n:c.n=h.length
 keeps:bG M.wr w0 w
 sfin:∀b,c.S b→b<w.heap.size
 src:∀b,c.S b→b<w0.heap.size→M.rd b∨M.wr b
 objs:∀i o,h[i]? = some o→zL c w i o
 own:∀i o b,h[i]? = some o→cM c i o b→(w0.heap.size≤b∨M.wr b)∧b<w.heap.size∧ ¬c.S b
 sep:∀i j oi oj b,h[i]? = some oi→h[j]? = some oj→cM c i oi b→cM c j oj b→i=j
 root:M.m≤c.n∧ ∀i,i<M.m→c.hd i=M.roots i
theorem sN{M:Perm}{c c':Ctx}(h:M.m≤c.n∧ ∀i,i<M.m→c.hd i=M.roots i)(I:c.le c'):M.m≤c'.n∧ ∀i,i<M.m→c'.hd i=M.roots i :=
 ⟨Nat.le_trans h.1 I.n,fun i hi=>(I.hd i (Nat.lt_of_lt_of_le hi h.1)).trans (h.2 i hi)⟩
structure bW(c:Ctx)(w:World)(c':Ctx)(w':World):Prop where
 le:c.le c'
 same:pZ c.S w w'
theorem bW.refl(c:Ctx)(w:World):bW c w c w:=⟨.refl _,.refl _ _⟩
theorem bW.trans{c1 c2 J:Ctx}{w1 w2 I:World}(h:bW c1 w1 c2 w2)(k:bW c2 w2 J I):bW c1 w1 J I :=
 ⟨h.le.trans k.le,h.same.trans (k.same.mono h.le.S)⟩
theorem bW.val{c c':Ctx}{w w':World}(h:bW c w c' w'){v:AV}{x:Value}(I:aG c w v x):aG c' w' v x:=I.keep h.le h.same
def look:List (Nat×AV)→Nat→AV
 | [],_=>.junk
 | (k,v)::r,t=>if k=t then v else look r t
def aA4(c:Ctx)(w:World)(env:List (Nat×AV))(tmps:Array Value):Prop:=∀t,aG c w (look env t) (tmps.getD t Go.undef)
theorem aA4.keep{c c':Ctx}{w w':World}(h:bW c w c' w'){env:List (Nat×AV)}{tmps:Array Value}(I:aA4 c w env tmps):aA4 c' w' env tmps :=
 fun t=>h.val (I t)
theorem aA4.put{c:Ctx}{w:World}{env:List (Nat×AV)}{a:Act}{d:Nat}{v:AV}{x:Value}(I:aA4 c w env a.tmps)(hd:d<a.tmps.size)(J:aG c w v x) :
  aA4 c w ((d,v)::env) (a.put (some d) x).tmps:=by
 intro t;simp only[look,Act.put];by_cases h:d=t
 ·simp_all
 ·rw[if_neg h];have:=I t;simp_all
def rowOf(h:List Obj)(i:Nat)(t:Ty):Option (List t.den) :=
 match h[i]? with
 | some (.row _ I J)=>if e:I=t then some (e▸J) else none
 | some (.frz I J)=>if e:I=t then some (e▸J) else none
 | some (.tre _ _ I J)=>if e:I=t then some (e▸J) else none
 | _=>none
end Go.Vc
namespace Go.Vc
open Go.RowKit
def eM(k:IntKind):Nat:=2^k.bits
def fits(k:IntKind)(x:Int):Prop:=k.min≤x∧x≤k.max
theorem aPS{k:IntKind}(I:k.signed=false)(n:Int):k.wrap n=n%(eM k:Int):=by
 grind[IntKind.signed,IntKind.wrap,IntKind.bits,eM]
theorem qC{k:IntKind}(I:k.signed=false)(n:Nat):k.wrap (n:Int)=((n%eM k:Nat):Int):=by
 grind[aPS]
theorem aQ8{k:IntKind}(I:k.signed=false):k.max=(eM k:Int)-1:=by
 grind[IntKind.signed,IntKind.max,IntKind.bits,eM]
theorem vZ(k:IntKind):0<eM k:=by grind[eM,Nat.two_pow_pos]
theorem aT4{k:IntKind}(I:k.signed=false){n:Nat}(h:n<eM k):(n:Int)≤k.max:=by grind[aQ8]
theorem aF5{k:IntKind}(I:k.signed=false){n:Nat}(h:(n:Int)≤k.max):n<eM k:=by grind[aQ8]
theorem zM{k:IntKind}(N:k.signed=true){n:Int}(h:fits k n):k.wrap n=n:=by
 obtain⟨I,J⟩:=h;cases k<;>simp[IntKind.signed] at N<;>simp[IntKind.min,IntKind.max,IntKind.signed,IntKind.bits] at I J<;>simp[IntKind.wrap,IntKind.signed,IntKind.bits]<;>split<;>omega
theorem vQ{k:IntKind}(I:k.signed=true)(n:Int):fits k (k.wrap n):=by
 cases k<;>simp[IntKind.signed] at I<;>simp[fits,IntKind.min,IntKind.max,IntKind.wrap,IntKind.signed,IntKind.bits]<;>split<;>omega
section
variable {w:World} {S:Nat→Prop} {c:Ctx}
theorem aCw{k:IntKind}(I:k.signed=false){n:Nat}(h:n<eM k):aG c w (.val (.u k) n) (.int k n) :=
 ⟨⟨rfl,I,aT4 I h⟩,(fun h=>by cases h),(fun _ J=>by simp)⟩
theorem rT{k:IntKind}(I:k.signed=true){n:Int}(h:fits k n):aG c w (.val (.i k) n) (.int k n) :=
 ⟨⟨rfl,I,h.1,h.2⟩,(fun h=>by cases h),(fun _ J=>by simp)⟩
theorem wA(b:Bool):aG c w (.val .bool b) (.bool b):=⟨rfl,(fun h=>by cases h),(fun _ I=>by simp)⟩
theorem aW9{s:ByteArray}(h:s.size≤maxLen):aG c w (.val .str (eI s)) (.string s):=⟨⟨s,rfl,rfl,h⟩,(fun h=>by cases h),(fun _ I=>by simp)⟩
theorem aCA{k:IntKind}{n:Nat}{v:Value}(h:aG c w (.val (.u k) n) v):v= .int k n∧k.signed=false∧n<eM k:=by
 obtain⟨⟨J,N,U⟩,_,I⟩:=h;have I:=I rfl;cases v<;>simp[Value.cells] at J I
 obtain⟨rfl,rfl⟩:=J;exact⟨rfl,N,aF5 N U⟩
theorem yG{k:IntKind}{n:Int}{v:Value}(h:aG c w (.val (.i k) n) v):v= .int k n∧k.signed=true∧fits k n:=by
 obtain⟨⟨J,N,U⟩,_,I⟩:=h;have I:=I rfl;cases v<;>simp[Value.cells] at J I
 obtain⟨rfl,rfl⟩:=J;exact⟨rfl,N,U⟩
theorem yH{b:Bool}{v:Value}(h:aG c w (.val .bool b) v):v= .bool b:=by
 obtain⟨J,_,I⟩:=h;have I:=I rfl;simp_all[aE,aJ,Value.cells]
theorem aF6{x:List Nat}{v:Value}(h:aG c w (.val .str x) v):∃s,v= .string s∧eI s=x∧s.size≤maxLen:=by
 obtain⟨⟨s,J,N⟩,_,I⟩:=h;have I:=I rfl;cases v<;>simp[Value.cells] at J I
 simp_all
end
theorem aQ9:∃f:IntKind→Nat→Nat→Nat,∀k a b,f k a b=(a+(eM k-b))%eM k:=⟨_,fun _ _ _=>rfl⟩
noncomputable def aA5:IntKind→Nat→Nat→Nat:=Classical.choose aQ9
theorem aB7(k:IntKind)(a b:Nat):aA5 k a b=(a+(eM k-b))%eM k:=Classical.choose_spec aQ9 k a b
theorem aRa:∃f:IntKind→Nat→Nat→Nat,∀k a b,f k a b=(a*b)%eM k:=⟨_,fun _ _ _=>rfl⟩
noncomputable def zN:IntKind→Nat→Nat→Nat:=Classical.choose aRa
theorem aLw(k:IntKind)(a b:Nat):zN k a b=(a*b)%eM k:=Classical.choose_spec aRa k a b
theorem aRb:∃f:IntKind→Nat→Nat,∀k a,f k a=(0+(eM k-a))%eM k:=⟨_,fun _ _=>rfl⟩
noncomputable def aNA:IntKind→Nat→Nat:=Classical.choose aRb
theorem aLx(k:IntKind)(a:Nat):aNA k a=(0+(eM k-a))%eM k:=Classical.choose_spec aRb k a
noncomputable def aLy(op:BinOp)(k:IntKind)(a b:Nat):Prop×AV :=
 match op with
 | .add=>(True,.val (.u k) ((a+b)%eM k))
 | .sub=>(True,.val (.u k) (aA5 k a b))
 | .mul=>(True,.val (.u k) (zN k a b))
 | .quo=>(b≠0,.val (.u k) (a/b))
 | .rem=>(b≠0,.val (.u k) (a%b))
 | .and=>(True,.val (.u k) (a&&&b))
 | .or=>(True,.val (.u k) (a|||b))
 | .xor=>(True,.val (.u k) (a^^^b))
 | .andNot=>(True,.val (.u k) (a&&&(eM k-1-b)))
 | .eql=>(True,.val .bool (decide (a=b)))
 | .neq=>(True,.val .bool (!decide (a=b)))
 | .lss=>(True,.val .bool (decide (a<b)))
 | .leq=>(True,.val .bool (decide (a≤b)))
 | .gtr=>(True,.val .bool (decide (b<a)))
 | .geq=>(True,.val .bool (decide (b≤a)))
 | _=>(False,.junk)
def aHV(op:BinOp)(k:IntKind)(a b:Int):Prop×AV :=
 match op with
 | .add=>(fits k (a+b),.val (.i k) (a+b))
 | .sub=>(fits k (a-b),.val (.i k) (a-b))
 | .mul=>(fits k (a*b),.val (.i k) (a*b))
 | .quo=>(b≠0∧fits k (a.tdiv b),.val (.i k) (a.tdiv b))
 | .rem=>(b≠0,.val (.i k) (a.tmod b))
 | .and=>(True,.val (.i k) (k.wrap ((BitVec.ofInt k.bits a&&&BitVec.ofInt k.bits b).toNat:Int)))
 | .or=>(True,.val (.i k) (k.wrap ((BitVec.ofInt k.bits a|||BitVec.ofInt k.bits b).toNat:Int)))
 | .xor=>(True,.val (.i k) (k.wrap ((BitVec.ofInt k.bits a^^^BitVec.ofInt k.bits b).toNat:Int)))
 | .eql=>(True,.val .bool (decide (a=b)))
 | .neq=>(True,.val .bool (!decide (a=b)))
 | .lss=>(True,.val .bool (decide (a<b)))
 | .leq=>(True,.val .bool (decide (a≤b)))
 | .gtr=>(True,.val .bool (decide (b<a)))
 | .geq=>(True,.val .bool (decide (b≤a)))
 | _=>(False,.junk)
def aDH:List Nat→List Nat→Bool
 | _,[]=>false
 | [],_::_=>true
 | a::x,b::y=>decide (a<b)||(decide (a=b)&&aDH x y)
def aLz(op:BinOp)(a b:List Nat):Prop×AV :=
 match op with
 | .add=>(a.length+b.length≤maxLen,.val .str (a++b))
 | .eql=>(True,.val .bool (decide (a=b)))
 | .neq=>(True,.val .bool (!decide (a=b)))
 | .lss=>(True,.val .bool (aDH a b))
 | .leq=>(True,.val .bool (aDH a b||decide (a=b)))
 | .gtr=>(True,.val .bool (!(aDH a b||decide (a=b))))
 | .geq=>(True,.val .bool (!aDH a b))
 | _=>(False,.junk)
def aXa(op:BinOp)(a b:Bool):Prop×AV :=
 match op with
 | .eql=>(True,.val .bool (a == b))
 | .neq=>(True,.val .bool (a != b))
 | _=>(False,.junk)
def shU(op:BinOp)(k:IntKind)(a n:Nat):Prop×AV :=
 match op with
 | .shl=>(True,.val (.u k) ((a*2^n)%eM k))
 | .shr=>(True,.val (.u k) (a/2^n))
 | _=>(False,.junk)
def shI(op:BinOp)(k:IntKind)(a:Int)(n:Nat):Prop×AV :=
 match op with
 | .shl=>(fits k (a*2^n),.val (.i k) (a*2^n))
 | .shr=>(True,.val (.i k) (a.fdiv (2^n)))
 | _=>(False,.junk)
section
variable {P:Program} {w:World} {c:Ctx}
theorem pH{k:IntKind}{a:Nat}(I:a<eM k):(BitVec.ofInt k.bits (a:Int)).toNat=a:=by
 simp only[BitVec.ofInt_natCast,BitVec.toNat_ofNat];exact Nat.mod_eq_of_lt I
theorem aLA(op:BinOp)(t:TypeId){k:IntKind}{a b:Nat}(I:k.signed=false)(J:a<eM k)(hb:b<eM k)(h:(aLy op k a b).1) :
  ∃v,(binOp op t (.int k a) (.int k b)).run P w= .ok v w∧aG c w (aLy op k a b).2 v:=by
 have hp:=vZ k;cases op<;>simp only[aLy] at h ⊢
 case add=>exact⟨.int k (((a+b)%eM k:Nat):Int),by simp only[binOp,Op.intArith,ne_eq,not_true_eq_false,if_false]; rw[← qC I]; rfl,aCw I (Nat.mod_lt _ hp)⟩
 case sub =>
  rw[aB7];refine⟨_,by simp only[binOp,Op.intArith,ne_eq,not_true_eq_false,if_false]; rfl,?_⟩;rw[aPS I,show ((a:Int)-b)%(eM k:Int)=(((a+(eM k-b))%eM k:Nat):Int) from by
   rw[Int.natCast_emod,Int.natCast_add,Int.ofNat_sub (by omega),show (a:Int)+((eM k:Int)-b)=(a-b)+eM k from by omega,Int.add_emod_right]]
  exact aCw I (Nat.mod_lt _ hp)
 case mul=>rw[aLw]; exact⟨.int k (((a*b)%eM k:Nat):Int),by simp only[binOp,Op.intArith,ne_eq,not_true_eq_false,if_false]; rw[← qC I,Int.natCast_mul]; rfl,aCw I (Nat.mod_lt _ hp)⟩
 case quo =>
  have N:¬(b:Int)=0:=by omega
  refine⟨.int k ((a/b:Nat):Int),?_,aCw I (Nat.lt_of_le_of_lt (Nat.div_le_self _ _) J)⟩;have e:k.wrap ((a:Int).tdiv b)=((a/b:Nat):Int):=by
   rw[show (a:Int).tdiv b=((a/b:Nat):Int) from by rfl,qC I,Nat.mod_eq_of_lt (Nat.lt_of_le_of_lt (Nat.div_le_self _ _) J)]
  simp only[binOp,Op.intDiv,N,e,ne_eq,not_true_eq_false,if_false]; rfl
 case rem =>
  have N:¬(b:Int)=0:=by omega
  refine⟨.int k ((a%b:Nat):Int),?_,aCw I (Nat.lt_of_le_of_lt (Nat.mod_le _ _) J)⟩;have e:(a:Int).tmod b=((a%b:Nat):Int):=by rfl
  simp only[binOp,Op.intDiv,N,e,ne_eq,not_true_eq_false,if_false]; rfl
 case and =>
  have e:k.wrap ((BitVec.ofInt k.bits (a:Int)&&&BitVec.ofInt k.bits (b:Int)).toNat:Int)=((a&&&b:Nat):Int):=by
   rw[BitVec.toNat_and,pH J,pH hb,qC I,Nat.mod_eq_of_lt (Nat.lt_of_le_of_lt Nat.and_le_left J)]
  exact⟨_,by simp only[binOp,Op.intBits,ne_eq,not_true_eq_false,if_false,e]; rfl,aCw I (Nat.lt_of_le_of_lt Nat.and_le_left J)⟩
 case or =>
  have U:a|||b<eM k:=Nat.or_lt_two_pow J hb
  have e:k.wrap ((BitVec.ofInt k.bits (a:Int)|||BitVec.ofInt k.bits (b:Int)).toNat:Int)=((a|||b:Nat):Int):=by
   grind[BitVec.toNat_or,pH,qC,Nat.mod_eq_of_lt]
  exact⟨_,by simp only[binOp,Op.intBits,ne_eq,not_true_eq_false,if_false,e]; rfl,aCw I U⟩
 case xor =>
  have U:a^^^b<eM k:=Nat.xor_lt_two_pow J hb;have e:k.wrap ((BitVec.ofInt k.bits (a:Int)^^^BitVec.ofInt k.bits (b:Int)).toNat:Int)=((a^^^b:Nat):Int):=by
   grind[BitVec.toNat_xor,pH,qC,Nat.mod_eq_of_lt]
  exact⟨_,by simp only[binOp,Op.intBits,ne_eq,not_true_eq_false,if_false,e]; rfl,aCw I U⟩
 case andNot =>
  have e:k.wrap ((BitVec.ofInt k.bits (a:Int)&&& ~~~ BitVec.ofInt k.bits (b:Int)).toNat:Int)=((a&&&(eM k-1-b):Nat):Int):=by
   rw[BitVec.toNat_and,BitVec.toNat_not,pH J,pH hb,qC I];rw[Nat.mod_eq_of_lt (Nat.lt_of_le_of_lt Nat.and_le_left J)];rfl
  exact⟨_,by simp only[binOp,Op.intBits,ne_eq,not_true_eq_false,if_false,e]; rfl,aCw I (Nat.lt_of_le_of_lt Nat.and_le_left J)⟩
 case eql=>exact⟨.bool (decide (a=b)),by simp[binOp,Op.intCmp]; grind,wA _⟩
 case neq=>exact⟨.bool (!decide (a=b)),by simp[binOp,Op.intCmp]; grind,wA _⟩
 case lss=>exact⟨.bool (decide (a<b)),by simp[binOp,Op.intCmp],wA _⟩
 case leq=>exact⟨.bool (decide (a≤b)),by simp[binOp,Op.intCmp],wA _⟩
 case gtr=>exact⟨.bool (decide (b<a)),by simp[binOp,Op.intCmp],wA _⟩
 case geq=>exact⟨.bool (decide (b≤a)),by simp[binOp,Op.intCmp],wA _⟩
theorem aXb(op:BinOp)(t:TypeId){k:IntKind}{a b:Int}(I:k.signed=true)(J:fits k a)(hb:fits k b)(h:(aHV op k a b).1) :
  ∃v,(binOp op t (.int k a) (.int k b)).run P w= .ok v w∧aG c w (aHV op k a b).2 v:=by
 cases op<;>simp only[aHV] at h ⊢
 case add=>exact⟨_,by simp only[binOp,Op.intArith,ne_eq,not_true_eq_false,if_false,zM I h]; rfl,rT I h⟩
 case sub=>exact⟨_,by simp only[binOp,Op.intArith,ne_eq,not_true_eq_false,if_false,zM I h]; rfl,rT I h⟩
 case mul=>exact⟨_,by simp only[binOp,Op.intArith,ne_eq,not_true_eq_false,if_false,zM I h]; rfl,rT I h⟩
 case quo=>exact⟨_,by simp only[binOp,Op.intDiv,ne_eq,not_true_eq_false,if_false,h.1,zM I h.2]; rfl,rT I h.2⟩
 case rem =>
  refine⟨_,by simp only[binOp,Op.intDiv,ne_eq,not_true_eq_false,if_false,h]; rfl,rT I ?_⟩;obtain⟨h1,h2⟩:=J;have Y:((a.tmod b).natAbs)≤a.natAbs:=by rw[Int.natAbs_tmod]; exact Nat.mod_le _ _
  have hs:0≤a→0≤a.tmod b:=fun h=>Int.tmod_nonneg _ h;have N:a≤0→a.tmod b≤0:=fun h=>by
   have:=Int.tmod_nonneg b (show 0≤ -a by omega);simp_all
  have U:k.min≤0∧0≤k.max:=by cases k<;>simp[IntKind.min,IntKind.max,IntKind.signed,IntKind.bits]
  constructor<;>omega
 case and=>exact⟨_,by simp only[binOp,Op.intBits,ne_eq,not_true_eq_false,if_false]; rfl,rT I (vQ I _)⟩
 case or=>exact⟨_,by simp only[binOp,Op.intBits,ne_eq,not_true_eq_false,if_false]; rfl,rT I (vQ I _)⟩
 case xor=>exact⟨_,by simp only[binOp,Op.intBits,ne_eq,not_true_eq_false,if_false]; rfl,rT I (vQ I _)⟩
 case eql=>exact⟨.bool (decide (a=b)),by simp[binOp,Op.intCmp]; rfl,wA _⟩
 case neq=>exact⟨.bool (!decide (a=b)),by simp[binOp,Op.intCmp]; rfl,wA _⟩
 case lss=>exact⟨.bool (decide (a<b)),by simp[binOp,Op.intCmp],wA _⟩
 case leq=>exact⟨.bool (decide (a≤b)),by simp[binOp,Op.intCmp],wA _⟩
 case gtr=>exact⟨.bool (decide (b<a)),by simp[binOp,Op.intCmp],wA _⟩
 case geq=>exact⟨.bool (decide (b≤a)),by simp[binOp,Op.intCmp],wA _⟩
theorem aPT(op:BinOp)(t:TypeId){k k':IntKind}{a n:Nat}(J:k.signed=false)(I:a<eM k)(h:(shU op k a n).1) :
  ∃v,(binOp op t (.int k a) (.int k' n)).run P w= .ok v w∧aG c w (shU op k a n).2 v:=by
 cases op<;>simp only[shU] at h ⊢
 case shl =>
  refine⟨_,by simp only[binOp,Op.shift,show ¬((n:Int)<0) from by omega,if_false]; rfl,?_⟩;have e:k.wrap ((a:Int)*2^min (n:Int).toNat k.bits)=(((a*2^n)%eM k:Nat):Int):=by
   rw[show ((a:Int)*2^min (n:Int).toNat k.bits)=((a*2^min n k.bits:Nat):Int) from by simp,qC J]
   congr 1
   by_cases N:n≤k.bits
   ·simp_all
   ·rw[Nat.min_eq_right (by omega)];have U:a*2^n=a*2^(n-k.bits)*eM k:=by
     rw[eM,Nat.mul_assoc,← Nat.pow_add]; grind
    rw[U,show a*2^k.bits=a*eM k from rfl,Nat.mul_mod_left,Nat.mul_mod_left]
  rw[e];exact aCw J (Nat.mod_lt _ (vZ k))
 case shr =>
  refine⟨_,by simp only[binOp,Op.shift,show ¬((n:Int)<0) from by omega,if_false]; rfl,?_⟩;have e:(a:Int).fdiv (2^min (n:Int).toNat k.bits)=((a/2^n:Nat):Int):=by
   rw[Int.fdiv_eq_ediv_of_nonneg _ (by grind),show ((2:Int)^min (n:Int).toNat k.bits)=((2^min n k.bits:Nat):Int) from by simp,← Int.natCast_ediv]
   congr 1
   by_cases N:n≤k.bits
   ·simp_all
   ·rw[Nat.min_eq_right (by omega),Nat.div_eq_of_lt (show a<2^k.bits from I),Nat.div_eq_of_lt (Nat.lt_of_lt_of_le I (Nat.pow_le_pow_right (by omega) (by omega)))]
  rw[e];exact aCw J (Nat.lt_of_le_of_lt (Nat.div_le_self _ _) I)
theorem aPU(op:BinOp)(t:TypeId){k k':IntKind}{a:Int}{n:Nat}(N:k.signed=true)(Y:fits k a)(hn:op= .shl→n≤k.bits)(h:(shI op k a n).1) :
  ∃v,(binOp op t (.int k a) (.int k' n)).run P w= .ok v w∧aG c w (shI op k a n).2 v:=by
 cases op<;>simp only[shI] at h ⊢
 case shl =>
  refine⟨_,by simp only[binOp,Op.shift,show ¬((n:Int)<0) from by omega,if_false]; rfl,?_⟩;rw[show min (n:Int).toNat k.bits=n from by simp_all,zM N h];exact rT N h
 case shr =>
  refine⟨_,by simp only[binOp,Op.shift,show ¬((n:Int)<0) from by omega,if_false]; rfl,?_⟩;have hb: -(2^k.bits:Int)≤a∧a<2^k.bits:=by
   obtain⟨h1,h2⟩:=Y;cases k<;>simp[IntKind.signed] at N<;>simp[IntKind.min,IntKind.max,IntKind.signed,IntKind.bits] at h1 h2 ⊢ <;> omega
  have I:∀m:Nat,(0:Int)<2^m:=fun m=>Int.pow_pos (by omega);have e:a.fdiv (2^min (n:Int).toNat k.bits)=a.fdiv (2^n):=by
   by_cases hn:n≤k.bits
   ·simp_all
   ·rw[show min (n:Int).toNat k.bits=k.bits from by omega];have hle:(2:Int)^k.bits≤2^n:=by
     have:=Nat.pow_le_pow_right (n:=2) (by omega) (show k.bits≤n by omega);grind
    rw[Int.fdiv_eq_ediv_of_nonneg _ (Int.le_of_lt (I _)),Int.fdiv_eq_ediv_of_nonneg _ (Int.le_of_lt (I _))];by_cases J:0≤a
    ·rw[Int.ediv_eq_zero_of_lt J hb.2,Int.ediv_eq_zero_of_lt J (by omega)]
    ·have q1:a/(2^k.bits:Int)= -1:=by
      grind[Int.ediv_eq_neg_one_of_neg_of_le]
     have q2:a/(2^n:Int)= -1:=Int.ediv_eq_neg_one_of_neg_of_le (by omega) (by omega);omega
  rw[e];refine rT N ?_;obtain⟨h1,h2⟩:=Y;rw[Int.fdiv_eq_ediv_of_nonneg _ (Int.le_of_lt (I _))];have hm:k.min≤0∧0≤k.max:=by cases k<;>simp[IntKind.min,IntKind.max,IntKind.signed,IntKind.bits]
  have U:(1:Int)≤2^n:=by grind
  constructor
  ·by_cases J:0≤a
   ·have:=Int.ediv_nonneg J (Int.le_of_lt (I n)); omega
   ·have:a≤a/2^n:=by
     rw[Int.le_ediv_iff_mul_le (I n)];have:=Int.mul_le_mul_of_nonpos_left (a:=a) (b:=2^n) (c:=1) (by omega) U;omega
    omega
  ·by_cases J:0≤a
   ·have:=Int.ediv_le_self (2^n) J; omega
   ·have:=Int.ediv_neg_of_neg_of_pos (show a<0 by omega) (I n); omega
end
end Go.Vc
namespace Go.Vc
open Go.RowKit
def Tab:=TypeId→Option Ty
def bS(T:Tab):List Field→Nat→Ty→Bool
 | [],_,.unit=>true
 | f::fs,off,.pair a r=>decide (T f.type=some a)&&decide (f.offset=off)&&decide (f.name ≠ "_")&&decide (0<a.cells)&&bS T fs (off+a.cells) r
 | _,_,_=>false
def aRc(T:Tab):List Field→Bool
 | [N,I,J]=>decide (T N.type=some (.i .i64))&&decide (N.offset=0)&&decide (T I.type=some .str)&&decide (I.offset=1)&&decide (T J.type=some (.sl .expr))&&decide (J.offset=2)
 | _=>false
def dM(T:Tab)(d:TypeDesc)(c:Ty):Bool :=
 match c,d with
 | .bool,.bool=>true
 | .u k,.int J=>decide (k=J)&& !k.signed
 | .i k,.int J=>decide (k=J)&&k.signed
 | .str,.string=>true
 | .sl c,.slice e=>decide (T e=some c)&&decide (0<c.cells)
 | .unit,.struct I=>bS T I.toList 0 .unit
 | .pair a b,.struct I=>bS T I.toList 0 (.pair a b)
 | .arr n c,.array N e=>decide (n=N)&&decide (T e=some c)&&decide (0<c.cells)&&decide (1<n∧n≤1048576)
 | .expr,.struct I=>aRc T I.toList
 | .rp c,.pointer e=>decide (T e=some c)
 | .clo _ _,.func _ _ _=>true
 | .nili,.interface _=>true
 | .nilp,.pointer _=>true
 | .nilf,.func _ _ _=>true
 | _,_=>false
def bH:Ty→List Value
 | .bool=>[.bool false]
 | .u k=>[.int k 0]
 | .i k=>[.int k 0]
 | .str=>[.string ⟨#[]⟩]
 | .sl _=>[.slice none 0 0]
 | .unit=>[]
 | .pair a b=>bH a++bH b
 | .arr n t=>(List.replicate n (bH t)).flatten
 | .expr=>[.int .i64 0,.string ⟨#[]⟩,.slice none 0 0]
 | .rp _=>[.pointer none]
 | .clo _ _=>[.nilFunc]
 | .ifc _ _=>[.nilIface]
 | .nili=>[.nilIface]
 | .nilp=>[.pointer none]
 | .nilf=>[.nilFunc]
def Ty.okB:Ty→Bool
 | .u k=> !k.signed
 | .i k=>k.signed
 | .sl t=>t.okB
 | .pair a b=>a.okB&&b.okB
 | .arr _ t=>t.okB
 | .rp _=>false
 | .clo _ _=>false
 | .ifc _ _=>false
 | .nili=>false
 | _=>true
def fU(c:Ty):Value:=if c.isAgg then .agg (bH c).toArray else (bH c).headD Go.undef
def aXc:Value→Value→Bool
 | .bool a,.bool b=>a == b
 | .int k a,.int I b=>decide (k=I)&&decide (a=b)
 | .string a,.string b=>decide (a.data.toList=b.data.toList)
 | .slice none 0 0,.slice none 0 0=>true
 | .pointer none,.pointer none=>true
 | .nilFunc,.nilFunc=>true
 | _,_=>false
def aSM:List Value→List Value→Bool
 | [],[]=>true
 | a::r,b::s=>aXc a b&&aSM r s
 | _,_=>false
def veq:Value→Value→Bool
 | .agg I,.agg J=>aSM I.toList J.toList
 | a,b=>aXc a b
theorem aRd{a b:Value}(h:aXc a b=true):a=b:=by
 unfold aXc at h;split at h<;>simp at h
 ·rw[h]
 ·simp_all
 ·rename_i x y; obtain⟨⟨x⟩⟩:=x; simp_all
 all_goals rfl
theorem aRe:∀ {a b:List Value},aSM a b=true→a=b
 | [],[],_=>rfl
 | [],_::_,h=>by simp[aSM] at h
 | _::_,[],h=>by simp[aSM] at h
 | a::r,b::s,h=>by simp only[aSM,Bool.and_eq_true] at h; rw[aRd h.1,aRe h.2]
theorem aZu{a b:Value}(h:veq a b=true):a=b:=by
 unfold veq at h;split at h
 ·rename_i x y; have:=aRe h; simp_all
 ·exact aRd h
def Ty.byt:Ty→Nat
 | .bool=>1
 | .u k=>k.bits/8
 | .i k=>k.bits/8
 | .str=>16
 | .sl _=>24
 | c=>24*c.cells+1
def tyB(P:Program)(T:Tab)(t:TypeId)(c:Ty):Bool :=
 match P.info? t,P.underlying t with
 | some i,some d=>decide (i.size=c.cells)&&(!c.okB||(match i.zero with|some z=>veq z (fU c)|none=>false))&&decide (i.bytes≤c.byt∧(c= .u .u8→i.bytes=1))&&dM T d c&& !P.stoodInHeld t&&(!c.isAgg|| !P.eqGuardType P.depth t)
 | _,_=>false
def aCB:List (TypeId×Ty)→Tab
 | [],_=>none
 | (k,v)::r,t=>if k=t then some v else aCB r t
def bAX(P:Program)(l:List (TypeId×Ty)):Bool:=l.all fun p=>tyB P (aCB l) p.1 p.2
structure uT(P:Program)(T:Tab)(t:TypeId)(c:Ty):Prop where
 info:∃i,P.info? t=some i∧i.size=c.cells∧(c.okB=true→i.zero=some (fU c))∧i.bytes≤c.byt
 desc:∃d,P.underlying t=some d∧dM T d c=true
 held:P.stoodInHeld t=false
 guard:c.isAgg=true→P.eqGuardType P.depth t=false
 byte:c= .u .u8→ ∀i,P.info? t=some i→i.bytes=1
def eO(P:Program)(T:Tab):Prop:=∀t c,T t=some c→uT P T t c
theorem aXd{P:Program}{T:Tab}{t:TypeId}{c:Ty}(h:tyB P T t c=true):uT P T t c:=by
 unfold tyB at h;split at h
 ·rename_i i d hi hd;simp only[Bool.and_eq_true,decide_eq_true_eq,Bool.not_eq_true'] at h;obtain⟨⟨⟨⟨⟨Y,J⟩,h3⟩,U⟩,h5⟩,h6⟩:=h;refine⟨⟨i,hi,Y,fun I=>?_,h3.1⟩,⟨d,hd,U⟩,h5,fun ha=>by simp_all,fun e i' N=>by simp_all⟩;rw[I] at J;simp only[Bool.not_true,Bool.false_or] at J;grind[aZu]
 grind
theorem aKO{l:List (TypeId×Ty)}{t:TypeId}{c:Ty}(h:aCB l t=some c):(t,c)∈l:=by
 induction l with
 | nil=>cases h
 | cons p r I =>
  grind[aCB]
theorem aT5{P:Program}{l:List (TypeId×Ty)}(h:bAX P l=true):eO P (aCB l):=fun t c hc=>by
 have:=List.all_eq_true.1 h _ (aKO hc);exact aXd this
section
variable {P:Program} {T:Tab}
theorem uT.agg{t:TypeId}{c:Ty}(h:uT P T t c):(match P.underlying t with|some (.struct _)|some (.array _ _)=>true|_=>false)=c.isAgg:=by
 obtain⟨d,hd,hb⟩:=h.desc;rw[hd];cases c<;>cases d<;>simp_all[dM,Ty.isAgg]
theorem yI{t:TypeId}{c:Ty}(h:uT P T t c)(w:World):(isAgg t).run P w= .ok c.isAgg w:=by
 have I:=h.agg;obtain⟨d,hd,hb⟩:=h.desc;rw[hd] at I;rw[← I];simp[isAgg,underlying,hd];split<;>simp_all
theorem cE{t:TypeId}{c:Ty}(h:uT P T t c)(w:World):(sizeOf t).run P w= .ok c.cells w:=by
 obtain⟨i,hi,I,_,_⟩:=h.info;simp[sizeOf,typeInfo,hi,I]
theorem aI{t:TypeId}{d:TypeDesc}(h:P.underlying t=some d)(w:World):(underlying t).run P w= .ok d w:=by
 simp[underlying,h]
theorem kF{t:TypeId}{c:Ty}(h:uT P T t c)(I:c.okB=true)(w:World):(zeroValue t).run P w= .ok (fU c) w:=by
 obtain⟨i,hi,_,J,_⟩:=h.info;simp[zeroValue,typeInfo,hi,J I]
end
theorem cR(w:World)(S:Nat→Prop):∀c:Ty,c.okB=true→aJ w S c c.zero (bH c)
 | .bool,_=>rfl
 | .nilp,_=>rfl
 | .nilf,_=>rfl
 | .u k,h=>⟨rfl,by grind[Ty.okB],by rw[aQ8 (by grind[Ty.okB])]; have:=vZ k; show ((0:Nat):Int)≤_; omega⟩
 | .i k,h=>⟨rfl,by grind[Ty.okB],by cases k<;>simp[IntKind.min,IntKind.max,IntKind.signed,IntKind.bits,Ty.zero]⟩
 | .str,_=>⟨⟨#[]⟩,rfl,rfl,Nat.zero_le _⟩
 | .sl t,_=>⟨none,0,0,rfl,rfl,Nat.le_refl _,by omega,.inl rfl⟩
 | .unit,_=>rfl
 | .pair a b,h=>by
  simp only[Ty.okB,Bool.and_eq_true] at h;exact⟨bH a,bH b,rfl,cR w S a h.1,cR w S b h.2⟩
 | .arr n t,h=>by
  refine⟨by simp[Ty.zero],List.replicate n (bH t),rfl,by simp[Ty.zero],fun i I J=>?_⟩;simp only[Ty.zero,List.getElem_replicate];exact cR w S t (by grind[Ty.okB])
 | .expr,_=>RepEx.mk 0 ⟨#[]⟩ [] none 0 0 (fun _=>[]) (by simp[IntKind.min,IntKind.max,IntKind.signed,IntKind.bits]) (Nat.zero_le _) rfl (Nat.le_refl _) (Nat.zero_le _) (fun i h=>by cases h) (.inl rfl)
theorem aBe(w:World)(S:Nat→Prop)(c:Ty)(h:c.okB=true):bR w S c c.zero (fU c):=by
 have I:=cR w S c h;unfold bR fU;split
 ·simp_all
 ·have J:=aJ.length _ _ _ I;cases c<;>simp_all[Ty.isAgg,bH]
theorem aG.toV{c:Ctx}{w:World}{t:Ty}{x:t.den}{v:Value}(h:aG c w (.val t x) v):bR w c.S t x v:=by
 obtain⟨I,J,N⟩:=h;exact bR.of_cells J N I
theorem aG.ofV{c:Ctx}{w:World}{t:Ty}{x:t.den}{v:Value}(h:bR w c.S t x v):aG c w (.val t x) v:=by
 refine⟨h.cells,?_,?_⟩
 ·intro I; unfold bR at h; rw[if_pos (show t.isAgg=true from I)] at h; grind
 ·intro I J hv;unfold bR at h;rw[if_neg (by simpa using (show t.isAgg=false from I))] at h;have:=aJ.one t x _ h v (by simp);subst hv; exact this
theorem aPV{cs:Array Value}{pre ds post:List Value}(h:cs.toList=pre++ds++post):(cs.extract pre.length (pre.length+ds.length)).toList=ds:=by
 simp_all
theorem aBf{cs:Array Value}{pre ds post:List Value}(h:cs.toList=pre++ds++post)(j:Nat){v:Value}(I:ds[j]? = some v):cs[pre.length+j]? = some v:=by
 rw[← Array.getElem?_toList,h,List.append_assoc,List.getElem?_append_right (by omega)];grind
section
variable {P:Program} {T:Tab}
theorem wB{t:TypeId}{c:Ty}(I:uT P T t c){cs:Array Value}{pre ds post:List Value}(J:cs.toList=pre++ds++post){w:World}{S:Nat→Prop}{x:c.den}(hd:aJ w S c x ds)(w':World) :
  ∃v,(part t cs pre.length).run P w'= .ok v w'∧bR w S c x v:=by
 have U:=aJ.length _ _ _ hd;by_cases N:c.isAgg=true
 ·refine⟨.agg (cs.extract pre.length (pre.length+c.cells)),?_,?_⟩
  ·simp[part,yI I,N,cE I,Result.andThen]
  ·unfold bR;simp_all
 ·have Y:c.cells=1:=by cases c<;>simp_all[Ty.isAgg,Ty.cells]
  obtain⟨v,rfl⟩:∃v,ds= [v]:=by
   match ds,U.trans Y with
   | [v],_=>simp_all
  refine⟨v,?_,?_⟩
  ·have:=aBf J 0 (v:=v) rfl;simp only[Nat.add_zero] at this;simp[part,yI I,N,this,Result.andThen]
  simp_all[bR,if_neg]
def Ty.cmpB:Ty→Bool
 | .bool=>true
 | .u _=>true
 | .i _=>true
 | .str=>true
 | .unit=>true
 | .pair a b=>a.cmpB&&b.cmpB
 | .arr _ t=>t.cmpB
 | _=>false
def Ty.eqb:(t:Ty)→t.den→t.den→Bool
 | .bool,x,y=>x == y
 | .u _,x,y=>decide (x=y)
 | .i _,x,y=>decide (x=y)
 | .str,x,y=>decide (x=y)
 | .unit,_,_=>true
 | .pair a b,x,y=>a.eqb x.1 y.1&&b.eqb x.2 y.2
 | .arr _ t,x,y=>(List.zipWith t.eqb x y).all id
 | _,_,_=>false
def Ty.deep:Ty→Nat
 | .pair a b=>max (a.deep+1) b.deep
 | .arr _ t=>t.deep+1
 | _=>0
theorem aHW{a b:ByteArray}(h:eI a=eI b):a=b:=by
 obtain⟨⟨a⟩⟩:=a;simp_all[eI,Function.Injective,UInt8.toNat_inj,List.map_inj_right]
theorem aZv(a b:ByteArray):(a.toList == b.toList)=decide (eI a=eI b):=by
 rw[Bool.eq_iff_iff,ByteArray.toList_eq,ByteArray.toList_eq];simp only[beq_iff_eq,decide_eq_true_eq];grind[eI,aHW]
theorem aDI(hT:eO P T)(d:Nat){w:World}{S:Nat→Prop}(ih:∀(t:TypeId) (c:Ty) (x y:c.den) (v u:Value) (w':World),T t=some c→c.cmpB=true→c.deep≤d→bR w S c x v→bR w S c y u→(Op.equalIn (d+1) t v u).run P w'= .ok (c.eqb x y) w')
  {xs ys:Array Value}:∀(fs:List Field) (off:Nat) (c:Ty) (x y:c.den) (pre ds J N post I:List Value) (w':World),bS T fs off c=true→c.cmpB=true→c.deep≤d+1 →
   xs.toList=pre++ds++post→pre.length=off→aJ w S c x ds→ys.toList=J++N++I→J.length=off→aJ w S c y N →
   (Op.eqFields (d+1) xs ys fs).run P w'= .ok (c.eqb x y) w'
 | [],off,c,x,y,pre,ds,J,N,post,I,w',hf,hc,U,hx,hp,hrx,hy,hp',hry=>by
  cases c<;>simp[bS] at hf
  rfl
 | f::fs,off,c,x,y,pre,ds,J,N,post,I,w',hf,hc,U,hx,hp,hrx,hy,hp',hry=>by
  cases c<;>simp only[bS,Bool.false_eq_true] at hf
  case pair a b =>
   simp only[Bool.and_eq_true,decide_eq_true_eq] at hf;obtain⟨⟨⟨⟨h1,h2⟩,h3⟩,h4⟩,h5⟩:=hf;simp only[Ty.cmpB,Bool.and_eq_true] at hc;simp only[Ty.deep] at U;obtain⟨c1,c2,rfl,r1,r2⟩:=hrx;obtain⟨Y,c2',rfl,r1',r2'⟩:=hry;subst h2;have hl:=aJ.length _ _ _ r1;have hl':=aJ.length _ _ _ r1';obtain⟨va,e1,q1⟩:=wB (hT _ _ h1) (cs:=xs) (pre:=pre) (ds:=c1) (post:=c2++post) (by simp_all) r1 w';obtain⟨vb,e2,q2⟩:=wB (hT _ _ h1) (cs:=ys) (pre:=J) (ds:=Y) (post:=c2'++I) (by simp_all) r1' w';have e3:=ih f.type a x.1 y.1 va vb w' h1 hc.1 (by omega) q1 q2;rw[hp] at e1;rw[hp'] at e2;have rec_:=aDI hT d ih (xs:=xs) (ys:=ys) fs (f.offset+a.cells) b x.2 y.2 (pre++c1) c2 (J++Y) c2' post I w' h5 hc.2 (by omega) (by simp_all) (by simp_all) r2 (by simp_all) (by simp_all) r2';simp only[Op.eqFields,Sem.run_ite,Sem.run_bind,h3,ne_eq,not_false_eq_true,if_true,e1,e2,e3,Result.andThen_ok];cases hq:a.eqb x.1 y.1
   all_goals simp_all[Ty.eqb]
def xE(d:Nat)(e:TypeId)(n:Nat)(xs ys:Array Value):List Nat→Sem Bool
 | []=>pure true
 | i::r=>do
  let a ← part e xs (i*n)
  let b ← part e ys (i*n)
  let q ← Op.equalIn d e a b
  if (!q)=true then pure false else xE d e n xs ys r
theorem run_equalIn_array(d:Nat)(t e:TypeId)(len n:Nat)(xs ys:Array Value)(w:World)(ht:P.underlying t=some (.array len e))(I:(sizeOf e).run P w= .ok n w) :
  (Op.equalIn (d+1) t (.agg xs) (.agg ys)).run P w=(xE d e n xs ys (List.range' 0 len)).run P w:=by
 simp only[Op.equalIn,Sem.run_bind,aI ht,Result.andThen_ok,I];simp only[Std.Legacy.Range.forIn_eq_forIn_range',Std.Legacy.Range.size];simp only[Nat.sub_zero,Nat.add_sub_cancel,Nat.div_one];generalize List.range' 0 len=Y;clear ht I
 induction Y generalizing w with
 | nil=>rfl
 | cons i r ih =>
  simp only[List.forIn_cons,xE,Sem.run_bind];generalize (part e xs (i*n)).run P w=r1;cases r1 with
  | ok a w1 =>
   simp only[Result.andThen_ok];generalize (part e ys (i*n)).run P w1=J;cases J with
   | ok b w2 =>
    simp only[Result.andThen_ok];generalize (Op.equalIn d e a b).run P w2=N;cases N with
    | ok q U =>
     simp_all
    | halt x U=>rfl
   | halt x w2=>rfl
  | halt x w1=>rfl
theorem gS{t:Ty}{css:List (List Value)}(I:∀i (h:i<css.length),(css[i]).length=t.cells):∀(i:Nat) (h:i<css.length),∃pre post,css.flatten=pre++css[i]++post∧pre.length=i*t.cells
 | 0,h=>by
  cases css with
  | nil=>simp at h
  | cons c r=>simp_all
 | i+1,h=>by
  cases css with
  | nil=>simp at h
  | cons c r =>
   obtain⟨pre,post,J,U⟩:=gS (t:=t) (css:=r) (fun j N=>by have:=I (j+1) (by simp_all); simp_all) i (by simp_all);refine⟨c++pre,post,by simp[J],?_⟩;have Y:=I 0 (by simp);grind
theorem aF7(hT:eO P T)(d:Nat){w:World}{S:Nat→Prop}{e:TypeId}{t:Ty}(he:T e=some t)
  (ih:∀(x y:t.den) (v u:Value) (w':World),bR w S t x v→bR w S t y u→(Op.equalIn d e v u).run P w'= .ok (t.eqb x y) w')
  {xs ys:Array Value}:∀(k i:Nat) (X Y:List t.den) (pre J:List Value) (css I:List (List Value)) (w':World),
   X.length=k→Y.length=k→css.length=k→I.length=k→(∀j (h:j<X.length) (h':j<css.length),aJ w S t X[j] css[j])→(∀j (h:j<Y.length) (h':j<I.length),aJ w S t Y[j] I[j]) →
   xs.toList=pre++css.flatten→ys.toList=J++I.flatten→pre.length=i*t.cells→J.length=i*t.cells →
   (xE d e t.cells xs ys (List.range' i k)).run P w'= .ok ((List.zipWith t.eqb X Y).all id) w'
 | 0,i,X,Y,_,_,_,_,w',hX,hY,_,_,_,_,_,_,_,_=>by
  obtain rfl:=List.eq_nil_of_length_eq_zero hX;rfl
 | k+1,i,X,Y,pre,J,css,I,w',hX,hY,hc,hc',hr,U,hx,hy,hp,hp'=>by
  match X,Y,css,I,hX,hY,hc,hc' with
  | x::X,y::Y,c::cs,c'::cs',hX,hY,hc,hc' =>
   have r0:=hr 0 (by simp) (by simp);have N:=U 0 (by simp) (by simp);simp only[List.getElem_cons_zero] at r0 N;obtain⟨va,e1,q1⟩:=wB (hT _ _ he) (cs:=xs) (pre:=pre) (ds:=c) (post:=cs.flatten) (by simp_all) r0 w';obtain⟨vb,e2,q2⟩:=wB (hT _ _ he) (cs:=ys) (pre:=J) (ds:=c') (post:=cs'.flatten) (by simp_all) N w';rw[hp] at e1;rw[hp'] at e2;have l1:=aJ.length _ _ _ r0;have l2:=aJ.length _ _ _ N;have e3:=ih x y va vb w' q1 q2;have rec_:=aF7 hT d he ih (xs:=xs) (ys:=ys) k (i+1) X Y (pre++c) (J++c') cs cs' w' (by simp_all) (by simp_all) (by simp_all) (by simp_all)
    (fun j h h'=>by have:=hr (j+1) (by simp_all) (by simp_all); simp_all) (fun j h h'=>by have:=U (j+1) (by simp_all) (by simp_all); simp_all)
    (by simp_all) (by simp_all) (by grind) (by grind)
   simp only[List.range'_succ,xE,Sem.run_bind,e1,e2,e3,Result.andThen_ok,Sem.run_ite];cases hq:t.eqb x y
   all_goals simp_all
theorem aHX(Y:eO P T){w:World}{S:Nat→Prop}:∀(d:Nat) (t:TypeId) (c:Ty) (x y:c.den) (v u:Value) (w':World),T t=some c→c.cmpB=true→c.deep≤d →
  bR w S c x v→bR w S c y u→(Op.equalIn (d+1) t v u).run P w'= .ok (c.eqb x y) w':=by
 intro d
 induction d with
 | zero =>
  intro t c x y v u w' ht hc hd J I;obtain⟨ds,N,hb⟩:=(Y t c ht).desc;cases c<;>simp only[Ty.cmpB,Bool.false_eq_true] at hc<;>(try (simp only[Ty.deep] at hd; omega))
  case bool=>simp only[bR,Ty.isAgg,aJ,Bool.false_eq_true,if_false] at J I; cases ds<;>simp[dM] at hb; simp at J I; subst J; subst I; simp[Op.equalIn,aI N,Ty.eqb]
  case u k=>simp only[bR,Ty.isAgg,aJ,Bool.false_eq_true,if_false] at J I; cases ds<;>simp[dM] at hb; obtain⟨J,_⟩:=J; obtain⟨I,_⟩:=I; simp at J I; subst J; subst I; simp[Op.equalIn,aI N,Ty.eqb]; grind
  case i k=>simp only[bR,Ty.isAgg,aJ,Bool.false_eq_true,if_false] at J I; cases ds<;>simp[dM] at hb; obtain⟨J,_⟩:=J; obtain⟨I,_⟩:=I; simp at J I; subst J; subst I; simp[Op.equalIn,aI N,Ty.eqb]; rfl
  case str =>
   simp only[bR,Ty.isAgg,aJ,Bool.false_eq_true,if_false] at J I; grind[dM,run_equalIn_string,Ty.eqb,aZv]
  case unit =>
   simp only[bR,Ty.isAgg,if_true] at J I;obtain⟨a,rfl,_⟩:=J; obtain⟨b,rfl,_⟩:=I;cases ds<;>simp[dM] at hb
   rename_i fs;have U:P.fieldsOf t=fs:=(by simp[Program.fieldsOf,N]);rw[run_equalIn_struct w' 0 t a b (by simp_all) (Y t _ ht).held,U];cases hfl:fs.toList with
   | nil=>rfl
   | cons f r=>grind[bS]
 | succ d ih =>
  intro t c x y v u w' ht hc hd J I;obtain⟨ds,N,hb⟩:=(Y t c ht).desc;cases c<;>simp only[Ty.cmpB,Bool.false_eq_true] at hc
  case bool=>simp only[bR,Ty.isAgg,aJ,Bool.false_eq_true,if_false] at J I; cases ds<;>simp[dM] at hb; simp at J I; subst J; subst I; simp[Op.equalIn,aI N,Ty.eqb]
  case u k=>simp only[bR,Ty.isAgg,aJ,Bool.false_eq_true,if_false] at J I; cases ds<;>simp[dM] at hb; obtain⟨J,_⟩:=J; obtain⟨I,_⟩:=I; simp at J I; subst J; subst I; simp[Op.equalIn,aI N,Ty.eqb]; grind
  case i k=>simp only[bR,Ty.isAgg,aJ,Bool.false_eq_true,if_false] at J I; cases ds<;>simp[dM] at hb; obtain⟨J,_⟩:=J; obtain⟨I,_⟩:=I; simp at J I; subst J; subst I; simp[Op.equalIn,aI N,Ty.eqb]; rfl
  case str =>
   simp only[bR,Ty.isAgg,aJ,Bool.false_eq_true,if_false] at J I; grind[dM,run_equalIn_string,Ty.eqb,aZv]
  case unit =>
   simp only[bR,Ty.isAgg,if_true] at J I;obtain⟨a,rfl,_⟩:=J; obtain⟨b,rfl,_⟩:=I;cases ds<;>simp[dM] at hb
   rename_i fs;have U:P.fieldsOf t=fs:=(by simp[Program.fieldsOf,N]);rw[run_equalIn_struct w' _ t a b (by simp_all) (Y t _ ht).held,U];cases hfl:fs.toList with
   | nil=>rfl
   | cons f r=>grind[bS]
  case pair a b =>
   simp only[bR,Ty.isAgg,if_true] at J I;obtain⟨xs,rfl,J⟩:=J; obtain⟨ys,rfl,I⟩:=I;cases ds<;>simp[dM] at hb
   rename_i fs;have U:P.fieldsOf t=fs:=(by simp[Program.fieldsOf,N]);rw[run_equalIn_struct w' _ t xs ys (by simp_all) (Y t _ ht).held,U];exact aDI Y d ih fs.toList 0 (.pair a b) x y [] xs.toList [] ys.toList [] [] w' hb (by grind[Ty.cmpB]) hd (by simp) rfl J (by simp) rfl I
  case arr n c =>
   simp only[bR,Ty.isAgg,if_true] at J I;obtain⟨xs,rfl,J⟩:=J; obtain⟨ys,rfl,I⟩:=I;cases ds<;>simp[dM] at hb
   rename_i n' e;obtain⟨⟨⟨rfl,he⟩,_⟩,_⟩:=hb;obtain⟨lx,css,hcx,hlx,hrx⟩:=J;obtain⟨ly,css',hcy,hly,hry⟩:=I;rw[run_equalIn_array _ t e n c.cells xs ys w' N (cE (Y _ _ he) w')];simp only[Ty.deep] at hd;exact aF7 Y (d+1) he (fun x y v u w' h1 h2=>ih e c x y v u w' he hc (by omega) h1 h2) n 0 x y [] [] css css' w' lx ly (hlx.trans lx) (hly.trans ly) hrx hry (by simp_all) (by simp_all) (by simp) (by simp)
theorem zO(N:eO P T){w:World}{S:Nat→Prop}{t:TypeId}{c:Ty}{x y:c.den}{v u:Value}(w':World)(ht:T t=some c)(hc:c.cmpB=true)(hd:c.deep≤100)(J:bR w S c x v)(I:bR w S c y u) :
  (Op.equal t v u).run P w'= .ok (c.eqb x y) w':=aHX N 9999 t c x y v u w' ht hc (by omega) J I
end
end Go.Vc
namespace Go.Vc
open Go.RowKit
def kG:Value→AV
 | .bool b=>.val .bool b
 | .int k n=>if k.signed then .val (.i k) n else .val (.u k) n.toNat
 | .string s=>.val .str (eI s)
 | .slice none 0 0=>.nilS
 | .pointer none=>.nilP
 | .nilIface=>.val .nili ()
 | _=>.junk
def aDJ:Value→AV
 | .agg I=>.flat (I.toList.map kG)
 | v=>kG v
def xF:Value→Bool
 | .int k n=>decide (k.min≤n)&&decide (n≤k.max)
 | .string s=>decide (s.size≤maxLen)
 | .slice none 0 0=>true
 | .pointer none=>true
 | .nilIface=>true
 | .bool _=>true
 | _=>false
def aPW:Value→Bool
 | .agg I=>I.toList.all xF
 | .func _ _ _=>true
 | .map none=>true
 | v=>xF v
theorem aKP{c:Ctx}{w:World}{v:Value}(h:xF v=true):mH c w (kG v) v:=by
 unfold xF at h;split at h
 ·simp only[Bool.and_eq_true,decide_eq_true_eq] at h;simp only[kG];split
  ·rename_i I; exact rT I h
  ·rename_i k n I;have I:k.signed=false:=(by simp_all);have N:0≤n:=(by grind[IntKind.signed,IntKind.min]);have hv:=aCw (c:=c) (w:=w) (n:=n.toNat) I (aF5 I (by omega));rw[show ((n.toNat:Nat):Int)=n from by omega] at hv;exact hv
 ·exact aW9 (by simp_all)
 ·exact⟨rfl,(fun h=>by cases h),(fun _ J=>by simp)⟩
 ·exact⟨rfl,(fun h=>by cases h),(fun _ J=>by simp)⟩
 ·exact⟨rfl,(fun h=>by cases h),(fun _ J=>by simp)⟩
 ·exact wA _
 grind
theorem aKQ{c:Ctx}{w:World}:∀ {l:List Value},l.all xF=true→fP c w (l.map kG) l
 | [],_=>rfl
 | v::r,h=>by
  simp only[List.all_cons,Bool.and_eq_true] at h;have hv:=aKP (c:=c) (w:=w) h.1;refine⟨[v],r,rfl,?_,aKQ h.2⟩;have I:=hv.1;have:v.cells.toList= [v]:=by
   have hb:=h.1;cases v<;>first|rfl|grind[xF]
  simp_all
theorem aT6{c:Ctx}{w:World}{v:Value}(h:aPW v=true)(hf:∀f a b,v≠ .func f a b):aG c w (aDJ v) v:=by
 unfold aPW at h;split at h
 ·rename_i cs;exact⟨by simpa [aDJ,aE,Value.cells] using aKQ h,fun _=>⟨_,rfl⟩,fun h=>by cases h⟩
 ·simp_all
 ·trivial
 ·rename_i U hnf hnm;have hv:=aKP (c:=c) (w:=w) h;have e:aDJ v=kG v:=by cases v<;>first|rfl|simp_all
  rw[e];have Y:kG v≠ .junk∧kG v≠ .undef∧ ∀vs,kG v≠ .tup vs:=by
   cases v<;>first|grind[kG]|(simp[xF] at h; done)|skip
   all_goals grind[kG,xF]
  obtain⟨J,I,N⟩:=Y;generalize kG v=u at hv J I N;cases u<;>first|exact absurd rfl J|exact absurd rfl I|exact absurd rfl (N _)|exact hv
def parse:(t:Ty)→List AV→Option (t.den×List AV)
 | .bool,.val .bool b::r=>some (b,r)
 | .u k,.val (.u I) n::r=>if I=k then some (n,r) else none
 | .i k,.val (.i I) n::r=>if I=k then some (n,r) else none
 | .str,.val .str s::r=>some (s,r)
 | .sl _,.nilS::r=>some ([],r)
 | .unit,l=>some ((),l)
 | .pair a b,l=>match parse a l with
  | some (x,r)=>match parse b r with
   | some (y,J)=>some ((x,y),J)
   | none=>none
  | none=>none
 | _,_=>none
theorem aNB{c:Ctx}{w:World}:∀(t:Ty) (l:List AV) (x:t.den) (r:List AV) (cs:List Value),parse t l=some (x,r)→fP c w l cs→ ∃c1 c2,cs=c1++c2∧aJ w c.S t x c1∧fP c w r c2:=by
 intro t
 induction t with
 | bool =>
  intro l x r cs h I;cases l with
  | nil=>simp[parse] at h
  | cons v l =>
   cases v<;>first|grind[parse]|skip
   rename_i Y y;cases Y<;>simp[parse] at h
   obtain⟨rfl,rfl⟩:=h;obtain⟨c1,c2,N,J,U⟩:=I;exact⟨c1,c2,N,J,U⟩
 | str =>
  intro l x r cs h I;cases l with
  | nil=>simp[parse] at h
  | cons v l =>
   cases v<;>first|grind[parse]|skip
   rename_i Y y;cases Y<;>simp[parse] at h
   obtain⟨rfl,rfl⟩:=h;obtain⟨c1,c2,N,J,U⟩:=I;exact⟨c1,c2,N,J,U⟩
 | u k =>
  intro l x r cs h I;cases l with
  | nil=>simp[parse] at h
  | cons v l =>
   cases v<;>first|grind[parse]|skip
   rename_i Y y;cases Y<;>simp[parse] at h
   obtain⟨rfl,rfl,rfl⟩:=h;obtain⟨c1,c2,N,J,U⟩:=I;exact⟨c1,c2,N,J,U⟩
 | i k =>
  intro l x r cs h I;cases l with
  | nil=>simp[parse] at h
  | cons v l =>
   cases v<;>first|grind[parse]|skip
   rename_i Y y;cases Y<;>simp[parse] at h
   obtain⟨rfl,rfl,rfl⟩:=h;obtain⟨c1,c2,N,J,U⟩:=I;exact⟨c1,c2,N,J,U⟩
 | sl t ih =>
  intro l x r cs h I;cases l with
  | nil=>simp[parse] at h
  | cons v l =>
   cases v<;>first|grind[parse]|skip
   simp[parse] at h;obtain⟨rfl,rfl⟩:=h;obtain⟨c1,c2,N,J,U⟩:=I;simp only[aE] at J;exact⟨c1,c2,N,⟨none,0,0,J,rfl,Nat.le_refl _,Nat.zero_le _,.inl rfl⟩,U⟩
 | unit =>
  intro l x r cs h I;simp[parse] at h;subst h;exact⟨[],cs,rfl,rfl,I⟩
 | pair a b iha ihb =>
  intro l x r cs h I;simp only[parse] at h;split at h
  ·rename_i xa ra ha;split at h
   ·rename_i yb rb hb;cases h;obtain⟨c1,c2,e1,r1,k1⟩:=iha l xa ra cs ha I;obtain⟨d1,d2,e2,r2,k2⟩:=ihb ra yb _ c2 hb k1;exact⟨c1++d1,d2,by simp_all,⟨c1,d1,rfl,r1,r2⟩,k2⟩
   grind
  grind
 | arr _ _ _=>grind[parse]
 | expr=>grind[parse]
 | rp _ _=>grind[parse]
 | clo _ _ _=>grind[parse]
 | ifc _ _ _=>grind[parse]
 | nili=>grind[parse]
 | nilp=>grind[parse]
 | nilf=>grind[parse]
def zP(t:Ty)(l:List AV):Option t.den:=match parse t l with
 | some (x,[])=>some x
 | _=>none
def aT7:AV→Option Int
 | .val (.i .i64) n=>some n
 | _=>none
def aZw:AV→Option (List Nat)
 | .val .str s=>some s
 | _=>none
def aZx(h:List Obj):AV→Option (List Ex)
 | .val (.sl .expr) l=>some l
 | .full .expr l=>some l
 | .nilS=>some []
 | .own i=>rowOf h i .expr
 | _=>none
def asX(h:List Obj)(a b v:AV):Option Ex:=match aT7 a,aZw b,aZx h v with
 | some x,some y,some z=>some (.mk x y z)
 | _,_,_=>none
def AV.as(h:List Obj):(t:Ty)→AV→Option t.den
 | t,.val I x=>if e:I=t then some (e▸x) else none
 | .sl t,.nilS=>some []
 | .sl t,.full I J=>if e:I=t then some (e▸J) else none
 | .sl t,.own i=>rowOf h i t
 | .pair a r,.agg (v::vs)=>match AV.as h a v,AV.as h r (.agg vs) with
  | some x,some y=>some (x,y)
  | _,_=>none
 | .unit,.agg []=>some ()
 | .expr,.agg [a,b,v]=>asX h a b v
 | .pair a r,.flat l=>zP (.pair a r) l
 | .unit,.flat l=>zP .unit l
 | .rp t,.roa I x=>if e:I=t then some (e▸x) else none
 | .rp t,.ptr i []=>match h[i]? with
  | some (.box _ v)=>AV.as h t v
  | _=>none
 | .clo g t,.fn U [] N=>if U=g then AV.as h t (.agg (N.map fun i=>.ptr i [])) else none
 | _,_=>none
@[simp] theorem aZy{h:List Obj}{t:Ty}{x:t.den}:AV.as h t (.val t x)=some x:=by cases t<;>simp[AV.as]
@[simp] theorem aXe{h:List Obj}{t:Ty}:AV.as h (.sl t) .nilS=some []:=by rfl
@[simp] theorem aXf{h:List Obj}{t:Ty}{xs:List t.den}:AV.as h (.sl t) (.full t xs)=some xs:=by simp[AV.as]
@[simp] theorem aZz{h:List Obj}{t:Ty}{i:Nat}:AV.as h (.sl t) (.own i)=rowOf h i t:=by rfl
@[simp] theorem aXg{h:List Obj}:AV.as h .unit (.agg [])=some ():=by rfl
@[simp] theorem aLB{h:List Obj}{a r:Ty}{v:AV}{vs:List AV}:AV.as h (.pair a r) (.agg (v::vs))=match AV.as h a v,AV.as h r (.agg vs) with|some x,some y=>some (x,y)|_,_=>none:=by rfl
@[simp] theorem aLC{h:List Obj}{a r:Ty}{l:List AV}:AV.as h (.pair a r) (.flat l)=zP (.pair a r) l:=by rfl
@[simp] theorem aZA{h:List Obj}{t:Ty}{x:t.den}:AV.as h (.rp t) (.roa t x)=some x:=by simp[AV.as]
@[simp] theorem aPX{h:List Obj}{t:Ty}{i:Nat}:AV.as h (.rp t) (.ptr i [])=match h[i]? with|some (.box _ v)=>AV.as h t v|_=>none:=by rfl
@[simp] theorem bAY{h:List Obj}{t:Ty}{g:FuncId}{l2:List Nat}:AV.as h (.clo g t) (.fn g [] l2)=AV.as h t (.agg (l2.map fun i=>.ptr i [])):=by simp[AV.as]
@[simp] theorem aLD{h:List Obj}{a b v:AV}:AV.as h .expr (.agg [a,b,v])=asX h a b v:=by rfl
@[simp] theorem aHY{h:List Obj}{l:List AV}:AV.as h .unit (.flat l)=zP .unit l:=by rfl
def AV.tags1:AV→List Nat
 | .own i=>[i]
 | _=>[]
def AV.tags:AV→List Nat
 | .own i=>[i]
 | .agg I=>I.flatMap AV.tags1
 | _=>[]
def xG(c:Ctx)(h:List Obj)(b:Nat):Prop:=c.S b∨ ∃i o,h[i]? = some o∧cM c i o b
theorem uD.toC{c:Ctx}{w:World}{e:TypeId}{t:Ty}{xs:List t.den}{v:Value}{S':Nat→Prop}(h:uD c w e t xs v)(hs:∀b,c.S b→S' b)(hb:∀b,aH v=some b→S' b):aJ w S' (.sl t) xs [v]:=by
 obtain⟨vals,N,_,I,hcs,hl,hr⟩:=h;obtain⟨hlen,hv⟩:=N;rcases hv with⟨rfl,h0⟩|⟨g,Y,J,rfl,_,hheap,hle,U,hsz,htake⟩
 ·refine⟨none,0,0,rfl,?_,Nat.le_refl _,Nat.zero_le _,.inl ?_⟩
  all_goals simp_all
 ·refine⟨some ⟨g,0,none⟩,xs.length,Y,rfl,rfl,hle,U,.inr ⟨g,0,rfl,hb g rfl,fun i hi=>?_⟩⟩;refine⟨I[i],aJ.keep hs (.refl _ _) t _ _ (hr i hi (by omega)),?_⟩;obtain⟨pre,post,hf,hp⟩:=gS (t:=t) (css:=I) (fun j hj=>aJ.length _ _ _ (hr j (by omega) hj)) i (by omega);intro j v hj;have hcell:J[i*t.cells+j]? = some v:=by
   rw[← Array.getElem?_toList];have h1:(J.toList.take (xs.length*t.cells))[i*t.cells+j]? = some v:=by
    rw[htake,hcs,hf,← hp,List.append_assoc,List.getElem?_append_right (by omega),Nat.add_sub_cancel_left];grind
   grind
  simp_all[World.cell?,Nat.zero_add]
theorem fQ.length{w:World}{S:Nat→Prop}:∀(t:Ty) (m:Mk) (x:t.den) (cs:List Value) (B:List Nat),fQ w S t m x cs B→cs.length=t.cells:=by
 intro t
 induction t with
 | sl t ih =>
  intro m xs cs B I;cases m with
  | no=>exact aJ.length _ _ _ I.1
  | sl e m=>obtain⟨v,Y,Bs,N,_⟩:=I; rw[N]; rfl
  | pair a b=>exact I.elim
 | pair a r U J =>
  intro m x cs B I;cases m with
  | no=>exact aJ.length _ _ _ I.1
  | sl e m=>exact I.elim
  | pair ma mr =>
   obtain⟨c1,c2,B1,B2,N,h2,h3,h4⟩:=I;rw[N,List.length_append,U _ _ _ _ h3,J _ _ _ _ h4]; rfl
 | _ =>
  intro m x cs B I;cases m<;>first|exact aJ.length _ _ _ I.1|exact I.elim
theorem aNC{w:World}{S':Nat→Prop}{e:TypeId}{t:Ty}{xs:List t.den}{v:Value}{css:List (List Value)}(J:w.ownsRow 0 e t.cells v xs.length css.flatten)(hl:css.length=xs.length)(hcl:∀i (h1:i<css.length),(css[i]).length=t.cells)
  (hr:∀i (h:i<xs.length) (h1:i<css.length),aJ w S' t xs[i] css[i]) (hb:∀b,aH v=some b→S' b):aJ w S' (.sl t) xs [v]:=by
 obtain⟨hlen,hv⟩:=J;rcases hv with⟨rfl,h0⟩|⟨g,U,I,rfl,_,hheap,Y,N,hsz,htake⟩
 ·refine⟨none,0,0,rfl,?_,Nat.le_refl _,Nat.zero_le _,.inl ?_⟩
  all_goals simp_all
 ·refine⟨some ⟨g,0,none⟩,xs.length,U,rfl,rfl,Y,N,.inr ⟨g,0,rfl,hb g rfl,fun i hi=>?_⟩⟩;refine⟨css[i],hr i hi (by omega),?_⟩;obtain⟨pre,post,hf,hp⟩:=gS (t:=t) (css:=css) (fun j hj=>hcl j hj) i (by omega);intro j v hj;have hcell:I[i*t.cells+j]? = some v:=by
   rw[← Array.getElem?_toList];have h1:(I.toList.take (xs.length*t.cells))[i*t.cells+j]? = some v:=by
    rw[htake,hf,← hp,List.append_assoc,List.getElem?_append_right (by omega),Nat.add_sub_cancel_left];grind
   grind
  simp_all[World.cell?,Nat.zero_add]
theorem fQ.toC{w:World}{S S':Nat→Prop}(hs:∀b,S b→S' b):∀(t:Ty) (m:Mk) (x:t.den) (cs:List Value) (B:List Nat),(∀b∈B,S' b)→fQ w S t m x cs B→aJ w S' t x cs:=by
 intro t
 induction t with
 | sl t ih =>
  intro m xs cs B J I;cases m with
  | no=>exact aJ.keep hs (.refl _ _) _ _ _ I.1
  | sl e m =>
   obtain⟨v,css,Bs,U,N,h3,h4,h5,h6⟩:=I;subst U; subst h5;refine aNC N h3 (fun i q=>fQ.length _ _ _ _ _ (h6 i (by omega) q (by omega))) (fun i q1 q2=>ih m _ _ (Bs[i]'(by omega)) (fun b hb=>J b ?_) (h6 i q1 q2 (by omega))) (fun b hb=>J b (by simp[hdB,hb]));grind[List.mem_append_right,List.mem_flatten,List.getElem_mem]
  | pair a b=>exact I.elim
 | pair a r Y ihr =>
  intro m x cs B J I;cases m with
  | no=>exact aJ.keep hs (.refl _ _) _ _ _ I.1
  | sl e m=>exact I.elim
  | pair ma mr =>
   obtain⟨c1,c2,B1,B2,U,N,h3,h4⟩:=I;subst N;exact⟨c1,c2,U,Y _ _ _ _ (fun b hb=>J b (List.mem_append_left _ hb)) h3,ihr _ _ _ _ (fun b hb=>J b (List.mem_append_right _ hb)) h4⟩
 | _ =>
  intro m x cs B J I;cases m<;>first|exact aJ.keep hs (.refl _ _) _ _ _ I.1|exact I.elim
theorem aND{M:Perm}{w0:World}{c:Ctx}{h:List Obj}{w:World}(U:Good M w0 c h w){i:Nat}{t:Ty}{xs:List t.den}(I:rowOf h i t=some xs):aJ w (xG c h) (.sl t) xs [c.hd i]:=by
 unfold rowOf at I;split at I
 ·rename_i e t' Y J;split at I
  ·rename_i N; subst N; cases I;have:=U.objs i _ J;exact uD.toC this (fun b hb=>.inl hb) (fun b hb=>.inr ⟨i,_,J,hb⟩)
  grind
 ·rename_i t' Y J;split at I
  ·rename_i N; subst N; cases I;have:=U.objs i _ J;exact aJ.keep (fun b hb=>.inl hb) (.refl _ _) _ _ _ this
  grind
 ·rename_i e m t' Y J;split at I
  ·rename_i N; subst N; cases I;obtain⟨B,h1,_,h3⟩:=U.objs i _ J;exact fQ.toC (fun b hb=>.inl hb) _ _ _ _ _ (fun b hb=>.inr ⟨i,_,J,h3 b hb⟩) h1
  grind
 grind
theorem aRf{c:Ctx}{w:World}{h:List Obj}{S':Nat→Prop}(hS:∀b,c.S b→S' b)(hrow:∀i xs cs,rowOf h i .expr=some xs→aE c w (.own i) cs→aJ w S' (.sl .expr) xs cs){a b v:AV}{x:Ex}{cs:List Value}(ha:asX h a b v=some x)(hr:fP c w [a,b,v] cs):aJ w S' .expr x cs:=by
 unfold asX at ha;split at ha
 ·rename_i k s l h1 Y U;cases ha;simp only[fP] at hr;obtain⟨c1,c2,e,r1,c3,c4,e2,r2,c5,c6,e3,N,e4⟩:=hr;subst e4; subst e3; subst e2; subst e;have q1:aJ w c.S (.i .i64) k c1:=by
   unfold aT7 at h1;split at h1
   ·cases h1; exact r1
   grind
  have q2:aJ w c.S .str s c3:=by
   unfold aZw at Y;split at Y
   ·cases Y; exact r2
   grind
  have q3:aJ w S' (.sl .expr) l c5:=by
   unfold aZx at U;split at U
   ·cases U; exact aJ.keep hS (.refl _ _) (.sl .expr) _ _ N
   ·cases U;simp only[aE] at N;obtain⟨p,n,e,hsl⟩:=N;exact⟨p,n,n,e,hsl.keep hS (.refl _ _) (fun x cs=>aJ.keep hS (.refl _ _) .expr x cs)⟩
   ·cases U;simp only[aE] at N;exact⟨none,0,0,N,rfl,Nat.le_refl _,Nat.zero_le _,.inl rfl⟩
   all_goals grind
  obtain⟨rfl,_,q11,q12⟩:=q1;obtain⟨s',rfl,rfl,q22⟩:=q2;obtain⟨p,len,cap,rfl,z1,z2,z3,z4⟩:=q3;show RepEx w S' _ _;have key:∃I:Nat→List Value,(∀i (h':i<l.length),RepEx w S' l[i] (I i))∧(l= []∨ ∃b off,p=some ⟨b,off,none⟩∧S' b∧ ∀i,i<l.length→aY w b (off+i*3) (I i)):=by
   rcases z4 with rfl|⟨b,off,rfl,hb,J⟩
   ·exact⟨fun _=>[],fun i h'=>by grind,.inl rfl⟩
   ·refine⟨fun i=>if h':i<l.length then Classical.choose (J i h') else [],fun i h'=>?_,.inr ⟨b,off,rfl,hb,fun i h'=>?_⟩⟩
    ·simp only[h',dite_true]; exact(Classical.choose_spec (J i h')).1
    ·simp only[h',dite_true]; exact(Classical.choose_spec (J i h')).2
  obtain⟨I,k1,k2⟩:=key;exact .mk k s' l p len cap I ⟨q11,q12⟩ q22 z1 z2 z3 k1 k2
 grind
theorem aXh{M:Perm}{w0:World}{c:Ctx}{h:List Obj}{w:World}(hg:Good M w0 c h w):∀(t:Ty) (l:List Nat) (x:t.den),(∀i∈l,i<c.n)→AV.as h t (.agg (l.map fun i=>.ptr i []))=some x→fP c w (l.map fun i=>.ptr i []) (l.map c.hd):=by
 intro t
 induction t with
 | pair a r _ ih =>
  intro l x J I;cases l with
  | nil=>rfl
  | cons i l =>
   simp only[List.map_cons,aLB] at I;split at I
   ·rename_i xa Y h1 h2;have hb:∃n v,h[i]? = some (.box n v):=by
     cases a<;>first|(simp[AV.as] at h1; done)|skip
     grind[aPX]
    obtain⟨n,v,ho⟩:=hb;obtain⟨b,cells,e,N,_⟩:=hg.objs i _ ho;refine⟨[c.hd i],l.map c.hd,rfl,?_,ih l Y (fun k U=>J k (by simp[U])) h2⟩;refine⟨J i (by simp),b,by rw[N]; rfl,by rw[N]; rfl⟩
   grind
 | unit =>
  intro l x J I;cases l with
  | nil=>exact rfl
  | cons i l=>grind[AV.as]
 | expr =>
  intro l x J I
  match l,I with
  | [],I=>rfl
  | [_],I=>simp[AV.as] at I
  | [_,_],I=>simp[AV.as] at I
  | [_,_,_],I=>simp[AV.as,asX,aT7] at I
  | _::_::_::_::_,I=>simp[AV.as] at I
 | _=>grind[AV.as]
theorem aY3{M:Perm}{w0:World}{c:Ctx}{h:List Obj}{w:World}(hg:Good M w0 c h w):∀(t:Ty) (v:AV) (x:t.den) (cs:List Value),AV.as h t v=some x→aE c w v cs→aJ w (xG c h) t x cs∧t.isAgg=v.isAgg:=by
 have hS:∀b,c.S b→xG c h b:=fun b hb=>.inl hb;have hval:∀(t N:Ty) (y:N.den) (x:t.den) (cs:List Value),AV.as h t (.val N y)=some x→aE c w (.val N y) cs→aJ w (xG c h) t x cs∧t.isAgg=AV.isAgg (.val N y):=by
  intro t N y x cs I J;have:∃e:N=t,x=e▸y:=by
   have U:(if e:N=t then some (e▸y) else none)=some x:=(by grind[AV.as]);grind
  obtain⟨rfl,rfl⟩:=this;exact⟨aJ.keep hS (.refl _ _) _ _ _ J,rfl⟩
 have hflat:∀(t:Ty) (l:List AV) (x:t.den) (cs:List Value),zP t l=some x→fP c w l cs→aJ w (xG c h) t x cs:=by
  intro t l x cs I J;unfold zP at I;split at I
  ·rename_i y hp;cases I;obtain⟨c1,c2,e,r1,r2⟩:=aNB t l _ _ cs hp J;simp only[fP] at r2;subst r2;rw[e,List.append_nil];exact aJ.keep hS (.refl _ _) _ _ _ r1
  grind
 intro t
 induction t with
 | pair a b iha ihb =>
  intro v x cs I J;cases v with
  | val N y=>grind
  | agg Y =>
   cases Y with
   | nil=>grind[AV.as]
   | cons v Y =>
    simp only[aLB] at I;split at I
    ·rename_i xa xb h1 U;cases I;simp only[aE,fP] at J;obtain⟨c1,c2,e,r1,r2⟩:=J;have q1:=iha v xa c1 h1 r1;have q2:=ihb (.agg Y) xb c2 U (by grind[aE]);exact⟨⟨c1,c2,e,q1.1,q2.1⟩,rfl⟩
    grind
  | flat l=>simp only[aLC] at I; exact⟨hflat _ _ _ _ I (by grind[aE]),rfl⟩
  | _=>grind[AV.as]
 | sl t ih =>
  intro v x cs I J;cases v with
  | val N y=>grind
  | nilS=>simp at I; subst I; simp only[aE] at J; exact⟨⟨none,0,0,J,rfl,Nat.le_refl _,Nat.zero_le _,.inl rfl⟩,rfl⟩
  | full N xs =>
   have U:(if e:N=t then some (e▸xs) else none)=some x:=(by grind[AV.as]);split at U
   ·rename_i e;subst e;cases U;simp only[aE] at J;obtain⟨p,n,e,hsl⟩:=J;exact⟨⟨p,n,n,e,hsl.keep hS (.refl _ _) (fun x cs=>aJ.keep hS (.refl _ _) _ x cs)⟩,rfl⟩
   grind
  | own i=>simp at I; simp only[aE] at J; rw[J.2.1]; exact⟨aND hg I,rfl⟩
  | _=>grind[AV.as]
 | unit =>
  intro v x cs I J;cases v with
  | val N y=>grind
  | agg Y=>cases Y with
   | nil=>simp only[aE,fP] at J; exact⟨J,rfl⟩
   | cons v Y=>grind[AV.as]
  | flat l=>simp only[aHY] at I; exact⟨hflat _ _ _ _ I (by grind[aE]),rfl⟩
  | _=>grind[AV.as]
 | rp t ih =>
  intro v x cs I J;cases v with
  | val N y=>grind
  | roa N y =>
   have U:(if e:N=t then some (e▸y) else none)=some x:=(by grind[AV.as]);split at U
   ·rename_i e;subst e;cases U;simp only[aE] at J;obtain⟨b,off,ds,e,hb,hd,hcell⟩:=J;exact⟨⟨b,off,ds,e,hS b hb,aJ.keep hS (.refl _ _) _ _ _ hd,hcell⟩,rfl⟩
   grind
  | ptr i p =>
   cases p with
   | nil =>
    simp only[aPX] at I;split at I
    ·rename_i n u ho;simp only[aE] at J;obtain⟨hi,b,hb,e⟩:=J;obtain⟨b',cells,e',q1,q2,q3,q4⟩:=hg.objs i _ ho;have hbb:b=b':=(by grind[aH]);subst hbb;refine⟨⟨b,0,cells.toList,e,.inr ⟨i,_,ho,by simp[cM,q1,aH]⟩,(ih u x cells.toList I q4).1,?_⟩,rfl⟩;intro j u hj;simp_all[World.cell?,Nat.zero_add]
    grind
   | cons s p=>grind[AV.as]
  | _=>grind[AV.as]
 | clo g t ih =>
  intro v x cs I J;cases v with
  | val N y=>grind
  | fn g' l1 l2 =>
   cases l1 with
   | nil =>
    have U:g'=g∧AV.as h t (.agg (l2.map fun i=>.ptr i []))=some x:=(by grind[AV.as]);obtain⟨rfl,I⟩:=U;simp only[aE] at J;obtain⟨_,U,e⟩:=J;have:=ih _ x (l2.map c.hd) I (by grind[aE,aXh]);exact⟨⟨l2.map c.hd,by simp_all,this.1⟩,rfl⟩
   | cons i l1=>grind[AV.as]
  | _=>grind[AV.as]
 | expr =>
  intro v x cs I J;cases v with
  | val N y=>grind
  | agg Y =>
   match Y,I,J with
   | [a,b,v],I,J =>
    simp only[aLD] at I;exact⟨aRf hS (fun i xs cs h1 U=>by grind[aE,aND]) I (by grind[aE]),rfl⟩
   | [],I,_=>grind[AV.as]
   | [_],I,_=>grind[AV.as]
   | [_,_],I,_=>grind[AV.as]
   | _::_::_::_::_,I,_=>grind[AV.as]
  | _=>grind[AV.as]
 | _ =>
  intro v x cs I J;cases v with
  | val N y=>grind
  | _=>grind[AV.as]
def Ty.fieldOff:Ty→Nat→Nat
 | .pair _ _,0=>0
 | .pair a r,k+1=>a.cells+r.fieldOff k
 | .expr,k=>k
 | _,_=>0
def aA6:(t:Ty)→t.den→Nat→AV
 | .pair a _,x,0=>.val a x.1
 | .pair _ r,x,k+1=>aA6 r x.2 k
 | .expr,x,0=>.val (.i .i64) x.kind
 | .expr,x,1=>.val .str x.text
 | .expr,x,2=>.val (.sl .expr) x.l
 | _,_,_=>.junk
def AV.solid1:AV→Bool
 | .val _ _=>true
 | .nilS=>true
 | .nilP=>true
 | .full _ _=>true
 | .own _=>true
 | .ptr _ _=>true
 | .roa _ _=>true
 | .fn _ _ _=>true
 | .mp _=>true
 | _=>false
def AV.solid:AV→Bool
 | .agg I=>I.all AV.solid1
 | v=>v.solid1
def AV.nc1:AV→Nat
 | .val t _=>t.cells
 | _=>1
def aM:List AV→Nat
 | []=>0
 | v::r=>v.nc1+aM r
def AV.nc:AV→Nat
 | .agg I=>aM I
 | v=>v.nc1
theorem aC6{c:Ctx}{w:World}{v:AV}{cs:List Value}(I:v.solid1=true)(J:aE c w v cs):cs.length=v.nc1:=by
 cases v<;>simp[AV.solid1] at I<;>simp only[aE] at J<;>simp only[AV.nc1]
 all_goals grind[aJ.length]
theorem aRg{c:Ctx}{w:World}:∀ {vs:List AV} {cs:List Value},vs.all AV.solid1=true→fP c w vs cs→cs.length=aM vs
 | [],_,_,I=>by simp only[fP] at I; rw[I]; rfl
 | v::r,_,J,I=>by
  simp only[List.all_cons,Bool.and_eq_true] at J;simp only[fP] at I;obtain⟨c1,c2,e,N,U⟩:=I;rw[e,List.length_append,aC6 J.1 N,aRg J.2 U]; rfl
theorem aHZ{c:Ctx}{w:World}{v:AV}{cs:List Value}(I:v.solid=true)(J:aE c w v cs):cs.length=v.nc:=by
 cases v
 case agg vs=>exact aRg I (by simpa [aE] using J)
 all_goals grind[AV.solid,AV.nc,aC6]
def bN:AV→Nat→AV×Nat
 | .val t x,k=>(aA6 t x k,t.fieldOff k)
 | .agg [],_=>(.junk,0)
 | .agg (v::_),0=>(v,0)
 | .agg (v::vs),k+1=>((bN (.agg vs) k).1,v.nc1+(bN (.agg vs) k).2)
 | _,_=>(.junk,0)
def elemOf:AV→Nat→Prop×AV
 | .val (.arr n t) I,i=>(i<n,.val t (I.getD i t.zero))
 | _,_=>(False,.junk)
def aKR:AV→Nat
 | .val (.arr _ t) _=>t.cells
 | _=>0
theorem aDK{w:World}{c:Ctx}:∀(t:Ty) (x:t.den) (k:Nat) (cs:List Value),aJ w c.S t x cs→aA6 t x k≠ .junk→ ∃pre ds post,cs=pre++ds++post∧pre.length=t.fieldOff k∧aE c w (aA6 t x k) ds
 | .pair a r,x,0,cs,I,_=>by
  obtain⟨c1,c2,e,h1,h2⟩:=I;exact⟨[],c1,c2,by simp_all,rfl,h1⟩
 | .pair a r,x,k+1,cs,I,J=>by
  obtain⟨c1,c2,e,h1,h2⟩:=I;obtain⟨pre,ds,post,e2,hp,hd⟩:=aDK r x.2 k c2 h2 J;refine⟨c1++pre,ds,post,by simp_all,?_,hd⟩;rw[List.length_append,aJ.length _ _ _ h1,hp]; rfl
 | .expr,x,0,cs,I,_=>by
  cases I with
  | mk k s l a len N U Y hs hl hc hm I ha=>exact⟨[],[_],_,rfl,rfl,⟨rfl,rfl,Y.1,Y.2⟩⟩
 | .expr,x,1,cs,I,_=>by
  cases I with
  | mk k s l a len N U Y hs hl hc hm I ha=>exact⟨[_],[_],[_],rfl,rfl,⟨s,rfl,rfl,hs⟩⟩
 | .expr,x,2,cs,I,_=>by
  cases I with
  | mk k s l a len N U Y hs hl hc hm I ha =>
   refine⟨[_,_],[_],[],rfl,rfl,⟨a,len,N,rfl,hl,hc,hm,ha.imp id ?_⟩⟩;rintro⟨b,off,e,hb,hcell⟩;exact⟨b,off,e,hb,fun i hi=>⟨U i,I i hi,hcell i hi⟩⟩
 | .expr,x,k+3,cs,I,J=>absurd rfl J
 | .bool,x,k,cs,I,J=>absurd rfl J
 | .u _,x,k,cs,I,J=>absurd rfl J
 | .i _,x,k,cs,I,J=>absurd rfl J
 | .str,x,k,cs,I,J=>absurd rfl J
 | .sl _,x,k,cs,I,J=>absurd rfl J
 | .unit,x,k,cs,I,J=>absurd rfl J
 | .arr _ _,x,k,cs,I,J=>absurd rfl J
 | .rp _,x,k,cs,I,J=>absurd rfl J
 | .clo _ _,x,k,cs,I,J=>absurd rfl J
theorem aH0{w:World}{c:Ctx}:∀(v:AV) (k:Nat) (cs:List Value),v.solid=true→aE c w v cs→(bN v k).1≠ .junk→ ∃pre ds post,cs=pre++ds++post∧pre.length=(bN v k).2∧aE c w (bN v k).1 ds:=by
 intro v k cs N I Y;cases v with
 | val t x=>grind[bN,aDK,aE]
 | agg J =>
  simp only[aE] at I;simp only[AV.solid] at N
  induction J generalizing k cs with
  | nil=>grind[bN]
  | cons v J ih =>
   simp only[fP] at I;simp only[List.all_cons,Bool.and_eq_true] at N;obtain⟨c1,c2,e,U,h2⟩:=I;cases k with
   | zero=>exact⟨[],c1,c2,by simp_all,rfl,U⟩
   | succ k =>
    grind[bN,List.length_append,aC6]
 | _=>grind[bN]
theorem aEW{w:World}{c:Ctx}(v:AV)(i:Nat)(cs:List Value)(U:aE c w v cs)(h:(elemOf v i).1):∃pre ds post,cs=pre++ds++post∧pre.length=i*aKR v∧aE c w (elemOf v i).2 ds:=by
 cases v with
 | val t x =>
  cases t with
  | arr n t =>
   simp only[elemOf] at h ⊢;obtain⟨hn,J,e,hl,I⟩:=U;obtain⟨pre,post,Y,hp⟩:=gS (t:=t) (css:=J) (fun j N=>aJ.length _ _ _ (I j (by omega) N)) i (by omega);refine⟨pre,J[i],post,by grind,hp,?_⟩;have:=I i (by omega) (by omega);simp only[aE];rw[List.getD_eq_getElem?_getD,List.getElem?_eq_getElem (by omega)];exact this
  | _=>exact h.elim
 | _=>exact h.elim
def nW:AV→List Step→Prop×AV
 | v,[]=>(True,v)
 | v,.fld off k::p=>(v.solid=true∧off=(bN v k).2∧(nW (bN v k).1 p).1,(nW (bN v k).1 p).2)
 | v,.idx s i::p=>((elemOf v i).1∧s=aKR v∧(nW (elemOf v i).2 p).1,(nW (elemOf v i).2 p).2)
theorem aSN:∀(p:List Step),(nW .junk p).1→(nW .junk p).2= .junk
 | [],_=>rfl
 | .fld off k::p,h=>by simp[nW,AV.solid,AV.solid1] at h
 | .idx s i::p,h=>by simp[nW,elemOf] at h
theorem aDL{w:World}{c:Ctx}:∀(p:List Step) (v:AV) (cs:List Value),aE c w v cs→(nW v p).1→(nW v p).2≠ .junk→ ∃pre ds post,cs=pre++ds++post∧pre.length=gD p∧aE c w (nW v p).2 ds
 | [],v,cs,N,_,_=>⟨[],cs,[],by simp,rfl,N⟩
 | .fld off k::p,v,cs,N,h,J=>by
  simp only[nW] at h J ⊢;obtain⟨hs,ho,h2⟩:=h;have hj1:(bN v k).1≠ .junk:=fun e=>by grind[aSN]
  obtain⟨pre,ds,post,e,hp,hd⟩:=aH0 v k cs hs N hj1;obtain⟨U,ds2,I,e2,hp2,Y⟩:=aDL p _ ds hd h2 J;grind[List.length_append,gD,Step.off]
 | .idx s i::p,v,cs,N,h,J=>by
  simp only[nW] at h J ⊢;obtain⟨hs,ho,h2⟩:=h;obtain⟨pre,ds,post,e,hp,hd⟩:=aEW v i cs N hs;obtain⟨U,ds2,I,e2,hp2,Y⟩:=aDL p _ ds hd h2 J;grind[List.length_append,gD,Step.off]
end Go.Vc
namespace Go.Vc
open Go.RowKit
inductive RK where
 | none
 | one (t:Ty)
 | own (e:TypeId) (t:Ty)
 | tup (t:Ty)
def RK.ty:RK→Ty
 | .none=>.unit
 | .one t=>t
 | .own _ t=>.sl t
 | .tup t=>t
structure aF where
 args:Ty
 res:RK
 pre:args.den→Prop
 fn:args.den→res.ty.den
def jL(w:World)(S:Nat→Prop):(t:Ty)→t.den→List Value→Prop
 | .unit,_,J=>J= []
 | .pair a r,x,J=>∃v I,J=v::I∧bR w S a x.1 v∧jL w S r x.2 I
 | _,_,_=>False
def aSO(w:World)(S:Nat→Prop)(B:Nat):(r:RK)→r.ty.den→Value→Prop
 | .none,_,v=>v= .tuple #[]
 | .one t,x,v=>bR w (fun b=>S b∨(B≤b∧b<w.heap.size)) t x v
 | .own e t,J,v=>∃I:List Value,w.ownsRow B e t.cells v J.length I∧aJ w (fun b=>S b∨(B≤b∧b<w.heap.size∧aH v≠some b)) (.arr J.length t) J I
 | .tup t,x,v=>∃vs:List Value,v= .tuple vs.toArray∧jL w (fun b=>S b∨(B≤b∧b<w.heap.size)) t x vs
def nothing:Nat→Prop:=fun _=>False
@[reducible] def top(S:Nat→Prop):Perm:=⟨nothing,S,0,fun _=>Go.undef⟩
def jM(G:Nat→AV)(S:Nat→Prop)(w:World):Prop:=∀g,aG ⟨S,fun _=>Go.undef,0,fun _ _=>False⟩ w (G g) (.pointer (some ⟨g,0,none⟩))
def FOK(P:Program)(G:Nat→AV)(f:FuncId)(sp:aF):Prop :=
 ∀(w:World) (S:Nat→Prop) (vs:Array Value) (x:sp.args.den),(∀b,S b→b<w.heap.size)→jM G S w→jL w S sp.args x vs.toList→sp.pre x →
  Calls P f vs w fun e w'=>∃v,e= .returned v∧bG nothing w w'∧aSO w' S w.heap.size sp.res (sp.fn x) v
structure Env where
 T:Tab
 G:Nat→AV
 Γ:FuncId→List AV→Option aF
 el:TypeId→TypeId
 mp:TypeId→Option (TypeId×TypeId)
 dm:TypeId→Option Mk:=fun _=>none
 dz:TypeId→Bool:=fun _=>false
 w:Bool:=false
def aNE(T:Tab)(t:TypeId):AV→AV
 | .flat l=>match T t with
  | some c=>match AV.as [] c (.flat l) with
   | some x=>.val c x
   | none=>.flat l
  | none=>.flat l
 | v=>v
def aBg(T:Tab)(h:List Obj)(t:TypeId):AV→Prop×AV
 | .roa c x=>(T t=some c,.val c x)
 | .ptr i p=>match h[i]? with
  | some (.box _ v)=>((nW v p).1∧(nW v p).2.solid=true∧ ∃c,T t=some c∧c.isAgg=(nW v p).2.isAgg∧c.cells=(nW v p).2.nc,(nW v p).2)
  | some (.row _ c I)=>match p with
   | .idx s k::p=>(k<I.length∧s=c.cells∧(nW (.val c (I.getD k c.zero)) p).1∧(nW (.val c (I.getD k c.zero)) p).2.solid=true ∧
     ∃c',T t=some c'∧c'.isAgg=(nW (.val c (I.getD k c.zero)) p).2.isAgg∧c'.cells=(nW (.val c (I.getD k c.zero)) p).2.nc,(nW (.val c (I.getD k c.zero)) p).2)
   | _=>(False,.junk)
  | some (.trh _ _ c I k v)=>match p with
   | .idx s J::p=>(J=k∧s=c.cells∧(nW v p).1∧(nW v p).2.solid=true∧ ∃c',T t=some c'∧c'.isAgg=(nW v p).2.isAgg∧c'.cells=(nW v p).2.nc,(nW v p).2)
   | _=>(False,.junk)
  | _=>(False,.junk)
 | _=>(False,.junk)
noncomputable def rW(T:Tab)(op:BinOp)(t:TypeId):AV→AV→Prop×AV
 | .val (.u k) a,.val (.u J) b=>match op with
  | .shl=>shU .shl k a b
  | .shr=>shU .shr k a b
  | op=>if J=k then aLy op k a b else (False,.junk)
 | .val (.i k) a,.val (.i J) b=>match op with
  | .shl=>(0≤b∧b≤k.bits∧(shI .shl k a b.toNat).1,(shI .shl k a b.toNat).2)
  | .shr=>(0≤b,(shI .shr k a b.toNat).2)
  | op=>if J=k then aHV op k a b else (False,.junk)
 | .val (.u k) a,.val (.i _) b=>match op with
  | .shl=>(0≤b,(shU .shl k a b.toNat).2)
  | .shr=>(0≤b,(shU .shr k a b.toNat).2)
  | _=>(False,.junk)
 | .val (.i k) a,.val (.u _) b=>match op with
  | .shl=>(b≤k.bits∧(shI .shl k a b).1,(shI .shl k a b).2)
  | .shr=>(True,(shI .shr k a b).2)
  | _=>(False,.junk)
 | .val .str a,.val .str b=>aLz op a b
 | .val .bool a,.val .bool b=>(T t=some .bool∧(aXa op a b).1,(aXa op a b).2)
 | .val (.pair p q) a,.val I b=>if e:I= .pair p q then (match op with
   | .eql=>(T t=some (.pair p q)∧(Ty.pair p q).cmpB=true∧(Ty.pair p q).deep≤100,.val .bool ((Ty.pair p q).eqb a (e▸b)))
   | .neq=>(T t=some (.pair p q)∧(Ty.pair p q).cmpB=true∧(Ty.pair p q).deep≤100,.val .bool (!(Ty.pair p q).eqb a (e▸b)))
   | _=>(False,.junk)) else (False,.junk)
 | .val (.arr n q) a,.val I b=>if e:I= .arr n q then (match op with
   | .eql=>(T t=some (.arr n q)∧(Ty.arr n q).cmpB=true∧(Ty.arr n q).deep≤100,.val .bool ((Ty.arr n q).eqb a (e▸b)))
   | .neq=>(T t=some (.arr n q)∧(Ty.arr n q).cmpB=true∧(Ty.arr n q).deep≤100,.val .bool (!(Ty.arr n q).eqb a (e▸b)))
   | _=>(False,.junk)) else (False,.junk)
 | _,_=>(False,.junk)
noncomputable def aPY(op:UnOp):AV→Prop×AV
 | .val .bool b=>match op with
  | .not=>(True,.val .bool (!b))
  | _=>(False,.junk)
 | .val (.i k) a=>match op with
  | .neg=>(fits k (0-a),.val (.i k) (0-a))
  | _=>(False,.junk)
 | .val (.u k) a=>match op with
  | .neg=>(True,.val (.u k) (aNA k a))
  | .xor=>(True,.val (.u k) ((eM k-1)^^^a))
  | _=>(False,.junk)
 | _=>(False,.junk)
def aEX(T:Tab)(src dst:TypeId)(x:AV):Prop×AV :=
 match T dst,x with
 | some (.u k),.val (.u I) n=>((T src).isSome=true,.val (.u k) (if I.bits≤k.bits then n else n%eM k))
 | some (.u k),.val (.i _) n=>((T src).isSome=true,.val (.u k) (n%(eM k:Int)).toNat)
 | some (.i k),.val (.u I) n=>((T src).isSome=true,.val (.i k) (if I.bits<k.bits then (n:Int) else k.wrap n))
 | some (.i k),.val (.i I) n=>((T src).isSome=true,.val (.i k) (if I.bits≤k.bits then n else k.wrap n))
 | some .str,.val .str s=>(T src=some .str,.val .str s)
 | _,_=>(False,.junk)
def tL:AV→Option Int
 | .val (.i _) n=>some n
 | .val (.u _) n=>some n
 | _=>none
def oJ(T:Tab)(s:TypeId)(x:AV)(k:Nat):Prop×AV :=
 match x with
 | .ptr i p=>match T s with
  | some c=>(c.isAgg=true∧fldT c k,.ptr i (p++ [.fld (c.fieldOff k) k]))
  | none=>(False,.junk)
 | .roa c x=>match aA6 c x k with
  | .val f y=>(T s=some c,.roa f y)
  | _=>(False,.junk)
 | _=>(False,.junk)
where
 fldT:Ty→Nat→Prop
 | .pair _ _,0=>True
 | .pair _ r,k+1=>fldT r k
 | .expr,k=>k<3
 | _,_=>False
def Ty.fldTy:Ty→Nat→Option Ty
 | .pair a _,0=>some a
 | .pair _ r,k+1=>r.fldTy k
 | _,_=>none
def aB8(T:Tab)(s:TypeId)(x:AV)(k:Nat):Prop×AV :=
 match x with
 | .val c y=>(T s=some c∧aA6 c y k≠ .junk,aA6 c y k)
 | .agg I=>(∃J,T s=some J∧I.all AV.solid1=true∧(bN (.agg I) k).1.solid1=true∧(bN (.agg I) k).2=J.fieldOff k∧ ∃c',J.fldTy k=some c'∧c'.isAgg=(bN (.agg I) k).1.isAgg∧c'.cells=(bN (.agg I) k).1.nc1,(bN (.agg I) k).1)
 | _=>(False,.junk)
def aDM(T:Tab)(h:List Obj)(t:TypeId)(x ix:AV):Prop×AV :=
 match tL ix with
 | none=>(False,.junk)
 | some i =>
  match x with
  | .val (.sl c) I=>(T t=some (.sl c)∧0≤i∧i<(I.length:Int),.roa c (I.getD i.toNat c.zero))
  | .full c I=>(T t=some (.sl c)∧0≤i∧i<(I.length:Int),.roa c (I.getD i.toNat c.zero))
  | .own k=>match h[k]? with
   | some (.row _ c I)=>(T t=some (.sl c)∧0≤i∧i<(I.length:Int),.ptr k [.idx c.cells i.toNat])
   | some (.frz c I)=>(T t=some (.sl c)∧0≤i∧i<(I.length:Int),.roa c (I.getD i.toNat c.zero))
   | some (.tre _ _ c I)=>(T t=some (.sl c)∧0≤i∧i<(I.length:Int),.ptr k [.idx c.cells i.toNat])
   | some (.trh _ _ c I _ _)=>(T t=some (.sl c)∧0≤i∧i<(I.length:Int),.ptr k [.idx c.cells i.toNat])
   | _=>(False,.junk)
  | .sub k s off n=>match h[k]? with
   | some (.row _ c I)=>(T t=some (.sl c)∧s=c.cells∧0≤i∧i<(n:Int),.ptr k [.idx c.cells (off+i.toNat)])
   | _=>(False,.junk)
  | .ptr k p=>match T t with
   | some (.arr n c)=>(0≤i∧i<(n:Int),.ptr k (p++ [.idx c.cells i.toNat]))
   | _=>(False,.junk)
  | .roa (.arr n c) I=>(T t=some (.arr n c)∧0≤i∧i<(n:Int),.roa c (I.getD i.toNat c.zero))
  | _=>(False,.junk)
def aDN(T:Tab)(t:TypeId)(x ix:AV):Prop×AV :=
 match tL ix with
 | none=>(False,.junk)
 | some i =>
  match x with
  | .val (.arr n c) I=>(T t=some (.arr n c)∧0≤i∧i<(n:Int),.val c (I.getD i.toNat c.zero))
  | .val .str s=>(T t=some .str∧0≤i∧i<(s.length:Int),.val (.u .u8) (s.getD i.toNat 0))
  | _=>(False,.junk)
def aBh(T:Tab)(h:List Obj)(t:TypeId)(x:AV):Prop×AV :=
 match x with
 | .val .str s=>(T t=some .str,.val (.i .i64) (s.length:Int))
 | .val (.sl c) I=>(T t=some (.sl c),.val (.i .i64) (I.length:Int))
 | .full c I=>(T t=some (.sl c),.val (.i .i64) (I.length:Int))
 | .nilS=>(∃c,T t=some (.sl c),.val (.i .i64) 0)
 | .own k=>match h[k]? with
  | some (.row _ c I)=>(T t=some (.sl c),.val (.i .i64) (I.length:Int))
  | some (.frz c I)=>(T t=some (.sl c),.val (.i .i64) (I.length:Int))
  | some (.tre _ _ c I)=>(T t=some (.sl c),.val (.i .i64) (I.length:Int))
  | some (.trh _ _ c I _ _)=>(T t=some (.sl c),.val (.i .i64) (I.length:Int))
  | _=>(False,.junk)
 | .sub _ _ _ n=>(∃c,T t=some (.sl c),.val (.i .i64) (n:Int))
 | .val (.arr n c) _=>(T t=some (.arr n c),.val (.i .i64) (n:Int))
 | _=>(False,.junk)
def cL:Obj→Obj
 | .frz t I=>.frz t I
 | _=>.dead
def aPZ(h:List Obj)(c:Ty)(x:AV):Option (List c.den):=AV.as (h.map cL) (.sl c) x
def aDO(T:Tab)(h:List Obj)(t:TypeId)(x:AV)(lo hi mx:Option AV):Prop×AV :=
 match T t with
 | some .str=>match x,mx with
  | .val .str s,none=>match lo.map tL,hi.map tL with
   | none,none=>(True,.val .str s)
   | some (some l),none=>(0≤l∧l≤(s.length:Int),.val .str (s.drop l.toNat))
   | none,some (some u)=>(0≤u∧u≤(s.length:Int),.val .str (s.take u.toNat))
   | some (some l),some (some u)=>(0≤l∧l≤u∧u≤(s.length:Int),.val .str ((s.take u.toNat).drop l.toNat))
   | _,_=>(False,.junk)
  | _,_=>(False,.junk)
 | some (.sl c)=>match aPZ h c x with
  | some I=>match lo.map tL,hi.map tL,mx.map tL with
   | none,none,none=>(True,.val (.sl c) I)
   | some (some l),none,none=>(0≤l∧l≤(I.length:Int),.val (.sl c) (I.drop l.toNat))
   | none,some (some u),none=>(0≤u∧u≤(I.length:Int),.val (.sl c) (I.take u.toNat))
   | some (some l),some (some u),none=>(0≤l∧l≤u∧u≤(I.length:Int),.val (.sl c) ((I.take u.toNat).drop l.toNat))
   | none,some (some u),some (some m)=>(0≤u∧u≤(I.length:Int)∧m=u,.full c (I.take u.toNat))
   | some (some l),some (some u),some (some m)=>(0≤l∧l≤u∧u≤(I.length:Int)∧m=u,.full c ((I.take u.toNat).drop l.toNat))
   | _,_,_=>(False,.junk)
  | none=>(False,.junk)
 | _=>(False,.junk)
def aT8(c:Ty):AV:=.val c c.zero
def oV:Ty→List AV
 | .pair a r=>aT8 a::oV r
 | _=>[]
def aSP:List AV→List (Nat×AV)→List AV
 | l,[]=>l
 | l,(k,v)::r=>aSP (l.set k v) r
def Ty.flds:Ty→List Ty
 | .pair a r=>a::r.flds
 | _=>[]
def aB9(ts:List Ty):List (Nat×AV)→Prop
 | []=>True
 | (k,v)::r=>(v.solid1=true∧ ∃t,ts[k]? = some t∧v.nc1=t.cells)∧aB9 ts r
def aLE(c:Ty):List c.den→List (Nat×AV)→Option (List c.den)
 | l,[]=>some l
 | l,(k,v)::r=>match AV.as [] c v with
  | some x=>if k<l.length then aLE c (l.set k x) r else none
  | none=>none
def aBi(c:Ty)(l:List AV):AV :=
 match AV.as [] c (.agg l) with
 | some x=>.val c x
 | none=>.agg l
def aCa(T:Tab)(t:TypeId)(ps:List (Nat×AV)):Prop×AV :=
 match T t with
 | some (.pair a r)=>((Ty.pair a r).okB=true∧aB9 (Ty.pair a r).flds ps,aBi (.pair a r) (aSP (oV (.pair a r)) ps))
 | some .unit=>(ps= [],.val .unit ())
 | some .expr=>(aB9 [.i .i64,.str,.sl .expr] ps,aBi .expr (aSP [.val (.i .i64) 0,.val .str [],.nilS] ps))
 | some (.arr n c)=>match aLE c (List.replicate n c.zero) ps with
  | some l=>(c.okB=true,.val (.arr n c) l)
  | none=>(False,.junk)
 | _=>(False,.junk)
def eZ:Ty→List AV
 | .pair (.sl _) r=>.nilS::eZ r
 | .pair a r=>.val a a.zero::eZ r
 | _=>[]
def aCb:Ty→Bool
 | .pair _ r=>aCb r
 | .unit=>true
 | _=>false
def aEY(T:Tab)(t:TypeId)(ps:List (Nat×AV)):Prop×AV :=
 match T t with
 | some (.pair a r)=>((Ty.pair a r).okB=true∧aB9 (Ty.pair a r).flds ps,.agg (aSP (eZ (.pair a r)) ps))
 | _=>(False,.junk)
def qD(T:Tab)(t:TypeId)(n:Nat)(ps:List (Nat×AV)):Prop×AV :=
 match T t with
 | some (.sl c)=>match aLE c (List.replicate n c.zero) ps with
  | some l=>(c.okB=true∧n*c.cells≤16777216∧n≤maxLen,.full c l)
  | none=>(False,.junk)
 | _=>(False,.junk)
def mm2(mx:Bool):AV→AV→Prop×AV
 | .val (.i k) a,.val (.i I) b=>if I=k then (True,.val (.i k) (if mx then max a b else min a b)) else (False,.junk)
 | .val (.u k) a,.val (.u I) b=>if I=k then (True,.val (.u k) (if mx then max a b else min a b)) else (False,.junk)
 | _,_=>(False,.junk)
def aT9(mx:Bool):List AV→Prop×AV
 | [x,y]=>mm2 mx x y
 | [x,y,z]=>((mm2 mx x y).1∧(mm2 mx (mm2 mx x y).2 z).1,(mm2 mx (mm2 mx x y).2 z).2)
 | _=>(False,.junk)
def uL:(t:Ty)→t.den→List AV
 | .pair a r,x=>.val a x.1::uL r x.2
 | _,_=>[]
def aUa:(r:RK)→r.ty.den→AV
 | .one t,x=>.val t x
 | .tup t,x=>.tup (uL t x)
 | _,_=>.junk
def Ty.scalar:Ty→Bool
 | .bool=>true
 | .u _=>true
 | .i _=>true
 | .str=>true
 | .unit=>true
 | .pair a b=>a.scalar&&b.scalar
 | .arr _ t=>t.scalar
 | _=>false
def sC(h:List Obj):(t:Ty)→List AV→Option t.den
 | .unit,[]=>some ()
 | .pair a r,v::vs=>match AV.as h a v,sC h r vs with
  | some x,some y=>some (x,y)
  | _,_=>none
 | _,_=>none
def zQ(Γ:FuncId→List AV→Option aF)(h:List Obj)(f:FuncId)(vs:List AV):Prop×AV :=
 match Γ f vs with
 | some sp=>match sp.res with
  | .own _ _=>(False,.junk)
  | _=>match sC (if sp.res.ty.scalar then h else h.map cL) sp.args vs with
   | some x=>(sp.pre x,aUa sp.res (sp.fn x))
   | none=>(False,.junk)
 | none=>(False,.junk)
end Go.Vc
namespace Go.Vc
open Go.RowKit
theorem lK(b off j:Nat):(Addr.mk b off none).add j=⟨b,off+j,none⟩:=by
 grind[Addr.add]
theorem aH1{c:Ctx}{w:World}{v:AV}{cs:List Value}(N:v.solid1=true)(J:aE c w v cs):∀u∈cs,one u:=by
 cases v<;>simp[AV.solid1] at N<;>simp only[aE] at J
 case val t x=>grind[aJ.one]
 case full t xs=>obtain⟨a,n,e,_⟩:=J; subst e; intro u I; simp at I; subst I; trivial
 case ptr i p=>obtain⟨_,b,_,e⟩:=J; subst e; intro u I; simp at I; subst I; trivial
 case roa t x=>obtain⟨b,off,ds,e,_⟩:=J; subst e; intro u I; simp at I; subst I; trivial
 case fn f a b=>rw[J.2.2]; intro u I; simp at I; subst I; trivial
 case own i=>simp_all
 case mp i=>simp_all
 all_goals (rw[J]; intro u I; simp at I; subst I; trivial)
theorem aEZ{c:Ctx}{w:World}{v:AV}{cs:List Value}(J:v.solid=true)(N:aE c w v cs):∀u∈cs,one u:=by
 cases v
 case agg vs =>
  simp only[aE] at N;simp only[AV.solid] at J
  induction vs generalizing cs with
  | nil=>grind[fP]
  | cons v r U =>
   simp only[List.all_cons,Bool.and_eq_true] at J;simp only[fP] at N;obtain⟨c1,c2,e,Y,h2⟩:=N;intro u I;rw[e] at I;rcases List.mem_append.1 I with I|I
   ·exact aH1 J.1 Y u I
   ·have hs2:=J.2; exact U (by assumption) (by assumption) u I
 all_goals grind[AV.solid,aH1]
def mkV(agg:Bool)(ds:List Value):Value:=if agg then .agg ds.toArray else ds.headD Go.undef
theorem aZB{c:Ctx}{w:World}{v:AV}{ds:List Value}(hs:v.solid=true)(hr:aE c w v ds)(hn:v.isAgg=false→ds.length=1):aG c w v (mkV v.isAgg ds):=by
 have Y:=aEZ hs hr;have I:mH c w v (mkV v.isAgg ds):=by
  unfold mkV;cases N:v.isAgg
  ·have U:=hn N
   match ds,U with
   | [u],_ =>
    have J:=Y u (by simp);simp only[Bool.false_eq_true,if_false,List.headD_cons];refine⟨?_,(fun h=>by simp_all),(fun _ cs e=>by subst e; exact J)⟩;have:u.cells.toList= [u]:=(by cases u<;>first|rfl|exact J.elim);simp_all
  ·simp only[if_true];exact⟨by grind[Value.cells],fun _=>⟨_,rfl⟩,fun h=>by simp_all⟩
 cases v<;>first|exact I|grind[AV.solid,AV.solid1]
section
variable {P:Program} {T:Tab} {M:Perm} {w0:World} {c:Ctx} {h:List Obj} {w:World}
theorem zS{t:TypeId}{N:Ty}(J:uT P T t N){v:AV}{ds:List Value}{b off:Nat}(hs:v.solid=true)(Y:N.isAgg=v.isAgg)(hn:N.cells=v.nc)(hr:aE c w v ds)(hc:aY w b off ds) :
  ∃u,(loadVar t ⟨b,off,none⟩).run P w= .ok u w∧aG c w v u:=by
 have U:=aHZ hs hr;have h1:v.isAgg=false→ds.length=1:=fun h0=>by
  rw[U,← hn]; rw[h0] at Y;cases N<;>simp_all[Ty.isAgg,Ty.cells]
 refine⟨mkV v.isAgg ds,?_,aZB hs hr h1⟩;unfold loadVar;rw[Sem.run_bind,yI J,Result.andThen_ok,Y];cases hb:v.isAgg
 ·match ds,h1 hb with
  | [u],_ =>
   have:=hc 0 u rfl;simp_all[Nat.add_zero,mkV,load,Sem.run]
 ·have I:=run_loadCells_list (P:=P) w ⟨b,off,none⟩ ds (fun j u hj=>by rw[lK]; exact hc j u hj);rw[U,← hn] at I;simp[cE J,I,mkV]
theorem lQ{b:Nat}{cells:Array Value}{e:TypeId}{fz:Nat×Nat}(hb:w.heap[b]? = some (.cells cells e fz)){pre ds post:List Value}(hc:cells.toList=pre++ds++post):aY w b pre.length ds:=by
 intro j v I;grind[World.cell?,aBf]
theorem uU{b off:Nat}{cs pre ds post:List Value}(hc:aY w b off cs)(J:cs=pre++ds++post):aY w b (off+pre.length) ds:=by
 intro j v N;have I:j<ds.length:=by
  grind
 have:cs[pre.length+j]? = some v:=by
  grind
 have:=hc _ _ this;grind
theorem aH2:∀(t:Ty) (x:t.den) (k:Nat),aA6 t x k= .junk∨ ∃f y,aA6 t x k= .val f y
 | .pair a _,x,0=>.inr ⟨a,x.1,rfl⟩
 | .pair _ r,x,k+1=>aH2 r x.2 k
 | .expr,x,0=>.inr ⟨_,_,rfl⟩
 | .expr,x,1=>.inr ⟨_,_,rfl⟩
 | .expr,x,2=>.inr ⟨_,_,rfl⟩
 | .expr,x,k+3=>.inl rfl
 | .bool,_,_=>.inl rfl
 | .u _,_,_=>.inl rfl
 | .i _,_,_=>.inl rfl
 | .str,_,_=>.inl rfl
 | .sl _,_,_=>.inl rfl
 | .unit,_,_=>.inl rfl
 | .arr _ _,_,_=>.inl rfl
 | .rp _,_,_=>.inl rfl
 | .clo _ _,_,_=>.inl rfl
 | .ifc _ _,_,_=>.inl rfl
 | .nili,_,_=>.inl rfl
 | .nilp,_,_=>.inl rfl
 | .nilf,_,_=>.inl rfl
theorem zT{i:Nat}{p:List Step}{v:Value}(hv:aG c w (.ptr i p) v):i<c.n∧ ∃b,aH (c.hd i)=some b∧v= .pointer (some ⟨b,gD p,none⟩):=by
 obtain⟨I,_,J⟩:=hv;simp only[aE] at I;obtain⟨hi,b,hb,hc⟩:=I;refine⟨hi,b,hb,?_⟩;have J:=J rfl;simp_all[Value.cells,congrArg]
theorem aHC{t:Ty}{x:t.den}{v:Value}(hv:aG c w (.roa t x) v):∃b off ds,v= .pointer (some ⟨b,off,none⟩)∧c.S b∧aJ w c.S t x ds∧aY w b off ds:=by
 obtain⟨I,_,J⟩:=hv;simp only[aE] at I;obtain⟨b,off,ds,hc,h⟩:=I;refine⟨b,off,ds,?_,h⟩;have J:=J rfl;simp_all[Value.cells,congrArg]
theorem aCc{i:Nat}{p:List Step}{b:Nat}(hi:i<c.n)(hb:aH (c.hd i)=some b):aG c w (.ptr i p) (.pointer (some ⟨b,gD p,none⟩)) :=
 ⟨⟨hi,b,hb,rfl⟩,(fun h=>by cases h),(fun _ I=>by simp)⟩
theorem zU{t:Ty}{x:t.den}{b off:Nat}{ds:List Value}(hb:c.S b)(hd:aJ w c.S t x ds)(hc:aY w b off ds):aG c w (.roa t x) (.pointer (some ⟨b,off,none⟩)) :=
 ⟨⟨b,off,ds,rfl,hb,hd,hc⟩,(fun h=>by cases h),(fun _ I=>by simp)⟩
theorem aUb{e:TypeId}{t:Ty}{xs:List t.den}{v:Value}{b:Nat}(hr:uD c w e t xs v)(hb:aH v=some b){k:Nat}(hk:k<xs.length) :
  ∃ds,aJ w c.S t (xs.getD k t.zero) ds∧aY w b (k*t.cells) ds:=by
 obtain⟨U,J,_,I,hcs,hl,N⟩:=hr;obtain⟨hlen,hv⟩:=J;rcases hv with⟨rfl,h0⟩|⟨g,cap,cur,rfl,_,hheap,hle,Y,hsz,htake⟩
 ·omega
 ·simp[aH] at hb;subst hb;refine⟨I[k],?_,?_⟩
  ·simp_all
  ·obtain⟨pre,post,hf,hp⟩:=gS (t:=t) (css:=I) (fun j hj=>aJ.length _ _ _ (N j (by omega) hj)) k (by omega);grind[List.append_assoc,List.take_append_drop,lQ]
theorem aSQ{i b k:Nat}{e:TypeId}{m:Mk}{t:Ty}{xs:List t.den}{v:AV}(J:zL c w i (.trh e m t xs k v))(hb:aH (c.hd i)=some b):∃ds,aE c w v ds∧aY w b (k*t.cells) ds:=by
 obtain⟨I,Bs,q⟩:=J;have hk:=q.kl;have hlc:=q.lc;have hlb:=q.lb;rcases q.row.2 with⟨_,h0⟩|⟨g,cap,cur,U,_,hheap,hle,Y,hsz,htake⟩
 ·omega
 ·rw[U] at hb;simp[aH] at hb;subst hb;obtain⟨N,hv2⟩:=q.hv (by omega);refine⟨I[k],N,?_⟩;obtain⟨pre,post,hf,hp⟩:=gS (t:=t) (css:=I) (fun j hj=>by
   by_cases e:j=k
   ·simp_all
   ·exact fQ.length _ _ _ _ _ (q.el j (by omega) hj (by omega) e)) k (by omega)
  grind[List.append_assoc,List.take_append_drop,lQ]
theorem aRh(hT:eO P T)(hg:Good M w0 c h w){t:TypeId}{av:AV}{v:Value}(hv:aG c w av v)(hc:(aBg T h t av).1) :
  ∃u,(Instr.loadAt t v).run P w= .ok u w∧aG c w (aBg T h t av).2 u:=by
 cases av with
 | roa J x =>
  simp only[aBg] at hc ⊢;obtain⟨b,off,ds,rfl,hb,hd,hcell⟩:=aHC hv;have hTy:=hT _ _ hc;obtain⟨u,hu,hr⟩:=zS (v:=.val J x) (c:=c) hTy rfl rfl rfl hd hcell;grind[Instr.loadAt,Instr.sureAddr]
 | ptr i p =>
  obtain⟨hi,b,hb,rfl⟩:=zT hv;simp only[aBg] at hc ⊢;cases ho:h[i]? with
  | none=>simp_all
  | some o =>
   have U:=hg.objs i o ho;cases o with
   | box nb v =>
    simp only[ho] at hc ⊢;obtain⟨h1,I,J,h3,Y,h5⟩:=hc;obtain⟨b',cells,e,hhd,hheap,hsz,hcr⟩:=U;rw[hhd] at hb;simp[aH] at hb;subst hb;have hj:(nW v p).2≠ .junk:=fun e=>(by rw[e] at I; cases I);obtain⟨pre,ds,post,e1,hp,hd⟩:=aDL p v _ hcr h1 hj;obtain⟨u,hu,hr⟩:=zS (hT _ _ h3) I Y h5 hd (lQ hheap e1);grind[Instr.loadAt,Instr.sureAddr]
   | row e J xs =>
    simp only[ho] at hc ⊢;cases p with
    | nil=>simp_all
    | cons s p =>
     cases s with
     | fld _ _=>simp_all
     | idx s k =>
      simp only at hc ⊢;obtain⟨hk,hs,h1,I,c',h3,Y,h5⟩:=hc;obtain⟨ds,N,hcell⟩:=aUb U hb hk;have hj:(nW (.val J (xs.getD k J.zero)) p).2≠ .junk:=fun e=>(by rw[e] at I; cases I);obtain⟨pre,ds',post,e1,hp,hd⟩:=aDL p (.val J (xs.getD k J.zero)) ds N h1 hj;obtain⟨u,hu,hr⟩:=zS (hT _ _ h3) I Y h5 hd (uU hcell e1);grind[Instr.loadAt,Instr.sureAddr,gD,Step.off]
   | trh e m J xs kk v =>
    simp only[ho] at hc ⊢;cases p with
    | nil=>simp_all
    | cons s p =>
     cases s with
     | fld _ _=>simp_all
     | idx s k =>
      simp only at hc ⊢;obtain⟨rfl,hs,h1,I,c',h3,Y,h5⟩:=hc;obtain⟨ds,N,hcell⟩:=aSQ U hb;have hj:(nW v p).2≠ .junk:=fun e=>(by rw[e] at I; cases I);obtain⟨pre,ds',post,e1,hp,hd⟩:=aDL p v ds N h1 hj;obtain⟨u,hu,hr⟩:=zS (hT _ _ h3) I Y h5 hd (uU hcell e1);grind[Instr.loadAt,Instr.sureAddr,gD,Step.off]
   | _=>simp_all
 | _=>exact hc.elim
theorem aH3:∀ {N:List Field} {off:Nat} {t:Ty} {k:Nat},bS T N off t=true→oJ.fldT t k→ ∃f,N[k]? = some f∧f.offset=off+t.fieldOff k∧ ∃J,T f.type=some J∧0<J.cells∧(∀x,∃y,aA6 t x k= .val J y)
 | [],off,.unit,k,_,U=>U.elim
 | f::N,off,.pair a r,0,I,_=>by
  simp only[bS,Bool.and_eq_true,decide_eq_true_eq] at I;exact⟨f,rfl,by rw[I.1.1.1.2]; rfl,a,I.1.1.1.1,I.1.2,fun x=>⟨x.1,rfl⟩⟩
 | f::N,off,.pair a r,k+1,I,U=>by
  simp only[bS,Bool.and_eq_true,decide_eq_true_eq] at I;obtain⟨f',h1,h2,J,Y⟩:=aH3 I.2 (show oJ.fldT r k from U);exact⟨f',by simp_all,by grind[Ty.fieldOff],J,Y.1,Y.2.1,fun x=>Y.2.2 x.2⟩
 | [],_,.pair _ _,_,I,_=>by grind[bS]
 | _::_,_,.unit,_,I,_=>by grind[bS]
theorem aCd{s:TypeId}{N:Ty}(U:uT P T s N){k:Nat}(ha:N.isAgg=true)(J:oJ.fldT N k) :
  ∃I f,P.underlying s=some (.struct I)∧I[k]? = some f∧f.offset=N.fieldOff k∧ ∃c',T f.type=some c'∧0<c'.cells∧(∀x,∃y,aA6 N x k= .val c' y):=by
 obtain⟨d,hd,hb⟩:=U.desc;cases N<;>first|grind[Ty.isAgg]|skip
 all_goals (cases d<;>first|grind[dM]|simp only[dM] at hb)
 case unit.struct I=>exact J.elim
 case pair.struct a r I =>
  obtain⟨f,h1,h2,h3⟩:=aH3 hb J;simp_all
 case arr.array=>exact J.elim
 case expr.struct I =>
  unfold aRc at hb;split at hb
  ·rename_i f0 f1 f2 Y;simp only[Bool.and_eq_true,decide_eq_true_eq] at hb;obtain⟨⟨⟨⟨⟨h1,h2⟩,h3⟩,h4⟩,h5⟩,h6⟩:=hb;have J:k<3:=J;have hget:∀j,I[j]? = [f0,f1,f2][j]? := fun j=>by rw[← Y,Array.getElem?_toList]
   match k,J with
   | 0,_=>exact⟨I,f0,hd,by simp_all,h2,.i .i64,h1,Nat.one_pos,fun x=>⟨_,rfl⟩⟩
   | 1,_=>exact⟨I,f1,hd,by simp_all,h4,.str,h3,Nat.one_pos,fun x=>⟨_,rfl⟩⟩
   | 2,_=>exact⟨I,f2,hd,by simp_all,h6,.sl .expr,h5,Nat.one_pos,fun x=>⟨_,rfl⟩⟩
  grind
theorem aRi{t:Ty}:∀ {x:t.den} {k:Nat},aA6 t x k≠ .junk→oJ.fldT t k:=by
 induction t with
 | pair a r _ I=>intro x k h; cases k with
  | zero=>trivial
  | succ k=>exact I h
 | expr=>intro x k h; match k with
  | 0=>exact(by omega:0<3)
  | 1=>exact(by omega:1<3)
  | 2=>exact(by omega:2<3)
  | k+3=>exact absurd rfl h
 | _=>intro x k h; exact absurd rfl h
theorem aBj{f:Field}{J:Ty}(I:uT P T f.type J)(N:0<J.cells)(b off:Nat):(fieldPlace ⟨b,off,none⟩ f).run P w= .ok ⟨b,off+f.offset,none⟩ w:=by
 have:¬J.cells=0:=by omega
 simp[fieldPlace,cE I,this,Result.andThen,lK]
theorem zV:∀(p q:List Step),gD (p++q)=gD p+gD q
 | [],q=>by simp[gD]
 | s::p,q=>by simp[gD,zV p q]; omega
theorem aUc(Y:eO P T){s:TypeId}{av:AV}{v:Value}{k:Nat}(hv:aG c w av v)(hc:(oJ T s av k).1) :
  ∃u,(Instr.fieldAt s v k).run P w= .ok u w∧aG c w (oJ T s av k).2 u:=by
 cases av with
 | ptr i p =>
  obtain⟨hi,b,hb,rfl⟩:=zT hv;simp only[oJ] at hc ⊢;cases ht:T s with
  | none=>simp_all
  | some J =>
   simp only[ht] at hc ⊢;obtain⟨fs,f,h1,h2,h3,c',h4,h5,_⟩:=aCd (Y _ _ ht) hc.1 hc.2;refine⟨.pointer (some ⟨b,gD (p++ [.fld (J.fieldOff k) k]),none⟩),?_,aCc hi hb⟩;have I:=aBj (w:=w) (Y _ _ h4) h5 b (gD p);simp[Instr.fieldAt,aI h1,h2,Instr.sureAddr,I,Result.andThen,zV,gD,Step.off,h3]
 | roa J x =>
  obtain⟨b,off,ds,rfl,hb,hd,hcell⟩:=aHC hv;simp only[oJ] at hc ⊢;rcases aH2 J x k with hj|⟨f,y,hf⟩
  ·simp_all
  ·simp only[hf] at hc ⊢;have N:aA6 J x k≠ .junk:=(by simp_all);have hag:J.isAgg=true:=by
    cases J<;>first|rfl|exact absurd rfl N
   obtain⟨fs,fd,h1,h2,h3,c',h4,h5,h6⟩:=aCd (Y _ _ hc) hag (aRi N);obtain⟨pre,ds',post,e,hp,U⟩:=aDK (c:=c) J x k ds hd N;rw[hf] at U;have hcell':=uU hcell e;rw[hp] at hcell';refine⟨.pointer (some ⟨b,off+J.fieldOff k,none⟩),?_,zU hb U hcell'⟩;have I:=aBj (w:=w) (Y _ _ h4) h5 b off;simp[Instr.fieldAt,aI h1,h2,Instr.sureAddr,I,Result.andThen,h3]
 | _=>exact hc.elim
theorem aUd:∀ {t:Ty} {k:Nat} {c':Ty},t.fldTy k=some c'→oJ.fldT t k∧ ∀x:t.den,∃y,aA6 t x k= .val c' y:=by
 intro t
 induction t with
 | pair a r _ J =>
  intro k c' h;cases k with
  | zero=>simp only[Ty.fldTy,Option.some.injEq] at h; subst h; exact⟨trivial,fun x=>⟨x.1,rfl⟩⟩
  | succ k=>obtain⟨I,N⟩:=J (show r.fldTy k=some c' from h); exact⟨I,fun x=>N x.2⟩
 | _=>grind[Ty.fldTy]
theorem aSR{t:TypeId}{N:Ty}(J:uT P T t N){cs:Array Value}{pre ds post:List Value}(hcs:cs.toList=pre++ds++post){v:AV}(hs:v.solid1=true)(ha:N.isAgg=v.isAgg)(hn:N.cells=v.nc1)(hd:aE c w v ds)(w':World) :
  ∃u,(part t cs pre.length).run P w'= .ok u w'∧aG c w v u:=by
 have hl:=aC6 hs hd;have Y:∀u:Value,mH c w v u→aG c w v u:=fun u h=>by cases v<;>first|exact h|grind[AV.solid1]
 by_cases U:N.isAgg=true
 ·refine⟨.agg (cs.extract pre.length (pre.length+N.cells)),?_,Y _ ⟨?_,fun _=>⟨_,rfl⟩,fun h=>by simp_all⟩⟩
  ·simp[part,yI J,U,cE J,Result.andThen]
  simp_all[Value.cells,aPV]
 ·have h1:N.cells=1:=by cases N<;>simp_all[Ty.isAgg,Ty.cells]
  obtain⟨u,rfl⟩:∃u,ds= [u]:=by
   match ds,hl.trans (hn.symm.trans h1) with
   | [u],_=>simp_all
  have I:=aEZ (v:=v) (c:=c) (w:=w) (by cases v<;>first|exact hs|grind[AV.solid1]) hd u (by simp);refine⟨u,?_,Y _ ⟨?_,fun h=>absurd (ha.trans h) U,fun _ cs' e=>by subst e; exact I.elim⟩⟩
  ·have:=aBf hcs 0 (v:=u) rfl;simp only[Nat.add_zero] at this;simp[part,yI J,U,this]
  ·cases u<;>first|exact hd|exact I.elim
theorem aUe(hT:eO P T){s:TypeId}{av:AV}{v:Value}{k:Nat}(hv:aG c w av v)(hc:(aB8 T s av k).1) :
  ∃u,(Instr.field s v k).run P w= .ok u w∧aG c w (aB8 T s av k).2 u:=by
 cases av with
 | val U x =>
  simp only[aB8] at hc ⊢;obtain⟨ht,hj⟩:=hc;have I:U.isAgg=true:=by cases U<;>first|rfl|exact absurd rfl hj
  obtain⟨fs,fd,h1,h2,h3,c',h4,h5,h6⟩:=aCd (hT _ _ ht) I (aRi hj);obtain⟨y,hy⟩:=h6 x;obtain⟨J,Y,_⟩:=hv;obtain⟨cs,rfl⟩:=Y I;simp only[aE,Value.cells] at J;obtain⟨pre,ds',post,e,hp,N⟩:=aDK (c:=c) U x k _ J hj;rw[hy] at N ⊢;obtain⟨u,hu,hr⟩:=wB (hT _ _ h4) e N w;simp_all[Instr.field,aI,asAgg,aG.ofV]
 | agg vs =>
  simp only[aB8] at hc ⊢;obtain⟨U,ht,hs,hs1,hoff,c',hf,ha,hn⟩:=hc;obtain⟨hft,hfv⟩:=aUd hf;have I:U.isAgg=true:=by cases U<;>first|rfl|grind[Ty.fldTy]
  obtain⟨fs,fd,h1,h2,h3,c'',h4,h5,h6⟩:=aCd (hT _ _ ht) I hft;obtain⟨y,hy⟩:=h6 U.zero;obtain⟨y',hy'⟩:=hfv U.zero;have ec:c''=c':=by simp_all
  subst ec;obtain⟨J,Y,_⟩:=hv;obtain⟨cs,rfl⟩:=Y rfl;have hj:(bN (.agg vs) k).1≠ .junk:=fun e=>by rw[e] at hs1; cases hs1
  obtain⟨pre,ds',post,e,hp,N⟩:=aH0 (c:=c) (.agg vs) k _ hs J hj;simp only[Value.cells] at e;obtain⟨u,hu,hr⟩:=aSR (hT _ _ h4) e hs1 ha hn N w;simp_all[Instr.field,aI,asAgg]
 | _=>exact hc.elim
end
end Go.Vc

