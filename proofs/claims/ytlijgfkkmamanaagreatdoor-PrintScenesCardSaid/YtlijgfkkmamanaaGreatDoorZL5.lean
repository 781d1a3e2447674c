import Derived.Test.YtlijgfkkmamanaaGreatDoorZL4
import Derived.ProofKit
import Derived.OpenShut
import Derived.Below
import Derived.Recover
set_option linter.unusedVariables false
set_option linter.unusedSimpArgs false
namespace Go.Vc
open Go.RowKit
structure Pan where
 k:TypeId
 t:Ty
 x:t.den
inductive bLy where
 | ret (v:AV) (h:List Obj)
 | pan (p:Pan) (h:List Obj)
structure fH where
 D:Type
 av:D→List AV
 hp:D→List Obj
 m:Nat
 pre:D→Prop
 out:D→bLy
def GM(sp:fH)(c:Ctx)(d:sp.D):Perm:=⟨fun b=>∃i o,(sp.hp d)[i]? = some o∧fA c i o b,c.S,sp.m,c.hd⟩
structure GIn(G:Nat→AV)(sp:fH)(c:Ctx)(w:World)(d:sp.D)(vs:List Value):Prop where
 good:Good (GM sp c d) w c (sp.hp d) w
 glob:uD G c.S w
 len:vs.length=(sp.av d).length
 val:∀i (h1:i<(sp.av d).length) (h2:i<vs.length),aX c w (sp.av d)[i] vs[i]
def aWL(k:TypeId)(u:Value):List PanicEntry:=[{ v:=.iface k u,recovered:=false,goexit:=false }]
def aNT(sp:fH)(c:Ctx)(w:World)(d:sp.D)(e:Ending)(w':World):Prop :=
 ∃c',match sp.out d with
  | .ret v h'=>∃u,e= .returned u∧Good (GM sp c d) w c' h' w'∧aX c' w' v u
  | .pan p h'=>∃u,e= .panicked (aWL p.k u)∧Good (GM sp c d) w c' h' w'∧dU w' c'.S p.t p.x u
def GOK(P:Program)(G:Nat→AV)(f:FuncId)(sp:fH):Prop :=
 ∀(c:Ctx) (w:World) (d:sp.D) (vs:Array Value),sp.pre d→GIn G sp c w d vs.toList→Calls P f vs w (aNT sp c w d)
def bCH(f:List Nat):List Nat→Option (List Nat)
 | []=>some []
 | i::r=>match f[i]?,bCH f r with
  | some j,some l=>some (j::l)
  | _,_=>none
def aS4(g:List Nat):AV→AV
 | .own i=>match g[i]? with
  | some j=>.own j
  | none=>.junk
 | .ptr i p=>match g[i]? with
  | some j=>.ptr j p
  | none=>.junk
 | .sub i s off n=>match g[i]? with
  | some j=>.sub j s off n
  | none=>.junk
 | .mp i=>match g[i]? with
  | some j=>.mp j
  | none=>.junk
 | .fn f q l2=>match bCH g q,bCH g l2 with
  | some q,some l2=>.fn f q l2
  | _,_=>.junk
 | .agg _=>.junk
 | .flat _=>.junk
 | .tup _=>.junk
 | v=>v
def aH4(f:List Nat):AV→AV
 | .agg g=>.agg (g.map (aS4 f))
 | v=>aS4 f v
def emb(f:List Nat):AV→AV
 | .tup g=>.tup (g.map (aH4 f))
 | v=>aH4 f v
def aUY(f:List Nat):Obj→Obj
 | .box n v=>.box n (aH4 f v)
 | .trh e m t g k v=>.trh e m t g k (aH4 f v)
 | o=>o
def aGb:List (Nat×Obj)→List Obj→List Obj
 | [],h=>h
 | (i,o)::r,h=>aGb r (h.set i o)
def tZ(σ:List Nat)(m n k:Nat):List Nat:=σ.take m++List.range' n (k-m)
def aGc(σ:List Nat)(m:Nat)(h h':List Obj):List Obj :=
 aGb ((σ.take m).zip ((h'.take m).map (aUY (tZ σ m h.length h'.length)))) (qJ (σ.drop m) h)++(h'.drop m).map (aUY (tZ σ m h.length h'.length))
section
variable {P:Program} {E:Env} {M:Perm} {w0:World} {c c':Ctx} {h:List Obj} {w w':World}
structure Emb(μ:List Nat)(c' cN:Ctx):Prop where
 S:∀b,c'.S b→cN.S b
 hd:∀i j,μ[i]? = some j→j<cN.n∧cN.hd j=c'.hd i
theorem bD7{q:List Nat}{cN:Ctx}(g:Emb q c' cN):∀ {l f:List Nat},bCH q l=some f→(∀j∈f,j<cN.n)∧f.map cN.hd=l.map c'.hd
 | [],f,h=>by simp[bCH] at h; simp_all
 | i::r,f,h=>by
  simp only[bCH] at h;split at h
  ·rename_i j l I z;cases h;obtain⟨O,L⟩:=g.hd i j I;obtain⟨N,J⟩:=bD7 g z;simp_all
  grind
theorem aUZ{J:List Nat}{cN:Ctx}(g:Emb J c' cN):∀ {v:AV} {cs:List Value},aO c' w v cs→aO cN w (aS4 J v) cs:=by
 intro v cs q;have L:c'.le ⟨cN.S,c'.hd,c'.n,c'.bl⟩:=⟨g.S,Nat.le_refl _,fun _ _=>rfl⟩;cases v<;>simp only[aS4]<;>(try trivial)
 case own i =>
  split
  ·rename_i j hp;obtain⟨I,z⟩:=g.hd i j hp;grind[aO]
  ·trivial
 case ptr i p =>
  split
  ·rename_i j hp;obtain⟨I,z⟩:=g.hd i j hp;grind[aO]
  ·trivial
 case sub i s off n =>
  split
  ·rename_i j hp;obtain⟨I,z⟩:=g.hd i j hp;grind[aO]
  ·trivial
 case mp i =>
  split
  ·rename_i j hp;obtain⟨I,z⟩:=g.hd i j hp;grind[aO]
  ·trivial
 case fn f l1 l2 =>
  grind[bD7,aO]
 case val t x=>exact bB.keep g.S (.refl _ _) t x cs q
 case full t xs =>
  simp only[aO] at q ⊢;obtain⟨a,n,e,hs⟩:=q;exact⟨a,n,e,hs.keep g.S (.refl _ _) (fun x cs=>bB.keep g.S (.refl _ _) t x cs)⟩
 case roa t x =>
  simp only[aO] at q ⊢;obtain⟨b,off,ds,e,hb,hd,hc⟩:=q;exact⟨b,off,ds,e,g.S b hb,bB.keep g.S (.refl _ _) t x ds hd,hc⟩
 all_goals exact q
theorem bAP{g:List Nat}{cN:Ctx}(f:Emb g c' cN):∀ {vs:List AV} {cs:List Value},nD c' w vs cs→nD cN w (vs.map (aS4 g)) cs
 | [],_,I=>I
 | v::r,_,⟨c1,q,e,J,z⟩=>⟨c1,q,e,aUZ f J,bAP f z⟩
theorem aNU{f:List Nat}{cN:Ctx}(q:Emb f c' cN){v:AV}{cs:List Value}(g:aO c' w v cs):aO cN w (aH4 f v) cs:=by
 cases v
 case agg vs=>exact bAP q g
 all_goals exact aUZ q g
theorem bGF(f:List Nat)(v:AV):aH4 f v= .junk∨(aH4 f v).isAgg=v.isAgg:=by
 cases v<;>simp only[aH4,aS4]<;>first|exact .inr trivial|exact .inl trivial|exact .inr rfl|exact .inl rfl|grind[AV.isAgg]
theorem aXV{f:List Nat}{cN:Ctx}(I:Emb f c' cN){v:AV}{x:Value}(g:zM c' w v x)(z:aH4 f v≠ .junk):zM cN w (aH4 f v) x:=by
 have q:=(bGF f v).resolve_left z;exact⟨aNU I g.1,by rw[q]; exact g.2.1,by rw[q]; exact g.2.2⟩
theorem bLz(f:List Nat)(v:AV):aH4 f v= .undef→v= .undef:=by
 cases v<;>simp only[aH4,aS4]<;>first|exact fun _=>trivial|(intro h; cases h; done)|grind|grind
theorem bJn(f:List Nat)(v:AV)(vs:List AV):aH4 f v≠ .tup vs:=by
 cases v<;>simp only[aH4,aS4]<;>first|(intro h; cases h; done)|grind
theorem bJo{f:List Nat}{cN:Ctx}(J:Emb f c' cN){v:AV}{x:Value}(I:aX c' w v x)(Y:∀vs,v= .tup vs→ ∀u∈vs,aH4 f u≠ .junk):aX cN w (emb f v) x:=by
 have z:∀v,(∀vs,v≠ .tup vs)→v≠ .junk→v≠ .undef→zM c' w v x→aX cN w (aH4 f v) x:=fun v ht Z hu q=>by
  by_cases g:aH4 f v= .junk
  ·rw[g]; trivial
  ·have:=aXV J q g;have e1:=bLz f v;have N:=bJn f v;generalize aH4 f v=u at this e1 N g;cases u<;>first|exact this|simp_all|simp_all|simp_all
 cases v
 case junk=>trivial
 case undef=>exact I
 case tup vs =>
  obtain⟨L,U,hl,hv⟩:=I;refine⟨L,U,by simp_all,fun i q O=>?_⟩;simp only[List.length_map] at q;simp only[List.getElem_map];exact aXV J (hv i q O) (Y vs rfl _ (List.getElem_mem q))
 all_goals exact z _ (by simp) (by simp) (by simp) I
theorem Good.rebase(f:Good M w0 c h w){m:Nat}(hm:m≤c.n):Good ⟨fun b=>∃i o,h[i]? = some o∧fA c i o b,c.S,m,c.hd⟩ w c h w :=
 ⟨f.n,.refl _ _,f.sfin,fun b hb _=>.inl hb,f.objs,fun i o b g hb=>⟨.inr ⟨i,o,g,hb⟩,(f.own i o b g hb).2⟩,f.sep,hm,fun _ _=>rfl⟩
end
end Go.Vc
namespace Go.Vc
open Go.RowKit
theorem aHw:∀(l:List (Nat×Obj)) (h:List Obj),(aGb l h).length=h.length
 | [],h=>rfl
 | (i,o)::r,h=>by rw[aGb,aHw r]; simp
theorem aNV:∀(l:List (Nat×Obj)) (h:List Obj) (i:Nat),(∀p∈l,p.1≠i)→(aGb l h)[i]? = h[i]?
 | [],h,i,_=>rfl
 | (j,o)::r,h,i,f=>by
  rw[aGb,aNV r _ i (fun p hp=>f p (by simp[hp])),List.getElem?_set_ne (f (j,o) (by simp))]
theorem aXW:∀(l:List (Nat×Obj)) (h:List Obj),(l.map (·.1)).Nodup→(∀p∈l,p.1<h.length)→ ∀p∈l,(aGb l h)[p.1]? = some p.2
 | [],h,_,_,p,hp=>by cases hp
 | (j,o)::r,h,hd,f,p,hp=>by
  simp only[List.map_cons,List.nodup_cons] at hd;rcases List.mem_cons.1 hp with rfl|hp
  ·have:j<h.length:=f (j,o) (by simp);rw[aGb,aNV r _ j (fun q hq e=>hd.1 (List.mem_map.2 ⟨q,hq,e⟩))];simp[this]
  ·rw[aGb];exact aXW r _ hd.2 (fun q hq=>by grind) p hp
section
variable {P:Program} {E:Env} {M:Perm} {w0:World} {c c':Ctx} {h h':List Obj} {w w':World}
def cN(c c':Ctx)(m n':Nat)(σ f:List Nat):Ctx:=⟨fun b=>c.S b∨c'.S b,fun i=>if i<c.n then c.hd i else c'.hd (m+(i-c.n)),c.n+(n'-m),fun i b=>(i<c.n∧i∉σ∧c.bl i b)∨ ∃j:Nat,f[j]? = some i∧c'.bl j b⟩
theorem bMt(c c':Ctx)(m n':Nat)(σ f:List Nat):c.le (cN c c' m n' σ f):=⟨fun b hb=>.inl hb,Nat.le_add_right _ _,fun i hi=>by simp[cN,hi]⟩
theorem Good.frame(f:Good M w0 c h w){σ:List Nat}{m:Nat}(hd:σ.Nodup)(hσ:∀i∈σ,i<h.length)(hm:m≤σ.length){Ml:Perm}(hMr:Ml.rd=c.S)(hMw:∀b,Ml.wr b→ ∃i o,i∈σ∧h[i]? = some o∧fA c i o b)(hMm:Ml.m=m)(hMd:∀j,j<m→Ml.roots j=c.hd (σ.getD j 0))
  (O:Good Ml w c' h' w'):Good M w0 (cN c c' m h'.length σ (tZ σ m h.length h'.length)) (aGc σ m h h') w'∧eI c w (cN c c' m h'.length σ (tZ σ m h.length h'.length)) w'∧Emb (tZ σ m h.length h'.length) c' (cN c c' m h'.length σ (tZ σ m h.length h'.length)):=by
 have hk:=O.keeps;have hroot:=O.root;rw[hMm] at hroot;have hmn:m≤h'.length:=by rw[← O.n]; omega
 have hwrS:∀b,Ml.wr b→b<w.heap.size∧ ¬c.S b∧(w0.heap.size≤b∨M.wr b):=fun b hb=>by
  obtain⟨i,o,hi,z,hob⟩:=hMw b hb;obtain⟨I,U,h3⟩:=f.own i o b z hob;simp_all
 have hlS:aCq c.S w w':=fun b hb=>hk.block b (f.sfin b hb) (fun hw=>(hwrS b hw).2.1 hb);have hl:eI c w (cN c c' m h'.length σ (tZ σ m h.length h'.length)) w':=⟨bMt _ _ _ _ _ _,hlS⟩;have hmu:∀j i,(tZ σ m h.length h'.length)[j]? = some i→(j<m∧i=σ.getD j 0∧i<h.length∧i∈σ)∨(m≤j∧i=h.length+(j-m)∧j<h'.length):=fun j i N=>by
  unfold tZ at N;grind
 have hhd:∀j i,(tZ σ m h.length h'.length)[j]? = some i→i<(cN c c' m h'.length σ (tZ σ m h.length h'.length)).n∧(cN c c' m h'.length σ (tZ σ m h.length h'.length)).hd i=c'.hd j:=fun j i N=>by
  rcases hmu j i N with⟨I,U,h3,_⟩|⟨I,U,h3⟩
  ·refine⟨by simp only[cN]; rw[f.n]; omega,?_⟩;simp only[cN,f.n,h3,if_true];simp_all
  ·refine⟨by simp only[cN]; rw[f.n]; omega,?_⟩;simp only[cN,f.n];grind
 have Y:∀i,i<h.length→i∉σ→(cN c c' m h'.length σ (tZ σ m h.length h'.length)).bl i=c.bl i:=fun i hi hn=>by
  funext b;refine propext ⟨?_,fun hb=>.inl ⟨by rw[f.n]; exact hi,hn,hb⟩⟩;rintro (⟨_,_,hb⟩|⟨j,N,_⟩)
  all_goals grind
 have hnd:∀i j k:Nat,i<m→j<m→σ[i]? = some k→σ[j]? = some k→i=j:=fun i j k hi N I U=>by
  grind[List.getElem?_eq_some_iff,List.getElem?_inj]
 have hblj:∀j i,(tZ σ m h.length h'.length)[j]? = some i→(cN c c' m h'.length σ (tZ σ m h.length h'.length)).bl i=c'.bl j:=fun j i N=>by
  funext b;refine propext ⟨?_,fun hb=>.inr ⟨j,N,hb⟩⟩;rintro (⟨q1,q2,_⟩|⟨j2,hj2,hb⟩)
  ·rcases hmu j i N with⟨_,_,_,q⟩|⟨_,q,_⟩
   ·grind
   ·rw[f.n] at q1; omega
  grind
 have g:Emb (tZ σ m h.length h'.length) c' (cN c c' m h'.length σ (tZ σ m h.length h'.length)):=⟨fun b hb=>.inr hb,hhd⟩;have hcase:∀i o,(aGc σ m h h')[i]? = some o→(i∉σ∧h[i]? = some o)∨o= .dead∨ ∃j L,h'[j]? = some L∧(tZ σ m h.length h'.length)[j]? = some i∧o=aUY (tZ σ m h.length h'.length) L:=fun i o z=>by
  unfold aGc at z;have hlen:(aGb ((σ.take m).zip ((h'.take m).map (aUY (tZ σ m h.length h'.length)))) (qJ (σ.drop m) h)).length=h.length:=by rw[aHw,sW]
  have hmul:(tZ σ m h.length h'.length).length=h'.length:=by
   grind[tZ,List.length_take]
  rcases Nat.lt_or_ge i h.length with hi|hi
  ·rw[List.getElem?_append_left (by omega)] at z;by_cases hin:∃j,j<m∧σ[j]? = some i
   ·obtain⟨j,N,hji⟩:=hin;have hjh:j<h'.length:=(by omega);have J:(i,aUY (tZ σ m h.length h'.length) h'[j])∈(σ.take m).zip ((h'.take m).map (aUY (tZ σ m h.length h'.length))):=by
     refine List.mem_iff_getElem?.2 ⟨j,?_⟩;grind
    have:=aXW _ (qJ (σ.drop m) h) (by
     have:((σ.take m).zip ((h'.take m).map (aUY (tZ σ m h.length h'.length)))).map (·.1)=σ.take m:=by
      grind[List.map_fst_zip,List.length_take]
     grind) (fun p hp=>by
     rw[sW];have:=(List.of_mem_zip hp).1;grind) _ J
    simp only at this;rw[this] at z;cases z;refine .inr (.inr ⟨j,h'[j],List.getElem?_eq_getElem hjh,?_,rfl⟩);unfold tZ;rw[List.getElem?_append_left (by grind),List.getElem?_take,if_pos N]; exact hji
   ·rw[aNV _ _ i (fun p hp e=>by
     have:=(List.of_mem_zip hp).1;grind[List.mem_take_iff_getElem,List.getElem?_eq_getElem])] at z
    by_cases hdrop:i∈σ.drop m
    ·grind[aFr]
    ·rw[aEi _ _ i hdrop] at z;refine .inl ⟨fun J=>?_,z⟩;rw[← List.take_append_drop m σ] at J;rcases List.mem_append.1 J with J|J
     ·obtain⟨j,N,hji⟩:=List.mem_take_iff_getElem.1 J;exact hin ⟨j,by omega,by rw[List.getElem?_eq_getElem (by omega),hji]⟩
     ·exact hdrop J
  grind
 have hobj:∀j L i,h'[j]? = some L→(tZ σ m h.length h'.length)[j]? = some i→aIM (cN c c' m h'.length σ (tZ σ m h.length h'.length)) w' i (aUY (tZ σ m h.length h'.length) L):=fun j L i N hi=>by
  have hr:=O.objs j L N;have hS:c'.le ⟨(cN c c' m h'.length σ (tZ σ m h.length h'.length)).S,c'.hd,c'.n,c'.bl⟩:=⟨g.S,Nat.le_refl _,fun _ _=>rfl⟩;have e:=(hhd j i hi).2;cases L with
  | dead=>trivial
  | box n v =>
   obtain⟨b,cells,et,q1,q2,q3,q4⟩:=hr;exact⟨b,cells,et,by grind,q2,q3,aNU g q4⟩
  | row et t xs =>
   obtain⟨vals,q1,q2⟩:=hr;exact⟨vals,by grind,bB.keep g.S (.refl _ _) _ _ _ q2⟩
  | frz t xs =>
   show bB _ _ _ _ _;rw[e];exact bB.keep g.S (.refl _ _) _ _ _ hr
  | map k v mm =>
   obtain⟨b,es,clock,q1,q2,q3,q4⟩:=hr;exact⟨b,es,clock,by grind,q2,q3,fun x I U=>⟨(q4 x I U).1.keep g.S (.refl _ _),(q4 x I U).2.keep g.S (.refl _ _)⟩⟩
  | tre et mk t xs =>
   obtain⟨B,q1,q2,q3⟩:=hr;exact⟨B,by rw[e]; exact mB.keep g.S (.refl _ _) _ _ _ _ _ (fun _ _=>rfl) q1,q2,by grind⟩
  | trh et mk t xs k v =>
   obtain⟨css,Bs,q⟩:=hr;exact⟨css,Bs,⟨by rw[e]; exact q.row,q.lc,q.lb,q.kl,fun x h I U hne=>mB.keep g.S (.refl _ _) _ _ _ _ _ (fun _ _=>rfl) (q.el x h I U hne),q.hb,fun I=>⟨aNU g (q.hv I).1,(q.hv I).2⟩,by rw[e]; exact q.nd,by rw[e,hblj j i hi]; exact q.bl⟩⟩
 have hown:∀j L i b,h'[j]? = some L→(tZ σ m h.length h'.length)[j]? = some i→fA (cN c c' m h'.length σ (tZ σ m h.length h'.length)) i (aUY (tZ σ m h.length h'.length) L) b→fA c' j L b:=fun j L i b N hi hb=>by
  have e:=(hhd j i hi).2;have e2:=hblj j i hi;cases L<;>simp only[fA,aUY,e,e2] at hb ⊢ <;> exact hb
 have hfar:∀i o b j L,i∉σ→h[i]? = some o→fA c i o b→h'[j]? = some L→ ¬fA c' j L b:=fun i o b j L hi z hb N e=>by
  have I:=(f.own i o b z hb).2.1;rcases (O.own j L b N e).1 with U|U
  ·omega
  ·obtain⟨i',o',hi',ho',hb'⟩:=hMw b U;exact hi (f.sep i i' o o' b z ho' hb hb'▸hi')
 have hfarS:∀i o b,i∉σ→h[i]? = some o→fA c i o b→ ¬c'.S b:=fun i o b hi z hb hS=>by
  have I:=(f.own i o b z hb).2;rcases O.src b hS I.1 with U|U
  ·grind
  ·obtain⟨i',o',hi',ho',hb'⟩:=hMw b U;exact hi (f.sep i i' o o' b z ho' hb hb'▸hi')
 refine⟨⟨?_,⟨hk.os.trans f.keeps.os,hk.tape.trans f.keeps.tape,hk.output.trans f.keeps.output,Nat.le_trans f.keeps.size hk.size,fun b hb hM=>?_⟩,fun b hb=>?_,fun b hb hlt=>?_,fun i o z=>?_,fun i o b z hb=>?_,fun i k oi ok b hi hk' hbi Z=>?_,aCs f.root hl.le⟩,hl,g⟩
 ·unfold aGc cN;simp only[List.length_append,aHw,sW,List.length_map,List.length_drop,f.n]
 ·have hbw:b<w.heap.size:=Nat.lt_of_lt_of_le hb f.keeps.size;rw[hk.block b hbw (fun hw=>?_)]
  ·exact f.keeps.block b hb hM
  grind
 ·rcases hb with hb|hb
  ·exact Nat.lt_of_lt_of_le (f.sfin b hb) hk.size
  ·exact O.sfin b hb
 ·rcases hb with hb|hb
  ·exact f.src b hb hlt
  ·rcases O.src b hb (Nat.lt_of_lt_of_le hlt f.keeps.size) with I|I
   ·rw[hMr] at I; exact f.src b I hlt
   grind
 ·rcases hcase i o z with⟨hi,z⟩|rfl|⟨j,L,N,hij,rfl⟩
  ·exact(f.objs i o z).keep hl (by rw[f.n]; grind) (Y i (yS z) hi) (fun b hb=>hk.block b (f.own i o b z hb).2.1 (fun hw=>by
    obtain⟨i',o',hi',ho',hb'⟩:=hMw b hw;exact hi (f.sep i i' o o' b z ho' hb hb'▸hi')))
  ·trivial
  grind
 ·rcases hcase i o z with⟨hi,z⟩|rfl|⟨j,L,N,hij,rfl⟩
  ·rw[gT hl.le (Y i (yS z) hi) (by rw[f.n]; grind)] at hb;obtain⟨I,U,h3⟩:=f.own i o b z hb;refine⟨I,Nat.lt_of_lt_of_le U hk.size,fun hS=>?_⟩;rcases hS with hS|hS
   all_goals grind
  ·cases hb
  ·have hb:=hown j L i b N hij hb;obtain⟨I,U,h3⟩:=O.own j L b N hb;refine⟨?_,U,fun hS=>?_⟩
   ·rcases I with I|I
    ·exact .inl (Nat.le_trans f.keeps.size I)
    grind
   ·rcases hS with hS|hS
    ·rcases I with I|I
     ·have:=f.sfin b hS; omega
     grind
    grind
 ·rcases hcase i oi hi with⟨hi,z⟩|rfl|⟨j,L,N,hij,rfl⟩
  ·rw[gT hl.le (Y i (yS z) hi) (by rw[f.n]; grind)] at hbi;rcases hcase k ok hk' with⟨hk2,ho2⟩|rfl|⟨j2,oj2,hj2,hij2,rfl⟩
   ·rw[gT hl.le (Y k (yS ho2) hk2) (by rw[f.n]; grind)] at Z;exact f.sep i k oi ok b z ho2 hbi Z
   ·cases Z
   grind
  ·cases hbi
  ·have hbi:=hown j L i b N hij hbi;rcases hcase k ok hk' with⟨hk2,ho2⟩|rfl|⟨j2,oj2,hj2,hij2,rfl⟩
   ·rw[gT hl.le (Y k (yS ho2) hk2) (by rw[f.n]; grind)] at Z;grind
   ·cases Z
   ·have Z:=hown j2 oj2 k b hj2 hij2 Z;have:=O.sep j j2 L oj2 b N hj2 hbi Z;grind
end
end Go.Vc
namespace Go.Vc
open Go.RowKit
structure Hit where
 sp:fH
 σ:List Nat
 d:sp.D
def aQT(h:List Obj)(σ:List Nat):List AV→List AV→Prop
 | [],[]=>True
 | v::r,.val t x::r'=>AV.as (h.map fX) t v=some x∧aQT h σ r r'
 | v::r,u::r'=>ren σ v=u∧aQT h σ r r'
 | _,_=>False
def bKZ(n:Nat)(σ:List Nat):Bool:=σ.all fun i=>decide (i<n)
def dD:AV→Bool
 | .junk=>false
 | _=>true
def bGG(f:List Nat):AV→Bool
 | .tup g=>g.all fun u=>dD (aH4 f u)
 | _=>true
def aO4(h:List Obj)(vs:List AV)(t:Hit):Prop :=
 nodupB t.σ=true∧bKZ h.length t.σ=true∧t.sp.m≤t.σ.length∧aQT h t.σ vs (t.sp.av t.d)∧t.σ.map (fun i=>dT t.σ (h.getD i .dead))=t.sp.hp t.d∧t.sp.pre t.d
def bAQ(o:bLy)(k:AV→List Obj→Prop)(kp:Pan→List Obj→Prop):Prop :=
 match o with
 | .ret v h=>k v h
 | .pan p h=>kp p h
theorem bAR(v:AV)(h:List Obj)(k:AV→List Obj→Prop)(kp:Pan→List Obj→Prop):bAQ (.ret v h) k kp=k v h:=rfl
theorem bAS(p:Pan)(h:List Obj)(k:AV→List Obj→Prop)(kp:Pan→List Obj→Prop):bAQ (.pan p h) k kp=kp p h:=rfl
theorem bGH(c:Prop)[Decidable c](a b:bLy)(k:AV→List Obj→Prop)(kp:Pan→List Obj→Prop):bAQ (if c then a else b) k kp=((c→bAQ a k kp)∧(¬c→bAQ b k kp)):=by
 grind
def aEj(G:Nat→AV)(env:St)(h:List Obj)(o:Oper):Option (FuncId×List AV) :=
 match o.op with
 | .call c=>match c.callee with
  | .value x=>match evA G env x with
   | .fn f [] l2=>if aHu h l2=true then some (f,c.args.toList.map (evA G env)++l2.map fun i=>.ptr i []) else none
   | .fn f (i::l1) l2=>if aHu h (i::l1)=true∧aHu h l2=true then some (f,((i::l1).map fun i=>.ptr i [])++(c.args.toList.map (evA G env)++l2.map fun i=>.ptr i [])) else none
   | .val (.clo g t) y=>if xW t=true then some (g,c.args.toList.map (evA G env)++aE9 t y) else none
   | _=>none
  | _=>none
 | _=>none
def bAT(Δ:FuncId→List AV→List Obj→Option Hit)(h:List Obj):Option (FuncId×List AV)→Option Hit
 | some (f,g)=>Δ f g h
 | none=>none
def aYS:Option (FuncId×List AV)→List AV
 | some (_,f)=>f
 | none=>[]
def aU0(G:Nat→AV)(env:St)(o:Oper):Option Pan :=
 match o.op with
 | .call c=>match c.callee with
  | .builtin .panic=>match c.args.toList with
   | [x]=>match evA G env x with
    | .val (.ifc k t) d=>some ⟨k,t,d⟩
    | _=>none
   | _=>none
  | _=>none
 | .panic x=>match evA G env x with
  | .val (.ifc k t) d=>some ⟨k,t,d⟩
  | _=>none
 | _=>none
def aQU(T:Tab)(h:List Obj)(t:TypeId)(x:AV)(lo hi:Option AV):Prop×AV :=
 match x with
 | .own i=>match h[i]? with
  | some (.row _ c f)=>match (lo.map aEc).getD (some 0),(hi.map aEc).getD (some (f.length:Int)) with
   | some l,some u=>(T t=some (.sl c)∧0≤l∧l<u∧u≤(f.length:Int),.sub i c.cells l.toNat (u-l).toNat)
   | _,_=>(False,.junk)
  | _=>(False,.junk)
 | .ptr i []=>match h[i]? with
  | some (.box _ (.val (.arr n c) _))=>match (lo.map aEc).getD (some 0),(hi.map aEc).getD (some (n:Int)) with
   | some l,some u=>(T t=some (.arr n c)∧0≤l∧l<u∧u≤(n:Int),.sub i c.cells l.toNat (u-l).toNat)
   | _,_=>(False,.junk)
  | _=>(False,.junk)
 | _=>(False,.junk)
noncomputable def aU1(E:Env)(sb:List Nat)(env:St)(h:List Obj)(o:Oper):Prop×AV×List Obj :=
 match o.op,o.dst with
 | .slice t x lo hi none,some d=>bif sb.contains d then ((aQU E.T h t (evA E.G env x) (lo.map (evA E.G env)) (hi.map (evA E.G env))).1,(aQU E.T h t (evA E.G env x) (lo.map (evA E.G env)) (hi.map (evA E.G env))).2,h) else aAR E env h o
 | _,_=>aAR E env h o
def aLe(E:Env)(Δ:FuncId→List AV→List Obj→Option Hit)(sb:List Nat)(env:St)(h:List Obj)(o:Oper)(k:AV→List Obj→Prop)(kp:Pan→List Obj→Prop):Prop :=
 match bAT Δ h (aEj E.G env h o) with
 | some t=>aO4 h (aYS (aEj E.G env h o)) t∧bAQ (t.sp.out t.d) (fun v h'=>bGG (tZ t.σ t.sp.m h.length h'.length) v=true∧k (emb (tZ t.σ t.sp.m h.length h'.length) v) (aGc t.σ t.sp.m h h')) (fun p h'=>kp p (aGc t.σ t.sp.m h h'))
 | none=>match aU0 E.G env o with
  | some p=>kp p h
  | none=>match aU1 E sb env h o with
   | (p,v,h')=>p∧k v h'
def aCy(E:Env)(Δ:FuncId→List AV→List Obj→Option Hit)(sb:List Nat)(all:List Oper):List Oper→St→List Obj→(St→List Obj→Prop)→(Pan→St→List Obj→Prop)→Prop
 | [],env,h,K,_=>K env h
 | o::r,env,h,K,Kp=>match o.guard with
  | none=>aLe E Δ sb env h o (fun v h'=>aCy E Δ sb all r (zQ o.dst v env) h' K Kp) (fun p h'=>Kp p env h')
  | some (j,f)=>match aLc all j with
   | some g=>match look env g with
    | .val .bool b=>(b=f→aLe E Δ sb env h o (fun v h'=>aCy E Δ sb all r (zQ o.dst v env) h' K Kp) (fun p h'=>Kp p env h'))∧(b= !f→aCy E Δ sb all r (zQ o.dst .undef env) h K Kp)
    | .undef=>aCy E Δ sb all r (zQ o.dst .undef env) h K Kp
    | _=>False
   | none=>False
structure aGd(P:Program)(G:Nat→AV)(Δ:FuncId→List AV→List Obj→Option Hit):Prop where
 ok:∀f vs h t,Δ f vs h=some t→GOK P G f t.sp
 fn:∀f vs h t,Δ f vs h=some t→ ∃fn,P.funcs[f]? = some fn∧fn.name ≠ "runtime.NumGoroutine" ∧ fn.body.isSome=true
section
variable {P:Program} {E:Env} {M:Perm} {w0:World} {c:Ctx} {h:List Obj} {w:World}
theorem aUa:∀ {l:List Nat},nodupB l=true→l.Nodup
 | [],_=>List.nodup_nil
 | i::r,h=>by
  simp only[nodupB,Bool.and_eq_true,Bool.not_eq_true'] at h;refine List.nodup_cons.2 ⟨fun hm=>?_,aUa h.2⟩;simp_all
theorem aXX(I:Good M w0 c h w){σ:List Nat}:∀ {vs us:List AV} {xs:List Value},aQT h σ vs us→vs.length=xs.length→(∀i (f:i<vs.length) (g:i<xs.length),aX c w vs[i] xs[i]) →
  xs.length=us.length∧ ∀i (f:i<us.length) (g:i<xs.length),aX (c.ren σ) w us[i] xs[i]
 | [],[],[],_,_,_=>⟨rfl,fun i f=>by grind⟩
 | v::r,u::r',x::xs,z,J,hv=>by
  have h0:=hv 0 (by simp) (by simp);simp only[List.getElem_cons_zero] at h0;have q:aX (c.ren σ) w u x∧aQT h σ r r':=by
   cases u with
   | val t d =>
    obtain⟨f,g⟩:=z;exact⟨aX.ofV (aAo I h0 f),g⟩
   | _ =>
    obtain⟨f,g⟩:=z;grind[aT9]
  obtain⟨N,L⟩:=aXX I q.2 (by simpa using J) (fun i f g=>by have:=hv (i+1) (by simp_all) (by simp_all); simp_all);grind
def bMu(M:Perm)(w0:World)(c:Ctx)(h:List Obj)(w:World)(t:Hit)(e:Ending)(w':World):Prop :=
 ∃cN,eI c w cN w'∧match t.sp.out t.d with
  | .ret v h'=>∃u,e= .returned u∧Good M w0 cN (aGc t.σ t.sp.m h h') w'∧(bGG (tZ t.σ t.sp.m h.length h'.length) v=true→aX cN w' (emb (tZ t.σ t.sp.m h.length h'.length) v) u)
  | .pan p h'=>∃u,e= .panicked (aWL p.k u)∧Good M w0 cN (aGc t.σ t.sp.m h h') w'∧dU w' cN.S p.t p.x u
theorem aXY{C:(Ending→World→Prop)→Prop}(hC:∀R R':Ending→World→Prop,C R→(∀e w',R e w'→R' e w')→C R'){G:Nat→AV}{t:Hit}{vs:List AV}{xs:Array Value}(hok:t.sp.pre t.d→GIn G t.sp (c.ren t.σ) w t.d xs.toList→C (aNT t.sp (c.ren t.σ) w t.d))(L:Good M w0 c h w)(hG:uD G c.S w)(hl:vs.length=xs.size)(hv:∀i (U:i<vs.length) (h2:i<xs.toList.length),aX c w vs[i] xs.toList[i])(hh:aO4 h vs t) :
  C (bMu M w0 c h w t):=by
 obtain⟨U,h2,h3,h4,h5,h6⟩:=hh;have hσ:∀i∈t.σ,i<h.length:=fun i hi=>by
  have:=List.all_eq_true.1 h2 i hi;simp_all
 have g0:=L.rebase (m:=0) (Nat.zero_le _);have g1:=g0.ren (σ:=t.σ) U (by rfl);have hcn:(c.ren t.σ).n=t.σ.length:=rfl;have g2:=g1.rebase (m:=t.sp.m) (by omega);rw[h5] at g2;obtain⟨q1,q2⟩:=aXX (xs:=xs.toList) L h4 (by omega) hv;have hin:GIn G t.sp (c.ren t.σ) w t.d xs.toList:=⟨g2,hG,q1,q2⟩;refine hC _ _ (hok h6 hin) ?_;rintro e w' ⟨c',g⟩;have z:∀h',Good (GM t.sp (c.ren t.σ) t.d) w c' h' w'→Good M w0 (Vc.cN c c' t.sp.m h'.length t.σ (tZ t.σ t.sp.m h.length h'.length)) (aGc t.σ t.sp.m h h') w'∧eI c w (Vc.cN c c' t.sp.m h'.length t.σ (tZ t.σ t.sp.m h.length h'.length)) w'∧Emb (tZ t.σ t.sp.m h.length h'.length) c' (Vc.cN c c' t.sp.m h'.length t.σ (tZ t.σ t.sp.m h.length h'.length)):=fun h' q =>
  L.frame (aUa U) hσ h3 (Ml:=GM t.sp (c.ren t.σ) t.d) rfl (fun b hb=>by
   obtain⟨j,o',I,Y⟩:=hb;rw[← h5,List.getElem?_map] at I;cases J:t.σ[j]? with
   | none=>simp_all
   | some i =>
    rw[J] at I;simp only[Option.map_some,Option.some.injEq] at I;subst I;rw[aO3 J] at Y;grind) rfl (fun j _=>rfl) q
 cases f:t.sp.out t.d with
 | ret v h' =>
  rw[f] at g;obtain⟨u,rfl,q,Z⟩:=g;obtain⟨N,f2,O⟩:=z h' q;refine⟨_,f2,?_⟩;rw[f];refine⟨u,rfl,N,fun hb=>bJo O Z fun vs hvs a ha=>?_⟩;subst hvs;have:=List.all_eq_true.1 hb a ha;intro J;rw[J] at this;cases this
 | pan p h' =>
  rw[f] at g;obtain⟨u,rfl,q,Z⟩:=g;obtain⟨N,f2,O⟩:=z h' q;refine⟨_,f2,?_⟩;rw[f];exact⟨u,rfl,N,Z.keep O.S (.refl _ _)⟩
theorem bGI{G:Nat→AV}{f:FuncId}{t:Hit}(q:GOK P G f t.sp)(I:Good M w0 c h w)(z:uD G c.S w){vs:List AV}{xs:Array Value}(L:vs.length=xs.size)(hv:∀i (U:i<vs.length) (N:i<xs.toList.length),aX c w vs[i] xs.toList[i])(J:aO4 h vs t) :
  Calls P f xs w (bMu M w0 c h w t) :=
 aXY (C:=Calls P f xs w) (fun R O h k=>h.mono k) (fun hp g=>q _ _ _ _ hp g) I z L hv J
def AtP(F:Fr)(Q:Exit→Act→World→Prop)(p:Pan)(env:St)(h:List Obj):Prop :=
 ∀c a w u,Sim F.E F.M F.w0 F.nt F.ds c env h a w→dU w c.S p.t p.x u→Q (.panic (aWL p.k u)) a w
theorem bGJ{f:FuncId}{q l2:List Nat}{v:Value}(hv:aX c w (.fn f q l2) v):(∀i∈q,i<c.n)∧(∀i∈l2,i<c.n)∧v= .func (.func f) (q.map c.hd).toArray (l2.map c.hd).toArray:=by
 obtain⟨g,_,z⟩:=hv;have z:=z rfl;simp only[aO] at g;obtain⟨h0,I,g⟩:=g;refine⟨h0,I,?_⟩;cases v<;>simp[Value.cells] at g z
 simp_all
theorem bFi(hE:iF P E){nt:Nat}{ds:List Deferred}{env:St}{a:Act}(hs:Sim E M w0 nt ds c env h a w){o:Oper}(Z:iG nt o=true){f:FuncId}{vs:List AV}(hc:aEj E.G env h o=some (f,vs))(hfn:∃fn,P.funcs[f]? = some fn∧fn.name ≠ "runtime.NumGoroutine" ∧ fn.body.isSome=true) :
  ∃xs:Array Value,(execOp a.eval o).run P w= .ok (.enter f xs) w∧vs.length=xs.size∧ ∀i (q:i<vs.length) (z:i<xs.toList.length),aX c w vs[i] xs.toList[i]:=by
 obtain⟨dst,op,ty,pos,aft,gd⟩:=o;unfold aEj at hc;split at hc
 ·rename_i cl hop;simp only at hop;subst hop;obtain⟨callee,args,argTypes⟩:=cl;simp only at hc;simp only[iG,Bool.and_eq_true] at Z;have O:∀x∈(Op.call ⟨callee,args,argTypes⟩).operands,sO x=true:=Array.all_eq_true_iff_forall_mem.1 Z.1;have hargs:∀x∈args.toList,aX c w (evA E.G env x) (a.eval x):=fun x U=>aF3 hs.env hs.glob (O x (by
   simp only[Op.operands,Call.operands];exact Array.mem_append.2 (.inr (by simpa using U))))
  have hav:=aMs (ρ:=evA E.G env) (a:=a) (c:=c) (w:=w) hargs;split at hc
  ·rename_i x;have U:=aF3 hs.env hs.glob (O x (by simp[Op.operands,Call.operands]));have fin:∀(g:FuncId) (J us:List Value) (Y cv:List AV),a.eval x= .func (.func g) J.toArray us.toArray→J.length=Y.length→(∀i (q:i<Y.length) (z:i<J.length),aX c w Y[i] J[i])→us.length=cv.length→(∀i (q:i<cv.length) (z:i<us.length),aX c w cv[i] us[i])→f=g→vs=Y++(args.toList.map (evA E.G env)++cv) →
     ∃xs:Array Value,(execOp a.eval ⟨dst,.call ⟨.value x,args,argTypes⟩,ty,pos,aft,gd⟩).run P w= .ok (.enter f xs) w∧vs.length=xs.size∧ ∀i (q:i<vs.length) (z:i<xs.toList.length),aX c w vs[i] xs.toList[i]:=fun g J us Y cv hf hfl hfv hul huv e1 e2=>by
    subst e1;subst e2;have app:∀ {L l2:List AV} {m1 m2:List Value},m1.length=L.length→(∀i (q:i<L.length) (z:i<m1.length),aX c w L[i] m1[i])→(∀i (q:i<l2.length) (z:i<m2.length),aX c w l2[i] m2[i])→ ∀i (q:i<(L++l2).length) (z:i<(m1++m2).length),aX c w (L++l2)[i] (m1++m2)[i]:=fun {L l2 m1 m2} hl k1 k2 i q z=>by
     grind
    refine⟨(J++(args.toList.map a.eval++us)).toArray,?_,by simp_all,fun i q z=>?_⟩
    ·have hrun:=aFq (P:=P) (w:=w) (args:=(J++(args.toList.map a.eval++us)).toArray) hfn;have e2:J.toArray++args.map a.eval++us.toArray=(J++(args.toList.map a.eval++us)).toArray:=(by simp_all);simp only[execOp,resolve,Deferred.ofValue,hf,pure_bind];grind[invoke]
    ·exact app hfl hfv (app (by simp) hav huv) i (by omega) (by omega)
   split at hc
   ·rename_i g l2 I;split at hc
    ·rename_i N;simp only[Option.some.injEq,Prod.mk.injEq] at hc;rw[I] at U;obtain⟨q,z⟩:=bDW U;exact fin g [] (l2.map c.hd) [] (l2.map fun i=>.ptr i []) z rfl (fun i q=>by cases q) (by simp) (aK5 hs.good N q) hc.1.symm hc.2.symm
    grind
   ·rename_i g i0 L l2 I;split at hc
    ·rename_i N;simp only[Option.some.injEq,Prod.mk.injEq] at hc;rw[I] at U;obtain⟨q,z,h3⟩:=bGJ U;exact fin g ((i0::L).map c.hd) (l2.map c.hd) ((i0::L).map fun i=>.ptr i []) (l2.map fun i=>.ptr i []) h3 (by simp) (aK5 hs.good N.1 q) (by simp) (aK5 hs.good N.2 z) hc.1.symm hc.2.symm
    grind
   ·rename_i g t y I;split at hc
    ·rename_i hcp;simp only[Option.some.injEq,Prod.mk.injEq] at hc;rw[I] at U;obtain⟨us,q,z⟩:=bAA U;obtain⟨k1,k2⟩:=aUD hcp z;exact fin g [] us [] (aE9 t y) q rfl (fun i q=>by cases q) k1 k2 hc.1.symm hc.2.symm
    grind
   grind
  grind
 grind
theorem bD8{nt:Nat}{ds:List Deferred}{env:St}{a:Act}(hs:Sim E M w0 nt ds c env h a w){o:Oper}(z:iG nt o=true){p:Pan}(hc:aU0 E.G env o=some p) :
  ∃u,(execOp a.eval o).run P w= .halt (.panic (.iface p.k u)) w∧dU w c.S p.t p.x u:=by
 obtain⟨dst,Z,ty,pos,N,U⟩:=o;simp only[iG,Bool.and_eq_true] at z;unfold aU0 at hc;split at hc
 ·rename_i cl g;simp only at g;subst g;obtain⟨callee,args,argTypes⟩:=cl;simp only at hc;have f:∀x∈(Op.call ⟨callee,args,argTypes⟩).operands,sO x=true:=Array.all_eq_true_iff_forall_mem.1 z.1;split at hc
  ·split at hc
   ·rename_i x Y;split at hc
    ·rename_i k t d q;cases hc;have I:x∈args.toList:=(by simp_all);have hv:=aF3 hs.env hs.glob (f x (by
      simp only[Op.operands,Call.operands];exact Array.mem_append.2 (.inr (by simpa using I))))
     rw[q] at hv;obtain⟨u,J,L⟩:=aUF hv;have O:args= #[x]:=(by grind);refine⟨u,?_,L⟩;simp[execOp,resolve,invoke,builtin,O,J,Instr.panic,goPanic]
    grind
   grind
  grind
 ·rename_i x g;simp only at g;subst g;have f:∀y∈(Op.panic x).operands,sO y=true:=Array.all_eq_true_iff_forall_mem.1 z.1;split at hc
  ·rename_i k t d q;cases hc;have hv:=aF3 hs.env hs.glob (f x (by simp[Op.operands]));rw[q] at hv;obtain⟨u,J,L⟩:=aUF hv;simp_all[execOp,Instr.panic,goPanic]
  grind
 grind
end
end Go.Vc
namespace Go.Vc
open Go.RowKit
section
variable {P:Program} {E:Env} {M:Perm} {w0:World} {c:Ctx} {h:List Obj} {w:World}
theorem Sim.step{nt:Nat}{ds:List Deferred}{env:St}{a:Act}(hs:Sim E M w0 nt ds c env h a w){h':List Obj}{c':Ctx}{w':World}(f:eI c w c' w')(g:Good M w0 c' h' w'):Sim E M w0 nt ds c' env h' a w' :=
 ⟨g,hs.glob.mono f.le.S f.same,hs.env.keep f,hs.size,hs.defers⟩
theorem bJp(hT:lZ P E.T)(hg:Good M w0 c h w){t:TypeId}{x:AV}{v:Value}{lo hi:Option AV}{J hv:Option Value}(hx:aX c w x v)(I:aWG c w lo J)(f:aWG c w hi hv)(hc:(aQU E.T h t x lo hi).1) :
  ∃u,(Instr.sliceAt t v J hv none).run P w= .ok u w∧aX c w (aQU E.T h t x lo hi).2 u:=by
 unfold aQU at hc ⊢;split at hc
 ·rename_i i;split at hc
  ·rename_i e ct xs ho;split at hc
   ·rename_i l u N q;obtain⟨ht,h0,h1,h2⟩:=hc;obtain⟨O,rfl⟩:=aDO hx;obtain⟨vals,⟨_,hv'⟩,_⟩:=hg.objs i _ ho;obtain⟨e',hd,he,Z⟩:=gJ (hT _ _ ht);rcases hv' with⟨_,hz⟩|⟨g,z,cur,Y,_,_,hle,hcap,_⟩
    ·omega
    have hb:(Instr.sliceBounds true xs.length z J hv none).run P w= .ok (l.toNat,u.toNat,z) w:=by
     cases lo with
     | none =>
      cases J with
      | some _=>cases I
      | none =>
       simp at N;subst N;cases hi with
       | none =>
        cases hv with
        | some _=>cases f
        | none =>
         simp at q;subst q;rfl
       | some ha =>
        cases hv with
        | none=>cases f
        | some hv =>
         simp at q;obtain⟨k,rfl⟩:=(by cases f with|some L=>exact aCv L q:∃k,hv=Value.int k u);simp[Instr.sliceBounds,iI (P:=P) (w:=w) (i:=u) (y:=z) (by omega) (by omega)]
     | some la =>
      cases J with
      | none=>cases I
      | some J =>
       simp at N;obtain⟨k,rfl⟩:=(by cases I with|some L=>exact aCv L N:∃k,J=Value.int k l);cases hi with
       | none =>
        cases hv with
        | some _=>cases f
        | none =>
         simp at q;subst q;simp[Instr.sliceBounds,iI (P:=P) (w:=w) (i:=l) (y:=xs.length) (by omega) (by omega)]
       | some ha =>
        cases hv with
        | none=>cases f
        | some hv =>
         simp at q;obtain⟨k',rfl⟩:=(by cases f with|some L=>exact aCv L q:∃k,hv=Value.int k u);simp[Instr.sliceBounds,iI (P:=P) (w:=w) (i:=u) (y:=z) (by omega) (by omega),iI (P:=P) (w:=w) (i:=l) (y:=u.toNat) h0 (by omega)]
    have U:¬z=l.toNat:=(by omega);refine⟨.slice (some ⟨g,l.toNat*ct.cells,none⟩) (u.toNat-l.toNat) (z-l.toNat),?_,?_⟩
    ·rw[Y];simp[Instr.sliceAt,Instr.slice,bG hd,hb,fW (hT _ _ he),U,Addr.add];omega
    ·refine⟨?_,(fun h=>by simp[AV.isAgg] at h),(fun _ cs=>by simp)⟩;simp only[aO];refine⟨O,by omega,g,z-l.toNat,by rw[Y]; rfl,?_⟩;grind[Value.cells]
   simp_all
  simp_all
 ·rename_i i;split at hc
  ·rename_i m n ct xs ho;split at hc
   ·rename_i l u N q;obtain⟨ht,h0,h1,h2⟩:=hc;obtain⟨O,b,hb',rfl⟩:=aGY hx;obtain⟨e',hd,he,Z,hn1,hn2⟩:=aFS (hT _ _ ht);have hb:(Instr.sliceBounds false n n J hv none).run P w= .ok (l.toNat,u.toNat,n) w:=by
     cases lo with
     | none =>
      cases J with
      | some _=>cases I
      | none =>
       simp at N;subst N;cases hi with
       | none =>
        cases hv with
        | some _=>cases f
        | none =>
         simp at q;subst q;rfl
       | some ha =>
        cases hv with
        | none=>cases f
        | some hv =>
         simp at q;obtain⟨k,rfl⟩:=(by cases f with|some L=>exact aCv L q:∃k,hv=Value.int k u);simp[Instr.sliceBounds,iI (P:=P) (w:=w) (i:=u) (y:=n) (by omega) (by omega)]
     | some la =>
      cases J with
      | none=>cases I
      | some J =>
       simp at N;obtain⟨k,rfl⟩:=(by cases I with|some L=>exact aCv L N:∃k,J=Value.int k l);cases hi with
       | none =>
        cases hv with
        | some _=>cases f
        | none =>
         simp at q;subst q;simp[Instr.sliceBounds,iI (P:=P) (w:=w) (i:=l) (y:=n) (by omega) (by omega)]
       | some ha =>
        cases hv with
        | none=>cases f
        | some hv =>
         simp at q;obtain⟨k',rfl⟩:=(by cases f with|some L=>exact aCv L q:∃k,hv=Value.int k u);simp[Instr.sliceBounds,iI (P:=P) (w:=w) (i:=u) (y:=n) (by omega) (by omega),iI (P:=P) (w:=w) (i:=l) (y:=u.toNat) h0 (by omega)]
    have U:¬n=l.toNat:=(by omega);refine⟨.slice (some ⟨b,l.toNat*ct.cells,none⟩) (u.toNat-l.toNat) (n-l.toNat),?_,?_⟩
    ·simp[Instr.sliceAt,Instr.sureAddr,bG hd,hb,fW (hT _ _ he),U,Addr.add,pR];omega
    ·refine⟨?_,(fun h=>by simp[AV.isAgg] at h),(fun _ cs=>by simp)⟩;simp only[aO];refine⟨O,by grind[maxLen],b,n-l.toNat,hb',?_⟩;grind[Value.cells]
   simp_all
  simp_all
 simp_all
theorem bAU(O:iF P E){sb:List Nat}{nt:Nat}{ds:List Deferred}{env:St}{a:Act}{o:Oper}(hs:Sim E M w0 nt ds c env h a w)(I:iG nt o=true)(hc:(aU1 E sb env h o).1):bCF P M w0 c o a w (aU1 E sb env h o).2.2 (aU1 E sb env h o).2.1:=by
 unfold aU1 at hc ⊢;split at hc
 ·rename_i t x lo hi d z J;cases g:sb.contains d with
  | false =>
   simp only[g,cond_false] at hc ⊢;grind[aMx]
  | true =>
   simp only[g,cond_true] at hc ⊢;simp only[iG,Bool.and_eq_true] at I;have q:∀x∈o.op.operands,sO x=true:=Array.all_eq_true_iff_forall_mem.1 I.1;have f:∀y∈o.op.operands,aX c w (evA E.G env y) (a.eval y):=fun y hy=>aF3 hs.env hs.glob (q y hy);rw[z] at f;obtain⟨u,L,N⟩:=bJp (P:=P) O.T hs.good (f x (by simp[Op.operands])) (aUC (o:=lo) fun y hy=>f y (by simp[Op.operands,hy])) (aUC (o:=hi) fun y hy=>f y (by simp[Op.operands,hy])) hc;refine(Did.of_value (v:=u) (h:=h) hs.good ?_ N).toE;simp[execOp,z,L]
 grind[aMx]
theorem aU2(hE:iF P E){sb:List Nat}{Δ:FuncId→List AV→List Obj→Option Hit}(N:aGd P E.G Δ){nt:Nat}{ds:List Deferred}{env:St}{a:Act}{o:Oper}(hs:Sim E M w0 nt ds c env h a w)(z:iG nt o=true){k:AV→List Obj→Prop}{kp:Pan→List Obj→Prop}(hc:aLe E Δ sb env h o k kp)
  {next:Act→World→Prop} {Q:Exit→Act→World→Prop} (Y:∀v h' c' u w',k v h'→aNQ M w0 c w h' v u w' c'→next (a.put o.dst u) w') (hp:∀p h' c' u w',kp p h'→eI c w c' w'→Good M w0 c' h' w'→dU w' c'.S p.t p.x u→Q (.panic (aWL p.k u)) a w'):o.wp P a w next Q:=by
 unfold aLe at hc;cases I:aEj E.G env h o with
 | some fv =>
  obtain⟨f,vs⟩:=fv;simp only[I,bAT,aYS] at hc;cases hd:Δ f vs h with
  | some t =>
   simp only[hd] at hc;obtain⟨h1,U⟩:=hc;obtain⟨xs,O,L,q3⟩:=bFi hE hs z I (N.fn f vs h t hd);unfold Oper.wp;rw[O];refine Calls.mono (bGI (N.ok f vs h t hd) hs.good hs.glob L q3 h1) ?_;rintro e w' ⟨cN,hl,q⟩;cases J:t.sp.out t.d with
   | ret v h' =>
    rw[J] at q U;obtain⟨u,rfl,Z,hv⟩:=q;exact Y _ _ cN u w' U.2 ⟨hl,Z,hv U.1⟩
   | pan p h' =>
    rw[J] at q U;obtain⟨u,rfl,Z,hv⟩:=q;exact hp p _ cN u w' U hl Z hv
  | none =>
   simp only[hd] at hc;cases g:aU0 E.G env o with
   | some p =>
    simp only[g] at hc;obtain⟨u,O,L⟩:=bD8 (P:=P) hs z g;unfold Oper.wp;rw[O];exact hp p h c u w hc (.refl _ _) hs.good L
   | none =>
    simp only[g] at hc;exact(bAU hE hs z hc.1).wp fun v w' c' ha=>Y _ _ c' v w' hc.2 ha
 | none =>
  simp only[I,bAT] at hc;cases g:aU0 E.G env o with
  | some p =>
   simp only[g] at hc;obtain⟨u,O,L⟩:=bD8 (P:=P) hs z g;unfold Oper.wp;rw[O];exact hp p h c u w hc (.refl _ _) hs.good L
  | none =>
   simp only[g] at hc;exact(bAU hE hs z hc.1).wp fun v w' c' ha=>Y _ _ c' v w' hc.2 ha
theorem aYT(hE:iF P E){sb:List Nat}{Δ:FuncId→List AV→List Obj→Option Hit}(J:aGd P E.G Δ){ops:List Oper}{Q:Exit→Act→World→Prop}{nt:Nat}{ds:List Deferred}(q:∀o∈ops,iG nt o=true){K:St→List Obj→Prop}{Kp:Pan→St→List Obj→Prop}
  (hK:∀env h c a w,K env h→Sim E M w0 nt ds c env h a w→Q .normal a w) (L:∀p env h c a w u,Kp p env h→Sim E M w0 nt ds c env h a w→dU w c.S p.t p.x u→Q (.panic (aWL p.k u)) a w) :
  ∀(m i:Nat),i+m=ops.length→ ∀(env:St) (h:List Obj) (c:Ctx) (a:Act) (w:World),aCy E Δ sb ops (ops.drop i) env h K Kp→Sim E M w0 nt ds c env h a w→wpOps P ops.toArray Q (List.range' i m) a w
 | 0,i,hi,env,h,c,a,w,hs,f=>by
  rw[List.drop_eq_nil_of_le (by omega)] at hs;simp only[List.range'_zero,wpOps];exact hK env h c a w hs f
 | m+1,i,hi,env,h,c,a,w,hs,f=>by
  have z:i<ops.length:=by omega
  rw[List.drop_eq_getElem_cons z] at hs;have g:=q ops[i] (List.getElem_mem z);have O:∀(v:Value) (av:AV),aX c w av v→Sim E M w0 nt ds c (zQ ops[i].dst av env) h (a.put ops[i].dst v) w:=fun v av hv=>f.after g ⟨.refl _ _,f.good,hv⟩;have hrun:aLe E Δ sb env h ops[i] (fun v h'=>aCy E Δ sb ops (ops.drop (i+1)) (zQ ops[i].dst v env) h' K Kp) (fun p h'=>Kp p env h')→Region.wanted ops[i] (yielded ops.toArray a.tmps)=true→wpOps P ops.toArray Q (List.range' i (m+1)) a w:=fun h1 Y=>by
   rw[List.range'_succ];simp only[wpOps,List.getElem?_toArray,List.getElem?_eq_getElem z,Y,if_true]
   left
   refine aU2 hE J f g h1 (fun v h' c' u w' hk ha=>?_) (fun p h' c' u w' hk hl hg hr=>L p env h' c' a w' u hk (f.step hl hg) hr);exact aYT hE J q hK L m (i+1) (by omega) _ _ c' _ w' hk (f.after g ha)
  have hskip:aCy E Δ sb ops (ops.drop (i+1)) (zQ ops[i].dst .undef env) h K Kp→Region.wanted ops[i] (yielded ops.toArray a.tmps)=false→wpOps P ops.toArray Q (List.range' i (m+1)) a w:=fun h2 Y=>by
   rw[List.range'_succ];simp only[wpOps,List.getElem?_toArray,List.getElem?_eq_getElem z,Y,Bool.false_eq_true,if_false];exact aYT hE J q hK L m (i+1) (by omega) _ _ c _ w h2 (O _ _ rfl)
  simp only[aCy] at hs;cases Z:ops[i].guard with
  | none =>
   grind[Region.wanted]
  | some jp =>
   obtain⟨j,I⟩:=jp;rw[Z] at hs;simp only at hs;cases N:aLc ops j with
   | none=>simp_all
   | some dj =>
    rw[N] at hs;simp only at hs;have hv:=f.env dj;split at hs
    ·rename_i b hb;rw[hb] at hv;have U:=aHY hv;have hy:=aBY q f.size N U;simp only[yb] at hy;by_cases e:b=I
     ·grind[Region.wanted]
     ·have e':b= !I:=(by cases b<;>cases I<;>simp_all);grind[Region.wanted]
    ·rename_i hb;rw[hb] at hv;have hy:=aBY q f.size N (v:=Go.undef) hv;grind[Region.wanted,undef,yb]
    simp_all
theorem bD9{F:Fr}{K:Exit→St→List Obj→Prop}{Q:Exit→Act→World→Prop}{env:St}{h:List Obj}(hF:uP F)(J:∀e env h,K e env h→At F (Q e) env h){Δ:FuncId→List AV→List Obj→Option Hit}(q:aGd F.P F.E.G Δ){id:Nat}{ops:Array Oper}(keep sb:List Nat)
  (hv:aCy F.E Δ sb ops.toList ops.toList env h (fun env h=>K .normal (keep.map fun t=>(t,look env t)) h) (fun p env h=>AtP F Q p env h)):Tri F (.region id ops false) Q env h:=fun f c a w hs=>by
 simp only[iT,Bool.and_eq_true,Bool.or_eq_true,Bool.not_eq_true'] at f;obtain⟨⟨I,N⟩,L⟩:=f;refine wp_region ?_;have:=aYT (Q:=Q) hF.env q (List.all_eq_true.1 I) (K:=fun env h=>K .normal (keep.map fun t=>(t,look env t)) h) (Kp:=fun p env h=>AtP F Q p env h) (fun env h c a w g hs=>J _ _ _ g c a w (hs.keep keep)) (fun p env h c a w u g hs z=>g c a w u hs z) ops.toList.length 0 (by simp) env h c a w (by simpa using hv) hs;simp_all[List.range_eq_range']
theorem cJ{F:Fr}{Q:Exit→Act→World→Prop}{env:St}{h:List Obj}(hF:uP F){Δ:FuncId→List AV→List Obj→Option Hit}(f:aGd F.P F.E.G Δ){id:Nat}{ops:Array Oper}(keep sb:List Nat)
  (hv:aCy F.E Δ sb ops.toList ops.toList env h (fun env h=>At F (Q .normal) (keep.map fun t=>(t,look env t)) h) (fun p env h=>AtP F Q p env h)):Tri F (.region id ops false) Q env h :=
 bD9 hF (K:=fun e=>At F (Q e)) (fun _ _ _ h=>h) f keep sb hv
theorem iX{F:Fr}{K:Act→World→Prop}{Q:Exit→Act→World→Prop}{p:Pan}{env:St}{h:List Obj}(hq:AtP F Q p env h):AtP F (Exit.then K Q) p env h:=hq
theorem aDB{F:Fr}{id:Nat}{Q:Exit→Act→World→Prop}{p:Pan}{env:St}{h:List Obj}(hq:AtP F Q p env h):AtP F (Exit.inBlock id Q) p env h:=hq
theorem aMy{F:Fr}{Q:Exit→Act→World→Prop}{p:Pan}{env:St}{h:List Obj}(hq:AtP F Q p env h):AtP F (Exit.noGoto Q) p env h:=hq
def vH:List AV→Nat→St
 | [],_=>[]
 | v::r,k=>(k,v)::vH r (k+1)
theorem aYU{f:Array Value}:∀(us:List AV) (vs:List Value) (k:Nat),vs.length=us.length→(∀i (z:i<us.length) (q:i<vs.length),aX c w us[i] vs[i])→(∀i v,vs[i]? = some v→f.getD (k+i) Go.undef=v)→aKo c w (vH us k) f
 | [],_,k,_,_,_=>fun t=>trivial
 | u::us,v::vs,k,L,hv,ht=>by
  have h0:=hv 0 (by simp) (by simp);have J:=ht 0 v (by simp);have g:=aYU us vs (k+1) (by simp_all) (fun i z q=>by have:=hv (i+1) (by simp_all) (by simp_all); simp_all) (fun i x I=>by
   have:=ht (i+1) x (by simp_all);rw[show k+1+i=k+(i+1) from by omega]; exact this)
  intro t;simp only[vH,look];split
  ·simp_all
  ·exact g t
def AV.wfV:AV→Prop
 | .val t x=>t.wf x
 | .full t f=>(Ty.sl t).wf f
 | _=>True
def AV.wfL:List AV→Prop
 | []=>True
 | v::r=>v.wfV∧AV.wfL r
def Obj.wfV:Obj→Prop
 | .box _ (.agg g)=>AV.wfL g
 | .box _ v=>v.wfV
 | .row _ t f=>(Ty.arr f.length t).wf f∧f.length≤maxLen
 | .frz t f=>(Ty.sl t).wf f
 | .tre _ _ t f=>(Ty.sl t).wf f
 | _=>True
def Obj.wfL:List Obj→Prop
 | []=>True
 | o::r=>o.wfV∧Obj.wfL r
theorem aU3{v:AV}{cs:List Value}(f:aO c w v cs):v.wfV:=by
 cases v<;>first|trivial|skip
 case val t x=>exact bB.wf t x cs f
 case full t xs =>
  simp only[aO] at f;obtain⟨a,n,e,hs⟩:=f;exact bB.wf (.sl t) xs cs ⟨a,n,n,e,hs⟩
theorem bGK:∀ {vs:List AV} {cs:List Value},nD c w vs cs→AV.wfL vs
 | [],_,_=>trivial
 | v::r,_,⟨c1,q,e,g,f⟩=>⟨aU3 g,bGK f⟩
theorem bLA{v:AV}{x:Value}(f:aX c w v x):v.wfV:=by
 cases v<;>first|trivial|exact aU3 f.1
theorem aYV:∀ {us:List AV} {vs:List Value},vs.length=us.length→(∀i (f:i<us.length) (g:i<vs.length),aX c w us[i] vs[i])→AV.wfL us
 | [],_,_,_=>trivial
 | u::us,v::vs,q,hv=>⟨bLA (hv 0 (by simp) (by simp)),aYV (vs:=vs) (by simp_all) (fun i f g=>by have:=hv (i+1) (by simp_all) (by simp_all); simp_all)⟩
theorem bLB{i:Nat}{o:Obj}(q:aIM c w i o):o.wfV:=by
 cases o with
 | dead=>trivial
 | box n v =>
  obtain⟨b,cells,e,_,_,_,z⟩:=q;cases v<;>first|exact bGK z|exact aU3 z|trivial
 | row e t f =>
  obtain⟨J,I,O⟩:=q;refine⟨bB.wf _ _ _ O,?_⟩;rcases I.2 with⟨_,h0⟩|⟨g,N,L,_,_,_,U,z,_⟩
  all_goals omega
 | frz t f=>exact bB.wf (.sl t) f _ q
 | map k v m=>trivial
 | tre e m t f =>
  obtain⟨B,I,_⟩:=q;exact bB.wf (.sl t) f _ (mB.toC (S':=fun _=>True) (fun _ _=>trivial) _ _ _ _ _ (fun _ _=>trivial) I)
 | trh e m t f k v=>trivial
theorem bEa(q:Good M w0 c h w):Obj.wfL h:=by
 have:∀(l:List Obj),(∀o∈l,o.wfV)→Obj.wfL l:=fun l=>by
  induction l with
  | nil=>intro _; trivial
  | cons o r g=>intro f; exact⟨f o (by simp),g fun x z=>f x (by simp[z])⟩
 refine this h fun o I=>?_;obtain⟨i,hi,rfl⟩:=List.mem_iff_getElem.1 I;exact bLB (q.objs i _ (List.getElem?_eq_getElem hi))
def aS(T:Tab)(h:List Obj)(env:St):List ResultVar→Prop×List AV
 | []=>(True,[])
 | .tmp t::r=>((aS T h env r).1,look env t::(aS T h env r).2)
 | .cell a t::r=>((aKU T h t (look env a)).1∧(aS T h env r).1,(aKU T h t (look env a)).2::(aS T h env r).2)
theorem aU4(N:lZ P E.T)(O:Good M w0 c h w){env:St}{f:Array Value}(L:aKo c w env f){g:ResultVar→Sem Value}(I:∀t,g (.tmp t)=pure (f.getD t Go.undef))(q:∀a t,g (.cell a t)=(do loadVar t (← asAddr (f.getD a Go.undef)))):∀(l:List ResultVar),(aS E.T h env l).1 →
  ∃us:List Value,(l.mapM g).run P w= .ok us w∧us.length=(aS E.T h env l).2.length∧ ∀i (Y:i<(aS E.T h env l).2.length) (h2:i<us.length),aX c w (aS E.T h env l).2[i] us[i]
 | [],_=>⟨[],by simp,rfl,fun i Y=>by simp_all⟩
 | .tmp t::r,hc=>by
  simp only[aS] at hc ⊢;obtain⟨us,q1,U,q3⟩:=aU4 N O L I q r hc;refine⟨f.getD t Go.undef::us,by simp_all,by simp[U],fun i Y h2=>?_⟩;cases i with
  | zero=>exact L t
  | succ i=>simp_all
 | .cell a t::r,hc=>by
  simp only[aS] at hc ⊢;obtain⟨us,q1,U,q3⟩:=aU4 N O L I q r hc.2;obtain⟨u,J,hr⟩:=bDM (P:=P) N O (L a) hc.1;have z:(g (.cell a t)).run P w= .ok u w:=by
   rw[q];have hv:=L a;generalize f.getD a Go.undef=v at J hv;simp only[Instr.loadAt,Sem.run_bind] at J;simp only[Sem.run_bind];have:∃Z,v= .pointer (some Z):=by
    cases v with
    | pointer p =>
     cases p with
     | some Z=>simp_all
     | none=>simp[Instr.sureAddr,Result.andThen] at J
    | _=>simp[Instr.sureAddr,Result.andThen] at J
   obtain⟨Z,rfl⟩:=this
   simpa [Instr.sureAddr,asAddr] using J
  refine⟨u::us,by simp only[List.mapM_cons,Sem.run_bind,z,Sem.run_pure,Result.andThen_ok,q1],by simp[U],fun i Y h2=>?_⟩;grind
theorem aI2(L:lZ P E.T)(N:Good M w0 c h w){env:St}{f:Array Value}(U:aKo c w env f){fn:Func}{l:List ResultVar}(hr:fn.results=l.toArray)(hc:(aS E.T h env l).1) :
  ∃us:List Value,(results fn f).run P w= .ok (aMY us) w∧us.length=(aS E.T h env l).2.length∧ ∀i (h1:i<(aS E.T h env l).2.length) (Y:i<us.length),aX c w (aS E.T h env l).2[i] us[i]:=by
 unfold results;rw[hr];simp only[Sem.run_bind];rw[List.mapM_toArray,Sem.run_map];generalize hm:(List.mapM _ l:Sem (List Value))=J;have q:∀(g:ResultVar→Sem Value),(∀t,g (.tmp t)=pure (f.getD t Go.undef))→(∀a t,g (.cell a t)=(do loadVar t (← asAddr (f.getD a Go.undef))))→List.mapM g l=J →
   ∃us:List Value,J.run P w= .ok us w∧us.length=(aS E.T h env l).2.length∧ ∀i (h1:i<(aS E.T h env l).2.length) (Y:i<us.length),aX c w (aS E.T h env l).2[i] us[i]:=fun g z I e=>by
  subst e; exact aU4 (P:=P) L N U z I l hc
 obtain⟨us,q1,Z,O⟩:=q _ (fun t=>rfl) (fun a t=>rfl) hm;refine⟨us,?_,Z,O⟩;rw[q1];simp only[Result.andThen_ok,Sem.run_pure]
 congr 1
 match us with
 | []=>rfl
 | [v]=>rfl
 | a::b::r =>
  rfl
def jN(h:List Obj):List AV→List AV→Prop
 | [],[]=>True
 | v::r,u::r'=>(eU h v u∧dD u=true)∧jN h r r'
 | _,_=>False
def jQ(h:List Obj):AV→List AV→Prop
 | .tup g,f=>f.length≠1∧jN h f g
 | v,[u]=>eU h u v
 | _,_=>False
theorem aYW(z:Good M w0 c h w):∀ {us vs:List AV} {xs:List Value},jN h us vs→xs.length=us.length→(∀i (g:i<us.length) (f:i<xs.length),aX c w us[i] xs[i])→xs.length=vs.length∧ ∀i (g:i<vs.length) (f:i<xs.length),aX c w vs[i] xs[i]∧dD vs[i]=true
 | [],[],[],_,_,_=>⟨rfl,fun i g=>by grind⟩
 | u::us,v::vs,x::xs,q,N,hv=>by
  obtain⟨⟨g,I⟩,f⟩:=q;obtain⟨L,J⟩:=aYW z f (xs:=xs) (by simp_all) (fun i g f=>by have:=hv (i+1) (by simp_all) (by simp_all); simp_all);grind[aT7]
theorem bEb{v:AV}{x:Value}(hv:aX c w v x)(f:dD v=true)(ht:∀vs,v≠ .tup vs)(g:v≠ .undef):zM c w v x:=by
 cases v<;>first|exact hv|grind[dD]|simp_all|simp_all
def bGL:AV→Bool
 | .tup _=>false
 | .undef=>false
 | _=>true
theorem dV{F:Fr}{fn:Func}{sp:fH}{Y:Ctx}{d:sp.D}{env:St}{h h':List Obj}{v:AV}(hF:uP F)(l:List ResultVar)(hM:F.M=GM sp Y d)(L:F.ds= [])(hr:fn.results=l.toArray)(q:sp.out d= .ret v h')(hh:h=h')(O:(match v with| .tup J=>J.all bGL|_=>true)=true)(hy:(aS F.E.T h env l).1∧jQ h v (aS F.E.T h env l).2) :
  At F (bodyPost F.P fn (aNT sp Y F.w0 d) .ret) env h:=fun c a w hs=>by
 subst hh;obtain⟨I,q1,z,N⟩:=aI2 (P:=F.P) hF.env.T hs.good hs.env hr hy.1;refine⟨hs.defers.trans L,aMY I,q1,c,?_⟩;rw[q];refine⟨aMY I,rfl,by rw[← hM]; exact hs.good,?_⟩;have f:=hy.2;generalize (aS F.E.T h env l).2=rs at z N f;cases v with
 | tup J =>
  obtain⟨h1,h2⟩:=f;obtain⟨k1,Z⟩:=aYW hs.good h2 z N;refine⟨I,?_,k1,fun i U p2=>?_⟩
  ·match I,z with
   | [],_=>rfl
   | [x],z=>simp_all
   | a::b::r,_=>rfl
  ·have g:=List.all_eq_true.1 O J[i] (List.getElem_mem U);exact bEb (Z i U p2).1 (Z i U p2).2 (fun l e=>by rw[e] at g; cases g) (fun e=>by rw[e] at g; cases g)
 | _ =>
  match rs,f with
  | [u],f =>
   match I,z with
   | [x],_=>exact aT7 hs.good f (N 0 (by simp) (by simp))
theorem bC{F:Fr}{fn:Func}{sp:fH}{q:Ctx}{d:sp.D}{env:St}{h h':List Obj}{p:Pan}(z:F.M=GM sp q d)(g:F.ds= [])(f:sp.out d= .pan p h')(J:h=h') :
  AtP F (bodyPost F.P fn (aNT sp q F.w0 d)) p env h:=fun c a w u hs I=>by
 subst J;refine⟨hs.defers.trans g,c,?_⟩;rw[f];exact⟨u,rfl,by rw[← z]; exact hs.good,I⟩
theorem bS{F:Fr}{Q:Exit→Act→World→Prop}{p:Pan}{env:St}{h:List Obj}(σ:List Nat)(hd:nodupB σ=true)(hp:preB F.M.m σ=true)(g:AtP F Q p (env.map fun q=>(q.1,ren σ q.2)) (σ.map fun i=>dT σ (h.getD i .dead))):AtP F Q p env h:=fun c a w u hs f =>
 g (c.ren σ) a w u ⟨hs.good.ren hd hp,hs.glob,fun t=>by rw[aLd (ren σ) rfl]; exact aT9 (hs.env t),hs.size,hs.defers⟩ f
end
end Go.Vc
namespace Go.Vc
attribute [go_sem] Int.toNat_natCast vcA opA pv aUH bGm evA aFa aA8 aGN jP aG0
attribute [go_sem] aSe aH2 aUG aOI vY bAn aWJ bLw Go.Vc.look aKU aDe bGk
attribute [go_sem] bFW aMw isStr bxN aKQ aUp bCl bCk aUo aYw aYz shU
attribute [go_sem] shI lM bIZ bFX bCs aQA aEc aBt aBt.fldT aMk aOL aOM
attribute [go_sem] aKV aON aQH aNI aNK aOT aIR aMm aCu bF2 mm2 aA7
attribute [go_sem] eG Go.Vc.elemOf aXH List.all_cons List.all_nil Int.le_refl Nat.le_refl AV.solid AV.solid1 AV.nc AV.nc1 AV.isAgg
attribute [go_sem] Ty.isAgg Ty.cells Ty.zero aF8 List.map List.append List.length Option.map decide_true decide_false Bool.and_true Bool.true_and
attribute [go_sem] true_and and_true implies_true forall_const if_true if_false IntKind.signed Ty.den Nat.succ_ne_self ne_eq not_false_eq_true not_true_eq_false
attribute [go_sem] List.getElem?_nil aMW List.nil_append List.cons_append beq_self_eq_true Bool.and_self cond_true cond_false Bool.cond_true_left Bool.cond_false_right xX aAR
attribute [go_sem] aFc aT8 aUT bMr freezeAll freeze aYN aUK aIX zO aMv bD4
attribute [go_sem] bAx bGf Ty.isNil aQK aMu bAH bD3 zQ aLc aEg aQJ aG1
attribute [go_sem] xA aF5 Ty.strB bCx bound aDy bLn bI3 bI4 bLo bGn frzAll
attribute [go_sem] Ty.scalar fX bF3 RK.ty AV.tags AV.tags1 List.flatMap_cons List.flatMap_nil List.getElem?_cons_zero List.getElem?_cons_succ List.set_cons_zero List.set_cons_succ
attribute [go_sem] List.length_cons List.length_nil Nat.zero_add aE9 List.getD_cons_zero List.getD_cons_succ dite_true Ty.okB Ty.byt IntKind.bits xW aHu
attribute [go_sem] bMp bCr bLp aYB bI5 bGi allTags aNJ gt_iff_lt ge_iff_le List.length_replicate List.replicate_zero
attribute [go_sem] List.length_set bGC bGD bGE bFd bMs aNS aK3 bGj aFT aFU aUS
attribute [go_sem] Ty.keyB Ty.key1 Option.some.injEq exists_eq_left' List.append_nil decide_eq_true_eq decide_eq_false_iff_not Bool.or_eq_true Bool.or_eq_false_iff Bool.and_eq_true Int.not_lt Int.not_le
attribute [go_sem] Bool.not_eq_true' Bool.not_eq_false' gK bAL oJ qK List.take_succ_cons List.take_zero List.drop_succ_cons List.drop_zero bF1 aBI
attribute [go_sem] bEZ aYE aMl Ty.flds aKW aKq Ty.fieldOff bCt parse aIQ aYC aUs
attribute [go_sem] Option.getD_some Option.getD_none Bool.not_true Bool.not_false Bool.false_eq_true Bool.true_eq_false false_implies and_false false_and or_true true_or or_false
attribute [go_sem] false_or Bool.or_true Bool.or_false Bool.true_or Bool.false_or Bool.and_false Bool.false_and Option.isSome_some Option.isSome_none Int.reduceToNat Int.reduceLE Int.reduceLT
attribute [go_sem] Nat.reduceEqDiff Nat.reduceAdd Nat.reduceMul Nat.reduceLT Nat.reduceSub Nat.reduceLeDiff Nat.reduceDiv Nat.reduceMod Nat.reducePow Nat.reduceGT Int.reduceEq Int.reduceNe
attribute [go_sem] Int.reduceAdd Int.reduceSub Int.reduceNeg Int.reduceMul reduceIte reduceCtorEq
end Go.Vc
namespace Go.Vc
open Go.RowKit
def Ty.argB:Ty→Bool
 | .bool=>true
 | .u _=>true
 | .i _=>true
 | .str=>true
 | .sl t=>t.argB
 | .unit=>true
 | .pair a b=>a.argB&&b.argB
 | .arr _ t=>t.argB
 | .expr=>true
 | _=>false
section
variable {P:Program} {T:Tab} {H:Type} {enc:TypeId×Value→H} {w:World} {spare:Nat→Bool} {held:Bool}
theorem qS{t:TypeId}{c:Ty}(h:aFo P T t c):P.cellsOf t=c.cells:=by
 obtain⟨i,hi,hs,_⟩:=h.info;simp[Program.cellsOf,hi,hs]
def aBK(w:World):Nat→Prop:=fun b=>b<w.heap.size
theorem aQV{a:Addr}{n:Nat}{ds:List Value}(h:w.cells? 0 a n=some ds):ds.length=n∧ ∀j,j<n→w.cell? (a.add j)=ds[j]? := by
 unfold World.cells? at h;rw[if_pos (Nat.zero_le _)] at h;have g:=mapM_some_length h;have f:=mapM_some_get h;grind
theorem aYX{b off:Nat}{v:Value}(h:w.cell? ⟨b,off,none⟩=some v):b<w.heap.size:=by
 grind[Nat.lt_or_ge,World.cell?,Array.getElem?_eq_none]
theorem bLC(a:Addr)(i j:Nat)(h:a.spot=none):(a.add i).add j=⟨a.block,a.off+i+j,none⟩:=by
 obtain⟨b,o,s⟩:=a;grind[Addr.add]
theorem bGM{sz:Nat}(O:0<sz){α:Type}{R:α→List Value→Prop}{a:Addr}{len:Nat}(z:∀i,i<len→ ∃ds x,w.cells? 0 (a.add (i*sz)) sz=some ds∧R x ds) :
  ∃xs:List α,xs.length=len∧(xs= []∨ ∃b off,some a=some ⟨b,off,none⟩∧aBK w b∧ ∀i (h:i<xs.length),∃ds,R xs[i] ds∧mW w b (off+i*sz) ds):=by
 classical
 by_cases h0:len=0
 ·simp_all
 have g:0<len:=by omega
 obtain⟨L,J,e0,_⟩:=z 0 g;have N:a.spot=none:=by
  obtain⟨Z,U⟩:=aQV e0;grind[List.getElem?_eq_getElem,World.cell?_spot,Addr.add]
 have I:∃f:Nat→α,∀i,i<len→ ∃ds,w.cells? 0 (a.add (i*sz)) sz=some ds∧R (f i) ds:=by
  refine⟨fun i=>if h:i<len then Classical.choose (Classical.choose_spec (z i h)) else J,fun i hi=>?_⟩;grind
 obtain⟨f,I⟩:=I;have hcell:∀i,i<len→ ∀ds,w.cells? 0 (a.add (i*sz)) sz=some ds→mW w a.block (a.off+i*sz) ds:=fun i hi ds q j v Y=>by
  grind[aQV,Nat.lt_or_ge,List.getElem?_eq_none,bLC]
 refine⟨(List.range len).map f,by simp,.inr ⟨a.block,a.off,?_,?_,fun i hi=>?_⟩⟩
 ·obtain⟨b,o,s⟩:=a; simp_all
 ·obtain⟨ds,q,_⟩:=I 0 g;have:=hcell 0 g ds q 0 (ds[0]'(by grind[aQV])) (List.getElem?_eq_getElem _);exact aYX this
 grind
theorem aU5{n:Nat}(N:∀(t:TypeId) (c:Ty) (cs:List Value) (x:DataW H×List MemPlace),T t=some c→c.argB=true→DataW.trod enc P w 0 spare held n t cs=some x→ ∃y,bB w (aBK w) c y cs)(O:lZ P T)(cs:List Value) :
  ∀(J:List Field) (off:Nat) (c:Ty),eM T J off c=true→c.argB=true→(cs.drop off).length=c.cells→(∀f∈J,∃x,DataW.trod enc P w 0 spare held n f.type ((cs.drop f.offset).take (P.cellsOf f.type))=some x)→ ∃y,bB w (aBK w) c y (cs.drop off)
 | [],off,c,z,I,L,_=>by
  cases c<;>simp[eM] at z
  exact⟨(),List.eq_nil_of_length_eq_zero L⟩
 | f::J,off,c,z,I,L,U=>by
  cases c<;>simp only[eM,Bool.false_eq_true] at z
  case pair a b =>
   simp only[Bool.and_eq_true,decide_eq_true_eq] at z;obtain⟨⟨⟨⟨Y,h2⟩,h3⟩,h4⟩,Z⟩:=z;simp only[Ty.argB,Bool.and_eq_true] at I;obtain⟨x,q⟩:=U f (by simp);rw[qS (O _ _ Y),h2] at q;obtain⟨y1,r1⟩:=N _ _ _ _ Y I.1 q;simp only[Ty.cells] at L;obtain⟨y2,r2⟩:=aU5 N O cs J (off+a.cells) b Z I.2 (by grind) (fun g hg=>U g (by simp[hg]));refine⟨(y1,y2),(cs.drop off).take a.cells,cs.drop (off+a.cells),?_,r1,r2⟩;rw[← List.drop_drop,List.take_append_drop]
theorem bAV(L:lZ P T):∀(n:Nat) (t:TypeId) (c:Ty) (cs:List Value) (x:DataW H×List MemPlace),T t=some c→c.argB=true→DataW.trod enc P w 0 spare held n t cs=some x→ ∃y,bB w (aBK w) c y cs:=by
 intro n
 induction n with
 | zero=>simp_all[DataW.trod]
 | succ n ih =>
  intro t c cs x ht ha h;obtain⟨d,hd,hb⟩:=(L _ _ ht).desc;cases c with
  | bool =>
   cases d<;>simp[jI] at hb
   obtain⟨b,e,_⟩:=DataW.trod_bool hd h;exact⟨b,e⟩
  | u k =>
   cases d<;>simp[jI] at hb
   rename_i k';obtain⟨rfl,hb⟩:=hb;obtain⟨m,e,_,hw⟩:=DataW.trod_int hd h;simp only[Lit.wf,Bool.and_eq_true,decide_eq_true_eq] at hw;have hmin:IntKind.min k=0:=(by cases k<;>first|rfl|grind[IntKind.signed]);have hm:((m.toNat:Nat):Int)=m:=Int.toNat_of_nonneg (by omega);exact⟨m.toNat,by simp_all,hb,by omega⟩
  | i k =>
   cases d<;>simp[jI] at hb
   rename_i k';obtain⟨rfl,hb⟩:=hb;obtain⟨m,e,_,hw⟩:=DataW.trod_int hd h;simp only[Lit.wf,Bool.and_eq_true,decide_eq_true_eq] at hw;exact⟨m,e,hb,hw.1,hw.2⟩
  | str =>
   cases d<;>simp[jI] at hb
   obtain⟨s,e,_,hs⟩:=DataW.trod_string hd h;exact⟨aR s,s,e,rfl,hs⟩
  | sl I =>
   cases d<;>simp[jI] at hb
   obtain⟨N,hb2⟩:=hb;rcases DataW.trod_slice hd h with⟨rfl,_⟩|⟨a,len,U,elems,rest,m,hm,rfl,_,_,hl,hc,z,O,_⟩
   ·exact⟨[],none,0,0,rfl,rfl,Nat.le_refl _,Nat.zero_le _,.inl rfl⟩
   ·cases hm;rw[qS (L _ _ N)] at O;obtain⟨xs,Y,h2⟩:=bGM (w:=w) hb2 (R:=bB w (aBK w) I) (a:=a) (len:=len) (fun i hi=>by
     have:=O i hi;rw[List.getElem?_eq_getElem (by omega)] at this;obtain⟨ds,hds,hx⟩:=Option.bind_eq_some_iff.1 this;obtain⟨y,hy⟩:=ih _ _ _ _ N ha hx;grind)
    exact⟨xs,some a,len,U,rfl,Y,hl,hc,h2⟩
  | unit =>
   cases d<;>simp[jI] at hb
   rename_i fs;obtain⟨xs,m,_,_,z,_⟩:=DataW.trod_struct hd h;rw[qS (L _ _ ht)] at z;exact⟨(),List.eq_nil_of_length_eq_zero z⟩
  | pair a b =>
   cases d<;>simp[jI] at hb
   rename_i fs;obtain⟨xs,m,hm,_,z,hxl,hf⟩:=DataW.trod_struct hd h;cases hm;rw[qS (L _ _ ht)] at z;have:=aU5 ih L cs fs.toList 0 (.pair a b) hb ha (by simp_all) (fun f hf'=>by
    obtain⟨i,hi,rfl⟩:=List.mem_iff_getElem.1 hf';have hi':i<fs.size:=(by omega);have:=hf i fs[i] (Array.getElem?_eq_getElem hi');simp_all)
   simp_all
  | arr m I =>
   cases d<;>simp[jI] at hb
   obtain⟨⟨⟨rfl,N⟩,hb2⟩,_⟩:=hb;obtain⟨xs,q,hq,_,z,hxl,hf⟩:=DataW.trod_array hd h;cases hq;rw[qS (L _ _ ht)] at z;rw[qS (L _ _ N)] at hf;have hall:∀i,i<m→ ∃y,bB w (aBK w) I y ((cs.drop (i*I.cells)).take I.cells):=fun i hi=>by
    have:=hf i hi;rw[List.getElem?_eq_getElem (by omega)] at this;exact ih _ _ _ _ N ha this
   classical
   have Z:∃f:Nat→I.den,∀i,i<m→bB w (aBK w) I (f i) ((cs.drop (i*I.cells)).take I.cells):=by
    refine⟨fun i=>if h:i<m then Classical.choose (hall i h) else I.zero,fun i hi=>?_⟩;grind
   obtain⟨f,Z⟩:=Z;refine⟨(List.range m).map f,by simp,(List.range m).map fun i=>(cs.drop (i*I.cells)).take I.cells,?_,by simp,fun i Y h2=>?_⟩
   ·have:∀(k:Nat) (l:List Value),l.length=k*I.cells→l=((List.range k).map fun i=>(l.drop (i*I.cells)).take I.cells).flatten:=by
     intro k
     induction k with
     | zero=>simp_all
     | succ k ihk =>
      intro l hl;rw[List.range_succ,List.map_append,List.flatten_append];have Y:=ihk (l.take (k*I.cells)) (by grind);have h2:((List.range k).map fun i=>((l.take (k*I.cells)).drop (i*I.cells)).take I.cells)=((List.range k).map fun i=>(l.drop (i*I.cells)).take I.cells):=by
       apply List.map_congr_left;intro i hi;have hik:i<k:=List.mem_range.1 hi;rw[List.drop_take,List.take_take]
       congr 1
       have:(i+1)*I.cells≤k*I.cells:=Nat.mul_le_mul_right _ hik;grind
      rw[h2] at Y;rw[← Y];simp only[List.map_cons,List.map_nil,List.flatten_cons,List.flatten_nil,List.append_nil];rw[List.take_of_length_le (l:=l.drop (k*I.cells)) (by grind),List.take_append_drop]
    exact this m cs z
   grind
  | expr =>
   cases d<;>simp[jI] at hb
   rename_i fs;obtain⟨xs,m,hm,_,z,hxl,hf⟩:=DataW.trod_struct hd h;cases hm;rw[qS (L _ _ ht)] at z;have hfs:∃f0 f1 f2,fs.toList= [f0,f1,f2]∧(T f0.type=some (.i .i64)∧f0.offset=0∧T f1.type=some .str∧f1.offset=1∧T f2.type=some (.sl .expr)∧f2.offset=2):=by
    unfold bDH at hb;grind
   obtain⟨f0,f1,f2,hfs,t0,o0,I,o1,t2,o2⟩:=hfs;have J:∀(i:Nat) (f:Field),fs.toList[i]? = some f→ ∃x,DataW.trod enc P w 0 spare held n f.type ((cs.drop f.offset).take (P.cellsOf f.type))=some x:=fun i f hi=>by
    grind
   obtain⟨x0,h0⟩:=J 0 f0 (by simp_all);obtain⟨x1,Y⟩:=J 1 f1 (by simp_all);obtain⟨x2,h2⟩:=J 2 f2 (by simp_all);rw[qS (L _ _ t0),o0] at h0;rw[qS (L _ _ I),o1] at Y;rw[qS (L _ _ t2),o2] at h2;obtain⟨y0,r0⟩:=ih _ _ _ _ t0 rfl h0;obtain⟨y1,r1⟩:=ih _ _ _ _ I rfl Y;obtain⟨y2,r2⟩:=ih _ _ _ _ t2 rfl h2
   match cs,z with
   | [c0,c1,c2],_ =>
    simp only[Ty.cells,List.drop_zero,List.drop_succ_cons,List.take_succ_cons,List.take_zero] at r0 r1 r2;obtain⟨e0,_,b1,b2⟩:=r0;obtain⟨s,e1,rfl,hs⟩:=r1;obtain⟨a,len,U,e2,hl1,hl2,hl3,hl4⟩:=r2;simp only[List.cons.injEq,and_true] at e0 e1 e2;subst e0; subst e1; subst e2
    classical
    refine⟨.mk y0 (aR s) y2,?_⟩;rcases hl4 with rfl|⟨b,off,ha,hb,O⟩
    ·exact RepEx.mk y0 s [] a len U (fun _=>[]) ⟨b1,b2⟩ hs hl1 hl2 hl3 (fun i h=>by simp at h) (.inl rfl)
    ·refine RepEx.mk y0 s y2 a len U (fun i=>if h:i<List.length y2 then Classical.choose (O i h) else []) ⟨b1,b2⟩ hs hl1 hl2 hl3 (fun i h=>?_) (.inr ⟨b,off,ha,hb,fun i h=>?_⟩)
     ·simp only[dif_pos h]; exact(Classical.choose_spec (O i h)).1
     grind
  | rp I=>grind[Ty.argB]
  | clo g I=>grind[Ty.argB]
  | ifc k I=>grind[Ty.argB]
  | nili=>grind[Ty.argB]
  | nilp=>grind[Ty.argB]
  | nilf=>grind[Ty.argB]
theorem bJq(q:lZ P T){t:TypeId}{c:Ty}{r:Reach}{base:Nat}{v:Value}{d:DataW H}{ps:List MemPlace}(ht:T t=some c)(J:c.argB=true)(f:Value.okWide P w r base t v)(h:DataW.Trod enc P w 0 spare held t v d ps):∃y,dU w (aBK w) c y v:=by
 obtain⟨n,I⟩:=h;obtain⟨y,hy⟩:=bAV q n t c _ _ ht J I;refine⟨y,dU.of_cells (fun z=>?_) (fun g=>?_) hy⟩
 ·obtain⟨d,hd,hb⟩:=(q _ _ ht).desc;unfold Value.okWide at f;rw[hd] at f;cases c<;>simp[Ty.isAgg] at z
  all_goals (cases d<;>first|grind[jI]|skip)
  all_goals grind
 ·intro L e;subst e;obtain⟨d,hd,hb⟩:=(q _ _ ht).desc;unfold Value.okWide at f;rw[hd] at f;cases c<;>simp[Ty.isAgg] at g
  all_goals (cases d<;>first|grind[jI]|skip)
  all_goals simp_all[Cell.okWide,Cell.ok]
def bLD(T:Tab):Ty→List TypeId→Bool
 | .unit,[]=>true
 | .pair a r,t::ts=>decide (T t=some a)&&a.argB&&bLD T r ts
 | _,_=>false
theorem bEc(f:lZ P T){r:Reach}{base:Nat}:∀(c:Ty) (ts:List TypeId) (vs:List Value) (ds:List (DataW H)) (ps:List MemPlace),bLD T c ts=true→DataW.TrodAll enc P w 0 spare held ts vs ds ps→(∀(j:Nat) t v,ts[j]? = some t→vs[j]? = some v→Value.okWide P w r base t v)→ ∃x,sD w (aBK w) c x vs
 | .unit,[],vs,ds,ps,_,h,_=>by
  cases vs<;>cases ds<;>simp[DataW.TrodAll] at h
  exact⟨(),rfl⟩
 | .pair a c,t::ts,vs,ds,ps,hb,h,g=>by
  simp only[bLD,Bool.and_eq_true,decide_eq_true_eq] at hb;cases vs<;>cases ds<;>simp only[DataW.TrodAll] at h
  rename_i v vs d ds;obtain⟨p,q,L,I,_⟩:=h;obtain⟨y,hy⟩:=bJq f hb.1.1 hb.1.2 (g 0 t v rfl rfl) L;obtain⟨x,J⟩:=bEc f c ts vs ds q hb.2 I (fun j N z e1 O=>g (j+1) N z (by simp_all) (by simp_all));exact⟨(y,x),v,vs,rfl,hy,J⟩
end
end Go.Vc
namespace Go.Vc
attribute [go_sem] aU1 aQU List.contains_cons List.contains_nil aCy aLe bAT aYS aEj aU0 bAR bAS
attribute [go_sem] bGH aO4 aQT bKZ nodupB bGG dD emb aH4 aS4 bCH aUY
attribute [go_sem] aGc tZ qJ aGb ren cX dT posOf bI aS jN eU
attribute [go_sem] jQ bGL vH AV.wfL AV.wfV Obj.wfL Obj.wfV List.all_cons List.all_nil List.range'_zero List.range'_succ List.zip_cons_cons
attribute [go_sem] List.zip_nil_left List.zip_nil_right List.drop_nil List.take_nil List.map_cons List.map_nil bAw aK4
end Go.Vc
namespace Go.Vc
open Go.RowKit
section
variable {P:Program} {E:Env} {M:Perm} {w0:World} {c:Ctx} {h:List Obj} {w:World}
def bEd(P:Program)(fn:Func)(S:Nat→Prop)(w0:World)(r:RK)(y:r.ty.den):Exit→Act→World→Prop :=
 bodyPostD P fn fun e w'=>∃v,e= .returned v∧iL nothing w0 w'∧bEY w' S w0.heap.size r y v
theorem bJr{f:FuncId}{fn:Func}{g:Code}{sp:aF}(Z:iF P E)(O:P.funcs[f]? = some fn)(hb:fn.body=some g)(z:iT fn.ntmps g=true)(Y:aSj sp.args≤fn.ntmps)
  (ht:∀(w0:World) (S:Nat→Prop) (x:sp.args.den),sp.args.wf x→sp.pre x→Tri (fr P E S w0 fn.ntmps) g (bEd P fn S w0 sp.res (sp.fn x)) (cA sp.args x 0) []):FOK P E.G f sp:=by
 intro w S I x U L q hp;refine calls_of_wp_defers O hb ?_;refine ht w S x (aIY _ _ _ q) hp z ⟨S,fun _=>Go.undef,0,fun _ _=>False⟩ _ w ⟨⟨rfl,.refl _ _,U,fun b hb _=>.inl hb,fun i o N=>by grind,fun i o b N=>by grind,fun i j oi oj b hi=>by grind,⟨Nat.le_refl _,fun i hi=>absurd hi (Nat.not_lt_zero i)⟩⟩,L,?_,?_,rfl⟩
 ·refine aUN _ x 0 I.toList _ q rfl fun i v hv=>?_;have J:i<I.size:=by
   grind
  simp_all[Nat.zero_add,Array.getElem?_toList,Array.getElem?_append,Array.getElem?_eq_getElem]
 ·have:=aUO _ _ _ q;simp_all
theorem bGN{S:Nat→Prop}(hwr:M.wr=nothing)(hrd:M.rd=S)(O:Good M w0 c h w){r:RK}{y:r.ty.den}{q:List AV}{xs:List Value}(Z:xs.length=q.length)(hv:∀i (I:i<q.length) (h2:i<xs.length),aX c w q[i] xs[i])(hy:mA h r y q):bEY w S w0.heap.size r y (aMY xs):=by
 have L:∀ {c':Ctx} {h':List Obj},Good M w0 c' h' w→ ∀b,c'.S b→S b∨(w0.heap.size≤b∧b<w.heap.size):=fun O b hb=>by
  rcases Nat.lt_or_ge b w0.heap.size with hlt|hge
  ·have:=O.src b hb hlt;rw[hwr,hrd] at this;exact .inl (this.resolve_right (fun f=>f))
  ·exact .inr ⟨hge,O.sfin b hb⟩
 obtain⟨c',hll,N⟩:=O.frzAll;have z:∀i (I:i<q.length) (h2:i<xs.length),aX c' w q[i] xs[i]:=fun i I h2=>hll.val (hv i I h2);cases r with
 | none =>
  match q,xs,Z,hy with
  | [],[],_,_=>rfl
 | one t =>
  match q,xs,Z,hy,z with
  | [v],[x],_,hy,z =>
   have hy:AV.as (h.map Vc.frzAll) t v=some y:=hy;rw[← bD1] at hy;have:=aAo N (z 0 (by simp) (by simp)) hy;exact dU.keep (L N) (.refl _ _) this
 | own e t =>
  match q,xs,Z,hy,hv with
  | [.own i],[x],_,hy,hv =>
   have J:=hv 0 (by simp) (by simp);simp only[List.getElem_cons_zero] at J;have ho:h[i]? = some (.row e t y):=hy;obtain⟨hin,rfl⟩:=aDO J;obtain⟨vals,U,Y⟩:=O.objs i _ ho;refine⟨vals,⟨U.1,U.2.imp id ?_⟩,bB.keep (fun b hb=>?_) (.refl _ _) _ _ _ Y⟩
   ·rintro⟨g,cap,cur,I,h2,h3⟩;refine⟨g,cap,cur,I,?_,h3⟩;have:=(O.own i _ g ho (by simp[fA,I,aU])).1;rw[hwr] at this;exact this.resolve_right (fun f=>f)
   ·rcases L O b hb with I|I
    ·simp_all
    ·exact .inr ⟨I.1,I.2,fun e'=>(O.own i _ b ho e').2.2 hb⟩
  | [.nilS],[x],_,hy,hv =>
   have J:=hv 0 (by simp) (by simp);simp only[List.getElem_cons_zero] at J;have hy:y= []:=hy;subst hy;have hsv:x= .slice none 0 0:=by
    obtain⟨I,_,h3⟩:=J;have h3:=h3 rfl;simp_all[aO,Value.cells]
   subst hsv;exact⟨[],⟨by simp,.inl ⟨rfl,rfl⟩⟩,⟨rfl,[],rfl,rfl,fun i h=>by simp at h⟩⟩
 | tup t =>
  have hy:q.length≠1∧aDy (h.map Vc.frzAll) t q=some y:=hy;obtain⟨hne,hy⟩:=hy;rw[← bD1] at hy;have hargs:=aKZ N hy (xs:=xs) Z z;refine⟨xs,?_,bFc (L N) hargs⟩
  match xs,Z▸hne with
  | [],_=>rfl
  | [s],hne=>simp_all
  | s::s'::l,_=>rfl
def m0:Option Pan→Value→FrameMode
 | none,_=>.returning
 | some p,u=>.panicking (aWL p.k u)
def m1:Option Pan→Value→FrameMode
 | none,_=>.returning
 | some p,u=>.panicking [{ v:=.iface p.k u,recovered:=true,goexit:=false }]
theorem bFj(m:Option Pan)(u:Value):settle (m1 m u)= .returning:=by cases m<;>rfl
def bK0(P:Program)(g:FuncId)(vs:Array Value)(f u1:FrameMode)(w:World)(R:Ending→World→Prop):Prop:=CallsD P g vs f w fun e q w'=>q=u1∧R e w'
def DOK(P:Program)(G:Nat→AV)(g:FuncId)(mode:Option Pan)(sp:fH):Prop :=
 ∀(c:Ctx) (w:World) (d:sp.D) (vs:Array Value) (u:Value),sp.pre d→GIn G sp c w d vs.toList→(∀p,mode=some p→dU w c.S p.t p.x u)→bK0 P g vs (m0 mode u) (m1 mode u) w (aNT sp c w d)
theorem bAW{F:Fr}{fn:Func}{S:Nat→Prop}{r:RK}{y:r.ty.den}{env:St}{h:List Obj}{k:Nat}{roots:Nat→Value}{g:FuncId}{l2:List Nat}{mode:Option Pan}(hF:uP F)(N:F.M=⟨nothing,S,k,roots⟩)(U:F.ds= [⟨.fn (.func g) (l2.map roots).toArray,#[]⟩])(hk:∀i∈l2,i<k)(hbx:aHu h l2=true)
  (hfn:∃fn,F.P.funcs[g]? = some fn∧fn.name ≠ "runtime.NumGoroutine" ∧ fn.body.isSome=true) (t:Hit) (hok:DOK F.P F.E.G g mode t.sp) (hh:aO4 h (l2.map fun i=>.ptr i []) t) {v:AV} {h':List Obj} (I:t.sp.out t.d= .ret v h')
  (l:List ResultVar) (hr:fn.results=l.toArray) (hy:(aS F.E.T (aGc t.σ t.sp.m h h') env l).1∧mA (aGc t.σ t.sp.m h h') r y (aS F.E.T (aGc t.σ t.sp.m h h') env l).2) {c:Ctx} {a:Act} {w:World} {u:Value} (hs:Sim F.E F.M F.w0 F.nt F.ds c env h a w) (hu:∀p,mode=some p→dU w c.S p.t p.x u) :
  Leaves F.P fn a.tmps (fun e w'=>∃v,e= .returned v∧iL nothing F.w0 w'∧bEY w' S F.w0.heap.size r y v) a.defers (m0 mode u) w:=by
 have hroot:=hs.good.root;rw[N] at hroot;have J:∀i∈l2,c.hd i=roots i∧i<c.n:=fun i hi=>⟨hroot.2 i (hk i hi),Nat.lt_of_lt_of_le (hk i hi) hroot.1⟩;have hl2:l2.map roots=l2.map c.hd:=List.map_congr_left fun i hi=>(J i hi).1.symm;have Y:∀i (L:i<(l2.map fun i=>AV.ptr i []).length) (Z:i<(l2.map roots).toArray.toList.length),aX c w (l2.map fun i=>AV.ptr i [])[i] (l2.map roots).toArray.toList[i]:=fun i L Z=>by
  have:=aK5 hs.good hbx (fun i hi=>(J i hi).2) i L (by simp_all);simp_all
 rw[hs.defers,U];refine leaves_cons (f:=g) (args:=(l2.map roots).toArray) ?_ ?_ ?_
 ·cases mode<;>simp[m0]
 ·grind[aFq,invoke]
 ·have hcall:=aXY (C:=bK0 F.P g (l2.map roots).toArray (m0 mode u) (m1 mode u) w) (fun R R' h k=>CallsD.mono h fun e u' w' q=>⟨q.1,k _ _ q.2⟩) (fun hp hin=>hok _ _ _ _ _ hp hin hu) hs.good hs.glob (vs:=l2.map fun i=>AV.ptr i []) (xs:=(l2.map roots).toArray) (by simp) Y hh;refine CallsD.mono hcall ?_;rintro e u' w' ⟨rfl,cN,hl,z⟩;rw[I] at z;obtain⟨uv,rfl,O,_⟩:=z;show Leaves F.P fn a.tmps _ [] (settle (m1 mode u)) w';rw[bFj];obtain⟨us,q1,q2,q3⟩:=aI2 (P:=F.P) hF.env.T O (hs.env.keep hl) hr hy.1;refine⟨aMY us,q1,aMY us,rfl,by have:=O.keeps; simp_all,?_⟩;exact bGN (by rw[N]) (by rw[N]) O q2 (fun i L Z=>q3 i L Z) hy.2
theorem aUb{F:Fr}{fn:Func}{S:Nat→Prop}{r:RK}{y:r.ty.den}{env:St}{h:List Obj}{k:Nat}{roots:Nat→Value}{g:FuncId}{l2:List Nat}(hF:uP F)(N:F.M=⟨nothing,S,k,roots⟩)(I:F.ds= [⟨.fn (.func g) (l2.map roots).toArray,#[]⟩])(L:∀i∈l2,i<k)(z:aHu h l2=true)
  (q:∃fn,F.P.funcs[g]? = some fn∧fn.name ≠ "runtime.NumGoroutine" ∧ fn.body.isSome=true) (t:Hit) (J:DOK F.P F.E.G g none t.sp) {v:AV} {h':List Obj} (f:t.sp.out t.d= .ret v h')
  (l:List ResultVar) (O:fn.results=l.toArray) (U:aO4 h (l2.map fun i=>.ptr i []) t) (hy:(aS F.E.T (aGc t.σ t.sp.m h h') env l).1∧mA (aGc t.σ t.sp.m h h') r y (aS F.E.T (aGc t.σ t.sp.m h h') env l).2) :
  At F (bEd F.P fn S F.w0 r y .ret) env h:=fun c a w hs =>
 bAW (u:=Go.undef) hF N I L z q t J U f l O hy hs (fun p hp=>by cases hp)
theorem aFs{F:Fr}{fn:Func}{S:Nat→Prop}{r:RK}{y:r.ty.den}{env:St}{h:List Obj}{k:Nat}{roots:Nat→Value}{g:FuncId}{l2:List Nat}{p:Pan}(hF:uP F)(O:F.M=⟨nothing,S,k,roots⟩)(J:F.ds= [⟨.fn (.func g) (l2.map roots).toArray,#[]⟩])(N:∀i∈l2,i<k)(I:aHu h l2=true)
  (z:∃fn,F.P.funcs[g]? = some fn∧fn.name ≠ "runtime.NumGoroutine" ∧ fn.body.isSome=true) (t:Hit) (L:DOK F.P F.E.G g (some p) t.sp) {v:AV} {h':List Obj} (f:t.sp.out t.d= .ret v h')
  (l:List ResultVar) (U:fn.results=l.toArray) (Y:aO4 h (l2.map fun i=>.ptr i []) t) (hy:(aS F.E.T (aGc t.σ t.sp.m h h') env l).1∧mA (aGc t.σ t.sp.m h h') r y (aS F.E.T (aGc t.σ t.sp.m h h') env l).2) :
  AtP F (bEd F.P fn S F.w0 r y) p env h:=fun c a w u hs Z =>
 bAW hF O J N I z t L Y f l U hy hs (fun q hq=>by grind)
theorem aDR{F:Fr}{Q:Exit→Act→World→Prop}{env:St}{h:List Obj}{id:Nat}{ops:Array Oper}{y:Code}{g:FuncId}{t:Nat}{f:Array Operand}{O ty2:TypeId}{z J:String}{q I:Array Edge}(k:Nat)(l2:List Nat)
  (U:ops= #[⟨some t,.makeFunc (.func g) #[] f,O,z,q,none⟩,⟨none,.defer ⟨.value (.tmp t),#[],#[]⟩,ty2,J,I,none⟩])
  (htags:allTags h (f.toList.map (evA F.E.G env))=some l2) (hm:F.M.m≤k) (hk:k≤h.length)
  (hy:∀roots:Nat→Value,(∀i,i<F.M.m→roots i=F.M.roots i)→Tri { F with M:=⟨F.M.wr,F.M.rd,k,roots⟩,ds:=⟨.fn (.func g) (l2.map roots).toArray,#[]⟩::F.ds } y Q ((t,.junk)::env) h):Tri F (.seq (.region id ops false) y) Q env h:=fun hok c a w hs=>by
 simp only[iT,Bool.and_eq_true] at hok;obtain⟨⟨⟨Z,_⟩,_⟩,hok2⟩:=hok;subst U;have hall:=List.all_eq_true.1 Z;have N:=hall ⟨some t,.makeFunc (.func g) #[] f,O,z,q,none⟩ (by simp);simp only[iG,Bool.and_eq_true] at N;have L:∀x∈(Op.makeFunc (.func g) #[] f).operands,sO x=true:=Array.all_eq_true_iff_forall_mem.1 N.1;have htn:t<a.tmps.size:=by
  have:=N.2;rw[hs.size];simp_all
 obtain⟨hlt,hcv⟩:=aOV hs.good htags (vs:=f.toList.map a.eval) (by simp) (fun i h1 h2=>by
  simp only[List.getElem_map];exact aF3 hs.env hs.glob (L _ (by simp[Op.operands])))
 have hcv':f.map a.eval=(l2.map c.hd).toArray:=by grind
 refine wp_seq (wp_region ?_);have hy':=hy c.hd (fun i hi=>hs.good.root.2 i hi);have hgood:Good ⟨F.M.wr,F.M.rd,k,c.hd⟩ F.w0 c h w:=⟨hs.good.n,hs.good.keeps,hs.good.sfin,hs.good.src,hs.good.objs,hs.good.own,hs.good.sep,by rw[hs.good.n]; exact hk,fun _ _=>rfl⟩;have hfin:=hy' hok2 c { (a.put (some t) (.func (.func g) #[] (l2.map c.hd).toArray)) with defers:=⟨.fn (.func g) (l2.map c.hd).toArray,#[]⟩::a.defers } w ⟨hgood,hs.glob,by
  have:=hs.env.put (d:=t) (v:=.junk) (x:=.func (.func g) #[] (l2.map c.hd).toArray) htn trivial;omega,by simpa [Act.put] using hs.size,by simp[hs.defers]⟩
 have run1:(execOp a.eval ⟨some t,.makeFunc (.func g) #[] f,O,z,q,none⟩).run F.P w= .ok (.value (.func (.func g) #[] (l2.map c.hd).toArray)) w:=by
  simp[execOp,Instr.makeFunc,hcv']
 have Y:(a.put (some t) (.func (.func g) #[] (l2.map c.hd).toArray)).eval (.tmp t)= .func (.func g) #[] (l2.map c.hd).toArray:=by
  simp[Act.eval,Act.put,htn]
 have run2:(execOp (a.put (some t) (.func (.func g) #[] (l2.map c.hd).toArray)).eval ⟨none,.defer ⟨.value (.tmp t),#[],#[]⟩,ty2,J,I,none⟩).run F.P w= .ok (.defer ⟨.fn (.func g) (l2.map c.hd).toArray,#[]⟩) w:=by
  simp[execOp,resolve,Deferred.ofValue,Y]
 show wpOps F.P _ _ [0,1] a w;have w1:∀(o:Oper) (y:Nat→Option Bool),o.guard=none→Region.wanted o y=true:=fun o y h=>by simp[Region.wanted,h]
 unfold wpOps;simp only[List.getElem?_toArray,List.getElem?_cons_zero];rw[if_pos (w1 _ _ rfl)];refine .inl ?_;unfold Oper.wp;rw[run1,Oper.upon_value];unfold wpOps;simp only[List.getElem?_toArray,List.getElem?_cons_succ,List.getElem?_cons_zero];rw[if_pos (w1 _ _ rfl)];refine .inl ?_;unfold Oper.wp;rw[run2,Oper.upon_defer];exact hfin
theorem aI3{ops:Array Oper}{cs:List Frame}{Q:Exit→Act→List Frame→World→Prop}(g:¬LetsOut fun e a w=>Q e a cs w):∀(l:List Nat) (a:Act) (w:World),wpOps P ops (fun e a w=>Q e a cs w) l a w→wpOpsS P ops Q l a cs w
 | [],a,w,f=>f
 | i::rest,a,w,f=>by
  unfold wpOps at f;unfold wpOpsS;cases I:ops[i]? with
  | none=>simp only[I] at f ⊢; exact aI3 g rest a w f
  | some o =>
   simp only[I] at f ⊢;split
   ·rename_i z;simp only[z,if_true] at f;have f:=Oper.wp_mono (fun a w=>aI3 g rest a w) (f.resolve_right fun q=>g q.2);unfold Oper.wp at f;revert f;generalize (execOp a.eval o).run P w=r;intro f;split
    ·exact f.elim
    omega
   ·rename_i z;simp only[z,if_false] at f;exact aI3 g rest _ w f
def bGO:Option Pan→AV
 | none=>.val .nili ()
 | some p=>.val (.ifc p.k p.t) p.x
theorem aQW{g:FuncId}{fn:Func}{rest:Code}{id:Nat}{ops:Array Oper}{sp:fH}{mode:Option Pan}{N:Nat}{ty:TypeId}{pos:String}{U:Array Edge}(hE:iF P E)(hf:P.funcs[g]? = some fn)(hb:fn.body=some (.seq (.region id ops false) rest))(hok:iT fn.ntmps (.seq (.region id ops false) rest)=true)(hn:∀d,(sp.av d).length≤fn.ntmps)
  (h0:ops[0]? = some ⟨some N,.call ⟨.builtin .recover,#[],#[]⟩,ty,pos,U,none⟩)
  (ht:∀(c:Ctx) (w:World) (d:sp.D),AV.wfL (sp.av d)→Obj.wfL (sp.hp d)→sp.pre d→c.n=(sp.hp d).length →
   xX E ops.toList (ops.toList.drop 1) ((N,bGO mode)::vH (sp.av d) 0) (sp.hp d) (fun env h=>Tri ⟨P,E,GM sp c d,w,fn.ntmps,[]⟩ rest (bodyPost P fn (aNT sp c w d)) env h)):DOK P E.G g mode sp:=by
 intro c w d I u hp q hu;refine callsD_of_wpS hf hb fun f Y z=>?_;have O:=hok;simp only[iT,Bool.and_eq_true] at O;obtain⟨⟨⟨J,_⟩,_⟩,hok2⟩:=O;refine wpS_seq (wpS_region ?_);have hsz:0<ops.size:=by
  grind
 obtain⟨n,hn'⟩:∃n,ops.size=n+1:=⟨ops.size-1,by omega⟩;have hrange:List.range ops.size=0::List.range' 1 n:=by rw[hn',List.range_eq_range',List.range'_succ]
 rw[hrange];unfold wpOpsS;have w1:∀(o:Oper) (y:Nat→Option Bool),o.guard=none→Region.wanted o y=true:=fun o y h=>by simp[Region.wanted,h]
 simp only[h0];rw[if_pos (w1 _ _ rfl)];have hrun:∀ρ,(execOp ρ ⟨some N,.call ⟨.builtin .recover,#[],#[]⟩,ty,pos,U,none⟩).run P w= .ok .recover w:=fun ρ=>by
  rfl
 rw[hrun];have Z:∀v,aX c w (bGO mode) v→wpOpsS P ops (Exit.thenS (rest.wpS P (bodyPostS P fn f Y fun e L w'=>L=m1 mode u∧aNT sp c w d e w')) (bodyPostS P fn f Y fun e L w'=>L=m1 mode u∧aNT sp c w d e w')) (List.range' 1 n) (({ tmps:=I++Array.replicate (fn.ntmps-I.size) undef,defers:=[] }:Act).put (some N) v) ({ f with mode:=m1 mode u }::Y) w:=fun v hv=>by
  refine aI3 ?_ _ _ _ ?_
  ·rintro⟨a',w',L,_,e⟩;obtain⟨c',e⟩:=e;grind
  ·have hsim:Sim E (GM sp c d) w fn.ntmps [] c ((N,bGO mode)::vH (sp.av d) 0) (sp.hp d) (({ tmps:=I++Array.replicate (fn.ntmps-I.size) undef,defers:=[] }:Act).put (some N) v) w:=by
    have hlen:=q.len;have hnn:=hn d;simp at hlen;have hsz2:(I++Array.replicate (fn.ntmps-I.size) undef).size=fn.ntmps:=(by grind);have ht5:N<fn.ntmps:=by
     have h0':ops.toList[0]? = some ⟨some N,.call ⟨.builtin .recover,#[],#[]⟩,ty,pos,U,none⟩:=(by simp_all);have:=List.all_eq_true.1 J _ (List.mem_of_getElem? h0');simp_all[iG,Bool.and_eq_true]
    refine⟨q.good,q.glob,?_,by grind[Act.put],rfl⟩;refine aKo.put (a:={ tmps:=I++Array.replicate (fn.ntmps-I.size) undef,defers:=[] }) ?_ (by simp_all) hv;refine aYU _ I.toList 0 q.len q.val fun i v hv=>?_;have hlt:i<I.size:=by
     grind
    simp_all[Nat.zero_add,Array.getElem?_toList,Array.getElem?_append,Array.getElem?_eq_getElem]
   have:=aO2 (P:=P) (ops:=ops.toList) (Q:=fun e a w'=>Exit.thenS (rest.wpS P (bodyPostS P fn f Y fun e L w'=>L=m1 mode u∧aNT sp c w d e w')) (bodyPostS P fn f Y fun e L w'=>L=m1 mode u∧aNT sp c w d e w') e a ({ f with mode:=m1 mode u }::Y) w') hE (List.all_eq_true.1 J) (fun env h c' a w' hk hs=>by
    refine wpS_of_wp (wp_mono (hk hok2 c' a w' hs) fun e a w' hq=>?_);cases e with
    | normal=>obtain⟨q1,v,q2,q3⟩:=hq; exact⟨q1,_,rfl,v,q2,rfl,q3⟩
    | ret=>obtain⟨q1,v,q2,q3⟩:=hq; exact⟨q1,_,rfl,v,q2,rfl,q3⟩
    | panic ch=>obtain⟨q1,q3⟩:=hq; exact⟨q1,_,rfl,rfl,q3⟩
    | outgrown=>exact⟨_,rfl,hq⟩
    | exit id=>exact hq.elim
    | goto l=>exact hq.elim) n 1 (by grind) _ _ c _ w (ht c w d (aYV q.len q.val) (bEa q.good) hp q.good.n) hsim
   omega
 cases mode with
 | none =>
  have e:f.mode= .returning:=z;have e2:({ f with mode:=.returning }:Frame)=f:=by rw[← e]
  have:=Z .nilIface (aX.ofV (by rfl));grind[m1,recoverD]
 | some p =>
  have e:f.mode= .panicking (aWL p.k u):=z;have:=Z (.iface p.k u) (aX.ofV (by
   unfold dU;rw[if_neg (by simp[Ty.isAgg])];have hr:=hu p rfl;unfold dU at hr;split at hr
   ·rename_i ha;obtain⟨ds,e1,e2⟩:=hr;exact⟨u,ds.toList,rfl,fun _=>by omega,(fun h=>by simp_all),e2⟩
   ·rename_i ha;exact⟨u,[u],rfl,fun h=>absurd h ha,fun _=>rfl,hr⟩))
  grind[m1,recoverD,aWL]
end
end Go.Vc
namespace Go.Vc
open Go.RowKit
def ck{α:Type}(p:Prop)[Decidable p](k:Option α):Option α:=if p then k else none
theorem bD{α:Type}{p:Prop}[Decidable p]{k:Option α}{r:α}(h:ck p k=some r):p∧k=some r:=by
 grind[ck]
theorem bGP{α:Type}{p:Prop}[Decidable p]{k:Option α}(hp:p):ck p k=k:=if_pos hp
theorem oD{α:Type}{p:Prop}[Decidable p]{x y:α}{r:α}(hp:p)(h:(if p then x else y)=r):x=r:=by simp_all
theorem nB{α:Type}{p:Prop}[Decidable p]{x y:α}{r:α}(hp:¬p)(h:(if p then x else y)=r):y=r:=by simp_all
abbrev I64(x:Int):Prop:= -9223372036854775808≤x∧x≤9223372036854775807
abbrev I32(x:Int):Prop:= -2147483648≤x∧x≤2147483647
section
variable {D E R:Type} {step:D→Option (D⊕E)}
def iter(step:D→Option (D⊕E)):Nat→D→Option E
 | 0,_=>none
 | n+1,d=>match step d with
  | none=>none
  | some (.inl f)=>iter step n f
  | some (.inr e)=>some e
theorem aQX:∀ {n:Nat} {d:D} {e:E},iter step n d=some e→iter step (n+1) d=some e
 | 0,d,e,h=>by cases h
 | n+1,d,e,h=>by
  unfold iter at h ⊢;cases hs:step d with
  | none=>simp_all
  | some s =>
   rw[hs] at h;cases s with
   | inl g=>exact aQX (n:=n) h
   | inr f=>exact h
theorem bEe{n m:Nat}(hm:n≤m){d:D}{e:E}(h:iter step n d=some e):iter step m d=some e:=by
 induction hm with
 | refl=>exact h
 | step _ f=>exact aQX f
theorem aXZ{n m:Nat}{d:D}{e f:E}(h:iter step n d=some e)(h':iter step m d=some f):e=f:=by
 have g:=bEe (Nat.le_max_left n m) h;grind[bEe,Nat.le_max_right,Option.some.inj]
open Classical in
noncomputable def aX0(step:D→Option (D⊕E))(d:D):Option E:=if h:∃e,∃n,iter step n d=some e then some (Classical.choose h) else none
theorem aQY{d:D}{e:E}:aX0 step d=some e↔ ∃n,iter step n d=some e:=by
 unfold aX0;constructor
 ·intro h;split at h
  all_goals grind
 ·rintro⟨n,h⟩;have f:∃e,∃n,iter step n d=some e:=⟨e,n,h⟩;rw[dif_pos f];grind[Classical.choose_spec,aXZ]
theorem aNW{n:Nat}{d:D}{e:E}(h:iter step n d=some e):aX0 step d=some e:=aQY.2 ⟨n,h⟩
theorem aH5{p:Nat→Prop}(h:∃n,p n):∃n,p n∧ ∀m,p m→n≤m:=by
 classical
 obtain⟨n,g⟩:=h
 induction n using Nat.strongRecOn with
 | _ n f =>
  grind
open Classical in
noncomputable def aI4(step:D→Option (D⊕E))(d:D):Nat:=if h:∃n,(iter step n d).isSome=true then Classical.choose (aH5 h) else 0
theorem bEf{d:D}{e:E}(h:aX0 step d=some e):iter step (aI4 step d) d=some e∧ ∀m f,iter step m d=some f→aI4 step d≤m:=by
 obtain⟨n,q⟩:=aQY.1 h;have g:∃n,(iter step n d).isSome=true:=⟨n,by grind⟩;have hs:=Classical.choose_spec (aH5 g);have e1:aI4 step d=Classical.choose (aH5 g):=by unfold aI4; simp_all
 rw[← e1] at hs;refine⟨?_,fun m f hm=>hs.2 m (by grind)⟩;cases hi:iter step (aI4 step d) d with
 | none=>simp_all
 | some f=>rw[aXZ hi q]
abbrev Md:=Option Nat
noncomputable def dE(F:Md)(step:D→Option (D⊕E))(d:D):Option E:=match F with
 | none=>aX0 step d
 | some n=>iter step n d
noncomputable abbrev aG4(step:D→Option (D⊕E))(d:D):Option E:=dE none step d
theorem aX1{d:D}{e:E}:aG4 step d=some e↔ ∃n,iter step n d=some e:=aQY
theorem aDC{n:Nat}{d:D}{e:E}(h:iter step n d=some e):aG4 step d=some e:=aNW h
theorem bJs{F:Md}{d:D}{e:E}(h:dE F step d=some e):aX0 step d=some e:=by
 cases F with
 | none=>exact h
 | some n=>exact aNW h
def aA9(A:D→Prop)(B:E→Prop):D⊕E→Prop
 | .inl d=>A d
 | .inr e=>B e
theorem aU6{k:E→Option R}{r:R}{F:Md}{d:D}(hd:(dE F step d).bind k=some r):∃s,step d=some s∧aA9 (fun f=>(dE F step f).bind k=some r∧aI4 step f<aI4 step d) (fun e=>k e=some r) s:=by
 cases g:dE F step d with
 | none=>simp_all
 | some e =>
  rw[g] at hd;have I:k e=some r:=hd;obtain⟨hi,z⟩:=bEf (bJs g);cases q:aI4 step d with
  | zero=>rw[q] at hi; cases hi
  | succ n =>
   rw[q,iter] at hi;split at hi
   ·cases hi
   ·rename_i f hs;have L:=aNW hi;have J:dE F step f=some e:=by
     cases F with
     | none=>exact L
     | some m =>
      have hm:iter step m d=some e:=g;cases m with
      | zero=>cases hm
      | succ m =>
       rw[iter,hs] at hm;exact aQX hm
    refine⟨_,hs,?_⟩;refine⟨by simp_all,?_⟩;grind[bEf,aI4,step]
   ·rename_i N hs;refine⟨_,hs,?_⟩;rw[Option.some.inj hi]; exact I
theorem aCz{I:D→Prop}(q:D→Nat)(f:D→E)(h:∀d,I d→(∃d',step d=some (.inl d')∧I d'∧q d'<q d∧f d'=f d)∨step d=some (.inr (f d))):∀d,I d→aG4 step d=some (f d):=by
 have g:∀n d,q d≤n→I d→ ∃m,iter step m d=some (f d):=by
  intro n
  induction n with
  | zero =>
   intro d N hi;rcases h d hi with⟨d',_,_,z,_⟩|hs
   ·omega
   ·exact⟨1,by rw[iter,hs]⟩
  | succ n L =>
   intro d N hi;rcases h d hi with⟨d',hs,J,z,O⟩|hs
   ·obtain⟨m,hm⟩:=L d' (by omega) J;exact⟨m+1,by grind[iter]⟩
   ·exact⟨1,by rw[iter,hs]⟩
 intro d hi;obtain⟨m,hm⟩:=g (q d) d (Nat.le_refl _) hi;exact aDC hm
theorem mC{I:D→Prop}(g:D→Nat)(Q:E→Prop)(h:∀d,I d→(∃d',step d=some (.inl d')∧I d'∧g d'<g d)∨ ∃e,step d=some (.inr e)∧Q e):∀d,I d→ ∃e,aG4 step d=some e∧Q e:=by
 have f:∀n d,g d≤n→I d→ ∃m e,iter step m d=some e∧Q e:=by
  intro n
  induction n with
  | zero =>
   intro d L hi;rcases h d hi with⟨d',_,_,q⟩|⟨e,hs,hq⟩
   ·omega
   ·exact⟨1,e,by rw[iter,hs],hq⟩
  | succ n J =>
   intro d L hi;rcases h d hi with⟨d',hs,z,q⟩|⟨e,hs,hq⟩
   ·obtain⟨m,e,hm,hq⟩:=J d' (by omega) z;exact⟨m+1,e,by grind[iter],hq⟩
   ·exact⟨1,e,by rw[iter,hs],hq⟩
 intro d hi;obtain⟨m,e,hm,hq⟩:=f (g d) d (Nat.le_refl _) hi;grind[aDC]
end
noncomputable def wU(F:Md)(k:IntKind)(a b:Nat):Nat:=match F with
 | none=>aKp k a b
 | some _=>(a+(lM k-b))%lM k
noncomputable def mulM(F:Md)(k:IntKind)(a b:Nat):Nat:=match F with
 | none=>aIO k a b
 | some _=>(a*b)%lM k
noncomputable def aMG(F:Md)(k:IntKind)(a:Nat):Nat:=match F with
 | none=>bAj k a
 | some _=>(0+(lM k-a))%lM k
theorem bEg{F:Md}{k:IntKind}{a b:Nat}:wU F k a b=aKp k a b:=by
 cases F with
 | none=>rfl
 | some _=>exact(aMj k a b).symm
theorem bJt{F:Md}{k:IntKind}{a b:Nat}:mulM F k a b=aIO k a b:=by
 cases F with
 | none=>rfl
 | some _=>exact(aYx k a b).symm
theorem bJu{F:Md}{k:IntKind}{a:Nat}:aMG F k a=bAj k a:=by
 cases F with
 | none=>rfl
 | some _=>exact(aYy k a).symm
theorem bJ(F:Md){k:IntKind}{a b:Nat}:aKp k a b=wU F k a b:=bEg.symm
theorem bK(F:Md){k:IntKind}{a b:Nat}:aIO k a b=mulM F k a b:=bJt.symm
theorem bL(F:Md){k:IntKind}{a:Nat}:bAj k a=aMG F k a:=bJu.symm
def zR(h:List Obj):List (Nat⊕Obj)→List Obj
 | []=>[]
 | .inl i::r=>h.getD i .dead::zR h r
 | .inr o::r=>o::zR h r
section
variable {F:Fr} {Q:Exit→Act→World→Prop} {env:St} {h:List Obj}
theorem aBZ{x y:Code}{D:Type}(J:D→Prop)(keep:List Nat)(f:D→St)(g:D→List (Nat⊕Obj))
  (z:Tri F x (Exit.then (fun q w'=>∃d' c',J d'∧Sim F.E F.M F.w0 F.nt F.ds c' (aNS env keep (f d')) (zR h (g d')) q w') Q) env h)
  (hy:∀d,J d→Tri F y Q (aNS env keep (f d)) (zR h (g d))):Tri F (.seq x y) Q env h :=
 bAG J (fun d=>aNS env keep (f d)) (fun d=>zR h (g d)) z hy
theorem aFW{x:Code}{D E R:Type}{G:Md}{step:D→Option (D⊕E)}{k:E→Option R}{r:R}{d0:D}(keep:List Nat)(f:D→St)(g:D→List (Nat⊕Obj))
  (hd:(dE G step d0).bind k=some r) (z:h=zR h (g d0)) (I:wT h env (aNS env keep (f d0)))
  (round:∀d s,step d=some s→aA9 (fun d'=>(dE G step d').bind k=some r∧aI4 step d'<aI4 step d) (fun e=>k e=some r) s→Tri F x (Exit.then (fun q w'=>∃d' c',((dE G step d').bind k=some r∧aI4 step d'<aI4 step d)∧Sim F.E F.M F.w0 F.nt F.ds c' (aNS env keep (f d')) (zR h (g d')) q w') Q) (aNS env keep (f d)) (zR h (g d))):Tri F (.loop x) Q env h :=
 bAF (fun d=>(dE G step d).bind k=some r) (aI4 step) (fun d=>aNS env keep (f d)) (fun d=>zR h (g d)) (aT d0 hd z I) fun d hi=>by
  obtain⟨s,L,J⟩:=aU6 hi;grind
end
theorem aX2{F:Fr}{Q:Exit→Act→World→Prop}{env:St}{h:List Obj}{id:Nat}{ops:Array Oper}{z q t4:Nat}{U ty0 Y Z:TypeId}{N L:String}{I J:Array Edge}{ct:Ty}{xs:List ct.den}(hF:uP F)
  (hops:ops= #[⟨some q,.move (.tmp z),Y,N,I,none⟩,⟨some t4,.binOp .eql U (.tmp q) (.const (.slice none 0 0)) ty0,Z,L,J,none⟩])
  (hT:F.E.T U=some (.sl ct)) (hv:look env z= .val (.sl ct) xs)
  (hq:∀b:Bool,(b=true→xs= [])→At F (Q .normal) ((t4,.val .bool b)::(q,.val (.sl ct) xs)::env) h):Tri F (.region id ops false) Q env h:=fun hok c a w hs=>by
 simp only[iT,Bool.and_eq_true] at hok;obtain⟨⟨hok1,_⟩,_⟩:=hok;subst hops;have O:=List.all_eq_true.1 hok1;have hk1:=O ⟨some q,.move (.tmp z),Y,N,I,none⟩ (by simp);have hk2:=O ⟨some t4,.binOp .eql U (.tmp q) (.const (.slice none 0 0)) ty0,Z,L,J,none⟩ (by simp);have h0:=hs.env z;rw[hv] at h0;obtain⟨⟨g,len,f,e1,e2⟩,_,e3⟩:=h0;have hval:a.tmps.getD z Go.undef= .slice g len f:=by
  have e3:=e3 rfl;simp_all[undef,Value.cells]
 have h0:=hs.env z;rw[hv] at h0;have s1:=hs.after hk1 (v:=a.tmps.getD z Go.undef) (av:=.val (.sl ct) xs) ⟨.refl _ _,hs.good,h0⟩;have ht3:q<a.tmps.size:=by
  simp only[iG,Bool.and_eq_true] at hk1;rw[hs.size]; simp_all
 have s2:=s1.after hk2 (v:=.bool g.isNone) (av:=.val .bool g.isNone) ⟨.refl _ _,s1.good,aF0 _⟩;refine wp_region ?_;have run1:(execOp a.eval ⟨some q,.move (.tmp z),Y,N,I,none⟩).run F.P w= .ok (.value (a.tmps.getD z Go.undef)) w:=by
  rfl
 have hget:(a.put (some q) (a.tmps.getD z Go.undef)).eval (.tmp q)= .slice g len f:=by
  simp_all[Act.eval,Act.put]
 obtain⟨_,hd,_⟩:=gJ (hF.env.T _ _ hT);have run2:(execOp (a.put (some q) (a.tmps.getD z Go.undef)).eval ⟨some t4,.binOp .eql U (.tmp q) (.const (.slice none 0 0)) ty0,Z,L,J,none⟩).run F.P w= .ok (.value (.bool g.isNone)) w:=by
  have hc:(a.put (some q) (a.tmps.getD z Go.undef)).eval (.const (.slice none 0 0))= .slice none 0 0:=rfl;have hq:∀d,(Op.equalIn (d+1) U (.slice g len f) (.slice none 0 0)).run F.P w= .ok g.isNone w:=fun d=>by
   unfold Op.equalIn;rw[Sem.run_bind,bG hd];cases g<;>rfl
  have hb:(binOp .eql U (.slice g len f) (.slice none 0 0)).run F.P w= .ok (.bool g.isNone) w:=by
   have e:binOp .eql U (.slice g len f) (.slice none 0 0)=(do pure (.bool (← Op.equal U (.slice g len f) (.slice none 0 0)))):=(by rfl);rw[e,Sem.run_bind,Op.equal,show Op.maxDepth=(Op.maxDepth-1)+1 from rfl,hq];rfl
  simp_all[eqGuard,undef,execOp]
 have w1:∀(o:Oper) (y:Nat→Option Bool),o.guard=none→Region.wanted o y=true:=fun o y h=>by simp[Region.wanted,h]
 show wpOps F.P _ _ [0,1] a w;unfold wpOps;simp only[List.getElem?_toArray,List.getElem?_cons_zero];rw[if_pos (w1 _ _ rfl)];refine .inl ?_;unfold Oper.wp;rw[run1,Oper.upon_value];unfold wpOps;simp only[List.getElem?_toArray,List.getElem?_cons_succ,List.getElem?_cons_zero];rw[if_pos (w1 _ _ rfl)];refine .inl ?_;unfold Oper.wp;rw[run2,Oper.upon_value];refine hq g.isNone (fun hn=>?_) c _ w s2;obtain⟨_,_,_,e4⟩:=e2;simp_all
theorem nG{F:Fr}{fn:Func}{S:Nat→Prop}{r:RK}{y:r.ty.den}{env:St}{h:List Obj}(hF:uP F)(l:List ResultVar)(g:F.M=top S)(f:F.ds= [])(L:fn.results=l.toArray)(hy:(aS F.E.T h env l).1∧mA h r y (aS F.E.T h env l).2):At F (post F.P fn S F.w0 r y .ret) env h:=fun c a w hs=>by
 obtain⟨q,O,J,z⟩:=aI2 (P:=F.P) hF.env.T hs.good hs.env L hy.1;refine⟨hs.defers.trans f,aMY q,O,aMY q,rfl,by have:=hs.good.keeps; simp_all,?_⟩;exact bGN (by rw[g]) (by rw[g]) hs.good J (fun i N I=>z i N I) hy.2
def aU7(i:Nat)(t:Ty)(x:t.den):AV→AV
 | .ptr j []=>if j=i then .roa t x else .ptr j []
 | .ptr j p=>if j=i then .junk else .ptr j p
 | .agg _=>.junk
 | .tup _=>.junk
 | .fn f g l2=>if g.contains i||l2.contains i then .junk else .fn f g l2
 | v=>v
theorem Good.shut{M:Perm}{w0:World}{c:Ctx}{h:List Obj}{w:World}(q:Good M w0 c h w){i n:Nat}{t:Ty}{x:t.den}(O:h[i]? = some (.box n (.val t x))) :
  ∃c',eI c w c' w∧c'.n=c.n∧Good M w0 c' (h.set i .dead) w∧ ∀v,aX c w (.ptr i []) v→aX c' w (.roa t x) v:=by
 have hob:=q.objs i _ O;have L:c.le (c.more (aU (c.hd i))):=⟨fun b hb=>.inl hb,Nat.le_refl _,fun _ _=>rfl⟩;have hl:eI c w (c.more (aU (c.hd i))) w:=⟨L,.refl _ _⟩;have hil:i<h.length:=yS O;have hcase:∀j f,(h.set i .dead)[j]? = some f→(j≠i∧h[j]? = some f)∨(j=i∧f= .dead):=fun j f g=>by
  grind
 refine⟨_,hl,rfl,⟨by simp[Ctx.more,q.n],q.keeps,fun b hb=>?_,fun b hb Z=>?_,fun j f g=>?_,fun j f b g hb=>?_,fun j k f ok b g hk J N=>?_,aCs q.root L⟩,fun v hv=>?_⟩
 ·rcases hb with hb|hb
  ·exact q.sfin b hb
  ·exact(q.own i _ b O hb).2.1
 ·rcases hb with hb|hb
  ·exact q.src b hb Z
  ·rcases (q.own i _ b O hb).1 with I|I
   all_goals grind
 ·rcases hcase j f g with⟨U,g⟩|⟨rfl,rfl⟩
  ·exact(q.objs j f g).keep hl (by rw[q.n]; grind) rfl (fun _ _=>rfl)
  ·trivial
 ·rcases hcase j f g with⟨U,g⟩|⟨rfl,rfl⟩
  ·obtain⟨I,h2,h3⟩:=q.own j f b g (by cases f<;>exact hb);refine⟨I,h2,fun Y=>?_⟩;rcases Y with Y|Y
   ·grind
   ·exact U (q.sep j i f _ b g O (by cases f<;>exact hb) Y)
  ·cases hb
 ·rcases hcase j f g with⟨hnj,g⟩|⟨rfl,rfl⟩
  ·rcases hcase k ok hk with⟨hnk,hk⟩|⟨rfl,rfl⟩
   ·exact q.sep j k f ok b g hk (by cases f<;>exact J) (by cases ok<;>exact N)
   ·cases N
  ·cases J
 ·obtain⟨b,cells,e,I,h2,h3,h4⟩:=hob;obtain⟨⟨_,b',z,e1⟩,_,e3⟩:=hv;have e3:=e3 rfl;rw[I] at z;simp only[aU,Option.some.injEq] at z;subst z;have ev:v= .pointer (some ⟨b,0,none⟩):=by
   simp_all[Value.cells,pR]
  rw[ev];have h4:bB w c.S t x cells.toList:=h4;refine aGZ (ds:=cells.toList) (.inr (by rw[I]; rfl)) (bB.keep (fun b hb=>.inl hb) (.refl _ _) _ _ _ h4) fun j u g=>?_;simp_all[Nat.zero_add,World.cell?]
theorem bJv{F:Fr}{K:Act→World→Prop}{env:St}{h:List Obj}(i:Nat){n:Nat}{t:Ty}{x:t.den}(J:h[i]? = some (.box n (.val t x)))(q:At F K (env.map fun p=>(p.1,aU7 i t x p.2)) (h.set i .dead)):At F K env h:=fun c a w hs=>by
 obtain⟨c',g,L,z,hv⟩:=hs.good.shut J;refine q c' a w ⟨z,hs.glob.mono g.le.S g.same,fun s=>?_,hs.size,hs.defers⟩;rw[aLd (aU7 i t x) rfl];have h0:=hs.env s;generalize look env s=v at h0;generalize a.tmps.getD s Go.undef=u at h0;cases v with
 | ptr j p =>
  cases p with
  | nil =>
   simp only[aU7];split
   ·simp_all
   ·exact g.val h0
  | cons _ _ =>
   simp only[aU7];split
   ·trivial
   ·exact g.val h0
 | fn f N l2 =>
  simp only[aU7];split
  ·trivial
  ·exact g.val h0
 | agg I=>trivial
 | tup I=>trivial
 | _=>exact g.val h0
theorem aEk{F:Fr}{x:Code}{Q:Exit→Act→World→Prop}{env:St}{h:List Obj}(i:Nat){n:Nat}{t:Ty}{y:t.den}(q:h[i]? = some (.box n (.val t y)))(g:Tri F x Q (env.map fun p=>(p.1,aU7 i t y p.2)) (h.set i .dead)):Tri F x Q env h:=fun f=>bJv i q (g f)
def mSpec(a:Ty)(r:RK)(m:a.den→Option r.ty.den):aF:=⟨a,r,fun x=>(m x).isSome=true,fun x=>(m x).getD r.ty.zero⟩
section
variable {P:Program} {E:Env}
theorem aDD{f:FuncId}{fn:Func}{g:Code}{a:Ty}{r:RK}{m:a.den→Option r.ty.den}(J:iF P E)(I:P.funcs[f]? = some fn)(hb:fn.body=some g)(q:iT fn.ntmps g=true)(z:aSj a≤fn.ntmps)
  (ht:∀(w0:World) (S:Nat→Prop) (x:a.den) (y:r.ty.den),a.wf x→m x=some y→Tri (fr P E S w0 fn.ntmps) g (post P fn S w0 r y) (cA a x 0) []):FOK P E.G f (mSpec a r m) :=
 bCB J I hb q z fun w0 S x L hp=>by
  grind[Option.isSome_iff_exists,mSpec]
theorem jJ{G:Nat→AV}{f:FuncId}{a:Ty}{r:RK}{m:a.den→Option r.ty.den}{pre:a.den→Prop}{fn:a.den→r.ty.den}(h:FOK P G f (mSpec a r m))(hc:∀x,a.wf x→pre x→m x=some (fn x)):FOK P G f ⟨a,r,pre,fn⟩:=fun w S z x I q g hp=>by
 have hm:=hc x (aIY _ _ _ g) hp;have:=h w S z x I q g (by show (m x).isSome=true; grind);simp_all[mSpec]
end
attribute [go_sem] zR aU7
end Go.Vc
namespace Go.Vc
open Go.RowKit
def bGQ:List (FuncId×Hit)→FuncId→List AV→List Obj→Option Hit
 | [],_,_,_=>none
 | (k,t)::r,f,g,h=>if k=f then some t else bGQ r f g h
structure aQZ(P:Program)(G:Nat→AV)(l:List (FuncId×Hit)):Prop where
 ok:∀p∈l,GOK P G p.1 p.2.sp∧fnB P p.1=true
theorem aQZ.nil{P:Program}{G:Nat→AV}:aQZ P G []:=⟨fun p hp=>by cases hp⟩
theorem aQZ.cons{P:Program}{G:Nat→AV}{l:List (FuncId×Hit)}{f:FuncId}{t:Hit}(h:GOK P G f t.sp)(q:fnB P f=true)(g:aQZ P G l):aQZ P G ((f,t)::l):=by
 refine⟨fun p hp=>?_⟩;rcases List.mem_cons.1 hp with rfl|hp
 ·simp_all
 ·exact g.ok p hp
theorem aU8:∀ {l:List (FuncId×Hit)} {f:FuncId} {vs:List AV} {h:List Obj} {t:Hit},bGQ l f vs h=some t→(f,t)∈l
 | (k,s)::r,f,vs,h,t,e=>by
  simp only[bGQ] at e;split at e
  ·simp_all
  ·exact List.mem_cons_of_mem _ (aU8 e)
theorem xC{P:Program}{f:FuncId}(h:fnB P f=true):∃fn,P.funcs[f]? = some fn∧fn.name ≠ "runtime.NumGoroutine" ∧ fn.body.isSome=true:=by
 unfold fnB at h;grind
theorem eT{P:Program}{G:Nat→AV}{l:List (FuncId×Hit)}(h:aQZ P G l):aGd P G (bGQ l) :=
 ⟨fun f q g t e=>(h.ok _ (aU8 e)).1,fun f q g t e=>xC (h.ok _ (aU8 e)).2⟩
theorem bind_some{α β:Type}{x:Option α}{k:α→Option β}{r:β}(h:x.bind k=some r):∃e,x=some e∧k e=some r:=by
 cases x with
 | none=>cases h
 | some e=>simp_all
def rpV:AV→AV
 | .val (.rp t) x=>.roa t x
 | v=>v
theorem bLE{c:Ctx}{w:World}{v:AV}{x:Value}(hv:aX c w v x):aX c w (rpV v) x:=by
 cases v with
 | val t y =>
  cases t with
  | rp t =>
   obtain⟨⟨b,off,ds,e,hb,hd,hc⟩,_,f⟩:=hv;have f:=f rfl;have g:x= .pointer (some ⟨b,off,none⟩):=by
    simp_all[Value.cells]
   rw[g];exact aGZ hb hd hc
  | _=>exact hv
 | _=>exact hv
section
variable {P:Program} {E:Env}
theorem bAX{f:FuncId}{fn:Func}{q:Code}{sp:fH}(Y:iF P E)(O:P.funcs[f]? = some fn)(hb:fn.body=some q)(z:iT fn.ntmps q=true)(U:∀d,(sp.av d).length≤fn.ntmps)
  (ht:∀(c:Ctx) (w:World) (d:sp.D),AV.wfL (sp.av d)→Obj.wfL (sp.hp d)→sp.pre d→c.n=(sp.hp d).length→Tri ⟨P,E,GM sp c d,w,fn.ntmps,[]⟩ q (bodyPost P fn (aNT sp c w d)) (vH ((sp.av d).map rpV) 0) (sp.hp d)):GOK P E.G f sp:=by
 intro c w d I hp g;refine calls_of_wp O hb ?_;refine ht c w d (aYV g.len g.val) (bEa g.good) hp g.good.n z c _ w ⟨g.good,g.glob,?_,?_,rfl⟩
 ·refine aYU _ I.toList 0 (by rw[List.length_map]; exact g.len) (fun i N L=>?_) fun i v hv=>?_
  ·rw[List.getElem_map]; exact bLE (g.val i (by simp_all) L)
  ·have J:i<I.size:=by
    grind
   simp_all[Nat.zero_add,Array.getElem?_toList,Array.getElem?_append,Array.getElem?_eq_getElem]
 ·have N:=g.len;simp_all
end
section
variable {P:Program} {E:Env} {M:Perm} {w0:World} {nt:Nat} {ds:List Deferred} {h:List Obj} {env:St}
theorem bJw(hE:iF P E){sb:List Nat}{Δ:FuncId→List AV→List Obj→Option Hit}(Y:aGd P E.G Δ){ops:List Oper}{Q:Exit→Act→World→Prop}(L:∀o∈ops,iG nt o=true){K:St→List Obj→Prop}{Kp:Pan→St→List Obj→Prop}
  (hKp:∀p env h c a w u,Kp p env h→Sim E M w0 nt ds c env h a w→dU w c.S p.t p.x u→Q (.panic (aWL p.k u)) a w) {i:Nat} (I:i<ops.length) {env:St} {h:List Obj} {c:Ctx} {a:Act} {w:World} (hs:aCy E Δ sb ops (ops.drop i) env h K Kp) (f:Sim E M w0 nt ds c env h a w)
  {N:Act→World→Prop} (hn:∀q h' c' a' w',aCy E Δ sb ops (ops.drop (i+1)) q h' K Kp→Sim E M w0 nt ds c' q h' a' w'→N a' w'):wpOp P ops.toArray Q i N a w:=by
 rw[List.drop_eq_getElem_cons I] at hs;have g:=L ops[i] (List.getElem_mem I);have O:∀(v:Value) (av:AV),aX c w av v→Sim E M w0 nt ds c (zQ ops[i].dst av env) h (a.put ops[i].dst v) w:=fun v av hv=>f.after g ⟨.refl _ _,f.good,hv⟩;unfold wpOp;simp only[List.getElem?_toArray,List.getElem?_eq_getElem I];have hrun:aLe E Δ sb env h ops[i] (fun v h'=>aCy E Δ sb ops (ops.drop (i+1)) (zQ ops[i].dst v env) h' K Kp) (fun p h'=>Kp p env h')→Region.wanted ops[i] (yielded ops.toArray a.tmps)=true→(if Region.wanted ops[i] (yielded ops.toArray a.tmps)=true then Oper.wp P ops[i] a w N Q∨(ops[i].asks P a w∧LetsOut Q) else N (a.put ops[i].dst Go.undef) w):=fun h1 hw=>by
  rw[if_pos hw]
  left
  refine aU2 hE Y f g h1 (fun v h' c' u w' hk ha=>hn _ _ c' _ w' hk (f.after g ha)) (fun p h' c' u w' hk hl hg hr=>hKp p env h' c' a w' u hk (f.step hl hg) hr)
 have hskip:aCy E Δ sb ops (ops.drop (i+1)) (zQ ops[i].dst .undef env) h K Kp→Region.wanted ops[i] (yielded ops.toArray a.tmps)=false→(if Region.wanted ops[i] (yielded ops.toArray a.tmps)=true then Oper.wp P ops[i] a w N Q∨(ops[i].asks P a w∧LetsOut Q) else N (a.put ops[i].dst Go.undef) w):=fun h2 hw=>by
  rw[if_neg (by simp_all)];exact hn _ _ c _ w h2 (O _ _ rfl)
 simp only[aCy] at hs;cases Z:ops[i].guard with
 | none =>
  grind[Region.wanted]
 | some jp =>
  obtain⟨j,z⟩:=jp;rw[Z] at hs;simp only at hs;cases J:aLc ops j with
  | none=>simp_all
  | some dj =>
   rw[J] at hs;simp only at hs;have hv:=f.env dj;split at hs
   ·rename_i b hb;rw[hb] at hv;have U:=aHY hv;have hy:=aBY L f.size J U;simp only[yb] at hy;by_cases e:b=z
    ·grind[Region.wanted]
    ·have e':b= !z:=(by cases b<;>cases z<;>simp_all);grind[Region.wanted]
   ·rename_i hb;rw[hb] at hv;have hy:=aBY L f.size J (v:=Go.undef) hv;grind[Region.wanted,undef,yb]
   simp_all
theorem aX3(hE:iF P E){sb:List Nat}{Δ:FuncId→List AV→List Obj→Option Hit}(z:aGd P E.G Δ){ops:List Oper}{Q:Exit→Act→World→Prop}(L:∀o∈ops,iG nt o=true){K:St→List Obj→Prop}{Kp:Pan→St→List Obj→Prop}(hK:∀env h c a w,K env h→Sim E M w0 nt ds c env h a w→Q .normal a w)
  (I:∀p env h c a w u,Kp p env h→Sim E M w0 nt ds c env h a w→dU w c.S p.t p.x u→Q (.panic (aWL p.k u)) a w) {n:Nat} (ht:aSl n ops=true) :
  ∀(m i:Nat),i+m=ops.length→n≤i→ ∀(listed:Array Bool),listed.size=ops.length→(∀k,k<ops.length→(listed.getD k false=true↔k<i))→ ∀(env:St) (h:List Obj) (c:Ctx) (a:Act) (w:World),aCy E Δ sb ops (ops.drop i) env h K Kp→Sim E M w0 nt ds c env h a w→wpAny P .any ops.toArray Q m listed a w
 | 0,i,hi,Y,listed,hsz,hl,env,h,c,a,w,hs,f=>by
  rw[List.drop_eq_nil_of_le (by omega)] at hs;refine⟨?_,hK env h c a w hs f⟩;rw[List.eq_nil_iff_forall_not_mem];grind[mem_ready,lV.get_lt']
 | m+1,i,hi,Y,listed,hsz,hl,env,h,c,a,w,hs,f=>by
  have g:i<ops.length:=by omega
  have hio:ops[i]? = some ops[i]:=List.getElem?_eq_getElem g;refine⟨fun hr=>?_,fun j hj=>?_⟩
  ·exfalso;have hmem:i∈Region.ready .any ops.toArray listed:=by
    grind[mem_ready,lV]
   simp_all
  ·obtain⟨h1,o,ho,J⟩:=mem_ready.1 hj;have ho:ops[j]? = some o:=(by simp_all);have hjl:=lV.get_lt' ho;have hji:j=i:=by
    rcases Nat.lt_trichotomy j i with Z|heq|hgt
    ·grind
    ·exact heq
    ·have:=(lV ht ho).2 (by omega) (fun k=>k<ops.length→listed.getD k false=true) (fun k o' N hk e U hb=>fun Z=>by
      have hkl:=lV.get_lt' N;have h3:=(lV ht N).1 e U hb;grind) (fun e U hb _=>J e U hb) i hgt g
     simp_all
   subst hji;refine bJw hE z L I g hs f fun O h' c' a' w' hs' q=>?_;refine aX3 hE z L hK I ht m (j+1) (by omega) (by omega) (listed.setIfInBounds j true) (by grind) (fun k hk=>?_) O h' c' a' w' hs' q;by_cases e:j=k
   ·simp_all
   ·rw[getD_set_ne false e,hl k hk];omega
def aGe(ops:List Oper)(done:List Nat):List Nat:=(List.range ops.length).filter fun i=> !done.contains i&&(match ops[i]? with
 | some o=>o.after.toList.all fun e=> !Region.binds .any e||done.contains e.on
 | none=>false)
def anyS(E:Env)(ops:List Oper)(K:St→List Obj→Prop):Nat→List Nat→St→List Obj→Prop
 | 0,_,env,h=>K env h
 | n+1,done,env,h=>∀i,i∈aGe ops done→match ops[i]? with
  | some o=>o.guard=none∧(match aAR E env h o with
   | (p,v,h')=>p∧anyS E ops K n (i::done) (zQ o.dst v env) h')
  | none=>False
def bAY(ops:List Oper):Bool:=ops.zipIdx.all fun p=>p.1.after.toList.all fun e=> !Region.binds .any e||decide (e.on<p.2)
theorem aI5:∀ {l m:List Nat},l.Nodup→(∀x∈l,x∈m)→l.length≤m.length∧(l.length=m.length→ ∀x∈m,x∈l)
 | [],m,_,_=>⟨by simp,fun h x L=>by
  grind⟩
 | a::l,m,J,hs=>by
  have q:a∈m:=hs a (by simp);have f:=List.nodup_cons.1 J;have g:=List.length_erase_of_mem q;have I:0<m.length:=List.length_pos_of_mem q;have z:=aI5 (l:=l) (m:=m.erase a) f.2 (fun x L=>by
   grind)
  grind
theorem bEh(hE:iF P E){ops:List Oper}{Q:Exit→Act→World→Prop}(Y:∀o∈ops,iG nt o=true){K:St→List Obj→Prop}(hK:∀env h c a w,K env h→Sim E M w0 nt ds c env h a w→Q .normal a w)(hb:bAY ops=true) :
  ∀(n:Nat) (done:List Nat) (listed:Array Bool),listed.size=ops.length→(∀k,k<ops.length→(listed.getD k false=true↔k∈done))→done.length+n=ops.length→done.Nodup→(∀k∈done,k<ops.length)→ ∀(env:St) (h:List Obj) (c:Ctx) (a:Act) (w:World),anyS E ops K n done env h→Sim E M w0 nt ds c env h a w→wpAny P .any ops.toArray Q n listed a w
 | 0,done,listed,hsz,hl,hn,hd,N,env,h,c,a,w,hs,f=>by
  refine⟨?_,hK env h c a w hs f⟩;rw[List.eq_nil_iff_forall_not_mem];intro j Z;obtain⟨h1,o,J,_⟩:=mem_ready.1 Z;have J:ops[j]? = some o:=by simp_all
  have z:=lV.get_lt' J;have U:j∈done:=by
   exact(aI5 hd (m:=List.range ops.length) (fun k g=>List.mem_range.2 (N k g))).2 (by grind) j (List.mem_range.2 z)
  grind
 | n+1,done,listed,hsz,hl,hn,hd,N,env,h,c,a,w,hs,f=>by
  have hrd:∀j,j∈Region.ready .any ops.toArray listed→j∈aGe ops done∧j∉done∧j<ops.length:=fun j Z=>by
   obtain⟨h1,o,J,U⟩:=mem_ready.1 Z;have J:ops[j]? = some o:=(by simp_all);have z:=lV.get_lt' J;have L:j<listed.size:=(by omega);have hnd:j∉done:=fun hm=>by
    grind
   refine⟨?_,hnd,z⟩;simp only[aGe,List.mem_filter,List.mem_range,J,Bool.and_eq_true,Bool.not_eq_true',List.contains_eq_mem,decide_eq_false_iff_not,List.all_eq_true,Bool.or_eq_true,decide_eq_true_eq];grind
  refine⟨fun hr=>?_,fun j Z=>?_⟩
  ·exfalso;have I:∃k,(k<ops.length∧k∉done)∧ ∀j,j<k→ ¬(j<ops.length∧j∉done):=by
    have I:∃k,k<ops.length∧k∉done:=by
     apply Classical.byContradiction;intro hc;have O:List.range ops.length ⊆ done:=fun k g=>Classical.byContradiction fun hk2=>hc ⟨k,List.mem_range.1 g,hk2⟩;have:=(aI5 (List.nodup_range (n:=ops.length)) (fun k g=>O g)).1;grind
    obtain⟨n,h1,h2⟩:=aH5 I;grind
   obtain⟨k,⟨g,hkd⟩,hlow⟩:=I;have hmem:k∈Region.ready .any ops.toArray listed:=by
    rw[mem_ready];have L:k<listed.size:=(by omega);have hun:¬listed.getD k false=true:=fun h=>hkd ((hl k g).1 h);refine⟨by grind,ops[k],by simp[g],fun e he hbe=>?_⟩;have hbk:=List.all_eq_true.1 hb (ops[k],k) (by grind);grind
   simp_all
  ·obtain⟨r1,r2,r3⟩:=hrd j Z;have hs:=hs j r1;have hjo:ops[j]? = some ops[j]:=List.getElem?_eq_getElem r3;rw[hjo] at hs;obtain⟨hg,hp,hrest⟩:=hs;have q:=Y ops[j] (List.getElem_mem r3);have hw:Region.wanted ops[j] (yielded ops.toArray a.tmps)=true:=(by simp[Region.wanted,hg]);unfold wpOp;simp only[List.getElem?_toArray,hjo];rw[if_pos hw]
   left
   refine(aMx hE f q hp).wp fun v w' c' ha=>?_;refine bEh hE Y hK hb n (j::done) (listed.setIfInBounds j true) (by grind) (fun k g=>?_) (by grind) (List.nodup_cons.2 ⟨r2,hd⟩) (fun k g=>?_) _ _ c' _ w' hrest (f.after q ha)
   ·by_cases e:j=k
    ·simp_all
    ·rw[getD_set_ne false e,hl k g];grind
   grind
theorem aG5{F:Fr}{Q:Exit→Act→World→Prop}{env:St}{h:List Obj}(hF:uP F){id:Nat}{ops:Array Oper}(keep:List Nat)(g:St)(h':List Obj)(hb:bAY ops.toList=true)
  (hv:anyS F.E ops.toList (fun e o=>keep.map (fun t=>(t,look e t))=g∧o=h') ops.toList.length [] env h) (z:At F (Q .normal) g h'):Tri F (.region id ops true) Q env h:=fun q c a w hs=>by
 simp only[iT,Bool.and_eq_true,Bool.or_eq_true,Bool.not_eq_true'] at q;obtain⟨⟨L,O⟩,N⟩:=q;refine wp_region_any hF.mix ?_;have f:eI c w c { w with drawn:=w.drawn+1 }:=⟨.refl _,fun b hb=>rfl⟩;have J:Sim F.E F.M F.w0 F.nt F.ds c env h a { w with drawn:=w.drawn+1 } :=
  ⟨hs.good.step f rfl rfl ⟨rfl,rfl,rfl,Nat.le_refl _,fun _ _ _=>rfl⟩ (fun _ _ _ _ _=>rfl) hs.good.sfin (fun _ hb=>.inl hb),uD.mono (w:=w) (w':={ w with drawn:=w.drawn+1 }) (fun _ hb=>hb) f.same hs.glob,hs.env.keep f,hs.size,hs.defers⟩
 have:=bEh (Q:=Q) hF.env (List.all_eq_true.1 L) (K:=fun e o=>keep.map (fun t=>(t,look e t))=g∧o=h') (fun e o c a w I hs=>by
  obtain⟨rfl,rfl⟩:=I;exact z c a w (hs.keep keep)) hb ops.toList.length [] (Array.replicate ops.size false) (by simp) (fun k z=>by simp_all) (by simp) List.nodup_nil (fun k z=>by cases z) env h c a _ hv J
 omega
theorem bJx{F:Fr}{K:Exit→St→List Obj→Prop}{Q:Exit→Act→World→Prop}{env:St}{h:List Obj}(hF:uP F)(U:∀e env h,K e env h→At F (Q e) env h){Δ:FuncId→List AV→List Obj→Option Hit}(L:aGd F.P F.E.G Δ){id:Nat}{ops:Array Oper}(n:Nat)(q:(aYK (ops.toList.take n)&&aJW (ops.toList.take n)&&aSl (ops.toList.take n).length ops.toList)=true)(keep sb:List Nat)
  (hv:vcA F.E h env (ops.toList.take n) 0 [] (fun z=>aCy F.E Δ sb ops.toList (ops.toList.drop n) (qK F.E.T (gK (ops.toList.take n) 0) (oJ z env) h).1 (qK F.E.T (gK (ops.toList.take n) 0) (oJ z env) h).2 (fun env h=>K .normal (keep.map fun t=>(t,look env t)) h) (fun p env h=>AtP F Q p env h))):Tri F (.region id ops true) Q env h:=fun I c a w hs=>by
 simp only[iT,Bool.and_eq_true,Bool.or_eq_true,Bool.not_eq_true'] at I;obtain⟨⟨h1,h2⟩,h3⟩:=I;simp only[Bool.and_eq_true] at q;obtain⟨⟨O,Z⟩,t3⟩:=q;have e:ops.toList.take n++ops.toList.drop n=ops.toList:=List.take_append_drop n ops.toList;have:=aXT (id:=id) (pre:=ops.toList.take n) (tail:=ops.toList.drop n) (Q:=Q) hF.env hF.mix (by grind) Z O (by simp_all) hs (K':=fun env h=>aCy F.E Δ sb ops.toList (ops.toList.drop n) env h (fun env h=>K .normal (keep.map fun t=>(t,look env t)) h) (fun p env h=>AtP F Q p env h)) hv
  (fun env h c a w listed J N f g=>by
   rw[e] at J N ⊢;exact aX3 (K:=fun env h=>K .normal (keep.map fun t=>(t,look env t)) h) (Kp:=fun p env h=>AtP F Q p env h) hF.env L (List.all_eq_true.1 h1) (fun env h c a w f hs=>U _ _ _ f c a w (hs.keep keep)) (fun p env h c a w u f hs hr=>f c a w u hs hr) t3 (ops.toList.drop n).length (ops.toList.take n).length (by grind) (Nat.le_refl _) listed J N env h c a w (by
    have Y:ops.toList.drop (ops.toList.take n).length=ops.toList.drop n:=by
     simp_all
    rw[Y]; exact f) g)
 simp_all
theorem aI6{f:FuncId}{fn:Func}{g:Code}{a:Ty}{r:RK}{m:a.den→Option r.ty.den}(J:iF P E)(I:P.funcs[f]? = some fn)(hb:fn.body=some g)(q:iT fn.ntmps g=true)(z:aSj a≤fn.ntmps)
  (ht:∀(w0:World) (S:Nat→Prop) (x:a.den) (y:r.ty.den),a.wf x→m x=some y→Tri (fr P E S w0 fn.ntmps) g (bEd P fn S w0 r y) (cA a x 0) []):FOK P E.G f (mSpec a r m) :=
 bJr J I hb q z fun w0 S x L hp=>by
  grind[Option.isSome_iff_exists,mSpec]
def bCI:AV→Bool
 | .val _ _=>true
 | .tup f=>f.all fun v=>match v with| .val _ _=>true|_=>false
 | _=>false
theorem bFk{c:Ctx}{w:World}{σ:List Nat}{v:AV}{x:Value}(hp:bCI v=true)(hv:aX c w v x):aX (c.ren σ) w v x:=by
 cases v with
 | val t y=>exact aT9 (σ:=σ) hv
 | tup f =>
  obtain⟨q,e,I,hi⟩:=hv;refine⟨q,e,I,fun i g z=>?_⟩;have hq:=List.all_eq_true.1 hp f[i] (List.getElem_mem g);have:=hi i g z;revert hq this;generalize f[i]=u;intro hq this;cases u<;>first|exact this|simp_all
 | _=>grind[bCI]
theorem lN{F:Fr}{fn:Func}{sp:fH}{c0:Ctx}{d:sp.D}{env:St}{h h':List Obj}{v:AV}(hF:uP F)(l:List ResultVar)(σ:List Nat)(hM:F.M=GM sp c0 d)(L:F.ds= [])(hr:fn.results=l.toArray)(U:nodupB σ=true)(Y:preB F.M.m σ=true)(q:sp.out d= .ret v h')(hh:(σ.map fun i=>dT σ (h.getD i .dead))=h')(O:(match v with| .tup J=>J.all bGL|_=>true)=true)(hpl:bCI v=true)(hy:(aS F.E.T h env l).1∧jQ h v (aS F.E.T h env l).2) :
  At F (bodyPost F.P fn (aNT sp c0 F.w0 d) .ret) env h:=fun c a w hs=>by
 subst hh;obtain⟨I,q1,z,N⟩:=aI2 (P:=F.P) hF.env.T hs.good hs.env hr hy.1;refine⟨hs.defers.trans L,aMY I,q1,c.ren σ,?_⟩;rw[q];refine⟨aMY I,rfl,by rw[← hM]; exact hs.good.ren U Y,bFk hpl ?_⟩;have f:=hy.2;generalize (aS F.E.T h env l).2=rs at z N f;cases v with
 | tup J =>
  obtain⟨h1,h2⟩:=f;obtain⟨k1,k2⟩:=aYW hs.good h2 z N;refine⟨I,?_,k1,fun i Z p2=>?_⟩
  ·match I,z with
   | [],_=>rfl
   | [x],z=>simp_all
   | a::b::r,_=>rfl
  ·have g:=List.all_eq_true.1 O J[i] (List.getElem_mem Z);exact bEb (k2 i Z p2).1 (k2 i Z p2).2 (fun l e=>by rw[e] at g; cases g) (fun e=>by rw[e] at g; cases g)
 | _ =>
  match rs,f with
  | [u],f =>
   match I,z with
   | [x],_=>exact aT7 hs.good f (N 0 (by simp) (by simp))
theorem gV{F:Fr}{fn:Func}{R:Ending→World→Prop}{env:St}{h:List Obj}(f:At F (bodyPost F.P fn R .ret) env h):At F (bodyPost F.P fn R .normal) env h:=f
end
attribute [go_sem] bGQ rpV
end Go.Vc

