import Derived.Test.YtlijgfkkmamanaaGreatDoorZL4
import Derived.ProofKit
import Derived.OpenShut
import Derived.Below
import Derived.Recover
set_option linter.unusedVariables false
set_option linter.unusedSimpArgs false
namespace Go.Vc
open Go.RowKit
structure Pan where
 k:TypeId
 t:Ty
 x:t.den
inductive bLP where
 | ret (v:AV) (h:List Obj)
 | pan (p:Pan) (h:List Obj)
structure fQ where
 D:Type
 av:D→List AV
 hp:D→List Obj
 m:Nat
 pre:D→Prop
 out:D→bLP
def GM(sp:fQ)(c:Ctx)(d:sp.D):Perm:=⟨fun b=>∃i o,(sp.hp d)[i]? = some o∧fI c i o b,c.S,sp.m,c.hd⟩
structure GIn(G:Nat→AV)(sp:fQ)(c:Ctx)(w:World)(d:sp.D)(vs:List Value):Prop where
 good:Good (GM sp c d) w c (sp.hp d) w
 glob:uB G c.S w
 len:vs.length=(sp.av d).length
 val:∀i (h1:i<(sp.av d).length) (h2:i<vs.length),aY c w (sp.av d)[i] vs[i]
def aWE(k:TypeId)(u:Value):List PanicEntry:=[{ v:=.iface k u,recovered:=false,goexit:=false }]
def aNI(sp:fQ)(c:Ctx)(w:World)(d:sp.D)(e:Ending)(w':World):Prop :=
 ∃c',match sp.out d with
  | .ret v h'=>∃u,e= .returned u∧Good (GM sp c d) w c' h' w'∧aY c' w' v u
  | .pan p h'=>∃u,e= .panicked (aWE p.k u)∧Good (GM sp c d) w c' h' w'∧dV w' c'.S p.t p.x u
def GOK(P:Program)(G:Nat→AV)(f:FuncId)(sp:fQ):Prop :=
 ∀(c:Ctx) (w:World) (d:sp.D) (vs:Array Value),sp.pre d→GIn G sp c w d vs.toList→Calls P f vs w (aNI sp c w d)
def bCG(f:List Nat):List Nat→Option (List Nat)
 | []=>some []
 | i::r=>match f[i]?,bCG f r with
  | some j,some l=>some (j::l)
  | _,_=>none
def aSV(g:List Nat):AV→AV
 | .own i=>match g[i]? with
  | some j=>.own j
  | none=>.junk
 | .ptr i p=>match g[i]? with
  | some j=>.ptr j p
  | none=>.junk
 | .sub i s off n=>match g[i]? with
  | some j=>.sub j s off n
  | none=>.junk
 | .mp i=>match g[i]? with
  | some j=>.mp j
  | none=>.junk
 | .fn f q l2=>match bCG g q,bCG g l2 with
  | some q,some l2=>.fn f q l2
  | _,_=>.junk
 | .agg _=>.junk
 | .flat _=>.junk
 | .tup _=>.junk
 | v=>v
def aHZ(f:List Nat):AV→AV
 | .agg g=>.agg (g.map (aSV f))
 | v=>aSV f v
def emb(f:List Nat):AV→AV
 | .tup g=>.tup (g.map (aHZ f))
 | v=>aHZ f v
def aUQ(f:List Nat):Obj→Obj
 | .box n v=>.box n (aHZ f v)
 | .trh e m t g k v=>.trh e m t g k (aHZ f v)
 | o=>o
def aF0:List (Nat×Obj)→List Obj→List Obj
 | [],h=>h
 | (i,o)::r,h=>aF0 r (h.set i o)
def tX(σ:List Nat)(m n k:Nat):List Nat:=σ.take m++List.range' n (k-m)
def aF1(σ:List Nat)(m:Nat)(h h':List Obj):List Obj :=
 aF0 ((σ.take m).zip ((h'.take m).map (aUQ (tX σ m h.length h'.length)))) (qK (σ.drop m) h)++(h'.drop m).map (aUQ (tX σ m h.length h'.length))
section
variable {P:Program} {E:Env} {M:Perm} {w0:World} {c c':Ctx} {h:List Obj} {w w':World}
structure Emb(μ:List Nat)(c' cN:Ctx):Prop where
 S:∀b,c'.S b→cN.S b
 hd:∀i j,μ[i]? = some j→j<cN.n∧cN.hd j=c'.hd i
theorem bD8{g:List Nat}{cN:Ctx}(q:Emb g c' cN):∀ {l f:List Nat},bCG g l=some f→(∀j∈f,j<cN.n)∧f.map cN.hd=l.map c'.hd
 | [],f,h=>by simp[bCG] at h; simp_all
 | i::r,f,h=>by
  simp only[bCG] at h;split at h
  ·rename_i j l z I;cases h;obtain⟨O,N⟩:=q.hd i j z;obtain⟨J,L⟩:=bD8 q I;simp_all
  grind
theorem aUR{J:List Nat}{cN:Ctx}(g:Emb J c' cN):∀ {v:AV} {cs:List Value},aM c' w v cs→aM cN w (aSV J v) cs:=by
 intro v cs q;have L:c'.le ⟨cN.S,c'.hd,c'.n,c'.bl⟩:=⟨g.S,Nat.le_refl _,fun _ _=>rfl⟩;cases v<;>simp only[aSV]<;>(try trivial)
 case own i =>
  split
  ·rename_i j hp;obtain⟨I,z⟩:=g.hd i j hp;grind[aM]
  ·trivial
 case ptr i p =>
  split
  ·rename_i j hp;obtain⟨I,z⟩:=g.hd i j hp;grind[aM]
  ·trivial
 case sub i s off n =>
  split
  ·rename_i j hp;obtain⟨I,z⟩:=g.hd i j hp;grind[aM]
  ·trivial
 case mp i =>
  split
  ·rename_i j hp;obtain⟨I,z⟩:=g.hd i j hp;grind[aM]
  ·trivial
 case fn f l1 l2 =>
  grind[bD8,aM]
 case val t x=>exact bB.keep g.S (.refl _ _) t x cs q
 case full t xs =>
  simp only[aM] at q ⊢;obtain⟨a,n,e,hs⟩:=q;exact⟨a,n,e,hs.keep g.S (.refl _ _) (fun x cs=>bB.keep g.S (.refl _ _) t x cs)⟩
 case roa t x =>
  simp only[aM] at q ⊢;obtain⟨b,off,ds,e,hb,hd,hc⟩:=q;exact⟨b,off,ds,e,g.S b hb,bB.keep g.S (.refl _ _) t x ds hd,hc⟩
 all_goals exact q
theorem bAF{f:List Nat}{cN:Ctx}(g:Emb f c' cN):∀ {vs:List AV} {cs:List Value},nF c' w vs cs→nF cN w (vs.map (aSV f)) cs
 | [],_,q=>q
 | v::r,_,⟨c1,I,e,z,J⟩=>⟨c1,I,e,aUR g z,bAF g J⟩
theorem aNJ{f:List Nat}{cN:Ctx}(g:Emb f c' cN){v:AV}{cs:List Value}(q:aM c' w v cs):aM cN w (aHZ f v) cs:=by
 cases v
 case agg vs=>exact bAF g q
 all_goals exact aUR g q
theorem bGI(f:List Nat)(v:AV):aHZ f v= .junk∨(aHZ f v).isAgg=v.isAgg:=by
 cases v<;>simp only[aHZ,aSV]<;>first|exact .inr trivial|exact .inl trivial|exact .inr rfl|exact .inl rfl|grind[AV.isAgg]
theorem aXO{f:List Nat}{cN:Ctx}(I:Emb f c' cN){v:AV}{x:Value}(g:zK c' w v x)(z:aHZ f v≠ .junk):zK cN w (aHZ f v) x:=by
 have q:=(bGI f v).resolve_left z;exact⟨aNJ I g.1,by rw[q]; exact g.2.1,by rw[q]; exact g.2.2⟩
theorem bLQ(f:List Nat)(v:AV):aHZ f v= .undef→v= .undef:=by
 cases v<;>simp only[aHZ,aSV]<;>first|exact fun _=>trivial|(intro h; cases h; done)|grind|grind
theorem bJy(f:List Nat)(v:AV)(vs:List AV):aHZ f v≠ .tup vs:=by
 cases v<;>simp only[aHZ,aSV]<;>first|(intro h; cases h; done)|grind
theorem bJz{f:List Nat}{cN:Ctx}(J:Emb f c' cN){v:AV}{x:Value}(I:aY c' w v x)(L:∀vs,v= .tup vs→ ∀u∈vs,aHZ f u≠ .junk):aY cN w (emb f v) x:=by
 have z:∀v,(∀vs,v≠ .tup vs)→v≠ .junk→v≠ .undef→zK c' w v x→aY cN w (aHZ f v) x:=fun v ht hn Z q=>by
  by_cases g:aHZ f v= .junk
  ·rw[g]; trivial
  ·have:=aXO J q g;have e1:=bLQ f v;have N:=bJy f v;generalize aHZ f v=u at this e1 N g;cases u<;>first|exact this|simp_all|simp_all|simp_all
 cases v
 case junk=>trivial
 case undef=>exact I
 case tup vs =>
  obtain⟨O,Y,hl,hv⟩:=I;refine⟨O,Y,by simp_all,fun i q U=>?_⟩;simp only[List.length_map] at q;simp only[List.getElem_map];exact aXO J (hv i q U) (L vs rfl _ (List.getElem_mem q))
 all_goals exact z _ (by simp) (by simp) (by simp) I
theorem Good.rebase(f:Good M w0 c h w){m:Nat}(hm:m≤c.n):Good ⟨fun b=>∃i o,h[i]? = some o∧fI c i o b,c.S,m,c.hd⟩ w c h w :=
 ⟨f.n,.refl _ _,f.sfin,fun b hb _=>.inl hb,f.objs,fun i o b g hb=>⟨.inr ⟨i,o,g,hb⟩,(f.own i o b g hb).2⟩,f.sep,hm,fun _ _=>rfl⟩
end
end Go.Vc
namespace Go.Vc
open Go.RowKit
theorem aHq:∀(l:List (Nat×Obj)) (h:List Obj),(aF0 l h).length=h.length
 | [],h=>rfl
 | (i,o)::r,h=>by rw[aF0,aHq r]; simp
theorem aNK:∀(l:List (Nat×Obj)) (h:List Obj) (i:Nat),(∀p∈l,p.1≠i)→(aF0 l h)[i]? = h[i]?
 | [],h,i,_=>rfl
 | (j,o)::r,h,i,f=>by
  rw[aF0,aNK r _ i (fun p hp=>f p (by simp[hp])),List.getElem?_set_ne (f (j,o) (by simp))]
theorem aXP:∀(l:List (Nat×Obj)) (h:List Obj),(l.map (·.1)).Nodup→(∀p∈l,p.1<h.length)→ ∀p∈l,(aF0 l h)[p.1]? = some p.2
 | [],h,_,_,p,hp=>by cases hp
 | (j,o)::r,h,hd,f,p,hp=>by
  simp only[List.map_cons,List.nodup_cons] at hd;rcases List.mem_cons.1 hp with rfl|hp
  ·have:j<h.length:=f (j,o) (by simp);rw[aF0,aNK r _ j (fun q hq e=>hd.1 (List.mem_map.2 ⟨q,hq,e⟩))];simp[this]
  ·rw[aF0];exact aXP r _ hd.2 (fun q hq=>by grind) p hp
section
variable {P:Program} {E:Env} {M:Perm} {w0:World} {c c':Ctx} {h h':List Obj} {w w':World}
def cN(c c':Ctx)(m n':Nat)(σ f:List Nat):Ctx:=⟨fun b=>c.S b∨c'.S b,fun i=>if i<c.n then c.hd i else c'.hd (m+(i-c.n)),c.n+(n'-m),fun i b=>(i<c.n∧i∉σ∧c.bl i b)∨ ∃j:Nat,f[j]? = some i∧c'.bl j b⟩
theorem bMK(c c':Ctx)(m n':Nat)(σ f:List Nat):c.le (cN c c' m n' σ f):=⟨fun b hb=>.inl hb,Nat.le_add_right _ _,fun i hi=>by simp[cN,hi]⟩
theorem Good.frame(f:Good M w0 c h w){σ:List Nat}{m:Nat}(hd:σ.Nodup)(hσ:∀i∈σ,i<h.length)(hm:m≤σ.length){Ml:Perm}(hMr:Ml.rd=c.S)(hMw:∀b,Ml.wr b→ ∃i o,i∈σ∧h[i]? = some o∧fI c i o b)(hMm:Ml.m=m)(hMd:∀j,j<m→Ml.roots j=c.hd (σ.getD j 0))
  (O:Good Ml w c' h' w'):Good M w0 (cN c c' m h'.length σ (tX σ m h.length h'.length)) (aF1 σ m h h') w'∧eK c w (cN c c' m h'.length σ (tX σ m h.length h'.length)) w'∧Emb (tX σ m h.length h'.length) c' (cN c c' m h'.length σ (tX σ m h.length h'.length)):=by
 have hk:=O.keeps;have hroot:=O.root;rw[hMm] at hroot;have hmn:m≤h'.length:=by rw[← O.n]; omega
 have hwrS:∀b,Ml.wr b→b<w.heap.size∧ ¬c.S b∧(w0.heap.size≤b∨M.wr b):=fun b hb=>by
  obtain⟨i,o,hi,z,hob⟩:=hMw b hb;obtain⟨I,U,h3⟩:=f.own i o b z hob;simp_all
 have hlS:aCk c.S w w':=fun b hb=>hk.block b (f.sfin b hb) (fun hw=>(hwrS b hw).2.1 hb);have hl:eK c w (cN c c' m h'.length σ (tX σ m h.length h'.length)) w':=⟨bMK _ _ _ _ _ _,hlS⟩;have hmu:∀j i,(tX σ m h.length h'.length)[j]? = some i→(j<m∧i=σ.getD j 0∧i<h.length∧i∈σ)∨(m≤j∧i=h.length+(j-m)∧j<h'.length):=fun j i N=>by
  unfold tX at N;grind
 have hhd:∀j i,(tX σ m h.length h'.length)[j]? = some i→i<(cN c c' m h'.length σ (tX σ m h.length h'.length)).n∧(cN c c' m h'.length σ (tX σ m h.length h'.length)).hd i=c'.hd j:=fun j i N=>by
  rcases hmu j i N with⟨I,U,h3,_⟩|⟨I,U,h3⟩
  ·refine⟨by simp only[cN]; rw[f.n]; omega,?_⟩;simp only[cN,f.n,h3,if_true];simp_all
  ·refine⟨by simp only[cN]; rw[f.n]; omega,?_⟩;simp only[cN,f.n];grind
 have Y:∀i,i<h.length→i∉σ→(cN c c' m h'.length σ (tX σ m h.length h'.length)).bl i=c.bl i:=fun i hi hn=>by
  funext b;refine propext ⟨?_,fun hb=>.inl ⟨by rw[f.n]; exact hi,hn,hb⟩⟩;rintro (⟨_,_,hb⟩|⟨j,N,_⟩)
  all_goals grind
 have hnd:∀i j k:Nat,i<m→j<m→σ[i]? = some k→σ[j]? = some k→i=j:=fun i j k hi N I U=>by
  grind[List.getElem?_eq_some_iff,List.getElem?_inj]
 have hblj:∀j i,(tX σ m h.length h'.length)[j]? = some i→(cN c c' m h'.length σ (tX σ m h.length h'.length)).bl i=c'.bl j:=fun j i N=>by
  funext b;refine propext ⟨?_,fun hb=>.inr ⟨j,N,hb⟩⟩;rintro (⟨q1,q2,_⟩|⟨j2,hj2,hb⟩)
  ·rcases hmu j i N with⟨_,_,_,q⟩|⟨_,q,_⟩
   ·grind
   ·rw[f.n] at q1; omega
  grind
 have g:Emb (tX σ m h.length h'.length) c' (cN c c' m h'.length σ (tX σ m h.length h'.length)):=⟨fun b hb=>.inr hb,hhd⟩;have hcase:∀i o,(aF1 σ m h h')[i]? = some o→(i∉σ∧h[i]? = some o)∨o= .dead∨ ∃j L,h'[j]? = some L∧(tX σ m h.length h'.length)[j]? = some i∧o=aUQ (tX σ m h.length h'.length) L:=fun i o z=>by
  unfold aF1 at z;have hlen:(aF0 ((σ.take m).zip ((h'.take m).map (aUQ (tX σ m h.length h'.length)))) (qK (σ.drop m) h)).length=h.length:=by rw[aHq,sW]
  have hmul:(tX σ m h.length h'.length).length=h'.length:=by
   grind[tX,List.length_take]
  rcases Nat.lt_or_ge i h.length with hi|hi
  ·rw[List.getElem?_append_left (by omega)] at z;by_cases hin:∃j,j<m∧σ[j]? = some i
   ·obtain⟨j,N,hji⟩:=hin;have hjh:j<h'.length:=(by omega);have J:(i,aUQ (tX σ m h.length h'.length) h'[j])∈(σ.take m).zip ((h'.take m).map (aUQ (tX σ m h.length h'.length))):=by
     refine List.mem_iff_getElem?.2 ⟨j,?_⟩;grind
    have:=aXP _ (qK (σ.drop m) h) (by
     have:((σ.take m).zip ((h'.take m).map (aUQ (tX σ m h.length h'.length)))).map (·.1)=σ.take m:=by
      grind[List.map_fst_zip,List.length_take]
     grind) (fun p hp=>by
     rw[sW];have:=(List.of_mem_zip hp).1;grind) _ J
    simp only at this;rw[this] at z;cases z;refine .inr (.inr ⟨j,h'[j],List.getElem?_eq_getElem hjh,?_,rfl⟩);unfold tX;rw[List.getElem?_append_left (by grind),List.getElem?_take,if_pos N]; exact hji
   ·rw[aNK _ _ i (fun p hp e=>by
     have:=(List.of_mem_zip hp).1;grind[List.mem_take_iff_getElem,List.getElem?_eq_getElem])] at z
    by_cases hdrop:i∈σ.drop m
    ·grind[aFh]
    ·rw[aEc _ _ i hdrop] at z;refine .inl ⟨fun J=>?_,z⟩;rw[← List.take_append_drop m σ] at J;rcases List.mem_append.1 J with J|J
     ·obtain⟨j,N,hji⟩:=List.mem_take_iff_getElem.1 J;exact hin ⟨j,by omega,by rw[List.getElem?_eq_getElem (by omega),hji]⟩
     ·exact hdrop J
  grind
 have hobj:∀j L i,h'[j]? = some L→(tX σ m h.length h'.length)[j]? = some i→aII (cN c c' m h'.length σ (tX σ m h.length h'.length)) w' i (aUQ (tX σ m h.length h'.length) L):=fun j L i N hi=>by
  have hr:=O.objs j L N;have hS:c'.le ⟨(cN c c' m h'.length σ (tX σ m h.length h'.length)).S,c'.hd,c'.n,c'.bl⟩:=⟨g.S,Nat.le_refl _,fun _ _=>rfl⟩;have e:=(hhd j i hi).2;cases L with
  | dead=>trivial
  | box n v =>
   obtain⟨b,cells,et,q1,q2,q3,q4⟩:=hr;exact⟨b,cells,et,by grind,q2,q3,aNJ g q4⟩
  | row et t xs =>
   obtain⟨vals,q1,q2⟩:=hr;exact⟨vals,by grind,bB.keep g.S (.refl _ _) _ _ _ q2⟩
  | frz t xs =>
   show bB _ _ _ _ _;rw[e];exact bB.keep g.S (.refl _ _) _ _ _ hr
  | map k v mm =>
   obtain⟨b,es,clock,q1,q2,q3,q4⟩:=hr;exact⟨b,es,clock,by grind,q2,q3,fun x I U=>⟨(q4 x I U).1.keep g.S (.refl _ _),(q4 x I U).2.keep g.S (.refl _ _)⟩⟩
  | tre et mk t xs =>
   obtain⟨B,q1,q2,q3⟩:=hr;exact⟨B,by rw[e]; exact mD.keep g.S (.refl _ _) _ _ _ _ _ (fun _ _=>rfl) q1,q2,by grind⟩
  | trh et mk t xs k v =>
   obtain⟨css,Bs,q⟩:=hr;exact⟨css,Bs,⟨by rw[e]; exact q.row,q.lc,q.lb,q.kl,fun x h I U hne=>mD.keep g.S (.refl _ _) _ _ _ _ _ (fun _ _=>rfl) (q.el x h I U hne),q.hb,fun I=>⟨aNJ g (q.hv I).1,(q.hv I).2⟩,by rw[e]; exact q.nd,by rw[e,hblj j i hi]; exact q.bl⟩⟩
 have hown:∀j L i b,h'[j]? = some L→(tX σ m h.length h'.length)[j]? = some i→fI (cN c c' m h'.length σ (tX σ m h.length h'.length)) i (aUQ (tX σ m h.length h'.length) L) b→fI c' j L b:=fun j L i b N hi hb=>by
  have e:=(hhd j i hi).2;have e2:=hblj j i hi;cases L<;>simp only[fI,aUQ,e,e2] at hb ⊢ <;> exact hb
 have hfar:∀i o b j L,i∉σ→h[i]? = some o→fI c i o b→h'[j]? = some L→ ¬fI c' j L b:=fun i o b j L hi z hb N e=>by
  have I:=(f.own i o b z hb).2.1;rcases (O.own j L b N e).1 with U|U
  ·omega
  ·obtain⟨i',o',hi',ho',hb'⟩:=hMw b U;exact hi (f.sep i i' o o' b z ho' hb hb'▸hi')
 have hfarS:∀i o b,i∉σ→h[i]? = some o→fI c i o b→ ¬c'.S b:=fun i o b hi z hb hS=>by
  have I:=(f.own i o b z hb).2;rcases O.src b hS I.1 with U|U
  ·grind
  ·obtain⟨i',o',hi',ho',hb'⟩:=hMw b U;exact hi (f.sep i i' o o' b z ho' hb hb'▸hi')
 refine⟨⟨?_,⟨hk.os.trans f.keeps.os,hk.tape.trans f.keeps.tape,hk.output.trans f.keeps.output,Nat.le_trans f.keeps.size hk.size,fun b hb hM=>?_⟩,fun b hb=>?_,fun b hb hlt=>?_,fun i o z=>?_,fun i o b z hb=>?_,fun i k oi ok b hi hk' hbi Z=>?_,aCm f.root hl.le⟩,hl,g⟩
 ·unfold aF1 cN;simp only[List.length_append,aHq,sW,List.length_map,List.length_drop,f.n]
 ·have hbw:b<w.heap.size:=Nat.lt_of_lt_of_le hb f.keeps.size;rw[hk.block b hbw (fun hw=>?_)]
  ·exact f.keeps.block b hb hM
  grind
 ·rcases hb with hb|hb
  ·exact Nat.lt_of_lt_of_le (f.sfin b hb) hk.size
  ·exact O.sfin b hb
 ·rcases hb with hb|hb
  ·exact f.src b hb hlt
  ·rcases O.src b hb (Nat.lt_of_lt_of_le hlt f.keeps.size) with I|I
   ·rw[hMr] at I; exact f.src b I hlt
   grind
 ·rcases hcase i o z with⟨hi,z⟩|rfl|⟨j,L,N,hij,rfl⟩
  ·exact(f.objs i o z).keep hl (by rw[f.n]; grind) (Y i (yP z) hi) (fun b hb=>hk.block b (f.own i o b z hb).2.1 (fun hw=>by
    obtain⟨i',o',hi',ho',hb'⟩:=hMw b hw;exact hi (f.sep i i' o o' b z ho' hb hb'▸hi')))
  ·trivial
  grind
 ·rcases hcase i o z with⟨hi,z⟩|rfl|⟨j,L,N,hij,rfl⟩
  ·rw[iF hl.le (Y i (yP z) hi) (by rw[f.n]; grind)] at hb;obtain⟨I,U,h3⟩:=f.own i o b z hb;refine⟨I,Nat.lt_of_lt_of_le U hk.size,fun hS=>?_⟩;rcases hS with hS|hS
   all_goals grind
  ·cases hb
  ·have hb:=hown j L i b N hij hb;obtain⟨I,U,h3⟩:=O.own j L b N hb;refine⟨?_,U,fun hS=>?_⟩
   ·rcases I with I|I
    ·exact .inl (Nat.le_trans f.keeps.size I)
    grind
   ·rcases hS with hS|hS
    ·rcases I with I|I
     ·have:=f.sfin b hS; omega
     grind
    grind
 ·rcases hcase i oi hi with⟨hi,z⟩|rfl|⟨j,L,N,hij,rfl⟩
  ·rw[iF hl.le (Y i (yP z) hi) (by rw[f.n]; grind)] at hbi;rcases hcase k ok hk' with⟨hk2,ho2⟩|rfl|⟨j2,oj2,hj2,hij2,rfl⟩
   ·rw[iF hl.le (Y k (yP ho2) hk2) (by rw[f.n]; grind)] at Z;exact f.sep i k oi ok b z ho2 hbi Z
   ·cases Z
   grind
  ·cases hbi
  ·have hbi:=hown j L i b N hij hbi;rcases hcase k ok hk' with⟨hk2,ho2⟩|rfl|⟨j2,oj2,hj2,hij2,rfl⟩
   ·rw[iF hl.le (Y k (yP ho2) hk2) (by rw[f.n]; grind)] at Z;grind
   ·cases Z
   ·have Z:=hown j2 oj2 k b hj2 hij2 Z;have:=O.sep j j2 L oj2 b N hj2 hbi Z;grind
end
end Go.Vc
namespace Go.Vc
open Go.RowKit
structure Hit where
 sp:fQ
 σ:List Nat
 d:sp.D
def aQM(h:List Obj)(σ:List Nat):List AV→List AV→Prop
 | [],[]=>True
 | v::r,.val t x::r'=>AV.as (h.map gJ) t v=some x∧aQM h σ r r'
 | v::r,u::r'=>ren σ v=u∧aQM h σ r r'
 | _,_=>False
def bLe(n:Nat)(σ:List Nat):Bool:=σ.all fun i=>decide (i<n)
def dG:AV→Bool
 | .junk=>false
 | _=>true
def bGJ(f:List Nat):AV→Bool
 | .tup g=>g.all fun u=>dG (aHZ f u)
 | _=>true
def aOV(h:List Obj)(vs:List AV)(t:Hit):Prop :=
 nodupB t.σ=true∧bLe h.length t.σ=true∧t.sp.m≤t.σ.length∧aQM h t.σ vs (t.sp.av t.d)∧t.σ.map (fun i=>dT t.σ (h.getD i .dead))=t.sp.hp t.d∧t.sp.pre t.d
def bAG(o:bLP)(k:AV→List Obj→Prop)(kp:Pan→List Obj→Prop):Prop :=
 match o with
 | .ret v h=>k v h
 | .pan p h=>kp p h
theorem bAH(v:AV)(h:List Obj)(k:AV→List Obj→Prop)(kp:Pan→List Obj→Prop):bAG (.ret v h) k kp=k v h:=rfl
theorem bAI(p:Pan)(h:List Obj)(k:AV→List Obj→Prop)(kp:Pan→List Obj→Prop):bAG (.pan p h) k kp=kp p h:=rfl
theorem bGK(c:Prop)[Decidable c](a b:bLP)(k:AV→List Obj→Prop)(kp:Pan→List Obj→Prop):bAG (if c then a else b) k kp=((c→bAG a k kp)∧(¬c→bAG b k kp)):=by
 grind
def aEd(G:Nat→AV)(env:St)(h:List Obj)(o:Oper):Option (FuncId×List AV) :=
 match o.op with
 | .call c=>match c.callee with
  | .value x=>match evA G env x with
   | .fn f [] l2=>if aHn h l2=true then some (f,c.args.toList.map (evA G env)++l2.map fun i=>.ptr i []) else none
   | .fn f (i::l1) l2=>if aHn h (i::l1)=true∧aHn h l2=true then some (f,((i::l1).map fun i=>.ptr i [])++(c.args.toList.map (evA G env)++l2.map fun i=>.ptr i [])) else none
   | .val (.clo g t) y=>if xT t=true then some (g,c.args.toList.map (evA G env)++aEZ t y) else none
   | _=>none
  | _=>none
 | _=>none
def bAJ(Δ:FuncId→List AV→List Obj→Option Hit)(h:List Obj):Option (FuncId×List AV)→Option Hit
 | some (f,g)=>Δ f g h
 | none=>none
def aYJ:Option (FuncId×List AV)→List AV
 | some (_,f)=>f
 | none=>[]
def aUS(G:Nat→AV)(env:St)(o:Oper):Option Pan :=
 match o.op with
 | .call c=>match c.callee with
  | .builtin .panic=>match c.args.toList with
   | [x]=>match evA G env x with
    | .val (.ifc k t) d=>some ⟨k,t,d⟩
    | _=>none
   | _=>none
  | _=>none
 | .panic x=>match evA G env x with
  | .val (.ifc k t) d=>some ⟨k,t,d⟩
  | _=>none
 | _=>none
def aQN(T:Tab)(h:List Obj)(t:TypeId)(x:AV)(lo hi:Option AV):Prop×AV :=
 match x with
 | .own i=>match h[i]? with
  | some (.row _ c f)=>match (lo.map aD7).getD (some 0),(hi.map aD7).getD (some (f.length:Int)) with
   | some l,some u=>(T t=some (.sl c)∧0≤l∧l<u∧u≤(f.length:Int),.sub i c.cells l.toNat (u-l).toNat)
   | _,_=>(False,.junk)
  | _=>(False,.junk)
 | .ptr i []=>match h[i]? with
  | some (.box _ (.val (.arr n c) _))=>match (lo.map aD7).getD (some 0),(hi.map aD7).getD (some (n:Int)) with
   | some l,some u=>(T t=some (.arr n c)∧0≤l∧l<u∧u≤(n:Int),.sub i c.cells l.toNat (u-l).toNat)
   | _,_=>(False,.junk)
  | _=>(False,.junk)
 | _=>(False,.junk)
noncomputable def aUT(E:Env)(sb:List Nat)(env:St)(h:List Obj)(o:Oper):Prop×AV×List Obj :=
 match o.op,o.dst with
 | .slice t x lo hi none,some d=>bif sb.contains d then ((aQN E.T h t (evA E.G env x) (lo.map (evA E.G env)) (hi.map (evA E.G env))).1,(aQN E.T h t (evA E.G env x) (lo.map (evA E.G env)) (hi.map (evA E.G env))).2,h) else aAO E env h o
 | _,_=>aAO E env h o
def aK5(E:Env)(Δ:FuncId→List AV→List Obj→Option Hit)(sb:List Nat)(env:St)(h:List Obj)(o:Oper)(k:AV→List Obj→Prop)(kp:Pan→List Obj→Prop):Prop :=
 match bAJ Δ h (aEd E.G env h o) with
 | some t=>aOV h (aYJ (aEd E.G env h o)) t∧bAG (t.sp.out t.d) (fun v h'=>bGJ (tX t.σ t.sp.m h.length h'.length) v=true∧k (emb (tX t.σ t.sp.m h.length h'.length) v) (aF1 t.σ t.sp.m h h')) (fun p h'=>kp p (aF1 t.σ t.sp.m h h'))
 | none=>match aUS E.G env o with
  | some p=>kp p h
  | none=>match aUT E sb env h o with
   | (p,v,h')=>p∧k v h'
def aCs(E:Env)(Δ:FuncId→List AV→List Obj→Option Hit)(sb:List Nat)(all:List Oper):List Oper→St→List Obj→(St→List Obj→Prop)→(Pan→St→List Obj→Prop)→Prop
 | [],env,h,K,_=>K env h
 | o::r,env,h,K,Kp=>match o.guard with
  | none=>aK5 E Δ sb env h o (fun v h'=>aCs E Δ sb all r (zO o.dst v env) h' K Kp) (fun p h'=>Kp p env h')
  | some (j,f)=>match aK3 all j with
   | some g=>match look env g with
    | .val .bool b=>(b=f→aK5 E Δ sb env h o (fun v h'=>aCs E Δ sb all r (zO o.dst v env) h' K Kp) (fun p h'=>Kp p env h'))∧(b= !f→aCs E Δ sb all r (zO o.dst .undef env) h K Kp)
    | .undef=>aCs E Δ sb all r (zO o.dst .undef env) h K Kp
    | _=>False
   | none=>False
structure aF2(P:Program)(G:Nat→AV)(Δ:FuncId→List AV→List Obj→Option Hit):Prop where
 ok:∀f vs h t,Δ f vs h=some t→GOK P G f t.sp
 fn:∀f vs h t,Δ f vs h=some t→ ∃fn,P.funcs[f]? = some fn∧fn.name ≠ "runtime.NumGoroutine" ∧ fn.body.isSome=true
section
variable {P:Program} {E:Env} {M:Perm} {w0:World} {c:Ctx} {h:List Obj} {w:World}
theorem aT0:∀ {l:List Nat},nodupB l=true→l.Nodup
 | [],_=>List.nodup_nil
 | i::r,h=>by
  simp only[nodupB,Bool.and_eq_true,Bool.not_eq_true'] at h;refine List.nodup_cons.2 ⟨fun hm=>?_,aT0 h.2⟩;simp_all
theorem aXQ(I:Good M w0 c h w){σ:List Nat}:∀ {vs us:List AV} {xs:List Value},aQM h σ vs us→vs.length=xs.length→(∀i (f:i<vs.length) (g:i<xs.length),aY c w vs[i] xs[i]) →
  xs.length=us.length∧ ∀i (f:i<us.length) (g:i<xs.length),aY (c.ren σ) w us[i] xs[i]
 | [],[],[],_,_,_=>⟨rfl,fun i f=>by grind⟩
 | v::r,u::r',x::xs,z,J,hv=>by
  have h0:=hv 0 (by simp) (by simp);simp only[List.getElem_cons_zero] at h0;have q:aY (c.ren σ) w u x∧aQM h σ r r':=by
   cases u with
   | val t d =>
    obtain⟨f,g⟩:=z;exact⟨aY.ofV (aAl I h0 f),g⟩
   | _ =>
    obtain⟨f,g⟩:=z;grind[aTZ]
  obtain⟨N,L⟩:=aXQ I q.2 (by simpa using J) (fun i f g=>by have:=hv (i+1) (by simp_all) (by simp_all); simp_all);grind
def bML(M:Perm)(w0:World)(c:Ctx)(h:List Obj)(w:World)(t:Hit)(e:Ending)(w':World):Prop :=
 ∃cN,eK c w cN w'∧match t.sp.out t.d with
  | .ret v h'=>∃u,e= .returned u∧Good M w0 cN (aF1 t.σ t.sp.m h h') w'∧(bGJ (tX t.σ t.sp.m h.length h'.length) v=true→aY cN w' (emb (tX t.σ t.sp.m h.length h'.length) v) u)
  | .pan p h'=>∃u,e= .panicked (aWE p.k u)∧Good M w0 cN (aF1 t.σ t.sp.m h h') w'∧dV w' cN.S p.t p.x u
theorem aXR{C:(Ending→World→Prop)→Prop}(hC:∀R R':Ending→World→Prop,C R→(∀e w',R e w'→R' e w')→C R'){G:Nat→AV}{t:Hit}{vs:List AV}{xs:Array Value}(U:t.sp.pre t.d→GIn G t.sp (c.ren t.σ) w t.d xs.toList→C (aNI t.sp (c.ren t.σ) w t.d))(Z:Good M w0 c h w)(hG:uB G c.S w)(hl:vs.length=xs.size)(hv:∀i (Y:i<vs.length) (h2:i<xs.toList.length),aY c w vs[i] xs.toList[i])(hh:aOV h vs t) :
  C (bML M w0 c h w t):=by
 obtain⟨Y,h2,h3,h4,h5,h6⟩:=hh;have N:∀i∈t.σ,i<h.length:=fun i hi=>by
  have:=List.all_eq_true.1 h2 i hi;simp_all
 have g0:=Z.rebase (m:=0) (Nat.zero_le _);have g1:=g0.ren (σ:=t.σ) Y (by rfl);have hcn:(c.ren t.σ).n=t.σ.length:=rfl;have g2:=g1.rebase (m:=t.sp.m) (by omega);rw[h5] at g2;obtain⟨q1,q2⟩:=aXQ (xs:=xs.toList) Z h4 (by omega) hv;have hin:GIn G t.sp (c.ren t.σ) w t.d xs.toList:=⟨g2,hG,q1,q2⟩;refine hC _ _ (U h6 hin) ?_;rintro e w' ⟨c',g⟩;have z:∀h',Good (GM t.sp (c.ren t.σ) t.d) w c' h' w'→Good M w0 (Vc.cN c c' t.sp.m h'.length t.σ (tX t.σ t.sp.m h.length h'.length)) (aF1 t.σ t.sp.m h h') w'∧eK c w (Vc.cN c c' t.sp.m h'.length t.σ (tX t.σ t.sp.m h.length h'.length)) w'∧Emb (tX t.σ t.sp.m h.length h'.length) c' (Vc.cN c c' t.sp.m h'.length t.σ (tX t.σ t.sp.m h.length h'.length)):=fun h' q =>
  Z.frame (aT0 Y) N h3 (Ml:=GM t.sp (c.ren t.σ) t.d) rfl (fun b hb=>by
   obtain⟨j,o',J,O⟩:=hb;rw[← h5,List.getElem?_map] at J;cases I:t.σ[j]? with
   | none=>simp_all
   | some i =>
    rw[I] at J;simp only[Option.map_some,Option.some.injEq] at J;subst J;rw[aOU I] at O;grind) rfl (fun j _=>rfl) q
 cases f:t.sp.out t.d with
 | ret v h' =>
  rw[f] at g;obtain⟨u,rfl,q,hu⟩:=g;obtain⟨L,f2,f3⟩:=z h' q;refine⟨_,f2,?_⟩;rw[f];refine⟨u,rfl,L,fun hb=>bJz f3 hu fun vs hvs a ha=>?_⟩;subst hvs;have:=List.all_eq_true.1 hb a ha;intro I;rw[I] at this;cases this
 | pan p h' =>
  rw[f] at g;obtain⟨u,rfl,q,hu⟩:=g;obtain⟨L,f2,f3⟩:=z h' q;refine⟨_,f2,?_⟩;rw[f];exact⟨u,rfl,L,hu.keep f3.S (.refl _ _)⟩
theorem bGL{G:Nat→AV}{f:FuncId}{t:Hit}(g:GOK P G f t.sp)(J:Good M w0 c h w)(I:uB G c.S w){vs:List AV}{xs:Array Value}(z:vs.length=xs.size)(hv:∀i (U:i<vs.length) (O:i<xs.toList.length),aY c w vs[i] xs.toList[i])(L:aOV h vs t) :
  Calls P f xs w (bML M w0 c h w t) :=
 aXR (C:=Calls P f xs w) (fun R N h k=>h.mono k) (fun hp q=>g _ _ _ _ hp q) J I z hv L
def AtP(F:Fr)(Q:Exit→Act→World→Prop)(p:Pan)(env:St)(h:List Obj):Prop :=
 ∀c a w u,Sim F.E F.M F.w0 F.nt F.ds c env h a w→dV w c.S p.t p.x u→Q (.panic (aWE p.k u)) a w
theorem bGM{f:FuncId}{z l2:List Nat}{v:Value}(hv:aY c w (.fn f z l2) v):(∀i∈z,i<c.n)∧(∀i∈l2,i<c.n)∧v= .func (.func f) (z.map c.hd).toArray (l2.map c.hd).toArray:=by
 obtain⟨g,_,q⟩:=hv;have q:=q rfl;simp only[aM] at g;obtain⟨h0,I,g⟩:=g;refine⟨h0,I,?_⟩;cases v<;>simp[Value.cells] at g q
 simp_all
theorem bFm(hE:jC P E){nt:Nat}{ds:List Deferred}{env:St}{a:Act}(hs:Sim E M w0 nt ds c env h a w){o:Oper}(Z:iU nt o=true){f:FuncId}{vs:List AV}(hc:aEd E.G env h o=some (f,vs))(hfn:∃fn,P.funcs[f]? = some fn∧fn.name ≠ "runtime.NumGoroutine" ∧ fn.body.isSome=true) :
  ∃xs:Array Value,(execOp a.eval o).run P w= .ok (.enter f xs) w∧vs.length=xs.size∧ ∀i (q:i<vs.length) (z:i<xs.toList.length),aY c w vs[i] xs.toList[i]:=by
 obtain⟨dst,op,ty,pos,aft,gd⟩:=o;unfold aEd at hc;split at hc
 ·rename_i cl Y;simp only at Y;subst Y;obtain⟨callee,args,argTypes⟩:=cl;simp only at hc;simp only[iU,Bool.and_eq_true] at Z;have U:∀x∈(Op.call ⟨callee,args,argTypes⟩).operands,sO x=true:=Array.all_eq_true_iff_forall_mem.1 Z.1;have hargs:∀x∈args.toList,aY c w (evA E.G env x) (a.eval x):=fun x O=>aFS hs.env hs.glob (U x (by
   simp only[Op.operands,Call.operands];exact Array.mem_append.2 (.inr (by simpa using O))))
  have hav:=aMj (ρ:=evA E.G env) (a:=a) (c:=c) (w:=w) hargs;split at hc
  ·rename_i x;have O:=aFS hs.env hs.glob (U x (by simp[Op.operands,Call.operands]));have fin:∀(g:FuncId) (J us:List Value) (fv cv:List AV),a.eval x= .func (.func g) J.toArray us.toArray→J.length=fv.length→(∀i (q:i<fv.length) (z:i<J.length),aY c w fv[i] J[i])→us.length=cv.length→(∀i (q:i<cv.length) (z:i<us.length),aY c w cv[i] us[i])→f=g→vs=fv++(args.toList.map (evA E.G env)++cv) →
     ∃xs:Array Value,(execOp a.eval ⟨dst,.call ⟨.value x,args,argTypes⟩,ty,pos,aft,gd⟩).run P w= .ok (.enter f xs) w∧vs.length=xs.size∧ ∀i (q:i<vs.length) (z:i<xs.toList.length),aY c w vs[i] xs.toList[i]:=fun g J us fv cv hf hfl hfv hul huv e1 e2=>by
    subst e1;subst e2;have app:∀ {N l2:List AV} {m1 m2:List Value},m1.length=N.length→(∀i (q:i<N.length) (z:i<m1.length),aY c w N[i] m1[i])→(∀i (q:i<l2.length) (z:i<m2.length),aY c w l2[i] m2[i])→ ∀i (q:i<(N++l2).length) (z:i<(m1++m2).length),aY c w (N++l2)[i] (m1++m2)[i]:=fun {N l2 m1 m2} hl k1 k2 i q z=>by
     grind
    refine⟨(J++(args.toList.map a.eval++us)).toArray,?_,by simp_all,fun i q z=>?_⟩
    ·have hrun:=aFg (P:=P) (w:=w) (args:=(J++(args.toList.map a.eval++us)).toArray) hfn;have e2:J.toArray++args.map a.eval++us.toArray=(J++(args.toList.map a.eval++us)).toArray:=(by simp_all);simp only[execOp,resolve,Deferred.ofValue,hf,pure_bind];grind[invoke]
    ·exact app hfl hfv (app (by simp) hav huv) i (by omega) (by omega)
   split at hc
   ·rename_i g l2 I;split at hc
    ·rename_i L;simp only[Option.some.injEq,Prod.mk.injEq] at hc;rw[I] at O;obtain⟨q,z⟩:=bDX O;exact fin g [] (l2.map c.hd) [] (l2.map fun i=>.ptr i []) z rfl (fun i q=>by cases q) (by simp) (aKW hs.good L q) hc.1.symm hc.2.symm
    grind
   ·rename_i g i0 N l2 I;split at hc
    ·rename_i L;simp only[Option.some.injEq,Prod.mk.injEq] at hc;rw[I] at O;obtain⟨q,z,h3⟩:=bGM O;exact fin g ((i0::N).map c.hd) (l2.map c.hd) ((i0::N).map fun i=>.ptr i []) (l2.map fun i=>.ptr i []) h3 (by simp) (aKW hs.good L.1 q) (by simp) (aKW hs.good L.2 z) hc.1.symm hc.2.symm
    grind
   ·rename_i g t y I;split at hc
    ·rename_i hcp;simp only[Option.some.injEq,Prod.mk.injEq] at hc;rw[I] at O;obtain⟨us,q,z⟩:=bAp O;obtain⟨k1,k2⟩:=aUw hcp z;exact fin g [] us [] (aEZ t y) q rfl (fun i q=>by cases q) k1 k2 hc.1.symm hc.2.symm
    grind
   grind
  grind
 grind
theorem bD9{nt:Nat}{ds:List Deferred}{env:St}{a:Act}(hs:Sim E M w0 nt ds c env h a w){o:Oper}(q:iU nt o=true){p:Pan}(hc:aUS E.G env o=some p) :
  ∃u,(execOp a.eval o).run P w= .halt (.panic (.iface p.k u)) w∧dV w c.S p.t p.x u:=by
 obtain⟨dst,U,ty,pos,N,Y⟩:=o;simp only[iU,Bool.and_eq_true] at q;unfold aUS at hc;split at hc
 ·rename_i cl g;simp only at g;subst g;obtain⟨callee,args,argTypes⟩:=cl;simp only at hc;have f:∀x∈(Op.call ⟨callee,args,argTypes⟩).operands,sO x=true:=Array.all_eq_true_iff_forall_mem.1 q.1;split at hc
  ·split at hc
   ·rename_i x Z;split at hc
    ·rename_i k t d z;cases hc;have I:x∈args.toList:=(by simp_all);have hv:=aFS hs.env hs.glob (f x (by
      simp only[Op.operands,Call.operands];exact Array.mem_append.2 (.inr (by simpa using I))))
     rw[z] at hv;obtain⟨u,J,L⟩:=aUy hv;have O:args= #[x]:=(by grind);refine⟨u,?_,L⟩;simp[execOp,resolve,invoke,builtin,O,J,Instr.panic,goPanic]
    grind
   grind
  grind
 ·rename_i x g;simp only at g;subst g;have f:∀y∈(Op.panic x).operands,sO y=true:=Array.all_eq_true_iff_forall_mem.1 q.1;split at hc
  ·rename_i k t d z;cases hc;have hv:=aFS hs.env hs.glob (f x (by simp[Op.operands]));rw[z] at hv;obtain⟨u,J,L⟩:=aUy hv;simp_all[execOp,Instr.panic,goPanic]
  grind
 grind
end
end Go.Vc
namespace Go.Vc
open Go.RowKit
section
variable {P:Program} {E:Env} {M:Perm} {w0:World} {c:Ctx} {h:List Obj} {w:World}
theorem Sim.step{nt:Nat}{ds:List Deferred}{env:St}{a:Act}(hs:Sim E M w0 nt ds c env h a w){h':List Obj}{c':Ctx}{w':World}(f:eK c w c' w')(g:Good M w0 c' h' w'):Sim E M w0 nt ds c' env h' a w' :=
 ⟨g,hs.glob.mono f.le.S f.same,hs.env.keep f,hs.size,hs.defers⟩
theorem bJA(hT:mJ P E.T)(hg:Good M w0 c h w){t:TypeId}{x:AV}{v:Value}{lo hi:Option AV}{J hv:Option Value}(hx:aY c w x v)(I:aWz c w lo J)(f:aWz c w hi hv)(hc:(aQN E.T h t x lo hi).1) :
  ∃u,(Instr.sliceAt t v J hv none).run P w= .ok u w∧aY c w (aQN E.T h t x lo hi).2 u:=by
 unfold aQN at hc ⊢;split at hc
 ·rename_i i;split at hc
  ·rename_i e ct xs ho;split at hc
   ·rename_i l u N q;obtain⟨ht,h0,h1,h2⟩:=hc;obtain⟨U,rfl⟩:=aDJ hx;obtain⟨vals,⟨_,hv'⟩,_⟩:=hg.objs i _ ho;obtain⟨e',hd,he,Z⟩:=gX (hT _ _ ht);rcases hv' with⟨_,hz⟩|⟨g,z,cur,Y,_,_,hle,hcap,_⟩
    ·omega
    have hb:(Instr.sliceBounds true xs.length z J hv none).run P w= .ok (l.toNat,u.toNat,z) w:=by
     cases lo with
     | none =>
      cases J with
      | some _=>cases I
      | none =>
       simp at N;subst N;cases hi with
       | none =>
        cases hv with
        | some _=>cases f
        | none =>
         simp at q;subst q;rfl
       | some ha =>
        cases hv with
        | none=>cases f
        | some hv =>
         simp at q;obtain⟨k,rfl⟩:=(by cases f with|some L=>exact aCp L q:∃k,hv=Value.int k u);simp[Instr.sliceBounds,iX (P:=P) (w:=w) (i:=u) (y:=z) (by omega) (by omega)]
     | some la =>
      cases J with
      | none=>cases I
      | some J =>
       simp at N;obtain⟨k,rfl⟩:=(by cases I with|some L=>exact aCp L N:∃k,J=Value.int k l);cases hi with
       | none =>
        cases hv with
        | some _=>cases f
        | none =>
         simp at q;subst q;simp[Instr.sliceBounds,iX (P:=P) (w:=w) (i:=l) (y:=xs.length) (by omega) (by omega)]
       | some ha =>
        cases hv with
        | none=>cases f
        | some hv =>
         simp at q;obtain⟨k',rfl⟩:=(by cases f with|some L=>exact aCp L q:∃k,hv=Value.int k u);simp[Instr.sliceBounds,iX (P:=P) (w:=w) (i:=u) (y:=z) (by omega) (by omega),iX (P:=P) (w:=w) (i:=l) (y:=u.toNat) h0 (by omega)]
    have O:¬z=l.toNat:=(by omega);refine⟨.slice (some ⟨g,l.toNat*ct.cells,none⟩) (u.toNat-l.toNat) (z-l.toNat),?_,?_⟩
    ·rw[Y];simp[Instr.sliceAt,Instr.slice,bE hd,hb,gI (hT _ _ he),O,Addr.add];omega
    ·refine⟨?_,(fun h=>by simp[AV.isAgg] at h),(fun _ cs=>by simp)⟩;simp only[aM];refine⟨U,by omega,g,z-l.toNat,by rw[Y]; rfl,?_⟩;grind[Value.cells]
   simp_all
  simp_all
 ·rename_i i;split at hc
  ·rename_i m n ct xs ho;split at hc
   ·rename_i l u N q;obtain⟨ht,h0,h1,h2⟩:=hc;obtain⟨U,b,hb',rfl⟩:=aGR hx;obtain⟨e',hd,he,Z,hn1,hn2⟩:=aFG (hT _ _ ht);have hb:(Instr.sliceBounds false n n J hv none).run P w= .ok (l.toNat,u.toNat,n) w:=by
     cases lo with
     | none =>
      cases J with
      | some _=>cases I
      | none =>
       simp at N;subst N;cases hi with
       | none =>
        cases hv with
        | some _=>cases f
        | none =>
         simp at q;subst q;rfl
       | some ha =>
        cases hv with
        | none=>cases f
        | some hv =>
         simp at q;obtain⟨k,rfl⟩:=(by cases f with|some L=>exact aCp L q:∃k,hv=Value.int k u);simp[Instr.sliceBounds,iX (P:=P) (w:=w) (i:=u) (y:=n) (by omega) (by omega)]
     | some la =>
      cases J with
      | none=>cases I
      | some J =>
       simp at N;obtain⟨k,rfl⟩:=(by cases I with|some L=>exact aCp L N:∃k,J=Value.int k l);cases hi with
       | none =>
        cases hv with
        | some _=>cases f
        | none =>
         simp at q;subst q;simp[Instr.sliceBounds,iX (P:=P) (w:=w) (i:=l) (y:=n) (by omega) (by omega)]
       | some ha =>
        cases hv with
        | none=>cases f
        | some hv =>
         simp at q;obtain⟨k',rfl⟩:=(by cases f with|some L=>exact aCp L q:∃k,hv=Value.int k u);simp[Instr.sliceBounds,iX (P:=P) (w:=w) (i:=u) (y:=n) (by omega) (by omega),iX (P:=P) (w:=w) (i:=l) (y:=u.toNat) h0 (by omega)]
    have O:¬n=l.toNat:=(by omega);refine⟨.slice (some ⟨b,l.toNat*ct.cells,none⟩) (u.toNat-l.toNat) (n-l.toNat),?_,?_⟩
    ·simp[Instr.sliceAt,Instr.sureAddr,bE hd,hb,gI (hT _ _ he),O,Addr.add,pT];omega
    ·refine⟨?_,(fun h=>by simp[AV.isAgg] at h),(fun _ cs=>by simp)⟩;simp only[aM];refine⟨U,by grind[maxLen],b,n-l.toNat,hb',?_⟩;grind[Value.cells]
   simp_all
  simp_all
 simp_all
theorem bAK(O:jC P E){sb:List Nat}{nt:Nat}{ds:List Deferred}{env:St}{a:Act}{o:Oper}(hs:Sim E M w0 nt ds c env h a w)(z:iU nt o=true)(hc:(aUT E sb env h o).1):bCE P M w0 c o a w (aUT E sb env h o).2.2 (aUT E sb env h o).2.1:=by
 unfold aUT at hc ⊢;split at hc
 ·rename_i t x lo hi d q J;cases I:sb.contains d with
  | false =>
   simp only[I,cond_false] at hc ⊢;grind[aMo]
  | true =>
   simp only[I,cond_true] at hc ⊢;simp only[iU,Bool.and_eq_true] at z;have g:∀x∈o.op.operands,sO x=true:=Array.all_eq_true_iff_forall_mem.1 z.1;have f:∀y∈o.op.operands,aY c w (evA E.G env y) (a.eval y):=fun y hy=>aFS hs.env hs.glob (g y hy);rw[q] at f;obtain⟨u,L,N⟩:=bJA (P:=P) O.T hs.good (f x (by simp[Op.operands])) (aUv (o:=lo) fun y hy=>f y (by simp[Op.operands,hy])) (aUv (o:=hi) fun y hy=>f y (by simp[Op.operands,hy])) hc;refine(Did.of_value (v:=u) (h:=h) hs.good ?_ N).toE;simp[execOp,q,L]
 grind[aMo]
theorem aUU(hE:jC P E){sb:List Nat}{Δ:FuncId→List AV→List Obj→Option Hit}(O:aF2 P E.G Δ){nt:Nat}{ds:List Deferred}{env:St}{a:Act}{o:Oper}(hs:Sim E M w0 nt ds c env h a w)(z:iU nt o=true){k:AV→List Obj→Prop}{kp:Pan→List Obj→Prop}(hc:aK5 E Δ sb env h o k kp)
  {next:Act→World→Prop} {Q:Exit→Act→World→Prop} (Z:∀v h' c' u w',k v h'→aNF M w0 c w h' v u w' c'→next (a.put o.dst u) w') (hp:∀p h' c' u w',kp p h'→eK c w c' w'→Good M w0 c' h' w'→dV w' c'.S p.t p.x u→Q (.panic (aWE p.k u)) a w'):o.wp P a w next Q:=by
 unfold aK5 at hc;cases I:aEd E.G env h o with
 | some fv =>
  obtain⟨f,Y⟩:=fv;simp only[I,bAJ,aYJ] at hc;cases hd:Δ f Y h with
  | some t =>
   simp only[hd] at hc;obtain⟨h1,U⟩:=hc;obtain⟨xs,N,L,q3⟩:=bFm hE hs z I (O.fn f Y h t hd);unfold Oper.wp;rw[N];refine Calls.mono (bGL (O.ok f Y h t hd) hs.good hs.glob L q3 h1) ?_;rintro e w' ⟨cN,hl,q⟩;cases J:t.sp.out t.d with
   | ret v h' =>
    rw[J] at q U;obtain⟨u,rfl,hg,hv⟩:=q;exact Z _ _ cN u w' U.2 ⟨hl,hg,hv U.1⟩
   | pan p h' =>
    rw[J] at q U;obtain⟨u,rfl,hg,hv⟩:=q;exact hp p _ cN u w' U hl hg hv
  | none =>
   simp only[hd] at hc;cases g:aUS E.G env o with
   | some p =>
    simp only[g] at hc;obtain⟨u,N,L⟩:=bD9 (P:=P) hs z g;unfold Oper.wp;rw[N];exact hp p h c u w hc (.refl _ _) hs.good L
   | none =>
    simp only[g] at hc;exact(bAK hE hs z hc.1).wp fun v w' c' ha=>Z _ _ c' v w' hc.2 ha
 | none =>
  simp only[I,bAJ] at hc;cases g:aUS E.G env o with
  | some p =>
   simp only[g] at hc;obtain⟨u,N,L⟩:=bD9 (P:=P) hs z g;unfold Oper.wp;rw[N];exact hp p h c u w hc (.refl _ _) hs.good L
  | none =>
   simp only[g] at hc;exact(bAK hE hs z hc.1).wp fun v w' c' ha=>Z _ _ c' v w' hc.2 ha
theorem aYK(hE:jC P E){sb:List Nat}{Δ:FuncId→List AV→List Obj→Option Hit}(L:aF2 P E.G Δ){ops:List Oper}{Q:Exit→Act→World→Prop}{nt:Nat}{ds:List Deferred}(g:∀o∈ops,iU nt o=true){K:St→List Obj→Prop}{Kp:Pan→St→List Obj→Prop}
  (U:∀env h c a w,K env h→Sim E M w0 nt ds c env h a w→Q .normal a w) (I:∀p env h c a w u,Kp p env h→Sim E M w0 nt ds c env h a w→dV w c.S p.t p.x u→Q (.panic (aWE p.k u)) a w) :
  ∀(m i:Nat),i+m=ops.length→ ∀(env:St) (h:List Obj) (c:Ctx) (a:Act) (w:World),aCs E Δ sb ops (ops.drop i) env h K Kp→Sim E M w0 nt ds c env h a w→wpOps P ops.toArray Q (List.range' i m) a w
 | 0,i,hi,env,h,c,a,w,hs,f=>by
  rw[List.drop_eq_nil_of_le (by omega)] at hs;simp only[List.range'_zero,wpOps];exact U env h c a w hs f
 | m+1,i,hi,env,h,c,a,w,hs,f=>by
  have z:i<ops.length:=by omega
  rw[List.drop_eq_getElem_cons z] at hs;have q:=g ops[i] (List.getElem_mem z);have O:∀(v:Value) (av:AV),aY c w av v→Sim E M w0 nt ds c (zO ops[i].dst av env) h (a.put ops[i].dst v) w:=fun v av hv=>f.after q ⟨.refl _ _,f.good,hv⟩;have hrun:aK5 E Δ sb env h ops[i] (fun v h'=>aCs E Δ sb ops (ops.drop (i+1)) (zO ops[i].dst v env) h' K Kp) (fun p h'=>Kp p env h')→Region.wanted ops[i] (yielded ops.toArray a.tmps)=true→wpOps P ops.toArray Q (List.range' i (m+1)) a w:=fun h1 hw=>by
   rw[List.range'_succ];simp only[wpOps,List.getElem?_toArray,List.getElem?_eq_getElem z,hw,if_true]
   left
   refine aUU hE L f q h1 (fun v h' c' u w' Y ha=>?_) (fun p h' c' u w' Y hl hg hr=>I p env h' c' a w' u Y (f.step hl hg) hr);exact aYK hE L g U I m (i+1) (by omega) _ _ c' _ w' Y (f.after q ha)
  have hskip:aCs E Δ sb ops (ops.drop (i+1)) (zO ops[i].dst .undef env) h K Kp→Region.wanted ops[i] (yielded ops.toArray a.tmps)=false→wpOps P ops.toArray Q (List.range' i (m+1)) a w:=fun h2 hw=>by
   rw[List.range'_succ];simp only[wpOps,List.getElem?_toArray,List.getElem?_eq_getElem z,hw,Bool.false_eq_true,if_false];exact aYK hE L g U I m (i+1) (by omega) _ _ c _ w h2 (O _ _ rfl)
  simp only[aCs] at hs;cases Z:ops[i].guard with
  | none =>
   grind[Region.wanted]
  | some jp =>
   obtain⟨j,N⟩:=jp;rw[Z] at hs;simp only at hs;cases J:aK3 ops j with
   | none=>simp_all
   | some dj =>
    rw[J] at hs;simp only at hs;have hv:=f.env dj;split at hs
    ·rename_i b hb;rw[hb] at hv;have hb':=aHT hv;have hy:=aBT g f.size J hb';simp only[yb] at hy;by_cases e:b=N
     ·grind[Region.wanted]
     ·have e':b= !N:=(by cases b<;>cases N<;>simp_all);grind[Region.wanted]
    ·rename_i hb;rw[hb] at hv;have hy:=aBT g f.size J (v:=Go.undef) hv;grind[Region.wanted,undef,yb]
    simp_all
theorem bEa{F:Fr}{K:Exit→St→List Obj→Prop}{Q:Exit→Act→World→Prop}{env:St}{h:List Obj}(hF:vG F)(I:∀e env h,K e env h→At F (Q e) env h){Δ:FuncId→List AV→List Obj→Option Hit}(g:aF2 F.P F.E.G Δ){id:Nat}{ops:Array Oper}(keep sb:List Nat)
  (hv:aCs F.E Δ sb ops.toList ops.toList env h (fun env h=>K .normal (keep.map fun t=>(t,look env t)) h) (fun p env h=>AtP F Q p env h)):Tri F (.region id ops false) Q env h:=fun f c a w hs=>by
 simp only[jI,Bool.and_eq_true,Bool.or_eq_true,Bool.not_eq_true'] at f;obtain⟨⟨J,N⟩,L⟩:=f;refine wp_region ?_;have:=aYK (Q:=Q) hF.env g (List.all_eq_true.1 J) (K:=fun env h=>K .normal (keep.map fun t=>(t,look env t)) h) (Kp:=fun p env h=>AtP F Q p env h) (fun env h c a w q hs=>I _ _ _ q c a w (hs.keep keep)) (fun p env h c a w u q hs z=>q c a w u hs z) ops.toList.length 0 (by simp) env h c a w (by simpa using hv) hs;simp_all[List.range_eq_range']
theorem cP{F:Fr}{Q:Exit→Act→World→Prop}{env:St}{h:List Obj}(hF:vG F){Δ:FuncId→List AV→List Obj→Option Hit}(f:aF2 F.P F.E.G Δ){id:Nat}{ops:Array Oper}(keep sb:List Nat)
  (hv:aCs F.E Δ sb ops.toList ops.toList env h (fun env h=>At F (Q .normal) (keep.map fun t=>(t,look env t)) h) (fun p env h=>AtP F Q p env h)):Tri F (.region id ops false) Q env h :=
 bEa hF (K:=fun e=>At F (Q e)) (fun _ _ _ h=>h) f keep sb hv
theorem jM{F:Fr}{K:Act→World→Prop}{Q:Exit→Act→World→Prop}{p:Pan}{env:St}{h:List Obj}(hq:AtP F Q p env h):AtP F (Exit.then K Q) p env h:=hq
theorem aDw{F:Fr}{id:Nat}{Q:Exit→Act→World→Prop}{p:Pan}{env:St}{h:List Obj}(hq:AtP F Q p env h):AtP F (Exit.inBlock id Q) p env h:=hq
theorem aMp{F:Fr}{Q:Exit→Act→World→Prop}{p:Pan}{env:St}{h:List Obj}(hq:AtP F Q p env h):AtP F (Exit.noGoto Q) p env h:=hq
def vH:List AV→Nat→St
 | [],_=>[]
 | v::r,k=>(k,v)::vH r (k+1)
theorem aYL{f:Array Value}:∀(us:List AV) (vs:List Value) (k:Nat),vs.length=us.length→(∀i (z:i<us.length) (q:i<vs.length),aY c w us[i] vs[i])→(∀i v,vs[i]? = some v→f.getD (k+i) Go.undef=v)→aKg c w (vH us k) f
 | [],_,k,_,_,_=>fun t=>trivial
 | u::us,v::vs,k,J,hv,ht=>by
  have h0:=hv 0 (by simp) (by simp);have I:=ht 0 v (by simp);have g:=aYL us vs (k+1) (by simp_all) (fun i z q=>by have:=hv (i+1) (by simp_all) (by simp_all); simp_all) (fun i x L=>by
   have:=ht (i+1) x (by simp_all);rw[show k+1+i=k+(i+1) from by omega]; exact this)
  intro t;simp only[vH,look];split
  ·simp_all
  ·exact g t
def AV.wfV:AV→Prop
 | .val t x=>t.wf x
 | .full t f=>(Ty.sl t).wf f
 | _=>True
def AV.wfL:List AV→Prop
 | []=>True
 | v::r=>v.wfV∧AV.wfL r
def Obj.wfV:Obj→Prop
 | .box _ (.agg g)=>AV.wfL g
 | .box _ v=>v.wfV
 | .row _ t f=>(Ty.arr f.length t).wf f∧f.length≤maxLen
 | .frz t f=>(Ty.sl t).wf f
 | .tre _ _ t f=>(Ty.sl t).wf f
 | _=>True
def Obj.wfL:List Obj→Prop
 | []=>True
 | o::r=>o.wfV∧Obj.wfL r
theorem aUV{v:AV}{cs:List Value}(f:aM c w v cs):v.wfV:=by
 cases v<;>first|trivial|skip
 case val t x=>exact bB.wf t x cs f
 case full t xs =>
  simp only[aM] at f;obtain⟨a,n,e,hs⟩:=f;exact bB.wf (.sl t) xs cs ⟨a,n,n,e,hs⟩
theorem bGN:∀ {vs:List AV} {cs:List Value},nF c w vs cs→AV.wfL vs
 | [],_,_=>trivial
 | v::r,_,⟨c1,q,e,g,f⟩=>⟨aUV g,bGN f⟩
theorem bLR{v:AV}{x:Value}(f:aY c w v x):v.wfV:=by
 cases v<;>first|trivial|exact aUV f.1
theorem aYM:∀ {us:List AV} {vs:List Value},vs.length=us.length→(∀i (f:i<us.length) (g:i<vs.length),aY c w us[i] vs[i])→AV.wfL us
 | [],_,_,_=>trivial
 | u::us,v::vs,q,hv=>⟨bLR (hv 0 (by simp) (by simp)),aYM (vs:=vs) (by simp_all) (fun i f g=>by have:=hv (i+1) (by simp_all) (by simp_all); simp_all)⟩
theorem bLS{i:Nat}{o:Obj}(q:aII c w i o):o.wfV:=by
 cases o with
 | dead=>trivial
 | box n v =>
  obtain⟨b,cells,e,_,_,_,z⟩:=q;cases v<;>first|exact bGN z|exact aUV z|trivial
 | row e t f =>
  obtain⟨J,I,O⟩:=q;refine⟨bB.wf _ _ _ O,?_⟩;rcases I.2 with⟨_,h0⟩|⟨g,N,L,_,_,_,U,z,_⟩
  all_goals omega
 | frz t f=>exact bB.wf (.sl t) f _ q
 | map k v m=>trivial
 | tre e m t f =>
  obtain⟨B,I,_⟩:=q;exact bB.wf (.sl t) f _ (mD.toC (S':=fun _=>True) (fun _ _=>trivial) _ _ _ _ _ (fun _ _=>trivial) I)
 | trh e m t f k v=>trivial
theorem bEb(q:Good M w0 c h w):Obj.wfL h:=by
 have:∀(l:List Obj),(∀o∈l,o.wfV)→Obj.wfL l:=fun l=>by
  induction l with
  | nil=>intro _; trivial
  | cons o r I=>intro f; exact⟨f o (by simp),I fun x z=>f x (by simp[z])⟩
 refine this h fun o g=>?_;obtain⟨i,hi,rfl⟩:=List.mem_iff_getElem.1 g;exact bLS (q.objs i _ (List.getElem?_eq_getElem hi))
def aS(T:Tab)(h:List Obj)(env:St):List ResultVar→Prop×List AV
 | []=>(True,[])
 | .tmp t::r=>((aS T h env r).1,look env t::(aS T h env r).2)
 | .cell a t::r=>((aKL T h t (look env a)).1∧(aS T h env r).1,(aKL T h t (look env a)).2::(aS T h env r).2)
theorem aUW(Z:mJ P E.T)(O:Good M w0 c h w){env:St}{f:Array Value}(J:aKg c w env f){g:ResultVar→Sem Value}(I:∀t,g (.tmp t)=pure (f.getD t Go.undef))(q:∀a t,g (.cell a t)=(do loadVar t (← asAddr (f.getD a Go.undef)))):∀(l:List ResultVar),(aS E.T h env l).1 →
  ∃us:List Value,(l.mapM g).run P w= .ok us w∧us.length=(aS E.T h env l).2.length∧ ∀i (U:i<(aS E.T h env l).2.length) (h2:i<us.length),aY c w (aS E.T h env l).2[i] us[i]
 | [],_=>⟨[],by simp,rfl,fun i U=>by simp_all⟩
 | .tmp t::r,hc=>by
  simp only[aS] at hc ⊢;obtain⟨us,q1,N,q3⟩:=aUW Z O J I q r hc;refine⟨f.getD t Go.undef::us,by simp_all,by simp[N],fun i U h2=>?_⟩;cases i with
  | zero=>exact J t
  | succ i=>simp_all
 | .cell a t::r,hc=>by
  simp only[aS] at hc ⊢;obtain⟨us,q1,N,q3⟩:=aUW Z O J I q r hc.2;obtain⟨u,z,hr⟩:=bDN (P:=P) Z O (J a) hc.1;have L:(g (.cell a t)).run P w= .ok u w:=by
   rw[q];have hv:=J a;generalize f.getD a Go.undef=v at z hv;simp only[Instr.loadAt,Sem.run_bind] at z;simp only[Sem.run_bind];have:∃Y,v= .pointer (some Y):=by
    cases v with
    | pointer p =>
     cases p with
     | some Y=>simp_all
     | none=>simp[Instr.sureAddr,Result.andThen] at z
    | _=>simp[Instr.sureAddr,Result.andThen] at z
   obtain⟨Y,rfl⟩:=this
   simpa [Instr.sureAddr,asAddr] using z
  refine⟨u::us,by simp only[List.mapM_cons,Sem.run_bind,L,Sem.run_pure,Result.andThen_ok,q1],by simp[N],fun i U h2=>?_⟩;grind
theorem aIX(hT:mJ P E.T)(Y:Good M w0 c h w){env:St}{f:Array Value}(O:aKg c w env f){fn:Func}{l:List ResultVar}(L:fn.results=l.toArray)(hc:(aS E.T h env l).1) :
  ∃us:List Value,(results fn f).run P w= .ok (aMQ us) w∧us.length=(aS E.T h env l).2.length∧ ∀i (U:i<(aS E.T h env l).2.length) (h2:i<us.length),aY c w (aS E.T h env l).2[i] us[i]:=by
 unfold results;rw[L];simp only[Sem.run_bind];rw[List.mapM_toArray,Sem.run_map];generalize hm:(List.mapM _ l:Sem (List Value))=J;have I:∀(g:ResultVar→Sem Value),(∀t,g (.tmp t)=pure (f.getD t Go.undef))→(∀a t,g (.cell a t)=(do loadVar t (← asAddr (f.getD a Go.undef))))→List.mapM g l=J →
   ∃us:List Value,J.run P w= .ok us w∧us.length=(aS E.T h env l).2.length∧ ∀i (U:i<(aS E.T h env l).2.length) (h2:i<us.length),aY c w (aS E.T h env l).2[i] us[i]:=fun g q z e=>by
  subst e; exact aUW (P:=P) hT Y O q z l hc
 obtain⟨us,Z,N,q3⟩:=I _ (fun t=>rfl) (fun a t=>rfl) hm;refine⟨us,?_,N,q3⟩;rw[Z];simp only[Result.andThen_ok,Sem.run_pure]
 congr 1
 match us with
 | []=>rfl
 | [v]=>rfl
 | a::b::r =>
  rfl
def kC(h:List Obj):List AV→List AV→Prop
 | [],[]=>True
 | v::r,u::r'=>(fB h v u∧dG u=true)∧kC h r r'
 | _,_=>False
def kF(h:List Obj):AV→List AV→Prop
 | .tup g,f=>f.length≠1∧kC h f g
 | v,[u]=>fB h u v
 | _,_=>False
theorem aYN(z:Good M w0 c h w):∀ {us vs:List AV} {xs:List Value},kC h us vs→xs.length=us.length→(∀i (g:i<us.length) (f:i<xs.length),aY c w us[i] xs[i])→xs.length=vs.length∧ ∀i (g:i<vs.length) (f:i<xs.length),aY c w vs[i] xs[i]∧dG vs[i]=true
 | [],[],[],_,_,_=>⟨rfl,fun i g=>by grind⟩
 | u::us,v::vs,x::xs,q,I,hv=>by
  obtain⟨⟨g,J⟩,f⟩:=q;obtain⟨N,L⟩:=aYN z f (xs:=xs) (by simp_all) (fun i g f=>by have:=hv (i+1) (by simp_all) (by simp_all); simp_all);grind[aTX]
theorem bEc{v:AV}{x:Value}(hv:aY c w v x)(g:dG v=true)(ht:∀vs,v≠ .tup vs)(f:v≠ .undef):zK c w v x:=by
 cases v<;>first|exact hv|grind[dG]|simp_all|simp_all
def bGO:AV→Bool
 | .tup _=>false
 | .undef=>false
 | _=>true
theorem dX{F:Fr}{fn:Func}{sp:fQ}{c0:Ctx}{d:sp.D}{env:St}{h h':List Obj}{v:AV}(hF:vG F)(l:List ResultVar)(hM:F.M=GM sp c0 d)(U:F.ds= [])(hr:fn.results=l.toArray)(q:sp.out d= .ret v h')(hh:h=h')(N:(match v with| .tup J=>J.all bGO|_=>true)=true)(hy:(aS F.E.T h env l).1∧kF h v (aS F.E.T h env l).2) :
  At F (bodyPost F.P fn (aNI sp c0 F.w0 d) .ret) env h:=fun c a w hs=>by
 subst hh;obtain⟨I,q1,z,L⟩:=aIX (P:=F.P) hF.env.T hs.good hs.env hr hy.1;refine⟨hs.defers.trans U,aMQ I,q1,c,?_⟩;rw[q];refine⟨aMQ I,rfl,by rw[← hM]; exact hs.good,?_⟩;have f:=hy.2;generalize (aS F.E.T h env l).2=rs at z L f;cases v with
 | tup J =>
  obtain⟨h1,h2⟩:=f;obtain⟨k1,Y⟩:=aYN hs.good h2 z L;refine⟨I,?_,k1,fun i O Z=>?_⟩
  ·match I,z with
   | [],_=>rfl
   | [x],z=>simp_all
   | a::b::r,_=>rfl
  ·have g:=List.all_eq_true.1 N J[i] (List.getElem_mem O);exact bEc (Y i O Z).1 (Y i O Z).2 (fun l e=>by rw[e] at g; cases g) (fun e=>by rw[e] at g; cases g)
 | _ =>
  match rs,f with
  | [u],f =>
   match I,z with
   | [x],_=>exact aTX hs.good f (L 0 (by simp) (by simp))
theorem bC{F:Fr}{fn:Func}{sp:fQ}{q:Ctx}{d:sp.D}{env:St}{h h':List Obj}{p:Pan}(I:F.M=GM sp q d)(g:F.ds= [])(f:sp.out d= .pan p h')(J:h=h') :
  AtP F (bodyPost F.P fn (aNI sp q F.w0 d)) p env h:=fun c a w u hs z=>by
 subst J;refine⟨hs.defers.trans g,c,?_⟩;rw[f];exact⟨u,rfl,by rw[← I]; exact hs.good,z⟩
theorem bS{F:Fr}{Q:Exit→Act→World→Prop}{p:Pan}{env:St}{h:List Obj}(σ:List Nat)(hd:nodupB σ=true)(hp:preB F.M.m σ=true)(f:AtP F Q p (env.map fun q=>(q.1,ren σ q.2)) (σ.map fun i=>dT σ (h.getD i .dead))):AtP F Q p env h:=fun c a w u hs g =>
 f (c.ren σ) a w u ⟨hs.good.ren hd hp,hs.glob,fun t=>by rw[aK4 (ren σ) rfl]; exact aTZ (hs.env t),hs.size,hs.defers⟩ g
end
end Go.Vc
namespace Go.Vc
attribute [go_sem] Int.toNat_natCast vcA opA pv aUA bGp evA aE0 aA5 aGG kE aGT
attribute [go_sem] aR6 aHX aUz aOz vW bAd aWC bLN Go.Vc.look aKL aD6 bF0
attribute [go_sem] aYq shU shI lR bJb bF1 bCr aQt aD7 aBo aBo.fldT aMb
attribute [go_sem] aOC aOD aKM aOE aQA aNx aNz aOK aIM aMd aCo bF6
attribute [go_sem] mm2 aA4 eH Go.Vc.elemOf aXA List.all_cons List.all_nil Int.le_refl Nat.le_refl AV.solid AV.solid1 AV.nc
attribute [go_sem] AV.nc1 AV.isAgg Ty.isAgg Ty.cells Ty.zero aHo List.map List.append List.length Option.map decide_true decide_false
attribute [go_sem] Bool.and_true Bool.true_and true_and and_true implies_true forall_const if_true if_false IntKind.signed Ty.den Nat.succ_ne_self ne_eq
attribute [go_sem] not_false_eq_true not_true_eq_false List.getElem?_nil aMO List.nil_append List.cons_append beq_self_eq_true Bool.and_self cond_true cond_false Bool.cond_true_left Bool.cond_false_right
attribute [go_sem] xV aAO aE2 aTY aUM bMI freezeAll freeze aYE aUD aIS zM aMm aMn isStr bxN aKF aUi bCk bCj aUh aYn
attribute [go_sem] bD5 bAn bGi Ty.isNil aQD aMl bAw bD4 zO aK3 aEb aQC
attribute [go_sem] aGU wY aFU Ty.strB bCw bound aDt bLD bJf bJg bLE bGq
attribute [go_sem] frzAll Ty.scalar gJ bF7 RK.ty AV.tags AV.tags1 List.flatMap_cons List.flatMap_nil List.getElem?_cons_zero List.getElem?_cons_succ List.set_cons_zero
attribute [go_sem] List.set_cons_succ List.length_cons List.length_nil Nat.zero_add aEZ List.getD_cons_zero List.getD_cons_succ dite_true Ty.okB Ty.byt IntKind.bits xT
attribute [go_sem] aHn bMG bCq bLF aYs bJh bGl allTags aNy gt_iff_lt ge_iff_le List.length_replicate
attribute [go_sem] List.replicate_zero List.length_set bGF bGG bGH bFh bMJ aNH aKU bGm aFH aFI
attribute [go_sem] aUL Ty.keyB Ty.key1 Option.some.injEq exists_eq_left' List.append_nil decide_eq_true_eq decide_eq_false_iff_not Bool.or_eq_true Bool.or_eq_false_iff Bool.and_eq_true Int.not_lt
attribute [go_sem] Int.not_le Bool.not_eq_true' Bool.not_eq_false' gY bAB oK qL List.take_succ_cons List.take_zero List.drop_succ_cons List.drop_zero bF5
attribute [go_sem] aBD bE3 aYv aMc Ty.flds aKN aKi Ty.fieldOff bCs parse aIL aYt
attribute [go_sem] aUl Option.getD_some Option.getD_none Bool.not_true Bool.not_false Bool.false_eq_true Bool.true_eq_false false_implies and_false false_and or_true true_or
attribute [go_sem] or_false false_or Bool.or_true Bool.or_false Bool.true_or Bool.false_or Bool.and_false Bool.false_and Option.isSome_some Option.isSome_none Int.reduceToNat Int.reduceLE
attribute [go_sem] Int.reduceLT Nat.reduceEqDiff Nat.reduceAdd Nat.reduceMul Nat.reduceLT Nat.reduceSub Nat.reduceLeDiff Nat.reduceDiv Nat.reduceMod Nat.reducePow Nat.reduceGT Int.reduceEq
attribute [go_sem] Int.reduceNe Int.reduceAdd Int.reduceSub Int.reduceNeg Int.reduceMul reduceIte reduceCtorEq
end Go.Vc
namespace Go.Vc
open Go.RowKit
def Ty.argB:Ty→Bool
 | .bool=>true
 | .u _=>true
 | .i _=>true
 | .str=>true
 | .sl t=>t.argB
 | .unit=>true
 | .pair a b=>a.argB&&b.argB
 | .arr _ t=>t.argB
 | .expr=>true
 | _=>false
section
variable {P:Program} {T:Tab} {H:Type} {enc:TypeId×Value→H} {w:World} {spare:Nat→Bool} {held:Bool}
theorem qU{t:TypeId}{c:Ty}(h:aFe P T t c):P.cellsOf t=c.cells:=by
 obtain⟨i,hi,hs,_⟩:=h.info;simp[Program.cellsOf,hi,hs]
def aBF(w:World):Nat→Prop:=fun b=>b<w.heap.size
theorem aQO{a:Addr}{n:Nat}{ds:List Value}(h:w.cells? 0 a n=some ds):ds.length=n∧ ∀j,j<n→w.cell? (a.add j)=ds[j]? := by
 unfold World.cells? at h;rw[if_pos (Nat.zero_le _)] at h;have f:=mapM_some_length h;have g:=mapM_some_get h;grind
theorem aYO{b off:Nat}{v:Value}(h:w.cell? ⟨b,off,none⟩=some v):b<w.heap.size:=by
 grind[Nat.lt_or_ge,World.cell?,Array.getElem?_eq_none]
theorem bLT(a:Addr)(i j:Nat)(h:a.spot=none):(a.add i).add j=⟨a.block,a.off+i+j,none⟩:=by
 obtain⟨b,o,s⟩:=a;grind[Addr.add]
theorem bGP{sz:Nat}(O:0<sz){α:Type}{R:α→List Value→Prop}{a:Addr}{len:Nat}(z:∀i,i<len→ ∃ds x,w.cells? 0 (a.add (i*sz)) sz=some ds∧R x ds) :
  ∃xs:List α,xs.length=len∧(xs= []∨ ∃b off,some a=some ⟨b,off,none⟩∧aBF w b∧ ∀i (h:i<xs.length),∃ds,R xs[i] ds∧mY w b (off+i*sz) ds):=by
 classical
 by_cases h0:len=0
 ·simp_all
 have g:0<len:=by omega
 obtain⟨J,N,e0,_⟩:=z 0 g;have L:a.spot=none:=by
  obtain⟨Y,Z⟩:=aQO e0;grind[List.getElem?_eq_getElem,World.cell?_spot,Addr.add]
 have I:∃f:Nat→α,∀i,i<len→ ∃ds,w.cells? 0 (a.add (i*sz)) sz=some ds∧R (f i) ds:=by
  refine⟨fun i=>if h:i<len then Classical.choose (Classical.choose_spec (z i h)) else N,fun i hi=>?_⟩;grind
 obtain⟨f,I⟩:=I;have hcell:∀i,i<len→ ∀ds,w.cells? 0 (a.add (i*sz)) sz=some ds→mY w a.block (a.off+i*sz) ds:=fun i hi ds q j v U=>by
  grind[aQO,Nat.lt_or_ge,List.getElem?_eq_none,bLT]
 refine⟨(List.range len).map f,by simp,.inr ⟨a.block,a.off,?_,?_,fun i hi=>?_⟩⟩
 ·obtain⟨b,o,s⟩:=a; simp_all
 ·obtain⟨ds,q,_⟩:=I 0 g;have:=hcell 0 g ds q 0 (ds[0]'(by grind[aQO])) (List.getElem?_eq_getElem _);exact aYO this
 grind
theorem aUX{n:Nat}(N:∀(t:TypeId) (c:Ty) (cs:List Value) (x:DataW H×List MemPlace),T t=some c→c.argB=true→DataW.trod enc P w 0 spare held n t cs=some x→ ∃y,bB w (aBF w) c y cs)(Y:mJ P T)(cs:List Value) :
  ∀(J:List Field) (off:Nat) (c:Ty),eQ T J off c=true→c.argB=true→(cs.drop off).length=c.cells→(∀f∈J,∃x,DataW.trod enc P w 0 spare held n f.type ((cs.drop f.offset).take (P.cellsOf f.type))=some x)→ ∃y,bB w (aBF w) c y (cs.drop off)
 | [],off,c,z,I,L,_=>by
  cases c<;>simp[eQ] at z
  exact⟨(),List.eq_nil_of_length_eq_zero L⟩
 | f::J,off,c,z,I,L,U=>by
  cases c<;>simp only[eQ,Bool.false_eq_true] at z
  case pair a b =>
   simp only[Bool.and_eq_true,decide_eq_true_eq] at z;obtain⟨⟨⟨⟨O,h2⟩,h3⟩,h4⟩,Z⟩:=z;simp only[Ty.argB,Bool.and_eq_true] at I;obtain⟨x,q⟩:=U f (by simp);rw[qU (Y _ _ O),h2] at q;obtain⟨y1,r1⟩:=N _ _ _ _ O I.1 q;simp only[Ty.cells] at L;obtain⟨y2,r2⟩:=aUX N Y cs J (off+a.cells) b Z I.2 (by grind) (fun g hg=>U g (by simp[hg]));refine⟨(y1,y2),(cs.drop off).take a.cells,cs.drop (off+a.cells),?_,r1,r2⟩;rw[← List.drop_drop,List.take_append_drop]
theorem bAL(O:mJ P T):∀(n:Nat) (t:TypeId) (c:Ty) (cs:List Value) (x:DataW H×List MemPlace),T t=some c→c.argB=true→DataW.trod enc P w 0 spare held n t cs=some x→ ∃y,bB w (aBF w) c y cs:=by
 intro n
 induction n with
 | zero=>simp_all[DataW.trod]
 | succ n ih =>
  intro t c cs x ht ha h;obtain⟨d,hd,hb⟩:=(O _ _ ht).desc;cases c with
  | bool =>
   cases d<;>simp[jX] at hb
   obtain⟨b,e,_⟩:=DataW.trod_bool hd h;exact⟨b,e⟩
  | u k =>
   cases d<;>simp[jX] at hb
   rename_i k';obtain⟨rfl,hb⟩:=hb;obtain⟨m,e,_,hw⟩:=DataW.trod_int hd h;simp only[Lit.wf,Bool.and_eq_true,decide_eq_true_eq] at hw;have hmin:IntKind.min k=0:=(by cases k<;>first|rfl|grind[IntKind.signed]);have hm:((m.toNat:Nat):Int)=m:=Int.toNat_of_nonneg (by omega);exact⟨m.toNat,by simp_all,hb,by omega⟩
  | i k =>
   cases d<;>simp[jX] at hb
   rename_i k';obtain⟨rfl,hb⟩:=hb;obtain⟨m,e,_,hw⟩:=DataW.trod_int hd h;simp only[Lit.wf,Bool.and_eq_true,decide_eq_true_eq] at hw;exact⟨m,e,hb,hw.1,hw.2⟩
  | str =>
   cases d<;>simp[jX] at hb
   obtain⟨s,e,_,hs⟩:=DataW.trod_string hd h;exact⟨aQ s,s,e,rfl,hs⟩
  | sl I =>
   cases d<;>simp[jX] at hb
   obtain⟨L,hb2⟩:=hb;rcases DataW.trod_slice hd h with⟨rfl,_⟩|⟨a,len,U,elems,rest,m,hm,rfl,_,_,hl,hc,z,N,_⟩
   ·exact⟨[],none,0,0,rfl,rfl,Nat.le_refl _,Nat.zero_le _,.inl rfl⟩
   ·cases hm;rw[qU (O _ _ L)] at N;obtain⟨xs,Y,h2⟩:=bGP (w:=w) hb2 (R:=bB w (aBF w) I) (a:=a) (len:=len) (fun i hi=>by
     have:=N i hi;rw[List.getElem?_eq_getElem (by omega)] at this;obtain⟨ds,hds,hx⟩:=Option.bind_eq_some_iff.1 this;obtain⟨y,hy⟩:=ih _ _ _ _ L ha hx;grind)
    exact⟨xs,some a,len,U,rfl,Y,hl,hc,h2⟩
  | unit =>
   cases d<;>simp[jX] at hb
   rename_i fs;obtain⟨xs,m,_,_,z,_⟩:=DataW.trod_struct hd h;rw[qU (O _ _ ht)] at z;exact⟨(),List.eq_nil_of_length_eq_zero z⟩
  | pair a b =>
   cases d<;>simp[jX] at hb
   rename_i fs;obtain⟨xs,m,hm,_,z,hxl,hf⟩:=DataW.trod_struct hd h;cases hm;rw[qU (O _ _ ht)] at z;have:=aUX ih O cs fs.toList 0 (.pair a b) hb ha (by simp_all) (fun f hf'=>by
    obtain⟨i,hi,rfl⟩:=List.mem_iff_getElem.1 hf';have hi':i<fs.size:=(by omega);have:=hf i fs[i] (Array.getElem?_eq_getElem hi');simp_all)
   simp_all
  | arr m I =>
   cases d<;>simp[jX] at hb
   obtain⟨⟨⟨rfl,L⟩,hb2⟩,_⟩:=hb;obtain⟨xs,q,hq,_,z,hxl,hf⟩:=DataW.trod_array hd h;cases hq;rw[qU (O _ _ ht)] at z;rw[qU (O _ _ L)] at hf;have hall:∀i,i<m→ ∃y,bB w (aBF w) I y ((cs.drop (i*I.cells)).take I.cells):=fun i hi=>by
    have:=hf i hi;rw[List.getElem?_eq_getElem (by omega)] at this;exact ih _ _ _ _ L ha this
   classical
   have Z:∃f:Nat→I.den,∀i,i<m→bB w (aBF w) I (f i) ((cs.drop (i*I.cells)).take I.cells):=by
    refine⟨fun i=>if h:i<m then Classical.choose (hall i h) else I.zero,fun i hi=>?_⟩;grind
   obtain⟨f,Z⟩:=Z;refine⟨(List.range m).map f,by simp,(List.range m).map fun i=>(cs.drop (i*I.cells)).take I.cells,?_,by simp,fun i Y h2=>?_⟩
   ·have:∀(k:Nat) (l:List Value),l.length=k*I.cells→l=((List.range k).map fun i=>(l.drop (i*I.cells)).take I.cells).flatten:=by
     intro k
     induction k with
     | zero=>simp_all
     | succ k ihk =>
      intro l hl;rw[List.range_succ,List.map_append,List.flatten_append];have Y:=ihk (l.take (k*I.cells)) (by grind);have h2:((List.range k).map fun i=>((l.take (k*I.cells)).drop (i*I.cells)).take I.cells)=((List.range k).map fun i=>(l.drop (i*I.cells)).take I.cells):=by
       apply List.map_congr_left;intro i hi;have hik:i<k:=List.mem_range.1 hi;rw[List.drop_take,List.take_take]
       congr 1
       have:(i+1)*I.cells≤k*I.cells:=Nat.mul_le_mul_right _ hik;grind
      rw[h2] at Y;rw[← Y];simp only[List.map_cons,List.map_nil,List.flatten_cons,List.flatten_nil,List.append_nil];rw[List.take_of_length_le (l:=l.drop (k*I.cells)) (by grind),List.take_append_drop]
    exact this m cs z
   grind
  | expr =>
   cases d<;>simp[jX] at hb
   rename_i fs;obtain⟨xs,m,hm,_,z,hxl,hf⟩:=DataW.trod_struct hd h;cases hm;rw[qU (O _ _ ht)] at z;have hfs:∃f0 f1 f2,fs.toList= [f0,f1,f2]∧(T f0.type=some (.i .i64)∧f0.offset=0∧T f1.type=some .str∧f1.offset=1∧T f2.type=some (.sl .expr)∧f2.offset=2):=by
    unfold bDI at hb;grind
   obtain⟨f0,f1,f2,hfs,t0,o0,I,o1,t2,o2⟩:=hfs;have J:∀(i:Nat) (f:Field),fs.toList[i]? = some f→ ∃x,DataW.trod enc P w 0 spare held n f.type ((cs.drop f.offset).take (P.cellsOf f.type))=some x:=fun i f hi=>by
    grind
   obtain⟨x0,h0⟩:=J 0 f0 (by simp_all);obtain⟨x1,Y⟩:=J 1 f1 (by simp_all);obtain⟨x2,h2⟩:=J 2 f2 (by simp_all);rw[qU (O _ _ t0),o0] at h0;rw[qU (O _ _ I),o1] at Y;rw[qU (O _ _ t2),o2] at h2;obtain⟨y0,r0⟩:=ih _ _ _ _ t0 rfl h0;obtain⟨y1,r1⟩:=ih _ _ _ _ I rfl Y;obtain⟨y2,r2⟩:=ih _ _ _ _ t2 rfl h2
   match cs,z with
   | [c0,c1,c2],_ =>
    simp only[Ty.cells,List.drop_zero,List.drop_succ_cons,List.take_succ_cons,List.take_zero] at r0 r1 r2;obtain⟨e0,_,b1,b2⟩:=r0;obtain⟨s,e1,rfl,hs⟩:=r1;obtain⟨a,len,U,e2,hl1,hl2,hl3,hl4⟩:=r2;simp only[List.cons.injEq,and_true] at e0 e1 e2;subst e0; subst e1; subst e2
    classical
    refine⟨.mk y0 (aQ s) y2,?_⟩;rcases hl4 with rfl|⟨b,off,ha,hb,N⟩
    ·exact RepEx.mk y0 s [] a len U (fun _=>[]) ⟨b1,b2⟩ hs hl1 hl2 hl3 (fun i h=>by simp at h) (.inl rfl)
    ·refine RepEx.mk y0 s y2 a len U (fun i=>if h:i<List.length y2 then Classical.choose (N i h) else []) ⟨b1,b2⟩ hs hl1 hl2 hl3 (fun i h=>?_) (.inr ⟨b,off,ha,hb,fun i h=>?_⟩)
     ·simp only[dif_pos h]; exact(Classical.choose_spec (N i h)).1
     grind
  | rp I=>grind[Ty.argB]
  | clo g I=>grind[Ty.argB]
  | ifc k I=>grind[Ty.argB]
  | nili=>grind[Ty.argB]
  | nilp=>grind[Ty.argB]
  | nilf=>grind[Ty.argB]
theorem bJB(z:mJ P T){t:TypeId}{c:Ty}{r:Reach}{base:Nat}{v:Value}{d:DataW H}{ps:List MemPlace}(ht:T t=some c)(J:c.argB=true)(f:Value.okWide P w r base t v)(h:DataW.Trod enc P w 0 spare held t v d ps):∃y,dV w (aBF w) c y v:=by
 obtain⟨n,I⟩:=h;obtain⟨y,hy⟩:=bAL z n t c _ _ ht J I;refine⟨y,dV.of_cells (fun g=>?_) (fun q=>?_) hy⟩
 ·obtain⟨d,hd,hb⟩:=(z _ _ ht).desc;unfold Value.okWide at f;rw[hd] at f;cases c<;>simp[Ty.isAgg] at g
  all_goals (cases d<;>first|grind[jX]|skip)
  all_goals grind
 ·intro L e;subst e;obtain⟨d,hd,hb⟩:=(z _ _ ht).desc;unfold Value.okWide at f;rw[hd] at f;cases c<;>simp[Ty.isAgg] at q
  all_goals (cases d<;>first|grind[jX]|skip)
  all_goals simp_all[Cell.okWide,Cell.ok]
def bLU(T:Tab):Ty→List TypeId→Bool
 | .unit,[]=>true
 | .pair a r,t::ts=>decide (T t=some a)&&a.argB&&bLU T r ts
 | _,_=>false
theorem bEd(g:mJ P T){r:Reach}{base:Nat}:∀(c:Ty) (ts:List TypeId) (vs:List Value) (ds:List (DataW H)) (ps:List MemPlace),bLU T c ts=true→DataW.TrodAll enc P w 0 spare held ts vs ds ps→(∀(j:Nat) t v,ts[j]? = some t→vs[j]? = some v→Value.okWide P w r base t v)→ ∃x,sC w (aBF w) c x vs
 | .unit,[],vs,ds,ps,_,h,_=>by
  cases vs<;>cases ds<;>simp[DataW.TrodAll] at h
  exact⟨(),rfl⟩
 | .pair a c,t::ts,vs,ds,ps,hb,h,f=>by
  simp only[bLU,Bool.and_eq_true,decide_eq_true_eq] at hb;cases vs<;>cases ds<;>simp only[DataW.TrodAll] at h
  rename_i v vs d ds;obtain⟨p,q,J,I,_⟩:=h;obtain⟨y,hy⟩:=bJB g hb.1.1 hb.1.2 (f 0 t v rfl rfl) J;obtain⟨x,L⟩:=bEd g c ts vs ds q hb.2 I (fun j N z e1 O=>f (j+1) N z (by simp_all) (by simp_all));exact⟨(y,x),v,vs,rfl,hy,L⟩
end
end Go.Vc
namespace Go.Vc
attribute [go_sem] aUT aQN List.contains_cons List.contains_nil aCs aK5 bAJ aYJ aEd aUS bAH bAI
attribute [go_sem] bGK aOV aQM bLe nodupB bGJ dG emb aHZ aSV bCG aUQ
attribute [go_sem] aF1 tX qK aF0 ren cZ dT posOf bI aS kC fB
attribute [go_sem] kF bGO vH AV.wfL AV.wfV Obj.wfL Obj.wfV List.all_cons List.all_nil List.range'_zero List.range'_succ List.zip_cons_cons
attribute [go_sem] List.zip_nil_left List.zip_nil_right List.drop_nil List.take_nil List.map_cons List.map_nil bAm aKV
end Go.Vc
namespace Go.Vc
open Go.RowKit
section
variable {P:Program} {E:Env} {M:Perm} {w0:World} {c:Ctx} {h:List Obj} {w:World}
def bEe(P:Program)(fn:Func)(S:Nat→Prop)(w0:World)(r:RK)(y:r.ty.den):Exit→Act→World→Prop :=
 bodyPostD P fn fun e w'=>∃v,e= .returned v∧jB nothing w0 w'∧bE2 w' S w0.heap.size r y v
theorem bJC{f:FuncId}{fn:Func}{g:Code}{sp:aF}(hE:jC P E)(U:P.funcs[f]? = some fn)(hb:fn.body=some g)(q:jI fn.ntmps g=true)(Z:aSb sp.args≤fn.ntmps)
  (ht:∀(w0:World) (S:Nat→Prop) (x:sp.args.den),sp.args.wf x→sp.pre x→Tri (fr P E S w0 fn.ntmps) g (bEe P fn S w0 sp.res (sp.fn x)) (cA sp.args x 0) []):FOK P E.G f sp:=by
 intro w S I x L N z hp;refine calls_of_wp_defers U hb ?_;refine ht w S x (aIT _ _ _ z) hp q ⟨S,fun _=>Go.undef,0,fun _ _=>False⟩ _ w ⟨⟨rfl,.refl _ _,L,fun b hb _=>.inl hb,fun i o J=>by grind,fun i o b J=>by grind,fun i j oi Y b hi=>by grind,⟨Nat.le_refl _,fun i hi=>absurd hi (Nat.not_lt_zero i)⟩⟩,N,?_,?_,rfl⟩
 ·refine aUG _ x 0 I.toList _ z rfl fun i v hv=>?_;have O:i<I.size:=by
   grind
  simp_all[Nat.zero_add,Array.getElem?_toList,Array.getElem?_append,Array.getElem?_eq_getElem]
 ·have:=aUH _ _ _ z;simp_all
theorem bGQ{S:Nat→Prop}(hwr:M.wr=nothing)(hrd:M.rd=S)(U:Good M w0 c h w){r:RK}{y:r.ty.den}{q:List AV}{xs:List Value}(hl:xs.length=q.length)(hv:∀i (I:i<q.length) (h2:i<xs.length),aY c w q[i] xs[i])(hy:nD h r y q):bE2 w S w0.heap.size r y (aMQ xs):=by
 have J:∀ {c':Ctx} {h':List Obj},Good M w0 c' h' w→ ∀b,c'.S b→S b∨(w0.heap.size≤b∧b<w.heap.size):=fun U b hb=>by
  rcases Nat.lt_or_ge b w0.heap.size with hlt|hge
  ·have:=U.src b hb hlt;rw[hwr,hrd] at this;exact .inl (this.resolve_right (fun f=>f))
  ·exact .inr ⟨hge,U.sfin b hb⟩
 obtain⟨c',hll,N⟩:=U.frzAll;have z:∀i (I:i<q.length) (h2:i<xs.length),aY c' w q[i] xs[i]:=fun i I h2=>hll.val (hv i I h2);cases r with
 | none =>
  match q,xs,hl,hy with
  | [],[],_,_=>rfl
 | one t =>
  match q,xs,hl,hy,z with
  | [v],[x],_,hy,z =>
   have hy:AV.as (h.map Vc.frzAll) t v=some y:=hy;rw[← bD2] at hy;have:=aAl N (z 0 (by simp) (by simp)) hy;exact dV.keep (J N) (.refl _ _) this
 | own e t =>
  match q,xs,hl,hy,hv with
  | [.own i],[x],_,hy,hv =>
   have L:=hv 0 (by simp) (by simp);simp only[List.getElem_cons_zero] at L;have ho:h[i]? = some (.row e t y):=hy;obtain⟨hin,rfl⟩:=aDJ L;obtain⟨vals,O,Y⟩:=U.objs i _ ho;refine⟨vals,⟨O.1,O.2.imp id ?_⟩,bB.keep (fun b hb=>?_) (.refl _ _) _ _ _ Y⟩
   ·rintro⟨g,cap,cur,I,h2,h3⟩;refine⟨g,cap,cur,I,?_,h3⟩;have:=(U.own i _ g ho (by simp[fI,I,aU])).1;rw[hwr] at this;exact this.resolve_right (fun f=>f)
   ·rcases J U b hb with I|I
    ·simp_all
    ·exact .inr ⟨I.1,I.2,fun e'=>(U.own i _ b ho e').2.2 hb⟩
  | [.nilS],[x],_,hy,hv =>
   have L:=hv 0 (by simp) (by simp);simp only[List.getElem_cons_zero] at L;have hy:y= []:=hy;subst hy;have hsv:x= .slice none 0 0:=by
    obtain⟨I,_,h3⟩:=L;have h3:=h3 rfl;simp_all[aM,Value.cells]
   subst hsv;exact⟨[],⟨by simp,.inl ⟨rfl,rfl⟩⟩,⟨rfl,[],rfl,rfl,fun i h=>by simp at h⟩⟩
 | tup t =>
  have hy:q.length≠1∧aDt (h.map Vc.frzAll) t q=some y:=hy;obtain⟨Z,hy⟩:=hy;rw[← bD2] at hy;have hargs:=aKQ N hy (xs:=xs) hl z;refine⟨xs,?_,bFg (J N) hargs⟩
  match xs,hl▸Z with
  | [],_=>rfl
  | [s],Z=>simp_all
  | s::s'::l,_=>rfl
def m0:Option Pan→Value→FrameMode
 | none,_=>.returning
 | some p,u=>.panicking (aWE p.k u)
def m1:Option Pan→Value→FrameMode
 | none,_=>.returning
 | some p,u=>.panicking [{ v:=.iface p.k u,recovered:=true,goexit:=false }]
theorem bFn(m:Option Pan)(u:Value):settle (m1 m u)= .returning:=by cases m<;>rfl
def bLf(P:Program)(g:FuncId)(vs:Array Value)(f u1:FrameMode)(w:World)(R:Ending→World→Prop):Prop:=CallsD P g vs f w fun e q w'=>q=u1∧R e w'
def DOK(P:Program)(G:Nat→AV)(g:FuncId)(mode:Option Pan)(sp:fQ):Prop :=
 ∀(c:Ctx) (w:World) (d:sp.D) (vs:Array Value) (u:Value),sp.pre d→GIn G sp c w d vs.toList→(∀p,mode=some p→dV w c.S p.t p.x u)→bLf P g vs (m0 mode u) (m1 mode u) w (aNI sp c w d)
theorem bAM{F:Fr}{fn:Func}{S:Nat→Prop}{r:RK}{y:r.ty.den}{env:St}{h:List Obj}{k:Nat}{roots:Nat→Value}{g:FuncId}{l2:List Nat}{mode:Option Pan}(hF:vG F)(U:F.M=⟨nothing,S,k,roots⟩)(hds:F.ds= [⟨.fn (.func g) (l2.map roots).toArray,#[]⟩])(hk:∀i∈l2,i<k)(O:aHn h l2=true)
  (hfn:∃fn,F.P.funcs[g]? = some fn∧fn.name ≠ "runtime.NumGoroutine" ∧ fn.body.isSome=true) (t:Hit) (Y:DOK F.P F.E.G g mode t.sp) (hh:aOV h (l2.map fun i=>.ptr i []) t) {v:AV} {h':List Obj} (I:t.sp.out t.d= .ret v h')
  (l:List ResultVar) (hr:fn.results=l.toArray) (hy:(aS F.E.T (aF1 t.σ t.sp.m h h') env l).1∧nD (aF1 t.σ t.sp.m h h') r y (aS F.E.T (aF1 t.σ t.sp.m h h') env l).2) {c:Ctx} {a:Act} {w:World} {u:Value} (hs:Sim F.E F.M F.w0 F.nt F.ds c env h a w) (hu:∀p,mode=some p→dV w c.S p.t p.x u) :
  Leaves F.P fn a.tmps (fun e w'=>∃v,e= .returned v∧jB nothing F.w0 w'∧bE2 w' S F.w0.heap.size r y v) a.defers (m0 mode u) w:=by
 have hroot:=hs.good.root;rw[U] at hroot;have J:∀i∈l2,c.hd i=roots i∧i<c.n:=fun i hi=>⟨hroot.2 i (hk i hi),Nat.lt_of_lt_of_le (hk i hi) hroot.1⟩;have hl2:l2.map roots=l2.map c.hd:=List.map_congr_left fun i hi=>(J i hi).1.symm;have N:∀i (L:i<(l2.map fun i=>AV.ptr i []).length) (h2:i<(l2.map roots).toArray.toList.length),aY c w (l2.map fun i=>AV.ptr i [])[i] (l2.map roots).toArray.toList[i]:=fun i L h2=>by
  have:=aKW hs.good O (fun i hi=>(J i hi).2) i L (by simp_all);simp_all
 rw[hs.defers,hds];refine leaves_cons (f:=g) (args:=(l2.map roots).toArray) ?_ ?_ ?_
 ·cases mode<;>simp[m0]
 ·grind[aFg,invoke]
 ·have hcall:=aXR (C:=bLf F.P g (l2.map roots).toArray (m0 mode u) (m1 mode u) w) (fun R R' h k=>CallsD.mono h fun e u' w' q=>⟨q.1,k _ _ q.2⟩) (fun hp hin=>Y _ _ _ _ _ hp hin hu) hs.good hs.glob (vs:=l2.map fun i=>AV.ptr i []) (xs:=(l2.map roots).toArray) (by simp) N hh;refine CallsD.mono hcall ?_;rintro e u' w' ⟨rfl,cN,hl,z⟩;rw[I] at z;obtain⟨uv,rfl,Z,_⟩:=z;show Leaves F.P fn a.tmps _ [] (settle (m1 mode u)) w';rw[bFn];obtain⟨us,q1,q2,q3⟩:=aIX (P:=F.P) hF.env.T Z (hs.env.keep hl) hr hy.1;refine⟨aMQ us,q1,aMQ us,rfl,by have:=Z.keeps; simp_all,?_⟩;exact bGQ (by rw[U]) (by rw[U]) Z q2 (fun i L h2=>q3 i L h2) hy.2
theorem aT1{F:Fr}{fn:Func}{S:Nat→Prop}{r:RK}{y:r.ty.den}{env:St}{h:List Obj}{k:Nat}{roots:Nat→Value}{g:FuncId}{l2:List Nat}(hF:vG F)(N:F.M=⟨nothing,S,k,roots⟩)(q:F.ds= [⟨.fn (.func g) (l2.map roots).toArray,#[]⟩])(O:∀i∈l2,i<k)(z:aHn h l2=true)
  (I:∃fn,F.P.funcs[g]? = some fn∧fn.name ≠ "runtime.NumGoroutine" ∧ fn.body.isSome=true) (t:Hit) (J:DOK F.P F.E.G g none t.sp) {v:AV} {h':List Obj} (f:t.sp.out t.d= .ret v h')
  (l:List ResultVar) (L:fn.results=l.toArray) (U:aOV h (l2.map fun i=>.ptr i []) t) (hy:(aS F.E.T (aF1 t.σ t.sp.m h h') env l).1∧nD (aF1 t.σ t.sp.m h h') r y (aS F.E.T (aF1 t.σ t.sp.m h h') env l).2) :
  At F (bEe F.P fn S F.w0 r y .ret) env h:=fun c a w hs =>
 bAM (u:=Go.undef) hF N q O z I t J U f l L hy hs (fun p hp=>by cases hp)
theorem aFi{F:Fr}{fn:Func}{S:Nat→Prop}{r:RK}{y:r.ty.den}{env:St}{h:List Obj}{k:Nat}{roots:Nat→Value}{g:FuncId}{l2:List Nat}{p:Pan}(hF:vG F)(O:F.M=⟨nothing,S,k,roots⟩)(z:F.ds= [⟨.fn (.func g) (l2.map roots).toArray,#[]⟩])(U:∀i∈l2,i<k)(I:aHn h l2=true)
  (J:∃fn,F.P.funcs[g]? = some fn∧fn.name ≠ "runtime.NumGoroutine" ∧ fn.body.isSome=true) (t:Hit) (L:DOK F.P F.E.G g (some p) t.sp) {v:AV} {h':List Obj} (f:t.sp.out t.d= .ret v h')
  (l:List ResultVar) (N:fn.results=l.toArray) (Y:aOV h (l2.map fun i=>.ptr i []) t) (hy:(aS F.E.T (aF1 t.σ t.sp.m h h') env l).1∧nD (aF1 t.σ t.sp.m h h') r y (aS F.E.T (aF1 t.σ t.sp.m h h') env l).2) :
  AtP F (bEe F.P fn S F.w0 r y) p env h:=fun c a w u hs Z =>
 bAM hF O z U I J t L Y f l N hy hs (fun q hq=>by grind)
theorem aDM{F:Fr}{Q:Exit→Act→World→Prop}{env:St}{h:List Obj}{id:Nat}{ops:Array Oper}{y:Code}{g:FuncId}{t:Nat}{f:Array Operand}{N ty2:TypeId}{q J:String}{z I:Array Edge}(k:Nat)(l2:List Nat)
  (hops:ops= #[⟨some t,.makeFunc (.func g) #[] f,N,q,z,none⟩,⟨none,.defer ⟨.value (.tmp t),#[],#[]⟩,ty2,J,I,none⟩])
  (htags:allTags h (f.toList.map (evA F.E.G env))=some l2) (hm:F.M.m≤k) (hk:k≤h.length)
  (hy:∀roots:Nat→Value,(∀i,i<F.M.m→roots i=F.M.roots i)→Tri { F with M:=⟨F.M.wr,F.M.rd,k,roots⟩,ds:=⟨.fn (.func g) (l2.map roots).toArray,#[]⟩::F.ds } y Q ((t,.junk)::env) h):Tri F (.seq (.region id ops false) y) Q env h:=fun hok c a w hs=>by
 simp only[jI,Bool.and_eq_true] at hok;obtain⟨⟨⟨Z,_⟩,_⟩,hok2⟩:=hok;subst hops;have hall:=List.all_eq_true.1 Z;have O:=hall ⟨some t,.makeFunc (.func g) #[] f,N,q,z,none⟩ (by simp);simp only[iU,Bool.and_eq_true] at O;have L:∀x∈(Op.makeFunc (.func g) #[] f).operands,sO x=true:=Array.all_eq_true_iff_forall_mem.1 O.1;have Y:t<a.tmps.size:=by
  have:=O.2;rw[hs.size];simp_all
 obtain⟨hlt,hcv⟩:=aOM hs.good htags (vs:=f.toList.map a.eval) (by simp) (fun i h1 h2=>by
  simp only[List.getElem_map];exact aFS hs.env hs.glob (L _ (by simp[Op.operands])))
 have hcv':f.map a.eval=(l2.map c.hd).toArray:=by grind
 refine wp_seq (wp_region ?_);have hy':=hy c.hd (fun i hi=>hs.good.root.2 i hi);have hgood:Good ⟨F.M.wr,F.M.rd,k,c.hd⟩ F.w0 c h w:=⟨hs.good.n,hs.good.keeps,hs.good.sfin,hs.good.src,hs.good.objs,hs.good.own,hs.good.sep,by rw[hs.good.n]; exact hk,fun _ _=>rfl⟩;have hfin:=hy' hok2 c { (a.put (some t) (.func (.func g) #[] (l2.map c.hd).toArray)) with defers:=⟨.fn (.func g) (l2.map c.hd).toArray,#[]⟩::a.defers } w ⟨hgood,hs.glob,by
  have:=hs.env.put (d:=t) (v:=.junk) (x:=.func (.func g) #[] (l2.map c.hd).toArray) Y trivial;omega,by simpa [Act.put] using hs.size,by simp[hs.defers]⟩
 have U:(execOp a.eval ⟨some t,.makeFunc (.func g) #[] f,N,q,z,none⟩).run F.P w= .ok (.value (.func (.func g) #[] (l2.map c.hd).toArray)) w:=by
  simp[execOp,Instr.makeFunc,hcv']
 have hget:(a.put (some t) (.func (.func g) #[] (l2.map c.hd).toArray)).eval (.tmp t)= .func (.func g) #[] (l2.map c.hd).toArray:=by
  simp[Act.eval,Act.put,Y]
 have run2:(execOp (a.put (some t) (.func (.func g) #[] (l2.map c.hd).toArray)).eval ⟨none,.defer ⟨.value (.tmp t),#[],#[]⟩,ty2,J,I,none⟩).run F.P w= .ok (.defer ⟨.fn (.func g) (l2.map c.hd).toArray,#[]⟩) w:=by
  simp[execOp,resolve,Deferred.ofValue,hget]
 show wpOps F.P _ _ [0,1] a w;have w1:∀(o:Oper) (y:Nat→Option Bool),o.guard=none→Region.wanted o y=true:=fun o y h=>by simp[Region.wanted,h]
 unfold wpOps;simp only[List.getElem?_toArray,List.getElem?_cons_zero];rw[if_pos (w1 _ _ rfl)];refine .inl ?_;unfold Oper.wp;rw[U,Oper.upon_value];unfold wpOps;simp only[List.getElem?_toArray,List.getElem?_cons_succ,List.getElem?_cons_zero];rw[if_pos (w1 _ _ rfl)];refine .inl ?_;unfold Oper.wp;rw[run2,Oper.upon_defer];exact hfin
theorem aIY{ops:Array Oper}{cs:List Frame}{Q:Exit→Act→List Frame→World→Prop}(g:¬LetsOut fun e a w=>Q e a cs w):∀(l:List Nat) (a:Act) (w:World),wpOps P ops (fun e a w=>Q e a cs w) l a w→wpOpsS P ops Q l a cs w
 | [],a,w,f=>f
 | i::rest,a,w,f=>by
  unfold wpOps at f;unfold wpOpsS;cases I:ops[i]? with
  | none=>simp only[I] at f ⊢; exact aIY g rest a w f
  | some o =>
   simp only[I] at f ⊢;split
   ·rename_i z;simp only[z,if_true] at f;have f:=Oper.wp_mono (fun a w=>aIY g rest a w) (f.resolve_right fun q=>g q.2);unfold Oper.wp at f;revert f;generalize (execOp a.eval o).run P w=r;intro f;split
    ·exact f.elim
    omega
   ·rename_i z;simp only[z,if_false] at f;exact aIY g rest _ w f
def bGR:Option Pan→AV
 | none=>.val .nili ()
 | some p=>.val (.ifc p.k p.t) p.x
theorem aQP{g:FuncId}{fn:Func}{rest:Code}{id:Nat}{ops:Array Oper}{sp:fQ}{mode:Option Pan}{O:Nat}{ty:TypeId}{pos:String}{U:Array Edge}(hE:jC P E)(hf:P.funcs[g]? = some fn)(hb:fn.body=some (.seq (.region id ops false) rest))(hok:jI fn.ntmps (.seq (.region id ops false) rest)=true)(hn:∀d,(sp.av d).length≤fn.ntmps)
  (h0:ops[0]? = some ⟨some O,.call ⟨.builtin .recover,#[],#[]⟩,ty,pos,U,none⟩)
  (ht:∀(c:Ctx) (w:World) (d:sp.D),AV.wfL (sp.av d)→Obj.wfL (sp.hp d)→sp.pre d→c.n=(sp.hp d).length →
   xV E ops.toList (ops.toList.drop 1) ((O,bGR mode)::vH (sp.av d) 0) (sp.hp d) (fun env h=>Tri ⟨P,E,GM sp c d,w,fn.ntmps,[]⟩ rest (bodyPost P fn (aNI sp c w d)) env h)):DOK P E.G g mode sp:=by
 intro c w d I u hp q hu;refine callsD_of_wpS hf hb fun f Y z=>?_;have N:=hok;simp only[jI,Bool.and_eq_true] at N;obtain⟨⟨⟨J,_⟩,_⟩,hok2⟩:=N;refine wpS_seq (wpS_region ?_);have hsz:0<ops.size:=by
  grind
 obtain⟨n,hn'⟩:∃n,ops.size=n+1:=⟨ops.size-1,by omega⟩;have hrange:List.range ops.size=0::List.range' 1 n:=by rw[hn',List.range_eq_range',List.range'_succ]
 rw[hrange];unfold wpOpsS;have w1:∀(o:Oper) (y:Nat→Option Bool),o.guard=none→Region.wanted o y=true:=fun o y h=>by simp[Region.wanted,h]
 simp only[h0];rw[if_pos (w1 _ _ rfl)];have hrun:∀ρ,(execOp ρ ⟨some O,.call ⟨.builtin .recover,#[],#[]⟩,ty,pos,U,none⟩).run P w= .ok .recover w:=fun ρ=>by
  rfl
 rw[hrun];have key:∀v,aY c w (bGR mode) v→wpOpsS P ops (Exit.thenS (rest.wpS P (bodyPostS P fn f Y fun e L w'=>L=m1 mode u∧aNI sp c w d e w')) (bodyPostS P fn f Y fun e L w'=>L=m1 mode u∧aNI sp c w d e w')) (List.range' 1 n) (({ tmps:=I++Array.replicate (fn.ntmps-I.size) undef,defers:=[] }:Act).put (some O) v) ({ f with mode:=m1 mode u }::Y) w:=fun v hv=>by
  refine aIY ?_ _ _ _ ?_
  ·rintro⟨a',w',L,_,e⟩;obtain⟨c',e⟩:=e;grind
  ·have Z:Sim E (GM sp c d) w fn.ntmps [] c ((O,bGR mode)::vH (sp.av d) 0) (sp.hp d) (({ tmps:=I++Array.replicate (fn.ntmps-I.size) undef,defers:=[] }:Act).put (some O) v) w:=by
    have hlen:=q.len;have hnn:=hn d;simp at hlen;have hsz2:(I++Array.replicate (fn.ntmps-I.size) undef).size=fn.ntmps:=(by grind);have ht5:O<fn.ntmps:=by
     have h0':ops.toList[0]? = some ⟨some O,.call ⟨.builtin .recover,#[],#[]⟩,ty,pos,U,none⟩:=(by simp_all);have:=List.all_eq_true.1 J _ (List.mem_of_getElem? h0');simp_all[iU,Bool.and_eq_true]
    refine⟨q.good,q.glob,?_,by grind[Act.put],rfl⟩;refine aKg.put (a:={ tmps:=I++Array.replicate (fn.ntmps-I.size) undef,defers:=[] }) ?_ (by simp_all) hv;refine aYL _ I.toList 0 q.len q.val fun i v hv=>?_;have hlt:i<I.size:=by
     grind
    simp_all[Nat.zero_add,Array.getElem?_toList,Array.getElem?_append,Array.getElem?_eq_getElem]
   have:=aOT (P:=P) (ops:=ops.toList) (Q:=fun e a w'=>Exit.thenS (rest.wpS P (bodyPostS P fn f Y fun e L w'=>L=m1 mode u∧aNI sp c w d e w')) (bodyPostS P fn f Y fun e L w'=>L=m1 mode u∧aNI sp c w d e w') e a ({ f with mode:=m1 mode u }::Y) w') hE (List.all_eq_true.1 J) (fun env h c' a w' hk hs=>by
    refine wpS_of_wp (wp_mono (hk hok2 c' a w' hs) fun e a w' hq=>?_);cases e with
    | normal=>obtain⟨q1,v,q2,q3⟩:=hq; exact⟨q1,_,rfl,v,q2,rfl,q3⟩
    | ret=>obtain⟨q1,v,q2,q3⟩:=hq; exact⟨q1,_,rfl,v,q2,rfl,q3⟩
    | panic ch=>obtain⟨q1,q3⟩:=hq; exact⟨q1,_,rfl,rfl,q3⟩
    | outgrown=>exact⟨_,rfl,hq⟩
    | exit id=>exact hq.elim
    | goto l=>exact hq.elim) n 1 (by grind) _ _ c _ w (ht c w d (aYM q.len q.val) (bEb q.good) hp q.good.n) Z
   omega
 cases mode with
 | none =>
  have e:f.mode= .returning:=z;have e2:({ f with mode:=.returning }:Frame)=f:=by rw[← e]
  have:=key .nilIface (aY.ofV (by rfl));grind[m1,recoverD]
 | some p =>
  have e:f.mode= .panicking (aWE p.k u):=z;have:=key (.iface p.k u) (aY.ofV (by
   unfold dV;rw[if_neg (by simp[Ty.isAgg])];have hr:=hu p rfl;unfold dV at hr;split at hr
   ·rename_i ha;obtain⟨ds,e1,e2⟩:=hr;exact⟨u,ds.toList,rfl,fun _=>by omega,(fun h=>by simp_all),e2⟩
   ·rename_i ha;exact⟨u,[u],rfl,fun h=>absurd h ha,fun _=>rfl,hr⟩))
  grind[m1,recoverD,aWE]
end
end Go.Vc
namespace Go.Vc
open Go.RowKit
def ck{α:Type}(p:Prop)[Decidable p](k:Option α):Option α:=if p then k else none
theorem bG{α:Type}{p:Prop}[Decidable p]{k:Option α}{r:α}(h:ck p k=some r):p∧k=some r:=by
 grind[ck]
theorem bGS{α:Type}{p:Prop}[Decidable p]{k:Option α}(hp:p):ck p k=k:=if_pos hp
theorem pI{α:Type}{p:Prop}[Decidable p]{x y:α}{r:α}(hp:p)(h:(if p then x else y)=r):x=r:=by simp_all
theorem oF{α:Type}{p:Prop}[Decidable p]{x y:α}{r:α}(hp:¬p)(h:(if p then x else y)=r):y=r:=by simp_all
abbrev I64(x:Int):Prop:= -9223372036854775808≤x∧x≤9223372036854775807
abbrev I32(x:Int):Prop:= -2147483648≤x∧x≤2147483647
section
variable {D E R:Type} {step:D→Option (D⊕E)}
def iter(step:D→Option (D⊕E)):Nat→D→Option E
 | 0,_=>none
 | n+1,d=>match step d with
  | none=>none
  | some (.inl f)=>iter step n f
  | some (.inr e)=>some e
theorem aQQ:∀ {n:Nat} {d:D} {e:E},iter step n d=some e→iter step (n+1) d=some e
 | 0,d,e,h=>by cases h
 | n+1,d,e,h=>by
  unfold iter at h ⊢;cases hs:step d with
  | none=>simp_all
  | some s =>
   rw[hs] at h;cases s with
   | inl g=>exact aQQ (n:=n) h
   | inr f=>exact h
theorem bEf{n m:Nat}(hm:n≤m){d:D}{e:E}(h:iter step n d=some e):iter step m d=some e:=by
 induction hm with
 | refl=>exact h
 | step _ f=>exact aQQ f
theorem aXS{n m:Nat}{d:D}{e f:E}(h:iter step n d=some e)(h':iter step m d=some f):e=f:=by
 have g:=bEf (Nat.le_max_left n m) h;grind[bEf,Nat.le_max_right,Option.some.inj]
open Classical in
noncomputable def aXT(step:D→Option (D⊕E))(d:D):Option E:=if h:∃e,∃n,iter step n d=some e then some (Classical.choose h) else none
theorem aQR{d:D}{e:E}:aXT step d=some e↔ ∃n,iter step n d=some e:=by
 unfold aXT;constructor
 ·intro h;split at h
  all_goals grind
 ·rintro⟨n,h⟩;have f:∃e,∃n,iter step n d=some e:=⟨e,n,h⟩;rw[dif_pos f];grind[Classical.choose_spec,aXS]
theorem aNL{n:Nat}{d:D}{e:E}(h:iter step n d=some e):aXT step d=some e:=aQR.2 ⟨n,h⟩
theorem aH0{p:Nat→Prop}(h:∃n,p n):∃n,p n∧ ∀m,p m→n≤m:=by
 classical
 obtain⟨n,g⟩:=h
 induction n using Nat.strongRecOn with
 | _ n f =>
  grind
open Classical in
noncomputable def aIZ(step:D→Option (D⊕E))(d:D):Nat:=if h:∃n,(iter step n d).isSome=true then Classical.choose (aH0 h) else 0
theorem bEg{d:D}{e:E}(h:aXT step d=some e):iter step (aIZ step d) d=some e∧ ∀m f,iter step m d=some f→aIZ step d≤m:=by
 obtain⟨n,q⟩:=aQR.1 h;have g:∃n,(iter step n d).isSome=true:=⟨n,by grind⟩;have hs:=Classical.choose_spec (aH0 g);have e1:aIZ step d=Classical.choose (aH0 g):=by unfold aIZ; simp_all
 rw[← e1] at hs;refine⟨?_,fun m f hm=>hs.2 m (by grind)⟩;cases hi:iter step (aIZ step d) d with
 | none=>simp_all
 | some f=>rw[aXS hi q]
abbrev Md:=Option Nat
noncomputable def dK(F:Md)(step:D→Option (D⊕E))(d:D):Option E:=match F with
 | none=>aXT step d
 | some n=>iter step n d
noncomputable abbrev aGX(step:D→Option (D⊕E))(d:D):Option E:=dK none step d
theorem aXU{d:D}{e:E}:aGX step d=some e↔ ∃n,iter step n d=some e:=aQR
theorem aDx{n:Nat}{d:D}{e:E}(h:iter step n d=some e):aGX step d=some e:=aNL h
theorem bJD{F:Md}{d:D}{e:E}(h:dK F step d=some e):aXT step d=some e:=by
 cases F with
 | none=>exact h
 | some n=>exact aNL h
def aCt(A:D→Prop)(B:E→Prop):D⊕E→Prop
 | .inl d=>A d
 | .inr e=>B e
theorem aUY{k:E→Option R}{r:R}{F:Md}{d:D}(hd:(dK F step d).bind k=some r):∃s,step d=some s∧aCt (fun f=>(dK F step f).bind k=some r∧aIZ step f<aIZ step d) (fun e=>k e=some r) s:=by
 cases g:dK F step d with
 | none=>simp_all
 | some e =>
  rw[g] at hd;have I:k e=some r:=hd;obtain⟨hi,z⟩:=bEg (bJD g);cases q:aIZ step d with
  | zero=>rw[q] at hi; cases hi
  | succ n =>
   rw[q,iter] at hi;split at hi
   ·cases hi
   ·rename_i f hs;have L:=aNL hi;have J:dK F step f=some e:=by
     cases F with
     | none=>exact L
     | some m =>
      have hm:iter step m d=some e:=g;cases m with
      | zero=>cases hm
      | succ m =>
       rw[iter,hs] at hm;exact aQQ hm
    refine⟨_,hs,?_⟩;refine⟨by simp_all,?_⟩;grind[bEg,aIZ,step]
   ·rename_i N hs;refine⟨_,hs,?_⟩;rw[Option.some.inj hi]; exact I
theorem aCu{I:D→Prop}(q:D→Nat)(f:D→E)(h:∀d,I d→(∃d',step d=some (.inl d')∧I d'∧q d'<q d∧f d'=f d)∨step d=some (.inr (f d))):∀d,I d→aGX step d=some (f d):=by
 have g:∀n d,q d≤n→I d→ ∃m,iter step m d=some (f d):=by
  intro n
  induction n with
  | zero =>
   intro d L hi;rcases h d hi with⟨d',_,_,z,_⟩|hs
   ·omega
   ·exact⟨1,by rw[iter,hs]⟩
  | succ n N =>
   intro d L hi;rcases h d hi with⟨d',hs,J,z,O⟩|hs
   ·obtain⟨m,hm⟩:=N d' (by omega) J;exact⟨m+1,by grind[iter]⟩
   ·exact⟨1,by rw[iter,hs]⟩
 intro d hi;obtain⟨m,hm⟩:=g (q d) d (Nat.le_refl _) hi;exact aDx hm
theorem mF{I:D→Prop}(g:D→Nat)(Q:E→Prop)(h:∀d,I d→(∃d',step d=some (.inl d')∧I d'∧g d'<g d)∨ ∃e,step d=some (.inr e)∧Q e):∀d,I d→ ∃e,aGX step d=some e∧Q e:=by
 have f:∀n d,g d≤n→I d→ ∃m e,iter step m d=some e∧Q e:=by
  intro n
  induction n with
  | zero =>
   intro d J hi;rcases h d hi with⟨d',_,_,q⟩|⟨e,hs,hq⟩
   ·omega
   ·exact⟨1,e,by rw[iter,hs],hq⟩
  | succ n L =>
   intro d J hi;rcases h d hi with⟨d',hs,z,q⟩|⟨e,hs,hq⟩
   ·obtain⟨m,e,hm,hq⟩:=L d' (by omega) z;exact⟨m+1,e,by grind[iter],hq⟩
   ·exact⟨1,e,by rw[iter,hs],hq⟩
 intro d hi;obtain⟨m,e,hm,hq⟩:=f (g d) d (Nat.le_refl _) hi;grind[aDx]
end
noncomputable def wQ(F:Md)(k:IntKind)(a b:Nat):Nat:=match F with
 | none=>aKh k a b
 | some _=>(a+(lR k-b))%lR k
noncomputable def mulM(F:Md)(k:IntKind)(a b:Nat):Nat:=match F with
 | none=>aIJ k a b
 | some _=>(a*b)%lR k
noncomputable def aMx(F:Md)(k:IntKind)(a:Nat):Nat:=match F with
 | none=>aZ9 k a
 | some _=>(0+(lR k-a))%lR k
theorem bEh{F:Md}{k:IntKind}{a b:Nat}:wQ F k a b=aKh k a b:=by
 cases F with
 | none=>rfl
 | some _=>exact(aMa k a b).symm
theorem bJE{F:Md}{k:IntKind}{a b:Nat}:mulM F k a b=aIJ k a b:=by
 cases F with
 | none=>rfl
 | some _=>exact(aYo k a b).symm
theorem bJF{F:Md}{k:IntKind}{a:Nat}:aMx F k a=aZ9 k a:=by
 cases F with
 | none=>rfl
 | some _=>exact(aYp k a).symm
theorem bJ(F:Md){k:IntKind}{a b:Nat}:aKh k a b=wQ F k a b:=bEh.symm
theorem bK(F:Md){k:IntKind}{a b:Nat}:aIJ k a b=mulM F k a b:=bJE.symm
theorem bL(F:Md){k:IntKind}{a:Nat}:aZ9 k a=aMx F k a:=bJF.symm
def zP(h:List Obj):List (Nat⊕Obj)→List Obj
 | []=>[]
 | .inl i::r=>h.getD i .dead::zP h r
 | .inr o::r=>o::zP h r
section
variable {F:Fr} {Q:Exit→Act→World→Prop} {env:St} {h:List Obj}
theorem aBU{x y:Code}{D:Type}(J:D→Prop)(keep:List Nat)(f:D→St)(g:D→List (Nat⊕Obj))
  (z:Tri F x (Exit.then (fun q w'=>∃d' c',J d'∧Sim F.E F.M F.w0 F.nt F.ds c' (aNH env keep (f d')) (zP h (g d')) q w') Q) env h)
  (hy:∀d,J d→Tri F y Q (aNH env keep (f d)) (zP h (g d))):Tri F (.seq x y) Q env h :=
 bAv J (fun d=>aNH env keep (f d)) (fun d=>zP h (g d)) z hy
theorem aH1{x:Code}{D E R:Type}{G:Md}{step:D→Option (D⊕E)}{k:E→Option R}{r:R}{d0:D}(keep:List Nat)(f:D→St)(g:D→List (Nat⊕Obj))
  (hd:(dK G step d0).bind k=some r) (I:h=zP h (g d0)) (q:xU h env (aNH env keep (f d0)))
  (round:∀d s,step d=some s→aCt (fun d'=>(dK G step d').bind k=some r∧aIZ step d'<aIZ step d) (fun e=>k e=some r) s→Tri F x (Exit.then (fun z w'=>∃d' c',((dK G step d').bind k=some r∧aIZ step d'<aIZ step d)∧Sim F.E F.M F.w0 F.nt F.ds c' (aNH env keep (f d')) (zP h (g d')) z w') Q) (aNH env keep (f d)) (zP h (g d))):Tri F (.loop x) Q env h :=
 bAu (fun d=>(dK G step d).bind k=some r) (aIZ step) (fun d=>aNH env keep (f d)) (fun d=>zP h (g d)) (aT d0 hd I q) fun d hi=>by
  obtain⟨s,J,L⟩:=aUY hi;grind
end
theorem aXV{F:Fr}{Q:Exit→Act→World→Prop}{env:St}{h:List Obj}{id:Nat}{ops:Array Oper}{z q t4:Nat}{O Y Z ty2:TypeId}{J N:String}{L I:Array Edge}{ct:Ty}{xs:List ct.den}(hF:vG F)
  (hops:ops= #[⟨some q,.move (.tmp z),Z,J,L,none⟩,⟨some t4,.binOp .eql O (.tmp q) (.const (.slice none 0 0)) Y,ty2,N,I,none⟩])
  (hT:F.E.T O=some (.sl ct)) (hv:look env z= .val (.sl ct) xs)
  (hq:∀b:Bool,(b=true→xs= [])→At F (Q .normal) ((t4,.val .bool b)::(q,.val (.sl ct) xs)::env) h):Tri F (.region id ops false) Q env h:=fun hok c a w hs=>by
 simp only[jI,Bool.and_eq_true] at hok;obtain⟨⟨hok1,_⟩,_⟩:=hok;subst hops;have U:=List.all_eq_true.1 hok1;have hk1:=U ⟨some q,.move (.tmp z),Z,J,L,none⟩ (by simp);have hk2:=U ⟨some t4,.binOp .eql O (.tmp q) (.const (.slice none 0 0)) Y,ty2,N,I,none⟩ (by simp);have h0:=hs.env z;rw[hv] at h0;obtain⟨⟨f,len,g,e1,e2⟩,_,e3⟩:=h0;have hval:a.tmps.getD z Go.undef= .slice f len g:=by
  have e3:=e3 rfl;simp_all[undef,Value.cells]
 have h0:=hs.env z;rw[hv] at h0;have s1:=hs.after hk1 (v:=a.tmps.getD z Go.undef) (av:=.val (.sl ct) xs) ⟨.refl _ _,hs.good,h0⟩;have ht3:q<a.tmps.size:=by
  simp only[iU,Bool.and_eq_true] at hk1;rw[hs.size]; simp_all
 have s2:=s1.after hk2 (v:=.bool f.isNone) (av:=.val .bool f.isNone) ⟨.refl _ _,s1.good,aFP _⟩;refine wp_region ?_;have run1:(execOp a.eval ⟨some q,.move (.tmp z),Z,J,L,none⟩).run F.P w= .ok (.value (a.tmps.getD z Go.undef)) w:=by
  rfl
 have hget:(a.put (some q) (a.tmps.getD z Go.undef)).eval (.tmp q)= .slice f len g:=by
  simp_all[Act.eval,Act.put]
 obtain⟨_,hd,_⟩:=gX (hF.env.T _ _ hT);have run2:(execOp (a.put (some q) (a.tmps.getD z Go.undef)).eval ⟨some t4,.binOp .eql O (.tmp q) (.const (.slice none 0 0)) Y,ty2,N,I,none⟩).run F.P w= .ok (.value (.bool f.isNone)) w:=by
  have hc:(a.put (some q) (a.tmps.getD z Go.undef)).eval (.const (.slice none 0 0))= .slice none 0 0:=rfl;have hq:∀d,(Op.equalIn (d+1) O (.slice f len g) (.slice none 0 0)).run F.P w= .ok f.isNone w:=fun d=>by
   unfold Op.equalIn;rw[Sem.run_bind,bE hd];cases f<;>rfl
  have hb:(binOp .eql O (.slice f len g) (.slice none 0 0)).run F.P w= .ok (.bool f.isNone) w:=by
   have e:binOp .eql O (.slice f len g) (.slice none 0 0)=(do pure (.bool (← Op.equal O (.slice f len g) (.slice none 0 0)))):=(by rfl);rw[e,Sem.run_bind,Op.equal,show Op.maxDepth=(Op.maxDepth-1)+1 from rfl,hq];rfl
  simp_all[eqGuard,undef,execOp]
 have w1:∀(o:Oper) (y:Nat→Option Bool),o.guard=none→Region.wanted o y=true:=fun o y h=>by simp[Region.wanted,h]
 show wpOps F.P _ _ [0,1] a w;unfold wpOps;simp only[List.getElem?_toArray,List.getElem?_cons_zero];rw[if_pos (w1 _ _ rfl)];refine .inl ?_;unfold Oper.wp;rw[run1,Oper.upon_value];unfold wpOps;simp only[List.getElem?_toArray,List.getElem?_cons_succ,List.getElem?_cons_zero];rw[if_pos (w1 _ _ rfl)];refine .inl ?_;unfold Oper.wp;rw[run2,Oper.upon_value];refine hq f.isNone (fun hn=>?_) c _ w s2;obtain⟨_,_,_,e4⟩:=e2;simp_all
theorem pM{F:Fr}{fn:Func}{S:Nat→Prop}{r:RK}{y:r.ty.den}{env:St}{h:List Obj}(hF:vG F)(l:List ResultVar)(q:F.M=top S)(f:F.ds= [])(z:fn.results=l.toArray)(hy:(aS F.E.T h env l).1∧nD h r y (aS F.E.T h env l).2):At F (post F.P fn S F.w0 r y .ret) env h:=fun c a w hs=>by
 obtain⟨g,N,I,O⟩:=aIX (P:=F.P) hF.env.T hs.good hs.env z hy.1;refine⟨hs.defers.trans f,aMQ g,N,aMQ g,rfl,by have:=hs.good.keeps; simp_all,?_⟩;exact bGQ (by rw[q]) (by rw[q]) hs.good I (fun i L J=>O i L J) hy.2
def aUZ(i:Nat)(t:Ty)(x:t.den):AV→AV
 | .ptr j []=>if j=i then .roa t x else .ptr j []
 | .ptr j p=>if j=i then .junk else .ptr j p
 | .agg _=>.junk
 | .tup _=>.junk
 | .fn f g l2=>if g.contains i||l2.contains i then .junk else .fn f g l2
 | v=>v
theorem Good.shut{M:Perm}{w0:World}{c:Ctx}{h:List Obj}{w:World}(q:Good M w0 c h w){i n:Nat}{t:Ty}{x:t.den}(O:h[i]? = some (.box n (.val t x))) :
  ∃c',eK c w c' w∧c'.n=c.n∧Good M w0 c' (h.set i .dead) w∧ ∀v,aY c w (.ptr i []) v→aY c' w (.roa t x) v:=by
 have hob:=q.objs i _ O;have L:c.le (c.more (aU (c.hd i))):=⟨fun b hb=>.inl hb,Nat.le_refl _,fun _ _=>rfl⟩;have hl:eK c w (c.more (aU (c.hd i))) w:=⟨L,.refl _ _⟩;have hil:i<h.length:=yP O;have hcase:∀j f,(h.set i .dead)[j]? = some f→(j≠i∧h[j]? = some f)∨(j=i∧f= .dead):=fun j f g=>by
  grind
 refine⟨_,hl,rfl,⟨by simp[Ctx.more,q.n],q.keeps,fun b hb=>?_,fun b hb Z=>?_,fun j f g=>?_,fun j f b g hb=>?_,fun j k f ok b g hk N U=>?_,aCm q.root L⟩,fun v hv=>?_⟩
 ·rcases hb with hb|hb
  ·exact q.sfin b hb
  ·exact(q.own i _ b O hb).2.1
 ·rcases hb with hb|hb
  ·exact q.src b hb Z
  ·rcases (q.own i _ b O hb).1 with I|I
   all_goals grind
 ·rcases hcase j f g with⟨J,g⟩|⟨rfl,rfl⟩
  ·exact(q.objs j f g).keep hl (by rw[q.n]; grind) rfl (fun _ _=>rfl)
  ·trivial
 ·rcases hcase j f g with⟨J,g⟩|⟨rfl,rfl⟩
  ·obtain⟨I,h2,h3⟩:=q.own j f b g (by cases f<;>exact hb);refine⟨I,h2,fun Y=>?_⟩;rcases Y with Y|Y
   ·grind
   ·exact J (q.sep j i f _ b g O (by cases f<;>exact hb) Y)
  ·cases hb
 ·rcases hcase j f g with⟨hnj,g⟩|⟨rfl,rfl⟩
  ·rcases hcase k ok hk with⟨hnk,hk⟩|⟨rfl,rfl⟩
   ·exact q.sep j k f ok b g hk (by cases f<;>exact N) (by cases ok<;>exact U)
   ·cases U
  ·cases N
 ·obtain⟨b,cells,e,I,h2,h3,h4⟩:=hob;obtain⟨⟨_,b',z,e1⟩,_,e3⟩:=hv;have e3:=e3 rfl;rw[I] at z;simp only[aU,Option.some.injEq] at z;subst z;have ev:v= .pointer (some ⟨b,0,none⟩):=by
   simp_all[Value.cells,pT]
  rw[ev];have h4:bB w c.S t x cells.toList:=h4;refine aGS (ds:=cells.toList) (.inr (by rw[I]; rfl)) (bB.keep (fun b hb=>.inl hb) (.refl _ _) _ _ _ h4) fun j u g=>?_;simp_all[Nat.zero_add,World.cell?]
theorem bJG{F:Fr}{K:Act→World→Prop}{env:St}{h:List Obj}(i:Nat){n:Nat}{t:Ty}{x:t.den}(q:h[i]? = some (.box n (.val t x)))(I:At F K (env.map fun p=>(p.1,aUZ i t x p.2)) (h.set i .dead)):At F K env h:=fun c a w hs=>by
 obtain⟨c',g,L,J,hv⟩:=hs.good.shut q;refine I c' a w ⟨J,hs.glob.mono g.le.S g.same,fun s=>?_,hs.size,hs.defers⟩;rw[aK4 (aUZ i t x) rfl];have h0:=hs.env s;generalize look env s=v at h0;generalize a.tmps.getD s Go.undef=u at h0;cases v with
 | ptr j p =>
  cases p with
  | nil =>
   simp only[aUZ];split
   ·simp_all
   ·exact g.val h0
  | cons _ _ =>
   simp only[aUZ];split
   ·trivial
   ·exact g.val h0
 | fn f N l2 =>
  simp only[aUZ];split
  ·trivial
  ·exact g.val h0
 | agg z=>trivial
 | tup z=>trivial
 | _=>exact g.val h0
theorem aEe{F:Fr}{x:Code}{Q:Exit→Act→World→Prop}{env:St}{h:List Obj}(i:Nat){n:Nat}{t:Ty}{y:t.den}(g:h[i]? = some (.box n (.val t y)))(q:Tri F x Q (env.map fun p=>(p.1,aUZ i t y p.2)) (h.set i .dead)):Tri F x Q env h:=fun f=>bJG i g (q f)
def mSpec(a:Ty)(r:RK)(m:a.den→Option r.ty.den):aF:=⟨a,r,fun x=>(m x).isSome=true,fun x=>(m x).getD r.ty.zero⟩
section
variable {P:Program} {E:Env}
theorem aFK{f:FuncId}{fn:Func}{g:Code}{a:Ty}{r:RK}{m:a.den→Option r.ty.den}(J:jC P E)(z:P.funcs[f]? = some fn)(hb:fn.body=some g)(q:jI fn.ntmps g=true)(I:aSb a≤fn.ntmps)
  (ht:∀(w0:World) (S:Nat→Prop) (x:a.den) (y:r.ty.den),a.wf x→m x=some y→Tri (fr P E S w0 fn.ntmps) g (post P fn S w0 r y) (cA a x 0) []):FOK P E.G f (mSpec a r m) :=
 bCA J z hb q I fun w0 S x L hp=>by
  grind[Option.isSome_iff_exists,mSpec]
theorem jY{G:Nat→AV}{f:FuncId}{a:Ty}{r:RK}{m:a.den→Option r.ty.den}{pre:a.den→Prop}{fn:a.den→r.ty.den}(h:FOK P G f (mSpec a r m))(hc:∀x,a.wf x→pre x→m x=some (fn x)):FOK P G f ⟨a,r,pre,fn⟩:=fun w S z x I q g hp=>by
 have hm:=hc x (aIT _ _ _ g) hp;have:=h w S z x I q g (by show (m x).isSome=true; grind);simp_all[mSpec]
end
attribute [go_sem] zP aUZ
end Go.Vc
namespace Go.Vc
open Go.RowKit
def bGT:List (FuncId×Hit)→FuncId→List AV→List Obj→Option Hit
 | [],_,_,_=>none
 | (k,t)::r,f,g,h=>if k=f then some t else bGT r f g h
structure aQS(P:Program)(G:Nat→AV)(l:List (FuncId×Hit)):Prop where
 ok:∀p∈l,GOK P G p.1 p.2.sp∧fnB P p.1=true
theorem aQS.nil{P:Program}{G:Nat→AV}:aQS P G []:=⟨fun p hp=>by cases hp⟩
theorem aQS.cons{P:Program}{G:Nat→AV}{l:List (FuncId×Hit)}{f:FuncId}{t:Hit}(h:GOK P G f t.sp)(q:fnB P f=true)(g:aQS P G l):aQS P G ((f,t)::l):=by
 refine⟨fun p hp=>?_⟩;rcases List.mem_cons.1 hp with rfl|hp
 ·simp_all
 ·exact g.ok p hp
theorem aU0:∀ {l:List (FuncId×Hit)} {f:FuncId} {vs:List AV} {h:List Obj} {t:Hit},bGT l f vs h=some t→(f,t)∈l
 | (k,s)::r,f,vs,h,t,e=>by
  simp only[bGT] at e;split at e
  ·simp_all
  ·exact List.mem_cons_of_mem _ (aU0 e)
theorem xA{P:Program}{f:FuncId}(h:fnB P f=true):∃fn,P.funcs[f]? = some fn∧fn.name ≠ "runtime.NumGoroutine" ∧ fn.body.isSome=true:=by
 unfold fnB at h;grind
theorem eX{P:Program}{G:Nat→AV}{l:List (FuncId×Hit)}(h:aQS P G l):aF2 P G (bGT l) :=
 ⟨fun f g q t e=>(h.ok _ (aU0 e)).1,fun f g q t e=>xA (h.ok _ (aU0 e)).2⟩
theorem bind_some{α β:Type}{x:Option α}{k:α→Option β}{r:β}(h:x.bind k=some r):∃e,x=some e∧k e=some r:=by
 cases x with
 | none=>cases h
 | some e=>simp_all
def rpV:AV→AV
 | .val (.rp t) x=>.roa t x
 | v=>v
theorem bLV{c:Ctx}{w:World}{v:AV}{x:Value}(hv:aY c w v x):aY c w (rpV v) x:=by
 cases v with
 | val t y =>
  cases t with
  | rp t =>
   obtain⟨⟨b,off,ds,e,hb,hd,hc⟩,_,f⟩:=hv;have f:=f rfl;have g:x= .pointer (some ⟨b,off,none⟩):=by
    simp_all[Value.cells]
   rw[g];exact aGS hb hd hc
  | _=>exact hv
 | _=>exact hv
section
variable {P:Program} {E:Env}
theorem bAN{f:FuncId}{fn:Func}{q:Code}{sp:fQ}(Y:jC P E)(L:P.funcs[f]? = some fn)(hb:fn.body=some q)(z:jI fn.ntmps q=true)(U:∀d,(sp.av d).length≤fn.ntmps)
  (ht:∀(c:Ctx) (w:World) (d:sp.D),AV.wfL (sp.av d)→Obj.wfL (sp.hp d)→sp.pre d→c.n=(sp.hp d).length→Tri ⟨P,E,GM sp c d,w,fn.ntmps,[]⟩ q (bodyPost P fn (aNI sp c w d)) (vH ((sp.av d).map rpV) 0) (sp.hp d)):GOK P E.G f sp:=by
 intro c w d I hp g;refine calls_of_wp L hb ?_;refine ht c w d (aYM g.len g.val) (bEb g.good) hp g.good.n z c _ w ⟨g.good,g.glob,?_,?_,rfl⟩
 ·refine aYL _ I.toList 0 (by rw[List.length_map]; exact g.len) (fun i O N=>?_) fun i v hv=>?_
  ·rw[List.getElem_map]; exact bLV (g.val i (by simp_all) N)
  ·have J:i<I.size:=by
    grind
   simp_all[Nat.zero_add,Array.getElem?_toList,Array.getElem?_append,Array.getElem?_eq_getElem]
 ·have O:=g.len;simp_all
end
section
variable {P:Program} {E:Env} {M:Perm} {w0:World} {nt:Nat} {ds:List Deferred} {h:List Obj} {env:St}
theorem bJH(hE:jC P E){sb:List Nat}{Δ:FuncId→List AV→List Obj→Option Hit}(hΔ:aF2 P E.G Δ){ops:List Oper}{Q:Exit→Act→World→Prop}(I:∀o∈ops,iU nt o=true){K:St→List Obj→Prop}{Kp:Pan→St→List Obj→Prop}
  (U:∀p env h c a w u,Kp p env h→Sim E M w0 nt ds c env h a w→dV w c.S p.t p.x u→Q (.panic (aWE p.k u)) a w) {i:Nat} (J:i<ops.length) {env:St} {h:List Obj} {c:Ctx} {a:Act} {w:World} (hs:aCs E Δ sb ops (ops.drop i) env h K Kp) (f:Sim E M w0 nt ds c env h a w)
  {N:Act→World→Prop} (hn:∀q h' c' a' w',aCs E Δ sb ops (ops.drop (i+1)) q h' K Kp→Sim E M w0 nt ds c' q h' a' w'→N a' w'):wpOp P ops.toArray Q i N a w:=by
 rw[List.drop_eq_getElem_cons J] at hs;have g:=I ops[i] (List.getElem_mem J);have O:∀(v:Value) (av:AV),aY c w av v→Sim E M w0 nt ds c (zO ops[i].dst av env) h (a.put ops[i].dst v) w:=fun v av hv=>f.after g ⟨.refl _ _,f.good,hv⟩;unfold wpOp;simp only[List.getElem?_toArray,List.getElem?_eq_getElem J];have hrun:aK5 E Δ sb env h ops[i] (fun v h'=>aCs E Δ sb ops (ops.drop (i+1)) (zO ops[i].dst v env) h' K Kp) (fun p h'=>Kp p env h')→Region.wanted ops[i] (yielded ops.toArray a.tmps)=true→(if Region.wanted ops[i] (yielded ops.toArray a.tmps)=true then Oper.wp P ops[i] a w N Q∨(ops[i].asks P a w∧LetsOut Q) else N (a.put ops[i].dst Go.undef) w):=fun h1 hw=>by
  rw[if_pos hw]
  left
  refine aUU hE hΔ f g h1 (fun v h' c' u w' Y ha=>hn _ _ c' _ w' Y (f.after g ha)) (fun p h' c' u w' Y hl hg hr=>U p env h' c' a w' u Y (f.step hl hg) hr)
 have hskip:aCs E Δ sb ops (ops.drop (i+1)) (zO ops[i].dst .undef env) h K Kp→Region.wanted ops[i] (yielded ops.toArray a.tmps)=false→(if Region.wanted ops[i] (yielded ops.toArray a.tmps)=true then Oper.wp P ops[i] a w N Q∨(ops[i].asks P a w∧LetsOut Q) else N (a.put ops[i].dst Go.undef) w):=fun h2 hw=>by
  rw[if_neg (by simp_all)];exact hn _ _ c _ w h2 (O _ _ rfl)
 simp only[aCs] at hs;cases Z:ops[i].guard with
 | none =>
  grind[Region.wanted]
 | some jp =>
  obtain⟨j,L⟩:=jp;rw[Z] at hs;simp only at hs;cases z:aK3 ops j with
  | none=>simp_all
  | some dj =>
   rw[z] at hs;simp only at hs;have hv:=f.env dj;split at hs
   ·rename_i b hb;rw[hb] at hv;have hb':=aHT hv;have hy:=aBT I f.size z hb';simp only[yb] at hy;by_cases e:b=L
    ·grind[Region.wanted]
    ·have e':b= !L:=(by cases b<;>cases L<;>simp_all);grind[Region.wanted]
   ·rename_i hb;rw[hb] at hv;have hy:=aBT I f.size z (v:=Go.undef) hv;grind[Region.wanted,undef,yb]
   simp_all
theorem aXW(hE:jC P E){sb:List Nat}{Δ:FuncId→List AV→List Obj→Option Hit}(N:aF2 P E.G Δ){ops:List Oper}{Q:Exit→Act→World→Prop}(J:∀o∈ops,iU nt o=true){K:St→List Obj→Prop}{Kp:Pan→St→List Obj→Prop}(hK:∀env h c a w,K env h→Sim E M w0 nt ds c env h a w→Q .normal a w)
  (z:∀p env h c a w u,Kp p env h→Sim E M w0 nt ds c env h a w→dV w c.S p.t p.x u→Q (.panic (aWE p.k u)) a w) {n:Nat} (ht:aSd n ops=true) :
  ∀(m i:Nat),i+m=ops.length→n≤i→ ∀(listed:Array Bool),listed.size=ops.length→(∀k,k<ops.length→(listed.getD k false=true↔k<i))→ ∀(env:St) (h:List Obj) (c:Ctx) (a:Act) (w:World),aCs E Δ sb ops (ops.drop i) env h K Kp→Sim E M w0 nt ds c env h a w→wpAny P .any ops.toArray Q m listed a w
 | 0,i,hi,hni,listed,Z,hl,env,h,c,a,w,hs,f=>by
  rw[List.drop_eq_nil_of_le (by omega)] at hs;refine⟨?_,hK env h c a w hs f⟩;rw[List.eq_nil_iff_forall_not_mem];grind[mem_ready,lZ.get_lt']
 | m+1,i,hi,hni,listed,Z,hl,env,h,c,a,w,hs,f=>by
  have q:i<ops.length:=by omega
  have hio:ops[i]? = some ops[i]:=List.getElem?_eq_getElem q;refine⟨fun hr=>?_,fun j hj=>?_⟩
  ·exfalso;have hmem:i∈Region.ready .any ops.toArray listed:=by
    grind[mem_ready,lZ]
   simp_all
  ·obtain⟨h1,o,ho,L⟩:=mem_ready.1 hj;have ho:ops[j]? = some o:=(by simp_all);have hjl:=lZ.get_lt' ho;have hji:j=i:=by
    rcases Nat.lt_trichotomy j i with U|heq|hgt
    ·grind
    ·exact heq
    ·have:=(lZ ht ho).2 (by omega) (fun k=>k<ops.length→listed.getD k false=true) (fun k o' I hk e Y hb=>fun U=>by
      have hkl:=lZ.get_lt' I;have h3:=(lZ ht I).1 e Y hb;grind) (fun e Y hb _=>L e Y hb) i hgt q
     simp_all
   subst hji;refine bJH hE N J z q hs f fun O h' c' a' w' hs' g=>?_;refine aXW hE N J hK z ht m (j+1) (by omega) (by omega) (listed.setIfInBounds j true) (by grind) (fun k hk=>?_) O h' c' a' w' hs' g;by_cases e:j=k
   ·simp_all
   ·rw[getD_set_ne false e,hl k hk];omega
def aF3(ops:List Oper)(done:List Nat):List Nat:=(List.range ops.length).filter fun i=> !done.contains i&&(match ops[i]? with
 | some o=>o.after.toList.all fun e=> !Region.binds .any e||done.contains e.on
 | none=>false)
def anyS(E:Env)(ops:List Oper)(K:St→List Obj→Prop):Nat→List Nat→St→List Obj→Prop
 | 0,_,env,h=>K env h
 | n+1,done,env,h=>∀i,i∈aF3 ops done→match ops[i]? with
  | some o=>o.guard=none∧(match aAO E env h o with
   | (p,v,h')=>p∧anyS E ops K n (i::done) (zO o.dst v env) h')
  | none=>False
def bAO(ops:List Oper):Bool:=ops.zipIdx.all fun p=>p.1.after.toList.all fun e=> !Region.binds .any e||decide (e.on<p.2)
theorem aI0:∀ {l m:List Nat},l.Nodup→(∀x∈l,x∈m)→l.length≤m.length∧(l.length=m.length→ ∀x∈m,x∈l)
 | [],m,_,_=>⟨by simp,fun h x L=>by
  grind⟩
 | a::l,m,J,hs=>by
  have z:a∈m:=hs a (by simp);have f:=List.nodup_cons.1 J;have I:=List.length_erase_of_mem z;have g:0<m.length:=List.length_pos_of_mem z;have q:=aI0 (l:=l) (m:=m.erase a) f.2 (fun x L=>by
   grind)
  grind
theorem bEi(hE:jC P E){ops:List Oper}{Q:Exit→Act→World→Prop}(U:∀o∈ops,iU nt o=true){K:St→List Obj→Prop}(hK:∀env h c a w,K env h→Sim E M w0 nt ds c env h a w→Q .normal a w)(hb:bAO ops=true) :
  ∀(n:Nat) (done:List Nat) (listed:Array Bool),listed.size=ops.length→(∀k,k<ops.length→(listed.getD k false=true↔k∈done))→done.length+n=ops.length→done.Nodup→(∀k∈done,k<ops.length)→ ∀(env:St) (h:List Obj) (c:Ctx) (a:Act) (w:World),anyS E ops K n done env h→Sim E M w0 nt ds c env h a w→wpAny P .any ops.toArray Q n listed a w
 | 0,done,listed,hsz,hl,hn,hd,N,env,h,c,a,w,hs,f=>by
  refine⟨?_,hK env h c a w hs f⟩;rw[List.eq_nil_iff_forall_not_mem];intro j L;obtain⟨h1,o,J,_⟩:=mem_ready.1 L;have J:ops[j]? = some o:=by simp_all
  have I:=lZ.get_lt' J;have hall:j∈done:=by
   exact(aI0 hd (m:=List.range ops.length) (fun k g=>List.mem_range.2 (N k g))).2 (by grind) j (List.mem_range.2 I)
  grind
 | n+1,done,listed,hsz,hl,hn,hd,N,env,h,c,a,w,hs,f=>by
  have hrd:∀j,j∈Region.ready .any ops.toArray listed→j∈aF3 ops done∧j∉done∧j<ops.length:=fun j L=>by
   obtain⟨h1,o,J,hall⟩:=mem_ready.1 L;have J:ops[j]? = some o:=(by simp_all);have I:=lZ.get_lt' J;have O:j<listed.size:=(by omega);have hnd:j∉done:=fun hm=>by
    grind
   refine⟨?_,hnd,I⟩;simp only[aF3,List.mem_filter,List.mem_range,J,Bool.and_eq_true,Bool.not_eq_true',List.contains_eq_mem,decide_eq_false_iff_not,List.all_eq_true,Bool.or_eq_true,decide_eq_true_eq];grind
  refine⟨fun hr=>?_,fun j L=>?_⟩
  ·exfalso;have z:∃k,(k<ops.length∧k∉done)∧ ∀j,j<k→ ¬(j<ops.length∧j∉done):=by
    have z:∃k,k<ops.length∧k∉done:=by
     apply Classical.byContradiction;intro hc;have Z:List.range ops.length ⊆ done:=fun k g=>Classical.byContradiction fun hk2=>hc ⟨k,List.mem_range.1 g,hk2⟩;have:=(aI0 (List.nodup_range (n:=ops.length)) (fun k g=>Z g)).1;grind
    obtain⟨n,h1,h2⟩:=aH0 z;grind
   obtain⟨k,⟨g,hkd⟩,hlow⟩:=z;have hmem:k∈Region.ready .any ops.toArray listed:=by
    rw[mem_ready];have O:k<listed.size:=(by omega);have hun:¬listed.getD k false=true:=fun h=>hkd ((hl k g).1 h);refine⟨by grind,ops[k],by simp[g],fun e he hbe=>?_⟩;have hbk:=List.all_eq_true.1 hb (ops[k],k) (by grind);grind
   simp_all
  ·obtain⟨r1,r2,r3⟩:=hrd j L;have hs:=hs j r1;have Y:ops[j]? = some ops[j]:=List.getElem?_eq_getElem r3;rw[Y] at hs;obtain⟨hg,hp,hrest⟩:=hs;have q:=U ops[j] (List.getElem_mem r3);have hw:Region.wanted ops[j] (yielded ops.toArray a.tmps)=true:=(by simp[Region.wanted,hg]);unfold wpOp;simp only[List.getElem?_toArray,Y];rw[if_pos hw]
   left
   refine(aMo hE f q hp).wp fun v w' c' ha=>?_;refine bEi hE U hK hb n (j::done) (listed.setIfInBounds j true) (by grind) (fun k g=>?_) (by grind) (List.nodup_cons.2 ⟨r2,hd⟩) (fun k g=>?_) _ _ c' _ w' hrest (f.after q ha)
   ·by_cases e:j=k
    ·simp_all
    ·rw[getD_set_ne false e,hl k g];grind
   grind
theorem aGY{F:Fr}{Q:Exit→Act→World→Prop}{env:St}{h:List Obj}(hF:vG F){id:Nat}{ops:Array Oper}(keep:List Nat)(f:St)(h':List Obj)(hb:bAO ops.toList=true)
  (hv:anyS F.E ops.toList (fun e o=>keep.map (fun t=>(t,look e t))=f∧o=h') ops.toList.length [] env h) (z:At F (Q .normal) f h'):Tri F (.region id ops true) Q env h:=fun q c a w hs=>by
 simp only[jI,Bool.and_eq_true,Bool.or_eq_true,Bool.not_eq_true'] at q;obtain⟨⟨L,O⟩,N⟩:=q;refine wp_region_any hF.mix ?_;have g:eK c w c { w with drawn:=w.drawn+1 }:=⟨.refl _,fun b hb=>rfl⟩;have J:Sim F.E F.M F.w0 F.nt F.ds c env h a { w with drawn:=w.drawn+1 } :=
  ⟨hs.good.step g rfl rfl ⟨rfl,rfl,rfl,Nat.le_refl _,fun _ _ _=>rfl⟩ (fun _ _ _ _ _=>rfl) hs.good.sfin (fun _ hb=>.inl hb),uB.mono (w:=w) (w':={ w with drawn:=w.drawn+1 }) (fun _ hb=>hb) g.same hs.glob,hs.env.keep g,hs.size,hs.defers⟩
 have:=bEi (Q:=Q) hF.env (List.all_eq_true.1 L) (K:=fun e o=>keep.map (fun t=>(t,look e t))=f∧o=h') (fun e o c a w I hs=>by
  obtain⟨rfl,rfl⟩:=I;exact z c a w (hs.keep keep)) hb ops.toList.length [] (Array.replicate ops.size false) (by simp) (fun k z=>by simp_all) (by simp) List.nodup_nil (fun k z=>by cases z) env h c a _ hv J
 omega
theorem bJI{F:Fr}{K:Exit→St→List Obj→Prop}{Q:Exit→Act→World→Prop}{env:St}{h:List Obj}(hF:vG F)(Z:∀e env h,K e env h→At F (Q e) env h){Δ:FuncId→List AV→List Obj→Option Hit}(L:aF2 F.P F.E.G Δ){id:Nat}{ops:Array Oper}(n:Nat)(z:(aYB (ops.toList.take n)&&aJM (ops.toList.take n)&&aSd (ops.toList.take n).length ops.toList)=true)(keep sb:List Nat)
  (hv:vcA F.E h env (ops.toList.take n) 0 [] (fun J=>aCs F.E Δ sb ops.toList (ops.toList.drop n) (qL F.E.T (gY (ops.toList.take n) 0) (oK J env) h).1 (qL F.E.T (gY (ops.toList.take n) 0) (oK J env) h).2 (fun env h=>K .normal (keep.map fun t=>(t,look env t)) h) (fun p env h=>AtP F Q p env h))):Tri F (.region id ops true) Q env h:=fun g c a w hs=>by
 simp only[jI,Bool.and_eq_true,Bool.or_eq_true,Bool.not_eq_true'] at g;obtain⟨⟨h1,h2⟩,h3⟩:=g;simp only[Bool.and_eq_true] at z;obtain⟨⟨t1,t2⟩,Y⟩:=z;have e:ops.toList.take n++ops.toList.drop n=ops.toList:=List.take_append_drop n ops.toList;have:=aXM (id:=id) (pre:=ops.toList.take n) (tail:=ops.toList.drop n) (Q:=Q) hF.env hF.mix (by grind) t2 t1 (by simp_all) hs (K':=fun env h=>aCs F.E Δ sb ops.toList (ops.toList.drop n) env h (fun env h=>K .normal (keep.map fun t=>(t,look env t)) h) (fun p env h=>AtP F Q p env h)) hv
  (fun env h c a w listed I N q f=>by
   rw[e] at I N ⊢;exact aXW (K:=fun env h=>K .normal (keep.map fun t=>(t,look env t)) h) (Kp:=fun p env h=>AtP F Q p env h) hF.env L (List.all_eq_true.1 h1) (fun env h c a w q hs=>Z _ _ _ q c a w (hs.keep keep)) (fun p env h c a w u q hs O=>q c a w u hs O) Y (ops.toList.drop n).length (ops.toList.take n).length (by grind) (Nat.le_refl _) listed I N env h c a w (by
    have U:ops.toList.drop (ops.toList.take n).length=ops.toList.drop n:=by
     simp_all
    rw[U]; exact q) f)
 simp_all
theorem aI1{f:FuncId}{fn:Func}{g:Code}{a:Ty}{r:RK}{m:a.den→Option r.ty.den}(J:jC P E)(z:P.funcs[f]? = some fn)(hb:fn.body=some g)(q:jI fn.ntmps g=true)(I:aSb a≤fn.ntmps)
  (ht:∀(w0:World) (S:Nat→Prop) (x:a.den) (y:r.ty.den),a.wf x→m x=some y→Tri (fr P E S w0 fn.ntmps) g (bEe P fn S w0 r y) (cA a x 0) []):FOK P E.G f (mSpec a r m) :=
 bJC J z hb q I fun w0 S x L hp=>by
  grind[Option.isSome_iff_exists,mSpec]
def bCH:AV→Bool
 | .val _ _=>true
 | .tup f=>f.all fun v=>match v with| .val _ _=>true|_=>false
 | _=>false
theorem bFo{c:Ctx}{w:World}{σ:List Nat}{v:AV}{x:Value}(hp:bCH v=true)(hv:aY c w v x):aY (c.ren σ) w v x:=by
 cases v with
 | val t y=>exact aTZ (σ:=σ) hv
 | tup f =>
  obtain⟨z,e,q,hi⟩:=hv;refine⟨z,e,q,fun i g I=>?_⟩;have hq:=List.all_eq_true.1 hp f[i] (List.getElem_mem g);have:=hi i g I;revert hq this;generalize f[i]=u;intro hq this;cases u<;>first|exact this|simp_all
 | _=>grind[bCH]
theorem lS{F:Fr}{fn:Func}{sp:fQ}{c0:Ctx}{d:sp.D}{env:St}{h h':List Obj}{v:AV}(hF:vG F)(l:List ResultVar)(σ:List Nat)(hM:F.M=GM sp c0 d)(hds:F.ds= [])(hr:fn.results=l.toArray)(Z:nodupB σ=true)(L:preB F.M.m σ=true)(q:sp.out d= .ret v h')(hh:(σ.map fun i=>dT σ (h.getD i .dead))=h')(U:(match v with| .tup J=>J.all bGO|_=>true)=true)(N:bCH v=true)(hy:(aS F.E.T h env l).1∧kF h v (aS F.E.T h env l).2) :
  At F (bodyPost F.P fn (aNI sp c0 F.w0 d) .ret) env h:=fun c a w hs=>by
 subst hh;obtain⟨I,q1,z,O⟩:=aIX (P:=F.P) hF.env.T hs.good hs.env hr hy.1;refine⟨hs.defers.trans hds,aMQ I,q1,c.ren σ,?_⟩;rw[q];refine⟨aMQ I,rfl,by rw[← hM]; exact hs.good.ren Z L,bFo N ?_⟩;have f:=hy.2;generalize (aS F.E.T h env l).2=rs at z O f;cases v with
 | tup J =>
  obtain⟨h1,h2⟩:=f;obtain⟨k1,k2⟩:=aYN hs.good h2 z O;refine⟨I,?_,k1,fun i Y p2=>?_⟩
  ·match I,z with
   | [],_=>rfl
   | [x],z=>simp_all
   | a::b::r,_=>rfl
  ·have g:=List.all_eq_true.1 U J[i] (List.getElem_mem Y);exact bEc (k2 i Y p2).1 (k2 i Y p2).2 (fun l e=>by rw[e] at g; cases g) (fun e=>by rw[e] at g; cases g)
 | _ =>
  match rs,f with
  | [u],f =>
   match I,z with
   | [x],_=>exact aTX hs.good f (O 0 (by simp) (by simp))
theorem iG{F:Fr}{fn:Func}{R:Ending→World→Prop}{env:St}{h:List Obj}(f:At F (bodyPost F.P fn R .ret) env h):At F (bodyPost F.P fn R .normal) env h:=f
end
attribute [go_sem] bGT rpV
end Go.Vc

