import Derived.Test.YtmhjkbdicaelbaaGreatDoorZL5
import Derived.Shelf.Strings.Builder1
import Derived.LaidMore
import Derived.LaidHandle
import Derived.MakeChecks
set_option linter.unusedVariables false
set_option linter.unusedSimpArgs false
namespace Go.Vc
open Go.RowKit
def pk(b:Bool)(i:Nat):AV:=bif b then .nilP else .ptr i []
theorem bLE{σ:List Nat}{b:Bool}{i:Nat}:lW σ (pk b i)=match posOf i σ with
 | some j=>pk b j
 | none=>bif b then .nilP else .junk:=by
 cases b
 ·rfl
 ·show lW σ .nilP=_;simp only[lW];cases posOf i σ<;>rfl
theorem bLF{f:List Nat}{b:Bool}{i:Nat}:aSf f (pk b i)=match f[i]? with
 | some j=>pk b j
 | none=>bif b then .nilP else .junk:=by
 cases b
 ·rfl
 ·show aSf f .nilP=_;simp only[aSf];cases f[i]? <;> rfl
theorem bHm{b:Bool}{i:Nat}:AV.solid1 (pk b i)=true:=by cases b<;>rfl
theorem bNA{b:Bool}{i:Nat}:AV.nc1 (pk b i)=1:=by cases b<;>rfl
section
variable {F:Fr} {K:Act→World→Prop} {env:St} {h:List Obj}
theorem bNB(i n:Nat)(e:TypeId)(ho:h[i]? = some (.box n (.agg [.nilP,.nilS])))(hk:At F K env (h.set i (.box n (.agg [pk true i,.own h.length]))++ [.row e (.u .u8) []])):At F K env h:=fun c a w hs=>by
 have e1:(c.push (.slice none 0 0)).hd c.n= .slice none 0 0:=by simp[Ctx.push]
 have q:i<h.length:=aA3 ho;obtain⟨g1,N⟩:=hs.good.push (.refl nothing w) (o:=.row e (.u .u8) []) (hv:=.slice none 0 0) (by
  show aBI _ _ _ _ _ _;rw[e1];exact⟨[],⟨by simp,.inl ⟨rfl,rfl⟩⟩,⟨rfl,[],rfl,rfl,fun i h=>by simp at h⟩⟩) (fun b hb=>by grind[dP,aW])
 have g:(h++ [Obj.row e (.u .u8) []])[i]? = some (.box n (.agg [.nilP,.nilS])):=by grind
 obtain⟨b,cells,L,q1,q2,O,J⟩:=g1.objs i _ g;have hcells:aN (c.push (.slice none 0 0)) w (.agg [pk true i,.own h.length]) cells.toList:=by
  simp only[aN] at J ⊢;obtain⟨c1,c2,hc,Y,c3,U,z,Z,h3⟩:=J;refine⟨c1,c2,hc,Y,c3,U,z,?_,h3⟩;simp only[aN] at Z ⊢;rw[← hs.good.n];exact⟨Nat.lt_succ_self _,by grind,by rw[e1]; trivial⟩
 have I:dP (c.push (.slice none 0 0)) i (.box n (.agg [.nilP,.nilS])) b:=by simp[dP,q1,aW]
 have f:=g1.modify (o':=.box n (.agg [pk true i,.own h.length])) g I (w':=w) rfl rfl rfl rfl (fun _ _=>rfl) ⟨b,cells,L,q1,q2,O,hcells⟩ (fun b' W=>by
  grind[dP,aW,Option.some.injEq])
 rw[List.set_append_left _ _ q] at f;exact hk _ a w ⟨f.1,hs.glob.mono (fun _ h=>h) (.refl _ _),fun t=>N.val (hs.env t),hs.size,hs.defers⟩
end
attribute [go_sem ↓] bLE bLF bHm bNA
end Go.Vc
namespace Go.Proofs
open Go Go.Shelf
section
variable {P:Program} {ρ:Ren}
theorem aMh(w:World)(r:Option Nat):w.grownBy w.drew r:=⟨rfl,rfl,rfl,Nat.le_refl _,fun _ _ _=>rfl⟩
theorem aZy(w:World)(g n:Nat):w.grownBy (w.drew.freeze ⟨g,0,none⟩ n) (some g):=by
 unfold World.freeze;split
 ·exact aMh w _
 ·refine⟨rfl,rfl,rfl,by simp,fun k hk f=>?_⟩;show (w.drew.heap.modify g _)[k]? = _;rw[Array.getElem?_modify,if_neg (fun e=>f (by rw[e]))];rfl
theorem bEi(w:World)(o:Obj)(r:Option Nat):w.grownBy (w.drew.alloc o) r:=⟨rfl,rfl,rfl,by simp_all,fun k hk _=>Lib.alloc_old w.drew o k hk⟩
set_option maxHeartbeats 4000000 in
set_option maxRecDepth 100000 in
theorem bCc(L:Lays.n169 P ρ)(X:Builder.Extra P ρ)(b g cap:Nat)(p:Value)(q:Array Value)(l:List UInt8)(w:World)(h0:l≠ [])(I:w.heap[b]? = some (.cells #[p,.slice (some ⟨g,0,none⟩) l.length cap] (ρ.t 72) (0,0)))
  (hg:w.heap[g]? = some (.cells q (ρ.t 5) (0,0))) (hnc:l.length≤cap) (hcm:cap≤maxLen) (hcs:q.size=cap) (hcell:∀j x,l[j]? = some x→w.cell? ((⟨g,0,none⟩:Addr).add j)=some (.int .u8 x.toNat)) :
  Calls P (ρ.f 169) #[.pointer (some ⟨b,0,none⟩)] w fun e w'=>e= .returned (.string ⟨l.toArray⟩)∧w.grownBy w' (some g):=by
 have hl0:l.length≠0:=by simp_all
 have c1:w.drew.cell? ⟨b,1,none⟩=some (.slice (some ⟨g,0,none⟩) l.length cap):=by
  have:w.drew.heap[b]? = some (.cells #[p,.slice (some ⟨g,0,none⟩) l.length cap] (ρ.t 72) (0,0)):=I;rw[Lib.cell_of_heap this]; rfl
 have hSD:(Builtin.unsafeSliceData_ #[(ρ.t 37)] (ρ.t 127) #[.slice (some ⟨g,0,none⟩) l.length cap]).run P w.drew= .ok (.pointer (some ⟨g,0,none⟩)) w.drew :=
  Lib.run_unsafeSliceData_row _ _ _ _ _ _ (by omega)
 have hUS:(Builtin.unsafeString_ #[(ρ.t 127),(ρ.t 3)] (ρ.t 9) #[.pointer (some ⟨g,0,none⟩),.int .i64 l.length]).run P w.drew= .ok (.string ⟨l.toArray⟩) (w.drew.freeze ⟨g,0,none⟩ l.length):=by
  refine Lib.run_unsafeString_row w.drew (ρ.t 127) (ρ.t 3) (ρ.t 9) (ρ.t 5) L.t127 X.cellsByte g q.size (by have z:w.drew.heap[g]? = some (.cells q (ρ.t 5) (0,0)):=hg; simp[World.shape?,z]) l h0 (by omega) (by grind[maxLen]) ?_;exact hcell
 have mixed:=L.mixed;have t72:=L.t72; have a72:=L.a72; have z72:=L.z72; have Y:=L.v72; have u72:=run_underlying L.t72;have t70:=L.t70; have a70:=L.a70; have z70:=L.z70; have Z:=L.v70; have u70:=run_underlying L.t70;have t37:=L.t37; have a37:=L.a37; have z37:=L.z37; have v37:=L.v37; have u37:=run_underlying L.t37;have O:=L.t127; have W:=L.a127; have J:=L.z127; have U:=L.v127; have N:=run_underlying L.t127;have t3:=L.t3; have a3:=L.a3; have z3:=L.z3; have v3:=L.v3; have u3:=run_underlying L.t3;have t9:=L.t9; have a9:=L.a9; have z9:=L.z9; have v9:=L.v9; have u9:=run_underlying L.t9;have t5:=X.t5; have a5:=X.a5; have z5:=X.z5; have v5:=X.v5; have u5:=run_underlying X.t5
 go_enter L.f169,Body.n169_ntmps ρ
 go_wp2
 go_region_o
 all_goals (go_wp2; go_ret; exact⟨rfl,aZy w g _⟩)
set_option maxHeartbeats 4000000 in
set_option maxRecDepth 100000 in
theorem bEj(L:Lays.n169 P ρ)(X:Builder.Extra P ρ)(b:Nat)(p:Value)(w:World)(g:w.heap[b]? = some (.cells #[p,.slice none 0 0] (ρ.t 72) (0,0))) :
  Calls P (ρ.f 169) #[.pointer (some ⟨b,0,none⟩)] w fun e w'=>e= .returned (.string ⟨#[]⟩)∧w.grownBy w' none:=by
 have hUS:=Any.unsafeString_none L X;have c1:w.drew.cell? ⟨b,1,none⟩=some (.slice none 0 0):=by
  have:w.drew.heap[b]? = some (.cells #[p,.slice none 0 0] (ρ.t 72) (0,0)):=g;rw[Lib.cell_of_heap this]; rfl
 have hSD:(Builtin.unsafeSliceData_ #[(ρ.t 37)] (ρ.t 127) #[.slice none 0 0]).run P w.drew= .ok (.pointer none) w.drew:=rfl;have mixed:=L.mixed;have t72:=L.t72; have W:=L.a72; have Z:=L.z72; have O:=L.v72; have u72:=run_underlying L.t72;have t70:=L.t70; have a70:=L.a70; have z70:=L.z70; have U:=L.v70; have u70:=run_underlying L.t70;have t37:=L.t37; have a37:=L.a37; have z37:=L.z37; have Y:=L.v37; have u37:=run_underlying L.t37;have I:=L.t127; have N:=L.a127; have q:=L.z127; have J:=L.v127; have z:=run_underlying L.t127;have t3:=L.t3; have a3:=L.a3; have z3:=L.z3; have v3:=L.v3; have u3:=run_underlying L.t3;have t9:=L.t9; have a9:=L.a9; have z9:=L.z9; have v9:=L.v9; have u9:=run_underlying L.t9;have t5:=X.t5; have a5:=X.a5; have z5:=X.z5; have v5:=X.v5; have u5:=run_underlying X.t5
 go_enter L.f169,Body.n169_ntmps ρ
 go_wp2
 go_region_o
 all_goals (go_wp2; go_ret; exact⟨rfl,aMh w _⟩)
set_option maxHeartbeats 4000000 in
set_option maxRecDepth 100000 in
theorem aW6(L:Lays.n169 P ρ)(X:Builder.Extra P ρ)(b g:Nat)(p:Value)(q:Array Value)(w:World)(z:w.heap[b]? = some (.cells #[p,.slice (some ⟨g,0,none⟩) 0 0] (ρ.t 72) (0,0)))(hg:w.heap[g]? = some (.cells q (ρ.t 5) (0,0))) :
  Calls P (ρ.f 169) #[.pointer (some ⟨b,0,none⟩)] w fun e w'=>e= .returned (.string ⟨#[]⟩)∧w.grownBy w' none:=by
 have hUS:=Any.unsafeString_none L X;have J:b<w.heap.size:=(Array.getElem?_eq_some_iff.1 z).1;have c1:w.drew.cell? ⟨b,1,none⟩=some (.slice (some ⟨g,0,none⟩) 0 0):=by
  have:w.drew.heap[b]? = some (.cells #[p,.slice (some ⟨g,0,none⟩) 0 0] (ρ.t 72) (0,0)):=z;rw[Lib.cell_of_heap this]; rfl
 have hSD:(Builtin.unsafeSliceData_ #[(ρ.t 37)] (ρ.t 127) #[.slice (some ⟨g,0,none⟩) 0 0]).run P w.drew= .ok (.pointer (some ⟨w.drew.heap.size,0,none⟩)) (w.drew.alloc (.view ⟨g,0,none⟩ (ρ.t 5))) :=
  Lib.run_unsafeSliceData_zero w.drew _ _ (ρ.t 5) L.t127 ⟨g,0,none⟩ 0 ((ρ.t 5),q.size) (by have I:w.drew.heap[g]? = some (.cells q (ρ.t 5) (0,0)):=hg; simp[World.shape?,I])
 have c2:(w.drew.alloc (.view ⟨g,0,none⟩ (ρ.t 5))).cell? ⟨b,1,none⟩=some (.slice (some ⟨g,0,none⟩) 0 0):=by
  have:(w.drew.alloc (.view ⟨g,0,none⟩ (ρ.t 5))).heap[b]? = _:=(Lib.alloc_old w.drew _ b J).trans z;rw[Lib.cell_of_heap this]; rfl
 have c3:(w.alloc (.view ⟨g,0,none⟩ (ρ.t 5))).drew.cell? ⟨b,1,none⟩=some (.slice (some ⟨g,0,none⟩) 0 0):=c2;have c0:w.cell? ⟨b,1,none⟩=some (.slice (some ⟨g,0,none⟩) 0 0):=c1;have mixed:=L.mixed;have t72:=L.t72; have a72:=L.a72; have z72:=L.z72; have Z:=L.v72; have u72:=run_underlying L.t72;have t70:=L.t70; have a70:=L.a70; have z70:=L.z70; have v70:=L.v70; have u70:=run_underlying L.t70;have t37:=L.t37; have a37:=L.a37; have z37:=L.z37; have v37:=L.v37; have u37:=run_underlying L.t37;have U:=L.t127; have Y:=L.a127; have N:=L.z127; have W:=L.v127; have O:=run_underlying L.t127;have t3:=L.t3; have a3:=L.a3; have z3:=L.z3; have v3:=L.v3; have u3:=run_underlying L.t3;have t9:=L.t9; have a9:=L.a9; have z9:=L.z9; have v9:=L.v9; have u9:=run_underlying L.t9;have t5:=X.t5; have a5:=X.a5; have z5:=X.z5; have v5:=X.v5; have u5:=run_underlying X.t5
 go_enter L.f169,Body.n169_ntmps ρ
 go_wp2
 go_region_o
 all_goals (go_wp2; go_ret; exact⟨rfl,bEi w _ _⟩)
set_option maxHeartbeats 4000000 in
set_option maxRecDepth 100000 in
theorem bCd(L:Lays.n169 P ρ)(X:Builder.Extra P ρ)(b g cap:Nat)(p:Value)(w:World)(q:cap≠0)(z:w.heap[b]? = some (.cells #[p,.slice (some ⟨g,0,none⟩) 0 cap] (ρ.t 72) (0,0))) :
  Calls P (ρ.f 169) #[.pointer (some ⟨b,0,none⟩)] w fun e w'=>e= .returned (.string ⟨#[]⟩)∧w.grownBy w' none:=by
 have hUS:=Any.unsafeString_none L X;have c1:w.drew.cell? ⟨b,1,none⟩=some (.slice (some ⟨g,0,none⟩) 0 cap):=by
  have:w.drew.heap[b]? = some (.cells #[p,.slice (some ⟨g,0,none⟩) 0 cap] (ρ.t 72) (0,0)):=z;rw[Lib.cell_of_heap this]; rfl
 have hSD:(Builtin.unsafeSliceData_ #[(ρ.t 37)] (ρ.t 127) #[.slice (some ⟨g,0,none⟩) 0 cap]).run P w.drew= .ok (.pointer (some ⟨g,0,none⟩)) w.drew :=
  Lib.run_unsafeSliceData_row _ _ _ _ _ _ q
 clear q;have mixed:=L.mixed;have t72:=L.t72; have Z:=L.a72; have z72:=L.z72; have W:=L.v72; have u72:=run_underlying L.t72;have t70:=L.t70; have a70:=L.a70; have z70:=L.z70; have Y:=L.v70; have u70:=run_underlying L.t70;have t37:=L.t37; have a37:=L.a37; have z37:=L.z37; have v37:=L.v37; have u37:=run_underlying L.t37;have N:=L.t127; have U:=L.a127; have I:=L.z127; have O:=L.v127; have J:=run_underlying L.t127;have t3:=L.t3; have a3:=L.a3; have z3:=L.z3; have v3:=L.v3; have u3:=run_underlying L.t3;have t9:=L.t9; have a9:=L.a9; have z9:=L.z9; have v9:=L.v9; have u9:=run_underlying L.t9;have t5:=X.t5; have a5:=X.a5; have z5:=X.z5; have v5:=X.v5; have u5:=run_underlying X.t5
 go_enter L.f169,Body.n169_ntmps ρ
 go_wp2
 go_region_o
 all_goals (go_wp2; go_ret; exact⟨rfl,aMh w _⟩)
end
end Go.Proofs
namespace Go.Vc
open Go.RowKit
section
variable {M:Perm} {w0:World} {c:Ctx} {h:List Obj} {w:World}
def bJe(b:Bool)(B:Nat):Value:=bif b then .pointer none else .pointer (some ⟨B,0,none⟩)
theorem aUE(J:Good M w0 c h w){tb e:TypeId}{b:Bool}{i j:Nat}{xs:List Nat}(hi:h[i]? = some (.box (4294967296+tb) (.agg [pk b i,.own j])))(W:h[j]? = some (.row e (.u .u8) xs)) :
  ∃B,c.hd i= .pointer (some ⟨B,0,none⟩)∧w.heap[B]? = some (.cells #[bJe b B,c.hd j] tb (0,0))∧aBI c w e (.u .u8) xs (c.hd j):=by
 obtain⟨B,cells,O,q1,q2,g,z⟩:=J.objs i _ hi;have hr:aBI c w e (.u .u8) xs (c.hd j):=J.objs j _ W;simp only[aN] at z;obtain⟨c1,Z,hc,f,c3,U,Y,N,h3⟩:=z;have h3:U= []:=h3;simp only[aN] at N;have e2:Z= [c.hd j]:=by simp_all
 have e1:c1= [bJe b B]:=by
  cases b with
  | true=>exact f
  | false =>
   have f:aN c w (.ptr i []) c1:=f;simp only[aN] at f;obtain⟨_,B',I,q⟩:=f;rw[q1] at I;cases I;exact q
 have L:cells= #[bJe b B,c.hd j]:=by
  grind
 subst L;have et:tb=O:=by
  rcases g with g|⟨_,g⟩
  all_goals grind
 simp_all
theorem bJf(q:Good M w0 c h w){tb e:TypeId}{b:Bool}{i j:Nat}{xs:List Nat}(hi:h[i]? = some (.box (4294967296+tb) (.agg [pk b i,.own j])))(O:h[j]? = some (.row e (.u .u8) xs)){B:Nat}(z:c.hd i= .pointer (some ⟨B,0,none⟩)) :
  Good M w0 c (h.set i (.box (4294967296+tb) (.agg [pk false i,.own j]))) (w.setCell ⟨B,0,none⟩ (.pointer (some ⟨B,0,none⟩))):=by
 obtain⟨Z,q1,q2,W⟩:=aUE q hi O;rw[z] at q1;obtain rfl:B=Z:=by simp_all
 have N:dP c i (.box (4294967296+tb) (.agg [pk b i,.own j])) B:=by simp[dP,z,aW]
 have hheap:(w.setCell ⟨B,0,none⟩ (.pointer (some ⟨B,0,none⟩))).heap[B]? = some (.cells #[.pointer (some ⟨B,0,none⟩),c.hd j] tb (0,0)):=by
  simp[World.setCell,Array.getElem?_modify,q2]
 have I:=aA3 O;have L:=aA3 hi;have f:one (c.hd j):=by
  obtain⟨U,g,_⟩:=W;obtain⟨a,n,m,J⟩:=gX g;rw[J]; trivial
 exact(q.modify (o':=.box (4294967296+tb) (.agg [pk false i,.own j])) hi N (w':=w.setCell ⟨B,0,none⟩ (.pointer (some ⟨B,0,none⟩))) rfl rfl rfl (by simp_all) (fun k hk=>by simp[World.setCell,Array.getElem?_modify,Ne.symm hk])
  ⟨B,_,tb,z,hheap,.inr ⟨rfl,rfl⟩,by
   have Y:jY c (w.setCell ⟨B,0,none⟩ (.pointer (some ⟨B,0,none⟩))) [pk false i,.own j] [.pointer (some ⟨B,0,none⟩),c.hd j]:=?_
   ·grind[aN]
   refine⟨[.pointer (some ⟨B,0,none⟩)],[c.hd j],rfl,?_,[c.hd j],[],rfl,?_,rfl⟩
   ·show aN c _ (.ptr i []) _;simp only[aN];refine⟨by rw[q.n]; exact L,B,by rw[z]; rfl,?_⟩;rfl
   ·simp only[aN];refine⟨by rw[q.n]; exact I,?_,f⟩;simp_all⟩ (fun b' hb'=>by grind[dP,aW,Option.some.injEq])).1
theorem bHn{e:TypeId}{xs:List Nat}{v:Value}(h:aBI c w e (.u .u8) xs v):∃l:List UInt8,xs=l.map (·.toNat)∧((v= .slice none 0 0∧l= [])∨ ∃g cap z,v= .slice (some ⟨g,0,none⟩) l.length cap∧w.heap[g]? = some (.cells z e (0,0))∧l.length≤cap∧cap≤maxLen∧z.size=cap∧ ∀j x,l[j]? = some x→w.cell? ((⟨g,0,none⟩:Addr).add j)=some (.int .u8 x.toNat)):=by
 obtain⟨J,I,hl,f,hc,hcl,Z⟩:=h;have O:∀i (h:i<xs.length) (h':i<f.length),f[i]= [Value.int .u8 (xs[i]:Int)]∧xs[i]<256:=fun i h h'=>by
  obtain⟨U,_,h3⟩:=Z i h h';grind[IntKind.max,IntKind.signed,IntKind.bits]
 refine⟨xs.map UInt8.ofNat,?_,?_⟩
 ·rw[List.map_map];apply List.ext_getElem
  ·simp
  ·intro i U h2;have:=(O i U (by omega)).2;simp only[List.getElem_map,Function.comp];rw[UInt8.toNat_ofNat'];omega
 ·have Y:(xs.map UInt8.ofNat).length=xs.length:=by simp
  rcases I.2 with⟨U,h2⟩|⟨g,cap,z,hv,hbg,hg,hnc,W,hcs,htake⟩
  ·simp_all
  ·right
   refine⟨g,cap,z,by simp_all,hg,by omega,W,by grind[Ty.cells],fun j x hx=>?_⟩;have hj:j<xs.length:=by
    grind
   have L:j<f.length:=(by omega);have hx':x=UInt8.ofNat xs[j]:=by
    simp_all
   have hk:=O j hj L;have N:J[j]? = some (.int .u8 (xs[j]:Int)):=by
    obtain⟨pre,post,hf,hpl⟩:=kZ (t:=.u .u8) (css:=f) (fun q hq=>bC.length _ _ _ (Z q (by omega) hq)) j L;simp_all[List.append_assoc,List.getElem?_append_right,Ty.cells]
   subst hv;have:=I.cells (g:=g) rfl j _ N;grind[UInt8.toNat_ofNat',Nat.mod_eq_of_lt]
theorem bJg(z:Good M w0 c h w){i j:Nat}(hm:M.m=1)(hi:i=0){N J:Obj}(U:h= [N,J]){w':World}{g:Option Nat}(f:w.grownBy w' g)(I:∀b,g=some b→dP c 1 J b) :
  Good M w0 ⟨c.S,c.hd,1,c.bl⟩ [.dead] w':=by
 subst U;refine⟨rfl,⟨f.os.trans z.keeps.os,f.tape.trans z.keeps.tape,f.output.trans z.keeps.output,Nat.le_trans z.keeps.size f.size,fun b hb hM=>?_⟩,fun b hb=>Nat.lt_of_lt_of_le (z.sfin b hb) f.size,z.src,fun k o q=>?_,fun k o b q hb=>?_,fun k l ok W b hk hl O L=>?_,⟨by simp_all,fun k hk=>z.root.2 k hk⟩⟩
 ·rw[f.block b (Nat.lt_of_lt_of_le hb z.keeps.size) (fun e=>?_)]
  ·exact z.keeps.block b hb hM
  ·have:=z.own 1 J b rfl (I b e.symm);grind
 ·match k,q with
  | 0,q=>cases q; trivial
  | k+1,q=>cases q
 ·match k,q with
  | 0,q=>cases q; cases hb
  | k+1,q=>cases q
 grind
end
end Go.Vc
namespace Go.Vc
def bLG:AV→Bool
 | .nilP=>true
 | _=>false
theorem bLH{b:Bool}{i:Nat}:bLG (pk b i)=b:=by cases b<;>rfl
theorem bJh:bLG .nilP=true:=rfl
theorem bJi{i:Nat}{p:List Step}:bLG (.ptr i p)=false:=rfl
def bHo(h:List Obj)(i j:Nat):Nat:=match h.getD i .dead with
 | .box _ (.agg l)=>match l.getD j .junk with
  | .own k=>k
  | _=>0
 | _=>0
def aNj(h:List Obj)(i:Nat):Bool×List Nat:=(match h.getD i .dead with
 | .box _ (.agg l)=>bLG (l.getD 0 .junk)
 | _=>true,match h.getD (bHo h i 1) .dead with
 | .row _ (.u .u8) f=>f
 | _=>[])
attribute [go_sem] bLH bJh bJi bHo aNj
end Go.Vc
namespace Go.Vc
open Go.RowKit
def bG(E:Env)(ops:List Oper)(K:St→List Obj→Prop):Nat→List Nat→St→List Obj→Prop
 | 0,_,env,h=>K env h
 | n+1,done,env,h=>∀i,i∈aPK ops done→match ops[i]? with
  | some o=>(match o.guard with
   | none=>match xU E env h o with
    | (p,v,h')=>p∧bG E ops K n (i::done) (wU o.dst v env) h'
   | some (j,f)=>match aGE ops j with
    | some g=>match look env g with
     | .val .bool b=>(b=f→match xU E env h o with
       | (p,v,h')=>p∧bG E ops K n (i::done) (wU o.dst v env) h')∧(b= !f→bG E ops K n (i::done) (wU o.dst .undef env) h)
     | _=>False
    | none=>False)
  | none=>False
section
variable {P:Program} {E:Env} {M:Perm} {w0:World} {nt:Nat} {ds:List Deferred}
theorem aZz(hE:eQ P E){ops:List Oper}{Q:Exit→Act→World→Prop}(I:∀o∈ops,eZ nt o=true){K:St→List Obj→Prop}(hK:∀env h c a w,K env h→Sim E M w0 nt ds c env h a w→Q .normal a w)(hb:bF3 ops=true) :
  ∀(n:Nat) (done:List Nat) (listed:Array Bool),listed.size=ops.length→(∀k,k<ops.length→(listed.getD k false=true↔k∈done))→done.length+n=ops.length→done.Nodup→(∀k∈done,k<ops.length)→ ∀(env:St) (h:List Obj) (c:Ctx) (a:Act) (w:World),bG E ops K n done env h→Sim E M w0 nt ds c env h a w→wpAny P .any ops.toArray Q n listed a w
 | 0,done,listed,hsz,hl,hn,hd,hlt,env,h,c,a,w,hs,f=>by
  refine⟨?_,hK env h c a w hs f⟩;rw[List.eq_nil_iff_forall_not_mem];intro j hj;obtain⟨h1,o,Y,_⟩:=mem_ready.1 hj;have Y:ops[j]? = some o:=by simp_all
  have U:=jE.get_lt' Y;have hall:j∈done:=by
   exact(aNh hd (m:=List.range ops.length) (fun k hk=>List.mem_range.2 (hlt k hk))).2 (by grind) j (List.mem_range.2 U)
  grind
 | n+1,done,listed,hsz,hl,hn,hd,hlt,env,h,c,a,w,hs,f=>by
  have hrd:∀j,j∈Region.ready .any ops.toArray listed→j∈aPK ops done∧j∉done∧j<ops.length:=fun j hj=>by
   obtain⟨h1,o,Y,hall⟩:=mem_ready.1 hj;have Y:ops[j]? = some o:=(by simp_all);have U:=jE.get_lt' Y;have hlt':j<listed.size:=(by omega);have hnd:j∉done:=fun hm=>by
    grind
   refine⟨?_,hnd,U⟩;simp only[aPK,List.mem_filter,List.mem_range,Y,Bool.and_eq_true,Bool.not_eq_true',List.contains_eq_mem,decide_eq_false_iff_not,List.all_eq_true,Bool.or_eq_true,decide_eq_true_eq];grind
  refine⟨fun hr=>?_,fun j hj=>?_⟩
  ·exfalso;have O:∃k,(k<ops.length∧k∉done)∧ ∀j,j<k→ ¬(j<ops.length∧j∉done):=by
    have O:∃k,k<ops.length∧k∉done:=by
     apply Classical.byContradiction;intro hc;have hsub:List.range ops.length ⊆ done:=fun k hk=>Classical.byContradiction fun hk2=>hc ⟨k,List.mem_range.1 hk,hk2⟩;have:=(aNh (List.nodup_range (n:=ops.length)) (fun k hk=>hsub hk)).1;grind
    obtain⟨n,h1,h2⟩:=aJk O;grind
   obtain⟨k,⟨hk,hkd⟩,hlow⟩:=O;have hmem:k∈Region.ready .any ops.toArray listed:=by
    rw[mem_ready];have hlt':k<listed.size:=(by omega);have hun:¬listed.getD k false=true:=fun h=>hkd ((hl k hk).1 h);refine⟨by grind,ops[k],by simp[hk],fun e he hbe=>?_⟩;have hbk:=List.all_eq_true.1 hb (ops[k],k) (by grind);grind
   simp_all
  ·obtain⟨r1,r2,r3⟩:=hrd j hj;have hs:=hs j r1;have N:ops[j]? = some ops[j]:=List.getElem?_eq_getElem r3;rw[N] at hs;have z:=I ops[j] (List.getElem_mem r3);have J:∀k,k<ops.length→((listed.setIfInBounds j true).getD k false=true↔k∈j::done):=fun k hk=>by
    by_cases e:j=k
    ·simp_all
    ·rw[getD_set_ne false e,hl k hk];grind
   have L:((xU E env h ops[j]).1∧bG E ops K n (j::done) (wU ops[j].dst (xU E env h ops[j]).2.1 env) (xU E env h ops[j]).2.2)→Region.wanted ops[j] (yielded ops.toArray a.tmps)=true→wpOp P ops.toArray Q j (wpAny P .any ops.toArray Q n (listed.setIfInBounds j true)) a w:=fun⟨hp,hrest⟩ hw=>by
    unfold wpOp;simp only[List.getElem?_toArray,N];rw[if_pos hw]
    left
    refine(aKF hE f z hp).wp fun v w' c' ha=>?_;exact aZz hE I hK hb n (j::done) (listed.setIfInBounds j true) (by grind) J (by grind) (List.nodup_cons.2 ⟨r2,hd⟩) (by grind) _ _ c' _ w' hrest (f.after z ha)
   have hskip:bG E ops K n (j::done) (wU ops[j].dst .undef env) h→Region.wanted ops[j] (yielded ops.toArray a.tmps)=false→wpOp P ops.toArray Q j (wpAny P .any ops.toArray Q n (listed.setIfInBounds j true)) a w:=fun hrest hw=>by
    unfold wpOp;simp only[List.getElem?_toArray,N];rw[if_neg (by simp[hw])];exact aZz hE I hK hb n (j::done) (listed.setIfInBounds j true) (by grind) J (by grind) (List.nodup_cons.2 ⟨r2,hd⟩) (by grind) _ _ c _ w hrest (f.after z ⟨.refl _ _,f.good,rfl⟩)
   simp only at hs;cases g:ops[j].guard with
   | none =>
    rw[g] at hs;exact L hs (by simp[Region.wanted,g])
   | some jp =>
    obtain⟨q,W⟩:=jp;rw[g] at hs;simp only at hs;cases Z:aGE ops q with
    | none=>simp_all
    | some dj =>
     rw[Z] at hs;simp only at hs;have hv:=f.env dj;split at hs
     ·rename_i b hb2;rw[hb2] at hv;have hb':=aFG hv;have hy:=zA I f.size Z hb';simp only[yb] at hy;by_cases e:b=W
      ·exact L (hs.1 e) (by simp[Region.wanted,g,hy,e])
      ·have e':b= !W:=(by cases b<;>cases W<;>simp_all);exact hskip (hs.2 e') (by simp[Region.wanted,g,hy,e'])
     ·exact hs.elim
end
theorem aQ1{F:Fr}{Q:Exit→Act→World→Prop}{env:St}{h:List Obj}(hF:xT F){id:Nat}{ops:Array Oper}(keep:List Nat)(g:St)(h':List Obj)(hb:bF3 ops.toList=true)
  (hv:bG F.E ops.toList (fun e o=>keep.map (fun t=>(t,look e t))=g∧o=h') ops.toList.length [] env h) (hk:At F (Q .normal) g h'):Tri F (.region id ops true) Q env h:=fun q c a w hs=>by
 simp only[fL,Bool.and_eq_true,Bool.or_eq_true,Bool.not_eq_true'] at q;obtain⟨⟨J,L⟩,h3⟩:=q;refine wp_region_any hF.mix ?_;have f:dG c w c { w with drawn:=w.drawn+1 }:=⟨.refl _,fun b hb=>rfl⟩;have z:Sim F.E F.M F.w0 F.nt F.ds c env h a { w with drawn:=w.drawn+1 } :=
  ⟨hs.good.step f rfl rfl ⟨rfl,rfl,rfl,Nat.le_refl _,fun _ _ _=>rfl⟩ (fun _ _ _ _ _=>rfl) hs.good.sfin (fun _ hb=>.inl hb),sY.mono (w:=w) (w':={ w with drawn:=w.drawn+1 }) (fun _ hb=>hb) f.same hs.glob,hs.env.keep f,hs.size,hs.defers⟩
 have:=aZz (Q:=Q) hF.env (List.all_eq_true.1 J) (K:=fun e o=>keep.map (fun t=>(t,look e t))=g∧o=h') (fun e o c a w I hs=>by
  obtain⟨rfl,rfl⟩:=I;exact hk c a w (hs.keep keep)) hb ops.toList.length [] (Array.replicate ops.size false) (by simp) (fun k hk=>by simp_all) (by simp) List.nodup_nil (fun k hk=>by cases hk) env h c a _ hv z
 simpa using this
end Go.Vc
namespace Go.Vc
open Go.RowKit
section
variable {P:Program} {T:Tab} {H:Type} {enc:TypeId×Value→H} {w:World} {spare:Nat→Bool} {held:Bool}
def bJj(k:IntKind)(ys:List Nat):DataW H:=.agg (ys.map fun (y:Nat)=>.lit (.int k (y:Int)))
theorem aZA:∀(cs:List Value),((List.range cs.length).map fun i=>(cs.drop i).take 1).flatten=cs:=by
 intro cs;have e:((List.range cs.length).map fun i=>(cs.drop i).take 1)=cs.map fun c=>[c]:=by
  apply List.ext_getElem
  ·simp
  ·intro i f q;simp only[List.length_map,List.length_range] at f;simp only[List.getElem_map,List.getElem_range];rw[List.drop_eq_getElem_cons f];rfl
 rw[e];clear e
 induction cs with
 | nil=>rfl
 | cons c cs g=>simp[g]
theorem bLI{S:Nat→Prop}(I:iF P T){n:Nat}{t:TypeId}{m:Nat}{k:IntKind}{cs:List Value}{p:List MemPlace}{ys:List Nat}(ht:T t=some (.arr m (.u k)))
  (h:DataW.trod enc P w 0 spare held n t cs=some (bJj k ys,p)):bC w S (.arr m (.u k)) ys cs:=by
 obtain⟨d,hd,hb⟩:=(I _ _ ht).desc;cases d<;>simp[fM] at hb
 obtain⟨⟨⟨rfl,z⟩,hb2⟩,_⟩:=hb;obtain⟨xs,q,hq,hx,f,hxl,U⟩:=DataW.trod_array hd h;simp only[bJj,Prod.mk.injEq,DataW.agg.injEq] at hx;rw[nL (I _ _ ht)] at f;rw[nL (I _ _ z)] at U;have e1:(Ty.u k).cells=1:=rfl;have Y:(Ty.arr m (.u k)).cells=m:=by show m*1=m; omega
 rw[e1] at U;rw[Y] at f;have J:ys.length=m:=by
  have:=congrArg List.length hx.1;grind
 obtain⟨Z,L,g⟩:=(I _ _ z).desc;cases Z<;>simp[fM] at g
 obtain⟨rfl,hs⟩:=g;refine⟨J,(List.range cs.length).map (fun i=>(cs.drop i).take 1),(aZA cs).symm,by grind,fun i h1 h2=>?_⟩;have hi:i<m:=by omega
 have h3:=U i hi;rw[Nat.mul_one,List.getElem?_eq_getElem (by omega)] at h3;obtain⟨v,g1,W,O⟩:=DataW.trod_int L h3;simp only[List.getElem_map,List.getElem_range];have N:(xs.map (·.1))[i]? = (ys.map fun (y:Nat)=>(DataW.lit (.int k (y:Int)):DataW H))[i]? := by rw[hx.1]
 rw[List.getElem?_map,List.getElem?_map,List.getElem?_eq_getElem (by omega),List.getElem?_eq_getElem h1,W] at N;simp only[Option.map_some,Option.some.injEq,DataW.lit.injEq,Lit.int.injEq,true_and] at N;rw[N] at g1 O;simp only[Lit.wf,Bool.and_eq_true,decide_eq_true_eq] at O;exact⟨g1,hs,O.2⟩
theorem bJk{l:List (String×DataW Unit)}{n:String}{d:DataW Unit}(hm:(n,d)∈l){ps:List MemPlace}(h:DataW.LaidVars P w l ps) :
  ∃g t cs f p,P.globalNamed n=some g∧(P.globals[g]?).map (·.type)=some t∧w.var? P n=some cs∧DataW.trod (fun _=>()) P w 0 (fun _=>true) false f t cs.toList=some (d,p):=by
 induction l generalizing ps with
 | nil=>cases hm
 | cons x r J =>
  obtain⟨z,O⟩:=x;obtain⟨g,t,cs,f,p,q,I,N,h3,L,U,_⟩:=h;grind
theorem bCe(L:iF P T){l:List (String×DataW Unit)}(h:laidMet P l w)(n:String)(g:Nat)(t:TypeId)(m:Nat)(k:IntKind)(ys:List Nat)(hm:(n,bJj k ys)∈l)(J:P.globalNamed n=some g)
  (ht:(P.globals[g]?).map (·.type)=some t) (q:T t=some (.arr m (.u k))) (N:0<m):aZ ⟨aCF w,fun _=>Go.undef,0,fun _ _=>False⟩ w (.roa (.arr m (.u k)) ys) (.pointer (some ⟨g,0,none⟩)):=by
 obtain⟨ps,hv,_⟩:=h;obtain⟨Y,t',f,z,p,O,W,h3,U⟩:=bJk hm hv;obtain rfl:=Option.some.inj (J.symm.trans O);obtain rfl:=Option.some.inj (ht.symm.trans W);have I:bC w (aCF w) (.arr m (.u k)) ys f.toList:=bLI L q U;have hc:jB w g 0 f.toList:=fun j v Z=>by
  have:=World.var?_cell J h3 j;simp_all
 refine aHn ?_ I hc;have hl:=bC.length _ _ _ I;have hl:f.toList.length=m*1:=hl;have h0:0<f.toList.length:=by omega
 exact bFV (hc 0 (f.toList[0]'h0) (List.getElem?_eq_getElem h0))
end
end Go.Vc

