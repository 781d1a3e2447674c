import Derived.WalkKit
import Derived.Test.YthkfoehkabnlpaaGreatDoorZL1
import Derived.Test.YthkfoehkabnlpaaGreatDoorZL5
set_option linter.unusedVariables false
set_option linter.unusedSimpArgs false
namespace Go.It
noncomputable section
universe u
def bi{α:Sort u}(c:Bool)(a b:α):α:=Bool.rec (motive:=fun _=>α) b a c
@[simp] theorem aS{α:Sort u}(a b:α):bi true a b=a:=rfl
@[simp] theorem aT{α:Sort u}(a b:α):bi false a b=b:=rfl
inductive Box(α:Type) where|mk (a:α)
def unb{α β:Type}(b:Box α)(f:α→β):β:=Box.rec (motive:=fun _=>β) f b
structure Q(α:Type) where m ::
 a0:α
 a1:α
 a2:α
 a3:α
 a4:α
 a5:α
 a6:α
 a7:α
@[reducible] def QN:Nat→Type→Type
 | 0,α=>α
 | n+1,α=>Q (QN n α)
def aA7{α:Type}(z:α):(n:Nat)→QN n α
 | 0=>z
 | n+1=>.m (aA7 z n) (aA7 z n) (aA7 z n) (aA7 z n) (aA7 z n) (aA7 z n) (aA7 z n) (aA7 z n)
def d8{α:Type}(d:Nat)(a0 a1 a2 a3 a4 a5 a6 a7:α):α :=
 bi (Nat.blt d 4) (bi (Nat.blt d 2) (bi (Nat.beq d 0) a0 a1) (bi (Nat.beq d 2) a2 a3)) (bi (Nat.blt d 6) (bi (Nat.beq d 4) a4 a5) (bi (Nat.beq d 6) a6 a7))
def acc{α:Type}:(n:Nat)→Nat→Box (QN n α→α)
 | 0,_=>.mk fun t=>t
 | n+1,k=>unb (acc n (Nat.div k 8)) fun f=>d8 (Nat.mod k 8)
   (.mk fun t=>f t.a0)
   (.mk fun t=>f t.a1)
   (.mk fun t=>f t.a2)
   (.mk fun t=>f t.a3)
   (.mk fun t=>f t.a4)
   (.mk fun t=>f t.a5)
   (.mk fun t=>f t.a6)
   (.mk fun t=>f t.a7)
def put{α:Type}:(n:Nat)→Nat→Box (QN n α→α→(QN n α→Bool)→Bool)
 | 0,_=>.mk fun _ x c=>c x
 | n+1,k=>unb (put n (Nat.div k 8)) fun f=>d8 (Nat.mod k 8)
   (.mk fun t x c=>Q.rec (motive:=fun _=>Bool) (fun a0 a1 a2 a3 a4 a5 a6 a7=>f a0 x fun y=>c (.m y a1 a2 a3 a4 a5 a6 a7)) t)
   (.mk fun t x c=>Q.rec (motive:=fun _=>Bool) (fun a0 a1 a2 a3 a4 a5 a6 a7=>f a1 x fun y=>c (.m a0 y a2 a3 a4 a5 a6 a7)) t)
   (.mk fun t x c=>Q.rec (motive:=fun _=>Bool) (fun a0 a1 a2 a3 a4 a5 a6 a7=>f a2 x fun y=>c (.m a0 a1 y a3 a4 a5 a6 a7)) t)
   (.mk fun t x c=>Q.rec (motive:=fun _=>Bool) (fun a0 a1 a2 a3 a4 a5 a6 a7=>f a3 x fun y=>c (.m a0 a1 a2 y a4 a5 a6 a7)) t)
   (.mk fun t x c=>Q.rec (motive:=fun _=>Bool) (fun a0 a1 a2 a3 a4 a5 a6 a7=>f a4 x fun y=>c (.m a0 a1 a2 a3 y a5 a6 a7)) t)
   (.mk fun t x c=>Q.rec (motive:=fun _=>Bool) (fun a0 a1 a2 a3 a4 a5 a6 a7=>f a5 x fun y=>c (.m a0 a1 a2 a3 a4 y a6 a7)) t)
   (.mk fun t x c=>Q.rec (motive:=fun _=>Bool) (fun a0 a1 a2 a3 a4 a5 a6 a7=>f a6 x fun y=>c (.m a0 a1 a2 a3 a4 a5 y a7)) t)
   (.mk fun t x c=>Q.rec (motive:=fun _=>Bool) (fun a0 a1 a2 a3 a4 a5 a6 a7=>f a7 x fun y=>c (.m a0 a1 a2 a3 a4 a5 a6 y)) t)
def get{α:Type}:(n:Nat)→Nat→QN n α→α
 | 0,_,t=>t
 | n+1,k,.m a0 a1 a2 a3 a4 a5 a6 a7=>get n (Nat.div k 8) (d8 (Nat.mod k 8) a0 a1 a2 a3 a4 a5 a6 a7)
def upd{α:Type}:(n:Nat)→Nat→α→QN n α→QN n α
 | 0,_,x,_=>x
 | n+1,k,x,.m a0 a1 a2 a3 a4 a5 a6 a7=>d8 (Nat.mod k 8) (.m (upd n (Nat.div k 8) x a0) a1 a2 a3 a4 a5 a6 a7) (.m a0 (upd n (Nat.div k 8) x a1) a2 a3 a4 a5 a6 a7) (.m a0 a1 (upd n (Nat.div k 8) x a2) a3 a4 a5 a6 a7) (.m a0 a1 a2 (upd n (Nat.div k 8) x a3) a4 a5 a6 a7) (.m a0 a1 a2 a3 (upd n (Nat.div k 8) x a4) a5 a6 a7) (.m a0 a1 a2 a3 a4 (upd n (Nat.div k 8) x a5) a6 a7) (.m a0 a1 a2 a3 a4 a5 (upd n (Nat.div k 8) x a6) a7) (.m a0 a1 a2 a3 a4 a5 a6 (upd n (Nat.div k 8) x a7))
inductive Z where|pn|sn|mn|fnn|ifn|u|j
inductive V where
 | i (n:Nat)|w (n:Nat)|b (x:Bool)|p (a:Nat) (o:Nat)|sl (a:Nat) (o n c x:Nat)|s (n x:Nat)
 | agg (l:List V)|k (k:IntKind) (n:Nat)|z (z:Z)|m (a:Nat)|tup (l:List V)|fn (f:FuncId) (fs l:List V)|ifc (t:TypeId) (v:V)
 | q (k:IntKind) (c n:Nat)
inductive O where
 | no|row (w:Bool) (l:List V)|map (l:List (V×V))|dead
abbrev HN:Nat:=6
structure M where
 h:QN HN O
 nx:Nat
inductive X where
 | ex (id:Nat)|rt|pan (v:V)
inductive TK where
 | i (k:IntKind)|b|s|p (e:TypeId)|sl (e:TypeId)|mp (k e:TypeId)|fn|ifc|st (fs:List (Nat×TypeId))|ar (n:Nat) (e:TypeId)|no
structure TI where
 k:TK
 n:Nat
 by':Nat
 z:List V
inductive FE where
 | no|fi (code:Code) (nt:Nat) (res:List ResultVar)|nat (f:List V→M→(V→Bool)→Bool)|mem (f:List V→M→(V→M→Bool)→Bool)
structure En where
 tt:QN 4 TI
 ft:QN 4 FE
 gl:Nat→V
structure Cx where
 E:En
 ε:Type
 look:Nat→ε→V
 A:Nat→Box (ε→V)
abbrev CF:=FuncId→List V→M→(V→M→Bool)→(V→M→Bool)→Bool
structure KK(ε:Type) where
 cf:CF
 kn:ε→M→Bool
 kx:X→ε→M→Bool
abbrev OpF(q:Cx):=q.ε→M→(V→M→Bool)→Bool
def mdB:IntKind→Box Nat
 | .i8| .u8=>.mk 256
 | .i16| .u16=>.mk 65536
 | .i32| .u32=>.mk 4294967296
 | _=>.mk 18446744073709551616
def hfB:IntKind→Box Nat
 | .i8| .u8=>.mk 128
 | .i16| .u16=>.mk 32768
 | .i32| .u32=>.mk 2147483648
 | _=>.mk 9223372036854775808
def aZd:IntKind→Box Nat
 | .i8| .u8=>.mk 8
 | .i16| .u16=>.mk 16
 | .i32| .u32=>.mk 32
 | _=>.mk 64
def keq:IntKind→IntKind→Bool
 | .i8,.i8| .i16,.i16| .i32,.i32| .i64,.i64| .u8,.u8| .u16,.u16| .u32,.u32| .u64,.u64=>true
 | _,_=>false
def oI(v:V)(c:Nat→Bool):Bool:=V.casesOn (motive_1:=fun _=>Bool) v c (fun _=>false) (fun _=>false) (fun _ _=>false) (fun _ _ _ _ _=>false) (fun _ _=>false) (fun _=>false) (fun _ _=>false) (fun _=>false) (fun _=>false) (fun _=>false) (fun _ _ _=>false) (fun _ _=>false) (fun _ _ _=>false)
def oW(v:V)(c:Nat→Bool):Bool:=V.casesOn (motive_1:=fun _=>Bool) v (fun _=>false) c (fun _=>false) (fun _ _=>false) (fun _ _ _ _ _=>false) (fun _ _=>false) (fun _=>false) (fun _ _=>false) (fun _=>false) (fun _=>false) (fun _=>false) (fun _ _ _=>false) (fun _ _=>false) (fun _ _ _=>false)
def oB(v:V)(c:Bool→Bool):Bool:=V.casesOn (motive_1:=fun _=>Bool) v (fun _=>false) (fun _=>false) c (fun _ _=>false) (fun _ _ _ _ _=>false) (fun _ _=>false) (fun _=>false) (fun _ _=>false) (fun _=>false) (fun _=>false) (fun _=>false) (fun _ _ _=>false) (fun _ _=>false) (fun _ _ _=>false)
def oP(v:V)(c:Nat→Nat→Bool):Bool:=V.casesOn (motive_1:=fun _=>Bool) v (fun _=>false) (fun _=>false) (fun _=>false) c (fun _ _ _ _ _=>false) (fun _ _=>false) (fun _=>false) (fun _ _=>false) (fun _=>false) (fun _=>false) (fun _=>false) (fun _ _ _=>false) (fun _ _=>false) (fun _ _ _=>false)
def oS(v:V)(c:Nat→Nat→Bool):Bool:=V.casesOn (motive_1:=fun _=>Bool) v (fun _=>false) (fun _=>false) (fun _=>false) (fun _ _=>false) (fun _ _ _ _ _=>false) c (fun _=>false) (fun _ _=>false) (fun _=>false) (fun _=>false) (fun _=>false) (fun _ _ _=>false) (fun _ _=>false) (fun _ _ _=>false)
def aZV(v:V)(c:List V→Bool):Bool:=V.casesOn (motive_1:=fun _=>Bool) v (fun _=>false) (fun _=>false) (fun _=>false) (fun _ _=>false) (fun _ _ _ _ _=>false) (fun _ _=>false) c (fun _ _=>false) (fun _=>false) (fun _=>false) (fun _=>false) (fun _ _ _=>false) (fun _ _=>false) (fun _ _ _=>false)
def oN(k:IntKind)(v:V)(c:Nat→Bool):Bool:=match v with| .k I n=>bi (keq k I) (c n) false|_=>false
def aZW(v:V)(c:IntKind→Nat→Bool):Bool:=match v with| .i n=>c .i64 n| .w n=>c .u64 n| .k k n=>c k n|_=>false
def oIx(v:V)(c:Nat→Bool):Bool:=match v with
 | .i n=>bi (Nat.blt n 9223372036854775808) (c n) false
 | .w n=>c n
 | .k k n=>unb (hfB k) fun h=>bi k.signed (bi (Nat.blt n h) (c n) false) (c n)
 | _=>false
def oK:IntKind→Box (V→(Nat→Bool)→Bool)
 | .i64=>.mk oI
 | .u64=>.mk oW
 | k=>.mk (oN k)
def mkK:IntKind→Box (Nat→V)
 | .i64=>.mk .i
 | .u64=>.mk .w
 | k=>.mk (.k k)
def dec(k:IntKind)(n:Nat):Int:=if k.signed&&decide (2^(k.bits-1)≤n) then (n:Int)-2^k.bits else n
def enc(k:IntKind)(z:Int):Nat:=(z%(2^k.bits:Int)).toNat
abbrev NF:=Nat→Nat→(V→Bool)→Bool
def bBY(mk:Nat→V)(m:Nat):Box NF:=.mk fun a b c=>c (mk (Nat.mod (Nat.add a b) m))
def bBZ(mk:Nat→V)(m:Nat):Box NF:=.mk fun a b c=>c (mk (Nat.mod (Nat.add a (Nat.sub m b)) m))
def bB0(mk:Nat→V)(m:Nat):Box NF:=.mk fun a b c=>c (mk (Nat.mod (Nat.mul a b) m))
def bA5(k:IntKind)(mk:Nat→V)(h:Nat):Box NF:=bi k.signed (.mk fun a b c=>bi (Nat.beq b 0) false (bi (Nat.blt a h) (bi (Nat.blt b h) (c (mk (Nat.div a b))) (c (mk (enc k ((dec k a).tdiv (dec k b)))))) (c (mk (enc k ((dec k a).tdiv (dec k b))))))) (.mk fun a b c=>bi (Nat.beq b 0) false (c (mk (Nat.div a b))))
def bA6(k:IntKind)(mk:Nat→V)(h:Nat):Box NF:=bi k.signed (.mk fun a b c=>bi (Nat.beq b 0) false (bi (Nat.blt a h) (bi (Nat.blt b h) (c (mk (Nat.mod a b))) (c (mk (enc k ((dec k a).tmod (dec k b)))))) (c (mk (enc k ((dec k a).tmod (dec k b))))))) (.mk fun a b c=>bi (Nat.beq b 0) false (c (mk (Nat.mod a b))))
def bB1(mk:Nat→V):Box NF:=.mk fun a b c=>c (mk (Nat.land a b))
def bOr(mk:Nat→V):Box NF:=.mk fun a b c=>c (mk (Nat.lor a b))
def bB2(mk:Nat→V):Box NF:=.mk fun a b c=>c (mk (Nat.xor a b))
def aXU(mk:Nat→V)(m:Nat):Box NF:=.mk fun a b c=>c (mk (Nat.land a (Nat.sub (Nat.sub m 1) b)))
def bB3:Box NF:=.mk fun a b c=>c (.b (Nat.beq a b))
def bB4:Box NF:=.mk fun a b c=>c (.b (not (Nat.beq a b)))
def bLt(k:IntKind)(m h:Nat):Box NF:=bi k.signed (.mk fun a b c=>c (.b (Nat.blt (Nat.mod (Nat.add a h) m) (Nat.mod (Nat.add b h) m)))) (.mk fun a b c=>c (.b (Nat.blt a b)))
def bLe(k:IntKind)(m h:Nat):Box NF:=bi k.signed (.mk fun a b c=>c (.b (Nat.ble (Nat.mod (Nat.add a h) m) (Nat.mod (Nat.add b h) m)))) (.mk fun a b c=>c (.b (Nat.ble a b)))
def aZe(f:NF):NF:=fun a b c=>f b a c
def aTp(op:BinOp)(k:IntKind):Option (Box NF) :=
 unb (mkK k) fun mk=>unb (mdB k) fun m=>unb (hfB k) fun h =>
 match op with
 | .add=>some (bBY mk m)
 | .sub=>some (bBZ mk m)
 | .mul=>some (bB0 mk m)
 | .quo=>some (bA5 k mk h)
 | .rem=>some (bA6 k mk h)
 | .and=>some (bB1 mk)
 | .or=>some (bOr mk)
 | .xor=>some (bB2 mk)
 | .andNot=>some (aXU mk m)
 | .eql=>some bB3
 | .neq=>some bB4
 | .lss=>some (bLt k m h)
 | .leq=>some (bLe k m h)
 | .gtr=>some (unb (bLt k m h) fun f=>.mk (aZe f))
 | .geq=>some (unb (bLe k m h) fun f=>.mk (aZe f))
 | _=>none
def sh2(op:BinOp)(k:IntKind):Option (Box (Nat→Nat→(V→Bool)→Bool)) :=
 unb (mkK k) fun mk=>unb (mdB k) fun m=>unb (hfB k) fun h=>unb (aZd k) fun bs =>
 match op with
 | .shl=>some (.mk fun a n c=>bi (Nat.ble bs n) (c (mk 0)) (c (mk (Nat.mod (Nat.shiftLeft a n) m))))
 | .shr=>some (bi k.signed (.mk fun a n c=>bi (Nat.blt a h) (bi (Nat.ble bs n) (c (mk 0)) (c (mk (Nat.shiftRight a n)))) (c (mk (enc k ((dec k a).fdiv (2^min n k.bits)))))) (.mk fun a n c=>bi (Nat.ble bs n) (c (mk 0)) (c (mk (Nat.shiftRight a n)))))
 | _=>none
def strB(op:BinOp):Option (Nat→Nat→Nat→Nat→(V→Bool)→Bool) :=
 match op with
 | .add=>some fun n x m y c=>bi (Nat.ble (Nat.add n m) 1099511627776) (c (.s (Nat.add n m) (Nat.add x (Nat.shiftLeft y (Nat.mul 8 n))))) false
 | .eql=>some fun n x m y c=>c (.b (and (Nat.beq n m) (Nat.beq x y)))
 | .neq=>some fun n x m y c=>c (.b (not (and (Nat.beq n m) (Nat.beq x y))))
 | _=>none
def aII:List V→Nat
 | []=>0
 | _::l=>Nat.succ (aII l)
def qI(v u:V):Option Bool:=match v,u with
 | .i a,.i b=>some (Nat.beq a b)
 | .w a,.w b=>some (Nat.beq a b)
 | .k j a,.k k b=>bi (keq j k) (some (Nat.beq a b)) none
 | _,_=>none
def qB(v u:V):Option Bool:=match v,u with
 | .b a,.b b=>some (bi a b (not b))
 | _,_=>none
def qS(v u:V):Option Bool:=match v,u with
 | .s n x,.s m y=>some (and (Nat.beq n m) (Nat.beq x y))
 | _,_=>none
def qP(v u:V):Option Bool:=match v,u with
 | .z .pn,.z .pn=>some true
 | .p _ _,.z .pn=>some false
 | .z .pn,.p _ _=>some false
 | _,_=>none
def qSl(v u:V):Option Bool:=match v,u with
 | .z .sn,.z .sn=>some true
 | .sl _ _ _ _ _,.z .sn=>some false
 | .z .sn,.sl _ _ _ _ _=>some false
 | _,_=>none
def qM(v u:V):Option Bool:=match v,u with
 | .z .mn,.z .mn=>some true
 | .m _,.z .mn=>some false
 | .z .mn,.m _=>some false
 | _,_=>none
def qF(v u:V):Option Bool:=match v,u with
 | .z .fnn,.z .fnn=>some true
 | .fn _ _ _,.z .fnn=>some false
 | .z .fnn,.fn _ _ _=>some false
 | _,_=>none
def qIf(v u:V):Option Bool:=match v,u with
 | .z .ifn,.z .ifn=>some true
 | .ifc _ _,.z .ifn=>some false
 | .z .ifn,.ifc _ _=>some false
 | _,_=>none
def qL:List V→List V→Option Bool
 | [],[]=>some true
 | a::l,b::r=>match qI a b,qL l r with
  | some p,some q=>some (and p q)
  | _,_=>none
 | _,_=>none
def qA(n:Nat)(v u:V):Option Bool:=match v,u with
 | .agg l,.agg r=>bi (Nat.beq (aII l) n) (qL l r) none
 | _,_=>none
def sm1:V→V→Bool
 | .i a,.i b=>Nat.beq a b
 | .w a,.w b=>Nat.beq a b
 | .k j a,.k k b=>bi (keq j k) (Nat.beq a b) false
 | .b a,.b b=>a == b
 | .s n x,.s m y=>bi (Nat.beq n m) (Nat.beq x y) false
 | .z .pn,.z .pn=>true
 | .p a o,.p b q=>bi (Nat.beq o q) (Nat.beq a b) false
 | .z .sn,.z .sn=>true
 | .sl a o n c x,.sl b q m d y=>bi (Nat.beq o q) (bi (Nat.beq n m) (bi (Nat.beq c d) (bi (Nat.beq x y) (Nat.beq a b) false) false) false) false
 | .z .mn,.z .mn=>true
 | .m a,.m b=>Nat.beq a b
 | .z .fnn,.z .fnn=>true
 | .z .ifn,.z .ifn=>true
 | .z .u,.z .u=>true
 | _,_=>false
def smL:List V→List V→Bool
 | [],[]=>true
 | a::l,b::r=>bi (sm1 a b) (smL l r) false
 | _,_=>false
def smV:V→V→Bool
 | .agg l,.agg r=>smL l r
 | .tup l,.tup r=>smL l r
 | a,b=>sm1 a b
def smO:O→O→Bool
 | .row w l,.row w' r=>bi (w == w') (smL l r) false
 | .map [],.map []=>true
 | _,_=>false
def nth:List V→Nat→(V→Bool)→Bool :=
 fun l=>List.rec (motive:=fun _=>Nat→(V→Bool)→Bool) (fun _ _=>false) (fun x _ I n c=>Nat.casesOn (motive:=fun _=>Bool) n (c x) fun n=>I n c) l
def aD8:Nat→List V→(List V→Bool)→Bool
 | 0,_,c=>c []
 | n+1,x::l,c=>aD8 n l fun r=>c (x::r)
 | _+1,[],_=>false
def aGi:Nat→List V→(List V→Bool)→Bool
 | 0,l,c=>c l
 | n+1,_::l,c=>aGi n l c
 | _+1,[],_=>false
def aK8:List V→List V→(List V→Bool)→Bool
 | [],l,c=>c l
 | d::ds,_::l,c=>aK8 ds l fun r=>c (d::r)
 | _::_,[],_=>false
def aJ5:Nat→List V→List V→(List V→Bool)→Bool
 | 0,ds,l,c=>aK8 ds l c
 | n+1,ds,x::l,c=>aJ5 n ds l fun r=>c (x::r)
 | _+1,_,[],_=>false
def aVj:List V→List V→(List V→Bool)→Bool
 | [],r,c=>c r
 | x::l,r,c=>aVj l r fun q=>c (x::q)
def kM:V→List V
 | .agg l=>l
 | .tup _=>[]
 | .z .u=>[]
 | .z .j=>[]
 | v=>[v]
def aD9:Nat→List V→List V→List V
 | 0,_,r=>r
 | n+1,z,r=>z++aD9 n z r
def ms(m:M)(f:QN HN O→Nat→Bool):Bool:=M.rec (motive:=fun _=>Bool) f m
def rdO(a:Nat)(m:M)(c:O→Bool):Bool:=ms m fun h _=>unb (acc HN a) fun f=>c (f h)
def wrO(a:Nat)(o:O)(m:M)(c:M→Bool):Bool:=ms m fun h nx=>unb (put HN a) fun f=>f h o fun h=>c ⟨h,nx⟩
def aFm(o:O)(m:M)(c:Nat→M→Bool):Bool:=ms m fun h nx=>bi (Nat.blt nx 262144) (unb (put HN nx) fun g=>g h o fun h=>c nx ⟨h,Nat.succ nx⟩) false
def aOl(o:O)(c:Bool→List V→Bool):Bool:=match o with| .row w l=>c w l|_=>false
def aXV(o:O)(c:List (V×V)→Bool):Bool:=match o with| .map l=>c l|_=>false
def aGj(a:Nat)(m:M)(c:List V→Bool):Bool:=rdO a m fun o=>aOl o fun _ l=>c l
def ld1(v:V)(m:M)(c:V→Bool):Bool:=oP v fun a o=>aGj a m fun l=>nth l o c
def ldN(n:Nat)(v:V)(m:M)(c:V→Bool):Bool:=oP v fun a o=>aGj a m fun l=>aGi o l fun l=>aD8 n l fun l=>c (.agg l)
def stN(n:Nat)(v x:V)(m:M)(c:M→Bool):Bool:=oP v fun a o=>rdO a m fun ob=>aOl ob fun w l=>bi w (bi (Nat.beq (aII (kM x)) n) (aJ5 o (kM x) l fun l=>wrO a (.row true l) m c) false) false
def num:List UInt8→Nat
 | []=>0
 | b::l=>Nat.add b.toNat (Nat.mul 256 (num l))
def cvI(k:IntKind)(n:Int):V:=unb (mkK k) fun mk=>mk (enc k n)
def cv1:Value→V
 | .bool x=>.b x
 | .int k n=>cvI k n
 | .string s=>.s s.data.toList.length (num s.data.toList)
 | .pointer none=>.z .pn
 | .slice none 0 0=>.z .sn
 | .map none=>.z .mn
 | .nilFunc=>.z .fnn
 | .nilIface=>.z .ifn
 | _=>.z .j
def cv:Value→V
 | .agg I=>.agg (I.toList.map cv1)
 | v=>cv1 v
def aTq:Value→Bool
 | .bool _=>true
 | .int k n=>decide (k.min≤n)&&decide (n≤k.max)
 | .string s=>Nat.ble s.data.toList.length 1099511627776
 | .pointer none=>true
 | .slice none 0 0=>true
 | .map none=>true
 | .nilFunc=>true
 | .nilIface=>true
 | _=>false
def cOK:Value→Bool
 | .agg I=>I.toList.all aTq
 | v=>aTq v
def pA(q:Cx):Operand→Box (q.ε→V)
 | .tmp t=>q.A t
 | .const v=>bi (cOK v) (unb (.mk (cv v)) fun v=>.mk fun _=>v) (.mk fun _=>.z .j)
 | .global g=>unb (.mk (q.E.gl g)) fun v=>.mk fun _=>v
 | .func f=>.mk fun _=>.fn f [] []
def evD(q:Cx)(e:q.ε):Operand→V
 | .tmp t=>q.look t e
 | .const v=>bi (cOK v) (cv v) (.z .j)
 | .global g=>q.E.gl g
 | .func f=>.fn f [] []
def Cx.al(q:Cx)(d:Nat)(x:Operand):Cx:=⟨q.E,q.ε,fun t e=>bi (Nat.beq t d) (evD q e x) (q.look t e),fun t=>bi (Nat.beq t d) (pA q x) (q.A t)⟩
def aL3(q:Cx):List Operand→Box (q.ε→List V)
 | []=>.mk fun _=>[]
 | o::l=>unb (pA q o) fun f=>unb (aL3 q l) fun g=>.mk fun e=>f e::g e
def aXW:TI:=⟨.no,0,0,[]⟩
def ti(E:En)(t:TypeId):TI:=bi (Nat.blt t 4096) (get 4 t E.tt) aXW
def kn(E:En)(t:TypeId):Bool:=match (ti E t).k with| .no=>false|_=>true
def oC(i:TI):Bool:=match i.k with| .st _=>true| .ar _ _=>true|_=>false
def op1(q:Cx)(x:Operand)(f:V→M→(V→M→Bool)→Bool):Box (OpF q):=unb (pA q x) fun a=>.mk fun e m c=>f (a e) m c
def op2(q:Cx)(x y:Operand)(f:V→V→M→(V→M→Bool)→Bool):Box (OpF q):=unb (pA q x) fun a=>unb (pA q y) fun b=>.mk fun e m c=>f (a e) (b e) m c
def bad{q:Cx}:Box (OpF q):=.mk fun _ _ _=>false
def aRT(i:TI)(k:Nat):Option (Nat×TypeId):=match i.k with| .st I=>I[k]? | _=>none
def aRU:Operand→Bool
 | .const _=>true
 | _=>false
def qAr(E:En)(n:Nat)(e:TypeId):Option (V→V→Option Bool):=match (ti E e).k with
 | .i _=>bi (Nat.beq (ti E e).n 1) (some (qA n)) none
 | _=>none
def qG:List (V→V→Option Bool)→List V→List V→Option Bool
 | [],[],[]=>some true
 | g::gs,a::l,b::r=>match g a b,qG gs l r with
  | some p,some q=>some (and p q)
  | _,_=>none
 | _,_,_=>none
def qSt(I:List (V→V→Option Bool))(v u:V):Option Bool:=match v,u with
 | .agg l,.agg r=>qG I l r
 | _,_=>none
def aZX(E:En)(t:TypeId):Option (V→V→Option Bool):=match (ti E t).k with
 | .i _=>some qI| .s=>some qS| .b=>some qB
 | _=>none
def stG(E:En):List (Nat×TypeId)→Nat→Option (List (V→V→Option Bool))
 | [],_=>some []
 | (o,t)::fs,n=>bi (Nat.beq o n) (match aZX E t,stG E fs (Nat.succ n) with
  | some g,some I=>some (g::I)
  | _,_=>none) none
def qE(E:En)(k:TK)(I:Bool):Option (V→V→Option Bool):=match k with
 | .b=>some qB| .p _=>some qP| .sl _=>some qSl| .mp _ _=>some qM| .fn=>some qF
 | .ifc=>bi I (some qIf) none
 | .st N=>(match stG E N 0 with|some J=>some (qSt J)|none=>none)
 | .ar n e=>qAr E n e
 | _=>none
def aTr(E:En)(k:TK):Option (V→V→Option Bool):=match k with
 | .i _=>some qI| .s=>some qS| .b=>some qB
 | .ar n e=>qAr E n e
 | _=>none
def aVk(q:Cx)(op:BinOp)(k:IntKind)(x y:Operand):Box (OpF q):=match sh2 op k with|some b=>unb b fun g=>unb (oK k) fun ok=>op2 q x y fun v u m c=>ok v fun a=>oIx u fun n=>g a n fun r=>c r m|none=>bad
def aHV(q:Cx)(op:BinOp)(k:IntKind)(x y:Operand):Box (OpF q):=match aTp op k with|some b=>unb b fun g=>unb (oK k) fun ok=>op2 q x y fun v u m c=>ok v fun a=>ok u fun b=>g a b fun r=>c r m|none=>bad
def aLz(q:Cx)(op:BinOp)(x y:Operand):Box (OpF q):=match strB op with|some g=>op2 q x y fun v u m c=>oS v fun n x=>oS u fun k y=>g n x k y fun r=>c r m|none=>bad
def aVl(q:Cx)(neg:Bool)(k:TK)(x y:Operand):Box (OpF q):=match qE q.E k (or (aRU x) (aRU y)) with
 | some g=>op2 q x y fun v u m c=>match g v u with|some r=>c (.b (bi neg (not r) r)) m|none=>false
 | none=>bad
def bA7:BinOp→Bool
 | .shl=>true
 | .shr=>true
 | _=>false
def elems(sz:Nat)(v:V)(m:M)(c:Nat→List V→Bool):Bool:=match v with
 | .z .sn=>c 0 []
 | .sl a o n _ _=>bi (Nat.beq n 0) (c 0 []) (aGj a m fun l=>aGi o l fun l=>aD8 (Nat.mul n sz) l fun l=>c n l)
 | _=>false
def aFn:Nat→Nat→List V
 | 0,_=>[]
 | n+1,x=>.k .u8 (Nat.mod x 256)::aFn n (Nat.shiftRight x 8)
def aIJ(sz:Nat)(v:V)(m:M)(c:Nat→List V→Bool):Bool:=match v with
 | .s n x=>bi (Nat.beq sz 1) (c n (aFn n x)) false
 | v=>elems sz v m c
def isNil(l:List V):Bool:=match l with| []=>true|_=>false
def aXX:List V→(Nat→Bool)→Bool
 | [],c=>c 0
 | v::l,c=>match v with
  | .k .u8 b=>aXX l fun x=>c (Nat.add b (Nat.mul 256 x))
  | _=>false
def qV(v:V)(k:IntKind)(a:Nat→Nat→Bool)(b:Bool):Bool:=match v with
 | .q j c n=>bi (keq j k) (a c n) b
 | _=>b
def aEa(q:Cx)(k k':IntKind)(x:Operand):Box (OpF q):=unb (oK k) fun ok=>unb (mkK k') fun mk=>unb (mdB k') fun m'=>unb (mdB k) fun m0=>unb (hfB k) fun h=>bi k.signed (op1 q x fun v m c=>ok v fun a=>bi (Nat.blt a h) (c (mk (Nat.mod a m')) m) (c (mk (Nat.mod (Nat.add a (Nat.sub (Nat.mul m' m0) m0)) m')) m)) (op1 q x fun v m c=>ok v fun a=>c (mk (Nat.mod a m')) m)
def aL4(q:Cx)(x:Operand):Box (OpF q):=unb (aEa q .i64 .u64 x) fun g=>unb (pA q x) fun I=>.mk fun e m c=>qV (I e) .i64 (fun J n=>c (.q .u64 J n) m) (g e m c)
def aQg(q:Cx)(x y:Operand):Box (OpF q):=unb (aHV q .rem .u64 x y) fun g=>unb (pA q x) fun J=>unb (pA q y) fun N=>.mk fun e m c=>qV (J e) .u64 (fun I n=>oW (N e) fun b=>bi (Nat.beq b I) (bi (Nat.blt 0 I) (c (.w n) m) false) false) (g e m c)
def isQ(k k':IntKind):Bool:=match k,k' with| .i64,.u64=>true|_,_=>false
def bA8(op:BinOp)(k:IntKind):Bool:=match op,k with| .rem,.u64=>true|_,_=>false
def aVm(q:Cx)(op:BinOp)(t:TypeId)(x y:Operand)(I:TypeId):Box (OpF q) :=
 match (ti q.E t).k with
 | .i k=>bi (bA7 op) (aVk q op k x y) (bi (bA8 op k) (aQg q x y) (aHV q op k x y))
 | .s=>aLz q op x y
 | k=>match op with
  | .eql=>aVl q false k x y
  | .neq=>aVl q true k x y
  | _=>bad
def wL(q:Cx)(s t:TypeId)(x:Operand):Box (OpF q) :=
 match (ti q.E s).k,(ti q.E t).k with
 | .i k,.i I=>bi (isQ k I) (aL4 q x) (aEa q k I x)
 | .s,.s=>op1 q x fun v m c=>oS v fun n x=>c (.s n x) m
 | .s,.sl e=>(match (ti q.E e).k with
  | .i .u8=>op1 q x fun v m c=>oS v fun n x=>aFm (.row true (aFn n x)) m fun a m=>c (.sl a 0 n n 1) m
  | _=>bad)
 | .sl e,.s=>(match (ti q.E e).k with
  | .i .u8=>op1 q x fun v m c=>elems 1 v m fun n l=>aXX l fun x=>c (.s n x) m
  | _=>bad)
 | _,_=>bad
def aL5(q:Cx)(t:TypeId)(x y:Operand):Box (OpF q) :=
 match (ti q.E t).k with
 | .sl e=>bi (kn q.E e) (unb (.mk (ti q.E e).n) fun sz=>op2 q x y fun v u m c=>match v with
  | .sl a o n _ _=>oIx u fun i=>bi (Nat.blt i n) (c (.p a (Nat.add o (Nat.mul i sz))) m) false
  | _=>false) bad
 | .ar n e=>bi (kn q.E e) (unb (.mk (ti q.E e).n) fun sz=>op2 q x y fun v u m c=>oP v fun a o=>oIx u fun i=>bi (Nat.blt i n) (c (.p a (Nat.add o (Nat.mul i sz))) m) false) bad
 | _=>bad
def aRV(I:Bool)(sz off:Nat)(l:List V)(c:V→Bool):Bool:=bi I (aGi off l fun l=>aD8 sz l fun l=>c (.agg l)) (nth l off c)
def aL6(q:Cx)(t:TypeId)(x y:Operand):Box (OpF q) :=
 match (ti q.E t).k with
 | .s=>op2 q x y fun v u m c=>oS v fun n x=>oIx u fun i=>bi (Nat.blt i n) (c (.k .u8 (Nat.mod (Nat.shiftRight x (Nat.mul 8 i)) 256)) m) false
 | .ar n e=>bi (kn q.E e) (unb (.mk (ti q.E e)) fun I=>op2 q x y fun v u m c=>aZV v fun l=>oIx u fun i=>bi (Nat.blt i n) (aRV (oC I) I.n (Nat.mul i I.n) l fun r=>c r m) false) bad
 | _=>bad
def aJ6(v:Option V)(z:Nat)(c:Nat→Bool):Bool:=match v with|some v=>oIx v c|none=>c z
def aL7(q:Cx):Option Operand→Box (q.ε→Option V)
 | none=>.mk fun _=>none
 | some x=>unb (pA q x) fun f=>.mk fun e=>some (f e)
def aL8(q:Cx)(t:TypeId)(x:Operand)(lo hi mx:Option Operand):Box (OpF q) :=
 unb (pA q x) fun N=>unb (aL7 q lo) fun J=>unb (aL7 q hi) fun I =>
 match (ti q.E t).k,mx with
 | .s,none=>.mk fun e m c=>oS (N e) fun n x=>aJ6 (I e) n fun h=>aJ6 (J e) 0 fun l =>
   bi (Nat.ble h n) (bi (Nat.ble l h) (c (.s (Nat.sub h l) (Nat.mod (Nat.shiftRight x (Nat.mul 8 l)) (Nat.pow 256 (Nat.sub h l)))) m) false) false
 | .sl e,none=>bi (kn q.E e) (unb (.mk (ti q.E e).n) fun sz=>.mk fun e m c=>match N e with
   | .sl a o n k x=>aJ6 (I e) n fun h=>aJ6 (J e) 0 fun l=>bi (Nat.ble h k) (bi (Nat.ble l h) (bi (Nat.beq x 0) (bi (Nat.beq l k) (c (.sl a o 0 0 0) m) (c (.sl a (Nat.add o (Nat.mul l sz)) (Nat.sub h l) (Nat.sub k l) 0) m)) (bi (Nat.beq x sz) (c (.sl a (Nat.add o (Nat.mul l sz)) (Nat.sub h l) (Nat.sub k l) x) m) false)) false) false
   | .z .sn=>aJ6 (I e) 0 fun h=>aJ6 (J e) 0 fun l=>bi (Nat.beq h 0) (bi (Nat.beq l 0) (c (.z .sn) m) false) false
   | _=>false) bad
 | .sl e,some z=>bi (kn q.E e) (unb (pA q z) fun fm=>.mk fun e m c=>match N e with
   | .sl _ _ _ k _=>oIx (fm e) fun u=>(match I e with|some v=>oIx v fun h=>aJ6 (J e) 0 fun l=>bi (Nat.ble u k) (bi (Nat.ble h u) (bi (Nat.ble l h) (c (.z .j) m) false) false) false|none=>false)
   | _=>false) bad
 | .ar n e,none=>bi (and (kn q.E e) (Nat.ble n 1099511627776)) (unb (.mk (ti q.E e).n) fun sz=>.mk fun e m c=>oP (N e) fun a o=>aJ6 (I e) n fun h=>aJ6 (J e) 0 fun l =>
   bi (Nat.ble h n) (bi (Nat.ble l h) (bi (Nat.beq l n) (c (.sl a o 0 0 0) m) (c (.sl a (Nat.add o (Nat.mul l sz)) (Nat.sub h l) (Nat.sub n l) 0) m)) false) false) bad
 | _,_=>bad
def aIK(I:Nat→Option (Nat×Nat)):List (Nat×V)→List V→(List V→Bool)→Bool
 | [],l,c=>c l
 | (i,v)::r,l,c=>match I i with
  | some (o,sz)=>bi (Nat.beq sz 0) false (bi (Nat.beq (aII (kM v)) sz) (aJ5 o (kM v) l fun l=>aIK I r l c) false)
  | none=>false
def aQh:List Nat→List V→List (Nat×V)
 | i::l,v::r=>(i,v)::aQh l r
 | _,_=>[]
def aL9(q:Cx)(t:TypeId)(ps:List (Nat×Operand)):Box (OpF q) :=
 unb (aL3 q (ps.map (·.2))) fun f=>match (ti q.E t).k with
 | .st I=>bi (I.all (fun p=>kn q.E p.2)) (.mk fun e m c=>aIK (fun i=>match I[i]? with|some (o,t)=>some (o,(ti q.E t).n)|none=>none) (aQh (ps.map (·.1)) (f e)) (ti q.E t).z fun l=>c (.agg l) m) bad
 | .ar _ el=>bi (kn q.E el) (.mk fun e m c=>aIK (fun i=>some (Nat.mul i (ti q.E el).n,(ti q.E el).n)) (aQh (ps.map (·.1)) (f e)) (ti q.E t).z fun l=>c (.agg l) m) bad
 | _=>bad
def aIL(q:Cx)(t:TypeId)(n:Nat)(ps:List (Nat×Operand)):Box (OpF q) :=
 unb (aL3 q (ps.map (·.2))) fun f=>match (ti q.E t).k with
 | .sl el=>bi (kn q.E el&&Nat.ble (Nat.mul n (ti q.E el).n) 65536&&Nat.ble n 65536) (.mk fun e m c=>aIK (fun i=>some (Nat.mul i (ti q.E el).n,(ti q.E el).n)) (aQh (ps.map (·.1)) (f e)) (aD9 n (ti q.E el).z []) fun l=>aFm (.row true l) m fun a m=>c (.sl a 0 n n 0) m) bad
 | _=>bad
def zeroV(i:TI):V:=bi (oC i) (.agg i.z) (match i.z with| [v]=>v|_=>.z .j)
def bA9(s:V):Bool:=match s with| .z .sn=>true| .sl _ _ _ _ _=>true|_=>false
def aVn(sz by':Nat)(s:V)(k:Nat)(xs:List V)(m:M)(c:V→M→Bool):Bool :=
 bi (Nat.beq k 0) (bi (bA9 s) (c s m) false) (bi (Nat.beq sz 0) false (match s with
 | .z .sn=>bi (Nat.ble (Nat.mul k by') 1099511627776) (bi (Nat.ble k 1099511627776) (aFm (.row true xs) m fun a m=>c (.sl a 0 k k sz) m) false) false
 | .sl a o n q x=>bi (Nat.ble (Nat.add n k) q) (rdO a m fun ob=>aOl ob fun w l=>bi w (aJ5 (Nat.add o (Nat.mul n sz)) xs l fun l=>wrO a (.row true l) m fun m=>c (.sl a o (Nat.add n k) q x) m) false) (bi (Nat.ble (Nat.mul (Nat.add n k) by') 1099511627776) (bi (Nat.ble (Nat.add n k) 1099511627776) (elems sz s m fun _ l=>aVj l xs fun l=>bi (Nat.beq x 0) (aFm (.row true l) m fun b m=>c (.sl b 0 (Nat.add n k) (Nat.add n k) sz) m) (bi (Nat.beq q 0) false (bi (Nat.beq x sz) (rdO a m fun ob=>aOl ob fun w _=>bi w (wrO a .dead m fun m=>aFm (.row true l) m fun b m=>c (.sl b 0 (Nat.add n k) (Nat.add n k) sz) m) false) false))) false) false)
 | _=>false))
def aRW(g:V→V→Option Bool)(k:V):List (V×V)→(V→Bool)→Bool→Bool
 | [],_,n=>n
 | (a,v)::l,c,n=>match g k a with
  | some true=>c v
  | some false=>aRW g k l c n
  | none=>false
def aXY(g:V→V→Option Bool)(k v:V):List (V×V)→(List (V×V)→Bool)→Bool
 | [],c=>c [(k,v)]
 | (a,u)::l,c=>match g k a with
  | some true=>c ((k,v)::l)
  | some false=>aXY g k v l fun l=>c ((a,u)::l)
  | none=>false
def aVo(q:Cx)(l:List TypeId):Bool:=match l with|t::_=>(match (ti q.E t).k with| .i _=>true| .sl _=>true| .s=>true|_=>false)| []=>false
def aMa(q:Cx)(l:List TypeId):Bool:=match l with|t::_=>(match (ti q.E t).k with| .i _=>true|_=>false)| []=>false
def kC(q:Cx)(b:Builtin)(ty:TypeId)(args:List Operand)(I:List TypeId):Box (OpF q) :=
 match b,args,I with
 | .len,[x],t::_=>(match (ti q.E t).k with
   | .s=>op1 q x fun v m c=>oS v fun n _=>c (.i n) m
   | .sl _=>op1 q x fun v m c=>match v with| .z .sn=>c (.i 0) m| .sl _ _ n _ _=>c (.i n) m|_=>false
   | .ar n _=>bi (Nat.ble n 1099511627776) (op1 q x fun v m c=>c (.i n) m) bad
   | .mp _ _=>op1 q x fun v m c=>match v with| .z .mn=>c (.i 0) m| .m a=>rdO a m fun o=>aXV o fun l=>bi (Nat.ble l.length 1099511627776) (c (.i l.length) m) false|_=>false
   | _=>bad)
 | .cap,[x],t::_=>(match (ti q.E t).k with
   | .sl _=>op1 q x fun v m c=>match v with| .z .sn=>c (.i 0) m| .sl _ _ _ q 0=>c (.i q) m|_=>false
   | _=>bad)
 | .append,[x,y],t::_=>(match (ti q.E t).k with
   | .sl e=>bi (kn q.E e&&aVo q (I.drop 1)) (unb (.mk (ti q.E e).n) fun sz=>unb (.mk (ti q.E e).by') fun by'=>unb (.mk (aMa q (I.drop 1))) fun N=>unb (.mk (ti q.E e).z) fun z=>bi N (op2 q x y fun v u m c=>oIx u fun k=>bi (and (Nat.ble k 1048576) (Nat.ble (Nat.mul k by') 1099511627776)) (aVn sz by' v k (aD9 k z []) m c) false) (op2 q x y fun v u m c=>aIJ sz u m fun k J=>aVn sz by' v k J m c)) bad
   | _=>bad)
 | .copy,[x,y],t::_=>(match (ti q.E t).k with
   | .sl e=>bi (kn q.E e) (unb (.mk (ti q.E e).n) fun sz=>op2 q x y fun v u m c=>aIJ sz u m fun k J=>match v with
     | .z .sn=>c (.i 0) m
     | .sl a o n _ _=>bi (Nat.beq (Nat.min k n) 0) (c (.i 0) m) (aD8 (Nat.mul (Nat.min k n) sz) J fun J=>rdO a m fun ob=>aOl ob fun w l=>bi w (aJ5 o J l fun l=>wrO a (.row true l) m fun m=>c (.i (Nat.min k n)) m) false)
     | _=>false) bad
   | _=>bad)
 | .clear,[x],t::_=>(match (ti q.E t).k with
   | .sl e=>bi (kn q.E e) (unb (.mk (ti q.E e).z) fun z=>op1 q x fun v m c=>match v with
     | .z .sn=>c (.tup []) m
     | .sl a o n _ _=>bi (Nat.beq n 0) (c (.tup []) m) (rdO a m fun ob=>aOl ob fun w l=>bi w (aJ5 o (aD9 n z []) l fun l=>wrO a (.row true l) m fun m=>c (.tup []) m) false)
     | _=>false) bad
   | _=>bad)
 | .min,[x,y],_=>(match (ti q.E ty).k with
   | .i k=>(match aTp .lss k with|some b=>unb b fun g=>unb (oK k) fun ok=>op2 q x y fun v u m c=>ok v fun a=>ok u fun b=>g b a fun r=>oB r fun r=>bi r (c u m) (c v m)|none=>bad)
   | _=>bad)
 | .max,[x,y],_=>(match (ti q.E ty).k with
   | .i k=>(match aTp .lss k with|some b=>unb b fun g=>unb (oK k) fun ok=>op2 q x y fun v u m c=>ok v fun a=>ok u fun b=>g a b fun r=>oB r fun r=>bi r (c u m) (c v m)|none=>bad)
   | _=>bad)
 | _,_,_=>bad
def aFo(q:Cx)(x:Operand):Box (OpF q):=op1 q x fun v m c=>c v m
def aMb(q:Cx):Box (OpF q):=.mk fun e m c=>aFm (.map []) m fun a m=>c (.m a) m
def aIM(q:Cx)(t:TypeId)(x:Operand):Box (OpF q):=match (ti q.E t).k with
 | .mp _ _=>op1 q x fun v m c=>aZW v fun _ _=>aFm (.map []) m fun a m=>c (.m a) m
 | _=>bad
def aQi(q:Cx)(c a b:Operand):Box (OpF q) :=
 unb (pA q c) fun N=>unb (pA q a) fun J=>unb (pA q b) fun I=>.mk fun e m k=>oB (N e) fun t=>bi t (k (J e) m) (k (I e) m)
def aMc(q:Cx)(t:TypeId):Box (OpF q) :=
 bi (kn q.E t) (unb (.mk (ti q.E t).z) fun z=>.mk fun e m c=>aFm (.row true z) m fun a m=>c (.p a 0) m) bad
def aVp(q:Cx)(t:TypeId)(x:Operand):Box (OpF q) :=
 bi (kn q.E t) (unb (.mk (ti q.E t).n) fun n=>op1 q x fun v m c=>bi (Nat.beq (aII (kM v)) n&&Nat.blt 0 n) (aFm (.row true (kM v)) m fun a m=>c (.p a 0) m) false) bad
def aEb(q:Cx)(t:TypeId)(mp k x:Operand):Box (OpF q) :=
 match (ti q.E t).k with
 | .mp kt _=>(match aTr q.E (ti q.E kt).k with
  | some g=>unb (pA q mp) fun fm=>unb (pA q k) fun I=>unb (pA q x) fun J=>.mk fun e m c=>match fm e with
   | .m a=>rdO a m fun ob=>aXV ob fun l=>(match g (I e) (I e) with|some _=>aXY g (I e) (J e) l fun l=>wrO a (.map l) m fun m=>c (.z .u) m|none=>false)
   | _=>false
  | none=>bad)
 | _=>bad
def aQj(q:Cx)(t:TypeId)(a:Operand):Box (OpF q) :=
 bi (!kn q.E t) bad (unb (.mk (ti q.E t)) fun i=>bi (oC i) (unb (.mk i.n) fun n=>op1 q a fun v m c=>ldN n v m fun x=>c x m) (op1 q a fun v m c=>ld1 v m fun x=>c x m))
def aMd(q:Cx)(t:TypeId)(a x:Operand):Box (OpF q) :=
 bi (!kn q.E t) bad (unb (.mk (ti q.E t).n) fun n=>bi (Nat.beq n 0) (op2 q a x fun v u m c=>oP v fun _ _=>(match u with| .agg []=>c (.z .u) m|_=>false)) (op2 q a x fun v u m c=>stN n v u m fun m=>c (.z .u) m))
def aVq(q:Cx)(x:Operand):Box (OpF q) :=
 op1 q x fun v m c=>match v with| .z .pn=>false| .z .ifn=>false| .z .fnn=>false| .p _ _=>c v m|_=>false
def aZY(q:Cx)(op:UnOp)(t:TypeId)(x:Operand):Box (OpF q) :=
 (match op,(ti q.E t).k with
   | .not,.b=>op1 q x fun v m c=>oB v fun q=>c (.b (not q)) m
   | .neg,.i k=>unb (oK k) fun ok=>unb (mkK k) fun mk=>unb (mdB k) fun I=>op1 q x fun v m c=>ok v fun a=>c (mk (Nat.mod (Nat.sub I a) I)) m
   | .xor,.i k=>unb (oK k) fun ok=>unb (mkK k) fun mk=>unb (mdB k) fun I=>op1 q x fun v m c=>ok v fun a=>c (mk (Nat.sub (Nat.sub I 1) a)) m
   | _,_=>bad)
def aVr(q:Cx)(t:TypeId)(x:Operand):Box (OpF q) :=
 (match (ti q.E t).k with
   | .ifc=>bad
   | .no=>bad
   | _=>op1 q x fun v m c=>c (.ifc t v) m)
def aZZ(q:Cx)(f:FuncId)(N cs:Array Operand):Box (OpF q) :=
 unb (aL3 q N.toList) fun J=>unb (aL3 q cs.toList) fun I=>.mk fun e m c=>c (.fn f (J e) (I e)) m
def aMe(q:Cx)(t:TypeId)(n k:Operand):Box (OpF q) :=
 (match (ti q.E t).k with
   | .sl e=>bi (!kn q.E e) bad (unb (.mk (ti q.E e)) fun I=>op2 q n k fun v u m c=>oIx v fun n=>oIx u fun k=>bi (Nat.ble n k) (bi (Nat.ble (Nat.mul k I.by') 1099511627776) (bi (Nat.ble k 1099511627776) (aFm (.row true (aD9 k I.z [])) m fun a m=>c (.sl a 0 n k 0) m) false) false) false)
   | _=>bad)
def aMf(q:Cx)(t:TypeId)(x:Operand)(k:Nat):Box (OpF q) :=
 (match aRT (ti q.E t) k with
   | some (off,ft)=>bi (Nat.beq (ti q.E ft).n 0|| !kn q.E ft) bad (op1 q x fun v m c=>oP v fun a o=>c (.p a (Nat.add o off)) m)
   | none=>bad)
def aMg(q:Cx)(t:TypeId)(x:Operand)(k:Nat):Box (OpF q) :=
 (match aRT (ti q.E t) k with
   | some (off,ft)=>bi (!kn q.E ft) bad (unb (.mk (ti q.E ft)) fun i=>op1 q x fun v m c=>aZV v fun l=>aRV (oC i) i.n off l fun r=>c r m)
   | none=>bad)
def aZf(g:V→V→Option Bool)(z:V)(ok:Bool)(v u:V)(m:M)(c:V→M→Bool):Bool:=match g u u with
 | none=>false
 | some _=>match v with
  | .z .mn=>bi ok (c (.tup [z,.b false]) m) (c z m)
  | .m a=>rdO a m fun ob=>aXV ob fun l=>aRW g u l (fun r=>bi ok (c (.tup [r,.b true]) m) (c r m)) (bi ok (c (.tup [z,.b false]) m) (c z m))
  | _=>false
def aIN(q:Cx)(t:TypeId)(x y:Operand)(ok:Bool):Box (OpF q) :=
 (match (ti q.E t).k with
   | .mp kt el=>(match aTr q.E (ti q.E kt).k with
    | some g=>bi (kn q.E el) (unb (.mk (zeroV (ti q.E el))) fun z=>op2 q x y fun v u m c=>aZf g z ok v u m c) bad
    | none=>bad)
   | _=>bad)
def aIO(q:Cx)(x:Operand)(d:TypeId)(ok:Bool):Box (OpF q) :=
 unb (.mk (zeroV (ti q.E d))) fun z=>match (ti q.E d).k with
   | .ifc=>bad
   | .no=>bad
   | _=>op1 q x fun v m c=>match v with
     | .ifc k y=>bi (Nat.beq k d) (bi ok (c (.tup [y,.b true]) m) (c y m)) (bi ok (c (.tup [z,.b false]) m) false)
     | .z .ifn=>bi ok (c (.tup [z,.b false]) m) false
     | _=>false
def aFp(q:Cx)(x:Operand)(k:Nat):Box (OpF q) :=
 op1 q x fun v m c=>match v with| .tup l=>nth l k fun r=>c r m|_=>false
inductive Kd where|call (f:Operand) (args:List Operand)|defer (f:Operand) (args:List Operand)|pan (x:Operand)|recov|op
structure An where
 k:Kd
 rd:List Operand
 f:(q:Cx)→TypeId→Box (OpF q)
 c:Cx→Nat
def an2(f:(q:Cx)→TypeId→Box (OpF q))(rd:List Operand):An:=⟨.op,rd,f,fun _=>0⟩
def aZ0:Option Operand→List Operand→List Operand
 | none,l=>l
 | some x,l=>x::l
def aVs(b:Builtin)(l:List Operand):Kd:=match b with
 | .recover=>.recov
 | .panic=>(match l with| [x]=>.pan x|_=>.op)
 | _=>.op
def bB5(b:Builtin):Nat:=match b with| .append=>3| .copy=>3| .clear=>3| .panic=>3| .recover=>3| .len=>1|_=>0
def aVt(b:Builtin)(args:Array Operand)(I:Array TypeId):An:=⟨aVs b args.toList,args.toList,fun q ty=>kC q b ty args.toList I.toList,fun _=>bB5 b⟩
def aXZ(k:Kd)(rd:List Operand):An:=⟨k,rd,fun _ _=>bad,fun _=>3⟩
def yR(s d:TypeId)(q:Cx):Nat:=match (ti q.E s).k,(ti q.E d).k with| .s,.sl _=>2| .sl _,.s=>1|_,_=>0
def an:Op→An
 | .move x=>an2 (fun q _=>aFo q x) [x]
 | .assign x=>an2 (fun q _=>aFo q x) [x]
 | .pick c a b=>an2 (fun q _=>aQi q c a b) [c,a,b]
 | .alloc t=>⟨.op,[],fun q _=>aMc q t,fun _=>2⟩
 | .box t x=>⟨.op,[x],fun q _=>aVp q t x,fun _=>2⟩
 | .build t I=>an2 (fun q _=>aL9 q t I.toList) (I.toList.map (·.2))
 | .buildSlice t n I=>⟨.op,I.toList.map (·.2),fun q _=>aIL q t n I.toList,fun _=>2⟩
 | .insert t mp k x=>⟨.op,[mp,k,x],fun q _=>aEb q t mp k x,fun _=>3⟩
 | .mapUpdate t mp k x=>⟨.op,[mp,k,x],fun q _=>aEb q t mp k x,fun _=>3⟩
 | .load t a=>⟨.op,[a],fun q _=>aQj q t a,fun _=>1⟩
 | .store t a x=>⟨.op,[a,x],fun q _=>aMd q t a x,fun _=>3⟩
 | .nilCheck x=>an2 (fun q _=>aVq q x) [x]
 | .binOp op t x y Y=>an2 (fun q _=>aVm q op t x y Y) [x,y]
 | .unOp op t x=>an2 (fun q _=>aZY q op t x) [x]
 | .convert s d x=>⟨.op,[x],fun q _=>wL q s d x,yR s d⟩
 | .makeInterface t x=>an2 (fun q _=>aVr q t x) [x]
 | .makeFunc (.func f) U N=>an2 (fun q _=>aZZ q f U N) (U.toList++N.toList)
 | .makeMap t none=>⟨.op,[],fun q _=>aMb q,fun _=>2⟩
 | .makeMap t (some x)=>⟨.op,[x],fun q _=>aIM q t x,fun _=>2⟩
 | .makeSlice t n k=>⟨.op,[n,k],fun q _=>aMe q t n k,fun _=>2⟩
 | .slice t x lo hi mx=>an2 (fun q _=>aL8 q t x lo hi mx) (x::aZ0 lo (aZ0 hi (aZ0 mx [])))
 | .fieldAddr t x k=>an2 (fun q _=>aMf q t x k) [x]
 | .field t x k=>an2 (fun q _=>aMg q t x k) [x]
 | .indexAddr t x y=>an2 (fun q _=>aL5 q t x y) [x,y]
 | .index t x y=>an2 (fun q _=>aL6 q t x y) [x,y]
 | .lookup t x y ok=>⟨.op,[x,y],fun q _=>aIN q t x y ok,fun _=>1⟩
 | .typeAssert x t d ok=>an2 (fun q _=>aIO q x d ok) [x]
 | .extract x k=>an2 (fun q _=>aFp q x k) [x]
 | .call ⟨.builtin b,args,J⟩=>aVt b args J
 | .call ⟨.value f,args,_⟩=>aXZ (.call f args.toList) (f::args.toList)
 | .defer ⟨.value f,args,_⟩=>aXZ (.defer f args.toList) (f::args.toList)
 | .panic x=>aXZ (.pan x) [x]
 | _=>aXZ .op []
def lX(q:Cx)(o:Oper):Box (OpF q):=(an o.op).f q o.type
def kd(o:Oper):Kd:=(an o.op).k
def cls(q:Cx)(o:Oper):Nat:=(an o.op).c q
structure Fx where
 E:En
 n:Nat
 sl:QN 3 Nat
 ks:List Nat
def Fx.ix(x:Fx)(t:Nat):Nat:=bi (Nat.blt t 512) (get 3 t x.sl) 0
abbrev Fx.ε(x:Fx):=QN x.n V
def atC(x:Fx)(k:Nat):Box (x.ε→V):=bi (Nat.beq k 0) (.mk fun _=>.z .j) (acc x.n k)
def Fx.cx(x:Fx):Cx:=⟨x.E,QN x.n V,fun t e=>bi (Nat.beq (x.ix t) 0) (.z .j) (get x.n (x.ix t) e),fun t=>atC x (x.ix t)⟩
def Cx.ext(q:Cx)(d:Nat):Cx:=⟨q.E,V×q.ε,fun t e=>bi (Nat.beq t d) e.1 (q.look t e.2),fun t=>bi (Nat.beq t d) (.mk (fun e=>e.1)) (unb (q.A t) fun f=>.mk fun e=>f e.2)⟩
def aRX(x:Fx)(q:Cx):List Nat→q.ε→x.ε→(x.ε→Bool)→Bool
 | [],_,r,c=>c r
 | t::l,e,r,c=>unb (pA q (.tmp t)) fun f=>unb (put x.n (x.ix t)) fun g=>g r (f e) fun r=>aRX x q l e r c
def aX0(x:Fx)(q:Cx)(base:q.ε→x.ε)(p:V)(e:q.ε)(m:M)(J:KK x.ε):Bool :=
 unb (acc x.n 0) fun gd=>unb (put x.n 0) fun I=>aRX x q (x.ks.filter fun t=>Nat.blt 0 (x.ix t)) e (aA7 (.z .j) x.n) fun r=>I r (gd (base e)) fun r=>J.kx (.pan p) r m
def oFn(v:V)(c:FuncId→List V→List V→Bool):Bool:=match v with| .fn g I l=>c g I l|_=>false
abbrev RF(x:Fx)(q:Cx):=q.ε→M→KK x.ε→Bool
def noR{x:Fx}{q:Cx}:Box (RF x q):=.mk fun _ _ _=>false
def wbL(x:Fx)(q:Cx):List Nat→Box (q.ε→x.ε→(x.ε→Bool)→Bool)
 | []=>.mk fun _ r c=>c r
 | d::l=>unb (pA q (.tmp d)) fun f=>unb (put x.n (x.ix d)) fun g=>unb (wbL x q l) fun h=>.mk fun e r c=>g r (f e) fun r=>h e r c
def aTs(x:Fx)(q:Cx)(base:q.ε→x.ε)(wb:List Nat):Box (RF x q):=unb (wbL x q wb) fun w=>.mk fun e m I=>w e (base e) fun r=>I.kn r m
def aBB(x:Fx)(q:Cx)(base:q.ε→x.ε)(o:Oper)(J:Cx)(st:V→q.ε→J.ε)(r:RF x J):Box (RF x q):=match kd o with
 | .call f args=>unb (pA q f) fun Y=>unb (aL3 q args) fun N=>.mk fun e m I=>oFn (Y e) fun g fs l=>I.cf g (fs++N e++l) m (fun v m=>r (st v e) m I) (fun p m=>aX0 x q base p e m I)
 | .pan a=>unb (pA q a) fun U=>.mk fun e m I=>match U e with
   | .ifc t v=>aX0 x q base (.ifc t v) e m I
   | _=>false
 | .defer _ _=>noR
 | .recov=>noR
 | .op=>unb (lX q o) fun f=>.mk fun e m I=>f e m fun v m=>r (st v e) m I
def trG(x:Fx)(ops:Array Oper)(q:Cx)(base:q.ε→x.ε)(o:Oper)(I:Cx)(st:V→q.ε→I.ε)(r:RF x I):Box (RF x q):=match o.guard with
 | none=>aBB x q base o I st r
 | some (g,p)=>match (ops[g]?).bind (·.dst) with
  | none=>noR
  | some d=>unb (pA q (.tmp d)) fun N=>unb (aBB x q base o I st r) fun f=>.mk fun e m J=>match N e with
    | .b t=>bi (t == p) (f e m J) (r (st (.z .u) e) m J)
    | .z .u=>r (st (.z .u) e) m J
    | _=>false
def xM(x:Fx)(o:Oper)(wb:List Nat):List Nat:=match o.dst with
 | some d=>bi (Nat.blt 0 (x.ix d)) (d::wb) wb
 | none=>wb
def aMh(x:Fx)(q:Cx)(base:q.ε→x.ε)(wb:List Nat)(o:Oper):Box (RF x q):=match kd o,o.dst,o.guard with
 | .defer f args,none,none=>unb (pA q f) fun N=>unb (aL3 q args) fun I=>unb (wbL x q wb) fun w=>unb (acc x.n 0) fun gd=>unb (put x.n 0) fun J=>.mk fun e m Y=>oFn (N e) fun g U l =>
   w e (base e) fun r=>J r (.tup [.fn g [] (U++I e++l),gd r]) fun r=>Y.kn r m
 | _,_,_=>noR
def aRY(o:Oper):Bool:=match kd o with| .defer _ _=>true|_=>false
def aZ1(o:Oper):Option (Nat×Operand):=match o.op,o.guard,o.dst with
 | .move x,none,some d=>some (d,x)
 | .assign x,none,some d=>some (d,x)
 | _,_,_=>none
def aBC(x:Fx)(ops:Array Oper):List Oper→(q:Cx)→(q.ε→x.ε)→List Nat→Box (RF x q)
 | [],q,base,wb=>aTs x q base wb
 | o::l,q,base,wb=>bi (aRY o&&l.isEmpty) (aMh x q base wb o) (match aZ1 o with
  | some (d,y)=>aBC x ops l (q.al d y) base (xM x o wb)
  | none=>match o.dst with
   | some d=>unb (aBC x ops l (q.ext d) (fun e=>base e.2) (xM x o wb)) fun r=>trG x ops q base o (q.ext d) (fun v e=>(v,e)) r
   | none=>unb (aBC x ops l q base wb) fun r=>trG x ops q base o q (fun _ e=>e) r)
def aK9(q:Cx)(o:Oper):Bool:=Nat.beq (cls q o) 3
def aIP(ms:List Nat)(o:Oper):Nat:=o.after.toList.foldl (fun s e=>bi (Region.binds .any e) (Nat.lor s (Nat.lor (Nat.shiftLeft 1 e.on) (ms.getD e.on 0))) s) 0
def fF:List Oper→List Nat→List Nat
 | [],ms=>ms
 | o::l,ms=>fF l (ms++ [aIP ms o])
def hasB(s i:Nat):Bool:=Nat.beq (Nat.mod (Nat.shiftRight s i) 2) 1
def unW(ops:Array Oper)(q:Cx)(o:Oper):Box (q.ε→Bool):=match o.guard with
 | none=>.mk fun _=>false
 | some (g,p)=>match (ops[g]?).bind (·.dst) with
  | none=>.mk fun _=>false
  | some d=>unb (pA q (.tmp d)) fun f=>.mk fun e=>match f e with| .b t=> !(t == p)| .z .u=>true|_=>false
def aTt(a J:Nat)(m m':M):Bool:=rdO a m fun ob=>rdO J m' fun I=>smO ob I
def chk(cl:Nat){q:Cx}(f:OpF q)(un:q.ε→Bool)(v:V)(e:q.ε)(m:M):Bool:=bi (un e) true (bi (Nat.beq cl 1) (f e m fun I _=>smV v I) (match v with
  | .p a o=>f e m fun I m'=>match I with| .p J N=>bi (Nat.beq o N) (aTt a J m m') false|_=>false
  | .sl a o n c y=>f e m fun I m'=>match I with| .sl J N U c' Y=>bi (sm1 (.sl 0 o n c y) (.sl 0 N U c' Y)) (aTt a J m m') false|_=>false
  | .m a=>f e m fun I m'=>match I with| .m J=>aTt a J m m'|_=>false
  | _=>false))
abbrev PC(q:Cx):=List (Nat×(q.ε→M→Bool))
def aIQ{q:Cx}:List Nat→PC q→q.ε→M→Bool
 | [],_,_,_=>true
 | i::l,I,e,m=>bi (match I.find? (fun p=>Nat.beq p.1 i) with|some p=>p.2 e m|none=>false) (aIQ l I e m) false
def PC.up{q:Cx}(d:Nat)(I:PC q):PC (q.ext d):=I.map fun p=>(p.1,fun e m=>p.2 e.2 m)
def aRZ{q:Cx}(o:Oper)(i d:Nat)(f:OpF q)(un:q.ε→Bool)(I:PC q):PC (q.ext d):=bi (Nat.blt 0 (cls q o)&&Nat.blt (cls q o) 3) ((i,fun e m=>chk (cls q o) f un e.1 e.2 m)::I.up d) (I.up d)
def aDo(x:Fx)(ops:Array Oper):List (Nat×List Nat)→(q:Cx)→(q.ε→x.ε)→List Nat→PC q→Box (RF x q)
 | [],q,base,wb,_=>aTs x q base wb
 | (i,U)::l,q,base,wb,I=>match ops[i]? with
  | none=>noR
  | some o=>match o.dst with
   | some d=>unb (lX q o) fun f=>unb (unW ops q o) fun N =>
     unb (aDo x ops l (q.ext d) (fun e=>base e.2) (xM x o wb) (aRZ o i d f N I)) fun r=>trG x ops q base o (q.ext d) (fun v e=>(v,e)) (fun e m J=>bi (aIQ U (aRZ o i d f N I) e m) (r e m J) false)
   | none=>unb (aDo x ops l q base wb I) fun r=>trG x ops q base o q (fun _ e=>e) (fun e m J=>bi (aIQ U I e m) (r e m J) false)
structure OI where
 i:Nat
 c:Nat
 a:Nat
def bBa(q:Cx)(ah:List Nat):List Oper→Nat→List OI
 | [],_=>[]
 | o::l,i=>⟨i,cls q o,ah.getD i 0⟩::bBa q ah l (Nat.succ i)
def aFq(es done:Nat):List OI→List Nat
 | []=>[]
 | o::l=>bi (Nat.beq o.c 3) (aFq es done l) (bi (hasB done o.i) (aFq es done l) (bi (Nat.beq (Nat.land o.a es) (Nat.land (Nat.land o.a es) done)) (o.i::aFq es done l) (aFq es done l)))
def aR0(l:List Nat):Nat:=l.foldl (fun s i=>Nat.lor s (Nat.shiftLeft 1 i)) 0
def aZ2:List OI→List Nat
 | []=>[]
 | o::l=>bi (Nat.beq o.c 3) (o.i::aZ2 l) (aZ2 l)
def rcI(es done a:Nat):List OI→List Nat
 | []=>[]
 | o::l=>bi (Nat.beq o.c 0) (rcI es done a l) (bi (hasB done o.i) (bi (hasB es o.i) (rcI es done a l) (bi (hasB a o.i) (rcI es done a l) (o.i::rcI es done a l))) (rcI es done a l))
def atI(i:Nat):List OI→OI
 | []=>⟨0,0,0⟩
 | o::l=>bi (Nat.beq o.i i) o (atI i l)
def aVu(I:List OI)(J:Nat):List Nat→Nat→List (Nat×List Nat)
 | [],_=>[]
 | i::l,done=>(i,bi (Nat.beq (atI i I).c 2) (rcI J done (atI i I).a I) [])::aVu I J l (Nat.lor done (Nat.shiftLeft 1 i))
def aVv(I:List OI)(J:Nat):List Nat→Nat→List (Nat×List Nat)
 | [],done=>aVu I J (aFq J done I) done
 | e::l,done =>
  let U:=aFq J done I
  let N:=Nat.lor done (aR0 U)
  aVu I J U done++(e,rcI J N (atI e I).a I)::aVv I J l (Nat.lor N (Nat.shiftLeft 1 e))
def aVw(q:Cx)(ops:List Oper):List (Nat×List Nat) :=
 let I:=bBa q (fF ops []) ops 0
 let el:=aZ2 I
 aVv I (aR0 el) el 0
def ndB:List Nat→Bool
 | []=>true
 | i::l=> !l.contains i&&ndB l
def aVx:List Oper→Nat→List (Nat×Nat)
 | [],_=>[]
 | o::l,k=>match o.dst with
  | some d=>(k,d)::aVx l (Nat.succ k)
  | none=>aVx l (Nat.succ k)
def w1(i d:Nat):List (Nat×Nat)→Bool
 | []=>true
 | p::l=>bi (Nat.beq p.2 d) (bi (Nat.beq p.1 i) (w1 i d l) false) (w1 i d l)
def w2(ah:List Nat)(i t:Nat):List (Nat×Nat)→Bool
 | []=>true
 | p::l=>bi (Nat.beq p.2 t) (bi (hasB (ah.getD i 0) p.1||Nat.beq p.1 i||hasB (ah.getD p.1 0) i) (w2 ah i t l) false) (w2 ah i t l)
def bBb(x:Fx)(ah:List Nat)(I:List (Nat×Nat))(i:Nat)(o:Oper):Bool :=
 o.after.toList.all (fun e=> !Region.binds .any e||Nat.blt e.on i) &&
 (match o.guard with|none=>true|some (g,_)=>hasB (ah.getD i 0) g) &&
 (match o.dst with|none=>true|some d=> !(x.ks.contains d)&&w1 i d I) &&
 o.op.operands.toList.all fun y=>match y with| .tmp t=>w2 ah i t I|_=>true
def allI(f:Nat→Oper→Bool):Nat→List Oper→Bool
 | _,[]=>true
 | i,o::l=>bi (f i o) (allI f (Nat.succ i) l) false
def aMi(x:Fx)(ops:List Oper)(I:List (Nat×List Nat)):Bool :=
 let ix:=I.map (·.1)
 ndB ix&&(List.range ops.length).all (fun i=>ix.contains i)&&allI (bBb x (fF ops []) (aVx ops 0)) 0 ops
def aEc(q:Cx)(ops:List Oper)(ah:List Nat)(I:Nat):List (Nat×List Nat)→Nat→Bool
 | [],_=>true
 | (i,U)::l,J=>(match ops[i]? with
  | none=>false
  | some o=>Nat.beq (Nat.land (ah.getD i 0) J) (ah.getD i 0) &&
    Nat.beq (Nat.land (Nat.land J I) (ah.getD i 0)) (Nat.land J I) &&
    (aK9 q o == hasB I i) &&
    (Nat.blt (cls q o) 2||(List.range ops.length).all fun k=> !hasB J k||hasB I k||hasB (ah.getD i 0) k||U.contains k||(match ops[k]? with|some N=>Nat.beq (cls q N) 0|none=>false))) &&
  aEc q ops ah I l (Nat.lor J (Nat.shiftLeft 1 i))
def aQk(x:Fx)(ops:Array Oper):Box (RF x x.cx) :=
 let I:=aVw x.cx ops.toList
 bi (aMi x ops.toList I&&aEc x.cx ops.toList (fF ops.toList []) (aR0 ((List.range ops.size).filter fun i=>match ops[i]? with|some o=>aK9 x.cx o|none=>false)) I 0) (aDo x ops I x.cx (fun e=>e) [] []) noR
def rounds:Nat:=1000000
def aR1{x:Fx}(f:RF x x.cx)(I:KK x.ε)(n:Nat):x.ε→M→Bool :=
 Nat.rec (motive:=fun _=>x.ε→M→Bool) (fun _ _=>false) (fun _ J e m=>f e m ⟨I.cf,J,I.kx⟩) n
abbrev F(x:Fx):=x.ε→M→KK x.ε→Bool
def trC(x:Fx):Code→Box (F x)
 | .skip=>.mk fun e m I=>I.kn e m
 | .label _=>.mk fun e m I=>I.kn e m
 | .region _ ops N=>bi N (aQk x ops) (aBC x ops ops.toList x.cx (fun e=>e) [])
 | .seq a b=>unb (trC x a) fun J=>.mk fun e m I=>J e m ⟨I.cf,fun e m=>unb (trC x b) fun Y=>Y e m I,I.kx⟩
 | .cond c a b=>unb (pA x.cx c) fun fc=>.mk fun e m I=>oB (fc e) fun t=>bi t (unb (trC x a) fun J=>J e m I) (unb (trC x b) fun Y=>Y e m I)
 | .block U a=>unb (trC x a) fun J=>.mk fun e m I=>J e m ⟨I.cf,I.kn,fun y e m=>match y with| .ex i=>bi (Nat.beq i U) (I.kn e m) (I.kx (.ex i) e m)|y=>I.kx y e m⟩
 | .loop a=>unb (trC x a) fun J=>.mk fun e m I=>aR1 J I rounds e m
 | .exit U=>.mk fun e m I=>I.kx (.ex U) e m
 | .ret=>.mk fun e m I=>I.kx .rt e m
 | .scope a=>trC x a
 | _=>.mk fun _ _ _=>false
def aZ3(wr:Nat):List Operand→Nat→Nat
 | [],g=>g
 | .tmp t::l,g=>aZ3 wr l (bi (hasB wr t) g (Nat.lor g (Nat.shiftLeft 1 t)))
 | _::l,g=>aZ3 wr l g
def bB6(ops:Array Oper)(wr:Nat)(gd:Option (Nat×Bool))(g:Nat):Nat:=match gd with
 | none=>g
 | some (k,_)=>match (ops[k]?).bind (·.dst) with
  | some d=>bi (hasB wr d) g (Nat.lor g (Nat.shiftLeft 1 d))
  | none=>g
def bBc(ops:Array Oper):List Oper→Nat→Nat→Nat
 | [],_,g=>g
 | o::l,wr,g=>bBc ops l (match o.dst with|some d=>Nat.lor wr (Nat.shiftLeft 1 d)|none=>wr) (bB6 ops wr o.guard (aZ3 wr (an o.op).rd g))
def aGk:Code→Nat→Nat
 | .region _ ops _,g=>bBc ops ops.toList 0 g
 | .seq a b,g=>aGk b (aGk a g)
 | .cond c a b,g=>aGk b (aGk a (match c with| .tmp t=>Nat.lor g (Nat.shiftLeft 1 t)|_=>g))
 | .block _ a,g=>aGk a g
 | .loop a,g=>aGk a g
 | .scope a,g=>aGk a g
 | _,g=>g
def aZ4:List ResultVar→List Nat
 | []=>[]
 | .tmp t::l=>t::aZ4 l
 | .cell t _::l=>t::aZ4 l
def aCH(g:Nat):Nat→Nat→List Nat
 | 0,_=>[]
 | n+1,i=>bi (hasB g i) (i::aCH g n (Nat.succ i)) (aCH g n (Nat.succ i))
def aVy:List ResultVar→List Nat
 | []=>[]
 | .tmp _::l=>aVy l
 | .cell t _::l=>t::aVy l
def aOm:List Nat→Nat→QN 3 Nat
 | [],_=>aA7 0 3
 | t::l,k=>upd 3 t k (aOm l (Nat.succ k))
def aVz:List Nat→Nat
 | []=>0
 | _::l=>Nat.succ (aVz l)
def aIR(I:Code)(nt:Nat)(res:List ResultVar):List Nat:=aCH ((aZ4 res).foldl (fun g t=>Nat.lor g (Nat.shiftLeft 1 t)) (aGk I 0)) nt 0
def lvl(n:Nat):Nat:=bi (Nat.blt n 7) 1 (bi (Nat.blt n 63) 2 3)
def xX(E:En)(I:Code)(nt:Nat)(res:List ResultVar):Fx:=⟨E,lvl (aVz (aIR I nt res)),aOm (aIR I nt res) 1,aVy res⟩
def aIS(x:Fx):List V→Nat→x.ε→(x.ε→Bool)→Bool
 | [],_,e,c=>c e
 | v::l,k,e,c=>bi (Nat.blt 0 (x.ix k)) (unb (put x.n (x.ix k)) fun f=>f e v fun e=>aIS x l (Nat.succ k) e c) (aIS x l (Nat.succ k) e c)
def aJ7(x:Fx):List ResultVar→x.ε→M→(List V→Bool)→Bool
 | [],_,_,c=>c []
 | .tmp t::l,e,m,c=>unb (pA x.cx (.tmp t)) fun f=>aJ7 x l e m fun r=>c (f e::r)
 | .cell t ty::l,e,m,c=>unb (pA x.cx (.tmp t)) fun f=>bi (kn x.E ty) (unb (.mk (ti x.E ty)) fun i =>
   bi (oC i) (ldN i.n (f e) m fun y=>aJ7 x l e m fun r=>c (y::r)) (ld1 (f e) m fun y=>aJ7 x l e m fun r=>c (y::r))) false
def aIT(l:List V):V:=match l with| [v]=>v|l=>.tup l
def aZ5(c:Code):Option (Option Tmp×Array Oper×List Oper×Code):=match c with
 | .seq (.region _ ops false) rest=>match ops.toList with
  | o::l=>match kd o,o.guard with
   | .recov,none=>some (o.dst,ops,l,rest)
   | _,_=>none
  | []=>none
 | _=>none
def aZ6(x:Fx)(d:Option Tmp)(v:V)(e:x.ε)(c:x.ε→Bool):Bool:=match d with
 | some d=>bi (Nat.blt 0 (x.ix d)) (unb (put x.n (x.ix d)) fun f=>f e v c) (c e)
 | none=>c e
def aVA(x:Fx)(c:M→Bool)(e:x.ε)(m:M):Bool:=unb (acc x.n 0) fun gd=>match gd e with
 | .z .u=>c m
 | _=>false
def kxD(x:Fx)(c:M→Bool)(y:X)(e:x.ε)(m:M):Bool:=match y with
 | .rt=>aVA x c e m
 | _=>false
def aZ7(p:Option V):V:=match p with
 | some v=>v
 | none=>.z .ifn
def aVB(x:Fx)(cf:CF)(d:Option Tmp)(ops:Array Oper)(l:List Oper)(rest:Code)(cs:List V)(p:Option V)(m:M)(c:M→Bool):Bool :=
 aIS x cs 0 (aA7 (.z .u) _) fun e=>aZ6 x d (aZ7 p) e fun e=>unb (aBC x ops l x.cx (fun e=>e) []) fun J=>unb (trC x rest) fun I =>
  J e m ⟨cf,fun e m=>I e m ⟨cf,aVA x c,kxD x c⟩,fun _ _ _=>false⟩
def aZ8(E:En)(cf:CF)(J:V→Option V→M→(Option V→M→Bool)→Bool)(ds:V)(p:Option V)(m:M)(k:Option V→M→Bool):Bool:=match ds with
 | .z .u=>k p m
 | .tup [.fn g [] N,I]=>(match (bi (Nat.blt g 4096) (get 4 g E.ft) .no) with
  | .fi U nt []=>(match aZ5 U with
   | some (d,ops,l,rest)=>aVB (xX E (.seq (.region 0 l.toArray false) rest) nt []) cf d ops l rest N p m fun m=>J I none m k
   | none=>false)
  | _=>false)
 | _=>false
def aX1(E:En)(cf:CF)(n:Nat):V→Option V→M→(Option V→M→Bool)→Bool :=
 Nat.rec (motive:=fun _=>V→Option V→M→(Option V→M→Bool)→Bool) (fun _ _ _ _=>false) (fun _ I=>aZ8 E cf I) n
def aOn(x:Fx)(cf:CF)(res:List ResultVar)(I kp:V→M→Bool)(p:Option V)(e:x.ε)(m:M):Bool :=
 unb (acc x.n 0) fun gd=>match gd e,p with
  | .z .u,none=>aJ7 x res e m fun l=>I (aIT l) m
  | .z .u,some v=>kp v m
  | ds,p=>aX1 x.E cf 100 ds p m fun p m=>match p with|none=>aJ7 x res e m fun l=>I (aIT l) m|some v=>kp v m
def kxF(x:Fx)(cf:CF)(res:List ResultVar)(I kp:V→M→Bool)(y:X)(e:x.ε)(m:M):Bool:=match y with
 | .rt=>aOn x cf res I kp none e m
 | .pan v=>aOn x cf res I kp (some v) e m
 | _=>false
def aVC(E:En)(cf:CF)(f:FuncId)(vs:List V)(m:M)(N kp:V→M→Bool)(U:FE):Bool:=match U with
 | .no=>false
 | .nat g=>g vs m fun v=>N v m
 | .mem g=>g vs m N
 | .fi J nt res=>aIS (xX E J nt res) vs 0 (aA7 (.z .u) _) fun e=>unb (trC (xX E J nt res) J) fun I =>
   I e m ⟨cf,fun e m=>aOn (xX E J nt res) cf res N kp none e m,kxF (xX E J nt res) cf res N kp⟩
def aAS(E:En)(n:Nat):CF :=
 Nat.rec (motive:=fun _=>CF) (fun _ _ _ _ _=>false) (fun _ cf f N m I kp=>bi (Nat.blt f 4096) (unb (acc 4 f) fun J=>aVC E cf f N m I kp (J E.ft)) false) n
end
end Go.It
namespace Go.It
noncomputable section
def mkT{α:Type}(z:α):List (Nat×α)→QN 4 α
 | []=>aA7 z 4
 | (n,x)::l=>upd 4 n x (mkT z l)
def aX2(fn:Func):FE:=match fn.body with
 | some c=>.fi c fn.ntmps fn.results.toList
 | none=>.no
def fnL(P:Program)(I:List (FuncId×(List V→M→(V→Bool)→Bool)))(J:List FuncId):List (FuncId×FE):=I.map (fun p=>(p.1,.nat p.2))++J.filterMap fun f=>(P.funcs[f]?).map fun fn=>(f,aX2 fn)
def mkE(P:Program)(tt:List (TypeId×TI))(I:List (FuncId×(List V→M→(V→Bool)→Bool)))(J:List FuncId)(gl:Nat→V):En:=⟨mkT aXW tt,mkT .no (fnL P I J),gl⟩
def n3(vs:List V)(f:Nat→Nat→Nat→(V→Bool)→Bool)(c:V→Bool):Bool:=match vs with| [.w a,.w b,.w d]=>f a b d c|_=>false
def aQl(vs:List V)(_:M)(c:V→Bool):Bool:=n3 vs (fun a b d c=>bi (Nat.ble d 1) (c (.tup [.w (Nat.mod (Nat.add (Nat.add a b) d) 18446744073709551616),.w (Nat.div (Nat.add (Nat.add a b) d) 18446744073709551616)])) false) c
def aQm(vs:List V)(_:M)(c:V→Bool):Bool:=n3 vs (fun a b d c=>bi (Nat.ble d 1) (c (.tup [.w (Nat.mod (Nat.add a (Nat.sub 36893488147419103232 (Nat.add b d))) 18446744073709551616),.w (bi (Nat.blt a (Nat.add b d)) 1 0)])) false) c
end
end Go.It
namespace Go.It
noncomputable section
theorem aV{α β:Type}(a:α)(f:α→β):unb (.mk a) f=f a:=rfl
theorem aQn(k:Nat):k%8=0∨k%8=1∨k%8=2∨k%8=3∨k%8=4∨k%8=5∨k%8=6∨k%8=7:=by omega
theorem aBD{α:Type}:∀(n k:Nat),acc (α:=α) n k= .mk fun t=>get n k t
 | 0,_=>rfl
 | n+1,k=>by
  have I:=aBD (α:=α) n (k/8);simp only[acc];rw[show Nat.div k 8=k/8 from rfl,I,aV,show Nat.mod k 8=k%8 from rfl];rcases aQn k with h|h|h|h|h|h|h|h<;>rw[h]<;>(show Box.mk _=Box.mk _)<;>congr 1<;>funext t<;>cases t <;>
   simp only[get,show Nat.mod k 8=k%8 from rfl,show Nat.div k 8=k/8 from rfl,h]<;>rfl
theorem put_eq{α:Type}:∀(n k:Nat),put (α:=α) n k= .mk fun t x c=>c (upd n k x t)
 | 0,_=>rfl
 | n+1,k=>by
  have I:=put_eq (α:=α) n (k/8);simp only[put];rw[show Nat.div k 8=k/8 from rfl,I,aV,show Nat.mod k 8=k%8 from rfl];rcases aQn k with h|h|h|h|h|h|h|h<;>rw[h]<;>(show Box.mk _=Box.mk _)<;>congr 1<;>funext t x c<;>cases t <;>
   simp only[upd,show Nat.mod k 8=k%8 from rfl,show Nat.div k 8=k/8 from rfl,h]<;>rfl
theorem qR{α:Type}:∀(n k:Nat) (x:α) (t:QN n α),get n k (upd n k x t)=x
 | 0,_,_,_=>rfl
 | n+1,k,x,.m a0 a1 a2 a3 a4 a5 a6 a7=>by
  have I:=fun t=>qR n (k/8) x t;simp only[upd,show Nat.mod k 8=k%8 from rfl,show Nat.div k 8=k/8 from rfl];rcases aQn k with h|h|h|h|h|h|h|h<;>rw[h]<;>simp only[d8,get,show Nat.mod k 8=k%8 from rfl,show Nat.div k 8=k/8 from rfl,h]<;>exact I _
theorem gU{α:Type}:∀(n k j:Nat) (x:α) (t:QN n α),k<8^n→j<8^n→k≠j→get n j (upd n k x t)=get n j t
 | 0,k,j,_,_,U,Y,I=>absurd (by omega) I
 | n+1,k,j,x,.m a0 a1 a2 a3 a4 a5 a6 a7,U,Y,I=>by
  have J:k/8<8^n:=by rw[Nat.pow_succ] at U; omega
  have N:j/8<8^n:=by rw[Nat.pow_succ] at Y; omega
  simp only[upd,show Nat.mod k 8=k%8 from rfl,show Nat.div k 8=k/8 from rfl];by_cases hd:k%8=j%8
  ·have hq:k/8≠j/8:=(by omega);have ih:=fun t=>gU n (k/8) (j/8) x t J N hq;rcases aQn k with h|h|h|h|h|h|h|h<;>rw[h]<;>(rw[h] at hd)<;>simp only[d8,get,show Nat.mod j 8=j%8 from rfl,show Nat.div j 8=j/8 from rfl,← hd]<;>exact ih _
  ·rcases aQn k with h|h|h|h|h|h|h|h<;>rw[h]<;>(rw[h] at hd)<;>simp only[d8,get,show Nat.mod j 8=j%8 from rfl,show Nat.div j 8=j/8 from rfl] <;>
    (rcases aQn j with g|g|g|g|g|g|g|g<;>first|(exact absurd g.symm hd)|(rw[g]; rfl))
theorem aCo{α:Type}(z:α):∀(n k:Nat),get n k (aA7 z n)=z
 | 0,_=>rfl
 | n+1,k=>by
  have I:=aCo z n (k/8);simp only[aA7,get,show Nat.mod k 8=k%8 from rfl,show Nat.div k 8=k/8 from rfl];rcases aQn k with h|h|h|h|h|h|h|h<;>rw[h]<;>exact I
theorem cA{b:Bool}{x:Bool}(h:(bi b x false)=true):b=true∧x=true:=by cases b<;>simp_all
theorem aMj:∀ {l:List V} {n:Nat} {c:V→Bool},nth l n c=true→ ∃x,l[n]? = some x∧c x=true
 | [],_,_,h=>by cases h
 | x::l,0,_,h=>⟨x,rfl,h⟩
 | x::l,n+1,c,h=>by
  have h':nth l n c=true:=h;obtain⟨y,I,J⟩:=aMj h';exact⟨y,by simpa using I,J⟩
theorem wM:∀ {n:Nat} {l:List V} {c:List V→Bool},aD8 n l c=true→n≤l.length∧c (l.take n)=true
 | 0,l,c,h=>⟨Nat.zero_le _,by simpa [aD8] using h⟩
 | n+1,[],c,h=>by simp[aD8] at h
 | n+1,x::l,c,h=>by
  obtain⟨I,J⟩:=wM (c:=fun r=>c (x::r)) (by simpa [aD8] using h);exact⟨by simpa using I,by simpa using J⟩
theorem yS:∀ {n:Nat} {l:List V} {c:List V→Bool},aGi n l c=true→n≤l.length∧c (l.drop n)=true
 | 0,l,c,h=>⟨Nat.zero_le _,by simpa [aGi] using h⟩
 | n+1,[],c,h=>by simp[aGi] at h
 | n+1,x::l,c,h=>by
  obtain⟨I,J⟩:=yS (c:=c) (by simpa [aGi] using h);exact⟨by simpa using I,by simpa using J⟩
theorem aOo:∀ {ds l:List V} {c:List V→Bool},aK8 ds l c=true→ds.length≤l.length∧c (ds++l.drop ds.length)=true
 | [],l,c,h=>⟨Nat.zero_le _,by simpa [aK8] using h⟩
 | d::ds,[],c,h=>by simp[aK8] at h
 | d::ds,x::l,c,h=>by
  obtain⟨I,J⟩:=aOo (c:=fun r=>c (d::r)) (by simpa [aK8] using h);exact⟨by simpa using I,by simpa using J⟩
theorem aCp:∀ {o:Nat} {ds l:List V} {c:List V→Bool},aJ5 o ds l c=true→o+ds.length≤l.length∧c (l.take o++ds++l.drop (o+ds.length))=true
 | 0,ds,l,c,h=>by
  obtain⟨J,I⟩:=aOo (by simpa [aJ5] using h);exact⟨by simpa using J,by simpa using I⟩
 | n+1,ds,[],c,h=>by simp[aJ5] at h
 | n+1,ds,x::l,c,h=>by
  obtain⟨J,I⟩:=aCp (c:=fun r=>c (x::r)) (by simpa [aJ5] using h);exact⟨by simp; omega,by rw[show n+1+ds.length=(n+ds.length)+1 from by omega]; simpa using I⟩
theorem aHJ:∀(l r:List V) (c:List V→Bool),aVj l r c=c (l++r)
 | [],r,c=>rfl
 | x::l,r,c=>by simp[aVj,aHJ l]
theorem aCq:∀l:List V,aII l=l.length
 | []=>rfl
 | _::l=>by simp[aII,aCq l]
theorem bBd{v:V}{c:Nat→Bool}(h:oI v c=true):∃n,v= .i n∧c n=true:=by cases v<;>first|exact⟨_,rfl,h⟩|cases h
theorem aZg{v:V}{c:Nat→Bool}(h:oW v c=true):∃n,v= .w n∧c n=true:=by cases v<;>first|exact⟨_,rfl,h⟩|cases h
theorem aR2{v:V}{c:Bool→Bool}(h:oB v c=true):∃n,v= .b n∧c n=true:=by cases v<;>first|exact⟨_,rfl,h⟩|cases h
theorem aIU{v:V}{c:Nat→Nat→Bool}(h:oP v c=true):∃a o,v= .p a o∧c a o=true:=by cases v<;>first|exact⟨_,_,rfl,h⟩|cases h
theorem aIV{v:V}{c:Nat→Nat→Bool}(h:oS v c=true):∃n x,v= .s n x∧c n x=true:=by cases v<;>first|exact⟨_,_,rfl,h⟩|cases h
theorem aR3{v:V}{c:List V→Bool}(h:aZV v c=true):∃l,v= .agg l∧c l=true:=by cases v<;>first|exact⟨_,rfl,h⟩|cases h
theorem aQo{v:V}{c:FuncId→List V→List V→Bool}(h:oFn v c=true):∃g I l,v= .fn g I l∧c g I l=true:=by cases v<;>first|exact⟨_,_,_,rfl,h⟩|cases h
theorem sR{o:O}{c:Bool→List V→Bool}(h:aOl o c=true):∃w l,o= .row w l∧c w l=true:=by cases o<;>first|exact⟨_,_,rfl,h⟩|cases h
theorem aMk{o:O}{c:List (V×V)→Bool}(h:aXV o c=true):∃l,o= .map l∧c l=true:=by cases o<;>first|exact⟨_,rfl,h⟩|cases h
def ob(m:M)(a:Nat):O:=get HN a m.h
theorem pB(a:Nat)(m:M)(c:O→Bool):rdO a m c=c (ob m a):=by
 obtain⟨h,nx⟩:=m;show unb (acc HN a) (fun f=>c (f h))=_;rw[aBD]; rfl
def wr(m:M)(a:Nat)(o:O):M:=⟨upd HN a o m.h,m.nx⟩
theorem aFr(a:Nat)(o:O)(m:M)(c:M→Bool):wrO a o m c=c (wr m a o):=by
 obtain⟨h,nx⟩:=m;show unb (put HN a) (fun f=>f h o fun h=>c ⟨h,nx⟩)=_;rw[put_eq]; rfl
def nw(m:M)(o:O):M:=⟨upd HN m.nx o m.h,m.nx+1⟩
theorem sS{o:O}{m:M}{c:Nat→M→Bool}(h:aFm o m c=true):m.nx<262144∧c m.nx (nw m o)=true:=by
 obtain⟨N,nx⟩:=m;have h:(bi (Nat.blt nx 262144) (unb (put HN nx) fun g=>g N o fun h=>c nx ⟨h,Nat.succ nx⟩) false)=true:=h;rw[put_eq] at h;obtain⟨I,J⟩:=cA h;exact⟨by simpa using I,J⟩
theorem aZh(m:M)(a:Nat)(o:O):ob (wr m a o) a=o:=qR _ _ _ _
theorem aOp(m:M){a b:Nat}(o:O)(I:a<262144)(hb:b<262144)(h:a≠b):ob (wr m a o) b=ob m b:=gU HN a b o m.h I hb h
theorem aOq(m:M)(o:O):ob (nw m o) m.nx=o:=qR _ _ _ _
theorem aOr(m:M){b:Nat}(o:O)(I:m.nx<262144)(hb:b<262144)(h:m.nx≠b):ob (nw m o) b=ob m b:=gU HN m.nx b o m.h I hb h
theorem aVD{v:V}{m:M}{c:V→Bool}(h:ld1 v m c=true):∃a o w l x,v= .p a o∧ob m a= .row w l∧l[o]? = some x∧c x=true:=by
 obtain⟨a,o,rfl,k⟩:=aIU h;dsimp only[aGj] at k; rw[pB] at k;obtain⟨w,l,I,h⟩:=sR k;obtain⟨x,J,h⟩:=aMj h;exact⟨a,o,w,l,x,rfl,I,J,h⟩
theorem aVE{n:Nat}{v:V}{m:M}{c:V→Bool}(h:ldN n v m c=true):∃a o w l,v= .p a o∧ob m a= .row w l∧o+n≤l.length∧c (.agg ((l.drop o).take n))=true:=by
 obtain⟨a,o,rfl,k⟩:=aIU h;dsimp only[aGj] at k; rw[pB] at k;obtain⟨w,l,I,h⟩:=sR k;obtain⟨N,h⟩:=yS h;obtain⟨J,h⟩:=wM h;simp only[List.length_drop] at J;exact⟨a,o,w,l,rfl,I,by omega,h⟩
theorem aZ9{n:Nat}{v x:V}{m:M}{c:M→Bool}(h:stN n v x m c=true) :
  ∃a o l,v= .p a o∧ob m a= .row true l∧(kM x).length=n∧o+n≤l.length∧c (wr m a (.row true (l.take o++kM x++l.drop (o+n))))=true:=by
 obtain⟨a,o,hv,k⟩:=aIU h;rw[pB] at k;obtain⟨w,l,J,U⟩:=sR k;obtain⟨h2,Y⟩:=cA U;obtain⟨I,k3⟩:=cA Y;have I:(kM x).length=n:=by rw[← aCq]; exact Nat.eq_of_beq_eq_true I
 obtain⟨h4,N⟩:=aCp k3;rw[aFr] at N;rw[h2] at J;exact⟨a,o,l,hv,J,I,by omega,by rw[← I]; exact N⟩
end
end Go.It
namespace Go.It
noncomputable section
open Go.RowKit
open Go.Vc (bG aY)
abbrev Rho:=Nat→Option (Nat×Nat×Nat)
def Rho.le(ρ ρ':Rho):Prop:=∀a x,ρ a=some x→ρ' a=some x
theorem Rho.le.refl(ρ:Rho):ρ.le ρ:=fun _ _ h=>h
theorem Rho.le.trans{a b c:Rho}(h:a.le b)(k:b.le c):a.le c:=fun x y I=>k x y (h x y I)
def zR:Z→Value→Prop
 | .pn,x=>x= .pointer none
 | .sn,x=>x= .slice none 0 0
 | .mn,x=>x= .map none
 | .fnn,x=>x= .nilFunc
 | .ifn,x=>x= .nilIface
 | .u,x=>x= .tuple #[]
 | .j,_=>True
def kD:V→Bool
 | .agg _=>false
 | .tup _=>false
 | .z .u=>false
 | .z .j=>false
 | _=>true
mutual
def VR(ρ:Rho):V→Value→Prop
 | .i n,x=>x= .int .i64 (dec .i64 n)∧n<2^64
 | .w n,x=>x= .int .u64 n∧n<2^64
 | .k k n,x=>x= .int k (dec k n)∧n<2^k.bits
 | .b c,x=>x= .bool c
 | .s n y,x=>∃s:ByteArray,x= .string s∧s.data.toList.length=n∧num s.data.toList=y∧n≤maxLen
 | .p a o,x=>∃r b N,ρ a=some (r,b,N)∧x= .pointer (some ⟨r,b+o,none⟩)
 | .sl a o n c q,x=>∃adr c',x= .slice (some adr) n c'∧n≤c∧c≤c'∧c'≤maxLen∧(q=0→c'=c)∧((c=0∧q≠0)∨ ∃r b N,ρ a=some (r,b,N)∧adr=⟨r,b+o,none⟩∧(q≠0→o+c'*q≤N))
 | .z k,x=>zR k x
 | .m a,x=>∃r N,ρ a=some (r,0,N)∧x= .map (some r)
 | .agg l,x=>∃xs:List Value,x= .agg xs.toArray∧VRL ρ l xs∧l.all kD=true
 | .tup l,x=>∃xs:List Value,x= .tuple xs.toArray∧VRL ρ l xs
 | .fn f fs l,x=>∃xs ys:List Value,x= .func (.func f) xs.toArray ys.toArray∧VRL ρ fs xs∧VRL ρ l ys
 | .ifc t v,x=>∃y,x= .iface t y∧VR ρ v y
 | .q k c n,x=>∃y,x= .int k (dec k y)∧y<2^k.bits∧y%c=n
def VRL(ρ:Rho):List V→List Value→Prop
 | [],xs=>xs= []
 | v::l,xs=>∃y ys,xs=y::ys∧VR ρ v y∧VRL ρ l ys
end
mutual
theorem VR.mono{ρ ρ':Rho}(h:ρ.le ρ'):∀ {v:V} {x:Value},VR ρ v x→VR ρ' v x
 | .i _,_,hv=>by simpa [VR] using hv
 | .w _,_,hv=>by simpa [VR] using hv
 | .k _ _,_,hv=>by simpa [VR] using hv
 | .b _,_,hv=>by simpa [VR] using hv
 | .s _ _,_,hv=>by simpa [VR] using hv
 | .z _,_,hv=>by simpa [VR] using hv
 | .p a o,_,hv=>by
  simp only[VR] at *;obtain⟨r,b,N,h1,h2⟩:=hv;exact⟨r,b,N,h _ _ h1,h2⟩
 | .sl a o n c q,_,hv=>by
  simp only[VR] at *;obtain⟨adr,c',h1,h2,h3,h4,h5,h6⟩:=hv;refine⟨adr,c',h1,h2,h3,h4,h5,h6.imp id ?_⟩;rintro⟨r,b,N,g1,g2,g3⟩;exact⟨r,b,N,h _ _ g1,g2,g3⟩
 | .m a,_,hv=>by
  simp only[VR] at *;obtain⟨r,N,h1,h2⟩:=hv;exact⟨r,N,h _ _ h1,h2⟩
 | .agg l,_,hv=>by
  simp only[VR] at *;obtain⟨xs,h1,h2,h3⟩:=hv;exact⟨xs,h1,VRL.mono h h2,h3⟩
 | .tup l,_,hv=>by
  simp only[VR] at *;obtain⟨xs,h1,h2⟩:=hv;exact⟨xs,h1,VRL.mono h h2⟩
 | .fn f fs l,_,hv=>by
  simp only[VR] at *;obtain⟨xs,ys,h1,h2,h3⟩:=hv;exact⟨xs,ys,h1,VRL.mono h h2,VRL.mono h h3⟩
 | .ifc t v,_,hv=>by
  simp only[VR] at *;obtain⟨y,h1,h2⟩:=hv;exact⟨y,h1,VR.mono h h2⟩
 | .q _ _ _,_,hv=>by simpa [VR] using hv
theorem VRL.mono{ρ ρ':Rho}(h:ρ.le ρ'):∀ {l:List V} {xs:List Value},VRL ρ l xs→VRL ρ' l xs
 | [],_,hv=>by simpa [VRL] using hv
 | v::l,_,hv=>by
  simp only[VRL] at *;obtain⟨y,ys,h1,h2,h3⟩:=hv;exact⟨y,ys,h1,VR.mono h h2,VRL.mono h h3⟩
end
theorem VRL.length{ρ:Rho}:∀ {l:List V} {xs:List Value},VRL ρ l xs→xs.length=l.length
 | [],_,h=>by simp only[VRL] at h; subst h; rfl
 | v::l,_,h=>by
  simp only[VRL] at h;obtain⟨y,I,rfl,_,h⟩:=h;simp[h.length]
theorem VRL.get{ρ:Rho}:∀ {l:List V} {xs:List Value},VRL ρ l xs→ ∀ {i:Nat} {v:V},l[i]? = some v→ ∃x,xs[i]? = some x∧VR ρ v x
 | [],_,h,i,v,hi=>by simp at hi
 | v::l,_,h,i,u,hi=>by
  simp only[VRL] at h;obtain⟨y,N,rfl,I,J⟩:=h;cases i with
  | zero=>simp at hi; subst hi; exact⟨y,rfl,I⟩
  | succ i=>simpa using J.get (by simpa using hi)
theorem VRL.take{ρ:Rho}:∀ {l:List V} {xs:List Value} (n:Nat),VRL ρ l xs→VRL ρ (l.take n) (xs.take n)
 | l,xs,0,h=>by simp[VRL]
 | [],_,n+1,h=>by simp only[VRL] at h; subst h; simp[VRL]
 | v::l,_,n+1,h=>by
  simp only[VRL] at h;obtain⟨y,N,rfl,I,J⟩:=h;simp only[List.take_succ_cons,VRL];exact⟨y,_,rfl,I,J.take n⟩
theorem VRL.drop{ρ:Rho}:∀ {l:List V} {xs:List Value} (n:Nat),VRL ρ l xs→VRL ρ (l.drop n) (xs.drop n)
 | l,xs,0,h=>by simpa using h
 | [],_,n+1,h=>by simp only[VRL] at h; subst h; simp[VRL]
 | v::l,_,n+1,h=>by
  simp only[VRL] at h;obtain⟨y,N,rfl,J,I⟩:=h
  simpa using I.drop n
theorem VRL.append{ρ:Rho}:∀ {l r:List V} {xs ys:List Value},VRL ρ l xs→VRL ρ r ys→VRL ρ (l++r) (xs++ys)
 | [],r,_,ys,h,k=>by simp only[VRL] at h; subst h; simpa using k
 | v::l,r,_,ys,h,k=>by
  simp only[VRL] at h;obtain⟨y,N,rfl,I,J⟩:=h;simp only[List.cons_append,VRL];exact⟨y,_,rfl,I,J.append k⟩
theorem VRL.single{ρ:Rho}{v:V}{x:Value}(h:VR ρ v x):VRL ρ [v] [x]:=by simp only[VRL]; exact⟨x,[],rfl,h,rfl⟩
theorem VRL.of{ρ:Rho}:∀ {l:List V} {xs:List Value},xs.length=l.length→(∀(i:Nat) (v:V) (x:Value),l[i]? = some v→xs[i]? = some x→VR ρ v x)→VRL ρ l xs
 | [],xs,I,_=>by simp only[VRL]; exact List.eq_nil_of_length_eq_zero I
 | v::l,[],I,_=>by simp at I
 | v::l,x::xs,I,h=>by
  simp only[VRL];exact⟨x,xs,rfl,h 0 v x rfl rfl,VRL.of (by simpa using I) fun i u y J N=>h (i+1) u y (by simpa using J) (by simpa using N)⟩
theorem wC{ρ:Rho}{v:V}{x:Value}(h:kD v=true)(hv:VR ρ v x):x.oneCell'=true∧x.cells= #[x]:=by
 cases v with
 | z k=>cases k<;>simp[kD] at h<;>simp only[VR,zR] at hv<;>subst hv<;>exact⟨rfl,rfl⟩
 | agg l=>simp[kD] at h
 | tup l=>simp[kD] at h
 | i n=>simp only[VR] at hv; obtain⟨rfl,_⟩:=hv; exact⟨rfl,rfl⟩
 | w n=>simp only[VR] at hv; obtain⟨rfl,_⟩:=hv; exact⟨rfl,rfl⟩
 | k k n=>simp only[VR] at hv; obtain⟨rfl,_⟩:=hv; exact⟨rfl,rfl⟩
 | b c=>simp only[VR] at hv; subst hv; exact⟨rfl,rfl⟩
 | s n y=>simp only[VR] at hv; obtain⟨s,rfl,_⟩:=hv; exact⟨rfl,rfl⟩
 | p a o=>simp only[VR] at hv; obtain⟨r,b,N,_,rfl⟩:=hv; exact⟨rfl,rfl⟩
 | sl a o n c q=>simp only[VR] at hv; obtain⟨I,c',rfl,_⟩:=hv; exact⟨rfl,rfl⟩
 | m a=>simp only[VR] at hv; obtain⟨r,N,_,rfl⟩:=hv; exact⟨rfl,rfl⟩
 | fn f U l=>simp only[VR] at hv; obtain⟨J,Y,rfl,_⟩:=hv; exact⟨rfl,rfl⟩
 | ifc t v=>simp only[VR] at hv; obtain⟨y,rfl,_⟩:=hv; exact⟨rfl,rfl⟩
 | q k c n=>simp only[VR] at hv; obtain⟨y,rfl,_⟩:=hv; exact⟨rfl,rfl⟩
theorem VRL.one{ρ:Rho}:∀ {l:List V} {xs:List Value},VRL ρ l xs→l.all kD=true→ ∀x∈xs,x.oneCell'=true
 | [],_,h,_,x,I=>by simp only[VRL] at h; subst h; cases I
 | v::l,_,h,J,x,I=>by
  simp only[VRL] at h;obtain⟨y,Y,rfl,U,N⟩:=h;simp only[List.all_cons,Bool.and_eq_true] at J;rcases List.mem_cons.1 I with rfl|I
  ·exact(wC J.1 U).1
  ·exact N.one J.2 x I
theorem aIW{ρ:Rho}{v:V}{x:Value}(hv:VR ρ v x)(I:0<(kM v).length):VRL ρ (kM v) x.cells.toList∧(kM v).all kD=true:=by
 by_cases h:kD v=true
 ·have hc:=wC h hv;have e:kM v= [v]:=by
   cases v<;>first|rfl|(simp[kD] at h; done)|skip
   rename_i k;cases k<;>first|rfl|(simp[kD] at h)
  rw[e,hc.2];exact⟨VRL.single hv,by simp[h]⟩
 ·cases v<;>first|(exact absurd rfl h)|skip
  case agg l =>
   simp only[VR] at hv;obtain⟨U,rfl,J,N⟩:=hv;exact⟨by simpa [Value.cells,kM] using J,by simpa [kM] using N⟩
  case tup l=>simp[kM] at I
  case z k=>cases k<;>first|(exact absurd rfl h)|(simp[kM] at I)
def OR(w0:World)(ρ:Rho)(w:World)(r b N:Nat):O→Prop
 | .no=>False
 | .dead=>True
 | .row wr l=>l.all kD=true∧l.length≤N∧(∃xs,VRL ρ l xs∧aY w r b xs)∧(∀j,j<N→(w.cell? ⟨r,b+j,none⟩).isSome=true)∧(∃cs e fz,w.heap[r]? = some (.cells cs e fz)) ∧
   (wr=true→w0.heap.size≤r∧ ∀j,j<N→w.frozen? ⟨r,b+j,none⟩=false)
 | .map l=>b=0∧w0.heap.size≤r∧ ∃I clock,w.heap[r]? = some (.map I clock)∧I.size=l.length∧ ∀(j:Nat) (p:V×V) (e:MapEntry),l[j]? = some p→I[j]? = some e→VR ρ p.1 e.key∧VR ρ p.2 e.val
def bAa:O→Bool
 | .row true _=>true
 | .map _=>true
 | _=>false
structure W(w0:World)(ρ:Rho)(m:M)(w:World):Prop where
 keeps:bG (fun _=>False) w0 w
 obj:∀a r b N,ρ a=some (r,b,N)→OR w0 ρ w r b N (ob m a)
 dom:∀a x,ρ a=some x→a<m.nx
 nx:m.nx≤262144
 inj:∀a a' r b N b' N',ρ a=some (r,b,N)→ρ a'=some (r,b',N')→bAa (ob m a)=true→ob m a'≠ .dead→a=a'
theorem OR.lt{w0:World}{ρ:Rho}{w:World}{r b N:Nat}{o:O}(h:OR w0 ρ w r b N o)(hd:o≠ .dead):r<w.heap.size:=by
 cases o with
 | no=>exact h.elim
 | dead=>exact absurd rfl hd
 | row wr l=>obtain⟨_,_,_,_,⟨U,e,I,h⟩,_⟩:=h; exact(Array.getElem?_eq_some_iff.1 h).1
 | map l=>obtain⟨_,_,J,cl,h,_⟩:=h; exact(Array.getElem?_eq_some_iff.1 h).1
theorem aMl{w w':World}{r o:Nat}(h:w'.heap[r]? = w.heap[r]?):w'.frozen? ⟨r,o,none⟩=w.frozen? ⟨r,o,none⟩:=by
 simp only[World.frozen?,h]
theorem OR.keep{w0:World}{ρ ρ':Rho}{w w':World}{r b N:Nat}{o:O}(I:ρ.le ρ')(Y:w'.heap[r]? = w.heap[r]?)(h:OR w0 ρ w r b N o):OR w0 ρ' w' r b N o:=by
 cases o with
 | no=>exact h.elim
 | dead=>trivial
 | row wr l =>
  obtain⟨h1,h2,⟨xs,h3,h4⟩,U,h6,h7⟩:=h;have hc:∀j,w'.cell? ⟨r,j,none⟩=w.cell? ⟨r,j,none⟩:=fun j=>World.cell?_of_block (w:=w) (w':=w') Y;refine⟨h1,h2,⟨xs,h3.mono I,fun j v J=>by rw[hc]; exact h4 j v J⟩,fun j J=>by rw[hc]; exact U j J,by rw[Y]; exact h6,fun hw=>⟨(h7 hw).1,fun j J=>by rw[aMl Y]; exact(h7 hw).2 j J⟩⟩
 | map l =>
  obtain⟨h1,h2,es,cl,h3,h4,U⟩:=h;exact⟨h1,h2,es,cl,by rw[Y]; exact h3,h4,fun j p e q1 q2=>⟨((U j p e q1 q2).1).mono I,((U j p e q1 q2).2).mono I⟩⟩
structure But(r:Nat)(w w':World):Prop where
 os:w'.os=w.os
 tape:w'.tape=w.tape
 output:w'.output=w.output
 size:w.heap.size≤w'.heap.size
 block:∀b,b<w.heap.size→b≠r→w'.heap[b]? = w.heap[b]?
theorem But.keeps{r:Nat}{w0 w w':World}(h:But r w w')(I:bG (fun _=>False) w0 w)(N:w0.heap.size≤r):bG (fun _=>False) w0 w' :=
 ⟨h.os.trans I.os,h.tape.trans I.tape,h.output.trans I.output,Nat.le_trans I.size h.size,fun b hb J=>by
  rw[h.block b (Nat.lt_of_lt_of_le hb I.size) (by omega)]; exact I.block b hb J⟩
section
variable {w0:World} {ρ:Rho} {m:M} {w:World}
theorem W.same(h:W w0 ρ m w){w':World}(hb:But w.heap.size w w'):W w0 ρ m w':=by
 refine⟨hb.keeps h.keeps h.keeps.size,fun a r b N U=>?_,h.dom,h.nx,h.inj⟩;have J:=h.obj a r b N U;by_cases hd:ob m a= .dead
 ·rw[hd]; trivial
 ·have I:=J.lt hd;exact J.keep (.refl _) (hb.block r I (by omega))
def ext(ρ:Rho)(k:Nat)(x:Nat×Nat×Nat):Rho:=fun a=>if a=k then some x else ρ a
theorem sH{k:Nat}{x:Nat×Nat×Nat}(h:ρ k=none):ρ.le (ext ρ k x):=fun a y I=>by
 unfold ext;split
 ·rename_i e; rw[e,h] at I; cases I
 ·exact I
theorem wN{k:Nat}{x:Nat×Nat×Nat}:ext ρ k x k=some x:=by simp[ext]
theorem W.told(h:W w0 ρ m w){w':World}(hb:But w.heap.size w w'){k:Nat}(hk:ρ k=none)(hkn:k<m.nx){r b N:Nat}(hr:w.heap.size≤r)(ho:OR w0 (ext ρ k (r,b,N)) w' r b N (ob m k)):W w0 (ext ρ k (r,b,N)) m w':=by
 have hw:=h.same hb;have hle:=sH (x:=(r,b,N)) hk;refine⟨hw.keeps,fun a U b' N' I=>?_,fun a x I=>?_,h.nx,fun a a' r1 b1 N1 b2 N2 h1 Y hs hd=>?_⟩
 ·by_cases e:a=k
  ·subst e;rw[wN] at I;cases I;exact ho
  ·simp only[ext,if_neg e] at I;exact(hw.obj a U b' N' I).keep hle rfl
 ·by_cases e:a=k
  ·rw[e]; exact hkn
  ·simp only[ext,if_neg e] at I;exact h.dom a x I
 ·have J:∀a U b' N',ρ a=some (U,b',N')→ob m a≠ .dead→U<w.heap.size:=fun a U b' N' I hd=>(h.obj a U b' N' I).lt hd;by_cases e1:a=k<;>by_cases e2:a'=k
  ·rw[e1,e2]
  ·exfalso;rw[e1,wN] at h1;cases h1;simp only[ext,if_neg e2] at Y;have:=J a' _ _ _ Y hd;omega
  ·exfalso;rw[e2,wN] at Y;cases Y;simp only[ext,if_neg e1] at h1;have:=J a _ _ _ h1 (fun e=>by rw[e] at hs; cases hs);omega
  ·simp only[ext,if_neg e1] at h1;simp only[ext,if_neg e2] at Y;exact h.inj a a' r1 b1 N1 b2 N2 h1 Y hs hd
theorem W.fresh(h:W w0 ρ m w)(hn:m.nx<262144)(o:O):W w0 ρ (nw m o) w∧ρ m.nx=none:=by
 have hnone:ρ m.nx=none:=by
  cases e:ρ m.nx with
  | none=>rfl
  | some x=>exact absurd (h.dom _ _ e) (Nat.lt_irrefl _)
 have I:∀a x,ρ a=some x→ob (nw m o) a=ob m a:=fun a x J=>by
  have:=h.dom a x J;exact aOr m o hn (by omega) (by omega)
 refine⟨⟨h.keeps,fun a r b N J=>by rw[I a _ J]; exact h.obj a r b N J,fun a x J=>Nat.lt_succ_of_lt (h.dom a x J),hn,fun a Y r b N b' N' h1 U hs hd=>?_⟩,hnone⟩;rw[I a _ h1] at hs;rw[I Y _ U] at hd;exact h.inj a Y r b N b' N' h1 U hs hd
theorem W.write(h:W w0 ρ m w){a:Nat}{r b N:Nat}(ha:ρ a=some (r,b,N))(hs:bAa (ob m a)=true){o:O}(ho':bAa o=true∨o= .dead){w':World}(hb:But r w w')(hr:w0.heap.size≤r)(ho:OR w0 ρ w' r b N o):W w0 ρ (wr m a o) w':=by
 have han:=h.dom a _ ha;have hnx:=h.nx;have U:∀J x,ρ J=some x→J≠a→ob (wr m a o) J=ob m J:=fun J x I e=>by
  have:=h.dom J x I;exact aOp m o (by omega) (by omega) (Ne.symm e)
 refine⟨hb.keeps h.keeps hr,fun J r' b' N' I=>?_,h.dom,h.nx,fun a1 a2 r1 b1 N1 b2 N2 h1 h2 Y hd=>?_⟩
 ·by_cases e:J=a
  ·subst e;rw[ha] at I;cases I;rw[aZh]; exact ho
  ·rw[U J _ I e];have hold:=h.obj J r' b' N' I;by_cases hdd:ob m J= .dead
   ·rw[hdd]; trivial
   ·have hlt:=hold.lt hdd;refine hold.keep (.refl _) (hb.block r' hlt fun er=>?_);subst er;exact e (h.inj a J r' b N b' N' ha I hs hdd).symm
 ·by_cases e1:a1=a<;>by_cases e2:a2=a
  ·rw[e1,e2]
  ·subst e1;rw[ha] at h1;cases h1;rw[U a2 _ h2 e2] at hd;exact h.inj a1 a2 _ _ _ _ _ ha h2 hs hd
  ·subst e2;rw[ha] at h2;cases h2;rw[U a1 _ h1 e1] at Y;exact(h.inj a2 a1 _ _ _ _ _ ha h1 hs (fun e=>by rw[e] at Y; cases Y)).symm
  ·rw[U a1 _ h1 e1] at Y;rw[U a2 _ h2 e2] at hd;exact h.inj a1 a2 r1 b1 N1 b2 N2 h1 h2 Y hd
end
end
end Go.It
namespace Go.It
noncomputable section
open Go.RowKit
open Go.Vc (bG aY)
theorem aIX(k:IntKind):mdB k= .mk (2^k.bits):=by cases k<;>rfl
theorem aMm(k:IntKind):hfB k= .mk (2^(k.bits-1)):=by cases k<;>rfl
theorem aVF(k:IntKind):aZd k= .mk k.bits:=by cases k<;>rfl
theorem aVG(k:IntKind):0<k.bits:=by cases k<;>simp[IntKind.bits]
theorem yT(k:IntKind):2^k.bits=2*2^(k.bits-1):=by
 have:=aVG k;rw[← Nat.pow_succ']; congr 1; omega
theorem qT(k:IntKind):0<2^(k.bits-1):=Nat.two_pow_pos _
theorem aFs{a b:IntKind}(h:keq a b=true):a=b:=by cases a<;>cases b<;>first|rfl|cases h
theorem aIY(k:IntKind):∃mk,mkK k= .mk mk∧ ∀(ρ:Rho) (n:Nat) (x:Value),VR ρ (mk n) x↔(x= .int k (dec k n)∧n<2^k.bits):=by
 cases k
 case i64=>exact⟨.i,rfl,fun ρ n x=>by simp only[VR]; exact Iff.rfl⟩
 case u64=>exact⟨.w,rfl,fun ρ n x=>by simp only[VR]; simp[dec,IntKind.signed,IntKind.bits]⟩
 all_goals exact⟨.k _,rfl,fun ρ n x=>by simp only[VR]⟩
theorem aVH{k:IntKind}{mk:Nat→V}(h:mkK k= .mk mk)(n:Nat):kD (mk n)=true:=by
 cases k<;>(simp only[mkK,Box.mk.injEq] at h; subst h; rfl)
theorem aIZ(k:IntKind):∃f,oK k= .mk f∧ ∀(v:V) (c:Nat→Bool),f v c=true→ ∃n,c n=true∧ ∀(ρ:Rho) (x:Value),VR ρ v x→x= .int k (dec k n)∧n<2^k.bits:=by
 cases k
 case i64 =>
  refine⟨oI,rfl,fun v c h=>?_⟩;obtain⟨n,rfl,k⟩:=bBd h;exact⟨n,k,fun ρ x hv=>by simp only[VR] at hv; exact hv⟩
 case u64 =>
  refine⟨oW,rfl,fun v c h=>?_⟩;obtain⟨n,rfl,k⟩:=aZg h;exact⟨n,k,fun ρ x hv=>by simp only[VR] at hv; simpa [dec,IntKind.signed,IntKind.bits] using hv⟩
 all_goals
  refine⟨oN _,rfl,fun v c h=>?_⟩;unfold oN at h;split at h
  ·rename_i N n;obtain⟨I,J⟩:=cA h;have:=aFs I;subst this;exact⟨n,J,fun ρ x hv=>by simpa only[VR] using hv⟩
  ·cases h
theorem aX3{v:V}{c:IntKind→Nat→Bool}(h:aZW v c=true):∃k n,c k n=true∧ ∀(ρ:Rho) (x:Value),VR ρ v x→x= .int k (dec k n)∧n<2^k.bits:=by
 unfold aZW at h;split at h
 ·exact⟨_,_,h,fun ρ x hv=>by simp only[VR] at hv; exact hv⟩
 ·exact⟨_,_,h,fun ρ x hv=>by simp only[VR] at hv; simpa [dec,IntKind.signed,IntKind.bits] using hv⟩
 ·exact⟨_,_,h,fun ρ x hv=>by simp only[VR] at hv; exact hv⟩
 ·cases h
theorem bX{k:IntKind}{n:Nat}(h:k.signed=false∨n<2^(k.bits-1)):dec k n=(n:Int):=by
 unfold dec;rcases h with h|h
 ·simp[h]
 ·rw[if_neg];simp only[Bool.and_eq_true,decide_eq_true_eq,not_and,Nat.not_le];exact fun _=>h
theorem aX4(k:IntKind):k.bits≤64:=by cases k<;>simp[IntKind.bits]
theorem wO{v:V}{c:Nat→Bool}(h:oIx v c=true):∃n,c n=true∧ ∀(ρ:Rho) (x:Value),VR ρ v x→ ∃k,x= .int k (n:Int)∧n<2^64:=by
 unfold oIx at h;split at h
 ·rename_i n;obtain⟨I,J⟩:=cA h;have I:n<9223372036854775808:=by simpa using I
  refine⟨n,J,fun ρ x hv=>?_⟩;simp only[VR] at hv;exact⟨.i64,by rw[hv.1,bX (.inr I)],hv.2⟩
 ·rename_i n;exact⟨n,h,fun ρ x hv=>by simp only[VR] at hv; exact⟨.u64,hv.1,hv.2⟩⟩
 ·rename_i k n;rw[aMm,aV] at h;have hb:(2:Nat)^k.bits≤2^64:=Nat.pow_le_pow_right (by omega) (aX4 k);cases N:k.signed
  ·rw[N] at h;refine⟨n,h,fun ρ x hv=>?_⟩;simp only[VR] at hv;exact⟨k,by rw[hv.1,bX (.inl N)],by omega⟩
  ·rw[N] at h;obtain⟨I,J⟩:=cA (b:=Nat.blt n (2^(k.bits-1))) h;have I:n<2^(k.bits-1):=(by simpa using I);refine⟨n,J,fun ρ x hv=>?_⟩;simp only[VR] at hv;exact⟨k,by rw[hv.1,bX (.inr I)],by omega⟩
 ·cases h
theorem aMn(k:IntKind)(z:Int):enc k z<2^k.bits:=by
 unfold enc;have I:=Int.emod_lt_of_pos z (show (0:Int)<2^k.bits from by exact_mod_cast Nat.two_pow_pos k.bits);have J:=Int.emod_nonneg z (show (2:Int)^k.bits≠0 from by have:=Nat.two_pow_pos k.bits; exact_mod_cast Nat.ne_of_gt this);have:((z%2^k.bits).toNat:Int)=z%2^k.bits:=Int.toNat_of_nonneg J;have N:((z%2^k.bits).toNat:Int)<((2^k.bits:Nat):Int):=by rw[this]; exact_mod_cast I
 exact_mod_cast N
theorem aR4(k:IntKind)(z:Int):((enc k z:Nat):Int)=z%2^k.bits:=by
 unfold enc;exact Int.toNat_of_nonneg (Int.emod_nonneg z (by have:=Nat.two_pow_pos k.bits; exact_mod_cast Nat.ne_of_gt this))
theorem qU(k:IntKind)(z:Int):k.wrap z=dec k (enc k z):=by
 unfold IntKind.wrap dec;have e:=aR4 k z;simp only[← e];have hp:((2:Int)^(k.bits-1)≤(enc k z:Int))↔2^(k.bits-1)≤enc k z:=by
  constructor<;>intro h<;>exact_mod_cast h
 by_cases h:2^(k.bits-1)≤enc k z
 ·have h':=hp.2 h;simp[h,h']
 ·have h':¬((2:Int)^(k.bits-1)≤(enc k z:Int)):=fun q=>h (hp.1 q);simp[h,h']
theorem vX{k:IntKind}{y z:Int}(h:y%2^k.bits=z%2^k.bits):enc k y=enc k z:=by unfold enc; rw[h]
theorem uY(k:IntKind)(n:Nat):dec k n%2^k.bits=(n:Int)%2^k.bits:=by
 unfold dec;split
 ·exact Int.sub_emod_right _ _
 ·rfl
theorem qW{k:IntKind}(n:Nat):enc k (n:Int)=n%2^k.bits:=by
 have:=aR4 k n;have I:((n%2^k.bits:Nat):Int)=(n:Int)%2^k.bits:=by push_cast; rfl
 rw[← I] at this
 exact_mod_cast this
theorem aMo{k:IntKind}{n:Nat}(h:n<2^k.bits):enc k (dec k n)=n:=by
 rw[vX (uY k n),qW,Nat.mod_eq_of_lt h]
theorem aMp{k:IntKind}{z:Int}(I:k.min≤z)(J:z≤k.max):dec k (enc k z)=z:=by
 rw[← qU];have Y:=yT k;have hp:((2:Int)^k.bits)=2*2^(k.bits-1):=by exact_mod_cast Y
 have N:(0:Int)<2^(k.bits-1):=by exact_mod_cast qT k
 unfold IntKind.min at I;unfold IntKind.max at J;unfold IntKind.wrap;cases U:k.signed
 ·rw[U] at I J;simp only[Bool.false_and,Bool.false_eq_true,if_false] at *;exact Int.emod_eq_of_lt I (by omega)
 ·rw[U] at I J;simp only[Bool.true_and,if_true,decide_eq_true_eq] at *;by_cases hz:0≤z
  ·rw[Int.emod_eq_of_lt hz (by omega),if_neg (by omega)]
  ·have:z%2^k.bits=z+2^k.bits:=by
    rw[← Int.add_emod_right,Int.emod_eq_of_lt (by omega) (by omega)]
   rw[this,if_pos (by omega)];omega
theorem dec_lt{k:IntKind}{n:Nat}(h:n<2^k.bits):k.min≤dec k n∧dec k n≤k.max:=by
 have N:=yT k;have hp:((2:Int)^k.bits)=2*2^(k.bits-1):=by exact_mod_cast N
 have J:(0:Int)<2^(k.bits-1):=by exact_mod_cast qT k
 have Y:(n:Int)<2^k.bits:=by exact_mod_cast h
 unfold dec IntKind.min IntKind.max;cases U:k.signed
 ·simp; omega
 ·by_cases I:2^(k.bits-1)≤n
  ·have:((2:Int)^(k.bits-1))≤n:=(by exact_mod_cast I);simp[I]; omega
  ·have:(n:Int)<((2:Int)^(k.bits-1)):=(by exact_mod_cast (Nat.lt_of_not_le I));simp[I]; omega
end
end Go.It
namespace Go.It
noncomputable section
open Go.RowKit
open Go.Vc (bG aY)
def kB:TypeDesc→TK→Bool
 | .int k,.i J=>keq k J
 | .bool,.b=>true
 | .string,.s=>true
 | .pointer e,.p I=>Nat.beq e I
 | .slice e,.sl I=>Nat.beq e I
 | .map k e,.mp J I=>Nat.beq k J&&Nat.beq e I
 | .func _ _ _,.fn=>true
 | .interface _,.ifc=>true
 | .struct F,.st U=>decide (F.toList.map (fun f=>(f.offset,f.type))=U)&&F.toList.all (fun f=>f.name != "_")
 | .array n e,.ar N I=>Nat.beq n N&&Nat.beq e I
 | _,_=>false
def kR(d:TypeDesc):TK→Prop
 | .i k=>d= .int k
 | .b=>d= .bool
 | .s=>d= .string
 | .p e=>d= .pointer e
 | .sl e=>d= .slice e
 | .mp k e=>d= .map k e
 | .fn=>∃a b c,d= .func a b c
 | .ifc=>∃ms,d= .interface ms
 | .st I=>∃F,d= .struct F∧F.toList.map (fun f=>(f.offset,f.type))=I∧ ∀f∈F.toList,f.name ≠ "_"
 | .ar n e=>d= .array n e
 | .no=>False
theorem bBe{d:TypeDesc}{k:TK}(h:kB d k=true):kR d k:=by
 unfold kB at h;split at h<;>first|(cases h; done)|skip
 ·rw[aFs h]; rfl
 ·rfl
 ·rfl
 ·rw[Nat.eq_of_beq_eq_true h]; rfl
 ·rw[Nat.eq_of_beq_eq_true h]; rfl
 ·simp only[Bool.and_eq_true] at h;rw[Nat.eq_of_beq_eq_true h.1,Nat.eq_of_beq_eq_true h.2]; rfl
 ·exact⟨_,_,_,rfl⟩
 ·exact⟨_,rfl⟩
 ·simp only[Bool.and_eq_true,decide_eq_true_eq] at h;exact⟨_,rfl,h.1,fun f I=>by simpa using List.all_eq_true.1 h.2 f I⟩
 ·simp only[Bool.and_eq_true] at h;rw[Nat.eq_of_beq_eq_true h.1,Nat.eq_of_beq_eq_true h.2]; rfl
def z1B:V→Value→Bool
 | .i 0,.int .i64 0=>true
 | .w 0,.int .u64 0=>true
 | .k k 0,.int I 0=>keq k I
 | .b false,.bool false=>true
 | .s 0 0,.string s=>s.data.toList.isEmpty
 | .z .pn,.pointer none=>true
 | .z .sn,.slice none 0 0=>true
 | .z .mn,.map none=>true
 | .z .fnn,.nilFunc=>true
 | .z .ifn,.nilIface=>true
 | _,_=>false
def zLB:List V→List Value→Bool
 | [],[]=>true
 | v::l,x::r=>z1B v x&&zLB l r
 | _,_=>false
theorem bBf{v:V}{x:Value}(h:z1B v x=true)(ρ:Rho):VR ρ v x∧kD v=true:=by
 unfold z1B at h;split at h<;>first|(cases h; done)|skip
 ·exact⟨by simp only[VR]; exact⟨rfl,by decide⟩,rfl⟩
 ·exact⟨by simp only[VR]; exact⟨rfl,by decide⟩,rfl⟩
 ·rw[aFs h];refine⟨?_,rfl⟩;simp only[VR];exact⟨by rw[bX (.inr (qT _))]; rfl,Nat.two_pow_pos _⟩
 ·exact⟨by simp only[VR],rfl⟩
 ·rename_i s;refine⟨?_,rfl⟩;simp only[VR];have:s.data.toList= []:=by simpa using h
  exact⟨s,rfl,by rw[this]; rfl,by rw[this]; rfl,Nat.zero_le _⟩
 all_goals exact⟨by simp only[VR,zR],rfl⟩
theorem aOs:∀ {l:List V} {xs:List Value},zLB l xs=true→ ∀ρ:Rho,VRL ρ l xs∧l.all kD=true
 | [],[],_,_=>⟨by simp[VRL],rfl⟩
 | [],_::_,h,_=>by simp[zLB] at h
 | _::_,[],h,_=>by simp[zLB] at h
 | v::l,x::r,h,ρ=>by
  simp only[zLB,Bool.and_eq_true] at h;have I:=bBf h.1 ρ;have J:=aOs h.2 ρ;exact⟨by simp only[VRL]; exact⟨x,r,rfl,I.1,J.1⟩,by simp[I.2,J.2]⟩
def tiB(P:Program)(t:TypeId)(i:TI):Bool :=
 match P.info? t,P.underlying t with
 | some f,some d=>Nat.beq f.size i.n&&Nat.beq f.bytes i.by'&&kB d i.k&&Nat.beq i.z.length i.n&& !P.stoodInHeld t&&(!oC i|| !P.eqGuardType P.depth t) &&
   (match f.zero with|some (.agg I)=>oC i&&zLB i.z I.toList|some z=> !oC i&&zLB i.z [z]|none=>false)
 | _,_=>false
structure qX(P:Program)(t:TypeId)(i:TI):Prop where
 info:∃f,P.info? t=some f∧f.size=i.n∧f.bytes=i.by'∧ ∃z,f.zero=some z∧(oC i=true→ ∃cs,z= .agg cs)∧(oC i=false→z.cells= #[z]∧z.oneCell'=true)∧ ∀ρ,VRL ρ i.z z.cells.toList
 zone:i.z.all kD=true∧i.z.length=i.n
 desc:∃d,P.underlying t=some d∧kR d i.k
 held:P.stoodInHeld t=false
 guard:oC i=true→P.eqGuardType P.depth t=false
theorem aX5{P:Program}{t:TypeId}{i:TI}(h:tiB P t i=true):qX P t i:=by
 unfold tiB at h;split at h
 ·rename_i f d hf hd;simp only[Bool.and_eq_true,Bool.not_eq_true'] at h;obtain⟨⟨⟨⟨⟨⟨h1,h2⟩,h3⟩,h4⟩,h5⟩,h6⟩,J⟩:=h;have U:∃z,f.zero=some z∧(oC i=true→ ∃cs,z= .agg cs)∧(oC i=false→z.cells= #[z]∧z.oneCell'=true)∧(∀ρ,VRL ρ i.z z.cells.toList)∧i.z.all kD=true:=by
   split at J
   ·rename_i cs U;simp only[Bool.and_eq_true] at J;exact⟨_,U,fun _=>⟨_,rfl⟩,fun e=>(by rw[J.1] at e; cases e),fun ρ=>(aOs J.2 ρ).1,(aOs J.2 (fun _=>none)).2⟩
   ·rename_i z hna U;simp only[Bool.and_eq_true,Bool.not_eq_true'] at J;obtain⟨g1,g2⟩:=J;have N:=aOs g2 (fun _=>none);have I:z.oneCell'=true∧z.cells= #[z]:=by
     obtain⟨a1,a2⟩:=N
     match hl:i.z,a1,a2 with
     | [],a1,_=>simp[VRL] at a1
     | [v],a1,a2 =>
      simp only[VRL] at a1;obtain⟨y,ys,Y,e2,e3⟩:=a1;simp only[List.cons.injEq] at Y;rw[← Y.1] at e2;exact wC (by simpa using a2) e2
     | v::u::l,a1,_ =>
      simp only[VRL] at a1;obtain⟨y,ys,Y,e2,y2,ys2,e3,_⟩:=a1;simp only[List.cons.injEq] at Y;rw[← Y.2] at e3;cases e3
    exact⟨z,U,fun e=>(by rw[g1] at e; cases e),fun _=>⟨I.2,I.1⟩,fun ρ=>by rw[I.2]; exact(aOs g2 ρ).1,N.2⟩
   ·cases J
  obtain⟨z,z1,z2,z3,z4,z5⟩:=U;exact⟨⟨f,hf,Nat.eq_of_beq_eq_true h1,Nat.eq_of_beq_eq_true h2,z,z1,z2,z3,z4⟩,⟨z5,Nat.eq_of_beq_eq_true h4⟩,⟨d,hd,bBe h3⟩,h5,fun e=>by simpa [e] using h6⟩
 ·cases h
section
variable {P:Program} {t:TypeId} {i:TI}
theorem qX.size(h:qX P t i)(w:World):(sizeOf t).run P w= .ok i.n w:=by
 obtain⟨f,J,I,_⟩:=h.info;simp[sizeOf,typeInfo,J,I]
theorem qX.agg(h:qX P t i)(w:World):(isAgg t).run P w= .ok (oC i) w:=by
 obtain⟨d,hd,I⟩:=h.desc;unfold oC;cases J:i.k<;>rw[J] at I<;>simp only[kR] at I
 case fn=>obtain⟨a,b,c,rfl⟩:=I; simp[isAgg,underlying,hd]
 case ifc=>obtain⟨ms,rfl⟩:=I; simp[isAgg,underlying,hd]
 case st fs=>obtain⟨F,rfl,_⟩:=I; simp[isAgg,underlying,hd]
 all_goals first|(exact I.elim)|(subst I; simp[isAgg,underlying,hd])
end
structure fA(P:Program)(E:En):Prop where
 ty:∀t,kn E t=true→qX P t (ti E t)
def GR(E:En)(ρ:Rho):Prop:=∀g,VR ρ (E.gl g) (.pointer (some ⟨g,0,none⟩))
def dU(q:Cx):Prop:=∀t,q.A t= .mk (q.look t)
theorem dI{P:Program}{E:En}(I:fA P E){t:TypeId}{k:TK}(J:(ti E t).k=k)(N:k≠ .no):qX P t (ti E t):=I.ty t (by unfold kn; rw[J]; cases k<;>first|rfl|exact absurd rfl N)
theorem aVI{v:Value}(h:aTq v=true)(ρ:Rho):VR ρ (cv1 v) v∧kD (cv1 v)=true:=by
 unfold aTq at h;split at h<;>first|(cases h; done)|skip
 ·exact⟨by simp only[cv1,VR],rfl⟩
 ·rename_i k n;simp only[Bool.and_eq_true,decide_eq_true_eq] at h;obtain⟨mk,I,J⟩:=aIY k;simp only[cv1,cvI,I,aV];exact⟨(J ρ _ _).2 ⟨by rw[aMp h.1 h.2],aMn _ _⟩,aVH I _⟩
 ·rename_i s;refine⟨?_,rfl⟩;simp only[cv1,VR];have:s.data.toList.length≤1099511627776:=by simpa using h
  exact⟨s,rfl,rfl,rfl,by simp only[maxLen]; omega⟩
 all_goals exact⟨by simp only[cv1,VR,zR],rfl⟩
theorem aZi{v:Value}(h:cOK v=true)(ρ:Rho):VR ρ (cv v) v:=by
 by_cases J:∃cs,v= .agg cs
 ·obtain⟨cs,rfl⟩:=J;simp only[cOK] at h;simp only[cv,VR];have I:∀l:List Value,l.all aTq=true→VRL ρ (l.map cv1) l∧(l.map cv1).all kD=true:=by
   intro l
   induction l with
   | nil=>exact fun _=>⟨by simp[VRL],rfl⟩
   | cons x l ih =>
    intro N;simp only[List.all_cons,Bool.and_eq_true] at N;have Y:=aVI N.1 ρ;have U:=ih N.2;exact⟨by simp only[List.map_cons,VRL]; exact⟨x,l,rfl,Y.1,U.1⟩,by simp only[List.map_cons,List.all_cons,Y.2,U.2,Bool.and_self]⟩
  have:=I cs.toList h;exact⟨cs.toList,by simp,this.1,this.2⟩
 ·have e1:cOK v=aTq v:=by cases v<;>first|rfl|exact absurd ⟨_,rfl⟩ J
  have e2:cv v=cv1 v:=by cases v<;>first|rfl|exact absurd ⟨_,rfl⟩ J
  rw[e1] at h;rw[e2];exact(aVI h ρ).1
theorem eX{q:Cx}(hq:dU q)(x:Operand):pA q x= .mk fun e=>evD q e x:=by
 cases x with
 | tmp t=>simp only[pA,hq t]; rfl
 | const v =>
  simp only[pA,evD];cases cOK v<;>rfl
 | global g=>rfl
 | func f=>rfl
theorem VR.junk(ρ:Rho)(x:Value):VR ρ (.z .j) x:=by simp only[VR,zR]
theorem aZj{q:Cx}{ρ:Rho}{e:q.ε}{a:Act}(I:GR q.E ρ)(x:Operand)(J:∀t,x= .tmp t→VR ρ (q.look t e) (a.tmps.getD t Go.undef)):VR ρ (evD q e x) (a.eval x):=by
 cases x with
 | tmp t=>exact J t rfl
 | const v =>
  simp only[evD];cases h:cOK v
  ·exact VR.junk _ _
  ·exact aZi h ρ
 | global g=>exact I g
 | func f=>simp only[evD,VR]; exact⟨[],[],rfl,by simp[VRL],by simp[VRL]⟩
theorem aAo{q:Cx}(hq:dU q):∀l:List Operand,aL3 q l= .mk fun e=>l.map (evD q e)
 | []=>rfl
 | x::l=>by simp only[aL3,eX hq,aAo hq l,aV,List.map_cons]
end
end Go.It
namespace Go.It
noncomputable section
open Go.RowKit
open Go.Vc (bG aY)
structure Sv(q:Cx)(w0:World)(ρ:Rho)(e:q.ε)(m:M)(a:Act)(w:World)(l:Array Operand):Prop where
 w:W w0 ρ m w
 gl:GR q.E ρ
 ev:∀x,x∈l→VR ρ (evD q e x) (a.eval x)
theorem Sv.evL{q:Cx}{w0:World}{ρ:Rho}{e:q.ε}{m:M}{a:Act}{w:World}{l:Array Operand}(h:Sv q w0 ρ e m a w l):∀ {r:List Operand},(∀x∈r,x∈l)→VRL ρ (r.map (evD q e)) (r.map a.eval)
 | [],_=>by simp[VRL]
 | x::r,I=>by
  simp only[List.map_cons,VRL];exact⟨_,_,rfl,h.ev x (I x (.head _)),h.evL fun y J=>I y (.tail _ J)⟩
def OpA(P:Program)(q:Cx)(o:Oper)(e:q.ε)(m:M)(v:V):Prop :=
 ∀(w0:World) (ρ:Rho) (a:Act) (w:World),Sv q w0 ρ e m a w o.op.operands→ ∃x,(execOp a.eval o).run P w= .ok (.value x) w∧VR ρ v x
def OpB(P:Program)(q:Cx)(o:Oper)(e:q.ε)(I:Nat→V)(b:O):Prop :=
 ∀(w0:World) (ρ:Rho) (m:M) (a:Act) (w:World),Sv q w0 ρ e m a w o.op.operands→ ∃x w' N,(execOp a.eval o).run P w= .ok (.value x) w'∧But w.heap.size w w' ∧
  ∀(ρ':Rho) (k:Nat),ρ.le ρ'→ρ' k=some (w.heap.size,0,N)→VR ρ' (I k) x∧OR w0 ρ' w' w.heap.size 0 N b
def OpC(P:Program)(q:Cx)(o:Oper)(e:q.ε)(m:M)(v:V)(m':M):Prop :=
 m.nx≤m'.nx∧ ∀(w0:World) (ρ:Rho) (a:Act) (w:World),Sv q w0 ρ e m a w o.op.operands→ ∃r x w' ρ',(execOp a.eval o).run P w= .ok r w'∧(r= .value x∨r= .skip∧x=Go.undef)∧W w0 ρ' m' w'∧VR ρ' v x ∧
  ρ.le ρ'∧ ∀k,ρ k=none→k<m.nx→ρ' k=none
def bk:V→Option Nat
 | .p a _=>some a
 | .sl a _ _ _ _=>some a
 | .m a=>some a
 | _=>none
def rb(k:Nat):V→V
 | .p _ o=>.p k o
 | .sl _ o n c x=>.sl k o n c x
 | .m _=>.m k
 | v=>v
def Mkv(I:Nat→V):Prop:=∀a,bk (I a)=some a∧I a=rb a (I 0)
inductive OpR(P:Program)(q:Cx)(o:Oper)(e:q.ε)(m:M)(c:V→M→Bool):Prop where
 | a0 (v:V) (hk:cls q o=0) (hc:c v m=true) (h:∀m',OpA P q o e m' v)
 | a1 (v:V) (hk:cls q o=1) (hc:c v m=true) (h:OpA P q o e m v)
 | b (mkv:Nat→V) (b:O) (hk:cls q o=2) (hn:m.nx<262144) (hc:c (mkv m.nx) (nw m b)=true) (hm:Mkv mkv) (h:OpB P q o e mkv b)
 | c (v:V) (m':M) (hk:cls q o=3) (hc:c v m'=true) (h:OpC P q o e m v m')
section
variable {P:Program} {q:Cx} {e:q.ε} {m:M} {c:V→M→Bool} {f:OpF q} {dst:Option Tmp} {ty:TypeId} {pos:String} {aft:Array Edge} {gd:Option (Nat×Bool)}
theorem gG(hq:dU q){x:Operand}{F:V→M→(V→M→Bool)→Bool}(I:op1 q x F= .mk f)(h:f e m c=true):F (evD q e x) m c=true:=by
 simp only[op1,eX hq,aV,Box.mk.injEq] at I;subst I;exact h
theorem mM(hq:dU q){x y:Operand}{F:V→V→M→(V→M→Bool)→Bool}(I:op2 q x y F= .mk f)(h:f e m c=true):F (evD q e x) (evD q e y) m c=true:=by
 simp only[op2,eX hq,aV,Box.mk.injEq] at I;subst I;exact h
theorem aU(I:(bad:Box (OpF q))= .mk f)(h:f e m c=true):False:=by
 simp only[bad,Box.mk.injEq] at I;subst I;cases h
theorem aX6(hq:dU q){x:Operand}(I:lX q ⟨dst,.move x,ty,pos,aft,gd⟩= .mk f)(h:f e m c=true):OpR P q ⟨dst,.move x,ty,pos,aft,gd⟩ e m c:=by
 have I:aFo q x= .mk f:=I;unfold aFo at I;have N:=gG hq I h;exact .a0 _ rfl N fun m' w0 ρ a w J=>⟨_,rfl,J.ev _ (by simp[Op.operands])⟩
theorem aTu(hq:dU q){x:Operand}(I:lX q ⟨dst,.assign x,ty,pos,aft,gd⟩= .mk f)(h:f e m c=true):OpR P q ⟨dst,.assign x,ty,pos,aft,gd⟩ e m c:=by
 have I:aFo q x= .mk f:=I;unfold aFo at I;have N:=gG hq I h;exact .a0 _ rfl N fun m' w0 ρ a w J=>⟨_,rfl,J.ev _ (by simp[Op.operands])⟩
theorem aX7(hq:dU q){p x y:Operand}(J:lX q ⟨dst,.pick p x y,ty,pos,aft,gd⟩= .mk f)(h:f e m c=true):OpR P q ⟨dst,.pick p x y,ty,pos,aft,gd⟩ e m c:=by
 have J:aQi q p x y= .mk f:=J;simp only[aQi,eX hq,aV,Box.mk.injEq] at J;subst J;obtain⟨t,U,N⟩:=aR2 h;have hp:∀ {w0 ρ m' a w},Sv q w0 ρ e m' a w (Op.pick p x y).operands→a.eval p= .bool t:=fun I=>by
  have:=I.ev p (by simp[Op.operands]);rw[U] at this
  simpa only[VR] using this
 cases t
 ·exact .a0 _ rfl N fun m' w0 ρ a w I=>⟨a.eval y,by simp[execOp,hp I,asBool],I.ev _ (by simp[Op.operands])⟩
 ·exact .a0 _ rfl N fun m' w0 ρ a w I=>⟨a.eval x,by simp[execOp,hp I,asBool],I.ev _ (by simp[Op.operands])⟩
theorem bAb(hq:dU q){t:TypeId}{x:Operand}(hE:fA P q.E)(I:lX q ⟨dst,.makeInterface t x,ty,pos,aft,gd⟩= .mk f)(h:f e m c=true):OpR P q ⟨dst,.makeInterface t x,ty,pos,aft,gd⟩ e m c:=by
 have J:∀k,(ti q.E t).k=k→k≠ .no→k≠ .ifc→op1 q x (fun v m c=>c (.ifc t v) m)= .mk f→OpR P q ⟨dst,.makeInterface t x,ty,pos,aft,gd⟩ e m c:=fun k J N h2 I=>by
  have g2:=gG hq I h;refine .a0 _ rfl g2 fun m' w0 ρ a w hs=>⟨.iface t (a.eval x),?_,by simp only[VR]; exact⟨_,rfl,hs.ev _ (by simp[Op.operands])⟩⟩;obtain⟨d,hd,Y⟩:=(dI hE J N).desc;have U:∀ms,d≠ .interface ms:=fun ms e=>by
   subst e;rw[J] at Y;cases k<;>simp_all[kR]
  simp only[execOp,Instr.makeInterface,Sem.run_bind,run_underlying hd,Result.andThen_ok];cases d<;>first|rfl|exact absurd rfl (U _)
 have I:aVr q t x= .mk f:=I;simp only[aVr] at I;split at I
 ·exact(aU I h).elim
 ·exact(aU I h).elim
 ·rename_i N h2;exact J _ rfl (fun e=>h2 e) (fun e=>N e) I
theorem bBg(hq:dU q){g:FuncId}{J cs:Array Operand}(I:lX q ⟨dst,.makeFunc (.func g) J cs,ty,pos,aft,gd⟩= .mk f)(h:f e m c=true):OpR P q ⟨dst,.makeFunc (.func g) J cs,ty,pos,aft,gd⟩ e m c:=by
 have I:aZZ q g J cs= .mk f:=I;simp only[aZZ,aAo hq,aV,Box.mk.injEq] at I;subst I;refine .a0 _ rfl h fun m' w0 ρ a w U=>⟨.func (.func g) (J.map a.eval) (cs.map a.eval),by simp[execOp,Instr.makeFunc],?_⟩;simp only[VR];exact⟨_,_,by simp[← Array.toList_map],U.evL (by simp[Op.operands]; intro x N; exact .inl N),U.evL (by simp[Op.operands]; intro x N; exact .inr N)⟩
theorem aQp(hq:dU q){x:Operand}{k:Nat}(I:lX q ⟨dst,.extract x k,ty,pos,aft,gd⟩= .mk f)(h:f e m c=true):OpR P q ⟨dst,.extract x k,ty,pos,aft,gd⟩ e m c:=by
 have I:aFp q x k= .mk f:=I;unfold aFp at I;have J:=gG hq I h;split at J
 ·rename_i l hl;obtain⟨v,h3,h4⟩:=aMj J;refine .a0 _ rfl h4 fun m' w0 ρ a w hs=>?_;have hv:=hs.ev x (by simp[Op.operands]);rw[hl] at hv;simp only[VR] at hv;obtain⟨xs,Y,U⟩:=hv;obtain⟨y,g3,N⟩:=U.get h3;exact⟨y,by simp[execOp,Instr.extract,Y,g3],N⟩
 ·cases J
theorem bAc(hq:dU q){x:Operand}(I:lX q ⟨dst,.nilCheck x,ty,pos,aft,gd⟩= .mk f)(h:f e m c=true):OpR P q ⟨dst,.nilCheck x,ty,pos,aft,gd⟩ e m c:=by
 have I:aVq q x= .mk f:=I;unfold aVq at I;have U:=gG hq I h;split at U<;>first|(cases U; done)|skip
 rename_i a' o' hl;refine .a0 _ rfl U fun m' w0 ρ a w hs=>?_;have hv:=hs.ev x (by simp[Op.operands]);have J:=hv;rw[hl] at hv;simp only[VR] at hv;obtain⟨r,b,N,g1,Y⟩:=hv;exact⟨a.eval x,by simp[execOp,Y],J⟩
end
end
end Go.It
namespace Go.It
noncomputable section
open Go.RowKit
open Go.Vc (bG aY)
section
variable {k:IntKind} {a b:Nat}
theorem aBE(k:IntKind):((2^k.bits:Nat):Int)=(2:Int)^k.bits:=by norm_cast
theorem wrap_add:k.wrap (dec k a+dec k b)=dec k ((a+b)%2^k.bits):=by
 rw[qU]
 congr 1
 rw[← qW];apply vX;rw[Int.add_emod,uY,uY,← Int.add_emod]
 push_cast; rfl
theorem aOt(hb:b<2^k.bits):k.wrap (dec k a-dec k b)=dec k ((a+(2^k.bits-b))%2^k.bits):=by
 rw[qU]
 congr 1
 rw[← qW];apply vX;rw[Int.sub_emod,uY,uY,← Int.sub_emod];have:((a+(2^k.bits-b):Nat):Int)=((a:Int)-b)+2^k.bits:=by
  have h:=aBE k;omega
 rw[this,Int.add_emod_right]
theorem wrap_mul:k.wrap (dec k a*dec k b)=dec k ((a*b)%2^k.bits):=by
 rw[qU]
 congr 1
 rw[← qW];apply vX;rw[Int.mul_emod,uY,uY,← Int.mul_emod]
 push_cast; rfl
theorem yU(I:a<2^k.bits):k.wrap (a:Int)=dec k a:=by
 rw[qU,qW,Nat.mod_eq_of_lt I]
theorem nF(I:a<2^k.bits):(BitVec.ofInt k.bits (dec k a)).toNat=a:=by
 rw[BitVec.toNat_ofInt,aBE,uY];have:(a:Int)%2^k.bits=a:=Int.emod_eq_of_lt (by omega) (by rw[← aBE]; exact_mod_cast I);rw[this]; rfl
theorem aEd(I:a<2^k.bits)(hb:b<2^k.bits):dec k a=dec k b↔a=b:=by
 constructor
 ·intro h;have:=congrArg (enc k) h
  rwa [aMo I,aMo hb] at this
 ·intro h; rw[h]
theorem aCr(I:k.signed=true)(N:a<2^k.bits):dec k a=(((a+2^(k.bits-1))%2^k.bits:Nat):Int)-2^(k.bits-1):=by
 have U:=yT k;have hc:=aBE k;have J:((2^(k.bits-1):Nat):Int)=(2:Int)^(k.bits-1):=by norm_cast
 unfold dec;by_cases h:2^(k.bits-1)≤a
 ·simp only[I,h,decide_true,Bool.and_self,if_true];have:(a+2^(k.bits-1))%2^k.bits=a-2^(k.bits-1):=by
   rw[show a+2^(k.bits-1)=(a-2^(k.bits-1))+2^k.bits from by omega,Nat.add_mod_right,Nat.mod_eq_of_lt (by omega)]
  rw[this];omega
 ·simp only[I,h,decide_false,Bool.and_false,Bool.false_eq_true,if_false];rw[Nat.mod_eq_of_lt (by omega)];omega
theorem bAd(I:k.signed=true)(J:a<2^k.bits)(hb:b<2^k.bits):dec k a<dec k b↔(a+2^(k.bits-1))%2^k.bits<(b+2^(k.bits-1))%2^k.bits:=by
 rw[aCr I J,aCr I hb]; omega
theorem le_dec(I:k.signed=true)(J:a<2^k.bits)(hb:b<2^k.bits):dec k a≤dec k b↔(a+2^(k.bits-1))%2^k.bits≤(b+2^(k.bits-1))%2^k.bits:=by
 rw[aCr I J,aCr I hb]; omega
end
def N2(op:BinOp)(k:IntKind)(g:NF):Prop:=∀(a b:Nat) (c:V→Bool),g a b c=true→ ∃v,c v=true∧(a<2^k.bits→b<2^k.bits→ ∀(P:Program) (t:TypeId) (w:World) (ρ:Rho),∃x,(binOp op t (.int k (dec k a)) (.int k (dec k b))).run P w= .ok x w∧VR ρ v x)
theorem N2.num{op:BinOp}{k:IntKind}{mk:Nat→V}(I:∀(ρ:Rho) (n:Nat) (x:Value),VR ρ (mk n) x↔(x= .int k (dec k n)∧n<2^k.bits)){g:NF}{r:Nat→Nat→Nat}(hg:∀a b c,g a b c=true→c (mk (r a b))=true∧(op= .quo∨op= .rem→b≠0))
  (Y:∀a b,a<2^k.bits→b<2^k.bits→(op= .quo∨op= .rem→b≠0)→r a b<2^k.bits∧ ∀(P:Program) (t:TypeId) (w:World),(binOp op t (.int k (dec k a)) (.int k (dec k b))).run P w= .ok (.int k (dec k (r a b))) w):N2 op k g:=fun a b c h=>by
 obtain⟨h1,N⟩:=hg a b c h;refine⟨_,h1,fun J hb P t w ρ=>?_⟩;obtain⟨h3,U⟩:=Y a b J hb N;exact⟨_,U P t w,(I ρ _ _).2 ⟨rfl,h3⟩⟩
theorem aZk{k:IntKind}{b:Nat}(hb:b<2^k.bits)(h:b≠0):dec k b≠0:=fun e=>by
 have e0:dec k b=dec k 0:=by rw[e,bX (.inr (qT k))]; rfl
 exact h ((aEd hb (Nat.two_pow_pos _)).1 e0)
theorem aQq{k:IntKind}{x y:Int}(N:k.min≤x)(J:x≤k.max)(U:k.min≤0)(Y:0≤k.max):k.min≤x.tmod y∧x.tmod y≤k.max:=by
 by_cases I:0≤x
 ·have a1:0≤x.tmod y:=Int.tmod_nonneg y I;have a2:x.tmod y≤x:=by
   have:=Int.natAbs_tmod x y;have:=Nat.mod_le x.natAbs y.natAbs;omega
  omega
 ·have a1:(-x).tmod y= - x.tmod y:=Int.neg_tmod ..;have a2:0≤(-x).tmod y:=Int.tmod_nonneg y (by omega);have a3:=Int.natAbs_tmod x y;have a4:=Nat.mod_le x.natAbs y.natAbs;omega
theorem aHK(k:IntKind):k.min≤0∧0≤k.max:=by
 have:=dec_lt (k:=k) (n:=0) (Nat.two_pow_pos _);rw[bX (.inr (qT k))] at this;exact this
theorem aLa{c:V→Bool}{mk:Nat→V}{b h a f z:Nat}{P:Prop}(I:(bi (Nat.beq b 0) false (bi (Nat.blt a h) (bi (Nat.blt b h) (c (mk f)) (c (mk z))) (c (mk z))))=true)(U:a<h→b<h→f=z):c (mk z)=true∧b≠0:=by
 cases hb:Nat.beq b 0
 ·rw[hb] at I;refine⟨?_,fun e=>by subst e; cases hb⟩;cases J:Nat.blt a h
  ·rw[J] at I; exact I
  ·rw[J] at I;cases N:Nat.blt b h
   ·rw[N] at I; exact I
   ·rw[N] at I;rw[← U (by simpa using J) (by simpa using N)]; exact I
 ·rw[hb] at I; cases I
theorem N2.bool{op:BinOp}{k:IntKind}{g:NF}{r:Nat→Nat→Bool}(I:∀a b c,g a b c=c (.b (r a b)))
  (N:∀a b,a<2^k.bits→b<2^k.bits→ ∀(P:Program) (t:TypeId) (w:World),(binOp op t (.int k (dec k a)) (.int k (dec k b))).run P w= .ok (.bool (r a b)) w):N2 op k g:=fun a b c h=>by
 rw[I] at h;exact⟨_,h,fun J hb P t w ρ=>⟨_,N a b J hb P t w,by simp only[VR]⟩⟩
theorem aVJ(k:IntKind)(m h:Nat):bLt k m h= .mk fun a b c=>c (.b (bi k.signed (Nat.blt ((a+h)%m) ((b+h)%m)) (Nat.blt a b))):=by
 unfold bLt; cases k.signed<;>rfl
theorem aVK(k:IntKind)(m h:Nat):bLe k m h= .mk fun a b c=>c (.b (bi k.signed (Nat.ble ((a+h)%m) ((b+h)%m)) (Nat.ble a b))):=by
 unfold bLe; cases k.signed<;>rfl
theorem aR5{k:IntKind}{a b:Nat}(J:a<2^k.bits)(hb:b<2^k.bits):(bi k.signed (Nat.blt ((a+2^(k.bits-1))%2^k.bits) ((b+2^(k.bits-1))%2^k.bits)) (Nat.blt a b))=decide (dec k a<dec k b):=by
 rw[Bool.eq_iff_iff,decide_eq_true_eq];cases I:k.signed
 ·rw[bX (.inl I),bX (.inl I)];simp
 ·rw[bAd I J hb];simp
theorem aR6{k:IntKind}{a b:Nat}(J:a<2^k.bits)(hb:b<2^k.bits):(bi k.signed (Nat.ble ((a+2^(k.bits-1))%2^k.bits) ((b+2^(k.bits-1))%2^k.bits)) (Nat.ble a b))=decide (dec k a≤dec k b):=by
 rw[Bool.eq_iff_iff,decide_eq_true_eq];cases I:k.signed
 ·rw[bX (.inl I),bX (.inl I)];simp
 ·rw[le_dec I J hb];simp
theorem aMq{op:BinOp}{k:IntKind}{g:NF}(h:aTp op k=some (.mk g)):N2 op k g:=by
 obtain⟨mk,hk,N⟩:=aIY k;have hp:=Nat.two_pow_pos k.bits;have hh:=yT k;have hhp:=qT k;unfold aTp at h;rw[hk,aV,aIX,aV,aMm,aV] at h;cases op<;>simp only[Option.some.injEq,reduceCtorEq] at h
 case add =>
  cases h;exact N2.num N (r:=fun a b=>(a+b)%2^k.bits) (fun a b c h=>⟨h,by simp⟩) fun a b I hb _=>⟨Nat.mod_lt _ hp,fun P t w=>by simp[binOp,Op.intArith,wrap_add]⟩
 case sub =>
  cases h;exact N2.num N (r:=fun a b=>(a+(2^k.bits-b))%2^k.bits) (fun a b c h=>⟨h,by simp⟩) fun a b I hb _=>⟨Nat.mod_lt _ hp,fun P t w=>by simp[binOp,Op.intArith,aOt hb]⟩
 case mul =>
  cases h;exact N2.num N (r:=fun a b=>(a*b)%2^k.bits) (fun a b c h=>⟨h,by simp⟩) fun a b I hb _=>⟨Nat.mod_lt _ hp,fun P t w=>by simp[binOp,Op.intArith,wrap_mul]⟩
 case quo =>
  have U:∀a b:Nat,b<2^k.bits→b≠0→ ∀(P:Program) (t:TypeId) (w:World),(binOp .quo t (.int k (dec k a)) (.int k (dec k b))).run P w= .ok (.int k (dec k (enc k ((dec k a).tdiv (dec k b))))) w:=fun a b hb h0 P t w=>by
   simp[binOp,Op.intDiv,aZk hb h0,qU]
  have J:∀a b:Nat,(k.signed=false∨a<2^(k.bits-1))→(k.signed=false∨b<2^(k.bits-1))→a<2^k.bits→a/b=enc k ((dec k a).tdiv (dec k b)):=fun a b h1 h2 I=>by
   rw[bX h1,bX h2,← Int.ofNat_tdiv,qW,Nat.mod_eq_of_lt (Nat.lt_of_le_of_lt (Nat.div_le_self _ _) I)]
  unfold bA5 at h;cases hs:k.signed
  ·rw[hs] at h;cases h;refine N2.num N (r:=fun a b=>a/b) (fun a b c h=>?_) fun a b I hb h0=>⟨Nat.lt_of_le_of_lt (Nat.div_le_self _ _) I,fun P t w=>?_⟩
   ·cases hb:Nat.beq b 0
    ·simp only[hb] at h;exact⟨h,fun _ e=>by subst e; cases hb⟩
    ·simp only[hb] at h; cases h
   ·rw[U a b hb (h0 (.inl rfl)),← J a b (.inl hs) (.inl hs) I]
  ·rw[hs] at h;cases h;refine N2.num N (r:=fun a b=>enc k ((dec k a).tdiv (dec k b))) (fun a b c h=>?_) fun a b I hb h0=>⟨aMn _ _,fun P t w=>U a b hb (h0 (.inl rfl)) P t w⟩;have:=aLa (P:=True) h fun h1 h2=>J a b (.inr h1) (.inr h2) (by omega);exact⟨this.1,fun _=>this.2⟩
 case rem =>
  have U:∀a b:Nat,a<2^k.bits→b<2^k.bits→b≠0→ ∀(P:Program) (t:TypeId) (w:World),(binOp .rem t (.int k (dec k a)) (.int k (dec k b))).run P w= .ok (.int k (dec k (enc k ((dec k a).tmod (dec k b))))) w:=fun a b I hb h0 P t w=>by
   have hr:=aQq (y:=dec k b) (dec_lt I).1 (dec_lt I).2 (aHK k).1 (aHK k).2;simp[binOp,Op.intDiv,aZk hb h0,aMp hr.1 hr.2]
  have J:∀a b:Nat,(k.signed=false∨a<2^(k.bits-1))→(k.signed=false∨b<2^(k.bits-1))→a<2^k.bits→a%b=enc k ((dec k a).tmod (dec k b)):=fun a b h1 h2 I=>by
   rw[bX h1,bX h2,← Int.ofNat_tmod,qW,Nat.mod_eq_of_lt (Nat.lt_of_le_of_lt (Nat.mod_le _ _) I)]
  unfold bA6 at h;cases hs:k.signed
  ·rw[hs] at h;cases h;refine N2.num N (r:=fun a b=>a%b) (fun a b c h=>?_) fun a b I hb h0=>⟨Nat.lt_of_le_of_lt (Nat.mod_le _ _) I,fun P t w=>?_⟩
   ·cases hb:Nat.beq b 0
    ·simp only[hb] at h;exact⟨h,fun _ e=>by subst e; cases hb⟩
    ·simp only[hb] at h; cases h
   ·rw[U a b I hb (h0 (.inr rfl)),← J a b (.inl hs) (.inl hs) I]
  ·rw[hs] at h;cases h;refine N2.num N (r:=fun a b=>enc k ((dec k a).tmod (dec k b))) (fun a b c h=>?_) fun a b I hb h0=>⟨aMn _ _,fun P t w=>U a b I hb (h0 (.inr rfl)) P t w⟩;have:=aLa (P:=True) h fun h1 h2=>J a b (.inr h1) (.inr h2) (by omega);exact⟨this.1,fun _=>this.2⟩
 case and =>
  cases h;exact N2.num N (r:=fun a b=>a&&&b) (fun a b c h=>⟨h,by simp⟩) fun a b I hb _=>by
   have Y:a&&&b<2^k.bits:=Nat.and_lt_two_pow _ hb;exact⟨Y,fun P t w=>by simp[binOp,Op.intBits,BitVec.toNat_and,nF I,nF hb,yU Y]⟩
 case or =>
  cases h;exact N2.num N (r:=fun a b=>a|||b) (fun a b c h=>⟨h,by simp⟩) fun a b I hb _=>by
   have Y:a|||b<2^k.bits:=Nat.or_lt_two_pow I hb
   exact⟨Y,fun P t w=>by simp[binOp,Op.intBits,BitVec.toNat_or,nF I,nF hb,yU Y]⟩
 case xor =>
  cases h;exact N2.num N (r:=fun a b=>a^^^b) (fun a b c h=>⟨h,by simp⟩) fun a b I hb _=>by
   have Y:a^^^b<2^k.bits:=Nat.xor_lt_two_pow I hb;exact⟨Y,fun P t w=>by simp[binOp,Op.intBits,BitVec.toNat_xor,nF I,nF hb,yU Y]⟩
 case andNot =>
  cases h;exact N2.num N (r:=fun a b=>a&&&(2^k.bits-1-b)) (fun a b c h=>⟨h,by simp⟩) fun a b I hb _=>by
   have Y:a&&&(2^k.bits-1-b)<2^k.bits:=Nat.lt_of_le_of_lt Nat.and_le_left I;exact⟨Y,fun P t w=>by simp[binOp,Op.intBits,BitVec.toNat_and,BitVec.toNat_not,nF I,nF hb,yU Y]⟩
 case eql =>
  cases h;exact N2.bool (r:=fun a b=>Nat.beq a b) (fun a b c=>rfl) fun a b I hb P t w=>by
   have e:(dec k a == dec k b)=Nat.beq a b:=by
    rw[Bool.eq_iff_iff]; simp[aEd I hb]
   simp[binOp,Op.intCmp,e]
 case neq =>
  cases h;exact N2.bool (r:=fun a b=> !Nat.beq a b) (fun a b c=>rfl) fun a b I hb P t w=>by
   have e1:(dec k a == dec k b)=Nat.beq a b:=by
    rw[Bool.eq_iff_iff]; simp[aEd I hb]
   have e:(dec k a != dec k b)= !Nat.beq a b:=(by rw[bne,e1]);simp[binOp,Op.intCmp,e]
 case lss =>
  rw[aVJ] at h;cases h;exact N2.bool (fun a b c=>rfl) fun a b I hb P t w=>by rw[aR5 I hb]; simp[binOp,Op.intCmp]
 case leq =>
  rw[aVK] at h;cases h;exact N2.bool (fun a b c=>rfl) fun a b I hb P t w=>by rw[aR6 I hb]; simp[binOp,Op.intCmp]
 case gtr =>
  rw[aVJ,aV] at h;cases h;exact N2.bool (r:=fun a b=>_) (fun a b c=>rfl) fun a b I hb P t w=>by rw[aR5 hb I]; simp[binOp,Op.intCmp]
 case geq =>
  rw[aVK,aV] at h;cases h;exact N2.bool (r:=fun a b=>_) (fun a b c=>rfl) fun a b I hb P t w=>by rw[aR6 hb I]; simp[binOp,Op.intCmp]
end
end Go.It
namespace Go.It
noncomputable section
open Go.RowKit
open Go.Vc (bG aY)
def S2(op:BinOp)(k:IntKind)(g:NF):Prop:=∀(a n:Nat) (c:V→Bool),g a n c=true→ ∃v,c v=true∧(a<2^k.bits→ ∀(P:Program) (w:World) (ρ:Rho) (I:IntKind),∃x,(Op.shift op k (dec k a) I (n:Int)).run P w= .ok x w∧VR ρ v x)
theorem aQr{k:IntKind}{x:Int}{d:Nat}(N:k.min≤x)(J:x≤k.max)(U:k.min≤0)(Y:0≤k.max)(hd:0<d):k.min≤x.fdiv (d:Int)∧x.fdiv (d:Int)≤k.max:=by
 rw[Int.fdiv_eq_ediv_of_nonneg _ (by omega)];by_cases I:0≤x
 ·have a1:0≤x/(d:Int):=Int.ediv_nonneg I (by omega);have a2:x/(d:Int)≤x:=Int.ediv_le_self _ I;omega
 ·have a1:x/(d:Int)<0:=Int.ediv_neg_of_neg_of_pos (by omega) (by omega);have a2:x≤x/(d:Int):=by
   rw[Int.le_ediv_iff_mul_le (by omega)];have:x*(d:Int)≤x*1:=Int.mul_le_mul_of_nonpos_left (by omega) (by omega);omega
  omega
theorem aX8{a n:Nat}{b:Nat}(I:a<2^b):((a:Int).fdiv (2^min n b))=(((if b≤n then 0 else a >>> n:Nat)):Int):=by
 have e:((2:Int)^min n b)=((2^min n b:Nat):Int):=by norm_cast
 rw[e,Int.fdiv_eq_ediv_of_nonneg _ (Int.natCast_nonneg _)];by_cases h:b≤n
 ·rw[if_pos h,Nat.min_eq_right h,← Int.natCast_ediv,Nat.div_eq_of_lt I]
 ·rw[if_neg h,Nat.min_eq_left (by omega),← Int.natCast_ediv,Nat.shiftRight_eq_div_pow]
theorem bAe{op:BinOp}{k:IntKind}{g:NF}(h:sh2 op k=some (.mk g)):S2 op k g:=by
 obtain⟨mk,hk,hm⟩:=aIY k;have hp:=Nat.two_pow_pos k.bits;have hh:=yT k;have hhp:=qT k;unfold sh2 at h;rw[hk,aV,aIX,aV,aMm,aV,aVF,aV] at h;have wr:∀a r n:Nat,(a*2^min n k.bits)%2^k.bits=r→ ∀(P:Program) (w:World) (I:IntKind),(Op.shift .shl k (dec k a) I (n:Int)).run P w= .ok (.int k (dec k r)) w:=fun a r n U P w I=>by
  have e:k.wrap (dec k a*2^min n k.bits)=dec k r:=by
   rw[qU,← U,← qW]
   congr 1
   apply vX;rw[Int.mul_emod,uY,← Int.mul_emod]
   push_cast; rfl
  simp[Op.shift,e,show ¬(n:Int)<0 from by omega]
 have sr:∀a r n:Nat,(dec k a).fdiv (2^min n k.bits)=dec k r→ ∀(P:Program) (w:World) (I:IntKind),(Op.shift .shr k (dec k a) I (n:Int)).run P w= .ok (.int k (dec k r)) w:=fun a r n U P w I=>by
  simp[Op.shift,U,show ¬(n:Int)<0 from by omega]
 have N:∀a n:Nat,a<2^k.bits→(k.signed=false∨a<2^(k.bits-1))→(dec k a).fdiv (2^min n k.bits)=dec k (if k.bits≤n then 0 else a >>> n)∧(if k.bits≤n then 0 else a >>> n)<2^k.bits:=fun a n J Y=>by
  have hle:(if k.bits≤n then 0 else a >>> n)≤a:=by
   split
   ·omega
   ·rw[Nat.shiftRight_eq_div_pow]; exact Nat.div_le_self _ _
  refine⟨?_,by omega⟩;rw[bX Y,aX8 J,bX];exact Y.imp id fun h=>by omega
 cases op<;>simp only[Option.some.injEq,reduceCtorEq] at h
 case shl =>
  cases h;intro a n c hc;cases hb:Nat.ble k.bits n
  ·simp only[hb] at hc;have hb':¬k.bits≤n:=fun e=>(by rw[Nat.ble_eq_true_of_le e] at hb; cases hb);exact⟨_,hc,fun J P w ρ I=>⟨_,wr a _ n (by rw[Nat.min_eq_left (by omega),← Nat.shiftLeft_eq]; rfl) P w I,(hm ρ _ _).2 ⟨rfl,Nat.mod_lt _ hp⟩⟩⟩
  ·simp only[hb] at hc;exact⟨_,hc,fun J P w ρ I=>⟨_,wr a 0 n (by rw[Nat.min_eq_right (Nat.le_of_ble_eq_true hb),Nat.mul_mod_left]) P w I,(hm ρ _ _).2 ⟨rfl,hp⟩⟩⟩
 case shr =>
  have sel:∀(a n:Nat) (c:V→Bool),(bi (Nat.ble k.bits n) (c (mk 0)) (c (mk (Nat.shiftRight a n))))=c (mk (if k.bits≤n then 0 else a >>> n)):=fun a n c=>by
   cases hb:Nat.ble k.bits n
   ·have hb':¬k.bits≤n:=fun e=>(by rw[Nat.ble_eq_true_of_le e] at hb; cases hb);rw[if_neg hb']; rfl
   ·rw[if_pos (Nat.le_of_ble_eq_true hb)]; rfl
  cases Y:k.signed
  ·rw[Y] at h;cases h;intro a n c hc;replace hc:=(sel a n c).symm.trans hc;refine⟨_,hc,fun J P w ρ I=>?_⟩;obtain⟨f1,f2⟩:=N a n J (.inl Y);exact⟨_,sr a _ n f1 P w I,(hm ρ _ _).2 ⟨rfl,f2⟩⟩
  ·rw[Y] at h;cases h;intro a n c hc;cases hb:Nat.blt a (2^(k.bits-1))
   ·simp only[hb] at hc;replace hc:c (mk (enc k ((dec k a).fdiv (2^min n k.bits))))=true:=hc;refine⟨_,hc,fun J P w ρ I=>⟨_,sr a _ n ?_ P w I,(hm ρ _ _).2 ⟨rfl,aMn _ _⟩⟩⟩;have e:((2:Int)^min n k.bits)=((2^min n k.bits:Nat):Int):=(by norm_cast);have U:=aQr (dec_lt J).1 (dec_lt J).2 (aHK k).1 (aHK k).2 (Nat.two_pow_pos (min n k.bits));rw[e];exact(aMp U.1 U.2).symm
   ·simp only[hb] at hc;replace hc:=(sel a n c).symm.trans hc;refine⟨_,hc,fun J P w ρ I=>?_⟩;obtain⟨f1,f2⟩:=N a n J (.inr (by rw[Nat.blt_eq] at hb; exact hb));exact⟨_,sr a _ n f1 P w I,(hm ρ _ _).2 ⟨rfl,f2⟩⟩
theorem aQs:∀l:List UInt8,num l<256^l.length
 | []=>by simp[num]
 | b::l=>by
  have h:=aQs l;have hb:=b.toNat_lt;simp only[num,List.length_cons,Nat.pow_succ,Nat.add_eq,Nat.mul_eq];omega
theorem aMr:∀l r:List UInt8,num (l++r)=num l+num r*256^l.length
 | [],r=>by simp[num]
 | b::l,r=>by
  simp only[List.cons_append,num,aMr l r,List.length_cons,Nat.pow_succ,Nat.add_eq,Nat.mul_eq];rw[Nat.mul_add,Nat.add_assoc,Nat.mul_comm (256^l.length) 256,← Nat.mul_assoc,← Nat.mul_assoc,Nat.mul_comm 256 (num r)]
theorem aR7:∀ {l r:List UInt8},l.length=r.length→num l=num r→l=r
 | [],[],_,_=>rfl
 | [],_::_,h,_=>by simp at h
 | _::_,[],h,_=>by simp at h
 | b::l,c::r,h,e=>by
  have hb:=b.toNat_lt;have hc:=c.toNat_lt;simp only[num,Nat.add_eq,Nat.mul_eq] at e;have J:b.toNat=c.toNat:=by omega
  have I:num l=num r:=by omega
  rw[UInt8.toNat_inj.1 J,aR7 (by simpa using h) I]
theorem aTv(x n:Nat):Nat.shiftLeft x (Nat.mul 8 n)=x*256^n:=by
 show x <<< (8*n)=_;rw[Nat.shiftLeft_eq,Nat.pow_mul]
theorem toList_data(s:ByteArray):s.toList=s.data.toList:=by rw[ByteArray.toList_eq]
theorem aI0{a b:ByteArray}:(a.toList == b.toList)=(Nat.beq a.data.toList.length b.data.toList.length&&Nat.beq (num a.data.toList) (num b.data.toList)):=by
 rw[toList_data,toList_data,Bool.eq_iff_iff];simp only[beq_iff_eq,Bool.and_eq_true,Nat.beq_eq];exact⟨fun h=>by rw[h]; exact⟨rfl,rfl⟩,fun h=>aR7 h.1 h.2⟩
theorem aX9{op:BinOp}{g:Nat→Nat→Nat→Nat→(V→Bool)→Bool}(h:strB op=some g){n x m y:Nat}{c:V→Bool}(hc:g n x m y c=true) :
  ∃v,c v=true∧ ∀(ρ:Rho) (a b:Value),VR ρ (.s n x) a→VR ρ (.s m y) b→ ∀(P:Program) (t:TypeId) (w:World),∃u,(binOp op t a b).run P w= .ok u w∧VR ρ v u:=by
 cases op<;>simp only[strB,Option.some.injEq,reduceCtorEq] at h<;>subst h
 case add =>
  obtain⟨h1,h2⟩:=cA hc;have h1:n+m≤1099511627776:=Nat.le_of_ble_eq_true h1;refine⟨_,h2,fun ρ a b I hb P t w=>?_⟩;simp only[VR] at I hb;obtain⟨s,rfl,J,U,Y⟩:=I;obtain⟨r,rfl,r1,N,r3⟩:=hb;have hs:s.size=n:=by rw[← J]; exact Array.length_toList.symm
  have hr:r.size=m:=by rw[← r1]; exact Array.length_toList.symm
  have hl:¬(((s.size+r.size:Nat):Int)>IntKind.i64.max):=by
   rw[hs,hr]; simp only[IntKind.max,IntKind.signed,IntKind.bits]; omega
  have hd:(s++r).data.toList=s.data.toList++r.data.toList:=by simp
  refine⟨.string (s++r),by simp only[binOp,Op.stringOp,hl,if_false,Sem.run_pure],?_⟩;simp only[VR];refine⟨_,rfl,by rw[hd,List.length_append,J,r1]; rfl,?_,by simp only[maxLen,Nat.add_eq]; omega⟩;rw[hd,aMr,J,U,N,aTv]; rfl
 case eql =>
  refine⟨_,hc,fun ρ a b I hb P t w=>?_⟩;simp only[VR] at I hb;obtain⟨s,rfl,J,U,Y⟩:=I;obtain⟨r,rfl,r1,N,r3⟩:=hb;refine⟨_,by simp only[binOp,Op.stringOp,Sem.run_pure]; rfl,?_⟩;simp only[VR];rw[aI0,J,U,r1,N]
 case neq =>
  refine⟨_,hc,fun ρ a b I hb P t w=>?_⟩;simp only[VR] at I hb;obtain⟨s,rfl,J,U,Y⟩:=I;obtain⟨r,rfl,r1,N,r3⟩:=hb;refine⟨_,by simp only[binOp,Op.stringOp,Sem.run_pure]; rfl,?_⟩;simp only[VR];rw[aI0,J,U,r1,N]
theorem aFt{P:Program}{op:BinOp}{t:TypeId}{x y:Operand}{a b:Value}(w:World)(I:¬(a= .nilIface∧b= .nilIface)∨aRU x=true∨aRU y=true)(Y:(∀l r,a= .agg l→b= .agg r→P.eqGuardType P.depth t=false)):(eqGuard op t x y a b).run P w= .ok () w:=by
 have J:∀op,op= .eql∨op= .neq→(eqGuard op t x y a b).run P w= .ok () w:=by
  intro op U;have N:eqGuard op t x y a b=eqGuard .eql t x y a b:=by rcases U with rfl|rfl<;>rfl
  rw[N];unfold eqGuard;simp only[Bool.not_true,Bool.false_eq_true,if_false];split
  ·rw[if_pos]
   ·rfl
   ·rcases I with I|I|I
    ·exact absurd ⟨rfl,rfl⟩ I
    ·cases x<;>first|(cases I; done)|simp
    ·cases y<;>first|(cases I; done)|simp
  ·have:=Y _ _ rfl rfl;simp[this]
  ·rfl
 cases op<;>first|rfl|exact J _ (.inl rfl)|exact J _ (.inr rfl)
end
end Go.It

