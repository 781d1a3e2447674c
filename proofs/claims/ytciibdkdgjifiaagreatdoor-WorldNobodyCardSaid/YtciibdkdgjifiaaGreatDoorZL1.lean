/-
  An interpreter of the model's code, proved sound (part 1 of 4): no program text.
-/
import Derived.WalkKit
import Derived.Below
set_option linter.unusedVariables false
set_option linter.unusedSimpArgs false
namespace Go.It
noncomputable section
set_option linter.unusedVariables false
set_option linter.constructorNameAsVariable false
inductive Box (α : Type) where | mk (a : α)
def unb {α β : Type} (b : Box α) (f : α → β) : β := Box.casesOn (motive := fun _ => β) b f
structure Q (α : Type) where m ::
  a0 : α
  a1 : α
  a2 : α
  a3 : α
  a4 : α
  a5 : α
  a6 : α
  a7 : α
@[reducible] def QN : Nat → Type → Type
  | 0, α => α
  | n + 1, α => Q (QN n α)
def qall {α : Type} (z : α) : (n : Nat) → QN n α
  | 0 => z
  | n + 1 => .m (qall z n) (qall z n) (qall z n) (qall z n) (qall z n) (qall z n) (qall z n) (qall z n)
def d8 {α : Type} (d : Nat) (a0 a1 a2 a3 a4 a5 a6 a7 : α) : α :=
  bif Nat.blt d 4 then (bif Nat.blt d 2 then (bif Nat.beq d 0 then a0 else a1) else (bif Nat.beq d 2 then a2 else a3))
  else (bif Nat.blt d 6 then (bif Nat.beq d 4 then a4 else a5) else (bif Nat.beq d 6 then a6 else a7))
def acc {α : Type} : (n : Nat) → Nat → Box (QN n α → α)
  | 0, _ => .mk fun t => t
  | n + 1, k => unb (acc n (Nat.div k 8)) fun f => d8 (Nat.mod k 8)
      (.mk fun t => f t.a0)
      (.mk fun t => f t.a1)
      (.mk fun t => f t.a2)
      (.mk fun t => f t.a3)
      (.mk fun t => f t.a4)
      (.mk fun t => f t.a5)
      (.mk fun t => f t.a6)
      (.mk fun t => f t.a7)
def put {α : Type} : (n : Nat) → Nat → Box (QN n α → α → (QN n α → Bool) → Bool)
  | 0, _ => .mk fun _ x c => c x
  | n + 1, k => unb (put n (Nat.div k 8)) fun f => d8 (Nat.mod k 8)
      (.mk fun t x c => Q.rec (motive := fun _ => Bool) (fun a0 a1 a2 a3 a4 a5 a6 a7 => f a0 x fun y => c (.m y a1 a2 a3 a4 a5 a6 a7)) t)
      (.mk fun t x c => Q.rec (motive := fun _ => Bool) (fun a0 a1 a2 a3 a4 a5 a6 a7 => f a1 x fun y => c (.m a0 y a2 a3 a4 a5 a6 a7)) t)
      (.mk fun t x c => Q.rec (motive := fun _ => Bool) (fun a0 a1 a2 a3 a4 a5 a6 a7 => f a2 x fun y => c (.m a0 a1 y a3 a4 a5 a6 a7)) t)
      (.mk fun t x c => Q.rec (motive := fun _ => Bool) (fun a0 a1 a2 a3 a4 a5 a6 a7 => f a3 x fun y => c (.m a0 a1 a2 y a4 a5 a6 a7)) t)
      (.mk fun t x c => Q.rec (motive := fun _ => Bool) (fun a0 a1 a2 a3 a4 a5 a6 a7 => f a4 x fun y => c (.m a0 a1 a2 a3 y a5 a6 a7)) t)
      (.mk fun t x c => Q.rec (motive := fun _ => Bool) (fun a0 a1 a2 a3 a4 a5 a6 a7 => f a5 x fun y => c (.m a0 a1 a2 a3 a4 y a6 a7)) t)
      (.mk fun t x c => Q.rec (motive := fun _ => Bool) (fun a0 a1 a2 a3 a4 a5 a6 a7 => f a6 x fun y => c (.m a0 a1 a2 a3 a4 a5 y a7)) t)
      (.mk fun t x c => Q.rec (motive := fun _ => Bool) (fun a0 a1 a2 a3 a4 a5 a6 a7 => f a7 x fun y => c (.m a0 a1 a2 a3 a4 a5 a6 y)) t)
def get {α : Type} : (n : Nat) → Nat → QN n α → α
  | 0, _, t => t
  | n + 1, k, .m a0 a1 a2 a3 a4 a5 a6 a7 => get n (Nat.div k 8) (d8 (Nat.mod k 8) a0 a1 a2 a3 a4 a5 a6 a7)
def upd {α : Type} : (n : Nat) → Nat → α → QN n α → QN n α
  | 0, _, x, _ => x
  | n + 1, k, x, .m a0 a1 a2 a3 a4 a5 a6 a7 => d8 (Nat.mod k 8) (.m (upd n (Nat.div k 8) x a0) a1 a2 a3 a4 a5 a6 a7) (.m a0 (upd n (Nat.div k 8) x a1) a2 a3 a4 a5 a6 a7) (.m a0 a1 (upd n (Nat.div k 8) x a2) a3 a4 a5 a6 a7) (.m a0 a1 a2 (upd n (Nat.div k 8) x a3) a4 a5 a6 a7) (.m a0 a1 a2 a3 (upd n (Nat.div k 8) x a4) a5 a6 a7) (.m a0 a1 a2 a3 a4 (upd n (Nat.div k 8) x a5) a6 a7) (.m a0 a1 a2 a3 a4 a5 (upd n (Nat.div k 8) x a6) a7) (.m a0 a1 a2 a3 a4 a5 a6 (upd n (Nat.div k 8) x a7))
inductive Z where | pn | sn | mn | fnn | ifn | u | j
inductive V where
  | i (n : Nat) | w (n : Nat) | b (x : Bool) | p (a : Nat) (o : Nat) | sl (a : Nat) (o n c x : Nat) | s (n x : Nat)
  | agg (l : List V) | k (k : IntKind) (n : Nat) | z (z : Z) | m (a : Nat) | tup (l : List V) | fn (f : FuncId) (fs l : List V) | ifc (t : TypeId) (v : V)
  | q (k : IntKind) (c n : Nat)
inductive O where
  | no | row (w : Bool) (l : List V) | map (l : List (V × V)) | dead
abbrev HN : Nat := 6
structure M where
  h : QN HN O
  nx : Nat
inductive X where
  | ex (id : Nat) | rt | pan (v : V)
inductive TK where
  | i (k : IntKind) | b | s | p (e : TypeId) | sl (e : TypeId) | mp (k e : TypeId) | fn | ifc | st (fs : List (Nat × TypeId)) | ar (n : Nat) (e : TypeId) | no
structure TI where
  k : TK
  n : Nat
  by' : Nat
  z : List V
inductive FE where
  | no | fi (code : Code) (nt : Nat) (res : List ResultVar) | nat (f : List V → M → (V → Bool) → Bool) | mem (f : List V → M → (V → M → Bool) → Bool)
structure En where
  tt : QN 4 TI
  ft : QN 4 FE
  gl : Nat → V
structure Cx where
  E : En
  ε : Type
  look : Nat → ε → V
  A : Nat → Box (ε → V)
abbrev CF := FuncId → List V → M → (V → M → Bool) → (V → M → Bool) → Bool
structure KK (ε : Type) where
  cf : CF
  kn : ε → M → Bool
  kx : X → ε → M → Bool
abbrev OpF (q : Cx) := q.ε → M → (V → M → Bool) → Bool
def mdB : IntKind → Box Nat
  | .i8 | .u8 => .mk 256
  | .i16 | .u16 => .mk 65536
  | .i32 | .u32 => .mk 4294967296
  | _ => .mk 18446744073709551616
def hfB : IntKind → Box Nat
  | .i8 | .u8 => .mk 128
  | .i16 | .u16 => .mk 32768
  | .i32 | .u32 => .mk 2147483648
  | _ => .mk 9223372036854775808
def bitsB : IntKind → Box Nat
  | .i8 | .u8 => .mk 8
  | .i16 | .u16 => .mk 16
  | .i32 | .u32 => .mk 32
  | _ => .mk 64
def keq : IntKind → IntKind → Bool
  | .i8, .i8 | .i16, .i16 | .i32, .i32 | .i64, .i64 | .u8, .u8 | .u16, .u16 | .u32, .u32 | .u64, .u64 => true
  | _, _ => false
def oI (v : V) (c : Nat → Bool) : Bool := V.casesOn (motive_1 := fun _ => Bool) v c (fun _ => false) (fun _ => false) (fun _ _ => false) (fun _ _ _ _ _ => false) (fun _ _ => false) (fun _ => false) (fun _ _ => false) (fun _ => false) (fun _ => false) (fun _ => false) (fun _ _ _ => false) (fun _ _ => false) (fun _ _ _ => false)
def oW (v : V) (c : Nat → Bool) : Bool := V.casesOn (motive_1 := fun _ => Bool) v (fun _ => false) c (fun _ => false) (fun _ _ => false) (fun _ _ _ _ _ => false) (fun _ _ => false) (fun _ => false) (fun _ _ => false) (fun _ => false) (fun _ => false) (fun _ => false) (fun _ _ _ => false) (fun _ _ => false) (fun _ _ _ => false)
def oB (v : V) (c : Bool → Bool) : Bool := V.casesOn (motive_1 := fun _ => Bool) v (fun _ => false) (fun _ => false) c (fun _ _ => false) (fun _ _ _ _ _ => false) (fun _ _ => false) (fun _ => false) (fun _ _ => false) (fun _ => false) (fun _ => false) (fun _ => false) (fun _ _ _ => false) (fun _ _ => false) (fun _ _ _ => false)
def oP (v : V) (c : Nat → Nat → Bool) : Bool := V.casesOn (motive_1 := fun _ => Bool) v (fun _ => false) (fun _ => false) (fun _ => false) c (fun _ _ _ _ _ => false) (fun _ _ => false) (fun _ => false) (fun _ _ => false) (fun _ => false) (fun _ => false) (fun _ => false) (fun _ _ _ => false) (fun _ _ => false) (fun _ _ _ => false)
def oS (v : V) (c : Nat → Nat → Bool) : Bool := V.casesOn (motive_1 := fun _ => Bool) v (fun _ => false) (fun _ => false) (fun _ => false) (fun _ _ => false) (fun _ _ _ _ _ => false) c (fun _ => false) (fun _ _ => false) (fun _ => false) (fun _ => false) (fun _ => false) (fun _ _ _ => false) (fun _ _ => false) (fun _ _ _ => false)
def oAgg (v : V) (c : List V → Bool) : Bool := V.casesOn (motive_1 := fun _ => Bool) v (fun _ => false) (fun _ => false) (fun _ => false) (fun _ _ => false) (fun _ _ _ _ _ => false) (fun _ _ => false) c (fun _ _ => false) (fun _ => false) (fun _ => false) (fun _ => false) (fun _ _ _ => false) (fun _ _ => false) (fun _ _ _ => false)
def oN (k : IntKind) (v : V) (c : Nat → Bool) : Bool := match v with | .k k' n => bif keq k k' then c n else false | _ => false
def oAny (v : V) (c : IntKind → Nat → Bool) : Bool := match v with | .i n => c .i64 n | .w n => c .u64 n | .k k n => c k n | _ => false
def oIx (v : V) (c : Nat → Bool) : Bool := match v with
  | .i n => bif Nat.blt n 9223372036854775808 then c n else false
  | .w n => c n
  | .k k n => unb (hfB k) fun h => bif k.signed then (bif Nat.blt n h then c n else false) else c n
  | _ => false
def oK : IntKind → Box (V → (Nat → Bool) → Bool)
  | .i64 => .mk oI
  | .u64 => .mk oW
  | k => .mk (oN k)
def mkK : IntKind → Box (Nat → V)
  | .i64 => .mk .i
  | .u64 => .mk .w
  | k => .mk (.k k)
def dec (k : IntKind) (n : Nat) : Int := if k.signed && decide (2 ^ (k.bits - 1) ≤ n) then (n : Int) - 2 ^ k.bits else n
def enc (k : IntKind) (z : Int) : Nat := (z % (2 ^ k.bits : Int)).toNat
abbrev NF := Nat → Nat → (V → Bool) → Bool
def bAdd (mk : Nat → V) (m : Nat) : Box NF := .mk fun a b c => c (mk (Nat.mod (Nat.add a b) m))
def bSub (mk : Nat → V) (m : Nat) : Box NF := .mk fun a b c => c (mk (Nat.mod (Nat.add a (Nat.sub m b)) m))
def bMul (mk : Nat → V) (m : Nat) : Box NF := .mk fun a b c => c (mk (Nat.mod (Nat.mul a b) m))
def bQuo (k : IntKind) (mk : Nat → V) (h : Nat) : Box NF := bif k.signed then .mk fun a b c => bif Nat.beq b 0 then false else bif Nat.blt a h then (bif Nat.blt b h then c (mk (Nat.div a b)) else c (mk (enc k ((dec k a).tdiv (dec k b))))) else c (mk (enc k ((dec k a).tdiv (dec k b))))
      else .mk fun a b c => bif Nat.beq b 0 then false else c (mk (Nat.div a b))
def bRem (k : IntKind) (mk : Nat → V) (h : Nat) : Box NF := bif k.signed then .mk fun a b c => bif Nat.beq b 0 then false else bif Nat.blt a h then (bif Nat.blt b h then c (mk (Nat.mod a b)) else c (mk (enc k ((dec k a).tmod (dec k b))))) else c (mk (enc k ((dec k a).tmod (dec k b))))
      else .mk fun a b c => bif Nat.beq b 0 then false else c (mk (Nat.mod a b))
def bAnd (mk : Nat → V) : Box NF := .mk fun a b c => c (mk (Nat.land a b))
def bOr (mk : Nat → V) : Box NF := .mk fun a b c => c (mk (Nat.lor a b))
def bXor (mk : Nat → V) : Box NF := .mk fun a b c => c (mk (Nat.xor a b))
def bAndNot (mk : Nat → V) (m : Nat) : Box NF := .mk fun a b c => c (mk (Nat.land a (Nat.sub (Nat.sub m 1) b)))
def bEql : Box NF := .mk fun a b c => c (.b (Nat.beq a b))
def bNeq : Box NF := .mk fun a b c => c (.b (not (Nat.beq a b)))
def bLt (k : IntKind) (m h : Nat) : Box NF := bif k.signed then .mk fun a b c => c (.b (Nat.blt (Nat.mod (Nat.add a h) m) (Nat.mod (Nat.add b h) m))) else .mk fun a b c => c (.b (Nat.blt a b))
def bLe (k : IntKind) (m h : Nat) : Box NF := bif k.signed then .mk fun a b c => c (.b (Nat.ble (Nat.mod (Nat.add a h) m) (Nat.mod (Nat.add b h) m))) else .mk fun a b c => c (.b (Nat.ble a b))
def flip2 (f : NF) : NF := fun a b c => f b a c
def bin2 (op : BinOp) (k : IntKind) : Option (Box NF) :=
  unb (mkK k) fun mk => unb (mdB k) fun m => unb (hfB k) fun h =>
  match op with
  | .add => some (bAdd mk m)
  | .sub => some (bSub mk m)
  | .mul => some (bMul mk m)
  | .quo => some (bQuo k mk h)
  | .rem => some (bRem k mk h)
  | .and => some (bAnd mk)
  | .or => some (bOr mk)
  | .xor => some (bXor mk)
  | .andNot => some (bAndNot mk m)
  | .eql => some bEql
  | .neq => some bNeq
  | .lss => some (bLt k m h)
  | .leq => some (bLe k m h)
  | .gtr => some (unb (bLt k m h) fun f => .mk (flip2 f))
  | .geq => some (unb (bLe k m h) fun f => .mk (flip2 f))
  | _ => none
def sh2 (op : BinOp) (k : IntKind) : Option (Box (Nat → Nat → (V → Bool) → Bool)) :=
  unb (mkK k) fun mk => unb (mdB k) fun m => unb (hfB k) fun h => unb (bitsB k) fun bs =>
  match op with
  | .shl => some (.mk fun a n c => bif Nat.ble bs n then c (mk 0) else c (mk (Nat.mod (Nat.shiftLeft a n) m)))
  | .shr => some (bif k.signed then .mk fun a n c => bif Nat.blt a h then (bif Nat.ble bs n then c (mk 0) else c (mk (Nat.shiftRight a n))) else c (mk (enc k ((dec k a).fdiv (2 ^ min n k.bits))))
      else .mk fun a n c => bif Nat.ble bs n then c (mk 0) else c (mk (Nat.shiftRight a n)))
  | _ => none
def strB (op : BinOp) : Option (Nat → Nat → Nat → Nat → (V → Bool) → Bool) :=
  match op with
  | .add => some fun n x m y c => bif Nat.ble (Nat.add n m) 1099511627776 then c (.s (Nat.add n m) (Nat.add x (Nat.shiftLeft y (Nat.mul 8 n)))) else false
  | .eql => some fun n x m y c => c (.b (and (Nat.beq n m) (Nat.beq x y)))
  | .neq => some fun n x m y c => c (.b (not (and (Nat.beq n m) (Nat.beq x y))))
  | _ => none
def lenL : List V → Nat
  | [] => 0
  | _ :: l => Nat.succ (lenL l)
def qI (v u : V) : Option Bool := match v, u with
  | .i a, .i b => some (Nat.beq a b)
  | .w a, .w b => some (Nat.beq a b)
  | .k j a, .k k b => bif keq j k then some (Nat.beq a b) else none
  | _, _ => none
def qB (v u : V) : Option Bool := match v, u with
  | .b a, .b b => some (bif a then b else not b)
  | _, _ => none
def qS (v u : V) : Option Bool := match v, u with
  | .s n x, .s m y => some (and (Nat.beq n m) (Nat.beq x y))
  | _, _ => none
def qP (v u : V) : Option Bool := match v, u with
  | .z .pn, .z .pn => some true
  | .p _ _, .z .pn => some false
  | .z .pn, .p _ _ => some false
  | _, _ => none
def qSl (v u : V) : Option Bool := match v, u with
  | .z .sn, .z .sn => some true
  | .sl _ _ _ _ _, .z .sn => some false
  | .z .sn, .sl _ _ _ _ _ => some false
  | _, _ => none
def qM (v u : V) : Option Bool := match v, u with
  | .z .mn, .z .mn => some true
  | .m _, .z .mn => some false
  | .z .mn, .m _ => some false
  | _, _ => none
def qF (v u : V) : Option Bool := match v, u with
  | .z .fnn, .z .fnn => some true
  | .fn _ _ _, .z .fnn => some false
  | .z .fnn, .fn _ _ _ => some false
  | _, _ => none
def qIf (v u : V) : Option Bool := match v, u with
  | .z .ifn, .z .ifn => some true
  | .ifc _ _, .z .ifn => some false
  | .z .ifn, .ifc _ _ => some false
  | _, _ => none
def qL : List V → List V → Option Bool
  | [], [] => some true
  | a :: l, b :: r => match qI a b, qL l r with
    | some p, some q => some (and p q)
    | _, _ => none
  | _, _ => none
def qA (n : Nat) (v u : V) : Option Bool := match v, u with
  | .agg l, .agg r => bif Nat.beq (lenL l) n then qL l r else none
  | _, _ => none
def sm1 : V → V → Bool
  | .i a, .i b => Nat.beq a b
  | .w a, .w b => Nat.beq a b
  | .k j a, .k k b => bif keq j k then Nat.beq a b else false
  | .b a, .b b => a == b
  | .s n x, .s m y => bif Nat.beq n m then Nat.beq x y else false
  | .z .pn, .z .pn => true
  | .p a o, .p b q => bif Nat.beq o q then Nat.beq a b else false
  | .z .sn, .z .sn => true
  | .sl a o n c x, .sl b q m d y => bif Nat.beq o q then (bif Nat.beq n m then (bif Nat.beq c d then (bif Nat.beq x y then Nat.beq a b else false) else false) else false) else false
  | .z .mn, .z .mn => true
  | .m a, .m b => Nat.beq a b
  | .z .fnn, .z .fnn => true
  | .z .ifn, .z .ifn => true
  | .z .u, .z .u => true
  | _, _ => false
def smL : List V → List V → Bool
  | [], [] => true
  | a :: l, b :: r => bif sm1 a b then smL l r else false
  | _, _ => false
def smV : V → V → Bool
  | .agg l, .agg r => smL l r
  | .tup l, .tup r => smL l r
  | a, b => sm1 a b
def smO : O → O → Bool
  | .row w l, .row w' r => bif w == w' then smL l r else false
  | .map [], .map [] => true
  | _, _ => false
def nth : List V → Nat → (V → Bool) → Bool :=
  fun l => List.rec (motive := fun _ => Nat → (V → Bool) → Bool) (fun _ _ => false) (fun x _ ih n c => Nat.casesOn (motive := fun _ => Bool) n (c x) fun n => ih n c) l
def takeC : Nat → List V → (List V → Bool) → Bool
  | 0, _, c => c []
  | n + 1, x :: l, c => takeC n l fun r => c (x :: r)
  | _ + 1, [], _ => false
def dropC : Nat → List V → (List V → Bool) → Bool
  | 0, l, c => c l
  | n + 1, _ :: l, c => dropC n l c
  | _ + 1, [], _ => false
def overC : List V → List V → (List V → Bool) → Bool
  | [], l, c => c l
  | d :: ds, _ :: l, c => overC ds l fun r => c (d :: r)
  | _ :: _, [], _ => false
def setC : Nat → List V → List V → (List V → Bool) → Bool
  | 0, ds, l, c => overC ds l c
  | n + 1, ds, x :: l, c => setC n ds l fun r => c (x :: r)
  | _ + 1, _, [], _ => false
def appC : List V → List V → (List V → Bool) → Bool
  | [], r, c => c r
  | x :: l, r, c => appC l r fun q => c (x :: q)
def cellsV : V → List V
  | .agg l => l
  | .tup _ => []
  | .z .u => []
  | .z .j => []
  | v => [v]
def repC : Nat → List V → List V → List V
  | 0, _, r => r
  | n + 1, z, r => z ++ repC n z r
def ms (m : M) (f : QN HN O → Nat → Bool) : Bool := M.casesOn (motive := fun _ => Bool) m f
def rdO (a : Nat) (m : M) (c : O → Bool) : Bool := ms m fun h _ => unb (acc HN a) fun f => c (f h)
def wrO (a : Nat) (o : O) (m : M) (c : M → Bool) : Bool := ms m fun h nx => unb (put HN a) fun f => f h o fun h => c ⟨h, nx⟩
def newO (o : O) (m : M) (c : Nat → M → Bool) : Bool := ms m fun h nx => bif Nat.blt nx 262144 then (unb (put HN nx) fun g => g h o fun h => c nx ⟨h, Nat.succ nx⟩) else false
def oRow (o : O) (c : Bool → List V → Bool) : Bool := match o with | .row w l => c w l | _ => false
def oMap (o : O) (c : List (V × V) → Bool) : Bool := match o with | .map l => c l | _ => false
def rdRow (a : Nat) (m : M) (c : List V → Bool) : Bool := rdO a m fun o => oRow o fun _ l => c l
def ld1 (v : V) (m : M) (c : V → Bool) : Bool := oP v fun a o => rdRow a m fun l => nth l o c
def ldN (n : Nat) (v : V) (m : M) (c : V → Bool) : Bool := oP v fun a o => rdRow a m fun l => dropC o l fun l => takeC n l fun l => c (.agg l)
def stN (n : Nat) (v x : V) (m : M) (c : M → Bool) : Bool := oP v fun a o => rdO a m fun ob => oRow ob fun w l => bif w then (bif Nat.beq (lenL (cellsV x)) n then setC o (cellsV x) l fun l => wrO a (.row true l) m c else false) else false
def num : List UInt8 → Nat
  | [] => 0
  | b :: l => Nat.add b.toNat (Nat.mul 256 (num l))
def cvI (k : IntKind) (n : Int) : V := unb (mkK k) fun mk => mk (enc k n)
def cv1 : Value → V
  | .bool x => .b x
  | .int k n => cvI k n
  | .string s => .s s.data.toList.length (num s.data.toList)
  | .pointer none => .z .pn
  | .slice none 0 0 => .z .sn
  | .map none => .z .mn
  | .nilFunc => .z .fnn
  | .nilIface => .z .ifn
  | _ => .z .j
def cv : Value → V
  | .agg cs => .agg (cs.toList.map cv1)
  | v => cv1 v
def cOK1 : Value → Bool
  | .bool _ => true
  | .int k n => decide (k.min ≤ n) && decide (n ≤ k.max)
  | .string s => Nat.ble s.data.toList.length 1099511627776
  | .pointer none => true
  | .slice none 0 0 => true
  | .map none => true
  | .nilFunc => true
  | .nilIface => true
  | _ => false
def cOK : Value → Bool
  | .agg cs => cs.toList.all cOK1
  | v => cOK1 v
def accO (q : Cx) : Operand → Box (q.ε → V)
  | .tmp t => q.A t
  | .const v => bif cOK v then (unb (.mk (cv v)) fun v => .mk fun _ => v) else .mk fun _ => .z .j
  | .global g => unb (.mk (q.E.gl g)) fun v => .mk fun _ => v
  | .func f => .mk fun _ => .fn f [] []
def evD (q : Cx) (e : q.ε) : Operand → V
  | .tmp t => q.look t e
  | .const v => bif cOK v then cv v else .z .j
  | .global g => q.E.gl g
  | .func f => .fn f [] []
def Cx.al (q : Cx) (d : Nat) (x : Operand) : Cx := ⟨q.E, q.ε, fun t e => bif Nat.beq t d then evD q e x else q.look t e, fun t => bif Nat.beq t d then accO q x else q.A t⟩
def accL (q : Cx) : List Operand → Box (q.ε → List V)
  | [] => .mk fun _ => []
  | o :: l => unb (accO q o) fun f => unb (accL q l) fun g => .mk fun e => f e :: g e
def noTI : TI := ⟨.no, 0, 0, []⟩
def ti (E : En) (t : TypeId) : TI := bif Nat.blt t 4096 then get 4 t E.tt else noTI
def kn (E : En) (t : TypeId) : Bool := match (ti E t).k with | .no => false | _ => true
def isAg (i : TI) : Bool := match i.k with | .st _ => true | .ar _ _ => true | _ => false
def op1 (q : Cx) (x : Operand) (f : V → M → (V → M → Bool) → Bool) : Box (OpF q) := unb (accO q x) fun a => .mk fun e m c => f (a e) m c
def op2 (q : Cx) (x y : Operand) (f : V → V → M → (V → M → Bool) → Bool) : Box (OpF q) := unb (accO q x) fun a => unb (accO q y) fun b => .mk fun e m c => f (a e) (b e) m c
def bad {q : Cx} : Box (OpF q) := .mk fun _ _ _ => false
def fldAt (i : TI) (k : Nat) : Option (Nat × TypeId) := match i.k with | .st fs => fs[k]? | _ => none
def isCon : Operand → Bool
  | .const _ => true
  | _ => false
def qAr (E : En) (n : Nat) (e : TypeId) : Option (V → V → Option Bool) := match (ti E e).k with
  | .i _ => bif Nat.beq (ti E e).n 1 then some (qA n) else none
  | _ => none
def qG : List (V → V → Option Bool) → List V → List V → Option Bool
  | [], [], [] => some true
  | g :: gs, a :: l, b :: r => match g a b, qG gs l r with
    | some p, some q => some (and p q)
    | _, _ => none
  | _, _, _ => none
def qSt (gs : List (V → V → Option Bool)) (v u : V) : Option Bool := match v, u with
  | .agg l, .agg r => qG gs l r
  | _, _ => none
def fldG (E : En) (t : TypeId) : Option (V → V → Option Bool) := match (ti E t).k with
  | .i _ => some qI | .s => some qS | .b => some qB
  | _ => none
def stG (E : En) : List (Nat × TypeId) → Nat → Option (List (V → V → Option Bool))
  | [], _ => some []
  | (o, t) :: fs, n => bif Nat.beq o n then (match fldG E t, stG E fs (Nat.succ n) with
    | some g, some gs => some (g :: gs)
    | _, _ => none) else none
def qE (E : En) (k : TK) (con : Bool) : Option (V → V → Option Bool) := match k with
  | .b => some qB | .p _ => some qP | .sl _ => some qSl | .mp _ _ => some qM | .fn => some qF
  | .ifc => bif con then some qIf else none
  | .st fs => (match stG E fs 0 with | some gs => some (qSt gs) | none => none)
  | .ar n e => qAr E n e
  | _ => none
def qKey (E : En) (k : TK) : Option (V → V → Option Bool) := match k with
  | .i _ => some qI | .s => some qS | .b => some qB
  | .ar n e => qAr E n e
  | _ => none
def binSh (q : Cx) (op : BinOp) (k : IntKind) (x y : Operand) : Box (OpF q) := match sh2 op k with | some b => unb b fun g => unb (oK k) fun ok => op2 q x y fun v u m c => ok v fun a => oIx u fun n => g a n fun r => c r m | none => bad
def binI (q : Cx) (op : BinOp) (k : IntKind) (x y : Operand) : Box (OpF q) := match bin2 op k with | some b => unb b fun g => unb (oK k) fun ok => op2 q x y fun v u m c => ok v fun a => ok u fun b => g a b fun r => c r m | none => bad
def binS (q : Cx) (op : BinOp) (x y : Operand) : Box (OpF q) := match strB op with | some g => op2 q x y fun v u m c => oS v fun n x => oS u fun k y => g n x k y fun r => c r m | none => bad
def binE (q : Cx) (neg : Bool) (k : TK) (x y : Operand) : Box (OpF q) := match qE q.E k (or (isCon x) (isCon y)) with
  | some g => op2 q x y fun v u m c => match g v u with | some r => c (.b (bif neg then not r else r)) m | none => false
  | none => bad
def isSh : BinOp → Bool
  | .shl => true
  | .shr => true
  | _ => false
def elems (sz : Nat) (v : V) (m : M) (c : Nat → List V → Bool) : Bool := match v with
  | .z .sn => c 0 []
  | .sl a o n _ _ => bif Nat.beq n 0 then c 0 [] else rdRow a m fun l => dropC o l fun l => takeC (Nat.mul n sz) l fun l => c n l
  | _ => false
def bytesL : Nat → Nat → List V
  | 0, _ => []
  | n + 1, x => .k .u8 (Nat.mod x 256) :: bytesL n (Nat.shiftRight x 8)
def elemsS (sz : Nat) (v : V) (m : M) (c : Nat → List V → Bool) : Bool := match v with
  | .s n x => bif Nat.beq sz 1 then c n (bytesL n x) else false
  | v => elems sz v m c
def isNil (l : List V) : Bool := match l with | [] => true | _ => false
def txtC : List V → (Nat → Bool) → Bool
  | [], c => c 0
  | v :: l, c => match v with
    | .k .u8 b => txtC l fun x => c (Nat.add b (Nat.mul 256 x))
    | _ => false
def qV (v : V) (k : IntKind) (a : Nat → Nat → Bool) (b : Bool) : Bool := match v with
  | .q j c n => bif keq j k then a c n else b
  | _ => b
def trConvI (q : Cx) (k k' : IntKind) (x : Operand) : Box (OpF q) := unb (oK k) fun ok => unb (mkK k') fun mk => unb (mdB k') fun m' => unb (mdB k) fun m0 => unb (hfB k) fun h => bif k.signed
      then op1 q x fun v m c => ok v fun a => bif Nat.blt a h then c (mk (Nat.mod a m')) m else c (mk (Nat.mod (Nat.add a (Nat.sub (Nat.mul m' m0) m0)) m')) m
      else op1 q x fun v m c => ok v fun a => c (mk (Nat.mod a m')) m
def trConvQ (q : Cx) (x : Operand) : Box (OpF q) := unb (trConvI q .i64 .u64 x) fun g => unb (accO q x) fun fx => .mk fun e m c => qV (fx e) .i64 (fun md n => c (.q .u64 md n) m) (g e m c)
def trRemQ (q : Cx) (x y : Operand) : Box (OpF q) := unb (binI q .rem .u64 x y) fun g => unb (accO q x) fun fx => unb (accO q y) fun fy => .mk fun e m c => qV (fx e) .u64 (fun md n => oW (fy e) fun b => bif Nat.beq b md then (bif Nat.blt 0 md then c (.w n) m else false) else false) (g e m c)
def isQ (k k' : IntKind) : Bool := match k, k' with | .i64, .u64 => true | _, _ => false
def isRW (op : BinOp) (k : IntKind) : Bool := match op, k with | .rem, .u64 => true | _, _ => false
def trBin (q : Cx) (op : BinOp) (t : TypeId) (x y : Operand) (yt : TypeId) : Box (OpF q) :=
  match (ti q.E t).k with
  | .i k => bif isSh op then binSh q op k x y else bif isRW op k then trRemQ q x y else binI q op k x y
  | .s => binS q op x y
  | k => match op with
    | .eql => binE q false k x y
    | .neq => binE q true k x y
    | _ => bad
def trConv (q : Cx) (s t : TypeId) (x : Operand) : Box (OpF q) :=
  match (ti q.E s).k, (ti q.E t).k with
  | .i k, .i k' => bif isQ k k' then trConvQ q x else trConvI q k k' x
  | .s, .s => op1 q x fun v m c => oS v fun n x => c (.s n x) m
  | .s, .sl e => (match (ti q.E e).k with
    | .i .u8 => op1 q x fun v m c => oS v fun n x => newO (.row true (bytesL n x)) m fun a m => c (.sl a 0 n n 1) m
    | _ => bad)
  | .sl e, .s => (match (ti q.E e).k with
    | .i .u8 => op1 q x fun v m c => elems 1 v m fun n l => txtC l fun x => c (.s n x) m
    | _ => bad)
  | _, _ => bad
def trIaddr (q : Cx) (t : TypeId) (x y : Operand) : Box (OpF q) :=
  match (ti q.E t).k with
  | .sl e => bif kn q.E e then (unb (.mk (ti q.E e).n) fun sz => op2 q x y fun v u m c => match v with
    | .sl a o n _ _ => oIx u fun i => bif Nat.blt i n then c (.p a (Nat.add o (Nat.mul i sz))) m else false
    | _ => false) else bad
  | .ar n e => bif kn q.E e then (unb (.mk (ti q.E e).n) fun sz => op2 q x y fun v u m c => oP v fun a o => oIx u fun i => bif Nat.blt i n then c (.p a (Nat.add o (Nat.mul i sz))) m else false) else bad
  | _ => bad
def partC (ag : Bool) (sz off : Nat) (l : List V) (c : V → Bool) : Bool := bif ag then dropC off l fun l => takeC sz l fun l => c (.agg l) else nth l off c
def trIndex (q : Cx) (t : TypeId) (x y : Operand) : Box (OpF q) :=
  match (ti q.E t).k with
  | .s => op2 q x y fun v u m c => oS v fun n x => oIx u fun i => bif Nat.blt i n then c (.k .u8 (Nat.mod (Nat.shiftRight x (Nat.mul 8 i)) 256)) m else false
  | .ar n e => bif kn q.E e then (unb (.mk (ti q.E e)) fun te => op2 q x y fun v u m c => oAgg v fun l => oIx u fun i => bif Nat.blt i n then partC (isAg te) te.n (Nat.mul i te.n) l fun r => c r m else false) else bad
  | _ => bad
def oOpt (v : Option V) (z : Nat) (c : Nat → Bool) : Bool := match v with | some v => oIx v c | none => c z
def accOpt (q : Cx) : Option Operand → Box (q.ε → Option V)
  | none => .mk fun _ => none
  | some x => unb (accO q x) fun f => .mk fun e => some (f e)
def trSlice (q : Cx) (t : TypeId) (x : Operand) (lo hi mx : Option Operand) : Box (OpF q) :=
  unb (accO q x) fun fx => unb (accOpt q lo) fun fl => unb (accOpt q hi) fun fh =>
  match (ti q.E t).k, mx with
  | .s, none => .mk fun e m c => oS (fx e) fun n x => oOpt (fh e) n fun h => oOpt (fl e) 0 fun l =>
      bif Nat.ble h n then (bif Nat.ble l h then c (.s (Nat.sub h l) (Nat.mod (Nat.shiftRight x (Nat.mul 8 l)) (Nat.pow 256 (Nat.sub h l)))) m else false) else false
  | .sl e, none => bif kn q.E e then (unb (.mk (ti q.E e).n) fun sz => .mk fun e m c => match fx e with
      | .sl a o n k x => oOpt (fh e) n fun h => oOpt (fl e) 0 fun l => bif Nat.ble h k then (bif Nat.ble l h then (bif Nat.beq x 0 then (bif Nat.beq l k then c (.sl a o 0 0 0) m else c (.sl a (Nat.add o (Nat.mul l sz)) (Nat.sub h l) (Nat.sub k l) 0) m) else (bif Nat.beq x sz then c (.sl a (Nat.add o (Nat.mul l sz)) (Nat.sub h l) (Nat.sub k l) x) m else false)) else false) else false
      | .z .sn => oOpt (fh e) 0 fun h => oOpt (fl e) 0 fun l => bif Nat.beq h 0 then (bif Nat.beq l 0 then c (.z .sn) m else false) else false
      | _ => false) else bad
  | .sl e, some z => bif kn q.E e then (unb (accO q z) fun fm => .mk fun e m c => match fx e with
      | .sl _ _ _ k _ => oIx (fm e) fun u => (match fh e with | some v => oIx v fun h => oOpt (fl e) 0 fun l => bif Nat.ble u k then (bif Nat.ble h u then (bif Nat.ble l h then c (.z .j) m else false) else false) else false | none => false)
      | _ => false) else bad
  | .ar n e, none => bif and (kn q.E e) (Nat.ble n 1099511627776) then (unb (.mk (ti q.E e).n) fun sz => .mk fun e m c => oP (fx e) fun a o => oOpt (fh e) n fun h => oOpt (fl e) 0 fun l =>
      bif Nat.ble h n then (bif Nat.ble l h then (bif Nat.beq l n then c (.sl a o 0 0 0) m else c (.sl a (Nat.add o (Nat.mul l sz)) (Nat.sub h l) (Nat.sub n l) 0) m) else false) else false) else bad
  | _, _ => bad
def fillC (pl : Nat → Option (Nat × Nat)) : List (Nat × V) → List V → (List V → Bool) → Bool
  | [], l, c => c l
  | (i, v) :: r, l, c => match pl i with
    | some (o, sz) => bif Nat.beq sz 0 then false else bif Nat.beq (lenL (cellsV v)) sz then setC o (cellsV v) l fun l => fillC pl r l c else false
    | none => false
def zipI : List Nat → List V → List (Nat × V)
  | i :: l, v :: r => (i, v) :: zipI l r
  | _, _ => []
def trBuild (q : Cx) (t : TypeId) (ps : List (Nat × Operand)) : Box (OpF q) :=
  unb (accL q (ps.map (·.2))) fun f => match (ti q.E t).k with
  | .st fs => bif fs.all (fun p => kn q.E p.2) then .mk fun e m c => fillC (fun i => match fs[i]? with | some (o, t) => some (o, (ti q.E t).n) | none => none) (zipI (ps.map (·.1)) (f e)) (ti q.E t).z fun l => c (.agg l) m else bad
  | .ar _ el => bif kn q.E el then .mk fun e m c => fillC (fun i => some (Nat.mul i (ti q.E el).n, (ti q.E el).n)) (zipI (ps.map (·.1)) (f e)) (ti q.E t).z fun l => c (.agg l) m else bad
  | _ => bad
def trBuildS (q : Cx) (t : TypeId) (n : Nat) (ps : List (Nat × Operand)) : Box (OpF q) :=
  unb (accL q (ps.map (·.2))) fun f => match (ti q.E t).k with
  | .sl el => bif kn q.E el && Nat.ble (Nat.mul n (ti q.E el).n) 65536 && Nat.ble n 65536 then .mk fun e m c => fillC (fun i => some (Nat.mul i (ti q.E el).n, (ti q.E el).n)) (zipI (ps.map (·.1)) (f e)) (repC n (ti q.E el).z []) fun l => newO (.row true l) m fun a m => c (.sl a 0 n n 0) m else bad
  | _ => bad
def zeroV (i : TI) : V := bif isAg i then .agg i.z else match i.z with | [v] => v | _ => .z .j
def isSl (s : V) : Bool := match s with | .z .sn => true | .sl _ _ _ _ _ => true | _ => false
def appV (sz by' : Nat) (s : V) (k : Nat) (xs : List V) (m : M) (c : V → M → Bool) : Bool :=
  bif Nat.beq k 0 then (bif isSl s then c s m else false) else bif Nat.beq sz 0 then false else match s with
  | .z .sn => bif Nat.ble (Nat.mul k by') 1099511627776 then (bif Nat.ble k 1099511627776 then newO (.row true xs) m fun a m => c (.sl a 0 k k sz) m else false) else false
  | .sl a o n q x => bif Nat.ble (Nat.add n k) q
      then rdO a m fun ob => oRow ob fun w l => bif w then setC (Nat.add o (Nat.mul n sz)) xs l fun l => wrO a (.row true l) m fun m => c (.sl a o (Nat.add n k) q x) m else false
      else bif Nat.ble (Nat.mul (Nat.add n k) by') 1099511627776 then (bif Nat.ble (Nat.add n k) 1099511627776 then elems sz s m fun _ l => appC l xs fun l => bif Nat.beq x 0 then newO (.row true l) m fun b m => c (.sl b 0 (Nat.add n k) (Nat.add n k) sz) m
        else bif Nat.beq q 0 then false else bif Nat.beq x sz then rdO a m fun ob => oRow ob fun w _ => bif w then wrO a .dead m fun m => newO (.row true l) m fun b m => c (.sl b 0 (Nat.add n k) (Nat.add n k) sz) m else false else false else false) else false
  | _ => false
def findM (g : V → V → Option Bool) (k : V) : List (V × V) → (V → Bool) → Bool → Bool
  | [], _, n => n
  | (a, v) :: l, c, n => match g k a with
    | some true => c v
    | some false => findM g k l c n
    | none => false
def setM (g : V → V → Option Bool) (k v : V) : List (V × V) → (List (V × V) → Bool) → Bool
  | [], c => c [(k, v)]
  | (a, u) :: l, c => match g k a with
    | some true => c ((k, v) :: l)
    | some false => setM g k v l fun l => c ((a, u) :: l)
    | none => false
def knArg (q : Cx) (l : List TypeId) : Bool := match l with | t :: _ => (match (ti q.E t).k with | .i _ => true | .sl _ => true | .s => true | _ => false) | [] => false
def zerosB (q : Cx) (l : List TypeId) : Bool := match l with | t :: _ => (match (ti q.E t).k with | .i _ => true | _ => false) | [] => false
def trBi (q : Cx) (b : Builtin) (ty : TypeId) (args : List Operand) (ats : List TypeId) : Box (OpF q) :=
  match b, args, ats with
  | .len, [x], t :: _ => (match (ti q.E t).k with
      | .s => op1 q x fun v m c => oS v fun n _ => c (.i n) m
      | .sl _ => op1 q x fun v m c => match v with | .z .sn => c (.i 0) m | .sl _ _ n _ _ => c (.i n) m | _ => false
      | .ar n _ => bif Nat.ble n 1099511627776 then op1 q x fun v m c => c (.i n) m else bad
      | .mp _ _ => op1 q x fun v m c => match v with | .z .mn => c (.i 0) m | .m a => rdO a m fun o => oMap o fun l => bif Nat.ble l.length 1099511627776 then c (.i l.length) m else false | _ => false
      | _ => bad)
  | .cap, [x], t :: _ => (match (ti q.E t).k with
      | .sl _ => op1 q x fun v m c => match v with | .z .sn => c (.i 0) m | .sl _ _ _ q 0 => c (.i q) m | _ => false
      | _ => bad)
  | .append, [x, y], t :: _ => (match (ti q.E t).k with
      | .sl e => bif kn q.E e && knArg q (ats.drop 1) then (unb (.mk (ti q.E e).n) fun sz => unb (.mk (ti q.E e).by') fun by' => unb (.mk (zerosB q (ats.drop 1))) fun zs => unb (.mk (ti q.E e).z) fun z => bif zs then op2 q x y fun v u m c => oIx u fun k => bif and (Nat.ble k 1048576) (Nat.ble (Nat.mul k by') 1099511627776) then appV sz by' v k (repC k z []) m c else false else op2 q x y fun v u m c => elemsS sz u m fun k xs => appV sz by' v k xs m c) else bad
      | _ => bad)
  | .copy, [x, y], t :: _ => (match (ti q.E t).k with
      | .sl e => bif kn q.E e then (unb (.mk (ti q.E e).n) fun sz => op2 q x y fun v u m c => elemsS sz u m fun k xs => match v with
          | .z .sn => c (.i 0) m
          | .sl a o n _ _ => bif Nat.beq (Nat.min k n) 0 then c (.i 0) m else takeC (Nat.mul (Nat.min k n) sz) xs fun xs => rdO a m fun ob => oRow ob fun w l => bif w then setC o xs l fun l => wrO a (.row true l) m fun m => c (.i (Nat.min k n)) m else false
          | _ => false) else bad
      | _ => bad)
  | .clear, [x], t :: _ => (match (ti q.E t).k with
      | .sl e => bif kn q.E e then (unb (.mk (ti q.E e).z) fun z => op1 q x fun v m c => match v with
          | .z .sn => c (.tup []) m
          | .sl a o n _ _ => bif Nat.beq n 0 then c (.tup []) m else rdO a m fun ob => oRow ob fun w l => bif w then setC o (repC n z []) l fun l => wrO a (.row true l) m fun m => c (.tup []) m else false
          | _ => false) else bad
      | _ => bad)
  | .min, [x, y], _ => (match (ti q.E ty).k with
      | .i k => (match bin2 .lss k with | some b => unb b fun g => unb (oK k) fun ok => op2 q x y fun v u m c => ok v fun a => ok u fun b => g b a fun r => oB r fun r => bif r then c u m else c v m | none => bad)
      | _ => bad)
  | .max, [x, y], _ => (match (ti q.E ty).k with
      | .i k => (match bin2 .lss k with | some b => unb b fun g => unb (oK k) fun ok => op2 q x y fun v u m c => ok v fun a => ok u fun b => g a b fun r => oB r fun r => bif r then c u m else c v m | none => bad)
      | _ => bad)
  | _, _, _ => bad
def trMove (q : Cx) (x : Operand) : Box (OpF q) := op1 q x fun v m c => c v m
def trMakeM (q : Cx) : Box (OpF q) := .mk fun e m c => newO (.map []) m fun a m => c (.m a) m
def trMakeM2 (q : Cx) (t : TypeId) (x : Operand) : Box (OpF q) := match (ti q.E t).k with
  | .mp _ _ => op1 q x fun v m c => oAny v fun _ _ => newO (.map []) m fun a m => c (.m a) m
  | _ => bad
def trPick (q : Cx) (c a b : Operand) : Box (OpF q) :=
  unb (accO q c) fun fc => unb (accO q a) fun fa => unb (accO q b) fun fb => .mk fun e m k => oB (fc e) fun t => bif t then k (fa e) m else k (fb e) m
def trAlloc (q : Cx) (t : TypeId) : Box (OpF q) :=
  bif kn q.E t then (unb (.mk (ti q.E t).z) fun z => .mk fun e m c => newO (.row true z) m fun a m => c (.p a 0) m) else bad
def trBox (q : Cx) (t : TypeId) (x : Operand) : Box (OpF q) :=
  bif kn q.E t then (unb (.mk (ti q.E t).n) fun n => op1 q x fun v m c => bif Nat.beq (lenL (cellsV v)) n && Nat.blt 0 n then newO (.row true (cellsV v)) m fun a m => c (.p a 0) m else false) else bad
def trMapSet (q : Cx) (t : TypeId) (mp k x : Operand) : Box (OpF q) :=
  match (ti q.E t).k with
  | .mp kt _ => (match qKey q.E (ti q.E kt).k with
    | some g => unb (accO q mp) fun fm => unb (accO q k) fun fk => unb (accO q x) fun fx => .mk fun e m c => match fm e with
      | .m a => rdO a m fun ob => oMap ob fun l => (match g (fk e) (fk e) with | some _ => setM g (fk e) (fx e) l fun l => wrO a (.map l) m fun m => c (.z .u) m | none => false)
      | _ => false
    | none => bad)
  | _ => bad
def trLoad (q : Cx) (t : TypeId) (a : Operand) : Box (OpF q) :=
  bif !kn q.E t then bad else unb (.mk (ti q.E t)) fun i => bif isAg i then unb (.mk i.n) fun n => op1 q a fun v m c => ldN n v m fun x => c x m else op1 q a fun v m c => ld1 v m fun x => c x m
def trStore (q : Cx) (t : TypeId) (a x : Operand) : Box (OpF q) :=
  bif !kn q.E t then bad else unb (.mk (ti q.E t).n) fun n => bif Nat.beq n 0 then op2 q a x fun v u m c => oP v fun _ _ => (match u with | .agg [] => c (.z .u) m | _ => false) else op2 q a x fun v u m c => stN n v u m fun m => c (.z .u) m
def trNil (q : Cx) (x : Operand) : Box (OpF q) :=
  op1 q x fun v m c => match v with | .z .pn => false | .z .ifn => false | .z .fnn => false | .p _ _ => c v m | _ => false
def trUn (q : Cx) (op : UnOp) (t : TypeId) (x : Operand) : Box (OpF q) :=
  (match op, (ti q.E t).k with
      | .not, .b => op1 q x fun v m c => oB v fun q => c (.b (not q)) m
      | .neg, .i k => unb (oK k) fun ok => unb (mkK k) fun mk => unb (mdB k) fun md => op1 q x fun v m c => ok v fun a => c (mk (Nat.mod (Nat.sub md a) md)) m
      | .xor, .i k => unb (oK k) fun ok => unb (mkK k) fun mk => unb (mdB k) fun md => op1 q x fun v m c => ok v fun a => c (mk (Nat.sub (Nat.sub md 1) a)) m
      | _, _ => bad)
def trIfc (q : Cx) (t : TypeId) (x : Operand) : Box (OpF q) :=
  (match (ti q.E t).k with
      | .ifc => bad
      | .no => bad
      | _ => op1 q x fun v m c => c (.ifc t v) m)
def trFn (q : Cx) (f : FuncId) (fs cs : Array Operand) : Box (OpF q) :=
  unb (accL q fs.toList) fun ff => unb (accL q cs.toList) fun fc => .mk fun e m c => c (.fn f (ff e) (fc e)) m
def trMakeS (q : Cx) (t : TypeId) (n k : Operand) : Box (OpF q) :=
  (match (ti q.E t).k with
      | .sl e => bif !kn q.E e then bad else unb (.mk (ti q.E e)) fun te => op2 q n k fun v u m c => oIx v fun n => oIx u fun k => bif Nat.ble n k then (bif Nat.ble (Nat.mul k te.by') 1099511627776 then (bif Nat.ble k 1099511627776 then newO (.row true (repC k te.z [])) m fun a m => c (.sl a 0 n k 0) m else false) else false) else false
      | _ => bad)
def trFaddr (q : Cx) (t : TypeId) (x : Operand) (k : Nat) : Box (OpF q) :=
  (match fldAt (ti q.E t) k with
      | some (off, ft) => bif Nat.beq (ti q.E ft).n 0 || !kn q.E ft then bad else op1 q x fun v m c => oP v fun a o => c (.p a (Nat.add o off)) m
      | none => bad)
def trField (q : Cx) (t : TypeId) (x : Operand) (k : Nat) : Box (OpF q) :=
  (match fldAt (ti q.E t) k with
      | some (off, ft) => bif !kn q.E ft then bad else unb (.mk (ti q.E ft)) fun i => op1 q x fun v m c => oAgg v fun l => partC (isAg i) i.n off l fun r => c r m
      | none => bad)
def lookV (g : V → V → Option Bool) (z : V) (ok : Bool) (v u : V) (m : M) (c : V → M → Bool) : Bool := match g u u with
  | none => false
  | some _ => match v with
    | .z .mn => bif ok then c (.tup [z, .b false]) m else c z m
    | .m a => rdO a m fun ob => oMap ob fun l => findM g u l (fun r => bif ok then c (.tup [r, .b true]) m else c r m) (bif ok then c (.tup [z, .b false]) m else c z m)
    | _ => false
def trLookup (q : Cx) (t : TypeId) (x y : Operand) (ok : Bool) : Box (OpF q) :=
  (match (ti q.E t).k with
      | .mp kt el => (match qKey q.E (ti q.E kt).k with
        | some g => bif kn q.E el then (unb (.mk (zeroV (ti q.E el))) fun z => op2 q x y fun v u m c => lookV g z ok v u m c) else bad
        | none => bad)
      | _ => bad)
def trAssert (q : Cx) (x : Operand) (d : TypeId) (ok : Bool) : Box (OpF q) :=
  unb (.mk (zeroV (ti q.E d))) fun z => match (ti q.E d).k with
      | .ifc => bad
      | .no => bad
      | _ => op1 q x fun v m c => match v with
          | .ifc k y => bif Nat.beq k d then (bif ok then c (.tup [y, .b true]) m else c y m) else (bif ok then c (.tup [z, .b false]) m else false)
          | .z .ifn => bif ok then c (.tup [z, .b false]) m else false
          | _ => false
def trExtract (q : Cx) (x : Operand) (k : Nat) : Box (OpF q) :=
  op1 q x fun v m c => match v with | .tup l => nth l k fun r => c r m | _ => false
inductive Kd where | call (f : Operand) (args : List Operand) | defer (f : Operand) (args : List Operand) | pan (x : Operand) | recov | op
structure An where
  k : Kd
  rd : List Operand
  f : (q : Cx) → TypeId → Box (OpF q)
  c : Cx → Nat
def an2 (f : (q : Cx) → TypeId → Box (OpF q)) (rd : List Operand) : An := ⟨.op, rd, f, fun _ => 0⟩
def optL : Option Operand → List Operand → List Operand
  | none, l => l
  | some x, l => x :: l
def kdBi (b : Builtin) (l : List Operand) : Kd := match b with
  | .recover => .recov
  | .panic => (match l with | [x] => .pan x | _ => .op)
  | _ => .op
def clBi (b : Builtin) : Nat := match b with | .append => 3 | .copy => 3 | .clear => 3 | .panic => 3 | .recover => 3 | .len => 1 | _ => 0
def anBi (b : Builtin) (args : Array Operand) (ats : Array TypeId) : An := ⟨kdBi b args.toList, args.toList, fun q ty => trBi q b ty args.toList ats.toList, fun _ => clBi b⟩
def anNo (k : Kd) (rd : List Operand) : An := ⟨k, rd, fun _ _ => bad, fun _ => 3⟩
def cConv (s d : TypeId) (q : Cx) : Nat := match (ti q.E s).k, (ti q.E d).k with | .s, .sl _ => 2 | .sl _, .s => 1 | _, _ => 0
def an : Op → An
  | .move x => an2 (fun q _ => trMove q x) [x]
  | .assign x => an2 (fun q _ => trMove q x) [x]
  | .pick c a b => an2 (fun q _ => trPick q c a b) [c, a, b]
  | .alloc t => ⟨.op, [], fun q _ => trAlloc q t, fun _ => 2⟩
  | .box t x => ⟨.op, [x], fun q _ => trBox q t x, fun _ => 2⟩
  | .build t ps => an2 (fun q _ => trBuild q t ps.toList) (ps.toList.map (·.2))
  | .buildSlice t n ps => ⟨.op, ps.toList.map (·.2), fun q _ => trBuildS q t n ps.toList, fun _ => 2⟩
  | .insert t mp k x => ⟨.op, [mp, k, x], fun q _ => trMapSet q t mp k x, fun _ => 3⟩
  | .mapUpdate t mp k x => ⟨.op, [mp, k, x], fun q _ => trMapSet q t mp k x, fun _ => 3⟩
  | .load t a => ⟨.op, [a], fun q _ => trLoad q t a, fun _ => 1⟩
  | .store t a x => ⟨.op, [a, x], fun q _ => trStore q t a x, fun _ => 3⟩
  | .nilCheck x => an2 (fun q _ => trNil q x) [x]
  | .binOp op t x y yt => an2 (fun q _ => trBin q op t x y yt) [x, y]
  | .unOp op t x => an2 (fun q _ => trUn q op t x) [x]
  | .convert s d x => ⟨.op, [x], fun q _ => trConv q s d x, cConv s d⟩
  | .makeInterface t x => an2 (fun q _ => trIfc q t x) [x]
  | .makeFunc (.func f) fs cs => an2 (fun q _ => trFn q f fs cs) (fs.toList ++ cs.toList)
  | .makeMap t none => ⟨.op, [], fun q _ => trMakeM q, fun _ => 2⟩
  | .makeMap t (some x) => ⟨.op, [x], fun q _ => trMakeM2 q t x, fun _ => 2⟩
  | .makeSlice t n k => ⟨.op, [n, k], fun q _ => trMakeS q t n k, fun _ => 2⟩
  | .slice t x lo hi mx => an2 (fun q _ => trSlice q t x lo hi mx) (x :: optL lo (optL hi (optL mx [])))
  | .fieldAddr t x k => an2 (fun q _ => trFaddr q t x k) [x]
  | .field t x k => an2 (fun q _ => trField q t x k) [x]
  | .indexAddr t x y => an2 (fun q _ => trIaddr q t x y) [x, y]
  | .index t x y => an2 (fun q _ => trIndex q t x y) [x, y]
  | .lookup t x y ok => ⟨.op, [x, y], fun q _ => trLookup q t x y ok, fun _ => 1⟩
  | .typeAssert x t d ok => an2 (fun q _ => trAssert q x d ok) [x]
  | .extract x k => an2 (fun q _ => trExtract q x k) [x]
  | .call ⟨.builtin b, args, ats⟩ => anBi b args ats
  | .call ⟨.value f, args, _⟩ => anNo (.call f args.toList) (f :: args.toList)
  | .defer ⟨.value f, args, _⟩ => anNo (.defer f args.toList) (f :: args.toList)
  | .panic x => anNo (.pan x) [x]
  | _ => anNo .op []
def trOp (q : Cx) (o : Oper) : Box (OpF q) := (an o.op).f q o.type
def kd (o : Oper) : Kd := (an o.op).k
def cls (q : Cx) (o : Oper) : Nat := (an o.op).c q
structure Fx where
  E : En
  n : Nat
  sl : QN 3 Nat
  ks : List Nat
def Fx.ix (x : Fx) (t : Nat) : Nat := bif Nat.blt t 512 then get 3 t x.sl else 0
abbrev Fx.ε (x : Fx) := QN x.n V
def atC (x : Fx) (k : Nat) : Box (x.ε → V) := bif Nat.beq k 0 then .mk fun _ => .z .j else acc x.n k
def Fx.cx (x : Fx) : Cx := ⟨x.E, QN x.n V, fun t e => bif Nat.beq (x.ix t) 0 then .z .j else get x.n (x.ix t) e, fun t => atC x (x.ix t)⟩
def Cx.ext (q : Cx) (d : Nat) : Cx := ⟨q.E, V × q.ε, fun t e => bif Nat.beq t d then e.1 else q.look t e.2, fun t => bif Nat.beq t d then .mk (fun e => e.1) else unb (q.A t) fun f => .mk fun e => f e.2⟩
def maskL (x : Fx) (q : Cx) : List Nat → q.ε → x.ε → (x.ε → Bool) → Bool
  | [], _, r, c => c r
  | t :: l, e, r, c => unb (accO q (.tmp t)) fun f => unb (put x.n (x.ix t)) fun g => g r (f e) fun r => maskL x q l e r c
def panC (x : Fx) (q : Cx) (base : q.ε → x.ε) (p : V) (e : q.ε) (m : M) (κ : KK x.ε) : Bool :=
  unb (acc x.n 0) fun gd => unb (put x.n 0) fun sd => maskL x q (x.ks.filter fun t => Nat.blt 0 (x.ix t)) e (qall (.z .j) x.n) fun r => sd r (gd (base e)) fun r => κ.kx (.pan p) r m
def oFn (v : V) (c : FuncId → List V → List V → Bool) : Bool := match v with | .fn g fs l => c g fs l | _ => false
abbrev RF (x : Fx) (q : Cx) := q.ε → M → KK x.ε → Bool
def noR {x : Fx} {q : Cx} : Box (RF x q) := .mk fun _ _ _ => false
def wbL (x : Fx) (q : Cx) : List Nat → Box (q.ε → x.ε → (x.ε → Bool) → Bool)
  | [] => .mk fun _ r c => c r
  | d :: l => unb (accO q (.tmp d)) fun f => unb (put x.n (x.ix d)) fun g => unb (wbL x q l) fun h => .mk fun e r c => g r (f e) fun r => h e r c
def trWb (x : Fx) (q : Cx) (base : q.ε → x.ε) (wb : List Nat) : Box (RF x q) := unb (wbL x q wb) fun w => .mk fun e m κ => w e (base e) fun r => κ.kn r m
def trStep (x : Fx) (q : Cx) (base : q.ε → x.ε) (o : Oper) (q' : Cx) (st : V → q.ε → q'.ε) (r : RF x q') : Box (RF x q) := match kd o with
  | .call f args => unb (accO q f) fun ff => unb (accL q args) fun fa => .mk fun e m κ => oFn (ff e) fun g fs l => κ.cf g (fs ++ fa e ++ l) m (fun v m => r (st v e) m κ) (fun p m => panC x q base p e m κ)
  | .pan a => unb (accO q a) fun fx => .mk fun e m κ => match fx e with
      | .ifc t v => panC x q base (.ifc t v) e m κ
      | _ => false
  | .defer _ _ => noR
  | .recov => noR
  | .op => unb (trOp q o) fun f => .mk fun e m κ => f e m fun v m => r (st v e) m κ
def trG (x : Fx) (ops : Array Oper) (q : Cx) (base : q.ε → x.ε) (o : Oper) (q' : Cx) (st : V → q.ε → q'.ε) (r : RF x q') : Box (RF x q) := match o.guard with
  | none => trStep x q base o q' st r
  | some (g, p) => match (ops[g]?).bind (·.dst) with
    | none => noR
    | some d => unb (accO q (.tmp d)) fun fg => unb (trStep x q base o q' st r) fun f => .mk fun e m κ => match fg e with
        | .b t => bif (t == p) then f e m κ else r (st (.z .u) e) m κ
        | .z .u => r (st (.z .u) e) m κ
        | _ => false
def wbAdd (x : Fx) (o : Oper) (wb : List Nat) : List Nat := match o.dst with
  | some d => bif Nat.blt 0 (x.ix d) then d :: wb.filter (fun t => !Nat.beq t d) else wb
  | none => wb
def trDefer (x : Fx) (q : Cx) (base : q.ε → x.ε) (wb : List Nat) (o : Oper) : Box (RF x q) := match kd o, o.dst, o.guard with
  | .defer f args, none, none => unb (accO q f) fun ff => unb (accL q args) fun fa => unb (wbL x q wb) fun w => unb (acc x.n 0) fun gd => unb (put x.n 0) fun sd => .mk fun e m κ => oFn (ff e) fun g fs l =>
      w e (base e) fun r => sd r (.tup [.fn g [] (fs ++ fa e ++ l), gd r]) fun r => κ.kn r m
  | _, _, _ => noR
def isDefer (o : Oper) : Bool := match kd o with | .defer _ _ => true | _ => false
def mvOf (o : Oper) : Option (Nat × Operand) := match o.op, o.guard, o.dst with
  | .move x, none, some d => some (d, x)
  | .assign x, none, some d => some (d, x)
  | _, _, _ => none
def trOps (x : Fx) (ops : Array Oper) : List Oper → (q : Cx) → (q.ε → x.ε) → List Nat → Box (RF x q)
  | [], q, base, wb => trWb x q base wb
  | o :: l, q, base, wb => bif isDefer o && l.isEmpty then trDefer x q base wb o else match mvOf o with
    | some (d, y) => trOps x ops l (q.al d y) base (wbAdd x o wb)
    | none => match o.dst with
      | some d => unb (trOps x ops l (q.ext d) (fun e => base e.2) (wbAdd x o wb)) fun r => trG x ops q base o (q.ext d) (fun v e => (v, e)) r
      | none => unb (trOps x ops l q base wb) fun r => trG x ops q base o q (fun _ e => e) r
def isEff (q : Cx) (o : Oper) : Bool := Nat.beq (cls q o) 3
def aheadM (ms : List Nat) (o : Oper) : Nat := o.after.toList.foldl (fun s e => bif Region.binds .any e then Nat.lor s (Nat.lor (Nat.shiftLeft 1 e.on) (ms.getD e.on 0)) else s) 0
def aheadL : List Oper → List Nat → List Nat
  | [], ms => ms
  | o :: l, ms => aheadL l (ms ++ [aheadM ms o])
def hasB (s i : Nat) : Bool := Nat.beq (Nat.mod (Nat.shiftRight s i) 2) 1
def unW (ops : Array Oper) (q : Cx) (o : Oper) : Box (q.ε → Bool) := match o.guard with
  | none => .mk fun _ => false
  | some (g, p) => match (ops[g]?).bind (·.dst) with
    | none => .mk fun _ => false
    | some d => unb (accO q (.tmp d)) fun f => .mk fun e => match f e with | .b t => !(t == p) | .z .u => true | _ => false
def chkO (a a' : Nat) (m m' : M) : Bool := rdO a m fun ob => rdO a' m' fun ob' => smO ob ob'
def chk (cl : Nat) {q : Cx} (f : OpF q) (un : q.ε → Bool) (v : V) (e : q.ε) (m : M) : Bool := bif un e then true else bif Nat.beq cl 1 then f e m fun v' _ => smV v v' else match v with
    | .p a o => f e m fun v' m' => match v' with | .p a' o' => bif Nat.beq o o' then chkO a a' m m' else false | _ => false
    | .sl a o n c y => f e m fun v' m' => match v' with | .sl a' o' n' c' y' => bif sm1 (.sl 0 o n c y) (.sl 0 o' n' c' y') then chkO a a' m m' else false | _ => false
    | .m a => f e m fun v' m' => match v' with | .m a' => chkO a a' m m' | _ => false
    | _ => false
abbrev PC (q : Cx) := List (Nat × (q.ε → M → Bool))
def chkAll {q : Cx} : List Nat → PC q → q.ε → M → Bool
  | [], _, _, _ => true
  | i :: l, pc, e, m => bif (match pc.find? (fun p => Nat.beq p.1 i) with | some p => p.2 e m | none => false) then chkAll l pc e m else false
def PC.up {q : Cx} (d : Nat) (pc : PC q) : PC (q.ext d) := pc.map fun p => (p.1, fun e m => p.2 e.2 m)
def pcAdd {q : Cx} (o : Oper) (i d : Nat) (f : OpF q) (un : q.ε → Bool) (pc : PC q) : PC (q.ext d) := bif Nat.blt 0 (cls q o) && Nat.blt (cls q o) 3 then (i, fun e m => chk (cls q o) f un e.1 e.2 m) :: pc.up d else pc.up d
def trPlan (x : Fx) (ops : Array Oper) : List (Nat × List Nat) → (q : Cx) → (q.ε → x.ε) → List Nat → PC q → Box (RF x q)
  | [], q, base, wb, _ => trWb x q base wb
  | (i, rc) :: l, q, base, wb, pc => match ops[i]? with
    | none => noR
    | some o => match o.dst with
      | some d => unb (trOp q o) fun f => unb (unW ops q o) fun un =>
          unb (trPlan x ops l (q.ext d) (fun e => base e.2) (wbAdd x o wb) (pcAdd o i d f un pc)) fun r => trG x ops q base o (q.ext d) (fun v e => (v, e)) (fun e m κ => bif chkAll rc (pcAdd o i d f un pc) e m then r e m κ else false)
      | none => unb (trPlan x ops l q base wb pc) fun r => trG x ops q base o q (fun _ e => e) (fun e m κ => bif chkAll rc pc e m then r e m κ else false)
def quietIn (q : Cx) (ops : List Oper) (ah : List Nat) (es : Nat) (done : Nat) : List Nat := (List.range ops.length).filter fun i => match ops[i]? with
  | some o => !isEff q o && !hasB done i && Nat.beq (Nat.land (ah.getD i 0) es) (Nat.land (Nat.land (ah.getD i 0) es) done)
  | none => false
def setOf (l : List Nat) : Nat := l.foldl (fun s i => Nat.lor s (Nat.shiftLeft 1 i)) 0
def rcOf (q : Cx) (ops : List Oper) (ah : List Nat) (es done i : Nat) : List Nat := (List.range ops.length).filter fun k => hasB done k && !hasB es k && !hasB (ah.getD i 0) k && (match ops[k]? with | some o => Nat.blt 0 (cls q o) | none => false)
def planQ (q : Cx) (ops : List Oper) (ah : List Nat) (es : Nat) : List Nat → Nat → List (Nat × List Nat)
  | [], _ => []
  | i :: l, done => (i, match ops[i]? with | some o => (bif Nat.beq (cls q o) 2 then rcOf q ops ah es done i else []) | none => []) :: planQ q ops ah es l (Nat.lor done (Nat.shiftLeft 1 i))
def planGo (q : Cx) (ops : List Oper) (ah : List Nat) (es : Nat) : List Nat → Nat → List (Nat × List Nat)
  | [], done => planQ q ops ah es (quietIn q ops ah es done) done
  | e :: l, done =>
    let qs := quietIn q ops ah es done
    let dn := Nat.lor done (setOf qs)
    planQ q ops ah es qs done ++ (e, rcOf q ops ah es dn e) :: planGo q ops ah es l (Nat.lor dn (Nat.shiftLeft 1 e))
def planOf (q : Cx) (ops : List Oper) : List (Nat × List Nat) :=
  let ah := aheadL ops []
  let el := (List.range ops.length).filter fun i => match ops[i]? with | some o => isEff q o | none => false
  planGo q ops ah (setOf el) el 0
def dstIn (o : Oper) (t : Nat) : Bool := match o.dst with | some d => Nat.beq d t | none => false
def isTmp (x : Operand) (t : Nat) : Bool := match x with | .tmp u => Nat.beq u t | _ => false
def ndB : List Nat → Bool
  | [] => true
  | i :: l => !l.contains i && ndB l
def planOK (x : Fx) (ops : List Oper) (pl : List (Nat × List Nat)) : Bool :=
  let ah := aheadL ops []
  let ix := pl.map (·.1)
  ndB ix && (List.range ops.length).all (fun i => ix.contains i) &&
  (List.range ops.length).all fun i => match ops[i]? with
    | none => false
    | some o =>
      o.after.toList.all (fun e => !Region.binds .any e || Nat.blt e.on i) &&
      (match o.guard with | none => true | some (g, _) => hasB (ah.getD i 0) g) &&
      (match o.dst with | none => true | some d => !(x.ks.contains d) && (List.range ops.length).all fun k => Nat.beq k i || match ops[k]? with | some o' => !dstIn o' d | none => false) &&
      o.op.operands.toList.all fun y => (List.range ops.length).all fun k => match ops[k]? with
        | some o' => match o'.dst with | some d => !isTmp y d || hasB (ah.getD i 0) k || Nat.beq k i || hasB (ah.getD k 0) i | none => true
        | none => false
def planOrd (q : Cx) (ops : List Oper) (ah : List Nat) (es : Nat) : List (Nat × List Nat) → Nat → Bool
  | [], _ => true
  | (i, rc) :: l, sc => (match ops[i]? with
    | none => false
    | some o => Nat.beq (Nat.land (ah.getD i 0) sc) (ah.getD i 0) &&
        Nat.beq (Nat.land (Nat.land sc es) (ah.getD i 0)) (Nat.land sc es) &&
        (isEff q o == hasB es i) &&
        (Nat.blt (cls q o) 2 || (List.range ops.length).all fun k => !hasB sc k || hasB es k || hasB (ah.getD i 0) k || rc.contains k || (match ops[k]? with | some o' => Nat.beq (cls q o') 0 | none => false))) &&
    planOrd q ops ah es l (Nat.lor sc (Nat.shiftLeft 1 i))
def trDraw (x : Fx) (ops : Array Oper) : Box (RF x x.cx) :=
  let pl := planOf x.cx ops.toList
  bif planOK x ops.toList pl && planOrd x.cx ops.toList (aheadL ops.toList []) (setOf ((List.range ops.size).filter fun i => match ops[i]? with | some o => isEff x.cx o | none => false)) pl 0
    then trPlan x ops pl x.cx (fun e => e) [] [] else noR
def rounds : Nat := 1000000
def loopF {x : Fx} (f : RF x x.cx) (κ : KK x.ε) (n : Nat) : x.ε → M → Bool :=
  Nat.rec (motive := fun _ => x.ε → M → Bool) (fun _ _ => false) (fun _ ih e m => f e m ⟨κ.cf, ih, κ.kx⟩) n
abbrev F (x : Fx) := x.ε → M → KK x.ε → Bool
def trC (x : Fx) : Code → Box (F x)
  | .skip => .mk fun e m κ => κ.kn e m
  | .label _ => .mk fun e m κ => κ.kn e m
  | .region _ ops draw => bif draw then trDraw x ops else trOps x ops ops.toList x.cx (fun e => e) []
  | .seq a b => unb (trC x a) fun fa => .mk fun e m κ => fa e m ⟨κ.cf, fun e m => unb (trC x b) fun fb => fb e m κ, κ.kx⟩
  | .cond c a b => unb (accO x.cx c) fun fc => .mk fun e m κ => oB (fc e) fun t => bif t then (unb (trC x a) fun fa => fa e m κ) else (unb (trC x b) fun fb => fb e m κ)
  | .block id a => unb (trC x a) fun fa => .mk fun e m κ => fa e m ⟨κ.cf, κ.kn, fun y e m => match y with | .ex i => bif Nat.beq i id then κ.kn e m else κ.kx (.ex i) e m | y => κ.kx y e m⟩
  | .loop a => unb (trC x a) fun fa => .mk fun e m κ => loopF fa κ rounds e m
  | .exit id => .mk fun e m κ => κ.kx (.ex id) e m
  | .ret => .mk fun e m κ => κ.kx .rt e m
  | .scope a => trC x a
  | _ => .mk fun _ _ _ => false
def addR (wr : Nat) : List Operand → Nat → Nat
  | [], g => g
  | .tmp t :: l, g => addR wr l (bif hasB wr t then g else Nat.lor g (Nat.shiftLeft 1 t))
  | _ :: l, g => addR wr l g
def addG (ops : Array Oper) (wr : Nat) (gd : Option (Nat × Bool)) (g : Nat) : Nat := match gd with
  | none => g
  | some (k, _) => match (ops[k]?).bind (·.dst) with
    | some d => bif hasB wr d then g else Nat.lor g (Nat.shiftLeft 1 d)
    | none => g
def regG (ops : Array Oper) : List Oper → Nat → Nat → Nat
  | [], _, g => g
  | o :: l, wr, g => regG ops l (match o.dst with | some d => Nat.lor wr (Nat.shiftLeft 1 d) | none => wr) (addG ops wr o.guard (addR wr (an o.op).rd g))
def codeG : Code → Nat → Nat
  | .region _ ops _, g => regG ops ops.toList 0 g
  | .seq a b, g => codeG b (codeG a g)
  | .cond c a b, g => codeG b (codeG a (match c with | .tmp t => Nat.lor g (Nat.shiftLeft 1 t) | _ => g))
  | .block _ a, g => codeG a g
  | .loop a, g => codeG a g
  | .scope a, g => codeG a g
  | _, g => g
def resG : List ResultVar → List Nat
  | [] => []
  | .tmp t :: l => t :: resG l
  | .cell t _ :: l => t :: resG l
def bitsL (g : Nat) : Nat → Nat → List Nat
  | 0, _ => []
  | n + 1, i => bif hasB g i then i :: bitsL g n (Nat.succ i) else bitsL g n (Nat.succ i)
def keepR : List ResultVar → List Nat
  | [] => []
  | .tmp _ :: l => keepR l
  | .cell t _ :: l => t :: keepR l
def mkSl : List Nat → Nat → QN 3 Nat
  | [], _ => qall 0 3
  | t :: l, k => upd 3 t k (mkSl l (Nat.succ k))
def lenN : List Nat → Nat
  | [] => 0
  | _ :: l => Nat.succ (lenN l)
def slots (cd : Code) (nt : Nat) (res : List ResultVar) : List Nat := bitsL ((resG res).foldl (fun g t => Nat.lor g (Nat.shiftLeft 1 t)) (codeG cd 0)) nt 0
def lvl (n : Nat) : Nat := bif Nat.blt n 7 then 1 else bif Nat.blt n 63 then 2 else 3
def fxOf (E : En) (cd : Code) (nt : Nat) (res : List ResultVar) : Fx := ⟨E, lvl (lenN (slots cd nt res)), mkSl (slots cd nt res) 1, keepR res⟩
def argsE (x : Fx) : List V → Nat → x.ε → (x.ε → Bool) → Bool
  | [], _, e, c => c e
  | v :: l, k, e, c => bif Nat.blt 0 (x.ix k) then (unb (put x.n (x.ix k)) fun f => f e v fun e => argsE x l (Nat.succ k) e c) else argsE x l (Nat.succ k) e c
def resC (x : Fx) : List ResultVar → x.ε → M → (List V → Bool) → Bool
  | [], _, _, c => c []
  | .tmp t :: l, e, m, c => unb (accO x.cx (.tmp t)) fun f => resC x l e m fun r => c (f e :: r)
  | .cell t ty :: l, e, m, c => unb (accO x.cx (.tmp t)) fun f => bif kn x.E ty then (unb (.mk (ti x.E ty)) fun i =>
      bif isAg i then ldN i.n (f e) m fun y => resC x l e m fun r => c (y :: r) else ld1 (f e) m fun y => resC x l e m fun r => c (y :: r)) else false
def packC (l : List V) : V := match l with | [v] => v | l => .tup l
def defF (c : Code) : Option (Option Tmp × Array Oper × List Oper × Code) := match c with
  | .seq (.region _ ops false) rest => match ops.toList with
    | o :: l => match kd o, o.guard with
      | .recov, none => some (o.dst, ops, l, rest)
      | _, _ => none
    | [] => none
  | _ => none
def putD (x : Fx) (d : Option Tmp) (v : V) (e : x.ε) (c : x.ε → Bool) : Bool := match d with
  | some d => bif Nat.blt 0 (x.ix d) then (unb (put x.n (x.ix d)) fun f => f e v c) else c e
  | none => c e
def endD (x : Fx) (c : M → Bool) (e : x.ε) (m : M) : Bool := unb (acc x.n 0) fun gd => match gd e with
  | .z .u => c m
  | _ => false
def kxD (x : Fx) (c : M → Bool) (y : X) (e : x.ε) (m : M) : Bool := match y with
  | .rt => endD x c e m
  | _ => false
def recV (p : Option V) : V := match p with
  | some v => v
  | none => .z .ifn
def closD (x : Fx) (cf : CF) (d : Option Tmp) (ops : Array Oper) (l : List Oper) (rest : Code) (cs : List V) (p : Option V) (m : M) (c : M → Bool) : Bool :=
  argsE x cs 0 (qall (.z .u) _) fun e => putD x d (recV p) e fun e => unb (trOps x ops l x.cx (fun e => e) []) fun fa => unb (trC x rest) fun fb =>
    fa e m ⟨cf, fun e m => fb e m ⟨cf, endD x c, kxD x c⟩, fun _ _ _ => false⟩
def oneD (E : En) (cf : CF) (ih : V → Option V → M → (Option V → M → Bool) → Bool) (ds : V) (p : Option V) (m : M) (k : Option V → M → Bool) : Bool := match ds with
  | .z .u => k p m
  | .tup [.fn g [] cs, old] => (match (bif Nat.blt g 4096 then get 4 g E.ft else .no) with
    | .fi cd nt [] => (match defF cd with
      | some (d, ops, l, rest) => closD (fxOf E (.seq (.region 0 l.toArray false) rest) nt []) cf d ops l rest cs p m fun m => ih old none m k
      | none => false)
    | _ => false)
  | _ => false
def runD (E : En) (cf : CF) (n : Nat) : V → Option V → M → (Option V → M → Bool) → Bool :=
  Nat.rec (motive := fun _ => V → Option V → M → (Option V → M → Bool) → Bool) (fun _ _ _ _ => false) (fun _ ih => oneD E cf ih) n
def finC (x : Fx) (cf : CF) (res : List ResultVar) (kr kp : V → M → Bool) (p : Option V) (e : x.ε) (m : M) : Bool :=
  unb (acc x.n 0) fun gd => match gd e, p with
    | .z .u, none => resC x res e m fun l => kr (packC l) m
    | .z .u, some v => kp v m
    | ds, p => runD x.E cf 100 ds p m fun p m => match p with | none => resC x res e m fun l => kr (packC l) m | some v => kp v m
def kxF (x : Fx) (cf : CF) (res : List ResultVar) (kr kp : V → M → Bool) (y : X) (e : x.ε) (m : M) : Bool := match y with
  | .rt => finC x cf res kr kp none e m
  | .pan v => finC x cf res kr kp (some v) e m
  | _ => false
def callF (E : En) (cf : CF) (f : FuncId) (vs : List V) (m : M) (kr kp : V → M → Bool) (fe : FE) : Bool := match fe with
  | .no => false
  | .nat g => g vs m fun v => kr v m
  | .mem g => g vs m kr
  | .fi cd nt res => argsE (fxOf E cd nt res) vs 0 (qall (.z .u) _) fun e => unb (trC (fxOf E cd nt res) cd) fun code =>
      code e m ⟨cf, fun e m => finC (fxOf E cd nt res) cf res kr kp none e m, kxF (fxOf E cd nt res) cf res kr kp⟩
def callN (E : En) (n : Nat) : CF :=
  Nat.rec (motive := fun _ => CF) (fun _ _ _ _ _ => false) (fun _ cf f vs m kr kp => bif Nat.blt f 4096 then (unb (acc 4 f) fun ff => callF E cf f vs m kr kp (ff E.ft)) else false) n
end
end Go.It
namespace Go.It
set_option linter.unusedVariables false
def mkT {α : Type} (z : α) : List (Nat × α) → QN 4 α
  | [] => qall z 4
  | (n, x) :: l => upd 4 n x (mkT z l)
def fiOf (fn : Func) : FE := match fn.body with
  | some c => .fi c fn.ntmps fn.results.toList
  | none => .no
def fnL (P : Program) (nl : List (FuncId × (List V → M → (V → Bool) → Bool))) (fs : List FuncId) : List (FuncId × FE) := nl.map (fun p => (p.1, .nat p.2)) ++ fs.filterMap fun f => (P.funcs[f]?).map fun fn => (f, fiOf fn)
def mkE (P : Program) (tt : List (TypeId × TI)) (nl : List (FuncId × (List V → M → (V → Bool) → Bool))) (fs : List FuncId) (gl : Nat → V) : En := ⟨mkT noTI tt, mkT .no (fnL P nl fs), gl⟩
def n3 (vs : List V) (f : Nat → Nat → Nat → (V → Bool) → Bool) (c : V → Bool) : Bool := match vs with | [.w a, .w b, .w d] => f a b d c | _ => false
def nAdd64 (vs : List V) (_ : M) (c : V → Bool) : Bool := n3 vs (fun a b d c => bif Nat.ble d 1 then c (.tup [.w (Nat.mod (Nat.add (Nat.add a b) d) 18446744073709551616), .w (Nat.div (Nat.add (Nat.add a b) d) 18446744073709551616)]) else false) c
def nSub64 (vs : List V) (_ : M) (c : V → Bool) : Bool := n3 vs (fun a b d c => bif Nat.ble d 1 then c (.tup [.w (Nat.mod (Nat.add a (Nat.sub 36893488147419103232 (Nat.add b d))) 18446744073709551616), .w (bif Nat.blt a (Nat.add b d) then 1 else 0)]) else false) c
def ixB (x c : Nat) : Nat → Nat → Nat
  | 0, _ => 18446744073709551615
  | n + 1, i => bif Nat.beq (Nat.mod (Nat.shiftRight x (Nat.mul 8 i)) 256) c then i else ixB x c n (Nat.succ i)
def nIxByte (vs : List V) (_ : M) (c : V → Bool) : Bool := match vs with | [.s n x, .k .u8 b] => c (.i (ixB x b n 0)) | _ => false
def ixS (x k y : Nat) : Nat → Nat → Nat
  | 0, _ => 18446744073709551615
  | n + 1, i => bif Nat.beq (Nat.mod (Nat.shiftRight x (Nat.mul 8 i)) (Nat.pow 256 k)) y then i else ixS x k y n (Nat.succ i)
def nIndex (vs : List V) (_ : M) (c : V → Bool) : Bool := match vs with | [.s n x, .s k y] => bif Nat.ble k n then c (.i (ixS x k y (Nat.succ (Nat.sub n k)) 0)) else c (.i 18446744073709551615) | _ => false
def cntB (x c : Nat) : Nat → Nat → Nat → Nat
  | 0, _, r => r
  | n + 1, i, r => bif Nat.beq (Nat.mod (Nat.shiftRight x (Nat.mul 8 i)) 256) c then cntB x c n (Nat.succ i) (Nat.succ r) else cntB x c n (Nat.succ i) r
def nCount (vs : List V) (_ : M) (c : V → Bool) : Bool := match vs with | [.s n x, .k .u8 b] => c (.i (cntB x b n 0 0)) | _ => false
end Go.It
namespace Go.It
set_option linter.unusedVariables false
set_option linter.constructorNameAsVariable false
theorem unb_mk {α β : Type} (a : α) (f : α → β) : unb (.mk a) f = f a := rfl
theorem mod8 (k : Nat) : k % 8 = 0 ∨ k % 8 = 1 ∨ k % 8 = 2 ∨ k % 8 = 3 ∨ k % 8 = 4 ∨ k % 8 = 5 ∨ k % 8 = 6 ∨ k % 8 = 7 := by omega
theorem acc_eq {α : Type} : ∀ (n k : Nat), acc (α := α) n k = .mk fun t => get n k t
  | 0, _ => rfl
  | n + 1, k => by
    have ih := acc_eq (α := α) n (k / 8)
    simp only [acc]
    rw [show Nat.div k 8 = k / 8 from rfl, ih, unb_mk, show Nat.mod k 8 = k % 8 from rfl]
    rcases mod8 k with h | h | h | h | h | h | h | h <;> rw [h] <;> (show Box.mk _ = Box.mk _) <;> congr 1 <;> funext t <;> cases t <;>
      simp only [get, show Nat.mod k 8 = k % 8 from rfl, show Nat.div k 8 = k / 8 from rfl, h] <;> rfl
theorem put_eq {α : Type} : ∀ (n k : Nat), put (α := α) n k = .mk fun t x c => c (upd n k x t)
  | 0, _ => rfl
  | n + 1, k => by
    have ih := put_eq (α := α) n (k / 8)
    simp only [put]
    rw [show Nat.div k 8 = k / 8 from rfl, ih, unb_mk, show Nat.mod k 8 = k % 8 from rfl]
    rcases mod8 k with h | h | h | h | h | h | h | h <;> rw [h] <;> (show Box.mk _ = Box.mk _) <;> congr 1 <;> funext t x c <;> cases t <;>
      simp only [upd, show Nat.mod k 8 = k % 8 from rfl, show Nat.div k 8 = k / 8 from rfl, h] <;> rfl
theorem get_upd {α : Type} : ∀ (n k : Nat) (x : α) (t : QN n α), get n k (upd n k x t) = x
  | 0, _, _, _ => rfl
  | n + 1, k, x, .m a0 a1 a2 a3 a4 a5 a6 a7 => by
    have ih := fun t => get_upd n (k / 8) x t
    simp only [upd, show Nat.mod k 8 = k % 8 from rfl, show Nat.div k 8 = k / 8 from rfl]
    rcases mod8 k with h | h | h | h | h | h | h | h <;> rw [h] <;> simp only [d8, get, show Nat.mod k 8 = k % 8 from rfl, show Nat.div k 8 = k / 8 from rfl, h] <;> exact ih _
theorem get_upd_ne {α : Type} : ∀ (n k j : Nat) (x : α) (t : QN n α), k < 8 ^ n → j < 8 ^ n → k ≠ j → get n j (upd n k x t) = get n j t
  | 0, k, j, _, _, hk, hj, hne => absurd (by omega) hne
  | n + 1, k, j, x, .m a0 a1 a2 a3 a4 a5 a6 a7, hk, hj, hne => by
    have hk' : k / 8 < 8 ^ n := by rw [Nat.pow_succ] at hk; omega
    have hj' : j / 8 < 8 ^ n := by rw [Nat.pow_succ] at hj; omega
    simp only [upd, show Nat.mod k 8 = k % 8 from rfl, show Nat.div k 8 = k / 8 from rfl]
    by_cases hd : k % 8 = j % 8
    · have hq : k / 8 ≠ j / 8 := by omega
      have ih := fun t => get_upd_ne n (k / 8) (j / 8) x t hk' hj' hq
      rcases mod8 k with h | h | h | h | h | h | h | h <;> rw [h] <;> (rw [h] at hd) <;> simp only [d8, get, show Nat.mod j 8 = j % 8 from rfl, show Nat.div j 8 = j / 8 from rfl, ← hd] <;> exact ih _
    · rcases mod8 k with h | h | h | h | h | h | h | h <;> rw [h] <;> (rw [h] at hd) <;> simp only [d8, get, show Nat.mod j 8 = j % 8 from rfl, show Nat.div j 8 = j / 8 from rfl] <;>
        (rcases mod8 j with g | g | g | g | g | g | g | g <;> first | (exact absurd g.symm hd) | (rw [g]; rfl))
theorem get_all {α : Type} (z : α) : ∀ (n k : Nat), get n k (qall z n) = z
  | 0, _ => rfl
  | n + 1, k => by
    have ih := get_all z n (k / 8)
    simp only [qall, get, show Nat.mod k 8 = k % 8 from rfl, show Nat.div k 8 = k / 8 from rfl]
    rcases mod8 k with h | h | h | h | h | h | h | h <;> rw [h] <;> exact ih
theorem bif_t {b : Bool} {x : Bool} (h : (bif b then x else false) = true) : b = true ∧ x = true := by cases b <;> simp_all
theorem nth_ok : ∀ {l : List V} {n : Nat} {c : V → Bool}, nth l n c = true → ∃ x, l[n]? = some x ∧ c x = true
  | [], _, _, h => by cases h
  | x :: l, 0, _, h => ⟨x, rfl, h⟩
  | x :: l, n + 1, c, h => by
    have h' : nth l n c = true := h
    obtain ⟨y, h1, h2⟩ := nth_ok h'
    exact ⟨y, by simpa using h1, h2⟩
theorem takeC_ok : ∀ {n : Nat} {l : List V} {c : List V → Bool}, takeC n l c = true → n ≤ l.length ∧ c (l.take n) = true
  | 0, l, c, h => ⟨Nat.zero_le _, by simpa [takeC] using h⟩
  | n + 1, [], c, h => by simp [takeC] at h
  | n + 1, x :: l, c, h => by
    obtain ⟨h1, h2⟩ := takeC_ok (c := fun r => c (x :: r)) (by simpa [takeC] using h)
    exact ⟨by simpa using h1, by simpa using h2⟩
theorem dropC_ok : ∀ {n : Nat} {l : List V} {c : List V → Bool}, dropC n l c = true → n ≤ l.length ∧ c (l.drop n) = true
  | 0, l, c, h => ⟨Nat.zero_le _, by simpa [dropC] using h⟩
  | n + 1, [], c, h => by simp [dropC] at h
  | n + 1, x :: l, c, h => by
    obtain ⟨h1, h2⟩ := dropC_ok (c := c) (by simpa [dropC] using h)
    exact ⟨by simpa using h1, by simpa using h2⟩
theorem overC_ok : ∀ {ds l : List V} {c : List V → Bool}, overC ds l c = true → ds.length ≤ l.length ∧ c (ds ++ l.drop ds.length) = true
  | [], l, c, h => ⟨Nat.zero_le _, by simpa [overC] using h⟩
  | d :: ds, [], c, h => by simp [overC] at h
  | d :: ds, x :: l, c, h => by
    obtain ⟨h1, h2⟩ := overC_ok (c := fun r => c (d :: r)) (by simpa [overC] using h)
    exact ⟨by simpa using h1, by simpa using h2⟩
theorem setC_ok : ∀ {o : Nat} {ds l : List V} {c : List V → Bool}, setC o ds l c = true → o + ds.length ≤ l.length ∧ c (l.take o ++ ds ++ l.drop (o + ds.length)) = true
  | 0, ds, l, c, h => by
    obtain ⟨h1, h2⟩ := overC_ok (by simpa [setC] using h)
    exact ⟨by simpa using h1, by simpa using h2⟩
  | n + 1, ds, [], c, h => by simp [setC] at h
  | n + 1, ds, x :: l, c, h => by
    obtain ⟨h1, h2⟩ := setC_ok (c := fun r => c (x :: r)) (by simpa [setC] using h)
    exact ⟨by simp; omega, by rw [show n + 1 + ds.length = (n + ds.length) + 1 from by omega]; simpa using h2⟩
theorem appC_eq : ∀ (l r : List V) (c : List V → Bool), appC l r c = c (l ++ r)
  | [], r, c => rfl
  | x :: l, r, c => by simp [appC, appC_eq l]
theorem lenL_eq : ∀ l : List V, lenL l = l.length
  | [] => rfl
  | _ :: l => by simp [lenL, lenL_eq l]
theorem oI_ok {v : V} {c : Nat → Bool} (h : oI v c = true) : ∃ n, v = .i n ∧ c n = true := by cases v <;> first | exact ⟨_, rfl, h⟩ | cases h
theorem oW_ok {v : V} {c : Nat → Bool} (h : oW v c = true) : ∃ n, v = .w n ∧ c n = true := by cases v <;> first | exact ⟨_, rfl, h⟩ | cases h
theorem oB_ok {v : V} {c : Bool → Bool} (h : oB v c = true) : ∃ n, v = .b n ∧ c n = true := by cases v <;> first | exact ⟨_, rfl, h⟩ | cases h
theorem oP_ok {v : V} {c : Nat → Nat → Bool} (h : oP v c = true) : ∃ a o, v = .p a o ∧ c a o = true := by cases v <;> first | exact ⟨_, _, rfl, h⟩ | cases h
theorem oS_ok {v : V} {c : Nat → Nat → Bool} (h : oS v c = true) : ∃ n x, v = .s n x ∧ c n x = true := by cases v <;> first | exact ⟨_, _, rfl, h⟩ | cases h
theorem oAgg_ok {v : V} {c : List V → Bool} (h : oAgg v c = true) : ∃ l, v = .agg l ∧ c l = true := by cases v <;> first | exact ⟨_, rfl, h⟩ | cases h
theorem oFn_ok {v : V} {c : FuncId → List V → List V → Bool} (h : oFn v c = true) : ∃ g fs l, v = .fn g fs l ∧ c g fs l = true := by cases v <;> first | exact ⟨_, _, _, rfl, h⟩ | cases h
theorem oRow_ok {o : O} {c : Bool → List V → Bool} (h : oRow o c = true) : ∃ w l, o = .row w l ∧ c w l = true := by cases o <;> first | exact ⟨_, _, rfl, h⟩ | cases h
theorem oMap_ok {o : O} {c : List (V × V) → Bool} (h : oMap o c = true) : ∃ l, o = .map l ∧ c l = true := by cases o <;> first | exact ⟨_, rfl, h⟩ | cases h
def ob (m : M) (a : Nat) : O := get HN a m.h
theorem rdO_eq (a : Nat) (m : M) (c : O → Bool) : rdO a m c = c (ob m a) := by
  obtain ⟨h, nx⟩ := m
  show unb (acc HN a) (fun f => c (f h)) = _
  rw [acc_eq]; rfl
def wr (m : M) (a : Nat) (o : O) : M := ⟨upd HN a o m.h, m.nx⟩
theorem wrO_eq (a : Nat) (o : O) (m : M) (c : M → Bool) : wrO a o m c = c (wr m a o) := by
  obtain ⟨h, nx⟩ := m
  show unb (put HN a) (fun f => f h o fun h => c ⟨h, nx⟩) = _
  rw [put_eq]; rfl
def nw (m : M) (o : O) : M := ⟨upd HN m.nx o m.h, m.nx + 1⟩
theorem newO_ok {o : O} {m : M} {c : Nat → M → Bool} (h : newO o m c = true) : m.nx < 262144 ∧ c m.nx (nw m o) = true := by
  obtain ⟨hh, nx⟩ := m
  have h : (bif Nat.blt nx 262144 then (unb (put HN nx) fun g => g hh o fun h => c nx ⟨h, Nat.succ nx⟩) else false) = true := h
  rw [put_eq] at h
  obtain ⟨h1, h2⟩ := bif_t h
  exact ⟨by simpa using h1, h2⟩
theorem ob_wr (m : M) (a : Nat) (o : O) : ob (wr m a o) a = o := get_upd _ _ _ _
theorem ob_wr_ne (m : M) {a b : Nat} (o : O) (ha : a < 262144) (hb : b < 262144) (h : a ≠ b) : ob (wr m a o) b = ob m b := get_upd_ne HN a b o m.h ha hb h
theorem ob_nw (m : M) (o : O) : ob (nw m o) m.nx = o := get_upd _ _ _ _
theorem ob_nw_ne (m : M) {b : Nat} (o : O) (hn : m.nx < 262144) (hb : b < 262144) (h : m.nx ≠ b) : ob (nw m o) b = ob m b := get_upd_ne HN m.nx b o m.h hn hb h
theorem ld1_ok {v : V} {m : M} {c : V → Bool} (h : ld1 v m c = true) : ∃ a o w l x, v = .p a o ∧ ob m a = .row w l ∧ l[o]? = some x ∧ c x = true := by
  obtain ⟨a, o, rfl, k⟩ := oP_ok h
  dsimp only [rdRow] at k; rw [rdO_eq] at k
  obtain ⟨w, l, h1, h⟩ := oRow_ok k
  obtain ⟨x, h2, h⟩ := nth_ok h
  exact ⟨a, o, w, l, x, rfl, h1, h2, h⟩
theorem ldN_ok {n : Nat} {v : V} {m : M} {c : V → Bool} (h : ldN n v m c = true) : ∃ a o w l, v = .p a o ∧ ob m a = .row w l ∧ o + n ≤ l.length ∧ c (.agg ((l.drop o).take n)) = true := by
  obtain ⟨a, o, rfl, k⟩ := oP_ok h
  dsimp only [rdRow] at k; rw [rdO_eq] at k
  obtain ⟨w, l, h1, h⟩ := oRow_ok k
  obtain ⟨h2, h⟩ := dropC_ok h
  obtain ⟨h3, h⟩ := takeC_ok h
  simp only [List.length_drop] at h3
  exact ⟨a, o, w, l, rfl, h1, by omega, h⟩
theorem stN_ok {n : Nat} {v x : V} {m : M} {c : M → Bool} (h : stN n v x m c = true) :
    ∃ a o l, v = .p a o ∧ ob m a = .row true l ∧ (cellsV x).length = n ∧ o + n ≤ l.length ∧ c (wr m a (.row true (l.take o ++ cellsV x ++ l.drop (o + n)))) = true := by
  obtain ⟨a, o, hv, k⟩ := oP_ok h
  rw [rdO_eq] at k
  obtain ⟨w, l, h1, k1⟩ := oRow_ok k
  obtain ⟨h2, k2⟩ := bif_t k1
  obtain ⟨h3, k3⟩ := bif_t k2
  have h3 : (cellsV x).length = n := by rw [← lenL_eq]; exact Nat.eq_of_beq_eq_true h3
  obtain ⟨h4, k4⟩ := setC_ok k3
  rw [wrO_eq] at k4
  rw [h2] at h1
  exact ⟨a, o, l, hv, h1, h3, by omega, by rw [← h3]; exact k4⟩
end Go.It
namespace Go.Vc
open Go.RowKit
set_option linter.unusedVariables false
inductive Ex where
  | mk (kind : Int) (text : List Nat) (l : List Ex)
def Ex.kind : Ex → Int | .mk k _ _ => k
def Ex.text : Ex → List Nat | .mk _ t _ => t
def Ex.l : Ex → List Ex | .mk _ _ l => l
inductive Ty where
  | bool | u (k : IntKind) | i (k : IntKind) | str | sl (t : Ty) | unit | pair (a b : Ty) | arr (n : Nat) (t : Ty) | expr | rp (t : Ty) | clo (g : FuncId) (t : Ty) | ifc (k : TypeId) (t : Ty) | nili | nilp | nilf
  deriving DecidableEq
@[reducible] def Ty.den : Ty → Type
  | .bool => Bool
  | .u _ => Nat
  | .i _ => Int
  | .str => List Nat
  | .sl t => List t.den
  | .unit => Unit
  | .pair a b => a.den × b.den
  | .arr _ t => List t.den
  | .expr => Ex
  | .rp t => t.den
  | .clo _ t => t.den
  | .ifc _ t => t.den
  | .nili => Unit
  | .nilp => Unit
  | .nilf => Unit
def Ty.cells : Ty → Nat
  | .bool => 1
  | .u _ => 1
  | .i _ => 1
  | .str => 1
  | .sl _ => 1
  | .unit => 0
  | .pair a b => a.cells + b.cells
  | .arr n t => n * t.cells
  | .expr => 3
  | .rp _ => 1
  | .clo _ _ => 1
  | .ifc _ _ => 1
  | .nili => 1
  | .nilp => 1
  | .nilf => 1
def Ty.isAgg : Ty → Bool
  | .unit => true
  | .pair _ _ => true
  | .arr _ _ => true
  | .expr => true
  | _ => false
def Ty.zero : (t : Ty) → t.den
  | .bool => false
  | .u _ => 0
  | .i _ => 0
  | .str => []
  | .sl _ => []
  | .unit => ()
  | .pair a b => (a.zero, b.zero)
  | .arr n t => List.replicate n t.zero
  | .expr => .mk 0 [] []
  | .rp t => t.zero
  | .clo _ t => t.zero
  | .ifc _ t => t.zero
  | .nili => ()
  | .nilp => ()
  | .nilf => ()
def strL (s : ByteArray) : List Nat := s.data.toList.map (·.toNat)
def cellsAt (w : World) (b off : Nat) (ds : List Value) : Prop := ∀ j v, ds[j]? = some v → w.cell? ⟨b, off + j, none⟩ = some v
def SlR {α : Type} (w : World) (S : Nat → Prop) (R : α → List Value → Prop) (sz : Nat) (xs : List α) (a : Option Addr) (len cap : Nat) : Prop :=
  xs.length = len ∧ len ≤ cap ∧ cap ≤ maxLen ∧
    (xs = [] ∨ ∃ b off, a = some ⟨b, off, none⟩ ∧ S b ∧ ∀ i (h : i < xs.length), ∃ ds, R xs[i] ds ∧ cellsAt w b (off + i * sz) ds)
inductive RepEx (w : World) (S : Nat → Prop) : Ex → List Value → Prop where
  | mk (k : Int) (s : ByteArray) (l : List Ex) (a : Option Addr) (len cap : Nat) (dss : Nat → List Value)
      (hk : IntKind.min .i64 ≤ k ∧ k ≤ IntKind.max .i64) (hs : s.size ≤ maxLen) (hl : l.length = len) (hc : len ≤ cap) (hm : cap ≤ maxLen)
      (hr : ∀ i (h : i < l.length), RepEx w S l[i] (dss i))
      (ha : l = [] ∨ ∃ b off, a = some ⟨b, off, none⟩ ∧ S b ∧ ∀ i, i < l.length → cellsAt w b (off + i * 3) (dss i)) :
      RepEx w S (.mk k (strL s) l) [.int .i64 k, .string s, .slice a len cap]
def RepC (w : World) (S : Nat → Prop) : (t : Ty) → t.den → List Value → Prop
  | .bool, x, cs => cs = [.bool x]
  | .u k, x, cs => cs = [.int k (x : Int)] ∧ k.signed = false ∧ (x : Int) ≤ k.max
  | .i k, x, cs => cs = [.int k x] ∧ k.signed = true ∧ k.min ≤ x ∧ x ≤ k.max
  | .str, x, cs => ∃ s, cs = [.string s] ∧ strL s = x ∧ s.size ≤ maxLen
  | .sl t, xs, cs => ∃ a len cap, cs = [.slice a len cap] ∧ SlR w S (RepC w S t) t.cells xs a len cap
  | .unit, _, cs => cs = []
  | .pair a b, x, cs => ∃ c1 c2, cs = c1 ++ c2 ∧ RepC w S a x.1 c1 ∧ RepC w S b x.2 c2
  | .arr n t, xs, cs => xs.length = n ∧ ∃ css : List (List Value), cs = css.flatten ∧ css.length = xs.length ∧ ∀ i (h : i < xs.length) (h' : i < css.length), RepC w S t xs[i] css[i]
  | .expr, x, cs => RepEx w S x cs
  | .rp t, x, cs => ∃ b off ds, cs = [.pointer (some ⟨b, off, none⟩)] ∧ S b ∧ RepC w S t x ds ∧ cellsAt w b off ds
  | .clo g t, x, cs => ∃ vs : List Value, cs = [.func (.func g) #[] vs.toArray] ∧ RepC w S t x vs
  | .ifc k t, x, cs => ∃ v ds, cs = [.iface k v] ∧ (t.isAgg = true → v = .agg ds.toArray) ∧ (t.isAgg = false → ds = [v]) ∧ RepC w S t x ds
  | .nili, _, cs => cs = [.nilIface]
  | .nilp, _, cs => cs = [.pointer none]
  | .nilf, _, cs => cs = [.nilFunc]
def RepV (w : World) (S : Nat → Prop) (t : Ty) (x : t.den) (v : Value) : Prop :=
  if t.isAgg = true then ∃ cs, v = .agg cs ∧ RepC w S t x cs.toList else RepC w S t x [v]
def Same (S : Nat → Prop) (w w' : World) : Prop := ∀ b, S b → w'.heap[b]? = w.heap[b]?
theorem Same.refl (S : Nat → Prop) (w : World) : Same S w w := fun _ _ => rfl
theorem Same.trans {S : Nat → Prop} {a b c : World} (h : Same S a b) (k : Same S b c) : Same S a c := fun x hx => (k x hx).trans (h x hx)
theorem Same.mono {S S' : Nat → Prop} {w w' : World} (h : Same S w w') (hs : ∀ b, S' b → S b) : Same S' w w' := fun b hb => h b (hs b hb)
theorem cellsAt_same {S : Nat → Prop} {w w' : World} (h : Same S w w') {b off : Nat} (hb : S b) {ds : List Value} (hc : cellsAt w b off ds) : cellsAt w' b off ds := fun j v hj => by
  rw [World.cell?_of_block (w := w) (w' := w') (h b hb)]; exact hc j v hj
theorem SlR.keep {α : Type} {w w' : World} {S S' : Nat → Prop} (hs : ∀ b, S b → S' b) (h : Same S w w') {R R' : α → List Value → Prop} (hR : ∀ x cs, R x cs → R' x cs)
    {sz : Nat} {xs : List α} {a : Option Addr} {len cap : Nat} (hr : SlR w S R sz xs a len cap) : SlR w' S' R' sz xs a len cap := by
  obtain ⟨h1, h2, h3, h4⟩ := hr
  refine ⟨h1, h2, h3, h4.imp id ?_⟩
  rintro ⟨b, off, ha, hb, hc⟩
  exact ⟨b, off, ha, hs b hb, fun i hi => let ⟨ds, hd, hcell⟩ := hc i hi; ⟨ds, hR _ _ hd, cellsAt_same h hb hcell⟩⟩
theorem RepEx.keep {w w' : World} {S S' : Nat → Prop} (hs : ∀ b, S b → S' b) (h : Same S w w') {e : Ex} {cs : List Value} (hr : RepEx w S e cs) : RepEx w' S' e cs := by
  induction hr with
  | mk k s l a len cap dss hk hs' hl hc hm hr ha ih =>
    refine .mk k s l a len cap dss hk hs' hl hc hm ih (ha.imp id ?_)
    rintro ⟨b, off, ha, hb, hcell⟩
    exact ⟨b, off, ha, hs b hb, fun i hi => cellsAt_same h hb (hcell i hi)⟩
theorem RepC.keep {w w' : World} {S S' : Nat → Prop} (hs : ∀ b, S b → S' b) (h : Same S w w') : ∀ (t : Ty) (x : t.den) (cs : List Value), RepC w S t x cs → RepC w' S' t x cs
  | .bool, _, _, hr => hr
  | .u _, _, _, hr => hr
  | .i _, _, _, hr => hr
  | .str, _, _, hr => hr
  | .sl t, _, _, ⟨a, len, cap, hv, hr⟩ => ⟨a, len, cap, hv, hr.keep hs h (fun x cs => RepC.keep hs h t x cs)⟩
  | .unit, _, _, hr => hr
  | .pair a b, _, _, ⟨c1, c2, hc, h1, h2⟩ => ⟨c1, c2, hc, RepC.keep hs h a _ _ h1, RepC.keep hs h b _ _ h2⟩
  | .arr _ t, _, _, ⟨hn, css, hc, hl, hr⟩ => ⟨hn, css, hc, hl, fun i h1 h2 => RepC.keep hs h t _ _ (hr i h1 h2)⟩
  | .expr, _, _, hr => RepEx.keep hs h hr
  | .rp t, _, _, ⟨b, off, ds, hc, hb, hd, hcell⟩ => ⟨b, off, ds, hc, hs b hb, RepC.keep hs h t _ _ hd, cellsAt_same h hb hcell⟩
  | .clo _ t, _, _, ⟨vs, hc, hd⟩ => ⟨vs, hc, RepC.keep hs h t _ _ hd⟩
  | .ifc _ t, _, _, ⟨v, ds, hc, h1, h2, hd⟩ => ⟨v, ds, hc, h1, h2, RepC.keep hs h t _ _ hd⟩
  | .nili, _, _, hr => hr
  | .nilp, _, _, hr => hr
  | .nilf, _, _, hr => hr
theorem RepV.keep {w w' : World} {S S' : Nat → Prop} (hs : ∀ b, S b → S' b) (h : Same S w w') {t : Ty} {x : t.den} {v : Value} (hr : RepV w S t x v) : RepV w' S' t x v := by
  unfold RepV at *
  split
  · rename_i ha; simp only [ha, if_true] at hr; obtain ⟨cs, hv, hc⟩ := hr; exact ⟨cs, hv, hc.keep hs h⟩
  · rename_i ha; simp only [ha] at hr; exact hr.keep hs h
theorem flatten_length_of {css : List (List Value)} {n : Nat} (h : ∀ i (h : i < css.length), (css[i]).length = n) : css.flatten.length = css.length * n := by
  induction css with
  | nil => simp
  | cons c r ih =>
    have h0 := h 0 (by simp)
    have := ih (fun i hi => by have := h (i + 1) (by simpa using hi); simpa using this)
    simp only [List.getElem_cons_zero] at h0
    simp only [List.flatten_cons, List.length_append, List.length_cons, this, h0]
    rw [Nat.add_mul]; omega
theorem RepC.length {w : World} {S : Nat → Prop} : ∀ (t : Ty) (x : t.den) (cs : List Value), RepC w S t x cs → cs.length = t.cells
  | .bool, _, _, hr => by cases hr; rfl
  | .u _, _, _, hr => by cases hr.1; rfl
  | .i _, _, _, hr => by cases hr.1; rfl
  | .str, _, _, ⟨s, hv, _⟩ => by subst hv; rfl
  | .sl t, _, _, ⟨a, len, cap, hv, _⟩ => by subst hv; rfl
  | .unit, _, _, hr => by cases hr; rfl
  | .pair a b, _, _, ⟨c1, c2, hc, h1, h2⟩ => by subst hc; simp only [List.length_append, RepC.length a _ _ h1, RepC.length b _ _ h2, Ty.cells]
  | .arr n t, xs, _, ⟨hn, css, hc, hl, hr⟩ => by
    subst hc
    rw [flatten_length_of (n := t.cells) (fun i hi => RepC.length t _ _ (hr i (by omega) hi)), hl, hn]
    rfl
  | .expr, _, _, hr => by cases hr; rfl
  | .rp t, _, _, ⟨b, off, ds, hc, _⟩ => by subst hc; rfl
  | .clo _ t, _, _, ⟨vs, hc, _⟩ => by subst hc; rfl
  | .ifc _ t, _, _, ⟨v, ds, hc, _⟩ => by subst hc; rfl
  | .nili, _, _, hr => by cases hr; rfl
  | .nilp, _, _, hr => by cases hr; rfl
  | .nilf, _, _, hr => by cases hr; rfl
def one (v : Value) : Prop := match v with | .agg _ | .tuple _ => False | _ => True
theorem RepC.one {w : World} {S : Nat → Prop} : ∀ (t : Ty) (x : t.den) (cs : List Value), RepC w S t x cs → ∀ v ∈ cs, one v
  | .bool, _, _, hr => by cases hr; intro v hv; simp at hv; subst hv; trivial
  | .u _, _, _, hr => by cases hr.1; intro v hv; simp at hv; subst hv; trivial
  | .i _, _, _, hr => by cases hr.1; intro v hv; simp at hv; subst hv; trivial
  | .str, _, _, ⟨s, hv, _⟩ => by subst hv; intro v hv; simp at hv; subst hv; trivial
  | .sl t, _, _, ⟨a, len, cap, hv, _⟩ => by subst hv; intro v hv; simp at hv; subst hv; trivial
  | .unit, _, _, hr => by cases hr; intro v hv; cases hv
  | .pair a b, _, _, ⟨c1, c2, hc, h1, h2⟩ => by
    subst hc
    intro v hv
    rcases List.mem_append.1 hv with hv | hv
    · exact RepC.one a _ _ h1 v hv
    · exact RepC.one b _ _ h2 v hv
  | .arr n t, xs, _, ⟨hn, css, hc, hl, hr⟩ => by
    subst hc
    intro v hv
    obtain ⟨c, hcm, hv⟩ := List.mem_flatten.1 hv
    obtain ⟨i, hi, rfl⟩ := List.mem_iff_getElem.1 hcm
    exact RepC.one t _ _ (hr i (by omega) hi) v hv
  | .expr, _, _, hr => by
    cases hr
    intro v hv
    simp only [List.mem_cons, List.not_mem_nil, or_false] at hv
    rcases hv with rfl | rfl | rfl <;> trivial
  | .rp t, _, _, ⟨b, off, ds, hc, _⟩ => by subst hc; intro v hv; simp at hv; subst hv; trivial
  | .clo _ t, _, _, ⟨vs, hc, _⟩ => by subst hc; intro v hv; simp at hv; subst hv; trivial
  | .ifc _ t, _, _, ⟨v, ds, hc, _⟩ => by subst hc; intro v hv; simp at hv; subst hv; trivial
  | .nili, _, _, hr => by cases hr; intro v hv; simp at hv; subst hv; trivial
  | .nilp, _, _, hr => by cases hr; intro v hv; simp at hv; subst hv; trivial
  | .nilf, _, _, hr => by cases hr; intro v hv; simp at hv; subst hv; trivial
theorem RepV.cells {w : World} {S : Nat → Prop} {t : Ty} {x : t.den} {v : Value} (hr : RepV w S t x v) : RepC w S t x v.cells.toList := by
  unfold RepV at hr
  split at hr
  · obtain ⟨cs, rfl, hc⟩ := hr; exact hc
  · have ho := RepC.one t x _ hr v (by simp)
    cases v <;> first | exact ho.elim | exact hr
theorem RepV.of_cells {w : World} {S : Nat → Prop} {t : Ty} {x : t.den} {v : Value} (hs : t.isAgg = true → ∃ cs, v = .agg cs) (hn : t.isAgg = false → ∀ cs, v ≠ .agg cs) (hr : RepC w S t x v.cells.toList) : RepV w S t x v := by
  unfold RepV
  split
  · rename_i ha; obtain ⟨cs, rfl⟩ := hs ha; exact ⟨cs, rfl, hr⟩
  · rename_i ha
    have := hn (by simpa using ha)
    cases v <;> first | exact absurd rfl (this _) | exact hr
end Go.Vc
namespace Go.Vc
open Go.RowKit
set_option linter.unusedVariables false
inductive Step where
  | fld (off k : Nat)
  | idx (size i : Nat)
def Step.off : Step → Nat
  | .fld o _ => o
  | .idx s i => i * s
def offOf : List Step → Nat
  | [] => 0
  | s :: r => s.off + offOf r
inductive AV where
  | junk
  | undef
  | val (t : Ty) (x : t.den)
  | nilS
  | nilP
  | full (t : Ty) (xs : List t.den)
  | own (i : Nat)
  | ptr (i : Nat) (p : List Step)
  | sub (i s off n : Nat)
  | roa (t : Ty) (x : t.den)
  | fn (f : FuncId) (first caps : List Nat)
  | mp (i : Nat)
  | flat (vs : List AV)
  | agg (vs : List AV)
  | tup (vs : List AV)
inductive Mk where
  | no
  | sl (e : TypeId) (m : Mk)
  | pair (a b : Mk)
  deriving DecidableEq
inductive Obj where
  | dead
  | box (n : Nat) (v : AV)
  | row (e : TypeId) (t : Ty) (xs : List t.den)
  | frz (t : Ty) (xs : List t.den)
  | map (k v : Ty) (m : List (k.den × v.den))
  | tre (e : TypeId) (m : Mk) (t : Ty) (xs : List t.den)
  | trh (e : TypeId) (m : Mk) (t : Ty) (xs : List t.den) (k : Nat) (v : AV)
structure Ctx where
  S : Nat → Prop
  hd : Nat → Value
  n : Nat
  bl : Nat → Nat → Prop
structure Ctx.le (c c' : Ctx) : Prop where
  S : ∀ b, c.S b → c'.S b
  n : c.n ≤ c'.n
  hd : ∀ i, i < c.n → c'.hd i = c.hd i
theorem Ctx.le.refl (c : Ctx) : c.le c := ⟨fun _ h => h, Nat.le_refl _, fun _ _ => rfl⟩
theorem Ctx.le.trans {a b c : Ctx} (h : a.le b) (k : b.le c) : a.le c :=
  ⟨fun x hx => k.S x (h.S x hx), Nat.le_trans h.n k.n, fun i hi => (k.hd i (Nat.lt_of_lt_of_le hi h.n)).trans (h.hd i hi)⟩
def blockOf : Value → Option Nat
  | .pointer (some a) => some a.block
  | .slice (some a) _ _ => some a.block
  | .map (some b) => some b
  | _ => none
def AV.isAgg : AV → Bool
  | .val t _ => t.isAgg
  | .agg _ => true
  | .flat _ => true
  | _ => false
mutual
def CellsR (c : Ctx) (w : World) : AV → List Value → Prop
  | .junk, _ => True
  | .undef, cs => cs = [Go.undef]
  | .val t x, cs => RepC w c.S t x cs
  | .nilS, cs => cs = [.slice none 0 0]
  | .nilP, cs => cs = [.pointer none]
  | .full t xs, cs => ∃ a n, cs = [.slice a n n] ∧ SlR w c.S (RepC w c.S t) t.cells xs a n n
  | .own i, cs => i < c.n ∧ cs = [c.hd i] ∧ one (c.hd i)
  | .ptr i p, cs => i < c.n ∧ ∃ b, blockOf (c.hd i) = some b ∧ cs = [.pointer (some ⟨b, offOf p, none⟩)]
  | .sub i s off n, cs => i < c.n ∧ n ≤ maxLen ∧ ∃ b cap, blockOf (c.hd i) = some b ∧ cs = [.slice (some ⟨b, off * s, none⟩) n cap]
  | .roa t x, cs => ∃ b off ds, cs = [.pointer (some ⟨b, off, none⟩)] ∧ c.S b ∧ RepC w c.S t x ds ∧ cellsAt w b off ds
  | .fn f l1 l2, cs => (∀ i ∈ l1, i < c.n) ∧ (∀ i ∈ l2, i < c.n) ∧ cs = [.func (.func f) (l1.map c.hd).toArray (l2.map c.hd).toArray]
  | .mp i, cs => i < c.n ∧ cs = [c.hd i] ∧ one (c.hd i)
  | .flat vs, cs => AggR c w vs cs
  | .agg vs, cs => AggR c w vs cs
  | .tup _, _ => False
def AggR (c : Ctx) (w : World) : List AV → List Value → Prop
  | [], cs => cs = []
  | v :: r, cs => ∃ c1 c2, cs = c1 ++ c2 ∧ CellsR c w v c1 ∧ AggR c w r c2
end
def ValR1 (c : Ctx) (w : World) (v : AV) (x : Value) : Prop :=
  CellsR c w v x.cells.toList ∧ (v.isAgg = true → ∃ cs, x = .agg cs) ∧ (v.isAgg = false → ∀ cs, x ≠ .agg cs)
def ValR (c : Ctx) (w : World) : AV → Value → Prop
  | .junk, _ => True
  | .undef, x => x = Go.undef
  | .tup vs, x => ∃ xs : List Value, x = .tuple xs.toArray ∧ xs.length = vs.length ∧ ∀ i (h : i < vs.length) (h' : i < xs.length), ValR1 c w vs[i] xs[i]
  | v, x => ValR1 c w v x
mutual
theorem CellsR.keep {c c' : Ctx} {w w' : World} (hc : c.le c') (h : Same c.S w w') : ∀ (v : AV) (cs : List Value), CellsR c w v cs → CellsR c' w' v cs
  | .junk, _, _ => by simp [CellsR]
  | .undef, _, hr => by simpa [CellsR] using hr
  | .val t x, _, hr => by simp only [CellsR] at *; exact RepC.keep hc.S h t x _ hr
  | .nilS, _, hr => by simpa [CellsR] using hr
  | .nilP, _, hr => by simpa [CellsR] using hr
  | .full t xs, _, hr => by
    simp only [CellsR] at *
    obtain ⟨a, n, hv, hr⟩ := hr
    exact ⟨a, n, hv, hr.keep hc.S h (fun x cs => RepC.keep hc.S h t x cs)⟩
  | .own i, _, hr => by simp only [CellsR] at *; exact ⟨Nat.lt_of_lt_of_le hr.1 hc.n, by rw [hc.hd i hr.1]; exact hr.2⟩
  | .ptr i p, _, hr => by
    simp only [CellsR] at *
    obtain ⟨hi, b, hb, hv⟩ := hr
    exact ⟨Nat.lt_of_lt_of_le hi hc.n, b, by rw [hc.hd i hi]; exact hb, hv⟩
  | .sub i s off n, _, hr => by
    simp only [CellsR] at *
    obtain ⟨hi, hn, b, cap, hb, hv⟩ := hr
    exact ⟨Nat.lt_of_lt_of_le hi hc.n, hn, b, cap, by rw [hc.hd i hi]; exact hb, hv⟩
  | .roa t x, _, hr => by
    simp only [CellsR] at *
    obtain ⟨b, off, ds, hv, hb, hd, hcell⟩ := hr
    exact ⟨b, off, ds, hv, hc.S b hb, RepC.keep hc.S h t x _ hd, cellsAt_same h hb hcell⟩
  | .fn f l1 l2, _, hr => by
    simp only [CellsR] at *
    obtain ⟨h1, h2, hv⟩ := hr
    refine ⟨fun i hi => Nat.lt_of_lt_of_le (h1 i hi) hc.n, fun i hi => Nat.lt_of_lt_of_le (h2 i hi) hc.n, ?_⟩
    rw [List.map_congr_left (fun i hi => hc.hd i (h1 i hi)), List.map_congr_left (fun i hi => hc.hd i (h2 i hi))]
    exact hv
  | .mp i, _, hr => by simp only [CellsR] at *; exact ⟨Nat.lt_of_lt_of_le hr.1 hc.n, by rw [hc.hd i hr.1]; exact hr.2⟩
  | .flat vs, _, hr => by simp only [CellsR] at *; exact AggR.keep hc h vs _ hr
  | .agg vs, _, hr => by simp only [CellsR] at *; exact AggR.keep hc h vs _ hr
  | .tup _, _, hr => by simp [CellsR] at hr
theorem AggR.keep {c c' : Ctx} {w w' : World} (hc : c.le c') (h : Same c.S w w') : ∀ (vs : List AV) (cs : List Value), AggR c w vs cs → AggR c' w' vs cs
  | [], _, hr => by simpa [AggR] using hr
  | v :: r, _, hr => by
    simp only [AggR] at *
    obtain ⟨c1, c2, hcs, h1, h2⟩ := hr
    exact ⟨c1, c2, hcs, CellsR.keep hc h v _ h1, AggR.keep hc h r _ h2⟩
end
theorem ValR1.keep {c c' : Ctx} {w w' : World} (hc : c.le c') (h : Same c.S w w') {v : AV} {x : Value} (hr : ValR1 c w v x) : ValR1 c' w' v x :=
  ⟨CellsR.keep hc h _ _ hr.1, hr.2⟩
theorem ValR.keep {c c' : Ctx} {w w' : World} (hc : c.le c') (h : Same c.S w w') {v : AV} {x : Value} (hr : ValR c w v x) : ValR c' w' v x := by
  cases v <;> simp only [ValR] at *
  case tup vs =>
    obtain ⟨xs, hx, hl, hv⟩ := hr
    exact ⟨xs, hx, hl, fun i h1 h2 => (hv i h1 h2).keep hc h⟩
  all_goals first | exact hr | exact hr.keep hc h
def RowR (c : Ctx) (w : World) (e : TypeId) (t : Ty) (xs : List t.den) (v : Value) : Prop :=
  ∃ vals : List Value, w.ownsRow 0 e t.cells v xs.length vals ∧ RepC w c.S (.arr xs.length t) xs vals
def szOK (n s : Nat) (e : TypeId) : Prop := s = n ∨ (s = 2 ∧ n = 4294967296 + e)
def isNilp : Ty → Bool
  | .nilp => true
  | _ => false
def isSl1 : Ty → Bool
  | .sl _ => true
  | _ => false
def isUnit1 : Ty → Bool
  | .unit => true
  | _ => false
def isBld2 : Ty → Bool
  | .pair b u => isSl1 b && isUnit1 u
  | _ => false
def isBld : Ty → Bool
  | .pair a r => isNilp a && isBld2 r
  | _ => false
def bxN (t : TypeId) (ct : Ty) : Nat := bif isBld ct then 4294967296 + t else ct.cells
def zeroB (ct : Ty) : AV := bif isBld ct then .agg [.nilP, .nilS] else bif isSl1 ct then .nilS else .val ct ct.zero
theorem isSl1_is {ct : Ty} (h : isSl1 ct = true) : ∃ b, ct = .sl b := by
  unfold isSl1 at h
  split at h
  · exact ⟨_, rfl⟩
  · cases h
theorem isBld_is {ct : Ty} (h : isBld ct = true) : ∃ b, ct = .pair .nilp (.pair (.sl b) .unit) := by
  unfold isBld at h
  split at h
  · rename_i a r
    simp only [Bool.and_eq_true] at h
    obtain ⟨h1, h2⟩ := h
    unfold isNilp at h1
    split at h1
    · unfold isBld2 at h2
      split at h2
      · rename_i b u
        simp only [Bool.and_eq_true] at h2
        obtain ⟨h3, h4⟩ := h2
        unfold isSl1 at h3
        split at h3
        · unfold isUnit1 at h4
          split at h4
          · exact ⟨_, rfl⟩
          · cases h4
        · cases h3
      · cases h2
    · cases h1
  · cases h
theorem bxN_ok (t : TypeId) (ct : Ty) : szOK (bxN t ct) ct.cells t := by
  unfold bxN
  cases h : isBld ct with
  | false => exact .inl rfl
  | true =>
    obtain ⟨b, rfl⟩ := isBld_is h
    exact .inr ⟨rfl, rfl⟩
def hdB (v : Value) : List Nat := match blockOf v with
  | some b => [b]
  | none => []
def RepO (w : World) (S : Nat → Prop) : (t : Ty) → Mk → t.den → List Value → List Nat → Prop
  | .sl t, .sl e m, xs, cs, B => ∃ (v : Value) (css : List (List Value)) (Bs : List (List Nat)), cs = [v] ∧ w.ownsRow 0 e t.cells v xs.length css.flatten ∧ css.length = xs.length ∧ Bs.length = xs.length ∧ B = hdB v ++ Bs.flatten ∧ ∀ i (h : i < xs.length) (h1 : i < css.length) (h2 : i < Bs.length), RepO w S t m xs[i] css[i] Bs[i]
  | .pair a r, .pair ma mr, x, cs, B => ∃ (c1 c2 : List Value) (B1 B2 : List Nat), cs = c1 ++ c2 ∧ B = B1 ++ B2 ∧ RepO w S a ma x.1 c1 B1 ∧ RepO w S r mr x.2 c2 B2
  | t, .no, x, cs, B => RepC w S t x cs ∧ B = []
  | _, _, _, _, _ => False
structure HoleR (c : Ctx) (w : World) (i : Nat) (e : TypeId) (m : Mk) (t : Ty) (xs : List t.den) (k : Nat) (v : AV) (css : List (List Value)) (Bs : List (List Nat)) : Prop where
  row : w.ownsRow 0 e t.cells (c.hd i) xs.length css.flatten
  lc : css.length = xs.length
  lb : Bs.length = xs.length
  kl : k < xs.length
  el : ∀ j (h : j < xs.length) (h1 : j < css.length) (h2 : j < Bs.length), j ≠ k → RepO w c.S t m xs[j] css[j] Bs[j]
  hb : ∀ (h2 : k < Bs.length), Bs[k] = []
  hv : ∀ (h1 : k < css.length), CellsR c w v css[k] ∧ css[k].length = t.cells
  nd : (hdB (c.hd i) ++ Bs.flatten).Nodup
  bl : ∀ b ∈ hdB (c.hd i) ++ Bs.flatten, c.bl i b
def ObjR (c : Ctx) (w : World) (i : Nat) : Obj → Prop
  | .dead => True
  | .box n v => ∃ b cells e, c.hd i = .pointer (some ⟨b, 0, none⟩) ∧ w.heap[b]? = some (.cells cells e (0, 0)) ∧ szOK n cells.size e ∧ CellsR c w v cells.toList
  | .row e t xs => RowR c w e t xs (c.hd i)
  | .frz t xs => RepC w c.S (.sl t) xs [c.hd i]
  | .map k v m => ∃ b es clock, c.hd i = .map (some b) ∧ w.heap[b]? = some (.map es clock) ∧ es.size = m.length ∧
      ∀ j (h : j < m.length) (h' : j < es.size), RepV w c.S k m[j].1 es[j].key ∧ RepV w c.S v m[j].2 es[j].val
  | .tre e m t xs => ∃ B, RepO w c.S (.sl t) (.sl e m) xs [c.hd i] B ∧ B.Nodup ∧ ∀ b ∈ B, c.bl i b
  | .trh e m t xs k v => ∃ css Bs, HoleR c w i e m t xs k v css Bs
def owns (c : Ctx) (i : Nat) : Obj → Nat → Prop
  | .dead, _ => False
  | .frz _ _, _ => False
  | .box _ _, b => blockOf (c.hd i) = some b
  | .row _ _ _, b => blockOf (c.hd i) = some b
  | .map _ _ _, b => blockOf (c.hd i) = some b
  | .tre _ _ _ _, b => c.bl i b
  | .trh _ _ _ _ _ _, b => c.bl i b
structure Keeps (M : Nat → Prop) (w0 w : World) : Prop where
  os : w.os = w0.os
  tape : w.tape = w0.tape
  output : w.output = w0.output
  size : w0.heap.size ≤ w.heap.size
  block : ∀ b, b < w0.heap.size → ¬ M b → w.heap[b]? = w0.heap[b]?
theorem Keeps.refl (M : Nat → Prop) (w : World) : Keeps M w w := ⟨rfl, rfl, rfl, Nat.le_refl _, fun _ _ _ => rfl⟩
theorem Keeps.trans {M : Nat → Prop} {a b c : World} (h : Keeps M a b) (k : Keeps M b c) : Keeps M a c :=
  ⟨k.os.trans h.os, k.tape.trans h.tape, k.output.trans h.output, Nat.le_trans h.size k.size, fun i hi hM => (k.block i (Nat.lt_of_lt_of_le hi h.size) hM).trans (h.block i hi hM)⟩
theorem Keeps.below {w0 w : World} (h : Keeps (fun _ => False) w0 w) : Below w0.heap.size w0 w := ⟨h.os, h.tape, h.output, h.size, fun k hk => h.block k hk (fun f => f)⟩
theorem Keeps.of_below {M : Nat → Prop} {w0 w : World} (h : Below w0.heap.size w0 w) : Keeps M w0 w := ⟨h.os, h.tape, h.output, h.size, fun k hk _ => h.block k hk⟩
structure Perm where
  wr : Nat → Prop
  rd : Nat → Prop
  m : Nat
  roots : Nat → Value
structure Good (M : Perm) (w0 : World) (c : Ctx) (h : List Obj) (w : World) : Prop where
  n : c.n = h.length
  keeps : Keeps M.wr w0 w
  sfin : ∀ b, c.S b → b < w.heap.size
  src : ∀ b, c.S b → b < w0.heap.size → M.rd b ∨ M.wr b
  objs : ∀ i o, h[i]? = some o → ObjR c w i o
  own : ∀ i o b, h[i]? = some o → owns c i o b → (w0.heap.size ≤ b ∨ M.wr b) ∧ b < w.heap.size ∧ ¬ c.S b
  sep : ∀ i j oi oj b, h[i]? = some oi → h[j]? = some oj → owns c i oi b → owns c j oj b → i = j
  root : M.m ≤ c.n ∧ ∀ i, i < M.m → c.hd i = M.roots i
theorem root_le {M : Perm} {c c' : Ctx} (h : M.m ≤ c.n ∧ ∀ i, i < M.m → c.hd i = M.roots i) (hl : c.le c') : M.m ≤ c'.n ∧ ∀ i, i < M.m → c'.hd i = M.roots i :=
  ⟨Nat.le_trans h.1 hl.n, fun i hi => (hl.hd i (Nat.lt_of_lt_of_le hi h.1)).trans (h.2 i hi)⟩
structure Later (c : Ctx) (w : World) (c' : Ctx) (w' : World) : Prop where
  le : c.le c'
  same : Same c.S w w'
theorem Later.refl (c : Ctx) (w : World) : Later c w c w := ⟨.refl _, .refl _ _⟩
theorem Later.trans {c1 c2 c3 : Ctx} {w1 w2 w3 : World} (h : Later c1 w1 c2 w2) (k : Later c2 w2 c3 w3) : Later c1 w1 c3 w3 :=
  ⟨h.le.trans k.le, h.same.trans (k.same.mono h.le.S)⟩
theorem Later.val {c c' : Ctx} {w w' : World} (h : Later c w c' w') {v : AV} {x : Value} (hr : ValR c w v x) : ValR c' w' v x := hr.keep h.le h.same
def look : List (Nat × AV) → Nat → AV
  | [], _ => .junk
  | (k, v) :: r, t => if k = t then v else look r t
def EnvR (c : Ctx) (w : World) (env : List (Nat × AV)) (tmps : Array Value) : Prop := ∀ t, ValR c w (look env t) (tmps.getD t Go.undef)
theorem EnvR.keep {c c' : Ctx} {w w' : World} (h : Later c w c' w') {env : List (Nat × AV)} {tmps : Array Value} (hr : EnvR c w env tmps) : EnvR c' w' env tmps :=
  fun t => h.val (hr t)
theorem EnvR.put {c : Ctx} {w : World} {env : List (Nat × AV)} {a : Act} {d : Nat} {v : AV} {x : Value} (hr : EnvR c w env a.tmps) (hd : d < a.tmps.size) (hx : ValR c w v x) :
    EnvR c w ((d, v) :: env) (a.put (some d) x).tmps := by
  intro t
  simp only [look, Act.put]
  by_cases h : d = t
  · subst h; simp [hd, hx]
  · rw [if_neg h]
    have := hr t
    simpa [Array.getElem?_setIfInBounds_ne h] using this
def rowOf (h : List Obj) (i : Nat) (t : Ty) : Option (List t.den) :=
  match h[i]? with
  | some (.row _ t' xs) => if e : t' = t then some (e ▸ xs) else none
  | some (.frz t' xs) => if e : t' = t then some (e ▸ xs) else none
  | some (.tre _ _ t' xs) => if e : t' = t then some (e ▸ xs) else none
  | _ => none
end Go.Vc
namespace Go.It
open Go.RowKit
open Go.Vc (Keeps cellsAt)
set_option linter.unusedVariables false
set_option linter.constructorNameAsVariable false
abbrev Rho := Nat → Option (Nat × Nat × Nat)
def Rho.le (ρ ρ' : Rho) : Prop := ∀ a x, ρ a = some x → ρ' a = some x
theorem Rho.le.refl (ρ : Rho) : ρ.le ρ := fun _ _ h => h
theorem Rho.le.trans {a b c : Rho} (h : a.le b) (k : b.le c) : a.le c := fun x y hx => k x y (h x y hx)
def zR : Z → Value → Prop
  | .pn, x => x = .pointer none
  | .sn, x => x = .slice none 0 0
  | .mn, x => x = .map none
  | .fnn, x => x = .nilFunc
  | .ifn, x => x = .nilIface
  | .u, x => x = .tuple #[]
  | .j, _ => True
def oneV : V → Bool
  | .agg _ => false
  | .tup _ => false
  | .z .u => false
  | .z .j => false
  | _ => true
mutual
def VR (ρ : Rho) : V → Value → Prop
  | .i n, x => x = .int .i64 (dec .i64 n) ∧ n < 2 ^ 64
  | .w n, x => x = .int .u64 n ∧ n < 2 ^ 64
  | .k k n, x => x = .int k (dec k n) ∧ n < 2 ^ k.bits
  | .b c, x => x = .bool c
  | .s n y, x => ∃ s : ByteArray, x = .string s ∧ s.data.toList.length = n ∧ num s.data.toList = y ∧ n ≤ maxLen
  | .p a o, x => ∃ r b N, ρ a = some (r, b, N) ∧ x = .pointer (some ⟨r, b + o, none⟩)
  | .sl a o n c q, x => ∃ adr c', x = .slice (some adr) n c' ∧ n ≤ c ∧ c ≤ c' ∧ c' ≤ maxLen ∧ (q = 0 → c' = c) ∧ ((c = 0 ∧ q ≠ 0) ∨ ∃ r b N, ρ a = some (r, b, N) ∧ adr = ⟨r, b + o, none⟩ ∧ (q ≠ 0 → o + c' * q ≤ N))
  | .z k, x => zR k x
  | .m a, x => ∃ r N, ρ a = some (r, 0, N) ∧ x = .map (some r)
  | .agg l, x => ∃ xs : List Value, x = .agg xs.toArray ∧ VRL ρ l xs ∧ l.all oneV = true
  | .tup l, x => ∃ xs : List Value, x = .tuple xs.toArray ∧ VRL ρ l xs
  | .fn f fs l, x => ∃ xs ys : List Value, x = .func (.func f) xs.toArray ys.toArray ∧ VRL ρ fs xs ∧ VRL ρ l ys
  | .ifc t v, x => ∃ y, x = .iface t y ∧ VR ρ v y
  | .q k c n, x => ∃ y, x = .int k (dec k y) ∧ y < 2 ^ k.bits ∧ y % c = n
def VRL (ρ : Rho) : List V → List Value → Prop
  | [], xs => xs = []
  | v :: l, xs => ∃ y ys, xs = y :: ys ∧ VR ρ v y ∧ VRL ρ l ys
end
mutual
theorem VR.mono {ρ ρ' : Rho} (h : ρ.le ρ') : ∀ {v : V} {x : Value}, VR ρ v x → VR ρ' v x
  | .i _, _, hv => by simpa [VR] using hv
  | .w _, _, hv => by simpa [VR] using hv
  | .k _ _, _, hv => by simpa [VR] using hv
  | .b _, _, hv => by simpa [VR] using hv
  | .s _ _, _, hv => by simpa [VR] using hv
  | .z _, _, hv => by simpa [VR] using hv
  | .p a o, _, hv => by
    simp only [VR] at *
    obtain ⟨r, b, N, h1, h2⟩ := hv
    exact ⟨r, b, N, h _ _ h1, h2⟩
  | .sl a o n c q, _, hv => by
    simp only [VR] at *
    obtain ⟨adr, c', h1, h2, h3, h4, h5, h6⟩ := hv
    refine ⟨adr, c', h1, h2, h3, h4, h5, h6.imp id ?_⟩
    rintro ⟨r, b, N, g1, g2, g3⟩
    exact ⟨r, b, N, h _ _ g1, g2, g3⟩
  | .m a, _, hv => by
    simp only [VR] at *
    obtain ⟨r, N, h1, h2⟩ := hv
    exact ⟨r, N, h _ _ h1, h2⟩
  | .agg l, _, hv => by
    simp only [VR] at *
    obtain ⟨xs, h1, h2, h3⟩ := hv
    exact ⟨xs, h1, VRL.mono h h2, h3⟩
  | .tup l, _, hv => by
    simp only [VR] at *
    obtain ⟨xs, h1, h2⟩ := hv
    exact ⟨xs, h1, VRL.mono h h2⟩
  | .fn f fs l, _, hv => by
    simp only [VR] at *
    obtain ⟨xs, ys, h1, h2, h3⟩ := hv
    exact ⟨xs, ys, h1, VRL.mono h h2, VRL.mono h h3⟩
  | .ifc t v, _, hv => by
    simp only [VR] at *
    obtain ⟨y, h1, h2⟩ := hv
    exact ⟨y, h1, VR.mono h h2⟩
  | .q _ _ _, _, hv => by simpa [VR] using hv
theorem VRL.mono {ρ ρ' : Rho} (h : ρ.le ρ') : ∀ {l : List V} {xs : List Value}, VRL ρ l xs → VRL ρ' l xs
  | [], _, hv => by simpa [VRL] using hv
  | v :: l, _, hv => by
    simp only [VRL] at *
    obtain ⟨y, ys, h1, h2, h3⟩ := hv
    exact ⟨y, ys, h1, VR.mono h h2, VRL.mono h h3⟩
end
theorem VRL.length {ρ : Rho} : ∀ {l : List V} {xs : List Value}, VRL ρ l xs → xs.length = l.length
  | [], _, h => by simp only [VRL] at h; subst h; rfl
  | v :: l, _, h => by
    simp only [VRL] at h
    obtain ⟨y, ys, rfl, _, h⟩ := h
    simp [h.length]
theorem VRL.get {ρ : Rho} : ∀ {l : List V} {xs : List Value}, VRL ρ l xs → ∀ {i : Nat} {v : V}, l[i]? = some v → ∃ x, xs[i]? = some x ∧ VR ρ v x
  | [], _, h, i, v, hi => by simp at hi
  | v :: l, _, h, i, u, hi => by
    simp only [VRL] at h
    obtain ⟨y, ys, rfl, h1, h2⟩ := h
    cases i with
    | zero => simp at hi; subst hi; exact ⟨y, rfl, h1⟩
    | succ i => simpa using h2.get (by simpa using hi)
theorem VRL.take {ρ : Rho} : ∀ {l : List V} {xs : List Value} (n : Nat), VRL ρ l xs → VRL ρ (l.take n) (xs.take n)
  | l, xs, 0, h => by simp [VRL]
  | [], _, n + 1, h => by simp only [VRL] at h; subst h; simp [VRL]
  | v :: l, _, n + 1, h => by
    simp only [VRL] at h
    obtain ⟨y, ys, rfl, h1, h2⟩ := h
    simp only [List.take_succ_cons, VRL]
    exact ⟨y, _, rfl, h1, h2.take n⟩
theorem VRL.drop {ρ : Rho} : ∀ {l : List V} {xs : List Value} (n : Nat), VRL ρ l xs → VRL ρ (l.drop n) (xs.drop n)
  | l, xs, 0, h => by simpa using h
  | [], _, n + 1, h => by simp only [VRL] at h; subst h; simp [VRL]
  | v :: l, _, n + 1, h => by
    simp only [VRL] at h
    obtain ⟨y, ys, rfl, h1, h2⟩ := h
    simpa using h2.drop n
theorem VRL.append {ρ : Rho} : ∀ {l r : List V} {xs ys : List Value}, VRL ρ l xs → VRL ρ r ys → VRL ρ (l ++ r) (xs ++ ys)
  | [], r, _, ys, h, k => by simp only [VRL] at h; subst h; simpa using k
  | v :: l, r, _, ys, h, k => by
    simp only [VRL] at h
    obtain ⟨y, zs, rfl, h1, h2⟩ := h
    simp only [List.cons_append, VRL]
    exact ⟨y, _, rfl, h1, h2.append k⟩
theorem VRL.single {ρ : Rho} {v : V} {x : Value} (h : VR ρ v x) : VRL ρ [v] [x] := by simp only [VRL]; exact ⟨x, [], rfl, h, rfl⟩
theorem VRL.of {ρ : Rho} : ∀ {l : List V} {xs : List Value}, xs.length = l.length → (∀ (i : Nat) (v : V) (x : Value), l[i]? = some v → xs[i]? = some x → VR ρ v x) → VRL ρ l xs
  | [], xs, hl, _ => by simp only [VRL]; exact List.eq_nil_of_length_eq_zero hl
  | v :: l, [], hl, _ => by simp at hl
  | v :: l, x :: xs, hl, h => by
    simp only [VRL]
    exact ⟨x, xs, rfl, h 0 v x rfl rfl, VRL.of (by simpa using hl) fun i u y h1 h2 => h (i + 1) u y (by simpa using h1) (by simpa using h2)⟩
theorem one_cell {ρ : Rho} {v : V} {x : Value} (h : oneV v = true) (hv : VR ρ v x) : x.oneCell' = true ∧ x.cells = #[x] := by
  cases v with
  | z k => cases k <;> simp [oneV] at h <;> simp only [VR, zR] at hv <;> subst hv <;> exact ⟨rfl, rfl⟩
  | agg l => simp [oneV] at h
  | tup l => simp [oneV] at h
  | i n => simp only [VR] at hv; obtain ⟨rfl, _⟩ := hv; exact ⟨rfl, rfl⟩
  | w n => simp only [VR] at hv; obtain ⟨rfl, _⟩ := hv; exact ⟨rfl, rfl⟩
  | k k n => simp only [VR] at hv; obtain ⟨rfl, _⟩ := hv; exact ⟨rfl, rfl⟩
  | b c => simp only [VR] at hv; subst hv; exact ⟨rfl, rfl⟩
  | s n y => simp only [VR] at hv; obtain ⟨s, rfl, _⟩ := hv; exact ⟨rfl, rfl⟩
  | p a o => simp only [VR] at hv; obtain ⟨r, b, N, _, rfl⟩ := hv; exact ⟨rfl, rfl⟩
  | sl a o n c q => simp only [VR] at hv; obtain ⟨adr, c', rfl, _⟩ := hv; exact ⟨rfl, rfl⟩
  | m a => simp only [VR] at hv; obtain ⟨r, N, _, rfl⟩ := hv; exact ⟨rfl, rfl⟩
  | fn f fs l => simp only [VR] at hv; obtain ⟨xs, ys, rfl, _⟩ := hv; exact ⟨rfl, rfl⟩
  | ifc t v => simp only [VR] at hv; obtain ⟨y, rfl, _⟩ := hv; exact ⟨rfl, rfl⟩
  | q k c n => simp only [VR] at hv; obtain ⟨y, rfl, _⟩ := hv; exact ⟨rfl, rfl⟩
theorem VRL.one {ρ : Rho} : ∀ {l : List V} {xs : List Value}, VRL ρ l xs → l.all oneV = true → ∀ x ∈ xs, x.oneCell' = true
  | [], _, h, _, x, hx => by simp only [VRL] at h; subst h; cases hx
  | v :: l, _, h, ha, x, hx => by
    simp only [VRL] at h
    obtain ⟨y, ys, rfl, h1, h2⟩ := h
    simp only [List.all_cons, Bool.and_eq_true] at ha
    rcases List.mem_cons.1 hx with rfl | hx
    · exact (one_cell ha.1 h1).1
    · exact h2.one ha.2 x hx
theorem cells_ok {ρ : Rho} {v : V} {x : Value} (hv : VR ρ v x) (hl : 0 < (cellsV v).length) : VRL ρ (cellsV v) x.cells.toList ∧ (cellsV v).all oneV = true := by
  by_cases h : oneV v = true
  · have hc := one_cell h hv
    have e : cellsV v = [v] := by
      cases v <;> first | rfl | (simp [oneV] at h; done) | skip
      rename_i k
      cases k <;> first | rfl | (simp [oneV] at h)
    rw [e, hc.2]
    exact ⟨VRL.single hv, by simp [h]⟩
  · cases v <;> first | (exact absurd rfl h) | skip
    case agg l =>
      simp only [VR] at hv
      obtain ⟨xs, rfl, h1, h2⟩ := hv
      exact ⟨by simpa [Value.cells, cellsV] using h1, by simpa [cellsV] using h2⟩
    case tup l => simp [cellsV] at hl
    case z k => cases k <;> first | (exact absurd rfl h) | (simp [cellsV] at hl)
def OR (w0 : World) (ρ : Rho) (w : World) (r b N : Nat) : O → Prop
  | .no => False
  | .dead => True
  | .row wr l => l.all oneV = true ∧ l.length ≤ N ∧ (∃ xs, VRL ρ l xs ∧ cellsAt w r b xs) ∧ (∀ j, j < N → (w.cell? ⟨r, b + j, none⟩).isSome = true) ∧ (∃ cs e fz, w.heap[r]? = some (.cells cs e fz)) ∧
      (wr = true → w0.heap.size ≤ r ∧ ∀ j, j < N → w.frozen? ⟨r, b + j, none⟩ = false)
  | .map l => b = 0 ∧ w0.heap.size ≤ r ∧ ∃ es clock, w.heap[r]? = some (.map es clock) ∧ es.size = l.length ∧ ∀ (j : Nat) (p : V × V) (e : MapEntry), l[j]? = some p → es[j]? = some e → VR ρ p.1 e.key ∧ VR ρ p.2 e.val
def sole : O → Bool
  | .row true _ => true
  | .map _ => true
  | _ => false
structure W (w0 : World) (ρ : Rho) (m : M) (w : World) : Prop where
  keeps : Keeps (fun _ => False) w0 w
  obj : ∀ a r b N, ρ a = some (r, b, N) → OR w0 ρ w r b N (ob m a)
  dom : ∀ a x, ρ a = some x → a < m.nx
  nx : m.nx ≤ 262144
  inj : ∀ a a' r b N b' N', ρ a = some (r, b, N) → ρ a' = some (r, b', N') → sole (ob m a) = true → ob m a' ≠ .dead → a = a'
theorem OR.lt {w0 : World} {ρ : Rho} {w : World} {r b N : Nat} {o : O} (h : OR w0 ρ w r b N o) (hd : o ≠ .dead) : r < w.heap.size := by
  cases o with
  | no => exact h.elim
  | dead => exact absurd rfl hd
  | row wr l => obtain ⟨_, _, _, _, ⟨cs, e, fz, h⟩, _⟩ := h; exact (Array.getElem?_eq_some_iff.1 h).1
  | map l => obtain ⟨_, _, es, cl, h, _⟩ := h; exact (Array.getElem?_eq_some_iff.1 h).1
theorem frozen_block {w w' : World} {r o : Nat} (h : w'.heap[r]? = w.heap[r]?) : w'.frozen? ⟨r, o, none⟩ = w.frozen? ⟨r, o, none⟩ := by
  simp only [World.frozen?, h]
theorem OR.keep {w0 : World} {ρ ρ' : Rho} {w w' : World} {r b N : Nat} {o : O} (hρ : ρ.le ρ') (hr : w'.heap[r]? = w.heap[r]?) (h : OR w0 ρ w r b N o) : OR w0 ρ' w' r b N o := by
  cases o with
  | no => exact h.elim
  | dead => trivial
  | row wr l =>
    obtain ⟨h1, h2, ⟨xs, h3, h4⟩, h5, h6, h7⟩ := h
    have hc : ∀ j, w'.cell? ⟨r, j, none⟩ = w.cell? ⟨r, j, none⟩ := fun j => World.cell?_of_block (w := w) (w' := w') hr
    refine ⟨h1, h2, ⟨xs, h3.mono hρ, fun j v hj => by rw [hc]; exact h4 j v hj⟩, fun j hj => by rw [hc]; exact h5 j hj, by rw [hr]; exact h6, fun hw => ⟨(h7 hw).1, fun j hj => by rw [frozen_block hr]; exact (h7 hw).2 j hj⟩⟩
  | map l =>
    obtain ⟨h1, h2, es, cl, h3, h4, h5⟩ := h
    exact ⟨h1, h2, es, cl, by rw [hr]; exact h3, h4, fun j p e q1 q2 => ⟨((h5 j p e q1 q2).1).mono hρ, ((h5 j p e q1 q2).2).mono hρ⟩⟩
structure But (r : Nat) (w w' : World) : Prop where
  os : w'.os = w.os
  tape : w'.tape = w.tape
  output : w'.output = w.output
  size : w.heap.size ≤ w'.heap.size
  block : ∀ b, b < w.heap.size → b ≠ r → w'.heap[b]? = w.heap[b]?
theorem But.keeps {r : Nat} {w0 w w' : World} (h : But r w w') (hk : Keeps (fun _ => False) w0 w) (hr : w0.heap.size ≤ r) : Keeps (fun _ => False) w0 w' :=
  ⟨h.os.trans hk.os, h.tape.trans hk.tape, h.output.trans hk.output, Nat.le_trans hk.size h.size, fun b hb hM => by
    rw [h.block b (Nat.lt_of_lt_of_le hb hk.size) (by omega)]; exact hk.block b hb hM⟩
section
variable {w0 : World} {ρ : Rho} {m : M} {w : World}
theorem W.same (h : W w0 ρ m w) {w' : World} (hb : But w.heap.size w w') : W w0 ρ m w' := by
  refine ⟨hb.keeps h.keeps h.keeps.size, fun a r b N ha => ?_, h.dom, h.nx, h.inj⟩
  have ho := h.obj a r b N ha
  by_cases hd : ob m a = .dead
  · rw [hd]; trivial
  · have hlt := ho.lt hd
    exact ho.keep (.refl _) (hb.block r hlt (by omega))
def ext (ρ : Rho) (k : Nat) (x : Nat × Nat × Nat) : Rho := fun a => if a = k then some x else ρ a
theorem ext_le {k : Nat} {x : Nat × Nat × Nat} (h : ρ k = none) : ρ.le (ext ρ k x) := fun a y ha => by
  unfold ext
  split
  · rename_i e; rw [e, h] at ha; cases ha
  · exact ha
theorem ext_at {k : Nat} {x : Nat × Nat × Nat} : ext ρ k x k = some x := by simp [ext]
theorem W.told (h : W w0 ρ m w) {w' : World} (hb : But w.heap.size w w') {k : Nat} (hk : ρ k = none) (hkn : k < m.nx) {r b N : Nat} (hr : w.heap.size ≤ r) (ho : OR w0 (ext ρ k (r, b, N)) w' r b N (ob m k)) : W w0 (ext ρ k (r, b, N)) m w' := by
  have hw := h.same hb
  have hle := ext_le (x := (r, b, N)) hk
  refine ⟨hw.keeps, fun a r' b' N' ha => ?_, fun a x ha => ?_, h.nx, fun a a' r1 b1 N1 b2 N2 h1 h2 hs hd => ?_⟩
  · by_cases e : a = k
    · subst e
      rw [ext_at] at ha
      cases ha
      exact ho
    · simp only [ext, if_neg e] at ha
      exact (hw.obj a r' b' N' ha).keep hle rfl
  · by_cases e : a = k
    · rw [e]; exact hkn
    · simp only [ext, if_neg e] at ha
      exact h.dom a x ha
  · have hold : ∀ a r' b' N', ρ a = some (r', b', N') → ob m a ≠ .dead → r' < w.heap.size := fun a r' b' N' ha hd => (h.obj a r' b' N' ha).lt hd
    by_cases e1 : a = k <;> by_cases e2 : a' = k
    · rw [e1, e2]
    · exfalso
      rw [e1, ext_at] at h1
      cases h1
      simp only [ext, if_neg e2] at h2
      have := hold a' _ _ _ h2 hd
      omega
    · exfalso
      rw [e2, ext_at] at h2
      cases h2
      simp only [ext, if_neg e1] at h1
      have := hold a _ _ _ h1 (fun e => by rw [e] at hs; cases hs)
      omega
    · simp only [ext, if_neg e1] at h1
      simp only [ext, if_neg e2] at h2
      exact h.inj a a' r1 b1 N1 b2 N2 h1 h2 hs hd
theorem W.fresh (h : W w0 ρ m w) (hn : m.nx < 262144) (o : O) : W w0 ρ (nw m o) w ∧ ρ m.nx = none := by
  have hnone : ρ m.nx = none := by
    cases e : ρ m.nx with
    | none => rfl
    | some x => exact absurd (h.dom _ _ e) (Nat.lt_irrefl _)
  have hob : ∀ a x, ρ a = some x → ob (nw m o) a = ob m a := fun a x ha => by
    have := h.dom a x ha
    exact ob_nw_ne m o hn (by omega) (by omega)
  refine ⟨⟨h.keeps, fun a r b N ha => by rw [hob a _ ha]; exact h.obj a r b N ha, fun a x ha => Nat.lt_succ_of_lt (h.dom a x ha), hn, fun a a' r b N b' N' h1 h2 hs hd => ?_⟩, hnone⟩
  rw [hob a _ h1] at hs
  rw [hob a' _ h2] at hd
  exact h.inj a a' r b N b' N' h1 h2 hs hd
theorem W.write (h : W w0 ρ m w) {a : Nat} {r b N : Nat} (ha : ρ a = some (r, b, N)) (hs : sole (ob m a) = true) {o : O} (ho' : sole o = true ∨ o = .dead) {w' : World} (hb : But r w w') (hr : w0.heap.size ≤ r) (ho : OR w0 ρ w' r b N o) : W w0 ρ (wr m a o) w' := by
  have han := h.dom a _ ha
  have hnx := h.nx
  have hne : ∀ a' x, ρ a' = some x → a' ≠ a → ob (wr m a o) a' = ob m a' := fun a' x ha' e => by
    have := h.dom a' x ha'
    exact ob_wr_ne m o (by omega) (by omega) (Ne.symm e)
  refine ⟨hb.keeps h.keeps hr, fun a' r' b' N' ha' => ?_, h.dom, h.nx, fun a1 a2 r1 b1 N1 b2 N2 h1 h2 hs1 hd => ?_⟩
  · by_cases e : a' = a
    · subst e
      rw [ha] at ha'
      cases ha'
      rw [ob_wr]; exact ho
    · rw [hne a' _ ha' e]
      have hold := h.obj a' r' b' N' ha'
      by_cases hdd : ob m a' = .dead
      · rw [hdd]; trivial
      · have hlt := hold.lt hdd
        refine hold.keep (.refl _) (hb.block r' hlt fun er => ?_)
        subst er
        exact e (h.inj a a' r' b N b' N' ha ha' hs hdd).symm
  · by_cases e1 : a1 = a <;> by_cases e2 : a2 = a
    · rw [e1, e2]
    · subst e1
      rw [ha] at h1
      cases h1
      rw [hne a2 _ h2 e2] at hd
      exact h.inj a1 a2 _ _ _ _ _ ha h2 hs hd
    · subst e2
      rw [ha] at h2
      cases h2
      rw [hne a1 _ h1 e1] at hs1
      exact (h.inj a2 a1 _ _ _ _ _ ha h1 hs (fun e => by rw [e] at hs1; cases hs1)).symm
    · rw [hne a1 _ h1 e1] at hs1
      rw [hne a2 _ h2 e2] at hd
      exact h.inj a1 a2 r1 b1 N1 b2 N2 h1 h2 hs1 hd
end
end Go.It
namespace Go.Vc
open Go.RowKit
set_option linter.unusedVariables false
def modK (k : IntKind) : Nat := 2 ^ k.bits
def fits (k : IntKind) (x : Int) : Prop := k.min ≤ x ∧ x ≤ k.max
theorem wrap_u {k : IntKind} (hk : k.signed = false) (n : Int) : k.wrap n = n % (modK k : Int) := by
  cases k <;> simp [IntKind.signed] at hk <;> simp [IntKind.wrap, IntKind.signed, IntKind.bits, modK]
theorem wrap_nat {k : IntKind} (hk : k.signed = false) (n : Nat) : k.wrap (n : Int) = ((n % modK k : Nat) : Int) := by
  rw [wrap_u hk]; simp
theorem max_u {k : IntKind} (hk : k.signed = false) : k.max = (modK k : Int) - 1 := by
  cases k <;> simp [IntKind.signed] at hk <;> simp [IntKind.max, IntKind.signed, IntKind.bits, modK]
theorem modK_pos (k : IntKind) : 0 < modK k := by unfold modK; exact Nat.two_pow_pos _
theorem le_max_u {k : IntKind} (hk : k.signed = false) {n : Nat} (h : n < modK k) : (n : Int) ≤ k.max := by rw [max_u hk]; omega
theorem lt_of_max_u {k : IntKind} (hk : k.signed = false) {n : Nat} (h : (n : Int) ≤ k.max) : n < modK k := by rw [max_u hk] at h; omega
theorem wrap_i {k : IntKind} (hk : k.signed = true) {n : Int} (h : fits k n) : k.wrap n = n := by
  obtain ⟨h1, h2⟩ := h
  cases k <;> simp [IntKind.signed] at hk <;> simp [IntKind.min, IntKind.max, IntKind.signed, IntKind.bits] at h1 h2 <;> simp [IntKind.wrap, IntKind.signed, IntKind.bits] <;> split <;> omega
theorem wrap_fits {k : IntKind} (hk : k.signed = true) (n : Int) : fits k (k.wrap n) := by
  cases k <;> simp [IntKind.signed] at hk <;> simp [fits, IntKind.min, IntKind.max, IntKind.wrap, IntKind.signed, IntKind.bits] <;> split <;> omega
section
variable {w : World} {S : Nat → Prop} {c : Ctx}
theorem valU {k : IntKind} (hk : k.signed = false) {n : Nat} (h : n < modK k) : ValR c w (.val (.u k) n) (.int k n) :=
  ⟨⟨rfl, hk, le_max_u hk h⟩, (fun h => by cases h), (fun _ cs => by simp)⟩
theorem valI {k : IntKind} (hk : k.signed = true) {n : Int} (h : fits k n) : ValR c w (.val (.i k) n) (.int k n) :=
  ⟨⟨rfl, hk, h.1, h.2⟩, (fun h => by cases h), (fun _ cs => by simp)⟩
theorem valB (b : Bool) : ValR c w (.val .bool b) (.bool b) := ⟨rfl, (fun h => by cases h), (fun _ cs => by simp)⟩
theorem valS {s : ByteArray} (h : s.size ≤ maxLen) : ValR c w (.val .str (strL s)) (.string s) := ⟨⟨s, rfl, rfl, h⟩, (fun h => by cases h), (fun _ cs => by simp)⟩
theorem openU {k : IntKind} {n : Nat} {v : Value} (h : ValR c w (.val (.u k) n) v) : v = .int k n ∧ k.signed = false ∧ n < modK k := by
  obtain ⟨⟨h1, h2, h3⟩, _, h4⟩ := h
  have h4 := h4 rfl
  cases v <;> simp [Value.cells] at h1 h4
  obtain ⟨rfl, rfl⟩ := h1
  exact ⟨rfl, h2, lt_of_max_u h2 h3⟩
theorem openI {k : IntKind} {n : Int} {v : Value} (h : ValR c w (.val (.i k) n) v) : v = .int k n ∧ k.signed = true ∧ fits k n := by
  obtain ⟨⟨h1, h2, h3⟩, _, h4⟩ := h
  have h4 := h4 rfl
  cases v <;> simp [Value.cells] at h1 h4
  obtain ⟨rfl, rfl⟩ := h1
  exact ⟨rfl, h2, h3⟩
theorem openB {b : Bool} {v : Value} (h : ValR c w (.val .bool b) v) : v = .bool b := by
  obtain ⟨h1, _, h4⟩ := h
  have h4 := h4 rfl
  cases v <;> simp [CellsR, RepC, Value.cells] at h1 h4
  subst h1; rfl
theorem openS {x : List Nat} {v : Value} (h : ValR c w (.val .str x) v) : ∃ s, v = .string s ∧ strL s = x ∧ s.size ≤ maxLen := by
  obtain ⟨⟨s, h1, h2⟩, _, h4⟩ := h
  have h4 := h4 rfl
  cases v <;> simp [Value.cells] at h1 h4
  subst h1
  exact ⟨_, rfl, h2⟩
end
theorem subU_ex : ∃ f : IntKind → Nat → Nat → Nat, ∀ k a b, f k a b = (a + (modK k - b)) % modK k := ⟨_, fun _ _ _ => rfl⟩
noncomputable def subU : IntKind → Nat → Nat → Nat := Classical.choose subU_ex
theorem subU_eq (k : IntKind) (a b : Nat) : subU k a b = (a + (modK k - b)) % modK k := Classical.choose_spec subU_ex k a b
theorem mulU_ex : ∃ f : IntKind → Nat → Nat → Nat, ∀ k a b, f k a b = (a * b) % modK k := ⟨_, fun _ _ _ => rfl⟩
noncomputable def mulU : IntKind → Nat → Nat → Nat := Classical.choose mulU_ex
theorem mulU_eq (k : IntKind) (a b : Nat) : mulU k a b = (a * b) % modK k := Classical.choose_spec mulU_ex k a b
theorem negU_ex : ∃ f : IntKind → Nat → Nat, ∀ k a, f k a = (0 + (modK k - a)) % modK k := ⟨_, fun _ _ => rfl⟩
noncomputable def negU : IntKind → Nat → Nat := Classical.choose negU_ex
theorem negU_eq (k : IntKind) (a : Nat) : negU k a = (0 + (modK k - a)) % modK k := Classical.choose_spec negU_ex k a
noncomputable def binU (op : BinOp) (k : IntKind) (a b : Nat) : Prop × AV :=
  match op with
  | .add => (True, .val (.u k) ((a + b) % modK k))
  | .sub => (True, .val (.u k) (subU k a b))
  | .mul => (True, .val (.u k) (mulU k a b))
  | .quo => (b ≠ 0, .val (.u k) (a / b))
  | .rem => (b ≠ 0, .val (.u k) (a % b))
  | .and => (True, .val (.u k) (a &&& b))
  | .or => (True, .val (.u k) (a ||| b))
  | .xor => (True, .val (.u k) (a ^^^ b))
  | .andNot => (True, .val (.u k) (a &&& (modK k - 1 - b)))
  | .eql => (True, .val .bool (decide (a = b)))
  | .neq => (True, .val .bool (!decide (a = b)))
  | .lss => (True, .val .bool (decide (a < b)))
  | .leq => (True, .val .bool (decide (a ≤ b)))
  | .gtr => (True, .val .bool (decide (b < a)))
  | .geq => (True, .val .bool (decide (b ≤ a)))
  | _ => (False, .junk)
def binI (op : BinOp) (k : IntKind) (a b : Int) : Prop × AV :=
  match op with
  | .add => (fits k (a + b), .val (.i k) (a + b))
  | .sub => (fits k (a - b), .val (.i k) (a - b))
  | .mul => (fits k (a * b), .val (.i k) (a * b))
  | .quo => (b ≠ 0 ∧ fits k (a.tdiv b), .val (.i k) (a.tdiv b))
  | .rem => (b ≠ 0, .val (.i k) (a.tmod b))
  | .and => (True, .val (.i k) (k.wrap ((BitVec.ofInt k.bits a &&& BitVec.ofInt k.bits b).toNat : Int)))
  | .or => (True, .val (.i k) (k.wrap ((BitVec.ofInt k.bits a ||| BitVec.ofInt k.bits b).toNat : Int)))
  | .xor => (True, .val (.i k) (k.wrap ((BitVec.ofInt k.bits a ^^^ BitVec.ofInt k.bits b).toNat : Int)))
  | .eql => (True, .val .bool (decide (a = b)))
  | .neq => (True, .val .bool (!decide (a = b)))
  | .lss => (True, .val .bool (decide (a < b)))
  | .leq => (True, .val .bool (decide (a ≤ b)))
  | .gtr => (True, .val .bool (decide (b < a)))
  | .geq => (True, .val .bool (decide (b ≤ a)))
  | _ => (False, .junk)
def lessL : List Nat → List Nat → Bool
  | _, [] => false
  | [], _ :: _ => true
  | a :: x, b :: y => decide (a < b) || (decide (a = b) && lessL x y)
def binS (op : BinOp) (a b : List Nat) : Prop × AV :=
  match op with
  | .add => (a.length + b.length ≤ maxLen, .val .str (a ++ b))
  | .eql => (True, .val .bool (decide (a = b)))
  | .neq => (True, .val .bool (!decide (a = b)))
  | .lss => (True, .val .bool (lessL a b))
  | .leq => (True, .val .bool (lessL a b || decide (a = b)))
  | .gtr => (True, .val .bool (!(lessL a b || decide (a = b))))
  | .geq => (True, .val .bool (!lessL a b))
  | _ => (False, .junk)
def binB (op : BinOp) (a b : Bool) : Prop × AV :=
  match op with
  | .eql => (True, .val .bool (a == b))
  | .neq => (True, .val .bool (a != b))
  | _ => (False, .junk)
def shU (op : BinOp) (k : IntKind) (a n : Nat) : Prop × AV :=
  match op with
  | .shl => (True, .val (.u k) ((a * 2 ^ n) % modK k))
  | .shr => (True, .val (.u k) (a / 2 ^ n))
  | _ => (False, .junk)
def shI (op : BinOp) (k : IntKind) (a : Int) (n : Nat) : Prop × AV :=
  match op with
  | .shl => (fits k (a * 2 ^ n), .val (.i k) (a * 2 ^ n))
  | .shr => (True, .val (.i k) (a.fdiv (2 ^ n)))
  | _ => (False, .junk)
section
variable {P : Program} {w : World} {c : Ctx}
theorem ofInt_toNat {k : IntKind} {a : Nat} (ha : a < modK k) : (BitVec.ofInt k.bits (a : Int)).toNat = a := by
  simp only [BitVec.ofInt_natCast, BitVec.toNat_ofNat]
  exact Nat.mod_eq_of_lt ha
theorem binU_ok (op : BinOp) (t : TypeId) {k : IntKind} {a b : Nat} (hk : k.signed = false) (ha : a < modK k) (hb : b < modK k) (h : (binU op k a b).1) :
    ∃ v, (binOp op t (.int k a) (.int k b)).run P w = .ok v w ∧ ValR c w (binU op k a b).2 v := by
  have hp := modK_pos k
  cases op <;> simp only [binU] at h ⊢
  case add => exact ⟨.int k (((a + b) % modK k : Nat) : Int), by simp only [binOp, Op.intArith, ne_eq, not_true_eq_false, if_false]; rw [← wrap_nat hk]; rfl, valU hk (Nat.mod_lt _ hp)⟩
  case sub =>
    rw [subU_eq]
    refine ⟨_, by simp only [binOp, Op.intArith, ne_eq, not_true_eq_false, if_false]; rfl, ?_⟩
    rw [wrap_u hk, show ((a : Int) - b) % (modK k : Int) = (((a + (modK k - b)) % modK k : Nat) : Int) from by
      rw [Int.natCast_emod, Int.natCast_add, Int.ofNat_sub (by omega), show (a : Int) + ((modK k : Int) - b) = (a - b) + modK k from by omega, Int.add_emod_right]]
    exact valU hk (Nat.mod_lt _ hp)
  case mul => rw [mulU_eq]; exact ⟨.int k (((a * b) % modK k : Nat) : Int), by simp only [binOp, Op.intArith, ne_eq, not_true_eq_false, if_false]; rw [← wrap_nat hk, Int.natCast_mul]; rfl, valU hk (Nat.mod_lt _ hp)⟩
  case quo =>
    have hb0 : ¬ (b : Int) = 0 := by omega
    refine ⟨.int k ((a / b : Nat) : Int), ?_, valU hk (Nat.lt_of_le_of_lt (Nat.div_le_self _ _) ha)⟩
    have e : k.wrap ((a : Int).tdiv b) = ((a / b : Nat) : Int) := by
      rw [show (a : Int).tdiv b = ((a / b : Nat) : Int) from by rw [Int.tdiv_eq_ediv_of_nonneg (by omega)]; simp, wrap_nat hk, Nat.mod_eq_of_lt (Nat.lt_of_le_of_lt (Nat.div_le_self _ _) ha)]
    simp only [binOp, Op.intDiv, hb0, e, ne_eq, not_true_eq_false, if_false]; rfl
  case rem =>
    have hb0 : ¬ (b : Int) = 0 := by omega
    refine ⟨.int k ((a % b : Nat) : Int), ?_, valU hk (Nat.lt_of_le_of_lt (Nat.mod_le _ _) ha)⟩
    have e : (a : Int).tmod b = ((a % b : Nat) : Int) := by rw [Int.tmod_eq_emod_of_nonneg (by omega)]; simp
    simp only [binOp, Op.intDiv, hb0, e, ne_eq, not_true_eq_false, if_false]; rfl
  case and =>
    have e : k.wrap ((BitVec.ofInt k.bits (a : Int) &&& BitVec.ofInt k.bits (b : Int)).toNat : Int) = ((a &&& b : Nat) : Int) := by
      rw [BitVec.toNat_and, ofInt_toNat ha, ofInt_toNat hb, wrap_nat hk, Nat.mod_eq_of_lt (Nat.lt_of_le_of_lt Nat.and_le_left ha)]
    exact ⟨_, by simp only [binOp, Op.intBits, ne_eq, not_true_eq_false, if_false, e]; rfl, valU hk (Nat.lt_of_le_of_lt Nat.and_le_left ha)⟩
  case or =>
    have hl : a ||| b < modK k := Nat.or_lt_two_pow ha hb
    have e : k.wrap ((BitVec.ofInt k.bits (a : Int) ||| BitVec.ofInt k.bits (b : Int)).toNat : Int) = ((a ||| b : Nat) : Int) := by
      rw [BitVec.toNat_or, ofInt_toNat ha, ofInt_toNat hb, wrap_nat hk, Nat.mod_eq_of_lt hl]
    exact ⟨_, by simp only [binOp, Op.intBits, ne_eq, not_true_eq_false, if_false, e]; rfl, valU hk hl⟩
  case xor =>
    have hl : a ^^^ b < modK k := Nat.xor_lt_two_pow ha hb
    have e : k.wrap ((BitVec.ofInt k.bits (a : Int) ^^^ BitVec.ofInt k.bits (b : Int)).toNat : Int) = ((a ^^^ b : Nat) : Int) := by
      rw [BitVec.toNat_xor, ofInt_toNat ha, ofInt_toNat hb, wrap_nat hk, Nat.mod_eq_of_lt hl]
    exact ⟨_, by simp only [binOp, Op.intBits, ne_eq, not_true_eq_false, if_false, e]; rfl, valU hk hl⟩
  case andNot =>
    have e : k.wrap ((BitVec.ofInt k.bits (a : Int) &&& ~~~ BitVec.ofInt k.bits (b : Int)).toNat : Int) = ((a &&& (modK k - 1 - b) : Nat) : Int) := by
      rw [BitVec.toNat_and, BitVec.toNat_not, ofInt_toNat ha, ofInt_toNat hb, wrap_nat hk]
      rw [Nat.mod_eq_of_lt (Nat.lt_of_le_of_lt Nat.and_le_left ha)]
      rfl
    exact ⟨_, by simp only [binOp, Op.intBits, ne_eq, not_true_eq_false, if_false, e]; rfl, valU hk (Nat.lt_of_le_of_lt Nat.and_le_left ha)⟩
  case eql => exact ⟨.bool (decide (a = b)), by simp [binOp, Op.intCmp]; rw [Bool.eq_iff_iff]; simp; omega, valB _⟩
  case neq => exact ⟨.bool (!decide (a = b)), by simp [binOp, Op.intCmp]; rw [Bool.eq_iff_iff]; simp; omega, valB _⟩
  case lss => exact ⟨.bool (decide (a < b)), by simp [binOp, Op.intCmp], valB _⟩
  case leq => exact ⟨.bool (decide (a ≤ b)), by simp [binOp, Op.intCmp], valB _⟩
  case gtr => exact ⟨.bool (decide (b < a)), by simp [binOp, Op.intCmp], valB _⟩
  case geq => exact ⟨.bool (decide (b ≤ a)), by simp [binOp, Op.intCmp], valB _⟩
theorem binI_ok (op : BinOp) (t : TypeId) {k : IntKind} {a b : Int} (hk : k.signed = true) (ha : fits k a) (hb : fits k b) (h : (binI op k a b).1) :
    ∃ v, (binOp op t (.int k a) (.int k b)).run P w = .ok v w ∧ ValR c w (binI op k a b).2 v := by
  cases op <;> simp only [binI] at h ⊢
  case add => exact ⟨_, by simp only [binOp, Op.intArith, ne_eq, not_true_eq_false, if_false, wrap_i hk h]; rfl, valI hk h⟩
  case sub => exact ⟨_, by simp only [binOp, Op.intArith, ne_eq, not_true_eq_false, if_false, wrap_i hk h]; rfl, valI hk h⟩
  case mul => exact ⟨_, by simp only [binOp, Op.intArith, ne_eq, not_true_eq_false, if_false, wrap_i hk h]; rfl, valI hk h⟩
  case quo => exact ⟨_, by simp only [binOp, Op.intDiv, ne_eq, not_true_eq_false, if_false, h.1, wrap_i hk h.2]; rfl, valI hk h.2⟩
  case rem =>
    refine ⟨_, by simp only [binOp, Op.intDiv, ne_eq, not_true_eq_false, if_false, h]; rfl, valI hk ?_⟩
    obtain ⟨h1, h2⟩ := ha
    have hl : ((a.tmod b).natAbs) ≤ a.natAbs := by rw [Int.natAbs_tmod]; exact Nat.mod_le _ _
    have hs : 0 ≤ a → 0 ≤ a.tmod b := fun h => Int.tmod_nonneg _ h
    have hs' : a ≤ 0 → a.tmod b ≤ 0 := fun h => by
      have := Int.tmod_nonneg b (show 0 ≤ -a by omega)
      rw [Int.neg_tmod] at this; omega
    have hm : k.min ≤ 0 ∧ 0 ≤ k.max := by cases k <;> simp [IntKind.min, IntKind.max, IntKind.signed, IntKind.bits]
    constructor <;> omega
  case and => exact ⟨_, by simp only [binOp, Op.intBits, ne_eq, not_true_eq_false, if_false]; rfl, valI hk (wrap_fits hk _)⟩
  case or => exact ⟨_, by simp only [binOp, Op.intBits, ne_eq, not_true_eq_false, if_false]; rfl, valI hk (wrap_fits hk _)⟩
  case xor => exact ⟨_, by simp only [binOp, Op.intBits, ne_eq, not_true_eq_false, if_false]; rfl, valI hk (wrap_fits hk _)⟩
  case eql => exact ⟨.bool (decide (a = b)), by simp [binOp, Op.intCmp]; rw [Bool.eq_iff_iff]; simp, valB _⟩
  case neq => exact ⟨.bool (!decide (a = b)), by simp [binOp, Op.intCmp]; rw [Bool.eq_iff_iff]; simp, valB _⟩
  case lss => exact ⟨.bool (decide (a < b)), by simp [binOp, Op.intCmp], valB _⟩
  case leq => exact ⟨.bool (decide (a ≤ b)), by simp [binOp, Op.intCmp], valB _⟩
  case gtr => exact ⟨.bool (decide (b < a)), by simp [binOp, Op.intCmp], valB _⟩
  case geq => exact ⟨.bool (decide (b ≤ a)), by simp [binOp, Op.intCmp], valB _⟩
theorem shU_ok (op : BinOp) (t : TypeId) {k k' : IntKind} {a n : Nat} (hk : k.signed = false) (ha : a < modK k) (h : (shU op k a n).1) :
    ∃ v, (binOp op t (.int k a) (.int k' n)).run P w = .ok v w ∧ ValR c w (shU op k a n).2 v := by
  cases op <;> simp only [shU] at h ⊢
  case shl =>
    refine ⟨_, by simp only [binOp, Op.shift, show ¬ ((n : Int) < 0) from by omega, if_false]; rfl, ?_⟩
    have e : k.wrap ((a : Int) * 2 ^ min (n : Int).toNat k.bits) = (((a * 2 ^ n) % modK k : Nat) : Int) := by
      rw [show ((a : Int) * 2 ^ min (n : Int).toNat k.bits) = ((a * 2 ^ min n k.bits : Nat) : Int) from by simp, wrap_nat hk]
      congr 1
      by_cases hn : n ≤ k.bits
      · rw [Nat.min_eq_left hn]
      · rw [Nat.min_eq_right (by omega)]
        have e1 : a * 2 ^ n = a * 2 ^ (n - k.bits) * modK k := by
          rw [modK, Nat.mul_assoc, ← Nat.pow_add]; congr 2; omega
        rw [e1, show a * 2 ^ k.bits = a * modK k from rfl, Nat.mul_mod_left, Nat.mul_mod_left]
    rw [e]
    exact valU hk (Nat.mod_lt _ (modK_pos k))
  case shr =>
    refine ⟨_, by simp only [binOp, Op.shift, show ¬ ((n : Int) < 0) from by omega, if_false]; rfl, ?_⟩
    have e : (a : Int).fdiv (2 ^ min (n : Int).toNat k.bits) = ((a / 2 ^ n : Nat) : Int) := by
      rw [Int.fdiv_eq_ediv_of_nonneg _ (by exact Int.le_of_lt (Int.pow_pos (by omega))), show ((2 : Int) ^ min (n : Int).toNat k.bits) = ((2 ^ min n k.bits : Nat) : Int) from by simp, ← Int.natCast_ediv]
      congr 1
      by_cases hn : n ≤ k.bits
      · rw [Nat.min_eq_left hn]
      · rw [Nat.min_eq_right (by omega), Nat.div_eq_of_lt (show a < 2 ^ k.bits from ha), Nat.div_eq_of_lt (Nat.lt_of_lt_of_le ha (Nat.pow_le_pow_right (by omega) (by omega)))]
    rw [e]
    exact valU hk (Nat.lt_of_le_of_lt (Nat.div_le_self _ _) ha)
theorem shI_ok (op : BinOp) (t : TypeId) {k k' : IntKind} {a : Int} {n : Nat} (hk : k.signed = true) (ha : fits k a) (hn : op = .shl → n ≤ k.bits) (h : (shI op k a n).1) :
    ∃ v, (binOp op t (.int k a) (.int k' n)).run P w = .ok v w ∧ ValR c w (shI op k a n).2 v := by
  cases op <;> simp only [shI] at h ⊢
  case shl =>
    refine ⟨_, by simp only [binOp, Op.shift, show ¬ ((n : Int) < 0) from by omega, if_false]; rfl, ?_⟩
    rw [show min (n : Int).toNat k.bits = n from by have := hn rfl; simp; omega, wrap_i hk h]
    exact valI hk h
  case shr =>
    refine ⟨_, by simp only [binOp, Op.shift, show ¬ ((n : Int) < 0) from by omega, if_false]; rfl, ?_⟩
    have hb : -(2 ^ k.bits : Int) ≤ a ∧ a < 2 ^ k.bits := by
      obtain ⟨h1, h2⟩ := ha
      cases k <;> simp [IntKind.signed] at hk <;> simp [IntKind.min, IntKind.max, IntKind.signed, IntKind.bits] at h1 h2 ⊢ <;> omega
    have hpos : ∀ m : Nat, (0 : Int) < 2 ^ m := fun m => Int.pow_pos (by omega)
    have e : a.fdiv (2 ^ min (n : Int).toNat k.bits) = a.fdiv (2 ^ n) := by
      by_cases hn : n ≤ k.bits
      · rw [show min (n : Int).toNat k.bits = n from by simp; omega]
      · rw [show min (n : Int).toNat k.bits = k.bits from by simp; omega]
        have hle : (2 : Int) ^ k.bits ≤ 2 ^ n := by
          have := Nat.pow_le_pow_right (n := 2) (by omega) (show k.bits ≤ n by omega)
          exact_mod_cast this
        rw [Int.fdiv_eq_ediv_of_nonneg _ (Int.le_of_lt (hpos _)), Int.fdiv_eq_ediv_of_nonneg _ (Int.le_of_lt (hpos _))]
        by_cases h0 : 0 ≤ a
        · rw [Int.ediv_eq_zero_of_lt h0 hb.2, Int.ediv_eq_zero_of_lt h0 (by omega)]
        · have q1 : a / (2 ^ k.bits : Int) = -1 := by
            have := Int.ediv_eq_neg_one_of_neg_of_le (a := a) (b := (2 ^ k.bits : Int)) (by omega) (by omega); exact this
          have q2 : a / (2 ^ n : Int) = -1 := Int.ediv_eq_neg_one_of_neg_of_le (by omega) (by omega)
          rw [q1, q2]
    rw [e]
    refine valI hk ?_
    obtain ⟨h1, h2⟩ := ha
    rw [Int.fdiv_eq_ediv_of_nonneg _ (Int.le_of_lt (hpos _))]
    have hm : k.min ≤ 0 ∧ 0 ≤ k.max := by cases k <;> simp [IntKind.min, IntKind.max, IntKind.signed, IntKind.bits]
    have hp1 : (1 : Int) ≤ 2 ^ n := by have := hpos n; omega
    constructor
    · by_cases h0 : 0 ≤ a
      · have := Int.ediv_nonneg h0 (Int.le_of_lt (hpos n)); omega
      · have : a ≤ a / 2 ^ n := by
          rw [Int.le_ediv_iff_mul_le (hpos n)]
          have := Int.mul_le_mul_of_nonpos_left (a := a) (b := 2 ^ n) (c := 1) (by omega) hp1
          simpa using this
        omega
    · by_cases h0 : 0 ≤ a
      · have := Int.ediv_le_self (2 ^ n) h0; omega
      · have := Int.ediv_neg_of_neg_of_pos (show a < 0 by omega) (hpos n); omega
end
end Go.Vc
namespace Go.Vc
open Go.RowKit
set_option linter.unusedVariables false
def Tab := TypeId → Option Ty
def fieldsB (T : Tab) : List Field → Nat → Ty → Bool
  | [], _, .unit => true
  | f :: fs, off, .pair a r => decide (T f.type = some a) && decide (f.offset = off) && decide (f.name ≠ "_") && decide (0 < a.cells) && fieldsB T fs (off + a.cells) r
  | _, _, _ => false
def exprB (T : Tab) : List Field → Bool
  | [f0, f1, f2] => decide (T f0.type = some (.i .i64)) && decide (f0.offset = 0) && decide (T f1.type = some .str) && decide (f1.offset = 1) && decide (T f2.type = some (.sl .expr)) && decide (f2.offset = 2)
  | _ => false
def descB (T : Tab) (d : TypeDesc) (c : Ty) : Bool :=
  match c, d with
  | .bool, .bool => true
  | .u k, .int k' => decide (k = k') && !k.signed
  | .i k, .int k' => decide (k = k') && k.signed
  | .str, .string => true
  | .sl c, .slice e => decide (T e = some c) && decide (0 < c.cells)
  | .unit, .struct fs => fieldsB T fs.toList 0 .unit
  | .pair a b, .struct fs => fieldsB T fs.toList 0 (.pair a b)
  | .arr n c, .array n' e => decide (n = n') && decide (T e = some c) && decide (0 < c.cells) && decide (1 < n ∧ n ≤ 1048576)
  | .expr, .struct fs => exprB T fs.toList
  | .rp c, .pointer e => decide (T e = some c)
  | .clo _ _, .func _ _ _ => true
  | .nili, .interface _ => true
  | .nilp, .pointer _ => true
  | .nilf, .func _ _ _ => true
  | _, _ => false
def zcells : Ty → List Value
  | .bool => [.bool false]
  | .u k => [.int k 0]
  | .i k => [.int k 0]
  | .str => [.string ⟨#[]⟩]
  | .sl _ => [.slice none 0 0]
  | .unit => []
  | .pair a b => zcells a ++ zcells b
  | .arr n t => (List.replicate n (zcells t)).flatten
  | .expr => [.int .i64 0, .string ⟨#[]⟩, .slice none 0 0]
  | .rp _ => [.pointer none]
  | .clo _ _ => [.nilFunc]
  | .ifc _ _ => [.nilIface]
  | .nili => [.nilIface]
  | .nilp => [.pointer none]
  | .nilf => [.nilFunc]
def Ty.okB : Ty → Bool
  | .u k => !k.signed
  | .i k => k.signed
  | .sl t => t.okB
  | .pair a b => a.okB && b.okB
  | .arr _ t => t.okB
  | .rp _ => false
  | .clo _ _ => false
  | .ifc _ _ => false
  | .nili => false
  | _ => true
def zval (c : Ty) : Value := if c.isAgg then .agg (zcells c).toArray else (zcells c).headD Go.undef
def veq1 : Value → Value → Bool
  | .bool a, .bool b => a == b
  | .int k a, .int k' b => decide (k = k') && decide (a = b)
  | .string a, .string b => decide (a.data.toList = b.data.toList)
  | .slice none 0 0, .slice none 0 0 => true
  | .pointer none, .pointer none => true
  | .nilFunc, .nilFunc => true
  | _, _ => false
def veqL : List Value → List Value → Bool
  | [], [] => true
  | a :: r, b :: s => veq1 a b && veqL r s
  | _, _ => false
def veq : Value → Value → Bool
  | .agg xs, .agg ys => veqL xs.toList ys.toList
  | a, b => veq1 a b
theorem veq1_eq {a b : Value} (h : veq1 a b = true) : a = b := by
  unfold veq1 at h
  split at h <;> simp at h
  · rw [h]
  · obtain ⟨rfl, rfl⟩ := h; rfl
  · rename_i x y; obtain ⟨⟨x⟩⟩ := x; obtain ⟨⟨y⟩⟩ := y; simp at h; rw [h]
  · rfl
  · rfl
  · rfl
theorem veqL_eq : ∀ {a b : List Value}, veqL a b = true → a = b
  | [], [], _ => rfl
  | [], _ :: _, h => by simp [veqL] at h
  | _ :: _, [], h => by simp [veqL] at h
  | a :: r, b :: s, h => by simp only [veqL, Bool.and_eq_true] at h; rw [veq1_eq h.1, veqL_eq h.2]
theorem veq_eq {a b : Value} (h : veq a b = true) : a = b := by
  unfold veq at h
  split at h
  · rename_i x y; have := veqL_eq h; obtain ⟨x⟩ := x; obtain ⟨y⟩ := y; simp at this; rw [this]
  · exact veq1_eq h
def Ty.byt : Ty → Nat
  | .bool => 1
  | .u k => k.bits / 8
  | .i k => k.bits / 8
  | .str => 16
  | .sl _ => 24
  | c => 24 * c.cells + 1
def tyB (P : Program) (T : Tab) (t : TypeId) (c : Ty) : Bool :=
  match P.info? t, P.underlying t with
  | some i, some d => decide (i.size = c.cells) && (!c.okB || (match i.zero with | some z => veq z (zval c) | none => false)) && decide (i.bytes ≤ c.byt ∧ (c = .u .u8 → i.bytes = 1)) && descB T d c && !P.stoodInHeld t && (!c.isAgg || !P.eqGuardType P.depth t)
  | _, _ => false
def look2 : List (TypeId × Ty) → Tab
  | [], _ => none
  | (k, v) :: r, t => if k = t then some v else look2 r t
def tabB (P : Program) (l : List (TypeId × Ty)) : Bool := l.all fun p => tyB P (look2 l) p.1 p.2
structure TyOK (P : Program) (T : Tab) (t : TypeId) (c : Ty) : Prop where
  info : ∃ i, P.info? t = some i ∧ i.size = c.cells ∧ (c.okB = true → i.zero = some (zval c)) ∧ i.bytes ≤ c.byt
  desc : ∃ d, P.underlying t = some d ∧ descB T d c = true
  held : P.stoodInHeld t = false
  guard : c.isAgg = true → P.eqGuardType P.depth t = false
  byte : c = .u .u8 → ∀ i, P.info? t = some i → i.bytes = 1
def TabOK (P : Program) (T : Tab) : Prop := ∀ t c, T t = some c → TyOK P T t c
theorem tyOK_of {P : Program} {T : Tab} {t : TypeId} {c : Ty} (h : tyB P T t c = true) : TyOK P T t c := by
  unfold tyB at h
  split at h
  · rename_i i d hi hd
    simp only [Bool.and_eq_true, decide_eq_true_eq, Bool.not_eq_true'] at h
    obtain ⟨⟨⟨⟨⟨h1, h2⟩, h3⟩, h4⟩, h5⟩, h6⟩ := h
    refine ⟨⟨i, hi, h1, fun hok => ?_, h3.1⟩, ⟨d, hd, h4⟩, h5, fun ha => by simpa [ha] using h6, fun e i' hi' => by rw [hi] at hi'; cases hi'; exact h3.2 e⟩
    rw [hok] at h2
    simp only [Bool.not_true, Bool.false_or] at h2
    split at h2
    · rename_i z hz; rw [hz, veq_eq h2]
    · cases h2
  · cases h
theorem look2_mem {l : List (TypeId × Ty)} {t : TypeId} {c : Ty} (h : look2 l t = some c) : (t, c) ∈ l := by
  induction l with
  | nil => cases h
  | cons p r ih =>
    obtain ⟨k, v⟩ := p
    simp only [look2] at h
    split at h
    · rename_i e; cases h; subst e; exact .head _
    · exact .tail _ (ih h)
theorem tabOK_of {P : Program} {l : List (TypeId × Ty)} (h : tabB P l = true) : TabOK P (look2 l) := fun t c hc => by
  have := List.all_eq_true.1 h _ (look2_mem hc)
  exact tyOK_of this
section
variable {P : Program} {T : Tab}
theorem TyOK.agg {t : TypeId} {c : Ty} (h : TyOK P T t c) : (match P.underlying t with | some (.struct _) | some (.array _ _) => true | _ => false) = c.isAgg := by
  obtain ⟨d, hd, hb⟩ := h.desc
  rw [hd]
  cases c <;> cases d <;> simp_all [descB, Ty.isAgg]
theorem run_isAgg {t : TypeId} {c : Ty} (h : TyOK P T t c) (w : World) : (isAgg t).run P w = .ok c.isAgg w := by
  have ha := h.agg
  obtain ⟨d, hd, hb⟩ := h.desc
  rw [hd] at ha
  rw [← ha]
  simp [isAgg, underlying, hd]
  split <;> simp_all
theorem run_size {t : TypeId} {c : Ty} (h : TyOK P T t c) (w : World) : (sizeOf t).run P w = .ok c.cells w := by
  obtain ⟨i, hi, hs, _, _⟩ := h.info
  simp [sizeOf, typeInfo, hi, hs]
theorem run_under {t : TypeId} {d : TypeDesc} (h : P.underlying t = some d) (w : World) : (underlying t).run P w = .ok d w := by
  simp [underlying, h]
theorem run_zero {t : TypeId} {c : Ty} (h : TyOK P T t c) (hok : c.okB = true) (w : World) : (zeroValue t).run P w = .ok (zval c) w := by
  obtain ⟨i, hi, _, hz, _⟩ := h.info
  simp [zeroValue, typeInfo, hi, hz hok]
end
theorem zcells_rep (w : World) (S : Nat → Prop) : ∀ c : Ty, c.okB = true → RepC w S c c.zero (zcells c)
  | .bool, _ => rfl
  | .nilp, _ => rfl
  | .nilf, _ => rfl
  | .u k, h => ⟨rfl, by simpa [Ty.okB] using h, by rw [max_u (by simpa [Ty.okB] using h)]; have := modK_pos k; show ((0 : Nat) : Int) ≤ _; omega⟩
  | .i k, h => ⟨rfl, by simpa [Ty.okB] using h, by cases k <;> simp [IntKind.min, IntKind.max, IntKind.signed, IntKind.bits, Ty.zero]⟩
  | .str, _ => ⟨⟨#[]⟩, rfl, rfl, Nat.zero_le _⟩
  | .sl t, _ => ⟨none, 0, 0, rfl, rfl, Nat.le_refl _, by simp [maxLen], .inl rfl⟩
  | .unit, _ => rfl
  | .pair a b, h => by
    simp only [Ty.okB, Bool.and_eq_true] at h
    exact ⟨zcells a, zcells b, rfl, zcells_rep w S a h.1, zcells_rep w S b h.2⟩
  | .arr n t, h => by
    refine ⟨by simp [Ty.zero], List.replicate n (zcells t), rfl, by simp [Ty.zero], fun i h1 h2 => ?_⟩
    simp only [Ty.zero, List.getElem_replicate]
    exact zcells_rep w S t (by simpa [Ty.okB] using h)
  | .expr, _ => RepEx.mk 0 ⟨#[]⟩ [] none 0 0 (fun _ => []) (by simp [IntKind.min, IntKind.max, IntKind.signed, IntKind.bits]) (Nat.zero_le _) rfl (Nat.le_refl _) (Nat.zero_le _) (fun i h => by cases h) (.inl rfl)
theorem zval_rep (w : World) (S : Nat → Prop) (c : Ty) (h : c.okB = true) : RepV w S c c.zero (zval c) := by
  have hr := zcells_rep w S c h
  unfold RepV zval
  split
  · exact ⟨_, rfl, by simpa using hr⟩
  · have hl := RepC.length _ _ _ hr
    cases c <;> simp_all [Ty.isAgg, zcells]
theorem ValR.toV {c : Ctx} {w : World} {t : Ty} {x : t.den} {v : Value} (h : ValR c w (.val t x) v) : RepV w c.S t x v := by
  obtain ⟨h1, h2, h3⟩ := h
  exact RepV.of_cells h2 h3 h1
theorem ValR.ofV {c : Ctx} {w : World} {t : Ty} {x : t.den} {v : Value} (h : RepV w c.S t x v) : ValR c w (.val t x) v := by
  refine ⟨h.cells, ?_, ?_⟩
  · intro ha; unfold RepV at h; rw [if_pos (show t.isAgg = true from ha)] at h; obtain ⟨cs, hv, _⟩ := h; exact ⟨cs, hv⟩
  · intro ha cs hv
    unfold RepV at h
    rw [if_neg (by simpa using (show t.isAgg = false from ha))] at h
    have := RepC.one t x _ h v (by simp)
    subst hv; exact this
theorem extract_of {cs : Array Value} {pre ds post : List Value} (h : cs.toList = pre ++ ds ++ post) : (cs.extract pre.length (pre.length + ds.length)).toList = ds := by
  rw [Array.toList_extract, h]
  simp [List.extract]
theorem getElem?_of {cs : Array Value} {pre ds post : List Value} (h : cs.toList = pre ++ ds ++ post) (j : Nat) {v : Value} (hj : ds[j]? = some v) : cs[pre.length + j]? = some v := by
  rw [← Array.getElem?_toList, h, List.append_assoc, List.getElem?_append_right (by omega)]
  simp only [Nat.add_sub_cancel_left]
  have hlt : j < ds.length := by
    rcases Nat.lt_or_ge j ds.length with h | h
    · exact h
    · rw [List.getElem?_eq_none h] at hj; cases hj
  rw [List.getElem?_append_left hlt]; exact hj
section
variable {P : Program} {T : Tab}
theorem run_part {t : TypeId} {c : Ty} (hT : TyOK P T t c) {cs : Array Value} {pre ds post : List Value} (hcs : cs.toList = pre ++ ds ++ post) {w : World} {S : Nat → Prop} {x : c.den} (hd : RepC w S c x ds) (w' : World) :
    ∃ v, (part t cs pre.length).run P w' = .ok v w' ∧ RepV w S c x v := by
  have hl := RepC.length _ _ _ hd
  by_cases ha : c.isAgg = true
  · refine ⟨.agg (cs.extract pre.length (pre.length + c.cells)), ?_, ?_⟩
    · simp [part, run_isAgg hT, ha, run_size hT, Result.andThen]
    · unfold RepV
      rw [if_pos ha]
      refine ⟨_, rfl, ?_⟩
      rw [← hl, extract_of hcs]; exact hd
  · have h1 : c.cells = 1 := by cases c <;> simp_all [Ty.isAgg, Ty.cells]
    obtain ⟨v, rfl⟩ : ∃ v, ds = [v] := by
      match ds, hl.trans h1 with
      | [v], _ => exact ⟨v, rfl⟩
    refine ⟨v, ?_, ?_⟩
    · have := getElem?_of hcs 0 (v := v) rfl
      simp only [Nat.add_zero] at this
      simp [part, run_isAgg hT, ha, this, Result.andThen]
    · unfold RepV; rw [if_neg ha]; exact hd
def Ty.cmpB : Ty → Bool
  | .bool => true
  | .u _ => true
  | .i _ => true
  | .str => true
  | .unit => true
  | .pair a b => a.cmpB && b.cmpB
  | .arr _ t => t.cmpB
  | _ => false
def Ty.eqb : (t : Ty) → t.den → t.den → Bool
  | .bool, x, y => x == y
  | .u _, x, y => decide (x = y)
  | .i _, x, y => decide (x = y)
  | .str, x, y => decide (x = y)
  | .unit, _, _ => true
  | .pair a b, x, y => a.eqb x.1 y.1 && b.eqb x.2 y.2
  | .arr _ t, x, y => (List.zipWith t.eqb x y).all id
  | _, _, _ => false
def Ty.deep : Ty → Nat
  | .pair a b => max (a.deep + 1) b.deep
  | .arr _ t => t.deep + 1
  | _ => 0
theorem strL_inj {a b : ByteArray} (h : strL a = strL b) : a = b := by
  obtain ⟨⟨a⟩⟩ := a
  obtain ⟨⟨b⟩⟩ := b
  simp only [strL] at h
  have : a = b := by
    have hinj : Function.Injective (fun (x : UInt8) => x.toNat) := fun x y h => UInt8.toNat_inj.1 h
    exact (List.map_inj_right (fun x y h => hinj h)).1 h
  rw [this]
theorem beqS (a b : ByteArray) : (a.toList == b.toList) = decide (strL a = strL b) := by
  rw [Bool.eq_iff_iff, ByteArray.toList_eq, ByteArray.toList_eq]
  simp only [beq_iff_eq, decide_eq_true_eq]
  constructor
  · intro h
    simp only [strL]
    rw [h]
  · intro h
    rw [strL_inj h]
theorem run_eqFields (hT : TabOK P T) (d : Nat) {w : World} {S : Nat → Prop} (ih : ∀ (t : TypeId) (c : Ty) (x y : c.den) (v u : Value) (w' : World), T t = some c → c.cmpB = true → c.deep ≤ d → RepV w S c x v → RepV w S c y u → (Op.equalIn (d + 1) t v u).run P w' = .ok (c.eqb x y) w')
    {xs ys : Array Value} : ∀ (fs : List Field) (off : Nat) (c : Ty) (x y : c.den) (pre ds pre' ds' post post' : List Value) (w' : World), fieldsB T fs off c = true → c.cmpB = true → c.deep ≤ d + 1 →
      xs.toList = pre ++ ds ++ post → pre.length = off → RepC w S c x ds → ys.toList = pre' ++ ds' ++ post' → pre'.length = off → RepC w S c y ds' →
      (Op.eqFields (d + 1) xs ys fs).run P w' = .ok (c.eqb x y) w'
  | [], off, c, x, y, pre, ds, pre', ds', post, post', w', hf, hc, hdp, hx, hp, hrx, hy, hp', hry => by
    cases c <;> simp [fieldsB] at hf
    simp [Op.eqFields, Ty.eqb]
  | f :: fs, off, c, x, y, pre, ds, pre', ds', post, post', w', hf, hc, hdp, hx, hp, hrx, hy, hp', hry => by
    cases c <;> simp only [fieldsB, Bool.false_eq_true] at hf
    case pair a b =>
      simp only [Bool.and_eq_true, decide_eq_true_eq] at hf
      obtain ⟨⟨⟨⟨h1, h2⟩, h3⟩, h4⟩, h5⟩ := hf
      simp only [Ty.cmpB, Bool.and_eq_true] at hc
      simp only [Ty.deep] at hdp
      obtain ⟨c1, c2, rfl, r1, r2⟩ := hrx
      obtain ⟨c1', c2', rfl, r1', r2'⟩ := hry
      subst h2
      have hl := RepC.length _ _ _ r1
      have hl' := RepC.length _ _ _ r1'
      obtain ⟨va, e1, q1⟩ := run_part (hT _ _ h1) (cs := xs) (pre := pre) (ds := c1) (post := c2 ++ post) (by rw [hx]; simp) r1 w'
      obtain ⟨vb, e2, q2⟩ := run_part (hT _ _ h1) (cs := ys) (pre := pre') (ds := c1') (post := c2' ++ post') (by rw [hy]; simp) r1' w'
      have e3 := ih f.type a x.1 y.1 va vb w' h1 hc.1 (by omega) q1 q2
      rw [hp] at e1
      rw [hp'] at e2
      have rec_ := run_eqFields hT d ih (xs := xs) (ys := ys) fs (f.offset + a.cells) b x.2 y.2 (pre ++ c1) c2 (pre' ++ c1') c2' post post' w' h5 hc.2 (by omega) (by rw [hx]; simp) (by simp [hp, hl]) r2 (by rw [hy]; simp) (by simp [hp', hl']) r2'
      simp only [Op.eqFields, Sem.run_ite, Sem.run_bind, h3, ne_eq, not_false_eq_true, if_true, e1, e2, e3, Result.andThen_ok]
      cases hq : a.eqb x.1 y.1
      · simp [Ty.eqb, hq]
      · simp [Ty.eqb, hq, rec_]
def eqElems (d : Nat) (e : TypeId) (n : Nat) (xs ys : Array Value) : List Nat → Sem Bool
  | [] => pure true
  | i :: r => do
    let a ← part e xs (i * n)
    let b ← part e ys (i * n)
    let q ← Op.equalIn d e a b
    if (!q) = true then pure false else eqElems d e n xs ys r
theorem run_equalIn_array (d : Nat) (t e : TypeId) (len n : Nat) (xs ys : Array Value) (w : World) (ht : P.underlying t = some (.array len e)) (hn : (sizeOf e).run P w = .ok n w) :
    (Op.equalIn (d + 1) t (.agg xs) (.agg ys)).run P w = (eqElems d e n xs ys (List.range' 0 len)).run P w := by
  simp only [Op.equalIn, Sem.run_bind, run_under ht, Result.andThen_ok, hn]
  simp only [Std.Legacy.Range.forIn_eq_forIn_range', Std.Legacy.Range.size]
  simp only [Nat.sub_zero, Nat.add_sub_cancel, Nat.div_one]
  generalize List.range' 0 len = is
  clear ht hn
  induction is generalizing w with
  | nil => simp [eqElems]
  | cons i r ih =>
    simp only [List.forIn_cons, eqElems, Sem.run_bind]
    generalize (part e xs (i * n)).run P w = r1
    cases r1 with
    | ok a w1 =>
      simp only [Result.andThen_ok]
      generalize (part e ys (i * n)).run P w1 = r2
      cases r2 with
      | ok b w2 =>
        simp only [Result.andThen_ok]
        generalize (Op.equalIn d e a b).run P w2 = r3
        cases r3 with
        | ok q w3 =>
          cases q
          · simp only [Result.andThen_ok, Bool.not_false, if_true, Sem.run_pure]
          · simp only [Result.andThen_ok, Bool.not_true, Bool.false_eq_true, if_false, Sem.run_pure]
            exact ih w3
        | halt x w3 => simp [Result.andThen]
      | halt x w2 => simp [Result.andThen]
    | halt x w1 => simp [Result.andThen]
theorem flat_split {t : Ty} {css : List (List Value)} (hl : ∀ i (h : i < css.length), (css[i]).length = t.cells) : ∀ (i : Nat) (h : i < css.length), ∃ pre post, css.flatten = pre ++ css[i] ++ post ∧ pre.length = i * t.cells
  | 0, h => by
    cases css with
    | nil => simp at h
    | cons c r => exact ⟨[], r.flatten, by simp, by simp⟩
  | i + 1, h => by
    cases css with
    | nil => simp at h
    | cons c r =>
      obtain ⟨pre, post, h1, h2⟩ := flat_split (t := t) (css := r) (fun j hj => by have := hl (j + 1) (by simpa using hj); simpa using this) i (by simpa using h)
      refine ⟨c ++ pre, post, by simp [h1], ?_⟩
      have h0 := hl 0 (by simp)
      simp at h0
      simp [h2, h0, Nat.add_mul, Nat.add_comm]
theorem run_eqElems (hT : TabOK P T) (d : Nat) {w : World} {S : Nat → Prop} {e : TypeId} {t : Ty} (he : T e = some t)
    (ih : ∀ (x y : t.den) (v u : Value) (w' : World), RepV w S t x v → RepV w S t y u → (Op.equalIn d e v u).run P w' = .ok (t.eqb x y) w')
    {xs ys : Array Value} : ∀ (k i : Nat) (X Y : List t.den) (pre pre' : List Value) (css css' : List (List Value)) (w' : World),
      X.length = k → Y.length = k → css.length = k → css'.length = k → (∀ j (h : j < X.length) (h' : j < css.length), RepC w S t X[j] css[j]) → (∀ j (h : j < Y.length) (h' : j < css'.length), RepC w S t Y[j] css'[j]) →
      xs.toList = pre ++ css.flatten → ys.toList = pre' ++ css'.flatten → pre.length = i * t.cells → pre'.length = i * t.cells →
      (eqElems d e t.cells xs ys (List.range' i k)).run P w' = .ok ((List.zipWith t.eqb X Y).all id) w'
  | 0, i, X, Y, _, _, _, _, w', hX, hY, _, _, _, _, _, _, _, _ => by
    obtain rfl := List.eq_nil_of_length_eq_zero hX
    simp [eqElems]
  | k + 1, i, X, Y, pre, pre', css, css', w', hX, hY, hc, hc', hr, hr', hx, hy, hp, hp' => by
    match X, Y, css, css', hX, hY, hc, hc' with
    | x :: X, y :: Y, c :: cs, c' :: cs', hX, hY, hc, hc' =>
      have r0 := hr 0 (by simp) (by simp)
      have r0' := hr' 0 (by simp) (by simp)
      simp only [List.getElem_cons_zero] at r0 r0'
      obtain ⟨va, e1, q1⟩ := run_part (hT _ _ he) (cs := xs) (pre := pre) (ds := c) (post := cs.flatten) (by rw [hx]; simp) r0 w'
      obtain ⟨vb, e2, q2⟩ := run_part (hT _ _ he) (cs := ys) (pre := pre') (ds := c') (post := cs'.flatten) (by rw [hy]; simp) r0' w'
      rw [hp] at e1
      rw [hp'] at e2
      have l1 := RepC.length _ _ _ r0
      have l2 := RepC.length _ _ _ r0'
      have e3 := ih x y va vb w' q1 q2
      have rec_ := run_eqElems hT d he ih (xs := xs) (ys := ys) k (i + 1) X Y (pre ++ c) (pre' ++ c') cs cs' w' (by simpa using hX) (by simpa using hY) (by simpa using hc) (by simpa using hc')
        (fun j h h' => by have := hr (j + 1) (by simpa using h) (by simpa using h'); simpa using this) (fun j h h' => by have := hr' (j + 1) (by simpa using h) (by simpa using h'); simpa using this)
        (by rw [hx]; simp) (by rw [hy]; simp) (by simp [hp, l1, Nat.add_mul]) (by simp [hp', l2, Nat.add_mul])
      simp only [List.range'_succ, eqElems, Sem.run_bind, e1, e2, e3, Result.andThen_ok, Sem.run_ite]
      cases hq : t.eqb x y
      · simp [hq]
      · simp [hq, rec_]
theorem run_equalIn_ty (hT : TabOK P T) {w : World} {S : Nat → Prop} : ∀ (d : Nat) (t : TypeId) (c : Ty) (x y : c.den) (v u : Value) (w' : World), T t = some c → c.cmpB = true → c.deep ≤ d →
    RepV w S c x v → RepV w S c y u → (Op.equalIn (d + 1) t v u).run P w' = .ok (c.eqb x y) w' := by
  intro d
  induction d with
  | zero =>
    intro t c x y v u w' ht hc hd hx hy
    obtain ⟨ds, hds, hb⟩ := (hT t c ht).desc
    cases c <;> simp only [Ty.cmpB, Bool.false_eq_true] at hc <;> (try (simp only [Ty.deep] at hd; omega))
    case bool => simp only [RepV, Ty.isAgg, RepC, Bool.false_eq_true, if_false] at hx hy; cases ds <;> simp [descB] at hb; simp at hx hy; subst hx; subst hy; simp [Op.equalIn, run_under hds, Ty.eqb]
    case u k => simp only [RepV, Ty.isAgg, RepC, Bool.false_eq_true, if_false] at hx hy; cases ds <;> simp [descB] at hb; obtain ⟨hx, _⟩ := hx; obtain ⟨hy, _⟩ := hy; simp at hx hy; subst hx; subst hy; simp [Op.equalIn, run_under hds, Ty.eqb]; rw [Bool.eq_iff_iff]; simp [Int.natCast_inj]
    case i k => simp only [RepV, Ty.isAgg, RepC, Bool.false_eq_true, if_false] at hx hy; cases ds <;> simp [descB] at hb; obtain ⟨hx, _⟩ := hx; obtain ⟨hy, _⟩ := hy; simp at hx hy; subst hx; subst hy; simp [Op.equalIn, run_under hds, Ty.eqb]; rw [Bool.eq_iff_iff]; simp
    case str =>
      simp only [RepV, Ty.isAgg, RepC, Bool.false_eq_true, if_false] at hx hy; cases ds <;> simp [descB] at hb
      obtain ⟨a, hx, ha, _⟩ := hx; obtain ⟨b, hy, hb', _⟩ := hy
      simp at hx hy; subst hx; subst hy; subst ha; subst hb'
      simp only [run_equalIn_string _ 0 t _ _ hds, Ty.eqb]
      rw [beqS]
    case unit =>
      simp only [RepV, Ty.isAgg, if_true] at hx hy
      obtain ⟨a, rfl, _⟩ := hx; obtain ⟨b, rfl, _⟩ := hy
      cases ds <;> simp [descB] at hb
      rename_i fs
      have hfs : P.fieldsOf t = fs := by simp [Program.fieldsOf, hds]
      rw [run_equalIn_struct w' 0 t a b (by rw [hfs]; exact hds) (hT t _ ht).held, hfs]
      cases hfl : fs.toList with
      | nil => simp [Op.eqFields, Ty.eqb]
      | cons f r => rw [hfl] at hb; simp [fieldsB] at hb
  | succ d ih =>
    intro t c x y v u w' ht hc hd hx hy
    obtain ⟨ds, hds, hb⟩ := (hT t c ht).desc
    cases c <;> simp only [Ty.cmpB, Bool.false_eq_true] at hc
    case bool => simp only [RepV, Ty.isAgg, RepC, Bool.false_eq_true, if_false] at hx hy; cases ds <;> simp [descB] at hb; simp at hx hy; subst hx; subst hy; simp [Op.equalIn, run_under hds, Ty.eqb]
    case u k => simp only [RepV, Ty.isAgg, RepC, Bool.false_eq_true, if_false] at hx hy; cases ds <;> simp [descB] at hb; obtain ⟨hx, _⟩ := hx; obtain ⟨hy, _⟩ := hy; simp at hx hy; subst hx; subst hy; simp [Op.equalIn, run_under hds, Ty.eqb]; rw [Bool.eq_iff_iff]; simp [Int.natCast_inj]
    case i k => simp only [RepV, Ty.isAgg, RepC, Bool.false_eq_true, if_false] at hx hy; cases ds <;> simp [descB] at hb; obtain ⟨hx, _⟩ := hx; obtain ⟨hy, _⟩ := hy; simp at hx hy; subst hx; subst hy; simp [Op.equalIn, run_under hds, Ty.eqb]; rw [Bool.eq_iff_iff]; simp
    case str =>
      simp only [RepV, Ty.isAgg, RepC, Bool.false_eq_true, if_false] at hx hy; cases ds <;> simp [descB] at hb
      obtain ⟨a, hx, ha, _⟩ := hx; obtain ⟨b, hy, hb', _⟩ := hy
      simp at hx hy; subst hx; subst hy; subst ha; subst hb'
      simp only [run_equalIn_string _ _ t _ _ hds, Ty.eqb]
      rw [beqS]
    case unit =>
      simp only [RepV, Ty.isAgg, if_true] at hx hy
      obtain ⟨a, rfl, _⟩ := hx; obtain ⟨b, rfl, _⟩ := hy
      cases ds <;> simp [descB] at hb
      rename_i fs
      have hfs : P.fieldsOf t = fs := by simp [Program.fieldsOf, hds]
      rw [run_equalIn_struct w' _ t a b (by rw [hfs]; exact hds) (hT t _ ht).held, hfs]
      cases hfl : fs.toList with
      | nil => simp [Op.eqFields, Ty.eqb]
      | cons f r => rw [hfl] at hb; simp [fieldsB] at hb
    case pair a b =>
      simp only [RepV, Ty.isAgg, if_true] at hx hy
      obtain ⟨xs, rfl, hx⟩ := hx; obtain ⟨ys, rfl, hy⟩ := hy
      cases ds <;> simp [descB] at hb
      rename_i fs
      have hfs : P.fieldsOf t = fs := by simp [Program.fieldsOf, hds]
      rw [run_equalIn_struct w' _ t xs ys (by rw [hfs]; exact hds) (hT t _ ht).held, hfs]
      exact run_eqFields hT d ih fs.toList 0 (.pair a b) x y [] xs.toList [] ys.toList [] [] w' hb (by simpa [Ty.cmpB] using hc) hd (by simp) rfl hx (by simp) rfl hy
    case arr n c =>
      simp only [RepV, Ty.isAgg, if_true] at hx hy
      obtain ⟨xs, rfl, hx⟩ := hx; obtain ⟨ys, rfl, hy⟩ := hy
      cases ds <;> simp [descB] at hb
      rename_i n' e
      obtain ⟨⟨⟨rfl, he⟩, _⟩, _⟩ := hb
      obtain ⟨lx, css, hcx, hlx, hrx⟩ := hx
      obtain ⟨ly, css', hcy, hly, hry⟩ := hy
      rw [run_equalIn_array _ t e n c.cells xs ys w' hds (run_size (hT _ _ he) w')]
      simp only [Ty.deep] at hd
      exact run_eqElems hT (d + 1) he (fun x y v u w' h1 h2 => ih e c x y v u w' he hc (by omega) h1 h2) n 0 x y [] [] css css' w' lx ly (hlx.trans lx) (hly.trans ly) hrx hry (by simpa using hcx) (by simpa using hcy) (by simp) (by simp)
theorem run_equal_ty (hT : TabOK P T) {w : World} {S : Nat → Prop} {t : TypeId} {c : Ty} {x y : c.den} {v u : Value} (w' : World) (ht : T t = some c) (hc : c.cmpB = true) (hd : c.deep ≤ 100) (hx : RepV w S c x v) (hy : RepV w S c y u) :
    (Op.equal t v u).run P w' = .ok (c.eqb x y) w' := run_equalIn_ty hT 9999 t c x y v u w' ht hc (by omega) hx hy
end
end Go.Vc
namespace Go.It
open Go.RowKit
open Go.Vc (Keeps cellsAt)
set_option linter.unusedVariables false
set_option linter.constructorNameAsVariable false
theorem mdB_eq (k : IntKind) : mdB k = .mk (2 ^ k.bits) := by cases k <;> rfl
theorem hfB_eq (k : IntKind) : hfB k = .mk (2 ^ (k.bits - 1)) := by cases k <;> rfl
theorem bitsB_eq (k : IntKind) : bitsB k = .mk k.bits := by cases k <;> rfl
theorem bits_pos (k : IntKind) : 0 < k.bits := by cases k <;> simp [IntKind.bits]
theorem two_half (k : IntKind) : 2 ^ k.bits = 2 * 2 ^ (k.bits - 1) := by
  have := bits_pos k
  rw [← Nat.pow_succ']; congr 1; omega
theorem half_pos (k : IntKind) : 0 < 2 ^ (k.bits - 1) := Nat.two_pow_pos _
theorem keq_eq {a b : IntKind} (h : keq a b = true) : a = b := by cases a <;> cases b <;> first | rfl | cases h
theorem keq_self (a : IntKind) : keq a a = true := by cases a <;> rfl
theorem mk_ok (k : IntKind) : ∃ mk, mkK k = .mk mk ∧ ∀ (ρ : Rho) (n : Nat) (x : Value), VR ρ (mk n) x ↔ (x = .int k (dec k n) ∧ n < 2 ^ k.bits) := by
  cases k
  case i64 => exact ⟨.i, rfl, fun ρ n x => by simp only [VR]; exact Iff.rfl⟩
  case u64 => exact ⟨.w, rfl, fun ρ n x => by simp only [VR]; simp [dec, IntKind.signed, IntKind.bits]⟩
  all_goals exact ⟨.k _, rfl, fun ρ n x => by simp only [VR]⟩
theorem one_mk {k : IntKind} {mk : Nat → V} (h : mkK k = .mk mk) (n : Nat) : oneV (mk n) = true := by
  cases k <;> (simp only [mkK, Box.mk.injEq] at h; subst h; rfl)
theorem oK_ok (k : IntKind) : ∃ f, oK k = .mk f ∧ ∀ (v : V) (c : Nat → Bool), f v c = true → ∃ n, c n = true ∧ ∀ (ρ : Rho) (x : Value), VR ρ v x → x = .int k (dec k n) ∧ n < 2 ^ k.bits := by
  cases k
  case i64 =>
    refine ⟨oI, rfl, fun v c h => ?_⟩
    obtain ⟨n, rfl, k⟩ := oI_ok h
    exact ⟨n, k, fun ρ x hv => by simp only [VR] at hv; exact hv⟩
  case u64 =>
    refine ⟨oW, rfl, fun v c h => ?_⟩
    obtain ⟨n, rfl, k⟩ := oW_ok h
    exact ⟨n, k, fun ρ x hv => by simp only [VR] at hv; simpa [dec, IntKind.signed, IntKind.bits] using hv⟩
  all_goals
    refine ⟨oN _, rfl, fun v c h => ?_⟩
    unfold oN at h
    split at h
    · rename_i k' n
      obtain ⟨h1, h2⟩ := bif_t h
      have := keq_eq h1
      subst this
      exact ⟨n, h2, fun ρ x hv => by simpa only [VR] using hv⟩
    · cases h
theorem oAny_ok {v : V} {c : IntKind → Nat → Bool} (h : oAny v c = true) : ∃ k n, c k n = true ∧ ∀ (ρ : Rho) (x : Value), VR ρ v x → x = .int k (dec k n) ∧ n < 2 ^ k.bits := by
  unfold oAny at h
  split at h
  · exact ⟨_, _, h, fun ρ x hv => by simp only [VR] at hv; exact hv⟩
  · exact ⟨_, _, h, fun ρ x hv => by simp only [VR] at hv; simpa [dec, IntKind.signed, IntKind.bits] using hv⟩
  · exact ⟨_, _, h, fun ρ x hv => by simp only [VR] at hv; exact hv⟩
  · cases h
theorem dec_small {k : IntKind} {n : Nat} (h : k.signed = false ∨ n < 2 ^ (k.bits - 1)) : dec k n = (n : Int) := by
  unfold dec
  rcases h with h | h
  · simp [h]
  · rw [if_neg]
    simp only [Bool.and_eq_true, decide_eq_true_eq, not_and, Nat.not_le]
    exact fun _ => h
theorem bits_le (k : IntKind) : k.bits ≤ 64 := by cases k <;> simp [IntKind.bits]
theorem oIx_ok {v : V} {c : Nat → Bool} (h : oIx v c = true) : ∃ n, c n = true ∧ ∀ (ρ : Rho) (x : Value), VR ρ v x → ∃ k, x = .int k (n : Int) ∧ n < 2 ^ 64 := by
  unfold oIx at h
  split at h
  · rename_i n
    obtain ⟨h1, h2⟩ := bif_t h
    have h1 : n < 9223372036854775808 := by simpa using h1
    refine ⟨n, h2, fun ρ x hv => ?_⟩
    simp only [VR] at hv
    exact ⟨.i64, by rw [hv.1, dec_small (.inr h1)], hv.2⟩
  · rename_i n
    exact ⟨n, h, fun ρ x hv => by simp only [VR] at hv; exact ⟨.u64, hv.1, hv.2⟩⟩
  · rename_i k n
    rw [hfB_eq, unb_mk] at h
    have hb : (2 : Nat) ^ k.bits ≤ 2 ^ 64 := Nat.pow_le_pow_right (by omega) (bits_le k)
    cases hs : k.signed
    · rw [hs] at h
      refine ⟨n, h, fun ρ x hv => ?_⟩
      simp only [VR] at hv
      exact ⟨k, by rw [hv.1, dec_small (.inl hs)], by omega⟩
    · rw [hs] at h
      obtain ⟨h1, h2⟩ := bif_t (b := Nat.blt n (2 ^ (k.bits - 1))) h
      have h1 : n < 2 ^ (k.bits - 1) := by simpa using h1
      refine ⟨n, h2, fun ρ x hv => ?_⟩
      simp only [VR] at hv
      exact ⟨k, by rw [hv.1, dec_small (.inr h1)], by omega⟩
  · cases h
theorem enc_lt (k : IntKind) (z : Int) : enc k z < 2 ^ k.bits := by
  unfold enc
  have h1 := Int.emod_lt_of_pos z (show (0 : Int) < 2 ^ k.bits from by exact_mod_cast Nat.two_pow_pos k.bits)
  have h2 := Int.emod_nonneg z (show (2 : Int) ^ k.bits ≠ 0 from by have := Nat.two_pow_pos k.bits; exact_mod_cast Nat.ne_of_gt this)
  have : ((z % 2 ^ k.bits).toNat : Int) = z % 2 ^ k.bits := Int.toNat_of_nonneg h2
  have h3 : ((z % 2 ^ k.bits).toNat : Int) < ((2 ^ k.bits : Nat) : Int) := by rw [this]; exact_mod_cast h1
  exact_mod_cast h3
theorem enc_int (k : IntKind) (z : Int) : ((enc k z : Nat) : Int) = z % 2 ^ k.bits := by
  unfold enc
  exact Int.toNat_of_nonneg (Int.emod_nonneg z (by have := Nat.two_pow_pos k.bits; exact_mod_cast Nat.ne_of_gt this))
theorem wrap_dec (k : IntKind) (z : Int) : k.wrap z = dec k (enc k z) := by
  unfold IntKind.wrap dec
  have e := enc_int k z
  simp only [← e]
  have hp : ((2 : Int) ^ (k.bits - 1) ≤ (enc k z : Int)) ↔ 2 ^ (k.bits - 1) ≤ enc k z := by
    constructor <;> intro h <;> exact_mod_cast h
  by_cases h : 2 ^ (k.bits - 1) ≤ enc k z
  · have h' := hp.2 h
    simp [h, h']
  · have h' : ¬ ((2 : Int) ^ (k.bits - 1) ≤ (enc k z : Int)) := fun q => h (hp.1 q)
    simp [h, h']
theorem enc_congr {k : IntKind} {y z : Int} (h : y % 2 ^ k.bits = z % 2 ^ k.bits) : enc k y = enc k z := by unfold enc; rw [h]
theorem dec_mod (k : IntKind) (n : Nat) : dec k n % 2 ^ k.bits = (n : Int) % 2 ^ k.bits := by
  unfold dec
  split
  · exact Int.sub_emod_right _ _
  · rfl
theorem enc_nat {k : IntKind} (n : Nat) : enc k (n : Int) = n % 2 ^ k.bits := by
  have := enc_int k n
  have h2 : ((n % 2 ^ k.bits : Nat) : Int) = (n : Int) % 2 ^ k.bits := by push_cast; rfl
  rw [← h2] at this
  exact_mod_cast this
theorem enc_dec {k : IntKind} {n : Nat} (h : n < 2 ^ k.bits) : enc k (dec k n) = n := by
  rw [enc_congr (dec_mod k n), enc_nat, Nat.mod_eq_of_lt h]
theorem dec_enc {k : IntKind} {z : Int} (h1 : k.min ≤ z) (h2 : z ≤ k.max) : dec k (enc k z) = z := by
  rw [← wrap_dec]
  have hh := two_half k
  have hp : ((2 : Int) ^ k.bits) = 2 * 2 ^ (k.bits - 1) := by exact_mod_cast hh
  have hpos : (0 : Int) < 2 ^ (k.bits - 1) := by exact_mod_cast half_pos k
  unfold IntKind.min at h1
  unfold IntKind.max at h2
  unfold IntKind.wrap
  cases hs : k.signed
  · rw [hs] at h1 h2
    simp only [Bool.false_and, Bool.false_eq_true, if_false] at *
    exact Int.emod_eq_of_lt h1 (by omega)
  · rw [hs] at h1 h2
    simp only [Bool.true_and, if_true, decide_eq_true_eq] at *
    by_cases hz : 0 ≤ z
    · rw [Int.emod_eq_of_lt hz (by omega), if_neg (by omega)]
    · have : z % 2 ^ k.bits = z + 2 ^ k.bits := by
        rw [← Int.add_emod_right, Int.emod_eq_of_lt (by omega) (by omega)]
      rw [this, if_pos (by omega)]
      omega
theorem dec_lt {k : IntKind} {n : Nat} (h : n < 2 ^ k.bits) : k.min ≤ dec k n ∧ dec k n ≤ k.max := by
  have hh := two_half k
  have hp : ((2 : Int) ^ k.bits) = 2 * 2 ^ (k.bits - 1) := by exact_mod_cast hh
  have hpos : (0 : Int) < 2 ^ (k.bits - 1) := by exact_mod_cast half_pos k
  have hn : (n : Int) < 2 ^ k.bits := by exact_mod_cast h
  unfold dec IntKind.min IntKind.max
  cases hs : k.signed
  · simp; omega
  · by_cases hl : 2 ^ (k.bits - 1) ≤ n
    · have : ((2 : Int) ^ (k.bits - 1)) ≤ n := by exact_mod_cast hl
      simp [hl]; omega
    · have : (n : Int) < ((2 : Int) ^ (k.bits - 1)) := by exact_mod_cast (Nat.lt_of_not_le hl)
      simp [hl]; omega
end Go.It
namespace Go.It
open Go.RowKit
open Go.Vc (Keeps cellsAt)
set_option linter.unusedVariables false
set_option linter.constructorNameAsVariable false
def kB : TypeDesc → TK → Bool
  | .int k, .i k' => keq k k'
  | .bool, .b => true
  | .string, .s => true
  | .pointer e, .p e' => Nat.beq e e'
  | .slice e, .sl e' => Nat.beq e e'
  | .map k e, .mp k' e' => Nat.beq k k' && Nat.beq e e'
  | .func _ _ _, .fn => true
  | .interface _, .ifc => true
  | .struct F, .st fs => decide (F.toList.map (fun f => (f.offset, f.type)) = fs) && F.toList.all (fun f => f.name != "_")
  | .array n e, .ar n' e' => Nat.beq n n' && Nat.beq e e'
  | _, _ => false
def kR (d : TypeDesc) : TK → Prop
  | .i k => d = .int k
  | .b => d = .bool
  | .s => d = .string
  | .p e => d = .pointer e
  | .sl e => d = .slice e
  | .mp k e => d = .map k e
  | .fn => ∃ a b c, d = .func a b c
  | .ifc => ∃ ms, d = .interface ms
  | .st fs => ∃ F, d = .struct F ∧ F.toList.map (fun f => (f.offset, f.type)) = fs ∧ ∀ f ∈ F.toList, f.name ≠ "_"
  | .ar n e => d = .array n e
  | .no => False
theorem kR_of {d : TypeDesc} {k : TK} (h : kB d k = true) : kR d k := by
  unfold kB at h
  split at h <;> first | (cases h; done) | skip
  · rw [keq_eq h]; rfl
  · rfl
  · rfl
  · rw [Nat.eq_of_beq_eq_true h]; rfl
  · rw [Nat.eq_of_beq_eq_true h]; rfl
  · simp only [Bool.and_eq_true] at h
    rw [Nat.eq_of_beq_eq_true h.1, Nat.eq_of_beq_eq_true h.2]; rfl
  · exact ⟨_, _, _, rfl⟩
  · exact ⟨_, rfl⟩
  · simp only [Bool.and_eq_true, decide_eq_true_eq] at h
    exact ⟨_, rfl, h.1, fun f hf => by simpa using List.all_eq_true.1 h.2 f hf⟩
  · simp only [Bool.and_eq_true] at h
    rw [Nat.eq_of_beq_eq_true h.1, Nat.eq_of_beq_eq_true h.2]; rfl
def z1B : V → Value → Bool
  | .i 0, .int .i64 0 => true
  | .w 0, .int .u64 0 => true
  | .k k 0, .int k' 0 => keq k k'
  | .b false, .bool false => true
  | .s 0 0, .string s => s.data.toList.isEmpty
  | .z .pn, .pointer none => true
  | .z .sn, .slice none 0 0 => true
  | .z .mn, .map none => true
  | .z .fnn, .nilFunc => true
  | .z .ifn, .nilIface => true
  | _, _ => false
def zLB : List V → List Value → Bool
  | [], [] => true
  | v :: l, x :: r => z1B v x && zLB l r
  | _, _ => false
theorem z1_ok {v : V} {x : Value} (h : z1B v x = true) (ρ : Rho) : VR ρ v x ∧ oneV v = true := by
  unfold z1B at h
  split at h <;> first | (cases h; done) | skip
  · exact ⟨by simp only [VR]; exact ⟨rfl, by decide⟩, rfl⟩
  · exact ⟨by simp only [VR]; exact ⟨rfl, by decide⟩, rfl⟩
  · rw [keq_eq h]
    refine ⟨?_, rfl⟩
    simp only [VR]
    exact ⟨by rw [dec_small (.inr (half_pos _))]; rfl, Nat.two_pow_pos _⟩
  · exact ⟨by simp only [VR], rfl⟩
  · rename_i s
    refine ⟨?_, rfl⟩
    simp only [VR]
    have : s.data.toList = [] := by simpa using h
    exact ⟨s, rfl, by rw [this]; rfl, by rw [this]; rfl, Nat.zero_le _⟩
  all_goals exact ⟨by simp only [VR, zR], rfl⟩
theorem zL_ok : ∀ {l : List V} {xs : List Value}, zLB l xs = true → ∀ ρ : Rho, VRL ρ l xs ∧ l.all oneV = true
  | [], [], _, _ => ⟨by simp [VRL], rfl⟩
  | [], _ :: _, h, _ => by simp [zLB] at h
  | _ :: _, [], h, _ => by simp [zLB] at h
  | v :: l, x :: r, h, ρ => by
    simp only [zLB, Bool.and_eq_true] at h
    have h1 := z1_ok h.1 ρ
    have h2 := zL_ok h.2 ρ
    exact ⟨by simp only [VRL]; exact ⟨x, r, rfl, h1.1, h2.1⟩, by simp [h1.2, h2.2]⟩
def tiB (P : Program) (t : TypeId) (i : TI) : Bool :=
  match P.info? t, P.underlying t with
  | some f, some d => Nat.beq f.size i.n && Nat.beq f.bytes i.by' && kB d i.k && Nat.beq i.z.length i.n && !P.stoodInHeld t && (!isAg i || !P.eqGuardType P.depth t) &&
      (match f.zero with | some (.agg cs) => isAg i && zLB i.z cs.toList | some z => !isAg i && zLB i.z [z] | none => false)
  | _, _ => false
structure TIok (P : Program) (t : TypeId) (i : TI) : Prop where
  info : ∃ f, P.info? t = some f ∧ f.size = i.n ∧ f.bytes = i.by' ∧ ∃ z, f.zero = some z ∧ (isAg i = true → ∃ cs, z = .agg cs) ∧ (isAg i = false → z.cells = #[z] ∧ z.oneCell' = true) ∧ ∀ ρ, VRL ρ i.z z.cells.toList
  zone : i.z.all oneV = true ∧ i.z.length = i.n
  desc : ∃ d, P.underlying t = some d ∧ kR d i.k
  held : P.stoodInHeld t = false
  guard : isAg i = true → P.eqGuardType P.depth t = false
theorem tiOK_of {P : Program} {t : TypeId} {i : TI} (h : tiB P t i = true) : TIok P t i := by
  unfold tiB at h
  split at h
  · rename_i f d hf hd
    simp only [Bool.and_eq_true, Bool.not_eq_true'] at h
    obtain ⟨⟨⟨⟨⟨⟨h1, h2⟩, h3⟩, h4⟩, h5⟩, h6⟩, h7⟩ := h
    have hz : ∃ z, f.zero = some z ∧ (isAg i = true → ∃ cs, z = .agg cs) ∧ (isAg i = false → z.cells = #[z] ∧ z.oneCell' = true) ∧ (∀ ρ, VRL ρ i.z z.cells.toList) ∧ i.z.all oneV = true := by
      split at h7
      · rename_i cs hz
        simp only [Bool.and_eq_true] at h7
        exact ⟨_, hz, fun _ => ⟨_, rfl⟩, fun e => (by rw [h7.1] at e; cases e), fun ρ => (zL_ok h7.2 ρ).1, (zL_ok h7.2 (fun _ => none)).2⟩
      · rename_i z hna hz
        simp only [Bool.and_eq_true, Bool.not_eq_true'] at h7
        obtain ⟨g1, g2⟩ := h7
        have hz1 := zL_ok g2 (fun _ => none)
        have hone : z.oneCell' = true ∧ z.cells = #[z] := by
          obtain ⟨a1, a2⟩ := hz1
          match hl : i.z, a1, a2 with
          | [], a1, _ => simp [VRL] at a1
          | [v], a1, a2 =>
            simp only [VRL] at a1
            obtain ⟨y, ys, e1, e2, e3⟩ := a1
            simp only [List.cons.injEq] at e1
            rw [← e1.1] at e2
            exact one_cell (by simpa using a2) e2
          | v :: u :: l, a1, _ =>
            simp only [VRL] at a1
            obtain ⟨y, ys, e1, e2, y2, ys2, e3, _⟩ := a1
            simp only [List.cons.injEq] at e1
            rw [← e1.2] at e3
            cases e3
        exact ⟨z, hz, fun e => (by rw [g1] at e; cases e), fun _ => ⟨hone.2, hone.1⟩, fun ρ => by rw [hone.2]; exact (zL_ok g2 ρ).1, hz1.2⟩
      · cases h7
    obtain ⟨z, z1, z2, z3, z4, z5⟩ := hz
    exact ⟨⟨f, hf, Nat.eq_of_beq_eq_true h1, Nat.eq_of_beq_eq_true h2, z, z1, z2, z3, z4⟩, ⟨z5, Nat.eq_of_beq_eq_true h4⟩, ⟨d, hd, kR_of h3⟩, h5, fun e => by simpa [e] using h6⟩
  · cases h
section
variable {P : Program} {t : TypeId} {i : TI}
theorem TIok.size (h : TIok P t i) (w : World) : (sizeOf t).run P w = .ok i.n w := by
  obtain ⟨f, hf, hs, _⟩ := h.info
  simp [sizeOf, typeInfo, hf, hs]
theorem TIok.agg (h : TIok P t i) (w : World) : (isAgg t).run P w = .ok (isAg i) w := by
  obtain ⟨d, hd, hk⟩ := h.desc
  unfold isAg
  cases hk' : i.k <;> rw [hk'] at hk <;> simp only [kR] at hk
  case fn => obtain ⟨a, b, c, rfl⟩ := hk; simp [isAgg, underlying, hd]
  case ifc => obtain ⟨ms, rfl⟩ := hk; simp [isAgg, underlying, hd]
  case st fs => obtain ⟨F, rfl, _⟩ := hk; simp [isAgg, underlying, hd]
  all_goals first | (exact hk.elim) | (subst hk; simp [isAgg, underlying, hd])
end
structure EnOK (P : Program) (E : En) : Prop where
  ty : ∀ t, kn E t = true → TIok P t (ti E t)
def GR (E : En) (ρ : Rho) : Prop := ∀ g, VR ρ (E.gl g) (.pointer (some ⟨g, 0, none⟩))
def CxOK (q : Cx) : Prop := ∀ t, q.A t = .mk (q.look t)
structure Sm (q : Cx) (w0 : World) (ρ : Rho) (e : q.ε) (m : M) (a : Act) (w : World) : Prop where
  w : W w0 ρ m w
  gl : GR q.E ρ
  env : ∀ t, VR ρ (q.look t e) (a.tmps.getD t Go.undef)
theorem kn_ok {P : Program} {E : En} (hE : EnOK P E) {t : TypeId} {k : TK} (hk : (ti E t).k = k) (hn : k ≠ .no) : TIok P t (ti E t) := hE.ty t (by unfold kn; rw [hk]; cases k <;> first | rfl | exact absurd rfl hn)
theorem cv1_ok {v : Value} (h : cOK1 v = true) (ρ : Rho) : VR ρ (cv1 v) v ∧ oneV (cv1 v) = true := by
  unfold cOK1 at h
  split at h <;> first | (cases h; done) | skip
  · exact ⟨by simp only [cv1, VR], rfl⟩
  · rename_i k n
    simp only [Bool.and_eq_true, decide_eq_true_eq] at h
    obtain ⟨mk, h1, h2⟩ := mk_ok k
    simp only [cv1, cvI, h1, unb_mk]
    exact ⟨(h2 ρ _ _).2 ⟨by rw [dec_enc h.1 h.2], enc_lt _ _⟩, one_mk h1 _⟩
  · rename_i s
    refine ⟨?_, rfl⟩
    simp only [cv1, VR]
    exact ⟨s, rfl, rfl, rfl, by have : s.data.toList.length ≤ 1099511627776 := by simpa using h
                                simp only [maxLen]; omega⟩
  all_goals exact ⟨by simp only [cv1, VR, zR], rfl⟩
theorem cv_ok {v : Value} (h : cOK v = true) (ρ : Rho) : VR ρ (cv v) v := by
  by_cases ha : ∃ cs, v = .agg cs
  · obtain ⟨cs, rfl⟩ := ha
    simp only [cOK] at h
    simp only [cv, VR]
    have key : ∀ l : List Value, l.all cOK1 = true → VRL ρ (l.map cv1) l ∧ (l.map cv1).all oneV = true := by
      intro l
      induction l with
      | nil => exact fun _ => ⟨by simp [VRL], rfl⟩
      | cons x l ih =>
        intro hl
        simp only [List.all_cons, Bool.and_eq_true] at hl
        have h1 := cv1_ok hl.1 ρ
        have h2 := ih hl.2
        exact ⟨by simp only [List.map_cons, VRL]; exact ⟨x, l, rfl, h1.1, h2.1⟩, by simp only [List.map_cons, List.all_cons, h1.2, h2.2, Bool.and_self]⟩
    have := key cs.toList h
    exact ⟨cs.toList, by simp, this.1, this.2⟩
  · have e1 : cOK v = cOK1 v := by cases v <;> first | rfl | exact absurd ⟨_, rfl⟩ ha
    have e2 : cv v = cv1 v := by cases v <;> first | rfl | exact absurd ⟨_, rfl⟩ ha
    rw [e1] at h
    rw [e2]
    exact (cv1_ok h ρ).1
theorem accO_eq {q : Cx} (hq : CxOK q) (x : Operand) : accO q x = .mk fun e => evD q e x := by
  cases x with
  | tmp t => simp only [accO, hq t]; rfl
  | const v =>
    simp only [accO, evD]
    cases cOK v <;> rfl
  | global g => rfl
  | func f => rfl
theorem VR.junk (ρ : Rho) (x : Value) : VR ρ (.z .j) x := by simp only [VR, zR]
theorem ev_ok {q : Cx} {ρ : Rho} {e : q.ε} {a : Act} (hg : GR q.E ρ) (x : Operand) (hx : ∀ t, x = .tmp t → VR ρ (q.look t e) (a.tmps.getD t Go.undef)) : VR ρ (evD q e x) (a.eval x) := by
  cases x with
  | tmp t => exact hx t rfl
  | const v =>
    simp only [evD]
    cases h : cOK v
    · exact VR.junk _ _
    · exact cv_ok h ρ
  | global g => exact hg g
  | func f => simp only [evD, VR]; exact ⟨[], [], rfl, by simp [VRL], by simp [VRL]⟩
theorem accL_eq {q : Cx} (hq : CxOK q) : ∀ l : List Operand, accL q l = .mk fun e => l.map (evD q e)
  | [] => rfl
  | x :: l => by simp only [accL, accO_eq hq, accL_eq hq l, unb_mk, List.map_cons]
end Go.It
namespace Go.It
open Go.RowKit
open Go.Vc (Keeps cellsAt)
set_option linter.unusedVariables false
set_option linter.constructorNameAsVariable false
structure Sv (q : Cx) (w0 : World) (ρ : Rho) (e : q.ε) (m : M) (a : Act) (w : World) (l : Array Operand) : Prop where
  w : W w0 ρ m w
  gl : GR q.E ρ
  ev : ∀ x, x ∈ l → VR ρ (evD q e x) (a.eval x)
theorem Sv.evL {q : Cx} {w0 : World} {ρ : Rho} {e : q.ε} {m : M} {a : Act} {w : World} {l : Array Operand} (h : Sv q w0 ρ e m a w l) : ∀ {r : List Operand}, (∀ x ∈ r, x ∈ l) → VRL ρ (r.map (evD q e)) (r.map a.eval)
  | [], _ => by simp [VRL]
  | x :: r, hl => by
    simp only [List.map_cons, VRL]
    exact ⟨_, _, rfl, h.ev x (hl x (.head _)), h.evL fun y hy => hl y (.tail _ hy)⟩
def OpA (P : Program) (q : Cx) (o : Oper) (e : q.ε) (m : M) (v : V) : Prop :=
  ∀ (w0 : World) (ρ : Rho) (a : Act) (w : World), Sv q w0 ρ e m a w o.op.operands → ∃ x, (execOp a.eval o).run P w = .ok (.value x) w ∧ VR ρ v x
def OpB (P : Program) (q : Cx) (o : Oper) (e : q.ε) (mkv : Nat → V) (b : O) : Prop :=
  ∀ (w0 : World) (ρ : Rho) (m : M) (a : Act) (w : World), Sv q w0 ρ e m a w o.op.operands → ∃ x w' N, (execOp a.eval o).run P w = .ok (.value x) w' ∧ But w.heap.size w w' ∧
    ∀ (ρ' : Rho) (k : Nat), ρ.le ρ' → ρ' k = some (w.heap.size, 0, N) → VR ρ' (mkv k) x ∧ OR w0 ρ' w' w.heap.size 0 N b
def OpC (P : Program) (q : Cx) (o : Oper) (e : q.ε) (m : M) (v : V) (m' : M) : Prop :=
  m.nx ≤ m'.nx ∧ ∀ (w0 : World) (ρ : Rho) (a : Act) (w : World), Sv q w0 ρ e m a w o.op.operands → ∃ r x w' ρ', (execOp a.eval o).run P w = .ok r w' ∧ (r = .value x ∨ r = .skip ∧ x = Go.undef) ∧ W w0 ρ' m' w' ∧ VR ρ' v x ∧
    ρ.le ρ' ∧ ∀ k, ρ k = none → k < m.nx → ρ' k = none
def bk : V → Option Nat
  | .p a _ => some a
  | .sl a _ _ _ _ => some a
  | .m a => some a
  | _ => none
def rb (k : Nat) : V → V
  | .p _ o => .p k o
  | .sl _ o n c x => .sl k o n c x
  | .m _ => .m k
  | v => v
def Mkv (mkv : Nat → V) : Prop := ∀ a, bk (mkv a) = some a ∧ mkv a = rb a (mkv 0)
inductive OpR (P : Program) (q : Cx) (o : Oper) (e : q.ε) (m : M) (c : V → M → Bool) : Prop where
  | a0 (v : V) (hk : cls q o = 0) (hc : c v m = true) (h : ∀ m', OpA P q o e m' v)
  | a1 (v : V) (hk : cls q o = 1) (hc : c v m = true) (h : OpA P q o e m v)
  | b (mkv : Nat → V) (b : O) (hk : cls q o = 2) (hn : m.nx < 262144) (hc : c (mkv m.nx) (nw m b) = true) (hm : Mkv mkv) (h : OpB P q o e mkv b)
  | c (v : V) (m' : M) (hk : cls q o = 3) (hc : c v m' = true) (h : OpC P q o e m v m')
section
variable {P : Program} {q : Cx} {e : q.ε} {m : M} {c : V → M → Bool} {f : OpF q} {dst : Option Tmp} {ty : TypeId} {pos : String} {aft : Array Edge} {gd : Option (Nat × Bool)}
theorem op1_ok (hq : CxOK q) {x : Operand} {F : V → M → (V → M → Bool) → Bool} (hf : op1 q x F = .mk f) (h : f e m c = true) : F (evD q e x) m c = true := by
  simp only [op1, accO_eq hq, unb_mk, Box.mk.injEq] at hf
  subst hf
  exact h
theorem op2_ok (hq : CxOK q) {x y : Operand} {F : V → V → M → (V → M → Bool) → Bool} (hf : op2 q x y F = .mk f) (h : f e m c = true) : F (evD q e x) (evD q e y) m c = true := by
  simp only [op2, accO_eq hq, unb_mk, Box.mk.injEq] at hf
  subst hf
  exact h
theorem bad_ok (hf : (bad : Box (OpF q)) = .mk f) (h : f e m c = true) : False := by
  simp only [bad, Box.mk.injEq] at hf
  subst hf
  cases h
theorem op_move (hq : CxOK q) {x : Operand} (hf : trOp q ⟨dst, .move x, ty, pos, aft, gd⟩ = .mk f) (h : f e m c = true) : OpR P q ⟨dst, .move x, ty, pos, aft, gd⟩ e m c := by
  have hf : trMove q x = .mk f := hf
  unfold trMove at hf
  have h2 := op1_ok hq hf h
  exact .a0 _ rfl h2 fun m' w0 ρ a w hs => ⟨_, rfl, hs.ev _ (by simp [Op.operands])⟩
theorem op_assign (hq : CxOK q) {x : Operand} (hf : trOp q ⟨dst, .assign x, ty, pos, aft, gd⟩ = .mk f) (h : f e m c = true) : OpR P q ⟨dst, .assign x, ty, pos, aft, gd⟩ e m c := by
  have hf : trMove q x = .mk f := hf
  unfold trMove at hf
  have h2 := op1_ok hq hf h
  exact .a0 _ rfl h2 fun m' w0 ρ a w hs => ⟨_, rfl, hs.ev _ (by simp [Op.operands])⟩
theorem op_pick (hq : CxOK q) {p x y : Operand} (hf : trOp q ⟨dst, .pick p x y, ty, pos, aft, gd⟩ = .mk f) (h : f e m c = true) : OpR P q ⟨dst, .pick p x y, ty, pos, aft, gd⟩ e m c := by
  have hf : trPick q p x y = .mk f := hf
  simp only [trPick, accO_eq hq, unb_mk, Box.mk.injEq] at hf
  subst hf
  obtain ⟨t, k3, k4⟩ := oB_ok h
  have hp : ∀ {w0 ρ m' a w}, Sv q w0 ρ e m' a w (Op.pick p x y).operands → a.eval p = .bool t := fun hs => by
    have := hs.ev p (by simp [Op.operands])
    rw [k3] at this
    simpa only [VR] using this
  cases t
  · exact .a0 _ rfl k4 fun m' w0 ρ a w hs => ⟨a.eval y, by simp [execOp, hp hs, asBool], hs.ev _ (by simp [Op.operands])⟩
  · exact .a0 _ rfl k4 fun m' w0 ρ a w hs => ⟨a.eval x, by simp [execOp, hp hs, asBool], hs.ev _ (by simp [Op.operands])⟩
theorem op_ifc (hq : CxOK q) {t : TypeId} {x : Operand} (hE : EnOK P q.E) (hf : trOp q ⟨dst, .makeInterface t x, ty, pos, aft, gd⟩ = .mk f) (h : f e m c = true) : OpR P q ⟨dst, .makeInterface t x, ty, pos, aft, gd⟩ e m c := by
  have hk : ∀ k, (ti q.E t).k = k → k ≠ .no → k ≠ .ifc → op1 q x (fun v m c => c (.ifc t v) m) = .mk f → OpR P q ⟨dst, .makeInterface t x, ty, pos, aft, gd⟩ e m c := fun k hk h1 h2 hf => by
    have g2 := op1_ok hq hf h
    refine .a0 _ rfl g2 fun m' w0 ρ a w hs => ⟨.iface t (a.eval x), ?_, by simp only [VR]; exact ⟨_, rfl, hs.ev _ (by simp [Op.operands])⟩⟩
    obtain ⟨d, hd, hkr⟩ := (kn_ok hE hk h1).desc
    have hnd : ∀ ms, d ≠ .interface ms := fun ms e => by
      subst e
      rw [hk] at hkr
      cases k <;> simp_all [kR]
    simp only [execOp, Instr.makeInterface, Sem.run_bind, run_underlying hd, Result.andThen_ok]
    cases d <;> first | rfl | exact absurd rfl (hnd _)
  have hf : trIfc q t x = .mk f := hf
  simp only [trIfc] at hf
  split at hf
  · exact (bad_ok hf h).elim
  · exact (bad_ok hf h).elim
  · rename_i h1 h2
    exact hk _ rfl (fun e => h2 e) (fun e => h1 e) hf
theorem op_fn (hq : CxOK q) {g : FuncId} {fs cs : Array Operand} (hf : trOp q ⟨dst, .makeFunc (.func g) fs cs, ty, pos, aft, gd⟩ = .mk f) (h : f e m c = true) : OpR P q ⟨dst, .makeFunc (.func g) fs cs, ty, pos, aft, gd⟩ e m c := by
  have hf : trFn q g fs cs = .mk f := hf
  simp only [trFn, accL_eq hq, unb_mk, Box.mk.injEq] at hf
  subst hf
  refine .a0 _ rfl h fun m' w0 ρ a w hs => ⟨.func (.func g) (fs.map a.eval) (cs.map a.eval), by simp [execOp, Instr.makeFunc], ?_⟩
  simp only [VR]
  exact ⟨_, _, by simp [← Array.toList_map], hs.evL (by simp [Op.operands]; intro x hx; exact .inl hx), hs.evL (by simp [Op.operands]; intro x hx; exact .inr hx)⟩
theorem op_extract (hq : CxOK q) {x : Operand} {k : Nat} (hf : trOp q ⟨dst, .extract x k, ty, pos, aft, gd⟩ = .mk f) (h : f e m c = true) : OpR P q ⟨dst, .extract x k, ty, pos, aft, gd⟩ e m c := by
  have hf : trExtract q x k = .mk f := hf
  unfold trExtract at hf
  have h2 := op1_ok hq hf h
  split at h2
  · rename_i l hl
    obtain ⟨v, h3, h4⟩ := nth_ok h2
    refine .a0 _ rfl h4 fun m' w0 ρ a w hs => ?_
    have hv := hs.ev x (by simp [Op.operands])
    rw [hl] at hv
    simp only [VR] at hv
    obtain ⟨xs, g1, g2⟩ := hv
    obtain ⟨y, g3, g4⟩ := g2.get h3
    exact ⟨y, by simp [execOp, Instr.extract, g1, g3], g4⟩
  · cases h2
theorem op_nil (hq : CxOK q) {x : Operand} (hf : trOp q ⟨dst, .nilCheck x, ty, pos, aft, gd⟩ = .mk f) (h : f e m c = true) : OpR P q ⟨dst, .nilCheck x, ty, pos, aft, gd⟩ e m c := by
  have hf : trNil q x = .mk f := hf
  unfold trNil at hf
  have h2 := op1_ok hq hf h
  split at h2 <;> first | (cases h2; done) | skip
  rename_i a' o' hl
  refine .a0 _ rfl h2 fun m' w0 ρ a w hs => ?_
  have hv := hs.ev x (by simp [Op.operands])
  have hv0 := hv
  rw [hl] at hv
  simp only [VR] at hv
  obtain ⟨r, b, N, g1, g2⟩ := hv
  exact ⟨a.eval x, by simp [execOp, g2], hv0⟩
end
end Go.It
