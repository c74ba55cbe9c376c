/- An evaluator of Go functions whose values are known: the values, the heap, the run. -/
import Derived.Calls
namespace Go.Ev
noncomputable section

/-- abstract values: undefined, poison, leaves, addresses (block, offset), slices (block, offset, length, capacity, cells of an element, is the capacity exact), functions, aggregates, tuples, a map, other constants -/
inductive V where
  | u
  | z
  | b (x : Bool)
  | i (k : IntKind) (n : Int)
  | s (x : List Nat)
  | pn
  | p (x o : Nat)
  | sn
  | sl (x o l c sz : Nat) (ex : Bool)
  | fn (f : Nat) (first cap : List V)
  | a (cs : List V)
  | t (vs : List V)
  | m
  | c (v : Value)
  deriving Inhabited

/-- the cells of a value that can be stored -/
def V.cells? : V → Option (List V)
  | .a cs => some cs
  | .t _ => none
  | .u => none
  | .z => none
  | w => some [w]

inductive T (α : Type) where
  | e
  | n (l : T α) (v : Option α) (r : T α)
  deriving Inhabited

noncomputable def T.get {α : Type} (t : T α) : Nat → Option α := T.rec (motive := fun _ => Nat → Option α) (fun _ => none) (fun _ v _ gl gr k =>
  Bool.rec (Bool.rec (gr (Nat.pred (Nat.div k (nat_lit 2)))) (gl (Nat.div k (nat_lit 2))) (Nat.beq (Nat.mod k (nat_lit 2)) (nat_lit 1))) v (Nat.beq k (nat_lit 0))) t

noncomputable def T.setF {α : Type} (x : α) (f : Nat) : T α → Nat → T α := Nat.rec (motive := fun _ => T α → Nat → T α) (fun t _ => t)
  (fun _ ih t k => T.rec (motive := fun _ => T α)
    (Bool.rec (Bool.rec (.n .e none (ih .e (Nat.pred (Nat.div k (nat_lit 2))))) (.n (ih .e (Nat.div k (nat_lit 2))) none .e)  (Nat.beq (Nat.mod k (nat_lit 2)) (nat_lit 1))) (.n .e (some x) .e) (Nat.beq k (nat_lit 0)))
    (fun l v r _ _ => Bool.rec (Bool.rec (.n l v (ih r (Nat.pred (Nat.div k (nat_lit 2))))) (.n (ih l (Nat.div k (nat_lit 2))) v r)  (Nat.beq (Nat.mod k (nat_lit 2)) (nat_lit 1))) (.n l (some x) r) (Nat.beq k (nat_lit 0)))  t) f

noncomputable def T.set {α : Type} (t : T α) (k : Nat) (x : α) : T α := T.setF x (Nat.succ k) t k

abbrev Env := T V

inductive O where
  | t (n : Nat)
  | k (v : V)
  deriving Inhabited

def O.ev (env : Env) : O → Option V
  | .t n => env.get n
  | .k v => some v

def evs (env : Env) : List O → Option (List V)
  | [] => some []
  | o :: os => match o.ev env with
    | none => none
    | some v => match evs env os with
      | none => none
      | some vs => some (v :: vs)

structure Blk where
  cells : List V
  grp : Nat
  dl : Nat
  deriving Inhabited

structure H where
  nb : Nat
  bl : T Blk
  gr : T (List Nat)
  deriving Inhabited

def H.alloc (h : H) (cells : List V) : H := { nb := h.nb + 1, bl := h.bl.set h.nb ⟨cells, h.nb, 0⟩, gr := h.gr }

def nth {α : Type} : List α → Nat → Option α
  | [], _ => none
  | x :: xs, n => bif Nat.beq n 0 then some x else nth xs (n - 1)

/-- overwrite cells from index n on -/
def putN {α : Type} : List α → Nat → List α → List α
  | [], _, _ => []
  | x :: xs, n, l => bif Nat.beq n 0 then (match l with
      | [] => x :: xs
      | y :: ys => y :: putN xs 0 ys) else x :: putN xs (n - 1) l

def dropN {α : Type} : List α → Nat → List α
  | [], _ => []
  | x :: xs, n => bif Nat.beq n 0 then x :: xs else dropN xs (n - 1)

def len {α : Type} : List α → Nat
  | [] => 0
  | _ :: xs => len xs + 1

/-- the first n cells, if there are so many and none is poisoned -/
def takeC : List V → Nat → Option (List V)
  | [], n => bif Nat.beq n 0 then some [] else none
  | x :: xs, n => bif Nat.beq n 0 then some [] else
    match x with
    | .z => none
    | x => match takeC xs (n - 1) with
      | none => none
      | some r => some (x :: r)

def H.ldn (h : H) (b o n : Nat) : Option (List V) :=
  match h.bl.get b with
  | none => none
  | some k => takeC (dropN k.cells o) n

def H.ld1 (h : H) (b o : Nat) : Option V :=
  match h.bl.get b with
  | none => none
  | some k => match nth k.cells o with
    | some .z => none
    | r => r

def zs : Nat → List V
  | 0 => []
  | n + 1 => .z :: zs n

/-- poison, in a block, the cells at the group's positions [pos, pos + n) -/
def poisonB (k : Blk) (pos n : Nat) : Blk :=
  bif Nat.ble k.dl pos then ⟨putN k.cells (pos - k.dl) (zs n), k.grp, k.dl⟩
  else ⟨putN k.cells 0 (zs (pos + n - k.dl)), k.grp, k.dl⟩

def poisonL (skip pos n : Nat) : List Nat → T Blk → T Blk
  | [], bl => bl
  | b :: bs, bl =>
    bif Nat.beq b skip then poisonL skip pos n bs bl else
    match bl.get b with
    | none => poisonL skip pos n bs bl
    | some k => poisonL skip pos n bs (bif Nat.ble (k.dl + len k.cells) pos || Nat.ble (pos + n) k.dl then bl else bl.set b (poisonB k pos n))

/-- a block whose place in its group is so far off is only read -/
def roC : Nat := 1152921504606846976

def H.stn (h : H) (b o : Nat) (vs : List V) : Option H :=
  match h.bl.get b with
  | none => none
  | some k =>
    bif Nat.ble (o + len vs) (len k.cells) && Nat.blt k.dl roC then
      match h.gr.get k.grp with
      | none => some ⟨h.nb, h.bl.set b ⟨putN k.cells o vs, k.grp, k.dl⟩, h.gr⟩
      | some l => some ⟨h.nb, poisonL b (k.dl + o) (len vs) (k.grp :: l) (h.bl.set b ⟨putN k.cells o vs, k.grp, k.dl⟩), h.gr⟩
    else none

inductive AOp where
  | add | sub | mul | quo | rem | and | or | xor | shl | shr | andNot | eql | neq | lss | leq | gtr | geq
  deriving Inhabited, DecidableEq

def ltB (a b : Int) : Bool := match a with
  | .ofNat x => match b with
    | .ofNat y => Nat.ble (x + 1) y
    | .negSucc _ => false
  | .negSucc x => match b with
    | .ofNat _ => true
    | .negSucc y => Nat.ble (y + 1) x

def eqB (a b : Int) : Bool := match a with
  | .ofNat x => match b with
    | .ofNat y => Nat.beq x y
    | .negSucc _ => false
  | .negSucc x => match b with
    | .ofNat _ => false
    | .negSucc y => Nat.beq x y

def kmax (k : IntKind) : Nat := match k with
  | .i8 => 127 | .i16 => 32767 | .i32 => 2147483647 | .i64 => 9223372036854775807
  | .u8 => 255 | .u16 => 65535 | .u32 => 4294967295 | .u64 => 18446744073709551615

def ksgn (k : IntKind) : Bool := match k with
  | .i8 => true | .i16 => true | .i32 => true | .i64 => true
  | _ => false

def wrapB (k : IntKind) (n : Int) : Int := match n with
  | .ofNat x => bif Nat.ble x (kmax k) then n else k.wrap n
  | .negSucc x => bif ksgn k && Nat.ble x (kmax k) then n else k.wrap n

/-- nonnegative operands alone -/
def bitB (op : AOp) (x y : Nat) : Option Nat := match op with
  | .and => some (Nat.land x y)
  | .or => some (Nat.lor x y)
  | .xor => some (Nat.xor x y)
  | .andNot => some (Nat.xor x (Nat.land x y))
  | _ => none

def kbits : IntKind → Nat
  | .i8 => 8 | .u8 => 8 | .i16 => 16 | .u16 => 16 | .i32 => 32 | .u32 => 32 | .i64 => 64 | .u64 => 64

def knum : IntKind → Nat
  | .i8 => 0 | .i16 => 1 | .i32 => 2 | .i64 => 3 | .u8 => 4 | .u16 => 5 | .u32 => 6 | .u64 => 7

def ksame (j k : IntKind) : Bool := Nat.beq (knum j) (knum k)

def bitOp (op : AOp) (k : IntKind) (x y : Int) : Option V :=
  match x with
  | .negSucc _ => none
  | .ofNat x => match y with
    | .negSucc _ => none
    | .ofNat y => bif Nat.ble x (kmax k) && Nat.ble y (kmax k) then
        match bitB op x y with
        | some r => some (.i k (.ofNat r))
        | none => none
      else none

def shl1 (k : IntKind) (x y : Int) : Option V :=
  match y with
  | .negSucc _ => none
  | .ofNat y => some (.i k (wrapB k (x * 2 ^ (bif Nat.ble y (kbits k) then y else kbits k))))

def shr1 (k : IntKind) (x y : Int) : Option V :=
  match y with
  | .negSucc _ => none
  | .ofNat y => match x with
    | .ofNat a => some (.i k (.ofNat (a / 2 ^ (bif Nat.ble y (kbits k) then y else kbits k))))
    | .negSucc a => some (.i k ((Int.negSucc a).fdiv (2 ^ (bif Nat.ble y (kbits k) then y else kbits k))))

def intOp (op : AOp) (k : IntKind) (x y : Int) : Option V :=
  match op with
  | .add => some (.i k (wrapB k (x + y)))
  | .sub => some (.i k (wrapB k (x - y)))
  | .mul => some (.i k (wrapB k (x * y)))
  | .quo => bif eqB y 0 then none else some (.i k (wrapB k (x.tdiv y)))
  | .rem => bif eqB y 0 then none else some (.i k (x.tmod y))
  | .eql => some (.b (eqB x y))
  | .neq => some (.b (!eqB x y))
  | .lss => some (.b (ltB x y))
  | .leq => some (.b (!ltB y x))
  | .gtr => some (.b (ltB y x))
  | .geq => some (.b (!ltB x y))
  | .shl => none
  | .shr => none
  | op => bitOp op k x y

def eqS : List Nat → List Nat → Bool
  | [], [] => true
  | a :: x, b :: y => Nat.beq a b && eqS x y
  | _, _ => false

def ltS : List Nat → List Nat → Bool
  | _, [] => false
  | [], _ :: _ => true
  | a :: x, b :: y => Nat.ble (a + 1) b || (Nat.beq a b && ltS x y)

def app {α : Type} : List α → List α → List α
  | [], y => y
  | a :: x, y => a :: app x y

def strOp (op : AOp) (x y : List Nat) : Option V :=
  match op with
  | .add => bif Nat.ble (len x + len y) 4294967295 then some (.s (app x y)) else none
  | .eql => some (.b (eqS x y))
  | .neq => some (.b (!eqS x y))
  | .lss => some (.b (ltS x y))
  | .leq => some (.b (ltS x y || eqS x y))
  | .gtr => some (.b (!(ltS x y || eqS x y)))
  | .geq => some (.b (!ltS x y))
  | _ => none

def boolOp (op : AOp) (x y : Bool) : Option V :=
  match op with
  | .eql => some (.b (x == y))
  | .neq => some (.b (x != y))
  | _ => none

def isSh (op : AOp) : Bool := match op with
  | .shl => true
  | .shr => true
  | _ => false

def intOps (op : AOp) (k : IntKind) (x : Int) (k' : IntKind) (y : Int) : Option V :=
  match op with
  | .shl => shl1 k x y
  | .shr => shr1 k x y
  | op => bif ksame k k' then intOp op k x y else none

def evBin (op : AOp) (x y : O) (env : Env) : Option V :=
  match x.ev env with
  | none => none
  | some x => match y.ev env with
    | none => none
    | some y => match x with
      | .i k a => match y with
        | .i k' b => intOps op k a k' b
        | _ => none
      | .s a => match y with
        | .s b => strOp op a b
        | _ => none
      | _ => none

def evBinB (op : AOp) (x y : O) (env : Env) : Option V :=
  match x.ev env with
  | some (.b a) => match y.ev env with
    | some (.b b) => boolOp op a b
    | _ => none
  | _ => none

/-- kinds of plain cells -/
inductive Kd where
  | b | i | s
  deriving Inhabited

/-- equality of structs and arrays of plain cells -/
def eqCell (k : Kd) (x y : V) : Option Bool := match k with
  | .i => match x with
    | .i k a => match y with
      | .i k' b => bif ksame k k' then some (eqB a b) else none
      | _ => none
    | _ => none
  | .s => match x with
    | .s a => match y with
      | .s b => some (eqS a b)
      | _ => none
    | _ => none
  | .b => match x with
    | .b a => match y with
      | .b b => some (a == b)
      | _ => none
    | _ => none

def eqCells : List Kd → List V → List V → Option Bool
  | [], _, _ => some true
  | k :: ks, x, y => match x with
    | [] => none
    | a :: x => match y with
      | [] => none
      | b :: y => match eqCell k a b with
        | some r => bif r then eqCells ks x y else some false
        | none => none

mutual
def V.eqv : V → V → Bool
  | .b x, .b y => x == y
  | .i k x, .i k' y => ksame k k' && eqB x y
  | .s x, .s y => eqS x y
  | .pn, .pn => true
  | .p x o, .p x' o' => Nat.beq x x' && Nat.beq o o'
  | .sn, .sn => true
  | .sl x o l k q r, .sl x' o' l' k' q' r' => Nat.beq x x' && Nat.beq o o' && Nat.beq l l' && Nat.beq k k' && Nat.beq q q' && (r == r')
  | .a x, .a y => V.eqvs x y
  | .u, .u => true
  | _, _ => false
def V.eqvs : List V → List V → Bool
  | [], [] => true
  | x1 :: x, y1 :: y => V.eqv x1 y1 && V.eqvs x y
  | _, _ => false
end

def natOf : V → Option Nat
  | .i _ n => match n with
    | .ofNat n => some n
    | .negSucc _ => none
  | _ => none

def O.nat (env : Env) (o : O) : Option Nat := match o.ev env with
  | none => none
  | some v => natOf v

def optNat (env : Env) (d : Nat) : Option O → Option Nat
  | none => some d
  | some o => o.nat env

def O.cells (env : Env) (o : O) : Option (List V) := match o.ev env with
  | some (.a cs) => some cs
  | _ => none

/-- place parts into cells -/
def fillP (env : Env) : List V → List (Nat × Nat × O) → Option (List V)
  | cells, [] => some cells
  | cells, p :: ps => match p.2.2.ev env with
    | none => none
    | some v => match v.cells? with
      | none => none
      | some cs => bif Nat.beq (len cs) p.2.1 && Nat.ble (p.1 + p.2.1) (len cells) then fillP env (putN cells p.1 cs) ps else none

def repl : Nat → List V → List V
  | 0, _ => []
  | n + 1, z => app z (repl n z)

def chars : List Nat → List V
  | [] => []
  | n :: l => .i .u8 (.ofNat n) :: chars l

def unchars : List V → Option (List Nat)
  | [] => some []
  | v :: vs => match v with
    | .i .u8 n => match n with
      | .ofNat n => bif Nat.ble n 255 then (match unchars vs with
        | some l => some (n :: l)
        | none => none) else none
      | .negSucc _ => none
    | _ => none

def takeN {α : Type} : List α → Nat → List α
  | [], _ => []
  | x :: xs, n => bif Nat.beq n 0 then [] else x :: takeN xs (n - 1)

abbrev Call := Nat → List V → H → Option (V × H)

/-! pure operations -/

def evPick (c a b : O) (env : Env) : Option V := match c.ev env with
  | some (.b x) => (bif x then a else b).ev env
  | _ => none

def evBuild (z : List V) (ps : List (Nat × Nat × O)) (env : Env) : Option V := match fillP env z ps with
  | some cs => some (.a cs)
  | none => none

def evNil (x : O) (env : Env) : Option V := match x.ev env with
  | some (.p b o) => some (.p b o)
  | _ => none

def evFa (off : Nat) (x : O) (env : Env) : Option V := match x.ev env with
  | some (.p b o) => some (.p b (o + off))
  | _ => none

def evFld1 (off : Nat) (x : O) (env : Env) : Option V := match x.cells env with
  | some cs => nth cs off
  | _ => none

def evFldn (off n : Nat) (x : O) (env : Env) : Option V := match x.cells env with
  | some cs => bif Nat.ble (off + n) (len cs) then some (.a (takeN (dropN cs off) n)) else none
  | _ => none

def evIxS (sz : Nat) (x i : O) (env : Env) : Option V := match x.ev env with
  | some (.sl b o l _ sz' _) => match i.nat env with
    | some i => bif Nat.beq sz sz' && Nat.ble (i + 1) l then some (.p b (o + i * sz)) else none
    | none => none
  | _ => none

def evIxA (n sz : Nat) (x i : O) (env : Env) : Option V := match x.ev env with
  | some (.p b o) => match i.nat env with
    | some i => bif Nat.ble (i + 1) n then some (.p b (o + i * sz)) else none
    | none => none
  | _ => none

def evIdA1 (n : Nat) (x i : O) (env : Env) : Option V := match x.cells env with
  | some cs => match i.nat env with
    | some i => bif Nat.ble (i + 1) n then nth cs i else none
    | none => none
  | _ => none

def evIdAn (n sz : Nat) (x i : O) (env : Env) : Option V := match x.cells env with
  | some cs => match i.nat env with
    | some i => bif Nat.ble (i + 1) n && Nat.ble (i * sz + sz) (len cs) then some (.a (takeN (dropN cs (i * sz)) sz)) else none
    | none => none
  | _ => none

def evIdStr (x i : O) (env : Env) : Option V := match x.ev env with
  | some (.s s) => match i.nat env with
    | some i => match nth s i with
      | some c => some (.i .u8 (.ofNat c))
      | none => none
    | none => none
  | _ => none

def evEqA (ks : List Kd) (neg : Bool) (x y : O) (env : Env) : Option V := match x.cells env with
  | some a => match y.cells env with
    | some b => bif Nat.beq (len a) (len ks) && Nat.beq (len b) (len ks) then match eqCells ks a b with
        | some r => some (.b (r != neg))
        | none => none
      else none
    | _ => none
  | _ => none

def evEqNil (neg : Bool) (x : O) (env : Env) : Option V := match x.ev env with
  | some .sn => some (.b (!neg))
  | some (.sl ..) => some (.b neg)
  | _ => none

def evUn (op : UnOp) (x : O) (env : Env) : Option V := match x.ev env with
  | some (.b x) => match op with
    | .not => some (.b (!x))
    | _ => none
  | some (.i k n) => match op with
    | .neg => some (.i k (wrapB k (0 - n)))
    | .xor => match n with
      | .ofNat n => bif !ksgn k && Nat.ble n (kmax k) then some (.i k (.ofNat (kmax k - n))) else none
      | .negSucc _ => none
    | _ => none
  | _ => none

def evCvt (k : IntKind) (x : O) (env : Env) : Option V := match x.ev env with
  | some (.i _ n) => some (.i k (wrapB k n))
  | _ => none

def lenSl : V → Nat
  | .sl _ _ l _ _ _ => l
  | _ => 0

def sliceS (x : V) (sz lo hi : Nat) : Option V :=
  match x with
  | .sn => bif Nat.beq lo 0 && Nat.beq hi 0 then some .sn else none
  | .sl b o _ c sz' ex =>
    bif Nat.beq sz sz' && Nat.ble lo hi && Nat.ble hi c then some (.sl b (o + lo * sz) (hi - lo) (c - lo) sz ex) else none
  | _ => none

def sliceS3 (x : V) (sz lo hi m : Nat) : Option V :=
  match x with
  | .sn => bif Nat.beq lo 0 && Nat.beq hi 0 && Nat.beq m 0 then some .sn else none
  | .sl b o _ c sz' _ =>
    bif Nat.beq sz sz' && Nat.ble lo hi && Nat.ble hi m && Nat.ble m c then some (.sl b (o + lo * sz) (hi - lo) (m - lo) sz true) else none
  | _ => none

def evSlS (sz : Nat) (x : O) (lo hi : Option O) (env : Env) : Option V := match x.ev env with
  | some v => match optNat env 0 lo with
    | some lo => match optNat env (lenSl v) hi with
      | some hi => sliceS v sz lo hi
      | none => none
    | none => none
  | none => none

def evSlS3 (sz : Nat) (x : O) (lo : Option O) (hi m : O) (env : Env) : Option V := match x.ev env with
  | some v => match optNat env 0 lo with
    | some lo => match hi.nat env with
      | some hi => match m.nat env with
        | some m => sliceS3 v sz lo hi m
        | none => none
      | none => none
    | none => none
  | none => none

def evSlStr (x : O) (lo hi : Option O) (env : Env) : Option V := match x.ev env with
  | some (.s l) => match optNat env 0 lo with
    | some lo => match optNat env (len l) hi with
      | some hi => bif Nat.ble lo hi && Nat.ble hi (len l) then some (.s (takeN (dropN l lo) (hi - lo))) else none
      | none => none
    | none => none
  | _ => none

def evMkf (f : Nat) (first cap : List O) (env : Env) : Option V := match evs env first with
  | some a => match evs env cap with
    | some b => some (.fn f a b)
    | none => none
  | none => none

def evLen (x : O) (env : Env) : Option V := match x.ev env with
  | some .sn => some (.i .i64 0)
  | some (.sl _ _ l _ _ _) => some (.i .i64 (.ofNat l))
  | _ => none

def evLenS (x : O) (env : Env) : Option V := match x.ev env with
  | some (.s l) => some (.i .i64 (.ofNat (len l)))
  | _ => none

def evCap (x : O) (env : Env) : Option V := match x.ev env with
  | some .sn => some (.i .i64 0)
  | some (.sl _ _ _ c _ ex) => bif ex then some (.i .i64 (.ofNat c)) else none
  | _ => none

def minV : V → V → Option V
  | .i k x, .i _ y => some (.i k (bif ltB y x then y else x))
  | _, _ => none
def maxV : V → V → Option V
  | .i k x, .i _ y => some (.i k (bif ltB x y then y else x))
  | _, _ => none
def foldV (f : V → V → Option V) : V → List V → Option V
  | x, [] => some x
  | x, y :: ys => match f x y with
    | some q => foldV f q ys
    | none => none

def evMm (f : V → V → Option V) (xs : List O) (env : Env) : Option V := match evs env xs with
  | some (x :: ys) => foldV f x ys
  | _ => none

def evExt (x : O) (i : Nat) (env : Env) : Option V := match x.ev env with
  | some (.t vs) => nth vs i
  | _ => none

inductive PC where
  | mv (x : O)
  | pick (c a b : O)
  | build (zero : List V) (parts : List (Nat × Nat × O))
  | nilck (x : O)
  | fa (off : Nat) (x : O)
  | fld1 (off : Nat) (x : O)
  | fldn (off n : Nat) (x : O)
  | ixS (sz : Nat) (x i : O)
  | ixA (n sz : Nat) (x i : O)
  | idA1 (n : Nat) (x i : O)
  | idAn (n sz : Nat) (x i : O)
  | idStr (x i : O)
  | bin (op : AOp) (x y : O)
  | binB (op : AOp) (x y : O)
  | eqA (ks : List Kd) (neg : Bool) (x y : O)
  | eqNil (neg : Bool) (x : O)
  | un (op : UnOp) (x : O)
  | cvt (k : IntKind) (x : O)
  | slS (sz : Nat) (x : O) (lo hi : Option O)
  | slS3 (sz : Nat) (x : O) (lo : Option O) (hi m : O)
  | slStr (x : O) (lo hi : Option O)
  | mkf (f : Nat) (first cap : List O)
  | len (x : O)
  | lenS (x : O)
  | lenC (n : Nat)
  | cap (x : O)
  | mn (xs : List O)
  | mx (xs : List O)
  | ext (x : O) (i : Nat)
  deriving Inhabited

def evP (op : PC) (env : Env) : Option V := match op with
  | .mv x => x.ev env
  | .pick c a b => evPick c a b env
  | .build z ps => evBuild z ps env
  | .nilck x => evNil x env
  | .fa off x => evFa off x env
  | .fld1 off x => evFld1 off x env
  | .fldn off n x => evFldn off n x env
  | .ixS sz x i => evIxS sz x i env
  | .ixA n sz x i => evIxA n sz x i env
  | .idA1 n x i => evIdA1 n x i env
  | .idAn n sz x i => evIdAn n sz x i env
  | .idStr x i => evIdStr x i env
  | .bin op x y => evBin op x y env
  | .binB op x y => evBinB op x y env
  | .eqA ks neg x y => evEqA ks neg x y env
  | .eqNil neg x => evEqNil neg x env
  | .un op x => evUn op x env
  | .cvt k x => evCvt k x env
  | .slS sz x lo hi => evSlS sz x lo hi env
  | .slS3 sz x lo hi m => evSlS3 sz x lo hi m env
  | .slStr x lo hi => evSlStr x lo hi env
  | .mkf f a b => evMkf f a b env
  | .len x => evLen x env
  | .lenS x => evLenS x env
  | .lenC n => some (.i .i64 (.ofNat n))
  | .cap x => evCap x env
  | .mn xs => evMm minV xs env
  | .mx xs => evMm maxV xs env
  | .ext x i => evExt x i env

/-! loads -/

def srcCells (h : H) (sz : Nat) : V → Option (Nat × List V)
  | .sn => some (0, [])
  | .sl b o l _ sz' _ =>
    bif Nat.beq sz sz' then
      bif Nat.beq l 0 then some (0, []) else
      match h.ldn b o (l * sz) with
      | some cs => some (l, cs)
      | none => none
    else none
  | _ => none

def evLd1 (a : O) (env : Env) (h : H) : Option V := match a.ev env with
  | some (.p b o) => h.ld1 b o
  | _ => none

def evLdn (n : Nat) (a : O) (env : Env) (h : H) : Option V := match a.ev env with
  | some (.p b o) => match h.ldn b o n with
    | some cs => some (.a cs)
    | none => none
  | _ => none

def evB2s (x : O) (env : Env) (h : H) : Option V := match x.ev env with
  | some v => match srcCells h 1 v with
    | some r => match unchars r.2 with
      | some l => some (.s l)
      | none => none
    | none => none
  | none => none

def evSlA (n sz : Nat) (x : O) (lo hi : Option O) (env : Env) (h : H) : Option V := match x.ev env with
  | some (.p b o) => match optNat env 0 lo with
    | some lo => match optNat env n hi with
      | some hi => match h.bl.get b with
        | some k => bif Nat.ble lo hi && Nat.ble hi n && Nat.ble 1 sz && Nat.ble (o + n * sz) (len k.cells) then some (.sl b (o + lo * sz) (hi - lo) (n - lo) sz true) else none
        | none => none
      | none => none
    | none => none
  | _ => none

inductive LC where
  | ld1 (a : O)
  | ldn (n : Nat) (a : O)
  | b2s (x : O)
  | slA (n sz : Nat) (x : O) (lo hi : Option O)
  deriving Inhabited

def evL (op : LC) (env : Env) (h : H) : Option V := match op with
  | .ld1 a => evLd1 a env h
  | .ldn n a => evLdn n a env h
  | .b2s x => evB2s x env h
  | .slA n sz x lo hi => evSlA n sz x lo hi env h

/-! operations that make memory -/

inductive AR where
  | p
  | s (l c sz : Nat) (ex : Bool)
  deriving Inhabited

def AR.at (b : Nat) : AR → V
  | .p => .p b 0
  | .s l c sz ex => .sl b 0 l c sz ex

inductive AC where
  | box (x : O)
  | alloc (zero : List V)
  | buildSl (sz n : Nat) (cells : List V) (parts : List (Nat × Nat × O))
  | mkSl (sz bytes : Nat) (zero : List V) (l c : O)
  | s2b (x : O)
  deriving Inhabited

def evBox (x : O) (env : Env) : Option (List V × AR) := match x.ev env with
  | some v => match v.cells? with
    | some cs => some (cs, .p)
    | none => none
  | none => none

def evBuildSl (sz n : Nat) (z : List V) (ps : List (Nat × Nat × O)) (env : Env) : Option (List V × AR) := match fillP env z ps with
  | some cs => some (cs, .s n n sz true)
  | none => none

def evMkSl (sz bytes : Nat) (z : List V) (l c : O) (env : Env) : Option (List V × AR) := match l.nat env with
  | some l => match c.nat env with
    | some c => bif Nat.ble l c && Nat.ble (bytes * c) 281474976710656 && Nat.ble c 4294967295 then some (repl c z, .s l c sz true) else none
    | none => none
  | none => none

def evS2b (x : O) (env : Env) : Option (List V × AR) := match x.ev env with
  | some (.s l) => some (chars l, .s (len l) (len l) 1 false)
  | _ => none

def evA (op : AC) (env : Env) : Option (List V × AR) := match op with
  | .box x => evBox x env
  | .alloc z => some (z, .p)
  | .buildSl sz n z ps => evBuildSl sz n z ps env
  | .mkSl sz by_ z l c => evMkSl sz by_ z l c env
  | .s2b x => evS2b x env

/-! operations that act -/

def memOf : Option (List Nat) → List Nat
  | none => []
  | some m => m

/-- append new cells (n elements) to a slice -/
def H.append (h : H) (x : V) (sz bytes n : Nat) (new : List V) : Option (V × H) :=
  bif Nat.beq n 0 then (match x with
    | .sn => some (x, h)
    | .sl .. => some (x, h)
    | _ => none) else
  match x with
  | .sn =>
    bif Nat.ble (n * bytes) 140737488355328 && Nat.ble n 4294967295 then some (.sl h.nb 0 n n sz false, h.alloc new)
    else none
  | .sl b o l c sz' ex =>
    bif Nat.beq sz sz' then
      bif Nat.ble (l + n) c then
        match h.stn b (o + l * sz) new with
        | some h => some (.sl b o (l + n) c sz ex, h)
        | none => none
      else
        bif Nat.ble ((l + n) * bytes) 140737488355328 && Nat.ble (l + n) 4294967295 then
        match (bif Nat.beq l 0 then some [] else h.ldn b o (l * sz)) with
        | none => none
        | some old =>
          bif ex then some (.sl h.nb 0 (l + n) (l + n) sz false, h.alloc (app old new))
          else
            match h.bl.get b with
            | none => none
            | some k =>
              bif Nat.ble roC k.dl then none else
              let mem := memOf (h.gr.get k.grp)
              some (.sl h.nb 0 (l + n) (l + n) sz false,
                ⟨h.nb + 1, (poisonL h.nb (k.dl + (o + l * sz)) (n * sz) (k.grp :: mem) h.bl).set h.nb ⟨app old new, k.grp, k.dl + o⟩, h.gr.set k.grp (h.nb :: mem)⟩)
        else none
    else none
  | _ => none

inductive EC where
  | st1 (a x : O)
  | stn (n : Nat) (a x : O)
  | call (f : Nat) (args : List O)
  | callv (x : O) (args : List O)
  | appS (sz bytes : Nat) (x y : O)
  | appStr (bytes : Nat) (x y : O)
  | appZ (sz bytes : Nat) (zero : List V) (x n : O)
  | copyS (sz : Nat) (x y : O)
  | copyStr (x y : O)
  | clr (sz : Nat) (z : List V) (x : O)
  | mkMap
  deriving Inhabited

def evSt1 (a x : O) (env : Env) (h : H) : Option (V × H) := match a.ev env with
  | some (.p b o) => match x.ev env with
    | some (.a _) => none
    | some (.t _) => none
    | some .u => none
    | some .z => none
    | some v => match h.stn b o [v] with
      | some h => some (.u, h)
      | none => none
    | none => none
  | _ => none

def evStn (n : Nat) (a x : O) (env : Env) (h : H) : Option (V × H) := match a.ev env with
  | some (.p b o) => match x.cells env with
    | some cs => bif Nat.beq (len cs) n then match h.stn b o cs with
        | some h => some (.u, h)
        | none => none
      else none
    | none => none
  | _ => none

def evCall (call : Call) (f : Nat) (args : List O) (env : Env) (h : H) : Option (V × H) := match evs env args with
  | some vs => call f vs h
  | none => none

def evCallv (call : Call) (x : O) (args : List O) (env : Env) (h : H) : Option (V × H) := match x.ev env with
  | some (.fn f first cap) => match evs env args with
    | some vs => call f (app first (app vs cap)) h
    | none => none
  | _ => none

def evAppS (sz bytes : Nat) (x y : O) (env : Env) (h : H) : Option (V × H) := match x.ev env with
  | some x => match y.ev env with
    | some y => match srcCells h sz y with
      | some r => h.append x sz bytes r.1 r.2
      | none => none
    | none => none
  | none => none

def evAppStr (bytes : Nat) (x y : O) (env : Env) (h : H) : Option (V × H) := match x.ev env with
  | some x => match y.ev env with
    | some (.s l) => h.append x 1 bytes (len l) (chars l)
    | _ => none
  | none => none

def evAppZ (sz bytes : Nat) (z : List V) (x n : O) (env : Env) (h : H) : Option (V × H) := match x.ev env with
  | some x => match n.nat env with
    | some n => bif Nat.ble (n * bytes) 140737488355328 && Nat.ble n 4294967295 then h.append x sz bytes n (repl n z) else none
    | none => none
  | none => none

def goN (n : Nat) : V := .i .i64 (.ofNat n)

def evCopyS (sz : Nat) (x y : O) (env : Env) (h : H) : Option (V × H) := match x.ev env with
  | some (.sl b o l _ sz' _) => match y.ev env with
    | some (.sl b2 o2 l2 _ sz2 _) =>
      bif Nat.beq sz sz' && Nat.beq sz sz2 then
        let n := bif Nat.ble l2 l then l2 else l
        bif Nat.beq n 0 then some (goN 0, h) else
        match h.ldn b2 o2 (n * sz) with
        | some cs => match h.stn b o cs with
          | some h => some (goN n, h)
          | none => none
        | none => none
      else none
    | some .sn => some (goN 0, h)
    | _ => none
  | some .sn => match y.ev env with
    | some (.sl ..) => some (goN 0, h)
    | some .sn => some (goN 0, h)
    | _ => none
  | _ => none

def evCopyStr (x y : O) (env : Env) (h : H) : Option (V × H) := match x.ev env with
  | some (.sl b o l _ sz' _) => match y.ev env with
    | some (.s cs) =>
      bif Nat.beq 1 sz' then
        let n := bif Nat.ble (len cs) l then len cs else l
        bif Nat.beq n 0 then some (goN 0, h) else
        match h.stn b o (chars (takeN cs n)) with
        | some h => some (goN n, h)
        | none => none
      else none
    | _ => none
  | _ => none

def evClr (sz : Nat) (z : List V) (x : O) (env : Env) (h : H) : Option (V × H) := match x.ev env with
  | some .sn => some (.u, h)
  | some (.sl b o l _ sz' _) => bif Nat.beq l 0 then some (.u, h) else
    bif Nat.beq sz sz' then match h.stn b o (repl l z) with
      | some h => some (.u, h)
      | none => none
    else none
  | _ => none

def evE (call : Call) (op : EC) (env : Env) (h : H) : Option (V × H) := match op with
  | .st1 a x => evSt1 a x env h
  | .stn n a x => evStn n a x env h
  | .call f args => evCall call f args env h
  | .callv x args => evCallv call x args env h
  | .appS sz by_ x y => evAppS sz by_ x y env h
  | .appStr by_ x y => evAppStr by_ x y env h
  | .appZ sz by_ z x n => evAppZ sz by_ z x n env h
  | .copyS sz x y => evCopyS sz x y env h
  | .copyStr x y => evCopyStr x y env h
  | .clr sz z x => evClr sz z x env h
  | .mkMap => some (.m, h)

inductive C where
  | P (x : PC)
  | L (x : LC)
  | A (x : AC)
  | E (x : EC)
  deriving Inhabited

def evC (call : Call) (op : C) (env : Env) (h : H) : Option (V × H) := match op with
  | .P x => match evP x env with
    | some v => some (v, h)
    | none => none
  | .L x => match evL x env h with
    | some v => some (v, h)
    | none => none
  | .A x => match evA x env with
    | some r => some (r.2.at h.nb, h.alloc r.1)
    | none => none
  | .E x => evE call x env h

structure CO where
  d : Option Nat
  op : C
  g : Option (Nat × Bool)
  deriving Inhabited

/-! short words -/
namespace S1
def P (d : Nat) (x : PC) : CO := ⟨some d, .P x, none⟩
def L (d : Nat) (x : LC) : CO := ⟨some d, .L x, none⟩
def A (d : Nat) (x : AC) : CO := ⟨some d, .A x, none⟩
def E (d : Nat) (x : EC) : CO := ⟨some d, .E x, none⟩
def S (x : EC) : CO := ⟨none, .E x, none⟩
def m (d s : Nat) : CO := ⟨some d, .P (.mv (.t s)), none⟩
def rp : Nat → V → List V → List V
  | 0, _, l => l
  | n + 1, v, l => v :: rp n v l
end S1

/-- plan item of a drawn region: the operation's number; of a load: how many of the earlier heaps are passed by, and how many are looked into -/
structure PI where
  ix : Nat
  co : CO
  skip : Nat
  back : Nat
  deriving Inhabited

inductive K where
  | skip
  | reg (ops : List CO)
  | dreg (ops : List PI)
  | seq (a b : K)
  | cond (c : O) (a b : K)
  | block (id : Nat) (a : K)
  | loop (a : K)
  | exit (id : Nat)
  | ret
  | bad
  | gc (keep : Nat)
  deriving Inhabited

inductive X where
  | nrm
  | exit (id : Nat)
  | ret
  deriving Inhabited

def putE (env : Env) (d : Option Nat) (v : V) : Env := match d with
  | some d => env.set d v
  | none => env

def wantG (env : Env) : Option (Nat × Bool) → Option Bool
  | none => some true
  | some g => match env.get g.1 with
    | some (.b x) => some (x == g.2)
    | some .u => some false
    | _ => none

def evOps (call : Call) : List CO → Env → H → Option (Env × H)
  | [], env, h => some (env, h)
  | o :: os, env, h => match wantG env o.g with
    | none => none
    | some false => evOps call os (putE env o.d .u) h
    | some true => match evC call o.op env h with
      | none => none
      | some r => evOps call os (putE env o.d r.1) r.2

def recheck (op : LC) (env : Env) (v : V) : Nat → List H → Bool
  | 0, _ => true
  | n + 1, h :: hs => match evL op env h with
    | some v' => V.eqv v v' && recheck op env v n hs
    | none => false
  | _ + 1, [] => false

def evPlan (call : Call) : List PI → Env → H → List H → Option (Env × H)
  | [], env, h, _ => some (env, h)
  | o :: os, env, h, hs => match wantG env o.co.g with
    | none => none
    | some false => match o.co.op with
      | .E _ => evPlan call os (putE env o.co.d .u) h (h :: hs)
      | _ => evPlan call os (putE env o.co.d .u) h hs
    | some true => match evC call o.co.op env h with
      | none => none
      | some r => match o.co.op with
        | .E _ => evPlan call os (putE env o.co.d r.1) r.2 (r.2 :: hs)
        | .L op => bif recheck op env r.1 o.back (dropN hs o.skip) then evPlan call os (putE env o.co.d r.1) r.2 hs else none
        | _ => evPlan call os (putE env o.co.d r.1) r.2 hs

/-- the blocks that values lead to -/
def rootsV : V → List Nat → List Nat
  | .p x _, l => x :: l
  | .sl x _ _ _ _ _, l => x :: l
  | _, l => l

def rootsL : List V → List Nat → List Nat
  | [], l => l
  | v :: vs, l => rootsV v (rootsL vs l)

def rootsD : V → List Nat → List Nat
  | .a cs, l => rootsL cs l
  | .t vs, l => (vs.foldr (fun v l => match v with
    | .a cs => rootsL cs l
    | v => rootsV v l) l)
  | .fn _ a b, l => rootsL a (rootsL b l)
  | v, l => rootsV v l

def rootsT : T V → List Nat → List Nat
  | .e, l => l
  | .n a v b, l => rootsT a (match v with
    | none => rootsT b l
    | some v => rootsD v (rootsT b l))

/-- what is led to, out of a heap -/
def gcGo (bl : T Blk) : Nat → List Nat → T Blk → T Blk
  | 0, _, new => new
  | _ + 1, [], new => new
  | n + 1, b :: bs, new => match new.get b with
    | some _ => gcGo bl n bs new
    | none => match bl.get b with
      | none => gcGo bl n bs new
      | some k => gcGo bl n (rootsL k.cells bs) (new.set b k)

def upTo : Nat → List Nat → List Nat
  | 0, l => l
  | n + 1, l => upTo n (n :: l)

def gcH (keep : Nat) (env : Env) (h : H) : H := ⟨h.nb, gcGo h.bl 100000 (upTo keep (rootsT env [])) .e, h.gr⟩

def iter (f : Env → H → Option (X × Env × H)) : Nat → Env → H → Option (X × Env × H)
  | 0, _, _ => none
  | n + 1, env, h => match f env h with
    | none => none
    | some r => match r.1 with
      | .nrm => iter f n r.2.1 r.2.2
      | _ => some r

def evK (call : Call) (lf : Nat) : K → Env → H → Option (X × Env × H)
  | .skip, env, h => some (.nrm, env, h)
  | .reg ops, env, h => match evOps call ops env h with
    | some r => some (.nrm, r)
    | none => none
  | .dreg ops, env, h => match evPlan call ops env h [h] with
    | some r => some (.nrm, r)
    | none => none
  | .seq a b, env, h => match evK call lf a env h with
    | none => none
    | some r => match r.1 with
      | .nrm => evK call lf b r.2.1 r.2.2
      | _ => some r
  | .cond c a b, env, h => match c.ev env with
    | some (.b x) => bif x then evK call lf a env h else evK call lf b env h
    | _ => none
  | .block id a, env, h => match evK call lf a env h with
    | none => none
    | some r => match r.1 with
      | .exit id' => bif Nat.beq id' id then some (.nrm, r.2) else some r
      | _ => some r
  | .loop a, env, h => iter (evK call lf a) lf env h
  | .exit id, env, h => some (.exit id, env, h)
  | .ret, env, h => some (.ret, env, h)
  | .bad, _, _ => none
  | .gc keep, env, h => some (.nrm, env, gcH keep env h)

inductive R where
  | t (n : Nat)
  | c1 (n : Nat)
  | cn (n sz : Nat)
  deriving Inhabited

def R.ev (env : Env) (h : H) : R → Option V
  | .t n => env.get n
  | .c1 n => evLd1 (.t n) env h
  | .cn n sz => evLdn sz (.t n) env h

def resV (env : Env) (h : H) : List R → Option (List V)
  | [] => some []
  | r :: rs => match r.ev env h with
    | none => none
    | some v => match resV env h rs with
      | none => none
      | some vs => some (v :: vs)

structure F where
  np : Nat
  nt : Nat
  body : K
  res : List R
  deriving Inhabited

def envOf : List V → Nat → Env → Env
  | [], _, env => env
  | v :: vs, n, env => envOf vs (n + 1) (env.set n v)

def packR : List V → V
  | [v] => v
  | [] => .u
  | vs => .t vs

def runF (call : Call) (lf : Nat) (f : F) (args : List V) (h : H) : Option (V × H) :=
  bif Nat.beq (len args) f.np then
    match evK call lf f.body (envOf args 0 .e) h with
    | some r =>
      match r.1 with
      | .exit _ => none
      | _ => match resV r.2.1 r.2.2 f.res with
        | some vs => some (packR vs, r.2.2)
        | none => none
    | none => none
  else none

def ev (tab : Nat → Option F) (lf : Nat) : Nat → Call
  | 0, _, _, _ => none
  | n + 1, f, args, h => match tab f with
    | none => none
    | some fn => runF (ev tab lf n) lf fn args h

end
end Go.Ev
