/- An evaluator of Go functions whose values are known or typed: the values, the heap, the run. -/
import Derived.Calls
set_option linter.all false
namespace Go.Ev
noncomputable section
inductive Md where
  | no
  | ex
  | tk (k e : Nat)
  deriving Inhabited
inductive V where
  | u
  | z
  | b (x : Bool)
  | i (k : IntKind) (n : Int)
  | s (x : List Nat)
  | pn
  | p (x o : Nat)
  | sn
  | sl (x o l c sz : Nat) (ex : Bool)
  | fn (f : Nat) (first cap : List V)
  | a (cs : List V)
  | t (vs : List V)
  | m
  | c (v : Value)
  | fz (m : Md) (n sz : Nat) (cs : List V)
  | pf (cs : List V)
  deriving Inhabited
def pureV : V → Bool
  | .b _ => true
  | .i _ _ => true
  | .s _ => true
  | .pn => true
  | .sn => true
  | .fz m _ _ _ => match m with
    | .tk _ _ => false
    | _ => true
  | .pf _ => true
  | .c _ => true
  | _ => false
def pureL : List V → Bool
  | [] => true
  | v :: vs => pureV v && pureL vs
def dem : V → V
  | .fz _ n sz cs => .fz .no n sz cs
  | v => v
def V.cells? : V → Option (List V)
  | .a cs => some cs
  | .t _ => none
  | .u => none
  | .z => none
  | w => some [w]
inductive T (α : Type) where
  | e
  | n (l : T α) (v : Option α) (r : T α)
  deriving Inhabited
noncomputable def T.get {α : Type} (t : T α) : Nat → Option α:=T.rec (motive:=fun _ => Nat → Option α) (fun _ => none) (fun _ v _ gl gr k =>
  Bool.rec (Bool.rec (gr (Nat.pred (Nat.div k (nat_lit 2)))) (gl (Nat.div k (nat_lit 2))) (Nat.beq (Nat.mod k (nat_lit 2)) (nat_lit 1))) v (Nat.beq k (nat_lit 0))) t
noncomputable def T.setF {α : Type} (x : α) (f : Nat) : T α → Nat → T α:=Nat.rec (motive:=fun _ => T α → Nat → T α) (fun t _ => t)
  (fun _ ih t k => T.rec (motive:=fun _ => T α)
    (Bool.rec (Bool.rec (.n .e none (ih .e (Nat.pred (Nat.div k (nat_lit 2))))) (.n (ih .e (Nat.div k (nat_lit 2))) none .e)  (Nat.beq (Nat.mod k (nat_lit 2)) (nat_lit 1))) (.n .e (some x) .e) (Nat.beq k (nat_lit 0)))
    (fun l v r _ _ => Bool.rec (Bool.rec (.n l v (ih r (Nat.pred (Nat.div k (nat_lit 2))))) (.n (ih l (Nat.div k (nat_lit 2))) v r)  (Nat.beq (Nat.mod k (nat_lit 2)) (nat_lit 1))) (.n l (some x) r) (Nat.beq k (nat_lit 0)))  t) f
noncomputable def T.set {α : Type} (t : T α) (k : Nat) (x : α) : T α:=T.setF x (Nat.succ k) t k
abbrev Env:=T V
inductive O where
  | t (n : Nat)
  | k (v : V)
  | d (n : Nat)
  deriving Inhabited
def O.ev (env : Env) : O → Option V
  | .t n => env.get n
  | .k v => some v
  | .d n => match env.get n with
    | some v => some (dem v)
    | none => none
def evs (env : Env) : List O → Option (List V)
  | [] => some []
  | o :: os => match o.ev env with
    | none => none
    | some v => match evs env os with
      | none => none
      | some vs => some (v :: vs)
structure Blk where
  cells : List V
  grp : Nat
  dl : Nat
  deriving Inhabited
structure H where
  nb : Nat
  bl : T Blk
  gr : T (List Nat)
  tk : T (Nat × Nat × Nat)
  deriving Inhabited
def H.alloc (h : H) (cells : List V) : H:={ nb:=h.nb + 1,bl:=h.bl.set h.nb ⟨cells,h.nb,0⟩,gr:=h.gr,tk:=h.tk }
def nth {α : Type} : List α → Nat → Option α
  | [],_ => none
  | x :: xs,n => bif Nat.beq n 0 then some x else nth xs (n - 1)
def putN {α : Type} : List α → Nat → List α → List α
  | [],_,_ => []
  | x :: xs,n,l => bif Nat.beq n 0 then (match l with
      | [] => x :: xs
      | y :: ys => y :: putN xs 0 ys) else x :: putN xs (n - 1) l
def dropN {α : Type} : List α → Nat → List α
  | [],_ => []
  | x :: xs,n => bif Nat.beq n 0 then x :: xs else dropN xs (n - 1)
def len {α : Type} : List α → Nat
  | [] => 0
  | _ :: xs => len xs + 1
def takeC : List V → Nat → Option (List V)
  | [],n => bif Nat.beq n 0 then some [] else none
  | x :: xs,n => bif Nat.beq n 0 then some [] else
    match x with
    | .z => none
    | x => match takeC xs (n - 1) with
      | none => none
      | some r => some (x :: r)
def H.ldn (h : H) (b o n : Nat) : Option (List V):=
  match h.bl.get b with
  | none => none
  | some k => takeC (dropN k.cells o) n
def H.ld1 (h : H) (b o : Nat) : Option V:=
  match h.bl.get b with
  | none => none
  | some k => match nth k.cells o with
    | some .z => none
    | r => r
def zs : Nat → List V
  | 0 => []
  | n + 1 => .z :: zs n
def poisonB (k : Blk) (pos n : Nat) : Blk:=
  bif Nat.ble k.dl pos then ⟨putN k.cells (pos - k.dl) (zs n),k.grp,k.dl⟩
  else ⟨putN k.cells 0 (zs (pos + n - k.dl)),k.grp,k.dl⟩
def poisonL (skip pos n : Nat) : List Nat → T Blk → T Blk
  | [],bl => bl
  | b :: bs,bl =>
    bif Nat.beq b skip then poisonL skip pos n bs bl else
    match bl.get b with
    | none => poisonL skip pos n bs bl
    | some k => poisonL skip pos n bs (bif Nat.ble (k.dl + len k.cells) pos || Nat.ble (pos + n) k.dl then bl else bl.set b (poisonB k pos n))
def roC : Nat:=1152921504606846976
def H.stn (h : H) (b o : Nat) (vs : List V) : Option H:=
  match h.bl.get b with
  | none => none
  | some k =>
    bif Nat.ble (o + len vs) (len k.cells) && Nat.blt k.dl roC then
      match h.gr.get k.grp with
      | none => some ⟨h.nb,h.bl.set b ⟨putN k.cells o vs,k.grp,k.dl⟩,h.gr,h.tk⟩
      | some l => some ⟨h.nb,poisonL b (k.dl + o) (len vs) (k.grp :: l) (h.bl.set b ⟨putN k.cells o vs,k.grp,k.dl⟩),h.gr,h.tk⟩
    else none
inductive AOp where
  | add | sub | mul | quo | rem | and | or | xor | shl | shr | andNot | eql | neq | lss | leq | gtr | geq
  deriving Inhabited,DecidableEq
def ltB (a b : Int) : Bool:=match a with
  | .ofNat x => match b with
    | .ofNat y => Nat.ble (x + 1) y
    | .negSucc _ => false
  | .negSucc x => match b with
    | .ofNat _ => true
    | .negSucc y => Nat.ble (y + 1) x
def eqB (a b : Int) : Bool:=match a with
  | .ofNat x => match b with
    | .ofNat y => Nat.beq x y
    | .negSucc _ => false
  | .negSucc x => match b with
    | .ofNat _ => false
    | .negSucc y => Nat.beq x y
def kmax (k : IntKind) : Nat:=match k with
  | .i8 => 127 | .i16 => 32767 | .i32 => 2147483647 | .i64 => 9223372036854775807
  | .u8 => 255 | .u16 => 65535 | .u32 => 4294967295 | .u64 => 18446744073709551615
def ksgn (k : IntKind) : Bool:=match k with
  | .i8 => true | .i16 => true | .i32 => true | .i64 => true
  | _ => false
def wrapB (k : IntKind) (n : Int) : Int:=match n with
  | .ofNat x => bif Nat.ble x (kmax k) then n else k.wrap n
  | .negSucc x => bif ksgn k && Nat.ble x (kmax k) then n else k.wrap n
def bitB (op : AOp) (x y : Nat) : Option Nat:=match op with
  | .and => some (Nat.land x y)
  | .or => some (Nat.lor x y)
  | .xor => some (Nat.xor x y)
  | .andNot => some (Nat.xor x (Nat.land x y))
  | _ => none
def kbits : IntKind → Nat
  | .i8 => 8 | .u8 => 8 | .i16 => 16 | .u16 => 16 | .i32 => 32 | .u32 => 32 | .i64 => 64 | .u64 => 64
def knum : IntKind → Nat
  | .i8 => 0 | .i16 => 1 | .i32 => 2 | .i64 => 3 | .u8 => 4 | .u16 => 5 | .u32 => 6 | .u64 => 7
def ksame (j k : IntKind) : Bool:=Nat.beq (knum j) (knum k)
def bitOp (op : AOp) (k : IntKind) (x y : Int) : Option V:=
  match x with
  | .negSucc _ => none
  | .ofNat x => match y with
    | .negSucc _ => none
    | .ofNat y => bif Nat.ble x (kmax k) && Nat.ble y (kmax k) then
        match bitB op x y with
        | some r => some (.i k (.ofNat r))
        | none => none
      else none
def shl1 (k : IntKind) (x y : Int) : Option V:=
  match y with
  | .negSucc _ => none
  | .ofNat y => some (.i k (wrapB k (x * 2 ^ (bif Nat.ble y (kbits k) then y else kbits k))))
def shr1 (k : IntKind) (x y : Int) : Option V:=
  match y with
  | .negSucc _ => none
  | .ofNat y => match x with
    | .ofNat a => some (.i k (.ofNat (a / 2 ^ (bif Nat.ble y (kbits k) then y else kbits k))))
    | .negSucc a => some (.i k ((Int.negSucc a).fdiv (2 ^ (bif Nat.ble y (kbits k) then y else kbits k))))
def intOp (op : AOp) (k : IntKind) (x y : Int) : Option V:=
  match op with
  | .add => some (.i k (wrapB k (x + y)))
  | .sub => some (.i k (wrapB k (x - y)))
  | .mul => some (.i k (wrapB k (x * y)))
  | .quo => bif eqB y 0 then none else some (.i k (wrapB k (x.tdiv y)))
  | .rem => bif eqB y 0 then none else some (.i k (x.tmod y))
  | .eql => some (.b (eqB x y))
  | .neq => some (.b (!eqB x y))
  | .lss => some (.b (ltB x y))
  | .leq => some (.b (!ltB y x))
  | .gtr => some (.b (ltB y x))
  | .geq => some (.b (!ltB x y))
  | .shl => none
  | .shr => none
  | op => bitOp op k x y
def eqS : List Nat → List Nat → Bool
  | [],[] => true
  | a :: x,b :: y => Nat.beq a b && eqS x y
  | _,_ => false
def ltS : List Nat → List Nat → Bool
  | _,[] => false
  | [],_ :: _ => true
  | a :: x,b :: y => Nat.ble (a + 1) b || (Nat.beq a b && ltS x y)
def app {α : Type} : List α → List α → List α
  | [],y => y
  | a :: x,y => a :: app x y
def strOp (op : AOp) (x y : List Nat) : Option V:=
  match op with
  | .add => bif Nat.ble (len x + len y) 4294967295 then some (.s (app x y)) else none
  | .eql => some (.b (eqS x y))
  | .neq => some (.b (!eqS x y))
  | .lss => some (.b (ltS x y))
  | .leq => some (.b (ltS x y || eqS x y))
  | .gtr => some (.b (!(ltS x y || eqS x y)))
  | .geq => some (.b (!ltS x y))
  | _ => none
def boolOp (op : AOp) (x y : Bool) : Option V:=
  match op with
  | .eql => some (.b (x == y))
  | .neq => some (.b (x != y))
  | _ => none
def isSh (op : AOp) : Bool:=match op with
  | .shl => true
  | .shr => true
  | _ => false
def intOps (op : AOp) (k : IntKind) (x : Int) (k' : IntKind) (y : Int) : Option V:=
  match op with
  | .shl => shl1 k x y
  | .shr => shr1 k x y
  | op => bif ksame k k' then intOp op k x y else none
def evBin (op : AOp) (x y : O) (env : Env) : Option V:=
  match x.ev env with
  | none => none
  | some x => match y.ev env with
    | none => none
    | some y => match x with
      | .i k a => match y with
        | .i k' b => intOps op k a k' b
        | _ => none
      | .s a => match y with
        | .s b => strOp op a b
        | _ => none
      | _ => none
def evBinB (op : AOp) (x y : O) (env : Env) : Option V:=
  match x.ev env with
  | some (.b a) => match y.ev env with
    | some (.b b) => boolOp op a b
    | _ => none
  | _ => none
inductive Kd where
  | b | i | s
  deriving Inhabited
def eqCell (k : Kd) (x y : V) : Option Bool:=match k with
  | .i => match x with
    | .i k a => match y with
      | .i k' b => bif ksame k k' then some (eqB a b) else none
      | _ => none
    | _ => none
  | .s => match x with
    | .s a => match y with
      | .s b => some (eqS a b)
      | _ => none
    | _ => none
  | .b => match x with
    | .b a => match y with
      | .b b => some (a == b)
      | _ => none
    | _ => none
def eqCells : List Kd → List V → List V → Option Bool
  | [],_,_ => some true
  | k :: ks,x,y => match x with
    | [] => none
    | a :: x => match y with
      | [] => none
      | b :: y => match eqCell k a b with
        | some r => bif r then eqCells ks x y else some false
        | none => none
mutual
def V.eqv : V → V → Bool
  | .b x,.b y => x == y
  | .i k x,.i k' y => ksame k k' && eqB x y
  | .s x,.s y => eqS x y
  | .pn,.pn => true
  | .p x o,.p x' o' => Nat.beq x x' && Nat.beq o o'
  | .sn,.sn => true
  | .sl x o l k q r,.sl x' o' l' k' q' r' => Nat.beq x x' && Nat.beq o o' && Nat.beq l l' && Nat.beq k k' && Nat.beq q q' && (r == r')
  | .a x,.a y => V.eqvs x y
  | .fz .no n q x,.fz .no n' q' y => Nat.beq n n' && Nat.beq q q' && V.eqvs x y
  | .pf x,.pf y => V.eqvs x y
  | .u,.u => true
  | _,_ => false
def V.eqvs : List V → List V → Bool
  | [],[] => true
  | x1 :: x,y1 :: y => V.eqv x1 y1 && V.eqvs x y
  | _,_ => false
end
def natOf : V → Option Nat
  | .i _ n => match n with
    | .ofNat n => some n
    | .negSucc _ => none
  | _ => none
def O.nat (env : Env) (o : O) : Option Nat:=match o.ev env with
  | none => none
  | some v => natOf v
def optNat (env : Env) (d : Nat) : Option O → Option Nat
  | none => some d
  | some o => o.nat env
def O.cells (env : Env) (o : O) : Option (List V):=match o.ev env with
  | some (.a cs) => some cs
  | _ => none
def fillP (env : Env) : List V → List (Nat × Nat × O) → Option (List V)
  | cells,[] => some cells
  | cells,p :: ps => match p.2.2.ev env with
    | none => none
    | some v => match v.cells? with
      | none => none
      | some cs => bif Nat.beq (len cs) p.2.1 && Nat.ble (p.1 + p.2.1) (len cells) then fillP env (putN cells p.1 cs) ps else none
def repl : Nat → List V → List V
  | 0,_ => []
  | n + 1,z => app z (repl n z)
def chars : List Nat → List V
  | [] => []
  | n :: l => .i .u8 (.ofNat n) :: chars l
def unchars : List V → Option (List Nat)
  | [] => some []
  | v :: vs => match v with
    | .i .u8 n => match n with
      | .ofNat n => bif Nat.ble n 255 then (match unchars vs with
        | some l => some (n :: l)
        | none => none) else none
      | .negSucc _ => none
    | _ => none
def takeN {α : Type} : List α → Nat → List α
  | [],_ => []
  | x :: xs,n => bif Nat.beq n 0 then [] else x :: takeN xs (n - 1)
abbrev Call:=Nat → List V → H → Option (V × H)
def evPick (c a b : O) (env : Env) : Option V:=match c.ev env with
  | some (.b x) => (bif x then a else b).ev env
  | _ => none
def evBuild (z : List V) (ps : List (Nat × Nat × O)) (env : Env) : Option V:=match fillP env z ps with
  | some cs => some (.a cs)
  | none => none
def evNil (x : O) (env : Env) : Option V:=match x.ev env with
  | some (.p b o) => some (.p b o)
  | some (.pf cs) => some (.pf cs)
  | _ => none
def evFa (off : Nat) (x : O) (env : Env) : Option V:=match x.ev env with
  | some (.p b o) => some (.p b (o + off))
  | some (.pf cs) => bif Nat.ble off (len cs) then some (.pf (dropN cs off)) else none
  | _ => none
def evFld1 (off : Nat) (x : O) (env : Env) : Option V:=match x.cells env with
  | some cs => nth cs off
  | _ => none
def evFldn (off n : Nat) (x : O) (env : Env) : Option V:=match x.cells env with
  | some cs => bif Nat.ble (off + n) (len cs) then some (.a (takeN (dropN cs off) n)) else none
  | _ => none
def evIxS (sz : Nat) (x i : O) (env : Env) : Option V:=match x.ev env with
  | some (.sl b o l _ sz' _) => match i.nat env with
    | some i => bif Nat.beq sz sz' && Nat.ble (i + 1) l then some (.p b (o + i * sz)) else none
    | none => none
  | some (.fz _ n sz' cs) => match i.nat env with
    | some i => bif Nat.beq sz sz' && Nat.ble (i + 1) n then some (.pf (takeN (dropN cs (i * sz)) sz)) else none
    | none => none
  | _ => none
def evIxA (n sz : Nat) (x i : O) (env : Env) : Option V:=match x.ev env with
  | some (.p b o) => match i.nat env with
    | some i => bif Nat.ble (i + 1) n then some (.p b (o + i * sz)) else none
    | none => none
  | some (.pf cs) => match i.nat env with
    | some i => bif Nat.ble (i + 1) n && Nat.ble (n * sz) (len cs) then some (.pf (takeN (dropN cs (i * sz)) sz)) else none
    | none => none
  | _ => none
def evIdA1 (n : Nat) (x i : O) (env : Env) : Option V:=match x.cells env with
  | some cs => match i.nat env with
    | some i => bif Nat.ble (i + 1) n then nth cs i else none
    | none => none
  | _ => none
def evIdAn (n sz : Nat) (x i : O) (env : Env) : Option V:=match x.cells env with
  | some cs => match i.nat env with
    | some i => bif Nat.ble (i + 1) n && Nat.ble (i * sz + sz) (len cs) then some (.a (takeN (dropN cs (i * sz)) sz)) else none
    | none => none
  | _ => none
def evIdStr (x i : O) (env : Env) : Option V:=match x.ev env with
  | some (.s s) => match i.nat env with
    | some i => match nth s i with
      | some c => some (.i .u8 (.ofNat c))
      | none => none
    | none => none
  | _ => none
def evEqA (ks : List Kd) (neg : Bool) (x y : O) (env : Env) : Option V:=match x.cells env with
  | some a => match y.cells env with
    | some b => bif Nat.beq (len a) (len ks) && Nat.beq (len b) (len ks) then match eqCells ks a b with
        | some r => some (.b (r != neg))
        | none => none
      else none
    | _ => none
  | _ => none
def evEqNil (neg : Bool) (x : O) (env : Env) : Option V:=match x.ev env with
  | some .sn => some (.b (!neg))
  | some (.sl ..) => some (.b neg)
  | _ => none
def evUn (op : UnOp) (x : O) (env : Env) : Option V:=match x.ev env with
  | some (.b x) => match op with
    | .not => some (.b (!x))
    | _ => none
  | some (.i k n) => match op with
    | .neg => some (.i k (wrapB k (0 - n)))
    | .xor => match n with
      | .ofNat n => bif !ksgn k && Nat.ble n (kmax k) then some (.i k (.ofNat (kmax k - n))) else none
      | .negSucc _ => none
    | _ => none
  | _ => none
def evCvt (k : IntKind) (x : O) (env : Env) : Option V:=match x.ev env with
  | some (.i _ n) => some (.i k (wrapB k n))
  | _ => none
def lenSl : V → Nat
  | .sl _ _ l _ _ _ => l
  | .fz _ n _ _ => n
  | _ => 0
def sliceS (x : V) (sz lo hi : Nat) : Option V:=
  match x with
  | .sn => bif Nat.beq lo 0 && Nat.beq hi 0 then some .sn else none
  | .sl b o _ c sz' ex =>
    bif Nat.beq sz sz' && Nat.ble lo hi && Nat.ble hi c then some (.sl b (o + lo * sz) (hi - lo) (c - lo) sz ex) else none
  | .fz _ n sz' cs =>
    bif Nat.beq sz sz' && Nat.ble lo hi && Nat.ble hi n then some (.fz .no (hi - lo) sz (takeN (dropN cs (lo * sz)) ((hi - lo) * sz))) else none
  | _ => none
def sliceS3 (x : V) (sz lo hi m : Nat) : Option V:=
  match x with
  | .sn => bif Nat.beq lo 0 && Nat.beq hi 0 && Nat.beq m 0 then some .sn else none
  | .sl b o _ c sz' _ =>
    bif Nat.beq sz sz' && Nat.ble lo hi && Nat.ble hi m && Nat.ble m c then some (.sl b (o + lo * sz) (hi - lo) (m - lo) sz true) else none
  | .fz _ n sz' cs =>
    bif Nat.beq sz sz' && Nat.ble lo hi && Nat.beq hi m && Nat.ble m n then some (.fz .ex (hi - lo) sz (takeN (dropN cs (lo * sz)) ((hi - lo) * sz))) else none
  | _ => none
def evSlS (sz : Nat) (x : O) (lo hi : Option O) (env : Env) : Option V:=match x.ev env with
  | some v => match optNat env 0 lo with
    | some lo => match optNat env (lenSl v) hi with
      | some hi => sliceS v sz lo hi
      | none => none
    | none => none
  | none => none
def evSlS3 (sz : Nat) (x : O) (lo : Option O) (hi m : O) (env : Env) : Option V:=match x.ev env with
  | some v => match optNat env 0 lo with
    | some lo => match hi.nat env with
      | some hi => match m.nat env with
        | some m => sliceS3 v sz lo hi m
        | none => none
      | none => none
    | none => none
  | none => none
def evSlStr (x : O) (lo hi : Option O) (env : Env) : Option V:=match x.ev env with
  | some (.s l) => match optNat env 0 lo with
    | some lo => match optNat env (len l) hi with
      | some hi => bif Nat.ble lo hi && Nat.ble hi (len l) then some (.s (takeN (dropN l lo) (hi - lo))) else none
      | none => none
    | none => none
  | _ => none
def evMkf (f : Nat) (first cap : List O) (env : Env) : Option V:=match evs env first with
  | some a => match evs env cap with
    | some b => some (.fn f a b)
    | none => none
  | none => none
def evLen (x : O) (env : Env) : Option V:=match x.ev env with
  | some .sn => some (.i .i64 0)
  | some (.sl _ _ l _ _ _) => some (.i .i64 (.ofNat l))
  | some (.fz _ n _ _) => some (.i .i64 (.ofNat n))
  | _ => none
def evLenS (x : O) (env : Env) : Option V:=match x.ev env with
  | some (.s l) => some (.i .i64 (.ofNat (len l)))
  | _ => none
def evCap (x : O) (env : Env) : Option V:=match x.ev env with
  | some .sn => some (.i .i64 0)
  | some (.sl _ _ _ c _ ex) => bif ex then some (.i .i64 (.ofNat c)) else none
  | some (.fz .ex n _ _) => some (.i .i64 (.ofNat n))
  | _ => none
def minV : V → V → Option V
  | .i k x,.i _ y => some (.i k (bif ltB y x then y else x))
  | _,_ => none
def maxV : V → V → Option V
  | .i k x,.i _ y => some (.i k (bif ltB x y then y else x))
  | _,_ => none
def foldV (f : V → V → Option V) : V → List V → Option V
  | x,[] => some x
  | x,y :: ys => match f x y with
    | some q => foldV f q ys
    | none => none
def evMm (f : V → V → Option V) (xs : List O) (env : Env) : Option V:=match evs env xs with
  | some (x :: ys) => foldV f x ys
  | _ => none
def evExt (x : O) (i : Nat) (env : Env) : Option V:=match x.ev env with
  | some (.t vs) => nth vs i
  | _ => none
inductive PC where
  | mv (x : O)
  | pick (c a b : O)
  | build (zero : List V) (parts : List (Nat × Nat × O))
  | nilck (x : O)
  | fa (off : Nat) (x : O)
  | fld1 (off : Nat) (x : O)
  | fldn (off n : Nat) (x : O)
  | ixS (sz : Nat) (x i : O)
  | ixA (n sz : Nat) (x i : O)
  | idA1 (n : Nat) (x i : O)
  | idAn (n sz : Nat) (x i : O)
  | idStr (x i : O)
  | bin (op : AOp) (x y : O)
  | binB (op : AOp) (x y : O)
  | eqA (ks : List Kd) (neg : Bool) (x y : O)
  | eqNil (neg : Bool) (x : O)
  | un (op : UnOp) (x : O)
  | cvt (k : IntKind) (x : O)
  | slS (sz : Nat) (x : O) (lo hi : Option O)
  | slS3 (sz : Nat) (x : O) (lo : Option O) (hi m : O)
  | slStr (x : O) (lo hi : Option O)
  | mkf (f : Nat) (first cap : List O)
  | len (x : O)
  | lenS (x : O)
  | lenC (n : Nat)
  | cap (x : O)
  | mn (xs : List O)
  | mx (xs : List O)
  | ext (x : O) (i : Nat)
  deriving Inhabited
def evP (op : PC) (env : Env) : Option V:=match op with
  | .mv x => x.ev env
  | .pick c a b => evPick c a b env
  | .build z ps => evBuild z ps env
  | .nilck x => evNil x env
  | .fa off x => evFa off x env
  | .fld1 off x => evFld1 off x env
  | .fldn off n x => evFldn off n x env
  | .ixS sz x i => evIxS sz x i env
  | .ixA n sz x i => evIxA n sz x i env
  | .idA1 n x i => evIdA1 n x i env
  | .idAn n sz x i => evIdAn n sz x i env
  | .idStr x i => evIdStr x i env
  | .bin op x y => evBin op x y env
  | .binB op x y => evBinB op x y env
  | .eqA ks neg x y => evEqA ks neg x y env
  | .eqNil neg x => evEqNil neg x env
  | .un op x => evUn op x env
  | .cvt k x => evCvt k x env
  | .slS sz x lo hi => evSlS sz x lo hi env
  | .slS3 sz x lo hi m => evSlS3 sz x lo hi m env
  | .slStr x lo hi => evSlStr x lo hi env
  | .mkf f a b => evMkf f a b env
  | .len x => evLen x env
  | .lenS x => evLenS x env
  | .lenC n => some (.i .i64 (.ofNat n))
  | .cap x => evCap x env
  | .mn xs => evMm minV xs env
  | .mx xs => evMm maxV xs env
  | .ext x i => evExt x i env
def srcCells (h : H) (sz : Nat) : V → Option (Nat × List V)
  | .sn => some (0,[])
  | .sl b o l _ sz' _ =>
    bif Nat.beq sz sz' then
      bif Nat.beq l 0 then some (0,[]) else
      match h.ldn b o (l * sz) with
      | some cs => some (l,cs)
      | none => none
    else none
  | .fz _ n sz' cs => bif Nat.beq sz sz' then some (n,cs) else none
  | _ => none
def evLd1 (a : O) (env : Env) (h : H) : Option V:=match a.ev env with
  | some (.p b o) => h.ld1 b o
  | some (.pf cs) => nth cs 0
  | _ => none
def evLdn (n : Nat) (a : O) (env : Env) (h : H) : Option V:=match a.ev env with
  | some (.p b o) => match h.ldn b o n with
    | some cs => some (.a cs)
    | none => none
  | some (.pf cs) => bif Nat.ble n (len cs) then some (.a (takeN cs n)) else none
  | _ => none
def evB2s (x : O) (env : Env) (h : H) : Option V:=match x.ev env with
  | some v => match srcCells h 1 v with
    | some r => match unchars r.2 with
      | some l => some (.s l)
      | none => none
    | none => none
  | none => none
def evSlA (n sz : Nat) (x : O) (lo hi : Option O) (env : Env) (h : H) : Option V:=match x.ev env with
  | some (.p b o) => match optNat env 0 lo with
    | some lo => match optNat env n hi with
      | some hi => match h.bl.get b with
        | some k => bif Nat.ble lo hi && Nat.ble hi n && Nat.ble 1 sz && Nat.ble (o + n * sz) (len k.cells) then some (.sl b (o + lo * sz) (hi - lo) (n - lo) sz true) else none
        | none => none
      | none => none
    | none => none
  | some (.pf cs) => match optNat env 0 lo with
    | some lo => match optNat env n hi with
      | some hi => bif Nat.ble lo hi && Nat.ble hi n && Nat.ble 1 sz && Nat.ble (n * sz) (len cs) then some (.fz .no (hi - lo) sz (takeN (dropN cs (lo * sz)) ((hi - lo) * sz))) else none
      | none => none
    | none => none
  | _ => none
inductive LC where
  | ld1 (a : O)
  | ldn (n : Nat) (a : O)
  | b2s (x : O)
  | slA (n sz : Nat) (x : O) (lo hi : Option O)
  deriving Inhabited
def evL (op : LC) (env : Env) (h : H) : Option V:=match op with
  | .ld1 a => evLd1 a env h
  | .ldn n a => evLdn n a env h
  | .b2s x => evB2s x env h
  | .slA n sz x lo hi => evSlA n sz x lo hi env h
inductive AR where
  | p
  | s (l c sz : Nat) (ex : Bool)
  deriving Inhabited
def AR.at (b : Nat) : AR → V
  | .p => .p b 0
  | .s l c sz ex => .sl b 0 l c sz ex
inductive AC where
  | box (x : O)
  | alloc (zero : List V)
  | buildSl (sz n : Nat) (cells : List V) (parts : List (Nat × Nat × O))
  | mkSl (sz bytes : Nat) (zero : List V) (l c : O)
  | s2b (x : O)
  deriving Inhabited
def evBox (x : O) (env : Env) : Option (List V × AR):=match x.ev env with
  | some v => match v.cells? with
    | some cs => some (cs,.p)
    | none => none
  | none => none
def evBuildSl (sz n : Nat) (z : List V) (ps : List (Nat × Nat × O)) (env : Env) : Option (List V × AR):=match fillP env z ps with
  | some cs => some (cs,.s n n sz true)
  | none => none
def evMkSl (sz bytes : Nat) (z : List V) (l c : O) (env : Env) : Option (List V × AR):=match l.nat env with
  | some l => match c.nat env with
    | some c => bif Nat.ble l c && Nat.ble (bytes * c) 281474976710656 && Nat.ble c 4294967295 then some (repl c z,.s l c sz true) else none
    | none => none
  | none => none
def evS2b (x : O) (env : Env) : Option (List V × AR):=match x.ev env with
  | some (.s l) => some (chars l,.s (len l) (len l) 1 false)
  | _ => none
def evA (op : AC) (env : Env) : Option (List V × AR):=match op with
  | .box x => evBox x env
  | .alloc z => some (z,.p)
  | .buildSl sz n z ps => evBuildSl sz n z ps env
  | .mkSl sz by_ z l c => evMkSl sz by_ z l c env
  | .s2b x => evS2b x env
def memOf : Option (List Nat) → List Nat
  | none => []
  | some m => m
def H.append (h : H) (x : V) (sz bytes n : Nat) (new : List V) : Option (V × H):=
  bif Nat.beq n 0 then (match x with
    | .sn => some (x,h)
    | .sl .. => some (x,h)
    | .fz .. => some (x,h)
    | _ => none) else
  match x with
  | .sn =>
    bif Nat.ble (n * bytes) 140737488355328 && Nat.ble n 4294967295 then some (.sl h.nb 0 n n sz false,h.alloc new)
    else none
  | .sl b o l c sz' ex =>
    bif Nat.beq sz sz' then
      bif Nat.ble (l + n) c then
        match h.stn b (o + l * sz) new with
        | some h => some (.sl b o (l + n) c sz ex,h)
        | none => none
      else
        bif Nat.ble ((l + n) * bytes) 140737488355328 && Nat.ble (l + n) 4294967295 then
        match (bif Nat.beq l 0 then some [] else h.ldn b o (l * sz)) with
        | none => none
        | some old =>
          bif ex then some (.sl h.nb 0 (l + n) (l + n) sz false,h.alloc (app old new))
          else
            match h.bl.get b with
            | none => none
            | some k =>
              bif Nat.ble roC k.dl then none else
              let mem:=memOf (h.gr.get k.grp)
              some (.sl h.nb 0 (l + n) (l + n) sz false,
                ⟨h.nb + 1,(poisonL h.nb (k.dl + (o + l * sz)) (n * sz) (k.grp :: mem) h.bl).set h.nb ⟨app old new,k.grp,k.dl + o⟩,h.gr.set k.grp (h.nb :: mem),h.tk⟩)
        else none
    else none
  | .fz .ex l sz' cs =>
    bif Nat.beq sz sz' && (Nat.ble ((l + n) * bytes) 140737488355328 && Nat.ble (l + n) 4294967295) then some (.sl h.nb 0 (l + n) (l + n) sz false,h.alloc (app cs new)) else none
  | _ => none
def H.appK (h : H) (k e l sz : Nat) (cs : List V) : Option (V × H):=some (.fz (.tk k e) l sz cs,⟨h.nb,h.bl,h.gr,h.tk.set k (e,l,sz)⟩)
def H.ep (h : H) (k : Nat) : Nat:=match h.tk.get k with
  | none => 0
  | some r => r.1 + 1
def appB (bytes l : Nat) : Bool:=Nat.ble (l * bytes) 140737488355328 && Nat.ble l 4294967295
def H.appT (h : H) (x : V) (sz bytes n k : Nat) (new : List V) : Option (V × H):=
  match x with
  | .sn => bif appB bytes n then h.appK k (h.ep k) n sz new else none
  | .sl _ _ l c sz' ex => bif Nat.beq sz sz' && Nat.beq l 0 && Nat.beq c 0 && ex && appB bytes n then h.appK k (h.ep k) n sz new else none
  | .fz m l sz' cs => bif Nat.beq sz sz' && appB bytes (l + n) then (match m with
    | .no => none
    | .ex => h.appK k (h.ep k) (l + n) sz (app cs new)
    | .tk j e => match h.tk.get j with
      | none => none
      | some r => bif Nat.beq e r.1 && Nat.beq l r.2.1 && Nat.beq sz r.2.2 then h.appK j e (l + n) sz (app cs new) else none) else none
  | _ => none
def fzL (f : V → Option V) : List V → Option (List V)
  | [] => some []
  | v :: vs => match f v with
    | none => none
    | some w => match fzL f vs with
      | none => none
      | some ws => some (w :: ws)
def fzV (h : H) (lo : Nat) : Nat → Nat → V → Option V
  | 0,_,_ => none
  | n + 1,q,v => match v with
    | .sn => bif Nat.ble 1 q then some (.fz .no 0 q []) else none
    | .fz _ l sz cs => some (.fz .no l sz cs)
    | .sl b o l _ sz _ => bif Nat.beq l 0 then some (.fz .no 0 sz []) else match h.bl.get b with
      | none => none
      | some k => bif Nat.ble lo k.grp then (match h.ldn b o (l * sz) with
        | none => none
        | some cs => bif pureL cs then some (.fz .no l sz cs) else match fzL (fzV h lo n 1) cs with
          | none => none
          | some ds => some (.fz .no l sz ds)) else none
    | .a cs => bif pureL cs then some (.a cs) else match fzL (fzV h lo n 1) cs with
      | none => none
      | some ds => some (.a ds)
    | v => bif pureV v then some v else none
def hdQ : List Nat → Nat
  | [] => 1
  | q :: _ => q
def tlQ : List Nat → List Nat
  | [] => []
  | _ :: qs => qs
def fzZ (h : H) (lo : Nat) : List Nat → List V → Option (List V)
  | _,[] => some []
  | qs,v :: vs => match fzV h lo 4 (hdQ qs) v with
    | none => none
    | some w => match fzZ h lo (tlQ qs) vs with
      | none => none
      | some ws => some (w :: ws)
def fzR (h : H) (lo : Nat) (qs : List Nat) (v : V) : Option V:=match v with
  | .t vs => match fzZ h lo qs vs with
    | none => none
    | some ws => some (.t ws)
  | .u => some .u
  | v => fzV h lo 4 (hdQ qs) v
def pureB : V → Bool
  | .a cs => pureL cs
  | v => pureV v
def pureA : V → Bool
  | .a cs => pureL cs
  | .fn _ a b => a.all pureB && b.all pureB
  | v => pureV v
def noRef : V → Bool
  | .fz _ _ _ _ => true
  | .fn _ a b => pureL a && pureL b
  | v => pureV v
inductive EC where
  | appT (sz bytes k : Nat) (x y : O)
  | acc (k sz : Nat) (x : O)
  | accB (k sz : Nat)
  | bldF (sz n : Nat) (cells : List V) (parts : List (Nat × Nat × O))
  | callT (k f : Nat) (args : List O)
  | callP (f : Nat) (qs : List Nat) (args : List O)
  | callvP (x : O) (qs : List Nat) (args : List O)
  | callM (f : Nat) (qs : List Nat) (args : List O)
  | boxF (x : O)
  | clr (sz : Nat) (z : List V) (x : O)
  | st1 (a x : O)
  | stn (n : Nat) (a x : O)
  | call (f : Nat) (args : List O)
  | callv (x : O) (args : List O)
  | appS (sz bytes : Nat) (x y : O)
  | appStr (bytes : Nat) (x y : O)
  | appZ (sz bytes : Nat) (zero : List V) (x n : O)
  | copyS (sz : Nat) (x y : O)
  | copyStr (x y : O)
  | mkMap
  deriving Inhabited
def evSt1 (a x : O) (env : Env) (h : H) : Option (V × H):=match a.ev env with
  | some (.p b o) => match x.ev env with
    | some (.a _) => none
    | some (.t _) => none
    | some .u => none
    | some .z => none
    | some v => match h.stn b o [v] with
      | some h => some (.u,h)
      | none => none
    | none => none
  | _ => none
def evStn (n : Nat) (a x : O) (env : Env) (h : H) : Option (V × H):=match a.ev env with
  | some (.p b o) => match x.cells env with
    | some cs => bif Nat.beq (len cs) n then match h.stn b o cs with
        | some h => some (.u,h)
        | none => none
      else none
    | none => none
  | _ => none
def evCall (call : Call) (f : Nat) (args : List O) (env : Env) (h : H) : Option (V × H):=match evs env args with
  | some vs => call f vs h
  | none => none
def evCallv (call : Call) (x : O) (args : List O) (env : Env) (h : H) : Option (V × H):=match x.ev env with
  | some (.fn f first cap) => match evs env args with
    | some vs => call f (app first (app vs cap)) h
    | none => none
  | _ => none
def evAppS (sz bytes : Nat) (x y : O) (env : Env) (h : H) : Option (V × H):=match x.ev env with
  | some x => match y.ev env with
    | some y => match srcCells h sz y with
      | some r => h.append x sz bytes r.1 r.2
      | none => none
    | none => none
  | none => none
def evAppStr (bytes : Nat) (x y : O) (env : Env) (h : H) : Option (V × H):=match x.ev env with
  | some x => match y.ev env with
    | some (.s l) => h.append x 1 bytes (len l) (chars l)
    | _ => none
  | none => none
def evAppZ (sz bytes : Nat) (z : List V) (x n : O) (env : Env) (h : H) : Option (V × H):=match x.ev env with
  | some x => match n.nat env with
    | some n => bif Nat.ble (n * bytes) 140737488355328 && Nat.ble n 4294967295 then h.append x sz bytes n (repl n z) else none
    | none => none
  | none => none
def goN (n : Nat) : V:=.i .i64 (.ofNat n)
def evCopyS (sz : Nat) (x y : O) (env : Env) (h : H) : Option (V × H):=match x.ev env with
  | some (.sl b o l _ sz' _) => match y.ev env with
    | some (.sl b2 o2 l2 _ sz2 _) =>
      bif Nat.beq sz sz' && Nat.beq sz sz2 then
        let n:=bif Nat.ble l2 l then l2 else l
        bif Nat.beq n 0 then some (goN 0,h) else
        match h.ldn b2 o2 (n * sz) with
        | some cs => match h.stn b o cs with
          | some h => some (goN n,h)
          | none => none
        | none => none
      else none
    | some .sn => some (goN 0,h)
    | _ => none
  | some .sn => match y.ev env with
    | some (.sl ..) => some (goN 0,h)
    | some .sn => some (goN 0,h)
    | _ => none
  | _ => none
def evCopyStr (x y : O) (env : Env) (h : H) : Option (V × H):=match x.ev env with
  | some (.sl b o l _ sz' _) => match y.ev env with
    | some (.s cs) =>
      bif Nat.beq 1 sz' then
        let n:=bif Nat.ble (len cs) l then len cs else l
        bif Nat.beq n 0 then some (goN 0,h) else
        match h.stn b o (chars (takeN cs n)) with
        | some h => some (goN n,h)
        | none => none
      else none
    | _ => none
  | _ => none
def evAppT (sz bytes k : Nat) (x y : O) (env : Env) (h : H) : Option (V × H):=match x.ev env with
  | some x => match y.ev env with
    | some y => match srcCells h sz y with
      | some r => bif pureL r.2 then h.appT x sz bytes r.1 k r.2 else none
      | none => none
    | none => none
  | none => none
def evAcc (k sz : Nat) (x : O) (env : Env) (h : H) : Option (V × H):=match x.ev env with
  | some .sn => h.appK k (h.ep k) 0 sz []
  | _ => none
def evBldF (sz n : Nat) (z : List V) (ps : List (Nat × Nat × O)) (env : Env) (h : H) : Option (V × H):=match fillP env z ps with
  | some cs => bif pureL cs then some (.fz .ex n sz cs,h) else none
  | none => none
def callPv (call : Call) (f : Nat) (qs : List Nat) (vs : List V) (h : H) : Option (V × H):=
  bif vs.all pureA then
    match call f vs ⟨0,.e,.e,.e⟩ with
    | none => none
    | some r => match fzR r.2 0 qs r.1 with
      | none => none
      | some v => some (v,h)
  else none
def callTv (call : Call) (k f : Nat) (vs : List V) (h : H) : Option (V × H):=
  bif vs.all pureA then
    match call f vs ⟨0,.e,.e,.e⟩ with
    | none => none
    | some r => match r.1 with
      | .fz (.tk j e) n sz cs => match r.2.tk.get j with
        | some t => bif Nat.beq t.1 e && Nat.beq t.2.1 n && Nat.beq t.2.2 sz then h.appK k (h.ep k) n sz cs else none
        | none => none
      | _ => none
  else none
def evCallT (call : Call) (k f : Nat) (args : List O) (env : Env) (h : H) : Option (V × H):=match evs env args with
  | some vs => callTv call k f vs h
  | none => none
def evCallP (call : Call) (f : Nat) (qs : List Nat) (args : List O) (env : Env) (h : H) : Option (V × H):=match evs env args with
  | some vs => callPv call f qs vs h
  | none => none
def evCallvP (call : Call) (x : O) (qs : List Nat) (args : List O) (env : Env) (h : H) : Option (V × H):=match x.ev env with
  | some (.fn f first cap) => match evs env args with
    | some vs => callPv call f qs (app first (app vs cap)) h
    | none => none
  | _ => none
def callMv (call : Call) (f : Nat) (qs : List Nat) (b : Nat) (vs : List V) (h : H) : Option (V × H):=
  bif vs.all pureA then
    match h.bl.get b with
    | none => none
    | some k => match h.gr.get b with
      | some _ => none
      | none => bif Nat.beq k.grp b && k.cells.all noRef then
        match call f (.p 0 0 :: vs) ⟨1,T.set .e 0 ⟨k.cells,0,k.dl⟩,.e,h.tk⟩ with
        | none => none
        | some r => match fzR r.2 1 qs r.1 with
          | none => none
          | some v => match r.2.bl.get 0 with
            | none => none
            | some k1 => bif Nat.beq (len k1.cells) (len k.cells) && Nat.beq k1.dl k.dl && Nat.beq k1.grp 0 && k1.cells.all noRef then
              some (v,⟨h.nb,h.bl.set b ⟨k1.cells,b,k.dl⟩,h.gr,r.2.tk⟩)
              else none
      else none
  else none
def evCallM (call : Call) (f : Nat) (qs : List Nat) (args : List O) (env : Env) (h : H) : Option (V × H):=match evs env args with
  | some (.p b o :: vs) => bif Nat.beq o 0 then callMv call f qs b vs h else none
  | _ => none
def evBoxF (x : O) (env : Env) (h : H) : Option (V × H):=match x.ev env with
  | some v => match v.cells? with
    | some cs => bif pureL cs then some (.pf cs,h) else none
    | none => none
  | none => none
def evClr (sz : Nat) (z : List V) (x : O) (env : Env) (h : H) : Option (V × H):=match x.ev env with
  | some .sn => some (.u,h)
  | some (.fz _ n _ _) => bif Nat.beq n 0 then some (.u,h) else none
  | some (.sl b o l _ sz' _) => bif Nat.beq l 0 then some (.u,h) else
    bif Nat.beq sz sz' then match h.stn b o (repl l z) with
      | some h => some (.u,h)
      | none => none
    else none
  | _ => none
def evE (call : Call) (op : EC) (env : Env) (h : H) : Option (V × H):=match op with
  | .appT sz by_ k x y => evAppT sz by_ k x y env h
  | .acc k sz x => evAcc k sz x env h
  | .accB k sz => h.appK k (h.ep k) 0 sz []
  | .bldF sz n z ps => evBldF sz n z ps env h
  | .callP f qs args => evCallP call f qs args env h
  | .callT k f args => evCallT call k f args env h
  | .callvP x qs args => evCallvP call x qs args env h
  | .callM f qs args => evCallM call f qs args env h
  | .boxF x => evBoxF x env h
  | .clr sz z x => evClr sz z x env h
  | .st1 a x => evSt1 a x env h
  | .stn n a x => evStn n a x env h
  | .call f args => evCall call f args env h
  | .callv x args => evCallv call x args env h
  | .appS sz by_ x y => evAppS sz by_ x y env h
  | .appStr by_ x y => evAppStr by_ x y env h
  | .appZ sz by_ z x n => evAppZ sz by_ z x n env h
  | .copyS sz x y => evCopyS sz x y env h
  | .copyStr x y => evCopyStr x y env h
  | .mkMap => some (.m,h)
inductive C where
  | P (x : PC)
  | L (x : LC)
  | A (x : AC)
  | E (x : EC)
  deriving Inhabited
def evC (call : Call) (op : C) (env : Env) (h : H) : Option (V × H):=match op with
  | .P x => match evP x env with
    | some v => some (v,h)
    | none => none
  | .L x => match evL x env h with
    | some v => some (v,h)
    | none => none
  | .A x => match evA x env with
    | some r => some (r.2.at h.nb,h.alloc r.1)
    | none => none
  | .E x => evE call x env h
structure CO where
  d : Option Nat
  op : C
  g : Option (Nat × Bool)
  deriving Inhabited
structure PI where
  ix : Nat
  co : CO
  skip : Nat
  back : Nat
  deriving Inhabited
inductive K where
  | skip
  | reg (ops : List CO)
  | dreg (ops : List PI)
  | seq (a b : K)
  | cond (c : O) (a b : K)
  | block (id : Nat) (a : K)
  | loop (a : K)
  | exit (id : Nat)
  | ret
  | bad
  | fin (ki ko kr ke : List Nat) (nb : Nat) (kt : List Nat) (a : K)
  deriving Inhabited
def inL (l : List Nat) (d : Nat) : Bool:=l.any (Nat.beq d)
mutual
def lowV (nb : Nat) (kt : List Nat) : V → Bool
  | .p b _ => Nat.ble (b + 1) nb
  | .sl b _ _ _ _ _ => Nat.ble (b + 1) nb
  | .a cs => lowL nb kt cs
  | .t vs => lowL nb kt vs
  | .fn _ a b => lowL nb kt a && lowL nb kt b
  | .fz m _ _ _ => match m with
    | .tk k _ => inL kt k
    | _ => true
  | _ => true
def lowL (nb : Nat) (kt : List Nat) : List V → Bool
  | [] => true
  | v :: vs => lowV nb kt v && lowL nb kt vs
end
def keepE (nb : Nat) (kt : List Nat) (env : Env) : List Nat → Env → Option Env
  | [],acc => some acc
  | t :: ts,acc => match env.get t with
    | none => keepE nb kt env ts acc
    | some v => bif lowV nb kt v then keepE nb kt env ts (acc.set t v) else none
def keepB (nb : Nat) (kt : List Nat) (bl : T Blk) : Nat → Nat → T Blk → Option (T Blk)
  | 0,_,acc => some acc
  | n + 1,i,acc => match bl.get i with
    | none => keepB nb kt bl n (i + 1) acc
    | some k => bif Nat.beq k.grp i && lowL nb kt k.cells then keepB nb kt bl n (i + 1) (acc.set i k) else none
def keepT (tk : T (Nat × Nat × Nat)) : List Nat → T (Nat × Nat × Nat) → T (Nat × Nat × Nat)
  | [],acc => acc
  | k :: ks,acc => match tk.get k with
    | none => keepT tk ks acc
    | some r => keepT tk ks (acc.set k r)
def T.keys {α : Type} : (Nat → Bool) → T α → Bool
  | _,.e => true
  | p,.n l v r => (match v with
    | none => true
    | some _ => p 0) && l.keys (fun k => p (2 * k + 1)) && r.keys (fun k => p (2 * k + 2))
def rst (keep : List Nat) (nb : Nat) (kt : List Nat) (env : Env) (h : H) : Option (Env × H):=match keepE nb kt env keep .e with
  | none => none
  | some env' => match keepB nb kt h.bl nb 0 .e with
    | none => none
    | some bl => some (env',⟨nb,bl,.e,keepT h.tk kt .e⟩)
inductive X where
  | nrm
  | exit (id : Nat)
  | ret
  deriving Inhabited
def putE (env : Env) (d : Option Nat) (v : V) : Env:=match d with
  | some d => env.set d v
  | none => env
def wantG (env : Env) : Option (Nat × Bool) → Option Bool
  | none => some true
  | some g => match env.get g.1 with
    | some (.b x) => some (x == g.2)
    | some .u => some false
    | _ => none
def evOps (call : Call) : List CO → Env → H → Option (Env × H)
  | [],env,h => some (env,h)
  | o :: os,env,h => match wantG env o.g with
    | none => none
    | some false => evOps call os (putE env o.d .u) h
    | some true => match evC call o.op env h with
      | none => none
      | some r => evOps call os (putE env o.d r.1) r.2
def recheck (op : LC) (env : Env) (v : V) : Nat → List H → Bool
  | 0,_ => true
  | n + 1,h :: hs => match evL op env h with
    | some v' => V.eqv v v' && recheck op env v n hs
    | none => false
  | _ + 1,[] => false
def evPlan (call : Call) : List PI → Env → H → List H → Option (Env × H)
  | [],env,h,_ => some (env,h)
  | o :: os,env,h,hs => match wantG env o.co.g with
    | none => none
    | some false => match o.co.op with
      | .E _ => evPlan call os (putE env o.co.d .u) h (h :: hs)
      | _ => evPlan call os (putE env o.co.d .u) h hs
    | some true => match evC call o.co.op env h with
      | none => none
      | some r => match o.co.op with
        | .E _ => evPlan call os (putE env o.co.d r.1) r.2 (r.2 :: hs)
        | .L op => bif recheck op env r.1 o.back (dropN hs o.skip) then evPlan call os (putE env o.co.d r.1) r.2 hs else none
        | _ => evPlan call os (putE env o.co.d r.1) r.2 hs
def iter (f : Env → H → Option (X × Env × H)) : Nat → Env → H → Option (X × Env × H)
  | 0,_,_ => none
  | n + 1,env,h => match f env h with
    | none => none
    | some r => match r.1 with
      | .nrm => iter f n r.2.1 r.2.2
      | _ => some r
def finX (ko kr ke : List Nat) (nb : Nat) (kt : List Nat) (r : X × Env × H) : Option (X × Env × H):=match rst (match r.1 with
    | .nrm => ko
    | .ret => kr
    | .exit _ => ke) nb kt r.2.1 r.2.2 with
  | none => none
  | some t => some (r.1,t)
def evK (call : Call) (lf : Nat) : K → Env → H → Option (X × Env × H)
  | .skip,env,h => some (.nrm,env,h)
  | .reg ops,env,h => match evOps call ops env h with
    | some r => some (.nrm,r)
    | none => none
  | .dreg ops,env,h => match evPlan call ops env h [h] with
    | some r => some (.nrm,r)
    | none => none
  | .seq a b,env,h => match evK call lf a env h with
    | none => none
    | some r => match r.1 with
      | .nrm => evK call lf b r.2.1 r.2.2
      | _ => some r
  | .cond c a b,env,h => match c.ev env with
    | some (.b x) => bif x then evK call lf a env h else evK call lf b env h
    | _ => none
  | .block id a,env,h => match evK call lf a env h with
    | none => none
    | some r => match r.1 with
      | .exit id' => bif Nat.beq id' id then some (.nrm,r.2) else some r
      | _ => some r
  | .loop a,env,h => iter (evK call lf a) lf env h
  | .exit id,env,h => some (.exit id,env,h)
  | .ret,env,h => some (.ret,env,h)
  | .bad,_,_ => none
  | .fin ki ko kr ke nb kt a,env,h => bif Nat.ble h.nb nb && h.tk.keys (inL kt) then (match rst ki nb kt env h with
    | none => none
    | some s => match evK call lf a s.1 s.2 with
      | none => none
      | some r => finX ko kr ke nb kt r) else none
inductive R where
  | t (n : Nat)
  | c1 (n : Nat)
  | cn (n sz : Nat)
  deriving Inhabited
def R.ev (env : Env) (h : H) : R → Option V
  | .t n => env.get n
  | .c1 n => match env.get n with
    | some (.p b o) => h.ld1 b o
    | _ => none
  | .cn n sz => match env.get n with
    | some (.p b o) => match h.ldn b o sz with
      | some cs => some (.a cs)
      | none => none
    | _ => none
def resV (env : Env) (h : H) : List R → Option (List V)
  | [] => some []
  | r :: rs => match r.ev env h with
    | none => none
    | some v => match resV env h rs with
      | none => none
      | some vs => some (v :: vs)
structure F where
  np : Nat
  nt : Nat
  body : K
  res : List R
  deriving Inhabited
def envOf : List V → Nat → Env → Env
  | [],_,env => env
  | v :: vs,n,env => envOf vs (n + 1) (env.set n v)
def packR : List V → V
  | [v] => v
  | [] => .u
  | vs => .t vs
def runF (call : Call) (lf : Nat) (f : F) (args : List V) (h : H) : Option (V × H):=
  bif Nat.beq (len args) f.np then
    match evK call lf f.body (envOf args 0 .e) h with
    | some r =>
      match r.1 with
      | .exit _ => none
      | _ => match resV r.2.1 r.2.2 f.res with
        | some vs => some (packR vs,r.2.2)
        | none => none
    | none => none
  else none
def ev (tab : Nat → Option F) (lf : Nat) : Nat → Call
  | 0,_,_,_ => none
  | n + 1,f,args,h => match tab f with
    | none => none
    | some fn => runF (ev tab lf n) lf fn args h
end
end Go.Ev
