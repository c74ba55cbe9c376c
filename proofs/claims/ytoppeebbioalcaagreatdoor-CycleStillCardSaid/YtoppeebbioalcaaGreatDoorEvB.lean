/- The evaluator: compiling; the relation of its values to the model's; pure operations. -/
import Derived.Test.YtoppeebbioalcaaGreatDoorEvA
import GoSem.Core.Layout
import Derived.Laws.Cells
import Derived.Laws.Append
import Derived.Laws.MakeOwn
import Derived.Laws.IdiomCopy
import Derived.Laws.Strings
import Derived.Laws.BitsAllLaws
import Derived.IntWalk
import Derived.Laws.StructEq
set_option linter.all false
namespace Go.Ev
noncomputable section

def toV1 : Value → Option V
  | .bool x => some (.b x)
  | .int k n => some (.i k n)
  | .string s => some (.s (s.data.toList.map (·.toNat)))
  | .pointer none => some .pn
  | .slice none 0 0 => some .sn
  | .nilFunc => some (.c .nilFunc)
  | .nilIface => some (.c .nilIface)
  | .map none => some (.c (.map none))
  | _ => none

def mapO {α β : Type} (f : α → Option β) : List α → Option (List β)
  | [] => some []
  | x :: xs => match f x with
    | none => none
    | some y => match mapO f xs with
      | none => none
      | some ys => some (y :: ys)

def toV : Value → Option V
  | .agg cs => match mapO toV1 cs.toList with
    | some l => some (.a l)
    | none => none
  | .tuple vs => match vs.toList with
    | [] => some .u
    | _ => none
  | v => toV1 v

/-- the listed variables,and what they hold -/
abbrev GL:=List (Nat × List V)

def gGet : GL → Nat → Option (List V)
  | [],_ => none
  | p :: ps,g => bif Nat.beq p.1 g then some p.2 else gGet ps g

def toO (G : GL) : Operand → Option O
  | .tmp t => some (.t t)
  | .const v => match toV v with
    | some v => some (.k v)
    | none => none
  | .global g => match gGet G g with
    | some vs => some (.k (.pf vs))
    | none => none
  | .func f => some (.k (.fn f [] []))

/-- an operand without a right; q: the size of an element,of a nil slice -/
def toD (G : GL) (q : Nat) (x : Operand) : Option O:=match x with
  | .tmp t => some (.d t)
  | .const (.slice none 0 0) => some (.k (.fz .no 0 q []))
  | x => toO G x

def toOs (G : GL) (l : List Operand) : Option (List O):=mapO (toO G) l

def optO (G : GL) : Option Operand → Option (Option O)
  | none => some none
  | some o => match toO G o with
    | some o => some (some o)
    | none => none

def aop : BinOp → AOp
  | .add => .add | .sub => .sub | .mul => .mul | .quo => .quo | .rem => .rem | .and => .and | .or => .or | .xor => .xor | .shl => .shl | .shr => .shr
  | .andNot => .andNot | .eql => .eql | .neq => .neq | .lss => .lss | .leq => .leq | .gtr => .gtr | .geq => .geq

/-- are zero slices written plainly? -/
def plainG (G : GL) : Bool:=G.any fun p => match p.2 with
  | [] => true
  | _ => false

section
variable (P : Program)

def aggT (t : TypeId) : Option Bool:=match P.underlying t with
  | some (.struct _) => some true
  | some (.array _ _) => some true
  | some _ => some false
  | none => none

def sizeT (t : TypeId) : Option Nat:=match P.info? t with
  | some i => some i.size
  | none => none

def bytesT (t : TypeId) : Option Nat:=match P.info? t with
  | some i => some i.bytes
  | none => none

/-- the size of a slice's element -/
def elemQ (t : TypeId) : Nat:=match P.underlying t with
  | some (.slice e) => match sizeT P e with
    | some (n + 1) => n + 1
    | _ => 1
  | _ => 1

/-- the sizes of the elements of a type's slices -/
def nilQs : Nat → TypeId → List Nat
  | 0,_ => []
  | n + 1,t => match P.underlying t with
    | some (.slice _) => [elemQ P t]
    | some (.struct fs) => (fs.toList.map fun f => nilQs n f.type).flatten
    | some (.array k e) => (List.replicate k (nilQs n e)).flatten
    | _ => []

/-- nil slices as frozen ones -/
def canonZ : List Nat → List V → List V
  | _,[] => []
  | qs,v :: vs => match v with
    | .sn => match qs with
      | [] => .fz .no 0 1 [] :: canonZ [] vs
      | q :: qs => .fz .no 0 q [] :: canonZ qs vs
    | v => v :: canonZ qs vs

/-- the cells of a type's zero value -/
def zeroT (pz : Bool) (t : TypeId) : Option (List V):=match P.info? t with
  | some i => match i.zero with
    | some v => match toV v with
      | some v => match v.cells? with
        | some cs => bif pz then some cs else bif (nilQs P 8 t).all (Nat.ble 1) then some (canonZ (nilQs P 8 t) cs) else none
        | none => none
      | none => none
    | none => none
  | none => none

def elemT (t : TypeId) : Option TypeId:=match P.underlying t with
  | some (.slice e) => some e
  | _ => none

def isByte (t : TypeId) : Bool:=match P.underlying t with
  | some (.int .u8) => true
  | _ => false

/-- the kinds of a type's cells,if its values can be held against one another cell by cell -/
def repK : Nat → List Kd → List Kd
  | 0,_ => []
  | n + 1,l => app l (repK n l)

def kindsS (f : TypeId → Option (List Kd)) : List Field → Nat → Option (List Kd)
  | [],_ => some []
  | x :: xs,o => match f x.type with
    | none => none
    | some l => match sizeT P x.type with
      | none => none
      | some n => bif x.name != "_" && Nat.beq x.offset o && Nat.beq n (len l) then
          match kindsS f xs (o + n) with
          | some r => some (app l r)
          | none => none
        else none

def kindsT : Nat → TypeId → Option (List Kd)
  | 0,_ => none
  | d + 1,t => match P.underlying t with
    | some .bool => some [.b]
    | some (.int _) => some [.i]
    | some .string => some [.s]
    | some (.struct fs) => bif P.stoodInHeld t then none else kindsS P (kindsT d) fs.toList 0
    | some (.array n e) => match kindsT d e with
      | none => none
      | some l => match sizeT P e with
        | none => none
        | some m => bif Nat.beq m (len l) then some (repK n l) else none
    | _ => none

def fieldsT (t : TypeId) : Option (Array Field):=match P.underlying t with
  | some (.struct fs) => some fs
  | _ => none

variable (G : GL)

/-- the parts of a struct's value -/
def partsS (fs : Array Field) : List (Nat × Operand) → Option (List (Nat × Nat × O))
  | [] => some []
  | (i,x) :: ps => match fs[i]? with
    | none => none
    | some f => match sizeT P f.type with
      | none => none
      | some s => match toD G (elemQ P f.type) x with
        | none => none
        | some x => match partsS fs ps with
          | none => none
          | some l => some ((f.offset,s,x) :: l)

def partsA (q s : Nat) : List (Nat × Operand) → Option (List (Nat × Nat × O))
  | [] => some []
  | (i,x) :: ps => match toD G q x with
    | none => none
    | some x => match partsA q s ps with
      | none => none
      | some l => some ((i * s,s,x) :: l)

def isNilS : Operand → Bool
  | .const (.slice none 0 0) => true
  | _ => false

def isCmp : BinOp → Option Bool
  | .eql => some false
  | .neq => some true
  | _ => none

def c2 (f : O → O → PC) (x y : Operand) : Option PC:=match toO G x with
  | none => none
  | some x => match toO G y with
    | none => none
    | some y => some (f x y)

def cBin (b : BinOp) (t : TypeId) (x y : Operand) : Option PC:=match P.underlying t with
  | some (.int _) => c2 G (.bin (aop b)) x y
  | some .string => c2 G (.bin (aop b)) x y
  | some .bool => c2 G (.binB (aop b)) x y
  | some (.slice _) => match isCmp b with
    | none => none
    | some neg => bif isNilS y then (match toO G x with
        | some x => some (.eqNil neg x)
        | none => none) else none
  | some _ => match isCmp b with
    | none => none
    | some neg => match aggT P t with
      | some true => match kindsT P 20 t with
        | some ks => bif Nat.ble 20 P.depth then c2 G (.eqA ks neg) x y else none
        | none => none
      | _ => none
  | none => none

def cSlice (t : TypeId) (x : Operand) (lo hi mx : Option Operand) : Option PC:=match toO G x with
  | none => none
  | some x => match optO G lo with
    | none => none
    | some lo => match P.underlying t with
      | some (.slice e) => match sizeT P e with
        | none => none
        | some s => match mx with
          | none => match optO G hi with
            | some hi => some (.slS s x lo hi)
            | none => none
          | some m => match toO G m with
            | none => none
            | some m => match hi with
              | none => none
              | some hi => match toO G hi with
                | some hi => some (.slS3 s x lo hi m)
                | none => none
      | some .string => match mx with
        | none => match optO G hi with
          | some hi => some (.slStr x lo hi)
          | none => none
        | some _ => none
      | _ => none

def cLen (t : TypeId) (x : Operand) : Option PC:=match P.underlying t with
  | some (.slice _) => match toO G x with
    | some x => some (.len x)
    | none => none
  | some .string => match toO G x with
    | some x => some (.lenS x)
    | none => none
  | some (.array n _) => some (.lenC n)
  | some (.pointer a) => match P.underlying a with
    | some (.array n _) => some (.lenC n)
    | _ => none
  | _ => none

def cBuiltP (b : Builtin) (types : Array TypeId) (args : Array Operand) : Option PC:=match b with
  | .len => match types[0]? with
    | none => none
    | some t => match args[0]? with
      | none => none
      | some x => cLen P G t x
  | .cap => match types[0]? with
    | none => none
    | some t => match args[0]? with
      | none => none
      | some x => match P.underlying t with
        | some (.slice _) => match toO G x with
          | some x => some (.cap x)
          | none => none
        | _ => none
  | .min => match toOs G args.toList with
    | some l => some (.mn l)
    | none => none
  | .max => match toOs G args.toList with
    | some l => some (.mx l)
    | none => none
  | _ => none

def cConv (s d : TypeId) (x : Operand) : Option C:=match toO G x with
  | none => none
  | some x => match P.underlying s with
    | none => none
    | some _ => match P.underlying d with
      | some (.int k) => some (.P (.cvt k x))
      | _ => none

def cP (op : Op) : Option PC:=match op with
  | .move x => match toO G x with
    | some x => some (.mv x)
    | none => none
  | .assign x => match toO G x with
    | some x => some (.mv x)
    | none => none
  | .pick c a b => match toO G c with
    | none => none
    | some c => c2 G (.pick c) a b
  | .build t ps => match zeroT P (plainG G) t with
    | none => none
    | some z => match P.underlying t with
      | some (.struct fs) => bif fs.toList.all (fun f => (sizeT P f.type).isSome) then match partsS P G fs ps.toList with
        | some l => some (.build z l)
        | none => none
        else none
      | some (.array _ e) => match sizeT P e with
        | none => none
        | some s => match partsA G (elemQ P e) s ps.toList with
          | some l => some (.build z l)
          | none => none
      | _ => none
  | .nilCheck x => match toO G x with
    | some x => some (.nilck x)
    | none => none
  | .binOp b t x y _ => cBin P G b t x y
  | .unOp u _ x => match toO G x with
    | some x => some (.un u x)
    | none => none
  | .makeFunc (.func f) a b => match toOs G a.toList with
    | none => none
    | some a => match toOs G b.toList with
      | some b => some (.mkf f a b)
      | none => none
  | .slice t x lo hi mx => cSlice P G t x lo hi mx
  | .fieldAddr t x f => match fieldsT P t with
    | none => none
    | some fs => match fs[f]? with
      | none => none
      | some f => match sizeT P f.type with
        | some (_ + 1) => match toO G x with
          | some x => some (.fa f.offset x)
          | none => none
        | _ => none
  | .field t x f => match fieldsT P t with
    | none => none
    | some fs => match fs[f]? with
      | none => none
      | some f => match toO G x with
        | none => none
        | some x => match aggT P f.type with
          | some true => match sizeT P f.type with
            | some n => some (.fldn f.offset n x)
            | none => none
          | some false => some (.fld1 f.offset x)
          | none => none
  | .indexAddr t x i => match P.underlying t with
    | some (.array n e) => match sizeT P e with
      | none => none
      | some s => c2 G (.ixA n s) x i
    | some (.slice e) => match sizeT P e with
      | none => none
      | some s => c2 G (.ixS s) x i
    | _ => none
  | .index t x i => match P.underlying t with
    | some (.array n e) => match aggT P e with
      | none => none
      | some true => match sizeT P e with
        | none => none
        | some s => c2 G (.idAn n s) x i
      | some false => match sizeT P e with
        | some 1 => c2 G (.idA1 n) x i
        | _ => none
    | some .string => c2 G .idStr x i
    | _ => none
  | .extract x i => match toO G x with
    | some x => some (.ext x i)
    | none => none
  | .call c => match c.callee with
    | .builtin b => cBuiltP P G b c.argTypes c.args
    | _ => none
  | _ => none

def cSlA (t : TypeId) (x : Operand) (lo hi mx : Option Operand) : Option LC:=match P.underlying t with
  | some (.array n e) => match mx with
    | some _ => none
    | none => match sizeT P e with
      | none => none
      | some s => match toO G x with
        | none => none
        | some x => match optO G lo with
          | none => none
          | some lo => match optO G hi with
            | none => none
            | some hi => some (.slA n s x lo hi)
  | _ => none

def cL (op : Op) : Option LC:=match op with
  | .slice t x lo hi mx => cSlA P G t x lo hi mx
  | .load t a => match toO G a with
    | none => none
    | some a => match aggT P t with
      | some true => match sizeT P t with
        | some n => some (.ldn n a)
        | none => none
      | some false => some (.ld1 a)
      | none => none
  | _ => none

def cA (op : Op) : Option AC:=match op with
  | .alloc t => match zeroT P (plainG G) t with
    | some z => some (.alloc z)
    | none => none
  | .box t x => match toD G (elemQ P t) x with
    | some x => some (.box x)
    | none => none
  | .buildSlice t n ps => match elemT P t with
    | none => none
    | some e => match sizeT P e with
      | none => none
      | some s => match zeroT P (plainG G) e with
        | none => none
        | some z => match partsA G (elemQ P e) s ps.toList with
          | some l => bif Nat.beq (len z) s && Nat.ble 1 s && Nat.ble (n * s) 16777216 then some (.buildSl s n (repl n z) l) else none
          | none => none
  | .makeSlice t l c => match elemT P t with
    | none => none
    | some e => match sizeT P e with
      | none => none
      | some s => match zeroT P (plainG G) e with
        | none => none
        | some z => match bytesT P e with
          | none => none
          | some b => match toO G l with
            | none => none
            | some l => match toO G c with
              | some c => bif Nat.beq (len z) s && Nat.ble 1 s then some (.mkSl s b z l c) else none
              | none => none
  | _ => none

def cApp (types : Array TypeId) (args : Array Operand) : Option EC:=match types[0]? with
  | none => none
  | some t => match types[1]? with
    | none => none
    | some u => match args[0]? with
      | none => none
      | some x => match toO G x with
        | none => none
        | some x => match args[1]? with
          | none => none
          | some y => match toO G y with
            | none => none
            | some y => match elemT P t with
              | none => none
              | some e => match sizeT P e with
                | none => none
                | some s => match bytesT P e with
                  | none => none
                  | some b => match zeroT P (plainG G) e with
                    | none => none
                    | some z => bif Nat.beq (len z) s && Nat.ble 1 s then
                        match P.underlying u with
                        | some (.slice _) => some (.appS s b x y)
                        | some (.int _) => some (.appZ s b z x y)
                        | _ => none
                      else none

def cCopy (types : Array TypeId) (args : Array Operand) : Option EC:=match types[0]? with
  | none => none
  | some t => match types[1]? with
    | none => none
    | some u => match args[0]? with
      | none => none
      | some x => match toO G x with
        | none => none
        | some x => match args[1]? with
          | none => none
          | some y => match toO G y with
            | none => none
            | some y => match elemT P t with
              | none => none
              | some e => match sizeT P e with
                | none => none
                | some s => match P.underlying u with
                  | some (.slice _) => some (.copyS s x y)
                  | _ => none

def cE (op : Op) : Option EC:=match op with
  | .store t a x => match toO G a with
    | none => none
    | some a => match toD G (elemQ P t) x with
      | none => none
      | some x => match sizeT P t with
        | none => none
        | some n => match aggT P t with
          | some true => some (.stn n a x)
          | some false => bif Nat.beq n 1 then some (.st1 a x) else none
          | none => none
  | .makeMap _ none => some .mkMap
  | .call c => match toOs G c.args.toList with
    | none => none
    | some args => match c.callee with
      | .value (.func f) => some (.call f args)
      | .value x => match toO G x with
        | some x => some (.callv x args)
        | none => none
      | .invoke _ _ => none
      | .builtin .append => cApp P G c.argTypes c.args
      | .builtin .copy => cCopy P G c.argTypes c.args
      | _ => none
  | _ => none

/-- how a function is compiled: which temporaries hold slices that lie in blocks,which hold slices that begin to grow; which callees share the heap,which look at their first argument's block; the tokens' first number -/
structure Hint where
  dyn : List Nat
  acc : List Nat
  sfn : List Nat
  mfn : List Nat
  frb : List Nat
  base : Nat
  deriving Inhabited

def toDs : List TypeId → List Operand → Option (List O)
  | _,[] => some []
  | ts,x :: xs => match toD G (match ts with
      | [] => 1
      | t :: _ => elemQ P t) x with
    | none => none
    | some o => match toDs (match ts with
      | [] => []
      | _ :: ts => ts) xs with
      | none => none
      | some os => some (o :: os)

def qsT (ts : List TypeId) : List Nat:=ts.map (elemQ P)

/-- append under a token -/
def cAppT (k : Nat) (types : Array TypeId) (args : Array Operand) : Option EC:=match types[0]? with
  | none => none
  | some t => match types[1]? with
    | none => none
    | some u => match args[0]? with
      | none => none
      | some x => match toO G x with
        | none => none
        | some x => match args[1]? with
          | none => none
          | some y => match toO G y with
            | none => none
            | some y => match elemT P t with
              | none => none
              | some e => match sizeT P e with
                | none => none
                | some s => match bytesT P e with
                  | none => none
                  | some b => match zeroT P (plainG G) e with
                    | none => none
                    | some z => bif Nat.beq (len z) s && Nat.ble 1 s then
                        match P.underlying u with
                        | some (.slice _) => some (.appT s b k x y)
                        | _ => none
                      else none

/-- slices that are made of nothing,and frozen ones -/
def cBldF (k : Nat) (t : TypeId) (n : Nat) (ps : List (Nat × Operand)) : Option EC:=match elemT P t with
  | none => none
  | some e => match sizeT P e with
    | none => none
    | some s => match zeroT P (plainG G) e with
      | none => none
      | some z => match partsA G (elemQ P e) s ps with
        | some l => bif Nat.beq (len z) s && Nat.ble 1 s && Nat.ble (n * s) 16777216 then
            (bif Nat.beq n 0 then (match l with
              | [] => some (.accB k s)
              | _ => none) else some (.bldF s n (repl n z) l)) else none
        | none => none

def cAcc (k : Nat) (q : Nat) (x : Operand) : Option EC:=bif isNilS x && Nat.ble 1 q then some (.acc k q (.k .sn)) else none

/-- a slice's cells,set to zero -/
def cClr (types : Array TypeId) (args : Array Operand) : Option EC:=match types[0]? with
  | none => none
  | some t => match args[0]? with
    | none => none
    | some x => match toO G x with
      | none => none
      | some x => match elemT P t with
        | none => none
        | some e => match sizeT P e with
          | none => none
          | some s => match zeroT P (plainG G) e with
            | none => none
            | some z => bif Nat.beq (len z) s && Nat.ble 1 s then some (.clr s z x) else none

def fnQs (f : Nat) : List Nat:=match P.funcs[f]? with
  | some fn => qsT P fn.resultTypes.toList
  | none => []

def fnPs (f : Nat) : List TypeId:=match P.funcs[f]? with
  | some fn => fn.params.toList
  | none => []

/-- the operations that are compiled as the hint tells -/
def cH (X : Hint) (o : Oper) : Option EC:=match o.dst with
  | none => match o.op with
    | .call c => match c.callee with
      | .value (.func f) => bif inL X.sfn f then none else match toDs P G (fnPs P f) c.args.toList with
        | some args => bif inL X.mfn f then some (.callM f (fnQs P f) args) else some (.callP f (fnQs P f) args)
        | none => none
      | .builtin .clear => cClr P G c.argTypes c.args
      | _ => none
    | _ => none
  | some d => bif inL X.dyn d then none else match o.op with
    | .box t x => bif inL X.frb d then (match toD G (elemQ P t) x with
      | some x => some (.boxF x)
      | none => none) else none
    | .buildSlice t n ps => cBldF P G (X.base + d) t n ps.toList
    | .move x => bif inL X.acc d then cAcc (X.base + d) (elemQ P o.type) x else none
    | .assign x => bif inL X.acc d then cAcc (X.base + d) (elemQ P o.type) x else none
    | .call c => match c.callee with
      | .builtin .append => cAppT P G (X.base + d) c.argTypes c.args
      | .builtin .clear => cClr P G c.argTypes c.args
      | .value (.func f) => bif inL X.sfn f then none else match toDs P G (fnPs P f) c.args.toList with
        | some args => bif inL X.acc d then some (.callT (X.base + d) f args) else bif inL X.mfn f then some (.callM f (fnQs P f) args) else some (.callP f (fnQs P f) args)
        | none => none
      | .value x => match toO G x with
        | none => none
        | some x => match toDs P G [] c.args.toList with
          | some args => some (.callvP x [] args)
          | none => none
      | _ => none
    | _ => none

def cC (op : Op) : Option C:=match op with
  | .convert s d x => cConv P G s d x
  | op => match cP P G op with
    | some c => some (.P c)
    | none => match cL P G op with
      | some c => some (.L c)
      | none => match cA P G op with
        | some c => some (.A c)
        | none => match cE P G op with
          | some c => some (.E c)
          | none => none

def cG (ops : Array Oper) : Option (Nat × Bool) → Option (Option (Nat × Bool))
  | none => some none
  | some (j,w) => match ops[j]? with
    | none => none
    | some o => match o.dst with
      | some d => some (some (d,w))
      | none => none

def dstOk (nt : Nat) : Option Nat → Bool
  | none => true
  | some d => Nat.ble (d + 1) nt

def cCX (X : Hint) (o : Oper) : Option C:=match cH P G X o with
  | some c => some (.E c)
  | none => cC P G o.op

variable (X : Hint)

def cCO (nt : Nat) (ops : Array Oper) (o : Oper) : Option CO:=match cCX P G X o with
  | none => none
  | some c => match cG ops o.guard with
    | none => none
    | some g => bif dstOk nt o.dst then some ⟨o.dst,c,g⟩ else none

def cReg (nt : Nat) (ops : Array Oper) : List Oper → Option (List CO)
  | [] => some []
  | o :: os => match cCO P G X nt ops o with
    | none => none
    | some c => match cReg nt ops os with
      | none => none
      | some l => some (c :: l)

/-! drawn regions -/

def isE : C → Bool
  | .E _ => true
  | _ => false
def isA : C → Bool
  | .A _ => true
  | _ => false
def isL : C → Bool
  | .L _ => true
  | _ => false

def binding (o : Oper) : List Nat:=(o.after.toList.filter (Region.binds .any)).map (·.on)

/-- what stands ahead of an operation,as bits,out of what stands ahead of those it waits for -/
def clOf (cl : T Nat) : List Nat → Option Nat
  | [] => some 0
  | e :: es => match cl.get e with
    | none => none
    | some m => match clOf cl es with
      | none => none
      | some r => some ((m ||| 2 ^ e) ||| r)

structure PS where
  cl : T Nat
  done : Nat
  effs : List Nat
  alloc : Bool

def guardIn (m : Nat) : Option (Nat × Bool) → Bool
  | none => true
  | some w => Nat.testBit m w.1

def countIn (m : Nat) : List Nat → Nat
  | [] => 0
  | e :: es => (bif Nat.testBit m e then 1 else 0) + countIn m es

def goPlan (nt : Nat) (ops : Array Oper) : List Nat → PS → Option (List PI × PS)
  | [],s => some ([],s)
  | i :: is,s => match ops[i]? with
    | none => none
    | some o => match cCO P G X nt ops o with
      | none => none
      | some c => match clOf s.cl (binding o) with
        | none => none
        | some m =>
          bif !Nat.testBit s.done i && guardIn m o.guard && (!isE c.op || Nat.beq m s.done) then
            match goPlan nt ops is ⟨s.cl.set i m,s.done ||| 2 ^ i,bif isE c.op then i :: s.effs else s.effs,bif isE c.op then false else s.alloc || isA c.op⟩ with
            | none => none
            | some (l,s') =>
              let skip:=bif s.alloc then 0 else 1
              some (⟨i,c,skip,bif isL c.op then len s.effs - countIn m s.effs + 1 - skip else 0⟩ :: l,s')
          else none

/-- the temporaries that an operation looks at -/
def O.tm : O → List Nat
  | .t n => [n]
  | .k _ => []
  | .d n => [n]
def tms : List O → List Nat
  | [] => []
  | o :: os => o.tm ++ tms os
def tmo : Option O → List Nat
  | none => []
  | some o => o.tm
def tmp3 : List (Nat × Nat × O) → List Nat
  | [] => []
  | p :: ps => p.2.2.tm ++ tmp3 ps
def PC.tm : PC → List Nat
  | .mv x => x.tm
  | .pick c a b => c.tm ++ a.tm ++ b.tm
  | .build _ ps => tmp3 ps
  | .nilck x => x.tm
  | .fa _ x => x.tm
  | .fld1 _ x => x.tm
  | .fldn _ _ x => x.tm
  | .ixS _ x i => x.tm ++ i.tm
  | .ixA _ _ x i => x.tm ++ i.tm
  | .idA1 _ x i => x.tm ++ i.tm
  | .idAn _ _ x i => x.tm ++ i.tm
  | .idStr x i => x.tm ++ i.tm
  | .bin _ x y => x.tm ++ y.tm
  | .binB _ x y => x.tm ++ y.tm
  | .eqA _ _ x y => x.tm ++ y.tm
  | .eqNil _ x => x.tm
  | .un _ x => x.tm
  | .cvt _ x => x.tm
  | .slS _ x lo hi => x.tm ++ tmo lo ++ tmo hi
  | .slS3 _ x lo hi m => x.tm ++ tmo lo ++ hi.tm ++ m.tm
  | .slStr x lo hi => x.tm ++ tmo lo ++ tmo hi
  | .mkf _ a b => tms a ++ tms b
  | .len x => x.tm
  | .lenS x => x.tm
  | .lenC _ => []
  | .cap x => x.tm
  | .mn xs => tms xs
  | .mx xs => tms xs
  | .ext x _ => x.tm
def LC.tm : LC → List Nat
  | .ld1 a => a.tm
  | .ldn _ a => a.tm
  | .b2s x => x.tm
  | .slA _ _ x lo hi => x.tm ++ tmo lo ++ tmo hi
def AC.tm : AC → List Nat
  | .box x => x.tm
  | .alloc _ => []
  | .buildSl _ _ _ ps => tmp3 ps
  | .mkSl _ _ _ l c => l.tm ++ c.tm
  | .s2b x => x.tm
def EC.tm : EC → List Nat
  | .appT _ _ _ x y => x.tm ++ y.tm
  | .callT _ _ args => tms args
  | .acc _ _ x => x.tm
  | .accB _ _ => []
  | .bldF _ _ _ ps => tmp3 ps
  | .callP _ _ args => tms args
  | .callvP x _ args => x.tm ++ tms args
  | .callM _ _ args => tms args
  | .boxF x => x.tm
  | .clr _ _ x => x.tm
  | .st1 a x => a.tm ++ x.tm
  | .stn _ a x => a.tm ++ x.tm
  | .call _ args => tms args
  | .callv x args => x.tm ++ tms args
  | .appS _ _ x y => x.tm ++ y.tm
  | .appStr _ x y => x.tm ++ y.tm
  | .appZ _ _ _ x n => x.tm ++ n.tm
  | .copyS _ x y => x.tm ++ y.tm
  | .copyStr x y => x.tm ++ y.tm
  | .mkMap => []
def C.tm : C → List Nat
  | .P x => x.tm
  | .L x => x.tm
  | .A x => x.tm
  | .E x => x.tm
def CO.tm (c : CO) : List Nat:=(match c.g with
  | none => []
  | some g => [g.1]) ++ c.op.tm

/-- does i wait for j? -/
def clB (cl : T Nat) (i j : Nat) : Bool:=match cl.get i with
  | some m => Nat.testBit m j
  | none => false

/-- of p,that q writes nothing of it out of order -/
def pairOk (cl : T Nat) (p q : PI) : Bool:=match q.co.d with
  | none => true
  | some d =>
    bif Nat.beq p.ix q.ix then !p.co.tm.any (Nat.beq d) else
      !(match p.co.d with
        | some e => Nat.beq d e
        | none => false) &&
      (!p.co.tm.any (Nat.beq d) || clB cl p.ix q.ix || clB cl q.ix p.ix)

def pairsOk (cl : T Nat) (l : List PI) : Bool:=l.all fun p => l.all fun q => pairOk cl p q

def cPlan (nt : Nat) (ops : Array Oper) (order : List Nat) : Option (List PI):=
  match goPlan P G X nt ops order ⟨.e,0,[],false⟩ with
  | none => none
  | some (l,s) => bif Nat.beq (len order) ops.size && pairsOk s.cl l then some l else none

def hd1 : List (List Nat) → List Nat
  | [] => []
  | l :: _ => l

def hdH : List (List (List Nat)) → List (List Nat)
  | [] => []
  | h :: _ => h

def tlH : List (List (List Nat)) → List (List (List Nat))
  | [] => []
  | _ :: hs => hs

/-- a piece of code that begins and ends thinned out,where the hint says so -/
def wrapF (f : List (List Nat)) (k : K) : K:=match f with
  | [ki,ko,kr,ke,nb :: kt] => .fin ki ko kr ke nb kt k
  | _ => k

def cK (nt : Nat) : Code → List (List (List Nat)) → K × List (List (List Nat))
  | .skip,hs => (.skip,hs)
  | .region _ ops false,hs => match cReg P G X nt ops ops.toList with
    | some l => (wrapF (hdH hs) (.reg l),tlH hs)
    | none => (.bad,tlH hs)
  | .region _ ops true,hs => match hs with
    | [] => (.bad,hs)
    | h :: hs => match cPlan P G X nt ops (hd1 h) with
      | some l => (wrapF (hdH hs) (.dreg l),tlH hs)
      | none => (.bad,tlH hs)
  | .seq a b,hs => let r:=cK nt a hs; let q:=cK nt b r.2; (.seq r.1 q.1,q.2)
  | .cond c a b,hs => match toO G c with
    | none => (.bad,hs)
    | some c => let r:=cK nt a (tlH hs); let q:=cK nt b r.2; (wrapF (hdH hs) (.cond c r.1 q.1),q.2)
  | .block i a,hs => let r:=cK nt a (tlH hs); (wrapF (hdH hs) (.block i r.1),r.2)
  | .loop a,hs => match hs with
    | [] => (.bad,[])
    | g :: hs => let r:=cK nt a hs; (.loop (wrapF g r.1),r.2)
  | .exit i,hs => (.exit i,hs)
  | .scope a,hs => cK nt a hs
  | .label _,hs => (.skip,hs)
  | .ret,hs => (.ret,hs)
  | _,hs => (.bad,hs)

def cR : ResultVar → Option R
  | .tmp t => some (.t t)
  | .cell a t => match aggT P t with
    | some true => match sizeT P t with
      | some n => some (.cn a n)
      | none => none
    | some false => some (.c1 a)
    | none => none

def cF (f : Func) (hs : List (List (List Nat))) : Option F:=match f.body with
  | none => none
  | some b => match mapO (cR P) f.results.toList with
    | none => none
    | some rs => bif Nat.ble (f.params.size + f.nfree) f.ntmps then some ⟨f.params.size + f.nfree,f.ntmps,(cK P G X f.ntmps b hs).1,rs⟩ else none

end
end
end Go.Ev
namespace Go.Ev

/-! trees -/

theorem T.get_e {α : Type} (k : Nat) : (T.e : T α).get k = none:=rfl
theorem bool_rec {β : Type} (x y : β) (b : Bool) : (Bool.rec (motive:=fun _ => β) x y b) = if b = true then y else x:=by cases b <;> rfl

theorem T.get_n {α : Type} (l : T α) (v : Option α) (r : T α) (k : Nat) :
    (T.n l v r).get k = if k = 0 then v else if k % 2 = 1 then l.get (k / 2) else r.get (k / 2 - 1):=by
  have h : (T.n l v r).get k = Bool.rec (motive:=fun _ => Option α) (Bool.rec (motive:=fun _ => Option α) (r.get (Nat.pred (Nat.div k 2))) (l.get (Nat.div k 2)) (Nat.beq (Nat.mod k 2) 1)) v (Nat.beq k 0):=rfl
  rw [h,bool_rec,bool_rec]
  simp only [Nat.beq_eq]
  rfl

theorem T.setF_e {α : Type} (x : α) (f k : Nat) : T.setF x (f + 1) .e k =
    if k = 0 then .n .e (some x) .e else if k % 2 = 1 then .n (T.setF x f .e (k / 2)) none .e else .n .e none (T.setF x f .e (k / 2 - 1)):=by
  have h : T.setF x (f + 1) .e k = Bool.rec (motive:=fun _ => T α) (Bool.rec (motive:=fun _ => T α) (.n .e none (T.setF x f .e (Nat.pred (Nat.div k 2)))) (.n (T.setF x f .e (Nat.div k 2)) none .e)  (Nat.beq (Nat.mod k 2) 1)) (.n .e (some x) .e) (Nat.beq k 0):=rfl
  rw [h,bool_rec,bool_rec]
  simp only [Nat.beq_eq]
  rfl
theorem T.setF_n {α : Type} (x : α) (f k : Nat) (l : T α) (v : Option α) (r : T α) : T.setF x (f + 1) (.n l v r) k =
    if k = 0 then .n l (some x) r else if k % 2 = 1 then .n (T.setF x f l (k / 2)) v r else .n l v (T.setF x f r (k / 2 - 1)):=by
  have h : T.setF x (f + 1) (.n l v r) k = Bool.rec (motive:=fun _ => T α) (Bool.rec (motive:=fun _ => T α) (.n l v (T.setF x f r (Nat.pred (Nat.div k 2)))) (.n (T.setF x f l (Nat.div k 2)) v r)  (Nat.beq (Nat.mod k 2) 1)) (.n l (some x) r) (Nat.beq k 0):=rfl
  rw [h,bool_rec,bool_rec]
  simp only [Nat.beq_eq]
  rfl

theorem T.get_setF {α : Type} (x : α) : ∀ (f : Nat) (t : T α) (k j : Nat),k < f → (T.setF x f t k).get j = if j = k then some x else t.get j:=by
  intro f
  induction f with
  | zero => intro t k j h; omega
  | succ f ih =>
    intro t k j h
    cases t with
    | e =>
      rw [T.setF_e]
      split
      · rename_i hk; subst hk
        rw [T.get_n]; simp only [T.get_e]
        (repeat' split) <;> simp_all
      · split
        · rw [T.get_n,ih _ _ _ (by omega)]; simp only [T.get_e]
          (repeat' split) <;> first | rfl | (exfalso; omega)
        · rw [T.get_n,ih _ _ _ (by omega)]; simp only [T.get_e]
          (repeat' split) <;> first | rfl | (exfalso; omega)
    | n l v r =>
      rw [T.setF_n]
      split
      · rename_i hk; subst hk
        rw [T.get_n,T.get_n]
        (repeat' split) <;> first | rfl | (exfalso; omega)
      · split
        · rw [T.get_n,T.get_n,ih _ _ _ (by omega)]
          (repeat' split) <;> first | rfl | (exfalso; omega)
        · rw [T.get_n,T.get_n,ih _ _ _ (by omega)]
          (repeat' split) <;> first | rfl | (exfalso; omega)

theorem T.get_set {α : Type} (t : T α) (k : Nat) (x : α) (j : Nat) : (t.set k x).get j = if j = k then some x else t.get j:=
  T.get_setF x (k + 1) t k j (by omega)

/-! lists -/

theorem len_eq {α : Type} (l : List α) : len l = l.length:=by induction l <;> simp_all [len]
theorem nth_eq {α : Type} (l : List α) (n : Nat) : nth l n = l[n]?:=by
  induction l generalizing n with
  | nil => simp [nth]
  | cons x xs ih =>
    simp only [nth,cond_eq_ite,Nat.beq_eq]
    split
    · rename_i h; subst h; rfl
    · rename_i h
      obtain ⟨m,rfl⟩ : ∃ m,n = m + 1:=⟨n - 1,by omega⟩
      simp [ih]
theorem dropN_eq {α : Type} (l : List α) (n : Nat) : dropN l n = l.drop n:=by
  induction l generalizing n with
  | nil => simp [dropN]
  | cons x xs ih =>
    simp only [dropN,cond_eq_ite,Nat.beq_eq]
    split
    · rename_i h; subst h; rfl
    · rename_i h
      obtain ⟨m,rfl⟩ : ∃ m,n = m + 1:=⟨n - 1,by omega⟩
      simp [ih]
theorem takeN_eq {α : Type} (l : List α) (n : Nat) : takeN l n = l.take n:=by
  induction l generalizing n with
  | nil => simp [takeN]
  | cons x xs ih =>
    simp only [takeN,cond_eq_ite,Nat.beq_eq]
    split
    · rename_i h; subst h; rfl
    · rename_i h
      obtain ⟨m,rfl⟩ : ∃ m,n = m + 1:=⟨n - 1,by omega⟩
      simp [ih]
theorem app_eq {α : Type} (x y : List α) : app x y = x ++ y:=by induction x <;> simp_all [app]

theorem length_putN {α : Type} (l : List α) (n : Nat) (m : List α) : (putN l n m).length = l.length:=by
  induction l generalizing n m with
  | nil => simp [putN]
  | cons x xs ih =>
    simp only [putN,cond_eq_ite,Nat.beq_eq]
    split
    · cases m <;> simp [ih]
    · simp [ih]

/-- what stands in an overwritten list -/
theorem get_putN {α : Type} (l : List α) (n : Nat) (m : List α) (j : Nat) :
    (putN l n m)[j]? = if n ≤ j ∧ j < n + m.length ∧ j < l.length then m[j - n]? else l[j]?:=by
  induction l generalizing n m j with
  | nil => simp [putN]
  | cons x xs ih =>
    simp only [putN,cond_eq_ite,Nat.beq_eq]
    split
    · rename_i h; subst h
      cases m with
      | nil => simp
      | cons y ys =>
        cases j with
        | zero => simp
        | succ j =>
          simp only [List.getElem?_cons_succ,ih,List.length_cons,Nat.sub_zero]
          split
          · rw [if_pos (by omega)]
          · rw [if_neg (by omega)]
    · rename_i h
      obtain ⟨q,rfl⟩ : ∃ q,n = q + 1:=⟨n - 1,by omega⟩
      cases j with
      | zero => simp
      | succ j =>
        simp only [List.getElem?_cons_succ,ih,List.length_cons,Nat.add_sub_cancel]
        split
        · rw [if_pos (by omega)]; congr 1; omega
        · rw [if_neg (by omega)]

/-! the relation -/

/-- where an abstract block lies: the block,the offset of its first cell,how many cells there are from there on -/
structure Phi where
  f : Nat → Option (Nat × Nat × Nat)
  /-- which blocks of memory are only read -/
  ro : Nat → Bool
  /-- what blocks of memory begin with,for good -/
  fz : Nat → Option (List Value)
  /-- a token's epoch,length and slice -/
  tk : Nat → Option (Nat × Nat × Value)

instance : CoeFun Phi (fun _ => Nat → Option (Nat × Nat × Nat)):=⟨Phi.f⟩

theorem Phi.eq {φ ψ : Phi} (h : ∀ b,φ b = ψ b) (r : φ.ro = ψ.ro) (z : φ.fz = ψ.fz) (t : φ.tk = ψ.tk) : φ = ψ:=by
  cases φ; cases ψ
  simp only at h r z t
  rw [r,z,t,(funext h : _ = _)]

/-- a token's state has gone on,or is as it was -/
def tkLe (e n : Nat) (v : Value) (e' n' : Nat) (v' : Value) : Prop:=e < e' ∨ (e = e' ∧ (n < n' ∨ (n = n' ∧ v = v')))

theorem tkLe.refl (e n : Nat) (v : Value) : tkLe e n v e n v:=.inr ⟨rfl,.inr ⟨rfl,rfl⟩⟩
theorem tkLe.trans {e n e' n' e2 n2 : Nat} {v v' v2 : Value} (h : tkLe e n v e' n' v') (k : tkLe e' n' v' e2 n2 v2) : tkLe e n v e2 n2 v2:=by
  rcases h with h | ⟨rfl,h | ⟨rfl,rfl⟩⟩ <;> rcases k with k | ⟨rfl,k | ⟨rfl,rfl⟩⟩
  all_goals first
    | exact .inl (by omega)
    | exact .inr ⟨rfl,.inl (by omega)⟩
    | exact .inr ⟨rfl,.inr ⟨rfl,rfl⟩⟩

structure Phi.le (φ ψ : Phi) : Prop where
  sub : ∀ b x,φ b = some x → ψ b = some x
  ro : ψ.ro = φ.ro
  fz : ∀ x ds,φ.fz x = some ds → ∃ more,ψ.fz x = some (ds ++ more)
  tk : ∀ k e n v,φ.tk k = some (e,n,v) → ∃ e' n' v',ψ.tk k = some (e',n',v') ∧ tkLe e n v e' n' v'

/-- what a frozen slice's value says of its spare places -/
def MdOK (φ : Phi) (m : Md) (n c' : Nat) (v : Value) : Prop:=match m with
  | .no => True
  | .ex => c' = n
  | .tk k e => ∃ e0 n0 v0,φ.tk k = some (e0,n0,v0) ∧ tkLe e n v e0 n0 v0

theorem MdOK.mono {φ ψ : Phi} (h : φ.le ψ) {m : Md} {n c' : Nat} {v : Value} (k : MdOK φ m n c' v) : MdOK ψ m n c' v:=by
  cases m with
  | no => trivial
  | ex => exact k
  | tk j e =>
    obtain ⟨e0,n0,v0,h1,h2⟩:=k
    obtain ⟨e1,n1,v1,h3,h4⟩:=h.tk _ _ _ _ h1
    exact ⟨e1,n1,v1,h3,h2.trans h4⟩

/-- can a value stand in a cell? -/
def one : V → Bool
  | .a _ => false
  | .t _ => false
  | .u => false
  | .z => false
  | _ => true

mutual
def RV (φ : Phi) : V → Value → Prop
  | .u,v => v = .tuple #[]
  | .z,_ => False
  | .b x,v => v = .bool x
  | .i k n,v => v = .int k n
  | .s l,v => ∃ s : ByteArray,v = .string s ∧ s.data.toList.map (·.toNat) = l
  | .pn,v => v = .pointer none
  | .p b o,v => ∃ x,φ b = some x ∧ v = .pointer (some ⟨x.1,x.2.1 + o,none⟩)
  | .sn,v => v = .slice none 0 0
  | .sl b o l c sz ex,v => ∃ x o' c',φ b = some x ∧ v = .slice (some ⟨x.1,o',none⟩) l c' ∧ l ≤ c ∧ c ≤ c' ∧ (ex = true → c' = c) ∧ 1 ≤ sz ∧
      (c' = 0 ∨ (o' = x.2.1 + o ∧ o + c' * sz ≤ x.2.2))
  | .fn f a b,v => ∃ A B,v = .func (.func f) A B ∧ RVs φ a A.toList ∧ RVs φ b B.toList
  | .a cs,v => ∃ A,v = .agg A ∧ RVs φ cs A.toList ∧ cs.all one = true
  | .t vs,v => ∃ A,v = .tuple A ∧ RVs φ vs A.toList
  | .m,v => ∃ r,v = .map (some r)
  | .c w,v => v = w ∧ (w = .nilFunc ∨ w = .nilIface ∨ w = .map none)
  | .fz m n sz cs,v => pureL cs = true ∧ cs.length = n * sz ∧ 1 ≤ sz ∧ ∃ p c',v = .slice p n c' ∧ n ≤ c' ∧ (p = none → n = 0 ∧ c' = 0) ∧ (c' = 0 ∨ ∀ a,p = some a → a.spot = none) ∧
      (n = 0 ∨ ∃ x o ds,p = some ⟨x,o,none⟩ ∧ φ.fz x = some ds ∧ o + n * sz ≤ ds.length ∧ RVs φ cs ((ds.drop o).take (n * sz))) ∧ MdOK φ m n c' v
  | .pf cs,v => pureL cs = true ∧ ∃ x o ds,v = .pointer (some ⟨x,o,none⟩) ∧ φ.fz x = some ds ∧ o + cs.length ≤ ds.length ∧ RVs φ cs ((ds.drop o).take cs.length)
def RVs (φ : Phi) : List V → List Value → Prop
  | [],l => l = []
  | v :: vs,l => ∃ x xs,l = x :: xs ∧ RV φ v x ∧ RVs φ vs xs
end

theorem take_more {ds more : List Value} {o n : Nat} (h : o + n ≤ ds.length) : ((ds ++ more).drop o).take n = (ds.drop o).take n:=by
  rw [List.drop_append_of_le_length (by omega),List.take_append_of_le_length (by simp; omega)]

mutual
theorem RV.mono {φ ψ : Phi} (h : φ.le ψ) : ∀ (v : V) (x : Value),RV φ v x → RV ψ v x
  | .u,_,r => by simpa [RV] using r
  | .z,_,r => by simp [RV] at r
  | .b _,_,r => by simpa [RV] using r
  | .i _ _,_,r => by simpa [RV] using r
  | .s _,_,r => by simpa [RV] using r
  | .pn,_,r => by simpa [RV] using r
  | .p b o,_,r => by
    simp only [RV] at r ⊢
    obtain ⟨x,hx,rfl⟩:=r
    exact ⟨x,h.sub _ _ hx,rfl⟩
  | .sn,_,r => by simpa [RV] using r
  | .sl b o l c sz ex,_,r => by
    simp only [RV] at r ⊢
    obtain ⟨x,o',c',hx,rest⟩:=r
    exact ⟨x,o',c',h.sub _ _ hx,rest⟩
  | .fn f a b,_,r => by
    simp only [RV] at r ⊢
    obtain ⟨A,B,e,ha,hb⟩:=r
    exact ⟨A,B,e,RVs.mono h _ _ ha,RVs.mono h _ _ hb⟩
  | .a cs,_,r => by
    simp only [RV] at r ⊢
    obtain ⟨A,e,ha,hb⟩:=r
    exact ⟨A,e,RVs.mono h _ _ ha,hb⟩
  | .t vs,_,r => by
    simp only [RV] at r ⊢
    obtain ⟨A,e,ha⟩:=r
    exact ⟨A,e,RVs.mono h _ _ ha⟩
  | .m,_,r => by simpa [RV] using r
  | .c _,_,r => by simpa [RV] using r
  | .fz m n sz cs,_,r => by
    simp only [RV] at r ⊢
    obtain ⟨h0,h1,h2,p,c',h3,h4,h5,h6,h7,h8⟩:=r
    refine ⟨h0,h1,h2,p,c',h3,h4,h5,h6,?_,h8.mono h⟩
    rcases h7 with h7 | ⟨x,o,ds,k1,k2,k3,k4⟩
    · exact .inl h7
    · obtain ⟨more,k5⟩:=h.fz _ _ k2
      exact .inr ⟨x,o,_,k1,k5,by rw [List.length_append]; omega,by rw [take_more k3]; exact RVs.mono h _ _ k4⟩
  | .pf cs,_,r => by
    simp only [RV] at r ⊢
    obtain ⟨h0,x,o,ds,k1,k2,k3,k4⟩:=r
    obtain ⟨more,k5⟩:=h.fz _ _ k2
    exact ⟨h0,x,o,_,k1,k5,by rw [List.length_append]; omega,by rw [take_more k3]; exact RVs.mono h _ _ k4⟩
theorem RVs.mono {φ ψ : Phi} (h : φ.le ψ) : ∀ (vs : List V) (xs : List Value),RVs φ vs xs → RVs ψ vs xs
  | [],_,r => by simpa [RVs] using r
  | v :: vs,_,r => by
    simp only [RVs] at r ⊢
    obtain ⟨x,xs,e,hv,hvs⟩:=r
    exact ⟨x,xs,e,RV.mono h _ _ hv,RVs.mono h _ _ hvs⟩
end

theorem RVs.length {φ : Phi} {vs : List V} {xs : List Value} (h : RVs φ vs xs) : vs.length = xs.length:=by
  induction vs generalizing xs with
  | nil => simp only [RVs] at h; subst h; rfl
  | cons v vs ih =>
    simp only [RVs] at h
    obtain ⟨x,ys,rfl,_,h⟩:=h
    simp [ih h]

theorem RVs.get {φ : Phi} {vs : List V} {xs : List Value} (h : RVs φ vs xs) {j : Nat} {v : V} (hv : vs[j]? = some v) : ∃ x,xs[j]? = some x ∧ RV φ v x:=by
  induction vs generalizing xs j with
  | nil => simp at hv
  | cons w vs ih =>
    simp only [RVs] at h
    obtain ⟨x,ys,rfl,hw,h⟩:=h
    cases j with
    | zero => simp at hv; subst hv; exact ⟨x,rfl,hw⟩
    | succ j => simp at hv; simpa using ih h hv

theorem RVs.of_get {φ : Phi} {vs : List V} {xs : List Value} (hl : vs.length = xs.length) (h : ∀ (j : Nat) (v : V) (x : Value),vs[j]? = some v → xs[j]? = some x → RV φ v x) : RVs φ vs xs:=by
  induction vs generalizing xs with
  | nil => cases xs <;> simp_all [RVs]
  | cons v vs ih =>
    cases xs with
    | nil => simp at hl
    | cons x xs =>
      simp only [RVs]
      exact ⟨x,xs,rfl,h 0 v x rfl rfl,ih (by simpa using hl) fun j v x hv hx => h (j + 1) v x (by simpa using hv) (by simpa using hx)⟩

theorem RVs.append {φ : Phi} {a b : List V} {x y : List Value} (h : RVs φ a x) (k : RVs φ b y) : RVs φ (a ++ b) (x ++ y):=by
  induction a generalizing x with
  | nil => simp only [RVs] at h; subst h; simpa using k
  | cons v vs ih =>
    simp only [RVs] at h
    obtain ⟨w,ws,rfl,hv,h⟩:=h
    simp only [List.cons_append,RVs]
    exact ⟨w,ws ++ y,rfl,hv,ih h⟩

theorem RVs.take {φ : Phi} {a : List V} {x : List Value} (h : RVs φ a x) (n : Nat) : RVs φ (a.take n) (x.take n):=
  .of_get (by simp [h.length]) fun j v y hv hy => by
    rw [List.getElem?_take] at hv hy
    split at hv
    · rename_i hj
      rw [if_pos hj] at hy
      obtain ⟨z,hz,hr⟩:=h.get hv
      rw [hz] at hy; cases hy; exact hr
    · cases hv

theorem RVs.drop {φ : Phi} {a : List V} {x : List Value} (h : RVs φ a x) (n : Nat) : RVs φ (a.drop n) (x.drop n):=
  .of_get (by simp [h.length]) fun j v y hv hy => by
    rw [List.getElem?_drop] at hv hy
    obtain ⟨z,hz,hr⟩:=h.get hv
    rw [hz] at hy; cases hy; exact hr

/-- the temporaries of a frame -/
structure REnv (nt : Nat) (φ : Phi) (env : Env) (tmps : Array Value) : Prop where
  size : tmps.size = nt
  get : ∀ t v,env.get t = some v → RV φ v (tmps.getD t undef)

theorem REnv.mono {nt : Nat} {φ ψ : Phi} {env : Env} {tmps : Array Value} (h : φ.le ψ) (r : REnv nt φ env tmps) : REnv nt ψ env tmps:=
  ⟨r.size,fun t v hv => RV.mono h _ _ (r.get t v hv)⟩

theorem REnv.put {nt : Nat} {φ : Phi} {env : Env} {a : Act} (r : REnv nt φ env a.tmps) {d : Option Nat} (hd : dstOk nt d = true) {v : V} {x : Value} (hv : RV φ v x) :
    REnv nt φ (putE env d v) (a.put d x).tmps:=by
  cases d with
  | none => exact r
  | some d =>
    simp only [dstOk,Nat.ble_eq] at hd
    have hsz : d < a.tmps.size:=by rw [r.size]; omega
    refine ⟨by simp [Act.put,r.size],fun t v' h => ?_⟩
    simp only [putE,T.get_set] at h
    simp only [Act.put]
    split at h
    · rename_i e; subst e
      cases h
      simpa [Array.getD,hsz] using hv
    · rename_i e
      have:=r.get t v' h
      simpa [Array.getElem?_setIfInBounds,Ne.symm e] using this

theorem act_put_defers (a : Act) (d : Option Nat) (x : Value) : (a.put d x).defers = a.defers:=by cases d <;> rfl

/-- the variables that are listed hold what they hold -/
def GOK (G : GL) (φ : Phi) : Prop:=∀ g vs,gGet G g = some vs → pureL vs = true ∧ ∃ ds,φ.fz g = some ds ∧ vs.length ≤ ds.length ∧ RVs φ vs (ds.take vs.length)

theorem GOK.mono {G : GL} {φ ψ : Phi} (h : φ.le ψ) (g : GOK G φ) : GOK G ψ:=fun x vs hx => by
  obtain ⟨h1,ds,h2,h3,h4⟩:=g x vs hx
  obtain ⟨more,h5⟩:=h.fz _ _ h2
  refine ⟨h1,_,h5,by rw [List.length_append]; omega,?_⟩
  rw [List.take_append_of_le_length h3]
  exact RVs.mono h _ _ h4

theorem RV.dem {φ : Phi} {v : V} {x : Value} (h : RV φ v x) : RV φ (dem v) x:=by
  cases v <;> try exact h
  simp only [Go.Ev.dem,RV] at h ⊢
  obtain ⟨h0,h1,h2,p,c',h3,h4,h5,h6,h7,_⟩:=h
  exact ⟨h0,h1,h2,p,c',h3,h4,h5,h6,h7,trivial⟩

theorem RV.nil {φ : Phi} {q : Nat} (hq : 1 ≤ q) : RV φ (.fz .no 0 q []) (.slice none 0 0):=by
  simp only [RV]
  refine ⟨by simp [pureL],by simp,hq,none,0,by simp,by simp,by simp,by simp,by simp,trivial⟩

/-! constants and operands -/

theorem toV1_ok {v : Value} {w : V} (h : toV1 v = some w) (φ : Phi) : RV φ w v ∧ one w = true:=by
  unfold toV1 at h
  split at h <;> cases h <;> simp [RV,one]

theorem mapO_get {α β : Type} {f : α → Option β} : ∀ {l : List α} {m : List β},mapO f l = some m → m.length = l.length ∧ ∀ (j : Nat) (x : α) (y : β),l[j]? = some x → m[j]? = some y → f x = some y:=by
  intro l
  induction l with
  | nil => intro m h; simp [mapO] at h; subst h; simp
  | cons a l ih =>
    intro m h
    simp only [mapO] at h
    split at h
    · cases h
    · rename_i b hb
      split at h
      · cases h
      · rename_i ys hys
        cases h
        obtain ⟨h1,h2⟩:=ih hys
        refine ⟨by simp [h1],fun j x y hx hy => ?_⟩
        cases j with
        | zero => simp at hx hy; subst hx; subst hy; exact hb
        | succ j => simp at hx hy; exact h2 j x y hx hy

theorem mapO_all {α β : Type} {f : α → Option β} {p : β → Bool} (hp : ∀ x y,f x = some y → p y = true) : ∀ {l : List α} {m : List β},mapO f l = some m → m.all p = true:=by
  intro l
  induction l with
  | nil => intro m h; simp [mapO] at h; subst h; rfl
  | cons a l ih =>
    intro m h
    simp only [mapO] at h
    split at h
    · cases h
    · rename_i b hb
      split at h
      · cases h
      · rename_i ys hys
        cases h
        simp [hp _ _ hb]
        simpa using ih hys

theorem toV_ok {v : Value} {w : V} (h : toV v = some w) (φ : Phi) : RV φ w v:=by
  unfold toV at h
  split at h
  · rename_i cs
    split at h
    · rename_i l hl
      cases h
      simp only [RV]
      obtain ⟨h1,h2⟩:=mapO_get hl
      exact ⟨cs,rfl,.of_get h1 fun j v x hv hx => (toV1_ok (h2 j x v hx hv) φ).1,mapO_all (fun x y hy => (toV1_ok hy φ).2) hl⟩
    · cases h
  · rename_i vs
    split at h
    · rename_i e
      cases h
      simp only [RV]
      have : vs = #[]:=by
        apply Array.ext'
        simpa using e
      rw [this]
    · cases h
  · exact (toV1_ok h φ).1

theorem toO_ok {G : GL} {x : Operand} {o : O} (h : toO G x = some o) {nt : Nat} {φ : Phi} {env : Env} {a : Act} (r : REnv nt φ env a.tmps) (g : GOK G φ) {v : V} (hv : o.ev env = some v) :
    RV φ v (a.eval x):=by
  cases x with
  | tmp t =>
    simp only [toO] at h; cases h
    exact r.get t v hv
  | const c =>
    simp only [toO] at h
    split at h
    · rename_i w hw
      cases h
      simp only [O.ev] at hv; cases hv
      exact toV_ok hw φ
    · cases h
  | global n =>
    simp only [toO] at h
    split at h
    · rename_i vs hg
      cases h
      simp only [O.ev] at hv; cases hv
      obtain ⟨h1,ds,h2,h3,h4⟩:=g n vs hg
      simp only [RV]
      exact ⟨h1,n,0,ds,by simp [Act.eval],h2,by omega,by simpa using h4⟩
    · cases h
  | func f =>
    simp only [toO] at h; cases h
    simp only [O.ev] at hv; cases hv
    simp only [RV,RVs]
    exact ⟨#[],#[],rfl,rfl,rfl⟩

theorem toD_ok {G : GL} {q : Nat} (hq : 1 ≤ q) {x : Operand} {o : O} (h : toD G q x = some o) {nt : Nat} {φ : Phi} {env : Env} {a : Act} (r : REnv nt φ env a.tmps) (g : GOK G φ) {v : V} (hv : o.ev env = some v) :
    RV φ v (a.eval x):=by
  unfold toD at h
  split at h
  · rename_i t
    cases h
    simp only [O.ev] at hv
    split at hv
    · rename_i w hw
      cases hv
      exact (r.get t w hw).dem
    · cases hv
  · cases h
    simp only [O.ev] at hv; cases hv
    simp only [Act.eval]
    exact RV.nil hq
  · exact toO_ok h r g hv

theorem toOs_ok {G : GL} {nt : Nat} {φ : Phi} {env : Env} {a : Act} (r : REnv nt φ env a.tmps) (g : GOK G φ) : ∀ {l : List Operand} {m : List O} {vs : List V},toOs G l = some m → evs env m = some vs →
    RVs φ vs (l.map a.eval):=by
  intro l
  induction l with
  | nil => intro m vs h hv; simp [toOs,mapO] at h; subst h; simp [evs] at hv; subst hv; simp [RVs]
  | cons x l ih =>
    intro m vs h hv
    simp only [toOs,mapO] at h
    split at h
    · cases h
    · rename_i o ho
      split at h
      · cases h
      · rename_i os hos
        cases h
        simp only [evs] at hv
        split at hv
        · cases hv
        · rename_i w hw
          split at hv
          · cases hv
          · rename_i ws hws
            cases hv
            simp only [List.map_cons,RVs]
            exact ⟨_,_,rfl,toO_ok ho r g hw,ih hos hws⟩
end Go.Ev
namespace Go.Ev

theorem ltB_eq (a b : Int) : ltB a b = decide (a < b):=by
  unfold ltB
  cases a <;> cases b <;> rw [Bool.eq_iff_iff,decide_eq_true_iff] <;> simp only [Nat.ble_eq,Int.ofNat_eq_natCast,Int.negSucc_eq] <;>
    first | (constructor <;> intro h <;> omega) | (simp; omega) | simp

theorem eqB_eq (a b : Int) : eqB a b = (a == b):=by
  unfold eqB
  cases a <;> cases b <;> rw [Bool.eq_iff_iff,beq_iff_eq] <;> simp only [Nat.beq_eq,Int.ofNat_eq_natCast,Int.negSucc_eq] <;>
    first | (constructor <;> intro h <;> omega) | (simp; omega) | simp

theorem wrapB_eq (k : IntKind) (n : Int) : wrapB k n = k.wrap n:=by
  unfold wrapB
  cases n with
  | ofNat x =>
    simp only [cond_eq_ite,Nat.ble_eq]
    split
    · rename_i h
      cases k <;> simp only [kmax] at h <;> simp only [Int.ofNat_eq_natCast]
      · rw [IntWalk.i8_in _ (by omega)]
      · rw [IntWalk.i16_in _ (by omega)]
      · rw [IntWalk.i32_in _ (by omega)]
      · rw [IntWalk.i64_in _ (by omega)]
      · rw [IntWalk.u8_in _ (by omega)]
      · rw [IntWalk.u16_in _ (by omega)]
      · rw [IntWalk.u32_in _ (by omega)]
      · rw [IntWalk.u64_in _ (by omega)]
    · rfl
  | negSucc x =>
    simp only [cond_eq_ite,Bool.and_eq_true,Nat.ble_eq]
    split
    · rename_i h
      obtain ⟨h1,h⟩:=h
      cases k <;> simp only [ksgn,Bool.false_eq_true] at h1 <;> simp only [kmax] at h <;> simp only [Int.negSucc_eq]
      · rw [IntWalk.i8_in _ (by omega)]
      · rw [IntWalk.i16_in _ (by omega)]
      · rw [IntWalk.i32_in _ (by omega)]
      · rw [IntWalk.i64_in _ (by omega)]
    · rfl

theorem ksame_eq (j k : IntKind) : ksame j k = true ↔ j = k:=by
  unfold ksame
  simp only [Nat.beq_eq]
  cases j <;> cases k <;> simp [knum]

theorem kbits_eq (k : IntKind) : kbits k = k.bits:=by cases k <;> rfl

theorem eqS_iff (x y : List Nat) : eqS x y = true ↔ x = y:=by
  induction x generalizing y with
  | nil => cases y <;> simp [eqS]
  | cons a x ih =>
    cases y with
    | nil => simp [eqS]
    | cons b y => simp [eqS,ih,Nat.beq_eq]

theorem map_toNat_inj {x y : List UInt8} (h : x.map (·.toNat) = y.map (·.toNat)) : x = y:=by
  induction x generalizing y with
  | nil => cases y <;> simp_all
  | cons a x ih =>
    cases y with
    | nil => simp at h
    | cons b y =>
      simp only [List.map_cons,List.cons.injEq] at h
      rw [ih h.2,UInt8.toNat_inj.1 h.1]

theorem eqS_bytes (s t : ByteArray) : eqS (s.data.toList.map (·.toNat)) (t.data.toList.map (·.toNat)) = (s.toList == t.toList):=by
  rw [ByteArray.toList_eq,ByteArray.toList_eq,Bool.eq_iff_iff,eqS_iff,beq_iff_eq]
  exact ⟨map_toNat_inj,fun h => by rw [h]⟩

theorem ltS_bytes (x y : List UInt8) : ltS (x.map (·.toNat)) (y.map (·.toNat)) = Op.bytesLess x y:=by
  induction x generalizing y with
  | nil => cases y <;> simp [ltS,Op.bytesLess]
  | cons a x ih =>
    cases y with
    | nil => simp [ltS,Op.bytesLess]
    | cons b y =>
      simp only [List.map_cons,ltS,Op.bytesLess,ih]
      have h1 : Nat.ble (a.toNat + 1) b.toNat = decide (a < b):=by
        rw [Bool.eq_iff_iff,Nat.ble_eq,decide_eq_true_iff,UInt8.lt_iff_toNat_lt]; omega
      have h2 : Nat.beq a.toNat b.toNat = (a == b):=by
        rw [Bool.eq_iff_iff,Nat.beq_eq,beq_iff_eq]; exact UInt8.toNat_inj
      rw [h1,h2]

theorem shift_cap (k : IntKind) (y : Nat) : (bif Nat.ble y (kbits k) then y else kbits k) = min y k.bits:=by
  simp only [cond_eq_ite,Nat.ble_eq,kbits_eq]
  split <;> omega

theorem kmax_lt (k : IntKind) : kmax k < 2 ^ k.bits:=by cases k <;> decide

theorem wrap_small (k : IntKind) (n : Nat) (h : n ≤ kmax k) : k.wrap (n : Int) = n:=by
  have:=wrapB_eq k (Int.ofNat n)
  rw [← Int.ofNat_eq_natCast,← this]
  simp only [wrapB,cond_eq_ite,Nat.ble_eq,h,if_true]

theorem kmax_pow (k : IntKind) : ∃ m,kmax k = 2 ^ m - 1 ∧ m ≤ k.bits:=by
  cases k
  · exact ⟨7,by decide,by decide⟩
  · exact ⟨15,by decide,by decide⟩
  · exact ⟨31,by decide,by decide⟩
  · exact ⟨63,by decide,by decide⟩
  · exact ⟨8,by decide,by decide⟩
  · exact ⟨16,by decide,by decide⟩
  · exact ⟨32,by decide,by decide⟩
  · exact ⟨64,by decide,by decide⟩

theorem le_kmax_iff {k : IntKind} {m : Nat} (hm : kmax k = 2 ^ m - 1) (x : Nat) : x ≤ kmax k ↔ x < 2 ^ m:=by
  have : 0 < 2 ^ m:=Nat.two_pow_pos m
  omega

section
variable {P : Program} {W : World}

theorem run_bit (op : BinOp) (k : IntKind) (x y r : Nat) (hx : x ≤ kmax k) (hy : y ≤ kmax k) (h : bitB (aop op) x y = some r) :
    (Op.intBits op k (Int.ofNat x) (Int.ofNat y)).run P W = .ok (.int k (Int.ofNat r)) W:=by
  obtain ⟨m,hm,hmb⟩:=kmax_pow k
  have hx':=(le_kmax_iff hm x).1 hx
  have hy':=(le_kmax_iff hm y).1 hy
  have hbx : x < 2 ^ k.bits:=by have:=kmax_lt k; omega
  have hby : y < 2 ^ k.bits:=by have:=kmax_lt k; omega
  have ex : (BitVec.ofInt k.bits (Int.ofNat x)).toNat = x:=by
    rw [Int.ofNat_eq_natCast,BitVec.ofInt_natCast,BitVec.toNat_ofNat,Nat.mod_eq_of_lt hbx]
  have ey : (BitVec.ofInt k.bits (Int.ofNat y)).toNat = y:=by
    rw [Int.ofNat_eq_natCast,BitVec.ofInt_natCast,BitVec.toNat_ofNat,Nat.mod_eq_of_lt hby]
  cases op <;> simp only [aop,bitB,reduceCtorEq,Option.some.injEq] at h <;> subst h <;> simp only [Op.intBits,Sem.run_pure]
  · congr 2
    rw [BitVec.toNat_and,ex,ey,wrap_small k _ ((le_kmax_iff hm _).2 (Nat.and_lt_two_pow _ hy'))]
    rfl
  · congr 2
    rw [BitVec.toNat_or,ex,ey,wrap_small k _ ((le_kmax_iff hm _).2 (Nat.or_lt_two_pow hx' hy'))]
    rfl
  · congr 2
    rw [BitVec.toNat_xor,ex,ey,wrap_small k _ ((le_kmax_iff hm _).2 (Nat.xor_lt_two_pow hx' hy'))]
    rfl
  · congr 2
    have e : (BitVec.ofInt k.bits (Int.ofNat x) &&& ~~~BitVec.ofInt k.bits (Int.ofNat y)).toNat = Nat.xor x (Nat.land x y):=by
      have e1 : BitVec.ofInt k.bits (Int.ofNat x) &&& ~~~BitVec.ofInt k.bits (Int.ofNat y) = BitVec.ofInt k.bits (Int.ofNat x) ^^^ (BitVec.ofInt k.bits (Int.ofNat x) &&& BitVec.ofInt k.bits (Int.ofNat y)):=by
        apply BitVec.eq_of_getLsbD_eq
        intro i hi
        simp only [BitVec.getLsbD_and,BitVec.getLsbD_not,BitVec.getLsbD_xor,hi,decide_true,Bool.true_and]
        cases (BitVec.ofInt k.bits (Int.ofNat x)).getLsbD i <;> cases (BitVec.ofInt k.bits (Int.ofNat y)).getLsbD i <;> rfl
      rw [e1,BitVec.toNat_xor,BitVec.toNat_and,ex,ey]
      rfl
    have e2 : Nat.xor x (Nat.land x y) ≤ kmax k:=(le_kmax_iff hm _).2 (Nat.xor_lt_two_pow hx' (Nat.and_lt_two_pow _ hy'))
    rw [e,wrap_small k _ e2]
    rfl

theorem run_intOps (op : BinOp) (t : TypeId) (k k' : IntKind) (x y : Int) {v : V} (h : intOps (aop op) k x k' y = some v) (φ : Phi) :
    ∃ z,(binOp op t (.int k x) (.int k' y)).run P W = .ok z W ∧ RV φ v z:=by
  cases op <;> simp only [aop,intOps,shl1,shr1,intOp,bitOp,cond_eq_ite] at h
  case shl =>
    cases y with
    | negSucc y => cases h
    | ofNat y =>
      simp only [← cond_eq_ite,shift_cap] at h
      cases h
      refine ⟨.int k (k.wrap (x * 2 ^ min y k.bits)),?_,by simp [RV,wrapB_eq]⟩
      have : ¬ ((y : Int) < 0):=by omega
      simp [binOp,Op.shift,this]
  case shr =>
    cases y with
    | negSucc y => cases h
    | ofNat y =>
      simp only [← cond_eq_ite,shift_cap] at h
      have hy0 : ¬ ((y : Int) < 0):=by omega
      refine ⟨.int k (x.fdiv (2 ^ min y k.bits)),by simp [binOp,Op.shift,hy0],?_⟩
      cases x with
      | negSucc x => cases h; simp [RV]
      | ofNat x =>
        cases h
        simp only [RV,Value.int.injEq,true_and]
        rw [Int.ofNat_eq_natCast,Int.ofNat_eq_natCast,Int.fdiv_eq_ediv_of_nonneg _ (Int.le_of_lt (Int.pow_pos (by decide)))]
        simp
  all_goals
    split at h
    case isFalse => cases h
    rename_i hk
    obtain rfl:=(ksame_eq _ _).1 hk
  case quo =>
    split at h
    · cases h
    · rename_i hy
      rw [eqB_eq,beq_iff_eq] at hy
      cases h
      exact ⟨.int k (k.wrap (x.tdiv y)),by simp [binOp,Op.intDiv,hy],by simp [RV,wrapB_eq]⟩
  case rem =>
    split at h
    · cases h
    · rename_i hy
      rw [eqB_eq,beq_iff_eq] at hy
      cases h
      exact ⟨.int k (x.tmod y),by simp [binOp,Op.intDiv,hy],by simp [RV]⟩
  case and | or | xor | andNot =>
    cases x with
    | negSucc x => cases h
    | ofNat x =>
      cases y with
      | negSucc y => cases h
      | ofNat y =>
        simp only [Bool.and_eq_true,Nat.ble_eq] at h
        split at h
        · rename_i hb
          split at h
          · rename_i r hr
            cases h
            refine ⟨.int k (Int.ofNat r),?_,by simp [RV]⟩
            simp only [binOp,ne_eq,not_true_eq_false,if_false]
            exact run_bit _ k x y r hb.1 hb.2 (by simpa only [aop] using hr)
          · cases h
        · cases h
  all_goals
    cases h
    simp [binOp,Op.intArith,Op.intCmp,RV,wrapB_eq,ltB_eq,eqB_eq,bne]
  all_goals (rw [← decide_not]; congr 1; rw [eq_iff_iff]; omega)
end
end Go.Ev
namespace Go.Ev

section
variable {P : Program} {G : GL} {nt : Nat} {φ : Phi} {env : Env} {a : Act} {W : World}

theorem nat_ok (r : REnv nt φ env a.tmps) (g : GOK G φ) {x : Operand} {o : O} (h : toO G x = some o) {n : Nat} (hn : o.nat env = some n) :
    ∃ k,a.eval x = .int k (n : Int):=by
  unfold O.nat at hn
  split at hn
  · cases hn
  · rename_i v hv
    have hr:=toO_ok h r g hv
    unfold natOf at hn
    split at hn
    · rename_i k m
      split at hn
      · rename_i m'
        cases hn
        simp only [RV] at hr
        exact ⟨k,hr⟩
      · cases hn
    · cases hn

theorem cells_ok (r : REnv nt φ env a.tmps) (g : GOK G φ) {x : Operand} {o : O} (h : toO G x = some o) {cs : List V} (hn : o.cells env = some cs) :
    ∃ A,a.eval x = .agg A ∧ RVs φ cs A.toList ∧ cs.all one = true:=by
  unfold O.cells at hn
  split at hn
  · rename_i cs' hv
    cases hn
    have hr:=toO_ok h r g hv
    simpa only [RV] using hr
  · cases hn

theorem one_cells {v : V} (h : one v = true) : v.cells? = some [v]:=by cases v <;> first | rfl | cases h

theorem RV.oneCell {v : V} {x : Value} (h : one v = true) (r : RV φ v x) : x.oneCell' = true ∧ x.cells = #[x]:=by
  cases v <;> simp only [one,Bool.false_eq_true] at h <;> simp only [RV] at r
  case b => subst r; exact ⟨rfl,rfl⟩
  case i => subst r; exact ⟨rfl,rfl⟩
  case s => obtain ⟨s,rfl,_⟩:=r; exact ⟨rfl,rfl⟩
  case pn => subst r; exact ⟨rfl,rfl⟩
  case p => obtain ⟨s,_,rfl⟩:=r; exact ⟨rfl,rfl⟩
  case sn => subst r; exact ⟨rfl,rfl⟩
  case sl => obtain ⟨s,o',c',_,rfl,_⟩:=r; exact ⟨rfl,rfl⟩
  case fn => obtain ⟨A,B,rfl,_⟩:=r; exact ⟨rfl,rfl⟩
  case m => obtain ⟨s,rfl⟩:=r; exact ⟨rfl,rfl⟩
  case c => obtain ⟨rfl,h | h | h⟩:=r <;> subst h <;> exact ⟨rfl,rfl⟩
  case fz =>
    obtain ⟨_,_,_,p,c',rfl,_,_,h5,_⟩:=r
    cases p with
    | none => exact ⟨rfl,rfl⟩
    | some a => exact ⟨rfl,rfl⟩
  case pf => obtain ⟨_,x,o,ds,rfl,_⟩:=r; exact ⟨rfl,rfl⟩

/-- the cells of a value -/
theorem RV.cells {v : V} {x : Value} {cs : List V} (h : v.cells? = some cs) (r : RV φ v x) : RVs φ cs x.cells.toList ∧ cs.all one = true:=by
  by_cases ho : one v = true
  · rw [one_cells ho] at h
    cases h
    rw [(r.oneCell ho).2]
    simp only [RVs,List.all_cons,List.all_nil,Bool.and_true]
    exact ⟨⟨x,[],rfl,r,rfl⟩,ho⟩
  · cases v <;> simp [one] at ho <;> simp only [V.cells?,reduceCtorEq,Option.some.injEq] at h
    subst h
    simp only [RV] at r
    obtain ⟨A,rfl,h1,h2⟩:=r
    exact ⟨h1,h2⟩

/-! building aggregates -/

theorem putN_cons {α : Type} (l : List α) (n : Nat) (x : α) (xs : List α) (h : n < l.length) : putN (l.set n x) (n + 1) xs = putN l n (x :: xs):=by
  apply List.ext_getElem?
  intro j
  rw [get_putN,get_putN]
  simp only [List.length_set,List.length_cons,List.getElem?_set]
  by_cases h1 : j = n
  · subst h1
    rw [if_neg (by omega),if_pos (by omega)]
    simp [h]
  · by_cases h2 : n + 1 ≤ j ∧ j < n + 1 + xs.length ∧ j < l.length
    · rw [if_pos h2,if_pos (by omega)]
      rw [show j - n = (j - (n + 1)) + 1 by omega]
      rfl
    · rw [if_neg h2,if_neg (by omega),if_neg (by omega)]

theorem fold_put (off : Nat) : ∀ (l : List Value) (k : Nat) (cells : Array Value),off + k + l.length ≤ cells.size →
    ((l.zipIdx k).foldl (fun cs (c,j) => cs.setIfInBounds (off + j) c) cells).toList = putN cells.toList (off + k) l:=by
  intro l
  induction l with
  | nil =>
    intro k cells h
    simp only [List.zipIdx_nil,List.foldl_nil]
    apply List.ext_getElem?
    intro j
    rw [get_putN,if_neg (by simp; omega)]
  | cons x xs ih =>
    intro k cells h
    simp only [List.length_cons] at h
    rw [List.zipIdx_cons,List.foldl_cons,ih (k + 1) _ (by simp; omega),← putN_cons _ _ _ _ (by simp; omega)]
    simp [Nat.add_assoc]

theorem RVs.putN {cs ds : List V} {xs ys : List Value} (h : RVs φ cs xs) (k : RVs φ ds ys) (n : Nat) : RVs φ (putN cs n ds) (putN xs n ys):=by
  refine .of_get (by simp [length_putN,h.length]) fun j v x hv hx => ?_
  rw [get_putN] at hv hx
  rw [← h.length,← k.length] at hx
  split at hv
  · rename_i hc
    rw [if_pos hc] at hx
    obtain ⟨z,hz,hr⟩:=k.get hv
    rw [hz] at hx; cases hx; exact hr
  · rename_i hc
    rw [if_neg hc] at hx
    obtain ⟨z,hz,hr⟩:=h.get hv
    rw [hz] at hx; cases hx; exact hr

theorem all_of_get {p : V → Bool} {l : List V} (h : ∀ (j : Nat) (v : V),l[j]? = some v → p v = true) : l.all p = true:=by
  rw [List.all_eq_true]
  intro v hv
  obtain ⟨j,hj⟩:=List.getElem?_of_mem hv
  exact h j v hj

theorem get_of_all {p : V → Bool} {l : List V} (h : l.all p = true) {j : Nat} {v : V} (hv : l[j]? = some v) : p v = true:=
  List.all_eq_true.1 h v (List.mem_of_getElem? hv)

theorem one_putN {cs ds : List V} (h : cs.all one = true) (k : ds.all one = true) (n : Nat) : (putN cs n ds).all one = true:=
  all_of_get fun j v hv => by
    rw [get_putN] at hv
    split at hv
    · exact get_of_all k hv
    · exact get_of_all h hv

/-- what an operand is compiled to -/
def OpOf (G : GL) (x : Operand) (o : O) : Prop:=toO G x = some o ∨ ∃ q,1 ≤ q ∧ toD G q x = some o

theorem opOf_ok {x : Operand} {o : O} (h : OpOf G x o) (r : REnv nt φ env a.tmps) (g : GOK G φ) {v : V} (hv : o.ev env = some v) : RV φ v (a.eval x):=by
  rcases h with h | ⟨q,hq,h⟩
  · exact toO_ok h r g hv
  · exact toD_ok hq h r g hv

theorem elemQ_pos (t : TypeId) : 1 ≤ elemQ P t:=by
  unfold elemQ
  split
  · split
    · omega
    · exact Nat.le_refl _
  · exact Nat.le_refl _

/-- the operands of an aggregate's parts,and where they go -/
theorem fill_ok (r : REnv nt φ env a.tmps) (g : GOK G φ) (place : Nat → Option (Nat × Nat)) : ∀ (ps : List (Nat × Operand)) (qs : List (Nat × Nat × O)) (cells cs : List V) (A : Array Value),
    (ps.length = qs.length ∧ ∀ (j : Nat) (p : Nat × Operand) (q : Nat × Nat × O),ps[j]? = some p → qs[j]? = some q → place p.1 = some (q.1,q.2.1) ∧ OpOf G p.2 q.2.2) →
    RVs φ cells A.toList → cells.all one = true → fillP env cells qs = some cs →
    ∃ B,Instr.fill place A (ps.map fun p => (p.1,a.eval p.2)) = some B ∧ RVs φ cs B.toList ∧ cs.all one = true:=by
  intro ps
  induction ps with
  | nil =>
    intro qs cells cs A hq hA ho h
    cases qs with
    | cons q qs => simp at hq
    | nil =>
      simp only [fillP,Option.some.injEq] at h
      subst h
      exact ⟨A,rfl,hA,ho⟩
  | cons p ps ih =>
    intro qs cells cs A hq hA ho h
    cases qs with
    | nil => simp at hq
    | cons q qs =>
      obtain ⟨hl,hq⟩:=hq
      obtain ⟨hpl,hto⟩:=hq 0 p q rfl rfl
      simp only [fillP] at h
      split at h
      · cases h
      · rename_i v hv
        split at h
        · cases h
        · rename_i ds hds
          simp only [cond_eq_ite,Bool.and_eq_true,Nat.beq_eq,Nat.ble_eq,len_eq] at h
          split at h
          · rename_i hc
            have hr:=opOf_ok hto r g hv
            obtain ⟨h1,h2⟩:=RV.cells hds hr
            have hsz : (a.eval p.2).cells.size = q.2.1:=by rw [← hc.1]; simpa using h1.length.symm
            have hfit : q.1 + q.2.1 ≤ A.size:=by have:=hA.length; simp at this; omega
            have:=ih qs (putN cells q.1 ds) cs ((a.eval p.2).cells.zipIdx.foldl (fun cs (c,j) => cs.setIfInBounds (q.1 + j) c) A)
              ⟨by simpa using hl,fun j p q hp hq' => hq (j + 1) p q (by simpa using hp) (by simpa using hq')⟩
              (by
                have e:=fold_put q.1 (a.eval p.2).cells.toList 0 A (by simp; omega)
                rw [← Array.foldl_toList,Array.toList_zipIdx,e]
                simpa using hA.putN h1 q.1)
              (one_putN ho h2 q.1) h
            obtain ⟨B,hB,hrest⟩:=this
            refine ⟨B,?_,hrest⟩
            simp only [List.map_cons,Instr.fill,hpl]
            rw [if_neg (by simp [hsz]; omega)]
            exact hB
          · cases h

theorem partsA_ok {q0 s : Nat} (hq0 : 1 ≤ q0) : ∀ {ps : List (Nat × Operand)} {qs : List (Nat × Nat × O)},partsA G q0 s ps = some qs →
    ps.length = qs.length ∧ ∀ (j : Nat) (p : Nat × Operand) (q : Nat × Nat × O),ps[j]? = some p → qs[j]? = some q → some (p.1 * s,s) = some (q.1,q.2.1) ∧ OpOf G p.2 q.2.2:=by
  intro ps
  induction ps with
  | nil => intro qs h; simp [partsA] at h; subst h; simp
  | cons p ps ih =>
    intro qs h
    obtain ⟨i,x⟩:=p
    simp only [partsA] at h
    split at h
    · cases h
    · rename_i o ho
      split at h
      · cases h
      · rename_i l hl
        cases h
        obtain ⟨h1,h2⟩:=ih hl
        refine ⟨by simp [h1],fun j p q hp hq => ?_⟩
        cases j with
        | zero => simp at hp hq; subst hp; subst hq; exact ⟨rfl,.inr ⟨q0,hq0,ho⟩⟩
        | succ j => simp at hp hq; exact h2 j p q hp hq

theorem partsS_ok {fs : Array Field} : ∀ {ps : List (Nat × Operand)} {qs : List (Nat × Nat × O)},partsS P G fs ps = some qs →
    ps.length = qs.length ∧ ∀ (j : Nat) (p : Nat × Operand) (q : Nat × Nat × O),ps[j]? = some p → qs[j]? = some q →
      (∃ f,fs[p.1]? = some f ∧ f.offset = q.1 ∧ sizeT P f.type = some q.2.1) ∧ OpOf G p.2 q.2.2:=by
  intro ps
  induction ps with
  | nil => intro qs h; simp [partsS] at h; subst h; simp
  | cons p ps ih =>
    intro qs h
    obtain ⟨i,x⟩:=p
    simp only [partsS] at h
    split at h
    · cases h
    · rename_i f hf
      split at h
      · cases h
      · rename_i s hs
        split at h
        · cases h
        · rename_i o ho
          split at h
          · cases h
          · rename_i l hl
            cases h
            obtain ⟨h1,h2⟩:=ih hl
            refine ⟨by simp [h1],fun j p q hp hq => ?_⟩
            cases j with
            | zero => simp at hp hq; subst hp; subst hq; exact ⟨⟨f,hf,rfl,hs⟩,.inr ⟨_,elemQ_pos _,ho⟩⟩
            | succ j => simp at hp hq; exact h2 j p q hp hq

/-! facts on types -/

theorem sizeT_ok {t : TypeId} {n : Nat} (h : sizeT P t = some n) : ∃ i,P.info? t = some i ∧ i.size = n:=by
  unfold sizeT at h
  split at h
  · rename_i i hi; cases h; exact ⟨i,hi,rfl⟩
  · cases h

theorem run_sizeOf {t : TypeId} {n : Nat} (h : sizeT P t = some n) (W : World) : (sizeOf t).run P W = .ok n W:=by
  obtain ⟨i,hi,rfl⟩:=sizeT_ok h
  simp [sizeOf,typeInfo,hi]

theorem canonZ_ok : ∀ (cs : List V) (qs : List Nat) (xs : List Value),(∀ q ∈ qs,1 ≤ q) → RVs φ cs xs → RVs φ (canonZ qs cs) xs:=by
  intro cs
  induction cs with
  | nil => intro qs xs _ h; simpa [canonZ] using h
  | cons v cs ih =>
    intro qs xs hq h
    simp only [RVs] at h
    obtain ⟨x,ys,rfl,hx,hr⟩:=h
    unfold canonZ
    split
    · simp only [RV] at hx
      subst hx
      split
      · simp only [RVs]
        exact ⟨_,ys,rfl,RV.nil (Nat.le_refl _),ih [] ys (by simp) hr⟩
      · rename_i q qs'
        simp only [RVs]
        exact ⟨_,ys,rfl,RV.nil (hq q (by simp)),ih qs' ys (fun q' h' => hq q' (by simp [h'])) hr⟩
    · simp only [RVs]
      exact ⟨x,ys,rfl,hx,ih qs ys hq hr⟩

theorem canonZ_one : ∀ (cs : List V) (qs : List Nat),cs.all one = true → (canonZ qs cs).all one = true:=by
  intro cs
  induction cs with
  | nil => intro qs _; simp [canonZ]
  | cons v cs ih =>
    intro qs h
    simp only [List.all_cons,Bool.and_eq_true] at h
    unfold canonZ
    split
    · split <;> simp [one,ih _ h.2]
    · simp [h.1,ih _ h.2]

theorem zeroT_ok {pz : Bool} {t : TypeId} {z : List V} (h : zeroT P pz t = some z) : ∃ i v,P.info? t = some i ∧ i.zero = some v ∧ ∀ φ,RVs φ z v.cells.toList ∧ z.all one = true:=by
  unfold zeroT at h
  split at h
  · rename_i i hi
    split at h
    · rename_i v hv
      split at h
      · rename_i w hw
        split at h
        · rename_i cs hcs
          simp only [cond_eq_ite] at h
          split at h
          · cases h
            exact ⟨i,v,hi,hv,fun φ => RV.cells hcs (toV_ok hw φ)⟩
          split at h
          · rename_i hall
            cases h
            have hq : ∀ q ∈ nilQs P 8 t,1 ≤ q:=fun q hq => by
              have:=List.all_eq_true.1 hall q hq
              simpa using this
            exact ⟨i,v,hi,hv,fun φ => by
              obtain ⟨h1,h2⟩:=RV.cells hcs (toV_ok hw φ)
              exact ⟨canonZ_ok _ _ _ hq h1,canonZ_one _ _ h2⟩⟩
          · cases h
        · cases h
      · cases h
    · cases h
  · cases h

theorem run_zeroValue {t : TypeId} {i : TypeInfo} {v : Value} (hi : P.info? t = some i) (hv : i.zero = some v) (W : World) : (zeroValue t).run P W = .ok v W:=by
  simp [zeroValue,typeInfo,hi,hv]

theorem run_isAgg {t : TypeId} {b : Bool} (h : aggT P t = some b) (W : World) : (isAgg t).run P W = .ok b W:=by
  unfold aggT at h
  split at h
  · rename_i d hd; cases h; simp [isAgg,run_underlying hd]
  · rename_i d hd; cases h; simp [isAgg,run_underlying hd]
  · rename_i d h1 h2 hd
    cases h
    rw [isAgg,Sem.run_bind,run_underlying hd]
    simp only [Result.andThen_ok]
    cases d <;> first | rfl | exact (h1 _ rfl).elim | exact (h2 _ _ rfl).elim
  · cases h

end
end Go.Ev
namespace Go.Ev

theorem c2_ok {G : GL} {f : O → O → PC} {x y : Operand} {c : PC} (h : c2 G f x y = some c) : ∃ p q,toO G x = some p ∧ toO G y = some q ∧ c = f p q:=by
  unfold c2 at h
  split at h
  · cases h
  · rename_i p hp
    split at h
    · cases h
    · rename_i q hq
      cases h
      exact ⟨p,q,hp,hq,rfl⟩

section
variable {P : Program} {G : GL} {nt : Nat} {φ : Phi} {env : Env} {a : Act} {W : World}

theorem p_build (r : REnv nt φ env a.tmps) (g : GOK G φ) {t : TypeId} {ps : Array (Nat × Operand)} {c : PC} (h : cP P G (.build t ps) = some c) {v : V} (hv : evP c env = some v) :
    ∃ x,(Instr.build t (ps.map fun (i,x) => (i,a.eval x))).run P W = .ok x W ∧ RV φ v x:=by
  simp only [cP] at h
  split at h
  · cases h
  · rename_i z hz
    obtain ⟨i,zv,hi,hzv,hzr⟩:=zeroT_ok hz
    have hz1:=hzr φ
    have hmap : (ps.map fun (i,x) => (i,a.eval x)).toList = ps.toList.map fun p => (p.1,a.eval p.2):=by simp
    split at h
    · rename_i fs hfs
      simp only [cond_eq_ite] at h
      split at h
      · rename_i hall
        split at h
        · rename_i l hl
          cases h
          simp only [evP,evBuild] at hv
          split at hv
          · rename_i cs hcs
            cases hv
            let sz : Field → Nat:=fun f => (sizeT P f.type).getD 0
            have hsz : ∀ f ∈ fs.toList,sizeT P f.type = some (sz f):=fun f hf => by
              have:=List.all_eq_true.1 hall f hf
              obtain ⟨n,hn⟩:=Option.isSome_iff_exists.1 this
              simp [sz,hn]
            have hplaces : ∀ (l : List Field),(∀ f ∈ l,sizeT P f.type = some (sz f)) → (l.mapM fun f => do pure (f.offset,← sizeOf f.type) : Sem (List (Nat × Nat))).run P W = .ok (l.map fun f => (f.offset,sz f)) W:=by
              intro l
              induction l with
              | nil => intro _; simp
              | cons f l ih =>
                intro hl
                rw [List.mapM_cons,Sem.run_bind]
                simp only [Sem.run_bind,run_sizeOf (hl f (by simp)),Result.andThen_ok,Sem.run_pure,ih (fun f hf => hl f (by simp [hf])),List.map_cons]
            have hpl : (fs.mapM fun f => do pure (f.offset,← sizeOf f.type) : Sem (Array (Nat × Nat))).run P W = .ok (fs.map fun f => (f.offset,sz f)) W:=by
              rw [Array.mapM_eq_mapM_toList,Sem.run_map,hplaces fs.toList hsz]
              simp only [Result.andThen_ok]
              congr 1
              apply Array.ext'
              simp
            obtain ⟨h1,h2⟩:=partsS_ok hl
            obtain ⟨B,hB,hr1,hr2⟩:=fill_ok (a:=a) r g ((fs.map fun f => (f.offset,sz f))[·]?) ps.toList l z cs zv.cells ⟨h1,fun j p q hp hq => by
              obtain ⟨⟨f,hf,ho,hs⟩,hto⟩:=h2 j p q hp hq
              refine ⟨?_,hto⟩
              have : sz f = q.2.1:=by simp [sz,hs]
              simp [hf,ho,this]⟩ hz1.1 hz1.2 hcs
            refine ⟨.agg B,?_,?_⟩
            · rw [hmap.symm] at hB
              simp only [Instr.build,Sem.run_bind,run_zeroValue hi hzv,run_underlying hfs,hpl,Result.andThen_ok,hB]
              rfl
            · simp only [RV]; exact ⟨B,rfl,hr1,hr2⟩
          · cases hv
        · cases h
      · cases h
    · rename_i n e hfs
      split at h
      · cases h
      · rename_i s hs
        split at h
        · rename_i l hl
          cases h
          simp only [evP,evBuild] at hv
          split at hv
          · rename_i cs hcs
            cases hv
            obtain ⟨B,hB,hr1,hr2⟩:=fill_ok (a:=a) r g (fun i => some (i * s,s)) ps.toList l z cs zv.cells (partsA_ok (elemQ_pos _) hl) hz1.1 hz1.2 hcs
            refine ⟨.agg B,?_,?_⟩
            · rw [hmap.symm] at hB
              simp only [Instr.build,Sem.run_bind,run_zeroValue hi hzv,run_underlying hfs,run_sizeOf hs,Result.andThen_ok,hB]
              rfl
            · simp only [RV]; exact ⟨B,rfl,hr1,hr2⟩
          · cases hv
        · cases h
    · cases h

theorem map_app {x y : ByteArray} : (x ++ y).data.toList.map (·.toNat) = x.data.toList.map (·.toNat) ++ y.data.toList.map (·.toNat):=by
  simp [ByteArray.data_append]

theorem run_str (op : BinOp) (t : TypeId) (x y : ByteArray) {v : V} (h : strOp (aop op) (x.data.toList.map (·.toNat)) (y.data.toList.map (·.toNat)) = some v) :
    ∃ z,(binOp op t (.string x) (.string y)).run P W = .ok z W ∧ RV φ v z:=by
  cases op <;> simp only [aop,strOp,reduceCtorEq] at h
  case add =>
    simp only [cond_eq_ite,Nat.ble_eq,len_eq,List.length_map] at h
    split at h
    · rename_i hc
      cases h
      refine ⟨.string (x ++ y),?_,?_⟩
      · have : ¬ (((x.size + y.size : Nat) : Int) > IntKind.i64.max):=by
          have e1 : x.data.toList.length = x.size:=by cases x; rfl
          have e2 : y.data.toList.length = y.size:=by cases y; rfl
          rw [e1,e2] at hc
          simp [IntKind.max,IntKind.signed,IntKind.bits]
          omega
        simp only [binOp,Op.stringOp,this,if_false]
        rfl
      · simp only [RV,app_eq]
        exact ⟨_,rfl,map_app⟩
    · cases h
  all_goals
    simp only [Option.some.injEq] at h
    subst h
    exact ⟨_,rfl,by simp [RV,eqS_bytes,ltS_bytes,ByteArray.toList_eq]⟩

theorem eqGuard_leaf (op : BinOp) (t : TypeId) (x y : Operand) (u v : Value) (h : ∀ A,u ≠ .agg A) (k : u ≠ .nilIface) : (eqGuard op t x y u v).run P W = .ok () W:=by
  unfold eqGuard
  cases op <;> simp <;> cases u <;> first | rfl | (exact (h _ rfl).elim) | (exact (k rfl).elim)

theorem p_bin (r : REnv nt φ env a.tmps) (g : GOK G φ) {op : BinOp} {t : TypeId} {x y : Operand} {p q : O} (hp : toO G x = some p) (hq : toO G y = some q) {v : V} (hv : evBin (aop op) p q env = some v) :
    ∃ z,(do eqGuard op t x y (a.eval x) (a.eval y); binOp op t (a.eval x) (a.eval y) : Sem Value).run P W = .ok z W ∧ RV φ v z:=by
  unfold evBin at hv
  split at hv
  · cases hv
  · rename_i vx hx
    split at hv
    · cases hv
    · rename_i vy hy
      have hrx:=toO_ok hp r g hx
      have hry:=toO_ok hq r g hy
      split at hv
      · split at hv
        · simp only [RV] at hrx hry
          rw [hrx,hry]
          obtain ⟨z,hz,hr⟩:=run_intOps (P:=P) (W:=W) op t _ _ _ _ hv φ
          exact ⟨z,by rw [Sem.run_bind,eqGuard_leaf op t x y _ _ (by intro A h; cases h) (by intro h; cases h)]; exact hz,hr⟩
        · cases hv
      · split at hv
        · simp only [RV] at hrx hry
          obtain ⟨sx,hsx,ex⟩:=hrx
          obtain ⟨sy,hsy,ey⟩:=hry
          rw [hsx,hsy]
          subst ex; subst ey
          obtain ⟨z,hz,hr⟩:=run_str (P:=P) (W:=W) (φ:=φ) op t sx sy hv
          exact ⟨z,by rw [Sem.run_bind,eqGuard_leaf op t x y _ _ (by intro A h; cases h) (by intro h; cases h)]; exact hz,hr⟩
        · cases hv
      · cases hv

theorem run_equalIn_bool {t : TypeId} (ht : P.underlying t = some .bool) (d : Nat) (x y : Bool) (W : World) : (Op.equalIn (d + 1) t (.bool x) (.bool y)).run P W = .ok (x == y) W:=by
  rw [Op.equalIn,Sem.run_bind,run_underlying ht]
  rfl

theorem run_equal_bool {t : TypeId} (ht : P.underlying t = some .bool) (x y : Bool) (W : World) : (Op.equal t (.bool x) (.bool y)).run P W = .ok (x == y) W:=
  run_equalIn_bool ht 9999 x y W

theorem p_binB (r : REnv nt φ env a.tmps) (g : GOK G φ) {op : BinOp} {t : TypeId} (ht : P.underlying t = some .bool) {x y : Operand} {p q : O} (hp : toO G x = some p) (hq : toO G y = some q) {v : V} (hv : evBinB (aop op) p q env = some v) :
    ∃ z,(do eqGuard op t x y (a.eval x) (a.eval y); binOp op t (a.eval x) (a.eval y) : Sem Value).run P W = .ok z W ∧ RV φ v z:=by
  unfold evBinB at hv
  split at hv
  · rename_i bx hx
    split at hv
    · rename_i by_ hy
      have hrx:=toO_ok hp r g hx
      have hry:=toO_ok hq r g hy
      simp only [RV] at hrx hry
      rw [hrx,hry]
      cases op <;> simp only [aop,boolOp,reduceCtorEq] at hv
      · cases hv
        refine ⟨.bool (bx == by_),?_,by simp only [RV]⟩
        rw [Sem.run_bind,eqGuard_leaf _ t x y _ _ (by intro A h; cases h) (by intro h; cases h)]
        show ((do pure (Value.bool (← Op.equal t (.bool bx) (.bool by_))) : Sem Value)).run P W = _
        rw [Sem.run_bind,run_equal_bool ht]
        rfl
      · cases hv
        refine ⟨.bool (bx != by_),?_,by simp only [RV]⟩
        rw [Sem.run_bind,eqGuard_leaf _ t x y _ _ (by intro A h; cases h) (by intro h; cases h)]
        show ((do pure (Value.bool (!(← Op.equal t (.bool bx) (.bool by_)))) : Sem Value)).run P W = _
        rw [Sem.run_bind,run_equal_bool ht]
        rfl
    · cases hv
  · cases hv

/-! addresses and slices -/

theorem add_off (b o n : Nat) : (⟨b,o,none⟩ : Addr).add n = ⟨b,o + n,none⟩:=by
  unfold Addr.add; split <;> simp_all

theorem p_eqNil (r : REnv nt φ env a.tmps) (g : GOK G φ) {b : BinOp} {neg : Bool} (hb : isCmp b = some neg) {t e : TypeId} (ht : P.underlying t = some (.slice e)) {x y : Operand} {p : O} (hp : toO G x = some p) (hy : isNilS y = true) {v : V} (hv : evEqNil neg p env = some v) :
    ∃ z,(do eqGuard b t x y (a.eval x) (a.eval y); binOp b t (a.eval x) (a.eval y) : Sem Value).run P W = .ok z W ∧ RV φ v z:=by
  have hye : a.eval y = .slice none 0 0:=by
    unfold isNilS at hy
    split at hy
    · rfl
    · cases hy
  have hrun : ∀ (d : Nat) (u : Option Addr) (l c : Nat),(Op.equalIn (d + 1) t (.slice u l c) (.slice none 0 0)).run P W = .ok u.isNone W:=by
    intro d u l c
    rw [Op.equalIn,Sem.run_bind,run_underlying ht]
    cases u <;> rfl
  have key : ∀ (u : Option Addr) (l c : Nat),a.eval x = .slice u l c → (do eqGuard b t x y (a.eval x) (a.eval y); binOp b t (a.eval x) (a.eval y) : Sem Value).run P W = .ok (.bool (u.isNone != neg)) W:=by
    intro u l c hx
    rw [hx,hye,Sem.run_bind,eqGuard_leaf b t x y _ _ (by intro A h; cases h) (by intro h; cases h)]
    cases b <;> simp only [isCmp,reduceCtorEq,Option.some.injEq] at hb <;> subst hb
    · show ((do pure (Value.bool (← Op.equal t (.slice u l c) (.slice none 0 0))) : Sem Value)).run P W = _
      rw [Sem.run_bind]
      show (Result.andThen (Sem.run P (Op.equalIn (9999 + 1) t (.slice u l c) (.slice none 0 0)) W) _) = _
      rw [hrun]
      simp
    · show ((do pure (Value.bool (!(← Op.equal t (.slice u l c) (.slice none 0 0)))) : Sem Value)).run P W = _
      rw [Sem.run_bind]
      show (Result.andThen (Sem.run P (Op.equalIn (9999 + 1) t (.slice u l c) (.slice none 0 0)) W) _) = _
      rw [hrun]
      simp
  unfold evEqNil at hv
  split at hv
  · rename_i hx
    cases hv
    have hr:=toO_ok hp r g hx
    simp only [RV] at hr
    refine ⟨_,key _ _ _ hr,by simp [RV]⟩
  · rename_i hx
    cases hv
    have hr:=toO_ok hp r g hx
    simp only [RV] at hr
    obtain ⟨_,_,_,_,hr,_⟩:=hr
    refine ⟨_,key _ _ _ hr,by simp [RV]⟩
  · cases hv

theorem optO_ok (r : REnv nt φ env a.tmps) (g : GOK G φ) {x : Option Operand} {o : Option O} (h : optO G x = some o) {d n : Nat} (hn : optNat env d o = some n) :
    (x = none ∧ n = d) ∨ ∃ y k,x = some y ∧ a.eval y = .int k (n : Int):=by
  cases x with
  | none => simp only [optO,Option.some.injEq] at h; subst h; simp only [optNat,Option.some.injEq] at hn; exact .inl ⟨rfl,hn.symm⟩
  | some y =>
    simp only [optO] at h
    split at h
    · rename_i o' ho
      cases h
      simp only [optNat] at hn
      obtain ⟨k,hk⟩:=nat_ok r g ho hn
      exact .inr ⟨y,k,rfl,hk⟩
    · cases h

theorem run_sliceBound (k : IntKind) (i y : Nat) (code : BoundsCode) (h : i ≤ y) : (Instr.sliceBound (.int k (i : Int)) y code).run P W = .ok i W:=by
  have h1 : (0 : Int) ≤ (i : Int) ∧ (i : Int) ≤ (y : Int):=by omega
  simp [Instr.sliceBound,asIntOf]
  omega

/-- the bounds of x[lo:hi] -/
theorem run_bounds (isSlice : Bool) (l c lo hi : Nat) (xlo xhi : Option Value) (hlo : (xlo = none ∧ lo = 0) ∨ ∃ k,xlo = some (.int k (lo : Int))) (hhi : (xhi = none ∧ hi = l) ∨ ∃ k,xhi = some (.int k (hi : Int)))
    (h1 : lo ≤ hi) (h2 : hi ≤ c) : (Instr.sliceBounds isSlice l c xlo xhi none).run P W = .ok (lo,hi,c) W:=by
  unfold Instr.sliceBounds
  obtain ⟨rfl,rfl⟩ | ⟨k1,rfl⟩:=hlo <;> obtain ⟨rfl,rfl⟩ | ⟨k2,rfl⟩:=hhi <;>
    simp [run_sliceBound,h1,h2]

theorem run_bounds3 (isSlice : Bool) (l c lo hi m : Nat) (xlo : Option Value) (khi km : IntKind) (hlo : (xlo = none ∧ lo = 0) ∨ ∃ k,xlo = some (.int k (lo : Int)))
    (h1 : lo ≤ hi) (h2 : hi ≤ m) (h3 : m ≤ c) : (Instr.sliceBounds isSlice l c xlo (some (.int khi (hi : Int))) (some (.int km (m : Int)))).run P W = .ok (lo,hi,m) W:=by
  unfold Instr.sliceBounds
  obtain ⟨rfl,rfl⟩ | ⟨k1,rfl⟩:=hlo <;>
    simp [run_sliceBound,h1,h2,h3]

theorem optO_map (r : REnv nt φ env a.tmps) (g : GOK G φ) {x : Option Operand} {o : Option O} (h : optO G x = some o) {d n : Nat} (hn : optNat env d o = some n) :
    (x.map a.eval = none ∧ n = d) ∨ ∃ k,x.map a.eval = some (.int k (n : Int)):=by
  rcases optO_ok r g h hn with ⟨rfl,rfl⟩ | ⟨y,k,rfl,hk⟩
  · exact .inl ⟨rfl,rfl⟩
  · exact .inr ⟨k,by simp [hk]⟩

/-- a slice of a slice,as an address -/
theorem slice_rel {b o sz lo hi c' : Nat} {ex : Bool} {x : Nat × Nat × Nat} {o' m m' : Nat} (hφ : φ b = some x) (hsz : 1 ≤ sz) (hat : c' = 0 ∨ (o' = x.2.1 + o ∧ o + c' * sz ≤ x.2.2))
    (h1 : lo ≤ hi) (h2 : hi ≤ m) (hm : m ≤ m') (hmc : m' ≤ c') (hex : ex = true → m' = m) :
    RV φ (.sl b (o + lo * sz) (hi - lo) (m - lo) sz ex) (.slice (if m' = lo then some ⟨x.1,o',none⟩ else (some (⟨x.1,o',none⟩ : Addr)).map (·.add (lo * sz))) (hi - lo) (m' - lo)):=by
  simp only [RV]
  by_cases he : m' = lo
  · refine ⟨x,o',m' - lo,hφ,by simp [he],by omega,by omega,fun h => by have:=hex h; omega,hsz,.inl (by omega)⟩
  · rcases hat with hat | ⟨rfl,hat⟩
    · omega
    · refine ⟨x,x.2.1 + o + lo * sz,m' - lo,hφ,by simp [he,add_off],by omega,by omega,fun h => by have:=hex h; omega,hsz,.inr ⟨by omega,?_⟩⟩
      have e : lo * sz + (m' - lo) * sz ≤ c' * sz:=by
        rw [← Nat.add_mul]
        exact Nat.mul_le_mul_right _ (by omega)
      omega

theorem pureL_eq (l : List V) : pureL l = l.all pureV:=by induction l <;> simp_all [pureL]

theorem pureL_sub {l m : List V} (h : pureL l = true) (k : ∀ v ∈ m,v ∈ l) : pureL m = true:=by
  rw [pureL_eq,List.all_eq_true] at h ⊢
  exact fun v hv => h v (k v hv)

theorem pureL_take {l : List V} (h : pureL l = true) (n : Nat) : pureL (l.take n) = true:=pureL_sub h fun _ hv => List.mem_of_mem_take hv
theorem pureL_drop {l : List V} (h : pureL l = true) (n : Nat) : pureL (l.drop n) = true:=pureL_sub h fun _ hv => List.mem_of_mem_drop hv
theorem pureL_app {l m : List V} (h : pureL l = true) (k : pureL m = true) : pureL (l ++ m) = true:=by
  rw [pureL_eq] at h k ⊢
  rw [List.all_append,h,k]; rfl

theorem pureV_one {v : V} (h : pureV v = true) : one v = true:=by cases v <;> first | rfl | cases h
theorem pureL_one {l : List V} (h : pureL l = true) : l.all one = true:=by
  rw [pureL_eq,List.all_eq_true] at h
  exact List.all_eq_true.2 fun v hv => pureV_one (h v hv)

/-- what a part of a frozen row is -/
theorem RVs.part {cs : List V} {ds : List Value} {o n i k : Nat} (hl : cs.length = n) (ho : o + n ≤ ds.length) (h : RVs φ cs ((ds.drop o).take n)) (hk : i + k ≤ n) :
    RVs φ ((cs.drop i).take k) ((ds.drop (o + i)).take k):=by
  have h1:=(h.drop i).take k
  have e : (((ds.drop o).take n).drop i).take k = (ds.drop (o + i)).take k:=by
    rw [List.drop_take,List.drop_drop,List.take_take,Nat.min_eq_left (by omega)]
  rw [e] at h1
  exact h1

theorem slice_fz {n sz lo hi c' m' : Nat} {cs : List V} {p : Option Addr} (h0 : pureL cs = true) (h1 : cs.length = n * sz) (h2 : 1 ≤ sz) (h4 : n ≤ c') (h5 : p = none → n = 0 ∧ c' = 0) (h6 : c' = 0 ∨ ∀ a,p = some a → a.spot = none)
    (h7 : n = 0 ∨ ∃ x o ds,p = some ⟨x,o,none⟩ ∧ φ.fz x = some ds ∧ o + n * sz ≤ ds.length ∧ RVs φ cs ((ds.drop o).take (n * sz)))
    (k1 : lo ≤ hi) (k2 : hi ≤ n) (k3 : hi ≤ m') (k4 : m' ≤ c') {md : Md} (hmd : md = .no ∨ md = .ex ∧ m' = hi) :
    RV φ (.fz md (hi - lo) sz (takeN (dropN cs (lo * sz)) ((hi - lo) * sz))) (.slice (if m' = lo then p else p.map (·.add (lo * sz))) (hi - lo) (m' - lo)):=by
  have hle : lo * sz + (hi - lo) * sz ≤ n * sz:=by
    rw [← Nat.add_mul]
    exact Nat.mul_le_mul_right _ (by omega)
  have hmdok : MdOK φ md (hi - lo) (m' - lo) (.slice (if m' = lo then p else p.map (·.add (lo * sz))) (hi - lo) (m' - lo)):=by
    rcases hmd with rfl | ⟨rfl,rfl⟩
    · trivial
    · rfl
  simp only [RV,takeN_eq,dropN_eq]
  refine ⟨pureL_take (pureL_drop h0 _) _,by rw [List.length_take,List.length_drop]; omega,h2,_,m' - lo,rfl,by omega,fun e => ?_,?_,?_,hmdok⟩
  · have hp : p = none:=by
      split at e
      · exact e
      · simpa using e
    have:=h5 hp
    omega
  · by_cases hm0 : m' = lo
    · exact .inl (by omega)
    · right
      intro a e
      rcases h6 with h6 | h6
      · omega
      rw [if_neg hm0] at e
      cases hp : p with
      | none => rw [hp] at e; cases e
      | some q =>
        rw [hp] at e
        simp only [Option.map_some,Option.some.injEq] at e
        subst e
        have:=h6 q hp
        obtain ⟨qb,qo,qs⟩:=q
        simp only at this
        subst this
        rw [add_off]
  · by_cases hz : hi - lo = 0
    · exact .inl hz
    · right
      rcases h7 with h7 | ⟨x,o,ds,rfl,q1,q2,q3⟩
      · omega
      · refine ⟨x,o + lo * sz,ds,?_,q1,by omega,RVs.part h1 q2 q3 hle⟩
        rw [if_neg (by omega)]
        simp [add_off]

theorem p_slice (r : REnv nt φ env a.tmps) (g : GOK G φ) {t : TypeId} {x : Operand} {lo hi mx : Option Operand} {c : PC} (h : cSlice P G t x lo hi mx = some c) {v : V} (hv : evP c env = some v) :
    ∃ z,(Instr.sliceAt t (a.eval x) (lo.map a.eval) (hi.map a.eval) (mx.map a.eval)).run P W = .ok z W ∧ RV φ v z:=by
  unfold cSlice at h
  split at h
  · cases h
  rename_i px hpx
  split at h
  · cases h
  rename_i plo hplo
  split at h
  · -- a slice
    rename_i e ht
    split at h
    · cases h
    rename_i s hs
    split at h
    · split at h
      · rename_i phi hphi
        cases h
        simp only [evP,evSlS] at hv
        split at hv
        · rename_i vx hvx
          split at hv
          · rename_i nlo hnlo
            split at hv
            · rename_i nhi hnhi
              have hr:=toO_ok hpx r g hvx
              have hlo:=optO_map (a:=a) r g hplo hnlo
              have hhi:=optO_map (a:=a) r g hphi hnhi
              unfold sliceS at hv
              split at hv
              · simp only [cond_eq_ite,Bool.and_eq_true,Nat.beq_eq] at hv
                split at hv
                · rename_i hc
                  obtain ⟨rfl,rfl⟩:=hc
                  cases hv
                  simp only [RV] at hr
                  rw [hr]
                  have hb:=run_bounds (P:=P) (W:=W) true 0 0 0 0 (lo.map a.eval) (hi.map a.eval) hlo (by simpa [lenSl] using hhi) (Nat.le_refl _) (Nat.le_refl _)
                  refine ⟨.slice none 0 0,?_,by simp only [RV]⟩
                  simp only [Instr.sliceAt,Instr.slice,Sem.run_bind,run_underlying ht,Result.andThen_ok,Option.map_none,hb,run_sizeOf hs]
                  rfl
                · cases hv
              · rename_i b o l c sz' ex
                simp only [cond_eq_ite,Bool.and_eq_true,Nat.beq_eq,Nat.ble_eq] at hv
                split at hv
                · rename_i hc
                  obtain ⟨⟨rfl,h1⟩,h2⟩:=hc
                  cases hv
                  simp only [RV] at hr
                  obtain ⟨xx,o',c',hφ,hx,hlc,hcc,hex,hsz,hat⟩:=hr
                  rw [hx]
                  have hb:=run_bounds (P:=P) (W:=W) true l c' nlo nhi (lo.map a.eval) (hi.map a.eval) hlo (by simpa [lenSl] using hhi) h1 (by omega)
                  refine ⟨_,?_,slice_rel (m:=c) (m':=c') hφ hsz hat h1 h2 hcc (Nat.le_refl _) hex⟩
                  simp only [Instr.sliceAt,Instr.slice,Sem.run_bind,run_underlying ht,Result.andThen_ok,Option.map_none,hb,run_sizeOf hs,Sem.run_pure]
                · cases hv
              · rename_i m n sz' cs
                simp only [cond_eq_ite,Bool.and_eq_true,Nat.beq_eq,Nat.ble_eq] at hv
                split at hv
                · rename_i hc
                  obtain ⟨⟨rfl,h1⟩,h2⟩:=hc
                  cases hv
                  simp only [RV] at hr
                  obtain ⟨k0,k1,k2,p,c',hx,k4,k5,k6,k7,_⟩:=hr
                  rw [hx]
                  have hb:=run_bounds (P:=P) (W:=W) true n c' nlo nhi (lo.map a.eval) (hi.map a.eval) hlo (by simpa [lenSl] using hhi) h1 (by omega)
                  refine ⟨_,?_,slice_fz (m':=c') k0 k1 k2 k4 k5 k6 k7 h1 h2 (by omega) (Nat.le_refl _) (.inl rfl)⟩
                  simp only [Instr.sliceAt,Instr.slice,Sem.run_bind,run_underlying ht,Result.andThen_ok,Option.map_none,hb,run_sizeOf hs,Sem.run_pure]
                · cases hv
              · cases hv
            · cases hv
          · cases hv
        · cases hv
      · cases h
    · rename_i xm
      split at h
      · cases h
      rename_i pm hpm
      split at h
      · cases h
      rename_i xhi
      split at h
      · rename_i phi hphi
        cases h
        simp only [evP,evSlS3] at hv
        split at hv
        · rename_i vx hvx
          split at hv
          · rename_i nlo hnlo
            split at hv
            · rename_i nhi hnhi
              split at hv
              · rename_i nm hnm
                have hr:=toO_ok hpx r g hvx
                have hlo:=optO_map (a:=a) r g hplo hnlo
                obtain ⟨khi,ehi⟩:=nat_ok (a:=a) r g hphi hnhi
                obtain ⟨km,em⟩:=nat_ok (a:=a) r g hpm hnm
                unfold sliceS3 at hv
                split at hv
                · simp only [cond_eq_ite,Bool.and_eq_true,Nat.beq_eq] at hv
                  split at hv
                  · rename_i hc
                    obtain ⟨⟨rfl,rfl⟩,rfl⟩:=hc
                    cases hv
                    simp only [RV] at hr
                    rw [hr]
                    have hb:=run_bounds3 (P:=P) (W:=W) true 0 0 0 0 0 (lo.map a.eval) khi km hlo (Nat.le_refl _) (Nat.le_refl _) (Nat.le_refl _)
                    refine ⟨.slice none 0 0,?_,by simp only [RV]⟩
                    simp only [Instr.sliceAt,Instr.slice,Sem.run_bind,run_underlying ht,Result.andThen_ok,Option.map_some,ehi,em,hb,run_sizeOf hs]
                    rfl
                  · cases hv
                · rename_i b o l c sz' ex
                  simp only [cond_eq_ite,Bool.and_eq_true,Nat.beq_eq,Nat.ble_eq] at hv
                  split at hv
                  · rename_i hc
                    obtain ⟨⟨⟨rfl,h1⟩,h2⟩,h3⟩:=hc
                    cases hv
                    simp only [RV] at hr
                    obtain ⟨xx,o',c',hφ,hx,hlc,hcc,hex,hsz,hat⟩:=hr
                    rw [hx]
                    have hb:=run_bounds3 (P:=P) (W:=W) true l c' nlo nhi nm (lo.map a.eval) khi km hlo h1 h2 (by omega)
                    refine ⟨_,?_,slice_rel (m:=nm) (m':=nm) (ex:=true) hφ hsz hat h1 h2 (Nat.le_refl _) (by omega) (fun _ => rfl)⟩
                    simp only [Instr.sliceAt,Instr.slice,Sem.run_bind,run_underlying ht,Result.andThen_ok,Option.map_some,ehi,em,hb,run_sizeOf hs,Sem.run_pure]
                  · cases hv
                · rename_i m n sz' cs
                  simp only [cond_eq_ite,Bool.and_eq_true,Nat.beq_eq,Nat.ble_eq] at hv
                  split at hv
                  · rename_i hc
                    obtain ⟨⟨⟨rfl,h1⟩,h2⟩,h3⟩:=hc
                    cases hv
                    simp only [RV] at hr
                    obtain ⟨k0,k1,k2,p,c',hx,k4,k5,k6,k7,_⟩:=hr
                    rw [hx]
                    have hb:=run_bounds3 (P:=P) (W:=W) true n c' nlo nhi nm (lo.map a.eval) khi km hlo h1 (by omega) (by omega)
                    refine ⟨_,?_,slice_fz (m':=nm) k0 k1 k2 k4 k5 k6 k7 h1 (by omega) (by omega) (by omega) (.inr ⟨rfl,h2.symm⟩)⟩
                    simp only [Instr.sliceAt,Instr.slice,Sem.run_bind,run_underlying ht,Result.andThen_ok,Option.map_some,ehi,em,hb,run_sizeOf hs,Sem.run_pure]
                  · cases hv
                · cases hv
              · cases hv
            · cases hv
          · cases hv
        · cases hv
      · cases h
  · -- a string
    rename_i ht
    split at h
    · split at h
      · rename_i phi hphi
        cases h
        simp only [evP,evSlStr] at hv
        split at hv
        · rename_i l hvx
          split at hv
          · rename_i nlo hnlo
            split at hv
            · rename_i nhi hnhi
              simp only [cond_eq_ite,Bool.and_eq_true,Nat.ble_eq] at hv
              split at hv
              · rename_i hc
                cases hv
                have hr:=toO_ok hpx r g hvx
                have hlo:=optO_map (a:=a) r g hplo hnlo
                have hhi:=optO_map (a:=a) r g hphi hnhi
                simp only [RV] at hr
                obtain ⟨s,hx,hl⟩:=hr
                rw [hx]
                have hlen : len l = s.size:=by rw [len_eq,← hl,List.length_map]; cases s; rfl
                rw [hlen] at hhi hc
                have hb:=run_bounds (P:=P) (W:=W) false s.size s.size nlo nhi (lo.map a.eval) (hi.map a.eval) hlo hhi hc.1 hc.2
                refine ⟨.string (s.extract nlo nhi),?_,?_⟩
                · simp only [Instr.sliceAt,Instr.slice,Sem.run_bind,run_underlying ht,Result.andThen_ok,Option.map_none,Option.isSome_none,Bool.false_eq_true,if_false,hb]
                  rfl
                · simp only [RV]
                  refine ⟨_,rfl,?_⟩
                  rw [takeN_eq,dropN_eq,← hl,ByteArray.data_extract]
                  simp [List.map_take,List.map_drop]
              · cases hv
            · cases hv
          · cases hv
        · cases hv
      · cases h
    · cases h
  · cases h

end
end Go.Ev
namespace Go.Ev

section
variable {P : Program} {G : GL} {nt : Nat} {φ : Phi} {env : Env} {a : Act} {W : World}

/-- a part of what a frozen pointer leads to -/
theorem pf_part {cs : List V} {z : Value} (h : RV φ (.pf cs) z) : ∃ x o,z = .pointer (some ⟨x,o,none⟩) ∧ ∀ i k,i + k ≤ cs.length → RV φ (.pf ((cs.drop i).take k)) (.pointer (some ⟨x,o + i,none⟩)):=by
  simp only [RV] at h
  obtain ⟨h0,x,o,ds,h1,h2,h3,h4⟩:=h
  refine ⟨x,o,h1,fun i k hk => ?_⟩
  simp only [RV]
  have hl : ((cs.drop i).take k).length = k:=by rw [List.length_take,List.length_drop]; omega
  refine ⟨pureL_take (pureL_drop h0 _) _,x,o + i,ds,rfl,h2,by rw [hl]; omega,?_⟩
  rw [hl]
  exact RVs.part rfl h3 h4 hk

theorem pf_drop {cs : List V} {x o i : Nat} (h : ∀ i k,i + k ≤ cs.length → RV φ (.pf ((cs.drop i).take k)) (.pointer (some ⟨x,o + i,none⟩))) (hi : i ≤ cs.length) : RV φ (.pf (cs.drop i)) (.pointer (some ⟨x,o + i,none⟩)):=by
  have:=h i (cs.length - i) (by omega)
  rwa [List.take_of_length_le (by rw [List.length_drop]; omega)] at this

theorem p_pick (r : REnv nt φ env a.tmps) (g : GOK G φ) {c x y : Operand} {pc px py : O} (hc : toO G c = some pc) (hx : toO G x = some px) (hy : toO G y = some py) {v : V} (hv : evPick pc px py env = some v) :
    ∃ z,(do pure (Next.value (if ← asBool (a.eval c) then a.eval x else a.eval y)) : Sem Next).run P W = .ok (.value z) W ∧ RV φ v z:=by
  unfold evPick at hv
  split at hv
  · rename_i b hb
    have hr:=toO_ok hc r g hb
    simp only [RV] at hr
    rw [hr]
    cases b
    · exact ⟨_,rfl,toO_ok hy r g hv⟩
    · exact ⟨_,rfl,toO_ok hx r g hv⟩
  · cases hv

theorem p_nil (r : REnv nt φ env a.tmps) (g : GOK G φ) {x : Operand} {px : O} (hx : toO G x = some px) {v : V} (hv : evNil px env = some v) :
    ∃ q,a.eval x = .pointer (some q) ∧ RV φ v (.pointer (some q)):=by
  unfold evNil at hv
  split at hv
  · rename_i b o hb
    have hr:=toO_ok hx r g hb
    cases hv
    obtain ⟨q,hq,he⟩:=(show ∃ q,φ b = some q ∧ a.eval x = .pointer (some ⟨q.1,q.2.1 + o,none⟩) by simpa only [RV] using hr)
    exact ⟨_,he,by rw [← he]; exact hr⟩
  · rename_i cs hb
    have hr:=toO_ok hx r g hb
    cases hv
    obtain ⟨y,o,he,_⟩:=pf_part hr
    exact ⟨_,he,by rw [← he]; exact hr⟩
  · cases hv

theorem p_fa (r : REnv nt φ env a.tmps) (g : GOK G φ) {t : TypeId} {x : Operand} {i : Nat} {c : PC} (h : cP P G (.fieldAddr t x i) = some c) {v : V} (hv : evP c env = some v) :
    ∃ z,(Instr.fieldAt t (a.eval x) i).run P W = .ok z W ∧ RV φ v z:=by
  simp only [cP] at h
  split at h
  · cases h
  rename_i fs hfs
  split at h
  · cases h
  rename_i f hf
  split at h
  · rename_i n hn
    split at h
    · rename_i px hpx
      cases h
      simp only [evP,evFa] at hv
      split at hv
      · rename_i b o hb
        cases hv
        have hr:=toO_ok hpx r g hb
        simp only [RV] at hr
        obtain ⟨q,hq,he⟩:=hr
        have ht : P.underlying t = some (.struct fs):=by
          unfold fieldsT at hfs
          split at hfs
          · rename_i fs' h'; cases hfs; exact h'
          · cases hfs
        refine ⟨.pointer (some ⟨q.1,q.2.1 + o + f.offset,none⟩),?_,?_⟩
        · rw [he]
          simp only [Instr.fieldAt,Sem.run_bind,run_underlying ht,Result.andThen_ok,hf,Instr.sureAddr,Sem.run_pure,fieldPlace,run_sizeOf hn]
          simp [add_off]
        · simp only [RV]
          exact ⟨q,hq,by simp [Nat.add_assoc]⟩
      · rename_i cs hb
        simp only [cond_eq_ite,Nat.ble_eq,len_eq] at hv
        split at hv
        · rename_i hle
          cases hv
          have hr:=toO_ok hpx r g hb
          obtain ⟨y,o,he,hk⟩:=pf_part hr
          have ht : P.underlying t = some (.struct fs):=by
            unfold fieldsT at hfs
            split at hfs
            · rename_i fs' h'; cases hfs; exact h'
            · cases hfs
          refine ⟨.pointer (some ⟨y,o + f.offset,none⟩),?_,by rw [dropN_eq]; exact pf_drop hk hle⟩
          rw [he]
          simp only [Instr.fieldAt,Sem.run_bind,run_underlying ht,Result.andThen_ok,hf,Instr.sureAddr,Sem.run_pure,fieldPlace,run_sizeOf hn]
          simp [add_off]
        · cases hv
      · cases hv
    · cases h
  · cases h

theorem run_part_agg {t : TypeId} {n : Nat} (ha : aggT P t = some true) (hs : sizeT P t = some n) (cs : Array Value) (off : Nat) (W : World) :
    (part t cs off).run P W = .ok (.agg (cs.extract off (off + n))) W:=by
  simp [part,run_isAgg ha,run_sizeOf hs]

theorem run_part_one {t : TypeId} (ha : aggT P t = some false) (cs : Array Value) (off : Nat) {v : Value} (hv : cs[off]? = some v) (W : World) :
    (part t cs off).run P W = .ok v W:=by
  simp [part,run_isAgg ha,hv]

theorem RVs.extract {cs : List V} {A : Array Value} (h : RVs φ cs A.toList) (o n : Nat) : RVs φ (takeN (dropN cs o) n) (A.extract o (o + n)).toList:=by
  rw [takeN_eq,dropN_eq]
  have:=(h.drop o).take n
  simpa [Array.toList_extract,List.extract_eq_take_drop] using this

theorem one_extract {cs : List V} (h : cs.all one = true) (o n : Nat) : (takeN (dropN cs o) n).all one = true:=by
  rw [takeN_eq,dropN_eq]
  refine all_of_get fun j v hv => ?_
  rw [List.getElem?_take] at hv
  split at hv
  · rw [List.getElem?_drop] at hv; exact get_of_all h hv
  · cases hv

theorem p_field (r : REnv nt φ env a.tmps) (g : GOK G φ) {t : TypeId} {x : Operand} {i : Nat} {c : PC} (h : cP P G (.field t x i) = some c) {v : V} (hv : evP c env = some v) :
    ∃ z,(Instr.field t (a.eval x) i).run P W = .ok z W ∧ RV φ v z:=by
  simp only [cP] at h
  split at h
  · cases h
  rename_i fs hfs
  have ht : P.underlying t = some (.struct fs):=by
    unfold fieldsT at hfs
    split at hfs
    · rename_i fs' h'; cases hfs; exact h'
    · cases hfs
  split at h
  · cases h
  rename_i f hf
  split at h
  · cases h
  rename_i px hpx
  split at h
  · rename_i ha
    split at h
    · rename_i n hn
      cases h
      simp only [evP,evFldn] at hv
      split at hv
      · rename_i cs hcs
        simp only [cond_eq_ite,Nat.ble_eq] at hv
        split at hv
        · cases hv
          obtain ⟨A,he,hr,ho⟩:=cells_ok (a:=a) r g hpx hcs
          refine ⟨.agg (A.extract f.offset (f.offset + n)),?_,?_⟩
          · rw [he]
            simp only [Instr.field,Sem.run_bind,run_underlying ht,Result.andThen_ok,hf,asAgg,Sem.run_pure,run_part_agg ha hn]
          · simp only [RV]
            exact ⟨_,rfl,hr.extract _ _,one_extract ho _ _⟩
        · cases hv
      · cases hv
    · cases h
  · rename_i ha
    cases h
    simp only [evP,evFld1] at hv
    split at hv
    · rename_i cs hcs
      obtain ⟨A,he,hr,ho⟩:=cells_ok (a:=a) r g hpx hcs
      rw [nth_eq] at hv
      obtain ⟨z,hz,hrz⟩:=hr.get hv
      have hz' : A[f.offset]? = some z:=by simpa using hz
      refine ⟨z,?_,hrz⟩
      rw [he]
      simp only [Instr.field,Sem.run_bind,run_underlying ht,Result.andThen_ok,hf,asAgg,Sem.run_pure,run_part_one ha A _ hz']
    · cases hv
  · cases h

theorem p_indexAddr (r : REnv nt φ env a.tmps) (g : GOK G φ) {t : TypeId} {x i : Operand} {c : PC} (h : cP P G (.indexAddr t x i) = some c) {v : V} (hv : evP c env = some v) :
    ∃ z,(Instr.indexAt t (a.eval x) (a.eval i)).run P W = .ok z W ∧ RV φ v z:=by
  simp only [cP] at h
  split at h
  · rename_i n e ht
    split at h
    · cases h
    rename_i s hs
    obtain ⟨p,q,hp,hq,rfl⟩:=c2_ok h
    simp only [evP,evIxA] at hv
    split at hv
    · rename_i b o hb
      split at hv
      · rename_i m hm
        simp only [cond_eq_ite,Nat.ble_eq] at hv
        split at hv
        · rename_i hlt
          cases hv
          have hr:=toO_ok hp r g hb
          obtain ⟨k,hk⟩:=nat_ok (a:=a) r g hq hm
          simp only [RV] at hr
          obtain ⟨y,hy,he⟩:=hr
          refine ⟨.pointer (some ⟨y.1,y.2.1 + o + m * s,none⟩),?_,?_⟩
          · rw [he,hk]
            have hb1 : (0 : Int) ≤ (m : Int) ∧ (m : Int) < (n : Int):=by omega
            simp [Instr.indexAt,asIntOf,run_underlying ht,Instr.sureAddr,run_sizeOf hs,add_off]
            omega
          · simp only [RV]
            exact ⟨y,hy,by simp [Nat.add_assoc]⟩
        · cases hv
      · cases hv
    · rename_i cs hb
      split at hv
      · rename_i m hm
        simp only [cond_eq_ite,Nat.ble_eq,Bool.and_eq_true,len_eq] at hv
        split at hv
        · rename_i hc
          obtain ⟨hlt,hle⟩:=hc
          cases hv
          have hr:=toO_ok hp r g hb
          obtain ⟨k,hk⟩:=nat_ok (a:=a) r g hq hm
          obtain ⟨y,o,he,hpart⟩:=pf_part hr
          have hms : m * s + s ≤ n * s:=by rw [← Nat.succ_mul]; exact Nat.mul_le_mul_right _ hlt
          refine ⟨.pointer (some ⟨y,o + m * s,none⟩),?_,by rw [takeN_eq,dropN_eq]; exact hpart _ _ (by omega)⟩
          rw [he,hk]
          have hb1 : (0 : Int) ≤ (m : Int) ∧ (m : Int) < (n : Int):=by omega
          simp [Instr.indexAt,asIntOf,run_underlying ht,Instr.sureAddr,run_sizeOf hs,add_off]
          omega
        · cases hv
      · cases hv
    · cases hv
  · rename_i e ht
    split at h
    · cases h
    rename_i s hs
    obtain ⟨p,q,hp,hq,rfl⟩:=c2_ok h
    simp only [evP,evIxS] at hv
    split at hv
    · rename_i b o l cc sz' ex hb
      split at hv
      · rename_i m hm
        simp only [cond_eq_ite,Bool.and_eq_true,Nat.beq_eq,Nat.ble_eq] at hv
        split at hv
        · rename_i hc
          obtain ⟨rfl,hlt⟩:=hc
          cases hv
          have hr:=toO_ok hp r g hb
          obtain ⟨k,hk⟩:=nat_ok (a:=a) r g hq hm
          simp only [RV] at hr
          obtain ⟨y,o',c',hy,he,hlc,hcc,hex,hsz,hat⟩:=hr
          obtain ⟨rfl,hat⟩ : o' = y.2.1 + o ∧ o + c' * s ≤ y.2.2:=by
            rcases hat with hat | hat
            · omega
            · exact hat
          refine ⟨.pointer (some ⟨y.1,y.2.1 + o + m * s,none⟩),?_,?_⟩
          · rw [he,hk]
            simp [Instr.indexAt,asIntOf,run_underlying ht,run_sizeOf hs,add_off]
            omega
          · simp only [RV]
            exact ⟨y,hy,by simp [Nat.add_assoc]⟩
        · cases hv
      · cases hv
    · rename_i md n sz' cs hb
      split at hv
      · rename_i m hm
        simp only [cond_eq_ite,Bool.and_eq_true,Nat.beq_eq,Nat.ble_eq] at hv
        split at hv
        · rename_i hc
          obtain ⟨rfl,hlt⟩:=hc
          cases hv
          have hr:=toO_ok hp r g hb
          obtain ⟨k,hk⟩:=nat_ok (a:=a) r g hq hm
          simp only [RV] at hr
          obtain ⟨k0,k1,k2,p,c',he,k4,k5,k6,k7,_⟩:=hr
          rcases k7 with k7 | ⟨x,o,ds,rfl,q1,q2,q3⟩
          · omega
          have hms : m * s + s ≤ n * s:=by rw [← Nat.succ_mul]; exact Nat.mul_le_mul_right _ hlt
          refine ⟨.pointer (some ⟨x,o + m * s,none⟩),?_,?_⟩
          · rw [he,hk]
            simp [Instr.indexAt,asIntOf,run_underlying ht,run_sizeOf hs,add_off]
            omega
          · rw [takeN_eq,dropN_eq]
            simp only [RV]
            have hl : ((cs.drop (m * s)).take s).length = s:=by rw [List.length_take,List.length_drop]; omega
            refine ⟨pureL_take (pureL_drop k0 _) _,x,o + m * s,ds,rfl,q1,by rw [hl]; omega,?_⟩
            rw [hl]
            exact RVs.part k1 q2 q3 (by omega)
        · cases hv
      · cases hv
    · cases hv
  · cases h

theorem p_index (r : REnv nt φ env a.tmps) (g : GOK G φ) {t : TypeId} {x i : Operand} {c : PC} (h : cP P G (.index t x i) = some c) {v : V} (hv : evP c env = some v) :
    ∃ z,(Instr.index t (a.eval x) (a.eval i)).run P W = .ok z W ∧ RV φ v z:=by
  simp only [cP] at h
  split at h
  · rename_i n e ht
    split at h
    · cases h
    · rename_i ha
      split at h
      · cases h
      rename_i s hs
      obtain ⟨p,q,hp,hq,rfl⟩:=c2_ok h
      simp only [evP,evIdAn] at hv
      split at hv
      · rename_i cs hcs
        split at hv
        · rename_i m hm
          simp only [cond_eq_ite,Bool.and_eq_true,Nat.ble_eq] at hv
          split at hv
          · rename_i hc
            cases hv
            obtain ⟨A,he,hr,ho⟩:=cells_ok (a:=a) r g hp hcs
            obtain ⟨k,hk⟩:=nat_ok (a:=a) r g hq hm
            refine ⟨.agg (A.extract (m * s) (m * s + s)),?_,?_⟩
            · rw [he,hk]
              have h1 : (0 : Int) ≤ (m : Int) ∧ (m : Int) < (n : Int):=by omega
              simp [Instr.index,asIntOf,run_underlying ht,run_sizeOf hs,run_part_agg ha hs]
              omega
            · simp only [RV]
              exact ⟨_,rfl,hr.extract _ _,one_extract ho _ _⟩
          · cases hv
        · cases hv
      · cases hv
    · rename_i ha
      split at h
      · rename_i hs
        obtain ⟨p,q,hp,hq,rfl⟩:=c2_ok h
        simp only [evP,evIdA1] at hv
        split at hv
        · rename_i cs hcs
          split at hv
          · rename_i m hm
            simp only [cond_eq_ite,Nat.ble_eq] at hv
            split at hv
            · rename_i hc
              obtain ⟨A,he,hr,ho⟩:=cells_ok (a:=a) r g hp hcs
              obtain ⟨k,hk⟩:=nat_ok (a:=a) r g hq hm
              rw [nth_eq] at hv
              obtain ⟨z,hz,hrz⟩:=hr.get hv
              have hz' : A[m * 1]? = some z:=by simpa using hz
              refine ⟨z,?_,hrz⟩
              rw [he,hk]
              have h1 : (0 : Int) ≤ (m : Int) ∧ (m : Int) < (n : Int):=by omega
              have hrun:=run_part_one ha A (m * 1) hz' W
              simp only [Instr.index,asIntOf,Sem.run_bind,Sem.run_pure,run_underlying ht,Result.andThen_ok,h1,and_self,if_true,run_sizeOf hs,Int.toNat_natCast,hrun]
            · cases hv
          · cases hv
        · cases hv
      · cases h
  · rename_i ht
    obtain ⟨p,q,hp,hq,rfl⟩:=c2_ok h
    simp only [evP,evIdStr] at hv
    split at hv
    · rename_i l hl
      split at hv
      · rename_i m hm
        split at hv
        · rename_i ch hch
          cases hv
          have hr:=toO_ok hp r g hl
          obtain ⟨k,hk⟩:=nat_ok (a:=a) r g hq hm
          simp only [RV] at hr
          obtain ⟨s,he,hs⟩:=hr
          rw [nth_eq,← hs,List.getElem?_map] at hch
          obtain ⟨by_,hby,rfl⟩:=Option.map_eq_some_iff.1 hch
          refine ⟨.int .u8 by_.toNat,?_,by simp [RV]⟩
          rw [he,hk]
          have hsz : m < s.size:=by
            obtain ⟨hlt,_⟩:=List.getElem?_eq_some_iff.1 hby
            have : s.data.toList.length = s.size:=by cases s; rfl
            omega
          have hget : s[m]? = some by_:=by
            obtain ⟨hlt,hv⟩:=List.getElem?_eq_some_iff.1 hby
            rw [getElem?_pos s m hsz]
            congr 1
          have h0 : (0 : Int) ≤ (m : Int):=by omega
          simp [Instr.index,asIntOf,run_underlying ht,hget]
        · cases hv
      · cases hv
    · cases hv
  · cases h

theorem p_un (r : REnv nt φ env a.tmps) (g : GOK G φ) {op : UnOp} {x : Operand} {p : O} (hp : toO G x = some p) {v : V} (hv : evUn op p env = some v) :
    ∃ z,(Op.unary op (a.eval x)).run P W = .ok z W ∧ RV φ v z:=by
  unfold evUn at hv
  split at hv
  · rename_i b hb
    have hr:=toO_ok hp r g hb
    simp only [RV] at hr
    rw [hr]
    split at hv
    · cases hv; exact ⟨_,rfl,by simp only [RV]⟩
    · cases hv
  · rename_i k n hb
    have hr:=toO_ok hp r g hb
    simp only [RV] at hr
    rw [hr]
    split at hv
    · cases hv
      exact ⟨_,rfl,by simp only [RV,wrapB_eq]⟩
    · split at hv
      · rename_i m
        simp only [cond_eq_ite,Bool.and_eq_true,Bool.not_eq_true',Nat.ble_eq] at hv
        split at hv
        · rename_i hc
          cases hv
          refine ⟨.int k (Int.ofNat (kmax k - m)),?_,by simp only [RV]⟩
          have hb : (k.max : Int) = Int.ofNat (kmax k):=by
            obtain ⟨h1,_⟩:=hc
            cases k <;> first | rfl | cases h1
          have hs : k.signed = false:=by
            obtain ⟨h1,_⟩:=hc
            cases k <;> first | rfl | cases h1
          have e : bitB (aop .xor) (kmax k) m = some (kmax k - m):=by
            simp only [aop,bitB,Option.some.injEq]
            obtain ⟨q,hq,_⟩:=kmax_pow k
            rw [hq]
            have hm : m < 2 ^ q:=(le_kmax_iff hq m).1 hc.2
            show (2 ^ q - 1) ^^^ m = _
            rw [Nat.xor_comm]
            apply Nat.eq_of_testBit_eq
            intro i
            rw [Nat.testBit_xor,Nat.testBit_two_pow_sub_one,show 2 ^ q - 1 - m = 2 ^ q - (m + 1) by omega,Nat.testBit_two_pow_sub_succ hm]
            by_cases hi : i < q
            · simp [hi]
            · have : m.testBit i = false:=Nat.testBit_lt_two_pow (Nat.lt_of_lt_of_le hm (Nat.pow_le_pow_right (by decide) (by omega)))
              simp [hi,this]
          have:=run_bit (P:=P) (W:=W) .xor k (kmax k) m (kmax k - m) (Nat.le_refl _) hc.2 e
          simp only [Op.unary,hs,Bool.false_eq_true,if_false,hb]
          exact this
        · cases hv
      · cases hv
    · cases hv
  · cases hv

theorem p_len (r : REnv nt φ env a.tmps) (g : GOK G φ) {t : TypeId} {x : Operand} {c : PC} (h : cLen P G t x = some c) {v : V} (hv : evP c env = some v) (ty : TypeId) (ts : Array TypeId) (xs : Array Value) (hts : ts[0]? = some t) (hxs : xs[0]? = some (a.eval x)) :
    ∃ z,(Builtin.len_ ts ty xs).run P W = .ok z W ∧ RV φ v z:=by
  unfold cLen at h
  split at h
  · rename_i e ht
    split at h
    · rename_i p hp
      cases h
      simp only [evP,evLen] at hv
      split at hv
      · rename_i hx
        cases hv
        have hr:=toO_ok hp r g hx
        simp only [RV] at hr
        rw [hr] at hxs
        exact ⟨goInt 0,by simp [Builtin.len_,hts,hxs,run_underlying ht],by simp [RV,goInt]⟩
      · rename_i l _ _ _ hx
        cases hv
        have hr:=toO_ok hp r g hx
        simp only [RV] at hr
        obtain ⟨y,o',c',hy,he,_⟩:=hr
        rw [he] at hxs
        exact ⟨goInt l,by simp [Builtin.len_,hts,hxs,run_underlying ht],by simp [RV,goInt]⟩
      · rename_i l _ _ hx
        cases hv
        have hr:=toO_ok hp r g hx
        simp only [RV] at hr
        obtain ⟨_,_,_,q,c',he,_⟩:=hr
        rw [he] at hxs
        exact ⟨goInt l,by simp [Builtin.len_,hts,hxs,run_underlying ht],by simp [RV,goInt]⟩
      · cases hv
    · cases h
  · rename_i ht
    split at h
    · rename_i p hp
      cases h
      simp only [evP,evLenS] at hv
      split at hv
      · rename_i l hx
        cases hv
        have hr:=toO_ok hp r g hx
        simp only [RV] at hr
        obtain ⟨s,he,hs⟩:=hr
        rw [he] at hxs
        have : len l = s.size:=by rw [len_eq,← hs,List.length_map]; cases s; rfl
        exact ⟨goInt s.size,by simp [Builtin.len_,hts,hxs,run_underlying ht],by simp [RV,goInt,this]⟩
      · cases hv
    · cases h
  · rename_i n e ht
    cases h
    simp only [evP,Option.some.injEq] at hv
    subst hv
    exact ⟨goInt n,by simp [Builtin.len_,hts,hxs,run_underlying ht],by simp [RV,goInt]⟩
  · rename_i b ht
    split at h
    · rename_i n e hb
      cases h
      simp only [evP,Option.some.injEq] at hv
      subst hv
      exact ⟨goInt n,by simp [Builtin.len_,hts,hxs,run_underlying ht,run_underlying hb],by simp [RV,goInt]⟩
    · cases h
  · cases h

theorem foldV_ok (f : V → V → Option V) (m : Value → Value → Sem Value) (hf : ∀ (x y q0 : V) (u w : Value),f x y = some q0 → RV φ x u → RV φ y w → ∃ q,(m u w).run P W = .ok q W ∧ RV φ q0 q) :
    ∀ (ys : List V) (ws : List Value) (x q0 : V) (u : Value),foldV f x ys = some q0 → RV φ x u → RVs φ ys ws → ∃ q,(ws.foldlM m u).run P W = .ok q W ∧ RV φ q0 q:=by
  intro ys
  induction ys with
  | nil =>
    intro ws x q0 u h hx hy
    simp only [RVs] at hy; subst hy
    simp only [foldV,Option.some.injEq] at h; subst h
    exact ⟨u,rfl,hx⟩
  | cons y ys ih =>
    intro ws x q0 u h hx hy
    simp only [RVs] at hy
    obtain ⟨w,ws',rfl,hw,hws⟩:=hy
    simp only [foldV] at h
    split at h
    · rename_i n hn
      obtain ⟨q,hq,hr⟩:=hf x y n u w hn hx hw
      obtain ⟨q',hq',hr'⟩:=ih ws' n q0 q h hr hws
      exact ⟨q',by rw [List.foldlM_cons,Sem.run_bind,hq]; exact hq',hr'⟩
    · cases h

theorem minV_ok (x y q0 : V) (u w : Value) (h : minV x y = some q0) (hx : RV φ x u) (hy : RV φ y w) : ∃ q,(Builtin.min2 u w).run P W = .ok q W ∧ RV φ q0 q:=by
  unfold minV at h
  split at h
  · cases h
    simp only [RV] at hx hy
    subst hx; subst hy
    refine ⟨_,rfl,?_⟩
    simp only [RV,cond_eq_ite,ltB_eq,decide_eq_true_eq]
  · cases h

theorem maxV_ok (x y q0 : V) (u w : Value) (h : maxV x y = some q0) (hx : RV φ x u) (hy : RV φ y w) : ∃ q,(Builtin.max2 u w).run P W = .ok q W ∧ RV φ q0 q:=by
  unfold maxV at h
  split at h
  · cases h
    simp only [RV] at hx hy
    subst hx; subst hy
    refine ⟨_,rfl,?_⟩
    simp only [RV,cond_eq_ite,ltB_eq,decide_eq_true_eq,gt_iff_lt]
  · cases h

theorem p_mm (r : REnv nt φ env a.tmps) (g : GOK G φ) {f : V → V → Option V} {m : Value → Value → Sem Value} (hf : ∀ (x y q0 : V) (u w : Value),f x y = some q0 → RV φ x u → RV φ y w → ∃ q,(m u w).run P W = .ok q W ∧ RV φ q0 q)
    {l : List Operand} {os : List O} (h : toOs G l = some os) {v : V} (hv : evMm f os env = some v) :
    ∃ u us q0,l.map a.eval = u :: us ∧ (us.foldlM m u).run P W = .ok q0 W ∧ RV φ v q0:=by
  unfold evMm at hv
  split at hv
  · rename_i x ys hxs
    have hr:=toOs_ok (a:=a) r g h hxs
    simp only [RVs] at hr
    obtain ⟨u,us,he,hu,hus⟩:=hr
    obtain ⟨q,hq,hrq⟩:=foldV_ok f m hf ys us x v u hv hu hus
    exact ⟨u,us,q,he,hq,hrq⟩
  · cases hv

theorem p_ext (r : REnv nt φ env a.tmps) (g : GOK G φ) {x : Operand} {i : Nat} {p : O} (hp : toO G x = some p) {v : V} (hv : evExt p i env = some v) :
    ∃ q0,(Instr.extract (a.eval x) i).run P W = .ok q0 W ∧ RV φ v q0:=by
  unfold evExt at hv
  split at hv
  · rename_i vs hvs
    have hr:=toO_ok hp r g hvs
    simp only [RV] at hr
    obtain ⟨A,he,hA⟩:=hr
    rw [nth_eq] at hv
    obtain ⟨q0,hz,hrz⟩:=hA.get hv
    have hz' : A[i]? = some q0:=by simpa using hz
    exact ⟨q0,by rw [he]; simp only [Instr.extract,hz',Sem.run_pure],hrz⟩
  · cases hv

theorem p_mkf (r : REnv nt φ env a.tmps) (g : GOK G φ) {f : Nat} {x y : Array Operand} {p q : List O} (hp : toOs G x.toList = some p) (hq : toOs G y.toList = some q) {v : V} (hv : evMkf f p q env = some v) :
    RV φ v (.func (.func f) (x.map a.eval) (y.map a.eval)):=by
  unfold evMkf at hv
  split at hv
  · rename_i vs hvs
    split at hv
    · rename_i ws hws
      cases hv
      simp only [RV]
      exact ⟨_,_,rfl,by simpa using toOs_ok (a:=a) r g hp hvs,by simpa using toOs_ok (a:=a) r g hq hws⟩
    · cases hv
  · cases hv

theorem p_cap (r : REnv nt φ env a.tmps) (g : GOK G φ) {t e : TypeId} (ht : P.underlying t = some (.slice e)) {x : Operand} {p : O} (hp : toO G x = some p) {v : V} (hv : evCap p env = some v) (ty : TypeId) (ts : Array TypeId) (xs : Array Value) (hts : ts[0]? = some t) (hxs : xs[0]? = some (a.eval x)) :
    ∃ q0,(Builtin.cap_ ts ty xs).run P W = .ok q0 W ∧ RV φ v q0:=by
  unfold evCap at hv
  split at hv
  · rename_i hx
    cases hv
    have hr:=toO_ok hp r g hx
    simp only [RV] at hr
    rw [hr] at hxs
    exact ⟨goInt 0,by simp [Builtin.cap_,hts,hxs,run_underlying ht],by simp [RV,goInt]⟩
  · rename_i cc _ ex hx
    simp only [cond_eq_ite] at hv
    split at hv
    · rename_i hex
      cases hv
      have hr:=toO_ok hp r g hx
      simp only [RV] at hr
      obtain ⟨y,o',c',hy,he,_,_,hc,_⟩:=hr
      rw [he,hc hex] at hxs
      exact ⟨goInt cc,by simp [Builtin.cap_,hts,hxs,run_underlying ht],by simp [RV,goInt]⟩
    · cases hv
  · rename_i l _ _ hx
    cases hv
    have hr:=toO_ok hp r g hx
    simp only [RV,MdOK] at hr
    obtain ⟨_,_,_,q,c',he,_,_,_,_,hc⟩:=hr
    rw [he,hc] at hxs
    exact ⟨goInt l,by simp [Builtin.cap_,hts,hxs,run_underlying ht],by simp [RV,goInt]⟩
  · cases hv

end
end Go.Ev
namespace Go.Ev

theorem app_kinds_len (l r : List Kd) : (app l r).length = l.length + r.length:=by rw [app_eq]; simp

theorem eqCells_app (l r : List Kd) : ∀ (x y : List V),eqCells (app l r) x y = match eqCells l x y with
    | some true => eqCells r (x.drop l.length) (y.drop l.length)
    | o => o:=by
  induction l with
  | nil => intro x y; simp [app,eqCells]
  | cons k l ih =>
    intro x y
    cases x with
    | nil => simp [app,eqCells]
    | cons a x =>
      cases y with
      | nil => simp [app,eqCells]
      | cons b y =>
        simp only [app,eqCells]
        cases eqCell k a b with
        | none => rfl
        | some r => cases r <;> simp [ih]

theorem eqCells_take (l : List Kd) : ∀ (x y : List V),eqCells l x y = eqCells l (x.take l.length) (y.take l.length):=by
  induction l with
  | nil => intro x y; simp [eqCells]
  | cons k l ih =>
    intro x y
    cases x with
    | nil => simp [eqCells]
    | cons a x =>
      cases y with
      | nil => simp [eqCells]
      | cons b y =>
        simp only [eqCells,List.length_cons,List.take_succ_cons]
        rw [ih]

def valOf (ag : Bool) (X : List Value) : Value:=bif ag then .agg X.toArray else X.headD undef

section
variable {P : Program} {G : GL} {nt : Nat} {φ : Phi} {env : Env} {a : Act}

theorem run_part_val {t : TypeId} {ag : Bool} (ha : aggT P t = some ag) {m : Nat} (hs : sizeT P t = some m) (h1 : ag = false → m = 1) (X : List Value) (off : Nat) (hfit : off + m ≤ X.length) (W : World) :
    (part t X.toArray off).run P W = .ok (valOf ag ((X.drop off).take m)) W:=by
  cases ag with
  | true =>
    rw [run_part_agg ha hs]
    congr 2
    apply Array.ext'
    simp [List.extract_eq_take_drop]
  | false =>
    have:=h1 rfl
    subst this
    have hget : X.toArray[off]? = some (valOf false ((X.drop off).take 1)):=by
      have : off < X.length:=by omega
      simp only [valOf,cond_false]
      rw [List.getElem?_toArray,List.getElem?_eq_getElem this,List.drop_eq_getElem_cons this]
      rfl
    exact run_part_one ha _ _ hget W

/-- what it is that the cells of a type are held against one another rightly -/
def EqOk (P : Program) (t : TypeId) (ks : List Kd) (n : Nat) : Prop:=
  ∃ ag,aggT P t = some ag ∧ (ag = false → ks.length = 1) ∧ ∀ (φ : Phi) (d : Nat) (cs ds : List V) (X Y : List Value) (b : Bool),n ≤ d → cs.length = ks.length → ds.length = ks.length →
    RVs φ cs X → RVs φ ds Y → eqCells ks cs ds = some b → ∀ W,(Op.equalIn d t (valOf ag X) (valOf ag Y)).run P W = .ok b W

theorem eqLeaf {t : TypeId} {k : Kd} {n : Nat} (ha : aggT P t = some false)
    (h : ∀ (φ : Phi) (d : Nat) (v w : V) (x y : Value) (b : Bool),RV φ v x → RV φ w y → eqCell k v w = some b → ∀ W,(Op.equalIn (d + 1) t x y).run P W = .ok b W) : EqOk P t [k] (n + 1):=by
  refine ⟨false,ha,fun _ => rfl,fun φ d cs ds X Y b hd hc hds hX hY he W => ?_⟩
  match cs,ds,hc,hds with
  | [v],[w],_,_ =>
    simp only [RVs] at hX hY
    obtain ⟨x,_,rfl,hx,rfl⟩:=hX
    obtain ⟨y,_,rfl,hy,rfl⟩:=hY
    obtain ⟨d,rfl⟩ : ∃ m,d = m + 1:=⟨d - 1,by omega⟩
    simp only [eqCells,cond_eq_ite] at he
    split at he
    · rename_i r hr
      have : b = r:=by cases r <;> simp_all
      subst this
      exact h φ d v w x y b hx hy hr W
    · cases he

theorem eqFields_ok {n : Nat} (ih : ∀ t ks,kindsT P n t = some ks → EqOk P t ks n) (φ : Phi) (d : Nat) (hd : n ≤ d) (cs ds : List V) (X Y : List Value) (hX : RVs φ cs X) (hY : RVs φ ds Y) :
    ∀ (fs : List Field) (o : Nat) (ks : List Kd) (b : Bool),kindsS P (kindsT P n) fs o = some ks → o + ks.length ≤ cs.length → o + ks.length ≤ ds.length → eqCells ks (cs.drop o) (ds.drop o) = some b →
      ∀ W,(Op.eqFields d X.toArray Y.toArray fs).run P W = .ok b W:=by
  intro fs
  induction fs with
  | nil =>
    intro o ks b h _ _ he W
    simp only [kindsS,Option.some.injEq] at h
    subst h
    simp only [eqCells,Option.some.injEq] at he
    subst he
    rfl
  | cons f fs ihf =>
    intro o ks b h h1 h2 he W
    simp only [kindsS] at h
    split at h
    · cases h
    rename_i l hl
    split at h
    · cases h
    rename_i m hm
    simp only [cond_eq_ite,Bool.and_eq_true,Nat.beq_eq,bne_iff_ne,ne_eq,len_eq] at h
    split at h
    · rename_i hc
      obtain ⟨⟨hname,rfl⟩,rfl⟩:=hc
      split at h
      · rename_i r hr
        cases h
        rw [app_kinds_len] at h1 h2
        obtain ⟨ag,hag,hag1,heq⟩:=ih _ _ hl
        rw [eqCells_app] at he
        have hXl:=hX.length
        have hYl:=hY.length
        have px:=run_part_val hag hm hag1 X f.offset (by omega) W
        have py:=run_part_val hag hm hag1 Y f.offset (by omega) W
        have step : ∀ r1,eqCells l (cs.drop f.offset) (ds.drop f.offset) = some r1 → (Op.equalIn d f.type (valOf ag ((X.drop f.offset).take l.length)) (valOf ag ((Y.drop f.offset).take l.length))).run P W = .ok r1 W:=by
          intro r1 hr1
          rw [eqCells_take] at hr1
          exact heq φ d _ _ _ _ r1 hd (by simp; omega) (by simp; omega) ((hX.drop _).take _) ((hY.drop _).take _) hr1 W
        rw [Op.eqFields,if_pos hname]
        simp only [Sem.run_bind,px,py,Result.andThen_ok]
        split at he
        · rename_i h3
          rw [step true h3]
          simp only [Result.andThen_ok,Bool.not_true,Bool.false_eq_true,if_false]
          rw [List.drop_drop,List.drop_drop] at he
          exact ihf (f.offset + l.length) r b hr (by omega) (by omega) he W
        · rename_i h3
          have : b = false:=by
            cases b
            · rfl
            · exact (h3 he).elim
          subst this
          rw [step false he]
          rfl
      · cases h
    · cases h

theorem repK_len (n : Nat) (l : List Kd) : (repK n l).length = n * l.length:=by
  induction n with
  | zero => simp [repK]
  | succ n ih => rw [repK,app_kinds_len,ih,Nat.succ_mul]; omega

theorem eqElems_ok {n : Nat} {e : TypeId} {l : List Kd} {m : Nat} (hm : sizeT P e = some m) (hml : m = l.length) (ih : EqOk P e l n) (φ : Phi) (d : Nat) (hd : n ≤ d) (cs ds : List V) (X Y : List Value) (hX : RVs φ cs X) (hY : RVs φ ds Y)
    (body : Nat → Option Bool × Unit → Sem (ForInStep (Option Bool × Unit)))
    (hbody : ∀ i s W r,(i + 1) * m ≤ cs.length → (i + 1) * m ≤ ds.length → (Op.equalIn d e (valOf ih.choose ((X.drop (i * m)).take m)) (valOf ih.choose ((Y.drop (i * m)).take m))).run P W = .ok r W →
      (body i s).run P W = .ok (if r then .yield (none,()) else .done (some false,())) W) :
    ∀ (k i : Nat) (b : Bool),(i + k) * m ≤ cs.length → (i + k) * m ≤ ds.length → eqCells (repK k l) (cs.drop (i * m)) (ds.drop (i * m)) = some b → ∀ W,
      (forIn (List.range' i k) ((none,()) : Option Bool × Unit) body).run P W = .ok (if b then (none,()) else (some false,())) W:=by
  intro k
  induction k with
  | zero =>
    intro i b _ _ he W
    simp only [repK,eqCells,Option.some.injEq] at he
    subst he
    rfl
  | succ k ihk =>
    intro i b h1 h2 he W
    have hi1 : (i + 1) * m ≤ cs.length:=Nat.le_trans (Nat.mul_le_mul_right _ (by omega)) h1
    have hi2 : (i + 1) * m ≤ ds.length:=Nat.le_trans (Nat.mul_le_mul_right _ (by omega)) h2
    rw [repK,eqCells_app] at he
    obtain ⟨_,_,heq⟩:=ih.choose_spec
    have hs : (i + 1) * m = i * m + m:=Nat.succ_mul i m
    have step : ∀ r1,eqCells l (cs.drop (i * m)) (ds.drop (i * m)) = some r1 → (Op.equalIn d e (valOf ih.choose ((X.drop (i * m)).take m)) (valOf ih.choose ((Y.drop (i * m)).take m))).run P W = .ok r1 W:=by
      intro r1 hr1
      rw [eqCells_take] at hr1
      subst hml
      exact heq φ d _ _ _ _ r1 hd (by simp; omega) (by simp; omega) ((hX.drop _).take _) ((hY.drop _).take _) hr1 W
    rw [List.range'_succ,List.forIn_cons,Sem.run_bind]
    split at he
    · rename_i h3
      rw [hbody i _ W true hi1 hi2 (step true h3)]
      simp only [if_true,Result.andThen_ok]
      rw [List.drop_drop,List.drop_drop,← hml,← hs] at he
      exact ihk (i + 1) b (by rw [show i + 1 + k = i + (k + 1) by omega]; exact h1) (by rw [show i + 1 + k = i + (k + 1) by omega]; exact h2) he W
    · rename_i h3
      have : b = false:=by
        cases b
        · rfl
        · exact (h3 he).elim
      subst this
      rw [hbody i _ W false hi1 hi2 (step false he)]
      rfl

theorem kinds_ok : ∀ (n : Nat) (t : TypeId) (ks : List Kd),kindsT P n t = some ks → EqOk P t ks n:=by
  intro n
  induction n with
  | zero => intro t ks h; simp [kindsT] at h
  | succ n ih =>
    intro t ks h
    simp only [kindsT] at h
    split at h
    · rename_i ht
      cases h
      refine eqLeaf (by simp [aggT,ht]) fun φ d v w x y b hx hy he W => ?_
      simp only [eqCell] at he
      split at he
      · split at he
        · cases he
          simp only [RV] at hx hy
          subst hx; subst hy
          exact run_equalIn_bool' W d t _ _ ht
        · cases he
      · cases he
    · rename_i k ht
      cases h
      refine eqLeaf (by simp [aggT,ht]) fun φ d v w x y b hx hy he W => ?_
      simp only [eqCell] at he
      split at he
      · split at he
        · simp only [cond_eq_ite] at he
          split at he
          · rename_i hk
            obtain rfl:=(ksame_eq _ _).1 hk
            cases he
            simp only [RV] at hx hy
            subst hx; subst hy
            rw [run_equalIn_int W d t _ _ _ _ ht,eqB_eq]
          · cases he
        · cases he
      · cases he
    · rename_i ht
      cases h
      refine eqLeaf (by simp [aggT,ht]) fun φ d v w x y b hx hy he W => ?_
      simp only [eqCell] at he
      split at he
      · split at he
        · cases he
          simp only [RV] at hx hy
          obtain ⟨sx,rfl,rfl⟩:=hx
          obtain ⟨sy,rfl,rfl⟩:=hy
          rw [run_equalIn_string W d t _ _ ht,eqS_bytes]
        · cases he
      · cases he
    · rename_i fs ht
      simp only [cond_eq_ite] at h
      split at h
      · cases h
      rename_i hst
      refine ⟨true,by simp [aggT,ht],(fun h => by cases h),fun φ d cs ds X Y b hd hc hds hX hY he W => ?_⟩
      obtain ⟨d,rfl⟩ : ∃ m,d = m + 1:=⟨d - 1,by omega⟩
      have hf : P.fieldsOf t = fs:=by simp [Program.fieldsOf,ht]
      show (Op.equalIn (d + 1) t (.agg X.toArray) (.agg Y.toArray)).run P W = _
      rw [run_equalIn_struct W d t _ _ (by rw [hf]; exact ht) (by simpa using hst),hf]
      exact eqFields_ok ih φ d (by omega) cs ds X Y hX hY fs.toList 0 ks b h (by omega) (by omega) (by simpa using he) W
    · rename_i k e ht
      split at h
      · cases h
      rename_i l hl
      split at h
      · cases h
      rename_i m hm
      simp only [cond_eq_ite,Nat.beq_eq,len_eq] at h
      split at h
      · rename_i hml
        cases h
        refine ⟨true,by simp [aggT,ht],(fun h => by cases h),fun φ d cs ds X Y b hd hc hds hX hY he W => ?_⟩
        obtain ⟨d,rfl⟩ : ∃ m,d = m + 1:=⟨d - 1,by omega⟩
        have hE:=ih _ _ hl
        obtain ⟨hag,hag1,_⟩:=hE.choose_spec
        rw [repK_len,← hml] at hc hds
        have hXl:=hX.length
        have hYl:=hY.length
        show (Op.equalIn (d + 1) t (.agg X.toArray) (.agg Y.toArray)).run P W = _
        simp only [Op.equalIn,Sem.run_bind,run_underlying ht,run_sizeOf hm,Result.andThen_ok]
        rw [Std.Legacy.Range.forIn_eq_forIn_range']
        simp only [Std.Legacy.Range.size,Nat.sub_zero,Nat.add_sub_cancel,Nat.div_one]
        rw [eqElems_ok hm hml hE φ d (by omega) cs ds X Y hX hY _ ?_ k 0 b (by simp [hc]) (by simp [hds]) (by simpa using he) W]
        · cases b <;> rfl
        · intro i s W r h1 h2 hr
          have hs : (i + 1) * m = i * m + m:=Nat.succ_mul i m
          have px:=run_part_val hag hm (fun h => by rw [hml]; exact hag1 h) X (i * m) (by omega) W
          have py:=run_part_val hag hm (fun h => by rw [hml]; exact hag1 h) Y (i * m) (by omega) W
          simp only [Sem.run_bind,px,py,Result.andThen_ok,hr]
          cases r <;> rfl
      · cases h
    · cases h

theorem eqGuardType_ok : ∀ (n : Nat) (t : TypeId) (ks : List Kd),kindsT P n t = some ks → ∀ d,n ≤ d → P.eqGuardType d t = false:=by
  intro n
  induction n with
  | zero => intro t ks h; simp [kindsT] at h
  | succ n ih =>
    intro t ks h d hd
    obtain ⟨d,rfl⟩ : ∃ m,d = m + 1:=⟨d - 1,by omega⟩
    simp only [kindsT] at h
    have hS : ∀ (fs : List Field) (o : Nat) (ks : List Kd),kindsS P (kindsT P n) fs o = some ks → ∀ f ∈ fs,P.eqGuardType d f.type = false:=by
      intro fs
      induction fs with
      | nil => intro o ks _ f hf; cases hf
      | cons x xs ihx =>
        intro o ks h f hf
        simp only [kindsS] at h
        split at h
        · cases h
        rename_i l hl
        split at h
        · cases h
        simp only [cond_eq_ite] at h
        split at h
        · split at h
          · rename_i r hr
            rcases List.mem_cons.1 hf with rfl | hf
            · exact ih _ _ hl d (by omega)
            · exact ihx _ _ hr f hf
          · cases h
        · cases h
    simp only [Program.eqGuardType]
    split at h
    · rename_i ht; rw [ht]
    · rename_i k ht; rw [ht]
    · rename_i ht; rw [ht]
    · rename_i fs ht
      rw [ht]
      simp only [cond_eq_ite] at h
      split at h
      · cases h
      · simp only [Array.any_eq_false']
        intro f hf
        simp [hS _ _ _ h f (by simpa using hf)]
    · rename_i k e ht
      rw [ht]
      split at h
      · cases h
      · rename_i l hl
        exact ih _ _ hl d (by omega)
    · cases h

theorem p_eqA {W : World} (r : REnv nt φ env a.tmps) (g : GOK G φ) {b : BinOp} {neg : Bool} (hb : isCmp b = some neg) {t : TypeId} {ks : List Kd} (hag : aggT P t = some true) (hk : kindsT P 20 t = some ks) (hdep : 20 ≤ P.depth) {x y : Operand} {p q : O} (hp : toO G x = some p) (hq : toO G y = some q) {v : V} (hv : evEqA ks neg p q env = some v) :
    ∃ z,(do eqGuard b t x y (a.eval x) (a.eval y); binOp b t (a.eval x) (a.eval y) : Sem Value).run P W = .ok z W ∧ RV φ v z:=by
  unfold evEqA at hv
  split at hv
  · rename_i cs hcs
    split at hv
    · rename_i ds hds
      simp only [cond_eq_ite,Bool.and_eq_true,Nat.beq_eq,len_eq] at hv
      split at hv
      · rename_i hc
        split at hv
        · rename_i res hres
          cases hv
          obtain ⟨A,hA,hrA,_⟩:=cells_ok (a:=a) r g hp hcs
          obtain ⟨B,hB,hrB,_⟩:=cells_ok (a:=a) r g hq hds
          obtain ⟨ag,hag',_,heq⟩:=kinds_ok (P:=P) 20 t ks hk
          rw [hag] at hag'; cases hag'
          have hrun:=heq φ 10000 cs ds A.toList B.toList res (by decide) hc.1 hc.2 hrA hrB hres W
          simp only [valOf,cond_true,Array.toArray_toList] at hrun
          rw [hA,hB,Sem.run_bind,run_eqGuard_agg W b t x y A B (eqGuardType_ok 20 t ks hk _ hdep)]
          simp only [Result.andThen_ok]
          cases b <;> simp only [isCmp,reduceCtorEq,Option.some.injEq] at hb <;> subst hb
          · rw [run_eql_struct,hrun]
            exact ⟨_,rfl,by simp [RV]⟩
          · rw [run_neq_struct,hrun]
            exact ⟨_,rfl,by simp [RV]⟩
        · cases hv
      · cases hv
    · cases hv
  · cases hv

end
end Go.Ev
namespace Go.Ev

section
variable {P : Program} {G : GL} {nt : Nat} {φ : Phi} {env : Env} {a : Act} {W : World}

theorem run_v {s : Sem Value} {z : Value} {W' : World} (h : s.run P W = .ok z W') : (do pure (.value (← s)) : Sem Next).run P W = .ok (.value z) W':=by
  rw [Sem.run_bind,h]; rfl

theorem cP_ok (r : REnv nt φ env a.tmps) (g : GOK G φ) {o : Oper} {c : PC} (h : cP P G o.op = some c) {v : V} (hv : evP c env = some v) :
    ∃ z,(execOp a.eval o).run P W = .ok (.value z) W ∧ RV φ v z:=by
  obtain ⟨dst,op,type,pos,after,guard⟩:=o
  cases op <;> simp only [execOp]
  case move x =>
    simp only [cP] at h
    split at h
    · rename_i p hp
      cases h
      exact ⟨_,rfl,toO_ok hp r g hv⟩
    · cases h
  case assign x =>
    simp only [cP] at h
    split at h
    · rename_i p hp
      cases h
      exact ⟨_,rfl,toO_ok hp r g hv⟩
    · cases h
  case pick c' x y =>
    simp only [cP] at h
    split at h
    · cases h
    · rename_i pc hpc
      obtain ⟨p,q,hp,hq,rfl⟩:=c2_ok h
      exact p_pick r g hpc hp hq hv
  case build t ps =>
    obtain ⟨z,hz,hr⟩:=p_build (W:=W) r g h hv
    exact ⟨z,run_v hz,hr⟩
  case nilCheck x =>
    simp only [cP] at h
    split at h
    · rename_i p hp
      cases h
      obtain ⟨q,hq,hr⟩:=p_nil r g hp hv
      refine ⟨_,?_,hr⟩
      rw [hq]; rfl
    · cases h
  case binOp b t x y yt =>
    simp only [cP,cBin] at h
    split at h
    · obtain ⟨p,q,hp,hq,rfl⟩:=c2_ok h
      obtain ⟨z,hz,hr⟩:=p_bin (P:=P) (W:=W) (t:=t) r g hp hq hv
      exact ⟨z,run_v hz,hr⟩
    · obtain ⟨p,q,hp,hq,rfl⟩:=c2_ok h
      obtain ⟨z,hz,hr⟩:=p_bin (P:=P) (W:=W) (t:=t) r g hp hq hv
      exact ⟨z,run_v hz,hr⟩
    · rename_i ht
      obtain ⟨p,q,hp,hq,rfl⟩:=c2_ok h
      obtain ⟨z,hz,hr⟩:=p_binB (W:=W) r g ht hp hq hv
      exact ⟨z,run_v hz,hr⟩
    · rename_i e ht
      split at h
      · cases h
      rename_i neg hneg
      simp only [cond_eq_ite] at h
      split at h
      · rename_i hy
        split at h
        · rename_i p hp
          cases h
          obtain ⟨z,hz,hr⟩:=p_eqNil (W:=W) r g hneg ht hp hy hv
          exact ⟨z,run_v hz,hr⟩
        · cases h
      · cases h
    · split at h
      · cases h
      rename_i neg hneg
      split at h
      · rename_i hag
        split at h
        · rename_i ks hks
          simp only [cond_eq_ite,Nat.ble_eq] at h
          split at h
          · rename_i hdep
            obtain ⟨p,q,hp,hq,rfl⟩:=c2_ok h
            obtain ⟨z,hz,hr⟩:=p_eqA (W:=W) r g hneg hag hks hdep hp hq hv
            exact ⟨z,run_v hz,hr⟩
          · cases h
        · cases h
      · cases h
    · cases h
  case unOp u t x =>
    simp only [cP] at h
    split at h
    · rename_i p hp
      cases h
      obtain ⟨z,hz,hr⟩:=p_un (P:=P) (W:=W) r g hp hv
      exact ⟨z,run_v hz,hr⟩
    · cases h
  case makeFunc fn x y =>
    cases fn with
    | func f =>
      simp only [cP] at h
      split at h
      · cases h
      rename_i p hp
      split at h
      · rename_i q hq
        cases h
        exact ⟨_,run_v rfl,p_mkf r g hp hq hv⟩
      · cases h
    | _ => cases h
  case slice t x lo hi mx =>
    obtain ⟨z,hz,hr⟩:=p_slice (W:=W) r g h hv
    exact ⟨z,run_v hz,hr⟩
  case fieldAddr t x f =>
    obtain ⟨z,hz,hr⟩:=p_fa (W:=W) r g h hv
    exact ⟨z,run_v hz,hr⟩
  case field t x f =>
    obtain ⟨z,hz,hr⟩:=p_field (W:=W) r g h hv
    exact ⟨z,run_v hz,hr⟩
  case indexAddr t x i =>
    obtain ⟨z,hz,hr⟩:=p_indexAddr (W:=W) r g h hv
    exact ⟨z,run_v hz,hr⟩
  case index t x i =>
    obtain ⟨z,hz,hr⟩:=p_index (W:=W) r g h hv
    exact ⟨z,run_v hz,hr⟩
  case extract x i =>
    simp only [cP] at h
    split at h
    · rename_i p hp
      cases h
      obtain ⟨z,hz,hr⟩:=p_ext (P:=P) (W:=W) r g hp hv
      exact ⟨z,run_v hz,hr⟩
    · cases h
  case call cl =>
    obtain ⟨callee,args,types⟩:=cl
    cases callee with
    | value f => cases h
    | invoke x m => cases h
    | builtin b =>
      have h' : cBuiltP P G b types args = some c:=h
      clear h
      cases b <;> simp only [cBuiltP,reduceCtorEq] at h'
      case len =>
        split at h'
        · cases h'
        rename_i t ht
        split at h'
        · cases h'
        rename_i x hx
        obtain ⟨z,hz,hr⟩:=p_len (W:=W) r g h' hv type types (args.map a.eval) ht (by simp [hx])
        exact ⟨z,run_v hz,hr⟩
      case cap =>
        split at h'
        · cases h'
        rename_i t ht
        split at h'
        · cases h'
        rename_i x hx
        split at h'
        · rename_i e hte
          split at h'
          · rename_i p hp
            cases h'
            obtain ⟨z,hz,hr⟩:=p_cap (W:=W) r g hte hp hv type types (args.map a.eval) ht (by simp [hx])
            exact ⟨z,run_v hz,hr⟩
          · cases h'
        · cases h'
      case min =>
        split at h'
        · rename_i l hl
          cases h'
          obtain ⟨u,us,z,he,hz,hr⟩:=p_mm (P:=P) (W:=W) r g (m:=Builtin.min2) minV_ok hl hv
          refine ⟨z,run_v (s:=Builtin.min_ types type (args.map a.eval)) ?_,hr⟩
          simp only [Builtin.min_,Array.toList_map,he]
          exact hz
        · cases h'
      case max =>
        split at h'
        · rename_i l hl
          cases h'
          obtain ⟨u,us,z,he,hz,hr⟩:=p_mm (P:=P) (W:=W) r g (m:=Builtin.max2) maxV_ok hl hv
          refine ⟨z,run_v (s:=Builtin.max_ types type (args.map a.eval)) ?_,hr⟩
          simp only [Builtin.max_,Array.toList_map,he]
          exact hz
        · cases h'
  all_goals cases h

theorem cConv_ok (r : REnv nt φ env a.tmps) (g : GOK G φ) {o : Oper} {s d : TypeId} {x : Operand} (ho : o.op = .convert s d x) {c : C} (h : cConv P G s d x = some c) :
    ∃ k p,c = .P (.cvt k p) ∧ ∀ v,evCvt k p env = some v → ∃ z,(execOp a.eval o).run P W = .ok (.value z) W ∧ RV φ v z:=by
  unfold cConv at h
  split at h
  · cases h
  rename_i px hp
  split at h
  · cases h
  rename_i us hus
  split at h
  · rename_i k' hd
    cases h
    refine ⟨k',px,rfl,fun v hv => ?_⟩
    unfold evCvt at hv
    split at hv
    · rename_i kk n hn
      cases hv
      have hr:=toO_ok hp r g hn
      simp only [RV] at hr
      refine ⟨.int k' (k'.wrap n),?_,by simp [RV,wrapB_eq]⟩
      simp only [execOp,ho]
      refine run_v ?_
      rw [hr]
      simp only [convert,Sem.run_bind,run_underlying hus,run_underlying hd,Result.andThen_ok]
      rfl
    · cases hv
  · cases h

/-- THE PURE OPERATIONS -/
theorem pure_ok (r : REnv nt φ env a.tmps) (g : GOK G φ) {o : Oper} {c : PC} (h : cC P G o.op = some (.P c)) {v : V} (hv : evP c env = some v) (W : World) :
    ∃ z,(execOp a.eval o).run P W = .ok (.value z) W ∧ RV φ v z:=by
  unfold cC at h
  split at h
  · rename_i s d x ho
    obtain ⟨k,p,hc,hk⟩:=cConv_ok (W:=W) r g ho h
    cases hc
    exact hk v hv
  · split at h
    · rename_i c' hc
      cases h
      exact cP_ok r g hc hv
    · split at h
      · cases h
      · split at h
        · cases h
        · split at h <;> cases h

end
end Go.Ev
