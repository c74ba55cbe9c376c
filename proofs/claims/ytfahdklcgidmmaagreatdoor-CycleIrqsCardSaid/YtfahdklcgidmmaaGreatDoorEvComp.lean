/- A part of the evaluator and of the proof that its word holds in the model (EvComp). -/
import Derived.Test.YtfahdklcgidmmaaGreatDoorEvCore
import GoSem.Core.Layout
namespace Go.Ev
noncomputable section

def toV1 : Value → Option V
  | .bool x => some (.b x)
  | .int k n => some (.i k n)
  | .string s => some (.s (s.data.toList.map (·.toNat)))
  | .pointer none => some .pn
  | .slice none 0 0 => some .sn
  | .nilFunc => some (.c .nilFunc)
  | .nilIface => some (.c .nilIface)
  | .map none => some (.c (.map none))
  | _ => none

def mapO {α β : Type} (f : α → Option β) : List α → Option (List β)
  | [] => some []
  | x :: xs => match f x with
    | none => none
    | some y => match mapO f xs with
      | none => none
      | some ys => some (y :: ys)

def toV : Value → Option V
  | .agg cs => match mapO toV1 cs.toList with
    | some l => some (.a l)
    | none => none
  | .tuple vs => match vs.toList with
    | [] => some .u
    | _ => none
  | v => toV1 v

def toO (G : List Nat) : Operand → Option O
  | .tmp t => some (.t t)
  | .const v => match toV v with
    | some v => some (.k v)
    | none => none
  | .global g => bif G.any (Nat.beq g) then some (.k (.p g 0)) else none
  | .func f => some (.k (.fn f [] []))

def toOs (G : List Nat) (l : List Operand) : Option (List O) := mapO (toO G) l

def optO (G : List Nat) : Option Operand → Option (Option O)
  | none => some none
  | some o => match toO G o with
    | some o => some (some o)
    | none => none

def aop : BinOp → AOp
  | .add => .add | .sub => .sub | .mul => .mul | .quo => .quo | .rem => .rem | .and => .and | .or => .or | .xor => .xor | .shl => .shl | .shr => .shr
  | .andNot => .andNot | .eql => .eql | .neq => .neq | .lss => .lss | .leq => .leq | .gtr => .gtr | .geq => .geq

section
variable (P : Program)

def aggT (t : TypeId) : Option Bool := match P.underlying t with
  | some (.struct _) => some true
  | some (.array _ _) => some true
  | some _ => some false
  | none => none

def sizeT (t : TypeId) : Option Nat := match P.info? t with
  | some i => some i.size
  | none => none

def bytesT (t : TypeId) : Option Nat := match P.info? t with
  | some i => some i.bytes
  | none => none

/-- the cells of a type's zero value -/
def zeroT (t : TypeId) : Option (List V) := match P.info? t with
  | some i => match i.zero with
    | some v => match toV v with
      | some v => v.cells?
      | none => none
    | none => none
  | none => none

def elemT (t : TypeId) : Option TypeId := match P.underlying t with
  | some (.slice e) => some e
  | _ => none

def isByte (t : TypeId) : Bool := match P.underlying t with
  | some (.int .u8) => true
  | _ => false

/-- the kinds of a type's cells, if its values can be held against one another cell by cell -/
def repK : Nat → List Kd → List Kd
  | 0, _ => []
  | n + 1, l => app l (repK n l)

def kindsS (f : TypeId → Option (List Kd)) : List Field → Nat → Option (List Kd)
  | [], _ => some []
  | x :: xs, o => match f x.type with
    | none => none
    | some l => match sizeT P x.type with
      | none => none
      | some n => bif x.name != "_" && Nat.beq x.offset o && Nat.beq n (len l) then
          match kindsS f xs (o + n) with
          | some r => some (app l r)
          | none => none
        else none

def kindsT : Nat → TypeId → Option (List Kd)
  | 0, _ => none
  | d + 1, t => match P.underlying t with
    | some .bool => some [.b]
    | some (.int _) => some [.i]
    | some .string => some [.s]
    | some (.struct fs) => bif P.stoodInHeld t then none else kindsS P (kindsT d) fs.toList 0
    | some (.array n e) => match kindsT d e with
      | none => none
      | some l => match sizeT P e with
        | none => none
        | some m => bif Nat.beq m (len l) then some (repK n l) else none
    | _ => none

def fieldsT (t : TypeId) : Option (Array Field) := match P.underlying t with
  | some (.struct fs) => some fs
  | _ => none

variable (G : List Nat)

/-- the parts of a struct's value -/
def partsS (fs : Array Field) : List (Nat × Operand) → Option (List (Nat × Nat × O))
  | [] => some []
  | (i, x) :: ps => match fs[i]? with
    | none => none
    | some f => match sizeT P f.type with
      | none => none
      | some s => match toO G x with
        | none => none
        | some x => match partsS fs ps with
          | none => none
          | some l => some ((f.offset, s, x) :: l)

def partsA (s : Nat) : List (Nat × Operand) → Option (List (Nat × Nat × O))
  | [] => some []
  | (i, x) :: ps => match toO G x with
    | none => none
    | some x => match partsA s ps with
      | none => none
      | some l => some ((i * s, s, x) :: l)

def isNilS : Operand → Bool
  | .const (.slice none 0 0) => true
  | _ => false

def isCmp : BinOp → Option Bool
  | .eql => some false
  | .neq => some true
  | _ => none

def c2 (f : O → O → PC) (x y : Operand) : Option PC := match toO G x with
  | none => none
  | some x => match toO G y with
    | none => none
    | some y => some (f x y)

def cBin (b : BinOp) (t : TypeId) (x y : Operand) : Option PC := match P.underlying t with
  | some (.int _) => c2 G (.bin (aop b)) x y
  | some .string => c2 G (.bin (aop b)) x y
  | some .bool => c2 G (.binB (aop b)) x y
  | some (.slice _) => match isCmp b with
    | none => none
    | some neg => bif isNilS y then (match toO G x with
        | some x => some (.eqNil neg x)
        | none => none) else none
  | some _ => match isCmp b with
    | none => none
    | some neg => match aggT P t with
      | some true => match kindsT P 20 t with
        | some ks => bif Nat.ble 20 P.depth then c2 G (.eqA ks neg) x y else none
        | none => none
      | _ => none
  | none => none

def cSlice (t : TypeId) (x : Operand) (lo hi mx : Option Operand) : Option PC := match toO G x with
  | none => none
  | some x => match optO G lo with
    | none => none
    | some lo => match P.underlying t with
      | some (.slice e) => match sizeT P e with
        | none => none
        | some s => match mx with
          | none => match optO G hi with
            | some hi => some (.slS s x lo hi)
            | none => none
          | some m => match toO G m with
            | none => none
            | some m => match hi with
              | none => none
              | some hi => match toO G hi with
                | some hi => some (.slS3 s x lo hi m)
                | none => none
      | some .string => match mx with
        | none => match optO G hi with
          | some hi => some (.slStr x lo hi)
          | none => none
        | some _ => none
      | _ => none

def cLen (t : TypeId) (x : Operand) : Option PC := match P.underlying t with
  | some (.slice _) => match toO G x with
    | some x => some (.len x)
    | none => none
  | some .string => match toO G x with
    | some x => some (.lenS x)
    | none => none
  | some (.array n _) => some (.lenC n)
  | some (.pointer a) => match P.underlying a with
    | some (.array n _) => some (.lenC n)
    | _ => none
  | _ => none

def cBuiltP (b : Builtin) (types : Array TypeId) (args : Array Operand) : Option PC := match b with
  | .len => match types[0]? with
    | none => none
    | some t => match args[0]? with
      | none => none
      | some x => cLen P G t x
  | .cap => match types[0]? with
    | none => none
    | some t => match args[0]? with
      | none => none
      | some x => match P.underlying t with
        | some (.slice _) => match toO G x with
          | some x => some (.cap x)
          | none => none
        | _ => none
  | .min => match toOs G args.toList with
    | some l => some (.mn l)
    | none => none
  | .max => match toOs G args.toList with
    | some l => some (.mx l)
    | none => none
  | _ => none

def cConv (s d : TypeId) (x : Operand) : Option C := match toO G x with
  | none => none
  | some x => match P.underlying s with
    | none => none
    | some _ => match P.underlying d with
      | some (.int k) => some (.P (.cvt k x))
      | _ => none

def cP (op : Op) : Option PC := match op with
  | .move x => match toO G x with
    | some x => some (.mv x)
    | none => none
  | .assign x => match toO G x with
    | some x => some (.mv x)
    | none => none
  | .pick c a b => match toO G c with
    | none => none
    | some c => c2 G (.pick c) a b
  | .build t ps => match zeroT P t with
    | none => none
    | some z => match P.underlying t with
      | some (.struct fs) => bif fs.toList.all (fun f => (sizeT P f.type).isSome) then match partsS P G fs ps.toList with
        | some l => some (.build z l)
        | none => none
        else none
      | some (.array _ e) => match sizeT P e with
        | none => none
        | some s => match partsA G s ps.toList with
          | some l => some (.build z l)
          | none => none
      | _ => none
  | .nilCheck x => match toO G x with
    | some x => some (.nilck x)
    | none => none
  | .binOp b t x y _ => cBin P G b t x y
  | .unOp u _ x => match toO G x with
    | some x => some (.un u x)
    | none => none
  | .makeFunc (.func f) a b => match toOs G a.toList with
    | none => none
    | some a => match toOs G b.toList with
      | some b => some (.mkf f a b)
      | none => none
  | .slice t x lo hi mx => cSlice P G t x lo hi mx
  | .fieldAddr t x f => match fieldsT P t with
    | none => none
    | some fs => match fs[f]? with
      | none => none
      | some f => match sizeT P f.type with
        | some (_ + 1) => match toO G x with
          | some x => some (.fa f.offset x)
          | none => none
        | _ => none
  | .field t x f => match fieldsT P t with
    | none => none
    | some fs => match fs[f]? with
      | none => none
      | some f => match toO G x with
        | none => none
        | some x => match aggT P f.type with
          | some true => match sizeT P f.type with
            | some n => some (.fldn f.offset n x)
            | none => none
          | some false => some (.fld1 f.offset x)
          | none => none
  | .indexAddr t x i => match P.underlying t with
    | some (.array n e) => match sizeT P e with
      | none => none
      | some s => c2 G (.ixA n s) x i
    | some (.slice e) => match sizeT P e with
      | none => none
      | some s => c2 G (.ixS s) x i
    | _ => none
  | .index t x i => match P.underlying t with
    | some (.array n e) => match aggT P e with
      | none => none
      | some true => match sizeT P e with
        | none => none
        | some s => c2 G (.idAn n s) x i
      | some false => match sizeT P e with
        | some 1 => c2 G (.idA1 n) x i
        | _ => none
    | some .string => c2 G .idStr x i
    | _ => none
  | .extract x i => match toO G x with
    | some x => some (.ext x i)
    | none => none
  | .call c => match c.callee with
    | .builtin b => cBuiltP P G b c.argTypes c.args
    | _ => none
  | _ => none

def cSlA (t : TypeId) (x : Operand) (lo hi mx : Option Operand) : Option LC := match P.underlying t with
  | some (.array n e) => match mx with
    | some _ => none
    | none => match sizeT P e with
      | none => none
      | some s => match toO G x with
        | none => none
        | some x => match optO G lo with
          | none => none
          | some lo => match optO G hi with
            | none => none
            | some hi => some (.slA n s x lo hi)
  | _ => none

def cL (op : Op) : Option LC := match op with
  | .slice t x lo hi mx => cSlA P G t x lo hi mx
  | .load t a => match toO G a with
    | none => none
    | some a => match aggT P t with
      | some true => match sizeT P t with
        | some n => some (.ldn n a)
        | none => none
      | some false => some (.ld1 a)
      | none => none
  | _ => none

def cA (op : Op) : Option AC := match op with
  | .alloc t => match zeroT P t with
    | some z => some (.alloc z)
    | none => none
  | .box _ x => match toO G x with
    | some x => some (.box x)
    | none => none
  | .buildSlice t n ps => match elemT P t with
    | none => none
    | some e => match sizeT P e with
      | none => none
      | some s => match zeroT P e with
        | none => none
        | some z => match partsA G s ps.toList with
          | some l => bif Nat.beq (len z) s && Nat.ble 1 s && Nat.ble (n * s) 16777216 then some (.buildSl s n (repl n z) l) else none
          | none => none
  | .makeSlice t l c => match elemT P t with
    | none => none
    | some e => match sizeT P e with
      | none => none
      | some s => match zeroT P e with
        | none => none
        | some z => match bytesT P e with
          | none => none
          | some b => match toO G l with
            | none => none
            | some l => match toO G c with
              | some c => bif Nat.beq (len z) s && Nat.ble 1 s then some (.mkSl s b z l c) else none
              | none => none
  | _ => none

def cApp (types : Array TypeId) (args : Array Operand) : Option EC := match types[0]? with
  | none => none
  | some t => match types[1]? with
    | none => none
    | some u => match args[0]? with
      | none => none
      | some x => match toO G x with
        | none => none
        | some x => match args[1]? with
          | none => none
          | some y => match toO G y with
            | none => none
            | some y => match elemT P t with
              | none => none
              | some e => match sizeT P e with
                | none => none
                | some s => match bytesT P e with
                  | none => none
                  | some b => match zeroT P e with
                    | none => none
                    | some z => bif Nat.beq (len z) s && Nat.ble 1 s then
                        match P.underlying u with
                        | some (.slice _) => some (.appS s b x y)
                        | some (.int _) => some (.appZ s b z x y)
                        | _ => none
                      else none

def cCopy (types : Array TypeId) (args : Array Operand) : Option EC := match types[0]? with
  | none => none
  | some t => match types[1]? with
    | none => none
    | some u => match args[0]? with
      | none => none
      | some x => match toO G x with
        | none => none
        | some x => match args[1]? with
          | none => none
          | some y => match toO G y with
            | none => none
            | some y => match elemT P t with
              | none => none
              | some e => match sizeT P e with
                | none => none
                | some s => match P.underlying u with
                  | some (.slice _) => some (.copyS s x y)
                  | _ => none

def cE (op : Op) : Option EC := match op with
  | .store t a x => match toO G a with
    | none => none
    | some a => match toO G x with
      | none => none
      | some x => match sizeT P t with
        | none => none
        | some n => match aggT P t with
          | some true => some (.stn n a x)
          | some false => bif Nat.beq n 1 then some (.st1 a x) else none
          | none => none
  | .makeMap _ none => some .mkMap
  | .call c => match toOs G c.args.toList with
    | none => none
    | some args => match c.callee with
      | .value (.func f) => some (.call f args)
      | .value x => match toO G x with
        | some x => some (.callv x args)
        | none => none
      | .invoke _ _ => none
      | .builtin .append => cApp P G c.argTypes c.args
      | .builtin .copy => cCopy P G c.argTypes c.args
      | _ => none
  | _ => none

def cC (op : Op) : Option C := match op with
  | .convert s d x => cConv P G s d x
  | op => match cP P G op with
    | some c => some (.P c)
    | none => match cL P G op with
      | some c => some (.L c)
      | none => match cA P G op with
        | some c => some (.A c)
        | none => match cE P G op with
          | some c => some (.E c)
          | none => none

def cG (ops : Array Oper) : Option (Nat × Bool) → Option (Option (Nat × Bool))
  | none => some none
  | some (j, w) => match ops[j]? with
    | none => none
    | some o => match o.dst with
      | some d => some (some (d, w))
      | none => none

def dstOk (nt : Nat) : Option Nat → Bool
  | none => true
  | some d => Nat.ble (d + 1) nt

def cCO (nt : Nat) (ops : Array Oper) (o : Oper) : Option CO := match cC P G o.op with
  | none => none
  | some c => match cG ops o.guard with
    | none => none
    | some g => bif dstOk nt o.dst then some ⟨o.dst, c, g⟩ else none

def cReg (nt : Nat) (ops : Array Oper) : List Oper → Option (List CO)
  | [] => some []
  | o :: os => match cCO P G nt ops o with
    | none => none
    | some c => match cReg nt ops os with
      | none => none
      | some l => some (c :: l)

/-! drawn regions -/

def isE : C → Bool
  | .E _ => true
  | _ => false
def isA : C → Bool
  | .A _ => true
  | _ => false
def isL : C → Bool
  | .L _ => true
  | _ => false

def binding (o : Oper) : List Nat := (o.after.toList.filter (Region.binds .any)).map (·.on)

/-- what stands ahead of an operation, as bits, out of what stands ahead of those it waits for -/
def clOf (cl : T Nat) : List Nat → Option Nat
  | [] => some 0
  | e :: es => match cl.get e with
    | none => none
    | some m => match clOf cl es with
      | none => none
      | some r => some ((m ||| 2 ^ e) ||| r)

structure PS where
  cl : T Nat
  done : Nat
  effs : List Nat
  alloc : Bool

def guardIn (m : Nat) : Option (Nat × Bool) → Bool
  | none => true
  | some w => Nat.testBit m w.1

def countIn (m : Nat) : List Nat → Nat
  | [] => 0
  | e :: es => (bif Nat.testBit m e then 1 else 0) + countIn m es

def goPlan (nt : Nat) (ops : Array Oper) : List Nat → PS → Option (List PI × PS)
  | [], s => some ([], s)
  | i :: is, s => match ops[i]? with
    | none => none
    | some o => match cCO P G nt ops o with
      | none => none
      | some c => match clOf s.cl (binding o) with
        | none => none
        | some m =>
          bif !Nat.testBit s.done i && guardIn m o.guard && (!isE c.op || Nat.beq m s.done) then
            match goPlan nt ops is ⟨s.cl.set i m, s.done ||| 2 ^ i, bif isE c.op then i :: s.effs else s.effs, bif isE c.op then false else s.alloc || isA c.op⟩ with
            | none => none
            | some (l, s') =>
              let skip := bif s.alloc then 0 else 1
              some (⟨i, c, skip, bif isL c.op then len s.effs - countIn m s.effs + 1 - skip else 0⟩ :: l, s')
          else none

/-- the temporaries that an operation looks at -/
def O.tm : O → List Nat
  | .t n => [n]
  | .k _ => []
def tms : List O → List Nat
  | [] => []
  | o :: os => o.tm ++ tms os
def tmo : Option O → List Nat
  | none => []
  | some o => o.tm
def tmp3 : List (Nat × Nat × O) → List Nat
  | [] => []
  | p :: ps => p.2.2.tm ++ tmp3 ps
def PC.tm : PC → List Nat
  | .mv x => x.tm
  | .pick c a b => c.tm ++ a.tm ++ b.tm
  | .build _ ps => tmp3 ps
  | .nilck x => x.tm
  | .fa _ x => x.tm
  | .fld1 _ x => x.tm
  | .fldn _ _ x => x.tm
  | .ixS _ x i => x.tm ++ i.tm
  | .ixA _ _ x i => x.tm ++ i.tm
  | .idA1 _ x i => x.tm ++ i.tm
  | .idAn _ _ x i => x.tm ++ i.tm
  | .idStr x i => x.tm ++ i.tm
  | .bin _ x y => x.tm ++ y.tm
  | .binB _ x y => x.tm ++ y.tm
  | .eqA _ _ x y => x.tm ++ y.tm
  | .eqNil _ x => x.tm
  | .un _ x => x.tm
  | .cvt _ x => x.tm
  | .slS _ x lo hi => x.tm ++ tmo lo ++ tmo hi
  | .slS3 _ x lo hi m => x.tm ++ tmo lo ++ hi.tm ++ m.tm
  | .slStr x lo hi => x.tm ++ tmo lo ++ tmo hi
  | .mkf _ a b => tms a ++ tms b
  | .len x => x.tm
  | .lenS x => x.tm
  | .lenC _ => []
  | .cap x => x.tm
  | .mn xs => tms xs
  | .mx xs => tms xs
  | .ext x _ => x.tm
def LC.tm : LC → List Nat
  | .ld1 a => a.tm
  | .ldn _ a => a.tm
  | .b2s x => x.tm
  | .slA _ _ x lo hi => x.tm ++ tmo lo ++ tmo hi
def AC.tm : AC → List Nat
  | .box x => x.tm
  | .alloc _ => []
  | .buildSl _ _ _ ps => tmp3 ps
  | .mkSl _ _ _ l c => l.tm ++ c.tm
  | .s2b x => x.tm
def EC.tm : EC → List Nat
  | .st1 a x => a.tm ++ x.tm
  | .stn _ a x => a.tm ++ x.tm
  | .call _ args => tms args
  | .callv x args => x.tm ++ tms args
  | .appS _ _ x y => x.tm ++ y.tm
  | .appStr _ x y => x.tm ++ y.tm
  | .appZ _ _ _ x n => x.tm ++ n.tm
  | .copyS _ x y => x.tm ++ y.tm
  | .copyStr x y => x.tm ++ y.tm
  | .mkMap => []
def C.tm : C → List Nat
  | .P x => x.tm
  | .L x => x.tm
  | .A x => x.tm
  | .E x => x.tm
def CO.tm (c : CO) : List Nat := (match c.g with
  | none => []
  | some g => [g.1]) ++ c.op.tm

/-- does i wait for j? -/
def clB (cl : T Nat) (i j : Nat) : Bool := match cl.get i with
  | some m => Nat.testBit m j
  | none => false

/-- of p, that q writes nothing of it out of order -/
def pairOk (cl : T Nat) (p q : PI) : Bool := match q.co.d with
  | none => true
  | some d =>
    bif Nat.beq p.ix q.ix then !p.co.tm.any (Nat.beq d) else
      !(match p.co.d with
        | some e => Nat.beq d e
        | none => false) &&
      (!p.co.tm.any (Nat.beq d) || clB cl p.ix q.ix || clB cl q.ix p.ix)

def pairsOk (cl : T Nat) (l : List PI) : Bool := l.all fun p => l.all fun q => pairOk cl p q

def cPlan (nt : Nat) (ops : Array Oper) (order : List Nat) : Option (List PI) :=
  match goPlan P G nt ops order ⟨.e, 0, [], false⟩ with
  | none => none
  | some (l, s) => bif Nat.beq (len order) ops.size && pairsOk s.cl l then some l else none

def cK (nt : Nat) : Code → List (List Nat) → K × List (List Nat)
  | .skip, hs => (.skip, hs)
  | .region _ ops false, hs => match cReg P G nt ops ops.toList with
    | some l => (.reg l, hs)
    | none => (.bad, hs)
  | .region _ ops true, hs => match hs with
    | [] => (.bad, hs)
    | h :: hs => match cPlan P G nt ops h with
      | some l => (.dreg l, hs)
      | none => (.bad, hs)
  | .seq a b, hs => let r := cK nt a hs; let q := cK nt b r.2; (.seq r.1 q.1, q.2)
  | .cond c a b, hs => match toO G c with
    | none => (.bad, hs)
    | some c => let r := cK nt a hs; let q := cK nt b r.2; (.cond c r.1 q.1, q.2)
  | .block i a, hs => let r := cK nt a hs; (.block i r.1, r.2)
  | .loop a, hs => match hs with
    | [] => (.bad, [])
    | g :: hs => match g with
      | [] => let r := cK nt a hs; (.loop r.1, r.2)
      | k :: _ => let r := cK nt a hs; (.loop (.seq (.gc k) r.1), r.2)
  | .exit i, hs => (.exit i, hs)
  | .scope a, hs => cK nt a hs
  | .label _, hs => (.skip, hs)
  | .ret, hs => (.ret, hs)
  | _, hs => (.bad, hs)

def cR : ResultVar → Option R
  | .tmp t => some (.t t)
  | .cell a t => match aggT P t with
    | some true => match sizeT P t with
      | some n => some (.cn a n)
      | none => none
    | some false => some (.c1 a)
    | none => none

def cF (f : Func) (hs : List (List Nat)) : Option F := match f.body with
  | none => none
  | some b => match mapO (cR P) f.results.toList with
    | none => none
    | some rs => bif Nat.ble (f.params.size + f.nfree) f.ntmps then some ⟨f.params.size + f.nfree, f.ntmps, (cK P G f.ntmps b hs).1, rs⟩ else none

end
end
end Go.Ev
