/- The law on every name: what the evaluator answers. -/
import Derived.Test.YtplhemceflgdlaaGreatDoorL
set_option maxRecDepth 100000
namespace Go.Proofs.YtplhemceflgdlaaGreatDoor.Run
open Go.Ev
noncomputable section

def fieldsL : List V := [.i .i64 0, .i .i64 7, .i .i64 11, .i .i64 14, .i .i64 14, .i .i64 9, .i .i64 7, .i .i64 9, .i .i64 10, .i .i64 2, .i .i64 0, .i .i64 3]
def hL : H := ⟨16, closedT [(0, fieldsL)], .e⟩
def callA : Ev.Call := closedCall 4 [(0, fieldsL)]
def callL : Ev.Call := evM callA tabL.get 100000 8

theorem name0 : (evM callA tabL.get 100000 9 3 [.s [115, 98]] hL).map (·.1) = some (.b true) := by kernel_rfl
theorem name1 : (evM callA tabL.get 100000 9 3 [.s [115, 98, 102]] hL).map (·.1) = some (.b true) := by kernel_rfl
theorem name2 : (evM callA tabL.get 100000 9 3 [.s [109, 112]] hL).map (·.1) = some (.b true) := by kernel_rfl
theorem name3 : (evM callA tabL.get 100000 9 3 [.s [108, 98]] hL).map (·.1) = some (.b true) := by kernel_rfl
theorem name4 : (evM callA tabL.get 100000 9 3 [.s [99, 111, 114, 114]] hL).map (·.1) = some (.b true) := by kernel_rfl
theorem name5 : (evM callA tabL.get 100000 9 3 [.s [120, 99, 104, 103]] hL).map (·.1) = some (.b true) := by kernel_rfl
theorem dummy : (evM callA tabL.get 100000 9 3 [.s [0]] hL).map (·.1) = some (.b true) := by kernel_rfl

/-- a name that is none of the known -/
structure Other (l : List Nat) : Prop where
  n0 : eqS l [115, 98] = false
  n1 : eqS l [115, 98, 102] = false
  n2 : eqS l [109, 112] = false
  n3 : eqS l [108, 98] = false
  n4 : eqS l [99, 111, 114, 114] = false
  n5 : eqS l [120, 99, 104, 103] = false

def opF : List V := [.i .i64 3, .i .i64 0, .i .u32 0]
def op0 : List V := [.i .i64 0, .i .i64 0, .i .u32 0]

theorem ble_dec (a b : Nat) : Nat.ble a b = decide (a ≤ b) := by
  cases e : Nat.ble a b with
  | true => rw [Nat.ble_eq] at e; exact (decide_eq_true e).symm
  | false =>
    refine (decide_eq_false fun h => ?_).symm
    rw [ble_of h] at e; cases e

theorem beq_dec (a b : Nat) : Nat.beq a b = decide (a = b) := by
  cases e : Nat.beq a b with
  | true => rw [Nat.beq_eq] at e; exact (decide_eq_true e).symm
  | false =>
    refine (decide_eq_false fun h => ?_).symm
    have : Nat.beq a b = true := by rw [Nat.beq_eq]; exact h
    rw [this] at e; cases e

def hA : H := ⟨17, (closedT [(0, fieldsL)]).set 16 ⟨[.i .i64 3, .i .i64 0, .i .u32 0], 16, 0⟩, .e⟩
theorem stA : (hL.alloc [.i .i64 0, .i .i64 0, .i .u32 0]).stn hL.nb 0 [.i .i64 3, .i .i64 0, .i .u32 0] = some hA := by kernel_rfl

theorem p5 {call : Ev.Call} {l : List Nat} (o : Other l) : runF call 100000 d5' [.s l] hL = some (.t [.sn, .i .i64 0, .b false], hA) := by
  obtain ⟨n0, n1, n2, n3, n4, n5⟩ := o
  simp [-Int.ofNat_eq_natCast, runF, len, d5', c5_0, c5_1, c5_2, c5_3, c5_4, c5_5, c5_6, c5_7, c5_8, c5_9, c5_10, c5_11, c5_12, c5_13, c5_14, c5_15, c5_16, c5_17, c5_18, c5_19, c5_20, c5_21, c5_22, c5_23, c5_24, c5_25, c5_26, c5_27, c5_28, c5_29, c5_30, c5_31, c5_32, c5_33, c5_34, c5_35, c5_36, c5_37, c5_38, c5_39, evK, evOps, evPlan, wantG, evC, evP, evL, evA, evE, O.ev, O.cells, putE, T.get_set, envOf, evBin, strOp, n0, n1, n2, n3, n4, n5, evBuild, fillP, putN, AR.at, evStn, resV, R.ev, packR, V.cells?, ble_dec, beq_dec, stA]


/-! the document's programs -/
def z3 : List V := [.i .i64 0, .i .i64 0, .i .u32 0]
def hB1 : H := ⟨19, ((hA.bl.set 17 ⟨[.i .i64 1, .i .i64 0, .i .u32 0], 17, 0⟩).set 18 ⟨z3, 18, 0⟩), .e⟩
def hB2 : H := ⟨19, ((hA.bl.set 17 ⟨[.i .i64 1, .i .i64 0, .i .u32 0], 17, 0⟩).set 18 ⟨[.i .i64 1, .i .i64 1, .i .u32 0], 18, 0⟩), .e⟩
def hB3 : H := ⟨21, ((hB2.bl.set 19 ⟨[.i .i64 2, .i .i64 0, .i .u32 1], 19, 0⟩).set 20 ⟨z3, 20, 0⟩), .e⟩
def hB : H := ⟨21, ((hB2.bl.set 19 ⟨[.i .i64 2, .i .i64 0, .i .u32 1], 19, 0⟩).set 20 ⟨[.i .i64 2, .i .i64 1, .i .u32 1], 20, 0⟩), .e⟩
theorem stB1 : ((hA.alloc [.i .i64 0, .i .i64 0, .i .u32 0]).alloc [.i .i64 0, .i .i64 0, .i .u32 0]).stn hA.nb 0 [.i .i64 1, .i .i64 0, .i .u32 0] = some hB1 := by kernel_rfl
theorem stB2 : hB1.stn (hA.alloc [.i .i64 0, .i .i64 0, .i .u32 0]).nb 0 [.i .i64 1, .i .i64 1, .i .u32 0] = some hB2 := by kernel_rfl
theorem stB3 : ((hB2.alloc [.i .i64 0, .i .i64 0, .i .u32 0]).alloc [.i .i64 0, .i .i64 0, .i .u32 0]).stn hB2.nb 0 [.i .i64 2, .i .i64 0, .i .u32 1] = some hB3 := by kernel_rfl
theorem stB4 : hB3.stn (hB2.alloc [.i .i64 0, .i .i64 0, .i .u32 0]).nb 0 [.i .i64 2, .i .i64 1, .i .u32 1] = some hB := by kernel_rfl

theorem p6 {call : Ev.Call} {l : List Nat} (o : Other l) : runF call 100000 d6' [.s l] hA = some (.t [.sn, .i .i64 0, .b false], hB) := by
  obtain ⟨n0, n1, n2, n3, n4, n5⟩ := o
  simp [-Int.ofNat_eq_natCast, runF, len, d6', c6_0, c6_1, c6_2, c6_3, c6_4, c6_5, c6_6, c6_7, c6_8, c6_9, c6_10, c6_11, c6_12, c6_13, c6_14, c6_15, c6_16, c6_17, c6_18, c6_19, c6_20, c6_21, c6_22, c6_23, c6_24, c6_25, c6_26, c6_27, c6_28, c6_29, c6_30, c6_31, c6_32, c6_33, c6_34, c6_35, c6_36, c6_37, c6_38, c6_39, c6_40, c6_41, evK, evOps, wantG, evC, evP, evL, evA, evE, O.ev, O.cells, putE, T.get_set, envOf, evBin, strOp, evBuild, fillP, putN, AR.at, evStn, resV, R.ev, packR, V.cells?, ble_dec, beq_dec, n0, n1, n2, n3, n4, n5, stB1, stB2, stB3, stB4]

/-! the law -/
def getH (o : Option (V × H)) : H := match o with
  | some r => r.2
  | none => hL
def getV (o : Option (V × H)) : V := match o with
  | some r => r.1
  | none => .u

def h7 : H := getH (callL 7 [.sn, .sn] hB)
def v9 : V := getV (callL 9 [] h7)
def h9 : H := getH (callL 9 [] h7)
def v10 : V := getV (callL 10 [] h9)
def h10 : H := getH (callL 10 [] h9)
def h8 : H := getH (callL 8 [v9, v10] h10)
theorem ca7 : callL 7 [.sn, .sn] hB = some (.b true, h7) := by kernel_rfl
theorem ca9 : callL 9 [] h7 = some (v9, h9) := by kernel_rfl
theorem ca10 : callL 10 [] h9 = some (v10, h10) := by kernel_rfl
theorem ca8 : callL 8 [v9, v10] h10 = some (.b true, h8) := by kernel_rfl
theorem ca4 : callL 4 [] h8 = some (.b true, h8) := by kernel_rfl
theorem ca4' : callL 4 [] hL = some (.b true, hL) := by kernel_rfl

theorem call_run {n : Nat} {f : Nat} {F : F} (hf : f ≠ 4) (ht : tabL.get f = some F) (args : List V) (h : H) : evM callA tabL.get 100000 (n + 1) f args h = runF (evM callA tabL.get 100000 n) 100000 F args h := by
  have h1 : callA f args h = none := by
    unfold callA closedCall
    split
    · rw [cond_eq_ite, if_neg]
      rw [Bool.and_eq_true, Nat.beq_eq]
      exact fun e => hf e.1
    · rfl
  simp only [evM, h1, ht]

theorem law_long {l : List Nat} (hn : Nat.ble 101 (len l) = true) : ∃ h', evM callA tabL.get 100000 9 3 [.s l] hL = some (.b true, h') := by
  rw [call_run (n := 8) (by decide) (show tabL.get 3 = some d3' from rfl)]
  change ∃ h', runF callL 100000 d3' [.s l] hL = _
  have e1 : intOp .gtr .i64 (.ofNat (len l)) 100 = some (.b true) := by
    show some (V.b (Nat.ble 101 (len l))) = _
    rw [hn]
  simp [-Int.ofNat_eq_natCast, runF, len, d3', c3_0, c3_1, c3_2, c3_3, c3_4, c3_5, c3_6, c3_7, c3_8, c3_9, c3_10, c3_11, c3_12, c3_13, evK, evOps, wantG, evC, evP, evE, O.ev, putE, T.get_set, envOf, evBin, resV, R.ev, packR, evLenS, intOps, ksame_self, e1, evCall, evs, ca4']

theorem law_other {l : List Nat} (hn : Nat.ble 101 (len l) = false) (o : Other l) : ∃ h', evM callA tabL.get 100000 9 3 [.s l] hL = some (.b true, h') := by
  rw [call_run (n := 8) (by decide) (show tabL.get 3 = some d3' from rfl)]
  change ∃ h', runF callL 100000 d3' [.s l] hL = _
  have e1 : intOp .gtr .i64 (.ofNat (len l)) 100 = some (.b false) := by
    show some (V.b (Nat.ble 101 (len l))) = _
    rw [hn]
  have e2 : intOp .eql .i64 0 0 = some (.b true) := rfl
  have c5 : callL 5 [.s l] hL = some (.t [.sn, .i .i64 0, .b false], hA) := by
    exact (call_run (n := 7) (by decide) (show tabL.get 5 = some d5' from rfl) _ _).trans (p5 o)
  have c6 : callL 6 [.s l] hA = some (.t [.sn, .i .i64 0, .b false], hB) := by
    exact (call_run (n := 7) (by decide) (show tabL.get 6 = some d6' from rfl) _ _).trans (p6 o)
  simp [-Int.ofNat_eq_natCast, runF, len, d3', c3_0, c3_1, c3_2, c3_3, c3_4, c3_5, c3_6, c3_7, c3_8, c3_9, c3_10, c3_11, c3_12, c3_13, evK, evOps, wantG, evC, evP, evE, O.ev, putE, T.get_set, envOf, evBin, resV, R.ev, packR, beq_dec, evLenS, intOps, ksame_self, e1, e2, evCall, evs, c5, c6, evExt, nth, evPick, evBinB, boolOp, ca7, ca9, ca10, ca8, ca4]

end
end Go.Proofs.YtplhemceflgdlaaGreatDoor.Run
