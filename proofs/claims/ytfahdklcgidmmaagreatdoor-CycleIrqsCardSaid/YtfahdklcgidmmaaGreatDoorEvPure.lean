/- A part of the evaluator and of the proof that its word holds in the model (EvPure). -/
import Derived.Test.YtfahdklcgidmmaaGreatDoorEvRel
import Derived.Laws.Cells
import Derived.Laws.Append
import Derived.Laws.MakeOwn
import Derived.Laws.IdiomCopy
import Derived.Laws.Strings
import Derived.Laws.BitsAllLaws
import Derived.IntWalk
namespace Go.Ev

theorem ltB_eq (a b : Int) : ltB a b = decide (a < b) := by
  unfold ltB
  cases a <;> cases b <;> rw [Bool.eq_iff_iff, decide_eq_true_iff] <;> simp only [Nat.ble_eq, Int.ofNat_eq_natCast, Int.negSucc_eq] <;>
    first | (constructor <;> intro h <;> omega) | (simp; omega) | simp

theorem eqB_eq (a b : Int) : eqB a b = (a == b) := by
  unfold eqB
  cases a <;> cases b <;> rw [Bool.eq_iff_iff, beq_iff_eq] <;> simp only [Nat.beq_eq, Int.ofNat_eq_natCast, Int.negSucc_eq] <;>
    first | (constructor <;> intro h <;> omega) | (simp; omega) | simp

theorem wrapB_eq (k : IntKind) (n : Int) : wrapB k n = k.wrap n := by
  unfold wrapB
  cases n with
  | ofNat x =>
    simp only [cond_eq_ite, Nat.ble_eq]
    split
    · rename_i h
      cases k <;> simp only [kmax] at h <;> simp only [Int.ofNat_eq_natCast]
      · rw [IntWalk.i8_in _ (by omega)]
      · rw [IntWalk.i16_in _ (by omega)]
      · rw [IntWalk.i32_in _ (by omega)]
      · rw [IntWalk.i64_in _ (by omega)]
      · rw [IntWalk.u8_in _ (by omega)]
      · rw [IntWalk.u16_in _ (by omega)]
      · rw [IntWalk.u32_in _ (by omega)]
      · rw [IntWalk.u64_in _ (by omega)]
    · rfl
  | negSucc x =>
    simp only [cond_eq_ite, Bool.and_eq_true, Nat.ble_eq]
    split
    · rename_i h
      obtain ⟨h1, h⟩ := h
      cases k <;> simp only [ksgn, Bool.false_eq_true] at h1 <;> simp only [kmax] at h <;> simp only [Int.negSucc_eq]
      · rw [IntWalk.i8_in _ (by omega)]
      · rw [IntWalk.i16_in _ (by omega)]
      · rw [IntWalk.i32_in _ (by omega)]
      · rw [IntWalk.i64_in _ (by omega)]
    · rfl

theorem ksame_eq (j k : IntKind) : ksame j k = true ↔ j = k := by
  unfold ksame
  simp only [Nat.beq_eq]
  cases j <;> cases k <;> simp [knum]

theorem kbits_eq (k : IntKind) : kbits k = k.bits := by cases k <;> rfl

theorem eqS_iff (x y : List Nat) : eqS x y = true ↔ x = y := by
  induction x generalizing y with
  | nil => cases y <;> simp [eqS]
  | cons a x ih =>
    cases y with
    | nil => simp [eqS]
    | cons b y => simp [eqS, ih, Nat.beq_eq]

theorem map_toNat_inj {x y : List UInt8} (h : x.map (·.toNat) = y.map (·.toNat)) : x = y := by
  induction x generalizing y with
  | nil => cases y <;> simp_all
  | cons a x ih =>
    cases y with
    | nil => simp at h
    | cons b y =>
      simp only [List.map_cons, List.cons.injEq] at h
      rw [ih h.2, UInt8.toNat_inj.1 h.1]

theorem eqS_bytes (s t : ByteArray) : eqS (s.data.toList.map (·.toNat)) (t.data.toList.map (·.toNat)) = (s.toList == t.toList) := by
  rw [ByteArray.toList_eq, ByteArray.toList_eq, Bool.eq_iff_iff, eqS_iff, beq_iff_eq]
  exact ⟨map_toNat_inj, fun h => by rw [h]⟩

theorem ltS_bytes (x y : List UInt8) : ltS (x.map (·.toNat)) (y.map (·.toNat)) = Op.bytesLess x y := by
  induction x generalizing y with
  | nil => cases y <;> simp [ltS, Op.bytesLess]
  | cons a x ih =>
    cases y with
    | nil => simp [ltS, Op.bytesLess]
    | cons b y =>
      simp only [List.map_cons, ltS, Op.bytesLess, ih]
      have h1 : Nat.ble (a.toNat + 1) b.toNat = decide (a < b) := by
        rw [Bool.eq_iff_iff, Nat.ble_eq, decide_eq_true_iff, UInt8.lt_iff_toNat_lt]; omega
      have h2 : Nat.beq a.toNat b.toNat = (a == b) := by
        rw [Bool.eq_iff_iff, Nat.beq_eq, beq_iff_eq]; exact UInt8.toNat_inj
      rw [h1, h2]

theorem shift_cap (k : IntKind) (y : Nat) : (bif Nat.ble y (kbits k) then y else kbits k) = min y k.bits := by
  simp only [cond_eq_ite, Nat.ble_eq, kbits_eq]
  split <;> omega

theorem kmax_lt (k : IntKind) : kmax k < 2 ^ k.bits := by cases k <;> decide

theorem wrap_small (k : IntKind) (n : Nat) (h : n ≤ kmax k) : k.wrap (n : Int) = n := by
  have := wrapB_eq k (Int.ofNat n)
  rw [← Int.ofNat_eq_natCast, ← this]
  simp only [wrapB, cond_eq_ite, Nat.ble_eq, h, if_true]

theorem kmax_pow (k : IntKind) : ∃ m, kmax k = 2 ^ m - 1 ∧ m ≤ k.bits := by
  cases k
  · exact ⟨7, by decide, by decide⟩
  · exact ⟨15, by decide, by decide⟩
  · exact ⟨31, by decide, by decide⟩
  · exact ⟨63, by decide, by decide⟩
  · exact ⟨8, by decide, by decide⟩
  · exact ⟨16, by decide, by decide⟩
  · exact ⟨32, by decide, by decide⟩
  · exact ⟨64, by decide, by decide⟩

theorem le_kmax_iff {k : IntKind} {m : Nat} (hm : kmax k = 2 ^ m - 1) (x : Nat) : x ≤ kmax k ↔ x < 2 ^ m := by
  have : 0 < 2 ^ m := Nat.two_pow_pos m
  omega

section
variable {P : Program} {W : World}

theorem run_bit (op : BinOp) (k : IntKind) (x y r : Nat) (hx : x ≤ kmax k) (hy : y ≤ kmax k) (h : bitB (aop op) x y = some r) :
    (Op.intBits op k (Int.ofNat x) (Int.ofNat y)).run P W = .ok (.int k (Int.ofNat r)) W := by
  obtain ⟨m, hm, hmb⟩ := kmax_pow k
  have hx' := (le_kmax_iff hm x).1 hx
  have hy' := (le_kmax_iff hm y).1 hy
  have hbx : x < 2 ^ k.bits := by have := kmax_lt k; omega
  have hby : y < 2 ^ k.bits := by have := kmax_lt k; omega
  have ex : (BitVec.ofInt k.bits (Int.ofNat x)).toNat = x := by
    rw [Int.ofNat_eq_natCast, BitVec.ofInt_natCast, BitVec.toNat_ofNat, Nat.mod_eq_of_lt hbx]
  have ey : (BitVec.ofInt k.bits (Int.ofNat y)).toNat = y := by
    rw [Int.ofNat_eq_natCast, BitVec.ofInt_natCast, BitVec.toNat_ofNat, Nat.mod_eq_of_lt hby]
  cases op <;> simp only [aop, bitB, reduceCtorEq, Option.some.injEq] at h <;> subst h <;> simp only [Op.intBits, Sem.run_pure]
  · congr 2
    rw [BitVec.toNat_and, ex, ey, wrap_small k _ ((le_kmax_iff hm _).2 (Nat.and_lt_two_pow _ hy'))]
    rfl
  · congr 2
    rw [BitVec.toNat_or, ex, ey, wrap_small k _ ((le_kmax_iff hm _).2 (Nat.or_lt_two_pow hx' hy'))]
    rfl
  · congr 2
    rw [BitVec.toNat_xor, ex, ey, wrap_small k _ ((le_kmax_iff hm _).2 (Nat.xor_lt_two_pow hx' hy'))]
    rfl
  · congr 2
    have e : (BitVec.ofInt k.bits (Int.ofNat x) &&& ~~~BitVec.ofInt k.bits (Int.ofNat y)).toNat = Nat.xor x (Nat.land x y) := by
      have e1 : BitVec.ofInt k.bits (Int.ofNat x) &&& ~~~BitVec.ofInt k.bits (Int.ofNat y) = BitVec.ofInt k.bits (Int.ofNat x) ^^^ (BitVec.ofInt k.bits (Int.ofNat x) &&& BitVec.ofInt k.bits (Int.ofNat y)) := by
        apply BitVec.eq_of_getLsbD_eq
        intro i hi
        simp only [BitVec.getLsbD_and, BitVec.getLsbD_not, BitVec.getLsbD_xor, hi, decide_true, Bool.true_and]
        cases (BitVec.ofInt k.bits (Int.ofNat x)).getLsbD i <;> cases (BitVec.ofInt k.bits (Int.ofNat y)).getLsbD i <;> rfl
      rw [e1, BitVec.toNat_xor, BitVec.toNat_and, ex, ey]
      rfl
    have e2 : Nat.xor x (Nat.land x y) ≤ kmax k := (le_kmax_iff hm _).2 (Nat.xor_lt_two_pow hx' (Nat.and_lt_two_pow _ hy'))
    rw [e, wrap_small k _ e2]
    rfl

theorem run_intOps (op : BinOp) (t : TypeId) (k k' : IntKind) (x y : Int) {v : V} (h : intOps (aop op) k x k' y = some v) (φ : Phi) :
    ∃ z, (binOp op t (.int k x) (.int k' y)).run P W = .ok z W ∧ RV φ v z := by
  cases op <;> simp only [aop, intOps, shl1, shr1, intOp, bitOp, cond_eq_ite] at h
  case shl =>
    cases y with
    | negSucc y => cases h
    | ofNat y =>
      simp only [← cond_eq_ite, shift_cap] at h
      cases h
      refine ⟨.int k (k.wrap (x * 2 ^ min y k.bits)), ?_, by simp [RV, wrapB_eq]⟩
      have : ¬ ((y : Int) < 0) := by omega
      simp [binOp, Op.shift, this]
  case shr =>
    cases y with
    | negSucc y => cases h
    | ofNat y =>
      simp only [← cond_eq_ite, shift_cap] at h
      have hy0 : ¬ ((y : Int) < 0) := by omega
      refine ⟨.int k (x.fdiv (2 ^ min y k.bits)), by simp [binOp, Op.shift, hy0], ?_⟩
      cases x with
      | negSucc x => cases h; simp [RV]
      | ofNat x =>
        cases h
        simp only [RV, Value.int.injEq, true_and]
        rw [Int.ofNat_eq_natCast, Int.ofNat_eq_natCast, Int.fdiv_eq_ediv_of_nonneg _ (Int.le_of_lt (Int.pow_pos (by decide)))]
        simp
  all_goals
    split at h
    case isFalse => cases h
    rename_i hk
    obtain rfl := (ksame_eq _ _).1 hk
  case quo =>
    split at h
    · cases h
    · rename_i hy
      rw [eqB_eq, beq_iff_eq] at hy
      cases h
      exact ⟨.int k (k.wrap (x.tdiv y)), by simp [binOp, Op.intDiv, hy], by simp [RV, wrapB_eq]⟩
  case rem =>
    split at h
    · cases h
    · rename_i hy
      rw [eqB_eq, beq_iff_eq] at hy
      cases h
      exact ⟨.int k (x.tmod y), by simp [binOp, Op.intDiv, hy], by simp [RV]⟩
  case and | or | xor | andNot =>
    cases x with
    | negSucc x => cases h
    | ofNat x =>
      cases y with
      | negSucc y => cases h
      | ofNat y =>
        simp only [Bool.and_eq_true, Nat.ble_eq] at h
        split at h
        · rename_i hb
          split at h
          · rename_i r hr
            cases h
            refine ⟨.int k (Int.ofNat r), ?_, by simp [RV]⟩
            simp only [binOp, ne_eq, not_true_eq_false, if_false]
            exact run_bit _ k x y r hb.1 hb.2 (by simpa only [aop] using hr)
          · cases h
        · cases h
  all_goals
    cases h
    simp [binOp, Op.intArith, Op.intCmp, RV, wrapB_eq, ltB_eq, eqB_eq, bne]
  all_goals (rw [← decide_not]; congr 1; rw [eq_iff_iff]; omega)
end
end Go.Ev
