/- The law's own functions, at every two slices that can be read: what they answer. -/
import Derived.Test.YtfahdklcgidmmaaGreatDoorL
import Derived.Test.YtfahdklcgidmmaaGreatDoorEvSym
set_option maxRecDepth 100000
namespace Go.Proofs.YtfahdklcgidmmaaGreatDoor.Run
open Go.Ev
noncomputable section

/-- rows of (int, uint32) -/
def pairs : List (Int × Int) → List V
  | [] => []
  | p :: l => .i .i64 p.1 :: .i .u32 p.2 :: pairs l

theorem pairs_len (l : List (Int × Int)) : (pairs l).length = l.length * 2 := by
  induction l with
  | nil => rfl
  | cons p l ih => simp only [pairs, List.length_cons, ih]; omega

theorem pairs_append (l m : List (Int × Int)) : pairs (l ++ m) = pairs l ++ pairs m := by
  induction l with
  | nil => rfl
  | cons p l ih => simp only [List.cons_append, pairs, ih]

theorem pairs_nz (l : List (Int × Int)) : ∀ c ∈ pairs l, c ≠ .z := by
  induction l with
  | nil => intro c h; cases h
  | cons p l ih =>
    intro c h
    simp only [pairs, List.mem_cons] at h
    rcases h with rfl | rfl | h
    · intro e; cases e
    · intro e; cases e
    · exact ih c h

def rowP (p : Int × Int) : List V := [.i .i64 p.1, .i .u32 p.2]

theorem pairs_row : ∀ (l : List (Int × Int)) (k : Nat), k < l.length → ((pairs l).drop (k * 2)).take 2 = rowP (l.getD k (0, 0)) := by
  intro l
  induction l with
  | nil => intro k h; simp at h
  | cons p l ih =>
    intro k h
    cases k with
    | zero => simp [pairs, rowP]
    | succ k =>
      have := ih k (by simpa using h)
      rw [show (k + 1) * 2 = k * 2 + 2 by omega]
      simpa [pairs] using this

/-! arithmetic -/

theorem ble_dec (a b : Nat) : Nat.ble a b = decide (a ≤ b) := by
  cases e : Nat.ble a b with
  | true => rw [Nat.ble_eq] at e; exact (decide_eq_true e).symm
  | false =>
    refine (decide_eq_false fun h => ?_).symm
    rw [ble_of h] at e; cases e

theorem beq_dec (a b : Nat) : Nat.beq a b = decide (a = b) := by
  cases e : Nat.beq a b with
  | true => rw [Nat.beq_eq] at e; exact (decide_eq_true e).symm
  | false =>
    refine (decide_eq_false fun h => ?_).symm
    have : Nat.beq a b = true := by rw [Nat.beq_eq]; exact h
    rw [this] at e; cases e


theorem op_lss {a b : Nat} : intOp .lss .i64 (.ofNat a) (.ofNat b) = some (.b (decide (a < b))) := by
  show some (V.b (Nat.ble (a + 1) b)) = _
  congr 2
  by_cases h : a < b
  · rw [ble_of (by omega), decide_eq_true h]
  · rw [decide_eq_false h]
    cases e : Nat.ble (a + 1) b with
    | false => rfl
    | true => rw [Nat.ble_eq] at e; omega

theorem op_neq {a b : Nat} {k : IntKind} : intOp .neq k (.ofNat a) (.ofNat b) = some (.b (decide (a ≠ b))) := by
  show some (V.b (!Nat.beq a b)) = _
  congr 2
  by_cases h : a = b
  · subst h
    simp
  · have : Nat.beq a b = false := by
      cases e : Nat.beq a b with
      | false => rfl
      | true => rw [Nat.beq_eq] at e; exact (h e).elim
    simp [this, h]

theorem op_eql {a b : Nat} {k : IntKind} : intOp .eql k (.ofNat a) (.ofNat b) = some (.b (decide (a = b))) := by
  show some (V.b (Nat.beq a b)) = _
  congr 2
  by_cases h : a = b
  · subst h
    simp
  · have : Nat.beq a b = false := by
      cases e : Nat.beq a b with
      | false => rfl
      | true => rw [Nat.beq_eq] at e; exact (h e).elim
    simp [this, h]

theorem op_gtr {a b : Nat} : intOp .gtr .i64 (.ofNat a) (.ofNat b) = some (.b (decide (b < a))) := op_lss (a := b) (b := a)

theorem op_inc {k : Nat} (h : k < 1000000) : intOp .add .i64 (.ofNat k) 1 = some (.i .i64 (.ofNat (k + 1))) := by
  show some (V.i .i64 (bif Nat.ble (k + 1) (kmax .i64) then .ofNat (k + 1) else IntKind.wrap .i64 (.ofNat (k + 1)))) = _
  rw [ble_of (by show k + 1 ≤ 9223372036854775807; omega)]
  rfl

theorem op_and7 {x : Nat} (h : x ≤ 4294967295) : intOp .and .u32 (.ofNat x) 7 = some (.i .u32 (.ofNat (x % 8))) := by
  show (bif Nat.ble x 4294967295 && Nat.ble 7 4294967295 then some (V.i .u32 (.ofNat (Nat.land x 7))) else none) = _
  rw [ble_of h, ble_of (by omega : 7 ≤ 4294967295)]
  have : Nat.land x 7 = x % 8 := Nat.and_two_pow_sub_one_eq_mod x 3
  rw [this]; rfl

theorem op_rem8 {x : Nat} : intOp .rem .u32 (.ofNat x) 8 = some (.i .u32 (.ofNat (x % 8))) := rfl

/-! cotterelsame.Irqs -/

theorem step5 {call : Go.Ev.Call} {lf : Nat} {h : H} {env : Env} {a b : V} {n n1 n2 k : Nat} {row : Nat → List V} (ra : Reads n1 h a 2 n row) (rb : Reads n2 h b 2 n row) (hrow : ∀ k, k < n → ∃ p, row k = rowP p)
    (h0 : env.get 0 = some a) (h1 : env.get 1 = some b) (h5 : env.get 5 = some (.i .i64 (.ofNat k))) (hk : k < n) (hn : n < 1000000) :
    ∃ env', evK call lf c5_18 env h = some (.nrm, env', h) ∧ env'.get 0 = some a ∧ env'.get 1 = some b ∧ env'.get 5 = some (.i .i64 (.ofNat (k + 1))) := by
  obtain ⟨b1, o1, _, i1, l1, c1⟩ := ra.2 k hk
  obtain ⟨b2, o2, _, i2, _, c2⟩ := rb.2 k hk
  obtain ⟨p, hp⟩ := hrow k hk
  have d1 := c1.ldn; have d2 := c2.ldn
  rw [l1, hp] at d1; rw [l1, hp] at d2
  simp only [rowP] at d1 d2
  have ha := ra.1; have hb := rb.1
  have e3 := op_inc (k := k) (by omega)
  have e6 := op_lss (a := k) (b := n)
  rw [decide_eq_true hk] at e6
  simp [-Int.ofNat_eq_natCast, c5_18, c5_9, c5_7, c5_8, c5_17, c5_15, c5_14, c5_13, c5_10, c5_16, evK, evOps, evPlan, wantG, evC, evP, evL, O.ev, O.nat, O.cells, natOf, putE, T.get_set, h0, h1, h5, evLen_eq, ha, hb, evBin, intOps, ksame_self, e6, evPick, evIxS_eq, i1, i2, evLdn, d1, d2, evEqA, len, eqCells, eqCell, eqB_self, e3, recheck]

theorem loop5 {call : Go.Ev.Call} {lf : Nat} {h : H} {a b : V} {n n1 n2 : Nat} {row : Nat → List V} (ra : Reads n1 h a 2 n row) (rb : Reads n2 h b 2 n row) (hrow : ∀ k, k < n → ∃ p, row k = rowP p) (hn : n < 1000000) :
    ∀ (m : Nat) (k : Nat) (env : Env) (f : Nat), env.get 0 = some a → env.get 1 = some b → env.get 5 = some (.i .i64 (.ofNat k)) → k + m = n → m < f →
    ∃ env', iter (evK call lf c5_18) f env h = some (.exit 0, env', h) := by
  intro m
  induction m with
  | zero =>
    intro k env f h0 h1 h5 hk hf
    obtain ⟨f, rfl⟩ : ∃ g, f = g + 1 := ⟨f - 1, by omega⟩
    have e6 := op_lss (a := k) (b := n)
    rw [decide_eq_false (by omega)] at e6
    have ha := ra.1
    simp [-Int.ofNat_eq_natCast, iter, c5_18, c5_9, c5_7, c5_8, evK, evOps, wantG, evC, evP, O.ev, putE, T.get_set, h0, h5, evLen_eq, ha, evBin, intOps, ksame_self, e6, evPick]
  | succ m ih =>
    intro k env f h0 h1 h5 hk hf
    obtain ⟨f, rfl⟩ : ∃ g, f = g + 1 := ⟨f - 1, by omega⟩
    obtain ⟨env', e, g0, g1, g5⟩ := step5 (call := call) (lf := lf) ra rb hrow h0 h1 h5 (by omega) hn
    obtain ⟨env2, e2⟩ := ih (k + 1) env' f g0 g1 g5 (by omega) (by omega)
    exact ⟨env2, by simp only [iter, e, e2]⟩

theorem same_irqs {call : Go.Ev.Call} {h : H} {a b : V} {n n1 n2 : Nat} {row : Nat → List V} (ra : Reads n1 h a 2 n row) (rb : Reads n2 h b 2 n row) (hrow : ∀ k, k < n → ∃ p, row k = rowP p) (hn : n < 1000) :
    runF call 100000 d5' [a, b] h = some (.b true, h) := by
  have ha := ra.1; have hb := rb.1
  have e6 := op_neq (a := n) (b := n) (k := .i64)
  rw [decide_eq_false (by simp)] at e6
  obtain ⟨env', e⟩ := loop5 (call := call) (lf := 100000) ra rb hrow (by omega) n 0 ((((((((envOf [a, b] 0 .e).set 4 (.b false)).set 6 a).set 7 (.i .i64 (.ofNat n))).set 8 b).set 9 (.i .i64 (.ofNat n))).set 10 (.b false)).set 5 (.i .i64 0)) 100000
    (by simp [envOf, T.get_set]) (by simp [envOf, T.get_set]) (by simp [T.get_set]) (by omega) (by omega)
  simp only [envOf] at e
  simp [-Int.ofNat_eq_natCast, runF, d5', c5_26, c5_0, c5_25, c5_5, c5_1, c5_4, c5_24, c5_21, c5_6, c5_20, c5_19, c5_23, c5_22, evK, evOps, wantG, evC, evP, O.ev, putE, T.get_set, envOf, evLen_eq, ha, hb, evBin, intOps, ksame_self, e6, e, resV, R.ev, packR, len]

/-! cycle.Irqs -/

/-- what one tick adds -/
def irq (x : Nat) (at_ : Int) : List (Int × Int) := if x % 8 = 0 then [] else [(at_, .ofNat (x % 8))]

def tickRow (x : Nat) (c : List V) : List V := .i .u32 (.ofNat x) :: c

theorem step6 {call : Go.Ev.Call} {lf : Nat} {h : H} {env : Env} {l r out : V} {n0 n rn k : Nat} {rowL rowR : Nat → List V} {xs : Nat → Nat} {rv : Nat → Int} {L : List (Int × Int)} (g : Grp n0 h) (rl : Reads n0 h l 5 n rowL) (rr : Reads n0 h r 1 rn rowR)
    (hL : ∀ k, k < n → ∃ c1 c2 c3 c4, rowL k = [.i .u32 (.ofNat (xs k)), c1, c2, c3, c4] ∧ xs k ≤ 4294967295) (hR : ∀ k, k < rn → rowR k = [.i .i64 (rv k)])
    (h0 : env.get 0 = some l) (h1 : env.get 1 = some r) (h10 : env.get 10 = some l) (h11 : env.get 11 = some (.i .i64 (.ofNat n))) (h12 : env.get 12 = some (.i .i64 (.ofNat k))) (h5 : env.get 5 = some out)
    (o : Own n0 h out 2 (pairs L)) (hLl : L.length ≤ k) (hk : k < n) (hn : n < 1000) :
    ∃ env' h' out', evK call lf c6_25 env h = some (.nrm, env', h') ∧ env'.get 0 = some l ∧ env'.get 1 = some r ∧ env'.get 10 = some l ∧ env'.get 11 = some (.i .i64 (.ofNat n)) ∧ env'.get 12 = some (.i .i64 (.ofNat (k + 1))) ∧ env'.get 5 = some out' ∧
      Grp n0 h' ∧ Keep n0 h h' ∧ Own n0 h' out' 2 (pairs (L ++ irq (xs k) (if k < rn then rv k else 0))) := by
  obtain ⟨b1, o1, _, i1, _, c1⟩ := rl.2 k hk
  obtain ⟨y1, y2, y3, y4, hrow, hx⟩ := hL k hk
  have hz : ∀ c ∈ rowL k, c ≠ .z := by obtain ⟨_, _, _, hz⟩ := c1; exact hz
  have d1 : h.ldn b1 o1 5 = some [.i .u32 (.ofNat (xs k)), y1, y2, y3, y4] := by
    have := c1.ldn
    rw [hrow] at this
    exact this
  rw [hrow] at hz
  obtain ⟨h2, hst, _, g2, k2, ca, own2⟩ := stn_fresh g (z := [(.i .u32 0), (.i .u32 0), (.i .i64 0), (.b false), (.i .i64 0)]) (cs := [.i .u32 (.ofNat (xs k)), y1, y2, y3, y4]) rfl hz
  have ld := ca.ld1 (j := 0) rfl
  rw [Nat.add_zero] at ld
  have o2 := own2 _ _ _ o
  have e3 := op_inc (k := k) (by omega)
  have e6 := op_lss (a := k) (b := n)
  rw [decide_eq_true hk] at e6
  have e7 := op_and7 hx
  have e8 : intOp .eql .u32 (.ofNat (xs k % 8)) 0 = some (.b (decide (xs k % 8 = 0))) := op_eql (a := xs k % 8) (b := 0) (k := .u32)
  by_cases hx8 : xs k % 8 = 0
  · have hirq : irq (xs k) (if k < rn then rv k else 0) = [] := by simp [irq, hx8]
    rw [hirq, List.append_nil]
    rw [decide_eq_true hx8] at e8
    have key : ∃ env', evK call lf c6_25 env h = some (.nrm, env', h2) ∧ env'.get 0 = some l ∧ env'.get 1 = some r ∧ env'.get 10 = some l ∧ env'.get 11 = some (.i .i64 (.ofNat n)) ∧ env'.get 12 = some (.i .i64 (.ofNat (k + 1))) ∧ env'.get 5 = some out := by
      simp [-Int.ofNat_eq_natCast, c6_25, c6_3, c6_24, c6_4, c6_23, c6_21, c6_20, c6_5, c6_19, c6_6, c6_18, c6_9, c6_7, c6_8, c6_22, evK, evOps, wantG, evC, evP, evL, evA, evE, O.ev, O.nat, O.cells, natOf, putE, T.get_set, h10, h11, h12, evBin, intOps, ksame_self, e6, evIxS_eq, i1, evLdn, d1, AR.at, evStn, len, hst, evFa, evLd1, ld, e7, e8, e3, h0, h1, h5]
    obtain ⟨env', q0, q1, q2, q3, q4, q5, q6⟩ := key
    exact ⟨env', h2, out, q0, q1, q2, q3, q4, q5, q6, g2, k2, o2⟩
  · have hirq : ∀ z : Int, irq (xs k) z = [(z, .ofNat (xs k % 8))] := fun z => by simp [irq, hx8]
    rw [decide_eq_false hx8] at e8
    have e9 := op_lss (a := k) (b := rn)
    have hr := rr.1
    have rr2 := rr.keep k2
    have app : ∀ z : Int, ∃ v' h3, (h2.alloc [.i .i64 z, .i .u32 (.ofNat (xs k % 8))]).append out 2 16 1 [.i .i64 z, .i .u32 (.ofNat (xs k % 8))] = some (v', h3) ∧ Grp n0 h3 ∧ Keep n0 h h3 ∧ Own n0 h3 v' 2 (pairs (L ++ [(z, .ofNat (xs k % 8))])) := by
      intro z
      obtain ⟨v', h3, a1, a2, a3, a4⟩ := append_own (n := 1) (bytes := 16) (new := [.i .i64 z, .i .u32 (.ofNat (xs k % 8))]) (g2.alloc _) (o2.alloc [.i .i64 z, .i .u32 (.ofNat (xs k % 8))]) (by omega) rfl (pairs_nz [(z, _)]) (fun q hq => by rw [pairs_len] at hq; omega)
      exact ⟨v', h3, a1, a2, (k2.trans (Keep.alloc g2 _)).trans a3, by rw [pairs_append]; exact a4⟩
    have src : ∀ z : Int, srcCells (h2.alloc [.i .i64 z, .i .u32 (.ofNat (xs k % 8))]) 2 (.sl h2.nb 0 1 1 2 true) = some (1, [.i .i64 z, .i .u32 (.ofNat (xs k % 8))]) := fun z => src_new rfl (pairs_nz [(z, _)])
    by_cases hkr : k < rn
    · rw [if_pos hkr, hirq]
      rw [decide_eq_true hkr] at e9
      obtain ⟨b3, o3, _, i3, _, c3⟩ := rr2.2 k hkr
      rw [hR k hkr] at c3
      have d3 := c3.ld1 (j := 0) rfl
      rw [Nat.add_zero] at d3
      obtain ⟨v', h3, a1, a2, a3, a4⟩ := app (rv k)
      have s1 := src (rv k)
      have key : ∃ env', evK call lf c6_25 env h = some (.nrm, env', h3) ∧ env'.get 0 = some l ∧ env'.get 1 = some r ∧ env'.get 10 = some l ∧ env'.get 11 = some (.i .i64 (.ofNat n)) ∧ env'.get 12 = some (.i .i64 (.ofNat (k + 1))) ∧ env'.get 5 = some v' := by
        simp [-Int.ofNat_eq_natCast, c6_25, c6_3, c6_24, c6_4, c6_23, c6_21, c6_20, c6_5, c6_19, c6_6, c6_18, c6_9, c6_7, c6_8, c6_22, c6_17, c6_10, c6_16, c6_14, c6_11, c6_13, c6_12, c6_15, evK, evOps, wantG, evC, evP, evL, evA, evE, O.ev, O.nat, O.cells, V.cells?, natOf, putE, T.get_set, h10, h11, h12, evBin, intOps, ksame_self, e6, evIxS_eq, i1, evLdn, d1, AR.at, evStn, len, hst, evFa, evLd1, ld, e7, e8, e3, h0, h1, h5, evLen_eq, hr, e9, i3, d3, evBuild, fillP, putN, ble_dec, beq_dec, evBuildSl, evAppS, s1, a1]
      obtain ⟨env', q0, q1, q2, q3, q4, q5, q6⟩ := key
      exact ⟨env', h3, v', q0, q1, q2, q3, q4, q5, q6, a2, a3, a4⟩
    · rw [if_neg hkr, hirq]
      rw [decide_eq_false hkr] at e9
      obtain ⟨v', h3, a1, a2, a3, a4⟩ := app 0
      have s1 := src 0
      have key : ∃ env', evK call lf c6_25 env h = some (.nrm, env', h3) ∧ env'.get 0 = some l ∧ env'.get 1 = some r ∧ env'.get 10 = some l ∧ env'.get 11 = some (.i .i64 (.ofNat n)) ∧ env'.get 12 = some (.i .i64 (.ofNat (k + 1))) ∧ env'.get 5 = some v' := by
        simp [-Int.ofNat_eq_natCast, c6_25, c6_3, c6_24, c6_4, c6_23, c6_21, c6_20, c6_5, c6_19, c6_6, c6_18, c6_9, c6_7, c6_8, c6_22, c6_17, c6_10, c6_16, c6_14, c6_11, c6_13, c6_15, evK, evOps, wantG, evC, evP, evL, evA, evE, O.ev, O.nat, O.cells, V.cells?, natOf, putE, T.get_set, h10, h11, h12, evBin, intOps, ksame_self, e6, evIxS_eq, i1, evLdn, d1, AR.at, evStn, len, hst, evFa, evLd1, ld, e7, e8, e3, h0, h1, h5, evLen_eq, hr, e9, evBuild, fillP, putN, ble_dec, beq_dec, evBuildSl, evAppS, s1, a1]
      obtain ⟨env', q0, q1, q2, q3, q4, q5, q6⟩ := key
      exact ⟨env', h3, v', q0, q1, q2, q3, q4, q5, q6, a2, a3, a4⟩

/-- what the ticks from k on add -/
def irqs (xs : Nat → Nat) (rv : Nat → Int) (rn : Nat) : Nat → Nat → List (Int × Int)
  | _, 0 => []
  | k, m + 1 => irq (xs k) (if k < rn then rv k else 0) ++ irqs xs rv rn (k + 1) m

theorem irq_len (x : Nat) (z : Int) : (irq x z).length ≤ 1 := by unfold irq; split <;> simp

theorem irqs_len (xs : Nat → Nat) (rv : Nat → Int) (rn : Nat) : ∀ (m k : Nat), (irqs xs rv rn k m).length ≤ m := by
  intro m
  induction m with
  | zero => intro k; simp [irqs]
  | succ m ih =>
    intro k
    have := ih (k + 1)
    have := irq_len (xs k) (if k < rn then rv k else 0)
    simp only [irqs, List.length_append]; omega

theorem loop6 {call : Go.Ev.Call} {lf : Nat} {l r : V} {n0 n rn : Nat} {rowL rowR : Nat → List V} {xs : Nat → Nat} {rv : Nat → Int} (hL : ∀ k, k < n → ∃ c1 c2 c3 c4, rowL k = [.i .u32 (.ofNat (xs k)), c1, c2, c3, c4] ∧ xs k ≤ 4294967295) (hR : ∀ k, k < rn → rowR k = [.i .i64 (rv k)]) (hn : n < 1000) :
    ∀ (m k : Nat) (env : Env) (h : H) (out : V) (L : List (Int × Int)) (f : Nat), Grp n0 h → Reads n0 h l 5 n rowL → Reads n0 h r 1 rn rowR → env.get 0 = some l → env.get 1 = some r → env.get 10 = some l → env.get 11 = some (.i .i64 (.ofNat n)) → env.get 12 = some (.i .i64 (.ofNat k)) → env.get 5 = some out →
      Own n0 h out 2 (pairs L) → L.length ≤ k → k + m = n → m < f →
      ∃ env' h' out', iter (evK call lf c6_25) f env h = some (.exit 0, env', h') ∧ env'.get 5 = some out' ∧ Grp n0 h' ∧ Keep n0 h h' ∧ Own n0 h' out' 2 (pairs (L ++ irqs xs rv rn k m)) := by
  intro m
  induction m with
  | zero =>
    intro k env h out L f g rl rr h0 h1 h10 h11 h12 h5 o hl hk hf
    obtain ⟨f, rfl⟩ : ∃ g, f = g + 1 := ⟨f - 1, by omega⟩
    have e6 := op_lss (a := k) (b := n)
    rw [decide_eq_false (by omega)] at e6
    have key : ∃ env', iter (evK call lf c6_25) (f + 1) env h = some (.exit 0, env', h) ∧ env'.get 5 = some out := by
      simp [-Int.ofNat_eq_natCast, iter, c6_25, c6_3, c6_24, c6_4, evK, evOps, wantG, evC, evP, O.ev, putE, T.get_set, h11, h12, h5, evBin, intOps, ksame_self, e6]
    obtain ⟨env', q0, q1⟩ := key
    exact ⟨env', h, out, q0, q1, g, Keep.refl _ _, by simpa [irqs] using o⟩
  | succ m ih =>
    intro k env h out L f g rl rr h0 h1 h10 h11 h12 h5 o hl hk hf
    obtain ⟨f, rfl⟩ : ∃ g, f = g + 1 := ⟨f - 1, by omega⟩
    obtain ⟨env1, h2, out1, e, g0, g1, g10, g11, g12, g5, gg, kk, oo⟩ := step6 (call := call) (lf := lf) g rl rr hL hR h0 h1 h10 h11 h12 h5 o hl (by omega) hn
    obtain ⟨env2, h3, out2, e2, q5, qg, qk, qo⟩ := ih (k + 1) env1 h2 out1 _ f gg (rl.keep kk) (rr.keep kk) g0 g1 g10 g11 g12 g5 oo (by have := irq_len (xs k) (if k < rn then rv k else 0); rw [List.length_append]; omega) (by omega) (by omega)
    exact ⟨env2, h3, out2, by simp only [iter, e, e2], q5, qg, kk.trans qk, by rw [List.append_assoc] at qo; exact qo⟩

theorem run6 {call : Go.Ev.Call} {h : H} {l r : V} {n0 n rn : Nat} {rowL rowR : Nat → List V} {xs : Nat → Nat} {rv : Nat → Int} (hL : ∀ k, k < n → ∃ c1 c2 c3 c4, rowL k = [.i .u32 (.ofNat (xs k)), c1, c2, c3, c4] ∧ xs k ≤ 4294967295) (hR : ∀ k, k < rn → rowR k = [.i .i64 (rv k)]) (hn : n < 1000)
    (g : Grp n0 h) (rl : Reads n0 h l 5 n rowL) (rr : Reads n0 h r 1 rn rowR) :
    ∃ h' out', runF call 100000 d6' [l, r] h = some (out', h') ∧ Grp n0 h' ∧ Keep n0 h h' ∧ Own n0 h' out' 2 (pairs (irqs xs rv rn 0 n)) := by
  have hl := rl.1
  obtain ⟨env', h', out', e, q5, qg, qk, qo⟩ := loop6 (call := call) (lf := 100000) hL hR hn n 0 ((((((envOf [l, r] 0 .e).set 4 .sn).set 5 .sn).set 10 l).set 11 (.i .i64 (.ofNat n))).set 12 (.i .i64 0)) h .sn [] 100000 g rl rr
    (by simp [envOf, T.get_set]) (by simp [envOf, T.get_set]) (by simp [T.get_set]) (by simp [T.get_set]) (by simp [T.get_set]) (by simp [T.get_set]) (.inl ⟨rfl, rfl⟩) (Nat.zero_le _) (by omega) (by omega)
  simp only [envOf] at e
  have key : runF call 100000 d6' [l, r] h = some (out', h') := by
    simp [-Int.ofNat_eq_natCast, runF, d6', c6_33, c6_0, c6_32, c6_1, c6_31, c6_28, c6_2, c6_27, c6_26, c6_30, c6_29, evK, evOps, wantG, evC, evP, O.ev, putE, T.get_set, envOf, evLen_eq, hl, e, q5, resV, R.ev, packR, len]
  exact ⟨h', out', key, qg, qk, qo⟩

/-! cotterelref50.Irqs -/

theorem step7 {call : Go.Ev.Call} {lf : Nat} {h : H} {env : Env} {l r out : V} {n0 n rn k : Nat} {rowL rowR : Nat → List V} {xs : Nat → Nat} {rv : Nat → Int} {L : List (Int × Int)} (g : Grp n0 h) (rl : Reads n0 h l 5 n rowL) (rr : Reads n0 h r 1 rn rowR)
    (hL : ∀ k, k < n → ∃ c1 c2 c3 c4, rowL k = [.i .u32 (.ofNat (xs k)), c1, c2, c3, c4] ∧ xs k ≤ 4294967295) (hR : ∀ k, k < rn → rowR k = [.i .i64 (rv k)])
    (h0 : env.get 0 = some l) (h1 : env.get 1 = some r) (h6 : env.get 6 = some (.i .i64 (.ofNat k))) (h5 : env.get 5 = some out)
    (o : Own n0 h out 2 (pairs L)) (hLl : L.length ≤ k) (hk : k < n) (hn : n < 1000) :
    ∃ env' h' out', evK call lf c7_20 env h = some (.nrm, env', h') ∧ env'.get 0 = some l ∧ env'.get 1 = some r ∧ env'.get 6 = some (.i .i64 (.ofNat (k + 1))) ∧ env'.get 5 = some out' ∧
      Grp n0 h' ∧ Keep n0 h h' ∧ Own n0 h' out' 2 (pairs (L ++ irq (xs k) (if k < rn then rv k else 0))) := by
  obtain ⟨b1, o1, _, i1, _, c1⟩ := rl.2 k hk
  obtain ⟨y1, y2, y3, y4, hrow, hx⟩ := hL k hk
  rw [hrow] at c1
  have ld := c1.ld1 (j := 0) rfl
  rw [Nat.add_zero] at ld
  have hl := rl.1
  have hr := rr.1
  have e3 := op_inc (k := k) (by omega)
  have e6 := op_lss (a := k) (b := n)
  rw [decide_eq_true hk] at e6
  have e7 := op_rem8 (x := xs k)
  have e8 : intOp .neq .u32 (.ofNat (xs k % 8)) 0 = some (.b (decide (xs k % 8 ≠ 0))) := op_neq (a := xs k % 8) (b := 0) (k := .u32)
  have e9 := op_lss (a := k) (b := rn)
  have app : ∀ z : Int, ∃ v' h3, (h.alloc [.i .i64 z, .i .u32 (.ofNat (xs k % 8))]).append out 2 16 1 [.i .i64 z, .i .u32 (.ofNat (xs k % 8))] = some (v', h3) ∧ Grp n0 h3 ∧ Keep n0 h h3 ∧ Own n0 h3 v' 2 (pairs (L ++ [(z, .ofNat (xs k % 8))])) := by
    intro z
    obtain ⟨v', h3, a1, a2, a3, a4⟩ := append_own (n := 1) (bytes := 16) (new := [.i .i64 z, .i .u32 (.ofNat (xs k % 8))]) (g.alloc _) (o.alloc [.i .i64 z, .i .u32 (.ofNat (xs k % 8))]) (by omega) rfl (pairs_nz [(z, _)]) (fun q hq => by rw [pairs_len] at hq; omega)
    exact ⟨v', h3, a1, a2, (Keep.alloc g _).trans a3, by rw [pairs_append]; exact a4⟩
  have src : ∀ z : Int, srcCells (h.alloc [.i .i64 z, .i .u32 (.ofNat (xs k % 8))]) 2 (.sl h.nb 0 1 1 2 true) = some (1, [.i .i64 z, .i .u32 (.ofNat (xs k % 8))]) := fun z => src_new rfl (pairs_nz [(z, _)])
  by_cases hx8 : xs k % 8 = 0
  · have hirq : irq (xs k) (if k < rn then rv k else 0) = [] := by simp [irq, hx8]
    rw [hirq, List.append_nil]
    rw [decide_eq_false (by simp [hx8])] at e8
    have key : ∃ env', evK call lf c7_20 env h = some (.nrm, env', h) ∧ env'.get 0 = some l ∧ env'.get 1 = some r ∧ env'.get 6 = some (.i .i64 (.ofNat (k + 1))) ∧ env'.get 5 = some out := by
      by_cases hkr : k < rn
      · rw [decide_eq_true hkr] at e9
        obtain ⟨b3, o3, _, i3, _, c3⟩ := rr.2 k hkr
        rw [hR k hkr] at c3
        have d3 := c3.ld1 (j := 0) rfl
        rw [Nat.add_zero] at d3
        simp [-Int.ofNat_eq_natCast, c7_20, c7_5, c7_3, c7_4, c7_19, c7_17, c7_16, c7_6, c7_15, c7_10, c7_7, c7_9, c7_8, c7_14, c7_11, c7_13, c7_18, evK, evOps, wantG, evC, evP, evL, O.ev, O.nat, natOf, putE, T.get_set, h0, h1, h6, h5, evLen_eq, hl, hr, evBin, intOps, ksame_self, e6, evIxS_eq, i1, i3, evFa, evLd1, ld, d3, e7, e8, e9, e3]
      · rw [decide_eq_false hkr] at e9
        simp [-Int.ofNat_eq_natCast, c7_20, c7_5, c7_3, c7_4, c7_19, c7_17, c7_16, c7_6, c7_15, c7_10, c7_7, c7_9, c7_14, c7_11, c7_13, c7_18, evK, evOps, wantG, evC, evP, evL, O.ev, O.nat, natOf, putE, T.get_set, h0, h1, h6, h5, evLen_eq, hl, hr, evBin, intOps, ksame_self, e6, evIxS_eq, i1, evFa, evLd1, ld, e7, e8, e9, e3]
    obtain ⟨env', q0, q1, q2, q3, q4⟩ := key
    exact ⟨env', h, out, q0, q1, q2, q3, q4, g, Keep.refl _ _, o⟩
  · have hirq : ∀ z : Int, irq (xs k) z = [(z, .ofNat (xs k % 8))] := fun z => by simp [irq, hx8]
    rw [decide_eq_true hx8] at e8
    by_cases hkr : k < rn
    · rw [if_pos hkr, hirq]
      rw [decide_eq_true hkr] at e9
      obtain ⟨b3, o3, _, i3, _, c3⟩ := rr.2 k hkr
      rw [hR k hkr] at c3
      have d3 := c3.ld1 (j := 0) rfl
      rw [Nat.add_zero] at d3
      obtain ⟨v', h3, a1, a2, a3, a4⟩ := app (rv k)
      have s1 := src (rv k)
      have key : ∃ env', evK call lf c7_20 env h = some (.nrm, env', h3) ∧ env'.get 0 = some l ∧ env'.get 1 = some r ∧ env'.get 6 = some (.i .i64 (.ofNat (k + 1))) ∧ env'.get 5 = some v' := by
        simp [-Int.ofNat_eq_natCast, c7_20, c7_5, c7_3, c7_4, c7_19, c7_17, c7_16, c7_6, c7_15, c7_10, c7_7, c7_9, c7_8, c7_14, c7_11, c7_13, c7_12, c7_18, evK, evOps, wantG, evC, evP, evL, evA, evE, O.ev, O.nat, natOf, V.cells?, putE, T.get_set, h0, h1, h6, h5, evLen_eq, hl, hr, evBin, intOps, ksame_self, e6, evIxS_eq, i1, i3, evFa, evLd1, ld, d3, e7, e8, e9, e3, len, AR.at, evBuild, fillP, putN, ble_dec, beq_dec, evBuildSl, evAppS, s1, a1]
      obtain ⟨env', q0, q1, q2, q3, q4⟩ := key
      exact ⟨env', h3, v', q0, q1, q2, q3, q4, a2, a3, a4⟩
    · rw [if_neg hkr, hirq]
      rw [decide_eq_false hkr] at e9
      obtain ⟨v', h3, a1, a2, a3, a4⟩ := app 0
      have s1 := src 0
      have key : ∃ env', evK call lf c7_20 env h = some (.nrm, env', h3) ∧ env'.get 0 = some l ∧ env'.get 1 = some r ∧ env'.get 6 = some (.i .i64 (.ofNat (k + 1))) ∧ env'.get 5 = some v' := by
        simp [-Int.ofNat_eq_natCast, c7_20, c7_5, c7_3, c7_4, c7_19, c7_17, c7_16, c7_6, c7_15, c7_10, c7_7, c7_9, c7_14, c7_11, c7_13, c7_12, c7_18, evK, evOps, wantG, evC, evP, evL, evA, evE, O.ev, O.nat, natOf, V.cells?, putE, T.get_set, h0, h1, h6, h5, evLen_eq, hl, hr, evBin, intOps, ksame_self, e6, evIxS_eq, i1, evFa, evLd1, ld, e7, e8, e9, e3, len, AR.at, evBuild, fillP, putN, ble_dec, beq_dec, evBuildSl, evAppS, s1, a1]
      obtain ⟨env', q0, q1, q2, q3, q4⟩ := key
      exact ⟨env', h3, v', q0, q1, q2, q3, q4, a2, a3, a4⟩

theorem loop7 {call : Go.Ev.Call} {lf : Nat} {l r : V} {n0 n rn : Nat} {rowL rowR : Nat → List V} {xs : Nat → Nat} {rv : Nat → Int} (hL : ∀ k, k < n → ∃ c1 c2 c3 c4, rowL k = [.i .u32 (.ofNat (xs k)), c1, c2, c3, c4] ∧ xs k ≤ 4294967295) (hR : ∀ k, k < rn → rowR k = [.i .i64 (rv k)]) (hn : n < 1000) :
    ∀ (m k : Nat) (env : Env) (h : H) (out : V) (L : List (Int × Int)) (f : Nat), Grp n0 h → Reads n0 h l 5 n rowL → Reads n0 h r 1 rn rowR → env.get 0 = some l → env.get 1 = some r → env.get 6 = some (.i .i64 (.ofNat k)) → env.get 5 = some out →
      Own n0 h out 2 (pairs L) → L.length ≤ k → k + m = n → m < f →
      ∃ env' h' out', iter (evK call lf c7_20) f env h = some (.exit 0, env', h') ∧ env'.get 5 = some out' ∧ Grp n0 h' ∧ Keep n0 h h' ∧ Own n0 h' out' 2 (pairs (L ++ irqs xs rv rn k m)) := by
  intro m
  induction m with
  | zero =>
    intro k env h out L f g rl rr h0 h1 h6 h5 o hl hk hf
    obtain ⟨f, rfl⟩ : ∃ g, f = g + 1 := ⟨f - 1, by omega⟩
    have e6 := op_lss (a := k) (b := n)
    rw [decide_eq_false (by omega)] at e6
    have hl' := rl.1
    have key : ∃ env', iter (evK call lf c7_20) (f + 1) env h = some (.exit 0, env', h) ∧ env'.get 5 = some out := by
      simp [-Int.ofNat_eq_natCast, iter, c7_20, c7_5, c7_3, c7_4, evK, evOps, wantG, evC, evP, O.ev, putE, T.get_set, h0, h6, h5, evLen_eq, hl', evBin, intOps, ksame_self, e6]
    obtain ⟨env', q0, q1⟩ := key
    exact ⟨env', h, out, q0, q1, g, Keep.refl _ _, by simpa [irqs] using o⟩
  | succ m ih =>
    intro k env h out L f g rl rr h0 h1 h6 h5 o hl hk hf
    obtain ⟨f, rfl⟩ : ∃ g, f = g + 1 := ⟨f - 1, by omega⟩
    obtain ⟨env1, h2, out1, e, g0, g1, g6, g5, gg, kk, oo⟩ := step7 (call := call) (lf := lf) g rl rr hL hR h0 h1 h6 h5 o hl (by omega) hn
    obtain ⟨env2, h3, out2, e2, q5, qg, qk, qo⟩ := ih (k + 1) env1 h2 out1 _ f gg (rl.keep kk) (rr.keep kk) g0 g1 g6 g5 oo (by have := irq_len (xs k) (if k < rn then rv k else 0); rw [List.length_append]; omega) (by omega) (by omega)
    exact ⟨env2, h3, out2, by simp only [iter, e, e2], q5, qg, kk.trans qk, by rw [List.append_assoc] at qo; exact qo⟩

theorem run7 {call : Go.Ev.Call} {h : H} {l r : V} {n0 n rn : Nat} {rowL rowR : Nat → List V} {xs : Nat → Nat} {rv : Nat → Int} (hL : ∀ k, k < n → ∃ c1 c2 c3 c4, rowL k = [.i .u32 (.ofNat (xs k)), c1, c2, c3, c4] ∧ xs k ≤ 4294967295) (hR : ∀ k, k < rn → rowR k = [.i .i64 (rv k)]) (hn : n < 1000)
    (g : Grp n0 h) (rl : Reads n0 h l 5 n rowL) (rr : Reads n0 h r 1 rn rowR) :
    ∃ h' out', runF call 100000 d7' [l, r] h = some (out', h') ∧ Grp n0 h' ∧ Keep n0 h h' ∧ Own n0 h' out' 2 (pairs (irqs xs rv rn 0 n)) := by
  have ka := Keep.alloc g []
  obtain ⟨env', h', out', e, q5, qg, qk, qo⟩ := loop7 (call := call) (lf := 100000) hL hR hn n 0 (((((envOf [l, r] 0 .e).set 4 .sn).set 8 (.sl h.nb 0 0 0 2 true)).set 5 (.sl h.nb 0 0 0 2 true)).set 6 (.i .i64 0)) (h.alloc []) (.sl h.nb 0 0 0 2 true) [] 100000 (g.alloc _) (rl.keep ka) (rr.keep ka)
    (by simp [envOf, T.get_set]) (by simp [envOf, T.get_set]) (by simp [T.get_set]) (by simp [T.get_set]) (.inr ⟨h.nb, h.nb, 0, true, rfl, alloc_new, ⟨g.nb, Nat.lt_succ_self _⟩, ⟨g.nb, Nat.lt_succ_self _⟩, rfl, fun c hc => by cases hc⟩) (Nat.zero_le _) (by omega) (by omega)
  simp only [envOf] at e
  have key : runF call 100000 d7' [l, r] h = some (out', h') := by
    simp [-Int.ofNat_eq_natCast, runF, d7', c7_28, c7_0, c7_27, c7_1, c7_26, c7_23, c7_2, c7_22, c7_21, c7_25, c7_24, evK, evOps, wantG, evC, evP, evA, evBuildSl, fillP, AR.at, O.ev, putE, T.get_set, envOf, e, q5, resV, R.ev, packR, len]
  exact ⟨h', out', key, qg, ka.trans qk, by simpa using qo⟩

/-! the two Plains -/

def plainV : List V := [.i .u32 0, .i .u32 0, .i .i64 0, .b true, .i .i64 0]

theorem run8 {call : Go.Ev.Call} {h : H} {n0 : Nat} (g : Grp n0 h) : ∃ h', runF call 100000 d8' [] h = some (.a plainV, h') ∧ Grp n0 h' ∧ Keep n0 h h' := by
  obtain ⟨h2, hst, _, g2, k2, ca, _⟩ := stn_fresh g (z := [(.i .u32 0), (.i .u32 0), (.i .i64 0), (.b false), (.i .i64 0)]) (cs := [.i .u32 0, .i .u32 0, .i .i64 0, .b true, .i .i64 0]) rfl (by intro c hc; simp at hc; rcases hc with rfl | rfl | rfl | rfl <;> intro e <;> cases e)
  have ld : h2.ldn h.nb 0 5 = some [.i .u32 0, .i .u32 0, .i .i64 0, .b true, .i .i64 0] := ca.ldn
  refine ⟨h2, ?_, g2, k2⟩
  simp [-Int.ofNat_eq_natCast, runF, d8', c8_3, c8_0, c8_2, c8_1, evK, evOps, wantG, evC, evP, evA, evE, evBuild, fillP, V.cells?, putN, ble_dec, beq_dec, AR.at, O.ev, O.cells, putE, T.get_set, envOf, evStn, hst, evLdn, ld, resV, R.ev, packR, len, plainV]

theorem run9 {call : Go.Ev.Call} {h : H} {n0 : Nat} (g : Grp n0 h) : ∃ h', runF call 100000 d9' [] h = some (.a plainV, h') ∧ Grp n0 h' ∧ Keep n0 h h' := by
  obtain ⟨h2, hst, _, g2, k2, ca, _⟩ := stn_fresh g (z := [(.i .u32 0), (.i .u32 0), (.i .i64 0), (.b false), (.i .i64 0)]) (cs := [.i .u32 0, .i .u32 0, .i .i64 0, .b true, .i .i64 0]) rfl (by intro c hc; simp at hc; rcases hc with rfl | rfl | rfl | rfl <;> intro e <;> cases e)
  have ld : h2.ldn h.nb 0 5 = some [.i .u32 0, .i .u32 0, .i .i64 0, .b true, .i .i64 0] := ca.ldn
  refine ⟨h2, ?_, g2, k2⟩
  simp [-Int.ofNat_eq_natCast, runF, d9', c9_3, c9_0, c9_2, c9_1, evK, evOps, wantG, evC, evP, evA, evE, evBuild, fillP, V.cells?, putN, ble_dec, beq_dec, AR.at, O.ev, O.cells, putE, T.get_set, envOf, evStn, hst, evLdn, ld, resV, R.ev, packR, len, plainV]

/-! the law -/

def fieldsL : List V := [.i .i64 0, .i .i64 7, .i .i64 11, .i .i64 14, .i .i64 14, .i .i64 9, .i .i64 7, .i .i64 9, .i .i64 10, .i .i64 2, .i .i64 0, .i .i64 3]

def FieldsAt (h : H) : Prop := ∃ k, h.bl.get 0 = some k ∧ V.eqvs fieldsL (takeN k.cells (len fieldsL)) = true

theorem FieldsAt.keep {n0 : Nat} {h h' : H} (hn : 0 < n0) (k : Keep n0 h h') (f : FieldsAt h) : FieldsAt h' := by
  obtain ⟨x, h1, h2⟩ := f
  exact ⟨x, by rw [k.get 0 hn]; exact h1, h2⟩

/-- the call of 'awake' -/
def callA : Go.Ev.Call := closedCall 4 [(0, fieldsL)]

theorem callA_at {h : H} (f : FieldsAt h) : callA 4 [] h = some (.b true, h) := by
  obtain ⟨k, h1, h2⟩ := f
  simp [callA, closedCall, h1, h2]

theorem callA_not {f : Nat} {args : List V} {h : H} (hf : f ≠ 4) : callA f args h = none := by
  unfold callA closedCall
  split
  · simp [beq_dec, hf]
  · rfl

/-- the calls of the law's own functions -/
def callL : Go.Ev.Call := evM callA tabL.get 100000 2

theorem callL_run {f : Nat} {F : F} {args : List V} {h : H} (hf : f ≠ 4) (ht : tabL.get f = some F) : callL f args h = runF (evM callA tabL.get 100000 1) 100000 F args h := by
  simp only [callL, evM, callA_not hf, ht]

theorem callL_awake {h : H} (f : FieldsAt h) : callL 4 [] h = some (.b true, h) := by
  simp only [callL, evM, callA_at f]

theorem main_early {h : H} {l r : V} {n rn : Nat} (hl : lenV l = some (.i .i64 (.ofNat n))) (hr : lenV r = some (.i .i64 (.ofNat rn))) (f : FieldsAt h) (hn : 400 < n ∨ 400 < rn) : runF callL 100000 d3' [l, r] h = some (.b true, h) := by
  have e1 : intOp .gtr .i64 (.ofNat n) 400 = some (.b (decide (400 < n))) := op_gtr (a := n) (b := 400)
  have e2 : intOp .gtr .i64 (.ofNat rn) 400 = some (.b (decide (400 < rn))) := op_gtr (a := rn) (b := 400)
  have c4 := callL_awake f
  by_cases h1 : 400 < n
  · rw [decide_eq_true h1] at e1
    simp [-Int.ofNat_eq_natCast, runF, d3', c3_9, c3_0, c3_8, c3_5, c3_1, c3_4, c3_3, c3_2, evK, evOps, wantG, evC, evP, evE, evCall, evs, O.ev, putE, T.get_set, envOf, evLen_eq, hl, evBin, intOps, ksame_self, e1, evPick, c4, resV, R.ev, packR, len]
  · have h2 : 400 < rn := by omega
    rw [decide_eq_false h1] at e1
    rw [decide_eq_true h2] at e2
    simp [-Int.ofNat_eq_natCast, runF, d3', c3_9, c3_0, c3_8, c3_5, c3_1, c3_4, c3_3, c3_2, evK, evOps, wantG, evC, evP, evE, evCall, evs, O.ev, putE, T.get_set, envOf, evLen_eq, hl, hr, evBin, intOps, ksame_self, e1, e2, evPick, c4, resV, R.ev, packR, len]

theorem main_whole {h : H} {l r : V} {n0 n rn : Nat} {rowL rowR : Nat → List V} {xs : Nat → Nat} {rv : Nat → Int} (hL : ∀ k, k < n → ∃ c1 c2 c3 c4, rowL k = [.i .u32 (.ofNat (xs k)), c1, c2, c3, c4] ∧ xs k ≤ 4294967295) (hR : ∀ k, k < rn → rowR k = [.i .i64 (rv k)])
    (g : Grp n0 h) (h0 : 0 < n0) (rl : Reads n0 h l 5 n rowL) (rr : Reads n0 h r 1 rn rowR) (f : FieldsAt h) (hn : n ≤ 400) (hrn : rn ≤ 400) : ∃ h', runF callL 100000 d3' [l, r] h = some (.b true, h') := by
  have e1 : intOp .gtr .i64 (.ofNat n) 400 = some (.b (decide (400 < n))) := op_gtr (a := n) (b := 400)
  have e2 : intOp .gtr .i64 (.ofNat rn) 400 = some (.b (decide (400 < rn))) := op_gtr (a := rn) (b := 400)
  rw [decide_eq_false (by omega)] at e1 e2
  have hl := rl.1
  have hr := rr.1
  obtain ⟨h1, o6, c6, g1, k1, own6⟩ := run6 (call := evM callA tabL.get 100000 1) hL hR (by omega) g rl rr
  obtain ⟨h2, o7, c7, g2, k2, own7⟩ := run7 (call := evM callA tabL.get 100000 1) hL hR (by omega) g1.lift ((rl.keep k1).mono g1.nb) ((rr.keep k1).mono g1.nb)
  have h01 : 0 < h1.nb := by have := g1.nb; omega
  have own6' := own6.keep k2
  generalize hI : irqs xs rv rn 0 n = I at own6 own7 own6'
  have hIl : I.length ≤ n := by rw [← hI]; exact irqs_len _ _ _ _ _
  have rd6 := own6'.reads (n := I.length) (row := fun k => rowP (I.getD k (0, 0))) (by omega) (pairs_len I) (fun k hk => ⟨pairs_row I k hk, rfl⟩)
  have rd7 := own7.reads (n := I.length) (row := fun k => rowP (I.getD k (0, 0))) (by omega) (pairs_len I) (fun k hk => ⟨pairs_row I k hk, rfl⟩)
  have c5 := same_irqs (call := evM callA tabL.get 100000 1) rd6 rd7 (fun k _ => ⟨_, rfl⟩) (by omega)
  obtain ⟨h3, c8, g3, k3⟩ := run8 (call := evM callA tabL.get 100000 1) g2
  obtain ⟨h4, c9, g4, k4⟩ := run9 (call := evM callA tabL.get 100000 1) g3
  have c4 := callL_awake ((((f.keep h0 k1).keep h01 k2).keep h01 k3).keep h01 k4)
  rw [← callL_run (f := 6) (by omega) rfl] at c6
  rw [← callL_run (f := 7) (by omega) rfl] at c7
  rw [← callL_run (f := 5) (by omega) rfl] at c5
  rw [← callL_run (f := 8) (by omega) rfl] at c8
  rw [← callL_run (f := 9) (by omega) rfl] at c9
  refine ⟨h4, ?_⟩
  simp [-Int.ofNat_eq_natCast, runF, d3', c3_9, c3_0, c3_8, c3_5, c3_1, c3_4, c3_7, c3_6, evK, evOps, wantG, evC, evP, evE, evCall, evs, O.ev, O.cells, putE, T.get_set, envOf, evLen_eq, hl, hr, evBin, intOps, ksame_self, e1, e2, evPick, c4, c5, c6, c7, c8, c9, evEqA, plainV, eqCells, eqCell, eqB_self, resV, R.ev, packR, len]

end
end Go.Proofs.YtfahdklcgidmmaaGreatDoor.Run
