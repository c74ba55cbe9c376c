/- A part of the evaluator and of the proof that its word holds in the model (EvPure4). -/
import Derived.Test.YtfahdklcgidmmaaGreatDoorEvPure3
namespace Go.Ev

section
variable {P : Program} {G : List Nat} {nt : Nat} {φ : Phi} {env : Env} {a : Act} {W : World}

theorem p_pick (r : REnv nt φ env a.tmps) (g : GOK G φ) {c x y : Operand} {pc px py : O} (hc : toO G c = some pc) (hx : toO G x = some px) (hy : toO G y = some py) {v : V} (hv : evPick pc px py env = some v) :
    ∃ z, (do pure (Next.value (if ← asBool (a.eval c) then a.eval x else a.eval y)) : Sem Next).run P W = .ok (.value z) W ∧ RV φ v z := by
  unfold evPick at hv
  split at hv
  · rename_i b hb
    have hr := toO_ok hc r g hb
    simp only [RV] at hr
    rw [hr]
    cases b
    · exact ⟨_, rfl, toO_ok hy r g hv⟩
    · exact ⟨_, rfl, toO_ok hx r g hv⟩
  · cases hv

theorem p_nil (r : REnv nt φ env a.tmps) (g : GOK G φ) {x : Operand} {px : O} (hx : toO G x = some px) {v : V} (hv : evNil px env = some v) :
    ∃ q, a.eval x = .pointer (some q) ∧ RV φ v (.pointer (some q)) := by
  unfold evNil at hv
  split at hv
  · rename_i b o hb
    have hr := toO_ok hx r g hb
    cases hv
    obtain ⟨q, hq, he⟩ := (show ∃ q, φ b = some q ∧ a.eval x = .pointer (some ⟨q.1, q.2.1 + o, none⟩) by simpa only [RV] using hr)
    exact ⟨_, he, by rw [← he]; exact hr⟩
  · cases hv

theorem p_fa (r : REnv nt φ env a.tmps) (g : GOK G φ) {t : TypeId} {x : Operand} {i : Nat} {c : PC} (h : cP P G (.fieldAddr t x i) = some c) {v : V} (hv : evP c env = some v) :
    ∃ z, (Instr.fieldAt t (a.eval x) i).run P W = .ok z W ∧ RV φ v z := by
  simp only [cP] at h
  split at h
  · cases h
  rename_i fs hfs
  split at h
  · cases h
  rename_i f hf
  split at h
  · rename_i n hn
    split at h
    · rename_i px hpx
      cases h
      simp only [evP, evFa] at hv
      split at hv
      · rename_i b o hb
        cases hv
        have hr := toO_ok hpx r g hb
        simp only [RV] at hr
        obtain ⟨q, hq, he⟩ := hr
        have ht : P.underlying t = some (.struct fs) := by
          unfold fieldsT at hfs
          split at hfs
          · rename_i fs' h'; cases hfs; exact h'
          · cases hfs
        refine ⟨.pointer (some ⟨q.1, q.2.1 + o + f.offset, none⟩), ?_, ?_⟩
        · rw [he]
          simp only [Instr.fieldAt, Sem.run_bind, run_underlying ht, Result.andThen_ok, hf, Instr.sureAddr, Sem.run_pure, fieldPlace, run_sizeOf hn]
          simp [add_off]
        · simp only [RV]
          exact ⟨q, hq, by simp [Nat.add_assoc]⟩
      · cases hv
    · cases h
  · cases h

theorem run_part_agg {t : TypeId} {n : Nat} (ha : aggT P t = some true) (hs : sizeT P t = some n) (cs : Array Value) (off : Nat) (W : World) :
    (part t cs off).run P W = .ok (.agg (cs.extract off (off + n))) W := by
  simp [part, run_isAgg ha, run_sizeOf hs]

theorem run_part_one {t : TypeId} (ha : aggT P t = some false) (cs : Array Value) (off : Nat) {v : Value} (hv : cs[off]? = some v) (W : World) :
    (part t cs off).run P W = .ok v W := by
  simp [part, run_isAgg ha, hv]

theorem RVs.extract {cs : List V} {A : Array Value} (h : RVs φ cs A.toList) (o n : Nat) : RVs φ (takeN (dropN cs o) n) (A.extract o (o + n)).toList := by
  rw [takeN_eq, dropN_eq]
  have := (h.drop o).take n
  simpa [Array.toList_extract, List.extract_eq_take_drop] using this

theorem one_extract {cs : List V} (h : cs.all one = true) (o n : Nat) : (takeN (dropN cs o) n).all one = true := by
  rw [takeN_eq, dropN_eq]
  refine all_of_get fun j v hv => ?_
  rw [List.getElem?_take] at hv
  split at hv
  · rw [List.getElem?_drop] at hv; exact get_of_all h hv
  · cases hv

theorem p_field (r : REnv nt φ env a.tmps) (g : GOK G φ) {t : TypeId} {x : Operand} {i : Nat} {c : PC} (h : cP P G (.field t x i) = some c) {v : V} (hv : evP c env = some v) :
    ∃ z, (Instr.field t (a.eval x) i).run P W = .ok z W ∧ RV φ v z := by
  simp only [cP] at h
  split at h
  · cases h
  rename_i fs hfs
  have ht : P.underlying t = some (.struct fs) := by
    unfold fieldsT at hfs
    split at hfs
    · rename_i fs' h'; cases hfs; exact h'
    · cases hfs
  split at h
  · cases h
  rename_i f hf
  split at h
  · cases h
  rename_i px hpx
  split at h
  · rename_i ha
    split at h
    · rename_i n hn
      cases h
      simp only [evP, evFldn] at hv
      split at hv
      · rename_i cs hcs
        simp only [cond_eq_ite, Nat.ble_eq] at hv
        split at hv
        · cases hv
          obtain ⟨A, he, hr, ho⟩ := cells_ok (a := a) r g hpx hcs
          refine ⟨.agg (A.extract f.offset (f.offset + n)), ?_, ?_⟩
          · rw [he]
            simp only [Instr.field, Sem.run_bind, run_underlying ht, Result.andThen_ok, hf, asAgg, Sem.run_pure, run_part_agg ha hn]
          · simp only [RV]
            exact ⟨_, rfl, hr.extract _ _, one_extract ho _ _⟩
        · cases hv
      · cases hv
    · cases h
  · rename_i ha
    cases h
    simp only [evP, evFld1] at hv
    split at hv
    · rename_i cs hcs
      obtain ⟨A, he, hr, ho⟩ := cells_ok (a := a) r g hpx hcs
      rw [nth_eq] at hv
      obtain ⟨z, hz, hrz⟩ := hr.get hv
      have hz' : A[f.offset]? = some z := by simpa using hz
      refine ⟨z, ?_, hrz⟩
      rw [he]
      simp only [Instr.field, Sem.run_bind, run_underlying ht, Result.andThen_ok, hf, asAgg, Sem.run_pure, run_part_one ha A _ hz']
    · cases hv
  · cases h

theorem p_indexAddr (r : REnv nt φ env a.tmps) (g : GOK G φ) {t : TypeId} {x i : Operand} {c : PC} (h : cP P G (.indexAddr t x i) = some c) {v : V} (hv : evP c env = some v) :
    ∃ z, (Instr.indexAt t (a.eval x) (a.eval i)).run P W = .ok z W ∧ RV φ v z := by
  simp only [cP] at h
  split at h
  · rename_i n e ht
    split at h
    · cases h
    rename_i s hs
    obtain ⟨p, q, hp, hq, rfl⟩ := c2_ok h
    simp only [evP, evIxA] at hv
    split at hv
    · rename_i b o hb
      split at hv
      · rename_i m hm
        simp only [cond_eq_ite, Nat.ble_eq] at hv
        split at hv
        · rename_i hlt
          cases hv
          have hr := toO_ok hp r g hb
          obtain ⟨k, hk⟩ := nat_ok (a := a) r g hq hm
          simp only [RV] at hr
          obtain ⟨y, hy, he⟩ := hr
          refine ⟨.pointer (some ⟨y.1, y.2.1 + o + m * s, none⟩), ?_, ?_⟩
          · rw [he, hk]
            have hb1 : (0 : Int) ≤ (m : Int) ∧ (m : Int) < (n : Int) := by omega
            simp [Instr.indexAt, asIntOf, run_underlying ht, Instr.sureAddr, run_sizeOf hs, add_off]
            omega
          · simp only [RV]
            exact ⟨y, hy, by simp [Nat.add_assoc]⟩
        · cases hv
      · cases hv
    · cases hv
  · rename_i e ht
    split at h
    · cases h
    rename_i s hs
    obtain ⟨p, q, hp, hq, rfl⟩ := c2_ok h
    simp only [evP, evIxS] at hv
    split at hv
    · rename_i b o l cc sz' ex hb
      split at hv
      · rename_i m hm
        simp only [cond_eq_ite, Bool.and_eq_true, Nat.beq_eq, Nat.ble_eq] at hv
        split at hv
        · rename_i hc
          obtain ⟨rfl, hlt⟩ := hc
          cases hv
          have hr := toO_ok hp r g hb
          obtain ⟨k, hk⟩ := nat_ok (a := a) r g hq hm
          simp only [RV] at hr
          obtain ⟨y, o', c', hy, he, hlc, hcc, hex, hsz, hat⟩ := hr
          obtain ⟨rfl, hat⟩ : o' = y.2.1 + o ∧ o + c' * s ≤ y.2.2 := by
            rcases hat with hat | hat
            · omega
            · exact hat
          refine ⟨.pointer (some ⟨y.1, y.2.1 + o + m * s, none⟩), ?_, ?_⟩
          · rw [he, hk]
            simp [Instr.indexAt, asIntOf, run_underlying ht, run_sizeOf hs, add_off]
            omega
          · simp only [RV]
            exact ⟨y, hy, by simp [Nat.add_assoc]⟩
        · cases hv
      · cases hv
    · cases hv
  · cases h

theorem p_index (r : REnv nt φ env a.tmps) (g : GOK G φ) {t : TypeId} {x i : Operand} {c : PC} (h : cP P G (.index t x i) = some c) {v : V} (hv : evP c env = some v) :
    ∃ z, (Instr.index t (a.eval x) (a.eval i)).run P W = .ok z W ∧ RV φ v z := by
  simp only [cP] at h
  split at h
  · rename_i n e ht
    split at h
    · cases h
    · rename_i ha
      split at h
      · cases h
      rename_i s hs
      obtain ⟨p, q, hp, hq, rfl⟩ := c2_ok h
      simp only [evP, evIdAn] at hv
      split at hv
      · rename_i cs hcs
        split at hv
        · rename_i m hm
          simp only [cond_eq_ite, Bool.and_eq_true, Nat.ble_eq] at hv
          split at hv
          · rename_i hc
            cases hv
            obtain ⟨A, he, hr, ho⟩ := cells_ok (a := a) r g hp hcs
            obtain ⟨k, hk⟩ := nat_ok (a := a) r g hq hm
            refine ⟨.agg (A.extract (m * s) (m * s + s)), ?_, ?_⟩
            · rw [he, hk]
              have h1 : (0 : Int) ≤ (m : Int) ∧ (m : Int) < (n : Int) := by omega
              simp [Instr.index, asIntOf, run_underlying ht, run_sizeOf hs, run_part_agg ha hs]
              omega
            · simp only [RV]
              exact ⟨_, rfl, hr.extract _ _, one_extract ho _ _⟩
          · cases hv
        · cases hv
      · cases hv
    · rename_i ha
      split at h
      · rename_i hs
        obtain ⟨p, q, hp, hq, rfl⟩ := c2_ok h
        simp only [evP, evIdA1] at hv
        split at hv
        · rename_i cs hcs
          split at hv
          · rename_i m hm
            simp only [cond_eq_ite, Nat.ble_eq] at hv
            split at hv
            · rename_i hc
              obtain ⟨A, he, hr, ho⟩ := cells_ok (a := a) r g hp hcs
              obtain ⟨k, hk⟩ := nat_ok (a := a) r g hq hm
              rw [nth_eq] at hv
              obtain ⟨z, hz, hrz⟩ := hr.get hv
              have hz' : A[m * 1]? = some z := by simpa using hz
              refine ⟨z, ?_, hrz⟩
              rw [he, hk]
              have h1 : (0 : Int) ≤ (m : Int) ∧ (m : Int) < (n : Int) := by omega
              have hrun := run_part_one ha A (m * 1) hz' W
              simp only [Instr.index, asIntOf, Sem.run_bind, Sem.run_pure, run_underlying ht, Result.andThen_ok, h1, and_self, if_true, run_sizeOf hs, Int.toNat_natCast, hrun]
            · cases hv
          · cases hv
        · cases hv
      · cases h
  · rename_i ht
    obtain ⟨p, q, hp, hq, rfl⟩ := c2_ok h
    simp only [evP, evIdStr] at hv
    split at hv
    · rename_i l hl
      split at hv
      · rename_i m hm
        split at hv
        · rename_i ch hch
          cases hv
          have hr := toO_ok hp r g hl
          obtain ⟨k, hk⟩ := nat_ok (a := a) r g hq hm
          simp only [RV] at hr
          obtain ⟨s, he, hs⟩ := hr
          rw [nth_eq, ← hs, List.getElem?_map] at hch
          obtain ⟨by_, hby, rfl⟩ := Option.map_eq_some_iff.1 hch
          refine ⟨.int .u8 by_.toNat, ?_, by simp [RV]⟩
          rw [he, hk]
          have hsz : m < s.size := by
            obtain ⟨hlt, _⟩ := List.getElem?_eq_some_iff.1 hby
            have : s.data.toList.length = s.size := by cases s; rfl
            omega
          have hget : s[m]? = some by_ := by
            obtain ⟨hlt, hv⟩ := List.getElem?_eq_some_iff.1 hby
            rw [getElem?_pos s m hsz]
            congr 1
          have h0 : (0 : Int) ≤ (m : Int) := by omega
          simp [Instr.index, asIntOf, run_underlying ht, hget]
        · cases hv
      · cases hv
    · cases hv
  · cases h

theorem p_un (r : REnv nt φ env a.tmps) (g : GOK G φ) {op : UnOp} {x : Operand} {p : O} (hp : toO G x = some p) {v : V} (hv : evUn op p env = some v) :
    ∃ z, (Op.unary op (a.eval x)).run P W = .ok z W ∧ RV φ v z := by
  unfold evUn at hv
  split at hv
  · rename_i b hb
    have hr := toO_ok hp r g hb
    simp only [RV] at hr
    rw [hr]
    split at hv
    · cases hv; exact ⟨_, rfl, by simp only [RV]⟩
    · cases hv
  · rename_i k n hb
    have hr := toO_ok hp r g hb
    simp only [RV] at hr
    rw [hr]
    split at hv
    · cases hv
      exact ⟨_, rfl, by simp only [RV, wrapB_eq]⟩
    · split at hv
      · rename_i m
        simp only [cond_eq_ite, Bool.and_eq_true, Bool.not_eq_true', Nat.ble_eq] at hv
        split at hv
        · rename_i hc
          cases hv
          refine ⟨.int k (Int.ofNat (kmax k - m)), ?_, by simp only [RV]⟩
          have hb : (k.max : Int) = Int.ofNat (kmax k) := by
            obtain ⟨h1, _⟩ := hc
            cases k <;> first | rfl | cases h1
          have hs : k.signed = false := by
            obtain ⟨h1, _⟩ := hc
            cases k <;> first | rfl | cases h1
          have e : bitB (aop .xor) (kmax k) m = some (kmax k - m) := by
            simp only [aop, bitB, Option.some.injEq]
            obtain ⟨q, hq, _⟩ := kmax_pow k
            rw [hq]
            have hm : m < 2 ^ q := (le_kmax_iff hq m).1 hc.2
            show (2 ^ q - 1) ^^^ m = _
            rw [Nat.xor_comm]
            apply Nat.eq_of_testBit_eq
            intro i
            rw [Nat.testBit_xor, Nat.testBit_two_pow_sub_one, show 2 ^ q - 1 - m = 2 ^ q - (m + 1) by omega, Nat.testBit_two_pow_sub_succ hm]
            by_cases hi : i < q
            · simp [hi]
            · have : m.testBit i = false := Nat.testBit_lt_two_pow (Nat.lt_of_lt_of_le hm (Nat.pow_le_pow_right (by decide) (by omega)))
              simp [hi, this]
          have := run_bit (P := P) (W := W) .xor k (kmax k) m (kmax k - m) (Nat.le_refl _) hc.2 e
          simp only [Op.unary, hs, Bool.false_eq_true, if_false, hb]
          exact this
        · cases hv
      · cases hv
    · cases hv
  · cases hv

theorem p_len (r : REnv nt φ env a.tmps) (g : GOK G φ) {t : TypeId} {x : Operand} {c : PC} (h : cLen P G t x = some c) {v : V} (hv : evP c env = some v) (ty : TypeId) (ts : Array TypeId) (xs : Array Value) (hts : ts[0]? = some t) (hxs : xs[0]? = some (a.eval x)) :
    ∃ z, (Builtin.len_ ts ty xs).run P W = .ok z W ∧ RV φ v z := by
  unfold cLen at h
  split at h
  · rename_i e ht
    split at h
    · rename_i p hp
      cases h
      simp only [evP, evLen] at hv
      split at hv
      · rename_i hx
        cases hv
        have hr := toO_ok hp r g hx
        simp only [RV] at hr
        rw [hr] at hxs
        exact ⟨goInt 0, by simp [Builtin.len_, hts, hxs, run_underlying ht], by simp [RV, goInt]⟩
      · rename_i l _ _ _ hx
        cases hv
        have hr := toO_ok hp r g hx
        simp only [RV] at hr
        obtain ⟨y, o', c', hy, he, _⟩ := hr
        rw [he] at hxs
        exact ⟨goInt l, by simp [Builtin.len_, hts, hxs, run_underlying ht], by simp [RV, goInt]⟩
      · cases hv
    · cases h
  · rename_i ht
    split at h
    · rename_i p hp
      cases h
      simp only [evP, evLenS] at hv
      split at hv
      · rename_i l hx
        cases hv
        have hr := toO_ok hp r g hx
        simp only [RV] at hr
        obtain ⟨s, he, hs⟩ := hr
        rw [he] at hxs
        have : len l = s.size := by rw [len_eq, ← hs, List.length_map]; cases s; rfl
        exact ⟨goInt s.size, by simp [Builtin.len_, hts, hxs, run_underlying ht], by simp [RV, goInt, this]⟩
      · cases hv
    · cases h
  · rename_i n e ht
    cases h
    simp only [evP, Option.some.injEq] at hv
    subst hv
    exact ⟨goInt n, by simp [Builtin.len_, hts, hxs, run_underlying ht], by simp [RV, goInt]⟩
  · rename_i b ht
    split at h
    · rename_i n e hb
      cases h
      simp only [evP, Option.some.injEq] at hv
      subst hv
      exact ⟨goInt n, by simp [Builtin.len_, hts, hxs, run_underlying ht, run_underlying hb], by simp [RV, goInt]⟩
    · cases h
  · cases h

theorem foldV_ok (f : V → V → Option V) (m : Value → Value → Sem Value) (hf : ∀ (x y q0 : V) (u w : Value), f x y = some q0 → RV φ x u → RV φ y w → ∃ q, (m u w).run P W = .ok q W ∧ RV φ q0 q) :
    ∀ (ys : List V) (ws : List Value) (x q0 : V) (u : Value), foldV f x ys = some q0 → RV φ x u → RVs φ ys ws → ∃ q, (ws.foldlM m u).run P W = .ok q W ∧ RV φ q0 q := by
  intro ys
  induction ys with
  | nil =>
    intro ws x q0 u h hx hy
    simp only [RVs] at hy; subst hy
    simp only [foldV, Option.some.injEq] at h; subst h
    exact ⟨u, rfl, hx⟩
  | cons y ys ih =>
    intro ws x q0 u h hx hy
    simp only [RVs] at hy
    obtain ⟨w, ws', rfl, hw, hws⟩ := hy
    simp only [foldV] at h
    split at h
    · rename_i n hn
      obtain ⟨q, hq, hr⟩ := hf x y n u w hn hx hw
      obtain ⟨q', hq', hr'⟩ := ih ws' n q0 q h hr hws
      exact ⟨q', by rw [List.foldlM_cons, Sem.run_bind, hq]; exact hq', hr'⟩
    · cases h

theorem minV_ok (x y q0 : V) (u w : Value) (h : minV x y = some q0) (hx : RV φ x u) (hy : RV φ y w) : ∃ q, (Builtin.min2 u w).run P W = .ok q W ∧ RV φ q0 q := by
  unfold minV at h
  split at h
  · cases h
    simp only [RV] at hx hy
    subst hx; subst hy
    refine ⟨_, rfl, ?_⟩
    simp only [RV, cond_eq_ite, ltB_eq, decide_eq_true_eq]
  · cases h

theorem maxV_ok (x y q0 : V) (u w : Value) (h : maxV x y = some q0) (hx : RV φ x u) (hy : RV φ y w) : ∃ q, (Builtin.max2 u w).run P W = .ok q W ∧ RV φ q0 q := by
  unfold maxV at h
  split at h
  · cases h
    simp only [RV] at hx hy
    subst hx; subst hy
    refine ⟨_, rfl, ?_⟩
    simp only [RV, cond_eq_ite, ltB_eq, decide_eq_true_eq, gt_iff_lt]
  · cases h

theorem p_mm (r : REnv nt φ env a.tmps) (g : GOK G φ) {f : V → V → Option V} {m : Value → Value → Sem Value} (hf : ∀ (x y q0 : V) (u w : Value), f x y = some q0 → RV φ x u → RV φ y w → ∃ q, (m u w).run P W = .ok q W ∧ RV φ q0 q)
    {l : List Operand} {os : List O} (h : toOs G l = some os) {v : V} (hv : evMm f os env = some v) :
    ∃ u us q0, l.map a.eval = u :: us ∧ (us.foldlM m u).run P W = .ok q0 W ∧ RV φ v q0 := by
  unfold evMm at hv
  split at hv
  · rename_i x ys hxs
    have hr := toOs_ok (a := a) r g h hxs
    simp only [RVs] at hr
    obtain ⟨u, us, he, hu, hus⟩ := hr
    obtain ⟨q, hq, hrq⟩ := foldV_ok f m hf ys us x v u hv hu hus
    exact ⟨u, us, q, he, hq, hrq⟩
  · cases hv

theorem p_ext (r : REnv nt φ env a.tmps) (g : GOK G φ) {x : Operand} {i : Nat} {p : O} (hp : toO G x = some p) {v : V} (hv : evExt p i env = some v) :
    ∃ q0, (Instr.extract (a.eval x) i).run P W = .ok q0 W ∧ RV φ v q0 := by
  unfold evExt at hv
  split at hv
  · rename_i vs hvs
    have hr := toO_ok hp r g hvs
    simp only [RV] at hr
    obtain ⟨A, he, hA⟩ := hr
    rw [nth_eq] at hv
    obtain ⟨q0, hz, hrz⟩ := hA.get hv
    have hz' : A[i]? = some q0 := by simpa using hz
    exact ⟨q0, by rw [he]; simp only [Instr.extract, hz', Sem.run_pure], hrz⟩
  · cases hv

theorem p_mkf (r : REnv nt φ env a.tmps) (g : GOK G φ) {f : Nat} {x y : Array Operand} {p q : List O} (hp : toOs G x.toList = some p) (hq : toOs G y.toList = some q) {v : V} (hv : evMkf f p q env = some v) :
    RV φ v (.func (.func f) (x.map a.eval) (y.map a.eval)) := by
  unfold evMkf at hv
  split at hv
  · rename_i vs hvs
    split at hv
    · rename_i ws hws
      cases hv
      simp only [RV]
      exact ⟨_, _, rfl, by simpa using toOs_ok (a := a) r g hp hvs, by simpa using toOs_ok (a := a) r g hq hws⟩
    · cases hv
  · cases hv

theorem p_cap (r : REnv nt φ env a.tmps) (g : GOK G φ) {t e : TypeId} (ht : P.underlying t = some (.slice e)) {x : Operand} {p : O} (hp : toO G x = some p) {v : V} (hv : evCap p env = some v) (ty : TypeId) (ts : Array TypeId) (xs : Array Value) (hts : ts[0]? = some t) (hxs : xs[0]? = some (a.eval x)) :
    ∃ q0, (Builtin.cap_ ts ty xs).run P W = .ok q0 W ∧ RV φ v q0 := by
  unfold evCap at hv
  split at hv
  · rename_i hx
    cases hv
    have hr := toO_ok hp r g hx
    simp only [RV] at hr
    rw [hr] at hxs
    exact ⟨goInt 0, by simp [Builtin.cap_, hts, hxs, run_underlying ht], by simp [RV, goInt]⟩
  · rename_i cc _ ex hx
    simp only [cond_eq_ite] at hv
    split at hv
    · rename_i hex
      cases hv
      have hr := toO_ok hp r g hx
      simp only [RV] at hr
      obtain ⟨y, o', c', hy, he, _, _, hc, _⟩ := hr
      rw [he, hc hex] at hxs
      exact ⟨goInt cc, by simp [Builtin.cap_, hts, hxs, run_underlying ht], by simp [RV, goInt]⟩
    · cases hv
  · cases hv

end
end Go.Ev
