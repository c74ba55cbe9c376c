/- A part of the evaluator and of the proof that its word holds in the model (EvPure3). -/
import Derived.Test.YtfahdklcgidmmaaGreatDoorEvPure2
namespace Go.Ev

theorem c2_ok {G : List Nat} {f : O → O → PC} {x y : Operand} {c : PC} (h : c2 G f x y = some c) : ∃ p q, toO G x = some p ∧ toO G y = some q ∧ c = f p q := by
  unfold c2 at h
  split at h
  · cases h
  · rename_i p hp
    split at h
    · cases h
    · rename_i q hq
      cases h
      exact ⟨p, q, hp, hq, rfl⟩

section
variable {P : Program} {G : List Nat} {nt : Nat} {φ : Phi} {env : Env} {a : Act} {W : World}

theorem p_build (r : REnv nt φ env a.tmps) (g : GOK G φ) {t : TypeId} {ps : Array (Nat × Operand)} {c : PC} (h : cP P G (.build t ps) = some c) {v : V} (hv : evP c env = some v) :
    ∃ x, (Instr.build t (ps.map fun (i, x) => (i, a.eval x))).run P W = .ok x W ∧ RV φ v x := by
  simp only [cP] at h
  split at h
  · cases h
  · rename_i z hz
    obtain ⟨i, zv, hi, hzv, hzr⟩ := zeroT_ok hz
    have hz1 := hzr φ
    have hmap : (ps.map fun (i, x) => (i, a.eval x)).toList = ps.toList.map fun p => (p.1, a.eval p.2) := by simp
    split at h
    · rename_i fs hfs
      simp only [cond_eq_ite] at h
      split at h
      · rename_i hall
        split at h
        · rename_i l hl
          cases h
          simp only [evP, evBuild] at hv
          split at hv
          · rename_i cs hcs
            cases hv
            let sz : Field → Nat := fun f => (sizeT P f.type).getD 0
            have hsz : ∀ f ∈ fs.toList, sizeT P f.type = some (sz f) := fun f hf => by
              have := List.all_eq_true.1 hall f hf
              obtain ⟨n, hn⟩ := Option.isSome_iff_exists.1 this
              simp [sz, hn]
            have hplaces : ∀ (l : List Field), (∀ f ∈ l, sizeT P f.type = some (sz f)) → (l.mapM fun f => do pure (f.offset, ← sizeOf f.type) : Sem (List (Nat × Nat))).run P W = .ok (l.map fun f => (f.offset, sz f)) W := by
              intro l
              induction l with
              | nil => intro _; simp
              | cons f l ih =>
                intro hl
                rw [List.mapM_cons, Sem.run_bind]
                simp only [Sem.run_bind, run_sizeOf (hl f (by simp)), Result.andThen_ok, Sem.run_pure, ih (fun f hf => hl f (by simp [hf])), List.map_cons]
            have hpl : (fs.mapM fun f => do pure (f.offset, ← sizeOf f.type) : Sem (Array (Nat × Nat))).run P W = .ok (fs.map fun f => (f.offset, sz f)) W := by
              rw [Array.mapM_eq_mapM_toList, Sem.run_map, hplaces fs.toList hsz]
              simp only [Result.andThen_ok]
              congr 1
              apply Array.ext'
              simp
            obtain ⟨h1, h2⟩ := partsS_ok hl
            obtain ⟨B, hB, hr1, hr2⟩ := fill_ok (a := a) r g ((fs.map fun f => (f.offset, sz f))[·]?) ps.toList l z cs zv.cells ⟨h1, fun j p q hp hq => by
              obtain ⟨⟨f, hf, ho, hs⟩, hto⟩ := h2 j p q hp hq
              refine ⟨?_, hto⟩
              have : sz f = q.2.1 := by simp [sz, hs]
              simp [hf, ho, this]⟩ hz1.1 hz1.2 hcs
            refine ⟨.agg B, ?_, ?_⟩
            · rw [hmap.symm] at hB
              simp only [Instr.build, Sem.run_bind, run_zeroValue hi hzv, run_underlying hfs, hpl, Result.andThen_ok, hB]
              rfl
            · simp only [RV]; exact ⟨B, rfl, hr1, hr2⟩
          · cases hv
        · cases h
      · cases h
    · rename_i n e hfs
      split at h
      · cases h
      · rename_i s hs
        split at h
        · rename_i l hl
          cases h
          simp only [evP, evBuild] at hv
          split at hv
          · rename_i cs hcs
            cases hv
            obtain ⟨B, hB, hr1, hr2⟩ := fill_ok (a := a) r g (fun i => some (i * s, s)) ps.toList l z cs zv.cells (partsA_ok hl) hz1.1 hz1.2 hcs
            refine ⟨.agg B, ?_, ?_⟩
            · rw [hmap.symm] at hB
              simp only [Instr.build, Sem.run_bind, run_zeroValue hi hzv, run_underlying hfs, run_sizeOf hs, Result.andThen_ok, hB]
              rfl
            · simp only [RV]; exact ⟨B, rfl, hr1, hr2⟩
          · cases hv
        · cases h
    · cases h

theorem map_app {x y : ByteArray} : (x ++ y).data.toList.map (·.toNat) = x.data.toList.map (·.toNat) ++ y.data.toList.map (·.toNat) := by
  simp [ByteArray.data_append]

theorem run_str (op : BinOp) (t : TypeId) (x y : ByteArray) {v : V} (h : strOp (aop op) (x.data.toList.map (·.toNat)) (y.data.toList.map (·.toNat)) = some v) :
    ∃ z, (binOp op t (.string x) (.string y)).run P W = .ok z W ∧ RV φ v z := by
  cases op <;> simp only [aop, strOp, reduceCtorEq] at h
  case add =>
    simp only [cond_eq_ite, Nat.ble_eq, len_eq, List.length_map] at h
    split at h
    · rename_i hc
      cases h
      refine ⟨.string (x ++ y), ?_, ?_⟩
      · have : ¬ (((x.size + y.size : Nat) : Int) > IntKind.i64.max) := by
          have e1 : x.data.toList.length = x.size := by cases x; rfl
          have e2 : y.data.toList.length = y.size := by cases y; rfl
          rw [e1, e2] at hc
          simp [IntKind.max, IntKind.signed, IntKind.bits]
          omega
        simp only [binOp, Op.stringOp, this, if_false]
        rfl
      · simp only [RV, app_eq]
        exact ⟨_, rfl, map_app⟩
    · cases h
  all_goals
    simp only [Option.some.injEq] at h
    subst h
    exact ⟨_, rfl, by simp [RV, eqS_bytes, ltS_bytes, ByteArray.toList_eq]⟩

theorem eqGuard_leaf (op : BinOp) (t : TypeId) (x y : Operand) (u v : Value) (h : ∀ A, u ≠ .agg A) (k : u ≠ .nilIface) : (eqGuard op t x y u v).run P W = .ok () W := by
  unfold eqGuard
  cases op <;> simp <;> cases u <;> first | rfl | (exact (h _ rfl).elim) | (exact (k rfl).elim)

theorem p_bin (r : REnv nt φ env a.tmps) (g : GOK G φ) {op : BinOp} {t : TypeId} {x y : Operand} {p q : O} (hp : toO G x = some p) (hq : toO G y = some q) {v : V} (hv : evBin (aop op) p q env = some v) :
    ∃ z, (do eqGuard op t x y (a.eval x) (a.eval y); binOp op t (a.eval x) (a.eval y) : Sem Value).run P W = .ok z W ∧ RV φ v z := by
  unfold evBin at hv
  split at hv
  · cases hv
  · rename_i vx hx
    split at hv
    · cases hv
    · rename_i vy hy
      have hrx := toO_ok hp r g hx
      have hry := toO_ok hq r g hy
      split at hv
      · split at hv
        · simp only [RV] at hrx hry
          rw [hrx, hry]
          obtain ⟨z, hz, hr⟩ := run_intOps (P := P) (W := W) op t _ _ _ _ hv φ
          exact ⟨z, by rw [Sem.run_bind, eqGuard_leaf op t x y _ _ (by intro A h; cases h) (by intro h; cases h)]; exact hz, hr⟩
        · cases hv
      · split at hv
        · simp only [RV] at hrx hry
          obtain ⟨sx, hsx, ex⟩ := hrx
          obtain ⟨sy, hsy, ey⟩ := hry
          rw [hsx, hsy]
          subst ex; subst ey
          obtain ⟨z, hz, hr⟩ := run_str (P := P) (W := W) (φ := φ) op t sx sy hv
          exact ⟨z, by rw [Sem.run_bind, eqGuard_leaf op t x y _ _ (by intro A h; cases h) (by intro h; cases h)]; exact hz, hr⟩
        · cases hv
      · cases hv

theorem run_equalIn_bool {t : TypeId} (ht : P.underlying t = some .bool) (d : Nat) (x y : Bool) (W : World) : (Op.equalIn (d + 1) t (.bool x) (.bool y)).run P W = .ok (x == y) W := by
  rw [Op.equalIn, Sem.run_bind, run_underlying ht]
  rfl

theorem run_equal_bool {t : TypeId} (ht : P.underlying t = some .bool) (x y : Bool) (W : World) : (Op.equal t (.bool x) (.bool y)).run P W = .ok (x == y) W :=
  run_equalIn_bool ht 9999 x y W

theorem p_binB (r : REnv nt φ env a.tmps) (g : GOK G φ) {op : BinOp} {t : TypeId} (ht : P.underlying t = some .bool) {x y : Operand} {p q : O} (hp : toO G x = some p) (hq : toO G y = some q) {v : V} (hv : evBinB (aop op) p q env = some v) :
    ∃ z, (do eqGuard op t x y (a.eval x) (a.eval y); binOp op t (a.eval x) (a.eval y) : Sem Value).run P W = .ok z W ∧ RV φ v z := by
  unfold evBinB at hv
  split at hv
  · rename_i bx hx
    split at hv
    · rename_i by_ hy
      have hrx := toO_ok hp r g hx
      have hry := toO_ok hq r g hy
      simp only [RV] at hrx hry
      rw [hrx, hry]
      cases op <;> simp only [aop, boolOp, reduceCtorEq] at hv
      · cases hv
        refine ⟨.bool (bx == by_), ?_, by simp only [RV]⟩
        rw [Sem.run_bind, eqGuard_leaf _ t x y _ _ (by intro A h; cases h) (by intro h; cases h)]
        show ((do pure (Value.bool (← Op.equal t (.bool bx) (.bool by_))) : Sem Value)).run P W = _
        rw [Sem.run_bind, run_equal_bool ht]
        rfl
      · cases hv
        refine ⟨.bool (bx != by_), ?_, by simp only [RV]⟩
        rw [Sem.run_bind, eqGuard_leaf _ t x y _ _ (by intro A h; cases h) (by intro h; cases h)]
        show ((do pure (Value.bool (!(← Op.equal t (.bool bx) (.bool by_)))) : Sem Value)).run P W = _
        rw [Sem.run_bind, run_equal_bool ht]
        rfl
    · cases hv
  · cases hv

/-! addresses and slices -/

theorem add_off (b o n : Nat) : (⟨b, o, none⟩ : Addr).add n = ⟨b, o + n, none⟩ := by
  unfold Addr.add; split <;> simp_all

theorem p_eqNil (r : REnv nt φ env a.tmps) (g : GOK G φ) {b : BinOp} {neg : Bool} (hb : isCmp b = some neg) {t e : TypeId} (ht : P.underlying t = some (.slice e)) {x y : Operand} {p : O} (hp : toO G x = some p) (hy : isNilS y = true) {v : V} (hv : evEqNil neg p env = some v) :
    ∃ z, (do eqGuard b t x y (a.eval x) (a.eval y); binOp b t (a.eval x) (a.eval y) : Sem Value).run P W = .ok z W ∧ RV φ v z := by
  have hye : a.eval y = .slice none 0 0 := by
    unfold isNilS at hy
    split at hy
    · rfl
    · cases hy
  have hrun : ∀ (d : Nat) (u : Option Addr) (l c : Nat), (Op.equalIn (d + 1) t (.slice u l c) (.slice none 0 0)).run P W = .ok u.isNone W := by
    intro d u l c
    rw [Op.equalIn, Sem.run_bind, run_underlying ht]
    cases u <;> rfl
  have key : ∀ (u : Option Addr) (l c : Nat), a.eval x = .slice u l c → (do eqGuard b t x y (a.eval x) (a.eval y); binOp b t (a.eval x) (a.eval y) : Sem Value).run P W = .ok (.bool (u.isNone != neg)) W := by
    intro u l c hx
    rw [hx, hye, Sem.run_bind, eqGuard_leaf b t x y _ _ (by intro A h; cases h) (by intro h; cases h)]
    cases b <;> simp only [isCmp, reduceCtorEq, Option.some.injEq] at hb <;> subst hb
    · show ((do pure (Value.bool (← Op.equal t (.slice u l c) (.slice none 0 0))) : Sem Value)).run P W = _
      rw [Sem.run_bind]
      show (Result.andThen (Sem.run P (Op.equalIn (9999 + 1) t (.slice u l c) (.slice none 0 0)) W) _) = _
      rw [hrun]
      simp
    · show ((do pure (Value.bool (!(← Op.equal t (.slice u l c) (.slice none 0 0)))) : Sem Value)).run P W = _
      rw [Sem.run_bind]
      show (Result.andThen (Sem.run P (Op.equalIn (9999 + 1) t (.slice u l c) (.slice none 0 0)) W) _) = _
      rw [hrun]
      simp
  unfold evEqNil at hv
  split at hv
  · rename_i hx
    cases hv
    have hr := toO_ok hp r g hx
    simp only [RV] at hr
    refine ⟨_, key _ _ _ hr, by simp [RV]⟩
  · rename_i hx
    cases hv
    have hr := toO_ok hp r g hx
    simp only [RV] at hr
    obtain ⟨_, _, _, _, hr, _⟩ := hr
    refine ⟨_, key _ _ _ hr, by simp [RV]⟩
  · cases hv

theorem optO_ok (r : REnv nt φ env a.tmps) (g : GOK G φ) {x : Option Operand} {o : Option O} (h : optO G x = some o) {d n : Nat} (hn : optNat env d o = some n) :
    (x = none ∧ n = d) ∨ ∃ y k, x = some y ∧ a.eval y = .int k (n : Int) := by
  cases x with
  | none => simp only [optO, Option.some.injEq] at h; subst h; simp only [optNat, Option.some.injEq] at hn; exact .inl ⟨rfl, hn.symm⟩
  | some y =>
    simp only [optO] at h
    split at h
    · rename_i o' ho
      cases h
      simp only [optNat] at hn
      obtain ⟨k, hk⟩ := nat_ok r g ho hn
      exact .inr ⟨y, k, rfl, hk⟩
    · cases h

theorem run_sliceBound (k : IntKind) (i y : Nat) (code : BoundsCode) (h : i ≤ y) : (Instr.sliceBound (.int k (i : Int)) y code).run P W = .ok i W := by
  have h1 : (0 : Int) ≤ (i : Int) ∧ (i : Int) ≤ (y : Int) := by omega
  simp [Instr.sliceBound, asIntOf]
  omega

/-- the bounds of x[lo:hi] -/
theorem run_bounds (isSlice : Bool) (l c lo hi : Nat) (xlo xhi : Option Value) (hlo : (xlo = none ∧ lo = 0) ∨ ∃ k, xlo = some (.int k (lo : Int))) (hhi : (xhi = none ∧ hi = l) ∨ ∃ k, xhi = some (.int k (hi : Int)))
    (h1 : lo ≤ hi) (h2 : hi ≤ c) : (Instr.sliceBounds isSlice l c xlo xhi none).run P W = .ok (lo, hi, c) W := by
  unfold Instr.sliceBounds
  obtain ⟨rfl, rfl⟩ | ⟨k1, rfl⟩ := hlo <;> obtain ⟨rfl, rfl⟩ | ⟨k2, rfl⟩ := hhi <;>
    simp [run_sliceBound, h1, h2]

theorem run_bounds3 (isSlice : Bool) (l c lo hi m : Nat) (xlo : Option Value) (khi km : IntKind) (hlo : (xlo = none ∧ lo = 0) ∨ ∃ k, xlo = some (.int k (lo : Int)))
    (h1 : lo ≤ hi) (h2 : hi ≤ m) (h3 : m ≤ c) : (Instr.sliceBounds isSlice l c xlo (some (.int khi (hi : Int))) (some (.int km (m : Int)))).run P W = .ok (lo, hi, m) W := by
  unfold Instr.sliceBounds
  obtain ⟨rfl, rfl⟩ | ⟨k1, rfl⟩ := hlo <;>
    simp [run_sliceBound, h1, h2, h3]

theorem optO_map (r : REnv nt φ env a.tmps) (g : GOK G φ) {x : Option Operand} {o : Option O} (h : optO G x = some o) {d n : Nat} (hn : optNat env d o = some n) :
    (x.map a.eval = none ∧ n = d) ∨ ∃ k, x.map a.eval = some (.int k (n : Int)) := by
  rcases optO_ok r g h hn with ⟨rfl, rfl⟩ | ⟨y, k, rfl, hk⟩
  · exact .inl ⟨rfl, rfl⟩
  · exact .inr ⟨k, by simp [hk]⟩

/-- a slice of a slice, as an address -/
theorem slice_rel {b o sz lo hi c' : Nat} {ex : Bool} {x : Nat × Nat × Nat} {o' m m' : Nat} (hφ : φ b = some x) (hsz : 1 ≤ sz) (hat : c' = 0 ∨ (o' = x.2.1 + o ∧ o + c' * sz ≤ x.2.2))
    (h1 : lo ≤ hi) (h2 : hi ≤ m) (hm : m ≤ m') (hmc : m' ≤ c') (hex : ex = true → m' = m) :
    RV φ (.sl b (o + lo * sz) (hi - lo) (m - lo) sz ex) (.slice (if m' = lo then some ⟨x.1, o', none⟩ else (some (⟨x.1, o', none⟩ : Addr)).map (·.add (lo * sz))) (hi - lo) (m' - lo)) := by
  simp only [RV]
  by_cases he : m' = lo
  · refine ⟨x, o', m' - lo, hφ, by simp [he], by omega, by omega, fun h => by have := hex h; omega, hsz, .inl (by omega)⟩
  · rcases hat with hat | ⟨rfl, hat⟩
    · omega
    · refine ⟨x, x.2.1 + o + lo * sz, m' - lo, hφ, by simp [he, add_off], by omega, by omega, fun h => by have := hex h; omega, hsz, .inr ⟨by omega, ?_⟩⟩
      have e : lo * sz + (m' - lo) * sz ≤ c' * sz := by
        rw [← Nat.add_mul]
        exact Nat.mul_le_mul_right _ (by omega)
      omega

theorem p_slice (r : REnv nt φ env a.tmps) (g : GOK G φ) {t : TypeId} {x : Operand} {lo hi mx : Option Operand} {c : PC} (h : cSlice P G t x lo hi mx = some c) {v : V} (hv : evP c env = some v) :
    ∃ z, (Instr.sliceAt t (a.eval x) (lo.map a.eval) (hi.map a.eval) (mx.map a.eval)).run P W = .ok z W ∧ RV φ v z := by
  unfold cSlice at h
  split at h
  · cases h
  rename_i px hpx
  split at h
  · cases h
  rename_i plo hplo
  split at h
  · -- a slice
    rename_i e ht
    split at h
    · cases h
    rename_i s hs
    split at h
    · split at h
      · rename_i phi hphi
        cases h
        simp only [evP, evSlS] at hv
        split at hv
        · rename_i vx hvx
          split at hv
          · rename_i nlo hnlo
            split at hv
            · rename_i nhi hnhi
              have hr := toO_ok hpx r g hvx
              have hlo := optO_map (a := a) r g hplo hnlo
              have hhi := optO_map (a := a) r g hphi hnhi
              unfold sliceS at hv
              split at hv
              · simp only [cond_eq_ite, Bool.and_eq_true, Nat.beq_eq] at hv
                split at hv
                · rename_i hc
                  obtain ⟨rfl, rfl⟩ := hc
                  cases hv
                  simp only [RV] at hr
                  rw [hr]
                  have hb := run_bounds (P := P) (W := W) true 0 0 0 0 (lo.map a.eval) (hi.map a.eval) hlo (by simpa [lenSl] using hhi) (Nat.le_refl _) (Nat.le_refl _)
                  refine ⟨.slice none 0 0, ?_, by simp only [RV]⟩
                  simp only [Instr.sliceAt, Instr.slice, Sem.run_bind, run_underlying ht, Result.andThen_ok, Option.map_none, hb, run_sizeOf hs]
                  rfl
                · cases hv
              · rename_i b o l c sz' ex
                simp only [cond_eq_ite, Bool.and_eq_true, Nat.beq_eq, Nat.ble_eq] at hv
                split at hv
                · rename_i hc
                  obtain ⟨⟨rfl, h1⟩, h2⟩ := hc
                  cases hv
                  simp only [RV] at hr
                  obtain ⟨xx, o', c', hφ, hx, hlc, hcc, hex, hsz, hat⟩ := hr
                  rw [hx]
                  have hb := run_bounds (P := P) (W := W) true l c' nlo nhi (lo.map a.eval) (hi.map a.eval) hlo (by simpa [lenSl] using hhi) h1 (by omega)
                  refine ⟨_, ?_, slice_rel (m := c) (m' := c') hφ hsz hat h1 h2 hcc (Nat.le_refl _) hex⟩
                  simp only [Instr.sliceAt, Instr.slice, Sem.run_bind, run_underlying ht, Result.andThen_ok, Option.map_none, hb, run_sizeOf hs, Sem.run_pure]
                · cases hv
              · cases hv
            · cases hv
          · cases hv
        · cases hv
      · cases h
    · rename_i xm
      split at h
      · cases h
      rename_i pm hpm
      split at h
      · cases h
      rename_i xhi
      split at h
      · rename_i phi hphi
        cases h
        simp only [evP, evSlS3] at hv
        split at hv
        · rename_i vx hvx
          split at hv
          · rename_i nlo hnlo
            split at hv
            · rename_i nhi hnhi
              split at hv
              · rename_i nm hnm
                have hr := toO_ok hpx r g hvx
                have hlo := optO_map (a := a) r g hplo hnlo
                obtain ⟨khi, ehi⟩ := nat_ok (a := a) r g hphi hnhi
                obtain ⟨km, em⟩ := nat_ok (a := a) r g hpm hnm
                unfold sliceS3 at hv
                split at hv
                · simp only [cond_eq_ite, Bool.and_eq_true, Nat.beq_eq] at hv
                  split at hv
                  · rename_i hc
                    obtain ⟨⟨rfl, rfl⟩, rfl⟩ := hc
                    cases hv
                    simp only [RV] at hr
                    rw [hr]
                    have hb := run_bounds3 (P := P) (W := W) true 0 0 0 0 0 (lo.map a.eval) khi km hlo (Nat.le_refl _) (Nat.le_refl _) (Nat.le_refl _)
                    refine ⟨.slice none 0 0, ?_, by simp only [RV]⟩
                    simp only [Instr.sliceAt, Instr.slice, Sem.run_bind, run_underlying ht, Result.andThen_ok, Option.map_some, ehi, em, hb, run_sizeOf hs]
                    rfl
                  · cases hv
                · rename_i b o l c sz' ex
                  simp only [cond_eq_ite, Bool.and_eq_true, Nat.beq_eq, Nat.ble_eq] at hv
                  split at hv
                  · rename_i hc
                    obtain ⟨⟨⟨rfl, h1⟩, h2⟩, h3⟩ := hc
                    cases hv
                    simp only [RV] at hr
                    obtain ⟨xx, o', c', hφ, hx, hlc, hcc, hex, hsz, hat⟩ := hr
                    rw [hx]
                    have hb := run_bounds3 (P := P) (W := W) true l c' nlo nhi nm (lo.map a.eval) khi km hlo h1 h2 (by omega)
                    refine ⟨_, ?_, slice_rel (m := nm) (m' := nm) (ex := true) hφ hsz hat h1 h2 (Nat.le_refl _) (by omega) (fun _ => rfl)⟩
                    simp only [Instr.sliceAt, Instr.slice, Sem.run_bind, run_underlying ht, Result.andThen_ok, Option.map_some, ehi, em, hb, run_sizeOf hs, Sem.run_pure]
                  · cases hv
                · cases hv
              · cases hv
            · cases hv
          · cases hv
        · cases hv
      · cases h
  · -- a string
    rename_i ht
    split at h
    · split at h
      · rename_i phi hphi
        cases h
        simp only [evP, evSlStr] at hv
        split at hv
        · rename_i l hvx
          split at hv
          · rename_i nlo hnlo
            split at hv
            · rename_i nhi hnhi
              simp only [cond_eq_ite, Bool.and_eq_true, Nat.ble_eq] at hv
              split at hv
              · rename_i hc
                cases hv
                have hr := toO_ok hpx r g hvx
                have hlo := optO_map (a := a) r g hplo hnlo
                have hhi := optO_map (a := a) r g hphi hnhi
                simp only [RV] at hr
                obtain ⟨s, hx, hl⟩ := hr
                rw [hx]
                have hlen : len l = s.size := by rw [len_eq, ← hl, List.length_map]; cases s; rfl
                rw [hlen] at hhi hc
                have hb := run_bounds (P := P) (W := W) false s.size s.size nlo nhi (lo.map a.eval) (hi.map a.eval) hlo hhi hc.1 hc.2
                refine ⟨.string (s.extract nlo nhi), ?_, ?_⟩
                · simp only [Instr.sliceAt, Instr.slice, Sem.run_bind, run_underlying ht, Result.andThen_ok, Option.map_none, Option.isSome_none, Bool.false_eq_true, if_false, hb]
                  rfl
                · simp only [RV]
                  refine ⟨_, rfl, ?_⟩
                  rw [takeN_eq, dropN_eq, ← hl, ByteArray.data_extract]
                  simp [List.map_take, List.map_drop]
              · cases hv
            · cases hv
          · cases hv
        · cases hv
      · cases h
    · cases h
  · cases h

end
end Go.Ev
