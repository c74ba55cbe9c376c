/- A part of the evaluator and of the proof that its word holds in the model (EvPure5). -/
import Derived.Test.YtfahdklcgidmmaaGreatDoorEvPure4
import Derived.Laws.StructEq
namespace Go.Ev

theorem app_kinds_len (l r : List Kd) : (app l r).length = l.length + r.length := by rw [app_eq]; simp

theorem eqCells_app (l r : List Kd) : ∀ (x y : List V), eqCells (app l r) x y = match eqCells l x y with
    | some true => eqCells r (x.drop l.length) (y.drop l.length)
    | o => o := by
  induction l with
  | nil => intro x y; simp [app, eqCells]
  | cons k l ih =>
    intro x y
    cases x with
    | nil => simp [app, eqCells]
    | cons a x =>
      cases y with
      | nil => simp [app, eqCells]
      | cons b y =>
        simp only [app, eqCells]
        cases eqCell k a b with
        | none => rfl
        | some r => cases r <;> simp [ih]

theorem eqCells_take (l : List Kd) : ∀ (x y : List V), eqCells l x y = eqCells l (x.take l.length) (y.take l.length) := by
  induction l with
  | nil => intro x y; simp [eqCells]
  | cons k l ih =>
    intro x y
    cases x with
    | nil => simp [eqCells]
    | cons a x =>
      cases y with
      | nil => simp [eqCells]
      | cons b y =>
        simp only [eqCells, List.length_cons, List.take_succ_cons]
        rw [ih]

def valOf (ag : Bool) (X : List Value) : Value := bif ag then .agg X.toArray else X.headD undef

section
variable {P : Program} {G : List Nat} {nt : Nat} {φ : Phi} {env : Env} {a : Act}

theorem run_part_val {t : TypeId} {ag : Bool} (ha : aggT P t = some ag) {m : Nat} (hs : sizeT P t = some m) (h1 : ag = false → m = 1) (X : List Value) (off : Nat) (hfit : off + m ≤ X.length) (W : World) :
    (part t X.toArray off).run P W = .ok (valOf ag ((X.drop off).take m)) W := by
  cases ag with
  | true =>
    rw [run_part_agg ha hs]
    congr 2
    apply Array.ext'
    simp [List.extract_eq_take_drop]
  | false =>
    have := h1 rfl
    subst this
    have hget : X.toArray[off]? = some (valOf false ((X.drop off).take 1)) := by
      have : off < X.length := by omega
      simp only [valOf, cond_false]
      rw [List.getElem?_toArray, List.getElem?_eq_getElem this, List.drop_eq_getElem_cons this]
      rfl
    exact run_part_one ha _ _ hget W

/-- what it is that the cells of a type are held against one another rightly -/
def EqOk (P : Program) (t : TypeId) (ks : List Kd) (n : Nat) : Prop :=
  ∃ ag, aggT P t = some ag ∧ (ag = false → ks.length = 1) ∧ ∀ (φ : Phi) (d : Nat) (cs ds : List V) (X Y : List Value) (b : Bool), n ≤ d → cs.length = ks.length → ds.length = ks.length →
    RVs φ cs X → RVs φ ds Y → eqCells ks cs ds = some b → ∀ W, (Op.equalIn d t (valOf ag X) (valOf ag Y)).run P W = .ok b W

theorem eqLeaf {t : TypeId} {k : Kd} {n : Nat} (ha : aggT P t = some false)
    (h : ∀ (φ : Phi) (d : Nat) (v w : V) (x y : Value) (b : Bool), RV φ v x → RV φ w y → eqCell k v w = some b → ∀ W, (Op.equalIn (d + 1) t x y).run P W = .ok b W) : EqOk P t [k] (n + 1) := by
  refine ⟨false, ha, fun _ => rfl, fun φ d cs ds X Y b hd hc hds hX hY he W => ?_⟩
  match cs, ds, hc, hds with
  | [v], [w], _, _ =>
    simp only [RVs] at hX hY
    obtain ⟨x, _, rfl, hx, rfl⟩ := hX
    obtain ⟨y, _, rfl, hy, rfl⟩ := hY
    obtain ⟨d, rfl⟩ : ∃ m, d = m + 1 := ⟨d - 1, by omega⟩
    simp only [eqCells, cond_eq_ite] at he
    split at he
    · rename_i r hr
      have : b = r := by cases r <;> simp_all
      subst this
      exact h φ d v w x y b hx hy hr W
    · cases he

theorem eqFields_ok {n : Nat} (ih : ∀ t ks, kindsT P n t = some ks → EqOk P t ks n) (φ : Phi) (d : Nat) (hd : n ≤ d) (cs ds : List V) (X Y : List Value) (hX : RVs φ cs X) (hY : RVs φ ds Y) :
    ∀ (fs : List Field) (o : Nat) (ks : List Kd) (b : Bool), kindsS P (kindsT P n) fs o = some ks → o + ks.length ≤ cs.length → o + ks.length ≤ ds.length → eqCells ks (cs.drop o) (ds.drop o) = some b →
      ∀ W, (Op.eqFields d X.toArray Y.toArray fs).run P W = .ok b W := by
  intro fs
  induction fs with
  | nil =>
    intro o ks b h _ _ he W
    simp only [kindsS, Option.some.injEq] at h
    subst h
    simp only [eqCells, Option.some.injEq] at he
    subst he
    rfl
  | cons f fs ihf =>
    intro o ks b h h1 h2 he W
    simp only [kindsS] at h
    split at h
    · cases h
    rename_i l hl
    split at h
    · cases h
    rename_i m hm
    simp only [cond_eq_ite, Bool.and_eq_true, Nat.beq_eq, bne_iff_ne, ne_eq, len_eq] at h
    split at h
    · rename_i hc
      obtain ⟨⟨hname, rfl⟩, rfl⟩ := hc
      split at h
      · rename_i r hr
        cases h
        rw [app_kinds_len] at h1 h2
        obtain ⟨ag, hag, hag1, heq⟩ := ih _ _ hl
        rw [eqCells_app] at he
        have hXl := hX.length
        have hYl := hY.length
        have px := run_part_val hag hm hag1 X f.offset (by omega) W
        have py := run_part_val hag hm hag1 Y f.offset (by omega) W
        have step : ∀ r1, eqCells l (cs.drop f.offset) (ds.drop f.offset) = some r1 → (Op.equalIn d f.type (valOf ag ((X.drop f.offset).take l.length)) (valOf ag ((Y.drop f.offset).take l.length))).run P W = .ok r1 W := by
          intro r1 hr1
          rw [eqCells_take] at hr1
          exact heq φ d _ _ _ _ r1 hd (by simp; omega) (by simp; omega) ((hX.drop _).take _) ((hY.drop _).take _) hr1 W
        rw [Op.eqFields, if_pos hname]
        simp only [Sem.run_bind, px, py, Result.andThen_ok]
        split at he
        · rename_i h3
          rw [step true h3]
          simp only [Result.andThen_ok, Bool.not_true, Bool.false_eq_true, if_false]
          rw [List.drop_drop, List.drop_drop] at he
          exact ihf (f.offset + l.length) r b hr (by omega) (by omega) he W
        · rename_i h3
          have : b = false := by
            cases b
            · rfl
            · exact (h3 he).elim
          subst this
          rw [step false he]
          rfl
      · cases h
    · cases h

theorem repK_len (n : Nat) (l : List Kd) : (repK n l).length = n * l.length := by
  induction n with
  | zero => simp [repK]
  | succ n ih => rw [repK, app_kinds_len, ih, Nat.succ_mul]; omega

theorem eqElems_ok {n : Nat} {e : TypeId} {l : List Kd} {m : Nat} (hm : sizeT P e = some m) (hml : m = l.length) (ih : EqOk P e l n) (φ : Phi) (d : Nat) (hd : n ≤ d) (cs ds : List V) (X Y : List Value) (hX : RVs φ cs X) (hY : RVs φ ds Y)
    (body : Nat → Option Bool × Unit → Sem (ForInStep (Option Bool × Unit)))
    (hbody : ∀ i s W r, (i + 1) * m ≤ cs.length → (i + 1) * m ≤ ds.length → (Op.equalIn d e (valOf ih.choose ((X.drop (i * m)).take m)) (valOf ih.choose ((Y.drop (i * m)).take m))).run P W = .ok r W →
      (body i s).run P W = .ok (if r then .yield (none, ()) else .done (some false, ())) W) :
    ∀ (k i : Nat) (b : Bool), (i + k) * m ≤ cs.length → (i + k) * m ≤ ds.length → eqCells (repK k l) (cs.drop (i * m)) (ds.drop (i * m)) = some b → ∀ W,
      (forIn (List.range' i k) ((none, ()) : Option Bool × Unit) body).run P W = .ok (if b then (none, ()) else (some false, ())) W := by
  intro k
  induction k with
  | zero =>
    intro i b _ _ he W
    simp only [repK, eqCells, Option.some.injEq] at he
    subst he
    rfl
  | succ k ihk =>
    intro i b h1 h2 he W
    have hi1 : (i + 1) * m ≤ cs.length := Nat.le_trans (Nat.mul_le_mul_right _ (by omega)) h1
    have hi2 : (i + 1) * m ≤ ds.length := Nat.le_trans (Nat.mul_le_mul_right _ (by omega)) h2
    rw [repK, eqCells_app] at he
    obtain ⟨_, _, heq⟩ := ih.choose_spec
    have hs : (i + 1) * m = i * m + m := Nat.succ_mul i m
    have step : ∀ r1, eqCells l (cs.drop (i * m)) (ds.drop (i * m)) = some r1 → (Op.equalIn d e (valOf ih.choose ((X.drop (i * m)).take m)) (valOf ih.choose ((Y.drop (i * m)).take m))).run P W = .ok r1 W := by
      intro r1 hr1
      rw [eqCells_take] at hr1
      subst hml
      exact heq φ d _ _ _ _ r1 hd (by simp; omega) (by simp; omega) ((hX.drop _).take _) ((hY.drop _).take _) hr1 W
    rw [List.range'_succ, List.forIn_cons, Sem.run_bind]
    split at he
    · rename_i h3
      rw [hbody i _ W true hi1 hi2 (step true h3)]
      simp only [if_true, Result.andThen_ok]
      rw [List.drop_drop, List.drop_drop, ← hml, ← hs] at he
      exact ihk (i + 1) b (by rw [show i + 1 + k = i + (k + 1) by omega]; exact h1) (by rw [show i + 1 + k = i + (k + 1) by omega]; exact h2) he W
    · rename_i h3
      have : b = false := by
        cases b
        · rfl
        · exact (h3 he).elim
      subst this
      rw [hbody i _ W false hi1 hi2 (step false he)]
      rfl

theorem kinds_ok : ∀ (n : Nat) (t : TypeId) (ks : List Kd), kindsT P n t = some ks → EqOk P t ks n := by
  intro n
  induction n with
  | zero => intro t ks h; simp [kindsT] at h
  | succ n ih =>
    intro t ks h
    simp only [kindsT] at h
    split at h
    · rename_i ht
      cases h
      refine eqLeaf (by simp [aggT, ht]) fun φ d v w x y b hx hy he W => ?_
      simp only [eqCell] at he
      split at he
      · split at he
        · cases he
          simp only [RV] at hx hy
          subst hx; subst hy
          exact run_equalIn_bool' W d t _ _ ht
        · cases he
      · cases he
    · rename_i k ht
      cases h
      refine eqLeaf (by simp [aggT, ht]) fun φ d v w x y b hx hy he W => ?_
      simp only [eqCell] at he
      split at he
      · split at he
        · simp only [cond_eq_ite] at he
          split at he
          · rename_i hk
            obtain rfl := (ksame_eq _ _).1 hk
            cases he
            simp only [RV] at hx hy
            subst hx; subst hy
            rw [run_equalIn_int W d t _ _ _ _ ht, eqB_eq]
          · cases he
        · cases he
      · cases he
    · rename_i ht
      cases h
      refine eqLeaf (by simp [aggT, ht]) fun φ d v w x y b hx hy he W => ?_
      simp only [eqCell] at he
      split at he
      · split at he
        · cases he
          simp only [RV] at hx hy
          obtain ⟨sx, rfl, rfl⟩ := hx
          obtain ⟨sy, rfl, rfl⟩ := hy
          rw [run_equalIn_string W d t _ _ ht, eqS_bytes]
        · cases he
      · cases he
    · rename_i fs ht
      simp only [cond_eq_ite] at h
      split at h
      · cases h
      rename_i hst
      refine ⟨true, by simp [aggT, ht], (fun h => by cases h), fun φ d cs ds X Y b hd hc hds hX hY he W => ?_⟩
      obtain ⟨d, rfl⟩ : ∃ m, d = m + 1 := ⟨d - 1, by omega⟩
      have hf : P.fieldsOf t = fs := by simp [Program.fieldsOf, ht]
      show (Op.equalIn (d + 1) t (.agg X.toArray) (.agg Y.toArray)).run P W = _
      rw [run_equalIn_struct W d t _ _ (by rw [hf]; exact ht) (by simpa using hst), hf]
      exact eqFields_ok ih φ d (by omega) cs ds X Y hX hY fs.toList 0 ks b h (by omega) (by omega) (by simpa using he) W
    · rename_i k e ht
      split at h
      · cases h
      rename_i l hl
      split at h
      · cases h
      rename_i m hm
      simp only [cond_eq_ite, Nat.beq_eq, len_eq] at h
      split at h
      · rename_i hml
        cases h
        refine ⟨true, by simp [aggT, ht], (fun h => by cases h), fun φ d cs ds X Y b hd hc hds hX hY he W => ?_⟩
        obtain ⟨d, rfl⟩ : ∃ m, d = m + 1 := ⟨d - 1, by omega⟩
        have hE := ih _ _ hl
        obtain ⟨hag, hag1, _⟩ := hE.choose_spec
        rw [repK_len, ← hml] at hc hds
        have hXl := hX.length
        have hYl := hY.length
        show (Op.equalIn (d + 1) t (.agg X.toArray) (.agg Y.toArray)).run P W = _
        simp only [Op.equalIn, Sem.run_bind, run_underlying ht, run_sizeOf hm, Result.andThen_ok]
        rw [Std.Legacy.Range.forIn_eq_forIn_range']
        simp only [Std.Legacy.Range.size, Nat.sub_zero, Nat.add_sub_cancel, Nat.div_one]
        rw [eqElems_ok hm hml hE φ d (by omega) cs ds X Y hX hY _ ?_ k 0 b (by simp [hc]) (by simp [hds]) (by simpa using he) W]
        · cases b <;> rfl
        · intro i s W r h1 h2 hr
          have hs : (i + 1) * m = i * m + m := Nat.succ_mul i m
          have px := run_part_val hag hm (fun h => by rw [hml]; exact hag1 h) X (i * m) (by omega) W
          have py := run_part_val hag hm (fun h => by rw [hml]; exact hag1 h) Y (i * m) (by omega) W
          simp only [Sem.run_bind, px, py, Result.andThen_ok, hr]
          cases r <;> rfl
      · cases h
    · cases h

theorem eqGuardType_ok : ∀ (n : Nat) (t : TypeId) (ks : List Kd), kindsT P n t = some ks → ∀ d, n ≤ d → P.eqGuardType d t = false := by
  intro n
  induction n with
  | zero => intro t ks h; simp [kindsT] at h
  | succ n ih =>
    intro t ks h d hd
    obtain ⟨d, rfl⟩ : ∃ m, d = m + 1 := ⟨d - 1, by omega⟩
    simp only [kindsT] at h
    have hS : ∀ (fs : List Field) (o : Nat) (ks : List Kd), kindsS P (kindsT P n) fs o = some ks → ∀ f ∈ fs, P.eqGuardType d f.type = false := by
      intro fs
      induction fs with
      | nil => intro o ks _ f hf; cases hf
      | cons x xs ihx =>
        intro o ks h f hf
        simp only [kindsS] at h
        split at h
        · cases h
        rename_i l hl
        split at h
        · cases h
        simp only [cond_eq_ite] at h
        split at h
        · split at h
          · rename_i r hr
            rcases List.mem_cons.1 hf with rfl | hf
            · exact ih _ _ hl d (by omega)
            · exact ihx _ _ hr f hf
          · cases h
        · cases h
    simp only [Program.eqGuardType]
    split at h
    · rename_i ht; rw [ht]
    · rename_i k ht; rw [ht]
    · rename_i ht; rw [ht]
    · rename_i fs ht
      rw [ht]
      simp only [cond_eq_ite] at h
      split at h
      · cases h
      · simp only [Array.any_eq_false']
        intro f hf
        simp [hS _ _ _ h f (by simpa using hf)]
    · rename_i k e ht
      rw [ht]
      split at h
      · cases h
      · rename_i l hl
        exact ih _ _ hl d (by omega)
    · cases h

theorem p_eqA {W : World} (r : REnv nt φ env a.tmps) (g : GOK G φ) {b : BinOp} {neg : Bool} (hb : isCmp b = some neg) {t : TypeId} {ks : List Kd} (hag : aggT P t = some true) (hk : kindsT P 20 t = some ks) (hdep : 20 ≤ P.depth) {x y : Operand} {p q : O} (hp : toO G x = some p) (hq : toO G y = some q) {v : V} (hv : evEqA ks neg p q env = some v) :
    ∃ z, (do eqGuard b t x y (a.eval x) (a.eval y); binOp b t (a.eval x) (a.eval y) : Sem Value).run P W = .ok z W ∧ RV φ v z := by
  unfold evEqA at hv
  split at hv
  · rename_i cs hcs
    split at hv
    · rename_i ds hds
      simp only [cond_eq_ite, Bool.and_eq_true, Nat.beq_eq, len_eq] at hv
      split at hv
      · rename_i hc
        split at hv
        · rename_i res hres
          cases hv
          obtain ⟨A, hA, hrA, _⟩ := cells_ok (a := a) r g hp hcs
          obtain ⟨B, hB, hrB, _⟩ := cells_ok (a := a) r g hq hds
          obtain ⟨ag, hag', _, heq⟩ := kinds_ok (P := P) 20 t ks hk
          rw [hag] at hag'; cases hag'
          have hrun := heq φ 10000 cs ds A.toList B.toList res (by decide) hc.1 hc.2 hrA hrB hres W
          simp only [valOf, cond_true, Array.toArray_toList] at hrun
          rw [hA, hB, Sem.run_bind, run_eqGuard_agg W b t x y A B (eqGuardType_ok 20 t ks hk _ hdep)]
          simp only [Result.andThen_ok]
          cases b <;> simp only [isCmp, reduceCtorEq, Option.some.injEq] at hb <;> subst hb
          · rw [run_eql_struct, hrun]
            exact ⟨_, rfl, by simp [RV]⟩
          · rw [run_neq_struct, hrun]
            exact ⟨_, rfl, by simp [RV]⟩
        · cases hv
      · cases hv
    · cases hv
  · cases hv

end
end Go.Ev
