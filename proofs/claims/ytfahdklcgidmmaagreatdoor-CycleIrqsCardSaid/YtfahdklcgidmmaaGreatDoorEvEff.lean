/- A part of the evaluator and of the proof that its word holds in the model (EvEff). -/
import Derived.Test.YtfahdklcgidmmaaGreatDoorEvApp
namespace Go.Ev

/-- what a call comes to -/
def CPost (φ : Phi) (W : World) (r : V) (h' : H) : Ending → World → Prop
  | .returned z, W' => ∃ φ', RV φ' r z ∧ RW φ' h' W' ∧ Grow φ φ' W ∧ Ext φ W W'
  | _, _ => False

/-- a function that can be entered -/
def Enters (P : Program) (f : Nat) : Prop := ∃ fn, P.funcs[f]? = some fn ∧ fn.body.isNone = false ∧ (fn.name == "runtime.NumGoroutine") = false

/-- what the evaluator says of calls is so -/
def CallOK (P : Program) (G : List Nat) (call : Call) : Prop := ∀ f args h r h', call f args h = some (r, h') → Enters P f ∧
  ∀ (φ : Phi) (W : World) (vs : Array Value), GOK G φ → RVs φ args vs.toList → RW φ h W → Calls P f vs W (CPost φ W r h')

section
variable {P : Program} {G : List Nat} {call : Call} {nt : Nat} {φ : Phi} {h h' : H} {W : World} {env : Env} {a : Act} {v : V}
  {K : Act → World → Prop} {Q : Exit → Act → World → Prop} {o : Oper}

theorem upon_value {z : Value} {W' : World} (hr : (execOp a.eval o).run P W = .ok (.value z) W') (hK : K (a.put o.dst z) W') : o.wp P a W K Q := by
  unfold Oper.wp; rw [hr]; exact hK

theorem upon_skip {W' : World} (hr : (execOp a.eval o).run P W = .ok .skip W') (hK : K (a.put o.dst undef) W') : o.wp P a W K Q := by
  unfold Oper.wp; rw [hr]; exact hK

theorem run_callFunc {f : Nat} (he : Enters P f) (args : Array Value) (W : World) : (callFunc f args).run P W = .ok (.enter f args) W := by
  obtain ⟨fn, hf, hb, hn⟩ := he
  have hn' : ¬ fn.name = "runtime.NumGoroutine" := by simpa using hn
  have hb' : ¬ fn.body = none := by
    intro e; rw [e] at hb; cases hb
  simp [callFunc, hf, hb', hn']

theorem upon_call {f : Nat} {args : Array Value} {φ : Phi} {r : V} (hr : (execOp a.eval o).run P W = .ok (.enter f args) W) (hc : Calls P f args W (CPost φ W r h'))
    (hK : ∀ φ' z W', RV φ' r z → RW φ' h' W' → Grow φ φ' W → Ext φ W W' → K (a.put o.dst z) W') : o.wp P a W K Q := by
  unfold Oper.wp; rw [hr]
  show Calls P f args W _
  refine hc.mono fun e W' he => ?_
  cases e with
  | returned z =>
    obtain ⟨φ', h1, h2, h3, h4⟩ := he
    exact hK φ' z W' h1 h2 h3 h4
  | panicked c => exact he.elim
  | outgrown => exact he.elim

theorem one_of_leaf {v : V} (h1 : ∀ cs, v ≠ .a cs) (h2 : ∀ vs, v ≠ .t vs) (h3 : v ≠ .u) (h4 : v ≠ .z) : one v = true := by
  cases v <;> first | rfl | exact (h1 _ rfl).elim | exact (h2 _ rfl).elim | exact (h3 rfl).elim | exact (h4 rfl).elim

theorem e_store (r : REnv nt φ env a.tmps) (g : GOK G φ) (w : RW φ h W) {t : TypeId} {x y : Operand} (ho : o.op = .store t x y) {c : EC} (hc : cE P G (.store t x y) = some c) (hv : evE call c env h = some (v, h'))
    (hK : ∀ φ' z W', RV φ' v z → RW φ' h' W' → Grow φ φ' W → Ext φ W W' → K (a.put o.dst z) W') : o.wp P a W K Q := by
  simp only [cE] at hc
  split at hc
  · cases hc
  rename_i p hp
  split at hc
  · cases hc
  rename_i q hq
  split at hc
  · cases hc
  rename_i n hn
  -- the store, at an address
  have key : ∀ (b oo : Nat) (cs : List V) (h2 : H), p.ev env = some (.p b oo) → h.stn b oo cs = some h2 → RVs φ cs (a.eval y).cells.toList → cs.all one = true → cs.length = n →
      ∃ W', (execOp a.eval o).run P W = .ok .skip W' ∧ RW φ h2 W' ∧ Ext φ W W' := by
    intro b oo cs h2 hb hst hcs hone hlen
    obtain ⟨x', hx', he⟩ := ptr_ok (a := a) r g hp hb
    obtain ⟨W', hs, hr', hext⟩ := stn_ok (P := P) w hst hx' hcs hone
    refine ⟨W', ?_, hr', hext⟩
    have hsz : (a.eval y).cells.size = n := by rw [← hlen, hcs.length]; simp
    simp only [execOp, ho]
    rw [he]
    simp only [Instr.storeAt, Instr.sureAddr, storeVar, Sem.run_bind, Sem.run_pure, Result.andThen_ok, run_sizeOf hn, hsz, ne_eq, not_true_eq_false, if_false, hs]
  split at hc
  · cases hc
    simp only [evE, evStn] at hv
    split at hv
    · rename_i b oo hb
      split at hv
      · rename_i cs hcs
        simp only [cond_eq_ite, Nat.beq_eq, len_eq] at hv
        split at hv
        · rename_i hlen
          split at hv
          · rename_i h2 hst
            cases hv
            obtain ⟨A, hA, hrA, hoA⟩ := cells_ok (a := a) r g hq hcs
            obtain ⟨W', h1, h3, h4⟩ := key b oo cs h' hb hst (by rw [hA]; exact hrA) hoA hlen
            exact upon_skip h1 (hK φ _ W' (by simp only [RV]; rfl) h3 (Grow.refl _ _) h4)
          · cases hv
        · cases hv
      · cases hv
    · cases hv
  · simp only [cond_eq_ite, Nat.beq_eq] at hc
    split at hc
    · rename_i hn1
      cases hc
      simp only [evE, evSt1] at hv
      split at hv
      · rename_i b oo hb
        split at hv
        · cases hv
        · cases hv
        · cases hv
        · cases hv
        · rename_i w' ha ht hu hz hw
          split at hv
          · rename_i h2 hst
            cases hv
            have hone : one w' = true := one_of_leaf ha ht hu hz
            have hr := toO_ok hq r g hw
            obtain ⟨h1, h2'⟩ := RV.cells (one_cells hone) hr
            obtain ⟨W', g1, g3, g4⟩ := key b oo [w'] h' hb hst h1 h2' (by simp [hn1])
            exact upon_skip g1 (hK φ _ W' (by simp only [RV]; rfl) g3 (Grow.refl _ _) g4)
          · cases hv
        · cases hv
      · cases hv
    · cases hc
  · cases hc

theorem e_call (hcall : CallOK P G call) (r : REnv nt φ env a.tmps) (g : GOK G φ) (w : RW φ h W) {f : Nat} {args : Array Operand} {types : Array TypeId} (ho : o.op = .call ⟨.value (.func f), args, types⟩) {os : List O} (has : toOs G args.toList = some os)
    (hv : evCall call f os env h = some (v, h'))
    (hK : ∀ φ' z W', RV φ' v z → RW φ' h' W' → Grow φ φ' W → Ext φ W W' → K (a.put o.dst z) W') : o.wp P a W K Q := by
  unfold evCall at hv
  split at hv
  · rename_i vs hvs
    obtain ⟨hen, hc⟩ := hcall _ _ _ _ _ hv
    have hr := toOs_ok (a := a) r g has hvs
    refine upon_call (φ := φ) (r := v) (h' := h') ?_ (hc φ W (args.map a.eval) g (by simpa using hr) w) hK
    simp only [execOp, ho, resolve, Act.eval, Deferred.ofValue, Sem.run_bind, Sem.run_pure, Result.andThen_ok, invoke, Array.empty_append, Array.append_empty]
    exact run_callFunc hen _ W
  · cases hv

theorem e_callv (hcall : CallOK P G call) (r : REnv nt φ env a.tmps) (g : GOK G φ) (w : RW φ h W) {x : Operand} {args : Array Operand} {types : Array TypeId} (ho : o.op = .call ⟨.value x, args, types⟩) {p : O} (hp : toO G x = some p) {os : List O} (has : toOs G args.toList = some os)
    (hv : evCallv call p os env h = some (v, h'))
    (hK : ∀ φ' z W', RV φ' v z → RW φ' h' W' → Grow φ φ' W → Ext φ W W' → K (a.put o.dst z) W') : o.wp P a W K Q := by
  unfold evCallv at hv
  split at hv
  · rename_i f first cap hf
    split at hv
    · rename_i vs hvs
      obtain ⟨hen, hc⟩ := hcall _ _ _ _ _ hv
      have hr := toOs_ok (a := a) r g has hvs
      have hx := toO_ok hp r g hf
      simp only [RV] at hx
      obtain ⟨A, B, he, hA, hB⟩ := hx
      refine upon_call (φ := φ) (r := v) (h' := h') ?_ (hc φ W (A ++ args.map a.eval ++ B) g (by
        simp only [Array.toList_append, Array.toList_map]
        rw [app_eq, app_eq, List.append_assoc]
        exact hA.append (hr.append hB)) w) hK
      simp only [execOp, ho, resolve, he, Deferred.ofValue, Sem.run_bind, Sem.run_pure, Result.andThen_ok, invoke]
      exact run_callFunc hen _ W
    · cases hv
  · cases hv

theorem lenOf_slice (p : Option Addr) (l c : Nat) : (Builtin.lenOf (.slice p l c)).run P W = .ok l W := rfl

/-- append of a slice, the three ways -/
theorem runs_slice {t u ty e e' : TypeId} {i : TypeInfo} {z : Value} (ht : P.underlying t = some (.slice e)) (hu : P.underlying u = some (.slice e')) (hi : P.info? e = some i) (hz : i.zero = some z) (hzs : z.cells.size = i.size)
    (b : Option Addr) (l c : Nat) (p : Option Addr) (n cc : Nat) (ys : List Value) (hl : ys.length = n * i.size) (hp : p = none → n = 0)
    (hy : ∀ q, p = some q → ∀ (j : Nat) (y : Value), ys[j]? = some y → W.cell? (q.add j) = some y) :
    AppRuns P (Builtin.append_ #[t, u] ty #[.slice b l c, .slice p n cc]) b l c i.size n ys i.bytes e z W := by
  have hfirst : ∀ W1 : World, (∀ q, W1.cell? q = W.cell? q) → (Builtin.firstCells i.size n (.slice p n cc)).run P W1 = .ok ys.toArray W1 := by
    intro W1 hW
    cases p with
    | none =>
      obtain rfl := hp rfl
      have : ys = [] := List.eq_nil_of_length_eq_zero (by simpa using hl)
      subst this
      exact run_firstCells_none W1 _ _ _ _
    | some q => exact run_firstCells_some W1 i.size n q n cc ys hl (fun j v hv => by rw [hW]; exact hy q rfl j v hv)
  refine ⟨fun hn hlc => ?_, fun q W' hb hn hfit hs => ?_, fun old hn hg hold hb h32 => ?_⟩
  · subst hn
    have := hfirst W (fun _ => rfl)
    have hys : ys = [] := List.eq_nil_of_length_eq_zero (by simpa using hl)
    subst hys
    exact run_append_nothing t u ty e e' i ht hu hi b l c _ (lenOf_slice p 0 cc) this hlc
  · subst hb
    exact run_append_in t u ty e e' i ht hu hi q l c _ n ys.toArray W' (lenOf_slice p n cc) (hfirst W (fun _ => rfl)) hfit (by simpa using hs)
  · refine ⟨(Builtin.zeroCells z.cells (grownCap W (l + n) c e - (l + n))).toList, grownCap W (l + n) c e, grownCap_ge _ _ _ _, ?_, ?_⟩
    · rw [zero_length, hzs]
    · rw [run_append_new t u ty e e' i z ht hu hi hz b l c _ n old.toArray ys.toArray (lenOf_slice p n cc) hold (hfirst W.drew (fun _ => rfl)) hg (by omega) (growslice_fits hg hb)]
      congr 3
      apply Array.ext'
      simp

/-- append of zeroes, the three ways -/
theorem runs_zero {t u ty e : TypeId} {k kx : IntKind} {i : TypeInfo} {z : Value} (ht : P.underlying t = some (.slice e)) (hu : P.underlying u = some (.int k)) (hi : P.info? e = some i) (hz : i.zero = some z) (hzs : z.cells.size = i.size) (h1 : 1 ≤ i.size)
    (b : Option Addr) (l c : Nat) (n : Nat) (hn32 : n ≤ 4294967295) (hb : n * i.bytes ≤ 140737488355328) :
    AppRuns P (Builtin.append_ #[t, u] ty #[.slice b l c, .int kx (n : Int)]) b l c i.size n (Builtin.zeroCells z.cells n).toList i.bytes e z W := by
  refine ⟨fun hn hlc => ?_, fun q W' hb' hn hfit hs => ?_, fun old hn hg hold hb' h32 => ?_⟩
  · subst hn
    exact run_appendZ_nothing t u ty e k i ht hu hi b l c kx hlc
  · subst hb'
    have hns : n * i.size ≠ 0 := Nat.ne_of_gt (Nat.mul_pos hn h1)
    exact run_appendZ_in t u ty e k i z ht hu hi hz q l c kx n W' hn32 (by omega) hns hfit hs
  · have hns : n * i.size ≠ 0 := Nat.ne_of_gt (Nat.mul_pos hn h1)
    refine ⟨(Builtin.zeroCells z.cells (grownCap W (l + n) c e - (l + n))).toList, grownCap W (l + n) c e, grownCap_ge _ _ _ _, by rw [zero_length, hzs], ?_⟩
    rw [run_appendZ_new t u ty e k i z ht hu hi hz b l c kx n old.toArray hn32 (by omega) hns hold hg (by omega) (growslice_fits hg hb')]
    congr 3
    apply Array.ext'
    simp

theorem repl_zero {z : List V} {zc : Array Value} (hz : RVs φ z zc.toList) (n : Nat) : RVs φ (repl n z) (Builtin.zeroCells zc n).toList := RVs.repl hz n

/-- what is known of an append's types -/
structure AppT (P : Program) (G : List Nat) (types : Array TypeId) (args : Array Operand) (s b : Nat) (z : List V) (p q : O) : Prop where
  ex : ∃ t u e i zv x y, types[0]? = some t ∧ types[1]? = some u ∧ P.underlying t = some (.slice e) ∧ P.info? e = some i ∧ i.size = s ∧ i.bytes = b ∧ i.zero = some zv ∧ zv.cells.size = s ∧ 1 ≤ s ∧
    (∀ φ, RVs φ z zv.cells.toList ∧ z.all one = true) ∧ args[0]? = some x ∧ args[1]? = some y ∧ toO G x = some p ∧ toO G y = some q

theorem cApp_ok {types : Array TypeId} {args : Array Operand} {c : EC} (h : cApp P G types args = some c) :
    ∃ t u e e' i zv x y p q k, types[0]? = some t ∧ types[1]? = some u ∧ P.underlying t = some (.slice e) ∧ P.info? e = some i ∧ i.zero = some zv ∧ zv.cells.size = i.size ∧ 1 ≤ i.size ∧
      args[0]? = some x ∧ args[1]? = some y ∧ toO G x = some p ∧ toO G y = some q ∧
      ((P.underlying u = some (.slice e') ∧ c = .appS i.size i.bytes p q) ∨
       (P.underlying u = some (.int k) ∧ ∃ z, c = .appZ i.size i.bytes z p q ∧ ∀ φ, RVs φ z zv.cells.toList ∧ z.all one = true)) := by
  unfold cApp at h
  split at h
  · cases h
  rename_i t ht
  split at h
  · cases h
  rename_i u hu
  split at h
  · cases h
  rename_i x hx
  split at h
  · cases h
  rename_i p hp
  split at h
  · cases h
  rename_i y hy
  split at h
  · cases h
  rename_i q hq
  split at h
  · cases h
  rename_i e he
  have hte : P.underlying t = some (.slice e) := by
    unfold elemT at he
    split at he
    · rename_i e' h'; cases he; exact h'
    · cases he
  split at h
  · cases h
  rename_i s hs
  split at h
  · cases h
  rename_i b hb
  split at h
  · cases h
  rename_i z hz
  simp only [cond_eq_ite, Bool.and_eq_true, Nat.beq_eq, Nat.ble_eq, len_eq] at h
  split at h
  · rename_i hc
    obtain ⟨i, zv, hi, hzv, hzr⟩ := zeroT_ok hz
    obtain ⟨i', hi', hsz⟩ := sizeT_ok hs
    rw [hi] at hi'; cases hi'
    have hby : i.bytes = b := by
      unfold bytesT at hb
      rw [hi] at hb
      cases hb; rfl
    have hzl : zv.cells.size = i.size := by
      have := (hzr ⟨fun _ => none, fun _ => false⟩).1.length
      rw [hsz, ← hc.1]; simpa using this.symm
    subst hsz; subst hby
    split at h
    · rename_i e' hue
      cases h
      exact ⟨t, u, e, e', i, zv, x, y, p, q, .i64, ht, hu, hte, hi, hzv, hzl, hc.2, hx, hy, hp, hq, .inl ⟨hue, rfl⟩⟩
    · rename_i k hue
      cases h
      exact ⟨t, u, e, 0, i, zv, x, y, p, q, k, ht, hu, hte, hi, hzv, hzl, hc.2, hx, hy, hp, hq, .inr ⟨hue, z, rfl, hzr⟩⟩
    · cases h
  · cases h

theorem two_args {α : Type} {xs : Array α} {x y : α} (h0 : xs[0]? = some x) (h1 : xs[1]? = some y) : ∃ r, xs = #[x, y] ++ r := by
  refine ⟨xs.extract 2 xs.size, ?_⟩
  obtain ⟨l⟩ := xs
  match l, h0, h1 with
  | a :: b :: l, h0, h1 =>
    simp at h0 h1
    subst h0; subst h1
    apply Array.ext'
    simp

theorem append_args (types ty : _) (ts : Array TypeId) (x y : Value) (xs : Array Value) (t u : TypeId) (h : types = #[t, u] ++ ts) : Builtin.append_ types ty (#[x, y] ++ xs) = Builtin.append_ #[t, u] ty #[x, y] := by
  subst h
  have e0 : (#[t, u] ++ ts)[0]? = some t := by simp [Array.getElem?_append]
  have e1 : (#[t, u] ++ ts)[1]? = some u := by simp [Array.getElem?_append]
  have e2 : (#[x, y] ++ xs)[0]? = some x := by simp [Array.getElem?_append]
  have e3 : (#[x, y] ++ xs)[1]? = some y := by simp [Array.getElem?_append]
  have e4 : #[t, u][0]? = some t := rfl
  have e5 : #[t, u][1]? = some u := rfl
  have e6 : #[x, y][0]? = some x := rfl
  have e7 : #[x, y][1]? = some y := rfl
  unfold Builtin.append_
  simp only [e0, e1, e2, e3, e4, e5, e6, e7]

theorem e_append (r : REnv nt φ env a.tmps) (g : GOK G φ) (w : RW φ h W) {args : Array Operand} {types : Array TypeId} (ho : o.op = .call ⟨.builtin .append, args, types⟩) {c : EC} (hc : cApp P G types args = some c)
    (hv : evE call c env h = some (v, h'))
    (hK : ∀ φ' z W', RV φ' v z → RW φ' h' W' → Grow φ φ' W → Ext φ W W' → K (a.put o.dst z) W') : o.wp P a W K Q := by
  obtain ⟨t, u, e, e', i, zv, x, y, p, q, k, ht, hu, hte, hi, hzv, hzl, hs1, hx, hy, hp, hq, hcase⟩ := cApp_ok hc
  obtain ⟨ts, hts⟩ := two_args ht hu
  obtain ⟨xs, hxs⟩ := two_args hx hy
  have hargs : args.map a.eval = #[a.eval x, a.eval y] ++ xs.map a.eval := by rw [hxs]; simp
  have hexec : ∀ (z : Value) (W' : World), (Builtin.append_ #[t, u] o.type #[a.eval x, a.eval y]).run P W = .ok z W' → (execOp a.eval o).run P W = .ok (.value z) W' := by
    intro z W' hr
    simp only [execOp, ho, resolve, Sem.run_bind, Sem.run_pure, Result.andThen_ok, invoke, builtin]
    rw [hargs, append_args types o.type ts (a.eval x) (a.eval y) (xs.map a.eval) t u hts, hr]
    rfl
  rcases hcase with ⟨hue, rfl⟩ | ⟨hue, z, rfl, hzr⟩
  · simp only [evE, evAppS] at hv
    split at hv
    · rename_i X hX
      split at hv
      · rename_i Y hY
        split at hv
        · rename_i rr hrr
          have hrx := toO_ok hp r g hX
          have hry := toO_ok hq r g hY
          obtain ⟨n, cs⟩ := rr
          obtain ⟨pp, cc, ys, hye, hpn, hyl, hyr, hyo, hycell, _⟩ := src_ok w hrr hry
          obtain ⟨φ', z, W', hrun, h1, h2, h3, h4⟩ := append_ok w hv hrx hs1 hyl hyr hyo (m := Builtin.append_ #[t, u] o.type #[a.eval x, a.eval y]) (e := e) (z := zv) hzl
            (fun b l c hb => by rw [hb, hye]; exact runs_slice hte hue hi hzv hzl b l c pp n cc ys hyl hpn hycell)
          exact upon_value (hexec z W' hrun) (hK φ' z W' h1 h2 h3 h4)
        · cases hv
      · cases hv
    · cases hv
  · simp only [evE, evAppZ] at hv
    split at hv
    · rename_i X hX
      split at hv
      · rename_i n hn
        simp only [cond_eq_ite, Bool.and_eq_true, Nat.ble_eq] at hv
        split at hv
        · rename_i hb
          have hrx := toO_ok hp r g hX
          obtain ⟨kx, hkx⟩ := nat_ok (a := a) r g hq hn
          obtain ⟨hz1, hz2⟩ := hzr φ
          obtain ⟨φ', z', W', hrun, h1, h2, h3, h4⟩ := append_ok w hv hrx hs1 (by rw [zero_length, hzl]) (repl_zero hz1 n) (one_repl hz2 n) (m := Builtin.append_ #[t, u] o.type #[a.eval x, a.eval y]) (e := e) (z := zv) hzl
            (fun b l c hb' => by rw [hb', hkx]; exact runs_zero hte hue hi hzv hzl hs1 b l c n hb.2 hb.1)
          exact upon_value (hexec z' W' hrun) (hK φ' z' W' h1 h2 h3 h4)
        · cases hv
      · cases hv
    · cases hv

end
end Go.Ev
