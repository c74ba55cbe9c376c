/- A part of the evaluator and of the proof that its word holds in the model (EvCode). -/
import Derived.Test.YtfahdklcgidmmaaGreatDoorEvOps
import Derived.LoopN
import Derived.Scope
namespace Go.Ev

def exitOf : X → Exit
  | .nrm => .normal
  | .exit id => .exit id
  | .ret => .ret

/-- what is to be shown of drawn regions -/
def PlanOK (P : Program) (G : List Nat) (call : Call) : Prop :=
  ∀ (nt : Nat) (ops : Array Oper) (order : List Nat) (items : List PI) (env env' : Env) (h h' : H) (φ : Phi) (W : World) (a : Act) (Q : Exit → Act → World → Prop),
    cPlan P G nt ops order = some items → evPlan call items env h [h] = some (env', h') → REnv nt φ env a.tmps → GOK G φ → RW φ h W →
    (∀ a' W', KPost nt φ W env' h' a.defers a' W' → Q .normal a' W') → wpAny P .any ops Q ops.size (Array.replicate ops.size false) a W

theorem gcGo_sub (bl : T Blk) : ∀ (n : Nat) (l : List Nat) (new : T Blk) (b : Nat) (k : Blk), (gcGo bl n l new).get b = some k → new.get b = some k ∨ bl.get b = some k := by
  intro n
  induction n with
  | zero => intro l new b k h; exact .inl h
  | succ n ih =>
    intro l new b k h
    cases l with
    | nil => exact .inl h
    | cons c l =>
      simp only [gcGo] at h
      split at h
      · exact ih _ _ _ _ h
      · split at h
        · exact ih _ _ _ _ h
        · rename_i kc hkc
          rcases ih _ _ _ _ h with h' | h'
          · rw [T.get_set] at h'
            split at h'
            · rename_i e; cases h'; subst e; exact .inr hkc
            · exact .inl h'
          · exact .inr h'

theorem RW.gc {φ : Phi} {h : H} {W : World} (r : RW φ h W) (keep : Nat) (env : Env) : RW φ (gcH keep env h) W :=
  r.less ⟨rfl, rfl, fun b k hb => by
    rcases gcGo_sub _ _ _ _ _ _ hb with h' | h'
    · rw [T.get_e] at h'; cases h'
    · exact ⟨k, h', rfl, rfl, rfl, fun j v hv => .inr hv⟩⟩

section
variable {P : Program} {G : List Nat} {call : Call} {nt : Nat} {lf : Nat}

/-- how code ends -/
def CEnd (nt : Nat) (φ : Phi) (W : World) (x : X) (env' : Env) (h' : H) (ds : List Deferred) (e : Exit) (a' : Act) (W' : World) : Prop :=
  e = exitOf x ∧ KPost nt φ W env' h' ds a' W'

/-- what is to be shown of a piece of code -/
def CodeOK (P : Program) (G : List Nat) (call : Call) (nt lf : Nat) (c : Code) (k : K) : Prop :=
  ∀ (env : Env) (h : H) (x : X) (env' : Env) (h' : H), evK call lf k env h = some (x, env', h') → ∀ (φ : Phi) (W : World) (a : Act), REnv nt φ env a.tmps → GOK G φ → RW φ h W →
    c.wp P (CEnd nt φ W x env' h' a.defers) a W

theorem loop_ok {c : Code} {f : Env → H → Option (X × Env × H)}
    (hf : ∀ (env : Env) (h : H) (x : X) (env' : Env) (h' : H), f env h = some (x, env', h') → ∀ (φ : Phi) (W : World) (a : Act), REnv nt φ env a.tmps → GOK G φ → RW φ h W → c.wp P (CEnd nt φ W x env' h' a.defers) a W) :
    ∀ (n : Nat) (env : Env) (h : H) (x : X) (env' : Env) (h' : H), iter f n env h = some (x, env', h') → ∀ (φ : Phi) (W : World) (a : Act) (Q : Exit → Act → World → Prop), REnv nt φ env a.tmps → GOK G φ → RW φ h W →
      (∀ e a' W', CEnd nt φ W x env' h' a.defers e a' W' → Q e a' W') → Code.rounds P c Q n a W := by
  intro n
  induction n with
  | zero => intro env h x env' h' hv; simp [iter] at hv
  | succ n ih =>
    intro env h x env' h' hv φ W a Q r g w hQ
    simp only [iter] at hv
    split at hv
    · cases hv
    rename_i rr hrr
    obtain ⟨x1, env1, h1⟩ := rr
    rw [rounds_succ]
    refine wp_mono (hf env h x1 env1 h1 hrr φ W a r g w) fun e a' W' he => ?_
    obtain ⟨rfl, φ', d1, d2, d3, d4, d5⟩ := he
    cases x1 with
    | nrm =>
      refine ih env1 h1 x env' h' hv φ' W' a' Q d2 (g.mono d4.le) d3 fun e a'' W'' he => hQ e a'' W'' ?_
      obtain ⟨he, hk⟩ := he
      rw [d1] at hk
      exact ⟨he, hk.trans d4 d5⟩
    | exit id =>
      cases hv
      exact hQ _ a' W' ⟨rfl, φ', d1, d2, d3, d4, d5⟩
    | ret =>
      cases hv
      exact hQ _ a' W' ⟨rfl, φ', d1, d2, d3, d4, d5⟩

theorem code_ok (hcall : CallOK P G call) (hmix : P.follows .mixedOrders = true) (hplan : PlanOK P G call) : ∀ (c : Code) (hs : List (List Nat)), CodeOK P G call nt lf c (cK P G nt c hs).1 := by
  have bad : ∀ c : Code, CodeOK P G call nt lf c .bad := fun c env h x env' h' hv => by simp [evK] at hv
  intro c
  induction c with
  | skip =>
    intro hs env h x env' h' hv φ W a r g w
    simp only [cK, evK, Option.some.injEq, Prod.mk.injEq] at hv
    obtain ⟨rfl, rfl, rfl⟩ := hv
    exact wp_skip ⟨rfl, φ, rfl, r, w, Grow.refl _ _, Ext.refl _ _⟩
  | region id ops draw =>
    intro hs
    cases draw with
    | false =>
      simp only [cK]
      split
      · rename_i l hl
        intro env h x env' h' hv φ W a r g w
        simp only [evK] at hv
        split at hv
        · rename_i rr hrr
          cases hv
          have := ops_ok (Q := CEnd nt φ W .nrm env' h' a.defers) hcall ops.toList 0 l φ env env' h h' W a rfl hl hrr r g w (fun a' W' hk => ⟨rfl, hk⟩)
          refine wp_region ?_
          rw [List.range_eq_range']
          simpa using this
        · cases hv
      · exact bad _
    | true =>
      simp only [cK]
      split
      · exact bad _
      · rename_i order hs
        split
        · rename_i l hl
          intro env h x env' h' hv φ W a r g w
          simp only [evK] at hv
          split at hv
          · rename_i rr hrr
            cases hv
            refine wp_region_any hmix ?_
            have e : Ext φ W { W with drawn := W.drawn + 1 } := Ext.same rfl rfl rfl rfl
            have w' : RW φ h { W with drawn := W.drawn + 1 } := w.drawn rfl
            exact hplan nt ops order l env env' h h' φ _ a _ hl hrr r g w' fun a' W' hk => ⟨rfl, hk.trans (Grow.refl _ _) e⟩
          · cases hv
        · exact bad _
  | seq x y ihx ihy =>
    intro hs env h x' env' h' hv φ W a r g w
    simp only [cK, evK] at hv
    split at hv
    · cases hv
    rename_i rr hrr
    obtain ⟨x1, env1, h1⟩ := rr
    refine wp_seq (wp_mono (ihx hs env h x1 env1 h1 hrr φ W a r g w) fun e a' W' he => ?_)
    obtain ⟨rfl, φ', d1, d2, d3, d4, d5⟩ := he
    cases x1 with
    | nrm =>
      refine wp_mono (ihy _ env1 h1 x' env' h' hv φ' W' a' d2 (g.mono d4.le) d3) fun e a'' W'' he => ?_
      obtain ⟨he, hk⟩ := he
      rw [d1] at hk
      exact ⟨he, hk.trans d4 d5⟩
    | exit id =>
      cases hv
      exact ⟨rfl, φ', d1, d2, d3, d4, d5⟩
    | ret =>
      cases hv
      exact ⟨rfl, φ', d1, d2, d3, d4, d5⟩
  | cond c x y ihx ihy =>
    intro hs
    simp only [cK]
    split
    · exact bad _
    rename_i o ho
    intro env h x' env' h' hv φ W a r g w
    simp only [evK] at hv
    split at hv
    · rename_i b hb
      have hr := toO_ok ho r g hb
      simp only [RV] at hr
      refine wp_cond hr ?_
      cases b
      · exact ihy _ env h x' env' h' hv φ W a r g w
      · exact ihx _ env h x' env' h' hv φ W a r g w
    · cases hv
  | block id c ih =>
    intro hs env h x env' h' hv φ W a r g w
    simp only [cK, evK] at hv
    split at hv
    · cases hv
    rename_i rr hrr
    obtain ⟨x1, env1, h1⟩ := rr
    refine wp_block (wp_mono (ih hs env h x1 env1 h1 hrr φ W a r g w) fun e a' W' he => ?_)
    obtain ⟨rfl, hk⟩ := he
    cases x1 with
    | nrm => cases hv; exact ⟨rfl, hk⟩
    | ret => cases hv; exact ⟨rfl, hk⟩
    | exit id' =>
      simp only [cond_eq_ite, Nat.beq_eq] at hv
      simp only [exitOf, Exit.inBlock]
      split at hv
      · rename_i e
        cases hv
        rw [if_pos e]
        exact ⟨rfl, hk⟩
      · rename_i e
        cases hv
        rw [if_neg e]
        exact ⟨rfl, hk⟩
  | loop c ih =>
    intro hs
    simp only [cK]
    split
    · exact bad _
    rename_i g' hs'
    split
    · intro env h x env' h' hv φ W a r g w
      simp only [evK] at hv
      exact wp_loop_rounds lf (loop_ok (ih _) lf env h x env' h' hv φ W a _ r g w fun e a' W' he => he)
    · rename_i k _
      intro env h x env' h' hv φ W a r g w
      simp only [evK] at hv
      refine wp_loop_rounds lf (loop_ok (f := evK call lf (.seq (.gc k) (cK P G nt c hs').1)) ?_ lf env h x env' h' hv φ W a _ r g w fun e a' W' he => he)
      intro env h x env' h' hv φ W a r g w
      simp only [evK] at hv
      exact ih _ env _ x env' h' hv φ W a r g (w.gc k env)
  | rangeFunc f ps x y _ _ => intro hs; exact bad _
  | exit id =>
    intro hs env h x env' h' hv φ W a r g w
    simp only [cK, evK, Option.some.injEq, Prod.mk.injEq] at hv
    obtain ⟨rfl, rfl, rfl⟩ := hv
    exact wp_exit ⟨rfl, φ, rfl, r, w, Grow.refl _ _, Ext.refl _ _⟩
  | scope c ih =>
    intro hs env h x env' h' hv φ W a r g w
    simp only [cK] at hv
    refine wp_scope_straight (wp_mono (ih hs env h x env' h' hv φ W a r g w) fun e a' W' he => ?_)
    obtain ⟨rfl, hk⟩ := he
    cases x <;> exact ⟨rfl, hk⟩
  | label l =>
    intro hs env h x env' h' hv φ W a r g w
    simp only [cK, evK, Option.some.injEq, Prod.mk.injEq] at hv
    obtain ⟨rfl, rfl, rfl⟩ := hv
    exact wp_label ⟨rfl, φ, rfl, r, w, Grow.refl _ _, Ext.refl _ _⟩
  | goto l => intro hs; exact bad _
  | ret =>
    intro hs env h x env' h' hv φ W a r g w
    simp only [cK, evK, Option.some.injEq, Prod.mk.injEq] at hv
    obtain ⟨rfl, rfl, rfl⟩ := hv
    exact wp_ret ⟨rfl, φ, rfl, r, w, Grow.refl _ _, Ext.refl _ _⟩
  | refuse why => intro hs; exact bad _

/-! functions -/

theorem envOf_get : ∀ (vs : List V) (n : Nat) (env : Env) (t : Nat), (envOf vs n env).get t = if n ≤ t ∧ t < n + vs.length then vs[t - n]? else env.get t := by
  intro vs
  induction vs with
  | nil => intro n env t; simp [envOf]; intro h1 h2; omega
  | cons v vs ih =>
    intro n env t
    simp only [envOf, ih, T.get_set, List.length_cons]
    by_cases h1 : t = n
    · subst h1
      rw [if_neg (by omega), if_pos rfl, if_pos (by omega)]
      simp
    · by_cases h2 : n + 1 ≤ t ∧ t < n + 1 + vs.length
      · rw [if_pos h2, if_pos (by omega), show t - n = (t - (n + 1)) + 1 by omega]
        rfl
      · rw [if_neg h2, if_neg h1, if_neg (by omega)]

theorem start_env {φ : Phi} {args : List V} {vs : Array Value} (hr : RVs φ args vs.toList) {n : Nat} (hn : args.length ≤ n) : REnv n φ (envOf args 0 .e) (vs ++ Array.replicate (n - vs.size) undef) := by
  have hl := hr.length
  simp only [Array.length_toList] at hl
  refine ⟨by simp; omega, fun t v hv => ?_⟩
  rw [envOf_get, T.get_e] at hv
  split at hv
  · rename_i hc
    obtain ⟨y, hy, hry⟩ := hr.get hv
    have hy' : vs[t - 0]? = some y := by simpa using hy
    rw [Nat.sub_zero] at hy'
    obtain ⟨hlt, he⟩ := Array.getElem?_eq_some_iff.1 hy'
    have : (vs ++ Array.replicate (n - vs.size) undef)[t]? = some y := by
      rw [Array.getElem?_append_left hlt]; exact hy'
    simp only [Array.getD_eq_getD_getElem?, this, Option.getD_some]
    exact hry
  · cases hv

theorem results_ok {φ : Phi} {env : Env} {h : H} {W : World} {tmps : Array Value} (r : REnv nt φ env tmps) (w : RW φ h W) : ∀ (l : List ResultVar) (rs : List R) (vs : List V), mapO (cR P) l = some rs → resV env h rs = some vs →
    ∃ xs : List Value, (l.mapM (fun
      | .tmp t => pure (tmps.getD t undef)
      | .cell a t => do loadVar t (← asAddr (tmps.getD a undef)) : ResultVar → Sem Value)).run P W = .ok xs W ∧ RVs φ vs xs := by
  intro l
  induction l with
  | nil =>
    intro rs vs h1 h2
    simp only [mapO, Option.some.injEq] at h1
    subst h1
    simp only [resV, Option.some.injEq] at h2
    subst h2
    exact ⟨[], rfl, by simp [RVs]⟩
  | cons q l ih =>
    intro rs vs h1 h2
    simp only [mapO] at h1
    split at h1
    · cases h1
    rename_i rq hrq
    split at h1
    · cases h1
    rename_i rs' hrs'
    cases h1
    simp only [resV] at h2
    split at h2
    · cases h2
    rename_i v hv
    split at h2
    · cases h2
    rename_i vs' hvs'
    cases h2
    obtain ⟨xs, hxs, hrx⟩ := ih rs' vs' hrs' hvs'
    have one_ : ∃ x, ((fun
      | .tmp t => pure (tmps.getD t undef)
      | .cell a t => do loadVar t (← asAddr (tmps.getD a undef)) : ResultVar → Sem Value) q).run P W = .ok x W ∧ RV φ v x := by
      cases q with
      | tmp t =>
        simp only [cR, Option.some.injEq] at hrq
        subst hrq
        simp only [R.ev] at hv
        exact ⟨_, rfl, r.get t v hv⟩
      | cell a t =>
        simp only [cR] at hrq
        split at hrq
        · rename_i ha
          split at hrq
          · rename_i n hn
            cases hrq
            simp only [R.ev, evLdn, O.ev] at hv
            split at hv
            · rename_i b oo hb
              split at hv
              · rename_i cs hcs
                cases hv
                have hp := r.get a _ hb
                simp only [RV] at hp
                obtain ⟨y, hy, he⟩ := hp
                obtain ⟨ys, hl, hr, ho, hcell⟩ := ldn_ok w hcs hy
                refine ⟨.agg ys.toArray, ?_, ?_⟩
                · show (do loadVar t (← asAddr (tmps.getD a undef)) : Sem Value).run P W = _
                  rw [he]
                  simp only [asAddr, Sem.run_bind, Sem.run_pure, Result.andThen_ok]
                  exact run_load_agg ha hn _ ys hl hcell
                · simp only [RV]; exact ⟨_, rfl, by simpa using hr, ho⟩
              · cases hv
            · cases hv
          · cases hrq
        · rename_i ha
          cases hrq
          simp only [R.ev, evLd1, O.ev] at hv
          split at hv
          · rename_i b oo hb
            have hp := r.get a _ hb
            simp only [RV] at hp
            obtain ⟨y, hy, he⟩ := hp
            obtain ⟨_, z, hz, hr⟩ := ld1_ok w hv hy
            refine ⟨z, ?_, hr⟩
            show (do loadVar t (← asAddr (tmps.getD a undef)) : Sem Value).run P W = _
            rw [he]
            simp only [asAddr, Sem.run_bind, Sem.run_pure, Result.andThen_ok]
            exact run_load_one ha _ hz
          · cases hv
        · cases hrq
    obtain ⟨x, hx, hrx'⟩ := one_
    refine ⟨x :: xs, ?_, by simp only [RVs]; exact ⟨x, xs, rfl, hrx', hrx⟩⟩
    rw [List.mapM_cons, Sem.run_bind, hx]
    simp only [Result.andThen_ok, Sem.run_bind, hxs, Sem.run_pure]

theorem func_ok (hcall : CallOK P G call) (hmix : P.follows .mixedOrders = true) (hplan : PlanOK P G call) {f : Nat} {fn : Func} {hs : List (List Nat)} {F : F} (hf : P.funcs[f]? = some fn) (hc : cF P G fn hs = some F)
    {args : List V} {h h' : H} {v : V} (hv : runF call lf F args h = some (v, h')) {φ : Phi} {W : World} {vs : Array Value} (g : GOK G φ) (ha : RVs φ args vs.toList) (w : RW φ h W) : Calls P f vs W (CPost φ W v h') := by
  unfold cF at hc
  split at hc
  · cases hc
  rename_i b hb
  split at hc
  · cases hc
  rename_i rs hrs
  simp only [cond_eq_ite, Nat.ble_eq] at hc
  split at hc
  · rename_i hn
    cases hc
    simp only [runF, cond_eq_ite, Nat.beq_eq, len_eq] at hv
    split at hv
    case isFalse => cases hv
    rename_i hl
    split at hv
    case h_2 => cases hv
    rename_i rr hrr
    obtain ⟨x, env1, h1⟩ := rr
    refine calls_of_wp hf hb (wp_mono (code_ok hcall hmix hplan b hs _ h x env1 h1 hrr φ W _ (start_env ha (by omega)) g w) fun e a' W' he => ?_)
    obtain ⟨rfl, φ', d1, d2, d3, d4, d5⟩ := he
    have fin : ∀ us : List V, resV env1 h1 rs = some us → h1 = h' → packR us = v → a'.defers = [] ∧ ∃ z, (results fn a'.tmps).run P W' = .ok z W' ∧ CPost φ W v h' (.returned z) W' := by
      intro us hus hh hp
      subst hh; subst hp
      obtain ⟨xs, hxs, hrx⟩ := results_ok (P := P) d2 d3 fn.results.toList rs us hrs hus
      have hrun : (results fn a'.tmps).run P W' = .ok (if h : xs.toArray.size = 1 then xs.toArray[0] else .tuple xs.toArray) W' := by
        unfold results
        rw [Array.mapM_eq_mapM_toList, Sem.run_bind, Sem.run_map]
        exact (congrArg (fun r => Result.andThen (Result.andThen r _) _) hxs).trans rfl
      refine ⟨d1, _, hrun, φ', ?_, d3, d4, d5⟩
      have hl := hrx.length
      match us, xs, hrx, hl with
      | [], [], _, _ => simp [packR, RV]
      | [v1], [y], hrx, _ =>
        simp only [RVs] at hrx
        obtain ⟨y', ys', e, hy, _⟩ := hrx
        cases e
        simpa [packR] using hy
      | u1 :: u2 :: us, y1 :: y2 :: ys, hrx, _ =>
        simp only [packR, RV]
        exact ⟨(y1 :: y2 :: ys).toArray, by simp, by simpa using hrx⟩
    cases x with
    | exit id => cases hv
    | nrm =>
      simp only at hv
      split at hv
      · rename_i us hus
        cases hv
        exact fin us hus rfl rfl
      · cases hv
    | ret =>
      simp only at hv
      split at hv
      · rename_i us hus
        cases hv
        exact fin us hus rfl rfl
      · cases hv
  · cases hc

/-- a table of functions that are the program's -/
def TabOK (P : Program) (G : List Nat) (tab : Nat → Option F) : Prop :=
  ∀ f F, tab f = some F → ∃ fn hs, P.funcs[f]? = some fn ∧ cF P G fn hs = some F ∧ (fn.name == "runtime.NumGoroutine") = false

/-- THE EVALUATOR'S WORD HOLDS -/
theorem ev_ok (hmix : P.follows .mixedOrders = true) (hplan : ∀ call, CallOK P G call → PlanOK P G call) {tab : Nat → Option F} (ht : TabOK P G tab) : ∀ n, CallOK P G (ev tab lf n) := by
  intro n
  induction n with
  | zero => intro f args h r h' hv; simp [ev] at hv
  | succ n ih =>
    intro f args h r h' hv
    simp only [ev] at hv
    split at hv
    · cases hv
    rename_i F hF
    obtain ⟨fn, hs, h1, h2, h3⟩ := ht f F hF
    refine ⟨⟨fn, h1, ?_, h3⟩, fun φ W vs g ha w => func_ok ih hmix (hplan _ ih) h1 h2 hv g ha w⟩
    unfold cF at h2
    split at h2
    · cases h2
    · rename_i b hb; rw [hb]; rfl

end
end Go.Ev
