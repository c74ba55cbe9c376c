/- A part of the evaluator and of the proof that its word holds in the model (EvOps). -/
import Derived.Test.YtfahdklcgidmmaaGreatDoorEvEff2
import Derived.Orders
namespace Go.Ev

section
variable {P : Program} {G : List Nat} {call : Call} {nt : Nat} {φ : Phi} {h h' : H} {W : World} {env : Env} {a : Act} {v : V}
  {K : Act → World → Prop} {Q : Exit → Act → World → Prop} {o : Oper} {ops : Array Oper}

/-- ANY OPERATION -/
theorem gen_ok (hcall : CallOK P G call) (r : REnv nt φ env a.tmps) (g : GOK G φ) (w : RW φ h W) {c : C} (hc : cC P G o.op = some c) (hv : evC call c env h = some (v, h'))
    (hK : ∀ φ' z W', RV φ' v z → RW φ' h' W' → Grow φ φ' W → Ext φ W W' → K (a.put o.dst z) W') : o.wp P a W K Q := by
  cases c with
  | P c =>
    simp only [evC] at hv
    split at hv
    · rename_i v' hv'
      cases hv
      obtain ⟨z, hz, hr⟩ := pure_ok r g hc hv' W
      exact upon_value hz (hK φ z W hr w (Grow.refl _ _) (Ext.refl _ _))
    · cases hv
  | L c =>
    simp only [evC] at hv
    split at hv
    · rename_i v' hv'
      cases hv
      obtain ⟨z, hz, hr⟩ := load_ok (Phi.le_refl φ) r g w hc hv'
      exact upon_value hz (hK φ z W hr w (Grow.refl _ _) (Ext.refl _ _))
    · cases hv
  | A c =>
    simp only [evC] at hv
    split at hv
    · rename_i q hq
      cases hv
      obtain ⟨z, W', cc, hz, hm, hr⟩ := alloc_ok r g hc hq W
      obtain ⟨h1, h2, h3⟩ := w.made hm
      exact upon_value hz (hK _ z W' (hr _ _ (Phi.upd_same _ _ _)) h1 h2 h3)
    · cases hv
  | E c =>
    simp only [evC] at hv
    exact eff_ok hcall r g w hc hv hK

theorem cCO_ok {o : Oper} {co : CO} (h : cCO P G nt ops o = some co) : cC P G o.op = some co.op ∧ cG ops o.guard = some co.g ∧ co.d = o.dst ∧ dstOk nt o.dst = true := by
  unfold cCO at h
  split at h
  · cases h
  rename_i c hc
  split at h
  · cases h
  rename_i g hg
  simp only [cond_eq_ite] at h
  split at h
  · rename_i hd
    cases h
    exact ⟨hc, hg, rfl, hd⟩
  · cases h

theorem wanted_ok {φ : Phi} (hget : ∀ t v, env.get t = some v → (∃ w, o.guard = some w ∧ ∃ q, ops[w.1]? = some q ∧ q.dst = some t) → RV φ v (a.tmps.getD t undef)) {g : Option (Nat × Bool)} (hg : cG ops o.guard = some g) {b : Bool} (hb : wantG env g = some b) :
    Region.wanted o (yielded ops a.tmps) = b := by
  unfold cG at hg
  unfold Region.wanted
  split at hg
  · rename_i e
    cases hg
    rw [e]
    simp only [wantG, Option.some.injEq] at hb
    exact hb
  · rename_i j w e
    rw [e]
    split at hg
    · cases hg
    rename_i q hq
    split at hg
    · rename_i d hd
      cases hg
      simp only [wantG] at hb
      have hy : yielded ops a.tmps j = match a.tmps[d]? with
          | some (.bool b) => some b
          | _ => none := by
        simp only [yielded, hq, Option.bind_some, hd]
        rfl
      simp only [hy]
      split at hb
      · rename_i x hx
        cases hb
        have hr := hget d _ hx ⟨(j, w), e, q, hq, hd⟩
        simp only [RV] at hr
        have : a.tmps[d]? = some (.bool x) := by
          cases ht : a.tmps[d]? with
          | none => simp [ht, undef] at hr
          | some y => simp [ht] at hr; rw [hr]
        rw [this]
        cases x <;> cases w <;> rfl
      · rename_i hx
        cases hb
        have hr := hget d _ hx ⟨(j, w), e, q, hq, hd⟩
        simp only [RV] at hr
        cases ht : a.tmps[d]? with
        | none => rfl
        | some y =>
          simp [ht] at hr
          subst hr
          rfl
      · cases hb
    · cases hg

/-- how a piece of code leaves things -/
def KPost (nt : Nat) (φ : Phi) (W : World) (env' : Env) (h' : H) (ds : List Deferred) (a' : Act) (W' : World) : Prop :=
  ∃ φ', a'.defers = ds ∧ REnv nt φ' env' a'.tmps ∧ RW φ' h' W' ∧ Grow φ φ' W ∧ Ext φ W W'

theorem KPost.trans {φ ψ : Phi} {W W1 : World} {env' : Env} {h' : H} {ds : List Deferred} {a' : Act} {W' : World} (g : Grow φ ψ W) (e : Ext φ W W1) (k : KPost nt ψ W1 env' h' ds a' W') : KPost nt φ W env' h' ds a' W' := by
  obtain ⟨φ', h1, h2, h3, h4, h5⟩ := k
  exact ⟨φ', h1, h2, h3, g.trans h4 e.size, e.trans h5 g⟩

/-- operations in their order -/
theorem ops_ok (hcall : CallOK P G call) : ∀ (l : List Oper) (k : Nat) (cos : List CO) (φ : Phi) (env env' : Env) (h h' : H) (W : World) (a : Act), ops.toList.drop k = l → cReg P G nt ops l = some cos → evOps call cos env h = some (env', h') →
    REnv nt φ env a.tmps → GOK G φ → RW φ h W → (∀ a' W', KPost nt φ W env' h' a.defers a' W' → Q .normal a' W') → wpOps P ops Q (List.range' k l.length) a W := by
  intro l
  induction l with
  | nil =>
    intro k cos φ env env' h h' W a _ hc hv r g w hQ
    simp only [cReg, Option.some.injEq] at hc
    subst hc
    simp only [evOps, Option.some.injEq, Prod.mk.injEq] at hv
    obtain ⟨rfl, rfl⟩ := hv
    exact hQ a W ⟨φ, rfl, r, w, Grow.refl _ _, Ext.refl _ _⟩
  | cons o l ih =>
    intro k cos φ env env' h h' W a hk hc hv r g w hQ
    simp only [cReg] at hc
    split at hc
    · cases hc
    rename_i co hco
    split at hc
    · rename_i l' hl'
      cases hc
    rename_i cs hcs
    cases hc
    obtain ⟨h1, h2, h3, h4⟩ := cCO_ok hco
    have hget : ops[k]? = some o := by
      have : ops.toList[k]? = some o := by
        have e := congrArg (·[0]?) hk
        simpa using e
      simpa using this
    have hdrop : ops.toList.drop (k + 1) = l := by
      have e := congrArg (List.drop 1) hk
      rw [List.drop_drop] at e
      simpa using e
    rw [List.length_cons, List.range'_succ]
    simp only [wpOps, hget]
    simp only [evOps] at hv
    split at hv
    · cases hv
    · rename_i hw
      rw [wanted_ok (fun t v hv _ => r.get t v hv) h2 hw]
      simp only [Bool.false_eq_true, if_false]
      refine ih (k + 1) cs φ (putE env co.d .u) env' h h' W _ hdrop hcs hv (by rw [h3]; exact r.put h4 (by simp only [RV]; rfl)) g w fun a' W' hK => hQ a' W' ?_
      rw [act_put_defers] at hK
      exact hK
    · rename_i hw
      rw [wanted_ok (fun t v hv _ => r.get t v hv) h2 hw]
      simp only [if_true]
      split at hv
      · cases hv
      rename_i rr hrr
      refine .inl (gen_ok hcall r g w h1 hrr fun φ' z W' g1 g2 g3 g4 => ?_)
      refine ih (k + 1) cs φ' _ env' _ h' W' _ hdrop hcs hv (by rw [h3]; exact (r.mono g3.le).put h4 g1) (g.mono g3.le) g2 fun a' W'' hK => hQ a' W'' ?_
      rw [act_put_defers] at hK
      exact hK.trans g3 g4

end
end Go.Ev
