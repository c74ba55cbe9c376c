/- A part of the evaluator and of the proof that its word holds in the model (EvPlan3). -/
import Derived.Test.YtfahdklcgidmmaaGreatDoorEvPlan2
namespace Go.Ev

def cut (n : Nat) (Φ : Phi) : Phi := ⟨fun b => if b < n then Φ b else none, Φ.ro⟩

theorem cut_le (n : Nat) (Φ : Phi) : (cut n Φ).le Φ := by
  refine ⟨fun b x h => ?_, rfl⟩
  simp only [cut] at h
  split at h
  · exact h
  · cases h
theorem cut_lt {n : Nat} {Φ : Phi} {b : Nat} {x : Nat × Nat × Nat} (h : cut n Φ b = some x) : b < n ∧ Φ b = some x := by
  simp only [cut] at h
  split at h
  · rename_i hb; exact ⟨hb, h⟩
  · cases h
theorem cut_of {n : Nat} {Φ : Phi} {b : Nat} {x : Nat × Nat × Nat} (hb : b < n) (h : Φ b = some x) : cut n Φ b = some x := by simp [cut, hb, h]
theorem cut_mono {m n : Nat} (Φ : Phi) (h : m ≤ n) : (cut m Φ).le (cut n Φ) := by
  refine ⟨fun b x hb => ?_, rfl⟩
  obtain ⟨h1, h2⟩ := cut_lt hb
  exact cut_of (by omega) h2

/-! what is a value under a part of the map, is it under the part -/
mutual
theorem RV.restrict {φ Φ : Phi} (le : φ.le Φ) : ∀ (v : V) (y z : Value), RV φ v y → RV Φ v z → RV φ v z
  | .u, y, z, _, h => by simpa only [RV] using h
  | .z, y, z, _, h => by simp only [RV] at h
  | .b _, y, z, _, h => by simpa only [RV] using h
  | .i _ _, y, z, _, h => by simpa only [RV] using h
  | .s _, y, z, _, h => by simpa only [RV] using h
  | .pn, y, z, _, h => by simpa only [RV] using h
  | .p b o, y, z, g, h => by
    simp only [RV] at g h ⊢
    obtain ⟨x, hx, _⟩ := g
    obtain ⟨x', hx', e⟩ := h
    rw [le.sub _ _ hx] at hx'; cases hx'
    exact ⟨x, hx, e⟩
  | .sn, y, z, _, h => by simpa only [RV] using h
  | .sl b o l c sz ex, y, z, g, h => by
    simp only [RV] at g h ⊢
    obtain ⟨x, _, _, hx, _⟩ := g
    obtain ⟨x', o', c', hx', rest⟩ := h
    rw [le.sub _ _ hx] at hx'; cases hx'
    exact ⟨x, o', c', hx, rest⟩
  | .fn f x1 x2, y, z, g, h => by
    simp only [RV] at g h ⊢
    obtain ⟨A, B, _, hA, hB⟩ := g
    obtain ⟨A', B', e, hA', hB'⟩ := h
    exact ⟨A', B', e, RVs.restrict le _ _ _ hA hA', RVs.restrict le _ _ _ hB hB'⟩
  | .a cs, y, z, g, h => by
    simp only [RV] at g h ⊢
    obtain ⟨A, _, hA, _⟩ := g
    obtain ⟨A', e, hA', ho⟩ := h
    exact ⟨A', e, RVs.restrict le _ _ _ hA hA', ho⟩
  | .t vs, y, z, g, h => by
    simp only [RV] at g h ⊢
    obtain ⟨A, _, hA⟩ := g
    obtain ⟨A', e, hA'⟩ := h
    exact ⟨A', e, RVs.restrict le _ _ _ hA hA'⟩
  | .m, y, z, _, h => by simpa only [RV] using h
  | .c _, y, z, _, h => by simpa only [RV] using h
theorem RVs.restrict {φ Φ : Phi} (le : φ.le Φ) : ∀ (vs : List V) (ys zs : List Value), RVs φ vs ys → RVs Φ vs zs → RVs φ vs zs
  | [], ys, zs, _, h => by simpa only [RVs] using h
  | v :: vs, ys, zs, g, h => by
    simp only [RVs] at g h ⊢
    obtain ⟨y, ys', _, h1, h2⟩ := g
    obtain ⟨z, zs', e, h3, h4⟩ := h
    exact ⟨z, zs', e, RV.restrict le _ _ _ h1 h3, RVs.restrict le _ _ _ h2 h4⟩
end

section
variable {P : Program} {G : List Nat} {nt : Nat} {ops : Array Oper} {call : Call}

/-- the state of a drawn region: A is done in the plan's order; of B some has been done ahead of its turn -/
structure J (P : Program) (G : List Nat) (nt : Nat) (ops : Array Oper) (call : Call) (L : List PI) (env' : Env) (h' : H) (φ0 : Phi) (W0 : World) (ds : List Deferred)
    (lst : Nat → Bool) (a : Act) (W : World) (A B : List PI) (env : Env) (h : H) (hs : List H) (Φ : Phi) : Prop where
  split : L = A ++ B
  plan : evPlan call B env h hs = some (env', h')
  rw_ : RW (cut h.nb Φ) h W
  rep : ∃ tms : Array Value, REnv nt (cut h.nb Φ) env tms
  ex : Ex call lst Φ (fun t => a.tmps.getD t undef) W B env h hs
  dom : ∀ b x, Φ b = some x → b < h.nb ∨ b ∈ exIds call lst B env h hs
  uni : ∀ b x, Φ b = some x → h.nb ≤ b → W0.heap.size ≤ x.1 ∧ x.1 < W.heap.size ∧ ∀ b' x', Φ b' = some x' → x'.1 = x.1 → b' = b
  tm : ∀ t v, (∀ p ∈ B, lst p.ix = true → p.co.d ≠ some t) → env.get t = some v → RV Φ v (a.tmps.getD t undef)
  size : a.tmps.size = nt
  df : a.defers = ds
  gok : GOK G (cut h.nb Φ)
  grow : Grow φ0 (cut h.nb Φ) W0
  ext : Ext φ0 W0 W
  allA : ∀ p ∈ A, lst p.ix = true
  down : ∀ q ∈ L, lst q.ix = true → ∀ o, ops[q.ix]? = some o → ∀ e ∈ binding o, lst e = true

variable {L : List PI} {env' : Env} {h' : H} {φ0 : Phi} {W0 : World} {ds : List Deferred} {lst : Nat → Bool} {a : Act} {W : World} {cl : T Nat}

theorem AR_at {q : AR} {b : Nat} {φ Φ : Phi} (he : φ b = Φ b) {z : Value} (h : RV Φ (q.at b) z) : RV φ (q.at b) z := by
  cases q <;> simp only [AR.at, RV] at h ⊢ <;> rw [he] <;> exact h

/-- what has been done ahead of its turn, at its turn -/
theorem J.absorb (_ : Mono call) (pl : Plan P G nt ops L cl) {A B : List PI} {p : PI} {env : Env} {h : H} {hs : List H} {Φ : Phi} (j : J P G nt ops call L env' h' φ0 W0 ds lst a W A (p :: B) env h hs Φ) (hp : lst p.ix = true) :
    ∃ env1 h1, pre call [p] env h hs = some (env1, h1, hs) ∧ J P G nt ops call L env' h' φ0 W0 ds lst a W (A ++ [p]) B env1 h1 hs Φ := by
  obtain ⟨s, hst, hE, hrest⟩ := j.ex
  obtain ⟨heff, hval, hlaid⟩ := hE hp
  have hpl : p ∈ L := by rw [j.split]; simp
  obtain ⟨B1, B2, _, hitm⟩ := pl.chain.mem hpl
  obtain ⟨o, ho, hco, _⟩ := hitm.op
  obtain ⟨c1, c2, c3, c4⟩ := cCO_ok hco
  obtain ⟨tms, hrep⟩ := j.rep
  -- what is common to all ways
  have common : ∀ (h1 : H), s.2.1 = h1 → s.2.2.1 = hs → h.nb ≤ h1.nb → RW (cut h1.nb Φ) h1 W → (∃ tms : Array Value, REnv nt (cut h1.nb Φ) s.1 tms) →
      (∀ b, b ∈ (if lst p.ix = true ∧ makes p env = true then [h.nb] else []) → b < h1.nb) →
      ∃ env1 h1, pre call [p] env h hs = some (env1, h1, hs) ∧ J P G nt ops call L env' h' φ0 W0 ds lst a W (A ++ [p]) B env1 h1 hs Φ := by
    intro h1 e1 e2 hnb hrw hrep' hids
    have hplan := j.plan
    rw [evPlan_cons, hst] at hplan
    simp only [e1, e2] at hplan
    rw [e1, e2] at hrest
    refine ⟨s.1, h1, by simp only [pre, hst, e1, e2], ?_⟩
    refine ⟨by rw [j.split]; simp, hplan, hrw, hrep', hrest, fun b x hb => ?_, fun b x hb hnb' => j.uni b x hb (by omega), fun t v ht hv => ?_, j.size, j.df, j.gok.mono (cut_mono Φ hnb), ?_, j.ext, fun q hq => ?_, j.down⟩
    · rcases j.dom b x hb with hlt | hin
      · exact .inl (by omega)
      · simp only [exIds, hst, e1, e2] at hin
        rcases List.mem_append.1 hin with hin | hin
        · exact .inl (hids b hin)
        · exact .inr hin
    · rw [stp_put hst] at hv
      cases hd : p.co.d with
      | none =>
        rw [hd] at hv
        refine j.tm t v (fun q hq hql => ?_) hv
        rcases List.mem_cons.1 hq with rfl | hq
        · rw [hd]; exact fun h => by cases h
        · exact ht q hq hql
      | some d =>
        rw [hd] at hv
        simp only [putE, T.get_set] at hv
        split at hv
        · rename_i e
          subst e
          cases hv
          exact hval _ hd
        · rename_i e
          refine j.tm t v (fun q hq hql => ?_) hv
          rcases List.mem_cons.1 hq with rfl | hq
          · rw [hd]; exact fun h => by cases h; exact e rfl
          · exact ht q hq hql
    · refine ⟨Phi.le_trans j.grow.le (cut_mono Φ hnb), fun b x hb hx => ?_⟩
      obtain ⟨hb1, hb2⟩ := cut_lt hb
      by_cases hlt : b < h.nb
      · exact j.grow.new b x (cut_of hlt hb2) hx
      · have := (j.uni b x hb2 (by omega)).1
        omega
    · rcases List.mem_append.1 hq with hq | hq
      · exact j.allA q hq
      · rw [List.mem_singleton] at hq; subst hq; exact hp
  have put_ok : ∀ (φ : Phi) (v : V) (z : Value), REnv nt φ env tms → RV φ v z → REnv nt φ (putE env p.co.d v) ((⟨tms, []⟩ : Act).put p.co.d z).tmps := by
    intro φ v z hr hz
    rw [c3]
    exact REnv.put (a := ⟨tms, []⟩) hr c4 hz
  have hput := stp_put hst
  unfold stp at hst
  split at hst
  · cases hst
  · rename_i hw
    rw [heff] at hst
    simp only [Bool.false_eq_true, if_false] at hst
    cases hst
    refine common h rfl rfl (Nat.le_refl _) j.rw_ ⟨_, put_ok _ .u undef hrep (by simp only [RV]; rfl)⟩ fun b hb => ?_
    have : makes p env = false := by simp [makes, hw]
    simp [this] at hb
  · rename_i hw
    split at hst
    · cases hst
    rename_i r hr
    cases hop : p.co.op with
    | E x => simp [effB, isE, hop] at heff
    | P x =>
      rw [hop] at hst hr c1
      simp only [evC] at hr
      split at hr
      · rename_i v hv
        cases hr
        simp only at hst
        cases hst
        obtain ⟨z, _, hz⟩ := pure_ok (a := ⟨tms, []⟩) hrep j.gok c1 hv W
        refine common h rfl rfl (Nat.le_refl _) j.rw_ ⟨_, put_ok _ v z hrep hz⟩ fun b hb => ?_
        have : makes p env = false := by simp [makes, isA, hop]
        simp [this] at hb
      · cases hr
    | L x =>
      rw [hop] at hst hr c1
      simp only [evC] at hr
      split at hr
      · rename_i v hv
        cases hr
        simp only at hst
        split at hst
        · cases hst
          obtain ⟨z, _, hz⟩ := load_ok (a := ⟨tms, []⟩) (Phi.le_refl _) hrep j.gok j.rw_ c1 hv
          refine common h rfl rfl (Nat.le_refl _) j.rw_ ⟨_, put_ok _ v z hrep hz⟩ fun b hb => ?_
          have : makes p env = false := by simp [makes, isA, hop]
          simp [this] at hb
        · cases hst
      · cases hr
    | A x =>
      have hmk : makes p env = true := by simp [makes, isA, hop, hw]
      rw [hop] at hst hr c1
      simp only [evC] at hr
      split at hr
      · rename_i q hq
        cases hr
        simp only at hst
        cases hst
        obtain ⟨wb, cc, e, fz, a1, a2, a3, a4, a5⟩ := hlaid x q hop hw hq
        have hcut : cut (h.nb + 1) Φ = (cut h.nb Φ).upd h.nb (wb, 0, cc.size) := by
          refine Phi.eq (fun b => ?_) rfl
          by_cases hb : b = h.nb
          · subst hb
            rw [Phi.upd_same]
            exact cut_of (Nat.lt_succ_self _) a1
          · rw [Phi.upd_other _ _ hb]
            simp only [cut]
            by_cases hlt : b < h.nb
            · rw [if_pos (by omega), if_pos hlt]
            · rw [if_neg (by omega), if_neg hlt]
        have hnb1 : (h.alloc q.1).nb = h.nb + 1 := rfl
        have hle : (cut h.nb Φ).le ((cut h.nb Φ).upd h.nb (wb, 0, cc.size)) := Phi.le_upd _ (j.rw_.none_nb (Nat.le_refl _))
        refine common (h.alloc q.1) rfl rfl (by rw [hnb1]; omega) ?_ ?_ fun b hb => ?_
        · rw [hnb1, hcut]
          refine j.rw_.add a2 a3.1 a3.2 (fun b y hy => ?_) a4 fun jx v hv => ?_
          · obtain ⟨hb1, hb2⟩ := cut_lt hy
            intro heq
            have := (j.uni h.nb _ a1 (Nat.le_refl _)).2.2 b y hb2 heq
            omega
          · obtain ⟨b1, y, b2, b3⟩ := a5 jx v hv
            refine ⟨b1, y, b2, ?_⟩
            -- the cells are under the part of the map, too
            obtain ⟨z, W', cc', _, hmd, _⟩ := alloc_ok (a := ⟨tms, []⟩) hrep j.gok c1 hq W
            obtain ⟨_, y', _, hy'⟩ := hmd.cells jx v hv
            rw [← hcut]
            exact RV.restrict (cut_le _ _) v _ _ (RV.mono (by rw [hcut]; exact hle) _ _ hy') b3
        · rw [hnb1, hcut]
          cases hd : p.co.d with
          | none => exact ⟨tms, by simpa only [putE] using hrep.mono hle⟩
          | some d =>
            have hv := hval d hd
            refine ⟨_, by
              have := put_ok _ (q.2.at h.nb) (a.tmps.getD d undef) (hrep.mono hle) (AR_at (by rw [Phi.upd_same, a1]) hv)
              rw [hd] at this
              exact this⟩
        · rw [if_pos ⟨hp, hmk⟩] at hb
          simp at hb
          rw [hnb1]; omega
      · cases hr

theorem J.absorbAll (hm : Mono call) (pl : Plan P G nt ops L cl) : ∀ (B1 C A : List PI) (env : Env) (h : H) (hs : List H) (Φ : Phi), J P G nt ops call L env' h' φ0 W0 ds lst a W A (B1 ++ C) env h hs Φ → (∀ p ∈ B1, lst p.ix = true) →
    ∃ env1 h1, pre call B1 env h hs = some (env1, h1, hs) ∧ J P G nt ops call L env' h' φ0 W0 ds lst a W (A ++ B1) C env1 h1 hs Φ := by
  intro B1
  induction B1 with
  | nil => intro C A env h hs Φ j _; exact ⟨env, h, rfl, by simpa using j⟩
  | cons p B1 ih =>
    intro C A env h hs Φ j hl
    obtain ⟨env1, h1, e1, j1⟩ := j.absorb hm pl (hl p (by simp))
    obtain ⟨env2, h2, e2, j2⟩ := ih C (A ++ [p]) env1 h1 hs Φ j1 (fun q hq => hl q (by simp [hq]))
    refine ⟨env2, h2, ?_, by simpa using j2⟩
    simp only [pre] at e1 ⊢
    split at e1
    · cases e1
    · cases e1
      exact e2

/-- at the end -/
theorem J.done {env : Env} {h : H} {hs : List H} {Φ : Phi} (j : J P G nt ops call L env' h' φ0 W0 ds lst a W L [] env h hs Φ) : KPost nt φ0 W0 env' h' ds a W := by
  have hp := j.plan
  simp only [evPlan, Option.some.injEq, Prod.mk.injEq] at hp
  obtain ⟨rfl, rfl⟩ := hp
  refine ⟨cut h.nb Φ, j.df, ⟨j.size, fun t v hv => ?_⟩, j.rw_, j.grow, j.ext⟩
  obtain ⟨tms, hrep⟩ := j.rep
  exact RV.restrict (cut_le _ _) v _ _ (hrep.get t v hv) (j.tm t v (fun p hp => by cases hp) hv)

end
end Go.Ev
