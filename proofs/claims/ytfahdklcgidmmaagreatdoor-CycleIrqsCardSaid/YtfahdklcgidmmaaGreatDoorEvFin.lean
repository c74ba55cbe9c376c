/- The evaluator's word holds in the model: whatever it answers, every run of the program answers. -/
import Derived.Test.YtfahdklcgidmmaaGreatDoorEvPlan6
import Derived.Test.YtfahdklcgidmmaaGreatDoorEvCode
namespace Go.Ev
noncomputable section

/-! the whole: heaps grow through a run, and the evaluator's word holds -/

theorem evOps_nb {call : Call} (hm : Mono call) : ∀ (l : List CO) (env : Env) (h : H) (r : Env × H), evOps call l env h = some r → h.nb ≤ r.2.nb := by
  intro l
  induction l with
  | nil => intro env h r e; cases e; exact Nat.le_refl _
  | cons o l ih =>
    intro env h r e
    simp only [evOps] at e
    split at e
    · cases e
    · exact ih _ _ _ e
    · split at e
      · cases e
      · rename_i s hs
        exact Nat.le_trans (evC_nb hm (h' := s.2) (v := s.1) hs) (ih _ _ _ e)

theorem evPlan_nb {call : Call} (hm : Mono call) : ∀ (B : List PI) (env : Env) (h : H) (hs : List H) (r : Env × H), evPlan call B env h hs = some r → h.nb ≤ r.2.nb := by
  intro B
  induction B with
  | nil => intro env h hs r e; cases e; exact Nat.le_refl _
  | cons p B ih =>
    intro env h hs r e
    rw [evPlan_cons] at e
    split at e
    · cases e
    · rename_i s hs'
      exact Nat.le_trans (stp_nb hm hs') (ih _ _ _ _ e)

theorem iter_nb {f : Env → H → Option (X × Env × H)} (hf : ∀ env h r, f env h = some r → h.nb ≤ r.2.2.nb) : ∀ (n : Nat) (env : Env) (h : H) (r : X × Env × H), iter f n env h = some r → h.nb ≤ r.2.2.nb := by
  intro n
  induction n with
  | zero => intro env h r e; cases e
  | succ n ih =>
    intro env h r e
    simp only [iter] at e
    split at e
    · cases e
    · rename_i s hs
      have h1 := hf _ _ _ hs
      split at e
      · exact Nat.le_trans h1 (ih _ _ _ e)
      · cases e; exact h1

theorem evK_nb {call : Call} {lf : Nat} (hm : Mono call) : ∀ (k : K) (env : Env) (h : H) (r : X × Env × H), evK call lf k env h = some r → h.nb ≤ r.2.2.nb := by
  intro k
  induction k with
  | skip => intro env h r e; simp only [evK] at e; cases e; exact Nat.le_refl _
  | reg ops =>
    intro env h r e
    simp only [evK] at e
    split at e
    · rename_i s hs; cases e; exact evOps_nb hm _ _ _ _ hs
    · cases e
  | dreg ops =>
    intro env h r e
    simp only [evK] at e
    split at e
    · rename_i s hs; cases e; exact evPlan_nb hm _ _ _ _ _ hs
    · cases e
  | seq a b iha ihb =>
    intro env h r e
    simp only [evK] at e
    split at e
    · cases e
    · rename_i s hs
      have h1 := iha _ _ _ hs
      split at e
      · exact Nat.le_trans h1 (ihb _ _ _ e)
      · cases e; exact h1
  | cond c a b iha ihb =>
    intro env h r e
    simp only [evK, cond_eq_ite] at e
    split at e
    · split at e
      · exact iha _ _ _ e
      · exact ihb _ _ _ e
    · cases e
  | block id a iha =>
    intro env h r e
    simp only [evK, cond_eq_ite] at e
    split at e
    · cases e
    · rename_i s hs
      have h1 := iha _ _ _ hs
      split at e
      · split at e <;> · cases e; exact h1
      · cases e; exact h1
  | loop a iha =>
    intro env h r e
    simp only [evK] at e
    exact iter_nb iha _ _ _ _ e
  | exit id => intro env h r e; simp only [evK] at e; cases e; exact Nat.le_refl _
  | ret => intro env h r e; simp only [evK] at e; cases e; exact Nat.le_refl _
  | bad => intro env h r e; simp only [evK] at e; cases e
  | gc keep => intro env h r e; simp only [evK] at e; cases e; exact Nat.le_refl _

theorem runF_nb {call : Call} {lf : Nat} (hm : Mono call) {f : F} {args : List V} {h h' : H} {v : V} (e : runF call lf f args h = some (v, h')) : h.nb ≤ h'.nb := by
  unfold runF at e
  simp only [cond_eq_ite] at e
  split at e
  · split at e
    · rename_i s hs
      have h1 := evK_nb hm _ _ _ _ hs
      split at e
      · cases e
      · split at e
        · cases e; exact h1
        · cases e
    · cases e
  · cases e

theorem ev_mono (tab : Nat → Option F) (lf : Nat) : ∀ n, Mono (ev tab lf n) := by
  intro n
  induction n with
  | zero => intro f args h r h' e; simp [ev] at e
  | succ n ih =>
    intro f args h r h' e
    simp only [ev] at e
    split at e
    · cases e
    · exact runF_nb ih e

/-- THE EVALUATOR'S WORD HOLDS, with no premise but the table's -/
theorem ev_sound {P : Program} {G : List Nat} (hmix : P.follows .mixedOrders = true) {tab : Nat → Option F} (ht : TabOK P G tab) (lf : Nat) : ∀ n, CallOK P G (ev tab lf n) := by
  intro n
  induction n with
  | zero => intro f args h r h' hv; simp [ev] at hv
  | succ n ih =>
    intro f args h r h' hv
    simp only [ev] at hv
    split at hv
    · cases hv
    rename_i F hF
    obtain ⟨fn, hs, h1, h2, h3⟩ := ht f F hF
    refine ⟨⟨fn, h1, ?_, h3⟩, fun φ W vs g ha w => func_ok ih hmix (plan_ok (ev_mono tab lf n) ih) h1 h2 hv g ha w⟩
    unfold cF at h2
    split at h2
    · cases h2
    · rename_i b hb; rw [hb]; rfl

end
end Go.Ev
