/- A part of the evaluator and of the proof that its word holds in the model (EvPlan2). -/
import Derived.Test.YtfahdklcgidmmaaGreatDoorEvPlan1
namespace Go.Ev
noncomputable section

/-! heaps only grow -/

def Mono (call : Call) : Prop := ∀ f args h r h', call f args h = some (r, h') → h.nb ≤ h'.nb

theorem stn_nb {h h' : H} {b o : Nat} {vs : List V} (e : h.stn b o vs = some h') : h'.nb = h.nb := by
  unfold H.stn at e
  split at e
  · cases e
  · simp only [cond_eq_ite] at e
    split at e
    · split at e <;> · cases e; rfl
    · cases e

theorem append_nb {h h' : H} {x v : V} {s b n : Nat} {new : List V} (e : h.append x s b n new = some (v, h')) : h.nb ≤ h'.nb := by
  unfold H.append at e
  simp only [cond_eq_ite] at e
  split at e
  · split at e
    · cases e; exact Nat.le_refl _
    · cases e; exact Nat.le_refl _
    · cases e
  · split at e
    · split at e
      · cases e; exact Nat.le_succ _
      · cases e
    · split at e
      · split at e
        · split at e
          · rename_i hs
            cases e
            rw [stn_nb hs]; exact Nat.le_refl _
          · cases e
        · split at e
          · split at e
            · cases e
            · split at e
              · cases e; exact Nat.le_succ _
              · split at e
                · cases e
                · split at e
                  · cases e
                  · cases e; exact Nat.le_succ _
          · cases e
      · cases e
    · cases e

theorem evE_nb {call : Call} (hm : Mono call) {c : EC} {env : Env} {h h' : H} {v : V} (e : evE call c env h = some (v, h')) : h.nb ≤ h'.nb := by
  cases c <;> simp only [evE] at e
  case st1 a x =>
    unfold evSt1 at e
    split at e
    · split at e
      · cases e
      · cases e
      · cases e
      · cases e
      · split at e
        · rename_i hs; cases e; rw [stn_nb hs]; exact Nat.le_refl _
        · cases e
      · cases e
    · cases e
  case stn n a x =>
    unfold evStn at e
    split at e
    · split at e
      · simp only [cond_eq_ite] at e
        split at e
        · split at e
          · rename_i hs; cases e; rw [stn_nb hs]; exact Nat.le_refl _
          · cases e
        · cases e
      · cases e
    · cases e
  case call f xs =>
    unfold evCall at e
    split at e
    · exact hm _ _ _ _ _ e
    · cases e
  case callv x xs =>
    unfold evCallv at e
    split at e
    · split at e
      · exact hm _ _ _ _ _ e
      · cases e
    · cases e
  case appS s b x y =>
    unfold evAppS at e
    split at e
    · split at e
      · split at e
        · exact append_nb e
        · cases e
      · cases e
    · cases e
  case appStr b x y =>
    unfold evAppStr at e
    split at e
    · split at e
      · exact append_nb e
      · cases e
    · cases e
  case appZ s b z x y =>
    unfold evAppZ at e
    split at e
    · split at e
      · simp only [cond_eq_ite] at e
        split at e
        · exact append_nb e
        · cases e
      · cases e
    · cases e
  case copyS s x y =>
    unfold evCopyS at e
    simp only [cond_eq_ite] at e
    (repeat' split at e) <;> first
      | (cases e; done)
      | (cases e; exact Nat.le_refl _)
      | (rename_i hs; cases e; rw [stn_nb hs]; exact Nat.le_refl _)
  case copyStr x y =>
    unfold evCopyStr at e
    simp only [cond_eq_ite] at e
    (repeat' split at e) <;> first
      | (cases e; done)
      | (cases e; exact Nat.le_refl _)
      | (rename_i hs; cases e; rw [stn_nb hs]; exact Nat.le_refl _)
  case mkMap => cases e; exact Nat.le_refl _

theorem evC_nb {call : Call} (hm : Mono call) {c : C} {env : Env} {h h' : H} {v : V} (e : evC call c env h = some (v, h')) : h.nb ≤ h'.nb := by
  cases c <;> simp only [evC] at e
  · split at e
    · cases e; exact Nat.le_refl _
    · cases e
  · split at e
    · cases e; exact Nat.le_refl _
    · cases e
  · split at e
    · cases e; exact Nat.le_succ _
    · cases e
  · exact evE_nb hm e

/-! one step of a plan -/

def stp (call : Call) (p : PI) (env : Env) (h : H) (hs : List H) : Option (Env × H × List H × V) :=
  match wantG env p.co.g with
  | none => none
  | some false => some (putE env p.co.d .u, h, (if effB p = true then h :: hs else hs), .u)
  | some true => match evC call p.co.op env h with
    | none => none
    | some r => match p.co.op with
      | .E _ => some (putE env p.co.d r.1, r.2, r.2 :: hs, r.1)
      | .L op => if recheck op env r.1 p.back (dropN hs p.skip) = true then some (putE env p.co.d r.1, r.2, hs, r.1) else none
      | _ => some (putE env p.co.d r.1, r.2, hs, r.1)

theorem evPlan_cons (call : Call) (p : PI) (B : List PI) (env : Env) (h : H) (hs : List H) :
    evPlan call (p :: B) env h hs = match stp call p env h hs with
      | none => none
      | some s => evPlan call B s.1 s.2.1 s.2.2.1 := by
  simp only [evPlan, stp]
  cases wantG env p.co.g with
  | none => rfl
  | some b =>
    cases b with
    | false =>
      cases e : p.co.op <;> simp [effB, isE, e]
    | true =>
      simp only
      cases evC call p.co.op env h with
      | none => rfl
      | some r =>
        simp only
        cases e : p.co.op <;> simp only [cond_eq_ite]
        split <;> rfl

theorem stp_nb {call : Call} (hm : Mono call) {p : PI} {env : Env} {h : H} {hs : List H} {s : Env × H × List H × V} (e : stp call p env h hs = some s) : h.nb ≤ s.2.1.nb := by
  unfold stp at e
  split at e
  · cases e
  · cases e; exact Nat.le_refl _
  · split at e
    · cases e
    · rename_i r hr
      have := evC_nb hm (h' := r.2) (v := r.1) hr
      split at e
      · cases e; exact this
      · split at e
        · cases e; exact this
        · cases e
      · cases e; exact this

/-- the run of a first part of a plan -/
def pre (call : Call) : List PI → Env → H → List H → Option (Env × H × List H)
  | [], env, h, hs => some (env, h, hs)
  | p :: B, env, h, hs => match stp call p env h hs with
    | none => none
    | some s => pre call B s.1 s.2.1 s.2.2.1

theorem evPlan_append {call : Call} : ∀ (B1 C : List PI) (env : Env) (h : H) (hs : List H) (r : Env × H), evPlan call (B1 ++ C) env h hs = some r →
    ∃ s, pre call B1 env h hs = some s ∧ evPlan call C s.1 s.2.1 s.2.2 = some r := by
  intro B1
  induction B1 with
  | nil => intro C env h hs r e; exact ⟨_, rfl, e⟩
  | cons p B1 ih =>
    intro C env h hs r e
    rw [List.cons_append, evPlan_cons] at e
    simp only [pre]
    split at e
    · cases e
    · exact ih _ _ _ _ _ e

theorem pre_nb {call : Call} (hm : Mono call) : ∀ (B : List PI) (env : Env) (h : H) (hs : List H) (s : Env × H × List H), pre call B env h hs = some s → h.nb ≤ s.2.1.nb := by
  intro B
  induction B with
  | nil => intro env h hs s e; cases e; exact Nat.le_refl _
  | cons p B ih =>
    intro env h hs s e
    simp only [pre] at e
    split at e
    · cases e
    · rename_i s' hs'
      exact Nat.le_trans (stp_nb hm hs') (ih _ _ _ _ e)

/-! what has been done ahead of its turn -/

/-- a made block, in memory -/
def Laid (Φ : Phi) (W : World) (p : PI) (env : Env) (h : H) : Prop :=
  ∀ x q, p.co.op = .A x → wantG env p.co.g = some true → evA x env = some q → ∃ (wb : Nat) (cc : Array Value) (e : TypeId) (fz : Nat × Nat), Φ h.nb = some (wb, 0, cc.size) ∧ W.heap[wb]? = some (.cells cc e fz) ∧
    ((fz.2 ≤ fz.1 ∨ cc.size ≤ fz.1) ∧ Φ.ro wb = false) ∧ q.1.length ≤ cc.size ∧ ∀ (j : Nat) (v : V), q.1[j]? = some v → one v = true ∧ ∃ y, cc[j]? = some y ∧ RV Φ v y

def Ex (call : Call) (lst : Nat → Bool) (Φ : Phi) (tm : Nat → Value) (W : World) : List PI → Env → H → List H → Prop
  | [], _, _, _ => True
  | p :: B, env, h, hs => ∃ s, stp call p env h hs = some s ∧ (lst p.ix = true → effB p = false ∧ (∀ d, p.co.d = some d → RV Φ s.2.2.2 (tm d)) ∧ Laid Φ W p env h) ∧
      Ex call lst Φ tm W B s.1 s.2.1 s.2.2.1

def makes (p : PI) (env : Env) : Bool := isA p.co.op && (wantG env p.co.g == some true)

/-- the names of what has been made ahead of its turn -/
def exIds (call : Call) (lst : Nat → Bool) : List PI → Env → H → List H → List Nat
  | [], _, _, _ => []
  | p :: B, env, h, hs => match stp call p env h hs with
    | none => []
    | some s => (if lst p.ix = true ∧ makes p env = true then [h.nb] else []) ++ exIds call lst B s.1 s.2.1 s.2.2.1

theorem stp_makes {call : Call} {p : PI} {env : Env} {h : H} {hs : List H} {s : Env × H × List H × V} (e : stp call p env h hs = some s) (hp : makes p env = true) : s.2.1.nb = h.nb + 1 := by
  unfold makes at hp
  rw [Bool.and_eq_true] at hp
  obtain ⟨h1, h2⟩ := hp
  rw [beq_iff_eq] at h2
  unfold stp at e
  rw [h2] at e
  simp only at e
  cases ho : p.co.op <;> rw [ho] at h1 <;> simp only [isA, Bool.false_eq_true] at h1
  rename_i x
  rw [ho] at e
  simp only [evC] at e
  split at e
  · cases e
  · rename_i r hr
    split at hr
    · cases hr
      cases e
      rfl
    · cases hr

theorem exIds_ge {call : Call} (hm : Mono call) {lst : Nat → Bool} : ∀ (B : List PI) (env : Env) (h : H) (hs : List H) (b : Nat), b ∈ exIds call lst B env h hs → h.nb ≤ b := by
  intro B
  induction B with
  | nil => intro env h hs b hb; cases hb
  | cons p B ih =>
    intro env h hs b hb
    simp only [exIds] at hb
    split at hb
    · cases hb
    · rename_i s hs'
      rcases List.mem_append.1 hb with hb | hb
      · split at hb
        · simp at hb; omega
        · cases hb
      · exact Nat.le_trans (stp_nb hm hs') (ih _ _ _ _ hb)

theorem exIds_append {call : Call} {lst : Nat → Bool} : ∀ (B1 C : List PI) (env : Env) (h : H) (hs : List H) (s : Env × H × List H), pre call B1 env h hs = some s →
    exIds call lst (B1 ++ C) env h hs = exIds call lst B1 env h hs ++ exIds call lst C s.1 s.2.1 s.2.2 := by
  intro B1
  induction B1 with
  | nil => intro C env h hs s e; cases e; rfl
  | cons p B1 ih =>
    intro C env h hs s e
    simp only [pre] at e
    simp only [List.cons_append, exIds]
    split at e
    · cases e
    · rw [ih _ _ _ _ _ e, List.append_assoc]

theorem exIds_lt {call : Call} (hm : Mono call) {lst : Nat → Bool} : ∀ (B : List PI) (env : Env) (h : H) (hs : List H) (s : Env × H × List H) (b : Nat), pre call B env h hs = some s → b ∈ exIds call lst B env h hs → b < s.2.1.nb := by
  intro B
  induction B with
  | nil => intro env h hs s b _ hb; cases hb
  | cons p B ih =>
    intro env h hs s b e hb
    simp only [pre] at e
    simp only [exIds] at hb
    split at e
    · cases e
    · rename_i s' hs'
      rw [hs'] at hb
      simp only at hb
      rcases List.mem_append.1 hb with hb | hb
      · split at hb
        · rename_i hc
          simp at hb
          have h1 := stp_makes hs' hc.2
          have h2 := pre_nb hm _ _ _ _ _ e
          omega
        · cases hb
      · exact ih _ _ _ _ _ e hb

theorem exIds_congr {call : Call} {l1 l2 : Nat → Bool} : ∀ (B : List PI) (env : Env) (h : H) (hs : List H), (∀ p ∈ B, l1 p.ix = l2 p.ix) → exIds call l1 B env h hs = exIds call l2 B env h hs := by
  intro B
  induction B with
  | nil => intro env h hs _; rfl
  | cons p B ih =>
    intro env h hs hl
    simp only [exIds]
    split
    · rfl
    · rw [ih _ _ _ (fun q hq => hl q (by simp [hq])), hl p (by simp)]

theorem Ex.append {call : Call} {lst : Nat → Bool} {Φ : Phi} {tm : Nat → Value} {W : World} : ∀ (B1 C : List PI) (env : Env) (h : H) (hs : List H) (s : Env × H × List H), pre call B1 env h hs = some s →
    (Ex call lst Φ tm W (B1 ++ C) env h hs ↔ Ex call lst Φ tm W B1 env h hs ∧ Ex call lst Φ tm W C s.1 s.2.1 s.2.2) := by
  intro B1
  induction B1 with
  | nil => intro C env h hs s e; cases e; simp [Ex]
  | cons p B1 ih =>
    intro C env h hs s e
    simp only [pre] at e
    simp only [List.cons_append, Ex]
    split at e
    · cases e
    · rename_i s' hs'
      have := ih C _ _ _ s e
      constructor
      · rintro ⟨s1, h1, h2, h3⟩
        rw [hs'] at h1; cases h1
        obtain ⟨g1, g2⟩ := this.1 h3
        exact ⟨⟨s', hs', h2, g1⟩, g2⟩
      · rintro ⟨⟨s1, h1, h2, h3⟩, h4⟩
        rw [hs'] at h1; cases h1
        exact ⟨s', hs', h2, this.2 ⟨h3, h4⟩⟩

theorem Ex.mono {call : Call} (hm : Mono call) {l1 l2 : Nat → Bool} {Φ Ψ : Phi} {tm tn : Nat → Value} {W W' : World} (le : Φ.le Ψ) : ∀ (B : List PI) (env : Env) (h : H) (hs : List H),
    (∀ p ∈ B, l2 p.ix = l1 p.ix) → (∀ p ∈ B, l1 p.ix = true → ∀ d, p.co.d = some d → tn d = tm d) → (∀ b x o, h.nb ≤ b → Φ b = some x → W.heap[x.1]? = some o → W'.heap[x.1]? = some o) →
    Ex call l1 Φ tm W B env h hs → Ex call l2 Ψ tn W' B env h hs := by
  intro B
  induction B with
  | nil => intro env h hs _ _ _ _; trivial
  | cons p B ih =>
    intro env h hs hl ht hW hE
    obtain ⟨s, h1, h2, h3⟩ := hE
    refine ⟨s, h1, fun hp => ?_, ih _ _ _ (fun q hq => hl q (by simp [hq])) (fun q hq => ht q (by simp [hq])) (fun b x o hb => hW b x o (Nat.le_trans (stp_nb hm h1) hb)) h3⟩
    rw [hl p (by simp)] at hp
    obtain ⟨g1, g2, g3⟩ := h2 hp
    refine ⟨g1, fun d hd => ?_, fun x q hx hw hq => ?_⟩
    · rw [ht p (by simp) hp d hd]
      exact RV.mono le _ _ (g2 d hd)
    · obtain ⟨wb, cc, e, fz, a1, a2, a3, a4, a5⟩ := g3 x q hx hw hq
      refine ⟨wb, cc, e, fz, le.sub _ _ a1, hW h.nb _ _ (Nat.le_refl _) a1 a2, ⟨a3.1, by rw [le.ro]; exact a3.2⟩, a4, fun j v hv => ?_⟩
      obtain ⟨b1, y, b2, b3⟩ := a5 j v hv
      exact ⟨b1, y, b2, RV.mono le _ _ b3⟩

/-- where a temporary's value comes from -/
theorem pre_trace {call : Call} {lst : Nat → Bool} {Φ : Phi} {tm : Nat → Value} {W : World} : ∀ (B : List PI) (env : Env) (h : H) (hs : List H) (s : Env × H × List H), pre call B env h hs = some s → Ex call lst Φ tm W B env h hs →
    ∀ t v, s.1.get t = some v → (∃ q ∈ B, q.co.d = some t ∧ (lst q.ix = true → RV Φ v (tm t))) ∨ ((∀ q ∈ B, q.co.d ≠ some t) ∧ env.get t = some v) := by
  intro B
  induction B with
  | nil => intro env h hs s e _ t v hv; cases e; exact .inr ⟨fun q hq => (by cases hq), hv⟩
  | cons p B ih =>
    intro env h hs s e hE t v hv
    simp only [pre] at e
    obtain ⟨s1, h1, h2, h3⟩ := hE
    rw [h1] at e
    simp only at e
    rcases ih _ _ _ _ e h3 t v hv with ⟨q, hq, hd, hr⟩ | ⟨hn, hg⟩
    · exact .inl ⟨q, by simp [hq], hd, hr⟩
    · have hput : s1.1 = putE env p.co.d s1.2.2.2 := by
        unfold stp at h1
        split at h1
        · cases h1
        · cases h1; rfl
        · split at h1
          · cases h1
          · split at h1
            · cases h1; rfl
            · split at h1
              · cases h1; rfl
              · cases h1
            · cases h1; rfl
      rw [hput] at hg
      cases hd : p.co.d with
      | none =>
        rw [hd] at hg
        refine .inr ⟨fun q hq => ?_, hg⟩
        rcases List.mem_cons.1 hq with rfl | hq
        · rw [hd]; exact fun h => by cases h
        · exact hn q hq
      | some d =>
        rw [hd] at hg
        simp only [putE, T.get_set] at hg
        split at hg
        · rename_i e'
          subst e'
          cases hg
          exact .inl ⟨p, by simp, hd, fun hl => (h2 hl).2.1 _ hd⟩
        · rename_i e'
          refine .inr ⟨fun q hq => ?_, hg⟩
          rcases List.mem_cons.1 hq with rfl | hq
          · rw [hd]; exact fun h => by cases h; exact e' rfl
          · exact hn q hq

theorem stp_put {call : Call} {p : PI} {env : Env} {h : H} {hs : List H} {s : Env × H × List H × V} (h1 : stp call p env h hs = some s) : s.1 = putE env p.co.d s.2.2.2 := by
  unfold stp at h1
  split at h1
  · cases h1
  · cases h1; rfl
  · split at h1
    · cases h1
    · split at h1
      · cases h1; rfl
      · split at h1
        · cases h1; rfl
        · cases h1
      · cases h1; rfl

/-- the heaps that are kept, behind a first part -/
theorem pre_hs {call : Call} : ∀ (B : List PI) (env : Env) (h : H) (hs : List H) (s : Env × H × List H), pre call B env h hs = some s → ∃ news, s.2.2 = news ++ hs ∧ news.length = (effIx B).length := by
  intro B
  induction B with
  | nil => intro env h hs s e; cases e; exact ⟨[], rfl, rfl⟩
  | cons p B ih =>
    intro env h hs s e
    simp only [pre] at e
    split at e
    · cases e
    rename_i s1 hs1
    obtain ⟨news, hn, hl⟩ := ih _ _ _ _ e
    have key : ∃ m, s1.2.2.1 = m ++ hs ∧ m.length = (if effB p = true then 1 else 0) := by
      unfold stp at hs1
      split at hs1
      · cases hs1
      · cases hs1
        by_cases he : effB p = true
        · exact ⟨[h], by simp [he], by simp [he]⟩
        · exact ⟨[], by simp [he], by simp [he]⟩
      · split at hs1
        · cases hs1
        · split at hs1
          · rename_i ho
            cases hs1
            refine ⟨[_], rfl, ?_⟩
            simp [effB, isE, ho]
          · rename_i ho
            split at hs1
            · cases hs1
              refine ⟨[], rfl, ?_⟩
              simp [effB, isE, ho]
            · cases hs1
          · rename_i h1 h2
            cases hs1
            refine ⟨[], rfl, ?_⟩
            cases ho : p.co.op <;> simp [effB, isE, ho]
            exact (h1 _ ho).elim
    obtain ⟨m, hm, hml⟩ := key
    refine ⟨news ++ m, by rw [hn, hm, List.append_assoc], ?_⟩
    have : (effIx (p :: B)).length = (if effB p = true then 1 else 0) + (effIx B).length := by
      unfold effIx
      by_cases he : effB p = true <;> simp [he]; omega
    rw [this, List.length_append, hl, hml]
    omega

/-- without anything made or done the heap is as it was -/
theorem pre_same {call : Call} : ∀ (B : List PI) (env : Env) (h : H) (hs : List H) (s : Env × H × List H), pre call B env h hs = some s → (∀ q ∈ B, effB q = false ∧ isA q.co.op = false) → s.2.1 = h := by
  intro B
  induction B with
  | nil => intro env h hs s e _; cases e; rfl
  | cons p B ih =>
    intro env h hs s e hB
    simp only [pre] at e
    split at e
    · cases e
    rename_i s1 hs1
    rw [ih _ _ _ _ e (fun q hq => hB q (by simp [hq]))]
    obtain ⟨h1, h2⟩ := hB p (by simp)
    unfold stp at hs1
    split at hs1
    · cases hs1
    · cases hs1; rfl
    · split at hs1
      · cases hs1
      · rename_i r hr
        cases ho : p.co.op <;> rw [ho] at hr hs1 h2 <;> simp only [effB, ho, isE, isA, Bool.true_eq_false] at h1 h2 <;> simp only [evC] at hr
        · simp only at hs1
          split at hr
          · cases hr; cases hs1; rfl
          · cases hr
        · simp only at hs1
          split at hr
          · cases hr
            split at hs1
            · cases hs1; rfl
            · cases hs1
          · cases hr

end
end Go.Ev
