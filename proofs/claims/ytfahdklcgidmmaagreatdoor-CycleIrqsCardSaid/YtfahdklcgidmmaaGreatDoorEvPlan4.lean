/- A part of the evaluator and of the proof that its word holds in the model (EvPlan4). -/
import Derived.Test.YtfahdklcgidmmaaGreatDoorEvPlan3
namespace Go.Ev

section
variable {P : Program} {G : List Nat} {nt : Nat} {ops : Array Oper} {call : Call}
variable {L : List PI} {env' : Env} {h' : H} {φ0 : Phi} {W0 : World} {ds : List Deferred} {lst lst' : Nat → Bool} {a : Act} {W : World} {cl : T Nat} {Q : Exit → Act → World → Prop}

/-- of a list without repetitions, one place -/
theorem nodup_split {A B : List PI} {p : PI} (h : ((A ++ p :: B).map (·.ix)).Nodup) : (∀ q ∈ A, q.ix ≠ p.ix) ∧ (∀ q ∈ B, q.ix ≠ p.ix) := by
  rw [List.map_append, List.map_cons, List.nodup_append] at h
  obtain ⟨_, h2, h3⟩ := h
  rw [List.nodup_cons] at h2
  refine ⟨fun q hq e => ?_, fun q hq e => ?_⟩
  · exact h3 _ (List.mem_map_of_mem hq) p.ix (by simp) e
  · exact h2.1 (List.mem_map.2 ⟨q, hq, e⟩)

/-- the recheck of a load reaches every heap in its range -/
theorem recheck_ok {op : LC} {env : Env} {v : V} : ∀ (n : Nat) (hs : List H), recheck op env v n hs = true → ∀ k hk, k < n → hs[k]? = some hk → evL op env hk = some v := by
  intro n
  induction n with
  | zero => intro hs _ k hk h; omega
  | succ n ih =>
    intro hs hr k hk h hget
    cases hs with
    | nil => simp at hget
    | cons x hs =>
      simp only [recheck] at hr
      split at hr
      · rename_i v' hv'
        rw [Bool.and_eq_true] at hr
        obtain ⟨h1, h2⟩ := hr
        cases k with
        | zero =>
          simp at hget
          subst hget
          rw [hv', V.eqv_eq _ _ h1]
        | succ k =>
          simp at hget
          exact ih hs h2 k hk (by omega) hget
      · cases hr

theorem effIx_append (A B : List PI) : effIx (A ++ B) = effIx A ++ effIx B := by simp [effIx]

theorem allocSince_tail : ∀ (B A : List PI), (∀ q ∈ B, effB q = false) → allocSince (A ++ B) = false → (∀ q ∈ B, isA q.co.op = false) := by
  intro B
  induction B with
  | nil => intro A _ _ q hq; cases hq
  | cons p B ih =>
    intro A hB h q hq
    have h' : allocSince ((A ++ [p]) ++ B) = false := by simpa using h
    have key : ∀ (B A : List PI), (∀ q ∈ B, effB q = false) → allocSince (A ++ B) = false → allocSince A = false := by
      intro B
      induction B with
      | nil => intro A _ h; simpa using h
      | cons r B ihB =>
        intro A hB h
        have h1 : allocSince ((A ++ [r]) ++ B) = false := by simpa using h
        have h2 := ihB (A ++ [r]) (fun q hq => hB q (by simp [hq])) h1
        rw [allocSince_snoc, hB r (by simp)] at h2
        simp only [cond_false, Bool.or_eq_false_iff] at h2
        exact h2.1
    rcases List.mem_cons.1 hq with rfl | hq
    · have h2 := key B (A ++ [q]) (fun r hr => hB r (by simp [hr])) h'
      rw [allocSince_snoc, hB q (by simp)] at h2
      simp only [cond_false, Bool.or_eq_false_iff] at h2
      exact h2.2
    · exact ih (A ++ [p]) (fun r hr => hB r (by simp [hr])) h' q hq

/-- the operands of an operation that is done ahead of its turn -/
theorem J.operands (_ : Mono call) (pl : Plan P G nt ops L cl) {A B1 B2 : List PI} {p : PI} {env : Env} {h : H} {hs : List H} {Φ : Phi} (j : J P G nt ops call L env' h' φ0 W0 ds lst a W A (B1 ++ p :: B2) env h hs Φ) (hp : lst p.ix = false)
    (hpre : ∀ k, clB cl p.ix k = true → lst k = true) {s : Env × H × List H} (hs1 : pre call B1 env h hs = some s) :
    ∀ t ∈ p.co.tm, ∀ v, s.1.get t = some v → RV Φ v (a.tmps.getD t undef) := by
  intro t ht v hv
  have hnd := (pl.ixs).1
  rw [j.split] at hnd
  have hpL : p ∈ L := by rw [j.split]; simp
  have hE1 := ((Ex.append B1 (p :: B2) env h hs s hs1).1 j.ex).1
  have hdown : ∀ q ∈ L, lst q.ix = true → ∀ k, clB cl q.ix k = true → lst k = true := fun q hq => Chain.down L [] pl.chain (by simpa using j.down) (fun q hq => by cases hq) q (by simpa using hq)
  -- whoever writes an operand stands ahead, or has not been done
  have writer : ∀ q ∈ L, q.co.d = some t → q.ix ≠ p.ix ∧ (lst q.ix = true → clB cl p.ix q.ix = true) := by
    intro q hq hd
    obtain ⟨g1, g2⟩ := pl.pair hpL hq hd
    have hne : p.ix ≠ q.ix := fun e => g1 e ht
    refine ⟨fun e => hne e.symm, fun hl => ?_⟩
    rcases (g2 hne).2 with h' | h' | h'
    · exact (h' ht).elim
    · exact h'
    · have := hdown q hq hl _ h'
      rw [hp] at this; cases this
  have inB1 : ∀ q, clB cl p.ix q = true → ∃ r ∈ A ++ B1, r.ix = q := by
    intro q hq
    obtain ⟨C1, C2, hC, hitm⟩ := pl.chain.mem hpL
    obtain ⟨r, hr, e⟩ := hitm.pre q hq
    have hsame : C1 = A ++ B1 := by
      have h1 : (A ++ B1) ++ p :: B2 = C1 ++ p :: C2 := by rw [← hC, j.split]; simp
      have hn1 := (pl.ixs).1
      rw [hC] at hn1
      obtain ⟨n1, n2⟩ := nodup_split hn1
      have hn2 : (((A ++ B1) ++ p :: B2).map (·.ix)).Nodup := by rw [h1]; exact hn1
      obtain ⟨m1, m2⟩ := nodup_split hn2
      -- two splits at one item
      have : ∀ (X Y X' Y' : List PI), X ++ p :: Y = X' ++ p :: Y' → (∀ q ∈ X, q.ix ≠ p.ix) → (∀ q ∈ X', q.ix ≠ p.ix) → X = X' := by
        intro X
        induction X with
        | nil =>
          intro Y X' Y' e _ h'
          cases X' with
          | nil => rfl
          | cons x X' =>
            simp at e
            exact (h' x (by simp) (by rw [← e.1])).elim
        | cons x X ih =>
          intro Y X' Y' e hx h'
          cases X' with
          | nil =>
            simp at e
            exact (hx x (by simp) (by rw [e.1])).elim
          | cons y X' =>
            simp at e
            rw [e.1, ih Y X' Y' e.2 (fun q hq => hx q (by simp [hq])) (fun q hq => h' q (by simp [hq]))]
      exact (this _ _ _ _ h1 m1 n1).symm
    rw [List.nil_append, hsame] at hr
    exact ⟨r, hr, e⟩
  rcases pre_trace B1 env h hs s hs1 hE1 t v hv with ⟨q, hq, hd, hr⟩ | ⟨hn, hg⟩
  · have hqL : q ∈ L := by rw [j.split]; simp [hq]
    obtain ⟨g1, g2⟩ := pl.pair hpL hqL hd
    have hne : p.ix ≠ q.ix := fun e => g1 e ht
    rcases (g2 hne).2 with h1 | h1 | h1
    · exact (h1 ht).elim
    · exact hr (hpre _ h1)
    · -- q stands ahead of p: p is none of what q waits for
      obtain ⟨C1, C2, hC, hitm⟩ := pl.chain.mem hqL
      obtain ⟨r, hr', e⟩ := hitm.pre p.ix h1
      exfalso
      -- r = p stands ahead of q in the plan, and behind it
      obtain ⟨D1, D2, hD⟩ := List.append_of_mem hq
      have hL : L = (A ++ D1) ++ q :: (D2 ++ p :: B2) := by rw [j.split, hD]; simp
      have hn1 := (pl.ixs).1
      rw [hC] at hn1
      obtain ⟨n1, n2⟩ := nodup_split hn1
      rw [List.nil_append] at hr'
      have hpC2 : p ∈ C2 := by
        have hn2 := (pl.ixs).1
        rw [hL] at hn2
        obtain ⟨m1, m2⟩ := nodup_split hn2
        have hpC : p ∈ C1 ++ q :: C2 := by rw [← hC]; exact hpL
        rcases List.mem_append.1 hpC with hp1 | hp1
        · -- then p would stand twice
          exfalso
          have hlen : ∀ (X Y X' Y' : List PI), X ++ q :: Y = X' ++ q :: Y' → (∀ r ∈ X, r.ix ≠ q.ix) → (∀ r ∈ X', r.ix ≠ q.ix) → X = X' ∧ Y = Y' := by
            intro X
            induction X with
            | nil =>
              intro Y X' Y' e _ h'
              cases X' with
              | nil => simp at e; exact ⟨rfl, e⟩
              | cons x X' => simp at e; exact (h' x (by simp) (by rw [← e.1])).elim
            | cons x X ih =>
              intro Y X' Y' e hx h'
              cases X' with
              | nil => simp at e; exact (hx x (by simp) (by rw [e.1])).elim
              | cons y X' =>
                simp at e
                obtain ⟨i1, i2⟩ := ih Y X' Y' e.2 (fun r hr => hx r (by simp [hr])) (fun r hr => h' r (by simp [hr]))
                exact ⟨by rw [e.1, i1], i2⟩
          obtain ⟨i1, i2⟩ := hlen _ _ _ _ (hC.symm.trans hL) n1 m1
          have hn3 := (pl.ixs).1
          rw [hC, List.map_append, List.map_cons, List.nodup_append] at hn3
          have hpin : p ∈ C2 := by rw [i2]; simp
          exact hn3.2.2 _ (List.mem_map_of_mem hp1) _ (List.mem_cons_of_mem _ (List.mem_map_of_mem hpin)) rfl
        · rcases List.mem_cons.1 hp1 with e' | hp1
          · exact (hne (by rw [e'])).elim
          · exact hp1
      have hn3 := (pl.ixs).1
      rw [hC, List.map_append, List.map_cons, List.nodup_append] at hn3
      exact hn3.2.2 _ (List.mem_map_of_mem hr') _ (List.mem_cons_of_mem _ (List.mem_map_of_mem hpC2)) e
  · refine j.tm t v (fun q hq hl hd => ?_) hg
    have hqL : q ∈ L := by rw [j.split]; simp [hq]
    obtain ⟨hne, hw⟩ := writer q hqL hd
    rcases List.mem_append.1 hq with hq1 | hq1
    · exact hn q hq1 hd
    · rcases List.mem_cons.1 hq1 with e | hq2
      · exact hne (by rw [e])
      · obtain ⟨r, hr, e⟩ := inB1 q.ix (hw hl)
        have hn3 := (pl.ixs).1
        rw [j.split, ← List.append_assoc, List.map_append, List.map_cons, List.nodup_append] at hn3
        exact hn3.2.2 _ (List.mem_map_of_mem hr) _ (List.mem_cons_of_mem _ (List.mem_map_of_mem hq2)) e

/-- an environment of an operation's own operands -/
theorem own_env {Φ : Phi} {p : PI} {env : Env} (hsize : a.tmps.size = nt) (h : ∀ t ∈ p.co.tm, ∀ v, env.get t = some v → RV Φ v (a.tmps.getD t undef)) :
    REnv nt Φ (env.filt fun t => p.co.tm.contains t) a.tmps ∧ Agree p.co.tm (env.filt fun t => p.co.tm.contains t) env := by
  refine ⟨⟨hsize, fun t v hv => ?_⟩, fun t ht => ?_⟩
  · rw [T.get_filt] at hv
    split at hv
    · rename_i hc
      exact h t (by simpa using hc) v hv
    · cases hv
  · rw [T.get_filt, if_pos (by simpa using ht)]

theorem own_guard {p : PI} {e1 e2 : Env} (h : Agree p.co.tm e1 e2) : wantG e1 p.co.g = wantG e2 p.co.g :=
  wantG_congr fun x hx => h x.1 (by simp [CO.tm, hx])

theorem own_op {p : PI} {e1 e2 : Env} (h : Agree p.co.tm e1 e2) : Agree p.co.op.tm e1 e2 := fun t ht => h t (by simp [CO.tm, ht])

end
end Go.Ev
