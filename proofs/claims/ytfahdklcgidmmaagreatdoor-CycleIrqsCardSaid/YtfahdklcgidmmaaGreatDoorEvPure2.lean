/- A part of the evaluator and of the proof that its word holds in the model (EvPure2). -/
import Derived.Test.YtfahdklcgidmmaaGreatDoorEvPure
namespace Go.Ev

section
variable {P : Program} {G : List Nat} {nt : Nat} {φ : Phi} {env : Env} {a : Act} {W : World}

theorem nat_ok (r : REnv nt φ env a.tmps) (g : GOK G φ) {x : Operand} {o : O} (h : toO G x = some o) {n : Nat} (hn : o.nat env = some n) :
    ∃ k, a.eval x = .int k (n : Int) := by
  unfold O.nat at hn
  split at hn
  · cases hn
  · rename_i v hv
    have hr := toO_ok h r g hv
    unfold natOf at hn
    split at hn
    · rename_i k m
      split at hn
      · rename_i m'
        cases hn
        simp only [RV] at hr
        exact ⟨k, hr⟩
      · cases hn
    · cases hn

theorem cells_ok (r : REnv nt φ env a.tmps) (g : GOK G φ) {x : Operand} {o : O} (h : toO G x = some o) {cs : List V} (hn : o.cells env = some cs) :
    ∃ A, a.eval x = .agg A ∧ RVs φ cs A.toList ∧ cs.all one = true := by
  unfold O.cells at hn
  split at hn
  · rename_i cs' hv
    cases hn
    have hr := toO_ok h r g hv
    simpa only [RV] using hr
  · cases hn

theorem one_cells {v : V} (h : one v = true) : v.cells? = some [v] := by cases v <;> first | rfl | cases h

theorem RV.oneCell {v : V} {x : Value} (h : one v = true) (r : RV φ v x) : x.oneCell' = true ∧ x.cells = #[x] := by
  cases v <;> simp only [one, Bool.false_eq_true] at h <;> simp only [RV] at r
  case b => subst r; exact ⟨rfl, rfl⟩
  case i => subst r; exact ⟨rfl, rfl⟩
  case s => obtain ⟨s, rfl, _⟩ := r; exact ⟨rfl, rfl⟩
  case pn => subst r; exact ⟨rfl, rfl⟩
  case p => obtain ⟨s, _, rfl⟩ := r; exact ⟨rfl, rfl⟩
  case sn => subst r; exact ⟨rfl, rfl⟩
  case sl => obtain ⟨s, o', c', _, rfl, _⟩ := r; exact ⟨rfl, rfl⟩
  case fn => obtain ⟨A, B, rfl, _⟩ := r; exact ⟨rfl, rfl⟩
  case m => obtain ⟨s, rfl⟩ := r; exact ⟨rfl, rfl⟩
  case c => obtain ⟨rfl, h | h | h⟩ := r <;> subst h <;> exact ⟨rfl, rfl⟩

/-- the cells of a value -/
theorem RV.cells {v : V} {x : Value} {cs : List V} (h : v.cells? = some cs) (r : RV φ v x) : RVs φ cs x.cells.toList ∧ cs.all one = true := by
  by_cases ho : one v = true
  · rw [one_cells ho] at h
    cases h
    rw [(r.oneCell ho).2]
    simp only [RVs, List.all_cons, List.all_nil, Bool.and_true]
    exact ⟨⟨x, [], rfl, r, rfl⟩, ho⟩
  · cases v <;> simp [one] at ho <;> simp only [V.cells?, reduceCtorEq, Option.some.injEq] at h
    subst h
    simp only [RV] at r
    obtain ⟨A, rfl, h1, h2⟩ := r
    exact ⟨h1, h2⟩

/-! building aggregates -/

theorem putN_cons {α : Type} (l : List α) (n : Nat) (x : α) (xs : List α) (h : n < l.length) : putN (l.set n x) (n + 1) xs = putN l n (x :: xs) := by
  apply List.ext_getElem?
  intro j
  rw [get_putN, get_putN]
  simp only [List.length_set, List.length_cons, List.getElem?_set]
  by_cases h1 : j = n
  · subst h1
    rw [if_neg (by omega), if_pos (by omega)]
    simp [h]
  · by_cases h2 : n + 1 ≤ j ∧ j < n + 1 + xs.length ∧ j < l.length
    · rw [if_pos h2, if_pos (by omega)]
      rw [show j - n = (j - (n + 1)) + 1 by omega]
      rfl
    · rw [if_neg h2, if_neg (by omega), if_neg (by omega)]

theorem fold_put (off : Nat) : ∀ (l : List Value) (k : Nat) (cells : Array Value), off + k + l.length ≤ cells.size →
    ((l.zipIdx k).foldl (fun cs (c, j) => cs.setIfInBounds (off + j) c) cells).toList = putN cells.toList (off + k) l := by
  intro l
  induction l with
  | nil =>
    intro k cells h
    simp only [List.zipIdx_nil, List.foldl_nil]
    apply List.ext_getElem?
    intro j
    rw [get_putN, if_neg (by simp; omega)]
  | cons x xs ih =>
    intro k cells h
    simp only [List.length_cons] at h
    rw [List.zipIdx_cons, List.foldl_cons, ih (k + 1) _ (by simp; omega), ← putN_cons _ _ _ _ (by simp; omega)]
    simp [Nat.add_assoc]

theorem RVs.putN {cs ds : List V} {xs ys : List Value} (h : RVs φ cs xs) (k : RVs φ ds ys) (n : Nat) : RVs φ (putN cs n ds) (putN xs n ys) := by
  refine .of_get (by simp [length_putN, h.length]) fun j v x hv hx => ?_
  rw [get_putN] at hv hx
  rw [← h.length, ← k.length] at hx
  split at hv
  · rename_i hc
    rw [if_pos hc] at hx
    obtain ⟨z, hz, hr⟩ := k.get hv
    rw [hz] at hx; cases hx; exact hr
  · rename_i hc
    rw [if_neg hc] at hx
    obtain ⟨z, hz, hr⟩ := h.get hv
    rw [hz] at hx; cases hx; exact hr

theorem all_of_get {p : V → Bool} {l : List V} (h : ∀ (j : Nat) (v : V), l[j]? = some v → p v = true) : l.all p = true := by
  rw [List.all_eq_true]
  intro v hv
  obtain ⟨j, hj⟩ := List.getElem?_of_mem hv
  exact h j v hj

theorem get_of_all {p : V → Bool} {l : List V} (h : l.all p = true) {j : Nat} {v : V} (hv : l[j]? = some v) : p v = true :=
  List.all_eq_true.1 h v (List.mem_of_getElem? hv)

theorem one_putN {cs ds : List V} (h : cs.all one = true) (k : ds.all one = true) (n : Nat) : (putN cs n ds).all one = true :=
  all_of_get fun j v hv => by
    rw [get_putN] at hv
    split at hv
    · exact get_of_all k hv
    · exact get_of_all h hv

/-- the operands of an aggregate's parts, and where they go -/
theorem fill_ok (r : REnv nt φ env a.tmps) (g : GOK G φ) (place : Nat → Option (Nat × Nat)) : ∀ (ps : List (Nat × Operand)) (qs : List (Nat × Nat × O)) (cells cs : List V) (A : Array Value),
    (ps.length = qs.length ∧ ∀ (j : Nat) (p : Nat × Operand) (q : Nat × Nat × O), ps[j]? = some p → qs[j]? = some q → place p.1 = some (q.1, q.2.1) ∧ toO G p.2 = some q.2.2) →
    RVs φ cells A.toList → cells.all one = true → fillP env cells qs = some cs →
    ∃ B, Instr.fill place A (ps.map fun p => (p.1, a.eval p.2)) = some B ∧ RVs φ cs B.toList ∧ cs.all one = true := by
  intro ps
  induction ps with
  | nil =>
    intro qs cells cs A hq hA ho h
    cases qs with
    | cons q qs => simp at hq
    | nil =>
      simp only [fillP, Option.some.injEq] at h
      subst h
      exact ⟨A, rfl, hA, ho⟩
  | cons p ps ih =>
    intro qs cells cs A hq hA ho h
    cases qs with
    | nil => simp at hq
    | cons q qs =>
      obtain ⟨hl, hq⟩ := hq
      obtain ⟨hpl, hto⟩ := hq 0 p q rfl rfl
      simp only [fillP] at h
      split at h
      · cases h
      · rename_i v hv
        split at h
        · cases h
        · rename_i ds hds
          simp only [cond_eq_ite, Bool.and_eq_true, Nat.beq_eq, Nat.ble_eq, len_eq] at h
          split at h
          · rename_i hc
            have hr := toO_ok hto r g hv
            obtain ⟨h1, h2⟩ := RV.cells hds hr
            have hsz : (a.eval p.2).cells.size = q.2.1 := by rw [← hc.1]; simpa using h1.length.symm
            have hfit : q.1 + q.2.1 ≤ A.size := by have := hA.length; simp at this; omega
            have := ih qs (putN cells q.1 ds) cs ((a.eval p.2).cells.zipIdx.foldl (fun cs (c, j) => cs.setIfInBounds (q.1 + j) c) A)
              ⟨by simpa using hl, fun j p q hp hq' => hq (j + 1) p q (by simpa using hp) (by simpa using hq')⟩
              (by
                have e := fold_put q.1 (a.eval p.2).cells.toList 0 A (by simp; omega)
                rw [← Array.foldl_toList, Array.toList_zipIdx, e]
                simpa using hA.putN h1 q.1)
              (one_putN ho h2 q.1) h
            obtain ⟨B, hB, hrest⟩ := this
            refine ⟨B, ?_, hrest⟩
            simp only [List.map_cons, Instr.fill, hpl]
            rw [if_neg (by simp [hsz]; omega)]
            exact hB
          · cases h

theorem partsA_ok {s : Nat} : ∀ {ps : List (Nat × Operand)} {qs : List (Nat × Nat × O)}, partsA G s ps = some qs →
    ps.length = qs.length ∧ ∀ (j : Nat) (p : Nat × Operand) (q : Nat × Nat × O), ps[j]? = some p → qs[j]? = some q → some (p.1 * s, s) = some (q.1, q.2.1) ∧ toO G p.2 = some q.2.2 := by
  intro ps
  induction ps with
  | nil => intro qs h; simp [partsA] at h; subst h; simp
  | cons p ps ih =>
    intro qs h
    obtain ⟨i, x⟩ := p
    simp only [partsA] at h
    split at h
    · cases h
    · rename_i o ho
      split at h
      · cases h
      · rename_i l hl
        cases h
        obtain ⟨h1, h2⟩ := ih hl
        refine ⟨by simp [h1], fun j p q hp hq => ?_⟩
        cases j with
        | zero => simp at hp hq; subst hp; subst hq; exact ⟨rfl, ho⟩
        | succ j => simp at hp hq; exact h2 j p q hp hq

theorem partsS_ok {fs : Array Field} : ∀ {ps : List (Nat × Operand)} {qs : List (Nat × Nat × O)}, partsS P G fs ps = some qs →
    ps.length = qs.length ∧ ∀ (j : Nat) (p : Nat × Operand) (q : Nat × Nat × O), ps[j]? = some p → qs[j]? = some q →
      (∃ f, fs[p.1]? = some f ∧ f.offset = q.1 ∧ sizeT P f.type = some q.2.1) ∧ toO G p.2 = some q.2.2 := by
  intro ps
  induction ps with
  | nil => intro qs h; simp [partsS] at h; subst h; simp
  | cons p ps ih =>
    intro qs h
    obtain ⟨i, x⟩ := p
    simp only [partsS] at h
    split at h
    · cases h
    · rename_i f hf
      split at h
      · cases h
      · rename_i s hs
        split at h
        · cases h
        · rename_i o ho
          split at h
          · cases h
          · rename_i l hl
            cases h
            obtain ⟨h1, h2⟩ := ih hl
            refine ⟨by simp [h1], fun j p q hp hq => ?_⟩
            cases j with
            | zero => simp at hp hq; subst hp; subst hq; exact ⟨⟨f, hf, rfl, hs⟩, ho⟩
            | succ j => simp at hp hq; exact h2 j p q hp hq

/-! facts on types -/

theorem sizeT_ok {t : TypeId} {n : Nat} (h : sizeT P t = some n) : ∃ i, P.info? t = some i ∧ i.size = n := by
  unfold sizeT at h
  split at h
  · rename_i i hi; cases h; exact ⟨i, hi, rfl⟩
  · cases h

theorem run_sizeOf {t : TypeId} {n : Nat} (h : sizeT P t = some n) (W : World) : (sizeOf t).run P W = .ok n W := by
  obtain ⟨i, hi, rfl⟩ := sizeT_ok h
  simp [sizeOf, typeInfo, hi]

theorem zeroT_ok {t : TypeId} {z : List V} (h : zeroT P t = some z) : ∃ i v, P.info? t = some i ∧ i.zero = some v ∧ ∀ φ, RVs φ z v.cells.toList ∧ z.all one = true := by
  unfold zeroT at h
  split at h
  · rename_i i hi
    split at h
    · rename_i v hv
      split at h
      · rename_i w hw
        exact ⟨i, v, hi, hv, fun φ => RV.cells h (toV_ok hw φ)⟩
      · cases h
    · cases h
  · cases h

theorem run_zeroValue {t : TypeId} {i : TypeInfo} {v : Value} (hi : P.info? t = some i) (hv : i.zero = some v) (W : World) : (zeroValue t).run P W = .ok v W := by
  simp [zeroValue, typeInfo, hi, hv]

theorem run_isAgg {t : TypeId} {b : Bool} (h : aggT P t = some b) (W : World) : (isAgg t).run P W = .ok b W := by
  unfold aggT at h
  split at h
  · rename_i d hd; cases h; simp [isAgg, run_underlying hd]
  · rename_i d hd; cases h; simp [isAgg, run_underlying hd]
  · rename_i d h1 h2 hd
    cases h
    rw [isAgg, Sem.run_bind, run_underlying hd]
    simp only [Result.andThen_ok]
    cases d <;> first | rfl | exact (h1 _ rfl).elim | exact (h2 _ _ rfl).elim
  · cases h

end
end Go.Ev
