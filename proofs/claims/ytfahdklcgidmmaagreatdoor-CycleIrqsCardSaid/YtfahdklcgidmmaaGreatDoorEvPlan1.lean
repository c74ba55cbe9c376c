/- A part of the evaluator and of the proof that its word holds in the model (EvPlan1). -/
import Derived.Test.YtfahdklcgidmmaaGreatDoorEvCongr
namespace Go.Ev

def effB (p : PI) : Bool := isE p.co.op

/-- has something been made since the last operation that acts? -/
def allocS : List PI → Bool
  | [] => false
  | _ :: A => allocS A

def allocSince (A : List PI) : Bool := A.foldl (fun b p => bif effB p then false else b || isA p.co.op) false

def effIx (A : List PI) : List Nat := (A.filter effB).map (·.ix)

theorem effIx_snoc (A : List PI) (p : PI) : effIx (A ++ [p]) = effIx A ++ (if effB p = true then [p.ix] else []) := by
  unfold effIx
  rw [List.filter_append]
  by_cases h : effB p = true <;> simp [h]

theorem allocSince_snoc (A : List PI) (p : PI) : allocSince (A ++ [p]) = (bif effB p then false else allocSince A || isA p.co.op) := by
  simp [allocSince, List.foldl_append]

section
variable {P : Program} {G : List Nat} {nt : Nat} {ops : Array Oper}

/-- what is known of an item of a plan, behind the items A -/
structure Itm (P : Program) (G : List Nat) (nt : Nat) (ops : Array Oper) (cl : T Nat) (A : List PI) (p : PI) : Prop where
  op : ∃ o, ops[p.ix]? = some o ∧ cCO P G nt ops o = some p.co ∧ (∀ e ∈ binding o, clB cl p.ix e = true) ∧ (∀ j, clB cl p.ix j = true → ∃ e ∈ binding o, e = j ∨ clB cl e j = true) ∧
    ∀ w, o.guard = some w → clB cl p.ix w.1 = true
  new : ∀ q ∈ A, q.ix ≠ p.ix
  pre : ∀ j, clB cl p.ix j = true → ∃ q ∈ A, q.ix = j
  eff : effB p = true → ∀ q ∈ A, clB cl p.ix q.ix = true
  back : isL p.co.op = true → p.skip = (if allocSince A = true then 0 else 1) ∧ p.back = (effIx A).length - ((effIx A).filter fun e => clB cl p.ix e).length + 1 - p.skip

def Chain (P : Program) (G : List Nat) (nt : Nat) (ops : Array Oper) (cl : T Nat) : List PI → List PI → Prop
  | _, [] => True
  | A, p :: B => Itm P G nt ops cl A p ∧ Chain P G nt ops cl (A ++ [p]) B

theorem Chain.append {cl : T Nat} : ∀ (B1 A B2 : List PI), Chain P G nt ops cl A (B1 ++ B2) → Chain P G nt ops cl A B1 ∧ Chain P G nt ops cl (A ++ B1) B2 := by
  intro B1
  induction B1 with
  | nil => intro A B2 h; exact ⟨trivial, by simpa using h⟩
  | cons p B1 ih =>
    intro A B2 h
    obtain ⟨h1, h2⟩ := h
    obtain ⟨h3, h4⟩ := ih _ _ h2
    exact ⟨⟨h1, h3⟩, by simpa using h4⟩

theorem Chain.mem {cl : T Nat} {A B : List PI} (h : Chain P G nt ops cl A B) {p : PI} (hp : p ∈ B) : ∃ B1 B2, B = B1 ++ p :: B2 ∧ Itm P G nt ops cl (A ++ B1) p := by
  obtain ⟨B1, B2, rfl⟩ := List.append_of_mem hp
  exact ⟨B1, B2, rfl, (Chain.append B1 A _ h).2.1⟩

structure PInv (A : List PI) (s : PS) : Prop where
  done : ∀ j, s.done.testBit j = true ↔ ∃ q ∈ A, q.ix = j
  cld : ∀ j m, s.cl.get j = some m → ∃ q ∈ A, q.ix = j
  effs : s.effs = (effIx A).reverse
  alloc : s.alloc = allocSince A
  clp : ∀ j m, s.cl.get j = some m → ∀ i, m.testBit i = true → ∃ q ∈ A, q.ix = i

theorem clOf_ok {cl : T Nat} : ∀ {es : List Nat} {m : Nat}, clOf cl es = some m →
    (∀ e ∈ es, (∃ m', cl.get e = some m') ∧ m.testBit e = true) ∧ ∀ j, m.testBit j = true → ∃ e ∈ es, e = j ∨ ∃ m', cl.get e = some m' ∧ m'.testBit j = true := by
  intro es
  induction es with
  | nil =>
    intro m h
    simp only [clOf, Option.some.injEq] at h
    subst h
    exact ⟨(fun e he => by cases he), (fun j hj => by simp at hj)⟩
  | cons e es ih =>
    intro m h
    simp only [clOf] at h
    split at h
    · cases h
    rename_i m1 hm1
    split at h
    · cases h
    rename_i m2 hm2
    cases h
    obtain ⟨h1, h2⟩ := ih hm2
    refine ⟨fun x hx => ?_, fun j hj => ?_⟩
    · rcases List.mem_cons.1 hx with rfl | hx
      · exact ⟨⟨m1, hm1⟩, by simp [Nat.testBit_or, Nat.testBit_two_pow_self]⟩
      · obtain ⟨g1, g2⟩ := h1 x hx
        exact ⟨g1, by simp [Nat.testBit_or, g2]⟩
    · simp only [Nat.testBit_or, Bool.or_eq_true] at hj
      rcases hj with (hj | hj) | hj
      · exact ⟨e, by simp, .inr ⟨m1, hm1, hj⟩⟩
      · rw [Nat.testBit_two_pow, decide_eq_true_eq] at hj
        exact ⟨e, by simp, .inl hj⟩
      · obtain ⟨x, hx, hh⟩ := h2 j hj
        exact ⟨x, by simp [hx], hh⟩

theorem countIn_eq (m : Nat) : ∀ l : List Nat, countIn m l = (l.filter fun e => m.testBit e).length := by
  intro l
  induction l with
  | nil => rfl
  | cons e l ih =>
    simp only [countIn, ih, cond_eq_ite, List.filter_cons]
    split <;> simp <;> omega

theorem filter_reverse_length (l : List Nat) (f : Nat → Bool) : (l.reverse.filter f).length = (l.filter f).length := by
  rw [List.filter_reverse, List.length_reverse]

theorem goPlan_ok : ∀ (is : List Nat) (A : List PI) (s : PS) (items : List PI) (s' : PS), PInv A s → goPlan P G nt ops is s = some (items, s') →
    (∀ j m, s.cl.get j = some m → s'.cl.get j = some m) ∧ Chain P G nt ops s'.cl A items ∧ items.map (·.ix) = is ∧ PInv (A ++ items) s' := by
  intro is
  induction is with
  | nil =>
    intro A s items s' hI h
    simp only [goPlan, Option.some.injEq, Prod.mk.injEq] at h
    obtain ⟨rfl, rfl⟩ := h
    exact ⟨fun j m h => h, trivial, rfl, by simpa using hI⟩
  | cons i is ih =>
    intro A s items s' hI h
    simp only [goPlan] at h
    split at h
    · cases h
    rename_i o ho
    split at h
    · cases h
    rename_i c hc
    split at h
    · cases h
    rename_i m hm
    simp only [cond_eq_ite, Bool.and_eq_true, Bool.not_eq_true', Bool.or_eq_true, Nat.beq_eq] at h
    split at h
    · rename_i hcond
      obtain ⟨⟨hnew, hguard⟩, heff⟩ := hcond
      split at h
      · cases h
      rename_i l s2 hrec
      simp only [Option.some.injEq, Prod.mk.injEq] at h
      obtain ⟨rfl, rfl⟩ := h
      generalize hskip : (if s.alloc = true then 0 else 1) = sk at hrec ⊢
      generalize hback : (if isL c.op = true then len s.effs - countIn m s.effs + 1 - sk else 0) = bk at hrec ⊢
      have hi : s.cl.get i = none := by
        cases e : s.cl.get i with
        | none => rfl
        | some m' =>
          obtain ⟨q, hq, hqi⟩ := hI.cld i m' e
          have := (hI.done i).2 ⟨q, hq, hqi⟩
          rw [this] at hnew; cases hnew
      obtain ⟨hc1, hc2⟩ := clOf_ok hm
      have hI' : PInv (A ++ [⟨i, c, sk, bk⟩]) ⟨s.cl.set i m, s.done ||| 2 ^ i, if isE c.op = true then i :: s.effs else s.effs, if isE c.op = true then false else s.alloc || isA c.op⟩ := by
        refine ⟨fun j => ?_, fun j m' h => ?_, ?_, ?_, fun j m' h k hk => ?_⟩
        · simp only [Nat.testBit_or, Bool.or_eq_true, hI.done j, List.mem_append, List.mem_singleton]
          constructor
          · rintro (⟨q, hq, e⟩ | hj)
            · exact ⟨q, .inl hq, e⟩
            · rw [Nat.testBit_two_pow, decide_eq_true_eq] at hj
              exact ⟨_, .inr rfl, hj⟩
          · rintro ⟨q, hq | rfl, e⟩
            · exact .inl ⟨q, hq, e⟩
            · subst e; exact .inr (by rw [Nat.testBit_two_pow]; simp)
        · rw [T.get_set] at h
          split at h
          · rename_i e; exact ⟨_, by simp; exact .inr rfl, e.symm⟩
          · obtain ⟨q, hq, e⟩ := hI.cld j m' h
            exact ⟨q, by simp [hq], e⟩
        · rw [effIx_snoc, hI.effs]
          by_cases e : isE c.op = true <;> simp [e, effB]
        · rw [allocSince_snoc, hI.alloc]
          by_cases e : isE c.op = true <;> simp [e, effB]
        · rw [T.get_set] at h
          split at h
          · cases h
            obtain ⟨e, he, hh⟩ := hc2 k hk
            obtain ⟨⟨me, hme⟩, _⟩ := hc1 e he
            rcases hh with rfl | ⟨m', hm', hk'⟩
            · obtain ⟨q, hq, e'⟩ := hI.cld e me hme
              exact ⟨q, by simp [hq], e'⟩
            · obtain ⟨q, hq, e'⟩ := hI.clp e m' hm' k hk'
              exact ⟨q, by simp [hq], e'⟩
          · obtain ⟨q, hq, e'⟩ := hI.clp j m' h k hk
            exact ⟨q, by simp [hq], e'⟩
      obtain ⟨g1, g2, g3, g4⟩ := ih (A ++ [⟨i, c, sk, bk⟩]) _ l s2 hI' (by simpa only [cond_eq_ite] using hrec)
      have hmi : s2.cl.get i = some m := g1 i m (by rw [T.get_set, if_pos rfl])
      have hold : ∀ j m', s.cl.get j = some m' → s2.cl.get j = some m' := by
        intro j m' h
        refine g1 j m' ?_
        rw [T.get_set]
        split
        · rename_i e; subst e; rw [hi] at h; cases h
        · exact h
      have hcl : ∀ j, clB s2.cl i j = m.testBit j := by intro j; simp only [clB, hmi]
      refine ⟨hold, ⟨⟨⟨o, ho, hc, fun e he => ?_, fun j hj => ?_, fun w hw => ?_⟩, fun q hq e => ?_, fun j hj => ?_, fun he q hq => ?_, fun hL => ?_⟩, g2⟩, by simp [g3], by simpa using g4⟩
      · rw [hcl]; exact (hc1 e he).2
      · rw [hcl] at hj
        obtain ⟨e, he, hh⟩ := hc2 j hj
        refine ⟨e, he, ?_⟩
        rcases hh with rfl | ⟨m', hm', hk⟩
        · exact .inl rfl
        · exact .inr (by simp only [clB, hold e m' hm']; exact hk)
      · rw [hcl]
        rw [hw] at hguard
        exact hguard
      · have := (hI.done i).2 ⟨q, hq, e⟩
        rw [this] at hnew; cases hnew
      · rw [hcl] at hj
        obtain ⟨e, he, hh⟩ := hc2 j hj
        obtain ⟨⟨me, hme⟩, _⟩ := hc1 e he
        rcases hh with rfl | ⟨m', hm', hk'⟩
        · exact hI.cld e me hme
        · exact hI.clp e m' hm' j hk'
      · rw [hcl]
        have he' : isE c.op = true := he
        rcases heff with h' | h'
        · rw [he'] at h'; cases h'
        · rw [h']; exact (hI.done q.ix).2 ⟨q, hq, rfl⟩
      · refine ⟨by rw [← hskip, hI.alloc], ?_⟩
        have hL' : isL c.op = true := hL
        show bk = _
        rw [← hback, if_pos hL', len_eq, countIn_eq, hI.effs, List.length_reverse, filter_reverse_length]
        simp only [hcl]
    · cases h

/-- what is known of a plan -/
structure Plan (P : Program) (G : List Nat) (nt : Nat) (ops : Array Oper) (L : List PI) (cl : T Nat) : Prop where
  chain : Chain P G nt ops cl [] L
  size : L.length = ops.size
  pairs : pairsOk cl L = true

theorem cPlan_ok {order : List Nat} {items : List PI} (h : cPlan P G nt ops order = some items) : ∃ cl, Plan P G nt ops items cl := by
  unfold cPlan at h
  split at h
  · cases h
  rename_i l s hl
  simp only [cond_eq_ite, Bool.and_eq_true, Nat.beq_eq, len_eq] at h
  split at h
  · rename_i hc
    cases h
    have hI : PInv [] ⟨.e, 0, [], false⟩ := ⟨by simp, by simp [T.get_e], rfl, rfl, by simp [T.get_e]⟩
    obtain ⟨_, h2, h3, _⟩ := goPlan_ok order [] _ items s hI hl
    refine ⟨s.cl, h2, ?_, hc.2⟩
    have := congrArg List.length h3
    simp at this
    omega
  · cases h

variable {L : List PI} {cl : T Nat}

theorem Plan.ixs (p : Plan P G nt ops L cl) : (L.map (·.ix)).Nodup ∧ ∀ q ∈ L, q.ix < ops.size := by
  have key : ∀ (B A : List PI), Chain P G nt ops cl A B → (A.map (·.ix)).Nodup → ((A ++ B).map (·.ix)).Nodup := by
    intro B
    induction B with
    | nil => intro A _ h; simpa using h
    | cons q B ih =>
      intro A hc h
      obtain ⟨hi, hc⟩ := hc
      have := ih (A ++ [q]) hc (by
        rw [List.map_append, List.nodup_append]
        refine ⟨h, by simp, fun a ha b hb => ?_⟩
        simp at hb
        subst hb
        obtain ⟨x, hx, rfl⟩ := List.mem_map.1 ha
        exact hi.new x hx)
      simpa using this
  refine ⟨by simpa using key L [] p.chain (by simp), fun q hq => ?_⟩
  obtain ⟨B1, B2, _, hi⟩ := p.chain.mem hq
  obtain ⟨o, ho, _⟩ := hi.op
  obtain ⟨hlt, _⟩ := Array.getElem?_eq_some_iff.1 ho
  exact hlt

/-- every operation has its place in the plan -/
theorem Plan.cover (p : Plan P G nt ops L cl) {i : Nat} (hi : i < ops.size) : ∃ q ∈ L, q.ix = i := by
  obtain ⟨h1, h2⟩ := p.ixs
  have hsub : (L.map (·.ix)) ⊆ List.range ops.size := by
    intro x hx
    obtain ⟨q, hq, rfl⟩ := List.mem_map.1 hx
    exact List.mem_range.2 (h2 q hq)
  by_cases hm : i ∈ L.map (·.ix)
  · obtain ⟨q, hq, e⟩ := List.mem_map.1 hm
    exact ⟨q, hq, e⟩
  · have hn : (i :: L.map (·.ix)).Nodup := List.nodup_cons.2 ⟨hm, h1⟩
    have hs : (i :: L.map (·.ix)) ⊆ List.range ops.size := by
      intro x hx
      rcases List.mem_cons.1 hx with rfl | hx
      · exact List.mem_range.2 hi
      · exact hsub hx
    have := hn.length_le_of_subset hs
    simp [p.size] at this
    omega

/-- what is done holds all that stands ahead of it -/
theorem Chain.down {lst : Nat → Bool} : ∀ (B A : List PI), Chain P G nt ops cl A B →
    (∀ q ∈ A ++ B, lst q.ix = true → ∀ o, ops[q.ix]? = some o → ∀ e ∈ binding o, lst e = true) →
    (∀ q ∈ A, lst q.ix = true → ∀ j, clB cl q.ix j = true → lst j = true) →
    ∀ q ∈ A ++ B, lst q.ix = true → ∀ j, clB cl q.ix j = true → lst j = true := by
  intro B
  induction B with
  | nil => intro A _ _ hA q hq; exact hA q (by simpa using hq)
  | cons p B ih =>
    intro A hc hb hA q hq
    obtain ⟨hi, hc⟩ := hc
    refine ih (A ++ [p]) hc (by simpa using hb) (fun q' hq' hl j hj => ?_) q (by simpa using hq)
    rcases List.mem_append.1 hq' with h | h
    · exact hA q' h hl j hj
    · rw [List.mem_singleton] at h
      subst h
      obtain ⟨o, ho, _, hb1, hb2, _⟩ := hi.op
      obtain ⟨e, he, hh⟩ := hb2 j hj
      have hle := hb q' (by simp) hl o ho e he
      rcases hh with rfl | hh
      · exact hle
      · obtain ⟨r, hr, re⟩ := hi.pre e (hb1 e he)
        subst re
        exact hA r hr hle j hh

theorem Plan.pair (p : Plan P G nt ops L cl) {a b : PI} (ha : a ∈ L) (hb : b ∈ L) {d : Nat} (hd : b.co.d = some d) :
    (a.ix = b.ix → d ∉ a.co.tm) ∧ (a.ix ≠ b.ix → a.co.d ≠ some d ∧ (d ∉ a.co.tm ∨ clB cl a.ix b.ix = true ∨ clB cl b.ix a.ix = true)) := by
  have h := p.pairs
  unfold pairsOk at h
  have h1 := List.all_eq_true.1 (List.all_eq_true.1 h a ha) b hb
  unfold pairOk at h1
  rw [hd] at h1
  simp only [cond_eq_ite, Nat.beq_eq] at h1
  have hany : ∀ (l : List Nat), l.any (Nat.beq d) = true ↔ d ∈ l := by
    intro l
    rw [List.any_eq_true]
    constructor
    · rintro ⟨x, hx, e⟩; rw [Nat.beq_eq] at e; subst e; exact hx
    · intro hx; exact ⟨d, hx, by simp⟩
  refine ⟨fun e => ?_, fun e => ?_⟩
  · rw [if_pos e] at h1
    intro hm
    rw [(hany _).2 hm] at h1
    cases h1
  · rw [if_neg e] at h1
    simp only [Bool.and_eq_true, Bool.not_eq_true', Bool.or_eq_true] at h1
    obtain ⟨g1, g2⟩ := h1
    refine ⟨fun hh => ?_, ?_⟩
    · rw [hh] at g1
      simp at g1
    · rcases g2 with (g2 | g2) | g2
      · refine .inl fun hm => ?_
        rw [(hany _).2 hm] at g2; cases g2
      · exact .inr (.inl g2)
      · exact .inr (.inr g2)

end
end Go.Ev
