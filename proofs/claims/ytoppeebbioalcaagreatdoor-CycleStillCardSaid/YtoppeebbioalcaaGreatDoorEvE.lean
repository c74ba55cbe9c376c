/- The evaluator: drawn regions; its word holds in the model; known calls. -/
import Derived.Test.YtoppeebbioalcaaGreatDoorEvD
set_option linter.all false
namespace Go.Ev
def effB (p : PI) : Bool:=isE p.co.op
def allocS : List PI → Bool
  | [] => false
  | _ :: A => allocS A
def allocSince (A : List PI) : Bool:=A.foldl (fun b p => bif effB p then false else b || isA p.co.op) false
def effIx (A : List PI) : List Nat:=(A.filter effB).map (·.ix)
theorem effIx_snoc (A : List PI) (p : PI) : effIx (A ++ [p]) = effIx A ++ (if effB p = true then [p.ix] else []):=by
  unfold effIx
  rw [List.filter_append]
  by_cases h : effB p = true <;> simp [h]
theorem allocSince_snoc (A : List PI) (p : PI) : allocSince (A ++ [p]) = (bif effB p then false else allocSince A || isA p.co.op):=by
  simp [allocSince,List.foldl_append]
section
variable {P : Program} {G : GL} {X : Hint} {nt : Nat} {ops : Array Oper}
structure Itm (P : Program) (G : GL) (X : Hint) (nt : Nat) (ops : Array Oper) (cl : T Nat) (A : List PI) (p : PI) : Prop where
  op : ∃ o,ops[p.ix]? = some o ∧ cCO P G X nt ops o = some p.co ∧ (∀ e ∈ binding o,clB cl p.ix e = true) ∧ (∀ j,clB cl p.ix j = true → ∃ e ∈ binding o,e = j ∨ clB cl e j = true) ∧
    ∀ w,o.guard = some w → clB cl p.ix w.1 = true
  new : ∀ q ∈ A,q.ix ≠ p.ix
  pre : ∀ j,clB cl p.ix j = true → ∃ q ∈ A,q.ix = j
  eff : effB p = true → ∀ q ∈ A,clB cl p.ix q.ix = true
  back : isL p.co.op = true → p.skip = (if allocSince A = true then 0 else 1) ∧ p.back = (effIx A).length - ((effIx A).filter fun e => clB cl p.ix e).length + 1 - p.skip
def Chain (P : Program) (G : GL) (X : Hint) (nt : Nat) (ops : Array Oper) (cl : T Nat) : List PI → List PI → Prop
  | _,[] => True
  | A,p :: B => Itm P G X nt ops cl A p ∧ Chain P G X nt ops cl (A ++ [p]) B
theorem Chain.append {cl : T Nat} : ∀ (B1 A B2 : List PI),Chain P G X nt ops cl A (B1 ++ B2) → Chain P G X nt ops cl A B1 ∧ Chain P G X nt ops cl (A ++ B1) B2:=by
  intro B1
  induction B1 with
  | nil => intro A B2 h; exact ⟨trivial,by simpa using h⟩
  | cons p B1 ih =>
    intro A B2 h
    obtain ⟨h1,h2⟩:=h
    obtain ⟨h3,h4⟩:=ih _ _ h2
    exact ⟨⟨h1,h3⟩,by simpa using h4⟩
theorem Chain.mem {cl : T Nat} {A B : List PI} (h : Chain P G X nt ops cl A B) {p : PI} (hp : p ∈ B) : ∃ B1 B2,B = B1 ++ p :: B2 ∧ Itm P G X nt ops cl (A ++ B1) p:=by
  obtain ⟨B1,B2,rfl⟩:=List.append_of_mem hp
  exact ⟨B1,B2,rfl,(Chain.append B1 A _ h).2.1⟩
structure PInv (A : List PI) (s : PS) : Prop where
  done : ∀ j,s.done.testBit j = true ↔ ∃ q ∈ A,q.ix = j
  cld : ∀ j m,s.cl.get j = some m → ∃ q ∈ A,q.ix = j
  effs : s.effs = (effIx A).reverse
  alloc : s.alloc = allocSince A
  clp : ∀ j m,s.cl.get j = some m → ∀ i,m.testBit i = true → ∃ q ∈ A,q.ix = i
theorem clOf_ok {cl : T Nat} : ∀ {es : List Nat} {m : Nat},clOf cl es = some m →
    (∀ e ∈ es,(∃ m',cl.get e = some m') ∧ m.testBit e = true) ∧ ∀ j,m.testBit j = true → ∃ e ∈ es,e = j ∨ ∃ m',cl.get e = some m' ∧ m'.testBit j = true:=by
  intro es
  induction es with
  | nil =>
    intro m h
    simp only [clOf,Option.some.injEq] at h
    subst h
    exact ⟨(fun e he => by cases he),(fun j hj => by simp at hj)⟩
  | cons e es ih =>
    intro m h
    simp only [clOf] at h
    split at h
    · cases h
    rename_i m1 hm1
    split at h
    · cases h
    rename_i m2 hm2
    cases h
    obtain ⟨h1,h2⟩:=ih hm2
    refine ⟨fun x hx => ?_,fun j hj => ?_⟩
    · rcases List.mem_cons.1 hx with rfl | hx
      · exact ⟨⟨m1,hm1⟩,by simp [Nat.testBit_or,Nat.testBit_two_pow_self]⟩
      · obtain ⟨g1,g2⟩:=h1 x hx
        exact ⟨g1,by simp [Nat.testBit_or,g2]⟩
    · simp only [Nat.testBit_or,Bool.or_eq_true] at hj
      rcases hj with (hj | hj) | hj
      · exact ⟨e,by simp,.inr ⟨m1,hm1,hj⟩⟩
      · rw [Nat.testBit_two_pow,decide_eq_true_eq] at hj
        exact ⟨e,by simp,.inl hj⟩
      · obtain ⟨x,hx,hh⟩:=h2 j hj
        exact ⟨x,by simp [hx],hh⟩
theorem countIn_eq (m : Nat) : ∀ l : List Nat,countIn m l = (l.filter fun e => m.testBit e).length:=by
  intro l
  induction l with
  | nil => rfl
  | cons e l ih =>
    simp only [countIn,ih,cond_eq_ite,List.filter_cons]
    split <;> simp <;> omega
theorem filter_reverse_length (l : List Nat) (f : Nat → Bool) : (l.reverse.filter f).length = (l.filter f).length:=by
  rw [List.filter_reverse,List.length_reverse]
theorem goPlan_ok : ∀ (is : List Nat) (A : List PI) (s : PS) (items : List PI) (s' : PS),PInv A s → goPlan P G X nt ops is s = some (items,s') →
    (∀ j m,s.cl.get j = some m → s'.cl.get j = some m) ∧ Chain P G X nt ops s'.cl A items ∧ items.map (·.ix) = is ∧ PInv (A ++ items) s':=by
  intro is
  induction is with
  | nil =>
    intro A s items s' hI h
    simp only [goPlan,Option.some.injEq,Prod.mk.injEq] at h
    obtain ⟨rfl,rfl⟩:=h
    exact ⟨fun j m h => h,trivial,rfl,by simpa using hI⟩
  | cons i is ih =>
    intro A s items s' hI h
    simp only [goPlan] at h
    split at h
    · cases h
    rename_i o ho
    split at h
    · cases h
    rename_i c hc
    split at h
    · cases h
    rename_i m hm
    simp only [cond_eq_ite,Bool.and_eq_true,Bool.not_eq_true',Bool.or_eq_true,Nat.beq_eq] at h
    split at h
    · rename_i hcond
      obtain ⟨⟨hnew,hguard⟩,heff⟩:=hcond
      split at h
      · cases h
      rename_i l s2 hrec
      simp only [Option.some.injEq,Prod.mk.injEq] at h
      obtain ⟨rfl,rfl⟩:=h
      generalize hskip : (if s.alloc = true then 0 else 1) = sk at hrec ⊢
      generalize hback : (if isL c.op = true then len s.effs - countIn m s.effs + 1 - sk else 0) = bk at hrec ⊢
      have hi : s.cl.get i = none:=by
        cases e : s.cl.get i with
        | none => rfl
        | some m' =>
          obtain ⟨q,hq,hqi⟩:=hI.cld i m' e
          have:=(hI.done i).2 ⟨q,hq,hqi⟩
          rw [this] at hnew; cases hnew
      obtain ⟨hc1,hc2⟩:=clOf_ok hm
      have hI' : PInv (A ++ [⟨i,c,sk,bk⟩]) ⟨s.cl.set i m,s.done ||| 2 ^ i,if isE c.op = true then i :: s.effs else s.effs,if isE c.op = true then false else s.alloc || isA c.op⟩:=by
        refine ⟨fun j => ?_,fun j m' h => ?_,?_,?_,fun j m' h k hk => ?_⟩
        · simp only [Nat.testBit_or,Bool.or_eq_true,hI.done j,List.mem_append,List.mem_singleton]
          constructor
          · rintro (⟨q,hq,e⟩ | hj)
            · exact ⟨q,.inl hq,e⟩
            · rw [Nat.testBit_two_pow,decide_eq_true_eq] at hj
              exact ⟨_,.inr rfl,hj⟩
          · rintro ⟨q,hq | rfl,e⟩
            · exact .inl ⟨q,hq,e⟩
            · subst e; exact .inr (by rw [Nat.testBit_two_pow]; simp)
        · rw [T.get_set] at h
          split at h
          · rename_i e; exact ⟨_,by simp; exact .inr rfl,e.symm⟩
          · obtain ⟨q,hq,e⟩:=hI.cld j m' h
            exact ⟨q,by simp [hq],e⟩
        · rw [effIx_snoc,hI.effs]
          by_cases e : isE c.op = true <;> simp [e,effB]
        · rw [allocSince_snoc,hI.alloc]
          by_cases e : isE c.op = true <;> simp [e,effB]
        · rw [T.get_set] at h
          split at h
          · cases h
            obtain ⟨e,he,hh⟩:=hc2 k hk
            obtain ⟨⟨me,hme⟩,_⟩:=hc1 e he
            rcases hh with rfl | ⟨m',hm',hk'⟩
            · obtain ⟨q,hq,e'⟩:=hI.cld e me hme
              exact ⟨q,by simp [hq],e'⟩
            · obtain ⟨q,hq,e'⟩:=hI.clp e m' hm' k hk'
              exact ⟨q,by simp [hq],e'⟩
          · obtain ⟨q,hq,e'⟩:=hI.clp j m' h k hk
            exact ⟨q,by simp [hq],e'⟩
      obtain ⟨g1,g2,g3,g4⟩:=ih (A ++ [⟨i,c,sk,bk⟩]) _ l s2 hI' (by simpa only [cond_eq_ite] using hrec)
      have hmi : s2.cl.get i = some m:=g1 i m (by rw [T.get_set,if_pos rfl])
      have hold : ∀ j m',s.cl.get j = some m' → s2.cl.get j = some m':=by
        intro j m' h
        refine g1 j m' ?_
        rw [T.get_set]
        split
        · rename_i e; subst e; rw [hi] at h; cases h
        · exact h
      have hcl : ∀ j,clB s2.cl i j = m.testBit j:=by intro j; simp only [clB,hmi]
      refine ⟨hold,⟨⟨⟨o,ho,hc,fun e he => ?_,fun j hj => ?_,fun w hw => ?_⟩,fun q hq e => ?_,fun j hj => ?_,fun he q hq => ?_,fun hL => ?_⟩,g2⟩,by simp [g3],by simpa using g4⟩
      · rw [hcl]; exact (hc1 e he).2
      · rw [hcl] at hj
        obtain ⟨e,he,hh⟩:=hc2 j hj
        refine ⟨e,he,?_⟩
        rcases hh with rfl | ⟨m',hm',hk⟩
        · exact .inl rfl
        · exact .inr (by simp only [clB,hold e m' hm']; exact hk)
      · rw [hcl]
        rw [hw] at hguard
        exact hguard
      · have:=(hI.done i).2 ⟨q,hq,e⟩
        rw [this] at hnew; cases hnew
      · rw [hcl] at hj
        obtain ⟨e,he,hh⟩:=hc2 j hj
        obtain ⟨⟨me,hme⟩,_⟩:=hc1 e he
        rcases hh with rfl | ⟨m',hm',hk'⟩
        · exact hI.cld e me hme
        · exact hI.clp e m' hm' j hk'
      · rw [hcl]
        have he' : isE c.op = true:=he
        rcases heff with h' | h'
        · rw [he'] at h'; cases h'
        · rw [h']; exact (hI.done q.ix).2 ⟨q,hq,rfl⟩
      · refine ⟨by rw [← hskip,hI.alloc],?_⟩
        have hL' : isL c.op = true:=hL
        show bk = _
        rw [← hback,if_pos hL',len_eq,countIn_eq,hI.effs,List.length_reverse,filter_reverse_length]
        simp only [hcl]
    · cases h
structure Plan (P : Program) (G : GL) (X : Hint) (nt : Nat) (ops : Array Oper) (L : List PI) (cl : T Nat) : Prop where
  chain : Chain P G X nt ops cl [] L
  size : L.length = ops.size
  pairs : pairsOk cl L = true
theorem cPlan_ok {order : List Nat} {items : List PI} (h : cPlan P G X nt ops order = some items) : ∃ cl,Plan P G X nt ops items cl:=by
  unfold cPlan at h
  split at h
  · cases h
  rename_i l s hl
  simp only [cond_eq_ite,Bool.and_eq_true,Nat.beq_eq,len_eq] at h
  split at h
  · rename_i hc
    cases h
    have hI : PInv [] ⟨.e,0,[],false⟩:=⟨by simp,by simp [T.get_e],rfl,rfl,by simp [T.get_e]⟩
    obtain ⟨_,h2,h3,_⟩:=goPlan_ok order [] _ items s hI hl
    refine ⟨s.cl,h2,?_,hc.2⟩
    have:=congrArg List.length h3
    simp at this
    omega
  · cases h
variable {L : List PI} {cl : T Nat}
theorem Plan.ixs (p : Plan P G X nt ops L cl) : (L.map (·.ix)).Nodup ∧ ∀ q ∈ L,q.ix < ops.size:=by
  have key : ∀ (B A : List PI),Chain P G X nt ops cl A B → (A.map (·.ix)).Nodup → ((A ++ B).map (·.ix)).Nodup:=by
    intro B
    induction B with
    | nil => intro A _ h; simpa using h
    | cons q B ih =>
      intro A hc h
      obtain ⟨hi,hc⟩:=hc
      have:=ih (A ++ [q]) hc (by
        rw [List.map_append,List.nodup_append]
        refine ⟨h,by simp,fun a ha b hb => ?_⟩
        simp at hb
        subst hb
        obtain ⟨x,hx,rfl⟩:=List.mem_map.1 ha
        exact hi.new x hx)
      simpa using this
  refine ⟨by simpa using key L [] p.chain (by simp),fun q hq => ?_⟩
  obtain ⟨B1,B2,_,hi⟩:=p.chain.mem hq
  obtain ⟨o,ho,_⟩:=hi.op
  obtain ⟨hlt,_⟩:=Array.getElem?_eq_some_iff.1 ho
  exact hlt
theorem Plan.cover (p : Plan P G X nt ops L cl) {i : Nat} (hi : i < ops.size) : ∃ q ∈ L,q.ix = i:=by
  obtain ⟨h1,h2⟩:=p.ixs
  have hsub : (L.map (·.ix)) ⊆ List.range ops.size:=by
    intro x hx
    obtain ⟨q,hq,rfl⟩:=List.mem_map.1 hx
    exact List.mem_range.2 (h2 q hq)
  by_cases hm : i ∈ L.map (·.ix)
  · obtain ⟨q,hq,e⟩:=List.mem_map.1 hm
    exact ⟨q,hq,e⟩
  · have hn : (i :: L.map (·.ix)).Nodup:=List.nodup_cons.2 ⟨hm,h1⟩
    have hs : (i :: L.map (·.ix)) ⊆ List.range ops.size:=by
      intro x hx
      rcases List.mem_cons.1 hx with rfl | hx
      · exact List.mem_range.2 hi
      · exact hsub hx
    have:=hn.length_le_of_subset hs
    simp [p.size] at this
    omega
theorem Chain.down {lst : Nat → Bool} : ∀ (B A : List PI),Chain P G X nt ops cl A B →
    (∀ q ∈ A ++ B,lst q.ix = true → ∀ o,ops[q.ix]? = some o → ∀ e ∈ binding o,lst e = true) →
    (∀ q ∈ A,lst q.ix = true → ∀ j,clB cl q.ix j = true → lst j = true) →
    ∀ q ∈ A ++ B,lst q.ix = true → ∀ j,clB cl q.ix j = true → lst j = true:=by
  intro B
  induction B with
  | nil => intro A _ _ hA q hq; exact hA q (by simpa using hq)
  | cons p B ih =>
    intro A hc hb hA q hq
    obtain ⟨hi,hc⟩:=hc
    refine ih (A ++ [p]) hc (by simpa using hb) (fun q' hq' hl j hj => ?_) q (by simpa using hq)
    rcases List.mem_append.1 hq' with h | h
    · exact hA q' h hl j hj
    · rw [List.mem_singleton] at h
      subst h
      obtain ⟨o,ho,_,hb1,hb2,_⟩:=hi.op
      obtain ⟨e,he,hh⟩:=hb2 j hj
      have hle:=hb q' (by simp) hl o ho e he
      rcases hh with rfl | hh
      · exact hle
      · obtain ⟨r,hr,re⟩:=hi.pre e (hb1 e he)
        subst re
        exact hA r hr hle j hh
theorem Plan.pair (p : Plan P G X nt ops L cl) {a b : PI} (ha : a ∈ L) (hb : b ∈ L) {d : Nat} (hd : b.co.d = some d) :
    (a.ix = b.ix → d ∉ a.co.tm) ∧ (a.ix ≠ b.ix → a.co.d ≠ some d ∧ (d ∉ a.co.tm ∨ clB cl a.ix b.ix = true ∨ clB cl b.ix a.ix = true)):=by
  have h:=p.pairs
  unfold pairsOk at h
  have h1:=List.all_eq_true.1 (List.all_eq_true.1 h a ha) b hb
  unfold pairOk at h1
  rw [hd] at h1
  simp only [cond_eq_ite,Nat.beq_eq] at h1
  have hany : ∀ (l : List Nat),l.any (Nat.beq d) = true ↔ d ∈ l:=by
    intro l
    rw [List.any_eq_true]
    constructor
    · rintro ⟨x,hx,e⟩; rw [Nat.beq_eq] at e; subst e; exact hx
    · intro hx; exact ⟨d,hx,by simp⟩
  refine ⟨fun e => ?_,fun e => ?_⟩
  · rw [if_pos e] at h1
    intro hm
    rw [(hany _).2 hm] at h1
    cases h1
  · rw [if_neg e] at h1
    simp only [Bool.and_eq_true,Bool.not_eq_true',Bool.or_eq_true] at h1
    obtain ⟨g1,g2⟩:=h1
    refine ⟨fun hh => ?_,?_⟩
    · rw [hh] at g1
      simp at g1
    · rcases g2 with (g2 | g2) | g2
      · refine .inl fun hm => ?_
        rw [(hany _).2 hm] at g2; cases g2
      · exact .inr (.inl g2)
      · exact .inr (.inr g2)
end
end Go.Ev
namespace Go.Ev
noncomputable section
def Mono (call : Call) : Prop:=∀ f args h r h',call f args h = some (r,h') → h.nb ≤ h'.nb
theorem stn_nb {h h' : H} {b o : Nat} {vs : List V} (e : h.stn b o vs = some h') : h'.nb = h.nb:=by
  unfold H.stn at e
  split at e
  · cases e
  · simp only [cond_eq_ite] at e
    split at e
    · split at e <;> · cases e; rfl
    · cases e
theorem append_nb {h h' : H} {x v : V} {s b n : Nat} {new : List V} (e : h.append x s b n new = some (v,h')) : h.nb ≤ h'.nb:=by
  unfold H.append at e
  simp only [cond_eq_ite] at e
  split at e
  · split at e
    · cases e; exact Nat.le_refl _
    · cases e; exact Nat.le_refl _
    · cases e; exact Nat.le_refl _
    · cases e
  · split at e
    · split at e
      · cases e; exact Nat.le_succ _
      · cases e
    · split at e
      · split at e
        · split at e
          · rename_i hs
            cases e
            rw [stn_nb hs]; exact Nat.le_refl _
          · cases e
        · split at e
          · split at e
            · cases e
            · split at e
              · cases e; exact Nat.le_succ _
              · split at e
                · cases e
                · split at e
                  · cases e
                  · cases e; exact Nat.le_succ _
          · cases e
      · cases e
    · split at e
      · cases e; exact Nat.le_succ _
      · cases e
    · cases e
theorem appT_nb {h h' : H} {x v : V} {s b n k : Nat} {new : List V} (e : h.appT x s b n k new = some (v,h')) : h.nb ≤ h'.nb:=by
  unfold H.appT at e
  simp only [H.appK,cond_eq_ite] at e
  (repeat' split at e) <;> first
    | (cases e; done)
    | (cases e; exact Nat.le_refl _)
theorem callPv_nb {call : Call} {f : Nat} {qs : List Nat} {vs : List V} {h h' : H} {v : V} (e : callPv call f qs vs h = some (v,h')) : h.nb ≤ h'.nb:=by
  unfold callPv at e
  simp only [cond_eq_ite] at e
  (repeat' split at e) <;> first
    | (cases e; done)
    | (cases e; exact Nat.le_refl _)
theorem callMv_nb {call : Call} {f b : Nat} {qs : List Nat} {vs : List V} {h h' : H} {v : V} (e : callMv call f qs b vs h = some (v,h')) : h.nb ≤ h'.nb:=by
  unfold callMv at e
  simp only [cond_eq_ite] at e
  (repeat' split at e) <;> first
    | (cases e; done)
    | (cases e; exact Nat.le_refl _)
theorem callTv_nb {call : Call} {k f : Nat} {vs : List V} {h h' : H} {v : V} (e : callTv call k f vs h = some (v,h')) : h.nb ≤ h'.nb:=by
  unfold callTv H.appK at e
  simp only [cond_eq_ite] at e
  (repeat' split at e) <;> first
    | (cases e; done)
    | (cases e; exact Nat.le_refl _)
theorem evE_nb {call : Call} (hm : Mono call) {c : EC} {env : Env} {h h' : H} {v : V} (e : evE call c env h = some (v,h')) : h.nb ≤ h'.nb:=by
  cases c <;> simp only [evE] at e
  case appT s b k x y =>
    unfold evAppT at e
    simp only [cond_eq_ite] at e
    (repeat' split at e) <;> first
      | (cases e; done)
      | exact appT_nb e
  case acc k s x =>
    unfold evAcc at e
    split at e
    · cases e; exact Nat.le_refl _
    · cases e
  case accB k s => cases e; exact Nat.le_refl _
  case bldF s n z ps =>
    unfold evBldF at e
    simp only [cond_eq_ite] at e
    (repeat' split at e) <;> first
      | (cases e; done)
      | (cases e; exact Nat.le_refl _)
  case callT k f xs =>
    unfold evCallT at e
    split at e
    · exact callTv_nb e
    · cases e
  case callP f qs xs =>
    unfold evCallP at e
    split at e
    · exact callPv_nb e
    · cases e
  case callvP x qs xs =>
    unfold evCallvP at e
    split at e
    · split at e
      · exact callPv_nb e
      · cases e
    · cases e
  case callM f qs xs =>
    unfold evCallM at e
    split at e
    · simp only [cond_eq_ite] at e
      split at e
      · exact callMv_nb e
      · cases e
    · cases e
  case boxF x =>
    unfold evBoxF at e
    simp only [cond_eq_ite] at e
    (repeat' split at e) <;> first
      | (cases e; done)
      | (cases e; exact Nat.le_refl _)
  case clr s z x =>
    unfold evClr at e
    simp only [cond_eq_ite] at e
    (repeat' split at e) <;> first
      | (cases e; done)
      | (cases e; exact Nat.le_refl _)
      | (rename_i hs; cases e; rw [stn_nb hs]; exact Nat.le_refl _)
  case st1 a x =>
    unfold evSt1 at e
    split at e
    · split at e
      · cases e
      · cases e
      · cases e
      · cases e
      · split at e
        · rename_i hs; cases e; rw [stn_nb hs]; exact Nat.le_refl _
        · cases e
      · cases e
    · cases e
  case stn n a x =>
    unfold evStn at e
    split at e
    · split at e
      · simp only [cond_eq_ite] at e
        split at e
        · split at e
          · rename_i hs; cases e; rw [stn_nb hs]; exact Nat.le_refl _
          · cases e
        · cases e
      · cases e
    · cases e
  case call f xs =>
    unfold evCall at e
    split at e
    · exact hm _ _ _ _ _ e
    · cases e
  case callv x xs =>
    unfold evCallv at e
    split at e
    · split at e
      · exact hm _ _ _ _ _ e
      · cases e
    · cases e
  case appS s b x y =>
    unfold evAppS at e
    split at e
    · split at e
      · split at e
        · exact append_nb e
        · cases e
      · cases e
    · cases e
  case appStr b x y =>
    unfold evAppStr at e
    split at e
    · split at e
      · exact append_nb e
      · cases e
    · cases e
  case appZ s b z x y =>
    unfold evAppZ at e
    split at e
    · split at e
      · simp only [cond_eq_ite] at e
        split at e
        · exact append_nb e
        · cases e
      · cases e
    · cases e
  case copyS s x y =>
    unfold evCopyS at e
    simp only [cond_eq_ite] at e
    (repeat' split at e) <;> first
      | (cases e; done)
      | (cases e; exact Nat.le_refl _)
      | (rename_i hs; cases e; rw [stn_nb hs]; exact Nat.le_refl _)
  case copyStr x y =>
    unfold evCopyStr at e
    simp only [cond_eq_ite] at e
    (repeat' split at e) <;> first
      | (cases e; done)
      | (cases e; exact Nat.le_refl _)
      | (rename_i hs; cases e; rw [stn_nb hs]; exact Nat.le_refl _)
  case mkMap => cases e; exact Nat.le_refl _
theorem evC_nb {call : Call} (hm : Mono call) {c : C} {env : Env} {h h' : H} {v : V} (e : evC call c env h = some (v,h')) : h.nb ≤ h'.nb:=by
  cases c <;> simp only [evC] at e
  · split at e
    · cases e; exact Nat.le_refl _
    · cases e
  · split at e
    · cases e; exact Nat.le_refl _
    · cases e
  · split at e
    · cases e; exact Nat.le_succ _
    · cases e
  · exact evE_nb hm e
def stp (call : Call) (p : PI) (env : Env) (h : H) (hs : List H) : Option (Env × H × List H × V):=
  match wantG env p.co.g with
  | none => none
  | some false => some (putE env p.co.d .u,h,(if effB p = true then h :: hs else hs),.u)
  | some true => match evC call p.co.op env h with
    | none => none
    | some r => match p.co.op with
      | .E _ => some (putE env p.co.d r.1,r.2,r.2 :: hs,r.1)
      | .L op => if recheck op env r.1 p.back (dropN hs p.skip) = true then some (putE env p.co.d r.1,r.2,hs,r.1) else none
      | _ => some (putE env p.co.d r.1,r.2,hs,r.1)
theorem evPlan_cons (call : Call) (p : PI) (B : List PI) (env : Env) (h : H) (hs : List H) :
    evPlan call (p :: B) env h hs = match stp call p env h hs with
      | none => none
      | some s => evPlan call B s.1 s.2.1 s.2.2.1:=by
  simp only [evPlan,stp]
  cases wantG env p.co.g with
  | none => rfl
  | some b =>
    cases b with
    | false =>
      cases e : p.co.op <;> simp [effB,isE,e]
    | true =>
      simp only
      cases evC call p.co.op env h with
      | none => rfl
      | some r =>
        simp only
        cases e : p.co.op <;> simp only [cond_eq_ite]
        split <;> rfl
theorem stp_nb {call : Call} (hm : Mono call) {p : PI} {env : Env} {h : H} {hs : List H} {s : Env × H × List H × V} (e : stp call p env h hs = some s) : h.nb ≤ s.2.1.nb:=by
  unfold stp at e
  split at e
  · cases e
  · cases e; exact Nat.le_refl _
  · split at e
    · cases e
    · rename_i r hr
      have:=evC_nb hm (h':=r.2) (v:=r.1) hr
      split at e
      · cases e; exact this
      · split at e
        · cases e; exact this
        · cases e
      · cases e; exact this
def pre (call : Call) : List PI → Env → H → List H → Option (Env × H × List H)
  | [],env,h,hs => some (env,h,hs)
  | p :: B,env,h,hs => match stp call p env h hs with
    | none => none
    | some s => pre call B s.1 s.2.1 s.2.2.1
theorem evPlan_append {call : Call} : ∀ (B1 C : List PI) (env : Env) (h : H) (hs : List H) (r : Env × H),evPlan call (B1 ++ C) env h hs = some r →
    ∃ s,pre call B1 env h hs = some s ∧ evPlan call C s.1 s.2.1 s.2.2 = some r:=by
  intro B1
  induction B1 with
  | nil => intro C env h hs r e; exact ⟨_,rfl,e⟩
  | cons p B1 ih =>
    intro C env h hs r e
    rw [List.cons_append,evPlan_cons] at e
    simp only [pre]
    split at e
    · cases e
    · exact ih _ _ _ _ _ e
theorem pre_nb {call : Call} (hm : Mono call) : ∀ (B : List PI) (env : Env) (h : H) (hs : List H) (s : Env × H × List H),pre call B env h hs = some s → h.nb ≤ s.2.1.nb:=by
  intro B
  induction B with
  | nil => intro env h hs s e; cases e; exact Nat.le_refl _
  | cons p B ih =>
    intro env h hs s e
    simp only [pre] at e
    split at e
    · cases e
    · rename_i s' hs'
      exact Nat.le_trans (stp_nb hm hs') (ih _ _ _ _ e)
def Laid (Φ : Phi) (W : World) (p : PI) (env : Env) (h : H) : Prop:=
  ∀ x q,p.co.op = .A x → wantG env p.co.g = some true → evA x env = some q → ∃ (wb : Nat) (cc : Array Value) (e : TypeId) (fz : Nat × Nat),Φ h.nb = some (wb,0,cc.size) ∧ W.heap[wb]? = some (.cells cc e fz) ∧ Φ.fz wb = none ∧
    ((fz.2 ≤ fz.1 ∨ cc.size ≤ fz.1) ∧ Φ.ro wb = false) ∧ q.1.length ≤ cc.size ∧ ∀ (j : Nat) (v : V),q.1[j]? = some v → one v = true ∧ ∃ y,cc[j]? = some y ∧ RV Φ v y
def Ex (call : Call) (lst : Nat → Bool) (Φ : Phi) (tm : Nat → Value) (W : World) : List PI → Env → H → List H → Prop
  | [],_,_,_ => True
  | p :: B,env,h,hs => ∃ s,stp call p env h hs = some s ∧ (lst p.ix = true → effB p = false ∧ (∀ d,p.co.d = some d → RV Φ s.2.2.2 (tm d)) ∧ Laid Φ W p env h) ∧
      Ex call lst Φ tm W B s.1 s.2.1 s.2.2.1
def makes (p : PI) (env : Env) : Bool:=isA p.co.op && (wantG env p.co.g == some true)
def exIds (call : Call) (lst : Nat → Bool) : List PI → Env → H → List H → List Nat
  | [],_,_,_ => []
  | p :: B,env,h,hs => match stp call p env h hs with
    | none => []
    | some s => (if lst p.ix = true ∧ makes p env = true then [h.nb] else []) ++ exIds call lst B s.1 s.2.1 s.2.2.1
theorem stp_makes {call : Call} {p : PI} {env : Env} {h : H} {hs : List H} {s : Env × H × List H × V} (e : stp call p env h hs = some s) (hp : makes p env = true) : s.2.1.nb = h.nb + 1:=by
  unfold makes at hp
  rw [Bool.and_eq_true] at hp
  obtain ⟨h1,h2⟩:=hp
  rw [beq_iff_eq] at h2
  unfold stp at e
  rw [h2] at e
  simp only at e
  cases ho : p.co.op <;> rw [ho] at h1 <;> simp only [isA,Bool.false_eq_true] at h1
  rename_i x
  rw [ho] at e
  simp only [evC] at e
  split at e
  · cases e
  · rename_i r hr
    split at hr
    · cases hr
      cases e
      rfl
    · cases hr
theorem exIds_ge {call : Call} (hm : Mono call) {lst : Nat → Bool} : ∀ (B : List PI) (env : Env) (h : H) (hs : List H) (b : Nat),b ∈ exIds call lst B env h hs → h.nb ≤ b:=by
  intro B
  induction B with
  | nil => intro env h hs b hb; cases hb
  | cons p B ih =>
    intro env h hs b hb
    simp only [exIds] at hb
    split at hb
    · cases hb
    · rename_i s hs'
      rcases List.mem_append.1 hb with hb | hb
      · split at hb
        · simp at hb; omega
        · cases hb
      · exact Nat.le_trans (stp_nb hm hs') (ih _ _ _ _ hb)
theorem exIds_append {call : Call} {lst : Nat → Bool} : ∀ (B1 C : List PI) (env : Env) (h : H) (hs : List H) (s : Env × H × List H),pre call B1 env h hs = some s →
    exIds call lst (B1 ++ C) env h hs = exIds call lst B1 env h hs ++ exIds call lst C s.1 s.2.1 s.2.2:=by
  intro B1
  induction B1 with
  | nil => intro C env h hs s e; cases e; rfl
  | cons p B1 ih =>
    intro C env h hs s e
    simp only [pre] at e
    simp only [List.cons_append,exIds]
    split at e
    · cases e
    · rw [ih _ _ _ _ _ e,List.append_assoc]
theorem exIds_lt {call : Call} (hm : Mono call) {lst : Nat → Bool} : ∀ (B : List PI) (env : Env) (h : H) (hs : List H) (s : Env × H × List H) (b : Nat),pre call B env h hs = some s → b ∈ exIds call lst B env h hs → b < s.2.1.nb:=by
  intro B
  induction B with
  | nil => intro env h hs s b _ hb; cases hb
  | cons p B ih =>
    intro env h hs s b e hb
    simp only [pre] at e
    simp only [exIds] at hb
    split at e
    · cases e
    · rename_i s' hs'
      rw [hs'] at hb
      simp only at hb
      rcases List.mem_append.1 hb with hb | hb
      · split at hb
        · rename_i hc
          simp at hb
          have h1:=stp_makes hs' hc.2
          have h2:=pre_nb hm _ _ _ _ _ e
          omega
        · cases hb
      · exact ih _ _ _ _ _ e hb
theorem exIds_congr {call : Call} {l1 l2 : Nat → Bool} : ∀ (B : List PI) (env : Env) (h : H) (hs : List H),(∀ p ∈ B,l1 p.ix = l2 p.ix) → exIds call l1 B env h hs = exIds call l2 B env h hs:=by
  intro B
  induction B with
  | nil => intro env h hs _; rfl
  | cons p B ih =>
    intro env h hs hl
    simp only [exIds]
    split
    · rfl
    · rw [ih _ _ _ (fun q hq => hl q (by simp [hq])),hl p (by simp)]
theorem Ex.append {call : Call} {lst : Nat → Bool} {Φ : Phi} {tm : Nat → Value} {W : World} : ∀ (B1 C : List PI) (env : Env) (h : H) (hs : List H) (s : Env × H × List H),pre call B1 env h hs = some s →
    (Ex call lst Φ tm W (B1 ++ C) env h hs ↔ Ex call lst Φ tm W B1 env h hs ∧ Ex call lst Φ tm W C s.1 s.2.1 s.2.2):=by
  intro B1
  induction B1 with
  | nil => intro C env h hs s e; cases e; simp [Ex]
  | cons p B1 ih =>
    intro C env h hs s e
    simp only [pre] at e
    simp only [List.cons_append,Ex]
    split at e
    · cases e
    · rename_i s' hs'
      have:=ih C _ _ _ s e
      constructor
      · rintro ⟨s1,h1,h2,h3⟩
        rw [hs'] at h1; cases h1
        obtain ⟨g1,g2⟩:=this.1 h3
        exact ⟨⟨s',hs',h2,g1⟩,g2⟩
      · rintro ⟨⟨s1,h1,h2,h3⟩,h4⟩
        rw [hs'] at h1; cases h1
        exact ⟨s',hs',h2,this.2 ⟨h3,h4⟩⟩
theorem Ex.mono {call : Call} (hm : Mono call) {l1 l2 : Nat → Bool} {Φ Ψ : Phi} {tm tn : Nat → Value} {W W' : World} (le : Φ.le Ψ) : ∀ (B : List PI) (env : Env) (h : H) (hs : List H),
    (∀ p ∈ B,l2 p.ix = l1 p.ix) → (∀ p ∈ B,l1 p.ix = true → ∀ d,p.co.d = some d → tn d = tm d) → (∀ b x o,h.nb ≤ b → Φ b = some x → W.heap[x.1]? = some o → W'.heap[x.1]? = some o ∧ (Φ.fz x.1 = none → Ψ.fz x.1 = none)) →
    Ex call l1 Φ tm W B env h hs → Ex call l2 Ψ tn W' B env h hs:=by
  intro B
  induction B with
  | nil => intro env h hs _ _ _ _; trivial
  | cons p B ih =>
    intro env h hs hl ht hW hE
    obtain ⟨s,h1,h2,h3⟩:=hE
    refine ⟨s,h1,fun hp => ?_,ih _ _ _ (fun q hq => hl q (by simp [hq])) (fun q hq => ht q (by simp [hq])) (fun b x o hb => hW b x o (Nat.le_trans (stp_nb hm h1) hb)) h3⟩
    rw [hl p (by simp)] at hp
    obtain ⟨g1,g2,g3⟩:=h2 hp
    refine ⟨g1,fun d hd => ?_,fun x q hx hw hq => ?_⟩
    · rw [ht p (by simp) hp d hd]
      exact RV.mono le _ _ (g2 d hd)
    · obtain ⟨wb,cc,e,fz,a1,a2,a6,a3,a4,a5⟩:=g3 x q hx hw hq
      obtain ⟨hW1,hW2⟩:=hW h.nb _ _ (Nat.le_refl _) a1 a2
      refine ⟨wb,cc,e,fz,le.sub _ _ a1,hW1,hW2 a6,⟨a3.1,by rw [le.ro]; exact a3.2⟩,a4,fun j v hv => ?_⟩
      obtain ⟨b1,y,b2,b3⟩:=a5 j v hv
      exact ⟨b1,y,b2,RV.mono le _ _ b3⟩
theorem pre_trace {call : Call} {lst : Nat → Bool} {Φ : Phi} {tm : Nat → Value} {W : World} : ∀ (B : List PI) (env : Env) (h : H) (hs : List H) (s : Env × H × List H),pre call B env h hs = some s → Ex call lst Φ tm W B env h hs →
    ∀ t v,s.1.get t = some v → (∃ q ∈ B,q.co.d = some t ∧ (lst q.ix = true → RV Φ v (tm t))) ∨ ((∀ q ∈ B,q.co.d ≠ some t) ∧ env.get t = some v):=by
  intro B
  induction B with
  | nil => intro env h hs s e _ t v hv; cases e; exact .inr ⟨fun q hq => (by cases hq),hv⟩
  | cons p B ih =>
    intro env h hs s e hE t v hv
    simp only [pre] at e
    obtain ⟨s1,h1,h2,h3⟩:=hE
    rw [h1] at e
    simp only at e
    rcases ih _ _ _ _ e h3 t v hv with ⟨q,hq,hd,hr⟩ | ⟨hn,hg⟩
    · exact .inl ⟨q,by simp [hq],hd,hr⟩
    · have hput : s1.1 = putE env p.co.d s1.2.2.2:=by
        unfold stp at h1
        split at h1
        · cases h1
        · cases h1; rfl
        · split at h1
          · cases h1
          · split at h1
            · cases h1; rfl
            · split at h1
              · cases h1; rfl
              · cases h1
            · cases h1; rfl
      rw [hput] at hg
      cases hd : p.co.d with
      | none =>
        rw [hd] at hg
        refine .inr ⟨fun q hq => ?_,hg⟩
        rcases List.mem_cons.1 hq with rfl | hq
        · rw [hd]; exact fun h => by cases h
        · exact hn q hq
      | some d =>
        rw [hd] at hg
        simp only [putE,T.get_set] at hg
        split at hg
        · rename_i e'
          subst e'
          cases hg
          exact .inl ⟨p,by simp,hd,fun hl => (h2 hl).2.1 _ hd⟩
        · rename_i e'
          refine .inr ⟨fun q hq => ?_,hg⟩
          rcases List.mem_cons.1 hq with rfl | hq
          · rw [hd]; exact fun h => by cases h; exact e' rfl
          · exact hn q hq
theorem stp_put {call : Call} {p : PI} {env : Env} {h : H} {hs : List H} {s : Env × H × List H × V} (h1 : stp call p env h hs = some s) : s.1 = putE env p.co.d s.2.2.2:=by
  unfold stp at h1
  split at h1
  · cases h1
  · cases h1; rfl
  · split at h1
    · cases h1
    · split at h1
      · cases h1; rfl
      · split at h1
        · cases h1; rfl
        · cases h1
      · cases h1; rfl
theorem pre_hs {call : Call} : ∀ (B : List PI) (env : Env) (h : H) (hs : List H) (s : Env × H × List H),pre call B env h hs = some s → ∃ news,s.2.2 = news ++ hs ∧ news.length = (effIx B).length:=by
  intro B
  induction B with
  | nil => intro env h hs s e; cases e; exact ⟨[],rfl,rfl⟩
  | cons p B ih =>
    intro env h hs s e
    simp only [pre] at e
    split at e
    · cases e
    rename_i s1 hs1
    obtain ⟨news,hn,hl⟩:=ih _ _ _ _ e
    have key : ∃ m,s1.2.2.1 = m ++ hs ∧ m.length = (if effB p = true then 1 else 0):=by
      unfold stp at hs1
      split at hs1
      · cases hs1
      · cases hs1
        by_cases he : effB p = true
        · exact ⟨[h],by simp [he],by simp [he]⟩
        · exact ⟨[],by simp [he],by simp [he]⟩
      · split at hs1
        · cases hs1
        · split at hs1
          · rename_i ho
            cases hs1
            refine ⟨[_],rfl,?_⟩
            simp [effB,isE,ho]
          · rename_i ho
            split at hs1
            · cases hs1
              refine ⟨[],rfl,?_⟩
              simp [effB,isE,ho]
            · cases hs1
          · rename_i h1 h2
            cases hs1
            refine ⟨[],rfl,?_⟩
            cases ho : p.co.op <;> simp [effB,isE,ho]
            exact (h1 _ ho).elim
    obtain ⟨m,hm,hml⟩:=key
    refine ⟨news ++ m,by rw [hn,hm,List.append_assoc],?_⟩
    have : (effIx (p :: B)).length = (if effB p = true then 1 else 0) + (effIx B).length:=by
      unfold effIx
      by_cases he : effB p = true <;> simp [he]; omega
    rw [this,List.length_append,hl,hml]
    omega
theorem pre_same {call : Call} : ∀ (B : List PI) (env : Env) (h : H) (hs : List H) (s : Env × H × List H),pre call B env h hs = some s → (∀ q ∈ B,effB q = false ∧ isA q.co.op = false) → s.2.1 = h:=by
  intro B
  induction B with
  | nil => intro env h hs s e _; cases e; rfl
  | cons p B ih =>
    intro env h hs s e hB
    simp only [pre] at e
    split at e
    · cases e
    rename_i s1 hs1
    rw [ih _ _ _ _ e (fun q hq => hB q (by simp [hq]))]
    obtain ⟨h1,h2⟩:=hB p (by simp)
    unfold stp at hs1
    split at hs1
    · cases hs1
    · cases hs1; rfl
    · split at hs1
      · cases hs1
      · rename_i r hr
        cases ho : p.co.op <;> rw [ho] at hr hs1 h2 <;> simp only [effB,ho,isE,isA,Bool.true_eq_false] at h1 h2 <;> simp only [evC] at hr
        · simp only at hs1
          split at hr
          · cases hr; cases hs1; rfl
          · cases hr
        · simp only at hs1
          split at hr
          · cases hr
            split at hs1
            · cases hs1; rfl
            · cases hs1
          · cases hr
end
end Go.Ev
namespace Go.Ev
def cut (n : Nat) (Φ : Phi) : Phi:=⟨fun b => if b < n then Φ b else none,Φ.ro,Φ.fz,Φ.tk⟩
theorem cut_le (n : Nat) (Φ : Phi) : (cut n Φ).le Φ:=by
  refine ⟨fun b x h => ?_,rfl,fun _ ds h => ⟨[],by rw [List.append_nil]; exact h⟩,fun _ e n v h => ⟨e,n,v,h,tkLe.refl _ _ _⟩⟩
  simp only [cut] at h
  split at h
  · exact h
  · cases h
theorem cut_lt {n : Nat} {Φ : Phi} {b : Nat} {x : Nat × Nat × Nat} (h : cut n Φ b = some x) : b < n ∧ Φ b = some x:=by
  simp only [cut] at h
  split at h
  · rename_i hb; exact ⟨hb,h⟩
  · cases h
theorem cut_of {n : Nat} {Φ : Phi} {b : Nat} {x : Nat × Nat × Nat} (hb : b < n) (h : Φ b = some x) : cut n Φ b = some x:=by simp [cut,hb,h]
theorem cut_mono {m n : Nat} (Φ : Phi) (h : m ≤ n) : (cut m Φ).le (cut n Φ):=by
  refine ⟨fun b x hb => ?_,rfl,fun _ ds h => ⟨[],by rw [List.append_nil]; exact h⟩,fun _ e n v h => ⟨e,n,v,h,tkLe.refl _ _ _⟩⟩
  obtain ⟨h1,h2⟩:=cut_lt hb
  exact cut_of (by omega) h2
mutual
theorem RV.restrict {φ Φ : Phi} (le : φ.le Φ) (hz : φ.fz = Φ.fz) (ht : φ.tk = Φ.tk) : ∀ (v : V) (y z : Value),RV φ v y → RV Φ v z → RV φ v z
  | .u,y,z,_,h => by simpa only [RV] using h
  | .z,y,z,_,h => by simp only [RV] at h
  | .b _,y,z,_,h => by simpa only [RV] using h
  | .i _ _,y,z,_,h => by simpa only [RV] using h
  | .s _,y,z,_,h => by simpa only [RV] using h
  | .pn,y,z,_,h => by simpa only [RV] using h
  | .p b o,y,z,g,h => by
    simp only [RV] at g h ⊢
    obtain ⟨x,hx,_⟩:=g
    obtain ⟨x',hx',e⟩:=h
    rw [le.sub _ _ hx] at hx'; cases hx'
    exact ⟨x,hx,e⟩
  | .sn,y,z,_,h => by simpa only [RV] using h
  | .sl b o l c sz ex,y,z,g,h => by
    simp only [RV] at g h ⊢
    obtain ⟨x,_,_,hx,_⟩:=g
    obtain ⟨x',o',c',hx',rest⟩:=h
    rw [le.sub _ _ hx] at hx'; cases hx'
    exact ⟨x,o',c',hx,rest⟩
  | .fn f x1 x2,y,z,g,h => by
    simp only [RV] at g h ⊢
    obtain ⟨A,B,_,hA,hB⟩:=g
    obtain ⟨A',B',e,hA',hB'⟩:=h
    exact ⟨A',B',e,RVs.restrict le hz ht _ _ _ hA hA',RVs.restrict le hz ht _ _ _ hB hB'⟩
  | .a cs,y,z,g,h => by
    simp only [RV] at g h ⊢
    obtain ⟨A,_,hA,_⟩:=g
    obtain ⟨A',e,hA',ho⟩:=h
    exact ⟨A',e,RVs.restrict le hz ht _ _ _ hA hA',ho⟩
  | .t vs,y,z,g,h => by
    simp only [RV] at g h ⊢
    obtain ⟨A,_,hA⟩:=g
    obtain ⟨A',e,hA'⟩:=h
    exact ⟨A',e,RVs.restrict le hz ht _ _ _ hA hA'⟩
  | .m,y,z,_,h => by simpa only [RV] using h
  | .c _,y,z,_,h => by simpa only [RV] using h
  | .fz m n sz cs,y,z,_,h => by
    have hm : ∀ x ds,Φ.fz x = some ds → ∃ more,φ.fz x = some (ds ++ more):=fun x ds e => ⟨[],by rw [hz,List.append_nil]; exact e⟩
    simp only [RV] at h ⊢
    obtain ⟨h0,h1,h2,p,c',h3,h4,h5,h6,h7,h8⟩:=h
    refine ⟨h0,h1,h2,p,c',h3,h4,h5,h6,?_,?_⟩
    · rcases h7 with h7 | ⟨x,o,ds,k1,k2,k3,k4⟩
      · exact .inl h7
      · exact .inr ⟨x,o,ds,k1,by rw [hz]; exact k2,k3,RVs.pure hm _ _ h0 k4⟩
    · cases m with
      | no => trivial
      | ex => exact h8
      | tk k e =>
        obtain ⟨e0,n0,v0,q1,q2⟩:=h8
        exact ⟨e0,n0,v0,by rw [ht]; exact q1,q2⟩
  | .pf cs,y,z,_,h => by
    have hm : ∀ x ds,Φ.fz x = some ds → ∃ more,φ.fz x = some (ds ++ more):=fun x ds e => ⟨[],by rw [hz,List.append_nil]; exact e⟩
    simp only [RV] at h ⊢
    obtain ⟨h0,x,o,ds,k1,k2,k3,k4⟩:=h
    exact ⟨h0,x,o,ds,k1,by rw [hz]; exact k2,k3,RVs.pure hm _ _ h0 k4⟩
theorem RVs.restrict {φ Φ : Phi} (le : φ.le Φ) (hz : φ.fz = Φ.fz) (ht : φ.tk = Φ.tk) : ∀ (vs : List V) (ys zs : List Value),RVs φ vs ys → RVs Φ vs zs → RVs φ vs zs
  | [],ys,zs,_,h => by simpa only [RVs] using h
  | v :: vs,ys,zs,g,h => by
    simp only [RVs] at g h ⊢
    obtain ⟨y,ys',_,h1,h2⟩:=g
    obtain ⟨z,zs',e,h3,h4⟩:=h
    exact ⟨z,zs',e,RV.restrict le hz ht _ _ _ h1 h3,RVs.restrict le hz ht _ _ _ h2 h4⟩
end
section
variable {P : Program} {G : GL} {X : Hint} {nt : Nat} {ops : Array Oper} {call : Call}
structure J (P : Program) (G : GL) (X : Hint) (nt : Nat) (ops : Array Oper) (call : Call) (L : List PI) (env' : Env) (h' : H) (φ0 : Phi) (W0 : World) (ds : List Deferred)
    (lst : Nat → Bool) (a : Act) (W : World) (A B : List PI) (env : Env) (h : H) (hs : List H) (Φ : Phi) : Prop where
  split : L = A ++ B
  plan : evPlan call B env h hs = some (env',h')
  rw_ : RW (cut h.nb Φ) h W
  rep : ∃ tms : Array Value,REnv nt (cut h.nb Φ) env tms
  ex : Ex call lst Φ (fun t => a.tmps.getD t undef) W B env h hs
  dom : ∀ b x,Φ b = some x → b < h.nb ∨ b ∈ exIds call lst B env h hs
  uni : ∀ b x,Φ b = some x → h.nb ≤ b → W0.heap.size ≤ x.1 ∧ x.1 < W.heap.size ∧ ∀ b' x',Φ b' = some x' → x'.1 = x.1 → b' = b
  tm : ∀ t v,(∀ p ∈ B,lst p.ix = true → p.co.d ≠ some t) → env.get t = some v → RV Φ v (a.tmps.getD t undef)
  size : a.tmps.size = nt
  df : a.defers = ds
  gok : GOK G (cut h.nb Φ)
  grow : Grow φ0 (cut h.nb Φ) W0
  ext : Ext φ0 W0 W
  allA : ∀ p ∈ A,lst p.ix = true
  down : ∀ q ∈ L,lst q.ix = true → ∀ o,ops[q.ix]? = some o → ∀ e ∈ binding o,lst e = true
  ahd : ∀ b x,Φ b = some x → h.nb ≤ b → Φ.fz x.1 = none
variable {L : List PI} {env' : Env} {h' : H} {φ0 : Phi} {W0 : World} {ds : List Deferred} {lst : Nat → Bool} {a : Act} {W : World} {cl : T Nat}
theorem AR_at {q : AR} {b : Nat} {φ Φ : Phi} (he : φ b = Φ b) {z : Value} (h : RV Φ (q.at b) z) : RV φ (q.at b) z:=by
  cases q <;> simp only [AR.at,RV] at h ⊢ <;> rw [he] <;> exact h
theorem J.absorb (_ : Mono call) (pl : Plan P G X nt ops L cl) {A B : List PI} {p : PI} {env : Env} {h : H} {hs : List H} {Φ : Phi} (j : J P G X nt ops call L env' h' φ0 W0 ds lst a W A (p :: B) env h hs Φ) (hp : lst p.ix = true) :
    ∃ env1 h1,pre call [p] env h hs = some (env1,h1,hs) ∧ J P G X nt ops call L env' h' φ0 W0 ds lst a W (A ++ [p]) B env1 h1 hs Φ:=by
  obtain ⟨s,hst,hE,hrest⟩:=j.ex
  obtain ⟨heff,hval,hlaid⟩:=hE hp
  have hpl : p ∈ L:=by rw [j.split]; simp
  obtain ⟨B1,B2,_,hitm⟩:=pl.chain.mem hpl
  obtain ⟨o,ho,hco,_⟩:=hitm.op
  obtain ⟨c1,c2,c3,c4⟩:=cCO_ok hco
  obtain ⟨tms,hrep⟩:=j.rep
  -- what is common to all ways
  have common : ∀ (h1 : H),s.2.1 = h1 → s.2.2.1 = hs → h.nb ≤ h1.nb → RW (cut h1.nb Φ) h1 W → (∃ tms : Array Value,REnv nt (cut h1.nb Φ) s.1 tms) →
      (∀ b,b ∈ (if lst p.ix = true ∧ makes p env = true then [h.nb] else []) → b < h1.nb) →
      ∃ env1 h1,pre call [p] env h hs = some (env1,h1,hs) ∧ J P G X nt ops call L env' h' φ0 W0 ds lst a W (A ++ [p]) B env1 h1 hs Φ:=by
    intro h1 e1 e2 hnb hrw hrep' hids
    have hplan:=j.plan
    rw [evPlan_cons,hst] at hplan
    simp only [e1,e2] at hplan
    rw [e1,e2] at hrest
    refine ⟨s.1,h1,by simp only [pre,hst,e1,e2],?_⟩
    refine ⟨by rw [j.split]; simp,hplan,hrw,hrep',hrest,fun b x hb => ?_,fun b x hb hnb' => j.uni b x hb (by omega),fun t v ht hv => ?_,j.size,j.df,j.gok.mono (cut_mono Φ hnb),?_,j.ext,fun q hq => ?_,j.down,fun b x hb hnb' => j.ahd b x hb (by omega)⟩
    · rcases j.dom b x hb with hlt | hin
      · exact .inl (by omega)
      · simp only [exIds,hst,e1,e2] at hin
        rcases List.mem_append.1 hin with hin | hin
        · exact .inl (hids b hin)
        · exact .inr hin
    · rw [stp_put hst] at hv
      cases hd : p.co.d with
      | none =>
        rw [hd] at hv
        refine j.tm t v (fun q hq hql => ?_) hv
        rcases List.mem_cons.1 hq with rfl | hq
        · rw [hd]; exact fun h => by cases h
        · exact ht q hq hql
      | some d =>
        rw [hd] at hv
        simp only [putE,T.get_set] at hv
        split at hv
        · rename_i e
          subst e
          cases hv
          exact hval _ hd
        · rename_i e
          refine j.tm t v (fun q hq hql => ?_) hv
          rcases List.mem_cons.1 hq with rfl | hq
          · rw [hd]; exact fun h => by cases h; exact e rfl
          · exact ht q hq hql
    · refine ⟨Phi.le_trans j.grow.le (cut_mono Φ hnb),fun b x hb hx => ?_,j.grow.own,j.grow.frz⟩
      obtain ⟨hb1,hb2⟩:=cut_lt hb
      by_cases hlt : b < h.nb
      · exact j.grow.new b x (cut_of hlt hb2) hx
      · have:=(j.uni b x hb2 (by omega)).1
        omega
    · rcases List.mem_append.1 hq with hq | hq
      · exact j.allA q hq
      · rw [List.mem_singleton] at hq; subst hq; exact hp
  have put_ok : ∀ (φ : Phi) (v : V) (z : Value),REnv nt φ env tms → RV φ v z → REnv nt φ (putE env p.co.d v) ((⟨tms,[]⟩ : Act).put p.co.d z).tmps:=by
    intro φ v z hr hz
    rw [c3]
    exact REnv.put (a:=⟨tms,[]⟩) hr c4 hz
  have hput:=stp_put hst
  unfold stp at hst
  split at hst
  · cases hst
  · rename_i hw
    rw [heff] at hst
    simp only [Bool.false_eq_true,if_false] at hst
    cases hst
    refine common h rfl rfl (Nat.le_refl _) j.rw_ ⟨_,put_ok _ .u undef hrep (by simp only [RV]; rfl)⟩ fun b hb => ?_
    have : makes p env = false:=by simp [makes,hw]
    simp [this] at hb
  · rename_i hw
    split at hst
    · cases hst
    rename_i r hr
    cases hop : p.co.op with
    | E x => simp [effB,isE,hop] at heff
    | P x =>
      rw [hop] at hst hr c1
      simp only [evC] at hr
      split at hr
      · rename_i v hv
        cases hr
        simp only at hst
        cases hst
        obtain ⟨z,_,hz⟩:=pure_ok (a:=⟨tms,[]⟩) hrep j.gok (cCX_P c1) hv W
        refine common h rfl rfl (Nat.le_refl _) j.rw_ ⟨_,put_ok _ v z hrep hz⟩ fun b hb => ?_
        have : makes p env = false:=by simp [makes,isA,hop]
        simp [this] at hb
      · cases hr
    | L x =>
      rw [hop] at hst hr c1
      simp only [evC] at hr
      split at hr
      · rename_i v hv
        cases hr
        simp only at hst
        split at hst
        · cases hst
          obtain ⟨z,_,hz⟩:=load_ok (a:=⟨tms,[]⟩) (Phi.le_refl _) rfl hrep j.gok j.rw_ (cCX_L c1) hv
          refine common h rfl rfl (Nat.le_refl _) j.rw_ ⟨_,put_ok _ v z hrep hz⟩ fun b hb => ?_
          have : makes p env = false:=by simp [makes,isA,hop]
          simp [this] at hb
        · cases hst
      · cases hr
    | A x =>
      have hmk : makes p env = true:=by simp [makes,isA,hop,hw]
      rw [hop] at hst hr c1
      simp only [evC] at hr
      split at hr
      · rename_i q hq
        cases hr
        simp only at hst
        cases hst
        obtain ⟨wb,cc,e,fz,a1,a2,a6,a3,a4,a5⟩:=hlaid x q hop hw hq
        have hcut : cut (h.nb + 1) Φ = (cut h.nb Φ).upd h.nb (wb,0,cc.size):=by
          refine Phi.eq (fun b => ?_) rfl rfl rfl
          by_cases hb : b = h.nb
          · subst hb
            rw [Phi.upd_same]
            exact cut_of (Nat.lt_succ_self _) a1
          · rw [Phi.upd_other _ _ hb]
            simp only [cut]
            by_cases hlt : b < h.nb
            · rw [if_pos (by omega),if_pos hlt]
            · rw [if_neg (by omega),if_neg hlt]
        have hnb1 : (h.alloc q.1).nb = h.nb + 1:=rfl
        have hle : (cut h.nb Φ).le ((cut h.nb Φ).upd h.nb (wb,0,cc.size)):=Phi.le_upd _ (j.rw_.none_nb (Nat.le_refl _))
        refine common (h.alloc q.1) rfl rfl (by rw [hnb1]; omega) ?_ ?_ fun b hb => ?_
        · rw [hnb1,hcut]
          refine j.rw_.add a2 a3.1 a3.2 a6 (fun b y hy => ?_) a4 fun jx v hv => ?_
          · obtain ⟨hb1,hb2⟩:=cut_lt hy
            intro heq
            have:=(j.uni h.nb _ a1 (Nat.le_refl _)).2.2 b y hb2 heq
            omega
          · obtain ⟨b1,y,b2,b3⟩:=a5 jx v hv
            refine ⟨b1,y,b2,?_⟩
            -- the cells are under the part of the map,too
            obtain ⟨z,W',cc',_,hmd,_⟩:=alloc_ok (a:=⟨tms,[]⟩) hrep j.gok (cCX_A c1) hq W
            obtain ⟨_,y',_,hy'⟩:=hmd.cells jx v hv
            rw [← hcut]
            exact RV.restrict (cut_le _ _) rfl rfl v _ _ (RV.mono (by rw [hcut]; exact hle) _ _ hy') b3
        · rw [hnb1,hcut]
          cases hd : p.co.d with
          | none => exact ⟨tms,by simpa only [putE] using hrep.mono hle⟩
          | some d =>
            have hv:=hval d hd
            refine ⟨_,by
              have:=put_ok _ (q.2.at h.nb) (a.tmps.getD d undef) (hrep.mono hle) (AR_at (by rw [Phi.upd_same,a1]) hv)
              rw [hd] at this
              exact this⟩
        · rw [if_pos ⟨hp,hmk⟩] at hb
          simp at hb
          rw [hnb1]; omega
      · cases hr
theorem J.absorbAll (hm : Mono call) (pl : Plan P G X nt ops L cl) : ∀ (B1 C A : List PI) (env : Env) (h : H) (hs : List H) (Φ : Phi),J P G X nt ops call L env' h' φ0 W0 ds lst a W A (B1 ++ C) env h hs Φ → (∀ p ∈ B1,lst p.ix = true) →
    ∃ env1 h1,pre call B1 env h hs = some (env1,h1,hs) ∧ J P G X nt ops call L env' h' φ0 W0 ds lst a W (A ++ B1) C env1 h1 hs Φ:=by
  intro B1
  induction B1 with
  | nil => intro C A env h hs Φ j _; exact ⟨env,h,rfl,by simpa using j⟩
  | cons p B1 ih =>
    intro C A env h hs Φ j hl
    obtain ⟨env1,h1,e1,j1⟩:=j.absorb hm pl (hl p (by simp))
    obtain ⟨env2,h2,e2,j2⟩:=ih C (A ++ [p]) env1 h1 hs Φ j1 (fun q hq => hl q (by simp [hq]))
    refine ⟨env2,h2,?_,by simpa using j2⟩
    simp only [pre] at e1 ⊢
    split at e1
    · cases e1
    · cases e1
      exact e2
theorem J.done {env : Env} {h : H} {hs : List H} {Φ : Phi} (j : J P G X nt ops call L env' h' φ0 W0 ds lst a W L [] env h hs Φ) : KPost nt φ0 W0 env' h' ds a W:=by
  have hp:=j.plan
  simp only [evPlan,Option.some.injEq,Prod.mk.injEq] at hp
  obtain ⟨rfl,rfl⟩:=hp
  refine ⟨cut h.nb Φ,j.df,⟨j.size,fun t v hv => ?_⟩,j.rw_,j.grow,j.ext⟩
  obtain ⟨tms,hrep⟩:=j.rep
  exact RV.restrict (cut_le _ _) rfl rfl v _ _ (hrep.get t v hv) (j.tm t v (fun p hp => by cases hp) hv)
end
end Go.Ev
namespace Go.Ev
section
variable {P : Program} {G : GL} {X : Hint} {nt : Nat} {ops : Array Oper} {call : Call}
variable {L : List PI} {env' : Env} {h' : H} {φ0 : Phi} {W0 : World} {ds : List Deferred} {lst lst' : Nat → Bool} {a : Act} {W : World} {cl : T Nat} {Q : Exit → Act → World → Prop}
theorem nodup_split {A B : List PI} {p : PI} (h : ((A ++ p :: B).map (·.ix)).Nodup) : (∀ q ∈ A,q.ix ≠ p.ix) ∧ (∀ q ∈ B,q.ix ≠ p.ix):=by
  rw [List.map_append,List.map_cons,List.nodup_append] at h
  obtain ⟨_,h2,h3⟩:=h
  rw [List.nodup_cons] at h2
  refine ⟨fun q hq e => ?_,fun q hq e => ?_⟩
  · exact h3 _ (List.mem_map_of_mem hq) p.ix (by simp) e
  · exact h2.1 (List.mem_map.2 ⟨q,hq,e⟩)
theorem recheck_ok {op : LC} {env : Env} {v : V} : ∀ (n : Nat) (hs : List H),recheck op env v n hs = true → ∀ k hk,k < n → hs[k]? = some hk → evL op env hk = some v:=by
  intro n
  induction n with
  | zero => intro hs _ k hk h; omega
  | succ n ih =>
    intro hs hr k hk h hget
    cases hs with
    | nil => simp at hget
    | cons x hs =>
      simp only [recheck] at hr
      split at hr
      · rename_i v' hv'
        rw [Bool.and_eq_true] at hr
        obtain ⟨h1,h2⟩:=hr
        cases k with
        | zero =>
          simp at hget
          subst hget
          rw [hv',V.eqv_eq _ _ h1]
        | succ k =>
          simp at hget
          exact ih hs h2 k hk (by omega) hget
      · cases hr
theorem effIx_append (A B : List PI) : effIx (A ++ B) = effIx A ++ effIx B:=by simp [effIx]
theorem allocSince_tail : ∀ (B A : List PI),(∀ q ∈ B,effB q = false) → allocSince (A ++ B) = false → (∀ q ∈ B,isA q.co.op = false):=by
  intro B
  induction B with
  | nil => intro A _ _ q hq; cases hq
  | cons p B ih =>
    intro A hB h q hq
    have h' : allocSince ((A ++ [p]) ++ B) = false:=by simpa using h
    have key : ∀ (B A : List PI),(∀ q ∈ B,effB q = false) → allocSince (A ++ B) = false → allocSince A = false:=by
      intro B
      induction B with
      | nil => intro A _ h; simpa using h
      | cons r B ihB =>
        intro A hB h
        have h1 : allocSince ((A ++ [r]) ++ B) = false:=by simpa using h
        have h2:=ihB (A ++ [r]) (fun q hq => hB q (by simp [hq])) h1
        rw [allocSince_snoc,hB r (by simp)] at h2
        simp only [cond_false,Bool.or_eq_false_iff] at h2
        exact h2.1
    rcases List.mem_cons.1 hq with rfl | hq
    · have h2:=key B (A ++ [q]) (fun r hr => hB r (by simp [hr])) h'
      rw [allocSince_snoc,hB q (by simp)] at h2
      simp only [cond_false,Bool.or_eq_false_iff] at h2
      exact h2.2
    · exact ih (A ++ [p]) (fun r hr => hB r (by simp [hr])) h' q hq
theorem J.operands (_ : Mono call) (pl : Plan P G X nt ops L cl) {A B1 B2 : List PI} {p : PI} {env : Env} {h : H} {hs : List H} {Φ : Phi} (j : J P G X nt ops call L env' h' φ0 W0 ds lst a W A (B1 ++ p :: B2) env h hs Φ) (hp : lst p.ix = false)
    (hpre : ∀ k,clB cl p.ix k = true → lst k = true) {s : Env × H × List H} (hs1 : pre call B1 env h hs = some s) :
    ∀ t ∈ p.co.tm,∀ v,s.1.get t = some v → RV Φ v (a.tmps.getD t undef):=by
  intro t ht v hv
  have hnd:=(pl.ixs).1
  rw [j.split] at hnd
  have hpL : p ∈ L:=by rw [j.split]; simp
  have hE1:=((Ex.append B1 (p :: B2) env h hs s hs1).1 j.ex).1
  have hdown : ∀ q ∈ L,lst q.ix = true → ∀ k,clB cl q.ix k = true → lst k = true:=fun q hq => Chain.down L [] pl.chain (by simpa using j.down) (fun q hq => by cases hq) q (by simpa using hq)
  -- whoever writes an operand stands ahead,or has not been done
  have writer : ∀ q ∈ L,q.co.d = some t → q.ix ≠ p.ix ∧ (lst q.ix = true → clB cl p.ix q.ix = true):=by
    intro q hq hd
    obtain ⟨g1,g2⟩:=pl.pair hpL hq hd
    have hne : p.ix ≠ q.ix:=fun e => g1 e ht
    refine ⟨fun e => hne e.symm,fun hl => ?_⟩
    rcases (g2 hne).2 with h' | h' | h'
    · exact (h' ht).elim
    · exact h'
    · have:=hdown q hq hl _ h'
      rw [hp] at this; cases this
  have inB1 : ∀ q,clB cl p.ix q = true → ∃ r ∈ A ++ B1,r.ix = q:=by
    intro q hq
    obtain ⟨C1,C2,hC,hitm⟩:=pl.chain.mem hpL
    obtain ⟨r,hr,e⟩:=hitm.pre q hq
    have hsame : C1 = A ++ B1:=by
      have h1 : (A ++ B1) ++ p :: B2 = C1 ++ p :: C2:=by rw [← hC,j.split]; simp
      have hn1:=(pl.ixs).1
      rw [hC] at hn1
      obtain ⟨n1,n2⟩:=nodup_split hn1
      have hn2 : (((A ++ B1) ++ p :: B2).map (·.ix)).Nodup:=by rw [h1]; exact hn1
      obtain ⟨m1,m2⟩:=nodup_split hn2
      -- two splits at one item
      have : ∀ (X Y X' Y' : List PI),X ++ p :: Y = X' ++ p :: Y' → (∀ q ∈ X,q.ix ≠ p.ix) → (∀ q ∈ X',q.ix ≠ p.ix) → X = X':=by
        intro X
        induction X with
        | nil =>
          intro Y X' Y' e _ h'
          cases X' with
          | nil => rfl
          | cons x X' =>
            simp at e
            exact (h' x (by simp) (by rw [← e.1])).elim
        | cons x X ih =>
          intro Y X' Y' e hx h'
          cases X' with
          | nil =>
            simp at e
            exact (hx x (by simp) (by rw [e.1])).elim
          | cons y X' =>
            simp at e
            rw [e.1,ih Y X' Y' e.2 (fun q hq => hx q (by simp [hq])) (fun q hq => h' q (by simp [hq]))]
      exact (this _ _ _ _ h1 m1 n1).symm
    rw [List.nil_append,hsame] at hr
    exact ⟨r,hr,e⟩
  rcases pre_trace B1 env h hs s hs1 hE1 t v hv with ⟨q,hq,hd,hr⟩ | ⟨hn,hg⟩
  · have hqL : q ∈ L:=by rw [j.split]; simp [hq]
    obtain ⟨g1,g2⟩:=pl.pair hpL hqL hd
    have hne : p.ix ≠ q.ix:=fun e => g1 e ht
    rcases (g2 hne).2 with h1 | h1 | h1
    · exact (h1 ht).elim
    · exact hr (hpre _ h1)
    · -- q stands ahead of p: p is none of what q waits for
      obtain ⟨C1,C2,hC,hitm⟩:=pl.chain.mem hqL
      obtain ⟨r,hr',e⟩:=hitm.pre p.ix h1
      exfalso
      -- r = p stands ahead of q in the plan,and behind it
      obtain ⟨D1,D2,hD⟩:=List.append_of_mem hq
      have hL : L = (A ++ D1) ++ q :: (D2 ++ p :: B2):=by rw [j.split,hD]; simp
      have hn1:=(pl.ixs).1
      rw [hC] at hn1
      obtain ⟨n1,n2⟩:=nodup_split hn1
      rw [List.nil_append] at hr'
      have hpC2 : p ∈ C2:=by
        have hn2:=(pl.ixs).1
        rw [hL] at hn2
        obtain ⟨m1,m2⟩:=nodup_split hn2
        have hpC : p ∈ C1 ++ q :: C2:=by rw [← hC]; exact hpL
        rcases List.mem_append.1 hpC with hp1 | hp1
        · -- then p would stand twice
          exfalso
          have hlen : ∀ (X Y X' Y' : List PI),X ++ q :: Y = X' ++ q :: Y' → (∀ r ∈ X,r.ix ≠ q.ix) → (∀ r ∈ X',r.ix ≠ q.ix) → X = X' ∧ Y = Y':=by
            intro X
            induction X with
            | nil =>
              intro Y X' Y' e _ h'
              cases X' with
              | nil => simp at e; exact ⟨rfl,e⟩
              | cons x X' => simp at e; exact (h' x (by simp) (by rw [← e.1])).elim
            | cons x X ih =>
              intro Y X' Y' e hx h'
              cases X' with
              | nil => simp at e; exact (hx x (by simp) (by rw [e.1])).elim
              | cons y X' =>
                simp at e
                obtain ⟨i1,i2⟩:=ih Y X' Y' e.2 (fun r hr => hx r (by simp [hr])) (fun r hr => h' r (by simp [hr]))
                exact ⟨by rw [e.1,i1],i2⟩
          obtain ⟨i1,i2⟩:=hlen _ _ _ _ (hC.symm.trans hL) n1 m1
          have hn3:=(pl.ixs).1
          rw [hC,List.map_append,List.map_cons,List.nodup_append] at hn3
          have hpin : p ∈ C2:=by rw [i2]; simp
          exact hn3.2.2 _ (List.mem_map_of_mem hp1) _ (List.mem_cons_of_mem _ (List.mem_map_of_mem hpin)) rfl
        · rcases List.mem_cons.1 hp1 with e' | hp1
          · exact (hne (by rw [e'])).elim
          · exact hp1
      have hn3:=(pl.ixs).1
      rw [hC,List.map_append,List.map_cons,List.nodup_append] at hn3
      exact hn3.2.2 _ (List.mem_map_of_mem hr') _ (List.mem_cons_of_mem _ (List.mem_map_of_mem hpC2)) e
  · refine j.tm t v (fun q hq hl hd => ?_) hg
    have hqL : q ∈ L:=by rw [j.split]; simp [hq]
    obtain ⟨hne,hw⟩:=writer q hqL hd
    rcases List.mem_append.1 hq with hq1 | hq1
    · exact hn q hq1 hd
    · rcases List.mem_cons.1 hq1 with e | hq2
      · exact hne (by rw [e])
      · obtain ⟨r,hr,e⟩:=inB1 q.ix (hw hl)
        have hn3:=(pl.ixs).1
        rw [j.split,← List.append_assoc,List.map_append,List.map_cons,List.nodup_append] at hn3
        exact hn3.2.2 _ (List.mem_map_of_mem hr) _ (List.mem_cons_of_mem _ (List.mem_map_of_mem hq2)) e
theorem own_env {Φ : Phi} {p : PI} {env : Env} (hsize : a.tmps.size = nt) (h : ∀ t ∈ p.co.tm,∀ v,env.get t = some v → RV Φ v (a.tmps.getD t undef)) :
    REnv nt Φ (env.filt fun t => p.co.tm.contains t) a.tmps ∧ Agree p.co.tm (env.filt fun t => p.co.tm.contains t) env:=by
  refine ⟨⟨hsize,fun t v hv => ?_⟩,fun t ht => ?_⟩
  · rw [T.get_filt] at hv
    split at hv
    · rename_i hc
      exact h t (by simpa using hc) v hv
    · cases hv
  · rw [T.get_filt,if_pos (by simpa using ht)]
theorem own_guard {p : PI} {e1 e2 : Env} (h : Agree p.co.tm e1 e2) : wantG e1 p.co.g = wantG e2 p.co.g:=
  wantG_congr fun x hx => h x.1 (by simp [CO.tm,hx])
theorem own_op {p : PI} {e1 e2 : Env} (h : Agree p.co.tm e1 e2) : Agree p.co.op.tm e1 e2:=fun t ht => h t (by simp [CO.tm,ht])
end
end Go.Ev
namespace Go.Ev
section
variable {P : Program} {G : GL} {X : Hint} {nt : Nat} {ops : Array Oper} {call : Call}
variable {L : List PI} {env' : Env} {h' : H} {φ0 : Phi} {W0 : World} {ds : List Deferred} {lst lst' : Nat → Bool} {a : Act} {W : World} {cl : T Nat} {Q : Exit → Act → World → Prop} {K : Act → World → Prop}
theorem put_get (a : Act) (d : Option Nat) (z : Value) (t : Nat) (h : d ≠ some t) : (a.put d z).tmps.getD t undef = a.tmps.getD t undef:=by
  cases d with
  | none => rfl
  | some d =>
    have : d ≠ t:=fun e => h (by rw [e])
    simp [Act.put,this]
theorem put_same {a : Act} {nt d : Nat} (hs : a.tmps.size = nt) (hd : dstOk nt (some d) = true) (z : Value) : (a.put (some d) z).tmps.getD d undef = z:=by
  simp only [dstOk,Nat.ble_eq] at hd
  have : d < a.tmps.size:=by omega
  simp [Act.put,this]
theorem put_size (a : Act) (d : Option Nat) (z : Value) : (a.put d z).tmps.size = a.tmps.size:=by cases d <;> simp [Act.put]
theorem J.listed (hm : Mono call) (pl : Plan P G X nt ops L cl) {A B1 B2 : List PI} {p : PI} {env : Env} {h : H} {hs : List H} {Φ Φ' : Phi} {W' : World} {z : Value} {o : Oper}
    (j : J P G X nt ops call L env' h' φ0 W0 ds lst a W A (B1 ++ p :: B2) env h hs Φ) (hp : lst p.ix = false) (heff : effB p = false) (ho : ops[p.ix]? = some o) (hco : cCO P G X nt ops o = some p.co)
    (hbind : ∀ e ∈ binding o,lst e = true) (hl1 : lst' p.ix = true) (hl2 : ∀ i,i ≠ p.ix → lst' i = lst i)
    {s : Env × H × List H} (hs1 : pre call B1 env h hs = some s) {s2 : Env × H × List H × V} (hs2 : stp call p s.1 s.2.1 s.2.2 = some s2)
    (hle : Φ.le Φ') (hcut : cut h.nb Φ' = cut h.nb Φ) (hfe : Φ'.fz = Φ.fz) (hold : ∀ i,i < W.heap.size → W'.heap[i]? = W.heap[i]?) (hext : Ext (cut h.nb Φ) W W')
    (hval : RV Φ' s2.2.2.2 z) (hlaid : Laid Φ' W' p s.1 s.2.1)
    (hdom : ∀ b x,Φ' b = some x → Φ b = some x ∨ (b = s.2.1.nb ∧ makes p s.1 = true))
    (hnf : ∀ b x,Φ' b = some x → Φ b = some x ∨ x.1 = W.heap.size)
    (huni : ∀ b x,Φ' b = some x → h.nb ≤ b → W0.heap.size ≤ x.1 ∧ x.1 < W'.heap.size ∧ ∀ b' x',Φ' b' = some x' → x'.1 = x.1 → b' = b) :
    J P G X nt ops call L env' h' φ0 W0 ds lst' (a.put o.dst z) W' A (B1 ++ p :: B2) env h hs Φ':=by
  obtain ⟨c1,c2,c3,c4⟩:=cCO_ok hco
  have hnd:=(pl.ixs).1
  have hndB : ((B1 ++ p :: B2).map (·.ix)).Nodup:=by
    rw [j.split,List.map_append] at hnd
    exact (List.nodup_append.1 hnd).2.1
  obtain ⟨n1,n2⟩:=nodup_split hndB
  have hpL : p ∈ L:=by rw [j.split]; simp
  have hBL : ∀ q ∈ B1 ++ p :: B2,q ∈ L:=fun q hq => by rw [j.split]; exact List.mem_append_right _ hq
  have hlB1 : ∀ q ∈ B1,lst' q.ix = lst q.ix:=fun q hq => hl2 _ (n1 q hq)
  have hlB2 : ∀ q ∈ B2,lst' q.ix = lst q.ix:=fun q hq => hl2 _ (n2 q hq)
  -- who else writes p's slot? nobody
  have htm : ∀ q ∈ B1 ++ p :: B2,q.ix ≠ p.ix → ∀ d,q.co.d = some d → (a.put o.dst z).tmps.getD d undef = a.tmps.getD d undef:=by
    intro q hq hne d hd
    refine put_get a o.dst z d fun e => ?_
    rw [← c3] at e
    exact ((pl.pair (hBL q hq) hpL e).2 hne).1 hd
  obtain ⟨hE1,hE2⟩:=(Ex.append B1 (p :: B2) env h hs s hs1).1 j.ex
  obtain ⟨s2',hs2',_,hE3⟩:=hE2
  rw [hs2] at hs2'; cases hs2'
  have hWh : ∀ b x o,h.nb ≤ b → Φ b = some x → W.heap[x.1]? = some o → W'.heap[x.1]? = some o ∧ (Φ.fz x.1 = none → Φ'.fz x.1 = none):=by
    intro b x o hb hx hh
    exact ⟨by rw [hold x.1 (j.uni b x hx hb).2.1]; exact hh,fun e => by rw [hfe]; exact e⟩
  have hnb1:=pre_nb hm _ _ _ _ _ hs1
  have hex : Ex call lst' Φ' (fun t => (a.put o.dst z).tmps.getD t undef) W' (B1 ++ p :: B2) env h hs:=by
    refine (Ex.append B1 (p :: B2) env h hs s hs1).2 ⟨Ex.mono hm hle B1 env h hs hlB1 (fun q hq _ d hd => htm q (by simp [hq]) (n1 q hq) d hd) hWh hE1,s2,hs2,fun _ => ⟨heff,fun d hd => ?_,hlaid⟩,?_⟩
    · rw [c3] at hd
      rw [hd] at c4 ⊢
      show RV Φ' _ ((a.put (some d) z).tmps.getD d undef)
      rw [put_same j.size c4]
      exact hval
    · exact Ex.mono hm hle B2 _ _ _ hlB2 (fun q hq _ d hd => htm q (by simp [hq]) (n2 q hq) d hd) (fun b x o hb => hWh b x o (by have:=stp_nb hm hs2; omega)) hE3
  refine ⟨j.split,j.plan,by rw [hcut]; exact j.rw_.push hold hext.size,by rw [hcut]; exact j.rep,hex,fun b x hb => ?_,huni,fun t v ht hv => ?_,by rw [put_size]; exact j.size,by rw [act_put_defers]; exact j.df,by rw [hcut]; exact j.gok,by rw [hcut]; exact j.grow,?_,fun q hq => ?_,fun q hq hql oq hoq e he => ?_,fun b x hb hnb => ?_⟩
  · rw [exIds_append B1 (p :: B2) env h hs s hs1]
    simp only [exIds,hs2]
    rcases hdom b x hb with hΦ | ⟨rfl,hmk⟩
    · rcases j.dom b x hΦ with hlt | hin
      · exact .inl hlt
      · right
        rw [exIds_append B1 (p :: B2) env h hs s hs1] at hin
        simp only [exIds,hs2,hp,Bool.false_eq_true,false_and,if_false,List.nil_append] at hin
        rw [exIds_congr B1 env h hs hlB1,exIds_congr B2 _ _ _ hlB2]
        rcases List.mem_append.1 hin with hin | hin
        · exact List.mem_append_left _ hin
        · exact List.mem_append_right _ (List.mem_append_right _ hin)
    · right
      rw [if_pos ⟨hl1,hmk⟩]
      exact List.mem_append_right _ (by simp)
  · have hpd : o.dst ≠ some t:=fun e => ht p (by simp) hl1 (by rw [c3]; exact e)
    rw [put_get a o.dst z t hpd]
    refine RV.mono hle _ _ (j.tm t v (fun q hq hql hd => ?_) hv)
    by_cases hqp : q.ix = p.ix
    · rw [hqp,hp] at hql; cases hql
    · exact ht q hq (by rw [hl2 _ hqp]; exact hql) hd
  · exact j.ext.trans hext j.grow
  · have : q.ix ≠ p.ix:=fun e => by
      have:=j.allA q hq
      rw [e,hp] at this; cases this
    rw [hl2 _ this]; exact j.allA q hq
  · by_cases hqp : q.ix = p.ix
    · rw [hqp,ho] at hoq; cases hoq
      have:=hbind e he
      by_cases hep : e = p.ix
      · rw [hep]; exact hl1
      · rw [hl2 _ hep]; exact this
    · rw [hl2 _ hqp] at hql
      have:=j.down q hq hql oq hoq e he
      by_cases hep : e = p.ix
      · rw [hep]; exact hl1
      · rw [hl2 _ hep]; exact this
  · rw [hfe]
    cases ee : Φ.fz x.1 with
    | none => rfl
    | some ds =>
      exfalso
      rcases hnf b x hb with h1 | h1
      · rw [j.ahd b x h1 hnb] at ee; cases ee
      · rw [h1] at ee
        have:=j.rw_.rest.lt (φ:=cut h.nb Φ) ee
        omega
theorem wpOp_at {i : Nat} {o : Oper} (ho : ops[i]? = some o) {b : Bool} (hw : Region.wanted o (yielded ops a.tmps) = b) (h1 : b = true → o.wp P a W K Q) (h2 : b = false → K (a.put o.dst undef) W) : wpOp P ops Q i K a W:=by
  unfold wpOp
  rw [ho]
  simp only
  rw [hw]
  cases b
  · simp only [Bool.false_eq_true,if_false]; exact h2 rfl
  · simp only [if_true]; exact .inl (h1 rfl)
theorem J.stable (hm : Mono call) (pl : Plan P G X nt ops L cl) {A B1 B2 : List PI} {p : PI} {env : Env} {h : H} {hs hs0 : List H} {Φ : Phi}
    (j : J P G X nt ops call L env' h' φ0 W0 ds lst a W A (B1 ++ p :: B2) env h hs Φ) (hhd : hs = h :: hs0) (hp : lst p.ix = false) (heff : effB p = false)
    (hbind : ∀ o,ops[p.ix]? = some o → ∀ e ∈ binding o,lst e = true) (hl1 : lst' p.ix = true) (hl2 : ∀ i,i ≠ p.ix → lst' i = lst i)
    (hK : ∀ a' W' Φ',J P G X nt ops call L env' h' φ0 W0 ds lst' a' W' A (B1 ++ p :: B2) env h hs Φ' → K a' W') : wpOp P ops Q p.ix K a W:=by
  have hpL : p ∈ L:=by rw [j.split]; simp
  -- what is known of the item,with what stands ahead of it
  have hitm : Itm P G X nt ops cl (A ++ B1) p:=by
    have:=pl.chain
    rw [j.split,← List.append_assoc] at this
    have:=(Chain.append (A ++ B1) [] (p :: B2) this).2
    rw [List.nil_append] at this
    exact this.1
  obtain ⟨o,ho,hco,hb1,hb2,hgd⟩:=hitm.op
  obtain ⟨c1,c2,c3,c4⟩:=cCO_ok hco
  have hbo:=hbind o ho
  have hdown : ∀ q ∈ L,lst q.ix = true → ∀ k,clB cl q.ix k = true → lst k = true:=fun q hq => Chain.down L [] pl.chain (by simpa using j.down) (fun q hq => by cases hq) q (by simpa using hq)
  have hpre : ∀ k,clB cl p.ix k = true → lst k = true:=by
    intro k hk
    obtain ⟨e,he,hh⟩:=hb2 k hk
    rcases hh with rfl | hh
    · exact hbo _ he
    · obtain ⟨r,hr,re⟩:=hitm.pre e (hb1 e he)
      have hrL : r ∈ L:=by
        rw [j.split]
        rcases List.mem_append.1 hr with h1 | h1 <;> simp [h1]
      exact hdown r hrL (by rw [re]; exact hbo e he) k (by rw [re]; exact hh)
  obtain ⟨s,hs1,hplan⟩:=evPlan_append B1 (p :: B2) env h hs _ j.plan
  have hopr:=j.operands hm pl hp hpre hs1
  obtain ⟨hren,hag⟩:=own_env (p:=p) (env:=s.1) j.size hopr
  obtain ⟨hE1,hE2⟩:=(Ex.append B1 (p :: B2) env h hs s hs1).1 j.ex
  obtain ⟨s2,hs2,_,hE3⟩:=hE2
  have hnb1:=pre_nb hm _ _ _ _ _ hs1
  have hgok : GOK G Φ:=j.gok.mono (cut_le _ _)
  have hwn : ∀ b,wantG s.1 p.co.g = some b → Region.wanted o (yielded ops a.tmps) = b:=fun b hb =>
    wanted_ok (φ:=Φ) (env:=s.1.filt fun t => p.co.tm.contains t) (fun t v hv _ => hren.get t v hv) c2 (by rw [own_guard hag]; exact hb)
  have noLaid : (∀ x,p.co.op ≠ .A x) → Laid Φ W p s.1 s.2.1:=fun hx x q e => (hx x e).elim
  have hs2':=hs2
  unfold stp at hs2
  split at hs2
  · cases hs2
  · rename_i hw
    refine wpOp_at ho (hwn false hw) (fun h => by cases h) fun _ => hK _ W Φ ?_
    cases hs2
    refine j.listed hm pl hp heff ho hco hbo hl1 hl2 hs1 hs2' (Phi.le_refl _) rfl rfl (fun _ _ => rfl) (Ext.refl _ _) (by simp only [RV]; rfl) ?_ (fun b x hb => .inl hb) (fun b x hb => .inl hb) j.uni
    intro x q _ hw'
    rw [hw] at hw'; cases hw'
  · rename_i hw
    split at hs2
    · cases hs2
    rename_i r hr
    refine wpOp_at ho (hwn true hw) (fun _ => ?_) (fun h => by cases h)
    cases hop : p.co.op with
    | E x => simp [effB,isE,hop] at heff
    | P x =>
      have ha2 : Agree x.tm (s.1.filt fun t => p.co.tm.contains t) s.1:=by
        have:=own_op hag
        rw [hop] at this
        exact this
      rw [hop] at hs2 hr c1
      simp only [evC] at hr
      split at hr
      · rename_i v hv
        cases hr
        cases hs2
        rw [← evP_congr ha2] at hv
        obtain ⟨z,hz,hrz⟩:=pure_ok hren hgok (cCX_P c1) hv W
        exact upon_value hz (hK _ W Φ (j.listed hm pl hp heff ho hco hbo hl1 hl2 hs1 hs2' (Phi.le_refl _) rfl rfl (fun _ _ => rfl) (Ext.refl _ _) hrz (noLaid (by rw [hop]; intro x h; cases h)) (fun b x hb => .inl hb) (fun b x hb => .inl hb) j.uni))
      · cases hr
    | L x =>
      have ha2 : Agree x.tm (s.1.filt fun t => p.co.tm.contains t) s.1:=by
        have:=own_op hag
        rw [hop] at this
        exact this
      rw [hop] at hs2 hr c1
      simp only [evC] at hr
      split at hr
      · rename_i v hv
        cases hr
        simp only at hs2
        split at hs2
        · rename_i hrc
          cases hs2
          -- the load answers the same in the heap as it stands
          have hload : evL x s.1 h = some v:=by
            obtain ⟨hsk,hbk⟩:=hitm.back (by rw [hop]; rfl)
            obtain ⟨news,hn1,hn2⟩:=pre_hs B1 env h hs s hs1
            have hget : s.2.2[(effIx B1).length]? = some h:=by
              rw [hn1,hhd,← hn2,List.getElem?_append_right (Nat.le_refl _)]
              simp
            have hB1e : ((effIx B1).filter fun e => clB cl p.ix e) = []:=by
              rw [List.filter_eq_nil_iff]
              intro e he hcl
              obtain ⟨q,hq,rfl⟩:=List.mem_map.1 he
              rw [List.mem_filter] at hq
              obtain ⟨hqB,hqe⟩:=hq
              have hql:=hpre _ hcl
              -- a listed item of B acts not
              obtain ⟨D1,D2,hD⟩:=List.append_of_mem hqB
              have hE1':=hE1
              rw [hD] at hE1'
              have : ∀ (X : List PI) (Y : List PI) (e0 : Env) (h0 : H) (hs0 : List H),Ex call lst Φ (fun t => a.tmps.getD t undef) W (X ++ q :: Y) e0 h0 hs0 → effB q = false:=by
                intro X
                induction X with
                | nil =>
                  intro Y e0 h0 hs0 hh
                  obtain ⟨_,_,hh,_⟩:=hh
                  exact (hh hql).1
                | cons x X ih =>
                  intro Y e0 h0 hs0 hh
                  obtain ⟨_,_,_,hh⟩:=hh
                  exact ih Y _ _ _ hh
              rw [this D1 D2 env h hs hE1'] at hqe
              cases hqe
            have hlo : ((effIx (A ++ B1)).filter fun e => clB cl p.ix e).length ≤ (effIx A).length:=by
              rw [effIx_append,List.filter_append,hB1e,List.append_nil]
              exact List.length_filter_le _ _
            have hlen : (effIx (A ++ B1)).length = (effIx A).length + (effIx B1).length:=by rw [effIx_append,List.length_append]
            by_cases hcase : p.skip ≤ (effIx B1).length
            · refine recheck_ok p.back (dropN s.2.2 p.skip) hrc ((effIx B1).length - p.skip) h (by omega) ?_
              rw [dropN_eq,List.getElem?_drop,show p.skip + ((effIx B1).length - p.skip) = (effIx B1).length by omega]
              exact hget
            · have hsk1 : p.skip ≤ 1:=by rw [hsk]; split <;> omega
              have h0 : (effIx B1).length = 0:=by omega
              have hsince : allocSince (A ++ B1) = false:=by
                cases hal : allocSince (A ++ B1) with
                | false => rfl
                | true => rw [hal] at hsk; simp at hsk; omega
              have hne : ∀ q ∈ B1,effB q = false:=by
                intro q hq
                cases he : effB q with
                | false => rfl
                | true =>
                  have : q.ix ∈ effIx B1:=List.mem_map.2 ⟨q,List.mem_filter.2 ⟨hq,he⟩,rfl⟩
                  rw [List.eq_nil_of_length_eq_zero h0] at this
                  cases this
              have hsame:=pre_same B1 env h hs s hs1 fun q hq => ⟨hne q hq,allocSince_tail B1 A hne hsince q hq⟩
              rw [← hsame]; exact hv
          rw [← evL_congr ha2] at hload
          obtain ⟨z,hz,hrz⟩:=load_ok (cut_le _ _) rfl hren hgok j.rw_ (cCX_L c1) hload
          exact upon_value hz (hK _ W Φ (j.listed hm pl hp heff ho hco hbo hl1 hl2 hs1 hs2' (Phi.le_refl _) rfl rfl (fun _ _ => rfl) (Ext.refl _ _) hrz (noLaid (by rw [hop]; intro x h; cases h)) (fun b x hb => .inl hb) (fun b x hb => .inl hb) j.uni))
        · cases hs2
      · cases hr
    | A x =>
      have ha2 : Agree x.tm (s.1.filt fun t => p.co.tm.contains t) s.1:=by
        have:=own_op hag
        rw [hop] at this
        exact this
      have hmk : makes p s.1 = true:=by simp [makes,isA,hop,hw]
      rw [hop] at hs2 hr c1
      simp only [evC] at hr
      split at hr
      · rename_i q hq
        cases hr
        cases hs2
        have hq':=hq
        rw [← evA_congr ha2] at hq'
        obtain ⟨z,W',cc,hz,hmd,hat⟩:=alloc_ok hren hgok (cCX_A c1) hq' W
        obtain ⟨e,fz,hwat,hfz⟩:=hmd.at_
        have hroN : Φ.ro W.heap.size = false:=j.rw_.soft_new (φ:=cut h.nb Φ) (Nat.le_refl _)
        -- the name is new
        have hnew : Φ s.2.1.nb = none:=by
          cases hx : Φ s.2.1.nb with
          | none => rfl
          | some y =>
            exfalso
            rcases j.dom _ y hx with hlt | hin
            · omega
            · rw [exIds_append B1 (p :: B2) env h hs s hs1] at hin
              simp only [exIds,hs2',hp,Bool.false_eq_true,false_and,if_false,List.nil_append] at hin
              rcases List.mem_append.1 hin with hin | hin
              · have:=exIds_lt hm B1 env h hs s _ hs1 hin
                omega
              · have:=exIds_ge hm B2 _ _ _ _ hin
                have h2:=stp_makes hs2' hmk
                simp only at this h2
                omega
        have hle : Φ.le (Φ.upd s.2.1.nb (W.heap.size,0,cc.size)):=Phi.le_upd _ hnew
        have himg : ∀ b x,Φ b = some x → x.1 < W.heap.size:=by
          intro b x hb
          by_cases hlt : b < h.nb
          · exact (j.rw_.img b x (cut_of hlt hb)).2
          · exact (j.uni b x hb (by omega)).2.1
        refine upon_value hz (hK _ W' _ (j.listed hm pl hp heff ho hco hbo hl1 hl2 hs1 hs2' hle ?_ rfl hmd.old hmd.ext (hat _ _ (Phi.upd_same _ _ _)) ?_ ?_ (fun b x' hb => ?_) ?_))
        · refine Phi.eq (fun b => ?_) rfl rfl rfl
          simp only [cut]
          split
          · rw [Phi.upd_other _ _ (by omega)]
          · rfl
        · intro x' q' e1 _ e3
          rw [hop] at e1; cases e1
          rw [hq] at e3; cases e3
          refine ⟨W.heap.size,cc,e,fz,Phi.upd_same _ _ _,hwat,(by
            show Φ.fz W.heap.size = none
            cases ee : Φ.fz W.heap.size with
            | none => rfl
            | some ds => have:=j.rw_.rest.lt (φ:=cut h.nb Φ) ee; omega),⟨hfz,hroN⟩,hmd.fits,fun jx v hv => ?_⟩
          obtain ⟨b1,y,b2,b3⟩:=hmd.cells jx v hv
          exact ⟨b1,y,b2,RV.mono hle _ _ b3⟩
        · intro b x' hb
          by_cases e' : b = s.2.1.nb
          · exact .inr ⟨e',hmk⟩
          · rw [Phi.upd_other _ _ e'] at hb
            exact .inl hb
        · by_cases e' : b = s.2.1.nb
          · subst e'
            rw [Phi.upd_same] at hb; cases hb
            exact .inr rfl
          · rw [Phi.upd_other _ _ e'] at hb
            exact .inl hb
        · intro b x' hb hnb
          by_cases e' : b = s.2.1.nb
          · subst e'
            rw [Phi.upd_same] at hb; cases hb
            refine ⟨j.ext.size,by rw [hmd.size]; exact Nat.lt_succ_self _,fun b' y hy hxy => ?_⟩
            by_cases e2 : b' = s.2.1.nb
            · exact e2
            · rw [Phi.upd_other _ _ e2] at hy
              have:=himg b' y hy
              simp only at hxy
              omega
          · rw [Phi.upd_other _ _ e'] at hb
            obtain ⟨g1,g2,g3⟩:=j.uni b x' hb hnb
            refine ⟨g1,by rw [hmd.size]; omega,fun b' y hy hxy => ?_⟩
            by_cases e2 : b' = s.2.1.nb
            · subst e2
              rw [Phi.upd_same] at hy; cases hy
              simp only at hxy
              omega
            · rw [Phi.upd_other _ _ e2] at hy
              exact g3 b' y hy hxy
      · cases hr
end
end Go.Ev
namespace Go.Ev
section
variable {P : Program} {G : GL} {X : Hint} {nt : Nat} {ops : Array Oper} {call : Call}
variable {L : List PI} {env' : Env} {h' : H} {φ0 : Phi} {W0 : World} {ds : List Deferred} {lst lst' : Nat → Bool} {a : Act} {W : World} {cl : T Nat} {Q : Exit → Act → World → Prop} {K : Act → World → Prop}
theorem J.acts (hm : Mono call) (hcall : CallOK P G call) (pl : Plan P G X nt ops L cl) {A B : List PI} {p : PI} {env : Env} {h : H} {hs : List H} {Φ : Phi}
    (j : J P G X nt ops call L env' h' φ0 W0 ds lst a W A (p :: B) env h hs Φ) (hp : lst p.ix = false) (heff : effB p = true)
    (hbind : ∀ o,ops[p.ix]? = some o → ∀ e ∈ binding o,lst e = true) (hl1 : lst' p.ix = true) (hl2 : ∀ i,i ≠ p.ix → lst' i = lst i)
    (hK : ∀ a' W' env1 h1 Φ',J P G X nt ops call L env' h' φ0 W0 ds lst' a' W' (A ++ [p]) B env1 h1 (h1 :: hs) Φ' → K a' W') : wpOp P ops Q p.ix K a W:=by
  have hpL : p ∈ L:=by rw [j.split]; simp
  have hitm : Itm P G X nt ops cl A p:=by
    have:=pl.chain
    rw [j.split] at this
    have:=(Chain.append A [] (p :: B) this).2
    rw [List.nil_append] at this
    exact this.1
  obtain ⟨o,ho,hco,hb1,hb2,hgd⟩:=hitm.op
  obtain ⟨c1,c2,c3,c4⟩:=cCO_ok hco
  have hbo:=hbind o ho
  have hnd:=(pl.ixs).1
  have hndB : ((p :: B).map (·.ix)).Nodup:=by
    rw [j.split,List.map_append] at hnd
    exact (List.nodup_append.1 hnd).2.1
  have n2 : ∀ q ∈ B,q.ix ≠ p.ix:=(nodup_split (A:=[]) hndB).2
  have hBL : ∀ q ∈ B,q ∈ L:=fun q hq => by rw [j.split]; simp [hq]
  have hlB : ∀ q ∈ B,lst' q.ix = lst q.ix:=fun q hq => hl2 _ (n2 q hq)
  have hdown : ∀ q ∈ L,lst q.ix = true → ∀ k,clB cl q.ix k = true → lst k = true:=fun q hq => Chain.down L [] pl.chain (by simpa using j.down) (fun q hq => by cases hq) q (by simpa using hq)
  have hpre : ∀ k,clB cl p.ix k = true → lst k = true:=by
    intro k hk
    obtain ⟨r,hr,re⟩:=hitm.pre k hk
    rw [← re]; exact j.allA r hr
  have hopr:=J.operands (B1:=[]) hm pl j hp hpre (s:=(env,h,hs)) rfl
  obtain ⟨tms,hrep⟩:=j.rep
  have hopr' : ∀ t ∈ p.co.tm,∀ v,env.get t = some v → RV (cut h.nb Φ) v (a.tmps.getD t undef):=fun t ht v hv =>
    RV.restrict (cut_le _ _) rfl rfl v _ _ (hrep.get t v hv) (hopr t ht v hv)
  obtain ⟨hren,hag⟩:=own_env (p:=p) (env:=env) j.size hopr'
  obtain ⟨s2,hs2,_,hE3⟩:=j.ex
  have hwn : ∀ b,wantG env p.co.g = some b → Region.wanted o (yielded ops a.tmps) = b:=fun b hb =>
    wanted_ok (φ:=cut h.nb Φ) (env:=env.filt fun t => p.co.tm.contains t) (fun t v hv _ => hren.get t v hv) c2 (by rw [own_guard hag]; exact hb)
  have htm : ∀ (z : Value),∀ q ∈ B,∀ d,q.co.d = some d → (a.put o.dst z).tmps.getD d undef = a.tmps.getD d undef:=by
    intro z q hq d hd
    refine put_get a o.dst z d fun e => ?_
    rw [← c3] at e
    exact ((pl.pair (hBL q hq) hpL e).2 (n2 q hq)).1 hd
  have hnb2:=stp_nb hm hs2
  have hput:=stp_put hs2
  have hplan:=j.plan
  rw [evPlan_cons,hs2] at hplan
  simp only at hplan
  -- the state behind it,whatever has come of it
  have key : ∀ (φ2 : Phi) (z : Value) (W2 : World),s2.2.2.1 = s2.2.1 :: hs → RV φ2 s2.2.2.2 z → RW φ2 s2.2.1 W2 → Grow (cut h.nb Φ) φ2 W → Ext (cut h.nb Φ) W W2 → K (a.put o.dst z) W2:=by
    intro φ2 z W2 hhs hz hrw2 hgr hex2
    let Ψ : Phi:=⟨fun b => if b < s2.2.1.nb then φ2 b else Φ b,Φ.ro,φ2.fz,φ2.tk⟩
    have hro : Φ.ro = φ2.ro:=hgr.le.ro.symm
    have hcut : cut s2.2.1.nb Ψ = φ2:=by
      refine Phi.eq (fun b => ?_) hro rfl rfl
      simp only [cut,Ψ]
      split
      · rfl
      · exact (hrw2.none_nb (by omega)).symm
    have hids : ∀ b,b ∈ exIds call lst (p :: B) env h hs → b ∈ exIds call lst B s2.1 s2.2.1 s2.2.2.1:=by
      intro b hb
      simp only [exIds,hs2,hp,Bool.false_eq_true,false_and,if_false,List.nil_append] at hb
      exact hb
    have hout : ∀ b x,Φ b = some x → h.nb ≤ b → s2.2.1.nb ≤ b:=by
      intro b x hb hnb
      rcases j.dom b x hb with hlt | hin
      · omega
      · exact exIds_ge hm B _ _ _ _ (hids b hin)
    have hle : Φ.le Ψ:=by
      refine ⟨fun b x hb => ?_,rfl,hgr.le.fz,hgr.le.tk⟩
      simp only [Ψ]
      split
      · rename_i hlt
        by_cases hlt' : b < h.nb
        · exact hgr.le.sub b x (cut_of hlt' hb)
        · have:=hout b x hb (by omega); omega
      · exact hb
    have hφ2Ψ : φ2.le Ψ:=by
      refine ⟨fun b x hb => ?_,hro,fun _ ds h => ⟨[],by rw [List.append_nil]; exact h⟩,fun _ e n v h => ⟨e,n,v,h,tkLe.refl _ _ _⟩⟩
      have:=(hrw2.img b x hb).1
      simp only [Ψ,if_pos this]
      exact hb
    have hahd : ∀ b x,Φ b = some x → h.nb ≤ b → φ2.fz x.1 = none:=by
      intro b x hx hb
      obtain ⟨u1,u2,u3⟩:=j.uni b x hx hb
      have hn:=j.ahd b x hx hb
      cases ee : φ2.fz x.1 with
      | none => rfl
      | some ds =>
        exfalso
        have hn' : (cut h.nb Φ).fz x.1 = none:=hn
        rcases hgr.frz x.1 ds ee u2 with h1 | ⟨_,ds',h1⟩ <;> · rw [hn'] at h1; cases h1
    have hWh : ∀ b x oo,s2.2.1.nb ≤ b → Φ b = some x → W.heap[x.1]? = some oo → W2.heap[x.1]? = some oo ∧ (Φ.fz x.1 = none → Ψ.fz x.1 = none):=by
      intro b x oo hb hx hh
      obtain ⟨u1,u2,u3⟩:=j.uni b x hx (by omega)
      refine ⟨?_,fun _ => hahd b x hx (by omega)⟩
      rw [hex2.out x.1 u2 (fun b' x' hb' hxy => ?_) (fun ho => ?_)]
      · exact hh
      rotate_left
      · obtain ⟨ds,hds⟩:=j.rw_.rest.ownf x.1 ho
        have hn : (cut h.nb Φ).fz x.1 = none:=j.ahd b x hx (by omega)
        rw [hn] at hds; cases hds
      · obtain ⟨k1,k2⟩:=cut_lt hb'
        have:=u3 b' x' k2 hxy
        omega
    refine hK (a.put o.dst z) W2 s2.1 s2.2.1 Ψ ⟨by rw [j.split]; simp,by rw [← hhs]; exact hplan,by rw [hcut]; exact hrw2,?_,?_,fun b x hb => ?_,fun b x hb hnb => ?_,fun t v ht hv => ?_,by rw [put_size]; exact j.size,by rw [act_put_defers]; exact j.df,by rw [hcut]; exact j.gok.mono hgr.le,?_,?_,fun q hq => ?_,fun q hq hql oq hoq e he => ?_,fun b x hb hnb => ?_⟩
    · rw [hcut,hput]
      refine ⟨((⟨tms,[]⟩ : Act).put p.co.d z).tmps,?_⟩
      rw [c3]
      exact REnv.put (a:=⟨tms,[]⟩) (hrep.mono hgr.le) c4 hz
    · rw [← hhs]
      exact Ex.mono hm hle B _ _ _ hlB (fun q hq _ d hd => htm z q hq d hd) hWh hE3
    · by_cases hlt : b < s2.2.1.nb
      · exact .inl hlt
      · simp only [Ψ,if_neg hlt] at hb
        rcases j.dom b x hb with h1 | h1
        · omega
        · right
          rw [← hhs,exIds_congr B _ _ _ hlB]
          exact hids b h1
    · have hnlt : ¬ b < s2.2.1.nb:=by omega
      have hb':=hb
      simp only [Ψ,if_neg hnlt] at hb'
      obtain ⟨u1,u2,u3⟩:=j.uni b x hb' (by omega)
      refine ⟨u1,by have:=hex2.size; omega,fun b' x' hb'' hxy => ?_⟩
      by_cases hlt : b' < s2.2.1.nb
      · simp only [Ψ,if_pos hlt] at hb''
        obtain ⟨b3,x3,hb3,hx3⟩:=hgr.new b' x' hb'' (by omega)
        obtain ⟨k1,k2⟩:=cut_lt hb3
        have:=u3 b3 x3 k2 (by omega)
        omega
      · simp only [Ψ,if_neg hlt] at hb''
        exact u3 b' x' hb'' hxy
    · rw [hput] at hv
      have old : p.co.d ≠ some t → env.get t = some v → RV Ψ v ((a.put o.dst z).tmps.getD t undef):=by
        intro hne hg
        rw [put_get a o.dst z t (by rw [← c3]; exact hne)]
        refine RV.mono hle _ _ (j.tm t v (fun q hq hql hd => ?_) hg)
        rcases List.mem_cons.1 hq with rfl | hq
        · rw [hp] at hql; cases hql
        · exact ht q hq (by rw [hlB q hq]; exact hql) hd
      cases hd : p.co.d with
      | none =>
        rw [hd] at hv
        exact old (by rw [hd]; exact fun h => by cases h) hv
      | some d =>
        rw [hd] at hv
        simp only [putE,T.get_set] at hv
        split at hv
        · rename_i e
          subst e
          cases hv
          rw [hd] at c3
          rw [← c3] at c4 ⊢
          rw [put_same j.size c4]
          exact RV.mono hφ2Ψ _ _ hz
        · rename_i e
          exact old (by rw [hd]; exact fun h => by cases h; exact e rfl) hv
    · rw [hcut]
      exact j.grow.trans hgr j.ext.size
    · exact j.ext.trans hex2 j.grow
    · rcases List.mem_append.1 hq with hq | hq
      · have : q.ix ≠ p.ix:=fun e => by
          have:=j.allA q hq
          rw [e,hp] at this; cases this
        rw [hl2 _ this]; exact j.allA q hq
      · rw [List.mem_singleton] at hq; subst hq; exact hl1
    · by_cases hqp : q.ix = p.ix
      · rw [hqp,ho] at hoq; cases hoq
        have:=hbo e he
        by_cases hep : e = p.ix
        · rw [hep]; exact hl1
        · rw [hl2 _ hep]; exact this
      · rw [hl2 _ hqp] at hql
        have:=j.down q hq hql oq hoq e he
        by_cases hep : e = p.ix
        · rw [hep]; exact hl1
        · rw [hl2 _ hep]; exact this
    · have hnlt : ¬ b < s2.2.1.nb:=by omega
      simp only [Ψ,if_neg hnlt] at hb
      exact hahd b x hb (by omega)
  have hs2':=hs2
  unfold stp at hs2
  split at hs2
  · cases hs2
  · rename_i hw
    rw [if_pos heff] at hs2
    cases hs2
    exact wpOp_at ho (hwn false hw) (fun h => by cases h) fun _ => key (cut h.nb Φ) undef W rfl (by simp only [RV]; rfl) j.rw_ (Grow.refl _ _) (Ext.refl _ _)
  · rename_i hw
    split at hs2
    · cases hs2
    rename_i r hr
    refine wpOp_at ho (hwn true hw) (fun _ => ?_) (fun h => by cases h)
    cases hop : p.co.op with
    | E x =>
      have ha2 : Agree (C.E x).tm (env.filt fun t => p.co.tm.contains t) env:=by
        have:=own_op hag
        rw [hop] at this
        exact this
      rw [hop] at hs2 hr c1
      simp only at hs2
      cases hs2
      rw [← evC_congr ha2] at hr
      exact gen_ok hcall hren j.gok j.rw_ c1 (v:=r.1) (h':=r.2) hr fun φ2 z W2 g1 g2 g3 g4 => key φ2 z W2 rfl g1 g2 g3 g4
    | _ => simp [effB,isE,hop] at heff
theorem ready_ok {listed : Array Bool} {i : Nat} (hi : i ∈ Region.ready .any ops listed) : i < ops.size ∧ listed.getD i true = false ∧ ∀ o,ops[i]? = some o → ∀ e ∈ binding o,listed.getD e false = true:=by
  unfold Region.ready at hi
  rw [List.mem_filter,List.mem_range] at hi
  obtain ⟨h1,h2⟩:=hi
  simp only [Bool.and_eq_true,Bool.not_eq_true'] at h2
  refine ⟨h1,h2.1,fun o ho e he => ?_⟩
  rw [ho] at h2
  simp only [Option.map_some,Option.getD_some] at h2
  have h3:=h2.2
  rw [Array.all_eq_true'] at h3
  unfold binding at he
  obtain ⟨x,hx,rfl⟩:=List.mem_map.1 he
  rw [List.mem_filter] at hx
  have:=h3 x (by simpa using hx.1)
  simp only [Bool.or_eq_true,Bool.not_eq_true'] at this
  rcases this with h4 | h4
  · rw [hx.2] at h4; cases h4
  · exact h4
def listB (listed : Array Bool) (i : Nat) : Bool:=listed.getD i false
theorem J.run (hm : Mono call) (hcall : CallOK P G call) (pl : Plan P G X nt ops L cl) (hQ : ∀ a' W',KPost nt φ0 W0 env' h' ds a' W' → Q .normal a' W') :
    ∀ (fuel : Nat) (listed : Array Bool) (a : Act) (W : World) (A B : List PI) (env : Env) (h : H) (hs hs0 : List H) (Φ : Phi),listed.size = ops.size → ((List.range ops.size).filter fun i => !listB listed i).length ≤ fuel → hs = h :: hs0 →
      J P G X nt ops call L env' h' φ0 W0 ds (listB listed) a W A B env h hs Φ → wpAny P .any ops Q fuel listed a W:=by
  intro fuel
  induction fuel with
  | zero =>
    intro listed a W A B env h hs hs0 Φ hsz hf hhd j
    have hall : ∀ i,i < ops.size → listB listed i = true:=by
      intro i hi
      cases e : listB listed i with
      | true => rfl
      | false =>
        have : i ∈ (List.range ops.size).filter fun i => !listB listed i:=List.mem_filter.2 ⟨List.mem_range.2 hi,by simp [e]⟩
        have h0 : ((List.range ops.size).filter fun i => !listB listed i).length = 0:=by omega
        rw [List.eq_nil_of_length_eq_zero h0] at this
        cases this
    refine ⟨?_,?_⟩
    · cases hr : Region.ready .any ops listed with
      | nil => rfl
      | cons i is =>
        obtain ⟨h1,h2,_⟩:=ready_ok (i:=i) (by rw [hr]; simp)
        have:=hall i h1
        have hlt : i < listed.size:=by omega
        simp [listB,hlt] at this h2
        rw [this] at h2; cases h2
    · have hB : ∀ p ∈ B,listB listed p.ix = true:=fun p hp => hall _ (pl.ixs.2 p (by rw [j.split]; simp [hp]))
      have j' : J P G X nt ops call L env' h' φ0 W0 ds (listB listed) a W A (B ++ []) env h hs Φ:=by simpa using j
      obtain ⟨env1,h1,_,j1⟩:=j'.absorbAll hm pl B [] A env h hs Φ hB
      have e:=j1.split
      rw [List.append_nil] at e
      rw [← e] at j1
      exact hQ a W j1.done
  | succ fuel ih =>
    intro listed a W A B env h hs hs0 Φ hsz hf hhd j
    refine ⟨fun hr => ?_,fun i hi => ?_⟩
    · -- nobody is ready: all is done
      have hB : ∀ p ∈ B,listB listed p.ix = true:=by
        have key : ∀ (B1 B2 : List PI),B = B1 ++ B2 → (∀ p ∈ B1,listB listed p.ix = true) → ∀ p ∈ B2,listB listed p.ix = true:=by
          intro B1 B2
          induction B2 generalizing B1 with
          | nil => intro _ _ p hp; cases hp
          | cons q B2 ihB =>
            intro e hB1 p hp
            have hq : listB listed q.ix = true:=by
              cases hc : listB listed q.ix with
              | true => rfl
              | false =>
                exfalso
                have hqL : q ∈ L:=by rw [j.split,e]; simp
                have hqs:=pl.ixs.2 q hqL
                have hitm : Itm P G X nt ops cl (A ++ B1) q:=by
                  have:=pl.chain
                  rw [j.split,e,← List.append_assoc] at this
                  have:=(Chain.append (A ++ B1) [] (q :: B2) this).2
                  rw [List.nil_append] at this
                  exact this.1
                obtain ⟨o,ho,_,hb1,_⟩:=hitm.op
                have : q.ix ∈ Region.ready .any ops listed:=by
                  unfold Region.ready
                  rw [List.mem_filter,List.mem_range]
                  refine ⟨hqs,?_⟩
                  simp only [Bool.and_eq_true,Bool.not_eq_true',ho,Option.map_some,Option.getD_some]
                  have hlt : q.ix < listed.size:=by omega
                  refine ⟨by simpa [listB,hlt] using hc,?_⟩
                  rw [Array.all_eq_true']
                  intro x hx
                  simp only [Bool.or_eq_true,Bool.not_eq_true']
                  cases hbx : Region.binds .any x with
                  | false => exact .inl rfl
                  | true =>
                    right
                    have hxb : x.on ∈ binding o:=List.mem_map.2 ⟨x,List.mem_filter.2 ⟨by simpa using hx,hbx⟩,rfl⟩
                    obtain ⟨r,hr',re⟩:=hitm.pre _ (hb1 _ hxb)
                    rw [← re]
                    rcases List.mem_append.1 hr' with h1 | h1
                    · exact j.allA r h1
                    · exact hB1 r h1
                rw [hr] at this; cases this
            rcases List.mem_cons.1 hp with rfl | hp
            · exact hq
            · exact ihB (B1 ++ [q]) (by rw [e]; simp) (fun r hr' => by
                rcases List.mem_append.1 hr' with h1 | h1
                · exact hB1 r h1
                · rw [List.mem_singleton] at h1; subst h1; exact hq) p hp
        exact key [] B rfl (fun p hp => by cases hp)
      have j' : J P G X nt ops call L env' h' φ0 W0 ds (listB listed) a W A (B ++ []) env h hs Φ:=by simpa using j
      obtain ⟨env1,h1,_,j1⟩:=j'.absorbAll hm pl B [] A env h hs Φ hB
      have e:=j1.split
      rw [List.append_nil] at e
      rw [← e] at j1
      exact hQ a W j1.done
    · obtain ⟨h1,h2,h3⟩:=ready_ok hi
      have hlt : i < listed.size:=by omega
      have hli : listB listed i = false:=by simpa [listB,hlt] using h2
      obtain ⟨p,hp,rfl⟩:=pl.cover h1
      have hpB : p ∈ B:=by
        rw [j.split] at hp
        rcases List.mem_append.1 hp with hp | hp
        · have:=j.allA p hp
          rw [hli] at this; cases this
        · exact hp
      obtain ⟨B1,B2,rfl⟩:=List.append_of_mem hpB
      have hl1 : listB (listed.setIfInBounds p.ix true) p.ix = true:=by simp [listB,hlt]
      have hl2 : ∀ i,i ≠ p.ix → listB (listed.setIfInBounds p.ix true) i = listB listed i:=by
        intro i hne
        simp [listB,Ne.symm hne]
      have hcount : ((List.range ops.size).filter fun i => !listB (listed.setIfInBounds p.ix true) i).length ≤ fuel:=by
        have hlt2 : ((List.range ops.size).filter fun i => !listB (listed.setIfInBounds p.ix true) i).length < ((List.range ops.size).filter fun i => !listB listed i).length:=by
          have hsub : ((List.range ops.size).filter fun i => !listB (listed.setIfInBounds p.ix true) i) ⊆ ((List.range ops.size).filter fun i => !listB listed i).erase p.ix:=by
            intro x hx
            rw [List.mem_filter] at hx
            have hne : x ≠ p.ix:=fun e => by
              rw [e,hl1] at hx
              simp at hx
            rw [List.mem_erase_of_ne hne,List.mem_filter]
            refine ⟨hx.1,?_⟩
            rw [← hl2 x hne]; exact hx.2
          have hn1 : ((List.range ops.size).filter fun i => !listB (listed.setIfInBounds p.ix true) i).Nodup:=List.nodup_range.filter _
          have hle:=hn1.length_le_of_subset hsub
          have hmem : p.ix ∈ (List.range ops.size).filter fun i => !listB listed i:=List.mem_filter.2 ⟨List.mem_range.2 h1,by simp [hli]⟩
          rw [List.length_erase_of_mem hmem] at hle
          have : 0 < ((List.range ops.size).filter fun i => !listB listed i).length:=List.length_pos_of_mem hmem
          omega
        omega
      have hsz' : (listed.setIfInBounds p.ix true).size = ops.size:=by simpa using hsz
      cases heff : effB p with
      | false =>
        exact j.stable hm pl hhd hli heff h3 hl1 hl2 fun a' W' Φ' j' => ih _ a' W' A (B1 ++ p :: B2) env h hs hs0 Φ' hsz' hcount hhd j'
      | true =>
        -- all that stands ahead of it is done
        have hitm : Itm P G X nt ops cl (A ++ B1) p:=by
          have:=pl.chain
          rw [j.split,← List.append_assoc] at this
          have:=(Chain.append (A ++ B1) [] (p :: B2) this).2
          rw [List.nil_append] at this
          exact this.1
        obtain ⟨o,ho,_,hb1,hb2,_⟩:=hitm.op
        have hdown : ∀ q ∈ L,listB listed q.ix = true → ∀ k,clB cl q.ix k = true → listB listed k = true:=fun q hq => Chain.down L [] pl.chain (by simpa using j.down) (fun q hq => by cases hq) q (by simpa using hq)
        have hB1 : ∀ q ∈ B1,listB listed q.ix = true:=by
          intro q hq
          obtain ⟨e,he,hh⟩:=hb2 _ (hitm.eff heff q (by simp [hq]))
          have hle:=h3 o ho e he
          rcases hh with rfl | hh
          · exact hle
          · obtain ⟨r,hr,re⟩:=hitm.pre e (hb1 e he)
            have hrL : r ∈ L:=by
              rw [j.split]
              rcases List.mem_append.1 hr with h4 | h4 <;> simp [h4]
            exact hdown r hrL (by rw [re]; exact hle) _ (by rw [re]; exact hh)
        obtain ⟨env1,h1',_,j1⟩:=j.absorbAll hm pl B1 (p :: B2) A env h hs Φ hB1
        exact j1.acts hm hcall pl hli heff h3 hl1 hl2 fun a' W' env2 h2 Φ' j' => ih _ a' W' _ B2 env2 h2 (h2 :: hs) hs Φ' hsz' hcount rfl j'
theorem plan_ok (hm : Mono call) (hcall : CallOK P G call) : PlanOK P G call:=by
  intro Hn nt ops order items env env' h h' φ W a Q hc hv r g w hQ
  obtain ⟨cl,pl⟩:=cPlan_ok hc
  have hstrict : cut h.nb φ = φ:=by
    refine Phi.eq (fun b => ?_) rfl rfl rfl
    simp only [cut]
    split
    · rfl
    · exact (w.none_nb (by omega)).symm
  have hnone : ∀ i,listB (Array.replicate ops.size false) i = false:=by
    intro i
    simp only [listB,Array.getD_eq_getD_getElem?,Array.getElem?_replicate]
    split <;> rfl
  have hEx : ∀ (B : List PI) (env : Env) (h : H) (hs : List H) (rr : Env × H),evPlan call B env h hs = some rr → Ex call (listB (Array.replicate ops.size false)) φ (fun t => a.tmps.getD t undef) W B env h hs:=by
    intro B
    induction B with
    | nil => intro env h hs rr _; trivial
    | cons p B ih =>
      intro env h hs rr e
      rw [evPlan_cons] at e
      split at e
      · cases e
      · rename_i s hs'
        exact ⟨s,hs',(fun hl => by rw [hnone] at hl; cases hl),ih _ _ _ _ e⟩
  refine J.run hm hcall pl hQ ops.size _ a W [] items env h [h] [] φ (by simp) ?_ rfl ⟨rfl,hv,by rw [hstrict]; exact w,⟨a.tmps,by rw [hstrict]; exact r⟩,hEx _ _ _ _ _ hv,fun b x hb => .inl (w.img b x hb).1,fun b x hb hnb => ?_,fun t v _ hv => r.get t v hv,r.size,rfl,by rw [hstrict]; exact g,by rw [hstrict]; exact Grow.refl _ _,Ext.refl _ _,(fun p hp => by cases hp),(fun q hq hl => by rw [hnone] at hl; cases hl),fun b x hb hnb => (by have:=(w.img b x hb).1; omega)⟩
  · have:=List.length_filter_le (fun i => !listB (Array.replicate ops.size false) i) (List.range ops.size)
    simpa using this
  · have:=(w.img b x hb).1; omega
end
end Go.Ev
namespace Go.Ev
noncomputable section
theorem evOps_nb {call : Call} (hm : Mono call) : ∀ (l : List CO) (env : Env) (h : H) (r : Env × H),evOps call l env h = some r → h.nb ≤ r.2.nb:=by
  intro l
  induction l with
  | nil => intro env h r e; cases e; exact Nat.le_refl _
  | cons o l ih =>
    intro env h r e
    simp only [evOps] at e
    split at e
    · cases e
    · exact ih _ _ _ e
    · split at e
      · cases e
      · rename_i s hs
        exact Nat.le_trans (evC_nb hm (h':=s.2) (v:=s.1) hs) (ih _ _ _ e)
theorem evPlan_nb {call : Call} (hm : Mono call) : ∀ (B : List PI) (env : Env) (h : H) (hs : List H) (r : Env × H),evPlan call B env h hs = some r → h.nb ≤ r.2.nb:=by
  intro B
  induction B with
  | nil => intro env h hs r e; cases e; exact Nat.le_refl _
  | cons p B ih =>
    intro env h hs r e
    rw [evPlan_cons] at e
    split at e
    · cases e
    · rename_i s hs'
      exact Nat.le_trans (stp_nb hm hs') (ih _ _ _ _ e)
theorem iter_nb {f : Env → H → Option (X × Env × H)} (hf : ∀ env h r,f env h = some r → h.nb ≤ r.2.2.nb) : ∀ (n : Nat) (env : Env) (h : H) (r : X × Env × H),iter f n env h = some r → h.nb ≤ r.2.2.nb:=by
  intro n
  induction n with
  | zero => intro env h r e; cases e
  | succ n ih =>
    intro env h r e
    simp only [iter] at e
    split at e
    · cases e
    · rename_i s hs
      have h1:=hf _ _ _ hs
      split at e
      · exact Nat.le_trans h1 (ih _ _ _ e)
      · cases e; exact h1
theorem rst_nb {keep : List Nat} {nb : Nat} {kt : List Nat} {env : Env} {h : H} {r : Env × H} (e : rst keep nb kt env h = some r) : r.2.nb = nb:=by
  unfold rst at e
  split at e
  · cases e
  · split at e
    · cases e
    · cases e; rfl
theorem evK_nb {call : Call} {lf : Nat} (hm : Mono call) : ∀ (k : K) (env : Env) (h : H) (r : X × Env × H),evK call lf k env h = some r → h.nb ≤ r.2.2.nb:=by
  intro k
  induction k with
  | skip => intro env h r e; simp only [evK] at e; cases e; exact Nat.le_refl _
  | reg ops =>
    intro env h r e
    simp only [evK] at e
    split at e
    · rename_i s hs; cases e; exact evOps_nb hm _ _ _ _ hs
    · cases e
  | dreg ops =>
    intro env h r e
    simp only [evK] at e
    split at e
    · rename_i s hs; cases e; exact evPlan_nb hm _ _ _ _ _ hs
    · cases e
  | seq a b iha ihb =>
    intro env h r e
    simp only [evK] at e
    split at e
    · cases e
    · rename_i s hs
      have h1:=iha _ _ _ hs
      split at e
      · exact Nat.le_trans h1 (ihb _ _ _ e)
      · cases e; exact h1
  | cond c a b iha ihb =>
    intro env h r e
    simp only [evK,cond_eq_ite] at e
    split at e
    · split at e
      · exact iha _ _ _ e
      · exact ihb _ _ _ e
    · cases e
  | block id a iha =>
    intro env h r e
    simp only [evK,cond_eq_ite] at e
    split at e
    · cases e
    · rename_i s hs
      have h1:=iha _ _ _ hs
      split at e
      · split at e <;> · cases e; exact h1
      · cases e; exact h1
  | loop a iha =>
    intro env h r e
    simp only [evK] at e
    exact iter_nb iha _ _ _ _ e
  | fin ki ko kr ke nb kt a iha =>
    intro env h r e
    simp only [evK,cond_eq_ite,Bool.and_eq_true,Nat.ble_eq] at e
    split at e
    · rename_i hle
      split at e
      · cases e
      · split at e
        · cases e
        · rename_i s _ rr _
          unfold finX at e
          split at e
          · cases e
          · rename_i t ht
            cases e
            have:=rst_nb ht
            show h.nb ≤ t.2.nb
            have:=hle.1
            omega
    · cases e
  | exit id => intro env h r e; simp only [evK] at e; cases e; exact Nat.le_refl _
  | ret => intro env h r e; simp only [evK] at e; cases e; exact Nat.le_refl _
  | bad => intro env h r e; simp only [evK] at e; cases e
theorem runF_nb {call : Call} {lf : Nat} (hm : Mono call) {f : F} {args : List V} {h h' : H} {v : V} (e : runF call lf f args h = some (v,h')) : h.nb ≤ h'.nb:=by
  unfold runF at e
  simp only [cond_eq_ite] at e
  split at e
  · split at e
    · rename_i s hs
      have h1:=evK_nb hm _ _ _ _ hs
      split at e
      · cases e
      · split at e
        · cases e; exact h1
        · cases e
    · cases e
  · cases e
theorem ev_mono (tab : Nat → Option F) (lf : Nat) : ∀ n,Mono (ev tab lf n):=by
  intro n
  induction n with
  | zero => intro f args h r h' e; simp [ev] at e
  | succ n ih =>
    intro f args h r h' e
    simp only [ev] at e
    split at e
    · cases e
    · exact runF_nb ih e
theorem ev_sound {P : Program} {G : GL} (hmix : P.follows .mixedOrders = true) {tab : Nat → Option F} (ht : TabOK P G tab) (lf : Nat) : ∀ n,CallOK P G (ev tab lf n):=by
  intro n
  induction n with
  | zero => intro f args h r h' hv; simp [ev] at hv
  | succ n ih =>
    intro f args h r h' hv
    simp only [ev] at hv
    split at hv
    · cases hv
    rename_i F hF
    obtain ⟨fn,hs,Hn,h1,h2,h3⟩:=ht f F hF
    refine ⟨⟨fn,h1,?_,h3⟩,fun φ W vs g ha w => func_ok ih hmix (plan_ok (ev_mono tab lf n) ih) h1 h2 hv g ha w⟩
    unfold cF at h2
    split at h2
    · cases h2
    · rename_i b hb; rw [hb]; rfl
end
end Go.Ev
namespace Go.Ev
noncomputable section
def V.same (a b : V) : Bool:=match a,b with
  | .z,.z => true
  | .m,.m => true
  | .c .nilFunc,.c .nilFunc => true
  | .c .nilIface,.c .nilIface => true
  | .c (.map none),.c (.map none) => true
  | a,b => V.eqv a b
def V.sames : List V → List V → Bool
  | [],[] => true
  | x :: xs,y :: ys => V.same x y && V.sames xs ys
  | _,_ => false
def T.same {α : Type} (p : α → α → Bool) : T α → T α → Bool
  | .e,.e => true
  | .n l none r,.n l' none r' => T.same p l l' && T.same p r r'
  | .n l (some x) r,.n l' (some y) r' => p x y && T.same p l l' && T.same p r r'
  | _,_ => false
def Blk.same (a b : Blk) : Bool:=Nat.beq a.grp b.grp && Nat.beq a.dl b.dl && V.sames a.cells b.cells
def eq3 (a b : Nat × Nat × Nat) : Bool:=Nat.beq a.1 b.1 && Nat.beq a.2.1 b.2.1 && Nat.beq a.2.2 b.2.2
theorem eq3_eq {a b : Nat × Nat × Nat} (h : eq3 a b = true) : a = b:=by
  simp only [eq3,Bool.and_eq_true,Nat.beq_eq] at h
  obtain ⟨⟨h1,h2⟩,h3⟩:=h
  obtain ⟨a1,a2,a3⟩:=a
  obtain ⟨b1,b2,b3⟩:=b
  simp only at h1 h2 h3
  rw [h1,h2,h3]
def H.same (a b : H) : Bool:=Nat.beq a.nb b.nb && T.same Blk.same a.bl b.bl && T.same eqS a.gr b.gr && T.same eq3 a.tk b.tk
structure M where
  f : Nat
  args : List V
  h : H
  r : V
  h' : H
def memo : List M → Call
  | [],_,_,_ => none
  | m :: l,f,args,h => bif Nat.beq m.f f && Nat.beq m.h.nb h.nb then (bif V.sames m.args args && H.same m.h h then some (m.r,m.h') else memo l f args h) else memo l f args h
def evM (mm : Call) (tab : Nat → Option F) (lf : Nat) : Nat → Call
  | 0,_,_,_ => none
  | n + 1,f,args,h => match mm f args h with
    | some r => some r
    | none => match tab f with
      | none => none
      | some fn => runF (evM mm tab lf n) lf fn args h
theorem V.same_eq {a b : V} (h : V.same a b = true) : a = b:=by
  unfold V.same at h
  split at h <;> first | rfl | exact V.eqv_eq _ _ h
theorem V.sames_eq : ∀ {a b : List V},V.sames a b = true → a = b
  | [],[],_ => rfl
  | [],_ :: _,h => by simp [V.sames] at h
  | _ :: _,[],h => by simp [V.sames] at h
  | x :: xs,y :: ys,h => by
    simp only [V.sames,Bool.and_eq_true] at h
    rw [V.same_eq h.1,V.sames_eq h.2]
theorem T.same_eq {α : Type} {p : α → α → Bool} (hp : ∀ x y,p x y = true → x = y) : ∀ (a b : T α),T.same p a b = true → a = b:=by
  intro a
  induction a with
  | e =>
    intro b h
    cases b with
    | e => rfl
    | n => simp [T.same] at h
  | n l v r ihl ihr =>
    intro b h
    cases b with
    | e => cases v <;> simp [T.same] at h
    | n l' v' r' =>
      cases v <;> cases v' <;> simp only [T.same,Bool.and_eq_true,Bool.false_eq_true] at h
      · rw [ihl _ h.1,ihr _ h.2]
      · rw [hp _ _ h.1.1,ihl _ h.1.2,ihr _ h.2]
theorem Blk.same_eq {a b : Blk} (h : Blk.same a b = true) : a = b:=by
  simp only [Blk.same,Bool.and_eq_true,Nat.beq_eq] at h
  obtain ⟨⟨h1,h2⟩,h3⟩:=h
  cases a; cases b
  simp only at h1 h2 h3
  rw [h1,h2,V.sames_eq h3]
theorem H.same_eq {a b : H} (h : H.same a b = true) : a = b:=by
  simp only [H.same,Bool.and_eq_true,Nat.beq_eq] at h
  obtain ⟨⟨⟨h1,h2⟩,h3⟩,h4⟩:=h
  cases a; cases b
  simp only at h1 h2 h3 h4
  rw [h1,T.same_eq (fun _ _ => Blk.same_eq) _ _ h2,T.same_eq (fun x y h => (eqS_iff x y).1 h) _ _ h3,T.same_eq (fun _ _ h => eq3_eq h) _ _ h4]
def MOK (P : Program) (G : GL) (m : M) : Prop:=∃ call : Call,CallOK P G call ∧ Mono call ∧ call m.f m.args m.h = some (m.r,m.h')
def MsOK (P : Program) (G : GL) : List M → Prop
  | [] => True
  | m :: l => MOK P G m ∧ MsOK P G l
theorem memo_ok {P : Program} {G : GL} : ∀ {l : List M},MsOK P G l → CallOK P G (memo l) ∧ Mono (memo l)
  | [],_ => ⟨(fun _ _ _ _ _ e => by simp [memo] at e),(fun _ _ _ _ _ e => by simp [memo] at e)⟩
  | m :: l,⟨⟨call,hc,hm,e⟩,ok⟩ => by
    have ih:=memo_ok ok
    have key : ∀ f args h r h',memo (m :: l) f args h = some (r,h') → call f args h = some (r,h') ∨ memo l f args h = some (r,h'):=by
      intro f args h r h' e'
      simp only [memo,cond_eq_ite] at e'
      split at e'
      · rename_i t
        split at e'
        · rename_i t2
          simp only [Bool.and_eq_true,Nat.beq_eq] at t t2
          have h1:=V.sames_eq t2.1
          have h2:=H.same_eq t2.2
          rw [t.1,h1,h2] at e
          rw [e]; exact .inl e'
        · exact .inr e'
      · exact .inr e'
    refine ⟨fun f args h r h' e' => ?_,fun f args h r h' e' => ?_⟩
    · rcases key _ _ _ _ _ e' with e' | e'
      · exact hc _ _ _ _ _ e'
      · exact ih.1 _ _ _ _ _ e'
    · rcases key _ _ _ _ _ e' with e' | e'
      · exact hm _ _ _ _ _ e'
      · exact ih.2 _ _ _ _ _ e'
theorem evM_mono {mm : Call} (hmm : Mono mm) (tab : Nat → Option F) (lf : Nat) : ∀ n,Mono (evM mm tab lf n):=by
  intro n
  induction n with
  | zero => intro f args h r h' e; simp [evM] at e
  | succ n ih =>
    intro f args h r h' e
    simp only [evM] at e
    split at e
    · rename_i x hx; cases e; exact hmm _ _ _ _ _ hx
    · split at e
      · cases e
      · exact runF_nb ih e
theorem evM_sound {P : Program} {G : GL} (hmix : P.follows .mixedOrders = true) {tab : Nat → Option F} (ht : TabOK P G tab) (lf : Nat) {mm : Call} (hmm : CallOK P G mm) (hmo : Mono mm) : ∀ n,CallOK P G (evM mm tab lf n):=by
  intro n
  induction n with
  | zero => intro f args h r h' hv; simp [evM] at hv
  | succ n ih =>
    intro f args h r h' hv
    simp only [evM] at hv
    split at hv
    · rename_i x hx; cases hv; exact hmm _ _ _ _ _ hx
    · split at hv
      · cases hv
      rename_i F hF
      obtain ⟨fn,hs,Hn,h1,h2,h3⟩:=ht f F hF
      refine ⟨⟨fn,h1,?_,h3⟩,fun φ W vs g ha w => func_ok ih hmix (plan_ok (evM_mono hmo tab lf n) ih) h1 h2 hv g ha w⟩
      unfold cF at h2
      split at h2
      · cases h2
      · rename_i b hb; rw [hb]; rfl
theorem MOK.mk' {P : Program} {G : GL} (hmix : P.follows .mixedOrders = true) {tab : Nat → Option F} (ht : TabOK P G tab) {lf n : Nat} {l : List M} (ok : MsOK P G l) {m : M} (e : evM (memo l) tab lf n m.f m.args m.h = some (m.r,m.h')) : MOK P G m:=
  ⟨_,evM_sound hmix ht lf (memo_ok ok).1 (memo_ok ok).2 n,evM_mono (memo_ok ok).2 tab lf n,e⟩
def FOK (P : Program) (G : GL) (f : Nat) (F : F) : Prop:=∃ fn hs,∃ Hn : Hint,P.funcs[f]? = some fn ∧ cF P G Hn fn hs = some F ∧ (fn.name == "runtime.NumGoroutine") = false
def TAll {α : Type} (p : Nat → α → Prop) : T α → Prop
  | .e => True
  | .n l v r => (∀ x,v = some x → p 0 x) ∧ TAll (fun j => p (2 * j + 1)) l ∧ TAll (fun j => p (2 * j + 2)) r
theorem TAll.get {α : Type} : ∀ {t : T α} {p : Nat → α → Prop},TAll p t → ∀ {k : Nat} {x : α},t.get k = some x → p k x
  | .e,_,_,_,_,e => by cases e
  | .n l v r,p,h,k,x,e => by
    rw [T.get_n] at e
    split at e
    · rename_i hk; subst hk; exact h.1 x e
    · split at e
      · have:=TAll.get h.2.1 e
        rwa [show 2 * (k / 2) + 1 = k by omega] at this
      · have:=TAll.get h.2.2 e
        rwa [show 2 * (k / 2 - 1) + 2 = k by omega] at this
theorem tab_ok {P : Program} {G : GL} {t : T F} (h : TAll (FOK P G) t) : TabOK P G t.get:=fun _ _ e => h.get e
theorem some_inj {α : Type} {p : α → Prop} {a : α} (h : p a) : ∀ x,some a = some x → p x:=fun _ e => by cases e; exact h
theorem none_inj {α : Type} {p : α → Prop} : ∀ x,(none : Option α) = some x → p x:=fun _ e => by cases e
end
end Go.Ev
namespace Go.Ev
noncomputable section
def rootsV : V → List Nat → List Nat
  | .p x _,l => x :: l
  | .sl x _ _ _ _ _,l => x :: l
  | _,l => l
def rootsL : List V → List Nat → List Nat
  | [],l => l
  | v :: vs,l => rootsV v (rootsL vs l)
def rootsD : V → List Nat → List Nat
  | .a cs,l => rootsL cs l
  | .t vs,l => (vs.foldr (fun v l => match v with
    | .a cs => rootsL cs l
    | v => rootsV v l) l)
  | .fn _ a b,l => rootsL a (rootsL b l)
  | v,l => rootsV v l
def rootsT : T V → List Nat → List Nat
  | .e,l => l
  | .n a v b,l => rootsT a (match v with
    | none => rootsT b l
    | some v => rootsD v (rootsT b l))
def gcGo (bl : T Blk) : Nat → List Nat → T Blk → T Blk
  | 0,_,new => new
  | _ + 1,[],new => new
  | n + 1,b :: bs,new => match new.get b with
    | some _ => gcGo bl n bs new
    | none => match bl.get b with
      | none => gcGo bl n bs new
      | some k => gcGo bl n (rootsL k.cells bs) (new.set b k)
def upTo : Nat → List Nat → List Nat
  | 0,l => l
  | n + 1,l => upTo n (n :: l)
theorem gcGo_sub (bl : T Blk) : ∀ (n : Nat) (l : List Nat) (new : T Blk) (b : Nat) (k : Blk),(gcGo bl n l new).get b = some k → new.get b = some k ∨ bl.get b = some k:=by
  intro n
  induction n with
  | zero => intro l new b k h; exact .inl h
  | succ n ih =>
    intro l new b k h
    cases l with
    | nil => exact .inl h
    | cons c l =>
      simp only [gcGo] at h
      split at h
      · exact ih _ _ _ _ h
      · split at h
        · exact ih _ _ _ _ h
        · rename_i kc hkc
          rcases ih _ _ _ _ h with h' | h'
          · rw [T.get_set] at h'
            split at h'
            · rename_i e; cases h'; subst e; exact .inr hkc
            · exact .inl h'
          · exact .inr h'
def memN : Nat → List Nat → Bool
  | _,[] => false
  | n,x :: l => Nat.beq n x || memN n l
def gcRet (nb0 : Nat) (r : V) (h : H) : H:=⟨h.nb,gcGo h.bl 100000 (upTo nb0 (rootsD r [])) .e,h.gr,h.tk⟩
def evG (gs : List Nat) (mm : Call) (tab : Nat → Option F) (lf : Nat) : Nat → Call
  | 0,_,_,_ => none
  | n + 1,f,args,h => match mm f args h with
    | some r => some r
    | none => match tab f with
      | none => none
      | some fn => match runF (evG gs mm tab lf n) lf fn args h with
        | none => none
        | some r => bif memN f gs then some (r.1,gcRet h.nb r.1 r.2) else some r
namespace S1
def P (d : Nat) (x : PC) : CO:=⟨some d,.P x,none⟩
def L (d : Nat) (x : LC) : CO:=⟨some d,.L x,none⟩
def A (d : Nat) (x : AC) : CO:=⟨some d,.A x,none⟩
def E (d : Nat) (x : EC) : CO:=⟨some d,.E x,none⟩
def S (x : EC) : CO:=⟨none,.E x,none⟩
def m (d s : Nat) : CO:=⟨some d,.P (.mv (.t s)),none⟩
def rp : Nat → V → List V → List V
  | 0,_,l => l
  | n + 1,v,l => v :: rp n v l
end S1
namespace S2
def i (n : Int) : V:=.i .i64 n
def j (n : Int) : V:=.i .u32 n
def s (b l c : Nat) : V:=.sl b 0 l c 1 false
def k (n : Int) : O:=.k (i n)
instance (n : Nat) : OfNat O n:=⟨.t n⟩
def fa (d n x : Nat) : CO:=S1.P d (.fa n (.t x))
def ld (d x : Nat) : CO:=S1.L d (.ld1 (.t x))
def ln (d n x : Nat) : CO:=S1.L d (.ldn n (.t x))
def ex (d x n : Nat) : CO:=S1.P d (.ext (.t x) n)
def st (x y : Nat) : CO:=S1.S (.st1 (.t x) (.d y))
def sm (n x y : Nat) : CO:=S1.S (.stn n (.t x) (.d y))
def bi (d : Nat) (op : AOp) (x y : O) : CO:=S1.P d (.bin op x y)
def z (n : Nat) (c : CO) : PI:=⟨n,c,0,0⟩
def a (n : Nat) (c : CO) : PI:=⟨n,c,1,0⟩
def G (d t : Nat) (b : Bool) (x : C) : CO:=⟨some d,x,some (t,b)⟩
@[simp] theorem o_t (n : Nat) : (OfNat.ofNat n : O) = .t n:=id rfl
def u (l : List CO) (k : K) : K:=.seq (.reg l) k
def e : Nat → List (List (List Nat)) → List (List (List Nat))
  | 0,l => l
  | n + 1,l => [] :: e n l
end S2
def hP (n m : Nat) : Hint:=⟨upTo n [],[],upTo m [],[],[],0⟩
namespace T1
def q {α : Type} (x : α) : T α:=.n .e (some x) .e
def l {α : Type} (a : T α) : T α:=.n a none .e
def r {α : Type} (a : T α) : T α:=.n .e none a
def w {α : Type} (a b : T α) : T α:=.n a none b
def l' {α : Type} (a : T α) (x : α) : T α:=.n a (some x) .e
def r' {α : Type} (x : α) (b : T α) : T α:=.n .e (some x) b
def v {α : Type} (a : T α) (x : α) (b : T α) : T α:=.n a (some x) b
end T1
theorem RW.gcRet {φ : Phi} {h : H} {W : World} (r : RW φ h W) (nb0 : Nat) (v : V) : RW φ (gcRet nb0 v h) W:=
  r.less ⟨rfl,rfl,rfl,fun b k hb => by
    rcases gcGo_sub _ _ _ _ _ _ hb with h' | h'
    · rw [T.get_e] at h'; cases h'
    · exact ⟨k,h',rfl,rfl,rfl,fun j v hv => .inr hv⟩⟩
theorem evG_mono {gs : List Nat} {mm : Call} (hmm : Mono mm) (tab : Nat → Option F) (lf : Nat) : ∀ n,Mono (evG gs mm tab lf n):=by
  intro n
  induction n with
  | zero => intro f args h r h' e; simp [evG] at e
  | succ n ih =>
    intro f args h r h' e
    simp only [evG,cond_eq_ite] at e
    split at e
    · rename_i x hx; cases e; exact hmm _ _ _ _ _ hx
    · split at e
      · cases e
      · split at e
        · cases e
        · rename_i x hx
          split at e
          · cases e; exact runF_nb ih (h':=x.2) (v:=x.1) hx
          · cases e; exact runF_nb ih hx
theorem evG_sound {P : Program} {G : GL} (hmix : P.follows .mixedOrders = true) {gs : List Nat} {tab : Nat → Option F} (ht : TabOK P G tab) (lf : Nat) {mm : Call} (hmm : CallOK P G mm) (hmo : Mono mm) : ∀ n,CallOK P G (evG gs mm tab lf n):=by
  intro n
  induction n with
  | zero => intro f args h r h' hv; simp [evG] at hv
  | succ n ih =>
    intro f args h r h' hv
    simp only [evG,cond_eq_ite] at hv
    split at hv
    · rename_i x hx; cases hv; exact hmm _ _ _ _ _ hx
    · split at hv
      · cases hv
      rename_i F hF
      obtain ⟨fn,hs,Hn,h1,h2,h3⟩:=ht f F hF
      split at hv
      · cases hv
      rename_i x hx
      refine ⟨⟨fn,h1,?_,h3⟩,fun φ W vs g ha w => ?_⟩
      · unfold cF at h2
        split at h2
        · cases h2
        · rename_i b hb; rw [hb]; rfl
      · have key:=func_ok ih hmix (plan_ok (evG_mono hmo tab lf n) ih) h1 h2 (v:=x.1) (h':=x.2) hx g ha w
        split at hv
        · cases hv
          refine key.mono fun e W' hp => ?_
          cases e with
          | returned z =>
            obtain ⟨φ',a1,a2,a3,a4⟩:=hp
            exact ⟨φ',a1,a2.gcRet _ _,a3,a4⟩
          | _ => exact hp.elim
        · cases hv; exact key
theorem MOK.mkG {P : Program} {G : GL} (hmix : P.follows .mixedOrders = true) {tab : Nat → Option F} (ht : TabOK P G tab) {gs : List Nat} {lf n : Nat} {l : List M} (ok : MsOK P G l) {m : M}
    (e : evG gs (memo l) tab lf n m.f m.args m.h = some (m.r,m.h')) : MOK P G m:=
  have h:=memo_ok ok
  ⟨_,evG_sound hmix ht lf h.1 h.2 n,evG_mono h.2 tab lf n,e⟩
def callOne (f : Nat) : Call:=fun g args h => match args with
  | [] => bif Nat.beq g f then some (.b true,h) else none
  | _ => none
theorem callOne_ok {P : Program} {G : GL} {call : Call} (hc : CallOK P G call) {f : Nat} {h' : H} (he : call f [] ⟨0,.e,.e,.e⟩ = some (.b true,h')) : CallOK P G (callOne f) ∧ Mono (callOne f):=by
  refine ⟨fun g args h r h2 e => ?_,fun g args h r h2 e => ?_⟩
  · unfold callOne at e
    split at e
    · simp only [cond_eq_ite,Nat.beq_eq] at e
      split at e
      · rename_i hg
        cases e
        subst hg
        have hv : callPv call g [] [] h = some (.b true,h):=by
          simp only [callPv,List.all_nil,cond_true,he]; rfl
        have hcall : ∀ (φ : Phi) (W : World) (vs : Array Value),GOK G φ → RVs φ [] vs.toList → RW φ h W → Enters P g ∧ Calls P g vs W (CPost φ W (.b true) h):=fun φ W vs hg ha w => callP_ok hc hg w ha hv
        refine ⟨(hc _ _ _ _ _ he).1,fun φ W vs hg ha w => (hcall φ W vs hg ha w).2⟩
      · cases e
    · cases e
  · unfold callOne at e
    split at e
    · simp only [cond_eq_ite] at e
      split at e
      · cases e; exact Nat.le_refl _
      · cases e
    · cases e
theorem gGet_app (G : GL) (x : Nat) (g : Nat) : gGet (G ++ [(x,[])]) g = match gGet G g with
  | some vs => some vs
  | none => if x = g then some [] else none:=by
  induction G with
  | nil =>
    simp only [List.nil_append,gGet,cond_eq_ite,Nat.beq_eq]
  | cons p G ih =>
    simp only [List.cons_append,gGet,cond_eq_ite,ih]
    split <;> rfl
theorem GOK.more {G : GL} {φ : Phi} (h : GOK G φ) {x : Nat} {us : List V} (hx : gGet G x = some us) : GOK (G ++ [(x,[])]) φ:=fun g vs hg => by
  rw [gGet_app] at hg
  split at hg
  · rename_i ws hw
    cases hg
    exact h g _ hw
  · rename_i hn
    split at hg
    · rename_i hxg
      subst hxg
      rw [hx] at hn; cases hn
    · cases hg
theorem CallOK.less {P : Program} {G : GL} {call : Call} {x : Nat} {us : List V} (hx : gGet G x = some us) (h : CallOK P (G ++ [(x,[])]) call) : CallOK P G call:=fun f args hh r h' e =>
  ⟨(h f args hh r h' e).1,fun φ W vs g ha w => (h f args hh r h' e).2 φ W vs (g.more hx) ha w⟩
end
end Go.Ev
