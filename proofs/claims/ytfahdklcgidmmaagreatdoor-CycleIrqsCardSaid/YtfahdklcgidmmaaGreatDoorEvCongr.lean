/- A part of the evaluator and of the proof that its word holds in the model (EvCongr). -/
import Derived.Test.YtfahdklcgidmmaaGreatDoorEvCode
namespace Go.Ev

/-- a tree without some of its keys -/
def T.filt {α : Type} : (Nat → Bool) → T α → T α
  | _, .e => .e
  | p, .n l v r => .n (l.filt fun k => p (2 * k + 1)) (bif p 0 then v else none) (r.filt fun k => p (2 * k + 2))

theorem T.get_filt {α : Type} (t : T α) : ∀ (p : Nat → Bool) (k : Nat), (t.filt p).get k = if p k = true then t.get k else none := by
  induction t with
  | e => intro p k; simp [T.filt, T.get_e]
  | n l v r ihl ihr =>
    intro p k
    simp only [T.filt, T.get_n, ihl, ihr]
    by_cases h0 : k = 0
    · subst h0
      simp only [if_true, cond_eq_ite]
    · rw [if_neg h0, if_neg h0]
      by_cases h1 : k % 2 = 1
      · rw [if_pos h1, if_pos h1, show 2 * (k / 2) + 1 = k by omega]
      · rw [if_neg h1, if_neg h1, show 2 * (k / 2 - 1) + 2 = k by omega]

/-- two environments agree on some temporaries -/
def Agree (l : List Nat) (e1 e2 : Env) : Prop := ∀ t, t ∈ l → e1.get t = e2.get t

theorem Agree.left {a b : List Nat} {e1 e2 : Env} (h : Agree (a ++ b) e1 e2) : Agree a e1 e2 := fun t ht => h t (List.mem_append_left _ ht)
theorem Agree.right {a b : List Nat} {e1 e2 : Env} (h : Agree (a ++ b) e1 e2) : Agree b e1 e2 := fun t ht => h t (List.mem_append_right _ ht)

theorem O.ev_congr {o : O} {e1 e2 : Env} (h : Agree o.tm e1 e2) : o.ev e1 = o.ev e2 := by
  cases o with
  | t n => exact h n (by simp [O.tm])
  | k v => rfl

theorem evs_congr : ∀ {l : List O} {e1 e2 : Env}, Agree (tms l) e1 e2 → evs e1 l = evs e2 l := by
  intro l
  induction l with
  | nil => intros; rfl
  | cons o l ih =>
    intro e1 e2 h
    simp only [evs, O.ev_congr (o := o) h.left, ih h.right]

theorem O.nat_congr {o : O} {e1 e2 : Env} (h : Agree o.tm e1 e2) : o.nat e1 = o.nat e2 := by simp only [O.nat, O.ev_congr h]
theorem O.cells_congr {o : O} {e1 e2 : Env} (h : Agree o.tm e1 e2) : o.cells e1 = o.cells e2 := by simp only [O.cells, O.ev_congr h]

theorem optNat_congr {o : Option O} {d : Nat} {e1 e2 : Env} (h : Agree (tmo o) e1 e2) : optNat e1 d o = optNat e2 d o := by
  cases o with
  | none => rfl
  | some o => exact O.nat_congr h

theorem fillP_congr : ∀ {ps : List (Nat × Nat × O)} {cs : List V} {e1 e2 : Env}, Agree (tmp3 ps) e1 e2 → fillP e1 cs ps = fillP e2 cs ps := by
  intro ps
  induction ps with
  | nil => intros; rfl
  | cons p ps ih =>
    intro cs e1 e2 h
    simp only [fillP, O.ev_congr (o := p.2.2) h.left]
    have := fun cs => ih (cs := cs) h.right
    simp only [this]

theorem evP_congr {c : PC} {e1 e2 : Env} (h : Agree c.tm e1 e2) : evP c e1 = evP c e2 := by
  cases c <;> simp only [PC.tm] at h <;> simp only [evP]
  case mv x => exact O.ev_congr h
  case pick c a b =>
    simp only [evPick, O.ev_congr h.left.left]
    split
    · rename_i x _
      cases x
      · exact O.ev_congr h.right
      · exact O.ev_congr h.left.right
    · rfl
  case build z ps => simp only [evBuild, fillP_congr h]
  case nilck x => simp only [evNil, O.ev_congr h]
  case fa n x => simp only [evFa, O.ev_congr h]
  case fld1 n x => simp only [evFld1, O.cells_congr h]
  case fldn o n x => simp only [evFldn, O.cells_congr h]
  case ixS s x i => simp only [evIxS, O.ev_congr h.left, O.nat_congr h.right]
  case ixA n s x i => simp only [evIxA, O.ev_congr h.left, O.nat_congr h.right]
  case idA1 n x i => simp only [evIdA1, O.cells_congr h.left, O.nat_congr h.right]
  case idAn n s x i => simp only [evIdAn, O.cells_congr h.left, O.nat_congr h.right]
  case idStr x i => simp only [evIdStr, O.ev_congr h.left, O.nat_congr h.right]
  case bin op x y => simp only [evBin, O.ev_congr h.left, O.ev_congr h.right]
  case binB op x y => simp only [evBinB, O.ev_congr h.left, O.ev_congr h.right]
  case eqA ks n x y => simp only [evEqA, O.cells_congr h.left, O.cells_congr h.right]
  case eqNil n x => simp only [evEqNil, O.ev_congr h]
  case un op x => simp only [evUn, O.ev_congr h]
  case cvt k x => simp only [evCvt, O.ev_congr h]
  case slS s x lo hi =>
    have := fun d => optNat_congr (d := d) h.right
    simp only [evSlS, O.ev_congr h.left.left, optNat_congr h.left.right, this]
  case slS3 s x lo hi m => simp only [evSlS3, O.ev_congr h.left.left.left, optNat_congr h.left.left.right, O.nat_congr h.left.right, O.nat_congr h.right]
  case slStr x lo hi =>
    have := fun d => optNat_congr (d := d) h.right
    simp only [evSlStr, O.ev_congr h.left.left, optNat_congr h.left.right, this]
  case mkf f a b => simp only [evMkf, evs_congr h.left, evs_congr h.right]
  case len x => simp only [evLen, O.ev_congr h]
  case lenS x => simp only [evLenS, O.ev_congr h]
  case cap x => simp only [evCap, O.ev_congr h]
  case mn xs => simp only [evMm, evs_congr h]
  case mx xs => simp only [evMm, evs_congr h]
  case ext x i => simp only [evExt, O.ev_congr h]

theorem evL_congr {c : LC} {e1 e2 : Env} {h : H} (ag : Agree c.tm e1 e2) : evL c e1 h = evL c e2 h := by
  cases c <;> simp only [LC.tm] at ag <;> simp only [evL]
  case ld1 x => simp only [evLd1, O.ev_congr ag]
  case ldn n x => simp only [evLdn, O.ev_congr ag]
  case b2s x => simp only [evB2s, O.ev_congr ag]
  case slA n s x lo hi =>
    have := fun d => optNat_congr (d := d) ag.right
    simp only [evSlA, O.ev_congr ag.left.left, optNat_congr ag.left.right, this]

theorem evA_congr {c : AC} {e1 e2 : Env} (ag : Agree c.tm e1 e2) : evA c e1 = evA c e2 := by
  cases c <;> simp only [AC.tm] at ag <;> simp only [evA]
  case box x => simp only [evBox, O.ev_congr ag]
  case buildSl s n z ps => simp only [evBuildSl, fillP_congr ag]
  case mkSl s b z l c => simp only [evMkSl, O.nat_congr ag.left, O.nat_congr ag.right]
  case s2b x => simp only [evS2b, O.ev_congr ag]

theorem evE_congr {call : Call} {c : EC} {e1 e2 : Env} {h : H} (ag : Agree c.tm e1 e2) : evE call c e1 h = evE call c e2 h := by
  cases c <;> simp only [EC.tm] at ag <;> simp only [evE]
  case st1 a x => simp only [evSt1, O.ev_congr ag.left, O.ev_congr ag.right]
  case stn n a x => simp only [evStn, O.ev_congr ag.left, O.cells_congr ag.right]
  case call f xs => simp only [evCall, evs_congr ag]
  case callv x xs => simp only [evCallv, O.ev_congr ag.left, evs_congr ag.right]
  case appS s b x y => simp only [evAppS, O.ev_congr ag.left, O.ev_congr ag.right]
  case appStr b x y => simp only [evAppStr, O.ev_congr ag.left, O.ev_congr ag.right]
  case appZ s b z x n => simp only [evAppZ, O.ev_congr ag.left, O.nat_congr ag.right]
  case copyS s x y => simp only [evCopyS, O.ev_congr ag.left, O.ev_congr ag.right]
  case copyStr x y => simp only [evCopyStr, O.ev_congr ag.left, O.ev_congr ag.right]

theorem evC_congr {call : Call} {c : C} {e1 e2 : Env} {h : H} (ag : Agree c.tm e1 e2) : evC call c e1 h = evC call c e2 h := by
  cases c <;> simp only [C.tm] at ag <;> simp only [evC]
  · rw [evP_congr ag]
  · rw [evL_congr ag]
  · rw [evA_congr ag]
  · rw [evE_congr ag]

theorem wantG_congr {g : Option (Nat × Bool)} {e1 e2 : Env} (h : ∀ x, g = some x → e1.get x.1 = e2.get x.1) : wantG e1 g = wantG e2 g := by
  cases g with
  | none => rfl
  | some x => simp only [wantG, h x rfl]

/-! equality by the evaluator's test -/

mutual
theorem V.eqv_eq : ∀ (v w : V), V.eqv v w = true → v = w
  | .u, w, h => by cases w <;> simp [V.eqv] at h; rfl
  | .z, w, h => by cases w <;> simp [V.eqv] at h
  | .b x, w, h => by
    cases w <;> simp [V.eqv] at h
    subst h; rfl
  | .i k n, w, h => by
    cases w <;> simp [V.eqv] at h
    obtain ⟨h1, h2⟩ := h
    rw [ksame_eq] at h1
    rw [eqB_eq, beq_iff_eq] at h2
    rw [h1, h2]
  | .s l, w, h => by
    cases w <;> simp [V.eqv] at h
    rw [(eqS_iff _ _).1 h]
  | .pn, w, h => by cases w <;> simp [V.eqv] at h; rfl
  | .p x o, w, h => by
    cases w <;> simp [V.eqv] at h
    rw [h.1, h.2]
  | .sn, w, h => by cases w <;> simp [V.eqv] at h; rfl
  | .sl x o l q sz ex, w, h => by
    cases w <;> simp [V.eqv] at h
    obtain ⟨⟨⟨⟨⟨h1, h2⟩, h3⟩, h4⟩, h5⟩, h6⟩ := h
    rw [h1, h2, h3, h4, h5, h6]
  | .fn f x1 x2, w, h => by cases w <;> simp [V.eqv] at h
  | .a x1, w, h => by
    cases w <;> simp [V.eqv] at h
    rw [V.eqvs_eq _ _ h]
  | .t vs, w, h => by cases w <;> simp [V.eqv] at h
  | .m, w, h => by cases w <;> simp [V.eqv] at h
  | .c x, w, h => by cases w <;> simp [V.eqv] at h
theorem V.eqvs_eq : ∀ (v w : List V), V.eqvs v w = true → v = w
  | [], w, h => by cases w <;> simp [V.eqvs] at h; rfl
  | x :: xs, w, h => by
    cases w with
    | nil => simp [V.eqvs] at h
    | cons y ys =>
      simp only [V.eqvs, Bool.and_eq_true] at h
      rw [V.eqv_eq _ _ h.1, V.eqvs_eq _ _ h.2]
end

end Go.Ev
