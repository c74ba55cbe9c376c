/- The evaluator's word holds where some calls' answers are known already. -/
import Derived.Test.YtfahdklcgidmmaaGreatDoorEvFin
namespace Go.Ev
noncomputable section

/-! calls whose answers are known already -/

def V.same (a b : V) : Bool := match a, b with
  | .z, .z => true
  | .m, .m => true
  | .c .nilFunc, .c .nilFunc => true
  | .c .nilIface, .c .nilIface => true
  | .c (.map none), .c (.map none) => true
  | a, b => V.eqv a b

def V.sames : List V → List V → Bool
  | [], [] => true
  | x :: xs, y :: ys => V.same x y && V.sames xs ys
  | _, _ => false

def T.same {α : Type} (p : α → α → Bool) : T α → T α → Bool
  | .e, .e => true
  | .n l none r, .n l' none r' => T.same p l l' && T.same p r r'
  | .n l (some x) r, .n l' (some y) r' => p x y && T.same p l l' && T.same p r r'
  | _, _ => false

def Blk.same (a b : Blk) : Bool := Nat.beq a.grp b.grp && Nat.beq a.dl b.dl && V.sames a.cells b.cells

def H.same (a b : H) : Bool := Nat.beq a.nb b.nb && T.same Blk.same a.bl b.bl && T.same eqS a.gr b.gr

/-- a call, and what it answered -/
structure M where
  f : Nat
  args : List V
  h : H
  r : V
  h' : H

def memo : List M → Call
  | [], _, _, _ => none
  | m :: l, f, args, h => bif Nat.beq m.f f && Nat.beq m.h.nb h.nb then (bif V.sames m.args args && H.same m.h h then some (m.r, m.h') else memo l f args h) else memo l f args h

def evM (mm : Call) (tab : Nat → Option F) (lf : Nat) : Nat → Call
  | 0, _, _, _ => none
  | n + 1, f, args, h => match mm f args h with
    | some r => some r
    | none => match tab f with
      | none => none
      | some fn => runF (evM mm tab lf n) lf fn args h

theorem V.same_eq {a b : V} (h : V.same a b = true) : a = b := by
  unfold V.same at h
  split at h <;> first | rfl | exact V.eqv_eq _ _ h

theorem V.sames_eq : ∀ {a b : List V}, V.sames a b = true → a = b
  | [], [], _ => rfl
  | [], _ :: _, h => by simp [V.sames] at h
  | _ :: _, [], h => by simp [V.sames] at h
  | x :: xs, y :: ys, h => by
    simp only [V.sames, Bool.and_eq_true] at h
    rw [V.same_eq h.1, V.sames_eq h.2]

theorem T.same_eq {α : Type} {p : α → α → Bool} (hp : ∀ x y, p x y = true → x = y) : ∀ (a b : T α), T.same p a b = true → a = b := by
  intro a
  induction a with
  | e =>
    intro b h
    cases b with
    | e => rfl
    | n => simp [T.same] at h
  | n l v r ihl ihr =>
    intro b h
    cases b with
    | e => cases v <;> simp [T.same] at h
    | n l' v' r' =>
      cases v <;> cases v' <;> simp only [T.same, Bool.and_eq_true, Bool.false_eq_true] at h
      · rw [ihl _ h.1, ihr _ h.2]
      · rw [hp _ _ h.1.1, ihl _ h.1.2, ihr _ h.2]

theorem Blk.same_eq {a b : Blk} (h : Blk.same a b = true) : a = b := by
  simp only [Blk.same, Bool.and_eq_true, Nat.beq_eq] at h
  obtain ⟨⟨h1, h2⟩, h3⟩ := h
  cases a; cases b
  simp only at h1 h2 h3
  rw [h1, h2, V.sames_eq h3]

theorem H.same_eq {a b : H} (h : H.same a b = true) : a = b := by
  simp only [H.same, Bool.and_eq_true, Nat.beq_eq] at h
  obtain ⟨⟨h1, h2⟩, h3⟩ := h
  cases a; cases b
  simp only at h1 h2 h3
  rw [h1, T.same_eq (fun _ _ => Blk.same_eq) _ _ h2, T.same_eq (fun x y h => (eqS_iff x y).1 h) _ _ h3]

/-- what holds of a call's answer -/
def MOK (P : Program) (G : List Nat) (m : M) : Prop := ∃ call : Call, CallOK P G call ∧ Mono call ∧ call m.f m.args m.h = some (m.r, m.h')

def MsOK (P : Program) (G : List Nat) : List M → Prop
  | [] => True
  | m :: l => MOK P G m ∧ MsOK P G l

theorem memo_ok {P : Program} {G : List Nat} : ∀ {l : List M}, MsOK P G l → CallOK P G (memo l) ∧ Mono (memo l)
  | [], _ => ⟨(fun _ _ _ _ _ e => by simp [memo] at e), (fun _ _ _ _ _ e => by simp [memo] at e)⟩
  | m :: l, ⟨⟨call, hc, hm, e⟩, ok⟩ => by
    have ih := memo_ok ok
    have key : ∀ f args h r h', memo (m :: l) f args h = some (r, h') → call f args h = some (r, h') ∨ memo l f args h = some (r, h') := by
      intro f args h r h' e'
      simp only [memo, cond_eq_ite] at e'
      split at e'
      · rename_i t
        split at e'
        · rename_i t2
          simp only [Bool.and_eq_true, Nat.beq_eq] at t t2
          have h1 := V.sames_eq t2.1
          have h2 := H.same_eq t2.2
          rw [t.1, h1, h2] at e
          rw [e]; exact .inl e'
        · exact .inr e'
      · exact .inr e'
    refine ⟨fun f args h r h' e' => ?_, fun f args h r h' e' => ?_⟩
    · rcases key _ _ _ _ _ e' with e' | e'
      · exact hc _ _ _ _ _ e'
      · exact ih.1 _ _ _ _ _ e'
    · rcases key _ _ _ _ _ e' with e' | e'
      · exact hm _ _ _ _ _ e'
      · exact ih.2 _ _ _ _ _ e'

theorem evM_mono {mm : Call} (hmm : Mono mm) (tab : Nat → Option F) (lf : Nat) : ∀ n, Mono (evM mm tab lf n) := by
  intro n
  induction n with
  | zero => intro f args h r h' e; simp [evM] at e
  | succ n ih =>
    intro f args h r h' e
    simp only [evM] at e
    split at e
    · rename_i x hx; cases e; exact hmm _ _ _ _ _ hx
    · split at e
      · cases e
      · exact runF_nb ih e

/-- the evaluator's word, with known answers -/
theorem evM_sound {P : Program} {G : List Nat} (hmix : P.follows .mixedOrders = true) {tab : Nat → Option F} (ht : TabOK P G tab) (lf : Nat) {mm : Call} (hmm : CallOK P G mm) (hmo : Mono mm) : ∀ n, CallOK P G (evM mm tab lf n) := by
  intro n
  induction n with
  | zero => intro f args h r h' hv; simp [evM] at hv
  | succ n ih =>
    intro f args h r h' hv
    simp only [evM] at hv
    split at hv
    · rename_i x hx; cases hv; exact hmm _ _ _ _ _ hx
    · split at hv
      · cases hv
      rename_i F hF
      obtain ⟨fn, hs, h1, h2, h3⟩ := ht f F hF
      refine ⟨⟨fn, h1, ?_, h3⟩, fun φ W vs g ha w => func_ok ih hmix (plan_ok (evM_mono hmo tab lf n) ih) h1 h2 hv g ha w⟩
      unfold cF at h2
      split at h2
      · cases h2
      · rename_i b hb; rw [hb]; rfl

/-- one known answer more -/
theorem MOK.mk' {P : Program} {G : List Nat} (hmix : P.follows .mixedOrders = true) {tab : Nat → Option F} (ht : TabOK P G tab) {lf n : Nat} {l : List M} (ok : MsOK P G l) {m : M} (e : evM (memo l) tab lf n m.f m.args m.h = some (m.r, m.h')) : MOK P G m :=
  ⟨_, evM_sound hmix ht lf (memo_ok ok).1 (memo_ok ok).2 n, evM_mono (memo_ok ok).2 tab lf n, e⟩

/-! the table -/

def FOK (P : Program) (G : List Nat) (f : Nat) (F : F) : Prop := ∃ fn hs, P.funcs[f]? = some fn ∧ cF P G fn hs = some F ∧ (fn.name == "runtime.NumGoroutine") = false

def TAll {α : Type} (p : Nat → α → Prop) : T α → Prop
  | .e => True
  | .n l v r => (∀ x, v = some x → p 0 x) ∧ TAll (fun j => p (2 * j + 1)) l ∧ TAll (fun j => p (2 * j + 2)) r

theorem TAll.get {α : Type} : ∀ {t : T α} {p : Nat → α → Prop}, TAll p t → ∀ {k : Nat} {x : α}, t.get k = some x → p k x
  | .e, _, _, _, _, e => by cases e
  | .n l v r, p, h, k, x, e => by
    rw [T.get_n] at e
    split at e
    · rename_i hk; subst hk; exact h.1 x e
    · split at e
      · have := TAll.get h.2.1 e
        rwa [show 2 * (k / 2) + 1 = k by omega] at this
      · have := TAll.get h.2.2 e
        rwa [show 2 * (k / 2 - 1) + 2 = k by omega] at this

theorem tab_ok {P : Program} {G : List Nat} {t : T F} (h : TAll (FOK P G) t) : TabOK P G t.get := fun _ _ e => h.get e

theorem some_inj {α : Type} {p : α → Prop} {a : α} (h : p a) : ∀ x, some a = some x → p x := fun _ e => by cases e; exact h
theorem none_inj {α : Type} {p : α → Prop} : ∀ x, (none : Option α) = some x → p x := fun _ e => by cases e

end
end Go.Ev
