/- A part of the evaluator and of the proof that its word holds in the model (EvRel). -/
import Derived.Test.YtfahdklcgidmmaaGreatDoorEvComp
namespace Go.Ev

/-! trees -/

theorem T.get_e {α : Type} (k : Nat) : (T.e : T α).get k = none := rfl
theorem bool_rec {β : Type} (x y : β) (b : Bool) : (Bool.rec (motive := fun _ => β) x y b) = if b = true then y else x := by cases b <;> rfl

theorem T.get_n {α : Type} (l : T α) (v : Option α) (r : T α) (k : Nat) :
    (T.n l v r).get k = if k = 0 then v else if k % 2 = 1 then l.get (k / 2) else r.get (k / 2 - 1) := by
  have h : (T.n l v r).get k = Bool.rec (motive := fun _ => Option α) (Bool.rec (motive := fun _ => Option α) (r.get (Nat.pred (Nat.div k 2))) (l.get (Nat.div k 2)) (Nat.beq (Nat.mod k 2) 1)) v (Nat.beq k 0) := rfl
  rw [h, bool_rec, bool_rec]
  simp only [Nat.beq_eq]
  rfl

theorem T.setF_z {α : Type} (x : α) (t : T α) (k : Nat) : T.setF x 0 t k = t := rfl
theorem T.setF_e {α : Type} (x : α) (f k : Nat) : T.setF x (f + 1) .e k =
    if k = 0 then .n .e (some x) .e else if k % 2 = 1 then .n (T.setF x f .e (k / 2)) none .e else .n .e none (T.setF x f .e (k / 2 - 1)) := by
  have h : T.setF x (f + 1) .e k = Bool.rec (motive := fun _ => T α) (Bool.rec (motive := fun _ => T α) (.n .e none (T.setF x f .e (Nat.pred (Nat.div k 2)))) (.n (T.setF x f .e (Nat.div k 2)) none .e)  (Nat.beq (Nat.mod k 2) 1)) (.n .e (some x) .e) (Nat.beq k 0) := rfl
  rw [h, bool_rec, bool_rec]
  simp only [Nat.beq_eq]
  rfl
theorem T.setF_n {α : Type} (x : α) (f k : Nat) (l : T α) (v : Option α) (r : T α) : T.setF x (f + 1) (.n l v r) k =
    if k = 0 then .n l (some x) r else if k % 2 = 1 then .n (T.setF x f l (k / 2)) v r else .n l v (T.setF x f r (k / 2 - 1)) := by
  have h : T.setF x (f + 1) (.n l v r) k = Bool.rec (motive := fun _ => T α) (Bool.rec (motive := fun _ => T α) (.n l v (T.setF x f r (Nat.pred (Nat.div k 2)))) (.n (T.setF x f l (Nat.div k 2)) v r)  (Nat.beq (Nat.mod k 2) 1)) (.n l (some x) r) (Nat.beq k 0) := rfl
  rw [h, bool_rec, bool_rec]
  simp only [Nat.beq_eq]
  rfl

theorem T.get_setF {α : Type} (x : α) : ∀ (f : Nat) (t : T α) (k j : Nat), k < f → (T.setF x f t k).get j = if j = k then some x else t.get j := by
  intro f
  induction f with
  | zero => intro t k j h; omega
  | succ f ih =>
    intro t k j h
    cases t with
    | e =>
      rw [T.setF_e]
      split
      · rename_i hk; subst hk
        rw [T.get_n]; simp only [T.get_e]
        (repeat' split) <;> simp_all
      · split
        · rw [T.get_n, ih _ _ _ (by omega)]; simp only [T.get_e]
          (repeat' split) <;> first | rfl | (exfalso; omega)
        · rw [T.get_n, ih _ _ _ (by omega)]; simp only [T.get_e]
          (repeat' split) <;> first | rfl | (exfalso; omega)
    | n l v r =>
      rw [T.setF_n]
      split
      · rename_i hk; subst hk
        rw [T.get_n, T.get_n]
        (repeat' split) <;> first | rfl | (exfalso; omega)
      · split
        · rw [T.get_n, T.get_n, ih _ _ _ (by omega)]
          (repeat' split) <;> first | rfl | (exfalso; omega)
        · rw [T.get_n, T.get_n, ih _ _ _ (by omega)]
          (repeat' split) <;> first | rfl | (exfalso; omega)

theorem T.get_set {α : Type} (t : T α) (k : Nat) (x : α) (j : Nat) : (t.set k x).get j = if j = k then some x else t.get j :=
  T.get_setF x (k + 1) t k j (by omega)

/-! lists -/

theorem len_eq {α : Type} (l : List α) : len l = l.length := by induction l <;> simp_all [len]
theorem nth_eq {α : Type} (l : List α) (n : Nat) : nth l n = l[n]? := by
  induction l generalizing n with
  | nil => simp [nth]
  | cons x xs ih =>
    simp only [nth, cond_eq_ite, Nat.beq_eq]
    split
    · rename_i h; subst h; rfl
    · rename_i h
      obtain ⟨m, rfl⟩ : ∃ m, n = m + 1 := ⟨n - 1, by omega⟩
      simp [ih]
theorem dropN_eq {α : Type} (l : List α) (n : Nat) : dropN l n = l.drop n := by
  induction l generalizing n with
  | nil => simp [dropN]
  | cons x xs ih =>
    simp only [dropN, cond_eq_ite, Nat.beq_eq]
    split
    · rename_i h; subst h; rfl
    · rename_i h
      obtain ⟨m, rfl⟩ : ∃ m, n = m + 1 := ⟨n - 1, by omega⟩
      simp [ih]
theorem takeN_eq {α : Type} (l : List α) (n : Nat) : takeN l n = l.take n := by
  induction l generalizing n with
  | nil => simp [takeN]
  | cons x xs ih =>
    simp only [takeN, cond_eq_ite, Nat.beq_eq]
    split
    · rename_i h; subst h; rfl
    · rename_i h
      obtain ⟨m, rfl⟩ : ∃ m, n = m + 1 := ⟨n - 1, by omega⟩
      simp [ih]
theorem app_eq {α : Type} (x y : List α) : app x y = x ++ y := by induction x <;> simp_all [app]

theorem length_putN {α : Type} (l : List α) (n : Nat) (m : List α) : (putN l n m).length = l.length := by
  induction l generalizing n m with
  | nil => simp [putN]
  | cons x xs ih =>
    simp only [putN, cond_eq_ite, Nat.beq_eq]
    split
    · cases m <;> simp [ih]
    · simp [ih]

/-- what stands in an overwritten list -/
theorem get_putN {α : Type} (l : List α) (n : Nat) (m : List α) (j : Nat) :
    (putN l n m)[j]? = if n ≤ j ∧ j < n + m.length ∧ j < l.length then m[j - n]? else l[j]? := by
  induction l generalizing n m j with
  | nil => simp [putN]
  | cons x xs ih =>
    simp only [putN, cond_eq_ite, Nat.beq_eq]
    split
    · rename_i h; subst h
      cases m with
      | nil => simp
      | cons y ys =>
        cases j with
        | zero => simp
        | succ j =>
          simp only [List.getElem?_cons_succ, ih, List.length_cons, Nat.sub_zero]
          split
          · rw [if_pos (by omega)]
          · rw [if_neg (by omega)]
    · rename_i h
      obtain ⟨q, rfl⟩ : ∃ q, n = q + 1 := ⟨n - 1, by omega⟩
      cases j with
      | zero => simp
      | succ j =>
        simp only [List.getElem?_cons_succ, ih, List.length_cons, Nat.add_sub_cancel]
        split
        · rw [if_pos (by omega)]; congr 1; omega
        · rw [if_neg (by omega)]

/-! the relation -/

/-- where an abstract block lies: the block, the offset of its first cell, how many cells there are from there on -/
structure Phi where
  f : Nat → Option (Nat × Nat × Nat)
  /-- which blocks of memory are only read -/
  ro : Nat → Bool

instance : CoeFun Phi (fun _ => Nat → Option (Nat × Nat × Nat)) := ⟨Phi.f⟩

theorem Phi.eq {φ ψ : Phi} (h : ∀ b, φ b = ψ b) (r : φ.ro = ψ.ro) : φ = ψ := by
  cases φ; cases ψ
  simp only at h r
  rw [r, (funext h : _ = _)]

structure Phi.le (φ ψ : Phi) : Prop where
  sub : ∀ b x, φ b = some x → ψ b = some x
  ro : ψ.ro = φ.ro

/-- can a value stand in a cell? -/
def one : V → Bool
  | .a _ => false
  | .t _ => false
  | .u => false
  | .z => false
  | _ => true

mutual
def RV (φ : Phi) : V → Value → Prop
  | .u, v => v = .tuple #[]
  | .z, _ => False
  | .b x, v => v = .bool x
  | .i k n, v => v = .int k n
  | .s l, v => ∃ s : ByteArray, v = .string s ∧ s.data.toList.map (·.toNat) = l
  | .pn, v => v = .pointer none
  | .p b o, v => ∃ x, φ b = some x ∧ v = .pointer (some ⟨x.1, x.2.1 + o, none⟩)
  | .sn, v => v = .slice none 0 0
  | .sl b o l c sz ex, v => ∃ x o' c', φ b = some x ∧ v = .slice (some ⟨x.1, o', none⟩) l c' ∧ l ≤ c ∧ c ≤ c' ∧ (ex = true → c' = c) ∧ 1 ≤ sz ∧
      (c' = 0 ∨ (o' = x.2.1 + o ∧ o + c' * sz ≤ x.2.2))
  | .fn f a b, v => ∃ A B, v = .func (.func f) A B ∧ RVs φ a A.toList ∧ RVs φ b B.toList
  | .a cs, v => ∃ A, v = .agg A ∧ RVs φ cs A.toList ∧ cs.all one = true
  | .t vs, v => ∃ A, v = .tuple A ∧ RVs φ vs A.toList
  | .m, v => ∃ r, v = .map (some r)
  | .c w, v => v = w ∧ (w = .nilFunc ∨ w = .nilIface ∨ w = .map none)
def RVs (φ : Phi) : List V → List Value → Prop
  | [], l => l = []
  | v :: vs, l => ∃ x xs, l = x :: xs ∧ RV φ v x ∧ RVs φ vs xs
end

mutual
theorem RV.mono {φ ψ : Phi} (h : φ.le ψ) : ∀ (v : V) (x : Value), RV φ v x → RV ψ v x
  | .u, _, r => by simpa [RV] using r
  | .z, _, r => by simp [RV] at r
  | .b _, _, r => by simpa [RV] using r
  | .i _ _, _, r => by simpa [RV] using r
  | .s _, _, r => by simpa [RV] using r
  | .pn, _, r => by simpa [RV] using r
  | .p b o, _, r => by
    simp only [RV] at r ⊢
    obtain ⟨x, hx, rfl⟩ := r
    exact ⟨x, h.sub _ _ hx, rfl⟩
  | .sn, _, r => by simpa [RV] using r
  | .sl b o l c sz ex, _, r => by
    simp only [RV] at r ⊢
    obtain ⟨x, o', c', hx, rest⟩ := r
    exact ⟨x, o', c', h.sub _ _ hx, rest⟩
  | .fn f a b, _, r => by
    simp only [RV] at r ⊢
    obtain ⟨A, B, e, ha, hb⟩ := r
    exact ⟨A, B, e, RVs.mono h _ _ ha, RVs.mono h _ _ hb⟩
  | .a cs, _, r => by
    simp only [RV] at r ⊢
    obtain ⟨A, e, ha, hb⟩ := r
    exact ⟨A, e, RVs.mono h _ _ ha, hb⟩
  | .t vs, _, r => by
    simp only [RV] at r ⊢
    obtain ⟨A, e, ha⟩ := r
    exact ⟨A, e, RVs.mono h _ _ ha⟩
  | .m, _, r => by simpa [RV] using r
  | .c _, _, r => by simpa [RV] using r
theorem RVs.mono {φ ψ : Phi} (h : φ.le ψ) : ∀ (vs : List V) (xs : List Value), RVs φ vs xs → RVs ψ vs xs
  | [], _, r => by simpa [RVs] using r
  | v :: vs, _, r => by
    simp only [RVs] at r ⊢
    obtain ⟨x, xs, e, hv, hvs⟩ := r
    exact ⟨x, xs, e, RV.mono h _ _ hv, RVs.mono h _ _ hvs⟩
end

theorem RVs.length {φ : Phi} {vs : List V} {xs : List Value} (h : RVs φ vs xs) : vs.length = xs.length := by
  induction vs generalizing xs with
  | nil => simp only [RVs] at h; subst h; rfl
  | cons v vs ih =>
    simp only [RVs] at h
    obtain ⟨x, ys, rfl, _, h⟩ := h
    simp [ih h]

theorem RVs.get {φ : Phi} {vs : List V} {xs : List Value} (h : RVs φ vs xs) {j : Nat} {v : V} (hv : vs[j]? = some v) : ∃ x, xs[j]? = some x ∧ RV φ v x := by
  induction vs generalizing xs j with
  | nil => simp at hv
  | cons w vs ih =>
    simp only [RVs] at h
    obtain ⟨x, ys, rfl, hw, h⟩ := h
    cases j with
    | zero => simp at hv; subst hv; exact ⟨x, rfl, hw⟩
    | succ j => simp at hv; simpa using ih h hv

theorem RVs.of_get {φ : Phi} {vs : List V} {xs : List Value} (hl : vs.length = xs.length) (h : ∀ (j : Nat) (v : V) (x : Value), vs[j]? = some v → xs[j]? = some x → RV φ v x) : RVs φ vs xs := by
  induction vs generalizing xs with
  | nil => cases xs <;> simp_all [RVs]
  | cons v vs ih =>
    cases xs with
    | nil => simp at hl
    | cons x xs =>
      simp only [RVs]
      exact ⟨x, xs, rfl, h 0 v x rfl rfl, ih (by simpa using hl) fun j v x hv hx => h (j + 1) v x (by simpa using hv) (by simpa using hx)⟩

theorem RVs.append {φ : Phi} {a b : List V} {x y : List Value} (h : RVs φ a x) (k : RVs φ b y) : RVs φ (a ++ b) (x ++ y) := by
  induction a generalizing x with
  | nil => simp only [RVs] at h; subst h; simpa using k
  | cons v vs ih =>
    simp only [RVs] at h
    obtain ⟨w, ws, rfl, hv, h⟩ := h
    simp only [List.cons_append, RVs]
    exact ⟨w, ws ++ y, rfl, hv, ih h⟩

theorem RVs.take {φ : Phi} {a : List V} {x : List Value} (h : RVs φ a x) (n : Nat) : RVs φ (a.take n) (x.take n) :=
  .of_get (by simp [h.length]) fun j v y hv hy => by
    rw [List.getElem?_take] at hv hy
    split at hv
    · rename_i hj
      rw [if_pos hj] at hy
      obtain ⟨z, hz, hr⟩ := h.get hv
      rw [hz] at hy; cases hy; exact hr
    · cases hv

theorem RVs.drop {φ : Phi} {a : List V} {x : List Value} (h : RVs φ a x) (n : Nat) : RVs φ (a.drop n) (x.drop n) :=
  .of_get (by simp [h.length]) fun j v y hv hy => by
    rw [List.getElem?_drop] at hv hy
    obtain ⟨z, hz, hr⟩ := h.get hv
    rw [hz] at hy; cases hy; exact hr

/-- the temporaries of a frame -/
structure REnv (nt : Nat) (φ : Phi) (env : Env) (tmps : Array Value) : Prop where
  size : tmps.size = nt
  get : ∀ t v, env.get t = some v → RV φ v (tmps.getD t undef)

theorem REnv.mono {nt : Nat} {φ ψ : Phi} {env : Env} {tmps : Array Value} (h : φ.le ψ) (r : REnv nt φ env tmps) : REnv nt ψ env tmps :=
  ⟨r.size, fun t v hv => RV.mono h _ _ (r.get t v hv)⟩

theorem REnv.put {nt : Nat} {φ : Phi} {env : Env} {a : Act} (r : REnv nt φ env a.tmps) {d : Option Nat} (hd : dstOk nt d = true) {v : V} {x : Value} (hv : RV φ v x) :
    REnv nt φ (putE env d v) (a.put d x).tmps := by
  cases d with
  | none => exact r
  | some d =>
    simp only [dstOk, Nat.ble_eq] at hd
    have hsz : d < a.tmps.size := by rw [r.size]; omega
    refine ⟨by simp [Act.put, r.size], fun t v' h => ?_⟩
    simp only [putE, T.get_set] at h
    simp only [Act.put]
    split at h
    · rename_i e; subst e
      cases h
      simpa [Array.getD, hsz] using hv
    · rename_i e
      have := r.get t v' h
      simpa [Array.getElem?_setIfInBounds, Ne.symm e] using this

theorem act_put_defers (a : Act) (d : Option Nat) (x : Value) : (a.put d x).defers = a.defers := by cases d <;> rfl

/-- the variables that are listed lie where they lie -/
def GOK (G : List Nat) (φ : Phi) : Prop := ∀ g, g ∈ G → ∃ n, φ g = some (g, 0, n)

theorem GOK.mono {G : List Nat} {φ ψ : Phi} (h : φ.le ψ) (g : GOK G φ) : GOK G ψ := fun x hx => let ⟨n, hn⟩ := g x hx; ⟨n, h.sub _ _ hn⟩

/-! constants and operands -/

theorem toV1_ok {v : Value} {w : V} (h : toV1 v = some w) (φ : Phi) : RV φ w v ∧ one w = true := by
  unfold toV1 at h
  split at h <;> cases h <;> simp [RV, one]

theorem mapO_get {α β : Type} {f : α → Option β} : ∀ {l : List α} {m : List β}, mapO f l = some m → m.length = l.length ∧ ∀ (j : Nat) (x : α) (y : β), l[j]? = some x → m[j]? = some y → f x = some y := by
  intro l
  induction l with
  | nil => intro m h; simp [mapO] at h; subst h; simp
  | cons a l ih =>
    intro m h
    simp only [mapO] at h
    split at h
    · cases h
    · rename_i b hb
      split at h
      · cases h
      · rename_i ys hys
        cases h
        obtain ⟨h1, h2⟩ := ih hys
        refine ⟨by simp [h1], fun j x y hx hy => ?_⟩
        cases j with
        | zero => simp at hx hy; subst hx; subst hy; exact hb
        | succ j => simp at hx hy; exact h2 j x y hx hy

theorem mapO_all {α β : Type} {f : α → Option β} {p : β → Bool} (hp : ∀ x y, f x = some y → p y = true) : ∀ {l : List α} {m : List β}, mapO f l = some m → m.all p = true := by
  intro l
  induction l with
  | nil => intro m h; simp [mapO] at h; subst h; rfl
  | cons a l ih =>
    intro m h
    simp only [mapO] at h
    split at h
    · cases h
    · rename_i b hb
      split at h
      · cases h
      · rename_i ys hys
        cases h
        simp [hp _ _ hb]
        simpa using ih hys

theorem toV_ok {v : Value} {w : V} (h : toV v = some w) (φ : Phi) : RV φ w v := by
  unfold toV at h
  split at h
  · rename_i cs
    split at h
    · rename_i l hl
      cases h
      simp only [RV]
      obtain ⟨h1, h2⟩ := mapO_get hl
      exact ⟨cs, rfl, .of_get h1 fun j v x hv hx => (toV1_ok (h2 j x v hx hv) φ).1, mapO_all (fun x y hy => (toV1_ok hy φ).2) hl⟩
    · cases h
  · rename_i vs
    split at h
    · rename_i e
      cases h
      simp only [RV]
      have : vs = #[] := by
        apply Array.ext'
        simpa using e
      rw [this]
    · cases h
  · exact (toV1_ok h φ).1

theorem toO_ok {G : List Nat} {x : Operand} {o : O} (h : toO G x = some o) {nt : Nat} {φ : Phi} {env : Env} {a : Act} (r : REnv nt φ env a.tmps) (g : GOK G φ) {v : V} (hv : o.ev env = some v) :
    RV φ v (a.eval x) := by
  cases x with
  | tmp t =>
    simp only [toO] at h; cases h
    exact r.get t v hv
  | const c =>
    simp only [toO] at h
    split at h
    · rename_i w hw
      cases h
      simp only [O.ev] at hv; cases hv
      exact toV_ok hw φ
    · cases h
  | global n =>
    simp only [toO, cond_eq_ite] at h
    split at h
    · rename_i hg
      cases h
      simp only [O.ev] at hv; cases hv
      simp only [List.any_eq_true, Nat.beq_eq] at hg
      obtain ⟨x, hx, e⟩ := hg
      subst e
      obtain ⟨m, hm⟩ := g n hx
      simp only [RV]
      exact ⟨_, hm, by simp [Act.eval]⟩
    · cases h
  | func f =>
    simp only [toO] at h; cases h
    simp only [O.ev] at hv; cases hv
    simp only [RV, RVs]
    exact ⟨#[], #[], rfl, rfl, rfl⟩

theorem toOs_ok {G : List Nat} {nt : Nat} {φ : Phi} {env : Env} {a : Act} (r : REnv nt φ env a.tmps) (g : GOK G φ) : ∀ {l : List Operand} {m : List O} {vs : List V}, toOs G l = some m → evs env m = some vs →
    RVs φ vs (l.map a.eval) := by
  intro l
  induction l with
  | nil => intro m vs h hv; simp [toOs, mapO] at h; subst h; simp [evs] at hv; subst hv; simp [RVs]
  | cons x l ih =>
    intro m vs h hv
    simp only [toOs, mapO] at h
    split at h
    · cases h
    · rename_i o ho
      split at h
      · cases h
      · rename_i os hos
        cases h
        simp only [evs] at hv
        split at hv
        · cases hv
        · rename_i w hw
          split at hv
          · cases hv
          · rename_i ws hws
            cases hv
            simp only [List.map_cons, RVs]
            exact ⟨_, _, rfl, toO_ok ho r g hw, ih hos hws⟩
end Go.Ev
