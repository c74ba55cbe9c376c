/- The plain law. -/
import Derived.Test.YtoppeebbioalcaaGreatDoorN
set_option linter.all false
namespace Go.Ev.Pl
noncomputable section
theorem loopN_ok {σ ρ : Type} {step : σ → Option (σ ⊕ ρ)} (Inv : σ → Prop) (μ : σ → Nat) (Post : ρ → Prop)
    (hs : ∀ s,Inv s → (∃ s',step s = some (.inl s') ∧ Inv s' ∧ μ s' < μ s) ∨ (∃ r,step s = some (.inr r) ∧ Post r)) :
    ∀ (n : Nat) (s : σ),Inv s → μ s < n → ∃ r,loopN step n s = some r ∧ Post r:=by
  intro n
  induction n with
  | zero => intro s _ h; omega
  | succ n ih =>
    intro s hi hm
    rcases hs s hi with ⟨s',e,hi',hlt⟩ | ⟨r,e,hp⟩
    · obtain ⟨r,e2,hp⟩:=ih s' hi' (by omega)
      exact ⟨r,by simp only [loopN,e]; exact e2,hp⟩
    · exact ⟨r,by simp only [loopN,e],hp⟩
def maxL : Nat:=9223372036854775807
theorem LF_eq : LF = 18446744073709551616:=rfl
theorem wI_nat {k : Nat} (h : k ≤ maxL) : wI (k : Int) = (k : Int):=by
  show (bif Nat.ble k (kmax .i64) then (k : Int) else _) = _
  have : Nat.ble k (kmax .i64) = true:=by rw [Nat.ble_eq]; exact h
  rw [this]; rfl
theorem wI_succ {k : Nat} (h : k < maxL) : wI ((k : Int) + 1) = ((k + 1 : Nat) : Int):=wI_nat (k:=k + 1) h
theorem natI_nat (k : Nat) : natI (k : Int) = some k:=rfl
theorem finI_nat {n k : Nat} (h : k < n) : finI n (k : Int) = some ⟨k,h⟩:=by
  simp [finI,natI_nat,h]
theorem wI_pred {k : Nat} (h : 0 < k) (h2 : k ≤ maxL) : wI ((k : Int) - 1) = ((k - 1 : Nat) : Int):=by
  have : ((k : Int) - 1) = ((k - 1 : Nat) : Int):=by omega
  rw [this]; exact wI_nat (by omega)
theorem dlt_nat (a b : Nat) : decide ((a : Int) < (b : Int)) = decide (a < b):=by
  by_cases h : a < b
  · rw [decide_eq_true h]; exact decide_eq_true (by omega)
  · rw [decide_eq_false h]; exact decide_eq_false (by omega)
theorem loopI {ρ : Type} {step : Int → Option (Int ⊕ ρ)} {L k0 : Nat} (Post : ρ → Prop) (hL : L ≤ maxL) (hk : k0 ≤ L)
    (hin : ∀ k : Nat,k0 ≤ k → k < L → step (k : Int) = some (.inl ((k + 1 : Nat) : Int)) ∨ ∃ r,step (k : Int) = some (.inr r) ∧ Post r)
    (hend : ∃ r,step (L : Int) = some (.inr r) ∧ Post r) : ∃ r,loopN step LF (k0 : Int) = some r ∧ Post r:=by
  refine loopN_ok (Inv:=fun s => ∃ k : Nat,s = (k : Int) ∧ k0 ≤ k ∧ k ≤ L) (μ:=fun s => L - s.toNat) Post ?_ LF (k0 : Int) ⟨k0,rfl,Nat.le_refl _,hk⟩ (by rw [LF_eq]; simp only [maxL] at hL; omega)
  rintro s ⟨k,rfl,h1,h2⟩
  by_cases hlt : k < L
  · rcases hin k h1 hlt with e | ⟨r,e,hp⟩
    · exact .inl ⟨_,e,⟨k + 1,rfl,by omega,hlt⟩,by simp only [Int.toNat_natCast]; omega⟩
    · exact .inr ⟨r,e,hp⟩
  · obtain rfl : k = L:=by omega
    exact .inr hend
theorem loopS {σ ρ : Type} {step : σ → Option (σ ⊕ ρ)} (at_ : σ → Nat → Prop) {L k0 : Nat} {s0 : σ} (Post : ρ → Prop) (hL : L ≤ maxL) (hk : k0 ≤ L) (h0 : at_ s0 k0)
    (hin : ∀ (s : σ) (k : Nat),at_ s k → k0 ≤ k → k < L → (∃ s',step s = some (.inl s') ∧ at_ s' (k + 1)) ∨ ∃ r,step s = some (.inr r) ∧ Post r)
    (hend : ∀ s,at_ s L → ∃ r,step s = some (.inr r) ∧ Post r) : ∃ r,loopN step LF s0 = some r ∧ Post r:=by
  have key : ∀ (m : Nat) (n : Nat) (s : σ) (k : Nat),at_ s k → k0 ≤ k → k + m = L → m < n → ∃ r,loopN step n s = some r ∧ Post r:=by
    intro m
    induction m with
    | zero =>
      intro n s k h1 h2 h3 h4
      obtain ⟨n,rfl⟩ : ∃ q,n = q + 1:=⟨n - 1,by omega⟩
      obtain rfl : k = L:=by omega
      obtain ⟨r,e,hp⟩:=hend s h1
      exact ⟨r,by simp only [loopN,e],hp⟩
    | succ m ih =>
      intro n s k h1 h2 h3 h4
      obtain ⟨n,rfl⟩ : ∃ q,n = q + 1:=⟨n - 1,by omega⟩
      rcases hin s k h1 h2 (by omega) with ⟨s',e,h'⟩ | ⟨r,e,hp⟩
      · obtain ⟨r,e2,hp⟩:=ih n s' (k + 1) h' (by omega) (by omega) (by omega)
        exact ⟨r,by simp only [loopN,e]; exact e2,hp⟩
      · exact ⟨r,by simp only [loopN,e],hp⟩
  exact key (L - k0) LF s0 k0 h0 (Nat.le_refl _) (by omega) (by rw [LF_eq]; simp only [maxL] at hL; omega)
theorem get_some {α : Type} {l : List α} {k : Nat} (h : k < l.length) : ∃ x,l[k]? = some x ∧ x ∈ l:=⟨l[k],List.getElem?_eq_getElem h,List.getElem_mem h⟩
theorem ok97 (a b c : Int) : ∃ r,n97 a b c = some r:=by
  unfold n97; cases decide (a < b) <;> exact ⟨_,rfl⟩
theorem bind_ok {α β : Type} {x : Option α} {f : α → Option β} (hx : ∃ a,x = some a) (hf : ∀ a,x = some a → ∃ b,f a = some b) : ∃ b,x.bind f = some b:=by
  obtain ⟨a,e⟩:=hx
  obtain ⟨b,e2⟩:=hf a e
  exact ⟨b,by rw [e]; exact e2⟩
theorem cond_ok {α : Type} {c : Bool} {x y : Option α} (hx : c = true → ∃ a,x = some a) (hy : c = false → ∃ a,y = some a) : ∃ a,(bif c then x else y) = some a:=by
  cases c
  · exact hy rfl
  · exact hx rfl
theorem some_ok {α : Type} (a : α) : ∃ b,some a = some b:=⟨a,rfl⟩
theorem ok52 (c : GConf) : ∃ r,n52 c = some r:=by
  have h0 : ∀ c,∃ r,n52_0 c = some r:=fun c => by
    unfold n52_0
    repeat' first | exact some_ok _ | refine cond_ok (fun _ => ?_) (fun _ => ?_) | refine bind_ok (ok97 _ _ _) (fun _ _ => ?_)
  have h1 : ∀ c,∃ r,n52_1 c = some r:=fun c => by
    unfold n52_1
    repeat' first | exact some_ok _ | refine cond_ok (fun _ => ?_) (fun _ => ?_) | refine bind_ok (ok97 _ _ _) (fun _ _ => ?_)
  have h2 : ∀ c,∃ r,n52_2 c = some r:=fun c => by
    unfold n52_2
    repeat' first | exact some_ok _ | refine cond_ok (fun _ => ?_) (fun _ => ?_) | refine bind_ok (ok97 _ _ _) (fun _ _ => ?_)
  have h3 : ∀ c,∃ r,n52_3 c = some r:=fun c => by
    unfold n52_3
    repeat' first | exact some_ok _ | refine cond_ok (fun _ => ?_) (fun _ => ?_) | refine bind_ok (ok97 _ _ _) (fun _ _ => ?_)
  unfold n52
  repeat' first | exact some_ok _ | refine cond_ok (fun _ => ?_) (fun _ => ?_) | refine bind_ok (h0 _) (fun _ _ => ?_) | refine bind_ok (h1 _) (fun _ _ => ?_) | refine bind_ok (h2 _) (fun _ _ => ?_) | refine bind_ok (h3 _) (fun _ _ => ?_)
theorem ok41 (c : GCore) : ∃ r,n41 c = some r:=by
  unfold n41
  refine bind_ok (ok52 _) (fun _ _ => ?_)
  repeat' first | exact some_ok _ | refine cond_ok (fun _ => ?_) (fun _ => ?_)
theorem at_ok {α β : Type} {l : List α} {k : Nat} {f : α → Option β} (h : k < l.length) (hf : ∀ x,l[k]? = some x → ∃ b,f x = some b) : ∃ b,(natI (k : Int)).bind (fun i => (l[i]?).bind f) = some b:=by
  obtain ⟨x,e,_⟩:=get_some h
  obtain ⟨b,e2⟩:=hf x e
  exact ⟨b,by rw [natI_nat,Option.bind_some,e]; exact e2⟩
theorem nat_ok {β : Type} {k : Nat} {f : Nat → Option β} (hf : ∃ b,f k = some b) : ∃ b,(natI (k : Int)).bind f = some b:=by
  rw [natI_nat]; exact hf
theorem fin_ok {β : Type} {n k : Nat} {f : Fin n → Option β} (h : k < n) (hf : ∃ b,f ⟨k,h⟩ = some b) : ∃ b,(finI n (k : Int)).bind f = some b:=by
  rw [finI_nat h]; exact hf
theorem loop_ok {ρ : Type} {step : Int → Option (Int ⊕ ρ)} {L k0 : Nat} (hL : L ≤ maxL) (hk : k0 ≤ L)
    (hin : ∀ k : Nat,k0 ≤ k → k < L → ∃ r,step (k : Int) = some r ∧ ∀ s,r = .inl s → s = ((k + 1 : Nat) : Int))
    (hend : ∃ r,step (L : Int) = some (.inr r)) : ∃ r,loopN step LF (k0 : Int) = some r:=by
  obtain ⟨r,e,_⟩:=loopI (step:=step) (Post:=fun _ => True) hL hk (fun k h1 h2 => by
    obtain ⟨r,e,hr⟩:=hin k h1 h2
    cases r with
    | inl s => exact .inl (by rw [e,hr s rfl])
    | inr r => exact .inr ⟨r,e,trivial⟩) (by obtain ⟨r,e⟩:=hend; exact ⟨r,e,trivial⟩)
  exact ⟨r,e⟩
def Rnd {ρ : Type} (k : Nat) (x : Option (Int ⊕ ρ)) : Prop:=∃ r,x = some r ∧ ∀ s,r = .inl s → s = ((k + 1 : Nat) : Int)
theorem Rnd.inr {ρ : Type} {k : Nat} (r : ρ) : Rnd k (some (.inr r)):=⟨_,rfl,fun s e => by cases e⟩
theorem Rnd.inl {ρ : Type} {k : Nat} (h : k < maxL) : Rnd (ρ:=ρ) k (some (.inl (wI ((k : Int) + 1)))):=⟨_,rfl,fun s e => by cases e; exact wI_succ h⟩
theorem Rnd.bind {α ρ : Type} {k : Nat} {x : Option α} {f : α → Option (Int ⊕ ρ)} (hx : ∃ a,x = some a) (hf : ∀ a,x = some a → Rnd k (f a)) : Rnd k (x.bind f):=by
  obtain ⟨a,e⟩:=hx
  have:=hf a e
  rw [e]; exact this
theorem Rnd.cond {ρ : Type} {k : Nat} {c : Bool} {x y : Option (Int ⊕ ρ)} (hx : c = true → Rnd k x) (hy : c = false → Rnd k y) : Rnd k (bif c then x else y):=by
  cases c
  · exact hy rfl
  · exact hx rfl
theorem Rnd.elim {α β ρ : Type} {k : Nat} {f : α → Option (Int ⊕ ρ)} {g : β → Option (Int ⊕ ρ)} {z : α ⊕ β} (hf : ∀ a,Rnd k (f a)) (hg : ∀ b,Rnd k (g b)) : Rnd k (Sum.elim f g z):=by
  cases z with
  | inl a => exact hf a
  | inr b => exact hg b
theorem Rnd.at {α ρ : Type} {l : List α} {k m : Nat} {f : α → Option (Int ⊕ ρ)} (h : k < l.length) (hf : ∀ x,l[k]? = some x → Rnd m (f x)) : Rnd m ((natI (k : Int)).bind fun i => (l[i]?).bind f):=by
  obtain ⟨x,e,_⟩:=get_some h
  have:=hf x e
  rw [natI_nat,Option.bind_some,e]; exact this
theorem Rnd.fin {ρ : Type} {n k m : Nat} {f : Fin n → Option (Int ⊕ ρ)} (h : k < n) (hf : Rnd m (f ⟨k,h⟩)) : Rnd m ((finI n (k : Int)).bind f):=by
  rw [finI_nat h]; exact hf
theorem elim_ok {α β γ : Type} {f : α → Option γ} {g : β → Option γ} {z : α ⊕ β} (hf : ∀ a,∃ b,f a = some b) (hg : ∀ b,∃ c,g b = some c) : ∃ c,Sum.elim f g z = some c:=by
  cases z with
  | inl a => exact hf a
  | inr b => exact hg b
theorem ok88 (c : GCore) (r : GRen) (hL : c.Rob.length ≤ maxL) : ∃ b,n88 c r = some b:=by
  unfold n88
  refine bind_ok (loop_ok (k0:=0) hL (Nat.zero_le _) (fun k _ hk => ?_) ?_) (fun z _ => elim_ok (fun _ => some_ok _) (fun _ => some_ok _))
  · show Rnd k _
    simp only [n88_0,dlt_nat,decide_eq_true hk,cond_true]
    refine Rnd.bind ?_ (fun _ _ => Rnd.cond (fun _ => Rnd.inr _) (fun _ => Rnd.inl (by omega)))
    unfold n88_1
    exact at_ok hk (fun x _ => cond_ok (fun _ => at_ok hk (fun _ _ => some_ok _)) (fun _ => some_ok _))
  · simp only [n88_0,dlt_nat,Nat.lt_irrefl,decide_false,cond_false]
    exact ⟨_,rfl⟩
end
end Go.Ev.Pl
namespace Go.Ev.Pl
noncomputable section
theorem loopE {ρ : Type} {step : Int → Option (Int ⊕ ρ)} {L : Nat} (r0 : ρ) (hL : L ≤ maxL)
    (hin : ∀ k : Nat,k < L → step (k : Int) = some (.inl ((k + 1 : Nat) : Int)))
    (hend : step (L : Int) = some (.inr r0)) : loopN step LF (0 : Int) = some r0:=by
  obtain ⟨r,e,rfl⟩:=loopI (k0:=0) (fun r => r = r0) hL (Nat.zero_le _) (fun k _ h2 => .inl (hin k h2)) ⟨r0,hend,rfl⟩
  exact e
@[simp] theorem eqA_refl {α : Type} [DecidableEq α] {n : Nat} (a : Arr α n) : Arr.eqA a a = true:=by
  unfold Arr.eqA; simp
@[simp] theorem rConf (a : GConf) : GConf.eq a a = true:=by simp [GConf.eq]
@[simp] theorem rArr25 (a : Arr (BitVec 32) 16) : Arr25.eq a a = true:=by simp [Arr25.eq]
@[simp] theorem rArr37 (a : Arr Int 16) : Arr37.eq a a = true:=by simp [Arr37.eq]
@[simp] theorem rArch (a : GArch) : GArch.eq a a = true:=by simp [GArch.eq]
@[simp] theorem rSave (a : GSave) : GSave.eq a a = true:=by simp [GSave.eq]
@[simp] theorem rGuess (a : GGuess) : GGuess.eq a a = true:=by simp [GGuess.eq]
@[simp] theorem rSlot (a : GSlot) : GSlot.eq a a = true:=by simp [GSlot.eq]
@[simp] theorem rInst (a : GInst) : GInst.eq a a = true:=by simp [GInst.eq]
@[simp] theorem rUop (a : GUop) : GUop.eq a a = true:=by simp [GUop.eq]
@[simp] theorem rRen (a : GRen) : GRen.eq a a = true:=by simp [GRen.eq]
@[simp] theorem rRob (a : GRob) : GRob.eq a a = true:=by simp [GRob.eq]
@[simp] theorem rFlight (a : GFlight) : GFlight.eq a a = true:=by simp [GFlight.eq]
@[simp] theorem rIq (a : GIq) : GIq.eq a a = true:=by simp [GIq.eq]
@[simp] theorem rWay (a : GWay) : GWay.eq a a = true:=by simp [GWay.eq]
@[simp] theorem rPte (a : GPte) : GPte.eq a a = true:=by simp [GPte.eq]
@[simp] theorem rTlb (a : GTlb) : GTlb.eq a a = true:=by simp [GTlb.eq]
@[simp] theorem rLq (a : GLq) : GLq.eq a a = true:=by simp [GLq.eq]
@[simp] theorem rSq (a : GSq) : GSq.eq a a = true:=by simp [GSq.eq]
@[simp] theorem rSb (a : GSb) : GSb.eq a a = true:=by simp [GSb.eq]
@[simp] theorem rBtb (a : GBtb) : GBtb.eq a a = true:=by simp [GBtb.eq]
theorem r27 (l : List (BitVec 8)) (h : l.length ≤ maxL) : n27 l l = some true:=by
  unfold n27
  rw [loopE (L:=l.length) (.inl ()) h (fun k hk => by simp [n27_0,n27_1,natI_nat,hk,wI_succ (Nat.lt_of_lt_of_le hk h)]) (by simp [n27_0,n27_1])]
  simp
theorem r29 (l : List (BitVec 32)) (h : l.length ≤ maxL) : n29 l l = some true:=by
  unfold n29
  rw [loopE (L:=l.length) (.inl ()) h (fun k hk => by simp [n29_0,n29_1,natI_nat,hk,wI_succ (Nat.lt_of_lt_of_le hk h)]) (by simp [n29_0,n29_1])]
  simp
theorem r81 (l : List GBtb) (h : l.length ≤ maxL) : n81 l l = some true:=by
  unfold n81
  rw [loopE (L:=l.length) (.inl ()) h (fun k hk => by simp [n81_0,n81_1,natI_nat,hk,wI_succ (Nat.lt_of_lt_of_le hk h)]) (by simp [n81_0,n81_1])]
  simp
theorem r31 (l : List GTlb) (h : l.length ≤ maxL) : n31 l l = some true:=by
  unfold n31
  rw [loopE (L:=l.length) (.inl ()) h (fun k hk => by simp [n31_0,n31_1,natI_nat,hk,wI_succ (Nat.lt_of_lt_of_le hk h)]) (by simp [n31_0,n31_1])]
  simp
theorem r32 (l : List GSlot) (h : l.length ≤ maxL) : n32 l l = some true:=by
  unfold n32
  rw [loopE (L:=l.length) (.inl ()) h (fun k hk => by simp [n32_0,n32_1,natI_nat,hk,wI_succ (Nat.lt_of_lt_of_le hk h)]) (by simp [n32_0,n32_1])]
  simp
theorem r172 (l : List Int) (h : l.length ≤ maxL) : n172 l l = some true:=by
  unfold n172
  rw [loopE (L:=l.length) (.inl ()) h (fun k hk => by simp [n172_0,n172_1,natI_nat,hk,wI_succ (Nat.lt_of_lt_of_le hk h)]) (by simp [n172_0,n172_1])]
  simp
theorem r83 (l : List Bool) (h : l.length ≤ maxL) : n83 l l = some true:=by
  unfold n83
  rw [loopE (L:=l.length) (.inl ()) h (fun k hk => by simp [n83_0,n83_1,natI_nat,hk,wI_succ (Nat.lt_of_lt_of_le hk h)]) (by simp [n83_0,n83_1])]
  simp
theorem r35 (l : List GRob) (h : l.length ≤ maxL) : n35 l l = some true:=by
  unfold n35
  rw [loopE (L:=l.length) (.inl ()) h (fun k hk => by simp [n35_0,n35_1,natI_nat,hk,wI_succ (Nat.lt_of_lt_of_le hk h)]) (by simp [n35_0,n35_1])]
  simp
theorem r36 (l : List GIq) (h : l.length ≤ maxL) : n36 l l = some true:=by
  unfold n36
  rw [loopE (L:=l.length) (.inl ()) h (fun k hk => by simp [n36_0,n36_1,natI_nat,hk,wI_succ (Nat.lt_of_lt_of_le hk h)]) (by simp [n36_0,n36_1])]
  simp
theorem r37 (l : List GLq) (h : l.length ≤ maxL) : n37 l l = some true:=by
  unfold n37
  rw [loopE (L:=l.length) (.inl ()) h (fun k hk => by simp [n37_0,n37_1,natI_nat,hk,wI_succ (Nat.lt_of_lt_of_le hk h)]) (by simp [n37_0,n37_1])]
  simp
theorem r38 (l : List GSq) (h : l.length ≤ maxL) : n38 l l = some true:=by
  unfold n38
  rw [loopE (L:=l.length) (.inl ()) h (fun k hk => by simp [n38_0,n38_1,natI_nat,hk,wI_succ (Nat.lt_of_lt_of_le hk h)]) (by simp [n38_0,n38_1])]
  simp
theorem r39 (l : List GSb) (h : l.length ≤ maxL) : n39 l l = some true:=by
  unfold n39
  rw [loopE (L:=l.length) (.inl ()) h (fun k hk => by simp [n39_0,n39_1,natI_nat,hk,wI_succ (Nat.lt_of_lt_of_le hk h)]) (by simp [n39_0,n39_1])]
  simp
theorem r40 (l : List GFlight) (h : l.length ≤ maxL) : n40 l l = some true:=by
  unfold n40
  rw [loopE (L:=l.length) (.inl ()) h (fun k hk => by simp [n40_0,n40_1,natI_nat,hk,wI_succ (Nat.lt_of_lt_of_le hk h)]) (by simp [n40_0,n40_1])]
  simp
theorem r28 (c : GCache) (h : c.Sets.length ≤ maxL) (h2 : ∀ s ∈ c.Sets,s.length ≤ maxL) : n28 c c = some true:=by
  unfold n28
  rw [loopE (L:=c.Sets.length) (.inl ()) h (fun k hk => by
    have hs:=h2 (c.Sets[k]) (List.getElem_mem hk)
    have : loopN (n28_2 (k : Int) c c) LF (0 : Int) = some (.inl ()):=loopE (step:=n28_2 (k : Int) c c) (L:=(c.Sets[k]).length) (.inl ()) hs (fun j hj => by
      simp [n28_2,n28_3,natI_nat,hk,hj,wI_succ (Nat.lt_of_lt_of_le hj hs)]) (by simp [n28_2,n28_3,natI_nat,hk])
    simp [n28_0,n28_1,natI_nat,hk,this,wI_succ (Nat.lt_of_lt_of_le hk h)]) (by simp [n28_0,n28_1])]
  simp
structure CohL (m : GCoh) : Prop where
  mem : m.Mem.length ≤ maxL
  caches : m.Caches.length ≤ maxL
  sets : ∀ c ∈ m.Caches,c.Sets.length ≤ maxL
  ways : ∀ c ∈ m.Caches,∀ s ∈ c.Sets,s.length ≤ maxL
theorem r7 (m : GCoh) (h : CohL m) : n7 m m = some true:=by
  unfold n7
  have h0 : n7_0 m m = some false:=by simp [n7_0,r27 _ h.mem]
  rw [h0,Option.bind_some,cond_false,loopE (L:=m.Caches.length) (.inl ()) h.caches (fun k hk => by
    have hm:=List.getElem_mem hk
    simp [n7_1,n7_2,natI_nat,hk,r28 _ (h.sets _ hm) (h.ways _ hm),wI_succ (Nat.lt_of_lt_of_le hk h.caches)]) (by simp [n7_1,n7_2])]
  simp
structure CoreL (c : GCore) : Prop where
  queue : c.Queue.length ≤ 20
  rob : c.Rob.length ≤ 70
  iq : c.Iq.length ≤ 40
  lq : c.Lq.length ≤ 20
  sq : c.Sq.length ≤ 20
  sb : c.Sb.length ≤ 10
  units : c.Units.length ≤ 80
  val : c.Phys.Val.length ≤ 100
  ready : c.Phys.Ready.length ≤ 100
  ring : c.Names.Free.Ring.length ≤ 100
  shadow : c.Shadow.length ≤ 2048
  out : c.Out.length ≤ 100
  tlb : c.Tlb.length ≤ 10
  dep : c.Dep.length ≤ 20
  table : c.Pred.Table.length ≤ 300
  btb : c.Pred.Btb.length ≤ 20
  ras : c.Pred.Ras.length ≤ 20
theorem le_maxL {a b : Nat} (h : a ≤ b) (h2 : b ≤ 2048) : a ≤ maxL:=by simp only [maxL]; omega
theorem r30 (p : GPred) (h1 : p.Table.length ≤ maxL) (h2 : p.Btb.length ≤ maxL) (h3 : p.Ras.length ≤ maxL) : n30 p p = some true:=by
  simp [n30,r27 _ h1,r81 _ h2,r29 _ h3]
theorem r33 (p : GNames) (h : p.Free.Ring.length ≤ maxL) : n33 p p = some true:=by
  simp [n33,n82,r172 _ h]
theorem r34 (p : GPhys) (h1 : p.Val.length ≤ maxL) (h2 : p.Ready.length ≤ maxL) : n34 p p = some true:=by
  simp [n34,r29 _ h1,r83 _ h2]
theorem r8 (c : GCore) (h : CoreL c) : n8 c c = some true:=by
  have h0 : n8_0 c c = some false:=by simp [n8_0]
  have h1 : n8_1 c c = some false:=by
    simp [n8_1,r27 _ (le_maxL h.shadow (by omega)),r29 _ (le_maxL h.out (by omega)),r30 _ (le_maxL h.table (by omega)) (le_maxL h.btb (by omega)) (le_maxL h.ras (by omega)),
      r31 _ (le_maxL h.tlb (by omega)),r32 _ (le_maxL h.queue (by omega)),r33 _ (le_maxL h.ring (by omega)),r34 _ (le_maxL h.val (by omega)) (le_maxL h.ready (by omega))]
  unfold n8
  simp [h0,h1,r35 _ (le_maxL h.rob (by omega)),r36 _ (le_maxL h.iq (by omega)),r37 _ (le_maxL h.lq (by omega)),r38 _ (le_maxL h.sq (by omega)),
    r39 _ (le_maxL h.sb (by omega)),r40 _ (le_maxL h.units (by omega)),r27 _ (le_maxL h.dep (by omega))]
end
end Go.Ev.Pl
namespace Go.Ev.Pl
noncomputable section
def Tot {α : Type} (x : Option α) (Q : α → Prop) : Prop:=∃ r,x = some r ∧ Q r
theorem Ts {α : Type} {a : α} {Q : α → Prop} (h : Q a) : Tot (some a) Q:=⟨a,rfl,h⟩
theorem Tb {α β : Type} {x : Option α} {f : α → Option β} {R : α → Prop} {Q : β → Prop} (hx : Tot x R) (hf : ∀ a,R a → Tot (f a) Q) : Tot (x.bind f) Q:=by
  obtain ⟨a,e,r⟩:=hx
  rw [e]; exact hf a r
theorem Tc {α : Type} {c : Bool} {x y : Option α} {Q : α → Prop} (hx : c = true → Tot x Q) (hy : c = false → Tot y Q) : Tot (bif c then x else y) Q:=by
  cases c
  · exact hy rfl
  · exact hx rfl
theorem Tn {β : Type} {i : Int} {k : Nat} {f : Nat → Option β} {Q : β → Prop} (e : i = (k : Int)) (hf : Tot (f k) Q) : Tot ((natI i).bind f) Q:=by
  subst e; rw [natI_nat]; exact hf
theorem Tg {α β : Type} {l : List α} {k : Nat} {f : α → Option β} {Q : β → Prop} (h : k < l.length) (hf : ∀ x,l[k]? = Option.some x → x ∈ l → Tot (f x) Q) : Tot ((l[k]?).bind f) Q:=by
  obtain ⟨x,e,m⟩:=get_some h
  have:=hf x e m
  rw [e]; exact this
theorem Tf {β : Type} {n k : Nat} {i : Int} {f : Fin n → Option β} {Q : β → Prop} (e : i = (k : Int)) (h : k < n) (hf : Tot (f ⟨k,h⟩) Q) : Tot ((finI n i).bind f) Q:=by
  subst e; rw [finI_nat h]; exact hf
theorem Te {α β γ : Type} {f : α → Option γ} {g : β → Option γ} {z : α ⊕ β} {Q : γ → Prop} (hf : ∀ a,z = .inl a → Tot (f a) Q) (hg : ∀ b,z = .inr b → Tot (g b) Q) : Tot (Sum.elim f g z) Q:=by
  cases z with
  | inl a => exact hf a rfl
  | inr b => exact hg b rfl
theorem Ta {α : Type} {x : Option α} {Q : α → Prop} (h : Tot x Q) : Tot x (fun _ => True):=by
  obtain ⟨a,e,_⟩:=h; exact ⟨a,e,trivial⟩
theorem To {α : Type} {x : Option α} (h : ∃ r,x = .some r) : Tot x (fun _ => True):=by
  obtain ⟨a,e⟩:=h; exact ⟨a,e,trivial⟩
theorem Tl {σ ρ : Type} {step : σ → Option (σ ⊕ ρ)} {s0 : σ} {Q : ρ → Prop} (idx : σ → Int) (Inv : σ → Nat → Prop) (L k0 : Nat) (hL : L ≤ maxL) (hk : k0 ≤ L)
    (h0 : idx s0 = (k0 : Int)) (i0 : Inv s0 k0)
    (hin : ∀ (s : σ) (k : Nat),idx s = (k : Int) → Inv s k → k0 ≤ k → k < L → Tot (step s) (Sum.elim (fun s' => idx s' = ((k + 1 : Nat) : Int) ∧ Inv s' (k + 1)) Q))
    (hend : ∀ s,idx s = (L : Int) → Inv s L → Tot (step s) (Sum.elim (fun _ => False) Q)) : Tot (loopN step LF s0) Q:=by
  refine loopS (step:=step) (at_:=fun s k => idx s = (k : Int) ∧ Inv s k) (L:=L) (k0:=k0) Q hL hk ⟨h0,i0⟩ (fun s k hs h1 h2 => ?_) (fun s hs => ?_)
  · obtain ⟨r,e,hq⟩:=hin s k hs.1 hs.2 h1 h2
    cases r with
    | inl s' => exact .inl ⟨s',e,hq⟩
    | inr r => exact .inr ⟨r,e,hq⟩
  · obtain ⟨r,e,hq⟩:=hend s hs.1 hs.2
    cases r with
    | inl s' => exact absurd hq id
    | inr r => exact ⟨r,e,hq⟩
theorem Tl1 {ρ : Type} {step : Int → Option (Int ⊕ ρ)} (L k0 : Nat) {i0 : Int} (e0 : i0 = (k0 : Int)) (hL : L ≤ maxL) (hk : k0 ≤ L)
    (hin : ∀ (k : Nat),k0 ≤ k → k < L → Tot (step (k : Int)) (Sum.elim (fun s' => s' = ((k + 1 : Nat) : Int)) (fun _ => True)))
    (hend : Tot (step (L : Int)) (Sum.elim (fun _ => False) (fun _ => True))) : Tot (loopN step LF i0) (fun _ => True):=by
  refine Tl (idx:=id) (Inv:=fun _ _ => True) L k0 hL hk e0 trivial (fun s k hs _ h1 h2 => ?_) (fun s hs _ => ?_)
  · obtain ⟨r,e,h⟩:=hin k h1 h2
    cases hs
    exact ⟨r,e,by cases r with
      | inl s' => exact ⟨h,trivial⟩
      | inr r => exact h⟩
  · cases hs; exact hend
theorem lt_of_dec {a b : Nat} (h : decide ((a : Int) < (b : Int)) = true) : a < b:=by have:=of_decide_eq_true h; omega
theorem not_lt_of_dec {a b : Int} (h : decide (a < b) = false) : b ≤ a:=by have:=of_decide_eq_false h; omega
theorem nl_of_dec {a b : Int} (h : (!decide (a < b)) = true) : b ≤ a:=by simp at h; omega
theorem lt_of_ndec {a b : Int} (h : (!decide (a < b)) = false) : a < b:=by simp at h; omega
theorem appB_ok {n : Nat} (b : Nat) (h : n * b ≤ 140737488355328 ∧ n ≤ 4294967295) : appB b n = true:=by
  simp [appB,Nat.ble_eq,h.1,h.2]
theorem w1 {k L : Nat} (h : k < L) (hL : L ≤ maxL) : wI ((k : Int) + 1) = ((k + 1 : Nat) : Int):=wI_succ (Nat.lt_of_lt_of_le h hL)
theorem t9 (c : GCore) : Tot (n9 c) (fun b => b = true → CoreL c):=by
  unfold n9
  repeat' first
    | refine Ts ?_
    | refine Tc (fun _ => ?_) (fun _ => ?_)
  rotate_left
  all_goals (first | exact (fun h => by cases h) | skip)
  intro h
  simp only [Bool.not_eq_true',decide_eq_false_iff_not,Int.not_lt] at *
  constructor <;> omega
theorem t88 (c : GCore) (r : GRen) (hL : c.Rob.length ≤ maxL) : Tot (n88 c r) (fun _ => True):=To (ok88 c r hL)
theorem t44 (c : GCore) (h : CoreL c) : Tot (n44 c) (fun _ => True):=by
  have hL:=le_maxL h.iq (by omega)
  unfold n44
  refine Tb (Tl1 c.Iq.length 0 rfl hL (Nat.zero_le _) (fun k _ hk => ?_) ?_) (fun z _ => Te (fun _ _ => Ts trivial) (fun _ _ => Ts trivial))
  · simp only [n44_0,dlt_nat,decide_eq_true hk,cond_true]
    refine Tn rfl (Tg hk fun x _ _ => Tb (t88 _ _ (le_maxL h.rob (by omega))) fun b _ => Tc (fun _ => Ts trivial) fun _ => Tb (Tl1 k 0 rfl (by omega) (Nat.zero_le _) (fun j _ hj => ?_) ?_) fun z _ => Te (fun _ _ => Ts (w1 hk hL)) (fun _ _ => Ts trivial))
    · simp only [n44_1,dlt_nat,decide_eq_true hj,cond_true]
      exact Tn rfl (Tg (by omega) fun _ _ _ => Tn rfl (Tg hk fun _ _ _ => Tc (fun _ => Ts trivial) fun _ => Ts (w1 hj (by omega))))
    · simp only [n44_1,dlt_nat,Nat.lt_irrefl,decide_false,cond_false]
      exact Ts trivial
  · simp only [n44_0,dlt_nat,Nat.lt_irrefl,decide_false,cond_false]
    exact Ts trivial
end
end Go.Ev.Pl
namespace Go.Ev.Pl
noncomputable section
theorem t42_1 (l : List GRob) (k : Nat) (hk : k < l.length) (hL : l.length ≤ maxL) : Tot (n42_1 l (k : Int)) (fun _ => True):=by
  unfold n42_1
  refine Tn rfl (Tg hk fun x _ _ => Tc (fun _ => Ts trivial) fun _ => Tc (fun h0 => ?_) fun _ => Ts trivial)
  have h0 : 0 < k:=by have:=of_decide_eq_true h0; omega
  exact Tn rfl (Tg hk fun _ _ _ => Tn (wI_pred h0 (by omega)) (Tg (by omega) fun _ _ _ => Ts trivial))
theorem t42_2 (l : List GRob) (k : Nat) (hk : k < l.length) (hL : l.length ≤ maxL) : Tot (n42_2 l (k : Int)) (fun b => b = true → 0 < k):=by
  unfold n42_2
  refine Tc (fun h0 => ?_) fun _ => Ts (fun h => by cases h)
  have h0 : 0 < k:=by have:=of_decide_eq_true h0; omega
  exact Tn (wI_pred h0 (by omega)) (Tg (by omega) fun _ _ _ => Ts (fun _ => h0))
theorem t42_3 (l : List GRob) (k : Nat) (v : Int) (b : Bool) (hk : k < l.length) (hL : l.length ≤ maxL) (hb : b = true → 0 < k) : Tot (n42_3 l (k : Int) v b) (fun _ => True):=by
  unfold n42_3
  refine Tc (fun h => ?_) fun _ => Ts trivial
  exact Tn (wI_pred (hb h) (by omega)) (Tg (by omega) fun _ _ _ => Ts trivial)
theorem t42 (l : List GRob) (hL : l.length ≤ maxL) : Tot (n42 l) (fun _ => True):=by
  unfold n42
  refine Tb (Tl1 l.length 0 rfl hL (Nat.zero_le _) (fun k _ hk => ?_) ?_) (fun z _ => Te (fun _ _ => ?_) (fun _ _ => Ts trivial))
  · simp only [n42_0,dlt_nat,decide_eq_true hk,cond_true]
    refine Tb (t42_1 l k hk hL) fun _ _ => Tc (fun _ => Ts trivial) fun _ => Tb (t42_2 l k hk hL) fun b hb => Tb (t42_3 l k _ b hk hL hb) fun _ _ => ?_
    exact Tn rfl (Tg hk fun _ _ _ => Tc (fun _ => Ts trivial) fun _ => Ts (w1 hk hL))
  · (simp only [n42_0,dlt_nat,Nat.lt_irrefl,decide_false,cond_false]; exact Ts trivial)
  · refine Tc (fun _ => Ts trivial) (fun h0 => ?_)
    have h0 : 0 < l.length:=by have:=of_decide_eq_false h0; omega
    exact Tn (wI_pred h0 hL) (Tg (by omega) fun _ _ _ => Ts trivial)
theorem t45 (c : GCore) (h : CoreL c) : Tot (n45 c) (fun _ => True):=by
  have hL:=le_maxL h.units (by omega)
  have hL2:=le_maxL h.iq (by omega)
  unfold n45
  refine Tb (Tl1 c.Units.length 0 rfl hL (Nat.zero_le _) (fun k _ hk => ?_) ?_) (fun z _ => Te (fun _ _ => Ts trivial) (fun _ _ => Ts trivial))
  · simp only [n45_0,dlt_nat,decide_eq_true hk,cond_true]
    refine Tn rfl (Tg hk fun x _ _ => Tb (t88 _ _ (le_maxL h.rob (by omega))) fun b _ => Tc (fun _ => Ts trivial) fun _ => Tb (Tl1 k 0 rfl (by omega) (Nat.zero_le _) (fun j _ hj => ?_) ?_) fun z _ => Te (fun _ _ => Tb (Tl1 c.Iq.length 0 rfl hL2 (Nat.zero_le _) (fun j _ hj => ?_) ?_) fun z _ => Te (fun _ _ => Ts (w1 hk hL)) (fun _ _ => Ts trivial)) (fun _ _ => Ts trivial))
    · simp only [n45_1,dlt_nat,decide_eq_true hj,cond_true]
      exact Tn rfl (Tg (by omega) fun _ _ _ => Tc (fun _ => Ts trivial) fun _ => Ts (w1 hj (by omega)))
    · (simp only [n45_1,dlt_nat,Nat.lt_irrefl,decide_false,cond_false]; exact Ts trivial)
    · simp only [n45_2,dlt_nat,decide_eq_true hj,cond_true]
      exact Tn rfl (Tg (by omega) fun _ _ _ => Tc (fun _ => Ts trivial) fun _ => Ts (w1 hj (by omega)))
    · (simp only [n45_2,dlt_nat,Nat.lt_irrefl,decide_false,cond_false]; exact Ts trivial)
  · (simp only [n45_0,dlt_nat,Nat.lt_irrefl,decide_false,cond_false]; exact Ts trivial)
theorem Tl2 {τ ρ : Type} {step : τ × Int → Option ((τ × Int) ⊕ ρ)} {x0 : τ} {Q : ρ → Prop} (Inv : τ → Nat → Prop) (L k0 : Nat) {i0 : Int} (e0 : i0 = (k0 : Int)) (hL : L ≤ maxL) (hk : k0 ≤ L)
    (h0 : Inv x0 k0)
    (hin : ∀ (x : τ) (k : Nat),Inv x k → k0 ≤ k → k < L → Tot (step (x,(k : Int))) (Sum.elim (fun s' => s'.2 = ((k + 1 : Nat) : Int) ∧ Inv s'.1 (k + 1)) Q))
    (hend : ∀ x,Inv x L → Tot (step (x,(L : Int))) (Sum.elim (fun _ => False) Q)) : Tot (loopN step LF (x0,i0)) Q:=by
  refine Tl (idx:=fun s => s.2) (Inv:=fun s k => Inv s.1 k) L k0 hL hk e0 h0 (fun s k hs hi h1 h2 => ?_) (fun s hs hi => ?_)
  · obtain ⟨x,i⟩:=s
    cases hs
    exact hin x k hi h1 h2
  · obtain ⟨x,i⟩:=s
    cases hs
    exact hend x hi
theorem Tl3 {τ ρ : Type} {step : Int × τ → Option ((Int × τ) ⊕ ρ)} {x0 : τ} {Q : ρ → Prop} (Inv : τ → Nat → Prop) (L k0 : Nat) {i0 : Int} (e0 : i0 = (k0 : Int)) (hL : L ≤ maxL) (hk : k0 ≤ L)
    (h0 : Inv x0 k0)
    (hin : ∀ (x : τ) (k : Nat),Inv x k → k0 ≤ k → k < L → Tot (step ((k : Int),x)) (Sum.elim (fun s' => s'.1 = ((k + 1 : Nat) : Int) ∧ Inv s'.2 (k + 1)) Q))
    (hend : ∀ x,Inv x L → Tot (step ((L : Int),x)) (Sum.elim (fun _ => False) Q)) : Tot (loopN step LF (i0,x0)) Q:=by
  refine Tl (idx:=fun s => s.1) (Inv:=fun s k => Inv s.2 k) L k0 hL hk e0 h0 (fun s k hs hi h1 h2 => ?_) (fun s hs hi => ?_)
  · obtain ⟨i,x⟩:=s
    cases hs
    exact hin x k hi h1 h2
  · obtain ⟨i,x⟩:=s
    cases hs
    exact hend x hi
theorem t89 (c : GCore) (u : Int) (h : CoreL c) : Tot (n89 c u) (fun l => l.length ≤ c.Rob.length):=by
  have hL:=le_maxL h.rob (by omega)
  have hr:=h.rob
  unfold n89
  refine Tb (R:=fun l => l.length ≤ c.Rob.length) (Tl2 (Inv:=fun l k => l.length ≤ k) c.Rob.length 0 rfl hL (Nat.zero_le _) (Nat.le_refl _) (fun l k hi _ hk => ?_) (fun l hi => ?_)) (fun _ h => Ts h)
  · simp only [n89_0,dlt_nat,decide_eq_true hk,cond_true]
    refine Tn rfl (Tg hk fun x _ _ => Tc (fun _ => Tn rfl (Tg hk fun _ _ _ => ?_)) fun _ => Ts ⟨w1 hk hL,by show l.length ≤ k + 1; omega⟩)
    rw [appB_ok 8 (by simp only [List.length_singleton]; omega),cond_true]
    exact Ts ⟨w1 hk hL,by show (l ++ _).length ≤ k + 1; simp only [List.length_append,List.length_singleton]; omega⟩
  · simp only [n89_0,dlt_nat,Nat.lt_irrefl,decide_false,cond_false]
    exact Ts hi
theorem dec_min (k a b : Nat) : (bif decide ((k : Int) < (a : Int)) then (some (decide ((k : Int) < (b : Int)))) else some false) = some (decide (k < a) && decide (k < b)):=by
  rw [dlt_nat,dlt_nat]; cases decide (k < a) <;> rfl
theorem t46 (c : GCore) (h : CoreL c) : Tot (n46 c) (fun _ => True):=by
  have h1:=h.lq
  have h2:=h.sq
  have h3:=h.rob
  unfold n46
  refine Tb (t89 c 5 h) fun l1 hl1 => Tb (t89 c 6 h) fun l2 hl2 => Tb (R:=fun _ => True) (by unfold n46_0; (repeat' first | exact Ts trivial | refine Tc (fun _ => ?_) (fun _ => ?_) | refine Tg (by assumption) (fun _ _ _ => ?_) | refine Tn rfl ?_)) fun _ _ => Tc (fun _ => Ts trivial) fun _ => ?_
  refine Tb (Tl1 (min l1.length c.Lq.length) 0 rfl (by simp only [maxL]; omega) (Nat.zero_le _) (fun k _ hk => ?_) ?_) (fun z _ => Te (fun _ _ => Tb (Tl1 (min l2.length c.Sq.length) 0 rfl (by simp only [maxL]; omega) (Nat.zero_le _) (fun k _ hk => ?_) ?_) (fun z _ => Te (fun _ _ => Ts trivial) (fun _ _ => Ts trivial))) (fun _ _ => Ts trivial))
  · have a1 : k < l1.length:=by omega
    have a2 : k < c.Lq.length:=by omega
    simp only [n46_1,n46_2,dec_min,decide_eq_true a1,decide_eq_true a2,Bool.and_true,Option.bind_some,cond_true]
    exact Tn rfl (Tg a2 fun _ _ _ => Tn rfl (Tg a1 fun _ _ _ => Tc (fun _ => Ts trivial) fun _ => Ts (w1 a2 (by simp only [maxL]; omega))))
  · have e : (decide (min l1.length c.Lq.length < l1.length) && decide (min l1.length c.Lq.length < c.Lq.length)) = false:=by
      rw [Bool.and_eq_false_iff,decide_eq_false_iff_not,decide_eq_false_iff_not]; omega
    simp only [n46_1,n46_2,dec_min,e,Option.bind_some,cond_false]
    exact Ts trivial
  · have a1 : k < l2.length:=by omega
    have a2 : k < c.Sq.length:=by omega
    simp only [n46_3,n46_4,dec_min,decide_eq_true a1,decide_eq_true a2,Bool.and_true,Option.bind_some,cond_true]
    exact Tn rfl (Tg a2 fun _ _ _ => Tn rfl (Tg a1 fun _ _ _ => Tc (fun _ => Ts trivial) fun _ => Ts (w1 a2 (by simp only [maxL]; omega))))
  · have e : (decide (min l2.length c.Sq.length < l2.length) && decide (min l2.length c.Sq.length < c.Sq.length)) = false:=by
      rw [Bool.and_eq_false_iff,decide_eq_false_iff_not,decide_eq_false_iff_not]; omega
    simp only [n46_3,n46_4,dec_min,e,Option.bind_some,cond_false]
    exact Ts trivial
theorem idx_of (i : Int) (L : Nat) (h0 : decide (i < 0) = false) (h1 : decide (i < (L : Int)) = true) : ∃ k : Nat,i = (k : Int) ∧ k < L:=by
  have a:=of_decide_eq_false h0
  have b:=of_decide_eq_true h1
  exact ⟨i.toNat,by omega,by omega⟩
theorem t106 (p : GPhys) (i : Int) : Tot (n106 p i) (fun b => b = true → ∃ k : Nat,i = (k : Int) ∧ k < p.Val.length ∧ k < p.Ready.length):=by
  unfold n106
  refine Tc (fun h0 => Tc (fun h1 => Ts fun h2 => ?_) fun _ => Ts (fun h => by cases h)) fun _ => Ts (fun h => by cases h)
  obtain ⟨k,e,hk⟩:=idx_of i _ (by simpa using h0) h1
  have b:=of_decide_eq_true h2
  exact ⟨k,e,hk,by omega⟩
theorem t90 (p : GPhys) (i : Int) : Tot (n90 p i) (fun _ => True):=by
  unfold n90
  refine Tb (t106 p i) fun b hb => Tc (fun _ => Ts trivial) fun h => ?_
  obtain ⟨k,e,h1,h2⟩:=hb (by simpa using h)
  exact Tn e (Tg h2 fun _ _ _ => Tc (fun _ => Ts trivial) fun _ => Tn e (Tg h1 fun _ _ _ => Ts trivial))
theorem t47 (p : GPhys) (a : Arr Int 16) : Tot (n47 p a) (fun _ => True):=by
  unfold n47
  refine Tb (R:=fun _ => True) (Tl3 (Inv:=fun _ _ => True) 16 1 rfl (by simp only [maxL]; omega) (by omega) trivial (fun x k _ _ hk => ?_) (fun x _ => ?_)) (fun _ _ => Ts trivial)
  · have e : decide ((k : Int) < 16) = true:=decide_eq_true (by omega)
    simp only [n47_0,e,cond_true]
    exact Tf rfl hk (Tb (t90 _ _) fun _ _ => Tf rfl hk (Ts ⟨w1 hk (by simp only [maxL]; omega),trivial⟩))
  · have e : decide (((16 : Nat) : Int) < 16) = false:=by decide
    simp only [n47_0,e,cond_false]
    exact Ts trivial
theorem t91 (i : Int) : Tot (n91 i) (fun _ => True):=by
  unfold n91
  refine Tb (R:=fun _ => True) ?_ (fun z _ => Te (fun _ _ => by (repeat' first | exact Ts trivial | refine Tc (fun _ => ?_) (fun _ => ?_) | refine Tg (by assumption) (fun _ _ _ => ?_) | refine Tn rfl ?_)) (fun _ _ => Ts trivial))
  unfold n91_0
  refine Tc (fun _ => Ts trivial) fun _ => Tc (fun _ => Ts trivial) fun _ => Tb (R:=fun _ => True) ?_ fun _ _ => ?_
  · unfold n91_1; (repeat' first | exact Ts trivial | refine Tc (fun _ => ?_) (fun _ => ?_) | refine Tg (by assumption) (fun _ _ _ => ?_) | refine Tn rfl ?_)
  · (repeat' first | exact Ts trivial | refine Tc (fun _ => ?_) (fun _ => ?_) | refine Tg (by assumption) (fun _ _ _ => ?_) | refine Tn rfl ?_)
theorem t48 (a : GArch) : Tot (n48 a) (fun _ => True):=by
  unfold n48
  refine Tb (Tl1 12 0 rfl (by simp only [maxL]; omega) (Nat.zero_le _) (fun k _ hk => ?_) ?_) (fun z _ => Te (fun _ _ => Tf (k:=0) rfl (by omega) (Ts trivial)) (fun _ _ => Ts trivial))
  · have e : decide ((k : Int) < 12) = true:=decide_eq_true (by omega)
    simp only [n48_0,e,cond_true]
    exact Tb (t91 _) fun _ _ => Tf rfl hk (Tf rfl hk (Tc (fun _ => Ts trivial) fun _ => Ts (w1 hk (by simp only [maxL]; omega))))
  · have e : decide (((12 : Nat) : Int) < 12) = false:=by decide
    simp only [n48_0,e,cond_false]
    exact Ts trivial
theorem t49 (c : GCore) (h : CoreL c) : Tot (n49 c) (fun _ => True):=by
  have hL:=le_maxL h.rob (by omega)
  unfold n49
  refine Tb (Tl1 c.Rob.length 0 rfl hL (Nat.zero_le _) (fun k _ hk => ?_) ?_) (fun z _ => Te (fun _ _ => Ts trivial) (fun _ _ => Ts trivial))
  · simp only [n49_0,dlt_nat,decide_eq_true hk,cond_true]
    refine Tn rfl (Tg hk fun x _ _ => Tb (R:=fun _ => True) (by unfold n49_1; (repeat' first | exact Ts trivial | refine Tc (fun _ => ?_) (fun _ => ?_) | refine Tg (by assumption) (fun _ _ _ => ?_) | refine Tn rfl ?_)) fun _ _ => Tc (fun _ => Ts (w1 hk hL)) fun _ => Tb (t90 _ _) fun _ _ => Tb (R:=fun _ => True) (by unfold n49_2; (repeat' first | exact Ts trivial | refine Tc (fun _ => ?_) (fun _ => ?_) | refine Tg (by assumption) (fun _ _ _ => ?_) | refine Tn rfl ?_)) fun _ _ => Tc (fun _ => Ts trivial) fun _ => Ts (w1 hk hL))
  · (simp only [n49_0,dlt_nat,Nat.lt_irrefl,decide_false,cond_false]; exact Ts trivial)
end
end Go.Ev.Pl
namespace Go.Ev.Pl
noncomputable section
theorem m16 : (16 : Nat) ≤ maxL:=by simp only [maxL]; omega
theorem lt16 {k : Nat} (h : k < 16) : decide ((k : Int) < 16) = true:=decide_eq_true (by omega)
theorem t84 (a : Arr Int 16) (n : Int) : Tot (n84 a n) (fun _ => True):=by
  unfold n84
  refine Tf (k:=0) rfl (by omega) (Tc (fun _ => Ts trivial) fun _ => Tb (Tl1 16 1 rfl m16 (by omega) (fun k _ hk => ?_) ?_) (fun z _ => Te (fun _ _ => Ts trivial) (fun _ _ => Ts trivial)))
  · simp only [n84_0,lt16 hk,cond_true]
    refine Tb (R:=fun _ => True) (by unfold n84_1; exact Tf rfl hk (Tc (fun _ => Ts trivial) fun _ => Tf rfl hk (Ts trivial))) fun _ _ => Tc (fun _ => Ts trivial) fun _ => ?_
    refine Tb (Tl1 k 1 rfl (by simp only [maxL]; omega) (by omega) (fun j _ hj => ?_) ?_) (fun z _ => Te (fun _ _ => Ts (w1 hk m16)) (fun _ _ => Ts trivial))
    · simp only [n84_2,dlt_nat,decide_eq_true hj,cond_true]
      exact Tf rfl (by omega) (Tf rfl hk (Tc (fun _ => Ts trivial) fun _ => Ts (w1 hj (by simp only [maxL]; omega))))
    · (simp only [n84_2,dlt_nat,Nat.lt_irrefl,decide_false,cond_false]; exact Ts trivial)
  · have e : decide (((16 : Nat) : Int) < 16) = false:=by decide
    simp only [n84_0,e,cond_false]
    exact Ts trivial
structure RingOk (f : GFree) : Prop where
  len : f.Ring.length ≤ 96
  n0 : 0 ≤ f.N
  n1 : f.N ≤ f.Ring.length
  h0 : 0 ≤ f.Head
  h1 : f.Head < 97
theorem t173 (f : GFree) : Tot (n173 f) (fun b => b = true → RingOk f):=by
  unfold n173
  refine Tb (R:=fun b => b = false → f.Ring.length ≤ 96 ∧ 0 ≤ f.N ∧ f.N ≤ f.Ring.length) ?_ fun b hb => Tc (fun _ => Ts fun h => by cases h) fun hf => ?_
  · unfold n173_0
    refine Tc (fun _ => Ts fun h => by cases h) fun h1 => Tc (fun _ => Ts fun h => by cases h) fun h2 => Ts fun h3 => ?_
    have:=of_decide_eq_false h1
    have:=of_decide_eq_false h2
    have:=of_decide_eq_false h3
    omega
  · obtain ⟨k1,k2,k3⟩:=hb hf
    have zero : decide ((f.Ring.length : Int) = 0) = true → Tot (some (decide (f.Head = 0))) (fun b => b = true → RingOk f):=fun _ => Ts fun h => by
      have:=of_decide_eq_true h
      exact ⟨k1,k2,k3,by omega,by omega⟩
    refine Tc (fun h0 => Tc (fun h1 => Ts fun _ => ?_) fun _ => Tc zero fun _ => Ts fun h => by cases h) fun _ => Tc zero fun _ => Ts fun h => by cases h
    have a:=nl_of_dec h0
    have b:=of_decide_eq_true h1
    exact ⟨k1,k2,k3,a,by omega⟩
theorem rem_nat {i : Int} {L : Nat} (h0 : 0 ≤ i) (hL : 0 < L) : ∃ k : Nat,remI i (L : Int) = some (k : Int) ∧ k < L:=by
  obtain ⟨j,rfl⟩ : ∃ j : Nat,i = (j : Int):=⟨i.toNat,by omega⟩
  refine ⟨j % L,?_,Nat.mod_lt _ hL⟩
  unfold remI
  rw [if_neg (by omega)]
  rfl
theorem Tr {β : Type} {i : Int} {L : Nat} {f : Int → Option β} {Q : β → Prop} (h0 : 0 ≤ i) (hL : 0 < L) (hf : ∀ k : Nat,k < L → Tot (f (k : Int)) Q) : Tot ((remI i (L : Int)).bind f) Q:=by
  obtain ⟨k,e,hk⟩:=rem_nat h0 hL
  rw [e]; exact hf k hk
theorem wI_id {i : Int} (h0 : 0 ≤ i) (h1 : i ≤ 1000000) : wI i = i:=by
  obtain ⟨k,rfl⟩ : ∃ k : Nat,i = (k : Int):=⟨i.toNat,by omega⟩
  exact wI_nat (by simp only [maxL]; omega)
theorem t174 (f : GFree) : Tot (n174 f) (fun l => l.length ≤ 96):=by
  unfold n174
  refine Tb (t173 f) fun b hb => Tc (fun _ => Ts (by simp)) fun h => ?_
  have R:=hb (by simpa using h)
  have k0:=R.n0
  have k1:=R.n1
  have k2:=R.len
  have k3:=R.h0
  have k4:=R.h1
  refine Tb (R:=fun l => l.length ≤ 96) (Tl2 (Inv:=fun l k => l.length ≤ k) f.N.toNat 0 rfl (by simp only [maxL]; omega) (Nat.zero_le _) (Nat.le_refl _) (fun l k hi _ hk => ?_) (fun l hi => ?_)) (fun _ h => Ts h)
  · have e : decide ((k : Int) < f.N) = true:=decide_eq_true (by omega)
    simp only [n174_0,e,cond_true]
    rw [wI_id (i:=f.Head + (k : Int)) (by omega) (by omega)]
    refine Tr (by omega) (by omega) fun j hj => Tn rfl (Tg hj fun _ _ _ => ?_)
    rw [appB_ok 8 (by simp only [List.length_singleton]; omega),cond_true]
    exact Ts ⟨w1 (L:=97) (by omega) (by simp only [maxL]; omega),by show (l ++ _).length ≤ k + 1; simp only [List.length_append,List.length_singleton]; omega⟩
  · have e : decide (((f.N.toNat : Nat) : Int) < f.N) = false:=decide_eq_false (by omega)
    simp only [n174_0,e,cond_false]
    exact Ts (show l.length ≤ 96 by omega)
theorem t85 (f : GFree) (n : Int) : Tot (n85 f n) (fun _ => True):=by
  unfold n85
  refine Tb (R:=fun _ => True) (by unfold n85_0; exact Tb (t173 f) fun _ _ => Tc (fun _ => Ts trivial) fun _ => Ts trivial) fun _ _ => Tc (fun _ => Ts trivial) fun _ => Tb (t174 f) fun l hl => ?_
  have hL : l.length ≤ maxL:=le_maxL hl (by omega)
  refine Tb (Tl1 l.length 0 rfl hL (Nat.zero_le _) (fun k _ hk => ?_) ?_) (fun z _ => Te (fun _ _ => Ts trivial) (fun _ _ => Ts trivial))
  · simp only [n85_1,dlt_nat,decide_eq_true hk,cond_true]
    refine Tb (R:=fun _ => True) (by unfold n85_2; exact Tn rfl (Tg hk fun _ _ _ => Tc (fun _ => Ts trivial) fun _ => Tn rfl (Tg hk fun _ _ _ => Ts trivial))) fun _ _ => Tc (fun _ => Ts trivial) fun _ => ?_
    refine Tb (Tl1 k 0 rfl (by omega) (Nat.zero_le _) (fun j _ hj => ?_) ?_) (fun z _ => Te (fun _ _ => Ts (w1 hk hL)) (fun _ _ => Ts trivial))
    · simp only [n85_3,dlt_nat,decide_eq_true hj,cond_true]
      exact Tn rfl (Tg (by omega) fun _ _ _ => Tn rfl (Tg hk fun _ _ _ => Tc (fun _ => Ts trivial) fun _ => Ts (w1 hj (by omega))))
    · (simp only [n85_3,dlt_nat,Nat.lt_irrefl,decide_false,cond_false]; exact Ts trivial)
  · (simp only [n85_1,dlt_nat,Nat.lt_irrefl,decide_false,cond_false]; exact Ts trivial)
theorem t86 (u : GUop) : Tot (n86 u) (fun b => b = true → 1 ≤ u.Dst ∧ u.Dst ≤ 15):=by
  unfold n86
  refine Tc (fun h0 => Ts fun h1 => ?_) fun _ => Ts fun h => by cases h
  simp at h0 h1
  exact ⟨h0,h1⟩
theorem t175 (l : List Int) (v : Int) (hL : l.length ≤ maxL) : Tot (n175 l v) (fun _ => True):=by
  unfold n175
  refine Tb (R:=fun _ => True) (Tl2 (Inv:=fun _ _ => True) l.length 0 rfl hL (Nat.zero_le _) trivial (fun x k _ _ hk => ?_) (fun x _ => ?_)) (fun _ _ => Ts trivial)
  · simp only [n175_0,dlt_nat,decide_eq_true hk,cond_true]
    exact Tn rfl (Tg hk fun _ _ _ => Tc (fun _ => Ts ⟨w1 hk hL,trivial⟩) fun _ => Ts ⟨w1 hk hL,trivial⟩)
  · (simp only [n175_0,dlt_nat,Nat.lt_irrefl,decide_false,cond_false]; exact Ts trivial)
theorem t87 (m : GNames) (n : Int) (rs : List GRen) (hn : 17 ≤ n) (hn2 : n ≤ 96) (hr : rs.length ≤ 70) : Tot (n87 m n rs) (fun _ => True):=by
  unfold n87
  refine Tb (t174 _) fun l0 hl0 => Tb (R:=fun l => l.length ≤ 112) (Tl2 (Inv:=fun l k => l.length ≤ 96 + k) 16 1 rfl m16 (by omega) (by omega) (fun l k hi _ hk => ?_) (fun l hi => ?_)) fun l1 hl1 =>
    Tb (R:=fun l => l.length ≤ 182) (Tl2 (Inv:=fun l k => l.length ≤ 112 + k) rs.length 0 rfl (le_maxL hr (by omega)) (Nat.zero_le _) (by omega) (fun l k hi _ hk => ?_) (fun l hi => ?_)) fun l2 hl2 => ?_
  · simp only [n87_0,lt16 hk,cond_true]
    refine Tf rfl hk ?_
    rw [appB_ok 8 (by simp only [List.length_singleton]; omega),cond_true]
    exact Ts ⟨w1 hk m16,by show (l ++ _).length ≤ 96 + (k + 1); simp only [List.length_append,List.length_singleton]; omega⟩
  · have e : decide (((16 : Nat) : Int) < 16) = false:=by decide
    simp only [n87_0,e,cond_false]
    exact Ts (show l.length ≤ 112 by omega)
  · simp only [n87_1,dlt_nat,decide_eq_true hk,cond_true]
    refine Tn rfl (Tg hk fun x _ _ => Tc (fun _ => Tn rfl (Tg hk fun _ _ _ => ?_)) fun _ => Ts ⟨w1 hk (le_maxL hr (by omega)),by show l.length ≤ 112 + (k + 1); omega⟩)
    rw [appB_ok 8 (by simp only [List.length_singleton]; omega),cond_true]
    exact Ts ⟨w1 hk (le_maxL hr (by omega)),by show (l ++ _).length ≤ 112 + (k + 1); simp only [List.length_append,List.length_singleton]; omega⟩
  · simp only [n87_1,dlt_nat,Nat.lt_irrefl,decide_false,cond_false]
    exact Ts (show l.length ≤ 182 by omega)
  · obtain ⟨N,rfl⟩ : ∃ N : Nat,n = (N : Int):=⟨n.toNat,by omega⟩
    refine Tb (Tl1 N 1 rfl (by simp only [maxL]; omega) (by omega) (fun k _ hk => ?_) ?_) (fun z _ => Te (fun _ _ => Ts trivial) (fun _ _ => Ts trivial))
    · simp only [n87_2,dlt_nat,decide_eq_true hk,cond_true]
      exact Tb (t175 _ _ (le_maxL hl2 (by omega))) fun _ _ => Tc (fun _ => Ts trivial) fun _ => Ts (w1 hk (by simp only [maxL]; omega))
    · (simp only [n87_2,dlt_nat,Nat.lt_irrefl,decide_false,cond_false]; exact Ts trivial)
theorem t43 (m : GNames) (n : Int) (rs : List GRen) (hr : rs.length ≤ 70) : Tot (n43 m n rs) (fun _ => True):=by
  have hL : rs.length ≤ maxL:=le_maxL hr (by omega)
  unfold n43
  refine Tb (R:=fun b => b = false → 17 ≤ n ∧ n ≤ 96) ?_ fun b hb => Tc (fun _ => Ts trivial) fun hf => ?_
  · unfold n43_0
    refine Tc (fun _ => Ts fun h => by cases h) fun h1 => Tc (fun _ => Ts fun h => by cases h) fun h2 => ?_
    have a:=of_decide_eq_false h1
    have b:=of_decide_eq_false h2
    have ab : 17 ≤ n ∧ n ≤ 96:=by omega
    exact Tb (t84 _ _) fun _ _ => Tc (fun _ => Ts fun _ => ab) fun _ => Tb (t84 _ _) fun _ _ => Tc (fun _ => Ts fun _ => ab) fun _ => Tb (t85 _ _) fun _ _ => Ts fun _ => ab
  · obtain ⟨a,b⟩:=hb hf
    refine Tb (R:=fun _ => True) (Tl (idx:=fun s => s.2.1) (Inv:=fun _ _ => True) rs.length 0 hL (Nat.zero_le _) rfl trivial (fun s k hs _ _ hk => ?_) (fun s hs _ => ?_)) (fun z _ => Te (fun _ _ => Tc (fun _ => Tb (t87 m n rs a b hr) fun _ _ => Ts trivial) fun _ => Ts trivial) (fun _ _ => Ts trivial))
    · obtain ⟨s1,s2,s3⟩:=s
      obtain rfl : s2 = (k : Int):=hs
      simp only [n43_1,dlt_nat,decide_eq_true hk,cond_true]
      refine Tn rfl (Tg hk fun x _ _ => Tb (R:=fun _ => True) (by unfold n43_2; (repeat' first | exact Ts trivial | refine Tc (fun _ => ?_) (fun _ => ?_) | refine Tg (by assumption) (fun _ _ _ => ?_) | refine Tn rfl ?_)) fun _ _ => Tc (fun _ => Ts trivial) fun _ => Tb (t86 _) fun b hb => Tc (fun _ => ?_) fun hd => ?_)
      · exact Tb (R:=fun _ => True) (by unfold n43_3; (repeat' first | exact Ts trivial | refine Tc (fun _ => ?_) (fun _ => ?_) | refine Tg (by assumption) (fun _ _ _ => ?_) | refine Tn rfl ?_)) fun _ _ => Tc (fun _ => Ts trivial) fun _ => Ts ⟨w1 hk hL,trivial⟩
      · obtain ⟨d0,d1⟩:=hb (by simpa using hd)
        have ed : x.Uop.Dst = ((x.Uop.Dst.toNat : Nat) : Int):=by omega
        have hd16 : x.Uop.Dst.toNat < 16:=by omega
        exact Tb (R:=fun _ => True) (by unfold n43_4; exact Tc (fun _ => Ts trivial) fun _ => Tf ed hd16 (Ts trivial)) fun _ _ => Tc (fun _ => Ts trivial) fun _ => Tf ed hd16 (Ts ⟨w1 hk hL,trivial⟩)
    · obtain ⟨s1,s2,s3⟩:=s
      obtain rfl : s2 = (rs.length : Int):=hs
      simp only [n43_1,dlt_nat,Nat.lt_irrefl,decide_false,cond_false]
      exact Ts trivial
theorem tapp (l : List Int) (x : Int) (n : Nat) (b : Bool) (h : l.length ≤ n) (hn : n ≤ 100) : Tot (cond b (cond (appB 8 (l.length + ([x]).length)) (let y : List Int:=l ++ ([x]); some y) none) (some l)) (fun r => r.length ≤ n + 1):=by
  refine Tc (fun _ => ?_) fun _ => Ts (by omega)
  rw [appB_ok 8 (by simp only [List.length_singleton]; omega),cond_true]
  exact Ts (by simp only [List.length_append,List.length_singleton]; omega)
theorem t10 (c : GCore) (h : CoreL c) : Tot (n10 c) (fun _ => True):=by
  have hL:=le_maxL h.rob (by omega)
  have hr:=h.rob
  unfold n10
  refine Tb (To (ok41 c)) fun _ _ => Tc (fun _ => Ts trivial) fun _ => Tb (R:=fun l => l.length ≤ 70) (Tl2 (Inv:=fun l k => l.length ≤ k) c.Rob.length 0 rfl hL (Nat.zero_le _) (Nat.le_refl _) (fun l k hi _ hk => ?_) (fun l hi => ?_)) fun rs hrs => ?_
  · simp only [n10_0,dlt_nat,decide_eq_true hk,cond_true]
    refine Tn rfl (Tg hk fun x _ _ => ?_)
    rw [appB_ok 216 (by simp only [List.length_singleton]; omega),cond_true]
    exact Ts ⟨w1 hk hL,by show (l ++ _).length ≤ k + 1; simp only [List.length_append,List.length_singleton]; omega⟩
  · simp only [n10_0,dlt_nat,Nat.lt_irrefl,decide_false,cond_false]
    exact Ts (show l.length ≤ 70 by omega)
  refine Tb (R:=fun _ => True) ?_ fun b1 _ => ?_
  · unfold n10_1
    refine Tb (t42 _ hL) fun _ _ => Tc (fun _ => Ts trivial) fun _ => Tc (fun h0 => ?_) fun _ => Ts trivial
    have h0 : 0 < c.Rob.length:=by have:=of_decide_eq_true h0; omega
    exact Tn (wI_pred h0 hL) (Tg (by omega) fun _ _ _ => Ts trivial)
  refine Tb (tapp [] 2 0 b1 (Nat.le_refl _) (by omega)) fun r2 h2 => Tb (t43 _ _ _ hrs) fun x3 _ => Tb (tapp r2 3 1 (!x3) h2 (by omega)) fun r3 h3 => Tb (t44 c h) fun x4 _ => Tb (tapp r3 4 2 (!x4) h3 (by omega)) fun r4 h4 =>
    Tb (t45 c h) fun x5 _ => Tb (tapp r4 5 3 (!x5) h4 (by omega)) fun r5 h5 => Tb (t46 c h) fun x6 _ => Tb (tapp r5 6 4 (!x6) h5 (by omega)) fun r6 h6 =>
    Tb (t47 _ _) fun x7 _ => Tb (tapp r6 7 5 (!(Arr25.eq x7 c.A.R)) h6 (by omega)) fun r7 h7 => Tb (t48 _) fun x8 _ => Tb (tapp r7 8 6 (!x8) h7 (by omega)) fun r8 h8 => Tb (t49 c h) fun x9 _ => ?_
  exact Ta (tapp r8 9 7 (!x9) h8 (by omega))
end
end Go.Ev.Pl
namespace Go.Ev.Pl
noncomputable section
theorem t50 (l : List (BitVec 8)) : Tot (n50 l) (fun _ => True):=by
  unfold n50
  exact Tr (i:=(l.length : Int)) (L:=64) (by omega) (by omega) fun _ _ => Tc (fun _ => Tc (fun _ => Ts trivial) fun _ => Ts trivial) fun _ => Ts trivial
theorem t267 (c : GCache) (t : BitVec 32) : Tot (n267 c t) (fun i => i < 0 ∨ ∃ k : Nat,i = (k : Int) ∧ k < c.Sets.length):=by
  unfold n267
  refine Tc (fun _ => Ts (.inl (by omega))) fun h => ?_
  have h : 0 < c.Sets.length:=by have:=of_decide_eq_false h; omega
  exact Tr (by omega) h fun k hk => Ts (.inr ⟨k,rfl,hk⟩)
theorem t176 (c : GCache) (k : Nat) (hk : k < c.Sets.length) (hw : ∀ s ∈ c.Sets,s.length ≤ maxL) : Tot (n176 c (k : Int)) (fun _ => True):=by
  unfold n176
  refine Tn rfl (Tg hk fun s _ hs => ?_)
  have hL:=hw s hs
  refine Tb (Tl1 s.length 0 rfl hL (Nat.zero_le _) (fun j _ hj => ?_) ?_) (fun z _ => Te (fun _ _ => Ts trivial) (fun _ _ => Ts trivial))
  · simp only [n176_0,dlt_nat,decide_eq_true hj,cond_true]
    refine Tb (R:=fun _ => True) (Tl2 (Inv:=fun _ _ => True) s.length 0 rfl hL (Nat.zero_le _) trivial (fun x i _ _ hi => ?_) (fun x _ => ?_)) (fun _ _ => Tc (fun _ => Ts trivial) fun _ => Ts (w1 hj hL))
    · simp only [n176_1,dlt_nat,decide_eq_true hi,cond_true]
      exact Tn rfl (Tg hi fun _ _ _ => Tc (fun _ => Ts ⟨w1 hi hL,trivial⟩) fun _ => Ts ⟨w1 hi hL,trivial⟩)
    · (simp only [n176_1,dlt_nat,Nat.lt_irrefl,decide_false,cond_false]; exact Ts trivial)
  · (simp only [n176_0,dlt_nat,Nat.lt_irrefl,decide_false,cond_false]; exact Ts trivial)
theorem t177 (c : GCache) (k : Nat) (hk : k < c.Sets.length) (hw : ∀ s ∈ c.Sets,s.length ≤ maxL) : Tot (n177 c (k : Int)) (fun _ => True):=by
  unfold n177
  refine Tn rfl (Tg hk fun s _ hs => ?_)
  have hL:=hw s hs
  refine Tb (Tl1 s.length 0 rfl hL (Nat.zero_le _) (fun j _ hj => ?_) ?_) (fun z _ => Te (fun _ _ => Ts trivial) (fun _ _ => Ts trivial))
  · simp only [n177_0,dlt_nat,decide_eq_true hj,cond_true]
    refine Tb (R:=fun _ => True) (by unfold n177_1; exact Tn rfl (Tg hj fun _ _ _ => Tc (fun _ => Ts trivial) fun _ => Tn rfl (Tg hj fun _ _ _ => Ts trivial))) fun _ _ => Tc (fun _ => Ts trivial) fun _ => ?_
    refine Tb (R:=fun _ => True) ?_ fun _ _ => Tc (fun _ => Ts trivial) fun _ => ?_
    · unfold n177_2
      have last : Tot ((natI (j : Int)).bind fun i59 => (s[i59]?).bind fun e59 => cond (!decide (e59.State = (0 : Int))) ((natI (j : Int)).bind fun i67 => (s[i67]?).bind fun e67 => (n267 c e67.Tag).bind fun x70 => some (!decide (x70 = (k : Int)))) (some false)) (fun _ => True):=
        Tn rfl (Tg hj fun _ _ _ => Tc (fun _ => Tn rfl (Tg hj fun _ _ _ => Tb (t267 _ _) fun _ _ => Ts trivial)) fun _ => Ts trivial)
      exact Tn rfl (Tg hj fun _ _ _ => Tc (fun _ => Tn rfl (Tg hj fun _ _ _ => Tc (fun _ => Ts trivial) fun _ => Tn rfl (Tg hj fun _ _ _ => Tc (fun _ => Ts trivial) fun _ => last))) fun _ => last)
    · refine Tb (Tl1 j 0 rfl (by omega) (Nat.zero_le _) (fun i _ hi => ?_) ?_) (fun z _ => Te (fun _ _ => Ts (w1 hj hL)) (fun _ _ => Ts trivial))
      · simp only [n177_3,dlt_nat,decide_eq_true hi,cond_true]
        have hi2 : i < s.length:=by omega
        refine Tb (R:=fun _ => True) (by unfold n177_4; exact Tn rfl (Tg hj fun _ _ _ => Tc (fun _ => Tn rfl (Tg hi2 fun _ _ _ => Tc (fun _ => Tn rfl (Tg hj fun _ _ _ => Tn rfl (Tg hi2 fun _ _ _ => Ts trivial))) fun _ => Ts trivial)) fun _ => Ts trivial)) fun _ _ => Tc (fun _ => Ts trivial) fun _ => Ts (w1 hi (by omega))
      · (simp only [n177_3,dlt_nat,Nat.lt_irrefl,decide_false,cond_false]; exact Ts trivial)
  · (simp only [n177_0,dlt_nat,Nat.lt_irrefl,decide_false,cond_false]; exact Ts trivial)
theorem t92 (c : GCache) (hw : ∀ s ∈ c.Sets,s.length ≤ maxL) (hL : c.Sets.length ≤ maxL) : Tot (n92 c) (fun _ => True):=by
  unfold n92
  refine Tb (R:=fun _ => True) (by unfold n92_0; exact Tc (fun _ => Ts trivial) fun _ => Ts trivial) fun _ _ => Tc (fun _ => Ts trivial) fun _ => ?_
  refine Tb (Tl1 c.Sets.length 0 rfl hL (Nat.zero_le _) (fun k _ hk => ?_) ?_) (fun z _ => Te (fun _ _ => Ts trivial) (fun _ _ => Ts trivial))
  · simp only [n92_1,dlt_nat,decide_eq_true hk,cond_true]
    refine Tn rfl (Tg hk fun s _ _ => Tb (R:=fun _ => True) ?_ fun _ _ => Tc (fun _ => Ts trivial) fun _ => Ts (w1 hk hL))
    unfold n92_2
    exact Tc (fun _ => Ts trivial) fun _ => Tc (fun _ => Ts trivial) fun _ => Tg (by omega) fun _ _ _ => Tc (fun _ => Ts trivial) fun _ => Tb (t176 c k hk hw) fun _ _ => Tc (fun _ => Ts trivial) fun _ => Tb (t177 c k hk hw) fun _ _ => Ts trivial
  · (simp only [n92_1,dlt_nat,Nat.lt_irrefl,decide_false,cond_false]; exact Ts trivial)
theorem t93 (m : GCoh) (t : BitVec 32) (hm : m.Mem.length ≤ 2048) : Tot (n93 m t) (fun b => b = true → t.toNat * 16 + 16 ≤ m.Mem.length):=by
  unfold n93
  refine Ts fun h => ?_
  have h : ¬ (BitVec.ofInt 64 (m.Mem.length : Int) < t.setWidth 64 * 16 + 16):=by simpa using h
  rw [BitVec.lt_def] at h
  have a : (BitVec.ofInt 64 (m.Mem.length : Int)).toNat = m.Mem.length:=by
    rw [BitVec.ofInt_natCast,BitVec.toNat_ofNat]; exact Nat.mod_eq_of_lt (by omega)
  have t4:=t.isLt
  have b : (t.setWidth 64 * 16 + 16).toNat = t.toNat * 16 + 16:=by
    rw [BitVec.toNat_add,BitVec.toNat_mul,BitVec.toNat_setWidth]
    have e16 : (16 : BitVec 64).toNat = 16:=rfl
    rw [e16]
    omega
  rw [a,b] at h
  omega
theorem t94 (m : GCoh) (t : BitVec 32) (h : t.toNat * 16 + 16 ≤ m.Mem.length) (hm : m.Mem.length ≤ 2048) : Tot (n94 m t) (fun _ => True):=by
  unfold n94
  refine Tb (R:=fun _ => True) (Tl3 (Inv:=fun _ _ => True) 16 0 rfl m16 (Nat.zero_le _) trivial (fun x k _ _ hk => ?_) (fun x _ => ?_)) (fun _ _ => Ts trivial)
  · simp only [n94_0,lt16 hk,cond_true]
    have e1 : wI ((t.toNat : Int) * 16) = ((t.toNat * 16 : Nat) : Int):=by
      rw [← wI_nat (k:=t.toNat * 16) (by simp only [maxL]; omega)]; rfl
    have e2 : wI (((t.toNat * 16 : Nat) : Int) + (k : Int)) = ((t.toNat * 16 + k : Nat) : Int):=by
      rw [← wI_nat (k:=t.toNat * 16 + k) (by simp only [maxL]; omega)]; rfl
    rw [e1]
    exact Tn e2 (Tg (by omega) fun _ _ _ => Tf rfl hk (Ts ⟨w1 hk m16,trivial⟩))
  · have e : decide (((16 : Nat) : Int) < 16) = false:=by decide
    simp only [n94_0,e,cond_false]
    exact Ts trivial
theorem t178 (m : GCoh) (i : Int) : Tot (n178 m i) (fun b => b = true → ∃ k : Nat,i = (k : Int) ∧ k < m.Caches.length):=by
  unfold n178
  refine Tc (fun h0 => Ts fun h1 => ?_) fun _ => Ts fun h => by cases h
  exact idx_of i _ (by simpa using h0) h1
theorem t268 (c : GCache) (t : BitVec 32) (hw : ∀ s ∈ c.Sets,s.length ≤ maxL) : Tot (n268 c t) (fun r => r.2.2 = true → ∃ (i j : Nat) (s : List GWay),r.1 = (i : Int) ∧ r.2.1 = (j : Int) ∧ c.Sets[i]? = .some s ∧ j < s.length):=by
  unfold n268
  refine Tb (t267 c t) fun x hx => Tc (fun _ => Ts fun h => by cases h) fun h => ?_
  obtain ⟨i,rfl,hi⟩ : ∃ k : Nat,x = (k : Int) ∧ k < c.Sets.length:=by
    have:=of_decide_eq_false h
    rcases hx with h' | h'
    · omega
    · exact h'
  obtain ⟨s,es,hs⟩:=get_some hi
  have hL:=hw s hs
  have body : ∀ k : Nat,n268_0 t (i : Int) c (k : Int) = cond (decide (k < s.length)) ((n268_1 t (i : Int) (k : Int) c).bind fun r1 => cond r1 (some (Sum.inr (Sum.inr (k : Int)))) (some (Sum.inl (wI ((k : Int) + (1 : Int)))))) (some (Sum.inr (Sum.inl ()))):=fun k => by
    simp only [n268_0,natI_nat,Option.bind_some,es,dlt_nat]
  refine Tb (R:=Sum.elim (fun _ => True) (fun r => ∃ j : Nat,r = (j : Int) ∧ j < s.length)) (Tl (idx:=id) (Inv:=fun _ _ => True) s.length 0 hL (Nat.zero_le _) rfl trivial (fun q k hq _ _ hk => ?_) (fun q hq _ => ?_)) (fun z hz => ?_)
  · obtain rfl : q = (k : Int):=hq
    rw [body,decide_eq_true hk,cond_true]
    refine Tb (R:=fun _ => True) ?_ fun _ _ => Tc (fun _ => Ts ⟨k,rfl,hk⟩) fun _ => Ts ⟨w1 hk hL,trivial⟩
    unfold n268_1
    rw [natI_nat,Option.bind_some,es,Option.bind_some]
    exact Tn rfl (Tg hk fun _ _ _ => Tc (fun _ => by
      rw [natI_nat,Option.bind_some,es,Option.bind_some]
      exact Tn rfl (Tg hk fun _ _ _ => Ts trivial)) fun _ => Ts trivial)
  · obtain rfl : q = (s.length : Int):=hq
    rw [body,decide_eq_false (Nat.lt_irrefl _),cond_false]
    exact Ts trivial
  · cases z with
    | inl a => exact Ts fun h => by cases h
    | inr r =>
      obtain ⟨j,rfl,hj⟩:=hz
      exact Ts fun _ => ⟨i,j,s,rfl,rfl,es,hj⟩
theorem t179 (c : GCache) (t : BitVec 32) (hw : ∀ s ∈ c.Sets,s.length ≤ maxL) : Tot (n179 c t) (fun _ => True):=by
  unfold n179
  refine Tb (t268 c t hw) fun r hr => Tc (fun _ => Ts trivial) fun h => ?_
  obtain ⟨i,j,s,e1,e2,es,hj⟩:=hr (by simpa using h)
  refine Tn e1 ?_
  rw [es]
  exact Tn e2 (Tg hj fun _ _ _ => Ts trivial)
theorem t95 (m : GCoh) (i : Int) (t : BitVec 32) (h : CohL m) : Tot (n95 m i t) (fun _ => True):=by
  unfold n95
  refine Tb (t178 m i) fun b hb => Tc (fun _ => Ts trivial) fun hf => ?_
  obtain ⟨k,e,hk⟩:=hb (by simpa using hf)
  exact Tn e (Tg hk fun c _ hc => Tb (t179 c t (h.ways c hc)) fun _ _ => Ts trivial)
theorem t96 (l : List Int) (hL : l.length ≤ maxL) : Tot (n96 l) (fun _ => True):=by
  unfold n96
  refine Tb (R:=fun _ => True) (Tl (idx:=fun s => s.2.2) (Inv:=fun _ _ => True) l.length 0 hL (Nat.zero_le _) rfl trivial (fun s k hs _ _ hk => ?_) (fun s hs _ => ?_)) (fun z _ => Te (fun _ _ => Tc (fun _ => Ts trivial) fun _ => Ts trivial) (fun _ _ => Ts trivial))
  · obtain ⟨s1,s2,s3⟩:=s
    obtain rfl : s3 = (k : Int):=hs
    simp only [n96_0,dlt_nat,decide_eq_true hk,cond_true]
    refine Tb (R:=fun _ => True) (by unfold n96_1; exact Tn rfl (Tg hk fun _ _ _ => Tc (fun _ => Ts trivial) fun _ => Tn rfl (Tg hk fun _ _ _ => Ts trivial))) fun _ _ => Tc (fun _ => Ts trivial) fun _ => ?_
    exact Tn rfl (Tg hk fun _ _ _ => Tb (R:=fun _ => True) (by unfold n96_2; exact Tc (fun _ => Ts trivial) fun _ => Ts trivial) fun _ _ => Tn rfl (Tg hk fun _ _ _ => Tc (fun _ => Ts ⟨w1 hk hL,trivial⟩) fun _ => Ts ⟨w1 hk hL,trivial⟩))
  · obtain ⟨s1,s2,s3⟩:=s
    obtain rfl : s3 = (l.length : Int):=hs
    simp only [n96_0,dlt_nat,Nat.lt_irrefl,decide_false,cond_false]
    exact Ts trivial
theorem t51 (m : GCoh) (h : CohL m) (hm : m.Mem.length ≤ 2048) (hc : m.Caches.length ≤ 2) : Tot (n51 m) (fun _ => True):=by
  unfold n51
  refine Tb (Tl1 m.Caches.length 0 rfl h.caches (Nat.zero_le _) (fun k _ hk => ?_) ?_) (fun z _ => Te (fun _ _ => Ts trivial) (fun _ _ => Ts trivial))
  · simp only [n51_0,dlt_nat,decide_eq_true hk,cond_true]
    obtain ⟨c,ec,hcm⟩:=get_some hk
    rw [natI_nat,Option.bind_some,ec,Option.bind_some]
    have hL:=h.sets c hcm
    refine Tb (t92 c (h.ways c hcm) hL) fun _ _ => Tc (fun _ => Ts trivial) fun _ => ?_
    refine Tb (Tl1 c.Sets.length 0 rfl hL (Nat.zero_le _) (fun j _ hj => ?_) ?_) (fun z _ => Te (fun _ _ => Ts (w1 hk h.caches)) (fun _ _ => Ts trivial))
    · simp only [n51_1,natI_nat,Option.bind_some,ec,dlt_nat,decide_eq_true hj,cond_true]
      obtain ⟨s,es,hsm⟩:=get_some hj
      have hS:=h.ways c hcm s hsm
      refine Tb (Tl1 s.length 0 rfl hS (Nat.zero_le _) (fun i _ hi => ?_) ?_) (fun z _ => Te (fun _ _ => Ts (w1 hj hL)) (fun _ _ => Ts trivial))
      · simp only [n51_2,natI_nat,Option.bind_some,ec,es,dlt_nat,decide_eq_true hi,cond_true]
        refine Tg hi fun w _ _ => Tc (fun _ => Ts (w1 hi hS)) fun _ => Tb (R:=fun _ => True) ?_ fun _ _ => Tc (fun _ => Ts trivial) fun _ => ?_
        · unfold n51_3
          exact Tb (t93 m w.Tag hm) fun b hb => Tc (fun _ => Ts trivial) fun hf => Tc (fun _ => Tb (t94 m w.Tag (hb (by simpa using hf)) hm) fun _ _ => Ts trivial) fun _ => Ts trivial
        · refine Tb (R:=fun l => l.length ≤ 2) (Tl2 (Inv:=fun l q => l.length ≤ q) m.Caches.length 0 rfl h.caches (Nat.zero_le _) (Nat.le_refl _) (fun l q hq _ hk2 => ?_) (fun l hq => ?_)) fun l hl => Tb (t96 l (le_maxL hl (by omega))) fun _ _ => Tc (fun _ => Ts trivial) fun _ => Ts (w1 hi hS)
          · simp only [n51_4,dlt_nat,decide_eq_true hk2,cond_true]
            refine Tb (t95 m _ _ h) fun x _ => ?_
            rw [appB_ok 8 (by simp only [List.length_singleton]; omega),cond_true]
            exact Ts ⟨w1 hk2 h.caches,by show (l ++ _).length ≤ q + 1; simp only [List.length_append,List.length_singleton]; omega⟩
          · simp only [n51_4,dlt_nat,Nat.lt_irrefl,decide_false,cond_false]
            exact Ts (show l.length ≤ 2 by omega)
      · simp only [n51_2,natI_nat,Option.bind_some,ec,es,dlt_nat,Nat.lt_irrefl,decide_false,cond_false]
        exact Ts trivial
    · simp only [n51_1,natI_nat,Option.bind_some,ec,dlt_nat,Nat.lt_irrefl,decide_false,cond_false]
      exact Ts trivial
  · (simp only [n51_0,dlt_nat,Nat.lt_irrefl,decide_false,cond_false]; exact Ts trivial)
theorem t11 (m : GCoh) (h : CohL m) (hm : m.Mem.length ≤ 2048) : Tot (n11 m) (fun _ => True):=by
  unfold n11
  exact Tb (t50 _) fun _ _ => Tc (fun _ => Tc (fun _ => Tc (fun hc => Tb (t51 m h hm (by have:=nl_of_dec hc; omega)) fun _ _ => Ts trivial) fun _ => Ts trivial) fun _ => Ts trivial) fun _ => Ts trivial
theorem t4 (c : GCore) (m : GCoh) (i : Int) (h : CohL m) : Tot (n4 c m i) (fun b => b = true → CoreL c):=by
  unfold n4
  refine Tb (R:=fun b => b = false → CoreL c ∧ m.Mem.length ≤ 2048) ?_ fun b hb => Tc (fun _ => Ts fun h => by cases h) fun hf => ?_
  · unfold n4_0
    refine Tb (t9 c) fun b hb => Tc (fun _ => Ts fun h => by cases h) fun h0 => Tc (fun _ => Ts fun h => by cases h) fun h1 => ?_
    have hc : CoreL c:=hb (by simpa using h0)
    have hm : m.Mem.length ≤ 2048:=by have:=not_lt_of_dec h1; omega
    exact Tc (fun _ => Ts fun h => by cases h) fun _ => Tc (fun _ => Ts fun h => by cases h) fun _ => Tc (fun _ => Ts fun h => by cases h) fun _ => Ts fun _ => ⟨hc,hm⟩
  · obtain ⟨hc,hm⟩:=hb hf
    exact Tb (t10 c hc) fun _ _ => Tc (fun _ => Tb (t11 m h hm) fun _ _ => Ts fun _ => hc) fun _ => Ts fun h => by cases h
end
end Go.Ev.Pl
namespace Go.Ev.Pl
noncomputable section
theorem l_set_self {α : Type} {n : Nat} (a : Arr α n) (k : Fin n) : a.set k (a.at' k) = a:=by
  apply Arr.ext
  simp [Arr.set,Arr.at']
theorem e17 (a : GArch) : n17 a 0 = some a:=by
  unfold n17
  rw [show (10 : Int) = ((10 : Nat) : Int) from rfl,finI_nat (n:=12) (k:=10) (by omega)]
  have e : ∀ x : BitVec 32,x ||| ((0 : BitVec 32) &&& 7) = x:=fun x => by simp
  simp only [Option.bind_some,e,l_set_self]
  rfl
theorem law (c : GCore) (m : GCoh) (i : Int) (h : CohL m) : n3 c m i = some true:=by
  obtain ⟨b,e,hb⟩:=t4 c m 0 h
  unfold n3
  rw [e,Option.bind_some]
  cases b with
  | false => rfl
  | true =>
    have hc:=hb rfl
    have e6 : ∃ (w : Int) (us : List GFlight),us.length = c.Units.length ∧ n6 c m 0 ((GTick.zero.setStall (31 : BitVec 32)).setPick i) = some (((c.setWait w).setUnits us).setCycle (wI (c.Cycle + 1)),m,[],[],[]):=by
      unfold n6
      rw [show ((GTick.zero.setStall (31 : BitVec 32)).setPick i).Lines = 0 from rfl,e17,Option.bind_some]
      have ec : c.setA c.A = c:=rfl
      rw [ec]
      refine ⟨bif decide (0 < c.Wait) then wI (c.Wait - 1) else c.Wait,c.Units.map tickF,by simp,?_⟩
      cases decide (0 < c.Wait) <;> rfl
    obtain ⟨w,us,hu,e6⟩:=e6
    simp only [Bool.not_true,cond_false]
    show ((n6 c m 0 ((GTick.zero.setStall (31 : BitVec 32)).setPick i)).bind _) = _
    rw [e6,Option.bind_some]
    have e30 : n3_0 [] [] [] c m (((c.setWait w).setUnits us).setCycle (wI (c.Cycle + 1))) m = some false:=by
      unfold n3_0
      rw [r7 m h]
      have ea : GArch.eq ((((c.setWait w).setUnits us).setCycle (wI (c.Cycle + 1))).A) c.A = true:=rArch _
      have eu : ((((c.setWait w).setUnits us).setCycle (wI (c.Cycle + 1))).Units.length : Int) = (c.Units.length : Int):=by
        show ((us.length : Nat) : Int) = _; rw [hu]
      have e0 : decide ((0 : Int) < ((([] : List GEvent).length : Nat) : Int)) = false:=rfl
      have e1 : decide ((0 : Int) < ((([] : List GNote).length : Nat) : Int)) = false:=rfl
      have e2 : decide ((0 : Int) < ((([] : List (BitVec 32)).length : Nat) : Int)) = false:=rfl
      have e3 : (((c.setWait w).setUnits us).setCycle (wI (c.Cycle + 1))).Cycle = wI (c.Cycle + 1):=rfl
      have e4 : (((c.setWait w).setUnits us).setCycle (wI (c.Cycle + 1))).PC = c.PC:=rfl
      rw [e0,e1,e2,ea,eu]
      simp only [cond_false,cond_true,Option.bind_some,Bool.not_true,e3,e4,decide_true]
    show ((n3_0 [] [] [] c m (((c.setWait w).setUnits us).setCycle (wI (c.Cycle + 1))) m).bind _) = _
    rw [e30,Option.bind_some,cond_false]
    have e8 : ((((((c.setWait w).setUnits us).setCycle (wI (c.Cycle + 1))).setUnits c.Units).setCycle c.Cycle).setWait c.Wait) = c:=by
      simp only [GCore.setUnits,GCore.setCycle,GCore.setWait]
    rw [e8,r8 c hc]
    rfl
end
end Go.Ev.Pl
