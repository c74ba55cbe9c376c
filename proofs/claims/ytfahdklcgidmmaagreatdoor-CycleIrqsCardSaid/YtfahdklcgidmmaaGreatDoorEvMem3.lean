/- A part of the evaluator and of the proof that its word holds in the model (EvMem3). -/
import Derived.Test.YtfahdklcgidmmaaGreatDoorEvMem2
namespace Go.Ev

def Phi.upd (φ : Phi) (b : Nat) (x : Nat × Nat × Nat) : Phi := ⟨fun i => if i = b then some x else φ i, φ.ro⟩

theorem Phi.upd_same (φ : Phi) (b : Nat) (x : Nat × Nat × Nat) : φ.upd b x b = some x := by simp [Phi.upd]
theorem Phi.upd_other (φ : Phi) {b i : Nat} (x : Nat × Nat × Nat) (h : i ≠ b) : φ.upd b x i = φ i := by simp [Phi.upd, h]
theorem Phi.le_upd {φ : Phi} {b : Nat} (x : Nat × Nat × Nat) (h : φ b = none) : φ.le (φ.upd b x) := by
  refine ⟨fun i y hy => ?_, rfl⟩
  by_cases e : i = b
  · subst e; rw [h] at hy; cases hy
  · rw [Phi.upd_other φ x e]; exact hy

section
variable {P : Program} {φ ψ : Phi} {h : H} {W W' : World}

theorem RW.none_nb (r : RW φ h W) {b : Nat} (hb : h.nb ≤ b) : φ b = none := by
  cases e : φ b with
  | none => rfl
  | some x => have := (r.img b x e).1; omega

theorem RW.push (r : RW φ h W) (hold : ∀ i, i < W.heap.size → W'.heap[i]? = W.heap[i]?) (hs : W.heap.size ≤ W'.heap.size) : RW φ h W' where
  blk b k hb := by
    obtain ⟨x, c, e, fz, hx, hc, rest⟩ := r.blk b k hb
    exact ⟨x, c, e, fz, hx, by rw [hold x.1 (r.img b x hx).2]; exact hc, rest⟩
  img b x hx := ⟨(r.img b x hx).1, by have := (r.img b x hx).2; omega⟩
  fresh := r.fresh
  alias := r.alias
  grp := r.grp
  ros wb h := by have := r.ros wb h; omega

theorem RW.soft_new (r : RW φ h W) {wb : Nat} (hwb : W.heap.size ≤ wb) : φ.ro wb = false := by
  cases e : φ.ro wb with
  | false => rfl
  | true => have := r.ros wb e; omega

theorem RW.add (r : RW φ h W) {cs : List V} {wb : Nat} {cc : Array Value} {e : TypeId} {fz : Nat × Nat} (hwb : W.heap[wb]? = some (.cells cc e fz)) (hfz : fz.2 ≤ fz.1 ∨ cc.size ≤ fz.1) (hro : φ.ro wb = false)
    (hnew : ∀ b x, φ b = some x → x.1 ≠ wb) (hlen : cs.length ≤ cc.size)
    (hcells : ∀ (j : Nat) (v : V), cs[j]? = some v → one v = true ∧ ∃ y, cc[j]? = some y ∧ RV (φ.upd h.nb (wb, 0, cc.size)) v y) :
    RW (φ.upd h.nb (wb, 0, cc.size)) (h.alloc cs) W where
  blk b k hb := by
    simp only [H.alloc, T.get_set] at hb
    split at hb
    · rename_i e'
      cases hb
      subst e'
      refine ⟨(wb, 0, cc.size), cc, e, fz, Phi.upd_same _ _ _, hwb, by simp, hlen, .inr ⟨hro, hfz⟩, fun j v hv => .inr ?_⟩
      simpa using hcells j v hv
    · rename_i hne
      obtain ⟨x, c, e', fz', hx, hc, h1, h2, h3, h4⟩ := r.blk b k hb
      refine ⟨x, c, e', fz', by rw [Phi.upd_other _ _ hne]; exact hx, hc, h1, h2, h3, fun j v hv => ?_⟩
      rcases h4 j v hv with hz | ⟨ho, y, hy, hr⟩
      · exact .inl hz
      · exact .inr ⟨ho, y, hy, RV.mono (Phi.le_upd _ (r.none_nb (Nat.le_refl _))) _ _ hr⟩
  img b x hx := by
    by_cases e' : b = h.nb
    · subst e'
      rw [Phi.upd_same] at hx
      cases hx
      refine ⟨by simp [H.alloc], ?_⟩
      obtain ⟨hlt, _⟩ := Array.getElem?_eq_some_iff.1 hwb
      exact hlt
    · rw [Phi.upd_other _ _ e'] at hx
      have := r.img b x hx
      exact ⟨by simp only [H.alloc]; omega, this.2⟩
  fresh b hb := by
    simp only [H.alloc] at hb
    simp only [H.alloc, T.get_set]
    rw [if_neg (by omega)]
    exact r.fresh b (by omega)
  alias b1 b2 k1 k2 x1 x2 h1 h2 e1 e2 hw := by
    simp only [H.alloc, T.get_set] at h1 h2
    split at h1
    · rename_i c1
      split at h2
      · rename_i c2
        cases h1; cases h2
        subst c1; subst c2
        rw [e1] at e2; cases e2
        exact ⟨rfl, rfl⟩
      · rename_i c2
        subst c1
        rw [Phi.upd_same] at e1; cases e1
        rw [Phi.upd_other _ _ c2] at e2
        exact (hnew b2 x2 e2 hw.symm).elim
    · rename_i c1
      rw [Phi.upd_other _ _ c1] at e1
      split at h2
      · rename_i c2
        subst c2
        rw [Phi.upd_same] at e2; cases e2
        exact (hnew b1 x1 e1 hw).elim
      · rename_i c2
        rw [Phi.upd_other _ _ c2] at e2
        exact r.alias b1 b2 k1 k2 x1 x2 h1 h2 e1 e2 hw
  grp b k hb := by
    simp only [H.alloc, T.get_set] at hb
    split at hb
    · rename_i c1
      cases hb
      exact .inl c1
    · exact r.grp b k hb
  ros := r.ros

theorem Made.ext {cs : List V} {cc : Array Value} (m : Made ψ cs W W' cc) : Ext φ W W' where
  size := by rw [m.size]; omega
  out wb hwb _ := m.old wb hwb
  shape wb c e fz hc := ⟨c, by
    rw [m.old wb]
    · exact hc
    · obtain ⟨hlt, _⟩ := Array.getElem?_eq_some_iff.1 hc
      exact hlt, rfl⟩
  tape := m.tape
  os := m.os
  output := m.output

theorem grow_upd (r : RW φ h W) {x : Nat × Nat × Nat} (hx : W.heap.size ≤ x.1) : Grow φ (φ.upd h.nb x) W where
  le := Phi.le_upd _ (r.none_nb (Nat.le_refl _))
  new b y hy hlt := by
    by_cases e : b = h.nb
    · subst e
      rw [Phi.upd_same] at hy; cases hy
      omega
    · rw [Phi.upd_other _ _ e] at hy
      exact ⟨b, y, hy, rfl⟩

/-- what is made, into the heap -/
theorem RW.made (r : RW φ h W) {cs : List V} {cc : Array Value} (m : Made φ cs W W' cc) :
    RW (φ.upd h.nb (W.heap.size, 0, cc.size)) (h.alloc cs) W' ∧ Grow φ (φ.upd h.nb (W.heap.size, 0, cc.size)) W ∧ Ext φ W W' := by
  obtain ⟨e, fz, hat, hfz⟩ := m.at_
  have r' : RW φ h W' := r.push m.old (by rw [m.size]; omega)
  refine ⟨r'.add hat hfz (r.soft_new (Nat.le_refl _)) (fun b x hx => ?_) m.fits (fun j v hv => ?_), grow_upd r (Nat.le_refl _), m.ext⟩
  · have := (r.img b x hx).2; omega
  · obtain ⟨h1, y, hy, hr⟩ := m.cells j v hv
    exact ⟨h1, y, hy, RV.mono (Phi.le_upd _ (r.none_nb (Nat.le_refl _))) _ _ hr⟩

/-! stores -/

theorem setCells_heap (b : Nat) : ∀ (vs : List Value) (o : Nat) (W : World) (c : Array Value) (e : TypeId) (fz : Nat × Nat), W.heap[b]? = some (.cells c e fz) → o + vs.length ≤ c.size →
    ∃ c' : Array Value, (W.setCells b o vs).heap[b]? = some (.cells c' e fz) ∧ c'.toList = putN c.toList o vs ∧ (∀ k, k ≠ b → (W.setCells b o vs).heap[k]? = W.heap[k]?) ∧
      (W.setCells b o vs).heap.size = W.heap.size ∧ (W.setCells b o vs).tape = W.tape ∧ (W.setCells b o vs).os = W.os ∧ (W.setCells b o vs).output = W.output := by
  intro vs
  induction vs with
  | nil =>
    intro o W c e fz hc _
    refine ⟨c, hc, ?_, fun _ _ => rfl, rfl, rfl, rfl, rfl⟩
    apply List.ext_getElem?
    intro j
    rw [get_putN, if_neg (by simp; omega)]
  | cons v vs ih =>
    intro o W c e fz hc hlen
    simp only [List.length_cons] at hlen
    have h1 : (W.setCell ⟨b, o, none⟩ v).heap[b]? = some (.cells (c.setIfInBounds o v) e fz) := by
      simp [World.setCell, Array.getElem?_modify, hc]
    have h2 : ∀ k, k ≠ b → (W.setCell ⟨b, o, none⟩ v).heap[k]? = W.heap[k]? := by
      intro k hk
      simp [World.setCell, Array.getElem?_modify, Ne.symm hk]
    obtain ⟨c', g1, g2, g3, g4, g5, g6, g7⟩ := ih (o + 1) (W.setCell ⟨b, o, none⟩ v) _ e fz h1 (by simp; omega)
    refine ⟨c', g1, ?_, fun k hk => (g3 k hk).trans (h2 k hk), g4.trans (by simp [World.setCell]), g5, g6, g7⟩
    rw [g2, Array.toList_setIfInBounds, putN_cons _ _ _ _ (by simp; omega)]

theorem zs_length (n : Nat) : (zs n).length = n := by induction n <;> simp_all [zs]
theorem zs_get {n j : Nat} {v : V} (h : (zs n)[j]? = some v) : v = .z := by
  induction n generalizing j with
  | zero => simp [zs] at h
  | succ n ih =>
    cases j with
    | zero => simp [zs] at h; exact h.symm
    | succ j => simp [zs] at h; exact ih h

/-- a poisoned block: cell by cell as before or poison; poison throughout the range -/
structure Poi (k k' : Blk) (pos n : Nat) : Prop where
  grp : k'.grp = k.grp
  dl : k'.dl = k.dl
  len : k'.cells.length = k.cells.length
  get : ∀ (j : Nat) (v : V), k'.cells[j]? = some v → v = .z ∨ (k.cells[j]? = some v ∧ ¬ (pos ≤ k.dl + j ∧ k.dl + j < pos + n))

theorem poi_refl {k : Blk} {pos n : Nat} (h : ∀ j, j < k.cells.length → ¬ (pos ≤ k.dl + j ∧ k.dl + j < pos + n)) : Poi k k pos n :=
  ⟨rfl, rfl, rfl, fun j v hv => .inr ⟨hv, h j (by obtain ⟨hlt, _⟩ := List.getElem?_eq_some_iff.1 hv; exact hlt)⟩⟩

theorem poi_B (k : Blk) (pos n : Nat) : Poi k (poisonB k pos n) pos n := by
  unfold poisonB
  simp only [cond_eq_ite, Nat.ble_eq]
  split
  · rename_i hle
    refine ⟨rfl, rfl, by simp [length_putN], fun j v hv => ?_⟩
    simp only [get_putN, zs_length] at hv
    split at hv
    · exact .inl (zs_get hv)
    · rename_i hc
      refine .inr ⟨hv, fun ⟨h1, h2⟩ => hc ⟨by omega, by omega, ?_⟩⟩
      obtain ⟨hlt, _⟩ := List.getElem?_eq_some_iff.1 hv
      exact hlt
  · rename_i hle
    refine ⟨rfl, rfl, by simp [length_putN], fun j v hv => ?_⟩
    simp only [get_putN, zs_length] at hv
    split at hv
    · exact .inl (zs_get hv)
    · rename_i hc
      refine .inr ⟨hv, fun ⟨h1, h2⟩ => hc ⟨by omega, by omega, ?_⟩⟩
      obtain ⟨hlt, _⟩ := List.getElem?_eq_some_iff.1 hv
      exact hlt

theorem Poi.trans {k k' k'' : Blk} {pos n : Nat} (h : Poi k k' pos n) (g : Poi k' k'' pos n) : Poi k k'' pos n :=
  ⟨g.grp.trans h.grp, g.dl.trans h.dl, g.len.trans h.len, fun j v hv => by
    rcases g.get j v hv with hz | ⟨hv', _⟩
    · exact .inl hz
    · exact h.get j v hv'⟩

theorem poisonL_ok (skip pos n : Nat) : ∀ (l : List Nat) (bl : T Blk),
    (∀ b, (poisonL skip pos n l bl).get b = none ↔ bl.get b = none) ∧
    (∀ b k', (poisonL skip pos n l bl).get b = some k' → ∃ k, bl.get b = some k ∧ ((b = skip ∧ k' = k) ∨ (b ≠ skip ∧ ((b ∉ l ∧ k' = k) ∨ (b ∈ l ∧ Poi k k' pos n))))) := by
  intro l
  induction l with
  | nil =>
    intro bl
    refine ⟨fun b => by simp [poisonL], fun b k' hb => ⟨k', hb, ?_⟩⟩
    by_cases e : b = skip
    · exact .inl ⟨e, rfl⟩
    · exact .inr ⟨e, .inl ⟨by simp, rfl⟩⟩
  | cons c l ih =>
    intro bl
    simp only [poisonL, cond_eq_ite, Nat.beq_eq]
    split
    · rename_i hc
      subst hc
      obtain ⟨h1, h2⟩ := ih bl
      refine ⟨h1, fun b k' hb => ?_⟩
      obtain ⟨k, hk, hh⟩ := h2 b k' hb
      refine ⟨k, hk, ?_⟩
      rcases hh with hh | ⟨hne, hh⟩
      · exact .inl hh
      · refine .inr ⟨hne, ?_⟩
        rcases hh with ⟨hm, he⟩ | ⟨hm, hp⟩
        · exact .inl ⟨by simp [hne, hm], he⟩
        · exact .inr ⟨by simp [hm], hp⟩
    · rename_i hcs
      split
      · rename_i hn
        obtain ⟨h1, h2⟩ := ih bl
        refine ⟨h1, fun b k' hb => ?_⟩
        obtain ⟨k, hk, hh⟩ := h2 b k' hb
        refine ⟨k, hk, ?_⟩
        rcases hh with hh | ⟨hne, hh⟩
        · exact .inl hh
        · refine .inr ⟨hne, ?_⟩
          have hbc : b ≠ c := fun e => by subst e; rw [hn] at hk; cases hk
          rcases hh with ⟨hm, he⟩ | ⟨hm, hp⟩
          · exact .inl ⟨by simp [hbc, hm], he⟩
          · exact .inr ⟨by simp [hm], hp⟩
      · rename_i kc hkc
        split
        · rename_i hout
          simp only [Bool.or_eq_true, Nat.ble_eq, len_eq] at hout
          obtain ⟨h1, h2⟩ := ih bl
          refine ⟨h1, fun b k' hb => ?_⟩
          obtain ⟨k, hk, hh⟩ := h2 b k' hb
          refine ⟨k, hk, ?_⟩
          rcases hh with hh | ⟨hne, hh⟩
          · exact .inl hh
          · refine .inr ⟨hne, ?_⟩
            rcases hh with ⟨hm, he⟩ | ⟨hm, hp⟩
            · by_cases hbc : b = c
              · subst hbc
                rw [hkc] at hk; cases hk
                subst he
                exact .inr ⟨by simp, poi_refl fun j hj => by omega⟩
              · exact .inl ⟨by simp [hbc, hm], he⟩
            · exact .inr ⟨by simp [hm], hp⟩
        · obtain ⟨h1, h2⟩ := ih (bl.set c (poisonB kc pos n))
          refine ⟨fun b => ?_, fun b k' hb => ?_⟩
          · rw [h1 b, T.get_set]
            split
            · rename_i e; subst e; simp [hkc]
            · rfl
          · obtain ⟨k, hk, hh⟩ := h2 b k' hb
            rw [T.get_set] at hk
            split at hk
            · rename_i e
              cases hk
              subst e
              refine ⟨kc, hkc, .inr ⟨hcs, .inr ⟨by simp, ?_⟩⟩⟩
              rcases hh with ⟨he, _⟩ | ⟨_, ⟨_, he⟩ | ⟨_, hp⟩⟩
              · exact (hcs he).elim
              · subst he; exact poi_B kc pos n
              · exact (poi_B kc pos n).trans hp
            · rename_i hbc
              refine ⟨k, hk, ?_⟩
              rcases hh with hh | ⟨hne, hh⟩
              · exact .inl hh
              · refine .inr ⟨hne, ?_⟩
                rcases hh with ⟨hm, he⟩ | ⟨hm, hp⟩
                · exact .inl ⟨by simp [hbc, hm], he⟩
                · exact .inr ⟨by simp [hm], hp⟩

end
end Go.Ev
