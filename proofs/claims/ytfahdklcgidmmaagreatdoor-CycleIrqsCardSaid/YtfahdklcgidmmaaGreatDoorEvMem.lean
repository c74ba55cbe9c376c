/- A part of the evaluator and of the proof that its word holds in the model (EvMem). -/
import Derived.Test.YtfahdklcgidmmaaGreatDoorEvPure6
import Derived.Laws.World
namespace Go.Ev

/-! the heap -/

/-- a block is only read, and bears the mark; or no cell of it is frozen -/
def Soft (φ : Phi) (wb dl : Nat) (c : Array Value) (fz : Nat × Nat) : Prop := (φ.ro wb = true ∧ roC ≤ dl) ∨ (φ.ro wb = false ∧ (fz.2 ≤ fz.1 ∨ c.size ≤ fz.1))

structure RW (φ : Phi) (h : H) (W : World) : Prop where
  blk : ∀ b k, h.bl.get b = some k → ∃ (x : Nat × Nat × Nat) (c : Array Value) (e : TypeId) (fz : Nat × Nat), φ b = some x ∧ W.heap[x.1]? = some (.cells c e fz) ∧ x.2.1 + x.2.2 = c.size ∧ k.cells.length ≤ x.2.2 ∧ Soft φ x.1 k.dl c fz ∧
    ∀ (j : Nat) (v : V), k.cells[j]? = some v → v = .z ∨ (one v = true ∧ ∃ y, c[x.2.1 + j]? = some y ∧ RV φ v y)
  img : ∀ b x, φ b = some x → b < h.nb ∧ x.1 < W.heap.size
  fresh : ∀ b, h.nb ≤ b → h.bl.get b = none
  alias : ∀ b1 b2 k1 k2 x1 x2, h.bl.get b1 = some k1 → h.bl.get b2 = some k2 → φ b1 = some x1 → φ b2 = some x2 → x1.1 = x2.1 → k1.grp = k2.grp ∧ x1.2.1 + k2.dl = x2.2.1 + k1.dl
  grp : ∀ b k, h.bl.get b = some k → b = k.grp ∨ ∃ l, h.gr.get k.grp = some l ∧ b ∈ l
  ros : ∀ wb, φ.ro wb = true → wb < W.heap.size

/-- how the memory has gone on: what is not led to is as it was; every row of cells stands, as long and as frozen as before -/
structure Ext (φ : Phi) (W W' : World) : Prop where
  size : W.heap.size ≤ W'.heap.size
  out : ∀ wb : Nat, wb < W.heap.size → (∀ b x, φ b = some x → x.1 = wb → φ.ro wb = true) → W'.heap[wb]? = W.heap[wb]?
  shape : ∀ (wb : Nat) (c : Array Value) (e : TypeId) (fz : Nat × Nat), W.heap[wb]? = some (.cells c e fz) → ∃ c' : Array Value, W'.heap[wb]? = some (.cells c' e fz) ∧ c'.size = c.size
  tape : W'.tape = W.tape
  os : W'.os = W.os
  output : W'.output = W.output

/-- how the map has grown: what it leads to anew is new, or was led to before -/
structure Grow (φ φ' : Phi) (W : World) : Prop where
  le : φ.le φ'
  new : ∀ b x, φ' b = some x → x.1 < W.heap.size → ∃ b' x', φ b' = some x' ∧ x'.1 = x.1

theorem Phi.le_refl (φ : Phi) : φ.le φ := ⟨fun _ _ h => h, rfl⟩
theorem Phi.le_trans {φ ψ χ : Phi} (h : φ.le ψ) (k : ψ.le χ) : φ.le χ := ⟨fun b x e => k.sub b x (h.sub b x e), k.ro.trans h.ro⟩

theorem Grow.refl (φ : Phi) (W : World) : Grow φ φ W := ⟨Phi.le_refl φ, fun b x h _ => ⟨b, x, h, rfl⟩⟩

theorem Grow.trans {φ ψ χ : Phi} {W W' : World} (h : Grow φ ψ W) (k : Grow ψ χ W') (hs : W.heap.size ≤ W'.heap.size) : Grow φ χ W :=
  ⟨Phi.le_trans h.le k.le, fun b x e hx => by
    obtain ⟨b', x', e', hx'⟩ := k.new b x e (by omega)
    obtain ⟨b'', x'', e'', hx''⟩ := h.new b' x' e' (by omega)
    exact ⟨b'', x'', e'', by omega⟩⟩

theorem Ext.refl (φ : Phi) (W : World) : Ext φ W W :=
  ⟨Nat.le_refl _, fun _ _ _ => rfl, fun _ c _ _ h => ⟨c, h, rfl⟩, rfl, rfl, rfl⟩

theorem Ext.trans {φ ψ : Phi} {W W1 W2 : World} (h : Ext φ W W1) (k : Ext ψ W1 W2) (g : Grow φ ψ W) : Ext φ W W2 where
  size := Nat.le_trans h.size k.size
  out wb hwb hout := by
    rw [k.out wb (by have := h.size; omega) ?_, h.out wb hwb hout]
    intro b x e hx
    obtain ⟨b', x', e', hx'⟩ := g.new b x e (by omega)
    rw [g.le.ro]
    exact hout b' x' e' (by omega)
  shape wb c e fz hc := by
    obtain ⟨c1, h1, s1⟩ := h.shape wb c e fz hc
    obtain ⟨c2, h2, s2⟩ := k.shape wb c1 e fz h1
    exact ⟨c2, h2, by omega⟩
  tape := k.tape.trans h.tape
  os := k.os.trans h.os
  output := k.output.trans h.output

/-- drawing changes nothing -/
theorem RW.drawn {φ : Phi} {h : H} {W W' : World} (r : RW φ h W) (e : W'.heap = W.heap) : RW φ h W' :=
  ⟨by rw [e]; exact r.blk, by rw [e]; exact r.img, r.fresh, r.alias, r.grp, by rw [e]; exact r.ros⟩

theorem Ext.same {φ : Phi} {W W' : World} (e : W'.heap = W.heap) (h1 : W'.tape = W.tape) (h2 : W'.os = W.os) (h3 : W'.output = W.output) : Ext φ W W' :=
  ⟨by rw [e]; exact Nat.le_refl _, fun _ _ _ => by rw [e], fun _ c _ _ h => ⟨c, by rw [e]; exact h, rfl⟩, h1, h2, h3⟩

section
variable {P : Program} {φ : Phi} {h : H} {W : World}

theorem RW.cell {b : Nat} {k : Blk} (r : RW φ h W) (hb : h.bl.get b = some k) {x : Nat × Nat × Nat} (hx : φ b = some x) {j : Nat} {v : V} (hv : k.cells[j]? = some v) (hz : v ≠ .z) :
    one v = true ∧ ∃ y, W.cell? ⟨x.1, x.2.1 + j, none⟩ = some y ∧ RV φ v y := by
  obtain ⟨x', c, e, fz, hx', hc, _, _, _, hcell⟩ := r.blk b k hb
  rw [hx] at hx'; cases hx'
  rcases hcell j v hv with h | ⟨h1, y, hy, hr⟩
  · exact (hz h).elim
  · exact ⟨h1, y, by simp [World.cell?, hc, hy], hr⟩

theorem takeC_ok : ∀ (l : List V) (n : Nat) {cs : List V}, takeC l n = some cs → cs = l.take n ∧ cs.length = n ∧ ∀ v ∈ cs, v ≠ .z := by
  intro l
  induction l with
  | nil =>
    intro n cs h
    simp only [takeC, cond_eq_ite, Nat.beq_eq] at h
    split at h
    · rename_i hn; cases h; subst hn; simp
    · cases h
  | cons x xs ih =>
    intro n cs h
    simp only [takeC, cond_eq_ite, Nat.beq_eq] at h
    split at h
    · rename_i hn; cases h; subst hn; simp
    · rename_i hn
      split at h
      · cases h
      · rename_i y hz
        split at h
        · cases h
        · rename_i rr hr
          cases h
          obtain ⟨h1, h2, h3⟩ := ih (n - 1) hr
          obtain ⟨m, rfl⟩ : ∃ m, n = m + 1 := ⟨n - 1, by omega⟩
          refine ⟨by simp [h1], by simp [h2], fun v hv => ?_⟩
          rcases List.mem_cons.1 hv with rfl | hv
          · exact fun e => hz e
          · exact h3 v hv

theorem ldn_ok {b o n : Nat} {cs : List V} (r : RW φ h W) (hl : h.ldn b o n = some cs) {x : Nat × Nat × Nat} (hx : φ b = some x) :
    ∃ ys : List Value, ys.length = n ∧ RVs φ cs ys ∧ cs.all one = true ∧ ∀ (j : Nat) (y : Value), ys[j]? = some y → W.cell? (Addr.add ⟨x.1, x.2.1 + o, none⟩ j) = some y := by
  unfold H.ldn at hl
  split at hl
  · cases hl
  · rename_i k hk
    rw [dropN_eq] at hl
    obtain ⟨h1, h2, h3⟩ := takeC_ok _ _ hl
    have hget : ∀ (j : Nat) (v : V), cs[j]? = some v → k.cells[o + j]? = some v ∧ v ≠ .z := by
      intro j v hv
      refine ⟨?_, h3 v (List.mem_of_getElem? hv)⟩
      rw [h1, List.getElem?_take] at hv
      split at hv
      · rwa [List.getElem?_drop] at hv
      · cases hv
    have key : ∀ (j : Nat), j < n → ∃ y v, cs[j]? = some v ∧ one v = true ∧ W.cell? ⟨x.1, x.2.1 + (o + j), none⟩ = some y ∧ RV φ v y := by
      intro j hj
      have hv : cs[j]? = some cs[j] := List.getElem?_eq_getElem (by omega)
      obtain ⟨hv', hz⟩ := hget j _ hv
      obtain ⟨h1, y, hy, hr⟩ := r.cell hk hx hv' hz
      exact ⟨y, _, hv, h1, hy, hr⟩
    have key' : ∀ (j : Nat), ∃ y : Value, j < n → ∃ v, cs[j]? = some v ∧ one v = true ∧ W.cell? ⟨x.1, x.2.1 + (o + j), none⟩ = some y ∧ RV φ v y := by
      intro j
      by_cases hj : j < n
      · obtain ⟨y, hy⟩ := key j hj; exact ⟨y, fun _ => hy⟩
      · exact ⟨undef, fun h => (hj h).elim⟩
    obtain ⟨f, hf⟩ := Classical.axiomOfChoice key'
    refine ⟨(List.range n).map f, by simp, .of_get (by simp [h2]) fun j v y hv hy => ?_, all_of_get fun j v hv => ?_, fun j y hy => ?_⟩
    · have hj : j < n := by
        obtain ⟨hj, _⟩ := List.getElem?_eq_some_iff.1 hv
        omega
      obtain ⟨v', hv', _, _, hr⟩ := hf j hj
      rw [hv] at hv'; cases hv'
      rw [List.getElem?_map, List.getElem?_range hj] at hy
      cases hy
      exact hr
    · have hj : j < n := by
        obtain ⟨hj, _⟩ := List.getElem?_eq_some_iff.1 hv
        omega
      obtain ⟨v', hv', h1, _⟩ := hf j hj
      rw [hv] at hv'; cases hv'
      exact h1
    · have hj : j < n := by
        obtain ⟨hj, _⟩ := List.getElem?_eq_some_iff.1 hy
        simpa using hj
      obtain ⟨v', _, _, hc, _⟩ := hf j hj
      rw [List.getElem?_map, List.getElem?_range hj] at hy
      cases hy
      rw [add_off, Nat.add_assoc]
      exact hc

theorem ld1_ok {b o : Nat} {v : V} (r : RW φ h W) (hl : h.ld1 b o = some v) {x : Nat × Nat × Nat} (hx : φ b = some x) :
    one v = true ∧ ∃ y, W.cell? ⟨x.1, x.2.1 + o, none⟩ = some y ∧ RV φ v y := by
  unfold H.ld1 at hl
  split at hl
  · cases hl
  · rename_i k hk
    split at hl
    · cases hl
    · rename_i z' hz
      rw [nth_eq] at hl
      exact r.cell hk hx hl (fun e => by subst e; rw [nth_eq] at hz; exact hz hl)

theorem run_load_agg {t : TypeId} {n : Nat} (ha : aggT P t = some true) (hs : sizeT P t = some n) (a : Addr) (ys : List Value) (hl : ys.length = n) (hc : ∀ (j : Nat) (y : Value), ys[j]? = some y → W.cell? (a.add j) = some y) :
    (loadVar t a).run P W = .ok (.agg ys.toArray) W := by
  subst hl
  simp only [loadVar, Sem.run_bind, run_isAgg ha, Result.andThen_ok, if_true, run_sizeOf hs, run_loadCells_list W a ys hc]
  rfl

theorem run_load_one {t : TypeId} (ha : aggT P t = some false) (a : Addr) {y : Value} (hc : W.cell? a = some y) : (loadVar t a).run P W = .ok y W := by
  simp only [loadVar, Sem.run_bind, run_isAgg ha, Result.andThen_ok, Bool.false_eq_true, if_false, run_load, hc]

variable {G : List Nat} {nt : Nat} {env : Env} {a : Act}

/-- a pointer, as an address -/
theorem ptr_ok {ψ : Phi} (r : REnv nt ψ env a.tmps) (g : GOK G ψ) {x : Operand} {p : O} (hp : toO G x = some p) {b o : Nat} (hv : p.ev env = some (.p b o)) :
    ∃ y, ψ b = some y ∧ a.eval x = .pointer (some ⟨y.1, y.2.1 + o, none⟩) := by
  have hr := toO_ok hp r g hv
  simpa only [RV] using hr

/-- the cells of a slice that is read -/
theorem src_ok {sz l : Nat} {v : V} {cs : List V} (r : RW φ h W) (hs : srcCells h sz v = some (l, cs)) {z : Value} (hz : RV φ v z) :
    ∃ p c' ys, z = .slice p l c' ∧ (p = none → l = 0) ∧ ys.length = l * sz ∧ RVs φ cs ys ∧ cs.all one = true ∧ (∀ q, p = some q → ∀ (j : Nat) (y : Value), ys[j]? = some y → W.cell? (q.add j) = some y) ∧ l ≤ c' := by
  unfold srcCells at hs
  split at hs
  · cases hs
    simp only [RV] at hz
    exact ⟨none, 0, [], hz, fun _ => rfl, by simp, by simp [RVs], rfl, (fun q hq => by cases hq), Nat.le_refl _⟩
  · rename_i b o l' _ sz' ex
    simp only [cond_eq_ite, Nat.beq_eq] at hs
    split at hs
    · rename_i hsz
      subst hsz
      simp only [RV] at hz
      obtain ⟨x, o', c', hx, hz, hlc, hcc, _, _, hat⟩ := hz
      split at hs
      · rename_i hl0
        cases hs
        subst hl0
        exact ⟨_, c', [], hz, (fun h => by cases h), by simp, by simp [RVs], rfl, (fun q hq j y hy => by simp at hy), by omega⟩
      · rename_i hl0
        split at hs
        · rename_i cs' hld
          cases hs
          obtain ⟨rfl, hat⟩ : o' = x.2.1 + o ∧ o + c' * sz ≤ x.2.2 := by
            rcases hat with hat | hat
            · omega
            · exact hat
          obtain ⟨ys, h1, h2, h3, h4⟩ := ldn_ok r hld hx
          exact ⟨_, c', ys, hz, (fun h => by cases h), h1, h2, h3, (fun q hq j y hy => by cases hq; exact h4 j y hy), by omega⟩
        · cases hs
    · cases hs
  · cases hs

theorem unchars_ok : ∀ {cs : List V} {l : List Nat} {ys : List Value}, unchars cs = some l → RVs φ cs ys → ys = (l.map fun (n : Nat) => Value.int .u8 (n : Int)) ∧ ∀ n ∈ l, n ≤ 255 := by
  intro cs
  induction cs with
  | nil =>
    intro l ys h hr
    simp only [unchars, Option.some.injEq] at h
    subst h
    simpa [RVs] using hr
  | cons v vs ih =>
    intro l ys h hr
    simp only [unchars, cond_eq_ite, Nat.ble_eq] at h
    split at h
    · split at h
      · split at h
        · rename_i hn
          split at h
          · rename_i l' hl'
            cases h
            simp only [RVs] at hr
            obtain ⟨y, ys', rfl, hy, hys⟩ := hr
            simp only [RV] at hy
            subst hy
            obtain ⟨h1, h2⟩ := ih hl' hys
            rw [List.map_cons, ← h1]
            refine ⟨rfl, fun m hm => ?_⟩
            rcases List.mem_cons.1 hm with rfl | hm
            · exact hn
            · exact h2 m hm
          · cases h
        · cases h
      · cases h
    · cases h

end
end Go.Ev
