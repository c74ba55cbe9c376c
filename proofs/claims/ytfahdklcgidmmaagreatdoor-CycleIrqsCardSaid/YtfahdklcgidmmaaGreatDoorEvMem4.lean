/- A part of the evaluator and of the proof that its word holds in the model (EvMem4). -/
import Derived.Test.YtfahdklcgidmmaaGreatDoorEvMem3
namespace Go.Ev

section
variable {P : Program} {φ ψ : Phi} {h : H} {W W' : World}

/-- a block of which there is less -/
structure Less (h h' : H) : Prop where
  nb : h'.nb = h.nb
  gr : h'.gr = h.gr
  get : ∀ b k', h'.bl.get b = some k' → ∃ k, h.bl.get b = some k ∧ k'.grp = k.grp ∧ k'.dl = k.dl ∧ k'.cells.length = k.cells.length ∧ ∀ (j : Nat) (v : V), k'.cells[j]? = some v → v = .z ∨ k.cells[j]? = some v

theorem RW.less (r : RW φ h W) {h' : H} (l : Less h h') : RW φ h' W where
  blk b k' hb := by
    obtain ⟨k, hk, _, hdl, hlen, hget⟩ := l.get b k' hb
    obtain ⟨x, c, e, fz, hx, hc, h1, h2, h3, h4⟩ := r.blk b k hk
    refine ⟨x, c, e, fz, hx, hc, h1, by omega, by rw [hdl]; exact h3, fun j v hv => ?_⟩
    rcases hget j v hv with hz | hv'
    · exact .inl hz
    · exact h4 j v hv'
  img b x hx := by rw [l.nb]; exact r.img b x hx
  fresh b hb := by
    rw [l.nb] at hb
    cases e : h'.bl.get b with
    | none => rfl
    | some k' =>
      obtain ⟨k, hk, _⟩ := l.get b k' e
      rw [r.fresh b hb] at hk; cases hk
  alias b1 b2 k1 k2 x1 x2 h1 h2 e1 e2 hw := by
    obtain ⟨q1, hq1, g1, d1, _⟩ := l.get b1 k1 h1
    obtain ⟨q2, hq2, g2, d2, _⟩ := l.get b2 k2 h2
    have := r.alias b1 b2 q1 q2 x1 x2 hq1 hq2 e1 e2 hw
    rw [g1, g2, d1, d2]; exact this
  grp b k' hb := by
    obtain ⟨k, hk, g, _⟩ := l.get b k' hb
    rw [g, l.gr]
    exact r.grp b k hk
  ros := r.ros

/-- cells are written in memory, and in the blocks that lead there -/
theorem RW.write (r : RW φ h W) {h' : H} {wb q : Nat} {c c' : Array Value} {e : TypeId} {fz : Nat × Nat} {ys : List Value}
    (hc : W.heap[wb]? = some (.cells c e fz)) (hc' : W'.heap[wb]? = some (.cells c' e fz)) (hput : c'.toList = putN c.toList q ys) (hfit : q + ys.length ≤ c.size) (hout : ∀ k, k ≠ wb → W'.heap[k]? = W.heap[k]?) (hsize : W'.heap.size = W.heap.size)
    (hnb : h'.nb = h.nb) (hgr : h'.gr = h.gr)
    (hget : ∀ b k', h'.bl.get b = some k' → ∃ k, h.bl.get b = some k ∧ k'.grp = k.grp ∧ k'.dl = k.dl ∧ k'.cells.length = k.cells.length ∧ ∀ (x : Nat × Nat × Nat) (j : Nat) (v : V), φ b = some x → k'.cells[j]? = some v →
      v = .z ∨ (k.cells[j]? = some v ∧ (x.1 = wb → ¬ (q ≤ x.2.1 + j ∧ x.2.1 + j < q + ys.length))) ∨ (x.1 = wb ∧ q ≤ x.2.1 + j ∧ one v = true ∧ ∃ y, ys[x.2.1 + j - q]? = some y ∧ RV φ v y)) :
    RW φ h' W' where
  blk b k' hb := by
    obtain ⟨k, hk, _, hdl, hlen, hcell⟩ := hget b k' hb
    obtain ⟨x, cx, ex, fzx, hx, hcx, h1, h2, h3, h4⟩ := r.blk b k hk
    by_cases hw : x.1 = wb
    · rw [hw, hc] at hcx
      cases hcx
      have hsz : c'.size = c.size := by
        have := congrArg List.length hput
        simpa [length_putN] using this
      refine ⟨x, c', e, fz, hx, by rw [hw]; exact hc', by omega, by omega, by rw [hdl]; unfold Soft at h3 ⊢; rw [hsz]; exact h3, fun j v hv => ?_⟩
      have hgetc : ∀ i, c'[i]? = if q ≤ i ∧ i < q + ys.length ∧ i < c.size then ys[i - q]? else c[i]? := by
        intro i
        have : c'.toList[i]? = (putN c.toList q ys)[i]? := by rw [hput]
        rw [get_putN] at this
        simpa using this
      rcases hcell x j v hx hv with hz | ⟨hv', hnot⟩ | ⟨_, hq, ho, y, hy, hr⟩
      · exact .inl hz
      · rcases h4 j v hv' with hz | ⟨ho, y, hy, hr⟩
        · exact .inl hz
        · refine .inr ⟨ho, y, ?_, hr⟩
          rw [hgetc, if_neg (fun hh => hnot hw ⟨hh.1, hh.2.1⟩)]
          exact hy
      · refine .inr ⟨ho, y, ?_, hr⟩
        obtain ⟨hlt, _⟩ := List.getElem?_eq_some_iff.1 hy
        rw [hgetc, if_pos ⟨hq, by omega, by omega⟩]
        exact hy
    · refine ⟨x, cx, ex, fzx, hx, by rw [hout _ hw]; exact hcx, h1, by omega, by rw [hdl]; exact h3, fun j v hv => ?_⟩
      rcases hcell x j v hx hv with hz | ⟨hv', _⟩ | ⟨he, _⟩
      · exact .inl hz
      · exact h4 j v hv'
      · exact (hw he).elim
  img b x hx := by rw [hnb, hsize]; exact r.img b x hx
  fresh b hb := by
    rw [hnb] at hb
    cases e : h'.bl.get b with
    | none => rfl
    | some k' =>
      obtain ⟨k, hk, _⟩ := hget b k' e
      rw [r.fresh b hb] at hk; cases hk
  alias b1 b2 k1 k2 x1 x2 h1 h2 e1 e2 hw := by
    obtain ⟨q1, hq1, g1, d1, _⟩ := hget b1 k1 h1
    obtain ⟨q2, hq2, g2, d2, _⟩ := hget b2 k2 h2
    have := r.alias b1 b2 q1 q2 x1 x2 hq1 hq2 e1 e2 hw
    rw [g1, g2, d1, d2]; exact this
  grp b k' hb := by
    obtain ⟨k, hk, g, _⟩ := hget b k' hb
    rw [g, hgr]
    exact r.grp b k hk
  ros wb h := by rw [hsize]; exact r.ros wb h

/-- a new block, of a group that there is -/
theorem RW.addG (r : RW φ h W) {cs : List V} {gp dl wb wo sz : Nat} {gr' : T (List Nat)} {cc : Array Value} {e : TypeId} {fz : Nat × Nat} (hwb : W.heap[wb]? = some (.cells cc e fz)) (hfz : Soft φ wb dl cc fz) (hsz : wo + sz = cc.size)
    (hlen : cs.length ≤ sz)
    (hgr : ∀ b k, h.bl.get b = some k → b = k.grp ∨ ∃ l, gr'.get k.grp = some l ∧ b ∈ l) (hself : ∃ l, gr'.get gp = some l ∧ h.nb ∈ l)
    (halias : ∀ b k x, h.bl.get b = some k → φ b = some x → x.1 = wb → k.grp = gp ∧ x.2.1 + dl = wo + k.dl)
    (hcells : ∀ (j : Nat) (v : V), cs[j]? = some v → v = .z ∨ (one v = true ∧ ∃ y, cc[wo + j]? = some y ∧ RV φ v y)) :
    RW (φ.upd h.nb (wb, wo, sz)) ⟨h.nb + 1, h.bl.set h.nb ⟨cs, gp, dl⟩, gr'⟩ W where
  blk b k hb := by
    simp only [T.get_set] at hb
    split at hb
    · rename_i e'
      cases hb
      subst e'
      refine ⟨(wb, wo, sz), cc, e, fz, Phi.upd_same _ _ _, hwb, hsz, hlen, hfz, fun j v hv => ?_⟩
      rcases hcells j v hv with hz | ⟨ho, y, hy, hr⟩
      · exact .inl hz
      · exact .inr ⟨ho, y, hy, RV.mono (Phi.le_upd _ (r.none_nb (Nat.le_refl _))) _ _ hr⟩
    · rename_i hne
      obtain ⟨x, c, e', fz', hx, hc, h1, h2, h3, h4⟩ := r.blk b k hb
      refine ⟨x, c, e', fz', by rw [Phi.upd_other _ _ hne]; exact hx, hc, h1, h2, h3, fun j v hv => ?_⟩
      rcases h4 j v hv with hz | ⟨ho, y, hy, hr⟩
      · exact .inl hz
      · exact .inr ⟨ho, y, hy, RV.mono (Phi.le_upd _ (r.none_nb (Nat.le_refl _))) _ _ hr⟩
  img b x hx := by
    by_cases e' : b = h.nb
    · subst e'
      rw [Phi.upd_same] at hx
      cases hx
      refine ⟨Nat.lt_succ_self _, ?_⟩
      obtain ⟨hlt, _⟩ := Array.getElem?_eq_some_iff.1 hwb
      exact hlt
    · rw [Phi.upd_other _ _ e'] at hx
      have := r.img b x hx
      exact ⟨Nat.lt_succ_of_lt this.1, this.2⟩
  fresh b hb := by
    have hb' : h.nb + 1 ≤ b := hb
    simp only [T.get_set]
    rw [if_neg (by omega)]
    exact r.fresh b (by omega)
  alias b1 b2 k1 k2 x1 x2 h1 h2 e1 e2 hw := by
    simp only [T.get_set] at h1 h2
    split at h1
    · rename_i c1
      split at h2
      · rename_i c2
        cases h1; cases h2
        subst c1; subst c2
        rw [e1] at e2; cases e2
        exact ⟨rfl, rfl⟩
      · rename_i c2
        subst c1
        rw [Phi.upd_same] at e1; cases e1
        rw [Phi.upd_other _ _ c2] at e2
        cases h1
        have := halias b2 k2 x2 h2 e2 hw.symm
        exact ⟨this.1.symm, this.2.symm⟩
    · rename_i c1
      rw [Phi.upd_other _ _ c1] at e1
      split at h2
      · rename_i c2
        subst c2
        rw [Phi.upd_same] at e2; cases e2
        cases h2
        exact halias b1 k1 x1 h1 e1 hw
      · rename_i c2
        rw [Phi.upd_other _ _ c2] at e2
        exact r.alias b1 b2 k1 k2 x1 x2 h1 h2 e1 e2 hw
  grp b k hb := by
    simp only [T.get_set] at hb
    split at hb
    · rename_i c1
      cases hb
      subst c1
      exact .inr hself
    · exact hgr b k hb
  ros := r.ros

theorem write_ext {wb q : Nat} {c : Array Value} {e : TypeId} {fz : Nat × Nat} {ys : List Value} {b : Nat} {x : Nat × Nat × Nat} (hx : φ b = some x) (hxb : x.1 = wb) (hro : φ.ro wb = false)
    (hc : W.heap[wb]? = some (.cells c e fz)) (hfit : q + ys.length ≤ c.size) : Ext φ W (W.setCells wb q ys) := by
  obtain ⟨c', h1, h2, h3, h4, h5, h6, h7⟩ := setCells_heap wb ys q W c e fz hc hfit
  refine ⟨by rw [h4]; exact Nat.le_refl _, fun k _ hk => h3 k (fun e => by have := hk b x hx (by rw [hxb, e]); rw [e, hro] at this; cases this), fun k ck ek fk hk => ?_, h5, h6, h7⟩
  by_cases hkb : k = wb
  · subst hkb
    rw [hc] at hk
    cases hk
    refine ⟨c', h1, ?_⟩
    have := congrArg List.length h2
    simpa [length_putN] using this
  · exact ⟨ck, by rw [h3 k hkb]; exact hk, rfl⟩

/-- what poisoning makes of the blocks -/
theorem poisonL_less {skip pos n : Nat} {l : List Nat} : Less h ⟨h.nb, poisonL skip pos n l h.bl, h.gr⟩ where
  nb := rfl
  gr := rfl
  get b k' hb := by
    obtain ⟨k, hk, hh⟩ := (poisonL_ok skip pos n l h.bl).2 b k' hb
    refine ⟨k, hk, ?_⟩
    rcases hh with ⟨_, rfl⟩ | ⟨_, ⟨_, rfl⟩ | ⟨_, hp⟩⟩
    · exact ⟨rfl, rfl, rfl, fun j v hv => .inr hv⟩
    · exact ⟨rfl, rfl, rfl, fun j v hv => .inr hv⟩
    · exact ⟨hp.grp, hp.dl, hp.len, fun j v hv => (hp.get j v hv).imp id (·.1)⟩

/-- STORES: the cells of a block, from a place on -/
theorem stn_ok (r : RW φ h W) {b o : Nat} {vs : List V} {h' : H} (hs : h.stn b o vs = some h') {x : Nat × Nat × Nat} (hx : φ b = some x) {ys : List Value} (hr : RVs φ vs ys) (ho : vs.all one = true) :
    ∃ W', (storeCells ⟨x.1, x.2.1 + o, none⟩ ys).run P W = .ok () W' ∧ RW φ h' W' ∧ Ext φ W W' := by
  unfold H.stn at hs
  split at hs
  · cases hs
  rename_i k hk
  simp only [cond_eq_ite, Bool.and_eq_true, Nat.ble_eq, Nat.blt_eq, len_eq] at hs
  split at hs
  case isFalse => cases hs
  rename_i hfit0
  obtain ⟨hfit, hlow⟩ := hfit0
  obtain ⟨x', c, e, fz, hx', hc, h1, h2, h3, h4⟩ := r.blk b k hk
  rw [hx] at hx'; cases hx'
  obtain ⟨hro, h3⟩ : φ.ro x.1 = false ∧ (fz.2 ≤ fz.1 ∨ c.size ≤ fz.1) := by
    rcases h3 with h3 | h3
    · omega
    · exact h3
  have hyl := hr.length
  have hfit' : x.2.1 + o + ys.length ≤ c.size := by omega
  have hcell : ∀ j, j < ys.length → (W.cell? ⟨x.1, x.2.1 + o + 0 + j, none⟩).isSome = true := by
    intro j hj
    have : x.2.1 + o + j < c.size := by omega
    simp [World.cell?, hc, this]
  have hfro : ∀ j, j < ys.length → W.frozen? ⟨x.1, x.2.1 + o + 0 + j, none⟩ = false := by
    intro j hj
    simp only [World.frozen?, hc, Nat.add_zero, Bool.and_eq_false_iff, decide_eq_false_iff_not]
    omega
  have h1c : ∀ y ∈ ys, y.oneCell' = true := by
    intro y hy
    obtain ⟨j, hj⟩ := List.getElem?_of_mem hy
    have hjl : j < vs.length := by
      obtain ⟨hlt, _⟩ := List.getElem?_eq_some_iff.1 hj
      omega
    obtain ⟨y', hy', hry⟩ := hr.get (List.getElem?_eq_getElem hjl)
    rw [hj] at hy'; cases hy'
    exact (hry.oneCell (get_of_all ho (List.getElem?_eq_getElem hjl))).1
  have hrun := run_storeCells_cells (P := P) x.1 (x.2.1 + o) ys 0 W hcell hfro h1c
  rw [Nat.add_zero] at hrun
  refine ⟨_, hrun, ?_, write_ext hx rfl hro hc hfit'⟩
  obtain ⟨c', g1, g2, g3, g4, _⟩ := setCells_heap x.1 ys (x.2.1 + o) W c e fz hc hfit'
  -- what stands in the written block
  have own : ∀ (j : Nat) (v : V), (putN k.cells o vs)[j]? = some v → v = .z ∨ (k.cells[j]? = some v ∧ (x.1 = x.1 → ¬ (x.2.1 + o ≤ x.2.1 + j ∧ x.2.1 + j < x.2.1 + o + ys.length))) ∨ (x.1 = x.1 ∧ x.2.1 + o ≤ x.2.1 + j ∧ one v = true ∧ ∃ y, ys[x.2.1 + j - (x.2.1 + o)]? = some y ∧ RV φ v y) := by
    intro j v hv
    rw [get_putN] at hv
    split at hv
    · rename_i hcj
      obtain ⟨y, hy, hry⟩ := hr.get hv
      exact .inr (.inr ⟨rfl, by omega, get_of_all ho hv, y, by rw [show x.2.1 + j - (x.2.1 + o) = j - o by omega]; exact hy, hry⟩)
    · rename_i hcj
      refine .inr (.inl ⟨hv, fun _ hh => hcj ⟨by omega, by omega, ?_⟩⟩)
      obtain ⟨hlt, _⟩ := List.getElem?_eq_some_iff.1 hv
      exact hlt
  split at hs
  · rename_i hgr
    cases hs
    refine r.write (wb := x.1) hc g1 g2 hfit' g3 g4 rfl rfl fun b2 k' hb2 => ?_
    simp only [T.get_set] at hb2
    split at hb2
    · rename_i e2
      cases hb2
      subst e2
      refine ⟨k, hk, rfl, rfl, length_putN _ _ _, fun y j v hy hv => ?_⟩
      rw [hx] at hy; cases hy
      exact own j v hv
    · rename_i e2
      refine ⟨k', hb2, rfl, rfl, rfl, fun y j v hy hv => .inr (.inl ⟨hv, fun hw => ?_⟩)⟩
      obtain ⟨hg, _⟩ := r.alias b2 b k' k y x hb2 hk hy hx hw
      rcases r.grp b k hk with h' | ⟨l, hl, _⟩
      · rcases r.grp b2 k' hb2 with h'' | ⟨l, hl, _⟩
        · exact (e2 (by omega)).elim
        · rw [hg, hgr] at hl; cases hl
      · rw [hgr] at hl; cases hl
  · rename_i l hgr
    cases hs
    refine r.write (wb := x.1) hc g1 g2 hfit' g3 g4 rfl rfl fun b2 k' hb2 => ?_
    obtain ⟨k2, hk2, hh⟩ := (poisonL_ok b (k.dl + o) vs.length (k.grp :: l) _).2 b2 k' hb2
    rw [T.get_set] at hk2
    by_cases e2 : b2 = b
    · subst e2
      rw [if_pos rfl] at hk2
      cases hk2
      refine ⟨k, hk, ?_⟩
      rcases hh with ⟨_, rfl⟩ | ⟨hne, _⟩
      · refine ⟨rfl, rfl, length_putN _ _ _, fun y j v hy hv => ?_⟩
        rw [hx] at hy; cases hy
        exact own j v hv
      · exact (hne rfl).elim
    · rw [if_neg e2] at hk2
      refine ⟨k2, hk2, ?_⟩
      rcases hh with ⟨e', _⟩ | ⟨_, ⟨hm, rfl⟩ | ⟨hm, hp⟩⟩
      · exact (e2 e').elim
      · refine ⟨rfl, rfl, rfl, fun y j v hy hv => .inr (.inl ⟨hv, fun hw => ?_⟩)⟩
        obtain ⟨hg, _⟩ := r.alias b2 b k' k y x hk2 hk hy hx hw
        refine (hm ?_).elim
        rcases r.grp b2 k' hk2 with h'' | ⟨l', hl, hml⟩
        · rw [h'', hg]; simp
        · rw [hg, hgr] at hl; cases hl; simp [hml]
      · refine ⟨hp.grp, hp.dl, hp.len, fun y j v hy hv => ?_⟩
        rcases hp.get j v hv with hz | ⟨hv', hnot⟩
        · exact .inl hz
        · refine .inr (.inl ⟨hv', fun hw hh => hnot ?_⟩)
          obtain ⟨_, ha⟩ := r.alias b2 b k2 k y x hk2 hk hy hx hw
          omega

end
end Go.Ev
