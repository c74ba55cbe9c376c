/- A part of the evaluator and of the proof that its word holds in the model (EvBuild). -/
import Derived.Test.YtfahdklcgidmmaaGreatDoorEvEntry
namespace Go.Ev
noncomputable section

/-! heaps that a call builds up, beside blocks that it only reads -/

/-- the groups are the call's own -/
structure Grp (n0 : Nat) (h : H) : Prop where
  nb : n0 ≤ h.nb
  gr : ∀ g l, h.gr.get g = some l → g < h.nb ∧ (n0 ≤ g → ∀ x ∈ l, n0 ≤ x)

/-- what stood ahead of n0 stands -/
structure Keep (n0 : Nat) (h h' : H) : Prop where
  nb : h.nb ≤ h'.nb
  get : ∀ b, b < n0 → h'.bl.get b = h.bl.get b

theorem Keep.refl (n0 : Nat) (h : H) : Keep n0 h h := ⟨Nat.le_refl _, fun _ _ => rfl⟩
theorem Keep.trans {n0 : Nat} {h h1 h2 : H} (a : Keep n0 h h1) (b : Keep n0 h1 h2) : Keep n0 h h2 :=
  ⟨Nat.le_trans a.nb b.nb, fun x hx => (b.get x hx).trans (a.get x hx)⟩

/-- all that there is may be taken for old -/
theorem Grp.lift {n0 : Nat} {h : H} (g : Grp n0 h) : Grp h.nb h := ⟨Nat.le_refl _, fun x l hl => ⟨(g.gr x l hl).1, fun hx => by have := (g.gr x l hl).1; omega⟩⟩
theorem Keep.mono {n0 n1 : Nat} {h h' : H} (k : Keep n1 h h') (hn : n0 ≤ n1) : Keep n0 h h' := ⟨k.nb, fun b hb => k.get b (by omega)⟩

theorem entry_grp (W : World) (bs : List Nat) : Grp W.heap.size (entryH W bs) := ⟨Nat.le_refl _, fun g l h => by cases h⟩

theorem alloc_old {h : H} {cs : List V} {b : Nat} (hb : b < h.nb) : (h.alloc cs).bl.get b = h.bl.get b := by
  simp only [H.alloc, T.get_set]
  rw [if_neg (by omega)]
theorem alloc_new {h : H} {cs : List V} : (h.alloc cs).bl.get h.nb = some ⟨cs, h.nb, 0⟩ := by
  simp only [H.alloc, T.get_set, if_pos]
theorem alloc_nb {h : H} {cs : List V} : (h.alloc cs).nb = h.nb + 1 := rfl
theorem Grp.alloc {n0 : Nat} {h : H} (g : Grp n0 h) (cs : List V) : Grp n0 (h.alloc cs) :=
  ⟨Nat.le_succ_of_le g.nb, fun x l hl => by
    obtain ⟨h1, h2⟩ := g.gr x l hl
    exact ⟨Nat.lt_succ_of_lt h1, h2⟩⟩
theorem Keep.alloc {n0 : Nat} {h : H} (g : Grp n0 h) (cs : List V) : Keep n0 h (h.alloc cs) :=
  ⟨Nat.le_succ _, fun b hb => alloc_old (by have := g.nb; omega)⟩

/-- a slice that the call has built: what stands in it -/
def Own (n0 : Nat) (h : H) (v : V) (sz : Nat) (cs : List V) : Prop :=
  (v = .sn ∧ cs = []) ∨ ∃ b g l ex, v = .sl b 0 l l sz ex ∧ h.bl.get b = some ⟨cs, g, 0⟩ ∧ (n0 ≤ g ∧ g < h.nb) ∧ (n0 ≤ b ∧ b < h.nb) ∧ cs.length = l * sz ∧ ∀ c ∈ cs, c ≠ .z

theorem Own.alloc {n0 : Nat} {h : H} {v : V} {sz : Nat} {cs : List V} (o : Own n0 h v sz cs) (ds : List V) : Own n0 (h.alloc ds) v sz cs := by
  rcases o with o | ⟨b, g, l, ex, h1, h2, h3, h4, h5, h6⟩
  · exact .inl o
  · exact .inr ⟨b, g, l, ex, h1, by rw [alloc_old h4.2]; exact h2, ⟨h3.1, Nat.lt_succ_of_lt h3.2⟩, ⟨h4.1, Nat.lt_succ_of_lt h4.2⟩, h5, h6⟩

theorem Own.keep {n0 : Nat} {h h' : H} {v : V} {sz : Nat} {cs : List V} (o : Own n0 h v sz cs) (k : Keep h.nb h h') : Own n0 h' v sz cs := by
  rcases o with o | ⟨b, g, l, ex, h1, h2, h3, h4, h5, h6⟩
  · exact .inl o
  · have := k.nb
    exact .inr ⟨b, g, l, ex, h1, by rw [k.get b h4.2]; exact h2, ⟨h3.1, by omega⟩, ⟨h4.1, by omega⟩, h5, h6⟩

theorem takeC_take : ∀ (l : List V) (n : Nat), n ≤ l.length → (∀ c ∈ l, c ≠ .z) → takeC l n = some (l.take n) := by
  intro l
  induction l with
  | nil => intro n h _; simp only [List.length_nil] at h; obtain rfl : n = 0 := (by omega); rfl
  | cons x xs ih =>
    intro n h hz
    cases n with
    | zero => rfl
    | succ n =>
      have hx : x ≠ .z := hz x (by simp)
      have := ih n (by simpa using h) (fun c hc => hz c (by simp [hc]))
      simp only [takeC, Nat.add_one_sub_one, this, List.take_succ_cons]
      cases x <;> first | rfl | exact (hx rfl).elim

theorem ldn_own {h : H} {b o n g dl : Nat} {cs : List V} (hb : h.bl.get b = some ⟨cs, g, dl⟩) (hl : o + n ≤ cs.length) (hz : ∀ c ∈ cs, c ≠ .z) : h.ldn b o n = some ((cs.drop o).take n) := by
  unfold H.ldn
  rw [hb]
  simp only [dropN_eq]
  exact takeC_take _ _ (by rw [List.length_drop]; omega) (fun c hc => hz c (List.mem_of_mem_drop hc))

/-- .. of a part of which alone it is known that nothing is poisoned -/
theorem takeC_some : ∀ (l : List V) (n : Nat) (m : List V), l.take n = m → m.length = n → (∀ c ∈ m, c ≠ .z) → takeC l n = some m := by
  intro l
  induction l with
  | nil => intro n m h hl _; simp only [List.take_nil] at h; subst h; simp only [List.length_nil] at hl; subst hl; rfl
  | cons x xs ih =>
    intro n m h hl hz
    cases n with
    | zero => simp only [List.take_zero] at h; subst h; rfl
    | succ n =>
      rw [List.take_succ_cons] at h
      subst h
      simp only [List.length_cons, Nat.add_right_cancel_iff] at hl
      have hx : x ≠ .z := hz x (by simp)
      have := ih n _ rfl hl (fun c hc => hz c (by simp [hc]))
      simp only [takeC, Nat.add_one_sub_one, this]
      cases x <;> first | rfl | exact (hx rfl).elim

theorem poisonL_other {skip pos n : Nat} {l : List Nat} {bl : T Blk} {b : Nat} (hb : b ∉ l) : (poisonL skip pos n l bl).get b = bl.get b := by
  obtain ⟨h1, h2⟩ := poisonL_ok skip pos n l bl
  cases e : (poisonL skip pos n l bl).get b with
  | none => exact ((h1 b).1 e).symm
  | some k' =>
    obtain ⟨k, hk, hh⟩ := h2 b k' e
    rcases hh with ⟨_, rfl⟩ | ⟨_, ⟨_, rfl⟩ | ⟨hm, _⟩⟩
    · exact hk.symm
    · exact hk.symm
    · exact (hb hm).elim

theorem append_own {n0 : Nat} {h : H} {v : V} {sz : Nat} {cs new : List V} {bytes n : Nat} (g : Grp n0 h) (o : Own n0 h v sz cs) (hn : n ≠ 0) (hnew : new.length = n * sz) (hnz : ∀ c ∈ new, c ≠ .z)
    (hb : ∀ l, cs.length = l * sz → (l + n) * bytes ≤ 140737488355328 ∧ l + n ≤ 4294967295) :
    ∃ v' h', h.append v sz bytes n new = some (v', h') ∧ Grp n0 h' ∧ Keep n0 h h' ∧ Own n0 h' v' sz (cs ++ new) := by
  unfold H.append
  simp only [cond_eq_ite, Nat.beq_eq, hn, if_false]
  rcases o with ⟨rfl, rfl⟩ | ⟨b, gp, l, ex, rfl, h2, h3, h4, h5, h6⟩
  · obtain ⟨h1, h2⟩ := hb 0 (by simp)
    rw [Nat.zero_add] at h1 h2
    refine ⟨.sl h.nb 0 n n sz false, h.alloc new, by simp only [Nat.ble_eq, Bool.and_eq_true, h1, h2, and_self, if_true], g.alloc _, Keep.alloc g _, .inr ⟨h.nb, h.nb, n, false, rfl, ?_, ⟨g.nb, by simp [alloc_nb]⟩, ⟨g.nb, by simp [alloc_nb]⟩, by simpa using hnew, by simpa using hnz⟩⟩
    rw [alloc_new]; rfl
  · obtain ⟨b1, b2⟩ := hb l h5
    have hld : (if l = 0 then some [] else h.ldn b 0 (l * sz)) = some cs := by
      split
      · rename_i e; subst e
        rw [Nat.zero_mul] at h5
        rw [List.eq_nil_of_length_eq_zero h5]
      · rw [ldn_own h2 (by omega) h6]
        simp [← h5]
    have hnl : ¬ (l + n ≤ l) := by omega
    simp only [Nat.ble_eq, if_true, hnl, if_false, Bool.and_eq_true, b1, b2, and_self, hld, app_eq]
    have hcs : ∀ c ∈ cs ++ new, c ≠ .z := by
      intro c hc
      rcases List.mem_append.1 hc with hc | hc
      · exact h6 c hc
      · exact hnz c hc
    have hlen : (cs ++ new).length = (l + n) * sz := by rw [List.length_append, h5, hnew, Nat.add_mul]
    cases ex with
    | true =>
      refine ⟨_, _, rfl, g.alloc _, Keep.alloc g _, .inr ⟨h.nb, h.nb, l + n, false, rfl, alloc_new, ⟨g.nb, by simp [alloc_nb]⟩, ⟨g.nb, by simp [alloc_nb]⟩, hlen, hcs⟩⟩
    | false =>
      have hro : ¬ (roC ≤ 0) := by decide
      simp only [Bool.false_eq_true, if_false, h2, hro, Nat.zero_add, Nat.add_zero]
      generalize hm : memOf (h.gr.get gp) = mem
      have hmem : ∀ x ∈ mem, n0 ≤ x := by
        intro x hx
        cases e : h.gr.get gp with
        | none => rw [e] at hm; simp only [memOf] at hm; subst hm; cases hx
        | some q => rw [e] at hm; simp only [memOf] at hm; subst hm; exact (g.gr gp q e).2 h3.1 x hx
      refine ⟨_, _, rfl, ⟨by have := g.nb; show n0 ≤ h.nb + 1; omega, fun x q hq => ?_⟩, ⟨Nat.le_succ _, fun b' hb' => ?_⟩, .inr ⟨h.nb, gp, l + n, false, rfl, ?_, ⟨h3.1, by have := h3.2; show gp < h.nb + 1; omega⟩, ⟨g.nb, Nat.lt_succ_self _⟩, hlen, hcs⟩⟩
      · simp only [T.get_set] at hq
        split at hq
        · rename_i e
          cases hq
          subst e
          refine ⟨by have := h3.2; show x < h.nb + 1; omega, fun _ y hy => ?_⟩
          rcases List.mem_cons.1 hy with rfl | hy
          · exact g.nb
          · exact hmem y hy
        · obtain ⟨a1, a2⟩ := g.gr x q hq
          exact ⟨Nat.lt_succ_of_lt a1, a2⟩
      · have hbn := g.nb
        simp only [T.get_set]
        rw [if_neg (by omega), poisonL_other]
        intro hx
        rcases List.mem_cons.1 hx with e | hx
        · have := h3.1; omega
        · have := hmem b' hx; omega
      · simp only [T.get_set, if_pos]

end
end Go.Ev
