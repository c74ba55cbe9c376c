/- A part of the evaluator and of the proof that its word holds in the model (EvSym). -/
import Derived.Test.YtfahdklcgidmmaaGreatDoorEvBuild
namespace Go.Ev
noncomputable section

/-! runs at values that are not known -/

def lenV : V → Option V
  | .sn => some (.i .i64 0)
  | .sl _ _ l _ _ _ => some (.i .i64 (.ofNat l))
  | _ => none

theorem evLen_eq (x : O) (env : Env) : evLen x env = match x.ev env with
    | none => none
    | some v => lenV v := by
  unfold evLen
  cases x.ev env with
  | none => rfl
  | some v => cases v <;> rfl

def ixV (sz : Nat) (v : V) (i : Nat) : Option V := match v with
  | .sl b o l _ sz' _ => bif Nat.beq sz sz' && Nat.ble (i + 1) l then some (.p b (o + i * sz)) else none
  | _ => none

theorem evIxS_eq (sz : Nat) (x i : O) (env : Env) : evIxS sz x i env = match x.ev env with
    | none => none
    | some v => match i.nat env with
      | none => none
      | some i => ixV sz v i := by
  unfold evIxS
  cases x.ev env with
  | none => rfl
  | some v => cases v <;> cases i.nat env <;> rfl

theorem ble_of {a b : Nat} (h : a ≤ b) : Nat.ble a b = true := by rw [Nat.ble_eq]; exact h
theorem ksame_self (k : IntKind) : ksame k k = true := by simp [ksame]
theorem eqB_self (x : Int) : eqB x x = true := by rw [eqB_eq]; simp

/-- cells that can be read -/
def CellsAt (h : H) (b o : Nat) (vs : List V) : Prop := ∃ k, h.bl.get b = some k ∧ (k.cells.drop o).take vs.length = vs ∧ ∀ c ∈ vs, c ≠ .z

theorem CellsAt.ldn {h : H} {b o : Nat} {vs : List V} (c : CellsAt h b o vs) : h.ldn b o vs.length = some vs := by
  obtain ⟨k, h1, h2, h3⟩ := c
  unfold H.ldn
  rw [h1]
  simp only [dropN_eq]
  exact takeC_some _ _ _ h2 rfl h3

theorem CellsAt.ld1 {h : H} {b o : Nat} {vs : List V} (c : CellsAt h b o vs) {j : Nat} {v : V} (hv : vs[j]? = some v) : h.ld1 b (o + j) = some v := by
  obtain ⟨k, h1, h2, h3⟩ := c
  have hz := h3 v (List.mem_of_getElem? hv)
  unfold H.ld1
  rw [h1]
  simp only [nth_eq]
  have : k.cells[o + j]? = some v := by
    rw [← h2] at hv
    rw [List.getElem?_take] at hv
    split at hv
    · rw [List.getElem?_drop] at hv; exact hv
    · cases hv
  rw [this]
  cases v <;> first | rfl | exact (hz rfl).elim

/-- a slice that can be read: its rows -/
def Reads (n0 : Nat) (h : H) (v : V) (sz n : Nat) (row : Nat → List V) : Prop :=
  lenV v = some (.i .i64 (.ofNat n)) ∧ ∀ k, k < n → ∃ b o, b < n0 ∧ ixV sz v k = some (.p b o) ∧ (row k).length = sz ∧ CellsAt h b o (row k)

theorem CellsAt.keep {n0 : Nat} {h h' : H} (k : Keep n0 h h') {b o : Nat} {vs : List V} (hb : b < n0) (c : CellsAt h b o vs) : CellsAt h' b o vs := by
  obtain ⟨x, h1, h2⟩ := c
  exact ⟨x, by rw [k.get b hb]; exact h1, h2⟩

theorem Reads.mono {n0 n1 : Nat} {h : H} {v : V} {sz n : Nat} {row : Nat → List V} (r : Reads n0 h v sz n row) (hn : n0 ≤ n1) : Reads n1 h v sz n row :=
  ⟨r.1, fun i hi => by
    obtain ⟨b, o, h1, h2⟩ := r.2 i hi
    exact ⟨b, o, by omega, h2⟩⟩

theorem Reads.keep {n0 : Nat} {h h' : H} (k : Keep n0 h h') {v : V} {sz n : Nat} {row : Nat → List V} (r : Reads n0 h v sz n row) : Reads n0 h' v sz n row :=
  ⟨r.1, fun i hi => by
    obtain ⟨b, o, h1, h2, h3, h4⟩ := r.2 i hi
    exact ⟨b, o, h1, h2, h3, h4.keep k h1⟩⟩

/-- of the call's own slice: rows of the same length -/
theorem Own.reads {n0 : Nat} {h : H} {v : V} {sz n : Nat} {cs : List V} {row : Nat → List V} (o : Own n0 h v sz cs) (hsz : 0 < sz) (hn : cs.length = n * sz) (hrow : ∀ k, k < n → (cs.drop (k * sz)).take sz = row k ∧ (row k).length = sz) : Reads h.nb h v sz n row := by
  rcases o with ⟨rfl, rfl⟩ | ⟨b, g, l, ex, rfl, h2, h3, h4, h5, h6⟩
  · have : n = 0 := by
      simp only [List.length_nil] at hn
      rcases Nat.mul_eq_zero.1 hn.symm with h | h
      · exact h
      · omega
    subst this
    exact ⟨rfl, fun k hk => by omega⟩
  · have hl : l = n := Nat.eq_of_mul_eq_mul_right hsz (h5.symm.trans hn)
    subst hl
    refine ⟨rfl, fun k hk => ⟨b, 0 + k * sz, h4.2, ?_, (hrow k hk).2, ⟨_, h2, ?_, fun c hc => ?_⟩⟩⟩
    · have : Nat.ble (k + 1) l = true := ble_of (by omega)
      simp [ixV, this]
    · rw [(hrow k hk).2, Nat.zero_add]; exact (hrow k hk).1
    · rw [← (hrow k hk).1] at hc
      exact h6 c (List.mem_of_mem_drop (List.mem_of_mem_take hc))

theorem putN_zero {α : Type} : ∀ (l m : List α), l.length = m.length → putN l 0 m = m := by
  intro l
  induction l with
  | nil => intro m h; cases m with
    | nil => rfl
    | cons => simp at h
  | cons x xs ih =>
    intro m h
    cases m with
    | nil => simp at h
    | cons y ys =>
      simp only [List.length_cons, Nat.add_right_cancel_iff] at h
      have := ih ys h
      show y :: putN xs 0 ys = y :: ys
      rw [this]

/-- a variable that is laid and then set -/
theorem stn_fresh {n0 : Nat} {h : H} (g : Grp n0 h) {z cs : List V} (hl : z.length = cs.length) (hz : ∀ c ∈ cs, c ≠ .z) :
    ∃ h2, (h.alloc z).stn h.nb 0 cs = some h2 ∧ h2.nb = h.nb + 1 ∧ Grp n0 h2 ∧ Keep n0 h h2 ∧ CellsAt h2 h.nb 0 cs ∧ ∀ v sz ds, Own n0 h v sz ds → Own n0 h2 v sz ds := by
  have hg : h.gr.get h.nb = none := by
    cases e : h.gr.get h.nb with
    | none => rfl
    | some l => have := (g.gr _ _ e).1; omega
  have hst : (h.alloc z).stn h.nb 0 cs = some ⟨h.nb + 1, (h.alloc z).bl.set h.nb ⟨cs, h.nb, 0⟩, h.gr⟩ := by
    unfold H.stn
    rw [alloc_new]
    have h1 : Nat.ble (0 + cs.length) z.length = true := ble_of (by omega)
    have h2 : Nat.blt 0 roC = true := by decide
    simp only [len_eq, h1, h2, Bool.and_self, cond_true, putN_zero z cs hl]
    simp only [H.alloc, hg]
  refine ⟨_, hst, rfl, ⟨Nat.le_succ_of_le g.nb, fun x l hl => ?_⟩, ⟨Nat.le_succ _, fun b hb => ?_⟩, ⟨⟨cs, h.nb, 0⟩, by simp only [T.get_set, if_pos], by simp, hz⟩, fun v sz ds o => ?_⟩
  · obtain ⟨a1, a2⟩ := g.gr x l hl
    exact ⟨Nat.lt_succ_of_lt a1, a2⟩
  · have := g.nb
    simp only [T.get_set]
    rw [if_neg (by omega)]
    exact alloc_old (by omega)
  · rcases o with o | ⟨b, gp, l, ex, h1, h2, h3, h4, h5, h6⟩
    · exact .inl o
    · refine .inr ⟨b, gp, l, ex, h1, ?_, ⟨h3.1, Nat.lt_succ_of_lt h3.2⟩, ⟨h4.1, Nat.lt_succ_of_lt h4.2⟩, h5, h6⟩
      simp only [T.get_set]
      rw [if_neg (by omega), alloc_old h4.2]; exact h2

/-- what a slice of one row, just built, is read as -/
theorem src_new {h : H} {sz : Nat} {cs : List V} (hl : cs.length = sz) (hz : ∀ c ∈ cs, c ≠ .z) : srcCells (h.alloc cs) sz (.sl h.nb 0 1 1 sz true) = some (1, cs) := by
  have : (h.alloc cs).ldn h.nb 0 (1 * sz) = some cs := by
    rw [ldn_own alloc_new (by omega) hz]
    simp [← hl]
  rw [Nat.one_mul] at this
  show (bif Nat.beq sz sz then _ else _) = _
  have h1 : Nat.beq sz sz = true := by rw [Nat.beq_eq]
  rw [h1]
  show (match (h.alloc cs).ldn h.nb 0 (1 * sz) with
    | some cs => some (1, cs)
    | none => none) = _
  rw [Nat.one_mul, this]

end
end Go.Ev
