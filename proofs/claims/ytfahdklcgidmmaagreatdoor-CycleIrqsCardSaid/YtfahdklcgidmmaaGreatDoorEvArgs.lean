/- A part of the evaluator and of the proof that its word holds in the model (EvArgs). -/
import Derived.Test.YtfahdklcgidmmaaGreatDoorEvSym
import Derived.ProofKit
import Derived.Deep.Slices
import Derived.Below
namespace Go.Ev
noncomputable section

/-! slices that came in -/

/-- what an argument is, to the evaluator -/
def argV (sz : Nat) : Value → V
  | .slice none _ _ => .sn
  | .slice (some a) len cap => .sl a.block a.off len cap sz true
  | _ => .z

def argB : Value → List Nat
  | .slice (some a) _ _ => [a.block]
  | _ => []

def argLen : Value → Nat
  | .slice _ len _ => len
  | _ => 0

/-- the cells of a row -/
def argRow (W : World) (sz : Nat) : Value → Nat → List V
  | .slice (some a) _ _, i => ((absB W a.block).drop (a.off + i * sz)).take sz
  | _, _ => []

theorem okSlice {P : Program} {W : World} {base : Nat} {t e : TypeId} {v : Value} (ht : P.underlying t = some (.slice e)) (h : Value.okWide P W .any base t v) :
    v = .slice none 0 0 ∨ ∃ a len cap, v = .slice (some a) len cap ∧ len ≤ cap ∧ a.spot = none ∧ ∃ c u fz, W.heap[a.block]? = some (.cells c u fz) := by
  obtain ⟨a0, len, cap, rfl⟩ := WideShapes.okWide_slice ht h
  simp only [Value.okWide, ht, Cell.okWide] at h
  cases a0 with
  | none =>
    left
    unfold Cell.ok at h
    rw [ht] at h
    split at h
    all_goals first | rfl | simp_all
  | some a =>
    right
    have h' : len ≤ cap ∧ (cap : Int) ≤ IntKind.i64.max ∧ W.has P .any base a e cap := by
      unfold Cell.ok at h
      rw [ht] at h
      exact h
    obtain ⟨h1, _, h3⟩ := h'
    refine ⟨a, len, cap, rfl, h1, h3.2.1, ?_⟩
    obtain ⟨_, _, row, cells, hs, _⟩ := h3
    unfold World.shape? at hs
    split at hs
    · rename_i c u fz hc; exact ⟨c, u, fz, hc⟩
    · cases hs

/-- the cells that are read, among the block's -/
theorem cells_abs {W : World} {base : Nat} {a : Addr} {n : Nat} {cs : List Value} {c : Array Value} {u : TypeId} {fz : Nat × Nat} (h : W.cells? base a n = some cs) (hc : W.heap[a.block]? = some (.cells c u fz)) :
    ((absB W a.block).drop a.off).take n = cs.map absV ∧ cs.length = n ∧ (n = 0 ∨ a.off + n ≤ c.size) := by
  obtain ⟨_, hl, hget⟩ := World.cells?_some h
  have hB : absB W a.block = c.toList.map absV := by simp [absB, hc]
  have hcell : ∀ i, i < n → c[a.off + i]? = cs[i]? := by
    intro i hi
    have := hget i hi
    unfold Addr.add at this
    split at this
    · rename_i h0
      subst h0
      unfold World.cell? at this
      rw [hc] at this
      simp only at this
      split at this
      · rw [← this] 
        have h2 : cs[0]? ≠ none := by simp [hl]; omega
        exact (h2 this.symm).elim
      · simpa using this
    · unfold World.cell? at this
      rw [hc] at this
      simpa using this
  refine ⟨?_, hl, ?_⟩
  · rw [hB]
    apply List.ext_getElem?
    intro i
    rw [List.getElem?_take]
    split
    · rename_i hi
      rw [List.getElem?_drop, List.getElem?_map, List.getElem?_map, ← hcell i hi]
      simp
    · rename_i hi
      have : cs[i]? = none := by simp [hl]; omega
      rw [List.getElem?_map, this]; rfl
  · by_cases h0 : n = 0
    · exact .inl h0
    · right
      have h1 := hcell (n - 1) (by omega)
      have h2 : cs[n - 1]? ≠ none := by simp [hl]; omega
      rw [← h1] at h2
      have : a.off + (n - 1) < c.size := by
        cases e : c[a.off + (n - 1)]? with
        | none => exact (h2 e).elim
        | some y =>
          obtain ⟨hlt, _⟩ := Array.getElem?_eq_some_iff.1 e
          exact hlt
      omega

/-- A SLICE THAT CAME IN, to the evaluator: its value, its rows; and of each row the reading -/
theorem open_arg {H : Type} {enc : TypeId × Value → H} {P : Program} {W : World} {t e : TypeId} {v : Value} {fuel sz : Nat} {x : DataW H × List MemPlace} {bs : List Nat} {base : Nat} (ht : P.underlying t = some (.slice e)) (hsz : P.cellsOf e = sz) (hpos : 0 < sz)
    (hv : Value.okWide P W .any base t v) (h : DataW.trod enc P W 0 (fun _ => true) true fuel t v.cells.toList = some x) (hb : ∀ b ∈ argB v, b ∈ bs) :
    RV (entryPhi W bs) (argV sz v) v ∧ lenV (argV sz v) = some (.i .i64 (.ofNat (argLen v))) ∧
    ∀ i, i < argLen v → ∃ (cs : List Value) (n : Nat) (y : DataW H × List MemPlace), argRow W sz v i = cs.map absV ∧ cs.length = sz ∧ DataW.trod enc P W 0 (fun _ => true) true n e cs = some y ∧
      ∃ b o, b < W.heap.size ∧ ixV sz (argV sz v) i = some (.p b o) ∧ ((absB W b).drop o).take sz = argRow W sz v i ∧ b ∈ bs := by
  rcases okSlice ht hv with rfl | ⟨a, len, cap, rfl, hlc, hspot, c, u, fz, hc⟩
  · exact ⟨by simp [argV, RV], rfl, fun i hi => by simp [argLen] at hi⟩
  · rcases Deep.open_slice ht h with ⟨h0, _⟩ | ⟨a', len', capx, m, n, D, Pl, h0, _, _, _, hm, _, hx⟩
    · cases h0
    simp only [Value.cells, List.cons.injEq, Value.slice.injEq, Option.some.injEq, and_true] at h0
    obtain ⟨ha, hl', hc'⟩ := h0
    subst ha; subst hl'
    simp only [if_true] at hm
    rw [← hc'] at hm
    rw [hm, hsz] at hx
    have hbm : a.block ∈ bs := hb _ (by simp [argB])
    have hB : (absB W a.block).length = c.size := by simp [absB, hc]
    have hat : ∀ i, i < cap → ∃ cs, ((absB W a.block).drop (a.off + i * sz)).take sz = cs.map absV ∧ cs.length = sz ∧ a.off + i * sz + sz ≤ c.size ∧ DataW.trod enc P W 0 (fun _ => true) true n e cs = some (D i, Pl i) := by
      intro i hi
      obtain ⟨cs, h1, h2⟩ := hx i hi
      have hab : (a.add (i * sz)).block = a.block ∧ (a.add (i * sz)).off = a.off + i * sz := by
        unfold Addr.add
        split
        · rename_i h0; rw [h0]; exact ⟨rfl, rfl⟩
        · exact ⟨rfl, rfl⟩
      obtain ⟨k1, k2, k3⟩ := cells_abs h1 (by rw [hab.1]; exact hc)
      rw [hab.1, hab.2] at k1
      rw [hab.2] at k3
      exact ⟨cs, k1, k2, by omega, h2⟩
    have hlt : a.block < W.heap.size := by
      obtain ⟨hlt, _⟩ := Array.getElem?_eq_some_iff.1 hc
      exact hlt
    refine ⟨?_, rfl, fun i hi => ?_⟩
    · simp only [argV, RV]
      refine ⟨(a.block, 0, c.size), a.off, cap, entryPhi_at hbm hc, ?_, hlc, Nat.le_refl _, fun _ => rfl, hpos, ?_⟩
      · obtain ⟨b, o, s⟩ := a
        simp only at hspot
        subst hspot
        rfl
      · by_cases hcap : cap = 0
        · exact .inl hcap
        · right
          obtain ⟨_, _, _, k3, _⟩ := hat (cap - 1) (by omega)
          refine ⟨by simp, ?_⟩
          have : cap * sz = (cap - 1) * sz + sz := by
            conv => lhs; rw [show cap = (cap - 1) + 1 by omega]
            rw [Nat.add_mul, Nat.one_mul]
          show a.off + cap * sz ≤ c.size
          omega
    · have hi' : i < len := hi
      obtain ⟨cs, k1, k2, k3, k4⟩ := hat i (by omega)
      refine ⟨cs, n, _, k1, k2, k4, a.block, a.off + i * sz, hlt, ?_, rfl, hbm⟩
      simp [argV, ixV, ble_of (show i + 1 ≤ len by omega)]

theorem argB_cells {P : Program} {W : World} {base : Nat} {t e : TypeId} {v : Value} (ht : P.underlying t = some (.slice e)) (h : Value.okWide P W .any base t v) : ∀ b ∈ argB v, ∃ c u fz, W.heap[b]? = some (.cells c u fz) := by
  intro b hb
  rcases okSlice ht h with rfl | ⟨a, len, cap, rfl, _, _, hc⟩
  · cases hb
  · simp only [argB, List.mem_singleton] at hb
    subst hb; exact hc

/-- the rows can be read in the heap that the call begins with -/
theorem entry_at {W : World} {bs : List Nat} {b o : Nat} {vs : List V} (hb : b ∈ bs) (hv : ((absB W b).drop o).take vs.length = vs) (hz : ∀ c ∈ vs, c ≠ .z) : CellsAt (entryH W bs) b o vs :=
  ⟨⟨absB W b, b, roC⟩, by simp only [entryH, entryT_get, if_pos hb], hv, hz⟩

theorem Stays.below {W W' : World} (h : Stays W W') : RowKit.Below W.heap.size W W' := ⟨h.os, h.tape, h.output, h.size, h.old⟩

end
end Go.Ev
