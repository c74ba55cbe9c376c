/- A part of the evaluator and of the proof that its word holds in the model (EvApp). -/
import Derived.Test.YtfahdklcgidmmaaGreatDoorEvMem4
namespace Go.Ev

section
variable {P : Program} {W : World}

theorem run_append_in (t u ty e e' : TypeId) (i : TypeInfo) (ht : P.underlying t = some (.slice e)) (hu : P.underlying u = some (.slice e')) (hi : P.info? e = some i)
    (b : Addr) (l c : Nat) (src : Value) (n : Nat) (new : Array Value) (W' : World) (hn : (Builtin.lenOf src).run P W = .ok n W) (hf : (Builtin.firstCells i.size n src).run P W = .ok new W)
    (hfit : l + n ≤ c) (hs : (storeCells (b.add (l * i.size)) new.toList).run P W = .ok () W') :
    (Builtin.append_ #[t, u] ty #[.slice (some b) l c, src]).run P W = .ok (.slice (some b) (l + n) c) W' := by
  simp [Builtin.append_, run_underlying ht, run_underlying hu, sizeOf, typeInfo, hi, hn, hfit, hf, hs]

theorem run_append_nothing (t u ty e e' : TypeId) (i : TypeInfo) (ht : P.underlying t = some (.slice e)) (hu : P.underlying u = some (.slice e')) (hi : P.info? e = some i)
    (b : Option Addr) (l c : Nat) (src : Value) (hn : (Builtin.lenOf src).run P W = .ok 0 W) (hf : (Builtin.firstCells i.size 0 src).run P W = .ok #[] W) (hlc : l ≤ c) :
    (Builtin.append_ #[t, u] ty #[.slice b l c, src]).run P W = .ok (.slice b l c) W := by
  cases b <;> simp [Builtin.append_, run_underlying ht, run_underlying hu, sizeOf, typeInfo, hi, hn, hf, hlc, storeCells]

theorem run_append_new (t u ty e e' : TypeId) (i : TypeInfo) (z : Value) (ht : P.underlying t = some (.slice e)) (hu : P.underlying u = some (.slice e')) (hi : P.info? e = some i) (hz : i.zero = some z)
    (b : Option Addr) (l c : Nat) (src : Value) (n : Nat) (old new : Array Value) (hn : (Builtin.lenOf src).run P W = .ok n W)
    (ho : (Builtin.firstCells i.size l (.slice b l c)).run P W.drew = .ok old W.drew) (hf : (Builtin.firstCells i.size n src).run P W.drew = .ok new W.drew)
    (hg : c < l + n) (h63 : ((l + n : Nat) : Int) ≤ 9223372036854775807) (hfit : Builtin.nextslicecap (l + n) c * i.bytes ≤ 281474976710656) :
    (Builtin.append_ #[t, u] ty #[.slice b l c, src]).run P W =
      .ok (.slice (some ⟨W.heap.size, 0, none⟩) (l + n) (grownCap W (l + n) c e))
        (W.drew.alloc (.cells (old ++ new ++ Builtin.zeroCells z.cells (grownCap W (l + n) c e - (l + n))) e)) := by
  have hn' : ¬ (l + n ≤ c) := by omega
  have h63' : ¬ (9223372036854775807 < ((l : Int) + (n : Int))) := by omega
  have h48' : ¬ (281474976710656 < Builtin.nextslicecap (l + n) c * i.bytes) := by omega
  simp [Builtin.append_, run_underlying ht, run_underlying hu, sizeOf, typeInfo, zeroValue, hi, hz, hn, hn', h63', h48', Question.forced, hf, ho, newRow, grownCap]

theorem grownCap_ge (w : World) (need old : Nat) (e : TypeId) : need ≤ grownCap w need old e := by
  unfold grownCap
  simp only [Question.cut]
  omega

/-! append(s, make([]T, n)...) -/

theorem run_appendZ_in (t u ty e : TypeId) (k : IntKind) (i : TypeInfo) (z : Value) (ht : P.underlying t = some (.slice e)) (hu : P.underlying u = some (.int k)) (hi : P.info? e = some i) (hz : i.zero = some z)
    (b : Addr) (l c : Nat) (kx : IntKind) (n : Nat) (W' : World) (hn : n ≤ 4294967295) (hb : n * i.bytes ≤ 281474976710656) (hns : n * i.size ≠ 0)
    (hfit : l + n ≤ c) (hs : (storeCells (b.add (l * i.size)) (Builtin.zeroCells z.cells n).toList).run P W = .ok () W') :
    (Builtin.append_ #[t, u] ty #[.slice (some b) l c, .int kx (n : Int)]).run P W = .ok (.slice (some b) (l + n) c) W' := by
  have w1 : IntKind.i64.wrap (n : Int) = n := IntWalk.i64_in _ (by omega)
  have w2 : ¬ ((n : Int) < 0) := by omega
  have w3 : ¬ (281474976710656 < (n : Int) * (i.bytes : Int)) := by
    rw [← Int.natCast_mul]; exact Int.not_lt.2 (Int.ofNat_le.2 hb)
  simp [Builtin.append_, run_underlying ht, run_underlying hu, sizeOf, typeInfo, zeroValue, hi, hz, asInt, asIntOf, w1, w2, w3, hfit, hns, hs]

theorem run_appendZ_nothing (t u ty e : TypeId) (k : IntKind) (i : TypeInfo) (ht : P.underlying t = some (.slice e)) (hu : P.underlying u = some (.int k)) (hi : P.info? e = some i)
    (b : Option Addr) (l c : Nat) (kx : IntKind) (hlc : l ≤ c) :
    (Builtin.append_ #[t, u] ty #[.slice b l c, .int kx 0]).run P W = .ok (.slice b l c) W := by
  have w1 : IntKind.i64.wrap (0 : Int) = 0 := IntWalk.i64_in _ (by omega)
  cases b <;> simp [Builtin.append_, run_underlying ht, run_underlying hu, sizeOf, typeInfo, hi, asInt, asIntOf, w1, hlc, storeCells]

theorem run_appendZ_new (t u ty e : TypeId) (k : IntKind) (i : TypeInfo) (z : Value) (ht : P.underlying t = some (.slice e)) (hu : P.underlying u = some (.int k)) (hi : P.info? e = some i) (hz : i.zero = some z)
    (b : Option Addr) (l c : Nat) (kx : IntKind) (n : Nat) (old : Array Value) (hn : n ≤ 4294967295) (hb : n * i.bytes ≤ 281474976710656) (hns : n * i.size ≠ 0)
    (ho : (Builtin.firstCells i.size l (.slice b l c)).run P W.drew = .ok old W.drew)
    (hg : c < l + n) (h63 : ((l + n : Nat) : Int) ≤ 9223372036854775807) (hfit : Builtin.nextslicecap (l + n) c * i.bytes ≤ 281474976710656) :
    (Builtin.append_ #[t, u] ty #[.slice b l c, .int kx (n : Int)]).run P W =
      .ok (.slice (some ⟨W.heap.size, 0, none⟩) (l + n) (grownCap W (l + n) c e))
        (W.drew.alloc (.cells (old ++ Builtin.zeroCells z.cells n ++ Builtin.zeroCells z.cells (grownCap W (l + n) c e - (l + n))) e)) := by
  have w1 : IntKind.i64.wrap (n : Int) = n := IntWalk.i64_in _ (by omega)
  have w2 : ¬ ((n : Int) < 0) := by omega
  have w3 : ¬ (281474976710656 < (n : Int) * (i.bytes : Int)) := by
    rw [← Int.natCast_mul]; exact Int.not_lt.2 (Int.ofNat_le.2 hb)
  have hn' : ¬ (l + n ≤ c) := by omega
  have h63' : ¬ (9223372036854775807 < ((l : Int) + (n : Int))) := by omega
  have h48' : ¬ (281474976710656 < Builtin.nextslicecap (l + n) c * i.bytes) := by omega
  simp [Builtin.append_, run_underlying ht, run_underlying hu, sizeOf, typeInfo, zeroValue, hi, hz, asInt, asIntOf, w1, w2, w3, hn', h63', h48', hns, Question.forced, ho, newRow, grownCap]

end

/-- what an append comes to, whatever is appended: the three ways -/
structure AppRuns (P : Program) (m : Sem Value) (b : Option Addr) (l c sz n : Nat) (new : List Value) (bytes : Nat) (e : TypeId) (z : Value) (W : World) : Prop where
  nothing : n = 0 → l ≤ c → m.run P W = .ok (.slice b l c) W
  room : ∀ (q : Addr) (W' : World), b = some q → 0 < n → l + n ≤ c → (storeCells (q.add (l * sz)) new).run P W = .ok () W' → m.run P W = .ok (.slice b (l + n) c) W'
  grown : ∀ (old : List Value), 0 < n → c < l + n → (Builtin.firstCells sz l (.slice b l c)).run P W.drew = .ok old.toArray W.drew → (l + n) * bytes ≤ 140737488355328 → l + n ≤ 4294967295 →
    ∃ more : List Value, ∃ cap, l + n ≤ cap ∧ more.length = (cap - (l + n)) * sz ∧ m.run P W = .ok (.slice (some ⟨W.heap.size, 0, none⟩) (l + n) cap) (W.drew.alloc (.cells (old ++ new ++ more).toArray e))

section
variable {P : Program} {φ : Phi} {h : H} {W : World}

theorem zero_length (z : Array Value) (n : Nat) : (Builtin.zeroCells z n).toList.length = n * z.size := by simp [Builtin.zeroCells]

theorem first_ok {b o l sz : Nat} {old : List V} (r : RW φ h W) (hold : (bif Nat.beq l 0 then some [] else h.ldn b o (l * sz)) = some old) {x : Nat × Nat × Nat} (hx : φ b = some x) {o' c' : Nat}
    (hat : 0 < l → o' = x.2.1 + o) :
    ∃ ys : List Value, ys.length = l * sz ∧ RVs φ old ys ∧ old.all one = true ∧ (Builtin.firstCells sz l (.slice (some ⟨x.1, o', none⟩) l c')).run P W.drew = .ok ys.toArray W.drew := by
  simp only [cond_eq_ite, Nat.beq_eq] at hold
  split at hold
  · rename_i hl
    cases hold
    subst hl
    refine ⟨[], by simp, by simp [RVs], rfl, ?_⟩
    exact run_firstCells_some W.drew sz 0 _ _ _ [] (by simp) (fun j v hv => by simp at hv)
  · rename_i hl
    obtain ⟨ys, h1, h2, h3, h4⟩ := ldn_ok r hold hx
    rw [← hat (by omega)] at h4
    exact ⟨ys, h1, h2, h3, run_firstCells_some W.drew sz l _ _ _ ys h1 (fun j v hv => by simpa using h4 j v hv)⟩

/-- APPEND -/
theorem append_ok (r : RW φ h W) {X v : V} {sz bytes n : Nat} {new : List V} {h' : H} (ha : h.append X sz bytes n new = some (v, h')) {zx : Value} (hX : RV φ X zx) (hsz : 1 ≤ sz) {ys : List Value} (hys : ys.length = n * sz) (hnew : RVs φ new ys) (hone : new.all one = true)
    {m : Sem Value} {e : TypeId} {z : Value} (_ : z.cells.size = sz) (hm : ∀ b l c, zx = .slice b l c → AppRuns P m b l c sz n ys bytes e z W) :
    ∃ φ' q W', m.run P W = .ok q W' ∧ RV φ' v q ∧ RW φ' h' W' ∧ Grow φ φ' W ∧ Ext φ W W' := by
  unfold H.append at ha
  simp only [cond_eq_ite, Nat.beq_eq] at ha
  split at ha
  · -- nothing is appended
    rename_i hn
    split at ha
    · cases ha
      have hX' := hX
      simp only [RV] at hX
      exact ⟨φ, _, W, (hm _ _ _ hX).nothing hn (Nat.le_refl _), by simp only [RV], r, Grow.refl _ _, Ext.refl _ _⟩
    · cases ha
      have hX' := hX
      simp only [RV] at hX
      obtain ⟨x, o', c', hx, he, h1, h2, h3, h4⟩ := hX
      refine ⟨φ, _, W, (hm _ _ _ he).nothing hn (by omega), ?_, r, Grow.refl _ _, Ext.refl _ _⟩
      rw [← he]; exact hX'
    · cases ha
  rename_i hn
  have newAt : ∀ (W1 : World) (cs : List V) (zs more : List Value) (cap need : Nat), RVs φ cs zs → cs.all one = true → W1.heap.size = W.heap.size → W1.heap = W.heap → W1.tape = W.tape → W1.os = W.os → W1.output = W.output → zs.length = need * sz → need ≤ cap → more.length = (cap - need) * sz →
      ∃ φ', RV φ' (.sl h.nb 0 need need sz false) (.slice (some ⟨W.heap.size, 0, none⟩) need cap) ∧ RW φ' (h.alloc cs) (W1.alloc (.cells (zs ++ more).toArray e)) ∧ Grow φ φ' W ∧ Ext φ W (W1.alloc (.cells (zs ++ more).toArray e)) := by
    intro W1 cs zs more cap need hr ho hs hh ht hos hou hzl hnc hmore
    have hm1 := made_alloc (ψ := φ) e hr ho W1 more
    obtain ⟨g1, g2, g3⟩ := (r.drawn (W' := W1) hh).made hm1
    have hsz' : (zs ++ more).toArray.size = cap * sz := by
      simp only [List.size_toArray, List.length_append, hzl, hmore]
      rw [← Nat.add_mul]; congr 1; omega
    refine ⟨_, ?_, g1, ⟨g2.le, fun b x hb hlt => g2.new b x hb (by omega)⟩, ?_⟩
    · simp only [RV]
      refine ⟨_, 0, cap, Phi.upd_same _ _ _, by rw [hs], Nat.le_refl _, hnc, (fun h => by cases h), hsz, .inr ⟨rfl, by simp only [hsz']; omega⟩⟩
    · exact ⟨by rw [← hs]; exact g3.size, fun wb hwb hout => by rw [g3.out wb (by omega) hout, hh], fun wb c e fz hc => g3.shape wb c e fz (by rw [hh]; exact hc), g3.tape.trans ht, g3.os.trans hos, g3.output.trans hou⟩
  split at ha
  · -- nil
    simp only [Bool.and_eq_true, Nat.ble_eq] at ha
    split at ha
    · rename_i hb
      cases ha
      simp only [RV] at hX
      have hA := hm _ _ _ hX
      obtain ⟨more, cap, hc, hmore, hrun⟩ := hA.grown [] (by omega) (by omega) (by rw [run_firstCells_none]) (by simpa using hb.1) (by simpa using hb.2)
      rw [Nat.zero_add, List.nil_append] at *
      obtain ⟨φ', q1, q2, q3, q4⟩ := newAt W.drew new ys more cap n hnew hone rfl rfl rfl rfl rfl hys (by omega) hmore
      exact ⟨φ', _, _, hrun, q1, q2, q3, q4⟩
    · cases ha
  · rename_i b o l c sz' ex
    split at ha
    case isFalse => cases ha
    rename_i hszz
    subst hszz
    have hX' := hX
    simp only [RV] at hX
    obtain ⟨x, o', c', hx, he, hlc, hcc, hex, _, hat⟩ := hX
    have hA := hm _ _ _ he
    simp only [Nat.ble_eq] at ha
    split at ha
    · -- there is room
      rename_i hfit
      split at ha
      · rename_i h2 hst
        cases ha
        obtain ⟨rfl, hat2⟩ : o' = x.2.1 + o ∧ o + c' * sz ≤ x.2.2 := by
          rcases hat with hat | hat
          · omega
          · exact hat
        obtain ⟨W', hs, hr', hext⟩ := stn_ok (P := P) r hst hx hnew hone
        refine ⟨φ, _, W', hA.room _ W' rfl (by omega) (by omega) (by rw [add_off, Nat.add_assoc]; exact hs), ?_, hr', Grow.refl _ _, hext⟩
        simp only [RV]
        exact ⟨x, _, c', hx, rfl, hfit, hcc, hex, hsz, .inr ⟨rfl, hat2⟩⟩
      · cases ha
    · rename_i hfit
      simp only [Bool.and_eq_true, Nat.ble_eq] at ha
      split at ha
      case isFalse => cases ha
      rename_i hb
      split at ha
      · cases ha
      rename_i old hold
      have hat0 : 0 < l → o' = x.2.1 + o := fun hl => by
        rcases hat with hat | hat
        · omega
        · exact hat.1
      obtain ⟨os, hol, hor, hoo, hfirst⟩ := first_ok (P := P) (c' := c') r (by simpa only [cond_eq_ite, Nat.beq_eq] using hold) hx hat0
      have hcat : RVs φ (app old new) (os ++ ys) := by rw [app_eq]; exact hor.append hnew
      have hcone : (app old new).all one = true := by rw [app_eq, List.all_append, hoo, hone]; rfl
      have hclen : (os ++ ys).length = (l + n) * sz := by rw [List.length_append, hol, hys, ← Nat.add_mul]
      split at ha
      · -- the capacity is known: it grows
        rename_i hext
        cases ha
        have hc' := hex hext
        obtain ⟨more, cap, hcap, hmore, hrun⟩ := hA.grown os (by omega) (by omega) hfirst hb.1 hb.2
        obtain ⟨φ', q1, q2, q3, q4⟩ := newAt W.drew (app old new) (os ++ ys) more cap (l + n) hcat hcone rfl rfl rfl rfl rfl hclen hcap hmore
        exact ⟨φ', _, _, hrun, q1, q2, q3, q4⟩
      · split at ha
        · cases ha
        rename_i k hk
        split at ha
        · cases ha
        rename_i hlow
        simp only [Option.some.injEq, Prod.mk.injEq] at ha
        obtain ⟨rfl, rfl⟩ := ha
        -- whose cells are poisoned
        generalize hmem : memOf (h.gr.get k.grp) = mem
        have hless : Less h ⟨h.nb, poisonL h.nb (k.dl + (o + l * sz)) (n * sz) (k.grp :: mem) h.bl, h.gr⟩ := poisonL_less
        have hgr' : ∀ (b2 : Nat) (k2 : Blk), (poisonL h.nb (k.dl + (o + l * sz)) (n * sz) (k.grp :: mem) h.bl).get b2 = some k2 → b2 = k2.grp ∨ ∃ q, (h.gr.set k.grp (h.nb :: mem)).get k2.grp = some q ∧ b2 ∈ q := by
          intro b2 k2 hb2
          obtain ⟨k3, hk3, hg3, _⟩ := hless.get b2 k2 hb2
          rw [hg3, T.get_set]
          rcases r.grp b2 k3 hk3 with h' | ⟨q, hq, hmq⟩
          · exact .inl h'
          · split
            · rename_i e3
              rw [e3] at hq
              rw [hq] at hmem
              simp only [memOf] at hmem; subst hmem
              exact .inr ⟨_, rfl, by simp [hmq]⟩
            · exact .inr ⟨q, hq, hmq⟩
        obtain ⟨xb, cb, eb, fzb, hxb, hcb, hszb, hlenb, hfzb, hcellb⟩ := r.blk b k hk
        rw [hx] at hxb; cases hxb
        obtain ⟨hro, hfzb⟩ : φ.ro x.1 = false ∧ (fzb.2 ≤ fzb.1 ∨ cb.size ≤ fzb.1) := by
          rcases hfzb with hfzb | hfzb
          · exact absurd hfzb.2 hlow
          · exact hfzb
        by_cases hroom : l + n ≤ c'
        · -- it lies where it lay
          obtain ⟨rfl, hat2⟩ : o' = x.2.1 + o ∧ o + c' * sz ≤ x.2.2 := by
            rcases hat with hat | hat
            · omega
            · exact hat
          have hspace : (l + n) * sz ≤ c' * sz := Nat.mul_le_mul_right _ hroom
          have hadd : (l + n) * sz = l * sz + n * sz := Nat.add_mul _ _ _
          have hfit' : x.2.1 + (o + l * sz) + ys.length ≤ cb.size := by omega
          have hcell : ∀ j, j < ys.length → (W.cell? ⟨x.1, x.2.1 + (o + l * sz) + 0 + j, none⟩).isSome = true := by
            intro j hj
            have : x.2.1 + (o + l * sz) + j < cb.size := by omega
            simp [World.cell?, hcb, this]
          have hfro : ∀ j, j < ys.length → W.frozen? ⟨x.1, x.2.1 + (o + l * sz) + 0 + j, none⟩ = false := by
            intro j hj
            simp only [World.frozen?, hcb, Nat.add_zero, Bool.and_eq_false_iff, decide_eq_false_iff_not]
            omega
          have h1c : ∀ y ∈ ys, y.oneCell' = true := by
            intro y hy
            obtain ⟨j, hj⟩ := List.getElem?_of_mem hy
            have hjl : j < new.length := by
              have := hnew.length
              obtain ⟨hlt, _⟩ := List.getElem?_eq_some_iff.1 hj
              omega
            obtain ⟨y', hy', hry⟩ := hnew.get (List.getElem?_eq_getElem hjl)
            rw [hj] at hy'; cases hy'
            exact (hry.oneCell (get_of_all hone (List.getElem?_eq_getElem hjl))).1
          have hrun := run_storeCells_cells (P := P) x.1 (x.2.1 + (o + l * sz)) ys 0 W hcell hfro h1c
          rw [Nat.add_zero] at hrun
          obtain ⟨cb', g1, g2, g3, g4, _⟩ := setCells_heap x.1 ys (x.2.1 + (o + l * sz)) W cb eb fzb hcb hfit'
          have hgetc : ∀ i, cb'[i]? = if x.2.1 + (o + l * sz) ≤ i ∧ i < x.2.1 + (o + l * sz) + ys.length ∧ i < cb.size then ys[i - (x.2.1 + (o + l * sz))]? else cb[i]? := by
            intro i
            have : cb'.toList[i]? = (putN cb.toList (x.2.1 + (o + l * sz)) ys)[i]? := by rw [g2]
            rw [get_putN] at this
            simpa using this
          have hsz' : cb'.size = cb.size := by
            have := congrArg List.length g2
            simpa [length_putN] using this
          have rw1 : RW φ ⟨h.nb, poisonL h.nb (k.dl + (o + l * sz)) (n * sz) (k.grp :: mem) h.bl, h.gr⟩ (W.setCells x.1 (x.2.1 + (o + l * sz)) ys) := by
            refine r.write (wb := x.1) hcb g1 g2 hfit' g3 g4 rfl rfl fun b2 k' hb2 => ?_
            obtain ⟨k2, hk2, hh⟩ := (poisonL_ok h.nb (k.dl + (o + l * sz)) (n * sz) (k.grp :: mem) h.bl).2 b2 k' hb2
            refine ⟨k2, hk2, ?_⟩
            have hb2n : b2 ≠ h.nb := fun e => by
              subst e
              rw [r.fresh _ (Nat.le_refl _)] at hk2; cases hk2
            rcases hh with ⟨e', _⟩ | ⟨_, ⟨hmm, rfl⟩ | ⟨_, hp⟩⟩
            · exact (hb2n e').elim
            · refine ⟨rfl, rfl, rfl, fun y j v hy hv => .inr (.inl ⟨hv, fun hw => ?_⟩)⟩
              obtain ⟨hg, _⟩ := r.alias b2 b k' k y x hk2 hk hy hx hw
              refine (hmm ?_).elim
              rcases r.grp b2 k' hk2 with h'' | ⟨l', hl, hml⟩
              · rw [h'', hg]; simp
              · rw [hg] at hl
                rw [hl] at hmem
                simp only [memOf] at hmem; subst hmem
                simp [hml]
            · refine ⟨hp.grp, hp.dl, hp.len, fun y j v hy hv => ?_⟩
              rcases hp.get j v hv with hz' | ⟨hv', hnot⟩
              · exact .inl hz'
              · refine .inr (.inl ⟨hv', fun hw hh => hnot ?_⟩)
                obtain ⟨_, ha⟩ := r.alias b2 b k2 k y x hk2 hk hy hx hw
                omega
          have rw2 := rw1.addG (cs := app old new) (gp := k.grp) (dl := k.dl + o) (wb := x.1) (wo := x.2.1 + o) (sz := x.2.2 - o) (gr' := h.gr.set k.grp (h.nb :: mem)) g1 (.inr ⟨hro, by rw [hsz']; exact hfzb⟩) (by omega)
            (by rw [hcat.length, hclen]; omega) hgr' ⟨h.nb :: mem, by simp [T.get_set], by simp⟩
            (fun b2 k2 y hb2 hy hw => by
              obtain ⟨k3, hk3, hg3, hd3, _⟩ := hless.get b2 k2 hb2
              obtain ⟨hg, ha⟩ := r.alias b2 b k3 k y x hk3 hk hy hx hw
              rw [hg3, hd3]
              exact ⟨hg, by omega⟩)
            (fun j v hv => by
              refine .inr ⟨get_of_all hcone hv, ?_⟩
              obtain ⟨y, hy, hry⟩ := hcat.get hv
              refine ⟨y, ?_, hry⟩
              rw [hgetc]
              have hjl : j < (os ++ ys).length := by
                obtain ⟨hlt, _⟩ := List.getElem?_eq_some_iff.1 hy
                exact hlt
              by_cases hjo : j < os.length
              · rw [if_neg (by omega)]
                rw [List.getElem?_append_left hjo] at hy
                -- an old cell
                have hjold : j < old.length := by rw [hor.length]; exact hjo
                have hl0 : l ≠ 0 := fun e => by subst e; simp at hol; rw [hol] at hjo; simp at hjo
                rw [if_neg hl0] at hold
                obtain ⟨ys2, a1, a2, a3, a4⟩ := ldn_ok r hold hx
                -- the cells that were read are those
                have hfc := run_firstCells_some (P := P) W.drew sz l ⟨x.1, x.2.1 + o, none⟩ l c' ys2 a1 (fun j v hv => by simpa using a4 j v hv)
                rw [hfirst] at hfc
                simp only [Result.ok.injEq, and_true] at hfc
                have hyy : os = ys2 := by
                  have := congrArg Array.toList hfc
                  simpa using this
                subst hyy
                have := a4 j y hy
                rw [add_off] at this
                simpa [World.cell?, hcb] using this
              · rw [List.length_append] at hjl
                rw [if_pos (by omega)]
                rw [List.getElem?_append_right (by omega)] at hy
                rw [← hy]; congr 1; omega)
          refine ⟨_, _, _, hA.room _ _ rfl (by omega) hroom (by rw [add_off, Nat.add_assoc]; exact hrun), ?_, rw2, ?_, write_ext hx rfl hro hcb hfit'⟩
          · simp only [RV]
            refine ⟨_, x.2.1 + o, c', Phi.upd_same _ _ _, rfl, Nat.le_refl _, hroom, (fun h => by cases h), hsz, .inr ⟨rfl, ?_⟩⟩
            show 0 + c' * sz ≤ x.2.2 - o
            omega
          · refine ⟨Phi.le_upd _ (r.none_nb (Nat.le_refl _)), fun b2 y hy hlt => ?_⟩
            by_cases e2 : b2 = h.nb
            · subst e2
              rw [Phi.upd_same] at hy; cases hy
              exact ⟨b, x, hx, rfl⟩
            · rw [Phi.upd_other _ _ e2] at hy
              exact ⟨b2, y, hy, rfl⟩
        · -- it is laid anew
          obtain ⟨more, cap, hcap, hmore, hrun⟩ := hA.grown os (by omega) (by omega) hfirst hb.1 hb.2
          have hm1 := made_alloc (ψ := φ) e hcat hcone W.drew more
          have rl : RW φ ⟨h.nb, poisonL h.nb (k.dl + (o + l * sz)) (n * sz) (k.grp :: mem) h.bl, h.gr⟩ W.drew := (r.less hless).drawn rfl
          obtain ⟨e', fz', hat', hfz'⟩ := hm1.at_
          have rp := rl.push hm1.old (by rw [hm1.size]; omega)
          have hsz' : (os ++ ys ++ more).toArray.size = cap * sz := by
            simp only [List.size_toArray, List.length_append (bs := more), hclen, hmore]
            rw [← Nat.add_mul]; congr 1; omega
          have rw2 := rp.addG (cs := app old new) (gp := k.grp) (dl := k.dl + o) (wb := W.heap.size) (wo := 0) (sz := cap * sz) (gr' := h.gr.set k.grp (h.nb :: mem)) hat' (.inr ⟨r.soft_new (Nat.le_refl _), hfz'⟩) (by rw [hsz']; omega)
            (by rw [hcat.length, hclen]; exact Nat.mul_le_mul_right _ hcap) hgr' ⟨h.nb :: mem, by simp [T.get_set], by simp⟩
            (fun b2 k2 y hb2 hy hw => by have := (r.img b2 y hy).2; omega)
            (fun j v hv => by
              obtain ⟨h1, y, hy, hr⟩ := hm1.cells j v hv
              exact .inr ⟨h1, y, by rw [Nat.zero_add]; exact hy, hr⟩)
          refine ⟨_, _, _, hrun, ?_, rw2, ?_, ?_⟩
          · simp only [RV]
            refine ⟨_, 0, cap, Phi.upd_same _ _ _, rfl, Nat.le_refl _, hcap, (fun h => by cases h), hsz, .inr ⟨rfl, ?_⟩⟩
            show 0 + cap * sz ≤ cap * sz
            omega
          · exact grow_upd r (Nat.le_refl _)
          · have g3 := Made.ext (φ := φ) hm1
            exact ⟨g3.size, fun wb hwb hout => g3.out wb hwb hout, fun wb c e fz hc => g3.shape wb c e fz hc, g3.tape, g3.os, g3.output⟩
  · cases ha

end
end Go.Ev
