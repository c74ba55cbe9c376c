/- A part of the evaluator and of the proof that its word holds in the model (EvMem2). -/
import Derived.Test.YtfahdklcgidmmaaGreatDoorEvMem
namespace Go.Ev

section
variable {P : Program} {φ ψ : Phi} {h : H} {W : World} {G : List Nat} {nt : Nat} {env : Env} {a : Act}

theorem cC_L {o : Oper} {c : LC} (hc : cC P G o.op = some (.L c)) : cL P G o.op = some c := by
  unfold cC at hc
  split at hc
  · rename_i s d x ho
    unfold cConv at hc
    split at hc
    · cases hc
    split at hc
    · cases hc
    split at hc <;> cases hc
  · split at hc
    · cases hc
    · split at hc
      · rename_i c' hc'
        cases hc
        exact hc'
      · split at hc
        · cases hc
        · split at hc <;> cases hc

theorem cC_A {o : Oper} {c : AC} (hc : cC P G o.op = some (.A c)) : cA P G o.op = some c := by
  unfold cC at hc
  split at hc
  · rename_i s d x ho
    unfold cConv at hc
    split at hc
    · cases hc
    split at hc
    · cases hc
    split at hc <;> cases hc
  · split at hc
    · cases hc
    · split at hc
      · cases hc
      · split at hc
        · rename_i c' hc'
          cases hc
          exact hc'
        · split at hc <;> cases hc

theorem cC_E {o : Oper} {c : EC} (hc : cC P G o.op = some (.E c)) : cE P G o.op = some c := by
  unfold cC at hc
  split at hc
  · rename_i s d x ho
    unfold cConv at hc
    split at hc
    · cases hc
    split at hc
    · cases hc
    split at hc <;> cases hc
  · split at hc
    · cases hc
    · split at hc
      · cases hc
      · split at hc
        · cases hc
        · split at hc
          · rename_i c' hc'
            cases hc
            exact hc'
          · cases hc

/-- THE LOADS -/
theorem load_ok (le : φ.le ψ) (r : REnv nt ψ env a.tmps) (g : GOK G ψ) (w : RW φ h W) {o : Oper} {c : LC} (hc : cC P G o.op = some (.L c)) {v : V} (hv : evL c env h = some v) :
    ∃ z, (execOp a.eval o).run P W = .ok (.value z) W ∧ RV ψ v z := by
  replace hc := cC_L hc
  obtain ⟨dst, op, type, pos, after, guard⟩ := o
  have dom : ∀ b k, h.bl.get b = some k → ∃ x, φ b = some x ∧ ψ b = some x := fun b k hk => by
    obtain ⟨x, _, _, _, hx, _⟩ := w.blk b k hk
    exact ⟨x, hx, le.sub b x hx⟩
  cases op <;> simp only [execOp] <;> simp only [cL, reduceCtorEq] at hc
  case load t x =>
    split at hc
    · cases hc
    rename_i p hp
    split at hc
    · rename_i ha
      split at hc
      · rename_i n hn
        cases hc
        simp only [evL, evLdn] at hv
        split at hv
        · rename_i b oo hb
          split at hv
          · rename_i cs hcs
            cases hv
            obtain ⟨y, hy, he⟩ := ptr_ok (a := a) r g hp hb
            have hbl : ∃ k, h.bl.get b = some k := by
              unfold H.ldn at hcs
              split at hcs
              · cases hcs
              · rename_i k hk; exact ⟨k, hk⟩
            obtain ⟨k, hk⟩ := hbl
            obtain ⟨x', hx', hx''⟩ := dom b k hk
            rw [hy] at hx''; cases hx''
            obtain ⟨ys, hl, hr, ho, hcell⟩ := ldn_ok w hcs hx'
            refine ⟨.agg ys.toArray, run_v (s := Instr.loadAt t (a.eval x)) ?_, ?_⟩
            · rw [he]
              simp only [Instr.loadAt, Instr.sureAddr, Sem.run_bind, Sem.run_pure, Result.andThen_ok]
              exact run_load_agg ha hn _ ys hl hcell
            · simp only [RV]
              exact ⟨_, rfl, RVs.mono le _ _ (by simpa using hr), ho⟩
          · cases hv
        · cases hv
      · cases hc
    · rename_i ha
      cases hc
      simp only [evL, evLd1] at hv
      split at hv
      · rename_i b oo hb
        obtain ⟨y, hy, he⟩ := ptr_ok (a := a) r g hp hb
        have hbl : ∃ k, h.bl.get b = some k := by
          unfold H.ld1 at hv
          split at hv
          · cases hv
          · rename_i k hk; exact ⟨k, hk⟩
        obtain ⟨k, hk⟩ := hbl
        obtain ⟨x', hx', hx''⟩ := dom b k hk
        rw [hy] at hx''; cases hx''
        obtain ⟨_, z, hz, hr⟩ := ld1_ok w hv hx'
        refine ⟨z, run_v (s := Instr.loadAt t (a.eval x)) ?_, RV.mono le _ _ hr⟩
        rw [he]
        simp only [Instr.loadAt, Instr.sureAddr, Sem.run_bind, Sem.run_pure, Result.andThen_ok]
        exact run_load_one ha _ hz
      · cases hv
    · cases hc
  case slice t x lo hi mx =>
    unfold cSlA at hc
    split at hc
    · rename_i n e ht
      split at hc
      · cases hc
      split at hc
      · cases hc
      rename_i s hs
      split at hc
      · cases hc
      rename_i p hp
      split at hc
      · cases hc
      rename_i plo hplo
      split at hc
      · cases hc
      rename_i phi hphi
      cases hc
      simp only [evL, evSlA] at hv
      split at hv
      · rename_i b oo hb
        split at hv
        · rename_i nlo hnlo
          split at hv
          · rename_i nhi hnhi
            split at hv
            · rename_i k hk
              simp only [cond_eq_ite, Bool.and_eq_true, Nat.ble_eq, len_eq] at hv
              split at hv
              · rename_i hcc
                cases hv
                obtain ⟨y, hy, he⟩ := ptr_ok (a := a) r g hp hb
                obtain ⟨x', cc, ee, fz, hx', _, _, hlen, _⟩ := w.blk b k hk
                have := le.sub b x' hx'
                rw [hy] at this; cases this
                have hlo := optO_map (a := a) r g hplo hnlo
                have hhi := optO_map (a := a) r g hphi hnhi
                have hbd := run_bounds (P := P) (W := W) false n n nlo nhi (lo.map a.eval) (hi.map a.eval) hlo hhi hcc.1.1.1 hcc.1.1.2
                refine ⟨_, run_v (s := Instr.sliceAt t (a.eval x) (lo.map a.eval) (hi.map a.eval) (none.map a.eval)) ?_,
                  slice_rel (φ := ψ) (b := b) (o := oo) (sz := s) (lo := nlo) (hi := nhi) (c' := n) (ex := true) (x := y) (o' := y.2.1 + oo) (m := n) (m' := n) hy hcc.1.2 (.inr ⟨rfl, by omega⟩) hcc.1.1.1 hcc.1.1.2 (Nat.le_refl _) (Nat.le_refl _) (fun _ => rfl)⟩
                rw [he]
                simp only [Instr.sliceAt, Sem.run_bind, run_underlying ht, Result.andThen_ok, Instr.sureAddr, Sem.run_pure, Option.map_none, hbd, run_sizeOf hs]
                congr 2
                by_cases e : n = nlo <;> simp [e]
              · cases hv
            · cases hv
          · cases hv
        · cases hv
      · cases hv
    · cases hc

/-! what is made -/

/-- a new row of cells, which holds what the abstract block holds (and perhaps more) -/
structure Made (ψ : Phi) (cs : List V) (W W' : World) (c : Array Value) : Prop where
  at_ : ∃ e fz, W'.heap[W.heap.size]? = some (.cells c e fz) ∧ (fz.2 ≤ fz.1 ∨ c.size ≤ fz.1)
  size : W'.heap.size = W.heap.size + 1
  old : ∀ i, i < W.heap.size → W'.heap[i]? = W.heap[i]?
  tape : W'.tape = W.tape
  os : W'.os = W.os
  output : W'.output = W.output
  fits : cs.length ≤ c.size
  cells : ∀ (j : Nat) (v : V), cs[j]? = some v → one v = true ∧ ∃ y, c[j]? = some y ∧ RV ψ v y

theorem made_alloc {cs : List V} {ys : List Value} (e : TypeId) (hr : RVs ψ cs ys) (ho : cs.all one = true) (W : World) (more : List Value) :
    Made ψ cs W (W.alloc (.cells (ys ++ more).toArray e)) (ys ++ more).toArray where
  at_ := ⟨e, (0, 0), by show (W.heap.push _)[W.heap.size]? = _; simp, .inl (Nat.le_refl _)⟩
  size := by simp
  old i hi := by show (W.heap.push _)[i]? = _; simp [Array.getElem?_push, Nat.ne_of_lt hi]
  tape := rfl
  os := rfl
  output := rfl
  fits := by simp [hr.length]
  cells j v hv := ⟨get_of_all ho hv, by
    obtain ⟨y, hy, hry⟩ := hr.get hv
    refine ⟨y, ?_, hry⟩
    have hlt : j < ys.length := by
      obtain ⟨h, _⟩ := List.getElem?_eq_some_iff.1 hy
      exact h
    simp [List.getElem?_append_left hlt, hy]⟩

theorem RVs.repl {z : List V} {zc : Array Value} (hz : RVs ψ z zc.toList) (n : Nat) : RVs ψ (Go.Ev.repl n z) ((Array.range (n * zc.size)).map (zc[· % zc.size]!)).toList := by
  have hl := hz.length
  simp only [Array.length_toList] at hl
  have hlen : ∀ n, (Go.Ev.repl n z).length = n * zc.size := by
    intro n
    induction n with
    | zero => simp [Go.Ev.repl]
    | succ n ih => simp [Go.Ev.repl, app_eq, ih, hl, Nat.succ_mul]; omega
  refine .of_get (by simp [hlen]) ?_
  have key : ∀ (n j : Nat) (v : V), (Go.Ev.repl n z)[j]? = some v → z[j % zc.size]? = some v := by
    intro n
    induction n with
    | zero => intro j v hv; simp [Go.Ev.repl] at hv
    | succ n ih =>
      intro j v hv
      simp only [Go.Ev.repl, app_eq] at hv
      by_cases hj : j < z.length
      · rw [List.getElem?_append_left hj] at hv
        rwa [Nat.mod_eq_of_lt (by omega)]
      · rw [List.getElem?_append_right (by omega)] at hv
        have := ih _ _ hv
        rw [hl] at this hj
        rwa [Nat.mod_eq_sub_mod (by omega)]
  intro j v x hv hx
  have h1 := key n j v hv
  obtain ⟨y, hy, hr⟩ := hz.get h1
  simp only [Array.getElem?_toList, Array.getElem?_map] at hx
  obtain ⟨i, hi, rfl⟩ := Option.map_eq_some_iff.1 hx
  have hij : i = j := by
    have := Array.getElem?_eq_some_iff.1 hi
    obtain ⟨hlt, he⟩ := this
    simp at he
    exact he.symm
  subst hij
  have hy' : zc[i % zc.size]? = some y := by simpa using hy
  obtain ⟨hlt, he⟩ := Array.getElem?_eq_some_iff.1 hy'
  rw [getElem!_pos zc _ hlt, he]
  exact hr

theorem one_repl {z : List V} (h : z.all one = true) (n : Nat) : (Go.Ev.repl n z).all one = true := by
  induction n with
  | zero => rfl
  | succ n ih => simp [Go.Ev.repl, app_eq, List.all_append, h, ih]

/-- THE OPERATIONS THAT MAKE MEMORY -/
theorem alloc_ok (r : REnv nt ψ env a.tmps) (g : GOK G ψ) {o : Oper} {c : AC} (hc : cC P G o.op = some (.A c)) {q : List V × AR} (hv : evA c env = some q) (W : World) :
    ∃ z W' cc, (execOp a.eval o).run P W = .ok (.value z) W' ∧ Made ψ q.1 W W' cc ∧ ∀ (χ : Phi) (b : Nat), χ b = some (W.heap.size, 0, cc.size) → RV χ (q.2.at b) z := by
  replace hc := cC_A hc
  obtain ⟨dst, op, type, pos, after, guard⟩ := o
  cases op <;> simp only [execOp] <;> simp only [cA, reduceCtorEq] at hc
  case alloc t =>
    split at hc
    · rename_i z hz
      cases hc
      simp only [evA, Option.some.injEq] at hv
      subst hv
      obtain ⟨i, zv, hi, hzv, hzr⟩ := zeroT_ok hz
      obtain ⟨h1, h2⟩ := hzr ψ
      have hm := made_alloc (ψ := ψ) t h1 h2 W []
      simp only [List.append_nil, Array.toArray_toList] at hm
      refine ⟨.pointer (some ⟨W.heap.size, 0, none⟩), _, _, run_v (s := Instr.alloc t true (.tuple #[])) ?_, hm, fun χ b hb => ?_⟩
      · simp only [Instr.alloc, Sem.run_bind, run_zeroValue hi hzv, Result.andThen_ok]
        simp [newVar, newRow]
      · simp only [AR.at, RV]
        exact ⟨_, hb, rfl⟩
    · cases hc
  case box t x =>
    split at hc
    · rename_i p hp
      cases hc
      simp only [evA, evBox] at hv
      split at hv
      · rename_i v hv'
        split at hv
        · rename_i cs hcs
          cases hv
          have hr := toO_ok hp r g hv'
          obtain ⟨h1, h2⟩ := RV.cells hcs hr
          have hm := made_alloc (ψ := ψ) t h1 h2 W []
          simp only [List.append_nil, Array.toArray_toList] at hm
          refine ⟨.pointer (some ⟨W.heap.size, 0, none⟩), _, _, run_v (s := Instr.box t (a.eval x)) ?_, hm, fun χ b hb => ?_⟩
          · simp [Instr.box, newVar, newRow]
          · simp only [AR.at, RV]
            exact ⟨_, hb, rfl⟩
        · cases hv
      · cases hv
    · cases hc
  case buildSlice t n ps =>
    split at hc
    · cases hc
    rename_i e he
    have ht : P.underlying t = some (.slice e) := by
      unfold elemT at he
      split at he
      · rename_i e' h'; cases he; exact h'
      · cases he
    split at hc
    · cases hc
    rename_i s hs
    split at hc
    · cases hc
    rename_i z hz
    split at hc
    · rename_i l hl
      simp only [cond_eq_ite, Bool.and_eq_true, Nat.beq_eq, Nat.ble_eq, len_eq] at hc
      split at hc
      · rename_i hcc
        cases hc
        simp only [evA, evBuildSl] at hv
        split at hv
        · rename_i cs hcs
          cases hv
          obtain ⟨i, zv, hi, hzv, hzr⟩ := zeroT_ok hz
          obtain ⟨h1, h2⟩ := hzr ψ
          have hzl : zv.cells.size = s := by rw [← hcc.1.1]; simpa using h1.length.symm
          have hmap : (ps.map fun (i, x) => (i, a.eval x)).toList = ps.toList.map fun p => (p.1, a.eval p.2) := by simp
          have hrep := RVs.repl (ψ := ψ) h1 n
          rw [hzl] at hrep
          obtain ⟨B, hB, hr1, hr2⟩ := fill_ok (a := a) r g (fun i => some (i * s, s)) ps.toList l _ cs _ (partsA_ok hl) hrep (one_repl h2 n) hcs
          have hm := made_alloc (ψ := ψ) e hr1 hr2 W []
          simp only [List.append_nil, Array.toArray_toList] at hm
          refine ⟨.slice (some ⟨W.heap.size, 0, none⟩) n n, _, _, run_v ?_, hm, fun χ b hb => ?_⟩
          · have hlim : ¬ (n * s > 2 ^ 24) := by have := hcc.2; omega
            simp only [Instr.buildSlice, Sem.run_bind, run_underlying ht, Result.andThen_ok, run_sizeOf hs]
            rw [if_neg hlim]
            by_cases h0 : n * s = 0
            · rw [if_pos h0]
              rw [hmap]
              rw [Sem.run_bind, Sem.run_pure, Result.andThen_ok]
              have e0 : (Array.map (fun x => (#[] : Array Value)[x % (#[] : Array Value).size]!) (Array.range (n * s))) = (Array.range (n * s)).map (zv.cells[· % s]!) := by
                rw [h0]; simp
              rw [e0, hB]
              simp [newRow]
            · rw [if_neg h0]
              rw [hmap]
              simp only [Sem.run_bind, run_zeroValue hi hzv, Sem.run_pure, Result.andThen_ok, hzl, hB]
              simp [newRow]
          · simp only [AR.at, RV]
            have hBl : B.size = n * s := by
              have e1 := hr1.length
              simp only [Array.length_toList] at e1
              have e2 : ∀ (ps : List (Nat × Nat × O)) (c1 c2 : List V), fillP env c1 ps = some c2 → c2.length = c1.length := by
                intro ps
                induction ps with
                | nil => intro c1 c2 h; simp [fillP] at h; subst h; rfl
                | cons q ps ih =>
                  intro c1 c2 h
                  simp only [fillP] at h
                  split at h
                  · cases h
                  · split at h
                    · cases h
                    · simp only [cond_eq_ite] at h
                      split at h
                      · rw [ih _ _ h, length_putN]
                      · cases h
              have e3 := e2 _ _ _ hcs
              have e4 := hrep.length
              simp at e4
              omega
            exact ⟨_, 0, n, hb, rfl, Nat.le_refl _, Nat.le_refl _, fun _ => rfl, hcc.1.2, .inr ⟨rfl, by show 0 + n * s ≤ B.size; omega⟩⟩
        · cases hv
      · cases hc
    · cases hc
  case makeSlice t l cx =>
    split at hc
    · cases hc
    rename_i e he
    have ht : P.underlying t = some (.slice e) := by
      unfold elemT at he
      split at he
      · rename_i e' h'; cases he; exact h'
      · cases he
    split at hc
    · cases hc
    rename_i s hs
    split at hc
    · cases hc
    rename_i z hz
    split at hc
    · cases hc
    rename_i by_ hby
    split at hc
    · cases hc
    rename_i pl hpl
    split at hc
    · rename_i pc hpc
      simp only [cond_eq_ite, Bool.and_eq_true, Nat.beq_eq, Nat.ble_eq, len_eq] at hc
      split at hc
      · rename_i hcc
        cases hc
        simp only [evA, evMkSl] at hv
        split at hv
        · rename_i nl hnl
          split at hv
          · rename_i nc hnc
            simp only [cond_eq_ite, Bool.and_eq_true, Nat.ble_eq] at hv
            split at hv
            · rename_i hb
              cases hv
              obtain ⟨i, zv, hi, hzv, hzr⟩ := zeroT_ok hz
              obtain ⟨h1, h2⟩ := hzr ψ
              have hzl : zv.cells.size = s := by rw [← hcc.1]; simpa using h1.length.symm
              obtain ⟨kl, hkl⟩ := nat_ok (a := a) r g hpl hnl
              obtain ⟨kc, hkc⟩ := nat_ok (a := a) r g hpc hnc
              obtain ⟨i', hi', hsz⟩ := sizeT_ok hs
              rw [hi] at hi'; cases hi'
              have hby' : i.bytes = by_ := by
                unfold bytesT at hby
                rw [hi] at hby
                cases hby; rfl
              have hrep := RVs.repl (ψ := ψ) h1 nc
              have hbb : ((i.bytes : Int) * (nc : Int)) ≤ 281474976710656 := by
                rw [hby', ← Int.natCast_mul]
                exact Int.ofNat_le.2 hb.1.2
              obtain ⟨⟨hb1, hb2⟩, hb3⟩ := hb
              have hlc : (nl : Int) ≤ (nc : Int) := by omega
              have h63 : (nc : Int) ≤ 9223372036854775807 := by omega
              have hrun := run_make (P := P) W t e i zv ht hi hzv kl kc nl nc (Int.natCast_nonneg _) hlc hbb h63
              have hm := made_alloc (ψ := ψ) e hrep (one_repl h2 nc) W []
              simp only [List.append_nil, Array.toArray_toList] at hm
              have hmade : madeCells zv.cells ((nc : Int).toNat * i.size) = (Array.range (nc * zv.cells.size)).map (zv.cells[· % zv.cells.size]!) := by
                simp only [madeCells, Int.toNat_natCast, hsz, hzl]
              refine ⟨.slice (some ⟨W.heap.size, 0, none⟩) nl nc, _, _, run_v (s := Instr.makeSlice t (a.eval l) (a.eval cx)) ?_, hm, fun χ b hb' => ?_⟩
              · rw [hkl, hkc, hrun, hmade]
                rfl
              · simp only [AR.at, RV]
                have hsz2 : ((Array.range (nc * zv.cells.size)).map (zv.cells[· % zv.cells.size]!)).size = nc * s := by simp [hzl]
                exact ⟨_, 0, nc, hb', rfl, hb1, Nat.le_refl _, fun _ => rfl, hcc.2, .inr ⟨rfl, by simp only [hsz2, Nat.zero_add, Nat.le_refl]⟩⟩
            · cases hv
          · cases hv
        · cases hv
      · cases hc
    · cases hc

end
end Go.Ev
