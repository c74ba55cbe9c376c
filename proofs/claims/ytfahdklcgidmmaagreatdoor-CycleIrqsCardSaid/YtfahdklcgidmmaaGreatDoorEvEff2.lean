/- A part of the evaluator and of the proof that its word holds in the model (EvEff2). -/
import Derived.Test.YtfahdklcgidmmaaGreatDoorEvEff
namespace Go.Ev

section
variable {P : Program} {G : List Nat} {call : Call} {nt : Nat} {φ : Phi} {h h' : H} {W : World} {env : Env} {a : Act} {v : V}
  {K : Act → World → Prop} {Q : Exit → Act → World → Prop} {o : Oper}

theorem copy_args (types ty : _) (_ : Array TypeId) (x y : Value) (xs : Array Value) (t : TypeId) (h : types[0]? = some t) : Builtin.copy_ types ty (#[x, y] ++ xs) = Builtin.copy_ #[t] ty #[x, y] := by
  have e0 : types[0]? = some t := h
  have e2 : (#[x, y] ++ xs)[0]? = some x := by simp [Array.getElem?_append]
  have e3 : (#[x, y] ++ xs)[1]? = some y := by simp [Array.getElem?_append]
  have e4 : #[t][0]? = some t := rfl
  have e6 : #[x, y][0]? = some x := rfl
  have e7 : #[x, y][1]? = some y := rfl
  unfold Builtin.copy_
  simp only [e0, e2, e3, e4, e6, e7]

theorem run_copy {t ty e : TypeId} {s : Nat} (ht : P.underlying t = some (.slice e)) (hs : sizeT P e = some s) (b : Option Addr) (dl dc : Nat) (src : Value) (sn : Nat) (hn : (Builtin.lenOf src).run P W = .ok sn W)
    (cs : List Value) (hf : (Builtin.firstCells s (Nat.min sn dl) src).run P W = .ok cs.toArray W) (W' : World)
    (hst : (match b with | some a => storeCells a cs | none => pure ()).run P W = .ok () W') :
    (Builtin.copy_ #[t] ty #[.slice b dl dc, src]).run P W = .ok (goInt (Nat.min sn dl)) W' := by
  cases b with
  | none =>
    simp at hst
    subst hst
    simp [Builtin.copy_, run_underlying ht, hn, run_sizeOf hs, hf]
  | some q =>
    simp at hst
    simp [Builtin.copy_, run_underlying ht, hn, run_sizeOf hs, hf, hst]

theorem first_zero (s : Nat) (p : Option Addr) (l c : Nat) : (Builtin.firstCells s 0 (.slice p l c)).run P W = .ok #[] W := by
  cases p with
  | none => exact run_firstCells_none W _ _ _ _
  | some q => exact run_firstCells_some W s 0 q l c [] (by simp) (fun j v hv => by simp at hv)

theorem e_copy (r : REnv nt φ env a.tmps) (g : GOK G φ) (w : RW φ h W) {args : Array Operand} {types : Array TypeId} (ho : o.op = .call ⟨.builtin .copy, args, types⟩) {c : EC} (hc : cCopy P G types args = some c)
    (hv : evE call c env h = some (v, h'))
    (hK : ∀ φ' z W', RV φ' v z → RW φ' h' W' → Grow φ φ' W → Ext φ W W' → K (a.put o.dst z) W') : o.wp P a W K Q := by
  unfold cCopy at hc
  split at hc
  · cases hc
  rename_i t ht
  split at hc
  · cases hc
  rename_i u hu
  split at hc
  · cases hc
  rename_i x hx
  split at hc
  · cases hc
  rename_i p hp
  split at hc
  · cases hc
  rename_i y hy
  split at hc
  · cases hc
  rename_i q hq
  split at hc
  · cases hc
  rename_i e he
  have hte : P.underlying t = some (.slice e) := by
    unfold elemT at he
    split at he
    · rename_i e' h'; cases he; exact h'
    · cases he
  split at hc
  · cases hc
  rename_i s hs
  split at hc
  · rename_i e' hue
    cases hc
    obtain ⟨xs, hxs⟩ := two_args hx hy
    have hargs : args.map a.eval = #[a.eval x, a.eval y] ++ xs.map a.eval := by rw [hxs]; simp
    have hexec : ∀ (z : Value) (W' : World), (Builtin.copy_ #[t] o.type #[a.eval x, a.eval y]).run P W = .ok z W' → (execOp a.eval o).run P W = .ok (.value z) W' := by
      intro z W' hr
      simp only [execOp, ho, resolve, Sem.run_bind, Sem.run_pure, Result.andThen_ok, invoke, builtin]
      rw [hargs, copy_args types o.type #[] (a.eval x) (a.eval y) (xs.map a.eval) t ht, hr]
      rfl
    -- nothing goes over
    have nothing : ∀ (b1 b2 : Option Addr) (l1 c1 l2 c2 : Nat), a.eval x = .slice b1 l1 c1 → a.eval y = .slice b2 l2 c2 → Nat.min l2 l1 = 0 →
        (Builtin.copy_ #[t] o.type #[a.eval x, a.eval y]).run P W = .ok (goInt 0) W := by
      intro b1 b2 l1 c1 l2 c2 h1 h2 h0
      have := run_copy (W := W) (ty := o.type) hte hs b1 l1 c1 (.slice b2 l2 c2) l2 rfl [] (by rw [h0]; exact first_zero s b2 l2 c2) W (by cases b1 <;> rfl)
      rw [h1, h2, this, h0]
      rfl
    have done : (Builtin.copy_ #[t] o.type #[a.eval x, a.eval y]).run P W = .ok (goInt 0) W → v = goN 0 → h' = h → o.wp P a W K Q := by
      intro h1 h2 h3
      subst h2; subst h3
      exact upon_value (hexec _ W h1) (hK φ _ W (by simp [RV, goN, goInt]) w (Grow.refl _ _) (Ext.refl _ _))
    simp only [evE, evCopyS] at hv
    split at hv
    · rename_i b oo l cc sz' ex hX
      have hrx := toO_ok hp r g hX
      simp only [RV] at hrx
      obtain ⟨xx, o', c', hxφ, hxe, hlc, hcc, hex, hsz, hat⟩ := hrx
      split at hv
      · rename_i b2 o2 l2 cc2 sz2 ex2 hY
        have hry := toO_ok hq r g hY
        simp only [RV] at hry
        obtain ⟨yy, oy, cy, hyφ, hye, hlcy, hccy, _, _, haty⟩ := hry
        simp only [cond_eq_ite, Bool.and_eq_true, Nat.beq_eq, Nat.ble_eq] at hv
        split at hv
        · rename_i hc
          obtain ⟨rfl, rfl⟩ := hc
          have hmin : (if l2 ≤ l then l2 else l) = Nat.min l2 l := by
            show _ = min l2 l
            split <;> omega
          rw [hmin] at hv
          split at hv
          · rename_i h0
            cases hv
            exact done (nothing _ _ _ _ _ _ hxe hye h0) rfl rfl
          · rename_i h0
            split at hv
            · rename_i cs hcs
              split at hv
              · rename_i h2 hst
                cases hv
                have hmin1 : Nat.min l2 l ≤ l2 := Nat.min_le_left _ _
                have hmin2 : Nat.min l2 l ≤ l := Nat.min_le_right _ _
                obtain ⟨rfl, hat2⟩ : o' = xx.2.1 + oo ∧ oo + c' * s ≤ xx.2.2 := by
                  rcases hat with hat | hat
                  · omega
                  · exact hat
                obtain ⟨rfl, haty2⟩ : oy = yy.2.1 + o2 ∧ o2 + cy * s ≤ yy.2.2 := by
                  rcases haty with haty | haty
                  · omega
                  · exact haty
                obtain ⟨ys, a1, a2, a3, a4⟩ := ldn_ok w hcs hyφ
                obtain ⟨W', b1, b2, b3⟩ := stn_ok (P := P) w hst hxφ a2 a3
                have hrun := run_copy (W := W) (ty := o.type) hte hs (some ⟨xx.1, xx.2.1 + oo, none⟩) l c' (.slice (some ⟨yy.1, yy.2.1 + o2, none⟩) l2 cy) l2 rfl ys
                  (run_firstCells_some W s (Nat.min l2 l) _ _ _ ys a1 a4) W' b1
                rw [← hxe, ← hye] at hrun
                exact upon_value (hexec _ W' hrun) (hK φ _ W' (by simp [RV, goN, goInt]) b2 (Grow.refl _ _) b3)
              · cases hv
            · cases hv
        · cases hv
      · rename_i hY
        cases hv
        have hry := toO_ok hq r g hY
        simp only [RV] at hry
        exact done (nothing _ _ _ _ _ _ hxe hry (Nat.zero_min _)) rfl rfl
      · cases hv
    · rename_i hX
      have hrx := toO_ok hp r g hX
      simp only [RV] at hrx
      split at hv
      · rename_i hY
        cases hv
        have hry := toO_ok hq r g hY
        simp only [RV] at hry
        obtain ⟨yy, oy, cy, hyφ, hye, _⟩ := hry
        exact done (nothing _ _ _ _ _ _ hrx hye (Nat.min_zero _)) rfl rfl
      · rename_i hY
        cases hv
        have hry := toO_ok hq r g hY
        simp only [RV] at hry
        exact done (nothing _ _ _ _ _ _ hrx hry (Nat.zero_min _)) rfl rfl
      · cases hv
    · cases hv
  · cases hc

/-- THE OPERATIONS THAT ACT -/
theorem eff_ok (hcall : CallOK P G call) (r : REnv nt φ env a.tmps) (g : GOK G φ) (w : RW φ h W) {c : EC} (hc : cC P G o.op = some (.E c))
    (hv : evE call c env h = some (v, h'))
    (hK : ∀ φ' z W', RV φ' v z → RW φ' h' W' → Grow φ φ' W → Ext φ W W' → K (a.put o.dst z) W') : o.wp P a W K Q := by
  replace hc := cC_E hc
  generalize ho : o.op = op at hc
  cases op <;> try (simp only [cE, reduceCtorEq] at hc; done)
  case store t x y => exact e_store r g w ho hc hv hK
  case makeMap t m =>
    cases m with
    | some m => simp [cE] at hc
    | none =>
      simp only [cE, Option.some.injEq] at hc
      subst hc
      simp only [evE, Option.some.injEq, Prod.mk.injEq] at hv
      obtain ⟨rfl, rfl⟩ := hv
      have hrun : (execOp a.eval o).run P W = .ok (.value (.map (some W.heap.size))) (W.alloc (.map #[] 0)) := by
        simp [execOp, ho, Instr.makeMap]
      have hold : ∀ i, i < W.heap.size → (W.alloc (.map #[] 0)).heap[i]? = W.heap[i]? := by
        intro i hi
        show (W.heap.push _)[i]? = _
        simp [Array.getElem?_push, Nat.ne_of_lt hi]
      refine upon_value hrun (hK φ _ _ (by simp only [RV]; exact ⟨_, rfl⟩) (w.push hold (by simp)) (Grow.refl _ _) ⟨by simp, fun wb hwb _ => hold wb hwb, fun wb c e fz hcc => ⟨c, ?_, rfl⟩, rfl, rfl, rfl⟩)
      rw [hold wb]
      · exact hcc
      · obtain ⟨hlt, _⟩ := Array.getElem?_eq_some_iff.1 hcc
        exact hlt
  case call cl =>
    obtain ⟨callee, args, types⟩ := cl
    simp only [cE] at hc
    split at hc
    · cases hc
    rename_i os hos
    cases callee with
    | value x =>
      cases x with
      | func f =>
        simp only [Option.some.injEq] at hc
        subst hc
        exact e_call hcall r g w ho hos hv hK
      | _ =>
        simp only at hc
        split at hc
        · rename_i p hp
          cases hc
          exact e_callv hcall r g w ho hp hos hv hK
        · cases hc
    | invoke x m => simp at hc
    | builtin b =>
      cases b <;> try (simp at hc; done)
      · exact e_append r g w ho hc hv hK
      · exact e_copy r g w ho hc hv hK

end
end Go.Ev
