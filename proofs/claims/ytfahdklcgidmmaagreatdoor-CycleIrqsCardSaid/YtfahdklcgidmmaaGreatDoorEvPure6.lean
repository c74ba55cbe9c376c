/- A part of the evaluator and of the proof that its word holds in the model (EvPure6). -/
import Derived.Test.YtfahdklcgidmmaaGreatDoorEvPure5
namespace Go.Ev

section
variable {P : Program} {G : List Nat} {nt : Nat} {φ : Phi} {env : Env} {a : Act} {W : World}

theorem run_v {s : Sem Value} {z : Value} {W' : World} (h : s.run P W = .ok z W') : (do pure (.value (← s)) : Sem Next).run P W = .ok (.value z) W' := by
  rw [Sem.run_bind, h]; rfl

theorem cP_ok (r : REnv nt φ env a.tmps) (g : GOK G φ) {o : Oper} {c : PC} (h : cP P G o.op = some c) {v : V} (hv : evP c env = some v) :
    ∃ z, (execOp a.eval o).run P W = .ok (.value z) W ∧ RV φ v z := by
  obtain ⟨dst, op, type, pos, after, guard⟩ := o
  cases op <;> simp only [execOp]
  case move x =>
    simp only [cP] at h
    split at h
    · rename_i p hp
      cases h
      exact ⟨_, rfl, toO_ok hp r g hv⟩
    · cases h
  case assign x =>
    simp only [cP] at h
    split at h
    · rename_i p hp
      cases h
      exact ⟨_, rfl, toO_ok hp r g hv⟩
    · cases h
  case pick c' x y =>
    simp only [cP] at h
    split at h
    · cases h
    · rename_i pc hpc
      obtain ⟨p, q, hp, hq, rfl⟩ := c2_ok h
      exact p_pick r g hpc hp hq hv
  case build t ps =>
    obtain ⟨z, hz, hr⟩ := p_build (W := W) r g h hv
    exact ⟨z, run_v hz, hr⟩
  case nilCheck x =>
    simp only [cP] at h
    split at h
    · rename_i p hp
      cases h
      obtain ⟨q, hq, hr⟩ := p_nil r g hp hv
      refine ⟨_, ?_, hr⟩
      rw [hq]; rfl
    · cases h
  case binOp b t x y yt =>
    simp only [cP, cBin] at h
    split at h
    · obtain ⟨p, q, hp, hq, rfl⟩ := c2_ok h
      obtain ⟨z, hz, hr⟩ := p_bin (P := P) (W := W) (t := t) r g hp hq hv
      exact ⟨z, run_v hz, hr⟩
    · obtain ⟨p, q, hp, hq, rfl⟩ := c2_ok h
      obtain ⟨z, hz, hr⟩ := p_bin (P := P) (W := W) (t := t) r g hp hq hv
      exact ⟨z, run_v hz, hr⟩
    · rename_i ht
      obtain ⟨p, q, hp, hq, rfl⟩ := c2_ok h
      obtain ⟨z, hz, hr⟩ := p_binB (W := W) r g ht hp hq hv
      exact ⟨z, run_v hz, hr⟩
    · rename_i e ht
      split at h
      · cases h
      rename_i neg hneg
      simp only [cond_eq_ite] at h
      split at h
      · rename_i hy
        split at h
        · rename_i p hp
          cases h
          obtain ⟨z, hz, hr⟩ := p_eqNil (W := W) r g hneg ht hp hy hv
          exact ⟨z, run_v hz, hr⟩
        · cases h
      · cases h
    · split at h
      · cases h
      rename_i neg hneg
      split at h
      · rename_i hag
        split at h
        · rename_i ks hks
          simp only [cond_eq_ite, Nat.ble_eq] at h
          split at h
          · rename_i hdep
            obtain ⟨p, q, hp, hq, rfl⟩ := c2_ok h
            obtain ⟨z, hz, hr⟩ := p_eqA (W := W) r g hneg hag hks hdep hp hq hv
            exact ⟨z, run_v hz, hr⟩
          · cases h
        · cases h
      · cases h
    · cases h
  case unOp u t x =>
    simp only [cP] at h
    split at h
    · rename_i p hp
      cases h
      obtain ⟨z, hz, hr⟩ := p_un (P := P) (W := W) r g hp hv
      exact ⟨z, run_v hz, hr⟩
    · cases h
  case makeFunc fn x y =>
    cases fn with
    | func f =>
      simp only [cP] at h
      split at h
      · cases h
      rename_i p hp
      split at h
      · rename_i q hq
        cases h
        exact ⟨_, run_v rfl, p_mkf r g hp hq hv⟩
      · cases h
    | _ => cases h
  case slice t x lo hi mx =>
    obtain ⟨z, hz, hr⟩ := p_slice (W := W) r g h hv
    exact ⟨z, run_v hz, hr⟩
  case fieldAddr t x f =>
    obtain ⟨z, hz, hr⟩ := p_fa (W := W) r g h hv
    exact ⟨z, run_v hz, hr⟩
  case field t x f =>
    obtain ⟨z, hz, hr⟩ := p_field (W := W) r g h hv
    exact ⟨z, run_v hz, hr⟩
  case indexAddr t x i =>
    obtain ⟨z, hz, hr⟩ := p_indexAddr (W := W) r g h hv
    exact ⟨z, run_v hz, hr⟩
  case index t x i =>
    obtain ⟨z, hz, hr⟩ := p_index (W := W) r g h hv
    exact ⟨z, run_v hz, hr⟩
  case extract x i =>
    simp only [cP] at h
    split at h
    · rename_i p hp
      cases h
      obtain ⟨z, hz, hr⟩ := p_ext (P := P) (W := W) r g hp hv
      exact ⟨z, run_v hz, hr⟩
    · cases h
  case call cl =>
    obtain ⟨callee, args, types⟩ := cl
    cases callee with
    | value f => cases h
    | invoke x m => cases h
    | builtin b =>
      have h' : cBuiltP P G b types args = some c := h
      clear h
      cases b <;> simp only [cBuiltP, reduceCtorEq] at h'
      case len =>
        split at h'
        · cases h'
        rename_i t ht
        split at h'
        · cases h'
        rename_i x hx
        obtain ⟨z, hz, hr⟩ := p_len (W := W) r g h' hv type types (args.map a.eval) ht (by simp [hx])
        exact ⟨z, run_v hz, hr⟩
      case cap =>
        split at h'
        · cases h'
        rename_i t ht
        split at h'
        · cases h'
        rename_i x hx
        split at h'
        · rename_i e hte
          split at h'
          · rename_i p hp
            cases h'
            obtain ⟨z, hz, hr⟩ := p_cap (W := W) r g hte hp hv type types (args.map a.eval) ht (by simp [hx])
            exact ⟨z, run_v hz, hr⟩
          · cases h'
        · cases h'
      case min =>
        split at h'
        · rename_i l hl
          cases h'
          obtain ⟨u, us, z, he, hz, hr⟩ := p_mm (P := P) (W := W) r g (m := Builtin.min2) minV_ok hl hv
          refine ⟨z, run_v (s := Builtin.min_ types type (args.map a.eval)) ?_, hr⟩
          simp only [Builtin.min_, Array.toList_map, he]
          exact hz
        · cases h'
      case max =>
        split at h'
        · rename_i l hl
          cases h'
          obtain ⟨u, us, z, he, hz, hr⟩ := p_mm (P := P) (W := W) r g (m := Builtin.max2) maxV_ok hl hv
          refine ⟨z, run_v (s := Builtin.max_ types type (args.map a.eval)) ?_, hr⟩
          simp only [Builtin.max_, Array.toList_map, he]
          exact hz
        · cases h'
  all_goals cases h

theorem cConv_ok (r : REnv nt φ env a.tmps) (g : GOK G φ) {o : Oper} {s d : TypeId} {x : Operand} (ho : o.op = .convert s d x) {c : C} (h : cConv P G s d x = some c) :
    ∃ k p, c = .P (.cvt k p) ∧ ∀ v, evCvt k p env = some v → ∃ z, (execOp a.eval o).run P W = .ok (.value z) W ∧ RV φ v z := by
  unfold cConv at h
  split at h
  · cases h
  rename_i px hp
  split at h
  · cases h
  rename_i us hus
  split at h
  · rename_i k' hd
    cases h
    refine ⟨k', px, rfl, fun v hv => ?_⟩
    unfold evCvt at hv
    split at hv
    · rename_i kk n hn
      cases hv
      have hr := toO_ok hp r g hn
      simp only [RV] at hr
      refine ⟨.int k' (k'.wrap n), ?_, by simp [RV, wrapB_eq]⟩
      simp only [execOp, ho]
      refine run_v ?_
      rw [hr]
      simp only [convert, Sem.run_bind, run_underlying hus, run_underlying hd, Result.andThen_ok]
      rfl
    · cases hv
  · cases h

/-- THE PURE OPERATIONS -/
theorem pure_ok (r : REnv nt φ env a.tmps) (g : GOK G φ) {o : Oper} {c : PC} (h : cC P G o.op = some (.P c)) {v : V} (hv : evP c env = some v) (W : World) :
    ∃ z, (execOp a.eval o).run P W = .ok (.value z) W ∧ RV φ v z := by
  unfold cC at h
  split at h
  · rename_i s d x ho
    obtain ⟨k, p, hc, hk⟩ := cConv_ok (W := W) r g ho h
    cases hc
    exact hk v hv
  · split at h
    · rename_i c' hc
      cases h
      exact cP_ok r g hc hv
    · split at h
      · cases h
      · split at h
        · cases h
        · split at h <;> cases h

end
end Go.Ev
