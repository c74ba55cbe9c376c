/- LitmusKnown holds: whatever the name, the law answers true, and its argument reads as it did. -/
import Derived.Test.YtplhemceflgdlaaGreatDoorS
import Derived.Test.YtplhemceflgdlaaGreatDoorMS
import Derived.Test.YtplhemceflgdlaaGreatDoorJ
import Derived.ProofKit
import Derived.LaidMore
import Derived.OpenShut
import Derived.Carry
import Derived.Stop.Joined
set_option maxRecDepth 100000
namespace Go.Proofs.YtplhemceflgdlaaGreatDoor
open Go.ChangeShapes Go.WideShapes Go.ChangeAt Go.WideMaps Go.WideElems Go.RowKit
open Go.Ev (CallOK Mono RV RVs entryH entryPhi absV absB roC)
open Run

/-! awake -/

theorem awake_ok : Ev.CallOK Tryz.prog [0] callA ∧ Ev.Mono callA := by
  have hh : m22.h = ⟨16, Ev.closedT [(0, fieldsL)], .e⟩ := by kernel_rfl
  have e := e22
  rw [hh] at e
  have hm := Ev.orC_ok (Ev.memo_ok ms22) base_ok
  exact Ev.closedCall_ok (nb := 16) (by simp) (by simp) (by intro p hp; simp at hp; subst hp; rfl) (Ev.evG_sound mixes (gs := gs) tabT_ok 100000 hm.1 hm.2 60) e

/-! the law, at a heap that is known -/

theorem law_all (l : List Nat) : ∃ h', Ev.evM callA tabL.get 100000 9 3 [.s l] hL = some (.b true, h') := by
  have at_ : ∀ c : List Nat, (Ev.evM callA tabL.get 100000 9 3 [.s c] hL).map (·.1) = some (.b true) → Ev.eqS l c = true → ∃ h', Ev.evM callA tabL.get 100000 9 3 [.s l] hL = some (.b true, h') := by
    intro c hc he
    have := (Ev.eqS_iff l c).1 he
    subst this
    cases hr : Ev.evM callA tabL.get 100000 9 3 [.s l] hL with
    | none => rw [hr] at hc; cases hc
    | some r =>
      obtain ⟨v, h'⟩ := r
      rw [hr] at hc
      simp only [Option.map_some, Option.some.injEq] at hc
      subst hc
      exact ⟨h', rfl⟩
  cases hn : Nat.ble 101 (Ev.len l) with
  | true => exact law_long hn
  | false =>
    cases n0 : Ev.eqS l [115, 98] with
    | true => exact at_ _ name0 n0
    | false =>
      cases n1 : Ev.eqS l [115, 98, 102] with
      | true => exact at_ _ name1 n1
      | false =>
        cases n2 : Ev.eqS l [109, 112] with
        | true => exact at_ _ name2 n2
        | false =>
          cases n3 : Ev.eqS l [108, 98] with
          | true => exact at_ _ name3 n3
          | false =>
            cases n4 : Ev.eqS l [99, 111, 114, 114] with
            | true => exact at_ _ name4 n4
            | false =>
              cases n5 : Ev.eqS l [120, 99, 104, 103] with
              | true => exact at_ _ name5 n5
              | false => exact law_other hn ⟨n0, n1, n2, n3, n4, n5⟩

theorem law_ok (l : List Nat) : Ev.CallOK Tryz.prog [0] (Ev.closedCallA 3 [.s l] [(0, fieldsL)]) := by
  obtain ⟨h', e⟩ := law_all l
  exact (Ev.closedCallA_ok (nb := 16) (by rfl) (by simp) (by simp) (by intro p hp; simp at hp; subst hp; rfl) (Ev.evM_sound mixes tabL_ok 100000 awake_ok.1 awake_ok.2 9) e).1

theorem own : ownKnob Tryz.prog.godebug = none := by kernel_rfl
theorem gFields : Tryz.prog.globalNamed "cotterel/inst.fields" = some 0 := by kernel_rfl
theorem laidOut : laidOutB Tryz.prog = true := by kernel_rfl

theorem tFields : (Tryz.prog.globals[0]?).map (·.type) = some 166 := by kernel_rfl
theorem cells3 : Tryz.prog.cellsOf 3 = 1 := by kernel_rfl

/-- the table of fields, when the call begins -/
theorem fields_at {W : World} (h : laidMetH Tryz.prog [("cotterel/inst.fields", Rows.laid_cotterel_inst_fields)] W) :
    (∃ c u fz, W.heap[0]? = some (.cells c u fz)) ∧ ∃ rest, absB W 0 = fieldsL ++ rest := by
  rw [MakeChecks.laidMetH_plain _ _ _ (by kernel_rfl)] at h
  obtain ⟨ps, ⟨g0, t0, cs0, f0, p0, q0, hg0, ht0, hv0, hd0, _, _⟩, _, _⟩ := h
  obtain rfl := Option.some.inj (gFields.symm.trans hg0)
  obtain rfl := Option.some.inj (tFields.symm.trans ht0)
  simp only [World.var?, gFields, Option.bind_some] at hv0
  split at hv0
  case h_2 => cases hv0
  rename_i cs u fz hc
  simp only [Option.some.injEq] at hv0
  subst hv0
  refine ⟨⟨cs, u, fz, hc⟩, ?_⟩
  have hB : absB W 0 = cs.toList.map absV := by simp [absB, hc]
  obtain ⟨xs, m1, rfl, hx1, hlen, hn3, hel⟩ := DataW.trod_array Tryz.underlying166 hd0
  simp only [Prod.mk.injEq, Rows.laid_cotterel_inst_fields, DataW.agg.injEq] at hx1
  obtain ⟨hx1, _⟩ := hx1
  have key : ∀ (i : Nat) (n : Int), (xs.map (·.1))[i]? = some (.lit (.int .i64 n)) → i < 12 → cs.toList[i]? = some (.int .i64 n) := by
    intro i n hi hi12
    have h1 := hel i hi12
    rw [List.getElem?_map] at hi
    cases hxi : xs[i]? with
    | none => rw [hxi] at hi; cases hi
    | some y =>
      rw [hxi] at hi h1
      simp only [Option.map_some, Option.some.injEq] at hi
      rw [cells3] at h1
      obtain ⟨k, e1, e2, _⟩ := DataW.trod_int Tryz.underlying3 h1
      rw [e2] at hi
      simp only [DataW.lit.injEq, Lit.int.injEq, true_and] at hi
      subst hi
      have : ((cs.toList.drop (i * 1)).take 1)[0]? = some (.int .i64 k) := by rw [e1]; rfl
      rw [List.getElem?_take, if_pos (by omega), List.getElem?_drop] at this
      simpa using this
  rw [← hx1] at key
  have k0 := key 0 0 rfl (by omega)
  have k1 := key 1 7 rfl (by omega)
  have k2 := key 2 11 rfl (by omega)
  have k3 := key 3 14 rfl (by omega)
  have k4 := key 4 14 rfl (by omega)
  have k5 := key 5 9 rfl (by omega)
  have k6 := key 6 7 rfl (by omega)
  have k7 := key 7 9 rfl (by omega)
  have k8 := key 8 10 rfl (by omega)
  have k9 := key 9 2 rfl (by omega)
  have k10 := key 10 0 rfl (by omega)
  have k11 := key 11 3 rfl (by omega)
  match hl : cs.toList, k0, k1, k2, k3, k4, k5, k6, k7, k8, k9, k10, k11 with
  | a0 :: a1 :: a2 :: a3 :: a4 :: a5 :: a6 :: a7 :: a8 :: a9 :: a10 :: a11 :: rest, k0, k1, k2, k3, k4, k5, k6, k7, k8, k9, k10, k11 =>
    simp at k0 k1 k2 k3 k4 k5 k6 k7 k8 k9 k10 k11
    subst k0; subst k1; subst k2; subst k3; subst k4; subst k5; subst k6; subst k7; subst k8; subst k9; subst k10; subst k11
    exact ⟨rest.map absV, by rw [hB, hl]; rfl⟩

/-- the call finds the table -/
theorem call_here {W : World} {l : List Nat} (h : ∃ rest, absB W 0 = fieldsL ++ rest) : Ev.closedCallA 3 [.s l] [(0, fieldsL)] 3 [.s l] (entryH W [0]) = some (.b true, entryH W [0]) := by
  obtain ⟨rest, h⟩ := h
  have hg : (entryH W [0]).bl.get 0 = some ⟨absB W 0, 0, roC⟩ := by simp only [entryH, Ev.entryT_get]; rfl
  have ht : Ev.takeN (absB W 0) (Ev.len fieldsL) = fieldsL := by
    rw [h, Ev.takeN_eq, Ev.len_eq, List.take_left']
    rfl
  have he : Ev.V.eqvs [.s l] [.s l] = true := by
    have : Ev.eqS l l = true := (Ev.eqS_iff l l).2 rfl
    simp [Ev.V.eqvs, Ev.V.eqv, this]
  have hf : Ev.V.eqvs fieldsL fieldsL = true := by kernel_rfl
  simp only [Ev.closedCallA, List.all_cons, List.all_nil, hg, ht, he, hf, Bool.and_true, Nat.beq_refl, cond_true]

theorem lifted (os : Os) (started : os.Started) (H : Type) (enc : TypeId × Value → H) :
    ReturnsInHanded {} Tryz.checked os 3 .any (fun w args => (Rows.litmusKnownSpec.pre enc Tryz.prog Tryz.f3 [] false w args ∧ laidMetH Tryz.prog [("cotterel/inst.fields", Rows.laid_cotterel_inst_fields)] w) ∧ sizedMet enc Tryz.prog Tryz.f3 (OpenSpec.ofChange Rows.litmusKnownSpec) false w args)
      (Rows.litmusKnownSpec.post enc Tryz.prog Tryz.f3 false true false false) := by
  refine returnsInHanded_of_change_and (C := Tryz.checked) (X := fun w _ => laidMetH Tryz.prog [("cotterel/inst.fields", Rows.laid_cotterel_inst_fields)] w) (fun _ _ _ hh h => h.of_heap hh) own started (by kernel_rfl) Tryz.func3
    (ChangeSpec.witness_shaped (enc := enc) (C := Tryz.checked) (os := os) (X := fun w _ => laidMetH Tryz.prog [("cotterel/inst.fields", Rows.laid_cotterel_inst_fields)] w) false (World.doorLaid Tryz.prog 400 os) #[.string ⟨#[]⟩] 8 rfl (World.shaped_of_RefB (by kernel_rfl) (by kernel_rfl)) (by kernel_rfl) (by kernel_rfl) (by kernel_rfl) (laidMetH_of_parts3 (fuel := 8) (laidMet_of_run' 8 (by kernel_rfl) (by kernel_rfl)) (by kernel_rfl) (by kernel_rfl))) ?_
  intro W base args ds gs before hval0 hW _ _ hL _
  have hval : ∀ (j : Nat) t v, Tryz.f3.params[j]? = some t → args[j]? = some v → Value.okWide Tryz.prog W .any base t v := hval0
  have hW' := hW
  have hlt0 := hW.lt
  obtain ⟨p, q, hA0, hV, rfl, hfz, hnd⟩ := hW
  have hA : DataW.TrodAll enc Tryz.prog W 0 (fun _ => true) true Tryz.f3.params.toList args.toList ds p := hA0
  rw [Tryz.params3] at hA hval
  obtain ⟨v0, d0, rfl, rfl, t0⟩ := trodAll_one hA
  obtain ⟨rfl, rfl⟩ := trodVars_none hV
  have ok0 := hval 0 9 v0 rfl rfl
  obtain ⟨s, rfl⟩ := okWide_string Tryz.underlying9 ok0
  obtain ⟨hc0, hF⟩ := fields_at hL
  have T0 := t0
  have hbs : ∀ b ∈ [0], ∃ c u fz, W.heap[b]? = some (.cells c u fz) := by
    intro b hb
    simp only [List.mem_singleton] at hb
    subst hb
    exact hc0
  have w := Ev.entry_rw hbs
  have g : Ev.GOK [0] (entryPhi W [0]) := Ev.entry_gok (by simp)
  have hcalls := (law_ok (s.data.toList.map (·.toNat)) _ _ _ _ _ (call_here hF)).2 (entryPhi W [0]) W #[.string s] g (by simp only [Ev.RVs]; exact ⟨.string s, [], rfl, by simp only [Ev.RV]; exact ⟨s, rfl, rfl⟩, rfl⟩) w
  refine hcalls.mono fun e W' hp => ?_
  cases e with
  | returned z =>
    obtain ⟨φ', hr, _, _, hext⟩ := hp
    simp only [Ev.RV] at hr
    subst hr
    have hst := (Ev.entry_stays hext).below
    have lt0 : ∀ x ∈ p, x.block < W.heap.size := fun x hx => hlt0 x (by simp [hx])
    simp only [List.append_nil] at hW'
    refine ⟨_, rfl, [d0], [], _, [], p, [], hW', ?_, ?_, rfl, hst.frame _, fun h => by cases h⟩
    · exact trodAll_mk1 (shut_bool Tryz.underlying4 _)
    · exact trodAll_mk1 (Below.trod laidOut (by kernel_rfl) (of_decide_eq_true (by kernel_rfl)) T0 hst lt0)
  | _ => exact hp.elim

theorem litmusKnown_said : Rows.LitmusKnownSaid :=
  OpenClaim.holds_of_wide 3 Tryz.f3 rfl rfl rfl rfl rfl rfl rfl ⟨rfl, rfl, rfl, rfl, rfl⟩ rfl rfl rfl rfl rfl named_f Tryz.func3 closed instance_f wrapper_f
    (fun os started H enc _ => lifted os started H enc)

theorem looks_at : ∀ f fn, Tryz.pinned.checked.prog.funcNamed Rows.litmusKnownRow.func = some f → Tryz.pinned.checked.prog.funcs[f]? = some fn → false = Tryz.pinned.checked.prog.looks [] ∧ ∀ (j : Nat) t, fn.params[j]? = some t → Tryz.pinned.checked.prog.wantsStandIn t = false := by
  intro f fn hf hfn
  obtain rfl : f = 3 := (Option.some.inj (Eq.trans (Eq.symm named_f) hf)).symm
  obtain rfl : fn = Tryz.f3 := (Option.some.inj (Eq.trans (Eq.symm Tryz.func3) hfn)).symm
  refine ⟨looks_f, fun j t ht => ?_⟩
  rw [Tryz.params3] at ht
  rcases j with _ | j
  · have h3 : t = 9 := by simpa using ht.symm
    subst h3
    exact stand9
  · simp at ht

theorem litmusKnown_card : Rows.LitmusKnownCardSaid :=
  Claim7.holds_tied_plain_at .later [] [.data] true (true, "390b7a8086a1369bc409207979fe273c8899ad0f767ccd0a2aac69f22e282134") false
    litmusKnown_said (fun _ h => by cases h) wf_text (fun _ h => by cases h) litmusKnown_row_tie rfl ⟨rfl, rfl⟩ main_is rfl looks_at goes_by
#print axioms litmusKnown_card

end Go.Proofs.YtplhemceflgdlaaGreatDoor
