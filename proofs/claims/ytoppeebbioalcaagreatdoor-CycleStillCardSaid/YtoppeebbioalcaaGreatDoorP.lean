/- CycleStill holds: whatever the core, the memory and the turn, the law answers true, and its arguments read as they did. -/
import Derived.Test.YtoppeebbioalcaaGreatDoorV3
import Derived.Test.YtoppeebbioalcaaGreatDoorX
import Derived.Test.YtoppeebbioalcaaGreatDoorKX
import Derived.Test.YtoppeebbioalcaaGreatDoorMS
import Derived.Test.YtoppeebbioalcaaGreatDoorJ
import Derived.ProofKit
import Derived.LaidMore
import Derived.OpenShut
import Derived.Below
import Derived.Carry
import Derived.Stop.Joined
set_option maxRecDepth 100000
set_option linter.all false
namespace Go.Proofs.YtoppeebbioalcaaGreatDoor
open Go.ChangeShapes Go.WideShapes Go.ChangeAt Go.WideMaps Go.WideElems Go.RowKit
open Run

/-! awake -/

theorem tab_all : Ev.TabOK Tryz.prog Ev.G0 Ev.tab := Ev.tab_ok Ev.tabAll

theorem awake_ok : Ev.CallOK Tryz.prog Ev.G0 (Ev.callOne 5) ∧ Ev.Mono (Ev.callOne 5) := by
  have hm := (Ev.memo_ok ms13).1
  have hl : Ev.CallOK Tryz.prog Ev.G0 (Ev.memo [m12, m11, m10, m9, m8, m7, m6, m5, m4, m3, m2, m1, m0]) := Ev.CallOK.less (G := Ev.G0) (x := 0) rfl hm
  exact Ev.callOne_ok (h' := m12.h') hl (by kernel_rfl)

theorem law_ok : Ev.CallOK Tryz.prog Ev.G0 (Ev.EV 8) := Ev.evM_sound mixes tab_all Ev.LF awake_ok.1 awake_ok.2 8

theorem own : ownKnob Tryz.prog.godebug = none := by kernel_rfl
theorem gFields : Tryz.prog.globalNamed "cotterel/inst.fields" = some 0 := by kernel_rfl
theorem laidOut : laidOutB Tryz.prog = true := by kernel_rfl
theorem tFields : (Tryz.prog.globals[0]?).map (·.type) = some 398 := by kernel_rfl
theorem cells3 : Tryz.prog.cellsOf 3 = 1 := by kernel_rfl

/-- the table of fields, when the call begins -/
theorem fields_at {W : World} (h : laidMetH Tryz.prog [("cotterel/inst.fields", Rows.laid_cotterel_inst_fields)] W) : Ev.GOK Ev.G0 (Ev.Phi0 W) := by
  rw [MakeChecks.laidMetH_plain _ _ _ (by kernel_rfl)] at h
  obtain ⟨ps, ⟨g0, t0, cs0, f0, p0, q0, hg0, ht0, hv0, hd0, _, _⟩, _, _⟩ := h
  obtain rfl := Option.some.inj (gFields.symm.trans hg0)
  obtain rfl := Option.some.inj (tFields.symm.trans ht0)
  simp only [World.var?, gFields, Option.bind_some] at hv0
  split at hv0
  case h_2 => cases hv0
  rename_i cs u fz hc
  simp only [Option.some.injEq] at hv0
  subst hv0
  have hf := Ev.Phi0_at hc
  obtain ⟨xs, m1, rfl, hx1, hlen, hn3, hel⟩ := DataW.trod_array Tryz.underlying398 hd0
  simp only [Prod.mk.injEq, Rows.laid_cotterel_inst_fields, DataW.agg.injEq] at hx1
  obtain ⟨hx1, _⟩ := hx1
  have key : ∀ (i : Nat) (n : Int), (xs.map (·.1))[i]? = some (.lit (.int .i64 n)) → i < 12 → cs.toList[i]? = some (.int .i64 n) := by
    intro i n hi hi12
    have h1 := hel i hi12
    rw [List.getElem?_map] at hi
    cases hxi : xs[i]? with
    | none => rw [hxi] at hi; cases hi
    | some y =>
      rw [hxi] at hi h1
      simp only [Option.map_some, Option.some.injEq] at hi
      rw [cells3] at h1
      obtain ⟨k, e1, e2, _⟩ := DataW.trod_int Tryz.underlying3 h1
      rw [e2] at hi
      simp only [DataW.lit.injEq, Lit.int.injEq, true_and] at hi
      subst hi
      have : ((cs.toList.drop (i * 1)).take 1)[0]? = some (.int .i64 k) := by rw [e1]; rfl
      rw [List.getElem?_take, if_pos (by omega), List.getElem?_drop] at this
      simpa using this
  rw [← hx1] at key
  have k0 := key 0 0 rfl (by omega)
  have k1 := key 1 7 rfl (by omega)
  have k2 := key 2 11 rfl (by omega)
  have k3 := key 3 14 rfl (by omega)
  have k4 := key 4 14 rfl (by omega)
  have k5 := key 5 9 rfl (by omega)
  have k6 := key 6 7 rfl (by omega)
  have k7 := key 7 9 rfl (by omega)
  have k8 := key 8 10 rfl (by omega)
  have k9 := key 9 2 rfl (by omega)
  have k10 := key 10 0 rfl (by omega)
  have k11 := key 11 3 rfl (by omega)
  match hl : cs.toList, k0, k1, k2, k3, k4, k5, k6, k7, k8, k9, k10, k11 with
  | a0 :: a1 :: a2 :: a3 :: a4 :: a5 :: a6 :: a7 :: a8 :: a9 :: a10 :: a11 :: rest, k0, k1, k2, k3, k4, k5, k6, k7, k8, k9, k10, k11 =>
    simp at k0 k1 k2 k3 k4 k5 k6 k7 k8 k9 k10 k11
    subst k0; subst k1; subst k2; subst k3; subst k4; subst k5; subst k6; subst k7; subst k8; subst k9; subst k10; subst k11
    intro g vs hg
    simp only [Ev.G0, Ev.gGet, cond_eq_ite, Nat.beq_eq] at hg
    split at hg
    · rename_i h0
      subst h0
      cases hg
      refine ⟨rfl, _, hf, by rw [hl]; simp, ?_⟩
      rw [hl]
      simp [Ev.RVs, Ev.RV]
    · cases hg

theorem one_of_pure : ∀ cs : List Ev.V, Ev.pureL cs = true → cs.all Ev.one = true := Ev.one_of_pureL

theorem lifted (os : Os) (started : os.Started) (H : Type) (enc : TypeId × Value → H) :
    ReturnsInHanded {} Tryz.checked os 3 .any (fun w args => (Rows.cycleStillSpec.pre enc Tryz.prog Tryz.f3 [] false w args ∧ laidMetH Tryz.prog [("cotterel/inst.fields", Rows.laid_cotterel_inst_fields)] w) ∧ sizedMet enc Tryz.prog Tryz.f3 (OpenSpec.ofChange Rows.cycleStillSpec) false w args)
      (Rows.cycleStillSpec.post enc Tryz.prog Tryz.f3 false true false false) := by
  refine returnsInHanded_of_change_and (C := Tryz.checked) (X := fun w _ => laidMetH Tryz.prog [("cotterel/inst.fields", Rows.laid_cotterel_inst_fields)] w) (fun _ _ _ hh h => h.of_heap hh) own started (by kernel_rfl) Tryz.func3
    (ChangeSpec.witness_shaped (enc := enc) (C := Tryz.checked) (os := os) (X := fun w _ => laidMetH Tryz.prog [("cotterel/inst.fields", Rows.laid_cotterel_inst_fields)] w) false (World.doorLaid Tryz.prog 400 os) #[((Tryz.prog.info? 54).bind (·.zero)).getD .nilIface, ((Tryz.prog.info? 57).bind (·.zero)).getD .nilIface, .int .i64 0] 8 rfl (World.shaped_of_RefB (by kernel_rfl) (by kernel_rfl)) (by kernel_rfl) (by kernel_rfl) (by kernel_rfl) (laidMetH_of_parts3 (fuel := 8) (laidMet_of_run' 8 (by kernel_rfl) (by kernel_rfl)) (by kernel_rfl) (by kernel_rfl))) ?_
  intro W base args ds gs before hval0 hW _ _ hL _
  have hval : ∀ (j : Nat) t v, Tryz.f3.params[j]? = some t → args[j]? = some v → Value.okWide Tryz.prog W .any base t v := hval0
  have hW' := hW
  have hlt0 := hW.lt
  obtain ⟨p, q, hA0, hV, rfl, hfz, hnd⟩ := hW
  have hA : DataW.TrodAll enc Tryz.prog W 0 (fun _ => true) true Tryz.f3.params.toList args.toList ds p := hA0
  rw [Tryz.params3] at hA hval
  obtain ⟨v0, v1, v2, d0, d1, d2, p0, p1, p2, rfl, rfl, rfl, t0, t1, t2⟩ := trodAll_three hA
  obtain ⟨rfl, rfl⟩ := trodVars_none hV
  have ok0 := hval 0 54 v0 rfl rfl
  have ok1 := hval 1 57 v1 rfl rfl
  have ok2 := hval 2 3 v2 rfl rfl
  have T0 := t0
  have T1 := t1
  have T2 := t2
  obtain ⟨fu0, r0⟩ := t0
  obtain ⟨fu1, r1⟩ := t1
  obtain ⟨A0, rfl, _⟩ := okWide_struct Tryz.underlying54 ok0
  obtain ⟨A1, rfl, _⟩ := okWide_struct Tryz.underlying57 ok1
  obtain ⟨n2, rfl⟩ := okWide_int Tryz.underlying3 ok2
  obtain ⟨c, _, rc⟩ := Ev.dec54 enc W fu0 _ _ r0
  obtain ⟨m, hm, rm⟩ := Ev.dec57 enc W fu1 _ _ r1
  have hcoh : Ev.Pl.CohL m := ⟨hm.1.1, hm.2.1, fun c hc => (hm.2.2 c hc).1, fun c hc s hs => ((hm.2.2 c hc).2 s hs).1⟩
  have g := fields_at hL
  have w := Ev.rw0 W
  have hr : Ev.RVs (Ev.Phi0 W) [.a (Ev.eCore c), .a (Ev.eCoh m), Ev.eI n2] (#[.agg A0, .agg A1, .int .i64 n2] : Array Value).toList := by
    simp only [Ev.RVs, Ev.RV, Ev.eI]
    exact ⟨_, _, rfl, ⟨A0, rfl, rc, Ev.one_of_pureL _ (Ev.lay_pure (f := Ev.eCore) c)⟩, _, _, rfl, ⟨A1, rfl, rm, Ev.one_of_pureL _ (Ev.lay_pure (f := Ev.eCoh) m)⟩, _, _, rfl, rfl, rfl⟩
  have hcalls := (Ev.callP_ok law_ok g w hr (Ev.w3b c m n2 hcoh [] _)).2
  refine hcalls.mono fun e W' hp => ?_
  cases e with
  | returned z =>
    obtain ⟨φ', hr, _, _, hext⟩ := hp
    simp only [Ev.RV] at hr
    subst hr
    have hst := (Ev.stays0 hext).below
    have lt0 : ∀ x ∈ p0, x.block < W.heap.size := fun x hx => hlt0 x (by simp [hx])
    have lt1 : ∀ x ∈ p1, x.block < W.heap.size := fun x hx => hlt0 x (by simp [hx])
    have lt2 : ∀ x ∈ p2, x.block < W.heap.size := fun x hx => hlt0 x (by simp [hx])
    simp only [List.append_nil] at hW'
    refine ⟨_, rfl, [d0, d1, d2], [], _, [], p0 ++ p1 ++ p2, [], hW', ?_, ?_, rfl, hst.frame _, fun h => by cases h⟩
    · exact trodAll_mk1 (shut_bool Tryz.underlying4 _)
    · rw [List.append_assoc]; exact trodAll_mk3 (Below.trod laidOut (by kernel_rfl) (of_decide_eq_true (by kernel_rfl)) T0 hst lt0) (Below.trod laidOut (by kernel_rfl) (of_decide_eq_true (by kernel_rfl)) T1 hst lt1) (Below.trod laidOut (by kernel_rfl) (of_decide_eq_true (by kernel_rfl)) T2 hst lt2)
  | _ => exact hp.elim

theorem cycleStill_said : Rows.CycleStillSaid :=
  OpenClaim.holds_of_wide 3 Tryz.f3 rfl rfl rfl rfl rfl rfl rfl ⟨rfl, rfl, rfl, rfl, rfl⟩ rfl rfl rfl rfl rfl named_f Tryz.func3 closed instance_f wrapper_f
    (fun os started H enc _ => lifted os started H enc)

theorem looks_at : ∀ f fn, Tryz.pinned.checked.prog.funcNamed Rows.cycleStillRow.func = some f → Tryz.pinned.checked.prog.funcs[f]? = some fn → false = Tryz.pinned.checked.prog.looks [] ∧ ∀ (j : Nat) t, fn.params[j]? = some t → Tryz.pinned.checked.prog.wantsStandIn t = false := by
  intro f fn hf hfn
  obtain rfl : f = 3 := (Option.some.inj (Eq.trans (Eq.symm named_f) hf)).symm
  obtain rfl : fn = Tryz.f3 := (Option.some.inj (Eq.trans (Eq.symm Tryz.func3) hfn)).symm
  refine ⟨looks_f, fun j t ht => ?_⟩
  rw [Tryz.params3] at ht
  rcases j with _ | _ | _ | j
  · have h3 : t = 54 := by simpa using ht.symm
    subst h3
    exact stand54
  · have h3 : t = 57 := by simpa using ht.symm
    subst h3
    exact stand57
  · have h3 : t = 3 := by simpa using ht.symm
    subst h3
    exact stand3
  · simp at ht

theorem cycleStill_card : Rows.CycleStillCardSaid :=
  Claim7.holds_tied_plain_at .later [] [.data] true (true, "72eb907db78c7b8554c96f790c3dd88f5db3a56c3166ce0d0d5e0a4e8eb8c34d") false
    cycleStill_said (fun _ h => by cases h) wf_text (fun _ h => by cases h) cycleStill_row_tie rfl ⟨rfl, rfl⟩ main_is rfl looks_at goes_by
#print axioms cycleStill_card

end Go.Proofs.YtoppeebbioalcaaGreatDoor
