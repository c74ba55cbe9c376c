/- CycleIrqs holds: whatever the ticks and whatever had retired, the law answers true, and its arguments read as they did. -/
import Derived.Test.YtfahdklcgidmmaaGreatDoorS
import Derived.Test.YtfahdklcgidmmaaGreatDoorEvArgs
import Derived.Test.YtfahdklcgidmmaaGreatDoorM3
import Derived.Test.YtfahdklcgidmmaaGreatDoorJ
import Derived.ProofKit
import Derived.LaidMore
import Derived.OpenShut
import Derived.Carry
import Derived.Stop.Joined
set_option maxRecDepth 100000
namespace Go.Proofs.YtfahdklcgidmmaaGreatDoor
open Go.ChangeShapes Go.WideShapes Go.ChangeAt Go.WideMaps Go.WideElems Go.RowKit
open Go.Ev (CallOK Mono RV RVs CellsAt Reads Grp entryH entryPhi argV argB argLen argRow absB absV roC)
open Run

/-! awake -/

theorem awake_ok : Ev.CallOK Tryz.prog [0] callA ∧ Ev.Mono callA := by
  have hh : m3.h = ⟨16, Ev.closedT [(0, fieldsL)], .e⟩ := by kernel_rfl
  have e := e3
  rw [hh] at e
  exact Ev.closedCall_ok (nb := 16) (by simp) (by simp) (by intro p hp; simp at hp; subst hp; rfl) (Ev.evM_sound mixes tabT_ok 100000 (Ev.memo_ok ms3).1 (Ev.memo_ok ms3).2 60) e

theorem law_ok : Ev.CallOK Tryz.prog [0] (Ev.evM callA tabL.get 100000 3) := Ev.evM_sound mixes tabL_ok 100000 awake_ok.1 awake_ok.2 3

theorem law_run (args : List Ev.V) (h : Ev.H) : Ev.evM callA tabL.get 100000 3 3 args h = Ev.runF callL 100000 d3' args h := by
  have h1 : callA 3 args h = none := callA_not (by omega)
  have h2 : tabL.get 3 = some d3' := rfl
  simp only [callL, Ev.evM, h1, h2]

theorem own : ownKnob Tryz.prog.godebug = none := by kernel_rfl
theorem gFields : Tryz.prog.globalNamed "cotterel/inst.fields" = some 0 := by kernel_rfl
theorem laidOut : laidOutB Tryz.prog = true := by kernel_rfl

theorem tFields : (Tryz.prog.globals[0]?).map (·.type) = some 354 := by kernel_rfl
theorem cells3 : Tryz.prog.cellsOf 3 = 1 := by kernel_rfl
theorem cells30 : Tryz.prog.cellsOf 30 = 5 := by kernel_rfl
theorem cells28 : Tryz.prog.cellsOf 28 = 1 := by kernel_rfl
theorem cells4 : Tryz.prog.cellsOf 4 = 1 := by kernel_rfl

/-- the table of fields, when the call begins -/
theorem fields_at {W : World} (h : laidMetH Tryz.prog [("cotterel/inst.fields", Rows.laid_cotterel_inst_fields)] W) :
    (∃ c u fz, W.heap[0]? = some (.cells c u fz)) ∧ ∃ rest, absB W 0 = fieldsL ++ rest := by
  rw [MakeChecks.laidMetH_plain _ _ _ (by kernel_rfl)] at h
  obtain ⟨ps, ⟨g0, t0, cs0, f0, p0, q0, hg0, ht0, hv0, hd0, _, _⟩, _, _⟩ := h
  obtain rfl := Option.some.inj (gFields.symm.trans hg0)
  obtain rfl := Option.some.inj (tFields.symm.trans ht0)
  simp only [World.var?, gFields, Option.bind_some] at hv0
  split at hv0
  case h_2 => cases hv0
  rename_i cs u fz hc
  simp only [Option.some.injEq] at hv0
  subst hv0
  refine ⟨⟨cs, u, fz, hc⟩, ?_⟩
  have hB : absB W 0 = cs.toList.map absV := by simp [absB, hc]
  obtain ⟨xs, m1, rfl, hx1, hlen, hn3, hel⟩ := DataW.trod_array Tryz.underlying354 hd0
  simp only [Prod.mk.injEq, Rows.laid_cotterel_inst_fields, DataW.agg.injEq] at hx1
  obtain ⟨hx1, _⟩ := hx1
  have key : ∀ (i : Nat) (n : Int), (xs.map (·.1))[i]? = some (.lit (.int .i64 n)) → i < 12 → cs.toList[i]? = some (.int .i64 n) := by
    intro i n hi hi12
    have h1 := hel i hi12
    rw [List.getElem?_map] at hi
    cases hxi : xs[i]? with
    | none => rw [hxi] at hi; cases hi
    | some y =>
      rw [hxi] at hi h1
      simp only [Option.map_some, Option.some.injEq] at hi
      rw [cells3] at h1
      obtain ⟨k, e1, e2, _⟩ := DataW.trod_int Tryz.underlying3 h1
      rw [e2] at hi
      simp only [DataW.lit.injEq, Lit.int.injEq, true_and] at hi
      subst hi
      have : ((cs.toList.drop (i * 1)).take 1)[0]? = some (.int .i64 k) := by rw [e1]; rfl
      rw [List.getElem?_take, if_pos (by omega), List.getElem?_drop] at this
      simpa using this
  rw [← hx1] at key
  have k0 := key 0 0 rfl (by omega)
  have k1 := key 1 7 rfl (by omega)
  have k2 := key 2 11 rfl (by omega)
  have k3 := key 3 14 rfl (by omega)
  have k4 := key 4 14 rfl (by omega)
  have k5 := key 5 9 rfl (by omega)
  have k6 := key 6 7 rfl (by omega)
  have k7 := key 7 9 rfl (by omega)
  have k8 := key 8 10 rfl (by omega)
  have k9 := key 9 2 rfl (by omega)
  have k10 := key 10 0 rfl (by omega)
  have k11 := key 11 3 rfl (by omega)
  match hl : cs.toList, k0, k1, k2, k3, k4, k5, k6, k7, k8, k9, k10, k11 with
  | a0 :: a1 :: a2 :: a3 :: a4 :: a5 :: a6 :: a7 :: a8 :: a9 :: a10 :: a11 :: rest, k0, k1, k2, k3, k4, k5, k6, k7, k8, k9, k10, k11 =>
    simp at k0 k1 k2 k3 k4 k5 k6 k7 k8 k9 k10 k11
    subst k0; subst k1; subst k2; subst k3; subst k4; subst k5; subst k6; subst k7; subst k8; subst k9; subst k10; subst k11
    exact ⟨rest.map absV, by rw [hB, hl]; rfl⟩

theorem fields_entry {W : World} {bs : List Nat} (h0 : 0 ∈ bs) (h : ∃ rest, absB W 0 = fieldsL ++ rest) : FieldsAt (entryH W bs) := by
  obtain ⟨rest, h⟩ := h
  refine ⟨⟨absB W 0, 0, roC⟩, by simp only [entryH, Ev.entryT_get, if_pos h0], ?_⟩
  rw [h, Ev.takeN_eq, Ev.len_eq, List.take_left']
  · rfl
  · rfl

/-- a tick's cells -/
theorem tick_row {H : Type} {enc : TypeId × Value → H} {W : World} {n : Nat} {cs : List Value} {y : DataW H × List MemPlace} (h : DataW.trod enc Tryz.prog W 0 (fun _ => true) true n 30 cs = some y) :
    ∃ (x : Nat) (n1 n2 n4 : Int) (b : Bool), cs.map absV = [.i .u32 (.ofNat x), .i .u32 n1, .i .i64 n2, .b b, .i .i64 n4] ∧ x ≤ 4294967295 := by
  obtain ⟨xs, m, _, _, hl, hn, hel⟩ := DataW.trod_struct Tryz.underlying30 h
  rw [cells30] at hl
  match cs, hl with
  | [a0, a1, a2, a3, a4], _ =>
    match xs, hn with
    | [x0, x1, x2, x3, x4], _ =>
      have e0 : DataW.trod enc Tryz.prog W 0 (fun _ => true) true m 28 (([a0, a1, a2, a3, a4].drop 0).take (Tryz.prog.cellsOf 28)) = some x0 := hel 0 _ rfl
      have e1 : DataW.trod enc Tryz.prog W 0 (fun _ => true) true m 28 (([a0, a1, a2, a3, a4].drop 1).take (Tryz.prog.cellsOf 28)) = some x1 := hel 1 _ rfl
      have e2 : DataW.trod enc Tryz.prog W 0 (fun _ => true) true m 3 (([a0, a1, a2, a3, a4].drop 2).take (Tryz.prog.cellsOf 3)) = some x2 := hel 2 _ rfl
      have e3 : DataW.trod enc Tryz.prog W 0 (fun _ => true) true m 4 (([a0, a1, a2, a3, a4].drop 3).take (Tryz.prog.cellsOf 4)) = some x3 := hel 3 _ rfl
      have e4 : DataW.trod enc Tryz.prog W 0 (fun _ => true) true m 3 (([a0, a1, a2, a3, a4].drop 4).take (Tryz.prog.cellsOf 3)) = some x4 := hel 4 _ rfl
      rw [cells28] at e0 e1
      rw [cells3] at e2 e4
      rw [cells4] at e3
      obtain ⟨n0, c0, _, w0⟩ := DataW.trod_int Tryz.underlying28 e0
      obtain ⟨n1, c1, _, _⟩ := DataW.trod_int Tryz.underlying28 e1
      obtain ⟨n2, c2, _, _⟩ := DataW.trod_int Tryz.underlying3 e2
      obtain ⟨b, c3, _⟩ := DataW.trod_bool Tryz.underlying4 e3
      obtain ⟨n4, c4, _, _⟩ := DataW.trod_int Tryz.underlying3 e4
      obtain rfl : a0 = _ := (List.cons.inj (show [a0] = [_] from c0)).1
      obtain rfl : a1 = _ := (List.cons.inj (show [a1] = [_] from c1)).1
      obtain rfl : a2 = _ := (List.cons.inj (show [a2] = [_] from c2)).1
      obtain rfl : a3 = _ := (List.cons.inj (show [a3] = [_] from c3)).1
      obtain rfl : a4 = _ := (List.cons.inj (show [a4] = [_] from c4)).1
      simp only [Lit.wf, Bool.and_eq_true, decide_eq_true_eq] at w0
      have w1 : 0 ≤ n0 := w0.1
      have w2 : n0 ≤ 4294967295 := w0.2
      obtain ⟨x, rfl⟩ : ∃ x : Nat, n0 = .ofNat x := ⟨n0.toNat, by rw [Int.ofNat_eq_natCast]; omega⟩
      exact ⟨x, n1, n2, n4, b, rfl, by rw [Int.ofNat_eq_natCast] at w2; omega⟩

/-- an int's cell -/
theorem int_row {H : Type} {enc : TypeId × Value → H} {W : World} {n : Nat} {cs : List Value} {y : DataW H × List MemPlace} (h : DataW.trod enc Tryz.prog W 0 (fun _ => true) true n 3 cs = some y) :
    ∃ z : Int, cs.map absV = [.i .i64 z] := by
  obtain ⟨z, rfl, _⟩ := DataW.trod_int Tryz.underlying3 h
  exact ⟨z, rfl⟩

def xsOf (W : World) (v : Value) (i : Nat) : Nat := match argRow W 5 v i with
  | .i _ n :: _ => n.toNat
  | _ => 0

def rvOf (W : World) (v : Value) (i : Nat) : Int := match argRow W 1 v i with
  | .i _ n :: _ => n
  | _ => 0

theorem nz5 {x : Nat} {n1 n2 n4 : Int} {b : Bool} : ∀ c ∈ ([.i .u32 (.ofNat x), .i .u32 n1, .i .i64 n2, .b b, .i .i64 n4] : List Ev.V), c ≠ .z := by
  intro c hc
  simp only [List.mem_cons, List.not_mem_nil, or_false] at hc
  rcases hc with rfl | rfl | rfl | rfl | rfl <;> intro e <;> cases e

theorem lifted (os : Os) (started : os.Started) (H : Type) (enc : TypeId × Value → H) :
    ReturnsInHanded {} Tryz.checked os 3 .any (fun w args => (Rows.cycleIrqsSpec.pre enc Tryz.prog Tryz.f3 [] false w args ∧ laidMetH Tryz.prog [("cotterel/inst.fields", Rows.laid_cotterel_inst_fields)] w) ∧ sizedMet enc Tryz.prog Tryz.f3 (OpenSpec.ofChange Rows.cycleIrqsSpec) false w args)
      (Rows.cycleIrqsSpec.post enc Tryz.prog Tryz.f3 false true false false) := by
  refine returnsInHanded_of_change_and (C := Tryz.checked) (X := fun w _ => laidMetH Tryz.prog [("cotterel/inst.fields", Rows.laid_cotterel_inst_fields)] w) (fun _ _ _ hh h => h.of_heap hh) own started (by kernel_rfl) Tryz.func3
    (ChangeSpec.witness_shaped (enc := enc) (C := Tryz.checked) (os := os) (X := fun w _ => laidMetH Tryz.prog [("cotterel/inst.fields", Rows.laid_cotterel_inst_fields)] w) false (World.doorLaid Tryz.prog 400 os) #[.slice none 0 0, .slice none 0 0] 8 rfl (World.shaped_of_RefB (by kernel_rfl) (by kernel_rfl)) (by kernel_rfl) (by kernel_rfl) (by kernel_rfl) (laidMetH_of_parts3 (fuel := 8) (laidMet_of_run' 8 (by kernel_rfl) (by kernel_rfl)) (by kernel_rfl) (by kernel_rfl))) ?_
  intro W base args ds gs before hval0 hW _ _ hL _
  have hval : ∀ (j : Nat) t v, Tryz.f3.params[j]? = some t → args[j]? = some v → Value.okWide Tryz.prog W .any base t v := hval0
  have hW' := hW
  have hlt0 := hW.lt
  obtain ⟨p, q, hA0, hV, rfl, hfz, hnd⟩ := hW
  have hA : DataW.TrodAll enc Tryz.prog W 0 (fun _ => true) true Tryz.f3.params.toList args.toList ds p := hA0
  rw [Tryz.params3] at hA hval
  obtain ⟨v0, v1, d0, d1, p0, p1, rfl, rfl, rfl, t0, t1⟩ := trodAll_two hA
  obtain ⟨rfl, rfl⟩ := trodVars_none hV
  have ok0 := hval 0 22 v0 rfl rfl
  have ok1 := hval 1 23 v1 rfl rfl
  obtain ⟨hc0, hF⟩ := fields_at hL
  have T0 := t0
  have T1 := t1
  obtain ⟨fu0, r0⟩ := t0
  obtain ⟨fu1, r1⟩ := t1
  let bs : List Nat := 0 :: (argB v0 ++ argB v1)
  obtain ⟨rv0, ln0, row0⟩ := Ev.open_arg (bs := bs) Tryz.underlying22 cells30 (by omega) ok0 r0 (fun b hb => by simp [bs, hb])
  obtain ⟨rv1, ln1, row1⟩ := Ev.open_arg (bs := bs) Tryz.underlying23 cells3 (by omega) ok1 r1 (fun b hb => by simp [bs, hb])
  have hbs : ∀ b ∈ bs, ∃ c u fz, W.heap[b]? = some (.cells c u fz) := by
    intro b hb
    simp only [bs, List.mem_cons, List.mem_append] at hb
    rcases hb with rfl | hb | hb
    · exact hc0
    · exact Ev.argB_cells Tryz.underlying22 ok0 b hb
    · exact Ev.argB_cells Tryz.underlying23 ok1 b hb
  have w := Ev.entry_rw hbs
  have g : Ev.GOK [0] (entryPhi W bs) := Ev.entry_gok (by simp [bs])
  have gr := Ev.entry_grp W bs
  have hW0 : 0 < W.heap.size := by
    obtain ⟨c, u, fz, hc⟩ := hc0
    obtain ⟨hlt, _⟩ := Array.getElem?_eq_some_iff.1 hc
    exact hlt
  have fe := fields_entry (bs := bs) (by simp [bs]) hF
  have rd0 : Reads W.heap.size (entryH W bs) (argV 5 v0) 5 (argLen v0) (argRow W 5 v0) := ⟨ln0, fun i hi => by
    obtain ⟨cs, n, y, e1, e2, e3, b, o, e4, e5, e6, e7⟩ := row0 i hi
    obtain ⟨x, n1, n2, n4, bb, e8, _⟩ := tick_row e3
    have hl : (argRow W 5 v0 i).length = 5 := by rw [e1, List.length_map, e2]
    exact ⟨b, o, e4, e5, hl, Ev.entry_at e7 (by rw [hl]; exact e6) (by rw [e1, e8]; exact nz5)⟩⟩
  have rd1 : Reads W.heap.size (entryH W bs) (argV 1 v1) 1 (argLen v1) (argRow W 1 v1) := ⟨ln1, fun i hi => by
    obtain ⟨cs, n, y, e1, e2, e3, b, o, e4, e5, e6, e7⟩ := row1 i hi
    obtain ⟨z, e8⟩ := int_row e3
    have hl : (argRow W 1 v1 i).length = 1 := by rw [e1, List.length_map, e2]
    exact ⟨b, o, e4, e5, hl, Ev.entry_at e7 (by rw [hl]; exact e6) (by rw [e1, e8]; intro c hc; simp only [List.mem_singleton] at hc; subst hc; intro e; cases e)⟩⟩
  have hL0 : ∀ k, k < argLen v0 → ∃ c1 c2 c3 c4, argRow W 5 v0 k = [.i .u32 (.ofNat (xsOf W v0 k)), c1, c2, c3, c4] ∧ xsOf W v0 k ≤ 4294967295 := by
    intro k hk
    obtain ⟨cs, n, y, e1, _, e3, _⟩ := row0 k hk
    obtain ⟨x, n1, n2, n4, bb, e8, hx⟩ := tick_row e3
    have hxs : xsOf W v0 k = x := by simp only [xsOf, e1, e8]; rfl
    exact ⟨_, _, _, _, by rw [hxs, e1, e8], by rw [hxs]; exact hx⟩
  have hR1 : ∀ k, k < argLen v1 → argRow W 1 v1 k = [.i .i64 (rvOf W v1 k)] := by
    intro k hk
    obtain ⟨cs, n, y, e1, _, e3, _⟩ := row1 k hk
    obtain ⟨z, e8⟩ := int_row e3
    have : rvOf W v1 k = z := by simp only [rvOf, e1, e8]
    rw [this, e1, e8]
  -- the run
  have run : ∃ h', Ev.evM callA tabL.get 100000 3 3 [argV 5 v0, argV 1 v1] (entryH W bs) = some (.b true, h') := by
    rw [law_run]
    by_cases hn : 400 < argLen v0 ∨ 400 < argLen v1
    · exact ⟨_, main_early ln0 ln1 fe hn⟩
    · exact main_whole hL0 hR1 gr hW0 rd0 rd1 fe (by omega) (by omega)
  obtain ⟨h', hrun⟩ := run
  have hcalls := (law_ok _ _ _ _ _ hrun).2 (entryPhi W bs) W #[v0, v1] g (by simp only [Ev.RVs]; exact ⟨v0, [v1], rfl, rv0, v1, [], rfl, rv1, rfl⟩) w
  refine hcalls.mono fun e W' hp => ?_
  cases e with
  | returned z =>
    obtain ⟨φ', hr, _, _, hext⟩ := hp
    simp only [Ev.RV] at hr
    subst hr
    have hst := (Ev.entry_stays hext).below
    have lt0 : ∀ x ∈ p0, x.block < W.heap.size := fun x hx => hlt0 x (by simp [hx])
    have lt1 : ∀ x ∈ p1, x.block < W.heap.size := fun x hx => hlt0 x (by simp [hx])
    simp only [List.append_nil] at hW'
    refine ⟨_, rfl, [d0, d1], [], _, [], p0 ++ p1, [], hW', ?_, ?_, rfl, hst.frame _, fun h => by cases h⟩
    · exact trodAll_mk1 (shut_bool Tryz.underlying4 _)
    · exact trodAll_mk2 (Below.trod laidOut (by kernel_rfl) (of_decide_eq_true (by kernel_rfl)) T0 hst lt0) (Below.trod laidOut (by kernel_rfl) (of_decide_eq_true (by kernel_rfl)) T1 hst lt1)
  | _ => exact hp.elim

theorem cycleIrqs_said : Rows.CycleIrqsSaid :=
  OpenClaim.holds_of_wide 3 Tryz.f3 rfl rfl rfl rfl rfl rfl rfl ⟨rfl, rfl, rfl, rfl, rfl⟩ rfl rfl rfl rfl rfl named_f Tryz.func3 closed instance_f wrapper_f
    (fun os started H enc _ => lifted os started H enc)

theorem looks_at : ∀ f fn, Tryz.pinned.checked.prog.funcNamed Rows.cycleIrqsRow.func = some f → Tryz.pinned.checked.prog.funcs[f]? = some fn → false = Tryz.pinned.checked.prog.looks [] ∧ ∀ (j : Nat) t, fn.params[j]? = some t → Tryz.pinned.checked.prog.wantsStandIn t = false := by
  intro f fn hf hfn
  obtain rfl : f = 3 := (Option.some.inj (Eq.trans (Eq.symm named_f) hf)).symm
  obtain rfl : fn = Tryz.f3 := (Option.some.inj (Eq.trans (Eq.symm Tryz.func3) hfn)).symm
  refine ⟨looks_f, fun j t ht => ?_⟩
  rw [Tryz.params3] at ht
  rcases j with _ | _ | j
  · have h3 : t = 22 := by simpa using ht.symm
    subst h3
    exact stand22
  · have h3 : t = 23 := by simpa using ht.symm
    subst h3
    exact stand23
  · simp at ht

theorem cycleIrqs_card : Rows.CycleIrqsCardSaid :=
  Claim7.holds_tied_plain_at .later [] [.data] true (true, "8b28bf9e854e7280d09d835a6a96001aa879465830142a2be5ca9ff4d3cc7d97") false
    cycleIrqs_said (fun _ h => by cases h) wf_text (fun _ h => by cases h) cycleIrqs_row_tie rfl ⟨rfl, rfl⟩ main_is rfl looks_at goes_by
#print axioms cycleIrqs_card

end Go.Proofs.YtfahdklcgidmmaaGreatDoor
