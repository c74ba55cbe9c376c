/- The evaluator: ranges that yield nothing, thinning at returns, entries. -/
import Derived.Test.YtplhemceflgdlaaGreatDoorEvD
import Derived.RangeFuncRecord
import Derived.RangeFuncLeaves
import Derived.Below
import Derived.ProofKit
import Derived.Deep.Slices
namespace Go.Ev
open Go.RowKit
noncomputable section

/-! a function that ranges over a function which yields nothing -/

structure FR where
  np : Nat
  nt : Nat
  pre : K
  mid : K
  g : O
  post : K
  res : List R

def cFR (P : Program) (G : List Nat) (f : Func) (h1 h2 h3 : List (List Nat)) : Option FR := match f.body with
  | some (.seq a (.seq (.seq b (.block _ (.rangeFunc g _ _ _))) c)) => match toO G g with
    | none => none
    | some o => match mapO (cR P) f.results.toList with
      | none => none
      | some rs => bif Nat.ble (f.params.size + f.nfree) f.ntmps then some ⟨f.params.size + f.nfree, f.ntmps, (cK P G f.ntmps a h1).1, (cK P G f.ntmps b h2).1, o, (cK P G f.ntmps c h3).1, rs⟩ else none
  | _ => none

def runFR (call : Call) (lf : Nat) (f : FR) (args : List V) (h : H) : Option (V × H) :=
  bif Nat.beq (len args) f.np then
    match evK call lf f.pre (envOf args 0 .e) h with
    | some (.nrm, env1, h1) => match evK call lf f.mid env1 h1 with
      | some (.nrm, env2, h2) => match f.g.ev env2 with
        | some (.fn gf [] cap) => match call gf (.m :: cap) h2 with
          | some r => match evK call lf f.post env2 r.2 with
            | some (.ret, env3, h3) => match resV env3 h3 f.res with
              | some vs => some (packR vs, h3)
              | none => none
            | _ => none
          | none => none
        | _ => none
      | _ => none
    | _ => none
  else none

section
variable {P : Program} {G : List Nat} {call : Call} {lf : Nat}

/-- the memory changed where no block lies -/
theorem RW.off {φ : Phi} {h : H} {W W' : World} (r : RW φ h W) (hold : ∀ b x, φ b = some x → W'.heap[x.1]? = W.heap[x.1]?) (hs : W.heap.size ≤ W'.heap.size) : RW φ h W' where
  blk b k hb := by
    obtain ⟨x, c, e, fz, hx, hc, rest⟩ := r.blk b k hb
    exact ⟨x, c, e, fz, hx, by rw [hold b x hx]; exact hc, rest⟩
  img b x hx := ⟨(r.img b x hx).1, by have := (r.img b x hx).2; omega⟩
  fresh := r.fresh
  alias := r.alias
  grp := r.grp
  ros wb h := by have := r.ros wb h; omega

theorem Ext.above {φ : Phi} {W W1 W2 : World} (e : Ext φ W W1) (hs : W1.heap.size = W2.heap.size) (hold : ∀ k, k < W.heap.size → W2.heap[k]? = W1.heap[k]?) (ht : W2.tape = W1.tape) (ho : W2.os = W1.os) (hp : W2.output = W1.output) : Ext φ W W2 where
  size := by rw [← hs]; exact e.size
  out wb hwb hx := by rw [hold wb hwb]; exact e.out wb hwb hx
  shape wb c t fz hc := by
    obtain ⟨hlt, _⟩ := Array.getElem?_eq_some_iff.1 hc
    rw [hold wb hlt]; exact e.shape wb c t fz hc
  tape := ht.trans e.tape
  os := ho.trans e.os
  output := hp.trans e.output

theorem funcR_ok (hcall : CallOK P G call) (hmix : P.follows .mixedOrders = true) (hplan : PlanOK P G call) {f : Nat} {fn : Func} {s1 s2 s3 : List (List Nat)} {F : FR} (hf : P.funcs[f]? = some fn) (hc : cFR P G fn s1 s2 s3 = some F)
    {args : List V} {h h' : H} {v : V} (hv : runFR call lf F args h = some (v, h')) {φ : Phi} {W : World} {vs : Array Value} (g : GOK G φ) (ha : RVs φ args vs.toList) (w : RW φ h W) : Calls P f vs W (CPost φ W v h') := by
  unfold cFR at hc
  split at hc
  case h_2 => cases hc
  rename_i a b bid gx ps asg bdy c hb
  split at hc
  · cases hc
  rename_i o ho
  split at hc
  · cases hc
  rename_i rs hrs
  simp only [cond_eq_ite, Nat.ble_eq] at hc
  split at hc
  case isFalse => cases hc
  rename_i hn
  cases hc
  simp only [runFR, cond_eq_ite, Nat.beq_eq, len_eq] at hv
  split at hv
  case isFalse => cases hv
  rename_i hl
  split at hv
  case h_2 => cases hv
  rename_i env1 h1 hr1
  split at hv
  case h_2 => cases hv
  rename_i env2 h2 hr2
  split at hv
  case h_2 => cases hv
  rename_i gf cap hgo
  split at hv
  case h_2 => cases hv
  rename_i rr hrr
  split at hv
  case h_2 => cases hv
  rename_i env3 h3 hr3
  split at hv
  case h_2 => cases hv
  rename_i us hus
  cases hv
  refine (callsIn_wide (n := 0)).1 (callsIn_of_wp_marks hf hb trivial (wpIn_wide.2 ?_))
  -- the boxes
  refine wp_seq (wp_mono (code_ok hcall hmix hplan a s1 _ h _ env1 h1 hr1 φ W _ (start_env ha (by omega)) g w) fun e a1 W1 he => ?_)
  obtain ⟨rfl, φ1, d1, r1, w1, g1, e1⟩ := he
  refine wp_seq (wp_seq (wp_mono (code_ok hcall hmix hplan b s2 _ h1 _ env2 h2 hr2 φ1 W1 _ r1 (g.mono g1.le) w1) fun e a2 W2 he => ?_))
  obtain ⟨rfl, φ2, d2, r2, w2, g2, e2⟩ := he
  have gg2 : GOK G φ2 := (g.mono g1.le).mono g2.le
  have hg := toO_ok ho r2 gg2 hgo
  simp only [RV, RVs] at hg
  obtain ⟨A, B, hge, hA, hB⟩ := hg
  obtain rfl : A = #[] := Array.ext' hA
  refine wp_block ((wpIn_wide (n := 0)).1 (wpIn_rangeFunc fun fid _ => ?_))
  obtain ⟨hen, hcl⟩ := hcall _ _ _ _ _ hrr
  obtain ⟨rec, hrec⟩ : ∃ rec : LoopState → Option Code → Loop, rec = fun st pe => { state := st, pending := pe, fn := fid, tmps := a2.tmps, params := ps, assign := asg, body := bdy, defers := W2.heap.size } := ⟨_, rfl⟩
  obtain ⟨W3, hW3⟩ : ∃ W3, (W2.alloc (.deferred (some []))).alloc (.loop (rec .ready none)) = W3 := ⟨_, rfl⟩
  have sz3 : W3.heap.size = W2.heap.size + 2 := by rw [← hW3]; simp
  have hL3 : W3.heap[W2.heap.size + 1]? = some (.loop (rec .ready none)) := by
    rw [← hW3]; have := World.alloc_heap_new (W2.alloc (.deferred (some []))) (.loop (rec .ready none)); rwa [World.size_alloc] at this
  have hD3 : W3.heap[W2.heap.size]? = some (.deferred (some [])) := by
    rw [← hW3]; exact (Below.heap_alloc _ _ _ (by simp)).trans (World.alloc_heap_new W2 _)
  have old3 : ∀ i, i < W2.heap.size → W3.heap[i]? = W2.heap[i]? := fun i hi => by
    rw [← hW3]
    exact (Below.heap_alloc _ _ _ (by simp; omega)).trans (Below.heap_alloc _ _ _ hi)
  have w3 : RW φ2 h2 W3 := w2.push old3 (by omega)
  have e3 : Ext φ2 W2 W3 := ⟨by omega, fun wb hwb _ => old3 wb hwb, fun wb c t fz hc => ⟨c, by
    obtain ⟨hlt, _⟩ := Array.getElem?_eq_some_iff.1 hc
    rw [old3 wb hlt]; exact hc, rfl⟩, by rw [← hW3]; rfl, by rw [← hW3]; rfl, by rw [← hW3]; rfl⟩
  refine ⟨W2.heap.size + 1, [{ target := .collected W2.heap.size, args := #[] }], W3, { target := .fn (.func gf) B, args := #[.func (.yield (W2.heap.size + 1)) #[] #[]] }, W3, gf,
    #[.func (.yield (W2.heap.size + 1)) #[] #[]] ++ B, W3, ?_, ?_, (fun _ _ => trivial), ?_, (fun h => by cases h), ?_⟩
  · rw [← hW3, hrec]; exact run_enterLoop_outer _ _ _ _ _
  · simp only [resolve, hge]
    simp [go_sem]
  · have := run_callFunc hen (#[.func (.yield (W2.heap.size + 1)) #[] #[]] ++ B) W3
    simpa [invoke, go_sem] using this
  · refine callsIn_wide.2 ((hcl φ2 W3 _ gg2 ?_ w3).mono ?_)
    · simp only [Array.toList_append, RVs]
      refine ⟨_, _, rfl, ?_, ?_⟩
      · simp only [RV]; exact .inr ⟨_, rfl⟩
      · exact hB
    · rintro e W4 hp
      cases e with
      | returned z =>
        obtain ⟨φ4, _, w4, g4, e4⟩ := hp
        have img2 : ∀ b x, φ2 b = some x → x.1 < W2.heap.size := fun b x hx => (w2.img b x hx).2
        have img4 : ∀ b x, φ4 b = some x → x.1 ≠ W2.heap.size ∧ x.1 ≠ W2.heap.size + 1 := fun b x hx => by
          by_cases hlt : x.1 < W3.heap.size
          · obtain ⟨b', x', hx', hxx⟩ := g4.new b x hx hlt
            have := img2 b' x' hx'
            omega
          · omega
        have hL4 : W4.heap[W2.heap.size + 1]? = some (.loop (rec .ready none)) := by
          rw [e4.out _ (by omega) (fun b x hx hxx => by have := img2 b x hx; omega)]; exact hL3
        have hD4 : W4.heap[W2.heap.size]? = some (.deferred (some [])) := by
          rw [e4.out _ (by omega) (fun b x hx hxx => by have := img2 b x hx; omega)]; exact hD3
        obtain ⟨W5, hW5⟩ : ∃ W5, W4.putObj (W2.heap.size + 1) (.loop { rec .ready none with state := .exhausted }) = W5 := ⟨_, rfl⟩
        have oth5 : ∀ k, k ≠ W2.heap.size + 1 → W5.heap[k]? = W4.heap[k]? := fun k hk => by rw [← hW5]; exact World.putObj_heap_other hk
        have sz5 : W4.heap.size = W5.heap.size := by rw [← hW5]; simp
        have s34 := e4.size
        have w5 : RW φ4 rr.2 W5 := w4.off (fun b x hx => oth5 _ (img4 b x hx).2) (by omega)
        have e5 : Ext φ2 W2 W5 := (e3.trans e4 (Grow.refl _ _)).above sz5 (fun k hk => oth5 k (by omega)) (by rw [← hW5]; rfl) (by rw [← hW5]; rfl) (by rw [← hW5]; rfl)
        have g5 : Grow φ2 φ4 W2 := ⟨g4.le, fun b x hx hlt => g4.new b x hx (by omega)⟩
        have hD5 : W5.heap[W2.heap.size]? = some (.deferred (some [])) := by rw [oth5 _ (by omega)]; exact hD4
        refine ⟨none, W5, ?_, ?_⟩
        · have := run_endLoop (P := P) hL4 (by rw [hrec]; simp)
          rw [hW5] at this
          rw [hrec] at this
          exact this
        · -- what stands behind the loop
          have hd2 : a2.defers = [] := by rw [d2, d1]
          refine wp_mono (code_ok hcall hmix hplan c s3 _ rr.2 _ env3 h' hr3 φ4 W5 { a2 with defers := [{ target := .collected W2.heap.size, args := #[] }] ++ a2.defers } (r2.mono g5.le) (gg2.mono g5.le) w5) fun e a6 W6 he => ?_
          obtain ⟨rfl, φ6, d6, r6, w6, g6, e6⟩ := he
          rw [hd2] at d6
          have img6 : ∀ b x, φ6 b = some x → x.1 ≠ W2.heap.size := fun b x hx => by
            by_cases hlt : x.1 < W5.heap.size
            · obtain ⟨b', x', hx', hxx⟩ := g6.new b x hx hlt
              have := (img4 b' x' hx').1
              omega
            · omega
          have hD6 : W6.heap[W2.heap.size]? = some (.deferred (some [])) := by
            rw [e6.out _ (by omega) (fun b x hx hxx => by have := (img4 b x hx).1; omega)]; exact hD5
          obtain ⟨W7, hW7⟩ : ∃ W7, W6.putObj W2.heap.size (.deferred none) = W7 := ⟨_, rfl⟩
          have oth7 : ∀ k, k ≠ W2.heap.size → W7.heap[k]? = W6.heap[k]? := fun k hk => by rw [← hW7]; exact World.putObj_heap_other hk
          have sz7 : W6.heap.size = W7.heap.size := by rw [← hW7]; simp
          have w7 : RW φ6 h' W7 := w6.off (fun b x hx => oth7 _ (img6 b x hx)) (by omega)
          have e26 : Ext φ2 W2 W6 := e5.trans e6 g5
          have e7 : Ext φ2 W2 W7 := e26.above sz7 (fun k hk => oth7 k (by omega)) (by rw [← hW7]; rfl) (by rw [← hW7]; rfl) (by rw [← hW7]; rfl)
          have s56 := e6.size
          have g27 : Grow φ2 φ6 W2 := g5.trans g6 (by omega)
          have gF : Grow φ φ6 W := (g1.trans g2 e1.size).trans g27 (Nat.le_trans e1.size e2.size)
          have eF : Ext φ W W7 := (e1.trans e2 g1).trans e7 (g1.trans g2 e1.size)
          obtain ⟨xs, hxs, hrx⟩ := results_ok (P := P) r6 w7 fn.results.toList rs us hrs hus
          have hrun : (results fn a6.tmps).run P W7 = .ok (if h : xs.toArray.size = 1 then xs.toArray[0] else .tuple xs.toArray) W7 := by
            unfold results
            rw [Array.mapM_eq_mapM_toList, Sem.run_bind, Sem.run_map]
            exact (congrArg (fun r => Result.andThen (Result.andThen r _) _) hxs).trans rfl
          show LeavesInM Fence.wide 0 P fn a6.tmps (CPost φ W (packR us) h') a6.defers .returning W6
          rw [d6]
          refine ⟨by simp, .inl ⟨W2.heap.size, W7, rfl, ?_, ?_⟩⟩
          · have := run_takeDeferred (P := P) hD6
            rw [hW7] at this; exact this
          · refine ⟨_, hrun, φ6, ?_, w7, gF, eF⟩
            have hl := hrx.length
            match us, xs, hrx, hl with
            | [], [], _, _ => simp [packR, RV]
            | [v1], [y], hrx, _ =>
              simp only [RVs] at hrx
              obtain ⟨y', ys', e, hy, _⟩ := hrx
              cases e
              simpa [packR] using hy
            | u1 :: u2 :: us, y1 :: y2 :: ys, hrx, _ =>
              simp only [packR, RV]
              exact ⟨(y1 :: y2 :: ys).toArray, by simp, by simpa using hrx⟩
      | _ => exact hp.elim

theorem runFR_nb (hm : Mono call) {f : FR} {args : List V} {h h' : H} {v : V} (e : runFR call lf f args h = some (v, h')) : h.nb ≤ h'.nb := by
  simp only [runFR, cond_eq_ite, Nat.beq_eq, len_eq] at e
  split at e
  case isFalse => cases e
  split at e
  case h_2 => cases e
  rename_i env1 h1 hr1
  split at e
  case h_2 => cases e
  rename_i env2 h2 hr2
  split at e
  case h_2 => cases e
  split at e
  case h_2 => cases e
  rename_i rr hrr
  split at e
  case h_2 => cases e
  rename_i env3 h3 hr3
  split at e
  case h_2 => cases e
  cases e
  have a1 := evK_nb hm _ _ _ _ hr1
  have a2 := evK_nb hm _ _ _ _ hr2
  have a3 := hm _ _ _ _ _ hrr
  have a4 := evK_nb hm _ _ _ _ hr3
  exact Nat.le_trans a1 (Nat.le_trans a2 (Nat.le_trans a3 a4))

/-- the calls of such a function, out of a table for what it calls -/
def callFR (f : Nat) (F : FR) (call : Call) (lf : Nat) : Call := fun g args h => bif Nat.beq g f then runFR call lf F args h else none

theorem callFR_ok (hmix : P.follows .mixedOrders = true) {f : Nat} {fn : Func} {s1 s2 s3 : List (List Nat)} {F : FR} (hf : P.funcs[f]? = some fn) (hn : (fn.name == "runtime.NumGoroutine") = false) (hc : cFR P G fn s1 s2 s3 = some F)
    (hcall : CallOK P G call) (hm : Mono call) : CallOK P G (callFR f F call lf) ∧ Mono (callFR f F call lf) := by
  refine ⟨fun g args h r h' e => ?_, fun g args h r h' e => ?_⟩
  · simp only [callFR, cond_eq_ite, Nat.beq_eq] at e
    split at e
    case isFalse => cases e
    rename_i hg
    subst hg
    refine ⟨⟨fn, hf, ?_, hn⟩, fun φ W vs g ha w => funcR_ok hcall hmix (plan_ok hm hcall) hf hc e g ha w⟩
    unfold cFR at hc
    split at hc
    · rename_i hb; rw [hb]; rfl
    · cases hc
  · simp only [callFR, cond_eq_ite] at e
    split at e
    · exact runFR_nb hm e
    · cases e

end

/-- the one, or else the other -/
def orC (a b : Call) : Call := fun f args h => match a f args h with
  | some r => some r
  | none => b f args h

theorem orC_ok {P : Program} {G : List Nat} {a b : Call} (ha : CallOK P G a ∧ Mono a) (hb : CallOK P G b ∧ Mono b) : CallOK P G (orC a b) ∧ Mono (orC a b) := by
  refine ⟨fun f args h r h' e => ?_, fun f args h r h' e => ?_⟩
  · unfold orC at e
    split at e
    · rename_i x hx; cases e; exact ha.1 _ _ _ _ _ hx
    · exact hb.1 _ _ _ _ _ e
  · unfold orC at e
    split at e
    · rename_i x hx; cases e; exact ha.2 _ _ _ _ _ hx
    · exact hb.2 _ _ _ _ _ e

/-- one known answer more, beside a call that is known -/
theorem MOK.mkB {P : Program} {G : List Nat} (hmix : P.follows .mixedOrders = true) {tab : Nat → Option F} (ht : TabOK P G tab) {base : Call} (hb : CallOK P G base ∧ Mono base) {lf n : Nat} {l : List M} (ok : MsOK P G l) {m : M}
    (e : evM (orC (memo l) base) tab lf n m.f m.args m.h = some (m.r, m.h')) : MOK P G m :=
  have h := orC_ok (memo_ok ok) hb
  ⟨_, evM_sound hmix ht lf h.1 h.2 n, evM_mono h.2 tab lf n, e⟩

end
end Go.Ev
namespace Go.Ev
noncomputable section

/-! a heap that is thinned out where a function returns -/

def memN : Nat → List Nat → Bool
  | _, [] => false
  | n, x :: l => Nat.beq n x || memN n l

/-- what was there at first, and what the answer leads to -/
def gcRet (nb0 : Nat) (r : V) (h : H) : H := ⟨h.nb, gcGo h.bl 100000 (upTo nb0 (rootsD r [])) .e, h.gr⟩

def evG (gs : List Nat) (mm : Call) (tab : Nat → Option F) (lf : Nat) : Nat → Call
  | 0, _, _, _ => none
  | n + 1, f, args, h => match mm f args h with
    | some r => some r
    | none => match tab f with
      | none => none
      | some fn => match runF (evG gs mm tab lf n) lf fn args h with
        | none => none
        | some r => bif memN f gs then some (r.1, gcRet h.nb r.1 r.2) else some r

/-! short words for trees -/
namespace T1
def q {α : Type} (x : α) : T α := .n .e (some x) .e
def l {α : Type} (a : T α) : T α := .n a none .e
def r {α : Type} (a : T α) : T α := .n .e none a
def w {α : Type} (a b : T α) : T α := .n a none b
def l' {α : Type} (a : T α) (x : α) : T α := .n a (some x) .e
def r' {α : Type} (x : α) (b : T α) : T α := .n .e (some x) b
def v {α : Type} (a : T α) (x : α) (b : T α) : T α := .n a (some x) b
end T1

theorem RW.gcRet {φ : Phi} {h : H} {W : World} (r : RW φ h W) (nb0 : Nat) (v : V) : RW φ (gcRet nb0 v h) W :=
  r.less ⟨rfl, rfl, fun b k hb => by
    rcases gcGo_sub _ _ _ _ _ _ hb with h' | h'
    · rw [T.get_e] at h'; cases h'
    · exact ⟨k, h', rfl, rfl, rfl, fun j v hv => .inr hv⟩⟩

theorem evG_mono {gs : List Nat} {mm : Call} (hmm : Mono mm) (tab : Nat → Option F) (lf : Nat) : ∀ n, Mono (evG gs mm tab lf n) := by
  intro n
  induction n with
  | zero => intro f args h r h' e; simp [evG] at e
  | succ n ih =>
    intro f args h r h' e
    simp only [evG, cond_eq_ite] at e
    split at e
    · rename_i x hx; cases e; exact hmm _ _ _ _ _ hx
    · split at e
      · cases e
      · split at e
        · cases e
        · rename_i x hx
          split at e
          · cases e; exact runF_nb ih (h' := x.2) (v := x.1) hx
          · cases e; exact runF_nb ih hx

theorem evG_sound {P : Program} {G : List Nat} (hmix : P.follows .mixedOrders = true) {gs : List Nat} {tab : Nat → Option F} (ht : TabOK P G tab) (lf : Nat) {mm : Call} (hmm : CallOK P G mm) (hmo : Mono mm) : ∀ n, CallOK P G (evG gs mm tab lf n) := by
  intro n
  induction n with
  | zero => intro f args h r h' hv; simp [evG] at hv
  | succ n ih =>
    intro f args h r h' hv
    simp only [evG, cond_eq_ite] at hv
    split at hv
    · rename_i x hx; cases hv; exact hmm _ _ _ _ _ hx
    · split at hv
      · cases hv
      rename_i F hF
      obtain ⟨fn, hs, h1, h2, h3⟩ := ht f F hF
      split at hv
      · cases hv
      rename_i x hx
      refine ⟨⟨fn, h1, ?_, h3⟩, fun φ W vs g ha w => ?_⟩
      · unfold cF at h2
        split at h2
        · cases h2
        · rename_i b hb; rw [hb]; rfl
      · have key := func_ok ih hmix (plan_ok (evG_mono hmo tab lf n) ih) h1 h2 (v := x.1) (h' := x.2) hx g ha w
        split at hv
        · cases hv
          refine key.mono fun e W' hp => ?_
          cases e with
          | returned z =>
            obtain ⟨φ', a1, a2, a3, a4⟩ := hp
            exact ⟨φ', a1, a2.gcRet _ _, a3, a4⟩
          | _ => exact hp.elim
        · cases hv; exact key

/-- one known answer more -/
theorem MOK.mkG {P : Program} {G : List Nat} (hmix : P.follows .mixedOrders = true) {tab : Nat → Option F} (ht : TabOK P G tab) {base : Call} (hb : CallOK P G base ∧ Mono base) {gs : List Nat} {lf n : Nat} {l : List M} (ok : MsOK P G l) {m : M}
    (e : evG gs (orC (memo l) base) tab lf n m.f m.args m.h = some (m.r, m.h')) : MOK P G m :=
  have h := orC_ok (memo_ok ok) hb
  ⟨_, evG_sound hmix ht lf h.1 h.2 n, evG_mono h.2 tab lf n, e⟩

end
end Go.Ev
namespace Go.Ev
noncomputable section

/-! a call's arguments: whole blocks of memory, only read -/

/-- a cell, as it stands -/
def absV : Value → V
  | .int k n => .i k n
  | .bool b => .b b
  | _ => .z

def absB (W : World) (b : Nat) : List V := match W.heap[b]? with
  | some (.cells c _ _) => c.toList.map absV
  | _ => []

def absF (W : World) (bs : List Nat) (b : Nat) : Option (Nat × Nat × Nat) := if b ∈ bs then some (b, 0, (absB W b).length) else none

/-- the blocks that are listed, each under its own name -/
def entryPhi (W : World) (bs : List Nat) : Phi := ⟨absF W bs, fun wb => decide (wb ∈ bs)⟩

def entryT (W : World) : List Nat → T Blk
  | [] => .e
  | b :: bs => (entryT W bs).set b ⟨absB W b, b, roC⟩

def entryH (W : World) (bs : List Nat) : H := ⟨W.heap.size, entryT W bs, .e⟩

theorem entryT_get (W : World) : ∀ (bs : List Nat) (b : Nat), (entryT W bs).get b = if b ∈ bs then some ⟨absB W b, b, roC⟩ else none := by
  intro bs
  induction bs with
  | nil => intro b; rfl
  | cons x bs ih =>
    intro b
    simp only [entryT, T.get_set, ih, List.mem_cons]
    by_cases h : b = x
    · subst h; simp
    · simp [h]

theorem entryPhi_at {W : World} {bs : List Nat} {b : Nat} {c : Array Value} {e : TypeId} {fz : Nat × Nat} (hb : b ∈ bs) (hc : W.heap[b]? = some (.cells c e fz)) : entryPhi W bs b = some (b, 0, c.size) := by
  show absF W bs b = _
  simp [absF, hb, absB, hc]

theorem entry_rw {W : World} {bs : List Nat} (hbs : ∀ b ∈ bs, ∃ c e fz, W.heap[b]? = some (.cells c e fz)) : RW (entryPhi W bs) (entryH W bs) W where
  blk b k hb := by
    simp only [entryH, entryT_get] at hb
    split at hb
    · rename_i hm
      cases hb
      obtain ⟨c, e, fz, hc⟩ := hbs b hm
      have hB : absB W b = c.toList.map absV := by simp [absB, hc]
      refine ⟨(b, 0, c.size), c, e, fz, entryPhi_at hm hc, hc, by simp, by simp [hB], .inl ⟨by simp [entryPhi, hm], Nat.le_refl _⟩, fun j v hv => ?_⟩
      rw [hB, List.getElem?_map] at hv
      cases hj : c.toList[j]? with
      | none => rw [hj] at hv; cases hv
      | some y =>
        rw [hj] at hv
        simp only [Option.map_some, Option.some.injEq] at hv
        have hy : c[0 + j]? = some y := by simpa using hj
        subst hv
        unfold absV
        split
        · exact .inr ⟨rfl, _, hy, by simp [RV]⟩
        · exact .inr ⟨rfl, _, hy, by simp [RV]⟩
        · exact .inl rfl
    · cases hb
  img b x hx := by
    have hx' : absF W bs b = some x := hx
    simp only [absF] at hx'
    split at hx'
    · rename_i hm
      cases hx'
      obtain ⟨c, e, fz, hc⟩ := hbs b hm
      obtain ⟨hlt, _⟩ := Array.getElem?_eq_some_iff.1 hc
      exact ⟨hlt, hlt⟩
    · cases hx'
  fresh b hb := by
    simp only [entryH, entryT_get]
    rw [if_neg]
    intro hm
    obtain ⟨c, e, fz, hc⟩ := hbs b hm
    obtain ⟨hlt, _⟩ := Array.getElem?_eq_some_iff.1 hc
    have : W.heap.size ≤ b := hb
    omega
  alias b1 b2 k1 k2 x1 x2 h1 h2 e1 e2 hw := by
    have e1' : absF W bs b1 = some x1 := e1
    have e2' : absF W bs b2 = some x2 := e2
    simp only [absF] at e1' e2'
    split at e1' <;> cases e1'
    split at e2' <;> cases e2'
    have hw' : b1 = b2 := hw
    subst hw'
    rw [h1] at h2; cases h2
    exact ⟨rfl, rfl⟩
  grp b k hb := by
    simp only [entryH, entryT_get] at hb
    split at hb
    · cases hb; exact .inl rfl
    · cases hb
  ros wb h := by
    have hm : wb ∈ bs := by simpa [entryPhi] using h
    obtain ⟨c, e, fz, hc⟩ := hbs wb hm
    obtain ⟨hlt, _⟩ := Array.getElem?_eq_some_iff.1 hc
    exact hlt

theorem entry_gok {W : World} {G bs : List Nat} (h : ∀ g ∈ G, g ∈ bs) : GOK G (entryPhi W bs) := fun g hg => ⟨(absB W g).length, by
  show absF W bs g = _
  simp only [absF, if_pos (h g hg)]⟩

/-- what was there is as it was, to the block -/
structure Stays (W W' : World) : Prop where
  size : W.heap.size ≤ W'.heap.size
  old : ∀ wb : Nat, wb < W.heap.size → W'.heap[wb]? = W.heap[wb]?
  tape : W'.tape = W.tape
  os : W'.os = W.os
  output : W'.output = W.output

theorem stays_of_ext {φ : Phi} {W W' : World} (h : Ext φ W W') (hro : ∀ b x, φ b = some x → φ.ro x.1 = true) : Stays W W' :=
  ⟨h.size, fun wb hwb => h.out wb hwb fun b x e hx => by rw [← hx]; exact hro b x e, h.tape, h.os, h.output⟩

theorem entry_stays {W W' : World} {bs : List Nat} (h : Ext (entryPhi W bs) W W') : Stays W W' :=
  stays_of_ext h fun b x e => by
    have e' : absF W bs b = some x := e
    simp only [absF] at e'
    split at e'
    · rename_i hm; cases e'; simpa [entryPhi] using hm
    · cases e'

/-! a closed call that reads listed blocks alone, at whatever memory -/

/-- a value that leads nowhere -/
def leafB : V → Bool
  | .i _ _ => true
  | .b _ => true
  | .s _ => true
  | .pn => true
  | .sn => true
  | _ => false

theorem RV.of_leaf {φ ψ : Phi} {v : V} {y : Value} (h : leafB v = true) (r : RV φ v y) : RV ψ v y := by
  cases v <;> simp only [leafB, Bool.false_eq_true] at h <;> simpa only [RV] using r

/-- the call of 'f' without arguments, where the blocks of 'bs' hold what 'h0' says -/
def closedCall (f : Nat) (bs : List (Nat × List V)) : Call := fun g args h =>
  match args with
  | [] => bif Nat.beq g f && bs.all (fun p => match h.bl.get p.1 with
      | some k => V.eqvs p.2 (takeN k.cells (len p.2))
      | none => false) then some (.b true, h) else none
  | _ => none

def closedT : List (Nat × List V) → T Blk
  | [] => .e
  | p :: bs => (closedT bs).set p.1 ⟨p.2, p.1, roC⟩

theorem closedT_get : ∀ (bs : List (Nat × List V)) (b : Nat) (k : Blk), (closedT bs).get b = some k → ∃ p ∈ bs, p.1 = b ∧ k = ⟨p.2, b, roC⟩ := by
  intro bs
  induction bs with
  | nil => intro b k h; cases h
  | cons x bs ih =>
    intro b k h
    simp only [closedT, T.get_set] at h
    split at h
    · rename_i e
      cases h
      exact ⟨x, by simp, e.symm, by rw [e]⟩
    · obtain ⟨p, hp, h1, h2⟩ := ih b k h
      exact ⟨p, by simp [hp], h1, h2⟩

theorem closedCall_ok {P : Program} {G : List Nat} {f : Nat} {bs : List (Nat × List V)} {nb : Nat} (hG : ∀ b : Nat, b ∈ bs.map (·.1) ↔ b ∈ G) (hnb : ∀ b ∈ G, b < nb) (hleaf : ∀ p ∈ bs, p.2.all leafB = true) {call : Call} (hc : CallOK P G call) {h' : H}
    (he : call f [] ⟨nb, closedT bs, .e⟩ = some (.b true, h')) : CallOK P G (closedCall f bs) ∧ Mono (closedCall f bs) := by
  refine ⟨fun g args h r h2 e => ?_, fun g args h r h2 e => ?_⟩
  · unfold closedCall at e
    split at e
    · simp only [cond_eq_ite] at e
      split at e
      · rename_i hh
        cases e
        simp only [Bool.and_eq_true, Nat.beq_eq, List.all_eq_true] at hh
        obtain ⟨rfl, hall⟩ := hh
        obtain ⟨hent, hcall⟩ := hc _ _ _ _ _ he
        refine ⟨hent, fun φ W vs hg ha w => ?_⟩
        simp only [RVs] at ha
        -- the map of the closed call
        let ψ : Phi := ⟨fun b => if b ∈ G then φ b else none, fun wb => decide (wb ∈ G)⟩
        have at_ : ∀ g, g ∈ G → ∃ n, φ g = some (g, 0, n) := hg
        have hψ : ∀ b x, ψ b = some x → b ∈ G ∧ φ b = some x := by
          intro b x hx
          simp only [ψ] at hx
          split at hx
          · exact ⟨by assumption, hx⟩
          · cases hx
        have hx1 : ∀ b x, ψ b = some x → x.1 = b ∧ x.2.1 = 0 ∧ b ∈ G := by
          intro b x hx
          obtain ⟨hm, hφ⟩ := hψ b x hx
          obtain ⟨n, hn⟩ := at_ b hm
          rw [hn] at hφ; cases hφ
          exact ⟨rfl, rfl, hm⟩
        have hgW : ∀ g, g ∈ G → g < W.heap.size := by
          intro g hgm
          obtain ⟨n, hn⟩ := at_ g hgm
          exact (w.img _ _ hn).2
        have rw0 : RW ψ ⟨nb, closedT bs, .e⟩ W := by
          refine ⟨fun b k hb => ?_, fun b x hx => ?_, fun b hb => ?_, fun b1 b2 k1 k2 x1 x2 h1 h2 e1 e2 hw => ?_, fun b k hb => ?_, fun wb h => ?_⟩
          · obtain ⟨p, hp, rfl, rfl⟩ := closedT_get bs b k hb
            have hbG : p.1 ∈ G := (hG _).1 (List.mem_map_of_mem hp)
            have hq := hall p hp
            split at hq
            · rename_i k2 hk2
              obtain ⟨x, c, e, fz, hx, hcc, h1, h2, h3, h4⟩ := w.blk p.1 k2 hk2
              have hq' := V.eqvs_eq _ _ hq
              rw [takeN_eq, len_eq] at hq'
              obtain ⟨n, hn⟩ := at_ _ hbG
              rw [hn] at hx; cases hx
              refine ⟨(p.1, 0, n), c, e, fz, by simp only [ψ, if_pos hbG]; exact hn, hcc, h1, ?_, .inl ⟨by simp [ψ, hbG], Nat.le_refl _⟩, fun j v hv => ?_⟩
              · have := congrArg List.length hq'
                rw [List.length_take] at this
                have h2' : k2.cells.length ≤ n := h2
                show p.2.length ≤ n
                omega
              · have hv' : p.2[j]? = some v := hv
                rw [hq', List.getElem?_take] at hv'
                split at hv'
                · rcases h4 j v hv' with h5 | ⟨h5, y, hy, hr⟩
                  · exact .inl h5
                  · refine .inr ⟨h5, y, hy, ?_⟩
                    exact RV.of_leaf (List.all_eq_true.1 (hleaf p hp) v (List.mem_of_getElem? hv)) hr
                · cases hv'
            · cases hq
          · obtain ⟨h1, _, h3⟩ := hx1 b x hx
            rw [h1]; exact ⟨hnb b h3, hgW b h3⟩
          · cases e : (closedT bs).get b with
            | none => rfl
            | some k =>
              obtain ⟨p, hp, rfl, _⟩ := closedT_get bs b k e
              have := hnb _ ((hG _).1 (List.mem_map_of_mem hp))
              have hb' : nb ≤ p.1 := hb
              omega
          · obtain ⟨a1, a2, _⟩ := hx1 _ _ e1
            obtain ⟨b1', b2', _⟩ := hx1 _ _ e2
            have : b1 = b2 := by omega
            subst this
            rw [h1] at h2; cases h2
            rw [e1] at e2; cases e2
            exact ⟨rfl, rfl⟩
          · obtain ⟨p, hp, rfl, rfl⟩ := closedT_get bs b k hb
            exact .inl rfl
          · exact hgW _ (by simpa [ψ] using h)
        have gok : GOK G ψ := fun g hgm => by
          obtain ⟨n, hn⟩ := at_ g hgm
          exact ⟨n, by simp only [ψ, if_pos hgm]; exact hn⟩
        refine (hcall ψ W vs gok (by simpa only [RVs] using ha) rw0).mono fun e W' hp => ?_
        cases e with
        | returned z =>
          obtain ⟨φ', hr, _, _, hext⟩ := hp
          have hst : Stays W W' := stays_of_ext hext fun b x hx => by
            obtain ⟨h1, _, h3⟩ := hx1 b x hx
            simpa [ψ, h1] using h3
          refine ⟨φ, by simpa only [RV] using hr, w.push hst.old hst.size, Grow.refl _ _, ⟨hst.size, fun wb hwb _ => hst.old wb hwb, fun wb c e fz hc => ⟨c, by
            rw [hst.old wb]
            · exact hc
            · obtain ⟨hlt, _⟩ := Array.getElem?_eq_some_iff.1 hc
              exact hlt, rfl⟩, hst.tape, hst.os, hst.output⟩⟩
        | _ => exact hp.elim
      · cases e
    · cases e
  · unfold closedCall at e
    split at e
    · simp only [cond_eq_ite] at e
      split at e
      · cases e; exact Nat.le_refl _
      · cases e
    · cases e

end
end Go.Ev
namespace Go.Ev
noncomputable section

/-! heaps that a call builds up, beside blocks that it only reads -/

/-- the groups are the call's own -/
structure Grp (n0 : Nat) (h : H) : Prop where
  nb : n0 ≤ h.nb
  gr : ∀ g l, h.gr.get g = some l → g < h.nb ∧ (n0 ≤ g → ∀ x ∈ l, n0 ≤ x)

/-- what stood ahead of n0 stands -/
structure Keep (n0 : Nat) (h h' : H) : Prop where
  nb : h.nb ≤ h'.nb
  get : ∀ b, b < n0 → h'.bl.get b = h.bl.get b

theorem Keep.refl (n0 : Nat) (h : H) : Keep n0 h h := ⟨Nat.le_refl _, fun _ _ => rfl⟩
theorem Keep.trans {n0 : Nat} {h h1 h2 : H} (a : Keep n0 h h1) (b : Keep n0 h1 h2) : Keep n0 h h2 :=
  ⟨Nat.le_trans a.nb b.nb, fun x hx => (b.get x hx).trans (a.get x hx)⟩

/-- all that there is may be taken for old -/
theorem Grp.lift {n0 : Nat} {h : H} (g : Grp n0 h) : Grp h.nb h := ⟨Nat.le_refl _, fun x l hl => ⟨(g.gr x l hl).1, fun hx => by have := (g.gr x l hl).1; omega⟩⟩
theorem Keep.mono {n0 n1 : Nat} {h h' : H} (k : Keep n1 h h') (hn : n0 ≤ n1) : Keep n0 h h' := ⟨k.nb, fun b hb => k.get b (by omega)⟩

theorem entry_grp (W : World) (bs : List Nat) : Grp W.heap.size (entryH W bs) := ⟨Nat.le_refl _, fun g l h => by cases h⟩

theorem alloc_old {h : H} {cs : List V} {b : Nat} (hb : b < h.nb) : (h.alloc cs).bl.get b = h.bl.get b := by
  simp only [H.alloc, T.get_set]
  rw [if_neg (by omega)]
theorem alloc_new {h : H} {cs : List V} : (h.alloc cs).bl.get h.nb = some ⟨cs, h.nb, 0⟩ := by
  simp only [H.alloc, T.get_set, if_pos]
theorem alloc_nb {h : H} {cs : List V} : (h.alloc cs).nb = h.nb + 1 := rfl
theorem Grp.alloc {n0 : Nat} {h : H} (g : Grp n0 h) (cs : List V) : Grp n0 (h.alloc cs) :=
  ⟨Nat.le_succ_of_le g.nb, fun x l hl => by
    obtain ⟨h1, h2⟩ := g.gr x l hl
    exact ⟨Nat.lt_succ_of_lt h1, h2⟩⟩
theorem Keep.alloc {n0 : Nat} {h : H} (g : Grp n0 h) (cs : List V) : Keep n0 h (h.alloc cs) :=
  ⟨Nat.le_succ _, fun b hb => alloc_old (by have := g.nb; omega)⟩

/-- a slice that the call has built: what stands in it -/
def Own (n0 : Nat) (h : H) (v : V) (sz : Nat) (cs : List V) : Prop :=
  (v = .sn ∧ cs = []) ∨ ∃ b g l ex, v = .sl b 0 l l sz ex ∧ h.bl.get b = some ⟨cs, g, 0⟩ ∧ (n0 ≤ g ∧ g < h.nb) ∧ (n0 ≤ b ∧ b < h.nb) ∧ cs.length = l * sz ∧ ∀ c ∈ cs, c ≠ .z

theorem Own.alloc {n0 : Nat} {h : H} {v : V} {sz : Nat} {cs : List V} (o : Own n0 h v sz cs) (ds : List V) : Own n0 (h.alloc ds) v sz cs := by
  rcases o with o | ⟨b, g, l, ex, h1, h2, h3, h4, h5, h6⟩
  · exact .inl o
  · exact .inr ⟨b, g, l, ex, h1, by rw [alloc_old h4.2]; exact h2, ⟨h3.1, Nat.lt_succ_of_lt h3.2⟩, ⟨h4.1, Nat.lt_succ_of_lt h4.2⟩, h5, h6⟩

theorem Own.keep {n0 : Nat} {h h' : H} {v : V} {sz : Nat} {cs : List V} (o : Own n0 h v sz cs) (k : Keep h.nb h h') : Own n0 h' v sz cs := by
  rcases o with o | ⟨b, g, l, ex, h1, h2, h3, h4, h5, h6⟩
  · exact .inl o
  · have := k.nb
    exact .inr ⟨b, g, l, ex, h1, by rw [k.get b h4.2]; exact h2, ⟨h3.1, by omega⟩, ⟨h4.1, by omega⟩, h5, h6⟩

theorem takeC_take : ∀ (l : List V) (n : Nat), n ≤ l.length → (∀ c ∈ l, c ≠ .z) → takeC l n = some (l.take n) := by
  intro l
  induction l with
  | nil => intro n h _; simp only [List.length_nil] at h; obtain rfl : n = 0 := (by omega); rfl
  | cons x xs ih =>
    intro n h hz
    cases n with
    | zero => rfl
    | succ n =>
      have hx : x ≠ .z := hz x (by simp)
      have := ih n (by simpa using h) (fun c hc => hz c (by simp [hc]))
      simp only [takeC, Nat.add_one_sub_one, this, List.take_succ_cons]
      cases x <;> first | rfl | exact (hx rfl).elim

theorem ldn_own {h : H} {b o n g dl : Nat} {cs : List V} (hb : h.bl.get b = some ⟨cs, g, dl⟩) (hl : o + n ≤ cs.length) (hz : ∀ c ∈ cs, c ≠ .z) : h.ldn b o n = some ((cs.drop o).take n) := by
  unfold H.ldn
  rw [hb]
  simp only [dropN_eq]
  exact takeC_take _ _ (by rw [List.length_drop]; omega) (fun c hc => hz c (List.mem_of_mem_drop hc))

/-- .. of a part of which alone it is known that nothing is poisoned -/
theorem takeC_some : ∀ (l : List V) (n : Nat) (m : List V), l.take n = m → m.length = n → (∀ c ∈ m, c ≠ .z) → takeC l n = some m := by
  intro l
  induction l with
  | nil => intro n m h hl _; simp only [List.take_nil] at h; subst h; simp only [List.length_nil] at hl; subst hl; rfl
  | cons x xs ih =>
    intro n m h hl hz
    cases n with
    | zero => simp only [List.take_zero] at h; subst h; rfl
    | succ n =>
      rw [List.take_succ_cons] at h
      subst h
      simp only [List.length_cons, Nat.add_right_cancel_iff] at hl
      have hx : x ≠ .z := hz x (by simp)
      have := ih n _ rfl hl (fun c hc => hz c (by simp [hc]))
      simp only [takeC, Nat.add_one_sub_one, this]
      cases x <;> first | rfl | exact (hx rfl).elim

theorem poisonL_other {skip pos n : Nat} {l : List Nat} {bl : T Blk} {b : Nat} (hb : b ∉ l) : (poisonL skip pos n l bl).get b = bl.get b := by
  obtain ⟨h1, h2⟩ := poisonL_ok skip pos n l bl
  cases e : (poisonL skip pos n l bl).get b with
  | none => exact ((h1 b).1 e).symm
  | some k' =>
    obtain ⟨k, hk, hh⟩ := h2 b k' e
    rcases hh with ⟨_, rfl⟩ | ⟨_, ⟨_, rfl⟩ | ⟨hm, _⟩⟩
    · exact hk.symm
    · exact hk.symm
    · exact (hb hm).elim

theorem append_own {n0 : Nat} {h : H} {v : V} {sz : Nat} {cs new : List V} {bytes n : Nat} (g : Grp n0 h) (o : Own n0 h v sz cs) (hn : n ≠ 0) (hnew : new.length = n * sz) (hnz : ∀ c ∈ new, c ≠ .z)
    (hb : ∀ l, cs.length = l * sz → (l + n) * bytes ≤ 140737488355328 ∧ l + n ≤ 4294967295) :
    ∃ v' h', h.append v sz bytes n new = some (v', h') ∧ Grp n0 h' ∧ Keep n0 h h' ∧ Own n0 h' v' sz (cs ++ new) := by
  unfold H.append
  simp only [cond_eq_ite, Nat.beq_eq, hn, if_false]
  rcases o with ⟨rfl, rfl⟩ | ⟨b, gp, l, ex, rfl, h2, h3, h4, h5, h6⟩
  · obtain ⟨h1, h2⟩ := hb 0 (by simp)
    rw [Nat.zero_add] at h1 h2
    refine ⟨.sl h.nb 0 n n sz false, h.alloc new, by simp only [Nat.ble_eq, Bool.and_eq_true, h1, h2, and_self, if_true], g.alloc _, Keep.alloc g _, .inr ⟨h.nb, h.nb, n, false, rfl, ?_, ⟨g.nb, by simp [alloc_nb]⟩, ⟨g.nb, by simp [alloc_nb]⟩, by simpa using hnew, by simpa using hnz⟩⟩
    rw [alloc_new]; rfl
  · obtain ⟨b1, b2⟩ := hb l h5
    have hld : (if l = 0 then some [] else h.ldn b 0 (l * sz)) = some cs := by
      split
      · rename_i e; subst e
        rw [Nat.zero_mul] at h5
        rw [List.eq_nil_of_length_eq_zero h5]
      · rw [ldn_own h2 (by omega) h6]
        simp [← h5]
    have hnl : ¬ (l + n ≤ l) := by omega
    simp only [Nat.ble_eq, if_true, hnl, if_false, Bool.and_eq_true, b1, b2, and_self, hld, app_eq]
    have hcs : ∀ c ∈ cs ++ new, c ≠ .z := by
      intro c hc
      rcases List.mem_append.1 hc with hc | hc
      · exact h6 c hc
      · exact hnz c hc
    have hlen : (cs ++ new).length = (l + n) * sz := by rw [List.length_append, h5, hnew, Nat.add_mul]
    cases ex with
    | true =>
      refine ⟨_, _, rfl, g.alloc _, Keep.alloc g _, .inr ⟨h.nb, h.nb, l + n, false, rfl, alloc_new, ⟨g.nb, by simp [alloc_nb]⟩, ⟨g.nb, by simp [alloc_nb]⟩, hlen, hcs⟩⟩
    | false =>
      have hro : ¬ (roC ≤ 0) := by decide
      simp only [Bool.false_eq_true, if_false, h2, hro, Nat.zero_add, Nat.add_zero]
      generalize hm : memOf (h.gr.get gp) = mem
      have hmem : ∀ x ∈ mem, n0 ≤ x := by
        intro x hx
        cases e : h.gr.get gp with
        | none => rw [e] at hm; simp only [memOf] at hm; subst hm; cases hx
        | some q => rw [e] at hm; simp only [memOf] at hm; subst hm; exact (g.gr gp q e).2 h3.1 x hx
      refine ⟨_, _, rfl, ⟨by have := g.nb; show n0 ≤ h.nb + 1; omega, fun x q hq => ?_⟩, ⟨Nat.le_succ _, fun b' hb' => ?_⟩, .inr ⟨h.nb, gp, l + n, false, rfl, ?_, ⟨h3.1, by have := h3.2; show gp < h.nb + 1; omega⟩, ⟨g.nb, Nat.lt_succ_self _⟩, hlen, hcs⟩⟩
      · simp only [T.get_set] at hq
        split at hq
        · rename_i e
          cases hq
          subst e
          refine ⟨by have := h3.2; show x < h.nb + 1; omega, fun _ y hy => ?_⟩
          rcases List.mem_cons.1 hy with rfl | hy
          · exact g.nb
          · exact hmem y hy
        · obtain ⟨a1, a2⟩ := g.gr x q hq
          exact ⟨Nat.lt_succ_of_lt a1, a2⟩
      · have hbn := g.nb
        simp only [T.get_set]
        rw [if_neg (by omega), poisonL_other]
        intro hx
        rcases List.mem_cons.1 hx with e | hx
        · have := h3.1; omega
        · have := hmem b' hx; omega
      · simp only [T.get_set, if_pos]

end
end Go.Ev
namespace Go.Ev
noncomputable section

/-! runs at values that are not known -/

def lenV : V → Option V
  | .sn => some (.i .i64 0)
  | .sl _ _ l _ _ _ => some (.i .i64 (.ofNat l))
  | _ => none

theorem evLen_eq (x : O) (env : Env) : evLen x env = match x.ev env with
    | none => none
    | some v => lenV v := by
  unfold evLen
  cases x.ev env with
  | none => rfl
  | some v => cases v <;> rfl

def ixV (sz : Nat) (v : V) (i : Nat) : Option V := match v with
  | .sl b o l _ sz' _ => bif Nat.beq sz sz' && Nat.ble (i + 1) l then some (.p b (o + i * sz)) else none
  | _ => none

theorem evIxS_eq (sz : Nat) (x i : O) (env : Env) : evIxS sz x i env = match x.ev env with
    | none => none
    | some v => match i.nat env with
      | none => none
      | some i => ixV sz v i := by
  unfold evIxS
  cases x.ev env with
  | none => rfl
  | some v => cases v <;> cases i.nat env <;> rfl

theorem ble_of {a b : Nat} (h : a ≤ b) : Nat.ble a b = true := by rw [Nat.ble_eq]; exact h
theorem ksame_self (k : IntKind) : ksame k k = true := by simp [ksame]
theorem eqB_self (x : Int) : eqB x x = true := by rw [eqB_eq]; simp

/-- cells that can be read -/
def CellsAt (h : H) (b o : Nat) (vs : List V) : Prop := ∃ k, h.bl.get b = some k ∧ (k.cells.drop o).take vs.length = vs ∧ ∀ c ∈ vs, c ≠ .z

theorem CellsAt.ldn {h : H} {b o : Nat} {vs : List V} (c : CellsAt h b o vs) : h.ldn b o vs.length = some vs := by
  obtain ⟨k, h1, h2, h3⟩ := c
  unfold H.ldn
  rw [h1]
  simp only [dropN_eq]
  exact takeC_some _ _ _ h2 rfl h3

theorem CellsAt.ld1 {h : H} {b o : Nat} {vs : List V} (c : CellsAt h b o vs) {j : Nat} {v : V} (hv : vs[j]? = some v) : h.ld1 b (o + j) = some v := by
  obtain ⟨k, h1, h2, h3⟩ := c
  have hz := h3 v (List.mem_of_getElem? hv)
  unfold H.ld1
  rw [h1]
  simp only [nth_eq]
  have : k.cells[o + j]? = some v := by
    rw [← h2] at hv
    rw [List.getElem?_take] at hv
    split at hv
    · rw [List.getElem?_drop] at hv; exact hv
    · cases hv
  rw [this]
  cases v <;> first | rfl | exact (hz rfl).elim

/-- a slice that can be read: its rows -/
def Reads (n0 : Nat) (h : H) (v : V) (sz n : Nat) (row : Nat → List V) : Prop :=
  lenV v = some (.i .i64 (.ofNat n)) ∧ ∀ k, k < n → ∃ b o, b < n0 ∧ ixV sz v k = some (.p b o) ∧ (row k).length = sz ∧ CellsAt h b o (row k)

theorem CellsAt.keep {n0 : Nat} {h h' : H} (k : Keep n0 h h') {b o : Nat} {vs : List V} (hb : b < n0) (c : CellsAt h b o vs) : CellsAt h' b o vs := by
  obtain ⟨x, h1, h2⟩ := c
  exact ⟨x, by rw [k.get b hb]; exact h1, h2⟩

theorem Reads.mono {n0 n1 : Nat} {h : H} {v : V} {sz n : Nat} {row : Nat → List V} (r : Reads n0 h v sz n row) (hn : n0 ≤ n1) : Reads n1 h v sz n row :=
  ⟨r.1, fun i hi => by
    obtain ⟨b, o, h1, h2⟩ := r.2 i hi
    exact ⟨b, o, by omega, h2⟩⟩

theorem Reads.keep {n0 : Nat} {h h' : H} (k : Keep n0 h h') {v : V} {sz n : Nat} {row : Nat → List V} (r : Reads n0 h v sz n row) : Reads n0 h' v sz n row :=
  ⟨r.1, fun i hi => by
    obtain ⟨b, o, h1, h2, h3, h4⟩ := r.2 i hi
    exact ⟨b, o, h1, h2, h3, h4.keep k h1⟩⟩

/-- of the call's own slice: rows of the same length -/
theorem Own.reads {n0 : Nat} {h : H} {v : V} {sz n : Nat} {cs : List V} {row : Nat → List V} (o : Own n0 h v sz cs) (hsz : 0 < sz) (hn : cs.length = n * sz) (hrow : ∀ k, k < n → (cs.drop (k * sz)).take sz = row k ∧ (row k).length = sz) : Reads h.nb h v sz n row := by
  rcases o with ⟨rfl, rfl⟩ | ⟨b, g, l, ex, rfl, h2, h3, h4, h5, h6⟩
  · have : n = 0 := by
      simp only [List.length_nil] at hn
      rcases Nat.mul_eq_zero.1 hn.symm with h | h
      · exact h
      · omega
    subst this
    exact ⟨rfl, fun k hk => by omega⟩
  · have hl : l = n := Nat.eq_of_mul_eq_mul_right hsz (h5.symm.trans hn)
    subst hl
    refine ⟨rfl, fun k hk => ⟨b, 0 + k * sz, h4.2, ?_, (hrow k hk).2, ⟨_, h2, ?_, fun c hc => ?_⟩⟩⟩
    · have : Nat.ble (k + 1) l = true := ble_of (by omega)
      simp [ixV, this]
    · rw [(hrow k hk).2, Nat.zero_add]; exact (hrow k hk).1
    · rw [← (hrow k hk).1] at hc
      exact h6 c (List.mem_of_mem_drop (List.mem_of_mem_take hc))

theorem putN_zero {α : Type} : ∀ (l m : List α), l.length = m.length → putN l 0 m = m := by
  intro l
  induction l with
  | nil => intro m h; cases m with
    | nil => rfl
    | cons => simp at h
  | cons x xs ih =>
    intro m h
    cases m with
    | nil => simp at h
    | cons y ys =>
      simp only [List.length_cons, Nat.add_right_cancel_iff] at h
      have := ih ys h
      show y :: putN xs 0 ys = y :: ys
      rw [this]

/-- a variable that is laid and then set -/
theorem stn_fresh {n0 : Nat} {h : H} (g : Grp n0 h) {z cs : List V} (hl : z.length = cs.length) (hz : ∀ c ∈ cs, c ≠ .z) :
    ∃ h2, (h.alloc z).stn h.nb 0 cs = some h2 ∧ h2.nb = h.nb + 1 ∧ Grp n0 h2 ∧ Keep n0 h h2 ∧ CellsAt h2 h.nb 0 cs ∧ ∀ v sz ds, Own n0 h v sz ds → Own n0 h2 v sz ds := by
  have hg : h.gr.get h.nb = none := by
    cases e : h.gr.get h.nb with
    | none => rfl
    | some l => have := (g.gr _ _ e).1; omega
  have hst : (h.alloc z).stn h.nb 0 cs = some ⟨h.nb + 1, (h.alloc z).bl.set h.nb ⟨cs, h.nb, 0⟩, h.gr⟩ := by
    unfold H.stn
    rw [alloc_new]
    have h1 : Nat.ble (0 + cs.length) z.length = true := ble_of (by omega)
    have h2 : Nat.blt 0 roC = true := by decide
    simp only [len_eq, h1, h2, Bool.and_self, cond_true, putN_zero z cs hl]
    simp only [H.alloc, hg]
  refine ⟨_, hst, rfl, ⟨Nat.le_succ_of_le g.nb, fun x l hl => ?_⟩, ⟨Nat.le_succ _, fun b hb => ?_⟩, ⟨⟨cs, h.nb, 0⟩, by simp only [T.get_set, if_pos], by simp, hz⟩, fun v sz ds o => ?_⟩
  · obtain ⟨a1, a2⟩ := g.gr x l hl
    exact ⟨Nat.lt_succ_of_lt a1, a2⟩
  · have := g.nb
    simp only [T.get_set]
    rw [if_neg (by omega)]
    exact alloc_old (by omega)
  · rcases o with o | ⟨b, gp, l, ex, h1, h2, h3, h4, h5, h6⟩
    · exact .inl o
    · refine .inr ⟨b, gp, l, ex, h1, ?_, ⟨h3.1, Nat.lt_succ_of_lt h3.2⟩, ⟨h4.1, Nat.lt_succ_of_lt h4.2⟩, h5, h6⟩
      simp only [T.get_set]
      rw [if_neg (by omega), alloc_old h4.2]; exact h2

/-- what a slice of one row, just built, is read as -/
theorem src_new {h : H} {sz : Nat} {cs : List V} (hl : cs.length = sz) (hz : ∀ c ∈ cs, c ≠ .z) : srcCells (h.alloc cs) sz (.sl h.nb 0 1 1 sz true) = some (1, cs) := by
  have : (h.alloc cs).ldn h.nb 0 (1 * sz) = some cs := by
    rw [ldn_own alloc_new (by omega) hz]
    simp [← hl]
  rw [Nat.one_mul] at this
  show (bif Nat.beq sz sz then _ else _) = _
  have h1 : Nat.beq sz sz = true := by rw [Nat.beq_eq]
  rw [h1]
  show (match (h.alloc cs).ldn h.nb 0 (1 * sz) with
    | some cs => some (1, cs)
    | none => none) = _
  rw [Nat.one_mul, this]

end
end Go.Ev
namespace Go.Ev
noncomputable section

/-! slices that came in -/

/-- what an argument is, to the evaluator -/
def argV (sz : Nat) : Value → V
  | .slice none _ _ => .sn
  | .slice (some a) len cap => .sl a.block a.off len cap sz true
  | _ => .z

def argB : Value → List Nat
  | .slice (some a) _ _ => [a.block]
  | _ => []

def argLen : Value → Nat
  | .slice _ len _ => len
  | _ => 0

/-- the cells of a row -/
def argRow (W : World) (sz : Nat) : Value → Nat → List V
  | .slice (some a) _ _, i => ((absB W a.block).drop (a.off + i * sz)).take sz
  | _, _ => []

theorem okSlice {P : Program} {W : World} {base : Nat} {t e : TypeId} {v : Value} (ht : P.underlying t = some (.slice e)) (h : Value.okWide P W .any base t v) :
    v = .slice none 0 0 ∨ ∃ a len cap, v = .slice (some a) len cap ∧ len ≤ cap ∧ a.spot = none ∧ ∃ c u fz, W.heap[a.block]? = some (.cells c u fz) := by
  obtain ⟨a0, len, cap, rfl⟩ := WideShapes.okWide_slice ht h
  simp only [Value.okWide, ht, Cell.okWide] at h
  cases a0 with
  | none =>
    left
    unfold Cell.ok at h
    rw [ht] at h
    split at h
    all_goals first | rfl | simp_all
  | some a =>
    right
    have h' : len ≤ cap ∧ (cap : Int) ≤ IntKind.i64.max ∧ W.has P .any base a e cap := by
      unfold Cell.ok at h
      rw [ht] at h
      exact h
    obtain ⟨h1, _, h3⟩ := h'
    refine ⟨a, len, cap, rfl, h1, h3.2.1, ?_⟩
    obtain ⟨_, _, row, cells, hs, _⟩ := h3
    unfold World.shape? at hs
    split at hs
    · rename_i c u fz hc; exact ⟨c, u, fz, hc⟩
    · cases hs

/-- the cells that are read, among the block's -/
theorem cells_abs {W : World} {base : Nat} {a : Addr} {n : Nat} {cs : List Value} {c : Array Value} {u : TypeId} {fz : Nat × Nat} (h : W.cells? base a n = some cs) (hc : W.heap[a.block]? = some (.cells c u fz)) :
    ((absB W a.block).drop a.off).take n = cs.map absV ∧ cs.length = n ∧ (n = 0 ∨ a.off + n ≤ c.size) := by
  obtain ⟨_, hl, hget⟩ := World.cells?_some h
  have hB : absB W a.block = c.toList.map absV := by simp [absB, hc]
  have hcell : ∀ i, i < n → c[a.off + i]? = cs[i]? := by
    intro i hi
    have := hget i hi
    unfold Addr.add at this
    split at this
    · rename_i h0
      subst h0
      unfold World.cell? at this
      rw [hc] at this
      simp only at this
      split at this
      · rw [← this] 
        have h2 : cs[0]? ≠ none := by simp [hl]; omega
        exact (h2 this.symm).elim
      · simpa using this
    · unfold World.cell? at this
      rw [hc] at this
      simpa using this
  refine ⟨?_, hl, ?_⟩
  · rw [hB]
    apply List.ext_getElem?
    intro i
    rw [List.getElem?_take]
    split
    · rename_i hi
      rw [List.getElem?_drop, List.getElem?_map, List.getElem?_map, ← hcell i hi]
      simp
    · rename_i hi
      have : cs[i]? = none := by simp [hl]; omega
      rw [List.getElem?_map, this]; rfl
  · by_cases h0 : n = 0
    · exact .inl h0
    · right
      have h1 := hcell (n - 1) (by omega)
      have h2 : cs[n - 1]? ≠ none := by simp [hl]; omega
      rw [← h1] at h2
      have : a.off + (n - 1) < c.size := by
        cases e : c[a.off + (n - 1)]? with
        | none => exact (h2 e).elim
        | some y =>
          obtain ⟨hlt, _⟩ := Array.getElem?_eq_some_iff.1 e
          exact hlt
      omega

/-- A SLICE THAT CAME IN, to the evaluator: its value, its rows; and of each row the reading -/
theorem open_arg {H : Type} {enc : TypeId × Value → H} {P : Program} {W : World} {t e : TypeId} {v : Value} {fuel sz : Nat} {x : DataW H × List MemPlace} {bs : List Nat} {base : Nat} (ht : P.underlying t = some (.slice e)) (hsz : P.cellsOf e = sz) (hpos : 0 < sz)
    (hv : Value.okWide P W .any base t v) (h : DataW.trod enc P W 0 (fun _ => true) true fuel t v.cells.toList = some x) (hb : ∀ b ∈ argB v, b ∈ bs) :
    RV (entryPhi W bs) (argV sz v) v ∧ lenV (argV sz v) = some (.i .i64 (.ofNat (argLen v))) ∧
    ∀ i, i < argLen v → ∃ (cs : List Value) (n : Nat) (y : DataW H × List MemPlace), argRow W sz v i = cs.map absV ∧ cs.length = sz ∧ DataW.trod enc P W 0 (fun _ => true) true n e cs = some y ∧
      ∃ b o, b < W.heap.size ∧ ixV sz (argV sz v) i = some (.p b o) ∧ ((absB W b).drop o).take sz = argRow W sz v i ∧ b ∈ bs := by
  rcases okSlice ht hv with rfl | ⟨a, len, cap, rfl, hlc, hspot, c, u, fz, hc⟩
  · exact ⟨by simp [argV, RV], rfl, fun i hi => by simp [argLen] at hi⟩
  · rcases Deep.open_slice ht h with ⟨h0, _⟩ | ⟨a', len', capx, m, n, D, Pl, h0, _, _, _, hm, _, hx⟩
    · cases h0
    simp only [Value.cells, List.cons.injEq, Value.slice.injEq, Option.some.injEq, and_true] at h0
    obtain ⟨ha, hl', hc'⟩ := h0
    subst ha; subst hl'
    simp only [if_true] at hm
    rw [← hc'] at hm
    rw [hm, hsz] at hx
    have hbm : a.block ∈ bs := hb _ (by simp [argB])
    have hB : (absB W a.block).length = c.size := by simp [absB, hc]
    have hat : ∀ i, i < cap → ∃ cs, ((absB W a.block).drop (a.off + i * sz)).take sz = cs.map absV ∧ cs.length = sz ∧ a.off + i * sz + sz ≤ c.size ∧ DataW.trod enc P W 0 (fun _ => true) true n e cs = some (D i, Pl i) := by
      intro i hi
      obtain ⟨cs, h1, h2⟩ := hx i hi
      have hab : (a.add (i * sz)).block = a.block ∧ (a.add (i * sz)).off = a.off + i * sz := by
        unfold Addr.add
        split
        · rename_i h0; rw [h0]; exact ⟨rfl, rfl⟩
        · exact ⟨rfl, rfl⟩
      obtain ⟨k1, k2, k3⟩ := cells_abs h1 (by rw [hab.1]; exact hc)
      rw [hab.1, hab.2] at k1
      rw [hab.2] at k3
      exact ⟨cs, k1, k2, by omega, h2⟩
    have hlt : a.block < W.heap.size := by
      obtain ⟨hlt, _⟩ := Array.getElem?_eq_some_iff.1 hc
      exact hlt
    refine ⟨?_, rfl, fun i hi => ?_⟩
    · simp only [argV, RV]
      refine ⟨(a.block, 0, c.size), a.off, cap, entryPhi_at hbm hc, ?_, hlc, Nat.le_refl _, fun _ => rfl, hpos, ?_⟩
      · obtain ⟨b, o, s⟩ := a
        simp only at hspot
        subst hspot
        rfl
      · by_cases hcap : cap = 0
        · exact .inl hcap
        · right
          obtain ⟨_, _, _, k3, _⟩ := hat (cap - 1) (by omega)
          refine ⟨by simp, ?_⟩
          have : cap * sz = (cap - 1) * sz + sz := by
            conv => lhs; rw [show cap = (cap - 1) + 1 by omega]
            rw [Nat.add_mul, Nat.one_mul]
          show a.off + cap * sz ≤ c.size
          omega
    · have hi' : i < len := hi
      obtain ⟨cs, k1, k2, k3, k4⟩ := hat i (by omega)
      refine ⟨cs, n, _, k1, k2, k4, a.block, a.off + i * sz, hlt, ?_, rfl, hbm⟩
      simp [argV, ixV, ble_of (show i + 1 ≤ len by omega)]

theorem argB_cells {P : Program} {W : World} {base : Nat} {t e : TypeId} {v : Value} (ht : P.underlying t = some (.slice e)) (h : Value.okWide P W .any base t v) : ∀ b ∈ argB v, ∃ c u fz, W.heap[b]? = some (.cells c u fz) := by
  intro b hb
  rcases okSlice ht h with rfl | ⟨a, len, cap, rfl, _, _, hc⟩
  · cases hb
  · simp only [argB, List.mem_singleton] at hb
    subst hb; exact hc

/-- the rows can be read in the heap that the call begins with -/
theorem entry_at {W : World} {bs : List Nat} {b o : Nat} {vs : List V} (hb : b ∈ bs) (hv : ((absB W b).drop o).take vs.length = vs) (hz : ∀ c ∈ vs, c ≠ .z) : CellsAt (entryH W bs) b o vs :=
  ⟨⟨absB W b, b, roC⟩, by simp only [entryH, entryT_get, if_pos hb], hv, hz⟩

theorem Stays.below {W W' : World} (h : Stays W W') : RowKit.Below W.heap.size W W' := ⟨h.os, h.tape, h.output, h.size, h.old⟩

end
end Go.Ev
namespace Go.Ev
noncomputable section

/-! a closed call with plain arguments -/

def closedCallA (f : Nat) (a : List V) (bs : List (Nat × List V)) : Call := fun g args h =>
  bif Nat.beq g f && V.eqvs args a && bs.all (fun p => match h.bl.get p.1 with
      | some k => V.eqvs p.2 (takeN k.cells (len p.2))
      | none => false) then some (.b true, h) else none

theorem RVs.of_leaf {φ ψ : Phi} : ∀ {a : List V} {x : List Value}, a.all leafB = true → RVs φ a x → RVs ψ a x
  | [], _, _, r => by simpa only [RVs] using r
  | v :: a, _, h, r => by
    simp only [List.all_cons, Bool.and_eq_true] at h
    simp only [RVs] at r ⊢
    obtain ⟨x, xs, e, h1, h2⟩ := r
    exact ⟨x, xs, e, RV.of_leaf h.1 h1, RVs.of_leaf h.2 h2⟩

theorem closedCallA_ok {P : Program} {G : List Nat} {f : Nat} {a : List V} {bs : List (Nat × List V)} {nb : Nat} (ha' : a.all leafB = true) (hG : ∀ b : Nat, b ∈ bs.map (·.1) ↔ b ∈ G) (hnb : ∀ b ∈ G, b < nb) (hleaf : ∀ p ∈ bs, p.2.all leafB = true) {call : Call} (hc : CallOK P G call) {h' : H}
    (he : call f a ⟨nb, closedT bs, .e⟩ = some (.b true, h')) : CallOK P G (closedCallA f a bs) ∧ Mono (closedCallA f a bs) := by
  refine ⟨fun g args h r h2 e => ?_, fun g args h r h2 e => ?_⟩
  · unfold closedCallA at e
    simp only [cond_eq_ite] at e
    split at e
    · rename_i hh
      cases e
      simp only [Bool.and_eq_true, Nat.beq_eq, List.all_eq_true] at hh
      obtain ⟨⟨rfl, hargs⟩, hall⟩ := hh
      have hargs := V.eqvs_eq _ _ hargs
      subst hargs
      obtain ⟨hent, hcall⟩ := hc _ _ _ _ _ he
      refine ⟨hent, fun φ W vs hg ha w => ?_⟩
      -- the map of the closed call
      let ψ : Phi := ⟨fun b => if b ∈ G then φ b else none, fun wb => decide (wb ∈ G)⟩
      have at_ : ∀ g, g ∈ G → ∃ n, φ g = some (g, 0, n) := hg
      have hψ : ∀ b x, ψ b = some x → b ∈ G ∧ φ b = some x := by
        intro b x hx
        simp only [ψ] at hx
        split at hx
        · exact ⟨by assumption, hx⟩
        · cases hx
      have hx1 : ∀ b x, ψ b = some x → x.1 = b ∧ x.2.1 = 0 ∧ b ∈ G := by
        intro b x hx
        obtain ⟨hm, hφ⟩ := hψ b x hx
        obtain ⟨n, hn⟩ := at_ b hm
        rw [hn] at hφ; cases hφ
        exact ⟨rfl, rfl, hm⟩
      have hgW : ∀ g, g ∈ G → g < W.heap.size := by
        intro g hgm
        obtain ⟨n, hn⟩ := at_ g hgm
        exact (w.img _ _ hn).2
      have rw0 : RW ψ ⟨nb, closedT bs, .e⟩ W := by
        refine ⟨fun b k hb => ?_, fun b x hx => ?_, fun b hb => ?_, fun b1 b2 k1 k2 x1 x2 h1 h2 e1 e2 hw => ?_, fun b k hb => ?_, fun wb h => ?_⟩
        · obtain ⟨p, hp, rfl, rfl⟩ := closedT_get bs b k hb
          have hbG : p.1 ∈ G := (hG _).1 (List.mem_map_of_mem hp)
          have hq := hall p hp
          split at hq
          · rename_i k2 hk2
            obtain ⟨x, c, e, fz, hx, hcc, h1, h2, h3, h4⟩ := w.blk p.1 k2 hk2
            have hq' := V.eqvs_eq _ _ hq
            rw [takeN_eq, len_eq] at hq'
            obtain ⟨n, hn⟩ := at_ _ hbG
            rw [hn] at hx; cases hx
            refine ⟨(p.1, 0, n), c, e, fz, by simp only [ψ, if_pos hbG]; exact hn, hcc, h1, ?_, .inl ⟨by simp [ψ, hbG], Nat.le_refl _⟩, fun j v hv => ?_⟩
            · have := congrArg List.length hq'
              rw [List.length_take] at this
              have h2' : k2.cells.length ≤ n := h2
              show p.2.length ≤ n
              omega
            · have hv' : p.2[j]? = some v := hv
              rw [hq', List.getElem?_take] at hv'
              split at hv'
              · rcases h4 j v hv' with h5 | ⟨h5, y, hy, hr⟩
                · exact .inl h5
                · refine .inr ⟨h5, y, hy, ?_⟩
                  exact RV.of_leaf (List.all_eq_true.1 (hleaf p hp) v (List.mem_of_getElem? hv)) hr
              · cases hv'
          · cases hq
        · obtain ⟨h1, _, h3⟩ := hx1 b x hx
          rw [h1]; exact ⟨hnb b h3, hgW b h3⟩
        · cases e : (closedT bs).get b with
          | none => rfl
          | some k =>
            obtain ⟨p, hp, rfl, _⟩ := closedT_get bs b k e
            have := hnb _ ((hG _).1 (List.mem_map_of_mem hp))
            have hb' : nb ≤ p.1 := hb
            omega
        · obtain ⟨a1, a2, _⟩ := hx1 _ _ e1
          obtain ⟨b1', b2', _⟩ := hx1 _ _ e2
          have : b1 = b2 := by omega
          subst this
          rw [h1] at h2; cases h2
          rw [e1] at e2; cases e2
          exact ⟨rfl, rfl⟩
        · obtain ⟨p, hp, rfl, rfl⟩ := closedT_get bs b k hb
          exact .inl rfl
        · exact hgW _ (by simpa [ψ] using h)
      have gok : GOK G ψ := fun g hgm => by
        obtain ⟨n, hn⟩ := at_ g hgm
        exact ⟨n, by simp only [ψ, if_pos hgm]; exact hn⟩
      refine (hcall ψ W vs gok (RVs.of_leaf ha' ha) rw0).mono fun e W' hp => ?_
      cases e with
      | returned z =>
        obtain ⟨φ', hr, _, _, hext⟩ := hp
        have hst : Stays W W' := stays_of_ext hext fun b x hx => by
          obtain ⟨h1, _, h3⟩ := hx1 b x hx
          simpa [ψ, h1] using h3
        refine ⟨φ, by simpa only [RV] using hr, w.push hst.old hst.size, Grow.refl _ _, ⟨hst.size, fun wb hwb _ => hst.old wb hwb, fun wb c e fz hc => ⟨c, by
          rw [hst.old wb]
          · exact hc
          · obtain ⟨hlt, _⟩ := Array.getElem?_eq_some_iff.1 hc
            exact hlt, rfl⟩, hst.tape, hst.os, hst.output⟩⟩
      | _ => exact hp.elim
    · cases e
  · unfold closedCallA at e
    simp only [cond_eq_ite] at e
    split at e
    · cases e; exact Nat.le_refl _
    · cases e

end
end Go.Ev
