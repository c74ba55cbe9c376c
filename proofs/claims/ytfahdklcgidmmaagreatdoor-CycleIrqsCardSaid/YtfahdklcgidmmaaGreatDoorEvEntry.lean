/- A part of the evaluator and of the proof that its word holds in the model (EvEntry). -/
import Derived.Test.YtfahdklcgidmmaaGreatDoorEvMemo
namespace Go.Ev
noncomputable section

/-! a call's arguments: whole blocks of memory, only read -/

/-- a cell, as it stands -/
def absV : Value → V
  | .int k n => .i k n
  | .bool b => .b b
  | _ => .z

def absB (W : World) (b : Nat) : List V := match W.heap[b]? with
  | some (.cells c _ _) => c.toList.map absV
  | _ => []

def absF (W : World) (bs : List Nat) (b : Nat) : Option (Nat × Nat × Nat) := if b ∈ bs then some (b, 0, (absB W b).length) else none

/-- the blocks that are listed, each under its own name -/
def entryPhi (W : World) (bs : List Nat) : Phi := ⟨absF W bs, fun wb => decide (wb ∈ bs)⟩

def entryT (W : World) : List Nat → T Blk
  | [] => .e
  | b :: bs => (entryT W bs).set b ⟨absB W b, b, roC⟩

def entryH (W : World) (bs : List Nat) : H := ⟨W.heap.size, entryT W bs, .e⟩

theorem entryT_get (W : World) : ∀ (bs : List Nat) (b : Nat), (entryT W bs).get b = if b ∈ bs then some ⟨absB W b, b, roC⟩ else none := by
  intro bs
  induction bs with
  | nil => intro b; rfl
  | cons x bs ih =>
    intro b
    simp only [entryT, T.get_set, ih, List.mem_cons]
    by_cases h : b = x
    · subst h; simp
    · simp [h]

theorem entryPhi_at {W : World} {bs : List Nat} {b : Nat} {c : Array Value} {e : TypeId} {fz : Nat × Nat} (hb : b ∈ bs) (hc : W.heap[b]? = some (.cells c e fz)) : entryPhi W bs b = some (b, 0, c.size) := by
  show absF W bs b = _
  simp [absF, hb, absB, hc]

theorem entry_rw {W : World} {bs : List Nat} (hbs : ∀ b ∈ bs, ∃ c e fz, W.heap[b]? = some (.cells c e fz)) : RW (entryPhi W bs) (entryH W bs) W where
  blk b k hb := by
    simp only [entryH, entryT_get] at hb
    split at hb
    · rename_i hm
      cases hb
      obtain ⟨c, e, fz, hc⟩ := hbs b hm
      have hB : absB W b = c.toList.map absV := by simp [absB, hc]
      refine ⟨(b, 0, c.size), c, e, fz, entryPhi_at hm hc, hc, by simp, by simp [hB], .inl ⟨by simp [entryPhi, hm], Nat.le_refl _⟩, fun j v hv => ?_⟩
      rw [hB, List.getElem?_map] at hv
      cases hj : c.toList[j]? with
      | none => rw [hj] at hv; cases hv
      | some y =>
        rw [hj] at hv
        simp only [Option.map_some, Option.some.injEq] at hv
        have hy : c[0 + j]? = some y := by simpa using hj
        subst hv
        unfold absV
        split
        · exact .inr ⟨rfl, _, hy, by simp [RV]⟩
        · exact .inr ⟨rfl, _, hy, by simp [RV]⟩
        · exact .inl rfl
    · cases hb
  img b x hx := by
    have hx' : absF W bs b = some x := hx
    simp only [absF] at hx'
    split at hx'
    · rename_i hm
      cases hx'
      obtain ⟨c, e, fz, hc⟩ := hbs b hm
      obtain ⟨hlt, _⟩ := Array.getElem?_eq_some_iff.1 hc
      exact ⟨hlt, hlt⟩
    · cases hx'
  fresh b hb := by
    simp only [entryH, entryT_get]
    rw [if_neg]
    intro hm
    obtain ⟨c, e, fz, hc⟩ := hbs b hm
    obtain ⟨hlt, _⟩ := Array.getElem?_eq_some_iff.1 hc
    have : W.heap.size ≤ b := hb
    omega
  alias b1 b2 k1 k2 x1 x2 h1 h2 e1 e2 hw := by
    have e1' : absF W bs b1 = some x1 := e1
    have e2' : absF W bs b2 = some x2 := e2
    simp only [absF] at e1' e2'
    split at e1' <;> cases e1'
    split at e2' <;> cases e2'
    have hw' : b1 = b2 := hw
    subst hw'
    rw [h1] at h2; cases h2
    exact ⟨rfl, rfl⟩
  grp b k hb := by
    simp only [entryH, entryT_get] at hb
    split at hb
    · cases hb; exact .inl rfl
    · cases hb
  ros wb h := by
    have hm : wb ∈ bs := by simpa [entryPhi] using h
    obtain ⟨c, e, fz, hc⟩ := hbs wb hm
    obtain ⟨hlt, _⟩ := Array.getElem?_eq_some_iff.1 hc
    exact hlt

theorem entry_gok {W : World} {G bs : List Nat} (h : ∀ g ∈ G, g ∈ bs) : GOK G (entryPhi W bs) := fun g hg => ⟨(absB W g).length, by
  show absF W bs g = _
  simp only [absF, if_pos (h g hg)]⟩

/-- what was there is as it was, to the block -/
structure Stays (W W' : World) : Prop where
  size : W.heap.size ≤ W'.heap.size
  old : ∀ wb : Nat, wb < W.heap.size → W'.heap[wb]? = W.heap[wb]?
  tape : W'.tape = W.tape
  os : W'.os = W.os
  output : W'.output = W.output

theorem stays_of_ext {φ : Phi} {W W' : World} (h : Ext φ W W') (hro : ∀ b x, φ b = some x → φ.ro x.1 = true) : Stays W W' :=
  ⟨h.size, fun wb hwb => h.out wb hwb fun b x e hx => by rw [← hx]; exact hro b x e, h.tape, h.os, h.output⟩

theorem entry_stays {W W' : World} {bs : List Nat} (h : Ext (entryPhi W bs) W W') : Stays W W' :=
  stays_of_ext h fun b x e => by
    have e' : absF W bs b = some x := e
    simp only [absF] at e'
    split at e'
    · rename_i hm; cases e'; simpa [entryPhi] using hm
    · cases e'

/-! a closed call that reads listed blocks alone, at whatever memory -/

/-- a value that leads nowhere -/
def leafB : V → Bool
  | .i _ _ => true
  | .b _ => true
  | .s _ => true
  | .pn => true
  | .sn => true
  | _ => false

theorem RV.of_leaf {φ ψ : Phi} {v : V} {y : Value} (h : leafB v = true) (r : RV φ v y) : RV ψ v y := by
  cases v <;> simp only [leafB, Bool.false_eq_true] at h <;> simpa only [RV] using r

/-- the call of 'f' without arguments, where the blocks of 'bs' hold what 'h0' says -/
def closedCall (f : Nat) (bs : List (Nat × List V)) : Call := fun g args h =>
  match args with
  | [] => bif Nat.beq g f && bs.all (fun p => match h.bl.get p.1 with
      | some k => V.eqvs p.2 (takeN k.cells (len p.2))
      | none => false) then some (.b true, h) else none
  | _ => none

def closedT : List (Nat × List V) → T Blk
  | [] => .e
  | p :: bs => (closedT bs).set p.1 ⟨p.2, p.1, roC⟩

theorem closedT_get : ∀ (bs : List (Nat × List V)) (b : Nat) (k : Blk), (closedT bs).get b = some k → ∃ p ∈ bs, p.1 = b ∧ k = ⟨p.2, b, roC⟩ := by
  intro bs
  induction bs with
  | nil => intro b k h; cases h
  | cons x bs ih =>
    intro b k h
    simp only [closedT, T.get_set] at h
    split at h
    · rename_i e
      cases h
      exact ⟨x, by simp, e.symm, by rw [e]⟩
    · obtain ⟨p, hp, h1, h2⟩ := ih b k h
      exact ⟨p, by simp [hp], h1, h2⟩

theorem closedCall_ok {P : Program} {G : List Nat} {f : Nat} {bs : List (Nat × List V)} {nb : Nat} (hG : ∀ b : Nat, b ∈ bs.map (·.1) ↔ b ∈ G) (hnb : ∀ b ∈ G, b < nb) (hleaf : ∀ p ∈ bs, p.2.all leafB = true) {call : Call} (hc : CallOK P G call) {h' : H}
    (he : call f [] ⟨nb, closedT bs, .e⟩ = some (.b true, h')) : CallOK P G (closedCall f bs) ∧ Mono (closedCall f bs) := by
  refine ⟨fun g args h r h2 e => ?_, fun g args h r h2 e => ?_⟩
  · unfold closedCall at e
    split at e
    · simp only [cond_eq_ite] at e
      split at e
      · rename_i hh
        cases e
        simp only [Bool.and_eq_true, Nat.beq_eq, List.all_eq_true] at hh
        obtain ⟨rfl, hall⟩ := hh
        obtain ⟨hent, hcall⟩ := hc _ _ _ _ _ he
        refine ⟨hent, fun φ W vs hg ha w => ?_⟩
        simp only [RVs] at ha
        -- the map of the closed call
        let ψ : Phi := ⟨fun b => if b ∈ G then φ b else none, fun wb => decide (wb ∈ G)⟩
        have at_ : ∀ g, g ∈ G → ∃ n, φ g = some (g, 0, n) := hg
        have hψ : ∀ b x, ψ b = some x → b ∈ G ∧ φ b = some x := by
          intro b x hx
          simp only [ψ] at hx
          split at hx
          · exact ⟨by assumption, hx⟩
          · cases hx
        have hx1 : ∀ b x, ψ b = some x → x.1 = b ∧ x.2.1 = 0 ∧ b ∈ G := by
          intro b x hx
          obtain ⟨hm, hφ⟩ := hψ b x hx
          obtain ⟨n, hn⟩ := at_ b hm
          rw [hn] at hφ; cases hφ
          exact ⟨rfl, rfl, hm⟩
        have hgW : ∀ g, g ∈ G → g < W.heap.size := by
          intro g hgm
          obtain ⟨n, hn⟩ := at_ g hgm
          exact (w.img _ _ hn).2
        have rw0 : RW ψ ⟨nb, closedT bs, .e⟩ W := by
          refine ⟨fun b k hb => ?_, fun b x hx => ?_, fun b hb => ?_, fun b1 b2 k1 k2 x1 x2 h1 h2 e1 e2 hw => ?_, fun b k hb => ?_, fun wb h => ?_⟩
          · obtain ⟨p, hp, rfl, rfl⟩ := closedT_get bs b k hb
            have hbG : p.1 ∈ G := (hG _).1 (List.mem_map_of_mem hp)
            have hq := hall p hp
            split at hq
            · rename_i k2 hk2
              obtain ⟨x, c, e, fz, hx, hcc, h1, h2, h3, h4⟩ := w.blk p.1 k2 hk2
              have hq' := V.eqvs_eq _ _ hq
              rw [takeN_eq, len_eq] at hq'
              obtain ⟨n, hn⟩ := at_ _ hbG
              rw [hn] at hx; cases hx
              refine ⟨(p.1, 0, n), c, e, fz, by simp only [ψ, if_pos hbG]; exact hn, hcc, h1, ?_, .inl ⟨by simp [ψ, hbG], Nat.le_refl _⟩, fun j v hv => ?_⟩
              · have := congrArg List.length hq'
                rw [List.length_take] at this
                have h2' : k2.cells.length ≤ n := h2
                show p.2.length ≤ n
                omega
              · have hv' : p.2[j]? = some v := hv
                rw [hq', List.getElem?_take] at hv'
                split at hv'
                · rcases h4 j v hv' with h5 | ⟨h5, y, hy, hr⟩
                  · exact .inl h5
                  · refine .inr ⟨h5, y, hy, ?_⟩
                    exact RV.of_leaf (List.all_eq_true.1 (hleaf p hp) v (List.mem_of_getElem? hv)) hr
                · cases hv'
            · cases hq
          · obtain ⟨h1, _, h3⟩ := hx1 b x hx
            rw [h1]; exact ⟨hnb b h3, hgW b h3⟩
          · cases e : (closedT bs).get b with
            | none => rfl
            | some k =>
              obtain ⟨p, hp, rfl, _⟩ := closedT_get bs b k e
              have := hnb _ ((hG _).1 (List.mem_map_of_mem hp))
              have hb' : nb ≤ p.1 := hb
              omega
          · obtain ⟨a1, a2, _⟩ := hx1 _ _ e1
            obtain ⟨b1', b2', _⟩ := hx1 _ _ e2
            have : b1 = b2 := by omega
            subst this
            rw [h1] at h2; cases h2
            rw [e1] at e2; cases e2
            exact ⟨rfl, rfl⟩
          · obtain ⟨p, hp, rfl, rfl⟩ := closedT_get bs b k hb
            exact .inl rfl
          · exact hgW _ (by simpa [ψ] using h)
        have gok : GOK G ψ := fun g hgm => by
          obtain ⟨n, hn⟩ := at_ g hgm
          exact ⟨n, by simp only [ψ, if_pos hgm]; exact hn⟩
        refine (hcall ψ W vs gok (by simpa only [RVs] using ha) rw0).mono fun e W' hp => ?_
        cases e with
        | returned z =>
          obtain ⟨φ', hr, _, _, hext⟩ := hp
          have hst : Stays W W' := stays_of_ext hext fun b x hx => by
            obtain ⟨h1, _, h3⟩ := hx1 b x hx
            simpa [ψ, h1] using h3
          refine ⟨φ, by simpa only [RV] using hr, w.push hst.old hst.size, Grow.refl _ _, ⟨hst.size, fun wb hwb _ => hst.old wb hwb, fun wb c e fz hc => ⟨c, by
            rw [hst.old wb]
            · exact hc
            · obtain ⟨hlt, _⟩ := Array.getElem?_eq_some_iff.1 hc
              exact hlt, rfl⟩, hst.tape, hst.os, hst.output⟩⟩
        | _ => exact hp.elim
      · cases e
    · cases e
  · unfold closedCall at e
    split at e
    · simp only [cond_eq_ite] at e
      split at e
      · cases e; exact Nat.le_refl _
      · cases e
    · cases e

end
end Go.Ev
