/- A part of the evaluator and of the proof that its word holds in the model (EvPlan6). -/
import Derived.Test.YtfahdklcgidmmaaGreatDoorEvPlan5
namespace Go.Ev

section
variable {P : Program} {G : List Nat} {nt : Nat} {ops : Array Oper} {call : Call}
variable {L : List PI} {env' : Env} {h' : H} {φ0 : Phi} {W0 : World} {ds : List Deferred} {lst lst' : Nat → Bool} {a : Act} {W : World} {cl : T Nat} {Q : Exit → Act → World → Prop} {K : Act → World → Prop}

/-- an operation that acts, at its turn -/
theorem J.acts (hm : Mono call) (hcall : CallOK P G call) (pl : Plan P G nt ops L cl) {A B : List PI} {p : PI} {env : Env} {h : H} {hs : List H} {Φ : Phi}
    (j : J P G nt ops call L env' h' φ0 W0 ds lst a W A (p :: B) env h hs Φ) (hp : lst p.ix = false) (heff : effB p = true)
    (hbind : ∀ o, ops[p.ix]? = some o → ∀ e ∈ binding o, lst e = true) (hl1 : lst' p.ix = true) (hl2 : ∀ i, i ≠ p.ix → lst' i = lst i)
    (hK : ∀ a' W' env1 h1 Φ', J P G nt ops call L env' h' φ0 W0 ds lst' a' W' (A ++ [p]) B env1 h1 (h1 :: hs) Φ' → K a' W') : wpOp P ops Q p.ix K a W := by
  have hpL : p ∈ L := by rw [j.split]; simp
  have hitm : Itm P G nt ops cl A p := by
    have := pl.chain
    rw [j.split] at this
    have := (Chain.append A [] (p :: B) this).2
    rw [List.nil_append] at this
    exact this.1
  obtain ⟨o, ho, hco, hb1, hb2, hgd⟩ := hitm.op
  obtain ⟨c1, c2, c3, c4⟩ := cCO_ok hco
  have hbo := hbind o ho
  have hnd := (pl.ixs).1
  have hndB : ((p :: B).map (·.ix)).Nodup := by
    rw [j.split, List.map_append] at hnd
    exact (List.nodup_append.1 hnd).2.1
  have n2 : ∀ q ∈ B, q.ix ≠ p.ix := (nodup_split (A := []) hndB).2
  have hBL : ∀ q ∈ B, q ∈ L := fun q hq => by rw [j.split]; simp [hq]
  have hlB : ∀ q ∈ B, lst' q.ix = lst q.ix := fun q hq => hl2 _ (n2 q hq)
  have hdown : ∀ q ∈ L, lst q.ix = true → ∀ k, clB cl q.ix k = true → lst k = true := fun q hq => Chain.down L [] pl.chain (by simpa using j.down) (fun q hq => by cases hq) q (by simpa using hq)
  have hpre : ∀ k, clB cl p.ix k = true → lst k = true := by
    intro k hk
    obtain ⟨r, hr, re⟩ := hitm.pre k hk
    rw [← re]; exact j.allA r hr
  have hopr := J.operands (B1 := []) hm pl j hp hpre (s := (env, h, hs)) rfl
  obtain ⟨tms, hrep⟩ := j.rep
  have hopr' : ∀ t ∈ p.co.tm, ∀ v, env.get t = some v → RV (cut h.nb Φ) v (a.tmps.getD t undef) := fun t ht v hv =>
    RV.restrict (cut_le _ _) v _ _ (hrep.get t v hv) (hopr t ht v hv)
  obtain ⟨hren, hag⟩ := own_env (p := p) (env := env) j.size hopr'
  obtain ⟨s2, hs2, _, hE3⟩ := j.ex
  have hwn : ∀ b, wantG env p.co.g = some b → Region.wanted o (yielded ops a.tmps) = b := fun b hb =>
    wanted_ok (φ := cut h.nb Φ) (env := env.filt fun t => p.co.tm.contains t) (fun t v hv _ => hren.get t v hv) c2 (by rw [own_guard hag]; exact hb)
  have htm : ∀ (z : Value), ∀ q ∈ B, ∀ d, q.co.d = some d → (a.put o.dst z).tmps.getD d undef = a.tmps.getD d undef := by
    intro z q hq d hd
    refine put_get a o.dst z d fun e => ?_
    rw [← c3] at e
    exact ((pl.pair (hBL q hq) hpL e).2 (n2 q hq)).1 hd
  have hnb2 := stp_nb hm hs2
  have hput := stp_put hs2
  have hplan := j.plan
  rw [evPlan_cons, hs2] at hplan
  simp only at hplan
  -- the state behind it, whatever has come of it
  have key : ∀ (φ2 : Phi) (z : Value) (W2 : World), s2.2.2.1 = s2.2.1 :: hs → RV φ2 s2.2.2.2 z → RW φ2 s2.2.1 W2 → Grow (cut h.nb Φ) φ2 W → Ext (cut h.nb Φ) W W2 → K (a.put o.dst z) W2 := by
    intro φ2 z W2 hhs hz hrw2 hgr hex2
    let Ψ : Phi := ⟨fun b => if b < s2.2.1.nb then φ2 b else Φ b, Φ.ro⟩
    have hro : Φ.ro = φ2.ro := hgr.le.ro.symm
    have hcut : cut s2.2.1.nb Ψ = φ2 := by
      refine Phi.eq (fun b => ?_) hro
      simp only [cut, Ψ]
      split
      · rfl
      · exact (hrw2.none_nb (by omega)).symm
    have hids : ∀ b, b ∈ exIds call lst (p :: B) env h hs → b ∈ exIds call lst B s2.1 s2.2.1 s2.2.2.1 := by
      intro b hb
      simp only [exIds, hs2, hp, Bool.false_eq_true, false_and, if_false, List.nil_append] at hb
      exact hb
    have hout : ∀ b x, Φ b = some x → h.nb ≤ b → s2.2.1.nb ≤ b := by
      intro b x hb hnb
      rcases j.dom b x hb with hlt | hin
      · omega
      · exact exIds_ge hm B _ _ _ _ (hids b hin)
    have hle : Φ.le Ψ := by
      refine ⟨fun b x hb => ?_, rfl⟩
      simp only [Ψ]
      split
      · rename_i hlt
        by_cases hlt' : b < h.nb
        · exact hgr.le.sub b x (cut_of hlt' hb)
        · have := hout b x hb (by omega); omega
      · exact hb
    have hφ2Ψ : φ2.le Ψ := by
      refine ⟨fun b x hb => ?_, hro⟩
      have := (hrw2.img b x hb).1
      simp only [Ψ, if_pos this]
      exact hb
    have hWh : ∀ b x oo, s2.2.1.nb ≤ b → Φ b = some x → W.heap[x.1]? = some oo → W2.heap[x.1]? = some oo := by
      intro b x oo hb hx hh
      obtain ⟨u1, u2, u3⟩ := j.uni b x hx (by omega)
      rw [hex2.out x.1 u2 fun b' x' hb' hxy => ?_]
      · exact hh
      · obtain ⟨k1, k2⟩ := cut_lt hb'
        have := u3 b' x' k2 hxy
        omega
    refine hK (a.put o.dst z) W2 s2.1 s2.2.1 Ψ ⟨by rw [j.split]; simp, by rw [← hhs]; exact hplan, by rw [hcut]; exact hrw2, ?_, ?_, fun b x hb => ?_, fun b x hb hnb => ?_, fun t v ht hv => ?_, by rw [put_size]; exact j.size, by rw [act_put_defers]; exact j.df, by rw [hcut]; exact j.gok.mono hgr.le, ?_, ?_, fun q hq => ?_, fun q hq hql oq hoq e he => ?_⟩
    · rw [hcut, hput]
      refine ⟨((⟨tms, []⟩ : Act).put p.co.d z).tmps, ?_⟩
      rw [c3]
      exact REnv.put (a := ⟨tms, []⟩) (hrep.mono hgr.le) c4 hz
    · rw [← hhs]
      exact Ex.mono hm hle B _ _ _ hlB (fun q hq _ d hd => htm z q hq d hd) hWh hE3
    · by_cases hlt : b < s2.2.1.nb
      · exact .inl hlt
      · simp only [Ψ, if_neg hlt] at hb
        rcases j.dom b x hb with h1 | h1
        · omega
        · right
          rw [← hhs, exIds_congr B _ _ _ hlB]
          exact hids b h1
    · have hnlt : ¬ b < s2.2.1.nb := by omega
      have hb' := hb
      simp only [Ψ, if_neg hnlt] at hb'
      obtain ⟨u1, u2, u3⟩ := j.uni b x hb' (by omega)
      refine ⟨u1, by have := hex2.size; omega, fun b' x' hb'' hxy => ?_⟩
      by_cases hlt : b' < s2.2.1.nb
      · simp only [Ψ, if_pos hlt] at hb''
        obtain ⟨b3, x3, hb3, hx3⟩ := hgr.new b' x' hb'' (by omega)
        obtain ⟨k1, k2⟩ := cut_lt hb3
        have := u3 b3 x3 k2 (by omega)
        omega
      · simp only [Ψ, if_neg hlt] at hb''
        exact u3 b' x' hb'' hxy
    · rw [hput] at hv
      have old : p.co.d ≠ some t → env.get t = some v → RV Ψ v ((a.put o.dst z).tmps.getD t undef) := by
        intro hne hg
        rw [put_get a o.dst z t (by rw [← c3]; exact hne)]
        refine RV.mono hle _ _ (j.tm t v (fun q hq hql hd => ?_) hg)
        rcases List.mem_cons.1 hq with rfl | hq
        · rw [hp] at hql; cases hql
        · exact ht q hq (by rw [hlB q hq]; exact hql) hd
      cases hd : p.co.d with
      | none =>
        rw [hd] at hv
        exact old (by rw [hd]; exact fun h => by cases h) hv
      | some d =>
        rw [hd] at hv
        simp only [putE, T.get_set] at hv
        split at hv
        · rename_i e
          subst e
          cases hv
          rw [hd] at c3
          rw [← c3] at c4 ⊢
          rw [put_same j.size c4]
          exact RV.mono hφ2Ψ _ _ hz
        · rename_i e
          exact old (by rw [hd]; exact fun h => by cases h; exact e rfl) hv
    · rw [hcut]
      exact j.grow.trans hgr j.ext.size
    · exact j.ext.trans hex2 j.grow
    · rcases List.mem_append.1 hq with hq | hq
      · have : q.ix ≠ p.ix := fun e => by
          have := j.allA q hq
          rw [e, hp] at this; cases this
        rw [hl2 _ this]; exact j.allA q hq
      · rw [List.mem_singleton] at hq; subst hq; exact hl1
    · by_cases hqp : q.ix = p.ix
      · rw [hqp, ho] at hoq; cases hoq
        have := hbo e he
        by_cases hep : e = p.ix
        · rw [hep]; exact hl1
        · rw [hl2 _ hep]; exact this
      · rw [hl2 _ hqp] at hql
        have := j.down q hq hql oq hoq e he
        by_cases hep : e = p.ix
        · rw [hep]; exact hl1
        · rw [hl2 _ hep]; exact this
  have hs2' := hs2
  unfold stp at hs2
  split at hs2
  · cases hs2
  · rename_i hw
    rw [if_pos heff] at hs2
    cases hs2
    exact wpOp_at ho (hwn false hw) (fun h => by cases h) fun _ => key (cut h.nb Φ) undef W rfl (by simp only [RV]; rfl) j.rw_ (Grow.refl _ _) (Ext.refl _ _)
  · rename_i hw
    split at hs2
    · cases hs2
    rename_i r hr
    refine wpOp_at ho (hwn true hw) (fun _ => ?_) (fun h => by cases h)
    cases hop : p.co.op with
    | E x =>
      have ha2 : Agree (C.E x).tm (env.filt fun t => p.co.tm.contains t) env := by
        have := own_op hag
        rw [hop] at this
        exact this
      rw [hop] at hs2 hr c1
      simp only at hs2
      cases hs2
      rw [← evC_congr ha2] at hr
      exact gen_ok hcall hren j.gok j.rw_ c1 (v := r.1) (h' := r.2) hr fun φ2 z W2 g1 g2 g3 g4 => key φ2 z W2 rfl g1 g2 g3 g4
    | _ => simp [effB, isE, hop] at heff

/-- who is ready -/
theorem ready_ok {listed : Array Bool} {i : Nat} (hi : i ∈ Region.ready .any ops listed) : i < ops.size ∧ listed.getD i true = false ∧ ∀ o, ops[i]? = some o → ∀ e ∈ binding o, listed.getD e false = true := by
  unfold Region.ready at hi
  rw [List.mem_filter, List.mem_range] at hi
  obtain ⟨h1, h2⟩ := hi
  simp only [Bool.and_eq_true, Bool.not_eq_true'] at h2
  refine ⟨h1, h2.1, fun o ho e he => ?_⟩
  rw [ho] at h2
  simp only [Option.map_some, Option.getD_some] at h2
  have h3 := h2.2
  rw [Array.all_eq_true'] at h3
  unfold binding at he
  obtain ⟨x, hx, rfl⟩ := List.mem_map.1 he
  rw [List.mem_filter] at hx
  have := h3 x (by simpa using hx.1)
  simp only [Bool.or_eq_true, Bool.not_eq_true'] at this
  rcases this with h4 | h4
  · rw [hx.2] at h4; cases h4
  · exact h4

def listB (listed : Array Bool) (i : Nat) : Bool := listed.getD i false

/-- the whole region, from any state on -/
theorem J.run (hm : Mono call) (hcall : CallOK P G call) (pl : Plan P G nt ops L cl) (hQ : ∀ a' W', KPost nt φ0 W0 env' h' ds a' W' → Q .normal a' W') :
    ∀ (fuel : Nat) (listed : Array Bool) (a : Act) (W : World) (A B : List PI) (env : Env) (h : H) (hs hs0 : List H) (Φ : Phi), listed.size = ops.size → ((List.range ops.size).filter fun i => !listB listed i).length ≤ fuel → hs = h :: hs0 →
      J P G nt ops call L env' h' φ0 W0 ds (listB listed) a W A B env h hs Φ → wpAny P .any ops Q fuel listed a W := by
  intro fuel
  induction fuel with
  | zero =>
    intro listed a W A B env h hs hs0 Φ hsz hf hhd j
    have hall : ∀ i, i < ops.size → listB listed i = true := by
      intro i hi
      cases e : listB listed i with
      | true => rfl
      | false =>
        have : i ∈ (List.range ops.size).filter fun i => !listB listed i := List.mem_filter.2 ⟨List.mem_range.2 hi, by simp [e]⟩
        have h0 : ((List.range ops.size).filter fun i => !listB listed i).length = 0 := by omega
        rw [List.eq_nil_of_length_eq_zero h0] at this
        cases this
    refine ⟨?_, ?_⟩
    · cases hr : Region.ready .any ops listed with
      | nil => rfl
      | cons i is =>
        obtain ⟨h1, h2, _⟩ := ready_ok (i := i) (by rw [hr]; simp)
        have := hall i h1
        have hlt : i < listed.size := by omega
        simp [listB, hlt] at this h2
        rw [this] at h2; cases h2
    · have hB : ∀ p ∈ B, listB listed p.ix = true := fun p hp => hall _ (pl.ixs.2 p (by rw [j.split]; simp [hp]))
      have j' : J P G nt ops call L env' h' φ0 W0 ds (listB listed) a W A (B ++ []) env h hs Φ := by simpa using j
      obtain ⟨env1, h1, _, j1⟩ := j'.absorbAll hm pl B [] A env h hs Φ hB
      have e := j1.split
      rw [List.append_nil] at e
      rw [← e] at j1
      exact hQ a W j1.done
  | succ fuel ih =>
    intro listed a W A B env h hs hs0 Φ hsz hf hhd j
    refine ⟨fun hr => ?_, fun i hi => ?_⟩
    · -- nobody is ready: all is done
      have hB : ∀ p ∈ B, listB listed p.ix = true := by
        have key : ∀ (B1 B2 : List PI), B = B1 ++ B2 → (∀ p ∈ B1, listB listed p.ix = true) → ∀ p ∈ B2, listB listed p.ix = true := by
          intro B1 B2
          induction B2 generalizing B1 with
          | nil => intro _ _ p hp; cases hp
          | cons q B2 ihB =>
            intro e hB1 p hp
            have hq : listB listed q.ix = true := by
              cases hc : listB listed q.ix with
              | true => rfl
              | false =>
                exfalso
                have hqL : q ∈ L := by rw [j.split, e]; simp
                have hqs := pl.ixs.2 q hqL
                have hitm : Itm P G nt ops cl (A ++ B1) q := by
                  have := pl.chain
                  rw [j.split, e, ← List.append_assoc] at this
                  have := (Chain.append (A ++ B1) [] (q :: B2) this).2
                  rw [List.nil_append] at this
                  exact this.1
                obtain ⟨o, ho, _, hb1, _⟩ := hitm.op
                have : q.ix ∈ Region.ready .any ops listed := by
                  unfold Region.ready
                  rw [List.mem_filter, List.mem_range]
                  refine ⟨hqs, ?_⟩
                  simp only [Bool.and_eq_true, Bool.not_eq_true', ho, Option.map_some, Option.getD_some]
                  have hlt : q.ix < listed.size := by omega
                  refine ⟨by simpa [listB, hlt] using hc, ?_⟩
                  rw [Array.all_eq_true']
                  intro x hx
                  simp only [Bool.or_eq_true, Bool.not_eq_true']
                  cases hbx : Region.binds .any x with
                  | false => exact .inl rfl
                  | true =>
                    right
                    have hxb : x.on ∈ binding o := List.mem_map.2 ⟨x, List.mem_filter.2 ⟨by simpa using hx, hbx⟩, rfl⟩
                    obtain ⟨r, hr', re⟩ := hitm.pre _ (hb1 _ hxb)
                    rw [← re]
                    rcases List.mem_append.1 hr' with h1 | h1
                    · exact j.allA r h1
                    · exact hB1 r h1
                rw [hr] at this; cases this
            rcases List.mem_cons.1 hp with rfl | hp
            · exact hq
            · exact ihB (B1 ++ [q]) (by rw [e]; simp) (fun r hr' => by
                rcases List.mem_append.1 hr' with h1 | h1
                · exact hB1 r h1
                · rw [List.mem_singleton] at h1; subst h1; exact hq) p hp
        exact key [] B rfl (fun p hp => by cases hp)
      have j' : J P G nt ops call L env' h' φ0 W0 ds (listB listed) a W A (B ++ []) env h hs Φ := by simpa using j
      obtain ⟨env1, h1, _, j1⟩ := j'.absorbAll hm pl B [] A env h hs Φ hB
      have e := j1.split
      rw [List.append_nil] at e
      rw [← e] at j1
      exact hQ a W j1.done
    · obtain ⟨h1, h2, h3⟩ := ready_ok hi
      have hlt : i < listed.size := by omega
      have hli : listB listed i = false := by simpa [listB, hlt] using h2
      obtain ⟨p, hp, rfl⟩ := pl.cover h1
      have hpB : p ∈ B := by
        rw [j.split] at hp
        rcases List.mem_append.1 hp with hp | hp
        · have := j.allA p hp
          rw [hli] at this; cases this
        · exact hp
      obtain ⟨B1, B2, rfl⟩ := List.append_of_mem hpB
      have hl1 : listB (listed.setIfInBounds p.ix true) p.ix = true := by simp [listB, hlt]
      have hl2 : ∀ i, i ≠ p.ix → listB (listed.setIfInBounds p.ix true) i = listB listed i := by
        intro i hne
        simp [listB, Ne.symm hne]
      have hcount : ((List.range ops.size).filter fun i => !listB (listed.setIfInBounds p.ix true) i).length ≤ fuel := by
        have hlt2 : ((List.range ops.size).filter fun i => !listB (listed.setIfInBounds p.ix true) i).length < ((List.range ops.size).filter fun i => !listB listed i).length := by
          have hsub : ((List.range ops.size).filter fun i => !listB (listed.setIfInBounds p.ix true) i) ⊆ ((List.range ops.size).filter fun i => !listB listed i).erase p.ix := by
            intro x hx
            rw [List.mem_filter] at hx
            have hne : x ≠ p.ix := fun e => by
              rw [e, hl1] at hx
              simp at hx
            rw [List.mem_erase_of_ne hne, List.mem_filter]
            refine ⟨hx.1, ?_⟩
            rw [← hl2 x hne]; exact hx.2
          have hn1 : ((List.range ops.size).filter fun i => !listB (listed.setIfInBounds p.ix true) i).Nodup := List.nodup_range.filter _
          have hle := hn1.length_le_of_subset hsub
          have hmem : p.ix ∈ (List.range ops.size).filter fun i => !listB listed i := List.mem_filter.2 ⟨List.mem_range.2 h1, by simp [hli]⟩
          rw [List.length_erase_of_mem hmem] at hle
          have : 0 < ((List.range ops.size).filter fun i => !listB listed i).length := List.length_pos_of_mem hmem
          omega
        omega
      have hsz' : (listed.setIfInBounds p.ix true).size = ops.size := by simpa using hsz
      cases heff : effB p with
      | false =>
        exact j.stable hm pl hhd hli heff h3 hl1 hl2 fun a' W' Φ' j' => ih _ a' W' A (B1 ++ p :: B2) env h hs hs0 Φ' hsz' hcount hhd j'
      | true =>
        -- all that stands ahead of it is done
        have hitm : Itm P G nt ops cl (A ++ B1) p := by
          have := pl.chain
          rw [j.split, ← List.append_assoc] at this
          have := (Chain.append (A ++ B1) [] (p :: B2) this).2
          rw [List.nil_append] at this
          exact this.1
        obtain ⟨o, ho, _, hb1, hb2, _⟩ := hitm.op
        have hdown : ∀ q ∈ L, listB listed q.ix = true → ∀ k, clB cl q.ix k = true → listB listed k = true := fun q hq => Chain.down L [] pl.chain (by simpa using j.down) (fun q hq => by cases hq) q (by simpa using hq)
        have hB1 : ∀ q ∈ B1, listB listed q.ix = true := by
          intro q hq
          obtain ⟨e, he, hh⟩ := hb2 _ (hitm.eff heff q (by simp [hq]))
          have hle := h3 o ho e he
          rcases hh with rfl | hh
          · exact hle
          · obtain ⟨r, hr, re⟩ := hitm.pre e (hb1 e he)
            have hrL : r ∈ L := by
              rw [j.split]
              rcases List.mem_append.1 hr with h4 | h4 <;> simp [h4]
            exact hdown r hrL (by rw [re]; exact hle) _ (by rw [re]; exact hh)
        obtain ⟨env1, h1', _, j1⟩ := j.absorbAll hm pl B1 (p :: B2) A env h hs Φ hB1
        exact j1.acts hm hcall pl hli heff h3 hl1 hl2 fun a' W' env2 h2 Φ' j' => ih _ a' W' _ B2 env2 h2 (h2 :: hs) hs Φ' hsz' hcount rfl j'

/-- DRAWN REGIONS -/
theorem plan_ok (hm : Mono call) (hcall : CallOK P G call) : PlanOK P G call := by
  intro nt ops order items env env' h h' φ W a Q hc hv r g w hQ
  obtain ⟨cl, pl⟩ := cPlan_ok hc
  have hstrict : cut h.nb φ = φ := by
    refine Phi.eq (fun b => ?_) rfl
    simp only [cut]
    split
    · rfl
    · exact (w.none_nb (by omega)).symm
  have hnone : ∀ i, listB (Array.replicate ops.size false) i = false := by
    intro i
    simp only [listB, Array.getD_eq_getD_getElem?, Array.getElem?_replicate]
    split <;> rfl
  have hEx : ∀ (B : List PI) (env : Env) (h : H) (hs : List H) (rr : Env × H), evPlan call B env h hs = some rr → Ex call (listB (Array.replicate ops.size false)) φ (fun t => a.tmps.getD t undef) W B env h hs := by
    intro B
    induction B with
    | nil => intro env h hs rr _; trivial
    | cons p B ih =>
      intro env h hs rr e
      rw [evPlan_cons] at e
      split at e
      · cases e
      · rename_i s hs'
        exact ⟨s, hs', (fun hl => by rw [hnone] at hl; cases hl), ih _ _ _ _ e⟩
  refine J.run hm hcall pl hQ ops.size _ a W [] items env h [h] [] φ (by simp) ?_ rfl ⟨rfl, hv, by rw [hstrict]; exact w, ⟨a.tmps, by rw [hstrict]; exact r⟩, hEx _ _ _ _ _ hv, fun b x hb => .inl (w.img b x hb).1, fun b x hb hnb => ?_, fun t v _ hv => r.get t v hv, r.size, rfl, by rw [hstrict]; exact g, by rw [hstrict]; exact Grow.refl _ _, Ext.refl _ _, (fun p hp => by cases hp), (fun q hq hl => by rw [hnone] at hl; cases hl)⟩
  · have := List.length_filter_le (fun i => !listB (Array.replicate ops.size false) i) (List.range ops.size)
    simpa using this
  · have := (w.img b x hb).1; omega

end
end Go.Ev
