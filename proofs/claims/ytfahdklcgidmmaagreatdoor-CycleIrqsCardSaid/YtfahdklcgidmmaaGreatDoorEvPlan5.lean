/- A part of the evaluator and of the proof that its word holds in the model (EvPlan5). -/
import Derived.Test.YtfahdklcgidmmaaGreatDoorEvPlan4
namespace Go.Ev

section
variable {P : Program} {G : List Nat} {nt : Nat} {ops : Array Oper} {call : Call}
variable {L : List PI} {env' : Env} {h' : H} {φ0 : Phi} {W0 : World} {ds : List Deferred} {lst lst' : Nat → Bool} {a : Act} {W : World} {cl : T Nat} {Q : Exit → Act → World → Prop} {K : Act → World → Prop}

theorem put_get (a : Act) (d : Option Nat) (z : Value) (t : Nat) (h : d ≠ some t) : (a.put d z).tmps.getD t undef = a.tmps.getD t undef := by
  cases d with
  | none => rfl
  | some d =>
    have : d ≠ t := fun e => h (by rw [e])
    simp [Act.put, this]

theorem put_same {a : Act} {nt d : Nat} (hs : a.tmps.size = nt) (hd : dstOk nt (some d) = true) (z : Value) : (a.put (some d) z).tmps.getD d undef = z := by
  simp only [dstOk, Nat.ble_eq] at hd
  have : d < a.tmps.size := by omega
  simp [Act.put, this]

theorem put_size (a : Act) (d : Option Nat) (z : Value) : (a.put d z).tmps.size = a.tmps.size := by cases d <;> simp [Act.put]

/-- one more is done ahead of its turn -/
theorem J.listed (hm : Mono call) (pl : Plan P G nt ops L cl) {A B1 B2 : List PI} {p : PI} {env : Env} {h : H} {hs : List H} {Φ Φ' : Phi} {W' : World} {z : Value} {o : Oper}
    (j : J P G nt ops call L env' h' φ0 W0 ds lst a W A (B1 ++ p :: B2) env h hs Φ) (hp : lst p.ix = false) (heff : effB p = false) (ho : ops[p.ix]? = some o) (hco : cCO P G nt ops o = some p.co)
    (hbind : ∀ e ∈ binding o, lst e = true) (hl1 : lst' p.ix = true) (hl2 : ∀ i, i ≠ p.ix → lst' i = lst i)
    {s : Env × H × List H} (hs1 : pre call B1 env h hs = some s) {s2 : Env × H × List H × V} (hs2 : stp call p s.1 s.2.1 s.2.2 = some s2)
    (hle : Φ.le Φ') (hcut : cut h.nb Φ' = cut h.nb Φ) (hold : ∀ i, i < W.heap.size → W'.heap[i]? = W.heap[i]?) (hext : Ext (cut h.nb Φ) W W')
    (hval : RV Φ' s2.2.2.2 z) (hlaid : Laid Φ' W' p s.1 s.2.1)
    (hdom : ∀ b x, Φ' b = some x → Φ b = some x ∨ (b = s.2.1.nb ∧ makes p s.1 = true))
    (huni : ∀ b x, Φ' b = some x → h.nb ≤ b → W0.heap.size ≤ x.1 ∧ x.1 < W'.heap.size ∧ ∀ b' x', Φ' b' = some x' → x'.1 = x.1 → b' = b) :
    J P G nt ops call L env' h' φ0 W0 ds lst' (a.put o.dst z) W' A (B1 ++ p :: B2) env h hs Φ' := by
  obtain ⟨c1, c2, c3, c4⟩ := cCO_ok hco
  have hnd := (pl.ixs).1
  have hndB : ((B1 ++ p :: B2).map (·.ix)).Nodup := by
    rw [j.split, List.map_append] at hnd
    exact (List.nodup_append.1 hnd).2.1
  obtain ⟨n1, n2⟩ := nodup_split hndB
  have hpL : p ∈ L := by rw [j.split]; simp
  have hBL : ∀ q ∈ B1 ++ p :: B2, q ∈ L := fun q hq => by rw [j.split]; exact List.mem_append_right _ hq
  have hlB1 : ∀ q ∈ B1, lst' q.ix = lst q.ix := fun q hq => hl2 _ (n1 q hq)
  have hlB2 : ∀ q ∈ B2, lst' q.ix = lst q.ix := fun q hq => hl2 _ (n2 q hq)
  -- who else writes p's slot? nobody
  have htm : ∀ q ∈ B1 ++ p :: B2, q.ix ≠ p.ix → ∀ d, q.co.d = some d → (a.put o.dst z).tmps.getD d undef = a.tmps.getD d undef := by
    intro q hq hne d hd
    refine put_get a o.dst z d fun e => ?_
    rw [← c3] at e
    exact ((pl.pair (hBL q hq) hpL e).2 hne).1 hd
  obtain ⟨hE1, hE2⟩ := (Ex.append B1 (p :: B2) env h hs s hs1).1 j.ex
  obtain ⟨s2', hs2', _, hE3⟩ := hE2
  rw [hs2] at hs2'; cases hs2'
  have hWh : ∀ b x o, h.nb ≤ b → Φ b = some x → W.heap[x.1]? = some o → W'.heap[x.1]? = some o := by
    intro b x o hb hx hh
    rw [hold x.1 (j.uni b x hx hb).2.1]; exact hh
  have hnb1 := pre_nb hm _ _ _ _ _ hs1
  have hex : Ex call lst' Φ' (fun t => (a.put o.dst z).tmps.getD t undef) W' (B1 ++ p :: B2) env h hs := by
    refine (Ex.append B1 (p :: B2) env h hs s hs1).2 ⟨Ex.mono hm hle B1 env h hs hlB1 (fun q hq _ d hd => htm q (by simp [hq]) (n1 q hq) d hd) hWh hE1, s2, hs2, fun _ => ⟨heff, fun d hd => ?_, hlaid⟩, ?_⟩
    · rw [c3] at hd
      rw [hd] at c4 ⊢
      show RV Φ' _ ((a.put (some d) z).tmps.getD d undef)
      rw [put_same j.size c4]
      exact hval
    · exact Ex.mono hm hle B2 _ _ _ hlB2 (fun q hq _ d hd => htm q (by simp [hq]) (n2 q hq) d hd) (fun b x o hb => hWh b x o (by have := stp_nb hm hs2; omega)) hE3
  refine ⟨j.split, j.plan, by rw [hcut]; exact j.rw_.push hold hext.size, by rw [hcut]; exact j.rep, hex, fun b x hb => ?_, huni, fun t v ht hv => ?_, by rw [put_size]; exact j.size, by rw [act_put_defers]; exact j.df, by rw [hcut]; exact j.gok, by rw [hcut]; exact j.grow, ?_, fun q hq => ?_, fun q hq hql oq hoq e he => ?_⟩
  · rw [exIds_append B1 (p :: B2) env h hs s hs1]
    simp only [exIds, hs2]
    rcases hdom b x hb with hΦ | ⟨rfl, hmk⟩
    · rcases j.dom b x hΦ with hlt | hin
      · exact .inl hlt
      · right
        rw [exIds_append B1 (p :: B2) env h hs s hs1] at hin
        simp only [exIds, hs2, hp, Bool.false_eq_true, false_and, if_false, List.nil_append] at hin
        rw [exIds_congr B1 env h hs hlB1, exIds_congr B2 _ _ _ hlB2]
        rcases List.mem_append.1 hin with hin | hin
        · exact List.mem_append_left _ hin
        · exact List.mem_append_right _ (List.mem_append_right _ hin)
    · right
      rw [if_pos ⟨hl1, hmk⟩]
      exact List.mem_append_right _ (by simp)
  · have hpd : o.dst ≠ some t := fun e => ht p (by simp) hl1 (by rw [c3]; exact e)
    rw [put_get a o.dst z t hpd]
    refine RV.mono hle _ _ (j.tm t v (fun q hq hql hd => ?_) hv)
    by_cases hqp : q.ix = p.ix
    · rw [hqp, hp] at hql; cases hql
    · exact ht q hq (by rw [hl2 _ hqp]; exact hql) hd
  · exact j.ext.trans hext j.grow
  · have : q.ix ≠ p.ix := fun e => by
      have := j.allA q hq
      rw [e, hp] at this; cases this
    rw [hl2 _ this]; exact j.allA q hq
  · by_cases hqp : q.ix = p.ix
    · rw [hqp, ho] at hoq; cases hoq
      have := hbind e he
      by_cases hep : e = p.ix
      · rw [hep]; exact hl1
      · rw [hl2 _ hep]; exact this
    · rw [hl2 _ hqp] at hql
      have := j.down q hq hql oq hoq e he
      by_cases hep : e = p.ix
      · rw [hep]; exact hl1
      · rw [hl2 _ hep]; exact this

theorem wpOp_at {i : Nat} {o : Oper} (ho : ops[i]? = some o) {b : Bool} (hw : Region.wanted o (yielded ops a.tmps) = b) (h1 : b = true → o.wp P a W K Q) (h2 : b = false → K (a.put o.dst undef) W) : wpOp P ops Q i K a W := by
  unfold wpOp
  rw [ho]
  simp only
  rw [hw]
  cases b
  · simp only [Bool.false_eq_true, if_false]; exact h2 rfl
  · simp only [if_true]; exact .inl (h1 rfl)

/-- an operation that is done ahead of its turn -/
theorem J.stable (hm : Mono call) (pl : Plan P G nt ops L cl) {A B1 B2 : List PI} {p : PI} {env : Env} {h : H} {hs hs0 : List H} {Φ : Phi}
    (j : J P G nt ops call L env' h' φ0 W0 ds lst a W A (B1 ++ p :: B2) env h hs Φ) (hhd : hs = h :: hs0) (hp : lst p.ix = false) (heff : effB p = false)
    (hbind : ∀ o, ops[p.ix]? = some o → ∀ e ∈ binding o, lst e = true) (hl1 : lst' p.ix = true) (hl2 : ∀ i, i ≠ p.ix → lst' i = lst i)
    (hK : ∀ a' W' Φ', J P G nt ops call L env' h' φ0 W0 ds lst' a' W' A (B1 ++ p :: B2) env h hs Φ' → K a' W') : wpOp P ops Q p.ix K a W := by
  have hpL : p ∈ L := by rw [j.split]; simp
  -- what is known of the item, with what stands ahead of it
  have hitm : Itm P G nt ops cl (A ++ B1) p := by
    have := pl.chain
    rw [j.split, ← List.append_assoc] at this
    have := (Chain.append (A ++ B1) [] (p :: B2) this).2
    rw [List.nil_append] at this
    exact this.1
  obtain ⟨o, ho, hco, hb1, hb2, hgd⟩ := hitm.op
  obtain ⟨c1, c2, c3, c4⟩ := cCO_ok hco
  have hbo := hbind o ho
  have hdown : ∀ q ∈ L, lst q.ix = true → ∀ k, clB cl q.ix k = true → lst k = true := fun q hq => Chain.down L [] pl.chain (by simpa using j.down) (fun q hq => by cases hq) q (by simpa using hq)
  have hpre : ∀ k, clB cl p.ix k = true → lst k = true := by
    intro k hk
    obtain ⟨e, he, hh⟩ := hb2 k hk
    rcases hh with rfl | hh
    · exact hbo _ he
    · obtain ⟨r, hr, re⟩ := hitm.pre e (hb1 e he)
      have hrL : r ∈ L := by
        rw [j.split]
        rcases List.mem_append.1 hr with h1 | h1 <;> simp [h1]
      exact hdown r hrL (by rw [re]; exact hbo e he) k (by rw [re]; exact hh)
  obtain ⟨s, hs1, hplan⟩ := evPlan_append B1 (p :: B2) env h hs _ j.plan
  have hopr := j.operands hm pl hp hpre hs1
  obtain ⟨hren, hag⟩ := own_env (p := p) (env := s.1) j.size hopr
  obtain ⟨hE1, hE2⟩ := (Ex.append B1 (p :: B2) env h hs s hs1).1 j.ex
  obtain ⟨s2, hs2, _, hE3⟩ := hE2
  have hnb1 := pre_nb hm _ _ _ _ _ hs1
  have hgok : GOK G Φ := j.gok.mono (cut_le _ _)
  have hwn : ∀ b, wantG s.1 p.co.g = some b → Region.wanted o (yielded ops a.tmps) = b := fun b hb =>
    wanted_ok (φ := Φ) (env := s.1.filt fun t => p.co.tm.contains t) (fun t v hv _ => hren.get t v hv) c2 (by rw [own_guard hag]; exact hb)
  have noLaid : (∀ x, p.co.op ≠ .A x) → Laid Φ W p s.1 s.2.1 := fun hx x q e => (hx x e).elim
  have hs2' := hs2
  unfold stp at hs2
  split at hs2
  · cases hs2
  · rename_i hw
    refine wpOp_at ho (hwn false hw) (fun h => by cases h) fun _ => hK _ W Φ ?_
    cases hs2
    refine j.listed hm pl hp heff ho hco hbo hl1 hl2 hs1 hs2' (Phi.le_refl _) rfl (fun _ _ => rfl) (Ext.refl _ _) (by simp only [RV]; rfl) ?_ (fun b x hb => .inl hb) j.uni
    intro x q _ hw'
    rw [hw] at hw'; cases hw'
  · rename_i hw
    split at hs2
    · cases hs2
    rename_i r hr
    refine wpOp_at ho (hwn true hw) (fun _ => ?_) (fun h => by cases h)
    cases hop : p.co.op with
    | E x => simp [effB, isE, hop] at heff
    | P x =>
      have ha2 : Agree x.tm (s.1.filt fun t => p.co.tm.contains t) s.1 := by
        have := own_op hag
        rw [hop] at this
        exact this
      rw [hop] at hs2 hr c1
      simp only [evC] at hr
      split at hr
      · rename_i v hv
        cases hr
        cases hs2
        rw [← evP_congr ha2] at hv
        obtain ⟨z, hz, hrz⟩ := pure_ok hren hgok c1 hv W
        exact upon_value hz (hK _ W Φ (j.listed hm pl hp heff ho hco hbo hl1 hl2 hs1 hs2' (Phi.le_refl _) rfl (fun _ _ => rfl) (Ext.refl _ _) hrz (noLaid (by rw [hop]; intro x h; cases h)) (fun b x hb => .inl hb) j.uni))
      · cases hr
    | L x =>
      have ha2 : Agree x.tm (s.1.filt fun t => p.co.tm.contains t) s.1 := by
        have := own_op hag
        rw [hop] at this
        exact this
      rw [hop] at hs2 hr c1
      simp only [evC] at hr
      split at hr
      · rename_i v hv
        cases hr
        simp only at hs2
        split at hs2
        · rename_i hrc
          cases hs2
          -- the load answers the same in the heap as it stands
          have hload : evL x s.1 h = some v := by
            obtain ⟨hsk, hbk⟩ := hitm.back (by rw [hop]; rfl)
            obtain ⟨news, hn1, hn2⟩ := pre_hs B1 env h hs s hs1
            have hget : s.2.2[(effIx B1).length]? = some h := by
              rw [hn1, hhd, ← hn2, List.getElem?_append_right (Nat.le_refl _)]
              simp
            have hB1e : ((effIx B1).filter fun e => clB cl p.ix e) = [] := by
              rw [List.filter_eq_nil_iff]
              intro e he hcl
              obtain ⟨q, hq, rfl⟩ := List.mem_map.1 he
              rw [List.mem_filter] at hq
              obtain ⟨hqB, hqe⟩ := hq
              have hql := hpre _ hcl
              -- a listed item of B acts not
              obtain ⟨D1, D2, hD⟩ := List.append_of_mem hqB
              have hE1' := hE1
              rw [hD] at hE1'
              have : ∀ (X : List PI) (Y : List PI) (e0 : Env) (h0 : H) (hs0 : List H), Ex call lst Φ (fun t => a.tmps.getD t undef) W (X ++ q :: Y) e0 h0 hs0 → effB q = false := by
                intro X
                induction X with
                | nil =>
                  intro Y e0 h0 hs0 hh
                  obtain ⟨_, _, hh, _⟩ := hh
                  exact (hh hql).1
                | cons x X ih =>
                  intro Y e0 h0 hs0 hh
                  obtain ⟨_, _, _, hh⟩ := hh
                  exact ih Y _ _ _ hh
              rw [this D1 D2 env h hs hE1'] at hqe
              cases hqe
            have hlo : ((effIx (A ++ B1)).filter fun e => clB cl p.ix e).length ≤ (effIx A).length := by
              rw [effIx_append, List.filter_append, hB1e, List.append_nil]
              exact List.length_filter_le _ _
            have hlen : (effIx (A ++ B1)).length = (effIx A).length + (effIx B1).length := by rw [effIx_append, List.length_append]
            by_cases hcase : p.skip ≤ (effIx B1).length
            · refine recheck_ok p.back (dropN s.2.2 p.skip) hrc ((effIx B1).length - p.skip) h (by omega) ?_
              rw [dropN_eq, List.getElem?_drop, show p.skip + ((effIx B1).length - p.skip) = (effIx B1).length by omega]
              exact hget
            · have hsk1 : p.skip ≤ 1 := by rw [hsk]; split <;> omega
              have h0 : (effIx B1).length = 0 := by omega
              have hsince : allocSince (A ++ B1) = false := by
                cases hal : allocSince (A ++ B1) with
                | false => rfl
                | true => rw [hal] at hsk; simp at hsk; omega
              have hne : ∀ q ∈ B1, effB q = false := by
                intro q hq
                cases he : effB q with
                | false => rfl
                | true =>
                  have : q.ix ∈ effIx B1 := List.mem_map.2 ⟨q, List.mem_filter.2 ⟨hq, he⟩, rfl⟩
                  rw [List.eq_nil_of_length_eq_zero h0] at this
                  cases this
              have hsame := pre_same B1 env h hs s hs1 fun q hq => ⟨hne q hq, allocSince_tail B1 A hne hsince q hq⟩
              rw [← hsame]; exact hv
          rw [← evL_congr ha2] at hload
          obtain ⟨z, hz, hrz⟩ := load_ok (cut_le _ _) hren hgok j.rw_ c1 hload
          exact upon_value hz (hK _ W Φ (j.listed hm pl hp heff ho hco hbo hl1 hl2 hs1 hs2' (Phi.le_refl _) rfl (fun _ _ => rfl) (Ext.refl _ _) hrz (noLaid (by rw [hop]; intro x h; cases h)) (fun b x hb => .inl hb) j.uni))
        · cases hs2
      · cases hr
    | A x =>
      have ha2 : Agree x.tm (s.1.filt fun t => p.co.tm.contains t) s.1 := by
        have := own_op hag
        rw [hop] at this
        exact this
      have hmk : makes p s.1 = true := by simp [makes, isA, hop, hw]
      rw [hop] at hs2 hr c1
      simp only [evC] at hr
      split at hr
      · rename_i q hq
        cases hr
        cases hs2
        have hq' := hq
        rw [← evA_congr ha2] at hq'
        obtain ⟨z, W', cc, hz, hmd, hat⟩ := alloc_ok hren hgok c1 hq' W
        obtain ⟨e, fz, hwat, hfz⟩ := hmd.at_
        have hroN : Φ.ro W.heap.size = false := j.rw_.soft_new (φ := cut h.nb Φ) (Nat.le_refl _)
        -- the name is new
        have hnew : Φ s.2.1.nb = none := by
          cases hx : Φ s.2.1.nb with
          | none => rfl
          | some y =>
            exfalso
            rcases j.dom _ y hx with hlt | hin
            · omega
            · rw [exIds_append B1 (p :: B2) env h hs s hs1] at hin
              simp only [exIds, hs2', hp, Bool.false_eq_true, false_and, if_false, List.nil_append] at hin
              rcases List.mem_append.1 hin with hin | hin
              · have := exIds_lt hm B1 env h hs s _ hs1 hin
                omega
              · have := exIds_ge hm B2 _ _ _ _ hin
                have h2 := stp_makes hs2' hmk
                simp only at this h2
                omega
        have hle : Φ.le (Φ.upd s.2.1.nb (W.heap.size, 0, cc.size)) := Phi.le_upd _ hnew
        have himg : ∀ b x, Φ b = some x → x.1 < W.heap.size := by
          intro b x hb
          by_cases hlt : b < h.nb
          · exact (j.rw_.img b x (cut_of hlt hb)).2
          · exact (j.uni b x hb (by omega)).2.1
        refine upon_value hz (hK _ W' _ (j.listed hm pl hp heff ho hco hbo hl1 hl2 hs1 hs2' hle ?_ hmd.old hmd.ext (hat _ _ (Phi.upd_same _ _ _)) ?_ ?_ ?_))
        · refine Phi.eq (fun b => ?_) rfl
          simp only [cut]
          split
          · rw [Phi.upd_other _ _ (by omega)]
          · rfl
        · intro x' q' e1 _ e3
          rw [hop] at e1; cases e1
          rw [hq] at e3; cases e3
          refine ⟨W.heap.size, cc, e, fz, Phi.upd_same _ _ _, hwat, ⟨hfz, hroN⟩, hmd.fits, fun jx v hv => ?_⟩
          obtain ⟨b1, y, b2, b3⟩ := hmd.cells jx v hv
          exact ⟨b1, y, b2, RV.mono hle _ _ b3⟩
        · intro b x' hb
          by_cases e' : b = s.2.1.nb
          · exact .inr ⟨e', hmk⟩
          · rw [Phi.upd_other _ _ e'] at hb
            exact .inl hb
        · intro b x' hb hnb
          by_cases e' : b = s.2.1.nb
          · subst e'
            rw [Phi.upd_same] at hb; cases hb
            refine ⟨j.ext.size, by rw [hmd.size]; exact Nat.lt_succ_self _, fun b' y hy hxy => ?_⟩
            by_cases e2 : b' = s.2.1.nb
            · exact e2
            · rw [Phi.upd_other _ _ e2] at hy
              have := himg b' y hy
              simp only at hxy
              omega
          · rw [Phi.upd_other _ _ e'] at hb
            obtain ⟨g1, g2, g3⟩ := j.uni b x' hb hnb
            refine ⟨g1, by rw [hmd.size]; omega, fun b' y hy hxy => ?_⟩
            by_cases e2 : b' = s.2.1.nb
            · subst e2
              rw [Phi.upd_same] at hy; cases hy
              simp only at hxy
              omega
            · rw [Phi.upd_other _ _ e2] at hy
              exact g3 b' y hy hxy
      · cases hr

end
end Go.Ev
