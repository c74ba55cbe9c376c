/- The evaluator: calls that look at no block, tokens, code. -/
import Derived.Test.YtoppeebbioalcaaGreatDoorEvC
import Derived.Orders
import Derived.LoopN
import Derived.Scope
set_option linter.all false
namespace Go.Ev

open Classical in
/-- behind a call: what was the caller's,with what the call has frozen -/
noncomputable def froz (φ φ' : Phi) (lo : Nat) (h' : H) (W' : World) (tk : Nat → Option (Nat × Nat × Value)) : Phi:=
  ⟨φ.f,φ.ro,fun x => match φ'.fz x with
    | some ds => some ds
    | none => if (∃ b k y,h'.bl.get b = some k ∧ lo ≤ k.grp ∧ φ' b = some y ∧ y.1 = x) then (match W'.heap[x]? with
      | some (.cells c _ _) => some c.toList
      | _ => none) else none,tk⟩

section
variable {P : Program} {G : GL} {call : Call} {φ φs φ' : Phi} {h h' : H} {W W' : World} {lo : Nat} {tk : Nat → Option (Nat × Nat × Value)}

theorem froz_old {x : Nat} {ds : List Value} (h1 : φ'.fz x = some ds) : (froz φ φ' lo h' W' tk).fz x = some ds:=by
  simp only [froz,h1]

theorem froz_some {x : Nat} {ds : List Value} (h1 : (froz φ φ' lo h' W' tk).fz x = some ds) : φ'.fz x = some ds ∨ ∃ b k y c e fr,h'.bl.get b = some k ∧ lo ≤ k.grp ∧ φ' b = some y ∧ y.1 = x ∧ W'.heap[x]? = some (.cells c e fr) ∧ ds = c.toList:=by
  simp only [froz] at h1
  split at h1
  · rename_i ds' hd
    cases h1
    exact .inl hd
  · split at h1
    · rename_i hex
      obtain ⟨b,k,y,k1,k2,k3,k4⟩:=hex
      split at h1
      · rename_i c e fr hc
        cases h1
        exact .inr ⟨b,k,y,c,e,fr,k1,k2,k3,k4,hc,rfl⟩
      · cases h1
    · cases h1

theorem froz_frz (r : RW φ' h' W') : Frz φ' (froz φ φ' lo h' W' tk) h' W' lo where
  old x ds h1:=froz_old h1
  blk b k y hb hlo hy:=by
    obtain ⟨x,c,e,fr,hx,hc,_⟩:=r.blk b k hb
    rw [hy] at hx; cases hx
    refine ⟨c,e,fr,hc,?_⟩
    have hn : φ'.fz y.1 = none:=by
      cases ee : φ'.fz y.1 with
      | none => rfl
      | some ds => exact ((r.rest.frz _ _ ee).2 b y hy rfl).elim
    simp only [froz,hn]
    rw [if_pos ⟨b,k,y,hb,hlo,hy,rfl⟩,hc]

/-- what is frozen behind the call -/
theorem froz_at (w : RW φ h W) (hfz : φs.fz = φ.fz) (r : RW φ' h' W') (g : Grow φs φ' W) (hnew : ∀ b k y,h'.bl.get b = some k → lo ≤ k.grp → φ' b = some y → W.heap.size ≤ y.1)
    {x : Nat} {ds : List Value} (h1 : (froz φ φ' lo h' W' tk).fz x = some ds) : (∃ c e fr more,W'.heap[x]? = some (.cells c e fr) ∧ c.toList = ds ++ more) ∧ ∀ b y,φ b = some y → y.1 ≠ x:=by
  rcases froz_some h1 with h2 | ⟨b,k,y,c,e,fr,k1,k2,k3,rfl,hc,rfl⟩
  · refine ⟨(r.rest.frz x ds h2).1,fun b y hy e => ?_⟩
    have hlt:=(w.img b y hy).2
    have : ∃ ds',φ.fz x = some ds':=by
      rcases g.frz x ds h2 (by omega) with h3 | ⟨_,ds',h3⟩
      · exact ⟨ds,by rw [← hfz]; exact h3⟩
      · exact ⟨ds',by rw [← hfz]; exact h3⟩
    obtain ⟨ds',h3⟩:=this
    exact (w.rest.frz x ds' h3).2 b y hy e
  · refine ⟨⟨c,e,fr,[],hc,by simp⟩,fun b' y' hy' e' => ?_⟩
    have:=(w.img b' y' hy').2
    have:=hnew b k y k1 k2 k3
    omega

theorem froz_more (hfz : φs.fz = φ.fz) (g : Grow φs φ' W) : ∀ x ds,φ.fz x = some ds → ∃ more,(froz φ φ' lo h' W' tk).fz x = some (ds ++ more):=by
  intro x ds h1
  obtain ⟨more,h2⟩:=g.le.fz x ds (by rw [hfz]; exact h1)
  exact ⟨more,froz_old h2⟩

/-- A CALL THAT LOOKS AT NO BLOCK -/
theorem callP_ok (hcall : CallOK P G call) (g : GOK G φ) (w : RW φ h W) {f : Nat} {qs : List Nat} {vs : List V} {args : Array Value} (hr : RVs φ vs args.toList) {v : V} (hv : callPv call f qs vs h = some (v,h')) :
    Enters P f ∧ Calls P f args W (CPost φ W v h'):=by
  unfold callPv at hv
  simp only [cond_eq_ite] at hv
  split at hv
  case isFalse => cases hv
  rename_i hpure
  split at hv
  · cases hv
  rename_i r hr1
  split at hv
  · cases hv
  rename_i v' hv'
  cases hv
  obtain ⟨r1,h1⟩:=r
  obtain ⟨hen,hc⟩:=hcall _ _ _ _ _ hr1
  refine ⟨hen,?_⟩
  let φs : Phi:=⟨fun _ => none,φ.ro,φ.fz,fun _ => none⟩
  have hself : ∀ x ds,φ.fz x = some ds → ∃ more,φs.fz x = some (ds ++ more):=fun x ds e => ⟨[],by rw [List.append_nil]; exact e⟩
  have gs : GOK G φs:=fun gg us hg => by
    obtain ⟨a1,ds,a2,a3,a4⟩:=g gg us hg
    exact ⟨a1,ds,a2,a3,RVs.pure hself _ _ a1 a4⟩
  have nown : ∀ wb,¬ Owns φs wb:=fun wb ⟨k,e,n,p,l,c,hk,_⟩ => by cases hk
  have ws : RW φs ⟨0,.e,.e,.e⟩ W:=by
    refine ⟨fun b k hb => (by rw [T.get_e] at hb; cases hb),fun b x hb => (by cases hb),fun b _ => T.get_e b,fun b1 b2 k1 k2 x1 x2 hb => (by rw [T.get_e] at hb; cases hb),fun b k hb => (by rw [T.get_e] at hb; cases hb),w.ros,?_⟩
    refine ⟨fun x ds hx => ⟨(w.rest.frz x ds hx).1,fun b y hy => (by cases hy)⟩,fun k e n sz hk => (by rw [T.get_e] at hk; cases hk),fun k j x a => (by obtain ⟨e,n,sz,o,c',hk,_⟩:=a; rw [T.get_e] at hk; cases hk),fun _ _ => rfl,fun wb ho => (nown wb ho).elim⟩
  refine (hc φs W args gs (RVs.pureA hself hpure hr) ws).mono fun e W' hp => ?_
  cases e with
  | returned z =>
    obtain ⟨φ',q1,q2,q3,q4⟩:=hp
    have hold : ∀ i,i < W.heap.size → W'.heap[i]? = W.heap[i]?:=fun i hi => q4.out i hi (fun b x hb => by cases hb) (nown i)
    have hnew : ∀ b k y,h1.bl.get b = some k → 0 ≤ k.grp → φ' b = some y → W.heap.size ≤ y.1:=by
      intro b k y _ _ hy
      by_cases hlt : y.1 < W.heap.size
      · obtain ⟨b',x',hb',_⟩:=q3.new b y hy hlt
        cases hb'
      · omega
    let ψ:=froz φ φ' 0 h1 W' φ.tk
    have hmore : ∀ x ds,φ.fz x = some ds → ∃ more,ψ.fz x = some (ds ++ more):=froz_more (φs:=φs) rfl q3
    have hsame : ∀ x ds,φ.fz x = some ds → ψ.fz x = some ds:=by
      intro x ds hx
      obtain ⟨more,h2⟩:=q3.le.fz x ds hx
      have h3:=q3.frz x _ h2 (w.rest.lt hx)
      rcases h3 with h3 | ⟨h3,_⟩
      · have h3' : φ.fz x = some (ds ++ more):=h3
        rw [hx] at h3'
        have : φ'.fz x = some ds:=by rw [h2]; exact h3'.symm
        exact froz_old this
      · exact (nown x h3).elim
    have hle : φ.le ψ:=⟨fun b x hb => hb,rfl,hmore,fun k e n v hk => ⟨e,n,v,hk,tkLe.refl _ _ _⟩⟩
    have wp:=w.push hold q4.size
    refine ⟨ψ,fzR_ok (froz_frz q2) q2 hv' q1,?_,?_,?_⟩
    · refine ⟨fun b k hb => ?_,wp.img,wp.fresh,wp.alias,wp.grp,wp.ros,?_⟩
      · obtain ⟨x,c,e,fr,hx,hcx,s1,s2,s3,s4⟩:=wp.blk b k hb
        refine ⟨x,c,e,fr,hx,hcx,s1,s2,s3,fun j uu hu => ?_⟩
        rcases s4 j uu hu with s5 | ⟨s5,y,s6,s7⟩
        · exact .inl s5
        · exact .inr ⟨s5,y,s6,RV.mono hle _ _ s7⟩
      · refine ⟨fun x ds hx => froz_at (φs:=φs) w rfl q2 q3 hnew hx,fun k e n sz hk => ?_,fun k j x a b => ?_,fun k hk => w.rest.tkn k hk,fun wb ho => ?_⟩
        · obtain ⟨uu,u1,u2⟩:=wp.rest.tks k e n sz hk
          refine ⟨uu,u1,?_⟩
          rcases u2 with u2 | ⟨x,o,c',u3,u4,u5 | ⟨ds,c,el,fr,u6,u7,u8⟩⟩
          · exact .inl u2
          · exact .inr ⟨x,o,c',u3,u4,.inl u5⟩
          · exact .inr ⟨x,o,c',u3,u4,.inr ⟨ds,c,el,fr,hsame x ds u6,u7,u8⟩⟩
        · exact w.rest.tku k j x a b
        · obtain ⟨ds,hds⟩:=w.rest.ownf wb ho
          exact ⟨ds,hsame wb ds hds⟩
    · refine ⟨hle,fun b x hb _ => ⟨b,x,hb,rfl⟩,fun _ ho _ => ho,fun x ds hx hlt => .inl ?_⟩
      rcases froz_some hx with h2 | ⟨b,k,y,c,e,fr,k1,k2,k3,rfl,hcc,rfl⟩
      · rcases q3.frz x ds h2 hlt with h3 | ⟨h3,_⟩
        · exact h3
        · exact (nown x h3).elim
      · have:=hnew b k y k1 k2 k3
        omega
    · exact ⟨q4.size,fun wb hwb _ _ => hold wb hwb,q4.shape,q4.tape,q4.os,q4.output⟩
  | _ => exact hp.elim

/-- A CALL THAT LOOKS AT ITS FIRST ARGUMENT'S BLOCK -/
theorem callM_ok (hcall : CallOK P G call) (g : GOK G φ) (w : RW φ h W) {f b : Nat} {qs : List Nat} {vs : List V} {args : Array Value} {x : Nat × Nat × Nat} (hx : φ b = some x) (hr : RVs φ vs args.toList) {v : V} (hv : callMv call f qs b vs h = some (v,h')) :
    Enters P f ∧ Calls P f (#[.pointer (some ⟨x.1,x.2.1,none⟩)] ++ args) W (CPost φ W v h'):=by
  unfold callMv at hv
  simp only [cond_eq_ite] at hv
  split at hv
  case isFalse => cases hv
  rename_i hpure
  split at hv
  · cases hv
  rename_i k hk
  split at hv
  · cases hv
  rename_i hgr
  simp only [Bool.and_eq_true,Nat.beq_eq] at hv
  split at hv
  case isFalse => cases hv
  rename_i hkk
  obtain ⟨hkg,hnr⟩:=hkk
  split at hv
  · cases hv
  rename_i r hr1
  split at hv
  · cases hv
  rename_i v' hv'
  split at hv
  · cases hv
  rename_i k1 hk1
  simp only [len_eq] at hv
  split at hv
  case isFalse => cases hv
  rename_i hkk1
  obtain ⟨⟨⟨hlen1,hdl1⟩,hg1⟩,hnr1⟩:=hkk1
  cases hv
  obtain ⟨r1,h1⟩:=r
  obtain ⟨hen,hc⟩:=hcall _ _ _ _ _ hr1
  refine ⟨hen,?_⟩
  let φs : Phi:=⟨fun i => if i = 0 then some x else none,φ.ro,φ.fz,φ.tk⟩
  have hs0 : φs 0 = some x:=by simp [φs]
  have hs : ∀ b' x',φs b' = some x' → b' = 0 ∧ x' = x:=by
    intro b' x' e
    simp only [φs] at e
    split at e
    · rename_i h0; cases e; exact ⟨h0,rfl⟩
    · cases e
  have hself : ∀ x ds,φ.fz x = some ds → ∃ more,φs.fz x = some (ds ++ more):=fun x ds e => ⟨[],by rw [List.append_nil]; exact e⟩
  have hselft : ∀ k e n v,φ.tk k = some (e,n,v) → ∃ e' n' v',φs.tk k = some (e',n',v') ∧ tkLe e n v e' n' v':=fun k e n v hk => ⟨e,n,v,hk,tkLe.refl _ _ _⟩
  have gs : GOK G φs:=fun gg us hg => by
    obtain ⟨a1,ds,a2,a3,a4⟩:=g gg us hg
    exact ⟨a1,ds,a2,a3,RVs.pure hself _ _ a1 a4⟩
  have ws : RW φs ⟨1,T.set .e 0 ⟨k.cells,0,k.dl⟩,.e,h.tk⟩ W:=by
    have hget : ∀ b2 k2,(T.set (α:=Blk) .e 0 ⟨k.cells,0,k.dl⟩).get b2 = some k2 → b2 = 0 ∧ k2 = ⟨k.cells,0,k.dl⟩:=by
      intro b2 k2 e
      rw [T.get_set] at e
      split at e
      · rename_i h0; cases e; exact ⟨h0,rfl⟩
      · rw [T.get_e] at e; cases e
    refine ⟨fun b2 k2 hb => ?_,fun b2 x2 hb => ?_,fun b2 hb => ?_,fun b1 b2 k2 k3 x1 x2 hb1 hb2 e1 e2 _ => ?_,fun b2 k2 hb => ?_,w.ros,?_⟩
    · obtain ⟨rfl,rfl⟩:=hget b2 k2 hb
      obtain ⟨x',c,e,fr,hx',hcx,s1,s2,s3,s4⟩:=w.blk b k hk
      rw [hx] at hx'; cases hx'
      refine ⟨x,c,e,fr,hs0,hcx,s1,s2,s3,fun j uu hu => ?_⟩
      rcases s4 j uu hu with s5 | ⟨s5,y,s6,s7⟩
      · exact .inl s5
      · exact .inr ⟨s5,y,s6,RV.noRef hself hselft (get_of_all hnr hu) s7⟩
    · obtain ⟨rfl,rfl⟩:=hs b2 x2 hb
      exact ⟨Nat.zero_lt_one,(w.img b x2 hx).2⟩
    · have hb' : 1 ≤ b2:=hb
      cases e : (T.set (α:=Blk) .e 0 ⟨k.cells,0,k.dl⟩).get b2 with
      | none => rfl
      | some k2 => have:=(hget b2 k2 e).1; omega
    · obtain ⟨rfl,rfl⟩:=hget _ _ hb1
      obtain ⟨rfl,rfl⟩:=hget _ _ hb2
      obtain ⟨_,rfl⟩:=hs _ _ e1
      obtain ⟨_,rfl⟩:=hs _ _ e2
      exact ⟨rfl,rfl⟩
    · obtain ⟨rfl,rfl⟩:=hget b2 k2 hb
      exact .inl rfl
    · refine ⟨fun y ds hy => ⟨(w.rest.frz y ds hy).1,fun b2 x2 hb e => ?_⟩,w.rest.tks,w.rest.tku,w.rest.tkn,w.rest.ownf⟩
      obtain ⟨_,rfl⟩:=hs b2 x2 hb
      exact (w.rest.frz y ds hy).2 b x2 hx e
  have hargs : RVs φs (.p 0 0 :: vs) (#[Value.pointer (some ⟨x.1,x.2.1,none⟩)] ++ args).toList:=by
    simp only [Array.toList_append,List.cons_append,List.nil_append,RVs]
    exact ⟨_,_,rfl,by simp only [RV]; exact ⟨x,hs0,by simp⟩,RVs.pureA hself hpure hr⟩
  refine (hc φs W _ gs hargs ws).mono fun e W' hp => ?_
  cases e with
  | returned z =>
    obtain ⟨φ',q1,q2,q3,q4⟩:=hp
    have hx0 : φ' 0 = some x:=q3.le.sub 0 x hs0
    have howns : ∀ wb,Owns φs wb ↔ Owns φ wb:=fun wb => Iff.rfl
    have hnew : ∀ b2 k2 y,h1.bl.get b2 = some k2 → 1 ≤ k2.grp → φ' b2 = some y → W.heap.size ≤ y.1:=by
      intro b2 k2 y hb2 hlo hy
      by_cases hlt : y.1 < W.heap.size
      · obtain ⟨b',x',hb',hxx⟩:=q3.new b2 y hy hlt
        obtain ⟨rfl,rfl⟩:=hs b' x' hb'
        have:=(q2.alias b2 0 k2 k1 y x' hb2 hk1 hy hx0 hxx.symm).1
        omega
      · omega
    let ψ:=froz φ φ' 1 h1 W' φ'.tk
    have hmore : ∀ x ds,φ.fz x = some ds → ∃ more,ψ.fz x = some (ds ++ more):=froz_more (φs:=φs) rfl q3
    have hle : φ.le ψ:=⟨fun b x hb => hb,rfl,hmore,q3.le.tk⟩
    have hpsi : ∀ x ds,φ'.fz x = some ds → ∃ more,ψ.fz x = some (ds ++ more):=fun x ds e => ⟨[],by rw [List.append_nil]; exact froz_old e⟩
    have hnf : ∀ b2 x2,φ b2 = some x2 → ¬ Owns φ x2.1:=fun b2 x2 hb2 ho => by
      obtain ⟨ds,hds⟩:=w.rest.ownf _ ho
      exact (w.rest.frz _ _ hds).2 b2 x2 hb2 rfl
    refine ⟨ψ,fzR_ok (froz_frz q2) q2 hv' q1,?_,?_,?_⟩
    · refine ⟨fun b2 k2 hb => ?_,fun b2 x2 hb => ⟨(w.img b2 x2 hb).1,by have:=(w.img b2 x2 hb).2; have:=q4.size; omega⟩,fun b2 hb => ?_,fun b1 b2 k2 k3 x1 x2 hb1 hb2 e1 e2 hw => ?_,fun b2 k2 hb => ?_,fun wb hwb => by have:=w.ros wb hwb; have:=q4.size; omega,?_⟩
      · simp only [T.get_set] at hb
        split at hb
        · rename_i e
          cases hb
          subst e
          obtain ⟨x',c,e,fr,hx',hcx,s1,s2,s3,s4⟩:=q2.blk 0 k1 hk1
          rw [hx0] at hx'; cases hx'
          refine ⟨x,c,e,fr,hx,hcx,s1,s2,?_,fun j uu hu => ?_⟩
          · have hro : φ'.ro = φ.ro:=q3.le.ro
            unfold Soft at s3 ⊢
            rw [hro,hdl1] at s3
            exact s3
          · rcases s4 j uu hu with s5 | ⟨s5,y,s6,s7⟩
            · exact .inl s5
            · exact .inr ⟨s5,y,s6,RV.noRef hpsi (fun k e n v hk => ⟨e,n,v,hk,tkLe.refl _ _ _⟩) (get_of_all hnr1 hu) s7⟩
        · rename_i hne
          obtain ⟨x2,c,e,fr,hx2,hcx,s1,s2,s3,s4⟩:=w.blk b2 k2 hb
          have hdiff : x2.1 ≠ x.1:=by
            intro e'
            have hg2:=(w.alias b2 b k2 k x2 x hb hk hx2 hx e').1
            rcases w.grp b2 k2 hb with h5 | ⟨l,h5,_⟩
            · omega
            · rw [hg2,hkg,hgr] at h5; cases h5
          have hsame : W'.heap[x2.1]? = W.heap[x2.1]?:=q4.out x2.1 (w.img b2 x2 hx2).2 (fun b3 x3 hb3 e3 => by
            obtain ⟨_,rfl⟩:=hs b3 x3 hb3
            exact (hdiff e3.symm).elim) (fun ho => hnf b2 x2 hx2 ho)
          refine ⟨x2,c,e,fr,hx2,by rw [hsame]; exact hcx,s1,s2,s3,fun j uu hu => ?_⟩
          rcases s4 j uu hu with s5 | ⟨s5,y,s6,s7⟩
          · exact .inl s5
          · exact .inr ⟨s5,y,s6,RV.mono hle _ _ s7⟩
      · have hlt:=(w.img b x hx).1
        have hb' : h.nb ≤ b2:=hb
        simp only [T.get_set]
        rw [if_neg (by omega)]
        exact w.fresh b2 hb
      · simp only [T.get_set] at hb1 hb2
        have e1' : φ b1 = some x1:=e1
        have e2' : φ b2 = some x2:=e2
        split at hb1
        · rename_i c1
          cases hb1
          split at hb2
          · rename_i c2
            cases hb2
            subst c1; subst c2
            rw [e1'] at e2'; cases e2'
            exact ⟨rfl,rfl⟩
          · subst c1
            have hxx : x1 = x:=Option.some.inj (e1'.symm.trans hx)
            rw [hxx] at hw ⊢
            have:=w.alias b1 b2 k k3 x x2 hk hb2 hx e2' hw
            rw [hkg] at this
            exact this
        · split at hb2
          · rename_i c2
            cases hb2
            subst c2
            have hxx : x2 = x:=Option.some.inj (e2'.symm.trans hx)
            rw [hxx] at hw ⊢
            have:=w.alias b1 b2 k2 k x1 x hb1 hk e1' hx hw
            rw [hkg] at this
            exact this
          · exact w.alias b1 b2 k2 k3 x1 x2 hb1 hb2 e1' e2' hw
      · simp only [T.get_set] at hb
        split at hb
        · rename_i c1; cases hb; exact .inl c1
        · exact w.grp b2 k2 hb
      · refine ⟨fun y ds hy => froz_at (φs:=φs) w rfl q2 q3 hnew hy,fun k e n sz hkk => ?_,fun k j y a a' => q2.rest.tku k j y a a',fun k hkk => q2.rest.tkn k hkk,fun wb ho => ?_⟩
        · obtain ⟨uu,u1,u2⟩:=q2.rest.tks k e n sz hkk
          refine ⟨uu,u1,?_⟩
          rcases u2 with u2 | ⟨y,o,c',u3,u4,u5 | ⟨ds,c,el,fr,u6,u7,u8⟩⟩
          · exact .inl u2
          · exact .inr ⟨y,o,c',u3,u4,.inl u5⟩
          · exact .inr ⟨y,o,c',u3,u4,.inr ⟨ds,c,el,fr,froz_old u6,u7,u8⟩⟩
        · obtain ⟨ds,hds⟩:=q2.rest.ownf wb ho
          exact ⟨ds,froz_old hds⟩
    · refine ⟨hle,fun b x hb _ => ⟨b,x,hb,rfl⟩,fun wb ho hlt => q3.own wb ho hlt,fun y ds hy hlt => ?_⟩
      rcases froz_some hy with h2 | ⟨b2,k2,y2,c,e,fr,e1,e2,e3,rfl,hcc,rfl⟩
      · exact q3.frz y ds h2 hlt
      · have:=hnew b2 k2 y2 e1 e2 e3
        omega
    · refine ⟨q4.size,fun wb hwb hout how => q4.out wb hwb (fun b3 x3 hb3 e3 => ?_) how,q4.shape,q4.tape,q4.os,q4.output⟩
      obtain ⟨_,rfl⟩:=hs b3 x3 hb3
      exact hout b x3 hx e3
  | _ => exact hp.elim

end
end Go.Ev
namespace Go.Ev

def Phi.frz (φ : Phi) (x : Nat) (ds : List Value) : Phi:=⟨φ.f,φ.ro,fun y => if y = x then some ds else φ.fz y,φ.tk⟩
def Phi.tok (φ : Phi) (k : Nat) (t : Nat × Nat × Value) : Phi:=⟨φ.f,φ.ro,φ.fz,fun i => if i = k then some t else φ.tk i⟩

section
variable {P : Program} {φ φ1 : Phi} {h : H} {W W' : World}

/-- A TOKEN GOES ON -/
theorem tok_ok (r : RW φ h W) {k e L sz : Nat} {q : Value} (hf : φ1.f = φ.f) (hro : φ1.ro = φ.ro) (htk : φ1.tk = φ.tk) (hfz : ∀ x ds,φ.fz x = some ds → ∃ more,φ1.fz x = some (ds ++ more)) (ext : Ext φ W W') (hkeep : ∀ b x,φ b = some x → W'.heap[x.1]? = W.heap[x.1]?)
    (hrest : ∀ x ds,φ1.fz x = some ds → (∃ c e fr more,W'.heap[x]? = some (.cells c e fr) ∧ c.toList = ds ++ more) ∧ ∀ b y,φ b = some y → y.1 ≠ x)
    (hfrz : ∀ x ds,φ1.fz x = some ds → x < W.heap.size → φ.fz x = some ds ∨ (Owns φ x ∧ ∃ ds',φ.fz x = some ds'))
    (hoth : ∀ j n e' sz' v,j ≠ k → h.tk.get j = some (e',n,sz') → φ.tk j = some (e',n,v) → Holder φ W v n sz' → Holder φ1 W' v n sz')
    (hq : Holder φ1 W' q L sz) (hqu : ∀ x o c',q = .slice (some ⟨x,o,none⟩) L c' → L < c' → ∀ j,j ≠ k → TkAt φ h.tk j x → False)
    (hqo : ∀ p l c,q = .slice (some p) l c → l < c → (∃ ds,φ1.fz p.block = some ds) ∧ (p.block < W.heap.size → Owns φ p.block))
    (hle : ∀ e0 n0 v0,φ.tk k = some (e0,n0,v0) → tkLe e0 n0 v0 e L q) :
    φ.le (φ1.tok k (e,L,q)) ∧ RW (φ1.tok k (e,L,q)) ⟨h.nb,h.bl,h.gr,h.tk.set k (e,L,sz)⟩ W' ∧ Grow φ (φ1.tok k (e,L,q)) W:=by
  have tkk : (φ1.tok k (e,L,q)).tk k = some (e,L,q):=by simp [Phi.tok]
  have tkj : ∀ j,j ≠ k → (φ1.tok k (e,L,q)).tk j = φ.tk j:=by intro j hj; simp [Phi.tok,hj,htk]
  have le : φ.le (φ1.tok k (e,L,q)):=by
    refine ⟨fun b x hb => by show φ1.f b = some x; rw [hf]; exact hb,hro,hfz,fun j e0 n0 v0 hj => ?_⟩
    by_cases hjk : j = k
    · subst hjk; exact ⟨e,L,q,tkk,hle _ _ _ hj⟩
    · exact ⟨e0,n0,v0,by rw [tkj j hjk]; exact hj,tkLe.refl _ _ _⟩
  have own : ∀ wb,Owns (φ1.tok k (e,L,q)) wb → (∃ ds,φ1.fz wb = some ds) ∧ (wb < W.heap.size → Owns φ wb):=by
    intro wb ho
    obtain ⟨j,e0,n0,p,l,c,h1,h2,h3⟩:=ho
    by_cases hjk : j = k
    · subst hjk
      rw [tkk] at h1
      simp only [Option.some.injEq,Prod.mk.injEq] at h1
      subst h3
      exact hqo p l c h1.2.2 h2
    · rw [tkj j hjk] at h1
      have ho : Owns φ wb:=⟨j,e0,n0,p,l,c,h1,h2,h3⟩
      obtain ⟨ds,hds⟩:=r.rest.ownf wb ho
      obtain ⟨more,hm⟩:=hfz wb ds hds
      exact ⟨⟨_,hm⟩,fun _ => ho⟩
  refine ⟨le,?_,⟨le,fun b x hb _ => ⟨b,x,by have : φ1.f b = some x:=hb; rw [hf] at this; exact this,rfl⟩,fun wb ho hlt => (own wb ho).2 hlt,hfrz⟩⟩
  -- the blocks stand
  have f' : ∀ b,(φ1.tok k (e,L,q)) b = φ b:=fun b => by show φ1.f b = φ.f b; rw [hf]
  refine ⟨fun b k2 hb => ?_,fun b x hb => ?_,r.fresh,fun b1 b2 k1 k2 x1 x2 h1 h2 e1 e2 hw => ?_,r.grp,fun wb hwb => ?_,?_⟩
  · obtain ⟨x,c,el,fr,hx,hcx,s1,s2,s3,s4⟩:=r.blk b k2 hb
    refine ⟨x,c,el,fr,by rw [f']; exact hx,by rw [hkeep b x hx]; exact hcx,s1,s2,?_,fun j uu hu => ?_⟩
    · show Soft (φ1.tok k (e,L,q)) x.1 k2.dl c fr
      unfold Soft at s3 ⊢
      show (φ1.ro x.1 = true ∧ _) ∨ (φ1.ro x.1 = false ∧ _)
      rw [hro]; exact s3
    · rcases s4 j uu hu with s5 | ⟨s5,y,s6,s7⟩
      · exact .inl s5
      · exact .inr ⟨s5,y,s6,RV.mono le _ _ s7⟩
  · rw [f'] at hb
    obtain ⟨h1,h2⟩:=r.img b x hb
    have:=ext.size
    exact ⟨h1,by omega⟩
  · rw [f'] at e1 e2
    exact r.alias b1 b2 k1 k2 x1 x2 h1 h2 e1 e2 hw
  · have hwb' : φ1.ro wb = true:=hwb
    rw [hro] at hwb'
    have:=r.ros wb hwb'
    have:=ext.size
    omega
  · refine ⟨fun x ds hx => ?_,fun j e0 n sz' hj => ?_,fun j i x hj hi => ?_,fun j hj => ?_,fun wb ho => (own wb ho).1⟩
    · obtain ⟨a1,a2⟩:=hrest x ds hx
      exact ⟨a1,fun b y hy => a2 b y (by rw [← f']; exact hy)⟩
    · rw [T.get_set] at hj
      by_cases hjk : j = k
      · rw [if_pos hjk] at hj
        simp only [Option.some.injEq,Prod.mk.injEq] at hj
        obtain ⟨rfl,rfl,rfl⟩:=hj
        subst hjk
        exact ⟨q,tkk,hq⟩
      · rw [if_neg hjk] at hj
        obtain ⟨v,h1,h2⟩:=r.rest.tks j e0 n sz' hj
        refine ⟨v,by rw [tkj j hjk]; exact h1,?_⟩
        exact hoth j n e0 sz' v hjk hj h1 h2
    · obtain ⟨e0,n0,sz0,o0,c0,a1,a2,a3⟩:=hj
      obtain ⟨e1,n1,sz1,o1,c1,b1,b2,b3⟩:=hi
      rw [T.get_set] at a1 b1
      by_cases hjk : j = k
      · by_cases hik : i = k
        · rw [hjk,hik]
        · rw [if_neg hik] at b1
          rw [tkj i hik] at b2
          rw [hjk,tkk] at a2
          simp only [Option.some.injEq,Prod.mk.injEq] at a2
          obtain ⟨_,rfl,a2⟩:=a2
          exact (hqu x o0 c0 a2 a3 i hik ⟨e1,n1,sz1,o1,c1,b1,b2,b3⟩).elim
      · rw [if_neg hjk] at a1
        rw [tkj j hjk] at a2
        by_cases hik : i = k
        · rw [hik,tkk] at b2
          simp only [Option.some.injEq,Prod.mk.injEq] at b2
          obtain ⟨_,rfl,b2⟩:=b2
          exact (hqu x o1 c1 b2 b3 j hjk ⟨e0,n0,sz0,o0,c0,a1,a2,a3⟩).elim
        · rw [if_neg hik] at b1
          rw [tkj i hik] at b2
          exact r.rest.tku j i x ⟨e0,n0,sz0,o0,c0,a1,a2,a3⟩ ⟨e1,n1,sz1,o1,c1,b1,b2,b3⟩
    · rw [T.get_set] at hj
      split at hj
      · cases hj
      · rename_i hjk
        rw [tkj j hjk]
        exact r.rest.tkn j hj

/-- the next epoch is later -/
theorem ep_le (r : RW φ h W) (k n : Nat) (v : Value) : ∀ e0 n0 v0,φ.tk k = some (e0,n0,v0) → tkLe e0 n0 v0 (h.ep k) n v:=by
  intro e0 n0 v0 h1
  unfold H.ep
  split
  · rename_i h2
    rw [r.rest.tkn k h2] at h1; cases h1
  · rename_i t h2
    obtain ⟨e,n',sz⟩:=t
    obtain ⟨v',h3,_⟩:=r.rest.tks k e n' sz h2
    rw [h1] at h3
    simp only [Option.some.injEq,Prod.mk.injEq] at h3
    obtain ⟨rfl,_⟩:=h3
    exact .inl (Nat.lt_succ_self _)

/-- a token without room begins,at a slice that there is -/
theorem tok_new (r : RW φ h W) {k n sz : Nat} {cs : List V} {p : Option Addr} {q : Value} (hqv : q = .slice p n n) (hrv : RV φ (.fz .no n sz cs) q) :
    ∃ φ',RV φ' (.fz (.tk k (h.ep k)) n sz cs) q ∧ RW φ' ⟨h.nb,h.bl,h.gr,h.tk.set k (h.ep k,n,sz)⟩ W ∧ Grow φ φ' W:=by
  have hhold : Holder φ W q n sz:=by
    simp only [RV] at hrv
    obtain ⟨_,_,_,p',c',h3,_,h5,h6,_⟩:=hrv
    rw [hqv] at h3
    simp only [Value.slice.injEq] at h3
    obtain ⟨rfl,_,rfl⟩:=h3
    by_cases hn0 : n = 0
    · subst hn0; exact .inl ⟨⟨p,hqv⟩,rfl⟩
    cases p with
    | none => obtain ⟨rfl,_⟩:=h5 rfl; exact (hn0 rfl).elim
    | some a =>
      have:=(h6.resolve_left hn0) a rfl
      obtain ⟨ab,ao,as⟩:=a
      simp only at this
      subst this
      exact .inr ⟨ab,ao,n,hqv,Nat.le_refl _,.inl rfl⟩
  obtain ⟨h1,h2,h3⟩:=tok_ok (φ1:=φ) (k:=k) (e:=h.ep k) (L:=n) (sz:=sz) (q:=q) r rfl rfl rfl (fun x ds hd => ⟨[],by simpa using hd⟩) (Ext.refl _ _) (fun _ _ _ => rfl) (fun x ds hd => r.rest.frz x ds hd) (fun x ds hd _ => .inl hd)
    (fun j n e' sz' v _ _ _ hh => hh) hhold (fun x o c' e hlt => by rw [hqv] at e; simp only [Value.slice.injEq] at e; omega) (fun p l c e hlt => by rw [hqv] at e; simp only [Value.slice.injEq] at e; omega) (ep_le r k n q)
  refine ⟨_,?_,h2,h3⟩
  have hm:=RV.mono h1 _ _ hrv
  simp only [RV] at hm ⊢
  obtain ⟨m0,m1,m2,p',c',m3,m4,m5,m6,m7,_⟩:=hm
  exact ⟨m0,m1,m2,p',c',m3,m4,m5,m6,m7,h.ep k,n,q,by simp [Phi.tok],tkLe.refl _ _ _⟩

theorem Holder.more {v : Value} {n sz : Nat} (hh : Holder φ W v n sz) (hd : ∀ x o c',v = .slice (some ⟨x,o,none⟩) n c' → n < c' → ∀ ds,φ.fz x = some ds → φ1.fz x = some ds ∧ W'.heap[x]? = W.heap[x]?) : Holder φ1 W' v n sz:=by
  rcases hh with hh | ⟨x,o,c',h1,h2,h3 | ⟨ds,c,e,fr,h4,h5,h6⟩⟩
  · exact .inl hh
  · exact .inr ⟨x,o,c',h1,h2,.inl h3⟩
  · by_cases hlt : n < c'
    · obtain ⟨a1,a2⟩:=hd x o c' h1 hlt ds h4
      exact .inr ⟨x,o,c',h1,h2,.inr ⟨ds,c,e,fr,a1,by rw [a2]; exact h5,h6⟩⟩
    · exact .inr ⟨x,o,c',h1,h2,.inl (by omega)⟩

/-- APPEND UNDER A TOKEN: what is held,and what is appended,is frozen behind it -/
theorem appT_ok (r : RW φ h W) {X v : V} {sz bytes n k : Nat} {new : List V} {h' : H} (ha : h.appT X sz bytes n k new = some (v,h')) {zx : Value} (hX : RV φ X zx) (hsz : 1 ≤ sz) {ys : List Value} (hys : ys.length = n * sz) (hnew : RVs φ new ys) (hpure : pureL new = true)
    {m : Sem Value} {el : TypeId} {z : Value} (hm : ∀ b l c,zx = .slice b l c → AppRuns P m b l c sz n ys bytes el z W) :
    ∃ φ' q W',m.run P W = .ok q W' ∧ RV φ' v q ∧ RW φ' h' W' ∧ Grow φ φ' W ∧ Ext φ W W':=by
  -- the three bases,as one
  have key : ∀ (j e l : Nat) (cs : List V),RV φ (.fz .no l sz cs) zx → (∀ e0 n0 v0,φ.tk j = some (e0,n0,v0) → ∀ L q,l ≤ L → (n = 0 → q = zx) → (0 < n → l < L) → tkLe e0 n0 v0 e L q) →
      (∀ p c',zx = .slice p l c' → l < c' → h.tk.get j = some (e,l,sz) ∧ φ.tk j = some (e,l,zx)) →
      appB bytes (l + n) = true → ∃ φ' q W',m.run P W = .ok q W' ∧ RV φ' (.fz (.tk j e) (l + n) sz (app cs new)) q ∧ RW φ' ⟨h.nb,h.bl,h.gr,h.tk.set j (e,l + n,sz)⟩ W' ∧ Grow φ φ' W ∧ Ext φ W W':=by
    intro j e l cs hX hle hroom hb
    have hX':=hX
    simp only [RV] at hX
    obtain ⟨k0,k1,k2,p,c',he,k4,k5,k6,k7,_⟩:=hX
    have hA:=hm _ _ _ he
    simp only [appB,Bool.and_eq_true,Nat.ble_eq] at hb
    have hhold0 : Holder φ W zx l sz:=by
      by_cases hlc : l < c'
      · obtain ⟨h1,h2⟩:=hroom p c' he hlc
        obtain ⟨v,h3,h4⟩:=r.rest.tks j e l sz h1
        rw [h2] at h3
        simp only [Option.some.injEq,Prod.mk.injEq,true_and] at h3
        rw [h3]; exact h4
      · have hlc' : c' = l:=by omega
        subst hlc'
        by_cases hn0 : c' = 0
        · subst hn0; exact .inl ⟨⟨p,he⟩,rfl⟩
        cases p with
        | none => obtain ⟨rfl,_⟩:=k5 rfl; exact (hn0 rfl).elim
        | some a =>
          have:=(k6.resolve_left hn0) a rfl
          obtain ⟨ab,ao,as⟩:=a
          simp only at this
          subst this
          exact .inr ⟨ab,ao,c',he,Nat.le_refl _,.inl rfl⟩
    have huni : ∀ x o c1,zx = .slice (some ⟨x,o,none⟩) l c1 → l < c1 → ∀ i,i ≠ j → TkAt φ h.tk i x → False:=by
      intro x o c1 e1 hlt i hi ht
      obtain ⟨h1,h2⟩:=hroom _ _ e1 hlt
      exact hi (r.rest.tku i j x ht ⟨e,l,sz,o,c1,h1,by rw [h2,e1],hlt⟩)
    have hownz : ∀ pp l1 c1,zx = .slice (some pp) l1 c1 → l1 < c1 → Owns φ pp.block:=by
      intro pp l1 c1 e1 hlt
      have e2:=e1
      rw [he] at e2
      simp only [Value.slice.injEq] at e2
      obtain ⟨rfl,rfl,rfl⟩:=e2
      obtain ⟨_,h2⟩:=hroom _ _ he hlt
      exact ⟨j,e,l,pp,l,c',by rw [h2,he],hlt,rfl⟩
    by_cases hn : n = 0
    · -- nothing is appended
      subst hn
      have hnil : new = []:=by
        have:=hnew.length
        rw [hys] at this
        exact List.eq_nil_of_length_eq_zero (by omega)
      subst hnil
      obtain ⟨h1,h2,h3⟩:=tok_ok (φ1:=φ) (k:=j) (e:=e) (L:=l) (sz:=sz) (q:=zx) r rfl rfl rfl (fun x ds hd => ⟨[],by simpa using hd⟩) (Ext.refl _ _) (fun _ _ _ => rfl) (fun x ds hd => r.rest.frz x ds hd) (fun x ds hd _ => .inl hd)
        (fun j n e' sz' v _ _ _ hh => hh) hhold0 huni (fun p l c e hlt => ⟨r.rest.ownf _ (hownz p l c e hlt),fun _ => hownz p l c e hlt⟩) (fun e0 n0 v0 h0 => hle e0 n0 v0 h0 l zx (Nat.le_refl _) (fun _ => rfl) (fun h => absurd h (Nat.lt_irrefl 0)))
      refine ⟨_,zx,W,by rw [he]; exact hA.nothing rfl k4,?_,h2,h3,Ext.refl _ _⟩
      have hmm:=RV.mono h1 _ _ hX'
      simp only [RV] at hmm ⊢
      obtain ⟨m0,m1,m2,p',c1,m3,m4,m5,m6,m7,_⟩:=hmm
      rw [app_eq,List.append_nil]
      exact ⟨m0,m1,m2,p',c1,m3,m4,m5,m6,m7,e,l,zx,by simp [Phi.tok],tkLe.refl _ _ _⟩
    clear hX'
    by_cases hfit : l + n ≤ c'
    · -- there is room: the token's
      obtain ⟨h1,h2⟩:=hroom p c' he (by omega)
      rcases hhold0 with ⟨⟨_,h3⟩,_⟩ | ⟨x,o,c1,h3,h4,h5⟩
      · rw [he] at h3; simp only [Value.slice.injEq] at h3; omega
      rw [he] at h3
      simp only [Value.slice.injEq] at h3
      obtain ⟨rfl,_,rfl⟩:=h3
      rcases h5 with h5 | ⟨ds,c,e5,fr,g1,g2,g3,g4,g5⟩
      · omega
      have hold : RVs φ cs ((ds.drop o).take (l * sz)):=by
        rcases k7 with k7 | ⟨x',o',ds',w1,w2,w3,w4⟩
        · subst k7
          have hc : cs = []:=List.eq_nil_of_length_eq_zero (by omega)
          subst hc
          simp [RVs]
        · simp only [Option.some.injEq,Addr.mk.injEq] at w1
          obtain ⟨rfl,rfl,_⟩:=w1
          rw [g1] at w2; cases w2
          exact w4
      clear k7
      have hle2 : (l + n) * sz ≤ c' * sz:=Nat.mul_le_mul_right _ hfit
      have hadd : (l + n) * sz = l * sz + n * sz:=Nat.add_mul _ _ _
      have hfit' : o + l * sz + ys.length ≤ c.size:=by omega
      have hcell : ∀ i,i < ys.length → (W.cell? ⟨x,o + l * sz + 0 + i,none⟩).isSome = true:=by
        intro i hi
        have : o + l * sz + i < c.size:=by omega
        simp [World.cell?,g2,this]
      have hfro : ∀ i,i < ys.length → W.frozen? ⟨x,o + l * sz + 0 + i,none⟩ = false:=by
        intro i hi
        simp only [World.frozen?,g2,Nat.add_zero,Bool.and_eq_false_iff,decide_eq_false_iff_not]
        omega
      have h1c : ∀ y ∈ ys,y.oneCell' = true:=by
        intro y hy
        obtain ⟨i,hi⟩:=List.getElem?_of_mem hy
        have hil : i < new.length:=by
          have:=hnew.length
          obtain ⟨hlt,_⟩:=List.getElem?_eq_some_iff.1 hi
          omega
        obtain ⟨y',hy',hry⟩:=hnew.get (List.getElem?_eq_getElem hil)
        rw [hi] at hy'; cases hy'
        exact (hry.oneCell (get_of_all (pureL_one hpure) (List.getElem?_eq_getElem hil))).1
      have hrun:=run_storeCells_cells (P:=P) x (o + l * sz) ys 0 W hcell hfro h1c
      rw [Nat.add_zero] at hrun
      obtain ⟨c2,a1,a2,a3,a4,a5,a6,a7⟩:=setCells_heap x ys (o + l * sz) W c e5 fr g2 hfit'
      obtain ⟨⟨c3,e3,fr3,more,b1,b2⟩,b3⟩:=r.rest.frz x ds g1
      rw [g2] at b1; cases b1
      have hown : Owns φ x:=hownz ⟨x,o,none⟩ l c' he (by omega)
      have hsz2 : c2.size = c.size:=by
        have:=congrArg List.length a2
        simpa [length_putN] using this
      have hpre : ∃ more',c2.toList = (ds ++ ys) ++ more':=by
        refine ⟨more.drop ys.length,?_⟩
        rw [a2,b2]
        have hlen2 : ds.length + ys.length ≤ (ds ++ more).length:=by rw [← b2]; have e9 : c.toList.length = c.size:=Array.length_toList; omega
        apply List.ext_getElem?
        intro i
        rw [get_putN,← g3]
        by_cases h1' : ds.length ≤ i ∧ i < ds.length + ys.length ∧ i < (ds ++ more).length
        · rw [if_pos h1',List.append_assoc,List.getElem?_append_right (by omega),List.getElem?_append_left (by omega)]
        · rw [if_neg h1',List.append_assoc]
          by_cases h2' : i < ds.length
          · rw [List.getElem?_append_left h2',List.getElem?_append_left h2']
          · rw [List.getElem?_append_right (by omega),List.getElem?_append_right (by omega)]
            by_cases h3' : i < ds.length + ys.length
            · exfalso; exact h1' ⟨by omega,h3',by omega⟩
            · rw [List.getElem?_append_right (by omega),List.getElem?_drop]
              congr 1; omega
      obtain ⟨more',hmore'⟩:=hpre
      have hext : Ext φ W (W.setCells x (o + l * sz) ys):=by
        refine ⟨by rw [a4]; exact Nat.le_refl _,fun wb _ _ how => a3 wb fun e' => how (by rw [e']; exact hown),fun wb cw ew fw hw => ?_,a5,a6,a7⟩
        by_cases hwx : wb = x
        · subst hwx
          rw [g2] at hw; cases hw
          exact ⟨c2,a1,hsz2⟩
        · exact ⟨cw,by rw [a3 wb hwx]; exact hw,rfl⟩
      have hq : Holder (φ.frz x (ds ++ ys)) (W.setCells x (o + l * sz) ys) (.slice (some ⟨x,o,none⟩) (l + n) c') (l + n) sz:=by
        refine .inr ⟨x,o,c',rfl,hfit,?_⟩
        by_cases hc : c' = l + n
        · exact .inl hc
        · right
          exact ⟨ds ++ ys,c2,e5,fr,by simp [Phi.frz],a1,by rw [List.length_append]; omega,by omega,by omega⟩
      obtain ⟨t1,t2,t3⟩:=tok_ok (φ1:=φ.frz x (ds ++ ys)) (k:=j) (e:=e) (L:=l + n) (sz:=sz) (q:=.slice (some ⟨x,o,none⟩) (l + n) c') r rfl rfl rfl
        (fun y dy hy => by
          simp only [Phi.frz]
          by_cases hyx : y = x
          · subst hyx; rw [g1] at hy; cases hy; exact ⟨ys,by simp⟩
          · exact ⟨[],by rw [if_neg hyx,List.append_nil]; exact hy⟩) hext
        (fun b y hy => a3 y.1 (b3 b y hy))
        (fun y dy hy => by
          simp only [Phi.frz] at hy
          by_cases hyx : y = x
          · rw [if_pos hyx] at hy
            cases hy
            subst hyx
            exact ⟨⟨c2,e5,fr,more',a1,hmore'⟩,b3⟩
          · rw [if_neg hyx] at hy
            rw [a3 y hyx]
            exact r.rest.frz y dy hy)
        (fun y dy hy hlt => by
          simp only [Phi.frz] at hy
          by_cases hyx : y = x
          · subst hyx; exact .inr ⟨hown,ds,g1⟩
          · rw [if_neg hyx] at hy; exact .inl hy)
        (fun i ni ei szi vi hi hti hpi hh => hh.more fun y oy cy hv hlt dy hdy => by
          have hyx : y ≠ x:=fun e' => huni x o c' he (by omega) i hi (by subst e'; exact ⟨ei,ni,szi,oy,cy,hti,by rw [hpi,hv],hlt⟩)
          exact ⟨by simp only [Phi.frz]; rw [if_neg hyx]; exact hdy,a3 y hyx⟩)
        hq
        (fun y oy cy hv hlt i hi ht => by
          simp only [Value.slice.injEq,Option.some.injEq,Addr.mk.injEq] at hv
          obtain ⟨⟨rfl,_⟩,_,_⟩:=hv
          exact huni x o c' he (by omega) i hi ht)
        (fun pp l1 c1 hv hlt => by
          simp only [Value.slice.injEq,Option.some.injEq] at hv
          obtain ⟨rfl,_,_⟩:=hv
          exact ⟨⟨ds ++ ys,by simp [Phi.frz]⟩,fun _ => hown⟩)
        (fun e0 n0 v0 h0 => hle e0 n0 v0 h0 (l + n) _ (by omega) (fun h => absurd h hn) (fun _ => by omega))
      refine ⟨_,_,_,by exact hA.room ⟨x,o,none⟩ _ rfl (by omega) hfit (by rw [add_off]; exact hrun),?_,t2,t3,hext⟩
      simp only [RV]
      refine ⟨by rw [app_eq]; exact pureL_app k0 hpure,by rw [app_eq,List.length_append,k1,hnew.length,hys,hadd],k2,_,c',rfl,hfit,(fun e' => by cases e'),(.inr fun a e' => by cases e'; rfl),.inr ⟨x,o,ds ++ ys,rfl,by simp [Phi.tok,Phi.frz],by rw [List.length_append]; omega,?_⟩,e,l + n,_,by simp [Phi.tok],tkLe.refl _ _ _⟩
      rw [app_eq]
      have hsplit : ((ds ++ ys).drop o).take ((l + n) * sz) = (ds.drop o).take (l * sz) ++ ys:=by
        rw [List.drop_append_of_le_length (by omega),List.take_of_length_le (l:=ds.drop o) (by rw [List.length_drop]; omega)]
        exact List.take_of_length_le (by rw [List.length_append,List.length_drop]; omega)
      rw [hsplit]
      exact (RVs.mono t1 _ _ hold).append (RVs.mono t1 _ _ hnew)
    · -- it is laid anew
      obtain ⟨os,hol,hor,hfirst⟩ : ∃ os : List Value,os.length = l * sz ∧ RVs φ cs os ∧ (Builtin.firstCells sz l (.slice p l c')).run P W.drew = .ok os.toArray W.drew:=by
        rcases k7 with k7 | ⟨x,o,ds,rfl,q1,q2,q3⟩
        · subst k7
          have hc : cs = []:=List.eq_nil_of_length_eq_zero (by omega)
          subst hc
          refine ⟨[],by simp,by simp [RVs],?_⟩
          cases p with
          | none => exact run_firstCells_none _ _ _ _ _
          | some a => exact run_firstCells_some W.drew sz 0 _ _ _ [] (by simp) (fun j v hv => by simp at hv)
        · refine ⟨_,?_,q3,run_firstCells_some W.drew sz l _ _ _ _ ?_ (fun j v hv => ?_)⟩
          · rw [List.length_take,List.length_drop]; omega
          · rw [List.length_take,List.length_drop]; omega
          · have:=frz_cells r q1 q2 hv
            simpa using this
      clear k7
      obtain ⟨more,cap,hcap,hmore,hrun⟩:=hA.grown os (by omega) (by omega) hfirst hb.1 hb.2
      have hclen : (os ++ ys).length = (l + n) * sz:=by rw [List.length_append,hol,hys,← Nat.add_mul]
      generalize hW' : W.drew.alloc (.cells (os ++ ys ++ more).toArray el) = W' at hrun
      have hat : W'.heap[W.heap.size]? = some (.cells (os ++ ys ++ more).toArray el (0,0)):=by
        rw [← hW']; show (W.heap.push _)[W.heap.size]? = _; simp
      have hsize : W'.heap.size = W.heap.size + 1:=by rw [← hW']; show (W.heap.push _).size = _; simp
      have hold : ∀ i,i < W.heap.size → W'.heap[i]? = W.heap[i]?:=by
        intro i hi
        rw [← hW']
        show (W.heap.push _)[i]? = _
        simp [Array.getElem?_push,Nat.ne_of_lt hi]
      have hext : Ext φ W W':=by
        refine ⟨by omega,fun wb hwb _ _ => hold wb hwb,fun wb cw ew fw hw => ⟨cw,?_,rfl⟩,by rw [← hW']; rfl,by rw [← hW']; rfl,by rw [← hW']; rfl⟩
        rw [hold wb]
        · exact hw
        · obtain ⟨hlt,_⟩:=Array.getElem?_eq_some_iff.1 hw
          exact hlt
      have hlt : ∀ y dy,φ.fz y = some dy → y < W.heap.size:=fun y dy hy => r.rest.lt hy
      have hq : Holder (φ.frz W.heap.size (os ++ ys)) W' (.slice (some ⟨W.heap.size,0,none⟩) (l + n) cap) (l + n) sz:=by
        refine .inr ⟨_,0,cap,rfl,hcap,?_⟩
        by_cases hc : cap = l + n
        · exact .inl hc
        · right
          refine ⟨os ++ ys,_,el,(0,0),by simp [Phi.frz],hat,by omega,?_,.inl (Nat.le_refl _)⟩
          have : cap * sz = (l + n) * sz + (cap - (l + n)) * sz:=by rw [← Nat.add_mul]; congr 1; omega
          simp only [List.size_toArray,List.length_append (bs:=more),hclen,hmore]
          omega
      obtain ⟨t1,t2,t3⟩:=tok_ok (φ1:=φ.frz W.heap.size (os ++ ys)) (k:=j) (e:=e) (L:=l + n) (sz:=sz) (q:=.slice (some ⟨W.heap.size,0,none⟩) (l + n) cap) r rfl rfl rfl
        (fun y dy hy => ⟨[],by
          have:=hlt y dy hy
          simp only [Phi.frz]
          rw [if_neg (by omega),List.append_nil]; exact hy⟩) hext
        (fun b y hy => hold y.1 (r.img b y hy).2)
        (fun y dy hy => by
          simp only [Phi.frz] at hy
          by_cases hyx : y = W.heap.size
          · rw [if_pos hyx] at hy
            cases hy
            subst hyx
            exact ⟨⟨_,el,(0,0),more,hat,by simp⟩,fun b y hy e' => by have:=(r.img b y hy).2; omega⟩
          · rw [if_neg hyx] at hy
            rw [hold y (hlt y dy hy)]
            exact r.rest.frz y dy hy)
        (fun y dy hy hl' => by
          simp only [Phi.frz] at hy
          rw [if_neg (by omega)] at hy
          exact .inl hy)
        (fun i ni ei szi vi hi hti hpi hh => hh.more fun y oy cy hv hlt' dy hdy => by
          have:=hlt y dy hdy
          exact ⟨by simp only [Phi.frz]; rw [if_neg (by omega)]; exact hdy,hold y this⟩)
        hq
        (fun y oy cy hv hlt' i hi ht => by
          simp only [Value.slice.injEq,Option.some.injEq,Addr.mk.injEq] at hv
          obtain ⟨⟨rfl,_⟩,_,_⟩:=hv
          obtain ⟨ei,ni,szi,oi,ci,_,h2,h3⟩:=ht
          obtain ⟨dy,hdy⟩:=r.rest.ownf W.heap.size ⟨i,ei,ni,⟨W.heap.size,oi,none⟩,ni,ci,h2,h3,rfl⟩
          have:=hlt _ _ hdy
          omega)
        (fun pp l1 c1 hv hlt' => by
          simp only [Value.slice.injEq,Option.some.injEq] at hv
          obtain ⟨rfl,_,_⟩:=hv
          exact ⟨⟨os ++ ys,by simp [Phi.frz]⟩,fun h' => absurd h' (Nat.lt_irrefl _)⟩)
        (fun e0 n0 v0 h0 => hle e0 n0 v0 h0 (l + n) _ (by omega) (fun h => absurd h hn) (fun _ => by omega))
      refine ⟨_,_,_,hrun,?_,t2,t3,hext⟩
      simp only [RV]
      have hadd : (l + n) * sz = l * sz + n * sz:=Nat.add_mul _ _ _
      refine ⟨by rw [app_eq]; exact pureL_app k0 hpure,by rw [app_eq,List.length_append,k1,hnew.length,hys,hadd],k2,_,cap,rfl,hcap,(fun e' => by cases e'),(.inr fun a e' => by cases e'; rfl),.inr ⟨W.heap.size,0,os ++ ys,rfl,by simp [Phi.tok,Phi.frz],by omega,?_⟩,e,l + n,_,by simp [Phi.tok],tkLe.refl _ _ _⟩
      rw [app_eq,List.drop_zero,List.take_of_length_le (by omega)]
      exact (RVs.mono t1 _ _ hor).append (RVs.mono t1 _ _ hnew)
  -- .. each in its turn
  have fresh : ∀ (l : Nat) (p : Option Addr),zx = .slice p l l → ∀ e0 n0 v0,φ.tk k = some (e0,n0,v0) → ∀ L q,l ≤ L → (n = 0 → q = zx) → (0 < n → l < L) → tkLe e0 n0 v0 (h.ep k) L q:=
    fun l p _ e0 n0 v0 h0 L q _ _ _ => ep_le r k L q e0 n0 v0 h0
  unfold H.appT at ha
  split at ha
  · -- nil
    simp only [cond_eq_ite] at ha
    split at ha
    · rename_i hb
      simp only [H.appK,Option.some.injEq,Prod.mk.injEq] at ha
      obtain ⟨rfl,rfl⟩:=ha
      simp only [RV] at hX
      have h1:=key k (h.ep k) 0 [] (by rw [hX]; exact RV.nil hsz) (fresh 0 none hX) (fun p c' e' hlt => by rw [hX] at e'; simp only [Value.slice.injEq] at e'; omega) (by rw [Nat.zero_add]; exact hb)
      rw [Nat.zero_add] at h1
      exact h1
    · cases ha
  · -- a row of no elements,which has no room
    rename_i b0 o0 l c sz' ex
    simp only [cond_eq_ite,Bool.and_eq_true,Nat.beq_eq] at ha
    split at ha
    · rename_i hb
      obtain ⟨⟨⟨⟨rfl,rfl⟩,rfl⟩,rfl⟩,hb⟩:=hb
      simp only [H.appK,Option.some.injEq,Prod.mk.injEq] at ha
      obtain ⟨rfl,rfl⟩:=ha
      simp only [RV] at hX
      obtain ⟨x,o',c',hx,he,h1,h2,h3,h4,h5⟩:=hX
      have hc0 : c' = 0:=by simpa using h3
      subst hc0
      have hrv : RV φ (.fz .no 0 sz []) zx:=by
        rw [he]
        simp only [RV]
        exact ⟨by rfl,by simp,hsz,_,0,rfl,Nat.le_refl _,(fun e => by cases e),(.inr fun a e => by cases e; rfl),by simp,trivial⟩
      have h1:=key k (h.ep k) 0 [] hrv (fresh 0 _ he) (fun p c' e' hlt => by rw [he] at e'; simp only [Value.slice.injEq] at e'; omega) (by rw [Nat.zero_add]; exact hb)
      rw [Nat.zero_add] at h1
      exact h1
    · cases ha
  · rename_i m' l sz' cs
    simp only [cond_eq_ite,Bool.and_eq_true,Nat.beq_eq] at ha
    split at ha
    case isFalse => cases ha
    rename_i hb
    obtain ⟨rfl,hb⟩:=hb
    have hd : RV φ (.fz .no l sz cs) zx:=RV.dem hX
    simp only [RV] at hX
    obtain ⟨_,_,_,p,c',he,_,_,_,_,k8⟩:=hX
    split at ha
    · cases ha
    · -- the capacity is known
      simp only [H.appK,Option.some.injEq,Prod.mk.injEq] at ha
      obtain ⟨rfl,rfl⟩:=ha
      have hcl : c' = l:=k8
      subst hcl
      exact key k (h.ep k) c' cs hd (fresh c' p he) (fun p1 c1 e' hlt => by rw [he] at e'; simp only [Value.slice.injEq] at e'; omega) hb
    · -- a token's
      rename_i j e
      split at ha
      · cases ha
      rename_i t ht
      obtain ⟨e1,l1,s1⟩:=t
      simp only [H.appK] at ha
      split at ha
      case isFalse => cases ha
      rename_i hc
      obtain ⟨⟨rfl,rfl⟩,rfl⟩:=hc
      simp only [Option.some.injEq,Prod.mk.injEq] at ha
      obtain ⟨rfl,rfl⟩:=ha
      obtain ⟨vt,h1,h2⟩:=r.rest.tks j e l sz ht
      have hv : zx = vt:=by
        obtain ⟨e0,n0,v0,a1,a2⟩:=k8
        rw [h1] at a1
        simp only [Option.some.injEq,Prod.mk.injEq] at a1
        obtain ⟨rfl,rfl,rfl⟩:=a1
        rcases a2 with a2 | ⟨_,a2 | ⟨_,a2⟩⟩
        · omega
        · omega
        · exact a2
      refine key j e l cs hd (fun e0 n0 v0 h0 L q hL hn0 hn1 => ?_) (fun p1 c1 e' hlt => ⟨ht,by rw [h1,hv]⟩) hb
      rw [h1] at h0
      simp only [Option.some.injEq,Prod.mk.injEq] at h0
      obtain ⟨rfl,rfl,rfl⟩:=h0
      by_cases hn : n = 0
      · by_cases hL2 : l < L
        · exact .inr ⟨rfl,.inl hL2⟩
        · exact .inr ⟨rfl,.inr ⟨by omega,by rw [hn0 hn,hv]⟩⟩
      · exact .inr ⟨rfl,.inl (hn1 (by omega))⟩
  · cases ha

end
end Go.Ev
namespace Go.Ev

section
variable {P : Program} {G : GL} {call : Call} {nt : Nat} {φ : Phi} {h h' : H} {W : World} {env : Env} {a : Act} {v : V} {X : Hint}
  {K : Act → World → Prop} {Q : Exit → Act → World → Prop} {o : Oper}

theorem toDs_ok (r : REnv nt φ env a.tmps) (g : GOK G φ) : ∀ (xs : List Operand) (ts : List TypeId) (os : List O) (vs : List V),toDs P G ts xs = some os → evs env os = some vs → RVs φ vs (xs.map a.eval):=by
  intro xs
  induction xs with
  | nil =>
    intro ts os vs h1 h2
    simp only [toDs,Option.some.injEq] at h1
    subst h1
    simp only [evs,Option.some.injEq] at h2
    subst h2
    simp [RVs]
  | cons x xs ih =>
    intro ts os vs h1 h2
    simp only [toDs] at h1
    split at h1
    · cases h1
    rename_i o ho
    split at h1
    · cases h1
    rename_i os' hos
    cases h1
    simp only [evs] at h2
    split at h2
    · cases h2
    rename_i w hw
    split at h2
    · cases h2
    rename_i ws hws
    cases h2
    simp only [List.map_cons,RVs]
    refine ⟨_,_,rfl,?_,ih _ os' ws hos hws⟩
    have hpos : ∀ ts : List TypeId,1 ≤ (match ts with
      | [] => 1
      | t :: _ => elemQ P t):=by
      intro ts
      cases ts with
      | nil => exact Nat.le_refl _
      | cons t ts => exact elemQ_pos t
    exact toD_ok (hpos ts) ho r g hw

theorem e_callP (hcall : CallOK P G call) (r : REnv nt φ env a.tmps) (g : GOK G φ) (w : RW φ h W) {f : Nat} {args : Array Operand} {types : Array TypeId} (ho : o.op = .call ⟨.value (.func f),args,types⟩) {ts : List TypeId} {os : List O} {qs : List Nat} (has : toDs P G ts args.toList = some os)
    (hv : evCallP call f qs os env h = some (v,h'))
    (hK : ∀ φ' z W',RV φ' v z → RW φ' h' W' → Grow φ φ' W → Ext φ W W' → K (a.put o.dst z) W') : o.wp P a W K Q:=by
  unfold evCallP at hv
  split at hv
  · rename_i vs hvs
    have hr:=toDs_ok (a:=a) r g _ _ _ _ has hvs
    obtain ⟨hen,hc⟩:=callP_ok hcall g w (args:=args.map a.eval) (by simpa using hr) hv
    refine upon_call (φ:=φ) (r:=v) (h':=h') ?_ hc hK
    simp only [execOp,ho,resolve,Act.eval,Deferred.ofValue,Sem.run_bind,Sem.run_pure,Result.andThen_ok,invoke,Array.empty_append,Array.append_empty]
    exact run_callFunc hen _ W
  · cases hv

/-- A CALL THAT HANDS OVER A SLICE WITH THE RIGHT TO ITS SPARE PLACES -/
theorem callT_ok (hcall : CallOK P G call) (g : GOK G φ) (w : RW φ h W) {k f : Nat} {vs : List V} {args : Array Value} (hr : RVs φ vs args.toList) {v : V} (hv : callTv call k f vs h = some (v,h')) :
    Enters P f ∧ Calls P f args W (CPost φ W v h'):=by
  unfold callTv at hv
  simp only [cond_eq_ite] at hv
  split at hv
  case isFalse => cases hv
  rename_i hpure
  split at hv
  · cases hv
  rename_i r hr1
  split at hv
  case h_2 => cases hv
  rename_i j e n sz cs hr0
  split at hv
  case h_2 => cases hv
  rename_i t ht
  split at hv
  case isFalse => cases hv
  rename_i hb
  simp only [Bool.and_eq_true,Nat.beq_eq] at hb
  obtain ⟨te,tn,tz⟩:=t
  obtain ⟨⟨rfl,rfl⟩,rfl⟩:=hb
  simp only [H.appK,Option.some.injEq,Prod.mk.injEq] at hv
  obtain ⟨rfl,rfl⟩:=hv
  obtain ⟨r1,h1⟩:=r
  simp only at hr0 ht
  subst hr0
  obtain ⟨hen,hc⟩:=hcall _ _ _ _ _ hr1
  refine ⟨hen,?_⟩
  let φs : Phi:=⟨fun _ => none,φ.ro,φ.fz,fun _ => none⟩
  have hself : ∀ x ds,φ.fz x = some ds → ∃ more,φs.fz x = some (ds ++ more):=fun x ds e => ⟨[],by rw [List.append_nil]; exact e⟩
  have gs : GOK G φs:=fun gg us hg => by
    obtain ⟨a1,ds,a2,a3,a4⟩:=g gg us hg
    exact ⟨a1,ds,a2,a3,RVs.pure hself _ _ a1 a4⟩
  have nown : ∀ wb,¬ Owns φs wb:=fun wb ⟨k,e,n,p,l,c,hk,_⟩ => by cases hk
  have ws : RW φs ⟨0,.e,.e,.e⟩ W:=by
    refine ⟨fun b k hb => (by rw [T.get_e] at hb; cases hb),fun b x hb => (by cases hb),fun b _ => T.get_e b,fun b1 b2 k1 k2 x1 x2 hb => (by rw [T.get_e] at hb; cases hb),fun b k hb => (by rw [T.get_e] at hb; cases hb),w.ros,?_⟩
    refine ⟨fun x ds hx => ⟨(w.rest.frz x ds hx).1,fun b y hy => (by cases hy)⟩,fun k e n sz hk => (by rw [T.get_e] at hk; cases hk),fun k j x a => (by obtain ⟨e,n,sz,o,c',hk,_⟩:=a; rw [T.get_e] at hk; cases hk),fun _ _ => rfl,fun wb ho => (nown wb ho).elim⟩
  refine (hc φs W args gs (RVs.pureA hself hpure hr) ws).mono fun e W' hp => ?_
  cases e with
  | returned z =>
    obtain ⟨φ',q1,q2,q3,q4⟩:=hp
    have hold : ∀ i,i < W.heap.size → W'.heap[i]? = W.heap[i]?:=fun i hi => q4.out i hi (fun b x hb => by cases hb) (nown i)
    have hnew : ∀ b k y,h1.bl.get b = some k → 0 ≤ k.grp → φ' b = some y → W.heap.size ≤ y.1:=by
      intro b k y _ _ hy
      by_cases hlt : y.1 < W.heap.size
      · obtain ⟨b',x',hb',_⟩:=q3.new b y hy hlt
        cases hb'
      · omega
    let ψ:=froz φ φ' 0 h1 W' φ.tk
    have hmore : ∀ x ds,φ.fz x = some ds → ∃ more,ψ.fz x = some (ds ++ more):=froz_more (φs:=φs) rfl q3
    have hsame : ∀ x ds,φ.fz x = some ds → ψ.fz x = some ds:=by
      intro x ds hx
      obtain ⟨more,h2⟩:=q3.le.fz x ds hx
      have h3:=q3.frz x _ h2 (w.rest.lt hx)
      rcases h3 with h3 | ⟨h3,_⟩
      · have h3' : φ.fz x = some (ds ++ more):=h3
        rw [hx] at h3'
        have : φ'.fz x = some ds:=by rw [h2]; exact h3'.symm
        exact froz_old this
      · exact (nown x h3).elim
    have hold' : ∀ x ds,φ'.fz x = some ds → ∃ more,ψ.fz x = some (ds ++ more):=fun x ds hx => ⟨[],by rw [List.append_nil]; exact froz_old hx⟩
    -- the slice,and its right
    obtain ⟨v0,hk1,hk2⟩:=q2.rest.tks j _ _ _ ht
    have hzv : z = v0:=by
      simp only [RV] at q1
      obtain ⟨_,_,_,_,_,_,_,_,_,_,e0,n0,v1,a1,a2⟩:=q1
      rw [hk1] at a1
      simp only [Option.some.injEq,Prod.mk.injEq] at a1
      obtain ⟨rfl,rfl,rfl⟩:=a1
      rcases a2 with a2 | ⟨_,a2 | ⟨_,a2⟩⟩
      · omega
      · omega
      · exact a2
    subst hzv
    have fresh_ : ∀ x,Owns φ' x → W.heap.size ≤ x:=by
      intro x ho
      by_cases hlt : x < W.heap.size
      · exact (nown x (q3.own x ho hlt)).elim
      · omega
    have hhold : Holder ψ W' z tn tz:=by
      rcases hk2 with hk2 | ⟨x,o,c',a1,a2,a3 | ⟨ds,c,el,fr,b1,b2,b3⟩⟩
      · exact .inl hk2
      · exact .inr ⟨x,o,c',a1,a2,.inl a3⟩
      · exact .inr ⟨x,o,c',a1,a2,.inr ⟨ds,c,el,fr,froz_old b1,b2,b3⟩⟩
    obtain ⟨l1,l2,l3⟩:=tok_ok (φ:=φ) (φ1:=ψ) (h:=h) (W:=W) (W':=W') (k:=k) (e:=h.ep k) (L:=tn) (sz:=tz) (q:=z) w rfl rfl rfl hmore
      ⟨q4.size,fun wb hwb _ _ => hold wb hwb,q4.shape,q4.tape,q4.os,q4.output⟩ (fun b x hb => hold _ (w.img b x hb).2)
      (fun x ds hx => froz_at (φs:=φs) w rfl q2 q3 hnew hx)
      (fun x ds hx hlt => by
        rcases froz_some hx with h2 | ⟨b,k,y,c,e,fr,k1,k2,k3,rfl,hcc,rfl⟩
        · rcases q3.frz x ds h2 hlt with h3 | ⟨h3,_⟩
          · exact .inl h3
          · exact (nown x h3).elim
        · have:=hnew b k y k1 k2 k3
          omega)
      (fun i m e' sz' v _ hi1 hi2 hh => by
        rcases hh with u2 | ⟨x,o,c',u3,u4,u5 | ⟨ds,c,el,fr,u6,u7,u8⟩⟩
        · exact .inl u2
        · exact .inr ⟨x,o,c',u3,u4,.inl u5⟩
        · exact .inr ⟨x,o,c',u3,u4,.inr ⟨ds,c,el,fr,hsame x ds u6,by rw [hold x (w.rest.lt u6)]; exact u7,u8⟩⟩)
      hhold
      (fun x o c' hz hlt i _ hi => by
        obtain ⟨e2,n2,sz2,o2,c2,b1,b2,b3⟩:=hi
        have ho : Owns φ x:=⟨i,e2,n2,_,_,_,b2,b3,rfl⟩
        obtain ⟨ds,hds⟩:=w.rest.ownf x ho
        have h3:=w.rest.lt hds
        have:=fresh_ x ⟨j,_,_,_,_,_,by rw [hk1,hz],hlt,rfl⟩
        omega)
      (fun p l c hz hlt => by
        have ho : Owns φ' p.block:=⟨j,_,_,p,l,c,by rw [hk1,hz],hlt,rfl⟩
        obtain ⟨ds,hds⟩:=q2.rest.ownf _ ho
        refine ⟨⟨ds,froz_old hds⟩,fun hl => ?_⟩
        have:=fresh_ _ ho
        omega)
      (ep_le w k tn z)
    refine ⟨_,?_,l2,l3,⟨q4.size,fun wb hwb _ _ => hold wb hwb,q4.shape,q4.tape,q4.os,q4.output⟩⟩
    simp only [RV] at q1 ⊢
    obtain ⟨m0,m1,m2,p',c',m3,m4,m5,m6,m7,_⟩:=q1
    refine ⟨m0,m1,m2,p',c',m3,m4,m5,m6,?_,h.ep k,tn,z,by simp [Phi.tok],tkLe.refl _ _ _⟩
    rcases m7 with m7 | ⟨x,o,ds,u1,u2,u3,u4⟩
    · exact .inl m7
    · exact .inr ⟨x,o,ds,u1,froz_old u2,u3,RVs.pure (fun x ds hx => ⟨[],by rw [List.append_nil]; exact froz_old hx⟩) _ _ m0 u4⟩
  | _ => exact hp.elim

theorem e_callT (hcall : CallOK P G call) (r : REnv nt φ env a.tmps) (g : GOK G φ) (w : RW φ h W) {k f : Nat} {args : Array Operand} {types : Array TypeId} (ho : o.op = .call ⟨.value (.func f),args,types⟩) {ts : List TypeId} {os : List O} (has : toDs P G ts args.toList = some os)
    (hv : evCallT call k f os env h = some (v,h'))
    (hK : ∀ φ' z W',RV φ' v z → RW φ' h' W' → Grow φ φ' W → Ext φ W W' → K (a.put o.dst z) W') : o.wp P a W K Q:=by
  unfold evCallT at hv
  split at hv
  · rename_i vs hvs
    have hr:=toDs_ok (a:=a) r g _ _ _ _ has hvs
    obtain ⟨hen,hc⟩:=callT_ok hcall g w (args:=args.map a.eval) (by simpa using hr) hv
    refine upon_call (φ:=φ) (r:=v) (h':=h') ?_ hc hK
    simp only [execOp,ho,resolve,Act.eval,Deferred.ofValue,Sem.run_bind,Sem.run_pure,Result.andThen_ok,invoke,Array.empty_append,Array.append_empty]
    exact run_callFunc hen _ W
  · cases hv

theorem e_callM (hcall : CallOK P G call) (r : REnv nt φ env a.tmps) (g : GOK G φ) (w : RW φ h W) {f : Nat} {args : Array Operand} {types : Array TypeId} (ho : o.op = .call ⟨.value (.func f),args,types⟩) {ts : List TypeId} {os : List O} {qs : List Nat} (has : toDs P G ts args.toList = some os)
    (hv : evCallM call f qs os env h = some (v,h'))
    (hK : ∀ φ' z W',RV φ' v z → RW φ' h' W' → Grow φ φ' W → Ext φ W W' → K (a.put o.dst z) W') : o.wp P a W K Q:=by
  unfold evCallM at hv
  split at hv
  · rename_i b oo vs hvs
    simp only [cond_eq_ite,Nat.beq_eq] at hv
    split at hv
    · rename_i ho0
      subst ho0
      have hr:=toDs_ok (a:=a) r g _ _ _ _ has hvs
      simp only [RVs] at hr
      obtain ⟨z0,zs,hz,h0,h1⟩:=hr
      simp only [RV] at h0
      obtain ⟨x,hx,rfl⟩:=h0
      obtain ⟨hen,hc⟩:=callM_ok hcall g w (args:=zs.toArray) hx (by simpa using h1) hv
      have hargs : args.map a.eval = #[Value.pointer (some ⟨x.1,x.2.1,none⟩)] ++ zs.toArray:=by
        apply Array.ext'
        simp only [Array.toList_map,hz,Array.toList_append]
        simp
      refine upon_call (φ:=φ) (r:=v) (h':=h') ?_ hc hK
      simp only [execOp,ho,resolve,Act.eval,Deferred.ofValue,Sem.run_bind,Sem.run_pure,Result.andThen_ok,invoke,Array.empty_append,Array.append_empty]
      have:=run_callFunc (P:=P) hen (args.map a.eval) W
      rw [hargs] at this
      rw [← hargs] at this ⊢
      exact run_callFunc hen _ W
    · cases hv
  · cases hv

theorem e_callvP (hcall : CallOK P G call) (r : REnv nt φ env a.tmps) (g : GOK G φ) (w : RW φ h W) {x : Operand} {args : Array Operand} {types : Array TypeId} (ho : o.op = .call ⟨.value x,args,types⟩) {p : O} (hp : toO G x = some p) {ts : List TypeId} {os : List O} {qs : List Nat} (has : toDs P G ts args.toList = some os)
    (hv : evCallvP call p qs os env h = some (v,h'))
    (hK : ∀ φ' z W',RV φ' v z → RW φ' h' W' → Grow φ φ' W → Ext φ W W' → K (a.put o.dst z) W') : o.wp P a W K Q:=by
  unfold evCallvP at hv
  split at hv
  · rename_i f first cap hf
    split at hv
    · rename_i vs hvs
      have hr:=toDs_ok (a:=a) r g _ _ _ _ has hvs
      have hx:=toO_ok hp r g hf
      simp only [RV] at hx
      obtain ⟨A,B,he,hA,hB⟩:=hx
      obtain ⟨hen,hc⟩:=callP_ok hcall g w (args:=A ++ args.map a.eval ++ B) (by
        simp only [Array.toList_append,Array.toList_map]
        rw [app_eq,app_eq,List.append_assoc]
        exact hA.append (hr.append hB)) hv
      refine upon_call (φ:=φ) (r:=v) (h':=h') ?_ hc hK
      simp only [execOp,ho,resolve,he,Deferred.ofValue,Sem.run_bind,Sem.run_pure,Result.andThen_ok,invoke]
      exact run_callFunc hen _ W
    · cases hv
  · cases hv

theorem cAppT_ok {k : Nat} {types : Array TypeId} {args : Array Operand} {c : EC} (h : cAppT P G k types args = some c) :
    ∃ t u e e' i zv x y p q,types[0]? = some t ∧ types[1]? = some u ∧ P.underlying t = some (.slice e) ∧ P.info? e = some i ∧ i.zero = some zv ∧ zv.cells.size = i.size ∧ 1 ≤ i.size ∧
      args[0]? = some x ∧ args[1]? = some y ∧ toO G x = some p ∧ toO G y = some q ∧ P.underlying u = some (.slice e') ∧ c = .appT i.size i.bytes k p q:=by
  unfold cAppT at h
  split at h
  · cases h
  rename_i t ht
  split at h
  · cases h
  rename_i u hu
  split at h
  · cases h
  rename_i x hx
  split at h
  · cases h
  rename_i p hp
  split at h
  · cases h
  rename_i y hy
  split at h
  · cases h
  rename_i q hq
  split at h
  · cases h
  rename_i e he
  have hte : P.underlying t = some (.slice e):=by
    unfold elemT at he
    split at he
    · rename_i e' h'; cases he; exact h'
    · cases he
  split at h
  · cases h
  rename_i s hs
  split at h
  · cases h
  rename_i b hb
  split at h
  · cases h
  rename_i z hz
  simp only [cond_eq_ite,Bool.and_eq_true,Nat.beq_eq,Nat.ble_eq,len_eq] at h
  split at h
  · rename_i hc
    obtain ⟨i,zv,hi,hzv,hzr⟩:=zeroT_ok hz
    obtain ⟨i',hi',hsz⟩:=sizeT_ok hs
    rw [hi] at hi'; cases hi'
    have hby : i.bytes = b:=by
      unfold bytesT at hb
      rw [hi] at hb
      cases hb; rfl
    have hzl : zv.cells.size = i.size:=by
      have:=(hzr ⟨fun _ => none,fun _ => false,fun _ => none,fun _ => none⟩).1.length
      rw [hsz,← hc.1]; simpa using this.symm
    subst hsz; subst hby
    split at h
    · rename_i e' hue
      cases h
      exact ⟨t,u,e,e',i,zv,x,y,p,q,ht,hu,hte,hi,hzv,hzl,hc.2,hx,hy,hp,hq,hue,rfl⟩
    · cases h
  · cases h

theorem e_appT (r : REnv nt φ env a.tmps) (g : GOK G φ) (w : RW φ h W) {k : Nat} {args : Array Operand} {types : Array TypeId} (ho : o.op = .call ⟨.builtin .append,args,types⟩) {c : EC} (hc : cAppT P G k types args = some c)
    (hv : evE call c env h = some (v,h'))
    (hK : ∀ φ' z W',RV φ' v z → RW φ' h' W' → Grow φ φ' W → Ext φ W W' → K (a.put o.dst z) W') : o.wp P a W K Q:=by
  obtain ⟨t,u,e,e',i,zv,x,y,p,q,ht,hu,hte,hi,hzv,hzl,hs1,hx,hy,hp,hq,hue,rfl⟩:=cAppT_ok hc
  obtain ⟨ts,hts⟩:=two_args ht hu
  obtain ⟨xs,hxs⟩:=two_args hx hy
  have hargs : args.map a.eval = #[a.eval x,a.eval y] ++ xs.map a.eval:=by rw [hxs]; simp
  have hexec : ∀ (z : Value) (W' : World),(Builtin.append_ #[t,u] o.type #[a.eval x,a.eval y]).run P W = .ok z W' → (execOp a.eval o).run P W = .ok (.value z) W':=by
    intro z W' hr
    simp only [execOp,ho,resolve,Sem.run_bind,Sem.run_pure,Result.andThen_ok,invoke,builtin]
    rw [hargs,append_args types o.type ts (a.eval x) (a.eval y) (xs.map a.eval) t u hts,hr]
    rfl
  simp only [evE,evAppT] at hv
  split at hv
  · rename_i X hX
    split at hv
    · rename_i Y hY
      split at hv
      · rename_i rr hrr
        simp only [cond_eq_ite] at hv
        split at hv
        · rename_i hpure
          have hrx:=toO_ok hp r g hX
          have hry:=toO_ok hq r g hY
          obtain ⟨n,cs⟩:=rr
          obtain ⟨pp,cc,ys,hye,hpn,hyl,hyr,hyo,hycell,_⟩:=src_ok w hrr hry
          obtain ⟨φ',z,W',hrun,h1,h2,h3,h4⟩:=appT_ok w hv hrx hs1 hyl hyr hpure (m:=Builtin.append_ #[t,u] o.type #[a.eval x,a.eval y]) (el:=e) (z:=zv)
            (fun b l c hb => by rw [hb,hye]; exact runs_slice hte hue hi hzv hzl b l c pp n cc ys hyl hpn hycell)
          exact upon_value (hexec z W' hrun) (hK φ' z W' h1 h2 h3 h4)
        · cases hv
      · cases hv
    · cases hv
  · cases hv

/-- a row of cells that was just made,frozen -/
theorem frz_new (w : RW φ h W) {W' : World} {cs : List V} {cc : Array Value} (hmd : Made φ cs W W' cc) (_ : pureL cs = true) :
    φ.le (φ.frz W.heap.size cc.toList) ∧ RW (φ.frz W.heap.size cc.toList) h W' ∧ Grow φ (φ.frz W.heap.size cc.toList) W ∧ Ext φ W W' ∧ RVs (φ.frz W.heap.size cc.toList) cs (cc.toList.take cs.length):=by
  obtain ⟨el,fz,hwat,hfz⟩:=hmd.at_
  have hfits:=hmd.fits
  have hlt : ∀ y dy,φ.fz y = some dy → y < W.heap.size:=fun y dy hy => w.rest.lt hy
  have hle : φ.le (φ.frz W.heap.size cc.toList):=⟨fun b x hb => hb,rfl,fun y dy hy => ⟨[],by
    have:=hlt y dy hy
    simp only [Phi.frz]
    rw [if_neg (by omega),List.append_nil]; exact hy⟩,fun j e0 n0 v0 hj => ⟨e0,n0,v0,hj,tkLe.refl _ _ _⟩⟩
  have hext : Ext φ W W':=hmd.ext
  have wp:=w.push hmd.old hext.size
  refine ⟨hle,?_,⟨hle,fun b x hb _ => ⟨b,x,hb,rfl⟩,fun _ ho _ => ho,fun y dy hy hl' => .inl ?_⟩,hext,?_⟩
  · refine ⟨fun b k2 hb => ?_,wp.img,wp.fresh,wp.alias,wp.grp,wp.ros,?_⟩
    · obtain ⟨x,c,el2,fr,hx,hcx,s1,s2,s3,s4⟩:=wp.blk b k2 hb
      refine ⟨x,c,el2,fr,hx,hcx,s1,s2,s3,fun j uu hu => ?_⟩
      rcases s4 j uu hu with s5 | ⟨s5,y,s6,s7⟩
      · exact .inl s5
      · exact .inr ⟨s5,y,s6,RV.mono hle _ _ s7⟩
    · refine ⟨fun y dy hy => ?_,fun j e0 n0 sz hj => ?_,wp.rest.tku,wp.rest.tkn,fun wb ho => ?_⟩
      · simp only [Phi.frz] at hy
        by_cases hyx : y = W.heap.size
        · rw [if_pos hyx] at hy
          cases hy
          subst hyx
          exact ⟨⟨cc,el,fz,[],hwat,by simp⟩,fun b x hb e => by have:=(w.img b x hb).2; omega⟩
        · rw [if_neg hyx] at hy
          exact wp.rest.frz y dy hy
      · obtain ⟨vv,v1,v2⟩:=wp.rest.tks j e0 n0 sz hj
        exact ⟨vv,v1,v2.more fun y oy cy _ _ dy hdy => ⟨by
          have:=hlt y dy hdy
          simp only [Phi.frz]; rw [if_neg (by omega)]; exact hdy,rfl⟩⟩
      · obtain ⟨dy,hdy⟩:=wp.rest.ownf wb ho
        obtain ⟨more,hm⟩:=hle.fz wb dy hdy
        exact ⟨_,hm⟩
  · simp only [Phi.frz] at hy
    rw [if_neg (by omega)] at hy
    exact hy
  · have hcl : cc.toList.length = cc.size:=Array.length_toList
    refine .of_get (by rw [List.length_take]; omega) fun j uu x hu hx => ?_
    rw [List.getElem?_take] at hx
    split at hx
    · obtain ⟨_,y,hy,hr⟩:=hmd.cells j uu hu
      have hx' : cc[j]? = some x:=by simpa using hx
      rw [hy] at hx'; cases hx'
      exact RV.mono hle _ _ hr
    · cases hx

theorem e_boxF (r : REnv nt φ env a.tmps) (g : GOK G φ) (w : RW φ h W) {q : Nat} (hq : 1 ≤ q) {t : TypeId} {x : Operand} (ho : o.op = .box t x) {p : O} (hp : toD G q x = some p)
    (hv : evBoxF p env h = some (v,h'))
    (hK : ∀ φ' z W',RV φ' v z → RW φ' h' W' → Grow φ φ' W → Ext φ W W' → K (a.put o.dst z) W') : o.wp P a W K Q:=by
  unfold evBoxF at hv
  split at hv
  · rename_i u0 hu
    split at hv
    · rename_i cs hcs
      simp only [cond_eq_ite] at hv
      split at hv
      · rename_i hpure
        cases hv
        have hr:=toD_ok hq hp r g hu
        obtain ⟨h1,h2⟩:=RV.cells hcs hr
        have hm:=made_alloc (ψ:=φ) t h1 h2 W []
        simp only [List.append_nil,Array.toArray_toList] at hm
        obtain ⟨k1,k2,k3,k4,k5⟩:=frz_new w hm hpure
        refine upon_value (z:=.pointer (some ⟨W.heap.size,0,none⟩)) ?_ (hK _ _ _ ?_ k2 k3 k4)
        · simp [execOp,ho,Instr.box,newVar,newRow]
        · simp only [RV]
          have hfit:=hm.fits
          have hcl : (a.eval x).cells.toList.length = (a.eval x).cells.size:=Array.length_toList
          exact ⟨hpure,W.heap.size,0,(a.eval x).cells.toList,rfl,if_pos rfl,by omega,by rw [List.drop_zero]; exact k5⟩
      · cases hv
    · cases hv
  · cases hv

theorem e_clr (r : REnv nt φ env a.tmps) (g : GOK G φ) (w : RW φ h W) {args : Array Operand} {types : Array TypeId} (ho : o.op = .call ⟨.builtin .clear,args,types⟩) {c : EC} (hc : cClr P G types args = some c)
    (hv : evE call c env h = some (v,h'))
    (hK : ∀ φ' z W',RV φ' v z → RW φ' h' W' → Grow φ φ' W → Ext φ W W' → K (a.put o.dst z) W') : o.wp P a W K Q:=by
  unfold cClr at hc
  split at hc
  · cases hc
  rename_i t ht
  split at hc
  · cases hc
  rename_i x hx
  split at hc
  · cases hc
  rename_i p hp
  split at hc
  · cases hc
  rename_i e he
  have hte : P.underlying t = some (.slice e):=by
    unfold elemT at he
    split at he
    · rename_i e' h'; cases he; exact h'
    · cases he
  split at hc
  · cases hc
  rename_i s hs
  split at hc
  · cases hc
  rename_i z hz
  simp only [cond_eq_ite,Bool.and_eq_true,Nat.beq_eq,Nat.ble_eq,len_eq] at hc
  split at hc
  case isFalse => cases hc
  rename_i hcc
  cases hc
  obtain ⟨i,zv,hi,hzv,hzr⟩:=zeroT_ok hz
  obtain ⟨hz1,hz2⟩:=hzr φ
  have hargs : (args.map a.eval)[0]? = some (a.eval x):=by simp [hx]
  have fin : ∀ (W' : World),(Builtin.clear_ types o.type (args.map a.eval)).run P W = .ok (.tuple #[]) W' → (execOp a.eval o).run P W = .ok (.value (.tuple #[])) W':=by
    intro W' hr
    simp only [execOp,ho,resolve,Sem.run_bind,Sem.run_pure,Result.andThen_ok,invoke,builtin,hr]
  have none_ : ∀ q c',a.eval x = .slice q 0 c' → (Builtin.clear_ types o.type (args.map a.eval)).run P W = .ok (.tuple #[]) W:=by
    intro q c' hxe
    simp only [Builtin.clear_,ht,hargs,hxe,Sem.run_bind,run_underlying hte,Result.andThen_ok]
    cases q <;> rfl
  simp only [evE,evClr] at hv
  split at hv
  · rename_i hX
    cases hv
    have hr:=toO_ok hp r g hX
    simp only [RV] at hr
    exact upon_value (fin W (none_ _ _ hr)) (hK φ _ W (by simp only [RV]) w (Grow.refl _ _) (Ext.refl _ _))
  · rename_i m n sz' cs hX
    simp only [cond_eq_ite,Nat.beq_eq] at hv
    split at hv
    · rename_i hn
      cases hv
      subst hn
      have hr:=toO_ok hp r g hX
      simp only [RV] at hr
      obtain ⟨_,_,_,q,c',hr,_⟩:=hr
      exact upon_value (fin W (none_ _ _ hr)) (hK φ _ W (by simp only [RV]) w (Grow.refl _ _) (Ext.refl _ _))
    · cases hv
  · rename_i b oo l c sz' ex hX
    have hr:=toO_ok hp r g hX
    simp only [RV] at hr
    obtain ⟨y,o',c',hy,hxe,h1,h2,_,hsz,hat⟩:=hr
    simp only [cond_eq_ite,Nat.beq_eq] at hv
    split at hv
    · rename_i hl
      cases hv
      subst hl
      exact upon_value (fin W (none_ _ _ hxe)) (hK φ _ W (by simp only [RV]) w (Grow.refl _ _) (Ext.refl _ _))
    · rename_i hl
      split at hv
      case isFalse => cases hv
      rename_i hss
      subst hss
      split at hv
      · rename_i h2' hst
        cases hv
        obtain ⟨rfl,hat2⟩ : o' = y.2.1 + oo ∧ oo + c' * s ≤ y.2.2:=by
          rcases hat with hat | hat
          · omega
          · exact hat
        obtain ⟨W',hs',hr',hext⟩:=stn_ok (P:=P) w hst hy (repl_zero hz1 l) (one_repl hz2 l)
        refine upon_value (fin W' ?_) (hK φ _ W' (by simp only [RV]) hr' (Grow.refl _ _) hext)
        obtain ⟨l',rfl⟩ : ∃ l',l = l' + 1:=⟨l - 1,by omega⟩
        simp only [Builtin.clear_,ht,hargs,hxe,Sem.run_bind,run_underlying hte,Result.andThen_ok,run_zeroValue hi hzv,hs',Sem.run_pure]
      · cases hv
  · cases hv

theorem isNilS_eval {x : Operand} (hy : isNilS x = true) : a.eval x = .slice none 0 0:=by
  unfold isNilS at hy
  split at hy
  · rfl
  · cases hy

theorem acc_ok (w : RW φ h W) {k sz : Nat} (hsz : 1 ≤ sz) (hv : h.appK k (h.ep k) 0 sz [] = some (v,h')) : ∃ φ',RV φ' v (.slice none 0 0) ∧ RW φ' h' W ∧ Grow φ φ' W:=by
  simp only [H.appK,Option.some.injEq,Prod.mk.injEq] at hv
  obtain ⟨rfl,rfl⟩:=hv
  exact tok_new w rfl (RV.nil hsz)

theorem fillP_len {env : Env} : ∀ (ps : List (Nat × Nat × O)) (c1 c2 : List V),fillP env c1 ps = some c2 → c2.length = c1.length:=by
  intro ps
  induction ps with
  | nil => intro c1 c2 h; simp [fillP] at h; subst h; rfl
  | cons q ps ih =>
    intro c1 c2 h
    simp only [fillP] at h
    split at h
    · cases h
    · split at h
      · cases h
      · simp only [cond_eq_ite] at h
        split at h
        · rw [ih _ _ h,length_putN]
        · cases h

theorem repl_len (n : Nat) (z : List V) : (repl n z).length = n * z.length:=by
  induction n with
  | zero => simp [repl]
  | succ n ih => simp [repl,app_eq,ih,Nat.succ_mul]; omega

/-- a literal's slice,frozen -/
theorem e_bldF (r : REnv nt φ env a.tmps) (g : GOK G φ) (w : RW φ h W) {k : Nat} {t : TypeId} {n : Nat} {ps : Array (Nat × Operand)} (ho : o.op = .buildSlice t n ps) {c : EC} (hc : cBldF P G k t n ps.toList = some c)
    (hv : evE call c env h = some (v,h'))
    (hK : ∀ φ' z W',RV φ' v z → RW φ' h' W' → Grow φ φ' W → Ext φ W W' → K (a.put o.dst z) W') : o.wp P a W K Q:=by
  unfold cBldF at hc
  split at hc
  · cases hc
  rename_i e he
  split at hc
  · cases hc
  rename_i s hs
  split at hc
  · cases hc
  rename_i z0 hz0
  split at hc
  · rename_i l hl
    simp only [cond_eq_ite,Bool.and_eq_true,Nat.beq_eq,Nat.ble_eq,len_eq] at hc
    split at hc
    case isFalse => cases hc
    rename_i hcc
    -- what the operation makes,as the dynamic one
    have hcC : cC P G o.op = some (.A (.buildSl s n (repl n z0) l)):=by
      rw [ho]
      have h1 : cP P G (.buildSlice t n ps) = none:=rfl
      have h2 : cL P G (.buildSlice t n ps) = none:=rfl
      have h3 : cA P G (.buildSlice t n ps) = some (.buildSl s n (repl n z0) l):=by
        simp only [cA,he,hs,hz0,hl,cond_eq_ite,Bool.and_eq_true,Nat.beq_eq,Nat.ble_eq,len_eq]
        rw [if_pos hcc]
      simp only [cC,h1,h2,h3]
    -- .. frozen
    have key : ∀ cs : List V,fillP env (repl n z0) l = some cs → pureL cs = true → ∃ z W' φ1,(execOp a.eval o).run P W = .ok (.value z) W' ∧ RV φ1 (.fz .ex n s cs) z ∧ RW φ1 h W' ∧ Grow φ φ1 W ∧ Ext φ W W' ∧ ∃ p,z = .slice p n n:=by
      intro cs hcs hp
      have hev : evA (.buildSl s n (repl n z0) l) env = some (cs,.s n n s true):=by simp only [evA,evBuildSl,hcs]
      obtain ⟨z,W',cc,hrun,hmd,hat⟩:=alloc_ok r g hcC hev W
      have hrv:=hat ⟨fun i => if i = 0 then some (W.heap.size,0,cc.size) else none,fun _ => false,fun _ => none,fun _ => none⟩ 0 (by simp)
      simp only [AR.at,RV] at hrv
      obtain ⟨y,o',c',hy,hz,h1,h2,h3,h4,h5⟩:=hrv
      simp only [if_true,Option.some.injEq] at hy
      subst hy
      have hcn : c' = n:=by simpa using h3
      subst hcn
      obtain ⟨el,fz,hwat,hfz⟩:=hmd.at_
      have hlen : cs.length = c' * s:=by rw [fillP_len _ _ _ hcs,repl_len,hcc.1.1]
      have hfits:=hmd.fits
      have hlt : ∀ y dy,φ.fz y = some dy → y < W.heap.size:=fun y dy hy => w.rest.lt hy
      have hle : φ.le (φ.frz W.heap.size cc.toList):=⟨fun b x hb => hb,rfl,fun y dy hy => ⟨[],by
        have:=hlt y dy hy
        simp only [Phi.frz]
        rw [if_neg (by omega),List.append_nil]; exact hy⟩,fun j e0 n0 v0 hj => ⟨e0,n0,v0,hj,tkLe.refl _ _ _⟩⟩
      have hext : Ext φ W W':=hmd.ext
      have wp:=w.push hmd.old hext.size
      refine ⟨z,W',φ.frz W.heap.size cc.toList,hrun,?_,?_,⟨hle,fun b x hb _ => ⟨b,x,hb,rfl⟩,fun _ ho _ => ho,fun y dy hy hl' => .inl ?_⟩,hext,_,hz⟩
      · simp only [RV]
        refine ⟨hp,hlen,h4,_,c',hz,h1,(fun e => by cases e),(.inr fun a e => by cases e; rfl),?_,rfl⟩
        by_cases hn0 : c' = 0
        · exact .inl hn0
        · rcases h5 with h5 | ⟨rfl,h6⟩
          · exact (hn0 h5).elim
          · refine .inr ⟨W.heap.size,0 + 0,cc.toList,rfl,by simp [Phi.frz],by rw [Array.length_toList]; omega,?_⟩
            have hcl : cc.toList.length = cc.size:=Array.length_toList
            have h6' : c' * s ≤ cc.size:=by simpa using h6
            refine .of_get (by rw [List.length_take,List.length_drop]; omega) fun j uu x hu hx => ?_
            rw [List.getElem?_take] at hx
            split at hx
            · simp only [List.getElem?_drop,Nat.zero_add] at hx
              obtain ⟨_,y,hy,hr⟩:=hmd.cells j uu hu
              have hx' : cc[j]? = some x:=by simpa using hx
              rw [hy] at hx'; cases hx'
              exact RV.mono hle _ _ hr
            · cases hx
      · refine ⟨fun b k2 hb => ?_,wp.img,wp.fresh,wp.alias,wp.grp,wp.ros,?_⟩
        · obtain ⟨x,c,el2,fr,hx,hcx,s1,s2,s3,s4⟩:=wp.blk b k2 hb
          refine ⟨x,c,el2,fr,hx,hcx,s1,s2,s3,fun j uu hu => ?_⟩
          rcases s4 j uu hu with s5 | ⟨s5,y,s6,s7⟩
          · exact .inl s5
          · exact .inr ⟨s5,y,s6,RV.mono hle _ _ s7⟩
        · refine ⟨fun y dy hy => ?_,fun j e0 n0 sz hj => ?_,wp.rest.tku,wp.rest.tkn,fun wb ho => ?_⟩
          · simp only [Phi.frz] at hy
            by_cases hyx : y = W.heap.size
            · rw [if_pos hyx] at hy
              cases hy
              subst hyx
              exact ⟨⟨cc,el,fz,[],hwat,by simp⟩,fun b x hb e => by have:=(w.img b x hb).2; omega⟩
            · rw [if_neg hyx] at hy
              exact wp.rest.frz y dy hy
          · obtain ⟨vv,v1,v2⟩:=wp.rest.tks j e0 n0 sz hj
            exact ⟨vv,v1,v2.more fun y oy cy _ _ dy hdy => ⟨by
              have:=hlt y dy hdy
              simp only [Phi.frz]; rw [if_neg (by omega)]; exact hdy,rfl⟩⟩
          · obtain ⟨dy,hdy⟩:=wp.rest.ownf wb ho
            obtain ⟨more,hm⟩:=hle.fz wb dy hdy
            exact ⟨_,hm⟩
      · simp only [Phi.frz] at hy
        rw [if_neg (by omega)] at hy
        exact hy
    split at hc
    · rename_i hn
      subst hn
      split at hc
      · cases hc
        simp only [evE] at hv
        obtain ⟨z,W',φ1,hrun,h1,h2,h3,h4,p,hz⟩:=key [] (by simp [repl,fillP]) rfl
        simp only [H.appK,Option.some.injEq,Prod.mk.injEq] at hv
        obtain ⟨rfl,rfl⟩:=hv
        obtain ⟨φ2,k1,k2,k3⟩:=tok_new (k:=k) h2 hz (RV.dem (v:=.fz .ex 0 s []) h1)
        exact upon_value hrun (hK φ2 z W' k1 k2 (h3.trans k3 h4.size) h4)
      · cases hc
    · cases hc
      simp only [evE,evBldF] at hv
      split at hv
      · rename_i cs hcs
        simp only [cond_eq_ite] at hv
        split at hv
        · rename_i hp
          cases hv
          obtain ⟨z,W',φ1,hrun,h1,h2,h3,h4,_⟩:=key cs hcs hp
          exact upon_value hrun (hK φ1 z W' h1 h2 h3 h4)
        · cases hv
      · cases hv
  · cases hc

theorem e_acc (w : RW φ h W) {k q : Nat} {x : Operand} (ho : o.op = .move x ∨ o.op = .assign x) {c : EC} (hc : cAcc k q x = some c) (hv : evE call c env h = some (v,h'))
    (hK : ∀ φ' z W',RV φ' v z → RW φ' h' W' → Grow φ φ' W → Ext φ W W' → K (a.put o.dst z) W') : o.wp P a W K Q:=by
  unfold cAcc at hc
  simp only [cond_eq_ite,Bool.and_eq_true,Nat.ble_eq] at hc
  split at hc
  · rename_i hh
    cases hc
    simp only [evE,evAcc,O.ev] at hv
    obtain ⟨φ',h1,h2,h3⟩:=acc_ok w hh.2 hv
    have hx:=isNilS_eval (a:=a) hh.1
    refine upon_value (z:=.slice none 0 0) (W':=W) ?_ (hK φ' _ W h1 h2 h3 (Ext.refl _ _))
    rcases ho with ho | ho <;> simp [execOp,ho,hx]
  · cases hc

/-- THE OPERATIONS THAT ARE COMPILED AS THE HINT TELLS -/
theorem effH_ok (hcall : CallOK P G call) (r : REnv nt φ env a.tmps) (g : GOK G φ) (w : RW φ h W) {c : EC} (hc : cH P G X o = some c) (hv : evE call c env h = some (v,h'))
    (hK : ∀ φ' z W',RV φ' v z → RW φ' h' W' → Grow φ φ' W → Ext φ W W' → K (a.put o.dst z) W') : o.wp P a W K Q:=by
  -- a call of a function that is named
  have named : ∀ (f : Nat) (args : Array Operand) (types : Array TypeId),o.op = .call ⟨.value (.func f),args,types⟩ →
      (bif inL X.sfn f then none else match toDs P G (fnPs P f) args.toList with
        | some os => bif inL X.mfn f then some (EC.callM f (fnQs P f) os) else some (EC.callP f (fnQs P f) os)
        | none => none) = some c → o.wp P a W K Q:=by
    intro f args types ho h1
    simp only [cond_eq_ite] at h1
    split at h1
    · cases h1
    split at h1
    · rename_i os hos
      split at h1
      · cases h1
        exact e_callM hcall r g w ho hos hv hK
      · cases h1
        exact e_callP hcall r g w ho hos hv hK
    · cases h1
  unfold cH at hc
  split at hc
  · split at hc
    · rename_i cl ho
      obtain ⟨callee,args,types⟩:=cl
      split at hc
      · rename_i f hf
        simp only at hf
        subst hf
        exact named f args types ho hc
      · rename_i hf
        simp only at hf
        subst hf
        exact e_clr r g w ho hc hv hK
      · cases hc
    · cases hc
  · rename_i d hd
    simp only [cond_eq_ite] at hc
    split at hc
    · cases hc
    split at hc
    · rename_i t x ho
      split at hc
      · split at hc
        · rename_i p hp
          cases hc
          exact e_boxF r g w (elemQ_pos _) ho hp hv hK
        · cases hc
      · cases hc
    · rename_i t n ps ho
      exact e_bldF r g w ho hc hv hK
    · rename_i x ho
      split at hc
      · exact e_acc w (.inl ho) hc hv hK
      · cases hc
    · rename_i x ho
      split at hc
      · exact e_acc w (.inr ho) hc hv hK
      · cases hc
    · rename_i cl ho
      obtain ⟨callee,args,types⟩:=cl
      split at hc
      · rename_i hf
        simp only at hf
        subst hf
        exact e_appT r g w ho hc hv hK
      · rename_i hf
        simp only at hf
        subst hf
        exact e_clr r g w ho hc hv hK
      · rename_i f hf
        simp only at hf
        subst hf
        split at hc
        · cases hc
        rename_i hs
        split at hc
        · rename_i os hos
          split at hc
          · cases hc
            exact e_callT hcall r g w ho hos hv hK
          · exact named f args types ho (by simp only [cond_eq_ite,hos]; rw [if_neg hs]; exact hc)
        · cases hc
      · rename_i x _ hf
        simp only at hf
        subst hf
        split at hc
        · cases hc
        rename_i p hp
        split at hc
        · rename_i os hos
          cases hc
          exact e_callvP hcall r g w ho hp hos hv hK
        · cases hc
      · cases hc
    · cases hc

end
end Go.Ev
namespace Go.Ev

section
variable {P : Program} {G : GL} {X : Hint} {call : Call} {nt : Nat} {φ : Phi} {h h' : H} {W : World} {env : Env} {a : Act} {v : V}
  {K : Act → World → Prop} {Q : Exit → Act → World → Prop} {o : Oper} {ops : Array Oper}

/-- ANY OPERATION,compiled without a hint -/
theorem gen_ok0 (hcall : CallOK P G call) (r : REnv nt φ env a.tmps) (g : GOK G φ) (w : RW φ h W) {c : C} (hc : cC P G o.op = some c) (hv : evC call c env h = some (v,h'))
    (hK : ∀ φ' z W',RV φ' v z → RW φ' h' W' → Grow φ φ' W → Ext φ W W' → K (a.put o.dst z) W') : o.wp P a W K Q:=by
  cases c with
  | P c =>
    simp only [evC] at hv
    split at hv
    · rename_i v' hv'
      cases hv
      obtain ⟨z,hz,hr⟩:=pure_ok r g hc hv' W
      exact upon_value hz (hK φ z W hr w (Grow.refl _ _) (Ext.refl _ _))
    · cases hv
  | L c =>
    simp only [evC] at hv
    split at hv
    · rename_i v' hv'
      cases hv
      obtain ⟨z,hz,hr⟩:=load_ok (Phi.le_refl φ) rfl r g w hc hv'
      exact upon_value hz (hK φ z W hr w (Grow.refl _ _) (Ext.refl _ _))
    · cases hv
  | A c =>
    simp only [evC] at hv
    split at hv
    · rename_i q hq
      cases hv
      obtain ⟨z,W',cc,hz,hm,hr⟩:=alloc_ok r g hc hq W
      obtain ⟨h1,h2,h3⟩:=w.made hm
      exact upon_value hz (hK _ z W' (hr _ _ (Phi.upd_same _ _ _)) h1 h2 h3)
    · cases hv
  | E c =>
    simp only [evC] at hv
    exact eff_ok hcall r g w hc hv hK

theorem cCX_P {c : PC} (h : cCX P G X o = some (.P c)) : cC P G o.op = some (.P c):=by
  unfold cCX at h
  split at h
  · cases h
  · exact h
theorem cCX_L {c : LC} (h : cCX P G X o = some (.L c)) : cC P G o.op = some (.L c):=by
  unfold cCX at h
  split at h
  · cases h
  · exact h
theorem cCX_A {c : AC} (h : cCX P G X o = some (.A c)) : cC P G o.op = some (.A c):=by
  unfold cCX at h
  split at h
  · cases h
  · exact h

/-- ANY OPERATION -/
theorem gen_ok (hcall : CallOK P G call) (r : REnv nt φ env a.tmps) (g : GOK G φ) (w : RW φ h W) {c : C} (hc : cCX P G X o = some c) (hv : evC call c env h = some (v,h'))
    (hK : ∀ φ' z W',RV φ' v z → RW φ' h' W' → Grow φ φ' W → Ext φ W W' → K (a.put o.dst z) W') : o.wp P a W K Q:=by
  unfold cCX at hc
  split at hc
  · rename_i c' hc'
    cases hc
    simp only [evC] at hv
    exact effH_ok hcall r g w hc' hv hK
  · exact gen_ok0 hcall r g w hc hv hK

theorem cCO_ok {o : Oper} {co : CO} (h : cCO P G X nt ops o = some co) : cCX P G X o = some co.op ∧ cG ops o.guard = some co.g ∧ co.d = o.dst ∧ dstOk nt o.dst = true:=by
  unfold cCO at h
  split at h
  · cases h
  rename_i c hc
  split at h
  · cases h
  rename_i g hg
  simp only [cond_eq_ite] at h
  split at h
  · rename_i hd
    cases h
    exact ⟨hc,hg,rfl,hd⟩
  · cases h

theorem wanted_ok {φ : Phi} (hget : ∀ t v,env.get t = some v → (∃ w,o.guard = some w ∧ ∃ q,ops[w.1]? = some q ∧ q.dst = some t) → RV φ v (a.tmps.getD t undef)) {g : Option (Nat × Bool)} (hg : cG ops o.guard = some g) {b : Bool} (hb : wantG env g = some b) :
    Region.wanted o (yielded ops a.tmps) = b:=by
  unfold cG at hg
  unfold Region.wanted
  split at hg
  · rename_i e
    cases hg
    rw [e]
    simp only [wantG,Option.some.injEq] at hb
    exact hb
  · rename_i j w e
    rw [e]
    split at hg
    · cases hg
    rename_i q hq
    split at hg
    · rename_i d hd
      cases hg
      simp only [wantG] at hb
      have hy : yielded ops a.tmps j = match a.tmps[d]? with
          | some (.bool b) => some b
          | _ => none:=by
        simp only [yielded,hq,Option.bind_some,hd]
        rfl
      simp only [hy]
      split at hb
      · rename_i x hx
        cases hb
        have hr:=hget d _ hx ⟨(j,w),e,q,hq,hd⟩
        simp only [RV] at hr
        have : a.tmps[d]? = some (.bool x):=by
          cases ht : a.tmps[d]? with
          | none => simp [ht,undef] at hr
          | some y => simp [ht] at hr; rw [hr]
        rw [this]
        cases x <;> cases w <;> rfl
      · rename_i hx
        cases hb
        have hr:=hget d _ hx ⟨(j,w),e,q,hq,hd⟩
        simp only [RV] at hr
        cases ht : a.tmps[d]? with
        | none => rfl
        | some y =>
          simp [ht] at hr
          subst hr
          rfl
      · cases hb
    · cases hg

/-- how a piece of code leaves things -/
def KPost (nt : Nat) (φ : Phi) (W : World) (env' : Env) (h' : H) (ds : List Deferred) (a' : Act) (W' : World) : Prop:=
  ∃ φ',a'.defers = ds ∧ REnv nt φ' env' a'.tmps ∧ RW φ' h' W' ∧ Grow φ φ' W ∧ Ext φ W W'

theorem KPost.trans {φ ψ : Phi} {W W1 : World} {env' : Env} {h' : H} {ds : List Deferred} {a' : Act} {W' : World} (g : Grow φ ψ W) (e : Ext φ W W1) (k : KPost nt ψ W1 env' h' ds a' W') : KPost nt φ W env' h' ds a' W':=by
  obtain ⟨φ',h1,h2,h3,h4,h5⟩:=k
  exact ⟨φ',h1,h2,h3,g.trans h4 e.size,e.trans h5 g⟩

/-- operations in their order -/
theorem ops_ok (hcall : CallOK P G call) : ∀ (l : List Oper) (k : Nat) (cos : List CO) (φ : Phi) (env env' : Env) (h h' : H) (W : World) (a : Act),ops.toList.drop k = l → cReg P G X nt ops l = some cos → evOps call cos env h = some (env',h') →
    REnv nt φ env a.tmps → GOK G φ → RW φ h W → (∀ a' W',KPost nt φ W env' h' a.defers a' W' → Q .normal a' W') → wpOps P ops Q (List.range' k l.length) a W:=by
  intro l
  induction l with
  | nil =>
    intro k cos φ env env' h h' W a _ hc hv r g w hQ
    simp only [cReg,Option.some.injEq] at hc
    subst hc
    simp only [evOps,Option.some.injEq,Prod.mk.injEq] at hv
    obtain ⟨rfl,rfl⟩:=hv
    exact hQ a W ⟨φ,rfl,r,w,Grow.refl _ _,Ext.refl _ _⟩
  | cons o l ih =>
    intro k cos φ env env' h h' W a hk hc hv r g w hQ
    simp only [cReg] at hc
    split at hc
    · cases hc
    rename_i co hco
    split at hc
    · rename_i l' hl'
      cases hc
    rename_i cs hcs
    cases hc
    obtain ⟨h1,h2,h3,h4⟩:=cCO_ok hco
    have hget : ops[k]? = some o:=by
      have : ops.toList[k]? = some o:=by
        have e:=congrArg (·[0]?) hk
        simpa using e
      simpa using this
    have hdrop : ops.toList.drop (k + 1) = l:=by
      have e:=congrArg (List.drop 1) hk
      rw [List.drop_drop] at e
      simpa using e
    rw [List.length_cons,List.range'_succ]
    simp only [wpOps,hget]
    simp only [evOps] at hv
    split at hv
    · cases hv
    · rename_i hw
      rw [wanted_ok (fun t v hv _ => r.get t v hv) h2 hw]
      simp only [Bool.false_eq_true,if_false]
      refine ih (k + 1) cs φ (putE env co.d .u) env' h h' W _ hdrop hcs hv (by rw [h3]; exact r.put h4 (by simp only [RV]; rfl)) g w fun a' W' hK => hQ a' W' ?_
      rw [act_put_defers] at hK
      exact hK
    · rename_i hw
      rw [wanted_ok (fun t v hv _ => r.get t v hv) h2 hw]
      simp only [if_true]
      split at hv
      · cases hv
      rename_i rr hrr
      refine .inl (gen_ok hcall r g w h1 hrr fun φ' z W' g1 g2 g3 g4 => ?_)
      refine ih (k + 1) cs φ' _ env' _ h' W' _ hdrop hcs hv (by rw [h3]; exact (r.mono g3.le).put h4 g1) (g.mono g3.le) g2 fun a' W'' hK => hQ a' W'' ?_
      rw [act_put_defers] at hK
      exact hK.trans g3 g4

end
end Go.Ev
namespace Go.Ev

def exitOf : X → Exit
  | .nrm => .normal
  | .exit id => .exit id
  | .ret => .ret

/-- what is to be shown of drawn regions -/
def PlanOK (P : Program) (G : GL) (call : Call) : Prop:=
  ∀ (Hn : Hint) (nt : Nat) (ops : Array Oper) (order : List Nat) (items : List PI) (env env' : Env) (h h' : H) (φ : Phi) (W : World) (a : Act) (Q : Exit → Act → World → Prop),
    cPlan P G Hn nt ops order = some items → evPlan call items env h [h] = some (env',h') → REnv nt φ env a.tmps → GOK G φ → RW φ h W →
    (∀ a' W',KPost nt φ W env' h' a.defers a' W' → Q .normal a' W') → wpAny P .any ops Q ops.size (Array.replicate ops.size false) a W

section
variable {P : Program} {G : GL} {Hn : Hint} {call : Call} {nt : Nat} {lf : Nat}

/-! a heap that is thinned out between two rounds -/

def Phi.below (φ : Phi) (nb : Nat) (kt : List Nat) : Phi:=⟨fun b => if b < nb then φ b else none,φ.ro,φ.fz,fun k => if inL kt k = true then φ.tk k else none⟩

mutual
theorem RV.low {φ : Phi} {nb : Nat} {kt : List Nat} : ∀ (v : V) (x : Value),lowV nb kt v = true → RV φ v x → RV (φ.below nb kt) v x
  | .u,_,_,r => by simpa [RV] using r
  | .z,_,_,r => by simp [RV] at r
  | .b _,_,_,r => by simpa [RV] using r
  | .i _ _,_,_,r => by simpa [RV] using r
  | .s _,_,_,r => by simpa [RV] using r
  | .pn,_,_,r => by simpa [RV] using r
  | .p b o,_,h,r => by
    simp only [RV] at r ⊢
    simp only [lowV,Nat.ble_eq] at h
    obtain ⟨x,hx,rfl⟩:=r
    exact ⟨x,by simp only [Phi.below]; rw [if_pos (by omega)]; exact hx,rfl⟩
  | .sn,_,_,r => by simpa [RV] using r
  | .sl b o l c sz ex,_,h,r => by
    simp only [RV] at r ⊢
    simp only [lowV,Nat.ble_eq] at h
    obtain ⟨x,o',c',hx,rest⟩:=r
    exact ⟨x,o',c',by simp only [Phi.below]; rw [if_pos (by omega)]; exact hx,rest⟩
  | .fn f a b,_,h,r => by
    simp only [RV] at r ⊢
    simp only [lowV,Bool.and_eq_true] at h
    obtain ⟨A,B,e,ha,hb⟩:=r
    exact ⟨A,B,e,RVs.low _ _ h.1 ha,RVs.low _ _ h.2 hb⟩
  | .a cs,_,h,r => by
    simp only [RV] at r ⊢
    simp only [lowV] at h
    obtain ⟨A,e,ha,hb⟩:=r
    exact ⟨A,e,RVs.low _ _ h ha,hb⟩
  | .t vs,_,h,r => by
    simp only [RV] at r ⊢
    simp only [lowV] at h
    obtain ⟨A,e,ha⟩:=r
    exact ⟨A,e,RVs.low _ _ h ha⟩
  | .m,_,_,r => by simpa [RV] using r
  | .c _,_,_,r => by simpa [RV] using r
  | .fz m n sz cs,_,h,r => by
    simp only [RV] at r ⊢
    obtain ⟨h0,h1,h2,p,c',h3,h4,h5,h6,h7,h8⟩:=r
    refine ⟨h0,h1,h2,p,c',h3,h4,h5,h6,?_,?_⟩
    rotate_left
    · cases m with
      | no => trivial
      | ex => exact h8
      | tk k e =>
        simp only [lowV] at h
        obtain ⟨e0,n0,v0,q1,q2⟩:=h8
        exact ⟨e0,n0,v0,by simp only [Phi.below,h,if_true]; exact q1,q2⟩
    rcases h7 with h7 | ⟨x,o,ds,k1,k2,k3,k4⟩
    · exact .inl h7
    · exact .inr ⟨x,o,ds,k1,k2,k3,RVs.pure (fun x ds e => ⟨[],by rw [List.append_nil]; exact e⟩) _ _ h0 k4⟩
  | .pf cs,_,_,r => by
    simp only [RV] at r ⊢
    obtain ⟨h0,x,o,ds,k1,k2,k3,k4⟩:=r
    exact ⟨h0,x,o,ds,k1,k2,k3,RVs.pure (fun x ds e => ⟨[],by rw [List.append_nil]; exact e⟩) _ _ h0 k4⟩
theorem RVs.low {φ : Phi} {nb : Nat} {kt : List Nat} : ∀ (vs : List V) (xs : List Value),lowL nb kt vs = true → RVs φ vs xs → RVs (φ.below nb kt) vs xs
  | [],_,_,r => by simpa [RVs] using r
  | v :: vs,_,h,r => by
    simp only [RVs] at r ⊢
    simp only [lowL,Bool.and_eq_true] at h
    obtain ⟨x,xs,e,hv,hvs⟩:=r
    exact ⟨x,xs,e,RV.low _ _ h.1 hv,RVs.low _ _ h.2 hvs⟩
end

theorem lowL_get {nb : Nat} {kt : List Nat} : ∀ {l : List V} {j : Nat} {v : V},lowL nb kt l = true → l[j]? = some v → lowV nb kt v = true:=by
  intro l
  induction l with
  | nil => intro j v _ h; simp at h
  | cons x l ih =>
    intro j v h hv
    simp only [lowL,Bool.and_eq_true] at h
    cases j with
    | zero => simp at hv; subst hv; exact h.1
    | succ j => simp at hv; exact ih h.2 hv

theorem keepE_ok {nb : Nat} {kt : List Nat} {env : Env} : ∀ (ts : List Nat) (acc env' : Env),keepE nb kt env ts acc = some env' → ∀ t v,env'.get t = some v → acc.get t = some v ∨ (env.get t = some v ∧ lowV nb kt v = true):=by
  intro ts
  induction ts with
  | nil => intro acc env' h t v hv; simp only [keepE,Option.some.injEq] at h; subst h; exact .inl hv
  | cons x ts ih =>
    intro acc env' h t v hv
    simp only [keepE] at h
    split at h
    · exact ih acc env' h t v hv
    · rename_i w hw
      simp only [cond_eq_ite] at h
      split at h
      · rename_i hl
        rcases ih _ env' h t v hv with h1 | h1
        · rw [T.get_set] at h1
          split at h1
          · rename_i e; cases h1; subst e; exact .inr ⟨hw,hl⟩
          · exact .inl h1
        · exact .inr h1
      · cases h

theorem keepB_ok {nb : Nat} {kt : List Nat} {bl : T Blk} : ∀ (n i : Nat) (acc bl' : T Blk),keepB nb kt bl n i acc = some bl' → ∀ b k,bl'.get b = some k → acc.get b = some k ∨ (i ≤ b ∧ b < i + n ∧ bl.get b = some k ∧ k.grp = b ∧ lowL nb kt k.cells = true):=by
  intro n
  induction n with
  | zero => intro i acc bl' h b k hk; simp only [keepB,Option.some.injEq] at h; subst h; exact .inl hk
  | succ n ih =>
    intro i acc bl' h b k hk
    simp only [keepB] at h
    split at h
    · rcases ih (i + 1) acc bl' h b k hk with h1 | ⟨h1,h2,h3⟩
      · exact .inl h1
      · exact .inr ⟨by omega,by omega,h3⟩
    · rename_i w hw
      simp only [cond_eq_ite,Bool.and_eq_true,Nat.beq_eq] at h
      split at h
      · rename_i hl
        rcases ih (i + 1) _ bl' h b k hk with h1 | ⟨h1,h2,h3⟩
        · rw [T.get_set] at h1
          split at h1
          · rename_i e; cases h1; subst e; exact .inr ⟨Nat.le_refl _,by omega,hw,hl.1,hl.2⟩
          · exact .inl h1
        · exact .inr ⟨by omega,by omega,h3⟩
      · cases h

theorem inL_cons (x : Nat) (l : List Nat) (k : Nat) : inL (x :: l) k = (Nat.beq k x || inL l k):=rfl

theorem keepT_get (tk : T (Nat × Nat × Nat)) : ∀ (kt : List Nat) (acc : T (Nat × Nat × Nat)) (k : Nat),(keepT tk kt acc).get k = if inL kt k = true then (match tk.get k with
    | some r => some r
    | none => acc.get k) else acc.get k:=by
  intro kt
  induction kt with
  | nil => intro acc k; simp [keepT,inL]
  | cons x kt ih =>
    intro acc k
    simp only [keepT]
    by_cases hk : k = x
    · subst hk
      have e1 : inL (k :: kt) k = true:=by rw [inL_cons]; simp
      rw [if_pos e1]
      cases hx : tk.get k with
      | none => simp only []; rw [ih,hx]; simp
      | some q => simp only []; rw [ih,hx]; simp only []; split
                  · rfl
                  · rw [T.get_set,if_pos rfl]
    · have e1 : inL (x :: kt) k = inL kt k:=by
        rw [inL_cons]
        have : Nat.beq k x = false:=by cases hb : Nat.beq k x with
          | false => rfl
          | true => rw [Nat.beq_eq] at hb; exact (hk hb).elim
        rw [this,Bool.false_or]
      rw [e1]
      cases hx : tk.get x with
      | none => simp only []; rw [ih]
      | some q => simp only []; rw [ih,T.get_set,if_neg hk]

theorem keepT_e (tk : T (Nat × Nat × Nat)) (kt : List Nat) (k : Nat) : (keepT tk kt .e).get k = if inL kt k = true then tk.get k else none:=by
  rw [keepT_get]
  split
  · cases tk.get k <;> rfl
  · rfl

theorem Rest.below {φ : Phi} {tk : T (Nat × Nat × Nat)} {W : World} (r : Rest φ tk W) (nb : Nat) (kt : List Nat) : Rest (φ.below nb kt) (keepT tk kt .e) W:=by
  have ht : ∀ k e n v,(φ.below nb kt).tk k = some (e,n,v) → φ.tk k = some (e,n,v):=by
    intro k e n v h
    have h' : (if inL kt k = true then φ.tk k else none) = some (e,n,v):=h
    split at h'
    · exact h'
    · cases h'
  have hk : ∀ k e n sz,(keepT tk kt .e).get k = some (e,n,sz) → inL kt k = true ∧ tk.get k = some (e,n,sz):=by
    intro k e n sz h
    rw [keepT_e] at h
    split at h
    · rename_i h1; exact ⟨h1,h⟩
    · cases h
  refine ⟨fun x ds h => ⟨(r.frz x ds h).1,fun b y hy e => ?_⟩,fun k e n sz h => ?_,fun k j x h h' => ?_,fun k h => ?_,fun wb h => ?_⟩
  · have hy' : (if b < nb then φ b else none) = some y:=hy
    split at hy'
    · exact (r.frz x ds h).2 b y hy' e
    · cases hy'
  · obtain ⟨h1,h2⟩:=hk k e n sz h
    obtain ⟨v,k1,k2⟩:=r.tks k e n sz h2
    exact ⟨v,by show (if inL kt k = true then φ.tk k else none) = _; rw [if_pos h1]; exact k1,k2⟩
  · obtain ⟨e,n,sz,o,c',k1,k2,k3⟩:=h
    obtain ⟨e2,n2,sz2,o2,c2,k4,k5,k6⟩:=h'
    exact r.tku k j x ⟨e,n,sz,o,c',(hk _ _ _ _ k1).2,ht _ _ _ _ k2,k3⟩ ⟨e2,n2,sz2,o2,c2,(hk _ _ _ _ k4).2,ht _ _ _ _ k5,k6⟩
  · show (if inL kt k = true then φ.tk k else none) = none
    rw [keepT_e] at h
    split
    · rename_i h1; rw [if_pos h1] at h; exact r.tkn k h
    · rfl
  · obtain ⟨k,e,n,p,l,c,k1,k2⟩:=h
    exact r.ownf wb ⟨k,e,n,p,l,c,ht _ _ _ _ k1,k2⟩

theorem keys_get {α : Type} : ∀ {t : T α} {p : Nat → Bool},t.keys p = true → ∀ {k : Nat} {x : α},t.get k = some x → p k = true
  | .e,_,_,k,x,e => by cases e
  | .n l v r,p,h,k,x,e => by
    simp only [T.keys,Bool.and_eq_true] at h
    rw [T.get_n] at e
    split at e
    · rename_i hk; subst hk; subst e; exact h.1.1
    · split at e
      · have:=keys_get h.1.2 e
        rwa [show 2 * (k / 2) + 1 = k by omega] at this
      · have:=keys_get h.2 e
        rwa [show 2 * (k / 2 - 1) + 2 = k by omega] at this

theorem rst_ok {keep : List Nat} {nb nt : Nat} {kt : List Nat} {env env' : Env} {h h' : H} (e : rst keep nb kt env h = some (env',h')) {φ : Phi} {W : World} {tmps : Array Value} (r : REnv nt φ env tmps) (w : RW φ h W) :
    h'.nb = nb ∧ REnv nt (φ.below nb kt) env' tmps ∧ RW (φ.below nb kt) h' W:=by
  unfold rst at e
  split at e
  · cases e
  rename_i env1 he
  split at e
  · cases e
  rename_i bl1 hb
  cases e
  have hbl : ∀ b k,bl1.get b = some k → b < nb ∧ h.bl.get b = some k ∧ k.grp = b ∧ lowL nb kt k.cells = true:=by
    intro b k hk
    rcases keepB_ok _ _ _ _ hb b k hk with h1 | ⟨_,h2,h3⟩
    · rw [T.get_e] at h1; cases h1
    · exact ⟨by omega,h3⟩
  have hf : ∀ b,b < nb → (φ.below nb kt) b = φ b:=fun b hlt => by show (if b < nb then φ b else none) = _; rw [if_pos hlt]
  have hf' : ∀ b x,(φ.below nb kt) b = some x → b < nb ∧ φ b = some x:=by
    intro b x hx
    have hx' : (if b < nb then φ b else none) = some x:=hx
    split at hx'
    · rename_i hlt; exact ⟨hlt,hx'⟩
    · cases hx'
  refine ⟨rfl,⟨r.size,fun t v hv => ?_⟩,?_⟩
  · rcases keepE_ok _ _ _ he t v hv with h1 | ⟨h1,h2⟩
    · rw [T.get_e] at h1; cases h1
    · exact RV.low _ _ h2 (r.get t v h1)
  · refine ⟨fun b k hk => ?_,fun b x hx => ?_,fun b hlt => ?_,fun b1 b2 k1 k2 x1 x2 h1 h2 e1 e2 hw => ?_,fun b k hk => .inl (hbl b k hk).2.2.1.symm,w.ros,w.rest.below nb kt⟩
    · obtain ⟨h1,h2,_,h4⟩:=hbl b k hk
      obtain ⟨x,c,e,fz,hx,hc,s1,s2,s3,s4⟩:=w.blk b k h2
      refine ⟨x,c,e,fz,by rw [hf b h1]; exact hx,hc,s1,s2,s3,fun j v hv => ?_⟩
      rcases s4 j v hv with s5 | ⟨s5,y,s6,s7⟩
      · exact .inl s5
      · exact .inr ⟨s5,y,s6,RV.low _ _ (lowL_get h4 hv) s7⟩
    · obtain ⟨h1,h2⟩:=hf' b x hx
      exact ⟨h1,(w.img b x h2).2⟩
    · have hlt' : nb ≤ b:=hlt
      cases e : bl1.get b with
      | none => rfl
      | some k => have:=(hbl b k e).1; omega
    · exact w.alias b1 b2 k1 k2 x1 x2 (hbl b1 k1 h1).2.1 (hbl b2 k2 h2).2.1 (hf' b1 x1 e1).2 (hf' b2 x2 e2).2 hw

/-- how code ends -/
def CEnd (nt : Nat) (φ : Phi) (W : World) (x : X) (env' : Env) (h' : H) (ds : List Deferred) (e : Exit) (a' : Act) (W' : World) : Prop:=
  e = exitOf x ∧ KPost nt φ W env' h' ds a' W'

/-- what is to be shown of a piece of code -/
def CodeOK (P : Program) (G : GL) (call : Call) (nt lf : Nat) (c : Code) (k : K) : Prop:=
  ∀ (env : Env) (h : H) (x : X) (env' : Env) (h' : H),evK call lf k env h = some (x,env',h') → ∀ (φ : Phi) (W : World) (a : Act),REnv nt φ env a.tmps → GOK G φ → RW φ h W →
    c.wp P (CEnd nt φ W x env' h' a.defers) a W

theorem loop_ok {c : Code} {f : Env → H → Option (X × Env × H)}
    (hf : ∀ (env : Env) (h : H) (x : X) (env' : Env) (h' : H),f env h = some (x,env',h') → ∀ (φ : Phi) (W : World) (a : Act),REnv nt φ env a.tmps → GOK G φ → RW φ h W → c.wp P (CEnd nt φ W x env' h' a.defers) a W) :
    ∀ (n : Nat) (env : Env) (h : H) (x : X) (env' : Env) (h' : H),iter f n env h = some (x,env',h') → ∀ (φ : Phi) (W : World) (a : Act) (Q : Exit → Act → World → Prop),REnv nt φ env a.tmps → GOK G φ → RW φ h W →
      (∀ e a' W',CEnd nt φ W x env' h' a.defers e a' W' → Q e a' W') → Code.rounds P c Q n a W:=by
  intro n
  induction n with
  | zero => intro env h x env' h' hv; simp [iter] at hv
  | succ n ih =>
    intro env h x env' h' hv φ W a Q r g w hQ
    simp only [iter] at hv
    split at hv
    · cases hv
    rename_i rr hrr
    obtain ⟨x1,env1,h1⟩:=rr
    rw [rounds_succ]
    refine wp_mono (hf env h x1 env1 h1 hrr φ W a r g w) fun e a' W' he => ?_
    obtain ⟨rfl,φ',d1,d2,d3,d4,d5⟩:=he
    cases x1 with
    | nrm =>
      refine ih env1 h1 x env' h' hv φ' W' a' Q d2 (g.mono d4.le) d3 fun e a'' W'' he => hQ e a'' W'' ?_
      obtain ⟨he,hk⟩:=he
      rw [d1] at hk
      exact ⟨he,hk.trans d4 d5⟩
    | exit id =>
      cases hv
      exact hQ _ a' W' ⟨rfl,φ',d1,d2,d3,d4,d5⟩
    | ret =>
      cases hv
      exact hQ _ a' W' ⟨rfl,φ',d1,d2,d3,d4,d5⟩

theorem GOK.low {φ : Phi} {nb : Nat} {kt : List Nat} (g : GOK G φ) : GOK G (φ.below nb kt):=fun gg us hg => by
  obtain ⟨a1,ds,a2,a3,a4⟩:=g gg us hg
  exact ⟨a1,ds,a2,a3,RVs.pure (fun x ds e => ⟨[],by rw [List.append_nil]; exact e⟩) _ _ a1 a4⟩

theorem grow_below {φ0 φ : Phi} {W0 : World} {nb : Nat} {kt : List Nat} (gr : Grow φ0 φ W0) (h0 : ∀ b x,φ0 b = some x → b < nb) (h1 : ∀ k r,φ0.tk k = some r → inL kt k = true) : Grow φ0 (φ.below nb kt) W0:=by
  refine ⟨⟨fun b y hb => ?_,gr.le.ro,gr.le.fz,fun k e n v hk => ?_⟩,fun b y hb hlt => ?_,fun wb hw => ?_,gr.frz⟩
  rotate_left
  · obtain ⟨e',n',v',q1,q2⟩:=gr.le.tk k e n v hk
    exact ⟨e',n',v',by show (if inL kt k = true then φ.tk k else none) = _; rw [if_pos (h1 _ _ hk)]; exact q1,q2⟩
  rotate_left
  · refine gr.own wb ?_
    obtain ⟨k,e,n,p,l,c,k1,k2⟩:=hw
    have k1' : (if inL kt k = true then φ.tk k else none) = some (e,n,.slice (some p) l c):=k1
    split at k1'
    · exact ⟨k,e,n,p,l,c,k1',k2⟩
    · cases k1'
  · show (if b < nb then φ b else none) = some y
    rw [if_pos (h0 b y hb)]
    exact gr.le.sub b y hb
  · have hb' : (if b < nb then φ b else none) = some y:=hb
    split at hb'
    · exact gr.new b y hb' hlt
    · cases hb'

theorem wrapF_ok {c : Code} {k : K} (hk : CodeOK P G call nt lf c k) (f : List (List Nat)) : CodeOK P G call nt lf c (wrapF f k):=by
  unfold wrapF
  split
  · rename_i ki ko kr ke nb kt
    intro env h x env' h' hv φ W a r g w
    simp only [evK,cond_eq_ite,Bool.and_eq_true,Nat.ble_eq] at hv
    split at hv
    · rename_i hle
      obtain ⟨hle,hkt⟩:=hle
      split at hv
      · cases hv
      rename_i s hs
      obtain ⟨env1,h1⟩:=s
      split at hv
      · cases hv
      rename_i rr hrr
      obtain ⟨x2,env2,h2⟩:=rr
      unfold finX at hv
      split at hv
      · cases hv
      rename_i t ht
      obtain ⟨env3,h3⟩:=t
      cases hv
      obtain ⟨_,r1,w1⟩:=rst_ok hs r w
      have g1 : GOK G (φ.below nb kt):=g.low
      have h0 : ∀ b x,φ b = some x → b < nb:=fun b x hb => by have:=(w.img b x hb).1; omega
      have h1' : ∀ k r,φ.tk k = some r → inL kt k = true:=fun k r hk => by
        cases hg : h.tk.get k with
        | none => rw [w.rest.tkn k hg] at hk; cases hk
        | some q => exact keys_get hkt hg
      have gr1 : Grow φ (φ.below nb kt) W:=grow_below (Grow.refl _ _) h0 h1'
      refine wp_mono (hk env1 h1 x2 env2 h2 hrr _ W a r1 g1 w1) fun e a' W' he => ?_
      obtain ⟨rfl,φ',d1,d2,d3,d4,d5⟩:=he
      have gr2:=gr1.trans d4 (Ext.refl φ W).size
      have ex2:=(Ext.refl φ W).trans d5 gr1
      obtain ⟨_,r3,w3⟩:=rst_ok ht d2 d3
      exact ⟨rfl,φ'.below nb kt,d1,r3,w3,grow_below gr2 h0 h1',ex2⟩
    · cases hv
  · exact hk

theorem code_ok (hcall : CallOK P G call) (hmix : P.follows .mixedOrders = true) (hplan : PlanOK P G call) : ∀ (c : Code) (hs : List (List (List Nat))),CodeOK P G call nt lf c (cK P G Hn nt c hs).1:=by
  have bad : ∀ c : Code,CodeOK P G call nt lf c .bad:=fun c env h x env' h' hv => by simp [evK] at hv
  intro c
  induction c with
  | skip =>
    intro hs env h x env' h' hv φ W a r g w
    simp only [cK,evK,Option.some.injEq,Prod.mk.injEq] at hv
    obtain ⟨rfl,rfl,rfl⟩:=hv
    exact wp_skip ⟨rfl,φ,rfl,r,w,Grow.refl _ _,Ext.refl _ _⟩
  | region id ops draw =>
    intro hs
    cases draw with
    | false =>
      simp only [cK]
      split
      · rename_i l hl
        refine wrapF_ok ?_ _
        intro env h x env' h' hv φ W a r g w
        simp only [evK] at hv
        split at hv
        · rename_i rr hrr
          cases hv
          have:=ops_ok (Q:=CEnd nt φ W .nrm env' h' a.defers) hcall ops.toList 0 l φ env env' h h' W a rfl hl hrr r g w (fun a' W' hk => ⟨rfl,hk⟩)
          refine wp_region ?_
          rw [List.range_eq_range']
          simpa using this
        · cases hv
      · exact bad _
    | true =>
      simp only [cK]
      split
      · exact bad _
      · rename_i order hs
        split
        · rename_i l hl
          refine wrapF_ok ?_ _
          intro env h x env' h' hv φ W a r g w
          simp only [evK] at hv
          split at hv
          · rename_i rr hrr
            cases hv
            refine wp_region_any hmix ?_
            have e : Ext φ W { W with drawn:=W.drawn + 1 }:=Ext.same rfl rfl rfl rfl
            have w' : RW φ h { W with drawn:=W.drawn + 1 }:=w.drawn rfl
            exact hplan Hn nt ops _ l env env' h h' φ _ a _ hl hrr r g w' fun a' W' hk => ⟨rfl,hk.trans (Grow.refl _ _) e⟩
          · cases hv
        · exact bad _
  | seq x y ihx ihy =>
    intro hs env h x' env' h' hv φ W a r g w
    simp only [cK,evK] at hv
    split at hv
    · cases hv
    rename_i rr hrr
    obtain ⟨x1,env1,h1⟩:=rr
    refine wp_seq (wp_mono (ihx hs env h x1 env1 h1 hrr φ W a r g w) fun e a' W' he => ?_)
    obtain ⟨rfl,φ',d1,d2,d3,d4,d5⟩:=he
    cases x1 with
    | nrm =>
      refine wp_mono (ihy _ env1 h1 x' env' h' hv φ' W' a' d2 (g.mono d4.le) d3) fun e a'' W'' he => ?_
      obtain ⟨he,hk⟩:=he
      rw [d1] at hk
      exact ⟨he,hk.trans d4 d5⟩
    | exit id =>
      cases hv
      exact ⟨rfl,φ',d1,d2,d3,d4,d5⟩
    | ret =>
      cases hv
      exact ⟨rfl,φ',d1,d2,d3,d4,d5⟩
  | cond c x y ihx ihy =>
    intro hs
    simp only [cK]
    split
    · exact bad _
    rename_i o ho
    refine wrapF_ok ?_ _
    intro env h x' env' h' hv φ W a r g w
    simp only [evK] at hv
    split at hv
    · rename_i b hb
      have hr:=toO_ok ho r g hb
      simp only [RV] at hr
      refine wp_cond hr ?_
      cases b
      · exact ihy _ env h x' env' h' hv φ W a r g w
      · exact ihx _ env h x' env' h' hv φ W a r g w
    · cases hv
  | block id c ih =>
    intro hs
    simp only [cK]
    refine wrapF_ok ?_ _
    intro env h x env' h' hv φ W a r g w
    simp only [evK] at hv
    split at hv
    · cases hv
    rename_i rr hrr
    obtain ⟨x1,env1,h1⟩:=rr
    refine wp_block (wp_mono (ih _ env h x1 env1 h1 hrr φ W a r g w) fun e a' W' he => ?_)
    obtain ⟨rfl,hk⟩:=he
    cases x1 with
    | nrm => cases hv; exact ⟨rfl,hk⟩
    | ret => cases hv; exact ⟨rfl,hk⟩
    | exit id' =>
      simp only [cond_eq_ite,Nat.beq_eq] at hv
      simp only [exitOf,Exit.inBlock]
      split at hv
      · rename_i e
        cases hv
        rw [if_pos e]
        exact ⟨rfl,hk⟩
      · rename_i e
        cases hv
        rw [if_neg e]
        exact ⟨rfl,hk⟩
  | loop c ih =>
    intro hs
    simp only [cK]
    split
    · exact bad _
    rename_i g' hs'
    intro env h x env' h' hv φ W a r g w
    simp only [evK] at hv
    exact wp_loop_rounds lf (loop_ok (wrapF_ok (ih _) _) lf env h x env' h' hv φ W a _ r g w fun e a' W' he => he)
  | rangeFunc f ps x y _ _ => intro hs; exact bad _
  | exit id =>
    intro hs env h x env' h' hv φ W a r g w
    simp only [cK,evK,Option.some.injEq,Prod.mk.injEq] at hv
    obtain ⟨rfl,rfl,rfl⟩:=hv
    exact wp_exit ⟨rfl,φ,rfl,r,w,Grow.refl _ _,Ext.refl _ _⟩
  | scope c ih =>
    intro hs env h x env' h' hv φ W a r g w
    simp only [cK] at hv
    refine wp_scope_straight (wp_mono (ih hs env h x env' h' hv φ W a r g w) fun e a' W' he => ?_)
    obtain ⟨rfl,hk⟩:=he
    cases x <;> exact ⟨rfl,hk⟩
  | label l =>
    intro hs env h x env' h' hv φ W a r g w
    simp only [cK,evK,Option.some.injEq,Prod.mk.injEq] at hv
    obtain ⟨rfl,rfl,rfl⟩:=hv
    exact wp_label ⟨rfl,φ,rfl,r,w,Grow.refl _ _,Ext.refl _ _⟩
  | goto l => intro hs; exact bad _
  | ret =>
    intro hs env h x env' h' hv φ W a r g w
    simp only [cK,evK,Option.some.injEq,Prod.mk.injEq] at hv
    obtain ⟨rfl,rfl,rfl⟩:=hv
    exact wp_ret ⟨rfl,φ,rfl,r,w,Grow.refl _ _,Ext.refl _ _⟩
  | refuse why => intro hs; exact bad _

/-! functions -/

theorem envOf_get : ∀ (vs : List V) (n : Nat) (env : Env) (t : Nat),(envOf vs n env).get t = if n ≤ t ∧ t < n + vs.length then vs[t - n]? else env.get t:=by
  intro vs
  induction vs with
  | nil => intro n env t; simp [envOf]; intro h1 h2; omega
  | cons v vs ih =>
    intro n env t
    simp only [envOf,ih,T.get_set,List.length_cons]
    by_cases h1 : t = n
    · subst h1
      rw [if_neg (by omega),if_pos rfl,if_pos (by omega)]
      simp
    · by_cases h2 : n + 1 ≤ t ∧ t < n + 1 + vs.length
      · rw [if_pos h2,if_pos (by omega),show t - n = (t - (n + 1)) + 1 by omega]
        rfl
      · rw [if_neg h2,if_neg h1,if_neg (by omega)]

theorem start_env {φ : Phi} {args : List V} {vs : Array Value} (hr : RVs φ args vs.toList) {n : Nat} (hn : args.length ≤ n) : REnv n φ (envOf args 0 .e) (vs ++ Array.replicate (n - vs.size) undef):=by
  have hl:=hr.length
  simp only [Array.length_toList] at hl
  refine ⟨by simp; omega,fun t v hv => ?_⟩
  rw [envOf_get,T.get_e] at hv
  split at hv
  · rename_i hc
    obtain ⟨y,hy,hry⟩:=hr.get hv
    have hy' : vs[t - 0]? = some y:=by simpa using hy
    rw [Nat.sub_zero] at hy'
    obtain ⟨hlt,he⟩:=Array.getElem?_eq_some_iff.1 hy'
    have : (vs ++ Array.replicate (n - vs.size) undef)[t]? = some y:=by
      rw [Array.getElem?_append_left hlt]; exact hy'
    simp only [Array.getD_eq_getD_getElem?,this,Option.getD_some]
    exact hry
  · cases hv

theorem results_ok {φ : Phi} {env : Env} {h : H} {W : World} {tmps : Array Value} (r : REnv nt φ env tmps) (w : RW φ h W) : ∀ (l : List ResultVar) (rs : List R) (vs : List V),mapO (cR P) l = some rs → resV env h rs = some vs →
    ∃ xs : List Value,(l.mapM (fun
      | .tmp t => pure (tmps.getD t undef)
      | .cell a t => do loadVar t (← asAddr (tmps.getD a undef)) : ResultVar → Sem Value)).run P W = .ok xs W ∧ RVs φ vs xs:=by
  intro l
  induction l with
  | nil =>
    intro rs vs h1 h2
    simp only [mapO,Option.some.injEq] at h1
    subst h1
    simp only [resV,Option.some.injEq] at h2
    subst h2
    exact ⟨[],rfl,by simp [RVs]⟩
  | cons q l ih =>
    intro rs vs h1 h2
    simp only [mapO] at h1
    split at h1
    · cases h1
    rename_i rq hrq
    split at h1
    · cases h1
    rename_i rs' hrs'
    cases h1
    simp only [resV] at h2
    split at h2
    · cases h2
    rename_i v hv
    split at h2
    · cases h2
    rename_i vs' hvs'
    cases h2
    obtain ⟨xs,hxs,hrx⟩:=ih rs' vs' hrs' hvs'
    have one_ : ∃ x,((fun
      | .tmp t => pure (tmps.getD t undef)
      | .cell a t => do loadVar t (← asAddr (tmps.getD a undef)) : ResultVar → Sem Value) q).run P W = .ok x W ∧ RV φ v x:=by
      cases q with
      | tmp t =>
        simp only [cR,Option.some.injEq] at hrq
        subst hrq
        simp only [R.ev] at hv
        exact ⟨_,rfl,r.get t v hv⟩
      | cell a t =>
        simp only [cR] at hrq
        split at hrq
        · rename_i ha
          split at hrq
          · rename_i n hn
            cases hrq
            simp only [R.ev] at hv
            split at hv
            · rename_i b oo hb
              split at hv
              · rename_i cs hcs
                cases hv
                have hp:=r.get a _ hb
                simp only [RV] at hp
                obtain ⟨y,hy,he⟩:=hp
                obtain ⟨ys,hl,hr,ho,hcell⟩:=ldn_ok w hcs hy
                refine ⟨.agg ys.toArray,?_,?_⟩
                · show (do loadVar t (← asAddr (tmps.getD a undef)) : Sem Value).run P W = _
                  rw [he]
                  simp only [asAddr,Sem.run_bind,Sem.run_pure,Result.andThen_ok]
                  exact run_load_agg ha hn _ ys hl hcell
                · simp only [RV]; exact ⟨_,rfl,by simpa using hr,ho⟩
              · cases hv
            · cases hv
          · cases hrq
        · rename_i ha
          cases hrq
          simp only [R.ev] at hv
          split at hv
          · rename_i b oo hb
            have hp:=r.get a _ hb
            simp only [RV] at hp
            obtain ⟨y,hy,he⟩:=hp
            obtain ⟨_,z,hz,hr⟩:=ld1_ok w hv hy
            refine ⟨z,?_,hr⟩
            show (do loadVar t (← asAddr (tmps.getD a undef)) : Sem Value).run P W = _
            rw [he]
            simp only [asAddr,Sem.run_bind,Sem.run_pure,Result.andThen_ok]
            exact run_load_one ha _ hz
          · cases hv
        · cases hrq
    obtain ⟨x,hx,hrx'⟩:=one_
    refine ⟨x :: xs,?_,by simp only [RVs]; exact ⟨x,xs,rfl,hrx',hrx⟩⟩
    rw [List.mapM_cons,Sem.run_bind,hx]
    simp only [Result.andThen_ok,Sem.run_bind,hxs,Sem.run_pure]

theorem func_ok (hcall : CallOK P G call) (hmix : P.follows .mixedOrders = true) (hplan : PlanOK P G call) {f : Nat} {fn : Func} {hs : List (List (List Nat))} {F : F} (hf : P.funcs[f]? = some fn) (hc : cF P G Hn fn hs = some F)
    {args : List V} {h h' : H} {v : V} (hv : runF call lf F args h = some (v,h')) {φ : Phi} {W : World} {vs : Array Value} (g : GOK G φ) (ha : RVs φ args vs.toList) (w : RW φ h W) : Calls P f vs W (CPost φ W v h'):=by
  unfold cF at hc
  split at hc
  · cases hc
  rename_i b hb
  split at hc
  · cases hc
  rename_i rs hrs
  simp only [cond_eq_ite,Nat.ble_eq] at hc
  split at hc
  · rename_i hn
    cases hc
    simp only [runF,cond_eq_ite,Nat.beq_eq,len_eq] at hv
    split at hv
    case isFalse => cases hv
    rename_i hl
    split at hv
    case h_2 => cases hv
    rename_i rr hrr
    obtain ⟨x,env1,h1⟩:=rr
    refine calls_of_wp hf hb (wp_mono (code_ok hcall hmix hplan b hs _ h x env1 h1 hrr φ W _ (start_env ha (by omega)) g w) fun e a' W' he => ?_)
    obtain ⟨rfl,φ',d1,d2,d3,d4,d5⟩:=he
    have fin : ∀ us : List V,resV env1 h1 rs = some us → h1 = h' → packR us = v → a'.defers = [] ∧ ∃ z,(results fn a'.tmps).run P W' = .ok z W' ∧ CPost φ W v h' (.returned z) W':=by
      intro us hus hh hp
      subst hh; subst hp
      obtain ⟨xs,hxs,hrx⟩:=results_ok (P:=P) d2 d3 fn.results.toList rs us hrs hus
      have hrun : (results fn a'.tmps).run P W' = .ok (if h : xs.toArray.size = 1 then xs.toArray[0] else .tuple xs.toArray) W':=by
        unfold results
        rw [Array.mapM_eq_mapM_toList,Sem.run_bind,Sem.run_map]
        exact (congrArg (fun r => Result.andThen (Result.andThen r _) _) hxs).trans rfl
      refine ⟨d1,_,hrun,φ',?_,d3,d4,d5⟩
      have hl:=hrx.length
      match us,xs,hrx,hl with
      | [],[],_,_ => simp [packR,RV]
      | [v1],[y],hrx,_ =>
        simp only [RVs] at hrx
        obtain ⟨y',ys',e,hy,_⟩:=hrx
        cases e
        simpa [packR] using hy
      | u1 :: u2 :: us,y1 :: y2 :: ys,hrx,_ =>
        simp only [packR,RV]
        exact ⟨(y1 :: y2 :: ys).toArray,by simp,by simpa using hrx⟩
    cases x with
    | exit id => cases hv
    | nrm =>
      simp only at hv
      split at hv
      · rename_i us hus
        cases hv
        exact fin us hus rfl rfl
      · cases hv
    | ret =>
      simp only at hv
      split at hv
      · rename_i us hus
        cases hv
        exact fin us hus rfl rfl
      · cases hv
  · cases hc

/-- a table of functions that are the program's -/
def TabOK (P : Program) (G : GL) (tab : Nat → Option F) : Prop:=
  ∀ f F,tab f = some F → ∃ fn hs,∃ Hn : Hint,P.funcs[f]? = some fn ∧ cF P G Hn fn hs = some F ∧ (fn.name == "runtime.NumGoroutine") = false

end
end Go.Ev
namespace Go.Ev

/-- a tree without some of its keys -/
def T.filt {α : Type} : (Nat → Bool) → T α → T α
  | _,.e => .e
  | p,.n l v r => .n (l.filt fun k => p (2 * k + 1)) (bif p 0 then v else none) (r.filt fun k => p (2 * k + 2))

theorem T.get_filt {α : Type} (t : T α) : ∀ (p : Nat → Bool) (k : Nat),(t.filt p).get k = if p k = true then t.get k else none:=by
  induction t with
  | e => intro p k; simp [T.filt,T.get_e]
  | n l v r ihl ihr =>
    intro p k
    simp only [T.filt,T.get_n,ihl,ihr]
    by_cases h0 : k = 0
    · subst h0
      simp only [if_true,cond_eq_ite]
    · rw [if_neg h0,if_neg h0]
      by_cases h1 : k % 2 = 1
      · rw [if_pos h1,if_pos h1,show 2 * (k / 2) + 1 = k by omega]
      · rw [if_neg h1,if_neg h1,show 2 * (k / 2 - 1) + 2 = k by omega]

/-- two environments agree on some temporaries -/
def Agree (l : List Nat) (e1 e2 : Env) : Prop:=∀ t,t ∈ l → e1.get t = e2.get t

theorem Agree.left {a b : List Nat} {e1 e2 : Env} (h : Agree (a ++ b) e1 e2) : Agree a e1 e2:=fun t ht => h t (List.mem_append_left _ ht)
theorem Agree.right {a b : List Nat} {e1 e2 : Env} (h : Agree (a ++ b) e1 e2) : Agree b e1 e2:=fun t ht => h t (List.mem_append_right _ ht)

theorem O.ev_congr {o : O} {e1 e2 : Env} (h : Agree o.tm e1 e2) : o.ev e1 = o.ev e2:=by
  cases o with
  | t n => exact h n (by simp [O.tm])
  | k v => rfl
  | d n =>
    simp only [O.ev]
    rw [h n (by simp [O.tm])]

theorem evs_congr : ∀ {l : List O} {e1 e2 : Env},Agree (tms l) e1 e2 → evs e1 l = evs e2 l:=by
  intro l
  induction l with
  | nil => intros; rfl
  | cons o l ih =>
    intro e1 e2 h
    simp only [evs,O.ev_congr (o:=o) h.left,ih h.right]

theorem O.nat_congr {o : O} {e1 e2 : Env} (h : Agree o.tm e1 e2) : o.nat e1 = o.nat e2:=by simp only [O.nat,O.ev_congr h]
theorem O.cells_congr {o : O} {e1 e2 : Env} (h : Agree o.tm e1 e2) : o.cells e1 = o.cells e2:=by simp only [O.cells,O.ev_congr h]

theorem optNat_congr {o : Option O} {d : Nat} {e1 e2 : Env} (h : Agree (tmo o) e1 e2) : optNat e1 d o = optNat e2 d o:=by
  cases o with
  | none => rfl
  | some o => exact O.nat_congr h

theorem fillP_congr : ∀ {ps : List (Nat × Nat × O)} {cs : List V} {e1 e2 : Env},Agree (tmp3 ps) e1 e2 → fillP e1 cs ps = fillP e2 cs ps:=by
  intro ps
  induction ps with
  | nil => intros; rfl
  | cons p ps ih =>
    intro cs e1 e2 h
    simp only [fillP,O.ev_congr (o:=p.2.2) h.left]
    have:=fun cs => ih (cs:=cs) h.right
    simp only [this]

theorem evP_congr {c : PC} {e1 e2 : Env} (h : Agree c.tm e1 e2) : evP c e1 = evP c e2:=by
  cases c <;> simp only [PC.tm] at h <;> simp only [evP]
  case mv x => exact O.ev_congr h
  case pick c a b =>
    simp only [evPick,O.ev_congr h.left.left]
    split
    · rename_i x _
      cases x
      · exact O.ev_congr h.right
      · exact O.ev_congr h.left.right
    · rfl
  case build z ps => simp only [evBuild,fillP_congr h]
  case nilck x => simp only [evNil,O.ev_congr h]
  case fa n x => simp only [evFa,O.ev_congr h]
  case fld1 n x => simp only [evFld1,O.cells_congr h]
  case fldn o n x => simp only [evFldn,O.cells_congr h]
  case ixS s x i => simp only [evIxS,O.ev_congr h.left,O.nat_congr h.right]
  case ixA n s x i => simp only [evIxA,O.ev_congr h.left,O.nat_congr h.right]
  case idA1 n x i => simp only [evIdA1,O.cells_congr h.left,O.nat_congr h.right]
  case idAn n s x i => simp only [evIdAn,O.cells_congr h.left,O.nat_congr h.right]
  case idStr x i => simp only [evIdStr,O.ev_congr h.left,O.nat_congr h.right]
  case bin op x y => simp only [evBin,O.ev_congr h.left,O.ev_congr h.right]
  case binB op x y => simp only [evBinB,O.ev_congr h.left,O.ev_congr h.right]
  case eqA ks n x y => simp only [evEqA,O.cells_congr h.left,O.cells_congr h.right]
  case eqNil n x => simp only [evEqNil,O.ev_congr h]
  case un op x => simp only [evUn,O.ev_congr h]
  case cvt k x => simp only [evCvt,O.ev_congr h]
  case slS s x lo hi =>
    have:=fun d => optNat_congr (d:=d) h.right
    simp only [evSlS,O.ev_congr h.left.left,optNat_congr h.left.right,this]
  case slS3 s x lo hi m => simp only [evSlS3,O.ev_congr h.left.left.left,optNat_congr h.left.left.right,O.nat_congr h.left.right,O.nat_congr h.right]
  case slStr x lo hi =>
    have:=fun d => optNat_congr (d:=d) h.right
    simp only [evSlStr,O.ev_congr h.left.left,optNat_congr h.left.right,this]
  case mkf f a b => simp only [evMkf,evs_congr h.left,evs_congr h.right]
  case len x => simp only [evLen,O.ev_congr h]
  case lenS x => simp only [evLenS,O.ev_congr h]
  case cap x => simp only [evCap,O.ev_congr h]
  case mn xs => simp only [evMm,evs_congr h]
  case mx xs => simp only [evMm,evs_congr h]
  case ext x i => simp only [evExt,O.ev_congr h]

theorem evL_congr {c : LC} {e1 e2 : Env} {h : H} (ag : Agree c.tm e1 e2) : evL c e1 h = evL c e2 h:=by
  cases c <;> simp only [LC.tm] at ag <;> simp only [evL]
  case ld1 x => simp only [evLd1,O.ev_congr ag]
  case ldn n x => simp only [evLdn,O.ev_congr ag]
  case b2s x => simp only [evB2s,O.ev_congr ag]
  case slA n s x lo hi =>
    have:=fun d => optNat_congr (d:=d) ag.right
    simp only [evSlA,O.ev_congr ag.left.left,optNat_congr ag.left.right,this]

theorem evA_congr {c : AC} {e1 e2 : Env} (ag : Agree c.tm e1 e2) : evA c e1 = evA c e2:=by
  cases c <;> simp only [AC.tm] at ag <;> simp only [evA]
  case box x => simp only [evBox,O.ev_congr ag]
  case buildSl s n z ps => simp only [evBuildSl,fillP_congr ag]
  case mkSl s b z l c => simp only [evMkSl,O.nat_congr ag.left,O.nat_congr ag.right]
  case s2b x => simp only [evS2b,O.ev_congr ag]

theorem evE_congr {call : Call} {c : EC} {e1 e2 : Env} {h : H} (ag : Agree c.tm e1 e2) : evE call c e1 h = evE call c e2 h:=by
  cases c <;> simp only [EC.tm] at ag <;> simp only [evE]
  case appT s b k x y => simp only [evAppT,O.ev_congr ag.left,O.ev_congr ag.right]
  case acc k s x => simp only [evAcc,O.ev_congr ag]
  case bldF s n z ps => simp only [evBldF,fillP_congr ag]
  case callP f qs xs => simp only [evCallP,evs_congr ag]
  case callT k f xs => simp only [evCallT,evs_congr ag]
  case callvP x qs xs => simp only [evCallvP,O.ev_congr ag.left,evs_congr ag.right]
  case callM f qs xs => simp only [evCallM,evs_congr ag]
  case boxF x => simp only [evBoxF,O.ev_congr ag]
  case clr s z x => simp only [evClr,O.ev_congr ag]
  case st1 a x => simp only [evSt1,O.ev_congr ag.left,O.ev_congr ag.right]
  case stn n a x => simp only [evStn,O.ev_congr ag.left,O.cells_congr ag.right]
  case call f xs => simp only [evCall,evs_congr ag]
  case callv x xs => simp only [evCallv,O.ev_congr ag.left,evs_congr ag.right]
  case appS s b x y => simp only [evAppS,O.ev_congr ag.left,O.ev_congr ag.right]
  case appStr b x y => simp only [evAppStr,O.ev_congr ag.left,O.ev_congr ag.right]
  case appZ s b z x n => simp only [evAppZ,O.ev_congr ag.left,O.nat_congr ag.right]
  case copyS s x y => simp only [evCopyS,O.ev_congr ag.left,O.ev_congr ag.right]
  case copyStr x y => simp only [evCopyStr,O.ev_congr ag.left,O.ev_congr ag.right]

theorem evC_congr {call : Call} {c : C} {e1 e2 : Env} {h : H} (ag : Agree c.tm e1 e2) : evC call c e1 h = evC call c e2 h:=by
  cases c <;> simp only [C.tm] at ag <;> simp only [evC]
  · rw [evP_congr ag]
  · rw [evL_congr ag]
  · rw [evA_congr ag]
  · rw [evE_congr ag]

theorem wantG_congr {g : Option (Nat × Bool)} {e1 e2 : Env} (h : ∀ x,g = some x → e1.get x.1 = e2.get x.1) : wantG e1 g = wantG e2 g:=by
  cases g with
  | none => rfl
  | some x => simp only [wantG,h x rfl]

/-! equality by the evaluator's test -/

mutual
theorem V.eqv_eq : ∀ (v w : V),V.eqv v w = true → v = w
  | .u,w,h => by cases w <;> simp [V.eqv] at h; rfl
  | .z,w,h => by cases w <;> simp [V.eqv] at h
  | .b x,w,h => by
    cases w <;> simp [V.eqv] at h
    subst h; rfl
  | .i k n,w,h => by
    cases w <;> simp [V.eqv] at h
    obtain ⟨h1,h2⟩:=h
    rw [ksame_eq] at h1
    rw [eqB_eq,beq_iff_eq] at h2
    rw [h1,h2]
  | .s l,w,h => by
    cases w <;> simp [V.eqv] at h
    rw [(eqS_iff _ _).1 h]
  | .pn,w,h => by cases w <;> simp [V.eqv] at h; rfl
  | .p x o,w,h => by
    cases w <;> simp [V.eqv] at h
    rw [h.1,h.2]
  | .sn,w,h => by cases w <;> simp [V.eqv] at h; rfl
  | .sl x o l q sz ex,w,h => by
    cases w <;> simp [V.eqv] at h
    obtain ⟨⟨⟨⟨⟨h1,h2⟩,h3⟩,h4⟩,h5⟩,h6⟩:=h
    rw [h1,h2,h3,h4,h5,h6]
  | .fn f x1 x2,w,h => by cases w <;> simp [V.eqv] at h
  | .a x1,w,h => by
    cases w <;> simp [V.eqv] at h
    rw [V.eqvs_eq _ _ h]
  | .t vs,w,h => by cases w <;> simp [V.eqv] at h
  | .m,w,h => by cases w <;> simp [V.eqv] at h
  | .c x,w,h => by cases w <;> simp [V.eqv] at h
  | .fz .no n q x,w,h => by
    cases w with
    | fz m n' q' y =>
      cases m with
      | no =>
        simp only [V.eqv,Bool.and_eq_true,Nat.beq_eq] at h
        obtain ⟨⟨h1,h2⟩,h3⟩:=h
        rw [h1,h2,V.eqvs_eq _ _ h3]
      | _ => simp [V.eqv] at h
    | _ => simp [V.eqv] at h
  | .fz .ex n q x,w,h => by simp [V.eqv] at h
  | .fz (.tk k e) n q x,w,h => by simp [V.eqv] at h
  | .pf x,w,h => by
    cases w <;> simp [V.eqv] at h
    rw [V.eqvs_eq _ _ h]
theorem V.eqvs_eq : ∀ (v w : List V),V.eqvs v w = true → v = w
  | [],w,h => by cases w <;> simp [V.eqvs] at h; rfl
  | x :: xs,w,h => by
    cases w with
    | nil => simp [V.eqvs] at h
    | cons y ys =>
      simp only [V.eqvs,Bool.and_eq_true] at h
      rw [V.eqv_eq _ _ h.1,V.eqvs_eq _ _ h.2]
end

end Go.Ev
