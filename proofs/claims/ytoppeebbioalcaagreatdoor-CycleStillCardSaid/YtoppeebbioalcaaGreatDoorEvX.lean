/- Arguments, opened by the model's types. -/
import Derived.Test.YtoppeebbioalcaaGreatDoorEvW
import Derived.OpenShut
import Derived.ProofKit
import Derived.Below
set_option linter.all false
namespace Go.Ev
noncomputable section
def Phi0 (W : World) : Phi:=⟨fun _ => none,fun _ => false,fun x => match W.heap[x]? with
  | some (.cells c _ _) => some c.toList
  | _ => none,fun _ => none⟩
theorem Phi0_at {W : World} {x : Nat} {c : Array Value} {e : TypeId} {fr : Nat × Nat} (h : W.heap[x]? = some (.cells c e fr)) : (Phi0 W).fz x = some c.toList:=by
  simp only [Phi0,h]
theorem rw0 (W : World) : RW (Phi0 W) ⟨0,.e,.e,.e⟩ W where
  blk b k h:=by cases h
  img b x h:=by cases h
  fresh b _:=rfl
  alias b1 b2 k1 k2 x1 x2 h:=by cases h
  grp b k h:=by cases h
  ros wb h:=by cases h
  rest:={
    frz:=fun x ds h => by
      simp only [Phi0] at h
      split at h
      · rename_i c e fr hc
        cases h
        exact ⟨⟨c,e,fr,[],hc,by simp⟩,fun b y hy => by cases hy⟩
      · cases h
    tks:=fun k e n sz h => by cases h
    tku:=fun k j x h => by obtain ⟨e,n,sz,o,c',h,_⟩:=h; cases h
    tkn:=fun k _ => rfl
    ownf:=fun wb h => by obtain ⟨k,e,n,p,l,c,h,_⟩:=h; cases h }
structure Stays (W W' : World) : Prop where
  size : W.heap.size ≤ W'.heap.size
  old : ∀ wb : Nat,wb < W.heap.size → W'.heap[wb]? = W.heap[wb]?
  tape : W'.tape = W.tape
  os : W'.os = W.os
  output : W'.output = W.output
theorem stays0 {W W' : World} (h : Ext (Phi0 W) W W') : Stays W W':=
  ⟨h.size,fun wb hwb => h.out wb hwb (fun b x e => by cases e) (fun o => by obtain ⟨k,e,n,p,l,c,h,_⟩:=o; cases h),h.tape,h.os,h.output⟩
theorem Stays.below {W W' : World} (h : Stays W W') : RowKit.Below W.heap.size W W':=⟨h.os,h.tape,h.output,h.size,h.old⟩
theorem one_of_pureL : ∀ cs : List V,pureL cs = true → cs.all one = true
  | [],_ => rfl
  | v :: cs,h => by
    simp only [pureL,Bool.and_eq_true] at h
    simp only [List.all_cons,Bool.and_eq_true]
    refine ⟨?_,one_of_pureL cs h.2⟩
    have h1:=h.1
    cases v <;> first | rfl | (simp [pureV] at h1)
def Dec {α : Type} (P : Program) (t : TypeId) (f : α → List V) (L : α → Prop) : Prop:=∀ {H : Type} (enc : TypeId × Value → H) (W : World) (fuel : Nat) (cs : List Value) (x : DataW H × List MemPlace),
  DataW.trod enc P W 0 (fun _ => true) true fuel t cs = some x → ∃ a,L a ∧ RVs (Phi0 W) (f a) cs
variable {P : Program} {t e : TypeId} {α : Type} {f : α → List V} {L : α → Prop}
theorem Dec.all (h : Dec P t f L) : Dec P t f (fun _ => True):=fun enc W fuel cs x hx => by
  obtain ⟨a,_,r⟩:=h enc W fuel cs x hx
  exact ⟨a,trivial,r⟩
theorem dec_I (ht : P.underlying t = some (.int .i64)) : Dec P t cI (fun _ => True):=fun enc W fuel cs x hx => by
  obtain ⟨n,rfl,_,_⟩:=DataW.trod_int ht hx
  exact ⟨n,trivial,by simp [cI,eI,RVs,RV]⟩
theorem dec_B (ht : P.underlying t = some .bool) : Dec P t cB (fun _ => True):=fun enc W fuel cs x hx => by
  obtain ⟨b,rfl,_⟩:=DataW.trod_bool ht hx
  exact ⟨b,trivial,by simp [cB,RVs,RV]⟩
theorem dec_U8 (ht : P.underlying t = some (.int .u8)) : Dec P t cU8 (fun _ => True):=fun enc W fuel cs x hx => by
  obtain ⟨n,rfl,_,hw⟩:=DataW.trod_int ht hx
  have:=bounds_u8 hw
  obtain ⟨k,rfl⟩ : ∃ k : Nat,n = (k : Int):=⟨n.toNat,by omega⟩
  exact ⟨BitVec.ofNat 8 k,trivial,by
    have e1 : k % 256 = k:=Nat.mod_eq_of_lt (by omega)
    simp [cU8,eU8,RVs,RV,e1]⟩
theorem dec_U32 (ht : P.underlying t = some (.int .u32)) : Dec P t cU32 (fun _ => True):=fun enc W fuel cs x hx => by
  obtain ⟨n,rfl,_,hw⟩:=DataW.trod_int ht hx
  have:=bounds_u32 hw
  obtain ⟨k,rfl⟩ : ∃ k : Nat,n = (k : Int):=⟨n.toNat,by omega⟩
  exact ⟨BitVec.ofNat 32 k,trivial,by
    have e1 : k % 4294967296 = k:=Nat.mod_eq_of_lt (by omega)
    simp [cU32,eU32,RVs,RV,e1]⟩
theorem dec_U64 (ht : P.underlying t = some (.int .u64)) : Dec P t cU64 (fun _ => True):=fun enc W fuel cs x hx => by
  obtain ⟨n,rfl,_,hw⟩:=DataW.trod_int ht hx
  have:=bounds_u64 hw
  obtain ⟨k,rfl⟩ : ∃ k : Nat,n = (k : Int):=⟨n.toNat,by omega⟩
  exact ⟨BitVec.ofNat 64 k,trivial,by
    have e1 : k % 18446744073709551616 = k:=Nat.mod_eq_of_lt (by omega)
    simp [cU64,eU64,RVs,RV,e1]⟩
theorem RVs_app {φ : Phi} : ∀ {vs ws : List V} {xs ys : List Value},RVs φ vs xs → RVs φ ws ys → RVs φ (app vs ws) (xs ++ ys)
  | [],_,_,_,h,k => by
    simp only [RVs] at h; subst h
    exact k
  | v :: vs,ws,xs,ys,h,k => by
    simp only [RVs] at h
    obtain ⟨x,xs',rfl,h1,h2⟩:=h
    simp only [app,RVs]
    exact ⟨x,xs' ++ ys,rfl,h1,RVs_app h2 k⟩
theorem RVs_len {φ : Phi} : ∀ {vs : List V} {xs : List Value},RVs φ vs xs → xs.length = vs.length
  | [],_,h => by simp only [RVs] at h; subst h; rfl
  | v :: vs,_,h => by
    simp only [RVs] at h
    obtain ⟨x,xs',rfl,_,h2⟩:=h
    simp [RVs_len h2]
theorem RVs_cons {φ : Phi} {v w : List V} {cs : List Value} {o s o' : Nat} (h : RVs φ v ((cs.drop o).take s)) (eo : o' = o + s) (k : RVs φ w (cs.drop o')) : RVs φ (app v w) (cs.drop o):=by
  have : cs.drop o = (cs.drop o).take s ++ cs.drop o':=by rw [eo,← List.drop_drop,List.take_append_drop]
  rw [this]; exact RVs_app h k
theorem RVs_last {φ : Phi} {v : List V} {cs : List Value} {o s : Nat} (h : RVs φ v ((cs.drop o).take s)) (hl : cs.length = o + s) : RVs φ v (cs.drop o):=by
  have : cs.drop o = (cs.drop o).take s:=by rw [List.take_of_length_le]; rw [List.length_drop]; omega
  rw [this]; exact h
theorem dec_rows {W : World} {s : Nat} : ∀ (m : Nat) (cs : List Value),(∀ i,i < m → ∃ a,L a ∧ RVs (Phi0 W) (f a) ((cs.drop (i * s)).take s)) → cs.length = m * s → ∃ l : List α,l.length = m ∧ (∀ a ∈ l,L a) ∧ RVs (Phi0 W) (encs f l) cs:=by
  intro m
  induction m with
  | zero => intro cs _ hl; exact ⟨[],rfl,by simp,by simpa [encs,RVs] using hl⟩
  | succ m ih =>
    intro cs h hl
    obtain ⟨a,ha,ra⟩:=h 0 (by omega)
    obtain ⟨l,h1,h2,h3⟩:=ih (cs.drop s) (fun i hi => by
      obtain ⟨b,hb,rb⟩:=h (i + 1) (by omega)
      refine ⟨b,hb,?_⟩
      rw [List.drop_drop,show s + i * s = (i + 1) * s by rw [Nat.add_mul]; omega]
      exact rb) (by rw [List.length_drop,hl,Nat.add_mul]; omega)
    refine ⟨a :: l,by simp [h1],by simpa [ha] using h2,?_⟩
    have : cs = (cs.drop (0 * s)).take s ++ cs.drop s:=by simp
    rw [this,encs]
    exact RVs_app ra h3
theorem dec_A {n s : Nat} (ht : P.underlying t = some (.array n e)) (hc : P.cellsOf e = s) (hct : P.cellsOf t = n * s) (hd : Dec P e f L) : Dec P t (eAr (n:=n) f) (fun _ => True):=fun enc W fuel cs x hx => by
  obtain ⟨xs,m,_,_,hl,hn,hel⟩:=DataW.trod_array ht hx
  rw [hct] at hl
  obtain ⟨l,h1,_,h3⟩:=dec_rows (f:=f) (L:=L) (W:=W) (s:=s) n cs (fun i hi => by
    have h4:=hel i hi
    rw [hc] at h4
    cases hxi : xs[i]? with
    | none => rw [List.getElem?_eq_none_iff] at hxi; omega
    | some y => rw [hxi] at h4; exact hd enc W m _ y h4) hl
  exact ⟨⟨l,h1⟩,trivial,h3⟩
theorem cells_in {W : World} {a : Addr} {n : Nat} {cs : List Value} {c : Array Value} {u : TypeId} {fr : Nat × Nat} (h : W.cells? 0 a n = some cs) (hc : W.heap[a.block]? = some (.cells c u fr)) (hn : 0 < n) :
    (c.toList.drop a.off).take n = cs ∧ a.off + n ≤ c.size:=by
  obtain ⟨_,hl,hget⟩:=World.cells?_some h
  have hcell : ∀ i,i < n → c[a.off + i]? = cs[i]?:=by
    intro i hi
    have hg:=hget i hi
    have hcs : cs[i]? = some (cs[i]'(by omega)):=List.getElem?_eq_getElem (by omega)
    rw [hcs] at hg
    unfold Addr.add at hg
    split at hg
    · rename_i h0
      subst h0
      unfold World.cell? at hg
      rw [hc] at hg
      simp only at hg
      split at hg
      · cases hg
      · rw [hcs]; simpa using hg
    · unfold World.cell? at hg
      rw [hc] at hg
      rw [hcs]; simpa using hg
  constructor
  · apply List.ext_getElem?
    intro i
    rw [List.getElem?_take]
    split
    · rename_i hi
      rw [List.getElem?_drop,← hcell i hi]; simp
    · rename_i hi
      exact (List.getElem?_eq_none (by omega)).symm
  · have h1:=hcell (n - 1) (by omega)
    have hcs : cs[n - 1]? = some (cs[n - 1]'(by omega)):=List.getElem?_eq_getElem (by omega)
    rw [hcs] at h1
    obtain ⟨hlt,_⟩:=Array.getElem?_eq_some_iff.1 h1
    omega
theorem dec_S {s : Nat} (ht : P.underlying t = some (.slice e)) (hc : P.cellsOf e = s) (hs : 1 ≤ s) (hp : Lay s f) (hd : Dec P e f L) : Dec P t (cSl s f) (fun l => l.length ≤ maxLen ∧ ∀ a ∈ l,L a):=fun enc W fuel cs x hx => by
  have hpe : ∀ l : List α,pureL (encs f l) = true:=fun l => encs_pure hp l
  rcases DataW.trod_slice ht hx with ⟨rfl,_⟩ | ⟨a,len,cap,elems,rest,n,_,rfl,_,_,hlc,hm,hlen,hel,hsp,_⟩
  · refine ⟨[],⟨by simp,by simp⟩,?_⟩
    simp only [cSl,eSl,RVs,RV]
    exact ⟨_,[],rfl,⟨rfl,by simp [encs],hs,none,0,rfl,Nat.le_refl _,fun _ => ⟨rfl,rfl⟩,.inl rfl,.inl rfl,trivial⟩,rfl⟩
  · have hadd : ∀ i,(a.add i).block = a.block ∧ (a.add i).off = a.off + i:=fun i => by
      unfold Addr.add
      split
      · rename_i h0; rw [h0]; exact ⟨rfl,rfl⟩
      · exact ⟨rfl,rfl⟩
    have at_ : ∀ i,i < cap → ∃ cs' y,W.cells? 0 (a.add (i * s)) s = some cs' ∧ DataW.trod enc P W 0 (fun _ => true) true n e cs' = some y:=by
      intro i hi
      obtain ⟨hr,hsp⟩:=hsp rfl
      rw [hc] at hel hsp
      by_cases hil : i < len
      · have h1:=hel i hil
        cases hxi : elems[i]? with
        | none => rw [List.getElem?_eq_none_iff] at hxi; omega
        | some y =>
          rw [hxi] at h1
          obtain ⟨cs',k1,k2⟩:=Option.bind_eq_some_iff.1 h1
          exact ⟨cs',y,k1,k2⟩
      · have h1:=hsp (i - len) (by omega)
        rw [show len + (i - len) = i by omega] at h1
        cases hxi : rest[i - len]? with
        | none => rw [List.getElem?_eq_none_iff] at hxi; omega
        | some y =>
          rw [hxi] at h1
          obtain ⟨cs',k1,k2⟩:=Option.bind_eq_some_iff.1 h1
          exact ⟨cs',y,k1,k2⟩
    by_cases h0 : cap = 0
    · subst h0
      obtain rfl : len = 0:=by omega
      refine ⟨[],⟨by simp,by simp⟩,?_⟩
      simp only [cSl,eSl,RVs,RV]
      exact ⟨_,[],rfl,⟨rfl,by simp [encs],hs,some a,0,rfl,Nat.le_refl _,(fun h => by cases h),.inl rfl,.inl rfl,trivial⟩,rfl⟩
    · -- the block is there
      obtain ⟨cs0,y0,hc0,_⟩:=at_ 0 (by omega)
      obtain ⟨_,hl0,hg0⟩:=World.cells?_some hc0
      have hg:=hg0 0 (by omega)
      have hcs0 : cs0[0]? = some (cs0[0]'(by omega)):=List.getElem?_eq_getElem (by omega)
      rw [hcs0] at hg
      have hspot : a.spot = none:=by
        have:=World.cell?_spot hg
        simpa [Addr.add] using this
      have hblk : ∃ c u fr,W.heap[a.block]? = some (.cells c u fr):=by
        unfold World.cell? at hg
        have e0 : ((a.add (0 * s)).add 0).block = a.block:=by simp [Addr.add]
        rw [e0] at hg
        split at hg
        · rename_i c u fr hcc; exact ⟨c,u,fr,hcc⟩
        · cases hg
      obtain ⟨c,u,fr,hcc⟩:=hblk
      have row : ∀ i,i < cap → ∃ b,L b ∧ RVs (Phi0 W) (f b) ((c.toList.drop (a.off + i * s)).take s) ∧ a.off + i * s + s ≤ c.size:=by
        intro i hi
        obtain ⟨cs',y,k1,k2⟩:=at_ i hi
        obtain ⟨q1,q2⟩:=cells_in (c:=c) (u:=u) (fr:=fr) k1 (by rw [(hadd _).1]; exact hcc) (by omega)
        rw [(hadd _).2] at q1 q2
        obtain ⟨b,hb,rb⟩:=hd enc W n cs' y k2
        exact ⟨b,hb,by rw [q1]; exact rb,q2⟩
      have hsize : a.off + len * s ≤ c.size:=by
        rcases Nat.eq_zero_or_pos len with rfl | hpos
        · obtain ⟨_,_,_,q⟩:=row 0 (by omega); omega
        · obtain ⟨_,_,_,q⟩:=row (len - 1) (by omega)
          have e2 : (len - 1) * s + s = len * s:=by
            obtain ⟨k,rfl⟩ : ∃ k,len = k + 1:=⟨len - 1,by omega⟩
            rw [Nat.add_mul]; simp
          omega
      obtain ⟨l,h1,h2,h3⟩:=dec_rows (f:=f) (L:=L) (W:=W) (s:=s) len ((c.toList.drop a.off).take (len * s)) (fun i hi => by
        obtain ⟨b,hb,rb,_⟩:=row i (by omega)
        refine ⟨b,hb,?_⟩
        have e3 : (((c.toList.drop a.off).take (len * s)).drop (i * s)).take s = (c.toList.drop (a.off + i * s)).take s:=by
          rw [List.drop_take,List.drop_drop,List.take_take]
          congr 1
          have : i * s + s ≤ len * s:=by
            have : (i + 1) * s ≤ len * s:=Nat.mul_le_mul_right s hi
            rw [Nat.add_mul] at this; omega
          omega
        rw [e3]; exact rb) (by rw [List.length_take,List.length_drop,Array.length_toList]; omega)
      refine ⟨l,⟨by omega,h2⟩,?_⟩
      simp only [cSl,eSl,RVs,RV]
      obtain ⟨ab,ao,asp⟩:=a
      simp only at hspot
      subst hspot
      refine ⟨_,[],rfl,⟨hpe l,?_,hs,some ⟨ab,ao,none⟩,cap,by rw [h1],by omega,(fun h => by cases h),.inr (fun b hb => by cases hb; rfl),?_,trivial⟩,rfl⟩
      · have q:=RVs_len h3
        rw [List.length_take,List.length_drop,Array.length_toList] at q
        have hsize' : ao + len * s ≤ c.size:=hsize
        rw [← q,h1]
        show min (len * s) (c.size - ao) = len * s
        omega
      · refine .inr ⟨ab,ao,c.toList,rfl,Phi0_at hcc,?_,?_⟩
        · have hsize' : ao + len * s ≤ c.size:=hsize
          rw [h1,Array.length_toList]; exact hsize'
        · rw [h1]; exact h3
theorem Dec.fld {H : Type} {enc : TypeId × Value → H} {W : World} {m i s off : Nat} {cs : List Value} {xs : List (DataW H × List MemPlace)} (h : DataW.trod enc P W 0 (fun _ => true) true m t ((cs.drop off).take (P.cellsOf t)) = xs[i]?)
    (hi : i < xs.length) (hc : P.cellsOf t = s) (hd : Dec P t f L) : ∃ a,L a ∧ RVs (Phi0 W) (f a) ((cs.drop off).take s):=by
  rw [hc,List.getElem?_eq_getElem hi] at h
  exact hd enc W m _ _ h
theorem fl {H : Type} {enc : TypeId × Value → H} {W : World} {m i s off k : Nat} {cs : List Value} {xs : List (DataW H × List MemPlace)} (hn : xs.length = k) (h : DataW.trod enc P W 0 (fun _ => true) true m t ((cs.drop off).take (P.cellsOf t)) = xs[i]?)
    (hc : P.cellsOf t = s) (hd : Dec P t f L) (hi : i < k:=by decide) : ∃ a,L a ∧ RVs (Phi0 W) (f a) ((cs.drop off).take s):=Dec.fld h (by omega) hc hd
theorem rc {φ : Phi} {v w : List V} {cs : List Value} {o s o' : Nat} (h : RVs φ v ((cs.drop o).take s)) (eo : o' = o + s) (k : RVs φ w (cs.drop o')) : RVs φ (app v w) (cs.drop o):=RVs_cons h eo k
end
end Go.Ev
