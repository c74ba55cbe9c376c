/- The evaluator: memory, append, operations that act. -/
import Derived.Test.YtoppeebbioalcaaGreatDoorEvB
import Derived.Laws.World
set_option linter.all false
namespace Go.Ev
def Soft (φ : Phi) (wb dl : Nat) (c : Array Value) (fz : Nat × Nat) : Prop:=(φ.ro wb = true ∧ roC ≤ dl) ∨ (φ.ro wb = false ∧ (fz.2 ≤ fz.1 ∨ c.size ≤ fz.1))
def Room (φ : Phi) (W : World) (x o n c' sz : Nat) : Prop:=∃ ds c e fr,φ.fz x = some ds ∧ W.heap[x]? = some (.cells c e fr) ∧ ds.length = o + n * sz ∧ o + c' * sz ≤ c.size ∧ (fr.2 ≤ fr.1 ∨ c.size ≤ fr.1)
def Holder (φ : Phi) (W : World) (v : Value) (n sz : Nat) : Prop:=((∃ p,v = .slice p 0 0) ∧ n = 0) ∨ ∃ x o c',v = .slice (some ⟨x,o,none⟩) n c' ∧ n ≤ c' ∧ (c' = n ∨ Room φ W x o n c' sz)
def TkAt (φ : Phi) (tk : T (Nat × Nat × Nat)) (k x : Nat) : Prop:=∃ e n sz o c',tk.get k = some (e,n,sz) ∧ φ.tk k = some (e,n,.slice (some ⟨x,o,none⟩) n c') ∧ n < c'
def Owns (φ : Phi) (wb : Nat) : Prop:=∃ k e n p l c,φ.tk k = some (e,n,.slice (some p) l c) ∧ l < c ∧ p.block = wb
structure Rest (φ : Phi) (tk : T (Nat × Nat × Nat)) (W : World) : Prop where
  frz : ∀ x ds,φ.fz x = some ds → (∃ c e fr more,W.heap[x]? = some (.cells c e fr) ∧ c.toList = ds ++ more) ∧ ∀ b y,φ b = some y → y.1 ≠ x
  tks : ∀ k e n sz,tk.get k = some (e,n,sz) → ∃ v,φ.tk k = some (e,n,v) ∧ Holder φ W v n sz
  tku : ∀ k j x,TkAt φ tk k x → TkAt φ tk j x → k = j
  tkn : ∀ k,tk.get k = none → φ.tk k = none
  ownf : ∀ wb,Owns φ wb → ∃ ds,φ.fz wb = some ds
theorem Rest.lt {φ : Phi} {tk : T (Nat × Nat × Nat)} {W : World} (r : Rest φ tk W) {x : Nat} {ds : List Value} (h : φ.fz x = some ds) : x < W.heap.size:=by
  obtain ⟨⟨c,e,fr,more,h1,_⟩,_⟩:=r.frz x ds h
  obtain ⟨hlt,_⟩:=Array.getElem?_eq_some_iff.1 h1
  exact hlt
theorem Rest.keep {φ φ' : Phi} {tk : T (Nat × Nat × Nat)} {W W' : World} (r : Rest φ tk W) (hW : ∀ x ds,φ.fz x = some ds → W'.heap[x]? = W.heap[x]?) (h1 : φ'.fz = φ.fz) (h2 : φ'.tk = φ.tk)
    (h3 : ∀ b y ds,φ' b = some y → φ.fz y.1 = some ds → False) : Rest φ' tk W' where
  frz x ds h:=by
    rw [h1] at h
    rw [hW x ds h]
    exact ⟨(r.frz x ds h).1,fun b y hy e => h3 b y ds hy (by rw [e]; exact h)⟩
  tks k e n sz h:=by
    obtain ⟨v,k1,k2⟩:=r.tks k e n sz h
    refine ⟨v,by rw [h2]; exact k1,?_⟩
    rcases k2 with k2 | ⟨x,o,c',q1,q2,q3 | ⟨ds,c,e',fr,p1,p2,p3⟩⟩
    · exact .inl k2
    · exact .inr ⟨x,o,c',q1,q2,.inl q3⟩
    · exact .inr ⟨x,o,c',q1,q2,.inr ⟨ds,c,e',fr,by rw [h1]; exact p1,by rw [hW x ds p1]; exact p2,p3⟩⟩
  tku k j x h h':=by
    obtain ⟨e,n,sz,o,c',k1,k2,k3⟩:=h
    obtain ⟨e2,n2,sz2,o2,c2,k4,k5,k6⟩:=h'
    rw [h2] at k2 k5
    exact r.tku k j x ⟨e,n,sz,o,c',k1,k2,k3⟩ ⟨e2,n2,sz2,o2,c2,k4,k5,k6⟩
  tkn k h:=by rw [h2]; exact r.tkn k h
  ownf wb h:=by
    obtain ⟨k,e,n,p,l,c,k1,k2⟩:=h
    rw [h2] at k1
    rw [h1]
    exact r.ownf wb ⟨k,e,n,p,l,c,k1,k2⟩
structure RW (φ : Phi) (h : H) (W : World) : Prop where
  blk : ∀ b k,h.bl.get b = some k → ∃ (x : Nat × Nat × Nat) (c : Array Value) (e : TypeId) (fz : Nat × Nat),φ b = some x ∧ W.heap[x.1]? = some (.cells c e fz) ∧ x.2.1 + x.2.2 = c.size ∧ k.cells.length ≤ x.2.2 ∧ Soft φ x.1 k.dl c fz ∧
    ∀ (j : Nat) (v : V),k.cells[j]? = some v → v = .z ∨ (one v = true ∧ ∃ y,c[x.2.1 + j]? = some y ∧ RV φ v y)
  img : ∀ b x,φ b = some x → b < h.nb ∧ x.1 < W.heap.size
  fresh : ∀ b,h.nb ≤ b → h.bl.get b = none
  alias : ∀ b1 b2 k1 k2 x1 x2,h.bl.get b1 = some k1 → h.bl.get b2 = some k2 → φ b1 = some x1 → φ b2 = some x2 → x1.1 = x2.1 → k1.grp = k2.grp ∧ x1.2.1 + k2.dl = x2.2.1 + k1.dl
  grp : ∀ b k,h.bl.get b = some k → b = k.grp ∨ ∃ l,h.gr.get k.grp = some l ∧ b ∈ l
  ros : ∀ wb,φ.ro wb = true → wb < W.heap.size
  rest : Rest φ h.tk W
structure Ext (φ : Phi) (W W' : World) : Prop where
  size : W.heap.size ≤ W'.heap.size
  out : ∀ wb : Nat,wb < W.heap.size → (∀ b x,φ b = some x → x.1 = wb → φ.ro wb = true) → ¬ Owns φ wb → W'.heap[wb]? = W.heap[wb]?
  shape : ∀ (wb : Nat) (c : Array Value) (e : TypeId) (fz : Nat × Nat),W.heap[wb]? = some (.cells c e fz) → ∃ c' : Array Value,W'.heap[wb]? = some (.cells c' e fz) ∧ c'.size = c.size
  tape : W'.tape = W.tape
  os : W'.os = W.os
  output : W'.output = W.output
structure Grow (φ φ' : Phi) (W : World) : Prop where
  le : φ.le φ'
  new : ∀ b x,φ' b = some x → x.1 < W.heap.size → ∃ b' x',φ b' = some x' ∧ x'.1 = x.1
  own : ∀ wb,Owns φ' wb → wb < W.heap.size → Owns φ wb
  frz : ∀ x ds,φ'.fz x = some ds → x < W.heap.size → φ.fz x = some ds ∨ (Owns φ x ∧ ∃ ds',φ.fz x = some ds')
theorem Phi.le_refl (φ : Phi) : φ.le φ:=⟨fun _ _ h => h,rfl,fun _ ds h => ⟨[],by simpa using h⟩,fun _ e n v h => ⟨e,n,v,h,tkLe.refl _ _ _⟩⟩
theorem Phi.le_trans {φ ψ χ : Phi} (h : φ.le ψ) (k : ψ.le χ) : φ.le χ:=⟨fun b x e => k.sub b x (h.sub b x e),k.ro.trans h.ro,fun x ds e => by
  obtain ⟨m1,e1⟩:=h.fz x ds e
  obtain ⟨m2,e2⟩:=k.fz x _ e1
  exact ⟨m1 ++ m2,by rw [e2,List.append_assoc]⟩,fun j e n v hj => by
  obtain ⟨e1,n1,v1,h1,l1⟩:=h.tk j e n v hj
  obtain ⟨e2,n2,v2,h2,l2⟩:=k.tk j e1 n1 v1 h1
  exact ⟨e2,n2,v2,h2,l1.trans l2⟩⟩
theorem Grow.refl (φ : Phi) (W : World) : Grow φ φ W:=⟨Phi.le_refl φ,fun b x h _ => ⟨b,x,h,rfl⟩,fun _ h _ => h,fun _ ds h _ => .inl h⟩
theorem Grow.trans {φ ψ χ : Phi} {W W' : World} (h : Grow φ ψ W) (k : Grow ψ χ W') (hs : W.heap.size ≤ W'.heap.size) : Grow φ χ W:=
  ⟨Phi.le_trans h.le k.le,fun b x e hx => by
    obtain ⟨b',x',e',hx'⟩:=k.new b x e (by omega)
    obtain ⟨b'',x'',e'',hx''⟩:=h.new b' x' e' (by omega)
    exact ⟨b'',x'',e'',by omega⟩,fun wb o hw => h.own wb (k.own wb o (by omega)) hw,fun x ds e hx => by
    rcases k.frz x ds e (by omega) with e' | ⟨e1,ds',e2⟩
    · exact h.frz x ds e' hx
    · right
      refine ⟨h.own x e1 hx,?_⟩
      rcases h.frz x ds' e2 hx with e3 | ⟨_,e3⟩
      · exact ⟨_,e3⟩
      · exact e3⟩
theorem Ext.refl (φ : Phi) (W : World) : Ext φ W W:=
  ⟨Nat.le_refl _,fun _ _ _ _ => rfl,fun _ c _ _ h => ⟨c,h,rfl⟩,rfl,rfl,rfl⟩
theorem Ext.trans {φ ψ : Phi} {W W1 W2 : World} (h : Ext φ W W1) (k : Ext ψ W1 W2) (g : Grow φ ψ W) : Ext φ W W2 where
  size:=Nat.le_trans h.size k.size
  out wb hwb hout how:=by
    rw [k.out wb (by have:=h.size; omega) ?_ (fun o => how (g.own wb o hwb)),h.out wb hwb hout how]
    intro b x e hx
    obtain ⟨b',x',e',hx'⟩:=g.new b x e (by omega)
    rw [g.le.ro]
    exact hout b' x' e' (by omega)
  shape wb c e fz hc:=by
    obtain ⟨c1,h1,s1⟩:=h.shape wb c e fz hc
    obtain ⟨c2,h2,s2⟩:=k.shape wb c1 e fz h1
    exact ⟨c2,h2,by omega⟩
  tape:=k.tape.trans h.tape
  os:=k.os.trans h.os
  output:=k.output.trans h.output
theorem RW.drawn {φ : Phi} {h : H} {W W' : World} (r : RW φ h W) (e : W'.heap = W.heap) : RW φ h W':=
  ⟨by rw [e]; exact r.blk,by rw [e]; exact r.img,r.fresh,r.alias,r.grp,by rw [e]; exact r.ros,r.rest.keep (fun x _ _ => by rw [e]) rfl rfl fun b y ds hy hd => (r.rest.frz _ _ hd).2 b y hy rfl⟩
theorem Ext.same {φ : Phi} {W W' : World} (e : W'.heap = W.heap) (h1 : W'.tape = W.tape) (h2 : W'.os = W.os) (h3 : W'.output = W.output) : Ext φ W W':=
  ⟨by rw [e]; exact Nat.le_refl _,fun _ _ _ _ => by rw [e],fun _ c _ _ h => ⟨c,by rw [e]; exact h,rfl⟩,h1,h2,h3⟩
section
variable {P : Program} {φ : Phi} {h : H} {W : World}
theorem RW.cell {b : Nat} {k : Blk} (r : RW φ h W) (hb : h.bl.get b = some k) {x : Nat × Nat × Nat} (hx : φ b = some x) {j : Nat} {v : V} (hv : k.cells[j]? = some v) (hz : v ≠ .z) :
    one v = true ∧ ∃ y,W.cell? ⟨x.1,x.2.1 + j,none⟩ = some y ∧ RV φ v y:=by
  obtain ⟨x',c,e,fz,hx',hc,_,_,_,hcell⟩:=r.blk b k hb
  rw [hx] at hx'; cases hx'
  rcases hcell j v hv with h | ⟨h1,y,hy,hr⟩
  · exact (hz h).elim
  · exact ⟨h1,y,by simp [World.cell?,hc,hy],hr⟩
theorem takeC_ok : ∀ (l : List V) (n : Nat) {cs : List V},takeC l n = some cs → cs = l.take n ∧ cs.length = n ∧ ∀ v ∈ cs,v ≠ .z:=by
  intro l
  induction l with
  | nil =>
    intro n cs h
    simp only [takeC,cond_eq_ite,Nat.beq_eq] at h
    split at h
    · rename_i hn; cases h; subst hn; simp
    · cases h
  | cons x xs ih =>
    intro n cs h
    simp only [takeC,cond_eq_ite,Nat.beq_eq] at h
    split at h
    · rename_i hn; cases h; subst hn; simp
    · rename_i hn
      split at h
      · cases h
      · rename_i y hz
        split at h
        · cases h
        · rename_i rr hr
          cases h
          obtain ⟨h1,h2,h3⟩:=ih (n - 1) hr
          obtain ⟨m,rfl⟩ : ∃ m,n = m + 1:=⟨n - 1,by omega⟩
          refine ⟨by simp [h1],by simp [h2],fun v hv => ?_⟩
          rcases List.mem_cons.1 hv with rfl | hv
          · exact fun e => hz e
          · exact h3 v hv
theorem ldn_ok {b o n : Nat} {cs : List V} (r : RW φ h W) (hl : h.ldn b o n = some cs) {x : Nat × Nat × Nat} (hx : φ b = some x) :
    ∃ ys : List Value,ys.length = n ∧ RVs φ cs ys ∧ cs.all one = true ∧ ∀ (j : Nat) (y : Value),ys[j]? = some y → W.cell? (Addr.add ⟨x.1,x.2.1 + o,none⟩ j) = some y:=by
  unfold H.ldn at hl
  split at hl
  · cases hl
  · rename_i k hk
    rw [dropN_eq] at hl
    obtain ⟨h1,h2,h3⟩:=takeC_ok _ _ hl
    have hget : ∀ (j : Nat) (v : V),cs[j]? = some v → k.cells[o + j]? = some v ∧ v ≠ .z:=by
      intro j v hv
      refine ⟨?_,h3 v (List.mem_of_getElem? hv)⟩
      rw [h1,List.getElem?_take] at hv
      split at hv
      · rwa [List.getElem?_drop] at hv
      · cases hv
    have key : ∀ (j : Nat),j < n → ∃ y v,cs[j]? = some v ∧ one v = true ∧ W.cell? ⟨x.1,x.2.1 + (o + j),none⟩ = some y ∧ RV φ v y:=by
      intro j hj
      have hv : cs[j]? = some cs[j]:=List.getElem?_eq_getElem (by omega)
      obtain ⟨hv',hz⟩:=hget j _ hv
      obtain ⟨h1,y,hy,hr⟩:=r.cell hk hx hv' hz
      exact ⟨y,_,hv,h1,hy,hr⟩
    have key' : ∀ (j : Nat),∃ y : Value,j < n → ∃ v,cs[j]? = some v ∧ one v = true ∧ W.cell? ⟨x.1,x.2.1 + (o + j),none⟩ = some y ∧ RV φ v y:=by
      intro j
      by_cases hj : j < n
      · obtain ⟨y,hy⟩:=key j hj; exact ⟨y,fun _ => hy⟩
      · exact ⟨undef,fun h => (hj h).elim⟩
    obtain ⟨f,hf⟩:=Classical.axiomOfChoice key'
    refine ⟨(List.range n).map f,by simp,.of_get (by simp [h2]) fun j v y hv hy => ?_,all_of_get fun j v hv => ?_,fun j y hy => ?_⟩
    · have hj : j < n:=by
        obtain ⟨hj,_⟩:=List.getElem?_eq_some_iff.1 hv
        omega
      obtain ⟨v',hv',_,_,hr⟩:=hf j hj
      rw [hv] at hv'; cases hv'
      rw [List.getElem?_map,List.getElem?_range hj] at hy
      cases hy
      exact hr
    · have hj : j < n:=by
        obtain ⟨hj,_⟩:=List.getElem?_eq_some_iff.1 hv
        omega
      obtain ⟨v',hv',h1,_⟩:=hf j hj
      rw [hv] at hv'; cases hv'
      exact h1
    · have hj : j < n:=by
        obtain ⟨hj,_⟩:=List.getElem?_eq_some_iff.1 hy
        simpa using hj
      obtain ⟨v',_,_,hc,_⟩:=hf j hj
      rw [List.getElem?_map,List.getElem?_range hj] at hy
      cases hy
      rw [add_off,Nat.add_assoc]
      exact hc
theorem ld1_ok {b o : Nat} {v : V} (r : RW φ h W) (hl : h.ld1 b o = some v) {x : Nat × Nat × Nat} (hx : φ b = some x) :
    one v = true ∧ ∃ y,W.cell? ⟨x.1,x.2.1 + o,none⟩ = some y ∧ RV φ v y:=by
  unfold H.ld1 at hl
  split at hl
  · cases hl
  · rename_i k hk
    split at hl
    · cases hl
    · rename_i z' hz
      rw [nth_eq] at hl
      exact r.cell hk hx hl (fun e => by subst e; rw [nth_eq] at hz; exact hz hl)
theorem run_load_agg {t : TypeId} {n : Nat} (ha : aggT P t = some true) (hs : sizeT P t = some n) (a : Addr) (ys : List Value) (hl : ys.length = n) (hc : ∀ (j : Nat) (y : Value),ys[j]? = some y → W.cell? (a.add j) = some y) :
    (loadVar t a).run P W = .ok (.agg ys.toArray) W:=by
  subst hl
  simp only [loadVar,Sem.run_bind,run_isAgg ha,Result.andThen_ok,if_true,run_sizeOf hs,run_loadCells_list W a ys hc]
  rfl
theorem run_load_one {t : TypeId} (ha : aggT P t = some false) (a : Addr) {y : Value} (hc : W.cell? a = some y) : (loadVar t a).run P W = .ok y W:=by
  simp only [loadVar,Sem.run_bind,run_isAgg ha,Result.andThen_ok,Bool.false_eq_true,if_false,run_load,hc]
variable {G : GL} {nt : Nat} {env : Env} {a : Act}
theorem ptr_ok {ψ : Phi} (r : REnv nt ψ env a.tmps) (g : GOK G ψ) {x : Operand} {p : O} (hp : toO G x = some p) {b o : Nat} (hv : p.ev env = some (.p b o)) :
    ∃ y,ψ b = some y ∧ a.eval x = .pointer (some ⟨y.1,y.2.1 + o,none⟩):=by
  have hr:=toO_ok hp r g hv
  simpa only [RV] using hr
theorem frz_cells (r : RW φ h W) {x o n : Nat} {ds : List Value} (hd : φ.fz x = some ds) (hl : o + n ≤ ds.length) {j : Nat} {y : Value} (hy : ((ds.drop o).take n)[j]? = some y) : W.cell? (Addr.add ⟨x,o,none⟩ j) = some y:=by
  obtain ⟨⟨c,e,fr,more,h1,h2⟩,_⟩:=r.rest.frz x ds hd
  rw [List.getElem?_take] at hy
  split at hy
  · rename_i hj
    rw [List.getElem?_drop] at hy
    have h3 : c[o + j]? = some y:=by
      have : c.toList[o + j]? = some y:=by
        rw [h2,List.getElem?_append_left (by omega)]; exact hy
      simpa using this
    rw [add_off]
    simp [World.cell?,h1,h3]
  · cases hy
theorem fz_cells {m : Md} {n sz : Nat} {cs : List V} (r : RW φ h W) {z : Value} (hz : RV φ (.fz m n sz cs) z) :
    ∃ p c' ys,z = .slice p n c' ∧ (p = none → n = 0) ∧ ys.length = n * sz ∧ RVs φ cs ys ∧ cs.all one = true ∧ (∀ q,p = some q → ∀ (j : Nat) (y : Value),ys[j]? = some y → W.cell? (q.add j) = some y) ∧ n ≤ c':=by
  simp only [RV] at hz
  obtain ⟨h0,h1,h2,p,c',h3,h4,h5,h6,h7,_⟩:=hz
  by_cases hn : n = 0
  · subst hn
    have hc : cs = []:=List.eq_nil_of_length_eq_zero (by omega)
    subst hc
    exact ⟨p,c',[],h3,fun _ => rfl,by simp,by simp [RVs],rfl,fun q hq j y hy => by simp at hy,h4⟩
  · rcases h7 with h7 | ⟨x,o,ds,rfl,q1,q2,q3⟩
    · exact (hn h7).elim
    · refine ⟨_,c',_,h3,(fun e => by cases e),?_,q3,pureL_one h0,(fun q hq j y hy => ?_),h4⟩
      · rw [List.length_take,List.length_drop]; omega
      · cases hq
        exact frz_cells r q1 q2 hy
theorem src_ok {sz l : Nat} {v : V} {cs : List V} (r : RW φ h W) (hs : srcCells h sz v = some (l,cs)) {z : Value} (hz : RV φ v z) :
    ∃ p c' ys,z = .slice p l c' ∧ (p = none → l = 0) ∧ ys.length = l * sz ∧ RVs φ cs ys ∧ cs.all one = true ∧ (∀ q,p = some q → ∀ (j : Nat) (y : Value),ys[j]? = some y → W.cell? (q.add j) = some y) ∧ l ≤ c':=by
  unfold srcCells at hs
  split at hs
  · cases hs
    simp only [RV] at hz
    exact ⟨none,0,[],hz,fun _ => rfl,by simp,by simp [RVs],rfl,(fun q hq => by cases hq),Nat.le_refl _⟩
  · rename_i b o l' _ sz' ex
    simp only [cond_eq_ite,Nat.beq_eq] at hs
    split at hs
    · rename_i hsz
      subst hsz
      simp only [RV] at hz
      obtain ⟨x,o',c',hx,hz,hlc,hcc,_,_,hat⟩:=hz
      split at hs
      · rename_i hl0
        cases hs
        subst hl0
        exact ⟨_,c',[],hz,(fun h => by cases h),by simp,by simp [RVs],rfl,(fun q hq j y hy => by simp at hy),by omega⟩
      · rename_i hl0
        split at hs
        · rename_i cs' hld
          cases hs
          obtain ⟨rfl,hat⟩ : o' = x.2.1 + o ∧ o + c' * sz ≤ x.2.2:=by
            rcases hat with hat | hat
            · omega
            · exact hat
          obtain ⟨ys,h1,h2,h3,h4⟩:=ldn_ok r hld hx
          exact ⟨_,c',ys,hz,(fun h => by cases h),h1,h2,h3,(fun q hq j y hy => by cases hq; exact h4 j y hy),by omega⟩
        · cases hs
    · cases hs
  · rename_i m n sz' cs'
    simp only [cond_eq_ite,Nat.beq_eq] at hs
    split at hs
    · rename_i hsz
      cases hs
      subst hsz
      obtain ⟨p,c',ys,h1,h2,h3,h4,h5,h6,h7⟩:=fz_cells r hz
      exact ⟨p,c',ys,h1,h2,h3,h4,h5,h6,h7⟩
    · cases hs
  · cases hs
end
end Go.Ev
namespace Go.Ev
section
variable {P : Program} {φ ψ : Phi} {h : H} {W : World} {G : GL} {nt : Nat} {env : Env} {a : Act}
theorem cC_L {o : Oper} {c : LC} (hc : cC P G o.op = some (.L c)) : cL P G o.op = some c:=by
  unfold cC at hc
  split at hc
  · rename_i s d x ho
    unfold cConv at hc
    split at hc
    · cases hc
    split at hc
    · cases hc
    split at hc <;> cases hc
  · split at hc
    · cases hc
    · split at hc
      · rename_i c' hc'
        cases hc
        exact hc'
      · split at hc
        · cases hc
        · split at hc <;> cases hc
theorem cC_A {o : Oper} {c : AC} (hc : cC P G o.op = some (.A c)) : cA P G o.op = some c:=by
  unfold cC at hc
  split at hc
  · rename_i s d x ho
    unfold cConv at hc
    split at hc
    · cases hc
    split at hc
    · cases hc
    split at hc <;> cases hc
  · split at hc
    · cases hc
    · split at hc
      · cases hc
      · split at hc
        · rename_i c' hc'
          cases hc
          exact hc'
        · split at hc <;> cases hc
theorem cC_E {o : Oper} {c : EC} (hc : cC P G o.op = some (.E c)) : cE P G o.op = some c:=by
  unfold cC at hc
  split at hc
  · rename_i s d x ho
    unfold cConv at hc
    split at hc
    · cases hc
    split at hc
    · cases hc
    split at hc <;> cases hc
  · split at hc
    · cases hc
    · split at hc
      · cases hc
      · split at hc
        · cases hc
        · split at hc
          · rename_i c' hc'
            cases hc
            exact hc'
          · cases hc
theorem load_ok (le : φ.le ψ) (hfe : ψ.fz = φ.fz) (r : REnv nt ψ env a.tmps) (g : GOK G ψ) (w : RW φ h W) {o : Oper} {c : LC} (hc : cC P G o.op = some (.L c)) {v : V} (hv : evL c env h = some v) :
    ∃ z,(execOp a.eval o).run P W = .ok (.value z) W ∧ RV ψ v z:=by
  replace hc:=cC_L hc
  obtain ⟨dst,op,type,pos,after,guard⟩:=o
  have dom : ∀ b k,h.bl.get b = some k → ∃ x,φ b = some x ∧ ψ b = some x:=fun b k hk => by
    obtain ⟨x,_,_,_,hx,_⟩:=w.blk b k hk
    exact ⟨x,hx,le.sub b x hx⟩
  cases op <;> simp only [execOp] <;> simp only [cL,reduceCtorEq] at hc
  case load t x =>
    split at hc
    · cases hc
    rename_i p hp
    split at hc
    · rename_i ha
      split at hc
      · rename_i n hn
        cases hc
        simp only [evL,evLdn] at hv
        split at hv
        · rename_i b oo hb
          split at hv
          · rename_i cs hcs
            cases hv
            obtain ⟨y,hy,he⟩:=ptr_ok (a:=a) r g hp hb
            have hbl : ∃ k,h.bl.get b = some k:=by
              unfold H.ldn at hcs
              split at hcs
              · cases hcs
              · rename_i k hk; exact ⟨k,hk⟩
            obtain ⟨k,hk⟩:=hbl
            obtain ⟨x',hx',hx''⟩:=dom b k hk
            rw [hy] at hx''; cases hx''
            obtain ⟨ys,hl,hr,ho,hcell⟩:=ldn_ok w hcs hx'
            refine ⟨.agg ys.toArray,run_v (s:=Instr.loadAt t (a.eval x)) ?_,?_⟩
            · rw [he]
              simp only [Instr.loadAt,Instr.sureAddr,Sem.run_bind,Sem.run_pure,Result.andThen_ok]
              exact run_load_agg ha hn _ ys hl hcell
            · simp only [RV]
              exact ⟨_,rfl,RVs.mono le _ _ (by simpa using hr),ho⟩
          · cases hv
        · rename_i cs hb
          simp only [cond_eq_ite,Nat.ble_eq,len_eq] at hv
          split at hv
          · rename_i hle
            cases hv
            have hr:=toO_ok hp r g hb
            simp only [RV] at hr
            obtain ⟨h0,y,oo,ds,he,q1,q2,q3⟩:=hr
            rw [hfe] at q1
            have hpt:=RVs.part (i:=0) (k:=n) rfl q2 q3 (by omega)
            rw [List.drop_zero,Nat.add_zero] at hpt
            refine ⟨.agg ((ds.drop oo).take n).toArray,run_v (s:=Instr.loadAt t (a.eval x)) ?_,?_⟩
            · rw [he]
              simp only [Instr.loadAt,Instr.sureAddr,Sem.run_bind,Sem.run_pure,Result.andThen_ok]
              exact run_load_agg ha hn _ _ (by rw [List.length_take,List.length_drop]; omega) (fun j v hj => frz_cells w q1 (by omega) hj)
            · rw [takeN_eq]
              simp only [RV]
              exact ⟨_,rfl,by simpa using hpt,pureL_one (pureL_take h0 _)⟩
          · cases hv
        · cases hv
      · cases hc
    · rename_i ha
      cases hc
      simp only [evL,evLd1] at hv
      split at hv
      · rename_i b oo hb
        obtain ⟨y,hy,he⟩:=ptr_ok (a:=a) r g hp hb
        have hbl : ∃ k,h.bl.get b = some k:=by
          unfold H.ld1 at hv
          split at hv
          · cases hv
          · rename_i k hk; exact ⟨k,hk⟩
        obtain ⟨k,hk⟩:=hbl
        obtain ⟨x',hx',hx''⟩:=dom b k hk
        rw [hy] at hx''; cases hx''
        obtain ⟨_,z,hz,hr⟩:=ld1_ok w hv hx'
        refine ⟨z,run_v (s:=Instr.loadAt t (a.eval x)) ?_,RV.mono le _ _ hr⟩
        rw [he]
        simp only [Instr.loadAt,Instr.sureAddr,Sem.run_bind,Sem.run_pure,Result.andThen_ok]
        exact run_load_one ha _ hz
      · rename_i cs hb
        have hr:=toO_ok hp r g hb
        simp only [RV] at hr
        obtain ⟨h0,y,oo,ds,he,q1,q2,q3⟩:=hr
        rw [hfe] at q1
        rw [nth_eq] at hv
        obtain ⟨z,hz,hrz⟩:=q3.get hv
        refine ⟨z,run_v (s:=Instr.loadAt t (a.eval x)) ?_,hrz⟩
        rw [he]
        simp only [Instr.loadAt,Instr.sureAddr,Sem.run_bind,Sem.run_pure,Result.andThen_ok]
        have hcc:=frz_cells w q1 q2 hz
        rw [add_off,Nat.add_zero] at hcc
        exact run_load_one ha _ hcc
      · cases hv
    · cases hc
  case slice t x lo hi mx =>
    unfold cSlA at hc
    split at hc
    · rename_i n e ht
      split at hc
      · cases hc
      split at hc
      · cases hc
      rename_i s hs
      split at hc
      · cases hc
      rename_i p hp
      split at hc
      · cases hc
      rename_i plo hplo
      split at hc
      · cases hc
      rename_i phi hphi
      cases hc
      simp only [evL,evSlA] at hv
      split at hv
      · rename_i b oo hb
        split at hv
        · rename_i nlo hnlo
          split at hv
          · rename_i nhi hnhi
            split at hv
            · rename_i k hk
              simp only [cond_eq_ite,Bool.and_eq_true,Nat.ble_eq,len_eq] at hv
              split at hv
              · rename_i hcc
                cases hv
                obtain ⟨y,hy,he⟩:=ptr_ok (a:=a) r g hp hb
                obtain ⟨x',cc,ee,fz,hx',_,_,hlen,_⟩:=w.blk b k hk
                have:=le.sub b x' hx'
                rw [hy] at this; cases this
                have hlo:=optO_map (a:=a) r g hplo hnlo
                have hhi:=optO_map (a:=a) r g hphi hnhi
                have hbd:=run_bounds (P:=P) (W:=W) false n n nlo nhi (lo.map a.eval) (hi.map a.eval) hlo hhi hcc.1.1.1 hcc.1.1.2
                refine ⟨_,run_v (s:=Instr.sliceAt t (a.eval x) (lo.map a.eval) (hi.map a.eval) (none.map a.eval)) ?_,
                  slice_rel (φ:=ψ) (b:=b) (o:=oo) (sz:=s) (lo:=nlo) (hi:=nhi) (c':=n) (ex:=true) (x:=y) (o':=y.2.1 + oo) (m:=n) (m':=n) hy hcc.1.2 (.inr ⟨rfl,by omega⟩) hcc.1.1.1 hcc.1.1.2 (Nat.le_refl _) (Nat.le_refl _) (fun _ => rfl)⟩
                rw [he]
                simp only [Instr.sliceAt,Sem.run_bind,run_underlying ht,Result.andThen_ok,Instr.sureAddr,Sem.run_pure,Option.map_none,hbd,run_sizeOf hs]
                congr 2
                by_cases e : n = nlo <;> simp [e]
              · cases hv
            · cases hv
          · cases hv
        · cases hv
      · rename_i cs hb
        split at hv
        · rename_i nlo hnlo
          split at hv
          · rename_i nhi hnhi
            simp only [cond_eq_ite,Bool.and_eq_true,Nat.ble_eq,len_eq] at hv
            split at hv
            · rename_i hcc
              cases hv
              have hr:=toO_ok hp r g hb
              simp only [RV] at hr
              obtain ⟨h0,y,oo,ds,he,q1,q2,q3⟩:=hr
              have hlo:=optO_map (a:=a) r g hplo hnlo
              have hhi:=optO_map (a:=a) r g hphi hnhi
              have hbd:=run_bounds (P:=P) (W:=W) false n n nlo nhi (lo.map a.eval) (hi.map a.eval) hlo hhi hcc.1.1.1 hcc.1.1.2
              have hpt:=RVs.part (i:=0) (k:=n * s) rfl q2 q3 (by omega)
              rw [List.drop_zero,Nat.add_zero] at hpt
              have hfz:=slice_fz (φ:=ψ) (md:=.no) (lo:=nlo) (hi:=nhi) (n:=n) (sz:=s) (c':=n) (m':=n) (cs:=cs.take (n * s)) (p:=some ⟨y,oo,none⟩) (pureL_take h0 _) (by rw [List.length_take]; omega) hcc.1.2 (Nat.le_refl _) (fun e => by cases e) (.inr fun a e => by cases e; rfl)
                (.inr ⟨y,oo,ds,rfl,q1,by omega,hpt⟩) hcc.1.1.1 hcc.1.1.2 hcc.1.1.2 (Nat.le_refl _) (.inl rfl)
              have hle2 : nlo * s + (nhi - nlo) * s ≤ n * s:=by
                rw [← Nat.add_mul]
                exact Nat.mul_le_mul_right _ (by omega)
              have hsame : takeN (dropN (cs.take (n * s)) (nlo * s)) ((nhi - nlo) * s) = takeN (dropN cs (nlo * s)) ((nhi - nlo) * s):=by
                simp only [takeN_eq,dropN_eq]
                rw [List.drop_take,List.take_take,Nat.min_eq_left (by omega)]
              rw [hsame] at hfz
              refine ⟨_,run_v (s:=Instr.sliceAt t (a.eval x) (lo.map a.eval) (hi.map a.eval) (none.map a.eval)) ?_,hfz⟩
              rw [he]
              simp only [Instr.sliceAt,Sem.run_bind,run_underlying ht,Result.andThen_ok,Instr.sureAddr,Sem.run_pure,Option.map_none,hbd,run_sizeOf hs]
              congr 2
              by_cases e : n = nlo <;> simp [e]
            · cases hv
          · cases hv
        · cases hv
      · cases hv
    · cases hc
structure Made (ψ : Phi) (cs : List V) (W W' : World) (c : Array Value) : Prop where
  at_ : ∃ e fz,W'.heap[W.heap.size]? = some (.cells c e fz) ∧ (fz.2 ≤ fz.1 ∨ c.size ≤ fz.1)
  size : W'.heap.size = W.heap.size + 1
  old : ∀ i,i < W.heap.size → W'.heap[i]? = W.heap[i]?
  tape : W'.tape = W.tape
  os : W'.os = W.os
  output : W'.output = W.output
  fits : cs.length ≤ c.size
  cells : ∀ (j : Nat) (v : V),cs[j]? = some v → one v = true ∧ ∃ y,c[j]? = some y ∧ RV ψ v y
theorem made_alloc {cs : List V} {ys : List Value} (e : TypeId) (hr : RVs ψ cs ys) (ho : cs.all one = true) (W : World) (more : List Value) :
    Made ψ cs W (W.alloc (.cells (ys ++ more).toArray e)) (ys ++ more).toArray where
  at_:=⟨e,(0,0),by show (W.heap.push _)[W.heap.size]? = _; simp,.inl (Nat.le_refl _)⟩
  size:=by simp
  old i hi:=by show (W.heap.push _)[i]? = _; simp [Array.getElem?_push,Nat.ne_of_lt hi]
  tape:=rfl
  os:=rfl
  output:=rfl
  fits:=by simp [hr.length]
  cells j v hv:=⟨get_of_all ho hv,by
    obtain ⟨y,hy,hry⟩:=hr.get hv
    refine ⟨y,?_,hry⟩
    have hlt : j < ys.length:=by
      obtain ⟨h,_⟩:=List.getElem?_eq_some_iff.1 hy
      exact h
    simp [List.getElem?_append_left hlt,hy]⟩
theorem RVs.repl {z : List V} {zc : Array Value} (hz : RVs ψ z zc.toList) (n : Nat) : RVs ψ (Go.Ev.repl n z) ((Array.range (n * zc.size)).map (zc[· % zc.size]!)).toList:=by
  have hl:=hz.length
  simp only [Array.length_toList] at hl
  have hlen : ∀ n,(Go.Ev.repl n z).length = n * zc.size:=by
    intro n
    induction n with
    | zero => simp [Go.Ev.repl]
    | succ n ih => simp [Go.Ev.repl,app_eq,ih,hl,Nat.succ_mul]; omega
  refine .of_get (by simp [hlen]) ?_
  have key : ∀ (n j : Nat) (v : V),(Go.Ev.repl n z)[j]? = some v → z[j % zc.size]? = some v:=by
    intro n
    induction n with
    | zero => intro j v hv; simp [Go.Ev.repl] at hv
    | succ n ih =>
      intro j v hv
      simp only [Go.Ev.repl,app_eq] at hv
      by_cases hj : j < z.length
      · rw [List.getElem?_append_left hj] at hv
        rwa [Nat.mod_eq_of_lt (by omega)]
      · rw [List.getElem?_append_right (by omega)] at hv
        have:=ih _ _ hv
        rw [hl] at this hj
        rwa [Nat.mod_eq_sub_mod (by omega)]
  intro j v x hv hx
  have h1:=key n j v hv
  obtain ⟨y,hy,hr⟩:=hz.get h1
  simp only [Array.getElem?_toList,Array.getElem?_map] at hx
  obtain ⟨i,hi,rfl⟩:=Option.map_eq_some_iff.1 hx
  have hij : i = j:=by
    have:=Array.getElem?_eq_some_iff.1 hi
    obtain ⟨hlt,he⟩:=this
    simp at he
    exact he.symm
  subst hij
  have hy' : zc[i % zc.size]? = some y:=by simpa using hy
  obtain ⟨hlt,he⟩:=Array.getElem?_eq_some_iff.1 hy'
  rw [getElem!_pos zc _ hlt,he]
  exact hr
theorem one_repl {z : List V} (h : z.all one = true) (n : Nat) : (Go.Ev.repl n z).all one = true:=by
  induction n with
  | zero => rfl
  | succ n ih => simp [Go.Ev.repl,app_eq,List.all_append,h,ih]
theorem alloc_ok (r : REnv nt ψ env a.tmps) (g : GOK G ψ) {o : Oper} {c : AC} (hc : cC P G o.op = some (.A c)) {q : List V × AR} (hv : evA c env = some q) (W : World) :
    ∃ z W' cc,(execOp a.eval o).run P W = .ok (.value z) W' ∧ Made ψ q.1 W W' cc ∧ ∀ (χ : Phi) (b : Nat),χ b = some (W.heap.size,0,cc.size) → RV χ (q.2.at b) z:=by
  replace hc:=cC_A hc
  obtain ⟨dst,op,type,pos,after,guard⟩:=o
  cases op <;> simp only [execOp] <;> simp only [cA,reduceCtorEq] at hc
  case alloc t =>
    split at hc
    · rename_i z hz
      cases hc
      simp only [evA,Option.some.injEq] at hv
      subst hv
      obtain ⟨i,zv,hi,hzv,hzr⟩:=zeroT_ok hz
      obtain ⟨h1,h2⟩:=hzr ψ
      have hm:=made_alloc (ψ:=ψ) t h1 h2 W []
      simp only [List.append_nil,Array.toArray_toList] at hm
      refine ⟨.pointer (some ⟨W.heap.size,0,none⟩),_,_,run_v (s:=Instr.alloc t true (.tuple #[])) ?_,hm,fun χ b hb => ?_⟩
      · simp only [Instr.alloc,Sem.run_bind,run_zeroValue hi hzv,Result.andThen_ok]
        simp [newVar,newRow]
      · simp only [AR.at,RV]
        exact ⟨_,hb,rfl⟩
    · cases hc
  case box t x =>
    split at hc
    · rename_i p hp
      cases hc
      simp only [evA,evBox] at hv
      split at hv
      · rename_i v hv'
        split at hv
        · rename_i cs hcs
          cases hv
          have hr:=toD_ok (elemQ_pos _) hp r g hv'
          obtain ⟨h1,h2⟩:=RV.cells hcs hr
          have hm:=made_alloc (ψ:=ψ) t h1 h2 W []
          simp only [List.append_nil,Array.toArray_toList] at hm
          refine ⟨.pointer (some ⟨W.heap.size,0,none⟩),_,_,run_v (s:=Instr.box t (a.eval x)) ?_,hm,fun χ b hb => ?_⟩
          · simp [Instr.box,newVar,newRow]
          · simp only [AR.at,RV]
            exact ⟨_,hb,rfl⟩
        · cases hv
      · cases hv
    · cases hc
  case buildSlice t n ps =>
    split at hc
    · cases hc
    rename_i e he
    have ht : P.underlying t = some (.slice e):=by
      unfold elemT at he
      split at he
      · rename_i e' h'; cases he; exact h'
      · cases he
    split at hc
    · cases hc
    rename_i s hs
    split at hc
    · cases hc
    rename_i z hz
    split at hc
    · rename_i l hl
      simp only [cond_eq_ite,Bool.and_eq_true,Nat.beq_eq,Nat.ble_eq,len_eq] at hc
      split at hc
      · rename_i hcc
        cases hc
        simp only [evA,evBuildSl] at hv
        split at hv
        · rename_i cs hcs
          cases hv
          obtain ⟨i,zv,hi,hzv,hzr⟩:=zeroT_ok hz
          obtain ⟨h1,h2⟩:=hzr ψ
          have hzl : zv.cells.size = s:=by rw [← hcc.1.1]; simpa using h1.length.symm
          have hmap : (ps.map fun (i,x) => (i,a.eval x)).toList = ps.toList.map fun p => (p.1,a.eval p.2):=by simp
          have hrep:=RVs.repl (ψ:=ψ) h1 n
          rw [hzl] at hrep
          obtain ⟨B,hB,hr1,hr2⟩:=fill_ok (a:=a) r g (fun i => some (i * s,s)) ps.toList l _ cs _ (partsA_ok (elemQ_pos _) hl) hrep (one_repl h2 n) hcs
          have hm:=made_alloc (ψ:=ψ) e hr1 hr2 W []
          simp only [List.append_nil,Array.toArray_toList] at hm
          refine ⟨.slice (some ⟨W.heap.size,0,none⟩) n n,_,_,run_v ?_,hm,fun χ b hb => ?_⟩
          · have hlim : ¬ (n * s > 2 ^ 24):=by have:=hcc.2; omega
            simp only [Instr.buildSlice,Sem.run_bind,run_underlying ht,Result.andThen_ok,run_sizeOf hs]
            rw [if_neg hlim]
            by_cases h0 : n * s = 0
            · rw [if_pos h0]
              rw [hmap]
              rw [Sem.run_bind,Sem.run_pure,Result.andThen_ok]
              have e0 : (Array.map (fun x => (#[] : Array Value)[x % (#[] : Array Value).size]!) (Array.range (n * s))) = (Array.range (n * s)).map (zv.cells[· % s]!):=by
                rw [h0]; simp
              rw [e0,hB]
              simp [newRow]
            · rw [if_neg h0]
              rw [hmap]
              simp only [Sem.run_bind,run_zeroValue hi hzv,Sem.run_pure,Result.andThen_ok,hzl,hB]
              simp [newRow]
          · simp only [AR.at,RV]
            have hBl : B.size = n * s:=by
              have e1:=hr1.length
              simp only [Array.length_toList] at e1
              have e2 : ∀ (ps : List (Nat × Nat × O)) (c1 c2 : List V),fillP env c1 ps = some c2 → c2.length = c1.length:=by
                intro ps
                induction ps with
                | nil => intro c1 c2 h; simp [fillP] at h; subst h; rfl
                | cons q ps ih =>
                  intro c1 c2 h
                  simp only [fillP] at h
                  split at h
                  · cases h
                  · split at h
                    · cases h
                    · simp only [cond_eq_ite] at h
                      split at h
                      · rw [ih _ _ h,length_putN]
                      · cases h
              have e3:=e2 _ _ _ hcs
              have e4:=hrep.length
              simp at e4
              omega
            exact ⟨_,0,n,hb,rfl,Nat.le_refl _,Nat.le_refl _,fun _ => rfl,hcc.1.2,.inr ⟨rfl,by show 0 + n * s ≤ B.size; omega⟩⟩
        · cases hv
      · cases hc
    · cases hc
  case makeSlice t l cx =>
    split at hc
    · cases hc
    rename_i e he
    have ht : P.underlying t = some (.slice e):=by
      unfold elemT at he
      split at he
      · rename_i e' h'; cases he; exact h'
      · cases he
    split at hc
    · cases hc
    rename_i s hs
    split at hc
    · cases hc
    rename_i z hz
    split at hc
    · cases hc
    rename_i by_ hby
    split at hc
    · cases hc
    rename_i pl hpl
    split at hc
    · rename_i pc hpc
      simp only [cond_eq_ite,Bool.and_eq_true,Nat.beq_eq,Nat.ble_eq,len_eq] at hc
      split at hc
      · rename_i hcc
        cases hc
        simp only [evA,evMkSl] at hv
        split at hv
        · rename_i nl hnl
          split at hv
          · rename_i nc hnc
            simp only [cond_eq_ite,Bool.and_eq_true,Nat.ble_eq] at hv
            split at hv
            · rename_i hb
              cases hv
              obtain ⟨i,zv,hi,hzv,hzr⟩:=zeroT_ok hz
              obtain ⟨h1,h2⟩:=hzr ψ
              have hzl : zv.cells.size = s:=by rw [← hcc.1]; simpa using h1.length.symm
              obtain ⟨kl,hkl⟩:=nat_ok (a:=a) r g hpl hnl
              obtain ⟨kc,hkc⟩:=nat_ok (a:=a) r g hpc hnc
              obtain ⟨i',hi',hsz⟩:=sizeT_ok hs
              rw [hi] at hi'; cases hi'
              have hby' : i.bytes = by_:=by
                unfold bytesT at hby
                rw [hi] at hby
                cases hby; rfl
              have hrep:=RVs.repl (ψ:=ψ) h1 nc
              have hbb : ((i.bytes : Int) * (nc : Int)) ≤ 281474976710656:=by
                rw [hby',← Int.natCast_mul]
                exact Int.ofNat_le.2 hb.1.2
              obtain ⟨⟨hb1,hb2⟩,hb3⟩:=hb
              have hlc : (nl : Int) ≤ (nc : Int):=by omega
              have h63 : (nc : Int) ≤ 9223372036854775807:=by omega
              have hrun:=run_make (P:=P) W t e i zv ht hi hzv kl kc nl nc (Int.natCast_nonneg _) hlc hbb h63
              have hm:=made_alloc (ψ:=ψ) e hrep (one_repl h2 nc) W []
              simp only [List.append_nil,Array.toArray_toList] at hm
              have hmade : madeCells zv.cells ((nc : Int).toNat * i.size) = (Array.range (nc * zv.cells.size)).map (zv.cells[· % zv.cells.size]!):=by
                simp only [madeCells,Int.toNat_natCast,hsz,hzl]
              refine ⟨.slice (some ⟨W.heap.size,0,none⟩) nl nc,_,_,run_v (s:=Instr.makeSlice t (a.eval l) (a.eval cx)) ?_,hm,fun χ b hb' => ?_⟩
              · rw [hkl,hkc,hrun,hmade]
                rfl
              · simp only [AR.at,RV]
                have hsz2 : ((Array.range (nc * zv.cells.size)).map (zv.cells[· % zv.cells.size]!)).size = nc * s:=by simp [hzl]
                exact ⟨_,0,nc,hb',rfl,hb1,Nat.le_refl _,fun _ => rfl,hcc.2,.inr ⟨rfl,by simp only [hsz2,Nat.zero_add,Nat.le_refl]⟩⟩
            · cases hv
          · cases hv
        · cases hv
      · cases hc
    · cases hc
end
end Go.Ev
namespace Go.Ev
def Phi.upd (φ : Phi) (b : Nat) (x : Nat × Nat × Nat) : Phi:=⟨fun i => if i = b then some x else φ i,φ.ro,φ.fz,φ.tk⟩
theorem Phi.upd_same (φ : Phi) (b : Nat) (x : Nat × Nat × Nat) : φ.upd b x b = some x:=by simp [Phi.upd]
theorem Phi.upd_other (φ : Phi) {b i : Nat} (x : Nat × Nat × Nat) (h : i ≠ b) : φ.upd b x i = φ i:=by simp [Phi.upd,h]
theorem Phi.le_upd {φ : Phi} {b : Nat} (x : Nat × Nat × Nat) (h : φ b = none) : φ.le (φ.upd b x):=by
  refine ⟨fun i y hy => ?_,rfl,fun _ ds h => ⟨[],by rw [List.append_nil]; exact h⟩,fun _ e n v h => ⟨e,n,v,h,tkLe.refl _ _ _⟩⟩
  by_cases e : i = b
  · subst e; rw [h] at hy; cases hy
  · rw [Phi.upd_other φ x e]; exact hy
section
variable {P : Program} {φ ψ : Phi} {h : H} {W W' : World}
theorem RW.none_nb (r : RW φ h W) {b : Nat} (hb : h.nb ≤ b) : φ b = none:=by
  cases e : φ b with
  | none => rfl
  | some x => have:=(r.img b x e).1; omega
theorem RW.push (r : RW φ h W) (hold : ∀ i,i < W.heap.size → W'.heap[i]? = W.heap[i]?) (hs : W.heap.size ≤ W'.heap.size) : RW φ h W' where
  blk b k hb:=by
    obtain ⟨x,c,e,fz,hx,hc,rest⟩:=r.blk b k hb
    exact ⟨x,c,e,fz,hx,by rw [hold x.1 (r.img b x hx).2]; exact hc,rest⟩
  img b x hx:=⟨(r.img b x hx).1,by have:=(r.img b x hx).2; omega⟩
  fresh:=r.fresh
  alias:=r.alias
  grp:=r.grp
  ros wb h:=by have:=r.ros wb h; omega
  rest:=r.rest.keep (fun x ds hx => hold x (r.rest.lt hx)) rfl rfl fun b y ds hy hd => (r.rest.frz _ _ hd).2 b y hy rfl
theorem RW.soft_new (r : RW φ h W) {wb : Nat} (hwb : W.heap.size ≤ wb) : φ.ro wb = false:=by
  cases e : φ.ro wb with
  | false => rfl
  | true => have:=r.ros wb e; omega
theorem RW.add (r : RW φ h W) {cs : List V} {wb : Nat} {cc : Array Value} {e : TypeId} {fz : Nat × Nat} (hwb : W.heap[wb]? = some (.cells cc e fz)) (hfz : fz.2 ≤ fz.1 ∨ cc.size ≤ fz.1) (hro : φ.ro wb = false) (hnf : φ.fz wb = none)
    (hnew : ∀ b x,φ b = some x → x.1 ≠ wb) (hlen : cs.length ≤ cc.size)
    (hcells : ∀ (j : Nat) (v : V),cs[j]? = some v → one v = true ∧ ∃ y,cc[j]? = some y ∧ RV (φ.upd h.nb (wb,0,cc.size)) v y) :
    RW (φ.upd h.nb (wb,0,cc.size)) (h.alloc cs) W where
  blk b k hb:=by
    simp only [H.alloc,T.get_set] at hb
    split at hb
    · rename_i e'
      cases hb
      subst e'
      refine ⟨(wb,0,cc.size),cc,e,fz,Phi.upd_same _ _ _,hwb,by simp,hlen,.inr ⟨hro,hfz⟩,fun j v hv => .inr ?_⟩
      simpa using hcells j v hv
    · rename_i hne
      obtain ⟨x,c,e',fz',hx,hc,h1,h2,h3,h4⟩:=r.blk b k hb
      refine ⟨x,c,e',fz',by rw [Phi.upd_other _ _ hne]; exact hx,hc,h1,h2,h3,fun j v hv => ?_⟩
      rcases h4 j v hv with hz | ⟨ho,y,hy,hr⟩
      · exact .inl hz
      · exact .inr ⟨ho,y,hy,RV.mono (Phi.le_upd _ (r.none_nb (Nat.le_refl _))) _ _ hr⟩
  img b x hx:=by
    by_cases e' : b = h.nb
    · subst e'
      rw [Phi.upd_same] at hx
      cases hx
      refine ⟨by simp [H.alloc],?_⟩
      obtain ⟨hlt,_⟩:=Array.getElem?_eq_some_iff.1 hwb
      exact hlt
    · rw [Phi.upd_other _ _ e'] at hx
      have:=r.img b x hx
      exact ⟨by simp only [H.alloc]; omega,this.2⟩
  fresh b hb:=by
    simp only [H.alloc] at hb
    simp only [H.alloc,T.get_set]
    rw [if_neg (by omega)]
    exact r.fresh b (by omega)
  alias b1 b2 k1 k2 x1 x2 h1 h2 e1 e2 hw:=by
    simp only [H.alloc,T.get_set] at h1 h2
    split at h1
    · rename_i c1
      split at h2
      · rename_i c2
        cases h1; cases h2
        subst c1; subst c2
        rw [e1] at e2; cases e2
        exact ⟨rfl,rfl⟩
      · rename_i c2
        subst c1
        rw [Phi.upd_same] at e1; cases e1
        rw [Phi.upd_other _ _ c2] at e2
        exact (hnew b2 x2 e2 hw.symm).elim
    · rename_i c1
      rw [Phi.upd_other _ _ c1] at e1
      split at h2
      · rename_i c2
        subst c2
        rw [Phi.upd_same] at e2; cases e2
        exact (hnew b1 x1 e1 hw).elim
      · rename_i c2
        rw [Phi.upd_other _ _ c2] at e2
        exact r.alias b1 b2 k1 k2 x1 x2 h1 h2 e1 e2 hw
  grp b k hb:=by
    simp only [H.alloc,T.get_set] at hb
    split at hb
    · rename_i c1
      cases hb
      exact .inl c1
    · exact r.grp b k hb
  ros:=r.ros
  rest:=r.rest.keep (fun _ _ _ => rfl) rfl rfl fun b y ds hy hd => by
    by_cases e' : b = h.nb
    · subst e'
      rw [Phi.upd_same] at hy
      cases hy
      rw [hnf] at hd; cases hd
    · rw [Phi.upd_other _ _ e'] at hy
      exact (r.rest.frz _ _ hd).2 b y hy rfl
theorem Made.ext {cs : List V} {cc : Array Value} (m : Made ψ cs W W' cc) : Ext φ W W' where
  size:=by rw [m.size]; omega
  out wb hwb _ _:=m.old wb hwb
  shape wb c e fz hc:=⟨c,by
    rw [m.old wb]
    · exact hc
    · obtain ⟨hlt,_⟩:=Array.getElem?_eq_some_iff.1 hc
      exact hlt,rfl⟩
  tape:=m.tape
  os:=m.os
  output:=m.output
theorem grow_upd (r : RW φ h W) {x : Nat × Nat × Nat} (hx : W.heap.size ≤ x.1) : Grow φ (φ.upd h.nb x) W where
  le:=Phi.le_upd _ (r.none_nb (Nat.le_refl _))
  new b y hy hlt:=by
    by_cases e : b = h.nb
    · subst e
      rw [Phi.upd_same] at hy; cases hy
      omega
    · rw [Phi.upd_other _ _ e] at hy
      exact ⟨b,y,hy,rfl⟩
  own _ h _:=h
  frz _ ds h _:=.inl h
theorem RW.made (r : RW φ h W) {cs : List V} {cc : Array Value} (m : Made φ cs W W' cc) :
    RW (φ.upd h.nb (W.heap.size,0,cc.size)) (h.alloc cs) W' ∧ Grow φ (φ.upd h.nb (W.heap.size,0,cc.size)) W ∧ Ext φ W W':=by
  obtain ⟨e,fz,hat,hfz⟩:=m.at_
  have r' : RW φ h W':=r.push m.old (by rw [m.size]; omega)
  refine ⟨r'.add hat hfz (r.soft_new (Nat.le_refl _)) ?_ (fun b x hx => ?_) m.fits (fun j v hv => ?_),grow_upd r (Nat.le_refl _),m.ext⟩
  · cases e : φ.fz W.heap.size with
    | none => rfl
    | some ds => have:=r.rest.lt e; omega
  · have:=(r.img b x hx).2; omega
  · obtain ⟨h1,y,hy,hr⟩:=m.cells j v hv
    exact ⟨h1,y,hy,RV.mono (Phi.le_upd _ (r.none_nb (Nat.le_refl _))) _ _ hr⟩
theorem setCells_heap (b : Nat) : ∀ (vs : List Value) (o : Nat) (W : World) (c : Array Value) (e : TypeId) (fz : Nat × Nat),W.heap[b]? = some (.cells c e fz) → o + vs.length ≤ c.size →
    ∃ c' : Array Value,(W.setCells b o vs).heap[b]? = some (.cells c' e fz) ∧ c'.toList = putN c.toList o vs ∧ (∀ k,k ≠ b → (W.setCells b o vs).heap[k]? = W.heap[k]?) ∧
      (W.setCells b o vs).heap.size = W.heap.size ∧ (W.setCells b o vs).tape = W.tape ∧ (W.setCells b o vs).os = W.os ∧ (W.setCells b o vs).output = W.output:=by
  intro vs
  induction vs with
  | nil =>
    intro o W c e fz hc _
    refine ⟨c,hc,?_,fun _ _ => rfl,rfl,rfl,rfl,rfl⟩
    apply List.ext_getElem?
    intro j
    rw [get_putN,if_neg (by simp; omega)]
  | cons v vs ih =>
    intro o W c e fz hc hlen
    simp only [List.length_cons] at hlen
    have h1 : (W.setCell ⟨b,o,none⟩ v).heap[b]? = some (.cells (c.setIfInBounds o v) e fz):=by
      simp [World.setCell,Array.getElem?_modify,hc]
    have h2 : ∀ k,k ≠ b → (W.setCell ⟨b,o,none⟩ v).heap[k]? = W.heap[k]?:=by
      intro k hk
      simp [World.setCell,Array.getElem?_modify,Ne.symm hk]
    obtain ⟨c',g1,g2,g3,g4,g5,g6,g7⟩:=ih (o + 1) (W.setCell ⟨b,o,none⟩ v) _ e fz h1 (by simp; omega)
    refine ⟨c',g1,?_,fun k hk => (g3 k hk).trans (h2 k hk),g4.trans (by simp [World.setCell]),g5,g6,g7⟩
    rw [g2,Array.toList_setIfInBounds,putN_cons _ _ _ _ (by simp; omega)]
theorem zs_length (n : Nat) : (zs n).length = n:=by induction n <;> simp_all [zs]
theorem zs_get {n j : Nat} {v : V} (h : (zs n)[j]? = some v) : v = .z:=by
  induction n generalizing j with
  | zero => simp [zs] at h
  | succ n ih =>
    cases j with
    | zero => simp [zs] at h; exact h.symm
    | succ j => simp [zs] at h; exact ih h
structure Poi (k k' : Blk) (pos n : Nat) : Prop where
  grp : k'.grp = k.grp
  dl : k'.dl = k.dl
  len : k'.cells.length = k.cells.length
  get : ∀ (j : Nat) (v : V),k'.cells[j]? = some v → v = .z ∨ (k.cells[j]? = some v ∧ ¬ (pos ≤ k.dl + j ∧ k.dl + j < pos + n))
theorem poi_refl {k : Blk} {pos n : Nat} (h : ∀ j,j < k.cells.length → ¬ (pos ≤ k.dl + j ∧ k.dl + j < pos + n)) : Poi k k pos n:=
  ⟨rfl,rfl,rfl,fun j v hv => .inr ⟨hv,h j (by obtain ⟨hlt,_⟩:=List.getElem?_eq_some_iff.1 hv; exact hlt)⟩⟩
theorem poi_B (k : Blk) (pos n : Nat) : Poi k (poisonB k pos n) pos n:=by
  unfold poisonB
  simp only [cond_eq_ite,Nat.ble_eq]
  split
  · rename_i hle
    refine ⟨rfl,rfl,by simp [length_putN],fun j v hv => ?_⟩
    simp only [get_putN,zs_length] at hv
    split at hv
    · exact .inl (zs_get hv)
    · rename_i hc
      refine .inr ⟨hv,fun ⟨h1,h2⟩ => hc ⟨by omega,by omega,?_⟩⟩
      obtain ⟨hlt,_⟩:=List.getElem?_eq_some_iff.1 hv
      exact hlt
  · rename_i hle
    refine ⟨rfl,rfl,by simp [length_putN],fun j v hv => ?_⟩
    simp only [get_putN,zs_length] at hv
    split at hv
    · exact .inl (zs_get hv)
    · rename_i hc
      refine .inr ⟨hv,fun ⟨h1,h2⟩ => hc ⟨by omega,by omega,?_⟩⟩
      obtain ⟨hlt,_⟩:=List.getElem?_eq_some_iff.1 hv
      exact hlt
theorem Poi.trans {k k' k'' : Blk} {pos n : Nat} (h : Poi k k' pos n) (g : Poi k' k'' pos n) : Poi k k'' pos n:=
  ⟨g.grp.trans h.grp,g.dl.trans h.dl,g.len.trans h.len,fun j v hv => by
    rcases g.get j v hv with hz | ⟨hv',_⟩
    · exact .inl hz
    · exact h.get j v hv'⟩
theorem poisonL_ok (skip pos n : Nat) : ∀ (l : List Nat) (bl : T Blk),
    (∀ b,(poisonL skip pos n l bl).get b = none ↔ bl.get b = none) ∧
    (∀ b k',(poisonL skip pos n l bl).get b = some k' → ∃ k,bl.get b = some k ∧ ((b = skip ∧ k' = k) ∨ (b ≠ skip ∧ ((b ∉ l ∧ k' = k) ∨ (b ∈ l ∧ Poi k k' pos n))))):=by
  intro l
  induction l with
  | nil =>
    intro bl
    refine ⟨fun b => by simp [poisonL],fun b k' hb => ⟨k',hb,?_⟩⟩
    by_cases e : b = skip
    · exact .inl ⟨e,rfl⟩
    · exact .inr ⟨e,.inl ⟨by simp,rfl⟩⟩
  | cons c l ih =>
    intro bl
    simp only [poisonL,cond_eq_ite,Nat.beq_eq]
    split
    · rename_i hc
      subst hc
      obtain ⟨h1,h2⟩:=ih bl
      refine ⟨h1,fun b k' hb => ?_⟩
      obtain ⟨k,hk,hh⟩:=h2 b k' hb
      refine ⟨k,hk,?_⟩
      rcases hh with hh | ⟨hne,hh⟩
      · exact .inl hh
      · refine .inr ⟨hne,?_⟩
        rcases hh with ⟨hm,he⟩ | ⟨hm,hp⟩
        · exact .inl ⟨by simp [hne,hm],he⟩
        · exact .inr ⟨by simp [hm],hp⟩
    · rename_i hcs
      split
      · rename_i hn
        obtain ⟨h1,h2⟩:=ih bl
        refine ⟨h1,fun b k' hb => ?_⟩
        obtain ⟨k,hk,hh⟩:=h2 b k' hb
        refine ⟨k,hk,?_⟩
        rcases hh with hh | ⟨hne,hh⟩
        · exact .inl hh
        · refine .inr ⟨hne,?_⟩
          have hbc : b ≠ c:=fun e => by subst e; rw [hn] at hk; cases hk
          rcases hh with ⟨hm,he⟩ | ⟨hm,hp⟩
          · exact .inl ⟨by simp [hbc,hm],he⟩
          · exact .inr ⟨by simp [hm],hp⟩
      · rename_i kc hkc
        split
        · rename_i hout
          simp only [Bool.or_eq_true,Nat.ble_eq,len_eq] at hout
          obtain ⟨h1,h2⟩:=ih bl
          refine ⟨h1,fun b k' hb => ?_⟩
          obtain ⟨k,hk,hh⟩:=h2 b k' hb
          refine ⟨k,hk,?_⟩
          rcases hh with hh | ⟨hne,hh⟩
          · exact .inl hh
          · refine .inr ⟨hne,?_⟩
            rcases hh with ⟨hm,he⟩ | ⟨hm,hp⟩
            · by_cases hbc : b = c
              · subst hbc
                rw [hkc] at hk; cases hk
                subst he
                exact .inr ⟨by simp,poi_refl fun j hj => by omega⟩
              · exact .inl ⟨by simp [hbc,hm],he⟩
            · exact .inr ⟨by simp [hm],hp⟩
        · obtain ⟨h1,h2⟩:=ih (bl.set c (poisonB kc pos n))
          refine ⟨fun b => ?_,fun b k' hb => ?_⟩
          · rw [h1 b,T.get_set]
            split
            · rename_i e; subst e; simp [hkc]
            · rfl
          · obtain ⟨k,hk,hh⟩:=h2 b k' hb
            rw [T.get_set] at hk
            split at hk
            · rename_i e
              cases hk
              subst e
              refine ⟨kc,hkc,.inr ⟨hcs,.inr ⟨by simp,?_⟩⟩⟩
              rcases hh with ⟨he,_⟩ | ⟨_,⟨_,he⟩ | ⟨_,hp⟩⟩
              · exact (hcs he).elim
              · subst he; exact poi_B kc pos n
              · exact (poi_B kc pos n).trans hp
            · rename_i hbc
              refine ⟨k,hk,?_⟩
              rcases hh with hh | ⟨hne,hh⟩
              · exact .inl hh
              · refine .inr ⟨hne,?_⟩
                rcases hh with ⟨hm,he⟩ | ⟨hm,hp⟩
                · exact .inl ⟨by simp [hbc,hm],he⟩
                · exact .inr ⟨by simp [hm],hp⟩
end
end Go.Ev
namespace Go.Ev
section
variable {P : Program} {φ ψ : Phi} {h : H} {W W' : World}
structure Less (h h' : H) : Prop where
  nb : h'.nb = h.nb
  gr : h'.gr = h.gr
  tk : h'.tk = h.tk
  get : ∀ b k',h'.bl.get b = some k' → ∃ k,h.bl.get b = some k ∧ k'.grp = k.grp ∧ k'.dl = k.dl ∧ k'.cells.length = k.cells.length ∧ ∀ (j : Nat) (v : V),k'.cells[j]? = some v → v = .z ∨ k.cells[j]? = some v
theorem RW.less (r : RW φ h W) {h' : H} (l : Less h h') : RW φ h' W where
  blk b k' hb:=by
    obtain ⟨k,hk,_,hdl,hlen,hget⟩:=l.get b k' hb
    obtain ⟨x,c,e,fz,hx,hc,h1,h2,h3,h4⟩:=r.blk b k hk
    refine ⟨x,c,e,fz,hx,hc,h1,by omega,by rw [hdl]; exact h3,fun j v hv => ?_⟩
    rcases hget j v hv with hz | hv'
    · exact .inl hz
    · exact h4 j v hv'
  img b x hx:=by rw [l.nb]; exact r.img b x hx
  fresh b hb:=by
    rw [l.nb] at hb
    cases e : h'.bl.get b with
    | none => rfl
    | some k' =>
      obtain ⟨k,hk,_⟩:=l.get b k' e
      rw [r.fresh b hb] at hk; cases hk
  alias b1 b2 k1 k2 x1 x2 h1 h2 e1 e2 hw:=by
    obtain ⟨q1,hq1,g1,d1,_⟩:=l.get b1 k1 h1
    obtain ⟨q2,hq2,g2,d2,_⟩:=l.get b2 k2 h2
    have:=r.alias b1 b2 q1 q2 x1 x2 hq1 hq2 e1 e2 hw
    rw [g1,g2,d1,d2]; exact this
  grp b k' hb:=by
    obtain ⟨k,hk,g,_⟩:=l.get b k' hb
    rw [g,l.gr]
    exact r.grp b k hk
  ros:=r.ros
  rest:=by rw [l.tk]; exact r.rest
theorem RW.write (r : RW φ h W) {h' : H} {wb q : Nat} {c c' : Array Value} {e : TypeId} {fz : Nat × Nat} {ys : List Value}
    (hc : W.heap[wb]? = some (.cells c e fz)) (hc' : W'.heap[wb]? = some (.cells c' e fz)) (hput : c'.toList = putN c.toList q ys) (hfit : q + ys.length ≤ c.size) (hout : ∀ k,k ≠ wb → W'.heap[k]? = W.heap[k]?) (hsize : W'.heap.size = W.heap.size)
    (hnb : h'.nb = h.nb) (hgr : h'.gr = h.gr) (htk : h'.tk = h.tk) (hnf : φ.fz wb = none)
    (hget : ∀ b k',h'.bl.get b = some k' → ∃ k,h.bl.get b = some k ∧ k'.grp = k.grp ∧ k'.dl = k.dl ∧ k'.cells.length = k.cells.length ∧ ∀ (x : Nat × Nat × Nat) (j : Nat) (v : V),φ b = some x → k'.cells[j]? = some v →
      v = .z ∨ (k.cells[j]? = some v ∧ (x.1 = wb → ¬ (q ≤ x.2.1 + j ∧ x.2.1 + j < q + ys.length))) ∨ (x.1 = wb ∧ q ≤ x.2.1 + j ∧ one v = true ∧ ∃ y,ys[x.2.1 + j - q]? = some y ∧ RV φ v y)) :
    RW φ h' W' where
  blk b k' hb:=by
    obtain ⟨k,hk,_,hdl,hlen,hcell⟩:=hget b k' hb
    obtain ⟨x,cx,ex,fzx,hx,hcx,h1,h2,h3,h4⟩:=r.blk b k hk
    by_cases hw : x.1 = wb
    · rw [hw,hc] at hcx
      cases hcx
      have hsz : c'.size = c.size:=by
        have:=congrArg List.length hput
        simpa [length_putN] using this
      refine ⟨x,c',e,fz,hx,by rw [hw]; exact hc',by omega,by omega,by rw [hdl]; unfold Soft at h3 ⊢; rw [hsz]; exact h3,fun j v hv => ?_⟩
      have hgetc : ∀ i,c'[i]? = if q ≤ i ∧ i < q + ys.length ∧ i < c.size then ys[i - q]? else c[i]?:=by
        intro i
        have : c'.toList[i]? = (putN c.toList q ys)[i]?:=by rw [hput]
        rw [get_putN] at this
        simpa using this
      rcases hcell x j v hx hv with hz | ⟨hv',hnot⟩ | ⟨_,hq,ho,y,hy,hr⟩
      · exact .inl hz
      · rcases h4 j v hv' with hz | ⟨ho,y,hy,hr⟩
        · exact .inl hz
        · refine .inr ⟨ho,y,?_,hr⟩
          rw [hgetc,if_neg (fun hh => hnot hw ⟨hh.1,hh.2.1⟩)]
          exact hy
      · refine .inr ⟨ho,y,?_,hr⟩
        obtain ⟨hlt,_⟩:=List.getElem?_eq_some_iff.1 hy
        rw [hgetc,if_pos ⟨hq,by omega,by omega⟩]
        exact hy
    · refine ⟨x,cx,ex,fzx,hx,by rw [hout _ hw]; exact hcx,h1,by omega,by rw [hdl]; exact h3,fun j v hv => ?_⟩
      rcases hcell x j v hx hv with hz | ⟨hv',_⟩ | ⟨he,_⟩
      · exact .inl hz
      · exact h4 j v hv'
      · exact (hw he).elim
  img b x hx:=by rw [hnb,hsize]; exact r.img b x hx
  fresh b hb:=by
    rw [hnb] at hb
    cases e : h'.bl.get b with
    | none => rfl
    | some k' =>
      obtain ⟨k,hk,_⟩:=hget b k' e
      rw [r.fresh b hb] at hk; cases hk
  alias b1 b2 k1 k2 x1 x2 h1 h2 e1 e2 hw:=by
    obtain ⟨q1,hq1,g1,d1,_⟩:=hget b1 k1 h1
    obtain ⟨q2,hq2,g2,d2,_⟩:=hget b2 k2 h2
    have:=r.alias b1 b2 q1 q2 x1 x2 hq1 hq2 e1 e2 hw
    rw [g1,g2,d1,d2]; exact this
  grp b k' hb:=by
    obtain ⟨k,hk,g,_⟩:=hget b k' hb
    rw [g,hgr]
    exact r.grp b k hk
  ros wb h:=by rw [hsize]; exact r.ros wb h
  rest:=by
    rw [htk]
    exact r.rest.keep (fun x ds hx => hout x fun e => by rw [e,hnf] at hx; cases hx) rfl rfl fun b y ds hy hd => (r.rest.frz _ _ hd).2 b y hy rfl
theorem RW.addG (r : RW φ h W) {cs : List V} {gp dl wb wo sz : Nat} {gr' : T (List Nat)} {cc : Array Value} {e : TypeId} {fz : Nat × Nat} (hwb : W.heap[wb]? = some (.cells cc e fz)) (hfz : Soft φ wb dl cc fz) (hnf : φ.fz wb = none) (hsz : wo + sz = cc.size)
    (hlen : cs.length ≤ sz)
    (hgr : ∀ b k,h.bl.get b = some k → b = k.grp ∨ ∃ l,gr'.get k.grp = some l ∧ b ∈ l) (hself : ∃ l,gr'.get gp = some l ∧ h.nb ∈ l)
    (halias : ∀ b k x,h.bl.get b = some k → φ b = some x → x.1 = wb → k.grp = gp ∧ x.2.1 + dl = wo + k.dl)
    (hcells : ∀ (j : Nat) (v : V),cs[j]? = some v → v = .z ∨ (one v = true ∧ ∃ y,cc[wo + j]? = some y ∧ RV φ v y)) :
    RW (φ.upd h.nb (wb,wo,sz)) ⟨h.nb + 1,h.bl.set h.nb ⟨cs,gp,dl⟩,gr',h.tk⟩ W where
  blk b k hb:=by
    simp only [T.get_set] at hb
    split at hb
    · rename_i e'
      cases hb
      subst e'
      refine ⟨(wb,wo,sz),cc,e,fz,Phi.upd_same _ _ _,hwb,hsz,hlen,hfz,fun j v hv => ?_⟩
      rcases hcells j v hv with hz | ⟨ho,y,hy,hr⟩
      · exact .inl hz
      · exact .inr ⟨ho,y,hy,RV.mono (Phi.le_upd _ (r.none_nb (Nat.le_refl _))) _ _ hr⟩
    · rename_i hne
      obtain ⟨x,c,e',fz',hx,hc,h1,h2,h3,h4⟩:=r.blk b k hb
      refine ⟨x,c,e',fz',by rw [Phi.upd_other _ _ hne]; exact hx,hc,h1,h2,h3,fun j v hv => ?_⟩
      rcases h4 j v hv with hz | ⟨ho,y,hy,hr⟩
      · exact .inl hz
      · exact .inr ⟨ho,y,hy,RV.mono (Phi.le_upd _ (r.none_nb (Nat.le_refl _))) _ _ hr⟩
  img b x hx:=by
    by_cases e' : b = h.nb
    · subst e'
      rw [Phi.upd_same] at hx
      cases hx
      refine ⟨Nat.lt_succ_self _,?_⟩
      obtain ⟨hlt,_⟩:=Array.getElem?_eq_some_iff.1 hwb
      exact hlt
    · rw [Phi.upd_other _ _ e'] at hx
      have:=r.img b x hx
      exact ⟨Nat.lt_succ_of_lt this.1,this.2⟩
  fresh b hb:=by
    have hb' : h.nb + 1 ≤ b:=hb
    simp only [T.get_set]
    rw [if_neg (by omega)]
    exact r.fresh b (by omega)
  alias b1 b2 k1 k2 x1 x2 h1 h2 e1 e2 hw:=by
    simp only [T.get_set] at h1 h2
    split at h1
    · rename_i c1
      split at h2
      · rename_i c2
        cases h1; cases h2
        subst c1; subst c2
        rw [e1] at e2; cases e2
        exact ⟨rfl,rfl⟩
      · rename_i c2
        subst c1
        rw [Phi.upd_same] at e1; cases e1
        rw [Phi.upd_other _ _ c2] at e2
        cases h1
        have:=halias b2 k2 x2 h2 e2 hw.symm
        exact ⟨this.1.symm,this.2.symm⟩
    · rename_i c1
      rw [Phi.upd_other _ _ c1] at e1
      split at h2
      · rename_i c2
        subst c2
        rw [Phi.upd_same] at e2; cases e2
        cases h2
        exact halias b1 k1 x1 h1 e1 hw
      · rename_i c2
        rw [Phi.upd_other _ _ c2] at e2
        exact r.alias b1 b2 k1 k2 x1 x2 h1 h2 e1 e2 hw
  grp b k hb:=by
    simp only [T.get_set] at hb
    split at hb
    · rename_i c1
      cases hb
      subst c1
      exact .inr hself
    · exact hgr b k hb
  ros:=r.ros
  rest:=r.rest.keep (fun _ _ _ => rfl) rfl rfl fun b y ds hy hd => by
    by_cases e' : b = h.nb
    · subst e'
      rw [Phi.upd_same] at hy
      cases hy
      rw [hnf] at hd; cases hd
    · rw [Phi.upd_other _ _ e'] at hy
      exact (r.rest.frz _ _ hd).2 b y hy rfl
theorem write_ext {wb q : Nat} {c : Array Value} {e : TypeId} {fz : Nat × Nat} {ys : List Value} {b : Nat} {x : Nat × Nat × Nat} (hx : φ b = some x) (hxb : x.1 = wb) (hro : φ.ro wb = false)
    (hc : W.heap[wb]? = some (.cells c e fz)) (hfit : q + ys.length ≤ c.size) : Ext φ W (W.setCells wb q ys):=by
  obtain ⟨c',h1,h2,h3,h4,h5,h6,h7⟩:=setCells_heap wb ys q W c e fz hc hfit
  refine ⟨by rw [h4]; exact Nat.le_refl _,fun k _ hk _ => h3 k (fun e => by have:=hk b x hx (by rw [hxb,e]); rw [e,hro] at this; cases this),fun k ck ek fk hk => ?_,h5,h6,h7⟩
  by_cases hkb : k = wb
  · subst hkb
    rw [hc] at hk
    cases hk
    refine ⟨c',h1,?_⟩
    have:=congrArg List.length h2
    simpa [length_putN] using this
  · exact ⟨ck,by rw [h3 k hkb]; exact hk,rfl⟩
theorem poisonL_less {skip pos n : Nat} {l : List Nat} : Less h ⟨h.nb,poisonL skip pos n l h.bl,h.gr,h.tk⟩ where
  nb:=rfl
  gr:=rfl
  tk:=rfl
  get b k' hb:=by
    obtain ⟨k,hk,hh⟩:=(poisonL_ok skip pos n l h.bl).2 b k' hb
    refine ⟨k,hk,?_⟩
    rcases hh with ⟨_,rfl⟩ | ⟨_,⟨_,rfl⟩ | ⟨_,hp⟩⟩
    · exact ⟨rfl,rfl,rfl,fun j v hv => .inr hv⟩
    · exact ⟨rfl,rfl,rfl,fun j v hv => .inr hv⟩
    · exact ⟨hp.grp,hp.dl,hp.len,fun j v hv => (hp.get j v hv).imp id (·.1)⟩
theorem stn_ok (r : RW φ h W) {b o : Nat} {vs : List V} {h' : H} (hs : h.stn b o vs = some h') {x : Nat × Nat × Nat} (hx : φ b = some x) {ys : List Value} (hr : RVs φ vs ys) (ho : vs.all one = true) :
    ∃ W',(storeCells ⟨x.1,x.2.1 + o,none⟩ ys).run P W = .ok () W' ∧ RW φ h' W' ∧ Ext φ W W':=by
  unfold H.stn at hs
  split at hs
  · cases hs
  rename_i k hk
  simp only [cond_eq_ite,Bool.and_eq_true,Nat.ble_eq,Nat.blt_eq,len_eq] at hs
  split at hs
  case isFalse => cases hs
  rename_i hfit0
  obtain ⟨hfit,hlow⟩:=hfit0
  obtain ⟨x',c,e,fz,hx',hc,h1,h2,h3,h4⟩:=r.blk b k hk
  rw [hx] at hx'; cases hx'
  obtain ⟨hro,h3⟩ : φ.ro x.1 = false ∧ (fz.2 ≤ fz.1 ∨ c.size ≤ fz.1):=by
    rcases h3 with h3 | h3
    · omega
    · exact h3
  have hyl:=hr.length
  have hfit' : x.2.1 + o + ys.length ≤ c.size:=by omega
  have hcell : ∀ j,j < ys.length → (W.cell? ⟨x.1,x.2.1 + o + 0 + j,none⟩).isSome = true:=by
    intro j hj
    have : x.2.1 + o + j < c.size:=by omega
    simp [World.cell?,hc,this]
  have hfro : ∀ j,j < ys.length → W.frozen? ⟨x.1,x.2.1 + o + 0 + j,none⟩ = false:=by
    intro j hj
    simp only [World.frozen?,hc,Nat.add_zero,Bool.and_eq_false_iff,decide_eq_false_iff_not]
    omega
  have h1c : ∀ y ∈ ys,y.oneCell' = true:=by
    intro y hy
    obtain ⟨j,hj⟩:=List.getElem?_of_mem hy
    have hjl : j < vs.length:=by
      obtain ⟨hlt,_⟩:=List.getElem?_eq_some_iff.1 hj
      omega
    obtain ⟨y',hy',hry⟩:=hr.get (List.getElem?_eq_getElem hjl)
    rw [hj] at hy'; cases hy'
    exact (hry.oneCell (get_of_all ho (List.getElem?_eq_getElem hjl))).1
  have hrun:=run_storeCells_cells (P:=P) x.1 (x.2.1 + o) ys 0 W hcell hfro h1c
  rw [Nat.add_zero] at hrun
  refine ⟨_,hrun,?_,write_ext hx rfl hro hc hfit'⟩
  obtain ⟨c',g1,g2,g3,g4,_⟩:=setCells_heap x.1 ys (x.2.1 + o) W c e fz hc hfit'
  have hnf : φ.fz x.1 = none:=by
    cases ee : φ.fz x.1 with
    | none => rfl
    | some ds => exact ((r.rest.frz _ _ ee).2 b x hx rfl).elim
  -- what stands in the written block
  have own : ∀ (j : Nat) (v : V),(putN k.cells o vs)[j]? = some v → v = .z ∨ (k.cells[j]? = some v ∧ (x.1 = x.1 → ¬ (x.2.1 + o ≤ x.2.1 + j ∧ x.2.1 + j < x.2.1 + o + ys.length))) ∨ (x.1 = x.1 ∧ x.2.1 + o ≤ x.2.1 + j ∧ one v = true ∧ ∃ y,ys[x.2.1 + j - (x.2.1 + o)]? = some y ∧ RV φ v y):=by
    intro j v hv
    rw [get_putN] at hv
    split at hv
    · rename_i hcj
      obtain ⟨y,hy,hry⟩:=hr.get hv
      exact .inr (.inr ⟨rfl,by omega,get_of_all ho hv,y,by rw [show x.2.1 + j - (x.2.1 + o) = j - o by omega]; exact hy,hry⟩)
    · rename_i hcj
      refine .inr (.inl ⟨hv,fun _ hh => hcj ⟨by omega,by omega,?_⟩⟩)
      obtain ⟨hlt,_⟩:=List.getElem?_eq_some_iff.1 hv
      exact hlt
  split at hs
  · rename_i hgr
    cases hs
    refine r.write (wb:=x.1) hc g1 g2 hfit' g3 g4 rfl rfl rfl hnf fun b2 k' hb2 => ?_
    simp only [T.get_set] at hb2
    split at hb2
    · rename_i e2
      cases hb2
      subst e2
      refine ⟨k,hk,rfl,rfl,length_putN _ _ _,fun y j v hy hv => ?_⟩
      rw [hx] at hy; cases hy
      exact own j v hv
    · rename_i e2
      refine ⟨k',hb2,rfl,rfl,rfl,fun y j v hy hv => .inr (.inl ⟨hv,fun hw => ?_⟩)⟩
      obtain ⟨hg,_⟩:=r.alias b2 b k' k y x hb2 hk hy hx hw
      rcases r.grp b k hk with h' | ⟨l,hl,_⟩
      · rcases r.grp b2 k' hb2 with h'' | ⟨l,hl,_⟩
        · exact (e2 (by omega)).elim
        · rw [hg,hgr] at hl; cases hl
      · rw [hgr] at hl; cases hl
  · rename_i l hgr
    cases hs
    refine r.write (wb:=x.1) hc g1 g2 hfit' g3 g4 rfl rfl rfl hnf fun b2 k' hb2 => ?_
    obtain ⟨k2,hk2,hh⟩:=(poisonL_ok b (k.dl + o) vs.length (k.grp :: l) _).2 b2 k' hb2
    rw [T.get_set] at hk2
    by_cases e2 : b2 = b
    · subst e2
      rw [if_pos rfl] at hk2
      cases hk2
      refine ⟨k,hk,?_⟩
      rcases hh with ⟨_,rfl⟩ | ⟨hne,_⟩
      · refine ⟨rfl,rfl,length_putN _ _ _,fun y j v hy hv => ?_⟩
        rw [hx] at hy; cases hy
        exact own j v hv
      · exact (hne rfl).elim
    · rw [if_neg e2] at hk2
      refine ⟨k2,hk2,?_⟩
      rcases hh with ⟨e',_⟩ | ⟨_,⟨hm,rfl⟩ | ⟨hm,hp⟩⟩
      · exact (e2 e').elim
      · refine ⟨rfl,rfl,rfl,fun y j v hy hv => .inr (.inl ⟨hv,fun hw => ?_⟩)⟩
        obtain ⟨hg,_⟩:=r.alias b2 b k' k y x hk2 hk hy hx hw
        refine (hm ?_).elim
        rcases r.grp b2 k' hk2 with h'' | ⟨l',hl,hml⟩
        · rw [h'',hg]; simp
        · rw [hg,hgr] at hl; cases hl; simp [hml]
      · refine ⟨hp.grp,hp.dl,hp.len,fun y j v hy hv => ?_⟩
        rcases hp.get j v hv with hz | ⟨hv',hnot⟩
        · exact .inl hz
        · refine .inr (.inl ⟨hv',fun hw hh => hnot ?_⟩)
          obtain ⟨_,ha⟩:=r.alias b2 b k2 k y x hk2 hk hy hx hw
          omega
end
end Go.Ev
namespace Go.Ev
section
variable {P : Program} {W : World}
theorem run_append_in (t u ty e e' : TypeId) (i : TypeInfo) (ht : P.underlying t = some (.slice e)) (hu : P.underlying u = some (.slice e')) (hi : P.info? e = some i)
    (b : Addr) (l c : Nat) (src : Value) (n : Nat) (new : Array Value) (W' : World) (hn : (Builtin.lenOf src).run P W = .ok n W) (hf : (Builtin.firstCells i.size n src).run P W = .ok new W)
    (hfit : l + n ≤ c) (hs : (storeCells (b.add (l * i.size)) new.toList).run P W = .ok () W') :
    (Builtin.append_ #[t,u] ty #[.slice (some b) l c,src]).run P W = .ok (.slice (some b) (l + n) c) W':=by
  simp [Builtin.append_,run_underlying ht,run_underlying hu,sizeOf,typeInfo,hi,hn,hfit,hf,hs]
theorem run_append_nothing (t u ty e e' : TypeId) (i : TypeInfo) (ht : P.underlying t = some (.slice e)) (hu : P.underlying u = some (.slice e')) (hi : P.info? e = some i)
    (b : Option Addr) (l c : Nat) (src : Value) (hn : (Builtin.lenOf src).run P W = .ok 0 W) (hf : (Builtin.firstCells i.size 0 src).run P W = .ok #[] W) (hlc : l ≤ c) :
    (Builtin.append_ #[t,u] ty #[.slice b l c,src]).run P W = .ok (.slice b l c) W:=by
  cases b <;> simp [Builtin.append_,run_underlying ht,run_underlying hu,sizeOf,typeInfo,hi,hn,hf,hlc,storeCells]
theorem run_append_new (t u ty e e' : TypeId) (i : TypeInfo) (z : Value) (ht : P.underlying t = some (.slice e)) (hu : P.underlying u = some (.slice e')) (hi : P.info? e = some i) (hz : i.zero = some z)
    (b : Option Addr) (l c : Nat) (src : Value) (n : Nat) (old new : Array Value) (hn : (Builtin.lenOf src).run P W = .ok n W)
    (ho : (Builtin.firstCells i.size l (.slice b l c)).run P W.drew = .ok old W.drew) (hf : (Builtin.firstCells i.size n src).run P W.drew = .ok new W.drew)
    (hg : c < l + n) (h63 : ((l + n : Nat) : Int) ≤ 9223372036854775807) (hfit : Builtin.nextslicecap (l + n) c * i.bytes ≤ 281474976710656) :
    (Builtin.append_ #[t,u] ty #[.slice b l c,src]).run P W =
      .ok (.slice (some ⟨W.heap.size,0,none⟩) (l + n) (grownCap W (l + n) c e))
        (W.drew.alloc (.cells (old ++ new ++ Builtin.zeroCells z.cells (grownCap W (l + n) c e - (l + n))) e)):=by
  have hn' : ¬ (l + n ≤ c):=by omega
  have h63' : ¬ (9223372036854775807 < ((l : Int) + (n : Int))):=by omega
  have h48' : ¬ (281474976710656 < Builtin.nextslicecap (l + n) c * i.bytes):=by omega
  simp [Builtin.append_,run_underlying ht,run_underlying hu,sizeOf,typeInfo,zeroValue,hi,hz,hn,hn',h63',h48',Question.forced,hf,ho,newRow,grownCap]
theorem grownCap_ge (w : World) (need old : Nat) (e : TypeId) : need ≤ grownCap w need old e:=by
  unfold grownCap
  simp only [Question.cut]
  omega
theorem run_appendZ_in (t u ty e : TypeId) (k : IntKind) (i : TypeInfo) (z : Value) (ht : P.underlying t = some (.slice e)) (hu : P.underlying u = some (.int k)) (hi : P.info? e = some i) (hz : i.zero = some z)
    (b : Addr) (l c : Nat) (kx : IntKind) (n : Nat) (W' : World) (hn : n ≤ 4294967295) (hb : n * i.bytes ≤ 281474976710656) (hns : n * i.size ≠ 0)
    (hfit : l + n ≤ c) (hs : (storeCells (b.add (l * i.size)) (Builtin.zeroCells z.cells n).toList).run P W = .ok () W') :
    (Builtin.append_ #[t,u] ty #[.slice (some b) l c,.int kx (n : Int)]).run P W = .ok (.slice (some b) (l + n) c) W':=by
  have w1 : IntKind.i64.wrap (n : Int) = n:=IntWalk.i64_in _ (by omega)
  have w2 : ¬ ((n : Int) < 0):=by omega
  have w3 : ¬ (281474976710656 < (n : Int) * (i.bytes : Int)):=by
    rw [← Int.natCast_mul]; exact Int.not_lt.2 (Int.ofNat_le.2 hb)
  simp [Builtin.append_,run_underlying ht,run_underlying hu,sizeOf,typeInfo,zeroValue,hi,hz,asInt,asIntOf,w1,w2,w3,hfit,hns,hs]
theorem run_appendZ_nothing (t u ty e : TypeId) (k : IntKind) (i : TypeInfo) (ht : P.underlying t = some (.slice e)) (hu : P.underlying u = some (.int k)) (hi : P.info? e = some i)
    (b : Option Addr) (l c : Nat) (kx : IntKind) (hlc : l ≤ c) :
    (Builtin.append_ #[t,u] ty #[.slice b l c,.int kx 0]).run P W = .ok (.slice b l c) W:=by
  have w1 : IntKind.i64.wrap (0 : Int) = 0:=IntWalk.i64_in _ (by omega)
  cases b <;> simp [Builtin.append_,run_underlying ht,run_underlying hu,sizeOf,typeInfo,hi,asInt,asIntOf,w1,hlc,storeCells]
theorem run_appendZ_new (t u ty e : TypeId) (k : IntKind) (i : TypeInfo) (z : Value) (ht : P.underlying t = some (.slice e)) (hu : P.underlying u = some (.int k)) (hi : P.info? e = some i) (hz : i.zero = some z)
    (b : Option Addr) (l c : Nat) (kx : IntKind) (n : Nat) (old : Array Value) (hn : n ≤ 4294967295) (hb : n * i.bytes ≤ 281474976710656) (hns : n * i.size ≠ 0)
    (ho : (Builtin.firstCells i.size l (.slice b l c)).run P W.drew = .ok old W.drew)
    (hg : c < l + n) (h63 : ((l + n : Nat) : Int) ≤ 9223372036854775807) (hfit : Builtin.nextslicecap (l + n) c * i.bytes ≤ 281474976710656) :
    (Builtin.append_ #[t,u] ty #[.slice b l c,.int kx (n : Int)]).run P W =
      .ok (.slice (some ⟨W.heap.size,0,none⟩) (l + n) (grownCap W (l + n) c e))
        (W.drew.alloc (.cells (old ++ Builtin.zeroCells z.cells n ++ Builtin.zeroCells z.cells (grownCap W (l + n) c e - (l + n))) e)):=by
  have w1 : IntKind.i64.wrap (n : Int) = n:=IntWalk.i64_in _ (by omega)
  have w2 : ¬ ((n : Int) < 0):=by omega
  have w3 : ¬ (281474976710656 < (n : Int) * (i.bytes : Int)):=by
    rw [← Int.natCast_mul]; exact Int.not_lt.2 (Int.ofNat_le.2 hb)
  have hn' : ¬ (l + n ≤ c):=by omega
  have h63' : ¬ (9223372036854775807 < ((l : Int) + (n : Int))):=by omega
  have h48' : ¬ (281474976710656 < Builtin.nextslicecap (l + n) c * i.bytes):=by omega
  simp [Builtin.append_,run_underlying ht,run_underlying hu,sizeOf,typeInfo,zeroValue,hi,hz,asInt,asIntOf,w1,w2,w3,hn',h63',h48',hns,Question.forced,ho,newRow,grownCap]
end
structure AppRuns (P : Program) (m : Sem Value) (b : Option Addr) (l c sz n : Nat) (new : List Value) (bytes : Nat) (e : TypeId) (z : Value) (W : World) : Prop where
  nothing : n = 0 → l ≤ c → m.run P W = .ok (.slice b l c) W
  room : ∀ (q : Addr) (W' : World),b = some q → 0 < n → l + n ≤ c → (storeCells (q.add (l * sz)) new).run P W = .ok () W' → m.run P W = .ok (.slice b (l + n) c) W'
  grown : ∀ (old : List Value),0 < n → c < l + n → (Builtin.firstCells sz l (.slice b l c)).run P W.drew = .ok old.toArray W.drew → (l + n) * bytes ≤ 140737488355328 → l + n ≤ 4294967295 →
    ∃ more : List Value,∃ cap,l + n ≤ cap ∧ more.length = (cap - (l + n)) * sz ∧ m.run P W = .ok (.slice (some ⟨W.heap.size,0,none⟩) (l + n) cap) (W.drew.alloc (.cells (old ++ new ++ more).toArray e))
section
variable {P : Program} {φ : Phi} {h : H} {W : World}
theorem zero_length (z : Array Value) (n : Nat) : (Builtin.zeroCells z n).toList.length = n * z.size:=by simp [Builtin.zeroCells]
theorem first_ok {b o l sz : Nat} {old : List V} (r : RW φ h W) (hold : (bif Nat.beq l 0 then some [] else h.ldn b o (l * sz)) = some old) {x : Nat × Nat × Nat} (hx : φ b = some x) {o' c' : Nat}
    (hat : 0 < l → o' = x.2.1 + o) :
    ∃ ys : List Value,ys.length = l * sz ∧ RVs φ old ys ∧ old.all one = true ∧ (Builtin.firstCells sz l (.slice (some ⟨x.1,o',none⟩) l c')).run P W.drew = .ok ys.toArray W.drew:=by
  simp only [cond_eq_ite,Nat.beq_eq] at hold
  split at hold
  · rename_i hl
    cases hold
    subst hl
    refine ⟨[],by simp,by simp [RVs],rfl,?_⟩
    exact run_firstCells_some W.drew sz 0 _ _ _ [] (by simp) (fun j v hv => by simp at hv)
  · rename_i hl
    obtain ⟨ys,h1,h2,h3,h4⟩:=ldn_ok r hold hx
    rw [← hat (by omega)] at h4
    exact ⟨ys,h1,h2,h3,run_firstCells_some W.drew sz l _ _ _ ys h1 (fun j v hv => by simpa using h4 j v hv)⟩
theorem append_ok (r : RW φ h W) {X v : V} {sz bytes n : Nat} {new : List V} {h' : H} (ha : h.append X sz bytes n new = some (v,h')) {zx : Value} (hX : RV φ X zx) (hsz : 1 ≤ sz) {ys : List Value} (hys : ys.length = n * sz) (hnew : RVs φ new ys) (hone : new.all one = true)
    {m : Sem Value} {e : TypeId} {z : Value} (_ : z.cells.size = sz) (hm : ∀ b l c,zx = .slice b l c → AppRuns P m b l c sz n ys bytes e z W) :
    ∃ φ' q W',m.run P W = .ok q W' ∧ RV φ' v q ∧ RW φ' h' W' ∧ Grow φ φ' W ∧ Ext φ W W':=by
  unfold H.append at ha
  simp only [cond_eq_ite,Nat.beq_eq] at ha
  split at ha
  · -- nothing is appended
    rename_i hn
    split at ha
    · cases ha
      have hX':=hX
      simp only [RV] at hX
      exact ⟨φ,_,W,(hm _ _ _ hX).nothing hn (Nat.le_refl _),by simp only [RV],r,Grow.refl _ _,Ext.refl _ _⟩
    · cases ha
      have hX':=hX
      simp only [RV] at hX
      obtain ⟨x,o',c',hx,he,h1,h2,h3,h4⟩:=hX
      refine ⟨φ,_,W,(hm _ _ _ he).nothing hn (by omega),?_,r,Grow.refl _ _,Ext.refl _ _⟩
      rw [← he]; exact hX'
    · cases ha
      have hX':=hX
      simp only [RV] at hX
      obtain ⟨_,_,_,p,c',he,h1,_⟩:=hX
      refine ⟨φ,_,W,(hm _ _ _ he).nothing hn h1,?_,r,Grow.refl _ _,Ext.refl _ _⟩
      rw [← he]; exact hX'
    · cases ha
  rename_i hn
  have newAt : ∀ (W1 : World) (cs : List V) (zs more : List Value) (cap need : Nat),RVs φ cs zs → cs.all one = true → W1.heap.size = W.heap.size → W1.heap = W.heap → W1.tape = W.tape → W1.os = W.os → W1.output = W.output → zs.length = need * sz → need ≤ cap → more.length = (cap - need) * sz →
      ∃ φ',RV φ' (.sl h.nb 0 need need sz false) (.slice (some ⟨W.heap.size,0,none⟩) need cap) ∧ RW φ' (h.alloc cs) (W1.alloc (.cells (zs ++ more).toArray e)) ∧ Grow φ φ' W ∧ Ext φ W (W1.alloc (.cells (zs ++ more).toArray e)):=by
    intro W1 cs zs more cap need hr ho hs hh ht hos hou hzl hnc hmore
    have hm1:=made_alloc (ψ:=φ) e hr ho W1 more
    obtain ⟨g1,g2,g3⟩:=(r.drawn (W':=W1) hh).made hm1
    have hsz' : (zs ++ more).toArray.size = cap * sz:=by
      simp only [List.size_toArray,List.length_append,hzl,hmore]
      rw [← Nat.add_mul]; congr 1; omega
    refine ⟨_,?_,g1,⟨g2.le,fun b x hb hlt => g2.new b x hb (by omega),fun wb h1 h2 => g2.own wb h1 (by omega),fun x ds h1 h2 => g2.frz x ds h1 (by omega)⟩,?_⟩
    · simp only [RV]
      refine ⟨_,0,cap,Phi.upd_same _ _ _,by rw [hs],Nat.le_refl _,hnc,(fun h => by cases h),hsz,.inr ⟨rfl,by simp only [hsz']; omega⟩⟩
    · exact ⟨by rw [← hs]; exact g3.size,fun wb hwb hout how => by rw [g3.out wb (by omega) hout how,hh],fun wb c e fz hc => g3.shape wb c e fz (by rw [hh]; exact hc),g3.tape.trans ht,g3.os.trans hos,g3.output.trans hou⟩
  split at ha
  · -- nil
    simp only [Bool.and_eq_true,Nat.ble_eq] at ha
    split at ha
    · rename_i hb
      cases ha
      simp only [RV] at hX
      have hA:=hm _ _ _ hX
      obtain ⟨more,cap,hc,hmore,hrun⟩:=hA.grown [] (by omega) (by omega) (by rw [run_firstCells_none]) (by simpa using hb.1) (by simpa using hb.2)
      rw [Nat.zero_add,List.nil_append] at *
      obtain ⟨φ',q1,q2,q3,q4⟩:=newAt W.drew new ys more cap n hnew hone rfl rfl rfl rfl rfl hys (by omega) hmore
      exact ⟨φ',_,_,hrun,q1,q2,q3,q4⟩
    · cases ha
  · rename_i b o l c sz' ex
    split at ha
    case isFalse => cases ha
    rename_i hszz
    subst hszz
    have hX':=hX
    simp only [RV] at hX
    obtain ⟨x,o',c',hx,he,hlc,hcc,hex,_,hat⟩:=hX
    have hA:=hm _ _ _ he
    simp only [Nat.ble_eq] at ha
    split at ha
    · -- there is room
      rename_i hfit
      split at ha
      · rename_i h2 hst
        cases ha
        obtain ⟨rfl,hat2⟩ : o' = x.2.1 + o ∧ o + c' * sz ≤ x.2.2:=by
          rcases hat with hat | hat
          · omega
          · exact hat
        obtain ⟨W',hs,hr',hext⟩:=stn_ok (P:=P) r hst hx hnew hone
        refine ⟨φ,_,W',hA.room _ W' rfl (by omega) (by omega) (by rw [add_off,Nat.add_assoc]; exact hs),?_,hr',Grow.refl _ _,hext⟩
        simp only [RV]
        exact ⟨x,_,c',hx,rfl,hfit,hcc,hex,hsz,.inr ⟨rfl,hat2⟩⟩
      · cases ha
    · rename_i hfit
      simp only [Bool.and_eq_true,Nat.ble_eq] at ha
      split at ha
      case isFalse => cases ha
      rename_i hb
      split at ha
      · cases ha
      rename_i old hold
      have hat0 : 0 < l → o' = x.2.1 + o:=fun hl => by
        rcases hat with hat | hat
        · omega
        · exact hat.1
      obtain ⟨os,hol,hor,hoo,hfirst⟩:=first_ok (P:=P) (c':=c') r (by simpa only [cond_eq_ite,Nat.beq_eq] using hold) hx hat0
      have hcat : RVs φ (app old new) (os ++ ys):=by rw [app_eq]; exact hor.append hnew
      have hcone : (app old new).all one = true:=by rw [app_eq,List.all_append,hoo,hone]; rfl
      have hclen : (os ++ ys).length = (l + n) * sz:=by rw [List.length_append,hol,hys,← Nat.add_mul]
      split at ha
      · -- the capacity is known: it grows
        rename_i hext
        cases ha
        have hc':=hex hext
        obtain ⟨more,cap,hcap,hmore,hrun⟩:=hA.grown os (by omega) (by omega) hfirst hb.1 hb.2
        obtain ⟨φ',q1,q2,q3,q4⟩:=newAt W.drew (app old new) (os ++ ys) more cap (l + n) hcat hcone rfl rfl rfl rfl rfl hclen hcap hmore
        exact ⟨φ',_,_,hrun,q1,q2,q3,q4⟩
      · split at ha
        · cases ha
        rename_i k hk
        split at ha
        · cases ha
        rename_i hlow
        simp only [Option.some.injEq,Prod.mk.injEq] at ha
        obtain ⟨rfl,rfl⟩:=ha
        -- whose cells are poisoned
        generalize hmem : memOf (h.gr.get k.grp) = mem
        have hless : Less h ⟨h.nb,poisonL h.nb (k.dl + (o + l * sz)) (n * sz) (k.grp :: mem) h.bl,h.gr,h.tk⟩:=poisonL_less
        have hgr' : ∀ (b2 : Nat) (k2 : Blk),(poisonL h.nb (k.dl + (o + l * sz)) (n * sz) (k.grp :: mem) h.bl).get b2 = some k2 → b2 = k2.grp ∨ ∃ q,(h.gr.set k.grp (h.nb :: mem)).get k2.grp = some q ∧ b2 ∈ q:=by
          intro b2 k2 hb2
          obtain ⟨k3,hk3,hg3,_⟩:=hless.get b2 k2 hb2
          rw [hg3,T.get_set]
          rcases r.grp b2 k3 hk3 with h' | ⟨q,hq,hmq⟩
          · exact .inl h'
          · split
            · rename_i e3
              rw [e3] at hq
              rw [hq] at hmem
              simp only [memOf] at hmem; subst hmem
              exact .inr ⟨_,rfl,by simp [hmq]⟩
            · exact .inr ⟨q,hq,hmq⟩
        obtain ⟨xb,cb,eb,fzb,hxb,hcb,hszb,hlenb,hfzb,hcellb⟩:=r.blk b k hk
        rw [hx] at hxb; cases hxb
        obtain ⟨hro,hfzb⟩ : φ.ro x.1 = false ∧ (fzb.2 ≤ fzb.1 ∨ cb.size ≤ fzb.1):=by
          rcases hfzb with hfzb | hfzb
          · exact absurd hfzb.2 hlow
          · exact hfzb
        by_cases hroom : l + n ≤ c'
        · -- it lies where it lay
          obtain ⟨rfl,hat2⟩ : o' = x.2.1 + o ∧ o + c' * sz ≤ x.2.2:=by
            rcases hat with hat | hat
            · omega
            · exact hat
          have hspace : (l + n) * sz ≤ c' * sz:=Nat.mul_le_mul_right _ hroom
          have hadd : (l + n) * sz = l * sz + n * sz:=Nat.add_mul _ _ _
          have hfit' : x.2.1 + (o + l * sz) + ys.length ≤ cb.size:=by omega
          have hcell : ∀ j,j < ys.length → (W.cell? ⟨x.1,x.2.1 + (o + l * sz) + 0 + j,none⟩).isSome = true:=by
            intro j hj
            have : x.2.1 + (o + l * sz) + j < cb.size:=by omega
            simp [World.cell?,hcb,this]
          have hfro : ∀ j,j < ys.length → W.frozen? ⟨x.1,x.2.1 + (o + l * sz) + 0 + j,none⟩ = false:=by
            intro j hj
            simp only [World.frozen?,hcb,Nat.add_zero,Bool.and_eq_false_iff,decide_eq_false_iff_not]
            omega
          have h1c : ∀ y ∈ ys,y.oneCell' = true:=by
            intro y hy
            obtain ⟨j,hj⟩:=List.getElem?_of_mem hy
            have hjl : j < new.length:=by
              have:=hnew.length
              obtain ⟨hlt,_⟩:=List.getElem?_eq_some_iff.1 hj
              omega
            obtain ⟨y',hy',hry⟩:=hnew.get (List.getElem?_eq_getElem hjl)
            rw [hj] at hy'; cases hy'
            exact (hry.oneCell (get_of_all hone (List.getElem?_eq_getElem hjl))).1
          have hrun:=run_storeCells_cells (P:=P) x.1 (x.2.1 + (o + l * sz)) ys 0 W hcell hfro h1c
          rw [Nat.add_zero] at hrun
          obtain ⟨cb',g1,g2,g3,g4,_⟩:=setCells_heap x.1 ys (x.2.1 + (o + l * sz)) W cb eb fzb hcb hfit'
          have hgetc : ∀ i,cb'[i]? = if x.2.1 + (o + l * sz) ≤ i ∧ i < x.2.1 + (o + l * sz) + ys.length ∧ i < cb.size then ys[i - (x.2.1 + (o + l * sz))]? else cb[i]?:=by
            intro i
            have : cb'.toList[i]? = (putN cb.toList (x.2.1 + (o + l * sz)) ys)[i]?:=by rw [g2]
            rw [get_putN] at this
            simpa using this
          have hsz' : cb'.size = cb.size:=by
            have:=congrArg List.length g2
            simpa [length_putN] using this
          have hnf : φ.fz x.1 = none:=by
            cases ee : φ.fz x.1 with
            | none => rfl
            | some ds => exact ((r.rest.frz _ _ ee).2 b x hx rfl).elim
          have rw1 : RW φ ⟨h.nb,poisonL h.nb (k.dl + (o + l * sz)) (n * sz) (k.grp :: mem) h.bl,h.gr,h.tk⟩ (W.setCells x.1 (x.2.1 + (o + l * sz)) ys):=by
            refine r.write (wb:=x.1) hcb g1 g2 hfit' g3 g4 rfl rfl rfl hnf fun b2 k' hb2 => ?_
            obtain ⟨k2,hk2,hh⟩:=(poisonL_ok h.nb (k.dl + (o + l * sz)) (n * sz) (k.grp :: mem) h.bl).2 b2 k' hb2
            refine ⟨k2,hk2,?_⟩
            have hb2n : b2 ≠ h.nb:=fun e => by
              subst e
              rw [r.fresh _ (Nat.le_refl _)] at hk2; cases hk2
            rcases hh with ⟨e',_⟩ | ⟨_,⟨hmm,rfl⟩ | ⟨_,hp⟩⟩
            · exact (hb2n e').elim
            · refine ⟨rfl,rfl,rfl,fun y j v hy hv => .inr (.inl ⟨hv,fun hw => ?_⟩)⟩
              obtain ⟨hg,_⟩:=r.alias b2 b k' k y x hk2 hk hy hx hw
              refine (hmm ?_).elim
              rcases r.grp b2 k' hk2 with h'' | ⟨l',hl,hml⟩
              · rw [h'',hg]; simp
              · rw [hg] at hl
                rw [hl] at hmem
                simp only [memOf] at hmem; subst hmem
                simp [hml]
            · refine ⟨hp.grp,hp.dl,hp.len,fun y j v hy hv => ?_⟩
              rcases hp.get j v hv with hz' | ⟨hv',hnot⟩
              · exact .inl hz'
              · refine .inr (.inl ⟨hv',fun hw hh => hnot ?_⟩)
                obtain ⟨_,ha⟩:=r.alias b2 b k2 k y x hk2 hk hy hx hw
                omega
          have rw2:=rw1.addG (cs:=app old new) (gp:=k.grp) (dl:=k.dl + o) (wb:=x.1) (wo:=x.2.1 + o) (sz:=x.2.2 - o) (gr':=h.gr.set k.grp (h.nb :: mem)) g1 (.inr ⟨hro,by rw [hsz']; exact hfzb⟩) hnf (by omega)
            (by rw [hcat.length,hclen]; omega) hgr' ⟨h.nb :: mem,by simp [T.get_set],by simp⟩
            (fun b2 k2 y hb2 hy hw => by
              obtain ⟨k3,hk3,hg3,hd3,_⟩:=hless.get b2 k2 hb2
              obtain ⟨hg,ha⟩:=r.alias b2 b k3 k y x hk3 hk hy hx hw
              rw [hg3,hd3]
              exact ⟨hg,by omega⟩)
            (fun j v hv => by
              refine .inr ⟨get_of_all hcone hv,?_⟩
              obtain ⟨y,hy,hry⟩:=hcat.get hv
              refine ⟨y,?_,hry⟩
              rw [hgetc]
              have hjl : j < (os ++ ys).length:=by
                obtain ⟨hlt,_⟩:=List.getElem?_eq_some_iff.1 hy
                exact hlt
              by_cases hjo : j < os.length
              · rw [if_neg (by omega)]
                rw [List.getElem?_append_left hjo] at hy
                -- an old cell
                have hjold : j < old.length:=by rw [hor.length]; exact hjo
                have hl0 : l ≠ 0:=fun e => by subst e; simp at hol; rw [hol] at hjo; simp at hjo
                rw [if_neg hl0] at hold
                obtain ⟨ys2,a1,a2,a3,a4⟩:=ldn_ok r hold hx
                -- the cells that were read are those
                have hfc:=run_firstCells_some (P:=P) W.drew sz l ⟨x.1,x.2.1 + o,none⟩ l c' ys2 a1 (fun j v hv => by simpa using a4 j v hv)
                rw [hfirst] at hfc
                simp only [Result.ok.injEq,and_true] at hfc
                have hyy : os = ys2:=by
                  have:=congrArg Array.toList hfc
                  simpa using this
                subst hyy
                have:=a4 j y hy
                rw [add_off] at this
                simpa [World.cell?,hcb] using this
              · rw [List.length_append] at hjl
                rw [if_pos (by omega)]
                rw [List.getElem?_append_right (by omega)] at hy
                rw [← hy]; congr 1; omega)
          refine ⟨_,_,_,hA.room _ _ rfl (by omega) hroom (by rw [add_off,Nat.add_assoc]; exact hrun),?_,rw2,?_,write_ext hx rfl hro hcb hfit'⟩
          · simp only [RV]
            refine ⟨_,x.2.1 + o,c',Phi.upd_same _ _ _,rfl,Nat.le_refl _,hroom,(fun h => by cases h),hsz,.inr ⟨rfl,?_⟩⟩
            show 0 + c' * sz ≤ x.2.2 - o
            omega
          · refine ⟨Phi.le_upd _ (r.none_nb (Nat.le_refl _)),fun b2 y hy hlt => ?_,fun _ h _ => h,fun _ ds h _ => .inl h⟩
            by_cases e2 : b2 = h.nb
            · subst e2
              rw [Phi.upd_same] at hy; cases hy
              exact ⟨b,x,hx,rfl⟩
            · rw [Phi.upd_other _ _ e2] at hy
              exact ⟨b2,y,hy,rfl⟩
        · -- it is laid anew
          obtain ⟨more,cap,hcap,hmore,hrun⟩:=hA.grown os (by omega) (by omega) hfirst hb.1 hb.2
          have hm1:=made_alloc (ψ:=φ) e hcat hcone W.drew more
          have rl : RW φ ⟨h.nb,poisonL h.nb (k.dl + (o + l * sz)) (n * sz) (k.grp :: mem) h.bl,h.gr,h.tk⟩ W.drew:=(r.less hless).drawn rfl
          obtain ⟨e',fz',hat',hfz'⟩:=hm1.at_
          have rp:=rl.push hm1.old (by rw [hm1.size]; omega)
          have hsz' : (os ++ ys ++ more).toArray.size = cap * sz:=by
            simp only [List.size_toArray,List.length_append (bs:=more),hclen,hmore]
            rw [← Nat.add_mul]; congr 1; omega
          have rw2:=rp.addG (cs:=app old new) (gp:=k.grp) (dl:=k.dl + o) (wb:=W.heap.size) (wo:=0) (sz:=cap * sz) (gr':=h.gr.set k.grp (h.nb :: mem)) hat' (.inr ⟨r.soft_new (Nat.le_refl _),hfz'⟩)
            (by
              cases ee : φ.fz W.heap.size with
              | none => rfl
              | some ds => have:=r.rest.lt ee; omega) (by rw [hsz']; omega)
            (by rw [hcat.length,hclen]; exact Nat.mul_le_mul_right _ hcap) hgr' ⟨h.nb :: mem,by simp [T.get_set],by simp⟩
            (fun b2 k2 y hb2 hy hw => by have:=(r.img b2 y hy).2; omega)
            (fun j v hv => by
              obtain ⟨h1,y,hy,hr⟩:=hm1.cells j v hv
              exact .inr ⟨h1,y,by rw [Nat.zero_add]; exact hy,hr⟩)
          refine ⟨_,_,_,hrun,?_,rw2,?_,?_⟩
          · simp only [RV]
            refine ⟨_,0,cap,Phi.upd_same _ _ _,rfl,Nat.le_refl _,hcap,(fun h => by cases h),hsz,.inr ⟨rfl,?_⟩⟩
            show 0 + cap * sz ≤ cap * sz
            omega
          · exact grow_upd r (Nat.le_refl _)
          · have g3:=Made.ext (φ:=φ) hm1
            exact ⟨g3.size,fun wb hwb hout how => g3.out wb hwb hout how,fun wb c e fz hc => g3.shape wb c e fz hc,g3.tape,g3.os,g3.output⟩
  · -- a frozen slice,of which the capacity is known
    rename_i l sz' cs
    simp only [Bool.and_eq_true,Nat.beq_eq,Nat.ble_eq] at ha
    split at ha
    case isFalse => cases ha
    rename_i hb
    obtain ⟨hszz,hb⟩:=hb
    subst hszz
    cases ha
    simp only [RV,MdOK] at hX
    obtain ⟨k0,k1,k2,p,c',he,k4,k5,k6,k7,k8⟩:=hX
    have hA:=hm _ _ _ he
    obtain ⟨os,hol,hor,hfirst⟩ : ∃ os : List Value,os.length = l * sz ∧ RVs φ cs os ∧ (Builtin.firstCells sz l (.slice p l c')).run P W.drew = .ok os.toArray W.drew:=by
      rcases k7 with k7 | ⟨x,o,ds,rfl,q1,q2,q3⟩
      · subst k7
        have hc : cs = []:=List.eq_nil_of_length_eq_zero (by omega)
        subst hc
        refine ⟨[],by simp,by simp [RVs],?_⟩
        cases p with
        | none => exact run_firstCells_none _ _ _ _ _
        | some q => exact run_firstCells_some W.drew sz 0 _ _ _ [] (by simp) (fun j v hv => by simp at hv)
      · refine ⟨_,?_,q3,run_firstCells_some W.drew sz l _ _ _ _ ?_ (fun j v hv => ?_)⟩
        · rw [List.length_take,List.length_drop]; omega
        · rw [List.length_take,List.length_drop]; omega
        · have:=frz_cells r q1 q2 hv
          simpa using this
    obtain ⟨more,cap,hcap,hmore,hrun⟩:=hA.grown os (by omega) (by omega) hfirst hb.1 hb.2
    have hcat : RVs φ (app cs new) (os ++ ys):=by rw [app_eq]; exact hor.append hnew
    have hcone : (app cs new).all one = true:=by rw [app_eq,List.all_append,pureL_one k0,hone]; rfl
    have hclen : (os ++ ys).length = (l + n) * sz:=by rw [List.length_append,hol,hys,← Nat.add_mul]
    obtain ⟨φ',q1,q2,q3,q4⟩:=newAt W.drew (app cs new) (os ++ ys) more cap (l + n) hcat hcone rfl rfl rfl rfl rfl hclen hcap hmore
    exact ⟨φ',_,_,hrun,q1,q2,q3,q4⟩
  · cases ha
end
end Go.Ev
namespace Go.Ev
def CPost (φ : Phi) (W : World) (r : V) (h' : H) : Ending → World → Prop
  | .returned z,W' => ∃ φ',RV φ' r z ∧ RW φ' h' W' ∧ Grow φ φ' W ∧ Ext φ W W'
  | _,_ => False
def Enters (P : Program) (f : Nat) : Prop:=∃ fn,P.funcs[f]? = some fn ∧ fn.body.isNone = false ∧ (fn.name == "runtime.NumGoroutine") = false
def CallOK (P : Program) (G : GL) (call : Call) : Prop:=∀ f args h r h',call f args h = some (r,h') → Enters P f ∧
  ∀ (φ : Phi) (W : World) (vs : Array Value),GOK G φ → RVs φ args vs.toList → RW φ h W → Calls P f vs W (CPost φ W r h')
section
variable {P : Program} {G : GL} {call : Call} {nt : Nat} {φ : Phi} {h h' : H} {W : World} {env : Env} {a : Act} {v : V}
  {K : Act → World → Prop} {Q : Exit → Act → World → Prop} {o : Oper}
theorem upon_value {z : Value} {W' : World} (hr : (execOp a.eval o).run P W = .ok (.value z) W') (hK : K (a.put o.dst z) W') : o.wp P a W K Q:=by
  unfold Oper.wp; rw [hr]; exact hK
theorem upon_skip {W' : World} (hr : (execOp a.eval o).run P W = .ok .skip W') (hK : K (a.put o.dst undef) W') : o.wp P a W K Q:=by
  unfold Oper.wp; rw [hr]; exact hK
theorem run_callFunc {f : Nat} (he : Enters P f) (args : Array Value) (W : World) : (callFunc f args).run P W = .ok (.enter f args) W:=by
  obtain ⟨fn,hf,hb,hn⟩:=he
  have hn' : ¬ fn.name = "runtime.NumGoroutine":=by simpa using hn
  have hb' : ¬ fn.body = none:=by
    intro e; rw [e] at hb; cases hb
  simp [callFunc,hf,hb',hn']
theorem upon_call {f : Nat} {args : Array Value} {φ : Phi} {r : V} (hr : (execOp a.eval o).run P W = .ok (.enter f args) W) (hc : Calls P f args W (CPost φ W r h'))
    (hK : ∀ φ' z W',RV φ' r z → RW φ' h' W' → Grow φ φ' W → Ext φ W W' → K (a.put o.dst z) W') : o.wp P a W K Q:=by
  unfold Oper.wp; rw [hr]
  show Calls P f args W _
  refine hc.mono fun e W' he => ?_
  cases e with
  | returned z =>
    obtain ⟨φ',h1,h2,h3,h4⟩:=he
    exact hK φ' z W' h1 h2 h3 h4
  | panicked c => exact he.elim
  | outgrown => exact he.elim
theorem one_of_leaf {v : V} (h1 : ∀ cs,v ≠ .a cs) (h2 : ∀ vs,v ≠ .t vs) (h3 : v ≠ .u) (h4 : v ≠ .z) : one v = true:=by
  cases v <;> first | rfl | exact (h1 _ rfl).elim | exact (h2 _ rfl).elim | exact (h3 rfl).elim | exact (h4 rfl).elim
theorem cells_of {o : O} {cs : List V} {z : Value} (hn : o.cells env = some cs) (hr : ∀ v,o.ev env = some v → RV φ v z) : ∃ A,z = .agg A ∧ RVs φ cs A.toList ∧ cs.all one = true:=by
  unfold O.cells at hn
  split at hn
  · rename_i cs' hv
    cases hn
    have:=hr _ hv
    simpa only [RV] using this
  · cases hn
theorem e_store (r : REnv nt φ env a.tmps) (g : GOK G φ) (w : RW φ h W) {t : TypeId} {x y : Operand} (ho : o.op = .store t x y) {c : EC} (hc : cE P G (.store t x y) = some c) (hv : evE call c env h = some (v,h'))
    (hK : ∀ φ' z W',RV φ' v z → RW φ' h' W' → Grow φ φ' W → Ext φ W W' → K (a.put o.dst z) W') : o.wp P a W K Q:=by
  simp only [cE] at hc
  split at hc
  · cases hc
  rename_i p hp
  split at hc
  · cases hc
  rename_i q hq
  split at hc
  · cases hc
  rename_i n hn
  -- the store,at an address
  have key : ∀ (b oo : Nat) (cs : List V) (h2 : H),p.ev env = some (.p b oo) → h.stn b oo cs = some h2 → RVs φ cs (a.eval y).cells.toList → cs.all one = true → cs.length = n →
      ∃ W',(execOp a.eval o).run P W = .ok .skip W' ∧ RW φ h2 W' ∧ Ext φ W W':=by
    intro b oo cs h2 hb hst hcs hone hlen
    obtain ⟨x',hx',he⟩:=ptr_ok (a:=a) r g hp hb
    obtain ⟨W',hs,hr',hext⟩:=stn_ok (P:=P) w hst hx' hcs hone
    refine ⟨W',?_,hr',hext⟩
    have hsz : (a.eval y).cells.size = n:=by rw [← hlen,hcs.length]; simp
    simp only [execOp,ho]
    rw [he]
    simp only [Instr.storeAt,Instr.sureAddr,storeVar,Sem.run_bind,Sem.run_pure,Result.andThen_ok,run_sizeOf hn,hsz,ne_eq,not_true_eq_false,if_false,hs]
  split at hc
  · cases hc
    simp only [evE,evStn] at hv
    split at hv
    · rename_i b oo hb
      split at hv
      · rename_i cs hcs
        simp only [cond_eq_ite,Nat.beq_eq,len_eq] at hv
        split at hv
        · rename_i hlen
          split at hv
          · rename_i h2 hst
            cases hv
            obtain ⟨A,hA,hrA,hoA⟩:=cells_of (z:=a.eval y) hcs fun v hv => toD_ok (elemQ_pos _) hq r g hv
            obtain ⟨W',h1,h3,h4⟩:=key b oo cs h' hb hst (by rw [hA]; exact hrA) hoA hlen
            exact upon_skip h1 (hK φ _ W' (by simp only [RV]; rfl) h3 (Grow.refl _ _) h4)
          · cases hv
        · cases hv
      · cases hv
    · cases hv
  · simp only [cond_eq_ite,Nat.beq_eq] at hc
    split at hc
    · rename_i hn1
      cases hc
      simp only [evE,evSt1] at hv
      split at hv
      · rename_i b oo hb
        split at hv
        · cases hv
        · cases hv
        · cases hv
        · cases hv
        · rename_i w' ha ht hu hz hw
          split at hv
          · rename_i h2 hst
            cases hv
            have hone : one w' = true:=one_of_leaf ha ht hu hz
            have hr:=toD_ok (elemQ_pos _) hq r g hw
            obtain ⟨h1,h2'⟩:=RV.cells (one_cells hone) hr
            obtain ⟨W',g1,g3,g4⟩:=key b oo [w'] h' hb hst h1 h2' (by simp [hn1])
            exact upon_skip g1 (hK φ _ W' (by simp only [RV]; rfl) g3 (Grow.refl _ _) g4)
          · cases hv
        · cases hv
      · cases hv
    · cases hc
  · cases hc
theorem e_call (hcall : CallOK P G call) (r : REnv nt φ env a.tmps) (g : GOK G φ) (w : RW φ h W) {f : Nat} {args : Array Operand} {types : Array TypeId} (ho : o.op = .call ⟨.value (.func f),args,types⟩) {os : List O} (has : toOs G args.toList = some os)
    (hv : evCall call f os env h = some (v,h'))
    (hK : ∀ φ' z W',RV φ' v z → RW φ' h' W' → Grow φ φ' W → Ext φ W W' → K (a.put o.dst z) W') : o.wp P a W K Q:=by
  unfold evCall at hv
  split at hv
  · rename_i vs hvs
    obtain ⟨hen,hc⟩:=hcall _ _ _ _ _ hv
    have hr:=toOs_ok (a:=a) r g has hvs
    refine upon_call (φ:=φ) (r:=v) (h':=h') ?_ (hc φ W (args.map a.eval) g (by simpa using hr) w) hK
    simp only [execOp,ho,resolve,Act.eval,Deferred.ofValue,Sem.run_bind,Sem.run_pure,Result.andThen_ok,invoke,Array.empty_append,Array.append_empty]
    exact run_callFunc hen _ W
  · cases hv
theorem e_callv (hcall : CallOK P G call) (r : REnv nt φ env a.tmps) (g : GOK G φ) (w : RW φ h W) {x : Operand} {args : Array Operand} {types : Array TypeId} (ho : o.op = .call ⟨.value x,args,types⟩) {p : O} (hp : toO G x = some p) {os : List O} (has : toOs G args.toList = some os)
    (hv : evCallv call p os env h = some (v,h'))
    (hK : ∀ φ' z W',RV φ' v z → RW φ' h' W' → Grow φ φ' W → Ext φ W W' → K (a.put o.dst z) W') : o.wp P a W K Q:=by
  unfold evCallv at hv
  split at hv
  · rename_i f first cap hf
    split at hv
    · rename_i vs hvs
      obtain ⟨hen,hc⟩:=hcall _ _ _ _ _ hv
      have hr:=toOs_ok (a:=a) r g has hvs
      have hx:=toO_ok hp r g hf
      simp only [RV] at hx
      obtain ⟨A,B,he,hA,hB⟩:=hx
      refine upon_call (φ:=φ) (r:=v) (h':=h') ?_ (hc φ W (A ++ args.map a.eval ++ B) g (by
        simp only [Array.toList_append,Array.toList_map]
        rw [app_eq,app_eq,List.append_assoc]
        exact hA.append (hr.append hB)) w) hK
      simp only [execOp,ho,resolve,he,Deferred.ofValue,Sem.run_bind,Sem.run_pure,Result.andThen_ok,invoke]
      exact run_callFunc hen _ W
    · cases hv
  · cases hv
theorem lenOf_slice (p : Option Addr) (l c : Nat) : (Builtin.lenOf (.slice p l c)).run P W = .ok l W:=rfl
theorem runs_slice {t u ty e e' : TypeId} {i : TypeInfo} {z : Value} (ht : P.underlying t = some (.slice e)) (hu : P.underlying u = some (.slice e')) (hi : P.info? e = some i) (hz : i.zero = some z) (hzs : z.cells.size = i.size)
    (b : Option Addr) (l c : Nat) (p : Option Addr) (n cc : Nat) (ys : List Value) (hl : ys.length = n * i.size) (hp : p = none → n = 0)
    (hy : ∀ q,p = some q → ∀ (j : Nat) (y : Value),ys[j]? = some y → W.cell? (q.add j) = some y) :
    AppRuns P (Builtin.append_ #[t,u] ty #[.slice b l c,.slice p n cc]) b l c i.size n ys i.bytes e z W:=by
  have hfirst : ∀ W1 : World,(∀ q,W1.cell? q = W.cell? q) → (Builtin.firstCells i.size n (.slice p n cc)).run P W1 = .ok ys.toArray W1:=by
    intro W1 hW
    cases p with
    | none =>
      obtain rfl:=hp rfl
      have : ys = []:=List.eq_nil_of_length_eq_zero (by simpa using hl)
      subst this
      exact run_firstCells_none W1 _ _ _ _
    | some q => exact run_firstCells_some W1 i.size n q n cc ys hl (fun j v hv => by rw [hW]; exact hy q rfl j v hv)
  refine ⟨fun hn hlc => ?_,fun q W' hb hn hfit hs => ?_,fun old hn hg hold hb h32 => ?_⟩
  · subst hn
    have:=hfirst W (fun _ => rfl)
    have hys : ys = []:=List.eq_nil_of_length_eq_zero (by simpa using hl)
    subst hys
    exact run_append_nothing t u ty e e' i ht hu hi b l c _ (lenOf_slice p 0 cc) this hlc
  · subst hb
    exact run_append_in t u ty e e' i ht hu hi q l c _ n ys.toArray W' (lenOf_slice p n cc) (hfirst W (fun _ => rfl)) hfit (by simpa using hs)
  · refine ⟨(Builtin.zeroCells z.cells (grownCap W (l + n) c e - (l + n))).toList,grownCap W (l + n) c e,grownCap_ge _ _ _ _,?_,?_⟩
    · rw [zero_length,hzs]
    · rw [run_append_new t u ty e e' i z ht hu hi hz b l c _ n old.toArray ys.toArray (lenOf_slice p n cc) hold (hfirst W.drew (fun _ => rfl)) hg (by omega) (growslice_fits hg hb)]
      congr 3
      apply Array.ext'
      simp
theorem runs_zero {t u ty e : TypeId} {k kx : IntKind} {i : TypeInfo} {z : Value} (ht : P.underlying t = some (.slice e)) (hu : P.underlying u = some (.int k)) (hi : P.info? e = some i) (hz : i.zero = some z) (hzs : z.cells.size = i.size) (h1 : 1 ≤ i.size)
    (b : Option Addr) (l c : Nat) (n : Nat) (hn32 : n ≤ 4294967295) (hb : n * i.bytes ≤ 140737488355328) :
    AppRuns P (Builtin.append_ #[t,u] ty #[.slice b l c,.int kx (n : Int)]) b l c i.size n (Builtin.zeroCells z.cells n).toList i.bytes e z W:=by
  refine ⟨fun hn hlc => ?_,fun q W' hb' hn hfit hs => ?_,fun old hn hg hold hb' h32 => ?_⟩
  · subst hn
    exact run_appendZ_nothing t u ty e k i ht hu hi b l c kx hlc
  · subst hb'
    have hns : n * i.size ≠ 0:=Nat.ne_of_gt (Nat.mul_pos hn h1)
    exact run_appendZ_in t u ty e k i z ht hu hi hz q l c kx n W' hn32 (by omega) hns hfit hs
  · have hns : n * i.size ≠ 0:=Nat.ne_of_gt (Nat.mul_pos hn h1)
    refine ⟨(Builtin.zeroCells z.cells (grownCap W (l + n) c e - (l + n))).toList,grownCap W (l + n) c e,grownCap_ge _ _ _ _,by rw [zero_length,hzs],?_⟩
    rw [run_appendZ_new t u ty e k i z ht hu hi hz b l c kx n old.toArray hn32 (by omega) hns hold hg (by omega) (growslice_fits hg hb')]
    congr 3
    apply Array.ext'
    simp
theorem repl_zero {z : List V} {zc : Array Value} (hz : RVs φ z zc.toList) (n : Nat) : RVs φ (repl n z) (Builtin.zeroCells zc n).toList:=RVs.repl hz n
structure AppT (P : Program) (G : GL) (types : Array TypeId) (args : Array Operand) (s b : Nat) (z : List V) (p q : O) : Prop where
  ex : ∃ t u e i zv x y,types[0]? = some t ∧ types[1]? = some u ∧ P.underlying t = some (.slice e) ∧ P.info? e = some i ∧ i.size = s ∧ i.bytes = b ∧ i.zero = some zv ∧ zv.cells.size = s ∧ 1 ≤ s ∧
    (∀ φ,RVs φ z zv.cells.toList ∧ z.all one = true) ∧ args[0]? = some x ∧ args[1]? = some y ∧ toO G x = some p ∧ toO G y = some q
theorem cApp_ok {types : Array TypeId} {args : Array Operand} {c : EC} (h : cApp P G types args = some c) :
    ∃ t u e e' i zv x y p q k,types[0]? = some t ∧ types[1]? = some u ∧ P.underlying t = some (.slice e) ∧ P.info? e = some i ∧ i.zero = some zv ∧ zv.cells.size = i.size ∧ 1 ≤ i.size ∧
      args[0]? = some x ∧ args[1]? = some y ∧ toO G x = some p ∧ toO G y = some q ∧
      ((P.underlying u = some (.slice e') ∧ c = .appS i.size i.bytes p q) ∨
       (P.underlying u = some (.int k) ∧ ∃ z,c = .appZ i.size i.bytes z p q ∧ ∀ φ,RVs φ z zv.cells.toList ∧ z.all one = true)):=by
  unfold cApp at h
  split at h
  · cases h
  rename_i t ht
  split at h
  · cases h
  rename_i u hu
  split at h
  · cases h
  rename_i x hx
  split at h
  · cases h
  rename_i p hp
  split at h
  · cases h
  rename_i y hy
  split at h
  · cases h
  rename_i q hq
  split at h
  · cases h
  rename_i e he
  have hte : P.underlying t = some (.slice e):=by
    unfold elemT at he
    split at he
    · rename_i e' h'; cases he; exact h'
    · cases he
  split at h
  · cases h
  rename_i s hs
  split at h
  · cases h
  rename_i b hb
  split at h
  · cases h
  rename_i z hz
  simp only [cond_eq_ite,Bool.and_eq_true,Nat.beq_eq,Nat.ble_eq,len_eq] at h
  split at h
  · rename_i hc
    obtain ⟨i,zv,hi,hzv,hzr⟩:=zeroT_ok hz
    obtain ⟨i',hi',hsz⟩:=sizeT_ok hs
    rw [hi] at hi'; cases hi'
    have hby : i.bytes = b:=by
      unfold bytesT at hb
      rw [hi] at hb
      cases hb; rfl
    have hzl : zv.cells.size = i.size:=by
      have:=(hzr ⟨fun _ => none,fun _ => false,fun _ => none,fun _ => none⟩).1.length
      rw [hsz,← hc.1]; simpa using this.symm
    subst hsz; subst hby
    split at h
    · rename_i e' hue
      cases h
      exact ⟨t,u,e,e',i,zv,x,y,p,q,.i64,ht,hu,hte,hi,hzv,hzl,hc.2,hx,hy,hp,hq,.inl ⟨hue,rfl⟩⟩
    · rename_i k hue
      cases h
      exact ⟨t,u,e,0,i,zv,x,y,p,q,k,ht,hu,hte,hi,hzv,hzl,hc.2,hx,hy,hp,hq,.inr ⟨hue,z,rfl,hzr⟩⟩
    · cases h
  · cases h
theorem two_args {α : Type} {xs : Array α} {x y : α} (h0 : xs[0]? = some x) (h1 : xs[1]? = some y) : ∃ r,xs = #[x,y] ++ r:=by
  refine ⟨xs.extract 2 xs.size,?_⟩
  obtain ⟨l⟩:=xs
  match l,h0,h1 with
  | a :: b :: l,h0,h1 =>
    simp at h0 h1
    subst h0; subst h1
    apply Array.ext'
    simp
theorem append_args (types ty : _) (ts : Array TypeId) (x y : Value) (xs : Array Value) (t u : TypeId) (h : types = #[t,u] ++ ts) : Builtin.append_ types ty (#[x,y] ++ xs) = Builtin.append_ #[t,u] ty #[x,y]:=by
  subst h
  have e0 : (#[t,u] ++ ts)[0]? = some t:=by simp [Array.getElem?_append]
  have e1 : (#[t,u] ++ ts)[1]? = some u:=by simp [Array.getElem?_append]
  have e2 : (#[x,y] ++ xs)[0]? = some x:=by simp [Array.getElem?_append]
  have e3 : (#[x,y] ++ xs)[1]? = some y:=by simp [Array.getElem?_append]
  have e4 : #[t,u][0]? = some t:=rfl
  have e5 : #[t,u][1]? = some u:=rfl
  have e6 : #[x,y][0]? = some x:=rfl
  have e7 : #[x,y][1]? = some y:=rfl
  unfold Builtin.append_
  simp only [e0,e1,e2,e3,e4,e5,e6,e7]
theorem e_append (r : REnv nt φ env a.tmps) (g : GOK G φ) (w : RW φ h W) {args : Array Operand} {types : Array TypeId} (ho : o.op = .call ⟨.builtin .append,args,types⟩) {c : EC} (hc : cApp P G types args = some c)
    (hv : evE call c env h = some (v,h'))
    (hK : ∀ φ' z W',RV φ' v z → RW φ' h' W' → Grow φ φ' W → Ext φ W W' → K (a.put o.dst z) W') : o.wp P a W K Q:=by
  obtain ⟨t,u,e,e',i,zv,x,y,p,q,k,ht,hu,hte,hi,hzv,hzl,hs1,hx,hy,hp,hq,hcase⟩:=cApp_ok hc
  obtain ⟨ts,hts⟩:=two_args ht hu
  obtain ⟨xs,hxs⟩:=two_args hx hy
  have hargs : args.map a.eval = #[a.eval x,a.eval y] ++ xs.map a.eval:=by rw [hxs]; simp
  have hexec : ∀ (z : Value) (W' : World),(Builtin.append_ #[t,u] o.type #[a.eval x,a.eval y]).run P W = .ok z W' → (execOp a.eval o).run P W = .ok (.value z) W':=by
    intro z W' hr
    simp only [execOp,ho,resolve,Sem.run_bind,Sem.run_pure,Result.andThen_ok,invoke,builtin]
    rw [hargs,append_args types o.type ts (a.eval x) (a.eval y) (xs.map a.eval) t u hts,hr]
    rfl
  rcases hcase with ⟨hue,rfl⟩ | ⟨hue,z,rfl,hzr⟩
  · simp only [evE,evAppS] at hv
    split at hv
    · rename_i X hX
      split at hv
      · rename_i Y hY
        split at hv
        · rename_i rr hrr
          have hrx:=toO_ok hp r g hX
          have hry:=toO_ok hq r g hY
          obtain ⟨n,cs⟩:=rr
          obtain ⟨pp,cc,ys,hye,hpn,hyl,hyr,hyo,hycell,_⟩:=src_ok w hrr hry
          obtain ⟨φ',z,W',hrun,h1,h2,h3,h4⟩:=append_ok w hv hrx hs1 hyl hyr hyo (m:=Builtin.append_ #[t,u] o.type #[a.eval x,a.eval y]) (e:=e) (z:=zv) hzl
            (fun b l c hb => by rw [hb,hye]; exact runs_slice hte hue hi hzv hzl b l c pp n cc ys hyl hpn hycell)
          exact upon_value (hexec z W' hrun) (hK φ' z W' h1 h2 h3 h4)
        · cases hv
      · cases hv
    · cases hv
  · simp only [evE,evAppZ] at hv
    split at hv
    · rename_i X hX
      split at hv
      · rename_i n hn
        simp only [cond_eq_ite,Bool.and_eq_true,Nat.ble_eq] at hv
        split at hv
        · rename_i hb
          have hrx:=toO_ok hp r g hX
          obtain ⟨kx,hkx⟩:=nat_ok (a:=a) r g hq hn
          obtain ⟨hz1,hz2⟩:=hzr φ
          obtain ⟨φ',z',W',hrun,h1,h2,h3,h4⟩:=append_ok w hv hrx hs1 (by rw [zero_length,hzl]) (repl_zero hz1 n) (one_repl hz2 n) (m:=Builtin.append_ #[t,u] o.type #[a.eval x,a.eval y]) (e:=e) (z:=zv) hzl
            (fun b l c hb' => by rw [hb',hkx]; exact runs_zero hte hue hi hzv hzl hs1 b l c n hb.2 hb.1)
          exact upon_value (hexec z' W' hrun) (hK φ' z' W' h1 h2 h3 h4)
        · cases hv
      · cases hv
    · cases hv
end
end Go.Ev
namespace Go.Ev
section
variable {P : Program} {G : GL} {call : Call} {nt : Nat} {φ : Phi} {h h' : H} {W : World} {env : Env} {a : Act} {v : V}
  {K : Act → World → Prop} {Q : Exit → Act → World → Prop} {o : Oper}
theorem copy_args (types ty : _) (_ : Array TypeId) (x y : Value) (xs : Array Value) (t : TypeId) (h : types[0]? = some t) : Builtin.copy_ types ty (#[x,y] ++ xs) = Builtin.copy_ #[t] ty #[x,y]:=by
  have e0 : types[0]? = some t:=h
  have e2 : (#[x,y] ++ xs)[0]? = some x:=by simp [Array.getElem?_append]
  have e3 : (#[x,y] ++ xs)[1]? = some y:=by simp [Array.getElem?_append]
  have e4 : #[t][0]? = some t:=rfl
  have e6 : #[x,y][0]? = some x:=rfl
  have e7 : #[x,y][1]? = some y:=rfl
  unfold Builtin.copy_
  simp only [e0,e2,e3,e4,e6,e7]
theorem run_copy {t ty e : TypeId} {s : Nat} (ht : P.underlying t = some (.slice e)) (hs : sizeT P e = some s) (b : Option Addr) (dl dc : Nat) (src : Value) (sn : Nat) (hn : (Builtin.lenOf src).run P W = .ok sn W)
    (cs : List Value) (hf : (Builtin.firstCells s (Nat.min sn dl) src).run P W = .ok cs.toArray W) (W' : World)
    (hst : (match b with | some a => storeCells a cs | none => pure ()).run P W = .ok () W') :
    (Builtin.copy_ #[t] ty #[.slice b dl dc,src]).run P W = .ok (goInt (Nat.min sn dl)) W':=by
  cases b with
  | none =>
    simp at hst
    subst hst
    simp [Builtin.copy_,run_underlying ht,hn,run_sizeOf hs,hf]
  | some q =>
    simp at hst
    simp [Builtin.copy_,run_underlying ht,hn,run_sizeOf hs,hf,hst]
theorem first_zero (s : Nat) (p : Option Addr) (l c : Nat) : (Builtin.firstCells s 0 (.slice p l c)).run P W = .ok #[] W:=by
  cases p with
  | none => exact run_firstCells_none W _ _ _ _
  | some q => exact run_firstCells_some W s 0 q l c [] (by simp) (fun j v hv => by simp at hv)
theorem e_copy (r : REnv nt φ env a.tmps) (g : GOK G φ) (w : RW φ h W) {args : Array Operand} {types : Array TypeId} (ho : o.op = .call ⟨.builtin .copy,args,types⟩) {c : EC} (hc : cCopy P G types args = some c)
    (hv : evE call c env h = some (v,h'))
    (hK : ∀ φ' z W',RV φ' v z → RW φ' h' W' → Grow φ φ' W → Ext φ W W' → K (a.put o.dst z) W') : o.wp P a W K Q:=by
  unfold cCopy at hc
  split at hc
  · cases hc
  rename_i t ht
  split at hc
  · cases hc
  rename_i u hu
  split at hc
  · cases hc
  rename_i x hx
  split at hc
  · cases hc
  rename_i p hp
  split at hc
  · cases hc
  rename_i y hy
  split at hc
  · cases hc
  rename_i q hq
  split at hc
  · cases hc
  rename_i e he
  have hte : P.underlying t = some (.slice e):=by
    unfold elemT at he
    split at he
    · rename_i e' h'; cases he; exact h'
    · cases he
  split at hc
  · cases hc
  rename_i s hs
  split at hc
  · rename_i e' hue
    cases hc
    obtain ⟨xs,hxs⟩:=two_args hx hy
    have hargs : args.map a.eval = #[a.eval x,a.eval y] ++ xs.map a.eval:=by rw [hxs]; simp
    have hexec : ∀ (z : Value) (W' : World),(Builtin.copy_ #[t] o.type #[a.eval x,a.eval y]).run P W = .ok z W' → (execOp a.eval o).run P W = .ok (.value z) W':=by
      intro z W' hr
      simp only [execOp,ho,resolve,Sem.run_bind,Sem.run_pure,Result.andThen_ok,invoke,builtin]
      rw [hargs,copy_args types o.type #[] (a.eval x) (a.eval y) (xs.map a.eval) t ht,hr]
      rfl
    -- nothing goes over
    have nothing : ∀ (b1 b2 : Option Addr) (l1 c1 l2 c2 : Nat),a.eval x = .slice b1 l1 c1 → a.eval y = .slice b2 l2 c2 → Nat.min l2 l1 = 0 →
        (Builtin.copy_ #[t] o.type #[a.eval x,a.eval y]).run P W = .ok (goInt 0) W:=by
      intro b1 b2 l1 c1 l2 c2 h1 h2 h0
      have:=run_copy (W:=W) (ty:=o.type) hte hs b1 l1 c1 (.slice b2 l2 c2) l2 rfl [] (by rw [h0]; exact first_zero s b2 l2 c2) W (by cases b1 <;> rfl)
      rw [h1,h2,this,h0]
      rfl
    have done : (Builtin.copy_ #[t] o.type #[a.eval x,a.eval y]).run P W = .ok (goInt 0) W → v = goN 0 → h' = h → o.wp P a W K Q:=by
      intro h1 h2 h3
      subst h2; subst h3
      exact upon_value (hexec _ W h1) (hK φ _ W (by simp [RV,goN,goInt]) w (Grow.refl _ _) (Ext.refl _ _))
    simp only [evE,evCopyS] at hv
    split at hv
    · rename_i b oo l cc sz' ex hX
      have hrx:=toO_ok hp r g hX
      simp only [RV] at hrx
      obtain ⟨xx,o',c',hxφ,hxe,hlc,hcc,hex,hsz,hat⟩:=hrx
      split at hv
      · rename_i b2 o2 l2 cc2 sz2 ex2 hY
        have hry:=toO_ok hq r g hY
        simp only [RV] at hry
        obtain ⟨yy,oy,cy,hyφ,hye,hlcy,hccy,_,_,haty⟩:=hry
        simp only [cond_eq_ite,Bool.and_eq_true,Nat.beq_eq,Nat.ble_eq] at hv
        split at hv
        · rename_i hc
          obtain ⟨rfl,rfl⟩:=hc
          have hmin : (if l2 ≤ l then l2 else l) = Nat.min l2 l:=by
            show _ = min l2 l
            split <;> omega
          rw [hmin] at hv
          split at hv
          · rename_i h0
            cases hv
            exact done (nothing _ _ _ _ _ _ hxe hye h0) rfl rfl
          · rename_i h0
            split at hv
            · rename_i cs hcs
              split at hv
              · rename_i h2 hst
                cases hv
                have hmin1 : Nat.min l2 l ≤ l2:=Nat.min_le_left _ _
                have hmin2 : Nat.min l2 l ≤ l:=Nat.min_le_right _ _
                obtain ⟨rfl,hat2⟩ : o' = xx.2.1 + oo ∧ oo + c' * s ≤ xx.2.2:=by
                  rcases hat with hat | hat
                  · omega
                  · exact hat
                obtain ⟨rfl,haty2⟩ : oy = yy.2.1 + o2 ∧ o2 + cy * s ≤ yy.2.2:=by
                  rcases haty with haty | haty
                  · omega
                  · exact haty
                obtain ⟨ys,a1,a2,a3,a4⟩:=ldn_ok w hcs hyφ
                obtain ⟨W',b1,b2,b3⟩:=stn_ok (P:=P) w hst hxφ a2 a3
                have hrun:=run_copy (W:=W) (ty:=o.type) hte hs (some ⟨xx.1,xx.2.1 + oo,none⟩) l c' (.slice (some ⟨yy.1,yy.2.1 + o2,none⟩) l2 cy) l2 rfl ys
                  (run_firstCells_some W s (Nat.min l2 l) _ _ _ ys a1 a4) W' b1
                rw [← hxe,← hye] at hrun
                exact upon_value (hexec _ W' hrun) (hK φ _ W' (by simp [RV,goN,goInt]) b2 (Grow.refl _ _) b3)
              · cases hv
            · cases hv
        · cases hv
      · rename_i hY
        cases hv
        have hry:=toO_ok hq r g hY
        simp only [RV] at hry
        exact done (nothing _ _ _ _ _ _ hxe hry (Nat.zero_min _)) rfl rfl
      · cases hv
    · rename_i hX
      have hrx:=toO_ok hp r g hX
      simp only [RV] at hrx
      split at hv
      · rename_i hY
        cases hv
        have hry:=toO_ok hq r g hY
        simp only [RV] at hry
        obtain ⟨yy,oy,cy,hyφ,hye,_⟩:=hry
        exact done (nothing _ _ _ _ _ _ hrx hye (Nat.min_zero _)) rfl rfl
      · rename_i hY
        cases hv
        have hry:=toO_ok hq r g hY
        simp only [RV] at hry
        exact done (nothing _ _ _ _ _ _ hrx hry (Nat.zero_min _)) rfl rfl
      · cases hv
    · cases hv
  · cases hc
theorem eff_ok (hcall : CallOK P G call) (r : REnv nt φ env a.tmps) (g : GOK G φ) (w : RW φ h W) {c : EC} (hc : cC P G o.op = some (.E c))
    (hv : evE call c env h = some (v,h'))
    (hK : ∀ φ' z W',RV φ' v z → RW φ' h' W' → Grow φ φ' W → Ext φ W W' → K (a.put o.dst z) W') : o.wp P a W K Q:=by
  replace hc:=cC_E hc
  generalize ho : o.op = op at hc
  cases op <;> try (simp only [cE,reduceCtorEq] at hc; done)
  case store t x y => exact e_store r g w ho hc hv hK
  case makeMap t m =>
    cases m with
    | some m => simp [cE] at hc
    | none =>
      simp only [cE,Option.some.injEq] at hc
      subst hc
      simp only [evE,Option.some.injEq,Prod.mk.injEq] at hv
      obtain ⟨rfl,rfl⟩:=hv
      have hrun : (execOp a.eval o).run P W = .ok (.value (.map (some W.heap.size))) (W.alloc (.map #[] 0)):=by
        simp [execOp,ho,Instr.makeMap]
      have hold : ∀ i,i < W.heap.size → (W.alloc (.map #[] 0)).heap[i]? = W.heap[i]?:=by
        intro i hi
        show (W.heap.push _)[i]? = _
        simp [Array.getElem?_push,Nat.ne_of_lt hi]
      refine upon_value hrun (hK φ _ _ (by simp only [RV]; exact ⟨_,rfl⟩) (w.push hold (by simp)) (Grow.refl _ _) ⟨by simp,fun wb hwb _ _ => hold wb hwb,fun wb c e fz hcc => ⟨c,?_,rfl⟩,rfl,rfl,rfl⟩)
      rw [hold wb]
      · exact hcc
      · obtain ⟨hlt,_⟩:=Array.getElem?_eq_some_iff.1 hcc
        exact hlt
  case call cl =>
    obtain ⟨callee,args,types⟩:=cl
    simp only [cE] at hc
    split at hc
    · cases hc
    rename_i os hos
    cases callee with
    | value x =>
      cases x with
      | func f =>
        simp only [Option.some.injEq] at hc
        subst hc
        exact e_call hcall r g w ho hos hv hK
      | _ =>
        simp only at hc
        split at hc
        · rename_i p hp
          cases hc
          exact e_callv hcall r g w ho hp hos hv hK
        · cases hc
    | invoke x m => simp at hc
    | builtin b =>
      cases b <;> try (simp at hc; done)
      · exact e_append r g w ho hc hv hK
      · exact e_copy r g w ho hc hv hK
end
end Go.Ev
namespace Go.Ev
theorem MdOK.pure {φ ψ : Phi} {m : Md} {n sz c' : Nat} {cs : List V} {v : Value} (hp : pureV (.fz m n sz cs) = true) (h : MdOK φ m n c' v) : MdOK ψ m n c' v:=by
  cases m with
  | no => trivial
  | ex => exact h
  | tk k e => cases hp
mutual
theorem RV.pure {φ ψ : Phi} (hz : ∀ x ds,φ.fz x = some ds → ∃ more,ψ.fz x = some (ds ++ more)) : ∀ (v : V) (x : Value),pureV v = true → RV φ v x → RV ψ v x
  | .u,_,h,_ => by cases h
  | .z,_,h,_ => by cases h
  | .b _,_,_,r => by simpa [RV] using r
  | .i _ _,_,_,r => by simpa [RV] using r
  | .s _,_,_,r => by simpa [RV] using r
  | .pn,_,_,r => by simpa [RV] using r
  | .p _ _,_,h,_ => by cases h
  | .sn,_,_,r => by simpa [RV] using r
  | .sl _ _ _ _ _ _,_,h,_ => by cases h
  | .fn _ _ _,_,h,_ => by cases h
  | .a _,_,h,_ => by cases h
  | .t _,_,h,_ => by cases h
  | .m,_,h,_ => by cases h
  | .c _,_,_,r => by simpa [RV] using r
  | .fz m n sz cs,_,h,r => by
    simp only [RV] at r ⊢
    obtain ⟨h0,h1,h2,p,c',h3,h4,h5,h6,h7,h8⟩:=r
    refine ⟨h0,h1,h2,p,c',h3,h4,h5,h6,?_,h8.pure h⟩
    rcases h7 with h7 | ⟨x,o,ds,k1,k2,k3,k4⟩
    · exact .inl h7
    · obtain ⟨more,k5⟩:=hz _ _ k2
      exact .inr ⟨x,o,_,k1,k5,by rw [List.length_append]; omega,by rw [take_more k3]; exact RVs.pure hz _ _ h0 k4⟩
  | .pf cs,_,_,r => by
    simp only [RV] at r ⊢
    obtain ⟨h0,x,o,ds,k1,k2,k3,k4⟩:=r
    obtain ⟨more,k5⟩:=hz _ _ k2
    exact ⟨h0,x,o,_,k1,k5,by rw [List.length_append]; omega,by rw [take_more k3]; exact RVs.pure hz _ _ h0 k4⟩
theorem RVs.pure {φ ψ : Phi} (hz : ∀ x ds,φ.fz x = some ds → ∃ more,ψ.fz x = some (ds ++ more)) : ∀ (vs : List V) (xs : List Value),pureL vs = true → RVs φ vs xs → RVs ψ vs xs
  | [],_,_,r => by simpa [RVs] using r
  | v :: vs,_,h,r => by
    simp only [RVs] at r ⊢
    simp only [pureL,Bool.and_eq_true] at h
    obtain ⟨x,xs,e,hv,hvs⟩:=r
    exact ⟨x,xs,e,RV.pure hz _ _ h.1 hv,RVs.pure hz _ _ h.2 hvs⟩
end
theorem RVs.pureB {φ ψ : Phi} (hz : ∀ x ds,φ.fz x = some ds → ∃ more,ψ.fz x = some (ds ++ more)) : ∀ {vs : List V} {xs : List Value},vs.all Go.Ev.pureB = true → RVs φ vs xs → RVs ψ vs xs
  | [],_,_,r => by simpa [RVs] using r
  | v :: vs,_,h,r => by
    simp only [RVs] at r ⊢
    simp only [List.all_cons,Bool.and_eq_true] at h
    obtain ⟨x,xs,e,hv,hvs⟩:=r
    refine ⟨x,xs,e,?_,RVs.pureB hz h.2 hvs⟩
    have h1:=h.1
    cases v
    case a cs =>
      simp only [RV] at hv ⊢
      obtain ⟨A,h3,h4,h5⟩:=hv
      exact ⟨A,h3,RVs.pure hz _ _ h1 h4,h5⟩
    all_goals exact RV.pure hz _ _ h1 hv
theorem RV.pureA {φ ψ : Phi} (hz : ∀ x ds,φ.fz x = some ds → ∃ more,ψ.fz x = some (ds ++ more)) {v : V} {x : Value} (h : pureA v = true) (r : RV φ v x) : RV ψ v x:=by
  cases v
  case a cs =>
    simp only [RV] at r ⊢
    obtain ⟨A,h1,h2,h3⟩:=r
    exact ⟨A,h1,RVs.pure hz _ _ h h2,h3⟩
  case fn f a b =>
    simp only [Go.Ev.pureA,Bool.and_eq_true] at h
    simp only [RV] at r ⊢
    obtain ⟨A,B,h1,h2,h3⟩:=r
    exact ⟨A,B,h1,RVs.pureB hz h.1 h2,RVs.pureB hz h.2 h3⟩
  all_goals exact RV.pure hz _ _ h r
theorem RVs.pureA {φ ψ : Phi} (hz : ∀ x ds,φ.fz x = some ds → ∃ more,ψ.fz x = some (ds ++ more)) : ∀ {vs : List V} {xs : List Value},vs.all Go.Ev.pureA = true → RVs φ vs xs → RVs ψ vs xs
  | [],_,_,r => by simpa [RVs] using r
  | v :: vs,_,h,r => by
    simp only [RVs] at r ⊢
    simp only [List.all_cons,Bool.and_eq_true] at h
    obtain ⟨x,xs,e,hv,hvs⟩:=r
    exact ⟨x,xs,e,RV.pureA hz h.1 hv,RVs.pureA hz h.2 hvs⟩
theorem RV.noRef {φ ψ : Phi} (hz : ∀ x ds,φ.fz x = some ds → ∃ more,ψ.fz x = some (ds ++ more)) (ht : ∀ k e n v,φ.tk k = some (e,n,v) → ∃ e' n' v',ψ.tk k = some (e',n',v') ∧ tkLe e n v e' n' v') {v : V} {x : Value} (h : noRef v = true) (r : RV φ v x) : RV ψ v x:=by
  cases v
  case fz m n sz cs =>
    simp only [RV] at r ⊢
    obtain ⟨h0,h1,h2,p,c',h3,h4,h5,h6,h7,h8⟩:=r
    refine ⟨h0,h1,h2,p,c',h3,h4,h5,h6,?_,?_⟩
    · rcases h7 with h7 | ⟨x,o,ds,k1,k2,k3,k4⟩
      · exact .inl h7
      · obtain ⟨more,k5⟩:=hz _ _ k2
        exact .inr ⟨x,o,_,k1,k5,by rw [List.length_append]; omega,by rw [take_more k3]; exact RVs.pure hz _ _ h0 k4⟩
    · cases m with
      | no => trivial
      | ex => exact h8
      | tk k e =>
        obtain ⟨e0,n0,v0,q1,q2⟩:=h8
        obtain ⟨e1,n1,v1,q3,q4⟩:=ht _ _ _ _ q1
        exact ⟨e1,n1,v1,q3,q2.trans q4⟩
  case fn f a b =>
    simp only [Go.Ev.noRef,Bool.and_eq_true] at h
    simp only [RV] at r ⊢
    obtain ⟨A,B,h1,h2,h3⟩:=r
    exact ⟨A,B,h1,RVs.pure hz _ _ h.1 h2,RVs.pure hz _ _ h.2 h3⟩
  all_goals exact RV.pure hz _ _ h r
section
variable {P : Program} {φ ψ : Phi} {h : H} {W : World}
theorem fzL_ok {f : V → Option V} {φ ψ : Phi} (hf : ∀ v w x,one v = true → f v = some w → RV φ v x → RV ψ w x ∧ pureV w = true) : ∀ (vs ws : List V) (xs : List Value),vs.all one = true → fzL f vs = some ws → RVs φ vs xs → RVs ψ ws xs ∧ pureL ws = true:=by
  intro vs
  induction vs with
  | nil => intro ws xs _ h r; simp only [fzL,Option.some.injEq] at h; subst h; exact ⟨by simpa [RVs] using r,rfl⟩
  | cons v vs ih =>
    intro ws xs ho h r
    simp only [fzL] at h
    split at h
    · cases h
    rename_i w hw
    split at h
    · cases h
    rename_i ws' hws
    cases h
    simp only [List.all_cons,Bool.and_eq_true] at ho
    simp only [RVs] at r ⊢
    obtain ⟨x,xs',rfl,h1,h2⟩:=r
    obtain ⟨k1,k2⟩:=hf v w x ho.1 hw h1
    obtain ⟨k3,k4⟩:=ih ws' xs' ho.2 hws h2
    exact ⟨⟨x,xs',rfl,k1,k3⟩,by simp [pureL,k2,k4]⟩
structure Frz (φ ψ : Phi) (h : H) (W : World) (lo : Nat) : Prop where
  old : ∀ x ds,φ.fz x = some ds → ψ.fz x = some ds
  blk : ∀ b k y,h.bl.get b = some k → lo ≤ k.grp → φ b = some y → ∃ c e fr,W.heap[y.1]? = some (.cells c e fr) ∧ ψ.fz y.1 = some c.toList
theorem Frz.more {lo : Nat} (F : Frz φ ψ h W lo) : ∀ x ds,φ.fz x = some ds → ∃ more,ψ.fz x = some (ds ++ more):=fun x ds e => ⟨[],by rw [List.append_nil]; exact F.old x ds e⟩
theorem fzV_ok {lo : Nat} (F : Frz φ ψ h W lo) (r : RW φ h W) : ∀ (n q : Nat) (v w : V) (x : Value),fzV h lo n q v = some w → RV φ v x → RV ψ w x ∧ (one v = true → pureV w = true):=by
  intro n
  induction n with
  | zero => intro q v w x hv _; simp [fzV] at hv
  | succ n ih =>
    intro q v w x hv hx
    have dflt : ∀ v',(bif pureV v' then some v' else none) = some w → RV φ v' x → RV ψ w x ∧ (one v' = true → pureV w = true):=by
      intro v' h' hx'
      simp only [cond_eq_ite] at h'
      split at h'
      · rename_i hp; cases h'; exact ⟨RV.pure F.more _ _ hp hx',fun _ => hp⟩
      · cases h'
    have sub : ∀ (cs ds : List V) (xs : List Value),cs.all one = true → fzL (fzV h lo n 1) cs = some ds → RVs φ cs xs → RVs ψ ds xs ∧ pureL ds = true:=fun cs ds xs ho hd hr =>
      fzL_ok (fun v w x ho hw hr => ⟨(ih 1 v w x hw hr).1,(ih 1 v w x hw hr).2 ho⟩) cs ds xs ho hd hr
    unfold fzV at hv
    split at hv
    · simp only [cond_eq_ite,Nat.ble_eq] at hv
      split at hv
      · rename_i hq
        cases hv
        simp only [RV] at hx
        subst hx
        exact ⟨RV.nil hq,fun _ => rfl⟩
      · cases hv
    · rename_i m l sz cs
      cases hv
      exact ⟨RV.pure F.more _ _ rfl (RV.dem (v:=.fz m l sz cs) hx),fun _ => rfl⟩
    · rename_i b o l c sz ex
      simp only [RV] at hx
      obtain ⟨y,o',c',hy,he,hlc,hcc,hex,hsz,hat⟩:=hx
      simp only [cond_eq_ite,Nat.beq_eq] at hv
      split at hv
      · rename_i hl
        cases hv
        subst hl
        subst he
        refine ⟨?_,fun _ => rfl⟩
        simp only [RV]
        exact ⟨by rfl,by simp,hsz,_,c',rfl,by omega,(fun e => by cases e),(.inr fun a e => by cases e; rfl),by simp,trivial⟩
      · rename_i hl
        split at hv
        · cases hv
        rename_i k hk
        simp only [Nat.ble_eq] at hv
        split at hv
        case isFalse => cases hv
        rename_i hlo
        split at hv
        · cases hv
        rename_i cs hcs
        obtain ⟨cc,e,fr,hW,hfz⟩:=F.blk b k y hk hlo hy
        obtain ⟨rfl,hat2⟩ : o' = y.2.1 + o ∧ o + c' * sz ≤ y.2.2:=by
          rcases hat with hat | hat
          · omega
          · exact hat
        obtain ⟨ys,h1,h2,h3,h4⟩:=ldn_ok r hcs hy
        obtain ⟨x',c2,e2,fz2,hx',hc2,hsz2,_⟩:=r.blk b k hk
        rw [hy] at hx'; cases hx'
        rw [hW] at hc2; cases hc2
        have hlsz : l * sz ≤ c' * sz:=Nat.mul_le_mul_right _ (by omega)
        have hys : (cc.toList.drop (y.2.1 + o)).take (l * sz) = ys:=by
          apply List.ext_getElem?
          intro j
          rw [List.getElem?_take]
          split
          · rename_i hj
            have hj' : ys[j]? = some ys[j]:=List.getElem?_eq_getElem (by omega)
            have:=h4 j _ hj'
            rw [add_off] at this
            simp only [World.cell?,hW] at this
            rw [List.getElem?_drop,hj']
            simpa using this
          · rename_i hj
            rw [List.getElem?_eq_none (by omega)]
        have fin : ∀ ds : List V,RVs ψ ds ys → pureL ds = true → RV ψ (.fz .no l sz ds) x:=by
          intro ds hds hp
          simp only [RV]
          refine ⟨hp,by rw [hds.length,h1],hsz,_,c',he,by omega,fun e => (by cases e),(.inr fun a e => (by cases e; rfl)),.inr ⟨y.1,y.2.1 + o,cc.toList,rfl,hfz,?_,by rw [hys]; exact hds⟩,trivial⟩
          rw [Array.length_toList]; omega
        split at hv
        · rename_i hp
          cases hv
          exact ⟨fin cs (RVs.pure F.more _ _ hp h2) hp,fun _ => rfl⟩
        · split at hv
          · cases hv
          rename_i ds hds
          cases hv
          obtain ⟨k1,k2⟩:=sub cs ds ys h3 hds h2
          exact ⟨fin ds k1 k2,fun _ => rfl⟩
    · rename_i cs
      simp only [RV] at hx
      obtain ⟨A,he,hr,ho⟩:=hx
      simp only [cond_eq_ite] at hv
      split at hv
      · rename_i hp
        cases hv
        refine ⟨?_,fun h => by cases h⟩
        simp only [RV]
        exact ⟨A,he,RVs.pure F.more _ _ hp hr,ho⟩
      · split at hv
        · cases hv
        rename_i ds hds
        cases hv
        obtain ⟨k1,k2⟩:=sub cs ds _ ho hds hr
        refine ⟨?_,fun h => by cases h⟩
        simp only [RV]
        exact ⟨A,he,k1,pureL_one k2⟩
    · exact dflt v hv hx
theorem fzZ_ok {lo : Nat} (F : Frz φ ψ h W lo) (r : RW φ h W) : ∀ (vs ws : List V) (qs : List Nat) (xs : List Value),fzZ h lo qs vs = some ws → RVs φ vs xs → RVs ψ ws xs:=by
  intro vs
  induction vs with
  | nil => intro ws qs xs h r; simp only [fzZ,Option.some.injEq] at h; subst h; simpa [RVs] using r
  | cons v vs ih =>
    intro ws qs xs h hr
    simp only [fzZ] at h
    split at h
    · cases h
    rename_i w hw
    split at h
    · cases h
    rename_i ws' hws
    cases h
    simp only [RVs] at hr ⊢
    obtain ⟨x,xs',rfl,h1,h2⟩:=hr
    exact ⟨x,xs',rfl,(fzV_ok F r 4 _ v w x hw h1).1,ih ws' _ xs' hws h2⟩
theorem fzR_ok {lo : Nat} (F : Frz φ ψ h W lo) (r : RW φ h W) {qs : List Nat} {v w : V} {x : Value} (hv : fzR h lo qs v = some w) (hx : RV φ v x) : RV ψ w x:=by
  unfold fzR at hv
  split at hv
  · split at hv
    · cases hv
    rename_i ws hws
    cases hv
    simp only [RV] at hx ⊢
    obtain ⟨A,he,hr⟩:=hx
    exact ⟨A,he,fzZ_ok F r _ _ _ _ hws hr⟩
  · cases hv
    simpa only [RV] using hx
  · exact (fzV_ok F r 4 _ v w x hv hx).1
end
end Go.Ev
