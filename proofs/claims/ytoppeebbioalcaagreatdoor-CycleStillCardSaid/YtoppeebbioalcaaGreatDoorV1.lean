/- The walks of the functions (printed by a program): part 1. -/
import Derived.Test.YtoppeebbioalcaaGreatDoorF
set_option linter.all false
namespace Go.Ev
noncomputable section
set_option maxHeartbeats 4000000
theorem encs_len {α : Type} {sz : Nat} {f : α → List V} [L : LayC sz f] (l : List α) : (encs f l).length = l.length * sz:=by
  induction l with
  | nil => simp [encs]
  | cons x l ih => simp only [encs,app_eq,List.length_append,ih,lay_len (f:=f),List.length_cons]; rw [Nat.add_mul]; omega
theorem encs_nth {α : Type} {sz : Nat} {f : α → List V} [L : LayC sz f] {o : Nat} (ho : o < sz) : ∀ (l : List α) (i : Nat) (x : α),l[i]? = some x → nth (encs f l) (i * sz + o) = nth (f x) o
  | [],i,x,h => by simp at h
  | y :: l,0,x,h => by
    simp only [List.getElem?_cons_zero,Option.some.injEq] at h
    subst h
    simp only [encs,app_eq,nth_eq,Nat.zero_mul,Nat.zero_add]
    rw [List.getElem?_append_left (by rw [lay_len (f:=f)]; exact ho)]
  | y :: l,i + 1,x,h => by
    have ih:=encs_nth (f:=f) ho l i x (by simpa using h)
    rw [← ih]
    simp only [encs,app_eq,nth_eq]
    rw [List.getElem?_append_right (by rw [lay_len (f:=f),Nat.add_mul]; omega),lay_len (f:=f)]
    congr 1
    rw [Nat.add_mul]; omega
theorem putN_app {α : Type} (a b : List α) (n : Nat) (v : List α) (h : n + v.length ≤ a.length) : putN (a ++ b) n v = putN a n v ++ b:=by
  apply List.ext_getElem?
  intro j
  rw [get_putN,List.getElem?_append,List.getElem?_append,get_putN,length_putN,List.length_append]
  by_cases h1 : j < a.length
  · rw [if_pos h1,if_pos h1]
    by_cases h2 : n ≤ j ∧ j < n + v.length
    · rw [if_pos (by omega),if_pos (by omega)]
    · rw [if_neg (by omega),if_neg (by omega)]
  · rw [if_neg h1,if_neg h1,if_neg (by omega)]
theorem putN_app2 {α : Type} (a b : List α) (n : Nat) (v : List α) : putN (a ++ b) (a.length + n) v = a ++ putN b n v:=by
  apply List.ext_getElem?
  intro j
  rw [get_putN,List.getElem?_append,List.getElem?_append,get_putN,List.length_append]
  by_cases hj : j < a.length
  · rw [if_neg (by omega),if_pos hj,if_pos hj]
  · rw [if_neg hj,if_neg hj]
    split
    · rw [if_pos (by omega)]; congr 1; omega
    · rw [if_neg (by omega)]
theorem encs_put {α : Type} {sz : Nat} {f : α → List V} [L : LayC sz f] {o : Nat} (ho : o < sz) {v : V} : ∀ (l : List α) (i : Nat) (x y : α),l[i]? = some x → putN (f x) o [v] = f y → putN (encs f l) (i * sz + o) [v] = encs f (l.set i y)
  | [],i,x,y,h,_ => by simp at h
  | z :: l,0,x,y,h,hp => by
    simp only [List.getElem?_cons_zero,Option.some.injEq] at h
    subst h
    simp only [encs,app_eq,Nat.zero_mul,Nat.zero_add,List.set_cons_zero]
    rw [putN_app _ _ _ _ (by rw [lay_len (f:=f)]; exact ho),hp]
  | z :: l,i + 1,x,y,h,hp => by
    have ih:=encs_put ho l i x y (by simpa using h) hp
    simp only [encs,app_eq,List.set_cons_succ]
    rw [show (i + 1) * sz + o = (f z).length + (i * sz + o) by rw [lay_len (f:=f),Nat.add_mul]; omega,putN_app2,ih]
def H25 (l : List GFlight) : H:=⟨1,.n .e (some ⟨encs eFlight l,0,0⟩) .e,.e,T.set .e 2502 (0,0,35)⟩
theorem ld25 (l : List GFlight) (i : Nat) (f : GFlight) (hf : l[i]? = some f) : (H25 l).ld1 0 (i * 35 + 30) = some (eI f.Left):=by
  have e : nth (encs eFlight l) (i * 35 + 30) = some (eI f.Left):=by
    rw [encs_nth (f:=eFlight) (by decide) l i f hf]; simp
  show (match nth (encs eFlight l) (i * 35 + 30) with
    | some .z => none
    | r => r) = _
  rw [e]; rfl
theorem st25 (l : List GFlight) (i : Nat) (f : GFlight) (hf : l[i]? = some f) (v : Int) : (H25 l).stn 0 (i * 35 + 30) [eI v] = some (H25 (l.set i (f.setLeft v))):=by
  have e : putN (encs eFlight l) (i * 35 + 30) [eI v] = encs eFlight (l.set i (f.setLeft v)):=by
    rw [encs_put (f:=eFlight) (by decide) l i f (f.setLeft v) hf (by simp)]
  obtain ⟨hi,_⟩:=List.getElem?_eq_some_iff.1 hf
  have hb : Nat.ble (i * 35 + 30 + len [eI v]) (len (encs eFlight l)) = true:=by
    rw [Nat.ble_eq,len_eq,len_eq,encs_len (f:=eFlight)]
    simp only [List.length_cons,List.length_nil]
    omega
  show (bif Nat.ble (i * 35 + 30 + len [eI v]) (len (encs eFlight l)) && Nat.blt 0 roC then _ else none) = _
  rw [hb,e]
  rfl
def body25 : K:=.seq (.reg [⟨(some 10),.P (.bin .lss (.t 9) (.t 8)),none⟩])
 (.seq (.cond (.t 10) (.skip)
  (.exit 0))
 (.seq (.block 1 (.seq (.reg [⟨(some 11),.P (.mv (.t 9)),none⟩,⟨(some 4),.P (.mv (.t 11)),none⟩])
 (.seq (.reg [⟨(some 12),.P (.mv (.t 3)),none⟩,⟨(some 13),.P (.mv (.t 4)),none⟩,⟨(some 14),.P (.ixS 35 (.t 12) (.t 13)),none⟩,⟨(some 15),.P (.fa 30 (.t 14)),none⟩,⟨(some 16),.L (.ld1 (.t 15)),none⟩,⟨(some 17),.P (.bin .gtr (.t 16) (.k (eI 0))),none⟩])
 (.cond (.t 17) (.reg [⟨(some 18),.P (.mv (.t 3)),none⟩,⟨(some 19),.P (.mv (.t 4)),none⟩,⟨(some 20),.P (.ixS 35 (.t 18) (.t 19)),none⟩,⟨(some 21),.P (.fa 30 (.t 20)),none⟩,⟨(some 22),.L (.ld1 (.t 21)),none⟩,⟨(some 23),.P (.bin .sub (.t 22) (.k (eI 1))),none⟩,⟨(some 24),.P (.ixS 35 (.t 18) (.t 19)),none⟩,⟨(some 25),.P (.fa 30 (.t 24)),none⟩,⟨none,.E (.st1 (.t 25) (.d 23)),none⟩])
  (.reg [⟨(some 26),.P (.mv (.t 3)),none⟩,⟨(some 27),.P (.mv (.t 4)),none⟩,⟨(some 28),.P (.ixS 35 (.t 26) (.t 27)),none⟩,⟨(some 29),.P (.fa 30 (.t 28)),none⟩,⟨none,.E (.st1 (.t 29) (.k (eI 0))),none⟩])))))
 (.reg [⟨(some 30),.P (.bin .add (.t 9) (.k (eI 1))),none⟩,⟨(some 9),.P (.mv (.t 30)),none⟩])))
theorem round25 {call : Call} {lf : Nat} {l : List GFlight} {i n : Nat} {f : GFlight} (hf : l[i]? = some f) (hi : i < n) (env : Env) (h3 : env.get 3 = some (.sl 0 0 n n 35 false)) (h8 : env.get 8 = some (eI (n : Int))) (h9 : env.get 9 = some (eI (i : Int))) :
    ∃ env',evK call lf body25 env (H25 l) = some (.nrm,env',H25 (l.set i (tickF f))) ∧ env'.get 3 = some (.sl 0 0 n n 35 false) ∧ env'.get 8 = some (eI (n : Int)) ∧ env'.get 9 = some (eI (wI ((i : Int) + 1))):=by
  have hg : (H25 l).bl.get 0 = some ⟨encs eFlight l,0,0⟩:=rfl
  have hn : nth (encs eFlight l) (i * 35 + 30) = some (eI f.Left):=by
    rw [encs_nth (f:=eFlight) (by decide) l i f hf]; simp
  have hi' : i + 1 ≤ n:=hi
  have hs:=st25 l i f hf
  by_cases hp : (0 : Int) < f.Left
  · have ht : tickF f = f.setLeft (wI (f.Left - 1)):=by simp [tickF,hp]
    rw [ht]
    simp [body25,h3,h8,h9,hi,hi',hg,hn,hs,hp]
  · have ht : tickF f = f.setLeft 0:=by simp [tickF,hp]
    rw [ht]
    simp [body25,h3,h8,h9,hi,hi',hg,hn,hs,hp]
def done25 (l : List GFlight) (i : Nat) : List GFlight:=(l.take i).map tickF ++ l.drop i
theorem done25_len (l : List GFlight) (i : Nat) : (done25 l i).length = l.length:=by
  simp only [done25,List.length_append,List.length_map,List.length_take,List.length_drop]; omega
theorem done25_at {l : List GFlight} {i : Nat} {f : GFlight} (h : l[i]? = some f) : (done25 l i)[i]? = some f:=by
  obtain ⟨hi,_⟩:=List.getElem?_eq_some_iff.1 h
  rw [done25,List.getElem?_append_right (by simp; omega)]
  simp only [List.length_map,List.length_take,List.getElem?_drop]
  rw [← h]; congr 1; omega
theorem done25_next {l : List GFlight} {i : Nat} {f : GFlight} (h : l[i]? = some f) : (done25 l i).set i (tickF f) = done25 l (i + 1):=by
  obtain ⟨hi,he⟩:=List.getElem?_eq_some_iff.1 h
  apply List.ext_getElem?
  intro j
  rw [List.getElem?_set]
  simp only [done25,List.getElem?_append,List.length_map,List.length_take,List.getElem?_map,List.getElem?_take,List.getElem?_drop,List.length_append,List.length_drop]
  by_cases hj : i = j
  · subst hj
    rw [if_pos rfl,if_pos (by omega),if_pos (by omega),if_pos (by omega),h]; rfl
  · rw [if_neg hj]
    by_cases h2 : j < i
    · rw [if_pos (by omega),if_pos h2,if_pos (by omega),if_pos (by omega)]
    · rw [if_neg (by omega),if_neg (by omega)]
      congr 1; omega
theorem wI_nat {k : Nat} (h : k ≤ 9223372036854775807) : wI (k : Int) = (k : Int):=by
  show (bif Nat.ble k (kmax .i64) then (k : Int) else _) = _
  have : Nat.ble k (kmax .i64) = true:=by rw [Nat.ble_eq]; exact h
  rw [this]; rfl
theorem loop25 {call : Call} {lf : Nat} {l : List GFlight} (hl : l.length < 1000000) : ∀ (m i F : Nat) (env : Env),i + m = l.length → m < F → env.get 3 = some (.sl 0 0 l.length l.length 35 false) → env.get 8 = some (eI (l.length : Int)) → env.get 9 = some (eI (i : Int)) →
    ∃ env',iter (evK call lf body25) F env (H25 (done25 l i)) = some (.exit 0,env',H25 (l.map tickF)) ∧ env'.get 3 = some (.sl 0 0 l.length l.length 35 false):=by
  intro m
  induction m with
  | zero =>
    intro i F env hi hF h3 h8 h9
    obtain ⟨F,rfl⟩ : ∃ g,F = g + 1:=⟨F - 1,by omega⟩
    have hd : done25 l i = l.map tickF:=by
      have : i = l.length:=by omega
      subst this; simp [done25]
    have hlt : ¬ ((i : Int) < (l.length : Int)):=by omega
    rw [hd]
    simp [iter,body25,h3,h8,h9,hlt]
  | succ m ih =>
    intro i F env hi hF h3 h8 h9
    obtain ⟨F,rfl⟩ : ∃ g,F = g + 1:=⟨F - 1,by omega⟩
    obtain ⟨f,hf⟩ : ∃ f,l[i]? = some f:=⟨l[i]'(by omega),List.getElem?_eq_getElem _⟩
    obtain ⟨env',e,g3,g8,g9⟩:=round25 (call:=call) (lf:=lf) (done25_at hf) (show i < l.length by omega) env h3 h8 h9
    rw [done25_next hf] at e
    have hw : wI ((i : Int) + 1) = ((i + 1 : Nat) : Int):=wI_nat (k:=i + 1) (by omega)
    rw [hw] at g9
    obtain ⟨env2,e2,k3⟩:=ih (i + 1) F env' (by omega) (by omega) g3 g8 g9
    exact ⟨env2,by simp only [iter,e,e2],k3⟩
theorem app25_nil {env : Env} {h : H} (h5 : env.get 5 = some (eSl 35 eFlight [])) : evAppS 35 256 (.k .sn) (.t 5) env h = some (.sn,h):=by
  simp only [evAppS,O.ev,h5]; rfl
theorem app25 {env : Env} {h : H} {l : List GFlight} (h5 : env.get 5 = some (eSl 35 eFlight l)) (hl : l.length < 1000000) (h0 : l ≠ []) : evAppS 35 256 (.k .sn) (.t 5) env h = some (.sl h.nb 0 l.length l.length 35 false,h.alloc (encs eFlight l)):=by
  have hn : l.length ≠ 0:=fun e => h0 (List.eq_nil_of_length_eq_zero e)
  simp only [evAppS,O.ev,h5,srcCells,eSl,Nat.beq_refl,cond_true]
  unfold H.append
  simp only [cond_eq_ite,Nat.beq_eq,hn,if_false,Bool.and_eq_true,Nat.ble_eq]
  rw [if_pos (by omega)]
def pre25 : K:=.seq (.reg [⟨(some 2),.E (.acc 2502 35 (.k .sn)),none⟩]) (.seq (.reg [⟨(some 5),.P (.mv (.t 0)),none⟩,⟨(some 6),.E (.appS 35 256 (.k .sn) (.t 5)),none⟩,⟨(some 3),.P (.mv (.t 6)),none⟩])
  (.reg [⟨(some 7),.P (.mv (.t 3)),none⟩,⟨(some 8),.P (.len (.t 7)),none⟩,⟨(some 9),.P (.mv (.k (eI 0))),none⟩]))
def post25 : K:=.seq (.reg [⟨(some 31),.P (.mv (.t 3)),none⟩,⟨(some 2),.P (.mv (.t 31)),none⟩]) .ret
theorem assoc5 (call : Call) (lf : Nat) (A B C L D : K) (env : Env) (h : H) : evK call lf (.seq A (.seq B (.seq (.seq C (.block 0 L)) D))) env h = (evK call lf (.seq A (.seq B C)) env h).bind (seqX fun e h => ((evK call lf L e h).map (blkX 0)).bind (seqX (evK call lf D))):=by
  simp only [evK_seq,evK_block]
  cases evK call lf A env h with
  | none => rfl
  | some r =>
    obtain ⟨x,e,h⟩:=r
    cases x with
    | nrm =>
      simp only [Option.bind_some,seqX_nrm,evK_seq]
      cases evK call lf B e h with
      | none => rfl
      | some r =>
        obtain ⟨x,e,h⟩:=r
        cases x with
        | nrm =>
          simp only [Option.bind_some,seqX_nrm,evK_seq,evK_block]
          cases evK call lf C e h with
          | none => rfl
          | some r =>
            obtain ⟨x,e,h⟩:=r
            cases x with
            | nrm => simp only [Option.bind_some,seqX_nrm,evK_block]
            | ret => rfl
            | exit i => rfl
        | ret => rfl
        | exit i => rfl
    | ret => rfl
    | exit i => rfl
theorem f25_body (call : Call) (lf : Nat) (env : Env) (h : H) : evK call lf f25.body env h = (evK call lf pre25 env h).bind (seqX fun e h => ((evK call lf (.loop body25) e h).map (blkX 0)).bind (seqX (evK call lf post25))):=
  assoc5 call lf _ _ _ _ _ env h
theorem w25 {n : Nat} (hn : 1 ≤ n) (a0 : List GFlight) (hl : decide (a0.length < 1000000) = true) (h : H) : callPv (EV n) 25 [35] [eSl 35 eFlight a0] h = (n25 a0).map fun r => (eSl 35 eFlight r,h):=by
  obtain ⟨m,rfl⟩:=pm hn
  simp only [decide_eq_true_eq] at hl
  rw [callPv_eq,EV_at t25]
  have hf : f25 = ⟨1,32,f25.body,[.t 2]⟩:=rfl
  rw [hf,runF_eq,f25_body]
  by_cases h0 : a0 = []
  · subst h0
    have hpre : ∃ env',evK (EV m) LF pre25 (envOf [eSl 35 eFlight []] 0 .e) ⟨0,.e,.e,.e⟩ = some (.nrm,env',⟨0,.e,.e,T.set .e 2502 (0,0,35)⟩) ∧ env'.get 3 = some .sn ∧ env'.get 8 = some (eI 0) ∧ env'.get 9 = some (eI 0):=by
      have hv : lenVV .sn = some (eI 0):=rfl
      simp [pre25,app25_nil,hv]
    obtain ⟨env',e,g3,g8,g9⟩:=hpre
    rw [e]
    simp only [Option.bind_some,seqX_nrm]
    have hloop : ∃ env2,evK (EV m) LF (.loop body25) env' ⟨0,.e,.e,T.set .e 2502 (0,0,35)⟩ = some (.exit 0,env2,⟨0,.e,.e,T.set .e 2502 (0,0,35)⟩) ∧ env2.get 3 = some .sn:=by
      rw [evK_loop]
      obtain ⟨F,hF⟩ : ∃ F,LF = F + 1:=⟨18446744073709551615,rfl⟩
      rw [hF]
      simp [iter,body25,g3,g8,g9]
    obtain ⟨env2,e2,k3⟩:=hloop
    rw [e2]
    have hz : fzR ⟨0,.e,.e,T.set .e 2502 (0,0,35)⟩ 0 [35] .sn = some (eSl 35 eFlight []):=rfl
    simp [post25,k3,n25,hz]
  · have hpre : ∃ env',evK (EV m) LF pre25 (envOf [eSl 35 eFlight a0] 0 .e) ⟨0,.e,.e,.e⟩ = some (.nrm,env',H25 a0) ∧ env'.get 3 = some (.sl 0 0 a0.length a0.length 35 false) ∧ env'.get 8 = some (eI (a0.length : Int)) ∧ env'.get 9 = some (eI 0):=by
      have ha : (⟨0,.e,.e,T.set .e 2502 (0,0,35)⟩ : H).alloc (encs eFlight a0) = H25 a0:=rfl
      simp [pre25,app25 _ hl h0,ha]
    obtain ⟨env',e,g3,g8,g9⟩:=hpre
    rw [e]
    simp only [Option.bind_some,seqX_nrm]
    obtain ⟨env2,e2,k3⟩:=loop25 (call:=EV m) (lf:=LF) hl a0.length 0 LF env' (by omega) (by have : LF = 18446744073709551616:=rfl; omega) g3 g8 g9
    have hd : done25 a0 0 = a0:=by simp [done25]
    rw [hd] at e2
    rw [evK_loop,e2]
    have hz : fzR (H25 (a0.map tickF)) 0 [35] (.sl 0 0 a0.length a0.length 35 false) = some (eSl 35 eFlight (a0.map tickF)):=by
      have hn0 : a0.length ≠ 0:=fun e => h0 (List.eq_nil_of_length_eq_zero e)
      have hld : (H25 (a0.map tickF)).ldn 0 0 (a0.length * 35) = some (encs eFlight (a0.map tickF)):=by
        show takeC (dropN (encs eFlight (a0.map tickF)) 0) (a0.length * 35) = _
        rw [drop_zero']
        refine takeC_pure ?_ ?_ ?_
        · rw [List.take_of_length_le (by rw [encs_len (f:=eFlight),List.length_map]; exact Nat.le_refl _)]
        · rw [encs_len (f:=eFlight),List.length_map]
        · exact encs_pureC (f:=eFlight) _
      show (bif Nat.beq a0.length 0 then _ else (bif Nat.ble 0 0 then (match (H25 (a0.map tickF)).ldn 0 0 (a0.length * 35) with
        | none => none
        | some cs => bif pureL cs then some (V.fz .no a0.length 35 cs) else _) else none)) = _
      have hb : Nat.beq a0.length 0 = false:=by
        cases e : Nat.beq a0.length 0 with
        | false => rfl
        | true => exact (hn0 (by rw [Nat.beq_eq] at e; exact e)).elim
      rw [hb,hld]
      have hp : pureL (encs eFlight (a0.map tickF)) = true:=encs_pureC (f:=eFlight) _
      simp only [cond_false,hp,cond_true,eSl,List.length_map]
      rfl
    simp [post25,k3,n25,hz]
end
end Go.Ev
namespace Go.Ev
noncomputable section
set_option maxHeartbeats 4000000
theorem w9 {n : Nat} (hn : 1 ≤ n) (a0 : GCore) (qs : List Nat) (h : H) : callPv (EV n) 9 qs [.a (eCore a0)] h = (n9 a0).map fun r => (.b r,h):=by
  obtain ⟨m,rfl⟩:=pm hn
  rw [callPv_eq,EV_at t9,f9,runF_eq]
  simp [n9,lay_pure]
theorem w97 {n : Nat} (hn : 1 ≤ n) (a0 : Int) (a1 : Int) (a2 : Int) (qs : List Nat) (h : H) : callPv (EV n) 97 qs [eI a0,eI a1,eI a2] h = (n97 a0 a1 a2).map fun r => (.b r,h):=by
  obtain ⟨m,rfl⟩:=pm hn
  rw [callPv_eq,EV_at t97,f97,runF_eq]
  simp [n97,lay_pure]
theorem w52_0 {n : Nat} (hn : 1 ≤ n) (b0 : GConf) : finE (EV n) LF [1,3] [2] [] 1 [] k52_0 (T.e.set 1 (.p 0 0)) ⟨1,(T.e.set 0 ⟨eConf b0,0,0⟩),.e,T.e⟩ = (n52_0 b0).map (fun (r : Bool) => (X.nrm,((T.e.set 1 (.p 0 0)).set 3 (.b r)),⟨1,(T.e.set 0 ⟨eConf b0,0,0⟩),.e,T.e⟩)):=by
  rw [finE]
  simp [k52_0,n52_0,w97 (n:=n) (by omega),lay_pure]
theorem w52_1 {n : Nat} (hn : 1 ≤ n) (v3 : Bool) (b0 : GConf) : finE (EV n) LF [1,3,4] [2] [] 1 [] k52_1 ((T.e.set 1 (.p 0 0)).set 3 (.b v3)) ⟨1,(T.e.set 0 ⟨eConf b0,0,0⟩),.e,T.e⟩ = (n52_1 b0).map (fun (r : Bool) => (X.nrm,(((T.e.set 1 (.p 0 0)).set 3 (.b v3)).set 4 (.b r)),⟨1,(T.e.set 0 ⟨eConf b0,0,0⟩),.e,T.e⟩)):=by
  rw [finE]
  simp [k52_1,n52_1,w52_0 (n:=n) (by omega),w97 (n:=n) (by omega),lay_pure]
theorem w52_2 {n : Nat} (hn : 1 ≤ n) (v3 : Bool) (v4 : Bool) (b0 : GConf) : finE (EV n) LF [1,3,4,5] [2] [] 1 [] k52_2 (((T.e.set 1 (.p 0 0)).set 3 (.b v3)).set 4 (.b v4)) ⟨1,(T.e.set 0 ⟨eConf b0,0,0⟩),.e,T.e⟩ = (n52_2 b0).map (fun (r : Bool) => (X.nrm,((((T.e.set 1 (.p 0 0)).set 3 (.b v3)).set 4 (.b v4)).set 5 (.b r)),⟨1,(T.e.set 0 ⟨eConf b0,0,0⟩),.e,T.e⟩)):=by
  rw [finE]
  simp [k52_2,n52_2,w52_0 (n:=n) (by omega),w52_1 (n:=n) (by omega),w97 (n:=n) (by omega),lay_pure]
theorem w52_3 {n : Nat} (hn : 1 ≤ n) (v3 : Bool) (v4 : Bool) (v5 : Bool) (b0 : GConf) : finE (EV n) LF [3,4,5,6] [2] [] 1 [] k52_3 ((((T.e.set 1 (.p 0 0)).set 3 (.b v3)).set 4 (.b v4)).set 5 (.b v5)) ⟨1,(T.e.set 0 ⟨eConf b0,0,0⟩),.e,T.e⟩ = (n52_3 b0).map (fun (r : Bool) => (X.nrm,((((T.e.set 3 (.b v3)).set 4 (.b v4)).set 5 (.b v5)).set 6 (.b r)),⟨1,(T.e.set 0 ⟨eConf b0,0,0⟩),.e,T.e⟩)):=by
  rw [finE]
  simp [k52_3,n52_3,w52_0 (n:=n) (by omega),w52_1 (n:=n) (by omega),w52_2 (n:=n) (by omega),w97 (n:=n) (by omega),lay_pure]
theorem w52 {n : Nat} (hn : 2 ≤ n) (a0 : GConf) (qs : List Nat) (h : H) : callPv (EV n) 52 qs [.a (eConf a0)] h = (n52 a0).map fun r => (eI r,h):=by
  obtain ⟨m,rfl⟩:=pm hn
  rw [callPv_eq,EV_at t52,f52,runF_eq]
  simp [n52,w52_0 (n:=m) (by omega),w52_1 (n:=m) (by omega),w52_2 (n:=m) (by omega),w52_3 (n:=m) (by omega),w97 (n:=m) (by omega),lay_pure]
theorem w41 {n : Nat} (hn : 3 ≤ n) (a0 : GCore) (qs : List Nat) (h : H) : callPv (EV n) 41 qs [.a (eCore a0)] h = (n41 a0).map fun r => (.b r,h):=by
  obtain ⟨m,rfl⟩:=pm hn
  rw [callPv_eq,EV_at t41,f41,runF_eq]
  simp [n41,w52 (n:=m) (by omega),lay_pure]
theorem w42_1 {n : Nat} (hn : 0 ≤ n) (v0 : List GRob) (v3 : Int) (v4 : Int) : finE (EV n) LF [0,3,4,37] [2] [] 0 [] k42_1 (((T.e.set 0 (eSl 35 eRob v0)).set 3 (eI v3)).set 4 (eI v4)) ⟨0,T.e,.e,T.e⟩ = (n42_1 v0 v3).map (fun (r : Bool) => (X.nrm,((((T.e.set 0 (eSl 35 eRob v0)).set 3 (eI v3)).set 4 (eI v4)).set 37 (.b r)),⟨0,T.e,.e,T.e⟩)):=by
  rw [finE]
  simp [k42_1,n42_1,lay_pure]
theorem w42_2 {n : Nat} (hn : 0 ≤ n) (v0 : List GRob) (v3 : Int) (v4 : Int) : finE (EV n) LF [0,3,4,50] [2] [] 0 [] k42_2 (((T.e.set 0 (eSl 35 eRob v0)).set 3 (eI v3)).set 4 (eI v4)) ⟨0,T.e,.e,T.e⟩ = (n42_2 v0 v3).map (fun (r : Bool) => (X.nrm,((((T.e.set 0 (eSl 35 eRob v0)).set 3 (eI v3)).set 4 (eI v4)).set 50 (.b r)),⟨0,T.e,.e,T.e⟩)):=by
  rw [finE]
  simp [k42_2,n42_2,w42_1 (n:=n) (by omega),lay_pure]
theorem w42_3 {n : Nat} (hn : 0 ≤ n) (v0 : List GRob) (v3 : Int) (v4 : Int) (v50 : Bool) : finE (EV n) LF [0,3,4] [2] [] 0 [] k42_3 ((((T.e.set 0 (eSl 35 eRob v0)).set 3 (eI v3)).set 4 (eI v4)).set 50 (.b v50)) ⟨0,T.e,.e,T.e⟩ = (n42_3 v0 v3 v4 v50).map (fun (r : Int) => (X.nrm,(((T.e.set 0 (eSl 35 eRob v0)).set 3 (eI v3)).set 4 (eI r)),⟨0,T.e,.e,T.e⟩)):=by
  rw [finE]
  simp [k42_3,n42_3,w42_1 (n:=n) (by omega),w42_2 (n:=n) (by omega),lay_pure]
theorem w42_0 {n : Nat} (hn : 0 ≤ n) (v0 : List GRob) (s : Int) : finE (EV n) LF [0,3] [2] [0] 0 [] k42_0 ((T.e.set 0 (eSl 35 eRob v0)).set 3 (eI s)) ⟨0,T.e,.e,T.e⟩ = (n42_0 v0 s).map (Sum.elim (fun s => (X.nrm,((T.e.set 0 (eSl 35 eRob v0)).set 3 (eI s)),⟨0,T.e,.e,T.e⟩)) (Sum.elim (fun (r : Unit) => (X.exit 0,(T.e.set 0 (eSl 35 eRob v0)),⟨0,T.e,.e,T.e⟩)) (fun (r : Unit) => (X.ret,(T.e.set 2 (.b false)),⟨0,T.e,.e,T.e⟩)))):=by
  rw [finE]
  simp [k42_0,n42_0,w42_1 (n:=n) (by omega),w42_2 (n:=n) (by omega),w42_3 (n:=n) (by omega),lay_pure]
theorem l42_0 {n : Nat} (hn : 0 ≤ n) (v0 : List GRob) (v3 : Int) : loopE (EV n) LF [0,3] [2] [0] 0 [] k42_0 ((T.e.set 0 (eSl 35 eRob v0)).set 3 (eI v3)) ⟨0,T.e,.e,T.e⟩ = (loopN (n42_0 v0) LF v3).map (Sum.elim (fun (r : Unit) => (X.exit 0,(T.e.set 0 (eSl 35 eRob v0)),⟨0,T.e,.e,T.e⟩)) (fun (r : Unit) => (X.ret,(T.e.set 2 (.b false)),⟨0,T.e,.e,T.e⟩))):=by
  exact loop_rule (E:=fun s : Int => ((T.e.set 0 (eSl 35 eRob v0)).set 3 (eI s))) (B:=fun s : Int => ⟨0,T.e,.e,T.e⟩) (out:=(Sum.elim (fun (r : Unit) => (X.exit 0,(T.e.set 0 (eSl 35 eRob v0)),⟨0,T.e,.e,T.e⟩)) (fun (r : Unit) => (X.ret,(T.e.set 2 (.b false)),⟨0,T.e,.e,T.e⟩)))) (fun r => by rcases r with r | r <;> simp)
    (fun s => w42_0 hn v0 s) (fun s => by simp [lay_pure]) v3
theorem w42 {n : Nat} (hn : 1 ≤ n) (a0 : List GRob) (qs : List Nat) (h : H) : callPv (EV n) 42 qs [eSl 35 eRob a0] h = (n42 a0).map fun r => (.b r,h):=by
  obtain ⟨m,rfl⟩:=pm hn
  rw [callPv_eq,EV_at t42,f42,runF_eq]
  simp [n42,w42_1 (n:=m) (by omega),w42_2 (n:=m) (by omega),w42_3 (n:=m) (by omega),l42_0 (n:=m) (by omega),lay_pure]
theorem w84_1 {n : Nat} (hn : 0 ≤ n) (v1 : Int) (v5 : Int) (b0 : Arr Int 16) : finE (EV n) LF [1,2,5,24] [4] [] 1 [] k84_1 (((T.e.set 1 (eI v1)).set 2 (.p 0 0)).set 5 (eI v5)) ⟨1,(T.e.set 0 ⟨(eAr cI) b0,0,0⟩),.e,T.e⟩ = (n84_1 v1 v5 b0).map (fun (r : Bool) => (X.nrm,((((T.e.set 1 (eI v1)).set 2 (.p 0 0)).set 5 (eI v5)).set 24 (.b r)),⟨1,(T.e.set 0 ⟨(eAr cI) b0,0,0⟩),.e,T.e⟩)):=by
  rw [finE]
  simp [k84_1,n84_1,lay_pure]
theorem w84_2 {n : Nat} (hn : 0 ≤ n) (v1 : Int) (v5 : Int) (b0 : Arr Int 16) (s : Int) : finE (EV n) LF [1,2,5,6] [4] [1,2,5] 1 [] k84_2 ((((T.e.set 1 (eI v1)).set 2 (.p 0 0)).set 5 (eI v5)).set 6 (eI s)) ⟨1,(T.e.set 0 ⟨(eAr cI) b0,0,0⟩),.e,T.e⟩ = (n84_2 v5 b0 s).map (Sum.elim (fun s => (X.nrm,((((T.e.set 1 (eI v1)).set 2 (.p 0 0)).set 5 (eI v5)).set 6 (eI s)),⟨1,(T.e.set 0 ⟨(eAr cI) b0,0,0⟩),.e,T.e⟩)) (Sum.elim (fun (r : Unit) => (X.exit 2,(((T.e.set 1 (eI v1)).set 2 (.p 0 0)).set 5 (eI v5)),⟨1,(T.e.set 0 ⟨(eAr cI) b0,0,0⟩),.e,T.e⟩)) (fun (r : Unit) => (X.ret,(T.e.set 4 (.b false)),⟨1,(T.e.set 0 ⟨(eAr cI) b0,0,0⟩),.e,T.e⟩)))):=by
  rw [finE]
  simp [k84_2,n84_2,w84_1 (n:=n) (by omega),lay_pure]
theorem l84_2 {n : Nat} (hn : 0 ≤ n) (v1 : Int) (v5 : Int) (v6 : Int) (b0 : Arr Int 16) : loopE (EV n) LF [1,2,5,6] [4] [1,2,5] 1 [] k84_2 ((((T.e.set 1 (eI v1)).set 2 (.p 0 0)).set 5 (eI v5)).set 6 (eI v6)) ⟨1,(T.e.set 0 ⟨(eAr cI) b0,0,0⟩),.e,T.e⟩ = (loopN (n84_2 v5 b0) LF v6).map (Sum.elim (fun (r : Unit) => (X.exit 2,(((T.e.set 1 (eI v1)).set 2 (.p 0 0)).set 5 (eI v5)),⟨1,(T.e.set 0 ⟨(eAr cI) b0,0,0⟩),.e,T.e⟩)) (fun (r : Unit) => (X.ret,(T.e.set 4 (.b false)),⟨1,(T.e.set 0 ⟨(eAr cI) b0,0,0⟩),.e,T.e⟩))):=by
  exact loop_rule (E:=fun s : Int => ((((T.e.set 1 (eI v1)).set 2 (.p 0 0)).set 5 (eI v5)).set 6 (eI s))) (B:=fun s : Int => ⟨1,(T.e.set 0 ⟨(eAr cI) b0,0,0⟩),.e,T.e⟩) (out:=(Sum.elim (fun (r : Unit) => (X.exit 2,(((T.e.set 1 (eI v1)).set 2 (.p 0 0)).set 5 (eI v5)),⟨1,(T.e.set 0 ⟨(eAr cI) b0,0,0⟩),.e,T.e⟩)) (fun (r : Unit) => (X.ret,(T.e.set 4 (.b false)),⟨1,(T.e.set 0 ⟨(eAr cI) b0,0,0⟩),.e,T.e⟩)))) (fun r => by rcases r with r | r <;> simp)
    (fun s => w84_2 hn v1 v5 b0 s) (fun s => by simp [lay_pure]) v6
theorem w84_0 {n : Nat} (hn : 0 ≤ n) (v1 : Int) (b0 : Arr Int 16) (s : Int) : finE (EV n) LF [1,2,5] [4] [] 1 [] k84_0 (((T.e.set 1 (eI v1)).set 2 (.p 0 0)).set 5 (eI s)) ⟨1,(T.e.set 0 ⟨(eAr cI) b0,0,0⟩),.e,T.e⟩ = (n84_0 v1 b0 s).map (Sum.elim (fun s => (X.nrm,(((T.e.set 1 (eI v1)).set 2 (.p 0 0)).set 5 (eI s)),⟨1,(T.e.set 0 ⟨(eAr cI) b0,0,0⟩),.e,T.e⟩)) (Sum.elim (fun (r : Unit) => (X.exit 0,T.e,⟨1,(T.e.set 0 ⟨(eAr cI) b0,0,0⟩),.e,T.e⟩)) (fun (r : Unit) => (X.ret,(T.e.set 4 (.b false)),⟨1,(T.e.set 0 ⟨(eAr cI) b0,0,0⟩),.e,T.e⟩)))):=by
  rw [finE]
  simp [k84_0,n84_0,w84_1 (n:=n) (by omega),l84_2 (n:=n) (by omega),lay_pure]
theorem l84_0 {n : Nat} (hn : 0 ≤ n) (v1 : Int) (v5 : Int) (b0 : Arr Int 16) : loopE (EV n) LF [1,2,5] [4] [] 1 [] k84_0 (((T.e.set 1 (eI v1)).set 2 (.p 0 0)).set 5 (eI v5)) ⟨1,(T.e.set 0 ⟨(eAr cI) b0,0,0⟩),.e,T.e⟩ = (loopN (n84_0 v1 b0) LF v5).map (Sum.elim (fun (r : Unit) => (X.exit 0,T.e,⟨1,(T.e.set 0 ⟨(eAr cI) b0,0,0⟩),.e,T.e⟩)) (fun (r : Unit) => (X.ret,(T.e.set 4 (.b false)),⟨1,(T.e.set 0 ⟨(eAr cI) b0,0,0⟩),.e,T.e⟩))):=by
  exact loop_rule (E:=fun s : Int => (((T.e.set 1 (eI v1)).set 2 (.p 0 0)).set 5 (eI s))) (B:=fun s : Int => ⟨1,(T.e.set 0 ⟨(eAr cI) b0,0,0⟩),.e,T.e⟩) (out:=(Sum.elim (fun (r : Unit) => (X.exit 0,T.e,⟨1,(T.e.set 0 ⟨(eAr cI) b0,0,0⟩),.e,T.e⟩)) (fun (r : Unit) => (X.ret,(T.e.set 4 (.b false)),⟨1,(T.e.set 0 ⟨(eAr cI) b0,0,0⟩),.e,T.e⟩)))) (fun r => by rcases r with r | r <;> simp)
    (fun s => w84_0 hn v1 b0 s) (fun s => by simp [lay_pure]) v5
theorem w84 {n : Nat} (hn : 1 ≤ n) (a0 : Arr Int 16) (a1 : Int) (qs : List Nat) (h : H) : callPv (EV n) 84 qs [.a ((eAr cI) a0),eI a1] h = (n84 a0 a1).map fun r => (.b r,h):=by
  obtain ⟨m,rfl⟩:=pm hn
  rw [callPv_eq,EV_at t84,f84,runF_eq]
  simp [n84,w84_1 (n:=m) (by omega),l84_2 (n:=m) (by omega),l84_0 (n:=m) (by omega),lay_pure]
theorem w173_0 {n : Nat} (hn : 0 ≤ n) (v3 : Int) (b0 : GFree) : finE (EV n) LF [1,3,19] [2] [] 1 [] k173_0 ((T.e.set 1 (.p 0 0)).set 3 (eI v3)) ⟨1,(T.e.set 0 ⟨eFree b0,0,0⟩),.e,T.e⟩ = (n173_0 v3 b0).map (fun (r : Bool) => (X.nrm,(((T.e.set 1 (.p 0 0)).set 3 (eI v3)).set 19 (.b r)),⟨1,(T.e.set 0 ⟨eFree b0,0,0⟩),.e,T.e⟩)):=by
  rw [finE]
  simp [k173_0,n173_0,lay_pure]
theorem w173 {n : Nat} (hn : 1 ≤ n) (a0 : GFree) (qs : List Nat) (h : H) : callPv (EV n) 173 qs [.a (eFree a0)] h = (n173 a0).map fun r => (.b r,h):=by
  obtain ⟨m,rfl⟩:=pm hn
  rw [callPv_eq,EV_at t173,f173,runF_eq]
  simp [n173,w173_0 (n:=m) (by omega),lay_pure]
theorem tk17402 (e : Nat) : V.fz (.tk 17402 e) 0 1 [] = eTk 17402 e 1 cI []:=nr rfl
theorem tk17405 (e : Nat) : V.fz (.tk 17405 e) 0 1 [] = eTk 17405 e 1 cI []:=nr rfl
theorem w174_0 {n : Nat} (hn : 1 ≤ n) (b0 : GFree) (q17402 : Nat) (s : List Int × Int) : finE (EV n) LF [1,3,4] [2] [3] 1 [17402,17405] k174_0 (((T.e.set 1 (.p 0 0)).set 3 (eTk 17405 0 1 cI s.1)).set 4 (eI s.2)) ⟨1,(T.e.set 0 ⟨eFree b0,0,0⟩),.e,((T.e.set 17402 (0,q17402,1)).set 17405 (0,s.1.length,1))⟩ = (n174_0 b0 s).map (Sum.elim (fun s => (X.nrm,(((T.e.set 1 (.p 0 0)).set 3 (eTk 17405 0 1 cI s.1)).set 4 (eI s.2)),⟨1,(T.e.set 0 ⟨eFree b0,0,0⟩),.e,((T.e.set 17402 (0,q17402,1)).set 17405 (0,s.1.length,1))⟩)) (fun (r : List Int) => (X.exit 0,(T.e.set 3 (eTk 17405 0 1 cI r)),⟨1,(T.e.set 0 ⟨eFree b0,0,0⟩),.e,((T.e.set 17402 (0,q17402,1)).set 17405 (0,r.length,1))⟩))):=by
  rw [finE]
  simp [k174_0,n174_0,w173 (n:=n) (by omega),tk17402,tk17405,ex1_3,appT_ex,appT_tk,appT_ex1,appT_tk1,encs_pureC,lay_pure]
theorem l174_0 {n : Nat} (hn : 1 ≤ n) (v3 : List Int) (v4 : Int) (b0 : GFree) (q17402 : Nat) (q17405 : Nat) (h17405 : q17405 = v3.length) : loopE (EV n) LF [1,3,4] [2] [3] 1 [17402,17405] k174_0 (((T.e.set 1 (.p 0 0)).set 3 (eTk 17405 0 1 cI v3)).set 4 (eI v4)) ⟨1,(T.e.set 0 ⟨eFree b0,0,0⟩),.e,((T.e.set 17402 (0,q17402,1)).set 17405 (0,q17405,1))⟩ = (loopN (n174_0 b0) LF (v3,v4)).map (fun (r : List Int) => (X.exit 0,(T.e.set 3 (eTk 17405 0 1 cI r)),⟨1,(T.e.set 0 ⟨eFree b0,0,0⟩),.e,((T.e.set 17402 (0,q17402,1)).set 17405 (0,r.length,1))⟩)):=by
  subst h17405
  exact loop_rule (E:=fun s : List Int × Int => (((T.e.set 1 (.p 0 0)).set 3 (eTk 17405 0 1 cI s.1)).set 4 (eI s.2))) (B:=fun s : List Int × Int => ⟨1,(T.e.set 0 ⟨eFree b0,0,0⟩),.e,((T.e.set 17402 (0,q17402,1)).set 17405 (0,s.1.length,1))⟩) (out:=(fun (r : List Int) => (X.exit 0,(T.e.set 3 (eTk 17405 0 1 cI r)),⟨1,(T.e.set 0 ⟨eFree b0,0,0⟩),.e,((T.e.set 17402 (0,q17402,1)).set 17405 (0,r.length,1))⟩))) (fun r => by simp)
    (fun s => w174_0 hn b0 q17402 s) (fun s => by simp [lay_pure]) (v3,v4)
theorem w174 {n : Nat} (hn : 2 ≤ n) (a0 : GFree) (qs : List Nat) (h : H) : callPv (EV n) 174 qs [.a (eFree a0)] h = (n174 a0).map fun r => (eSl 1 cI r,h):=by
  obtain ⟨m,rfl⟩:=pm hn
  rw [callPv_eq,EV_at t174,f174,runF_eq]
  simp [n174,l174_0 (n:=m) (by omega),w173 (n:=m) (by omega),tk17402,tk17405,ex1_3,appT_ex,appT_tk,appT_ex1,appT_tk1,encs_pureC,lay_pure]
theorem wt174 {n : Nat} (hn : 2 ≤ n) (a0 : GFree) (k : Nat) (h : H) : callTv (EV n) k 174 [.a (eFree a0)] h = (n174 a0).map fun r => (eTk k (h.ep k) 1 cI r,⟨h.nb,h.bl,h.gr,h.tk.set k (h.ep k,r.length,1)⟩):=by
  obtain ⟨m,rfl⟩:=pm hn
  rw [callTv_eq,EV_at t174,f174,runF_eq]
  simp [n174,l174_0 (n:=m) (by omega),w173 (n:=m) (by omega),tk17402,tk17405,ex1_3,appT_ex,appT_tk,appT_ex1,appT_tk1,encs_pureC,lay_pure]
theorem w85_0 {n : Nat} (hn : 2 ≤ n) (v1 : Int) (b0 : GFree) : finE (EV n) LF [1,2,17] [4] [] 1 [] k85_0 ((T.e.set 1 (eI v1)).set 2 (.p 0 0)) ⟨1,(T.e.set 0 ⟨eFree b0,0,0⟩),.e,T.e⟩ = (n85_0 v1 b0).map (fun (r : Bool) => (X.nrm,(((T.e.set 1 (eI v1)).set 2 (.p 0 0)).set 17 (.b r)),⟨1,(T.e.set 0 ⟨eFree b0,0,0⟩),.e,T.e⟩)):=by
  rw [finE]
  simp [k85_0,n85_0,w173 (n:=n) (by omega),w174 (n:=n) (by omega),lay_pure]
theorem w85_2 {n : Nat} (hn : 2 ≤ n) (v1 : Int) (v5 : List Int) (v6 : Int) (b0 : GFree) : finE (EV n) LF [1,5,6,38] [4] [] 1 [] k85_2 (((T.e.set 1 (eI v1)).set 5 (eSl 1 cI v5)).set 6 (eI v6)) ⟨1,(T.e.set 0 ⟨eFree b0,0,0⟩),.e,T.e⟩ = (n85_2 v1 v5 v6).map (fun (r : Bool) => (X.nrm,((((T.e.set 1 (eI v1)).set 5 (eSl 1 cI v5)).set 6 (eI v6)).set 38 (.b r)),⟨1,(T.e.set 0 ⟨eFree b0,0,0⟩),.e,T.e⟩)):=by
  rw [finE]
  simp [k85_2,n85_2,w85_0 (n:=n) (by omega),w173 (n:=n) (by omega),w174 (n:=n) (by omega),lay_pure]
theorem w85_3 {n : Nat} (hn : 2 ≤ n) (v1 : Int) (v5 : List Int) (v6 : Int) (b0 : GFree) (s : Int) : finE (EV n) LF [1,5,6,7] [4] [1,5,6] 1 [] k85_3 ((((T.e.set 1 (eI v1)).set 5 (eSl 1 cI v5)).set 6 (eI v6)).set 7 (eI s)) ⟨1,(T.e.set 0 ⟨eFree b0,0,0⟩),.e,T.e⟩ = (n85_3 v5 v6 s).map (Sum.elim (fun s => (X.nrm,((((T.e.set 1 (eI v1)).set 5 (eSl 1 cI v5)).set 6 (eI v6)).set 7 (eI s)),⟨1,(T.e.set 0 ⟨eFree b0,0,0⟩),.e,T.e⟩)) (Sum.elim (fun (r : Unit) => (X.exit 2,(((T.e.set 1 (eI v1)).set 5 (eSl 1 cI v5)).set 6 (eI v6)),⟨1,(T.e.set 0 ⟨eFree b0,0,0⟩),.e,T.e⟩)) (fun (r : Unit) => (X.ret,(T.e.set 4 (.b false)),⟨1,(T.e.set 0 ⟨eFree b0,0,0⟩),.e,T.e⟩)))):=by
  rw [finE]
  simp [k85_3,n85_3,w85_0 (n:=n) (by omega),w85_2 (n:=n) (by omega),w173 (n:=n) (by omega),w174 (n:=n) (by omega),lay_pure]
theorem l85_3 {n : Nat} (hn : 2 ≤ n) (v1 : Int) (v5 : List Int) (v6 : Int) (v7 : Int) (b0 : GFree) : loopE (EV n) LF [1,5,6,7] [4] [1,5,6] 1 [] k85_3 ((((T.e.set 1 (eI v1)).set 5 (eSl 1 cI v5)).set 6 (eI v6)).set 7 (eI v7)) ⟨1,(T.e.set 0 ⟨eFree b0,0,0⟩),.e,T.e⟩ = (loopN (n85_3 v5 v6) LF v7).map (Sum.elim (fun (r : Unit) => (X.exit 2,(((T.e.set 1 (eI v1)).set 5 (eSl 1 cI v5)).set 6 (eI v6)),⟨1,(T.e.set 0 ⟨eFree b0,0,0⟩),.e,T.e⟩)) (fun (r : Unit) => (X.ret,(T.e.set 4 (.b false)),⟨1,(T.e.set 0 ⟨eFree b0,0,0⟩),.e,T.e⟩))):=by
  exact loop_rule (E:=fun s : Int => ((((T.e.set 1 (eI v1)).set 5 (eSl 1 cI v5)).set 6 (eI v6)).set 7 (eI s))) (B:=fun s : Int => ⟨1,(T.e.set 0 ⟨eFree b0,0,0⟩),.e,T.e⟩) (out:=(Sum.elim (fun (r : Unit) => (X.exit 2,(((T.e.set 1 (eI v1)).set 5 (eSl 1 cI v5)).set 6 (eI v6)),⟨1,(T.e.set 0 ⟨eFree b0,0,0⟩),.e,T.e⟩)) (fun (r : Unit) => (X.ret,(T.e.set 4 (.b false)),⟨1,(T.e.set 0 ⟨eFree b0,0,0⟩),.e,T.e⟩)))) (fun r => by rcases r with r | r <;> simp)
    (fun s => w85_3 hn v1 v5 v6 b0 s) (fun s => by simp [lay_pure]) v7
theorem w85_1 {n : Nat} (hn : 2 ≤ n) (v1 : Int) (v5 : List Int) (b0 : GFree) (s : Int) : finE (EV n) LF [1,5,6] [4] [] 1 [] k85_1 (((T.e.set 1 (eI v1)).set 5 (eSl 1 cI v5)).set 6 (eI s)) ⟨1,(T.e.set 0 ⟨eFree b0,0,0⟩),.e,T.e⟩ = (n85_1 v1 v5 s).map (Sum.elim (fun s => (X.nrm,(((T.e.set 1 (eI v1)).set 5 (eSl 1 cI v5)).set 6 (eI s)),⟨1,(T.e.set 0 ⟨eFree b0,0,0⟩),.e,T.e⟩)) (Sum.elim (fun (r : Unit) => (X.exit 0,T.e,⟨1,(T.e.set 0 ⟨eFree b0,0,0⟩),.e,T.e⟩)) (fun (r : Unit) => (X.ret,(T.e.set 4 (.b false)),⟨1,(T.e.set 0 ⟨eFree b0,0,0⟩),.e,T.e⟩)))):=by
  rw [finE]
  simp [k85_1,n85_1,w85_0 (n:=n) (by omega),w85_2 (n:=n) (by omega),l85_3 (n:=n) (by omega),w173 (n:=n) (by omega),w174 (n:=n) (by omega),lay_pure]
theorem l85_1 {n : Nat} (hn : 2 ≤ n) (v1 : Int) (v5 : List Int) (v6 : Int) (b0 : GFree) : loopE (EV n) LF [1,5,6] [4] [] 1 [] k85_1 (((T.e.set 1 (eI v1)).set 5 (eSl 1 cI v5)).set 6 (eI v6)) ⟨1,(T.e.set 0 ⟨eFree b0,0,0⟩),.e,T.e⟩ = (loopN (n85_1 v1 v5) LF v6).map (Sum.elim (fun (r : Unit) => (X.exit 0,T.e,⟨1,(T.e.set 0 ⟨eFree b0,0,0⟩),.e,T.e⟩)) (fun (r : Unit) => (X.ret,(T.e.set 4 (.b false)),⟨1,(T.e.set 0 ⟨eFree b0,0,0⟩),.e,T.e⟩))):=by
  exact loop_rule (E:=fun s : Int => (((T.e.set 1 (eI v1)).set 5 (eSl 1 cI v5)).set 6 (eI s))) (B:=fun s : Int => ⟨1,(T.e.set 0 ⟨eFree b0,0,0⟩),.e,T.e⟩) (out:=(Sum.elim (fun (r : Unit) => (X.exit 0,T.e,⟨1,(T.e.set 0 ⟨eFree b0,0,0⟩),.e,T.e⟩)) (fun (r : Unit) => (X.ret,(T.e.set 4 (.b false)),⟨1,(T.e.set 0 ⟨eFree b0,0,0⟩),.e,T.e⟩)))) (fun r => by rcases r with r | r <;> simp)
    (fun s => w85_1 hn v1 v5 b0 s) (fun s => by simp [lay_pure]) v6
theorem w85 {n : Nat} (hn : 3 ≤ n) (a0 : GFree) (a1 : Int) (qs : List Nat) (h : H) : callPv (EV n) 85 qs [.a (eFree a0),eI a1] h = (n85 a0 a1).map fun r => (.b r,h):=by
  obtain ⟨m,rfl⟩:=pm hn
  rw [callPv_eq,EV_at t85,f85,runF_eq]
  simp [n85,w85_0 (n:=m) (by omega),w85_2 (n:=m) (by omega),l85_3 (n:=m) (by omega),l85_1 (n:=m) (by omega),w173 (n:=m) (by omega),w174 (n:=m) (by omega),lay_pure]
end
end Go.Ev
namespace Go.Ev
noncomputable section
set_option maxHeartbeats 4000000
theorem w86 {n : Nat} (hn : 1 ≤ n) (a0 : GUop) (qs : List Nat) (h : H) : callPv (EV n) 86 qs [.a (eUop a0)] h = (n86 a0).map fun r => (.b r,h):=by
  obtain ⟨m,rfl⟩:=pm hn
  rw [callPv_eq,EV_at t86,f86,runF_eq]
  simp [n86,lay_pure]
theorem w175_0 {n : Nat} (hn : 0 ≤ n) (v0 : List Int) (v1 : Int) (s : Int × Int) : finE (EV n) LF [0,1,5,6] [4] [5] 0 [] k175_0 ((((T.e.set 0 (eSl 1 cI v0)).set 1 (eI v1)).set 5 (eI s.1)).set 6 (eI s.2)) ⟨0,T.e,.e,T.e⟩ = (n175_0 v0 v1 s).map (Sum.elim (fun s => (X.nrm,((((T.e.set 0 (eSl 1 cI v0)).set 1 (eI v1)).set 5 (eI s.1)).set 6 (eI s.2)),⟨0,T.e,.e,T.e⟩)) (fun (r : Int) => (X.exit 0,(T.e.set 5 (eI r)),⟨0,T.e,.e,T.e⟩))):=by
  rw [finE]
  simp [k175_0,n175_0,lay_pure]
theorem l175_0 {n : Nat} (hn : 0 ≤ n) (v0 : List Int) (v1 : Int) (v5 : Int) (v6 : Int) : loopE (EV n) LF [0,1,5,6] [4] [5] 0 [] k175_0 ((((T.e.set 0 (eSl 1 cI v0)).set 1 (eI v1)).set 5 (eI v5)).set 6 (eI v6)) ⟨0,T.e,.e,T.e⟩ = (loopN (n175_0 v0 v1) LF (v5,v6)).map (fun (r : Int) => (X.exit 0,(T.e.set 5 (eI r)),⟨0,T.e,.e,T.e⟩)):=by
  exact loop_rule (E:=fun s : Int × Int => ((((T.e.set 0 (eSl 1 cI v0)).set 1 (eI v1)).set 5 (eI s.1)).set 6 (eI s.2))) (B:=fun s : Int × Int => ⟨0,T.e,.e,T.e⟩) (out:=(fun (r : Int) => (X.exit 0,(T.e.set 5 (eI r)),⟨0,T.e,.e,T.e⟩))) (fun r => by simp)
    (fun s => w175_0 hn v0 v1 s) (fun s => by simp [lay_pure]) (v5,v6)
theorem w175 {n : Nat} (hn : 1 ≤ n) (a0 : List Int) (a1 : Int) (qs : List Nat) (h : H) : callPv (EV n) 175 qs [eSl 1 cI a0,eI a1] h = (n175 a0 a1).map fun r => (eI r,h):=by
  obtain ⟨m,rfl⟩:=pm hn
  rw [callPv_eq,EV_at t175,f175,runF_eq]
  simp [n175,l175_0 (n:=m) (by omega),lay_pure]
theorem w87_0 {n : Nat} (hn : 2 ≤ n) (v1 : Int) (v2 : List GRen) (b0 : GNames) (s : List Int × Int) : finE (EV n) LF [1,2,3,7,8] [6] [1,2,7] 1 [8713] k87_0 (((((T.e.set 1 (eI v1)).set 2 (eSl 29 eRen v2)).set 3 (.p 0 0)).set 7 (eTk 8713 0 1 cI s.1)).set 8 (eI s.2)) ⟨1,(T.e.set 0 ⟨eNames b0,0,0⟩),.e,(T.e.set 8713 (0,s.1.length,1))⟩ = (n87_0 b0 s).map (Sum.elim (fun s => (X.nrm,(((((T.e.set 1 (eI v1)).set 2 (eSl 29 eRen v2)).set 3 (.p 0 0)).set 7 (eTk 8713 0 1 cI s.1)).set 8 (eI s.2)),⟨1,(T.e.set 0 ⟨eNames b0,0,0⟩),.e,(T.e.set 8713 (0,s.1.length,1))⟩)) (fun (r : List Int) => (X.exit 0,(((T.e.set 1 (eI v1)).set 2 (eSl 29 eRen v2)).set 7 (eTk 8713 0 1 cI r)),⟨1,(T.e.set 0 ⟨eNames b0,0,0⟩),.e,(T.e.set 8713 (0,r.length,1))⟩))):=by
  rw [finE]
  simp [k87_0,n87_0,w174 (n:=n) (by omega),w175 (n:=n) (by omega),wt174 (n:=n) (by omega),ex1_3,appT_ex,appT_tk,appT_ex1,appT_tk1,encs_pureC,lay_pure]
theorem l87_0 {n : Nat} (hn : 2 ≤ n) (v1 : Int) (v2 : List GRen) (v7 : List Int) (v8 : Int) (b0 : GNames) (q8713 : Nat) (h8713 : q8713 = v7.length) : loopE (EV n) LF [1,2,3,7,8] [6] [1,2,7] 1 [8713] k87_0 (((((T.e.set 1 (eI v1)).set 2 (eSl 29 eRen v2)).set 3 (.p 0 0)).set 7 (eTk 8713 0 1 cI v7)).set 8 (eI v8)) ⟨1,(T.e.set 0 ⟨eNames b0,0,0⟩),.e,(T.e.set 8713 (0,q8713,1))⟩ = (loopN (n87_0 b0) LF (v7,v8)).map (fun (r : List Int) => (X.exit 0,(((T.e.set 1 (eI v1)).set 2 (eSl 29 eRen v2)).set 7 (eTk 8713 0 1 cI r)),⟨1,(T.e.set 0 ⟨eNames b0,0,0⟩),.e,(T.e.set 8713 (0,r.length,1))⟩)):=by
  subst h8713
  exact loop_rule (E:=fun s : List Int × Int => (((((T.e.set 1 (eI v1)).set 2 (eSl 29 eRen v2)).set 3 (.p 0 0)).set 7 (eTk 8713 0 1 cI s.1)).set 8 (eI s.2))) (B:=fun s : List Int × Int => ⟨1,(T.e.set 0 ⟨eNames b0,0,0⟩),.e,(T.e.set 8713 (0,s.1.length,1))⟩) (out:=(fun (r : List Int) => (X.exit 0,(((T.e.set 1 (eI v1)).set 2 (eSl 29 eRen v2)).set 7 (eTk 8713 0 1 cI r)),⟨1,(T.e.set 0 ⟨eNames b0,0,0⟩),.e,(T.e.set 8713 (0,r.length,1))⟩))) (fun r => by simp)
    (fun s => w87_0 hn v1 v2 b0 s) (fun s => by simp [lay_pure]) (v7,v8)
theorem w87_1 {n : Nat} (hn : 2 ≤ n) (v1 : Int) (v2 : List GRen) (b0 : GNames) (s : List Int × Int) : finE (EV n) LF [1,2,7,9] [6] [1,7] 1 [8713] k87_1 ((((T.e.set 1 (eI v1)).set 2 (eSl 29 eRen v2)).set 7 (eTk 8713 0 1 cI s.1)).set 9 (eI s.2)) ⟨1,(T.e.set 0 ⟨eNames b0,0,0⟩),.e,(T.e.set 8713 (0,s.1.length,1))⟩ = (n87_1 v2 s).map (Sum.elim (fun s => (X.nrm,((((T.e.set 1 (eI v1)).set 2 (eSl 29 eRen v2)).set 7 (eTk 8713 0 1 cI s.1)).set 9 (eI s.2)),⟨1,(T.e.set 0 ⟨eNames b0,0,0⟩),.e,(T.e.set 8713 (0,s.1.length,1))⟩)) (fun (r : List Int) => (X.exit 2,((T.e.set 1 (eI v1)).set 7 (eTk 8713 0 1 cI r)),⟨1,(T.e.set 0 ⟨eNames b0,0,0⟩),.e,(T.e.set 8713 (0,r.length,1))⟩))):=by
  rw [finE]
  simp [k87_1,n87_1,l87_0 (n:=n) (by omega),w174 (n:=n) (by omega),w175 (n:=n) (by omega),wt174 (n:=n) (by omega),ex1_3,appT_ex,appT_tk,appT_ex1,appT_tk1,encs_pureC,lay_pure]
theorem l87_1 {n : Nat} (hn : 2 ≤ n) (v1 : Int) (v2 : List GRen) (v7 : List Int) (v9 : Int) (b0 : GNames) (q8713 : Nat) (h8713 : q8713 = v7.length) : loopE (EV n) LF [1,2,7,9] [6] [1,7] 1 [8713] k87_1 ((((T.e.set 1 (eI v1)).set 2 (eSl 29 eRen v2)).set 7 (eTk 8713 0 1 cI v7)).set 9 (eI v9)) ⟨1,(T.e.set 0 ⟨eNames b0,0,0⟩),.e,(T.e.set 8713 (0,q8713,1))⟩ = (loopN (n87_1 v2) LF (v7,v9)).map (fun (r : List Int) => (X.exit 2,((T.e.set 1 (eI v1)).set 7 (eTk 8713 0 1 cI r)),⟨1,(T.e.set 0 ⟨eNames b0,0,0⟩),.e,(T.e.set 8713 (0,r.length,1))⟩)):=by
  subst h8713
  exact loop_rule (E:=fun s : List Int × Int => ((((T.e.set 1 (eI v1)).set 2 (eSl 29 eRen v2)).set 7 (eTk 8713 0 1 cI s.1)).set 9 (eI s.2))) (B:=fun s : List Int × Int => ⟨1,(T.e.set 0 ⟨eNames b0,0,0⟩),.e,(T.e.set 8713 (0,s.1.length,1))⟩) (out:=(fun (r : List Int) => (X.exit 2,((T.e.set 1 (eI v1)).set 7 (eTk 8713 0 1 cI r)),⟨1,(T.e.set 0 ⟨eNames b0,0,0⟩),.e,(T.e.set 8713 (0,r.length,1))⟩))) (fun r => by simp)
    (fun s => w87_1 hn v1 v2 b0 s) (fun s => by simp [lay_pure]) (v7,v9)
theorem w87_2 {n : Nat} (hn : 2 ≤ n) (v1 : Int) (v7 : List Int) (b0 : GNames) (s : Int) : finE (EV n) LF [1,7,10] [6] [1,7] 1 [8713] k87_2 (((T.e.set 1 (eI v1)).set 7 (eTk 8713 0 1 cI v7)).set 10 (eI s)) ⟨1,(T.e.set 0 ⟨eNames b0,0,0⟩),.e,(T.e.set 8713 (0,v7.length,1))⟩ = (n87_2 v1 v7 s).map (Sum.elim (fun s => (X.nrm,(((T.e.set 1 (eI v1)).set 7 (eTk 8713 0 1 cI v7)).set 10 (eI s)),⟨1,(T.e.set 0 ⟨eNames b0,0,0⟩),.e,(T.e.set 8713 (0,v7.length,1))⟩)) (Sum.elim (fun (r : Unit) => (X.exit 4,((T.e.set 1 (eI v1)).set 7 (eTk 8713 0 1 cI v7)),⟨1,(T.e.set 0 ⟨eNames b0,0,0⟩),.e,(T.e.set 8713 (0,v7.length,1))⟩)) (fun (r : Unit) => (X.ret,(T.e.set 6 (.b false)),⟨1,(T.e.set 0 ⟨eNames b0,0,0⟩),.e,(T.e.set 8713 (0,v7.length,1))⟩)))):=by
  rw [finE]
  simp [k87_2,n87_2,l87_0 (n:=n) (by omega),l87_1 (n:=n) (by omega),w174 (n:=n) (by omega),w175 (n:=n) (by omega),wt174 (n:=n) (by omega),ex1_3,appT_ex,appT_tk,appT_ex1,appT_tk1,encs_pureC,lay_pure]
theorem l87_2 {n : Nat} (hn : 2 ≤ n) (v1 : Int) (v7 : List Int) (v10 : Int) (b0 : GNames) (q8713 : Nat) (h8713 : q8713 = v7.length) : loopE (EV n) LF [1,7,10] [6] [1,7] 1 [8713] k87_2 (((T.e.set 1 (eI v1)).set 7 (eTk 8713 0 1 cI v7)).set 10 (eI v10)) ⟨1,(T.e.set 0 ⟨eNames b0,0,0⟩),.e,(T.e.set 8713 (0,q8713,1))⟩ = (loopN (n87_2 v1 v7) LF v10).map (Sum.elim (fun (r : Unit) => (X.exit 4,((T.e.set 1 (eI v1)).set 7 (eTk 8713 0 1 cI v7)),⟨1,(T.e.set 0 ⟨eNames b0,0,0⟩),.e,(T.e.set 8713 (0,v7.length,1))⟩)) (fun (r : Unit) => (X.ret,(T.e.set 6 (.b false)),⟨1,(T.e.set 0 ⟨eNames b0,0,0⟩),.e,(T.e.set 8713 (0,v7.length,1))⟩))):=by
  subst h8713
  exact loop_rule (E:=fun s : Int => (((T.e.set 1 (eI v1)).set 7 (eTk 8713 0 1 cI v7)).set 10 (eI s))) (B:=fun s : Int => ⟨1,(T.e.set 0 ⟨eNames b0,0,0⟩),.e,(T.e.set 8713 (0,v7.length,1))⟩) (out:=(Sum.elim (fun (r : Unit) => (X.exit 4,((T.e.set 1 (eI v1)).set 7 (eTk 8713 0 1 cI v7)),⟨1,(T.e.set 0 ⟨eNames b0,0,0⟩),.e,(T.e.set 8713 (0,v7.length,1))⟩)) (fun (r : Unit) => (X.ret,(T.e.set 6 (.b false)),⟨1,(T.e.set 0 ⟨eNames b0,0,0⟩),.e,(T.e.set 8713 (0,v7.length,1))⟩)))) (fun r => by rcases r with r | r <;> simp)
    (fun s => w87_2 hn v1 v7 b0 s) (fun s => by simp [lay_pure]) v10
theorem w87 {n : Nat} (hn : 3 ≤ n) (a0 : GNames) (a1 : Int) (a2 : List GRen) (qs : List Nat) (h : H) : callPv (EV n) 87 qs [.a (eNames a0),eI a1,eSl 29 eRen a2] h = (n87 a0 a1 a2).map fun r => (.b r,h):=by
  obtain ⟨m,rfl⟩:=pm hn
  rw [callPv_eq,EV_at t87,f87,runF_eq]
  simp [n87,l87_0 (n:=m) (by omega),l87_1 (n:=m) (by omega),l87_2 (n:=m) (by omega),w174 (n:=m) (by omega),w175 (n:=m) (by omega),wt174 (n:=m) (by omega),ex1_3,appT_ex,appT_tk,appT_ex1,appT_tk1,encs_pureC,lay_pure]
theorem w43_0 {n : Nat} (hn : 3 ≤ n) (v1 : Int) (v2 : List GRen) (b0 : GNames) : finE (EV n) LF [1,2,3,37] [6] [] 1 [] k43_0 (((T.e.set 1 (eI v1)).set 2 (eSl 29 eRen v2)).set 3 (.p 0 0)) ⟨1,(T.e.set 0 ⟨eNames b0,0,0⟩),.e,T.e⟩ = (n43_0 v1 b0).map (fun (r : Bool) => (X.nrm,((((T.e.set 1 (eI v1)).set 2 (eSl 29 eRen v2)).set 3 (.p 0 0)).set 37 (.b r)),⟨1,(T.e.set 0 ⟨eNames b0,0,0⟩),.e,T.e⟩)):=by
  rw [finE]
  simp [k43_0,n43_0,w84 (n:=n) (by omega),w85 (n:=n) (by omega),w86 (n:=n) (by omega),w87 (n:=n) (by omega),eqArr37,lay_pure]
theorem w43_2 {n : Nat} (hn : 3 ≤ n) (v1 : Int) (v2 : List GRen) (v8 : BitVec 64) (v9 : Int) (b0 : GNames) (b1 : Arr Int 16) (b2 : GRen) : finE (EV n) LF [1,2,3,7,9,10,60] [6] [] 3 [] k43_2 (((((((T.e.set 1 (eI v1)).set 2 (eSl 29 eRen v2)).set 3 (.p 0 0)).set 7 (.p 1 0)).set 8 (eU64 v8)).set 9 (eI v9)).set 10 (.p 2 0)) ⟨3,(((T.e.set 0 ⟨eNames b0,0,0⟩).set 1 ⟨(eAr cI) b1,1,0⟩).set 2 ⟨eRen b2,2,0⟩),.e,T.e⟩ = (n43_2 v8 b0 b2).map (fun (r : Bool) => (X.nrm,(((((((T.e.set 1 (eI v1)).set 2 (eSl 29 eRen v2)).set 3 (.p 0 0)).set 7 (.p 1 0)).set 9 (eI v9)).set 10 (.p 2 0)).set 60 (.b r)),⟨3,(((T.e.set 0 ⟨eNames b0,0,0⟩).set 1 ⟨(eAr cI) b1,1,0⟩).set 2 ⟨eRen b2,2,0⟩),.e,T.e⟩)):=by
  rw [finE]
  simp [k43_2,n43_2,w43_0 (n:=n) (by omega),w84 (n:=n) (by omega),w85 (n:=n) (by omega),w86 (n:=n) (by omega),w87 (n:=n) (by omega),eqArr37,lay_pure]
theorem w43_3 {n : Nat} (hn : 3 ≤ n) (v1 : Int) (v2 : List GRen) (v8 : BitVec 64) (v9 : Int) (b0 : GNames) (b1 : Arr Int 16) (b2 : GRen) : finE (EV n) LF [1,2,3,7,8,9,74] [6] [] 3 [] k43_3 (((((((T.e.set 1 (eI v1)).set 2 (eSl 29 eRen v2)).set 3 (.p 0 0)).set 7 (.p 1 0)).set 8 (eU64 v8)).set 9 (eI v9)).set 10 (.p 2 0)) ⟨3,(((T.e.set 0 ⟨eNames b0,0,0⟩).set 1 ⟨(eAr cI) b1,1,0⟩).set 2 ⟨eRen b2,2,0⟩),.e,T.e⟩ = (n43_3 b2).map (fun (r : Bool) => (X.nrm,(((((((T.e.set 1 (eI v1)).set 2 (eSl 29 eRen v2)).set 3 (.p 0 0)).set 7 (.p 1 0)).set 8 (eU64 v8)).set 9 (eI v9)).set 74 (.b r)),⟨3,(((T.e.set 0 ⟨eNames b0,0,0⟩).set 1 ⟨(eAr cI) b1,1,0⟩).set 2 ⟨eRen b2,2,0⟩),.e,T.e⟩)):=by
  rw [finE]
  simp [k43_3,n43_3,w43_0 (n:=n) (by omega),w43_2 (n:=n) (by omega),w84 (n:=n) (by omega),w85 (n:=n) (by omega),w86 (n:=n) (by omega),w87 (n:=n) (by omega),eqArr37,lay_pure]
theorem w43_4 {n : Nat} (hn : 3 ≤ n) (v1 : Int) (v2 : List GRen) (v8 : BitVec 64) (v9 : Int) (b0 : GNames) (b1 : Arr Int 16) (b2 : GRen) : finE (EV n) LF [1,2,3,7,8,9,10,87] [6] [] 3 [] k43_4 (((((((T.e.set 1 (eI v1)).set 2 (eSl 29 eRen v2)).set 3 (.p 0 0)).set 7 (.p 1 0)).set 8 (eU64 v8)).set 9 (eI v9)).set 10 (.p 2 0)) ⟨3,(((T.e.set 0 ⟨eNames b0,0,0⟩).set 1 ⟨(eAr cI) b1,1,0⟩).set 2 ⟨eRen b2,2,0⟩),.e,T.e⟩ = (n43_4 b1 b2).map (fun (r : Bool) => (X.nrm,((((((((T.e.set 1 (eI v1)).set 2 (eSl 29 eRen v2)).set 3 (.p 0 0)).set 7 (.p 1 0)).set 8 (eU64 v8)).set 9 (eI v9)).set 10 (.p 2 0)).set 87 (.b r)),⟨3,(((T.e.set 0 ⟨eNames b0,0,0⟩).set 1 ⟨(eAr cI) b1,1,0⟩).set 2 ⟨eRen b2,2,0⟩),.e,T.e⟩)):=by
  rw [finE]
  simp [k43_4,n43_4,w43_0 (n:=n) (by omega),w43_2 (n:=n) (by omega),w43_3 (n:=n) (by omega),w84 (n:=n) (by omega),w85 (n:=n) (by omega),w86 (n:=n) (by omega),w87 (n:=n) (by omega),eqArr37,lay_pure]
theorem w43_1 {n : Nat} (hn : 3 ≤ n) (v1 : Int) (v2 : List GRen) (b0 : GNames) (s : BitVec 64 × Int × Arr Int 16) : finE (EV n) LF [1,2,3,7,8,9] [6] [1,2,3,7] 2 [] k43_1 ((((((T.e.set 1 (eI v1)).set 2 (eSl 29 eRen v2)).set 3 (.p 0 0)).set 7 (.p 1 0)).set 8 (eU64 s.1)).set 9 (eI s.2.1)) ⟨2,((T.e.set 0 ⟨eNames b0,0,0⟩).set 1 ⟨(eAr cI) s.2.2,1,0⟩),.e,T.e⟩ = (n43_1 v2 b0 s).map (Sum.elim (fun s => (X.nrm,((((((T.e.set 1 (eI v1)).set 2 (eSl 29 eRen v2)).set 3 (.p 0 0)).set 7 (.p 1 0)).set 8 (eU64 s.1)).set 9 (eI s.2.1)),⟨2,((T.e.set 0 ⟨eNames b0,0,0⟩).set 1 ⟨(eAr cI) s.2.2,1,0⟩),.e,T.e⟩)) (Sum.elim (fun (r : Arr Int 16) => (X.exit 0,((((T.e.set 1 (eI v1)).set 2 (eSl 29 eRen v2)).set 3 (.p 0 0)).set 7 (.p 1 0)),⟨2,((T.e.set 0 ⟨eNames b0,0,0⟩).set 1 ⟨(eAr cI) r,1,0⟩),.e,T.e⟩)) (fun (r : Arr Int 16) => (X.ret,(T.e.set 6 (.b false)),⟨2,((T.e.set 0 ⟨eNames b0,0,0⟩).set 1 ⟨(eAr cI) r,1,0⟩),.e,T.e⟩)))):=by
  rw [finE]
  simp [k43_1,n43_1,w43_0 (n:=n) (by omega),w43_2 (n:=n) (by omega),w43_3 (n:=n) (by omega),w43_4 (n:=n) (by omega),w84 (n:=n) (by omega),w85 (n:=n) (by omega),w86 (n:=n) (by omega),w87 (n:=n) (by omega),eqArr37,lay_pure]
theorem l43_1 {n : Nat} (hn : 3 ≤ n) (v1 : Int) (v2 : List GRen) (v8 : BitVec 64) (v9 : Int) (b0 : GNames) (b1 : Arr Int 16) : loopE (EV n) LF [1,2,3,7,8,9] [6] [1,2,3,7] 2 [] k43_1 ((((((T.e.set 1 (eI v1)).set 2 (eSl 29 eRen v2)).set 3 (.p 0 0)).set 7 (.p 1 0)).set 8 (eU64 v8)).set 9 (eI v9)) ⟨2,((T.e.set 0 ⟨eNames b0,0,0⟩).set 1 ⟨(eAr cI) b1,1,0⟩),.e,T.e⟩ = (loopN (n43_1 v2 b0) LF (v8,v9,b1)).map (Sum.elim (fun (r : Arr Int 16) => (X.exit 0,((((T.e.set 1 (eI v1)).set 2 (eSl 29 eRen v2)).set 3 (.p 0 0)).set 7 (.p 1 0)),⟨2,((T.e.set 0 ⟨eNames b0,0,0⟩).set 1 ⟨(eAr cI) r,1,0⟩),.e,T.e⟩)) (fun (r : Arr Int 16) => (X.ret,(T.e.set 6 (.b false)),⟨2,((T.e.set 0 ⟨eNames b0,0,0⟩).set 1 ⟨(eAr cI) r,1,0⟩),.e,T.e⟩))):=by
  exact loop_rule (E:=fun s : BitVec 64 × Int × Arr Int 16 => ((((((T.e.set 1 (eI v1)).set 2 (eSl 29 eRen v2)).set 3 (.p 0 0)).set 7 (.p 1 0)).set 8 (eU64 s.1)).set 9 (eI s.2.1))) (B:=fun s : BitVec 64 × Int × Arr Int 16 => ⟨2,((T.e.set 0 ⟨eNames b0,0,0⟩).set 1 ⟨(eAr cI) s.2.2,1,0⟩),.e,T.e⟩) (out:=(Sum.elim (fun (r : Arr Int 16) => (X.exit 0,((((T.e.set 1 (eI v1)).set 2 (eSl 29 eRen v2)).set 3 (.p 0 0)).set 7 (.p 1 0)),⟨2,((T.e.set 0 ⟨eNames b0,0,0⟩).set 1 ⟨(eAr cI) r,1,0⟩),.e,T.e⟩)) (fun (r : Arr Int 16) => (X.ret,(T.e.set 6 (.b false)),⟨2,((T.e.set 0 ⟨eNames b0,0,0⟩).set 1 ⟨(eAr cI) r,1,0⟩),.e,T.e⟩)))) (fun r => by rcases r with r | r <;> simp)
    (fun s => w43_1 hn v1 v2 b0 s) (fun s => by simp [lay_pure]) (v8,v9,b1)
theorem w43 {n : Nat} (hn : 4 ≤ n) (a0 : GNames) (a1 : Int) (a2 : List GRen) (qs : List Nat) (h : H) : callPv (EV n) 43 qs [.a (eNames a0),eI a1,eSl 29 eRen a2] h = (n43 a0 a1 a2).map fun r => (.b r,h):=by
  obtain ⟨m,rfl⟩:=pm hn
  rw [callPv_eq,EV_at t43,f43,runF_eq]
  simp [n43,w43_0 (n:=m) (by omega),w43_2 (n:=m) (by omega),w43_3 (n:=m) (by omega),w43_4 (n:=m) (by omega),l43_1 (n:=m) (by omega),w84 (n:=m) (by omega),w85 (n:=m) (by omega),w86 (n:=m) (by omega),w87 (n:=m) (by omega),eqArr37,lay_pure]
theorem w88_1 {n : Nat} (hn : 0 ≤ n) (v5 : Int) (b0 : GCore) (b1 : GRen) : finE (EV n) LF [2,3,5,29] [4] [] 2 [] k88_1 (((T.e.set 2 (.p 0 0)).set 3 (.p 1 0)).set 5 (eI v5)) ⟨2,((T.e.set 0 ⟨eCore b0,0,0⟩).set 1 ⟨eRen b1,1,0⟩),.e,T.e⟩ = (n88_1 v5 b0 b1).map (fun (r : Bool) => (X.nrm,((((T.e.set 2 (.p 0 0)).set 3 (.p 1 0)).set 5 (eI v5)).set 29 (.b r)),⟨2,((T.e.set 0 ⟨eCore b0,0,0⟩).set 1 ⟨eRen b1,1,0⟩),.e,T.e⟩)):=by
  rw [finE]
  simp [k88_1,n88_1,eqGRen,lay_pure]
theorem w88_0 {n : Nat} (hn : 0 ≤ n) (b0 : GCore) (b1 : GRen) (s : Int) : finE (EV n) LF [2,3,5] [4] [] 2 [] k88_0 (((T.e.set 2 (.p 0 0)).set 3 (.p 1 0)).set 5 (eI s)) ⟨2,((T.e.set 0 ⟨eCore b0,0,0⟩).set 1 ⟨eRen b1,1,0⟩),.e,T.e⟩ = (n88_0 b0 b1 s).map (Sum.elim (fun s => (X.nrm,(((T.e.set 2 (.p 0 0)).set 3 (.p 1 0)).set 5 (eI s)),⟨2,((T.e.set 0 ⟨eCore b0,0,0⟩).set 1 ⟨eRen b1,1,0⟩),.e,T.e⟩)) (Sum.elim (fun (r : Unit) => (X.exit 0,T.e,⟨2,((T.e.set 0 ⟨eCore b0,0,0⟩).set 1 ⟨eRen b1,1,0⟩),.e,T.e⟩)) (fun (r : Unit) => (X.ret,(T.e.set 4 (.b true)),⟨2,((T.e.set 0 ⟨eCore b0,0,0⟩).set 1 ⟨eRen b1,1,0⟩),.e,T.e⟩)))):=by
  rw [finE]
  simp [k88_0,n88_0,w88_1 (n:=n) (by omega),eqGRen,lay_pure]
theorem l88_0 {n : Nat} (hn : 0 ≤ n) (v5 : Int) (b0 : GCore) (b1 : GRen) : loopE (EV n) LF [2,3,5] [4] [] 2 [] k88_0 (((T.e.set 2 (.p 0 0)).set 3 (.p 1 0)).set 5 (eI v5)) ⟨2,((T.e.set 0 ⟨eCore b0,0,0⟩).set 1 ⟨eRen b1,1,0⟩),.e,T.e⟩ = (loopN (n88_0 b0 b1) LF v5).map (Sum.elim (fun (r : Unit) => (X.exit 0,T.e,⟨2,((T.e.set 0 ⟨eCore b0,0,0⟩).set 1 ⟨eRen b1,1,0⟩),.e,T.e⟩)) (fun (r : Unit) => (X.ret,(T.e.set 4 (.b true)),⟨2,((T.e.set 0 ⟨eCore b0,0,0⟩).set 1 ⟨eRen b1,1,0⟩),.e,T.e⟩))):=by
  exact loop_rule (E:=fun s : Int => (((T.e.set 2 (.p 0 0)).set 3 (.p 1 0)).set 5 (eI s))) (B:=fun s : Int => ⟨2,((T.e.set 0 ⟨eCore b0,0,0⟩).set 1 ⟨eRen b1,1,0⟩),.e,T.e⟩) (out:=(Sum.elim (fun (r : Unit) => (X.exit 0,T.e,⟨2,((T.e.set 0 ⟨eCore b0,0,0⟩).set 1 ⟨eRen b1,1,0⟩),.e,T.e⟩)) (fun (r : Unit) => (X.ret,(T.e.set 4 (.b true)),⟨2,((T.e.set 0 ⟨eCore b0,0,0⟩).set 1 ⟨eRen b1,1,0⟩),.e,T.e⟩)))) (fun r => by rcases r with r | r <;> simp)
    (fun s => w88_0 hn b0 b1 s) (fun s => by simp [lay_pure]) v5
theorem w88 {n : Nat} (hn : 1 ≤ n) (a0 : GCore) (a1 : GRen) (qs : List Nat) (h : H) : callPv (EV n) 88 qs [.a (eCore a0),.a (eRen a1)] h = (n88 a0 a1).map fun r => (.b r,h):=by
  obtain ⟨m,rfl⟩:=pm hn
  rw [callPv_eq,EV_at t88,f88,runF_eq]
  simp [n88,w88_1 (n:=m) (by omega),l88_0 (n:=m) (by omega),eqGRen,lay_pure]
theorem w44_1 {n : Nat} (hn : 1 ≤ n) (v3 : Int) (b0 : GCore) (s : Int) : finE (EV n) LF [1,3,4] [2] [1,3] 1 [] k44_1 (((T.e.set 1 (.p 0 0)).set 3 (eI v3)).set 4 (eI s)) ⟨1,(T.e.set 0 ⟨eCore b0,0,0⟩),.e,T.e⟩ = (n44_1 v3 b0 s).map (Sum.elim (fun s => (X.nrm,(((T.e.set 1 (.p 0 0)).set 3 (eI v3)).set 4 (eI s)),⟨1,(T.e.set 0 ⟨eCore b0,0,0⟩),.e,T.e⟩)) (Sum.elim (fun (r : Unit) => (X.exit 2,((T.e.set 1 (.p 0 0)).set 3 (eI v3)),⟨1,(T.e.set 0 ⟨eCore b0,0,0⟩),.e,T.e⟩)) (fun (r : Unit) => (X.ret,(T.e.set 2 (.b false)),⟨1,(T.e.set 0 ⟨eCore b0,0,0⟩),.e,T.e⟩)))):=by
  rw [finE]
  simp [k44_1,n44_1,w88 (n:=n) (by omega),lay_pure]
theorem l44_1 {n : Nat} (hn : 1 ≤ n) (v3 : Int) (v4 : Int) (b0 : GCore) : loopE (EV n) LF [1,3,4] [2] [1,3] 1 [] k44_1 (((T.e.set 1 (.p 0 0)).set 3 (eI v3)).set 4 (eI v4)) ⟨1,(T.e.set 0 ⟨eCore b0,0,0⟩),.e,T.e⟩ = (loopN (n44_1 v3 b0) LF v4).map (Sum.elim (fun (r : Unit) => (X.exit 2,((T.e.set 1 (.p 0 0)).set 3 (eI v3)),⟨1,(T.e.set 0 ⟨eCore b0,0,0⟩),.e,T.e⟩)) (fun (r : Unit) => (X.ret,(T.e.set 2 (.b false)),⟨1,(T.e.set 0 ⟨eCore b0,0,0⟩),.e,T.e⟩))):=by
  exact loop_rule (E:=fun s : Int => (((T.e.set 1 (.p 0 0)).set 3 (eI v3)).set 4 (eI s))) (B:=fun s : Int => ⟨1,(T.e.set 0 ⟨eCore b0,0,0⟩),.e,T.e⟩) (out:=(Sum.elim (fun (r : Unit) => (X.exit 2,((T.e.set 1 (.p 0 0)).set 3 (eI v3)),⟨1,(T.e.set 0 ⟨eCore b0,0,0⟩),.e,T.e⟩)) (fun (r : Unit) => (X.ret,(T.e.set 2 (.b false)),⟨1,(T.e.set 0 ⟨eCore b0,0,0⟩),.e,T.e⟩)))) (fun r => by rcases r with r | r <;> simp)
    (fun s => w44_1 hn v3 b0 s) (fun s => by simp [lay_pure]) v4
theorem w44_0 {n : Nat} (hn : 1 ≤ n) (b0 : GCore) (s : Int) : finE (EV n) LF [1,3] [2] [] 1 [] k44_0 ((T.e.set 1 (.p 0 0)).set 3 (eI s)) ⟨1,(T.e.set 0 ⟨eCore b0,0,0⟩),.e,T.e⟩ = (n44_0 b0 s).map (Sum.elim (fun s => (X.nrm,((T.e.set 1 (.p 0 0)).set 3 (eI s)),⟨1,(T.e.set 0 ⟨eCore b0,0,0⟩),.e,T.e⟩)) (Sum.elim (fun (r : Unit) => (X.exit 0,T.e,⟨1,(T.e.set 0 ⟨eCore b0,0,0⟩),.e,T.e⟩)) (fun (r : Unit) => (X.ret,(T.e.set 2 (.b false)),⟨1,(T.e.set 0 ⟨eCore b0,0,0⟩),.e,T.e⟩)))):=by
  rw [finE]
  simp [k44_0,n44_0,l44_1 (n:=n) (by omega),w88 (n:=n) (by omega),lay_pure]
theorem l44_0 {n : Nat} (hn : 1 ≤ n) (v3 : Int) (b0 : GCore) : loopE (EV n) LF [1,3] [2] [] 1 [] k44_0 ((T.e.set 1 (.p 0 0)).set 3 (eI v3)) ⟨1,(T.e.set 0 ⟨eCore b0,0,0⟩),.e,T.e⟩ = (loopN (n44_0 b0) LF v3).map (Sum.elim (fun (r : Unit) => (X.exit 0,T.e,⟨1,(T.e.set 0 ⟨eCore b0,0,0⟩),.e,T.e⟩)) (fun (r : Unit) => (X.ret,(T.e.set 2 (.b false)),⟨1,(T.e.set 0 ⟨eCore b0,0,0⟩),.e,T.e⟩))):=by
  exact loop_rule (E:=fun s : Int => ((T.e.set 1 (.p 0 0)).set 3 (eI s))) (B:=fun s : Int => ⟨1,(T.e.set 0 ⟨eCore b0,0,0⟩),.e,T.e⟩) (out:=(Sum.elim (fun (r : Unit) => (X.exit 0,T.e,⟨1,(T.e.set 0 ⟨eCore b0,0,0⟩),.e,T.e⟩)) (fun (r : Unit) => (X.ret,(T.e.set 2 (.b false)),⟨1,(T.e.set 0 ⟨eCore b0,0,0⟩),.e,T.e⟩)))) (fun r => by rcases r with r | r <;> simp)
    (fun s => w44_0 hn b0 s) (fun s => by simp [lay_pure]) v3
theorem w44 {n : Nat} (hn : 2 ≤ n) (a0 : GCore) (qs : List Nat) (h : H) : callPv (EV n) 44 qs [.a (eCore a0)] h = (n44 a0).map fun r => (.b r,h):=by
  obtain ⟨m,rfl⟩:=pm hn
  rw [callPv_eq,EV_at t44,f44,runF_eq]
  simp [n44,l44_1 (n:=m) (by omega),l44_0 (n:=m) (by omega),w88 (n:=m) (by omega),lay_pure]
theorem w45_1 {n : Nat} (hn : 1 ≤ n) (v3 : Int) (b0 : GCore) (b1 : GRen) (s : Int) : finE (EV n) LF [1,3,4,5] [2] [1,3,4] 2 [] k45_1 ((((T.e.set 1 (.p 0 0)).set 3 (eI v3)).set 4 (.p 1 0)).set 5 (eI s)) ⟨2,((T.e.set 0 ⟨eCore b0,0,0⟩).set 1 ⟨eRen b1,1,0⟩),.e,T.e⟩ = (n45_1 v3 b0 b1 s).map (Sum.elim (fun s => (X.nrm,((((T.e.set 1 (.p 0 0)).set 3 (eI v3)).set 4 (.p 1 0)).set 5 (eI s)),⟨2,((T.e.set 0 ⟨eCore b0,0,0⟩).set 1 ⟨eRen b1,1,0⟩),.e,T.e⟩)) (Sum.elim (fun (r : Unit) => (X.exit 2,(((T.e.set 1 (.p 0 0)).set 3 (eI v3)).set 4 (.p 1 0)),⟨2,((T.e.set 0 ⟨eCore b0,0,0⟩).set 1 ⟨eRen b1,1,0⟩),.e,T.e⟩)) (fun (r : Unit) => (X.ret,(T.e.set 2 (.b false)),⟨2,((T.e.set 0 ⟨eCore b0,0,0⟩).set 1 ⟨eRen b1,1,0⟩),.e,T.e⟩)))):=by
  rw [finE]
  simp [k45_1,n45_1,w88 (n:=n) (by omega),lay_pure]
theorem l45_1 {n : Nat} (hn : 1 ≤ n) (v3 : Int) (v5 : Int) (b0 : GCore) (b1 : GRen) : loopE (EV n) LF [1,3,4,5] [2] [1,3,4] 2 [] k45_1 ((((T.e.set 1 (.p 0 0)).set 3 (eI v3)).set 4 (.p 1 0)).set 5 (eI v5)) ⟨2,((T.e.set 0 ⟨eCore b0,0,0⟩).set 1 ⟨eRen b1,1,0⟩),.e,T.e⟩ = (loopN (n45_1 v3 b0 b1) LF v5).map (Sum.elim (fun (r : Unit) => (X.exit 2,(((T.e.set 1 (.p 0 0)).set 3 (eI v3)).set 4 (.p 1 0)),⟨2,((T.e.set 0 ⟨eCore b0,0,0⟩).set 1 ⟨eRen b1,1,0⟩),.e,T.e⟩)) (fun (r : Unit) => (X.ret,(T.e.set 2 (.b false)),⟨2,((T.e.set 0 ⟨eCore b0,0,0⟩).set 1 ⟨eRen b1,1,0⟩),.e,T.e⟩))):=by
  exact loop_rule (E:=fun s : Int => ((((T.e.set 1 (.p 0 0)).set 3 (eI v3)).set 4 (.p 1 0)).set 5 (eI s))) (B:=fun s : Int => ⟨2,((T.e.set 0 ⟨eCore b0,0,0⟩).set 1 ⟨eRen b1,1,0⟩),.e,T.e⟩) (out:=(Sum.elim (fun (r : Unit) => (X.exit 2,(((T.e.set 1 (.p 0 0)).set 3 (eI v3)).set 4 (.p 1 0)),⟨2,((T.e.set 0 ⟨eCore b0,0,0⟩).set 1 ⟨eRen b1,1,0⟩),.e,T.e⟩)) (fun (r : Unit) => (X.ret,(T.e.set 2 (.b false)),⟨2,((T.e.set 0 ⟨eCore b0,0,0⟩).set 1 ⟨eRen b1,1,0⟩),.e,T.e⟩)))) (fun r => by rcases r with r | r <;> simp)
    (fun s => w45_1 hn v3 b0 b1 s) (fun s => by simp [lay_pure]) v5
theorem w45_2 {n : Nat} (hn : 1 ≤ n) (v3 : Int) (b0 : GCore) (b1 : GRen) (s : Int) : finE (EV n) LF [1,3,4,6] [2] [1,3] 2 [] k45_2 ((((T.e.set 1 (.p 0 0)).set 3 (eI v3)).set 4 (.p 1 0)).set 6 (eI s)) ⟨2,((T.e.set 0 ⟨eCore b0,0,0⟩).set 1 ⟨eRen b1,1,0⟩),.e,T.e⟩ = (n45_2 b0 b1 s).map (Sum.elim (fun s => (X.nrm,((((T.e.set 1 (.p 0 0)).set 3 (eI v3)).set 4 (.p 1 0)).set 6 (eI s)),⟨2,((T.e.set 0 ⟨eCore b0,0,0⟩).set 1 ⟨eRen b1,1,0⟩),.e,T.e⟩)) (Sum.elim (fun (r : Unit) => (X.exit 4,((T.e.set 1 (.p 0 0)).set 3 (eI v3)),⟨2,((T.e.set 0 ⟨eCore b0,0,0⟩).set 1 ⟨eRen b1,1,0⟩),.e,T.e⟩)) (fun (r : Unit) => (X.ret,(T.e.set 2 (.b false)),⟨2,((T.e.set 0 ⟨eCore b0,0,0⟩).set 1 ⟨eRen b1,1,0⟩),.e,T.e⟩)))):=by
  rw [finE]
  simp [k45_2,n45_2,l45_1 (n:=n) (by omega),w88 (n:=n) (by omega),lay_pure]
theorem l45_2 {n : Nat} (hn : 1 ≤ n) (v3 : Int) (v6 : Int) (b0 : GCore) (b1 : GRen) : loopE (EV n) LF [1,3,4,6] [2] [1,3] 2 [] k45_2 ((((T.e.set 1 (.p 0 0)).set 3 (eI v3)).set 4 (.p 1 0)).set 6 (eI v6)) ⟨2,((T.e.set 0 ⟨eCore b0,0,0⟩).set 1 ⟨eRen b1,1,0⟩),.e,T.e⟩ = (loopN (n45_2 b0 b1) LF v6).map (Sum.elim (fun (r : Unit) => (X.exit 4,((T.e.set 1 (.p 0 0)).set 3 (eI v3)),⟨2,((T.e.set 0 ⟨eCore b0,0,0⟩).set 1 ⟨eRen b1,1,0⟩),.e,T.e⟩)) (fun (r : Unit) => (X.ret,(T.e.set 2 (.b false)),⟨2,((T.e.set 0 ⟨eCore b0,0,0⟩).set 1 ⟨eRen b1,1,0⟩),.e,T.e⟩))):=by
  exact loop_rule (E:=fun s : Int => ((((T.e.set 1 (.p 0 0)).set 3 (eI v3)).set 4 (.p 1 0)).set 6 (eI s))) (B:=fun s : Int => ⟨2,((T.e.set 0 ⟨eCore b0,0,0⟩).set 1 ⟨eRen b1,1,0⟩),.e,T.e⟩) (out:=(Sum.elim (fun (r : Unit) => (X.exit 4,((T.e.set 1 (.p 0 0)).set 3 (eI v3)),⟨2,((T.e.set 0 ⟨eCore b0,0,0⟩).set 1 ⟨eRen b1,1,0⟩),.e,T.e⟩)) (fun (r : Unit) => (X.ret,(T.e.set 2 (.b false)),⟨2,((T.e.set 0 ⟨eCore b0,0,0⟩).set 1 ⟨eRen b1,1,0⟩),.e,T.e⟩)))) (fun r => by rcases r with r | r <;> simp)
    (fun s => w45_2 hn v3 b0 b1 s) (fun s => by simp [lay_pure]) v6
theorem w45_0 {n : Nat} (hn : 1 ≤ n) (b0 : GCore) (s : Int) : finE (EV n) LF [1,3] [2] [] 1 [] k45_0 ((T.e.set 1 (.p 0 0)).set 3 (eI s)) ⟨1,(T.e.set 0 ⟨eCore b0,0,0⟩),.e,T.e⟩ = (n45_0 b0 s).map (Sum.elim (fun s => (X.nrm,((T.e.set 1 (.p 0 0)).set 3 (eI s)),⟨1,(T.e.set 0 ⟨eCore b0,0,0⟩),.e,T.e⟩)) (Sum.elim (fun (r : Unit) => (X.exit 0,T.e,⟨1,(T.e.set 0 ⟨eCore b0,0,0⟩),.e,T.e⟩)) (fun (r : Unit) => (X.ret,(T.e.set 2 (.b false)),⟨1,(T.e.set 0 ⟨eCore b0,0,0⟩),.e,T.e⟩)))):=by
  rw [finE]
  simp [k45_0,n45_0,l45_1 (n:=n) (by omega),l45_2 (n:=n) (by omega),w88 (n:=n) (by omega),lay_pure]
theorem l45_0 {n : Nat} (hn : 1 ≤ n) (v3 : Int) (b0 : GCore) : loopE (EV n) LF [1,3] [2] [] 1 [] k45_0 ((T.e.set 1 (.p 0 0)).set 3 (eI v3)) ⟨1,(T.e.set 0 ⟨eCore b0,0,0⟩),.e,T.e⟩ = (loopN (n45_0 b0) LF v3).map (Sum.elim (fun (r : Unit) => (X.exit 0,T.e,⟨1,(T.e.set 0 ⟨eCore b0,0,0⟩),.e,T.e⟩)) (fun (r : Unit) => (X.ret,(T.e.set 2 (.b false)),⟨1,(T.e.set 0 ⟨eCore b0,0,0⟩),.e,T.e⟩))):=by
  exact loop_rule (E:=fun s : Int => ((T.e.set 1 (.p 0 0)).set 3 (eI s))) (B:=fun s : Int => ⟨1,(T.e.set 0 ⟨eCore b0,0,0⟩),.e,T.e⟩) (out:=(Sum.elim (fun (r : Unit) => (X.exit 0,T.e,⟨1,(T.e.set 0 ⟨eCore b0,0,0⟩),.e,T.e⟩)) (fun (r : Unit) => (X.ret,(T.e.set 2 (.b false)),⟨1,(T.e.set 0 ⟨eCore b0,0,0⟩),.e,T.e⟩)))) (fun r => by rcases r with r | r <;> simp)
    (fun s => w45_0 hn b0 s) (fun s => by simp [lay_pure]) v3
theorem w45 {n : Nat} (hn : 2 ≤ n) (a0 : GCore) (qs : List Nat) (h : H) : callPv (EV n) 45 qs [.a (eCore a0)] h = (n45 a0).map fun r => (.b r,h):=by
  obtain ⟨m,rfl⟩:=pm hn
  rw [callPv_eq,EV_at t45,f45,runF_eq]
  simp [n45,l45_1 (n:=m) (by omega),l45_2 (n:=m) (by omega),l45_0 (n:=m) (by omega),w88 (n:=m) (by omega),lay_pure]
theorem tk8904 (e : Nat) : V.fz (.tk 8904 e) 0 1 [] = eTk 8904 e 1 cU64 []:=nr rfl
theorem tk8907 (e : Nat) : V.fz (.tk 8907 e) 0 1 [] = eTk 8907 e 1 cU64 []:=nr rfl
theorem w89_0 {n : Nat} (hn : 0 ≤ n) (v1 : Int) (b0 : GCore) (q8904 : Nat) (s : List (BitVec 64) × Int) : finE (EV n) LF [1,2,5,6] [4] [5] 1 [8904,8907] k89_0 ((((T.e.set 1 (eI v1)).set 2 (.p 0 0)).set 5 (eTk 8907 0 1 cU64 s.1)).set 6 (eI s.2)) ⟨1,(T.e.set 0 ⟨eCore b0,0,0⟩),.e,((T.e.set 8904 (0,q8904,1)).set 8907 (0,s.1.length,1))⟩ = (n89_0 v1 b0 s).map (Sum.elim (fun s => (X.nrm,((((T.e.set 1 (eI v1)).set 2 (.p 0 0)).set 5 (eTk 8907 0 1 cU64 s.1)).set 6 (eI s.2)),⟨1,(T.e.set 0 ⟨eCore b0,0,0⟩),.e,((T.e.set 8904 (0,q8904,1)).set 8907 (0,s.1.length,1))⟩)) (fun (r : List (BitVec 64)) => (X.exit 0,(T.e.set 5 (eTk 8907 0 1 cU64 r)),⟨1,(T.e.set 0 ⟨eCore b0,0,0⟩),.e,((T.e.set 8904 (0,q8904,1)).set 8907 (0,r.length,1))⟩))):=by
  rw [finE]
  simp [k89_0,n89_0,tk8904,tk8907,ex1_41,appT_ex,appT_tk,appT_ex1,appT_tk1,encs_pureC,lay_pure]
theorem l89_0 {n : Nat} (hn : 0 ≤ n) (v1 : Int) (v5 : List (BitVec 64)) (v6 : Int) (b0 : GCore) (q8904 : Nat) (q8907 : Nat) (h8907 : q8907 = v5.length) : loopE (EV n) LF [1,2,5,6] [4] [5] 1 [8904,8907] k89_0 ((((T.e.set 1 (eI v1)).set 2 (.p 0 0)).set 5 (eTk 8907 0 1 cU64 v5)).set 6 (eI v6)) ⟨1,(T.e.set 0 ⟨eCore b0,0,0⟩),.e,((T.e.set 8904 (0,q8904,1)).set 8907 (0,q8907,1))⟩ = (loopN (n89_0 v1 b0) LF (v5,v6)).map (fun (r : List (BitVec 64)) => (X.exit 0,(T.e.set 5 (eTk 8907 0 1 cU64 r)),⟨1,(T.e.set 0 ⟨eCore b0,0,0⟩),.e,((T.e.set 8904 (0,q8904,1)).set 8907 (0,r.length,1))⟩)):=by
  subst h8907
  exact loop_rule (E:=fun s : List (BitVec 64) × Int => ((((T.e.set 1 (eI v1)).set 2 (.p 0 0)).set 5 (eTk 8907 0 1 cU64 s.1)).set 6 (eI s.2))) (B:=fun s : List (BitVec 64) × Int => ⟨1,(T.e.set 0 ⟨eCore b0,0,0⟩),.e,((T.e.set 8904 (0,q8904,1)).set 8907 (0,s.1.length,1))⟩) (out:=(fun (r : List (BitVec 64)) => (X.exit 0,(T.e.set 5 (eTk 8907 0 1 cU64 r)),⟨1,(T.e.set 0 ⟨eCore b0,0,0⟩),.e,((T.e.set 8904 (0,q8904,1)).set 8907 (0,r.length,1))⟩))) (fun r => by simp)
    (fun s => w89_0 hn v1 b0 q8904 s) (fun s => by simp [lay_pure]) (v5,v6)
theorem w89 {n : Nat} (hn : 1 ≤ n) (a0 : GCore) (a1 : Int) (qs : List Nat) (h : H) : callPv (EV n) 89 qs [.a (eCore a0),eI a1] h = (n89 a0 a1).map fun r => (eSl 1 cU64 r,h):=by
  obtain ⟨m,rfl⟩:=pm hn
  rw [callPv_eq,EV_at t89,f89,runF_eq]
  simp [n89,l89_0 (n:=m) (by omega),tk8904,tk8907,ex1_41,appT_ex,appT_tk,appT_ex1,appT_tk1,encs_pureC,lay_pure]
theorem w46_0 {n : Nat} (hn : 1 ≤ n) (v3 : List (BitVec 64)) (v4 : List (BitVec 64)) (b0 : GCore) : finE (EV n) LF [1,3,4,24] [2] [] 1 [] k46_0 (((T.e.set 1 (.p 0 0)).set 3 (eSl 1 cU64 v3)).set 4 (eSl 1 cU64 v4)) ⟨1,(T.e.set 0 ⟨eCore b0,0,0⟩),.e,T.e⟩ = (n46_0 v3 v4 b0).map (fun (r : Bool) => (X.nrm,((((T.e.set 1 (.p 0 0)).set 3 (eSl 1 cU64 v3)).set 4 (eSl 1 cU64 v4)).set 24 (.b r)),⟨1,(T.e.set 0 ⟨eCore b0,0,0⟩),.e,T.e⟩)):=by
  rw [finE]
  simp [k46_0,n46_0,w89 (n:=n) (by omega),lay_pure]
theorem w46_2 {n : Nat} (hn : 1 ≤ n) (v3 : List (BitVec 64)) (v4 : List (BitVec 64)) (v5 : Int) (b0 : GCore) : finE (EV n) LF [1,3,4,5,35] [2] [] 1 [] k46_2 ((((T.e.set 1 (.p 0 0)).set 3 (eSl 1 cU64 v3)).set 4 (eSl 1 cU64 v4)).set 5 (eI v5)) ⟨1,(T.e.set 0 ⟨eCore b0,0,0⟩),.e,T.e⟩ = (n46_2 v3 v5 b0).map (fun (r : Bool) => (X.nrm,(((((T.e.set 1 (.p 0 0)).set 3 (eSl 1 cU64 v3)).set 4 (eSl 1 cU64 v4)).set 5 (eI v5)).set 35 (.b r)),⟨1,(T.e.set 0 ⟨eCore b0,0,0⟩),.e,T.e⟩)):=by
  rw [finE]
  simp [k46_2,n46_2,w46_0 (n:=n) (by omega),w89 (n:=n) (by omega),lay_pure]
theorem w46_1 {n : Nat} (hn : 1 ≤ n) (v3 : List (BitVec 64)) (v4 : List (BitVec 64)) (b0 : GCore) (s : Int) : finE (EV n) LF [1,3,4,5] [2] [1,4] 1 [] k46_1 ((((T.e.set 1 (.p 0 0)).set 3 (eSl 1 cU64 v3)).set 4 (eSl 1 cU64 v4)).set 5 (eI s)) ⟨1,(T.e.set 0 ⟨eCore b0,0,0⟩),.e,T.e⟩ = (n46_1 v3 b0 s).map (Sum.elim (fun s => (X.nrm,((((T.e.set 1 (.p 0 0)).set 3 (eSl 1 cU64 v3)).set 4 (eSl 1 cU64 v4)).set 5 (eI s)),⟨1,(T.e.set 0 ⟨eCore b0,0,0⟩),.e,T.e⟩)) (Sum.elim (fun (r : Unit) => (X.exit 0,((T.e.set 1 (.p 0 0)).set 4 (eSl 1 cU64 v4)),⟨1,(T.e.set 0 ⟨eCore b0,0,0⟩),.e,T.e⟩)) (fun (r : Unit) => (X.ret,(T.e.set 2 (.b false)),⟨1,(T.e.set 0 ⟨eCore b0,0,0⟩),.e,T.e⟩)))):=by
  rw [finE]
  simp [k46_1,n46_1,w46_0 (n:=n) (by omega),w46_2 (n:=n) (by omega),w89 (n:=n) (by omega),lay_pure]
theorem l46_1 {n : Nat} (hn : 1 ≤ n) (v3 : List (BitVec 64)) (v4 : List (BitVec 64)) (v5 : Int) (b0 : GCore) : loopE (EV n) LF [1,3,4,5] [2] [1,4] 1 [] k46_1 ((((T.e.set 1 (.p 0 0)).set 3 (eSl 1 cU64 v3)).set 4 (eSl 1 cU64 v4)).set 5 (eI v5)) ⟨1,(T.e.set 0 ⟨eCore b0,0,0⟩),.e,T.e⟩ = (loopN (n46_1 v3 b0) LF v5).map (Sum.elim (fun (r : Unit) => (X.exit 0,((T.e.set 1 (.p 0 0)).set 4 (eSl 1 cU64 v4)),⟨1,(T.e.set 0 ⟨eCore b0,0,0⟩),.e,T.e⟩)) (fun (r : Unit) => (X.ret,(T.e.set 2 (.b false)),⟨1,(T.e.set 0 ⟨eCore b0,0,0⟩),.e,T.e⟩))):=by
  exact loop_rule (E:=fun s : Int => ((((T.e.set 1 (.p 0 0)).set 3 (eSl 1 cU64 v3)).set 4 (eSl 1 cU64 v4)).set 5 (eI s))) (B:=fun s : Int => ⟨1,(T.e.set 0 ⟨eCore b0,0,0⟩),.e,T.e⟩) (out:=(Sum.elim (fun (r : Unit) => (X.exit 0,((T.e.set 1 (.p 0 0)).set 4 (eSl 1 cU64 v4)),⟨1,(T.e.set 0 ⟨eCore b0,0,0⟩),.e,T.e⟩)) (fun (r : Unit) => (X.ret,(T.e.set 2 (.b false)),⟨1,(T.e.set 0 ⟨eCore b0,0,0⟩),.e,T.e⟩)))) (fun r => by rcases r with r | r <;> simp)
    (fun s => w46_1 hn v3 v4 b0 s) (fun s => by simp [lay_pure]) v5
theorem w46_4 {n : Nat} (hn : 1 ≤ n) (v4 : List (BitVec 64)) (v6 : Int) (b0 : GCore) : finE (EV n) LF [1,4,6,59] [2] [] 1 [] k46_4 (((T.e.set 1 (.p 0 0)).set 4 (eSl 1 cU64 v4)).set 6 (eI v6)) ⟨1,(T.e.set 0 ⟨eCore b0,0,0⟩),.e,T.e⟩ = (n46_4 v4 v6 b0).map (fun (r : Bool) => (X.nrm,((((T.e.set 1 (.p 0 0)).set 4 (eSl 1 cU64 v4)).set 6 (eI v6)).set 59 (.b r)),⟨1,(T.e.set 0 ⟨eCore b0,0,0⟩),.e,T.e⟩)):=by
  rw [finE]
  simp [k46_4,n46_4,w46_0 (n:=n) (by omega),w46_2 (n:=n) (by omega),l46_1 (n:=n) (by omega),w89 (n:=n) (by omega),lay_pure]
theorem w46_3 {n : Nat} (hn : 1 ≤ n) (v4 : List (BitVec 64)) (b0 : GCore) (s : Int) : finE (EV n) LF [1,4,6] [2] [] 1 [] k46_3 (((T.e.set 1 (.p 0 0)).set 4 (eSl 1 cU64 v4)).set 6 (eI s)) ⟨1,(T.e.set 0 ⟨eCore b0,0,0⟩),.e,T.e⟩ = (n46_3 v4 b0 s).map (Sum.elim (fun s => (X.nrm,(((T.e.set 1 (.p 0 0)).set 4 (eSl 1 cU64 v4)).set 6 (eI s)),⟨1,(T.e.set 0 ⟨eCore b0,0,0⟩),.e,T.e⟩)) (Sum.elim (fun (r : Unit) => (X.exit 2,T.e,⟨1,(T.e.set 0 ⟨eCore b0,0,0⟩),.e,T.e⟩)) (fun (r : Unit) => (X.ret,(T.e.set 2 (.b false)),⟨1,(T.e.set 0 ⟨eCore b0,0,0⟩),.e,T.e⟩)))):=by
  rw [finE]
  simp [k46_3,n46_3,w46_0 (n:=n) (by omega),w46_2 (n:=n) (by omega),l46_1 (n:=n) (by omega),w46_4 (n:=n) (by omega),w89 (n:=n) (by omega),lay_pure]
theorem l46_3 {n : Nat} (hn : 1 ≤ n) (v4 : List (BitVec 64)) (v6 : Int) (b0 : GCore) : loopE (EV n) LF [1,4,6] [2] [] 1 [] k46_3 (((T.e.set 1 (.p 0 0)).set 4 (eSl 1 cU64 v4)).set 6 (eI v6)) ⟨1,(T.e.set 0 ⟨eCore b0,0,0⟩),.e,T.e⟩ = (loopN (n46_3 v4 b0) LF v6).map (Sum.elim (fun (r : Unit) => (X.exit 2,T.e,⟨1,(T.e.set 0 ⟨eCore b0,0,0⟩),.e,T.e⟩)) (fun (r : Unit) => (X.ret,(T.e.set 2 (.b false)),⟨1,(T.e.set 0 ⟨eCore b0,0,0⟩),.e,T.e⟩))):=by
  exact loop_rule (E:=fun s : Int => (((T.e.set 1 (.p 0 0)).set 4 (eSl 1 cU64 v4)).set 6 (eI s))) (B:=fun s : Int => ⟨1,(T.e.set 0 ⟨eCore b0,0,0⟩),.e,T.e⟩) (out:=(Sum.elim (fun (r : Unit) => (X.exit 2,T.e,⟨1,(T.e.set 0 ⟨eCore b0,0,0⟩),.e,T.e⟩)) (fun (r : Unit) => (X.ret,(T.e.set 2 (.b false)),⟨1,(T.e.set 0 ⟨eCore b0,0,0⟩),.e,T.e⟩)))) (fun r => by rcases r with r | r <;> simp)
    (fun s => w46_3 hn v4 b0 s) (fun s => by simp [lay_pure]) v6
theorem w46 {n : Nat} (hn : 2 ≤ n) (a0 : GCore) (qs : List Nat) (h : H) : callPv (EV n) 46 qs [.a (eCore a0)] h = (n46 a0).map fun r => (.b r,h):=by
  obtain ⟨m,rfl⟩:=pm hn
  rw [callPv_eq,EV_at t46,f46,runF_eq]
  simp [n46,w46_0 (n:=m) (by omega),w46_2 (n:=m) (by omega),l46_1 (n:=m) (by omega),w46_4 (n:=m) (by omega),l46_3 (n:=m) (by omega),w89 (n:=m) (by omega),lay_pure]
end
end Go.Ev
namespace Go.Ev
noncomputable section
set_option maxHeartbeats 4000000
theorem w106 {n : Nat} (hn : 1 ≤ n) (a0 : GPhys) (a1 : Int) (qs : List Nat) (h : H) : callPv (EV n) 106 qs [.a (ePhys a0),eI a1] h = (n106 a0 a1).map fun r => (.b r,h):=by
  obtain ⟨m,rfl⟩:=pm hn
  rw [callPv_eq,EV_at t106,f106,runF_eq]
  simp [n106,lay_pure]
theorem w90 {n : Nat} (hn : 2 ≤ n) (a0 : GPhys) (a1 : Int) (qs : List Nat) (h : H) : callPv (EV n) 90 qs [.a (ePhys a0),eI a1] h = (n90 a0 a1).map fun r => (.t [eU32 r.1,.b r.2],h):=by
  obtain ⟨m,rfl⟩:=pm hn
  rw [callPv_eq,EV_at t90,f90,runF_eq]
  simp [n90,w106 (n:=m) (by omega),lay_pure]
theorem w47_0 {n : Nat} (hn : 2 ≤ n) (b0 : GPhys) (b1 : Arr Int 16) (b2 : Arr (BitVec 32) 16) (s : Int × Arr (BitVec 32) 16) : finE (EV n) LF [2,3,4,5,6] [4] [4,5] 4 [] k47_0 (((((T.e.set 2 (.p 0 0)).set 3 (.p 1 0)).set 4 (.p 2 0)).set 5 (.p 3 0)).set 6 (eI s.1)) ⟨4,((((T.e.set 0 ⟨ePhys b0,0,0⟩).set 1 ⟨(eAr cI) b1,1,0⟩).set 2 ⟨(eAr cU32) b2,2,0⟩).set 3 ⟨(eAr cU32) s.2,3,0⟩),.e,T.e⟩ = (n47_0 b0 b1 s).map (Sum.elim (fun s => (X.nrm,(((((T.e.set 2 (.p 0 0)).set 3 (.p 1 0)).set 4 (.p 2 0)).set 5 (.p 3 0)).set 6 (eI s.1)),⟨4,((((T.e.set 0 ⟨ePhys b0,0,0⟩).set 1 ⟨(eAr cI) b1,1,0⟩).set 2 ⟨(eAr cU32) b2,2,0⟩).set 3 ⟨(eAr cU32) s.2,3,0⟩),.e,T.e⟩)) (fun (r : Arr (BitVec 32) 16) => (X.exit 0,((T.e.set 4 (.p 2 0)).set 5 (.p 3 0)),⟨4,((((T.e.set 0 ⟨ePhys b0,0,0⟩).set 1 ⟨(eAr cI) b1,1,0⟩).set 2 ⟨(eAr cU32) b2,2,0⟩).set 3 ⟨(eAr cU32) r,3,0⟩),.e,T.e⟩))):=by
  rw [finE]
  simp [k47_0,n47_0,w90 (n:=n) (by omega),lay_pure]
theorem l47_0 {n : Nat} (hn : 2 ≤ n) (v6 : Int) (b0 : GPhys) (b1 : Arr Int 16) (b2 : Arr (BitVec 32) 16) (b3 : Arr (BitVec 32) 16) : loopE (EV n) LF [2,3,4,5,6] [4] [4,5] 4 [] k47_0 (((((T.e.set 2 (.p 0 0)).set 3 (.p 1 0)).set 4 (.p 2 0)).set 5 (.p 3 0)).set 6 (eI v6)) ⟨4,((((T.e.set 0 ⟨ePhys b0,0,0⟩).set 1 ⟨(eAr cI) b1,1,0⟩).set 2 ⟨(eAr cU32) b2,2,0⟩).set 3 ⟨(eAr cU32) b3,3,0⟩),.e,T.e⟩ = (loopN (n47_0 b0 b1) LF (v6,b3)).map (fun (r : Arr (BitVec 32) 16) => (X.exit 0,((T.e.set 4 (.p 2 0)).set 5 (.p 3 0)),⟨4,((((T.e.set 0 ⟨ePhys b0,0,0⟩).set 1 ⟨(eAr cI) b1,1,0⟩).set 2 ⟨(eAr cU32) b2,2,0⟩).set 3 ⟨(eAr cU32) r,3,0⟩),.e,T.e⟩)):=by
  exact loop_rule (E:=fun s : Int × Arr (BitVec 32) 16 => (((((T.e.set 2 (.p 0 0)).set 3 (.p 1 0)).set 4 (.p 2 0)).set 5 (.p 3 0)).set 6 (eI s.1))) (B:=fun s : Int × Arr (BitVec 32) 16 => ⟨4,((((T.e.set 0 ⟨ePhys b0,0,0⟩).set 1 ⟨(eAr cI) b1,1,0⟩).set 2 ⟨(eAr cU32) b2,2,0⟩).set 3 ⟨(eAr cU32) s.2,3,0⟩),.e,T.e⟩) (out:=(fun (r : Arr (BitVec 32) 16) => (X.exit 0,((T.e.set 4 (.p 2 0)).set 5 (.p 3 0)),⟨4,((((T.e.set 0 ⟨ePhys b0,0,0⟩).set 1 ⟨(eAr cI) b1,1,0⟩).set 2 ⟨(eAr cU32) b2,2,0⟩).set 3 ⟨(eAr cU32) r,3,0⟩),.e,T.e⟩))) (fun r => by simp)
    (fun s => w47_0 hn b0 b1 b2 s) (fun s => by simp [lay_pure]) (v6,b3)
theorem w47 {n : Nat} (hn : 3 ≤ n) (a0 : GPhys) (a1 : Arr Int 16) (qs : List Nat) (h : H) : callPv (EV n) 47 qs [.a (ePhys a0),.a ((eAr cI) a1)] h = (n47 a0 a1).map fun r => (.a ((eAr cU32) r),h):=by
  obtain ⟨m,rfl⟩:=pm hn
  rw [callPv_eq,EV_at t47,f47,runF_eq]
  simp [n47,l47_0 (n:=m) (by omega),w90 (n:=m) (by omega),lay_pure]
theorem w91_1 {n : Nat} (hn : 0 ≤ n) (v0 : Int) (v3 : Int) (v8 : Bool) : finE (EV n) LF [0,3,8] [2] [] 0 [] k91_1 (((T.e.set 0 (eI v0)).set 3 (eI v3)).set 8 (.b v8)) ⟨0,T.e,.e,T.e⟩ = (n91_1 v3 v8).map (fun (r : Bool) => (X.nrm,(((T.e.set 0 (eI v0)).set 3 (eI v3)).set 8 (.b r)),⟨0,T.e,.e,T.e⟩)):=by
  rw [finE]
  simp [k91_1,n91_1,lay_pure]
theorem w91_0 {n : Nat} (hn : 0 ≤ n) (v0 : Int) (v3 : Int) : finE (EV n) LF [0] [2] [] 0 [] k91_0 ((T.e.set 0 (eI v0)).set 3 (eI v3)) ⟨0,T.e,.e,T.e⟩ = (n91_0 v3).map (Sum.elim (fun (r : Unit) => (X.nrm,(T.e.set 0 (eI v0)),⟨0,T.e,.e,T.e⟩)) (fun (r : BitVec 32) => (X.ret,(T.e.set 2 (eU32 r)),⟨0,T.e,.e,T.e⟩))):=by
  rw [finE]
  simp [k91_0,n91_0,w91_1 (n:=n) (by omega),lay_pure]
theorem w91 {n : Nat} (hn : 1 ≤ n) (a0 : Int) (qs : List Nat) (h : H) : callPv (EV n) 91 qs [eI a0] h = (n91 a0).map fun r => (eU32 r,h):=by
  obtain ⟨m,rfl⟩:=pm hn
  rw [callPv_eq,EV_at t91,f91,runF_eq]
  simp [n91,w91_1 (n:=m) (by omega),w91_0 (n:=m) (by omega),lay_pure]
theorem w48_0 {n : Nat} (hn : 1 ≤ n) (b0 : GArch) (s : Int) : finE (EV n) LF [1,3] [2] [1] 1 [] k48_0 ((T.e.set 1 (.p 0 0)).set 3 (eI s)) ⟨1,(T.e.set 0 ⟨eArch b0,0,0⟩),.e,T.e⟩ = (n48_0 b0 s).map (Sum.elim (fun s => (X.nrm,((T.e.set 1 (.p 0 0)).set 3 (eI s)),⟨1,(T.e.set 0 ⟨eArch b0,0,0⟩),.e,T.e⟩)) (Sum.elim (fun (r : Unit) => (X.exit 0,(T.e.set 1 (.p 0 0)),⟨1,(T.e.set 0 ⟨eArch b0,0,0⟩),.e,T.e⟩)) (fun (r : Unit) => (X.ret,(T.e.set 2 (.b false)),⟨1,(T.e.set 0 ⟨eArch b0,0,0⟩),.e,T.e⟩)))):=by
  rw [finE]
  simp [k48_0,n48_0,w91 (n:=n) (by omega),lay_pure]
theorem l48_0 {n : Nat} (hn : 1 ≤ n) (v3 : Int) (b0 : GArch) : loopE (EV n) LF [1,3] [2] [1] 1 [] k48_0 ((T.e.set 1 (.p 0 0)).set 3 (eI v3)) ⟨1,(T.e.set 0 ⟨eArch b0,0,0⟩),.e,T.e⟩ = (loopN (n48_0 b0) LF v3).map (Sum.elim (fun (r : Unit) => (X.exit 0,(T.e.set 1 (.p 0 0)),⟨1,(T.e.set 0 ⟨eArch b0,0,0⟩),.e,T.e⟩)) (fun (r : Unit) => (X.ret,(T.e.set 2 (.b false)),⟨1,(T.e.set 0 ⟨eArch b0,0,0⟩),.e,T.e⟩))):=by
  exact loop_rule (E:=fun s : Int => ((T.e.set 1 (.p 0 0)).set 3 (eI s))) (B:=fun s : Int => ⟨1,(T.e.set 0 ⟨eArch b0,0,0⟩),.e,T.e⟩) (out:=(Sum.elim (fun (r : Unit) => (X.exit 0,(T.e.set 1 (.p 0 0)),⟨1,(T.e.set 0 ⟨eArch b0,0,0⟩),.e,T.e⟩)) (fun (r : Unit) => (X.ret,(T.e.set 2 (.b false)),⟨1,(T.e.set 0 ⟨eArch b0,0,0⟩),.e,T.e⟩)))) (fun r => by rcases r with r | r <;> simp)
    (fun s => w48_0 hn b0 s) (fun s => by simp [lay_pure]) v3
theorem w48 {n : Nat} (hn : 2 ≤ n) (a0 : GArch) (qs : List Nat) (h : H) : callPv (EV n) 48 qs [.a (eArch a0)] h = (n48 a0).map fun r => (.b r,h):=by
  obtain ⟨m,rfl⟩:=pm hn
  rw [callPv_eq,EV_at t48,f48,runF_eq]
  simp [n48,l48_0 (n:=m) (by omega),w91 (n:=m) (by omega),lay_pure]
theorem w49_1 {n : Nat} (hn : 2 ≤ n) (v3 : Int) (b0 : GCore) (b1 : GRob) : finE (EV n) LF [1,3,4,32] [2] [] 2 [] k49_1 (((T.e.set 1 (.p 0 0)).set 3 (eI v3)).set 4 (.p 1 0)) ⟨2,((T.e.set 0 ⟨eCore b0,0,0⟩).set 1 ⟨eRob b1,1,0⟩),.e,T.e⟩ = (n49_1 b1).map (fun (r : Bool) => (X.nrm,((((T.e.set 1 (.p 0 0)).set 3 (eI v3)).set 4 (.p 1 0)).set 32 (.b r)),⟨2,((T.e.set 0 ⟨eCore b0,0,0⟩).set 1 ⟨eRob b1,1,0⟩),.e,T.e⟩)):=by
  rw [finE]
  simp [k49_1,n49_1,w90 (n:=n) (by omega),lay_pure]
theorem w49_2 {n : Nat} (hn : 2 ≤ n) (v3 : Int) (v5 : BitVec 32) (v6 : Bool) (b0 : GCore) (b1 : GRob) : finE (EV n) LF [1,3,49] [2] [] 2 [] k49_2 (((((T.e.set 1 (.p 0 0)).set 3 (eI v3)).set 4 (.p 1 0)).set 5 (eU32 v5)).set 6 (.b v6)) ⟨2,((T.e.set 0 ⟨eCore b0,0,0⟩).set 1 ⟨eRob b1,1,0⟩),.e,T.e⟩ = (n49_2 v5 v6 b1).map (fun (r : Bool) => (X.nrm,(((T.e.set 1 (.p 0 0)).set 3 (eI v3)).set 49 (.b r)),⟨2,((T.e.set 0 ⟨eCore b0,0,0⟩).set 1 ⟨eRob b1,1,0⟩),.e,T.e⟩)):=by
  rw [finE]
  simp [k49_2,n49_2,w49_1 (n:=n) (by omega),w90 (n:=n) (by omega),lay_pure]
theorem w49_0 {n : Nat} (hn : 2 ≤ n) (b0 : GCore) (s : Int) : finE (EV n) LF [1,3] [2] [] 1 [] k49_0 ((T.e.set 1 (.p 0 0)).set 3 (eI s)) ⟨1,(T.e.set 0 ⟨eCore b0,0,0⟩),.e,T.e⟩ = (n49_0 b0 s).map (Sum.elim (fun s => (X.nrm,((T.e.set 1 (.p 0 0)).set 3 (eI s)),⟨1,(T.e.set 0 ⟨eCore b0,0,0⟩),.e,T.e⟩)) (Sum.elim (fun (r : Unit) => (X.exit 0,T.e,⟨1,(T.e.set 0 ⟨eCore b0,0,0⟩),.e,T.e⟩)) (fun (r : Unit) => (X.ret,(T.e.set 2 (.b false)),⟨1,(T.e.set 0 ⟨eCore b0,0,0⟩),.e,T.e⟩)))):=by
  rw [finE]
  simp [k49_0,n49_0,w49_1 (n:=n) (by omega),w49_2 (n:=n) (by omega),w90 (n:=n) (by omega),lay_pure]
theorem l49_0 {n : Nat} (hn : 2 ≤ n) (v3 : Int) (b0 : GCore) : loopE (EV n) LF [1,3] [2] [] 1 [] k49_0 ((T.e.set 1 (.p 0 0)).set 3 (eI v3)) ⟨1,(T.e.set 0 ⟨eCore b0,0,0⟩),.e,T.e⟩ = (loopN (n49_0 b0) LF v3).map (Sum.elim (fun (r : Unit) => (X.exit 0,T.e,⟨1,(T.e.set 0 ⟨eCore b0,0,0⟩),.e,T.e⟩)) (fun (r : Unit) => (X.ret,(T.e.set 2 (.b false)),⟨1,(T.e.set 0 ⟨eCore b0,0,0⟩),.e,T.e⟩))):=by
  exact loop_rule (E:=fun s : Int => ((T.e.set 1 (.p 0 0)).set 3 (eI s))) (B:=fun s : Int => ⟨1,(T.e.set 0 ⟨eCore b0,0,0⟩),.e,T.e⟩) (out:=(Sum.elim (fun (r : Unit) => (X.exit 0,T.e,⟨1,(T.e.set 0 ⟨eCore b0,0,0⟩),.e,T.e⟩)) (fun (r : Unit) => (X.ret,(T.e.set 2 (.b false)),⟨1,(T.e.set 0 ⟨eCore b0,0,0⟩),.e,T.e⟩)))) (fun r => by rcases r with r | r <;> simp)
    (fun s => w49_0 hn b0 s) (fun s => by simp [lay_pure]) v3
theorem w49 {n : Nat} (hn : 3 ≤ n) (a0 : GCore) (qs : List Nat) (h : H) : callPv (EV n) 49 qs [.a (eCore a0)] h = (n49 a0).map fun r => (.b r,h):=by
  obtain ⟨m,rfl⟩:=pm hn
  rw [callPv_eq,EV_at t49,f49,runF_eq]
  simp [n49,w49_1 (n:=m) (by omega),w49_2 (n:=m) (by omega),l49_0 (n:=m) (by omega),w90 (n:=m) (by omega),lay_pure]
theorem tk1002 (e : Nat) : V.fz (.tk 1002 e) 0 1 [] = eTk 1002 e 1 cI []:=nr rfl
theorem tk1010 (e : Nat) : V.fz (.tk 1010 e) 0 1 [] = eTk 1010 e 1 cI []:=nr rfl
theorem tk1011 (e : Nat) : V.fz (.tk 1011 e) 0 29 [] = eTk 1011 e 29 eRen []:=nr rfl
theorem w10_0 {n : Nat} (hn : 4 ≤ n) (v3 : List Int) (b0 : GCore) (q1002 : Nat) (s : List GRen × Int) : finE (EV n) LF [1,3,4,5] [2] [1,3,4] 1 [1002,1010,1011] k10_0 ((((T.e.set 1 (.p 0 0)).set 3 (eTk 1010 0 1 cI v3)).set 4 (eTk 1011 0 29 eRen s.1)).set 5 (eI s.2)) ⟨1,(T.e.set 0 ⟨eCore b0,0,0⟩),.e,(((T.e.set 1002 (0,q1002,1)).set 1010 (0,v3.length,1)).set 1011 (0,s.1.length,29))⟩ = (n10_0 b0 s).map (Sum.elim (fun s => (X.nrm,((((T.e.set 1 (.p 0 0)).set 3 (eTk 1010 0 1 cI v3)).set 4 (eTk 1011 0 29 eRen s.1)).set 5 (eI s.2)),⟨1,(T.e.set 0 ⟨eCore b0,0,0⟩),.e,(((T.e.set 1002 (0,q1002,1)).set 1010 (0,v3.length,1)).set 1011 (0,s.1.length,29))⟩)) (fun (r : List GRen) => (X.exit 0,(((T.e.set 1 (.p 0 0)).set 3 (eTk 1010 0 1 cI v3)).set 4 (eTk 1011 0 29 eRen r)),⟨1,(T.e.set 0 ⟨eCore b0,0,0⟩),.e,(((T.e.set 1002 (0,q1002,1)).set 1010 (0,v3.length,1)).set 1011 (0,r.length,29))⟩))):=by
  rw [finE]
  simp [k10_0,n10_0,w41 (n:=n) (by omega),w42 (n:=n) (by omega),w43 (n:=n) (by omega),w44 (n:=n) (by omega),w45 (n:=n) (by omega),w46 (n:=n) (by omega),w47 (n:=n) (by omega),w48 (n:=n) (by omega),w49 (n:=n) (by omega),tk1002,ex1_3,tk1010,tk1011,ex1_126,appT_ex,appT_tk,appT_ex1,appT_tk1,encs_pureC,eqArr25,lay_pure]
theorem l10_0 {n : Nat} (hn : 4 ≤ n) (v3 : List Int) (v4 : List GRen) (v5 : Int) (b0 : GCore) (q1002 : Nat) (q1010 : Nat) (h1010 : q1010 = v3.length) (q1011 : Nat) (h1011 : q1011 = v4.length) : loopE (EV n) LF [1,3,4,5] [2] [1,3,4] 1 [1002,1010,1011] k10_0 ((((T.e.set 1 (.p 0 0)).set 3 (eTk 1010 0 1 cI v3)).set 4 (eTk 1011 0 29 eRen v4)).set 5 (eI v5)) ⟨1,(T.e.set 0 ⟨eCore b0,0,0⟩),.e,(((T.e.set 1002 (0,q1002,1)).set 1010 (0,q1010,1)).set 1011 (0,q1011,29))⟩ = (loopN (n10_0 b0) LF (v4,v5)).map (fun (r : List GRen) => (X.exit 0,(((T.e.set 1 (.p 0 0)).set 3 (eTk 1010 0 1 cI v3)).set 4 (eTk 1011 0 29 eRen r)),⟨1,(T.e.set 0 ⟨eCore b0,0,0⟩),.e,(((T.e.set 1002 (0,q1002,1)).set 1010 (0,v3.length,1)).set 1011 (0,r.length,29))⟩)):=by
  subst h1010
  subst h1011
  exact loop_rule (E:=fun s : List GRen × Int => ((((T.e.set 1 (.p 0 0)).set 3 (eTk 1010 0 1 cI v3)).set 4 (eTk 1011 0 29 eRen s.1)).set 5 (eI s.2))) (B:=fun s : List GRen × Int => ⟨1,(T.e.set 0 ⟨eCore b0,0,0⟩),.e,(((T.e.set 1002 (0,q1002,1)).set 1010 (0,v3.length,1)).set 1011 (0,s.1.length,29))⟩) (out:=(fun (r : List GRen) => (X.exit 0,(((T.e.set 1 (.p 0 0)).set 3 (eTk 1010 0 1 cI v3)).set 4 (eTk 1011 0 29 eRen r)),⟨1,(T.e.set 0 ⟨eCore b0,0,0⟩),.e,(((T.e.set 1002 (0,q1002,1)).set 1010 (0,v3.length,1)).set 1011 (0,r.length,29))⟩))) (fun r => by simp)
    (fun s => w10_0 hn v3 b0 q1002 s) (fun s => by simp [lay_pure]) (v4,v5)
theorem w10_1 {n : Nat} (hn : 4 ≤ n) (v3 : List Int) (v4 : List GRen) (b0 : GCore) (q1002 : Nat) (q1010 : Nat) (h1010 : q1010 = v3.length) (q1011 : Nat) (h1011 : q1011 = v4.length) : finE (EV n) LF [1,3,4,53] [2] [] 1 [1002,1010,1011] k10_1 (((T.e.set 1 (.p 0 0)).set 3 (eTk 1010 0 1 cI v3)).set 4 (eTk 1011 0 29 eRen v4)) ⟨1,(T.e.set 0 ⟨eCore b0,0,0⟩),.e,(((T.e.set 1002 (0,q1002,1)).set 1010 (0,q1010,1)).set 1011 (0,q1011,29))⟩ = (n10_1 b0).map (fun (r : Bool) => (X.nrm,((((T.e.set 1 (.p 0 0)).set 3 (eTk 1010 0 1 cI v3)).set 4 (eTk 1011 0 29 eRen v4)).set 53 (.b r)),⟨1,(T.e.set 0 ⟨eCore b0,0,0⟩),.e,(((T.e.set 1002 (0,q1002,1)).set 1010 (0,v3.length,1)).set 1011 (0,v4.length,29))⟩)):=by
  subst h1010
  subst h1011
  rw [finE]
  simp [k10_1,n10_1,l10_0 (n:=n) (by omega),w41 (n:=n) (by omega),w42 (n:=n) (by omega),w43 (n:=n) (by omega),w44 (n:=n) (by omega),w45 (n:=n) (by omega),w46 (n:=n) (by omega),w47 (n:=n) (by omega),w48 (n:=n) (by omega),w49 (n:=n) (by omega),tk1002,ex1_3,tk1010,tk1011,ex1_126,appT_ex,appT_tk,appT_ex1,appT_tk1,encs_pureC,eqArr25,lay_pure]
theorem w10_2 {n : Nat} (hn : 4 ≤ n) (v3 : List Int) (v4 : List GRen) (v53 : Bool) (b0 : GCore) (q1002 : Nat) (q1010 : Nat) (h1010 : q1010 = v3.length) (q1011 : Nat) (h1011 : q1011 = v4.length) : finE (EV n) LF [1,3,4] [2] [] 1 [1002,1010,1011] k10_2 ((((T.e.set 1 (.p 0 0)).set 3 (eTk 1010 0 1 cI v3)).set 4 (eTk 1011 0 29 eRen v4)).set 53 (.b v53)) ⟨1,(T.e.set 0 ⟨eCore b0,0,0⟩),.e,(((T.e.set 1002 (0,q1002,1)).set 1010 (0,q1010,1)).set 1011 (0,q1011,29))⟩ = (n10_2 v3 v53).map (fun (r : List Int) => (X.nrm,(((T.e.set 1 (.p 0 0)).set 3 (eTk 1010 0 1 cI r)).set 4 (eTk 1011 0 29 eRen v4)),⟨1,(T.e.set 0 ⟨eCore b0,0,0⟩),.e,(((T.e.set 1002 (0,q1002,1)).set 1010 (0,r.length,1)).set 1011 (0,v4.length,29))⟩)):=by
  subst h1010
  subst h1011
  rw [finE]
  simp [k10_2,n10_2,l10_0 (n:=n) (by omega),w10_1 (n:=n) (by omega),w41 (n:=n) (by omega),w42 (n:=n) (by omega),w43 (n:=n) (by omega),w44 (n:=n) (by omega),w45 (n:=n) (by omega),w46 (n:=n) (by omega),w47 (n:=n) (by omega),w48 (n:=n) (by omega),w49 (n:=n) (by omega),tk1002,ex1_3,tk1010,tk1011,ex1_126,appT_ex,appT_tk,appT_ex1,appT_tk1,encs_pureC,eqArr25,lay_pure]
theorem w10_3 {n : Nat} (hn : 4 ≤ n) (v3 : List Int) (v64 : Bool) (b0 : GCore) (q1002 : Nat) (q1010 : Nat) (h1010 : q1010 = v3.length) (q1011 : Nat) : finE (EV n) LF [1,3] [2] [] 1 [1002,1010,1011] k10_3 (((T.e.set 1 (.p 0 0)).set 3 (eTk 1010 0 1 cI v3)).set 64 (.b v64)) ⟨1,(T.e.set 0 ⟨eCore b0,0,0⟩),.e,(((T.e.set 1002 (0,q1002,1)).set 1010 (0,q1010,1)).set 1011 (0,q1011,29))⟩ = (n10_3 v3 v64).map (fun (r : List Int) => (X.nrm,((T.e.set 1 (.p 0 0)).set 3 (eTk 1010 0 1 cI r)),⟨1,(T.e.set 0 ⟨eCore b0,0,0⟩),.e,(((T.e.set 1002 (0,q1002,1)).set 1010 (0,r.length,1)).set 1011 (0,q1011,29))⟩)):=by
  subst h1010
  rw [finE]
  simp [k10_3,n10_3,l10_0 (n:=n) (by omega),w10_1 (n:=n) (by omega),w10_2 (n:=n) (by omega),w41 (n:=n) (by omega),w42 (n:=n) (by omega),w43 (n:=n) (by omega),w44 (n:=n) (by omega),w45 (n:=n) (by omega),w46 (n:=n) (by omega),w47 (n:=n) (by omega),w48 (n:=n) (by omega),w49 (n:=n) (by omega),tk1002,ex1_3,tk1010,tk1011,ex1_126,appT_ex,appT_tk,appT_ex1,appT_tk1,encs_pureC,eqArr25,lay_pure]
theorem w10_4 {n : Nat} (hn : 4 ≤ n) (v3 : List Int) (v70 : Bool) (b0 : GCore) (q1002 : Nat) (q1010 : Nat) (h1010 : q1010 = v3.length) (q1011 : Nat) : finE (EV n) LF [1,3] [2] [] 1 [1002,1010,1011] k10_4 (((T.e.set 1 (.p 0 0)).set 3 (eTk 1010 0 1 cI v3)).set 70 (.b v70)) ⟨1,(T.e.set 0 ⟨eCore b0,0,0⟩),.e,(((T.e.set 1002 (0,q1002,1)).set 1010 (0,q1010,1)).set 1011 (0,q1011,29))⟩ = (n10_4 v3 v70).map (fun (r : List Int) => (X.nrm,((T.e.set 1 (.p 0 0)).set 3 (eTk 1010 0 1 cI r)),⟨1,(T.e.set 0 ⟨eCore b0,0,0⟩),.e,(((T.e.set 1002 (0,q1002,1)).set 1010 (0,r.length,1)).set 1011 (0,q1011,29))⟩)):=by
  subst h1010
  rw [finE]
  simp [k10_4,n10_4,l10_0 (n:=n) (by omega),w10_1 (n:=n) (by omega),w10_2 (n:=n) (by omega),w10_3 (n:=n) (by omega),w41 (n:=n) (by omega),w42 (n:=n) (by omega),w43 (n:=n) (by omega),w44 (n:=n) (by omega),w45 (n:=n) (by omega),w46 (n:=n) (by omega),w47 (n:=n) (by omega),w48 (n:=n) (by omega),w49 (n:=n) (by omega),tk1002,ex1_3,tk1010,tk1011,ex1_126,appT_ex,appT_tk,appT_ex1,appT_tk1,encs_pureC,eqArr25,lay_pure]
theorem w10_5 {n : Nat} (hn : 4 ≤ n) (v3 : List Int) (v76 : Bool) (b0 : GCore) (q1002 : Nat) (q1010 : Nat) (h1010 : q1010 = v3.length) (q1011 : Nat) : finE (EV n) LF [1,3] [2] [] 1 [1002,1010,1011] k10_5 (((T.e.set 1 (.p 0 0)).set 3 (eTk 1010 0 1 cI v3)).set 76 (.b v76)) ⟨1,(T.e.set 0 ⟨eCore b0,0,0⟩),.e,(((T.e.set 1002 (0,q1002,1)).set 1010 (0,q1010,1)).set 1011 (0,q1011,29))⟩ = (n10_5 v3 v76).map (fun (r : List Int) => (X.nrm,((T.e.set 1 (.p 0 0)).set 3 (eTk 1010 0 1 cI r)),⟨1,(T.e.set 0 ⟨eCore b0,0,0⟩),.e,(((T.e.set 1002 (0,q1002,1)).set 1010 (0,r.length,1)).set 1011 (0,q1011,29))⟩)):=by
  subst h1010
  rw [finE]
  simp [k10_5,n10_5,l10_0 (n:=n) (by omega),w10_1 (n:=n) (by omega),w10_2 (n:=n) (by omega),w10_3 (n:=n) (by omega),w10_4 (n:=n) (by omega),w41 (n:=n) (by omega),w42 (n:=n) (by omega),w43 (n:=n) (by omega),w44 (n:=n) (by omega),w45 (n:=n) (by omega),w46 (n:=n) (by omega),w47 (n:=n) (by omega),w48 (n:=n) (by omega),w49 (n:=n) (by omega),tk1002,ex1_3,tk1010,tk1011,ex1_126,appT_ex,appT_tk,appT_ex1,appT_tk1,encs_pureC,eqArr25,lay_pure]
theorem w10_6 {n : Nat} (hn : 4 ≤ n) (v3 : List Int) (v82 : Bool) (b0 : GCore) (q1002 : Nat) (q1010 : Nat) (h1010 : q1010 = v3.length) (q1011 : Nat) : finE (EV n) LF [1,3] [2] [] 1 [1002,1010,1011] k10_6 (((T.e.set 1 (.p 0 0)).set 3 (eTk 1010 0 1 cI v3)).set 82 (.b v82)) ⟨1,(T.e.set 0 ⟨eCore b0,0,0⟩),.e,(((T.e.set 1002 (0,q1002,1)).set 1010 (0,q1010,1)).set 1011 (0,q1011,29))⟩ = (n10_6 v3 v82).map (fun (r : List Int) => (X.nrm,((T.e.set 1 (.p 0 0)).set 3 (eTk 1010 0 1 cI r)),⟨1,(T.e.set 0 ⟨eCore b0,0,0⟩),.e,(((T.e.set 1002 (0,q1002,1)).set 1010 (0,r.length,1)).set 1011 (0,q1011,29))⟩)):=by
  subst h1010
  rw [finE]
  simp [k10_6,n10_6,l10_0 (n:=n) (by omega),w10_1 (n:=n) (by omega),w10_2 (n:=n) (by omega),w10_3 (n:=n) (by omega),w10_4 (n:=n) (by omega),w10_5 (n:=n) (by omega),w41 (n:=n) (by omega),w42 (n:=n) (by omega),w43 (n:=n) (by omega),w44 (n:=n) (by omega),w45 (n:=n) (by omega),w46 (n:=n) (by omega),w47 (n:=n) (by omega),w48 (n:=n) (by omega),w49 (n:=n) (by omega),tk1002,ex1_3,tk1010,tk1011,ex1_126,appT_ex,appT_tk,appT_ex1,appT_tk1,encs_pureC,eqArr25,lay_pure]
theorem w10_7 {n : Nat} (hn : 4 ≤ n) (v3 : List Int) (v95 : Bool) (b0 : GCore) (q1002 : Nat) (q1010 : Nat) (h1010 : q1010 = v3.length) (q1011 : Nat) : finE (EV n) LF [1,3] [2] [] 1 [1002,1010,1011] k10_7 (((T.e.set 1 (.p 0 0)).set 3 (eTk 1010 0 1 cI v3)).set 95 (.b v95)) ⟨1,(T.e.set 0 ⟨eCore b0,0,0⟩),.e,(((T.e.set 1002 (0,q1002,1)).set 1010 (0,q1010,1)).set 1011 (0,q1011,29))⟩ = (n10_7 v3 v95).map (fun (r : List Int) => (X.nrm,((T.e.set 1 (.p 0 0)).set 3 (eTk 1010 0 1 cI r)),⟨1,(T.e.set 0 ⟨eCore b0,0,0⟩),.e,(((T.e.set 1002 (0,q1002,1)).set 1010 (0,r.length,1)).set 1011 (0,q1011,29))⟩)):=by
  subst h1010
  rw [finE]
  simp [k10_7,n10_7,l10_0 (n:=n) (by omega),w10_1 (n:=n) (by omega),w10_2 (n:=n) (by omega),w10_3 (n:=n) (by omega),w10_4 (n:=n) (by omega),w10_5 (n:=n) (by omega),w10_6 (n:=n) (by omega),w41 (n:=n) (by omega),w42 (n:=n) (by omega),w43 (n:=n) (by omega),w44 (n:=n) (by omega),w45 (n:=n) (by omega),w46 (n:=n) (by omega),w47 (n:=n) (by omega),w48 (n:=n) (by omega),w49 (n:=n) (by omega),tk1002,ex1_3,tk1010,tk1011,ex1_126,appT_ex,appT_tk,appT_ex1,appT_tk1,encs_pureC,eqArr25,lay_pure]
theorem w10_8 {n : Nat} (hn : 4 ≤ n) (v3 : List Int) (v102 : Bool) (b0 : GCore) (q1002 : Nat) (q1010 : Nat) (h1010 : q1010 = v3.length) (q1011 : Nat) : finE (EV n) LF [1,3] [2] [] 1 [1002,1010,1011] k10_8 (((T.e.set 1 (.p 0 0)).set 3 (eTk 1010 0 1 cI v3)).set 102 (.b v102)) ⟨1,(T.e.set 0 ⟨eCore b0,0,0⟩),.e,(((T.e.set 1002 (0,q1002,1)).set 1010 (0,q1010,1)).set 1011 (0,q1011,29))⟩ = (n10_8 v3 v102).map (fun (r : List Int) => (X.nrm,((T.e.set 1 (.p 0 0)).set 3 (eTk 1010 0 1 cI r)),⟨1,(T.e.set 0 ⟨eCore b0,0,0⟩),.e,(((T.e.set 1002 (0,q1002,1)).set 1010 (0,r.length,1)).set 1011 (0,q1011,29))⟩)):=by
  subst h1010
  rw [finE]
  simp [k10_8,n10_8,l10_0 (n:=n) (by omega),w10_1 (n:=n) (by omega),w10_2 (n:=n) (by omega),w10_3 (n:=n) (by omega),w10_4 (n:=n) (by omega),w10_5 (n:=n) (by omega),w10_6 (n:=n) (by omega),w10_7 (n:=n) (by omega),w41 (n:=n) (by omega),w42 (n:=n) (by omega),w43 (n:=n) (by omega),w44 (n:=n) (by omega),w45 (n:=n) (by omega),w46 (n:=n) (by omega),w47 (n:=n) (by omega),w48 (n:=n) (by omega),w49 (n:=n) (by omega),tk1002,ex1_3,tk1010,tk1011,ex1_126,appT_ex,appT_tk,appT_ex1,appT_tk1,encs_pureC,eqArr25,lay_pure]
theorem w10 {n : Nat} (hn : 5 ≤ n) (a0 : GCore) (qs : List Nat) (h : H) : callPv (EV n) 10 qs [.a (eCore a0)] h = (n10 a0).map fun r => (eSl 1 cI r,h):=by
  obtain ⟨m,rfl⟩:=pm hn
  rw [callPv_eq,EV_at t10,f10,runF_eq]
  simp [n10,l10_0 (n:=m) (by omega),w10_1 (n:=m) (by omega),w10_2 (n:=m) (by omega),w10_3 (n:=m) (by omega),w10_4 (n:=m) (by omega),w10_5 (n:=m) (by omega),w10_6 (n:=m) (by omega),w10_7 (n:=m) (by omega),w10_8 (n:=m) (by omega),w41 (n:=m) (by omega),w42 (n:=m) (by omega),w43 (n:=m) (by omega),w44 (n:=m) (by omega),w45 (n:=m) (by omega),w46 (n:=m) (by omega),w47 (n:=m) (by omega),w48 (n:=m) (by omega),w49 (n:=m) (by omega),tk1002,ex1_3,tk1010,tk1011,ex1_126,appT_ex,appT_tk,appT_ex1,appT_tk1,encs_pureC,eqArr25,lay_pure]
theorem w50 {n : Nat} (hn : 1 ≤ n) (a0 : List (BitVec 8)) (qs : List Nat) (h : H) : callPv (EV n) 50 qs [eSl 1 cU8 a0] h = (n50 a0).map fun r => (.b r,h):=by
  obtain ⟨m,rfl⟩:=pm hn
  rw [callPv_eq,EV_at t50,f50,runF_eq]
  simp [n50,lay_pure]
theorem w176_1 {n : Nat} (hn : 0 ≤ n) (v5 : List GWay) (v6 : Int) (b0 : GCache) (s : Int × Int) : finE (EV n) LF [5,6,7,8] [4] [5,6,7] 1 [] k176_1 ((((T.e.set 5 (eSl 19 eWay v5)).set 6 (eI v6)).set 7 (eI s.1)).set 8 (eI s.2)) ⟨1,(T.e.set 0 ⟨eCache b0,0,0⟩),.e,T.e⟩ = (n176_1 v5 v6 s).map (Sum.elim (fun s => (X.nrm,((((T.e.set 5 (eSl 19 eWay v5)).set 6 (eI v6)).set 7 (eI s.1)).set 8 (eI s.2)),⟨1,(T.e.set 0 ⟨eCache b0,0,0⟩),.e,T.e⟩)) (fun (r : Int) => (X.exit 2,(((T.e.set 5 (eSl 19 eWay v5)).set 6 (eI v6)).set 7 (eI r)),⟨1,(T.e.set 0 ⟨eCache b0,0,0⟩),.e,T.e⟩))):=by
  rw [finE]
  simp [k176_1,n176_1,lay_pure]
theorem l176_1 {n : Nat} (hn : 0 ≤ n) (v5 : List GWay) (v6 : Int) (v7 : Int) (v8 : Int) (b0 : GCache) : loopE (EV n) LF [5,6,7,8] [4] [5,6,7] 1 [] k176_1 ((((T.e.set 5 (eSl 19 eWay v5)).set 6 (eI v6)).set 7 (eI v7)).set 8 (eI v8)) ⟨1,(T.e.set 0 ⟨eCache b0,0,0⟩),.e,T.e⟩ = (loopN (n176_1 v5 v6) LF (v7,v8)).map (fun (r : Int) => (X.exit 2,(((T.e.set 5 (eSl 19 eWay v5)).set 6 (eI v6)).set 7 (eI r)),⟨1,(T.e.set 0 ⟨eCache b0,0,0⟩),.e,T.e⟩)):=by
  exact loop_rule (E:=fun s : Int × Int => ((((T.e.set 5 (eSl 19 eWay v5)).set 6 (eI v6)).set 7 (eI s.1)).set 8 (eI s.2))) (B:=fun s : Int × Int => ⟨1,(T.e.set 0 ⟨eCache b0,0,0⟩),.e,T.e⟩) (out:=(fun (r : Int) => (X.exit 2,(((T.e.set 5 (eSl 19 eWay v5)).set 6 (eI v6)).set 7 (eI r)),⟨1,(T.e.set 0 ⟨eCache b0,0,0⟩),.e,T.e⟩))) (fun r => by simp)
    (fun s => w176_1 hn v5 v6 b0 s) (fun s => by simp [lay_pure]) (v7,v8)
theorem w176_0 {n : Nat} (hn : 0 ≤ n) (v5 : List GWay) (b0 : GCache) (s : Int) : finE (EV n) LF [5,6] [4] [] 1 [] k176_0 ((T.e.set 5 (eSl 19 eWay v5)).set 6 (eI s)) ⟨1,(T.e.set 0 ⟨eCache b0,0,0⟩),.e,T.e⟩ = (n176_0 v5 s).map (Sum.elim (fun s => (X.nrm,((T.e.set 5 (eSl 19 eWay v5)).set 6 (eI s)),⟨1,(T.e.set 0 ⟨eCache b0,0,0⟩),.e,T.e⟩)) (Sum.elim (fun (r : Unit) => (X.exit 0,T.e,⟨1,(T.e.set 0 ⟨eCache b0,0,0⟩),.e,T.e⟩)) (fun (r : Unit) => (X.ret,(T.e.set 4 (.b false)),⟨1,(T.e.set 0 ⟨eCache b0,0,0⟩),.e,T.e⟩)))):=by
  rw [finE]
  simp [k176_0,n176_0,l176_1 (n:=n) (by omega),lay_pure]
theorem l176_0 {n : Nat} (hn : 0 ≤ n) (v5 : List GWay) (v6 : Int) (b0 : GCache) : loopE (EV n) LF [5,6] [4] [] 1 [] k176_0 ((T.e.set 5 (eSl 19 eWay v5)).set 6 (eI v6)) ⟨1,(T.e.set 0 ⟨eCache b0,0,0⟩),.e,T.e⟩ = (loopN (n176_0 v5) LF v6).map (Sum.elim (fun (r : Unit) => (X.exit 0,T.e,⟨1,(T.e.set 0 ⟨eCache b0,0,0⟩),.e,T.e⟩)) (fun (r : Unit) => (X.ret,(T.e.set 4 (.b false)),⟨1,(T.e.set 0 ⟨eCache b0,0,0⟩),.e,T.e⟩))):=by
  exact loop_rule (E:=fun s : Int => ((T.e.set 5 (eSl 19 eWay v5)).set 6 (eI s))) (B:=fun s : Int => ⟨1,(T.e.set 0 ⟨eCache b0,0,0⟩),.e,T.e⟩) (out:=(Sum.elim (fun (r : Unit) => (X.exit 0,T.e,⟨1,(T.e.set 0 ⟨eCache b0,0,0⟩),.e,T.e⟩)) (fun (r : Unit) => (X.ret,(T.e.set 4 (.b false)),⟨1,(T.e.set 0 ⟨eCache b0,0,0⟩),.e,T.e⟩)))) (fun r => by rcases r with r | r <;> simp)
    (fun s => w176_0 hn v5 b0 s) (fun s => by simp [lay_pure]) v6
theorem w176 {n : Nat} (hn : 1 ≤ n) (a0 : GCache) (a1 : Int) (qs : List Nat) (h : H) : callPv (EV n) 176 qs [.a (eCache a0),eI a1] h = (n176 a0 a1).map fun r => (.b r,h):=by
  obtain ⟨m,rfl⟩:=pm hn
  rw [callPv_eq,EV_at t176,f176,runF_eq]
  simp [n176,l176_1 (n:=m) (by omega),l176_0 (n:=m) (by omega),lay_pure]
end
end Go.Ev
namespace Go.Ev
noncomputable section
set_option maxHeartbeats 4000000
theorem w267 {n : Nat} (hn : 1 ≤ n) (a0 : GCache) (a1 : BitVec 32) (qs : List Nat) (h : H) : callPv (EV n) 267 qs [.a (eCache a0),eU32 a1] h = (n267 a0 a1).map fun r => (eI r,h):=by
  obtain ⟨m,rfl⟩:=pm hn
  rw [callPv_eq,EV_at t267,f267,runF_eq]
  simp [n267,lay_pure]
theorem w177_1 {n : Nat} (hn : 1 ≤ n) (v1 : Int) (v5 : List GWay) (v6 : Int) (b0 : GCache) : finE (EV n) LF [1,2,5,6,32] [4] [] 1 [] k177_1 ((((T.e.set 1 (eI v1)).set 2 (.p 0 0)).set 5 (eSl 19 eWay v5)).set 6 (eI v6)) ⟨1,(T.e.set 0 ⟨eCache b0,0,0⟩),.e,T.e⟩ = (n177_1 v5 v6).map (fun (r : Bool) => (X.nrm,(((((T.e.set 1 (eI v1)).set 2 (.p 0 0)).set 5 (eSl 19 eWay v5)).set 6 (eI v6)).set 32 (.b r)),⟨1,(T.e.set 0 ⟨eCache b0,0,0⟩),.e,T.e⟩)):=by
  rw [finE]
  simp [k177_1,n177_1,w267 (n:=n) (by omega),eqArr178,lay_pure]
theorem w177_2 {n : Nat} (hn : 1 ≤ n) (v1 : Int) (v5 : List GWay) (v6 : Int) (b0 : GCache) : finE (EV n) LF [1,2,5,6,74] [4] [] 1 [] k177_2 ((((T.e.set 1 (eI v1)).set 2 (.p 0 0)).set 5 (eSl 19 eWay v5)).set 6 (eI v6)) ⟨1,(T.e.set 0 ⟨eCache b0,0,0⟩),.e,T.e⟩ = (n177_2 v1 v5 v6 b0).map (fun (r : Bool) => (X.nrm,(((((T.e.set 1 (eI v1)).set 2 (.p 0 0)).set 5 (eSl 19 eWay v5)).set 6 (eI v6)).set 74 (.b r)),⟨1,(T.e.set 0 ⟨eCache b0,0,0⟩),.e,T.e⟩)):=by
  rw [finE]
  simp [k177_2,n177_2,w177_1 (n:=n) (by omega),w267 (n:=n) (by omega),eqArr178,lay_pure]
theorem w177_4 {n : Nat} (hn : 1 ≤ n) (v1 : Int) (v5 : List GWay) (v6 : Int) (v7 : Int) (b0 : GCache) : finE (EV n) LF [1,2,5,6,7,106] [4] [] 1 [] k177_4 (((((T.e.set 1 (eI v1)).set 2 (.p 0 0)).set 5 (eSl 19 eWay v5)).set 6 (eI v6)).set 7 (eI v7)) ⟨1,(T.e.set 0 ⟨eCache b0,0,0⟩),.e,T.e⟩ = (n177_4 v5 v6 v7).map (fun (r : Bool) => (X.nrm,((((((T.e.set 1 (eI v1)).set 2 (.p 0 0)).set 5 (eSl 19 eWay v5)).set 6 (eI v6)).set 7 (eI v7)).set 106 (.b r)),⟨1,(T.e.set 0 ⟨eCache b0,0,0⟩),.e,T.e⟩)):=by
  rw [finE]
  simp [k177_4,n177_4,w177_1 (n:=n) (by omega),w177_2 (n:=n) (by omega),w267 (n:=n) (by omega),eqArr178,lay_pure]
theorem w177_3 {n : Nat} (hn : 1 ≤ n) (v1 : Int) (v5 : List GWay) (v6 : Int) (b0 : GCache) (s : Int) : finE (EV n) LF [1,2,5,6,7] [4] [1,2,5,6] 1 [] k177_3 (((((T.e.set 1 (eI v1)).set 2 (.p 0 0)).set 5 (eSl 19 eWay v5)).set 6 (eI v6)).set 7 (eI s)) ⟨1,(T.e.set 0 ⟨eCache b0,0,0⟩),.e,T.e⟩ = (n177_3 v5 v6 s).map (Sum.elim (fun s => (X.nrm,(((((T.e.set 1 (eI v1)).set 2 (.p 0 0)).set 5 (eSl 19 eWay v5)).set 6 (eI v6)).set 7 (eI s)),⟨1,(T.e.set 0 ⟨eCache b0,0,0⟩),.e,T.e⟩)) (Sum.elim (fun (r : Unit) => (X.exit 2,((((T.e.set 1 (eI v1)).set 2 (.p 0 0)).set 5 (eSl 19 eWay v5)).set 6 (eI v6)),⟨1,(T.e.set 0 ⟨eCache b0,0,0⟩),.e,T.e⟩)) (fun (r : Unit) => (X.ret,(T.e.set 4 (.b false)),⟨1,(T.e.set 0 ⟨eCache b0,0,0⟩),.e,T.e⟩)))):=by
  rw [finE]
  simp [k177_3,n177_3,w177_1 (n:=n) (by omega),w177_2 (n:=n) (by omega),w177_4 (n:=n) (by omega),w267 (n:=n) (by omega),eqArr178,lay_pure]
theorem l177_3 {n : Nat} (hn : 1 ≤ n) (v1 : Int) (v5 : List GWay) (v6 : Int) (v7 : Int) (b0 : GCache) : loopE (EV n) LF [1,2,5,6,7] [4] [1,2,5,6] 1 [] k177_3 (((((T.e.set 1 (eI v1)).set 2 (.p 0 0)).set 5 (eSl 19 eWay v5)).set 6 (eI v6)).set 7 (eI v7)) ⟨1,(T.e.set 0 ⟨eCache b0,0,0⟩),.e,T.e⟩ = (loopN (n177_3 v5 v6) LF v7).map (Sum.elim (fun (r : Unit) => (X.exit 2,((((T.e.set 1 (eI v1)).set 2 (.p 0 0)).set 5 (eSl 19 eWay v5)).set 6 (eI v6)),⟨1,(T.e.set 0 ⟨eCache b0,0,0⟩),.e,T.e⟩)) (fun (r : Unit) => (X.ret,(T.e.set 4 (.b false)),⟨1,(T.e.set 0 ⟨eCache b0,0,0⟩),.e,T.e⟩))):=by
  exact loop_rule (E:=fun s : Int => (((((T.e.set 1 (eI v1)).set 2 (.p 0 0)).set 5 (eSl 19 eWay v5)).set 6 (eI v6)).set 7 (eI s))) (B:=fun s : Int => ⟨1,(T.e.set 0 ⟨eCache b0,0,0⟩),.e,T.e⟩) (out:=(Sum.elim (fun (r : Unit) => (X.exit 2,((((T.e.set 1 (eI v1)).set 2 (.p 0 0)).set 5 (eSl 19 eWay v5)).set 6 (eI v6)),⟨1,(T.e.set 0 ⟨eCache b0,0,0⟩),.e,T.e⟩)) (fun (r : Unit) => (X.ret,(T.e.set 4 (.b false)),⟨1,(T.e.set 0 ⟨eCache b0,0,0⟩),.e,T.e⟩)))) (fun r => by rcases r with r | r <;> simp)
    (fun s => w177_3 hn v1 v5 v6 b0 s) (fun s => by simp [lay_pure]) v7
theorem w177_0 {n : Nat} (hn : 1 ≤ n) (v1 : Int) (v5 : List GWay) (b0 : GCache) (s : Int) : finE (EV n) LF [1,2,5,6] [4] [] 1 [] k177_0 ((((T.e.set 1 (eI v1)).set 2 (.p 0 0)).set 5 (eSl 19 eWay v5)).set 6 (eI s)) ⟨1,(T.e.set 0 ⟨eCache b0,0,0⟩),.e,T.e⟩ = (n177_0 v1 v5 b0 s).map (Sum.elim (fun s => (X.nrm,((((T.e.set 1 (eI v1)).set 2 (.p 0 0)).set 5 (eSl 19 eWay v5)).set 6 (eI s)),⟨1,(T.e.set 0 ⟨eCache b0,0,0⟩),.e,T.e⟩)) (Sum.elim (fun (r : Unit) => (X.exit 0,T.e,⟨1,(T.e.set 0 ⟨eCache b0,0,0⟩),.e,T.e⟩)) (fun (r : Unit) => (X.ret,(T.e.set 4 (.b false)),⟨1,(T.e.set 0 ⟨eCache b0,0,0⟩),.e,T.e⟩)))):=by
  rw [finE]
  simp [k177_0,n177_0,w177_1 (n:=n) (by omega),w177_2 (n:=n) (by omega),w177_4 (n:=n) (by omega),l177_3 (n:=n) (by omega),w267 (n:=n) (by omega),eqArr178,lay_pure]
theorem l177_0 {n : Nat} (hn : 1 ≤ n) (v1 : Int) (v5 : List GWay) (v6 : Int) (b0 : GCache) : loopE (EV n) LF [1,2,5,6] [4] [] 1 [] k177_0 ((((T.e.set 1 (eI v1)).set 2 (.p 0 0)).set 5 (eSl 19 eWay v5)).set 6 (eI v6)) ⟨1,(T.e.set 0 ⟨eCache b0,0,0⟩),.e,T.e⟩ = (loopN (n177_0 v1 v5 b0) LF v6).map (Sum.elim (fun (r : Unit) => (X.exit 0,T.e,⟨1,(T.e.set 0 ⟨eCache b0,0,0⟩),.e,T.e⟩)) (fun (r : Unit) => (X.ret,(T.e.set 4 (.b false)),⟨1,(T.e.set 0 ⟨eCache b0,0,0⟩),.e,T.e⟩))):=by
  exact loop_rule (E:=fun s : Int => ((((T.e.set 1 (eI v1)).set 2 (.p 0 0)).set 5 (eSl 19 eWay v5)).set 6 (eI s))) (B:=fun s : Int => ⟨1,(T.e.set 0 ⟨eCache b0,0,0⟩),.e,T.e⟩) (out:=(Sum.elim (fun (r : Unit) => (X.exit 0,T.e,⟨1,(T.e.set 0 ⟨eCache b0,0,0⟩),.e,T.e⟩)) (fun (r : Unit) => (X.ret,(T.e.set 4 (.b false)),⟨1,(T.e.set 0 ⟨eCache b0,0,0⟩),.e,T.e⟩)))) (fun r => by rcases r with r | r <;> simp)
    (fun s => w177_0 hn v1 v5 b0 s) (fun s => by simp [lay_pure]) v6
theorem w177 {n : Nat} (hn : 2 ≤ n) (a0 : GCache) (a1 : Int) (qs : List Nat) (h : H) : callPv (EV n) 177 qs [.a (eCache a0),eI a1] h = (n177 a0 a1).map fun r => (.b r,h):=by
  obtain ⟨m,rfl⟩:=pm hn
  rw [callPv_eq,EV_at t177,f177,runF_eq]
  simp [n177,w177_1 (n:=m) (by omega),w177_2 (n:=m) (by omega),w177_4 (n:=m) (by omega),l177_3 (n:=m) (by omega),l177_0 (n:=m) (by omega),w267 (n:=m) (by omega),eqArr178,lay_pure]
theorem w92_0 {n : Nat} (hn : 2 ≤ n) (b0 : GCache) : finE (EV n) LF [1,14] [2] [] 1 [] k92_0 (T.e.set 1 (.p 0 0)) ⟨1,(T.e.set 0 ⟨eCache b0,0,0⟩),.e,T.e⟩ = (n92_0 b0).map (fun (r : Bool) => (X.nrm,((T.e.set 1 (.p 0 0)).set 14 (.b r)),⟨1,(T.e.set 0 ⟨eCache b0,0,0⟩),.e,T.e⟩)):=by
  rw [finE]
  simp [k92_0,n92_0,w176 (n:=n) (by omega),w177 (n:=n) (by omega),lay_pure]
theorem w92_2 {n : Nat} (hn : 2 ≤ n) (v3 : Int) (v4 : Int) (b0 : GCache) : finE (EV n) LF [1,3,54] [2] [] 1 [] k92_2 (((T.e.set 1 (.p 0 0)).set 3 (eI v3)).set 4 (eI v4)) ⟨1,(T.e.set 0 ⟨eCache b0,0,0⟩),.e,T.e⟩ = (n92_2 v3 v4 b0).map (fun (r : Bool) => (X.nrm,(((T.e.set 1 (.p 0 0)).set 3 (eI v3)).set 54 (.b r)),⟨1,(T.e.set 0 ⟨eCache b0,0,0⟩),.e,T.e⟩)):=by
  rw [finE]
  simp [k92_2,n92_2,w92_0 (n:=n) (by omega),w176 (n:=n) (by omega),w177 (n:=n) (by omega),lay_pure]
theorem w92_1 {n : Nat} (hn : 2 ≤ n) (b0 : GCache) (s : Int) : finE (EV n) LF [1,3] [2] [] 1 [] k92_1 ((T.e.set 1 (.p 0 0)).set 3 (eI s)) ⟨1,(T.e.set 0 ⟨eCache b0,0,0⟩),.e,T.e⟩ = (n92_1 b0 s).map (Sum.elim (fun s => (X.nrm,((T.e.set 1 (.p 0 0)).set 3 (eI s)),⟨1,(T.e.set 0 ⟨eCache b0,0,0⟩),.e,T.e⟩)) (Sum.elim (fun (r : Unit) => (X.exit 0,T.e,⟨1,(T.e.set 0 ⟨eCache b0,0,0⟩),.e,T.e⟩)) (fun (r : Unit) => (X.ret,(T.e.set 2 (.b false)),⟨1,(T.e.set 0 ⟨eCache b0,0,0⟩),.e,T.e⟩)))):=by
  rw [finE]
  simp [k92_1,n92_1,w92_0 (n:=n) (by omega),w92_2 (n:=n) (by omega),w176 (n:=n) (by omega),w177 (n:=n) (by omega),lay_pure]
theorem l92_1 {n : Nat} (hn : 2 ≤ n) (v3 : Int) (b0 : GCache) : loopE (EV n) LF [1,3] [2] [] 1 [] k92_1 ((T.e.set 1 (.p 0 0)).set 3 (eI v3)) ⟨1,(T.e.set 0 ⟨eCache b0,0,0⟩),.e,T.e⟩ = (loopN (n92_1 b0) LF v3).map (Sum.elim (fun (r : Unit) => (X.exit 0,T.e,⟨1,(T.e.set 0 ⟨eCache b0,0,0⟩),.e,T.e⟩)) (fun (r : Unit) => (X.ret,(T.e.set 2 (.b false)),⟨1,(T.e.set 0 ⟨eCache b0,0,0⟩),.e,T.e⟩))):=by
  exact loop_rule (E:=fun s : Int => ((T.e.set 1 (.p 0 0)).set 3 (eI s))) (B:=fun s : Int => ⟨1,(T.e.set 0 ⟨eCache b0,0,0⟩),.e,T.e⟩) (out:=(Sum.elim (fun (r : Unit) => (X.exit 0,T.e,⟨1,(T.e.set 0 ⟨eCache b0,0,0⟩),.e,T.e⟩)) (fun (r : Unit) => (X.ret,(T.e.set 2 (.b false)),⟨1,(T.e.set 0 ⟨eCache b0,0,0⟩),.e,T.e⟩)))) (fun r => by rcases r with r | r <;> simp)
    (fun s => w92_1 hn b0 s) (fun s => by simp [lay_pure]) v3
theorem w92 {n : Nat} (hn : 3 ≤ n) (a0 : GCache) (qs : List Nat) (h : H) : callPv (EV n) 92 qs [.a (eCache a0)] h = (n92 a0).map fun r => (.b r,h):=by
  obtain ⟨m,rfl⟩:=pm hn
  rw [callPv_eq,EV_at t92,f92,runF_eq]
  simp [n92,w92_0 (n:=m) (by omega),w92_2 (n:=m) (by omega),l92_1 (n:=m) (by omega),w176 (n:=m) (by omega),w177 (n:=m) (by omega),lay_pure]
theorem w93 {n : Nat} (hn : 1 ≤ n) (a0 : GCoh) (a1 : BitVec 32) (qs : List Nat) (h : H) : callPv (EV n) 93 qs [.a (eCoh a0),eU32 a1] h = (n93 a0 a1).map fun r => (.b r,h):=by
  obtain ⟨m,rfl⟩:=pm hn
  rw [callPv_eq,EV_at t93,f93,runF_eq]
  simp [n93,lay_pure]
theorem w94_0 {n : Nat} (hn : 0 ≤ n) (v1 : BitVec 32) (b0 : GCoh) (b1 : Arr (BitVec 8) 16) (s : Int × Arr (BitVec 8) 16) : finE (EV n) LF [1,2,4,5,6] [4] [4,5] 3 [] k94_0 (((((T.e.set 1 (eU32 v1)).set 2 (.p 0 0)).set 4 (.p 1 0)).set 5 (.p 2 0)).set 6 (eI s.1)) ⟨3,(((T.e.set 0 ⟨eCoh b0,0,0⟩).set 1 ⟨(eAr cU8) b1,1,0⟩).set 2 ⟨(eAr cU8) s.2,2,0⟩),.e,T.e⟩ = (n94_0 v1 b0 s).map (Sum.elim (fun s => (X.nrm,(((((T.e.set 1 (eU32 v1)).set 2 (.p 0 0)).set 4 (.p 1 0)).set 5 (.p 2 0)).set 6 (eI s.1)),⟨3,(((T.e.set 0 ⟨eCoh b0,0,0⟩).set 1 ⟨(eAr cU8) b1,1,0⟩).set 2 ⟨(eAr cU8) s.2,2,0⟩),.e,T.e⟩)) (fun (r : Arr (BitVec 8) 16) => (X.exit 0,((T.e.set 4 (.p 1 0)).set 5 (.p 2 0)),⟨3,(((T.e.set 0 ⟨eCoh b0,0,0⟩).set 1 ⟨(eAr cU8) b1,1,0⟩).set 2 ⟨(eAr cU8) r,2,0⟩),.e,T.e⟩))):=by
  rw [finE]
  simp [k94_0,n94_0,lay_pure]
theorem l94_0 {n : Nat} (hn : 0 ≤ n) (v1 : BitVec 32) (v6 : Int) (b0 : GCoh) (b1 : Arr (BitVec 8) 16) (b2 : Arr (BitVec 8) 16) : loopE (EV n) LF [1,2,4,5,6] [4] [4,5] 3 [] k94_0 (((((T.e.set 1 (eU32 v1)).set 2 (.p 0 0)).set 4 (.p 1 0)).set 5 (.p 2 0)).set 6 (eI v6)) ⟨3,(((T.e.set 0 ⟨eCoh b0,0,0⟩).set 1 ⟨(eAr cU8) b1,1,0⟩).set 2 ⟨(eAr cU8) b2,2,0⟩),.e,T.e⟩ = (loopN (n94_0 v1 b0) LF (v6,b2)).map (fun (r : Arr (BitVec 8) 16) => (X.exit 0,((T.e.set 4 (.p 1 0)).set 5 (.p 2 0)),⟨3,(((T.e.set 0 ⟨eCoh b0,0,0⟩).set 1 ⟨(eAr cU8) b1,1,0⟩).set 2 ⟨(eAr cU8) r,2,0⟩),.e,T.e⟩)):=by
  exact loop_rule (E:=fun s : Int × Arr (BitVec 8) 16 => (((((T.e.set 1 (eU32 v1)).set 2 (.p 0 0)).set 4 (.p 1 0)).set 5 (.p 2 0)).set 6 (eI s.1))) (B:=fun s : Int × Arr (BitVec 8) 16 => ⟨3,(((T.e.set 0 ⟨eCoh b0,0,0⟩).set 1 ⟨(eAr cU8) b1,1,0⟩).set 2 ⟨(eAr cU8) s.2,2,0⟩),.e,T.e⟩) (out:=(fun (r : Arr (BitVec 8) 16) => (X.exit 0,((T.e.set 4 (.p 1 0)).set 5 (.p 2 0)),⟨3,(((T.e.set 0 ⟨eCoh b0,0,0⟩).set 1 ⟨(eAr cU8) b1,1,0⟩).set 2 ⟨(eAr cU8) r,2,0⟩),.e,T.e⟩))) (fun r => by simp)
    (fun s => w94_0 hn v1 b0 b1 s) (fun s => by simp [lay_pure]) (v6,b2)
theorem w94 {n : Nat} (hn : 1 ≤ n) (a0 : GCoh) (a1 : BitVec 32) (qs : List Nat) (h : H) : callPv (EV n) 94 qs [.a (eCoh a0),eU32 a1] h = (n94 a0 a1).map fun r => (.a ((eAr cU8) r),h):=by
  obtain ⟨m,rfl⟩:=pm hn
  rw [callPv_eq,EV_at t94,f94,runF_eq]
  simp [n94,l94_0 (n:=m) (by omega),lay_pure]
theorem w178 {n : Nat} (hn : 1 ≤ n) (a0 : GCoh) (a1 : Int) (qs : List Nat) (h : H) : callPv (EV n) 178 qs [.a (eCoh a0),eI a1] h = (n178 a0 a1).map fun r => (.b r,h):=by
  obtain ⟨m,rfl⟩:=pm hn
  rw [callPv_eq,EV_at t178,f178,runF_eq]
  simp [n178,lay_pure]
theorem w268_1 {n : Nat} (hn : 1 ≤ n) (v1 : BitVec 32) (v7 : Int) (v8 : Int) (b0 : GCache) : finE (EV n) LF [1,2,7,8,46] [4,5,6] [] 1 [] k268_1 ((((T.e.set 1 (eU32 v1)).set 2 (.p 0 0)).set 7 (eI v7)).set 8 (eI v8)) ⟨1,(T.e.set 0 ⟨eCache b0,0,0⟩),.e,T.e⟩ = (n268_1 v1 v7 v8 b0).map (fun (r : Bool) => (X.nrm,(((((T.e.set 1 (eU32 v1)).set 2 (.p 0 0)).set 7 (eI v7)).set 8 (eI v8)).set 46 (.b r)),⟨1,(T.e.set 0 ⟨eCache b0,0,0⟩),.e,T.e⟩)):=by
  rw [finE]
  simp [k268_1,n268_1,w267 (n:=n) (by omega),lay_pure]
theorem w268_0 {n : Nat} (hn : 1 ≤ n) (v1 : BitVec 32) (v7 : Int) (b0 : GCache) (s : Int) : finE (EV n) LF [1,2,7,8] [4,5,6] [] 1 [] k268_0 ((((T.e.set 1 (eU32 v1)).set 2 (.p 0 0)).set 7 (eI v7)).set 8 (eI s)) ⟨1,(T.e.set 0 ⟨eCache b0,0,0⟩),.e,T.e⟩ = (n268_0 v1 v7 b0 s).map (Sum.elim (fun s => (X.nrm,((((T.e.set 1 (eU32 v1)).set 2 (.p 0 0)).set 7 (eI v7)).set 8 (eI s)),⟨1,(T.e.set 0 ⟨eCache b0,0,0⟩),.e,T.e⟩)) (Sum.elim (fun (r : Unit) => (X.exit 0,T.e,⟨1,(T.e.set 0 ⟨eCache b0,0,0⟩),.e,T.e⟩)) (fun (r : Int) => (X.ret,(((T.e.set 4 (eI v7)).set 5 (eI r)).set 6 (.b true)),⟨1,(T.e.set 0 ⟨eCache b0,0,0⟩),.e,T.e⟩)))):=by
  rw [finE]
  simp [k268_0,n268_0,w268_1 (n:=n) (by omega),w267 (n:=n) (by omega),lay_pure]
theorem l268_0 {n : Nat} (hn : 1 ≤ n) (v1 : BitVec 32) (v7 : Int) (v8 : Int) (b0 : GCache) : loopE (EV n) LF [1,2,7,8] [4,5,6] [] 1 [] k268_0 ((((T.e.set 1 (eU32 v1)).set 2 (.p 0 0)).set 7 (eI v7)).set 8 (eI v8)) ⟨1,(T.e.set 0 ⟨eCache b0,0,0⟩),.e,T.e⟩ = (loopN (n268_0 v1 v7 b0) LF v8).map (Sum.elim (fun (r : Unit) => (X.exit 0,T.e,⟨1,(T.e.set 0 ⟨eCache b0,0,0⟩),.e,T.e⟩)) (fun (r : Int) => (X.ret,(((T.e.set 4 (eI v7)).set 5 (eI r)).set 6 (.b true)),⟨1,(T.e.set 0 ⟨eCache b0,0,0⟩),.e,T.e⟩))):=by
  exact loop_rule (E:=fun s : Int => ((((T.e.set 1 (eU32 v1)).set 2 (.p 0 0)).set 7 (eI v7)).set 8 (eI s))) (B:=fun s : Int => ⟨1,(T.e.set 0 ⟨eCache b0,0,0⟩),.e,T.e⟩) (out:=(Sum.elim (fun (r : Unit) => (X.exit 0,T.e,⟨1,(T.e.set 0 ⟨eCache b0,0,0⟩),.e,T.e⟩)) (fun (r : Int) => (X.ret,(((T.e.set 4 (eI v7)).set 5 (eI r)).set 6 (.b true)),⟨1,(T.e.set 0 ⟨eCache b0,0,0⟩),.e,T.e⟩)))) (fun r => by rcases r with r | r <;> simp)
    (fun s => w268_0 hn v1 v7 b0 s) (fun s => by simp [lay_pure]) v8
theorem w268 {n : Nat} (hn : 2 ≤ n) (a0 : GCache) (a1 : BitVec 32) (qs : List Nat) (h : H) : callPv (EV n) 268 qs [.a (eCache a0),eU32 a1] h = (n268 a0 a1).map fun r => (.t [eI r.1,eI r.2.1,.b r.2.2],h):=by
  obtain ⟨m,rfl⟩:=pm hn
  rw [callPv_eq,EV_at t268,f268,runF_eq]
  simp [n268,w268_1 (n:=m) (by omega),l268_0 (n:=m) (by omega),w267 (n:=m) (by omega),lay_pure]
theorem w179 {n : Nat} (hn : 3 ≤ n) (a0 : GCache) (a1 : BitVec 32) (qs : List Nat) (h : H) : callPv (EV n) 179 qs [.a (eCache a0),eU32 a1] h = (n179 a0 a1).map fun r => (.a (eWay r),h):=by
  obtain ⟨m,rfl⟩:=pm hn
  rw [callPv_eq,EV_at t179,f179,runF_eq]
  simp [n179,w268 (n:=m) (by omega),lay_pure]
theorem w95 {n : Nat} (hn : 4 ≤ n) (a0 : GCoh) (a1 : Int) (a2 : BitVec 32) (qs : List Nat) (h : H) : callPv (EV n) 95 qs [.a (eCoh a0),eI a1,eU32 a2] h = (n95 a0 a1 a2).map fun r => (eI r,h):=by
  obtain ⟨m,rfl⟩:=pm hn
  rw [callPv_eq,EV_at t95,f95,runF_eq]
  simp [n95,w178 (n:=m) (by omega),w179 (n:=m) (by omega),lay_pure]
end
end Go.Ev
