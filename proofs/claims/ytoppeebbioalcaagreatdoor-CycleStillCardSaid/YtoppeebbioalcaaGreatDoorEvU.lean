/- Data of known types, in cells. -/
import Derived.Test.YtoppeebbioalcaaGreatDoorEvE
set_option linter.all false
namespace Go.Ev
noncomputable section
def eI (n : Int) : V:=.i .i64 n
def eU8 (x : BitVec 8) : V:=.i .u8 (.ofNat x.toNat)
def eU32 (x : BitVec 32) : V:=.i .u32 (.ofNat x.toNat)
def eU64 (x : BitVec 64) : V:=.i .u64 (.ofNat x.toNat)
def encs {α : Type} (f : α → List V) : List α → List V
  | [] => []
  | x :: xs => app (f x) (encs f xs)
def eSl {α : Type} (sz : Nat) (f : α → List V) (l : List α) : V:=.fz .no l.length sz (encs f l)
structure Lay {α : Type} (sz : Nat) (f : α → List V) : Prop where
  len : ∀ x,(f x).length = sz
  pure : ∀ x,pureL (f x) = true
  pos : 1 ≤ sz
variable {α : Type} {sz : Nat} {f : α → List V}
theorem encs_length (h : Lay sz f) (l : List α) : (encs f l).length = l.length * sz:=by
  induction l with
  | nil => simp [encs]
  | cons x l ih => simp [encs,app_eq,ih,h.len,Nat.succ_mul]; omega
theorem encs_pure (h : Lay sz f) (l : List α) : pureL (encs f l) = true:=by
  induction l with
  | nil => rfl
  | cons x l ih => simp only [encs,app_eq]; exact pureL_app (h.pure x) ih
theorem encs_append (l m : List α) : encs f (l ++ m) = app (encs f l) (encs f m):=by
  induction l with
  | nil => rfl
  | cons x l ih => simp only [List.cons_append,encs,ih,app_eq,List.append_assoc]
theorem encs_drop (h : Lay sz f) (l : List α) (i : Nat) : (encs f l).drop (i * sz) = encs f (l.drop i):=by
  induction i generalizing l with
  | zero => simp
  | succ i ih =>
    cases l with
    | nil => simp [encs]
    | cons x l =>
      rw [List.drop_succ_cons,← ih l]
      simp only [encs,app_eq]
      rw [List.drop_append,List.drop_of_length_le (by rw [h.len,Nat.succ_mul]; omega),List.nil_append,h.len]
      congr 1
      rw [Nat.succ_mul]; omega
theorem encs_at (h : Lay sz f) {l : List α} {i : Nat} (hi : i < l.length) : takeN (dropN (encs f l) (i * sz)) sz = f l[i]:=by
  rw [takeN_eq,dropN_eq,encs_drop h,List.drop_eq_getElem_cons hi]
  simp only [encs,app_eq]
  rw [List.take_append,List.take_of_length_le (by rw [h.len]; omega),h.len]
  simp
theorem encs_ldC (h : Lay sz f) {l : List α} {i : Nat} (hi : i < l.length) : takeC (dropN (encs f l) (i * sz)) sz = some (f l[i]):=by
  have hz : ∀ c ∈ f l[i],c ≠ .z:=by
    intro c hc e
    have:=h.pure l[i]
    rw [pureL_eq,List.all_eq_true] at this
    have:=this c hc
    rw [e] at this
    cases this
  rw [dropN_eq]
  refine takeC_of _ _ _ ?_ (h.len _) hz
  rw [← takeN_eq,← dropN_eq]
  exact encs_at h hi
where
  takeC_of : ∀ (l : List V) (n : Nat) (m : List V),l.take n = m → m.length = n → (∀ c ∈ m,c ≠ .z) → takeC l n = some m:=by
    intro l
    induction l with
    | nil => intro n m h hl _; simp only [List.take_nil] at h; subst h; simp only [List.length_nil] at hl; subst hl; rfl
    | cons x xs ih =>
      intro n m h hl hz
      cases n with
      | zero => simp only [List.take_zero] at h; subst h; rfl
      | succ n =>
        rw [List.take_succ_cons] at h
        subst h
        simp only [List.length_cons,Nat.add_right_cancel_iff] at hl
        have hx : x ≠ .z:=hz x (by simp)
        have:=ih n _ rfl hl (fun c hc => hz c (by simp [hc]))
        simp only [takeC,Nat.add_one_sub_one,this]
        cases x <;> first | rfl | exact (hx rfl).elim
theorem takeC_pure {l m : List V} {n : Nat} (h : l.take n = m) (hl : m.length = n) (hp : pureL m = true) : takeC l n = some m:=by
  refine encs_ldC.takeC_of l n m h hl fun c hc e => ?_
  rw [pureL_eq,List.all_eq_true] at hp
  have:=hp c hc
  rw [e] at this
  cases this
theorem putN_at {l m r m' : List V} {n : Nat} (hl : l.length = n) : putN (l ++ m ++ r) n m' = l ++ (putN (m ++ r) 0 m'):=by
  subst hl
  induction l with
  | nil => simp
  | cons x l ih =>
    simp only [List.cons_append,putN,List.length_cons,cond_eq_ite,Nat.beq_eq]
    rw [if_neg (by omega)]
    simpa using ih
theorem putN_zero' : ∀ (l m r : List V),l.length = m.length → putN (l ++ r) 0 m = m ++ r:=by
  intro l
  induction l with
  | nil =>
    intro m r h
    cases m with
    | nil => cases r <;> rfl
    | cons => simp at h
  | cons x l ih =>
    intro m r h
    cases m with
    | nil => simp at h
    | cons y m =>
      simp only [List.length_cons,Nat.add_right_cancel_iff] at h
      have:=ih m r h
      show y :: putN (l ++ r) 0 m = y :: (m ++ r)
      rw [this]
theorem encs_set (h : Lay sz f) {l : List α} {i : Nat} (hi : i < l.length) (x : α) : putN (encs f l) (i * sz) (f x) = encs f (l.set i x):=by
  have e1 : encs f l = encs f (l.take i) ++ f l[i] ++ encs f (l.drop (i + 1)):=by
    conv => lhs; rw [← List.take_append_drop i l,List.drop_eq_getElem_cons hi]
    rw [encs_append]
    simp only [encs,app_eq,List.append_assoc]
  have e2 : encs f (l.set i x) = encs f (l.take i) ++ (f x ++ encs f (l.drop (i + 1))):=by
    rw [List.set_eq_take_append_cons_drop,if_pos hi,encs_append]
    simp only [encs,app_eq]
  rw [e1,e2,putN_at (by rw [encs_length h,List.length_take]; congr 1; omega),putN_zero' _ _ _ (by rw [h.len,h.len])]
end
end Go.Ev
namespace Go.Ev
noncomputable section
theorem nr {α : Sort _} {a b : α} (h : a = b) : a = b:=h
def seqX (k : Env → H → Option (X × Env × H)) (r : X × Env × H) : Option (X × Env × H):=match r.1 with
  | .nrm => k r.2.1 r.2.2
  | _ => some r
@[simp] theorem seqX_nrm (k : Env → H → Option (X × Env × H)) (e : Env) (h : H) : seqX k (.nrm,e,h) = k e h:=nr rfl
@[simp] theorem seqX_ret (k : Env → H → Option (X × Env × H)) (r : Env × H) : seqX k (.ret,r) = some (.ret,r):=nr rfl
@[simp] theorem seqX_exit (k : Env → H → Option (X × Env × H)) (i : Nat) (r : Env × H) : seqX k (.exit i,r) = some (.exit i,r):=nr rfl
@[simp] theorem bind_cond {α β : Type} (c : Bool) (a b : Option α) (f : α → Option β) : (cond c a b).bind f = cond c (a.bind f) (b.bind f):=by cases c <;> rfl
variable {call : Call} {lf : Nat} {env : Env} {h : H}
@[simp] theorem evK_skip : evK call lf .skip env h = some (.nrm,env,h):=nr rfl
@[simp] theorem evK_reg (l : List CO) : evK call lf (.reg l) env h = (evOps call l env h).map (fun r => (X.nrm,r)):=by
  simp only [evK]; cases evOps call l env h <;> rfl
@[simp] theorem evK_dreg (l : List PI) : evK call lf (.dreg l) env h = (evPlan call l env h [h]).map (fun r => (X.nrm,r)):=by
  simp only [evK]; cases evPlan call l env h [h] <;> rfl
@[simp] theorem evK_seq (a b : K) : evK call lf (.seq a b) env h = (evK call lf a env h).bind (seqX (evK call lf b)):=by
  simp only [evK]
  cases evK call lf a env h with
  | none => rfl
  | some r => obtain ⟨x,e,h⟩:=r; cases x <;> rfl
def condV (v : V) (a b : Option (X × Env × H)) : Option (X × Env × H):=match v with
  | .b x => cond x a b
  | _ => none
theorem evK_cond' (c : O) (a b : K) : evK call lf (.cond c a b) env h = (c.ev env).bind fun v => condV v (evK call lf a env h) (evK call lf b env h):=by
  simp only [evK]
  cases c.ev env with
  | none => rfl
  | some v => cases v <;> rfl
def condK (call : Call) (lf : Nat) (a b : K) (env : Env) (h : H) (v : Option V) : Option (X × Env × H):=v.bind fun v => condV v (evK call lf a env h) (evK call lf b env h)
@[simp high] theorem condK_true (a b : K) : condK call lf a b env h (some (.b true)) = evK call lf a env h:=nr rfl
@[simp high] theorem condK_false (a b : K) : condK call lf a b env h (some (.b false)) = evK call lf b env h:=nr rfl
@[simp] theorem condK_b (a b : K) (x : Bool) : condK call lf a b env h (some (.b x)) = cond x (evK call lf a env h) (evK call lf b env h):=nr rfl
@[simp] theorem evK_cond (c : O) (a b : K) : evK call lf (.cond c a b) env h = condK call lf a b env h (c.ev env):=evK_cond' c a b
def blkX (id : Nat) (r : X × Env × H) : X × Env × H:=match r.1 with
  | .exit id' => bif Nat.beq id' id then (.nrm,r.2) else r
  | _ => r
@[simp] theorem blkX_nrm (id : Nat) (r : Env × H) : blkX id (.nrm,r) = (.nrm,r):=nr rfl
@[simp] theorem blkX_ret (id : Nat) (r : Env × H) : blkX id (.ret,r) = (.ret,r):=nr rfl
@[simp] theorem blkX_exit (id id' : Nat) (r : Env × H) : blkX id (.exit id',r) = bif Nat.beq id' id then (.nrm,r) else (.exit id',r):=nr rfl
@[simp] theorem evK_block (id : Nat) (a : K) : evK call lf (.block id a) env h = (evK call lf a env h).map (blkX id):=by
  simp only [evK]
  cases evK call lf a env h with
  | none => rfl
  | some r =>
    obtain ⟨x,e,h⟩:=r
    cases x with
    | nrm => rfl
    | ret => rfl
    | exit id' => simp only [Option.map_some,blkX_exit]; cases Nat.beq id' id <;> rfl
theorem evK_loop (a : K) : evK call lf (.loop a) env h = iter (evK call lf a) lf env h:=rfl
@[simp] theorem evK_exit (id : Nat) : evK call lf (.exit id) env h = some (.exit id,env,h):=nr rfl
@[simp] theorem evK_ret : evK call lf .ret env h = some (.ret,env,h):=nr rfl
def finE (call : Call) (lf : Nat) (ko kr ke : List Nat) (nb : Nat) (kt : List Nat) (a : K) (env : Env) (h : H) : Option (X × Env × H):=(evK call lf a env h).bind (finX ko kr ke nb kt)
@[simp] theorem evK_fin (ki ko kr ke : List Nat) (nb : Nat) (kt : List Nat) (a : K) : evK call lf (.fin ki ko kr ke nb kt a) env h =
    cond (Nat.ble h.nb nb && h.tk.keys (inL kt)) ((rst ki nb kt env h).bind fun s => finE call lf ko kr ke nb kt a s.1 s.2) none:=by
  simp only [evK,finE]
  cases Nat.ble h.nb nb && h.tk.keys (inL kt) with
  | false => rfl
  | true =>
    simp only [cond_true]
    cases rst ki nb kt env h with
    | none => rfl
    | some s =>
      simp only [Option.bind_some]
      cases evK call lf a s.1 s.2 <;> rfl
@[simp] theorem finX_nrm (ko kr ke : List Nat) (nb : Nat) (kt : List Nat) (e : Env) (h : H) : finX ko kr ke nb kt (.nrm,e,h) = (rst ko nb kt e h).map (fun t => (X.nrm,t)):=by
  simp only [finX]; cases rst ko nb kt e h <;> rfl
@[simp] theorem finX_ret (ko kr ke : List Nat) (nb : Nat) (kt : List Nat) (e : Env) (h : H) : finX ko kr ke nb kt (.ret,e,h) = (rst kr nb kt e h).map (fun t => (X.ret,t)):=by
  simp only [finX]; cases rst kr nb kt e h <;> rfl
@[simp] theorem finX_exit (ko kr ke : List Nat) (nb i : Nat) (kt : List Nat) (e : Env) (h : H) : finX ko kr ke nb kt (.exit i,e,h) = (rst ke nb kt e h).map (fun t => (X.exit i,t)):=by
  simp only [finX]; cases rst ke nb kt e h <;> rfl
@[simp] theorem rst_eq (keep : List Nat) (nb : Nat) (kt : List Nat) : rst keep nb kt env h = (keepE nb kt env keep .e).bind fun e => (keepB nb kt h.bl nb 0 .e).map fun bl => (e,⟨nb,bl,.e,keepT h.tk kt .e⟩):=by
  unfold rst
  cases keepE nb kt env keep .e with
  | none => rfl
  | some e => simp only [Option.bind_some]; cases keepB nb kt h.bl nb 0 .e <;> rfl
@[simp] theorem keepE_nil (nb : Nat) (kt : List Nat) (acc : Env) : keepE nb kt env [] acc = some acc:=nr rfl
@[simp] def keepEv (nb : Nat) (kt : List Nat) (env : Env) (ts : List Nat) (acc : Env) (t : Nat) (v : Option V) : Option Env:=match v with
    | none => keepE nb kt env ts acc
    | some v => bif lowV nb kt v then keepE nb kt env ts (acc.set t v) else none
@[simp] theorem keepE_cons (nb t : Nat) (kt ts : List Nat) (acc : Env) : keepE nb kt env (t :: ts) acc = keepEv nb kt env ts acc t (env.get t):=by
  simp only [keepE,keepEv]; cases env.get t <;> rfl
@[simp] theorem keepB_zero (nb i : Nat) (kt : List Nat) (bl acc : T Blk) : keepB nb kt bl 0 i acc = some acc:=nr rfl
@[simp] def keepBv (nb : Nat) (kt : List Nat) (bl : T Blk) (n i : Nat) (acc : T Blk) (v : Option Blk) : Option (T Blk):=match v with
    | none => keepB nb kt bl n (i + 1) acc
    | some k => bif Nat.beq k.grp i && lowL nb kt k.cells then keepB nb kt bl n (i + 1) (acc.set i k) else none
@[simp] theorem keepB_succ (nb n i : Nat) (kt : List Nat) (bl acc : T Blk) : keepB nb kt bl (n + 1) i acc = keepBv nb kt bl n i acc (bl.get i):=by
  simp only [keepB,keepBv]; cases bl.get i <;> rfl
@[simp] theorem keepT_nil (tk acc : T (Nat × Nat × Nat)) : keepT tk [] acc = acc:=nr rfl
@[simp] def keepTv (tk : T (Nat × Nat × Nat)) (ks : List Nat) (acc : T (Nat × Nat × Nat)) (k : Nat) (v : Option (Nat × Nat × Nat)) : T (Nat × Nat × Nat):=match v with
  | none => keepT tk ks acc
  | some r => keepT tk ks (acc.set k r)
@[simp] theorem keepT_cons (tk acc : T (Nat × Nat × Nat)) (k : Nat) (ks : List Nat) : keepT tk (k :: ks) acc = keepTv tk ks acc k (tk.get k):=by
  simp only [keepT,keepTv]; cases tk.get k <;> rfl
@[simp] theorem keys_e {α : Type} (p : Nat → Bool) : (T.e : T α).keys p = true:=nr rfl
theorem keys_setF {α : Type} (x : α) : ∀ (f : Nat) (t : T α) (k : Nat) (p : Nat → Bool),p k = true → t.keys p = true → (T.setF x f t k).keys p = true:=by
  intro f
  induction f with
  | zero => intro t k p _ h; exact h
  | succ f ih =>
    intro t k p hk ht
    cases t with
    | e =>
      rw [T.setF_e]
      split
      · rename_i e; subst e; simp [T.keys,hk]
      · split
        · simp only [T.keys,Bool.true_and,Bool.and_true]
          exact ih .e (k / 2) _ (by rw [show 2 * (k / 2) + 1 = k by omega]; exact hk) rfl
        · simp only [T.keys,Bool.true_and]
          exact ih .e (k / 2 - 1) _ (by rw [show 2 * (k / 2 - 1) + 2 = k by omega]; exact hk) rfl
    | n l v r =>
      rw [T.setF_n]
      simp only [T.keys,Bool.and_eq_true] at ht
      split
      · rename_i e; subst e
        simp only [T.keys,Bool.and_eq_true]
        exact ⟨⟨hk,ht.1.2⟩,ht.2⟩
      · split
        · simp only [T.keys,Bool.and_eq_true]
          exact ⟨⟨ht.1.1,ih l (k / 2) _ (by rw [show 2 * (k / 2) + 1 = k by omega]; exact hk) ht.1.2⟩,ht.2⟩
        · simp only [T.keys,Bool.and_eq_true]
          exact ⟨ht.1,ih r (k / 2 - 1) _ (by rw [show 2 * (k / 2 - 1) + 2 = k by omega]; exact hk) ht.2⟩
theorem keys_set {α : Type} (x : α) (t : T α) (k : Nat) (p : Nat → Bool) (hk : p k = true) (ht : t.keys p = true) : (t.set k x).keys p = true:=keys_setF x (k + 1) t k p hk ht
theorem keys_setF' {α : Type} (x : α) : ∀ (f : Nat) (t : T α) (k : Nat) (p : Nat → Bool),k < f → (T.setF x f t k).keys p = (p k && t.keys p):=by
  intro f
  induction f with
  | zero => intro t k p h; omega
  | succ f ih =>
    intro t k p h
    cases t with
    | e =>
      rw [T.setF_e]
      split
      · rename_i e; subst e; simp [T.keys]
      · split
        · simp only [T.keys,Bool.true_and,Bool.and_true]
          rw [ih .e (k / 2) _ (by omega),show 2 * (k / 2) + 1 = k by omega]
          simp only [T.keys,Bool.and_true]
        · simp only [T.keys,Bool.true_and]
          rw [ih .e (k / 2 - 1) _ (by omega),show 2 * (k / 2 - 1) + 2 = k by omega]
          simp only [T.keys,Bool.and_true]
    | n l v r =>
      rw [T.setF_n]
      split
      · rename_i e; subst e
        simp only [T.keys]
        cases v <;> cases p 0 <;> simp
      · split
        · simp only [T.keys]
          rw [ih l (k / 2) _ (by omega),show 2 * (k / 2) + 1 = k by omega]
          cases p k <;> simp
        · simp only [T.keys]
          rw [ih r (k / 2 - 1) _ (by omega),show 2 * (k / 2 - 1) + 2 = k by omega]
          cases p k <;> simp
@[simp] theorem keys_set_eq {α : Type} (x : α) (t : T α) (k : Nat) (p : Nat → Bool) : (t.set k x).keys p = (p k && t.keys p):=keys_setF' x (k + 1) t k p (by omega)
@[simp] theorem inL_nil' (k : Nat) : inL [] k = false:=nr rfl
@[simp] theorem inL_cons' (x : Nat) (l : List Nat) (k : Nat) : inL (x :: l) k = (Nat.beq k x || inL l k):=nr rfl
@[simp] theorem evOps_nil : evOps call [] env h = some (env,h):=nr rfl
def opsK (call : Call) (d : Option Nat) (os : List CO) (env : Env) (v : Option (V × H)) : Option (Env × H):=v.bind fun r => evOps call os (putE env d r.1) r.2
@[simp] theorem opsK_some (d : Option Nat) (os : List CO) (r : V × H) : opsK call d os env (some r) = evOps call os (putE env d r.1) r.2:=nr rfl
@[simp] theorem opsK_none (d : Option Nat) (os : List CO) : opsK call d os env none = none:=nr rfl
@[simp] theorem opsK_cond (d : Option Nat) (os : List CO) (c : Bool) (a b : Option (V × H)) : opsK call d os env (cond c a b) = cond c (opsK call d os env a) (opsK call d os env b):=by cases c <;> rfl
@[simp] theorem opsK_bind {α : Type} (d : Option Nat) (os : List CO) (o : Option α) (f : α → Option (V × H)) : opsK call d os env (o.bind f) = o.bind fun x => opsK call d os env (f x):=by cases o <;> rfl
@[simp] theorem evOps_cons (d : Option Nat) (op : C) (os : List CO) : evOps call (⟨d,op,none⟩ :: os) env h = opsK call d os env (evC call op env h):=by
  simp only [evOps,wantG,opsK]; cases evC call op env h <;> rfl
def wantV (v : V) (b : Bool) : Option Bool:=match v with
  | .b x => some (x == b)
  | .u => some false
  | _ => none
@[simp] theorem wantV_b (x b : Bool) : wantV (.b x) b = some (x == b):=nr rfl
theorem wantG_some (g : Nat) (b : Bool) : wantG env (some (g,b)) = (env.get g).bind fun v => wantV v b:=by
  cases hg : env.get g with
  | none => simp only [wantG,hg,Option.bind_none]
  | some v => cases v <;> simp only [wantG,hg,Option.bind_some,wantV]
theorem evOps_guard (d : Option Nat) (op : C) (g : Nat) (b : Bool) (os : List CO) : evOps call (⟨d,op,some (g,b)⟩ :: os) env h =
    ((env.get g).bind fun v => wantV v b).bind fun w => cond w ((evC call op env h).bind fun r => evOps call os (putE env d r.1) r.2) (evOps call os (putE env d .u) h):=by
  simp only [evOps,wantG_some]
  cases (env.get g).bind fun v => wantV v b with
  | none => rfl
  | some w =>
    simp only [Option.bind_some]
    cases w
    · rfl
    · simp only [cond_true]; cases evC call op env h <;> rfl
@[simp] theorem evPlan_nil (hs : List H) : evPlan call [] env h hs = some (env,h):=nr rfl
def plK (call : Call) (d : Option Nat) (os : List PI) (env : Env) (hs : List H) (e : Bool) (v : Option (V × H)) : Option (Env × H):=v.bind fun r => evPlan call os (putE env d r.1) r.2 (cond e (r.2 :: hs) hs)
@[simp] theorem plK_some (d : Option Nat) (os : List PI) (hs : List H) (e : Bool) (r : V × H) : plK call d os env hs e (some r) = evPlan call os (putE env d r.1) r.2 (cond e (r.2 :: hs) hs):=nr rfl
@[simp] theorem plK_none (d : Option Nat) (os : List PI) (hs : List H) (e : Bool) : plK call d os env hs e none = none:=nr rfl
@[simp] theorem plK_cond (d : Option Nat) (os : List PI) (hs : List H) (e c : Bool) (a b : Option (V × H)) : plK call d os env hs e (cond c a b) = cond c (plK call d os env hs e a) (plK call d os env hs e b):=by cases c <;> rfl
@[simp] theorem plK_bind {α : Type} (d : Option Nat) (os : List PI) (hs : List H) (e : Bool) (o : Option α) (f : α → Option (V × H)) : plK call d os env hs e (o.bind f) = o.bind fun x => plK call d os env hs e (f x):=by cases o <;> rfl
def plL (call : Call) (d : Option Nat) (op : LC) (sk bk : Nat) (os : List PI) (env : Env) (hs : List H) (v : Option (V × H)) : Option (Env × H):=v.bind fun r => cond (recheck op env r.1 bk (dropN hs sk)) (evPlan call os (putE env d r.1) r.2 hs) none
@[simp] theorem plL_some (d : Option Nat) (op : LC) (sk bk : Nat) (os : List PI) (hs : List H) (r : V × H) : plL call d op sk bk os env hs (some r) = cond (recheck op env r.1 bk (dropN hs sk)) (evPlan call os (putE env d r.1) r.2 hs) none:=nr rfl
@[simp] theorem evPlan_E (ix : Nat) (d : Option Nat) (op : EC) (sk bk : Nat) (os : List PI) (hs : List H) : evPlan call (⟨ix,⟨d,.E op,none⟩,sk,bk⟩ :: os) env h hs = plK call d os env hs true (evC call (.E op) env h):=by
  simp only [evPlan,wantG,plK]; cases evC call (.E op) env h <;> rfl
@[simp] theorem evPlan_P (ix : Nat) (d : Option Nat) (op : PC) (sk bk : Nat) (os : List PI) (hs : List H) : evPlan call (⟨ix,⟨d,.P op,none⟩,sk,bk⟩ :: os) env h hs = plK call d os env hs false (evC call (.P op) env h):=by
  simp only [evPlan,wantG,plK]; cases evC call (.P op) env h <;> rfl
@[simp] theorem evPlan_L (ix : Nat) (d : Option Nat) (op : LC) (sk bk : Nat) (os : List PI) (hs : List H) : evPlan call (⟨ix,⟨d,.L op,none⟩,sk,bk⟩ :: os) env h hs = plL call d op sk bk os env hs (evC call (.L op) env h):=by
  simp only [evPlan,wantG,plL]; cases evC call (.L op) env h <;> rfl
@[simp] theorem recheck_zero (op : LC) (v : V) (hs : List H) : recheck op env v 0 hs = true:=nr rfl
@[simp] def recheckV (op : LC) (env : Env) (v : V) (n : Nat) (hs : List H) (o : Option V) : Bool:=match o with
    | some v' => V.eqv v v' && recheck op env v n hs
    | none => false
@[simp] theorem recheck_succ (op : LC) (v : V) (n : Nat) (h : H) (hs : List H) : recheck op env v (n + 1) (h :: hs) = recheckV op env v n hs (evL op env h):=by
  simp only [recheck,recheckV]
  cases evL op env h <;> rfl
@[simp] theorem evC_P (x : PC) : evC call (.P x) env h = (evP x env).map fun v => (v,h):=by simp only [evC]; cases evP x env <;> rfl
@[simp] theorem evC_L (x : LC) : evC call (.L x) env h = (evL x env h).map fun v => (v,h):=by simp only [evC]; cases evL x env h <;> rfl
@[simp] theorem evC_A (x : AC) : evC call (.A x) env h = (evA x env).map fun r => (r.2.at h.nb,h.alloc r.1):=by simp only [evC]; cases evA x env <;> rfl
@[simp] theorem evC_E (x : EC) : evC call (.E x) env h = evE call x env h:=nr rfl
attribute [simp] putE
@[simp] theorem O_t (n : Nat) : (O.t n).ev env = env.get n:=nr rfl
@[simp] theorem O_k (v : V) : (O.k v).ev env = some v:=nr rfl
@[simp] theorem O_d (n : Nat) : (O.d n).ev env = (env.get n).map dem:=by
  show (match env.get n with | some v => some (dem v) | none => none) = _
  cases env.get n <;> rfl
@[simp] theorem evs_nil : evs env [] = some []:=nr rfl
@[simp] theorem evs_cons (o : O) (os : List O) : evs env (o :: os) = (o.ev env).bind fun v => (evs env os).map fun vs => v :: vs:=by
  simp only [evs]
  cases o.ev env with
  | none => rfl
  | some v => cases evs env os <;> rfl
@[simp] theorem get_set' (t : Env) (k : Nat) (x : V) (j : Nat) : (T.set t k x).get j = if j = k then some x else t.get j:=T.get_set ..
@[simp] theorem get_set'' (t : T Blk) (k : Nat) (x : Blk) (j : Nat) : (T.set t k x).get j = if j = k then some x else t.get j:=T.get_set ..
@[simp] theorem get_e' {α : Type} (j : Nat) : (T.e : T α).get j = none:=T.get_e j
@[simp] theorem dem_a (x : List V) : dem (.a x) = .a x:=nr rfl
@[simp] theorem dem_eI (n : Int) : dem (eI n) = eI n:=nr rfl
@[simp] theorem dem_eU8 (n : BitVec 8) : dem (eU8 n) = eU8 n:=nr rfl
@[simp] theorem dem_eU32 (n : BitVec 32) : dem (eU32 n) = eU32 n:=nr rfl
@[simp] theorem dem_eU64 (n : BitVec 64) : dem (eU64 n) = eU64 n:=nr rfl
@[simp] theorem dem_eSl {α : Type} (sz : Nat) (f : α → List V) (l : List α) : dem (eSl sz f l) = eSl sz f l:=nr rfl
end
end Go.Ev
namespace Go.Ev
noncomputable section
class LayC {α : Type} (sz : outParam Nat) (f : α → List V) : Prop where
  lay : Lay sz f
structure Arr (α : Type) (n : Nat) where
  l : List α
  h : l.length = n
namespace Arr
variable {α : Type} {n : Nat}
def at' (a : Arr α n) (k : Fin n) : α:=a.l[k.val]'(by rw [a.h]; exact k.isLt)
def set (a : Arr α n) (k : Fin n) (x : α) : Arr α n:=⟨a.l.set k.val x,by rw [List.length_set,a.h]⟩
def rep (n : Nat) (x : α) : Arr α n:=⟨List.replicate n x,List.length_replicate⟩
def eqA [DecidableEq α] (a b : Arr α n) : Bool:=decide (a.l = b.l)
theorem ext {a b : Arr α n} (h : a.l = b.l) : a = b:=by cases a; cases b; simp only at h; subst h; rfl
end Arr
def eAr {α : Type} {n : Nat} (f : α → List V) (a : Arr α n) : List V:=encs f a.l
theorem lay_ar {α : Type} {sz : Nat} {f : α → List V} (h : Lay sz f) (n : Nat) (hn : 1 ≤ n) : Lay (n * sz) (fun a : Arr α n => eAr f a):=
  ⟨fun a => by rw [eAr,encs_length h,a.h],fun a => encs_pure h _,Nat.le_trans h.pos (Nat.le_mul_of_pos_left _ hn)⟩
@[simp] theorem ble_dec (a b : Nat) : Nat.ble a b = decide (a ≤ b):=by
  rw [Bool.eq_iff_iff,Nat.ble_eq,decide_eq_true_iff]
@[simp] theorem beq_dec (a b : Nat) : Nat.beq a b = decide (a = b):=by
  rw [Bool.eq_iff_iff,Nat.beq_eq,decide_eq_true_iff]
@[simp] theorem blt_dec (a b : Nat) : Nat.blt a b = decide (a < b):=by
  rw [Nat.blt]; rw [ble_dec]; rfl
@[simp] theorem roC_pos : (0 < roC) = True:=by simp [roC]
variable {env : Env} {h : H} {call : Call}
attribute [simp] evP evL evA evE
def wI (n : Int) : Int:=wrapB .i64 n
def natI (n : Int) : Option Nat:=match n with
  | .ofNat n => some n
  | .negSucc _ => none
def finI (n : Nat) (i : Int) : Option (Fin n):=(natI i).bind fun k => if h : k < n then some ⟨k,h⟩ else none
@[simp] theorem natOf_eI (n : Int) : natOf (eI n) = natI n:=by cases n <;> rfl
@[simp] theorem natI_0 : natI 0 = some 0:=nr rfl
@[simp] theorem natI_cast (n : Nat) : natI (n : Int) = some n:=nr rfl
def binV (op : AOp) (x y : V) : Option V:=match x with
  | .i k a => match y with
    | .i k' b => intOps op k a k' b
    | _ => none
  | .s a => match y with
    | .s b => strOp op a b
    | _ => none
  | _ => none
@[simp] theorem evBin_eq (op : AOp) (x y : O) : evBin op x y env = (x.ev env).bind fun a => (y.ev env).bind fun b => binV op a b:=by
  unfold evBin
  cases x.ev env with
  | none => rfl
  | some a => cases y.ev env with
    | none => rfl
    | some b => cases a <;> cases b <;> rfl
def binBV (op : AOp) (x y : V) : Option V:=match x with
  | .b a => match y with
    | .b b => boolOp op a b
    | _ => none
  | _ => none
@[simp] theorem evBinB_eq (op : AOp) (x y : O) : evBinB op x y env = (x.ev env).bind fun a => (y.ev env).bind fun b => binBV op a b:=by
  unfold evBinB
  cases x.ev env with
  | none => rfl
  | some a => cases y.ev env with
    | none => cases a <;> rfl
    | some b => cases a <;> cases b <;> rfl
@[simp] theorem binBV_neq (a b : Bool) : binBV .neq (.b a) (.b b) = some (.b (a != b)):=nr rfl
theorem ltB_dec (a b : Int) : ltB a b = decide (a < b):=by
  rw [Bool.eq_iff_iff,decide_eq_true_iff]
  cases a <;> cases b <;> simp only [ltB,Nat.ble_eq,Int.ofNat_eq_natCast,Bool.false_eq_true,true_iff,false_iff] <;> omega
theorem eqB_dec (a b : Int) : eqB a b = decide (a = b):=by rw [eqB_eq,Bool.eq_iff_iff,decide_eq_true_iff,beq_iff_eq]
def remI (x y : Int) : Option Int:=if y = 0 then none else some (x.tmod y)
@[simp] theorem I_add (a b : Int) : binV .add (eI a) (eI b) = some (eI (wI (a + b))):=nr rfl
@[simp] theorem I_sub (a b : Int) : binV .sub (eI a) (eI b) = some (eI (wI (a - b))):=nr rfl
@[simp] theorem I_mul (a b : Int) : binV .mul (eI a) (eI b) = some (eI (wI (a * b))):=nr rfl
@[simp] theorem I_rem (a b : Int) : binV .rem (eI a) (eI b) = (remI a b).map eI:=by
  show (bif eqB b 0 then none else some _) = _
  unfold remI
  rw [eqB_dec,cond_eq_ite]; simp only [decide_eq_true_eq]
  split <;> rfl
@[simp] theorem I_eql (a b : Int) : binV .eql (eI a) (eI b) = some (.b (decide (a = b))):=by rw [← eqB_dec]; rfl
@[simp] theorem I_neq (a b : Int) : binV .neq (eI a) (eI b) = some (.b (!decide (a = b))):=by rw [← eqB_dec]; rfl
@[simp] theorem I_lss (a b : Int) : binV .lss (eI a) (eI b) = some (.b (decide (a < b))):=by rw [← ltB_dec]; rfl
@[simp] theorem I_leq (a b : Int) : binV .leq (eI a) (eI b) = some (.b (!decide (b < a))):=by rw [← ltB_dec]; rfl
@[simp] theorem I_gtr (a b : Int) : binV .gtr (eI a) (eI b) = some (.b (decide (b < a))):=by rw [← ltB_dec]; rfl
@[simp] theorem I_geq (a b : Int) : binV .geq (eI a) (eI b) = some (.b (!decide (a < b))):=by rw [← ltB_dec]; rfl
theorem U8_eqB (a b : BitVec 8) : eqB (Int.ofNat a.toNat) (Int.ofNat b.toNat) = decide (a = b):=by
  rw [eqB_dec,Bool.eq_iff_iff,decide_eq_true_iff,decide_eq_true_iff]
  constructor
  · intro h; apply BitVec.eq_of_toNat_eq; simp only [Int.ofNat_eq_natCast] at h; omega
  · intro h; subst h; rfl
@[simp] theorem U8_neq (a b : BitVec 8) : binV .neq (eU8 a) (eU8 b) = some (.b (!decide (a = b))):=by rw [← U8_eqB]; rfl
theorem U32_le (a : BitVec 32) : Nat.ble a.toNat (kmax .u32) = true:=by
  have:=a.isLt
  rw [Nat.ble_eq]; show a.toNat ≤ 4294967295; omega
@[simp] theorem U32_and (a b : BitVec 32) : binV .and (eU32 a) (eU32 b) = some (eU32 (a &&& b)):=by
  show (bif Nat.ble a.toNat (kmax .u32) && Nat.ble b.toNat (kmax .u32) then some (V.i .u32 (Int.ofNat (Nat.land a.toNat b.toNat))) else none) = _
  rw [U32_le,U32_le]; rfl
@[simp] theorem U32_or (a b : BitVec 32) : binV .or (eU32 a) (eU32 b) = some (eU32 (a ||| b)):=by
  show (bif Nat.ble a.toNat (kmax .u32) && Nat.ble b.toNat (kmax .u32) then some (V.i .u32 (Int.ofNat (Nat.lor a.toNat b.toNat))) else none) = _
  rw [U32_le,U32_le]; rfl
theorem U32_eqB (a b : BitVec 32) : eqB (Int.ofNat a.toNat) (Int.ofNat b.toNat) = decide (a = b):=by
  rw [eqB_dec,Bool.eq_iff_iff,decide_eq_true_iff,decide_eq_true_iff]
  constructor
  · intro h; apply BitVec.eq_of_toNat_eq; simp only [Int.ofNat_eq_natCast] at h; omega
  · intro h; subst h; rfl
@[simp] theorem U32_eql (a b : BitVec 32) : binV .eql (eU32 a) (eU32 b) = some (.b (decide (a = b))):=by rw [← U32_eqB]; rfl
@[simp] theorem U32_neq (a b : BitVec 32) : binV .neq (eU32 a) (eU32 b) = some (.b (!decide (a = b))):=by rw [← U32_eqB]; rfl
theorem wrapU64 (n : Int) : wrapB .u64 n = Int.ofNat (BitVec.ofInt 64 n).toNat:=by
  rw [wrapB_eq,BitVec.toNat_ofInt]
  show n % 2 ^ 64 = _
  have : (0 : Int) ≤ n % 2 ^ 64:=Int.emod_nonneg _ (by decide)
  exact (Int.toNat_of_nonneg this).symm
@[simp] theorem U64_add (a b : BitVec 64) : binV .add (eU64 a) (eU64 b) = some (eU64 (a + b)):=by
  show some (V.i .u64 (wrapB .u64 (Int.ofNat a.toNat + Int.ofNat b.toNat))) = _
  rw [wrapU64]
  unfold eU64
  congr 4
  all_goals
    apply BitVec.eq_of_toNat_eq
    rw [BitVec.toNat_ofInt,BitVec.toNat_add]
    rw [show (Int.ofNat a.toNat + Int.ofNat b.toNat) % ((2 ^ 64 : Nat) : Int) = (((a.toNat + b.toNat) % 2 ^ 64 : Nat) : Int) from rfl,Int.toNat_natCast]
@[simp] theorem U64_mul (a b : BitVec 64) : binV .mul (eU64 a) (eU64 b) = some (eU64 (a * b)):=by
  show some (V.i .u64 (wrapB .u64 (Int.ofNat a.toNat * Int.ofNat b.toNat))) = _
  rw [wrapU64]
  unfold eU64
  congr 4
  all_goals
    apply BitVec.eq_of_toNat_eq
    rw [BitVec.toNat_ofInt,BitVec.toNat_mul]
    rw [show (Int.ofNat a.toNat * Int.ofNat b.toNat) % ((2 ^ 64 : Nat) : Int) = (((a.toNat * b.toNat) % 2 ^ 64 : Nat) : Int) from rfl,Int.toNat_natCast]
theorem U64_eqB (a b : BitVec 64) : eqB (Int.ofNat a.toNat) (Int.ofNat b.toNat) = decide (a = b):=by
  rw [eqB_dec,Bool.eq_iff_iff,decide_eq_true_iff,decide_eq_true_iff]
  constructor
  · intro h; apply BitVec.eq_of_toNat_eq; simp only [Int.ofNat_eq_natCast] at h; omega
  · intro h; subst h; rfl
theorem U64_ltB (a b : BitVec 64) : ltB (Int.ofNat a.toNat) (Int.ofNat b.toNat) = decide (a < b):=by
  rw [ltB_dec,Bool.eq_iff_iff,decide_eq_true_iff,decide_eq_true_iff,BitVec.lt_def]
  simp only [Int.ofNat_eq_natCast]; omega
@[simp] theorem U64_eql (a b : BitVec 64) : binV .eql (eU64 a) (eU64 b) = some (.b (decide (a = b))):=by rw [← U64_eqB]; rfl
@[simp] theorem U64_neq (a b : BitVec 64) : binV .neq (eU64 a) (eU64 b) = some (.b (!decide (a = b))):=by rw [← U64_eqB]; rfl
@[simp] theorem U64_lss (a b : BitVec 64) : binV .lss (eU64 a) (eU64 b) = some (.b (decide (a < b))):=by rw [← U64_ltB]; rfl
@[simp] theorem U64_leq (a b : BitVec 64) : binV .leq (eU64 a) (eU64 b) = some (.b (!decide (b < a))):=by rw [← U64_ltB]; rfl
@[simp] theorem U64_geq (a b : BitVec 64) : binV .geq (eU64 a) (eU64 b) = some (.b (!decide (a < b))):=by rw [← U64_ltB]; rfl
def cvtV (k : IntKind) (v : V) : Option V:=match v with
  | .i _ n => some (.i k (wrapB k n))
  | _ => none
@[simp] theorem evCvt_eq (k : IntKind) (x : O) : evCvt k x env = (x.ev env).bind (cvtV k):=by
  unfold evCvt
  cases x.ev env with
  | none => rfl
  | some v => cases v <;> rfl
theorem wrapI_small {n : Nat} (h : n < 2 ^ 63) : wrapB .i64 (Int.ofNat n) = Int.ofNat n:=by
  have : Nat.ble n (kmax .i64) = true:=by rw [Nat.ble_eq]; show n ≤ 9223372036854775807; omega
  simp only [wrapB,this,cond_true]
@[simp] theorem cvt_I_U64 (n : Int) : cvtV .u64 (eI n) = some (eU64 (BitVec.ofInt 64 n)):=by
  show some (V.i .u64 (wrapB .u64 n)) = _
  rw [wrapU64]; rfl
@[simp] theorem cvt_U32_U64 (x : BitVec 32) : cvtV .u64 (eU32 x) = some (eU64 (x.setWidth 64)):=by
  show some (V.i .u64 (wrapB .u64 (Int.ofNat x.toNat))) = _
  rw [wrapU64]
  unfold eU64
  congr 4
  all_goals
    apply BitVec.eq_of_toNat_eq
    rw [BitVec.toNat_ofInt,BitVec.toNat_setWidth]
    rw [show (Int.ofNat x.toNat) % ((2 ^ 64 : Nat) : Int) = ((x.toNat % 2 ^ 64 : Nat) : Int) from rfl,Int.toNat_natCast]
@[simp] theorem cvt_U32_I (x : BitVec 32) : cvtV .i64 (eU32 x) = some (eI (x.toNat : Int)):=by
  show some (V.i .i64 (wrapB .i64 (Int.ofNat x.toNat))) = _
  rw [wrapI_small (by have:=x.isLt; omega)]; rfl
end
end Go.Ev
namespace Go.Ev
noncomputable section
def cI (n : Int) : List V:=[eI n]
def cU8 (n : BitVec 8) : List V:=[eU8 n]
def cU32 (n : BitVec 32) : List V:=[eU32 n]
def cU64 (n : BitVec 64) : List V:=[eU64 n]
def cB (b : Bool) : List V:=[.b b]
def cSl {α : Type} (sz : Nat) (f : α → List V) (l : List α) : List V:=[eSl sz f l]
instance : LayC 1 cI:=⟨⟨fun _ => rfl,fun _ => rfl,Nat.le_refl _⟩⟩
instance : LayC 1 cU8:=⟨⟨fun _ => rfl,fun _ => rfl,Nat.le_refl _⟩⟩
instance : LayC 1 cU32:=⟨⟨fun _ => rfl,fun _ => rfl,Nat.le_refl _⟩⟩
instance : LayC 1 cU64:=⟨⟨fun _ => rfl,fun _ => rfl,Nat.le_refl _⟩⟩
instance : LayC 1 cB:=⟨⟨fun _ => rfl,fun _ => rfl,Nat.le_refl _⟩⟩
instance {α : Type} (sz : Nat) (f : α → List V) : LayC 1 (cSl sz f):=⟨⟨fun _ => rfl,fun _ => rfl,Nat.le_refl _⟩⟩
instance {α : Type} {sz : Nat} {f : α → List V} [h : LayC sz f] (n : Nat) : LayC ((n + 1) * sz) (eAr (n:=n + 1) f):=⟨lay_ar h.lay (n + 1) (by omega)⟩
theorem lay_len {α : Type} {sz : Nat} {f : α → List V} [L : LayC sz f] (x : α) : (f x).length = sz:=L.lay.len x
theorem lay_pure {α : Type} {sz : Nat} {f : α → List V} [L : LayC sz f] (x : α) : pureL (f x) = true:=L.lay.pure x
theorem pureL_app' (a b : List V) : pureL (app a b) = (pureL a && pureL b):=by
  rw [app_eq]; induction a with
  | nil => rfl
  | cons x a ih => simp only [List.cons_append,pureL,ih,Bool.and_assoc]
theorem sub_skip {a b : List V} {k o n : Nat} (h : a.length = k) : takeN (dropN (app a b) (k + o)) n = takeN (dropN b o) n:=by
  rw [takeN_eq,takeN_eq,dropN_eq,dropN_eq,app_eq,List.drop_append,List.drop_of_length_le (by omega),List.nil_append,show k + o - a.length = o by omega]
theorem sub_here {a b : List V} {n : Nat} (h : a.length = n) : takeN (dropN (app a b) 0) n = a:=by
  rw [takeN_eq,dropN_eq,app_eq,List.drop_zero,List.take_append_of_le_length (by omega),List.take_of_length_le (by omega)]
theorem sub_last {a : List V} {n : Nat} (h : a.length = n) : takeN (dropN a 0) n = a:=by
  rw [takeN_eq,dropN_eq,List.drop_zero,List.take_of_length_le (by omega)]
theorem sub_path {l b : List V} {o m i n : Nat} (h : takeN (dropN l o) m = b) (hi : i + n ≤ m) : takeN (dropN l (o + i)) n = takeN (dropN b i) n:=by
  subst h
  simp only [takeN_eq,dropN_eq]
  rw [List.drop_take,List.take_take,List.drop_drop,Nat.min_eq_left (by omega)]
theorem nth_sub {l : List V} {o : Nat} {v : V} (h : takeN (dropN l o) 1 = [v]) : nth l o = some v:=by
  rw [nth_eq]
  rw [takeN_eq,dropN_eq] at h
  have : (l.drop o)[0]? = some v:=by
    cases e : l.drop o with
    | nil => rw [e] at h; cases h
    | cons x xs => rw [e] at h; simp at h; rw [h]; rfl
  rw [List.getElem?_drop] at this
  exact this
theorem put_skip {a b c : List V} {k o : Nat} (h : a.length = k) : putN (app a b) (k + o) c = app a (putN b o c):=by
  subst h
  simp only [app_eq]
  induction a with
  | nil => simp
  | cons x a ih =>
    simp only [List.cons_append,putN,List.length_cons,cond_eq_ite,Nat.beq_eq]
    rw [if_neg (by omega),show a.length + 1 + o - 1 = a.length + o by omega,ih]
theorem put_here {a b c : List V} (h : a.length = c.length) : putN (app a b) 0 c = app c b:=by
  rw [app_eq,app_eq]; exact putN_zero' a c b h
theorem put_last {a c : List V} (h : a.length = c.length) : putN a 0 c = c:=by
  have:=putN_zero' a c [] h
  simpa using this
theorem put_path {l b b' l' c : List V} {o m i : Nat} (hg : takeN (dropN l o) m = b) (hb : putN b i c = b') (hl : putN l o b' = l') (hm : o + m ≤ l.length) (hi : i + c.length ≤ m) : putN l (o + i) c = l':=by
  subst hl hb hg
  have e1 : (takeN (dropN l o) m).length = m:=by rw [takeN_eq,dropN_eq,List.length_take,List.length_drop]; omega
  have e2 : (putN (takeN (dropN l o) m) i c).length = m:=by rw [length_putN,e1]
  apply List.ext_getElem?
  intro j
  rw [get_putN,get_putN,e2]
  by_cases h1 : o ≤ j ∧ j < o + m ∧ j < l.length
  · rw [if_pos h1,get_putN,e1]
    by_cases h2 : i ≤ j - o ∧ j - o < i + c.length ∧ j - o < m
    · rw [if_pos h2,if_pos (by omega)]; congr 1; omega
    · rw [if_neg h2,if_neg (by omega),takeN_eq,dropN_eq,List.getElem?_take,if_pos (by omega),List.getElem?_drop]; congr 1; omega
  · rw [if_neg h1,if_neg (by omega)]
section
variable {α : Type} {k : Nat} {f : α → List V}
theorem sub_s [L : LayC k f] {x : α} {b : List V} {o n : Nat} (h : k ≤ o) : takeN (dropN (app (f x) b) o) n = takeN (dropN b (o - k)) n:=by
  have:=sub_skip (b:=b) (o:=o - k) (n:=n) (lay_len (f:=f) x)
  rwa [show k + (o - k) = o by omega] at this
theorem sub_h [L : LayC k f] {x : α} {b : List V} : takeN (dropN (app (f x) b) 0) k = f x:=sub_here (lay_len x)
theorem sub_l [L : LayC k f] {x : α} : takeN (dropN (f x) 0) k = f x:=sub_last (lay_len x)
theorem put_s [L : LayC k f] {x : α} {b c : List V} {o : Nat} (h : k ≤ o) : putN (app (f x) b) o c = app (f x) (putN b (o - k) c):=by
  have:=put_skip (b:=b) (c:=c) (o:=o - k) (lay_len (f:=f) x)
  rwa [show k + (o - k) = o by omega] at this
theorem put_h [L : LayC k f] {x y : α} {b : List V} : putN (app (f x) b) 0 (f y) = app (f y) b:=put_here (by rw [lay_len (f:=f),lay_len (f:=f)])
theorem put_l [L : LayC k f] {x y : α} : putN (f x) 0 (f y) = f y:=put_last (by rw [lay_len (f:=f),lay_len (f:=f)])
end
theorem ar_at {α : Type} {sz : Nat} {f : α → List V} (h : Lay sz f) {n : Nat} (a : Arr α n) (k : Fin n) : takeN (dropN (eAr f a) (k.val * sz)) sz = f (a.at' k):=
  encs_at h (by rw [a.h]; exact k.isLt)
theorem ar_set {α : Type} {sz : Nat} {f : α → List V} (h : Lay sz f) {n : Nat} (a : Arr α n) (k : Fin n) (x : α) : putN (eAr f a) (k.val * sz) (f x) = eAr f (a.set k x):=
  encs_set h (by rw [a.h]; exact k.isLt) x
end
end Go.Ev
