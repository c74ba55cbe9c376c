/- The evaluator's steps as rules on typed data. -/
import Derived.Test.YtoppeebbioalcaaGreatDoorEvU
set_option linter.all false
namespace Go.Ev
noncomputable section
variable {env : Env} {h : H} {call : Call}
@[simp] theorem cells_a (cs : List V) : (V.a cs).cells? = some cs:=nr rfl
@[simp] theorem cells_eI (n : Int) : (eI n).cells? = some [eI n]:=nr rfl
@[simp] theorem cells_eU32 (n : BitVec 32) : (eU32 n).cells? = some [eU32 n]:=nr rfl
@[simp] theorem cells_eU64 (n : BitVec 64) : (eU64 n).cells? = some [eU64 n]:=nr rfl
@[simp] theorem cells_eSl {α : Type} (sz : Nat) (f : α → List V) (l : List α) : (eSl sz f l).cells? = some [eSl sz f l]:=nr rfl
@[simp] theorem len_nil' : len ([] : List V) = 0:=nr rfl
@[simp] theorem len_cons' (x : V) (l : List V) : len (x :: l) = len l + 1:=nr rfl
@[simp] theorem len_lay {α : Type} {sz : Nat} {f : α → List V} [L : LayC sz f] (x : α) : len (f x) = sz:=by rw [len_eq,lay_len]
@[simp] theorem len_putN (l : List V) (n : Nat) (m : List V) : len (putN l n m) = len l:=by rw [len_eq,len_eq,length_putN]
@[simp] theorem len_dropN (l : List V) (n : Nat) : len (dropN l n) = len l - n:=by rw [len_eq,len_eq,dropN_eq,List.length_drop]
@[simp] theorem nth_drop (l : List V) (a b : Nat) : nth (dropN l a) b = nth l (a + b):=by simp only [dropN_eq,nth_eq,List.getElem?_drop]
@[simp] theorem drop_zero' (l : List V) : dropN l 0 = l:=by rw [dropN_eq,List.drop_zero]
@[simp] theorem nth_zero (x : V) (l : List V) : nth (x :: l) 0 = some x:=nr rfl
@[simp] theorem nth_succ (x : V) (l : List V) (n : Nat) : nth (x :: l) (n + 1) = nth l n:=nr rfl
@[simp] theorem take_lay {α : Type} {sz : Nat} {f : α → List V} [L : LayC sz f] (x : α) : takeN (f x) sz = f x:=by
  rw [takeN_eq,List.take_of_length_le (by rw [lay_len (f:=f)]; omega)]
@[simp] theorem put_lay {α : Type} {sz : Nat} {f : α → List V} [L : LayC sz f] (x y : α) : putN (f x) 0 (f y) = f y:=put_l
@[simp] theorem takeC_lay {α : Type} {sz : Nat} {f : α → List V} [L : LayC sz f] {x : α} {o n : Nat} (hn : o + n ≤ sz) : takeC (dropN (f x) o) n = some (takeN (dropN (f x) o) n):=by
  refine takeC_pure (by rw [takeN_eq]) (by rw [takeN_eq,dropN_eq,List.length_take,List.length_drop,lay_len (f:=f)]; omega) ?_
  have hp:=lay_pure (f:=f) x
  rw [pureL_eq,List.all_eq_true] at hp ⊢
  intro c hc
  rw [takeN_eq,dropN_eq] at hc
  exact hp c (List.mem_of_mem_drop (List.mem_of_mem_take hc))
@[simp] theorem takeC_all {α : Type} {sz : Nat} {f : α → List V} [L : LayC sz f] {x : α} : takeC (f x) sz = some (f x):=by
  have:=takeC_lay (f:=f) (x:=x) (o:=0) (n:=sz) (by omega)
  rw [drop_zero'] at this
  rw [this,take_lay]
@[simp] theorem put_one (a b : V) : putN [a] 0 [b] = [b]:=nr rfl
@[simp] theorem drop_consH (x : H) (l : List H) (n : Nat) : dropN (x :: l) (n + 1) = dropN l n:=nr rfl
@[simp] theorem drop_consH0 (x : H) (l : List H) : dropN (x :: l) 0 = x :: l:=nr rfl
@[simp] theorem drop_nilH (n : Nat) : dropN ([] : List H) n = []:=nr rfl
def ldc (v : Option V) : Option V:=match v with
  | some .z => none
  | r => r
@[simp] theorem ldc_b (x : Bool) : ldc (some (.b x)) = some (.b x):=nr rfl
@[simp] theorem ldc_eI (n : Int) : ldc (some (eI n)) = some (eI n):=nr rfl
@[simp] theorem ldc_eU32 (n : BitVec 32) : ldc (some (eU32 n)) = some (eU32 n):=nr rfl
@[simp] theorem ldc_eU64 (n : BitVec 64) : ldc (some (eU64 n)) = some (eU64 n):=nr rfl
@[simp] theorem ldc_eSl {α : Type} (sz : Nat) (f : α → List V) (l : List α) : ldc (some (eSl sz f l)) = some (eSl sz f l):=nr rfl
def ld1V (h : H) (v : V) : Option V:=match v with
  | .p b o => (h.bl.get b).bind fun k => ldc (nth k.cells o)
  | .pf cs => nth cs 0
  | _ => none
@[simp] theorem ld1V_p (h : H) (b o : Nat) : ld1V h (.p b o) = (h.bl.get b).bind fun k => ldc (nth k.cells o):=nr rfl
@[simp] theorem ld1V_pf (h : H) (cs : List V) : ld1V h (.pf cs) = nth cs 0:=nr rfl
@[simp] theorem evLd1_eq (a : O) : evLd1 a env h = (a.ev env).bind (ld1V h):=by
  unfold evLd1
  cases a.ev env with
  | none => rfl
  | some v =>
    cases v with
    | p b o =>
      simp only [Option.bind_some,ld1V,H.ld1]
      cases h.bl.get b <;> rfl
    | _ => rfl
def ldnV (h : H) (n : Nat) (v : V) : Option V:=match v with
  | .p b o => (h.bl.get b).bind fun k => (takeC (dropN k.cells o) n).map V.a
  | .pf cs => cond (decide (n ≤ len cs)) (some (.a (takeN cs n))) none
  | _ => none
@[simp] theorem ldnV_p (h : H) (n b o : Nat) : ldnV h n (.p b o) = (h.bl.get b).bind fun k => (takeC (dropN k.cells o) n).map V.a:=nr rfl
@[simp] theorem ldnV_pf (h : H) (n : Nat) (cs : List V) : ldnV h n (.pf cs) = cond (decide (n ≤ len cs)) (some (.a (takeN cs n))) none:=nr rfl
@[simp] theorem evLdn_eq (n : Nat) (a : O) : evLdn n a env h = (a.ev env).bind (ldnV h n):=by
  unfold evLdn
  cases a.ev env with
  | none => rfl
  | some v =>
    cases v with
    | p b o =>
      simp only [Option.bind_some,ldnV,H.ldn]
      cases h.bl.get b with
      | none => rfl
      | some k => simp only [Option.bind_some]; cases takeC (dropN k.cells o) n <;> rfl
    | pf cs => simp only [Option.bind_some,ldnV,ble_dec]
    | _ => rfl
def st1V (h : H) (p v : V) : Option H:=match p with
  | .p b o => match v with
    | .a _ => none
    | .t _ => none
    | .u => none
    | .z => none
    | v => h.stn b o [v]
  | _ => none
@[simp] theorem evSt1_eq (a x : O) : evSt1 a x env h = (a.ev env).bind fun p => (x.ev env).bind fun v => (st1V h p v).map fun h => (V.u,h):=by
  unfold evSt1
  cases a.ev env with
  | none => rfl
  | some p => cases x.ev env with
    | none => cases p <;> rfl
    | some v =>
      cases p with
      | p b o =>
        cases v <;> simp only [Option.bind_some,st1V,Option.map_none] <;> cases h.stn b o _ <;> rfl
      | _ => rfl
@[simp] theorem st1_eI (h : H) (b o : Nat) (x : Int) : st1V h (.p b o) (eI x) = h.stn b o [eI x]:=nr rfl
@[simp] theorem st1_eU8 (h : H) (b o : Nat) (x : BitVec 8) : st1V h (.p b o) (eU8 x) = h.stn b o [eU8 x]:=nr rfl
@[simp] theorem st1_eU32 (h : H) (b o : Nat) (x : BitVec 32) : st1V h (.p b o) (eU32 x) = h.stn b o [eU32 x]:=nr rfl
@[simp] theorem st1_eSl {α : Type} (h : H) (b o sz : Nat) (f : α → List V) (l : List α) : st1V h (.p b o) (eSl sz f l) = h.stn b o [eSl sz f l]:=nr rfl
def stnV (h : H) (n : Nat) (p v : V) : Option H:=match p with
  | .p b o => match v with
    | .a cs => cond (decide (len cs = n)) (h.stn b o cs) none
    | _ => none
  | _ => none
@[simp] theorem stnV_p (h : H) (n b o : Nat) (cs : List V) : stnV h n (.p b o) (.a cs) = cond (decide (len cs = n)) (h.stn b o cs) none:=nr rfl
@[simp] theorem evStn_eq (n : Nat) (a x : O) : evStn n a x env h = (a.ev env).bind fun p => (x.ev env).bind fun v => (stnV h n p v).map fun h => (V.u,h):=by
  unfold evStn O.cells
  cases a.ev env with
  | none => rfl
  | some p => cases x.ev env with
    | none => cases p <;> rfl
    | some v =>
      cases p with
      | p b o =>
        cases v with
        | a cs =>
          simp only [Option.bind_some,stnV,beq_dec]
          cases decide (len cs = n) with
          | false => rfl
          | true => simp only [cond_true]; cases h.stn b o cs <;> rfl
        | _ => rfl
      | _ => rfl
@[simp] theorem stn_plain (nb : Nat) (bl : T Blk) (tk : T (Nat × Nat × Nat)) (b o : Nat) (vs : List V) : (⟨nb,bl,.e,tk⟩ : H).stn b o vs =
    (bl.get b).bind fun k => cond (decide (o + len vs ≤ len k.cells) && decide (k.dl < roC)) (some ⟨nb,bl.set b ⟨putN k.cells o vs,k.grp,k.dl⟩,.e,tk⟩) none:=by
  simp only [H.stn,get_e',ble_dec,blt_dec]
  cases bl.get b <;> rfl
def pickV (c : V) (a b : Option V) : Option V:=match c with
  | .b x => cond x a b
  | _ => none
@[simp high] theorem pickV_true (a b : Option V) : pickV (.b true) a b = a:=nr rfl
@[simp high] theorem pickV_false (a b : Option V) : pickV (.b false) a b = b:=nr rfl
@[simp] theorem evPick_eq (c a b : O) : evPick c a b env = (c.ev env).bind fun v => pickV v (a.ev env) (b.ev env):=by
  unfold evPick
  cases c.ev env with
  | none => rfl
  | some v =>
    cases v with
    | b x => cases x <;> rfl
    | _ => rfl
@[simp] theorem evBuild_eq (z : List V) (ps : List (Nat × Nat × O)) : evBuild z ps env = (fillP env z ps).map V.a:=by
  unfold evBuild; cases fillP env z ps <;> rfl
@[simp] theorem fillP_nil (z : List V) : fillP env z [] = some z:=nr rfl
@[simp] theorem fillP_cons (z : List V) (o n : Nat) (x : O) (ps : List (Nat × Nat × O)) : fillP env z ((o,n,x) :: ps) =
    (x.ev env).bind fun v => v.cells?.bind fun cs => cond (decide (len cs = n) && decide (o + n ≤ len z)) (fillP env (putN z o cs) ps) none:=by
  simp only [fillP,beq_dec,ble_dec]
  cases x.ev env with
  | none => rfl
  | some v => simp only [Option.bind_some]; cases v.cells? <;> rfl
def faV (off : Nat) (v : V) : Option V:=match v with
  | .p b o => some (.p b (o + off))
  | .pf cs => cond (decide (off ≤ len cs)) (some (.pf (dropN cs off))) none
  | _ => none
@[simp] theorem faV_p (off b o : Nat) : faV off (.p b o) = some (.p b (o + off)):=nr rfl
@[simp] theorem faV_pf (off : Nat) (cs : List V) : faV off (.pf cs) = cond (decide (off ≤ len cs)) (some (.pf (dropN cs off))) none:=nr rfl
@[simp] theorem evFa_eq (off : Nat) (x : O) : evFa off x env = (x.ev env).bind (faV off):=by
  unfold evFa
  cases x.ev env with
  | none => rfl
  | some v => cases v <;> simp only [Option.bind_some,faV,ble_dec]
@[simp] theorem O_cells (x : O) : x.cells env = (x.ev env).bind fun v => match v with
    | .a cs => some cs
    | _ => none:=by
  unfold O.cells
  cases x.ev env with
  | none => rfl
  | some v => cases v <;> rfl
@[simp] theorem evFld1_eq (off : Nat) (x : O) : evFld1 off x env = (x.cells env).bind fun cs => nth cs off:=by
  unfold evFld1; cases x.cells env <;> rfl
def ixSV (sz : Nat) (v : V) (i : Nat) : Option V:=match v with
  | .sl b o l _ sz' _ => cond (decide (sz = sz') && decide (i + 1 ≤ l)) (some (.p b (o + i * sz))) none
  | .fz _ n sz' cs => cond (decide (sz = sz') && decide (i + 1 ≤ n)) (some (.pf (takeN (dropN cs (i * sz)) sz))) none
  | _ => none
@[simp] theorem evIxS_eq' (sz : Nat) (x i : O) : evIxS sz x i env = (x.ev env).bind fun v => (i.ev env).bind fun w => (natOf w).bind (ixSV sz v):=by
  unfold evIxS O.nat
  cases x.ev env with
  | none => rfl
  | some v => cases i.ev env with
    | none => cases v <;> rfl
    | some w => cases v <;> simp only [Option.bind_some,ixSV,ble_dec,beq_dec] <;> cases natOf w <;> rfl
@[simp] theorem ixSV_sl (sz b o l c sz' : Nat) (ex : Bool) (i : Nat) : ixSV sz (.sl b o l c sz' ex) i = cond (decide (sz = sz') && decide (i + 1 ≤ l)) (some (.p b (o + i * sz))) none:=nr rfl
theorem ixSV_list {α : Type} {sz : Nat} {f : α → List V} [L : LayC sz f] (m : Md) (l : List α) (i : Nat) : ixSV sz (.fz m l.length sz (encs f l)) i = (l[i]?).map fun x => .pf (f x):=by
  simp only [ixSV,decide_true,Bool.true_and]
  by_cases h1 : i < l.length
  · rw [List.getElem?_eq_getElem h1]
    simp only [Nat.succ_le_of_lt h1,decide_true,cond_true,Option.map_some]
    rw [encs_at L.lay h1]
  · rw [List.getElem?_eq_none (by omega)]
    simp only [show ¬ (i + 1 ≤ l.length) by omega,decide_false,cond_false,Option.map_none]
@[simp] theorem ixSV_eSl {α : Type} {sz : Nat} {f : α → List V} [L : LayC sz f] (l : List α) (i : Nat) : ixSV sz (eSl sz f l) i = (l[i]?).map fun x => .pf (f x):=ixSV_list .no l i
def finV (n : Nat) (w : V) : Option (Fin n):=(natOf w).bind fun k => if h : k < n then some ⟨k,h⟩ else none
@[simp] theorem finV_eI (n : Nat) (i : Int) : finV n (eI i) = finI n i:=by simp only [finV,finI,natOf_eI]
theorem finV_bind {β : Type} (n : Nat) (w : V) (g : Nat → Option β) (hg : ∀ k,n ≤ k → g k = none) : (natOf w).bind g = (finV n w).bind fun k => g k.val:=by
  unfold finV
  cases natOf w with
  | none => rfl
  | some k =>
    simp only [Option.bind_some]
    split
    · rfl
    · rename_i h1; simp only [Option.bind_none]; exact hg k (by omega)
def ixAV (n sz : Nat) (v w : V) : Option V:=match v with
  | .p b o => (finV n w).map fun k => .p b (o + k.val * sz)
  | .pf cs => (finV n w).bind fun k => cond (decide (n * sz ≤ len cs)) (some (.pf (takeN (dropN cs (k.val * sz)) sz))) none
  | _ => none
@[simp] theorem ixAV_p (n sz b o : Nat) (w : V) : ixAV n sz (.p b o) w = (finV n w).map fun k => .p b (o + k.val * sz):=nr rfl
@[simp] theorem evIxA_eq (n sz : Nat) (x i : O) : evIxA n sz x i env = (x.ev env).bind fun v => (i.ev env).bind fun w => ixAV n sz v w:=by
  unfold evIxA O.nat
  cases x.ev env with
  | none => rfl
  | some v => cases i.ev env with
    | none => cases v <;> rfl
    | some w =>
      cases v with
      | p b o =>
        simp only [Option.bind_some,ixAV,Option.map_eq_bind]
        have:=finV_bind n w (fun i => bif Nat.ble (i + 1) n then some (V.p b (o + i * sz)) else none) (fun k hk => by rw [ble_dec]; simp only [show ¬ (k + 1 ≤ n) by omega,decide_false,cond_false])
        have e : (match natOf w with | some i => bif Nat.ble (i + 1) n then some (V.p b (o + i * sz)) else none | none => none) = (natOf w).bind fun i => bif Nat.ble (i + 1) n then some (V.p b (o + i * sz)) else none:=by cases natOf w <;> rfl
        refine e.trans (this.trans ?_)
        congr 1
        funext k
        have:=k.isLt
        rw [ble_dec]
        simp only [show k.val + 1 ≤ n by omega,decide_true,cond_true,Function.comp]
      | pf cs =>
        simp only [Option.bind_some,ixAV]
        have:=finV_bind n w (fun i => bif Nat.ble (i + 1) n && Nat.ble (n * sz) (len cs) then some (V.pf (takeN (dropN cs (i * sz)) sz)) else none) (fun k hk => by rw [ble_dec]; simp only [show ¬ (k + 1 ≤ n) by omega,decide_false,Bool.false_and,cond_false])
        have e : (match natOf w with | some i => bif Nat.ble (i + 1) n && Nat.ble (n * sz) (len cs) then some (V.pf (takeN (dropN cs (i * sz)) sz)) else none | none => none) = (natOf w).bind fun i => bif Nat.ble (i + 1) n && Nat.ble (n * sz) (len cs) then some (V.pf (takeN (dropN cs (i * sz)) sz)) else none:=by cases natOf w <;> rfl
        refine e.trans (this.trans ?_)
        congr 1
        funext k
        have:=k.isLt
        rw [ble_dec,ble_dec]
        simp only [show k.val + 1 ≤ n by omega,decide_true,Bool.true_and]
      | _ => rfl
@[simp] theorem nth_cI (x : Int) : nth (cI x) 0 = some (eI x):=nr rfl
@[simp] theorem nth_cB (x : Bool) : nth (cB x) 0 = some (.b x):=nr rfl
@[simp] theorem nth_cU8 (x : BitVec 8) : nth (cU8 x) 0 = some (eU8 x):=nr rfl
@[simp] theorem nth_cU32 (x : BitVec 32) : nth (cU32 x) 0 = some (eU32 x):=nr rfl
@[simp] theorem nth_cU64 (x : BitVec 64) : nth (cU64 x) 0 = some (eU64 x):=nr rfl
@[simp] theorem nth_cSl {α : Type} (sz : Nat) (f : α → List V) (x : List α) : nth (cSl sz f x) 0 = some (eSl sz f x):=nr rfl
@[simp] theorem fin_le {n : Nat} (k : Fin n) {a m : Nat} (h : a + n ≤ m + 1) : (a + k.val ≤ m) ↔ True:=by have:=k.isLt; simp; omega
@[simp] theorem fin_le0 {n : Nat} (k : Fin n) {m : Nat} (h : n ≤ m + 1) : (k.val ≤ m) ↔ True:=by have:=k.isLt; simp; omega
section
variable {n : Nat} (k : Fin n)
@[simp] theorem nth_arI (a : Arr Int n) : nth (eAr cI a) k.val = some (eI (a.at' k)):=nth_sub (by simpa [cI] using ar_at (f:=cI) LayC.lay a k)
@[simp] theorem put_arI (a : Arr Int n) (x : Int) : putN (eAr cI a) k.val [eI x] = eAr cI (a.set k x):=by simpa [cI] using ar_set (f:=cI) LayC.lay a k x
@[simp] theorem put_arU8 (a : Arr (BitVec 8) n) (x : BitVec 8) : putN (eAr cU8 a) k.val [eU8 x] = eAr cU8 (a.set k x):=by simpa [cU8] using ar_set (f:=cU8) LayC.lay a k x
@[simp] theorem put_arU32 (a : Arr (BitVec 32) n) (x : BitVec 32) : putN (eAr cU32 a) k.val [eU32 x] = eAr cU32 (a.set k x):=by simpa [cU32] using ar_set (f:=cU32) LayC.lay a k x
end
section
variable {α : Type} {sz n : Nat} {f : α → List V}
end
end
end Go.Ev
namespace Go.Ev
noncomputable section
variable {env : Env} {h : H} {call : Call}
attribute [simp] Function.comp_def
@[simp] theorem bind_of_bind {α β γ : Type} (o : Option α) (f : α → Option β) (g : β → Option γ) : (o.bind f).bind g = o.bind fun x => (f x).bind g:=by cases o <;> rfl
@[simp] theorem map_as_bind {α β : Type} (o : Option α) (f : α → β) : o.map f = o.bind fun x => some (f x):=by cases o <;> rfl
def eSx {α : Type} (sz : Nat) (f : α → List V) (l : List α) : V:=.fz .ex l.length sz (encs f l)
def eTk {α : Type} (k e sz : Nat) (f : α → List V) (l : List α) : V:=.fz (.tk k e) l.length sz (encs f l)
section
variable {α : Type} {sz : Nat} {f : α → List V}
@[simp] theorem dem_eSx (l : List α) : dem (eSx sz f l) = eSl sz f l:=nr rfl
@[simp] theorem dem_eTk (k e : Nat) (l : List α) : dem (eTk k e sz f l) = eSl sz f l:=nr rfl
@[simp] theorem encs_app (l m : List α) : app (encs f l) (encs f m) = encs f (l ++ m):=(encs_append l m).symm
end
def lenVV (v : V) : Option V:=match v with
  | .sn => some (eI 0)
  | .sl _ _ l _ _ _ => some (eI (l : Int))
  | .fz _ n _ _ => some (eI (n : Int))
  | _ => none
@[simp] theorem evLen_eq' (x : O) : evLen x env = (x.ev env).bind lenVV:=by
  unfold evLen
  cases x.ev env with
  | none => rfl
  | some v => cases v <;> rfl
section
variable {α : Type} {sz : Nat} {f : α → List V}
@[simp] theorem len_eSl (l : List α) : lenVV (eSl sz f l) = some (eI (l.length : Int)):=nr rfl
@[simp] theorem len_eTk (k e : Nat) (l : List α) : lenVV (eTk k e sz f l) = some (eI (l.length : Int)):=nr rfl
@[simp] theorem len_sl (b o l c s : Nat) (ex : Bool) : lenVV (.sl b o l c s ex) = some (eI (l : Int)):=nr rfl
end
section
variable {α : Type} {sz : Nat} {f : α → List V}
end
def extV (v : V) (i : Nat) : Option V:=match v with
  | .t vs => nth vs i
  | _ => none
@[simp] theorem extV_t (vs : List V) (i : Nat) : extV (.t vs) i = nth vs i:=nr rfl
@[simp] theorem evExt_eq (x : O) (i : Nat) : evExt x i env = (x.ev env).bind fun v => extV v i:=by
  unfold evExt
  cases x.ev env with
  | none => rfl
  | some v => cases v <;> rfl
def unV (op : UnOp) (v : V) : Option V:=match v with
  | .b x => match op with
    | .not => some (.b (!x))
    | _ => none
  | .i k n => match op with
    | .neg => some (.i k (wrapB k (0 - n)))
    | .xor => match n with
      | .ofNat n => bif !ksgn k && Nat.ble n (kmax k) then some (.i k (.ofNat (kmax k - n))) else none
      | .negSucc _ => none
    | _ => none
  | _ => none
@[simp] theorem evUn_eq (op : UnOp) (x : O) : evUn op x env = (x.ev env).bind (unV op):=by
  unfold evUn
  cases x.ev env with
  | none => rfl
  | some v => cases v <;> rfl
@[simp] theorem un_not (x : Bool) : unV .not (.b x) = some (.b (!x)):=nr rfl
def eqAV (ks : List Kd) (neg : Bool) (a b : List V) : Option V:=cond (decide (len a = len ks) && decide (len b = len ks)) ((eqCells ks a b).map fun r => V.b (r != neg)) none
@[simp] theorem evEqA_eq (ks : List Kd) (neg : Bool) (x y : O) : evEqA ks neg x y env = (x.cells env).bind fun a => (y.cells env).bind fun b => eqAV ks neg a b:=by
  unfold evEqA eqAV
  simp only [beq_dec]
  cases x.cells env with
  | none => rfl
  | some a => cases y.cells env with
    | none => rfl
    | some b =>
      simp only [Option.bind_some]
      cases decide (len a = len ks) && decide (len b = len ks) with
      | false => rfl
      | true => simp only [cond_true]; cases eqCells ks a b <;> rfl
@[simp] theorem at_p (b : Nat) : AR.at b .p = .p b 0:=nr rfl
@[simp] theorem alloc_eq (nb : Nat) (bl : T Blk) (gr : T (List Nat)) (tk : T (Nat × Nat × Nat)) (cs : List V) : (⟨nb,bl,gr,tk⟩ : H).alloc cs = ⟨nb + 1,bl.set nb ⟨cs,nb,0⟩,gr,tk⟩:=nr rfl
@[simp] theorem evBox_eq (x : O) : evBox x env = (x.ev env).bind fun v => v.cells?.map fun cs => (cs,AR.p):=by
  unfold evBox
  cases x.ev env with
  | none => rfl
  | some v => simp only [Option.bind_some]; cases v.cells? <;> rfl
attribute [simp] H.appK
@[simp] theorem evAcc_eq (k sz : Nat) : evAcc k sz (.k .sn) env h = some (.fz (.tk k (h.ep k)) 0 sz [],⟨h.nb,h.bl,h.gr,h.tk.set k (h.ep k,0,sz)⟩):=nr rfl
@[simp] theorem ep_eq (nb : Nat) (bl : T Blk) (gr : T (List Nat)) (tk : T (Nat × Nat × Nat)) (k : Nat) : (⟨nb,bl,gr,tk⟩ : H).ep k = match tk.get k with
  | none => 0
  | some r => r.1 + 1:=nr rfl
@[simp] theorem tk_get (t : T (Nat × Nat × Nat)) (k : Nat) (x : Nat × Nat × Nat) (j : Nat) : (t.set k x).get j = if j = k then some x else t.get j:=T.get_set ..
@[simp] theorem evBldF_eq (sz n : Nat) (z : List V) (ps : List (Nat × Nat × O)) : evBldF sz n z ps env h = (fillP env z ps).bind fun cs => cond (pureL cs) (some (V.fz .ex n sz cs,h)) none:=by
  unfold evBldF; cases fillP env z ps <;> rfl
section
variable {α : Type} {sz : Nat} {f : α → List V}
@[simp] theorem src_eSx (l : List α) : srcCells h sz (eSx sz f l) = some (l.length,encs f l):=by simp [srcCells,eSx]
end
@[simp] theorem evAppT_eq (sz by_ k : Nat) (x y : O) : evAppT sz by_ k x y env h = (x.ev env).bind fun x => (y.ev env).bind fun y => (srcCells h sz y).bind fun r => cond (pureL r.2) (h.appT x sz by_ r.1 k r.2) none:=by
  unfold evAppT
  cases x.ev env with
  | none => rfl
  | some x => cases y.ev env with
    | none => rfl
    | some y => simp only [Option.bind_some]; cases srcCells h sz y <;> rfl
theorem encs_pureC {α : Type} {sz : Nat} {f : α → List V} [L : LayC sz f] (l : List α) : pureL (encs f l) = true:=encs_pure L.lay l
theorem appT_ex {α : Type} {sz : Nat} {f : α → List V} (nb : Nat) (bl : T Blk) (gr : T (List Nat)) (tk : T (Nat × Nat × Nat)) (l m : List α) (by_ k : Nat) : (⟨nb,bl,gr,tk⟩ : H).appT (eSx sz f l) sz by_ m.length k (encs f m) =
    cond (appB by_ (l.length + m.length)) (some (eTk k ((⟨nb,bl,gr,tk⟩ : H).ep k) sz f (l ++ m),⟨nb,bl,gr,tk.set k ((⟨nb,bl,gr,tk⟩ : H).ep k,l.length + m.length,sz)⟩)) none:=by
  simp only [H.appT,eSx,beq_dec,decide_true,Bool.true_and,H.appK,eTk,List.length_append,encs_app]
theorem appT_tk {α : Type} {sz : Nat} {f : α → List V} (nb : Nat) (bl : T Blk) (gr : T (List Nat)) (tk : T (Nat × Nat × Nat)) (j e : Nat) (l m : List α) (by_ k : Nat) (ht : tk.get j = some (e,l.length,sz)) : (⟨nb,bl,gr,tk⟩ : H).appT (eTk j e sz f l) sz by_ m.length k (encs f m) =
    cond (appB by_ (l.length + m.length)) (some (eTk j e sz f (l ++ m),⟨nb,bl,gr,tk.set j (e,l.length + m.length,sz)⟩)) none:=by
  simp only [H.appT,eTk,beq_dec,decide_true,Bool.true_and,H.appK,List.length_append,encs_app,ht,cond_true]
theorem appT_ex1 {α : Type} {sz : Nat} {f : α → List V} (nb : Nat) (bl : T Blk) (gr : T (List Nat)) (tk : T (Nat × Nat × Nat)) (l : List α) (x : α) (by_ k : Nat) : (⟨nb,bl,gr,tk⟩ : H).appT (eSx sz f l) sz by_ 1 k (encs f [x]) =
    cond (appB by_ (l.length + 1)) (some (eTk k ((⟨nb,bl,gr,tk⟩ : H).ep k) sz f (l ++ [x]),⟨nb,bl,gr,tk.set k ((⟨nb,bl,gr,tk⟩ : H).ep k,l.length + 1,sz)⟩)) none:=appT_ex nb bl gr tk l [x] by_ k
theorem appT_tk1 {α : Type} {sz : Nat} {f : α → List V} (nb : Nat) (bl : T Blk) (gr : T (List Nat)) (tk : T (Nat × Nat × Nat)) (j e : Nat) (l : List α) (x : α) (by_ k : Nat) (ht : tk.get j = some (e,l.length,sz)) : (⟨nb,bl,gr,tk⟩ : H).appT (eTk j e sz f l) sz by_ 1 k (encs f [x]) =
    cond (appB by_ (l.length + 1)) (some (eTk j e sz f (l ++ [x]),⟨nb,bl,gr,tk.set j (e,l.length + 1,sz)⟩)) none:=appT_tk nb bl gr tk j e l [x] by_ k ht
class EqC {α : Type} (f : α → List V) : Prop where
  self : ∀ x,V.eqvs (f x) (f x) = true
theorem eqvs_app : ∀ (a b : List V),V.eqvs a a = true → V.eqvs b b = true → V.eqvs (app a b) (app a b) = true
  | [],b,_,h => h
  | x :: a,b,ha,hb => by
    simp only [V.eqvs,Bool.and_eq_true] at ha
    simp only [app,V.eqvs,Bool.and_eq_true]
    exact ⟨ha.1,eqvs_app a b ha.2 hb⟩
theorem eqvs_encs {α : Type} {f : α → List V} [E : EqC f] : ∀ (l : List α),V.eqvs (encs f l) (encs f l) = true
  | [] => by simp [encs,V.eqvs]
  | x :: l => by simp only [encs]; exact eqvs_app _ _ (E.self x) (eqvs_encs l)
@[simp] theorem eqv_eI (x : Int) : V.eqv (eI x) (eI x) = true:=by simp [V.eqv,eI,ksame,eqB_eq]
@[simp] theorem eqv_eU8 (x : BitVec 8) : V.eqv (eU8 x) (eU8 x) = true:=by simp [V.eqv,eU8,ksame,eqB_eq]
@[simp] theorem eqv_eU32 (x : BitVec 32) : V.eqv (eU32 x) (eU32 x) = true:=by simp [V.eqv,eU32,ksame,eqB_eq]
@[simp] theorem eqv_eU64 (x : BitVec 64) : V.eqv (eU64 x) (eU64 x) = true:=by simp [V.eqv,eU64,ksame,eqB_eq]
@[simp] theorem eqv_b (x : Bool) : V.eqv (.b x) (.b x) = true:=by simp [V.eqv]
instance : EqC cI:=⟨fun x => by simp [cI,V.eqvs]⟩
instance : EqC cU8:=⟨fun x => by simp [cU8,V.eqvs]⟩
instance : EqC cU32:=⟨fun x => by simp [cU32,V.eqvs]⟩
instance : EqC cU64:=⟨fun x => by simp [cU64,V.eqvs]⟩
instance : EqC cB:=⟨fun x => by simp [cB,V.eqvs]⟩
@[simp] theorem eqv_eSl {α : Type} {sz : Nat} {f : α → List V} [EqC f] (l : List α) : V.eqv (eSl sz f l) (eSl sz f l) = true:=by simp [V.eqv,eSl,eqvs_encs]
instance {α : Type} {sz : Nat} {f : α → List V} [EqC f] : EqC (cSl sz f):=⟨fun x => by simp [cSl,V.eqvs]⟩
instance {α : Type} {n : Nat} {f : α → List V} [EqC f] : EqC (eAr (n:=n) f):=⟨fun x => eqvs_encs x.l⟩
@[simp] theorem eqv_a {α : Type} {f : α → List V} [E : EqC f] (x : α) : V.eqv (.a (f x)) (.a (f x)) = true:=by simp only [V.eqv]; exact E.self x
@[simp] theorem evCallP_eq (f : Nat) (qs : List Nat) (args : List O) : evCallP call f qs args env h = (evs env args).bind fun vs => callPv call f qs vs h:=by
  unfold evCallP; cases evs env args <;> rfl
theorem callPv_eq (f : Nat) (qs : List Nat) (vs : List V) : callPv call f qs vs h = cond (vs.all pureA) ((call f vs ⟨0,.e,.e,.e⟩).bind fun r => (fzR r.2 0 qs r.1).map fun v => (v,h)) none:=by
  unfold callPv
  cases vs.all pureA with
  | false => rfl
  | true =>
    simp only [cond_true]
    cases call f vs ⟨0,.e,.e,.e⟩ with
    | none => rfl
    | some r => simp only [Option.bind_some]; cases fzR r.2 0 qs r.1 <;> rfl
def outR (res : List R) (r : X × Env × H) : Option (V × H):=match r.1 with
  | .exit _ => none
  | _ => (resV r.2.1 r.2.2 res).map fun vs => (packR vs,r.2.2)
@[simp] theorem outR_ret (res : List R) (r : Env × H) : outR res (.ret,r) = (resV r.1 r.2 res).map fun vs => (packR vs,r.2):=nr rfl
theorem runF_eq (lf np nt : Nat) (body : K) (res : List R) (args : List V) : runF call lf ⟨np,nt,body,res⟩ args h = cond (decide (len args = np)) ((evK call lf body (envOf args 0 .e) h).bind (outR res)) none:=by
  simp only [runF,beq_dec]
  cases decide (len args = np) with
  | false => rfl
  | true =>
    simp only [cond_true]
    cases evK call lf body (envOf args 0 .e) h with
    | none => rfl
    | some r =>
      obtain ⟨x,en,h1⟩:=r
      cases x <;> simp only [Option.bind_some,outR] <;> cases resV en h1 res <;> rfl
@[simp] theorem envOf_nil (n : Nat) (e : Env) : envOf [] n e = e:=nr rfl
@[simp] theorem envOf_cons (v : V) (vs : List V) (n : Nat) (e : Env) : envOf (v :: vs) n e = envOf vs (n + 1) (e.set n v):=nr rfl
@[simp] theorem resV_nil : resV env h [] = some []:=nr rfl
@[simp] theorem resV_cons (r : R) (rs : List R) : resV env h (r :: rs) = (r.ev env h).bind fun v => (resV env h rs).map fun vs => v :: vs:=by
  simp only [resV]
  cases r.ev env h with
  | none => rfl
  | some v => simp only [Option.bind_some]; cases resV env h rs <;> rfl
@[simp] theorem R_t (n : Nat) : (R.t n).ev env h = env.get n:=nr rfl
def rcn (h : H) (n : Nat) (v : V) : Option V:=match v with
  | .p b o => (h.bl.get b).bind fun k => (takeC (dropN k.cells o) n).map V.a
  | _ => none
@[simp] theorem rcn_p (h : H) (n b o : Nat) : rcn h n (.p b o) = (h.bl.get b).bind fun k => (takeC (dropN k.cells o) n).map V.a:=nr rfl
@[simp] theorem R_cn (n s : Nat) : (R.cn n s).ev env h = (env.get n).bind (rcn h s):=by
  simp only [R.ev]
  cases env.get n with
  | none => rfl
  | some v =>
    cases v with
    | p b o =>
      simp only [Option.bind_some,rcn,H.ldn]
      cases h.bl.get b with
      | none => rfl
      | some k => simp only [Option.bind_some]; cases takeC (dropN k.cells o) s <;> rfl
    | _ => rfl
@[simp] theorem packR_one (v : V) : packR [v] = v:=nr rfl
@[simp] theorem packR_two (v w : V) (vs : List V) : packR (v :: w :: vs) = .t (v :: w :: vs):=nr rfl
@[simp] theorem pureA_a (cs : List V) : pureA (.a cs) = pureL cs:=nr rfl
@[simp] theorem pureA_eI (n : Int) : pureA (eI n) = true:=nr rfl
@[simp] theorem pureA_eU32 (n : BitVec 32) : pureA (eU32 n) = true:=nr rfl
@[simp] theorem pureA_eSl {α : Type} (sz : Nat) (f : α → List V) (l : List α) : pureA (eSl sz f l) = true:=nr rfl
@[simp] theorem pureL_nil' : pureL [] = true:=nr rfl
@[simp] theorem pureL_eI (n : Int) (l : List V) : pureL (eI n :: l) = pureL l:=nr rfl
@[simp] theorem pureL_eU64 (n : BitVec 64) (l : List V) : pureL (eU64 n :: l) = pureL l:=nr rfl
@[simp] theorem pureL_eSl {α : Type} (sz : Nat) (f : α → List V) (m : List α) (l : List V) : pureL (eSl sz f m :: l) = pureL l:=nr rfl
@[simp] theorem lowV_eI (nb : Nat) (kt : List Nat) (n : Int) : lowV nb kt (eI n) = true:=by simp [lowV,eI]
@[simp] theorem lowV_eU32 (nb : Nat) (kt : List Nat) (n : BitVec 32) : lowV nb kt (eU32 n) = true:=by simp [lowV,eU32]
@[simp] theorem lowV_eU64 (nb : Nat) (kt : List Nat) (n : BitVec 64) : lowV nb kt (eU64 n) = true:=by simp [lowV,eU64]
@[simp] theorem lowV_b (nb : Nat) (kt : List Nat) (x : Bool) : lowV nb kt (.b x) = true:=by simp [lowV]
@[simp] theorem lowV_p (nb b o : Nat) (kt : List Nat) : lowV nb kt (.p b o) = decide (b + 1 ≤ nb):=by simp [lowV]
@[simp] theorem lowV_eSl {α : Type} (nb sz : Nat) (kt : List Nat) (f : α → List V) (l : List α) : lowV nb kt (eSl sz f l) = true:=by simp [lowV,eSl]
@[simp] theorem lowV_eTk {α : Type} (nb k e sz : Nat) (kt : List Nat) (f : α → List V) (l : List α) : lowV nb kt (eTk k e sz f l) = inL kt k:=by simp [lowV,eTk]
theorem lowL_pure (nb : Nat) (kt : List Nat) : ∀ (l : List V),pureL l = true → lowL nb kt l = true
  | [],_ => by simp [lowL]
  | v :: vs,h => by
    simp only [pureL,Bool.and_eq_true] at h
    have ih:=lowL_pure nb kt vs h.2
    have hv:=h.1
    cases v with
    | fz m n s c => cases m <;> first | (simp [lowL,lowV,ih]; done) | (simp [pureV] at hv)
    | _ => first | (simp [lowL,lowV,ih]; done) | (simp [pureV] at hv)
@[simp] theorem lowL_lay {α : Type} {sz : Nat} {f : α → List V} [L : LayC sz f] (nb : Nat) (kt : List Nat) (x : α) : lowL nb kt (f x) = true:=lowL_pure nb kt _ (lay_pure x)
@[simp] theorem fzR_t (lo : Nat) (qs : List Nat) (vs : List V) : fzR h lo qs (.t vs) = (fzZ h lo qs vs).map V.t:=by
  simp only [fzR]; cases fzZ h lo qs vs <;> rfl
@[simp] theorem fzZ_nil (lo : Nat) (qs : List Nat) : fzZ h lo qs [] = some []:=by cases qs <;> rfl
@[simp] theorem fzZ_cons (lo : Nat) (qs : List Nat) (v : V) (vs : List V) : fzZ h lo qs (v :: vs) = (fzV h lo 4 (hdQ qs) v).bind fun w => (fzZ h lo (tlQ qs) vs).map fun ws => w :: ws:=by
  have e : fzZ h lo qs (v :: vs) = match fzV h lo 4 (hdQ qs) v with
    | none => none
    | some w => match fzZ h lo (tlQ qs) vs with
      | none => none
      | some ws => some (w :: ws):=by cases qs <;> rfl
  rw [e]
  cases fzV h lo 4 (hdQ qs) v with
  | none => rfl
  | some w => simp only [Option.bind_some]; cases fzZ h lo (tlQ qs) vs <;> rfl
attribute [simp] hdQ tlQ
section
variable (lo n q : Nat) (qs : List Nat)
@[simp] theorem fzV_eI (x : Int) : fzV h lo (n + 1) q (eI x) = some (eI x):=nr rfl
@[simp] theorem fzV_eU32 (x : BitVec 32) : fzV h lo (n + 1) q (eU32 x) = some (eU32 x):=nr rfl
@[simp] theorem fzV_b (x : Bool) : fzV h lo (n + 1) q (.b x) = some (.b x):=nr rfl
@[simp] theorem fzV_eSl {α : Type} (sz : Nat) (f : α → List V) (l : List α) : fzV h lo (n + 1) q (eSl sz f l) = some (eSl sz f l):=nr rfl
@[simp] theorem fzV_eTk {α : Type} (k e sz : Nat) (f : α → List V) (l : List α) : fzV h lo (n + 1) q (eTk k e sz f l) = some (eSl sz f l):=nr rfl
theorem fzV_a {cs : List V} (hp : pureL cs = true) : fzV h lo (n + 1) q (.a cs) = some (.a cs):=by simp only [fzV,hp,cond_true]
@[simp] theorem fzV_lay {α : Type} {sz : Nat} {f : α → List V} [L : LayC sz f] (x : α) : fzV h lo (n + 1) q (.a (f x)) = some (.a (f x)):=fzV_a lo n q (lay_pure x)
@[simp] theorem fzR_eI (x : Int) : fzR h lo qs (eI x) = some (eI x):=nr rfl
@[simp] theorem fzR_eU32 (x : BitVec 32) : fzR h lo qs (eU32 x) = some (eU32 x):=nr rfl
@[simp] theorem fzR_b (x : Bool) : fzR h lo qs (.b x) = some (.b x):=nr rfl
@[simp] theorem fzR_eSx {α : Type} (sz : Nat) (f : α → List V) (l : List α) : fzR h lo qs (eSx sz f l) = some (eSl sz f l):=nr rfl
@[simp] theorem fzR_eTk {α : Type} (k e sz : Nat) (f : α → List V) (l : List α) : fzR h lo qs (eTk k e sz f l) = some (eSl sz f l):=nr rfl
@[simp] theorem fzR_lay {α : Type} {sz : Nat} {f : α → List V} [L : LayC sz f] (x : α) : fzR h lo qs (.a (f x)) = some (.a (f x)):=fzV_a lo 3 (hdQ qs) (lay_pure x)
end
end
end Go.Ev
namespace Go.Ev
noncomputable section
variable {call : Call} {lf : Nat}
def LF : Nat:=18446744073709551616
def loopN {σ ρ : Type} (step : σ → Option (σ ⊕ ρ)) : Nat → σ → Option ρ
  | 0,_ => none
  | n + 1,s => match step s with
    | none => none
    | some (.inl s) => loopN step n s
    | some (.inr r) => some r
def loopE (call : Call) (lf : Nat) (ki kr ke : List Nat) (nb : Nat) (kt : List Nat) (a : K) (env : Env) (h : H) : Option (X × Env × H):=iter (evK call lf (.fin ki ki kr ke nb kt a)) lf env h
theorem keepE_get {nb : Nat} {kt : List Nat} {env : Env} : ∀ (ts : List Nat) (acc env' : Env),keepE nb kt env ts acc = some env' → ∀ t,t ∈ ts → (env'.get t = env.get t ∨ (env.get t = none ∧ env'.get t = acc.get t)):=by
  intro ts
  induction ts with
  | nil => intro acc env' _ t ht; cases ht
  | cons x ts ih =>
    intro acc env' h t ht
    rw [keepE_cons] at h
    cases hx : env.get x with
    | none =>
      rw [hx] at h
      simp only [keepEv] at h
      by_cases hm : t ∈ ts
      · exact ih acc env' h t hm
      · have e : t = x:=by rcases List.mem_cons.1 ht with e | e; exact e; exact (hm e).elim
        subst e
        refine .inr ⟨hx,?_⟩
        have : ∀ (ts : List Nat) (acc env' : Env),keepE nb kt env ts acc = some env' → t ∉ ts → env'.get t = acc.get t:=by
          intro ts
          induction ts with
          | nil => intro acc env' h _; cases h; rfl
          | cons y ts ih2 =>
            intro acc env' h hn
            rw [keepE_cons] at h
            simp only [List.mem_cons,not_or] at hn
            cases hy : env.get y with
            | none => rw [hy] at h; exact ih2 _ _ h hn.2
            | some v =>
              rw [hy] at h
              simp only [keepEv,cond_eq_ite] at h
              split at h
              · rw [ih2 _ _ h hn.2,T.get_set,if_neg hn.1]
              · cases h
        exact this ts acc env' h hm
    | some v =>
      rw [hx] at h
      simp only [keepEv,cond_eq_ite] at h
      split at h
      · by_cases hm : t ∈ ts
        · rcases ih _ env' h t hm with h1 | ⟨h1,h2⟩
          · exact .inl h1
          · rw [T.get_set] at h2
            split at h2
            · rename_i e; subst e; rw [hx] at h1; cases h1
            · exact .inr ⟨h1,h2⟩
        · have e : t = x:=by rcases List.mem_cons.1 ht with e | e; exact e; exact (hm e).elim
          subst e
          have : ∀ (ts : List Nat) (acc env' : Env),keepE nb kt env ts acc = some env' → t ∉ ts → env'.get t = acc.get t:=by
            intro ts
            induction ts with
            | nil => intro acc env' h _; cases h; rfl
            | cons y ts ih2 =>
              intro acc env' h hn
              rw [keepE_cons] at h
              simp only [List.mem_cons,not_or] at hn
              cases hy : env.get y with
              | none => rw [hy] at h; exact ih2 _ _ h hn.2
              | some v =>
                rw [hy] at h
                simp only [keepEv,cond_eq_ite] at h
                split at h
                · rw [ih2 _ _ h hn.2,T.get_set,if_neg hn.1]
                · cases h
          refine .inl ?_
          rw [this ts _ env' h hm,T.get_set,if_pos rfl,hx]
      · cases h
theorem keepE_congr {nb : Nat} {kt : List Nat} {e1 e2 : Env} : ∀ (ts : List Nat) (acc : Env),(∀ t,t ∈ ts → e1.get t = e2.get t) → keepE nb kt e1 ts acc = keepE nb kt e2 ts acc:=by
  intro ts
  induction ts with
  | nil => intros; rfl
  | cons x ts ih =>
    intro acc h
    rw [keepE_cons,keepE_cons,h x (by simp)]
    have:=fun acc => ih acc (fun t ht => h t (List.mem_cons_of_mem _ ht))
    cases e2.get x with
    | none => simp only [keepEv]; exact this acc
    | some v => simp only [keepEv]; rw [this]
theorem keepB_get {nb : Nat} {kt : List Nat} {bl : T Blk} : ∀ (n i : Nat) (acc bl' : T Blk),keepB nb kt bl n i acc = some bl' → ∀ b,bl'.get b = if i ≤ b ∧ b < i + n then (match bl.get b with
    | some k => some k
    | none => acc.get b) else acc.get b:=by
  intro n
  induction n with
  | zero => intro i acc bl' h b; cases h; rw [if_neg (by omega)]
  | succ n ih =>
    intro i acc bl' h b
    rw [keepB_succ] at h
    cases hx : bl.get i with
    | none =>
      rw [hx] at h
      rw [ih _ _ _ h b]
      by_cases hb : b = i
      · subst hb; rw [if_neg (by omega),if_pos (by omega),hx]
      · by_cases h1 : i ≤ b ∧ b < i + (n + 1)
        · rw [if_pos h1,if_pos (by omega)]
        · rw [if_neg h1,if_neg (by omega)]
    | some k =>
      rw [hx] at h
      simp only [keepBv,cond_eq_ite] at h
      split at h
      · rw [ih _ _ _ h b]
        by_cases hb : b = i
        · subst hb; rw [if_neg (by omega),if_pos (by omega),hx,T.get_set,if_pos rfl]
        · by_cases h1 : i ≤ b ∧ b < i + (n + 1)
          · rw [if_pos h1,if_pos (by omega)]
            cases bl.get b with
            | none => simp only []; rw [T.get_set,if_neg hb]
            | some q => rfl
          · rw [if_neg h1,if_neg (by omega),T.get_set,if_neg hb]
      · cases h
theorem keepB_congr {nb : Nat} {kt : List Nat} {b1 b2 : T Blk} : ∀ (n i : Nat) (acc : T Blk),(∀ b,i ≤ b → b < i + n → b1.get b = b2.get b) → keepB nb kt b1 n i acc = keepB nb kt b2 n i acc:=by
  intro n
  induction n with
  | zero => intros; rfl
  | succ n ih =>
    intro i acc h
    rw [keepB_succ,keepB_succ,h i (Nat.le_refl _) (by omega)]
    have:=fun acc => ih (i + 1) acc (fun b h1 h2 => h b (by omega) (by omega))
    cases b2.get i with
    | none => simp only [keepBv]; exact this acc
    | some k => simp only [keepBv]; rw [this]
theorem keepT_congr {t1 t2 : T (Nat × Nat × Nat)} : ∀ (kt : List Nat) (acc : T (Nat × Nat × Nat)),(∀ k,k ∈ kt → t1.get k = t2.get k) → keepT t1 kt acc = keepT t2 kt acc:=by
  intro kt
  induction kt with
  | nil => intros; rfl
  | cons x kt ih =>
    intro acc h
    rw [keepT_cons,keepT_cons,h x (by simp)]
    have:=fun acc => ih acc (fun k hk => h k (List.mem_cons_of_mem _ hk))
    cases t2.get x with
    | none => simp only [keepTv]; exact this acc
    | some r => simp only [keepTv]; exact this _
theorem inL_mem {kt : List Nat} {k : Nat} (h : k ∈ kt) : inL kt k = true:=by
  unfold inL
  rw [List.any_eq_true]
  exact ⟨k,h,by rw [Nat.beq_eq]⟩
theorem rst_twice {keep : List Nat} {nb : Nat} {kt : List Nat} {env env' : Env} {h h' : H} (hr : rst keep nb kt env h = some (env',h')) : rst keep nb kt env' h' = some (env',h'):=by
  unfold rst at hr
  split at hr
  · cases hr
  rename_i e1 he
  split at hr
  · cases hr
  rename_i b1 hb
  cases hr
  have h1 : keepE nb kt env' keep .e = some env':=by
    rw [← he]
    refine keepE_congr keep .e fun t ht => ?_
    rcases keepE_get keep .e env' he t ht with h | ⟨h,h'⟩
    · exact h
    · rw [h,h']; rfl
  have h2 : keepB nb kt b1 nb 0 .e = some b1:=by
    rw [← hb]
    refine keepB_congr nb 0 .e fun b h1 h2 => ?_
    rw [keepB_get nb 0 .e b1 hb b,if_pos ⟨h1,h2⟩]
    cases h.bl.get b <;> rfl
  have h3 : keepT (keepT h.tk kt .e) kt .e = keepT h.tk kt .e:=by
    refine keepT_congr kt .e fun k hk => ?_
    rw [keepT_e,if_pos (inL_mem hk)]
  unfold rst
  simp only [h1,h2,h3]
theorem keys_keepT (tk : T (Nat × Nat × Nat)) (p : Nat → Bool) : ∀ (kt : List Nat) (acc : T (Nat × Nat × Nat)),(∀ k,k ∈ kt → p k = true) → acc.keys p = true → (keepT tk kt acc).keys p = true:=by
  intro kt
  induction kt with
  | nil => intro acc _ h; exact h
  | cons x kt ih =>
    intro acc h ha
    rw [keepT_cons]
    cases tk.get x with
    | none => exact ih acc (fun k hk => h k (List.mem_cons_of_mem _ hk)) ha
    | some r => exact ih _ (fun k hk => h k (List.mem_cons_of_mem _ hk)) (keys_set r acc x p (h x (by simp)) ha)
theorem evK_fin_rst {ki ko kr ke : List Nat} {nb : Nat} {kt : List Nat} {a : K} {env env' : Env} {h h' : H} (hg : (Nat.ble h.nb nb && h.tk.keys (inL kt)) = true) (hr : rst ki nb kt env h = some (env',h')) :
    evK call lf (.fin ki ko kr ke nb kt a) env h = evK call lf (.fin ki ko kr ke nb kt a) env' h':=by
  have h2:=rst_twice hr
  have hg' : (Nat.ble h'.nb nb && h'.tk.keys (inL kt)) = true:=by
    unfold rst at hr
    split at hr
    · cases hr
    split at hr
    · cases hr
    cases hr
    rw [Bool.and_eq_true]
    exact ⟨by rw [Nat.ble_eq]; exact Nat.le_refl _,keys_keepT _ _ kt .e (fun k hk => inL_mem hk) rfl⟩
  rw [evK_fin,evK_fin,hg,hg',h2,hr]
@[simp] theorem evK_loop_fin (ki kr ke : List Nat) (nb : Nat) (kt : List Nat) (a : K) (env : Env) (h : H) : evK call (lf + 1) (.loop (.fin ki ki kr ke nb kt a)) env h =
    cond (Nat.ble h.nb nb && h.tk.keys (inL kt)) ((rst ki nb kt env h).bind fun s => loopE call (lf + 1) ki kr ke nb kt a s.1 s.2) none:=by
  rw [evK_loop]
  cases hg : Nat.ble h.nb nb && h.tk.keys (inL kt) with
  | false => simp only [iter,evK_fin,hg,cond_false]
  | true =>
    simp only [cond_true]
    cases hr : rst ki nb kt env h with
    | none => simp only [iter,evK_fin,hg,cond_true,hr,Option.bind_none]
    | some s =>
      simp only [Option.bind_some,loopE]
      obtain ⟨env',h'⟩:=s
      simp only [iter]
      rw [evK_fin_rst (call:=call) (lf:=lf + 1) (ko:=ki) (kr:=kr) (ke:=ke) (a:=a) hg hr]
@[simp] theorem evK_loop_LF (ki kr ke : List Nat) (nb : Nat) (kt : List Nat) (a : K) (env : Env) (h : H) : evK call LF (.loop (.fin ki ki kr ke nb kt a)) env h =
    cond (Nat.ble h.nb nb && h.tk.keys (inL kt)) ((rst ki nb kt env h).bind fun s => loopE call LF ki kr ke nb kt a s.1 s.2) none:=by
  have e : LF = (LF - 1) + 1:=by unfold LF; rfl
  rw [e]; exact evK_loop_fin ..
theorem loop_rule {σ ρ : Type} {ki kr ke : List Nat} {nb : Nat} {kt : List Nat} {a : K} {E : σ → Env} {B : σ → H} {step : σ → Option (σ ⊕ ρ)} {out : ρ → X × Env × H} (ho : ∀ r,(out r).1 ≠ .nrm)
    (hb : ∀ s,finE call lf ki kr ke nb kt a (E s) (B s) = (step s).map (Sum.elim (fun s => (X.nrm,E s,B s)) out))
    (hr : ∀ s,(Nat.ble (B s).nb nb && (B s).tk.keys (inL kt)) = true ∧ rst ki nb kt (E s) (B s) = some (E s,B s)) (s : σ) :
    loopE call lf ki kr ke nb kt a (E s) (B s) = (loopN step lf s).map out:=by
  unfold loopE
  have : ∀ (n : Nat) (s : σ),iter (evK call lf (.fin ki ki kr ke nb kt a)) n (E s) (B s) = (loopN step n s).map out:=by
    intro n
    induction n with
    | zero => intro s; rfl
    | succ n ih =>
      intro s
      have e : evK call lf (.fin ki ki kr ke nb kt a) (E s) (B s) = (step s).map (Sum.elim (fun s => (X.nrm,E s,B s)) out):=by
        rw [evK_fin,(hr s).1,(hr s).2]
        exact hb s
      simp only [iter,loopN,e]
      cases step s with
      | none => rfl
      | some x =>
        cases x with
        | inl s' => exact ih s'
        | inr r =>
          show (match (out r).1 with | .nrm => _ | _ => some (out r)) = some (out r)
          have:=ho r
          cases hx : (out r).1 with
          | nrm => exact (this hx).elim
          | ret => rfl
          | exit i => rfl
  exact this lf s
theorem T.setF_self {α : Type} (x : α) : ∀ (f : Nat) (t : T α) (k : Nat),t.get k = some x → T.setF x f t k = t:=by
  intro f
  induction f with
  | zero => intros; rfl
  | succ f ih =>
    intro t k h
    cases t with
    | e => cases h
    | n l v r =>
      rw [T.setF_n]
      rw [T.get_n] at h
      split
      · rename_i hk; rw [if_pos hk] at h; rw [h]
      · rename_i hk
        rw [if_neg hk] at h
        split
        · rename_i h1; rw [if_pos h1] at h; rw [ih _ _ h]
        · rename_i h1; rw [if_neg h1] at h; rw [ih _ _ h]
theorem T.set_self {α : Type} {t : T α} {k : Nat} {x : α} (h : t.get k = some x) : t.set k x = t:=T.setF_self x (k + 1) t k h
def gx (call : Call) (d : Option Nat) (op : C) (os : List CO) (h : H) (b : Bool) (env : Env) : Option (Env × H):=cond b (opsK call d os env (evC call op env h)) (evOps call os (putE env d .u) h)
@[simp] theorem gx_true (d : Option Nat) (op : C) (os : List CO) (env : Env) (h : H) : gx call d op os h true env = opsK call d os env (evC call op env h):=nr rfl
@[simp] theorem gx_false (d : Option Nat) (op : C) (os : List CO) (env : Env) (h : H) : gx call d op os h false env = evOps call os (putE env d .u) h:=nr rfl
def gq (call : Call) (d : Option Nat) (op : C) (g : Nat) (b : Bool) (os : List CO) (env : Env) (h : H) (v : Option V) : Option (Env × H):=match v with
  | some (.b x) => cond x (gx call d op os h b (env.set g (.b true))) (gx call d op os h (!b) (env.set g (.b false)))
  | some .u => evOps call os (putE env d .u) h
  | _ => none
@[simp] theorem gq_b (d : Option Nat) (op : C) (g : Nat) (b : Bool) (os : List CO) (env : Env) (h : H) (x : Bool) : gq call d op g b os env h (some (.b x)) = cond x (gx call d op os h b (env.set g (.b true))) (gx call d op os h (!b) (env.set g (.b false))):=nr rfl
@[simp high] theorem gq_true (d : Option Nat) (op : C) (g : Nat) (b : Bool) (os : List CO) (env : Env) (h : H) : gq call d op g b os env h (some (.b true)) = gx call d op os h b (env.set g (.b true)):=nr rfl
@[simp high] theorem gq_false (d : Option Nat) (op : C) (g : Nat) (b : Bool) (os : List CO) (env : Env) (h : H) : gq call d op g b os env h (some (.b false)) = gx call d op os h (!b) (env.set g (.b false)):=nr rfl
@[simp] theorem gq_u (d : Option Nat) (op : C) (g : Nat) (b : Bool) (os : List CO) (env : Env) (h : H) : gq call d op g b os env h (some .u) = evOps call os (putE env d .u) h:=nr rfl
@[simp] theorem evOps_gq (d : Option Nat) (op : C) (g : Nat) (b : Bool) (os : List CO) (env : Env) (h : H) : evOps call (⟨d,op,some (g,b)⟩ :: os) env h = gq call d op g b os env h (env.get g):=by
  rw [evOps_guard]
  cases hg : env.get g with
  | none => rfl
  | some v =>
    cases v with
    | b x =>
      simp only [Option.bind_some,wantV_b,gq_b]
      cases x
      · simp only [T.set_self hg,cond_false]; cases b <;> rfl
      · simp only [T.set_self hg,cond_true]; cases b <;> rfl
    | u => rfl
    | _ => rfl
section
variable {α β γ δ : Type} (f : α → γ) (g : β → γ) (r : α ⊕ β)
end
section
variable {α β γ : Type} (r : α ⊕ β)
@[simp] theorem elim_bind {δ : Type} (f : α → Option γ) (g : β → Option γ) (k : γ → Option δ) : (Sum.elim f g r).bind k = Sum.elim (fun a => (f a).bind k) (fun b => (g b).bind k) r:=by cases r <;> rfl
@[simp] theorem elim_some (f : α → γ) (g : β → γ) : some (Sum.elim f g r) = Sum.elim (fun a => some (f a)) (fun b => some (g b)) r:=by cases r <;> rfl
end
end
end Go.Ev
namespace Go.Ev
theorem eqCells_app' (k1 k2 : List Kd) (a b c d : List V) (ha : a.length = k1.length) (hc : c.length = k1.length) : eqCells (app k1 k2) (app a b) (app c d) = (eqCells k1 a c).bind fun r => cond r (eqCells k2 b d) (some false):=by
  induction k1 generalizing a c with
  | nil =>
    cases a with
    | nil => cases c with
      | nil => simp [app,eqCells]
      | cons => simp at hc
    | cons => simp at ha
  | cons k k1 ih =>
    cases a with
    | nil => simp at ha
    | cons x a => cases c with
      | nil => simp at hc
      | cons y c =>
        simp only [List.length_cons,Nat.add_right_cancel_iff] at ha hc
        simp only [app,eqCells]
        cases eqCell k x y with
        | none => rfl
        | some r => cases r
                    · rfl
                    · simp only [cond_true]; exact ih a c ha hc
theorem eqCI (a b : Int) : eqCells [.i] (cI a) (cI b) = some (decide (a = b)):=by
  simp only [eqCells,eqCell,cI,eI,show ksame .i64 .i64 = true from rfl,cond_true,eqB_dec]
  cases decide (a = b) <;> rfl
theorem eqCU32 (a b : BitVec 32) : eqCells [.i] (cU32 a) (cU32 b) = some (decide (a = b)):=by
  have:=U32_eqB a b
  simp only [eqCells,eqCell,cU32,eU32,this,show ksame .u32 .u32 = true from rfl,cond_true]
  cases decide (a = b) <;> rfl
theorem eqCB (a b : Bool) : eqCells [.b] (cB a) (cB b) = some (a == b):=by cases a <;> cases b <;> rfl
theorem eqCAr {α : Type} [DecidableEq α] {n : Nat} {k : Kd} {f : α → List V} (hl : ∀ x,(f x).length = 1) (h : ∀ x y,eqCells [k] (f x) (f y) = some (decide (x = y))) (a b : Arr α n) : eqCells (List.replicate n k) (eAr f a) (eAr f b) = some (Arr.eqA a b):=by
  obtain ⟨l,hl1⟩:=a
  obtain ⟨m,hm1⟩:=b
  simp only [eAr,Arr.eqA]
  induction n generalizing l m with
  | zero =>
    cases l with
    | nil => cases m with
      | nil => simp [encs,eqCells]
      | cons => simp at hm1
    | cons => simp at hl1
  | succ n ih =>
    cases l with
    | nil => simp at hl1
    | cons x l => cases m with
      | nil => simp at hm1
      | cons y m =>
        simp only [List.length_cons,Nat.add_right_cancel_iff] at hl1 hm1
        have e : List.replicate (n + 1) k = app [k] (List.replicate n k):=rfl
        rw [e]
        simp only [encs]
        rw [eqCells_app' _ _ _ _ _ _ (by rw [hl]; rfl) (by rw [hl]; rfl),h]
        simp only [Option.bind_some]
        rw [ih l hl1 m hm1]
        by_cases hxy : x = y
        · subst hxy; simp
        · simp [hxy]
theorem eqCU8 (a b : BitVec 8) : eqCells [.i] (cU8 a) (cU8 b) = some (decide (a = b)):=by
  have:=U8_eqB a b
  simp only [eqCells,eqCell,cU8,eU8,this,show ksame .u8 .u8 = true from rfl,cond_true]
  cases decide (a = b) <;> rfl
theorem eqCU64 (a b : BitVec 64) : eqCells [.i] (cU64 a) (cU64 b) = some (decide (a = b)):=by
  have:=U64_eqB a b
  simp only [eqCells,eqCell,cU64,eU64,this,show ksame .u64 .u64 = true from rfl,cond_true]
  cases decide (a = b) <;> rfl
theorem eqCB2 (a b : Bool) : eqCells [.b] (cB a) (cB b) = some (decide (a = b)):=by cases a <;> cases b <;> rfl
theorem eqCArI {n : Nat} (a b : Arr Int n) : eqCells (List.replicate n .i) (eAr cI a) (eAr cI b) = some (Arr.eqA a b):=eqCAr (fun _ => rfl) eqCI a b
theorem eqCArU8 {n : Nat} (a b : Arr (BitVec 8) n) : eqCells (List.replicate n .i) (eAr cU8 a) (eAr cU8 b) = some (Arr.eqA a b):=eqCAr (fun _ => rfl) eqCU8 a b
theorem eqCArU32 {n : Nat} (a b : Arr (BitVec 32) n) : eqCells (List.replicate n .i) (eAr cU32 a) (eAr cU32 b) = some (Arr.eqA a b):=eqCAr (fun _ => rfl) eqCU32 a b
theorem eqCArB {n : Nat} (a b : Arr Bool n) : eqCells (List.replicate n .b) (eAr cB a) (eAr cB b) = some (Arr.eqA a b):=eqCAr (fun _ => rfl) eqCB2 a b
theorem cond_sf (a b : Bool) : cond a (some b) (some false) = some (a && b):=by cases a <;> rfl
noncomputable section
variable {call : Call}
def pskip (op : C) (h : H) (hs : List H) : List H:=match op with
  | .E _ => h :: hs
  | _ => hs
@[simp] theorem pskip_E (x : EC) (h : H) (hs : List H) : pskip (.E x) h hs = h :: hs:=nr rfl
@[simp] theorem pskip_P (x : PC) (h : H) (hs : List H) : pskip (.P x) h hs = hs:=nr rfl
@[simp] theorem pskip_L (x : LC) (h : H) (hs : List H) : pskip (.L x) h hs = hs:=nr rfl
def px (call : Call) (ix : Nat) (d : Option Nat) (op : C) (sk bk : Nat) (os : List PI) (h : H) (hs : List H) (b : Bool) (env : Env) : Option (Env × H):=
  cond b (evPlan call (⟨ix,⟨d,op,none⟩,sk,bk⟩ :: os) env h hs) (evPlan call os (putE env d .u) h (pskip op h hs))
@[simp] theorem px_true (ix : Nat) (d : Option Nat) (op : C) (sk bk : Nat) (os : List PI) (h : H) (hs : List H) (env : Env) : px call ix d op sk bk os h hs true env = evPlan call (⟨ix,⟨d,op,none⟩,sk,bk⟩ :: os) env h hs:=nr rfl
@[simp] theorem px_false (ix : Nat) (d : Option Nat) (op : C) (sk bk : Nat) (os : List PI) (h : H) (hs : List H) (env : Env) : px call ix d op sk bk os h hs false env = evPlan call os (putE env d .u) h (pskip op h hs):=nr rfl
def pq (call : Call) (ix : Nat) (d : Option Nat) (op : C) (g : Nat) (b : Bool) (sk bk : Nat) (os : List PI) (env : Env) (h : H) (hs : List H) (v : Option V) : Option (Env × H):=match v with
  | some (.b x) => cond x (px call ix d op sk bk os h hs b (env.set g (.b true))) (px call ix d op sk bk os h hs (!b) (env.set g (.b false)))
  | some .u => evPlan call os (putE env d .u) h (pskip op h hs)
  | _ => none
section
variable (ix : Nat) (d : Option Nat) (op : C) (g : Nat) (b : Bool) (sk bk : Nat) (os : List PI) (env : Env) (h : H) (hs : List H)
@[simp high] theorem pq_true : pq call ix d op g b sk bk os env h hs (some (.b true)) = px call ix d op sk bk os h hs b (env.set g (.b true)):=nr rfl
@[simp high] theorem pq_false : pq call ix d op g b sk bk os env h hs (some (.b false)) = px call ix d op sk bk os h hs (!b) (env.set g (.b false)):=nr rfl
@[simp] theorem pq_b (x : Bool) : pq call ix d op g b sk bk os env h hs (some (.b x)) = cond x (px call ix d op sk bk os h hs b (env.set g (.b true))) (px call ix d op sk bk os h hs (!b) (env.set g (.b false))):=nr rfl
@[simp] theorem pq_u : pq call ix d op g b sk bk os env h hs (some .u) = evPlan call os (putE env d .u) h (pskip op h hs):=nr rfl
@[simp] theorem evPlan_pq : evPlan call (⟨ix,⟨d,op,some (g,b)⟩,sk,bk⟩ :: os) env h hs = pq call ix d op g b sk bk os env h hs (env.get g):=by
  simp only [evPlan,wantG_some]
  cases hg : env.get g with
  | none => rfl
  | some v =>
    cases v with
    | b x =>
      simp only [Option.bind_some,wantV_b,pq_b]
      cases x
      · simp only [T.set_self hg,cond_false]; cases b <;> cases op <;> rfl
      · simp only [T.set_self hg,cond_true]; cases b <;> cases op <;> rfl
    | u => cases op <;> rfl
    | _ => rfl
end
end
end Go.Ev
namespace Go.Ev
noncomputable section
section
variable {call : Call} {env : Env} {h : H}
@[simp] theorem evCallT_eq (k f : Nat) (args : List O) : evCallT call k f args env h = (evs env args).bind fun vs => callTv call k f vs h:=by
  unfold evCallT; cases evs env args <;> rfl
def tkR (h : H) (k : Nat) (r : V × H) : Option (V × H):=match r.1 with
  | .fz (.tk j e) n sz cs => match r.2.tk.get j with
    | some t => bif Nat.beq t.1 e && Nat.beq t.2.1 n && Nat.beq t.2.2 sz then h.appK k (h.ep k) n sz cs else none
    | none => none
  | _ => none
theorem callTv_eq (k f : Nat) (vs : List V) : callTv call k f vs h = cond (vs.all pureA) ((call f vs ⟨0,.e,.e,.e⟩).bind (tkR h k)) none:=by
  unfold callTv
  cases vs.all pureA with
  | false => rfl
  | true =>
    simp only [cond_true]
    cases call f vs ⟨0,.e,.e,.e⟩ with
    | none => rfl
    | some r => rfl
@[simp] theorem tkR_tk {α : Type} {f : α → List V} (nb : Nat) (bl : T Blk) (gr : T (List Nat)) (tk : T (Nat × Nat × Nat)) (k j e sz : Nat) (l : List α) (h0 : tk.get j = some (e,l.length,sz)) :
    tkR h k (eTk j e sz f l,⟨nb,bl,gr,tk⟩) = some (eTk k (h.ep k) sz f l,⟨h.nb,h.bl,h.gr,h.tk.set k (h.ep k,l.length,sz)⟩):=by
  simp only [tkR,eTk,h0,Nat.beq_refl,Bool.and_self,cond_true,H.appK]
end
end
end Go.Ev
