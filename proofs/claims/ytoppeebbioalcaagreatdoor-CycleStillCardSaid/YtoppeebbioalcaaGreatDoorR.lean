/- The types of the core and their rules (printed by a program). -/
import Derived.Test.YtoppeebbioalcaaGreatDoorEvW
import Derived.Test.YtoppeebbioalcaaGreatDoorR0
set_option linter.all false
namespace Go.Ev
noncomputable section
def kA (n : Nat) (k : Kd) : List Kd:=List.replicate n k
theorem kA_len (n : Nat) (k : Kd) : (kA n k).length = n:=List.length_replicate
@[simp low] theorem takeC_lay0 {α : Type} {sz : Nat} {f : α → List V} [L : LayC sz f] {x : α} {n : Nat} (hn : n ≤ sz) : takeC (f x) n = some (takeN (f x) n):=by
  have:=takeC_lay (f:=f) (x:=x) (o:=0) (n:=n) (by omega)
  rwa [drop_zero'] at this
theorem eqKAI {n : Nat} (a b : Arr Int n) : eqCells (kA n .i) (eAr cI a) (eAr cI b) = some (Arr.eqA a b):=eqCArI a b
theorem eqKAU8 {n : Nat} (a b : Arr (BitVec 8) n) : eqCells (kA n .i) (eAr cU8 a) (eAr cU8 b) = some (Arr.eqA a b):=eqCArU8 a b
theorem eqKAU32 {n : Nat} (a b : Arr (BitVec 32) n) : eqCells (kA n .i) (eAr cU32 a) (eAr cU32 b) = some (Arr.eqA a b):=eqCArU32 a b
theorem eqKAB {n : Nat} (a b : Arr Bool n) : eqCells (kA n .b) (eAr cB a) (eAr cB b) = some (Arr.eqA a b):=eqCArB a b
@[simp] theorem GConf_Btb (x : GConf) : takeN (dropN (eConf x) 12) 1 = cI x.Btb:=gConf_12 _
@[simp] theorem NConf_Btb (x : GConf) : nth (eConf x) 12 = some (eI x.Btb):=nth_sub (GConf_Btb x)
@[simp] theorem GConf_Dep (x : GConf) : takeN (dropN (eConf x) 14) 1 = cI x.Dep:=gConf_14 _
@[simp] theorem NConf_Dep (x : GConf) : nth (eConf x) 14 = some (eI x.Dep):=nth_sub (GConf_Dep x)
@[simp] theorem GConf_DivLat (x : GConf) : takeN (dropN (eConf x) 17) 1 = cI x.DivLat:=gConf_17 _
@[simp] theorem NConf_DivLat (x : GConf) : nth (eConf x) 17 = some (eI x.DivLat):=nth_sub (GConf_DivLat x)
@[simp] theorem GConf_Fetch (x : GConf) : takeN (dropN (eConf x) 0) 1 = cI x.Fetch:=gConf_0 _
@[simp] theorem NConf_Fetch (x : GConf) : nth (eConf x) 0 = some (eI x.Fetch):=nth_sub (GConf_Fetch x)
@[simp] theorem GConf_Hist (x : GConf) : takeN (dropN (eConf x) 11) 1 = cI x.Hist:=gConf_11 _
@[simp] theorem NConf_Hist (x : GConf) : nth (eConf x) 11 = some (eI x.Hist):=nth_sub (GConf_Hist x)
@[simp] theorem GConf_Iq (x : GConf) : takeN (dropN (eConf x) 6) 1 = cI x.Iq:=gConf_6 _
@[simp] theorem NConf_Iq (x : GConf) : nth (eConf x) 6 = some (eI x.Iq):=nth_sub (GConf_Iq x)
@[simp] theorem GConf_Issue (x : GConf) : takeN (dropN (eConf x) 2) 1 = cI x.Issue:=gConf_2 _
@[simp] theorem NConf_Issue (x : GConf) : nth (eConf x) 2 = some (eI x.Issue):=nth_sub (GConf_Issue x)
@[simp] theorem GConf_Lq (x : GConf) : takeN (dropN (eConf x) 7) 1 = cI x.Lq:=gConf_7 _
@[simp] theorem NConf_Lq (x : GConf) : nth (eConf x) 7 = some (eI x.Lq):=nth_sub (GConf_Lq x)
@[simp] theorem GConf_MemLat (x : GConf) : takeN (dropN (eConf x) 18) 1 = cI x.MemLat:=gConf_18 _
@[simp] theorem NConf_MemLat (x : GConf) : nth (eConf x) 18 = some (eI x.MemLat):=nth_sub (GConf_MemLat x)
@[simp] theorem GConf_MulLat (x : GConf) : takeN (dropN (eConf x) 16) 1 = cI x.MulLat:=gConf_16 _
@[simp] theorem NConf_MulLat (x : GConf) : nth (eConf x) 16 = some (eI x.MulLat):=nth_sub (GConf_MulLat x)
@[simp] theorem GConf_Phys (x : GConf) : takeN (dropN (eConf x) 10) 1 = cI x.Phys:=gConf_10 _
@[simp] theorem NConf_Phys (x : GConf) : nth (eConf x) 10 = some (eI x.Phys):=nth_sub (GConf_Phys x)
@[simp] theorem GConf_Queue (x : GConf) : takeN (dropN (eConf x) 4) 1 = cI x.Queue:=gConf_4 _
@[simp] theorem NConf_Queue (x : GConf) : nth (eConf x) 4 = some (eI x.Queue):=nth_sub (GConf_Queue x)
@[simp] theorem GConf_Ras (x : GConf) : takeN (dropN (eConf x) 13) 1 = cI x.Ras:=gConf_13 _
@[simp] theorem NConf_Ras (x : GConf) : nth (eConf x) 13 = some (eI x.Ras):=nth_sub (GConf_Ras x)
@[simp] theorem GConf_Retire (x : GConf) : takeN (dropN (eConf x) 3) 1 = cI x.Retire:=gConf_3 _
@[simp] theorem NConf_Retire (x : GConf) : nth (eConf x) 3 = some (eI x.Retire):=nth_sub (GConf_Retire x)
@[simp] theorem GConf_Rob (x : GConf) : takeN (dropN (eConf x) 5) 1 = cI x.Rob:=gConf_5 _
@[simp] theorem NConf_Rob (x : GConf) : nth (eConf x) 5 = some (eI x.Rob):=nth_sub (GConf_Rob x)
@[simp] theorem GConf_Sb (x : GConf) : takeN (dropN (eConf x) 9) 1 = cI x.Sb:=gConf_9 _
@[simp] theorem NConf_Sb (x : GConf) : nth (eConf x) 9 = some (eI x.Sb):=nth_sub (GConf_Sb x)
@[simp] theorem GConf_Sets (x : GConf) : takeN (dropN (eConf x) 19) 1 = cI x.Sets:=gConf_19 _
@[simp] theorem NConf_Sets (x : GConf) : nth (eConf x) 19 = some (eI x.Sets):=nth_sub (GConf_Sets x)
@[simp] theorem GConf_Sq (x : GConf) : takeN (dropN (eConf x) 8) 1 = cI x.Sq:=gConf_8 _
@[simp] theorem NConf_Sq (x : GConf) : nth (eConf x) 8 = some (eI x.Sq):=nth_sub (GConf_Sq x)
@[simp] theorem GConf_Tlb (x : GConf) : takeN (dropN (eConf x) 15) 1 = cI x.Tlb:=gConf_15 _
@[simp] theorem NConf_Tlb (x : GConf) : nth (eConf x) 15 = some (eI x.Tlb):=nth_sub (GConf_Tlb x)
@[simp] theorem GConf_Ways (x : GConf) : takeN (dropN (eConf x) 20) 1 = cI x.Ways:=gConf_20 _
@[simp] theorem NConf_Ways (x : GConf) : nth (eConf x) 20 = some (eI x.Ways):=nth_sub (GConf_Ways x)
@[simp] theorem GConf_Wide (x : GConf) : takeN (dropN (eConf x) 1) 1 = cI x.Wide:=gConf_1 _
@[simp] theorem NConf_Wide (x : GConf) : nth (eConf x) 1 = some (eI x.Wide):=nth_sub (GConf_Wide x)
@[simp] theorem GArch_C (x : GArch) : takeN (dropN (eArch x) 17) 12 = (eAr cU32) x.C:=gArch_2 _
@[simp] theorem PArch_C (x : GArch) (v : Arr (BitVec 32) 12) : putN (eArch x) 17 ((eAr cU32) v) = eArch (x.setC v):=pArch_2 _ _
@[simp] theorem AArch_C (x : GArch) (k : Fin 12) : takeN (dropN (eArch x) (17 + k.val)) 1 = [eU32 (x.C.at' k)]:=by have:=sub_path (i:=k.val) (n:=1) (GArch_C x) (by have:=k.isLt; omega); rw [this]; simpa [cU32] using ar_at (f:=cU32) LayC.lay x.C k
@[simp] theorem BArch_C (x : GArch) (k : Fin 12) : nth (eArch x) (17 + k.val) = some (eU32 (x.C.at' k)):=nth_sub (AArch_C x k)
@[simp] theorem QArch_C (x : GArch) (k : Fin 12) (v : BitVec 32) : putN (eArch x) (17 + k.val) [eU32 v] = eArch (x.setC (x.C.set k v)):=put_path (GArch_C x) (put_arU32 k _ _) (PArch_C _ _) (by rw [lay_len (f:=eArch)]; decide) (by have:=k.isLt; first | (simp; done) | (simp; omega))
@[simp] theorem GArch_R (x : GArch) : takeN (dropN (eArch x) 1) 16 = (eAr cU32) x.R:=gArch_1 _
@[simp] theorem AArch_R (x : GArch) (k : Fin 16) : takeN (dropN (eArch x) (1 + k.val)) 1 = [eU32 (x.R.at' k)]:=by have:=sub_path (i:=k.val) (n:=1) (GArch_R x) (by have:=k.isLt; omega); rw [this]; simpa [cU32] using ar_at (f:=cU32) LayC.lay x.R k
@[simp] theorem BArch_R (x : GArch) (k : Fin 16) : nth (eArch x) (1 + k.val) = some (eU32 (x.R.at' k)):=nth_sub (AArch_R x k)
@[simp] theorem GPred_Btb (x : GPred) : takeN (dropN (ePred x) 2) 1 = (cSl 3 eBtb) x.Btb:=gPred_2 _
@[simp] theorem NPred_Btb (x : GPred) : nth (ePred x) 2 = some (eSl 3 eBtb x.Btb):=nth_sub (GPred_Btb x)
@[simp] theorem GPred_Hist (x : GPred) : takeN (dropN (ePred x) 0) 1 = cU32 x.Hist:=gPred_0 _
@[simp] theorem NPred_Hist (x : GPred) : nth (ePred x) 0 = some (eU32 x.Hist):=nth_sub (GPred_Hist x)
@[simp] theorem GPred_Next (x : GPred) : takeN (dropN (ePred x) 3) 1 = cI x.Next:=gPred_3 _
@[simp] theorem NPred_Next (x : GPred) : nth (ePred x) 3 = some (eI x.Next):=nth_sub (GPred_Next x)
@[simp] theorem GPred_Ras (x : GPred) : takeN (dropN (ePred x) 4) 1 = (cSl 1 cU32) x.Ras:=gPred_4 _
@[simp] theorem NPred_Ras (x : GPred) : nth (ePred x) 4 = some (eSl 1 cU32 x.Ras):=nth_sub (GPred_Ras x)
@[simp] theorem GPred_Table (x : GPred) : takeN (dropN (ePred x) 1) 1 = (cSl 1 cU8) x.Table:=gPred_1 _
@[simp] theorem NPred_Table (x : GPred) : nth (ePred x) 1 = some (eSl 1 cU8 x.Table):=nth_sub (GPred_Table x)
@[simp] theorem GPred_Top (x : GPred) : takeN (dropN (ePred x) 5) 1 = cI x.Top:=gPred_5 _
@[simp] theorem NPred_Top (x : GPred) : nth (ePred x) 5 = some (eI x.Top):=nth_sub (GPred_Top x)
@[simp] theorem GFree_Head (x : GFree) : takeN (dropN (eFree x) 1) 1 = cI x.Head:=gFree_1 _
@[simp] theorem NFree_Head (x : GFree) : nth (eFree x) 1 = some (eI x.Head):=nth_sub (GFree_Head x)
@[simp] theorem GFree_N (x : GFree) : takeN (dropN (eFree x) 2) 1 = cI x.N:=gFree_2 _
@[simp] theorem NFree_N (x : GFree) : nth (eFree x) 2 = some (eI x.N):=nth_sub (GFree_N x)
@[simp] theorem GFree_Ring (x : GFree) : takeN (dropN (eFree x) 0) 1 = (cSl 1 cI) x.Ring:=gFree_0 _
@[simp] theorem NFree_Ring (x : GFree) : nth (eFree x) 0 = some (eSl 1 cI x.Ring):=nth_sub (GFree_Ring x)
@[simp] theorem GNames_Done (x : GNames) : takeN (dropN (eNames x) 16) 16 = (eAr cI) x.Done:=gNames_1 _
@[simp] theorem ANames_Done (x : GNames) (k : Fin 16) : takeN (dropN (eNames x) (16 + k.val)) 1 = [eI (x.Done.at' k)]:=by have:=sub_path (i:=k.val) (n:=1) (GNames_Done x) (by have:=k.isLt; omega); rw [this]; simpa [cI] using ar_at (f:=cI) LayC.lay x.Done k
@[simp] theorem BNames_Done (x : GNames) (k : Fin 16) : nth (eNames x) (16 + k.val) = some (eI (x.Done.at' k)):=nth_sub (ANames_Done x k)
@[simp] theorem GNames_Free (x : GNames) : takeN (dropN (eNames x) 32) 3 = eFree x.Free:=gNames_2 _
@[simp] theorem GNames_Map (x : GNames) : takeN (dropN (eNames x) 0) 16 = (eAr cI) x.Map:=gNames_0 _
@[simp] theorem HNames_Map (x : GNames) : takeN (eNames x) 16 = (eAr cI) x.Map:=(congrArg (takeN · 16) (drop_zero' _).symm).trans (GNames_Map x)
@[simp] theorem GNames_Seq (x : GNames) : takeN (dropN (eNames x) 35) 1 = cU64 x.Seq:=gNames_3 _
@[simp] theorem NNames_Seq (x : GNames) : nth (eNames x) 35 = some (eU64 x.Seq):=nth_sub (GNames_Seq x)
@[simp] theorem GPhys_Ready (x : GPhys) : takeN (dropN (ePhys x) 1) 1 = (cSl 1 cB) x.Ready:=gPhys_1 _
@[simp] theorem NPhys_Ready (x : GPhys) : nth (ePhys x) 1 = some (eSl 1 cB x.Ready):=nth_sub (GPhys_Ready x)
@[simp] theorem GPhys_Val (x : GPhys) : takeN (dropN (ePhys x) 0) 1 = (cSl 1 cU32) x.Val:=gPhys_0 _
@[simp] theorem NPhys_Val (x : GPhys) : nth (ePhys x) 0 = some (eSl 1 cU32 x.Val):=nth_sub (GPhys_Val x)
@[simp] theorem GUop_Dst (x : GUop) : takeN (dropN (eUop x) 20) 1 = cI x.Dst:=gUop_6 _
@[simp] theorem NUop_Dst (x : GUop) : nth (eUop x) 20 = some (eI x.Dst):=nth_sub (GUop_Dst x)
@[simp] theorem GRen_Old (x : GRen) : takeN (dropN (eRen x) 28) 1 = cI x.Old:=gRen_4 _
@[simp] theorem NRen_Old (x : GRen) : nth (eRen x) 28 = some (eI x.Old):=nth_sub (GRen_Old x)
@[simp] theorem GRen_Out (x : GRen) : takeN (dropN (eRen x) 27) 1 = cI x.Out:=gRen_3 _
@[simp] theorem NRen_Out (x : GRen) : nth (eRen x) 27 = some (eI x.Out):=nth_sub (GRen_Out x)
@[simp] theorem GRen_Seq (x : GRen) : takeN (dropN (eRen x) 23) 1 = cU64 x.Seq:=gRen_1 _
@[simp] theorem NRen_Seq (x : GRen) : nth (eRen x) 23 = some (eU64 x.Seq):=nth_sub (GRen_Seq x)
@[simp] theorem GRen_Uop (x : GRen) : takeN (dropN (eRen x) 0) 23 = eUop x.Uop:=gRen_0 _
@[simp] theorem HRen_Uop (x : GRen) : takeN (eRen x) 23 = eUop x.Uop:=(congrArg (takeN · 23) (drop_zero' _).symm).trans (GRen_Uop x)
@[simp] theorem GRen_Uop_Dst (x : GRen) : takeN (dropN (eRen x) 20) 1 = cI x.Uop.Dst:=(sub_path (gRen_0 _) (by decide)).trans (gUop_6 _)
@[simp] theorem NRen_Uop_Dst (x : GRen) : nth (eRen x) 20 = some (eI x.Uop.Dst):=nth_sub (GRen_Uop_Dst x)
@[simp] theorem GRob_Cause (x : GRob) : takeN (dropN (eRob x) 32) 1 = cI x.Cause:=gRob_4 _
@[simp] theorem NRob_Cause (x : GRob) : nth (eRob x) 32 = some (eI x.Cause):=nth_sub (GRob_Cause x)
@[simp] theorem GRob_Done (x : GRob) : takeN (dropN (eRob x) 29) 1 = cB x.Done:=gRob_1 _
@[simp] theorem NRob_Done (x : GRob) : nth (eRob x) 29 = some (.b x.Done):=nth_sub (GRob_Done x)
@[simp] theorem GRob_Ren (x : GRob) : takeN (dropN (eRob x) 0) 29 = eRen x.Ren:=gRob_0 _
@[simp] theorem HRob_Ren (x : GRob) : takeN (eRob x) 29 = eRen x.Ren:=(congrArg (takeN · 29) (drop_zero' _).symm).trans (GRob_Ren x)
@[simp] theorem GRob_Ren_Out (x : GRob) : takeN (dropN (eRob x) 27) 1 = cI x.Ren.Out:=(sub_path (gRob_0 _) (by decide)).trans (gRen_3 _)
@[simp] theorem NRob_Ren_Out (x : GRob) : nth (eRob x) 27 = some (eI x.Ren.Out):=nth_sub (GRob_Ren_Out x)
@[simp] theorem GRob_Ren_Seq (x : GRob) : takeN (dropN (eRob x) 23) 1 = cU64 x.Ren.Seq:=(sub_path (gRob_0 _) (by decide)).trans (gRen_1 _)
@[simp] theorem NRob_Ren_Seq (x : GRob) : nth (eRob x) 23 = some (eU64 x.Ren.Seq):=nth_sub (GRob_Ren_Seq x)
@[simp] theorem GRob_Ren_Uop_Last (x : GRob) : takeN (dropN (eRob x) 16) 1 = cB x.Ren.Uop.Last:=(sub_path (gRob_0 _) (by decide)).trans ((sub_path (gRen_0 _) (by decide)).trans (gUop_4 _))
@[simp] theorem NRob_Ren_Uop_Last (x : GRob) : nth (eRob x) 16 = some (.b x.Ren.Uop.Last):=nth_sub (GRob_Ren_Uop_Last x)
@[simp] theorem GRob_Ren_Uop_Part (x : GRob) : takeN (dropN (eRob x) 15) 1 = cI x.Ren.Uop.Part:=(sub_path (gRob_0 _) (by decide)).trans ((sub_path (gRen_0 _) (by decide)).trans (gUop_3 _))
@[simp] theorem NRob_Ren_Uop_Part (x : GRob) : nth (eRob x) 15 = some (eI x.Ren.Uop.Part):=nth_sub (GRob_Ren_Uop_Part x)
@[simp] theorem GRob_Ren_Uop_Unit (x : GRob) : takeN (dropN (eRob x) 14) 1 = cI x.Ren.Uop.Unit:=(sub_path (gRob_0 _) (by decide)).trans ((sub_path (gRen_0 _) (by decide)).trans (gUop_2 _))
@[simp] theorem NRob_Ren_Uop_Unit (x : GRob) : nth (eRob x) 14 = some (eI x.Ren.Uop.Unit):=nth_sub (GRob_Ren_Uop_Unit x)
@[simp] theorem GRob_Val (x : GRob) : takeN (dropN (eRob x) 30) 1 = cU32 x.Val:=gRob_2 _
@[simp] theorem NRob_Val (x : GRob) : nth (eRob x) 30 = some (eU32 x.Val):=nth_sub (GRob_Val x)
@[simp] theorem GIq_Ren (x : GIq) : takeN (dropN (eIq x) 0) 29 = eRen x.Ren:=gIq_0 _
@[simp] theorem HIq_Ren (x : GIq) : takeN (eIq x) 29 = eRen x.Ren:=(congrArg (takeN · 29) (drop_zero' _).symm).trans (GIq_Ren x)
@[simp] theorem GIq_Ren_Seq (x : GIq) : takeN (dropN (eIq x) 23) 1 = cU64 x.Ren.Seq:=(sub_path (gIq_0 _) (by decide)).trans (gRen_1 _)
@[simp] theorem NIq_Ren_Seq (x : GIq) : nth (eIq x) 23 = some (eU64 x.Ren.Seq):=nth_sub (GIq_Ren_Seq x)
@[simp] theorem GLq_Seq (x : GLq) : takeN (dropN (eLq x) 0) 1 = cU64 x.Seq:=gLq_0 _
@[simp] theorem NLq_Seq (x : GLq) : nth (eLq x) 0 = some (eU64 x.Seq):=nth_sub (GLq_Seq x)
@[simp] theorem GSq_Seq (x : GSq) : takeN (dropN (eSq x) 0) 1 = cU64 x.Seq:=gSq_0 _
@[simp] theorem NSq_Seq (x : GSq) : nth (eSq x) 0 = some (eU64 x.Seq):=nth_sub (GSq_Seq x)
@[simp] theorem GFlight_Left (x : GFlight) : takeN (dropN (eFlight x) 30) 1 = cI x.Left:=gFlight_2 _
@[simp] theorem NFlight_Left (x : GFlight) : nth (eFlight x) 30 = some (eI x.Left):=nth_sub (GFlight_Left x)
@[simp] theorem PFlight_Left (x : GFlight) (v : Int) : putN (eFlight x) 30 [eI v] = eFlight (x.setLeft v):=pFlight_2 _ _
@[simp] theorem GFlight_Ren (x : GFlight) : takeN (dropN (eFlight x) 0) 29 = eRen x.Ren:=gFlight_0 _
@[simp] theorem HFlight_Ren (x : GFlight) : takeN (eFlight x) 29 = eRen x.Ren:=(congrArg (takeN · 29) (drop_zero' _).symm).trans (GFlight_Ren x)
@[simp] theorem GFlight_Ren_Seq (x : GFlight) : takeN (dropN (eFlight x) 23) 1 = cU64 x.Ren.Seq:=(sub_path (gFlight_0 _) (by decide)).trans (gRen_1 _)
@[simp] theorem NFlight_Ren_Seq (x : GFlight) : nth (eFlight x) 23 = some (eU64 x.Ren.Seq):=nth_sub (GFlight_Ren_Seq x)
@[simp] theorem GCore_A (x : GCore) : takeN (dropN (eCore x) 22) 30 = eArch x.A:=gCore_1 _
@[simp] theorem PCore_A (x : GCore) (v : GArch) : putN (eCore x) 22 (eArch v) = eCore (x.setA v):=pCore_1 _ _
@[simp] theorem GCore_A_R (x : GCore) : takeN (dropN (eCore x) 23) 16 = (eAr cU32) x.A.R:=(sub_path (gCore_1 _) (by decide)).trans (gArch_1 _)
@[simp] theorem GCore_Conf (x : GCore) : takeN (dropN (eCore x) 0) 22 = eConf x.Conf:=gCore_0 _
@[simp] theorem HCore_Conf (x : GCore) : takeN (eCore x) 22 = eConf x.Conf:=(congrArg (takeN · 22) (drop_zero' _).symm).trans (GCore_Conf x)
@[simp] theorem GCore_Conf_Phys (x : GCore) : takeN (dropN (eCore x) 10) 1 = cI x.Conf.Phys:=(sub_path (gCore_0 _) (by decide)).trans (gConf_10 _)
@[simp] theorem NCore_Conf_Phys (x : GCore) : nth (eCore x) 10 = some (eI x.Conf.Phys):=nth_sub (GCore_Conf_Phys x)
@[simp] theorem GCore_Cycle (x : GCore) : takeN (dropN (eCore x) 111) 1 = cI x.Cycle:=gCore_20 _
@[simp] theorem NCore_Cycle (x : GCore) : nth (eCore x) 111 = some (eI x.Cycle):=nth_sub (GCore_Cycle x)
@[simp] theorem PCore_Cycle (x : GCore) (v : Int) : putN (eCore x) 111 [eI v] = eCore (x.setCycle v):=pCore_20 _ _
@[simp] theorem GCore_Dep (x : GCore) : takeN (dropN (eCore x) 109) 1 = (cSl 1 cU8) x.Dep:=gCore_18 _
@[simp] theorem NCore_Dep (x : GCore) : nth (eCore x) 109 = some (eSl 1 cU8 x.Dep):=nth_sub (GCore_Dep x)
@[simp] theorem GCore_Hold (x : GCore) : takeN (dropN (eCore x) 55) 1 = cB x.Hold:=gCore_5 _
@[simp] theorem NCore_Hold (x : GCore) : nth (eCore x) 55 = some (.b x.Hold):=nth_sub (GCore_Hold x)
@[simp] theorem GCore_Iq (x : GCore) : takeN (dropN (eCore x) 104) 1 = (cSl 32 eIq) x.Iq:=gCore_13 _
@[simp] theorem NCore_Iq (x : GCore) : nth (eCore x) 104 = some (eSl 32 eIq x.Iq):=nth_sub (GCore_Iq x)
@[simp] theorem GCore_Lq (x : GCore) : takeN (dropN (eCore x) 105) 1 = (cSl 8 eLq) x.Lq:=gCore_14 _
@[simp] theorem NCore_Lq (x : GCore) : nth (eCore x) 105 = some (eSl 8 eLq x.Lq):=nth_sub (GCore_Lq x)
@[simp] theorem GCore_Names (x : GCore) : takeN (dropN (eCore x) 65) 36 = eNames x.Names:=gCore_10 _
@[simp] theorem GCore_Names_Done (x : GCore) : takeN (dropN (eCore x) 81) 16 = (eAr cI) x.Names.Done:=(sub_path (gCore_10 _) (by decide)).trans (gNames_1 _)
@[simp] theorem GCore_Names_Free_Ring (x : GCore) : takeN (dropN (eCore x) 97) 1 = (cSl 1 cI) x.Names.Free.Ring:=(sub_path (gCore_10 _) (by decide)).trans ((sub_path (gNames_2 _) (by decide)).trans (gFree_0 _))
@[simp] theorem NCore_Names_Free_Ring (x : GCore) : nth (eCore x) 97 = some (eSl 1 cI x.Names.Free.Ring):=nth_sub (GCore_Names_Free_Ring x)
@[simp] theorem GCore_Names_Seq (x : GCore) : takeN (dropN (eCore x) 100) 1 = cU64 x.Names.Seq:=(sub_path (gCore_10 _) (by decide)).trans (gNames_3 _)
@[simp] theorem NCore_Names_Seq (x : GCore) : nth (eCore x) 100 = some (eU64 x.Names.Seq):=nth_sub (GCore_Names_Seq x)
@[simp] theorem GCore_Out (x : GCore) : takeN (dropN (eCore x) 53) 1 = (cSl 1 cU32) x.Out:=gCore_3 _
@[simp] theorem NCore_Out (x : GCore) : nth (eCore x) 53 = some (eSl 1 cU32 x.Out):=nth_sub (GCore_Out x)
@[simp] theorem GCore_PC (x : GCore) : takeN (dropN (eCore x) 54) 1 = cU32 x.PC:=gCore_4 _
@[simp] theorem NCore_PC (x : GCore) : nth (eCore x) 54 = some (eU32 x.PC):=nth_sub (GCore_PC x)
@[simp] theorem GCore_Phys (x : GCore) : takeN (dropN (eCore x) 101) 2 = ePhys x.Phys:=gCore_11 _
@[simp] theorem GCore_Phys_Ready (x : GCore) : takeN (dropN (eCore x) 102) 1 = (cSl 1 cB) x.Phys.Ready:=(sub_path (gCore_11 _) (by decide)).trans (gPhys_1 _)
@[simp] theorem NCore_Phys_Ready (x : GCore) : nth (eCore x) 102 = some (eSl 1 cB x.Phys.Ready):=nth_sub (GCore_Phys_Ready x)
@[simp] theorem GCore_Phys_Val (x : GCore) : takeN (dropN (eCore x) 101) 1 = (cSl 1 cU32) x.Phys.Val:=(sub_path (gCore_11 _) (by decide)).trans (gPhys_0 _)
@[simp] theorem NCore_Phys_Val (x : GCore) : nth (eCore x) 101 = some (eSl 1 cU32 x.Phys.Val):=nth_sub (GCore_Phys_Val x)
@[simp] theorem GCore_Pred (x : GCore) : takeN (dropN (eCore x) 56) 6 = ePred x.Pred:=gCore_6 _
@[simp] theorem GCore_Pred_Btb (x : GCore) : takeN (dropN (eCore x) 58) 1 = (cSl 3 eBtb) x.Pred.Btb:=(sub_path (gCore_6 _) (by decide)).trans (gPred_2 _)
@[simp] theorem NCore_Pred_Btb (x : GCore) : nth (eCore x) 58 = some (eSl 3 eBtb x.Pred.Btb):=nth_sub (GCore_Pred_Btb x)
@[simp] theorem GCore_Pred_Ras (x : GCore) : takeN (dropN (eCore x) 60) 1 = (cSl 1 cU32) x.Pred.Ras:=(sub_path (gCore_6 _) (by decide)).trans (gPred_4 _)
@[simp] theorem NCore_Pred_Ras (x : GCore) : nth (eCore x) 60 = some (eSl 1 cU32 x.Pred.Ras):=nth_sub (GCore_Pred_Ras x)
@[simp] theorem GCore_Pred_Table (x : GCore) : takeN (dropN (eCore x) 57) 1 = (cSl 1 cU8) x.Pred.Table:=(sub_path (gCore_6 _) (by decide)).trans (gPred_1 _)
@[simp] theorem NCore_Pred_Table (x : GCore) : nth (eCore x) 57 = some (eSl 1 cU8 x.Pred.Table):=nth_sub (GCore_Pred_Table x)
@[simp] theorem GCore_Queue (x : GCore) : takeN (dropN (eCore x) 64) 1 = (cSl 9 eSlot) x.Queue:=gCore_9 _
@[simp] theorem NCore_Queue (x : GCore) : nth (eCore x) 64 = some (eSl 9 eSlot x.Queue):=nth_sub (GCore_Queue x)
@[simp] theorem GCore_Rob (x : GCore) : takeN (dropN (eCore x) 103) 1 = (cSl 35 eRob) x.Rob:=gCore_12 _
@[simp] theorem NCore_Rob (x : GCore) : nth (eCore x) 103 = some (eSl 35 eRob x.Rob):=nth_sub (GCore_Rob x)
@[simp] theorem GCore_Sb (x : GCore) : takeN (dropN (eCore x) 107) 1 = (cSl 3 eSb) x.Sb:=gCore_16 _
@[simp] theorem NCore_Sb (x : GCore) : nth (eCore x) 107 = some (eSl 3 eSb x.Sb):=nth_sub (GCore_Sb x)
@[simp] theorem GCore_Shadow (x : GCore) : takeN (dropN (eCore x) 52) 1 = (cSl 1 cU8) x.Shadow:=gCore_2 _
@[simp] theorem NCore_Shadow (x : GCore) : nth (eCore x) 52 = some (eSl 1 cU8 x.Shadow):=nth_sub (GCore_Shadow x)
@[simp] theorem GCore_Sq (x : GCore) : takeN (dropN (eCore x) 106) 1 = (cSl 5 eSq) x.Sq:=gCore_15 _
@[simp] theorem NCore_Sq (x : GCore) : nth (eCore x) 106 = some (eSl 5 eSq x.Sq):=nth_sub (GCore_Sq x)
@[simp] theorem GCore_Tlb (x : GCore) : takeN (dropN (eCore x) 62) 1 = (cSl 4 eTlb) x.Tlb:=gCore_7 _
@[simp] theorem NCore_Tlb (x : GCore) : nth (eCore x) 62 = some (eSl 4 eTlb x.Tlb):=nth_sub (GCore_Tlb x)
@[simp] theorem GCore_TlbNext (x : GCore) : takeN (dropN (eCore x) 63) 1 = cI x.TlbNext:=gCore_8 _
@[simp] theorem NCore_TlbNext (x : GCore) : nth (eCore x) 63 = some (eI x.TlbNext):=nth_sub (GCore_TlbNext x)
@[simp] theorem GCore_Units (x : GCore) : takeN (dropN (eCore x) 108) 1 = (cSl 35 eFlight) x.Units:=gCore_17 _
@[simp] theorem NCore_Units (x : GCore) : nth (eCore x) 108 = some (eSl 35 eFlight x.Units):=nth_sub (GCore_Units x)
@[simp] theorem PCore_Units (x : GCore) (v : List GFlight) : putN (eCore x) 108 [eSl 35 eFlight v] = eCore (x.setUnits v):=pCore_17 _ _
@[simp] theorem GCore_Wait (x : GCore) : takeN (dropN (eCore x) 110) 1 = cI x.Wait:=gCore_19 _
@[simp] theorem NCore_Wait (x : GCore) : nth (eCore x) 110 = some (eI x.Wait):=nth_sub (GCore_Wait x)
@[simp] theorem PCore_Wait (x : GCore) (v : Int) : putN (eCore x) 110 [eI v] = eCore (x.setWait v):=pCore_19 _ _
@[simp] theorem GWay_Age (x : GWay) : takeN (dropN (eWay x) 18) 1 = cI x.Age:=gWay_3 _
@[simp] theorem NWay_Age (x : GWay) : nth (eWay x) 18 = some (eI x.Age):=nth_sub (GWay_Age x)
@[simp] theorem GWay_Data (x : GWay) : takeN (dropN (eWay x) 2) 16 = (eAr cU8) x.Data:=gWay_2 _
@[simp] theorem GWay_State (x : GWay) : takeN (dropN (eWay x) 0) 1 = cI x.State:=gWay_0 _
@[simp] theorem NWay_State (x : GWay) : nth (eWay x) 0 = some (eI x.State):=nth_sub (GWay_State x)
@[simp] theorem GWay_Tag (x : GWay) : takeN (dropN (eWay x) 1) 1 = cU32 x.Tag:=gWay_1 _
@[simp] theorem NWay_Tag (x : GWay) : nth (eWay x) 1 = some (eU32 x.Tag):=nth_sub (GWay_Tag x)
@[simp] theorem GCache_Sets (x : GCache) : takeN (dropN (eCache x) 0) 1 = (cSl 1 (cSl 19 eWay)) x.Sets:=gCache_0 _
@[simp] theorem NCache_Sets (x : GCache) : nth (eCache x) 0 = some (eSl 1 (cSl 19 eWay) x.Sets):=nth_sub (GCache_Sets x)
@[simp] theorem GCoh_Caches (x : GCoh) : takeN (dropN (eCoh x) 1) 1 = (cSl 1 eCache) x.Caches:=gCoh_1 _
@[simp] theorem NCoh_Caches (x : GCoh) : nth (eCoh x) 1 = some (eSl 1 eCache x.Caches):=nth_sub (GCoh_Caches x)
@[simp] theorem GCoh_Mem (x : GCoh) : takeN (dropN (eCoh x) 0) 1 = (cSl 1 cU8) x.Mem:=gCoh_0 _
@[simp] theorem NCoh_Mem (x : GCoh) : nth (eCoh x) 0 = some (eSl 1 cU8 x.Mem):=nth_sub (GCoh_Mem x)
@[simp] theorem GTick_Drain (x : GTick) : takeN (dropN (eTick x) 3) 1 = cB x.Drain:=gTick_3 _
@[simp] theorem NTick_Drain (x : GTick) : nth (eTick x) 3 = some (.b x.Drain):=nth_sub (GTick_Drain x)
@[simp] theorem GTick_Lines (x : GTick) : takeN (dropN (eTick x) 0) 1 = cU32 x.Lines:=gTick_0 _
@[simp] theorem NTick_Lines (x : GTick) : nth (eTick x) 0 = some (eU32 x.Lines):=nth_sub (GTick_Lines x)
@[simp] theorem PTick_Pick (x : GTick) (v : Int) : putN (eTick x) 2 [eI v] = eTick (x.setPick v):=pTick_2 _ _
@[simp] theorem GTick_Stall (x : GTick) : takeN (dropN (eTick x) 1) 1 = cU32 x.Stall:=gTick_1 _
@[simp] theorem NTick_Stall (x : GTick) : nth (eTick x) 1 = some (eU32 x.Stall):=nth_sub (GTick_Stall x)
@[simp] theorem PTick_Stall (x : GTick) (v : BitVec 32) : putN (eTick x) 1 [eU32 v] = eTick (x.setStall v):=pTick_1 _ _
def ksGConf : List Kd:=app [.i] (app [.i] (app [.i] (app [.i] (app [.i] (app [.i] (app [.i] (app [.i] (app [.i] (app [.i] (app [.i] (app [.i] (app [.i] (app [.i] (app [.i] (app [.i] (app [.i] (app [.i] (app [.i] (app [.i] (app [.i] ([.b])))))))))))))))))))))
theorem eqC_GConf (a b : GConf) : eqCells ksGConf (eConf a) (eConf b) = some (GConf.eq a b):=by
  simp [ksGConf,eConf,GConf.eq,eqCells_app',lay_len,cond_sf,eqCB,eqCI]
theorem eqGConf (neg : Bool) (a b : GConf) : eqAV ksGConf neg (eConf a) (eConf b) = some (.b (GConf.eq a b != neg)):=by
  have h : len ksGConf = 22:=rfl
  simp [eqAV,eqC_GConf,h,len_lay]
def ksArr25 : List Kd:=(kA 16 .i)
theorem eqC_Arr25 (a b : Arr (BitVec 32) 16) : eqCells ksArr25 ((eAr cU32) a) ((eAr cU32) b) = some (Arr25.eq a b):=by
  unfold ksArr25 Arr25.eq kA; exact eqCAr (fun _ => rfl) eqCU32 a b
theorem eqArr25 (neg : Bool) (a b : Arr (BitVec 32) 16) : eqAV ksArr25 neg ((eAr cU32) a) ((eAr cU32) b) = some (.b (Arr25.eq a b != neg)):=by
  have h : len ksArr25 = 16:=rfl
  simp [eqAV,eqC_Arr25,h,len_lay]
def ksGArch : List Kd:=app [.i] (app (kA 16 .i) (app (kA 12 .i) ([.b])))
theorem eqC_GArch (a b : GArch) : eqCells ksGArch (eArch a) (eArch b) = some (GArch.eq a b):=by
  simp [ksGArch,eArch,GArch.eq,eqCells_app',lay_len,cond_sf,eqCB,eqCU32,eqKAU32,kA_len]
theorem eqGArch (neg : Bool) (a b : GArch) : eqAV ksGArch neg (eArch a) (eArch b) = some (.b (GArch.eq a b != neg)):=by
  have h : len ksGArch = 30:=rfl
  simp [eqAV,eqC_GArch,h,len_lay]
def ksArr37 : List Kd:=(kA 16 .i)
theorem eqC_Arr37 (a b : Arr Int 16) : eqCells ksArr37 ((eAr cI) a) ((eAr cI) b) = some (Arr37.eq a b):=by
  unfold ksArr37 Arr37.eq kA; exact eqCAr (fun _ => rfl) eqCI a b
theorem eqArr37 (neg : Bool) (a b : Arr Int 16) : eqAV ksArr37 neg ((eAr cI) a) ((eAr cI) b) = some (.b (Arr37.eq a b != neg)):=by
  have h : len ksArr37 = 16:=rfl
  simp [eqAV,eqC_Arr37,h,len_lay]
def ksGSave : List Kd:=app [.i] (app [.i] ([.i]))
theorem ksl_GSave : ksGSave.length = 3:=rfl
theorem eqC_GSave (a b : GSave) : eqCells ksGSave (eSave a) (eSave b) = some (GSave.eq a b):=by
  simp [ksGSave,eSave,GSave.eq,eqCells_app',lay_len,cond_sf,eqCI,eqCU32]
theorem eqCs_GSave (x y : GSave) (k2 : List Kd) (b d : List V) : eqCells (app ksGSave k2) (app (eSave x) b) (app (eSave y) d) = cond (GSave.eq x y) (eqCells k2 b d) (some false):=by
  rw [eqCells_app' _ _ _ _ _ _ (by simp [lay_len,ksl_GSave]) (by simp [lay_len,ksl_GSave]),eqC_GSave]; rfl
def ksGGuess : List Kd:=app [.b] (app [.i] (ksGSave))
theorem ksl_GGuess : ksGGuess.length = 5:=rfl
theorem eqC_GGuess (a b : GGuess) : eqCells ksGGuess (eGuess a) (eGuess b) = some (GGuess.eq a b):=by
  simp [ksGGuess,eGuess,GGuess.eq,eqCells_app',lay_len,cond_sf,eqCB,eqCU32,eqC_GSave,eqCs_GSave]
theorem eqCs_GGuess (x y : GGuess) (k2 : List Kd) (b d : List V) : eqCells (app ksGGuess k2) (app (eGuess x) b) (app (eGuess y) d) = cond (GGuess.eq x y) (eqCells k2 b d) (some false):=by
  rw [eqCells_app' _ _ _ _ _ _ (by simp [lay_len,ksl_GGuess]) (by simp [lay_len,ksl_GGuess]),eqC_GGuess]; rfl
def ksGSlot : List Kd:=app [.i] (app [.i] (app [.i] (app [.i] (ksGGuess))))
theorem ksl_GSlot : ksGSlot.length = 9:=rfl
theorem eqC_GSlot (a b : GSlot) : eqCells ksGSlot (eSlot a) (eSlot b) = some (GSlot.eq a b):=by
  simp [ksGSlot,eSlot,GSlot.eq,eqCells_app',lay_len,cond_sf,eqCI,eqCU32,eqC_GGuess,eqCs_GGuess]
theorem eqCs_GSlot (x y : GSlot) (k2 : List Kd) (b d : List V) : eqCells (app ksGSlot k2) (app (eSlot x) b) (app (eSlot y) d) = cond (GSlot.eq x y) (eqCells k2 b d) (some false):=by
  rw [eqCells_app' _ _ _ _ _ _ (by simp [lay_len,ksl_GSlot]) (by simp [lay_len,ksl_GSlot]),eqC_GSlot]; rfl
theorem eqGSlot (neg : Bool) (a b : GSlot) : eqAV ksGSlot neg (eSlot a) (eSlot b) = some (.b (GSlot.eq a b != neg)):=by
  have h : len ksGSlot = 9:=rfl
  simp [eqAV,eqC_GSlot,h,len_lay]
def ksGInst : List Kd:=app [.i] (app [.i] (app [.i] (app [.i] ([.i]))))
theorem ksl_GInst : ksGInst.length = 5:=rfl
theorem eqC_GInst (a b : GInst) : eqCells ksGInst (eInst a) (eInst b) = some (GInst.eq a b):=by
  simp [ksGInst,eInst,GInst.eq,eqCells_app',lay_len,cond_sf,eqCI]
theorem eqCs_GInst (x y : GInst) (k2 : List Kd) (b d : List V) : eqCells (app ksGInst k2) (app (eInst x) b) (app (eInst y) d) = cond (GInst.eq x y) (eqCells k2 b d) (some false):=by
  rw [eqCells_app' _ _ _ _ _ _ (by simp [lay_len,ksl_GInst]) (by simp [lay_len,ksl_GInst]),eqC_GInst]; rfl
def ksGUop : List Kd:=app ksGInst (app ksGSlot (app [.i] (app [.i] (app [.b] (app (kA 3 .i) (app [.i] (app [.i] ([.i]))))))))
theorem ksl_GUop : ksGUop.length = 23:=rfl
theorem eqC_GUop (a b : GUop) : eqCells ksGUop (eUop a) (eUop b) = some (GUop.eq a b):=by
  simp [ksGUop,eUop,GUop.eq,eqCells_app',lay_len,cond_sf,eqCB,eqCI,eqCU32,eqC_GInst,eqC_GSlot,eqCs_GInst,eqCs_GSlot,eqKAI,kA_len]
theorem eqCs_GUop (x y : GUop) (k2 : List Kd) (b d : List V) : eqCells (app ksGUop k2) (app (eUop x) b) (app (eUop y) d) = cond (GUop.eq x y) (eqCells k2 b d) (some false):=by
  rw [eqCells_app' _ _ _ _ _ _ (by simp [lay_len,ksl_GUop]) (by simp [lay_len,ksl_GUop]),eqC_GUop]; rfl
def ksGRen : List Kd:=app ksGUop (app [.i] (app (kA 3 .i) (app [.i] ([.i]))))
theorem ksl_GRen : ksGRen.length = 29:=rfl
theorem eqC_GRen (a b : GRen) : eqCells ksGRen (eRen a) (eRen b) = some (GRen.eq a b):=by
  simp [ksGRen,eRen,GRen.eq,eqCells_app',lay_len,cond_sf,eqCI,eqCU64,eqC_GUop,eqCs_GUop,eqKAI,kA_len]
theorem eqCs_GRen (x y : GRen) (k2 : List Kd) (b d : List V) : eqCells (app ksGRen k2) (app (eRen x) b) (app (eRen y) d) = cond (GRen.eq x y) (eqCells k2 b d) (some false):=by
  rw [eqCells_app' _ _ _ _ _ _ (by simp [lay_len,ksl_GRen]) (by simp [lay_len,ksl_GRen]),eqC_GRen]; rfl
theorem eqGRen (neg : Bool) (a b : GRen) : eqAV ksGRen neg (eRen a) (eRen b) = some (.b (GRen.eq a b != neg)):=by
  have h : len ksGRen = 29:=rfl
  simp [eqAV,eqC_GRen,h,len_lay]
def ksGRob : List Kd:=app ksGRen (app [.b] (app [.i] (app [.i] (app [.i] (app [.i] ([.b]))))))
theorem eqC_GRob (a b : GRob) : eqCells ksGRob (eRob a) (eRob b) = some (GRob.eq a b):=by
  simp [ksGRob,eRob,GRob.eq,eqCells_app',lay_len,cond_sf,eqCB,eqCI,eqCU32,eqC_GRen,eqCs_GRen]
theorem eqGRob (neg : Bool) (a b : GRob) : eqAV ksGRob neg (eRob a) (eRob b) = some (.b (GRob.eq a b != neg)):=by
  have h : len ksGRob = 35:=rfl
  simp [eqAV,eqC_GRob,h,len_lay]
def ksGFlight : List Kd:=app ksGRen (app [.i] (app [.i] (app [.i] (app [.i] (app [.i] ([.i]))))))
theorem eqC_GFlight (a b : GFlight) : eqCells ksGFlight (eFlight a) (eFlight b) = some (GFlight.eq a b):=by
  simp [ksGFlight,eFlight,GFlight.eq,eqCells_app',lay_len,cond_sf,eqCI,eqCU32,eqC_GRen,eqCs_GRen]
theorem eqGFlight (neg : Bool) (a b : GFlight) : eqAV ksGFlight neg (eFlight a) (eFlight b) = some (.b (GFlight.eq a b != neg)):=by
  have h : len ksGFlight = 35:=rfl
  simp [eqAV,eqC_GFlight,h,len_lay]
def ksGIq : List Kd:=app ksGRen ((kA 3 .b))
theorem eqC_GIq (a b : GIq) : eqCells ksGIq (eIq a) (eIq b) = some (GIq.eq a b):=by
  simp [ksGIq,eIq,GIq.eq,eqCells_app',lay_len,cond_sf,eqC_GRen,eqCs_GRen,eqKAB,kA_len]
theorem eqGIq (neg : Bool) (a b : GIq) : eqAV ksGIq neg (eIq a) (eIq b) = some (.b (GIq.eq a b != neg)):=by
  have h : len ksGIq = 32:=rfl
  simp [eqAV,eqC_GIq,h,len_lay]
def ksArr178 : List Kd:=(kA 16 .i)
theorem eqC_Arr178 (a b : Arr (BitVec 8) 16) : eqCells ksArr178 ((eAr cU8) a) ((eAr cU8) b) = some (Arr178.eq a b):=by
  unfold ksArr178 Arr178.eq kA; exact eqCAr (fun _ => rfl) eqCU8 a b
theorem eqArr178 (neg : Bool) (a b : Arr (BitVec 8) 16) : eqAV ksArr178 neg ((eAr cU8) a) ((eAr cU8) b) = some (.b (Arr178.eq a b != neg)):=by
  have h : len ksArr178 = 16:=rfl
  simp [eqAV,eqC_Arr178,h,len_lay]
def ksGWay : List Kd:=app [.i] (app [.i] (app (kA 16 .i) ([.i])))
theorem eqC_GWay (a b : GWay) : eqCells ksGWay (eWay a) (eWay b) = some (GWay.eq a b):=by
  simp [ksGWay,eWay,GWay.eq,eqCells_app',lay_len,cond_sf,eqCI,eqCU32,eqKAU8,kA_len]
theorem eqGWay (neg : Bool) (a b : GWay) : eqAV ksGWay neg (eWay a) (eWay b) = some (.b (GWay.eq a b != neg)):=by
  have h : len ksGWay = 19:=rfl
  simp [eqAV,eqC_GWay,h,len_lay]
def ksGPte : List Kd:=app [.i] ([.i])
theorem ksl_GPte : ksGPte.length = 2:=rfl
theorem eqC_GPte (a b : GPte) : eqCells ksGPte (ePte a) (ePte b) = some (GPte.eq a b):=by
  simp [ksGPte,ePte,GPte.eq,eqCells_app',lay_len,cond_sf,eqCI,eqCU32]
theorem eqCs_GPte (x y : GPte) (k2 : List Kd) (b d : List V) : eqCells (app ksGPte k2) (app (ePte x) b) (app (ePte y) d) = cond (GPte.eq x y) (eqCells k2 b d) (some false):=by
  rw [eqCells_app' _ _ _ _ _ _ (by simp [lay_len,ksl_GPte]) (by simp [lay_len,ksl_GPte]),eqC_GPte]; rfl
def ksGTlb : List Kd:=app [.b] (app [.i] (ksGPte))
theorem eqC_GTlb (a b : GTlb) : eqCells ksGTlb (eTlb a) (eTlb b) = some (GTlb.eq a b):=by
  simp [ksGTlb,eTlb,GTlb.eq,eqCells_app',lay_len,cond_sf,eqCB,eqCU32,eqC_GPte,eqCs_GPte]
theorem eqGTlb (neg : Bool) (a b : GTlb) : eqAV ksGTlb neg (eTlb a) (eTlb b) = some (.b (GTlb.eq a b != neg)):=by
  have h : len ksGTlb = 4:=rfl
  simp [eqAV,eqC_GTlb,h,len_lay]
def ksGLq : List Kd:=app [.i] (app [.i] (app [.i] (app [.i] (app [.b] (app [.b] (app [.i] ([.b])))))))
theorem eqC_GLq (a b : GLq) : eqCells ksGLq (eLq a) (eLq b) = some (GLq.eq a b):=by
  simp [ksGLq,eLq,GLq.eq,eqCells_app',lay_len,cond_sf,eqCB,eqCI,eqCU32,eqCU64]
theorem eqGLq (neg : Bool) (a b : GLq) : eqAV ksGLq neg (eLq a) (eLq b) = some (.b (GLq.eq a b != neg)):=by
  have h : len ksGLq = 8:=rfl
  simp [eqAV,eqC_GLq,h,len_lay]
def ksGSq : List Kd:=app [.i] (app [.i] (app [.i] (app [.i] ([.b]))))
theorem eqC_GSq (a b : GSq) : eqCells ksGSq (eSq a) (eSq b) = some (GSq.eq a b):=by
  simp [ksGSq,eSq,GSq.eq,eqCells_app',lay_len,cond_sf,eqCB,eqCI,eqCU32,eqCU64]
theorem eqGSq (neg : Bool) (a b : GSq) : eqAV ksGSq neg (eSq a) (eSq b) = some (.b (GSq.eq a b != neg)):=by
  have h : len ksGSq = 5:=rfl
  simp [eqAV,eqC_GSq,h,len_lay]
def ksGSb : List Kd:=app [.i] (app [.i] ([.i]))
theorem eqC_GSb (a b : GSb) : eqCells ksGSb (eSb a) (eSb b) = some (GSb.eq a b):=by
  simp [ksGSb,eSb,GSb.eq,eqCells_app',lay_len,cond_sf,eqCI,eqCU32]
theorem eqGSb (neg : Bool) (a b : GSb) : eqAV ksGSb neg (eSb a) (eSb b) = some (.b (GSb.eq a b != neg)):=by
  have h : len ksGSb = 3:=rfl
  simp [eqAV,eqC_GSb,h,len_lay]
def ksGBtb : List Kd:=app [.i] (app [.i] ([.i]))
theorem eqC_GBtb (a b : GBtb) : eqCells ksGBtb (eBtb a) (eBtb b) = some (GBtb.eq a b):=by
  simp [ksGBtb,eBtb,GBtb.eq,eqCells_app',lay_len,cond_sf,eqCI,eqCU32]
theorem eqGBtb (neg : Bool) (a b : GBtb) : eqAV ksGBtb neg (eBtb a) (eBtb b) = some (.b (GBtb.eq a b != neg)):=by
  have h : len ksGBtb = 3:=rfl
  simp [eqAV,eqC_GBtb,h,len_lay]
instance : EqC eConf:=⟨fun x => eqvs_app _ _ (EqC.self (f:=cI) _) (eqvs_app _ _ (EqC.self (f:=cI) _) (eqvs_app _ _ (EqC.self (f:=cI) _) (eqvs_app _ _ (EqC.self (f:=cI) _) (eqvs_app _ _ (EqC.self (f:=cI) _) (eqvs_app _ _ (EqC.self (f:=cI) _) (eqvs_app _ _ (EqC.self (f:=cI) _) (eqvs_app _ _ (EqC.self (f:=cI) _) (eqvs_app _ _ (EqC.self (f:=cI) _) (eqvs_app _ _ (EqC.self (f:=cI) _) (eqvs_app _ _ (EqC.self (f:=cI) _) (eqvs_app _ _ (EqC.self (f:=cI) _) (eqvs_app _ _ (EqC.self (f:=cI) _) (eqvs_app _ _ (EqC.self (f:=cI) _) (eqvs_app _ _ (EqC.self (f:=cI) _) (eqvs_app _ _ (EqC.self (f:=cI) _) (eqvs_app _ _ (EqC.self (f:=cI) _) (eqvs_app _ _ (EqC.self (f:=cI) _) (eqvs_app _ _ (EqC.self (f:=cI) _) (eqvs_app _ _ (EqC.self (f:=cI) _) (eqvs_app _ _ (EqC.self (f:=cI) _) (EqC.self (f:=cB) _)))))))))))))))))))))⟩
instance : EqC eArch:=⟨fun x => eqvs_app _ _ (EqC.self (f:=cU32) _) (eqvs_app _ _ (EqC.self (f:=(eAr cU32)) _) (eqvs_app _ _ (EqC.self (f:=(eAr cU32)) _) (EqC.self (f:=cB) _)))⟩
instance : EqC eBtb:=⟨fun x => eqvs_app _ _ (EqC.self (f:=cU32) _) (eqvs_app _ _ (EqC.self (f:=cU32) _) (EqC.self (f:=cI) _))⟩
instance : EqC ePred:=⟨fun x => eqvs_app _ _ (EqC.self (f:=cU32) _) (eqvs_app _ _ (EqC.self (f:=(cSl 1 cU8)) _) (eqvs_app _ _ (EqC.self (f:=(cSl 3 eBtb)) _) (eqvs_app _ _ (EqC.self (f:=cI) _) (eqvs_app _ _ (EqC.self (f:=(cSl 1 cU32)) _) (EqC.self (f:=cI) _)))))⟩
instance : EqC ePte:=⟨fun x => eqvs_app _ _ (EqC.self (f:=cU32) _) (EqC.self (f:=cI) _)⟩
instance : EqC eTlb:=⟨fun x => eqvs_app _ _ (EqC.self (f:=cB) _) (eqvs_app _ _ (EqC.self (f:=cU32) _) (EqC.self (f:=ePte) _))⟩
instance : EqC eSave:=⟨fun x => eqvs_app _ _ (EqC.self (f:=cU32) _) (eqvs_app _ _ (EqC.self (f:=cI) _) (EqC.self (f:=cU32) _))⟩
instance : EqC eGuess:=⟨fun x => eqvs_app _ _ (EqC.self (f:=cB) _) (eqvs_app _ _ (EqC.self (f:=cU32) _) (EqC.self (f:=eSave) _))⟩
instance : EqC eSlot:=⟨fun x => eqvs_app _ _ (EqC.self (f:=cU32) _) (eqvs_app _ _ (EqC.self (f:=cU32) _) (eqvs_app _ _ (EqC.self (f:=cI) _) (eqvs_app _ _ (EqC.self (f:=cU32) _) (EqC.self (f:=eGuess) _))))⟩
instance : EqC eFree:=⟨fun x => eqvs_app _ _ (EqC.self (f:=(cSl 1 cI)) _) (eqvs_app _ _ (EqC.self (f:=cI) _) (EqC.self (f:=cI) _))⟩
instance : EqC eNames:=⟨fun x => eqvs_app _ _ (EqC.self (f:=(eAr cI)) _) (eqvs_app _ _ (EqC.self (f:=(eAr cI)) _) (eqvs_app _ _ (EqC.self (f:=eFree) _) (EqC.self (f:=cU64) _)))⟩
instance : EqC ePhys:=⟨fun x => eqvs_app _ _ (EqC.self (f:=(cSl 1 cU32)) _) (EqC.self (f:=(cSl 1 cB)) _)⟩
instance : EqC eInst:=⟨fun x => eqvs_app _ _ (EqC.self (f:=cI) _) (eqvs_app _ _ (EqC.self (f:=cI) _) (eqvs_app _ _ (EqC.self (f:=cI) _) (eqvs_app _ _ (EqC.self (f:=cI) _) (EqC.self (f:=cI) _))))⟩
instance : EqC eUop:=⟨fun x => eqvs_app _ _ (EqC.self (f:=eInst) _) (eqvs_app _ _ (EqC.self (f:=eSlot) _) (eqvs_app _ _ (EqC.self (f:=cI) _) (eqvs_app _ _ (EqC.self (f:=cI) _) (eqvs_app _ _ (EqC.self (f:=cB) _) (eqvs_app _ _ (EqC.self (f:=(eAr cI)) _) (eqvs_app _ _ (EqC.self (f:=cI) _) (eqvs_app _ _ (EqC.self (f:=cI) _) (EqC.self (f:=cU32) _))))))))⟩
instance : EqC eRen:=⟨fun x => eqvs_app _ _ (EqC.self (f:=eUop) _) (eqvs_app _ _ (EqC.self (f:=cU64) _) (eqvs_app _ _ (EqC.self (f:=(eAr cI)) _) (eqvs_app _ _ (EqC.self (f:=cI) _) (EqC.self (f:=cI) _))))⟩
instance : EqC eRob:=⟨fun x => eqvs_app _ _ (EqC.self (f:=eRen) _) (eqvs_app _ _ (EqC.self (f:=cB) _) (eqvs_app _ _ (EqC.self (f:=cU32) _) (eqvs_app _ _ (EqC.self (f:=cU32) _) (eqvs_app _ _ (EqC.self (f:=cI) _) (eqvs_app _ _ (EqC.self (f:=cU32) _) (EqC.self (f:=cB) _))))))⟩
instance : EqC eIq:=⟨fun x => eqvs_app _ _ (EqC.self (f:=eRen) _) (EqC.self (f:=(eAr cB)) _)⟩
instance : EqC eLq:=⟨fun x => eqvs_app _ _ (EqC.self (f:=cU64) _) (eqvs_app _ _ (EqC.self (f:=cU32) _) (eqvs_app _ _ (EqC.self (f:=cU32) _) (eqvs_app _ _ (EqC.self (f:=cI) _) (eqvs_app _ _ (EqC.self (f:=cB) _) (eqvs_app _ _ (EqC.self (f:=cB) _) (eqvs_app _ _ (EqC.self (f:=cU64) _) (EqC.self (f:=cB) _)))))))⟩
instance : EqC eSq:=⟨fun x => eqvs_app _ _ (EqC.self (f:=cU64) _) (eqvs_app _ _ (EqC.self (f:=cU32) _) (eqvs_app _ _ (EqC.self (f:=cU32) _) (eqvs_app _ _ (EqC.self (f:=cI) _) (EqC.self (f:=cB) _))))⟩
instance : EqC eSb:=⟨fun x => eqvs_app _ _ (EqC.self (f:=cU32) _) (eqvs_app _ _ (EqC.self (f:=cU32) _) (EqC.self (f:=cI) _))⟩
instance : EqC eFlight:=⟨fun x => eqvs_app _ _ (EqC.self (f:=eRen) _) (eqvs_app _ _ (EqC.self (f:=cI) _) (eqvs_app _ _ (EqC.self (f:=cI) _) (eqvs_app _ _ (EqC.self (f:=cU32) _) (eqvs_app _ _ (EqC.self (f:=cU32) _) (eqvs_app _ _ (EqC.self (f:=cI) _) (EqC.self (f:=cU32) _))))))⟩
instance : EqC eCore:=⟨fun x => eqvs_app _ _ (EqC.self (f:=eConf) _) (eqvs_app _ _ (EqC.self (f:=eArch) _) (eqvs_app _ _ (EqC.self (f:=(cSl 1 cU8)) _) (eqvs_app _ _ (EqC.self (f:=(cSl 1 cU32)) _) (eqvs_app _ _ (EqC.self (f:=cU32) _) (eqvs_app _ _ (EqC.self (f:=cB) _) (eqvs_app _ _ (EqC.self (f:=ePred) _) (eqvs_app _ _ (EqC.self (f:=(cSl 4 eTlb)) _) (eqvs_app _ _ (EqC.self (f:=cI) _) (eqvs_app _ _ (EqC.self (f:=(cSl 9 eSlot)) _) (eqvs_app _ _ (EqC.self (f:=eNames) _) (eqvs_app _ _ (EqC.self (f:=ePhys) _) (eqvs_app _ _ (EqC.self (f:=(cSl 35 eRob)) _) (eqvs_app _ _ (EqC.self (f:=(cSl 32 eIq)) _) (eqvs_app _ _ (EqC.self (f:=(cSl 8 eLq)) _) (eqvs_app _ _ (EqC.self (f:=(cSl 5 eSq)) _) (eqvs_app _ _ (EqC.self (f:=(cSl 3 eSb)) _) (eqvs_app _ _ (EqC.self (f:=(cSl 35 eFlight)) _) (eqvs_app _ _ (EqC.self (f:=(cSl 1 cU8)) _) (eqvs_app _ _ (EqC.self (f:=cI) _) (EqC.self (f:=cI) _))))))))))))))))))))⟩
instance : EqC eWay:=⟨fun x => eqvs_app _ _ (EqC.self (f:=cI) _) (eqvs_app _ _ (EqC.self (f:=cU32) _) (eqvs_app _ _ (EqC.self (f:=(eAr cU8)) _) (EqC.self (f:=cI) _)))⟩
instance : EqC eCache:=⟨fun x => EqC.self (f:=(cSl 1 (cSl 19 eWay))) _⟩
instance : EqC eCoh:=⟨fun x => eqvs_app _ _ (EqC.self (f:=(cSl 1 cU8)) _) (EqC.self (f:=(cSl 1 eCache)) _)⟩
theorem ex1_3 (x : Int) : V.fz .ex 1 1 [eI x] = eSx 1 cI [x]:=by simp [eSx,encs,app_eq,cI]
theorem ex1_24 (x : BitVec 32) : V.fz .ex 1 1 [eU32 x] = eSx 1 cU32 [x]:=by simp [eSx,encs,app_eq,cU32]
theorem ex1_41 (x : BitVec 64) : V.fz .ex 1 1 [eU64 x] = eSx 1 cU64 [x]:=by simp [eSx,encs,app_eq,cU64]
theorem ex1_95 (x : GNote) : V.fz .ex 1 4 (eNote x) = eSx 4 eNote [x]:=by simp [eSx,encs,app_eq]
theorem ex1_126 (x : GRen) : V.fz .ex 1 29 (eRen x) = eSx 29 eRen [x]:=by simp [eSx,encs,app_eq]
theorem ex5_63 (x0 x1 x2 x3 x4 : List GNote) : V.fz .ex 5 1 [eSl 4 eNote x0,eSl 4 eNote x1,eSl 4 eNote x2,eSl 4 eNote x3,eSl 4 eNote x4] = eSx 1 (cSl 4 eNote) [x0,x1,x2,x3,x4]:=rfl
theorem pt5_0_63 (x0 x1 x2 x3 x4 v : V) : putN [x0,x1,x2,x3,x4] 0 [v] = [v,x1,x2,x3,x4]:=rfl
theorem pt5_1_63 (x0 x1 x2 x3 x4 v : V) : putN [x0,x1,x2,x3,x4] 1 [v] = [x0,v,x2,x3,x4]:=rfl
theorem pt5_2_63 (x0 x1 x2 x3 x4 v : V) : putN [x0,x1,x2,x3,x4] 2 [v] = [x0,x1,v,x3,x4]:=rfl
theorem pt5_3_63 (x0 x1 x2 x3 x4 v : V) : putN [x0,x1,x2,x3,x4] 3 [v] = [x0,x1,x2,v,x4]:=rfl
theorem pt5_4_63 (x0 x1 x2 x3 x4 v : V) : putN [x0,x1,x2,x3,x4] 4 [v] = [x0,x1,x2,x3,v]:=rfl
end
end Go.Ev
namespace Go.Ev
noncomputable section
def tickF (f : GFlight) : GFlight:=cond (decide ((0 : Int) < f.Left)) (f.setLeft (wI (f.Left - 1))) (f.setLeft 0)
def n25 (a0 : List GFlight) : Option (List GFlight):=some (a0.map tickF)
@[simp] theorem cond_Units (c : Bool) (x y : GCore) : (cond c x y).Units = cond c x.Units y.Units:=by cases c <;> rfl
@[simp] theorem setWait_Units (x : GCore) (v : Int) : (x.setWait v).Units = x.Units:=rfl
@[simp] theorem setA_Units (x : GCore) (v : GArch) : (x.setA v).Units = x.Units:=rfl
@[simp] theorem tick_Stall (p : Int) : ((GTick.zero.setStall 31#32).setPick p).Stall = 31#32:=rfl
@[simp] theorem tick_Drain (p : Int) : ((GTick.zero.setStall 31#32).setPick p).Drain = false:=rfl
@[simp] theorem tick_Lines (p : Int) : ((GTick.zero.setStall 31#32).setPick p).Lines = 0#32:=rfl
end
end Go.Ev
