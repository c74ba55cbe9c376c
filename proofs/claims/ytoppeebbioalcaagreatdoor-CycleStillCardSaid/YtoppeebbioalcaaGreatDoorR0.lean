/- The types of the core (printed by a program). -/
import Derived.Test.YtoppeebbioalcaaGreatDoorEvU
set_option linter.all false
namespace Go.Ev
noncomputable section
structure GConf where
  Fetch : Int
  Wide : Int
  Issue : Int
  Retire : Int
  Queue : Int
  Rob : Int
  Iq : Int
  Lq : Int
  Sq : Int
  Sb : Int
  Phys : Int
  Hist : Int
  Btb : Int
  Ras : Int
  Dep : Int
  Tlb : Int
  MulLat : Int
  DivLat : Int
  MemLat : Int
  Sets : Int
  Ways : Int
  Eager : Bool
def eConf (x : GConf) : List V:=app (cI x.Fetch) (app (cI x.Wide) (app (cI x.Issue) (app (cI x.Retire) (app (cI x.Queue) (app (cI x.Rob) (app (cI x.Iq) (app (cI x.Lq) (app (cI x.Sq) (app (cI x.Sb) (app (cI x.Phys) (app (cI x.Hist) (app (cI x.Btb) (app (cI x.Ras) (app (cI x.Dep) (app (cI x.Tlb) (app (cI x.MulLat) (app (cI x.DivLat) (app (cI x.MemLat) (app (cI x.Sets) (app (cI x.Ways) (cB x.Eager)))))))))))))))))))))
instance : LayC 22 eConf:=⟨⟨fun x => by simp [eConf,app_eq,lay_len],fun x => by simp [eConf,pureL_app',lay_pure],by decide⟩⟩
theorem gConf_0 (x : GConf) : takeN (dropN (eConf x) 0) 1 = cI x.Fetch:=by simp [eConf,sub_s,sub_h,sub_l]
theorem gConf_1 (x : GConf) : takeN (dropN (eConf x) 1) 1 = cI x.Wide:=by simp [eConf,sub_s,sub_h,sub_l]
theorem gConf_2 (x : GConf) : takeN (dropN (eConf x) 2) 1 = cI x.Issue:=by simp [eConf,sub_s,sub_h,sub_l]
theorem gConf_3 (x : GConf) : takeN (dropN (eConf x) 3) 1 = cI x.Retire:=by simp [eConf,sub_s,sub_h,sub_l]
theorem gConf_4 (x : GConf) : takeN (dropN (eConf x) 4) 1 = cI x.Queue:=by simp [eConf,sub_s,sub_h,sub_l]
theorem gConf_5 (x : GConf) : takeN (dropN (eConf x) 5) 1 = cI x.Rob:=by simp [eConf,sub_s,sub_h,sub_l]
theorem gConf_6 (x : GConf) : takeN (dropN (eConf x) 6) 1 = cI x.Iq:=by simp [eConf,sub_s,sub_h,sub_l]
theorem gConf_7 (x : GConf) : takeN (dropN (eConf x) 7) 1 = cI x.Lq:=by simp [eConf,sub_s,sub_h,sub_l]
theorem gConf_8 (x : GConf) : takeN (dropN (eConf x) 8) 1 = cI x.Sq:=by simp [eConf,sub_s,sub_h,sub_l]
theorem gConf_9 (x : GConf) : takeN (dropN (eConf x) 9) 1 = cI x.Sb:=by simp [eConf,sub_s,sub_h,sub_l]
theorem gConf_10 (x : GConf) : takeN (dropN (eConf x) 10) 1 = cI x.Phys:=by simp [eConf,sub_s,sub_h,sub_l]
theorem gConf_11 (x : GConf) : takeN (dropN (eConf x) 11) 1 = cI x.Hist:=by simp [eConf,sub_s,sub_h,sub_l]
theorem gConf_12 (x : GConf) : takeN (dropN (eConf x) 12) 1 = cI x.Btb:=by simp [eConf,sub_s,sub_h,sub_l]
theorem gConf_13 (x : GConf) : takeN (dropN (eConf x) 13) 1 = cI x.Ras:=by simp [eConf,sub_s,sub_h,sub_l]
theorem gConf_14 (x : GConf) : takeN (dropN (eConf x) 14) 1 = cI x.Dep:=by simp [eConf,sub_s,sub_h,sub_l]
theorem gConf_15 (x : GConf) : takeN (dropN (eConf x) 15) 1 = cI x.Tlb:=by simp [eConf,sub_s,sub_h,sub_l]
theorem gConf_16 (x : GConf) : takeN (dropN (eConf x) 16) 1 = cI x.MulLat:=by simp [eConf,sub_s,sub_h,sub_l]
theorem gConf_17 (x : GConf) : takeN (dropN (eConf x) 17) 1 = cI x.DivLat:=by simp [eConf,sub_s,sub_h,sub_l]
theorem gConf_18 (x : GConf) : takeN (dropN (eConf x) 18) 1 = cI x.MemLat:=by simp [eConf,sub_s,sub_h,sub_l]
theorem gConf_19 (x : GConf) : takeN (dropN (eConf x) 19) 1 = cI x.Sets:=by simp [eConf,sub_s,sub_h,sub_l]
theorem gConf_20 (x : GConf) : takeN (dropN (eConf x) 20) 1 = cI x.Ways:=by simp [eConf,sub_s,sub_h,sub_l]
def GConf.zero : GConf:=⟨0,0,0,0,0,0,0,0,0,0,0,0,0,0,0,0,0,0,0,0,0,false⟩
structure GArch where
  PC : BitVec 32
  R : Arr (BitVec 32) 16
  C : Arr (BitVec 32) 12
  Halt : Bool
def GArch.setC (x : GArch) (v : Arr (BitVec 32) 12) : GArch:={ x with C:=v }
def eArch (x : GArch) : List V:=app (cU32 x.PC) (app ((eAr cU32) x.R) (app ((eAr cU32) x.C) (cB x.Halt)))
instance : LayC 30 eArch:=⟨⟨fun x => by simp [eArch,app_eq,lay_len],fun x => by simp [eArch,pureL_app',lay_pure],by decide⟩⟩
theorem gArch_1 (x : GArch) : takeN (dropN (eArch x) 1) 16 = (eAr cU32) x.R:=by simp [eArch,sub_s,sub_h,sub_l]
theorem gArch_2 (x : GArch) : takeN (dropN (eArch x) 17) 12 = (eAr cU32) x.C:=by simp [eArch,sub_s,sub_h,sub_l]
theorem pArch_2 (x : GArch) (v : Arr (BitVec 32) 12) : putN (eArch x) 17 ((eAr cU32) v) = eArch (x.setC v):=by simp [eArch,GArch.setC,put_s,put_h,put_l]
def GArch.zero : GArch:=⟨0,(Arr.rep 16 0),(Arr.rep 12 0),false⟩
structure GBtb where
  PC : BitVec 32
  Target : BitVec 32
  Kind : Int
def eBtb (x : GBtb) : List V:=app (cU32 x.PC) (app (cU32 x.Target) (cI x.Kind))
instance : LayC 3 eBtb:=⟨⟨fun x => by simp [eBtb,app_eq,lay_len],fun x => by simp [eBtb,pureL_app',lay_pure],by decide⟩⟩
def GBtb.zero : GBtb:=⟨0,0,0⟩
structure GPred where
  Hist : BitVec 32
  Table : List (BitVec 8)
  Btb : List GBtb
  Next : Int
  Ras : List (BitVec 32)
  Top : Int
def ePred (x : GPred) : List V:=app (cU32 x.Hist) (app ((cSl 1 cU8) x.Table) (app ((cSl 3 eBtb) x.Btb) (app (cI x.Next) (app ((cSl 1 cU32) x.Ras) (cI x.Top)))))
instance : LayC 6 ePred:=⟨⟨fun x => by simp [ePred,app_eq,lay_len],fun x => by simp [ePred,pureL_app',lay_pure],by decide⟩⟩
theorem gPred_0 (x : GPred) : takeN (dropN (ePred x) 0) 1 = cU32 x.Hist:=by simp [ePred,sub_s,sub_h,sub_l]
theorem gPred_1 (x : GPred) : takeN (dropN (ePred x) 1) 1 = (cSl 1 cU8) x.Table:=by simp [ePred,sub_s,sub_h,sub_l]
theorem gPred_2 (x : GPred) : takeN (dropN (ePred x) 2) 1 = (cSl 3 eBtb) x.Btb:=by simp [ePred,sub_s,sub_h,sub_l]
theorem gPred_3 (x : GPred) : takeN (dropN (ePred x) 3) 1 = cI x.Next:=by simp [ePred,sub_s,sub_h,sub_l]
theorem gPred_4 (x : GPred) : takeN (dropN (ePred x) 4) 1 = (cSl 1 cU32) x.Ras:=by simp [ePred,sub_s,sub_h,sub_l]
theorem gPred_5 (x : GPred) : takeN (dropN (ePred x) 5) 1 = cI x.Top:=by simp [ePred,sub_s,sub_h,sub_l]
def GPred.zero : GPred:=⟨0,[],[],0,[],0⟩
structure GPte where
  Bits : BitVec 32
  Page : Int
def ePte (x : GPte) : List V:=app (cU32 x.Bits) (cI x.Page)
instance : LayC 2 ePte:=⟨⟨fun x => by simp [ePte,app_eq,lay_len],fun x => by simp [ePte,pureL_app',lay_pure],by decide⟩⟩
def GPte.zero : GPte:=⟨0,0⟩
structure GTlb where
  Valid : Bool
  Virt : BitVec 32
  Pte : GPte
def eTlb (x : GTlb) : List V:=app (cB x.Valid) (app (cU32 x.Virt) (ePte x.Pte))
instance : LayC 4 eTlb:=⟨⟨fun x => by simp [eTlb,app_eq,lay_len],fun x => by simp [eTlb,pureL_app',lay_pure],by decide⟩⟩
def GTlb.zero : GTlb:=⟨false,0,GPte.zero⟩
structure GSave where
  Hist : BitVec 32
  Top : Int
  Val : BitVec 32
def eSave (x : GSave) : List V:=app (cU32 x.Hist) (app (cI x.Top) (cU32 x.Val))
instance : LayC 3 eSave:=⟨⟨fun x => by simp [eSave,app_eq,lay_len],fun x => by simp [eSave,pureL_app',lay_pure],by decide⟩⟩
def GSave.zero : GSave:=⟨0,0,0⟩
structure GGuess where
  Taken : Bool
  Target : BitVec 32
  Save : GSave
def eGuess (x : GGuess) : List V:=app (cB x.Taken) (app (cU32 x.Target) (eSave x.Save))
instance : LayC 5 eGuess:=⟨⟨fun x => by simp [eGuess,app_eq,lay_len],fun x => by simp [eGuess,pureL_app',lay_pure],by decide⟩⟩
def GGuess.zero : GGuess:=⟨false,0,GSave.zero⟩
structure GSlot where
  PC : BitVec 32
  Word : BitVec 32
  Cause : Int
  Tval : BitVec 32
  Guess : GGuess
def eSlot (x : GSlot) : List V:=app (cU32 x.PC) (app (cU32 x.Word) (app (cI x.Cause) (app (cU32 x.Tval) (eGuess x.Guess))))
instance : LayC 9 eSlot:=⟨⟨fun x => by simp [eSlot,app_eq,lay_len],fun x => by simp [eSlot,pureL_app',lay_pure],by decide⟩⟩
def GSlot.zero : GSlot:=⟨0,0,0,0,GGuess.zero⟩
structure GFree where
  Ring : List Int
  Head : Int
  N : Int
def eFree (x : GFree) : List V:=app ((cSl 1 cI) x.Ring) (app (cI x.Head) (cI x.N))
instance : LayC 3 eFree:=⟨⟨fun x => by simp [eFree,app_eq,lay_len],fun x => by simp [eFree,pureL_app',lay_pure],by decide⟩⟩
theorem gFree_0 (x : GFree) : takeN (dropN (eFree x) 0) 1 = (cSl 1 cI) x.Ring:=by simp [eFree,sub_s,sub_h,sub_l]
theorem gFree_1 (x : GFree) : takeN (dropN (eFree x) 1) 1 = cI x.Head:=by simp [eFree,sub_s,sub_h,sub_l]
theorem gFree_2 (x : GFree) : takeN (dropN (eFree x) 2) 1 = cI x.N:=by simp [eFree,sub_s,sub_h,sub_l]
def GFree.zero : GFree:=⟨[],0,0⟩
structure GNames where
  Map : Arr Int 16
  Done : Arr Int 16
  Free : GFree
  Seq : BitVec 64
def eNames (x : GNames) : List V:=app ((eAr cI) x.Map) (app ((eAr cI) x.Done) (app (eFree x.Free) (cU64 x.Seq)))
instance : LayC 36 eNames:=⟨⟨fun x => by simp [eNames,app_eq,lay_len],fun x => by simp [eNames,pureL_app',lay_pure],by decide⟩⟩
theorem gNames_0 (x : GNames) : takeN (dropN (eNames x) 0) 16 = (eAr cI) x.Map:=by simp [eNames,sub_s,sub_h,sub_l]
theorem gNames_1 (x : GNames) : takeN (dropN (eNames x) 16) 16 = (eAr cI) x.Done:=by simp [eNames,sub_s,sub_h,sub_l]
theorem gNames_2 (x : GNames) : takeN (dropN (eNames x) 32) 3 = eFree x.Free:=by simp [eNames,sub_s,sub_h,sub_l]
theorem gNames_3 (x : GNames) : takeN (dropN (eNames x) 35) 1 = cU64 x.Seq:=by simp [eNames,sub_s,sub_h,sub_l]
def GNames.zero : GNames:=⟨(Arr.rep 16 0),(Arr.rep 16 0),GFree.zero,0⟩
structure GPhys where
  Val : List (BitVec 32)
  Ready : List Bool
def ePhys (x : GPhys) : List V:=app ((cSl 1 cU32) x.Val) ((cSl 1 cB) x.Ready)
instance : LayC 2 ePhys:=⟨⟨fun x => by simp [ePhys,app_eq,lay_len],fun x => by simp [ePhys,pureL_app',lay_pure],by decide⟩⟩
theorem gPhys_0 (x : GPhys) : takeN (dropN (ePhys x) 0) 1 = (cSl 1 cU32) x.Val:=by simp [ePhys,sub_s,sub_h,sub_l]
theorem gPhys_1 (x : GPhys) : takeN (dropN (ePhys x) 1) 1 = (cSl 1 cB) x.Ready:=by simp [ePhys,sub_s,sub_h,sub_l]
def GPhys.zero : GPhys:=⟨[],[]⟩
structure GInst where
  Op : Int
  Rd : Int
  Ra : Int
  Rb : Int
  Imm : Int
def eInst (x : GInst) : List V:=app (cI x.Op) (app (cI x.Rd) (app (cI x.Ra) (app (cI x.Rb) (cI x.Imm))))
instance : LayC 5 eInst:=⟨⟨fun x => by simp [eInst,app_eq,lay_len],fun x => by simp [eInst,pureL_app',lay_pure],by decide⟩⟩
def GInst.zero : GInst:=⟨0,0,0,0,0⟩
structure GUop where
  Inst : GInst
  Slot : GSlot
  Unit : Int
  Part : Int
  Last : Bool
  Src : Arr Int 3
  Dst : Int
  Cause : Int
  Tval : BitVec 32
def eUop (x : GUop) : List V:=app (eInst x.Inst) (app (eSlot x.Slot) (app (cI x.Unit) (app (cI x.Part) (app (cB x.Last) (app ((eAr cI) x.Src) (app (cI x.Dst) (app (cI x.Cause) (cU32 x.Tval))))))))
instance : LayC 23 eUop:=⟨⟨fun x => by simp [eUop,app_eq,lay_len],fun x => by simp [eUop,pureL_app',lay_pure],by decide⟩⟩
theorem gUop_2 (x : GUop) : takeN (dropN (eUop x) 14) 1 = cI x.Unit:=by simp [eUop,sub_s,sub_h,sub_l]
theorem gUop_3 (x : GUop) : takeN (dropN (eUop x) 15) 1 = cI x.Part:=by simp [eUop,sub_s,sub_h,sub_l]
theorem gUop_4 (x : GUop) : takeN (dropN (eUop x) 16) 1 = cB x.Last:=by simp [eUop,sub_s,sub_h,sub_l]
theorem gUop_6 (x : GUop) : takeN (dropN (eUop x) 20) 1 = cI x.Dst:=by simp [eUop,sub_s,sub_h,sub_l]
def GUop.zero : GUop:=⟨GInst.zero,GSlot.zero,0,0,false,(Arr.rep 3 0),0,0,0⟩
structure GRen where
  Uop : GUop
  Seq : BitVec 64
  In : Arr Int 3
  Out : Int
  Old : Int
def eRen (x : GRen) : List V:=app (eUop x.Uop) (app (cU64 x.Seq) (app ((eAr cI) x.In) (app (cI x.Out) (cI x.Old))))
instance : LayC 29 eRen:=⟨⟨fun x => by simp [eRen,app_eq,lay_len],fun x => by simp [eRen,pureL_app',lay_pure],by decide⟩⟩
theorem gRen_0 (x : GRen) : takeN (dropN (eRen x) 0) 23 = eUop x.Uop:=by simp [eRen,sub_s,sub_h,sub_l]
theorem gRen_1 (x : GRen) : takeN (dropN (eRen x) 23) 1 = cU64 x.Seq:=by simp [eRen,sub_s,sub_h,sub_l]
theorem gRen_3 (x : GRen) : takeN (dropN (eRen x) 27) 1 = cI x.Out:=by simp [eRen,sub_s,sub_h,sub_l]
theorem gRen_4 (x : GRen) : takeN (dropN (eRen x) 28) 1 = cI x.Old:=by simp [eRen,sub_s,sub_h,sub_l]
def GRen.zero : GRen:=⟨GUop.zero,0,(Arr.rep 3 0),0,0⟩
structure GRob where
  Ren : GRen
  Done : Bool
  Val : BitVec 32
  Next : BitVec 32
  Cause : Int
  Tval : BitVec 32
  Stale : Bool
def eRob (x : GRob) : List V:=app (eRen x.Ren) (app (cB x.Done) (app (cU32 x.Val) (app (cU32 x.Next) (app (cI x.Cause) (app (cU32 x.Tval) (cB x.Stale))))))
instance : LayC 35 eRob:=⟨⟨fun x => by simp [eRob,app_eq,lay_len],fun x => by simp [eRob,pureL_app',lay_pure],by decide⟩⟩
theorem gRob_0 (x : GRob) : takeN (dropN (eRob x) 0) 29 = eRen x.Ren:=by simp [eRob,sub_s,sub_h,sub_l]
theorem gRob_1 (x : GRob) : takeN (dropN (eRob x) 29) 1 = cB x.Done:=by simp [eRob,sub_s,sub_h,sub_l]
theorem gRob_2 (x : GRob) : takeN (dropN (eRob x) 30) 1 = cU32 x.Val:=by simp [eRob,sub_s,sub_h,sub_l]
theorem gRob_4 (x : GRob) : takeN (dropN (eRob x) 32) 1 = cI x.Cause:=by simp [eRob,sub_s,sub_h,sub_l]
def GRob.zero : GRob:=⟨GRen.zero,false,0,0,0,0,false⟩
structure GIq where
  Ren : GRen
  Ready : Arr Bool 3
def eIq (x : GIq) : List V:=app (eRen x.Ren) ((eAr cB) x.Ready)
instance : LayC 32 eIq:=⟨⟨fun x => by simp [eIq,app_eq,lay_len],fun x => by simp [eIq,pureL_app',lay_pure],by decide⟩⟩
theorem gIq_0 (x : GIq) : takeN (dropN (eIq x) 0) 29 = eRen x.Ren:=by simp [eIq,sub_s,sub_h,sub_l]
def GIq.zero : GIq:=⟨GRen.zero,(Arr.rep 3 false)⟩
structure GLq where
  Seq : BitVec 64
  PC : BitVec 32
  Addr : BitVec 32
  Size : Int
  Known : Bool
  Done : Bool
  From : BitVec 64
  Stale : Bool
def eLq (x : GLq) : List V:=app (cU64 x.Seq) (app (cU32 x.PC) (app (cU32 x.Addr) (app (cI x.Size) (app (cB x.Known) (app (cB x.Done) (app (cU64 x.From) (cB x.Stale)))))))
instance : LayC 8 eLq:=⟨⟨fun x => by simp [eLq,app_eq,lay_len],fun x => by simp [eLq,pureL_app',lay_pure],by decide⟩⟩
theorem gLq_0 (x : GLq) : takeN (dropN (eLq x) 0) 1 = cU64 x.Seq:=by simp [eLq,sub_s,sub_h,sub_l]
def GLq.zero : GLq:=⟨0,0,0,0,false,false,0,false⟩
structure GSq where
  Seq : BitVec 64
  Addr : BitVec 32
  Data : BitVec 32
  Size : Int
  Known : Bool
def eSq (x : GSq) : List V:=app (cU64 x.Seq) (app (cU32 x.Addr) (app (cU32 x.Data) (app (cI x.Size) (cB x.Known))))
instance : LayC 5 eSq:=⟨⟨fun x => by simp [eSq,app_eq,lay_len],fun x => by simp [eSq,pureL_app',lay_pure],by decide⟩⟩
theorem gSq_0 (x : GSq) : takeN (dropN (eSq x) 0) 1 = cU64 x.Seq:=by simp [eSq,sub_s,sub_h,sub_l]
def GSq.zero : GSq:=⟨0,0,0,0,false⟩
structure GSb where
  Addr : BitVec 32
  Data : BitVec 32
  Size : Int
def eSb (x : GSb) : List V:=app (cU32 x.Addr) (app (cU32 x.Data) (cI x.Size))
instance : LayC 3 eSb:=⟨⟨fun x => by simp [eSb,app_eq,lay_len],fun x => by simp [eSb,pureL_app',lay_pure],by decide⟩⟩
def GSb.zero : GSb:=⟨0,0,0⟩
structure GFlight where
  Ren : GRen
  Unit : Int
  Left : Int
  Val : BitVec 32
  Next : BitVec 32
  Cause : Int
  Tval : BitVec 32
def GFlight.setLeft (x : GFlight) (v : Int) : GFlight:={ x with Left:=v }
def eFlight (x : GFlight) : List V:=app (eRen x.Ren) (app (cI x.Unit) (app (cI x.Left) (app (cU32 x.Val) (app (cU32 x.Next) (app (cI x.Cause) (cU32 x.Tval))))))
instance : LayC 35 eFlight:=⟨⟨fun x => by simp [eFlight,app_eq,lay_len],fun x => by simp [eFlight,pureL_app',lay_pure],by decide⟩⟩
theorem gFlight_0 (x : GFlight) : takeN (dropN (eFlight x) 0) 29 = eRen x.Ren:=by simp [eFlight,sub_s,sub_h,sub_l]
theorem gFlight_2 (x : GFlight) : takeN (dropN (eFlight x) 30) 1 = cI x.Left:=by simp [eFlight,sub_s,sub_h,sub_l]
theorem pFlight_2 (x : GFlight) (v : Int) : putN (eFlight x) 30 (cI v) = eFlight (x.setLeft v):=by simp [eFlight,GFlight.setLeft,put_s,put_h,put_l]
def GFlight.zero : GFlight:=⟨GRen.zero,0,0,0,0,0,0⟩
structure GCore where
  Conf : GConf
  A : GArch
  Shadow : List (BitVec 8)
  Out : List (BitVec 32)
  PC : BitVec 32
  Hold : Bool
  Pred : GPred
  Tlb : List GTlb
  TlbNext : Int
  Queue : List GSlot
  Names : GNames
  Phys : GPhys
  Rob : List GRob
  Iq : List GIq
  Lq : List GLq
  Sq : List GSq
  Sb : List GSb
  Units : List GFlight
  Dep : List (BitVec 8)
  Wait : Int
  Cycle : Int
def GCore.setA (x : GCore) (v : GArch) : GCore:={ x with A:=v }
def GCore.setUnits (x : GCore) (v : List GFlight) : GCore:={ x with Units:=v }
def GCore.setWait (x : GCore) (v : Int) : GCore:={ x with Wait:=v }
def GCore.setCycle (x : GCore) (v : Int) : GCore:={ x with Cycle:=v }
def eCore (x : GCore) : List V:=app (eConf x.Conf) (app (eArch x.A) (app ((cSl 1 cU8) x.Shadow) (app ((cSl 1 cU32) x.Out) (app (cU32 x.PC) (app (cB x.Hold) (app (ePred x.Pred) (app ((cSl 4 eTlb) x.Tlb) (app (cI x.TlbNext) (app ((cSl 9 eSlot) x.Queue) (app (eNames x.Names) (app (ePhys x.Phys) (app ((cSl 35 eRob) x.Rob) (app ((cSl 32 eIq) x.Iq) (app ((cSl 8 eLq) x.Lq) (app ((cSl 5 eSq) x.Sq) (app ((cSl 3 eSb) x.Sb) (app ((cSl 35 eFlight) x.Units) (app ((cSl 1 cU8) x.Dep) (app (cI x.Wait) (cI x.Cycle))))))))))))))))))))
instance : LayC 112 eCore:=⟨⟨fun x => by simp [eCore,app_eq,lay_len],fun x => by simp [eCore,pureL_app',lay_pure],by decide⟩⟩
theorem gCore_0 (x : GCore) : takeN (dropN (eCore x) 0) 22 = eConf x.Conf:=by simp [eCore,sub_s,sub_h,sub_l]
theorem gCore_1 (x : GCore) : takeN (dropN (eCore x) 22) 30 = eArch x.A:=by simp [eCore,sub_s,sub_h,sub_l]
theorem pCore_1 (x : GCore) (v : GArch) : putN (eCore x) 22 (eArch v) = eCore (x.setA v):=by simp [eCore,GCore.setA,put_s,put_h,put_l]
theorem gCore_2 (x : GCore) : takeN (dropN (eCore x) 52) 1 = (cSl 1 cU8) x.Shadow:=by simp [eCore,sub_s,sub_h,sub_l]
theorem gCore_3 (x : GCore) : takeN (dropN (eCore x) 53) 1 = (cSl 1 cU32) x.Out:=by simp [eCore,sub_s,sub_h,sub_l]
theorem gCore_4 (x : GCore) : takeN (dropN (eCore x) 54) 1 = cU32 x.PC:=by simp [eCore,sub_s,sub_h,sub_l]
theorem gCore_5 (x : GCore) : takeN (dropN (eCore x) 55) 1 = cB x.Hold:=by simp [eCore,sub_s,sub_h,sub_l]
theorem gCore_6 (x : GCore) : takeN (dropN (eCore x) 56) 6 = ePred x.Pred:=by simp [eCore,sub_s,sub_h,sub_l]
theorem gCore_7 (x : GCore) : takeN (dropN (eCore x) 62) 1 = (cSl 4 eTlb) x.Tlb:=by simp [eCore,sub_s,sub_h,sub_l]
theorem gCore_8 (x : GCore) : takeN (dropN (eCore x) 63) 1 = cI x.TlbNext:=by simp [eCore,sub_s,sub_h,sub_l]
theorem gCore_9 (x : GCore) : takeN (dropN (eCore x) 64) 1 = (cSl 9 eSlot) x.Queue:=by simp [eCore,sub_s,sub_h,sub_l]
theorem gCore_10 (x : GCore) : takeN (dropN (eCore x) 65) 36 = eNames x.Names:=by simp [eCore,sub_s,sub_h,sub_l]
theorem gCore_11 (x : GCore) : takeN (dropN (eCore x) 101) 2 = ePhys x.Phys:=by simp [eCore,sub_s,sub_h,sub_l]
theorem gCore_12 (x : GCore) : takeN (dropN (eCore x) 103) 1 = (cSl 35 eRob) x.Rob:=by simp [eCore,sub_s,sub_h,sub_l]
theorem gCore_13 (x : GCore) : takeN (dropN (eCore x) 104) 1 = (cSl 32 eIq) x.Iq:=by simp [eCore,sub_s,sub_h,sub_l]
theorem gCore_14 (x : GCore) : takeN (dropN (eCore x) 105) 1 = (cSl 8 eLq) x.Lq:=by simp [eCore,sub_s,sub_h,sub_l]
theorem gCore_15 (x : GCore) : takeN (dropN (eCore x) 106) 1 = (cSl 5 eSq) x.Sq:=by simp [eCore,sub_s,sub_h,sub_l]
theorem gCore_16 (x : GCore) : takeN (dropN (eCore x) 107) 1 = (cSl 3 eSb) x.Sb:=by simp [eCore,sub_s,sub_h,sub_l]
theorem gCore_17 (x : GCore) : takeN (dropN (eCore x) 108) 1 = (cSl 35 eFlight) x.Units:=by simp [eCore,sub_s,sub_h,sub_l]
theorem pCore_17 (x : GCore) (v : List GFlight) : putN (eCore x) 108 ((cSl 35 eFlight) v) = eCore (x.setUnits v):=by simp [eCore,GCore.setUnits,put_s,put_h,put_l]
theorem gCore_18 (x : GCore) : takeN (dropN (eCore x) 109) 1 = (cSl 1 cU8) x.Dep:=by simp [eCore,sub_s,sub_h,sub_l]
theorem gCore_19 (x : GCore) : takeN (dropN (eCore x) 110) 1 = cI x.Wait:=by simp [eCore,sub_s,sub_h,sub_l]
theorem pCore_19 (x : GCore) (v : Int) : putN (eCore x) 110 (cI v) = eCore (x.setWait v):=by simp [eCore,GCore.setWait,put_s,put_h,put_l]
theorem gCore_20 (x : GCore) : takeN (dropN (eCore x) 111) 1 = cI x.Cycle:=by simp [eCore,sub_s,sub_h,sub_l]
theorem pCore_20 (x : GCore) (v : Int) : putN (eCore x) 111 (cI v) = eCore (x.setCycle v):=by simp [eCore,GCore.setCycle,put_s,put_h,put_l]
def GCore.zero : GCore:=⟨GConf.zero,GArch.zero,[],[],0,false,GPred.zero,[],0,[],GNames.zero,GPhys.zero,[],[],[],[],[],[],[],0,0⟩
structure GWay where
  State : Int
  Tag : BitVec 32
  Data : Arr (BitVec 8) 16
  Age : Int
def eWay (x : GWay) : List V:=app (cI x.State) (app (cU32 x.Tag) (app ((eAr cU8) x.Data) (cI x.Age)))
instance : LayC 19 eWay:=⟨⟨fun x => by simp [eWay,app_eq,lay_len],fun x => by simp [eWay,pureL_app',lay_pure],by decide⟩⟩
theorem gWay_0 (x : GWay) : takeN (dropN (eWay x) 0) 1 = cI x.State:=by simp [eWay,sub_s,sub_h,sub_l]
theorem gWay_1 (x : GWay) : takeN (dropN (eWay x) 1) 1 = cU32 x.Tag:=by simp [eWay,sub_s,sub_h,sub_l]
theorem gWay_2 (x : GWay) : takeN (dropN (eWay x) 2) 16 = (eAr cU8) x.Data:=by simp [eWay,sub_s,sub_h,sub_l]
theorem gWay_3 (x : GWay) : takeN (dropN (eWay x) 18) 1 = cI x.Age:=by simp [eWay,sub_s,sub_h,sub_l]
def GWay.zero : GWay:=⟨0,0,(Arr.rep 16 0),0⟩
structure GCache where
  Sets : List (List GWay)
def eCache (x : GCache) : List V:=(cSl 1 (cSl 19 eWay)) x.Sets
instance : LayC 1 eCache:=⟨⟨fun x => lay_len (f:=(cSl 1 (cSl 19 eWay))) x.Sets,fun x => lay_pure (f:=(cSl 1 (cSl 19 eWay))) x.Sets,by decide⟩⟩
theorem gCache_0 (x : GCache) : takeN (dropN (eCache x) 0) 1 = (cSl 1 (cSl 19 eWay)) x.Sets:=by simp [eCache,sub_s,sub_h,sub_l]
def GCache.zero : GCache:=⟨[]⟩
structure GCoh where
  Mem : List (BitVec 8)
  Caches : List GCache
def eCoh (x : GCoh) : List V:=app ((cSl 1 cU8) x.Mem) ((cSl 1 eCache) x.Caches)
instance : LayC 2 eCoh:=⟨⟨fun x => by simp [eCoh,app_eq,lay_len],fun x => by simp [eCoh,pureL_app',lay_pure],by decide⟩⟩
theorem gCoh_0 (x : GCoh) : takeN (dropN (eCoh x) 0) 1 = (cSl 1 cU8) x.Mem:=by simp [eCoh,sub_s,sub_h,sub_l]
theorem gCoh_1 (x : GCoh) : takeN (dropN (eCoh x) 1) 1 = (cSl 1 eCache) x.Caches:=by simp [eCoh,sub_s,sub_h,sub_l]
def GCoh.zero : GCoh:=⟨[],[]⟩
structure GTick where
  Lines : BitVec 32
  Stall : BitVec 32
  Pick : Int
  Drain : Bool
  Grant : Int
def GTick.setStall (x : GTick) (v : BitVec 32) : GTick:={ x with Stall:=v }
def GTick.setPick (x : GTick) (v : Int) : GTick:={ x with Pick:=v }
def eTick (x : GTick) : List V:=app (cU32 x.Lines) (app (cU32 x.Stall) (app (cI x.Pick) (app (cB x.Drain) (cI x.Grant))))
instance : LayC 5 eTick:=⟨⟨fun x => by simp [eTick,app_eq,lay_len],fun x => by simp [eTick,pureL_app',lay_pure],by decide⟩⟩
theorem gTick_0 (x : GTick) : takeN (dropN (eTick x) 0) 1 = cU32 x.Lines:=by simp [eTick,sub_s,sub_h,sub_l]
theorem gTick_1 (x : GTick) : takeN (dropN (eTick x) 1) 1 = cU32 x.Stall:=by simp [eTick,sub_s,sub_h,sub_l]
theorem pTick_1 (x : GTick) (v : BitVec 32) : putN (eTick x) 1 (cU32 v) = eTick (x.setStall v):=by simp [eTick,GTick.setStall,put_s,put_h,put_l]
theorem pTick_2 (x : GTick) (v : Int) : putN (eTick x) 2 (cI v) = eTick (x.setPick v):=by simp [eTick,GTick.setPick,put_s,put_h,put_l]
theorem gTick_3 (x : GTick) : takeN (dropN (eTick x) 3) 1 = cB x.Drain:=by simp [eTick,sub_s,sub_h,sub_l]
def GTick.zero : GTick:=⟨0,0,0,false,0⟩
structure GEvent where
  PC : BitVec 32
  Word : BitVec 32
  Rd : Int
  Val : BitVec 32
  Rd2 : Int
  Val2 : BitVec 32
  Size : Int
  Addr : BitVec 32
  Data : BitVec 32
  Cause : Int
  Tval : BitVec 32
  Next : BitVec 32
def eEvent (x : GEvent) : List V:=app (cU32 x.PC) (app (cU32 x.Word) (app (cI x.Rd) (app (cU32 x.Val) (app (cI x.Rd2) (app (cU32 x.Val2) (app (cI x.Size) (app (cU32 x.Addr) (app (cU32 x.Data) (app (cI x.Cause) (app (cU32 x.Tval) (cU32 x.Next)))))))))))
def GEvent.zero : GEvent:=⟨0,0,0,0,0,0,0,0,0,0,0,0⟩
structure GNote where
  Cycle : Int
  Kind : Int
  Seq : BitVec 64
  PC : BitVec 32
def GNote.setCycle (x : GNote) (v : Int) : GNote:={ x with Cycle:=v }
def eNote (x : GNote) : List V:=app (cI x.Cycle) (app (cI x.Kind) (app (cU64 x.Seq) (cU32 x.PC)))
def GNote.zero : GNote:=⟨0,0,0,0⟩
structure GRetire_stage where
  c : GCore
  m : GCoh
  who : Int
  retired : Int
  events : List GEvent
  notes : List GNote
def eRetire_stage (x : GRetire_stage) : List V:=app (eCore x.c) (app (eCoh x.m) (app (cI x.who) (app (cI x.retired) (app ((cSl 12 eEvent) x.events) ((cSl 4 eNote) x.notes)))))
def GRetire_stage.zero : GRetire_stage:=⟨GCore.zero,GCoh.zero,0,0,[],[]⟩
def GConf.eq (a b : GConf) : Bool:=(decide (a.Fetch = b.Fetch) && (decide (a.Wide = b.Wide) && (decide (a.Issue = b.Issue) && (decide (a.Retire = b.Retire) && (decide (a.Queue = b.Queue) && (decide (a.Rob = b.Rob) && (decide (a.Iq = b.Iq) && (decide (a.Lq = b.Lq) && (decide (a.Sq = b.Sq) && (decide (a.Sb = b.Sb) && (decide (a.Phys = b.Phys) && (decide (a.Hist = b.Hist) && (decide (a.Btb = b.Btb) && (decide (a.Ras = b.Ras) && (decide (a.Dep = b.Dep) && (decide (a.Tlb = b.Tlb) && (decide (a.MulLat = b.MulLat) && (decide (a.DivLat = b.DivLat) && (decide (a.MemLat = b.MemLat) && (decide (a.Sets = b.Sets) && (decide (a.Ways = b.Ways) && (a.Eager == b.Eager))))))))))))))))))))))
def Arr25.eq (a b : Arr (BitVec 32) 16) : Bool:=Arr.eqA a b
def GArch.eq (a b : GArch) : Bool:=(decide (a.PC = b.PC) && (Arr.eqA a.R b.R && (Arr.eqA a.C b.C && (a.Halt == b.Halt))))
def Arr37.eq (a b : Arr Int 16) : Bool:=Arr.eqA a b
def GSave.eq (a b : GSave) : Bool:=(decide (a.Hist = b.Hist) && (decide (a.Top = b.Top) && decide (a.Val = b.Val)))
def GGuess.eq (a b : GGuess) : Bool:=((a.Taken == b.Taken) && (decide (a.Target = b.Target) && GSave.eq a.Save b.Save))
def GSlot.eq (a b : GSlot) : Bool:=(decide (a.PC = b.PC) && (decide (a.Word = b.Word) && (decide (a.Cause = b.Cause) && (decide (a.Tval = b.Tval) && GGuess.eq a.Guess b.Guess))))
def GInst.eq (a b : GInst) : Bool:=(decide (a.Op = b.Op) && (decide (a.Rd = b.Rd) && (decide (a.Ra = b.Ra) && (decide (a.Rb = b.Rb) && decide (a.Imm = b.Imm)))))
def GUop.eq (a b : GUop) : Bool:=(GInst.eq a.Inst b.Inst && (GSlot.eq a.Slot b.Slot && (decide (a.Unit = b.Unit) && (decide (a.Part = b.Part) && ((a.Last == b.Last) && (Arr.eqA a.Src b.Src && (decide (a.Dst = b.Dst) && (decide (a.Cause = b.Cause) && decide (a.Tval = b.Tval)))))))))
def GRen.eq (a b : GRen) : Bool:=(GUop.eq a.Uop b.Uop && (decide (a.Seq = b.Seq) && (Arr.eqA a.In b.In && (decide (a.Out = b.Out) && decide (a.Old = b.Old)))))
def GRob.eq (a b : GRob) : Bool:=(GRen.eq a.Ren b.Ren && ((a.Done == b.Done) && (decide (a.Val = b.Val) && (decide (a.Next = b.Next) && (decide (a.Cause = b.Cause) && (decide (a.Tval = b.Tval) && (a.Stale == b.Stale)))))))
def GFlight.eq (a b : GFlight) : Bool:=(GRen.eq a.Ren b.Ren && (decide (a.Unit = b.Unit) && (decide (a.Left = b.Left) && (decide (a.Val = b.Val) && (decide (a.Next = b.Next) && (decide (a.Cause = b.Cause) && decide (a.Tval = b.Tval)))))))
def GIq.eq (a b : GIq) : Bool:=(GRen.eq a.Ren b.Ren && Arr.eqA a.Ready b.Ready)
def Arr178.eq (a b : Arr (BitVec 8) 16) : Bool:=Arr.eqA a b
def GWay.eq (a b : GWay) : Bool:=(decide (a.State = b.State) && (decide (a.Tag = b.Tag) && (Arr.eqA a.Data b.Data && decide (a.Age = b.Age))))
def GPte.eq (a b : GPte) : Bool:=(decide (a.Bits = b.Bits) && decide (a.Page = b.Page))
def GTlb.eq (a b : GTlb) : Bool:=((a.Valid == b.Valid) && (decide (a.Virt = b.Virt) && GPte.eq a.Pte b.Pte))
def GLq.eq (a b : GLq) : Bool:=(decide (a.Seq = b.Seq) && (decide (a.PC = b.PC) && (decide (a.Addr = b.Addr) && (decide (a.Size = b.Size) && ((a.Known == b.Known) && ((a.Done == b.Done) && (decide (a.From = b.From) && (a.Stale == b.Stale))))))))
def GSq.eq (a b : GSq) : Bool:=(decide (a.Seq = b.Seq) && (decide (a.Addr = b.Addr) && (decide (a.Data = b.Data) && (decide (a.Size = b.Size) && (a.Known == b.Known)))))
def GSb.eq (a b : GSb) : Bool:=(decide (a.Addr = b.Addr) && (decide (a.Data = b.Data) && decide (a.Size = b.Size)))
def GBtb.eq (a b : GBtb) : Bool:=(decide (a.PC = b.PC) && (decide (a.Target = b.Target) && decide (a.Kind = b.Kind)))
end
end Go.Ev
