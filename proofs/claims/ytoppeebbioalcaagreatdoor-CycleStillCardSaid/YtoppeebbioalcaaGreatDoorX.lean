/- Core and Coh, opened (printed by a program). -/
import Derived.Test.YtoppeebbioalcaaGreatDoorEvX
import Derived.Test.YtoppeebbioalcaaGreatDoorR0
import Derived.Test.YtoppeebbioalcaaGreatDoorProg
import Derived.KernelRfl
set_option maxRecDepth 100000
set_option linter.all false
namespace Go.Ev
open Go.Proofs
noncomputable section
theorem dec3 : Dec Tryz.prog 3 cI (fun _ => True):=dec_I Tryz.underlying3
theorem c3 : Tryz.prog.cellsOf 3 = 1:=by kernel_rfl
theorem dec4 : Dec Tryz.prog 4 cB (fun _ => True):=dec_B Tryz.underlying4
theorem c4 : Tryz.prog.cellsOf 4 = 1:=by kernel_rfl
theorem c23 : Tryz.prog.cellsOf 23 = 22:=by kernel_rfl
theorem dec23 : Dec Tryz.prog 23 eConf (fun _ => True):=fun enc W fuel cs x hx => by
  obtain ⟨xs,m,_,_,hl,hn,hel⟩:=DataW.trod_struct Tryz.underlying23 hx
  obtain ⟨a0,l0,r0⟩:=fl hn (hel 0 _ rfl) c3 dec3
  obtain ⟨a1,l1,r1⟩:=fl hn (hel 1 _ rfl) c3 dec3
  obtain ⟨a2,l2,r2⟩:=fl hn (hel 2 _ rfl) c3 dec3
  obtain ⟨a3,l3,r3⟩:=fl hn (hel 3 _ rfl) c3 dec3
  obtain ⟨a4,l4,r4⟩:=fl hn (hel 4 _ rfl) c3 dec3
  obtain ⟨a5,l5,r5⟩:=fl hn (hel 5 _ rfl) c3 dec3
  obtain ⟨a6,l6,r6⟩:=fl hn (hel 6 _ rfl) c3 dec3
  obtain ⟨a7,l7,r7⟩:=fl hn (hel 7 _ rfl) c3 dec3
  obtain ⟨a8,l8,r8⟩:=fl hn (hel 8 _ rfl) c3 dec3
  obtain ⟨a9,l9,r9⟩:=fl hn (hel 9 _ rfl) c3 dec3
  obtain ⟨a10,l10,r10⟩:=fl hn (hel 10 _ rfl) c3 dec3
  obtain ⟨a11,l11,r11⟩:=fl hn (hel 11 _ rfl) c3 dec3
  obtain ⟨a12,l12,r12⟩:=fl hn (hel 12 _ rfl) c3 dec3
  obtain ⟨a13,l13,r13⟩:=fl hn (hel 13 _ rfl) c3 dec3
  obtain ⟨a14,l14,r14⟩:=fl hn (hel 14 _ rfl) c3 dec3
  obtain ⟨a15,l15,r15⟩:=fl hn (hel 15 _ rfl) c3 dec3
  obtain ⟨a16,l16,r16⟩:=fl hn (hel 16 _ rfl) c3 dec3
  obtain ⟨a17,l17,r17⟩:=fl hn (hel 17 _ rfl) c3 dec3
  obtain ⟨a18,l18,r18⟩:=fl hn (hel 18 _ rfl) c3 dec3
  obtain ⟨a19,l19,r19⟩:=fl hn (hel 19 _ rfl) c3 dec3
  obtain ⟨a20,l20,r20⟩:=fl hn (hel 20 _ rfl) c3 dec3
  obtain ⟨a21,l21,r21⟩:=fl hn (hel 21 _ rfl) c4 dec4
  exact ⟨⟨a0,a1,a2,a3,a4,a5,a6,a7,a8,a9,a10,a11,a12,a13,a14,a15,a16,a17,a18,a19,a20,a21⟩,trivial,rc r0 rfl (rc r1 rfl (rc r2 rfl (rc r3 rfl (rc r4 rfl (rc r5 rfl (rc r6 rfl (rc r7 rfl (rc r8 rfl (rc r9 rfl (rc r10 rfl (rc r11 rfl (rc r12 rfl (rc r13 rfl (rc r14 rfl (rc r15 rfl (rc r16 rfl (rc r17 rfl (rc r18 rfl (rc r19 rfl (rc r20 rfl (RVs_last r21 (hl.trans c23))))))))))))))))))))))⟩
theorem dec24 : Dec Tryz.prog 24 cU32 (fun _ => True):=dec_U32 Tryz.underlying24
theorem c24 : Tryz.prog.cellsOf 24 = 1:=by kernel_rfl
theorem c25 : Tryz.prog.cellsOf 25 = 16:=by kernel_rfl
theorem dec25 : Dec Tryz.prog 25 (eAr (n:=16) cU32) (fun _ => True):=dec_A Tryz.underlying25 c24 c25 dec24
theorem c26 : Tryz.prog.cellsOf 26 = 12:=by kernel_rfl
theorem dec26 : Dec Tryz.prog 26 (eAr (n:=12) cU32) (fun _ => True):=dec_A Tryz.underlying26 c24 c26 dec24
theorem c28 : Tryz.prog.cellsOf 28 = 30:=by kernel_rfl
theorem dec28 : Dec Tryz.prog 28 eArch (fun _ => True):=fun enc W fuel cs x hx => by
  obtain ⟨xs,m,_,_,hl,hn,hel⟩:=DataW.trod_struct Tryz.underlying28 hx
  obtain ⟨a0,l0,r0⟩:=fl hn (hel 0 _ rfl) c24 dec24
  obtain ⟨a1,l1,r1⟩:=fl hn (hel 1 _ rfl) c25 dec25
  obtain ⟨a2,l2,r2⟩:=fl hn (hel 2 _ rfl) c26 dec26
  obtain ⟨a3,l3,r3⟩:=fl hn (hel 3 _ rfl) c4 dec4
  exact ⟨⟨a0,a1,a2,a3⟩,trivial,rc r0 rfl (rc r1 rfl (rc r2 rfl (RVs_last r3 (hl.trans c28))))⟩
theorem dec5 : Dec Tryz.prog 5 cU8 (fun _ => True):=dec_U8 Tryz.underlying5
theorem c5 : Tryz.prog.cellsOf 5 = 1:=by kernel_rfl
theorem dec29 : Dec Tryz.prog 29 (cSl 1 cU8) (fun l => l.length ≤ maxLen ∧ ∀ a ∈ l,(fun _ => True) a):=dec_S Tryz.underlying29 c5 (by decide) (LayC.lay (f:=cU8)) dec5
theorem c29 : Tryz.prog.cellsOf 29 = 1:=by kernel_rfl
theorem dec30 : Dec Tryz.prog 30 (cSl 1 cU32) (fun l => l.length ≤ maxLen ∧ ∀ a ∈ l,(fun _ => True) a):=dec_S Tryz.underlying30 c24 (by decide) (LayC.lay (f:=cU32)) dec24
theorem c30 : Tryz.prog.cellsOf 30 = 1:=by kernel_rfl
theorem c287 : Tryz.prog.cellsOf 287 = 3:=by kernel_rfl
theorem dec287 : Dec Tryz.prog 287 eBtb (fun _ => True):=fun enc W fuel cs x hx => by
  obtain ⟨xs,m,_,_,hl,hn,hel⟩:=DataW.trod_struct Tryz.underlying287 hx
  obtain ⟨a0,l0,r0⟩:=fl hn (hel 0 _ rfl) c24 dec24
  obtain ⟨a1,l1,r1⟩:=fl hn (hel 1 _ rfl) c24 dec24
  obtain ⟨a2,l2,r2⟩:=fl hn (hel 2 _ rfl) c3 dec3
  exact ⟨⟨a0,a1,a2⟩,trivial,rc r0 rfl (rc r1 rfl (RVs_last r2 (hl.trans c287)))⟩
theorem dec31 : Dec Tryz.prog 31 (cSl 3 eBtb) (fun l => l.length ≤ maxLen ∧ ∀ a ∈ l,(fun _ => True) a):=dec_S Tryz.underlying31 c287 (by decide) (LayC.lay (f:=eBtb)) dec287
theorem c31 : Tryz.prog.cellsOf 31 = 1:=by kernel_rfl
theorem c33 : Tryz.prog.cellsOf 33 = 6:=by kernel_rfl
theorem dec33 : Dec Tryz.prog 33 ePred (fun _ => True):=fun enc W fuel cs x hx => by
  obtain ⟨xs,m,_,_,hl,hn,hel⟩:=DataW.trod_struct Tryz.underlying33 hx
  obtain ⟨a0,l0,r0⟩:=fl hn (hel 0 _ rfl) c24 dec24
  obtain ⟨a1,l1,r1⟩:=fl hn (hel 1 _ rfl) c29 dec29
  obtain ⟨a2,l2,r2⟩:=fl hn (hel 2 _ rfl) c31 dec31
  obtain ⟨a3,l3,r3⟩:=fl hn (hel 3 _ rfl) c3 dec3
  obtain ⟨a4,l4,r4⟩:=fl hn (hel 4 _ rfl) c30 dec30
  obtain ⟨a5,l5,r5⟩:=fl hn (hel 5 _ rfl) c3 dec3
  exact ⟨⟨a0,a1,a2,a3,a4,a5⟩,trivial,rc r0 rfl (rc r1 rfl (rc r2 rfl (rc r3 rfl (rc r4 rfl (RVs_last r5 (hl.trans c33))))))⟩
theorem c183 : Tryz.prog.cellsOf 183 = 2:=by kernel_rfl
theorem dec183 : Dec Tryz.prog 183 ePte (fun _ => True):=fun enc W fuel cs x hx => by
  obtain ⟨xs,m,_,_,hl,hn,hel⟩:=DataW.trod_struct Tryz.underlying183 hx
  obtain ⟨a0,l0,r0⟩:=fl hn (hel 0 _ rfl) c24 dec24
  obtain ⟨a1,l1,r1⟩:=fl hn (hel 1 _ rfl) c3 dec3
  exact ⟨⟨a0,a1⟩,trivial,rc r0 rfl (RVs_last r1 (hl.trans c183))⟩
theorem c185 : Tryz.prog.cellsOf 185 = 4:=by kernel_rfl
theorem dec185 : Dec Tryz.prog 185 eTlb (fun _ => True):=fun enc W fuel cs x hx => by
  obtain ⟨xs,m,_,_,hl,hn,hel⟩:=DataW.trod_struct Tryz.underlying185 hx
  obtain ⟨a0,l0,r0⟩:=fl hn (hel 0 _ rfl) c4 dec4
  obtain ⟨a1,l1,r1⟩:=fl hn (hel 1 _ rfl) c24 dec24
  obtain ⟨a2,l2,r2⟩:=fl hn (hel 2 _ rfl) c183 dec183
  exact ⟨⟨a0,a1,a2⟩,trivial,rc r0 rfl (rc r1 rfl (RVs_last r2 (hl.trans c185)))⟩
theorem dec34 : Dec Tryz.prog 34 (cSl 4 eTlb) (fun l => l.length ≤ maxLen ∧ ∀ a ∈ l,(fun _ => True) a):=dec_S Tryz.underlying34 c185 (by decide) (LayC.lay (f:=eTlb)) dec185
theorem c34 : Tryz.prog.cellsOf 34 = 1:=by kernel_rfl
theorem c117 : Tryz.prog.cellsOf 117 = 3:=by kernel_rfl
theorem dec117 : Dec Tryz.prog 117 eSave (fun _ => True):=fun enc W fuel cs x hx => by
  obtain ⟨xs,m,_,_,hl,hn,hel⟩:=DataW.trod_struct Tryz.underlying117 hx
  obtain ⟨a0,l0,r0⟩:=fl hn (hel 0 _ rfl) c24 dec24
  obtain ⟨a1,l1,r1⟩:=fl hn (hel 1 _ rfl) c3 dec3
  obtain ⟨a2,l2,r2⟩:=fl hn (hel 2 _ rfl) c24 dec24
  exact ⟨⟨a0,a1,a2⟩,trivial,rc r0 rfl (rc r1 rfl (RVs_last r2 (hl.trans c117)))⟩
theorem c119 : Tryz.prog.cellsOf 119 = 5:=by kernel_rfl
theorem dec119 : Dec Tryz.prog 119 eGuess (fun _ => True):=fun enc W fuel cs x hx => by
  obtain ⟨xs,m,_,_,hl,hn,hel⟩:=DataW.trod_struct Tryz.underlying119 hx
  obtain ⟨a0,l0,r0⟩:=fl hn (hel 0 _ rfl) c4 dec4
  obtain ⟨a1,l1,r1⟩:=fl hn (hel 1 _ rfl) c24 dec24
  obtain ⟨a2,l2,r2⟩:=fl hn (hel 2 _ rfl) c117 dec117
  exact ⟨⟨a0,a1,a2⟩,trivial,rc r0 rfl (rc r1 rfl (RVs_last r2 (hl.trans c119)))⟩
theorem c121 : Tryz.prog.cellsOf 121 = 9:=by kernel_rfl
theorem dec121 : Dec Tryz.prog 121 eSlot (fun _ => True):=fun enc W fuel cs x hx => by
  obtain ⟨xs,m,_,_,hl,hn,hel⟩:=DataW.trod_struct Tryz.underlying121 hx
  obtain ⟨a0,l0,r0⟩:=fl hn (hel 0 _ rfl) c24 dec24
  obtain ⟨a1,l1,r1⟩:=fl hn (hel 1 _ rfl) c24 dec24
  obtain ⟨a2,l2,r2⟩:=fl hn (hel 2 _ rfl) c3 dec3
  obtain ⟨a3,l3,r3⟩:=fl hn (hel 3 _ rfl) c24 dec24
  obtain ⟨a4,l4,r4⟩:=fl hn (hel 4 _ rfl) c119 dec119
  exact ⟨⟨a0,a1,a2,a3,a4⟩,trivial,rc r0 rfl (rc r1 rfl (rc r2 rfl (rc r3 rfl (RVs_last r4 (hl.trans c121)))))⟩
theorem dec35 : Dec Tryz.prog 35 (cSl 9 eSlot) (fun l => l.length ≤ maxLen ∧ ∀ a ∈ l,(fun _ => True) a):=dec_S Tryz.underlying35 c121 (by decide) (LayC.lay (f:=eSlot)) dec121
theorem c35 : Tryz.prog.cellsOf 35 = 1:=by kernel_rfl
theorem c37 : Tryz.prog.cellsOf 37 = 16:=by kernel_rfl
theorem dec37 : Dec Tryz.prog 37 (eAr (n:=16) cI) (fun _ => True):=dec_A Tryz.underlying37 c3 c37 dec3
theorem dec38 : Dec Tryz.prog 38 (cSl 1 cI) (fun l => l.length ≤ maxLen ∧ ∀ a ∈ l,(fun _ => True) a):=dec_S Tryz.underlying38 c3 (by decide) (LayC.lay (f:=cI)) dec3
theorem c38 : Tryz.prog.cellsOf 38 = 1:=by kernel_rfl
theorem c40 : Tryz.prog.cellsOf 40 = 3:=by kernel_rfl
theorem dec40 : Dec Tryz.prog 40 eFree (fun _ => True):=fun enc W fuel cs x hx => by
  obtain ⟨xs,m,_,_,hl,hn,hel⟩:=DataW.trod_struct Tryz.underlying40 hx
  obtain ⟨a0,l0,r0⟩:=fl hn (hel 0 _ rfl) c38 dec38
  obtain ⟨a1,l1,r1⟩:=fl hn (hel 1 _ rfl) c3 dec3
  obtain ⟨a2,l2,r2⟩:=fl hn (hel 2 _ rfl) c3 dec3
  exact ⟨⟨a0,a1,a2⟩,trivial,rc r0 rfl (rc r1 rfl (RVs_last r2 (hl.trans c40)))⟩
theorem dec41 : Dec Tryz.prog 41 cU64 (fun _ => True):=dec_U64 Tryz.underlying41
theorem c41 : Tryz.prog.cellsOf 41 = 1:=by kernel_rfl
theorem c43 : Tryz.prog.cellsOf 43 = 36:=by kernel_rfl
theorem dec43 : Dec Tryz.prog 43 eNames (fun _ => True):=fun enc W fuel cs x hx => by
  obtain ⟨xs,m,_,_,hl,hn,hel⟩:=DataW.trod_struct Tryz.underlying43 hx
  obtain ⟨a0,l0,r0⟩:=fl hn (hel 0 _ rfl) c37 dec37
  obtain ⟨a1,l1,r1⟩:=fl hn (hel 1 _ rfl) c37 dec37
  obtain ⟨a2,l2,r2⟩:=fl hn (hel 2 _ rfl) c40 dec40
  obtain ⟨a3,l3,r3⟩:=fl hn (hel 3 _ rfl) c41 dec41
  exact ⟨⟨a0,a1,a2,a3⟩,trivial,rc r0 rfl (rc r1 rfl (rc r2 rfl (RVs_last r3 (hl.trans c43))))⟩
theorem dec44 : Dec Tryz.prog 44 (cSl 1 cB) (fun l => l.length ≤ maxLen ∧ ∀ a ∈ l,(fun _ => True) a):=dec_S Tryz.underlying44 c4 (by decide) (LayC.lay (f:=cB)) dec4
theorem c44 : Tryz.prog.cellsOf 44 = 1:=by kernel_rfl
theorem c46 : Tryz.prog.cellsOf 46 = 2:=by kernel_rfl
theorem dec46 : Dec Tryz.prog 46 ePhys (fun _ => True):=fun enc W fuel cs x hx => by
  obtain ⟨xs,m,_,_,hl,hn,hel⟩:=DataW.trod_struct Tryz.underlying46 hx
  obtain ⟨a0,l0,r0⟩:=fl hn (hel 0 _ rfl) c30 dec30
  obtain ⟨a1,l1,r1⟩:=fl hn (hel 1 _ rfl) c44 dec44
  exact ⟨⟨a0,a1⟩,trivial,rc r0 rfl (RVs_last r1 (hl.trans c46))⟩
theorem c115 : Tryz.prog.cellsOf 115 = 5:=by kernel_rfl
theorem dec115 : Dec Tryz.prog 115 eInst (fun _ => True):=fun enc W fuel cs x hx => by
  obtain ⟨xs,m,_,_,hl,hn,hel⟩:=DataW.trod_struct Tryz.underlying115 hx
  obtain ⟨a0,l0,r0⟩:=fl hn (hel 0 _ rfl) c3 dec3
  obtain ⟨a1,l1,r1⟩:=fl hn (hel 1 _ rfl) c3 dec3
  obtain ⟨a2,l2,r2⟩:=fl hn (hel 2 _ rfl) c3 dec3
  obtain ⟨a3,l3,r3⟩:=fl hn (hel 3 _ rfl) c3 dec3
  obtain ⟨a4,l4,r4⟩:=fl hn (hel 4 _ rfl) c3 dec3
  exact ⟨⟨a0,a1,a2,a3,a4⟩,trivial,rc r0 rfl (rc r1 rfl (rc r2 rfl (rc r3 rfl (RVs_last r4 (hl.trans c115)))))⟩
theorem c122 : Tryz.prog.cellsOf 122 = 3:=by kernel_rfl
theorem dec122 : Dec Tryz.prog 122 (eAr (n:=3) cI) (fun _ => True):=dec_A Tryz.underlying122 c3 c122 dec3
theorem c124 : Tryz.prog.cellsOf 124 = 23:=by kernel_rfl
theorem dec124 : Dec Tryz.prog 124 eUop (fun _ => True):=fun enc W fuel cs x hx => by
  obtain ⟨xs,m,_,_,hl,hn,hel⟩:=DataW.trod_struct Tryz.underlying124 hx
  obtain ⟨a0,l0,r0⟩:=fl hn (hel 0 _ rfl) c115 dec115
  obtain ⟨a1,l1,r1⟩:=fl hn (hel 1 _ rfl) c121 dec121
  obtain ⟨a2,l2,r2⟩:=fl hn (hel 2 _ rfl) c3 dec3
  obtain ⟨a3,l3,r3⟩:=fl hn (hel 3 _ rfl) c3 dec3
  obtain ⟨a4,l4,r4⟩:=fl hn (hel 4 _ rfl) c4 dec4
  obtain ⟨a5,l5,r5⟩:=fl hn (hel 5 _ rfl) c122 dec122
  obtain ⟨a6,l6,r6⟩:=fl hn (hel 6 _ rfl) c3 dec3
  obtain ⟨a7,l7,r7⟩:=fl hn (hel 7 _ rfl) c3 dec3
  obtain ⟨a8,l8,r8⟩:=fl hn (hel 8 _ rfl) c24 dec24
  exact ⟨⟨a0,a1,a2,a3,a4,a5,a6,a7,a8⟩,trivial,rc r0 rfl (rc r1 rfl (rc r2 rfl (rc r3 rfl (rc r4 rfl (rc r5 rfl (rc r6 rfl (rc r7 rfl (RVs_last r8 (hl.trans c124)))))))))⟩
theorem c126 : Tryz.prog.cellsOf 126 = 29:=by kernel_rfl
theorem dec126 : Dec Tryz.prog 126 eRen (fun _ => True):=fun enc W fuel cs x hx => by
  obtain ⟨xs,m,_,_,hl,hn,hel⟩:=DataW.trod_struct Tryz.underlying126 hx
  obtain ⟨a0,l0,r0⟩:=fl hn (hel 0 _ rfl) c124 dec124
  obtain ⟨a1,l1,r1⟩:=fl hn (hel 1 _ rfl) c41 dec41
  obtain ⟨a2,l2,r2⟩:=fl hn (hel 2 _ rfl) c122 dec122
  obtain ⟨a3,l3,r3⟩:=fl hn (hel 3 _ rfl) c3 dec3
  obtain ⟨a4,l4,r4⟩:=fl hn (hel 4 _ rfl) c3 dec3
  exact ⟨⟨a0,a1,a2,a3,a4⟩,trivial,rc r0 rfl (rc r1 rfl (rc r2 rfl (rc r3 rfl (RVs_last r4 (hl.trans c126)))))⟩
theorem c128 : Tryz.prog.cellsOf 128 = 35:=by kernel_rfl
theorem dec128 : Dec Tryz.prog 128 eRob (fun _ => True):=fun enc W fuel cs x hx => by
  obtain ⟨xs,m,_,_,hl,hn,hel⟩:=DataW.trod_struct Tryz.underlying128 hx
  obtain ⟨a0,l0,r0⟩:=fl hn (hel 0 _ rfl) c126 dec126
  obtain ⟨a1,l1,r1⟩:=fl hn (hel 1 _ rfl) c4 dec4
  obtain ⟨a2,l2,r2⟩:=fl hn (hel 2 _ rfl) c24 dec24
  obtain ⟨a3,l3,r3⟩:=fl hn (hel 3 _ rfl) c24 dec24
  obtain ⟨a4,l4,r4⟩:=fl hn (hel 4 _ rfl) c3 dec3
  obtain ⟨a5,l5,r5⟩:=fl hn (hel 5 _ rfl) c24 dec24
  obtain ⟨a6,l6,r6⟩:=fl hn (hel 6 _ rfl) c4 dec4
  exact ⟨⟨a0,a1,a2,a3,a4,a5,a6⟩,trivial,rc r0 rfl (rc r1 rfl (rc r2 rfl (rc r3 rfl (rc r4 rfl (rc r5 rfl (RVs_last r6 (hl.trans c128)))))))⟩
theorem dec47 : Dec Tryz.prog 47 (cSl 35 eRob) (fun l => l.length ≤ maxLen ∧ ∀ a ∈ l,(fun _ => True) a):=dec_S Tryz.underlying47 c128 (by decide) (LayC.lay (f:=eRob)) dec128
theorem c47 : Tryz.prog.cellsOf 47 = 1:=by kernel_rfl
theorem c154 : Tryz.prog.cellsOf 154 = 3:=by kernel_rfl
theorem dec154 : Dec Tryz.prog 154 (eAr (n:=3) cB) (fun _ => True):=dec_A Tryz.underlying154 c4 c154 dec4
theorem c156 : Tryz.prog.cellsOf 156 = 32:=by kernel_rfl
theorem dec156 : Dec Tryz.prog 156 eIq (fun _ => True):=fun enc W fuel cs x hx => by
  obtain ⟨xs,m,_,_,hl,hn,hel⟩:=DataW.trod_struct Tryz.underlying156 hx
  obtain ⟨a0,l0,r0⟩:=fl hn (hel 0 _ rfl) c126 dec126
  obtain ⟨a1,l1,r1⟩:=fl hn (hel 1 _ rfl) c154 dec154
  exact ⟨⟨a0,a1⟩,trivial,rc r0 rfl (RVs_last r1 (hl.trans c156))⟩
theorem dec48 : Dec Tryz.prog 48 (cSl 32 eIq) (fun l => l.length ≤ maxLen ∧ ∀ a ∈ l,(fun _ => True) a):=dec_S Tryz.underlying48 c156 (by decide) (LayC.lay (f:=eIq)) dec156
theorem c48 : Tryz.prog.cellsOf 48 = 1:=by kernel_rfl
theorem c189 : Tryz.prog.cellsOf 189 = 8:=by kernel_rfl
theorem dec189 : Dec Tryz.prog 189 eLq (fun _ => True):=fun enc W fuel cs x hx => by
  obtain ⟨xs,m,_,_,hl,hn,hel⟩:=DataW.trod_struct Tryz.underlying189 hx
  obtain ⟨a0,l0,r0⟩:=fl hn (hel 0 _ rfl) c41 dec41
  obtain ⟨a1,l1,r1⟩:=fl hn (hel 1 _ rfl) c24 dec24
  obtain ⟨a2,l2,r2⟩:=fl hn (hel 2 _ rfl) c24 dec24
  obtain ⟨a3,l3,r3⟩:=fl hn (hel 3 _ rfl) c3 dec3
  obtain ⟨a4,l4,r4⟩:=fl hn (hel 4 _ rfl) c4 dec4
  obtain ⟨a5,l5,r5⟩:=fl hn (hel 5 _ rfl) c4 dec4
  obtain ⟨a6,l6,r6⟩:=fl hn (hel 6 _ rfl) c41 dec41
  obtain ⟨a7,l7,r7⟩:=fl hn (hel 7 _ rfl) c4 dec4
  exact ⟨⟨a0,a1,a2,a3,a4,a5,a6,a7⟩,trivial,rc r0 rfl (rc r1 rfl (rc r2 rfl (rc r3 rfl (rc r4 rfl (rc r5 rfl (rc r6 rfl (RVs_last r7 (hl.trans c189))))))))⟩
theorem dec49 : Dec Tryz.prog 49 (cSl 8 eLq) (fun l => l.length ≤ maxLen ∧ ∀ a ∈ l,(fun _ => True) a):=dec_S Tryz.underlying49 c189 (by decide) (LayC.lay (f:=eLq)) dec189
theorem c49 : Tryz.prog.cellsOf 49 = 1:=by kernel_rfl
theorem c191 : Tryz.prog.cellsOf 191 = 5:=by kernel_rfl
theorem dec191 : Dec Tryz.prog 191 eSq (fun _ => True):=fun enc W fuel cs x hx => by
  obtain ⟨xs,m,_,_,hl,hn,hel⟩:=DataW.trod_struct Tryz.underlying191 hx
  obtain ⟨a0,l0,r0⟩:=fl hn (hel 0 _ rfl) c41 dec41
  obtain ⟨a1,l1,r1⟩:=fl hn (hel 1 _ rfl) c24 dec24
  obtain ⟨a2,l2,r2⟩:=fl hn (hel 2 _ rfl) c24 dec24
  obtain ⟨a3,l3,r3⟩:=fl hn (hel 3 _ rfl) c3 dec3
  obtain ⟨a4,l4,r4⟩:=fl hn (hel 4 _ rfl) c4 dec4
  exact ⟨⟨a0,a1,a2,a3,a4⟩,trivial,rc r0 rfl (rc r1 rfl (rc r2 rfl (rc r3 rfl (RVs_last r4 (hl.trans c191)))))⟩
theorem dec50 : Dec Tryz.prog 50 (cSl 5 eSq) (fun l => l.length ≤ maxLen ∧ ∀ a ∈ l,(fun _ => True) a):=dec_S Tryz.underlying50 c191 (by decide) (LayC.lay (f:=eSq)) dec191
theorem c50 : Tryz.prog.cellsOf 50 = 1:=by kernel_rfl
theorem c193 : Tryz.prog.cellsOf 193 = 3:=by kernel_rfl
theorem dec193 : Dec Tryz.prog 193 eSb (fun _ => True):=fun enc W fuel cs x hx => by
  obtain ⟨xs,m,_,_,hl,hn,hel⟩:=DataW.trod_struct Tryz.underlying193 hx
  obtain ⟨a0,l0,r0⟩:=fl hn (hel 0 _ rfl) c24 dec24
  obtain ⟨a1,l1,r1⟩:=fl hn (hel 1 _ rfl) c24 dec24
  obtain ⟨a2,l2,r2⟩:=fl hn (hel 2 _ rfl) c3 dec3
  exact ⟨⟨a0,a1,a2⟩,trivial,rc r0 rfl (rc r1 rfl (RVs_last r2 (hl.trans c193)))⟩
theorem dec51 : Dec Tryz.prog 51 (cSl 3 eSb) (fun l => l.length ≤ maxLen ∧ ∀ a ∈ l,(fun _ => True) a):=dec_S Tryz.underlying51 c193 (by decide) (LayC.lay (f:=eSb)) dec193
theorem c51 : Tryz.prog.cellsOf 51 = 1:=by kernel_rfl
theorem c149 : Tryz.prog.cellsOf 149 = 35:=by kernel_rfl
theorem dec149 : Dec Tryz.prog 149 eFlight (fun _ => True):=fun enc W fuel cs x hx => by
  obtain ⟨xs,m,_,_,hl,hn,hel⟩:=DataW.trod_struct Tryz.underlying149 hx
  obtain ⟨a0,l0,r0⟩:=fl hn (hel 0 _ rfl) c126 dec126
  obtain ⟨a1,l1,r1⟩:=fl hn (hel 1 _ rfl) c3 dec3
  obtain ⟨a2,l2,r2⟩:=fl hn (hel 2 _ rfl) c3 dec3
  obtain ⟨a3,l3,r3⟩:=fl hn (hel 3 _ rfl) c24 dec24
  obtain ⟨a4,l4,r4⟩:=fl hn (hel 4 _ rfl) c24 dec24
  obtain ⟨a5,l5,r5⟩:=fl hn (hel 5 _ rfl) c3 dec3
  obtain ⟨a6,l6,r6⟩:=fl hn (hel 6 _ rfl) c24 dec24
  exact ⟨⟨a0,a1,a2,a3,a4,a5,a6⟩,trivial,rc r0 rfl (rc r1 rfl (rc r2 rfl (rc r3 rfl (rc r4 rfl (rc r5 rfl (RVs_last r6 (hl.trans c149)))))))⟩
theorem dec52 : Dec Tryz.prog 52 (cSl 35 eFlight) (fun l => l.length ≤ maxLen ∧ ∀ a ∈ l,(fun _ => True) a):=dec_S Tryz.underlying52 c149 (by decide) (LayC.lay (f:=eFlight)) dec149
theorem c52 : Tryz.prog.cellsOf 52 = 1:=by kernel_rfl
theorem c54 : Tryz.prog.cellsOf 54 = 112:=by kernel_rfl
theorem dec54 : Dec Tryz.prog 54 eCore (fun _ => True):=fun enc W fuel cs x hx => by
  obtain ⟨xs,m,_,_,hl,hn,hel⟩:=DataW.trod_struct Tryz.underlying54 hx
  obtain ⟨a0,l0,r0⟩:=fl hn (hel 0 _ rfl) c23 dec23
  obtain ⟨a1,l1,r1⟩:=fl hn (hel 1 _ rfl) c28 dec28
  obtain ⟨a2,l2,r2⟩:=fl hn (hel 2 _ rfl) c29 dec29
  obtain ⟨a3,l3,r3⟩:=fl hn (hel 3 _ rfl) c30 dec30
  obtain ⟨a4,l4,r4⟩:=fl hn (hel 4 _ rfl) c24 dec24
  obtain ⟨a5,l5,r5⟩:=fl hn (hel 5 _ rfl) c4 dec4
  obtain ⟨a6,l6,r6⟩:=fl hn (hel 6 _ rfl) c33 dec33
  obtain ⟨a7,l7,r7⟩:=fl hn (hel 7 _ rfl) c34 dec34
  obtain ⟨a8,l8,r8⟩:=fl hn (hel 8 _ rfl) c3 dec3
  obtain ⟨a9,l9,r9⟩:=fl hn (hel 9 _ rfl) c35 dec35
  obtain ⟨a10,l10,r10⟩:=fl hn (hel 10 _ rfl) c43 dec43
  obtain ⟨a11,l11,r11⟩:=fl hn (hel 11 _ rfl) c46 dec46
  obtain ⟨a12,l12,r12⟩:=fl hn (hel 12 _ rfl) c47 dec47
  obtain ⟨a13,l13,r13⟩:=fl hn (hel 13 _ rfl) c48 dec48
  obtain ⟨a14,l14,r14⟩:=fl hn (hel 14 _ rfl) c49 dec49
  obtain ⟨a15,l15,r15⟩:=fl hn (hel 15 _ rfl) c50 dec50
  obtain ⟨a16,l16,r16⟩:=fl hn (hel 16 _ rfl) c51 dec51
  obtain ⟨a17,l17,r17⟩:=fl hn (hel 17 _ rfl) c52 dec52
  obtain ⟨a18,l18,r18⟩:=fl hn (hel 18 _ rfl) c29 dec29
  obtain ⟨a19,l19,r19⟩:=fl hn (hel 19 _ rfl) c3 dec3
  obtain ⟨a20,l20,r20⟩:=fl hn (hel 20 _ rfl) c3 dec3
  exact ⟨⟨a0,a1,a2,a3,a4,a5,a6,a7,a8,a9,a10,a11,a12,a13,a14,a15,a16,a17,a18,a19,a20⟩,trivial,rc r0 rfl (rc r1 rfl (rc r2 rfl (rc r3 rfl (rc r4 rfl (rc r5 rfl (rc r6 rfl (rc r7 rfl (rc r8 rfl (rc r9 rfl (rc r10 rfl (rc r11 rfl (rc r12 rfl (rc r13 rfl (rc r14 rfl (rc r15 rfl (rc r16 rfl (rc r17 rfl (rc r18 rfl (rc r19 rfl (RVs_last r20 (hl.trans c54)))))))))))))))))))))⟩
theorem c178 : Tryz.prog.cellsOf 178 = 16:=by kernel_rfl
theorem dec178 : Dec Tryz.prog 178 (eAr (n:=16) cU8) (fun _ => True):=dec_A Tryz.underlying178 c5 c178 dec5
theorem c180 : Tryz.prog.cellsOf 180 = 19:=by kernel_rfl
theorem dec180 : Dec Tryz.prog 180 eWay (fun _ => True):=fun enc W fuel cs x hx => by
  obtain ⟨xs,m,_,_,hl,hn,hel⟩:=DataW.trod_struct Tryz.underlying180 hx
  obtain ⟨a0,l0,r0⟩:=fl hn (hel 0 _ rfl) c3 dec3
  obtain ⟨a1,l1,r1⟩:=fl hn (hel 1 _ rfl) c24 dec24
  obtain ⟨a2,l2,r2⟩:=fl hn (hel 2 _ rfl) c178 dec178
  obtain ⟨a3,l3,r3⟩:=fl hn (hel 3 _ rfl) c3 dec3
  exact ⟨⟨a0,a1,a2,a3⟩,trivial,rc r0 rfl (rc r1 rfl (rc r2 rfl (RVs_last r3 (hl.trans c180))))⟩
theorem dec177 : Dec Tryz.prog 177 (cSl 19 eWay) (fun l => l.length ≤ maxLen ∧ ∀ a ∈ l,(fun _ => True) a):=dec_S Tryz.underlying177 c180 (by decide) (LayC.lay (f:=eWay)) dec180
theorem c177 : Tryz.prog.cellsOf 177 = 1:=by kernel_rfl
theorem dec98 : Dec Tryz.prog 98 (cSl 1 (cSl 19 eWay)) (fun l => l.length ≤ maxLen ∧ ∀ a ∈ l,(fun l => l.length ≤ maxLen ∧ ∀ a ∈ l,(fun _ => True) a) a):=dec_S Tryz.underlying98 c177 (by decide) (LayC.lay (f:=(cSl 19 eWay))) dec177
theorem c98 : Tryz.prog.cellsOf 98 = 1:=by kernel_rfl
theorem c100 : Tryz.prog.cellsOf 100 = 1:=by kernel_rfl
theorem dec100 : Dec Tryz.prog 100 eCache (fun c => c.Sets.length ≤ maxLen ∧ ∀ a ∈ c.Sets,(a.length ≤ maxLen ∧ ∀ w ∈ a,True)):=fun enc W fuel cs x hx => by
  obtain ⟨xs,m,_,_,hl,hn,hel⟩:=DataW.trod_struct Tryz.underlying100 hx
  obtain ⟨a0,l0,r0⟩:=fl hn (hel 0 _ rfl) c98 dec98
  exact ⟨⟨a0⟩,⟨l0.1,l0.2⟩,RVs_last r0 (hl.trans c100)⟩
theorem dec55 : Dec Tryz.prog 55 (cSl 1 eCache) (fun l => l.length ≤ maxLen ∧ ∀ a ∈ l,(fun c => c.Sets.length ≤ maxLen ∧ ∀ a ∈ c.Sets,(a.length ≤ maxLen ∧ ∀ w ∈ a,True)) a):=dec_S Tryz.underlying55 c100 (by decide) (LayC.lay (f:=eCache)) dec100
theorem c55 : Tryz.prog.cellsOf 55 = 1:=by kernel_rfl
theorem c57 : Tryz.prog.cellsOf 57 = 2:=by kernel_rfl
theorem dec57 : Dec Tryz.prog 57 eCoh (fun m => (m.Mem.length ≤ maxLen ∧ ∀ a ∈ m.Mem,True) ∧ (m.Caches.length ≤ maxLen ∧ ∀ c ∈ m.Caches,(c.Sets.length ≤ maxLen ∧ ∀ a ∈ c.Sets,(a.length ≤ maxLen ∧ ∀ w ∈ a,True)))):=fun enc W fuel cs x hx => by
  obtain ⟨xs,m,_,_,hl,hn,hel⟩:=DataW.trod_struct Tryz.underlying57 hx
  obtain ⟨a0,l0,r0⟩:=fl hn (hel 0 _ rfl) c29 dec29
  obtain ⟨a1,l1,r1⟩:=fl hn (hel 1 _ rfl) c55 dec55
  exact ⟨⟨a0,a1⟩,⟨l0,l1⟩,rc r0 rfl (RVs_last r1 (hl.trans c57))⟩
end
end Go.Ev
