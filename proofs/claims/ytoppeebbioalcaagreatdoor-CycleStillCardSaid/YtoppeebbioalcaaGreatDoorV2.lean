/- The walks of the functions (printed by a program): part 2. -/
import Derived.Test.YtoppeebbioalcaaGreatDoorV1
set_option linter.all false
namespace Go.Ev
noncomputable section
set_option maxHeartbeats 4000000
theorem w96_1 {n : Nat} (hn : 0 ≤ n) (v0 : List Int) (v3 : Int) (v4 : Bool) (v5 : Int) : finE (EV n) LF [0,3,4,5,23] [2] [] 0 [] k96_1 ((((T.e.set 0 (eSl 1 cI v0)).set 3 (eI v3)).set 4 (.b v4)).set 5 (eI v5)) ⟨0,T.e,.e,T.e⟩ = (n96_1 v0 v5).map (fun (r : Bool) => (X.nrm,(((((T.e.set 0 (eSl 1 cI v0)).set 3 (eI v3)).set 4 (.b v4)).set 5 (eI v5)).set 23 (.b r)),⟨0,T.e,.e,T.e⟩)):=by
  rw [finE]
  simp [k96_1,n96_1,lay_pure]
theorem w96_2 {n : Nat} (hn : 0 ≤ n) (v0 : List Int) (v3 : Int) (v4 : Bool) (v5 : Int) (v28 : Bool) : finE (EV n) LF [0,3,4,5] [2] [] 0 [] k96_2 (((((T.e.set 0 (eSl 1 cI v0)).set 3 (eI v3)).set 4 (.b v4)).set 5 (eI v5)).set 28 (.b v28)) ⟨0,T.e,.e,T.e⟩ = (n96_2 v3 v28).map (fun (r : Int) => (X.nrm,((((T.e.set 0 (eSl 1 cI v0)).set 3 (eI r)).set 4 (.b v4)).set 5 (eI v5)),⟨0,T.e,.e,T.e⟩)):=by
  rw [finE]
  simp [k96_2,n96_2,w96_1 (n:=n) (by omega),lay_pure]
theorem w96_0 {n : Nat} (hn : 0 ≤ n) (v0 : List Int) (s : Int × Bool × Int) : finE (EV n) LF [0,3,4,5] [2] [3,4] 0 [] k96_0 ((((T.e.set 0 (eSl 1 cI v0)).set 3 (eI s.1)).set 4 (.b s.2.1)).set 5 (eI s.2.2)) ⟨0,T.e,.e,T.e⟩ = (n96_0 v0 s).map (Sum.elim (fun s => (X.nrm,((((T.e.set 0 (eSl 1 cI v0)).set 3 (eI s.1)).set 4 (.b s.2.1)).set 5 (eI s.2.2)),⟨0,T.e,.e,T.e⟩)) (Sum.elim (fun (r : Int × Bool) => (X.exit 0,((T.e.set 3 (eI r.1)).set 4 (.b r.2)),⟨0,T.e,.e,T.e⟩)) (fun (r : Unit) => (X.ret,(T.e.set 2 (.b false)),⟨0,T.e,.e,T.e⟩)))):=by
  rw [finE]
  simp [k96_0,n96_0,w96_1 (n:=n) (by omega),w96_2 (n:=n) (by omega),lay_pure]
theorem l96_0 {n : Nat} (hn : 0 ≤ n) (v0 : List Int) (v3 : Int) (v4 : Bool) (v5 : Int) : loopE (EV n) LF [0,3,4,5] [2] [3,4] 0 [] k96_0 ((((T.e.set 0 (eSl 1 cI v0)).set 3 (eI v3)).set 4 (.b v4)).set 5 (eI v5)) ⟨0,T.e,.e,T.e⟩ = (loopN (n96_0 v0) LF (v3,v4,v5)).map (Sum.elim (fun (r : Int × Bool) => (X.exit 0,((T.e.set 3 (eI r.1)).set 4 (.b r.2)),⟨0,T.e,.e,T.e⟩)) (fun (r : Unit) => (X.ret,(T.e.set 2 (.b false)),⟨0,T.e,.e,T.e⟩))):=by
  exact loop_rule (E:=fun s : Int × Bool × Int => ((((T.e.set 0 (eSl 1 cI v0)).set 3 (eI s.1)).set 4 (.b s.2.1)).set 5 (eI s.2.2))) (B:=fun s : Int × Bool × Int => ⟨0,T.e,.e,T.e⟩) (out:=(Sum.elim (fun (r : Int × Bool) => (X.exit 0,((T.e.set 3 (eI r.1)).set 4 (.b r.2)),⟨0,T.e,.e,T.e⟩)) (fun (r : Unit) => (X.ret,(T.e.set 2 (.b false)),⟨0,T.e,.e,T.e⟩)))) (fun r => by rcases r with r | r <;> simp)
    (fun s => w96_0 hn v0 s) (fun s => by simp [lay_pure]) (v3,v4,v5)
theorem w96 {n : Nat} (hn : 1 ≤ n) (a0 : List Int) (qs : List Nat) (h : H) : callPv (EV n) 96 qs [eSl 1 cI a0] h = (n96 a0).map fun r => (.b r,h):=by
  obtain ⟨m,rfl⟩:=pm hn
  rw [callPv_eq,EV_at t96,f96,runF_eq]
  simp [n96,w96_1 (n:=m) (by omega),w96_2 (n:=m) (by omega),l96_0 (n:=m) (by omega),lay_pure]
theorem tk5182 (e : Nat) : V.fz (.tk 5182 e) 0 1 [] = eTk 5182 e 1 cI []:=nr rfl
theorem w51_3 {n : Nat} (hn : 4 ≤ n) (v3 : Int) (v4 : Int) (v5 : Int) (b0 : GCoh) (b1 : GWay) : finE (EV n) LF [1,3,4,5,6,81] [2] [] 2 [] k51_3 (((((T.e.set 1 (.p 0 0)).set 3 (eI v3)).set 4 (eI v4)).set 5 (eI v5)).set 6 (.p 1 0)) ⟨2,((T.e.set 0 ⟨eCoh b0,0,0⟩).set 1 ⟨eWay b1,1,0⟩),.e,T.e⟩ = (n51_3 b0 b1).map (fun (r : Bool) => (X.nrm,((((((T.e.set 1 (.p 0 0)).set 3 (eI v3)).set 4 (eI v4)).set 5 (eI v5)).set 6 (.p 1 0)).set 81 (.b r)),⟨2,((T.e.set 0 ⟨eCoh b0,0,0⟩).set 1 ⟨eWay b1,1,0⟩),.e,T.e⟩)):=by
  rw [finE]
  simp [k51_3,n51_3,w92 (n:=n) (by omega),w93 (n:=n) (by omega),w94 (n:=n) (by omega),w95 (n:=n) (by omega),w96 (n:=n) (by omega),eqArr178,tk5182,ex1_3,appT_ex,appT_tk,appT_ex1,appT_tk1,encs_pureC,lay_pure]
theorem w51_4 {n : Nat} (hn : 4 ≤ n) (v3 : Int) (v4 : Int) (v5 : Int) (b0 : GCoh) (b1 : GWay) (s : List Int × Int) : finE (EV n) LF [1,3,4,5,6,7,8] [2] [1,3,4,5,7] 2 [5182] k51_4 (((((((T.e.set 1 (.p 0 0)).set 3 (eI v3)).set 4 (eI v4)).set 5 (eI v5)).set 6 (.p 1 0)).set 7 (eTk 5182 0 1 cI s.1)).set 8 (eI s.2)) ⟨2,((T.e.set 0 ⟨eCoh b0,0,0⟩).set 1 ⟨eWay b1,1,0⟩),.e,(T.e.set 5182 (0,s.1.length,1))⟩ = (n51_4 b0 b1 s).map (Sum.elim (fun s => (X.nrm,(((((((T.e.set 1 (.p 0 0)).set 3 (eI v3)).set 4 (eI v4)).set 5 (eI v5)).set 6 (.p 1 0)).set 7 (eTk 5182 0 1 cI s.1)).set 8 (eI s.2)),⟨2,((T.e.set 0 ⟨eCoh b0,0,0⟩).set 1 ⟨eWay b1,1,0⟩),.e,(T.e.set 5182 (0,s.1.length,1))⟩)) (fun (r : List Int) => (X.exit 6,(((((T.e.set 1 (.p 0 0)).set 3 (eI v3)).set 4 (eI v4)).set 5 (eI v5)).set 7 (eTk 5182 0 1 cI r)),⟨2,((T.e.set 0 ⟨eCoh b0,0,0⟩).set 1 ⟨eWay b1,1,0⟩),.e,(T.e.set 5182 (0,r.length,1))⟩))):=by
  rw [finE]
  simp [k51_4,n51_4,w51_3 (n:=n) (by omega),w92 (n:=n) (by omega),w93 (n:=n) (by omega),w94 (n:=n) (by omega),w95 (n:=n) (by omega),w96 (n:=n) (by omega),eqArr178,tk5182,ex1_3,appT_ex,appT_tk,appT_ex1,appT_tk1,encs_pureC,lay_pure]
theorem l51_4 {n : Nat} (hn : 4 ≤ n) (v3 : Int) (v4 : Int) (v5 : Int) (v7 : List Int) (v8 : Int) (b0 : GCoh) (b1 : GWay) (q5182 : Nat) (h5182 : q5182 = v7.length) : loopE (EV n) LF [1,3,4,5,6,7,8] [2] [1,3,4,5,7] 2 [5182] k51_4 (((((((T.e.set 1 (.p 0 0)).set 3 (eI v3)).set 4 (eI v4)).set 5 (eI v5)).set 6 (.p 1 0)).set 7 (eTk 5182 0 1 cI v7)).set 8 (eI v8)) ⟨2,((T.e.set 0 ⟨eCoh b0,0,0⟩).set 1 ⟨eWay b1,1,0⟩),.e,(T.e.set 5182 (0,q5182,1))⟩ = (loopN (n51_4 b0 b1) LF (v7,v8)).map (fun (r : List Int) => (X.exit 6,(((((T.e.set 1 (.p 0 0)).set 3 (eI v3)).set 4 (eI v4)).set 5 (eI v5)).set 7 (eTk 5182 0 1 cI r)),⟨2,((T.e.set 0 ⟨eCoh b0,0,0⟩).set 1 ⟨eWay b1,1,0⟩),.e,(T.e.set 5182 (0,r.length,1))⟩)):=by
  subst h5182
  exact loop_rule (E:=fun s : List Int × Int => (((((((T.e.set 1 (.p 0 0)).set 3 (eI v3)).set 4 (eI v4)).set 5 (eI v5)).set 6 (.p 1 0)).set 7 (eTk 5182 0 1 cI s.1)).set 8 (eI s.2))) (B:=fun s : List Int × Int => ⟨2,((T.e.set 0 ⟨eCoh b0,0,0⟩).set 1 ⟨eWay b1,1,0⟩),.e,(T.e.set 5182 (0,s.1.length,1))⟩) (out:=(fun (r : List Int) => (X.exit 6,(((((T.e.set 1 (.p 0 0)).set 3 (eI v3)).set 4 (eI v4)).set 5 (eI v5)).set 7 (eTk 5182 0 1 cI r)),⟨2,((T.e.set 0 ⟨eCoh b0,0,0⟩).set 1 ⟨eWay b1,1,0⟩),.e,(T.e.set 5182 (0,r.length,1))⟩))) (fun r => by simp)
    (fun s => w51_4 hn v3 v4 v5 b0 b1 s) (fun s => by simp [lay_pure]) (v7,v8)
theorem w51_2 {n : Nat} (hn : 4 ≤ n) (v3 : Int) (v4 : Int) (b0 : GCoh) (s : Int) : finE (EV n) LF [1,3,4,5] [2] [1,3,4] 1 [] k51_2 ((((T.e.set 1 (.p 0 0)).set 3 (eI v3)).set 4 (eI v4)).set 5 (eI s)) ⟨1,(T.e.set 0 ⟨eCoh b0,0,0⟩),.e,T.e⟩ = (n51_2 v3 v4 b0 s).map (Sum.elim (fun s => (X.nrm,((((T.e.set 1 (.p 0 0)).set 3 (eI v3)).set 4 (eI v4)).set 5 (eI s)),⟨1,(T.e.set 0 ⟨eCoh b0,0,0⟩),.e,T.e⟩)) (Sum.elim (fun (r : Unit) => (X.exit 4,(((T.e.set 1 (.p 0 0)).set 3 (eI v3)).set 4 (eI v4)),⟨1,(T.e.set 0 ⟨eCoh b0,0,0⟩),.e,T.e⟩)) (fun (r : Unit) => (X.ret,(T.e.set 2 (.b false)),⟨1,(T.e.set 0 ⟨eCoh b0,0,0⟩),.e,T.e⟩)))):=by
  rw [finE]
  simp [k51_2,n51_2,w51_3 (n:=n) (by omega),l51_4 (n:=n) (by omega),w92 (n:=n) (by omega),w93 (n:=n) (by omega),w94 (n:=n) (by omega),w95 (n:=n) (by omega),w96 (n:=n) (by omega),eqArr178,tk5182,ex1_3,appT_ex,appT_tk,appT_ex1,appT_tk1,encs_pureC,lay_pure]
theorem l51_2 {n : Nat} (hn : 4 ≤ n) (v3 : Int) (v4 : Int) (v5 : Int) (b0 : GCoh) : loopE (EV n) LF [1,3,4,5] [2] [1,3,4] 1 [] k51_2 ((((T.e.set 1 (.p 0 0)).set 3 (eI v3)).set 4 (eI v4)).set 5 (eI v5)) ⟨1,(T.e.set 0 ⟨eCoh b0,0,0⟩),.e,T.e⟩ = (loopN (n51_2 v3 v4 b0) LF v5).map (Sum.elim (fun (r : Unit) => (X.exit 4,(((T.e.set 1 (.p 0 0)).set 3 (eI v3)).set 4 (eI v4)),⟨1,(T.e.set 0 ⟨eCoh b0,0,0⟩),.e,T.e⟩)) (fun (r : Unit) => (X.ret,(T.e.set 2 (.b false)),⟨1,(T.e.set 0 ⟨eCoh b0,0,0⟩),.e,T.e⟩))):=by
  exact loop_rule (E:=fun s : Int => ((((T.e.set 1 (.p 0 0)).set 3 (eI v3)).set 4 (eI v4)).set 5 (eI s))) (B:=fun s : Int => ⟨1,(T.e.set 0 ⟨eCoh b0,0,0⟩),.e,T.e⟩) (out:=(Sum.elim (fun (r : Unit) => (X.exit 4,(((T.e.set 1 (.p 0 0)).set 3 (eI v3)).set 4 (eI v4)),⟨1,(T.e.set 0 ⟨eCoh b0,0,0⟩),.e,T.e⟩)) (fun (r : Unit) => (X.ret,(T.e.set 2 (.b false)),⟨1,(T.e.set 0 ⟨eCoh b0,0,0⟩),.e,T.e⟩)))) (fun r => by rcases r with r | r <;> simp)
    (fun s => w51_2 hn v3 v4 b0 s) (fun s => by simp [lay_pure]) v5
theorem w51_1 {n : Nat} (hn : 4 ≤ n) (v3 : Int) (b0 : GCoh) (s : Int) : finE (EV n) LF [1,3,4] [2] [1,3] 1 [] k51_1 (((T.e.set 1 (.p 0 0)).set 3 (eI v3)).set 4 (eI s)) ⟨1,(T.e.set 0 ⟨eCoh b0,0,0⟩),.e,T.e⟩ = (n51_1 v3 b0 s).map (Sum.elim (fun s => (X.nrm,(((T.e.set 1 (.p 0 0)).set 3 (eI v3)).set 4 (eI s)),⟨1,(T.e.set 0 ⟨eCoh b0,0,0⟩),.e,T.e⟩)) (Sum.elim (fun (r : Unit) => (X.exit 2,((T.e.set 1 (.p 0 0)).set 3 (eI v3)),⟨1,(T.e.set 0 ⟨eCoh b0,0,0⟩),.e,T.e⟩)) (fun (r : Unit) => (X.ret,(T.e.set 2 (.b false)),⟨1,(T.e.set 0 ⟨eCoh b0,0,0⟩),.e,T.e⟩)))):=by
  rw [finE]
  simp [k51_1,n51_1,w51_3 (n:=n) (by omega),l51_4 (n:=n) (by omega),l51_2 (n:=n) (by omega),w92 (n:=n) (by omega),w93 (n:=n) (by omega),w94 (n:=n) (by omega),w95 (n:=n) (by omega),w96 (n:=n) (by omega),eqArr178,tk5182,ex1_3,appT_ex,appT_tk,appT_ex1,appT_tk1,encs_pureC,lay_pure]
theorem l51_1 {n : Nat} (hn : 4 ≤ n) (v3 : Int) (v4 : Int) (b0 : GCoh) : loopE (EV n) LF [1,3,4] [2] [1,3] 1 [] k51_1 (((T.e.set 1 (.p 0 0)).set 3 (eI v3)).set 4 (eI v4)) ⟨1,(T.e.set 0 ⟨eCoh b0,0,0⟩),.e,T.e⟩ = (loopN (n51_1 v3 b0) LF v4).map (Sum.elim (fun (r : Unit) => (X.exit 2,((T.e.set 1 (.p 0 0)).set 3 (eI v3)),⟨1,(T.e.set 0 ⟨eCoh b0,0,0⟩),.e,T.e⟩)) (fun (r : Unit) => (X.ret,(T.e.set 2 (.b false)),⟨1,(T.e.set 0 ⟨eCoh b0,0,0⟩),.e,T.e⟩))):=by
  exact loop_rule (E:=fun s : Int => (((T.e.set 1 (.p 0 0)).set 3 (eI v3)).set 4 (eI s))) (B:=fun s : Int => ⟨1,(T.e.set 0 ⟨eCoh b0,0,0⟩),.e,T.e⟩) (out:=(Sum.elim (fun (r : Unit) => (X.exit 2,((T.e.set 1 (.p 0 0)).set 3 (eI v3)),⟨1,(T.e.set 0 ⟨eCoh b0,0,0⟩),.e,T.e⟩)) (fun (r : Unit) => (X.ret,(T.e.set 2 (.b false)),⟨1,(T.e.set 0 ⟨eCoh b0,0,0⟩),.e,T.e⟩)))) (fun r => by rcases r with r | r <;> simp)
    (fun s => w51_1 hn v3 b0 s) (fun s => by simp [lay_pure]) v4
theorem w51_0 {n : Nat} (hn : 4 ≤ n) (b0 : GCoh) (s : Int) : finE (EV n) LF [1,3] [2] [] 1 [] k51_0 ((T.e.set 1 (.p 0 0)).set 3 (eI s)) ⟨1,(T.e.set 0 ⟨eCoh b0,0,0⟩),.e,T.e⟩ = (n51_0 b0 s).map (Sum.elim (fun s => (X.nrm,((T.e.set 1 (.p 0 0)).set 3 (eI s)),⟨1,(T.e.set 0 ⟨eCoh b0,0,0⟩),.e,T.e⟩)) (Sum.elim (fun (r : Unit) => (X.exit 0,T.e,⟨1,(T.e.set 0 ⟨eCoh b0,0,0⟩),.e,T.e⟩)) (fun (r : Unit) => (X.ret,(T.e.set 2 (.b false)),⟨1,(T.e.set 0 ⟨eCoh b0,0,0⟩),.e,T.e⟩)))):=by
  rw [finE]
  simp [k51_0,n51_0,w51_3 (n:=n) (by omega),l51_4 (n:=n) (by omega),l51_2 (n:=n) (by omega),l51_1 (n:=n) (by omega),w92 (n:=n) (by omega),w93 (n:=n) (by omega),w94 (n:=n) (by omega),w95 (n:=n) (by omega),w96 (n:=n) (by omega),eqArr178,tk5182,ex1_3,appT_ex,appT_tk,appT_ex1,appT_tk1,encs_pureC,lay_pure]
theorem l51_0 {n : Nat} (hn : 4 ≤ n) (v3 : Int) (b0 : GCoh) : loopE (EV n) LF [1,3] [2] [] 1 [] k51_0 ((T.e.set 1 (.p 0 0)).set 3 (eI v3)) ⟨1,(T.e.set 0 ⟨eCoh b0,0,0⟩),.e,T.e⟩ = (loopN (n51_0 b0) LF v3).map (Sum.elim (fun (r : Unit) => (X.exit 0,T.e,⟨1,(T.e.set 0 ⟨eCoh b0,0,0⟩),.e,T.e⟩)) (fun (r : Unit) => (X.ret,(T.e.set 2 (.b false)),⟨1,(T.e.set 0 ⟨eCoh b0,0,0⟩),.e,T.e⟩))):=by
  exact loop_rule (E:=fun s : Int => ((T.e.set 1 (.p 0 0)).set 3 (eI s))) (B:=fun s : Int => ⟨1,(T.e.set 0 ⟨eCoh b0,0,0⟩),.e,T.e⟩) (out:=(Sum.elim (fun (r : Unit) => (X.exit 0,T.e,⟨1,(T.e.set 0 ⟨eCoh b0,0,0⟩),.e,T.e⟩)) (fun (r : Unit) => (X.ret,(T.e.set 2 (.b false)),⟨1,(T.e.set 0 ⟨eCoh b0,0,0⟩),.e,T.e⟩)))) (fun r => by rcases r with r | r <;> simp)
    (fun s => w51_0 hn b0 s) (fun s => by simp [lay_pure]) v3
theorem w51 {n : Nat} (hn : 5 ≤ n) (a0 : GCoh) (qs : List Nat) (h : H) : callPv (EV n) 51 qs [.a (eCoh a0)] h = (n51 a0).map fun r => (.b r,h):=by
  obtain ⟨m,rfl⟩:=pm hn
  rw [callPv_eq,EV_at t51,f51,runF_eq]
  simp [n51,w51_3 (n:=m) (by omega),l51_4 (n:=m) (by omega),l51_2 (n:=m) (by omega),l51_1 (n:=m) (by omega),l51_0 (n:=m) (by omega),w92 (n:=m) (by omega),w93 (n:=m) (by omega),w94 (n:=m) (by omega),w95 (n:=m) (by omega),w96 (n:=m) (by omega),eqArr178,tk5182,ex1_3,appT_ex,appT_tk,appT_ex1,appT_tk1,encs_pureC,lay_pure]
theorem w11 {n : Nat} (hn : 6 ≤ n) (a0 : GCoh) (qs : List Nat) (h : H) : callPv (EV n) 11 qs [.a (eCoh a0)] h = (n11 a0).map fun r => (.b r,h):=by
  obtain ⟨m,rfl⟩:=pm hn
  rw [callPv_eq,EV_at t11,f11,runF_eq]
  simp [n11,w50 (n:=m) (by omega),w51 (n:=m) (by omega),lay_pure]
theorem w4_0 {n : Nat} (hn : 6 ≤ n) (v2 : Int) (b0 : GCore) (b1 : GCoh) : finE (EV n) LF [3,4,41] [6] [] 2 [] k4_0 (((T.e.set 2 (eI v2)).set 3 (.p 0 0)).set 4 (.p 1 0)) ⟨2,((T.e.set 0 ⟨eCore b0,0,0⟩).set 1 ⟨eCoh b1,1,0⟩),.e,T.e⟩ = (n4_0 v2 b0 b1).map (fun (r : Bool) => (X.nrm,(((T.e.set 3 (.p 0 0)).set 4 (.p 1 0)).set 41 (.b r)),⟨2,((T.e.set 0 ⟨eCore b0,0,0⟩).set 1 ⟨eCoh b1,1,0⟩),.e,T.e⟩)):=by
  rw [finE]
  simp [k4_0,n4_0,w9 (n:=n) (by omega),w10 (n:=n) (by omega),w11 (n:=n) (by omega),lay_pure]
theorem w4 {n : Nat} (hn : 7 ≤ n) (a0 : GCore) (a1 : GCoh) (a2 : Int) (qs : List Nat) (h : H) : callPv (EV n) 4 qs [.a (eCore a0),.a (eCoh a1),eI a2] h = (n4 a0 a1 a2).map fun r => (.b r,h):=by
  obtain ⟨m,rfl⟩:=pm hn
  rw [callPv_eq,EV_at t4,f4,runF_eq]
  simp [n4,w4_0 (n:=m) (by omega),w9 (n:=m) (by omega),w10 (n:=m) (by omega),w11 (n:=m) (by omega),lay_pure]
theorem w17 {n : Nat} (hn : 1 ≤ n) (a0 : GArch) (a1 : BitVec 32) (qs : List Nat) (h : H) : callPv (EV n) 17 qs [.a (eArch a0),eU32 a1] h = (n17 a0 a1).map fun r => (.a (eArch r),h):=by
  obtain ⟨m,rfl⟩:=pm hn
  rw [callPv_eq,EV_at t17,f17,runF_eq]
  simp [n17,lay_pure]
theorem tk1810 (e : Nat) : V.fz (.tk 1810 e) 0 12 [] = eTk 1810 e 12 eEvent []:=nr rfl
theorem tk1812 (e : Nat) : V.fz (.tk 1812 e) 0 4 [] = eTk 1812 e 4 eNote []:=nr rfl
theorem w18 {n : Nat} (hn : 1 ≤ n) (a0 : GCore) (a1 : GCoh) (a2 : Int) (a3 : GTick) (hA0 : (!decide ((a3.Stall &&& (16 : BitVec 32)) = (0 : BitVec 32))) = true) (qs : List Nat) (h : H) : callPv (EV n) 18 qs [.a (eCore a0),.a (eCoh a1),eI a2,.a (eTick a3)] h = (n18 a0 a1 a2 a3).map fun r => (.t [.a (eCore r.1),.a (eCoh r.2.1),eSl 12 eEvent r.2.2.1,eU32 r.2.2.2.1,eSl 4 eNote r.2.2.2.2],h):=by
  obtain ⟨m,rfl⟩:=pm hn
  simp at hA0
  rw [callPv_eq,EV_at t18,f18,runF_eq]
  simp [n18,tk1810,tk1812,hA0,lay_pure]
theorem wi18 {n : Nat} (hn : 1 ≤ n) (a0 : GCore) (a1 : GCoh) (a2 : Int) (a3 : GTick) (hA0 : (!decide ((a3.Stall &&& (16 : BitVec 32)) = (0 : BitVec 32))) = true) (qs : List Nat) (h : H) : callPv (EV n) 18 qs [.a (eCore a0),.a (eCoh a1),eI a2,.a (eTick a3)] h = some (.t [.a (eCore a0),.a (eCoh a1),eSl 12 eEvent ([]),eU32 (0 : BitVec 32),eSl 4 eNote ([])],h):=by
  rw [w18 hn a0 a1 a2 a3 hA0]
  simp [n18]
theorem tk1905 (e : Nat) : V.fz (.tk 1905 e) 0 4 [] = eTk 1905 e 4 eNote []:=nr rfl
theorem tk1906 (e : Nat) : V.fz (.tk 1906 e) 0 4 [] = eTk 1906 e 4 eNote []:=nr rfl
theorem w19 {n : Nat} (hn : 1 ≤ n) (a0 : GCore) (a1 : GTick) (hA0 : (!decide ((a1.Stall &&& (8 : BitVec 32)) = (0 : BitVec 32))) = true) (qs : List Nat) (h : H) : callPv (EV n) 19 qs [.a (eCore a0),.a (eTick a1)] h = (n19 a0 a1).map fun r => (.t [.a (eCore r.1),eSl 4 eNote r.2],h):=by
  obtain ⟨m,rfl⟩:=pm hn
  simp at hA0
  rw [callPv_eq,EV_at t19,f19,runF_eq]
  simp [n19,tk1905,tk1906,appT_ex,appT_tk,appT_ex1,appT_tk1,encs_pureC,hA0,lay_pure]
theorem wi19 {n : Nat} (hn : 1 ≤ n) (a0 : GCore) (a1 : GTick) (hA0 : (!decide ((a1.Stall &&& (8 : BitVec 32)) = (0 : BitVec 32))) = true) (qs : List Nat) (h : H) : callPv (EV n) 19 qs [.a (eCore a0),.a (eTick a1)] h = some (.t [.a (eCore a0),eSl 4 eNote ([])],h):=by
  rw [w19 hn a0 a1 hA0]
  simp [n19]
theorem tk2010 (e : Nat) : V.fz (.tk 2010 e) 0 4 [] = eTk 2010 e 4 eNote []:=nr rfl
theorem tk2011 (e : Nat) : V.fz (.tk 2011 e) 0 4 [] = eTk 2011 e 4 eNote []:=nr rfl
theorem w20 {n : Nat} (hn : 1 ≤ n) (a0 : GCore) (a1 : GCoh) (a2 : Int) (a3 : GTick) (hA0 : (!decide ((a3.Stall &&& (4 : BitVec 32)) = (0 : BitVec 32))) = true) (qs : List Nat) (h : H) : callPv (EV n) 20 qs [.a (eCore a0),.a (eCoh a1),eI a2,.a (eTick a3)] h = (n20 a0 a1 a2 a3).map fun r => (.t [.a (eCore r.1),.a (eCoh r.2.1),eSl 4 eNote r.2.2],h):=by
  obtain ⟨m,rfl⟩:=pm hn
  simp at hA0
  rw [callPv_eq,EV_at t20,f20,runF_eq]
  simp [n20,tk2010,tk2011,ex1_95,appT_ex,appT_tk,appT_ex1,appT_tk1,encs_pureC,hA0,lay_pure]
theorem wi20 {n : Nat} (hn : 1 ≤ n) (a0 : GCore) (a1 : GCoh) (a2 : Int) (a3 : GTick) (hA0 : (!decide ((a3.Stall &&& (4 : BitVec 32)) = (0 : BitVec 32))) = true) (qs : List Nat) (h : H) : callPv (EV n) 20 qs [.a (eCore a0),.a (eCoh a1),eI a2,.a (eTick a3)] h = some (.t [.a (eCore a0),.a (eCoh a1),eSl 4 eNote ([])],h):=by
  rw [w20 hn a0 a1 a2 a3 hA0]
  simp [n20]
theorem tk2105 (e : Nat) : V.fz (.tk 2105 e) 0 4 [] = eTk 2105 e 4 eNote []:=nr rfl
theorem tk2106 (e : Nat) : V.fz (.tk 2106 e) 0 4 [] = eTk 2106 e 4 eNote []:=nr rfl
theorem w21 {n : Nat} (hn : 1 ≤ n) (a0 : GCore) (a1 : GTick) (hA0 : (!decide ((a1.Stall &&& (2 : BitVec 32)) = (0 : BitVec 32))) = true) (qs : List Nat) (h : H) : callPv (EV n) 21 qs [.a (eCore a0),.a (eTick a1)] h = (n21 a0 a1).map fun r => (.t [.a (eCore r.1),eSl 4 eNote r.2],h):=by
  obtain ⟨m,rfl⟩:=pm hn
  simp at hA0
  rw [callPv_eq,EV_at t21,f21,runF_eq]
  simp [n21,tk2105,tk2106,ex1_95,appT_ex,appT_tk,appT_ex1,appT_tk1,encs_pureC,hA0,lay_pure]
theorem wi21 {n : Nat} (hn : 1 ≤ n) (a0 : GCore) (a1 : GTick) (hA0 : (!decide ((a1.Stall &&& (2 : BitVec 32)) = (0 : BitVec 32))) = true) (qs : List Nat) (h : H) : callPv (EV n) 21 qs [.a (eCore a0),.a (eTick a1)] h = some (.t [.a (eCore a0),eSl 4 eNote ([])],h):=by
  rw [w21 hn a0 a1 hA0]
  simp [n21]
end
end Go.Ev
namespace Go.Ev
noncomputable section
set_option maxHeartbeats 4000000
theorem tk2205 (e : Nat) : V.fz (.tk 2205 e) 0 4 [] = eTk 2205 e 4 eNote []:=nr rfl
theorem tk2210 (e : Nat) : V.fz (.tk 2210 e) 0 4 [] = eTk 2210 e 4 eNote []:=nr rfl
theorem w22_0 {n : Nat} (hn : 0 ≤ n) (b0 : GCore) (b1 : GTick) (b2 : GCore) (q2205 : Nat) (hA0 : (!decide ((b1.Stall &&& (1 : BitVec 32)) = (0 : BitVec 32))) = true) : finE (EV n) LF [2,4,25] [4,5] [] 3 [2205] k22_0 (((T.e.set 2 (.p 0 0)).set 3 (.p 1 0)).set 4 (.p 2 0)) ⟨3,(((T.e.set 0 ⟨eCore b0,0,0⟩).set 1 ⟨eTick b1,1,0⟩).set 2 ⟨eCore b2,2,0⟩),.e,(T.e.set 2205 (0,q2205,4))⟩ = (n22_0 b1).map (fun (r : Unit) => (X.nrm,(((T.e.set 2 (.p 0 0)).set 4 (.p 2 0)).set 25 (.b true)),⟨3,(((T.e.set 0 ⟨eCore b0,0,0⟩).set 1 ⟨eTick b1,1,0⟩).set 2 ⟨eCore b2,2,0⟩),.e,(T.e.set 2205 (0,q2205,4))⟩)):=by
  simp at hA0
  rw [finE]
  simp [k22_0,n22_0,tk2205,tk2210,ex1_95,appT_ex,appT_tk,appT_ex1,appT_tk1,encs_pureC,hA0,lay_pure]
theorem w22 {n : Nat} (hn : 1 ≤ n) (a0 : GCore) (a1 : GTick) (hA0 : (!decide ((a1.Stall &&& (1 : BitVec 32)) = (0 : BitVec 32))) = true) (qs : List Nat) (h : H) : callPv (EV n) 22 qs [.a (eCore a0),.a (eTick a1)] h = (n22 a0 a1).map fun r => (.t [.a (eCore r.1),eSl 4 eNote r.2],h):=by
  obtain ⟨m,rfl⟩:=pm hn
  simp at hA0
  rw [callPv_eq,EV_at t22,f22,runF_eq]
  simp [n22,w22_0 (n:=m) (by omega),tk2205,tk2210,ex1_95,appT_ex,appT_tk,appT_ex1,appT_tk1,encs_pureC,hA0,lay_pure]
theorem wi22 {n : Nat} (hn : 1 ≤ n) (a0 : GCore) (a1 : GTick) (hA0 : (!decide ((a1.Stall &&& (1 : BitVec 32)) = (0 : BitVec 32))) = true) (qs : List Nat) (h : H) : callPv (EV n) 22 qs [.a (eCore a0),.a (eTick a1)] h = some (.t [.a (eCore a0),eSl 4 eNote ([])],h):=by
  rw [w22 hn a0 a1 hA0]
  simp [n22,n22_0]
theorem w24_0 {n : Nat} (hn : 0 ≤ n) (v2 : Int) (b0 : GCore) (b1 : GCoh) (b2 : GTick) (b3 : GCore) (b4 : GCoh) (hA0 : (!b2.Drain) = true) : finE (EV n) LF [2,4,5,8,9,24] [8,9,10,11] [] 5 [] k24_0 ((((((T.e.set 2 (eI v2)).set 4 (.p 0 0)).set 5 (.p 1 0)).set 7 (.p 2 0)).set 8 (.p 3 0)).set 9 (.p 4 0)) ⟨5,(((((T.e.set 0 ⟨eCore b0,0,0⟩).set 1 ⟨eCoh b1,1,0⟩).set 2 ⟨eTick b2,2,0⟩).set 3 ⟨eCore b3,3,0⟩).set 4 ⟨eCoh b4,4,0⟩),.e,T.e⟩ = (n24_0).map (fun (r : Unit) => (X.nrm,((((((T.e.set 2 (eI v2)).set 4 (.p 0 0)).set 5 (.p 1 0)).set 8 (.p 3 0)).set 9 (.p 4 0)).set 24 (.b true)),⟨5,(((((T.e.set 0 ⟨eCore b0,0,0⟩).set 1 ⟨eCoh b1,1,0⟩).set 2 ⟨eTick b2,2,0⟩).set 3 ⟨eCore b3,3,0⟩).set 4 ⟨eCoh b4,4,0⟩),.e,T.e⟩)):=by
  simp at hA0
  rw [finE]
  simp [k24_0,n24_0,hA0,lay_pure]
theorem w24 {n : Nat} (hn : 1 ≤ n) (a0 : GCore) (a1 : GCoh) (a2 : Int) (a3 : GTick) (hA0 : (!a3.Drain) = true) (qs : List Nat) (h : H) : callPv (EV n) 24 qs [.a (eCore a0),.a (eCoh a1),eI a2,.a (eTick a3)] h = (n24 a0 a1 a2 a3).map fun r => (.t [.a (eCore r.1),.a (eCoh r.2.1),eU32 r.2.2.1,.b r.2.2.2],h):=by
  obtain ⟨m,rfl⟩:=pm hn
  simp at hA0
  rw [callPv_eq,EV_at t24,f24,runF_eq]
  simp [n24,w24_0 (n:=m) (by omega),hA0,lay_pure]
theorem wi24 {n : Nat} (hn : 1 ≤ n) (a0 : GCore) (a1 : GCoh) (a2 : Int) (a3 : GTick) (hA0 : (!a3.Drain) = true) (qs : List Nat) (h : H) : callPv (EV n) 24 qs [.a (eCore a0),.a (eCoh a1),eI a2,.a (eTick a3)] h = some (.t [.a (eCore (cond (decide ((0 : Int) < a0.Wait)) (a0.setWait (wI (a0.Wait - (1 : Int)))) a0)),.a (eCoh a1),eU32 (0 : BitVec 32),.b false],h):=by
  rw [w24 hn a0 a1 a2 a3 hA0]
  simp only [n24,n24_0]; cases decide ((0 : Int) < a0.Wait) <;> rfl
theorem tk610 (e : Nat) : V.fz (.tk 610 e) 0 12 [] = eTk 610 e 12 eEvent []:=nr rfl
theorem tk611 (e : Nat) : V.fz (.tk 611 e) 0 4 [] = eTk 611 e 4 eNote []:=nr rfl
theorem tk612 (e : Nat) : V.fz (.tk 612 e) 0 1 [] = eTk 612 e 1 cU32 []:=nr rfl
theorem w6 {n : Nat} (hn : 3 ≤ n) (a0 : GCore) (a1 : GCoh) (a2 : Int) (a3 : GTick) (hA0 : (!decide ((a3.Stall &&& (16 : BitVec 32)) = (0 : BitVec 32))) = true) (hA1 : (!decide ((a3.Stall &&& (8 : BitVec 32)) = (0 : BitVec 32))) = true) (hA2 : (!decide ((a3.Stall &&& (4 : BitVec 32)) = (0 : BitVec 32))) = true) (hA3 : (!decide ((a3.Stall &&& (2 : BitVec 32)) = (0 : BitVec 32))) = true) (hA4 : (!decide ((a3.Stall &&& (1 : BitVec 32)) = (0 : BitVec 32))) = true) (hA5 : (!a3.Drain) = true) (hA6 : (decide (a0.Units.length < 1000000)) = true) (qs : List Nat) (h : H) : callPv (EV n) 6 qs [.a (eCore a0),.a (eCoh a1),eI a2,.a (eTick a3)] h = (n6 a0 a1 a2 a3).map fun r => (.t [.a (eCore r.1),.a (eCoh r.2.1),eSl 12 eEvent r.2.2.1,eSl 4 eNote r.2.2.2.1,eSl 1 cU32 r.2.2.2.2],h):=by
  obtain ⟨m,rfl⟩:=pm hn
  simp at hA0
  simp at hA1
  simp at hA2
  simp at hA3
  simp at hA4
  simp at hA5
  simp at hA6
  rw [callPv_eq,EV_at t6,f6,runF_eq]
  simp [n6,w17 (n:=m) (by omega),wi18 (n:=m) (by omega),wi19 (n:=m) (by omega),wi20 (n:=m) (by omega),wi21 (n:=m) (by omega),wi22 (n:=m) (by omega),wi24 (n:=m) (by omega),w25 (n:=m) (by omega),clt23 (n:=m) (by omega),cl26 (n:=m) (by omega),tk610,tk611,tk612,ex1_24,appT_ex,appT_tk,appT_ex1,appT_tk1,encs_pureC,ex5_63,pt5_0_63,pt5_1_63,pt5_2_63,pt5_3_63,pt5_4_63,hA0,hA1,hA2,hA3,hA4,hA5,hA6,lay_pure]
theorem w27_1 {n : Nat} (hn : 0 ≤ n) (v0 : List (BitVec 8)) (v1 : List (BitVec 8)) (v5 : Int) : finE (EV n) LF [0,1,5,20] [4] [] 0 [] k27_1 (((T.e.set 0 (eSl 1 cU8 v0)).set 1 (eSl 1 cU8 v1)).set 5 (eI v5)) ⟨0,T.e,.e,T.e⟩ = (n27_1 v0 v1 v5).map (fun (r : Bool) => (X.nrm,((((T.e.set 0 (eSl 1 cU8 v0)).set 1 (eSl 1 cU8 v1)).set 5 (eI v5)).set 20 (.b r)),⟨0,T.e,.e,T.e⟩)):=by
  rw [finE]
  simp [k27_1,n27_1,lay_pure]
theorem w27_0 {n : Nat} (hn : 0 ≤ n) (v0 : List (BitVec 8)) (v1 : List (BitVec 8)) (s : Int) : finE (EV n) LF [0,1,5] [4] [] 0 [] k27_0 (((T.e.set 0 (eSl 1 cU8 v0)).set 1 (eSl 1 cU8 v1)).set 5 (eI s)) ⟨0,T.e,.e,T.e⟩ = (n27_0 v0 v1 s).map (Sum.elim (fun s => (X.nrm,(((T.e.set 0 (eSl 1 cU8 v0)).set 1 (eSl 1 cU8 v1)).set 5 (eI s)),⟨0,T.e,.e,T.e⟩)) (Sum.elim (fun (r : Unit) => (X.exit 0,T.e,⟨0,T.e,.e,T.e⟩)) (fun (r : Unit) => (X.ret,(T.e.set 4 (.b false)),⟨0,T.e,.e,T.e⟩)))):=by
  rw [finE]
  simp [k27_0,n27_0,w27_1 (n:=n) (by omega),lay_pure]
theorem l27_0 {n : Nat} (hn : 0 ≤ n) (v0 : List (BitVec 8)) (v1 : List (BitVec 8)) (v5 : Int) : loopE (EV n) LF [0,1,5] [4] [] 0 [] k27_0 (((T.e.set 0 (eSl 1 cU8 v0)).set 1 (eSl 1 cU8 v1)).set 5 (eI v5)) ⟨0,T.e,.e,T.e⟩ = (loopN (n27_0 v0 v1) LF v5).map (Sum.elim (fun (r : Unit) => (X.exit 0,T.e,⟨0,T.e,.e,T.e⟩)) (fun (r : Unit) => (X.ret,(T.e.set 4 (.b false)),⟨0,T.e,.e,T.e⟩))):=by
  exact loop_rule (E:=fun s : Int => (((T.e.set 0 (eSl 1 cU8 v0)).set 1 (eSl 1 cU8 v1)).set 5 (eI s))) (B:=fun s : Int => ⟨0,T.e,.e,T.e⟩) (out:=(Sum.elim (fun (r : Unit) => (X.exit 0,T.e,⟨0,T.e,.e,T.e⟩)) (fun (r : Unit) => (X.ret,(T.e.set 4 (.b false)),⟨0,T.e,.e,T.e⟩)))) (fun r => by rcases r with r | r <;> simp)
    (fun s => w27_0 hn v0 v1 s) (fun s => by simp [lay_pure]) v5
theorem w27 {n : Nat} (hn : 1 ≤ n) (a0 : List (BitVec 8)) (a1 : List (BitVec 8)) (qs : List Nat) (h : H) : callPv (EV n) 27 qs [eSl 1 cU8 a0,eSl 1 cU8 a1] h = (n27 a0 a1).map fun r => (.b r,h):=by
  obtain ⟨m,rfl⟩:=pm hn
  rw [callPv_eq,EV_at t27,f27,runF_eq]
  simp [n27,w27_1 (n:=m) (by omega),l27_0 (n:=m) (by omega),lay_pure]
theorem w28_1 {n : Nat} (hn : 0 ≤ n) (v5 : Int) (b0 : GCache) (b1 : GCache) : finE (EV n) LF [2,3,5,25] [4] [] 2 [] k28_1 (((T.e.set 2 (.p 0 0)).set 3 (.p 1 0)).set 5 (eI v5)) ⟨2,((T.e.set 0 ⟨eCache b0,0,0⟩).set 1 ⟨eCache b1,1,0⟩),.e,T.e⟩ = (n28_1 v5 b0 b1).map (fun (r : Bool) => (X.nrm,((((T.e.set 2 (.p 0 0)).set 3 (.p 1 0)).set 5 (eI v5)).set 25 (.b r)),⟨2,((T.e.set 0 ⟨eCache b0,0,0⟩).set 1 ⟨eCache b1,1,0⟩),.e,T.e⟩)):=by
  rw [finE]
  simp [k28_1,n28_1,eqGWay,lay_pure]
theorem w28_3 {n : Nat} (hn : 0 ≤ n) (v5 : Int) (v6 : Int) (b0 : GCache) (b1 : GCache) : finE (EV n) LF [2,3,5,6,58] [4] [] 2 [] k28_3 ((((T.e.set 2 (.p 0 0)).set 3 (.p 1 0)).set 5 (eI v5)).set 6 (eI v6)) ⟨2,((T.e.set 0 ⟨eCache b0,0,0⟩).set 1 ⟨eCache b1,1,0⟩),.e,T.e⟩ = (n28_3 v5 v6 b0 b1).map (fun (r : Bool) => (X.nrm,(((((T.e.set 2 (.p 0 0)).set 3 (.p 1 0)).set 5 (eI v5)).set 6 (eI v6)).set 58 (.b r)),⟨2,((T.e.set 0 ⟨eCache b0,0,0⟩).set 1 ⟨eCache b1,1,0⟩),.e,T.e⟩)):=by
  rw [finE]
  simp [k28_3,n28_3,w28_1 (n:=n) (by omega),eqGWay,lay_pure]
theorem w28_2 {n : Nat} (hn : 0 ≤ n) (v5 : Int) (b0 : GCache) (b1 : GCache) (s : Int) : finE (EV n) LF [2,3,5,6] [4] [2,3,5] 2 [] k28_2 ((((T.e.set 2 (.p 0 0)).set 3 (.p 1 0)).set 5 (eI v5)).set 6 (eI s)) ⟨2,((T.e.set 0 ⟨eCache b0,0,0⟩).set 1 ⟨eCache b1,1,0⟩),.e,T.e⟩ = (n28_2 v5 b0 b1 s).map (Sum.elim (fun s => (X.nrm,((((T.e.set 2 (.p 0 0)).set 3 (.p 1 0)).set 5 (eI v5)).set 6 (eI s)),⟨2,((T.e.set 0 ⟨eCache b0,0,0⟩).set 1 ⟨eCache b1,1,0⟩),.e,T.e⟩)) (Sum.elim (fun (r : Unit) => (X.exit 2,(((T.e.set 2 (.p 0 0)).set 3 (.p 1 0)).set 5 (eI v5)),⟨2,((T.e.set 0 ⟨eCache b0,0,0⟩).set 1 ⟨eCache b1,1,0⟩),.e,T.e⟩)) (fun (r : Unit) => (X.ret,(T.e.set 4 (.b false)),⟨2,((T.e.set 0 ⟨eCache b0,0,0⟩).set 1 ⟨eCache b1,1,0⟩),.e,T.e⟩)))):=by
  rw [finE]
  simp [k28_2,n28_2,w28_1 (n:=n) (by omega),w28_3 (n:=n) (by omega),eqGWay,lay_pure]
theorem l28_2 {n : Nat} (hn : 0 ≤ n) (v5 : Int) (v6 : Int) (b0 : GCache) (b1 : GCache) : loopE (EV n) LF [2,3,5,6] [4] [2,3,5] 2 [] k28_2 ((((T.e.set 2 (.p 0 0)).set 3 (.p 1 0)).set 5 (eI v5)).set 6 (eI v6)) ⟨2,((T.e.set 0 ⟨eCache b0,0,0⟩).set 1 ⟨eCache b1,1,0⟩),.e,T.e⟩ = (loopN (n28_2 v5 b0 b1) LF v6).map (Sum.elim (fun (r : Unit) => (X.exit 2,(((T.e.set 2 (.p 0 0)).set 3 (.p 1 0)).set 5 (eI v5)),⟨2,((T.e.set 0 ⟨eCache b0,0,0⟩).set 1 ⟨eCache b1,1,0⟩),.e,T.e⟩)) (fun (r : Unit) => (X.ret,(T.e.set 4 (.b false)),⟨2,((T.e.set 0 ⟨eCache b0,0,0⟩).set 1 ⟨eCache b1,1,0⟩),.e,T.e⟩))):=by
  exact loop_rule (E:=fun s : Int => ((((T.e.set 2 (.p 0 0)).set 3 (.p 1 0)).set 5 (eI v5)).set 6 (eI s))) (B:=fun s : Int => ⟨2,((T.e.set 0 ⟨eCache b0,0,0⟩).set 1 ⟨eCache b1,1,0⟩),.e,T.e⟩) (out:=(Sum.elim (fun (r : Unit) => (X.exit 2,(((T.e.set 2 (.p 0 0)).set 3 (.p 1 0)).set 5 (eI v5)),⟨2,((T.e.set 0 ⟨eCache b0,0,0⟩).set 1 ⟨eCache b1,1,0⟩),.e,T.e⟩)) (fun (r : Unit) => (X.ret,(T.e.set 4 (.b false)),⟨2,((T.e.set 0 ⟨eCache b0,0,0⟩).set 1 ⟨eCache b1,1,0⟩),.e,T.e⟩)))) (fun r => by rcases r with r | r <;> simp)
    (fun s => w28_2 hn v5 b0 b1 s) (fun s => by simp [lay_pure]) v6
theorem w28_0 {n : Nat} (hn : 0 ≤ n) (b0 : GCache) (b1 : GCache) (s : Int) : finE (EV n) LF [2,3,5] [4] [] 2 [] k28_0 (((T.e.set 2 (.p 0 0)).set 3 (.p 1 0)).set 5 (eI s)) ⟨2,((T.e.set 0 ⟨eCache b0,0,0⟩).set 1 ⟨eCache b1,1,0⟩),.e,T.e⟩ = (n28_0 b0 b1 s).map (Sum.elim (fun s => (X.nrm,(((T.e.set 2 (.p 0 0)).set 3 (.p 1 0)).set 5 (eI s)),⟨2,((T.e.set 0 ⟨eCache b0,0,0⟩).set 1 ⟨eCache b1,1,0⟩),.e,T.e⟩)) (Sum.elim (fun (r : Unit) => (X.exit 0,T.e,⟨2,((T.e.set 0 ⟨eCache b0,0,0⟩).set 1 ⟨eCache b1,1,0⟩),.e,T.e⟩)) (fun (r : Unit) => (X.ret,(T.e.set 4 (.b false)),⟨2,((T.e.set 0 ⟨eCache b0,0,0⟩).set 1 ⟨eCache b1,1,0⟩),.e,T.e⟩)))):=by
  rw [finE]
  simp [k28_0,n28_0,w28_1 (n:=n) (by omega),w28_3 (n:=n) (by omega),l28_2 (n:=n) (by omega),eqGWay,lay_pure]
theorem l28_0 {n : Nat} (hn : 0 ≤ n) (v5 : Int) (b0 : GCache) (b1 : GCache) : loopE (EV n) LF [2,3,5] [4] [] 2 [] k28_0 (((T.e.set 2 (.p 0 0)).set 3 (.p 1 0)).set 5 (eI v5)) ⟨2,((T.e.set 0 ⟨eCache b0,0,0⟩).set 1 ⟨eCache b1,1,0⟩),.e,T.e⟩ = (loopN (n28_0 b0 b1) LF v5).map (Sum.elim (fun (r : Unit) => (X.exit 0,T.e,⟨2,((T.e.set 0 ⟨eCache b0,0,0⟩).set 1 ⟨eCache b1,1,0⟩),.e,T.e⟩)) (fun (r : Unit) => (X.ret,(T.e.set 4 (.b false)),⟨2,((T.e.set 0 ⟨eCache b0,0,0⟩).set 1 ⟨eCache b1,1,0⟩),.e,T.e⟩))):=by
  exact loop_rule (E:=fun s : Int => (((T.e.set 2 (.p 0 0)).set 3 (.p 1 0)).set 5 (eI s))) (B:=fun s : Int => ⟨2,((T.e.set 0 ⟨eCache b0,0,0⟩).set 1 ⟨eCache b1,1,0⟩),.e,T.e⟩) (out:=(Sum.elim (fun (r : Unit) => (X.exit 0,T.e,⟨2,((T.e.set 0 ⟨eCache b0,0,0⟩).set 1 ⟨eCache b1,1,0⟩),.e,T.e⟩)) (fun (r : Unit) => (X.ret,(T.e.set 4 (.b false)),⟨2,((T.e.set 0 ⟨eCache b0,0,0⟩).set 1 ⟨eCache b1,1,0⟩),.e,T.e⟩)))) (fun r => by rcases r with r | r <;> simp)
    (fun s => w28_0 hn b0 b1 s) (fun s => by simp [lay_pure]) v5
theorem w28 {n : Nat} (hn : 1 ≤ n) (a0 : GCache) (a1 : GCache) (qs : List Nat) (h : H) : callPv (EV n) 28 qs [.a (eCache a0),.a (eCache a1)] h = (n28 a0 a1).map fun r => (.b r,h):=by
  obtain ⟨m,rfl⟩:=pm hn
  rw [callPv_eq,EV_at t28,f28,runF_eq]
  simp [n28,w28_1 (n:=m) (by omega),w28_3 (n:=m) (by omega),l28_2 (n:=m) (by omega),l28_0 (n:=m) (by omega),eqGWay,lay_pure]
theorem w7_0 {n : Nat} (hn : 1 ≤ n) (b0 : GCoh) (b1 : GCoh) : finE (EV n) LF [2,3,20] [4] [] 2 [] k7_0 ((T.e.set 2 (.p 0 0)).set 3 (.p 1 0)) ⟨2,((T.e.set 0 ⟨eCoh b0,0,0⟩).set 1 ⟨eCoh b1,1,0⟩),.e,T.e⟩ = (n7_0 b0 b1).map (fun (r : Bool) => (X.nrm,(((T.e.set 2 (.p 0 0)).set 3 (.p 1 0)).set 20 (.b r)),⟨2,((T.e.set 0 ⟨eCoh b0,0,0⟩).set 1 ⟨eCoh b1,1,0⟩),.e,T.e⟩)):=by
  rw [finE]
  simp [k7_0,n7_0,w27 (n:=n) (by omega),w28 (n:=n) (by omega),lay_pure]
theorem w7_2 {n : Nat} (hn : 1 ≤ n) (v5 : Int) (b0 : GCoh) (b1 : GCoh) : finE (EV n) LF [2,3,5,32] [4] [] 2 [] k7_2 (((T.e.set 2 (.p 0 0)).set 3 (.p 1 0)).set 5 (eI v5)) ⟨2,((T.e.set 0 ⟨eCoh b0,0,0⟩).set 1 ⟨eCoh b1,1,0⟩),.e,T.e⟩ = (n7_2 v5 b0 b1).map (fun (r : Bool) => (X.nrm,((((T.e.set 2 (.p 0 0)).set 3 (.p 1 0)).set 5 (eI v5)).set 32 (.b r)),⟨2,((T.e.set 0 ⟨eCoh b0,0,0⟩).set 1 ⟨eCoh b1,1,0⟩),.e,T.e⟩)):=by
  rw [finE]
  simp [k7_2,n7_2,w7_0 (n:=n) (by omega),w27 (n:=n) (by omega),w28 (n:=n) (by omega),lay_pure]
theorem w7_1 {n : Nat} (hn : 1 ≤ n) (b0 : GCoh) (b1 : GCoh) (s : Int) : finE (EV n) LF [2,3,5] [4] [] 2 [] k7_1 (((T.e.set 2 (.p 0 0)).set 3 (.p 1 0)).set 5 (eI s)) ⟨2,((T.e.set 0 ⟨eCoh b0,0,0⟩).set 1 ⟨eCoh b1,1,0⟩),.e,T.e⟩ = (n7_1 b0 b1 s).map (Sum.elim (fun s => (X.nrm,(((T.e.set 2 (.p 0 0)).set 3 (.p 1 0)).set 5 (eI s)),⟨2,((T.e.set 0 ⟨eCoh b0,0,0⟩).set 1 ⟨eCoh b1,1,0⟩),.e,T.e⟩)) (Sum.elim (fun (r : Unit) => (X.exit 0,T.e,⟨2,((T.e.set 0 ⟨eCoh b0,0,0⟩).set 1 ⟨eCoh b1,1,0⟩),.e,T.e⟩)) (fun (r : Unit) => (X.ret,(T.e.set 4 (.b false)),⟨2,((T.e.set 0 ⟨eCoh b0,0,0⟩).set 1 ⟨eCoh b1,1,0⟩),.e,T.e⟩)))):=by
  rw [finE]
  simp [k7_1,n7_1,w7_0 (n:=n) (by omega),w7_2 (n:=n) (by omega),w27 (n:=n) (by omega),w28 (n:=n) (by omega),lay_pure]
theorem l7_1 {n : Nat} (hn : 1 ≤ n) (v5 : Int) (b0 : GCoh) (b1 : GCoh) : loopE (EV n) LF [2,3,5] [4] [] 2 [] k7_1 (((T.e.set 2 (.p 0 0)).set 3 (.p 1 0)).set 5 (eI v5)) ⟨2,((T.e.set 0 ⟨eCoh b0,0,0⟩).set 1 ⟨eCoh b1,1,0⟩),.e,T.e⟩ = (loopN (n7_1 b0 b1) LF v5).map (Sum.elim (fun (r : Unit) => (X.exit 0,T.e,⟨2,((T.e.set 0 ⟨eCoh b0,0,0⟩).set 1 ⟨eCoh b1,1,0⟩),.e,T.e⟩)) (fun (r : Unit) => (X.ret,(T.e.set 4 (.b false)),⟨2,((T.e.set 0 ⟨eCoh b0,0,0⟩).set 1 ⟨eCoh b1,1,0⟩),.e,T.e⟩))):=by
  exact loop_rule (E:=fun s : Int => (((T.e.set 2 (.p 0 0)).set 3 (.p 1 0)).set 5 (eI s))) (B:=fun s : Int => ⟨2,((T.e.set 0 ⟨eCoh b0,0,0⟩).set 1 ⟨eCoh b1,1,0⟩),.e,T.e⟩) (out:=(Sum.elim (fun (r : Unit) => (X.exit 0,T.e,⟨2,((T.e.set 0 ⟨eCoh b0,0,0⟩).set 1 ⟨eCoh b1,1,0⟩),.e,T.e⟩)) (fun (r : Unit) => (X.ret,(T.e.set 4 (.b false)),⟨2,((T.e.set 0 ⟨eCoh b0,0,0⟩).set 1 ⟨eCoh b1,1,0⟩),.e,T.e⟩)))) (fun r => by rcases r with r | r <;> simp)
    (fun s => w7_1 hn b0 b1 s) (fun s => by simp [lay_pure]) v5
theorem w7 {n : Nat} (hn : 2 ≤ n) (a0 : GCoh) (a1 : GCoh) (qs : List Nat) (h : H) : callPv (EV n) 7 qs [.a (eCoh a0),.a (eCoh a1)] h = (n7 a0 a1).map fun r => (.b r,h):=by
  obtain ⟨m,rfl⟩:=pm hn
  rw [callPv_eq,EV_at t7,f7,runF_eq]
  simp [n7,w7_0 (n:=m) (by omega),w7_2 (n:=m) (by omega),l7_1 (n:=m) (by omega),w27 (n:=m) (by omega),w28 (n:=m) (by omega),lay_pure]
theorem w29_1 {n : Nat} (hn : 0 ≤ n) (v0 : List (BitVec 32)) (v1 : List (BitVec 32)) (v5 : Int) : finE (EV n) LF [0,1,5,20] [4] [] 0 [] k29_1 (((T.e.set 0 (eSl 1 cU32 v0)).set 1 (eSl 1 cU32 v1)).set 5 (eI v5)) ⟨0,T.e,.e,T.e⟩ = (n29_1 v0 v1 v5).map (fun (r : Bool) => (X.nrm,((((T.e.set 0 (eSl 1 cU32 v0)).set 1 (eSl 1 cU32 v1)).set 5 (eI v5)).set 20 (.b r)),⟨0,T.e,.e,T.e⟩)):=by
  rw [finE]
  simp [k29_1,n29_1,lay_pure]
theorem w29_0 {n : Nat} (hn : 0 ≤ n) (v0 : List (BitVec 32)) (v1 : List (BitVec 32)) (s : Int) : finE (EV n) LF [0,1,5] [4] [] 0 [] k29_0 (((T.e.set 0 (eSl 1 cU32 v0)).set 1 (eSl 1 cU32 v1)).set 5 (eI s)) ⟨0,T.e,.e,T.e⟩ = (n29_0 v0 v1 s).map (Sum.elim (fun s => (X.nrm,(((T.e.set 0 (eSl 1 cU32 v0)).set 1 (eSl 1 cU32 v1)).set 5 (eI s)),⟨0,T.e,.e,T.e⟩)) (Sum.elim (fun (r : Unit) => (X.exit 0,T.e,⟨0,T.e,.e,T.e⟩)) (fun (r : Unit) => (X.ret,(T.e.set 4 (.b false)),⟨0,T.e,.e,T.e⟩)))):=by
  rw [finE]
  simp [k29_0,n29_0,w29_1 (n:=n) (by omega),lay_pure]
theorem l29_0 {n : Nat} (hn : 0 ≤ n) (v0 : List (BitVec 32)) (v1 : List (BitVec 32)) (v5 : Int) : loopE (EV n) LF [0,1,5] [4] [] 0 [] k29_0 (((T.e.set 0 (eSl 1 cU32 v0)).set 1 (eSl 1 cU32 v1)).set 5 (eI v5)) ⟨0,T.e,.e,T.e⟩ = (loopN (n29_0 v0 v1) LF v5).map (Sum.elim (fun (r : Unit) => (X.exit 0,T.e,⟨0,T.e,.e,T.e⟩)) (fun (r : Unit) => (X.ret,(T.e.set 4 (.b false)),⟨0,T.e,.e,T.e⟩))):=by
  exact loop_rule (E:=fun s : Int => (((T.e.set 0 (eSl 1 cU32 v0)).set 1 (eSl 1 cU32 v1)).set 5 (eI s))) (B:=fun s : Int => ⟨0,T.e,.e,T.e⟩) (out:=(Sum.elim (fun (r : Unit) => (X.exit 0,T.e,⟨0,T.e,.e,T.e⟩)) (fun (r : Unit) => (X.ret,(T.e.set 4 (.b false)),⟨0,T.e,.e,T.e⟩)))) (fun r => by rcases r with r | r <;> simp)
    (fun s => w29_0 hn v0 v1 s) (fun s => by simp [lay_pure]) v5
theorem w29 {n : Nat} (hn : 1 ≤ n) (a0 : List (BitVec 32)) (a1 : List (BitVec 32)) (qs : List Nat) (h : H) : callPv (EV n) 29 qs [eSl 1 cU32 a0,eSl 1 cU32 a1] h = (n29 a0 a1).map fun r => (.b r,h):=by
  obtain ⟨m,rfl⟩:=pm hn
  rw [callPv_eq,EV_at t29,f29,runF_eq]
  simp [n29,w29_1 (n:=m) (by omega),l29_0 (n:=m) (by omega),lay_pure]
theorem w81_1 {n : Nat} (hn : 0 ≤ n) (v0 : List GBtb) (v1 : List GBtb) (v5 : Int) : finE (EV n) LF [0,1,5,20] [4] [] 0 [] k81_1 (((T.e.set 0 (eSl 3 eBtb v0)).set 1 (eSl 3 eBtb v1)).set 5 (eI v5)) ⟨0,T.e,.e,T.e⟩ = (n81_1 v0 v1 v5).map (fun (r : Bool) => (X.nrm,((((T.e.set 0 (eSl 3 eBtb v0)).set 1 (eSl 3 eBtb v1)).set 5 (eI v5)).set 20 (.b r)),⟨0,T.e,.e,T.e⟩)):=by
  rw [finE]
  simp [k81_1,n81_1,eqGBtb,lay_pure]
theorem w81_0 {n : Nat} (hn : 0 ≤ n) (v0 : List GBtb) (v1 : List GBtb) (s : Int) : finE (EV n) LF [0,1,5] [4] [] 0 [] k81_0 (((T.e.set 0 (eSl 3 eBtb v0)).set 1 (eSl 3 eBtb v1)).set 5 (eI s)) ⟨0,T.e,.e,T.e⟩ = (n81_0 v0 v1 s).map (Sum.elim (fun s => (X.nrm,(((T.e.set 0 (eSl 3 eBtb v0)).set 1 (eSl 3 eBtb v1)).set 5 (eI s)),⟨0,T.e,.e,T.e⟩)) (Sum.elim (fun (r : Unit) => (X.exit 0,T.e,⟨0,T.e,.e,T.e⟩)) (fun (r : Unit) => (X.ret,(T.e.set 4 (.b false)),⟨0,T.e,.e,T.e⟩)))):=by
  rw [finE]
  simp [k81_0,n81_0,w81_1 (n:=n) (by omega),eqGBtb,lay_pure]
theorem l81_0 {n : Nat} (hn : 0 ≤ n) (v0 : List GBtb) (v1 : List GBtb) (v5 : Int) : loopE (EV n) LF [0,1,5] [4] [] 0 [] k81_0 (((T.e.set 0 (eSl 3 eBtb v0)).set 1 (eSl 3 eBtb v1)).set 5 (eI v5)) ⟨0,T.e,.e,T.e⟩ = (loopN (n81_0 v0 v1) LF v5).map (Sum.elim (fun (r : Unit) => (X.exit 0,T.e,⟨0,T.e,.e,T.e⟩)) (fun (r : Unit) => (X.ret,(T.e.set 4 (.b false)),⟨0,T.e,.e,T.e⟩))):=by
  exact loop_rule (E:=fun s : Int => (((T.e.set 0 (eSl 3 eBtb v0)).set 1 (eSl 3 eBtb v1)).set 5 (eI s))) (B:=fun s : Int => ⟨0,T.e,.e,T.e⟩) (out:=(Sum.elim (fun (r : Unit) => (X.exit 0,T.e,⟨0,T.e,.e,T.e⟩)) (fun (r : Unit) => (X.ret,(T.e.set 4 (.b false)),⟨0,T.e,.e,T.e⟩)))) (fun r => by rcases r with r | r <;> simp)
    (fun s => w81_0 hn v0 v1 s) (fun s => by simp [lay_pure]) v5
theorem w81 {n : Nat} (hn : 1 ≤ n) (a0 : List GBtb) (a1 : List GBtb) (qs : List Nat) (h : H) : callPv (EV n) 81 qs [eSl 3 eBtb a0,eSl 3 eBtb a1] h = (n81 a0 a1).map fun r => (.b r,h):=by
  obtain ⟨m,rfl⟩:=pm hn
  rw [callPv_eq,EV_at t81,f81,runF_eq]
  simp [n81,w81_1 (n:=m) (by omega),l81_0 (n:=m) (by omega),eqGBtb,lay_pure]
theorem w30 {n : Nat} (hn : 2 ≤ n) (a0 : GPred) (a1 : GPred) (qs : List Nat) (h : H) : callPv (EV n) 30 qs [.a (ePred a0),.a (ePred a1)] h = (n30 a0 a1).map fun r => (.b r,h):=by
  obtain ⟨m,rfl⟩:=pm hn
  rw [callPv_eq,EV_at t30,f30,runF_eq]
  simp [n30,w27 (n:=m) (by omega),w29 (n:=m) (by omega),w81 (n:=m) (by omega),lay_pure]
end
end Go.Ev
namespace Go.Ev
noncomputable section
set_option maxHeartbeats 4000000
theorem w31_1 {n : Nat} (hn : 0 ≤ n) (v0 : List GTlb) (v1 : List GTlb) (v5 : Int) : finE (EV n) LF [0,1,5,20] [4] [] 0 [] k31_1 (((T.e.set 0 (eSl 4 eTlb v0)).set 1 (eSl 4 eTlb v1)).set 5 (eI v5)) ⟨0,T.e,.e,T.e⟩ = (n31_1 v0 v1 v5).map (fun (r : Bool) => (X.nrm,((((T.e.set 0 (eSl 4 eTlb v0)).set 1 (eSl 4 eTlb v1)).set 5 (eI v5)).set 20 (.b r)),⟨0,T.e,.e,T.e⟩)):=by
  rw [finE]
  simp [k31_1,n31_1,eqGTlb,lay_pure]
theorem w31_0 {n : Nat} (hn : 0 ≤ n) (v0 : List GTlb) (v1 : List GTlb) (s : Int) : finE (EV n) LF [0,1,5] [4] [] 0 [] k31_0 (((T.e.set 0 (eSl 4 eTlb v0)).set 1 (eSl 4 eTlb v1)).set 5 (eI s)) ⟨0,T.e,.e,T.e⟩ = (n31_0 v0 v1 s).map (Sum.elim (fun s => (X.nrm,(((T.e.set 0 (eSl 4 eTlb v0)).set 1 (eSl 4 eTlb v1)).set 5 (eI s)),⟨0,T.e,.e,T.e⟩)) (Sum.elim (fun (r : Unit) => (X.exit 0,T.e,⟨0,T.e,.e,T.e⟩)) (fun (r : Unit) => (X.ret,(T.e.set 4 (.b false)),⟨0,T.e,.e,T.e⟩)))):=by
  rw [finE]
  simp [k31_0,n31_0,w31_1 (n:=n) (by omega),eqGTlb,lay_pure]
theorem l31_0 {n : Nat} (hn : 0 ≤ n) (v0 : List GTlb) (v1 : List GTlb) (v5 : Int) : loopE (EV n) LF [0,1,5] [4] [] 0 [] k31_0 (((T.e.set 0 (eSl 4 eTlb v0)).set 1 (eSl 4 eTlb v1)).set 5 (eI v5)) ⟨0,T.e,.e,T.e⟩ = (loopN (n31_0 v0 v1) LF v5).map (Sum.elim (fun (r : Unit) => (X.exit 0,T.e,⟨0,T.e,.e,T.e⟩)) (fun (r : Unit) => (X.ret,(T.e.set 4 (.b false)),⟨0,T.e,.e,T.e⟩))):=by
  exact loop_rule (E:=fun s : Int => (((T.e.set 0 (eSl 4 eTlb v0)).set 1 (eSl 4 eTlb v1)).set 5 (eI s))) (B:=fun s : Int => ⟨0,T.e,.e,T.e⟩) (out:=(Sum.elim (fun (r : Unit) => (X.exit 0,T.e,⟨0,T.e,.e,T.e⟩)) (fun (r : Unit) => (X.ret,(T.e.set 4 (.b false)),⟨0,T.e,.e,T.e⟩)))) (fun r => by rcases r with r | r <;> simp)
    (fun s => w31_0 hn v0 v1 s) (fun s => by simp [lay_pure]) v5
theorem w31 {n : Nat} (hn : 1 ≤ n) (a0 : List GTlb) (a1 : List GTlb) (qs : List Nat) (h : H) : callPv (EV n) 31 qs [eSl 4 eTlb a0,eSl 4 eTlb a1] h = (n31 a0 a1).map fun r => (.b r,h):=by
  obtain ⟨m,rfl⟩:=pm hn
  rw [callPv_eq,EV_at t31,f31,runF_eq]
  simp [n31,w31_1 (n:=m) (by omega),l31_0 (n:=m) (by omega),eqGTlb,lay_pure]
theorem w32_1 {n : Nat} (hn : 0 ≤ n) (v0 : List GSlot) (v1 : List GSlot) (v5 : Int) : finE (EV n) LF [0,1,5,20] [4] [] 0 [] k32_1 (((T.e.set 0 (eSl 9 eSlot v0)).set 1 (eSl 9 eSlot v1)).set 5 (eI v5)) ⟨0,T.e,.e,T.e⟩ = (n32_1 v0 v1 v5).map (fun (r : Bool) => (X.nrm,((((T.e.set 0 (eSl 9 eSlot v0)).set 1 (eSl 9 eSlot v1)).set 5 (eI v5)).set 20 (.b r)),⟨0,T.e,.e,T.e⟩)):=by
  rw [finE]
  simp [k32_1,n32_1,eqGSlot,lay_pure]
theorem w32_0 {n : Nat} (hn : 0 ≤ n) (v0 : List GSlot) (v1 : List GSlot) (s : Int) : finE (EV n) LF [0,1,5] [4] [] 0 [] k32_0 (((T.e.set 0 (eSl 9 eSlot v0)).set 1 (eSl 9 eSlot v1)).set 5 (eI s)) ⟨0,T.e,.e,T.e⟩ = (n32_0 v0 v1 s).map (Sum.elim (fun s => (X.nrm,(((T.e.set 0 (eSl 9 eSlot v0)).set 1 (eSl 9 eSlot v1)).set 5 (eI s)),⟨0,T.e,.e,T.e⟩)) (Sum.elim (fun (r : Unit) => (X.exit 0,T.e,⟨0,T.e,.e,T.e⟩)) (fun (r : Unit) => (X.ret,(T.e.set 4 (.b false)),⟨0,T.e,.e,T.e⟩)))):=by
  rw [finE]
  simp [k32_0,n32_0,w32_1 (n:=n) (by omega),eqGSlot,lay_pure]
theorem l32_0 {n : Nat} (hn : 0 ≤ n) (v0 : List GSlot) (v1 : List GSlot) (v5 : Int) : loopE (EV n) LF [0,1,5] [4] [] 0 [] k32_0 (((T.e.set 0 (eSl 9 eSlot v0)).set 1 (eSl 9 eSlot v1)).set 5 (eI v5)) ⟨0,T.e,.e,T.e⟩ = (loopN (n32_0 v0 v1) LF v5).map (Sum.elim (fun (r : Unit) => (X.exit 0,T.e,⟨0,T.e,.e,T.e⟩)) (fun (r : Unit) => (X.ret,(T.e.set 4 (.b false)),⟨0,T.e,.e,T.e⟩))):=by
  exact loop_rule (E:=fun s : Int => (((T.e.set 0 (eSl 9 eSlot v0)).set 1 (eSl 9 eSlot v1)).set 5 (eI s))) (B:=fun s : Int => ⟨0,T.e,.e,T.e⟩) (out:=(Sum.elim (fun (r : Unit) => (X.exit 0,T.e,⟨0,T.e,.e,T.e⟩)) (fun (r : Unit) => (X.ret,(T.e.set 4 (.b false)),⟨0,T.e,.e,T.e⟩)))) (fun r => by rcases r with r | r <;> simp)
    (fun s => w32_0 hn v0 v1 s) (fun s => by simp [lay_pure]) v5
theorem w32 {n : Nat} (hn : 1 ≤ n) (a0 : List GSlot) (a1 : List GSlot) (qs : List Nat) (h : H) : callPv (EV n) 32 qs [eSl 9 eSlot a0,eSl 9 eSlot a1] h = (n32 a0 a1).map fun r => (.b r,h):=by
  obtain ⟨m,rfl⟩:=pm hn
  rw [callPv_eq,EV_at t32,f32,runF_eq]
  simp [n32,w32_1 (n:=m) (by omega),l32_0 (n:=m) (by omega),eqGSlot,lay_pure]
theorem w172_1 {n : Nat} (hn : 0 ≤ n) (v0 : List Int) (v1 : List Int) (v5 : Int) : finE (EV n) LF [0,1,5,20] [4] [] 0 [] k172_1 (((T.e.set 0 (eSl 1 cI v0)).set 1 (eSl 1 cI v1)).set 5 (eI v5)) ⟨0,T.e,.e,T.e⟩ = (n172_1 v0 v1 v5).map (fun (r : Bool) => (X.nrm,((((T.e.set 0 (eSl 1 cI v0)).set 1 (eSl 1 cI v1)).set 5 (eI v5)).set 20 (.b r)),⟨0,T.e,.e,T.e⟩)):=by
  rw [finE]
  simp [k172_1,n172_1,lay_pure]
theorem w172_0 {n : Nat} (hn : 0 ≤ n) (v0 : List Int) (v1 : List Int) (s : Int) : finE (EV n) LF [0,1,5] [4] [] 0 [] k172_0 (((T.e.set 0 (eSl 1 cI v0)).set 1 (eSl 1 cI v1)).set 5 (eI s)) ⟨0,T.e,.e,T.e⟩ = (n172_0 v0 v1 s).map (Sum.elim (fun s => (X.nrm,(((T.e.set 0 (eSl 1 cI v0)).set 1 (eSl 1 cI v1)).set 5 (eI s)),⟨0,T.e,.e,T.e⟩)) (Sum.elim (fun (r : Unit) => (X.exit 0,T.e,⟨0,T.e,.e,T.e⟩)) (fun (r : Unit) => (X.ret,(T.e.set 4 (.b false)),⟨0,T.e,.e,T.e⟩)))):=by
  rw [finE]
  simp [k172_0,n172_0,w172_1 (n:=n) (by omega),lay_pure]
theorem l172_0 {n : Nat} (hn : 0 ≤ n) (v0 : List Int) (v1 : List Int) (v5 : Int) : loopE (EV n) LF [0,1,5] [4] [] 0 [] k172_0 (((T.e.set 0 (eSl 1 cI v0)).set 1 (eSl 1 cI v1)).set 5 (eI v5)) ⟨0,T.e,.e,T.e⟩ = (loopN (n172_0 v0 v1) LF v5).map (Sum.elim (fun (r : Unit) => (X.exit 0,T.e,⟨0,T.e,.e,T.e⟩)) (fun (r : Unit) => (X.ret,(T.e.set 4 (.b false)),⟨0,T.e,.e,T.e⟩))):=by
  exact loop_rule (E:=fun s : Int => (((T.e.set 0 (eSl 1 cI v0)).set 1 (eSl 1 cI v1)).set 5 (eI s))) (B:=fun s : Int => ⟨0,T.e,.e,T.e⟩) (out:=(Sum.elim (fun (r : Unit) => (X.exit 0,T.e,⟨0,T.e,.e,T.e⟩)) (fun (r : Unit) => (X.ret,(T.e.set 4 (.b false)),⟨0,T.e,.e,T.e⟩)))) (fun r => by rcases r with r | r <;> simp)
    (fun s => w172_0 hn v0 v1 s) (fun s => by simp [lay_pure]) v5
theorem w172 {n : Nat} (hn : 1 ≤ n) (a0 : List Int) (a1 : List Int) (qs : List Nat) (h : H) : callPv (EV n) 172 qs [eSl 1 cI a0,eSl 1 cI a1] h = (n172 a0 a1).map fun r => (.b r,h):=by
  obtain ⟨m,rfl⟩:=pm hn
  rw [callPv_eq,EV_at t172,f172,runF_eq]
  simp [n172,w172_1 (n:=m) (by omega),l172_0 (n:=m) (by omega),lay_pure]
theorem w82 {n : Nat} (hn : 2 ≤ n) (a0 : GFree) (a1 : GFree) (qs : List Nat) (h : H) : callPv (EV n) 82 qs [.a (eFree a0),.a (eFree a1)] h = (n82 a0 a1).map fun r => (.b r,h):=by
  obtain ⟨m,rfl⟩:=pm hn
  rw [callPv_eq,EV_at t82,f82,runF_eq]
  simp [n82,w172 (n:=m) (by omega),lay_pure]
theorem w33 {n : Nat} (hn : 3 ≤ n) (a0 : GNames) (a1 : GNames) (qs : List Nat) (h : H) : callPv (EV n) 33 qs [.a (eNames a0),.a (eNames a1)] h = (n33 a0 a1).map fun r => (.b r,h):=by
  obtain ⟨m,rfl⟩:=pm hn
  rw [callPv_eq,EV_at t33,f33,runF_eq]
  simp [n33,w82 (n:=m) (by omega),eqArr37,lay_pure]
theorem w83_1 {n : Nat} (hn : 0 ≤ n) (v0 : List Bool) (v1 : List Bool) (v5 : Int) : finE (EV n) LF [0,1,5,20] [4] [] 0 [] k83_1 (((T.e.set 0 (eSl 1 cB v0)).set 1 (eSl 1 cB v1)).set 5 (eI v5)) ⟨0,T.e,.e,T.e⟩ = (n83_1 v0 v1 v5).map (fun (r : Bool) => (X.nrm,((((T.e.set 0 (eSl 1 cB v0)).set 1 (eSl 1 cB v1)).set 5 (eI v5)).set 20 (.b r)),⟨0,T.e,.e,T.e⟩)):=by
  rw [finE]
  simp [k83_1,n83_1,lay_pure]
theorem w83_0 {n : Nat} (hn : 0 ≤ n) (v0 : List Bool) (v1 : List Bool) (s : Int) : finE (EV n) LF [0,1,5] [4] [] 0 [] k83_0 (((T.e.set 0 (eSl 1 cB v0)).set 1 (eSl 1 cB v1)).set 5 (eI s)) ⟨0,T.e,.e,T.e⟩ = (n83_0 v0 v1 s).map (Sum.elim (fun s => (X.nrm,(((T.e.set 0 (eSl 1 cB v0)).set 1 (eSl 1 cB v1)).set 5 (eI s)),⟨0,T.e,.e,T.e⟩)) (Sum.elim (fun (r : Unit) => (X.exit 0,T.e,⟨0,T.e,.e,T.e⟩)) (fun (r : Unit) => (X.ret,(T.e.set 4 (.b false)),⟨0,T.e,.e,T.e⟩)))):=by
  rw [finE]
  simp [k83_0,n83_0,w83_1 (n:=n) (by omega),lay_pure]
theorem l83_0 {n : Nat} (hn : 0 ≤ n) (v0 : List Bool) (v1 : List Bool) (v5 : Int) : loopE (EV n) LF [0,1,5] [4] [] 0 [] k83_0 (((T.e.set 0 (eSl 1 cB v0)).set 1 (eSl 1 cB v1)).set 5 (eI v5)) ⟨0,T.e,.e,T.e⟩ = (loopN (n83_0 v0 v1) LF v5).map (Sum.elim (fun (r : Unit) => (X.exit 0,T.e,⟨0,T.e,.e,T.e⟩)) (fun (r : Unit) => (X.ret,(T.e.set 4 (.b false)),⟨0,T.e,.e,T.e⟩))):=by
  exact loop_rule (E:=fun s : Int => (((T.e.set 0 (eSl 1 cB v0)).set 1 (eSl 1 cB v1)).set 5 (eI s))) (B:=fun s : Int => ⟨0,T.e,.e,T.e⟩) (out:=(Sum.elim (fun (r : Unit) => (X.exit 0,T.e,⟨0,T.e,.e,T.e⟩)) (fun (r : Unit) => (X.ret,(T.e.set 4 (.b false)),⟨0,T.e,.e,T.e⟩)))) (fun r => by rcases r with r | r <;> simp)
    (fun s => w83_0 hn v0 v1 s) (fun s => by simp [lay_pure]) v5
theorem w83 {n : Nat} (hn : 1 ≤ n) (a0 : List Bool) (a1 : List Bool) (qs : List Nat) (h : H) : callPv (EV n) 83 qs [eSl 1 cB a0,eSl 1 cB a1] h = (n83 a0 a1).map fun r => (.b r,h):=by
  obtain ⟨m,rfl⟩:=pm hn
  rw [callPv_eq,EV_at t83,f83,runF_eq]
  simp [n83,w83_1 (n:=m) (by omega),l83_0 (n:=m) (by omega),lay_pure]
theorem w34 {n : Nat} (hn : 2 ≤ n) (a0 : GPhys) (a1 : GPhys) (qs : List Nat) (h : H) : callPv (EV n) 34 qs [.a (ePhys a0),.a (ePhys a1)] h = (n34 a0 a1).map fun r => (.b r,h):=by
  obtain ⟨m,rfl⟩:=pm hn
  rw [callPv_eq,EV_at t34,f34,runF_eq]
  simp [n34,w29 (n:=m) (by omega),w83 (n:=m) (by omega),lay_pure]
theorem w35_1 {n : Nat} (hn : 0 ≤ n) (v0 : List GRob) (v1 : List GRob) (v5 : Int) : finE (EV n) LF [0,1,5,20] [4] [] 0 [] k35_1 (((T.e.set 0 (eSl 35 eRob v0)).set 1 (eSl 35 eRob v1)).set 5 (eI v5)) ⟨0,T.e,.e,T.e⟩ = (n35_1 v0 v1 v5).map (fun (r : Bool) => (X.nrm,((((T.e.set 0 (eSl 35 eRob v0)).set 1 (eSl 35 eRob v1)).set 5 (eI v5)).set 20 (.b r)),⟨0,T.e,.e,T.e⟩)):=by
  rw [finE]
  simp [k35_1,n35_1,eqGRob,lay_pure]
theorem w35_0 {n : Nat} (hn : 0 ≤ n) (v0 : List GRob) (v1 : List GRob) (s : Int) : finE (EV n) LF [0,1,5] [4] [] 0 [] k35_0 (((T.e.set 0 (eSl 35 eRob v0)).set 1 (eSl 35 eRob v1)).set 5 (eI s)) ⟨0,T.e,.e,T.e⟩ = (n35_0 v0 v1 s).map (Sum.elim (fun s => (X.nrm,(((T.e.set 0 (eSl 35 eRob v0)).set 1 (eSl 35 eRob v1)).set 5 (eI s)),⟨0,T.e,.e,T.e⟩)) (Sum.elim (fun (r : Unit) => (X.exit 0,T.e,⟨0,T.e,.e,T.e⟩)) (fun (r : Unit) => (X.ret,(T.e.set 4 (.b false)),⟨0,T.e,.e,T.e⟩)))):=by
  rw [finE]
  simp [k35_0,n35_0,w35_1 (n:=n) (by omega),eqGRob,lay_pure]
theorem l35_0 {n : Nat} (hn : 0 ≤ n) (v0 : List GRob) (v1 : List GRob) (v5 : Int) : loopE (EV n) LF [0,1,5] [4] [] 0 [] k35_0 (((T.e.set 0 (eSl 35 eRob v0)).set 1 (eSl 35 eRob v1)).set 5 (eI v5)) ⟨0,T.e,.e,T.e⟩ = (loopN (n35_0 v0 v1) LF v5).map (Sum.elim (fun (r : Unit) => (X.exit 0,T.e,⟨0,T.e,.e,T.e⟩)) (fun (r : Unit) => (X.ret,(T.e.set 4 (.b false)),⟨0,T.e,.e,T.e⟩))):=by
  exact loop_rule (E:=fun s : Int => (((T.e.set 0 (eSl 35 eRob v0)).set 1 (eSl 35 eRob v1)).set 5 (eI s))) (B:=fun s : Int => ⟨0,T.e,.e,T.e⟩) (out:=(Sum.elim (fun (r : Unit) => (X.exit 0,T.e,⟨0,T.e,.e,T.e⟩)) (fun (r : Unit) => (X.ret,(T.e.set 4 (.b false)),⟨0,T.e,.e,T.e⟩)))) (fun r => by rcases r with r | r <;> simp)
    (fun s => w35_0 hn v0 v1 s) (fun s => by simp [lay_pure]) v5
theorem w35 {n : Nat} (hn : 1 ≤ n) (a0 : List GRob) (a1 : List GRob) (qs : List Nat) (h : H) : callPv (EV n) 35 qs [eSl 35 eRob a0,eSl 35 eRob a1] h = (n35 a0 a1).map fun r => (.b r,h):=by
  obtain ⟨m,rfl⟩:=pm hn
  rw [callPv_eq,EV_at t35,f35,runF_eq]
  simp [n35,w35_1 (n:=m) (by omega),l35_0 (n:=m) (by omega),eqGRob,lay_pure]
theorem w36_1 {n : Nat} (hn : 0 ≤ n) (v0 : List GIq) (v1 : List GIq) (v5 : Int) : finE (EV n) LF [0,1,5,20] [4] [] 0 [] k36_1 (((T.e.set 0 (eSl 32 eIq v0)).set 1 (eSl 32 eIq v1)).set 5 (eI v5)) ⟨0,T.e,.e,T.e⟩ = (n36_1 v0 v1 v5).map (fun (r : Bool) => (X.nrm,((((T.e.set 0 (eSl 32 eIq v0)).set 1 (eSl 32 eIq v1)).set 5 (eI v5)).set 20 (.b r)),⟨0,T.e,.e,T.e⟩)):=by
  rw [finE]
  simp [k36_1,n36_1,eqGIq,lay_pure]
theorem w36_0 {n : Nat} (hn : 0 ≤ n) (v0 : List GIq) (v1 : List GIq) (s : Int) : finE (EV n) LF [0,1,5] [4] [] 0 [] k36_0 (((T.e.set 0 (eSl 32 eIq v0)).set 1 (eSl 32 eIq v1)).set 5 (eI s)) ⟨0,T.e,.e,T.e⟩ = (n36_0 v0 v1 s).map (Sum.elim (fun s => (X.nrm,(((T.e.set 0 (eSl 32 eIq v0)).set 1 (eSl 32 eIq v1)).set 5 (eI s)),⟨0,T.e,.e,T.e⟩)) (Sum.elim (fun (r : Unit) => (X.exit 0,T.e,⟨0,T.e,.e,T.e⟩)) (fun (r : Unit) => (X.ret,(T.e.set 4 (.b false)),⟨0,T.e,.e,T.e⟩)))):=by
  rw [finE]
  simp [k36_0,n36_0,w36_1 (n:=n) (by omega),eqGIq,lay_pure]
theorem l36_0 {n : Nat} (hn : 0 ≤ n) (v0 : List GIq) (v1 : List GIq) (v5 : Int) : loopE (EV n) LF [0,1,5] [4] [] 0 [] k36_0 (((T.e.set 0 (eSl 32 eIq v0)).set 1 (eSl 32 eIq v1)).set 5 (eI v5)) ⟨0,T.e,.e,T.e⟩ = (loopN (n36_0 v0 v1) LF v5).map (Sum.elim (fun (r : Unit) => (X.exit 0,T.e,⟨0,T.e,.e,T.e⟩)) (fun (r : Unit) => (X.ret,(T.e.set 4 (.b false)),⟨0,T.e,.e,T.e⟩))):=by
  exact loop_rule (E:=fun s : Int => (((T.e.set 0 (eSl 32 eIq v0)).set 1 (eSl 32 eIq v1)).set 5 (eI s))) (B:=fun s : Int => ⟨0,T.e,.e,T.e⟩) (out:=(Sum.elim (fun (r : Unit) => (X.exit 0,T.e,⟨0,T.e,.e,T.e⟩)) (fun (r : Unit) => (X.ret,(T.e.set 4 (.b false)),⟨0,T.e,.e,T.e⟩)))) (fun r => by rcases r with r | r <;> simp)
    (fun s => w36_0 hn v0 v1 s) (fun s => by simp [lay_pure]) v5
theorem w36 {n : Nat} (hn : 1 ≤ n) (a0 : List GIq) (a1 : List GIq) (qs : List Nat) (h : H) : callPv (EV n) 36 qs [eSl 32 eIq a0,eSl 32 eIq a1] h = (n36 a0 a1).map fun r => (.b r,h):=by
  obtain ⟨m,rfl⟩:=pm hn
  rw [callPv_eq,EV_at t36,f36,runF_eq]
  simp [n36,w36_1 (n:=m) (by omega),l36_0 (n:=m) (by omega),eqGIq,lay_pure]
end
end Go.Ev
namespace Go.Ev
noncomputable section
set_option maxHeartbeats 4000000
theorem w37_1 {n : Nat} (hn : 0 ≤ n) (v0 : List GLq) (v1 : List GLq) (v5 : Int) : finE (EV n) LF [0,1,5,20] [4] [] 0 [] k37_1 (((T.e.set 0 (eSl 8 eLq v0)).set 1 (eSl 8 eLq v1)).set 5 (eI v5)) ⟨0,T.e,.e,T.e⟩ = (n37_1 v0 v1 v5).map (fun (r : Bool) => (X.nrm,((((T.e.set 0 (eSl 8 eLq v0)).set 1 (eSl 8 eLq v1)).set 5 (eI v5)).set 20 (.b r)),⟨0,T.e,.e,T.e⟩)):=by
  rw [finE]
  simp [k37_1,n37_1,eqGLq,lay_pure]
theorem w37_0 {n : Nat} (hn : 0 ≤ n) (v0 : List GLq) (v1 : List GLq) (s : Int) : finE (EV n) LF [0,1,5] [4] [] 0 [] k37_0 (((T.e.set 0 (eSl 8 eLq v0)).set 1 (eSl 8 eLq v1)).set 5 (eI s)) ⟨0,T.e,.e,T.e⟩ = (n37_0 v0 v1 s).map (Sum.elim (fun s => (X.nrm,(((T.e.set 0 (eSl 8 eLq v0)).set 1 (eSl 8 eLq v1)).set 5 (eI s)),⟨0,T.e,.e,T.e⟩)) (Sum.elim (fun (r : Unit) => (X.exit 0,T.e,⟨0,T.e,.e,T.e⟩)) (fun (r : Unit) => (X.ret,(T.e.set 4 (.b false)),⟨0,T.e,.e,T.e⟩)))):=by
  rw [finE]
  simp [k37_0,n37_0,w37_1 (n:=n) (by omega),eqGLq,lay_pure]
theorem l37_0 {n : Nat} (hn : 0 ≤ n) (v0 : List GLq) (v1 : List GLq) (v5 : Int) : loopE (EV n) LF [0,1,5] [4] [] 0 [] k37_0 (((T.e.set 0 (eSl 8 eLq v0)).set 1 (eSl 8 eLq v1)).set 5 (eI v5)) ⟨0,T.e,.e,T.e⟩ = (loopN (n37_0 v0 v1) LF v5).map (Sum.elim (fun (r : Unit) => (X.exit 0,T.e,⟨0,T.e,.e,T.e⟩)) (fun (r : Unit) => (X.ret,(T.e.set 4 (.b false)),⟨0,T.e,.e,T.e⟩))):=by
  exact loop_rule (E:=fun s : Int => (((T.e.set 0 (eSl 8 eLq v0)).set 1 (eSl 8 eLq v1)).set 5 (eI s))) (B:=fun s : Int => ⟨0,T.e,.e,T.e⟩) (out:=(Sum.elim (fun (r : Unit) => (X.exit 0,T.e,⟨0,T.e,.e,T.e⟩)) (fun (r : Unit) => (X.ret,(T.e.set 4 (.b false)),⟨0,T.e,.e,T.e⟩)))) (fun r => by rcases r with r | r <;> simp)
    (fun s => w37_0 hn v0 v1 s) (fun s => by simp [lay_pure]) v5
theorem w37 {n : Nat} (hn : 1 ≤ n) (a0 : List GLq) (a1 : List GLq) (qs : List Nat) (h : H) : callPv (EV n) 37 qs [eSl 8 eLq a0,eSl 8 eLq a1] h = (n37 a0 a1).map fun r => (.b r,h):=by
  obtain ⟨m,rfl⟩:=pm hn
  rw [callPv_eq,EV_at t37,f37,runF_eq]
  simp [n37,w37_1 (n:=m) (by omega),l37_0 (n:=m) (by omega),eqGLq,lay_pure]
theorem w38_1 {n : Nat} (hn : 0 ≤ n) (v0 : List GSq) (v1 : List GSq) (v5 : Int) : finE (EV n) LF [0,1,5,20] [4] [] 0 [] k38_1 (((T.e.set 0 (eSl 5 eSq v0)).set 1 (eSl 5 eSq v1)).set 5 (eI v5)) ⟨0,T.e,.e,T.e⟩ = (n38_1 v0 v1 v5).map (fun (r : Bool) => (X.nrm,((((T.e.set 0 (eSl 5 eSq v0)).set 1 (eSl 5 eSq v1)).set 5 (eI v5)).set 20 (.b r)),⟨0,T.e,.e,T.e⟩)):=by
  rw [finE]
  simp [k38_1,n38_1,eqGSq,lay_pure]
theorem w38_0 {n : Nat} (hn : 0 ≤ n) (v0 : List GSq) (v1 : List GSq) (s : Int) : finE (EV n) LF [0,1,5] [4] [] 0 [] k38_0 (((T.e.set 0 (eSl 5 eSq v0)).set 1 (eSl 5 eSq v1)).set 5 (eI s)) ⟨0,T.e,.e,T.e⟩ = (n38_0 v0 v1 s).map (Sum.elim (fun s => (X.nrm,(((T.e.set 0 (eSl 5 eSq v0)).set 1 (eSl 5 eSq v1)).set 5 (eI s)),⟨0,T.e,.e,T.e⟩)) (Sum.elim (fun (r : Unit) => (X.exit 0,T.e,⟨0,T.e,.e,T.e⟩)) (fun (r : Unit) => (X.ret,(T.e.set 4 (.b false)),⟨0,T.e,.e,T.e⟩)))):=by
  rw [finE]
  simp [k38_0,n38_0,w38_1 (n:=n) (by omega),eqGSq,lay_pure]
theorem l38_0 {n : Nat} (hn : 0 ≤ n) (v0 : List GSq) (v1 : List GSq) (v5 : Int) : loopE (EV n) LF [0,1,5] [4] [] 0 [] k38_0 (((T.e.set 0 (eSl 5 eSq v0)).set 1 (eSl 5 eSq v1)).set 5 (eI v5)) ⟨0,T.e,.e,T.e⟩ = (loopN (n38_0 v0 v1) LF v5).map (Sum.elim (fun (r : Unit) => (X.exit 0,T.e,⟨0,T.e,.e,T.e⟩)) (fun (r : Unit) => (X.ret,(T.e.set 4 (.b false)),⟨0,T.e,.e,T.e⟩))):=by
  exact loop_rule (E:=fun s : Int => (((T.e.set 0 (eSl 5 eSq v0)).set 1 (eSl 5 eSq v1)).set 5 (eI s))) (B:=fun s : Int => ⟨0,T.e,.e,T.e⟩) (out:=(Sum.elim (fun (r : Unit) => (X.exit 0,T.e,⟨0,T.e,.e,T.e⟩)) (fun (r : Unit) => (X.ret,(T.e.set 4 (.b false)),⟨0,T.e,.e,T.e⟩)))) (fun r => by rcases r with r | r <;> simp)
    (fun s => w38_0 hn v0 v1 s) (fun s => by simp [lay_pure]) v5
theorem w38 {n : Nat} (hn : 1 ≤ n) (a0 : List GSq) (a1 : List GSq) (qs : List Nat) (h : H) : callPv (EV n) 38 qs [eSl 5 eSq a0,eSl 5 eSq a1] h = (n38 a0 a1).map fun r => (.b r,h):=by
  obtain ⟨m,rfl⟩:=pm hn
  rw [callPv_eq,EV_at t38,f38,runF_eq]
  simp [n38,w38_1 (n:=m) (by omega),l38_0 (n:=m) (by omega),eqGSq,lay_pure]
theorem w39_1 {n : Nat} (hn : 0 ≤ n) (v0 : List GSb) (v1 : List GSb) (v5 : Int) : finE (EV n) LF [0,1,5,20] [4] [] 0 [] k39_1 (((T.e.set 0 (eSl 3 eSb v0)).set 1 (eSl 3 eSb v1)).set 5 (eI v5)) ⟨0,T.e,.e,T.e⟩ = (n39_1 v0 v1 v5).map (fun (r : Bool) => (X.nrm,((((T.e.set 0 (eSl 3 eSb v0)).set 1 (eSl 3 eSb v1)).set 5 (eI v5)).set 20 (.b r)),⟨0,T.e,.e,T.e⟩)):=by
  rw [finE]
  simp [k39_1,n39_1,eqGSb,lay_pure]
theorem w39_0 {n : Nat} (hn : 0 ≤ n) (v0 : List GSb) (v1 : List GSb) (s : Int) : finE (EV n) LF [0,1,5] [4] [] 0 [] k39_0 (((T.e.set 0 (eSl 3 eSb v0)).set 1 (eSl 3 eSb v1)).set 5 (eI s)) ⟨0,T.e,.e,T.e⟩ = (n39_0 v0 v1 s).map (Sum.elim (fun s => (X.nrm,(((T.e.set 0 (eSl 3 eSb v0)).set 1 (eSl 3 eSb v1)).set 5 (eI s)),⟨0,T.e,.e,T.e⟩)) (Sum.elim (fun (r : Unit) => (X.exit 0,T.e,⟨0,T.e,.e,T.e⟩)) (fun (r : Unit) => (X.ret,(T.e.set 4 (.b false)),⟨0,T.e,.e,T.e⟩)))):=by
  rw [finE]
  simp [k39_0,n39_0,w39_1 (n:=n) (by omega),eqGSb,lay_pure]
theorem l39_0 {n : Nat} (hn : 0 ≤ n) (v0 : List GSb) (v1 : List GSb) (v5 : Int) : loopE (EV n) LF [0,1,5] [4] [] 0 [] k39_0 (((T.e.set 0 (eSl 3 eSb v0)).set 1 (eSl 3 eSb v1)).set 5 (eI v5)) ⟨0,T.e,.e,T.e⟩ = (loopN (n39_0 v0 v1) LF v5).map (Sum.elim (fun (r : Unit) => (X.exit 0,T.e,⟨0,T.e,.e,T.e⟩)) (fun (r : Unit) => (X.ret,(T.e.set 4 (.b false)),⟨0,T.e,.e,T.e⟩))):=by
  exact loop_rule (E:=fun s : Int => (((T.e.set 0 (eSl 3 eSb v0)).set 1 (eSl 3 eSb v1)).set 5 (eI s))) (B:=fun s : Int => ⟨0,T.e,.e,T.e⟩) (out:=(Sum.elim (fun (r : Unit) => (X.exit 0,T.e,⟨0,T.e,.e,T.e⟩)) (fun (r : Unit) => (X.ret,(T.e.set 4 (.b false)),⟨0,T.e,.e,T.e⟩)))) (fun r => by rcases r with r | r <;> simp)
    (fun s => w39_0 hn v0 v1 s) (fun s => by simp [lay_pure]) v5
theorem w39 {n : Nat} (hn : 1 ≤ n) (a0 : List GSb) (a1 : List GSb) (qs : List Nat) (h : H) : callPv (EV n) 39 qs [eSl 3 eSb a0,eSl 3 eSb a1] h = (n39 a0 a1).map fun r => (.b r,h):=by
  obtain ⟨m,rfl⟩:=pm hn
  rw [callPv_eq,EV_at t39,f39,runF_eq]
  simp [n39,w39_1 (n:=m) (by omega),l39_0 (n:=m) (by omega),eqGSb,lay_pure]
theorem w40_1 {n : Nat} (hn : 0 ≤ n) (v0 : List GFlight) (v1 : List GFlight) (v5 : Int) : finE (EV n) LF [0,1,5,20] [4] [] 0 [] k40_1 (((T.e.set 0 (eSl 35 eFlight v0)).set 1 (eSl 35 eFlight v1)).set 5 (eI v5)) ⟨0,T.e,.e,T.e⟩ = (n40_1 v0 v1 v5).map (fun (r : Bool) => (X.nrm,((((T.e.set 0 (eSl 35 eFlight v0)).set 1 (eSl 35 eFlight v1)).set 5 (eI v5)).set 20 (.b r)),⟨0,T.e,.e,T.e⟩)):=by
  rw [finE]
  simp [k40_1,n40_1,eqGFlight,lay_pure]
theorem w40_0 {n : Nat} (hn : 0 ≤ n) (v0 : List GFlight) (v1 : List GFlight) (s : Int) : finE (EV n) LF [0,1,5] [4] [] 0 [] k40_0 (((T.e.set 0 (eSl 35 eFlight v0)).set 1 (eSl 35 eFlight v1)).set 5 (eI s)) ⟨0,T.e,.e,T.e⟩ = (n40_0 v0 v1 s).map (Sum.elim (fun s => (X.nrm,(((T.e.set 0 (eSl 35 eFlight v0)).set 1 (eSl 35 eFlight v1)).set 5 (eI s)),⟨0,T.e,.e,T.e⟩)) (Sum.elim (fun (r : Unit) => (X.exit 0,T.e,⟨0,T.e,.e,T.e⟩)) (fun (r : Unit) => (X.ret,(T.e.set 4 (.b false)),⟨0,T.e,.e,T.e⟩)))):=by
  rw [finE]
  simp [k40_0,n40_0,w40_1 (n:=n) (by omega),eqGFlight,lay_pure]
theorem l40_0 {n : Nat} (hn : 0 ≤ n) (v0 : List GFlight) (v1 : List GFlight) (v5 : Int) : loopE (EV n) LF [0,1,5] [4] [] 0 [] k40_0 (((T.e.set 0 (eSl 35 eFlight v0)).set 1 (eSl 35 eFlight v1)).set 5 (eI v5)) ⟨0,T.e,.e,T.e⟩ = (loopN (n40_0 v0 v1) LF v5).map (Sum.elim (fun (r : Unit) => (X.exit 0,T.e,⟨0,T.e,.e,T.e⟩)) (fun (r : Unit) => (X.ret,(T.e.set 4 (.b false)),⟨0,T.e,.e,T.e⟩))):=by
  exact loop_rule (E:=fun s : Int => (((T.e.set 0 (eSl 35 eFlight v0)).set 1 (eSl 35 eFlight v1)).set 5 (eI s))) (B:=fun s : Int => ⟨0,T.e,.e,T.e⟩) (out:=(Sum.elim (fun (r : Unit) => (X.exit 0,T.e,⟨0,T.e,.e,T.e⟩)) (fun (r : Unit) => (X.ret,(T.e.set 4 (.b false)),⟨0,T.e,.e,T.e⟩)))) (fun r => by rcases r with r | r <;> simp)
    (fun s => w40_0 hn v0 v1 s) (fun s => by simp [lay_pure]) v5
theorem w40 {n : Nat} (hn : 1 ≤ n) (a0 : List GFlight) (a1 : List GFlight) (qs : List Nat) (h : H) : callPv (EV n) 40 qs [eSl 35 eFlight a0,eSl 35 eFlight a1] h = (n40 a0 a1).map fun r => (.b r,h):=by
  obtain ⟨m,rfl⟩:=pm hn
  rw [callPv_eq,EV_at t40,f40,runF_eq]
  simp [n40,w40_1 (n:=m) (by omega),l40_0 (n:=m) (by omega),eqGFlight,lay_pure]
theorem w8_0 {n : Nat} (hn : 3 ≤ n) (b0 : GCore) (b1 : GCore) : finE (EV n) LF [2,3,51] [4] [] 2 [] k8_0 ((T.e.set 2 (.p 0 0)).set 3 (.p 1 0)) ⟨2,((T.e.set 0 ⟨eCore b0,0,0⟩).set 1 ⟨eCore b1,1,0⟩),.e,T.e⟩ = (n8_0 b0 b1).map (fun (r : Bool) => (X.nrm,(((T.e.set 2 (.p 0 0)).set 3 (.p 1 0)).set 51 (.b r)),⟨2,((T.e.set 0 ⟨eCore b0,0,0⟩).set 1 ⟨eCore b1,1,0⟩),.e,T.e⟩)):=by
  rw [finE]
  simp [k8_0,n8_0,w27 (n:=n) (by omega),w29 (n:=n) (by omega),w30 (n:=n) (by omega),w31 (n:=n) (by omega),w32 (n:=n) (by omega),w33 (n:=n) (by omega),w34 (n:=n) (by omega),w35 (n:=n) (by omega),w36 (n:=n) (by omega),w37 (n:=n) (by omega),w38 (n:=n) (by omega),w39 (n:=n) (by omega),w40 (n:=n) (by omega),eqGConf,eqGArch,lay_pure]
theorem w8_1 {n : Nat} (hn : 3 ≤ n) (b0 : GCore) (b1 : GCore) : finE (EV n) LF [2,3,105] [4] [] 2 [] k8_1 ((T.e.set 2 (.p 0 0)).set 3 (.p 1 0)) ⟨2,((T.e.set 0 ⟨eCore b0,0,0⟩).set 1 ⟨eCore b1,1,0⟩),.e,T.e⟩ = (n8_1 b0 b1).map (fun (r : Bool) => (X.nrm,(((T.e.set 2 (.p 0 0)).set 3 (.p 1 0)).set 105 (.b r)),⟨2,((T.e.set 0 ⟨eCore b0,0,0⟩).set 1 ⟨eCore b1,1,0⟩),.e,T.e⟩)):=by
  rw [finE]
  simp [k8_1,n8_1,w8_0 (n:=n) (by omega),w27 (n:=n) (by omega),w29 (n:=n) (by omega),w30 (n:=n) (by omega),w31 (n:=n) (by omega),w32 (n:=n) (by omega),w33 (n:=n) (by omega),w34 (n:=n) (by omega),w35 (n:=n) (by omega),w36 (n:=n) (by omega),w37 (n:=n) (by omega),w38 (n:=n) (by omega),w39 (n:=n) (by omega),w40 (n:=n) (by omega),eqGConf,eqGArch,lay_pure]
theorem w8 {n : Nat} (hn : 4 ≤ n) (a0 : GCore) (a1 : GCore) (qs : List Nat) (h : H) : callPv (EV n) 8 qs [.a (eCore a0),.a (eCore a1)] h = (n8 a0 a1).map fun r => (.b r,h):=by
  obtain ⟨m,rfl⟩:=pm hn
  rw [callPv_eq,EV_at t8,f8,runF_eq]
  simp [n8,w8_0 (n:=m) (by omega),w8_1 (n:=m) (by omega),w27 (n:=m) (by omega),w29 (n:=m) (by omega),w30 (n:=m) (by omega),w31 (n:=m) (by omega),w32 (n:=m) (by omega),w33 (n:=m) (by omega),w34 (n:=m) (by omega),w35 (n:=m) (by omega),w36 (n:=m) (by omega),w37 (n:=m) (by omega),w38 (n:=m) (by omega),w39 (n:=m) (by omega),w40 (n:=m) (by omega),eqGConf,eqGArch,lay_pure]
theorem w3_0 {n : Nat} (hn : 7 ≤ n) (v10 : List GEvent) (v11 : List GNote) (v12 : List (BitVec 32)) (b0 : GCore) (b1 : GCoh) (b2 : GTick) (b3 : GCore) (b4 : GCoh) : finE (EV n) LF [3,8,79] [6] [] 5 [] k3_0 (((((((T.e.set 3 (.p 0 0)).set 4 (.p 1 0)).set 8 (.p 3 0)).set 9 (.p 4 0)).set 10 (eSl 12 eEvent v10)).set 11 (eSl 4 eNote v11)).set 12 (eSl 1 cU32 v12)) ⟨5,(((((T.e.set 0 ⟨eCore b0,0,0⟩).set 1 ⟨eCoh b1,1,0⟩).set 2 ⟨eTick b2,2,0⟩).set 3 ⟨eCore b3,3,0⟩).set 4 ⟨eCoh b4,4,0⟩),.e,T.e⟩ = (n3_0 v10 v11 v12 b0 b1 b3 b4).map (fun (r : Bool) => (X.nrm,(((T.e.set 3 (.p 0 0)).set 8 (.p 3 0)).set 79 (.b r)),⟨5,(((((T.e.set 0 ⟨eCore b0,0,0⟩).set 1 ⟨eCoh b1,1,0⟩).set 2 ⟨eTick b2,2,0⟩).set 3 ⟨eCore b3,3,0⟩).set 4 ⟨eCoh b4,4,0⟩),.e,T.e⟩)):=by
  rw [finE]
  simp [k3_0,n3_0,w4 (n:=n) (by omega),w6 (n:=n) (by omega),w7 (n:=n) (by omega),w8 (n:=n) (by omega),cl5 (n:=n) (by omega),eqGArch,lay_pure]
theorem w3 {n : Nat} (hn : 8 ≤ n) (a0 : GCore) (a1 : GCoh) (a2 : Int) (hA0 : (decide (a0.Units.length < 1000000)) = true) (qs : List Nat) (h : H) : callPv (EV n) 3 qs [.a (eCore a0),.a (eCoh a1),eI a2] h = (n3 a0 a1 a2).map fun r => (.b r,h):=by
  obtain ⟨m,rfl⟩:=pm hn
  simp at hA0
  rw [callPv_eq,EV_at t3,f3,runF_eq]
  simp [n3,w3_0 (n:=m) (by omega),w4 (n:=m) (by omega),w6 (n:=m) (by omega),w7 (n:=m) (by omega),w8 (n:=m) (by omega),cl5 (n:=m) (by omega),eqGArch,hA0,lay_pure]
end
end Go.Ev
