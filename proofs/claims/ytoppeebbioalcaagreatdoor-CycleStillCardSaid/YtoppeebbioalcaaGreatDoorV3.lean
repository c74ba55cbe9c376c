/- The law and its walk, joined. -/
import Derived.Test.YtoppeebbioalcaaGreatDoorV2
import Derived.Test.YtoppeebbioalcaaGreatDoorL
set_option linter.all false
namespace Go.Ev
noncomputable section
set_option maxHeartbeats 4000000
theorem n4_big (c : GCore) (m : GCoh) (i : Int) (h : (decide (c.Units.length < 1000000)) = false) : n4 c m i = some false:=by
  have h:=of_decide_eq_false h
  obtain ⟨b,e,hb⟩:=Pl.t9 c
  cases b with
  | true => have:=(hb rfl).units; omega
  | false => unfold n4 n4_0; rw [e]; rfl
theorem w3a {n : Nat} (hn : 8 ≤ n) (a0 : GCore) (a1 : GCoh) (a2 : Int) (hA0 : (decide (a0.Units.length < 1000000)) = false) (qs : List Nat) (h : H) : callPv (EV n) 3 qs [.a (eCore a0),.a (eCoh a1),eI a2] h = some (.b true,h):=by
  obtain ⟨m,rfl⟩:=pm hn
  have h4:=n4_big a0 a1 0 hA0
  rw [callPv_eq,EV_at t3,f3,runF_eq]
  simp [w4 (n:=m) (by omega),h4,cl5 (n:=m) (by omega),lay_pure]
theorem w3b (c : GCore) (m : GCoh) (i : Int) (h : Pl.CohL m) (qs : List Nat) (hp : H) : callPv (EV 8) 3 qs [.a (eCore c),.a (eCoh m),eI i] hp = some (.b true,hp):=by
  cases hA : decide (c.Units.length < 1000000) with
  | true => rw [w3 (Nat.le_refl _) c m i hA,Pl.law c m i h]; rfl
  | false => exact w3a (Nat.le_refl _) c m i hA qs hp
end
end Go.Ev
