import Derived.Test.YtagihpbpblnnoaaGreatQ17
set_option linter.all false
namespace Ho
set_option maxHeartbeats 4000000
/-- A guest at rest owns no record. -/
def Idl (g : Guest) : Prop := g.busy = false → g.own = false
theorem Idl.busy {g : Guest} (h : g.busy = true) : Idl g := fun h' => by rw [h] at h'; cases h'
theorem Idl.complete (g : Guest) (code val : Int) : Idl (g.complete code val) := fun _ => rfl
theorem Idl.fld {g g' : Guest} (h : g.busy = true) (h' : g'.busy = g.busy) : Idl g' := Idl.busy (h'.trans h)
theorem planG_busy (g : Guest) : g.planG.busy = g.busy := by
  unfold Guest.planG Guest.yieldG
  simp only
  split
  · rfl
  · split <;> rfl
theorem reapG_busy (c : Cfg) (g : Guest) : (g.reapG c).busy = g.busy := by
  unfold Guest.reapG
  split
  · exact planG_busy g
  · simp only
    split
    · rfl
    · split
      · rfl
      · exact planG_busy g
theorem decideG_busy (c : Cfg) (g : Guest) : (g.decideG c).busy = g.busy := by
  unfold Guest.decideG
  simp only
  split
  · rfl
  · split
    · exact reapG_busy c g
    · exact planG_busy g
theorem cont_busy (g : Guest) : g.continues.busy = g.busy := by
  unfold Guest.continues
  repeat' split
  all_goals rfl
theorem step_idl (c : Cfg) (ws : List Int) (g : Guest) (h : g.busy = true) : Idl (sStep c ws g).g := by
  unfold sStep
  split
  · unfold sFirst
    try simp only
    repeat' split
    all_goals first | exact Idl.complete _ _ _ | exact Idl.fld h rfl
  split
  · unfold sDoor
    try simp only
    repeat' split
    all_goals first | exact Idl.complete _ _ _ | exact Idl.fld h rfl
  split
  · unfold sInside
    try simp only
    repeat' split
    all_goals first | exact Idl.complete _ _ _ | exact Idl.fld h rfl | exact Idl.fld h (decideG_busy _ _) | exact Idl.fld h (planG_busy _)
  split
  · unfold sDesk
    try simp only
    repeat' split
    all_goals first | exact Idl.complete _ _ _ | exact Idl.fld h rfl | exact Idl.fld h (cont_busy _)
  split
  · unfold sWatch
    try simp only
    repeat' split
    all_goals first | exact Idl.complete _ _ _ | exact Idl.fld h rfl | exact Idl.fld h (cont_busy _)
  split
  · unfold sAid
    try simp only
    repeat' split
    all_goals first | exact Idl.complete _ _ _ | exact Idl.fld h rfl | exact Idl.fld h (cont_busy _)
  · unfold sLast
    try simp only
    repeat' split
    all_goals first | exact Idl.complete _ _ _ | exact Idl.fld h rfl | exact Idl.fld h (cont_busy _)
end Ho
