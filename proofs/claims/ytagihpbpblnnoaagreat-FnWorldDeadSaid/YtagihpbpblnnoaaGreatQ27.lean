import Derived.Test.YtagihpbpblnnoaaGreatQ26
set_option linter.all false
namespace AH
open Go Go.Proofs Ho
set_option maxRecDepth 20000
set_option maxHeartbeats 16000000
theorem iOk_b (σ : AHeap) (c : Cfg) (g : Guest) (sv pv : AV) (hs : LenIs sv g.snap.length) (hp : LenIs pv g.plan.length) (hc : 0 ≤ c.slots ∧ c.slots ≤ 10 ∧ 0 ≤ c.pages ∧ c.pages ≤ 10) (hok : c.ok) (hq : g.busy = true) (ho : g.own = false) :
    Fn Tryz.prog 51 [cV c.slots c.pages c.lease, .agg (gV g sv pv)] σ fun x τ => x = .bool (decide (guestP c g)) ∧ τ = σ := by
  refine fn_pure ord0 mixed Tryz.func51 (by kernel_rfl) rfl (by kernel_rfl) (by rfl) ?_
  have hc2 : 0 ≤ c.slots ∧ c.slots ≤ 1000 := by omega
  have hc3 : 0 ≤ c.pages ∧ c.pages ≤ 1000 := by omega
  generalize hQ : decide (guestP c g) = Q
  have hok' : Cfg.ok ⟨c.slots, c.pages, c.lease⟩ := hok
  have hQ' : Q = decide _ := hQ.symm.trans (decide_eq_decide.2 (iOk_go hok))
  clear hQ
  simp (config := {contextual := true, maxSteps := 1000000}) (disch := first | exact dB | fail) [go_sem, envOf, wrap_i64, int_lt, -Int.not_le, -Int.not_lt, Bool.decide_and, Bool.decide_or, and_assoc, Bool.and_assoc, Bool.or_assoc, Prod.exists, Prod.forall, -List.map_set, set_put, hok, hok', hq, ho]
  repeat' (first | refine Alt.mk ?_ | refine And.intro ?_ ?_ | intro _)
  all_goals (subst hQ'; simp [hq, ho] at * <;> first | omega | grind)
end AH
