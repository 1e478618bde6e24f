import Derived.Test.YtagihpbpblnnoaaGreatQ26
import Derived.Test.YtagihpbpblnnoaaGreatQ27
import Derived.Test.YtagihpbpblnnoaaGreatQ28
import Derived.Test.YtagihpbpblnnoaaGreatQ29
set_option linter.all false
namespace AH
open Go Go.Proofs Ho
set_option maxRecDepth 20000
set_option maxHeartbeats 16000000
theorem iOk_a (σ : AHeap) (c : Cfg) (g : Guest) (sv pv : AV) (hs : LenIs sv g.snap.length) (hp : LenIs pv g.plan.length) (hc : 0 ≤ c.slots ∧ c.slots ≤ 10 ∧ 0 ≤ c.pages ∧ c.pages ≤ 10) (hok : c.ok) (hq : g.busy = false) :
    Fn Tryz.prog 51 [cV c.slots c.pages c.lease, .agg (gV g sv pv)] σ fun x τ => x = .bool (decide (guestP c g)) ∧ τ = σ := by
  refine fn_pure ord0 mixed Tryz.func51 (by kernel_rfl) rfl (by kernel_rfl) (by rfl) ?_
  have hc2 : 0 ≤ c.slots ∧ c.slots ≤ 1000 := by omega
  have hc3 : 0 ≤ c.pages ∧ c.pages ≤ 1000 := by omega
  generalize hQ : decide (guestP c g) = Q
  have hok' : Cfg.ok ⟨c.slots, c.pages, c.lease⟩ := hok
  have hQ' : Q = decide _ := hQ.symm.trans (decide_eq_decide.2 (iOk_go hok))
  clear hQ
  simp (config := {contextual := true, maxSteps := 1000000}) (disch := first | exact dB | fail) [go_sem, envOf, wrap_i64, int_lt, -Int.not_le, -Int.not_lt, Bool.decide_and, Bool.decide_or, and_assoc, Bool.and_assoc, Bool.or_assoc, Prod.exists, Prod.forall, -List.map_set, set_put, hok, hok', hq]
  repeat' (first | refine Alt.mk ?_ | refine And.intro ?_ ?_ | intro _)
  all_goals (subst hQ'; simp [hq] at * <;> first | omega | grind)
end AH
/- CONTRACTS OF THE PROGRAM: what is asked of a guest, as a rule. -/
namespace AH
open Go Go.Proofs Ho
set_option maxRecDepth 20000
set_option maxHeartbeats 16000000
theorem iOk_z (σ : AHeap) (c : Cfg) (g : Guest) (sv pv : AV) (hok : ¬ c.ok) :
    Fn Tryz.prog 51 [cV c.slots c.pages c.lease, .agg (gV g sv pv)] σ fun x τ => x = .bool (decide (guestP c g)) ∧ τ = σ := by
  refine fn_pure ord0 mixed Tryz.func51 (by kernel_rfl) rfl (by kernel_rfl) (by rfl) ?_
  have hok' : ¬ Cfg.ok ⟨c.slots, c.pages, c.lease⟩ := hok
  have hg : ¬ guestP c g := fun h => hok h.1
  simp (config := {contextual := true, maxSteps := 1000000}) (disch := first | exact dB | fail) [go_sem, envOf, wrap_i64, int_lt, -Int.not_le, -Int.not_lt, Bool.decide_and, Bool.decide_or, and_assoc, Bool.and_assoc, Bool.or_assoc, Prod.exists, Prod.forall, -List.map_set, set_put, hok, hok', hg]
theorem iOk_fn (σ : AHeap) (c : Cfg) (g : Guest) (sv pv : AV) (hs : LenIs sv g.snap.length) (hp : LenIs pv g.plan.length) (hc : 0 ≤ c.slots ∧ c.slots ≤ 10 ∧ 0 ≤ c.pages ∧ c.pages ≤ 10) : Fn Tryz.prog 51 [cV c.slots c.pages c.lease, .agg (gV g sv pv)] σ fun x τ => x = .bool (decide (guestP c g)) ∧ τ = σ := by
  by_cases hok : c.ok
  · cases hq : g.busy with
    | false => exact iOk_a σ c g sv pv hs hp hc hok hq
    | true =>
      cases ho : g.own with
      | false => exact iOk_b σ c g sv pv hs hp hc hok hq ho
      | true =>
        by_cases hn : g.gn = g.plan.length
        · exact iOk_c σ c g sv pv hs hp hc hok hq ho hn
        · exact iOk_d σ c g sv pv hs hp hc hok hq ho hn
  · exact iOk_z σ c g sv pv hok
@[go_sem] theorem iOk_s (σ : AHeap) (c : Cfg) (g : Guest) (sv pv : AV) (hs : LenIs sv g.snap.length) (hp : LenIs pv g.plan.length) (hc : 0 ≤ c.slots ∧ c.slots ≤ 10 ∧ 0 ≤ c.pages ∧ c.pages ≤ 10) (kk_ : AV → AHeap → Prop) : @callP Tryz.prog (.fn 51 [] []) [cV c.slots c.pages c.lease, .agg (gV g sv pv)] σ ⟨kk_⟩ = @Alt (kk_ (.bool (decide (guestP c g))) σ) ⟨@callP Tryz.prog (.fn 51 [] []) [cV c.slots c.pages c.lease, .agg (gV g sv pv)] σ ⟨kk_⟩⟩ := callP_alt (iOk_fn σ c g sv pv hs hp hc)
end AH
