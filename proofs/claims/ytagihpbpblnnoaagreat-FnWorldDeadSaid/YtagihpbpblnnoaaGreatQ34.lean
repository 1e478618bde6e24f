import Derived.Test.YtagihpbpblnnoaaGreatQ33
import Derived.Test.YtagihpbpblnnoaaGreatQ24
set_option linter.all false
namespace AH
open Go Go.Proofs Ho
set_option maxRecDepth 20000
set_option maxHeartbeats 8000000
theorem yWCopy0_fn (σ : AHeap) (j nw : Nat) (ws : List Int) (hw : σ.get j = some ⟨ws.map (.int .u64), true⟩) (hj : j < σ.n) (hn : ws.length = nw) (hl : nw ≤ 1000000) : Fn Tryz.prog 122 [.agg [.sl j 0 nw 1, .nils]] σ fun x τ => ∃ a_ : Nat, x = .agg [.sl a_ 0 nw 1, .nils] ∧ (τ.get a_ = some ⟨ws.map (.int .u64), true⟩ ∧ σ.n ≤ a_ ∧ a_ < τ.n ∧ ∀ y, y < σ.n → τ.get y = σ.get y) := by
  refine fn_of ord122 mixed Tryz.func122 (by kernel_rfl) rfl (by kernel_rfl) ?_
  have hv := lsv_at hj hw hn
  simp (config := {contextual := true, maxSteps := 1000000}) (disch := first | exact dB | fail) [go_sem, envOf, wrap_i64, int_lt, -Int.not_le, -Int.not_lt, Bool.decide_and, Bool.decide_or, and_assoc, Bool.and_assoc, Bool.or_assoc, Prod.exists, Prod.forall, ord122]
  (repeat refine Alt.mk ?_)
  refine ⟨1, ?_⟩
  simp (config := {contextual := true, maxSteps := 1000000}) (disch := first | exact dB | fail) [go_sem, envOf, wrap_i64, int_lt, -Int.not_le, -Int.not_lt, Bool.decide_and, Bool.decide_or, and_assoc, Bool.and_assoc, Bool.or_assoc, Prod.exists, Prod.forall, ord122, aloop_s]
  (repeat refine Alt.mk ?_)
  exact ⟨hn, by omega⟩
end AH
