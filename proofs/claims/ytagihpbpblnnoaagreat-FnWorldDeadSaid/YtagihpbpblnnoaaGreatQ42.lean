import Derived.Test.YtagihpbpblnnoaaGreatQ20
set_option linter.all false
namespace AH
open Go Go.Proofs Ho
set_option maxRecDepth 20000
set_option maxHeartbeats 8000000
theorem xWatch_fn (σ : AHeap) (r j : Nat) (c : Cfg) (ws : List Int) (g : Guest) (sv pv : AV) (h : Run σ r j c ws g sv pv) (hpc : 16 ≤ g.pc ∧ g.pc ≤ 20) : Fn Tryz.prog 155 [.ptr r 0] σ fun x τ => ∃ a_ : AV × AV, x = .tup [] ∧ τ = rOut σ r j c (sWatch c ws g) a_.1 a_.2 ∧ (LV sv a_.1 g.snap (sWatch c ws g).g.snap ∧ LV pv a_.2 g.plan (sWatch c ws g).g.plan) := by
  refine fn_rel (fun a_ : AV × AV => .tup []) (fun a_ : AV × AV => rOut σ r j c (sWatch c ws g) a_.1 a_.2) (fun a_ : AV × AV => LV sv a_.1 g.snap (sWatch c ws g).g.snap ∧ LV pv a_.2 g.plan (sWatch c ws g).g.plan) ord155 mixed Tryz.func155 (by kernel_rfl) rfl (by kernel_rfl) ?_ ?_ ?_ ?_
  · intros; rfl
  · intros; rfl
  · intro a ha; exact mutR h ha.1 ha.2
  obtain ⟨hr, hj, ne, hg, hw, hW, hl, gs, ⟨c1, c2, c3, c4, c5, c6⟩, ls, lp⟩ := h
  have hcm : ∀ X A B, (AHeap.set (AHeap.set X r A) j B) = (X.set j B).set r A := fun X A B => set_cm ne X A B
  have hself := set_self' hw
  obtain ⟨g1, g2, g3, g4, g5, g6, g7, g8, g9, g10, g11, ⟨w1, w2, w3, w4, w5, w6⟩⟩ := gs
  have hp1 := pload_isW hW (pReg c g.who)
  have hp2 := pload_isW hW 1
  have hcv := cval_range (w := pload ws (pReg c g.who))
  have hcv1 := cval_range (w := pload ws 1)
  have hcv2 := cval_range (w := g.beat)
  unfold sWatch
  by_cases e1 : g.pc = 16
  · by_cases b1 : cval (pload ws (pReg c g.who)) % 4 = 1
    · by_cases b2 : cval (pload ws (pReg c g.who)) / 4 = g.whoE
      · simp (config := {contextual := true, maxSteps := 1000000}) (disch := first | exact dA | fail) [go_sem, envOf, wrap_i64, int_lt, -Int.not_le, -Int.not_lt, Bool.decide_and, Bool.decide_or, and_assoc, Bool.and_assoc, Bool.or_assoc, Prod.exists, Prod.forall, ord155, hg, hw, hcm, hself, e1, b1, b2, Guest.complete, Guest.zero]
        ((repeat refine Alt.mk ?_) <;> first | exact cVcl | skip)
      · simp (config := {contextual := true, maxSteps := 1000000}) (disch := first | exact dA | fail) [go_sem, envOf, wrap_i64, int_lt, -Int.not_le, -Int.not_lt, Bool.decide_and, Bool.decide_or, and_assoc, Bool.and_assoc, Bool.or_assoc, Prod.exists, Prod.forall, ord155, hg, hw, hcm, hself, e1, b1, b2, Guest.complete, Guest.zero]
        ((repeat refine Alt.mk ?_) <;> first | exact cVcl | skip)
    · simp (config := {contextual := true, maxSteps := 1000000}) (disch := first | exact dA | fail) [go_sem, envOf, wrap_i64, int_lt, -Int.not_le, -Int.not_lt, Bool.decide_and, Bool.decide_or, and_assoc, Bool.and_assoc, Bool.or_assoc, Prod.exists, Prod.forall, ord155, hg, hw, hcm, hself, e1, b1, Guest.complete, Guest.zero]
      ((repeat refine Alt.mk ?_) <;> first | exact cVcl | skip)
  by_cases e2 : g.pc = 17
  · simp (config := {contextual := true, maxSteps := 1000000}) (disch := first | exact dA | fail) [go_sem, envOf, wrap_i64, int_lt, -Int.not_le, -Int.not_lt, Bool.decide_and, Bool.decide_or, and_assoc, Bool.and_assoc, Bool.or_assoc, Prod.exists, Prod.forall, ord155, hg, hw, hcm, hself, e1, e2, Guest.complete, Guest.zero]
    ((repeat refine Alt.mk ?_) <;> first | exact cVcl | skip)
  by_cases e3 : g.pc = 18
  · by_cases b1 : g.whoE ≤ cstamp g.beat
    · by_cases b2 : cstamp g.beat = g.whoE
      · by_cases b3 : cval (pload ws 1) - cval g.beat ≤ c.lease
        · simp (config := {contextual := true, maxSteps := 1000000}) (disch := first | exact dA | fail) [go_sem, envOf, wrap_i64, int_lt, -Int.not_le, -Int.not_lt, Bool.decide_and, Bool.decide_or, and_assoc, Bool.and_assoc, Bool.or_assoc, Prod.exists, Prod.forall, ord155, hg, hw, hcm, hself, e1, e2, e3, b1, b2, b3, Guest.complete, Guest.zero]
          ((repeat refine Alt.mk ?_) <;> first | exact cVcl | skip)
        · simp (config := {contextual := true, maxSteps := 1000000}) (disch := first | exact dA | fail) [go_sem, envOf, wrap_i64, int_lt, -Int.not_le, -Int.not_lt, Bool.decide_and, Bool.decide_or, and_assoc, Bool.and_assoc, Bool.or_assoc, Prod.exists, Prod.forall, ord155, hg, hw, hcm, hself, e1, e2, e3, b1, b2, b3, Guest.complete, Guest.zero]
          ((repeat refine Alt.mk ?_) <;> first | exact cVcl | skip)
      · simp (config := {contextual := true, maxSteps := 1000000}) (disch := first | exact dA | fail) [go_sem, envOf, wrap_i64, int_lt, -Int.not_le, -Int.not_lt, Bool.decide_and, Bool.decide_or, and_assoc, Bool.and_assoc, Bool.or_assoc, Prod.exists, Prod.forall, ord155, hg, hw, hcm, hself, e1, e2, e3, b1, b2, Guest.complete, Guest.zero]
        ((repeat refine Alt.mk ?_) <;> first | exact cVcl | skip)
    · have b2 : ¬ cstamp g.beat = g.whoE := by omega
      simp (config := {contextual := true, maxSteps := 1000000}) (disch := first | exact dA | fail) [go_sem, envOf, wrap_i64, int_lt, -Int.not_le, -Int.not_lt, Bool.decide_and, Bool.decide_or, and_assoc, Bool.and_assoc, Bool.or_assoc, Prod.exists, Prod.forall, ord155, hg, hw, hcm, hself, e1, e2, e3, b1, b2, Guest.complete, Guest.zero]
      ((repeat refine Alt.mk ?_) <;> first | exact cVcl | skip)
  by_cases e4 : g.pc = 19
  · by_cases b1 : swapB ws (pReg c g.who) g.was
    · simp (config := {contextual := true, maxSteps := 1000000}) (disch := first | exact dA | fail) [go_sem, envOf, wrap_i64, int_lt, -Int.not_le, -Int.not_lt, Bool.decide_and, Bool.decide_or, and_assoc, Bool.and_assoc, Bool.or_assoc, Prod.exists, Prod.forall, ord155, hg, hw, hcm, hself, e1, e2, e3, e4, b1, Guest.complete, Guest.zero]
      ((repeat refine Alt.mk ?_) <;> first | exact cVcl | skip)
    · simp (config := {contextual := true, maxSteps := 1000000}) (disch := first | exact dA | fail) [go_sem, envOf, wrap_i64, int_lt, -Int.not_le, -Int.not_lt, Bool.decide_and, Bool.decide_or, and_assoc, Bool.and_assoc, Bool.or_assoc, Prod.exists, Prod.forall, ord155, hg, hw, hcm, hself, e1, e2, e3, e4, b1, Guest.complete, Guest.zero]
      ((repeat refine Alt.mk ?_) <;> first | exact cVcl | skip)
  have e5 : g.pc = 20 := by omega
  by_cases b1 : swapB ws 2 (cdoor 1 g.who g.whoE g.seq)
  · simp (config := {contextual := true, maxSteps := 1000000}) (disch := first | exact dA | fail) [go_sem, envOf, wrap_i64, int_lt, -Int.not_le, -Int.not_lt, Bool.decide_and, Bool.decide_or, and_assoc, Bool.and_assoc, Bool.or_assoc, Prod.exists, Prod.forall, ord155, hg, hw, hcm, hself, e1, e2, e3, e4, e5, b1, Guest.complete, Guest.zero]
    ((repeat refine Alt.mk ?_) <;> first | exact cVcl | skip)
  · simp (config := {contextual := true, maxSteps := 1000000}) (disch := first | exact dA | fail) [go_sem, envOf, wrap_i64, int_lt, -Int.not_le, -Int.not_lt, Bool.decide_and, Bool.decide_or, and_assoc, Bool.and_assoc, Bool.or_assoc, Prod.exists, Prod.forall, ord155, hg, hw, hcm, hself, e1, e2, e3, e4, e5, b1, Guest.complete, Guest.zero]
    ((repeat refine Alt.mk ?_) <;> first | exact cVcl | skip)
end AH
