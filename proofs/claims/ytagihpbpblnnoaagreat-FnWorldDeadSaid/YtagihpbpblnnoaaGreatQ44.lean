import Derived.Test.YtagihpbpblnnoaaGreatQ21
set_option linter.all false
namespace AH
open Go Go.Proofs Ho
set_option maxRecDepth 20000
set_option maxHeartbeats 8000000
theorem xAid_fn (σ : AHeap) (r j : Nat) (c : Cfg) (ws : List Int) (g : Guest) (sv pv : AV) (h : Run σ r j c ws g sv pv) (hpv : LsV .u64 σ pv g.plan) (hb1 : bOf pv ≠ r ∨ pv = .nils) (hb2 : bOf pv ≠ j ∨ pv = .nils) (hpl : (g.plan.length : Int) ≤ 100000) (ho : g.own = true → 23 ≤ g.pc) (hk : 23 ≤ g.pc → g.own = true → 0 ≤ g.gk ∧ g.gn ≤ g.plan.length) (hpc : 21 ≤ g.pc ∧ g.pc ≤ 24) : Fn Tryz.prog 156 [.ptr r 0] σ fun x τ => ∃ a_ : AV × AV, x = .tup [] ∧ τ = rOut σ r j c (sAid c ws g) a_.1 a_.2 ∧ (LV sv a_.1 g.snap (sAid c ws g).g.snap ∧ LV pv a_.2 g.plan (sAid c ws g).g.plan) := by
  refine fn_rel (fun a_ : AV × AV => .tup []) (fun a_ : AV × AV => rOut σ r j c (sAid c ws g) a_.1 a_.2) (fun a_ : AV × AV => LV sv a_.1 g.snap (sAid c ws g).g.snap ∧ LV pv a_.2 g.plan (sAid c ws g).g.plan) ord156 mixed Tryz.func156 (by kernel_rfl) rfl (by kernel_rfl) ?_ ?_ ?_ ?_
  · intros; rfl
  · intros; rfl
  · intro a ha; exact mutR h ha.1 ha.2
  obtain ⟨hr, hj, ne, hg, hw, hW, hl, gs, ⟨c1, c2, c3, c4, c5, c6⟩, ls, lp⟩ := h
  have hcm : ∀ X A B, (AHeap.set (AHeap.set X r A) j B) = (X.set j B).set r A := fun X A B => set_cm ne X A B
  have hself := set_self' hw
  obtain ⟨g1, g2, g3, g4, g5, g6, g7, g8, g9, g10, g11, ⟨w1, w2, w3, w4, w5, w6⟩⟩ := gs
  have hp1 := pload_isW hW (pDesk c g.who)
  have hp2 := pload_isW hW (pDesk c g.who + g.gk)
  have hp3 := pload_isW hW (cval g.entry / 1048576)
  have hdk : 0 ≤ pDesk c g.who ∧ pDesk c g.who ≤ 1000000 := by unfold pDesk l2At house; split <;> omega
  have hcv := cval_range (w := pload ws (pDesk c g.who))
  have hcv1 := cval_range (w := g.entry)
  unfold sAid
  by_cases e1 : g.pc = 21
  · have ho1 : g.own = false := by cases hq : g.own; rfl; exact absurd (ho hq) (by omega)
    by_cases b1 : cstamp (pload ws (pDesk c g.who)) = g.seq
    · by_cases b2 : cval (pload ws (pDesk c g.who)) ≤ 20
      · by_cases b3 : 1 ≤ cval (pload ws (pDesk c g.who))
        · simp (config := {contextual := true, maxSteps := 1000000}) (disch := first | exact dA | fail) [go_sem, envOf, wrap_i64, int_lt, -Int.not_le, -Int.not_lt, Bool.decide_and, Bool.decide_or, and_assoc, Bool.and_assoc, Bool.or_assoc, Prod.exists, Prod.forall, ord156, hg, hw, hcm, hself, e1, b1, b2, b3, ho1, Guest.continues, Guest.complete, Guest.zero]
          ((repeat refine Alt.mk ?_) <;> first | exact cVcl | skip)
        · simp (config := {contextual := true, maxSteps := 1000000}) (disch := first | exact dA | fail) [go_sem, envOf, wrap_i64, int_lt, -Int.not_le, -Int.not_lt, Bool.decide_and, Bool.decide_or, and_assoc, Bool.and_assoc, Bool.or_assoc, Prod.exists, Prod.forall, ord156, hg, hw, hcm, hself, e1, b1, b2, b3, ho1, Guest.continues, Guest.complete, Guest.zero]
          ((repeat refine Alt.mk ?_) <;> first | exact cVcl | skip)
      · simp (config := {contextual := true, maxSteps := 1000000}) (disch := first | exact dA | fail) [go_sem, envOf, wrap_i64, int_lt, -Int.not_le, -Int.not_lt, Bool.decide_and, Bool.decide_or, and_assoc, Bool.and_assoc, Bool.or_assoc, Prod.exists, Prod.forall, ord156, hg, hw, hcm, hself, e1, b1, b2, Guest.complete, Guest.zero]
        ((repeat refine Alt.mk ?_) <;> first | exact cVcl | skip)
    · simp (config := {contextual := true, maxSteps := 1000000}) (disch := first | exact dA | fail) [go_sem, envOf, wrap_i64, int_lt, -Int.not_le, -Int.not_lt, Bool.decide_and, Bool.decide_or, and_assoc, Bool.and_assoc, Bool.or_assoc, Prod.exists, Prod.forall, ord156, hg, hw, hcm, hself, e1, b1, Guest.complete, Guest.zero]
      ((repeat refine Alt.mk ?_) <;> first | exact cVcl | skip)
  by_cases e2 : g.pc = 22
  · by_cases b1 : cstamp (pload ws (pDesk c g.who + g.gk)) = g.seq
    · simp (config := {contextual := true, maxSteps := 1000000}) (disch := first | exact dA | fail) [go_sem, envOf, wrap_i64, int_lt, -Int.not_le, -Int.not_lt, Bool.decide_and, Bool.decide_or, and_assoc, Bool.and_assoc, Bool.or_assoc, Prod.exists, Prod.forall, ord156, hg, hw, hcm, hself, e1, e2, b1, Guest.complete, Guest.zero]
      ((repeat refine Alt.mk ?_) <;> first | exact cVcl | skip)
    · simp (config := {contextual := true, maxSteps := 1000000}) (disch := first | exact dA | fail) [go_sem, envOf, wrap_i64, int_lt, -Int.not_le, -Int.not_lt, Bool.decide_and, Bool.decide_or, and_assoc, Bool.and_assoc, Bool.or_assoc, Prod.exists, Prod.forall, ord156, hg, hw, hcm, hself, e1, e2, b1, Guest.complete, Guest.zero]
      ((repeat refine Alt.mk ?_) <;> first | exact cVcl | skip)
  have hk' := hk (by omega)
  by_cases e3 : g.pc = 23
  · by_cases b1 : g.seq ≤ cstamp (pload ws (cval g.entry / 1048576))
    · by_cases b3 : g.gk + 1 ≤ g.gn
      · cases b4 : g.own with
        | false =>
          simp (config := {contextual := true, maxSteps := 1000000}) (disch := first | exact dA | fail) [go_sem, envOf, wrap_i64, int_lt, -Int.not_le, -Int.not_lt, Bool.decide_and, Bool.decide_or, and_assoc, Bool.and_assoc, Bool.or_assoc, Prod.exists, Prod.forall, ord156, hg, hw, hcm, hself, e1, e2, e3, b1, b3, b4, Guest.continues, Guest.complete, Guest.zero]
          ((repeat refine Alt.mk ?_) <;> first | exact cVcl | skip)
        | true =>
          have hk2 := hk' b4
          simp (config := {contextual := true, maxSteps := 1000000}) (disch := first | exact dA | fail) [go_sem, envOf, wrap_i64, int_lt, -Int.not_le, -Int.not_lt, Bool.decide_and, Bool.decide_or, and_assoc, Bool.and_assoc, Bool.or_assoc, Prod.exists, Prod.forall, ord156, hg, hw, hcm, hself, e1, e2, e3, b1, b3, b4, Guest.continues, Guest.complete, Guest.zero]
          ((repeat refine Alt.mk ?_) <;> first | exact cVcl | skip)
      · simp (config := {contextual := true, maxSteps := 1000000}) (disch := first | exact dA | fail) [go_sem, envOf, wrap_i64, int_lt, -Int.not_le, -Int.not_lt, Bool.decide_and, Bool.decide_or, and_assoc, Bool.and_assoc, Bool.or_assoc, Prod.exists, Prod.forall, ord156, hg, hw, hcm, hself, e1, e2, e3, b1, b3, Guest.continues, Guest.complete, Guest.zero]
        ((repeat refine Alt.mk ?_) <;> first | exact cVcl | skip)
    · simp (config := {contextual := true, maxSteps := 1000000}) (disch := first | exact dA | fail) [go_sem, envOf, wrap_i64, int_lt, -Int.not_le, -Int.not_lt, Bool.decide_and, Bool.decide_or, and_assoc, Bool.and_assoc, Bool.or_assoc, Prod.exists, Prod.forall, ord156, hg, hw, hcm, hself, e1, e2, e3, b1, Guest.complete, Guest.zero]
      ((repeat refine Alt.mk ?_) <;> first | exact cVcl | skip)
  have e4 : g.pc = 24 := by omega
  by_cases b1 : swapB ws (cval g.entry / 1048576) g.was
  · by_cases b3 : g.gk + 1 ≤ g.gn
    · cases b4 : g.own with
      | false =>
        simp (config := {contextual := true, maxSteps := 1000000}) (disch := first | exact dA | fail) [go_sem, envOf, wrap_i64, int_lt, -Int.not_le, -Int.not_lt, Bool.decide_and, Bool.decide_or, and_assoc, Bool.and_assoc, Bool.or_assoc, Prod.exists, Prod.forall, ord156, hg, hw, hcm, hself, e1, e2, e3, e4, b1, b3, b4, swapW, Guest.continues, Guest.complete, Guest.zero]
        ((repeat refine Alt.mk ?_) <;> first | exact cVcl | skip)
      | true =>
        have hk2 := hk' b4
        simp (config := {contextual := true, maxSteps := 1000000}) (disch := first | exact dA | fail) [go_sem, envOf, wrap_i64, int_lt, -Int.not_le, -Int.not_lt, Bool.decide_and, Bool.decide_or, and_assoc, Bool.and_assoc, Bool.or_assoc, Prod.exists, Prod.forall, ord156, hg, hw, hcm, hself, e1, e2, e3, e4, b1, b3, b4, swapW, Guest.continues, Guest.complete, Guest.zero]
        ((repeat refine Alt.mk ?_) <;> first | exact cVcl | skip)
    · simp (config := {contextual := true, maxSteps := 1000000}) (disch := first | exact dA | fail) [go_sem, envOf, wrap_i64, int_lt, -Int.not_le, -Int.not_lt, Bool.decide_and, Bool.decide_or, and_assoc, Bool.and_assoc, Bool.or_assoc, Prod.exists, Prod.forall, ord156, hg, hw, hcm, hself, e1, e2, e3, e4, b1, b3, swapW, Guest.continues, Guest.complete, Guest.zero]
      ((repeat refine Alt.mk ?_) <;> first | exact cVcl | skip)
  · simp (config := {contextual := true, maxSteps := 1000000}) (disch := first | exact dA | fail) [go_sem, envOf, wrap_i64, int_lt, -Int.not_le, -Int.not_lt, Bool.decide_and, Bool.decide_or, and_assoc, Bool.and_assoc, Bool.or_assoc, Prod.exists, Prod.forall, ord156, hg, hw, hcm, hself, e1, e2, e3, e4, b1, swapW, Guest.complete, Guest.zero]
    ((repeat refine Alt.mk ?_) <;> first | exact cVcl | skip)
end AH
