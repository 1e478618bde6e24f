import Derived.Test.YtagihpbpblnnoaaGreatQ21
import Derived.Test.YtagihpbpblnnoaaGreatQ40
set_option linter.all false
namespace AH
open Go Go.Proofs Ho
set_option maxRecDepth 20000
set_option maxHeartbeats 8000000
theorem xTurn_fn (σ : AHeap) (r j : Nat) (c : Cfg) (ws : List Int) (g : Guest) (sv pv : AV) (h : Run σ r j c ws g sv pv) (hpv : LsV .u64 σ pv g.plan) (hb1 : bOf pv ≠ r ∨ pv = .nils) (hb2 : bOf pv ≠ j ∨ pv = .nils) (hpl : (g.plan.length : Int) ≤ 100000) (hpc : g.pc = 15) : Fn Tryz.prog 213 [.ptr r 0] σ fun x τ => ∃ a_ : AV × AV, x = .tup [] ∧ τ = rOut σ r j c (sDesk c ws g) a_.1 a_.2 ∧ (LV sv a_.1 g.snap (sDesk c ws g).g.snap ∧ LV pv a_.2 g.plan (sDesk c ws g).g.plan) := by
  refine fn_rel (fun a_ : AV × AV => .tup []) (fun a_ : AV × AV => rOut σ r j c (sDesk c ws g) a_.1 a_.2) (fun a_ : AV × AV => LV sv a_.1 g.snap (sDesk c ws g).g.snap ∧ LV pv a_.2 g.plan (sDesk c ws g).g.plan) ord0 mixed Tryz.func213 (by kernel_rfl) rfl (by kernel_rfl) ?_ ?_ ?_ ?_
  · intros; rfl
  · intros; rfl
  · intro a ha; exact mutR h ha.1 ha.2
  have hrun := h
  obtain ⟨hr, hj, ne, hg, hw, hW, hl, gs, ⟨c1, c2, c3, c4, c5, c6⟩, ls, lp⟩ := h
  have hcm : ∀ X A B, (AHeap.set (AHeap.set X r A) j B) = (X.set j B).set r A := fun X A B => set_cm ne X A B
  have hself := set_self' hw
  obtain ⟨g1, g2, g3, g4, g5, g6, g7, g8, g9, g10, g11, ⟨w1, w2, w3, w4, w5, w6⟩⟩ := gs
  have hlen := hpv.lenIs
  unfold sDesk
  by_cases b1 : swapB ws 2 (cdoor 1 g.slot g.epoch g.seq)
  · by_cases b2 : 1 ≤ (g.plan.length : Int)
    · simp (config := {contextual := true, maxSteps := 1000000}) (disch := first | exact dA | fail) [go_sem, envOf, wrap_i64, int_lt, -Int.not_le, -Int.not_lt, Bool.decide_and, Bool.decide_or, and_assoc, Bool.and_assoc, Bool.or_assoc, Prod.exists, Prod.forall, hg, hw, hcm, hself, hpc, b1, b2, swapW, Guest.continues, Guest.complete, Guest.zero]
      ((repeat refine Alt.mk ?_) <;> first | exact cVcl | skip)
    · simp (config := {contextual := true, maxSteps := 1000000}) (disch := first | exact dA | fail) [go_sem, envOf, wrap_i64, int_lt, -Int.not_le, -Int.not_lt, Bool.decide_and, Bool.decide_or, and_assoc, Bool.and_assoc, Bool.or_assoc, Prod.exists, Prod.forall, hg, hw, hcm, hself, hpc, b1, b2, swapW, Guest.continues, Guest.complete, Guest.zero]
      ((repeat refine Alt.mk ?_) <;> first | exact cVcl | skip)
  · simp (config := {contextual := true, maxSteps := 1000000}) (disch := first | exact dA | fail) [go_sem, envOf, wrap_i64, int_lt, -Int.not_le, -Int.not_lt, Bool.decide_and, Bool.decide_or, and_assoc, Bool.and_assoc, Bool.or_assoc, Prod.exists, Prod.forall, hg, hw, hcm, hself, hpc, b1, swapW, Guest.complete, Guest.zero]
    ((repeat refine Alt.mk ?_) <;> first | exact cVcl | skip)
@[go_sem] theorem xTurn_s (σ : AHeap) (r j : Nat) (c : Cfg) (ws : List Int) (g : Guest) (sv pv : AV) (h : Run σ r j c ws g sv pv) (hpv : LsV .u64 σ pv g.plan) (hb1 : bOf pv ≠ r ∨ pv = .nils) (hb2 : bOf pv ≠ j ∨ pv = .nils) (hpl : (g.plan.length : Int) ≤ 100000) (hpc : g.pc = 15) (kk_ : AV → AHeap → Prop) : @callP Tryz.prog (.fn 213 [] []) [.ptr r 0] σ ⟨kk_⟩ = @Alt (∀ a_ : AV × AV, (LV sv a_.1 g.snap (sDesk c ws g).g.snap ∧ LV pv a_.2 g.plan (sDesk c ws g).g.plan) → kk_ (.tup []) (rOut σ r j c (sDesk c ws g) a_.1 a_.2)) ⟨@callP Tryz.prog (.fn 213 [] []) [.ptr r 0] σ ⟨kk_⟩⟩ := callP_rel kk_ (xTurn_fn σ r j c ws g sv pv h hpv hb1 hb2 hpl hpc)
end AH
/- CONTRACTS OF THE REFERENCE: a guest's run, the desk. -/
namespace AH
open Go Go.Proofs Ho
set_option maxRecDepth 20000
set_option maxHeartbeats 8000000
theorem xDesk_fn (σ : AHeap) (r j : Nat) (c : Cfg) (ws : List Int) (g : Guest) (sv pv : AV) (h : Run σ r j c ws g sv pv) (hpv : LsV .u64 σ pv g.plan) (hb1 : bOf pv ≠ r ∨ pv = .nils) (hb2 : bOf pv ≠ j ∨ pv = .nils) (hpl : (g.plan.length : Int) ≤ 100000) (hk : g.pc = 14 → 0 ≤ g.gk ∧ g.gk ≤ g.plan.length) (hpc : 13 ≤ g.pc ∧ g.pc ≤ 15) : Fn Tryz.prog 154 [.ptr r 0] σ fun x τ => ∃ a_ : AV × AV, x = .tup [] ∧ τ = rOut σ r j c (sDesk c ws g) a_.1 a_.2 ∧ (LV sv a_.1 g.snap (sDesk c ws g).g.snap ∧ LV pv a_.2 g.plan (sDesk c ws g).g.plan) := by
  refine fn_rel (fun a_ : AV × AV => .tup []) (fun a_ : AV × AV => rOut σ r j c (sDesk c ws g) a_.1 a_.2) (fun a_ : AV × AV => LV sv a_.1 g.snap (sDesk c ws g).g.snap ∧ LV pv a_.2 g.plan (sDesk c ws g).g.plan) ord154 mixed Tryz.func154 (by kernel_rfl) rfl (by kernel_rfl) ?_ ?_ ?_ ?_
  · intros; rfl
  · intros; rfl
  · intro a ha; exact mutR h ha.1 ha.2
  have hrun := h
  obtain ⟨hr, hj, ne, hg, hw, hW, hl, gs, ⟨c1, c2, c3, c4, c5, c6⟩, ls, lp⟩ := h
  have hcm : ∀ X A B, (AHeap.set (AHeap.set X r A) j B) = (X.set j B).set r A := fun X A B => set_cm ne X A B
  have hself := set_self' hw
  obtain ⟨g1, g2, g3, g4, g5, g6, g7, g8, g9, g10, g11, ⟨w1, w2, w3, w4, w5, w6⟩⟩ := gs
  have hlen := hpv.lenIs
  have hdk : 0 ≤ pDesk c g.slot ∧ pDesk c g.slot ≤ 1000000 := by unfold pDesk l2At house; split <;> omega
  have hp1 := pload_isW hW (pDesk c g.slot + g.gk)
  by_cases e1 : g.pc = 13
  · unfold sDesk
    by_cases b1 : g.seq < cstamp (pload ws (pDesk c g.slot + g.gk))
    · simp (config := {contextual := true, maxSteps := 1000000}) (disch := first | exact dA | fail) [go_sem, envOf, wrap_i64, int_lt, -Int.not_le, -Int.not_lt, Bool.decide_and, Bool.decide_or, and_assoc, Bool.and_assoc, Bool.or_assoc, Prod.exists, Prod.forall, ord154, hg, hw, hcm, hself, e1, b1, Guest.complete, Guest.zero]
      ((repeat refine Alt.mk ?_) <;> first | exact cVcl | skip)
    · simp (config := {contextual := true, maxSteps := 1000000}) (disch := first | exact dA | fail) [go_sem, envOf, wrap_i64, int_lt, -Int.not_le, -Int.not_lt, Bool.decide_and, Bool.decide_or, and_assoc, Bool.and_assoc, Bool.or_assoc, Prod.exists, Prod.forall, ord154, hg, hw, hcm, hself, e1, b1, Guest.complete, Guest.zero]
      ((repeat refine Alt.mk ?_) <;> first | exact cVcl | skip)
  by_cases e2 : g.pc = 14
  · unfold sDesk Guest.written
    have hkl := hk e2
    by_cases b0 : g.gk = 0
    · by_cases b1 : g.was = pack g.plan.length g.seq
      · by_cases b3 : 1 ≤ (g.plan.length : Int)
        · simp (config := {contextual := true, maxSteps := 1000000}) (disch := first | exact dA | fail) [go_sem, envOf, wrap_i64, int_lt, -Int.not_le, -Int.not_lt, Bool.decide_and, Bool.decide_or, and_assoc, Bool.and_assoc, Bool.or_assoc, Prod.exists, Prod.forall, ord154, hg, hw, hcm, hself, e1, e2, b0, b1, b3, Guest.complete, Guest.zero]
          ((repeat refine Alt.mk ?_) <;> first | exact cVcl | skip)
        · simp (config := {contextual := true, maxSteps := 1000000}) (disch := first | exact dA | fail) [go_sem, envOf, wrap_i64, int_lt, -Int.not_le, -Int.not_lt, Bool.decide_and, Bool.decide_or, and_assoc, Bool.and_assoc, Bool.or_assoc, Prod.exists, Prod.forall, ord154, hg, hw, hcm, hself, e1, e2, b0, b1, b3, Guest.complete, Guest.zero]
          ((repeat refine Alt.mk ?_) <;> first | exact cVcl | skip)
      · by_cases b2 : swapB ws (pDesk c g.slot) g.was
        · by_cases b3 : 1 ≤ (g.plan.length : Int)
          · simp (config := {contextual := true, maxSteps := 1000000}) (disch := first | exact dA | fail) [go_sem, envOf, wrap_i64, int_lt, -Int.not_le, -Int.not_lt, Bool.decide_and, Bool.decide_or, and_assoc, Bool.and_assoc, Bool.or_assoc, Prod.exists, Prod.forall, ord154, hg, hw, hcm, hself, e1, e2, b0, b1, b2, b3, swapW, Guest.complete, Guest.zero]
            ((repeat refine Alt.mk ?_) <;> first | exact cVcl | skip)
          · simp (config := {contextual := true, maxSteps := 1000000}) (disch := first | exact dA | fail) [go_sem, envOf, wrap_i64, int_lt, -Int.not_le, -Int.not_lt, Bool.decide_and, Bool.decide_or, and_assoc, Bool.and_assoc, Bool.or_assoc, Prod.exists, Prod.forall, ord154, hg, hw, hcm, hself, e1, e2, b0, b1, b2, b3, swapW, Guest.complete, Guest.zero]
            ((repeat refine Alt.mk ?_) <;> first | exact cVcl | skip)
        · simp (config := {contextual := true, maxSteps := 1000000}) (disch := first | exact dA | fail) [go_sem, envOf, wrap_i64, int_lt, -Int.not_le, -Int.not_lt, Bool.decide_and, Bool.decide_or, and_assoc, Bool.and_assoc, Bool.or_assoc, Prod.exists, Prod.forall, ord154, hg, hw, hcm, hself, e1, e2, b0, b1, b2, swapW, Guest.complete, Guest.zero]
          ((repeat refine Alt.mk ?_) <;> first | exact cVcl | skip)
    · by_cases b1 : g.was = at_ g.plan (g.gk - 1)
      · by_cases b3 : g.gk + 1 ≤ (g.plan.length : Int)
        · simp (config := {contextual := true, maxSteps := 1000000}) (disch := first | exact dA | fail) [go_sem, envOf, wrap_i64, int_lt, -Int.not_le, -Int.not_lt, Bool.decide_and, Bool.decide_or, and_assoc, Bool.and_assoc, Bool.or_assoc, Prod.exists, Prod.forall, ord154, hg, hw, hcm, hself, e1, e2, b0, b1, b3, Guest.complete, Guest.zero]
          ((repeat refine Alt.mk ?_) <;> first | exact cVcl | skip)
        · simp (config := {contextual := true, maxSteps := 1000000}) (disch := first | exact dA | fail) [go_sem, envOf, wrap_i64, int_lt, -Int.not_le, -Int.not_lt, Bool.decide_and, Bool.decide_or, and_assoc, Bool.and_assoc, Bool.or_assoc, Prod.exists, Prod.forall, ord154, hg, hw, hcm, hself, e1, e2, b0, b1, b3, Guest.complete, Guest.zero]
          ((repeat refine Alt.mk ?_) <;> first | exact cVcl | skip)
      · by_cases b2 : swapB ws (pDesk c g.slot + g.gk) g.was
        · by_cases b3 : g.gk + 1 ≤ (g.plan.length : Int)
          · simp (config := {contextual := true, maxSteps := 1000000}) (disch := first | exact dA | fail) [go_sem, envOf, wrap_i64, int_lt, -Int.not_le, -Int.not_lt, Bool.decide_and, Bool.decide_or, and_assoc, Bool.and_assoc, Bool.or_assoc, Prod.exists, Prod.forall, ord154, hg, hw, hcm, hself, e1, e2, b0, b1, b2, b3, swapW, Guest.complete, Guest.zero]
            ((repeat refine Alt.mk ?_) <;> first | exact cVcl | skip)
          · simp (config := {contextual := true, maxSteps := 1000000}) (disch := first | exact dA | fail) [go_sem, envOf, wrap_i64, int_lt, -Int.not_le, -Int.not_lt, Bool.decide_and, Bool.decide_or, and_assoc, Bool.and_assoc, Bool.or_assoc, Prod.exists, Prod.forall, ord154, hg, hw, hcm, hself, e1, e2, b0, b1, b2, b3, swapW, Guest.complete, Guest.zero]
            ((repeat refine Alt.mk ?_) <;> first | exact cVcl | skip)
        · simp (config := {contextual := true, maxSteps := 1000000}) (disch := first | exact dA | fail) [go_sem, envOf, wrap_i64, int_lt, -Int.not_le, -Int.not_lt, Bool.decide_and, Bool.decide_or, and_assoc, Bool.and_assoc, Bool.or_assoc, Prod.exists, Prod.forall, ord154, hg, hw, hcm, hself, e1, e2, b0, b1, b2, swapW, Guest.complete, Guest.zero]
          ((repeat refine Alt.mk ?_) <;> first | exact cVcl | skip)
  have e3 : g.pc = 15 := by omega
  simp (config := {contextual := true, maxSteps := 1000000}) (disch := first | exact dA | fail) [go_sem, envOf, wrap_i64, int_lt, -Int.not_le, -Int.not_lt, Bool.decide_and, Bool.decide_or, and_assoc, Bool.and_assoc, Bool.or_assoc, Prod.exists, Prod.forall, ord154, hg, e1, e2, e3]
  ((repeat refine Alt.mk ?_) <;> first | exact cVcl | skip)
end AH
