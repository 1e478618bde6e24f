import Derived.Test.YtagihpbpblnnoaaGreatQ20
set_option linter.all false
namespace AH
open Go Go.Proofs Ho
set_option maxRecDepth 20000
set_option maxHeartbeats 8000000
theorem Run.push {σ : AHeap} {r j : Nat} {c : Cfg} {ws : List Int} {g : Guest} {sv pv : AV} (h : Run σ r j c ws g sv pv) {B : ABlk} : Run (σ.push B) r j c ws g sv pv :=
  ⟨by have := h.hr; simp; omega, by have := h.hj; simp; omega, h.ne, by rw [push_get_lt h.hr]; exact h.hg, by rw [push_get_lt h.hj]; exact h.hw, h.W, h.len, h.gs, h.cs, h.ls, h.lp⟩
theorem rOut_push {σ : AHeap} {r j : Nat} {c : Cfg} {o : SO} {sv pv : AV} {B : ABlk} (hr : r < σ.n) (hj : j < σ.n) : rOut (σ.push B) r j c o sv pv = (rOut σ r j c o sv pv).push B := by
  unfold rOut
  rw [push_set_lt hj, push_set_lt (by simpa using hr)]
attribute [go_sem] rOut_push
theorem xCome4_fn (σ : AHeap) (r j : Nat) (c : Cfg) (ws : List Int) (g : Guest) (sv pv : AV) (h : Run σ r j c ws g sv pv) (hpc : g.pc = 4) : Fn Tryz.prog 206 [.ptr r 0] σ fun x τ => ∃ a_ : AV × AV, x = .tup [] ∧ τ = rOut σ r j c (sFirst c ws g) a_.1 a_.2 ∧ (LV sv a_.1 g.snap (sFirst c ws g).g.snap ∧ LV pv a_.2 g.plan (sFirst c ws g).g.plan) := by
  refine fn_rel (fun a_ : AV × AV => .tup []) (fun a_ : AV × AV => rOut σ r j c (sFirst c ws g) a_.1 a_.2) (fun a_ : AV × AV => LV sv a_.1 g.snap (sFirst c ws g).g.snap ∧ LV pv a_.2 g.plan (sFirst c ws g).g.plan) ord206 mixed Tryz.func206 (by kernel_rfl) rfl (by kernel_rfl) ?_ ?_ ?_ ?_
  · intros; rfl
  · intros; rfl
  · intro a ha; exact mutR h ha.1 ha.2
  have hrun := h
  obtain ⟨hr, hj, ne, hg, hw, hW, hl, gs, ⟨c1, c2, c3, c4, c5, c6⟩, ls, lp⟩ := h
  have hcm : ∀ X A B, (AHeap.set (AHeap.set X r A) j B) = (X.set j B).set r A := fun X A B => set_cm ne X A B
  have hself := set_self' hw
  obtain ⟨g1, g2, g3, g4, g5, g6, g7, g8, g9, g10, g11, ⟨w1, w2, w3, w4, w5, w6⟩⟩ := gs
  have hsf : ∀ x, sFirst c ws g = x → sFirst c ws g = x := fun x h => h
  simp (config := {contextual := true, maxSteps := 1000000}) (disch := first | exact dA | fail) [go_sem, envOf, wrap_i64, int_lt, -Int.not_le, -Int.not_lt, Bool.decide_and, Bool.decide_or, and_assoc, Bool.and_assoc, Bool.or_assoc, Prod.exists, Prod.forall, ord206, hg, hpc]
  ((repeat refine Alt.mk ?_) <;> first | exact cVcl | skip)
theorem xComeA_fn (σ : AHeap) (r j : Nat) (c : Cfg) (ws : List Int) (g : Guest) (sv pv : AV) (h : Run σ r j c ws g sv pv) (hpc : 4 ≤ g.pc ∧ g.pc ≤ 8) :
    Fn Tryz.prog 206 [.ptr r 0] σ fun x τ => ∃ a_ : AV × AV, x = .tup [] ∧ τ = rOut σ r j c (sFirst c ws g) a_.1 a_.2 ∧ LV sv a_.1 g.snap (sFirst c ws g).g.snap ∧ LV pv a_.2 g.plan (sFirst c ws g).g.plan := by
  by_cases e : g.pc = 4
  · exact xCome4_fn σ r j c ws g sv pv h e
  · exact xCome_fn σ r j c ws g sv pv h (by omega)
@[go_sem] theorem xComeA_s (σ : AHeap) (r j : Nat) (c : Cfg) (ws : List Int) (g : Guest) (sv pv : AV) (h : Run σ r j c ws g sv pv) (hpc : 4 ≤ g.pc ∧ g.pc ≤ 8) (kk_ : AV → AHeap → Prop) :
    @callP Tryz.prog (.fn 206 [] []) [.ptr r 0] σ ⟨kk_⟩ = @Alt (∀ a_ : AV × AV, (LV sv a_.1 g.snap (sFirst c ws g).g.snap ∧ LV pv a_.2 g.plan (sFirst c ws g).g.plan) → kk_ (.tup []) (rOut σ r j c (sFirst c ws g) a_.1 a_.2)) ⟨@callP Tryz.prog (.fn 206 [] []) [.ptr r 0] σ ⟨kk_⟩⟩ :=
  callP_rel (α := AV × AV) (V := fun _ => .tup []) (H := fun a_ => rOut σ r j c (sFirst c ws g) a_.1 a_.2) (F := fun a_ => LV sv a_.1 g.snap (sFirst c ws g).g.snap ∧ LV pv a_.2 g.plan (sFirst c ws g).g.plan) kk_ (xComeA_fn σ r j c ws g sv pv h hpc)
theorem xFirst_fn (σ : AHeap) (r j : Nat) (c : Cfg) (ws : List Int) (g : Guest) (sv pv : AV) (h : Run σ r j c ws g sv pv) (hpc : 1 ≤ g.pc ∧ g.pc ≤ 8) : Fn Tryz.prog 151 [.ptr r 0] σ fun x τ => ∃ a_ : AV × AV, x = .tup [] ∧ τ = rOut σ r j c (sFirst c ws g) a_.1 a_.2 ∧ (LV sv a_.1 g.snap (sFirst c ws g).g.snap ∧ LV pv a_.2 g.plan (sFirst c ws g).g.plan) := by
  refine fn_rel (fun a_ : AV × AV => .tup []) (fun a_ : AV × AV => rOut σ r j c (sFirst c ws g) a_.1 a_.2) (fun a_ : AV × AV => LV sv a_.1 g.snap (sFirst c ws g).g.snap ∧ LV pv a_.2 g.plan (sFirst c ws g).g.plan) ord151 mixed Tryz.func151 (by kernel_rfl) rfl (by kernel_rfl) ?_ ?_ ?_ ?_
  · intros; rfl
  · intros; rfl
  · intro a ha; exact mutR h ha.1 ha.2
  have hrun := h
  obtain ⟨hr, hj, ne, hg, hw, hW, hl, gs, ⟨c1, c2, c3, c4, c5, c6⟩, ls, lp⟩ := h
  have hcm : ∀ X A B, (AHeap.set (AHeap.set X r A) j B) = (X.set j B).set r A := fun X A B => set_cm ne X A B
  have hself := set_self' hw
  obtain ⟨g1, g2, g3, g4, g5, g6, g7, g8, g9, g10, g11, ⟨w1, w2, w3, w4, w5, w6⟩⟩ := gs
  have hp1 := pload_isW hW (pBeat c g.slot)
  have hp2 := pload_isW hW 1
  have hcv := cval_range (w := pload ws 1)
  by_cases e1 : g.pc = 1
  · unfold sFirst
    by_cases b1 : g.epoch < cstamp (pload ws (pBeat c g.slot))
    · simp (config := {contextual := true, maxSteps := 1000000}) (disch := first | exact dA | fail) [go_sem, envOf, wrap_i64, int_lt, -Int.not_le, -Int.not_lt, Bool.decide_and, Bool.decide_or, and_assoc, Bool.and_assoc, Bool.or_assoc, Prod.exists, Prod.forall, ord151, hg, hw, hcm, hself, e1, b1, Guest.complete, Guest.zero]
      ((repeat refine Alt.mk ?_) <;> first | exact cVcl | skip)
    · simp (config := {contextual := true, maxSteps := 1000000}) (disch := first | exact dA | fail) [go_sem, envOf, wrap_i64, int_lt, -Int.not_le, -Int.not_lt, Bool.decide_and, Bool.decide_or, and_assoc, Bool.and_assoc, Bool.or_assoc, Prod.exists, Prod.forall, ord151, hg, hw, hcm, hself, e1, b1, Guest.complete, Guest.zero]
      ((repeat refine Alt.mk ?_) <;> first | exact cVcl | skip)
  by_cases e2 : g.pc = 2
  · unfold sFirst
    simp (config := {contextual := true, maxSteps := 1000000}) (disch := first | exact dA | fail) [go_sem, envOf, wrap_i64, int_lt, -Int.not_le, -Int.not_lt, Bool.decide_and, Bool.decide_or, and_assoc, Bool.and_assoc, Bool.or_assoc, Prod.exists, Prod.forall, ord151, hg, hw, hcm, hself, e1, e2, Guest.complete, Guest.zero]
    ((repeat refine Alt.mk ?_) <;> first | exact cVcl | skip)
  by_cases e3 : g.pc = 3
  · unfold sFirst
    by_cases b1 : g.was = pack g.time g.epoch
    · simp (config := {contextual := true, maxSteps := 1000000}) (disch := first | exact dA | fail) [go_sem, envOf, wrap_i64, int_lt, -Int.not_le, -Int.not_lt, Bool.decide_and, Bool.decide_or, and_assoc, Bool.and_assoc, Bool.or_assoc, Prod.exists, Prod.forall, ord151, hg, hw, hcm, hself, e1, e2, e3, b1, Guest.complete, Guest.zero]
      ((repeat refine Alt.mk ?_) <;> first | exact cVcl | skip)
    · by_cases b2 : swapB ws (pBeat c g.slot) g.was
      · simp (config := {contextual := true, maxSteps := 1000000}) (disch := first | exact dA | fail) [go_sem, envOf, wrap_i64, int_lt, -Int.not_le, -Int.not_lt, Bool.decide_and, Bool.decide_or, and_assoc, Bool.and_assoc, Bool.or_assoc, Prod.exists, Prod.forall, ord151, hg, hw, hcm, hself, e1, e2, e3, b1, b2, Guest.complete, Guest.zero]
        ((repeat refine Alt.mk ?_) <;> first | exact cVcl | skip)
      · simp (config := {contextual := true, maxSteps := 1000000}) (disch := first | exact dA | fail) [go_sem, envOf, wrap_i64, int_lt, -Int.not_le, -Int.not_lt, Bool.decide_and, Bool.decide_or, and_assoc, Bool.and_assoc, Bool.or_assoc, Prod.exists, Prod.forall, ord151, hg, hw, hcm, hself, e1, e2, e3, b1, b2, Guest.complete, Guest.zero]
        ((repeat refine Alt.mk ?_) <;> first | exact cVcl | skip)
  have e4 : 4 ≤ g.pc ∧ g.pc ≤ 8 := by omega
  simp (config := {contextual := true, maxSteps := 1000000}) (disch := first | exact dA | fail) [go_sem, envOf, wrap_i64, int_lt, -Int.not_le, -Int.not_lt, Bool.decide_and, Bool.decide_or, and_assoc, Bool.and_assoc, Bool.or_assoc, Prod.exists, Prod.forall, ord151, hg, e1, e2, e3]
  ((repeat refine Alt.mk ?_) <;> first | exact cVcl | skip)
end AH
