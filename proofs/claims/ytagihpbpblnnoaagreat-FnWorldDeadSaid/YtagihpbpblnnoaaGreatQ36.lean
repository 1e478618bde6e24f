import Derived.Test.YtagihpbpblnnoaaGreatQ35
set_option linter.all false
namespace AH
open Go Go.Proofs Ho
set_option maxRecDepth 20000
set_option maxHeartbeats 16000000
theorem zReap_fn (σ : AHeap) (b : Bk) (n0 p o i e h0 h1 h2 h3 : Nat) (slot : Int) (hb : BkO n0 σ b p o i e h0 h1 h2 h3) (hs : BkS b) (hbk : bookP b) :
    Fn Tryz.prog 193 [bO b p o i e h0 h1 h2 h3, .int .i64 slot] σ fun x τ => BkT σ τ p o i e h0 h1 h2 h3 (reapB b slot) x := by
  refine fn_of ord0 mixed Tryz.func193 (by kernel_rfl) rfl (by kernel_rfl) ?_
  have hb' := hb
  have hv := hb.v
  have hl := hbk.1.1
  obtain ⟨vp, v0, v1, v2, v3, vo, vi, ve⟩ := id hv
  obtain ⟨⟨lo1, lo2, lo3, lo4, lo5, lo6, lo7, lo8⟩, ⟨hi1, hi2, hi3, hi4, hi5, hi6, hi7, hi8⟩, ⟨d1, d2, d3, d4, d5, d6, d7, d8, d9, d10, d11, d12, d13, d14, d15, d16, d17, d18, d19, d20, d21, d22, d23, d24, d25, d26, d27, d28⟩, gp, go, gi, ge, g0, g1, g2, g3⟩ := id hb
  by_cases hr : slot < 0 ∨ b.slots ≤ slot
  · have hT : reapB b slot = (b, 9, 0) := by unfold reapB; rw [if_pos hr]
    by_cases x1 : slot < 0
    · simp (config := {contextual := true, maxSteps := 1000000}) (disch := first | exact dB | fail) [go_sem, envOf, wrap_i64, int_lt, -Int.not_le, -Int.not_lt, Bool.decide_and, Bool.decide_or, and_assoc, Bool.and_assoc, Bool.or_assoc, Prod.exists, Prod.forall, -List.map_set, set_put, x1]
      (repeat refine Alt.mk ?_)
      rw [hT]
      exact ⟨_, rfl, BkR.r hb' (by intro y hy; simp (disch := first | omega | (simp only [push_n', set_n']; omega)) only [push_get_lt]) (by simp only [push_n']; omega)⟩
    · have x2 : b.slots ≤ slot := by omega
      simp (config := {contextual := true, maxSteps := 1000000}) (disch := first | exact dB | fail) [go_sem, envOf, wrap_i64, int_lt, -Int.not_le, -Int.not_lt, Bool.decide_and, Bool.decide_or, and_assoc, Bool.and_assoc, Bool.or_assoc, Prod.exists, Prod.forall, -List.map_set, set_put, x1, x2]
      (repeat refine Alt.mk ?_)
      rw [hT]
      exact ⟨_, rfl, BkR.r hb' (by intro y hy; simp (disch := first | omega | (simp only [push_n', set_n']; omega)) only [push_get_lt]) (by simp only [push_n']; omega)⟩
  have x1 : ¬ slot < 0 := by omega
  have x2 : ¬ b.slots ≤ slot := by omega
  have x3 : 0 ≤ slot := by omega
  have x4 : ¬ (b.inn.length : Int) ≤ slot := by omega
  obtain ⟨s, hse⟩ : ∃ s, at_ b.inn slot = s := ⟨_, rfl⟩
  by_cases hs0 : s = 0
  · have hT : reapB b slot = (b, 9, 0) := by unfold reapB; rw [if_neg hr, hse, if_pos hs0]
    simp (config := {contextual := true, maxSteps := 1000000}) (disch := first | exact dB | fail) [go_sem, envOf, wrap_i64, int_lt, -Int.not_le, -Int.not_lt, Bool.decide_and, Bool.decide_or, and_assoc, Bool.and_assoc, Bool.or_assoc, Prod.exists, Prod.forall, -List.map_set, set_put, x1, x2, x3, x4, hse, hs0]
    (repeat refine Alt.mk ?_)
    rw [hT]
    exact ⟨_, rfl, BkR.r hb' (by intro y hy; simp (disch := first | omega | (simp only [push_n', set_n']; omega)) only [push_get_lt]) (by simp only [push_n']; omega)⟩
  by_cases hs1 : s = 1
  · have hT : reapB b slot = (b, 8, 0) := by unfold reapB; rw [if_neg hr, hse, if_neg hs0, if_pos hs1]
    simp (config := {contextual := true, maxSteps := 1000000}) (disch := first | exact dB | fail) [go_sem, envOf, wrap_i64, int_lt, -Int.not_le, -Int.not_lt, Bool.decide_and, Bool.decide_or, and_assoc, Bool.and_assoc, Bool.or_assoc, Prod.exists, Prod.forall, -List.map_set, set_put, x1, x2, x3, x4, hse, hs1]
    (repeat refine Alt.mk ?_)
    rw [hT]
    exact ⟨_, rfl, BkR.r hb' (by intro y hy; simp (disch := first | omega | (simp only [push_n', set_n']; omega)) only [push_get_lt]) (by simp only [push_n']; omega)⟩
  have hfr := firstIx_rng b.owner (slot + 1) 0
  obtain ⟨f, hf⟩ : ∃ f, firstOf b slot = f := ⟨_, rfl⟩
  have hf' : firstIx b.owner (slot + 1) 0 = f := hf
  rw [hf'] at hfr
  by_cases hf0 : f < 0
  · have hT : reapB b slot = ({ b with inn := put b.inn slot 0 }, 0, 0) := by unfold reapB; rw [if_neg hr, hse, if_neg hs0, if_neg hs1, hf, if_pos hf0]
    simp (config := {contextual := true, maxSteps := 1000000}) (disch := first | exact dB | fail) [go_sem, envOf, wrap_i64, int_lt, -Int.not_le, -Int.not_lt, Bool.decide_and, Bool.decide_or, and_assoc, Bool.and_assoc, Bool.or_assoc, Prod.exists, Prod.forall, -List.map_set, set_put, x1, x2, x3, x4, hse, hs0, hs1, hf, hf0, gi]
    (repeat refine Alt.mk ?_)
    rw [hT]
    refine ⟨_, rfl, BkR.mk' n0 p o i e h0 h1 h2 h3 ⟨by omega, by simp only [push_n', set_n']; omega, (by refine ⟨?_, ?_, ?_, ?_, ?_, ?_, ?_, ?_, ?_, ?_, ?_, ?_, ?_, ?_, ?_, ?_, ?_, ?_, ?_, ?_, ?_, ?_, ?_, ?_, ?_, ?_, ?_, ?_⟩ <;> first | assumption | exact NE.sw (by assumption) | (simp only [NE]; omega)), ?_, ?_, ?_, ?_, ?_, ?_, ?_, ?_⟩ (by simp [put_len']) (by first | exact cKO | fail) (by simp only [push_n', set_n']; omega) (by intro y hy ho; obtain ⟨z1, z2, z3, z4, z5, z6, z7, z8⟩ := ho; refine ⟨?_, ?_, ?_, ?_, ?_, ?_, ?_, ?_⟩ <;> first | assumption | (simp only [NE]; omega))⟩ <;> (first | exact cGT | fail)
  · have hT : reapB b slot = (backB b f, 10, f) := by unfold reapB; rw [if_neg hr, hse, if_neg hs0, if_neg hs1, hf, if_neg hf0]
    simp (config := {contextual := true, maxSteps := 1000000}) (disch := first | exact dB | fail) [go_sem, envOf, wrap_i64, int_lt, -Int.not_le, -Int.not_lt, Bool.decide_and, Bool.decide_or, and_assoc, Bool.and_assoc, Bool.or_assoc, Prod.exists, Prod.forall, -List.map_set, set_put, x1, x2, x3, x4, hse, hs0, hs1, hf, hf0]
    (repeat refine Alt.mk ?_)
    refine callP_use (zBack_fn _ b n0 p o i e h0 h1 h2 h3 f (hb'.frame (by intro y hy; simp (disch := first | omega | (simp only [push_n', set_n']; omega)) only [push_get_lt]) (by simp only [push_n']; omega)) hs hbk (by omega)) ?_
    rintro v τ hnn hB
    have hout : Out (σ.n + 1) p o i e h0 h1 h2 h3 := by constructor <;> (simp only [NE]; omega)
    have hup := fun X => hB.up (σ := σ) (j := σ.n + 1) (X := X) (by intro y hy; simp (disch := first | omega | (simp only [push_n', set_n']; omega)) only [push_get_lt]) (by simp only [push_n']; omega) (by simp only [push_n']; omega) hout
    have hB' := hB
    obtain ⟨pv, k0, k1, k2, k3, ov, iv, ev, rfl, hv2, hf2, hn2, ha2⟩ := hB
    have hgr := hf2 (σ.n + 1) (by simp only [push_n']; omega) hout
    try simp (disch := first | omega | (simp only [push_n']; omega)) only [push_get_lt] at hgr
    rw [get_push_eq _ (by simp only [push_n'])] at hgr
    obtain ⟨i1, i2, i3, i4, i5, i6, i7, i8⟩ : IsL pv ∧ IsL k0 ∧ IsL k1 ∧ IsL k2 ∧ IsL k3 ∧ IsL ov ∧ IsL iv ∧ IsL ev := ⟨hv2.p.isL, hv2.h0.isL, hv2.h1.isL, hv2.h2.isL, hv2.h3.isL, hv2.o.isL, hv2.i.isL, hv2.e.isL⟩
    simp (config := {contextual := true, maxSteps := 1000000}) (disch := first | exact dB | fail) [go_sem, envOf, wrap_i64, int_lt, -Int.not_le, -Int.not_lt, Bool.decide_and, Bool.decide_or, and_assoc, Bool.and_assoc, Bool.or_assoc, Prod.exists, Prod.forall, -List.map_set, set_put, hgr]
    rw [hT]; exact ⟨_, rfl, hup _⟩
theorem zOwn_fn (σ : AHeap) (b : Bk) (n0 p o i e h0 h1 h2 h3 : Nat) (op : Ho.Op) (hb : BkO n0 σ b p o i e h0 h1 h2 h3) (hs : BkS b) (hbk : bookP b) (hop : 0 ≤ op.slot ∧ op.slot < b.slots) :
    Fn Tryz.prog 139 [bO b p o i e h0 h1 h2 h3, .agg [.int .i64 op.kind, .int .i64 op.slot, .int .i64 op.a, .int .i64 op.b]] σ fun x τ => BkT σ τ p o i e h0 h1 h2 h3 (ownB b op) x := by
  refine fn_of ord0 mixed Tryz.func139 (by kernel_rfl) rfl (by kernel_rfl) ?_
  have hb' := hb
  have hv := hb.v
  have hl := hbk.1.1
  have hs4 : 0 ≤ op.slot ∧ op.slot ≤ 10 := by omega
  have hs5 := hop.1
  have hs6 : ¬ (b.inn.length : Int) ≤ op.slot := by omega
  obtain ⟨vp, v0, v1, v2, v3, vo, vi, ve⟩ := id hv
  obtain ⟨⟨lo1, lo2, lo3, lo4, lo5, lo6, lo7, lo8⟩, ⟨hi1, hi2, hi3, hi4, hi5, hi6, hi7, hi8⟩, ⟨d1, d2, d3, d4, d5, d6, d7, d8, d9, d10, d11, d12, d13, d14, d15, d16, d17, d18, d19, d20, d21, d22, d23, d24, d25, d26, d27, d28⟩, gp, go, gi, ge, g0, g1, g2, g3⟩ := id hb
  by_cases k2 : op.kind = 2
  · have hT : ownB b op = takeB b op.slot op.a := by unfold ownB; rw [if_pos k2]
    simp (config := {contextual := true, maxSteps := 1000000}) (disch := first | exact dB | fail) [go_sem, envOf, wrap_i64, int_lt, -Int.not_le, -Int.not_lt, Bool.decide_and, Bool.decide_or, and_assoc, Bool.and_assoc, Bool.or_assoc, Prod.exists, Prod.forall, -List.map_set, set_put, k2]
    (repeat refine Alt.mk ?_)
    refine callP_use (zTake_fn _ b n0 p o i e h0 h1 h2 h3 op.slot op.a (hb'.frame (by intro y hy; simp (disch := first | omega | (simp only [push_n', set_n']; omega)) only [push_get_lt]) (by simp only [push_n']; omega)) hs hbk hs4) ?_
    rintro v τ hnn ⟨y, rfl, hB⟩
    have hout : Out (σ.n + 1 + 1) p o i e h0 h1 h2 h3 := by constructor <;> (simp only [NE]; omega)
    have hup := fun X => hB.up (σ := σ) (j := σ.n + 1 + 1) (X := X) (by intro y hy; simp (disch := first | omega | (simp only [push_n', set_n']; omega)) only [push_get_lt]) (by simp only [push_n']; omega) (by simp only [push_n']; omega) hout
    have hB' := hB
    obtain ⟨pv, k0, k1, k2, k3, ov, iv, ev, rfl, hv2, hf2, hn2, ha2⟩ := hB
    have hgr := hf2 (σ.n + 1 + 1) (by simp only [push_n']; omega) hout
    try simp (disch := first | omega | (simp only [push_n']; omega)) only [push_get_lt] at hgr
    rw [get_push_eq _ (by simp only [push_n'])] at hgr
    obtain ⟨i1, i2, i3, i4, i5, i6, i7, i8⟩ : IsL pv ∧ IsL k0 ∧ IsL k1 ∧ IsL k2 ∧ IsL k3 ∧ IsL ov ∧ IsL iv ∧ IsL ev := ⟨hv2.p.isL, hv2.h0.isL, hv2.h1.isL, hv2.h2.isL, hv2.h3.isL, hv2.o.isL, hv2.i.isL, hv2.e.isL⟩
    simp (config := {contextual := true, maxSteps := 1000000}) (disch := first | exact dB | fail) [go_sem, envOf, wrap_i64, int_lt, -Int.not_le, -Int.not_lt, Bool.decide_and, Bool.decide_or, and_assoc, Bool.and_assoc, Bool.or_assoc, Prod.exists, Prod.forall, -List.map_set, set_put, hgr]
    rw [hT]; exact ⟨_, rfl, hup _⟩
  by_cases k3 : op.kind = 3
  · obtain ⟨w, hw⟩ : ∃ w, whose b op.slot op.a = w := ⟨_, rfl⟩
    by_cases hw0 : 0 < w
    · have hT : ownB b op = (b, w, 0) := by unfold ownB; rw [if_neg k2, if_pos k3, hw, if_pos hw0]
      simp (config := {contextual := true, maxSteps := 1000000}) (disch := first | exact dB | fail) [go_sem, envOf, wrap_i64, int_lt, -Int.not_le, -Int.not_lt, Bool.decide_and, Bool.decide_or, and_assoc, Bool.and_assoc, Bool.or_assoc, Prod.exists, Prod.forall, -List.map_set, set_put, k2, k3, hw, hw0]
      (repeat refine Alt.mk ?_)
      rw [hT]
      exact ⟨_, rfl, BkR.r hb' (by intro y hy; simp (disch := first | omega | (simp only [push_n', set_n']; omega)) only [push_get_lt]) (by simp only [push_n']; omega)⟩
    · have hT : ownB b op = (backB b op.a, 0, 0) := by unfold ownB; rw [if_neg k2, if_pos k3, hw, if_neg hw0]
      have har := roomOf_rng (b := b) (a := op.a) (fun hr => by unfold whose at hw; rw [if_pos hr] at hw; omega)
      simp (config := {contextual := true, maxSteps := 1000000}) (disch := first | exact dB | fail) [go_sem, envOf, wrap_i64, int_lt, -Int.not_le, -Int.not_lt, Bool.decide_and, Bool.decide_or, and_assoc, Bool.and_assoc, Bool.or_assoc, Prod.exists, Prod.forall, -List.map_set, set_put, k2, k3, hw, hw0]
      (repeat refine Alt.mk ?_)
      refine callP_use (zBack_fn _ b n0 p o i e h0 h1 h2 h3 op.a (hb'.frame (by intro y hy; simp (disch := first | omega | (simp only [push_n', set_n']; omega)) only [push_get_lt]) (by simp only [push_n']; omega)) hs hbk har) ?_
      rintro v τ hnn hB
      have hout : Out (σ.n + 1 + 1) p o i e h0 h1 h2 h3 := by constructor <;> (simp only [NE]; omega)
      have hup := fun X => hB.up (σ := σ) (j := σ.n + 1 + 1) (X := X) (by intro y hy; simp (disch := first | omega | (simp only [push_n', set_n']; omega)) only [push_get_lt]) (by simp only [push_n']; omega) (by simp only [push_n']; omega) hout
      have hB' := hB
      obtain ⟨pv, k0, k1, k2, k3, ov, iv, ev, rfl, hv2, hf2, hn2, ha2⟩ := hB
      have hgr := hf2 (σ.n + 1 + 1) (by simp only [push_n']; omega) hout
      try simp (disch := first | omega | (simp only [push_n']; omega)) only [push_get_lt] at hgr
      rw [get_push_eq _ (by simp only [push_n'])] at hgr
      obtain ⟨i1, i2, i3, i4, i5, i6, i7, i8⟩ : IsL pv ∧ IsL k0 ∧ IsL k1 ∧ IsL k2 ∧ IsL k3 ∧ IsL ov ∧ IsL iv ∧ IsL ev := ⟨hv2.p.isL, hv2.h0.isL, hv2.h1.isL, hv2.h2.isL, hv2.h3.isL, hv2.o.isL, hv2.i.isL, hv2.e.isL⟩
      simp (config := {contextual := true, maxSteps := 1000000}) (disch := first | exact dB | fail) [go_sem, envOf, wrap_i64, int_lt, -Int.not_le, -Int.not_lt, Bool.decide_and, Bool.decide_or, and_assoc, Bool.and_assoc, Bool.or_assoc, Prod.exists, Prod.forall, -List.map_set, set_put, hgr]
      rw [hT]; exact ⟨_, rfl, hup _⟩
  by_cases k4 : op.kind = 4
  · obtain ⟨w, hw⟩ : ∃ w, whose b op.slot op.a = w := ⟨_, rfl⟩
    by_cases hw0 : 0 < w
    · have hT : ownB b op = (b, w, 0) := by unfold ownB; rw [if_neg k2, if_neg k3, if_pos k4, hw, if_pos hw0]
      simp (config := {contextual := true, maxSteps := 1000000}) (disch := first | exact dB | fail) [go_sem, envOf, wrap_i64, int_lt, -Int.not_le, -Int.not_lt, Bool.decide_and, Bool.decide_or, and_assoc, Bool.and_assoc, Bool.or_assoc, Prod.exists, Prod.forall, -List.map_set, set_put, k2, k3, k4, hw, hw0]
      (repeat refine Alt.mk ?_)
      rw [hT]
      exact ⟨_, rfl, BkR.r hb' (by intro y hy; simp (disch := first | omega | (simp only [push_n', set_n']; omega)) only [push_get_lt]) (by simp only [push_n']; omega)⟩
    have har := roomOf_rng (b := b) (a := op.a) (fun hr => by unfold whose at hw; rw [if_pos hr] at hw; omega)
    have ha1 := har.1
    have ha2 : ¬ (b.owner.length : Int) ≤ op.a := by omega
    by_cases hB0 : op.b < 0 ∨ b.slots ≤ op.b
    · have hT : ownB b op = (b, 5, 0) := by unfold ownB; rw [if_neg k2, if_neg k3, if_pos k4, hw, if_neg hw0, if_pos hB0]
      by_cases x1 : op.b < 0
      · simp (config := {contextual := true, maxSteps := 1000000}) (disch := first | exact dB | fail) [go_sem, envOf, wrap_i64, int_lt, -Int.not_le, -Int.not_lt, Bool.decide_and, Bool.decide_or, and_assoc, Bool.and_assoc, Bool.or_assoc, Prod.exists, Prod.forall, -List.map_set, set_put, k2, k3, k4, hw, hw0, x1]
        (repeat refine Alt.mk ?_)
        rw [hT]
        exact ⟨_, rfl, BkR.r hb' (by intro y hy; simp (disch := first | omega | (simp only [push_n', set_n']; omega)) only [push_get_lt]) (by simp only [push_n']; omega)⟩
      · have x2 : b.slots ≤ op.b := by omega
        simp (config := {contextual := true, maxSteps := 1000000}) (disch := first | exact dB | fail) [go_sem, envOf, wrap_i64, int_lt, -Int.not_le, -Int.not_lt, Bool.decide_and, Bool.decide_or, and_assoc, Bool.and_assoc, Bool.or_assoc, Prod.exists, Prod.forall, -List.map_set, set_put, k2, k3, k4, hw, hw0, x1, x2]
        (repeat refine Alt.mk ?_)
        rw [hT]
        exact ⟨_, rfl, BkR.r hb' (by intro y hy; simp (disch := first | omega | (simp only [push_n', set_n']; omega)) only [push_get_lt]) (by simp only [push_n']; omega)⟩
    have x1 : ¬ op.b < 0 := by omega
    have x2 : ¬ b.slots ≤ op.b := by omega
    have x3 : 0 ≤ op.b := by omega
    have x4 : ¬ (b.inn.length : Int) ≤ op.b := by omega
    obtain ⟨s, hse⟩ : ∃ s, at_ b.inn op.b = s := ⟨_, rfl⟩
    by_cases hs0 : s = 0
    · have hT : ownB b op = (b, 5, 0) := by unfold ownB; rw [if_neg k2, if_neg k3, if_pos k4, hw, if_neg hw0, if_neg hB0, hse, if_pos hs0]
      simp (config := {contextual := true, maxSteps := 1000000}) (disch := first | exact dB | fail) [go_sem, envOf, wrap_i64, int_lt, -Int.not_le, -Int.not_lt, Bool.decide_and, Bool.decide_or, and_assoc, Bool.and_assoc, Bool.or_assoc, Prod.exists, Prod.forall, -List.map_set, set_put, k2, k3, k4, hw, hw0, x1, x2, x3, x4, hse, hs0]
      (repeat refine Alt.mk ?_)
      rw [hT]
      exact ⟨_, rfl, BkR.r hb' (by intro y hy; simp (disch := first | omega | (simp only [push_n', set_n']; omega)) only [push_get_lt]) (by simp only [push_n']; omega)⟩
    · have hT : ownB b op = ({ b with owner := put b.owner op.a (op.b + 1) }, 0, 0) := by unfold ownB; rw [if_neg k2, if_neg k3, if_pos k4, hw, if_neg hw0, if_neg hB0, hse, if_neg hs0]
      simp (config := {contextual := true, maxSteps := 1000000}) (disch := first | exact dB | fail) [go_sem, envOf, wrap_i64, int_lt, -Int.not_le, -Int.not_lt, Bool.decide_and, Bool.decide_or, and_assoc, Bool.and_assoc, Bool.or_assoc, Prod.exists, Prod.forall, -List.map_set, set_put, k2, k3, k4, hw, hw0, x1, x2, x3, x4, hse, hs0, go, ha1, ha2]
      (repeat refine Alt.mk ?_)
      rw [hT]
      refine ⟨_, rfl, BkR.mk' n0 p o i e h0 h1 h2 h3 ⟨by omega, by simp only [push_n', set_n']; omega, (by refine ⟨?_, ?_, ?_, ?_, ?_, ?_, ?_, ?_, ?_, ?_, ?_, ?_, ?_, ?_, ?_, ?_, ?_, ?_, ?_, ?_, ?_, ?_, ?_, ?_, ?_, ?_, ?_, ?_⟩ <;> first | assumption | exact NE.sw (by assumption) | (simp only [NE]; omega)), ?_, ?_, ?_, ?_, ?_, ?_, ?_, ?_⟩ (by simp [put_len']) (by first | exact cKO | fail) (by simp only [push_n', set_n']; omega) (by intro y hy ho; obtain ⟨z1, z2, z3, z4, z5, z6, z7, z8⟩ := ho; refine ⟨?_, ?_, ?_, ?_, ?_, ?_, ?_, ?_⟩ <;> first | assumption | (simp only [NE]; omega))⟩ <;> (first | exact cGT | fail)
  by_cases k5 : op.kind = 5
  · obtain ⟨f, hf⟩ : ∃ f, firstOf b op.slot = f := ⟨_, rfl⟩
    by_cases hf0 : 0 ≤ f
    · have hT : ownB b op = (b, 7, 0) := by unfold ownB; rw [if_neg k2, if_neg k3, if_neg k4, if_pos k5, hf, if_pos hf0]
      simp (config := {contextual := true, maxSteps := 1000000}) (disch := first | exact dB | fail) [go_sem, envOf, wrap_i64, int_lt, -Int.not_le, -Int.not_lt, Bool.decide_and, Bool.decide_or, and_assoc, Bool.and_assoc, Bool.or_assoc, Prod.exists, Prod.forall, -List.map_set, set_put, k2, k3, k4, k5, hf, hf0]
      (repeat refine Alt.mk ?_)
      rw [hT]
      exact ⟨_, rfl, BkR.r hb' (by intro y hy; simp (disch := first | omega | (simp only [push_n', set_n']; omega)) only [push_get_lt]) (by simp only [push_n']; omega)⟩
    · have hT : ownB b op = ({ b with inn := put b.inn op.slot 0 }, 0, 0) := by unfold ownB; rw [if_neg k2, if_neg k3, if_neg k4, if_pos k5, hf, if_neg hf0]
      simp (config := {contextual := true, maxSteps := 1000000}) (disch := first | exact dB | fail) [go_sem, envOf, wrap_i64, int_lt, -Int.not_le, -Int.not_lt, Bool.decide_and, Bool.decide_or, and_assoc, Bool.and_assoc, Bool.or_assoc, Prod.exists, Prod.forall, -List.map_set, set_put, k2, k3, k4, k5, hf, hf0, gi, hs5, hs6]
      (repeat refine Alt.mk ?_)
      rw [hT]
      refine ⟨_, rfl, BkR.mk' n0 p o i e h0 h1 h2 h3 ⟨by omega, by simp only [push_n', set_n']; omega, (by refine ⟨?_, ?_, ?_, ?_, ?_, ?_, ?_, ?_, ?_, ?_, ?_, ?_, ?_, ?_, ?_, ?_, ?_, ?_, ?_, ?_, ?_, ?_, ?_, ?_, ?_, ?_, ?_, ?_⟩ <;> first | assumption | exact NE.sw (by assumption) | (simp only [NE]; omega)), ?_, ?_, ?_, ?_, ?_, ?_, ?_, ?_⟩ (by simp [put_len']) (by first | exact cKO | fail) (by simp only [push_n', set_n']; omega) (by intro y hy ho; obtain ⟨z1, z2, z3, z4, z5, z6, z7, z8⟩ := ho; refine ⟨?_, ?_, ?_, ?_, ?_, ?_, ?_, ?_⟩ <;> first | assumption | (simp only [NE]; omega))⟩ <;> (first | exact cGT | fail)
  by_cases k6 : op.kind = 6
  · have hT : ownB b op = reapB b op.a := by unfold ownB; rw [if_neg k2, if_neg k3, if_neg k4, if_neg k5, if_pos k6]
    simp (config := {contextual := true, maxSteps := 1000000}) (disch := first | exact dB | fail) [go_sem, envOf, wrap_i64, int_lt, -Int.not_le, -Int.not_lt, Bool.decide_and, Bool.decide_or, and_assoc, Bool.and_assoc, Bool.or_assoc, Prod.exists, Prod.forall, -List.map_set, set_put, k2, k3, k4, k5, k6]
    (repeat refine Alt.mk ?_)
    refine callP_use (zReap_fn _ b n0 p o i e h0 h1 h2 h3 op.a (hb'.frame (by intro y hy; simp (disch := first | omega | (simp only [push_n', set_n']; omega)) only [push_get_lt]) (by simp only [push_n']; omega)) hs hbk) ?_
    rintro v τ hnn ⟨y, rfl, hB⟩
    have hout : Out (σ.n + 1 + 1) p o i e h0 h1 h2 h3 := by constructor <;> (simp only [NE]; omega)
    have hup := fun X => hB.up (σ := σ) (j := σ.n + 1 + 1) (X := X) (by intro y hy; simp (disch := first | omega | (simp only [push_n', set_n']; omega)) only [push_get_lt]) (by simp only [push_n']; omega) (by simp only [push_n']; omega) hout
    have hB' := hB
    obtain ⟨pv, k0, k1, k2, k3, ov, iv, ev, rfl, hv2, hf2, hn2, ha2⟩ := hB
    have hgr := hf2 (σ.n + 1 + 1) (by simp only [push_n']; omega) hout
    try simp (disch := first | omega | (simp only [push_n']; omega)) only [push_get_lt] at hgr
    rw [get_push_eq _ (by simp only [push_n'])] at hgr
    obtain ⟨i1, i2, i3, i4, i5, i6, i7, i8⟩ : IsL pv ∧ IsL k0 ∧ IsL k1 ∧ IsL k2 ∧ IsL k3 ∧ IsL ov ∧ IsL iv ∧ IsL ev := ⟨hv2.p.isL, hv2.h0.isL, hv2.h1.isL, hv2.h2.isL, hv2.h3.isL, hv2.o.isL, hv2.i.isL, hv2.e.isL⟩
    simp (config := {contextual := true, maxSteps := 1000000}) (disch := first | exact dB | fail) [go_sem, envOf, wrap_i64, int_lt, -Int.not_le, -Int.not_lt, Bool.decide_and, Bool.decide_or, and_assoc, Bool.and_assoc, Bool.or_assoc, Prod.exists, Prod.forall, -List.map_set, set_put, hgr]
    rw [hT]; exact ⟨_, rfl, hup _⟩
  · have hT : ownB b op = (b, 13, 0) := by unfold ownB; rw [if_neg k2, if_neg k3, if_neg k4, if_neg k5, if_neg k6]
    simp (config := {contextual := true, maxSteps := 1000000}) (disch := first | exact dB | fail) [go_sem, envOf, wrap_i64, int_lt, -Int.not_le, -Int.not_lt, Bool.decide_and, Bool.decide_or, and_assoc, Bool.and_assoc, Bool.or_assoc, Prod.exists, Prod.forall, -List.map_set, set_put, k2, k3, k4, k5, k6]
    (repeat refine Alt.mk ?_)
    rw [hT]
    exact ⟨_, rfl, BkR.r hb' (by intro y hy; simp (disch := first | omega | (simp only [push_n', set_n']; omega)) only [push_get_lt]) (by simp only [push_n']; omega)⟩
theorem zDo_fn (σ : AHeap) (b : Bk) (n0 p o i e h0 h1 h2 h3 : Nat) (op : Ho.Op) (hb : BkO n0 σ b p o i e h0 h1 h2 h3) (hs : BkS b) (hbk : bookP b) :
    Fn Tryz.prog 74 [bO b p o i e h0 h1 h2 h3, .agg [.int .i64 op.kind, .int .i64 op.slot, .int .i64 op.a, .int .i64 op.b]] σ fun x τ => BkT σ τ p o i e h0 h1 h2 h3 (doB b op) x := by
  refine fn_of ord74 mixed Tryz.func74 (by kernel_rfl) rfl (by kernel_rfl) ?_
  have hb' := hb
  have hv := hb.v
  have hl := hbk.1.1
  obtain ⟨vp, v0, v1, v2, v3, vo, vi, ve⟩ := id hv
  obtain ⟨⟨lo1, lo2, lo3, lo4, lo5, lo6, lo7, lo8⟩, ⟨hi1, hi2, hi3, hi4, hi5, hi6, hi7, hi8⟩, ⟨d1, d2, d3, d4, d5, d6, d7, d8, d9, d10, d11, d12, d13, d14, d15, d16, d17, d18, d19, d20, d21, d22, d23, d24, d25, d26, d27, d28⟩, gp, go, gi, ge, g0, g1, g2, g3⟩ := id hb
  by_cases hr : op.slot < 0 ∨ b.slots ≤ op.slot
  · have hT : doB b op = (b, 13, 0) := by unfold doB; rw [if_pos hr]
    by_cases x1 : op.slot < 0
    · simp (config := {contextual := true, maxSteps := 1000000}) (disch := first | exact dB | fail) [go_sem, envOf, wrap_i64, int_lt, -Int.not_le, -Int.not_lt, Bool.decide_and, Bool.decide_or, and_assoc, Bool.and_assoc, Bool.or_assoc, Prod.exists, Prod.forall, -List.map_set, set_put, ord74, x1]
      (repeat refine Alt.mk ?_)
      rw [hT]
      exact ⟨_, rfl, BkR.r hb' (by intro y hy; simp (disch := first | omega | (simp only [push_n', set_n']; omega)) only [push_get_lt]) (by simp only [push_n']; omega)⟩
    · have x2 : b.slots ≤ op.slot := by omega
      simp (config := {contextual := true, maxSteps := 1000000}) (disch := first | exact dB | fail) [go_sem, envOf, wrap_i64, int_lt, -Int.not_le, -Int.not_lt, Bool.decide_and, Bool.decide_or, and_assoc, Bool.and_assoc, Bool.or_assoc, Prod.exists, Prod.forall, -List.map_set, set_put, ord74, x1, x2]
      (repeat refine Alt.mk ?_)
      rw [hT]
      exact ⟨_, rfl, BkR.r hb' (by intro y hy; simp (disch := first | omega | (simp only [push_n', set_n']; omega)) only [push_get_lt]) (by simp only [push_n']; omega)⟩
  have x1 : ¬ op.slot < 0 := by omega
  have x2 : ¬ b.slots ≤ op.slot := by omega
  have x3 : 0 ≤ op.slot := by omega
  have x4 : ¬ (b.inn.length : Int) ≤ op.slot := by omega
  have x5 : ¬ (b.epoch.length : Int) ≤ op.slot := by omega
  obtain ⟨s, hse⟩ : ∃ s, at_ b.inn op.slot = s := ⟨_, rfl⟩
  obtain ⟨e', hee⟩ : ∃ e', at_ b.epoch op.slot = e' := ⟨_, rfl⟩
  have her := hs.e.2 op.slot
  rw [hee] at her
  by_cases k1 : op.kind = 1
  · by_cases hs0 : s = 0
    rotate_left
    · have hT : doB b op = (b, 6, 0) := by unfold doB; rw [if_neg hr, if_pos k1, hse, if_pos hs0]
      simp (config := {contextual := true, maxSteps := 1000000}) (disch := first | exact dB | fail) [go_sem, envOf, wrap_i64, int_lt, -Int.not_le, -Int.not_lt, Bool.decide_and, Bool.decide_or, and_assoc, Bool.and_assoc, Bool.or_assoc, Prod.exists, Prod.forall, -List.map_set, set_put, ord74, x1, x2, x3, x4, x5, k1, hse, hs0]
      (repeat refine Alt.mk ?_)
      rw [hT]
      exact ⟨_, rfl, BkR.r hb' (by intro y hy; simp (disch := first | omega | (simp only [push_n', set_n']; omega)) only [push_get_lt]) (by simp only [push_n']; omega)⟩
    by_cases he0 : e' = 4095
    · have hT : doB b op = (b, 12, 0) := by unfold doB; rw [if_neg hr, if_pos k1, hse, hee, if_neg (fun h => h hs0), if_pos he0]
      simp (config := {contextual := true, maxSteps := 1000000}) (disch := first | exact dB | fail) [go_sem, envOf, wrap_i64, int_lt, -Int.not_le, -Int.not_lt, Bool.decide_and, Bool.decide_or, and_assoc, Bool.and_assoc, Bool.or_assoc, Prod.exists, Prod.forall, -List.map_set, set_put, ord74, x1, x2, x3, x4, x5, k1, hse, hs0, hee, he0]
      (repeat refine Alt.mk ?_)
      rw [hT]
      exact ⟨_, rfl, BkR.r hb' (by intro y hy; simp (disch := first | omega | (simp only [push_n', set_n']; omega)) only [push_get_lt]) (by simp only [push_n']; omega)⟩
    · have hT : doB b op = ({ b with inn := put b.inn op.slot 1, epoch := put b.epoch op.slot (e' + 1) }, 0, e' + 1) := by unfold doB; rw [if_neg hr, if_pos k1, hse, hee, if_neg (fun h => h hs0), if_neg he0]
      have g0e : (put b.epoch op.slot (e' + 1))[op.slot.toNat]? = some (e' + 1) := by unfold put; rw [List.getElem?_set_self (by omega)]
      simp (config := {contextual := true, maxSteps := 1000000}) (disch := first | exact dB | fail) [go_sem, envOf, wrap_i64, int_lt, -Int.not_le, -Int.not_lt, Bool.decide_and, Bool.decide_or, and_assoc, Bool.and_assoc, Bool.or_assoc, Prod.exists, Prod.forall, -List.map_set, set_put, ord74, x1, x2, x3, x4, x5, k1, hse, hs0, hee, he0, gi, ge, put_len', g0e]
      (repeat refine Alt.mk ?_)
      rw [hT]
      refine ⟨_, rfl, BkR.mk' n0 p o i e h0 h1 h2 h3 ⟨by omega, by simp only [push_n', set_n']; omega, (by refine ⟨?_, ?_, ?_, ?_, ?_, ?_, ?_, ?_, ?_, ?_, ?_, ?_, ?_, ?_, ?_, ?_, ?_, ?_, ?_, ?_, ?_, ?_, ?_, ?_, ?_, ?_, ?_, ?_⟩ <;> first | assumption | exact NE.sw (by assumption) | (simp only [NE]; omega)), ?_, ?_, ?_, ?_, ?_, ?_, ?_, ?_⟩ (by simp [put_len']) (by first | exact cKO | fail) (by simp only [push_n', set_n']; omega) (by intro y hy ho; obtain ⟨z1, z2, z3, z4, z5, z6, z7, z8⟩ := ho; refine ⟨?_, ?_, ?_, ?_, ?_, ?_, ?_, ?_⟩ <;> first | assumption | (simp only [NE]; omega))⟩ <;> (first | exact cGT | fail)
  by_cases hs0 : s = 0
  · have hT : doB b op = (b, 9, 0) := by unfold doB; rw [if_neg hr, if_neg k1, hse, if_pos hs0]
    simp (config := {contextual := true, maxSteps := 1000000}) (disch := first | exact dB | fail) [go_sem, envOf, wrap_i64, int_lt, -Int.not_le, -Int.not_lt, Bool.decide_and, Bool.decide_or, and_assoc, Bool.and_assoc, Bool.or_assoc, Prod.exists, Prod.forall, -List.map_set, set_put, ord74, x1, x2, x3, x4, k1, hse, hs0]
    (repeat refine Alt.mk ?_)
    rw [hT]
    exact ⟨_, rfl, BkR.r hb' (by intro y hy; simp (disch := first | omega | (simp only [push_n', set_n']; omega)) only [push_get_lt]) (by simp only [push_n']; omega)⟩
  · have hT : doB b op = ownB b op := by unfold doB; rw [if_neg hr, if_neg k1, hse, if_neg hs0]
    simp (config := {contextual := true, maxSteps := 1000000}) (disch := first | exact dB | fail) [go_sem, envOf, wrap_i64, int_lt, -Int.not_le, -Int.not_lt, Bool.decide_and, Bool.decide_or, and_assoc, Bool.and_assoc, Bool.or_assoc, Prod.exists, Prod.forall, -List.map_set, set_put, ord74, x1, x2, x3, x4, k1, hse, hs0]
    (repeat refine Alt.mk ?_)
    refine callP_use (zOwn_fn _ b n0 p o i e h0 h1 h2 h3 op (hb'.frame (by intro y hy; simp (disch := first | omega | (simp only [push_n', set_n']; omega)) only [push_get_lt]) (by simp only [push_n']; omega)) hs hbk (by omega)) ?_
    rintro v τ hnn ⟨y, rfl, hB⟩
    have hout : Out (σ.n + 1 + 1) p o i e h0 h1 h2 h3 := by constructor <;> (simp only [NE]; omega)
    have hup := fun X => hB.up (σ := σ) (j := σ.n + 1 + 1) (X := X) (by intro y hy; simp (disch := first | omega | (simp only [push_n', set_n']; omega)) only [push_get_lt]) (by simp only [push_n']; omega) (by simp only [push_n']; omega) hout
    have hB' := hB
    obtain ⟨pv, k0, k1, k2, k3, ov, iv, ev, rfl, hv2, hf2, hn2, ha2⟩ := hB
    have hgr := hf2 (σ.n + 1 + 1) (by simp only [push_n']; omega) hout
    try simp (disch := first | omega | (simp only [push_n']; omega)) only [push_get_lt] at hgr
    rw [get_push_eq _ (by simp only [push_n'])] at hgr
    obtain ⟨i1, i2, i3, i4, i5, i6, i7, i8⟩ : IsL pv ∧ IsL k0 ∧ IsL k1 ∧ IsL k2 ∧ IsL k3 ∧ IsL ov ∧ IsL iv ∧ IsL ev := ⟨hv2.p.isL, hv2.h0.isL, hv2.h1.isL, hv2.h2.isL, hv2.h3.isL, hv2.o.isL, hv2.i.isL, hv2.e.isL⟩
    simp (config := {contextual := true, maxSteps := 1000000}) (disch := first | exact dB | fail) [go_sem, envOf, wrap_i64, int_lt, -Int.not_le, -Int.not_lt, Bool.decide_and, Bool.decide_or, and_assoc, Bool.and_assoc, Bool.or_assoc, Prod.exists, Prod.forall, -List.map_set, set_put, ord74, hgr]
    rw [hT]; exact ⟨_, rfl, hup _⟩
end AH
