import Derived.Test.YtagihpbpblnnoaaGreatD49
set_option linter.all false
namespace AH
open Go Go.Proofs Ho
set_option maxRecDepth 20000
set_option maxHeartbeats 16000000
theorem zSleepy_fn (σ : AHeap) (lo : Nat) (B : Int) (j : Nat) (v : AV) (gb : Nat) (ws : List Int) (gs : List (Guest × AV × AV)) (h : WAt σ lo B j v gb ws gs) (i : Nat) (bv : AV) (bs : List Int) (p : Int) (hr : Rd σ i bv bs p) (hil : i < lo) (hp : p ≤ 999999000) (s : Int) (hs : 0 ≤ s ∧ s ≤ 100) :
    Fn Tryz.prog 162 [.ptr i 0, .agg [.sl j 0 ws.length 1, v], .int .i64 s] σ fun x τ => EvR σ i bv bs p x τ := by
  generalize hG : (fun (x : AV) (τ : AHeap) => EvR σ i bv bs p x τ) = GG
  have fin : ∀ (τ : AHeap) (k w n o a b q : Int), p ≤ q → q ≤ p + 60 → σ.n ≤ τ.n → τ.get i = some ⟨[bv, .int .i64 q], true⟩ → (∀ y, y < σ.n → NE y i → τ.get y = σ.get y) → GG (.agg [.int .i64 k, .int .i64 w, .int .i64 n, .int .i64 o, .int .i64 a, .int .i64 b]) τ := by
    intro τ k w n o a b q h1 h2 h3 h4 h5
    rw [← hG]
    exact EvR.mk hr (by omega) k w n o a b q h1 h2 h3 h4 h5
  have iv := h.isL
  have hi := hr.hi
  have hp0 := hr.hp
  have hb := hr.hb
  have lj := h.lj
  have lg := h.lg
  clear hG
  refine fn_of ord0 mixed Tryz.func162 (by kernel_rfl) rfl (by kernel_rfl) ?_
  have pk := fun (k n : Int) (hn : 1 ≤ n) => pick_rng (bs := bs) (k := k) (n := n) hn
  cases h.hv with
  | none =>
    have hs0 : (0 : Int) ≤ s := hs.1
    simp (config := {contextual := true, maxSteps := 1000000}) (disch := first | exact dB | fail) [go_sem, envOf, wrap_i64, int_lt, -Int.not_le, -Int.not_lt, Bool.decide_and, Bool.decide_or, and_assoc, Bool.and_assoc, Bool.or_assoc, Prod.exists, Prod.forall, -List.map_set, set_put, hs0]
    (repeat refine Alt.mk ?_)
    first | exact fin _ _ _ _ _ _ _ (p + 1) (by omega) (by omega) (by simp only [push_n', set_n', kill_n']; omega) (by (first | exact cGT | fail)) (by intro y y1 y2; (first | exact cGT | fail)) | exact fin _ _ _ _ _ _ _ (p + 2) (by omega) (by omega) (by simp only [push_n', set_n', kill_n']; omega) (by (first | exact cGT | fail)) (by intro y y1 y2; (first | exact cGT | fail)) | exact fin _ _ _ _ _ _ _ (p + 3) (by omega) (by omega) (by simp only [push_n', set_n', kill_n']; omega) (by (first | exact cGT | fail)) (by intro y y1 y2; (first | exact cGT | fail)) | exact fin _ _ _ _ _ _ _ (p + 4) (by omega) (by omega) (by simp only [push_n', set_n', kill_n']; omega) (by (first | exact cGT | fail)) (by intro y y1 y2; (first | exact cGT | fail)) | exact fin _ _ _ _ _ _ _ (p) (by omega) (by omega) (by simp only [push_n', set_n', kill_n']; omega) (by (first | exact cGT | fail)) (by intro y y1 y2; (first | exact cGT | fail))
  | @some gb m gs h0 h1 h2 h3 h4 =>
    by_cases hm : (m : Int) ≤ s
    · simp (config := {contextual := true, maxSteps := 1000000}) (disch := first | exact dB | fail) [go_sem, envOf, wrap_i64, int_lt, -Int.not_le, -Int.not_lt, Bool.decide_and, Bool.decide_or, and_assoc, Bool.and_assoc, Bool.or_assoc, Prod.exists, Prod.forall, -List.map_set, set_put, hm]
      (repeat refine Alt.mk ?_)
      first | exact fin _ _ _ _ _ _ _ (p + 1) (by omega) (by omega) (by simp only [push_n', set_n', kill_n']; omega) (by (first | exact cGT | fail)) (by intro y y1 y2; (first | exact cGT | fail)) | exact fin _ _ _ _ _ _ _ (p + 2) (by omega) (by omega) (by simp only [push_n', set_n', kill_n']; omega) (by (first | exact cGT | fail)) (by intro y y1 y2; (first | exact cGT | fail)) | exact fin _ _ _ _ _ _ _ (p + 3) (by omega) (by omega) (by simp only [push_n', set_n', kill_n']; omega) (by (first | exact cGT | fail)) (by intro y y1 y2; (first | exact cGT | fail)) | exact fin _ _ _ _ _ _ _ (p + 4) (by omega) (by omega) (by simp only [push_n', set_n', kill_n']; omega) (by (first | exact cGT | fail)) (by intro y y1 y2; (first | exact cGT | fail)) | exact fin _ _ _ _ _ _ _ (p) (by omega) (by omega) (by simp only [push_n', set_n', kill_n']; omega) (by (first | exact cGT | fail)) (by intro y y1 y2; (first | exact cGT | fail))
    · obtain ⟨sn, rfl⟩ : ∃ sn : Nat, s = sn := ⟨s.toNat, by omega⟩
      have hsm : sn < m := by omega
      have hm6 : (m : Int) ≤ 6 := by have := h.m6; omega
      have hsm' : ¬ m ≤ sn := by omega
      obtain ⟨⟨g, sv, pv⟩, hx⟩ : ∃ x, gs[sn]? = some x := ⟨gs[sn]'(by omega), by simp [h0, hsm]⟩
      have hsub := gCells_sub hx
      have hlen : sn * 26 + 26 ≤ (gCells gs).length := by rw [gCells_len]; omega
      have hGA := h.G _ (List.mem_of_getElem? hx)
      have i1 := hGA.s.isL
      have i2 := hGA.p.isL
      obtain ⟨K, hK⟩ : ∃ K, pickV bs p 8 = K := ⟨_, rfl⟩
      have hKr := pk p 8 (by omega)
      rw [hK] at hKr
      by_cases k0 : K = 0
      · simp (config := {contextual := true, maxSteps := 1000000}) (disch := first | exact dB | fail) [go_sem, envOf, wrap_i64, int_lt, -Int.not_le, -Int.not_lt, Bool.decide_and, Bool.decide_or, and_assoc, Bool.and_assoc, Bool.or_assoc, Prod.exists, Prod.forall, -List.map_set, set_put, hm, hsm, hsm', h4, hsub, hlen, hK, k0]
        (repeat refine Alt.mk ?_)
        first | exact fin _ _ _ _ _ _ _ (p + 1) (by omega) (by omega) (by simp only [push_n', set_n', kill_n']; omega) (by (first | exact cGT | fail)) (by intro y y1 y2; (first | exact cGT | fail)) | exact fin _ _ _ _ _ _ _ (p + 2) (by omega) (by omega) (by simp only [push_n', set_n', kill_n']; omega) (by (first | exact cGT | fail)) (by intro y y1 y2; (first | exact cGT | fail)) | exact fin _ _ _ _ _ _ _ (p + 3) (by omega) (by omega) (by simp only [push_n', set_n', kill_n']; omega) (by (first | exact cGT | fail)) (by intro y y1 y2; (first | exact cGT | fail)) | exact fin _ _ _ _ _ _ _ (p + 4) (by omega) (by omega) (by simp only [push_n', set_n', kill_n']; omega) (by (first | exact cGT | fail)) (by intro y y1 y2; (first | exact cGT | fail)) | exact fin _ _ _ _ _ _ _ (p) (by omega) (by omega) (by simp only [push_n', set_n', kill_n']; omega) (by (first | exact cGT | fail)) (by intro y y1 y2; (first | exact cGT | fail))
      by_cases k1 : K = 1
      · simp (config := {contextual := true, maxSteps := 1000000}) (disch := first | exact dB | fail) [go_sem, envOf, wrap_i64, int_lt, -Int.not_le, -Int.not_lt, Bool.decide_and, Bool.decide_or, and_assoc, Bool.and_assoc, Bool.or_assoc, Prod.exists, Prod.forall, -List.map_set, set_put, hm, hsm, hsm', h4, hsub, hlen, hK, k0, k1]
        (repeat refine Alt.mk ?_)
        first | exact fin _ _ _ _ _ _ _ (p + 1) (by omega) (by omega) (by simp only [push_n', set_n', kill_n']; omega) (by (first | exact cGT | fail)) (by intro y y1 y2; (first | exact cGT | fail)) | exact fin _ _ _ _ _ _ _ (p + 2) (by omega) (by omega) (by simp only [push_n', set_n', kill_n']; omega) (by (first | exact cGT | fail)) (by intro y y1 y2; (first | exact cGT | fail)) | exact fin _ _ _ _ _ _ _ (p + 3) (by omega) (by omega) (by simp only [push_n', set_n', kill_n']; omega) (by (first | exact cGT | fail)) (by intro y y1 y2; (first | exact cGT | fail)) | exact fin _ _ _ _ _ _ _ (p + 4) (by omega) (by omega) (by simp only [push_n', set_n', kill_n']; omega) (by (first | exact cGT | fail)) (by intro y y1 y2; (first | exact cGT | fail)) | exact fin _ _ _ _ _ _ _ (p) (by omega) (by omega) (by simp only [push_n', set_n', kill_n']; omega) (by (first | exact cGT | fail)) (by intro y y1 y2; (first | exact cGT | fail))
      obtain ⟨R, hR⟩ : ∃ R : Nat, pickV bs (p + 1) m = R := ⟨(pickV bs (p + 1) m).toNat, by have := pk (p + 1) m (by omega); omega⟩
      have hRm : R < m := by have := pk (p + 1) m (by omega); omega
      by_cases k2 : (K = 2 ∨ K = 3) ∧ g.busy = true
      · obtain ⟨k2, k3⟩ := k2
        rcases k2 with k2 | k2
        · simp (config := {contextual := true, maxSteps := 1000000}) (disch := first | exact dB | fail) [go_sem, envOf, wrap_i64, int_lt, -Int.not_le, -Int.not_lt, Bool.decide_and, Bool.decide_or, and_assoc, Bool.and_assoc, Bool.or_assoc, Prod.exists, Prod.forall, -List.map_set, set_put, hm, hsm, hsm', h4, hsub, hlen, hK, k0, k1, k2, k3]
          repeat' (first | refine Alt.mk ?_ | refine And.intro ?_ ?_ | intro _)
          all_goals first | exact fin _ _ _ _ _ _ _ (p + 1) (by omega) (by omega) (by simp only [push_n', set_n', kill_n']; omega) (by (first | exact cGT | fail)) (by intro y y1 y2; (first | exact cGT | fail)) | exact fin _ _ _ _ _ _ _ (p + 2) (by omega) (by omega) (by simp only [push_n', set_n', kill_n']; omega) (by (first | exact cGT | fail)) (by intro y y1 y2; (first | exact cGT | fail)) | exact fin _ _ _ _ _ _ _ (p + 3) (by omega) (by omega) (by simp only [push_n', set_n', kill_n']; omega) (by (first | exact cGT | fail)) (by intro y y1 y2; (first | exact cGT | fail)) | exact fin _ _ _ _ _ _ _ (p + 4) (by omega) (by omega) (by simp only [push_n', set_n', kill_n']; omega) (by (first | exact cGT | fail)) (by intro y y1 y2; (first | exact cGT | fail)) | exact fin _ _ _ _ _ _ _ (p) (by omega) (by omega) (by simp only [push_n', set_n', kill_n']; omega) (by (first | exact cGT | fail)) (by intro y y1 y2; (first | exact cGT | fail))
        · simp (config := {contextual := true, maxSteps := 1000000}) (disch := first | exact dB | fail) [go_sem, envOf, wrap_i64, int_lt, -Int.not_le, -Int.not_lt, Bool.decide_and, Bool.decide_or, and_assoc, Bool.and_assoc, Bool.or_assoc, Prod.exists, Prod.forall, -List.map_set, set_put, hm, hsm, hsm', h4, hsub, hlen, hK, k0, k1, k2, k3]
          repeat' (first | refine Alt.mk ?_ | refine And.intro ?_ ?_ | intro _)
          all_goals first | exact fin _ _ _ _ _ _ _ (p + 1) (by omega) (by omega) (by simp only [push_n', set_n', kill_n']; omega) (by (first | exact cGT | fail)) (by intro y y1 y2; (first | exact cGT | fail)) | exact fin _ _ _ _ _ _ _ (p + 2) (by omega) (by omega) (by simp only [push_n', set_n', kill_n']; omega) (by (first | exact cGT | fail)) (by intro y y1 y2; (first | exact cGT | fail)) | exact fin _ _ _ _ _ _ _ (p + 3) (by omega) (by omega) (by simp only [push_n', set_n', kill_n']; omega) (by (first | exact cGT | fail)) (by intro y y1 y2; (first | exact cGT | fail)) | exact fin _ _ _ _ _ _ _ (p + 4) (by omega) (by omega) (by simp only [push_n', set_n', kill_n']; omega) (by (first | exact cGT | fail)) (by intro y y1 y2; (first | exact cGT | fail)) | exact fin _ _ _ _ _ _ _ (p) (by omega) (by omega) (by simp only [push_n', set_n', kill_n']; omega) (by (first | exact cGT | fail)) (by intro y y1 y2; (first | exact cGT | fail))
      have hRm' : ¬ m ≤ R := by omega
      obtain ⟨⟨g2, sv2, pv2⟩, hx2⟩ : ∃ x, gs[R]? = some x := ⟨gs[R]'(by omega), by simp [h0, hRm]⟩
      have hsub2 := gCells_sub hx2
      have hlen2 : R * 26 + 26 ≤ (gCells gs).length := by rw [gCells_len]; omega
      have hGA2 := h.G _ (List.mem_of_getElem? hx2)
      have i3 := hGA2.s.isL
      have i4 := hGA2.p.isL
      obtain ⟨R3, hR3⟩ : ∃ R3 : Nat, ((R : Int) + 1) % m = R3 := ⟨(((R : Int) + 1) % m).toNat, by have := Int.emod_nonneg ((R : Int) + 1) (show (m : Int) ≠ 0 by omega); omega⟩
      have hR3t : ((R : Int) + 1).tmod m = R3 := by rw [Int.tmod_eq_emod_of_nonneg (by omega)]; exact hR3
      have hR3m : R3 < m := by have := Int.emod_lt_of_pos ((R : Int) + 1) (show (0 : Int) < m by omega); omega
      have hR3m' : ¬ m ≤ R3 := by omega
      obtain ⟨⟨g3, sv3, pv3⟩, hx3⟩ : ∃ x, gs[R3]? = some x := ⟨gs[R3]'(by omega), by simp [h0, hR3m]⟩
      have hsub3 := gCells_sub hx3
      have hlen3 : R3 * 26 + 26 ≤ (gCells gs).length := by rw [gCells_len]; omega
      have hGA3 := h.G _ (List.mem_of_getElem? hx3)
      have i5 := hGA3.s.isL
      have i6 := hGA3.p.isL
      have k4 : (K = 2 ∧ g.busy = false) ∨ (K = 3 ∧ g.busy = false) ∨ (¬ K = 2 ∧ ¬ K = 3) := by
        cases hq : g.busy with
        | false =>
          by_cases c2 : K = 2
          · exact .inl ⟨c2, rfl⟩
          · by_cases c3 : K = 3
            · exact .inr (.inl ⟨c3, rfl⟩)
            · exact .inr (.inr ⟨c2, c3⟩)
        | true => exact .inr (.inr ⟨fun c => k2 ⟨.inl c, hq⟩, fun c => k2 ⟨.inr c, hq⟩⟩)
      clear k2 hGA hGA2 hGA3 hx hx2 hx3
      rcases k4 with ⟨k5, k8⟩ | ⟨k5, k8⟩ | ⟨k5, k6⟩
      · by_cases k7 : R = sn
        · subst k7
          simp (config := {contextual := true, maxSteps := 1000000}) (disch := first | exact dB | fail) [go_sem, envOf, wrap_i64, int_lt, -Int.not_le, -Int.not_lt, Bool.decide_and, Bool.decide_or, and_assoc, Bool.and_assoc, Bool.or_assoc, Prod.exists, Prod.forall, -List.map_set, set_put, hm, hsm, hsm', h4, hsub, hlen, hK, k0, k1, hR, k5, k8]
          repeat' (first | refine Alt.mk ?_ | refine And.intro ?_ ?_ | intro _)
          all_goals first | exact fin _ _ _ _ _ _ _ (p + 2) (by omega) (by omega) (by simp only [push_n', set_n', kill_n']; omega) (by (first | exact cGT | fail)) (by intro y y1 y2; (first | exact cGT | fail)) | exact fin _ _ _ _ _ _ _ (p + 3) (by omega) (by omega) (by simp only [push_n', set_n', kill_n']; omega) (by (first | exact cGT | fail)) (by intro y y1 y2; (first | exact cGT | fail)) | exact fin _ _ _ _ _ _ _ (p + 4) (by omega) (by omega) (by simp only [push_n', set_n', kill_n']; omega) (by (first | exact cGT | fail)) (by intro y y1 y2; (first | exact cGT | fail)) | exact fin _ _ _ _ _ _ _ (p + 1) (by omega) (by omega) (by simp only [push_n', set_n', kill_n']; omega) (by (first | exact cGT | fail)) (by intro y y1 y2; (first | exact cGT | fail)) | exact fin _ _ _ _ _ _ _ (p) (by omega) (by omega) (by simp only [push_n', set_n', kill_n']; omega) (by (first | exact cGT | fail)) (by intro y y1 y2; (first | exact cGT | fail))
        · have k7' : ¬ ((R : Int) = (sn : Int)) := by omega
          by_cases k9 : g2.slot = g.slot
          · simp (config := {contextual := true, maxSteps := 1000000}) (disch := first | exact dB | fail) [go_sem, envOf, wrap_i64, int_lt, -Int.not_le, -Int.not_lt, Bool.decide_and, Bool.decide_or, and_assoc, Bool.and_assoc, Bool.or_assoc, Prod.exists, Prod.forall, -List.map_set, set_put, hm, hsm, hsm', h4, hsub, hlen, hK, k0, k1, hR, k5, k8, k7, k7', hsub2, hlen2, hRm, hRm', k9]
            repeat' (first | refine Alt.mk ?_ | refine And.intro ?_ ?_ | intro _)
            all_goals first | exact fin _ _ _ _ _ _ _ (p + 2) (by omega) (by omega) (by simp only [push_n', set_n', kill_n']; omega) (by (first | exact cGT | fail)) (by intro y y1 y2; (first | exact cGT | fail)) | exact fin _ _ _ _ _ _ _ (p + 3) (by omega) (by omega) (by simp only [push_n', set_n', kill_n']; omega) (by (first | exact cGT | fail)) (by intro y y1 y2; (first | exact cGT | fail)) | exact fin _ _ _ _ _ _ _ (p + 4) (by omega) (by omega) (by simp only [push_n', set_n', kill_n']; omega) (by (first | exact cGT | fail)) (by intro y y1 y2; (first | exact cGT | fail)) | exact fin _ _ _ _ _ _ _ (p + 1) (by omega) (by omega) (by simp only [push_n', set_n', kill_n']; omega) (by (first | exact cGT | fail)) (by intro y y1 y2; (first | exact cGT | fail)) | exact fin _ _ _ _ _ _ _ (p) (by omega) (by omega) (by simp only [push_n', set_n', kill_n']; omega) (by (first | exact cGT | fail)) (by intro y y1 y2; (first | exact cGT | fail))
          · simp (config := {contextual := true, maxSteps := 1000000}) (disch := first | exact dB | fail) [go_sem, envOf, wrap_i64, int_lt, -Int.not_le, -Int.not_lt, Bool.decide_and, Bool.decide_or, and_assoc, Bool.and_assoc, Bool.or_assoc, Prod.exists, Prod.forall, -List.map_set, set_put, hm, hsm, hsm', h4, hsub, hlen, hK, k0, k1, hR, k5, k8, k7, k7', hsub2, hlen2, hRm, hRm', k9]
            repeat' (first | refine Alt.mk ?_ | refine And.intro ?_ ?_ | intro _)
            all_goals first | exact fin _ _ _ _ _ _ _ (p + 2) (by omega) (by omega) (by simp only [push_n', set_n', kill_n']; omega) (by (first | exact cGT | fail)) (by intro y y1 y2; (first | exact cGT | fail)) | exact fin _ _ _ _ _ _ _ (p + 3) (by omega) (by omega) (by simp only [push_n', set_n', kill_n']; omega) (by (first | exact cGT | fail)) (by intro y y1 y2; (first | exact cGT | fail)) | exact fin _ _ _ _ _ _ _ (p + 4) (by omega) (by omega) (by simp only [push_n', set_n', kill_n']; omega) (by (first | exact cGT | fail)) (by intro y y1 y2; (first | exact cGT | fail)) | exact fin _ _ _ _ _ _ _ (p + 1) (by omega) (by omega) (by simp only [push_n', set_n', kill_n']; omega) (by (first | exact cGT | fail)) (by intro y y1 y2; (first | exact cGT | fail)) | exact fin _ _ _ _ _ _ _ (p) (by omega) (by omega) (by simp only [push_n', set_n', kill_n']; omega) (by (first | exact cGT | fail)) (by intro y y1 y2; (first | exact cGT | fail))
      · by_cases k7 : R = sn
        · subst k7
          simp (config := {contextual := true, maxSteps := 1000000}) (disch := first | exact dB | fail) [go_sem, envOf, wrap_i64, int_lt, -Int.not_le, -Int.not_lt, Bool.decide_and, Bool.decide_or, and_assoc, Bool.and_assoc, Bool.or_assoc, Prod.exists, Prod.forall, -List.map_set, set_put, hm, hsm, hsm', h4, hsub, hlen, hK, k0, k1, hR, k5, k8]
          repeat' (first | refine Alt.mk ?_ | refine And.intro ?_ ?_ | intro _)
          all_goals first | exact fin _ _ _ _ _ _ _ (p + 2) (by omega) (by omega) (by simp only [push_n', set_n', kill_n']; omega) (by (first | exact cGT | fail)) (by intro y y1 y2; (first | exact cGT | fail)) | exact fin _ _ _ _ _ _ _ (p + 3) (by omega) (by omega) (by simp only [push_n', set_n', kill_n']; omega) (by (first | exact cGT | fail)) (by intro y y1 y2; (first | exact cGT | fail)) | exact fin _ _ _ _ _ _ _ (p + 4) (by omega) (by omega) (by simp only [push_n', set_n', kill_n']; omega) (by (first | exact cGT | fail)) (by intro y y1 y2; (first | exact cGT | fail)) | exact fin _ _ _ _ _ _ _ (p + 1) (by omega) (by omega) (by simp only [push_n', set_n', kill_n']; omega) (by (first | exact cGT | fail)) (by intro y y1 y2; (first | exact cGT | fail)) | exact fin _ _ _ _ _ _ _ (p) (by omega) (by omega) (by simp only [push_n', set_n', kill_n']; omega) (by (first | exact cGT | fail)) (by intro y y1 y2; (first | exact cGT | fail))
        · have k7' : ¬ ((R : Int) = (sn : Int)) := by omega
          by_cases k9 : g2.slot = g.slot
          · simp (config := {contextual := true, maxSteps := 1000000}) (disch := first | exact dB | fail) [go_sem, envOf, wrap_i64, int_lt, -Int.not_le, -Int.not_lt, Bool.decide_and, Bool.decide_or, and_assoc, Bool.and_assoc, Bool.or_assoc, Prod.exists, Prod.forall, -List.map_set, set_put, hm, hsm, hsm', h4, hsub, hlen, hK, k0, k1, hR, k5, k8, k7, k7', hsub2, hlen2, hRm, hRm', k9]
            repeat' (first | refine Alt.mk ?_ | refine And.intro ?_ ?_ | intro _)
            all_goals first | exact fin _ _ _ _ _ _ _ (p + 2) (by omega) (by omega) (by simp only [push_n', set_n', kill_n']; omega) (by (first | exact cGT | fail)) (by intro y y1 y2; (first | exact cGT | fail)) | exact fin _ _ _ _ _ _ _ (p + 3) (by omega) (by omega) (by simp only [push_n', set_n', kill_n']; omega) (by (first | exact cGT | fail)) (by intro y y1 y2; (first | exact cGT | fail)) | exact fin _ _ _ _ _ _ _ (p + 4) (by omega) (by omega) (by simp only [push_n', set_n', kill_n']; omega) (by (first | exact cGT | fail)) (by intro y y1 y2; (first | exact cGT | fail)) | exact fin _ _ _ _ _ _ _ (p + 1) (by omega) (by omega) (by simp only [push_n', set_n', kill_n']; omega) (by (first | exact cGT | fail)) (by intro y y1 y2; (first | exact cGT | fail)) | exact fin _ _ _ _ _ _ _ (p) (by omega) (by omega) (by simp only [push_n', set_n', kill_n']; omega) (by (first | exact cGT | fail)) (by intro y y1 y2; (first | exact cGT | fail))
          · simp (config := {contextual := true, maxSteps := 1000000}) (disch := first | exact dB | fail) [go_sem, envOf, wrap_i64, int_lt, -Int.not_le, -Int.not_lt, Bool.decide_and, Bool.decide_or, and_assoc, Bool.and_assoc, Bool.or_assoc, Prod.exists, Prod.forall, -List.map_set, set_put, hm, hsm, hsm', h4, hsub, hlen, hK, k0, k1, hR, k5, k8, k7, k7', hsub2, hlen2, hRm, hRm', k9]
            repeat' (first | refine Alt.mk ?_ | refine And.intro ?_ ?_ | intro _)
            all_goals first | exact fin _ _ _ _ _ _ _ (p + 2) (by omega) (by omega) (by simp only [push_n', set_n', kill_n']; omega) (by (first | exact cGT | fail)) (by intro y y1 y2; (first | exact cGT | fail)) | exact fin _ _ _ _ _ _ _ (p + 3) (by omega) (by omega) (by simp only [push_n', set_n', kill_n']; omega) (by (first | exact cGT | fail)) (by intro y y1 y2; (first | exact cGT | fail)) | exact fin _ _ _ _ _ _ _ (p + 4) (by omega) (by omega) (by simp only [push_n', set_n', kill_n']; omega) (by (first | exact cGT | fail)) (by intro y y1 y2; (first | exact cGT | fail)) | exact fin _ _ _ _ _ _ _ (p + 1) (by omega) (by omega) (by simp only [push_n', set_n', kill_n']; omega) (by (first | exact cGT | fail)) (by intro y y1 y2; (first | exact cGT | fail)) | exact fin _ _ _ _ _ _ _ (p) (by omega) (by omega) (by simp only [push_n', set_n', kill_n']; omega) (by (first | exact cGT | fail)) (by intro y y1 y2; (first | exact cGT | fail))
      · by_cases k7 : R = sn
        · subst k7
          cases k8 : g.busy with
          | false =>
            simp (config := {contextual := true, maxSteps := 1000000}) (disch := first | exact dB | fail) [go_sem, envOf, wrap_i64, int_lt, -Int.not_le, -Int.not_lt, Bool.decide_and, Bool.decide_or, and_assoc, Bool.and_assoc, Bool.or_assoc, Prod.exists, Prod.forall, -List.map_set, set_put, hm, hsm, hsm', h4, hsub, hlen, hK, k0, k1, hR, k5, k6, k8]
            repeat' (first | refine Alt.mk ?_ | refine And.intro ?_ ?_ | intro _)
            all_goals first | exact fin _ _ _ _ _ _ _ (p + 2) (by omega) (by omega) (by simp only [push_n', set_n', kill_n']; omega) (by (first | exact cGT | fail)) (by intro y y1 y2; (first | exact cGT | fail)) | exact fin _ _ _ _ _ _ _ (p + 3) (by omega) (by omega) (by simp only [push_n', set_n', kill_n']; omega) (by (first | exact cGT | fail)) (by intro y y1 y2; (first | exact cGT | fail)) | exact fin _ _ _ _ _ _ _ (p + 4) (by omega) (by omega) (by simp only [push_n', set_n', kill_n']; omega) (by (first | exact cGT | fail)) (by intro y y1 y2; (first | exact cGT | fail)) | exact fin _ _ _ _ _ _ _ (p + 1) (by omega) (by omega) (by simp only [push_n', set_n', kill_n']; omega) (by (first | exact cGT | fail)) (by intro y y1 y2; (first | exact cGT | fail)) | exact fin _ _ _ _ _ _ _ (p) (by omega) (by omega) (by simp only [push_n', set_n', kill_n']; omega) (by (first | exact cGT | fail)) (by intro y y1 y2; (first | exact cGT | fail))
          | true =>
            by_cases k9 : g3.slot = g.slot
            · simp (config := {contextual := true, maxSteps := 1000000}) (disch := first | exact dB | fail) [go_sem, envOf, wrap_i64, int_lt, -Int.not_le, -Int.not_lt, Bool.decide_and, Bool.decide_or, and_assoc, Bool.and_assoc, Bool.or_assoc, Prod.exists, Prod.forall, -List.map_set, set_put, hm, hsm, hsm', h4, hsub, hlen, hK, k0, k1, hR, k5, k6, k8, hR3t, hsub3, hlen3, hR3m, hR3m', k9]
              repeat' (first | refine Alt.mk ?_ | refine And.intro ?_ ?_ | intro _)
              all_goals first | exact fin _ _ _ _ _ _ _ (p + 2) (by omega) (by omega) (by simp only [push_n', set_n', kill_n']; omega) (by (first | exact cGT | fail)) (by intro y y1 y2; (first | exact cGT | fail)) | exact fin _ _ _ _ _ _ _ (p + 3) (by omega) (by omega) (by simp only [push_n', set_n', kill_n']; omega) (by (first | exact cGT | fail)) (by intro y y1 y2; (first | exact cGT | fail)) | exact fin _ _ _ _ _ _ _ (p + 4) (by omega) (by omega) (by simp only [push_n', set_n', kill_n']; omega) (by (first | exact cGT | fail)) (by intro y y1 y2; (first | exact cGT | fail)) | exact fin _ _ _ _ _ _ _ (p + 1) (by omega) (by omega) (by simp only [push_n', set_n', kill_n']; omega) (by (first | exact cGT | fail)) (by intro y y1 y2; (first | exact cGT | fail)) | exact fin _ _ _ _ _ _ _ (p) (by omega) (by omega) (by simp only [push_n', set_n', kill_n']; omega) (by (first | exact cGT | fail)) (by intro y y1 y2; (first | exact cGT | fail))
            · simp (config := {contextual := true, maxSteps := 1000000}) (disch := first | exact dB | fail) [go_sem, envOf, wrap_i64, int_lt, -Int.not_le, -Int.not_lt, Bool.decide_and, Bool.decide_or, and_assoc, Bool.and_assoc, Bool.or_assoc, Prod.exists, Prod.forall, -List.map_set, set_put, hm, hsm, hsm', h4, hsub, hlen, hK, k0, k1, hR, k5, k6, k8, hR3t, hsub3, hlen3, hR3m, hR3m', k9]
              repeat' (first | refine Alt.mk ?_ | refine And.intro ?_ ?_ | intro _)
              all_goals first | exact fin _ _ _ _ _ _ _ (p + 2) (by omega) (by omega) (by simp only [push_n', set_n', kill_n']; omega) (by (first | exact cGT | fail)) (by intro y y1 y2; (first | exact cGT | fail)) | exact fin _ _ _ _ _ _ _ (p + 3) (by omega) (by omega) (by simp only [push_n', set_n', kill_n']; omega) (by (first | exact cGT | fail)) (by intro y y1 y2; (first | exact cGT | fail)) | exact fin _ _ _ _ _ _ _ (p + 4) (by omega) (by omega) (by simp only [push_n', set_n', kill_n']; omega) (by (first | exact cGT | fail)) (by intro y y1 y2; (first | exact cGT | fail)) | exact fin _ _ _ _ _ _ _ (p + 1) (by omega) (by omega) (by simp only [push_n', set_n', kill_n']; omega) (by (first | exact cGT | fail)) (by intro y y1 y2; (first | exact cGT | fail)) | exact fin _ _ _ _ _ _ _ (p) (by omega) (by omega) (by simp only [push_n', set_n', kill_n']; omega) (by (first | exact cGT | fail)) (by intro y y1 y2; (first | exact cGT | fail))
        · have k7' : ¬ ((R : Int) = (sn : Int)) := by omega
          by_cases k9 : g2.slot = g.slot
          · simp (config := {contextual := true, maxSteps := 1000000}) (disch := first | exact dB | fail) [go_sem, envOf, wrap_i64, int_lt, -Int.not_le, -Int.not_lt, Bool.decide_and, Bool.decide_or, and_assoc, Bool.and_assoc, Bool.or_assoc, Prod.exists, Prod.forall, -List.map_set, set_put, hm, hsm, hsm', h4, hsub, hlen, hK, k0, k1, hR, k5, k6, k7, k7', hsub2, hlen2, hRm, hRm', k9]
            repeat' (first | refine Alt.mk ?_ | refine And.intro ?_ ?_ | intro _)
            all_goals first | exact fin _ _ _ _ _ _ _ (p + 2) (by omega) (by omega) (by simp only [push_n', set_n', kill_n']; omega) (by (first | exact cGT | fail)) (by intro y y1 y2; (first | exact cGT | fail)) | exact fin _ _ _ _ _ _ _ (p + 3) (by omega) (by omega) (by simp only [push_n', set_n', kill_n']; omega) (by (first | exact cGT | fail)) (by intro y y1 y2; (first | exact cGT | fail)) | exact fin _ _ _ _ _ _ _ (p + 4) (by omega) (by omega) (by simp only [push_n', set_n', kill_n']; omega) (by (first | exact cGT | fail)) (by intro y y1 y2; (first | exact cGT | fail)) | exact fin _ _ _ _ _ _ _ (p + 1) (by omega) (by omega) (by simp only [push_n', set_n', kill_n']; omega) (by (first | exact cGT | fail)) (by intro y y1 y2; (first | exact cGT | fail)) | exact fin _ _ _ _ _ _ _ (p) (by omega) (by omega) (by simp only [push_n', set_n', kill_n']; omega) (by (first | exact cGT | fail)) (by intro y y1 y2; (first | exact cGT | fail))
          · simp (config := {contextual := true, maxSteps := 1000000}) (disch := first | exact dB | fail) [go_sem, envOf, wrap_i64, int_lt, -Int.not_le, -Int.not_lt, Bool.decide_and, Bool.decide_or, and_assoc, Bool.and_assoc, Bool.or_assoc, Prod.exists, Prod.forall, -List.map_set, set_put, hm, hsm, hsm', h4, hsub, hlen, hK, k0, k1, hR, k5, k6, k7, k7', hsub2, hlen2, hRm, hRm', k9]
            repeat' (first | refine Alt.mk ?_ | refine And.intro ?_ ?_ | intro _)
            all_goals first | exact fin _ _ _ _ _ _ _ (p + 2) (by omega) (by omega) (by simp only [push_n', set_n', kill_n']; omega) (by (first | exact cGT | fail)) (by intro y y1 y2; (first | exact cGT | fail)) | exact fin _ _ _ _ _ _ _ (p + 3) (by omega) (by omega) (by simp only [push_n', set_n', kill_n']; omega) (by (first | exact cGT | fail)) (by intro y y1 y2; (first | exact cGT | fail)) | exact fin _ _ _ _ _ _ _ (p + 4) (by omega) (by omega) (by simp only [push_n', set_n', kill_n']; omega) (by (first | exact cGT | fail)) (by intro y y1 y2; (first | exact cGT | fail)) | exact fin _ _ _ _ _ _ _ (p + 1) (by omega) (by omega) (by simp only [push_n', set_n', kill_n']; omega) (by (first | exact cGT | fail)) (by intro y y1 y2; (first | exact cGT | fail)) | exact fin _ _ _ _ _ _ _ (p) (by omega) (by omega) (by simp only [push_n', set_n', kill_n']; omega) (by (first | exact cGT | fail)) (by intro y y1 y2; (first | exact cGT | fail))
end AH
