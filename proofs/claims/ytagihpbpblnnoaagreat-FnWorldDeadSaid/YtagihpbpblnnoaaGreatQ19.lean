import Derived.Test.YtagihpbpblnnoaaGreatQ15
set_option linter.all false
namespace AH
open Go Go.Proofs Ho
set_option maxRecDepth 20000
set_option maxHeartbeats 4000000
theorem pload_isW {ws : List Int} (h : ∀ w ∈ ws, isW w) (a : Int) : isW (pload ws a) := by
  unfold pload
  split
  · unfold isW; omega
  · exact at_isW h a
theorem zLVal_fn (σ : AHeap) (v : AV) (ws : List Int) (a : Int) (hv : LsV .u64 σ v ws) (hW : ∀ w ∈ ws, isW w) : Fn Tryz.prog 264 [v, .int .i64 a] σ fun x τ => x = .int .i64 (lval ws a) ∧ τ = σ := by
  refine fn_pure ord0 mixed Tryz.func264 (by kernel_rfl) rfl (by kernel_rfl) (by rfl) ?_
  have h1 := pload_isW hW a
  simp (config := {contextual := true, maxSteps := 1000000}) (disch := first | exact dA | fail) [go_sem, envOf, wrap_i64, int_lt, -Int.not_le, -Int.not_lt, Bool.decide_and, Bool.decide_or, and_assoc, Bool.and_assoc, Bool.or_assoc, Prod.exists, Prod.forall, lval]
@[go_sem] theorem zLVal_s (σ : AHeap) (v : AV) (ws : List Int) (a : Int) (hv : LsV .u64 σ v ws) (hW : ∀ w ∈ ws, isW w) (kk_ : AV → AHeap → Prop) : @callP Tryz.prog (.fn 264 [] []) [v, .int .i64 a] σ ⟨kk_⟩ = @Alt (kk_ (.int .i64 (lval ws a)) σ) ⟨@callP Tryz.prog (.fn 264 [] []) [v, .int .i64 a] σ ⟨kk_⟩⟩ := callP_alt (zLVal_fn σ v ws a hv hW)
theorem zCheck_fn (σ : AHeap) (v : AV) (ws : List Int) (hv : LsV .u64 σ v ws) (hW : ∀ w ∈ ws, isW w) (hl : (ws.length : Int) ≤ 1000000) : Fn Tryz.prog 79 [v] σ fun x τ => x = .tup [cV (check ws).1.slots (check ws).1.pages (check ws).1.lease, .bool (check ws).2] ∧ τ = σ := by
  refine fn_pure ord79 mixed Tryz.func79 (by kernel_rfl) rfl (by kernel_rfl) (by rfl) ?_
  have h0 := at_isW hW 0
  have hc := cval_range (w := at_ ws 0)
  have hn : ws = [] ↔ (ws.length : Int) = 0 := by cases ws <;> simp <;> omega
  by_cases hz : ws = []
  · subst hz
    simp (config := {contextual := true, maxSteps := 1000000}) (disch := first | exact dA | fail) [go_sem, envOf, wrap_i64, int_lt, -Int.not_le, -Int.not_lt, Bool.decide_and, Bool.decide_or, and_assoc, Bool.and_assoc, Bool.or_assoc, Prod.exists, Prod.forall, ord79, check, whole]
  have hz' : ¬ (ws.length : Int) = 0 := fun h => hz (hn.2 h)
  obtain ⟨vv, hvv⟩ : ∃ vv, cval (at_ ws 0) = vv := ⟨_, rfl⟩
  rw [hvv] at hc
  simp (config := {contextual := true, maxSteps := 1000000}) (disch := first | exact dA | fail) [go_sem, envOf, wrap_i64, int_lt, -Int.not_le, -Int.not_lt, Bool.decide_and, Bool.decide_or, and_assoc, Bool.and_assoc, Bool.or_assoc, Prod.exists, Prod.forall, ord79, hz, hz', hvv, Int.tdiv_eq_ediv_of_nonneg, Int.tmod_eq_emod_of_nonneg]
  have hck : check ws = if Cfg.ok ⟨vv % 8, vv / 8 % 8, vv / 64⟩ ∧ at_ ws 0 = magic ⟨vv % 8, vv / 8 % 8, vv / 64⟩ ∧ (ws.length : Int) = Cfg.size ⟨vv % 8, vv / 8 % 8, vv / 64⟩ then (⟨vv % 8, vv / 8 % 8, vv / 64⟩, true) else (⟨0, 0, 0⟩, false) := by
    unfold check whole
    rw [if_neg hz]
    simp only [hvv]
  refine Alt.mk (Alt.mk (Alt.mk (Alt.mk ⟨fun h => ?_, fun a1 a2 a3 => ?_⟩)))
  · rw [hck, if_neg (by rintro ⟨b1, b2, b3⟩; rcases h with h | h | h; exact h b1; exact h b2; exact h b3)]; exact ⟨rfl, rfl, rfl, rfl⟩
  · rw [hck, if_pos ⟨a1, a2, a3⟩]; exact ⟨rfl, rfl, rfl, rfl⟩
@[go_sem] theorem zCheck_s (σ : AHeap) (v : AV) (ws : List Int) (hv : LsV .u64 σ v ws) (hW : ∀ w ∈ ws, isW w) (hl : (ws.length : Int) ≤ 1000000) (kk_ : AV → AHeap → Prop) : @callP Tryz.prog (.fn 79 [] []) [v] σ ⟨kk_⟩ = @Alt (kk_ (.tup [cV (check ws).1.slots (check ws).1.pages (check ws).1.lease, .bool (check ws).2]) σ) ⟨@callP Tryz.prog (.fn 79 [] []) [v] σ ⟨kk_⟩⟩ := callP_alt (zCheck_fn σ v ws hv hW hl)
theorem zWhole_fn (σ : AHeap) (v : AV) (ws : List Int) (hv : LsV .u64 σ v ws) (hW : ∀ w ∈ ws, isW w) (hl : (ws.length : Int) ≤ 1000000) : Fn Tryz.prog 175 [v] σ fun x τ => x = .tup [cV (wholeH ws).1.slots (wholeH ws).1.pages (wholeH ws).1.lease, .bool (wholeH ws).2] ∧ τ = σ := by
  refine fn_pure ord175 mixed Tryz.func175 (by kernel_rfl) rfl (by kernel_rfl) (by rfl) ?_
  have h0 := at_isW hW 0
  have hc := cval_range (w := at_ ws 0)
  have hn : ws = [] ↔ (ws.length : Int) = 0 := by cases ws <;> simp <;> omega
  by_cases hz : ws = []
  · subst hz
    simp (config := {contextual := true, maxSteps := 1000000}) (disch := first | exact dA | fail) [go_sem, envOf, wrap_i64, int_lt, -Int.not_le, -Int.not_lt, Bool.decide_and, Bool.decide_or, and_assoc, Bool.and_assoc, Bool.or_assoc, Prod.exists, Prod.forall, ord175, wholeH, whole]
  have hz' : ¬ (ws.length : Int) = 0 := fun h => hz (hn.2 h)
  obtain ⟨vv, hvv⟩ : ∃ vv, cval (at_ ws 0) = vv := ⟨_, rfl⟩
  rw [hvv] at hc
  simp (config := {contextual := true, maxSteps := 1000000}) (disch := first | exact dA | fail) [go_sem, envOf, wrap_i64, int_lt, -Int.not_le, -Int.not_lt, Bool.decide_and, Bool.decide_or, and_assoc, Bool.and_assoc, Bool.or_assoc, Prod.exists, Prod.forall, ord175, hz, hz', hvv, Int.tdiv_eq_ediv_of_nonneg, Int.tmod_eq_emod_of_nonneg]
  have hck : wholeH ws = if Cfg.ok ⟨vv % 8, vv / 8 % 8, vv / 64⟩ ∧ at_ ws 0 = magic ⟨vv % 8, vv / 8 % 8, vv / 64⟩ ∧ ((ws.length : Int) = Cfg.size ⟨vv % 8, vv / 8 % 8, vv / 64⟩ ∨ (ws.length : Int) = house ⟨vv % 8, vv / 8 % 8, vv / 64⟩) then (⟨vv % 8, vv / 8 % 8, vv / 64⟩, true) else (⟨0, 0, 0⟩, false) := by
    unfold wholeH whole
    rw [if_neg hz]
    simp only [hvv]
  refine Alt.mk (Alt.mk (Alt.mk (Alt.mk (Alt.mk ⟨fun h => ?_, fun a1 a2 a3 => ?_⟩))))
  · rw [hck, if_neg (by rintro ⟨b1, b2, b3⟩; rcases h with h | h | h; exact h b1; exact h b2; rcases b3 with b3 | b3; exact h.1 b3; exact h.2 b3)]; exact ⟨rfl, rfl, rfl, rfl⟩
  · rw [hck, if_pos ⟨a1, a2, by by_cases e : (ws.length : Int) = Cfg.size ⟨vv % 8, vv / 8 % 8, vv / 64⟩; exact .inl e; exact .inr (a3 e)⟩]; exact ⟨rfl, rfl, rfl, rfl⟩
@[go_sem] theorem zWhole_s (σ : AHeap) (v : AV) (ws : List Int) (hv : LsV .u64 σ v ws) (hW : ∀ w ∈ ws, isW w) (hl : (ws.length : Int) ≤ 1000000) (kk_ : AV → AHeap → Prop) : @callP Tryz.prog (.fn 175 [] []) [v] σ ⟨kk_⟩ = @Alt (kk_ (.tup [cV (wholeH ws).1.slots (wholeH ws).1.pages (wholeH ws).1.lease, .bool (wholeH ws).2]) σ) ⟨@callP Tryz.prog (.fn 175 [] []) [v] σ ⟨kk_⟩⟩ := callP_alt (zWhole_fn σ v ws hv hW hl)
theorem zList_fn (σ : AHeap) (v : AV) (ws : List Int) (s p l' : Int) (k : Int) (hv : LsV .u64 σ v ws) (hW : ∀ w ∈ ws, isW w) (hs : 0 ≤ s ∧ s ≤ 10) (hp : 0 ≤ p ∧ p ≤ 10) :
    Fn Tryz.prog 265 [v, cV s p l', .int .i64 k] σ fun x τ => x = .sl σ.n 0 (listFrom ws ⟨s, p, l'⟩ (p * 8 + 1).toNat (lval ws (pHead ⟨s, p, l'⟩ k))).length 1 ∧ τ = σ.push ⟨(listFrom ws ⟨s, p, l'⟩ (p * 8 + 1).toNat (lval ws (pHead ⟨s, p, l'⟩ k))).map (.int .i64), true⟩ := by
  have key := fn_fresh (args := [v, cV s p l', .int .i64 k]) (σ := σ) (xs := (listFrom ws ⟨s, p, l'⟩ (p * 8 + 1).toNat (lval ws (pHead ⟨s, p, l'⟩ k))).map (.int .i64)) ord0 mixed Tryz.func265 (by kernel_rfl) rfl (by kernel_rfl) (lts_ints _ _ _) ?_
  · simpa using key
  generalize hL : listFrom ws ⟨s, p, l'⟩ (p * 8 + 1).toNat (lval ws (pHead ⟨s, p, l'⟩ k)) = L
  simp (config := {contextual := true, maxSteps := 1000000}) (disch := first | exact dA | fail) [go_sem, envOf, wrap_i64, int_lt, -Int.not_le, -Int.not_lt, Bool.decide_and, Bool.decide_or, and_assoc, Bool.and_assoc, Bool.or_assoc, Prod.exists, Prod.forall]
  refine Alt.mk (Alt.mk ?_)
  refine aloops_lt (fun R_ env τ => ∃ (q : Nat), ∃ (a : Int), ∃ (l : List Int), env 7 = .sl q 0 l.length 1 ∧ env 8 = .int .i64 a ∧ env 0 = v ∧ env 4 = .ptr σ.n 0 ∧ R_ ((p * 8 + 1 - l.length).toNat) ∧ (σ.n < q ∧ q < τ.n) ∧ (τ.get q = some ⟨l.map (.int .i64), true⟩) ∧ (τ.get σ.n = some ⟨[.int .i64 s, .int .i64 p, .int .i64 l'], true⟩) ∧ (LsV .u64 τ v ws) ∧ (Keeps σ.n σ τ) ∧ ((l.length : Int) ≤ p * 8 + 1) ∧ (0 ≤ a ∧ a < 4294967296) ∧ (L = l ++ listFrom ws ⟨s, p, l'⟩ (p * 8 + 1 - l.length).toNat a)) (by rintro R_ env τ ⟨q, a, l, e7, e8, e0, e4, hR_, hq, gq, g0, hv', hk, hl, ha, hL'⟩; exact ⟨_, hR_, q, a, l, e7, e8, e0, e4, rfl, hq, gq, g0, hv', hk, hl, ha, hL'⟩) ⟨σ.n + 1, _, [], by first | rfl | simp [put_get, *], by first | rfl | simp [put_get, *], by first | rfl | simp [put_get, *], by first | rfl | simp [put_get, *], trivial, ?_, ?_, ?_, ?_, ?_, ?_, ?_, ?_⟩ ?_
  rotate_left 8
  rintro m_ env τ ⟨q, a, l, e7, e8, e0, e4, rfl, hq, gq, g0, hv', hk, hl, ha, hL'⟩
  · have hbq : bOf v ≠ q ∨ v = .nils := by rcases hv.bof hv.lt with h | h; exact .inl (by omega); exact .inr h
    have hqi : σ.n ≠ q := by omega
    simp (config := {contextual := true, maxSteps := 1000000}) (disch := first | exact dA | fail) [go_sem, envOf, wrap_i64, int_lt, -Int.not_le, -Int.not_lt, Bool.decide_and, Bool.decide_or, and_assoc, Bool.and_assoc, Bool.or_assoc, Prod.exists, Prod.forall, e0, e4, e7, e8, gq, g0]
    have lr := cval_range (w := pload ws (pLink ⟨s, p, l'⟩ (a - 1)))
    refine ⟨fun b1 b2 b3 => Alt.mk (Alt.mk ⟨_, l ++ [a - 1], by simp, rfl, by simp; omega, by omega, by simp, (hv'.kill hbq).push.push, hk, by simp; omega, lr.1, by show ¬ 4294967296 ≤ cval _; omega, ?_⟩), fun hb => ?_⟩
    · rw [hL', show (p * 8 + 1 - (l.length : Int)).toNat = ((p * 8 + 1).toNat - (l ++ [a - 1]).length) + 1 by simp; omega]
      conv => lhs; unfold listFrom
      rw [if_pos ⟨by omega, b2⟩]
      simp
    · have hLl : L = l := by
        rw [hL']
        cases hf : (p * 8 + 1 - (l.length : Int)).toNat with
        | zero => simp [listFrom]
        | succ f =>
          unfold listFrom
          rw [if_neg (by rintro ⟨c1, c2⟩; have := hb (by omega) c2; omega)]
          simp
      rw [hLl]
      exact ⟨hk, rfl, by omega, Nat.le_refl _, by rw [List.take_of_length_le (by simp)]⟩
  · exact ⟨by omega, by simp⟩
  · simp +arith [AHeap.push_get]
  · simp +arith [AHeap.push_get]
  · exact hv.push.push
  · simp (config := {contextual := true, maxSteps := 1000000}) (disch := first | exact dA | fail) [go_sem, envOf, wrap_i64, int_lt, -Int.not_le, -Int.not_lt, Bool.decide_and, Bool.decide_or, and_assoc, Bool.and_assoc, Bool.or_assoc, Prod.exists, Prod.forall]
  · simp; omega
  · have := cval_range (w := pload ws (pHead ⟨s, p, l'⟩ k)); exact this
  · rw [← hL]; simp
end AH
