import Derived.Test.YtagihpbpblnnoaaGreatD49
import Derived.Test.YtagihpbpblnnoaaGreatQ15
set_option linter.all false
namespace AH
open Go Go.Proofs Ho
set_option maxRecDepth 20000
set_option maxHeartbeats 16000000
theorem bk0_S : BkS Bk.zero := ⟨by decide, Sm.nil, fun _ => Sm.nil, Sm.nil, Sm.nil, Sm.nil⟩
theorem wBook_S (ws : List Int) (gs : List Guest) : BkS (wBook ws gs).1 := by
  unfold wBook
  split
  · unfold censTrue
    split
    · cases hb : (censBook (censDone ws)).2 with
      | true => exact (cens_ok hb).2.2.2.1
      | false =>
        unfold censBook at hb ⊢
        simp only at hb ⊢
        split
        · rename_i h1
          rw [if_pos h1] at hb
          split
          · rename_i h2
            rw [if_pos h2] at hb
            cases hb
          · exact bk0_S
        · exact bk0_S
    · exact bk0_S
  · exact bk0_S
theorem ownedFrom_rng (v : Int) : ∀ (l : List Int) (i : Int), (ownedFrom l v i).length ≤ l.length ∧ ∀ x ∈ ownedFrom l v i, i ≤ x ∧ x < i + l.length := by
  intro l
  induction l with
  | nil => intro i; exact ⟨Nat.le_refl _, fun x hx => by cases hx⟩
  | cons y l ih =>
    intro i
    obtain ⟨h1, h2⟩ := ih (i + 1)
    unfold ownedFrom
    split
    · refine ⟨by simp; omega, fun x hx => ?_⟩
      rcases List.mem_cons.1 hx with rfl | hx
      · simp; omega
      · have := h2 x hx; simp; omega
    · refine ⟨by simp; omega, fun x hx => ?_⟩
      have := h2 x hx; simp; omega
theorem bookOf_sm {b : Bk} (h : BkS b) (slot : Int) : Sm (bookOf b slot) := by
  unfold bookOf
  split
  · obtain ⟨h1, h2⟩ := ownedFrom_rng (slot + 1) b.owner 0
    have h3 := h.o.1
    exact .of (by omega) fun x hx => by have := h2 x hx; omega
  · exact Sm.nil
theorem zBOf_s (σ : AHeap) (b : Bk) (pv h0 h1 h2 h3 ov iv ev : AV) (slot : Int) (hb : BkV σ b pv h0 h1 h2 h3 ov iv ev) (hs : BkS b) (h : -1000000 ≤ slot ∧ slot ≤ 1000000) (kk_ : AV → AHeap → Prop) :
    @callP Tryz.prog (.fn 167 [] []) [bV b pv h0 h1 h2 h3 ov iv ev, .int .i64 slot] σ ⟨kk_⟩ = @Alt (∀ (τ : AHeap) (q : Nat), (σ.n ≤ q ∧ q < τ.n ∧ LsV .i64 τ (.sl q 0 (bookOf b slot).length 1) (bookOf b slot) ∧ ∀ y, y < σ.n → τ.get y = σ.get y) → kk_ (.sl q 0 (bookOf b slot).length 1) τ) ⟨@callP Tryz.prog (.fn 167 [] []) [bV b pv h0 h1 h2 h3 ov iv ev, .int .i64 slot] σ ⟨kk_⟩⟩ := by
  refine propext ⟨fun hh => .inr hh, fun hh => ?_⟩
  rcases hh with hh | hh
  · refine callP_use (zBOf_fn σ b pv h0 h1 h2 h3 ov iv ev slot hb hs h) ?_
    rintro v σ' hn ⟨rfl, rfl⟩
    exact hh _ σ.n ⟨Nat.le_refl _, by simp, lsv_new rfl, fun y hy => push_get_lt hy⟩
  · exact hh
attribute [go_sem] zBOf_s
theorem zEvent_fn (σ : AHeap) (lo : Nat) (B : Int) (j : Nat) (v : AV) (gb : Nat) (ws : List Int) (gs : List (Guest × AV × AV)) (h : WAt σ lo B j v gb ws gs) (i : Nat) (bv : AV) (bs : List Int) (p : Int) (hr : Rd σ i bv bs p) (hil : i < lo) (hp : p ≤ 999990000) :
    Fn Tryz.prog 161 [.ptr i 0, .agg [.sl j 0 ws.length 1, v]] σ fun x τ => EvR σ i bv bs p x τ := by
  generalize hG : (fun (x : AV) (τ : AHeap) => EvR σ i bv bs p x τ) = GG
  have fin : ∀ (τ : AHeap) (k w n o a b q : Int), p ≤ q → q ≤ p + 60 → σ.n ≤ τ.n → τ.get i = some ⟨[bv, .int .i64 q], true⟩ → (∀ y, y < σ.n → NE y i → τ.get y = σ.get y) → GG (.agg [.int .i64 k, .int .i64 w, .int .i64 n, .int .i64 o, .int .i64 a, .int .i64 b]) τ := by
    intro τ k w n o a b q h1 h2 h3 h4 h5
    rw [← hG]
    exact EvR.mk hr (by omega) k w n o a b q h1 h2 h3 h4 h5
  have iv := h.isL
  have hi := hr.hi
  have hp0 := hr.hp
  have hb := hr.hb
  have lj := h.lj
  have lg := h.lg
  clear hG
  refine fn_of ord0 mixed Tryz.func161 (by kernel_rfl) rfl (by kernel_rfl) ?_
  have pk := fun (k n : Int) (hn : 1 ≤ n) => pick_rng (bs := bs) (k := k) (n := n) hn
  cases h.hv with
  | none =>
    simp (config := {contextual := true, maxSteps := 1000000}) (disch := first | exact dB | fail) [go_sem, envOf, wrap_i64, int_lt, -Int.not_le, -Int.not_lt, Bool.decide_and, Bool.decide_or, and_assoc, Bool.and_assoc, Bool.or_assoc, Prod.exists, Prod.forall, -List.map_set, set_put]
    (repeat refine Alt.mk ?_)
    first | exact fin _ _ _ _ _ _ _ (p + 2) (by omega) (by omega) (by simp only [push_n', set_n', kill_n']; omega) (by (first | exact cGT | fail)) (by intro y y1 y2; (first | exact cGT | fail)) | exact fin _ _ _ _ _ _ _ (p + 3) (by omega) (by omega) (by simp only [push_n', set_n', kill_n']; omega) (by (first | exact cGT | fail)) (by intro y y1 y2; (first | exact cGT | fail)) | exact fin _ _ _ _ _ _ _ (p + 4) (by omega) (by omega) (by simp only [push_n', set_n', kill_n']; omega) (by (first | exact cGT | fail)) (by intro y y1 y2; (first | exact cGT | fail)) | exact fin _ _ _ _ _ _ _ (p + 1) (by omega) (by omega) (by simp only [push_n', set_n', kill_n']; omega) (by (first | exact cGT | fail)) (by intro y y1 y2; (first | exact cGT | fail)) | exact fin _ _ _ _ _ _ _ (p) (by omega) (by omega) (by simp only [push_n', set_n', kill_n']; omega) (by (first | exact cGT | fail)) (by intro y y1 y2; (first | exact cGT | fail)) | exact fin _ _ _ _ _ _ _ (p + 5) (by omega) (by omega) (by simp only [push_n', set_n', kill_n']; omega) (by (first | exact cGT | fail)) (by intro y y1 y2; (first | exact cGT | fail)) | exact fin _ _ _ _ _ _ _ (p + 6) (by omega) (by omega) (by simp only [push_n', set_n', kill_n']; omega) (by (first | exact cGT | fail)) (by intro y y1 y2; (first | exact cGT | fail)) | exact fin _ _ _ _ _ _ _ (p + 9) (by omega) (by omega) (by simp only [push_n', set_n', kill_n']; omega) (by (first | exact cGT | fail)) (by intro y y1 y2; (first | exact cGT | fail))
  | @some gb m gs h0 h1 h2 h3 h4 =>
    have hm6 : (m : Int) ≤ 6 := by have := h.m6; omega
    have hm0 : ¬ m = 0 := by omega
    by_cases k0 : pickV bs p 14 = 0
    · simp (config := {contextual := true, maxSteps := 1000000}) (disch := first | exact dB | fail) [go_sem, envOf, wrap_i64, int_lt, -Int.not_le, -Int.not_lt, Bool.decide_and, Bool.decide_or, and_assoc, Bool.and_assoc, Bool.or_assoc, Prod.exists, Prod.forall, -List.map_set, set_put, hm0, k0]
      (repeat refine Alt.mk ?_)
      first | exact fin _ _ _ _ _ _ _ (p + 2) (by omega) (by omega) (by simp only [push_n', set_n', kill_n']; omega) (by (first | exact cGT | fail)) (by intro y y1 y2; (first | exact cGT | fail)) | exact fin _ _ _ _ _ _ _ (p + 3) (by omega) (by omega) (by simp only [push_n', set_n', kill_n']; omega) (by (first | exact cGT | fail)) (by intro y y1 y2; (first | exact cGT | fail)) | exact fin _ _ _ _ _ _ _ (p + 4) (by omega) (by omega) (by simp only [push_n', set_n', kill_n']; omega) (by (first | exact cGT | fail)) (by intro y y1 y2; (first | exact cGT | fail)) | exact fin _ _ _ _ _ _ _ (p + 1) (by omega) (by omega) (by simp only [push_n', set_n', kill_n']; omega) (by (first | exact cGT | fail)) (by intro y y1 y2; (first | exact cGT | fail)) | exact fin _ _ _ _ _ _ _ (p) (by omega) (by omega) (by simp only [push_n', set_n', kill_n']; omega) (by (first | exact cGT | fail)) (by intro y y1 y2; (first | exact cGT | fail)) | exact fin _ _ _ _ _ _ _ (p + 5) (by omega) (by omega) (by simp only [push_n', set_n', kill_n']; omega) (by (first | exact cGT | fail)) (by intro y y1 y2; (first | exact cGT | fail)) | exact fin _ _ _ _ _ _ _ (p + 6) (by omega) (by omega) (by simp only [push_n', set_n', kill_n']; omega) (by (first | exact cGT | fail)) (by intro y y1 y2; (first | exact cGT | fail)) | exact fin _ _ _ _ _ _ _ (p + 9) (by omega) (by omega) (by simp only [push_n', set_n', kill_n']; omega) (by (first | exact cGT | fail)) (by intro y y1 y2; (first | exact cGT | fail))
    obtain ⟨R, hR⟩ : ∃ R : Nat, pickV bs (p + 1) m = R := ⟨(pickV bs (p + 1) m).toNat, by have := pk (p + 1) m (by omega); omega⟩
    have hRm : R < m := by have := pk (p + 1) m (by omega); omega
    have hRm' : ¬ m ≤ R := by omega
    obtain ⟨K, hK⟩ : ∃ K, pickV bs (p + 2) 16 = K := ⟨_, rfl⟩
    by_cases k1 : K = 0
    · simp (config := {contextual := true, maxSteps := 1000000}) (disch := first | exact dB | fail) [go_sem, envOf, wrap_i64, int_lt, -Int.not_le, -Int.not_lt, Bool.decide_and, Bool.decide_or, and_assoc, Bool.and_assoc, Bool.or_assoc, Prod.exists, Prod.forall, -List.map_set, set_put, hm0, k0, hR, hK, k1]
      (repeat refine Alt.mk ?_)
      first | exact fin _ _ _ _ _ _ _ (p + 2) (by omega) (by omega) (by simp only [push_n', set_n', kill_n']; omega) (by (first | exact cGT | fail)) (by intro y y1 y2; (first | exact cGT | fail)) | exact fin _ _ _ _ _ _ _ (p + 3) (by omega) (by omega) (by simp only [push_n', set_n', kill_n']; omega) (by (first | exact cGT | fail)) (by intro y y1 y2; (first | exact cGT | fail)) | exact fin _ _ _ _ _ _ _ (p + 4) (by omega) (by omega) (by simp only [push_n', set_n', kill_n']; omega) (by (first | exact cGT | fail)) (by intro y y1 y2; (first | exact cGT | fail)) | exact fin _ _ _ _ _ _ _ (p + 1) (by omega) (by omega) (by simp only [push_n', set_n', kill_n']; omega) (by (first | exact cGT | fail)) (by intro y y1 y2; (first | exact cGT | fail)) | exact fin _ _ _ _ _ _ _ (p) (by omega) (by omega) (by simp only [push_n', set_n', kill_n']; omega) (by (first | exact cGT | fail)) (by intro y y1 y2; (first | exact cGT | fail)) | exact fin _ _ _ _ _ _ _ (p + 5) (by omega) (by omega) (by simp only [push_n', set_n', kill_n']; omega) (by (first | exact cGT | fail)) (by intro y y1 y2; (first | exact cGT | fail)) | exact fin _ _ _ _ _ _ _ (p + 6) (by omega) (by omega) (by simp only [push_n', set_n', kill_n']; omega) (by (first | exact cGT | fail)) (by intro y y1 y2; (first | exact cGT | fail)) | exact fin _ _ _ _ _ _ _ (p + 9) (by omega) (by omega) (by simp only [push_n', set_n', kill_n']; omega) (by (first | exact cGT | fail)) (by intro y y1 y2; (first | exact cGT | fail))
    by_cases k2 : K = 1
    · simp (config := {contextual := true, maxSteps := 1000000}) (disch := first | exact dB | fail) [go_sem, envOf, wrap_i64, int_lt, -Int.not_le, -Int.not_lt, Bool.decide_and, Bool.decide_or, and_assoc, Bool.and_assoc, Bool.or_assoc, Prod.exists, Prod.forall, -List.map_set, set_put, hm0, k0, hR, hK, k1, k2]
      (repeat refine Alt.mk ?_)
      first | exact fin _ _ _ _ _ _ _ (p + 2) (by omega) (by omega) (by simp only [push_n', set_n', kill_n']; omega) (by (first | exact cGT | fail)) (by intro y y1 y2; (first | exact cGT | fail)) | exact fin _ _ _ _ _ _ _ (p + 3) (by omega) (by omega) (by simp only [push_n', set_n', kill_n']; omega) (by (first | exact cGT | fail)) (by intro y y1 y2; (first | exact cGT | fail)) | exact fin _ _ _ _ _ _ _ (p + 4) (by omega) (by omega) (by simp only [push_n', set_n', kill_n']; omega) (by (first | exact cGT | fail)) (by intro y y1 y2; (first | exact cGT | fail)) | exact fin _ _ _ _ _ _ _ (p + 1) (by omega) (by omega) (by simp only [push_n', set_n', kill_n']; omega) (by (first | exact cGT | fail)) (by intro y y1 y2; (first | exact cGT | fail)) | exact fin _ _ _ _ _ _ _ (p) (by omega) (by omega) (by simp only [push_n', set_n', kill_n']; omega) (by (first | exact cGT | fail)) (by intro y y1 y2; (first | exact cGT | fail)) | exact fin _ _ _ _ _ _ _ (p + 5) (by omega) (by omega) (by simp only [push_n', set_n', kill_n']; omega) (by (first | exact cGT | fail)) (by intro y y1 y2; (first | exact cGT | fail)) | exact fin _ _ _ _ _ _ _ (p + 6) (by omega) (by omega) (by simp only [push_n', set_n', kill_n']; omega) (by (first | exact cGT | fail)) (by intro y y1 y2; (first | exact cGT | fail)) | exact fin _ _ _ _ _ _ _ (p + 9) (by omega) (by omega) (by simp only [push_n', set_n', kill_n']; omega) (by (first | exact cGT | fail)) (by intro y y1 y2; (first | exact cGT | fail))
    by_cases k3 : K = 2
    · simp (config := {contextual := true, maxSteps := 1000000}) (disch := first | exact dB | fail) [go_sem, envOf, wrap_i64, int_lt, -Int.not_le, -Int.not_lt, Bool.decide_and, Bool.decide_or, and_assoc, Bool.and_assoc, Bool.or_assoc, Prod.exists, Prod.forall, -List.map_set, set_put, hm0, k0, hR, hK, k1, k2, k3]
      (repeat refine Alt.mk ?_)
      first | exact fin _ _ _ _ _ _ _ (p + 2) (by omega) (by omega) (by simp only [push_n', set_n', kill_n']; omega) (by (first | exact cGT | fail)) (by intro y y1 y2; (first | exact cGT | fail)) | exact fin _ _ _ _ _ _ _ (p + 3) (by omega) (by omega) (by simp only [push_n', set_n', kill_n']; omega) (by (first | exact cGT | fail)) (by intro y y1 y2; (first | exact cGT | fail)) | exact fin _ _ _ _ _ _ _ (p + 4) (by omega) (by omega) (by simp only [push_n', set_n', kill_n']; omega) (by (first | exact cGT | fail)) (by intro y y1 y2; (first | exact cGT | fail)) | exact fin _ _ _ _ _ _ _ (p + 1) (by omega) (by omega) (by simp only [push_n', set_n', kill_n']; omega) (by (first | exact cGT | fail)) (by intro y y1 y2; (first | exact cGT | fail)) | exact fin _ _ _ _ _ _ _ (p) (by omega) (by omega) (by simp only [push_n', set_n', kill_n']; omega) (by (first | exact cGT | fail)) (by intro y y1 y2; (first | exact cGT | fail)) | exact fin _ _ _ _ _ _ _ (p + 5) (by omega) (by omega) (by simp only [push_n', set_n', kill_n']; omega) (by (first | exact cGT | fail)) (by intro y y1 y2; (first | exact cGT | fail)) | exact fin _ _ _ _ _ _ _ (p + 6) (by omega) (by omega) (by simp only [push_n', set_n', kill_n']; omega) (by (first | exact cGT | fail)) (by intro y y1 y2; (first | exact cGT | fail)) | exact fin _ _ _ _ _ _ _ (p + 9) (by omega) (by omega) (by simp only [push_n', set_n', kill_n']; omega) (by (first | exact cGT | fail)) (by intro y y1 y2; (first | exact cGT | fail))
    obtain ⟨⟨g, sv, pv⟩, hx⟩ : ∃ x, gs[R]? = some x := ⟨gs[R]'(by omega), by simp [h0, hRm]⟩
    have hsub := gCells_sub hx
    have hlen : R * 26 + 26 ≤ (gCells gs).length := by rw [gCells_len]; omega
    have hGA := h.G _ (List.mem_of_getElem? hx)
    have i1 := hGA.s.isL
    have i2 := hGA.p.isL
    cases hq : g.busy with
    | true =>
      simp (config := {contextual := true, maxSteps := 1000000}) (disch := first | exact dB | fail) [go_sem, envOf, wrap_i64, int_lt, -Int.not_le, -Int.not_lt, Bool.decide_and, Bool.decide_or, and_assoc, Bool.and_assoc, Bool.or_assoc, Prod.exists, Prod.forall, -List.map_set, set_put, hm0, k0, hR, hK, k1, k2, k3, h4, hsub, hlen, hRm, hRm', hq]
      (repeat refine Alt.mk ?_)
      first | exact fin _ _ _ _ _ _ _ (p + 2) (by omega) (by omega) (by simp only [push_n', set_n', kill_n']; omega) (by (first | exact cGT | fail)) (by intro y y1 y2; (first | exact cGT | fail)) | exact fin _ _ _ _ _ _ _ (p + 3) (by omega) (by omega) (by simp only [push_n', set_n', kill_n']; omega) (by (first | exact cGT | fail)) (by intro y y1 y2; (first | exact cGT | fail)) | exact fin _ _ _ _ _ _ _ (p + 4) (by omega) (by omega) (by simp only [push_n', set_n', kill_n']; omega) (by (first | exact cGT | fail)) (by intro y y1 y2; (first | exact cGT | fail)) | exact fin _ _ _ _ _ _ _ (p + 1) (by omega) (by omega) (by simp only [push_n', set_n', kill_n']; omega) (by (first | exact cGT | fail)) (by intro y y1 y2; (first | exact cGT | fail)) | exact fin _ _ _ _ _ _ _ (p) (by omega) (by omega) (by simp only [push_n', set_n', kill_n']; omega) (by (first | exact cGT | fail)) (by intro y y1 y2; (first | exact cGT | fail)) | exact fin _ _ _ _ _ _ _ (p + 5) (by omega) (by omega) (by simp only [push_n', set_n', kill_n']; omega) (by (first | exact cGT | fail)) (by intro y y1 y2; (first | exact cGT | fail)) | exact fin _ _ _ _ _ _ _ (p + 6) (by omega) (by omega) (by simp only [push_n', set_n', kill_n']; omega) (by (first | exact cGT | fail)) (by intro y y1 y2; (first | exact cGT | fail)) | exact fin _ _ _ _ _ _ _ (p + 9) (by omega) (by omega) (by simp only [push_n', set_n', kill_n']; omega) (by (first | exact cGT | fail)) (by intro y y1 y2; (first | exact cGT | fail))
    | false =>
      by_cases k4 : g.epoch = 0
      · simp (config := {contextual := true, maxSteps := 1000000}) (disch := first | exact dB | fail) [go_sem, envOf, wrap_i64, int_lt, -Int.not_le, -Int.not_lt, Bool.decide_and, Bool.decide_or, and_assoc, Bool.and_assoc, Bool.or_assoc, Prod.exists, Prod.forall, -List.map_set, set_put, hm0, k0, hR, hK, k1, k2, k3, h4, hsub, hlen, hRm, hRm', hq, k4]
        (repeat refine Alt.mk ?_)
        first | exact fin _ _ _ _ _ _ _ (p + 2) (by omega) (by omega) (by simp only [push_n', set_n', kill_n']; omega) (by (first | exact cGT | fail)) (by intro y y1 y2; (first | exact cGT | fail)) | exact fin _ _ _ _ _ _ _ (p + 3) (by omega) (by omega) (by simp only [push_n', set_n', kill_n']; omega) (by (first | exact cGT | fail)) (by intro y y1 y2; (first | exact cGT | fail)) | exact fin _ _ _ _ _ _ _ (p + 4) (by omega) (by omega) (by simp only [push_n', set_n', kill_n']; omega) (by (first | exact cGT | fail)) (by intro y y1 y2; (first | exact cGT | fail)) | exact fin _ _ _ _ _ _ _ (p + 1) (by omega) (by omega) (by simp only [push_n', set_n', kill_n']; omega) (by (first | exact cGT | fail)) (by intro y y1 y2; (first | exact cGT | fail)) | exact fin _ _ _ _ _ _ _ (p) (by omega) (by omega) (by simp only [push_n', set_n', kill_n']; omega) (by (first | exact cGT | fail)) (by intro y y1 y2; (first | exact cGT | fail)) | exact fin _ _ _ _ _ _ _ (p + 5) (by omega) (by omega) (by simp only [push_n', set_n', kill_n']; omega) (by (first | exact cGT | fail)) (by intro y y1 y2; (first | exact cGT | fail)) | exact fin _ _ _ _ _ _ _ (p + 6) (by omega) (by omega) (by simp only [push_n', set_n', kill_n']; omega) (by (first | exact cGT | fail)) (by intro y y1 y2; (first | exact cGT | fail)) | exact fin _ _ _ _ _ _ _ (p + 9) (by omega) (by omega) (by simp only [push_n', set_n', kill_n']; omega) (by (first | exact cGT | fail)) (by intro y y1 y2; (first | exact cGT | fail))
      · simp (config := {contextual := true, maxSteps := 1000000}) (disch := first | exact dB | fail) [go_sem, envOf, wrap_i64, int_lt, -Int.not_le, -Int.not_lt, Bool.decide_and, Bool.decide_or, and_assoc, Bool.and_assoc, Bool.or_assoc, Prod.exists, Prod.forall, -List.map_set, set_put, hm0, k0, hR, hK, k1, k2, k3, h4, hsub, hlen, hRm, hRm', hq, k4]
        (repeat refine Alt.mk ?_)
        refine callP_gen (fun σ1 => σ.n + 1 + 1 < σ1.n ∧ (∀ y, y < σ.n → NE y i → σ1.get y = σ.get y) ∧ σ1.get i = some ⟨[bv, .int .i64 (p + 3)], true⟩ ∧ σ1.get (σ.n + 1) = some ⟨[.int .i64 0, .int .i64 0, .int .i64 0, .int .i64 0, .int .i64 0, .int .i64 0], true⟩ ∧ σ1.get (σ.n + 1 + 1) = some ⟨gV { g with busy := false } sv pv, true⟩) ?_ ?_
        · refine ⟨by simp only [push_n', set_n']; omega, by intro y y1 y2; (first | exact cGT | fail), by (first | exact cGT | fail), by (first | exact cGT | fail), ?_⟩
          (first | exact cGT | fail)
        rintro σ1 ⟨x1, x2, x3, x4, x5⟩
        have hn1 : σ.n ≤ σ1.n := by omega
        have hr1 := hr.go (q := p + 3) hn1 x3 x2 (by omega)
        have h1' : WAt σ1 lo B j (.sl gb 0 m 26) gb ws gs := h.past hil hn1 x2
        refine callP_use (zWBook_fn σ1 lo B j _ gb ws gs h1') ?_
        rintro x τ hn ⟨pv0, k0', k1', k2', k3', ov, iv', ev, rfl, y1, y2, y3, y4⟩
        have hS := wBook_S ws (gs.map (·.1))
        generalize hbk : (wBook ws (gs.map (·.1))).1 = b at y1 hS
        generalize (wBook ws (gs.map (·.1))).2 = ok
        have hfr : ∀ y, y < σ.n → NE y i → τ.get y = σ.get y := fun y q1 q2 => (y2 y (by omega)).trans (x2 y q1 q2)
        have hn2 : σ.n ≤ τ.n := by omega
        have hr2 : Rd τ i bv bs (p + 3) := hr.go hn2 ((y2 i (by omega)).trans x3) hfr (by omega)
        have hbV : ∀ X, BkV (τ.set i X) b pv0 k0' k1' k2' k3' ov iv' ev := fun X => y1.set_ap (y4 i (by omega))
        have z1 : τ.get (σ.n + 1) = _ := (y2 _ (by omega)).trans x4
        have z2 : τ.get (σ.n + 1 + 1) = _ := (y2 _ x1).trans x5
        have hso := hS.o
        have ho := y1.o
        have l1 := y1.p.isL
        have l2 := y1.h0.isL
        have l3 := y1.h1.isL
        have l4 := y1.h2.isL
        have l5 := y1.h3.isL
        have l6 := y1.o.isL
        have l7 := y1.i.isL
        have l8 := y1.e.isL
        have hne : bOf ov ≠ i ∨ ov = .nils := (y4 i (by omega)).o
        have hsl : 0 ≤ g.slot ∧ g.slot ≤ 10 := hGA.gi.slot
        have hsl' : -1000000 ≤ g.slot ∧ g.slot ≤ 1000000 := by omega
        have hsm := bookOf_sm hS g.slot
        have hp3 : p + 3 ≤ 999999000 := by omega
        clear h h1' x2 x3 x4 x5 y2 hr1 iv
        simp (config := {contextual := true, maxSteps := 1000000}) (disch := first | exact dB | fail) [go_sem, envOf, wrap_i64, int_lt, -Int.not_le, -Int.not_lt, Bool.decide_and, Bool.decide_or, and_assoc, Bool.and_assoc, Bool.or_assoc, Prod.exists, Prod.forall, -List.map_set, set_put, z1, z2]
        (repeat refine Alt.mk ?_)
        intro kd sl oa ob p' hpa hpb
        repeat' (first | refine Alt.mk ?_ | refine And.intro ?_ ?_ | intro _)
        all_goals first | (refine fin _ _ _ _ _ _ _ ?_ ?_ ?_ ?_ ?_ ?_; rotate_left 4; ((first | exact cGT | fail)); (intro y y1 y2; simp (disch := first | exact NE.ne (by assumption) | omega | (simp only [push_n', set_n']; omega)) only [push_get_lt, set_get_ne]; first | exact hfr y y1 y2 | exact hfr2 y y1 y2); omega; omega; (simp only [push_n', set_n', kill_n']; omega)) | skip
        all_goals
          refine Eq.mpr (zBOf_s _ b pv0 k0' k1' k2' k3' ov iv' ev g.slot (hbV _).push.push hS hsl' _) (Alt.mk ?_)
          rintro τ2 q ⟨q1, q2, q3, q4⟩
          simp only [push_n', set_n'] at q1 q4
          have u1 : τ2.get (σ.n + 1) = some ⟨[.int .i64 0, .int .i64 0, .int .i64 0, .int .i64 0, .int .i64 0, .int .i64 0], true⟩ := (q4 _ (by omega)).trans (by (first | exact cGT | fail))
          have u2 : τ2.get (τ.n + 1) = some ⟨[.int .i64 kd, .int .i64 sl, .int .i64 oa, .int .i64 ob], true⟩ := (q4 _ (by omega)).trans (by (first | exact cGT | fail))
          have u3 : τ2.get i = some ⟨[bv, .int .i64 (p' + 1)], true⟩ := (q4 _ (by omega)).trans (by (first | exact cGT | fail))
          have hfr2 : ∀ y, y < σ.n → NE y i → τ2.get y = σ.get y := fun y r1 r2 => (q4 _ (by omega)).trans (by first | (first | exact cGT | fail) | (simp (disch := first | exact NE.ne (by assumption) | omega | (simp only [push_n', set_n']; omega)) only [push_get_lt, set_get_ne]; exact hfr y r1 r2))
          have hn3 : σ.n ≤ τ2.n := by omega
          have hr3 : Rd τ2 i bv bs (p' + 1) := hr.go hn3 u3 hfr2 (by omega)
          generalize bookOf b g.slot = L at *
          have hq0 : ¬ τ2.n ≤ q := by omega
          have hLl := hsm.1
          have hne2 : bOf (.sl q 0 L.length 1) ≠ i ∨ AV.sl q 0 L.length 1 = .nils := .inl (by simp only [bOf]; omega)
          have hpL := fun (h : 1 ≤ (L.length : Int)) => pick_rng (bs := bs) (k := p' + 1) (n := L.length) h
          clear hfr hr2 z1 z2 q4 y1 hbV
          simp (config := {contextual := true, maxSteps := 1000000}) (disch := first | exact dB | fail) [go_sem, envOf, wrap_i64, int_lt, -Int.not_le, -Int.not_lt, Bool.decide_and, Bool.decide_or, and_assoc, Bool.and_assoc, Bool.or_assoc, Prod.exists, Prod.forall, -List.map_set, set_put, u1, u2]
          repeat' (first | refine Alt.mk ?_ | refine And.intro ?_ ?_ | intro _)
          all_goals first | (refine fin _ _ _ _ _ _ _ ?_ ?_ ?_ ?_ ?_ ?_; rotate_left 4; ((first | exact cGT | fail)); (intro y y1 y2; simp (disch := first | exact NE.ne (by assumption) | omega | (simp only [push_n', set_n']; omega)) only [push_get_lt, set_get_ne]; first | exact hfr y y1 y2 | exact hfr2 y y1 y2); omega; omega; (simp only [push_n', set_n', kill_n']; omega)) | trace_state
end AH
