import Derived.Test.YtagihpbpblnnoaaGreatQ13
import Derived.Test.YtagihpbpblnnoaaGreatQ10
set_option linter.all false
namespace AH
open Go Go.Proofs Ho
set_option maxRecDepth 10000
set_option maxHeartbeats 4000000
theorem drop_at {xs : List Int} {i : Int} (h0 : 0 ≤ i) (h1 : i < xs.length) : xs.drop i.toNat = at_ xs i :: xs.drop (i + 1).toNat := by
  rw [show (i + 1).toNat = i.toNat + 1 by omega, List.drop_eq_getElem_cons (by omega)]
  simp [at_, show i.toNat < xs.length by omega]
theorem drop_hi {xs : List Int} {i : Int} (h1 : (xs.length : Int) ≤ i) : xs.drop i.toNat = [] := by
  rw [List.drop_eq_nil_iff]; omega
theorem zBKind_fn (σ : AHeap) (units : Int) : Fn Tryz.prog 231 [.int .i64 units] σ fun x τ => x = .int .i64 (bookKind units) ∧ τ = σ := by
  refine fn_pure ord0 mixed Tryz.func231 (by kernel_rfl) rfl (by kernel_rfl) (by rfl) ?_
  simp (config := {contextual := true, maxSteps := 1000000}) (disch := first | exact dA | fail) [go_sem, envOf, wrap_i64, int_lt, -Int.not_le, -Int.not_lt, Bool.decide_and, Bool.decide_or, and_assoc, Bool.and_assoc, Bool.or_assoc, Prod.exists, Prod.forall]
  refine aloops_lt (fun R_ env τ => ∃ (k : Int), env 0 = .int .i64 units ∧ env 3 = .int .i64 k ∧ σ = τ ∧ R_ ((4 - k).toNat) ∧ (0 ≤ k ∧ k ≤ 4 ∧ (0 < k → ¬ (1 ≤ units ∧ units ≤ 1)) ∧ (1 < k → ¬ (1 ≤ units ∧ units ≤ 2)) ∧ (2 < k → ¬ (1 ≤ units ∧ units ≤ 4)) ∧ (3 < k → ¬ (1 ≤ units ∧ units ≤ 8)))) (by rintro R_ env τ ⟨k, e0, e3, h_, hR_, hp⟩; exact ⟨_, hR_, k, e0, e3, h_, rfl, hp⟩) ⟨0, by first | rfl | simp [put_get, *], by first | rfl | simp [put_get, *], rfl, trivial, ?_⟩ ?_
  rotate_left
  rintro m_ env τ ⟨k, e0, e3, rfl, rfl, hp⟩
  rotate_left
  · omega
  have hk : k = 0 ∨ k = 1 ∨ k = 2 ∨ k = 3 ∨ k = 4 := by omega
  unfold bookKind
  rcases hk with rfl | rfl | rfl | rfl | rfl <;> simp (config := {contextual := true, maxSteps := 1000000}) (disch := first | exact dA | fail) [go_sem, envOf, wrap_i64, int_lt, -Int.not_le, -Int.not_lt, Bool.decide_and, Bool.decide_or, and_assoc, Bool.and_assoc, Bool.or_assoc, Prod.exists, Prod.forall, e0, e3, sz0, sz1, sz2, sz3]
  all_goals (repeat' (first | refine Alt.mk ?_ | refine ⟨?_, ?_⟩ | intro _))
  all_goals (repeat' split) <;> omega
@[go_sem] theorem zBKind_s (σ : AHeap) (units : Int) (kk_ : AV → AHeap → Prop) : @callP Tryz.prog (.fn 231 [] []) [.int .i64 units] σ ⟨kk_⟩ = @Alt (kk_ (.int .i64 (bookKind units)) σ) ⟨@callP Tryz.prog (.fn 231 [] []) [.int .i64 units] σ ⟨kk_⟩⟩ := callP_alt (zBKind_fn σ units)
theorem zRoom_fn (σ : AHeap) (b : Bk) (pv h0 h1 h2 h3 ov iv ev : AV) (a : Int) (hb : BkV σ b pv h0 h1 h2 h3 ov iv ev) (hs : BkS b) (h : b.owner.length = b.pages.length * 8) : Fn Tryz.prog 235 [bV b pv h0 h1 h2 h3 ov iv ev, .int .i64 a] σ fun x τ => x = .int .i64 (roomOf b a) ∧ τ = σ := by
  refine fn_pure ord0 mixed Tryz.func235 (by kernel_rfl) rfl (by kernel_rfl) (by rfl) ?_
  obtain ⟨vp, _, _, _, _, vo, _, _⟩ := hb
  obtain ⟨_, ⟨sp, sp'⟩, _, ⟨so, _⟩, _, _⟩ := hs
  have hpg := sp' (a / 8)
  have hkl := kind_lt (at_ b.pages (a / 8))
  unfold roomOf
  simp (config := {contextual := true, maxSteps := 1000000}) (disch := first | exact dA | fail) [go_sem, envOf, wrap_i64, int_lt, -Int.not_le, -Int.not_lt, Bool.decide_and, Bool.decide_or, and_assoc, Bool.and_assoc, Bool.or_assoc, Prod.exists, Prod.forall, Int.tdiv_eq_ediv_of_nonneg]
  intro x1 x2 x3 x4
  rcases x1 with x1 | x1 | x1
  · exact absurd x2 x1
  · exact absurd x1 x3
  · exact absurd x1 x4
@[go_sem] theorem zRoom_s (σ : AHeap) (b : Bk) (pv h0 h1 h2 h3 ov iv ev : AV) (a : Int) (hb : BkV σ b pv h0 h1 h2 h3 ov iv ev) (hs : BkS b) (h : b.owner.length = b.pages.length * 8) (kk_ : AV → AHeap → Prop) : @callP Tryz.prog (.fn 235 [] []) [bV b pv h0 h1 h2 h3 ov iv ev, .int .i64 a] σ ⟨kk_⟩ = @Alt (kk_ (.int .i64 (roomOf b a)) σ) ⟨@callP Tryz.prog (.fn 235 [] []) [bV b pv h0 h1 h2 h3 ov iv ev, .int .i64 a] σ ⟨kk_⟩⟩ := callP_alt (zRoom_fn σ b pv h0 h1 h2 h3 ov iv ev a hb hs h)
theorem zFirst_fn (σ : AHeap) (b : Bk) (pv h0 h1 h2 h3 ov iv ev : AV) (slot : Int) (hb : BkV σ b pv h0 h1 h2 h3 ov iv ev) (hs : BkS b) (h : -1000000 ≤ slot ∧ slot ≤ 1000000) : Fn Tryz.prog 192 [bV b pv h0 h1 h2 h3 ov iv ev, .int .i64 slot] σ fun x τ => x = .int .i64 (firstOf b slot) ∧ τ = σ := by
  refine fn_pure ord0 mixed Tryz.func192 (by kernel_rfl) rfl (by kernel_rfl) (by rfl) ?_
  obtain ⟨vp, _, _, _, _, vo, _, _⟩ := hb
  obtain ⟨_, ⟨sp, sp'⟩, _, ⟨so, _⟩, _, _⟩ := hs
  simp (config := {contextual := true, maxSteps := 1000000}) (disch := first | exact dA | fail) [go_sem, envOf, wrap_i64, int_lt, -Int.not_le, -Int.not_lt, Bool.decide_and, Bool.decide_or, and_assoc, Bool.and_assoc, Bool.or_assoc, Prod.exists, Prod.forall]
  refine aloops_lt (fun R_ env τ => ∃ (u : Int), env 1 = .int .i64 slot ∧ env 2 = .ptr σ.n 0 ∧ env 5 = .int .i64 u ∧ bHp σ b pv h0 h1 h2 h3 ov iv ev = τ ∧ R_ ((b.owner.length - u).toNat) ∧ (0 ≤ u ∧ u ≤ b.owner.length ∧ firstOf b slot = firstIx (b.owner.drop u.toNat) (slot + 1) u)) (by rintro R_ env τ ⟨u, e1, e2, e5, h_, hR_, hp⟩; exact ⟨_, hR_, u, e1, e2, e5, h_, rfl, hp⟩) ⟨0, by first | rfl | simp [put_get, *], by first | rfl | simp [put_get, *], by first | rfl | simp [put_get, *], rfl, trivial, ?_⟩ ?_
  rotate_left
  rintro m_ env τ ⟨u, e1, e2, e5, rfl, rfl, hp⟩
  rotate_left
  · exact ⟨by omega, by omega, rfl⟩
  simp (config := {contextual := true, maxSteps := 1000000}) (disch := first | exact dA | fail) [go_sem, envOf, wrap_i64, int_lt, -Int.not_le, -Int.not_lt, Bool.decide_and, Bool.decide_or, and_assoc, Bool.and_assoc, Bool.or_assoc, Prod.exists, Prod.forall, e1, e2, e5]
  refine ⟨fun hq => ⟨fun hx => ?_, fun hx => ⟨by omega, by omega, by omega, ?_⟩⟩, fun hq => ?_⟩
  · rw [hp.2.2, drop_at hp.1 (by omega)]; simp [firstIx, hx]
  · rw [hp.2.2, drop_at hp.1 (by omega)]; simp [firstIx, hx]
  · rw [hp.2.2, drop_hi hq]; rfl
@[go_sem] theorem zFirst_s (σ : AHeap) (b : Bk) (pv h0 h1 h2 h3 ov iv ev : AV) (slot : Int) (hb : BkV σ b pv h0 h1 h2 h3 ov iv ev) (hs : BkS b) (h : -1000000 ≤ slot ∧ slot ≤ 1000000) (kk_ : AV → AHeap → Prop) : @callP Tryz.prog (.fn 192 [] []) [bV b pv h0 h1 h2 h3 ov iv ev, .int .i64 slot] σ ⟨kk_⟩ = @Alt (kk_ (.int .i64 (firstOf b slot)) σ) ⟨@callP Tryz.prog (.fn 192 [] []) [bV b pv h0 h1 h2 h3 ov iv ev, .int .i64 slot] σ ⟨kk_⟩⟩ := callP_alt (zFirst_fn σ b pv h0 h1 h2 h3 ov iv ev slot hb hs h)
theorem hpo_run {pages : List Int} {n p : Int} (h0 : p ≤ pages.length + 1) (h : ¬ p + n ≤ pages.length) : runFrom pages n (pages.length + 1 - p).toNat p = -1 := by
  cases hf : (pages.length + 1 - p).toNat with
  | zero => rfl
  | succ f => unfold runFrom; rw [if_pos (by omega)]
theorem run_step {pages : List Int} {n p : Int} (hn : 0 ≤ n) (h : p + n ≤ pages.length) : runFrom pages n (pages.length + 1 - p).toNat p = if emptyP pages p n then p else runFrom pages n (pages.length + 1 - (p + 1)).toNat (p + 1) := by
  obtain ⟨f, hf⟩ : ∃ f : Nat, (pages.length + 1 - p).toNat = f + 1 := ⟨(pages.length - p).toNat, by omega⟩
  rw [hf]
  conv => lhs; unfold runFrom
  rw [if_neg (by omega), show (pages.length + 1 - (p + 1)).toNat = f by omega]
theorem empty_succ {pages : List Int} {p i : Int} (h : 0 ≤ i) : emptyP pages p (i + 1) ↔ emptyP pages p i ∧ at_ pages (p + i) = 0 := by
  unfold emptyP
  constructor
  · intro hh; exact ⟨fun q q1 q2 => hh q q1 (by omega), hh i h (by omega)⟩
  · rintro ⟨h1, h2⟩ q q1 q2
    by_cases e : q = i
    · rw [e]; exact h2
    · exact h1 q q1 (by omega)
theorem zRun_fn (σ : AHeap) (b : Bk) (pv h0 h1 h2 h3 ov iv ev : AV) (n : Int) (hb : BkV σ b pv h0 h1 h2 h3 ov iv ev) (hs : BkS b) (h : 0 ≤ n ∧ n ≤ 1000000) : Fn Tryz.prog 233 [bV b pv h0 h1 h2 h3 ov iv ev, .int .i64 n] σ fun x τ => x = .int .i64 (runOf b.pages n) ∧ τ = σ := by
  refine fn_pure ord0 mixed Tryz.func233 (by kernel_rfl) rfl (by kernel_rfl) (by rfl) ?_
  obtain ⟨vp, _, _, _, _, vo, _, _⟩ := hb
  obtain ⟨_, ⟨sp, sp'⟩, _, ⟨so, _⟩, _, _⟩ := hs
  simp (config := {contextual := true, maxSteps := 1000000}) (disch := first | exact dA | fail) [go_sem, envOf, wrap_i64, int_lt, -Int.not_le, -Int.not_lt, Bool.decide_and, Bool.decide_or, and_assoc, Bool.and_assoc, Bool.or_assoc, Prod.exists, Prod.forall]
  refine aloops_lt (fun R_ env τ => ∃ (p : Int), env 1 = .int .i64 n ∧ env 2 = .ptr σ.n 0 ∧ env 5 = .int .i64 p ∧ bHp σ b pv h0 h1 h2 h3 ov iv ev = τ ∧ R_ ((b.pages.length + 1 - p).toNat) ∧ (0 ≤ p ∧ p ≤ b.pages.length + 1 ∧ runOf b.pages n = runFrom b.pages n (b.pages.length + 1 - p).toNat p)) (by rintro R_ env τ ⟨p, e1, e2, e5, h_, hR_, hp⟩; exact ⟨_, hR_, p, e1, e2, e5, h_, rfl, hp⟩) ⟨0, by first | rfl | simp [put_get, *], by first | rfl | simp [put_get, *], by first | rfl | simp [put_get, *], rfl, trivial, ?_⟩ ?_
  rotate_left
  rintro m_ env τ ⟨p, e1, e2, e5, rfl, rfl, hp⟩
  rotate_left
  · exact ⟨by omega, by omega, by unfold runOf; congr 1⟩
  simp (config := {contextual := true, maxSteps := 1000000}) (disch := first | exact dA | fail) [go_sem, envOf, wrap_i64, int_lt, -Int.not_le, -Int.not_lt, Bool.decide_and, Bool.decide_or, and_assoc, Bool.and_assoc, Bool.or_assoc, Prod.exists, Prod.forall, e1, e2, e5]
  refine ⟨fun hq => ?_, fun hq => ?_⟩
  · have hpo := hp
    have he0 : emptyP b.pages p 0 := fun q q1 q2 => by omega
    refine aloops_lt (fun R_ env τ => ∃ (i : Int), env 1 = .int .i64 n ∧ env 2 = .ptr σ.n 0 ∧ env 5 = .int .i64 p ∧ env 7 = .int .i64 i ∧ env 6 = .bool (decide (emptyP b.pages p i)) ∧ bHp σ b pv h0 h1 h2 h3 ov iv ev = τ ∧ R_ ((n - i).toNat) ∧ (0 ≤ i ∧ i ≤ n)) (by rintro R_ env τ ⟨i, e1, e2, e5, e7, e6, h_, hR_, hp⟩; exact ⟨_, hR_, i, e1, e2, e5, e7, e6, h_, rfl, hp⟩) ⟨0, by first | rfl | simp [put_get, *], by first | rfl | simp [put_get, *], by first | rfl | simp [put_get, *], by first | rfl | simp [put_get, *], by first | rfl | simp [put_get, *], rfl, trivial, ?_⟩ ?_
    rotate_left
    rintro m_ env τ ⟨i, e1, e2, e5, e7, e6, rfl, rfl, hp⟩
    rotate_left
    · exact ⟨by omega, by omega⟩
    simp (config := {contextual := true, maxSteps := 1000000}) (disch := first | exact dA | fail) [go_sem, envOf, wrap_i64, int_lt, -Int.not_le, -Int.not_lt, Bool.decide_and, Bool.decide_or, and_assoc, Bool.and_assoc, Bool.or_assoc, Prod.exists, Prod.forall, e1, e2, e5, e6, e7]
    have es := @empty_succ b.pages p i hp.1
    have rs := run_step (p := p) h.1 hq
    refine ⟨fun hi => ⟨?_, by omega, by omega, by omega⟩, fun hi => ?_⟩
    · by_cases c1 : emptyP b.pages p i <;> by_cases c2 : at_ b.pages (p + i) = 0 <;> simp [es, c1, c2]
    · have ein : i = n := by omega
      subst ein
      refine ⟨fun he => ?_, fun he => ⟨by omega, by omega, by omega, ?_⟩⟩
      · rw [hpo.2.2, rs, if_pos he]
      · rw [hpo.2.2, rs, if_neg he]
  · rw [hpo_run (by omega) hq] at hp
    exact hp.2.2.symm
@[go_sem] theorem zRun_s (σ : AHeap) (b : Bk) (pv h0 h1 h2 h3 ov iv ev : AV) (n : Int) (hb : BkV σ b pv h0 h1 h2 h3 ov iv ev) (hs : BkS b) (h : 0 ≤ n ∧ n ≤ 1000000) (kk_ : AV → AHeap → Prop) : @callP Tryz.prog (.fn 233 [] []) [bV b pv h0 h1 h2 h3 ov iv ev, .int .i64 n] σ ⟨kk_⟩ = @Alt (kk_ (.int .i64 (runOf b.pages n)) σ) ⟨@callP Tryz.prog (.fn 233 [] []) [bV b pv h0 h1 h2 h3 ov iv ev, .int .i64 n] σ ⟨kk_⟩⟩ := callP_alt (zRun_fn σ b pv h0 h1 h2 h3 ov iv ev n hb hs h)
theorem zWhose_fn (σ : AHeap) (b : Bk) (pv h0 h1 h2 h3 ov iv ev : AV) (slot a : Int) (hb : BkV σ b pv h0 h1 h2 h3 ov iv ev) (hs : BkS b) (h : b.owner.length = b.pages.length * 8) (h' : -1000000 ≤ slot ∧ slot ≤ 1000000) : Fn Tryz.prog 190 [bV b pv h0 h1 h2 h3 ov iv ev, .int .i64 slot, .int .i64 a] σ fun x τ => x = .int .i64 (whose b slot a) ∧ τ = σ := by
  refine fn_pure ord0 mixed Tryz.func190 (by kernel_rfl) rfl (by kernel_rfl) (by rfl) ?_
  have hb' := hb
  have hs' := hs
  obtain ⟨vp, _, _, _, _, vo, _, _⟩ := hb
  have hr : ¬ roomOf b a = 0 → 0 ≤ a ∧ a < b.owner.length := fun hh => by
    unfold roomOf at hh
    split at hh
    · exact absurd rfl hh
    · omega
  by_cases hz : roomOf b a = 0
  · simp (config := {contextual := true, maxSteps := 1000000}) (disch := first | exact dA | fail) [go_sem, envOf, wrap_i64, int_lt, -Int.not_le, -Int.not_lt, Bool.decide_and, Bool.decide_or, and_assoc, Bool.and_assoc, Bool.or_assoc, Prod.exists, Prod.forall, whose, hz]
  · have hr' := hr hz
    simp (config := {contextual := true, maxSteps := 1000000}) (disch := first | exact dA | fail) [go_sem, envOf, wrap_i64, int_lt, -Int.not_le, -Int.not_lt, Bool.decide_and, Bool.decide_or, and_assoc, Bool.and_assoc, Bool.or_assoc, Prod.exists, Prod.forall, whose, hz]
@[go_sem] theorem zWhose_s (σ : AHeap) (b : Bk) (pv h0 h1 h2 h3 ov iv ev : AV) (slot a : Int) (hb : BkV σ b pv h0 h1 h2 h3 ov iv ev) (hs : BkS b) (h : b.owner.length = b.pages.length * 8) (h' : -1000000 ≤ slot ∧ slot ≤ 1000000) (kk_ : AV → AHeap → Prop) : @callP Tryz.prog (.fn 190 [] []) [bV b pv h0 h1 h2 h3 ov iv ev, .int .i64 slot, .int .i64 a] σ ⟨kk_⟩ = @Alt (kk_ (.int .i64 (whose b slot a)) σ) ⟨@callP Tryz.prog (.fn 190 [] []) [bV b pv h0 h1 h2 h3 ov iv ev, .int .i64 slot, .int .i64 a] σ ⟨kk_⟩⟩ := callP_alt (zWhose_fn σ b pv h0 h1 h2 h3 ov iv ev slot a hb hs h h')
end AH
/- THE PLAIN MODEL: a call leaves a book of the same shape, of small numbers. -/
namespace AH
open Ho
set_option maxHeartbeats 1000000
theorem at_put (xs : List Int) (a x j : Int) : at_ (put xs a x) j = if j.toNat = a.toNat ∧ a.toNat < xs.length then x else at_ xs j := by
  unfold at_ put
  rw [List.getD_eq_getElem?_getD, List.getD_eq_getElem?_getD, List.getElem?_set]
  by_cases h : a.toNat = j.toNat
  · by_cases h2 : a.toNat < xs.length
    · rw [if_pos h, if_pos h2, if_pos ⟨h.symm, h2⟩]; rfl
    · rw [if_pos h, if_neg h2, if_neg (fun hh => h2 hh.2), List.getElem?_eq_none (by omega)]
  · rw [if_neg h, if_neg (fun hh => h hh.1.symm)]
theorem put_len' (xs : List Int) (a x : Int) : (put xs a x).length = xs.length := by simp [put]
theorem fillN_len (xs : List Int) (a x : Int) (n : Nat) : (fillN xs a x n).length = xs.length := by
  induction n with
  | zero => rfl
  | succ n ih => simp only [fillN, put_len', ih]
theorem Sm.of {xs : List Int} (h : (xs.length : Int) ≤ 1000000) (hx : ∀ x ∈ xs, -1000000000000 ≤ x ∧ x ≤ 1000000000000) : Sm xs := by
  refine ⟨h, fun j => ?_⟩
  unfold at_
  rw [List.getD_eq_getElem?_getD]
  cases hj : xs[j.toNat]? with
  | none => simp
  | some w => exact hx w (List.mem_of_getElem? hj)
theorem Sm.mem {xs : List Int} (h : Sm xs) : ∀ x ∈ xs, -1000000000000 ≤ x ∧ x ≤ 1000000000000 := by
  intro x hx
  obtain ⟨i, hi, rfl⟩ := List.mem_iff_getElem.1 hx
  have := h.2 i
  simpa [at_, hi] using this
theorem Sm.put {xs : List Int} (h : Sm xs) (a : Int) {x : Int} (hx : -1000000000000 ≤ x ∧ x ≤ 1000000000000) : Sm (put xs a x) := by
  refine ⟨by rw [put_len']; exact h.1, fun j => ?_⟩
  rw [at_put]
  split
  · exact hx
  · exact h.2 j
theorem Sm.fill {xs : List Int} (h : Sm xs) (a : Int) {x : Int} (hx : -1000000000000 ≤ x ∧ x ≤ 1000000000000) (n : Nat) : Sm (fillN xs a x n) := by
  induction n with
  | zero => exact h
  | succ n ih => exact Sm.put ih _ hx
theorem Sm.tail {xs : List Int} (h : Sm xs) : Sm xs.tail :=
  .of (by have := h.1; simp; omega) fun x hx => h.mem x (List.mem_of_mem_tail hx)
theorem Sm.nil : Sm [] := .of (by simp) (by simp)
theorem runFrom_rng (pages : List Int) (n : Int) : ∀ (f : Nat) (p : Int), runFrom pages n f p = -1 ∨ (p ≤ runFrom pages n f p ∧ runFrom pages n f p + n ≤ pages.length) := by
  intro f
  induction f with
  | zero => intro p; exact .inl rfl
  | succ f ih =>
    intro p
    unfold runFrom
    split
    · exact .inl rfl
    · split
      · right; omega
      · rcases ih (p + 1) with h | h
        · exact .inl h
        · right; omega
theorem runOf_rng (pages : List Int) (n : Int) : runOf pages n = -1 ∨ (0 ≤ runOf pages n ∧ runOf pages n + n ≤ pages.length) := runFrom_rng pages n _ 0
theorem firstIx_rng (l : List Int) (v : Int) : ∀ i : Int, firstIx l v i = -1 ∨ (i ≤ firstIx l v i ∧ firstIx l v i < i + l.length) := by
  induction l with
  | nil => intro i; exact .inl rfl
  | cons x l ih =>
    intro i
    unfold firstIx
    split
    · right; simp; omega
    · rcases ih (i + 1) with h | h
      · exact .inl h
      · right; simp; omega
theorem roomOf_rng {b : Bk} {a : Int} (h : ¬ roomOf b a = 0) : 0 ≤ a ∧ a < b.owner.length := by
  unfold roomOf at h
  split at h
  · exact absurd rfl h
  · omega
/-- The same shape, small numbers. -/
structure Shp (b b' : Bk) : Prop where
  s : b'.slots = b.slots
  p : b'.pages.length = b.pages.length
  o : b'.owner.length = b.owner.length
  i : b'.inn.length = b.inn.length
  e : b'.epoch.length = b.epoch.length
  S : BkS b'
theorem Shp.refl {b : Bk} (h : BkS b) : Shp b b := ⟨rfl, rfl, rfl, rfl, rfl, h⟩
theorem setH_sm {h : Nat → List Int} (hh : ∀ k, Sm (h k)) {k : Nat} {l : List Int} (hl : Sm l) : ∀ j, Sm (setH h k l j) := by
  intro j; unfold setH; split
  · exact hl
  · exact hh j
theorem heads_le {b : Bk} (hb : bookP b) (hs : BkS b) (k : Nat) (hk : k < 4) : ((b.heads k).length : Int) ≤ 48 := by
  have h1 := (hb.2.1 k hk).1
  have h2 := hb.1.1
  omega
theorem backB_shp {b : Bk} (hb : bookP b) (hs : BkS b) {a : Int} (ha : 0 ≤ a ∧ a < b.owner.length) : Shp b (backB b a) := by
  have hl := hb.1.1
  have ha2 : a ≤ 48 := by omega
  unfold backB
  dsimp only
  split
  · exact ⟨rfl, by simp [fillN_len], by simp [put_len'], rfl, rfl, ⟨hs.s, hs.p.fill _ (by omega) _, hs.h, hs.o.put _ (by omega), hs.i, hs.e⟩⟩
  · rename_i hk
    have hk4 := kind_lt (at_ b.pages (a / 8))
    have hhl := heads_le hb hs (kindOf (at_ b.pages (a / 8))).toNat (by omega)
    have hsm : Sm (a :: b.heads (kindOf (at_ b.pages (a / 8))).toNat) := .of (by simp; omega) (by
      intro x hx
      rcases List.mem_cons.1 hx with rfl | hx
      · omega
      · exact (hs.h _).mem x hx)
    split
    · exact ⟨rfl, by simp [put_len'], by simp [put_len'], rfl, rfl, ⟨hs.s, hs.p.put _ (by omega), setH_sm hs.h (.of (by
          have := List.length_filter_le (fun x => decide (x / 8 ≠ a / 8)) (a :: b.heads (kindOf (at_ b.pages (a / 8))).toNat)
          have h1 := hsm.1
          omega) fun x hx => hsm.mem x (List.mem_filter.1 hx).1), hs.o.put _ (by omega), hs.i, hs.e⟩⟩
    · exact ⟨rfl, rfl, by simp [put_len'], rfl, rfl, ⟨hs.s, hs.p, setH_sm hs.h hsm, hs.o.put _ (by omega), hs.i, hs.e⟩⟩
theorem sz_rng (k : Int) (h : 0 ≤ k ∧ k < 4) : 1 ≤ sz k ∧ sz k ≤ 8 := by
  have : k = 0 ∨ k = 1 ∨ k = 2 ∨ k = 3 := by omega
  rcases this with rfl | rfl | rfl | rfl <;> exact ⟨by decide, by decide⟩
theorem bookKind_lt (u : Int) : bookKind u ≤ 4 ∧ -1 ≤ bookKind u ∧ (bookKind u = 4 → u ≤ 32 ∧ 9 ≤ u) := by
  unfold bookKind
  repeat' split
  all_goals omega
theorem carve_shp {b : Bk} (hb : bookP b) (hs : BkS b) {p k : Int} (hp : 0 ≤ p ∧ p ≤ 6) (hk : 0 ≤ k ∧ k < 4) : Shp b (carve b p k) := by
  have hhl := heads_le hb hs k.toNat (by omega)
  have hz := sz_rng k hk
  unfold carve
  refine ⟨rfl, by simp [put_len'], rfl, rfl, rfl, ⟨hs.s, hs.p.put _ (by omega), setH_sm hs.h (.of ?_ ?_), hs.o, hs.i, hs.e⟩⟩
  · unfold carveL
    have h8 : 8 / (sz k).toNat ≤ 8 := Nat.div_le_self _ _
    simp only [List.length_append, List.length_map, List.length_range]
    generalize 8 / (sz k).toNat = q at h8
    omega
  · intro x hx
    rcases List.mem_append.1 hx with hx | hx
    · exact (hs.h _).mem x hx
    · unfold carveL at hx
      obtain ⟨j, hj, rfl⟩ := List.mem_map.1 hx
      have hj8 : j < 8 := by
        have := List.mem_range.1 hj
        have h8 : 8 / (sz k).toNat ≤ 8 := Nat.div_le_self _ _
        omega
      have e : (j : Int) * sz k ≤ 8 * 8 := Int.mul_le_mul (by omega) (by omega) (by omega) (by omega)
      have e0 : 0 ≤ (j : Int) * sz k := Int.mul_nonneg (by omega) (by omega)
      omega
theorem doB_shp {b : Bk} (hb : bookP b) (hs : BkS b) (op : Op) : Shp b (doB b op).1 := by
  have hl := hb.1.1
  have hS := Shp.refl hs
  unfold doB
  split
  · exact hS
  · split
    · split
      · exact hS
      · split
        · exact hS
        · have he := hs.e.2 op.slot
          have hse := (hb.1.2.1 op.slot (by omega) (by omega))
          exact ⟨rfl, rfl, rfl, by simp [put_len'], by simp [put_len'], ⟨hs.s, hs.p, hs.h, hs.o, hs.i.put _ (by omega), hs.e.put _ (by omega)⟩⟩
    · split
      · exact hS
      · unfold ownB
        split
        · unfold takeB
          have hk := bookKind_lt op.a
          dsimp only
          split
          · exact hS
          · split
            · split
              · exact hS
              · exact ⟨rfl, by simp [put_len', fillN_len], by simp [put_len'], rfl, rfl, ⟨hs.s, (hs.p.put _ (by omega)).fill _ (by omega) _, hs.h, hs.o.put _ (by omega), hs.i, hs.e⟩⟩
            · have go : ∀ b', Shp b b' → Shp b { b' with heads := setH b'.heads (bookKind op.a).toNat (b'.heads (bookKind op.a).toNat).tail, owner := put b'.owner (at_ (b'.heads (bookKind op.a).toNat) 0) (op.slot + 1) } := by
                rintro b' ⟨c1, c2, c3, c4, c5, c6⟩
                exact ⟨c1, c2, by simp [put_len', c3], c4, c5, ⟨c6.s, c6.p, setH_sm c6.h (c6.h _).tail, c6.o.put _ (by omega), c6.i, c6.e⟩⟩
              split
              · split
                · exact hS
                · rename_i hp
                  have hr := runOf_rng b.pages 1
                  exact go _ (carve_shp hb hs (by omega) (by omega))
              · exact go _ hS
        · split
          · split
            · exact hS
            · rename_i hw
              refine backB_shp hb hs (roomOf_rng (b := b) fun hr => ?_)
              unfold whose at hw
              rw [if_pos hr] at hw
              omega
          · split
            · split
              · exact hS
              · split
                · exact hS
                · split
                  · exact hS
                  · exact ⟨rfl, rfl, by simp [put_len'], rfl, rfl, ⟨hs.s, hs.p, hs.h, hs.o.put _ (by omega), hs.i, hs.e⟩⟩
            · split
              · split
                · exact hS
                · exact ⟨rfl, rfl, rfl, by simp [put_len'], rfl, ⟨hs.s, hs.p, hs.h, hs.o, hs.i.put _ (by omega), hs.e⟩⟩
              · split
                · unfold reapB
                  split
                  · exact hS
                  · split
                    · exact hS
                    · split
                      · exact hS
                      · split
                        · exact ⟨rfl, rfl, rfl, by simp [put_len'], rfl, ⟨hs.s, hs.p, hs.h, hs.o, hs.i.put _ (by omega), hs.e⟩⟩
                        · refine backB_shp hb hs ?_
                          have hf := firstIx_rng b.owner (op.a + 1) 0
                          unfold firstOf at *
                          omega
                · exact hS
end AH
