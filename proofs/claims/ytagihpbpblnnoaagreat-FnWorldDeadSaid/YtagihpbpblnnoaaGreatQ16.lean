import Derived.Test.YtagihpbpblnnoaaGreatQ15
set_option linter.all false
namespace AH
open Go Go.Proofs Ho
set_option maxRecDepth 10000
set_option maxHeartbeats 4000000
attribute [go_sem] unint_int
theorem Rd.keeps {σ τ : AHeap} {n i : Nat} {bv : AV} {bs : List Int} {p : Int} (h : Rd σ i bv bs p) (hk : Keeps n σ τ) (hi : i < n) (hb : bv.lt n = true) (hn : σ.n ≤ τ.n) : Rd τ i bv bs p :=
  ⟨by have := h.hi; omega, by rw [hk i hi]; exact h.hg, h.hb.keeps hk hb hn, h.ne, h.by', h.len, h.hp⟩
theorem keeps_reset {n i : Nat} {σ τ : AHeap} {A B : ABlk} (h : Keeps n (σ.set i A) τ) : Keeps n (σ.set i B) (τ.set i B) := by
  intro j hj
  have := h j hj
  by_cases e : j = i
  · rw [AHeap.set_get, if_pos e, AHeap.set_get, if_pos e]
  · rw [AHeap.set_get, if_neg e] at this ⊢; rw [AHeap.set_get, if_neg e]; exact this
theorem set_cm {i j : Nat} (h : i ≠ j) (σ : AHeap) (A B : ABlk) : (σ.set i A).set j B = (σ.set j B).set i A := by
  unfold AHeap.set
  congr 1
  funext q
  dsimp only
  by_cases e : q = j
  · subst e; rw [if_pos rfl, if_neg (Ne.symm h), if_pos rfl]
  · rw [if_neg e]
    by_cases e' : q = i
    · rw [if_pos e', if_pos e']
    · rw [if_neg e', if_neg e', if_neg e]
theorem keeps_get {n j : Nat} {σ τ : AHeap} (hk : Keeps n σ τ) (hj : j < n) : τ.get j = σ.get j := hk j hj
theorem op_leaf {σ τ : AHeap} {ol : List Int} {u p : Int} {q i : Nat} {l bs : List Int} {bv ov : AV} {Kp : Prop} (h : ¬ (ol.length : Int) ≤ u) (u0 : 0 ≤ u) (u1 : u ≤ ol.length) (l1 : (l.length : Int) ≤ u) (lr : ∀ j : Int, 0 ≤ j → j < l.length → 0 ≤ at_ l j ∧ at_ l j < ol.length)
    (hq : σ.n + 3 < q ∧ q < τ.n) (hrd : Rd τ i bv bs (p + 3)) (hlo : LsV .i64 τ ov ol) (hk : Kp) (hqi : i ≠ q) (hbq : bOf bv ≠ q ∨ bv = .nils) (hoq : bOf ov ≠ q ∨ ov = .nils) :
    ∃ x : List Int, l.length + 1 = x.length ∧ ¬↑ol.length - u ≤ max (↑ol.length - (u + 1)) 0 ∧ 0 ≤ u + 1 ∧ u + 1 ≤ ↑ol.length ∧ ↑x.length ≤ u + 1 ∧ (∀ (j : Int), 0 ≤ j → ¬↑x.length ≤ j → 0 ≤ at_ x j ∧ ¬↑ol.length ≤ at_ x j) ∧ σ.n + 3 < τ.n + 1 ∧ List.map (AV.int IntKind.i64) l ++ [AV.int IntKind.i64 u] = List.map (AV.int IntKind.i64) x ∧ Rd (((τ.kill q).push { cells := [AV.int IntKind.i64 u], rw := true }).push { cells := List.map (AV.int IntKind.i64) l ++ [AV.int IntKind.i64 u], rw := true }) i bv bs (p + 3) ∧ LsV IntKind.i64 (((τ.kill q).push { cells := [AV.int IntKind.i64 u], rw := true }).push { cells := List.map (AV.int IntKind.i64) l ++ [AV.int IntKind.i64 u], rw := true }) ov ol ∧ Kp := by
  refine ⟨l ++ [u], by simp, by omega, by omega, by omega, by simp; omega, fun j j0 j1 => ?_, by omega, by simp, ((hrd.kill hqi hbq).push).push, ((hlo.kill hoq).push).push, hk⟩
  have := at_snoc (x := u) (P := fun z => 0 ≤ z ∧ z < ol.length) lr ⟨by omega, by omega⟩ j j0 (by omega)
  exact ⟨this.1, by omega⟩
theorem zOp_fn (σ : AHeap) (i : Nat) (bv : AV) (bs : List Int) (p : Int) (b : Bk) (pv h0 h1 h2 h3 ov iv ev : AV) (hr : Rd σ i bv bs p) (hp : p ≤ 999999000) (ho : LsV .i64 σ ov b.owner) (hs : Sm b.owner) (hne : bOf ov ≠ i ∨ ov = .nils) : Fn Tryz.prog 166 [.ptr i 0, bV b pv h0 h1 h2 h3 ov iv ev] σ fun x τ => ∃ a_ : Int × Int × Int × Int × Int, x = .agg [.int .i64 a_.1, .int .i64 a_.2.1, .int .i64 a_.2.2.1, .int .i64 a_.2.2.2.1] ∧ τ = σ.set i ⟨[bv, .int .i64 a_.2.2.2.2], true⟩ ∧ (p ≤ a_.2.2.2.2 ∧ a_.2.2.2.2 ≤ p + 12) := by
  refine fn_rel (fun a_ : Int × Int × Int × Int × Int => .agg [.int .i64 a_.1, .int .i64 a_.2.1, .int .i64 a_.2.2.1, .int .i64 a_.2.2.2.1]) (fun a_ : Int × Int × Int × Int × Int => σ.set i ⟨[bv, .int .i64 a_.2.2.2.2], true⟩) (fun a_ : Int × Int × Int × Int × Int => p ≤ a_.2.2.2.2 ∧ a_.2.2.2.2 ≤ p + 12) ord0 mixed Tryz.func166 (by kernel_rfl) rfl (by kernel_rfl) ?_ ?_ ?_ ?_
  · intros; rfl
  · intros; rfl
  · intro a _; exact hr.mut _
  have hi := hr.hi
  have hp0 := hr.hp
  obtain ⟨so, so'⟩ := hs
  have q0 := pick_rng (bs := bs) (k := p) (n := 12) (by omega)
  have q1 := pick_rng (bs := bs) (k := p + 1) (n := 3) (by omega)
  simp (config := {contextual := true, maxSteps := 1000000}) (disch := first | exact dA | fail) [go_sem, envOf, wrap_i64, int_lt, -Int.not_le, -Int.not_lt, Bool.decide_and, Bool.decide_or, and_assoc, Bool.and_assoc, Bool.or_assoc, Prod.exists, Prod.forall]
  repeat' (first | refine Alt.mk ?_ | refine And.intro ?_ ?_ | intro _)
  all_goals first | exact ⟨_, Keeps.refl _ _, by omega, by omega⟩ | skip
  all_goals
    refine aloops_lt (fun R_ env τ => ∃ (u : Int) (q : Nat) (l : List Int), env 7 = .int .i64 u ∧ env 6 = .sl q 0 l.length 1 ∧ env 0 = .ptr i 0 ∧ env 3 = .ptr σ.n 0 ∧ env 4 = .ptr (σ.n + 1) 0 ∧ env 5 = .ptr (σ.n + 1 + 1 + 1) 0 ∧ R_ (b.owner.length - u).toNat ∧
      (0 ≤ u ∧ u ≤ b.owner.length ∧ (l.length : Int) ≤ u ∧ (∀ j : Int, 0 ≤ j → j < l.length → 0 ≤ at_ l j ∧ at_ l j < b.owner.length)) ∧ (σ.n + 3 < q ∧ q < τ.n) ∧ τ.get q = some ⟨l.map (.int .i64), true⟩ ∧ τ.get σ.n = some ⟨[.int .i64 b.slots, pv, h0, h1, h2, h3, ov, iv, ev], true⟩ ∧
      τ.get (σ.n + 1) = some ⟨[.int .i64 0, .int .i64 0, .int .i64 0, .int .i64 0], true⟩ ∧ (∃ kd s a : Int, τ.get (σ.n + 1 + 1 + 1) = some ⟨[.int .i64 kd, .int .i64 s, .int .i64 a, .int .i64 0], true⟩) ∧ Rd τ i bv bs (p + 3) ∧ LsV .i64 τ ov b.owner ∧ Keeps σ.n (σ.set i ⟨[bv, .int .i64 (p + 3)], true⟩) τ)
      (by rintro R_ env τ ⟨u, q, l, e7, e6, e0, e3, e4, e5, hR_, hp⟩; exact ⟨_, hR_, u, q, l, e7, e6, e0, e3, e4, e5, rfl, hp⟩) ?_ ?_
    · refine ⟨0, σ.n + 1 + 1 + 1 + 1, [], rfl, rfl, rfl, rfl, rfl, rfl, trivial, ⟨by omega, by omega, by simp, fun j j1 j2 => by simp at j2; omega⟩, ⟨by omega, by simp⟩, ?_, ?_, ?_, ?_, ?_, ?_, ?_⟩
      · simp +arith [AHeap.push_get]
      · simp +arith [AHeap.push_get]
      · simp +arith [AHeap.push_get]
      · exact ⟨_, _, _, by simp [AHeap.push_get]; exact ⟨rfl, rfl, rfl⟩⟩
      · exact ((((((hr.upd (by omega)).push).push).push).push).push)
      · exact ((((((ho.set hne).push).push).push).push).push)
      · simp (config := {contextual := true, maxSteps := 1000000}) (disch := first | exact dA | fail) [go_sem, envOf, wrap_i64, int_lt, -Int.not_le, -Int.not_lt, Bool.decide_and, Bool.decide_or, and_assoc, Bool.and_assoc, Bool.or_assoc, Prod.exists, Prod.forall]
    · rintro m_ env τ ⟨u, q, l, e7, e6, e0, e3, e4, e5, rfl, hp, hq, gq, g0, g1, ⟨kd, s, a, g3⟩, hrd, hlo, hk⟩
      obtain ⟨u0, u1, l1, lr⟩ := hp
      have hrd1 := hrd.hi
      have hbq : bOf bv ≠ q ∨ bv = .nils := by rcases hr.hb.bof hr.hb.lt with h | h; exact .inl (by omega); exact .inr h
      have hoq : bOf ov ≠ q ∨ ov = .nils := by rcases ho.bof ho.lt with h | h; exact .inl (by omega); exact .inr h
      have hb1 : bOf bv ≠ σ.n + 1 ∨ bv = .nils := by rcases hr.hb.bof hr.hb.lt with h | h; exact .inl (by omega); exact .inr h
      have ho1 : bOf ov ≠ σ.n + 1 ∨ ov = .nils := by rcases ho.bof ho.lt with h | h; exact .inl (by omega); exact .inr h
      have hb3 : bOf bv ≠ σ.n + 1 + 1 + 1 ∨ bv = .nils := by rcases hr.hb.bof hr.hb.lt with h | h; exact .inl (by omega); exact .inr h
      have ho3 : bOf ov ≠ σ.n + 1 + 1 + 1 ∨ ov = .nils := by rcases ho.bof ho.lt with h | h; exact .inl (by omega); exact .inr h
      have hc1 : ∀ X A B, (AHeap.set (AHeap.set X (σ.n + 1) B) i A) = (X.set i A).set (σ.n + 1) B := fun X A B => set_cm (by omega) X B A
      have hc3 : ∀ X A B, (AHeap.set (AHeap.set X (σ.n + 1 + 1 + 1) B) i A) = (X.set i A).set (σ.n + 1 + 1 + 1) B := fun X A B => set_cm (by omega) X B A
      have hql : LsV .i64 τ (.sl q 0 l.length 1) l := lsv_at hq.2 gq rfl
      have hqi : bOf (.sl q 0 l.length 1) ≠ i ∨ AV.sl q 0 l.length 1 = .nils := .inl (by simp [bOf]; omega)
      by_cases hz : 0 < l.length
      · have c0 := pick_rng (bs := bs) (k := p + 4) (n := l.length) (by omega)
        have c1 := lr _ c0.1 c0.2
        simp (config := {contextual := true, maxSteps := 1000000}) (disch := first | exact dA | fail) [go_sem, envOf, wrap_i64, int_lt, -Int.not_le, -Int.not_lt, Bool.decide_and, Bool.decide_or, and_assoc, Bool.and_assoc, Bool.or_assoc, Prod.exists, Prod.forall, e0, e3, e4, e5, e6, e7, gq, g0, g1, g3, hz, hc1, hc3]
        repeat' (first | refine Alt.mk ?_ | refine And.intro ?_ ?_ | intro _)
        all_goals first
          | exact ⟨_, keeps_reset hk, by omega, by omega⟩
          | exact op_leaf (by assumption) u0 u1 l1 lr hq hrd hlo hk (by omega) hbq hoq
          | exact ⟨l, by simp, by omega, by omega, by omega, by omega, fun j j0 j1 => by have := lr j j0 (by omega); omega, by omega, by omega, rfl, hrd, hlo, hk⟩
          | skip
      · have hz0 : l = [] := List.eq_nil_of_length_eq_zero (by omega)
        subst hz0
        simp (config := {contextual := true, maxSteps := 1000000}) (disch := first | exact dA | fail) [go_sem, envOf, wrap_i64, int_lt, -Int.not_le, -Int.not_lt, Bool.decide_and, Bool.decide_or, and_assoc, Bool.and_assoc, Bool.or_assoc, Prod.exists, Prod.forall, e0, e3, e4, e5, e6, e7, gq, g0, g1, g3, hc1, hc3]
        repeat' (first | refine Alt.mk ?_ | refine And.intro ?_ ?_ | intro _)
        all_goals first
          | exact ⟨_, keeps_reset hk, by omega, by omega⟩
          | (have hh := op_leaf (l := []) (Kp := Keeps σ.n (σ.set i { cells := [bv, AV.int IntKind.i64 (p + 3)], rw := true }) τ) (by assumption) u0 u1 l1 lr hq hrd hlo hk (by omega) hbq hoq; simpa using hh)
          | exact ⟨[], by simp, by omega, by omega, by omega, by omega, fun j j0 j1 => by have := lr j j0 (by omega); omega, by omega, by omega, by simp, hrd, hlo, hk⟩
          | skip
@[go_sem] theorem zOp_s (σ : AHeap) (i : Nat) (bv : AV) (bs : List Int) (p : Int) (b : Bk) (pv h0 h1 h2 h3 ov iv ev : AV) (hr : Rd σ i bv bs p) (hp : p ≤ 999999000) (ho : LsV .i64 σ ov b.owner) (hs : Sm b.owner) (hne : bOf ov ≠ i ∨ ov = .nils) (kk_ : AV → AHeap → Prop) : @callP Tryz.prog (.fn 166 [] []) [.ptr i 0, bV b pv h0 h1 h2 h3 ov iv ev] σ ⟨kk_⟩ = @Alt (∀ a_ : Int × Int × Int × Int × Int, (p ≤ a_.2.2.2.2 ∧ a_.2.2.2.2 ≤ p + 12) → kk_ (.agg [.int .i64 a_.1, .int .i64 a_.2.1, .int .i64 a_.2.2.1, .int .i64 a_.2.2.2.1]) (σ.set i ⟨[bv, .int .i64 a_.2.2.2.2], true⟩)) ⟨@callP Tryz.prog (.fn 166 [] []) [.ptr i 0, bV b pv h0 h1 h2 h3 ov iv ev] σ ⟨kk_⟩⟩ := callP_rel kk_ (zOp_fn σ i bv bs p b pv h0 h1 h2 h3 ov iv ev hr hp ho hs hne)
end AH
