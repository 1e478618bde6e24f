import Derived.Test.YtagihpbpblnnoaaGreatQ23
import Derived.Test.YtagihpbpblnnoaaGreatQ14
set_option linter.all false
namespace AH
open Go Go.Proofs Ho
set_option maxRecDepth 20000
set_option maxHeartbeats 16000000
/-- Two blocks (a word of its own, that omega does not see). -/
def NE (a b : Nat) : Prop := a ≠ b
theorem NE.ne {a b : Nat} (h : NE a b) : a ≠ b := h
theorem NE.sym {a b : Nat} (h : NE a b) : b ≠ a := Ne.symm h
/-- A book of one's own: its blocks are n0 or later, each its own. -/
structure BkO (n0 : Nat) (τ : AHeap) (b : Bk) (p o i e h0 h1 h2 h3 : Nat) : Prop where
  lo : n0 ≤ p ∧ n0 ≤ o ∧ n0 ≤ i ∧ n0 ≤ e ∧ n0 ≤ h0 ∧ n0 ≤ h1 ∧ n0 ≤ h2 ∧ n0 ≤ h3
  hi : p < τ.n ∧ o < τ.n ∧ i < τ.n ∧ e < τ.n ∧ h0 < τ.n ∧ h1 < τ.n ∧ h2 < τ.n ∧ h3 < τ.n
  nd : NE p o ∧ NE p i ∧ NE p e ∧ NE p h0 ∧ NE p h1 ∧ NE p h2 ∧ NE p h3 ∧ NE o i ∧ NE o e ∧ NE o h0 ∧ NE o h1 ∧ NE o h2 ∧ NE o h3 ∧ NE i e ∧ NE i h0 ∧ NE i h1 ∧ NE i h2 ∧ NE i h3 ∧ NE e h0 ∧ NE e h1 ∧ NE e h2 ∧ NE e h3 ∧ NE h0 h1 ∧ NE h0 h2 ∧ NE h0 h3 ∧ NE h1 h2 ∧ NE h1 h3 ∧ NE h2 h3
  gp : τ.get p = some ⟨b.pages.map (.int .i64), true⟩
  go : τ.get o = some ⟨b.owner.map (.int .i64), true⟩
  gi : τ.get i = some ⟨b.inn.map (.int .i64), true⟩
  ge : τ.get e = some ⟨b.epoch.map (.int .i64), true⟩
  g0 : τ.get h0 = some ⟨(b.heads 0).map (.int .i64), true⟩
  g1 : τ.get h1 = some ⟨(b.heads 1).map (.int .i64), true⟩
  g2 : τ.get h2 = some ⟨(b.heads 2).map (.int .i64), true⟩
  g3 : τ.get h3 = some ⟨(b.heads 3).map (.int .i64), true⟩
abbrev bO (b : Bk) (p o i e h0 h1 h2 h3 : Nat) : AV :=
  bV b (.sl p 0 b.pages.length 1) (.sl h0 0 (b.heads 0).length 1) (.sl h1 0 (b.heads 1).length 1) (.sl h2 0 (b.heads 2).length 1) (.sl h3 0 (b.heads 3).length 1) (.sl o 0 b.owner.length 1) (.sl i 0 b.inn.length 1) (.sl e 0 b.epoch.length 1)
theorem BkO.v {n0 : Nat} {τ : AHeap} {b : Bk} {p o i e h0 h1 h2 h3 : Nat} (h : BkO n0 τ b p o i e h0 h1 h2 h3) :
    BkV τ b (.sl p 0 b.pages.length 1) (.sl h0 0 (b.heads 0).length 1) (.sl h1 0 (b.heads 1).length 1) (.sl h2 0 (b.heads 2).length 1) (.sl h3 0 (b.heads 3).length 1) (.sl o 0 b.owner.length 1) (.sl i 0 b.inn.length 1) (.sl e 0 b.epoch.length 1) := by
  obtain ⟨_, ⟨a1, a2, a3, a4, a5, a6, a7, a8⟩, _, gp, go, gi, ge, g0, g1, g2, g3⟩ := h
  exact ⟨lsv_at a1 gp rfl, lsv_at a5 g0 rfl, lsv_at a6 g1 rfl, lsv_at a7 g2 rfl, lsv_at a8 g3 rfl, lsv_at a2 go rfl, lsv_at a3 gi rfl, lsv_at a4 ge rfl⟩
theorem aloops_gen {P : Program} {ord : Nat → DOrd} {c : Code} {K : Exit → Env → AHeap → Prop} {env : Env} {σ : AHeap} (F : AHeap → Prop) (h0 : F σ) (h : ∀ τ, F τ → @aloops ⟨wpc P ord c⟩ ⟨K⟩ env τ) : @aloops ⟨wpc P ord c⟩ ⟨K⟩ env σ := h σ h0
theorem aloop_s (step : (Exit → Env → AHeap → Prop) → Env → AHeap → Prop) (K : Exit → Env → AHeap → Prop) (n : Nat) (env : Env) (σ : AHeap) : aloop step K (n + 1) env σ = step (athen (aloop step K n) K) env σ := _root_.id rfl
theorem kill_get_eq (σ : AHeap) (j : Nat) : (σ.kill j).get j = none := by simp [AHeap.kill_get]
theorem zCopy_fn (σ : AHeap) (b : Bk) (pv h0 h1 h2 h3 ov iv ev : AV) (hb : BkV σ b pv h0 h1 h2 h3 ov iv ev) (hs : BkS b) :
    Fn Tryz.prog 75 [bV b pv h0 h1 h2 h3 ov iv ev] σ fun x τ => ∃ p o i e q0 q1 q2 q3 : Nat, x = bO b p o i e q0 q1 q2 q3 ∧ BkO σ.n τ b p o i e q0 q1 q2 q3 ∧ Keeps σ.n σ τ ∧ σ.n ≤ τ.n := by
  refine fn_of ord75 mixed Tryz.func75 (by kernel_rfl) rfl (by kernel_rfl) ?_
  obtain ⟨vp, v0, v1, v2, v3, vo, vi, ve⟩ := hb
  obtain ⟨_, ⟨sp, _⟩, sh, ⟨so, _⟩, ⟨si, _⟩, ⟨se, _⟩⟩ := hs
  have s0 := (sh 0).1
  have s1 := (sh 1).1
  have s2 := (sh 2).1
  have s3 := (sh 3).1
  simp (config := {contextual := true, maxSteps := 1000000}) (disch := first | exact dB | fail) [go_sem, envOf, wrap_i64, int_lt, -Int.not_le, -Int.not_lt, Bool.decide_and, Bool.decide_or, and_assoc, Bool.and_assoc, Bool.or_assoc, Prod.exists, Prod.forall, ord75]
  refine aloops_gen (fun τ => τ.n = σ.n + 1 + 1 + 4 + 1 + 1 + 1 + 1 + 1 ∧ τ.get σ.n = some ⟨[.int .i64 b.slots, pv, h0, h1, h2, h3, ov, iv, ev], true⟩ ∧ τ.get (σ.n + 1) = some ⟨[.int .i64 0, .nils, .nils, .nils, .nils, .nils, .nils, .nils, .nils], true⟩ ∧
    τ.get (σ.n + 1 + 1 + 3) = some ⟨[.int .i64 b.slots, .sl (σ.n + 1 + 1 + 4 + 1) 0 b.pages.length 1, .nils, .nils, .nils, .nils, .sl (σ.n + 1 + 1 + 4 + 1 + 1) 0 b.owner.length 1, .sl (σ.n + 1 + 1 + 4 + 1 + 1 + 1) 0 b.inn.length 1, .sl (σ.n + 1 + 1 + 4 + 1 + 1 + 1 + 1) 0 b.epoch.length 1], true⟩ ∧
    τ.get (σ.n + 1 + 1 + 4 + 1) = some ⟨b.pages.map (.int .i64), true⟩ ∧ τ.get (σ.n + 1 + 1 + 4 + 1 + 1) = some ⟨b.owner.map (.int .i64), true⟩ ∧ τ.get (σ.n + 1 + 1 + 4 + 1 + 1 + 1) = some ⟨b.inn.map (.int .i64), true⟩ ∧ τ.get (σ.n + 1 + 1 + 4 + 1 + 1 + 1 + 1) = some ⟨b.epoch.map (.int .i64), true⟩ ∧ Keeps σ.n σ τ) ?_ ?_
  · refine ⟨by simp +arith [res_n], ?_, ?_, ?_, ?_, ?_, ?_, ?_, ?_⟩
    all_goals first
      | (simp +arith [AHeap.push_get, AHeap.set_get, AHeap.kill_get, res_get, res_n]; done)
      | (intro j_ hj_; simp (disch := first | exact NE.ne (by assumption) | exact NE.sym (by assumption) | omega | (simp only [push_n', set_n', kill_n', res_n]; omega)) only [push_get_lt, set_get_ne, kill_get_ne, res_lt])
  rintro τ ⟨n1, g0, g1, g3, gp, go, gi, ge, hk⟩
  have v0' := v0.keeps hk v0.lt (by omega)
  have v1' := v1.keeps hk v1.lt (by omega)
  have v2' := v2.keeps hk v2.lt (by omega)
  have v3' := v3.keeps hk v3.lt (by omega)
  have c0 := v0.ne (j := σ.n + 1 + 1 + 3) (by omega)
  have c1 := v1.ne (j := σ.n + 1 + 1 + 3) (by omega)
  have c2 := v2.ne (j := σ.n + 1 + 1 + 3) (by omega)
  have c3 := v3.ne (j := σ.n + 1 + 1 + 3) (by omega)
  clear v0 v1 v2 v3
  refine ⟨5, ?_⟩
  simp (config := {contextual := true, maxSteps := 1000000}) (disch := first | exact dB | fail) [go_sem, envOf, wrap_i64, int_lt, -Int.not_le, -Int.not_lt, Bool.decide_and, Bool.decide_or, and_assoc, Bool.and_assoc, Bool.or_assoc, Prod.exists, Prod.forall, ord75, aloop_s, g0, g1, g3]
  refine ⟨⟨by omega, by simp only [push_n', set_n', kill_n']; omega, by simp only [NE]; omega, ?_, ?_, ?_, ?_, ?_, ?_, ?_, ?_⟩, hk, by omega⟩ <;> (first | exact cGT | fail)
/-- As a rule for simp. -/
theorem zCopy_s (σ : AHeap) (b : Bk) (pv h0 h1 h2 h3 ov iv ev : AV) (hb : BkV σ b pv h0 h1 h2 h3 ov iv ev) (hs : BkS b) (k : AV → AHeap → Prop) :
    @callP Tryz.prog (.fn 75 [] []) [bV b pv h0 h1 h2 h3 ov iv ev] σ ⟨k⟩ = @Alt (∀ (τ : AHeap) (p o i e q0 q1 q2 q3 : Nat), BkO σ.n τ b p o i e q0 q1 q2 q3 → Keeps σ.n σ τ → σ.n ≤ τ.n → k (bO b p o i e q0 q1 q2 q3) τ) ⟨@callP Tryz.prog (.fn 75 [] []) [bV b pv h0 h1 h2 h3 ov iv ev] σ ⟨k⟩⟩ := by
  refine propext ⟨fun hh => .inr hh, fun hh => ?_⟩
  rcases hh with hh | hh
  · refine callP_use (zCopy_fn σ b pv h0 h1 h2 h3 ov iv ev hb hs) ?_
    rintro v σ' hn ⟨p, o, i, e, q0, q1, q2, q3, rfl, hB, hk, hn'⟩
    exact hh σ' p o i e q0 q1 q2 q3 hB hk hn'
  · exact hh
end AH
