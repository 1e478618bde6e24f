import Derived.Test.YtagihpbpblnnoaaGreatQ36
import Derived.Test.YtagihpbpblnnoaaGreatQ31
set_option linter.all false
namespace AH
open Go Go.Proofs Ho
set_option maxRecDepth 20000
set_option maxHeartbeats 16000000
/-- What a call of a book returns: a book of its own that can be read, a code, a number. -/
def BkQ (σ τ : AHeap) (r : Bk × Int × Int) (x : AV) : Prop := ∃ pv k0 k1 k2 k3 ov iv ev, x = .tup [bV r.1 pv k0 k1 k2 k3 ov iv ev, .int .i64 r.2.1, .int .i64 r.2.2] ∧ BkV τ r.1 pv k0 k1 k2 k3 ov iv ev ∧ (∀ y, y < σ.n → τ.get y = σ.get y) ∧ σ.n ≤ τ.n ∧
  ∀ y, y < σ.n → BkAp y pv k0 k1 k2 k3 ov iv ev
theorem zBookDo_fn (σ : AHeap) (b : Bk) (pv h0 h1 h2 h3 ov iv ev : AV) (op : Ho.Op) (hb : BkV σ b pv h0 h1 h2 h3 ov iv ev) (hs : BkS b) :
    Fn Tryz.prog 22 [bV b pv h0 h1 h2 h3 ov iv ev, .agg [.int .i64 op.kind, .int .i64 op.slot, .int .i64 op.a, .int .i64 op.b]] σ fun x τ => BkQ σ τ (bookDo b op) x := by
  refine fn_of ord22 mixed Tryz.func22 (by kernel_rfl) rfl (by kernel_rfl) ?_
  have i0 := And.intro hb.p.isL (And.intro hb.h0.isL (And.intro hb.h1.isL (And.intro hb.h2.isL (And.intro hb.h3.isL (And.intro hb.o.isL (And.intro hb.i.isL hb.e.isL))))))
  obtain ⟨l1, l2, l3, l4, l5, l6, l7, l8⟩ := i0
  by_cases hbk : bookP b
  rotate_left
  · have hT : bookDo b op = (Bk.zero, 13, 0) := by unfold bookDo; rw [if_neg hbk]
    simp (config := {contextual := true, maxSteps := 1000000}) (disch := first | exact dB | fail) [go_sem, envOf, wrap_i64, int_lt, -Int.not_le, -Int.not_lt, Bool.decide_and, Bool.decide_or, and_assoc, Bool.and_assoc, Bool.or_assoc, Prod.exists, Prod.forall, -List.map_set, set_put, ord22, hbk]
    (repeat refine Alt.mk ?_)
    rw [hT]
    refine ⟨.nils, .nils, .nils, .nils, .nils, .nils, .nils, .nils, rfl, ⟨.nil, .nil, .nil, .nil, .nil, .nil, .nil, .nil⟩, by intro y hy; simp (disch := first | omega | (simp only [push_n', set_n']; omega)) only [push_get_lt], by simp only [push_n']; omega, fun y hy => ⟨.inr rfl, .inr rfl, .inr rfl, .inr rfl, .inr rfl, .inr rfl, .inr rfl, .inr rfl⟩⟩
  · have hT : bookDo b op = doB b op := by unfold bookDo; rw [if_pos hbk]
    rw [hT]
    simp (config := {contextual := true, maxSteps := 1000000}) (disch := first | exact dB | fail) [go_sem, envOf, wrap_i64, int_lt, -Int.not_le, -Int.not_lt, Bool.decide_and, Bool.decide_or, and_assoc, Bool.and_assoc, Bool.or_assoc, Prod.exists, Prod.forall, -List.map_set, set_put, ord22, hbk]
    (repeat refine Alt.mk ?_)
    have hv1 : BkV (((σ.push ⟨[.int .i64 b.slots, pv, h0, h1, h2, h3, ov, iv, ev], true⟩).push ⟨[.int .i64 op.kind, .int .i64 op.slot, .int .i64 op.a, .int .i64 op.b], true⟩).push ⟨[.int .i64 0, .nils, .nils, .nils, .nils, .nils, .nils, .nils, .nils], true⟩) b pv h0 h1 h2 h3 ov iv ev := hb.push.push.push
    refine callP_use (zCopy_fn _ b pv h0 h1 h2 h3 ov iv ev hv1 hs) ?_
    rintro v τ hnn ⟨p, o, i, e, q0, q1, q2, q3, rfl, hB, hk, hn⟩
    simp only [push_n'] at hk hn
    have g0 := hk σ.n (by omega)
    have g1 := hk (σ.n + 1) (by omega)
    have g2 := hk (σ.n + 1 + 1) (by omega)
    simp (disch := first | omega | (simp only [push_n']; omega)) only [push_get_lt] at g0 g1
    rw [get_push_eq _ rfl] at g0
    rw [get_push_eq _ (by simp only [push_n'])] at g1 g2
    have hlo := hB.lo
    simp only [push_n'] at hlo
    have hk0 : ∀ y, y < σ.n → τ.get y = σ.get y := by
      intro y hy
      rw [hk y (by omega)]
      simp (disch := first | omega | (simp only [push_n']; omega)) only [push_get_lt]
    simp (config := {contextual := true, maxSteps := 1000000}) (disch := first | exact dB | fail) [go_sem, envOf, wrap_i64, int_lt, -Int.not_le, -Int.not_lt, Bool.decide_and, Bool.decide_or, and_assoc, Bool.and_assoc, Bool.or_assoc, Prod.exists, Prod.forall, -List.map_set, set_put, ord22, g0, g1, g2]
    (repeat refine Alt.mk ?_)
    refine callP_use (zDo_fn τ b _ p o i e q0 q1 q2 q3 op hB hs hbk) ?_
    rintro v τ2 hnn2 ⟨y, rfl, hR⟩
    have hout : ∀ y, y < σ.n + 3 → Out y p o i e q0 q1 q2 q3 := by
      intro y hy
      constructor <;> (simp only [NE]; omega)
    obtain ⟨pv', k0, k1, k2, k3, ov', iv', ev', rfl, hv2, hf2, hn2, ha2⟩ := hR
    have g0' := (hf2 σ.n (by omega) (hout _ (by omega))).trans g0
    have g1' := (hf2 (σ.n + 1) (by omega) (hout _ (by omega))).trans g1
    have g2' := (hf2 (σ.n + 1 + 1) (by omega) (hout _ (by omega))).trans g2
    obtain ⟨i1, i2, i3, i4, i5, i6, i7, i8⟩ : IsL pv' ∧ IsL k0 ∧ IsL k1 ∧ IsL k2 ∧ IsL k3 ∧ IsL ov' ∧ IsL iv' ∧ IsL ev' := ⟨hv2.p.isL, hv2.h0.isL, hv2.h1.isL, hv2.h2.isL, hv2.h3.isL, hv2.o.isL, hv2.i.isL, hv2.e.isL⟩
    simp (config := {contextual := true, maxSteps := 1000000}) (disch := first | exact dB | fail) [go_sem, envOf, wrap_i64, int_lt, -Int.not_le, -Int.not_lt, Bool.decide_and, Bool.decide_or, and_assoc, Bool.and_assoc, Bool.or_assoc, Prod.exists, Prod.forall, -List.map_set, set_put, ord22, g0', g1', g2']
    refine ⟨g1.symm, pv', k0, k1, k2, k3, ov', iv', ev', rfl, hv2.set_ap (ha2 _ (by omega) (hout _ (by omega))), fun y hy => ?_, by simp only [set_n']; omega, fun y hy => ha2 y (by omega) (hout y (by omega))⟩
    rw [set_get_ne (by omega), hf2 y (by omega) (hout y (by omega)), hk0 y hy]
end AH
/- CONTRACTS OF THE REFERENCE: an empty book. -/
namespace AH
open Go Go.Proofs Ho
set_option maxRecDepth 20000
set_option maxHeartbeats 16000000
/-- An empty book, in blocks of its own. -/
structure BkE (n0 : Nat) (τ : AHeap) (s p : Int) (P O I E : Nat) : Prop where
  lo : n0 ≤ P ∧ n0 ≤ O ∧ n0 ≤ I ∧ n0 ≤ E
  hi : P < τ.n ∧ O < τ.n ∧ I < τ.n ∧ E < τ.n
  nd : NE P O ∧ NE P I ∧ NE P E ∧ NE O I ∧ NE O E ∧ NE I E
  gp : τ.get P = some ⟨(List.replicate p.toNat 0).map (.int .i64), true⟩
  go : τ.get O = some ⟨(List.replicate (p * 8).toNat 0).map (.int .i64), true⟩
  gi : τ.get I = some ⟨(List.replicate s.toNat 0).map (.int .i64), true⟩
  ge : τ.get E = some ⟨(List.replicate s.toNat 0).map (.int .i64), true⟩
theorem zBOpen_fn (σ : AHeap) (s p l : Int) (h : Cfg.ok ⟨s, p, l⟩) :
    Fn Tryz.prog 263 [cV s p l] σ fun x τ => ∃ P O I E, x = .agg [.int .i64 s, .sl P 0 p.toNat 1, .nils, .nils, .nils, .nils, .sl O 0 (p * 8).toNat 1, .sl I 0 s.toNat 1, .sl E 0 s.toNat 1] ∧ BkE σ.n τ s p P O I E ∧ Keeps σ.n σ τ ∧ σ.n ≤ τ.n := by
  refine fn_of ord263 mixed Tryz.func263 (by kernel_rfl) rfl (by kernel_rfl) ?_
  have h' := h
  unfold Cfg.ok at h'
  simp only at h'
  obtain ⟨c1, c2, c3, c4, c5, c6⟩ := h'
  have q1 : 0 ≤ s := by omega
  have q2 : 0 ≤ p := by omega
  have q3 : 0 ≤ p * 8 := by omega
  have q4 : ¬ 9223372036854775807 ≤ s := by omega
  have q5 : ¬ 9223372036854775807 ≤ p := by omega
  have q6 : ¬ 9223372036854775807 ≤ p * 8 := by omega
  have q7 : 8 * s ≤ 140737488355328 := by omega
  have q8 : 8 * p ≤ 140737488355328 := by omega
  have q9 : 8 * (p * 8) ≤ 140737488355328 := by omega
  simp (config := {contextual := true, maxSteps := 1000000}) (disch := first | exact dB | fail) [go_sem, envOf, wrap_i64, int_lt, -Int.not_le, -Int.not_lt, Bool.decide_and, Bool.decide_or, and_assoc, Bool.and_assoc, Bool.or_assoc, Prod.exists, Prod.forall, -List.map_set, set_put, ord263, h, amake, q1, q2, q3, q4, q5, q6, q7, q8, q9, -List.map_replicate]
  refine Alt.mk ⟨⟨by omega, by simp only [push_n', set_n', res_n]; omega, by simp only [NE]; omega, ?_, ?_, ?_, ?_⟩, by first | exact cKP | fail, by omega⟩ <;> (rw [List.map_replicate]; (first | exact cGT | fail))
end AH
