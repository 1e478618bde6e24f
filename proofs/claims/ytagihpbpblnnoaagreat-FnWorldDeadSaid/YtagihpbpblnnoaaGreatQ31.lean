import Derived.Test.YtagihpbpblnnoaaGreatQ18
set_option linter.all false
namespace AH
open Go Go.Proofs Ho
set_option maxRecDepth 20000
set_option maxHeartbeats 8000000
def format (c : Cfg) : List Int := put (put (List.replicate c.size.toNat 0) 0 (magic c)) 2 (pack 0 1)
theorem rep_ints (n : Nat) (k : IntKind) (x : Int) : (List.replicate n [AV.int k x]).flatten = (List.replicate n x).map (.int k) := by
  induction n with
  | zero => rfl
  | succ n ih => simp [List.replicate_succ, ih]
attribute [go_sem] rep_ints
theorem zFormat_fn (σ : AHeap) (s p l : Int) (h : Cfg.ok ⟨s, p, l⟩) :
    Fn Tryz.prog 218 [cV s p l] σ fun x τ => x = .sl σ.n 0 (format ⟨s, p, l⟩).length 1 ∧ τ = σ.push ⟨(format ⟨s, p, l⟩).map (.int .u64), true⟩ := by
  have key := fn_fresh (args := [cV s p l]) (σ := σ) (xs := (format ⟨s, p, l⟩).map (.int .u64)) ord0 mixed Tryz.func218 (by kernel_rfl) rfl (by kernel_rfl) (lts_ints _ _ _) ?_
  · simpa using key
  have h' := h
  unfold Cfg.ok at h'
  simp only at h'
  have hs : Cfg.size ⟨s, p, l⟩ = 7 + 23 * s + 17 * p := rfl
  have hs1 : 47 ≤ Cfg.size ⟨s, p, l⟩ ∧ Cfg.size ⟨s, p, l⟩ ≤ 1000 := by omega
  have q1 : 0 ≤ Cfg.size ⟨s, p, l⟩ := by omega
  have q2 : ¬ 9223372036854775807 ≤ Cfg.size ⟨s, p, l⟩ := by omega
  have q3 : 8 * Cfg.size ⟨s, p, l⟩ ≤ 140737488355328 := by omega
  have q4 : Cfg.size ⟨s, p, l⟩ ≤ 9223372036854775807 := by omega
  have q5 : ¬ max (Cfg.size ⟨s, p, l⟩) 0 ≤ 0 := by omega
  have q6 : ¬ max (Cfg.size ⟨s, p, l⟩) 0 ≤ 2 := by omega
  have q7 : 0 ≤ max (Cfg.size ⟨s, p, l⟩) 0 := by omega
  have s0 := fun x => map_put (kk := .u64) (ws := List.replicate (Cfg.size ⟨s, p, l⟩).toNat 0) (a := 0) (x := x) (by omega) (by simp; omega)
  have s2 := fun y x => map_put (kk := .u64) (ws := (List.replicate (Cfg.size ⟨s, p, l⟩).toNat 0).set 0 y) (a := 2) (x := x) (by omega) (by simp; omega)
  simp only [Int.toNat_zero, List.map_replicate, show (2 : Int).toNat = 2 from rfl] at s0 s2
  have q8 : 1 ≤ Cfg.size ⟨s, p, l⟩ := by omega
  have q9 : 3 ≤ Cfg.size ⟨s, p, l⟩ := by omega
  simp (config := {contextual := true, maxSteps := 1000000}) (disch := first | exact dA | fail) [go_sem, envOf, wrap_i64, int_lt, -Int.not_le, -Int.not_lt, Bool.decide_and, Bool.decide_or, and_assoc, Bool.and_assoc, Bool.or_assoc, Prod.exists, Prod.forall, h, amake, q1, q2, q3, q4, q5, q6, q7, q8, q9, s0, s2]
  have hfm : splice ((List.replicate (Cfg.size ⟨s, p, l⟩).toNat (AV.int .u64 0)).set 0 (AV.int .u64 (magic ⟨s, p, l⟩))) 2 [AV.int .u64 (pack 0 1)] = (format ⟨s, p, l⟩).map (.int .u64) := by
    have := s2 (magic ⟨s, p, l⟩) (pack 0 1)
    simpa [format, put, List.map_set] using this
  refine Alt.mk (Alt.mk (Alt.mk (Alt.mk ⟨by simp [format, put], ?_, ?_⟩)))
  · rw [hfm]; simp
  · rw [hfm, List.take_of_length_le (by simp)]
theorem zFormatN_fn (σ : AHeap) (s p l : Int) (h : ¬ Cfg.ok ⟨s, p, l⟩) : Fn Tryz.prog 218 [cV s p l] σ fun x τ => x = .nils ∧ τ = σ := by
  refine fn_pure ord0 mixed Tryz.func218 (by kernel_rfl) rfl (by kernel_rfl) (by rfl) ?_
  simp (config := {contextual := true, maxSteps := 1000000}) (disch := first | exact dA | fail) [go_sem, envOf, wrap_i64, int_lt, -Int.not_le, -Int.not_lt, Bool.decide_and, Bool.decide_or, and_assoc, Bool.and_assoc, Bool.or_assoc, Prod.exists, Prod.forall, h]
@[go_sem] theorem zFormatN_s (σ : AHeap) (s p l : Int) (h : ¬ Cfg.ok ⟨s, p, l⟩) (kk_ : AV → AHeap → Prop) : @callP Tryz.prog (.fn 218 [] []) [cV s p l] σ ⟨kk_⟩ = @Alt (kk_ (.nils) σ) ⟨@callP Tryz.prog (.fn 218 [] []) [cV s p l] σ ⟨kk_⟩⟩ := callP_alt (zFormatN_fn σ s p l h)
end AH
