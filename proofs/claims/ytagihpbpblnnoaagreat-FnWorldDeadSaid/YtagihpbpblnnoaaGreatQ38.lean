import Derived.Test.YtagihpbpblnnoaaGreatQ37
import Derived.Test.YtagihpbpblnnoaaGreatQ19
set_option linter.all false
namespace AH
open Go Go.Proofs Ho
set_option maxRecDepth 20000
set_option maxHeartbeats 16000000
theorem zList_s (σ : AHeap) (v : AV) (ws : List Int) (s p l' : Int) (k : Int) (hv : LsV .u64 σ v ws) (hW : ∀ w ∈ ws, isW w) (hs : 0 ≤ s ∧ s ≤ 10) (hp : 0 ≤ p ∧ p ≤ 10) (kk : AV → AHeap → Prop) :
    @callP Tryz.prog (.fn 265 [] []) [v, cV s p l', .int .i64 k] σ ⟨kk⟩ = @Alt (kk (.sl σ.n 0 (listFrom ws ⟨s, p, l'⟩ (p * 8 + 1).toNat (lval ws (pHead ⟨s, p, l'⟩ k))).length 1) (σ.push ⟨(listFrom ws ⟨s, p, l'⟩ (p * 8 + 1).toNat (lval ws (pHead ⟨s, p, l'⟩ k))).map (.int .i64), true⟩)) ⟨@callP Tryz.prog (.fn 265 [] []) [v, cV s p l', .int .i64 k] σ ⟨kk⟩⟩ := callP_alt (zList_fn σ v ws s p l' k hv hW hs hp)
attribute [go_sem] zList_s
/-- The first places are told, the others are 0. -/
def pre0 (n : Nat) (f : Nat → Int) (u : Nat) : List Int := (List.range u).map f ++ List.replicate (n - u) 0
theorem pre0_len {n u : Nat} {f : Nat → Int} (h : u ≤ n) : (pre0 n f u).length = n := by simp [pre0]; omega
theorem pre0_put {n u : Nat} {f : Nat → Int} (h : u < n) : put (pre0 n f u) (u : Int) (f u) = pre0 n f (u + 1) := by
  unfold pre0 put
  have hr : List.replicate (n - u) (0 : Int) = 0 :: List.replicate (n - (u + 1)) 0 := by
    rw [show n - u = (n - (u + 1)) + 1 by omega, List.replicate_succ]
  rw [hr, Int.toNat_natCast, List.set_append_right _ _ (by simp), List.range_succ]
  simp
theorem pre0_zero (n : Nat) (f : Nat → Int) : pre0 n f 0 = List.replicate n 0 := by simp [pre0]
theorem pre0_full (n : Nat) (f : Nat → Int) : pre0 n f n = (List.range n).map f := by simp [pre0]
theorem pre0_spl {n u : Nat} {f : Nat → Int} (h : u < n) : splice ((pre0 n f u).map (AV.int .i64)) u [.int .i64 (f u)] = (pre0 n f (u + 1)).map (.int .i64) := by
  have h1 := map_put (kk := .i64) (ws := pre0 n f u) (a := (u : Int)) (x := f u) (by omega) (by rw [pre0_len (by omega)]; omega)
  have h2 := pre0_put (f := f) h
  unfold put at h2
  rw [h2, Int.toNat_natCast] at h1
  exact h1
theorem zRead_fn (σ : AHeap) (v : AV) (ws : List Int) (s p l' : Int) (hv : LsV .u64 σ v ws) (hW : ∀ w ∈ ws, isW w) (h : Cfg.ok ⟨s, p, l'⟩) :
    Fn Tryz.prog 224 [v, cV s p l'] σ fun x τ => ∃ p' o i e q0 q1 q2 q3, x = bO (readB ws ⟨s, p, l'⟩) p' o i e q0 q1 q2 q3 ∧ BkO σ.n τ (readB ws ⟨s, p, l'⟩) p' o i e q0 q1 q2 q3 ∧ Keeps σ.n σ τ ∧ σ.n ≤ τ.n := by
  refine fn_of ord224 mixed Tryz.func224 (by kernel_rfl) rfl (by kernel_rfl) ?_
  obtain ⟨S, rfl⟩ : ∃ S : Nat, s = (S : Int) := ⟨s.toNat, by have := h.1; simp only at this; omega⟩
  obtain ⟨Q, rfl⟩ : ∃ Q : Nat, p = (Q : Int) := ⟨p.toNat, by have := h.2.2.1; simp only at this; omega⟩
  have h' := h
  unfold Cfg.ok at h'
  simp only at h'
  have e8 : ((Q : Int) * 8).toNat = Q * 8 := by omega
  simp (config := {contextual := true, maxSteps := 1000000}) (disch := first | exact dB | fail) [go_sem, envOf, wrap_i64, int_lt, -Int.not_le, -Int.not_lt, Bool.decide_and, Bool.decide_or, and_assoc, Bool.and_assoc, Bool.or_assoc, Prod.exists, Prod.forall, -List.map_set, set_put, ord224]
  (repeat refine Alt.mk ?_)
  refine callP_use (zBOpen_fn _ S Q l' h) ?_
  rintro x0 τ hnn ⟨P, O, I, E, rfl, hE, hk, hn⟩
  simp only [push_n'] at hk hn
  obtain ⟨⟨lo1, lo2, lo3, lo4⟩, ⟨hi1, hi2, hi3, hi4⟩, ⟨d1, d2, d3, d4, d5, d6⟩, gp, go, gi, ge⟩ := hE
  simp only [push_n', e8, Int.toNat_natCast] at lo1 lo2 lo3 lo4 gp go gi ge ⊢
  have g0 := hk σ.n (by omega)
  have g1 := hk (σ.n + 1) (by omega)
  simp (disch := first | omega | (simp only [push_n']; omega)) only [push_get_lt] at g0
  rw [get_push_eq _ rfl] at g0
  rw [get_push_eq _ (by simp only [push_n'])] at g1
  have hk0 : Keeps σ.n σ τ := by
    intro y hy
    rw [hk y (by omega)]
    simp (disch := first | omega | (simp only [push_n']; omega)) only [push_get_lt]
  simp (config := {contextual := true, maxSteps := 1000000}) (disch := first | exact dB | fail) [go_sem, envOf, wrap_i64, int_lt, -Int.not_le, -Int.not_lt, Bool.decide_and, Bool.decide_or, and_assoc, Bool.and_assoc, Bool.or_assoc, Prod.exists, Prod.forall, -List.map_set, set_put, ord224, g0, g1]
  (repeat refine Alt.mk ?_)
  obtain ⟨B, hB⟩ : ∃ B, B = τ.n := ⟨_, rfl⟩
  rw [← hB]
  obtain ⟨dB1, dB2, dB3, dB4⟩ : NE P B ∧ NE O B ∧ NE I B ∧ NE E B := by simp only [NE]; omega
  obtain ⟨dB5, dB6⟩ : NE σ.n B ∧ NE (σ.n + 1) B := by simp only [NE]; omega
  obtain ⟨fI, hfI⟩ : ∃ fI : Nat → Int, fI = fun (i : Nat) => cval (pload ws (pReg ⟨S, Q, l'⟩ i)) % 4 := ⟨_, rfl⟩
  obtain ⟨fE, hfE⟩ : ∃ fE : Nat → Int, fE = fun (i : Nat) => cval (pload ws (pReg ⟨S, Q, l'⟩ i)) / 4 := ⟨_, rfl⟩
  obtain ⟨fP, hfP⟩ : ∃ fP : Nat → Int, fP = fun (i : Nat) => lval ws (pPage ⟨S, Q, l'⟩ i) := ⟨_, rfl⟩
  obtain ⟨fO, hfO⟩ : ∃ fO : Nat → Int, fO = fun (i : Nat) => lval ws (pTag ⟨S, Q, l'⟩ i) := ⟨_, rfl⟩
  have eI : ∀ i : Nat, cval (pload ws (pReg ⟨S, Q, l'⟩ i)) % 4 = fI i := fun i => by rw [hfI]
  have eE : ∀ i : Nat, cval (pload ws (pReg ⟨S, Q, l'⟩ i)) / 4 = fE i := fun i => by rw [hfE]
  have eP : ∀ i : Nat, lval ws (pPage ⟨S, Q, l'⟩ i) = fP i := fun i => by rw [hfP]
  have eO : ∀ i : Nat, lval ws (pTag ⟨S, Q, l'⟩ i) = fO i := fun i => by rw [hfO]
  have hpl := fun a => pload_isW hW a
  refine aloops_lt (fun R_ env τ => ∃ (u : Nat), env 6 = .int .i64 u ∧ env 0 = v ∧ env 3 = .ptr σ.n 0 ∧ env 4 = .ptr (σ.n + 1) 0 ∧ env 5 = .ptr B 0 ∧ R_ (S - u) ∧ (u ≤ S) ∧ (τ.get B = some ⟨[.int .i64 (S : Int), .sl P 0 Q 1, .nils, .nils, .nils, .nils, .sl O 0 (Q * 8) 1, .sl I 0 S 1, .sl E 0 S 1], true⟩) ∧ (τ.get σ.n = some ⟨[.int .i64 (S : Int), .int .i64 (Q : Int), .int .i64 l'], true⟩) ∧ (τ.get (σ.n + 1) = some ⟨[.int .i64 0, .nils, .nils, .nils, .nils, .nils, .nils, .nils, .nils], true⟩) ∧ (τ.get P = some ⟨(List.replicate Q 0).map (.int .i64), true⟩) ∧ (τ.get O = some ⟨(List.replicate (Q * 8) 0).map (.int .i64), true⟩) ∧ (τ.get I = some ⟨(pre0 S fI u).map (.int .i64), true⟩) ∧ (τ.get E = some ⟨(pre0 S fE u).map (.int .i64), true⟩) ∧ (Keeps σ.n σ τ) ∧ (B < τ.n)) (by rintro R_ env τ ⟨u, e6, e0, e3, e4, e5, hR_, hu, gb, g0, g1, gp, go, gi, ge, hk0, hn⟩; exact ⟨_, hR_, u, e6, e0, e3, e4, e5, rfl, hu, gb, g0, g1, gp, go, gi, ge, hk0, hn⟩) ⟨0, by first | rfl | simp [put_get, *], by first | rfl | simp [put_get, *], by first | rfl | simp [put_get, *], by first | rfl | simp [put_get, *], by first | rfl | simp [put_get, *], trivial, ?_, ?_, ?_, ?_, ?_, ?_, ?_, ?_, ?_, ?_⟩ ?_
  rotate_left 10
  rintro m_ env τ ⟨u, e6, e0, e3, e4, e5, rfl, hu, gb, g0, g1, gp, go, gi, ge, hk0, hn⟩
  · have hv' := hv.keeps hk0 hv.lt (by omega)
    have hpr := hpl (pReg ⟨S, Q, l'⟩ u)
    have hl1 := pre0_len (f := fI) hu
    have hl2 := pre0_len (f := fE) hu
    by_cases hus : u < S
    · have hu2 : ¬ S ≤ u := by omega
      have p1 := pre0_spl (f := fI) hus
      have p2 := pre0_spl (f := fE) hus
      simp (config := {contextual := true, maxSteps := 1000000}) (disch := first | exact dB | fail) [go_sem, envOf, wrap_i64, int_lt, -Int.not_le, -Int.not_lt, Bool.decide_and, Bool.decide_or, and_assoc, Bool.and_assoc, Bool.or_assoc, Prod.exists, Prod.forall, -List.map_set, set_put, ord224, e6, e0, e3, e4, e5, gb, g0, gi, ge, hu2, eI, eE, hl1, hl2, p1, p2]
      (repeat refine Alt.mk ?_)
      exact ⟨u + 1, by omega, by omega, by omega, g1, by simpa using gp, by simpa using go, rfl, rfl, hk0, hn⟩
    · have hue : u = S := by omega
      subst hue
      rw [pre0_full] at gi ge
      simp (config := {contextual := true, maxSteps := 1000000}) (disch := first | exact dB | fail) [go_sem, envOf, wrap_i64, int_lt, -Int.not_le, -Int.not_lt, Bool.decide_and, Bool.decide_or, and_assoc, Bool.and_assoc, Bool.or_assoc, Prod.exists, Prod.forall, -List.map_set, set_put, ord224, e6, e0, e3, e4, e5, gb, g0]
      refine aloops_lt (fun R_ env τ => ∃ (k : Nat), env 7 = .int .i64 k ∧ env 0 = v ∧ env 3 = .ptr σ.n 0 ∧ env 4 = .ptr (σ.n + 1) 0 ∧ env 5 = .ptr B 0 ∧ R_ (Q - k) ∧ (k ≤ Q) ∧ (τ.get B = some ⟨[.int .i64 (u : Int), .sl P 0 Q 1, .nils, .nils, .nils, .nils, .sl O 0 (Q * 8) 1, .sl I 0 u 1, .sl E 0 u 1], true⟩) ∧ (τ.get σ.n = some ⟨[.int .i64 (u : Int), .int .i64 (Q : Int), .int .i64 l'], true⟩) ∧ (τ.get (σ.n + 1) = some ⟨[.int .i64 0, .nils, .nils, .nils, .nils, .nils, .nils, .nils, .nils], true⟩) ∧ (τ.get P = some ⟨(pre0 Q fP k).map (.int .i64), true⟩) ∧ (τ.get O = some ⟨(List.replicate (Q * 8) 0).map (.int .i64), true⟩) ∧ (τ.get I = some ⟨((List.range u).map fI).map (.int .i64), true⟩) ∧ (τ.get E = some ⟨((List.range u).map fE).map (.int .i64), true⟩) ∧ (Keeps σ.n σ τ) ∧ (B < τ.n)) (by rintro R_ env τ ⟨k, e7, e0, e3, e4, e5, hR_, hkq, gb, g0, g1, gp, go, gi, ge, hk0, hn⟩; exact ⟨_, hR_, k, e7, e0, e3, e4, e5, rfl, hkq, gb, g0, g1, gp, go, gi, ge, hk0, hn⟩) ⟨0, by first | rfl | simp [put_get, *], by first | rfl | simp [put_get, *], by first | rfl | simp [put_get, *], by first | rfl | simp [put_get, *], by first | rfl | simp [put_get, *], trivial, ?_, ?_, ?_, ?_, ?_, ?_, ?_, ?_, ?_, ?_⟩ ?_
      rotate_left 10
      rintro m_ env τ ⟨k, e7, e0, e3, e4, e5, rfl, hkq, gb, g0, g1, gp, go, gi, ge, hk0, hn⟩
      · have hv' := hv.keeps hk0 hv.lt (by omega)
        have hl1 := pre0_len (f := fP) hkq
        by_cases hus : k < Q
        · have hu2 : ¬ Q ≤ k := by omega
          have p1 := pre0_spl (f := fP) hus
          simp (config := {contextual := true, maxSteps := 1000000}) (disch := first | exact dB | fail) [go_sem, envOf, wrap_i64, int_lt, -Int.not_le, -Int.not_lt, Bool.decide_and, Bool.decide_or, and_assoc, Bool.and_assoc, Bool.or_assoc, Prod.exists, Prod.forall, -List.map_set, set_put, ord224, e7, e0, e3, e4, e5, gb, g0, gp, hu2, eP, hl1, p1]
          (repeat refine Alt.mk ?_)
          exact ⟨k + 1, by omega, by omega, by omega, g1, rfl, by simpa using go, by simpa using gi, by simpa using ge, hk0, hn⟩
        · have hue : k = Q := by omega
          subst hue
          rw [pre0_full] at gp
          simp (config := {contextual := true, maxSteps := 1000000}) (disch := first | exact dB | fail) [go_sem, envOf, wrap_i64, int_lt, -Int.not_le, -Int.not_lt, Bool.decide_and, Bool.decide_or, and_assoc, Bool.and_assoc, Bool.or_assoc, Prod.exists, Prod.forall, -List.map_set, set_put, ord224, e7, e0, e3, e4, e5, gb, g0]
          refine aloops_lt (fun R_ env τ => ∃ (m : Nat), env 8 = .int .i64 m ∧ env 0 = v ∧ env 3 = .ptr σ.n 0 ∧ env 4 = .ptr (σ.n + 1) 0 ∧ env 5 = .ptr B 0 ∧ R_ (k * 8 - m) ∧ (m ≤ k * 8) ∧ (τ.get B = some ⟨[.int .i64 (u : Int), .sl P 0 k 1, .nils, .nils, .nils, .nils, .sl O 0 (k * 8) 1, .sl I 0 u 1, .sl E 0 u 1], true⟩) ∧ (τ.get σ.n = some ⟨[.int .i64 (u : Int), .int .i64 (k : Int), .int .i64 l'], true⟩) ∧ (τ.get (σ.n + 1) = some ⟨[.int .i64 0, .nils, .nils, .nils, .nils, .nils, .nils, .nils, .nils], true⟩) ∧ (τ.get P = some ⟨((List.range k).map fP).map (.int .i64), true⟩) ∧ (τ.get O = some ⟨(pre0 (k * 8) fO m).map (.int .i64), true⟩) ∧ (τ.get I = some ⟨((List.range u).map fI).map (.int .i64), true⟩) ∧ (τ.get E = some ⟨((List.range u).map fE).map (.int .i64), true⟩) ∧ (Keeps σ.n σ τ) ∧ (B < τ.n)) (by rintro R_ env τ ⟨m, e8, e0, e3, e4, e5, hR_, hkm, gb, g0, g1, gp, go, gi, ge, hk0, hn⟩; exact ⟨_, hR_, m, e8, e0, e3, e4, e5, rfl, hkm, gb, g0, g1, gp, go, gi, ge, hk0, hn⟩) ⟨0, by first | rfl | simp [put_get, *], by first | rfl | simp [put_get, *], by first | rfl | simp [put_get, *], by first | rfl | simp [put_get, *], by first | rfl | simp [put_get, *], trivial, ?_, ?_, ?_, ?_, ?_, ?_, ?_, ?_, ?_, ?_⟩ ?_
          rotate_left 10
          rintro m_ env τ ⟨m, e8, e0, e3, e4, e5, rfl, hkm, gb, g0, g1, gp, go, gi, ge, hk0, hn⟩
          · have hv' := hv.keeps hk0 hv.lt (by omega)
            have hl1 := pre0_len (f := fO) hkm
            by_cases hus : m < k * 8
            · have hu2 : ¬ k * 8 ≤ m := by omega
              have hu3 : ¬ (k : Int) * 8 ≤ m := by omega
              have p1 := pre0_spl (f := fO) hus
              simp (config := {contextual := true, maxSteps := 1000000}) (disch := first | exact dB | fail) [go_sem, envOf, wrap_i64, int_lt, -Int.not_le, -Int.not_lt, Bool.decide_and, Bool.decide_or, and_assoc, Bool.and_assoc, Bool.or_assoc, Prod.exists, Prod.forall, -List.map_set, set_put, ord224, e8, e0, e3, e4, e5, gb, g0, go, hu2, hu3, eO, hl1, p1]
              (repeat refine Alt.mk ?_)
              exact ⟨m + 1, by omega, by omega, by omega, g1, by simpa using gp, rfl, by simpa using gi, by simpa using ge, hk0, hn⟩
            · have hue : m = k * 8 := by omega
              subst hue
              rw [pre0_full] at go
              have hu3 : (k : Int) * 8 ≤ ((k * 8 : Nat) : Int) := by omega
              simp (config := {contextual := true, maxSteps := 1000000}) (disch := first | exact dB | fail) [go_sem, envOf, wrap_i64, int_lt, -Int.not_le, -Int.not_lt, Bool.decide_and, Bool.decide_or, and_assoc, Bool.and_assoc, Bool.or_assoc, Prod.exists, Prod.forall, -List.map_set, set_put, ord224, e8, e0, e3, e4, e5, gb, g0, hu3]
              have c0 := hv.ne (j := B) (by omega)
              have hlst : ∀ (j : Nat), j < 4 → ∀ l, (readB ws ⟨(u : Int), (k : Int), l⟩).heads j = listFrom ws ⟨(u : Int), (k : Int), l⟩ ((k : Int) * 8 + 1).toNat (lval ws (pHead ⟨(u : Int), (k : Int), l⟩ j)) := fun j hj l => by show (if j < 4 then _ else _) = _; rw [if_pos hj]; rfl
              refine ⟨5, ?_⟩
              simp (config := {contextual := true, maxSteps := 1000000}) (disch := first | exact dB | fail) [go_sem, envOf, wrap_i64, int_lt, -Int.not_le, -Int.not_lt, Bool.decide_and, Bool.decide_or, and_assoc, Bool.and_assoc, Bool.or_assoc, Prod.exists, Prod.forall, -List.map_set, set_put, ord224, e8, e0, e3, e4, e5, gb, g0, g1, aloop_s]
              (repeat refine Alt.mk ?_)
              have hbp : (readB ws ⟨(u : Int), (k : Int), l'⟩).pages = (List.range k).map fP := by rw [hfP]; simp [readB]
              have hbo : (readB ws ⟨(u : Int), (k : Int), l'⟩).owner = (List.range (k * 8)).map fO := by
                rw [hfO]; simp only [readB]; rw [show ((k : Int) * 8).toNat = k * 8 by omega]
              have hbi : (readB ws ⟨(u : Int), (k : Int), l'⟩).inn = (List.range u).map fI := by rw [hfI]; simp [readB]
              have hbe : (readB ws ⟨(u : Int), (k : Int), l'⟩).epoch = (List.range u).map fE := by rw [hfE]; simp [readB]
              have h0' := hlst 0 (by omega) l'
              have h1' := hlst 1 (by omega) l'
              have h2' := hlst 2 (by omega) l'
              have h3' := hlst 3 (by omega) l'
              refine ⟨rfl, by rw [hbp]; simp, by rw [h0']; rfl, by rw [h1']; rfl, by rw [h2']; rfl, by rw [h3']; rfl, by rw [hbo]; simp, by rw [hbi]; simp, by rw [hbe]; simp, ⟨by omega, by simp only [push_n', set_n']; omega, (by refine ⟨?_, ?_, ?_, ?_, ?_, ?_, ?_, ?_, ?_, ?_, ?_, ?_, ?_, ?_, ?_, ?_, ?_, ?_, ?_, ?_, ?_, ?_, ?_, ?_, ?_, ?_, ?_, ?_⟩ <;> first | assumption | exact NE.sw (by assumption) | (simp only [NE]; omega)), ?_, ?_, ?_, ?_, ?_, ?_, ?_, ?_⟩, ?_⟩
              · rw [hbp]; (first | exact cGT | fail)
              · rw [hbo]; (first | exact cGT | fail)
              · rw [hbi]; (first | exact cGT | fail)
              · rw [hbe]; (first | exact cGT | fail)
              · rw [h0']; (first | exact cGT | fail)
              · rw [h1']; (first | exact cGT | fail)
              · rw [h2']; (first | exact cGT | fail)
              · rw [h3']; (first | exact cGT | fail)
              · exact ⟨hk0, by omega⟩
          all_goals first
            | assumption
            | omega
            | (simp only [pre0_zero]; assumption)
            | trace_state
      all_goals first
        | assumption
        | omega
        | (simp only [pre0_zero]; assumption)
        | trace_state
  all_goals first
    | omega
    | (simp only [pre0_zero]; (first | exact cGT | fail))
    | (refine get_push_eq _ ?_; assumption)
    | (first | exact cGT | fail)
    | (simp only [push_n']; omega)
    | (intro j_ hj_; rw [push_get_lt (by omega)]; exact hk0 j_ hj_)
    | trace_state
end AH
/- CONTRACTS OF THE REFERENCE: a book, laid. Printed by wip/tools/bo10.py. -/
namespace AH
open Go Go.Proofs Ho
set_option maxRecDepth 20000
set_option maxHeartbeats 16000000
theorem upto_succ (n : Nat) (f : Nat → List Int → List Int) (v : List Int) : upto (n + 1) f v = f n (upto n f v) := by
  unfold upto; rw [List.range_succ, List.foldl_append]; rfl
theorem upto_zero (f : Nat → List Int → List Int) (v : List Int) : upto 0 f v = v := by unfold upto; rfl
theorem upto_len (f : Nat → List Int → List Int) (hf : ∀ i v, (f i v).length = v.length) (v : List Int) : ∀ n, (upto n f v).length = v.length := by
  intro n
  induction n with
  | zero => rw [upto_zero]
  | succ n ih => rw [upto_succ, hf, ih]
theorem layHead_len (c : Cfg) : ∀ (l : List Int) (a : Int) (v : List Int), (layHead c l a v).length = v.length := by
  intro l
  induction l with
  | nil => intro a v; rfl
  | cons x l ih => intro a v; simp only [layHead]; rw [ih, put_len']
theorem place_rng (c : Cfg) (hc : c.ok) (n : Int) : (0 ≤ pReg c n ∧ pReg c n < house c) ∧ (0 ≤ pPage c n ∧ pPage c n < house c) ∧ (0 ≤ pTag c n ∧ pTag c n < house c) ∧ (0 ≤ pHead c n ∧ pHead c n < house c) ∧ (0 ≤ pLink c n ∧ pLink c n < house c) := by
  unfold Cfg.ok at hc
  unfold pReg pPage pTag pHead pLink l2At house
  refine ⟨?_, ?_, ?_, ?_, ?_⟩ <;> (split <;> omega)
def f1 (c : Cfg) (b : Bk) : Nat → List Int → List Int := fun i v => put v (pReg c i) (at_ b.inn i + 4 * at_ b.epoch i)
def f2 (c : Cfg) (b : Bk) : Nat → List Int → List Int := fun i v => put v (pPage c i) (at_ b.pages i)
def f3 (c : Cfg) (b : Bk) : Nat → List Int → List Int := fun i v => put v (pTag c i) (at_ b.owner i)
def f4 (c : Cfg) (b : Bk) : Nat → List Int → List Int := fun k v => layHead c (b.heads k) (pHead c k) v
theorem zLay_fn (σ : AHeap) (b : Bk) (pv h0 h1 h2 h3 ov iv ev : AV) (s p l' : Int) (hb : BkV σ b pv h0 h1 h2 h3 ov iv ev) (hs : BkS b) (h : Cfg.ok ⟨s, p, l'⟩) (hi : (b.inn.length : Int) = s ∧ (b.epoch.length : Int) = s ∧ (b.pages.length : Int) = p) :
    Fn Tryz.prog 176 [cV s p l', bV b pv h0 h1 h2 h3 ov iv ev] σ fun x τ => x = .sl σ.n 0 (lay ⟨s, p, l'⟩ b).length 1 ∧ τ = σ.push ⟨(lay ⟨s, p, l'⟩ b).map (.int .i64), true⟩ := by
  have key := fn_fresh (args := [cV s p l', bV b pv h0 h1 h2 h3 ov iv ev]) (σ := σ) (xs := (lay ⟨s, p, l'⟩ b).map (.int .i64)) ord176 mixed Tryz.func176 (by kernel_rfl) rfl (by kernel_rfl) (lts_ints _ _ _) ?_
  · simpa using key
  obtain ⟨S, rfl⟩ : ∃ S : Nat, s = (S : Int) := ⟨s.toNat, by have := h.1; simp only at this; omega⟩
  obtain ⟨Q, rfl⟩ : ∃ Q : Nat, p = (Q : Int) := ⟨p.toNat, by have := h.2.2.1; simp only at this; omega⟩
  have hr := place_rng _ h
  have h' := h
  unfold Cfg.ok at h'
  simp only at h'
  have hH' : house ⟨(S : Int), (Q : Int), l'⟩ = 7 + 2 * (S : Int) + 17 * (Q : Int) := rfl
  obtain ⟨H, hHn⟩ : ∃ H : Nat, H = 7 + 2 * S + 17 * Q := ⟨_, rfl⟩
  have hHH' : house ⟨(S : Int), (Q : Int), l'⟩ = (H : Int) := by omega
  obtain ⟨v0, hv0⟩ : ∃ v0, v0 = List.replicate H (0 : Int) := ⟨_, rfl⟩
  have hl0 : v0.length = H := by rw [hv0]; simp
  obtain ⟨v1, hv1⟩ : ∃ v1, v1 = upto S (f1 ⟨(S : Int), (Q : Int), l'⟩ b) v0 := ⟨_, rfl⟩
  have hl1 : v1.length = H := by rw [hv1, upto_len (f1 ⟨(S : Int), (Q : Int), l'⟩ b) (fun i v => put_len' _ _ _), hl0]
  obtain ⟨v2, hv2⟩ : ∃ v2, v2 = upto Q (f2 ⟨(S : Int), (Q : Int), l'⟩ b) v1 := ⟨_, rfl⟩
  have hl2 : v2.length = H := by rw [hv2, upto_len (f2 ⟨(S : Int), (Q : Int), l'⟩ b) (fun i v => put_len' _ _ _), hl1]
  obtain ⟨v3, hv3⟩ : ∃ v3, v3 = upto b.owner.length (f3 ⟨(S : Int), (Q : Int), l'⟩ b) v2 := ⟨_, rfl⟩
  have hl3 : v3.length = H := by rw [hv3, upto_len (f3 ⟨(S : Int), (Q : Int), l'⟩ b) (fun i v => put_len' _ _ _), hl2]
  have hlay : lay ⟨(S : Int), (Q : Int), l'⟩ b = upto 4 (f4 ⟨(S : Int), (Q : Int), l'⟩ b) v3 := by
    unfold lay
    rw [hHH', hv3, hv2, hv1, hv0]
    simp only [Int.toNat_natCast]
    rfl
  rw [hlay]
  rw [hHH'] at hr
  obtain ⟨vp, w0, w1, w2, w3, vo, vi, ve⟩ := id hb
  obtain ⟨_, ⟨sp, sp'⟩, sh, ⟨so, so'⟩, ⟨si, si'⟩, ⟨se, se'⟩⟩ := id hs
  have q1 : ¬ 9223372036854775807 ≤ (H : Int) := by omega
  have q2 : 8 * (H : Int) ≤ 140737488355328 := by omega
  have q3 : (H : Int) ≤ 140737488355328 := by omega
  simp (config := {contextual := true, maxSteps := 1000000}) (disch := first | exact dB | fail) [go_sem, envOf, wrap_i64, int_lt, -Int.not_le, -Int.not_lt, Bool.decide_and, Bool.decide_or, and_assoc, Bool.and_assoc, Bool.or_assoc, Prod.exists, Prod.forall, -List.map_set, set_put, ord176, hHH', amake, q1, q2, -List.map_replicate]
  (repeat refine Alt.mk ?_)
  rw [show List.replicate H (AV.int .i64 0) = (upto 0 (f1 ⟨(S : Int), (Q : Int), l'⟩ b) v0).map (.int .i64) from by rw [upto_zero, hv0]; simp]
  refine aloops_lt (fun R_ env τ => ∃ (u : Nat), env 6 = .int .i64 u ∧ env 2 = .ptr σ.n 0 ∧ env 3 = .ptr (σ.n + 1) 0 ∧ env 5 = .sl (σ.n + 1 + 1) 0 H 1 ∧ ((σ.push ⟨[.int .i64 (S : Int), .int .i64 (Q : Int), .int .i64 l'], true⟩).push ⟨[.int .i64 b.slots, pv, h0, h1, h2, h3, ov, iv, ev], true⟩).push ⟨(upto u (f1 ⟨(S : Int), (Q : Int), l'⟩ b) v0).map (.int .i64), true⟩ = τ ∧ R_ (S - u) ∧ (u ≤ S)) (by rintro R_ env τ ⟨u, e6, e2, e3, e5, h_, hR_, hp⟩; exact ⟨_, hR_, u, e6, e2, e3, e5, h_, rfl, hp⟩) ⟨0, by first | rfl | simp [put_get, *], by first | rfl | simp [put_get, *], by first | rfl | simp [put_get, *], by first | rfl | simp [put_get, *], rfl, trivial, ?_⟩ ?_
  rotate_left
  rintro m_ env τ ⟨u, e6, e2, e3, e5, rfl, rfl, hp⟩
  · obtain ⟨⟨r1, r2⟩, _⟩ := hr u
    have hlc : (upto u (f1 ⟨(S : Int), (Q : Int), l'⟩ b) v0).length = H := by rw [upto_len (f1 ⟨(S : Int), (Q : Int), l'⟩ b) (fun i v => put_len' _ _ _), hl0]
    by_cases hus : u < S
    · have hu2 : ¬ S ≤ u := by omega
      have b1 := si' u
      have b2 := se' u
      have b3 : ¬ (H : Int) ≤ pReg ⟨(S : Int), (Q : Int), l'⟩ u := by omega
      simp (config := {contextual := true, maxSteps := 1000000}) (disch := first | exact dB | fail) [go_sem, envOf, wrap_i64, int_lt, -Int.not_le, -Int.not_lt, Bool.decide_and, Bool.decide_or, and_assoc, Bool.and_assoc, Bool.or_assoc, Prod.exists, Prod.forall, -List.map_set, set_put, ord176, e6, e2, e3, e5, hu2, hlc, r1, b3]
      (repeat refine Alt.mk ?_)
      exact ⟨u + 1, by omega, by rw [upto_succ]; rfl, by omega, by omega⟩
    · have hue : u = S := by omega
      have hu2 : S ≤ u := by omega
      simp (config := {contextual := true, maxSteps := 1000000}) (disch := first | exact dB | fail) [go_sem, envOf, wrap_i64, int_lt, -Int.not_le, -Int.not_lt, Bool.decide_and, Bool.decide_or, and_assoc, Bool.and_assoc, Bool.or_assoc, Prod.exists, Prod.forall, -List.map_set, set_put, ord176, e6, e2, e3, e5, hu2]
      rw [hue, ← hv1]
      rw [show v1 = upto 0 (f2 ⟨(S : Int), (Q : Int), l'⟩ b) v1 from (upto_zero _ _).symm]
      refine aloops_lt (fun R_ env τ => ∃ (k : Nat), env 7 = .int .i64 k ∧ env 2 = .ptr σ.n 0 ∧ env 3 = .ptr (σ.n + 1) 0 ∧ env 5 = .sl (σ.n + 1 + 1) 0 H 1 ∧ ((σ.push ⟨[.int .i64 (S : Int), .int .i64 (Q : Int), .int .i64 l'], true⟩).push ⟨[.int .i64 b.slots, pv, h0, h1, h2, h3, ov, iv, ev], true⟩).push ⟨(upto k (f2 ⟨(S : Int), (Q : Int), l'⟩ b) v1).map (.int .i64), true⟩ = τ ∧ R_ (Q - k) ∧ (k ≤ Q)) (by rintro R_ env τ ⟨k, e7, e2, e3, e5, h_, hR_, hp⟩; exact ⟨_, hR_, k, e7, e2, e3, e5, h_, rfl, hp⟩) ⟨0, by first | rfl | simp [put_get, *], by first | rfl | simp [put_get, *], by first | rfl | simp [put_get, *], by first | rfl | simp [put_get, *], rfl, trivial, ?_⟩ ?_
      rotate_left
      rintro m_ env τ ⟨k, e7, e2, e3, e5, rfl, rfl, hp⟩
      · obtain ⟨_, ⟨r1, r2⟩, _⟩ := hr k
        have hlc : (upto k (f2 ⟨(S : Int), (Q : Int), l'⟩ b) v1).length = H := by rw [upto_len (f2 ⟨(S : Int), (Q : Int), l'⟩ b) (fun i v => put_len' _ _ _), hl1]
        by_cases hus : k < Q
        · have hu2 : ¬ Q ≤ k := by omega
          have b1 := sp' k
          have b3 : ¬ (H : Int) ≤ pPage ⟨(S : Int), (Q : Int), l'⟩ k := by omega
          simp (config := {contextual := true, maxSteps := 1000000}) (disch := first | exact dB | fail) [go_sem, envOf, wrap_i64, int_lt, -Int.not_le, -Int.not_lt, Bool.decide_and, Bool.decide_or, and_assoc, Bool.and_assoc, Bool.or_assoc, Prod.exists, Prod.forall, -List.map_set, set_put, ord176, e7, e2, e3, e5, hu2, hlc, r1, b3]
          (repeat refine Alt.mk ?_)
          exact ⟨k + 1, by omega, by rw [upto_succ]; rfl, by omega, by omega⟩
        · have hue : k = Q := by omega
          have hu2 : Q ≤ k := by omega
          simp (config := {contextual := true, maxSteps := 1000000}) (disch := first | exact dB | fail) [go_sem, envOf, wrap_i64, int_lt, -Int.not_le, -Int.not_lt, Bool.decide_and, Bool.decide_or, and_assoc, Bool.and_assoc, Bool.or_assoc, Prod.exists, Prod.forall, -List.map_set, set_put, ord176, e7, e2, e3, e5, hu2]
          rw [hue, ← hv2]
          rw [show v2 = upto 0 (f3 ⟨(S : Int), (Q : Int), l'⟩ b) v2 from (upto_zero _ _).symm]
          refine aloops_lt (fun R_ env τ => ∃ (m : Nat), env 8 = .int .i64 m ∧ env 2 = .ptr σ.n 0 ∧ env 3 = .ptr (σ.n + 1) 0 ∧ env 5 = .sl (σ.n + 1 + 1) 0 H 1 ∧ ((σ.push ⟨[.int .i64 (S : Int), .int .i64 (Q : Int), .int .i64 l'], true⟩).push ⟨[.int .i64 b.slots, pv, h0, h1, h2, h3, ov, iv, ev], true⟩).push ⟨(upto m (f3 ⟨(S : Int), (Q : Int), l'⟩ b) v2).map (.int .i64), true⟩ = τ ∧ R_ (b.owner.length - m) ∧ (m ≤ b.owner.length)) (by rintro R_ env τ ⟨m, e8, e2, e3, e5, h_, hR_, hp⟩; exact ⟨_, hR_, m, e8, e2, e3, e5, h_, rfl, hp⟩) ⟨0, by first | rfl | simp [put_get, *], by first | rfl | simp [put_get, *], by first | rfl | simp [put_get, *], by first | rfl | simp [put_get, *], rfl, trivial, ?_⟩ ?_
          rotate_left
          rintro m_ env τ ⟨m, e8, e2, e3, e5, rfl, rfl, hp⟩
          · obtain ⟨_, _, ⟨r1, r2⟩, _⟩ := hr m
            have hlc : (upto m (f3 ⟨(S : Int), (Q : Int), l'⟩ b) v2).length = H := by rw [upto_len (f3 ⟨(S : Int), (Q : Int), l'⟩ b) (fun i v => put_len' _ _ _), hl2]
            by_cases hus : m < b.owner.length
            · have hu2 : ¬ b.owner.length ≤ m := by omega
              have b1 := so' m
              have b3 : ¬ (H : Int) ≤ pTag ⟨(S : Int), (Q : Int), l'⟩ m := by omega
              simp (config := {contextual := true, maxSteps := 1000000}) (disch := first | exact dB | fail) [go_sem, envOf, wrap_i64, int_lt, -Int.not_le, -Int.not_lt, Bool.decide_and, Bool.decide_or, and_assoc, Bool.and_assoc, Bool.or_assoc, Prod.exists, Prod.forall, -List.map_set, set_put, ord176, e8, e2, e3, e5, hu2, hlc, r1, b3]
              (repeat refine Alt.mk ?_)
              exact ⟨m + 1, by omega, by rw [upto_succ]; rfl, by omega, by omega⟩
            · have hue : m = b.owner.length := by omega
              have hu2 : b.owner.length ≤ m := by omega
              simp (config := {contextual := true, maxSteps := 1000000}) (disch := first | exact dB | fail) [go_sem, envOf, wrap_i64, int_lt, -Int.not_le, -Int.not_lt, Bool.decide_and, Bool.decide_or, and_assoc, Bool.and_assoc, Bool.or_assoc, Prod.exists, Prod.forall, -List.map_set, set_put, ord176, e8, e2, e3, e5, hu2]
              rw [hue, ← hv3]
              rw [show v3 = upto 0 (f4 ⟨(S : Int), (Q : Int), l'⟩ b) v3 from (upto_zero _ _).symm]
              refine aloops_lt (fun R_ env τ => ∃ (kk : Nat), env 9 = .int .i64 kk ∧ env 2 = .ptr σ.n 0 ∧ env 3 = .ptr (σ.n + 1) 0 ∧ env 5 = .sl (σ.n + 1 + 1) 0 H 1 ∧ ((σ.push ⟨[.int .i64 (S : Int), .int .i64 (Q : Int), .int .i64 l'], true⟩).push ⟨[.int .i64 b.slots, pv, h0, h1, h2, h3, ov, iv, ev], true⟩).push ⟨(upto kk (f4 ⟨(S : Int), (Q : Int), l'⟩ b) v3).map (.int .i64), true⟩ = τ ∧ R_ (4 - kk) ∧ (kk ≤ 4)) (by rintro R_ env τ ⟨kk, e9, e2, e3, e5, h_, hR_, hp⟩; exact ⟨_, hR_, kk, e9, e2, e3, e5, h_, rfl, hp⟩) ⟨0, by first | rfl | simp [put_get, *], by first | rfl | simp [put_get, *], by first | rfl | simp [put_get, *], by first | rfl | simp [put_get, *], rfl, trivial, ?_⟩ ?_
              rotate_left
              rintro m_ env τ ⟨kk, e9, e2, e3, e5, rfl, rfl, hp⟩
              · have hlc : (upto kk (f4 ⟨(S : Int), (Q : Int), l'⟩ b) v3).length = H := by rw [upto_len (f4 ⟨(S : Int), (Q : Int), l'⟩ b) (fun i v => layHead_len _ _ _ _), hl3]
                have hkk : kk = 0 ∨ kk = 1 ∨ kk = 2 ∨ kk = 3 ∨ kk = 4 := by omega
                rcases hkk with rfl | rfl | rfl | rfl | rfl
                · simp (config := {contextual := true, maxSteps := 1000000}) (disch := first | exact dB | fail) [go_sem, envOf, wrap_i64, int_lt, -Int.not_le, -Int.not_lt, Bool.decide_and, Bool.decide_or, and_assoc, Bool.and_assoc, Bool.or_assoc, Prod.exists, Prod.forall, -List.map_set, set_put, ord176, e9, e2, e3, e5]
                  (repeat refine Alt.mk ?_)
                  obtain ⟨_, _, _, ⟨r1, r2⟩, _⟩ := hr 0
                  refine aloops_lt (fun R_ env τ => ∃ (i : Nat), ∃ (a : Int), ∃ (cur : List Int), env 11 = .int .i64 i ∧ env 10 = .int .i64 a ∧ env 9 = .int .i64 0 ∧ env 2 = .ptr σ.n 0 ∧ env 3 = .ptr (σ.n + 1) 0 ∧ env 5 = .sl (σ.n + 1 + 1) 0 H 1 ∧ ((σ.push ⟨[.int .i64 (S : Int), .int .i64 (Q : Int), .int .i64 l'], true⟩).push ⟨[.int .i64 b.slots, pv, h0, h1, h2, h3, ov, iv, ev], true⟩).push ⟨(cur).map (.int .i64), true⟩ = τ ∧ R_ ((b.heads 0).length - i) ∧ (i ≤ (b.heads 0).length ∧ 0 ≤ a ∧ a < H ∧ cur.length = H ∧ layHead ⟨(S : Int), (Q : Int), l'⟩ ((b.heads 0).drop i) a cur = upto (0 + 1) (f4 ⟨(S : Int), (Q : Int), l'⟩ b) v3)) (by rintro R_ env τ ⟨i, a, cur, e11, e10, e9, e2, e3, e5, h_, hR_, hp⟩; exact ⟨_, hR_, i, a, cur, e11, e10, e9, e2, e3, e5, h_, rfl, hp⟩) ⟨0, _, _, by first | rfl | simp [put_get, *], by first | rfl | simp [put_get, *], by first | rfl | simp [put_get, *], by first | rfl | simp [put_get, *], by first | rfl | simp [put_get, *], by first | rfl | simp [put_get, *], rfl, trivial, ?_⟩ ?_
                  rotate_left
                  rintro m_ env τ ⟨i, a, cur, e11, e10, e9, e2, e3, e5, rfl, rfl, hp⟩
                  · obtain ⟨hp1, hp2, hp3, hp4, hp5⟩ := hp
                    have hp6 : ¬ (H : Int) ≤ a := by omega
                    by_cases hii : i < (b.heads 0).length
                    · have hi2 : ¬ (b.heads 0).length ≤ i := by omega
                      have b1 := (sh 0).2 i
                      have b4 := (sh 0).1
                      have hd := drop_at (xs := b.heads 0) (i := (i : Int)) (by omega) (by omega)
                      rw [Int.toNat_natCast, show ((i : Int) + 1).toNat = i + 1 by omega] at hd
                      obtain ⟨_, _, _, _, ⟨r3, r4⟩⟩ := hr (at_ (b.heads 0) i)
                      simp (config := {contextual := true, maxSteps := 1000000}) (disch := first | exact dB | fail) [go_sem, envOf, wrap_i64, int_lt, -Int.not_le, -Int.not_lt, Bool.decide_and, Bool.decide_or, and_assoc, Bool.and_assoc, Bool.or_assoc, Prod.exists, Prod.forall, -List.map_set, set_put, ord176, e11, e10, e9, e2, e3, e5, hi2, hp2, hp4, hp6]
                      (repeat refine Alt.mk ?_)
                      exact ⟨i + 1, by omega, put cur a (at_ (b.heads 0) i + 1), rfl, by omega, by omega, r3, by omega, by rw [put_len']; exact hp4, by rw [← hp5, hd]; rfl⟩
                    · have hi2 : (b.heads 0).length ≤ i := by omega
                      have hcur : cur = upto (0 + 1) (f4 ⟨(S : Int), (Q : Int), l'⟩ b) v3 := by rw [← hp5, List.drop_eq_nil_of_le hi2]; rfl
                      simp (config := {contextual := true, maxSteps := 1000000}) (disch := first | exact dB | fail) [go_sem, envOf, wrap_i64, int_lt, -Int.not_le, -Int.not_lt, Bool.decide_and, Bool.decide_or, and_assoc, Bool.and_assoc, Bool.or_assoc, Prod.exists, Prod.forall, -List.map_set, set_put, ord176, e11, e10, e9, e2, e3, e5, hi2]
                      exact ⟨0 + 1, rfl, by rw [hcur], by omega, by omega⟩
                  · exact ⟨by omega, r1, r2, hlc, by rw [upto_succ]; rfl⟩
                · simp (config := {contextual := true, maxSteps := 1000000}) (disch := first | exact dB | fail) [go_sem, envOf, wrap_i64, int_lt, -Int.not_le, -Int.not_lt, Bool.decide_and, Bool.decide_or, and_assoc, Bool.and_assoc, Bool.or_assoc, Prod.exists, Prod.forall, -List.map_set, set_put, ord176, e9, e2, e3, e5]
                  (repeat refine Alt.mk ?_)
                  obtain ⟨_, _, _, ⟨r1, r2⟩, _⟩ := hr 1
                  refine aloops_lt (fun R_ env τ => ∃ (i : Nat), ∃ (a : Int), ∃ (cur : List Int), env 11 = .int .i64 i ∧ env 10 = .int .i64 a ∧ env 9 = .int .i64 1 ∧ env 2 = .ptr σ.n 0 ∧ env 3 = .ptr (σ.n + 1) 0 ∧ env 5 = .sl (σ.n + 1 + 1) 0 H 1 ∧ ((σ.push ⟨[.int .i64 (S : Int), .int .i64 (Q : Int), .int .i64 l'], true⟩).push ⟨[.int .i64 b.slots, pv, h0, h1, h2, h3, ov, iv, ev], true⟩).push ⟨(cur).map (.int .i64), true⟩ = τ ∧ R_ ((b.heads 1).length - i) ∧ (i ≤ (b.heads 1).length ∧ 0 ≤ a ∧ a < H ∧ cur.length = H ∧ layHead ⟨(S : Int), (Q : Int), l'⟩ ((b.heads 1).drop i) a cur = upto (1 + 1) (f4 ⟨(S : Int), (Q : Int), l'⟩ b) v3)) (by rintro R_ env τ ⟨i, a, cur, e11, e10, e9, e2, e3, e5, h_, hR_, hp⟩; exact ⟨_, hR_, i, a, cur, e11, e10, e9, e2, e3, e5, h_, rfl, hp⟩) ⟨0, _, _, by first | rfl | simp [put_get, *], by first | rfl | simp [put_get, *], by first | rfl | simp [put_get, *], by first | rfl | simp [put_get, *], by first | rfl | simp [put_get, *], by first | rfl | simp [put_get, *], rfl, trivial, ?_⟩ ?_
                  rotate_left
                  rintro m_ env τ ⟨i, a, cur, e11, e10, e9, e2, e3, e5, rfl, rfl, hp⟩
                  · obtain ⟨hp1, hp2, hp3, hp4, hp5⟩ := hp
                    have hp6 : ¬ (H : Int) ≤ a := by omega
                    by_cases hii : i < (b.heads 1).length
                    · have hi2 : ¬ (b.heads 1).length ≤ i := by omega
                      have b1 := (sh 1).2 i
                      have b4 := (sh 1).1
                      have hd := drop_at (xs := b.heads 1) (i := (i : Int)) (by omega) (by omega)
                      rw [Int.toNat_natCast, show ((i : Int) + 1).toNat = i + 1 by omega] at hd
                      obtain ⟨_, _, _, _, ⟨r3, r4⟩⟩ := hr (at_ (b.heads 1) i)
                      simp (config := {contextual := true, maxSteps := 1000000}) (disch := first | exact dB | fail) [go_sem, envOf, wrap_i64, int_lt, -Int.not_le, -Int.not_lt, Bool.decide_and, Bool.decide_or, and_assoc, Bool.and_assoc, Bool.or_assoc, Prod.exists, Prod.forall, -List.map_set, set_put, ord176, e11, e10, e9, e2, e3, e5, hi2, hp2, hp4, hp6]
                      (repeat refine Alt.mk ?_)
                      exact ⟨i + 1, by omega, put cur a (at_ (b.heads 1) i + 1), rfl, by omega, by omega, r3, by omega, by rw [put_len']; exact hp4, by rw [← hp5, hd]; rfl⟩
                    · have hi2 : (b.heads 1).length ≤ i := by omega
                      have hcur : cur = upto (1 + 1) (f4 ⟨(S : Int), (Q : Int), l'⟩ b) v3 := by rw [← hp5, List.drop_eq_nil_of_le hi2]; rfl
                      simp (config := {contextual := true, maxSteps := 1000000}) (disch := first | exact dB | fail) [go_sem, envOf, wrap_i64, int_lt, -Int.not_le, -Int.not_lt, Bool.decide_and, Bool.decide_or, and_assoc, Bool.and_assoc, Bool.or_assoc, Prod.exists, Prod.forall, -List.map_set, set_put, ord176, e11, e10, e9, e2, e3, e5, hi2]
                      exact ⟨1 + 1, rfl, by rw [hcur], by omega, by omega⟩
                  · exact ⟨by omega, r1, r2, hlc, by rw [upto_succ]; rfl⟩
                · simp (config := {contextual := true, maxSteps := 1000000}) (disch := first | exact dB | fail) [go_sem, envOf, wrap_i64, int_lt, -Int.not_le, -Int.not_lt, Bool.decide_and, Bool.decide_or, and_assoc, Bool.and_assoc, Bool.or_assoc, Prod.exists, Prod.forall, -List.map_set, set_put, ord176, e9, e2, e3, e5]
                  (repeat refine Alt.mk ?_)
                  obtain ⟨_, _, _, ⟨r1, r2⟩, _⟩ := hr 2
                  refine aloops_lt (fun R_ env τ => ∃ (i : Nat), ∃ (a : Int), ∃ (cur : List Int), env 11 = .int .i64 i ∧ env 10 = .int .i64 a ∧ env 9 = .int .i64 2 ∧ env 2 = .ptr σ.n 0 ∧ env 3 = .ptr (σ.n + 1) 0 ∧ env 5 = .sl (σ.n + 1 + 1) 0 H 1 ∧ ((σ.push ⟨[.int .i64 (S : Int), .int .i64 (Q : Int), .int .i64 l'], true⟩).push ⟨[.int .i64 b.slots, pv, h0, h1, h2, h3, ov, iv, ev], true⟩).push ⟨(cur).map (.int .i64), true⟩ = τ ∧ R_ ((b.heads 2).length - i) ∧ (i ≤ (b.heads 2).length ∧ 0 ≤ a ∧ a < H ∧ cur.length = H ∧ layHead ⟨(S : Int), (Q : Int), l'⟩ ((b.heads 2).drop i) a cur = upto (2 + 1) (f4 ⟨(S : Int), (Q : Int), l'⟩ b) v3)) (by rintro R_ env τ ⟨i, a, cur, e11, e10, e9, e2, e3, e5, h_, hR_, hp⟩; exact ⟨_, hR_, i, a, cur, e11, e10, e9, e2, e3, e5, h_, rfl, hp⟩) ⟨0, _, _, by first | rfl | simp [put_get, *], by first | rfl | simp [put_get, *], by first | rfl | simp [put_get, *], by first | rfl | simp [put_get, *], by first | rfl | simp [put_get, *], by first | rfl | simp [put_get, *], rfl, trivial, ?_⟩ ?_
                  rotate_left
                  rintro m_ env τ ⟨i, a, cur, e11, e10, e9, e2, e3, e5, rfl, rfl, hp⟩
                  · obtain ⟨hp1, hp2, hp3, hp4, hp5⟩ := hp
                    have hp6 : ¬ (H : Int) ≤ a := by omega
                    by_cases hii : i < (b.heads 2).length
                    · have hi2 : ¬ (b.heads 2).length ≤ i := by omega
                      have b1 := (sh 2).2 i
                      have b4 := (sh 2).1
                      have hd := drop_at (xs := b.heads 2) (i := (i : Int)) (by omega) (by omega)
                      rw [Int.toNat_natCast, show ((i : Int) + 1).toNat = i + 1 by omega] at hd
                      obtain ⟨_, _, _, _, ⟨r3, r4⟩⟩ := hr (at_ (b.heads 2) i)
                      simp (config := {contextual := true, maxSteps := 1000000}) (disch := first | exact dB | fail) [go_sem, envOf, wrap_i64, int_lt, -Int.not_le, -Int.not_lt, Bool.decide_and, Bool.decide_or, and_assoc, Bool.and_assoc, Bool.or_assoc, Prod.exists, Prod.forall, -List.map_set, set_put, ord176, e11, e10, e9, e2, e3, e5, hi2, hp2, hp4, hp6]
                      (repeat refine Alt.mk ?_)
                      exact ⟨i + 1, by omega, put cur a (at_ (b.heads 2) i + 1), rfl, by omega, by omega, r3, by omega, by rw [put_len']; exact hp4, by rw [← hp5, hd]; rfl⟩
                    · have hi2 : (b.heads 2).length ≤ i := by omega
                      have hcur : cur = upto (2 + 1) (f4 ⟨(S : Int), (Q : Int), l'⟩ b) v3 := by rw [← hp5, List.drop_eq_nil_of_le hi2]; rfl
                      simp (config := {contextual := true, maxSteps := 1000000}) (disch := first | exact dB | fail) [go_sem, envOf, wrap_i64, int_lt, -Int.not_le, -Int.not_lt, Bool.decide_and, Bool.decide_or, and_assoc, Bool.and_assoc, Bool.or_assoc, Prod.exists, Prod.forall, -List.map_set, set_put, ord176, e11, e10, e9, e2, e3, e5, hi2]
                      exact ⟨2 + 1, rfl, by rw [hcur], by omega, by omega⟩
                  · exact ⟨by omega, r1, r2, hlc, by rw [upto_succ]; rfl⟩
                · simp (config := {contextual := true, maxSteps := 1000000}) (disch := first | exact dB | fail) [go_sem, envOf, wrap_i64, int_lt, -Int.not_le, -Int.not_lt, Bool.decide_and, Bool.decide_or, and_assoc, Bool.and_assoc, Bool.or_assoc, Prod.exists, Prod.forall, -List.map_set, set_put, ord176, e9, e2, e3, e5]
                  (repeat refine Alt.mk ?_)
                  obtain ⟨_, _, _, ⟨r1, r2⟩, _⟩ := hr 3
                  refine aloops_lt (fun R_ env τ => ∃ (i : Nat), ∃ (a : Int), ∃ (cur : List Int), env 11 = .int .i64 i ∧ env 10 = .int .i64 a ∧ env 9 = .int .i64 3 ∧ env 2 = .ptr σ.n 0 ∧ env 3 = .ptr (σ.n + 1) 0 ∧ env 5 = .sl (σ.n + 1 + 1) 0 H 1 ∧ ((σ.push ⟨[.int .i64 (S : Int), .int .i64 (Q : Int), .int .i64 l'], true⟩).push ⟨[.int .i64 b.slots, pv, h0, h1, h2, h3, ov, iv, ev], true⟩).push ⟨(cur).map (.int .i64), true⟩ = τ ∧ R_ ((b.heads 3).length - i) ∧ (i ≤ (b.heads 3).length ∧ 0 ≤ a ∧ a < H ∧ cur.length = H ∧ layHead ⟨(S : Int), (Q : Int), l'⟩ ((b.heads 3).drop i) a cur = upto (3 + 1) (f4 ⟨(S : Int), (Q : Int), l'⟩ b) v3)) (by rintro R_ env τ ⟨i, a, cur, e11, e10, e9, e2, e3, e5, h_, hR_, hp⟩; exact ⟨_, hR_, i, a, cur, e11, e10, e9, e2, e3, e5, h_, rfl, hp⟩) ⟨0, _, _, by first | rfl | simp [put_get, *], by first | rfl | simp [put_get, *], by first | rfl | simp [put_get, *], by first | rfl | simp [put_get, *], by first | rfl | simp [put_get, *], by first | rfl | simp [put_get, *], rfl, trivial, ?_⟩ ?_
                  rotate_left
                  rintro m_ env τ ⟨i, a, cur, e11, e10, e9, e2, e3, e5, rfl, rfl, hp⟩
                  · obtain ⟨hp1, hp2, hp3, hp4, hp5⟩ := hp
                    have hp6 : ¬ (H : Int) ≤ a := by omega
                    by_cases hii : i < (b.heads 3).length
                    · have hi2 : ¬ (b.heads 3).length ≤ i := by omega
                      have b1 := (sh 3).2 i
                      have b4 := (sh 3).1
                      have hd := drop_at (xs := b.heads 3) (i := (i : Int)) (by omega) (by omega)
                      rw [Int.toNat_natCast, show ((i : Int) + 1).toNat = i + 1 by omega] at hd
                      obtain ⟨_, _, _, _, ⟨r3, r4⟩⟩ := hr (at_ (b.heads 3) i)
                      simp (config := {contextual := true, maxSteps := 1000000}) (disch := first | exact dB | fail) [go_sem, envOf, wrap_i64, int_lt, -Int.not_le, -Int.not_lt, Bool.decide_and, Bool.decide_or, and_assoc, Bool.and_assoc, Bool.or_assoc, Prod.exists, Prod.forall, -List.map_set, set_put, ord176, e11, e10, e9, e2, e3, e5, hi2, hp2, hp4, hp6]
                      (repeat refine Alt.mk ?_)
                      exact ⟨i + 1, by omega, put cur a (at_ (b.heads 3) i + 1), rfl, by omega, by omega, r3, by omega, by rw [put_len']; exact hp4, by rw [← hp5, hd]; rfl⟩
                    · have hi2 : (b.heads 3).length ≤ i := by omega
                      have hcur : cur = upto (3 + 1) (f4 ⟨(S : Int), (Q : Int), l'⟩ b) v3 := by rw [← hp5, List.drop_eq_nil_of_le hi2]; rfl
                      simp (config := {contextual := true, maxSteps := 1000000}) (disch := first | exact dB | fail) [go_sem, envOf, wrap_i64, int_lt, -Int.not_le, -Int.not_lt, Bool.decide_and, Bool.decide_or, and_assoc, Bool.and_assoc, Bool.or_assoc, Prod.exists, Prod.forall, -List.map_set, set_put, ord176, e11, e10, e9, e2, e3, e5, hi2]
                      exact ⟨3 + 1, rfl, by rw [hcur], by omega, by omega⟩
                  · exact ⟨by omega, r1, r2, hlc, by rw [upto_succ]; rfl⟩
                · simp (config := {contextual := true, maxSteps := 1000000}) (disch := first | exact dB | fail) [go_sem, envOf, wrap_i64, int_lt, -Int.not_le, -Int.not_lt, Bool.decide_and, Bool.decide_or, and_assoc, Bool.and_assoc, Bool.or_assoc, Prod.exists, Prod.forall, -List.map_set, set_put, ord176, e9, e2, e3, e5]
                  rw [upto_zero]
                  exact ⟨hlc.symm, by omega, Nat.le_refl _, List.take_of_length_le (by simp)⟩
              · omega
          · omega
      · omega
  · omega
theorem zLay_s (σ : AHeap) (b : Bk) (pv h0 h1 h2 h3 ov iv ev : AV) (s p l' : Int) (hb : BkV σ b pv h0 h1 h2 h3 ov iv ev) (hs : BkS b) (h : Cfg.ok ⟨s, p, l'⟩) (hi : (b.inn.length : Int) = s ∧ (b.epoch.length : Int) = s ∧ (b.pages.length : Int) = p) (k : AV → AHeap → Prop) :
    @callP Tryz.prog (.fn 176 [] []) [cV s p l', bV b pv h0 h1 h2 h3 ov iv ev] σ ⟨k⟩ = @Alt (k (.sl σ.n 0 (lay ⟨s, p, l'⟩ b).length 1) (σ.push ⟨(lay ⟨s, p, l'⟩ b).map (.int .i64), true⟩)) ⟨@callP Tryz.prog (.fn 176 [] []) [cV s p l', bV b pv h0 h1 h2 h3 ov iv ev] σ ⟨k⟩⟩ := callP_alt (zLay_fn σ b pv h0 h1 h2 h3 ov iv ev s p l' hb hs h hi)
end AH
