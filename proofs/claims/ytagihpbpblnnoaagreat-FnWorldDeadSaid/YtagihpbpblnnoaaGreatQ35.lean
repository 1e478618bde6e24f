import Derived.Test.YtagihpbpblnnoaaGreatQ25
set_option linter.all false
namespace AH
open Go Go.Proofs Ho
set_option maxRecDepth 20000
set_option maxHeartbeats 16000000
theorem NE.or {o j k n e : Nat} (h : NE o j) : bOf (.sl o k n e) ≠ j ∨ AV.sl o k n e = .nils := .inl h
theorem NE.or' {o j k n e : Nat} (h : NE j o) : bOf (.sl o k n e) ≠ j ∨ AV.sl o k n e = .nils := .inl (Ne.symm h)
/-- A list behind one number. -/
theorem app_ls1 {P : Program} {t : TypeId} {τ : AHeap} {q : Nat} {kk : IntKind} {v : AV} {x : Int} {ys : List Int} (hv : LsV kk τ v ys) (hq : τ.get q = some ⟨[.int kk x], true⟩) (hl : (ys.length : Int) ≤ 1000000) :
    aappend P t (.sl q 0 1 1) v τ = @appR (tySlice P t) (.sl τ.n 0 (ys.length + 1) 1, (τ.kill q).push ⟨(x :: ys).map (.int kk), true⟩) ⟨aappend P t (.sl q 0 1 1) v τ⟩ := by
  have := app_ls (P := P) (t := t) (xs := [x]) (n := 1) hv hq rfl hl (by omega)
  rw [Nat.add_comm 1 ys.length] at this
  exact this
theorem BkO.set_out {n0 : Nat} {τ : AHeap} {b : Bk} {p o i e h0 h1 h2 h3 j : Nat} (h : BkO n0 τ b p o i e h0 h1 h2 h3) {X : ABlk} (hj : p ≠ j ∧ o ≠ j ∧ i ≠ j ∧ e ≠ j ∧ h0 ≠ j ∧ h1 ≠ j ∧ h2 ≠ j ∧ h3 ≠ j) : BkO n0 (τ.set j X) b p o i e h0 h1 h2 h3 := by
  obtain ⟨lo, hi, nd, gp, go, gi, ge, g0, g1, g2, g3⟩ := h
  obtain ⟨j1, j2, j3, j4, j5, j6, j7, j8⟩ := hj
  exact ⟨lo, hi, nd, by rw [set_get_ne j1]; exact gp, by rw [set_get_ne j2]; exact go, by rw [set_get_ne j3]; exact gi, by rw [set_get_ne j4]; exact ge, by rw [set_get_ne j5]; exact g0, by rw [set_get_ne j6]; exact g1, by rw [set_get_ne j7]; exact g2, by rw [set_get_ne j8]; exact g3⟩
theorem take_flt {L : List Int} {P u : Int} (h0 : 0 ≤ u) (h1 : u < L.length) : (L.take (u + 1).toNat).filter (fun x => !decide (x / 8 = P)) = (L.take u.toNat).filter (fun x => !decide (x / 8 = P)) ++ (if at_ L u / 8 = P then [] else [at_ L u]) := by
  rw [take_at h0 h1, List.filter_append]
  congr 1
  by_cases h : at_ L u / 8 = P <;> simp [h]
theorem callP_gen {P : Program} {f : AV} {args : List AV} {σ : AHeap} {k : AV → AHeap → Prop} (F : AHeap → Prop) (h0 : F σ) (h : ∀ τ, F τ → @callP P f args τ ⟨k⟩) : @callP P f args σ ⟨k⟩ := h σ h0
attribute [go_sem] app_ls1
theorem wide_ok {b : Bk} (hb : bookP b) {p : Int} (hp : 0 ≤ p ∧ p < b.pages.length) (hk : kindOf (at_ b.pages p) < 0) (h8 : 8 < at_ b.pages p) : p + (at_ b.pages p - 8) ≤ b.pages.length := by
  have h := hb.2.2 p hp.1 hp.2
  unfold pageP at h
  rw [if_neg (by omega), if_neg (by omega), if_neg (by omega)] at h
  exact h.1.2.2.1
theorem zBackW_fn (σ : AHeap) (b : Bk) (n0 p o i e h0 h1 h2 h3 : Nat) (a : Int) (hb : BkO n0 σ b p o i e h0 h1 h2 h3) (hs : BkS b) (hbk : bookP b) (ha : 0 ≤ a ∧ a < b.owner.length) (hk : kindOf (at_ b.pages (a / 8)) < 0) :
    Fn Tryz.prog 191 [bO b p o i e h0 h1 h2 h3, .int .i64 a] σ fun x τ => BkR σ τ p o i e h0 h1 h2 h3 (backB b a) x := by
  refine fn_of ord0 mixed Tryz.func191 (by kernel_rfl) rfl (by kernel_rfl) ?_
  obtain ⟨⟨lo1, lo2, lo3, lo4, lo5, lo6, lo7, lo8⟩, ⟨hi1, hi2, hi3, hi4, hi5, hi6, hi7, hi8⟩, ⟨d1, d2, d3, d4, d5, d6, d7, d8, d9, d10, d11, d12, d13, d14, d15, d16, d17, d18, d19, d20, d21, d22, d23, d24, d25, d26, d27, d28⟩, gp, go, gi, ge, g0, g1, g2, g3⟩ := id hb
  have hl := hbk.1.1
  have hpg : 0 ≤ a / 8 ∧ a / 8 < b.pages.length := by omega
  have hw := wide_ok hbk hpg hk
  have hsp := hs.p.2 (a / 8)
  obtain ⟨s, hse⟩ : ∃ s, at_ b.pages (a / 8) = s := ⟨_, rfl⟩
  rw [hse] at hk hw hsp
  obtain ⟨P, hP⟩ : ∃ P, a / 8 = P := ⟨_, rfl⟩
  rw [hP] at hse hpg hw
  have hm : backB b a = { b with owner := put b.owner a 0, pages := fillN b.pages P 0 (s - 8).toNat } := by
    unfold backB; simp only [hP, hse]; rw [if_pos hk]
  rw [hm]
  have a1 : ¬ (b.owner.length : Int) ≤ a := by omega
  have a0 := ha.1
  have p0 := hpg.1
  have p1 : ¬ (b.pages.length : Int) ≤ P := by omega
  have q1 : a.tdiv 8 = P := by rw [Int.tdiv_eq_ediv_of_nonneg ha.1]; exact hP
  have gs : (b.pages.map (AV.int .i64))[P.toNat]? = some (.int .i64 s) := by rw [map_get hpg.1 hpg.2, hse]
  simp (config := {contextual := true, maxSteps := 1000000}) (disch := first | exact dB | fail) [go_sem, envOf, wrap_i64, int_lt, -Int.not_le, -Int.not_lt, Bool.decide_and, Bool.decide_or, and_assoc, Bool.and_assoc, Bool.or_assoc, Prod.exists, Prod.forall, -List.map_set, set_put, gp, go, q1, hse, a1, a0, p0, p1, hk, gs]
  refine Alt.mk ?_
  have hs0 := set_self' (σ := σ.set o ⟨(put b.owner a 0).map (.int .i64), true⟩) (j := p) (B := ⟨b.pages.map (.int .i64), true⟩) (by (first | exact cGT | fail))
  rw [← hs0]
  refine aloops_lt (fun R_ env τ => ∃ (k : Nat), env 1 = .int .i64 a ∧ env 2 = .ptr σ.n 0 ∧ env 4 = .ptr (σ.n + 1) 0 ∧ env 5 = .int .i64 P ∧ env 6 = .int .i64 s ∧ env 7 = .int .i64 k ∧ ((((σ.set o ⟨(put b.owner a 0).map (.int .i64), true⟩).set p ⟨(fillN b.pages P 0 k).map (.int .i64), true⟩).push ⟨[.int .i64 b.slots, .sl p 0 b.pages.length 1, .sl h0 0 (b.heads 0).length 1, .sl h1 0 (b.heads 1).length 1, .sl h2 0 (b.heads 2).length 1, .sl h3 0 (b.heads 3).length 1, .sl o 0 b.owner.length 1, .sl i 0 b.inn.length 1, .sl e 0 b.epoch.length 1], true⟩).push ⟨[.int .i64 0, .nils, .nils, .nils, .nils, .nils, .nils, .nils, .nils], true⟩) = τ ∧ R_ ((s - 8 - k).toNat) ∧ ((k : Int) ≤ s - 8 ∨ k = 0)) (by rintro R_ env τ ⟨k, e1, e2, e4, e5, e6, e7, h_, hR_, hp⟩; exact ⟨_, hR_, k, e1, e2, e4, e5, e6, e7, h_, rfl, hp⟩) ⟨0, by first | rfl | simp [put_get, *], by first | rfl | simp [put_get, *], by first | rfl | simp [put_get, *], by first | rfl | simp [put_get, *], by first | rfl | simp [put_get, *], by first | rfl | simp [put_get, *], rfl, trivial, ?_⟩ ?_
  rotate_left
  rintro m_ env τ ⟨k, e1, e2, e4, e5, e6, e7, rfl, rfl, hp⟩
  · have hlen := fillN_len b.pages P 0 k
    have k1 : 0 ≤ P + (k : Int) := by omega
    simp (config := {contextual := true, maxSteps := 1000000}) (disch := first | exact dB | fail) [go_sem, envOf, wrap_i64, int_lt, -Int.not_le, -Int.not_lt, Bool.decide_and, Bool.decide_or, and_assoc, Bool.and_assoc, Bool.or_assoc, Prod.exists, Prod.forall, -List.map_set, set_put, e1, e2, e4, e5, e6, e7, hlen, k1, gp, go]
    refine ⟨fun hkk => ⟨k + 1, by omega, ?_, by omega, by omega⟩, fun hkk => ?_⟩
    · simp only [fillN]
    · have ek : (s - 8).toNat = k := by omega
      rw [ek]
      refine BkR.mk' n0 p o i e h0 h1 h2 h3 ⟨by omega, by simp only [push_n', set_n']; omega, (by refine ⟨?_, ?_, ?_, ?_, ?_, ?_, ?_, ?_, ?_, ?_, ?_, ?_, ?_, ?_, ?_, ?_, ?_, ?_, ?_, ?_, ?_, ?_, ?_, ?_, ?_, ?_, ?_, ?_⟩ <;> first | assumption | exact NE.sw (by assumption) | (simp only [NE]; omega)), ?_, ?_, ?_, ?_, ?_, ?_, ?_, ?_⟩ (by simp [put_len', fillN_len]) (by first | exact cKO | fail) (by simp only [push_n', set_n']; omega) (by intro y hy ho; obtain ⟨z1, z2, z3, z4, z5, z6, z7, z8⟩ := ho; refine ⟨?_, ?_, ?_, ?_, ?_, ?_, ?_, ?_⟩ <;> first | assumption | (simp only [NE]; omega)) <;> (first | exact cGT | fail)
  · omega
theorem zBack0_fn (σ : AHeap) (b : Bk) (n0 p o i e h0 h1 h2 h3 : Nat) (a : Int) (hb : BkO n0 σ b p o i e h0 h1 h2 h3) (hs : BkS b) (hbk : bookP b) (ha : 0 ≤ a ∧ a < b.owner.length) (hk : at_ b.pages (a / 8) = 1) :
    Fn Tryz.prog 191 [bO b p o i e h0 h1 h2 h3, .int .i64 a] σ fun x τ => BkR σ τ p o i e h0 h1 h2 h3 (backB b a) x := by
  refine fn_of ord0 mixed Tryz.func191 (by kernel_rfl) rfl (by kernel_rfl) ?_
  obtain ⟨⟨lo1, lo2, lo3, lo4, lo5, lo6, lo7, lo8⟩, ⟨hi1, hi2, hi3, hi4, hi5, hi6, hi7, hi8⟩, ⟨d1, d2, d3, d4, d5, d6, d7, d8, d9, d10, d11, d12, d13, d14, d15, d16, d17, d18, d19, d20, d21, d22, d23, d24, d25, d26, d27, d28⟩, gp, go, gi, ge, g0, g1, g2, g3⟩ := id hb
  have hl := hbk.1.1
  have hhl := heads_le hbk hs 0 (by omega)
  have hsh := (hs.h 0)
  have hpg : 0 ≤ a / 8 ∧ a / 8 < b.pages.length := by omega
  obtain ⟨P, hP⟩ : ∃ P, a / 8 = P := ⟨_, rfl⟩
  rw [hP] at hk hpg
  have hko : kindOf 1 = 0 := by decide
  have a1 : ¬ (b.owner.length : Int) ≤ a := by omega
  have a0 := ha.1
  have p0 := hpg.1
  have p1 : ¬ (b.pages.length : Int) ≤ P := by omega
  have q1 : a.tdiv 8 = P := by rw [Int.tdiv_eq_ediv_of_nonneg ha.1]; exact hP
  have gs : (b.pages.map (AV.int .i64))[P.toNat]? = some (.int .i64 1) := by rw [map_get hpg.1 hpg.2, hk]
  have hv0 : LsV .i64 σ (.sl h0 0 (b.heads 0).length 1) (b.heads 0) := (id hb).v.h0
  simp (config := {contextual := true, maxSteps := 1000000}) (disch := first | exact dB | fail) [go_sem, envOf, wrap_i64, int_lt, -Int.not_le, -Int.not_lt, Bool.decide_and, Bool.decide_or, and_assoc, Bool.and_assoc, Bool.or_assoc, Prod.exists, Prod.forall, -List.map_set, set_put, gp, go, g0, q1, hk, a1, a0, p0, p1, gs, hko]
  repeat refine Alt.mk ?_
  have hsm : Sm (a :: b.heads 0) := .of (by simp; omega) (by
    intro x hx
    rcases List.mem_cons.1 hx with rfl | hx
    · omega
    · exact hsh.mem x hx)
  obtain ⟨b2, hb2⟩ : ∃ b2 : Bk, b2 = { b with owner := put b.owner a 0, heads := setH b.heads 0 (a :: b.heads 0) } := ⟨_, rfl⟩
  have hS2 : BkS b2 := by rw [hb2]; exact ⟨hs.s, hs.p, setH_sm hs.h hsm, hs.o.put _ (by omega), hs.i, hs.e⟩
  refine callP_gen (fun τ => ∃ q, q = σ.n + 1 + 1 + 1 ∧ τ.n = σ.n + 4 ∧ BkO n0 τ b2 p o i e q h1 h2 h3 ∧ τ.get σ.n = some ⟨[.int .i64 b.slots, .sl p 0 b.pages.length 1, .sl q 0 ((b.heads 0).length + 1) 1, .sl h1 0 (b.heads 1).length 1, .sl h2 0 (b.heads 2).length 1, .sl h3 0 (b.heads 3).length 1, .sl o 0 b.owner.length 1, .sl i 0 b.inn.length 1, .sl e 0 b.epoch.length 1], true⟩ ∧ τ.get (σ.n + 1) = some ⟨[.int .i64 0, .nils, .nils, .nils, .nils, .nils, .nils, .nils, .nils], true⟩ ∧ ∀ y, y < σ.n → Out y p o i e h0 h1 h2 h3 → τ.get y = σ.get y) ?_ ?_
  · refine ⟨_, rfl, by simp only [push_n', set_n', kill_n'], ⟨by omega, by simp only [push_n', set_n', kill_n']; omega, (by refine ⟨?_, ?_, ?_, ?_, ?_, ?_, ?_, ?_, ?_, ?_, ?_, ?_, ?_, ?_, ?_, ?_, ?_, ?_, ?_, ?_, ?_, ?_, ?_, ?_, ?_, ?_, ?_, ?_⟩ <;> first | assumption | exact NE.sw (by assumption) | (simp only [NE]; omega)), ?_, ?_, ?_, ?_, ?_, ?_, ?_, ?_⟩, ?_, ?_, ?_⟩
    all_goals (try subst hb2)
    all_goals first
      | (first | exact cGT | fail)
      | (intro j_ hj_ ho_; obtain ⟨z1, z2, z3, z4, z5, z6, z7, z8⟩ := ho_; simp (disch := first | exact NE.ne (by assumption) | exact NE.sym (by assumption) | omega | (simp only [push_n', set_n', kill_n', res_n]; omega)) only [push_get_lt, set_get_ne, kill_get_ne, res_lt])
      | (simp only [setH, if_pos, List.map_cons]; (first | exact cGT | fail))
  rintro τ ⟨q, hq, hn, hO, gb, gr, hfr⟩
  rw [← hq]
  have hlen : b2.owner.length = b.owner.length := by rw [hb2]; simp [put_len']
  have hE : bO b2 p o i e q h1 h2 h3 = (.agg [.int .i64 b.slots, .sl p 0 b.pages.length 1, .sl q 0 ((b.heads 0).length + 1) 1, .sl h1 0 (b.heads 1).length 1, .sl h2 0 (b.heads 2).length 1, .sl h3 0 (b.heads 3).length 1, .sl o 0 b.owner.length 1, .sl i 0 b.inn.length 1, .sl e 0 b.epoch.length 1]) := by rw [hb2]; simp [put_len', setH]
  rw [← hE]
  refine callP_use (zFree_fn τ b2 _ _ _ _ _ _ _ _ P 0 hO.v hS2 ⟨by omega, by omega, by omega, by omega⟩) ?_
  rintro v τ' hn' ⟨rfl, rfl⟩
  have hbB : backB b a = if freeP b2 P 0 then { b2 with pages := put b.pages P 0, heads := setH b.heads 0 ((a :: b.heads 0).filter fun x => decide (x / 8 ≠ P)) } else b2 := by
    unfold backB
    simp only [hP, hk, hko]
    rw [if_neg (by omega)]
    have e1 : freeP { b with owner := put b.owner a 0 } P 0 ↔ freeP b2 P 0 := by rw [hb2]; exact Iff.rfl
    by_cases hf : freeP b2 P 0
    · rw [if_pos hf, if_pos (e1.2 hf), hb2]; rfl
    · rw [if_neg hf, if_neg (fun h => hf (e1.1 h)), hb2]; rfl
  by_cases hf : freeP b2 P 0
  rotate_left
  · rw [hbB, if_neg hf]
    simp (config := {contextual := true, maxSteps := 1000000}) (disch := first | exact dB | fail) [go_sem, envOf, wrap_i64, int_lt, -Int.not_le, -Int.not_lt, Bool.decide_and, Bool.decide_or, and_assoc, Bool.and_assoc, Bool.or_assoc, Prod.exists, Prod.forall, -List.map_set, set_put, hf, gb, gr]
    exact BkR.mk' n0 p o i e q h1 h2 h3 (hO.set_out (by omega)) hE.symm (by intro y hy ho; rw [set_get_ne (by omega)]; exact hfr y hy ho) (by simp only [set_n']; omega) (by intro y hy ho; obtain ⟨z1, z2, z3, z4, z5, z6, z7, z8⟩ := ho; refine ⟨?_, ?_, ?_, ?_, ?_, ?_, ?_, ?_⟩ <;> first | assumption | (simp only [NE]; omega))
  · rw [hbB, if_pos hf]
    have gP := hO.gp
    have ep : b2.pages = b.pages := by rw [hb2]
    rw [ep] at gP
    simp (config := {contextual := true, maxSteps := 1000000}) (disch := first | exact dB | fail) [go_sem, envOf, wrap_i64, int_lt, -Int.not_le, -Int.not_lt, Bool.decide_and, Bool.decide_or, and_assoc, Bool.and_assoc, Bool.or_assoc, Prod.exists, Prod.forall, -List.map_set, set_put, hf, gb, gr, gP]
    have gQ := hO.g0
    rw [show b2.heads 0 = a :: b.heads 0 by rw [hb2]; rfl] at gQ
    obtain ⟨L, hL⟩ : ∃ L, L = a :: b.heads 0 := ⟨_, rfl⟩
    have hLl : (b.heads 0).length + 1 = L.length := by rw [hL]; rfl
    rw [← hL] at gQ hsm
    rw [hLl] at gb
    have hnn : ∀ x ∈ L, 0 ≤ x := by
      rw [hL]
      intro x hx
      rcases List.mem_cons.1 hx with rfl | hx
      · exact ha.1
      · obtain ⟨k, hk', rfl⟩ := List.mem_iff_getElem.1 hx
        have := (hbk.2.1 0 (by omega)).2 (k : Int) (by omega) (by omega)
        simpa [at_, hk'] using this.1
    refine aloops_lt (fun R_ env τ => ∃ (u : Int), ∃ (ql : Nat), ∃ (l : List Int), env 10 = .int .i64 u ∧ env 9 = .sl ql 0 l.length 1 ∧ env 8 = .int .i64 0 ∧ env 5 = .int .i64 P ∧ env 2 = .ptr σ.n 0 ∧ env 4 = .ptr (σ.n + 1) 0 ∧ R_ ((L.length - u).toNat) ∧ (0 ≤ u ∧ u ≤ L.length) ∧ (τ.get ql = some ⟨l.map (.int .i64), true⟩) ∧ (τ'.n ≤ ql ∧ ql < τ.n) ∧ (l = (L.take u.toNat).filter (fun x => decide (x / 8 ≠ P))) ∧ ((∀ y, y < τ'.n → NE y p → τ.get y = τ'.get y)) ∧ (τ.get p = some ⟨(put b.pages P 0).map (.int .i64), true⟩)) (by rintro R_ env τ ⟨u, ql, l, e10, e9, e8, e5, e2, e4, hR_, hu, gq, hql, hl', hf2, gp2⟩; exact ⟨_, hR_, u, ql, l, e10, e9, e8, e5, e2, e4, rfl, hu, gq, hql, hl', hf2, gp2⟩) ⟨0, τ'.n, [], by first | rfl | simp [put_get, *], by first | rfl | simp [put_get, *], by first | rfl | simp [put_get, *], by first | rfl | simp [put_get, *], by first | rfl | simp [put_get, *], by first | rfl | simp [put_get, *], trivial, ?_, ?_, ?_, ?_, ?_, ?_⟩ ?_
    rotate_left 6
    rintro m_ env τ ⟨u, ql, l, e10, e9, e8, e5, e2, e4, rfl, hu, gq, hql, hl', hf2, gp2⟩
    · have gb' := (hf2 σ.n (by omega) (by simp only [NE]; omega)).trans gb
      have gr' := (hf2 (σ.n + 1) (by omega) (by simp only [NE]; omega)).trans gr
      have gQ' := (hf2 q (by omega) (by simp only [NE]; omega)).trans gQ
      have hvL : LsV .i64 τ (.sl q 0 L.length 1) L := lsv_at (by omega) gQ' rfl
      have hll : l.length ≤ L.length := by
        rw [hl']
        refine Nat.le_trans (List.length_filter_le _ _) ?_
        simp; omega
      have hL1 : L.length ≤ 60 := by omega
      have hql1 : NE q ql := by simp only [NE]; omega
      have hqs : NE σ.n ql ∧ NE (σ.n + 1) ql := by simp only [NE]; omega
      obtain ⟨hq1, hq2⟩ := hqs
      by_cases hul : u < L.length
      · have hx0 : 0 ≤ at_ L u := by
          have := at_mem (ws := L) (j := u) ⟨hu.1, hul⟩
          exact hnn _ this
        have hx : (at_ L u).tdiv 8 = at_ L u / 8 := Int.tdiv_eq_ediv_of_nonneg hx0
        have hul' : ¬ (L.length : Int) ≤ u := by omega
        have hu0 := hu.1
        have htk := take_flt (P := P) hu.1 hul
        have hxr := hsm.2 u
        have hwr : IntKind.i64.wrap (at_ L u / 8) = at_ L u / 8 := wrap_i64 (by omega)
        by_cases hxP : at_ L u / 8 = P
        · simp (config := {contextual := true, maxSteps := 1000000}) (disch := first | exact dB | fail) [go_sem, envOf, wrap_i64, int_lt, -Int.not_le, -Int.not_lt, Bool.decide_and, Bool.decide_or, and_assoc, Bool.and_assoc, Bool.or_assoc, Prod.exists, Prod.forall, -List.map_set, set_put, e10, e9, e8, e5, e2, e4, gb', gq, hul', hx, hxP]
          exact ⟨l, rfl, by omega, by omega, by omega, rfl, by omega, by omega, by rw [htk, if_pos hxP, List.append_nil]; simpa using hl', hf2, gp2⟩
        · simp (config := {contextual := true, maxSteps := 1000000}) (disch := first | exact dB | fail) [go_sem, envOf, wrap_i64, int_lt, -Int.not_le, -Int.not_lt, Bool.decide_and, Bool.decide_or, and_assoc, Bool.and_assoc, Bool.or_assoc, Prod.exists, Prod.forall, -List.map_set, set_put, e10, e9, e8, e5, e2, e4, gb', gq, hul', hx, hwr, hxP]
          exact ⟨l ++ [at_ L u], by simp, by omega, by omega, by omega, by simp, by omega, by rw [htk, if_neg hxP]; congr 1; simpa using hl', hf2, gp2⟩
      · have hul' : (L.length : Int) ≤ u := by omega
        simp (config := {contextual := true, maxSteps := 1000000}) (disch := first | exact dB | fail) [go_sem, envOf, wrap_i64, int_lt, -Int.not_le, -Int.not_lt, Bool.decide_and, Bool.decide_or, and_assoc, Bool.and_assoc, Bool.or_assoc, Prod.exists, Prod.forall, -List.map_set, set_put, e10, e9, e8, e5, e2, e4, gb', gr', hul']
        have hlf : l = L.filter (fun x => !decide (x / 8 = P)) := by
          rw [List.take_of_length_le (by omega)] at hl'
          simpa using hl'
        rw [← hL, ← hlf]
        subst hb2
        refine BkR.mk' n0 p o i e ql h1 h2 h3 ?_ (by simp [put_len', setH]) (by intro y hy ho; rw [set_get_ne (by omega), set_get_ne (by omega), hf2 y (by omega) ho.p]; exact hfr y hy ho) (by simp only [set_n']; omega) (by intro y hy ho; obtain ⟨z1, z2, z3, z4, z5, z6, z7, z8⟩ := ho; refine ⟨?_, ?_, ?_, ?_, ?_, ?_, ?_, ?_⟩ <;> first | assumption | (simp only [NE]; omega))
        refine BkO.set_out (BkO.set_out ?_ (by omega)) (by omega)
        exact ⟨by omega, by omega, (by refine ⟨?_, ?_, ?_, ?_, ?_, ?_, ?_, ?_, ?_, ?_, ?_, ?_, ?_, ?_, ?_, ?_, ?_, ?_, ?_, ?_, ?_, ?_, ?_, ?_, ?_, ?_, ?_, ?_⟩ <;> first | assumption | exact NE.sw (by assumption) | (simp only [NE]; omega)), gp2, (hf2 o (by omega) (by first | assumption | exact NE.sw (by assumption))).trans hO.go, (hf2 i (by omega) (by first | assumption | exact NE.sw (by assumption))).trans hO.gi, (hf2 e (by omega) (by first | assumption | exact NE.sw (by assumption))).trans hO.ge, gq, (hf2 h1 (by omega) (by first | assumption | exact NE.sw (by assumption))).trans hO.g1, (hf2 h2 (by omega) (by first | assumption | exact NE.sw (by assumption))).trans hO.g2, (hf2 h3 (by omega) (by first | assumption | exact NE.sw (by assumption))).trans hO.g3⟩
    all_goals first
      | omega
      | (simp; done)
      | (first | exact cGT | fail)
      | (intro y y1 y2; (first | exact cGT | fail))
      | trace_state
theorem zBack1_fn (σ : AHeap) (b : Bk) (n0 p o i e h0 h1 h2 h3 : Nat) (a : Int) (hb : BkO n0 σ b p o i e h0 h1 h2 h3) (hs : BkS b) (hbk : bookP b) (ha : 0 ≤ a ∧ a < b.owner.length) (hk : at_ b.pages (a / 8) = 2) :
    Fn Tryz.prog 191 [bO b p o i e h0 h1 h2 h3, .int .i64 a] σ fun x τ => BkR σ τ p o i e h0 h1 h2 h3 (backB b a) x := by
  refine fn_of ord0 mixed Tryz.func191 (by kernel_rfl) rfl (by kernel_rfl) ?_
  obtain ⟨⟨lo1, lo2, lo3, lo4, lo5, lo6, lo7, lo8⟩, ⟨hi1, hi2, hi3, hi4, hi5, hi6, hi7, hi8⟩, ⟨d1, d2, d3, d4, d5, d6, d7, d8, d9, d10, d11, d12, d13, d14, d15, d16, d17, d18, d19, d20, d21, d22, d23, d24, d25, d26, d27, d28⟩, gp, go, gi, ge, g0, g1, g2, g3⟩ := id hb
  have hl := hbk.1.1
  have hhl := heads_le hbk hs 1 (by omega)
  have hsh := (hs.h 1)
  have hpg : 0 ≤ a / 8 ∧ a / 8 < b.pages.length := by omega
  obtain ⟨P, hP⟩ : ∃ P, a / 8 = P := ⟨_, rfl⟩
  rw [hP] at hk hpg
  have hko : kindOf 2 = 1 := by decide
  have a1 : ¬ (b.owner.length : Int) ≤ a := by omega
  have a0 := ha.1
  have p0 := hpg.1
  have p1 : ¬ (b.pages.length : Int) ≤ P := by omega
  have q1 : a.tdiv 8 = P := by rw [Int.tdiv_eq_ediv_of_nonneg ha.1]; exact hP
  have gs : (b.pages.map (AV.int .i64))[P.toNat]? = some (.int .i64 2) := by rw [map_get hpg.1 hpg.2, hk]
  have hv0 : LsV .i64 σ (.sl h1 0 (b.heads 1).length 1) (b.heads 1) := (id hb).v.h1
  simp (config := {contextual := true, maxSteps := 1000000}) (disch := first | exact dB | fail) [go_sem, envOf, wrap_i64, int_lt, -Int.not_le, -Int.not_lt, Bool.decide_and, Bool.decide_or, and_assoc, Bool.and_assoc, Bool.or_assoc, Prod.exists, Prod.forall, -List.map_set, set_put, gp, go, g1, q1, hk, a1, a0, p0, p1, gs, hko]
  repeat refine Alt.mk ?_
  have hsm : Sm (a :: b.heads 1) := .of (by simp; omega) (by
    intro x hx
    rcases List.mem_cons.1 hx with rfl | hx
    · omega
    · exact hsh.mem x hx)
  obtain ⟨b2, hb2⟩ : ∃ b2 : Bk, b2 = { b with owner := put b.owner a 0, heads := setH b.heads 1 (a :: b.heads 1) } := ⟨_, rfl⟩
  have hS2 : BkS b2 := by rw [hb2]; exact ⟨hs.s, hs.p, setH_sm hs.h hsm, hs.o.put _ (by omega), hs.i, hs.e⟩
  refine callP_gen (fun τ => ∃ q, q = σ.n + 1 + 1 + 1 ∧ τ.n = σ.n + 4 ∧ BkO n0 τ b2 p o i e h0 q h2 h3 ∧ τ.get σ.n = some ⟨[.int .i64 b.slots, .sl p 0 b.pages.length 1, .sl h0 0 (b.heads 0).length 1, .sl q 0 ((b.heads 1).length + 1) 1, .sl h2 0 (b.heads 2).length 1, .sl h3 0 (b.heads 3).length 1, .sl o 0 b.owner.length 1, .sl i 0 b.inn.length 1, .sl e 0 b.epoch.length 1], true⟩ ∧ τ.get (σ.n + 1) = some ⟨[.int .i64 0, .nils, .nils, .nils, .nils, .nils, .nils, .nils, .nils], true⟩ ∧ ∀ y, y < σ.n → Out y p o i e h0 h1 h2 h3 → τ.get y = σ.get y) ?_ ?_
  · refine ⟨_, rfl, by simp only [push_n', set_n', kill_n'], ⟨by omega, by simp only [push_n', set_n', kill_n']; omega, (by refine ⟨?_, ?_, ?_, ?_, ?_, ?_, ?_, ?_, ?_, ?_, ?_, ?_, ?_, ?_, ?_, ?_, ?_, ?_, ?_, ?_, ?_, ?_, ?_, ?_, ?_, ?_, ?_, ?_⟩ <;> first | assumption | exact NE.sw (by assumption) | (simp only [NE]; omega)), ?_, ?_, ?_, ?_, ?_, ?_, ?_, ?_⟩, ?_, ?_, ?_⟩
    all_goals (try subst hb2)
    all_goals first
      | (first | exact cGT | fail)
      | (intro j_ hj_ ho_; obtain ⟨z1, z2, z3, z4, z5, z6, z7, z8⟩ := ho_; simp (disch := first | exact NE.ne (by assumption) | exact NE.sym (by assumption) | omega | (simp only [push_n', set_n', kill_n', res_n]; omega)) only [push_get_lt, set_get_ne, kill_get_ne, res_lt])
      | (simp only [setH, if_pos, List.map_cons]; (first | exact cGT | fail))
  rintro τ ⟨q, hq, hn, hO, gb, gr, hfr⟩
  rw [← hq]
  have hlen : b2.owner.length = b.owner.length := by rw [hb2]; simp [put_len']
  have hE : bO b2 p o i e h0 q h2 h3 = (.agg [.int .i64 b.slots, .sl p 0 b.pages.length 1, .sl h0 0 (b.heads 0).length 1, .sl q 0 ((b.heads 1).length + 1) 1, .sl h2 0 (b.heads 2).length 1, .sl h3 0 (b.heads 3).length 1, .sl o 0 b.owner.length 1, .sl i 0 b.inn.length 1, .sl e 0 b.epoch.length 1]) := by rw [hb2]; simp [put_len', setH]
  rw [← hE]
  refine callP_use (zFree_fn τ b2 _ _ _ _ _ _ _ _ P 0 hO.v hS2 ⟨by omega, by omega, by omega, by omega⟩) ?_
  rintro v τ' hn' ⟨rfl, rfl⟩
  have hbB : backB b a = if freeP b2 P 0 then { b2 with pages := put b.pages P 0, heads := setH b.heads 1 ((a :: b.heads 1).filter fun x => decide (x / 8 ≠ P)) } else b2 := by
    unfold backB
    simp only [hP, hk, hko]
    rw [if_neg (by omega)]
    have e1 : freeP { b with owner := put b.owner a 0 } P 0 ↔ freeP b2 P 0 := by rw [hb2]; exact Iff.rfl
    by_cases hf : freeP b2 P 0
    · rw [if_pos hf, if_pos (e1.2 hf), hb2]; rfl
    · rw [if_neg hf, if_neg (fun h => hf (e1.1 h)), hb2]; rfl
  by_cases hf : freeP b2 P 0
  rotate_left
  · rw [hbB, if_neg hf]
    simp (config := {contextual := true, maxSteps := 1000000}) (disch := first | exact dB | fail) [go_sem, envOf, wrap_i64, int_lt, -Int.not_le, -Int.not_lt, Bool.decide_and, Bool.decide_or, and_assoc, Bool.and_assoc, Bool.or_assoc, Prod.exists, Prod.forall, -List.map_set, set_put, hf, gb, gr]
    exact BkR.mk' n0 p o i e h0 q h2 h3 (hO.set_out (by omega)) hE.symm (by intro y hy ho; rw [set_get_ne (by omega)]; exact hfr y hy ho) (by simp only [set_n']; omega) (by intro y hy ho; obtain ⟨z1, z2, z3, z4, z5, z6, z7, z8⟩ := ho; refine ⟨?_, ?_, ?_, ?_, ?_, ?_, ?_, ?_⟩ <;> first | assumption | (simp only [NE]; omega))
  · rw [hbB, if_pos hf]
    have gP := hO.gp
    have ep : b2.pages = b.pages := by rw [hb2]
    rw [ep] at gP
    simp (config := {contextual := true, maxSteps := 1000000}) (disch := first | exact dB | fail) [go_sem, envOf, wrap_i64, int_lt, -Int.not_le, -Int.not_lt, Bool.decide_and, Bool.decide_or, and_assoc, Bool.and_assoc, Bool.or_assoc, Prod.exists, Prod.forall, -List.map_set, set_put, hf, gb, gr, gP]
    have gQ := hO.g1
    rw [show b2.heads 1 = a :: b.heads 1 by rw [hb2]; rfl] at gQ
    obtain ⟨L, hL⟩ : ∃ L, L = a :: b.heads 1 := ⟨_, rfl⟩
    have hLl : (b.heads 1).length + 1 = L.length := by rw [hL]; rfl
    rw [← hL] at gQ hsm
    rw [hLl] at gb
    have hnn : ∀ x ∈ L, 0 ≤ x := by
      rw [hL]
      intro x hx
      rcases List.mem_cons.1 hx with rfl | hx
      · exact ha.1
      · obtain ⟨k, hk', rfl⟩ := List.mem_iff_getElem.1 hx
        have := (hbk.2.1 1 (by omega)).2 (k : Int) (by omega) (by omega)
        simpa [at_, hk'] using this.1
    refine aloops_lt (fun R_ env τ => ∃ (u : Int), ∃ (ql : Nat), ∃ (l : List Int), env 10 = .int .i64 u ∧ env 9 = .sl ql 0 l.length 1 ∧ env 8 = .int .i64 1 ∧ env 5 = .int .i64 P ∧ env 2 = .ptr σ.n 0 ∧ env 4 = .ptr (σ.n + 1) 0 ∧ R_ ((L.length - u).toNat) ∧ (0 ≤ u ∧ u ≤ L.length) ∧ (τ.get ql = some ⟨l.map (.int .i64), true⟩) ∧ (τ'.n ≤ ql ∧ ql < τ.n) ∧ (l = (L.take u.toNat).filter (fun x => decide (x / 8 ≠ P))) ∧ ((∀ y, y < τ'.n → NE y p → τ.get y = τ'.get y)) ∧ (τ.get p = some ⟨(put b.pages P 0).map (.int .i64), true⟩)) (by rintro R_ env τ ⟨u, ql, l, e10, e9, e8, e5, e2, e4, hR_, hu, gq, hql, hl', hf2, gp2⟩; exact ⟨_, hR_, u, ql, l, e10, e9, e8, e5, e2, e4, rfl, hu, gq, hql, hl', hf2, gp2⟩) ⟨0, τ'.n, [], by first | rfl | simp [put_get, *], by first | rfl | simp [put_get, *], by first | rfl | simp [put_get, *], by first | rfl | simp [put_get, *], by first | rfl | simp [put_get, *], by first | rfl | simp [put_get, *], trivial, ?_, ?_, ?_, ?_, ?_, ?_⟩ ?_
    rotate_left 6
    rintro m_ env τ ⟨u, ql, l, e10, e9, e8, e5, e2, e4, rfl, hu, gq, hql, hl', hf2, gp2⟩
    · have gb' := (hf2 σ.n (by omega) (by simp only [NE]; omega)).trans gb
      have gr' := (hf2 (σ.n + 1) (by omega) (by simp only [NE]; omega)).trans gr
      have gQ' := (hf2 q (by omega) (by simp only [NE]; omega)).trans gQ
      have hvL : LsV .i64 τ (.sl q 0 L.length 1) L := lsv_at (by omega) gQ' rfl
      have hll : l.length ≤ L.length := by
        rw [hl']
        refine Nat.le_trans (List.length_filter_le _ _) ?_
        simp; omega
      have hL1 : L.length ≤ 60 := by omega
      have hql1 : NE q ql := by simp only [NE]; omega
      have hqs : NE σ.n ql ∧ NE (σ.n + 1) ql := by simp only [NE]; omega
      obtain ⟨hq1, hq2⟩ := hqs
      by_cases hul : u < L.length
      · have hx0 : 0 ≤ at_ L u := by
          have := at_mem (ws := L) (j := u) ⟨hu.1, hul⟩
          exact hnn _ this
        have hx : (at_ L u).tdiv 8 = at_ L u / 8 := Int.tdiv_eq_ediv_of_nonneg hx0
        have hul' : ¬ (L.length : Int) ≤ u := by omega
        have hu0 := hu.1
        have htk := take_flt (P := P) hu.1 hul
        have hxr := hsm.2 u
        have hwr : IntKind.i64.wrap (at_ L u / 8) = at_ L u / 8 := wrap_i64 (by omega)
        by_cases hxP : at_ L u / 8 = P
        · simp (config := {contextual := true, maxSteps := 1000000}) (disch := first | exact dB | fail) [go_sem, envOf, wrap_i64, int_lt, -Int.not_le, -Int.not_lt, Bool.decide_and, Bool.decide_or, and_assoc, Bool.and_assoc, Bool.or_assoc, Prod.exists, Prod.forall, -List.map_set, set_put, e10, e9, e8, e5, e2, e4, gb', gq, hul', hx, hxP]
          exact ⟨l, rfl, by omega, by omega, by omega, rfl, by omega, by omega, by rw [htk, if_pos hxP, List.append_nil]; simpa using hl', hf2, gp2⟩
        · simp (config := {contextual := true, maxSteps := 1000000}) (disch := first | exact dB | fail) [go_sem, envOf, wrap_i64, int_lt, -Int.not_le, -Int.not_lt, Bool.decide_and, Bool.decide_or, and_assoc, Bool.and_assoc, Bool.or_assoc, Prod.exists, Prod.forall, -List.map_set, set_put, e10, e9, e8, e5, e2, e4, gb', gq, hul', hx, hwr, hxP]
          exact ⟨l ++ [at_ L u], by simp, by omega, by omega, by omega, by simp, by omega, by rw [htk, if_neg hxP]; congr 1; simpa using hl', hf2, gp2⟩
      · have hul' : (L.length : Int) ≤ u := by omega
        simp (config := {contextual := true, maxSteps := 1000000}) (disch := first | exact dB | fail) [go_sem, envOf, wrap_i64, int_lt, -Int.not_le, -Int.not_lt, Bool.decide_and, Bool.decide_or, and_assoc, Bool.and_assoc, Bool.or_assoc, Prod.exists, Prod.forall, -List.map_set, set_put, e10, e9, e8, e5, e2, e4, gb', gr', hul']
        have hlf : l = L.filter (fun x => !decide (x / 8 = P)) := by
          rw [List.take_of_length_le (by omega)] at hl'
          simpa using hl'
        rw [← hL, ← hlf]
        subst hb2
        refine BkR.mk' n0 p o i e h0 ql h2 h3 ?_ (by simp [put_len', setH]) (by intro y hy ho; rw [set_get_ne (by omega), set_get_ne (by omega), hf2 y (by omega) ho.p]; exact hfr y hy ho) (by simp only [set_n']; omega) (by intro y hy ho; obtain ⟨z1, z2, z3, z4, z5, z6, z7, z8⟩ := ho; refine ⟨?_, ?_, ?_, ?_, ?_, ?_, ?_, ?_⟩ <;> first | assumption | (simp only [NE]; omega))
        refine BkO.set_out (BkO.set_out ?_ (by omega)) (by omega)
        exact ⟨by omega, by omega, (by refine ⟨?_, ?_, ?_, ?_, ?_, ?_, ?_, ?_, ?_, ?_, ?_, ?_, ?_, ?_, ?_, ?_, ?_, ?_, ?_, ?_, ?_, ?_, ?_, ?_, ?_, ?_, ?_, ?_⟩ <;> first | assumption | exact NE.sw (by assumption) | (simp only [NE]; omega)), gp2, (hf2 o (by omega) (by first | assumption | exact NE.sw (by assumption))).trans hO.go, (hf2 i (by omega) (by first | assumption | exact NE.sw (by assumption))).trans hO.gi, (hf2 e (by omega) (by first | assumption | exact NE.sw (by assumption))).trans hO.ge, (hf2 h0 (by omega) (by first | assumption | exact NE.sw (by assumption))).trans hO.g0, gq, (hf2 h2 (by omega) (by first | assumption | exact NE.sw (by assumption))).trans hO.g2, (hf2 h3 (by omega) (by first | assumption | exact NE.sw (by assumption))).trans hO.g3⟩
    all_goals first
      | omega
      | (simp; done)
      | (first | exact cGT | fail)
      | (intro y y1 y2; (first | exact cGT | fail))
      | trace_state
theorem zBack2_fn (σ : AHeap) (b : Bk) (n0 p o i e h0 h1 h2 h3 : Nat) (a : Int) (hb : BkO n0 σ b p o i e h0 h1 h2 h3) (hs : BkS b) (hbk : bookP b) (ha : 0 ≤ a ∧ a < b.owner.length) (hk : at_ b.pages (a / 8) = 3) :
    Fn Tryz.prog 191 [bO b p o i e h0 h1 h2 h3, .int .i64 a] σ fun x τ => BkR σ τ p o i e h0 h1 h2 h3 (backB b a) x := by
  refine fn_of ord0 mixed Tryz.func191 (by kernel_rfl) rfl (by kernel_rfl) ?_
  obtain ⟨⟨lo1, lo2, lo3, lo4, lo5, lo6, lo7, lo8⟩, ⟨hi1, hi2, hi3, hi4, hi5, hi6, hi7, hi8⟩, ⟨d1, d2, d3, d4, d5, d6, d7, d8, d9, d10, d11, d12, d13, d14, d15, d16, d17, d18, d19, d20, d21, d22, d23, d24, d25, d26, d27, d28⟩, gp, go, gi, ge, g0, g1, g2, g3⟩ := id hb
  have hl := hbk.1.1
  have hhl := heads_le hbk hs 2 (by omega)
  have hsh := (hs.h 2)
  have hpg : 0 ≤ a / 8 ∧ a / 8 < b.pages.length := by omega
  obtain ⟨P, hP⟩ : ∃ P, a / 8 = P := ⟨_, rfl⟩
  rw [hP] at hk hpg
  have hko : kindOf 3 = 2 := by decide
  have a1 : ¬ (b.owner.length : Int) ≤ a := by omega
  have a0 := ha.1
  have p0 := hpg.1
  have p1 : ¬ (b.pages.length : Int) ≤ P := by omega
  have q1 : a.tdiv 8 = P := by rw [Int.tdiv_eq_ediv_of_nonneg ha.1]; exact hP
  have gs : (b.pages.map (AV.int .i64))[P.toNat]? = some (.int .i64 3) := by rw [map_get hpg.1 hpg.2, hk]
  have hv0 : LsV .i64 σ (.sl h2 0 (b.heads 2).length 1) (b.heads 2) := (id hb).v.h2
  simp (config := {contextual := true, maxSteps := 1000000}) (disch := first | exact dB | fail) [go_sem, envOf, wrap_i64, int_lt, -Int.not_le, -Int.not_lt, Bool.decide_and, Bool.decide_or, and_assoc, Bool.and_assoc, Bool.or_assoc, Prod.exists, Prod.forall, -List.map_set, set_put, gp, go, g2, q1, hk, a1, a0, p0, p1, gs, hko]
  repeat refine Alt.mk ?_
  have hsm : Sm (a :: b.heads 2) := .of (by simp; omega) (by
    intro x hx
    rcases List.mem_cons.1 hx with rfl | hx
    · omega
    · exact hsh.mem x hx)
  obtain ⟨b2, hb2⟩ : ∃ b2 : Bk, b2 = { b with owner := put b.owner a 0, heads := setH b.heads 2 (a :: b.heads 2) } := ⟨_, rfl⟩
  have hS2 : BkS b2 := by rw [hb2]; exact ⟨hs.s, hs.p, setH_sm hs.h hsm, hs.o.put _ (by omega), hs.i, hs.e⟩
  refine callP_gen (fun τ => ∃ q, q = σ.n + 1 + 1 + 1 ∧ τ.n = σ.n + 4 ∧ BkO n0 τ b2 p o i e h0 h1 q h3 ∧ τ.get σ.n = some ⟨[.int .i64 b.slots, .sl p 0 b.pages.length 1, .sl h0 0 (b.heads 0).length 1, .sl h1 0 (b.heads 1).length 1, .sl q 0 ((b.heads 2).length + 1) 1, .sl h3 0 (b.heads 3).length 1, .sl o 0 b.owner.length 1, .sl i 0 b.inn.length 1, .sl e 0 b.epoch.length 1], true⟩ ∧ τ.get (σ.n + 1) = some ⟨[.int .i64 0, .nils, .nils, .nils, .nils, .nils, .nils, .nils, .nils], true⟩ ∧ ∀ y, y < σ.n → Out y p o i e h0 h1 h2 h3 → τ.get y = σ.get y) ?_ ?_
  · refine ⟨_, rfl, by simp only [push_n', set_n', kill_n'], ⟨by omega, by simp only [push_n', set_n', kill_n']; omega, (by refine ⟨?_, ?_, ?_, ?_, ?_, ?_, ?_, ?_, ?_, ?_, ?_, ?_, ?_, ?_, ?_, ?_, ?_, ?_, ?_, ?_, ?_, ?_, ?_, ?_, ?_, ?_, ?_, ?_⟩ <;> first | assumption | exact NE.sw (by assumption) | (simp only [NE]; omega)), ?_, ?_, ?_, ?_, ?_, ?_, ?_, ?_⟩, ?_, ?_, ?_⟩
    all_goals (try subst hb2)
    all_goals first
      | (first | exact cGT | fail)
      | (intro j_ hj_ ho_; obtain ⟨z1, z2, z3, z4, z5, z6, z7, z8⟩ := ho_; simp (disch := first | exact NE.ne (by assumption) | exact NE.sym (by assumption) | omega | (simp only [push_n', set_n', kill_n', res_n]; omega)) only [push_get_lt, set_get_ne, kill_get_ne, res_lt])
      | (simp only [setH, if_pos, List.map_cons]; (first | exact cGT | fail))
  rintro τ ⟨q, hq, hn, hO, gb, gr, hfr⟩
  rw [← hq]
  have hlen : b2.owner.length = b.owner.length := by rw [hb2]; simp [put_len']
  have hE : bO b2 p o i e h0 h1 q h3 = (.agg [.int .i64 b.slots, .sl p 0 b.pages.length 1, .sl h0 0 (b.heads 0).length 1, .sl h1 0 (b.heads 1).length 1, .sl q 0 ((b.heads 2).length + 1) 1, .sl h3 0 (b.heads 3).length 1, .sl o 0 b.owner.length 1, .sl i 0 b.inn.length 1, .sl e 0 b.epoch.length 1]) := by rw [hb2]; simp [put_len', setH]
  rw [← hE]
  refine callP_use (zFree_fn τ b2 _ _ _ _ _ _ _ _ P 0 hO.v hS2 ⟨by omega, by omega, by omega, by omega⟩) ?_
  rintro v τ' hn' ⟨rfl, rfl⟩
  have hbB : backB b a = if freeP b2 P 0 then { b2 with pages := put b.pages P 0, heads := setH b.heads 2 ((a :: b.heads 2).filter fun x => decide (x / 8 ≠ P)) } else b2 := by
    unfold backB
    simp only [hP, hk, hko]
    rw [if_neg (by omega)]
    have e1 : freeP { b with owner := put b.owner a 0 } P 0 ↔ freeP b2 P 0 := by rw [hb2]; exact Iff.rfl
    by_cases hf : freeP b2 P 0
    · rw [if_pos hf, if_pos (e1.2 hf), hb2]; rfl
    · rw [if_neg hf, if_neg (fun h => hf (e1.1 h)), hb2]; rfl
  by_cases hf : freeP b2 P 0
  rotate_left
  · rw [hbB, if_neg hf]
    simp (config := {contextual := true, maxSteps := 1000000}) (disch := first | exact dB | fail) [go_sem, envOf, wrap_i64, int_lt, -Int.not_le, -Int.not_lt, Bool.decide_and, Bool.decide_or, and_assoc, Bool.and_assoc, Bool.or_assoc, Prod.exists, Prod.forall, -List.map_set, set_put, hf, gb, gr]
    exact BkR.mk' n0 p o i e h0 h1 q h3 (hO.set_out (by omega)) hE.symm (by intro y hy ho; rw [set_get_ne (by omega)]; exact hfr y hy ho) (by simp only [set_n']; omega) (by intro y hy ho; obtain ⟨z1, z2, z3, z4, z5, z6, z7, z8⟩ := ho; refine ⟨?_, ?_, ?_, ?_, ?_, ?_, ?_, ?_⟩ <;> first | assumption | (simp only [NE]; omega))
  · rw [hbB, if_pos hf]
    have gP := hO.gp
    have ep : b2.pages = b.pages := by rw [hb2]
    rw [ep] at gP
    simp (config := {contextual := true, maxSteps := 1000000}) (disch := first | exact dB | fail) [go_sem, envOf, wrap_i64, int_lt, -Int.not_le, -Int.not_lt, Bool.decide_and, Bool.decide_or, and_assoc, Bool.and_assoc, Bool.or_assoc, Prod.exists, Prod.forall, -List.map_set, set_put, hf, gb, gr, gP]
    have gQ := hO.g2
    rw [show b2.heads 2 = a :: b.heads 2 by rw [hb2]; rfl] at gQ
    obtain ⟨L, hL⟩ : ∃ L, L = a :: b.heads 2 := ⟨_, rfl⟩
    have hLl : (b.heads 2).length + 1 = L.length := by rw [hL]; rfl
    rw [← hL] at gQ hsm
    rw [hLl] at gb
    have hnn : ∀ x ∈ L, 0 ≤ x := by
      rw [hL]
      intro x hx
      rcases List.mem_cons.1 hx with rfl | hx
      · exact ha.1
      · obtain ⟨k, hk', rfl⟩ := List.mem_iff_getElem.1 hx
        have := (hbk.2.1 2 (by omega)).2 (k : Int) (by omega) (by omega)
        simpa [at_, hk'] using this.1
    refine aloops_lt (fun R_ env τ => ∃ (u : Int), ∃ (ql : Nat), ∃ (l : List Int), env 10 = .int .i64 u ∧ env 9 = .sl ql 0 l.length 1 ∧ env 8 = .int .i64 2 ∧ env 5 = .int .i64 P ∧ env 2 = .ptr σ.n 0 ∧ env 4 = .ptr (σ.n + 1) 0 ∧ R_ ((L.length - u).toNat) ∧ (0 ≤ u ∧ u ≤ L.length) ∧ (τ.get ql = some ⟨l.map (.int .i64), true⟩) ∧ (τ'.n ≤ ql ∧ ql < τ.n) ∧ (l = (L.take u.toNat).filter (fun x => decide (x / 8 ≠ P))) ∧ ((∀ y, y < τ'.n → NE y p → τ.get y = τ'.get y)) ∧ (τ.get p = some ⟨(put b.pages P 0).map (.int .i64), true⟩)) (by rintro R_ env τ ⟨u, ql, l, e10, e9, e8, e5, e2, e4, hR_, hu, gq, hql, hl', hf2, gp2⟩; exact ⟨_, hR_, u, ql, l, e10, e9, e8, e5, e2, e4, rfl, hu, gq, hql, hl', hf2, gp2⟩) ⟨0, τ'.n, [], by first | rfl | simp [put_get, *], by first | rfl | simp [put_get, *], by first | rfl | simp [put_get, *], by first | rfl | simp [put_get, *], by first | rfl | simp [put_get, *], by first | rfl | simp [put_get, *], trivial, ?_, ?_, ?_, ?_, ?_, ?_⟩ ?_
    rotate_left 6
    rintro m_ env τ ⟨u, ql, l, e10, e9, e8, e5, e2, e4, rfl, hu, gq, hql, hl', hf2, gp2⟩
    · have gb' := (hf2 σ.n (by omega) (by simp only [NE]; omega)).trans gb
      have gr' := (hf2 (σ.n + 1) (by omega) (by simp only [NE]; omega)).trans gr
      have gQ' := (hf2 q (by omega) (by simp only [NE]; omega)).trans gQ
      have hvL : LsV .i64 τ (.sl q 0 L.length 1) L := lsv_at (by omega) gQ' rfl
      have hll : l.length ≤ L.length := by
        rw [hl']
        refine Nat.le_trans (List.length_filter_le _ _) ?_
        simp; omega
      have hL1 : L.length ≤ 60 := by omega
      have hql1 : NE q ql := by simp only [NE]; omega
      have hqs : NE σ.n ql ∧ NE (σ.n + 1) ql := by simp only [NE]; omega
      obtain ⟨hq1, hq2⟩ := hqs
      by_cases hul : u < L.length
      · have hx0 : 0 ≤ at_ L u := by
          have := at_mem (ws := L) (j := u) ⟨hu.1, hul⟩
          exact hnn _ this
        have hx : (at_ L u).tdiv 8 = at_ L u / 8 := Int.tdiv_eq_ediv_of_nonneg hx0
        have hul' : ¬ (L.length : Int) ≤ u := by omega
        have hu0 := hu.1
        have htk := take_flt (P := P) hu.1 hul
        have hxr := hsm.2 u
        have hwr : IntKind.i64.wrap (at_ L u / 8) = at_ L u / 8 := wrap_i64 (by omega)
        by_cases hxP : at_ L u / 8 = P
        · simp (config := {contextual := true, maxSteps := 1000000}) (disch := first | exact dB | fail) [go_sem, envOf, wrap_i64, int_lt, -Int.not_le, -Int.not_lt, Bool.decide_and, Bool.decide_or, and_assoc, Bool.and_assoc, Bool.or_assoc, Prod.exists, Prod.forall, -List.map_set, set_put, e10, e9, e8, e5, e2, e4, gb', gq, hul', hx, hxP]
          exact ⟨l, rfl, by omega, by omega, by omega, rfl, by omega, by omega, by rw [htk, if_pos hxP, List.append_nil]; simpa using hl', hf2, gp2⟩
        · simp (config := {contextual := true, maxSteps := 1000000}) (disch := first | exact dB | fail) [go_sem, envOf, wrap_i64, int_lt, -Int.not_le, -Int.not_lt, Bool.decide_and, Bool.decide_or, and_assoc, Bool.and_assoc, Bool.or_assoc, Prod.exists, Prod.forall, -List.map_set, set_put, e10, e9, e8, e5, e2, e4, gb', gq, hul', hx, hwr, hxP]
          exact ⟨l ++ [at_ L u], by simp, by omega, by omega, by omega, by simp, by omega, by rw [htk, if_neg hxP]; congr 1; simpa using hl', hf2, gp2⟩
      · have hul' : (L.length : Int) ≤ u := by omega
        simp (config := {contextual := true, maxSteps := 1000000}) (disch := first | exact dB | fail) [go_sem, envOf, wrap_i64, int_lt, -Int.not_le, -Int.not_lt, Bool.decide_and, Bool.decide_or, and_assoc, Bool.and_assoc, Bool.or_assoc, Prod.exists, Prod.forall, -List.map_set, set_put, e10, e9, e8, e5, e2, e4, gb', gr', hul']
        have hlf : l = L.filter (fun x => !decide (x / 8 = P)) := by
          rw [List.take_of_length_le (by omega)] at hl'
          simpa using hl'
        rw [← hL, ← hlf]
        subst hb2
        refine BkR.mk' n0 p o i e h0 h1 ql h3 ?_ (by simp [put_len', setH]) (by intro y hy ho; rw [set_get_ne (by omega), set_get_ne (by omega), hf2 y (by omega) ho.p]; exact hfr y hy ho) (by simp only [set_n']; omega) (by intro y hy ho; obtain ⟨z1, z2, z3, z4, z5, z6, z7, z8⟩ := ho; refine ⟨?_, ?_, ?_, ?_, ?_, ?_, ?_, ?_⟩ <;> first | assumption | (simp only [NE]; omega))
        refine BkO.set_out (BkO.set_out ?_ (by omega)) (by omega)
        exact ⟨by omega, by omega, (by refine ⟨?_, ?_, ?_, ?_, ?_, ?_, ?_, ?_, ?_, ?_, ?_, ?_, ?_, ?_, ?_, ?_, ?_, ?_, ?_, ?_, ?_, ?_, ?_, ?_, ?_, ?_, ?_, ?_⟩ <;> first | assumption | exact NE.sw (by assumption) | (simp only [NE]; omega)), gp2, (hf2 o (by omega) (by first | assumption | exact NE.sw (by assumption))).trans hO.go, (hf2 i (by omega) (by first | assumption | exact NE.sw (by assumption))).trans hO.gi, (hf2 e (by omega) (by first | assumption | exact NE.sw (by assumption))).trans hO.ge, (hf2 h0 (by omega) (by first | assumption | exact NE.sw (by assumption))).trans hO.g0, (hf2 h1 (by omega) (by first | assumption | exact NE.sw (by assumption))).trans hO.g1, gq, (hf2 h3 (by omega) (by first | assumption | exact NE.sw (by assumption))).trans hO.g3⟩
    all_goals first
      | omega
      | (simp; done)
      | (first | exact cGT | fail)
      | (intro y y1 y2; (first | exact cGT | fail))
      | trace_state
theorem zBack3_fn (σ : AHeap) (b : Bk) (n0 p o i e h0 h1 h2 h3 : Nat) (a : Int) (hb : BkO n0 σ b p o i e h0 h1 h2 h3) (hs : BkS b) (hbk : bookP b) (ha : 0 ≤ a ∧ a < b.owner.length) (hk : at_ b.pages (a / 8) = 4) :
    Fn Tryz.prog 191 [bO b p o i e h0 h1 h2 h3, .int .i64 a] σ fun x τ => BkR σ τ p o i e h0 h1 h2 h3 (backB b a) x := by
  refine fn_of ord0 mixed Tryz.func191 (by kernel_rfl) rfl (by kernel_rfl) ?_
  obtain ⟨⟨lo1, lo2, lo3, lo4, lo5, lo6, lo7, lo8⟩, ⟨hi1, hi2, hi3, hi4, hi5, hi6, hi7, hi8⟩, ⟨d1, d2, d3, d4, d5, d6, d7, d8, d9, d10, d11, d12, d13, d14, d15, d16, d17, d18, d19, d20, d21, d22, d23, d24, d25, d26, d27, d28⟩, gp, go, gi, ge, g0, g1, g2, g3⟩ := id hb
  have hl := hbk.1.1
  have hhl := heads_le hbk hs 3 (by omega)
  have hsh := (hs.h 3)
  have hpg : 0 ≤ a / 8 ∧ a / 8 < b.pages.length := by omega
  obtain ⟨P, hP⟩ : ∃ P, a / 8 = P := ⟨_, rfl⟩
  rw [hP] at hk hpg
  have hko : kindOf 4 = 3 := by decide
  have a1 : ¬ (b.owner.length : Int) ≤ a := by omega
  have a0 := ha.1
  have p0 := hpg.1
  have p1 : ¬ (b.pages.length : Int) ≤ P := by omega
  have q1 : a.tdiv 8 = P := by rw [Int.tdiv_eq_ediv_of_nonneg ha.1]; exact hP
  have gs : (b.pages.map (AV.int .i64))[P.toNat]? = some (.int .i64 4) := by rw [map_get hpg.1 hpg.2, hk]
  have hv0 : LsV .i64 σ (.sl h3 0 (b.heads 3).length 1) (b.heads 3) := (id hb).v.h3
  simp (config := {contextual := true, maxSteps := 1000000}) (disch := first | exact dB | fail) [go_sem, envOf, wrap_i64, int_lt, -Int.not_le, -Int.not_lt, Bool.decide_and, Bool.decide_or, and_assoc, Bool.and_assoc, Bool.or_assoc, Prod.exists, Prod.forall, -List.map_set, set_put, gp, go, g3, q1, hk, a1, a0, p0, p1, gs, hko]
  repeat refine Alt.mk ?_
  have hsm : Sm (a :: b.heads 3) := .of (by simp; omega) (by
    intro x hx
    rcases List.mem_cons.1 hx with rfl | hx
    · omega
    · exact hsh.mem x hx)
  obtain ⟨b2, hb2⟩ : ∃ b2 : Bk, b2 = { b with owner := put b.owner a 0, heads := setH b.heads 3 (a :: b.heads 3) } := ⟨_, rfl⟩
  have hS2 : BkS b2 := by rw [hb2]; exact ⟨hs.s, hs.p, setH_sm hs.h hsm, hs.o.put _ (by omega), hs.i, hs.e⟩
  refine callP_gen (fun τ => ∃ q, q = σ.n + 1 + 1 + 1 ∧ τ.n = σ.n + 4 ∧ BkO n0 τ b2 p o i e h0 h1 h2 q ∧ τ.get σ.n = some ⟨[.int .i64 b.slots, .sl p 0 b.pages.length 1, .sl h0 0 (b.heads 0).length 1, .sl h1 0 (b.heads 1).length 1, .sl h2 0 (b.heads 2).length 1, .sl q 0 ((b.heads 3).length + 1) 1, .sl o 0 b.owner.length 1, .sl i 0 b.inn.length 1, .sl e 0 b.epoch.length 1], true⟩ ∧ τ.get (σ.n + 1) = some ⟨[.int .i64 0, .nils, .nils, .nils, .nils, .nils, .nils, .nils, .nils], true⟩ ∧ ∀ y, y < σ.n → Out y p o i e h0 h1 h2 h3 → τ.get y = σ.get y) ?_ ?_
  · refine ⟨_, rfl, by simp only [push_n', set_n', kill_n'], ⟨by omega, by simp only [push_n', set_n', kill_n']; omega, (by refine ⟨?_, ?_, ?_, ?_, ?_, ?_, ?_, ?_, ?_, ?_, ?_, ?_, ?_, ?_, ?_, ?_, ?_, ?_, ?_, ?_, ?_, ?_, ?_, ?_, ?_, ?_, ?_, ?_⟩ <;> first | assumption | exact NE.sw (by assumption) | (simp only [NE]; omega)), ?_, ?_, ?_, ?_, ?_, ?_, ?_, ?_⟩, ?_, ?_, ?_⟩
    all_goals (try subst hb2)
    all_goals first
      | (first | exact cGT | fail)
      | (intro j_ hj_ ho_; obtain ⟨z1, z2, z3, z4, z5, z6, z7, z8⟩ := ho_; simp (disch := first | exact NE.ne (by assumption) | exact NE.sym (by assumption) | omega | (simp only [push_n', set_n', kill_n', res_n]; omega)) only [push_get_lt, set_get_ne, kill_get_ne, res_lt])
      | (simp only [setH, if_pos, List.map_cons]; (first | exact cGT | fail))
  rintro τ ⟨q, hq, hn, hO, gb, gr, hfr⟩
  rw [← hq]
  have hlen : b2.owner.length = b.owner.length := by rw [hb2]; simp [put_len']
  have hE : bO b2 p o i e h0 h1 h2 q = (.agg [.int .i64 b.slots, .sl p 0 b.pages.length 1, .sl h0 0 (b.heads 0).length 1, .sl h1 0 (b.heads 1).length 1, .sl h2 0 (b.heads 2).length 1, .sl q 0 ((b.heads 3).length + 1) 1, .sl o 0 b.owner.length 1, .sl i 0 b.inn.length 1, .sl e 0 b.epoch.length 1]) := by rw [hb2]; simp [put_len', setH]
  rw [← hE]
  refine callP_use (zFree_fn τ b2 _ _ _ _ _ _ _ _ P 0 hO.v hS2 ⟨by omega, by omega, by omega, by omega⟩) ?_
  rintro v τ' hn' ⟨rfl, rfl⟩
  have hbB : backB b a = if freeP b2 P 0 then { b2 with pages := put b.pages P 0, heads := setH b.heads 3 ((a :: b.heads 3).filter fun x => decide (x / 8 ≠ P)) } else b2 := by
    unfold backB
    simp only [hP, hk, hko]
    rw [if_neg (by omega)]
    have e1 : freeP { b with owner := put b.owner a 0 } P 0 ↔ freeP b2 P 0 := by rw [hb2]; exact Iff.rfl
    by_cases hf : freeP b2 P 0
    · rw [if_pos hf, if_pos (e1.2 hf), hb2]; rfl
    · rw [if_neg hf, if_neg (fun h => hf (e1.1 h)), hb2]; rfl
  by_cases hf : freeP b2 P 0
  rotate_left
  · rw [hbB, if_neg hf]
    simp (config := {contextual := true, maxSteps := 1000000}) (disch := first | exact dB | fail) [go_sem, envOf, wrap_i64, int_lt, -Int.not_le, -Int.not_lt, Bool.decide_and, Bool.decide_or, and_assoc, Bool.and_assoc, Bool.or_assoc, Prod.exists, Prod.forall, -List.map_set, set_put, hf, gb, gr]
    exact BkR.mk' n0 p o i e h0 h1 h2 q (hO.set_out (by omega)) hE.symm (by intro y hy ho; rw [set_get_ne (by omega)]; exact hfr y hy ho) (by simp only [set_n']; omega) (by intro y hy ho; obtain ⟨z1, z2, z3, z4, z5, z6, z7, z8⟩ := ho; refine ⟨?_, ?_, ?_, ?_, ?_, ?_, ?_, ?_⟩ <;> first | assumption | (simp only [NE]; omega))
  · rw [hbB, if_pos hf]
    have gP := hO.gp
    have ep : b2.pages = b.pages := by rw [hb2]
    rw [ep] at gP
    simp (config := {contextual := true, maxSteps := 1000000}) (disch := first | exact dB | fail) [go_sem, envOf, wrap_i64, int_lt, -Int.not_le, -Int.not_lt, Bool.decide_and, Bool.decide_or, and_assoc, Bool.and_assoc, Bool.or_assoc, Prod.exists, Prod.forall, -List.map_set, set_put, hf, gb, gr, gP]
    have gQ := hO.g3
    rw [show b2.heads 3 = a :: b.heads 3 by rw [hb2]; rfl] at gQ
    obtain ⟨L, hL⟩ : ∃ L, L = a :: b.heads 3 := ⟨_, rfl⟩
    have hLl : (b.heads 3).length + 1 = L.length := by rw [hL]; rfl
    rw [← hL] at gQ hsm
    rw [hLl] at gb
    have hnn : ∀ x ∈ L, 0 ≤ x := by
      rw [hL]
      intro x hx
      rcases List.mem_cons.1 hx with rfl | hx
      · exact ha.1
      · obtain ⟨k, hk', rfl⟩ := List.mem_iff_getElem.1 hx
        have := (hbk.2.1 3 (by omega)).2 (k : Int) (by omega) (by omega)
        simpa [at_, hk'] using this.1
    refine aloops_lt (fun R_ env τ => ∃ (u : Int), ∃ (ql : Nat), ∃ (l : List Int), env 10 = .int .i64 u ∧ env 9 = .sl ql 0 l.length 1 ∧ env 8 = .int .i64 3 ∧ env 5 = .int .i64 P ∧ env 2 = .ptr σ.n 0 ∧ env 4 = .ptr (σ.n + 1) 0 ∧ R_ ((L.length - u).toNat) ∧ (0 ≤ u ∧ u ≤ L.length) ∧ (τ.get ql = some ⟨l.map (.int .i64), true⟩) ∧ (τ'.n ≤ ql ∧ ql < τ.n) ∧ (l = (L.take u.toNat).filter (fun x => decide (x / 8 ≠ P))) ∧ ((∀ y, y < τ'.n → NE y p → τ.get y = τ'.get y)) ∧ (τ.get p = some ⟨(put b.pages P 0).map (.int .i64), true⟩)) (by rintro R_ env τ ⟨u, ql, l, e10, e9, e8, e5, e2, e4, hR_, hu, gq, hql, hl', hf2, gp2⟩; exact ⟨_, hR_, u, ql, l, e10, e9, e8, e5, e2, e4, rfl, hu, gq, hql, hl', hf2, gp2⟩) ⟨0, τ'.n, [], by first | rfl | simp [put_get, *], by first | rfl | simp [put_get, *], by first | rfl | simp [put_get, *], by first | rfl | simp [put_get, *], by first | rfl | simp [put_get, *], by first | rfl | simp [put_get, *], trivial, ?_, ?_, ?_, ?_, ?_, ?_⟩ ?_
    rotate_left 6
    rintro m_ env τ ⟨u, ql, l, e10, e9, e8, e5, e2, e4, rfl, hu, gq, hql, hl', hf2, gp2⟩
    · have gb' := (hf2 σ.n (by omega) (by simp only [NE]; omega)).trans gb
      have gr' := (hf2 (σ.n + 1) (by omega) (by simp only [NE]; omega)).trans gr
      have gQ' := (hf2 q (by omega) (by simp only [NE]; omega)).trans gQ
      have hvL : LsV .i64 τ (.sl q 0 L.length 1) L := lsv_at (by omega) gQ' rfl
      have hll : l.length ≤ L.length := by
        rw [hl']
        refine Nat.le_trans (List.length_filter_le _ _) ?_
        simp; omega
      have hL1 : L.length ≤ 60 := by omega
      have hql1 : NE q ql := by simp only [NE]; omega
      have hqs : NE σ.n ql ∧ NE (σ.n + 1) ql := by simp only [NE]; omega
      obtain ⟨hq1, hq2⟩ := hqs
      by_cases hul : u < L.length
      · have hx0 : 0 ≤ at_ L u := by
          have := at_mem (ws := L) (j := u) ⟨hu.1, hul⟩
          exact hnn _ this
        have hx : (at_ L u).tdiv 8 = at_ L u / 8 := Int.tdiv_eq_ediv_of_nonneg hx0
        have hul' : ¬ (L.length : Int) ≤ u := by omega
        have hu0 := hu.1
        have htk := take_flt (P := P) hu.1 hul
        have hxr := hsm.2 u
        have hwr : IntKind.i64.wrap (at_ L u / 8) = at_ L u / 8 := wrap_i64 (by omega)
        by_cases hxP : at_ L u / 8 = P
        · simp (config := {contextual := true, maxSteps := 1000000}) (disch := first | exact dB | fail) [go_sem, envOf, wrap_i64, int_lt, -Int.not_le, -Int.not_lt, Bool.decide_and, Bool.decide_or, and_assoc, Bool.and_assoc, Bool.or_assoc, Prod.exists, Prod.forall, -List.map_set, set_put, e10, e9, e8, e5, e2, e4, gb', gq, hul', hx, hxP]
          exact ⟨l, rfl, by omega, by omega, by omega, rfl, by omega, by omega, by rw [htk, if_pos hxP, List.append_nil]; simpa using hl', hf2, gp2⟩
        · simp (config := {contextual := true, maxSteps := 1000000}) (disch := first | exact dB | fail) [go_sem, envOf, wrap_i64, int_lt, -Int.not_le, -Int.not_lt, Bool.decide_and, Bool.decide_or, and_assoc, Bool.and_assoc, Bool.or_assoc, Prod.exists, Prod.forall, -List.map_set, set_put, e10, e9, e8, e5, e2, e4, gb', gq, hul', hx, hwr, hxP]
          exact ⟨l ++ [at_ L u], by simp, by omega, by omega, by omega, by simp, by omega, by rw [htk, if_neg hxP]; congr 1; simpa using hl', hf2, gp2⟩
      · have hul' : (L.length : Int) ≤ u := by omega
        simp (config := {contextual := true, maxSteps := 1000000}) (disch := first | exact dB | fail) [go_sem, envOf, wrap_i64, int_lt, -Int.not_le, -Int.not_lt, Bool.decide_and, Bool.decide_or, and_assoc, Bool.and_assoc, Bool.or_assoc, Prod.exists, Prod.forall, -List.map_set, set_put, e10, e9, e8, e5, e2, e4, gb', gr', hul']
        have hlf : l = L.filter (fun x => !decide (x / 8 = P)) := by
          rw [List.take_of_length_le (by omega)] at hl'
          simpa using hl'
        rw [← hL, ← hlf]
        subst hb2
        refine BkR.mk' n0 p o i e h0 h1 h2 ql ?_ (by simp [put_len', setH]) (by intro y hy ho; rw [set_get_ne (by omega), set_get_ne (by omega), hf2 y (by omega) ho.p]; exact hfr y hy ho) (by simp only [set_n']; omega) (by intro y hy ho; obtain ⟨z1, z2, z3, z4, z5, z6, z7, z8⟩ := ho; refine ⟨?_, ?_, ?_, ?_, ?_, ?_, ?_, ?_⟩ <;> first | assumption | (simp only [NE]; omega))
        refine BkO.set_out (BkO.set_out ?_ (by omega)) (by omega)
        exact ⟨by omega, by omega, (by refine ⟨?_, ?_, ?_, ?_, ?_, ?_, ?_, ?_, ?_, ?_, ?_, ?_, ?_, ?_, ?_, ?_, ?_, ?_, ?_, ?_, ?_, ?_, ?_, ?_, ?_, ?_, ?_, ?_⟩ <;> first | assumption | exact NE.sw (by assumption) | (simp only [NE]; omega)), gp2, (hf2 o (by omega) (by first | assumption | exact NE.sw (by assumption))).trans hO.go, (hf2 i (by omega) (by first | assumption | exact NE.sw (by assumption))).trans hO.gi, (hf2 e (by omega) (by first | assumption | exact NE.sw (by assumption))).trans hO.ge, (hf2 h0 (by omega) (by first | assumption | exact NE.sw (by assumption))).trans hO.g0, (hf2 h1 (by omega) (by first | assumption | exact NE.sw (by assumption))).trans hO.g1, (hf2 h2 (by omega) (by first | assumption | exact NE.sw (by assumption))).trans hO.g2, gq⟩
    all_goals first
      | omega
      | (simp; done)
      | (first | exact cGT | fail)
      | (intro y y1 y2; (first | exact cGT | fail))
      | trace_state
/-- Of whichever kind. -/
theorem zBack_fn (σ : AHeap) (b : Bk) (n0 p o i e h0 h1 h2 h3 : Nat) (a : Int) (hb : BkO n0 σ b p o i e h0 h1 h2 h3) (hs : BkS b) (hbk : bookP b) (ha : 0 ≤ a ∧ a < b.owner.length) :
    Fn Tryz.prog 191 [bO b p o i e h0 h1 h2 h3, .int .i64 a] σ fun x τ => BkR σ τ p o i e h0 h1 h2 h3 (backB b a) x := by
  by_cases hk : kindOf (at_ b.pages (a / 8)) < 0
  · exact zBackW_fn σ b n0 p o i e h0 h1 h2 h3 a hb hs hbk ha hk
  · have h4 := kind_lt (at_ b.pages (a / 8))
    have : at_ b.pages (a / 8) = 1 ∨ at_ b.pages (a / 8) = 2 ∨ at_ b.pages (a / 8) = 3 ∨ at_ b.pages (a / 8) = 4 := by unfold kindOf at hk h4; split at hk <;> omega
    rcases this with h | h | h | h
    · exact zBack0_fn σ b n0 p o i e h0 h1 h2 h3 a hb hs hbk ha h
    · exact zBack1_fn σ b n0 p o i e h0 h1 h2 h3 a hb hs hbk ha h
    · exact zBack2_fn σ b n0 p o i e h0 h1 h2 h3 a hb hs hbk ha h
    · exact zBack3_fn σ b n0 p o i e h0 h1 h2 h3 a hb hs hbk ha h
end AH
/- CONTRACTS OF THE REFERENCE: a room is taken. Printed by wip/tools/bo5.py. -/
namespace AH
open Go Go.Proofs Ho
set_option maxRecDepth 20000
set_option maxHeartbeats 16000000
theorem lsv_tail {kk : IntKind} {τ : AHeap} {q : Nat} {xs : List Int} (hq : q < τ.n) (hg : τ.get q = some ⟨xs.map (.int kk), true⟩) (h0 : xs ≠ []) : LsV kk τ (.sl q 1 (xs.length - 1) 1) xs.tail := by
  cases xs with
  | nil => exact absurd rfl h0
  | cons x xs =>
    have : LAt kk τ q 1 xs := ⟨hq, _, hg, by simp; omega, by simp [List.take_of_length_le]⟩
    exact LsV.mk' this
def goTake (b : Bk) (slot : Int) (k : Nat) : Bk := { b with heads := setH b.heads k (b.heads k).tail, owner := put b.owner (at_ (b.heads k) 0) (slot + 1) }
/-- What is left where the first room of a list is taken. -/
theorem goTake_R {n0 : Nat} {σ τ υ : AHeap} {b : Bk} {slot : Int} {p o i e h0 h1 h2 h3 k0 k1 k2 k3 : Nat} (K : Nat) (hK : K = 0 ∨ K = 1 ∨ K = 2 ∨ K = 3) (h : BkO n0 τ b p o i e k0 k1 k2 k3) (hne : b.heads K ≠ [])
    (hu : υ.get o = some ⟨(put b.owner (at_ (b.heads K) 0) (slot + 1)).map (.int .i64), true⟩) (hf : ∀ y, y < τ.n → NE y o → (y = p ∨ y = i ∨ y = e ∨ y = k0 ∨ y = k1 ∨ y = k2 ∨ y = k3) → υ.get y = τ.get y) (hn : τ.n ≤ υ.n)
    (hs : σ.n ≤ υ.n) (hfr : ∀ y, y < σ.n → Out y p o i e h0 h1 h2 h3 → υ.get y = σ.get y) (hin : ∀ y, y < σ.n → Out y p o i e h0 h1 h2 h3 → Out y p o i e k0 k1 k2 k3) :
    BkR σ υ p o i e h0 h1 h2 h3 (goTake b slot K) (bV b (.sl p 0 b.pages.length 1)
      (if K = 0 then .sl k0 1 ((b.heads 0).length - 1) 1 else .sl k0 0 (b.heads 0).length 1) (if K = 1 then .sl k1 1 ((b.heads 1).length - 1) 1 else .sl k1 0 (b.heads 1).length 1)
      (if K = 2 then .sl k2 1 ((b.heads 2).length - 1) 1 else .sl k2 0 (b.heads 2).length 1) (if K = 3 then .sl k3 1 ((b.heads 3).length - 1) 1 else .sl k3 0 (b.heads 3).length 1)
      (.sl o 0 b.owner.length 1) (.sl i 0 b.inn.length 1) (.sl e 0 b.epoch.length 1)) := by
  obtain ⟨⟨lo1, lo2, lo3, lo4, lo5, lo6, lo7, lo8⟩, ⟨hi1, hi2, hi3, hi4, hi5, hi6, hi7, hi8⟩, ⟨d1, d2, d3, d4, d5, d6, d7, d8, d9, d10, d11, d12, d13, d14, d15, d16, d17, d18, d19, d20, d21, d22, d23, d24, d25, d26, d27, d28⟩, gp, go, gi, ge, g0, g1, g2, g3⟩ := h
  refine ⟨_, _, _, _, _, _, _, _, rfl, ?_, hfr, hs, ?_⟩
  rotate_left
  · intro y hy ho
    obtain ⟨a1, a2, a3, a4, a5, a6, a7, a8⟩ := hin y hy ho
    refine ⟨.inl a1.sym, ?_, ?_, ?_, ?_, .inl a2.sym, .inl a3.sym, .inl a4.sym⟩ <;> (split <;> first | exact .inl a5.sym | exact .inl a6.sym | exact .inl a7.sym | exact .inl a8.sym)
  have f := fun y (hy : y < τ.n) (h1 : NE y o) h2 => hf y hy h1 h2
  have vp := lsv_at (kk := .i64) (xs := b.pages) (by omega) ((f p hi1 d1 (by simp)).trans gp) rfl
  have vi := lsv_at (kk := .i64) (xs := b.inn) (by omega) ((f i hi3 (NE.sw d8) (by simp)).trans gi) rfl
  have ve := lsv_at (kk := .i64) (xs := b.epoch) (by omega) ((f e hi4 (NE.sw d9) (by simp)).trans ge) rfl
  have w0 := (f k0 hi5 (NE.sw d10) (by simp)).trans g0
  have w1 := (f k1 hi6 (NE.sw d11) (by simp)).trans g1
  have w2 := (f k2 hi7 (NE.sw d12) (by simp)).trans g2
  have w3 := (f k3 hi8 (NE.sw d13) (by simp)).trans g3
  have vo := lsv_at (kk := .i64) (xs := put b.owner (at_ (b.heads K) 0) (slot + 1)) (by omega) hu (put_len' _ _ _)
  refine ⟨vp, ?_, ?_, ?_, ?_, vo, vi, ve⟩
  · by_cases hk : K = 0
    · subst hk; exact lsv_tail (by omega) w0 hne
    · rw [if_neg hk]; simp only [goTake, setH]; rw [if_neg (Ne.symm hk)]; exact lsv_at (by omega) w0 rfl
  · by_cases hk : K = 1
    · subst hk; exact lsv_tail (by omega) w1 hne
    · rw [if_neg hk]; simp only [goTake, setH]; rw [if_neg (Ne.symm hk)]; exact lsv_at (by omega) w1 rfl
  · by_cases hk : K = 2
    · subst hk; exact lsv_tail (by omega) w2 hne
    · rw [if_neg hk]; simp only [goTake, setH]; rw [if_neg (Ne.symm hk)]; exact lsv_at (by omega) w2 rfl
  · by_cases hk : K = 3
    · subst hk; exact lsv_tail (by omega) w3 hne
    · rw [if_neg hk]; simp only [goTake, setH]; rw [if_neg (Ne.symm hk)]; exact lsv_at (by omega) w3 rfl
/-- What a call returns: a book, a code, a number. -/
def BkT (σ τ : AHeap) (p o i e h0 h1 h2 h3 : Nat) (r : Bk × Int × Int) (x : AV) : Prop := ∃ y, x = .tup [y, .int .i64 r.2.1, .int .i64 r.2.2] ∧ BkR σ τ p o i e h0 h1 h2 h3 r.1 y
theorem zTakeN_fn (σ : AHeap) (b : Bk) (n0 p o i e h0 h1 h2 h3 : Nat) (slot units : Int) (hb : BkO n0 σ b p o i e h0 h1 h2 h3) (hs : BkS b) (hk : bookKind units < 0) :
    Fn Tryz.prog 189 [bO b p o i e h0 h1 h2 h3, .int .i64 slot, .int .i64 units] σ fun x τ => BkT σ τ p o i e h0 h1 h2 h3 (takeB b slot units) x := by
  refine fn_of ord0 mixed Tryz.func189 (by kernel_rfl) rfl (by kernel_rfl) ?_
  have hm : takeB b slot units = (b, 1, 0) := by unfold takeB; simp only; rw [if_pos hk]
  have hb' := hb
  obtain ⟨⟨lo1, lo2, lo3, lo4, lo5, lo6, lo7, lo8⟩, ⟨hi1, hi2, hi3, hi4, hi5, hi6, hi7, hi8⟩, ⟨d1, d2, d3, d4, d5, d6, d7, d8, d9, d10, d11, d12, d13, d14, d15, d16, d17, d18, d19, d20, d21, d22, d23, d24, d25, d26, d27, d28⟩, gp, go, gi, ge, g0, g1, g2, g3⟩ := id hb
  rw [hm]
  unfold BkT
  simp (config := {contextual := true, maxSteps := 1000000}) (disch := first | exact dB | fail) [go_sem, envOf, wrap_i64, int_lt, -Int.not_le, -Int.not_lt, Bool.decide_and, Bool.decide_or, and_assoc, Bool.and_assoc, Bool.or_assoc, Prod.exists, Prod.forall, -List.map_set, set_put, hk]
  repeat refine Alt.mk ?_
  exact BkR.r hb' (by intro y hy; rw [push_get_lt (by simp; omega), push_get_lt hy]) (by simp; omega)
theorem zTakeP_fn (σ : AHeap) (b : Bk) (n0 p o i e h0 h1 h2 h3 : Nat) (slot units : Int) (hb : BkO n0 σ b p o i e h0 h1 h2 h3) (hs : BkS b) (hbk : bookP b) (hsl : 0 ≤ slot ∧ slot ≤ 10) (hk : bookKind units = 4) :
    Fn Tryz.prog 189 [bO b p o i e h0 h1 h2 h3, .int .i64 slot, .int .i64 units] σ fun x τ => BkT σ τ p o i e h0 h1 h2 h3 (takeB b slot units) x := by
  refine fn_of ord0 mixed Tryz.func189 (by kernel_rfl) rfl (by kernel_rfl) ?_
  have hu := (bookKind_lt units).2.2 hk
  have hb' := hb
  have hl := hbk.1.1
  have hq : (units + 7).tdiv 8 = (units + 7) / 8 := Int.tdiv_eq_ediv_of_nonneg (by omega)
  have hq2 : (units + 8 - 1).tdiv 8 = (units + 7) / 8 := by rw [show units + 8 - 1 = units + 7 by omega]; exact hq
  obtain ⟨n, hn⟩ : ∃ n, (units + 7) / 8 = n := ⟨_, rfl⟩
  rw [hn] at hq hq2
  have hnr : 2 ≤ n ∧ n ≤ 4 := by omega
  have hm : takeB b slot units = if runOf b.pages n < 0 then (b, 2, 0) else ({ b with pages := fillN (put b.pages (runOf b.pages n) (8 + n)) (runOf b.pages n + 1) 7 (n.toNat - 1), owner := put b.owner (runOf b.pages n * 8) (slot + 1) }, 0, runOf b.pages n * 8) := by
    unfold takeB; simp only [hn]; rw [if_neg (by omega), if_pos hk]
  obtain ⟨⟨lo1, lo2, lo3, lo4, lo5, lo6, lo7, lo8⟩, ⟨hi1, hi2, hi3, hi4, hi5, hi6, hi7, hi8⟩, ⟨d1, d2, d3, d4, d5, d6, d7, d8, d9, d10, d11, d12, d13, d14, d15, d16, d17, d18, d19, d20, d21, d22, d23, d24, d25, d26, d27, d28⟩, gp, go, gi, ge, g0, g1, g2, g3⟩ := id hb
  simp (config := {contextual := true, maxSteps := 1000000}) (disch := first | exact dB | fail) [go_sem, envOf, wrap_i64, int_lt, -Int.not_le, -Int.not_lt, Bool.decide_and, Bool.decide_or, and_assoc, Bool.and_assoc, Bool.or_assoc, Prod.exists, Prod.forall, -List.map_set, set_put, hk, hq, hq2]
  repeat refine Alt.mk ?_
  refine callP_use (zPages_fn _ b n0 p o i e h0 h1 h2 h3 slot n (hb'.frame (by intro y hy; rw [push_get_lt (by simp; omega), push_get_lt hy]) (by simp; omega)) hs (by omega) (by omega) (by omega) hsl) ?_
  rintro v τ hnn ⟨y, cd, at', rfl, hcase⟩
  have hout : Out (σ.n + 1) p o i e h0 h1 h2 h3 := by constructor <;> (simp only [NE]; omega)
  obtain ⟨b2, c2, n2, hr, hB⟩ : ∃ b2 c2 n2, (if runOf b.pages n < 0 then (b, 2, 0) else ({ b with pages := fillN (put b.pages (runOf b.pages n) (8 + n)) (runOf b.pages n + 1) 7 (n.toNat - 1), owner := put b.owner (runOf b.pages n * 8) (slot + 1) }, 0, runOf b.pages n * 8)) = (b2, c2, n2) ∧ cd = c2 ∧ at' = n2 ∧ BkR ((σ.push ⟨[.int .i64 b.slots, .sl p 0 b.pages.length 1, .sl h0 0 (b.heads 0).length 1, .sl h1 0 (b.heads 1).length 1, .sl h2 0 (b.heads 2).length 1, .sl h3 0 (b.heads 3).length 1, .sl o 0 b.owner.length 1, .sl i 0 b.inn.length 1, .sl e 0 b.epoch.length 1], true⟩).push ⟨[.int .i64 0, .nils, .nils, .nils, .nils, .nils, .nils, .nils, .nils], true⟩) τ p o i e h0 h1 h2 h3 b2 y := by
    rcases hcase with ⟨x1, x2, x3, x4⟩ | ⟨x1, x2, x3, x4⟩
    · exact ⟨_, _, _, if_pos x1, x2, x3, x4⟩
    · exact ⟨_, _, _, if_neg (by omega), x2, x3, x4⟩
  obtain ⟨rfl, rfl, hB⟩ := hB
  have hup := fun X => hB.up (σ := σ) (j := σ.n + 1) (X := X) (by intro y hy; rw [push_get_lt (by simp; omega), push_get_lt hy]) (by simp; omega) (by simp) hout
  have hB' := hB
  obtain ⟨pv, k0, k1, k2, k3, ov, iv, ev, rfl, hv, hf, hn2, ha⟩ := hB
  have hgr := hf (σ.n + 1) (by simp) hout
  rw [get_push_eq _ (by simp)] at hgr
  obtain ⟨i1, i2, i3, i4, i5, i6, i7, i8⟩ : IsL pv ∧ IsL k0 ∧ IsL k1 ∧ IsL k2 ∧ IsL k3 ∧ IsL ov ∧ IsL iv ∧ IsL ev := ⟨hv.p.isL, hv.h0.isL, hv.h1.isL, hv.h2.isL, hv.h3.isL, hv.o.isL, hv.i.isL, hv.e.isL⟩
  have hT : takeB b slot units = (b2, cd, at') := by rw [hm]; exact hr
  simp (config := {contextual := true, maxSteps := 1000000}) (disch := first | exact dB | fail) [go_sem, envOf, wrap_i64, int_lt, -Int.not_le, -Int.not_lt, Bool.decide_and, Bool.decide_or, and_assoc, Bool.and_assoc, Bool.or_assoc, Prod.exists, Prod.forall, -List.map_set, set_put, hgr]
  rw [hT]
  exact ⟨_, rfl, hup _⟩
theorem zTake0_fn (σ : AHeap) (b : Bk) (n0 p o i e h0 h1 h2 h3 : Nat) (slot units : Int) (hb : BkO n0 σ b p o i e h0 h1 h2 h3) (hs : BkS b) (hbk : bookP b) (hsl : 0 ≤ slot ∧ slot ≤ 10) (hk : bookKind units = 0) :
    Fn Tryz.prog 189 [bO b p o i e h0 h1 h2 h3, .int .i64 slot, .int .i64 units] σ fun x τ => BkT σ τ p o i e h0 h1 h2 h3 (takeB b slot units) x := by
  refine fn_of ord0 mixed Tryz.func189 (by kernel_rfl) rfl (by kernel_rfl) ?_
  have hb' := hb
  have hv := hb.v
  have hl := hbk.1.1
  have hhl := heads_le hbk hs 0 (by omega)
  have hout : Out (σ.n + 1) p o i e h0 h1 h2 h3 := by
    obtain ⟨⟨lo1, lo2, lo3, lo4, lo5, lo6, lo7, lo8⟩, ⟨hi1, hi2, hi3, hi4, hi5, hi6, hi7, hi8⟩, ⟨d1, d2, d3, d4, d5, d6, d7, d8, d9, d10, d11, d12, d13, d14, d15, d16, d17, d18, d19, d20, d21, d22, d23, d24, d25, d26, d27, d28⟩, gp, go, gi, ge, g0, g1, g2, g3⟩ := id hb
    constructor <;> (simp only [NE]; omega)
  have hout0 : Out σ.n p o i e h0 h1 h2 h3 := by
    obtain ⟨⟨lo1, lo2, lo3, lo4, lo5, lo6, lo7, lo8⟩, ⟨hi1, hi2, hi3, hi4, hi5, hi6, hi7, hi8⟩, ⟨d1, d2, d3, d4, d5, d6, d7, d8, d9, d10, d11, d12, d13, d14, d15, d16, d17, d18, d19, d20, d21, d22, d23, d24, d25, d26, d27, d28⟩, gp, go, gi, ge, g0, g1, g2, g3⟩ := id hb
    constructor <;> (simp only [NE]; omega)
  have hm : takeB b slot units = if b.heads 0 = [] then (if runOf b.pages 1 < 0 then (b, 2, 0) else (goTake (carve b (runOf b.pages 1) 0) slot 0, 0, at_ ((carve b (runOf b.pages 1) 0).heads 0) 0)) else (goTake b slot 0, 0, at_ (b.heads 0) 0) := by
    unfold takeB goTake; simp only [hk]; rw [if_neg (by omega), if_neg (by omega)]; rfl
  have hf0 : ∀ y, y < σ.n → ((σ.push ⟨[.int .i64 b.slots, .sl p 0 b.pages.length 1, .sl h0 0 (b.heads 0).length 1, .sl h1 0 (b.heads 1).length 1, .sl h2 0 (b.heads 2).length 1, .sl h3 0 (b.heads 3).length 1, .sl o 0 b.owner.length 1, .sl i 0 b.inn.length 1, .sl e 0 b.epoch.length 1], true⟩).push ⟨[.int .i64 0, .nils, .nils, .nils, .nils, .nils, .nils, .nils, .nils], true⟩).get y = σ.get y := by intro y hy; rw [push_get_lt (by simp; omega), push_get_lt hy]
  obtain ⟨⟨lo1, lo2, lo3, lo4, lo5, lo6, lo7, lo8⟩, ⟨hi1, hi2, hi3, hi4, hi5, hi6, hi7, hi8⟩, ⟨d1, d2, d3, d4, d5, d6, d7, d8, d9, d10, d11, d12, d13, d14, d15, d16, d17, d18, d19, d20, d21, d22, d23, d24, d25, d26, d27, d28⟩, gp, go, gi, ge, g0, g1, g2, g3⟩ := id hb
  obtain ⟨n, hn⟩ : ∃ n, (b.heads 0).length = n := ⟨_, rfl⟩
  simp only [bO, bV, hn]
  by_cases hE : b.heads 0 = []
  · have hn0 : n = 0 := by rw [← hn, hE]; rfl
    subst hn0
    have hbO : bO b p o i e h0 h1 h2 h3 = .agg [.int .i64 b.slots, .sl p 0 b.pages.length 1, .sl h0 0 0 1, .sl h1 0 (b.heads 1).length 1, .sl h2 0 (b.heads 2).length 1, .sl h3 0 (b.heads 3).length 1, .sl o 0 b.owner.length 1, .sl i 0 b.inn.length 1, .sl e 0 b.epoch.length 1] := by simp only [bO, bV, hn]
    rw [hn] at hv
    have hrr := runOf_rng b.pages 1
    obtain ⟨r, hr⟩ : ∃ r, runOf b.pages 1 = r := ⟨_, rfl⟩
    rw [hr] at hrr hm
    by_cases hr0 : r < 0
    · have hT : takeB b slot units = (b, 2, 0) := by rw [hm, if_pos hE, if_pos hr0]
      simp (config := {contextual := true, maxSteps := 1000000}) (disch := first | exact dB | fail) [go_sem, envOf, wrap_i64, int_lt, -Int.not_le, -Int.not_lt, Bool.decide_and, Bool.decide_or, and_assoc, Bool.and_assoc, Bool.or_assoc, Prod.exists, Prod.forall, -List.map_set, set_put, hk, hr, hr0]
      repeat refine Alt.mk ?_
      rw [hT]
      refine ⟨bO b p o i e h0 h1 h2 h3, by rw [hbO], BkR.r hb' (by intro y hy; rw [push_get_lt (by simp; omega), push_get_lt hy]) (by simp; omega)⟩
    · have hr1 : 0 ≤ r := by omega
      have hT : takeB b slot units = (goTake (carve b r 0) slot 0, 0, at_ ((carve b r 0).heads 0) 0) := by rw [hm, if_pos hE, if_neg hr0]
      simp (config := {contextual := true, maxSteps := 1000000}) (disch := first | exact dB | fail) [go_sem, envOf, wrap_i64, int_lt, -Int.not_le, -Int.not_lt, Bool.decide_and, Bool.decide_or, and_assoc, Bool.and_assoc, Bool.or_assoc, Prod.exists, Prod.forall, -List.map_set, set_put, hk, hr, hr0]
      repeat refine Alt.mk ?_
      rw [← hbO]
      refine callP_use (zCarve0_fn _ b n0 p o i e h0 h1 h2 h3 r (hb'.frame (by intro y hy; rw [push_get_lt (by simp; omega), push_get_lt hy]) (by simp; omega)) hs (by omega) (by omega) (by omega)) ?_
      rintro v τ hnn ⟨q, rfl, hB, hf, hn2, hqq⟩
      have hgr := hf (σ.n + 1) (by simp) hout
      have hgb := hf σ.n (by simp only [push_n']; omega) hout0
      rw [get_push_eq _ (by simp)] at hgr
      rw [push_get_lt (by simp), get_push_eq _ rfl] at hgb
      simp only [push_n'] at hn2 hqq
      have hq1 : NE q σ.n ∧ NE q (σ.n + 1) := by simp only [NE]; omega
      obtain ⟨hq1, hq2⟩ := hq1
      have hC : (carve b r 0).heads 0 = carveL r 0 := by simp [carve, setH, hE]
      have hCL : carveL r 0 = [r * 8 + ((0 : Nat) : Int) * ((1 : Nat) : Int), r * 8 + ((1 : Nat) : Int) * ((1 : Nat) : Int), r * 8 + ((2 : Nat) : Int) * ((1 : Nat) : Int), r * 8 + ((3 : Nat) : Int) * ((1 : Nat) : Int), r * 8 + ((4 : Nat) : Int) * ((1 : Nat) : Int), r * 8 + ((5 : Nat) : Int) * ((1 : Nat) : Int), r * 8 + ((6 : Nat) : Int) * ((1 : Nat) : Int), r * 8 + ((7 : Nat) : Int) * ((1 : Nat) : Int)] := by rw [carveL_eq r 0 1 rfl]; rfl
      have hCl : (carveL r 0).length = 8 := by rw [hCL]; rfl
      have hat : at_ (carveL r 0) 0 = r * 8 := by rw [hCL]; simp [at_]
      have gq := hB.g0
      have gow := hB.go
      rw [hC] at gq
      have go' : (carve b r 0).owner = b.owner := rfl
      rw [go'] at gow
      have g00 : ((carveL r 0).map (AV.int .i64))[0]? = some (.int .i64 (r * 8)) := by rw [← hat]; exact map_get (a := 0) (by omega) (by rw [hCl]; omega)
      have g0e : ∀ h, (carveL r 0)[0]'h = r * 8 := fun h => by rw [← hat]; simp only [at_, Int.toNat_zero]; rw [List.getD_eq_getElem?_getD, List.getElem?_eq_getElem h]; rfl
      have hoi : 0 ≤ r * 8 := by omega
      have hoi2 : ¬ (b.owner.length : Int) ≤ r * 8 := by omega
      have hbx : bO (carve b r 0) p o i e q h1 h2 h3 = .agg [.int .i64 b.slots, .sl p 0 b.pages.length 1, .sl q 0 8 1, .sl h1 0 (b.heads 1).length 1, .sl h2 0 (b.heads 2).length 1, .sl h3 0 (b.heads 3).length 1, .sl o 0 b.owner.length 1, .sl i 0 b.inn.length 1, .sl e 0 b.epoch.length 1] := by simp [carve, put_len', setH, hE, hCl]
      rw [hbx]
      simp (config := {contextual := true, maxSteps := 1000000}) (disch := first | exact dB | fail) [go_sem, envOf, wrap_i64, int_lt, -Int.not_le, -Int.not_lt, Bool.decide_and, Bool.decide_or, and_assoc, Bool.and_assoc, Bool.or_assoc, Prod.exists, Prod.forall, -List.map_set, set_put, -List.getElem?_map, hgr, hgb, gq, gow, g00, g0e, hoi, hoi2]
      rw [hT]
      have hnC : (carve b r 0).heads 0 ≠ [] := by rw [hC, hCL]; simp
      refine ⟨_, ?_, goTake_R (τ := τ) 0 (by omega) hB hnC ?_ ?_ (by simp only [set_n']; omega) (by simp only [set_n']; omega) ?_ ?_⟩
      · simp [hC, hCl, hat, carve, setH, put_len', hE]
      · rw [hC, hat, go']; (first | exact cGT | fail)
      · intro y hy y1 y2
        rcases y2 with y2 | y2 | y2 | y2 | y2 | y2 | y2 <;> (rw [y2] at y1 ⊢; simp (disch := first | exact NE.ne (by assumption) | exact NE.sym (by assumption) | omega) only [set_get_ne])
      · intro y hy hoy
        rw [set_get_ne (by omega), set_get_ne hoy.o.ne, set_get_ne (by omega), hf y (by simp only [push_n']; omega) hoy, push_get_lt (by simp only [push_n']; omega), push_get_lt hy]
      · intro y hy ho
        obtain ⟨z1, z2, z3, z4, z5, z6, z7, z8⟩ := ho
        refine ⟨?_, ?_, ?_, ?_, ?_, ?_, ?_, ?_⟩ <;> first | assumption | (rcases hqq with h | h; (rw [h]; assumption); (simp only [NE]; omega))
  · have hT : takeB b slot units = (goTake b slot 0, 0, at_ (b.heads 0) 0) := by rw [hm, if_neg hE]
    have hE1 : ¬ (b.heads 0).length = 0 := fun h => hE (List.eq_nil_of_length_eq_zero h)
    have hE0 : ¬ n = 0 := by omega
    have hE2 : 1 ≤ (n : Int) := by omega
    have hli := (hbk.2.1 0 (by omega)).2 0 (by omega) (by omega)
    have g00 : ((b.heads 0).map (AV.int .i64))[0]? = some (.int .i64 (at_ (b.heads 0) 0)) := map_get (a := 0) (by omega) (by omega)
    obtain ⟨u, hu⟩ : ∃ u, at_ (b.heads 0) 0 = u := ⟨_, rfl⟩
    have g0e : ∀ h, (b.heads 0)[0]'h = u := fun h => by rw [← hu]; simp only [at_, Int.toNat_zero]; rw [List.getD_eq_getElem?_getD, List.getElem?_eq_getElem h]; rfl
    rw [hu] at hli g00
    have hoi : 0 ≤ u := hli.1
    have hoi2 : ¬ (b.owner.length : Int) ≤ u := by omega
    simp (config := {contextual := true, maxSteps := 1000000}) (disch := first | exact dB | fail) [go_sem, envOf, wrap_i64, int_lt, -Int.not_le, -Int.not_lt, Bool.decide_and, Bool.decide_or, and_assoc, Bool.and_assoc, Bool.or_assoc, Prod.exists, Prod.forall, -List.map_set, set_put, -List.getElem?_map, hk, hE0, g0, go, g00, g0e, hoi, hoi2]
    repeat refine Alt.mk ?_
    rw [hT]
    have hoN : o < σ.n := hi2
    subst hn
    refine ⟨_, ?_, goTake_R (τ := σ) 0 (by omega) hb' hE ?_ ?_ (by simp only [set_n', push_n']; omega) (by simp only [set_n', push_n']; omega) ?_ (fun _ _ h => h)⟩
    · simp [hu]
    · rw [hu]; (first | exact cGT | fail)
    · intro y hy y1 y2
      rw [push_get_lt (by simp only [push_n', set_n']; omega), push_get_lt (by simp only [set_n']; omega), set_get_ne y1.ne]
    · intro y hy hoy
      rw [push_get_lt (by simp only [push_n', set_n']; omega), push_get_lt (by simp only [set_n']; omega), set_get_ne hoy.o.ne]
theorem zTake1_fn (σ : AHeap) (b : Bk) (n0 p o i e h0 h1 h2 h3 : Nat) (slot units : Int) (hb : BkO n0 σ b p o i e h0 h1 h2 h3) (hs : BkS b) (hbk : bookP b) (hsl : 0 ≤ slot ∧ slot ≤ 10) (hk : bookKind units = 1) :
    Fn Tryz.prog 189 [bO b p o i e h0 h1 h2 h3, .int .i64 slot, .int .i64 units] σ fun x τ => BkT σ τ p o i e h0 h1 h2 h3 (takeB b slot units) x := by
  refine fn_of ord0 mixed Tryz.func189 (by kernel_rfl) rfl (by kernel_rfl) ?_
  have hb' := hb
  have hv := hb.v
  have hl := hbk.1.1
  have hhl := heads_le hbk hs 1 (by omega)
  have hout : Out (σ.n + 1) p o i e h0 h1 h2 h3 := by
    obtain ⟨⟨lo1, lo2, lo3, lo4, lo5, lo6, lo7, lo8⟩, ⟨hi1, hi2, hi3, hi4, hi5, hi6, hi7, hi8⟩, ⟨d1, d2, d3, d4, d5, d6, d7, d8, d9, d10, d11, d12, d13, d14, d15, d16, d17, d18, d19, d20, d21, d22, d23, d24, d25, d26, d27, d28⟩, gp, go, gi, ge, g0, g1, g2, g3⟩ := id hb
    constructor <;> (simp only [NE]; omega)
  have hout0 : Out σ.n p o i e h0 h1 h2 h3 := by
    obtain ⟨⟨lo1, lo2, lo3, lo4, lo5, lo6, lo7, lo8⟩, ⟨hi1, hi2, hi3, hi4, hi5, hi6, hi7, hi8⟩, ⟨d1, d2, d3, d4, d5, d6, d7, d8, d9, d10, d11, d12, d13, d14, d15, d16, d17, d18, d19, d20, d21, d22, d23, d24, d25, d26, d27, d28⟩, gp, go, gi, ge, g0, g1, g2, g3⟩ := id hb
    constructor <;> (simp only [NE]; omega)
  have hm : takeB b slot units = if b.heads 1 = [] then (if runOf b.pages 1 < 0 then (b, 2, 0) else (goTake (carve b (runOf b.pages 1) 1) slot 1, 0, at_ ((carve b (runOf b.pages 1) 1).heads 1) 0)) else (goTake b slot 1, 0, at_ (b.heads 1) 0) := by
    unfold takeB goTake; simp only [hk]; rw [if_neg (by omega), if_neg (by omega)]; rfl
  have hf0 : ∀ y, y < σ.n → ((σ.push ⟨[.int .i64 b.slots, .sl p 0 b.pages.length 1, .sl h0 0 (b.heads 0).length 1, .sl h1 0 (b.heads 1).length 1, .sl h2 0 (b.heads 2).length 1, .sl h3 0 (b.heads 3).length 1, .sl o 0 b.owner.length 1, .sl i 0 b.inn.length 1, .sl e 0 b.epoch.length 1], true⟩).push ⟨[.int .i64 0, .nils, .nils, .nils, .nils, .nils, .nils, .nils, .nils], true⟩).get y = σ.get y := by intro y hy; rw [push_get_lt (by simp; omega), push_get_lt hy]
  obtain ⟨⟨lo1, lo2, lo3, lo4, lo5, lo6, lo7, lo8⟩, ⟨hi1, hi2, hi3, hi4, hi5, hi6, hi7, hi8⟩, ⟨d1, d2, d3, d4, d5, d6, d7, d8, d9, d10, d11, d12, d13, d14, d15, d16, d17, d18, d19, d20, d21, d22, d23, d24, d25, d26, d27, d28⟩, gp, go, gi, ge, g0, g1, g2, g3⟩ := id hb
  obtain ⟨n, hn⟩ : ∃ n, (b.heads 1).length = n := ⟨_, rfl⟩
  simp only [bO, bV, hn]
  by_cases hE : b.heads 1 = []
  · have hn0 : n = 0 := by rw [← hn, hE]; rfl
    subst hn0
    have hbO : bO b p o i e h0 h1 h2 h3 = .agg [.int .i64 b.slots, .sl p 0 b.pages.length 1, .sl h0 0 (b.heads 0).length 1, .sl h1 0 0 1, .sl h2 0 (b.heads 2).length 1, .sl h3 0 (b.heads 3).length 1, .sl o 0 b.owner.length 1, .sl i 0 b.inn.length 1, .sl e 0 b.epoch.length 1] := by simp only [bO, bV, hn]
    rw [hn] at hv
    have hrr := runOf_rng b.pages 1
    obtain ⟨r, hr⟩ : ∃ r, runOf b.pages 1 = r := ⟨_, rfl⟩
    rw [hr] at hrr hm
    by_cases hr0 : r < 0
    · have hT : takeB b slot units = (b, 2, 0) := by rw [hm, if_pos hE, if_pos hr0]
      simp (config := {contextual := true, maxSteps := 1000000}) (disch := first | exact dB | fail) [go_sem, envOf, wrap_i64, int_lt, -Int.not_le, -Int.not_lt, Bool.decide_and, Bool.decide_or, and_assoc, Bool.and_assoc, Bool.or_assoc, Prod.exists, Prod.forall, -List.map_set, set_put, hk, hr, hr0]
      repeat refine Alt.mk ?_
      rw [hT]
      refine ⟨bO b p o i e h0 h1 h2 h3, by rw [hbO], BkR.r hb' (by intro y hy; rw [push_get_lt (by simp; omega), push_get_lt hy]) (by simp; omega)⟩
    · have hr1 : 0 ≤ r := by omega
      have hT : takeB b slot units = (goTake (carve b r 1) slot 1, 0, at_ ((carve b r 1).heads 1) 0) := by rw [hm, if_pos hE, if_neg hr0]
      simp (config := {contextual := true, maxSteps := 1000000}) (disch := first | exact dB | fail) [go_sem, envOf, wrap_i64, int_lt, -Int.not_le, -Int.not_lt, Bool.decide_and, Bool.decide_or, and_assoc, Bool.and_assoc, Bool.or_assoc, Prod.exists, Prod.forall, -List.map_set, set_put, hk, hr, hr0]
      repeat refine Alt.mk ?_
      rw [← hbO]
      refine callP_use (zCarve1_fn _ b n0 p o i e h0 h1 h2 h3 r (hb'.frame (by intro y hy; rw [push_get_lt (by simp; omega), push_get_lt hy]) (by simp; omega)) hs (by omega) (by omega) (by omega)) ?_
      rintro v τ hnn ⟨q, rfl, hB, hf, hn2, hqq⟩
      have hgr := hf (σ.n + 1) (by simp) hout
      have hgb := hf σ.n (by simp only [push_n']; omega) hout0
      rw [get_push_eq _ (by simp)] at hgr
      rw [push_get_lt (by simp), get_push_eq _ rfl] at hgb
      simp only [push_n'] at hn2 hqq
      have hq1 : NE q σ.n ∧ NE q (σ.n + 1) := by simp only [NE]; omega
      obtain ⟨hq1, hq2⟩ := hq1
      have hC : (carve b r 1).heads 1 = carveL r 1 := by simp [carve, setH, hE]
      have hCL : carveL r 1 = [r * 8 + ((0 : Nat) : Int) * ((2 : Nat) : Int), r * 8 + ((1 : Nat) : Int) * ((2 : Nat) : Int), r * 8 + ((2 : Nat) : Int) * ((2 : Nat) : Int), r * 8 + ((3 : Nat) : Int) * ((2 : Nat) : Int)] := by rw [carveL_eq r 1 2 rfl]; rfl
      have hCl : (carveL r 1).length = 4 := by rw [hCL]; rfl
      have hat : at_ (carveL r 1) 0 = r * 8 := by rw [hCL]; simp [at_]
      have gq := hB.g1
      have gow := hB.go
      rw [hC] at gq
      have go' : (carve b r 1).owner = b.owner := rfl
      rw [go'] at gow
      have g00 : ((carveL r 1).map (AV.int .i64))[0]? = some (.int .i64 (r * 8)) := by rw [← hat]; exact map_get (a := 0) (by omega) (by rw [hCl]; omega)
      have g0e : ∀ h, (carveL r 1)[0]'h = r * 8 := fun h => by rw [← hat]; simp only [at_, Int.toNat_zero]; rw [List.getD_eq_getElem?_getD, List.getElem?_eq_getElem h]; rfl
      have hoi : 0 ≤ r * 8 := by omega
      have hoi2 : ¬ (b.owner.length : Int) ≤ r * 8 := by omega
      have hbx : bO (carve b r 1) p o i e h0 q h2 h3 = .agg [.int .i64 b.slots, .sl p 0 b.pages.length 1, .sl h0 0 (b.heads 0).length 1, .sl q 0 4 1, .sl h2 0 (b.heads 2).length 1, .sl h3 0 (b.heads 3).length 1, .sl o 0 b.owner.length 1, .sl i 0 b.inn.length 1, .sl e 0 b.epoch.length 1] := by simp [carve, put_len', setH, hE, hCl]
      rw [hbx]
      simp (config := {contextual := true, maxSteps := 1000000}) (disch := first | exact dB | fail) [go_sem, envOf, wrap_i64, int_lt, -Int.not_le, -Int.not_lt, Bool.decide_and, Bool.decide_or, and_assoc, Bool.and_assoc, Bool.or_assoc, Prod.exists, Prod.forall, -List.map_set, set_put, -List.getElem?_map, hgr, hgb, gq, gow, g00, g0e, hoi, hoi2]
      rw [hT]
      have hnC : (carve b r 1).heads 1 ≠ [] := by rw [hC, hCL]; simp
      refine ⟨_, ?_, goTake_R (τ := τ) 1 (by omega) hB hnC ?_ ?_ (by simp only [set_n']; omega) (by simp only [set_n']; omega) ?_ ?_⟩
      · simp [hC, hCl, hat, carve, setH, put_len', hE]
      · rw [hC, hat, go']; (first | exact cGT | fail)
      · intro y hy y1 y2
        rcases y2 with y2 | y2 | y2 | y2 | y2 | y2 | y2 <;> (rw [y2] at y1 ⊢; simp (disch := first | exact NE.ne (by assumption) | exact NE.sym (by assumption) | omega) only [set_get_ne])
      · intro y hy hoy
        rw [set_get_ne (by omega), set_get_ne hoy.o.ne, set_get_ne (by omega), hf y (by simp only [push_n']; omega) hoy, push_get_lt (by simp only [push_n']; omega), push_get_lt hy]
      · intro y hy ho
        obtain ⟨z1, z2, z3, z4, z5, z6, z7, z8⟩ := ho
        refine ⟨?_, ?_, ?_, ?_, ?_, ?_, ?_, ?_⟩ <;> first | assumption | (rcases hqq with h | h; (rw [h]; assumption); (simp only [NE]; omega))
  · have hT : takeB b slot units = (goTake b slot 1, 0, at_ (b.heads 1) 0) := by rw [hm, if_neg hE]
    have hE1 : ¬ (b.heads 1).length = 0 := fun h => hE (List.eq_nil_of_length_eq_zero h)
    have hE0 : ¬ n = 0 := by omega
    have hE2 : 1 ≤ (n : Int) := by omega
    have hli := (hbk.2.1 1 (by omega)).2 0 (by omega) (by omega)
    have g00 : ((b.heads 1).map (AV.int .i64))[0]? = some (.int .i64 (at_ (b.heads 1) 0)) := map_get (a := 0) (by omega) (by omega)
    obtain ⟨u, hu⟩ : ∃ u, at_ (b.heads 1) 0 = u := ⟨_, rfl⟩
    have g0e : ∀ h, (b.heads 1)[0]'h = u := fun h => by rw [← hu]; simp only [at_, Int.toNat_zero]; rw [List.getD_eq_getElem?_getD, List.getElem?_eq_getElem h]; rfl
    rw [hu] at hli g00
    have hoi : 0 ≤ u := hli.1
    have hoi2 : ¬ (b.owner.length : Int) ≤ u := by omega
    simp (config := {contextual := true, maxSteps := 1000000}) (disch := first | exact dB | fail) [go_sem, envOf, wrap_i64, int_lt, -Int.not_le, -Int.not_lt, Bool.decide_and, Bool.decide_or, and_assoc, Bool.and_assoc, Bool.or_assoc, Prod.exists, Prod.forall, -List.map_set, set_put, -List.getElem?_map, hk, hE0, g1, go, g00, g0e, hoi, hoi2]
    repeat refine Alt.mk ?_
    rw [hT]
    have hoN : o < σ.n := hi2
    subst hn
    refine ⟨_, ?_, goTake_R (τ := σ) 1 (by omega) hb' hE ?_ ?_ (by simp only [set_n', push_n']; omega) (by simp only [set_n', push_n']; omega) ?_ (fun _ _ h => h)⟩
    · simp [hu]
    · rw [hu]; (first | exact cGT | fail)
    · intro y hy y1 y2
      rw [push_get_lt (by simp only [push_n', set_n']; omega), push_get_lt (by simp only [set_n']; omega), set_get_ne y1.ne]
    · intro y hy hoy
      rw [push_get_lt (by simp only [push_n', set_n']; omega), push_get_lt (by simp only [set_n']; omega), set_get_ne hoy.o.ne]
theorem zTake2_fn (σ : AHeap) (b : Bk) (n0 p o i e h0 h1 h2 h3 : Nat) (slot units : Int) (hb : BkO n0 σ b p o i e h0 h1 h2 h3) (hs : BkS b) (hbk : bookP b) (hsl : 0 ≤ slot ∧ slot ≤ 10) (hk : bookKind units = 2) :
    Fn Tryz.prog 189 [bO b p o i e h0 h1 h2 h3, .int .i64 slot, .int .i64 units] σ fun x τ => BkT σ τ p o i e h0 h1 h2 h3 (takeB b slot units) x := by
  refine fn_of ord0 mixed Tryz.func189 (by kernel_rfl) rfl (by kernel_rfl) ?_
  have hb' := hb
  have hv := hb.v
  have hl := hbk.1.1
  have hhl := heads_le hbk hs 2 (by omega)
  have hout : Out (σ.n + 1) p o i e h0 h1 h2 h3 := by
    obtain ⟨⟨lo1, lo2, lo3, lo4, lo5, lo6, lo7, lo8⟩, ⟨hi1, hi2, hi3, hi4, hi5, hi6, hi7, hi8⟩, ⟨d1, d2, d3, d4, d5, d6, d7, d8, d9, d10, d11, d12, d13, d14, d15, d16, d17, d18, d19, d20, d21, d22, d23, d24, d25, d26, d27, d28⟩, gp, go, gi, ge, g0, g1, g2, g3⟩ := id hb
    constructor <;> (simp only [NE]; omega)
  have hout0 : Out σ.n p o i e h0 h1 h2 h3 := by
    obtain ⟨⟨lo1, lo2, lo3, lo4, lo5, lo6, lo7, lo8⟩, ⟨hi1, hi2, hi3, hi4, hi5, hi6, hi7, hi8⟩, ⟨d1, d2, d3, d4, d5, d6, d7, d8, d9, d10, d11, d12, d13, d14, d15, d16, d17, d18, d19, d20, d21, d22, d23, d24, d25, d26, d27, d28⟩, gp, go, gi, ge, g0, g1, g2, g3⟩ := id hb
    constructor <;> (simp only [NE]; omega)
  have hm : takeB b slot units = if b.heads 2 = [] then (if runOf b.pages 1 < 0 then (b, 2, 0) else (goTake (carve b (runOf b.pages 1) 2) slot 2, 0, at_ ((carve b (runOf b.pages 1) 2).heads 2) 0)) else (goTake b slot 2, 0, at_ (b.heads 2) 0) := by
    unfold takeB goTake; simp only [hk]; rw [if_neg (by omega), if_neg (by omega)]; rfl
  have hf0 : ∀ y, y < σ.n → ((σ.push ⟨[.int .i64 b.slots, .sl p 0 b.pages.length 1, .sl h0 0 (b.heads 0).length 1, .sl h1 0 (b.heads 1).length 1, .sl h2 0 (b.heads 2).length 1, .sl h3 0 (b.heads 3).length 1, .sl o 0 b.owner.length 1, .sl i 0 b.inn.length 1, .sl e 0 b.epoch.length 1], true⟩).push ⟨[.int .i64 0, .nils, .nils, .nils, .nils, .nils, .nils, .nils, .nils], true⟩).get y = σ.get y := by intro y hy; rw [push_get_lt (by simp; omega), push_get_lt hy]
  obtain ⟨⟨lo1, lo2, lo3, lo4, lo5, lo6, lo7, lo8⟩, ⟨hi1, hi2, hi3, hi4, hi5, hi6, hi7, hi8⟩, ⟨d1, d2, d3, d4, d5, d6, d7, d8, d9, d10, d11, d12, d13, d14, d15, d16, d17, d18, d19, d20, d21, d22, d23, d24, d25, d26, d27, d28⟩, gp, go, gi, ge, g0, g1, g2, g3⟩ := id hb
  obtain ⟨n, hn⟩ : ∃ n, (b.heads 2).length = n := ⟨_, rfl⟩
  simp only [bO, bV, hn]
  by_cases hE : b.heads 2 = []
  · have hn0 : n = 0 := by rw [← hn, hE]; rfl
    subst hn0
    have hbO : bO b p o i e h0 h1 h2 h3 = .agg [.int .i64 b.slots, .sl p 0 b.pages.length 1, .sl h0 0 (b.heads 0).length 1, .sl h1 0 (b.heads 1).length 1, .sl h2 0 0 1, .sl h3 0 (b.heads 3).length 1, .sl o 0 b.owner.length 1, .sl i 0 b.inn.length 1, .sl e 0 b.epoch.length 1] := by simp only [bO, bV, hn]
    rw [hn] at hv
    have hrr := runOf_rng b.pages 1
    obtain ⟨r, hr⟩ : ∃ r, runOf b.pages 1 = r := ⟨_, rfl⟩
    rw [hr] at hrr hm
    by_cases hr0 : r < 0
    · have hT : takeB b slot units = (b, 2, 0) := by rw [hm, if_pos hE, if_pos hr0]
      simp (config := {contextual := true, maxSteps := 1000000}) (disch := first | exact dB | fail) [go_sem, envOf, wrap_i64, int_lt, -Int.not_le, -Int.not_lt, Bool.decide_and, Bool.decide_or, and_assoc, Bool.and_assoc, Bool.or_assoc, Prod.exists, Prod.forall, -List.map_set, set_put, hk, hr, hr0]
      repeat refine Alt.mk ?_
      rw [hT]
      refine ⟨bO b p o i e h0 h1 h2 h3, by rw [hbO], BkR.r hb' (by intro y hy; rw [push_get_lt (by simp; omega), push_get_lt hy]) (by simp; omega)⟩
    · have hr1 : 0 ≤ r := by omega
      have hT : takeB b slot units = (goTake (carve b r 2) slot 2, 0, at_ ((carve b r 2).heads 2) 0) := by rw [hm, if_pos hE, if_neg hr0]
      simp (config := {contextual := true, maxSteps := 1000000}) (disch := first | exact dB | fail) [go_sem, envOf, wrap_i64, int_lt, -Int.not_le, -Int.not_lt, Bool.decide_and, Bool.decide_or, and_assoc, Bool.and_assoc, Bool.or_assoc, Prod.exists, Prod.forall, -List.map_set, set_put, hk, hr, hr0]
      repeat refine Alt.mk ?_
      rw [← hbO]
      refine callP_use (zCarve2_fn _ b n0 p o i e h0 h1 h2 h3 r (hb'.frame (by intro y hy; rw [push_get_lt (by simp; omega), push_get_lt hy]) (by simp; omega)) hs (by omega) (by omega) (by omega)) ?_
      rintro v τ hnn ⟨q, rfl, hB, hf, hn2, hqq⟩
      have hgr := hf (σ.n + 1) (by simp) hout
      have hgb := hf σ.n (by simp only [push_n']; omega) hout0
      rw [get_push_eq _ (by simp)] at hgr
      rw [push_get_lt (by simp), get_push_eq _ rfl] at hgb
      simp only [push_n'] at hn2 hqq
      have hq1 : NE q σ.n ∧ NE q (σ.n + 1) := by simp only [NE]; omega
      obtain ⟨hq1, hq2⟩ := hq1
      have hC : (carve b r 2).heads 2 = carveL r 2 := by simp [carve, setH, hE]
      have hCL : carveL r 2 = [r * 8 + ((0 : Nat) : Int) * ((4 : Nat) : Int), r * 8 + ((1 : Nat) : Int) * ((4 : Nat) : Int)] := by rw [carveL_eq r 2 4 rfl]; rfl
      have hCl : (carveL r 2).length = 2 := by rw [hCL]; rfl
      have hat : at_ (carveL r 2) 0 = r * 8 := by rw [hCL]; simp [at_]
      have gq := hB.g2
      have gow := hB.go
      rw [hC] at gq
      have go' : (carve b r 2).owner = b.owner := rfl
      rw [go'] at gow
      have g00 : ((carveL r 2).map (AV.int .i64))[0]? = some (.int .i64 (r * 8)) := by rw [← hat]; exact map_get (a := 0) (by omega) (by rw [hCl]; omega)
      have g0e : ∀ h, (carveL r 2)[0]'h = r * 8 := fun h => by rw [← hat]; simp only [at_, Int.toNat_zero]; rw [List.getD_eq_getElem?_getD, List.getElem?_eq_getElem h]; rfl
      have hoi : 0 ≤ r * 8 := by omega
      have hoi2 : ¬ (b.owner.length : Int) ≤ r * 8 := by omega
      have hbx : bO (carve b r 2) p o i e h0 h1 q h3 = .agg [.int .i64 b.slots, .sl p 0 b.pages.length 1, .sl h0 0 (b.heads 0).length 1, .sl h1 0 (b.heads 1).length 1, .sl q 0 2 1, .sl h3 0 (b.heads 3).length 1, .sl o 0 b.owner.length 1, .sl i 0 b.inn.length 1, .sl e 0 b.epoch.length 1] := by simp [carve, put_len', setH, hE, hCl]
      rw [hbx]
      simp (config := {contextual := true, maxSteps := 1000000}) (disch := first | exact dB | fail) [go_sem, envOf, wrap_i64, int_lt, -Int.not_le, -Int.not_lt, Bool.decide_and, Bool.decide_or, and_assoc, Bool.and_assoc, Bool.or_assoc, Prod.exists, Prod.forall, -List.map_set, set_put, -List.getElem?_map, hgr, hgb, gq, gow, g00, g0e, hoi, hoi2]
      rw [hT]
      have hnC : (carve b r 2).heads 2 ≠ [] := by rw [hC, hCL]; simp
      refine ⟨_, ?_, goTake_R (τ := τ) 2 (by omega) hB hnC ?_ ?_ (by simp only [set_n']; omega) (by simp only [set_n']; omega) ?_ ?_⟩
      · simp [hC, hCl, hat, carve, setH, put_len', hE]
      · rw [hC, hat, go']; (first | exact cGT | fail)
      · intro y hy y1 y2
        rcases y2 with y2 | y2 | y2 | y2 | y2 | y2 | y2 <;> (rw [y2] at y1 ⊢; simp (disch := first | exact NE.ne (by assumption) | exact NE.sym (by assumption) | omega) only [set_get_ne])
      · intro y hy hoy
        rw [set_get_ne (by omega), set_get_ne hoy.o.ne, set_get_ne (by omega), hf y (by simp only [push_n']; omega) hoy, push_get_lt (by simp only [push_n']; omega), push_get_lt hy]
      · intro y hy ho
        obtain ⟨z1, z2, z3, z4, z5, z6, z7, z8⟩ := ho
        refine ⟨?_, ?_, ?_, ?_, ?_, ?_, ?_, ?_⟩ <;> first | assumption | (rcases hqq with h | h; (rw [h]; assumption); (simp only [NE]; omega))
  · have hT : takeB b slot units = (goTake b slot 2, 0, at_ (b.heads 2) 0) := by rw [hm, if_neg hE]
    have hE1 : ¬ (b.heads 2).length = 0 := fun h => hE (List.eq_nil_of_length_eq_zero h)
    have hE0 : ¬ n = 0 := by omega
    have hE2 : 1 ≤ (n : Int) := by omega
    have hli := (hbk.2.1 2 (by omega)).2 0 (by omega) (by omega)
    have g00 : ((b.heads 2).map (AV.int .i64))[0]? = some (.int .i64 (at_ (b.heads 2) 0)) := map_get (a := 0) (by omega) (by omega)
    obtain ⟨u, hu⟩ : ∃ u, at_ (b.heads 2) 0 = u := ⟨_, rfl⟩
    have g0e : ∀ h, (b.heads 2)[0]'h = u := fun h => by rw [← hu]; simp only [at_, Int.toNat_zero]; rw [List.getD_eq_getElem?_getD, List.getElem?_eq_getElem h]; rfl
    rw [hu] at hli g00
    have hoi : 0 ≤ u := hli.1
    have hoi2 : ¬ (b.owner.length : Int) ≤ u := by omega
    simp (config := {contextual := true, maxSteps := 1000000}) (disch := first | exact dB | fail) [go_sem, envOf, wrap_i64, int_lt, -Int.not_le, -Int.not_lt, Bool.decide_and, Bool.decide_or, and_assoc, Bool.and_assoc, Bool.or_assoc, Prod.exists, Prod.forall, -List.map_set, set_put, -List.getElem?_map, hk, hE0, g2, go, g00, g0e, hoi, hoi2]
    repeat refine Alt.mk ?_
    rw [hT]
    have hoN : o < σ.n := hi2
    subst hn
    refine ⟨_, ?_, goTake_R (τ := σ) 2 (by omega) hb' hE ?_ ?_ (by simp only [set_n', push_n']; omega) (by simp only [set_n', push_n']; omega) ?_ (fun _ _ h => h)⟩
    · simp [hu]
    · rw [hu]; (first | exact cGT | fail)
    · intro y hy y1 y2
      rw [push_get_lt (by simp only [push_n', set_n']; omega), push_get_lt (by simp only [set_n']; omega), set_get_ne y1.ne]
    · intro y hy hoy
      rw [push_get_lt (by simp only [push_n', set_n']; omega), push_get_lt (by simp only [set_n']; omega), set_get_ne hoy.o.ne]
theorem zTake3_fn (σ : AHeap) (b : Bk) (n0 p o i e h0 h1 h2 h3 : Nat) (slot units : Int) (hb : BkO n0 σ b p o i e h0 h1 h2 h3) (hs : BkS b) (hbk : bookP b) (hsl : 0 ≤ slot ∧ slot ≤ 10) (hk : bookKind units = 3) :
    Fn Tryz.prog 189 [bO b p o i e h0 h1 h2 h3, .int .i64 slot, .int .i64 units] σ fun x τ => BkT σ τ p o i e h0 h1 h2 h3 (takeB b slot units) x := by
  refine fn_of ord0 mixed Tryz.func189 (by kernel_rfl) rfl (by kernel_rfl) ?_
  have hb' := hb
  have hv := hb.v
  have hl := hbk.1.1
  have hhl := heads_le hbk hs 3 (by omega)
  have hout : Out (σ.n + 1) p o i e h0 h1 h2 h3 := by
    obtain ⟨⟨lo1, lo2, lo3, lo4, lo5, lo6, lo7, lo8⟩, ⟨hi1, hi2, hi3, hi4, hi5, hi6, hi7, hi8⟩, ⟨d1, d2, d3, d4, d5, d6, d7, d8, d9, d10, d11, d12, d13, d14, d15, d16, d17, d18, d19, d20, d21, d22, d23, d24, d25, d26, d27, d28⟩, gp, go, gi, ge, g0, g1, g2, g3⟩ := id hb
    constructor <;> (simp only [NE]; omega)
  have hout0 : Out σ.n p o i e h0 h1 h2 h3 := by
    obtain ⟨⟨lo1, lo2, lo3, lo4, lo5, lo6, lo7, lo8⟩, ⟨hi1, hi2, hi3, hi4, hi5, hi6, hi7, hi8⟩, ⟨d1, d2, d3, d4, d5, d6, d7, d8, d9, d10, d11, d12, d13, d14, d15, d16, d17, d18, d19, d20, d21, d22, d23, d24, d25, d26, d27, d28⟩, gp, go, gi, ge, g0, g1, g2, g3⟩ := id hb
    constructor <;> (simp only [NE]; omega)
  have hm : takeB b slot units = if b.heads 3 = [] then (if runOf b.pages 1 < 0 then (b, 2, 0) else (goTake (carve b (runOf b.pages 1) 3) slot 3, 0, at_ ((carve b (runOf b.pages 1) 3).heads 3) 0)) else (goTake b slot 3, 0, at_ (b.heads 3) 0) := by
    unfold takeB goTake; simp only [hk]; rw [if_neg (by omega), if_neg (by omega)]; rfl
  have hf0 : ∀ y, y < σ.n → ((σ.push ⟨[.int .i64 b.slots, .sl p 0 b.pages.length 1, .sl h0 0 (b.heads 0).length 1, .sl h1 0 (b.heads 1).length 1, .sl h2 0 (b.heads 2).length 1, .sl h3 0 (b.heads 3).length 1, .sl o 0 b.owner.length 1, .sl i 0 b.inn.length 1, .sl e 0 b.epoch.length 1], true⟩).push ⟨[.int .i64 0, .nils, .nils, .nils, .nils, .nils, .nils, .nils, .nils], true⟩).get y = σ.get y := by intro y hy; rw [push_get_lt (by simp; omega), push_get_lt hy]
  obtain ⟨⟨lo1, lo2, lo3, lo4, lo5, lo6, lo7, lo8⟩, ⟨hi1, hi2, hi3, hi4, hi5, hi6, hi7, hi8⟩, ⟨d1, d2, d3, d4, d5, d6, d7, d8, d9, d10, d11, d12, d13, d14, d15, d16, d17, d18, d19, d20, d21, d22, d23, d24, d25, d26, d27, d28⟩, gp, go, gi, ge, g0, g1, g2, g3⟩ := id hb
  obtain ⟨n, hn⟩ : ∃ n, (b.heads 3).length = n := ⟨_, rfl⟩
  simp only [bO, bV, hn]
  by_cases hE : b.heads 3 = []
  · have hn0 : n = 0 := by rw [← hn, hE]; rfl
    subst hn0
    have hbO : bO b p o i e h0 h1 h2 h3 = .agg [.int .i64 b.slots, .sl p 0 b.pages.length 1, .sl h0 0 (b.heads 0).length 1, .sl h1 0 (b.heads 1).length 1, .sl h2 0 (b.heads 2).length 1, .sl h3 0 0 1, .sl o 0 b.owner.length 1, .sl i 0 b.inn.length 1, .sl e 0 b.epoch.length 1] := by simp only [bO, bV, hn]
    rw [hn] at hv
    have hrr := runOf_rng b.pages 1
    obtain ⟨r, hr⟩ : ∃ r, runOf b.pages 1 = r := ⟨_, rfl⟩
    rw [hr] at hrr hm
    by_cases hr0 : r < 0
    · have hT : takeB b slot units = (b, 2, 0) := by rw [hm, if_pos hE, if_pos hr0]
      simp (config := {contextual := true, maxSteps := 1000000}) (disch := first | exact dB | fail) [go_sem, envOf, wrap_i64, int_lt, -Int.not_le, -Int.not_lt, Bool.decide_and, Bool.decide_or, and_assoc, Bool.and_assoc, Bool.or_assoc, Prod.exists, Prod.forall, -List.map_set, set_put, hk, hr, hr0]
      repeat refine Alt.mk ?_
      rw [hT]
      refine ⟨bO b p o i e h0 h1 h2 h3, by rw [hbO], BkR.r hb' (by intro y hy; rw [push_get_lt (by simp; omega), push_get_lt hy]) (by simp; omega)⟩
    · have hr1 : 0 ≤ r := by omega
      have hT : takeB b slot units = (goTake (carve b r 3) slot 3, 0, at_ ((carve b r 3).heads 3) 0) := by rw [hm, if_pos hE, if_neg hr0]
      simp (config := {contextual := true, maxSteps := 1000000}) (disch := first | exact dB | fail) [go_sem, envOf, wrap_i64, int_lt, -Int.not_le, -Int.not_lt, Bool.decide_and, Bool.decide_or, and_assoc, Bool.and_assoc, Bool.or_assoc, Prod.exists, Prod.forall, -List.map_set, set_put, hk, hr, hr0]
      repeat refine Alt.mk ?_
      rw [← hbO]
      refine callP_use (zCarve3_fn _ b n0 p o i e h0 h1 h2 h3 r (hb'.frame (by intro y hy; rw [push_get_lt (by simp; omega), push_get_lt hy]) (by simp; omega)) hs (by omega) (by omega) (by omega)) ?_
      rintro v τ hnn ⟨q, rfl, hB, hf, hn2, hqq⟩
      have hgr := hf (σ.n + 1) (by simp) hout
      have hgb := hf σ.n (by simp only [push_n']; omega) hout0
      rw [get_push_eq _ (by simp)] at hgr
      rw [push_get_lt (by simp), get_push_eq _ rfl] at hgb
      simp only [push_n'] at hn2 hqq
      have hq1 : NE q σ.n ∧ NE q (σ.n + 1) := by simp only [NE]; omega
      obtain ⟨hq1, hq2⟩ := hq1
      have hC : (carve b r 3).heads 3 = carveL r 3 := by simp [carve, setH, hE]
      have hCL : carveL r 3 = [r * 8 + ((0 : Nat) : Int) * ((8 : Nat) : Int)] := by rw [carveL_eq r 3 8 rfl]; rfl
      have hCl : (carveL r 3).length = 1 := by rw [hCL]; rfl
      have hat : at_ (carveL r 3) 0 = r * 8 := by rw [hCL]; simp [at_]
      have gq := hB.g3
      have gow := hB.go
      rw [hC] at gq
      have go' : (carve b r 3).owner = b.owner := rfl
      rw [go'] at gow
      have g00 : ((carveL r 3).map (AV.int .i64))[0]? = some (.int .i64 (r * 8)) := by rw [← hat]; exact map_get (a := 0) (by omega) (by rw [hCl]; omega)
      have g0e : ∀ h, (carveL r 3)[0]'h = r * 8 := fun h => by rw [← hat]; simp only [at_, Int.toNat_zero]; rw [List.getD_eq_getElem?_getD, List.getElem?_eq_getElem h]; rfl
      have hoi : 0 ≤ r * 8 := by omega
      have hoi2 : ¬ (b.owner.length : Int) ≤ r * 8 := by omega
      have hbx : bO (carve b r 3) p o i e h0 h1 h2 q = .agg [.int .i64 b.slots, .sl p 0 b.pages.length 1, .sl h0 0 (b.heads 0).length 1, .sl h1 0 (b.heads 1).length 1, .sl h2 0 (b.heads 2).length 1, .sl q 0 1 1, .sl o 0 b.owner.length 1, .sl i 0 b.inn.length 1, .sl e 0 b.epoch.length 1] := by simp [carve, put_len', setH, hE, hCl]
      rw [hbx]
      simp (config := {contextual := true, maxSteps := 1000000}) (disch := first | exact dB | fail) [go_sem, envOf, wrap_i64, int_lt, -Int.not_le, -Int.not_lt, Bool.decide_and, Bool.decide_or, and_assoc, Bool.and_assoc, Bool.or_assoc, Prod.exists, Prod.forall, -List.map_set, set_put, -List.getElem?_map, hgr, hgb, gq, gow, g00, g0e, hoi, hoi2]
      rw [hT]
      have hnC : (carve b r 3).heads 3 ≠ [] := by rw [hC, hCL]; simp
      refine ⟨_, ?_, goTake_R (τ := τ) 3 (by omega) hB hnC ?_ ?_ (by simp only [set_n']; omega) (by simp only [set_n']; omega) ?_ ?_⟩
      · simp [hC, hCl, hat, carve, setH, put_len', hE]
      · rw [hC, hat, go']; (first | exact cGT | fail)
      · intro y hy y1 y2
        rcases y2 with y2 | y2 | y2 | y2 | y2 | y2 | y2 <;> (rw [y2] at y1 ⊢; simp (disch := first | exact NE.ne (by assumption) | exact NE.sym (by assumption) | omega) only [set_get_ne])
      · intro y hy hoy
        rw [set_get_ne (by omega), set_get_ne hoy.o.ne, set_get_ne (by omega), hf y (by simp only [push_n']; omega) hoy, push_get_lt (by simp only [push_n']; omega), push_get_lt hy]
      · intro y hy ho
        obtain ⟨z1, z2, z3, z4, z5, z6, z7, z8⟩ := ho
        refine ⟨?_, ?_, ?_, ?_, ?_, ?_, ?_, ?_⟩ <;> first | assumption | (rcases hqq with h | h; (rw [h]; assumption); (simp only [NE]; omega))
  · have hT : takeB b slot units = (goTake b slot 3, 0, at_ (b.heads 3) 0) := by rw [hm, if_neg hE]
    have hE1 : ¬ (b.heads 3).length = 0 := fun h => hE (List.eq_nil_of_length_eq_zero h)
    have hE0 : ¬ n = 0 := by omega
    have hE2 : 1 ≤ (n : Int) := by omega
    have hli := (hbk.2.1 3 (by omega)).2 0 (by omega) (by omega)
    have g00 : ((b.heads 3).map (AV.int .i64))[0]? = some (.int .i64 (at_ (b.heads 3) 0)) := map_get (a := 0) (by omega) (by omega)
    obtain ⟨u, hu⟩ : ∃ u, at_ (b.heads 3) 0 = u := ⟨_, rfl⟩
    have g0e : ∀ h, (b.heads 3)[0]'h = u := fun h => by rw [← hu]; simp only [at_, Int.toNat_zero]; rw [List.getD_eq_getElem?_getD, List.getElem?_eq_getElem h]; rfl
    rw [hu] at hli g00
    have hoi : 0 ≤ u := hli.1
    have hoi2 : ¬ (b.owner.length : Int) ≤ u := by omega
    simp (config := {contextual := true, maxSteps := 1000000}) (disch := first | exact dB | fail) [go_sem, envOf, wrap_i64, int_lt, -Int.not_le, -Int.not_lt, Bool.decide_and, Bool.decide_or, and_assoc, Bool.and_assoc, Bool.or_assoc, Prod.exists, Prod.forall, -List.map_set, set_put, -List.getElem?_map, hk, hE0, g3, go, g00, g0e, hoi, hoi2]
    repeat refine Alt.mk ?_
    rw [hT]
    have hoN : o < σ.n := hi2
    subst hn
    refine ⟨_, ?_, goTake_R (τ := σ) 3 (by omega) hb' hE ?_ ?_ (by simp only [set_n', push_n']; omega) (by simp only [set_n', push_n']; omega) ?_ (fun _ _ h => h)⟩
    · simp [hu]
    · rw [hu]; (first | exact cGT | fail)
    · intro y hy y1 y2
      rw [push_get_lt (by simp only [push_n', set_n']; omega), push_get_lt (by simp only [set_n']; omega), set_get_ne y1.ne]
    · intro y hy hoy
      rw [push_get_lt (by simp only [push_n', set_n']; omega), push_get_lt (by simp only [set_n']; omega), set_get_ne hoy.o.ne]
/-- Whatever is asked for. -/
theorem zTake_fn (σ : AHeap) (b : Bk) (n0 p o i e h0 h1 h2 h3 : Nat) (slot units : Int) (hb : BkO n0 σ b p o i e h0 h1 h2 h3) (hs : BkS b) (hbk : bookP b) (hsl : 0 ≤ slot ∧ slot ≤ 10) :
    Fn Tryz.prog 189 [bO b p o i e h0 h1 h2 h3, .int .i64 slot, .int .i64 units] σ fun x τ => BkT σ τ p o i e h0 h1 h2 h3 (takeB b slot units) x := by
  have hk := bookKind_lt units
  by_cases h : bookKind units < 0
  · exact zTakeN_fn σ b n0 p o i e h0 h1 h2 h3 slot units hb hs h
  · have : bookKind units = 0 ∨ bookKind units = 1 ∨ bookKind units = 2 ∨ bookKind units = 3 ∨ bookKind units = 4 := by omega
    rcases this with h | h | h | h | h
    · exact zTake0_fn σ b n0 p o i e h0 h1 h2 h3 slot units hb hs hbk hsl h
    · exact zTake1_fn σ b n0 p o i e h0 h1 h2 h3 slot units hb hs hbk hsl h
    · exact zTake2_fn σ b n0 p o i e h0 h1 h2 h3 slot units hb hs hbk hsl h
    · exact zTake3_fn σ b n0 p o i e h0 h1 h2 h3 slot units hb hs hbk hsl h
    · exact zTakeP_fn σ b n0 p o i e h0 h1 h2 h3 slot units hb hs hbk hsl h
end AH
