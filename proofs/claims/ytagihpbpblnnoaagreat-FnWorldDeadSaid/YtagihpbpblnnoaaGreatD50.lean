import Derived.Test.YtagihpbpblnnoaaGreatQ30
import Derived.Test.YtagihpbpblnnoaaGreatD49
import Derived.Test.YtagihpbpblnnoaaGreatD47
set_option linter.all false
namespace AH
open Go Go.Proofs Ho
set_option maxRecDepth 20000
set_option maxHeartbeats 16000000
theorem magic_iff {w : Int} (hw : isW w) : cstamp w = 201115 ↔ w = pack (cval w % 8 + 8 * (cval w / 8 % 8) + 64 * (cval w / 64)) 201115 := by
  have h := cval_range (w := w)
  constructor
  · intro hs
    unfold pack clamp
    unfold cstamp at hs
    unfold cval at *
    unfold isW at hw
    omega
  · intro h'
    rw [h', cstamp_pack]
    unfold clamp
    omega
theorem platCheck_eq {ws : List Int} (hW : ∀ w ∈ ws, isW w) : platCheck ws = check ws := by
  have hw := at_isW hW 0
  have hm := magic_iff hw
  unfold platCheck cfgOf check whole
  by_cases h0 : ws = []
  · subst h0
    simp
  simp only [h0, false_or, if_false]
  by_cases hs : cstamp (at_ ws 0) = 201115
  · have hm' := hm.1 hs
    simp only [hs, ne_eq, not_true_eq_false, if_false]
    by_cases hok : Cfg.ok ⟨cval (at_ ws 0) % 8, cval (at_ ws 0) / 8 % 8, cval (at_ ws 0) / 64⟩
    · have hmg : at_ ws 0 = magic ⟨cval (at_ ws 0) % 8, cval (at_ ws 0) / 8 % 8, cval (at_ ws 0) / 64⟩ := hm'
      by_cases hl : (ws.length : Int) = (Cfg.mk (cval (at_ ws 0) % 8) (cval (at_ ws 0) / 8 % 8) (cval (at_ ws 0) / 64)).size
      · rw [if_pos ⟨by simpa using hok, hl⟩, if_pos ⟨hok, hmg, hl⟩]
      · rw [if_neg (fun h => hl h.2), if_neg (fun h => hl h.2.2)]
    · rw [if_neg (fun h => hok (by simpa using h.1)), if_neg (fun h => hok h.1)]
  · have hmg : ¬ at_ ws 0 = magic ⟨cval (at_ ws 0) % 8, cval (at_ ws 0) / 8 % 8, cval (at_ ws 0) / 64⟩ := fun h => hs (hm.2 h)
    simp only [hs, ne_eq, not_false_eq_true, if_true]
    rw [if_neg (fun h => by cases h.1), if_neg (fun h => hmg h.2.1)]
theorem iCheck_fn (σ : AHeap) (j nw : Nat) (ws : List Int) (hj : j < σ.n) (hw : σ.get j = some ⟨ws.map (.int .u64), true⟩) (hl : ws.length = nw) (hW : ∀ w ∈ ws, isW w) : Fn Tryz.prog 29 [.sl j 0 nw 1] σ fun x τ => x = .tup [cV (check ws).1.slots (check ws).1.pages (check ws).1.lease, .bool (check ws).2] ∧ τ = σ := by
  subst hl
  have := platCheck_fn σ j 0 ws (LAt.own hj hw) hW
  rw [platCheck_eq hW] at this
  exact this
@[go_sem] theorem iCheck_s (σ : AHeap) (j nw : Nat) (ws : List Int) (hj : j < σ.n) (hw : σ.get j = some ⟨ws.map (.int .u64), true⟩) (hl : ws.length = nw) (hW : ∀ w ∈ ws, isW w) (kk_ : AV → AHeap → Prop) : @callP Tryz.prog (.fn 29 [] []) [.sl j 0 nw 1] σ ⟨kk_⟩ = @Alt (kk_ (.tup [cV (check ws).1.slots (check ws).1.pages (check ws).1.lease, .bool (check ws).2]) σ) ⟨@callP Tryz.prog (.fn 29 [] []) [.sl j 0 nw 1] σ ⟨kk_⟩⟩ := callP_alt (iCheck_fn σ j nw ws hj hw hl hW)
theorem LenIs.isL {v : AV} {n : Nat} (h : LenIs v n) : IsL v := by
  rcases h with ⟨rfl, _⟩ | ⟨i, k, e, rfl⟩
  · exact isL_nils
  · exact isL_sl _ _ _ _
theorem iClo_fn (σ : AHeap) (c : Cfg) (g : Guest) (sv pv : AV) (cb : Nat) (hcb : σ.get cb = some ⟨[.int .i64 c.slots, .int .i64 c.pages, .int .i64 c.lease], true⟩) (hcn : cb < σ.n) (hs : LenIs sv g.snap.length) (hp : LenIs pv g.plan.length) (hc : 0 ≤ c.slots ∧ c.slots ≤ 10 ∧ 0 ≤ c.pages ∧ c.pages ≤ 10) : Fn Tryz.prog 121 [.agg (gV g sv pv), .ptr cb 0] σ fun x τ => x = .bool (!decide (guestP c g)) ∧ τ = σ := by
  refine fn_pure ord0 mixed Tryz.func121 (by kernel_rfl) rfl (by kernel_rfl) (by rfl) ?_
  have i1 := hs.isL
  have i2 := hp.isL
  simp (config := {contextual := true, maxSteps := 1000000}) (disch := first | exact dB | fail) [go_sem, envOf, wrap_i64, int_lt, -Int.not_le, -Int.not_lt, Bool.decide_and, Bool.decide_or, and_assoc, Bool.and_assoc, Bool.or_assoc, Prod.exists, Prod.forall, -List.map_set, set_put, hcb]
theorem iClo_c (σ : AHeap) (c : Cfg) (g : Guest) (sv pv : AV) (cb : Nat) (hcb : σ.get cb = some ⟨[.int .i64 c.slots, .int .i64 c.pages, .int .i64 c.lease], true⟩) (hcn : cb < σ.n) (hs : LenIs sv g.snap.length) (hp : LenIs pv g.plan.length) (hc : 0 ≤ c.slots ∧ c.slots ≤ 10 ∧ 0 ≤ c.pages ∧ c.pages ≤ 10) (kk_ : AV → AHeap → Prop) :
    @callP Tryz.prog (.fn 121 [] [.ptr cb 0]) [.agg (gV g sv pv)] σ ⟨kk_⟩ = @Alt (kk_ (.bool (!decide (guestP c g))) σ) ⟨@callP Tryz.prog (.fn 121 [] [.ptr cb 0]) [.agg (gV g sv pv)] σ ⟨kk_⟩⟩ := by
  refine propext ⟨fun hh => .inr hh, fun hh => ?_⟩
  rcases hh with hh | hh
  · rw [callP_clo]; exact (iClo_fn σ c g sv pv cb hcb hcn hs hp hc).eq hh
  · exact hh
attribute [go_sem] iClo_c
def allP (c : Cfg) (gs : List (Guest × AV × AV)) : Prop := ∀ g ∈ gs.map (·.1), guestP c g
noncomputable instance (c : Cfg) (gs : List (Guest × AV × AV)) : Decidable (allP c gs) := Classical.propDecidable _
theorem iIdx_fn (σ : AHeap) (c : Cfg) (cb gb m : Nat) (gs : List (Guest × AV × AV)) (hcb : σ.get cb = some ⟨[.int .i64 c.slots, .int .i64 c.pages, .int .i64 c.lease], true⟩) (hcn : cb < σ.n) (hc : 0 ≤ c.slots ∧ c.slots ≤ 10 ∧ 0 ≤ c.pages ∧ c.pages ≤ 10) (h0 : gs.length = m) (hm : m ≤ 1000) (h4 : σ.get gb = some ⟨gCells gs, true⟩) (hL : ∀ x ∈ gs, LenIs x.2.1 x.1.snap.length ∧ LenIs x.2.2 x.1.plan.length) :
    Fn Tryz.prog 164 [.sl gb 0 m 26, .fn 121 [] [.ptr cb 0]] σ fun x τ => ∃ r : Int, x = .int .i64 r ∧ (0 ≤ r ↔ ¬ allP c gs) ∧ τ = σ := by
  generalize hG : (fun (x : AV) (τ : AHeap) => ∃ r : Int, x = AV.int .i64 r ∧ (0 ≤ r ↔ ¬ allP c gs) ∧ τ = σ) = GG
  have fin : ∀ r : Int, (0 ≤ r ↔ ¬ allP c gs) → GG (.int .i64 r) σ := fun r h => by rw [← hG]; exact ⟨r, rfl, h, rfl⟩
  clear hG
  refine fn_of ord0 mixed Tryz.func164 (by kernel_rfl) rfl (by kernel_rfl) ?_
  simp (config := {contextual := true, maxSteps := 1000000}) (disch := first | exact dB | fail) [go_sem, envOf, wrap_i64, int_lt, -Int.not_le, -Int.not_lt, Bool.decide_and, Bool.decide_or, and_assoc, Bool.and_assoc, Bool.or_assoc, Prod.exists, Prod.forall, -List.map_set, set_put]
  (repeat refine Alt.mk ?_)
  refine aloops_lt (fun R_ env τ => ∃ (u : Nat), env 0 = .sl gb 0 m 26 ∧ env 1 = .fn 121 [] [.ptr cb 0] ∧ env 7 = .int .i64 m ∧ env 8 = .int .i64 u ∧ σ = τ ∧ R_ (m - u) ∧ (u ≤ m ∧ (∀ k, k < u → ∀ x, gs[k]? = some x → guestP c x.1))) (by rintro R_ env τ ⟨u, e0, e1, e7, e8, h_, hR_, hp⟩; exact ⟨_, hR_, u, e0, e1, e7, e8, h_, rfl, hp⟩) ⟨0, by first | rfl | simp [put_get, *], by first | rfl | simp [put_get, *], by first | rfl | simp [put_get, *], by first | rfl | simp [put_get, *], rfl, trivial, ?_⟩ ?_
  rotate_left
  rintro m_ env τ ⟨u, e0, e1, e7, e8, rfl, rfl, hp⟩
  · obtain ⟨um, hI⟩ := hp
    by_cases hu : u < m
    · have hu2 : ¬ m ≤ u := by omega
      obtain ⟨⟨g, sv, pv⟩, hx⟩ : ∃ x, gs[u]? = some x := ⟨gs[u]'(by omega), by simp⟩
      have hsub := gCells_sub hx
      have hlen : u * 26 + 26 ≤ (gCells gs).length := by rw [gCells_len]; omega
      have hmem := List.mem_of_getElem? hx
      obtain ⟨l1, l3⟩ := hL _ hmem
      have i1 := l1.isL
      have i2 := l3.isL
      by_cases hg : guestP c g
      · simp (config := {contextual := true, maxSteps := 1000000}) (disch := first | exact dB | fail) [go_sem, envOf, wrap_i64, int_lt, -Int.not_le, -Int.not_lt, Bool.decide_and, Bool.decide_or, and_assoc, Bool.and_assoc, Bool.or_assoc, Prod.exists, Prod.forall, -List.map_set, set_put, e0, e1, e7, e8, h4, hsub, hlen, hu, hu2, hg, hcb]
        (repeat refine Alt.mk ?_)
        refine ⟨u + 1, by omega, by omega, by omega, ?_⟩
        intro k hk a sv' pv' hka
        rcases Nat.lt_or_ge k u with hk' | hk'
        · exact hI k hk' _ hka
        · have : k = u := by omega
          subst this
          rw [hx] at hka
          cases hka
          exact hg
      · have fin' := fin u ⟨fun _ h => hg (h g (List.mem_map.2 ⟨_, hmem, rfl⟩)), fun _ => by omega⟩
        simp (config := {contextual := true, maxSteps := 1000000}) (disch := first | exact dB | fail) [go_sem, envOf, wrap_i64, int_lt, -Int.not_le, -Int.not_lt, Bool.decide_and, Bool.decide_or, and_assoc, Bool.and_assoc, Bool.or_assoc, Prod.exists, Prod.forall, -List.map_set, set_put, e0, e1, e7, e8, h4, hsub, hlen, hu, hu2, hg, hcb]
        (repeat refine Alt.mk ?_)
        exact fin'
    · have hu2 : m ≤ u := by omega
      have fin' := fin (-1) ⟨fun h => by omega, fun h => absurd (fun g hg => by
        obtain ⟨x, hx, rfl⟩ := List.mem_map.1 hg
        obtain ⟨k, hk, hkx⟩ := List.mem_iff_getElem.1 hx
        exact hI k (by omega) x (by rw [List.getElem?_eq_getElem hk, hkx])) h⟩
      simp (config := {contextual := true, maxSteps := 1000000}) (disch := first | exact dB | fail) [go_sem, envOf, wrap_i64, int_lt, -Int.not_le, -Int.not_lt, Bool.decide_and, Bool.decide_or, and_assoc, Bool.and_assoc, Bool.or_assoc, Prod.exists, Prod.forall, -List.map_set, set_put, e0, e1, e7, e8, hu, hu2]
      (repeat refine Alt.mk ?_)
      exact fin'
  · exact ⟨Nat.zero_le _, fun k hk => by omega⟩
theorem iCont_fn (σ : AHeap) (c : Cfg) (cb gb m : Nat) (gs : List (Guest × AV × AV)) (hcb : σ.get cb = some ⟨[.int .i64 c.slots, .int .i64 c.pages, .int .i64 c.lease], true⟩) (hcn : cb < σ.n) (hc : 0 ≤ c.slots ∧ c.slots ≤ 10 ∧ 0 ≤ c.pages ∧ c.pages ≤ 10) (h0 : gs.length = m) (hm : m ≤ 1000) (h4 : σ.get gb = some ⟨gCells gs, true⟩) (hL : ∀ x ∈ gs, LenIs x.2.1 x.1.snap.length ∧ LenIs x.2.2 x.1.plan.length) : Fn Tryz.prog 120 [.sl gb 0 m 26, .fn 121 [] [.ptr cb 0]] σ fun x τ => x = .bool (!decide (allP c gs)) ∧ τ = σ := by
  refine fn_pure ord0 mixed Tryz.func120 (by kernel_rfl) rfl (by kernel_rfl) (by rfl) ?_
  generalize hQ : decide (allP c gs) = Q
  have hQ' : (Q = true) = allP c gs := by rw [← hQ]; simp
  clear hQ
  simp (config := {contextual := true, maxSteps := 1000000}) (disch := first | exact dB | fail) [go_sem, envOf, wrap_i64, int_lt, -Int.not_le, -Int.not_lt, Bool.decide_and, Bool.decide_or, and_assoc, Bool.and_assoc, Bool.or_assoc, Prod.exists, Prod.forall, -List.map_set, set_put]
  (repeat refine Alt.mk ?_)
  refine callP_use (iIdx_fn σ c cb gb m gs hcb hcn hc h0 hm h4 hL) ?_
  rintro x τ hn ⟨r, rfl, hr, rfl⟩
  simp (config := {contextual := true, maxSteps := 1000000}) (disch := first | exact dB | fail) [go_sem, envOf, wrap_i64, int_lt, -Int.not_le, -Int.not_lt, Bool.decide_and, Bool.decide_or, and_assoc, Bool.and_assoc, Bool.or_assoc, Prod.exists, Prod.forall, -List.map_set, set_put]
  (repeat refine Alt.mk ?_)
  have hr' : (0 ≤ r) ↔ ¬ (Q = true) := by rw [hQ']; exact hr
  show decide (0 ≤ r) = !Q
  cases Q <;> simp at hr' ⊢ <;> omega
@[go_sem] theorem iCont_s (σ : AHeap) (c : Cfg) (cb gb m : Nat) (gs : List (Guest × AV × AV)) (hcb : σ.get cb = some ⟨[.int .i64 c.slots, .int .i64 c.pages, .int .i64 c.lease], true⟩) (hcn : cb < σ.n) (hc : 0 ≤ c.slots ∧ c.slots ≤ 10 ∧ 0 ≤ c.pages ∧ c.pages ≤ 10) (h0 : gs.length = m) (hm : m ≤ 1000) (h4 : σ.get gb = some ⟨gCells gs, true⟩) (hL : ∀ x ∈ gs, LenIs x.2.1 x.1.snap.length ∧ LenIs x.2.2 x.1.plan.length) (kk_ : AV → AHeap → Prop) : @callP Tryz.prog (.fn 120 [] []) [.sl gb 0 m 26, .fn 121 [] [.ptr cb 0]] σ ⟨kk_⟩ = @Alt (kk_ (.bool (!decide (allP c gs))) σ) ⟨@callP Tryz.prog (.fn 120 [] []) [.sl gb 0 m 26, .fn 121 [] [.ptr cb 0]] σ ⟨kk_⟩⟩ := callP_alt (iCont_fn σ c cb gb m gs hcb hcn hc h0 hm h4 hL)
theorem iIdx0_fn (σ : AHeap) (f : AV) : Fn Tryz.prog 164 [.nils, f] σ fun x τ => x = .int .i64 (-1) ∧ τ = σ := by
  refine fn_pure ord0 mixed Tryz.func164 (by kernel_rfl) rfl (by kernel_rfl) (by rfl) ?_
  simp (config := {contextual := true, maxSteps := 1000000}) (disch := first | exact dB | fail) [go_sem, envOf, wrap_i64, int_lt, -Int.not_le, -Int.not_lt, Bool.decide_and, Bool.decide_or, and_assoc, Bool.and_assoc, Bool.or_assoc, Prod.exists, Prod.forall, -List.map_set, set_put]
  (repeat refine Alt.mk ?_)
  refine ⟨1, ?_⟩
  simp (config := {contextual := true, maxSteps := 1000000}) (disch := first | exact dB | fail) [go_sem, envOf, wrap_i64, int_lt, -Int.not_le, -Int.not_lt, Bool.decide_and, Bool.decide_or, and_assoc, Bool.and_assoc, Bool.or_assoc, Prod.exists, Prod.forall, -List.map_set, set_put, aloop_s]
@[go_sem] theorem iIdx0_s (σ : AHeap) (f : AV) (kk_ : AV → AHeap → Prop) : @callP Tryz.prog (.fn 164 [] []) [.nils, f] σ ⟨kk_⟩ = @Alt (kk_ (.int .i64 (-1)) σ) ⟨@callP Tryz.prog (.fn 164 [] []) [.nils, f] σ ⟨kk_⟩⟩ := callP_alt (iIdx0_fn σ f)
theorem iCont0_fn (σ : AHeap) (f : AV) : Fn Tryz.prog 120 [.nils, f] σ fun x τ => x = .bool false ∧ τ = σ := by
  refine fn_pure ord0 mixed Tryz.func120 (by kernel_rfl) rfl (by kernel_rfl) (by rfl) ?_
  simp (config := {contextual := true, maxSteps := 1000000}) (disch := first | exact dB | fail) [go_sem, envOf, wrap_i64, int_lt, -Int.not_le, -Int.not_lt, Bool.decide_and, Bool.decide_or, and_assoc, Bool.and_assoc, Bool.or_assoc, Prod.exists, Prod.forall, -List.map_set, set_put]
@[go_sem] theorem iCont0_s (σ : AHeap) (f : AV) (kk_ : AV → AHeap → Prop) : @callP Tryz.prog (.fn 120 [] []) [.nils, f] σ ⟨kk_⟩ = @Alt (kk_ (.bool false) σ) ⟨@callP Tryz.prog (.fn 120 [] []) [.nils, f] σ ⟨kk_⟩⟩ := callP_alt (iCont0_fn σ f)
theorem iWOk_fn (σ : AHeap) (lo : Nat) (B : Int) (j : Nat) (v : AV) (gb : Nat) (ws : List Int) (gs : List (Guest × AV × AV)) (h : WBt σ lo B j v gb ws gs) :
    Fn Tryz.prog 55 [.agg [.sl j 0 ws.length 1, v]] σ fun x τ => x = .bool (decide (worldP ws (gs.map (·.1)))) ∧ τ = σ := by
  refine fn_pure ord0 mixed Tryz.func55 (by kernel_rfl) rfl (by kernel_rfl) (by rfl) ?_
  obtain ⟨hj, hw, lj, lg, W, len, l2, m7, hv, G, hB0⟩ := h
  obtain ⟨⟨r1, r2⟩, ⟨r3, r4⟩, r5, r6⟩ := check_rng ws
  generalize hb : decide (worldP ws (gs.map (·.1))) = b
  by_cases hc : (check ws).2 = true
  · cases hv with
    | none =>
      have hbt : b = true := by rw [← hb]; exact decide_eq_true ⟨hc, by simp, by simp⟩
      subst hbt
      simp (config := {contextual := true, maxSteps := 1000000}) (disch := first | exact dB | fail) [go_sem, envOf, wrap_i64, int_lt, -Int.not_le, -Int.not_lt, Bool.decide_and, Bool.decide_or, and_assoc, Bool.and_assoc, Bool.or_assoc, Prod.exists, Prod.forall, -List.map_set, set_put, hc]
    | @some gb m gs h0 h1 h2 h3 h4 =>
      by_cases hm6 : (m : Int) ≤ 6
      rotate_left
      · have hbf : b = false := by rw [← hb]; exact decide_eq_false (fun h => hm6 (by have := h.2.1; simp at this; omega))
        subst hbf
        simp (config := {contextual := true, maxSteps := 1000000}) (disch := first | exact dB | fail) [go_sem, envOf, wrap_i64, int_lt, -Int.not_le, -Int.not_lt, Bool.decide_and, Bool.decide_or, and_assoc, Bool.and_assoc, Bool.or_assoc, Prod.exists, Prod.forall, -List.map_set, set_put, hc, hm6]
      have hbb : b = decide (allP (check ws).1 gs) := by
        rw [← hb]
        exact decide_eq_decide.2 ⟨fun h => h.2.2, fun h => ⟨hc, by simp; omega, h⟩⟩
      have hm6' : m ≤ 6 := by omega
      clear hb
      obtain ⟨C, hC⟩ : ∃ C, (check ws).1 = C := ⟨_, rfl⟩
      rw [hC] at r1 r2 r3 r4 r5 r6 hbb
      have hL : ∀ x ∈ gs, LenIs x.2.1 x.1.snap.length ∧ LenIs x.2.2 x.1.plan.length := fun x hx => ⟨(G x hx).s.lenIs, (G x hx).p.lenIs⟩
      simp (config := {contextual := true, maxSteps := 1000000}) (disch := first | exact dB | fail) [go_sem, envOf, wrap_i64, int_lt, -Int.not_le, -Int.not_lt, Bool.decide_and, Bool.decide_or, and_assoc, Bool.and_assoc, Bool.or_assoc, Prod.exists, Prod.forall, -List.map_set, set_put, hc, hm6, hm6', hC]
      (repeat refine Alt.mk ?_)
      exact hbb.symm
  · have hbf : b = false := by rw [← hb]; exact decide_eq_false (fun h => hc h.1)
    have hc' : (check ws).2 = false := by simpa using hc
    subst hbf
    simp (config := {contextual := true, maxSteps := 1000000}) (disch := first | exact dB | fail) [go_sem, envOf, wrap_i64, int_lt, -Int.not_le, -Int.not_lt, Bool.decide_and, Bool.decide_or, and_assoc, Bool.and_assoc, Bool.or_assoc, Prod.exists, Prod.forall, -List.map_set, set_put, hc']
end AH
/- CONTRACTS OF THE PROGRAM: a world that shares nothing. -/
namespace AH
open Go Go.Proofs Ho
set_option maxRecDepth 20000
set_option maxHeartbeats 16000000
theorem iClone1_fn (σ : AHeap) (v : AV) (l : List Int) (hv : LsV .u64 σ v l) (hn : v ≠ .nils) (hl : (l.length : Int) ≤ 1000000) :
    Fn Tryz.prog 86 [v] σ fun x τ => ∃ q, x = .sl q 0 l.length 1 ∧ σ.n ≤ q ∧ q < τ.n ∧ τ.get q = some ⟨l.map (.int .u64), true⟩ ∧ ∀ y, y < σ.n → τ.get y = σ.get y := by
  refine fn_of ord0 mixed Tryz.func86 (by kernel_rfl) rfl (by kernel_rfl) ?_
  rcases hv.ex with ⟨rfl, _⟩ | ⟨i, k, rfl, hi⟩
  · exact absurd rfl hn
  simp (config := {contextual := true, maxSteps := 1000000}) (disch := first | exact dB | fail) [go_sem, envOf, wrap_i64, int_lt, -Int.not_le, -Int.not_lt, Bool.decide_and, Bool.decide_or, and_assoc, Bool.and_assoc, Bool.or_assoc, Prod.exists, Prod.forall, -List.map_set, set_put, abin]
theorem iClone0_fn (σ : AHeap)  : Fn Tryz.prog 86 [.nils] σ fun x τ => x = .nils ∧ τ = σ := by
  refine fn_pure ord0 mixed Tryz.func86 (by kernel_rfl) rfl (by kernel_rfl) (by rfl) ?_
  simp (config := {contextual := true, maxSteps := 1000000}) (disch := first | exact dB | fail) [go_sem, envOf, wrap_i64, int_lt, -Int.not_le, -Int.not_lt, Bool.decide_and, Bool.decide_or, and_assoc, Bool.and_assoc, Bool.or_assoc, Prod.exists, Prod.forall, -List.map_set, set_put, abin]
theorem iClone_fn (σ : AHeap) (v : AV) (l : List Int) (hv : LsV .u64 σ v l) (hl : (l.length : Int) ≤ 1000000) :
    Fn Tryz.prog 86 [v] σ fun x τ => ∃ v', x = v' ∧ (LsV .u64 τ v' l ∧ IsL v' ∧ ((σ.n ≤ bOf v' ∧ bOf v' < τ.n) ∨ v' = .nils) ∧ ∀ y, y < σ.n → τ.get y = σ.get y) := by
  rcases hv.ex with ⟨rfl, rfl⟩ | ⟨i, k, rfl, hi⟩
  · refine (iClone0_fn σ).use ?_
    rintro x τ hn ⟨rfl, rfl⟩
    exact ⟨_, rfl, .nil, isL_nils, .inr rfl, fun y _ => rfl⟩
  · refine (iClone1_fn σ _ l hv (by simp) hl).use ?_
    rintro x τ hn ⟨q, rfl, a1, a2, a3, a4⟩
    exact ⟨_, rfl, LsV.own a2 a3, isL_sl _ _ _ _, .inl ⟨a1, a2⟩, a4⟩
theorem iGOwn_fn (σ : AHeap) (g : Guest) (sv pv : AV) (hs : LsV .u64 σ sv g.snap) (hp : LsV .u64 σ pv g.plan) (h1 : (g.snap.length : Int) ≤ 1000000) (h2 : (g.plan.length : Int) ≤ 1000000) :
    Fn Tryz.prog 87 [.agg (gV g sv pv)] σ fun x τ => ∃ sv' pv', x = .agg (gV g sv' pv') ∧ LsV .u64 τ sv' g.snap ∧ LsV .u64 τ pv' g.plan ∧ IsL sv' ∧ IsL pv' ∧ ((σ.n ≤ bOf sv' ∧ bOf sv' < τ.n) ∨ sv' = .nils) ∧ ((σ.n ≤ bOf pv' ∧ bOf pv' < τ.n) ∨ pv' = .nils) ∧ ∀ y, y < σ.n → τ.get y = σ.get y := by
  generalize hG : (fun (x : AV) (τ : AHeap) => ∃ sv' pv', x = AV.agg (gV g sv' pv') ∧ LsV .u64 τ sv' g.snap ∧ LsV .u64 τ pv' g.plan ∧ IsL sv' ∧ IsL pv' ∧ ((σ.n ≤ bOf sv' ∧ bOf sv' < τ.n) ∨ sv' = .nils) ∧ ((σ.n ≤ bOf pv' ∧ bOf pv' < τ.n) ∨ pv' = .nils) ∧ ∀ y, y < σ.n → τ.get y = σ.get y) = GG
  have i1 := hs.isL
  have i2 := hp.isL
  refine fn_of ord87 mixed Tryz.func87 (by kernel_rfl) rfl (by kernel_rfl) ?_
  simp (config := {contextual := true, maxSteps := 1000000}) (disch := first | exact dB | fail) [go_sem, envOf, wrap_i64, int_lt, -Int.not_le, -Int.not_lt, Bool.decide_and, Bool.decide_or, and_assoc, Bool.and_assoc, Bool.or_assoc, Prod.exists, Prod.forall, -List.map_set, set_put, ord87]
  (repeat refine Alt.mk ?_)
  refine callP_gen (fun σ1 => σ1.n = σ.n + 1 + 1 ∧ (∀ y, y < σ.n → σ1.get y = σ.get y) ∧ σ1.get σ.n = some ⟨gV g sv pv, true⟩ ∧ σ1.get (σ.n + 1) = some ⟨gV Guest.zero .nils .nils, true⟩) ?_ ?_
  · exact ⟨by simp only [push_n', set_n'], by first | exact cKP | fail, by (first | exact cGT | fail), by (first | exact cGT | fail)⟩
  rintro σ1 ⟨x1, x2, x3, x4⟩
  have hs1 := hs.frame (τ := σ1) (by omega) x2
  have hp1 := hp.frame (τ := σ1) (by omega) x2
  refine callP_use (iClone_fn σ1 sv g.snap hs1 h1) ?_
  rintro sv' τ hn ⟨_, rfl, a1, a2, a3, a4⟩
  have y3 := (a4 _ (by omega)).trans x3
  have y4 := (a4 _ (by omega)).trans x4
  have hp2 := hp1.frame (τ := τ) (by omega) a4
  simp (config := {contextual := true, maxSteps := 1000000}) (disch := first | exact dB | fail) [go_sem, envOf, wrap_i64, int_lt, -Int.not_le, -Int.not_lt, Bool.decide_and, Bool.decide_or, and_assoc, Bool.and_assoc, Bool.or_assoc, Prod.exists, Prod.forall, -List.map_set, set_put, ord87, y3, y4]
  (repeat refine Alt.mk ?_)
  refine callP_use (iClone_fn τ pv g.plan hp2 h2) ?_
  rintro pv' τ2 hn2 ⟨_, rfl, b1, b2, b3, b4⟩
  have z3 := (b4 _ (by omega)).trans y3
  have z4 := (b4 _ (by omega)).trans y4
  simp (config := {contextual := true, maxSteps := 1000000}) (disch := first | exact dB | fail) [go_sem, envOf, wrap_i64, int_lt, -Int.not_le, -Int.not_lt, Bool.decide_and, Bool.decide_or, and_assoc, Bool.and_assoc, Bool.or_assoc, Prod.exists, Prod.forall, -List.map_set, set_put, ord87, z3, z4]
  (repeat refine Alt.mk ?_)
  refine ⟨y3.symm, ?_⟩
  rw [← hG]
  have e1 : ∀ y, y < σ1.n → bOf sv' ≠ y ∨ sv' = .nils := fun y hy => a3.elim (fun h => .inl (by omega)) .inr
  have e2 : ∀ y, y < σ1.n → bOf pv' ≠ y ∨ pv' = .nils := fun y hy => b3.elim (fun h => .inl (by omega)) .inr
  refine ⟨sv', pv', rfl, ((a1.frame hn2 b4).set (e1 _ (by omega))).set (e1 _ (by omega)), (b1.set (e2 _ (by omega))).set (e2 _ (by omega)), a2, b2, a3.elim (fun h => .inl ?_) .inr, b3.elim (fun h => .inl ?_) .inr, fun y hy => ?_⟩
  · simp only [set_n']; omega
  · simp only [set_n']; omega
  · rw [set_get_ne (by omega), set_get_ne (by omega), b4 y (by omega), a4 y (by omega), x2 y hy]
/-- A copy half made. -/
structure CopyI (σ : AHeap) (q z n1 : Nat) (m : Nat) (ws : List Int) (gs : List (Guest × AV × AV)) (u : Nat) (v : AV) (l : List (Guest × AV × AV)) (τ : AHeap) : Prop where
  lu : l.length = u
  um : u ≤ m
  vv : (v = .nils ∧ l = []) ∨ (∃ b, v = .sl b 0 l.length 26 ∧ 1 ≤ l.length ∧ n1 ≤ b ∧ b < τ.n ∧ τ.get b = some ⟨gCells l, true⟩ ∧ Apt b l)
  gw : τ.get z = some ⟨[.sl q 0 ws.length 1, v], true⟩
  gq : τ.get q = some ⟨ws.map (.int .u64), true⟩
  gr : τ.get (σ.n + 1) = some ⟨[.nils, .nils], true⟩
  hk : ∀ y, y < σ.n → τ.get y = σ.get y
  G : GLs τ n1 l
  mp : l.map (·.1) = (gs.take u).map (·.1)
  nn : n1 ≤ τ.n
  qz : σ.n + 1 < q ∧ q < n1 ∧ σ.n + 1 < z ∧ z < n1 ∧ NE q z
theorem CopyI.next {σ : AHeap} {q z n1 m : Nat} {ws : List Int} {gs : List (Guest × AV × AV)} {u : Nat} {v : AV} {l : List (Guest × AV × AV)} {τ τ2 τ3 : AHeap} (h : CopyI σ q z n1 m ws gs u v l τ) {g : Guest} {sv pv sv' pv' : AV} {b : Nat} (hu : u < m) (hx : gs[u]? = some (g, sv, pv))
    (c1 : τ.n ≤ τ2.n) (c2 : LsV .u64 τ2 sv' g.snap) (c3 : LsV .u64 τ2 pv' g.plan) (c4 : (τ.n ≤ bOf sv' ∧ bOf sv' < τ2.n) ∨ sv' = .nils) (c5 : (τ.n ≤ bOf pv' ∧ bOf pv' < τ2.n) ∨ pv' = .nils) (c9 : ∀ y, y < τ.n → τ2.get y = τ.get y)
    (s1 : (g.snap.length : Int) ≤ 1000000) (s2 : (g.plan.length : Int) ≤ 1000000) (hq1 : τ2.n ≤ b) (hq2 : b < τ3.n) (d1 : τ3.get b = some ⟨gCells (l ++ [(g, sv', pv')]), true⟩)
    (d2 : τ3.get z = some ⟨[.sl q 0 ws.length 1, .sl b 0 (u + 1) 26], true⟩) (d3 : ∀ y, y < τ2.n → NE y z → (NE y (bOf v) ∨ v = .nils) → τ3.get y = τ2.get y) :
    CopyI σ q z n1 m ws gs (u + 1) (.sl b 0 (u + 1) 26) (l ++ [(g, sv', pv')]) τ3 := by
  obtain ⟨lu, um, vv, gw, gq, gr, hk, G, mp, nn, qz⟩ := h
  have hv : ∀ y, y < n1 → (NE y (bOf v) ∨ v = .nils) := by
    intro y hy
    rcases vv with ⟨rfl, _⟩ | ⟨q', rfl, _, h1, _⟩
    · exact .inr rfl
    · exact .inl (by simp only [NE, bOf]; omega)
  have keep : ∀ y, y < n1 → NE y z → τ3.get y = τ.get y := fun y h1 h2 => by rw [d3 y (by omega) h2 (hv y h1), c9 y (by omega)]
  have hap : ∀ x ∈ l, ApV x.2.1 (bOf v) ∧ ApV x.2.2 (bOf v) := by
    rcases vv with ⟨rfl, rfl⟩ | ⟨q', rfl, _, _, _, _, h1⟩
    · intro x hx; cases hx
    · exact h1
  have hbv : v = .nils ∨ bOf v < τ.n := by
    rcases vv with ⟨rfl, _⟩ | ⟨q', rfl, _, _, h1, _⟩
    · exact .inl rfl
    · exact .inr h1
  have hnv : ∀ y, τ.n ≤ y → (NE y (bOf v) ∨ v = .nils) := fun y hy => by
    rcases hbv with h | h
    · exact .inr h
    · exact .inl (by simp only [NE]; omega)
  have hzz : NE q z := qz.2.2.2.2
  have new : ∀ (w : AV) (xs : List Int), LsV .u64 τ2 w xs → ((τ.n ≤ bOf w ∧ bOf w < τ2.n) ∨ w = .nils) → LsV .u64 τ3 w xs ∧ (n1 ≤ bOf w ∨ w = .nils) ∧ ApV w b := by
    intro w xs hw hc
    rcases hw.ex with ⟨rfl, rfl⟩ | ⟨i, k, rfl, hi, Bk, hb, hc'⟩
    · exact ⟨.nil, .inr rfl, .inr rfl⟩
    · rcases hc with hc | hc
      · simp only [bOf] at hc
        refine ⟨.mk' ⟨by omega, Bk, by rw [d3 i hi (by simp only [NE]; omega) (hnv i hc.1)]; exact hb, hc'⟩, .inl (by simp only [bOf]; omega), .inl (by simp only [bOf]; omega)⟩
      · cases hc
  obtain ⟨n1a, n1b, n1c⟩ := new _ _ c2 c4
  obtain ⟨n2a, n2b, n2c⟩ := new _ _ c3 c5
  refine ⟨by simp [lu], by omega, .inr ⟨b, by simp [lu], by simp, by omega, hq2, d1, ?_⟩, d2, ?_, ?_, ?_, ?_, ?_, by omega, qz⟩
  · intro x hx
    rcases List.mem_append.1 hx with h | h
    · exact ⟨Ls_ap (G x h).1 (by omega), Ls_ap (G x h).2.1 (by omega)⟩
    · obtain rfl := List.mem_singleton.1 h
      exact ⟨n1c, n2c⟩
  · rw [keep _ (by omega) hzz]; exact gq
  · rw [keep _ (by omega) (by simp only [NE]; omega)]; exact gr
  · intro y hy
    rw [keep y (by omega) (by simp only [NE]; omega)]; exact hk y hy
  · refine GLs.snoc (GLs.keep G (by omega) hap ?_) ?_
    · intro y h1 h2 h3
      rw [d3 y (by omega) (by simp only [NE]; omega) (.inl h3), c9 y h2]
    · intro x hx
      obtain rfl := List.mem_singleton.1 hx
      exact ⟨n1a, n2a, s1, s2, n1b, n2b⟩
  · rw [List.map_append, mp, List.take_add_one, hx]
    simp
theorem iOwn_fn (σ : AHeap) (lo : Nat) (B : Int) (j : Nat) (v : AV) (gb : Nat) (ws : List Int) (gs : List (Guest × AV × AV)) (h : WAt σ lo B j v gb ws gs) :
    Fn Tryz.prog 66 [.agg [.sl j 0 ws.length 1, v]] σ fun x τ => ∃ q v' q' gs', x = .agg [.sl q 0 ws.length 1, v'] ∧ gs'.map (·.1) = gs.map (·.1) ∧ WAt τ σ.n B q v' q' ws gs' ∧ (∀ y, y < σ.n → τ.get y = σ.get y) := by
  generalize hG : (fun (x : AV) (τ : AHeap) => ∃ q v' q' gs', x = AV.agg [.sl q 0 ws.length 1, v'] ∧ gs'.map (·.1) = gs.map (·.1) ∧ WAt τ σ.n B q v' q' ws gs' ∧ (∀ y, y < σ.n → τ.get y = σ.get y)) = GG
  have iv := h.isL
  obtain ⟨hj, hw, lj, lg, W, len, l2, m6, hv, G, hB⟩ := h
  have hvw := lsv_at hj hw rfl
  refine fn_of ord66 mixed Tryz.func66 (by kernel_rfl) rfl (by kernel_rfl) ?_
  simp (config := {contextual := true, maxSteps := 1000000}) (disch := first | exact dB | fail) [go_sem, envOf, wrap_i64, int_lt, -Int.not_le, -Int.not_lt, Bool.decide_and, Bool.decide_or, and_assoc, Bool.and_assoc, Bool.or_assoc, Prod.exists, Prod.forall, -List.map_set, set_put, ord66]
  (repeat refine Alt.mk ?_)
  refine callP_gen (fun σ1 => σ1.n = σ.n + 1 + 1 ∧ (∀ y, y < σ.n → σ1.get y = σ.get y) ∧ σ1.get σ.n = some ⟨[.sl j 0 ws.length 1, v], true⟩ ∧ σ1.get (σ.n + 1) = some ⟨[.nils, .nils], true⟩) ?_ ?_
  · exact ⟨by simp only [push_n', set_n'], by first | exact cKP | fail, by (first | exact cGT | fail), by (first | exact cGT | fail)⟩
  rintro σ1 ⟨x1, x2, x3, x4⟩
  refine callP_use (iClone1_fn σ1 _ ws (hvw.frame (by omega) x2) (by simp) len) ?_
  rintro x τ hn ⟨q, rfl, a1, a2, a3, a4⟩
  have y3 := (a4 _ (by omega)).trans x3
  have y4 := (a4 _ (by omega)).trans x4
  have hfr : ∀ y, y < σ.n → τ.get y = σ.get y := fun y hy => (a4 y (by omega)).trans (x2 y hy)
  cases hv with
  | none =>
    simp (config := {contextual := true, maxSteps := 1000000}) (disch := first | exact dB | fail) [go_sem, envOf, wrap_i64, int_lt, -Int.not_le, -Int.not_lt, Bool.decide_and, Bool.decide_or, and_assoc, Bool.and_assoc, Bool.or_assoc, Prod.exists, Prod.forall, -List.map_set, set_put, ord66, y3, y4]
    (repeat refine Alt.mk ?_)
    refine ⟨1, ?_⟩
    simp (config := {contextual := true, maxSteps := 1000000}) (disch := first | exact dB | fail) [go_sem, envOf, wrap_i64, int_lt, -Int.not_le, -Int.not_lt, Bool.decide_and, Bool.decide_or, and_assoc, Bool.and_assoc, Bool.or_assoc, Prod.exists, Prod.forall, -List.map_set, set_put, ord66, aloop_s, y3, y4]
    (repeat refine Alt.mk ?_)
    rw [← hG]
    have hq0 : NE q (σ.n + 1) := by simp only [NE]; omega
    refine ⟨q, .nils, q, [], rfl, rfl, ⟨by simp only [push_n', set_n']; omega, by (first | exact cGT | fail), by omega, by omega, W, len, l2, by simp, .none, by simp, hB⟩, fun y hy => ?_⟩
    rw [← hfr y hy]
    (first | exact cGT | fail)
  | @some gb m gs h0 h1 h2 h3 h4 =>
    simp (config := {contextual := true, maxSteps := 1000000}) (disch := first | exact dB | fail) [go_sem, envOf, wrap_i64, int_lt, -Int.not_le, -Int.not_lt, Bool.decide_and, Bool.decide_or, and_assoc, Bool.and_assoc, Bool.or_assoc, Prod.exists, Prod.forall, -List.map_set, set_put, ord66, y3, y4]
    (repeat refine Alt.mk ?_)
    have hz : NE q τ.n := by simp only [NE]; omega
    have hC0 : CopyI σ q τ.n (τ.n + 1) m ws gs 0 .nils [] (τ.push ⟨[.sl q 0 ws.length 1, .nils], true⟩) := by
      refine ⟨rfl, by omega, .inl ⟨rfl, rfl⟩, by (first | exact cGT | fail), by rw [push_get_lt a2]; exact a3, by rw [push_get_lt (by omega)]; exact y4, fun y hy => by rw [push_get_lt (by omega)]; exact hfr y hy, (fun x hx => nomatch hx), rfl, by simp only [push_n']; omega, by omega, by omega, by omega, by omega, hz⟩
    generalize hz7 : τ.n = z at hC0 ⊢
    generalize (τ.push ⟨[.sl q 0 ws.length 1, .nils], true⟩) = τ0 at hC0 ⊢
    have fin : ∀ (v : AV) (l : List (Guest × AV × AV)) (τ τ' : AHeap), CopyI σ q z (z + 1) m ws gs m v l τ → τ.n ≤ τ'.n → (∀ y, y < τ.n → NE y (σ.n + 1) → τ'.get y = τ.get y) → ∃ q' v' gb' gs', AV.agg [.sl q 0 ws.length 1, v] = .agg [.sl q' 0 ws.length 1, v'] ∧ gs'.map (·.1) = gs.map (·.1) ∧ WAt τ' σ.n B q' v' gb' ws gs' ∧ (∀ y, y < σ.n → τ'.get y = σ.get y) := by
      intro v l τ τ' hC x1 x2
      obtain ⟨lu, um, vv, gw, gq, gr, hk, G', mp, nn, qz1, qz2, qz3, qz4, qz5⟩ := hC
      have hmp : l.map (·.1) = gs.map (·.1) := by rw [mp, List.take_of_length_le (by omega)]
      rcases vv with ⟨rfl, rfl⟩ | ⟨b, rfl, q1, q2, q3, q4, q5⟩
      · simp at lu; omega
      · have G3 : GLs τ' (z + 1) l := by
          refine GLs.keep (q := σ.n + 1) G' x1 (fun x hx => ?_) (fun y y1 y2 y3 => x2 y y2 y3)
          obtain ⟨_, _, _, _, a5, a6⟩ := G' x hx
          exact ⟨a5.elim (fun h => .inl (by omega)) .inr, a6.elim (fun h => .inl (by omega)) .inr⟩
        refine ⟨q, _, b, l, rfl, hmp, ⟨by omega, by rw [x2 _ (by omega) (by simp only [NE]; omega)]; exact gq, by omega, by omega, W, len, l2, by omega, ?_, ?_, hB⟩, fun y hy => by rw [x2 y (by omega) (by simp only [NE]; omega)]; exact hk y hy⟩
        · rw [lu]
          exact .some lu h1 (by omega) (by simp only [NE]; omega) (by rw [x2 _ (by omega) (by simp only [NE]; omega)]; exact q4)
        · intro x hx
          obtain ⟨a1, a2, a3, a4, a5, a6⟩ := G3 x hx
          obtain ⟨e1, e2⟩ := q5 x hx
          have hgi : GI B x.1 ∧ Idl x.1 := by
            have : x.1 ∈ gs.map (·.1) := hmp ▸ List.mem_map_of_mem hx
            obtain ⟨w, hw, hwe⟩ := List.mem_map.1 this
            exact hwe ▸ ⟨(G w hw).gi, (G w hw).idl⟩
          exact ⟨hgi.1, a1, a2, a5.elim (fun h => .inl (by omega)) .inr, a6.elim (fun h => .inl (by omega)) .inr, e1, e2, a5.elim (fun h => .inl (by omega)) .inr, a6.elim (fun h => .inl (by omega)) .inr, hgi.2⟩
    clear hvw y3 y4 a3 a4 x2 x3 x4
    refine aloops_lt (fun R_ env τ => ∃ (u : Nat), ∃ (v : AV), ∃ (l : List (Guest × AV × AV)), env 1 = .ptr σ.n 0 ∧ env 2 = .ptr (σ.n + 1) 0 ∧ env 3 = .ptr z 0 ∧ env 11 = .sl gb 0 m 26 ∧ env 12 = .int .i64 m ∧ env 13 = .int .i64 u ∧ R_ (m - u) ∧ (CopyI σ q z (z + 1) m ws gs u v l τ)) (by rintro R_ env τ ⟨u, v, l, e1, e2, e3, e11, e12, e13, hR_, hC⟩; exact ⟨_, hR_, u, v, l, e1, e2, e3, e11, e12, e13, rfl, hC⟩) ⟨0, .nils, [], by first | rfl | simp [put_get, *], by first | rfl | simp [put_get, *], by first | rfl | simp [put_get, *], by first | rfl | simp [put_get, *], by first | rfl | simp [put_get, *], by first | rfl | simp [put_get, *], trivial, ?_⟩ ?_
    rotate_left 1
    rintro m_ env τ ⟨u, v, l, e1, e2, e3, e11, e12, e13, rfl, hC⟩
    · have hC1 := hC
      obtain ⟨lu, um, vv, gw, gq, gr, hk, G', mp, nn, qz1, qz2, qz3, qz4, qz5⟩ := hC
      have gg : τ.get gb = some ⟨gCells gs, true⟩ := by rw [hk gb h2]; exact h4
      have iv : IsL v := by
        rcases vv with ⟨rfl, _⟩ | ⟨b, rfl, _⟩
        · exact isL_nils
        · exact isL_sl _ _ _ _
      by_cases hu : u < m
      · have hu2 : ¬ m ≤ u := by omega
        obtain ⟨⟨g, sv, pv⟩, hx⟩ : ∃ x, gs[u]? = some x := ⟨gs[u]'(by omega), by simp⟩
        have hsub := gCells_sub hx
        have hlen : u * 26 + 26 ≤ (gCells gs).length := by rw [gCells_len]; omega
        have hmem := G _ (List.mem_of_getElem? hx)
        obtain ⟨k0, k1, k2, k3, k4, k5, k6, k7, k8, k9⟩ := hmem
        have i1 := k1.isL
        have i2 := k2.isL
        have s0 : (g.snap.length : Int) ≤ B := k0.snap
        have s0' : (g.plan.length : Int) ≤ 20 := k0.plan
        have s1 : (g.snap.length : Int) ≤ 1000000 := by omega
        have s2 : (g.plan.length : Int) ≤ 1000000 := by omega
        simp (config := {contextual := true, maxSteps := 1000000}) (disch := first | exact dB | fail) [go_sem, envOf, wrap_i64, int_lt, -Int.not_le, -Int.not_lt, Bool.decide_and, Bool.decide_or, and_assoc, Bool.and_assoc, Bool.or_assoc, Prod.exists, Prod.forall, -List.map_set, set_put, ord66, e1, e2, e3, e11, e12, e13, gw, gg, hsub, hlen, hu, hu2]
        (repeat refine Alt.mk ?_)
        refine callP_gen (fun σm => σm.n = τ.n + 1 ∧ (∀ y, y < τ.n → σm.get y = τ.get y)) ?_ ?_
        · exact ⟨by simp only [push_n'], fun y hy => push_get_lt hy⟩
        rintro σm ⟨m1, m2⟩
        have k1' := (k1.keeps hk k1.lt (by omega)).frame (τ := σm) (by omega) m2
        have k2' := (k2.keeps hk k2.lt (by omega)).frame (τ := σm) (by omega) m2
        refine callP_use (iGOwn_fn σm g sv pv k1' k2' s1 s2) ?_
        rintro x τ2 hn2 ⟨sv', pv', rfl, c2, c3, o1, o2, c4, c5, c9⟩
        have c9' : ∀ y, y < τ.n → τ2.get y = τ.get y := fun y hy => (c9 y (by omega)).trans (m2 y hy)
        have w0 : τ2.get z = some ⟨[.sl q 0 ws.length 1, v], true⟩ := (c9' _ (by omega)).trans gw
        have p1 := one_isL o1
        have p2 := one_isL o2
        have hall : (gV g sv' pv').all AV.one = true := by
          have p1' := p1
          have p2' := p2
          unfold AV.one at p1' p2'
          simp [AV.one]
          exact ⟨p1', p2'⟩
        rcases vv with ⟨rfl, rfl⟩ | ⟨b, rfl, b1, b2, b3, b4, b5⟩
        · have nx := fun b τ3 => hC1.next (τ3 := τ3) (b := b) hu hx (by omega) c2 c3 (c4.elim (fun h => .inl (by omega)) .inr) (c5.elim (fun h => .inl (by omega)) .inr) c9' s1 s2
          simp (config := {contextual := true, maxSteps := 1000000}) (disch := first | exact dB | fail) [go_sem, envOf, wrap_i64, int_lt, -Int.not_le, -Int.not_lt, Bool.decide_and, Bool.decide_or, and_assoc, Bool.and_assoc, Bool.or_assoc, Prod.exists, Prod.forall, -List.map_set, set_put, ord66, e1, e2, e3, e11, e12, e13, w0]
          (repeat refine Alt.mk ?_)
          refine ⟨gw, u + 1, by omega, by omega, _, _, nx (τ2.n + 1) _ (by omega) (by simp only [push_n', set_n']; omega) ?_ ?_ ?_⟩
          · simp only [gCells, List.nil_append, List.append_nil]
            (first | exact cGT | fail)
          · simp only [List.length_nil] at lu
            rw [← lu]
            (first | exact cGT | fail)
          · intro y y1 y2 y3
            (first | exact cGT | fail)
        · have w1 : τ2.get b = some ⟨gCells l, true⟩ := (c9' _ b3).trans b4
          have w2 : ¬ b = τ2.n := by omega
          have w3 : ¬ b = z := by omega
          have w4 : l.length ≤ 1000 := by omega
          have nx := fun b τ3 => hC1.next (τ3 := τ3) (b := b) hu hx (by omega) c2 c3 (c4.elim (fun h => .inl (by omega)) .inr) (c5.elim (fun h => .inl (by omega)) .inr) c9' s1 s2
          simp (config := {contextual := true, maxSteps := 1000000}) (disch := first | exact dB | fail) [go_sem, envOf, wrap_i64, int_lt, -Int.not_le, -Int.not_lt, Bool.decide_and, Bool.decide_or, and_assoc, Bool.and_assoc, Bool.or_assoc, Prod.exists, Prod.forall, -List.map_set, set_put, ord66, e1, e2, e3, e11, e12, e13, w0, w1, w2, w3, w4]
          (repeat refine Alt.mk ?_)
          refine ⟨gw, u + 1, by omega, by omega, _, _, nx (τ2.n + 1) _ (by omega) (by simp only [push_n', set_n', kill_n']; omega) ?_ ?_ ?_⟩
          · rw [← gCells_snoc]
            (first | exact cGT | fail)
          · rw [← lu]
            (first | exact cGT | fail)
          · intro y y1 y2 y3
            have y4 : NE y b := by
              rcases y3 with h | h
              · exact h
              · cases h
            (first | exact cGT | fail)
      · have hu' : u = m := by omega
        subst hu'
        simp (config := {contextual := true, maxSteps := 1000000}) (disch := first | exact dB | fail) [go_sem, envOf, wrap_i64, int_lt, -Int.not_le, -Int.not_lt, Bool.decide_and, Bool.decide_or, and_assoc, Bool.and_assoc, Bool.or_assoc, Prod.exists, Prod.forall, -List.map_set, set_put, ord66, e1, e2, e3, e11, e12, e13, gw, gr, gg, iv]
        (repeat refine Alt.mk ?_)
        rw [← hG]
        refine fin v l τ _ hC1 (by simp only [set_n']; omega) ?_
        intro y y1 y2
        (first | exact cGT | fail)
    · exact hC0
end AH
